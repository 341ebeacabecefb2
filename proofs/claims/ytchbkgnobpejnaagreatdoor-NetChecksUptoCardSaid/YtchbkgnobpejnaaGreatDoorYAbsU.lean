/- The framework: part of this claim. -/
import Derived.Test.YtchbkgnobpejnaaGreatDoorYAbsT
set_option linter.unusedSimpArgs false
set_option linter.unusedVariables false
namespace Go.Proofs.YtchbkgnobpejnaaGreatDoor
open Go.RowKit
section
variable [Off]
def Ahq(T:List Nat)(H:Nat→Option Ent):Nat→Option Ent:=fun id=>bif T.contains id then none else H id
def H8(T:List Nat)(H0 H:Nat→Option Ent):Prop:=∀id e,T.contains id=false→H0 id=some e→H id=some e
end
theorem Aeo{T:List Nat}{H:Nat→Option Ent}{id:Nat}{e:Ent}(h:Ahq T H id=some e):T.contains id=false∧H id=some e:=by
 unfold Ahq at h;cases hq:T.contains id with
 |true=>rw[hq]at h;cases h
 |false=>rw[hq]at h;exact⟨rfl,h⟩
section
variable [Off]
def Hr[Glob](P:Program)(T:List Nat)(H0:Nat→Option Ent):Nat→List Aa→List Aa→St→(St→Prop)→Prop
 |0,_,_,st,K=>K st
 |n+1,a::A,b::B,st,K=>wpR P [a] st (fun st'=>H8 T H0 st'.H∧Hr P T H0 n A (b::B) st' K)∧wpR P [b] st (fun st'=>H8 T H0 st'.H∧Hr P T H0 n (a::A) B st' K)
 |n+1,a::A,[],st,K=>wpR P [a] st (fun st'=>H8 T H0 st'.H∧Hr P T H0 n A [] st' K)
 |n+1,[],b::B,st,K=>wpR P [b] st (fun st'=>H8 T H0 st'.H∧Hr P T H0 n [] B st' K)
 |_+1,[],[],_,_=>False
theorem Akk[Glob]{P:Program}{T:List Nat}{H0:Nat→Option Ent}{n:Nat}{a:Aa}{A B:List Aa}{st:St}{K:St→Prop}(h:Hr P T H0 (n+1) (a::A) B st K):wpR P [a] st (fun st'=>H8 T H0 st'.H∧Hr P T H0 n A B st' K):=by
 cases B with
 |nil=>exact h
 |cons b B=>exact h.1
theorem Ak0[Glob]{P:Program}{T:List Nat}{H0:Nat→Option Ent}{n:Nat}{b:Aa}{A B:List Aa}{st:St}{K:St→Prop}(h:Hr P T H0 (n+1) A (b::B) st K):wpR P [b] st (fun st'=>H8 T H0 st'.H∧Hr P T H0 n A B st' K):=by
 cases A with
 |nil=>exact h
 |cons a A=>exact h.2
def Aqc[Glob](P:Program)(env0:Nat→V)(H0:Nat→Option Ent):List Aa→(Nat→V)→((Nat→V)→Prop)→Prop
 |[],env,K=>K env
 |r::rs,env,K=>∃u,Ak P r.op env0 H0 (fun _=>0) (16*(r.d+Off.o)) (fun v d=>v=u∧d=[])∧Aqc P env0 H0 rs (upd env r.d u) K
def Aid:ROp→Bool
 |.call _ _=>true
 |_=>false
def Ajp:Aa→Bool
 |⟨some _,none,.load _ _ _⟩=>true
 |_=>false
structure LdF(ops:Array Oper)(seg:List Aa)(s:Nat)(pe pa pb:List Nat):Prop where
 len:s+seg.length≤ops.size
 cover:∀i,i<seg.length→i∈pe∨i∈pa∨i∈pb
 lt:∀i,i∈pe∨i∈pa∨i∈pb→i<seg.length
 e:∀i r,i∈pe→seg[i]? =some r→Ajp r=true∧∀t∈r.reads,∀(j:Nat) (q:Aa),seg[j]? =some q→q.d≠t
 ea:∀i,i∈pe→i∉pa
 eb:∀i,i∈pe→i∉pb
 ab:∀i,i∈pa→i∉pb
 na:pa.Nodup
 nb:pb.Nodup
 a:∀(j k:Nat) (x y:Nat),j<k→pa[j]? =some x→pa[k]? =some y→Anc ops (s+y) (s+x)
 b:∀(j k:Nat) (x y:Nat),j<k→pb[j]? =some x→pb[k]? =some y→Anc ops (s+y) (s+x)
 inj:∀(i j:Nat) (r q:Aa),seg[i]? =some r→seg[j]? =some q→r.d=q.d→i=j
 some_:∀(i:Nat) (r:Aa),seg[i]? =some r→r.dst=some r.d∧r.guard=none
 reads:∀(i j:Nat) (r q:Aa),seg[i]? =some r→seg[j]? =some q→q.d∈r.reads→Anc ops (s+i) (s+j)
 cl:∀(i:Nat) (r:Aa),seg[i]? =some r→r.op.isE=true→Aid r.op=true
def D3(seg:List Aa)(p:List Nat):List Aa:=p.filterMap fun i=>seg[i]?
def Apw[Glob](P:Program)(seg:List Aa)(pe pa pb:List Nat)(st:St)(K:St→Prop):Prop:=
 ∃T:List Nat,N1 P (D3 seg pe) {st with H:=Ahq T st.H} fun st1=>Hr P T st.H (pa.length+pb.length) (D3 seg pa) (D3 seg pb) {st1 with H:=st.H} K
end
theorem Pz{seg:List Aa}:∀{p:List Nat},(∀i∈p,i<seg.length)→(D3 seg p).length=p.length∧∀(k x:Nat),p[k]? =some x→(D3 seg p)[k]? =seg[x]?
 |[],_=>⟨rfl,fun k x h=>by simp at h⟩
 |i::p,h=>by
  obtain⟨h1,h2⟩:=Pz (seg:=seg) (p:=p) fun j hj=>h j (ZL _ hj);have hi:=h i (XB ..);have e:D3 seg (i::p)=seg[i]::D3 seg p:=by
   unfold D3;rw[List.filterMap_cons,ZC hi]
  refine⟨by rw[e];simp[h1],fun k x hk=>?_⟩;rw[e];cases k with
  |zero=>simp at hk;subst hk;simp[hi]
  |succ k=>simp at hk ⊢;exact h2 k x hk
section
variable [Off]
theorem Ahl[Glob]{P:Program}{env0:Nat→V}{H0:Nat→Option Ent}:∀{rs:List Aa} {env:Nat→V} {K:(Nat→V)→Prop},(rs.map Aa.d).Nodup→Aqc P env0 H0 rs env K→
  ∃vals:Nat→V,(∀r∈rs,Ak P r.op env0 H0 (fun _=>0) (16*(r.d+Off.o)) (fun u d=>u=vals r.d∧d=[]))∧∃env1,K env1∧(∀r∈rs,env1 r.d=vals r.d)∧∀t,(∀r∈rs,r.d≠t)→env1 t=env t
 |[],env,K,_,h=>⟨fun _=>.any,(fun r (hr:r∈[])=>by simp at hr),env,h,(fun r (hr:r∈[])=>by simp at hr),fun t _=>rfl⟩
 |r::rs,env,K,hnd,h=>by
  obtain⟨u,h1,h2⟩:=h;rw[List.map_cons,List.nodup_cons]at hnd;obtain⟨vals,k1,env1,k2,k3,k4⟩:=Ahl hnd.2 h2;have hne:∀q∈rs,q.d≠r.d:=fun q hq e=>hnd.1 (by rw[←e];exact List.mem_map_of_mem hq);refine⟨upd vals r.d u,fun q hq=>?_,env1,k2,fun q hq=>?_,fun t ht=>?_⟩
  ·rcases XC.1 hq with rfl|hq
   ·rw[Aj];exact h1
   ·rw[Ap _ _ (hne q hq)];exact k1 q hq
  ·rcases XC.1 hq with rfl|hq
   ·rw[Aj,k4 _ (fun p hp=>hne p hp),Aj]
   ·rw[Ap _ _ (hne q hq)];exact k3 q hq
  ·rw[k4 t fun q hq=>ht q (ZL _ hq),Ap _ _ (fun e=>ht r (XB ..) e.symm)]
theorem Aca[Glob]{P:Program}{env0:Nat→V}{H0:Nat→Option Ent}{D:Value→Prop}:∀{rs:List Aa} {env:Nat→V} {K:St→Prop},(∀r∈rs,r.guard=none∧r.op.allocs=false∧r.dst=some r.d)→(∀r∈rs,∀t∈r.reads,env t=env0 t∧∀q∈rs,q.d≠t)→N1 P rs ⟨env,H0,D⟩ K→Aqc P env0 H0 rs env fun env1=>K ⟨env1,H0,D⟩
 |[],env,K,_,_,h=>h
 |r::rs,env,K,hf,hr,h=>by
  obtain⟨g1,g2,g3⟩:=hf r (XB ..);simp only[N1,K6,g1,opD,g2,Bool.false_eq_true,if_false]at h;obtain⟨u,dH,p1,p2,_,p3⟩:=Mp h;obtain rfl:=p3 g2;have p1:=D5 (env':=env0) (H':=H0) (Dz fun t ht=>((hr r (XB ..) t (by unfold Aa.reads;simp[ht])).1).symm) (fun id e he=>he) p1;refine⟨u,p1,?_⟩;have p2:N1 P rs (St.put ⟨env,H0,D⟩ r.dst u) K:=p2;rw[g3]at p2;refine Aca (fun q hq=>hf q (ZL _ hq)) (fun q hq t ht=>?_) p2;obtain⟨k1,k2⟩:=hr q (ZL _ hq) t ht;refine⟨?_,fun q' hq'=>k2 q' (ZL _ hq')⟩;rw[Ap _ _ (fun e=>k2 r (XB ..) e.symm)];exact k1
end
section
variable {P:Program} {Q:Exit→Act→World→Prop} {ops:Array Oper} {n:Nat} {g:Nat→Nat}
section
variable [Off]
end
theorem Ajf[Glob]{x:Operand}{args:List Operand}{env env':Nat→V}{H:Nat→Option Ent}{D:Value→Prop}{b:Nat}{K:V→(Nat→Option Ent)→Prop}(hx:val env' x=val env x)(ha:args.map (val env')=args.map (val env))(h:R5 P (.call x args) env H D b K):R5 P (.call x args) env' H D b K:=by
 unfold R5 Alv at h ⊢;simp only[Ej]at h ⊢;rw[hx,ha];exact h
section
variable [Off]
theorem Abx[Glob]{c:Ctx}(hn:c.n=n)(hdie:Og c Q){i:Nat}{r:Aa}{K:St→Prop}{o:Oper}{fuel:Nat}{listed:Array Bool}{st sv:St}{a:Act}{w:World}{R:Nat→Prop}{G:Nat→Option Loc}(h3:ops[i]? =some o)(hro:Bh P ops n o=some r)(hgd:r.guard=none)(hcl:r.op.isE=true→Aid r.op=true)(hw:wpR P [r] sv K)(hR:Ac c st a w R G)(hE:∀t∈r.reads,st.env t=sv.env t)(hH:st.H=sv.H)(hD:st.D=sv.D)(next:∀{u:V} {H':Nat→Option Ent},K (St.put {sv with H:=H'} r.dst u)→∀{a' w' R' G'},Ac c (St.put {st with H:=H'} r.dst u) a' w' R' G'→wpAny P .any ops Q fuel (listed.setIfInBounds i true) a' w'):wpOp P ops Q i (wpAny P .any ops Q fuel (listed.setIfInBounds i true)) a w:=by
 obtain⟨hop,hdst,hdlt,_⟩:=B9 hro;have hdn:=Jm hro hn;have hval:∀x∈r.op.looks,val st.env x=val sv.env x:=Dz fun t ht=>hE t (by unfold Aa.reads;simp[ht]);unfold wpOp;simp only[h3];have hg:gv st.env r.guard=some true:=by rw[hgd];rfl
 rw[if_pos (B7 hro hR hg)];left;simp only[wpR,K6,hgd]at hw;unfold opR at hw;split at hw
 ·rename_i hisE;have hc:=hcl hisE;obtain⟨d,gd,op⟩:=r;cases op with
  |call x args=>
   have hs:R5 P (.call x args) st.env st.H st.D (16*((Aa.mk d gd (.call x args)).d+Off.o)) (fun u H'=>K (St.put {sv with H:=H'} d u)):=by
    rw[hH,hD];refine Ajf (hval x (by simp[ROp.looks])) ?_ hw;apply List.map_congr_left;intro y hy;exact hval y (by simp[ROp.looks,hy])
   refine Ja (d:=(Aa.mk d gd (.call x args)).d+Off.o) hop hR hs (fun u H' hk x w' R' G' hR' hV=>?_) (fun v hv w' hfr=>hdie v _ w' (hR.die▸hv) hfr hR.defers);have:=hR'.put hdn hV;rw[←hdst]at *;exact next hk this
  |_=>simp[Aid]at hc
 ·have hq:∃g:Nat→Nat,(∀id,id/16=r.d+Off.o→∀l0,G id=some l0→l0.gen<g id)∧Ak P r.op sv.env sv.H g (16*(r.d+Off.o)) (Fd r sv K):=by
   refine⟨Ax G,fun id _ l0 h0=>Az h0,?_⟩;split at hw
   ·exact hw _
   ·rename_i hal;exact I6 (by simpa using hal) hw
  obtain⟨g,hgen,hq⟩:=hq;obtain⟨u,dH,p1,p2,_⟩:=Mp hq;have p1:=D5 (env':=st.env) (H':=st.H) hval (fun id e he=>by rw[hH];exact he) p1;refine Dr hop hgen hR p1 _ (fun x w' R' G' hR' hV _=>?_);have:=hR'.put hdn hV;rw[←hdst]at *;have p2:K (St.put {sv with H:=Bx sv.H dH} r.dst u):=p2;rw[←hH]at p2;exact next p2 this
end
theorem Zs{r:Aa}(h:Ajp r=true):r.guard=none∧r.op.allocs=false∧r.dst.isSome=true:=by
 obtain⟨d,gd,op⟩:=r;unfold Ajp at h;split at h
 ·rename_i heq;injection heq with h1 h2 h3
  subst h1 h2 h3;exact⟨rfl,rfl,rfl⟩
 ·cases h
section
variable [Off]
theorem An8[Glob]{c:Ctx}(hn:c.n=n)(hdie:Og c Q)(F:Pb ops){s:Nat}{seg:List Aa}{pe pa pb:List Nat}{K:St→Prop}(L:LdF ops seg s pe pa pb)(hcut:Ip (Bn ops) (s+seg.length)=true)(hres:∀(i:Nat) (o:Oper) (r:Aa),ops[s+i]? =some o→seg[i]? =some r→Bh P ops n o=some r)(hab:pa.length+pb.length+pe.length=seg.length)(hne:pe.Nodup)(hnext:Nh P c ops Q (s+seg.length) K):Nh P c ops Q s (fun st=>Apw P seg pe pa pb st K):=by
 intro fuel0 listed0 st0 a0 w0 hf0 hA0 hw0 hR0;obtain⟨T,hw0⟩:=hw0;have hle:=L.len;obtain⟨la1,la2⟩:=Pz (seg:=seg) (p:=pa) fun i hi=>L.lt i (.inr (.inl hi));obtain⟨lb1,lb2⟩:=Pz (seg:=seg) (p:=pb) fun i hi=>L.lt i (.inr (.inr hi));obtain⟨le1,le2⟩:=Pz (seg:=seg) (p:=pe) fun i hi=>L.lt i (.inl hi);have hmem:∀r,r∈D3 seg pe→∃i,i∈pe∧seg[i]? =some r:=fun r hr=>by
  unfold D3 at hr;obtain⟨i,h1,h2⟩:=List.mem_filterMap.1 hr;exact⟨i,h1,h2⟩
 have hmem':∀i r,i∈pe→seg[i]? =some r→r∈D3 seg pe:=fun i r h1 h2=>List.mem_filterMap.2 ⟨i,h1,h2⟩;have hnd:((D3 seg pe).map Aa.d).Nodup:=by
  unfold List.Nodup;rw[List.pairwise_map];unfold D3;rw[List.pairwise_filterMap];refine List.Pairwise.imp_of_mem (fun {i j} hi hj hij r hr q hq e=>?_) hne;exact hij (L.inj i j r q hr hq e)
 have hw0:=Aca (env0:=st0.env) (fun r hr=>by
  obtain⟨i,h1,h2⟩:=hmem r hr;obtain⟨k1,k2,_⟩:=Zs (L.e i r h1 h2).1;exact⟨k1,k2,(L.some_ i r h2).1⟩) (fun r hr t ht=>by
  obtain⟨i,h1,h2⟩:=hmem r hr;refine⟨rfl,fun q hq=>?_⟩;obtain⟨j,h3,h4⟩:=hmem q hq;exact(L.e i r h1 h2).2 t ht j q h4) hw0
 obtain⟨vals,V1,env1,hw1,V2,V3⟩:=Ahl hnd hw0;have hdst:∀(i:Nat) (r:Aa),seg[i]? =some r→r.dst=some r.d:=fun i r h=>(L.some_ i r h).1;have key:∀(fuel:Nat) (m la lb:Nat) (listed:Array Bool) (st sv:St) (a:Act) (w:World) (R:Nat→Prop) (G:Nat→Option Loc),unl ops listed=fuel→listed.size=ops.size→Fy ops listed→
   (∀i,i<s→listed.getD i true=true)→(∀i,s+seg.length≤i→i<ops.size→listed.getD i true=false)→la≤pa.length→lb≤pb.length→m+la+lb=pa.length+pb.length→
   (∀k x,pa[k]? =some x→(listed.getD (s+x) true=true↔k<la))→(∀k x,pb[k]? =some x→(listed.getD (s+x) true=true↔k<lb))→
   Hr P T st0.H m ((D3 seg pa).drop la) ((D3 seg pb).drop lb) sv K→(∀t,(∀i r,i∈pe→seg[i]? =some r→listed.getD (s+i) true=false→r.d≠t)→st.env t=sv.env t)→(∀i r,i∈pe→seg[i]? =some r→sv.env r.d=vals r.d)→
   (∀t,(∀(j:Nat) (q:Aa),seg[j]? =some q→q.d≠t)→sv.env t=st0.env t)→st.H=sv.H→st.D=sv.D→H8 T st0.H sv.H→Ac c st a w R G→wpAny P .any ops Q fuel listed a w:=by
  intro fuel
  induction fuel with
  |zero=>
   intro m la lb listed st sv a w R G hf hs hc hb ht hla hlb hm hA hB hw E1 E2 E3 EH ED EK hR;have hall:∀i,i<ops.size→listed.getD i true=true:=fun i hi=>O9 hf hi;have hlaE:la=pa.length:=by
    apply Nat.le_antisymm hla;apply Nat.le_of_not_lt;intro q;have h1:=(hA la _ (ZC q)).1 (hall _ (by have:=L.lt _ (.inr (.inl (ZK q)));omega));omega
   have hlbE:lb=pb.length:=by
    apply Nat.le_antisymm hlb;apply Nat.le_of_not_lt;intro q;have h1:=(hB lb _ (ZC q)).1 (hall _ (by have:=L.lt _ (.inr (.inr (ZK q)));omega));omega
   obtain rfl:m=0:=by omega
   have hst:st=sv:=by
    obtain⟨e1,e2,e3⟩:=st;obtain⟨v1,v2,v3⟩:=sv;simp only at EH ED;have:e1=v1:=by
     funext t;exact E1 t fun i r hi hr hl=>by rw[hall (s+i) (by have:=L.lt i (.inl hi);omega)]at hl;cases hl
    rw[this,EH,ED]
   subst hst;exact hnext 0 listed st a w hf ⟨hs,hc,fun i hi hi2=>hall i hi2,ht⟩ hw ⟨R,G,hR⟩
  |succ fuel ih=>
   intro m la lb listed st sv a w R G hf hs hc hb ht hla hlb hm hA hB hw E1 E2 E3 EH ED EK hR;by_cases hall:∀i,i<seg.length→listed.getD (s+i) true=true
   ·have hlaE:la=pa.length:=by
     apply Nat.le_antisymm hla;apply Nat.le_of_not_lt;intro q;have h1:=(hA la _ (ZC q)).1 (hall _ (L.lt _ (.inr (.inl (ZK q)))));omega
    have hlbE:lb=pb.length:=by
     apply Nat.le_antisymm hlb;apply Nat.le_of_not_lt;intro q;have h1:=(hB lb _ (ZC q)).1 (hall _ (L.lt _ (.inr (.inr (ZK q)))));omega
    obtain rfl:m=0:=by omega
    have hst:st=sv:=by
     obtain⟨e1,e2,e3⟩:=st;obtain⟨v1,v2,v3⟩:=sv;simp only at EH ED;have:e1=v1:=by
      funext t;exact E1 t fun i r hi hr hl=>by rw[hall i (L.lt i (.inl hi))]at hl;cases hl
     rw[this,EH,ED]
    subst hst;refine hnext (fuel+1) listed st a w hf ⟨hs,hc,fun i hi hi2=>?_,ht⟩ hw ⟨R,G,hR⟩;by_cases h1:i<s
    ·exact hb i h1
    ·have:=hall (i-s) (by omega)
     rwa[show s+(i-s)=i by omega]at this
   ·have hex:∃i,i<seg.length∧listed.getD (s+i) true=false:=by
     apply Classical.byContradiction;intro hn;exact hall fun i hi=>by
      cases hq:listed.getD (s+i) true with
      |true=>rfl
      |false=>exact absurd ⟨i,hi,hq⟩ hn
    obtain⟨i0,hi0,hu0⟩:=hex;obtain⟨m0,hm1,hm2,hm3⟩:=Hg hu0;have hready:=D7 F hs (by omega:m0<ops.size) hm2 hm3;refine⟨fun h=>(by rw[h]at hready;simp at hready),fun x hx=>?_⟩;obtain⟨h1,h2,o,h3,h4⟩:=Bw.1 hx;have hcnt:=Iw hs h1 h2;have hxlo:s≤x:=by
     apply Nat.le_of_not_lt;intro q;rw[hb x q]at h2;cases h2
    have hxhi:x<s+seg.length:=by
     apply Nat.lt_of_not_le;intro q;have:=C5 F hs hc hx (Nn hcut (j:=s+i0) q h1 (by omega));rw[hu0]at this;cases this
    obtain⟨i,rfl⟩:∃i,x=s+i:=⟨x-s,by omega⟩;have hil:i<seg.length:=by omega
    have hr:seg[i]? =some seg[i]:=ZC hil;have hro:=hres i o _ h3 hr;have hset:∀j,(listed.setIfInBounds (s+i) true).getD j true=if j=s+i then true else listed.getD j true:=fun j=>Ai (by omega)
    have hsee:∀t∈(seg[i]).reads,st.env t=sv.env t:=fun t htr=>E1 t fun j q hj hq hl e=>by
     have:=C5 F hs hc hx (L.reads i j _ q hr hq (by rw[e];exact htr));rw[this]at hl;cases hl
    have base:∀{st' sv':St} {a':Act} {w':World} {R':Nat→Prop} {G':Nat→Option Loc} (m' la' lb':Nat),la'≤pa.length→lb'≤pb.length→m'+la'+lb'=pa.length+pb.length→
      (∀k x,pa[k]? =some x→((listed.setIfInBounds (s+i) true).getD (s+x) true=true↔k<la'))→(∀k x,pb[k]? =some x→((listed.setIfInBounds (s+i) true).getD (s+x) true=true↔k<lb'))→
      Hr P T st0.H m' ((D3 seg pa).drop la') ((D3 seg pb).drop lb') sv' K→(∀t,(∀j r,j∈pe→seg[j]? =some r→(listed.setIfInBounds (s+i) true).getD (s+j) true=false→r.d≠t)→st'.env t=sv'.env t)→(∀j r,j∈pe→seg[j]? =some r→sv'.env r.d=vals r.d)→
      (∀t,(∀(j:Nat) (q:Aa),seg[j]? =some q→q.d≠t)→sv'.env t=st0.env t)→st'.H=sv'.H→st'.D=sv'.D→H8 T st0.H sv'.H→Ac c st' a' w' R' G'→wpAny P .any ops Q fuel (listed.setIfInBounds (s+i) true) a' w':=fun m' la' lb' q1 q2 q3 q4 q5 q6 q7 q8 q9 q10 q11 q12 q13=>
     ih m' la' lb' _ _ _ _ _ _ _ (by omega) (by simpa using hs) (Dv F hs hc hx) (fun j hj=>by rw[hset,if_neg (by omega)];exact hb j hj) (fun j hj1 hj2=>by rw[hset,if_neg (by omega)];exact ht j hj1 hj2) q1 q2 q3 q4 q5 q6 q7 q8 q9 q10 q11 q12 q13
    rcases L.cover i hil with hi|hi|hi
    ·
     obtain⟨e1,e2⟩:=L.e i _ hi hr;obtain⟨g1,g2,_⟩:=Zs e1;obtain⟨hop,hdst',hdlt,_⟩:=B9 hro;have hdn:=Jm hro hn;have hq:=V1 _ (hmem' i _ hi hr);have hq:=I6 (g':=Ax G) g2 hq;have hq:=D5 (env':=st.env) (H':=st.H) (Dz fun t ht=>by
      have ht':t∈(seg[i]).reads:=by unfold Aa.reads;simp[ht]
      rw[hsee t ht'];exact E3 t fun j q hq=>e2 t ht' j q hq) (fun id e he=>by
      obtain⟨k1,k2⟩:=Aeo he;rw[EH];exact EK id e k1 k2) hq
     unfold wpOp;simp only[h3];have hgt:gv st.env (seg[i]).guard=some true:=by rw[g1];rfl
     rw[if_pos (B7 hro hR hgt)];left;refine Dr (d:=(seg[i]).d+Off.o) hop (fun id _ l0 h0=>Az h0) hR hq _ (fun x w' R' G' hR' hV _=>?_);have hput:=hR'.put hdn hV;have hd:=hdst i _ hr;rw[←hdst',hd]at hput ⊢;refine base (st':=St.put {st with H:=Bx st.H []} (some (seg[i]).d) (vals (seg[i]).d)) (sv':=sv) m la lb hla hlb hm (fun k y hk=>?_) (fun k y hk=>?_) hw (fun t htq=>?_) E2 E3 EH ED EK hput
     ·rw[hset,if_neg (fun e=>L.ea i hi (by have:y=i:=(by omega);subst this;exact ZH hk))];exact hA k y hk
     ·rw[hset,if_neg (fun e=>L.eb i hi (by have:y=i:=(by omega);subst this;exact ZH hk))];exact hB k y hk
     ·show upd st.env (seg[i]).d _ t=sv.env t;by_cases htd:t=(seg[i]).d
      ·subst htd;rw[Aj];exact(E2 i _ hi hr).symm
      ·rw[Ap _ _ htd];refine E1 t fun j r hj hrj hl=>?_;by_cases hji:j=i
       ·subst hji;rw[hr]at hrj;injection hrj with hrj;subst hrj;exact fun e=>htd e.symm
       ·exact htq j r hj hrj (by rw[hset,if_neg (by omega)];exact hl)
    ·
     obtain⟨k,hk⟩:=List.mem_iff_getElem?.1 hi;have hkl:¬k<la:=fun q=>by rw[(hA k i hk).2 q]at h2;cases h2
     have hklen:k<pa.length:=(ZB.1 hk).1;have hka:k=la:=by
      apply Nat.le_antisymm
      ·apply Nat.le_of_not_lt;intro q;have hq:la<pa.length:=by omega
       have h5:=C5 F hs hc hx (L.a la k _ i q (ZC hq) hk);exact absurd ((hA la _ (ZC hq)).1 h5) (by omega)
      ·omega
     subst hka;obtain⟨m',rfl⟩:∃m',m=m'+1:=⟨m-1,by omega⟩;have hpk:(D3 seg pa)[k]? =some seg[i]:=by rw[la2 k i hk,hr]
     have hdr:(D3 seg pa).drop k=seg[i]::(D3 seg pa).drop (k+1):=by
      obtain⟨q1,q2⟩:=ZB.1 hpk;rw[List.drop_eq_getElem_cons q1,q2]
     rw[hdr]at hw;have hd:=hdst i _ hr;refine Abx hn hdie h3 hro (L.some_ i _ hr).2 (L.cl i _ hr) (Akk hw) hR hsee EH ED fun {u H'} hk' {_ _ _ _} hR'=>?_;rw[hd]at hk' hR';refine base (st':=St.put {st with H:=H'} (some (seg[i]).d) u) (sv':=St.put {sv with H:=H'} (some (seg[i]).d) u) m' (k+1) lb (by omega) hlb (by omega) (fun k2 y hk2=>?_) (fun k2 y hk2=>?_) hk'.2 (fun t htq=>?_) (fun j r hj hrj=>?_) (fun t htq=>?_) rfl ED hk'.1 hR'
     ·rw[hset];by_cases hy:s+y=s+i
      ·have hyi:y=i:=by omega
       subst hyi;have:k2=k:=(List.getElem?_inj (ZB.1 hk2).1 L.na).1 (hk2.trans hk.symm);rw[if_pos rfl];simp;omega
      ·rw[if_neg hy,hA k2 y hk2];have:k2≠k:=fun e=>by subst e;rw[hk]at hk2;injection hk2 with hk2;exact hy (by omega)
       omega
     ·rw[hset,if_neg (fun e=>L.ab i hi (by have:y=i:=(by omega);subst this;exact ZH hk2))];exact hB k2 y hk2
     ·show upd st.env (seg[i]).d u t=upd sv.env (seg[i]).d u t;by_cases htd:t=(seg[i]).d
      ·subst htd;rw[Aj,Aj]
      ·rw[Ap _ _ htd,Ap _ _ htd];refine E1 t fun j r hj hrj hl=>htq j r hj hrj ?_;rw[hset,if_neg (fun e=>L.ea j hj (by have:j=i:=(by omega);subst this;exact hi))];exact hl
     ·show upd sv.env (seg[i]).d u r.d=vals r.d;rw[Ap _ _ (fun e=>L.ea j hj (by have:=L.inj j i r _ hrj hr e;subst this;exact hi))];exact E2 j r hj hrj
     ·show upd sv.env (seg[i]).d u t=st0.env t;rw[Ap _ _ (fun e=>htq i _ hr e.symm)];exact E3 t htq
    ·
     obtain⟨k,hk⟩:=List.mem_iff_getElem?.1 hi;have hkl:¬k<lb:=fun q=>by rw[(hB k i hk).2 q]at h2;cases h2
     have hklen:k<pb.length:=(ZB.1 hk).1;have hka:k=lb:=by
      apply Nat.le_antisymm
      ·apply Nat.le_of_not_lt;intro q;have hq:lb<pb.length:=by omega
       have h5:=C5 F hs hc hx (L.b lb k _ i q (ZC hq) hk);exact absurd ((hB lb _ (ZC hq)).1 h5) (by omega)
      ·omega
     subst hka;obtain⟨m',rfl⟩:∃m',m=m'+1:=⟨m-1,by omega⟩;have hpk:(D3 seg pb)[k]? =some seg[i]:=by rw[lb2 k i hk,hr]
     have hdr:(D3 seg pb).drop k=seg[i]::(D3 seg pb).drop (k+1):=by
      obtain⟨q1,q2⟩:=ZB.1 hpk;rw[List.drop_eq_getElem_cons q1,q2]
     rw[hdr]at hw;have hd:=hdst i _ hr;refine Abx hn hdie h3 hro (L.some_ i _ hr).2 (L.cl i _ hr) (Ak0 hw) hR hsee EH ED fun {u H'} hk' {_ _ _ _} hR'=>?_;rw[hd]at hk' hR';refine base (st':=St.put {st with H:=H'} (some (seg[i]).d) u) (sv':=St.put {sv with H:=H'} (some (seg[i]).d) u) m' la (k+1) hla (by omega) (by omega) (fun k2 y hk2=>?_) (fun k2 y hk2=>?_) hk'.2 (fun t htq=>?_) (fun j r hj hrj=>?_) (fun t htq=>?_) rfl ED hk'.1 hR'
     ·rw[hset,if_neg (fun e=>L.ab y (ZH hk2) (by have:y=i:=(by omega);subst this;exact hi))];exact hA k2 y hk2
     ·rw[hset];by_cases hy:s+y=s+i
      ·have hyi:y=i:=by omega
       subst hyi;have:k2=k:=(List.getElem?_inj (ZB.1 hk2).1 L.nb).1 (hk2.trans hk.symm);rw[if_pos rfl];simp;omega
      ·rw[if_neg hy,hB k2 y hk2];have:k2≠k:=fun e=>by subst e;rw[hk]at hk2;injection hk2 with hk2;exact hy (by omega)
       omega
     ·show upd st.env (seg[i]).d u t=upd sv.env (seg[i]).d u t;by_cases htd:t=(seg[i]).d
      ·subst htd;rw[Aj,Aj]
      ·rw[Ap _ _ htd,Ap _ _ htd];refine E1 t fun j r hj hrj hl=>htq j r hj hrj ?_;rw[hset,if_neg (fun e=>L.eb j hj (by have:j=i:=(by omega);subst this;exact hi))];exact hl
     ·show upd sv.env (seg[i]).d u r.d=vals r.d;rw[Ap _ _ (fun e=>L.eb j hj (by have:=L.inj j i r _ hrj hr e;subst this;exact hi))];exact E2 j r hj hrj
     ·show upd sv.env (seg[i]).d u t=st0.env t;rw[Ap _ _ (fun e=>htq i _ hr e.symm)];exact E3 t htq
 obtain⟨R,G,hR⟩:=hR0;refine key fuel0 (pa.length+pb.length) 0 0 listed0 st0 {st0 with env:=env1} a0 w0 R G hf0 hA0.size hA0.closed (fun i hi=>hA0.yes i hi (by omega)) (fun i hi hi2=>hA0.no i (by omega) hi2) (ZU _) (ZU _) (by omega) (fun k x hk=>?_) (fun k x hk=>?_) hw1 (fun t htq=>?_) (fun i r hi hr=>V2 r (hmem' i r hi hr)) (fun t htq=>?_) rfl rfl (fun id e _ h=>h) hR
 ·have:=L.lt x (.inr (.inl (ZH hk)));rw[hA0.no (s+x) (by omega) (by omega)];simp
 ·have:=L.lt x (.inr (.inr (ZH hk)));rw[hA0.no (s+x) (by omega) (by omega)];simp
 ·show st0.env t=env1 t;refine(V3 t fun r hr=>?_).symm;obtain⟨i,hi,hr⟩:=hmem r hr;exact htq i r hi hr (by have:=L.lt i (.inl hi);rw[hA0.no (s+i) (by omega) (by omega)])
 ·show env1 t=st0.env t;refine V3 t fun r hr=>?_;obtain⟨i,hi,hr⟩:=hmem r hr;exact htq i r hr
end
def Ai8:List Aa→Bool
 |[⟨none,none,.mkm⟩,⟨none,none,.mkm⟩]=>true
 |_=>false
def eIx(seg:List Aa):List Nat:=(List.range seg.length).filter fun i=>match seg[i]? with
 |some r=>Ajp r&&seg.all fun q=> !(r.reads.contains q.d)
 |none=>false
def bDs:List Aa→List Nat→List Nat
 |[],ds=>ds
 |r::rs,ds=>bif Aid r.op||r.reads.any (fun t=>ds.contains t)then bDs rs (r.d::ds)else bDs rs ds
def bIx(seg:List Aa):List Nat:=(List.range seg.length).filter fun i=>match seg[i]? with
 |some r=>(bDs seg []).contains r.d
 |none=>false
def aIx(seg:List Aa):List Nat:=(List.range seg.length).filter fun i=> !((eIx seg).contains i)&& !((bIx seg).contains i)
def Vm(ms:List Nat)(s:Nat)(p:List Nat):Bool:=(List.range p.length).all fun k=>(List.range k).all fun j=>match p[j]?,p[k]? with
 |some x,some y=>(ms.getD (s+y) 0).testBit (s+x)
 |_,_=>false
def ldP(seg:List Aa):Bool:=seg.any (fun r=>Aid r.op)&&seg.all fun r=>match r.op with
 |.call _ (.tmp t::_)=>(eIx seg).any fun i=>match seg[i]? with
  |some q=>q.d==t
  |none=>false
 |.call _ _=>false
 |_=>true
def Ao8(ms:List Nat)(s:Nat)(seg:List Aa)(pe pa pb:List Nat):Bool:=
 ((List.range seg.length).all fun i=>pe.contains i||pa.contains i||pb.contains i)&&(pe.all fun i=>decide (i<seg.length))&&(pa.all fun i=>decide (i<seg.length))&&(pb.all fun i=>decide (i<seg.length))&&
 (pe.all fun i=>match seg[i]? with
  |some r=>Ajp r&&r.reads.all fun t=>seg.all fun q=> !(q.d==t)
  |none=>false)&&
 (pe.all fun i=> !(pa.contains i)&& !(pb.contains i))&&(pa.all fun i=> !(pb.contains i))&&decide pe.Nodup&&decide pa.Nodup&&decide pb.Nodup&&Vm ms s pa&&Vm ms s pb&&decide ((seg.map Aa.d).Nodup)&&
 (seg.all fun r=>r.dst.isSome&&r.guard.isNone&&(!(r.op.isE)||Aid r.op))&&
 ((List.range seg.length).all fun i=>(List.range seg.length).all fun j=>match seg[i]?,seg[j]? with
  |some r,some q=> !(r.reads.contains q.d)||(ms.getD (s+i) 0).testBit (s+j)
  |_,_=>false)&&decide (pa.length+pb.length+pe.length=seg.length)
theorem Qa{ops:Array Oper}{s:Nat}{p:List Nat}(h:Vm (Bn ops) s p=true)(j k x y:Nat)(hjk:j<k)(hj:p[j]? =some x)(hk:p[k]? =some y):Anc ops (s+y) (s+x):=by
 unfold Vm at h;simp only[List.all_eq_true,List.mem_range]at h;have:=h k (ZB.1 hk).1 j hjk;rw[hj,hk]at this;exact Gu this
theorem Afb{ops:Array Oper}{s:Nat}{seg:List Aa}{pe pa pb:List Nat}(hl:s+seg.length≤ops.size)(h:Ao8 (Bn ops) s seg pe pa pb=true):LdF ops seg s pe pa pb∧pa.length+pb.length+pe.length=seg.length∧pe.Nodup:=by
 unfold Ao8 at h;simp only[ZO,decide_eq_true_eq]at h;obtain⟨⟨⟨⟨⟨⟨⟨⟨⟨⟨⟨⟨⟨⟨⟨h1,h2⟩,h3⟩,h4⟩,h5⟩,h6⟩,h7⟩,h8⟩,h9⟩,h10⟩,h11⟩,h12⟩,h13⟩,h14⟩,h15⟩,h16⟩:=h;simp only[List.all_eq_true,List.mem_range,Bool.or_eq_true,ZO,decide_eq_true_eq,List.contains_iff_mem,Bool.not_eq_true']at h1 h2 h3 h4 h5 h6 h7 h14 h15;have hc:∀(i:Nat) (l:List Nat),l.contains i=false→i∉l:=fun i l h hm=>by rw[List.contains_iff_mem.2 hm]at h;cases h
 refine⟨⟨hl,fun i hi=>?_,fun i hi=>?_,fun i r hi hr=>?_,fun i hi=>hc _ _ (h6 i hi).1,fun i hi=>hc _ _ (h6 i hi).2,fun i hi=>hc _ _ (h7 i hi),h9,h10,fun j k x y=>Qa h11 j k x y,fun j k x y=>Qa h12 j k x y,fun i j r q hi hj e=>?_,fun i r hr=>?_,fun i j r q hi hj hm=>?_,fun i r hr hE=>?_⟩,h16,h8⟩
 ·rcases h1 i hi with(q|q)|q
  ·exact .inl q
  ·exact .inr (.inl q)
  ·exact .inr (.inr q)
 ·rcases hi with q|q|q
  ·exact h2 i q
  ·exact h3 i q
  ·exact h4 i q
 ·have:=h5 i hi;rw[hr]at this;simp only[ZO,List.all_eq_true,Bool.not_eq_true',ZG]at this;exact⟨this.1,fun t ht j q hq=>this.2 t ht q (ZH hq)⟩
 ·have k1:(seg.map Aa.d)[i]? =some r.d:=by rw[XJ,hi];rfl
  have k2:(seg.map Aa.d)[j]? =some r.d:=by rw[XJ,hj,e];rfl
  exact(List.getElem?_inj (ZB.1 k1).1 h13).1 (k1.trans k2.symm)
 ·obtain⟨⟨k1,k2⟩,_⟩:=h14 r (ZH hr);obtain⟨d,hd⟩:=Option.isSome_iff_exists.1 k1;exact⟨by rw[hd];simp[Aa.d,hd],Option.isNone_iff_eq_none.1 k2⟩
 ·have:=h15 i (ZB.1 hi).1 j (ZB.1 hj).1;rw[hi,hj]at this;simp only[Bool.or_eq_true,Bool.not_eq_true']at this;rcases this with q|q
  ·exact absurd hm (hc _ _ q)
  ·exact Gu q
 ·rcases(h14 r (ZH hr)).2 with q|q
  ·rw[hE]at q;cases q
  ·exact q
end
end Go.Proofs.YtchbkgnobpejnaaGreatDoor
