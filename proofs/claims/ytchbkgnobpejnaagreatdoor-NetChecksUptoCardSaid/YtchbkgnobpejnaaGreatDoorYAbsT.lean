/- The framework: part of this claim. -/
import Derived.Test.YtchbkgnobpejnaaGreatDoorYAbsL
set_option linter.unusedSimpArgs false
set_option linter.unusedVariables false
namespace Go.Proofs.YtchbkgnobpejnaaGreatDoor
open Go.RowKit
section
variable [Off]
def Mu[Glob](P:Program):Nat→List Aa→List Aa→St→(St→Prop)→Prop
 |0,_,_,st,K=>K st
 |n+1,a::A,b::B,st,K=>wpR P [a] st (fun st'=>Mu P n A (b::B) st' K)∧wpR P [b] st (fun st'=>Mu P n (a::A) B st' K)
 |n+1,a::A,[],st,K=>wpR P [a] st (fun st'=>Mu P n A [] st' K)
 |n+1,[],b::B,st,K=>wpR P [b] st (fun st'=>Mu P n [] B st' K)
 |_+1,[],[],_,_=>False
theorem An4[Glob]{P:Program}{n:Nat}{a:Aa}{A B:List Aa}{st:St}{K:St→Prop}(h:Mu P (n+1) (a::A) B st K):wpR P [a] st (fun st'=>Mu P n A B st' K):=by
 cases B with
 |nil=>exact h
 |cons b B=>exact h.1
theorem Ank[Glob]{P:Program}{n:Nat}{b:Aa}{A B:List Aa}{st:St}{K:St→Prop}(h:Mu P (n+1) A (b::B) st K):wpR P [b] st (fun st'=>Mu P n A B st' K):=by
 cases A with
 |nil=>exact h
 |cons a A=>exact h.2
end
section
variable {P:Program} {Q:Exit→Act→World→Prop} {ops:Array Oper} {n:Nat} {g:Nat→Nat}
section
variable [Off]
theorem Alg[Glob]{c:Ctx}(hn:c.n=n)(hdie:Og c Q){i:Nat}{r:Aa}{K:St→Prop}{o:Oper}{fuel:Nat}{listed:Array Bool}{st:St}{a:Act}{w:World}(h3:ops[i]? =some o)(hro:Bh P ops n o=some r)(hw:wpR P [r] st K)(hR:Rel c st a w)(next:∀{st':St},K st'→∀{a' w'},Rel c st' a' w'→wpAny P .any ops Q fuel (listed.setIfInBounds i true) a' w'):wpOp P ops Q i (wpAny P .any ops Q fuel (listed.setIfInBounds i true)) a w:=by
 simp only[wpR]at hw;obtain⟨R,G,hR⟩:=hR;obtain⟨hop,hdst,hdlt,_⟩:=B9 hro;have hdn:=Jm hro hn;unfold wpOp;simp only[h3];rcases Je hw with⟨hg,hw⟩|⟨hg,hw⟩
 ·rw[if_pos (B7 hro hR hg)];left;unfold opR at hw;split at hw
  ·refine Ja (d:=r.d+Off.o) hop hR hw (fun u H' hk x w' R' G' hR' hV=>?_) (fun v hv w' hfr=>hdie v _ w' (hR.die▸hv) hfr hR.defers);have:=hR'.put hdn hV;rw[←hdst]at *;exact next hk ⟨R',G',this⟩
  ·have hq:∃g:Nat→Nat,(∀id,id/16=r.d+Off.o→∀l0,G id=some l0→l0.gen<g id)∧Ak P r.op st.env st.H g (16*(r.d+Off.o)) (Fd r st fun st'=>K st'):=by
    refine⟨Ax G,fun id _ l0 h0=>Az h0,?_⟩;split at hw
    ·exact hw _
    ·rename_i hal;exact I6 (by simpa using hal) hw
   obtain⟨g,hgen,hq⟩:=hq;obtain⟨u,dH,p1,p2,_⟩:=Mp hq;refine Dr hop hgen hR p1 _ (fun x w' R' G' hR' hV _=>?_);have:=hR'.put hdn hV;rw[←hdst]at *;exact next p2 ⟨R',G',this⟩
 ·rw[if_neg (by rw[B7 hro hR hg];simp)];have:=hR.put hdn (u:=.v undef) (.v undef);rw[←hdst]at *;exact next hw ⟨R,G,this⟩
structure As2(ops:Array Oper)(A B:List Aa)(s:Nat):Prop where
 a:∀j k,j<k→k<A.length→Anc ops (s+k) (s+j)
 b:∀j k,j<k→k<B.length→Anc ops (s+A.length+k) (s+A.length+j)
theorem Ame[Glob]{c:Ctx}(hn:c.n=n)(hdie:Og c Q)(F:Pb ops){s:Nat}{A B:List Aa}{K:St→Prop}(hle:s+A.length+B.length≤ops.size)(T:As2 ops A B s)(hcut:Ip (Bn ops) (s+A.length+B.length)=true)(hresA:∀(k:Nat) (o:Oper) (r:Aa),ops[s+k]? =some o→A[k]? =some r→Bh P ops n o=some r)(hresB:∀(k:Nat) (o:Oper) (r:Aa),ops[s+A.length+k]? =some o→B[k]? =some r→Bh P ops n o=some r)(hnext:Nh P c ops Q (s+A.length+B.length) K):Nh P c ops Q s (fun st=>Mu P (A.length+B.length) A B st K):=by
 have key:∀(m la lb:Nat),la≤A.length→lb≤B.length→m+la+lb=A.length+B.length→∀(fuel:Nat) (listed:Array Bool) (st:St) (a:Act) (w:World),unl ops listed=fuel→listed.size=ops.size→Fy ops listed→
   (∀i,i<s→listed.getD i true=true)→(∀i,s+A.length+B.length≤i→i<ops.size→listed.getD i true=false)→(∀k,k<A.length→(listed.getD (s+k) true=true↔k<la))→(∀k,k<B.length→(listed.getD (s+A.length+k) true=true↔k<lb))→
   Mu P m (A.drop la) (B.drop lb) st K→Rel c st a w→wpAny P .any ops Q fuel listed a w:=by
  intro m
  induction m with
  |zero=>
   intro la lb hla hlb hm fuel listed st a w hf hs hc hb ht hA hB hw hR;refine hnext fuel listed st a w hf ⟨hs,hc,fun i hi hi2=>?_,ht⟩ hw hR;by_cases h1:i<s
   ·exact hb i h1
   ·by_cases h2:i<s+A.length
    ·have:=(hA (i-s) (by omega)).2 (by omega)
     rwa[show s+(i-s)=i by omega]at this
    ·have:=(hB (i-(s+A.length)) (by omega)).2 (by omega)
     rwa[show s+A.length+(i-(s+A.length))=i by omega]at this
  |succ m ih=>
   intro la lb hla hlb hm fuel listed st a w hf hs hc hb ht hA hB hw hR;have hex:∃i0,i0<s+A.length+B.length∧listed.getD i0 true=false:=by
    by_cases h1:la<A.length
    ·refine⟨s+la,by omega,?_⟩;cases hq:listed.getD (s+la) true with
     |false=>rfl
     |true=>exact absurd ((hA la h1).1 hq) (by omega)
    ·refine⟨s+A.length+lb,by omega,?_⟩;cases hq:listed.getD (s+A.length+lb) true with
     |false=>rfl
     |true=>exact absurd ((hB lb (by omega)).1 hq) (by omega)
   obtain⟨i0,hi0,hu0⟩:=hex;obtain⟨m0,hm1,hm2,hm3⟩:=Hg hu0;have hready:=D7 F hs (by omega:m0<ops.size) hm2 hm3;have hcnt0:=Iw hs (by omega:m0<ops.size) hm2;cases fuel with
   |zero=>omega
   |succ fuel=>
    refine⟨fun h=>(by rw[h]at hready;simp at hready),fun x hx=>?_⟩;obtain⟨h1,h2,o,h3,h4⟩:=Bw.1 hx;have hcnt:=Iw hs h1 h2;have hxhi:x<s+A.length+B.length:=by
     apply Nat.lt_of_not_le;intro q;have:=C5 F hs hc hx (Nn hcut (j:=i0) q h1 hi0);rw[hu0]at this;cases this
    have hxlo:s≤x:=by
     apply Nat.le_of_not_lt;intro q;rw[hb x q]at h2;cases h2
    by_cases hxa:x<s+A.length
    ·obtain⟨k,rfl⟩:∃k,x=s+k:=⟨x-s,by omega⟩;have hk:k<A.length:=by omega
     have hkl:¬k<la:=fun q=>by rw[(hA k hk).2 q]at h2;cases h2
     have hka:k=la:=by
      apply Nat.le_antisymm
      ·apply Nat.le_of_not_lt;intro q;have:=C5 F hs hc hx (T.a la k q hk);exact absurd ((hA la (by omega)).1 this) (by omega)
      ·omega
     subst hka;have hd:A.drop k=A[k]::A.drop (k+1):=List.drop_eq_getElem_cons hk;rw[hd]at hw;refine Alg hn hdie h3 (hresA k o _ h3 (ZC hk)) (An4 hw) hR fun hk' _ _ hR'=>?_;refine ih (k+1) lb (by omega) hlb (by omega) fuel _ _ _ _ (by omega) (by simpa using hs) (Dv F hs hc hx) (fun j hj=>?_) (fun j hj1 hj2=>?_) (fun j hj=>?_) (fun j hj=>?_) hk' hR'
     ·rw[Ai (by omega),if_neg (by omega)];exact hb j hj
     ·rw[Ai (by omega),if_neg (by omega)];exact ht j hj1 hj2
     ·rw[Ai (by omega)];by_cases hjk:j=k
      ·subst hjk;simp
      ·rw[if_neg (by omega),hA j hj];omega
     ·rw[Ai (by omega),if_neg (by omega)];exact hB j hj
    ·obtain⟨k,rfl⟩:∃k,x=s+A.length+k:=⟨x-(s+A.length),by omega⟩;have hk:k<B.length:=by omega
     have hkl:¬k<lb:=fun q=>by rw[(hB k hk).2 q]at h2;cases h2
     have hka:k=lb:=by
      apply Nat.le_antisymm
      ·apply Nat.le_of_not_lt;intro q;have:=C5 F hs hc hx (T.b lb k q hk);exact absurd ((hB lb (by omega)).1 this) (by omega)
      ·omega
     subst hka;have hd:B.drop k=B[k]::B.drop (k+1):=List.drop_eq_getElem_cons hk;rw[hd]at hw;refine Alg hn hdie h3 (hresB k o _ h3 (ZC hk)) (Ank hw) hR fun hk' _ _ hR'=>?_;refine ih la (k+1) hla (by omega) (by omega) fuel _ _ _ _ (by omega) (by simpa using hs) (Dv F hs hc hx) (fun j hj=>?_) (fun j hj1 hj2=>?_) (fun j hj=>?_) (fun j hj=>?_) hk' hR'
     ·rw[Ai (by omega),if_neg (by omega)];exact hb j hj
     ·rw[Ai (by omega),if_neg (by omega)];exact ht j hj1 hj2
     ·rw[Ai (by omega),if_neg (by omega)];exact hA j hj
     ·rw[Ai (by omega)];by_cases hjk:j=k
      ·subst hjk;simp
      ·rw[if_neg (by omega),hB j hj];omega
 intro fuel listed st a w hf hA hw hR;refine key (A.length+B.length) 0 0 (by omega) (by omega) (by omega) fuel listed st a w hf hA.size hA.closed (fun i hi=>hA.yes i hi (by omega)) (fun i hi hi2=>hA.no i (by omega) hi2) (fun k hk=>?_) (fun k hk=>?_) (by simpa using hw) hR
 ·rw[hA.no (s+k) (by omega) (by omega)];simp
 ·rw[hA.no (s+A.length+k) (by omega) (by omega)];simp
end
end
section
variable [Off]
def Zk:List Aa→Bool
 |[⟨none,none,.mkm⟩]=>true
 |_=>false
def Apl:List Aa→Bool
 |[⟨some _,none,.fldA _ _⟩,⟨some _,none,.load _ _ _⟩,⟨some _,none,.mv _⟩,⟨some _,none,.call _ _⟩,⟨some _,none,.mks _ _ _ _ _⟩]=>true
 |_=>false
def Zh(ms:List Nat)(s:Nat)(seg:List Aa):Bool:=decide (seg.length=5)&&(ms.getD (s+1) 0).testBit s&&(ms.getD (s+3) 0).testBit (s+2)&&(ms.getD (s+4) 0).testBit (s+2)&&(ms.getD (s+4) 0).testBit (s+3)
end
theorem Zl{ms:List Nat}{s:Nat}{seg:List Aa}(h:Zh ms s seg=true):seg.length=5:=by
 unfold Zh at h;simp only[ZO,decide_eq_true_eq]at h;exact h.1.1.1.1
theorem Ad7{ops:Array Oper}{s:Nat}{seg:List Aa}(h:Zh (Bn ops) s seg=true):As2 ops (seg.take 2) (seg.drop 2) s:=by
 have hl:=Zl h;unfold Zh at h;simp only[ZO,decide_eq_true_eq]at h;obtain⟨⟨⟨⟨_,h1⟩,h2⟩,h3⟩,h4⟩:=h;have e1:(seg.take 2).length=2:=by rw[ZM];omega
 have e2:(seg.drop 2).length=3:=by rw[List.length_drop];omega
 refine⟨fun j k hjk hk=>?_,fun j k hjk hk=>?_⟩
 ·rw[e1]at hk;obtain rfl:k=1:=by omega
  obtain rfl:j=0:=by omega
  exact Gu h1
 ·rw[e2]at hk;rw[e1];rcases(by omega:(j=0∧k=1)∨(j=0∧k=2)∨(j=1∧k=2))with⟨rfl,rfl⟩|⟨rfl,rfl⟩|⟨rfl,rfl⟩
  ·exact Gu h2
  ·exact Gu h3
  ·exact Gu h4
end Go.Proofs.YtchbkgnobpejnaaGreatDoor
