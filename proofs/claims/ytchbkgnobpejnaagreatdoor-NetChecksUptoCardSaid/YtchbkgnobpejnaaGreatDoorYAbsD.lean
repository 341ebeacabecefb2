/- The framework: part of this claim. -/
import Derived.Test.YtchbkgnobpejnaaGreatDoorYAbsU
set_option linter.unusedSimpArgs false
set_option linter.unusedVariables false
namespace Go.Proofs.YtchbkgnobpejnaaGreatDoor
open Go.RowKit
section
variable {P:Program} {Q:Exit→Act→World→Prop} {ops:Array Oper} {n:Nat} {g:Nat→Nat}
section
variable [Off]
def Fw:List Aa→Option Aa
 |r::_=>bif Jx r.op then some r else none
 |[]=>none
def wpS[Glob](P:Program):List (List Aa)→St→(St→Prop)→Prop
 |[],st,K=>K st
 |[]::fl::seg::ss,st,K=>match Fw fl with
  |some r=>wpD P seg st fun st'=>wpR P [r] st' fun st''=>Ju fl.tail st'.env st'.H st''.H seg (wpS P ss st'' K)
  |none=>match Ai8 fl with
   |true=>Apw P seg (eIx seg) (aIx seg) (bIx seg) st fun st'=>wpS P ss st' K
   |false=>match Zk fl with
    |true=>Mu P 5 (seg.take 2) (seg.drop 2) st fun st'=>wpS P ss st' K
    |false=>wpM P fl seg st fun st'=>wpS P ss st' K
 |[r]::ss,st,K=>wpR P [r] st fun st'=>wpS P ss st' K
 |seg::ss,st,K=>wpD P seg st fun st'=>wpS P ss st' K
def Ez:List (List Aa)→List Aa
 |[]=>[]
 |[]::fl::seg::ss=>match Fw fl with
  |some r=>seg++([r]++Ez ss)
  |none=>seg++Ez ss
 |seg::ss=>seg++Ez ss
def Ec(ops:Array Oper)(ms:List Nat):Nat→List (List Aa)→Bool
 |s,[]=>decide (s=ops.size)
 |s,[]::fl::seg::ss=>match Fw fl with
  |some r=>Afn ops ms s seg r fl.tail&&Ec ops ms (s+seg.length+1) ss
  |none=>match Ai8 fl with
   |true=>Ao8 ms s seg (eIx seg) (aIx seg) (bIx seg)&&Ip ms (s+seg.length)&&Ec ops ms (s+seg.length) ss
   |false=>match Zk fl with
    |true=>Zh ms s seg&&Ip ms (s+seg.length)&&Ec ops ms (s+seg.length) ss
    |false=>decide (0<seg.length)&&Aed ops ms s seg fl&&Ip ms (s+seg.length)&&Ec ops ms (s+seg.length) ss
 |s,seg::ss=>decide (0<seg.length)&&(decide (seg.length=1)||Ada ops s seg)&&Ip ms (s+seg.length)&&Ec ops ms (s+seg.length) ss
def K7(ms:List Nat)(s m:Nat):Nat→List Aa→List Aa
 |_,[]=>[]
 |i,r::rs=>if i==m||decide (i<m∧(ms.getD (s+m) 0).testBit (s+i)=true)||decide (m<i∧(ms.getD (s+i) 0).testBit (s+m)=true)then K7 ms s m (i+1) rs else⟨r.dst,none,.mkm⟩::K7 ms s m (i+1) rs
def Aom(ms:List Nat)(s:Nat)(r:Aa)(seg:List Aa):Bool:=
 Jx r.op&&((List.range seg.length).any fun i=> !((ms.getD (s+seg.length) 0).testBit (s+i)))&&
 (List.range seg.length).all fun i=>match seg[i]? with
  |some q=>(ms.getD (s+seg.length) 0).testBit (s+i)||(Aal q&& !(r.reads.contains q.d)&& !(r.d==q.d)&& !(q.reads.contains r.d)&&seg.all fun q'=> !(q.reads.contains q'.d))
  |none=>false
def Ap6(ms:List Nat)(s:Nat)(r:Aa)(seg:List Aa):List Aa:=
 (List.range seg.length).filterMap fun i=>match seg[i]? with
  |some q=>if !((ms.getD (s+seg.length) 0).testBit (s+i))&& !(Aal q)then some ⟨q.dst,none,.mkm⟩else none
  |none=>none
def Ap1:ROp→Bool
 |.app _ _ _ _ _ _=>true
 |_=>false
def Aq8:ROp→Bool
 |.fldA _ _=>true
 |_=>false
def Au9:ROp→Bool
 |.load _ _ _=>true
 |_=>false
def Alt(ms:List Nat)(s:Nat)(r:Aa)(seg:List Aa):Bool:=
 Jx r.op&&(Ap1 r.op||(List.range seg.length).any fun i=>match seg[i]? with
  |some q=> !((ms.getD (s+seg.length) 0).testBit (s+i))&&Aq8 q.op
  |none=>false)&&
 ((List.range seg.length).all fun i=>match seg[i]? with
  |some q=>(ms.getD (s+seg.length) 0).testBit (s+i)||(Aq5 q&&(Ap1 r.op|| !(Au9 q.op))&& !(r.reads.contains q.d)&& !(r.d==q.d)&& !(q.reads.contains r.d))
  |none=>false)
def Alh:List Aa→Bool
 |[r]=>Abc r.op
 |_=>false
def O0(ms:List Nat):Nat→List (List Aa)→List (List Aa)
 |_,[]=>[]
 |s,seg::ss=>if decide (1<seg.length)&&ldP seg&&Ao8 ms s seg (eIx seg) (aIx seg) (bIx seg)then []::[⟨none,none,.mkm⟩,⟨none,none,.mkm⟩]::seg::O0 ms (s+seg.length) ss else if Apl seg&&Zh ms s seg then []::[⟨none,none,.mkm⟩]::seg::O0 ms (s+seg.length) ss else if decide (1<seg.length)&&seg.any (fun r=>Abc r.op)then []::K7 ms s (B8 seg) 0 seg::seg::O0 ms (s+seg.length) ss else match seg.getLast? with
  |some r=>if decide (1<seg.length)&&Aom ms s r seg.dropLast&&ss.any Alh then []::[r]::seg.dropLast::O0 ms (s+seg.length) ss else if decide (1<seg.length)&&Alt ms s r seg.dropLast then []::(r::Ap6 ms s r seg.dropLast)::seg.dropLast::O0 ms (s+seg.length) ss else seg::O0 ms (s+seg.length) ss
  |none=>seg::O0 ms (s+seg.length) ss
def Agf(ops:Array Oper)(rs:List Aa):List (List Aa):=O0 (Bn ops) 0 (Al2 ops rs)
def Aqm(ops:Array Oper)(rs:List Aa)(segs:List (List Aa)):Bool:=
 decide ((Ez segs).length=rs.length)&&decide (rs.length=ops.size)&&Afd ops&&Ec ops (Bn ops) 0 segs
theorem Hd[Glob]{c:Ctx}(hn:c.n=n)(hdie:Og c Q)(D:Pb ops){K:St→Prop}(hK:∀st' a' w',K st'→Rel c st' a' w'→Q .normal a' w'):∀(segs:List (List Aa)) (s:Nat),Ec ops (Bn ops) s segs=true→s+(Ez segs).length=ops.size→
  (∀(i:Nat) (o:Oper) (r:Aa),ops[s+i]? =some o→(Ez segs)[i]? =some r→Bh P ops n o=some r)→Nh P c ops Q s (fun st=>wpS P segs st K)
 |[],s,h,hl,hres=>by
  have hs:s=ops.size:=by simpa[Ez]using hl
  subst hs;exact Akt hK
 |[]::fl::seg::ss,s,h,hl,hres=>by
  cases hlt:Fw fl with
  |some r=>
   simp only[Ec,hlt,ZO]at h;obtain⟨h1,h3⟩:=h;simp only[Ez,hlt]at hl hres;rw[ZF,ZF,List.length_singleton]at hl;have L:=Aak h1;have hrest:=Hd hn hdie D hK ss (s+seg.length+1) h3 (by omega) (fun i o q ho hr=>by
    refine hres (seg.length+1+i) o q (by rw[show s+(seg.length+1+i)=s+seg.length+1+i by omega];exact ho) ?_;rw[ZP (by omega),ZP (by simp;omega)];rw[List.length_singleton,show seg.length+1+i-seg.length-1=i by omega];exact hr)
   have hres':∀(i:Nat) (o:Oper) (q:Aa),ops[s+i]? =some o→seg[i]? =some q→Bh P ops n o=some q:=fun i o q ho hr=>by
    refine hres i o q ho ?_;rw[ZQ (ZB.1 hr).1];exact hr
   have hresr:∀o,ops[s+seg.length]? =some o→Bh P ops n o=some r:=fun o ho=>by
    refine hres seg.length o r ho ?_;rw[ZP (ZT _),Nat.sub_self];rfl
   have:=Ahw hn hdie D L hres' hresr hrest;intro fuel listed st a w q1 q2 q3 q4;exact this fuel listed st a w q1 q2 (by simpa only[wpS,hlt]using q3) q4
  |none=>
   cases hch:Ai8 fl with
   |true=>
    simp only[Ec,hlt,hch,ZO]at h;obtain⟨⟨h1,h2⟩,h3⟩:=h;simp only[Ez,hlt]at hl hres;rw[ZF]at hl;have hrest:=Hd hn hdie D hK ss (s+seg.length) h3 (by omega) (fun i o r ho hr=>by
     refine hres (seg.length+i) o r (by rw[←Nat.add_assoc];exact ho) ?_;rw[ZP (by omega),show seg.length+i-seg.length=i by omega];exact hr)
    have hres':∀(i:Nat) (o:Oper) (r:Aa),ops[s+i]? =some o→seg[i]? =some r→Bh P ops n o=some r:=fun i o r ho hr=>by
     refine hres i o r ho ?_;rw[ZQ (ZB.1 hr).1];exact hr
    obtain⟨L,hab,hne⟩:=Afb (by omega) h1;have:=An8 hn hdie D L h2 hres' hab hne hrest;intro fuel listed st a w q1 q2 q3 q4;exact this fuel listed st a w q1 q2 (by simpa only[wpS,hlt,hch]using q3) q4
   |false=>
    cases htw:Zk fl with
    |true=>
     simp only[Ec,hlt,hch,htw,ZO]at h;obtain⟨⟨h1,h2⟩,h3⟩:=h;simp only[Ez,hlt]at hl hres;rw[ZF]at hl;have h5:=Zl h1;have hrest:=Hd hn hdie D hK ss (s+seg.length) h3 (by omega) (fun i o r ho hr=>by
      refine hres (seg.length+i) o r (by rw[←Nat.add_assoc];exact ho) ?_;rw[ZP (by omega),show seg.length+i-seg.length=i by omega];exact hr)
     have hres':∀(i:Nat) (o:Oper) (r:Aa),ops[s+i]? =some o→seg[i]? =some r→Bh P ops n o=some r:=fun i o r ho hr=>by
      refine hres i o r ho ?_;rw[ZQ (ZB.1 hr).1];exact hr
     have e1:(seg.take 2).length=2:=by rw[ZM];omega
     have e2:(seg.drop 2).length=3:=by rw[List.length_drop];omega
     have:=Ame hn hdie D (s:=s) (A:=seg.take 2) (B:=seg.drop 2) (by omega) (Ad7 h1) (by rw[e1,e2];rw[h5]at h2;exact h2)
      (fun k o r ho hr=>hres' k o r ho (by
       have hk:k<2:=by have:=(ZB.1 hr).1;omega
       rwa[XA hk]at hr))
      (fun k o r ho hr=>hres' (2+k) o r (by rw[e1]at ho;rwa[←Nat.add_assoc]) (by rwa[List.getElem?_drop]at hr))
      (by rw[e1,e2];rw[h5]at hrest;exact hrest)
     rw[e1,e2]at this;intro fuel listed st a w q1 q2 q3 q4;exact this fuel listed st a w q1 q2 (by simpa only[wpS,hlt,hch,htw]using q3) q4
    |false=>
     simp only[Ec,hlt,hch,htw,ZO,decide_eq_true_eq]at h;obtain⟨⟨⟨h0,h1⟩,h2⟩,h3⟩:=h;simp only[Ez,hlt]at hl hres;rw[ZF]at hl;have hrest:=Hd hn hdie D hK ss (s+seg.length) h3 (by omega) (fun i o r ho hr=>by
      refine hres (seg.length+i) o r (by rw[←Nat.add_assoc];exact ho) ?_;rw[ZP (by omega),show seg.length+i-seg.length=i by omega];exact hr)
     have hres':∀(i:Nat) (o:Oper) (r:Aa),ops[s+i]? =some o→seg[i]? =some r→Bh P ops n o=some r:=fun i o r ho hr=>by
      refine hres i o r ho ?_;rw[ZQ (ZB.1 hr).1];exact hr
     have:=Al3 (fl:=fl) hn D (Abg (by omega) h1) h2 hres' hrest;intro fuel listed st a w q1 q2 q3 q4;exact this fuel listed st a w q1 q2 (by simpa only[wpS,hlt,hch,htw]using q3) q4
 |[r]::ss,s,h,hl,hres=>by
  simp only[Ec,ZO,Bool.or_eq_true,decide_eq_true_eq]at h;obtain⟨⟨⟨h0,h1⟩,h2⟩,h3⟩:=h;simp only[Ez]at hl hres;rw[ZF]at hl;have hrest:=Hd hn hdie D hK ss (s+[r].length) h3 (by omega) (fun i o r' ho hr=>by
   refine hres ([r].length+i) o r' (by rw[←Nat.add_assoc];exact ho) ?_;rw[ZP (by omega),show [r].length+i - [r].length=i by omega];exact hr)
  have:=Acz hn hdie D (s:=s) (r:=r) (by simp at hl;omega) h2 (fun o ho=>hres 0 o r (by simpa using ho) rfl) hrest;intro fuel listed st a w q1 q2 q3 q4;exact this fuel listed st a w q1 q2 (by simpa only[wpS]using q3) q4
 |(r1::r2::seg)::ss,s,h,hl,hres=>by
  simp only[Ec,ZO,Bool.or_eq_true,decide_eq_true_eq]at h;obtain⟨⟨⟨h0,h1⟩,h2⟩,h3⟩:=h;simp only[Ez]at hl hres;rw[ZF]at hl;have hrest:=Hd hn hdie D hK ss (s+(r1::r2::seg).length) h3 (by omega) (fun i o r ho hr=>by
   refine hres ((r1::r2::seg).length+i) o r (by rw[←Nat.add_assoc];exact ho) ?_;rw[ZP (by omega),show(r1::r2::seg).length+i-(r1::r2::seg).length=i by omega];exact hr)
  have hres':∀(i:Nat) (o:Oper) (r:Aa),ops[s+i]? =some o→(r1::r2::seg)[i]? =some r→Bh P ops n o=some r:=fun i o r ho hr=>by
   refine hres i o r ho ?_;rw[ZQ (ZB.1 hr).1];exact hr
  have h1':Ada ops s (r1::r2::seg)=true:=by
   rcases h1 with q|q
   ·simp at q
   ·exact q
  have:=Amk hn D (Up (by omega) h1') h2 hres' hrest;intro fuel listed st a w q1 q2 q3 q4;exact this fuel listed st a w q1 q2 (by simpa only[wpS]using q3) q4
 |[]::[],s,h,hl,hres=>by
  simp[Ec]at h
 |[]::[fl],s,h,hl,hres=>by
  simp[Ec]at h
theorem Aej[Glob]{c:Ctx}(hn:c.n=n)(hdie:Og c Q)(hm:P.follows .mixedOrders=true){rs:List Aa}{segs:List (List Aa)}{id:Nat}{K:St→Prop}{st:St}{a:Act}{w:World}(hd:Aqm ops rs segs=true)(hfl:Ez segs=rs)(hmap:ops.toList.mapM (Bh P ops n)=some rs)(h:wpS P segs st K)(hR:Rel c st a w)(hK:∀st' a' w',K st'→Rel c st' a' w'→Q .normal a' w'):(Code.region id ops true).wp P Q a w:=by
 unfold Aqm at hd;simp only[ZO,decide_eq_true_eq]at hd;obtain⟨⟨⟨d1,d2⟩,d3⟩,d4⟩:=hd;have hres:∀(i:Nat) (o:Oper) (r:Aa),ops[i]? =some o→rs[i]? =some r→Bh P ops n o=some r:=by
  have key:∀(l:List Oper) (rl:List Aa),l.mapM (Bh P ops n)=some rl→∀(i:Nat) (o:Oper) (r:Aa),l[i]? =some o→rl[i]? =some r→Bh P ops n o=some r:=by
   intro l
   induction l with
   |nil=>intro rl _ i o r ho;simp at ho
   |cons o l ih=>
    intro rl hm i o' r' ho hr;rw[List.mapM_cons]at hm;simp only[Option.bind_eq_bind,XS,Option.pure_def,ZD]at hm;obtain⟨r,h1,rs,h2,rfl⟩:=hm;cases i with
    |zero=>simp at ho hr;subst ho hr;exact h1
    |succ i=>exact ih rs h2 i o' r' (by simpa using ho) (by simpa using hr)
  intro i o r ho hr;exact key _ _ hmap i o r (by simpa using ho) hr
 have hfrom:=Hd (P:=P) (c:=c) (Q:=Q) hn hdie (Abp d3) hK segs 0 d4 (by omega) (fun i o r ho hr=>hres i o r (by simpa using ho) (by rw[←hfl];exact hr));obtain⟨R,G,hR⟩:=hR;have hR0:Rel c st a {w with drawn:=w.drawn+1} :=⟨R,G,hR.quiet ⟨rfl,rfl,rfl,ZT _,fun _ _ _=>rfl⟩⟩;refine wp_region_any hm ?_;have hfalse:∀i,i<ops.size→(Array.replicate ops.size false).getD i true=false:=fun i hi=>by simp[Array.getD_eq_getD_getElem?,hi]
 have hu:unl ops (Array.replicate ops.size false)=ops.size:=by
  unfold unl;have:(List.range ops.size).countP (fun i=> !(Array.replicate ops.size false).getD i true)=(List.range ops.size).length:=by
   rw[List.countP_eq_length];intro i hi;rw[hfalse i (List.mem_range.1 hi)];rfl
  rw[this];simp
 exact hfrom ops.size _ st a _ hu ⟨by simp,fun i j hi hl=>(by rw[hfalse i hi]at hl;cases hl),fun i hi=>by omega,fun i _ hi=>hfalse i hi⟩ h hR0
end
end
end Go.Proofs.YtchbkgnobpejnaaGreatDoor
