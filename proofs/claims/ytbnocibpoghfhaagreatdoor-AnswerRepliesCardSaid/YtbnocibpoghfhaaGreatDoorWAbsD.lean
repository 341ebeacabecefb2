/- The framework: part of this claim. -/
import Derived.Test.YtbnocibpoghfhaaGreatDoorWAbsT
set_option linter.unusedSimpArgs false
set_option linter.unusedVariables false
namespace Go.Proofs.YtbnocibpoghfhaaGreatDoor
open Go.RowKit
section
variable {P:Program} {c:Ctx} {Q:Exit→Act→World→Prop} {ops:Array Oper} {n:Nat} {g:Nat→Nat}
def Ia:List Ac→Option Ac
 |r::_=>bif Mo r.op then some r else none
 |[]=>none
def wpS(P:Program):List (List Ac)→St→(St→Prop)→Prop
 |[],st,K=>K st
 |[]::fl::seg::ss,st,K=>match Ia fl with
  |some r=>wpD P seg st fun st'=>wpR P [r] st' fun st''=>K9 fl.tail st'.env st'.H st''.H seg (wpS P ss st'' K)
  |none=>match Acj fl with
   |true=>N0 P 5 (seg.take 2) (seg.drop 2) st fun st'=>wpS P ss st' K
   |false=>wpM P fl seg st fun st'=>wpS P ss st' K
 |[r]::ss,st,K=>wpR P [r] st fun st'=>wpS P ss st' K
 |seg::ss,st,K=>wpD P seg st fun st'=>wpS P ss st' K
def Gw:List (List Ac)→List Ac
 |[]=>[]
 |[]::fl::seg::ss=>match Ia fl with
  |some r=>seg++([r]++Gw ss)
  |none=>seg++Gw ss
 |seg::ss=>seg++Gw ss
def Gl(ops:Array Oper)(ms:List Nat):Nat→List (List Ac)→Bool
 |s,[]=>decide (s=ops.size)
 |s,[]::fl::seg::ss=>match Ia fl with
  |some r=>Akq ops ms s seg r fl.tail&&Gl ops ms (s+seg.length+1) ss
  |none=>match Acj fl with
   |true=>Acw ms s seg&&Mh ms (s+seg.length)&&Gl ops ms (s+seg.length) ss
   |false=>decide (0<seg.length)&&Akv ops ms s seg fl&&Mh ms (s+seg.length)&&Gl ops ms (s+seg.length) ss
 |s,seg::ss=>decide (0<seg.length)&&(decide (seg.length=1)||Ahw ops s seg)&&Mh ms (s+seg.length)&&Gl ops ms (s+seg.length) ss
def Mg(ms:List Nat)(s m:Nat):Nat→List Ac→List Ac
 |_,[]=>[]
 |i,r::rs=>if i==m||decide (i<m∧(ms.getD (s+m) 0).testBit (s+i)=true)||decide (m<i∧(ms.getD (s+i) 0).testBit (s+m)=true)then Mg ms s m (i+1) rs else⟨r.dst,none,.mkm⟩::Mg ms s m (i+1) rs
def Avd(ms:List Nat)(s:Nat)(r:Ac)(seg:List Ac):Bool:=
 Mo r.op&&((List.range seg.length).any fun i=> !((ms.getD (s+seg.length) 0).testBit (s+i)))&&
 (List.range seg.length).all fun i=>match seg[i]? with
  |some q=>(ms.getD (s+seg.length) 0).testBit (s+i)||(Aff q&& !(r.reads.contains q.d)&& !(r.d==q.d)&& !(q.reads.contains r.d)&&seg.all fun q'=> !(q.reads.contains q'.d))
  |none=>false
def Avi(ms:List Nat)(s:Nat)(r:Ac)(seg:List Ac):List Ac:=
 (List.range seg.length).filterMap fun i=>match seg[i]? with
  |some q=>if !((ms.getD (s+seg.length) 0).testBit (s+i))&& !(Aff q)then some ⟨q.dst,none,.mkm⟩else none
  |none=>none
def Avn:ROp→Bool
 |.app _ _ _ _ _ _=>true
 |_=>false
def Axo:ROp→Bool
 |.fldA _ _=>true
 |_=>false
def Bag:ROp→Bool
 |.load _ _ _=>true
 |_=>false
def Apo(ms:List Nat)(s:Nat)(r:Ac)(seg:List Ac):Bool:=
 Mo r.op&&(Avn r.op||(List.range seg.length).any fun i=>match seg[i]? with
  |some q=> !((ms.getD (s+seg.length) 0).testBit (s+i))&&Axo q.op
  |none=>false)&&
 ((List.range seg.length).all fun i=>match seg[i]? with
  |some q=>(ms.getD (s+seg.length) 0).testBit (s+i)||(Aw1 q&&(Avn r.op|| !(Bag q.op))&& !(r.reads.contains q.d)&& !(r.d==q.d)&& !(q.reads.contains r.d))
  |none=>false)
def Ar4:List Ac→Bool
 |[r]=>Aem r.op
 |_=>false
def S1(ms:List Nat):Nat→List (List Ac)→List (List Ac)
 |_,[]=>[]
 |s,seg::ss=>if Axl seg&&Acw ms s seg then []::[⟨none,none,.mkm⟩]::seg::S1 ms (s+seg.length) ss else if decide (1<seg.length)&&seg.any (fun r=>Aem r.op)then []::Mg ms s (Cw seg) 0 seg::seg::S1 ms (s+seg.length) ss else match seg.getLast? with
  |some r=>if decide (1<seg.length)&&Avd ms s r seg.dropLast&&ss.any Ar4 then []::[r]::seg.dropLast::S1 ms (s+seg.length) ss else if decide (1<seg.length)&&Apo ms s r seg.dropLast then []::(r::Avi ms s r seg.dropLast)::seg.dropLast::S1 ms (s+seg.length) ss else seg::S1 ms (s+seg.length) ss
  |none=>seg::S1 ms (s+seg.length) ss
def Alg(ops:Array Oper)(rs:List Ac):List (List Ac):=S1 (Co ops) 0 (Arv ops rs)
def Ay6(ops:Array Oper)(rs:List Ac)(segs:List (List Ac)):Bool:=
 decide ((Gw segs).length=rs.length)&&decide (rs.length=ops.size)&&Akg ops&&Gl ops (Co ops) 0 segs
theorem Ke(hn:c.n=n)(hdie:Ul c Q)(D:Ss ops){K:St→Prop}(hK:∀st' a' w',K st'→Rel c st' a' w'→Q .normal a' w'):∀(segs:List (List Ac)) (s:Nat),Gl ops (Co ops) s segs=true→s+(Gw segs).length=ops.size→
  (∀(i:Nat) (o:Oper) (r:Ac),ops[s+i]? =some o→(Gw segs)[i]? =some r→Cb P ops n o=some r)→Qq P c ops Q s (fun st=>wpS P segs st K)
 |[],s,h,hl,hres=>by
  have hs:s=ops.size:=by simpa[Gw]using hl
  subst hs;exact Ase hK
 |[]::fl::seg::ss,s,h,hl,hres=>by
  cases hlt:Ia fl with
  |some r=>
   simp only[Gl,hlt,ZO]at h;obtain⟨h1,h3⟩:=h;simp only[Gw,hlt]at hl hres;rw[ZF,ZF,List.length_singleton]at hl;have L:=Ae7 h1;have hrest:=Ke hn hdie D hK ss (s+seg.length+1) h3 (by omega) (fun i o q ho hr=>by
    refine hres (seg.length+1+i) o q (by rw[show s+(seg.length+1+i)=s+seg.length+1+i by omega];exact ho) ?_;rw[ZP (by omega),ZP (by simp;omega)];rw[List.length_singleton,show seg.length+1+i-seg.length-1=i by omega];exact hr)
   have hres':∀(i:Nat) (o:Oper) (q:Ac),ops[s+i]? =some o→seg[i]? =some q→Cb P ops n o=some q:=fun i o q ho hr=>by
    refine hres i o q ho ?_;rw[ZQ (ZB.1 hr).1];exact hr
   have hresr:∀o,ops[s+seg.length]? =some o→Cb P ops n o=some r:=fun o ho=>by
    refine hres seg.length o r ho ?_;rw[ZP (ZT _),Nat.sub_self];rfl
   have:=Aop hn hdie D L hres' hresr hrest;intro fuel listed st a w q1 q2 q3 q4;exact this fuel listed st a w q1 q2 (by simpa only[wpS,hlt]using q3) q4
  |none=>
   cases htw:Acj fl with
   |true=>
    simp only[Gl,hlt,htw,ZO]at h;obtain⟨⟨h1,h2⟩,h3⟩:=h;simp only[Gw,hlt]at hl hres;rw[ZF]at hl;have h5:=Ad5 h1;have hrest:=Ke hn hdie D hK ss (s+seg.length) h3 (by omega) (fun i o r ho hr=>by
     refine hres (seg.length+i) o r (by rw[←Nat.add_assoc];exact ho) ?_;rw[ZP (by omega),show seg.length+i-seg.length=i by omega];exact hr)
    have hres':∀(i:Nat) (o:Oper) (r:Ac),ops[s+i]? =some o→seg[i]? =some r→Cb P ops n o=some r:=fun i o r ho hr=>by
     refine hres i o r ho ?_;rw[ZQ (ZB.1 hr).1];exact hr
    have e1:(seg.take 2).length=2:=by rw[ZM];omega
    have e2:(seg.drop 2).length=3:=by rw[List.length_drop];omega
    have:=Aqt hn hdie D (s:=s) (A:=seg.take 2) (B:=seg.drop 2) (by omega) (Ai6 h1) (by rw[e1,e2];rw[h5]at h2;exact h2)
     (fun k o r ho hr=>hres' k o r ho (by
      have hk:k<2:=by have:=(ZB.1 hr).1;omega
      rwa[XA hk]at hr))
     (fun k o r ho hr=>hres' (2+k) o r (by rw[e1]at ho;rwa[←Nat.add_assoc]) (by rwa[List.getElem?_drop]at hr))
     (by rw[e1,e2];rw[h5]at hrest;exact hrest)
    rw[e1,e2]at this;intro fuel listed st a w q1 q2 q3 q4;exact this fuel listed st a w q1 q2 (by simpa only[wpS,hlt,htw]using q3) q4
   |false=>
    simp only[Gl,hlt,htw,ZO,decide_eq_true_eq]at h;obtain⟨⟨⟨h0,h1⟩,h2⟩,h3⟩:=h;simp only[Gw,hlt]at hl hres;rw[ZF]at hl;have hrest:=Ke hn hdie D hK ss (s+seg.length) h3 (by omega) (fun i o r ho hr=>by
     refine hres (seg.length+i) o r (by rw[←Nat.add_assoc];exact ho) ?_;rw[ZP (by omega),show seg.length+i-seg.length=i by omega];exact hr)
    have hres':∀(i:Nat) (o:Oper) (r:Ac),ops[s+i]? =some o→seg[i]? =some r→Cb P ops n o=some r:=fun i o r ho hr=>by
     refine hres i o r ho ?_;rw[ZQ (ZB.1 hr).1];exact hr
    have:=Ars (fl:=fl) hn D (Af2 (by omega) h1) h2 hres' hrest;intro fuel listed st a w q1 q2 q3 q4;exact this fuel listed st a w q1 q2 (by simpa only[wpS,hlt,htw]using q3) q4
 |[r]::ss,s,h,hl,hres=>by
  simp only[Gl,ZO,Bool.or_eq_true,decide_eq_true_eq]at h;obtain⟨⟨⟨h0,h1⟩,h2⟩,h3⟩:=h;simp only[Gw]at hl hres;rw[ZF]at hl;have hrest:=Ke hn hdie D hK ss (s+[r].length) h3 (by omega) (fun i o r' ho hr=>by
   refine hres ([r].length+i) o r' (by rw[←Nat.add_assoc];exact ho) ?_;rw[ZP (by omega),show [r].length+i - [r].length=i by omega];exact hr)
  have:=Aig hn hdie D (s:=s) (r:=r) (by simp at hl;omega) h2 (fun o ho=>hres 0 o r (by simpa using ho) rfl) hrest;intro fuel listed st a w q1 q2 q3 q4;exact this fuel listed st a w q1 q2 (by simpa only[wpS]using q3) q4
 |(r1::r2::seg)::ss,s,h,hl,hres=>by
  simp only[Gl,ZO,Bool.or_eq_true,decide_eq_true_eq]at h;obtain⟨⟨⟨h0,h1⟩,h2⟩,h3⟩:=h;simp only[Gw]at hl hres;rw[ZF]at hl;have hrest:=Ke hn hdie D hK ss (s+(r1::r2::seg).length) h3 (by omega) (fun i o r ho hr=>by
   refine hres ((r1::r2::seg).length+i) o r (by rw[←Nat.add_assoc];exact ho) ?_;rw[ZP (by omega),show(r1::r2::seg).length+i-(r1::r2::seg).length=i by omega];exact hr)
  have hres':∀(i:Nat) (o:Oper) (r:Ac),ops[s+i]? =some o→(r1::r2::seg)[i]? =some r→Cb P ops n o=some r:=fun i o r ho hr=>by
   refine hres i o r ho ?_;rw[ZQ (ZB.1 hr).1];exact hr
  have h1':Ahw ops s (r1::r2::seg)=true:=by
   rcases h1 with q|q
   ·simp at q
   ·exact q
  have:=Aqp hn D (X0 (by omega) h1') h2 hres' hrest;intro fuel listed st a w q1 q2 q3 q4;exact this fuel listed st a w q1 q2 (by simpa only[wpS]using q3) q4
 |[]::[],s,h,hl,hres=>by
  simp[Gl]at h
 |[]::[fl],s,h,hl,hres=>by
  simp[Gl]at h
theorem Ajm(hn:c.n=n)(hdie:Ul c Q)(hm:P.follows .mixedOrders=true){rs:List Ac}{segs:List (List Ac)}{id:Nat}{K:St→Prop}{st:St}{a:Act}{w:World}(hd:Ay6 ops rs segs=true)(hfl:Gw segs=rs)(hmap:ops.toList.mapM (Cb P ops n)=some rs)(h:wpS P segs st K)(hR:Rel c st a w)(hK:∀st' a' w',K st'→Rel c st' a' w'→Q .normal a' w'):(Code.region id ops true).wp P Q a w:=by
 unfold Ay6 at hd;simp only[ZO,decide_eq_true_eq]at hd;obtain⟨⟨⟨d1,d2⟩,d3⟩,d4⟩:=hd;have hres:∀(i:Nat) (o:Oper) (r:Ac),ops[i]? =some o→rs[i]? =some r→Cb P ops n o=some r:=by
  have key:∀(l:List Oper) (rl:List Ac),l.mapM (Cb P ops n)=some rl→∀(i:Nat) (o:Oper) (r:Ac),l[i]? =some o→rl[i]? =some r→Cb P ops n o=some r:=by
   intro l
   induction l with
   |nil=>intro rl _ i o r ho;simp at ho
   |cons o l ih=>
    intro rl hm i o' r' ho hr;rw[List.mapM_cons]at hm;simp only[Option.bind_eq_bind,XS,Option.pure_def,ZD]at hm;obtain⟨r,h1,rs,h2,rfl⟩:=hm;cases i with
    |zero=>simp at ho hr;subst ho hr;exact h1
    |succ i=>exact ih rs h2 i o' r' (by simpa using ho) (by simpa using hr)
  intro i o r ho hr;exact key _ _ hmap i o r (by simpa using ho) hr
 have hfrom:=Ke (P:=P) (c:=c) (Q:=Q) hn hdie (Aiw d3) hK segs 0 d4 (by omega) (fun i o r ho hr=>hres i o r (by simpa using ho) (by rw[←hfl];exact hr));obtain⟨R,G,hR⟩:=hR;have hR0:Rel c st a {w with drawn:=w.drawn+1} :=⟨R,G,hR.quiet ⟨rfl,rfl,rfl,ZT _,fun _ _ _=>rfl⟩⟩;refine wp_region_any hm ?_;have hfalse:∀i,i<ops.size→(Array.replicate ops.size false).getD i true=false:=fun i hi=>by simp[Array.getD_eq_getD_getElem?,hi]
 have hu:unl ops (Array.replicate ops.size false)=ops.size:=by
  unfold unl;have:(List.range ops.size).countP (fun i=> !(Array.replicate ops.size false).getD i true)=(List.range ops.size).length:=by
   rw[List.countP_eq_length];intro i hi;rw[hfalse i (List.mem_range.1 hi)];rfl
  rw[this];simp
 exact hfrom ops.size _ st a _ hu ⟨by simp,fun i j hi hl=>(by rw[hfalse i hi]at hl;cases hl),fun i hi=>by omega,fun i _ hi=>hfalse i hi⟩ h hR0
end
end Go.Proofs.YtbnocibpoghfhaaGreatDoor
