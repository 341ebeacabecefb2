/- The framework: part of this claim. -/
import Derived.Test.YtkbjgdcdjccnaaaGreatDoorWAbsT
set_option linter.unusedSimpArgs false
set_option linter.unusedVariables false
namespace Go.Proofs.YtkbjgdcdjccnaaaGreatDoor
open Go.RowKit
section
variable {P:Program} {c:Ctx} {Q:Exit→Act→World→Prop} {ops:Array Oper} {n:Nat} {g:Nat→Nat}
section
variable [Off]
def H8:List Ac→Option Ac
 |r::_=>bif K1 r.op then some r else none
 |[]=>none
def wpS(P:Program):List (List Ac)→St→(St→Prop)→Prop
 |[],st,K=>K st
 |[]::fl::seg::ss,st,K=>match H8 fl with
  |some r=>wpD P seg st fun st'=>wpR P [r] st' fun st''=>Kd fl.tail st'.env st'.H st''.H seg (wpS P ss st'' K)
  |none=>match Adf fl with
   |true=>M9 P 5 (seg.take 2) (seg.drop 2) st fun st'=>wpS P ss st' K
   |false=>wpM P fl seg st fun st'=>wpS P ss st' K
 |[r]::ss,st,K=>wpR P [r] st fun st'=>wpS P ss st' K
 |seg::ss,st,K=>wpD P seg st fun st'=>wpS P ss st' K
def Gr:List (List Ac)→List Ac
 |[]=>[]
 |[]::fl::seg::ss=>match H8 fl with
  |some r=>seg++([r]++Gr ss)
  |none=>seg++Gr ss
 |seg::ss=>seg++Gr ss
def Fy(ops:Array Oper)(ms:List Nat):Nat→List (List Ac)→Bool
 |s,[]=>decide (s=ops.size)
 |s,[]::fl::seg::ss=>match H8 fl with
  |some r=>Al7 ops ms s seg r fl.tail&&Fy ops ms (s+seg.length+1) ss
  |none=>match Adf fl with
   |true=>Adc ms s seg&&Lt ms (s+seg.length)&&Fy ops ms (s+seg.length) ss
   |false=>decide (0<seg.length)&&Ajy ops ms s seg fl&&Lt ms (s+seg.length)&&Fy ops ms (s+seg.length) ss
 |s,seg::ss=>decide (0<seg.length)&&(decide (seg.length=1)||Ahd ops s seg)&&Lt ms (s+seg.length)&&Fy ops ms (s+seg.length) ss
def Lr(ms:List Nat)(s m:Nat):Nat→List Ac→List Ac
 |_,[]=>[]
 |i,r::rs=>if i==m||decide (i<m∧(ms.getD (s+m) 0).testBit (s+i)=true)||decide (m<i∧(ms.getD (s+i) 0).testBit (s+m)=true)then Lr ms s m (i+1) rs else⟨r.dst,none,.mkm⟩::Lr ms s m (i+1) rs
def Ay5(ms:List Nat)(s:Nat)(r:Ac)(seg:List Ac):Bool:=
 K1 r.op&&((List.range seg.length).any fun i=> !((ms.getD (s+seg.length) 0).testBit (s+i)))&&
 (List.range seg.length).all fun i=>match seg[i]? with
  |some q=>(ms.getD (s+seg.length) 0).testBit (s+i)||(Ag9 q&& !(r.reads.contains q.d)&& !(r.d==q.d)&& !(q.reads.contains r.d)&&seg.all fun q'=> !(q.reads.contains q'.d))
  |none=>false
def Axw(ms:List Nat)(s:Nat)(r:Ac)(seg:List Ac):List Ac:=
 (List.range seg.length).filterMap fun i=>match seg[i]? with
  |some q=>if !((ms.getD (s+seg.length) 0).testBit (s+i))&& !(Ag9 q)then some ⟨q.dst,none,.mkm⟩else none
  |none=>none
def Axt:ROp→Bool
 |.app _ _ _ _ _ _=>true
 |_=>false
def Bah:ROp→Bool
 |.fldA _ _=>true
 |_=>false
def Be4:ROp→Bool
 |.load _ _ _=>true
 |_=>false
def Arw(ms:List Nat)(s:Nat)(r:Ac)(seg:List Ac):Bool:=
 K1 r.op&&(Axt r.op||(List.range seg.length).any fun i=>match seg[i]? with
  |some q=> !((ms.getD (s+seg.length) 0).testBit (s+i))&&Bah q.op
  |none=>false)&&
 ((List.range seg.length).all fun i=>match seg[i]? with
  |some q=>(ms.getD (s+seg.length) 0).testBit (s+i)||(Bab q&&(Axt r.op|| !(Be4 q.op))&& !(r.reads.contains q.d)&& !(r.d==q.d)&& !(q.reads.contains r.d))
  |none=>false)
def Ata:List Ac→Bool
 |[r]=>Ag1 r.op
 |_=>false
def Rp(ms:List Nat):Nat→List (List Ac)→List (List Ac)
 |_,[]=>[]
 |s,seg::ss=>if Ayi seg&&Adc ms s seg then []::[⟨none,none,.mkm⟩]::seg::Rp ms (s+seg.length) ss else if decide (1<seg.length)&&seg.any (fun r=>Ag1 r.op)then []::Lr ms s (Ck seg) 0 seg::seg::Rp ms (s+seg.length) ss else match seg.getLast? with
  |some r=>if decide (1<seg.length)&&Ay5 ms s r seg.dropLast&&ss.any Ata then []::[r]::seg.dropLast::Rp ms (s+seg.length) ss else if decide (1<seg.length)&&Arw ms s r seg.dropLast then []::(r::Axw ms s r seg.dropLast)::seg.dropLast::Rp ms (s+seg.length) ss else seg::Rp ms (s+seg.length) ss
  |none=>seg::Rp ms (s+seg.length) ss
def Ao6(ops:Array Oper)(rs:List Ac):List (List Ac):=Rp (Cc ops) 0 (Asc ops rs)
def Azq(ops:Array Oper)(rs:List Ac)(segs:List (List Ac)):Bool:=
 decide ((Gr segs).length=rs.length)&&decide (rs.length=ops.size)&&Aks ops&&Fy ops (Cc ops) 0 segs
theorem J3(hn:c.n=n)(hdie:Te c Q)(D:Q6 ops){K:St→Prop}(hK:∀st' a' w',K st'→Rel c st' a' w'→Q .normal a' w'):∀(segs:List (List Ac)) (s:Nat),Fy ops (Cc ops) s segs=true→s+(Gr segs).length=ops.size→
  (∀(i:Nat) (o:Oper) (r:Ac),ops[s+i]? =some o→(Gr segs)[i]? =some r→B4 P ops n o=some r)→Pg P c ops Q s (fun st=>wpS P segs st K)
 |[],s,h,hl,hres=>by
  have hs:s=ops.size:=by simpa[Gr]using hl
  subst hs;exact Ars hK
 |[]::fl::seg::ss,s,h,hl,hres=>by
  cases hlt:H8 fl with
  |some r=>
   simp only[Fy,hlt,ZO]at h;obtain⟨h1,h3⟩:=h;simp only[Gr,hlt]at hl hres;rw[ZF,ZF,List.length_singleton]at hl;have L:=Ag7 h1;have hrest:=J3 hn hdie D hK ss (s+seg.length+1) h3 (by omega) (fun i o q ho hr=>by
    refine hres (seg.length+1+i) o q (by rw[show s+(seg.length+1+i)=s+seg.length+1+i by omega];exact ho) ?_;rw[ZP (by omega),ZP (by simp;omega)];rw[List.length_singleton,show seg.length+1+i-seg.length-1=i by omega];exact hr)
   have hres':∀(i:Nat) (o:Oper) (q:Ac),ops[s+i]? =some o→seg[i]? =some q→B4 P ops n o=some q:=fun i o q ho hr=>by
    refine hres i o q ho ?_;rw[ZQ (ZB.1 hr).1];exact hr
   have hresr:∀o,ops[s+seg.length]? =some o→B4 P ops n o=some r:=fun o ho=>by
    refine hres seg.length o r ho ?_;rw[ZP (ZT _),Nat.sub_self];rfl
   have:=Aq2 hn hdie D L hres' hresr hrest;intro fuel listed st a w q1 q2 q3 q4;exact this fuel listed st a w q1 q2 (by simpa only[wpS,hlt]using q3) q4
  |none=>
   cases htw:Adf fl with
   |true=>
    simp only[Fy,hlt,htw,ZO]at h;obtain⟨⟨h1,h2⟩,h3⟩:=h;simp only[Gr,hlt]at hl hres;rw[ZF]at hl;have h5:=Ad9 h1;have hrest:=J3 hn hdie D hK ss (s+seg.length) h3 (by omega) (fun i o r ho hr=>by
     refine hres (seg.length+i) o r (by rw[←Nat.add_assoc];exact ho) ?_;rw[ZP (by omega),show seg.length+i-seg.length=i by omega];exact hr)
    have hres':∀(i:Nat) (o:Oper) (r:Ac),ops[s+i]? =some o→seg[i]? =some r→B4 P ops n o=some r:=fun i o r ho hr=>by
     refine hres i o r ho ?_;rw[ZQ (ZB.1 hr).1];exact hr
    have e1:(seg.take 2).length=2:=by rw[ZM];omega
    have e2:(seg.drop 2).length=3:=by rw[List.length_drop];omega
    have:=Atq hn hdie D (s:=s) (A:=seg.take 2) (B:=seg.drop 2) (by omega) (Aje h1) (by rw[e1,e2];rw[h5]at h2;exact h2)
     (fun k o r ho hr=>hres' k o r ho (by
      have hk:k<2:=by have:=(ZB.1 hr).1;omega
      rwa[XA hk]at hr))
     (fun k o r ho hr=>hres' (2+k) o r (by rw[e1]at ho;rwa[←Nat.add_assoc]) (by rwa[List.getElem?_drop]at hr))
     (by rw[e1,e2];rw[h5]at hrest;exact hrest)
    rw[e1,e2]at this;intro fuel listed st a w q1 q2 q3 q4;exact this fuel listed st a w q1 q2 (by simpa only[wpS,hlt,htw]using q3) q4
   |false=>
    simp only[Fy,hlt,htw,ZO,decide_eq_true_eq]at h;obtain⟨⟨⟨h0,h1⟩,h2⟩,h3⟩:=h;simp only[Gr,hlt]at hl hres;rw[ZF]at hl;have hrest:=J3 hn hdie D hK ss (s+seg.length) h3 (by omega) (fun i o r ho hr=>by
     refine hres (seg.length+i) o r (by rw[←Nat.add_assoc];exact ho) ?_;rw[ZP (by omega),show seg.length+i-seg.length=i by omega];exact hr)
    have hres':∀(i:Nat) (o:Oper) (r:Ac),ops[s+i]? =some o→seg[i]? =some r→B4 P ops n o=some r:=fun i o r ho hr=>by
     refine hres i o r ho ?_;rw[ZQ (ZB.1 hr).1];exact hr
    have:=At9 (fl:=fl) hn D (Aes (by omega) h1) h2 hres' hrest;intro fuel listed st a w q1 q2 q3 q4;exact this fuel listed st a w q1 q2 (by simpa only[wpS,hlt,htw]using q3) q4
 |[r]::ss,s,h,hl,hres=>by
  simp only[Fy,ZO,Bool.or_eq_true,decide_eq_true_eq]at h;obtain⟨⟨⟨h0,h1⟩,h2⟩,h3⟩:=h;simp only[Gr]at hl hres;rw[ZF]at hl;have hrest:=J3 hn hdie D hK ss (s+[r].length) h3 (by omega) (fun i o r' ho hr=>by
   refine hres ([r].length+i) o r' (by rw[←Nat.add_assoc];exact ho) ?_;rw[ZP (by omega),show [r].length+i - [r].length=i by omega];exact hr)
  have:=Ags hn hdie D (s:=s) (r:=r) (by simp at hl;omega) h2 (fun o ho=>hres 0 o r (by simpa using ho) rfl) hrest;intro fuel listed st a w q1 q2 q3 q4;exact this fuel listed st a w q1 q2 (by simpa only[wpS]using q3) q4
 |(r1::r2::seg)::ss,s,h,hl,hres=>by
  simp only[Fy,ZO,Bool.or_eq_true,decide_eq_true_eq]at h;obtain⟨⟨⟨h0,h1⟩,h2⟩,h3⟩:=h;simp only[Gr]at hl hres;rw[ZF]at hl;have hrest:=J3 hn hdie D hK ss (s+(r1::r2::seg).length) h3 (by omega) (fun i o r ho hr=>by
   refine hres ((r1::r2::seg).length+i) o r (by rw[←Nat.add_assoc];exact ho) ?_;rw[ZP (by omega),show(r1::r2::seg).length+i-(r1::r2::seg).length=i by omega];exact hr)
  have hres':∀(i:Nat) (o:Oper) (r:Ac),ops[s+i]? =some o→(r1::r2::seg)[i]? =some r→B4 P ops n o=some r:=fun i o r ho hr=>by
   refine hres i o r ho ?_;rw[ZQ (ZB.1 hr).1];exact hr
  have h1':Ahd ops s (r1::r2::seg)=true:=by
   rcases h1 with q|q
   ·simp at q
   ·exact q
  have:=Aue hn D (Xn (by omega) h1') h2 hres' hrest;intro fuel listed st a w q1 q2 q3 q4;exact this fuel listed st a w q1 q2 (by simpa only[wpS]using q3) q4
 |[]::[],s,h,hl,hres=>by
  simp[Fy]at h
 |[]::[fl],s,h,hl,hres=>by
  simp[Fy]at h
theorem Akt(hn:c.n=n)(hdie:Te c Q)(hm:P.follows .mixedOrders=true){rs:List Ac}{segs:List (List Ac)}{id:Nat}{K:St→Prop}{st:St}{a:Act}{w:World}(hd:Azq ops rs segs=true)(hfl:Gr segs=rs)(hmap:ops.toList.mapM (B4 P ops n)=some rs)(h:wpS P segs st K)(hR:Rel c st a w)(hK:∀st' a' w',K st'→Rel c st' a' w'→Q .normal a' w'):(Code.region id ops true).wp P Q a w:=by
 unfold Azq at hd;simp only[ZO,decide_eq_true_eq]at hd;obtain⟨⟨⟨d1,d2⟩,d3⟩,d4⟩:=hd;have hres:∀(i:Nat) (o:Oper) (r:Ac),ops[i]? =some o→rs[i]? =some r→B4 P ops n o=some r:=by
  have key:∀(l:List Oper) (rl:List Ac),l.mapM (B4 P ops n)=some rl→∀(i:Nat) (o:Oper) (r:Ac),l[i]? =some o→rl[i]? =some r→B4 P ops n o=some r:=by
   intro l
   induction l with
   |nil=>intro rl _ i o r ho;simp at ho
   |cons o l ih=>
    intro rl hm i o' r' ho hr;rw[List.mapM_cons]at hm;simp only[Option.bind_eq_bind,XS,Option.pure_def,ZD]at hm;obtain⟨r,h1,rs,h2,rfl⟩:=hm;cases i with
    |zero=>simp at ho hr;subst ho hr;exact h1
    |succ i=>exact ih rs h2 i o' r' (by simpa using ho) (by simpa using hr)
  intro i o r ho hr;exact key _ _ hmap i o r (by simpa using ho) hr
 have hfrom:=J3 (P:=P) (c:=c) (Q:=Q) hn hdie (Aj4 d3) hK segs 0 d4 (by omega) (fun i o r ho hr=>hres i o r (by simpa using ho) (by rw[←hfl];exact hr));obtain⟨R,G,hR⟩:=hR;have hR0:Rel c st a {w with drawn:=w.drawn+1} :=⟨R,G,hR.quiet ⟨rfl,rfl,rfl,ZT _,fun _ _ _=>rfl⟩⟩;refine wp_region_any hm ?_;have hfalse:∀i,i<ops.size→(Array.replicate ops.size false).getD i true=false:=fun i hi=>by simp[Array.getD_eq_getD_getElem?,hi]
 have hu:unl ops (Array.replicate ops.size false)=ops.size:=by
  unfold unl;have:(List.range ops.size).countP (fun i=> !(Array.replicate ops.size false).getD i true)=(List.range ops.size).length:=by
   rw[List.countP_eq_length];intro i hi;rw[hfalse i (List.mem_range.1 hi)];rfl
  rw[this];simp
 exact hfrom ops.size _ st a _ hu ⟨by simp,fun i j hi hl=>(by rw[hfalse i hi]at hl;cases hl),fun i hi=>by omega,fun i _ hi=>hfalse i hi⟩ h hR0
end
end
end Go.Proofs.YtkbjgdcdjccnaaaGreatDoor
