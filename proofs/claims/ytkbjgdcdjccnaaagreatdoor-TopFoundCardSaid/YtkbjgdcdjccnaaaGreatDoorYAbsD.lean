/- The framework: part of this claim. -/
import Derived.Test.YtkbjgdcdjccnaaaGreatDoorYAbsT
set_option linter.unusedSimpArgs false
set_option linter.unusedVariables false
namespace Go.Proofs.YtkbjgdcdjccnaaaGreatDoor
open Go.RowKit
section
variable {P:Program} {c:Ctx} {Q:Exit→Act→World→Prop} {ops:Array Oper} {n:Nat} {g:Nat→Nat}
section
variable [Off]
def Hi:List Ae→Option Ae
 |r::_=>bif Ju r.op then some r else none
 |[]=>none
def wpS(P:Program):List (List Ae)→St→(St→Prop)→Prop
 |[],st,K=>K st
 |[]::fl::seg::ss,st,K=>match Hi fl with
  |some r=>wpD P seg st fun st'=>wpR P [r] st' fun st''=>Kc fl.tail st'.env st'.H st''.H seg (wpS P ss st'' K)
  |none=>match Abe fl with
   |true=>Lz P 5 (seg.take 2) (seg.drop 2) st fun st'=>wpS P ss st' K
   |false=>wpM P fl seg st fun st'=>wpS P ss st' K
 |[r]::ss,st,K=>wpR P [r] st fun st'=>wpS P ss st' K
 |seg::ss,st,K=>wpD P seg st fun st'=>wpS P ss st' K
def Gc:List (List Ae)→List Ae
 |[]=>[]
 |[]::fl::seg::ss=>match Hi fl with
  |some r=>seg++([r]++Gc ss)
  |none=>seg++Gc ss
 |seg::ss=>seg++Gc ss
def Fv(ops:Array Oper)(ms:List Nat):Nat→List (List Ae)→Bool
 |s,[]=>decide (s=ops.size)
 |s,[]::fl::seg::ss=>match Hi fl with
  |some r=>Ahr ops ms s seg r fl.tail&&Fv ops ms (s+seg.length+1) ss
  |none=>match Abe fl with
   |true=>Abw ms s seg&&Kx ms (s+seg.length)&&Fv ops ms (s+seg.length) ss
   |false=>decide (0<seg.length)&&Ahm ops ms s seg fl&&Kx ms (s+seg.length)&&Fv ops ms (s+seg.length) ss
 |s,seg::ss=>decide (0<seg.length)&&(decide (seg.length=1)||Aeu ops s seg)&&Kx ms (s+seg.length)&&Fv ops ms (s+seg.length) ss
def Kz(ms:List Nat)(s m:Nat):Nat→List Ae→List Ae
 |_,[]=>[]
 |i,r::rs=>if i==m||decide (i<m∧(ms.getD (s+m) 0).testBit (s+i)=true)||decide (m<i∧(ms.getD (s+i) 0).testBit (s+m)=true)then Kz ms s m (i+1) rs else⟨r.dst,none,.mkm⟩::Kz ms s m (i+1) rs
def Auo(ms:List Nat)(s:Nat)(r:Ae)(seg:List Ae):Bool:=
 Ju r.op&&((List.range seg.length).any fun i=> !((ms.getD (s+seg.length) 0).testBit (s+i)))&&
 (List.range seg.length).all fun i=>match seg[i]? with
  |some q=>(ms.getD (s+seg.length) 0).testBit (s+i)||(Ac9 q&& !(r.reads.contains q.d)&& !(r.d==q.d)&& !(q.reads.contains r.d)&&seg.all fun q'=> !(q.reads.contains q'.d))
  |none=>false
def Aut(ms:List Nat)(s:Nat)(r:Ae)(seg:List Ae):List Ae:=
 (List.range seg.length).filterMap fun i=>match seg[i]? with
  |some q=>if !((ms.getD (s+seg.length) 0).testBit (s+i))&& !(Ac9 q)then some ⟨q.dst,none,.mkm⟩else none
  |none=>none
def Aum:ROp→Bool
 |.app _ _ _ _ _ _=>true
 |_=>false
def Avn:ROp→Bool
 |.fldA _ _=>true
 |_=>false
def Bbf:ROp→Bool
 |.load _ _ _=>true
 |_=>false
def Aqf(ms:List Nat)(s:Nat)(r:Ae)(seg:List Ae):Bool:=
 Ju r.op&&(Aum r.op||(List.range seg.length).any fun i=>match seg[i]? with
  |some q=> !((ms.getD (s+seg.length) 0).testBit (s+i))&&Avn q.op
  |none=>false)&&
 ((List.range seg.length).all fun i=>match seg[i]? with
  |some q=>(ms.getD (s+seg.length) 0).testBit (s+i)||(Awq q&&(Aum r.op|| !(Bbf q.op))&& !(r.reads.contains q.d)&& !(r.d==q.d)&& !(q.reads.contains r.d))
  |none=>false)
def Aqw:List Ae→Bool
 |[r]=>Ae7 r.op
 |_=>false
def Qa(ms:List Nat):Nat→List (List Ae)→List (List Ae)
 |_,[]=>[]
 |s,seg::ss=>if Awb seg&&Abw ms s seg then []::[⟨none,none,.mkm⟩]::seg::Qa ms (s+seg.length) ss else if decide (1<seg.length)&&seg.any (fun r=>Ae7 r.op)then []::Kz ms s (Ch seg) 0 seg::seg::Qa ms (s+seg.length) ss else match seg.getLast? with
  |some r=>if decide (1<seg.length)&&Auo ms s r seg.dropLast&&ss.any Aqw then []::[r]::seg.dropLast::Qa ms (s+seg.length) ss else if decide (1<seg.length)&&Aqf ms s r seg.dropLast then []::(r::Aut ms s r seg.dropLast)::seg.dropLast::Qa ms (s+seg.length) ss else seg::Qa ms (s+seg.length) ss
  |none=>seg::Qa ms (s+seg.length) ss
def Ald(ops:Array Oper)(rs:List Ae):List (List Ae):=Qa (Cd ops) 0 (Ase ops rs)
def Axb(ops:Array Oper)(rs:List Ae)(segs:List (List Ae)):Bool:=
 decide ((Gc segs).length=rs.length)&&decide (rs.length=ops.size)&&Ajo ops&&Fv ops (Cd ops) 0 segs
theorem Jl(hn:c.n=n)(hdie:Ro c Q)(D:Pt ops){K:St→Prop}(hK:∀st' a' w',K st'→Rel c st' a' w'→Q .normal a' w'):∀(segs:List (List Ae)) (s:Nat),Fv ops (Cd ops) s segs=true→s+(Gc segs).length=ops.size→
  (∀(i:Nat) (o:Oper) (r:Ae),ops[s+i]? =some o→(Gc segs)[i]? =some r→Bz P ops n o=some r)→Nt P c ops Q s (fun st=>wpS P segs st K)
 |[],s,h,hl,hres=>by
  have hs:s=ops.size:=by simpa[Gc]using hl
  subst hs;exact Ark hK
 |[]::fl::seg::ss,s,h,hl,hres=>by
  cases hlt:Hi fl with
  |some r=>
   simp only[Fv,hlt,ZO]at h;obtain⟨h1,h3⟩:=h;simp only[Gc,hlt]at hl hres;rw[ZF,ZF,List.length_singleton]at hl;have L:=Ae0 h1;have hrest:=Jl hn hdie D hK ss (s+seg.length+1) h3 (by omega) (fun i o q ho hr=>by
    refine hres (seg.length+1+i) o q (by rw[show s+(seg.length+1+i)=s+seg.length+1+i by omega];exact ho) ?_;rw[ZP (by omega),ZP (by simp;omega)];rw[List.length_singleton,show seg.length+1+i-seg.length-1=i by omega];exact hr)
   have hres':∀(i:Nat) (o:Oper) (q:Ae),ops[s+i]? =some o→seg[i]? =some q→Bz P ops n o=some q:=fun i o q ho hr=>by
    refine hres i o q ho ?_;rw[ZQ (ZB.1 hr).1];exact hr
   have hresr:∀o,ops[s+seg.length]? =some o→Bz P ops n o=some r:=fun o ho=>by
    refine hres seg.length o r ho ?_;rw[ZP (ZT _),Nat.sub_self];rfl
   have:=Ao6 hn hdie D L hres' hresr hrest;intro fuel listed st a w q1 q2 q3 q4;exact this fuel listed st a w q1 q2 (by simpa only[wpS,hlt]using q3) q4
  |none=>
   cases htw:Abe fl with
   |true=>
    simp only[Fv,hlt,htw,ZO]at h;obtain⟨⟨h1,h2⟩,h3⟩:=h;simp only[Gc,hlt]at hl hres;rw[ZF]at hl;have h5:=Abl h1;have hrest:=Jl hn hdie D hK ss (s+seg.length) h3 (by omega) (fun i o r ho hr=>by
     refine hres (seg.length+i) o r (by rw[←Nat.add_assoc];exact ho) ?_;rw[ZP (by omega),show seg.length+i-seg.length=i by omega];exact hr)
    have hres':∀(i:Nat) (o:Oper) (r:Ae),ops[s+i]? =some o→seg[i]? =some r→Bz P ops n o=some r:=fun i o r ho hr=>by
     refine hres i o r ho ?_;rw[ZQ (ZB.1 hr).1];exact hr
    have e1:(seg.take 2).length=2:=by rw[ZM];omega
    have e2:(seg.drop 2).length=3:=by rw[List.length_drop];omega
    have:=Apv hn hdie D (s:=s) (A:=seg.take 2) (B:=seg.drop 2) (by omega) (Af5 h1) (by rw[e1,e2];rw[h5]at h2;exact h2)
     (fun k o r ho hr=>hres' k o r ho (by
      have hk:k<2:=by have:=(ZB.1 hr).1;omega
      rwa[XA hk]at hr))
     (fun k o r ho hr=>hres' (2+k) o r (by rw[e1]at ho;rwa[←Nat.add_assoc]) (by rwa[List.getElem?_drop]at hr))
     (by rw[e1,e2];rw[h5]at hrest;exact hrest)
    rw[e1,e2]at this;intro fuel listed st a w q1 q2 q3 q4;exact this fuel listed st a w q1 q2 (by simpa only[wpS,hlt,htw]using q3) q4
   |false=>
    simp only[Fv,hlt,htw,ZO,decide_eq_true_eq]at h;obtain⟨⟨⟨h0,h1⟩,h2⟩,h3⟩:=h;simp only[Gc,hlt]at hl hres;rw[ZF]at hl;have hrest:=Jl hn hdie D hK ss (s+seg.length) h3 (by omega) (fun i o r ho hr=>by
     refine hres (seg.length+i) o r (by rw[←Nat.add_assoc];exact ho) ?_;rw[ZP (by omega),show seg.length+i-seg.length=i by omega];exact hr)
    have hres':∀(i:Nat) (o:Oper) (r:Ae),ops[s+i]? =some o→seg[i]? =some r→Bz P ops n o=some r:=fun i o r ho hr=>by
     refine hres i o r ho ?_;rw[ZQ (ZB.1 hr).1];exact hr
    have:=Aou (fl:=fl) hn D (Adz (by omega) h1) h2 hres' hrest;intro fuel listed st a w q1 q2 q3 q4;exact this fuel listed st a w q1 q2 (by simpa only[wpS,hlt,htw]using q3) q4
 |[r]::ss,s,h,hl,hres=>by
  simp only[Fv,ZO,Bool.or_eq_true,decide_eq_true_eq]at h;obtain⟨⟨⟨h0,h1⟩,h2⟩,h3⟩:=h;simp only[Gc]at hl hres;rw[ZF]at hl;have hrest:=Jl hn hdie D hK ss (s+[r].length) h3 (by omega) (fun i o r' ho hr=>by
   refine hres ([r].length+i) o r' (by rw[←Nat.add_assoc];exact ho) ?_;rw[ZP (by omega),show [r].length+i - [r].length=i by omega];exact hr)
  have:=Ah4 hn hdie D (s:=s) (r:=r) (by simp at hl;omega) h2 (fun o ho=>hres 0 o r (by simpa using ho) rfl) hrest;intro fuel listed st a w q1 q2 q3 q4;exact this fuel listed st a w q1 q2 (by simpa only[wpS]using q3) q4
 |(r1::r2::seg)::ss,s,h,hl,hres=>by
  simp only[Fv,ZO,Bool.or_eq_true,decide_eq_true_eq]at h;obtain⟨⟨⟨h0,h1⟩,h2⟩,h3⟩:=h;simp only[Gc]at hl hres;rw[ZF]at hl;have hrest:=Jl hn hdie D hK ss (s+(r1::r2::seg).length) h3 (by omega) (fun i o r ho hr=>by
   refine hres ((r1::r2::seg).length+i) o r (by rw[←Nat.add_assoc];exact ho) ?_;rw[ZP (by omega),show(r1::r2::seg).length+i-(r1::r2::seg).length=i by omega];exact hr)
  have hres':∀(i:Nat) (o:Oper) (r:Ae),ops[s+i]? =some o→(r1::r2::seg)[i]? =some r→Bz P ops n o=some r:=fun i o r ho hr=>by
   refine hres i o r ho ?_;rw[ZQ (ZB.1 hr).1];exact hr
  have h1':Aeu ops s (r1::r2::seg)=true:=by
   rcases h1 with q|q
   ·simp at q
   ·exact q
  have:=Ar9 hn D (Vr (by omega) h1') h2 hres' hrest;intro fuel listed st a w q1 q2 q3 q4;exact this fuel listed st a w q1 q2 (by simpa only[wpS]using q3) q4
 |[]::[],s,h,hl,hres=>by
  simp[Fv]at h
 |[]::[fl],s,h,hl,hres=>by
  simp[Fv]at h
theorem Ahx(hn:c.n=n)(hdie:Ro c Q)(hm:P.follows .mixedOrders=true){rs:List Ae}{segs:List (List Ae)}{id:Nat}{K:St→Prop}{st:St}{a:Act}{w:World}(hd:Axb ops rs segs=true)(hfl:Gc segs=rs)(hmap:ops.toList.mapM (Bz P ops n)=some rs)(h:wpS P segs st K)(hR:Rel c st a w)(hK:∀st' a' w',K st'→Rel c st' a' w'→Q .normal a' w'):(Code.region id ops true).wp P Q a w:=by
 unfold Axb at hd;simp only[ZO,decide_eq_true_eq]at hd;obtain⟨⟨⟨d1,d2⟩,d3⟩,d4⟩:=hd;have hres:∀(i:Nat) (o:Oper) (r:Ae),ops[i]? =some o→rs[i]? =some r→Bz P ops n o=some r:=by
  have key:∀(l:List Oper) (rl:List Ae),l.mapM (Bz P ops n)=some rl→∀(i:Nat) (o:Oper) (r:Ae),l[i]? =some o→rl[i]? =some r→Bz P ops n o=some r:=by
   intro l
   induction l with
   |nil=>intro rl _ i o r ho;simp at ho
   |cons o l ih=>
    intro rl hm i o' r' ho hr;rw[List.mapM_cons]at hm;simp only[Option.bind_eq_bind,XS,Option.pure_def,ZD]at hm;obtain⟨r,h1,rs,h2,rfl⟩:=hm;cases i with
    |zero=>simp at ho hr;subst ho hr;exact h1
    |succ i=>exact ih rs h2 i o' r' (by simpa using ho) (by simpa using hr)
  intro i o r ho hr;exact key _ _ hmap i o r (by simpa using ho) hr
 have hfrom:=Jl (P:=P) (c:=c) (Q:=Q) hn hdie (Aeq d3) hK segs 0 d4 (by omega) (fun i o r ho hr=>hres i o r (by simpa using ho) (by rw[←hfl];exact hr));obtain⟨R,G,hR⟩:=hR;have hR0:Rel c st a {w with drawn:=w.drawn+1} :=⟨R,G,hR.quiet ⟨rfl,rfl,rfl,ZT _,fun _ _ _=>rfl⟩⟩;refine wp_region_any hm ?_;have hfalse:∀i,i<ops.size→(Array.replicate ops.size false).getD i true=false:=fun i hi=>by simp[Array.getD_eq_getD_getElem?,hi]
 have hu:unl ops (Array.replicate ops.size false)=ops.size:=by
  unfold unl;have:(List.range ops.size).countP (fun i=> !(Array.replicate ops.size false).getD i true)=(List.range ops.size).length:=by
   rw[List.countP_eq_length];intro i hi;rw[hfalse i (List.mem_range.1 hi)];rfl
  rw[this];simp
 exact hfrom ops.size _ st a _ hu ⟨by simp,fun i j hi hl=>(by rw[hfalse i hi]at hl;cases hl),fun i hi=>by omega,fun i _ hi=>hfalse i hi⟩ h hR0
end
end
end Go.Proofs.YtkbjgdcdjccnaaaGreatDoor
