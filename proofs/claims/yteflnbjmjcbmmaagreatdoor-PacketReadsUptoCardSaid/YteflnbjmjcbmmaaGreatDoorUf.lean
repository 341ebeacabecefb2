/- Texts of this claim, joined. -/
import Derived.Test.YteflnbjmjcbmmaaGreatDoorRows
import Derived.Stop.LaidErr
import Derived.Lib.LaidTab
import Derived.Lay
import Derived.Test.YteflnbjmjcbmmaaGreatDoorUa
import Derived.Test.YteflnbjmjcbmmaaGreatDoorUb
import Derived.Test.YteflnbjmjcbmmaaGreatDoorUc
import Derived.Test.YteflnbjmjcbmmaaGreatDoorUd
import Derived.Test.YteflnbjmjcbmmaaGreatDoorUe
set_option linter.unusedSimpArgs false
set_option linter.unusedVariables false
namespace Go.Proofs.YteflnbjmjcbmmaaGreatDoor
open Go Go.RowKit Pl
theorem Jp{s:ByteArray}{a:Nat}{b:Bool}(ha:a≤s.size):(Fo s (a,b)).2.1≤s.size:=by
 have:=C7 (b:=b) ha;obtain⟨⟨n,p,bd⟩,hN⟩:∃q,Bf s (a,b)=q:=⟨_,rfl⟩;rw[Aau hN];rw[hN]at this;have h:p≤s.size:=this;split
 ·exact h
 ·show p+n.toNat≤s.size;omega
theorem Sh{s:ByteArray}{a:Nat}{b:Bool}(ha:a≤s.size):(Mf s (a,b)).2.1≤s.size:=C7 (b:=b) ha
theorem Sb{most:Int}{s:ByteArray}{a:Nat}{b:Bool}(ha:a≤s.size):(J7 most s (a,b)).2.1≤s.size:=by
 have:=C7 (b:=b) ha;obtain⟨⟨n,p,bd⟩,hN⟩:∃q,Bf s (a,b)=q:=⟨_,rfl⟩;rw[Abe hN];rw[hN]at this;split<;>exact this
theorem Pf{most:Int}{s:ByteArray}{c:Cu}(h0:0≤most):((J7 most s c).1:Int)≤most:=by
 unfold J7;split
 ·exact h0
 ·show(((Bf s c).1.toNat:Nat):Int)≤most;omega
theorem Ahb{s:ByteArray}{c:Cu}:(Fo s c).1.size≤s.size:=by
 unfold Fo;split
 ·exact ZU _
 ·show(s.extract _ _).size≤_;rw[ByteArray.size_extract];omega
section
variable {α:Type} {one:Cu→α×Cu} {N k:Nat} {l:List α} {c c':Cu} {R:List α×Cu} {m:α}
theorem M8(hk:k<N)(h:(l++(Cj one (N-k) c).1,(Cj one (N-k) c).2)=R)(hc:c.2=false)(hm:one c=(m,c')):(l++[m]++(Cj one (N-(k+1)) c').1,(Cj one (N-(k+1)) c').2)=R:=by
 obtain⟨j,hj⟩:∃j,N-k=j+1:=⟨N-k-1,by omega⟩;rw[hj]at h;unfold Cj at h;rw[if_neg (by rw[hc];decide),hm]at h;rw[show N-(k+1)=j by omega,←h];simp
theorem Gr(h:(l++(Cj one (N-k) c).1,(Cj one (N-k) c).2)=R)(he:¬k<N∨c.2=true):(l,c)=R:=by
 rw[←h];by_cases hk:k<N
 ·have hc:=he.resolve_left (fun q=>q hk);obtain⟨j,hj⟩:∃j,N-k=j+1:=⟨N-k-1,by omega⟩;rw[hj];unfold Cj;rw[if_pos hc];simp
 ·rw[show N-k=0 by omega];unfold Cj;simp
theorem X5:∀(n:Nat) (c:Cu),(Cj one n c).1.length≤n
 |0,c=>ZT _
 |n+1,c=>by
  unfold Cj;split
  ·exact ZU _
  ·have:=X5 n (one c).2;simp only[ZJ];omega
theorem My{P:α→Prop}(h:∀c,P (one c).1):∀(n:Nat) (c:Cu),∀x∈(Cj one n c).1,P x
 |0,c=>fun x hx=>by cases hx
 |n+1,c=>by
  unfold Cj;split
  ·intro x hx;cases hx
  ·intro x hx;rcases XC.1 hx with rfl|hx
   ·exact h c
   ·exact My h n _ x hx
end
theorem Ajm{s:ByteArray}(hs:s.size≤1000000000000):(cPk s (0,false)).1.ok:=by
 have ht:∀c,(Fo s c).1.size≤9223372036854775807:=fun c=>XI Ahb (by omega);have hl:∀{α:Type} (most:Int) (one:Cu→α×Cu) (c:Cu),0≤most→most≤40→(Tr most s one c).1.length≤40:=fun most one c h0 h1=>by
  have e1:=Pf (s:=s) (c:=c) h0;have e2:=X5 (one:=one) (J7 most s c).1 (J7 most s c).2;unfold Tr;omega
 refine⟨ht _,XI (hl 20 _ _ (by decide) (by decide)) (by decide),My (fun c=>ht _) _ _,XI (hl 40 _ _ (by decide) (by decide)) (by decide),My (fun c=>⟨ht _,ht _,ht _,ht _⟩) _ _,XI (hl 6 _ _ (by decide) (by decide)) (by decide),My (fun c=>ht _) _ _,XI (hl 20 _ _ (by decide) (by decide)) (by decide),My (fun c=>ht _) _ _⟩
theorem Gn(env:Env)(lv:List (Nat×V)):hdE env [] lv=hdE (fun _=>.any) [] lv:=rfl
theorem Gk(H:Hp)(ho:List (Nat×Ent)):hdH H [] ho=hdH noH [] ho:=rfl
theorem K8(env env':Env):Qy env env' []=True:=rfl
theorem Le(H H':Hp):Q9 H H' []=True:=rfl
abbrev pkT:TypeId:=27
def uO(id:Nat):Option Nat→V
 |none=>.v (.slice none 0 0)
 |some g=>.own id g
def hO(id:Nat)(T:TypeId)(sz:Nat)(rows:List (List V)):Option Nat→List (Nat×Ent)
 |none=>[]
 |some g=>[(id,⟨g,.t T,sz,rows⟩)]
def Ak4:Ag:=Dx (List.replicate 6 true++[false]) (Dx (List.replicate 8 true++[false]) (Dx (List.replicate 10 true++[false]) (Dx (List.replicate 12 true++[false]) Fi)))
set_option maxHeartbeats 20000000 in
theorem Wr[Glob](s:ByteArray)(hs:s.size≤1000000000000):Fun Tryz.prog 13 [.c (.v (.string s))] [.c (.agg (Vq s).1.row),.c (.v (.int .i64 (Vq s).2))]:=by
 obtain⟨F,hF⟩:∃F,Vq s=F:=⟨_,rfl⟩;rw[hF];refine Ahl (rcD:=Ak4) Lo (by rfl) rfl ?_;(refine goI ?_;repeat (intro gg;refine goI ?_));revert gg;intro gp;revert gg;intro gc;revert gg;intro gq;have h0:0≤s.size:=ZU _;obtain⟨⟨fr,pfr,bfr⟩,efr⟩:∃q,Fo s (0,false)=q:=⟨_,rfl⟩;have ffr:=Gg s 0 false hs h0;have hpfr:=Jp (b:=false) h0;rw[efr]at ffr hpfr;simp only at ffr hpfr;(refine .inr (.inl ⟨_,_,false,272::([]++[]),?_,ffr,Ak,oI,dI,?_⟩);focus (exact wI));(refine goI ?_;repeat (intro gg;refine goI ?_));obtain⟨⟨wo,pwo,bwo⟩,ewo⟩:∃q,Mf s (pfr,bfr)=q:=⟨_,rfl⟩;have fwo:=Oq s pfr bfr hs hpfr;have hpwo:=Sh (b:=bfr) hpfr;rw[ewo]at fwo hpwo;simp only at fwo hpwo;(refine .inr (.inl ⟨_,_,false,272::([]++[]),?_,fwo,Ak,oI,dI,?_⟩);focus (exact wI));(refine goI ?_;repeat (intro gg;refine goI ?_));obtain⟨⟨Nms,pnms,bnms⟩,enms⟩:∃q,J7 20 s (pwo,bwo)=q:=⟨_,rfl⟩;have fnms:=Pm 20 s pwo bwo hs hpwo;have hpnms:=Sb (most:=20) (b:=bwo) hpwo;rw[enms]at fnms hpnms;simp only at fnms hpnms;(refine .inr (.inl ⟨_,_,false,272::([]++[]),?_,fnms,Ak,oI,dI,?_⟩);focus (exact wI));(refine goI ?_;repeat (intro gg;refine goI ?_));have kms:(Nms:Int)≤20:=by
  have:=Pf (most:=20) (s:=s) (c:=(pwo,bwo)) (by decide)
  rwa[enms]at this
 obtain⟨⟨ms,pms,bms⟩,ems⟩:∃q,Cj (cMb s) Nms (pnms,bnms)=q:=⟨_,rfl⟩;have ims:(([]:List Mb)++(Cj (cMb s) (Nms-0) (pnms,bnms)).1,(Cj (cMb s) (Nms-0) (pnms,bnms)).2)=(ms,pms,bms):=by rw[List.nil_append,Nat.sub_zero,ems]
 refine⟨{og:Option Nat//(og=none→ms=[])∧pms≤s.size},[],fun _=>[(0,.v (.string s)),(2,.ptr 32 gq 0 0),(3,.v (.int .i64 0)),(4,.ptr 272 gc 0 0),(5,.ptr 80 gp 0 0)],[],fun og=>(32,⟨gq,.b pkT,6,[[.v (.string ⟨#[]⟩),.v (.bool false),.v (.slice none 0 0),.v (.slice none 0 0),.v (.slice none 0 0),.v (.slice none 0 0)]]⟩)::(272,⟨gc,.b cuT,3,[[.v (.string s),.v (.int .i64 ((pms:Nat):Int)),.v (.bool bms)]]⟩)::(80,⟨gp,.b pkT,6,[[.v (.string fr),.v (.bool wo),uO 912 og.1,.v (.slice none 0 0),.v (.slice none 0 0),.v (.slice none 0 0)]]⟩)::hO 912 47 5 (ms.map Mb.row) og.1,?_,fun og=>?_⟩
 ·(refine goI ?_;repeat (intro gg;refine goI ?_));(refine⟨[],none,{q:List Mb×Cu×Option Nat×Nat//(q.2.2.2≤Nms∧q.1.length≤q.2.2.2)∧q.2.1.1≤s.size∧(q.2.2.1=none→q.1=[])∧(q.1++(Cj (cMb s) (Nms-q.2.2.2) q.2.1).1,(Cj (cMb s) (Nms-q.2.2.2) q.2.1).2)=(ms,pms,bms)},[],fun⟨⟨l,⟨a,b⟩,og,k⟩,hk,ha,ho,hR⟩=>[(0,.v (.string s)),(2,.ptr 32 gq 0 0),(3,.v (.int .i64 0)),(4,.ptr 272 gc 0 0),(5,.ptr 80 gp 0 0),(6,.v (.int .i64 ((Nms:Nat):Int))),(7,.v (.int .i64 (k:Int)))],[],fun⟨⟨l,⟨a,b⟩,og,k⟩,hk,ha,ho,hR⟩=>(32,⟨gq,.b pkT,6,[[.v (.string ⟨#[]⟩),.v (.bool false),.v (.slice none 0 0),.v (.slice none 0 0),.v (.slice none 0 0),.v (.slice none 0 0)]]⟩)::(272,⟨gc,.b cuT,3,[[.v (.string s),.v (.int .i64 ((a:Nat):Int)),.v (.bool b)]]⟩)::(80,⟨gp,.b pkT,6,[[.v (.string fr),.v (.bool wo),uO 912 og,.v (.slice none 0 0),.v (.slice none 0 0),.v (.slice none 0 0)]]⟩)::hO 912 47 5 (l.map Mb.row) og,fun⟨⟨l,⟨a,b⟩,og,k⟩,hk,ha,ho,hR⟩=>Nms-k,trivial,fun _=>⟨trivial,fun _=>⟨⟨([],(pnms,bnms),none,0),⟨ZU _,ZT _⟩,hpnms,fun _=>rfl,ims⟩,tI,Aj _ _,?_,Ai _ _⟩⟩,fun⟨⟨l,⟨a,b⟩,og,k⟩,hk,ha,ho,hR⟩=>?_⟩;focus (exact(by exact tI)));simp only[Gn,Gk,K8,Le];obtain⟨hk,hl⟩:k≤Nms∧l.length≤k:=hk;have ha:a≤s.size:=ha;have ho:og=none→l=[]:=ho;have hR:(l++(Cj (cMb s) (Nms-k) (a,b)).1,(Cj (cMb s) (Nms-k) (a,b)).2)=(ms,pms,bms):=hR;(refine goI ?_;repeat (intro gg;refine goI ?_));by_cases hlt:k<Nms
  ·rw[ZX (show(k:Int)<(Nms:Int)from by omega)];(refine goI ?_;repeat (intro gg;refine goI ?_));cases b with
   |true=>
    (refine goI ?_;repeat (intro gg;refine goI ?_));obtain⟨rfl,rfl,rfl⟩:l=ms∧a=pms∧true=bms:=by
     have:=Gr hR (.inr rfl);simpa using this
    rcases og with _|g<;>exact⟨⟨_,ho,ha⟩,tI,tI,tI,tI⟩
   |false=>
    (refine goI ?_;repeat (intro gg;refine goI ?_));obtain⟨⟨x0,v0,b0⟩,e0⟩:∃q,Fo s (a,false)=q:=⟨_,rfl⟩;have f0:=Gg s a false hs ha;have hv0:=Jp (b:=false) ha;rw[e0]at f0 hv0;simp only at f0 hv0;(refine .inr (.inl ⟨_,_,false,272::([]++[]),?_,f0,Ak,oI,dI,?_⟩);focus (exact wI));(refine goI ?_;repeat (intro gg;refine goI ?_));obtain⟨⟨x1,v1,b1⟩,e1⟩:∃q,Bf s (v0,b0)=q:=⟨_,rfl⟩;have f1:=Cp s v0 b0 hs hv0;have hv1:=C7 (b:=b0) hv0;rw[e1]at f1 hv1;simp only at f1 hv1;(refine .inr (.inl ⟨_,_,false,272::([]++[]),?_,f1,Ak,oI,dI,?_⟩);focus (exact wI));(refine goI ?_;repeat (intro gg;refine goI ?_));obtain⟨⟨x2,v2,b2⟩,e2⟩:∃q,Bf s (v1,b1)=q:=⟨_,rfl⟩;have f2:=Cp s v1 b1 hs hv1;have hv2:=C7 (b:=b1) hv1;rw[e2]at f2 hv2;simp only at f2 hv2;(refine .inr (.inl ⟨_,_,false,272::([]++[]),?_,f2,Ak,oI,dI,?_⟩);focus (exact wI));(refine goI ?_;repeat (intro gg;refine goI ?_));obtain⟨⟨x3,v3,b3⟩,e3⟩:∃q,Bf s (v2,b2)=q:=⟨_,rfl⟩;have f3:=Cp s v2 b2 hs hv2;have hv3:=C7 (b:=b2) hv2;rw[e3]at f3 hv3;simp only at f3 hv3;(refine .inr (.inl ⟨_,_,false,272::([]++[]),?_,f3,Ak,oI,dI,?_⟩);focus (exact wI));(refine goI ?_;repeat (intro gg;refine goI ?_));obtain⟨⟨x4,v4,b4⟩,e4⟩:∃q,Mf s (v3,b3)=q:=⟨_,rfl⟩;have f4:=Oq s v3 b3 hs hv3;have hv4:=Sh (b:=b3) hv3;rw[e4]at f4 hv4;simp only at f4 hv4;(refine .inr (.inl ⟨_,_,false,272::([]++[]),?_,f4,Ak,oI,dI,?_⟩);focus (exact wI));(refine goI ?_;repeat (intro gg;refine goI ?_));obtain⟨m,hm⟩:∃m:Mb,m=⟨x0,x1,x2,x3,x4⟩:=⟨_,rfl⟩;have h1:cMb s (a,false)=(m,(v4,b4)):=by unfold cMb;simp only[e0,e1,e2,e3,e4,hm]
    have h2:=M8 hlt hR rfl h1;have h3:(l++[m]).length≤k+1:=by simp;omega
    have h4:(l++[m]).map Mb.row=l.map Mb.row++[m.row]:=by simp
    subst hm
    (rcases og with _|g
     ·obtain rfl:=ho rfl;(refine goI ?_;repeat (intro gg;refine goI ?_));refine⟨lI,lI,?_⟩;(refine goI ?_;repeat (intro gg;refine goI ?_));(exact⟨none,trivial,fun gr=>⟨⟨([]++[⟨x0,x1,x2,x3,x4⟩],(v4,b4),some gg,k+1),⟨by show k+1≤Nms;omega,h3⟩,hv4,(fun(q:some gg=none)=>nomatch q),h2⟩,by show Nms-(k+1)<Nms-k;omega,tI,tI,(by exact⟨rfl,⟨rfl,⟨rfl,⟨rfl,tI⟩⟩⟩⟩),tI⟩⟩)
     ·(refine goI ?_;repeat (intro gg;refine goI ?_));refine⟨lI,lI,?_⟩;(refine goI ?_;repeat (intro gg;refine goI ?_));(exact⟨none,trivial,fun gr=>⟨⟨(l++[⟨x0,x1,x2,x3,x4⟩],(v4,b4),some gg,k+1),⟨by show k+1≤Nms;omega,h3⟩,hv4,(fun(q:some gg=none)=>nomatch q),h2⟩,by show Nms-(k+1)<Nms-k;omega,tI,tI,(by exact⟨rfl,⟨rfl,⟨rfl,⟨congrArg (fun r=>(some ⟨gg,.t 47,5,r⟩:Option Ent)) h4.symm,tI⟩⟩⟩⟩),tI⟩⟩))
  ·rw[ZY (show¬(k:Int)<(Nms:Int)from by omega)];(refine goI ?_;repeat (intro gg;refine goI ?_));obtain⟨rfl,rfl,rfl⟩:l=ms∧a=pms∧b=bms:=by
    have:=Gr hR (.inl hlt);simpa using this
   rcases og with _|g<;>exact⟨⟨_,ho,ha⟩,tI,tI,tI,tI⟩
 simp only[Gn,Gk];obtain⟨oms,jms,hpms⟩:=og;obtain⟨⟨Nsv,pnsv,bnsv⟩,ensv⟩:∃q,J7 40 s (pms,bms)=q:=⟨_,rfl⟩;have fnsv:=Pm 40 s pms bms hs hpms;have hpnsv:=Sb (most:=40) (b:=bms) hpms;rw[ensv]at fnsv hpnsv;simp only at fnsv hpnsv;(refine .inr (.inl ⟨_,_,false,272::([]++[]),?_,fnsv,Ak,oI,dI,?_⟩);focus (exact wI));(refine goI ?_;repeat (intro gg;refine goI ?_));have ksv:(Nsv:Int)≤40:=by
  have:=Pf (most:=40) (s:=s) (c:=(pms,bms)) (by decide)
  rwa[ensv]at this
 obtain⟨⟨sv,psv,bsv⟩,esv⟩:∃q,Cj (cSv s) Nsv (pnsv,bnsv)=q:=⟨_,rfl⟩;have isv:(([]:List Sv)++(Cj (cSv s) (Nsv-0) (pnsv,bnsv)).1,(Cj (cSv s) (Nsv-0) (pnsv,bnsv)).2)=(sv,psv,bsv):=by rw[List.nil_append,Nat.sub_zero,esv]
 refine⟨{og:Option Nat//(og=none→sv=[])∧psv≤s.size},[],fun _=>[(0,.v (.string s)),(2,.ptr 32 gq 0 0),(3,.v (.int .i64 0)),(4,.ptr 272 gc 0 0),(5,.ptr 80 gp 0 0)],[],fun og=>(32,⟨gq,.b pkT,6,[[.v (.string ⟨#[]⟩),.v (.bool false),.v (.slice none 0 0),.v (.slice none 0 0),.v (.slice none 0 0),.v (.slice none 0 0)]]⟩)::(272,⟨gc,.b cuT,3,[[.v (.string s),.v (.int .i64 ((psv:Nat):Int)),.v (.bool bsv)]]⟩)::(80,⟨gp,.b pkT,6,[[.v (.string fr),.v (.bool wo),uO 912 oms,uO 1664 og.1,.v (.slice none 0 0),.v (.slice none 0 0)]]⟩)::hO 1664 52 9 (sv.map Sv.row) og.1++hO 912 47 5 (ms.map Mb.row) oms,?_,fun og=>?_⟩
 ·(refine goI ?_;repeat (intro gg;refine goI ?_));(refine⟨[],none,{q:List Sv×Cu×Option Nat×Nat//(q.2.2.2≤Nsv∧q.1.length≤q.2.2.2)∧q.2.1.1≤s.size∧(q.2.2.1=none→q.1=[])∧(q.1++(Cj (cSv s) (Nsv-q.2.2.2) q.2.1).1,(Cj (cSv s) (Nsv-q.2.2.2) q.2.1).2)=(sv,psv,bsv)},[],fun⟨⟨l,⟨a,b⟩,og,k⟩,hk,ha,ho,hR⟩=>[(0,.v (.string s)),(2,.ptr 32 gq 0 0),(3,.v (.int .i64 0)),(4,.ptr 272 gc 0 0),(5,.ptr 80 gp 0 0),(6,.v (.int .i64 ((Nsv:Nat):Int))),(9,.v (.int .i64 (k:Int)))],[],fun⟨⟨l,⟨a,b⟩,og,k⟩,hk,ha,ho,hR⟩=>(32,⟨gq,.b pkT,6,[[.v (.string ⟨#[]⟩),.v (.bool false),.v (.slice none 0 0),.v (.slice none 0 0),.v (.slice none 0 0),.v (.slice none 0 0)]]⟩)::(272,⟨gc,.b cuT,3,[[.v (.string s),.v (.int .i64 ((a:Nat):Int)),.v (.bool b)]]⟩)::(80,⟨gp,.b pkT,6,[[.v (.string fr),.v (.bool wo),uO 912 oms,uO 1664 og,.v (.slice none 0 0),.v (.slice none 0 0)]]⟩)::hO 1664 52 9 (l.map Sv.row) og++hO 912 47 5 (ms.map Mb.row) oms,fun⟨⟨l,⟨a,b⟩,og,k⟩,hk,ha,ho,hR⟩=>Nsv-k,trivial,fun _=>⟨trivial,fun _=>⟨⟨([],(pnsv,bnsv),none,0),⟨ZU _,ZT _⟩,hpnsv,fun _=>rfl,isv⟩,tI,Aj _ _,?_,Ai _ _⟩⟩,fun⟨⟨l,⟨a,b⟩,og,k⟩,hk,ha,ho,hR⟩=>?_⟩;focus (exact(by rcases oms with _|gms<;>exact tI)));simp only[Gn,Gk,K8,Le];obtain⟨hk,hl⟩:k≤Nsv∧l.length≤k:=hk;have ha:a≤s.size:=ha;have ho:og=none→l=[]:=ho;have hR:(l++(Cj (cSv s) (Nsv-k) (a,b)).1,(Cj (cSv s) (Nsv-k) (a,b)).2)=(sv,psv,bsv):=hR;(refine goI ?_;repeat (intro gg;refine goI ?_));by_cases hlt:k<Nsv
  ·rw[ZX (show(k:Int)<(Nsv:Int)from by omega)];(refine goI ?_;repeat (intro gg;refine goI ?_));cases b with
   |true=>
    (refine goI ?_;repeat (intro gg;refine goI ?_));obtain⟨rfl,rfl,rfl⟩:l=sv∧a=psv∧true=bsv:=by
     have:=Gr hR (.inr rfl);simpa using this
    rcases og with _|g<;>rcases oms with _|gms<;>exact⟨⟨_,ho,ha⟩,tI,tI,tI,tI⟩
   |false=>
    (refine goI ?_;repeat (intro gg;refine goI ?_));obtain⟨⟨x0,v0,b0⟩,e0⟩:∃q,Fo s (a,false)=q:=⟨_,rfl⟩;have f0:=Gg s a false hs ha;have hv0:=Jp (b:=false) ha;rw[e0]at f0 hv0;simp only at f0 hv0;(refine .inr (.inl ⟨_,_,false,272::([]++[]),?_,f0,Ak,oI,dI,?_⟩);focus (exact wI));(refine goI ?_;repeat (intro gg;refine goI ?_));obtain⟨⟨x1,v1,b1⟩,e1⟩:∃q,Fo s (v0,b0)=q:=⟨_,rfl⟩;have f1:=Gg s v0 b0 hs hv0;have hv1:=Jp (b:=b0) hv0;rw[e1]at f1 hv1;simp only at f1 hv1;(refine .inr (.inl ⟨_,_,false,272::([]++[]),?_,f1,Ak,oI,dI,?_⟩);focus (exact wI));(refine goI ?_;repeat (intro gg;refine goI ?_));obtain⟨⟨x2,v2,b2⟩,e2⟩:∃q,Fo s (v1,b1)=q:=⟨_,rfl⟩;have f2:=Gg s v1 b1 hs hv1;have hv2:=Jp (b:=b1) hv1;rw[e2]at f2 hv2;simp only at f2 hv2;(refine .inr (.inl ⟨_,_,false,272::([]++[]),?_,f2,Ak,oI,dI,?_⟩);focus (exact wI));(refine goI ?_;repeat (intro gg;refine goI ?_));obtain⟨⟨x3,v3,b3⟩,e3⟩:∃q,Fo s (v2,b2)=q:=⟨_,rfl⟩;have f3:=Gg s v2 b2 hs hv2;have hv3:=Jp (b:=b2) hv2;rw[e3]at f3 hv3;simp only at f3 hv3;(refine .inr (.inl ⟨_,_,false,272::([]++[]),?_,f3,Ak,oI,dI,?_⟩);focus (exact wI));(refine goI ?_;repeat (intro gg;refine goI ?_));obtain⟨⟨x4,v4,b4⟩,e4⟩:∃q,Bf s (v3,b3)=q:=⟨_,rfl⟩;have f4:=Cp s v3 b3 hs hv3;have hv4:=C7 (b:=b3) hv3;rw[e4]at f4 hv4;simp only at f4 hv4;(refine .inr (.inl ⟨_,_,false,272::([]++[]),?_,f4,Ak,oI,dI,?_⟩);focus (exact wI));(refine goI ?_;repeat (intro gg;refine goI ?_));obtain⟨⟨x5,v5,b5⟩,e5⟩:∃q,Bf s (v4,b4)=q:=⟨_,rfl⟩;have f5:=Cp s v4 b4 hs hv4;have hv5:=C7 (b:=b4) hv4;rw[e5]at f5 hv5;simp only at f5 hv5;(refine .inr (.inl ⟨_,_,false,272::([]++[]),?_,f5,Ak,oI,dI,?_⟩);focus (exact wI));(refine goI ?_;repeat (intro gg;refine goI ?_));obtain⟨⟨x6,v6,b6⟩,e6⟩:∃q,Mf s (v5,b5)=q:=⟨_,rfl⟩;have f6:=Oq s v5 b5 hs hv5;have hv6:=Sh (b:=b5) hv5;rw[e6]at f6 hv6;simp only at f6 hv6;(refine .inr (.inl ⟨_,_,false,272::([]++[]),?_,f6,Ak,oI,dI,?_⟩);focus (exact wI));(refine goI ?_;repeat (intro gg;refine goI ?_));obtain⟨⟨x7,v7,b7⟩,e7⟩:∃q,Bf s (v6,b6)=q:=⟨_,rfl⟩;have f7:=Cp s v6 b6 hs hv6;have hv7:=C7 (b:=b6) hv6;rw[e7]at f7 hv7;simp only at f7 hv7;(refine .inr (.inl ⟨_,_,false,272::([]++[]),?_,f7,Ak,oI,dI,?_⟩);focus (exact wI));(refine goI ?_;repeat (intro gg;refine goI ?_));obtain⟨⟨x8,v8,b8⟩,e8⟩:∃q,Mf s (v7,b7)=q:=⟨_,rfl⟩;have f8:=Oq s v7 b7 hs hv7;have hv8:=Sh (b:=b7) hv7;rw[e8]at f8 hv8;simp only at f8 hv8;(refine .inr (.inl ⟨_,_,false,272::([]++[]),?_,f8,Ak,oI,dI,?_⟩);focus (exact wI));(refine goI ?_;repeat (intro gg;refine goI ?_));obtain⟨m,hm⟩:∃m:Sv,m=⟨x0,x1,x2,x3,x4,x5,x6,x7,x8⟩:=⟨_,rfl⟩;have h1:cSv s (a,false)=(m,(v8,b8)):=by unfold cSv;simp only[e0,e1,e2,e3,e4,e5,e6,e7,e8,hm]
    have h2:=M8 hlt hR rfl h1;have h3:(l++[m]).length≤k+1:=by simp;omega
    have h4:(l++[m]).map Sv.row=l.map Sv.row++[m.row]:=by simp
    subst hm;rcases oms with _|gms<;>
    (rcases og with _|g
     ·obtain rfl:=ho rfl;(refine goI ?_;repeat (intro gg;refine goI ?_));refine⟨lI,lI,?_⟩;(refine goI ?_;repeat (intro gg;refine goI ?_));(exact⟨none,trivial,fun gr=>⟨⟨([]++[⟨x0,x1,x2,x3,x4,x5,x6,x7,x8⟩],(v8,b8),some gg,k+1),⟨by show k+1≤Nsv;omega,h3⟩,hv8,(fun(q:some gg=none)=>nomatch q),h2⟩,by show Nsv-(k+1)<Nsv-k;omega,tI,tI,(by exact⟨rfl,⟨rfl,⟨rfl,⟨rfl,tI⟩⟩⟩⟩),tI⟩⟩)
     ·(refine goI ?_;repeat (intro gg;refine goI ?_));refine⟨lI,lI,?_⟩;(refine goI ?_;repeat (intro gg;refine goI ?_));(exact⟨none,trivial,fun gr=>⟨⟨(l++[⟨x0,x1,x2,x3,x4,x5,x6,x7,x8⟩],(v8,b8),some gg,k+1),⟨by show k+1≤Nsv;omega,h3⟩,hv8,(fun(q:some gg=none)=>nomatch q),h2⟩,by show Nsv-(k+1)<Nsv-k;omega,tI,tI,(by exact⟨rfl,⟨rfl,⟨rfl,⟨congrArg (fun r=>(some ⟨gg,.t 52,9,r⟩:Option Ent)) h4.symm,tI⟩⟩⟩⟩),tI⟩⟩))
  ·rw[ZY (show¬(k:Int)<(Nsv:Int)from by omega)];(refine goI ?_;repeat (intro gg;refine goI ?_));obtain⟨rfl,rfl,rfl⟩:l=sv∧a=psv∧b=bsv:=by
    have:=Gr hR (.inl hlt);simpa using this
   rcases og with _|g<;>rcases oms with _|gms<;>exact⟨⟨_,ho,ha⟩,tI,tI,tI,tI⟩
 simp only[Gn,Gk];obtain⟨osv,jsv,hpsv⟩:=og;obtain⟨⟨Ngs,pngs,bngs⟩,engs⟩:∃q,J7 6 s (psv,bsv)=q:=⟨_,rfl⟩;have fngs:=Pm 6 s psv bsv hs hpsv;have hpngs:=Sb (most:=6) (b:=bsv) hpsv;rw[engs]at fngs hpngs;simp only at fngs hpngs;(refine .inr (.inl ⟨_,_,false,272::([]++[]),?_,fngs,Ak,oI,dI,?_⟩);focus (exact wI));(refine goI ?_;repeat (intro gg;refine goI ?_));have kgs:(Ngs:Int)≤6:=by
  have:=Pf (most:=6) (s:=s) (c:=(psv,bsv)) (by decide)
  rwa[engs]at this
 obtain⟨⟨gs,pgs,bgs⟩,egs⟩:∃q,Cj (cGw s) Ngs (pngs,bngs)=q:=⟨_,rfl⟩;have igs:(([]:List Gw)++(Cj (cGw s) (Ngs-0) (pngs,bngs)).1,(Cj (cGw s) (Ngs-0) (pngs,bngs)).2)=(gs,pgs,bgs):=by rw[List.nil_append,Nat.sub_zero,egs]
 refine⟨{og:Option Nat//(og=none→gs=[])∧pgs≤s.size},[],fun _=>[(0,.v (.string s)),(2,.ptr 32 gq 0 0),(3,.v (.int .i64 0)),(4,.ptr 272 gc 0 0),(5,.ptr 80 gp 0 0)],[],fun og=>(32,⟨gq,.b pkT,6,[[.v (.string ⟨#[]⟩),.v (.bool false),.v (.slice none 0 0),.v (.slice none 0 0),.v (.slice none 0 0),.v (.slice none 0 0)]]⟩)::(272,⟨gc,.b cuT,3,[[.v (.string s),.v (.int .i64 ((pgs:Nat):Int)),.v (.bool bgs)]]⟩)::(80,⟨gp,.b pkT,6,[[.v (.string fr),.v (.bool wo),uO 912 oms,uO 1664 osv,uO 2128 og.1,.v (.slice none 0 0)]]⟩)::hO 2128 54 3 (gs.map Gw.row) og.1++hO 912 47 5 (ms.map Mb.row) oms++hO 1664 52 9 (sv.map Sv.row) osv,?_,fun og=>?_⟩
 ·(refine goI ?_;repeat (intro gg;refine goI ?_));(refine⟨[],none,{q:List Gw×Cu×Option Nat×Nat//(q.2.2.2≤Ngs∧q.1.length≤q.2.2.2)∧q.2.1.1≤s.size∧(q.2.2.1=none→q.1=[])∧(q.1++(Cj (cGw s) (Ngs-q.2.2.2) q.2.1).1,(Cj (cGw s) (Ngs-q.2.2.2) q.2.1).2)=(gs,pgs,bgs)},[],fun⟨⟨l,⟨a,b⟩,og,k⟩,hk,ha,ho,hR⟩=>[(0,.v (.string s)),(2,.ptr 32 gq 0 0),(3,.v (.int .i64 0)),(4,.ptr 272 gc 0 0),(5,.ptr 80 gp 0 0),(6,.v (.int .i64 ((Ngs:Nat):Int))),(11,.v (.int .i64 (k:Int)))],[],fun⟨⟨l,⟨a,b⟩,og,k⟩,hk,ha,ho,hR⟩=>(32,⟨gq,.b pkT,6,[[.v (.string ⟨#[]⟩),.v (.bool false),.v (.slice none 0 0),.v (.slice none 0 0),.v (.slice none 0 0),.v (.slice none 0 0)]]⟩)::(272,⟨gc,.b cuT,3,[[.v (.string s),.v (.int .i64 ((a:Nat):Int)),.v (.bool b)]]⟩)::(80,⟨gp,.b pkT,6,[[.v (.string fr),.v (.bool wo),uO 912 oms,uO 1664 osv,uO 2128 og,.v (.slice none 0 0)]]⟩)::hO 2128 54 3 (l.map Gw.row) og++hO 912 47 5 (ms.map Mb.row) oms++hO 1664 52 9 (sv.map Sv.row) osv,fun⟨⟨l,⟨a,b⟩,og,k⟩,hk,ha,ho,hR⟩=>Ngs-k,trivial,fun _=>⟨trivial,fun _=>⟨⟨([],(pngs,bngs),none,0),⟨ZU _,ZT _⟩,hpngs,fun _=>rfl,igs⟩,tI,Aj _ _,?_,Ai _ _⟩⟩,fun⟨⟨l,⟨a,b⟩,og,k⟩,hk,ha,ho,hR⟩=>?_⟩;focus (exact(by rcases oms with _|gms<;>rcases osv with _|gsv<;>exact tI)));simp only[Gn,Gk,K8,Le];obtain⟨hk,hl⟩:k≤Ngs∧l.length≤k:=hk;have ha:a≤s.size:=ha;have ho:og=none→l=[]:=ho;have hR:(l++(Cj (cGw s) (Ngs-k) (a,b)).1,(Cj (cGw s) (Ngs-k) (a,b)).2)=(gs,pgs,bgs):=hR;(refine goI ?_;repeat (intro gg;refine goI ?_));by_cases hlt:k<Ngs
  ·rw[ZX (show(k:Int)<(Ngs:Int)from by omega)];(refine goI ?_;repeat (intro gg;refine goI ?_));cases b with
   |true=>
    (refine goI ?_;repeat (intro gg;refine goI ?_));obtain⟨rfl,rfl,rfl⟩:l=gs∧a=pgs∧true=bgs:=by
     have:=Gr hR (.inr rfl);simpa using this
    rcases og with _|g<;>rcases oms with _|gms<;>rcases osv with _|gsv<;>exact⟨⟨_,ho,ha⟩,tI,tI,tI,tI⟩
   |false=>
    (refine goI ?_;repeat (intro gg;refine goI ?_));obtain⟨⟨x0,v0,b0⟩,e0⟩:∃q,Fo s (a,false)=q:=⟨_,rfl⟩;have f0:=Gg s a false hs ha;have hv0:=Jp (b:=false) ha;rw[e0]at f0 hv0;simp only at f0 hv0;(refine .inr (.inl ⟨_,_,false,272::([]++[]),?_,f0,Ak,oI,dI,?_⟩);focus (exact wI));(refine goI ?_;repeat (intro gg;refine goI ?_));obtain⟨⟨x1,v1,b1⟩,e1⟩:∃q,Bf s (v0,b0)=q:=⟨_,rfl⟩;have f1:=Cp s v0 b0 hs hv0;have hv1:=C7 (b:=b0) hv0;rw[e1]at f1 hv1;simp only at f1 hv1;(refine .inr (.inl ⟨_,_,false,272::([]++[]),?_,f1,Ak,oI,dI,?_⟩);focus (exact wI));(refine goI ?_;repeat (intro gg;refine goI ?_));obtain⟨⟨x2,v2,b2⟩,e2⟩:∃q,Bf s (v1,b1)=q:=⟨_,rfl⟩;have f2:=Cp s v1 b1 hs hv1;have hv2:=C7 (b:=b1) hv1;rw[e2]at f2 hv2;simp only at f2 hv2;(refine .inr (.inl ⟨_,_,false,272::([]++[]),?_,f2,Ak,oI,dI,?_⟩);focus (exact wI));(refine goI ?_;repeat (intro gg;refine goI ?_));obtain⟨m,hm⟩:∃m:Gw,m=⟨x0,x1,x2⟩:=⟨_,rfl⟩;have h1:cGw s (a,false)=(m,(v2,b2)):=by unfold cGw;simp only[e0,e1,e2,hm]
    have h2:=M8 hlt hR rfl h1;have h3:(l++[m]).length≤k+1:=by simp;omega
    have h4:(l++[m]).map Gw.row=l.map Gw.row++[m.row]:=by simp
    subst hm;rcases oms with _|gms<;>rcases osv with _|gsv<;>
    (rcases og with _|g
     ·obtain rfl:=ho rfl;(refine goI ?_;repeat (intro gg;refine goI ?_));refine⟨lI,lI,?_⟩;(refine goI ?_;repeat (intro gg;refine goI ?_));(exact⟨none,trivial,fun gr=>⟨⟨([]++[⟨x0,x1,x2⟩],(v2,b2),some gg,k+1),⟨by show k+1≤Ngs;omega,h3⟩,hv2,(fun(q:some gg=none)=>nomatch q),h2⟩,by show Ngs-(k+1)<Ngs-k;omega,tI,tI,(by exact⟨rfl,⟨rfl,⟨rfl,⟨rfl,tI⟩⟩⟩⟩),tI⟩⟩)
     ·(refine goI ?_;repeat (intro gg;refine goI ?_));refine⟨lI,lI,?_⟩;(refine goI ?_;repeat (intro gg;refine goI ?_));(exact⟨none,trivial,fun gr=>⟨⟨(l++[⟨x0,x1,x2⟩],(v2,b2),some gg,k+1),⟨by show k+1≤Ngs;omega,h3⟩,hv2,(fun(q:some gg=none)=>nomatch q),h2⟩,by show Ngs-(k+1)<Ngs-k;omega,tI,tI,(by exact⟨rfl,⟨rfl,⟨rfl,⟨congrArg (fun r=>(some ⟨gg,.t 54,3,r⟩:Option Ent)) h4.symm,tI⟩⟩⟩⟩),tI⟩⟩))
  ·rw[ZY (show¬(k:Int)<(Ngs:Int)from by omega)];(refine goI ?_;repeat (intro gg;refine goI ?_));obtain⟨rfl,rfl,rfl⟩:l=gs∧a=pgs∧b=bgs:=by
    have:=Gr hR (.inl hlt);simpa using this
   rcases og with _|g<;>rcases oms with _|gms<;>rcases osv with _|gsv<;>exact⟨⟨_,ho,ha⟩,tI,tI,tI,tI⟩
 simp only[Gn,Gk];obtain⟨ogs,jgs,hpgs⟩:=og;obtain⟨⟨Nwh,pnwh,bnwh⟩,enwh⟩:∃q,J7 20 s (pgs,bgs)=q:=⟨_,rfl⟩;have fnwh:=Pm 20 s pgs bgs hs hpgs;have hpnwh:=Sb (most:=20) (b:=bgs) hpgs;rw[enwh]at fnwh hpnwh;simp only at fnwh hpnwh;(refine .inr (.inl ⟨_,_,false,272::([]++[]),?_,fnwh,Ak,oI,dI,?_⟩);focus (exact wI));(refine goI ?_;repeat (intro gg;refine goI ?_));have kwh:(Nwh:Int)≤20:=by
  have:=Pf (most:=20) (s:=s) (c:=(pgs,bgs)) (by decide)
  rwa[enwh]at this
 obtain⟨⟨wh,pwh,bwh⟩,ewh⟩:∃q,Cj (cWh s) Nwh (pnwh,bnwh)=q:=⟨_,rfl⟩;have iwh:(([]:List Wh)++(Cj (cWh s) (Nwh-0) (pnwh,bnwh)).1,(Cj (cWh s) (Nwh-0) (pnwh,bnwh)).2)=(wh,pwh,bwh):=by rw[List.nil_append,Nat.sub_zero,ewh]
 refine⟨{og:Option Nat//(og=none→wh=[])∧pwh≤s.size},[],fun _=>[(0,.v (.string s)),(2,.ptr 32 gq 0 0),(3,.v (.int .i64 0)),(4,.ptr 272 gc 0 0),(5,.ptr 80 gp 0 0)],[],fun og=>(32,⟨gq,.b pkT,6,[[.v (.string ⟨#[]⟩),.v (.bool false),.v (.slice none 0 0),.v (.slice none 0 0),.v (.slice none 0 0),.v (.slice none 0 0)]]⟩)::(272,⟨gc,.b cuT,3,[[.v (.string s),.v (.int .i64 ((pwh:Nat):Int)),.v (.bool bwh)]]⟩)::(80,⟨gp,.b pkT,6,[[.v (.string fr),.v (.bool wo),uO 912 oms,uO 1664 osv,uO 2128 ogs,uO 2816 og.1]]⟩)::hO 2816 58 6 (wh.map Wh.row) og.1++hO 912 47 5 (ms.map Mb.row) oms++hO 1664 52 9 (sv.map Sv.row) osv++hO 2128 54 3 (gs.map Gw.row) ogs,?_,fun og=>?_⟩
 ·(refine goI ?_;repeat (intro gg;refine goI ?_));(refine⟨[],none,{q:List Wh×Cu×Option Nat×Nat//(q.2.2.2≤Nwh∧q.1.length≤q.2.2.2)∧q.2.1.1≤s.size∧(q.2.2.1=none→q.1=[])∧(q.1++(Cj (cWh s) (Nwh-q.2.2.2) q.2.1).1,(Cj (cWh s) (Nwh-q.2.2.2) q.2.1).2)=(wh,pwh,bwh)},[],fun⟨⟨l,⟨a,b⟩,og,k⟩,hk,ha,ho,hR⟩=>[(0,.v (.string s)),(2,.ptr 32 gq 0 0),(3,.v (.int .i64 0)),(4,.ptr 272 gc 0 0),(5,.ptr 80 gp 0 0),(6,.v (.int .i64 ((Nwh:Nat):Int))),(13,.v (.int .i64 (k:Int)))],[],fun⟨⟨l,⟨a,b⟩,og,k⟩,hk,ha,ho,hR⟩=>(32,⟨gq,.b pkT,6,[[.v (.string ⟨#[]⟩),.v (.bool false),.v (.slice none 0 0),.v (.slice none 0 0),.v (.slice none 0 0),.v (.slice none 0 0)]]⟩)::(272,⟨gc,.b cuT,3,[[.v (.string s),.v (.int .i64 ((a:Nat):Int)),.v (.bool b)]]⟩)::(80,⟨gp,.b pkT,6,[[.v (.string fr),.v (.bool wo),uO 912 oms,uO 1664 osv,uO 2128 ogs,uO 2816 og]]⟩)::hO 2816 58 6 (l.map Wh.row) og++hO 912 47 5 (ms.map Mb.row) oms++hO 1664 52 9 (sv.map Sv.row) osv++hO 2128 54 3 (gs.map Gw.row) ogs,fun⟨⟨l,⟨a,b⟩,og,k⟩,hk,ha,ho,hR⟩=>Nwh-k,trivial,fun _=>⟨trivial,fun _=>⟨⟨([],(pnwh,bnwh),none,0),⟨ZU _,ZT _⟩,hpnwh,fun _=>rfl,iwh⟩,tI,Aj _ _,?_,Ai _ _⟩⟩,fun⟨⟨l,⟨a,b⟩,og,k⟩,hk,ha,ho,hR⟩=>?_⟩;focus (exact(by rcases oms with _|gms<;>rcases osv with _|gsv<;>rcases ogs with _|ggs<;>exact tI)));simp only[Gn,Gk,K8,Le];obtain⟨hk,hl⟩:k≤Nwh∧l.length≤k:=hk;have ha:a≤s.size:=ha;have ho:og=none→l=[]:=ho;have hR:(l++(Cj (cWh s) (Nwh-k) (a,b)).1,(Cj (cWh s) (Nwh-k) (a,b)).2)=(wh,pwh,bwh):=hR;(refine goI ?_;repeat (intro gg;refine goI ?_));by_cases hlt:k<Nwh
  ·rw[ZX (show(k:Int)<(Nwh:Int)from by omega)];(refine goI ?_;repeat (intro gg;refine goI ?_));cases b with
   |true=>
    (refine goI ?_;repeat (intro gg;refine goI ?_));obtain⟨rfl,rfl,rfl⟩:l=wh∧a=pwh∧true=bwh:=by
     have:=Gr hR (.inr rfl);simpa using this
    rcases og with _|g<;>rcases oms with _|gms<;>rcases osv with _|gsv<;>rcases ogs with _|ggs<;>exact⟨⟨_,ho,ha⟩,tI,tI,tI,tI⟩
   |false=>
    (refine goI ?_;repeat (intro gg;refine goI ?_));obtain⟨⟨x0,v0,b0⟩,e0⟩:∃q,Fo s (a,false)=q:=⟨_,rfl⟩;have f0:=Gg s a false hs ha;have hv0:=Jp (b:=false) ha;rw[e0]at f0 hv0;simp only at f0 hv0;(refine .inr (.inl ⟨_,_,false,272::([]++[]),?_,f0,Ak,oI,dI,?_⟩);focus (exact wI));(refine goI ?_;repeat (intro gg;refine goI ?_));obtain⟨⟨x1,v1,b1⟩,e1⟩:∃q,Bf s (v0,b0)=q:=⟨_,rfl⟩;have f1:=Cp s v0 b0 hs hv0;have hv1:=C7 (b:=b0) hv0;rw[e1]at f1 hv1;simp only at f1 hv1;(refine .inr (.inl ⟨_,_,false,272::([]++[]),?_,f1,Ak,oI,dI,?_⟩);focus (exact wI));(refine goI ?_;repeat (intro gg;refine goI ?_));obtain⟨⟨x2,v2,b2⟩,e2⟩:∃q,Bf s (v1,b1)=q:=⟨_,rfl⟩;have f2:=Cp s v1 b1 hs hv1;have hv2:=C7 (b:=b1) hv1;rw[e2]at f2 hv2;simp only at f2 hv2;(refine .inr (.inl ⟨_,_,false,272::([]++[]),?_,f2,Ak,oI,dI,?_⟩);focus (exact wI));(refine goI ?_;repeat (intro gg;refine goI ?_));obtain⟨⟨x3,v3,b3⟩,e3⟩:∃q,Bf s (v2,b2)=q:=⟨_,rfl⟩;have f3:=Cp s v2 b2 hs hv2;have hv3:=C7 (b:=b2) hv2;rw[e3]at f3 hv3;simp only at f3 hv3;(refine .inr (.inl ⟨_,_,false,272::([]++[]),?_,f3,Ak,oI,dI,?_⟩);focus (exact wI));(refine goI ?_;repeat (intro gg;refine goI ?_));obtain⟨⟨x4,v4,b4⟩,e4⟩:∃q,Bf s (v3,b3)=q:=⟨_,rfl⟩;have f4:=Cp s v3 b3 hs hv3;have hv4:=C7 (b:=b3) hv3;rw[e4]at f4 hv4;simp only at f4 hv4;(refine .inr (.inl ⟨_,_,false,272::([]++[]),?_,f4,Ak,oI,dI,?_⟩);focus (exact wI));(refine goI ?_;repeat (intro gg;refine goI ?_));obtain⟨⟨x5,v5,b5⟩,e5⟩:∃q,Bf s (v4,b4)=q:=⟨_,rfl⟩;have f5:=Cp s v4 b4 hs hv4;have hv5:=C7 (b:=b4) hv4;rw[e5]at f5 hv5;simp only at f5 hv5;(refine .inr (.inl ⟨_,_,false,272::([]++[]),?_,f5,Ak,oI,dI,?_⟩);focus (exact wI));(refine goI ?_;repeat (intro gg;refine goI ?_));obtain⟨m,hm⟩:∃m:Wh,m=⟨x0,⟨x1,x2,x3,x4,x5⟩⟩:=⟨_,rfl⟩;have h1:cWh s (a,false)=(m,(v5,b5)):=by unfold cWh;simp only[e0,e1,e2,e3,e4,e5,hm]
    have h2:=M8 hlt hR rfl h1;have h3:(l++[m]).length≤k+1:=by simp;omega
    have h4:(l++[m]).map Wh.row=l.map Wh.row++[m.row]:=by simp
    subst hm;rcases oms with _|gms<;>rcases osv with _|gsv<;>rcases ogs with _|ggs<;>
    (rcases og with _|g
     ·obtain rfl:=ho rfl;(refine goI ?_;repeat (intro gg;refine goI ?_));refine⟨lI,lI,?_⟩;(refine goI ?_;repeat (intro gg;refine goI ?_));(exact⟨none,trivial,fun gr=>⟨⟨([]++[⟨x0,⟨x1,x2,x3,x4,x5⟩⟩],(v5,b5),some gg,k+1),⟨by show k+1≤Nwh;omega,h3⟩,hv5,(fun(q:some gg=none)=>nomatch q),h2⟩,by show Nwh-(k+1)<Nwh-k;omega,tI,tI,(by exact⟨rfl,⟨rfl,⟨rfl,⟨rfl,tI⟩⟩⟩⟩),tI⟩⟩)
     ·(refine goI ?_;repeat (intro gg;refine goI ?_));refine⟨lI,lI,?_⟩;(refine goI ?_;repeat (intro gg;refine goI ?_));(exact⟨none,trivial,fun gr=>⟨⟨(l++[⟨x0,⟨x1,x2,x3,x4,x5⟩⟩],(v5,b5),some gg,k+1),⟨by show k+1≤Nwh;omega,h3⟩,hv5,(fun(q:some gg=none)=>nomatch q),h2⟩,by show Nwh-(k+1)<Nwh-k;omega,tI,tI,(by exact⟨rfl,⟨rfl,⟨rfl,⟨congrArg (fun r=>(some ⟨gg,.t 58,6,r⟩:Option Ent)) h4.symm,tI⟩⟩⟩⟩),tI⟩⟩))
  ·rw[ZY (show¬(k:Int)<(Nwh:Int)from by omega)];(refine goI ?_;repeat (intro gg;refine goI ?_));obtain⟨rfl,rfl,rfl⟩:l=wh∧a=pwh∧b=bwh:=by
    have:=Gr hR (.inl hlt);simpa using this
   rcases og with _|g<;>rcases oms with _|gms<;>rcases osv with _|gsv<;>rcases ogs with _|ggs<;>exact⟨⟨_,ho,ha⟩,tI,tI,tI,tI⟩
 simp only[Gn,Gk];obtain⟨owh,jwh,hpwh⟩:=og;have hC:cPk s (0,false)=((⟨fr,wo,ms,sv,gs,wh⟩:Pk),(pwh,bwh)):=by
  unfold cPk Tr;simp only[efr,ewo,enms,ems,ensv,esv,engs,egs,enwh,ewh]
 have hok:=Ajm hs;have hR:Vq s=if bwh=true∨pwh≠s.size∨Pk.err ⟨fr,wo,ms,sv,gs,wh⟩≠0 then(pk0,1)else(⟨fr,wo,ms,sv,gs,wh⟩,0):=by
  unfold Vq We;rw[hC]
 rw[hC]at hok;rw[hF]at hR;have hK:=O9 _ hok;(refine goI ?_;repeat (intro gg;refine goI ?_));cases bwh with
 |true=>
  rw[if_pos (.inl rfl)]at hR;subst hR;(refine goI ?_;repeat (intro gg;refine goI ?_));exact Abf (.cell1 rfl rfl rfl rfl rfl rfl (.tmp1 rfl .nil)) cBI (De rfl)
 |false=>
  (refine goI ?_;repeat (intro gg;refine goI ?_));by_cases hp:pwh=s.size
  ·rw[show((pwh:Int) !=(s.size:Int))=false by rw[hp];exact bne_self_eq_false _];by_cases he:Pk.err ⟨fr,wo,ms,sv,gs,wh⟩=0
   ·rw[if_neg (fun h=>h.elim (fun h=>nomatch h) fun h=>h.elim (fun h=>h hp) fun h=>h he)]at hR;rw[he]at hK;subst hR;rcases oms with _|goms<;>rcases osv with _|gosv<;>rcases ogs with _|gogs<;>rcases owh with _|gowh<;>
    (first|(obtain rfl:=jms rfl)|skip
     first|(obtain rfl:=jsv rfl)|skip
     first|(obtain rfl:=jgs rfl)|skip
     first|(obtain rfl:=jwh rfl)|skip
     (refine goI ?_;repeat (intro gg;refine goI ?_));refine .inl ⟨_,_,true,[],.bora (by repeat' (first|exact Bo.nil|refine Bo.nilsl _ ?_|refine Su rfl rfl C4 (by decide) ?_|refine Bo.same (De rfl) ?_)) (.nil _),hK,(fun _=>fI),nI,?_⟩;(refine goI ?_;repeat (intro gg;refine goI ?_));exact Abf (.cell1 rfl rfl rfl rfl rfl rfl (.tmp1 rfl .nil)) (by repeat' (first|exact Bo.nil|refine Bo.nilsl _ ?_|refine Su rfl rfl C4 (by decide) ?_|refine Bo.same (De rfl) ?_)) (De rfl))
   ·rw[if_pos (.inr (.inr he))]at hR;subst hR;have he':(Pk.err ⟨fr,wo,ms,sv,gs,wh⟩ !=0)=true:=ZZ.2 he;obtain⟨e,hE⟩:∃e,Pk.err ⟨fr,wo,ms,sv,gs,wh⟩=e:=⟨_,rfl⟩;rw[hE]at hK he';rcases oms with _|goms<;>rcases osv with _|gosv<;>rcases ogs with _|gogs<;>rcases owh with _|gowh<;>
    (first|(obtain rfl:=jms rfl)|skip
     first|(obtain rfl:=jsv rfl)|skip
     first|(obtain rfl:=jgs rfl)|skip
     first|(obtain rfl:=jwh rfl)|skip
     (refine goI ?_;repeat (intro gg;refine goI ?_));refine .inl ⟨_,_,true,[],.bora (by repeat' (first|exact Bo.nil|refine Bo.nilsl _ ?_|refine Su rfl rfl C4 (by decide) ?_|refine Bo.same (De rfl) ?_)) (.nil _),hK,(fun _=>fI),nI,?_⟩;(refine goI ?_;repeat (intro gg;refine goI ?_));rw[he'];(refine goI ?_;repeat (intro gg;refine goI ?_));exact Abf (.cell1 rfl rfl rfl rfl rfl rfl (.tmp1 rfl .nil)) (by repeat' (first|exact Bo.nil|refine Bo.nilsl _ ?_|refine Su rfl rfl C4 (by decide) ?_|refine Bo.same (De rfl) ?_)) (De rfl))
  ·rw[if_pos (.inr (.inl hp))]at hR;subst hR;rw[show((pwh:Int) !=(s.size:Int))=true from ZZ.2 (fun h=>hp (by omega))];(refine goI ?_;repeat (intro gg;refine goI ?_));exact Abf (.cell1 rfl rfl rfl rfl rfl rfl (.tmp1 rfl .nil)) cBI (De rfl)
section
open Go.ChangeShapes Go.WideShapes Go.ChangeAt

end
structure Pk.ok0(p:Pk):Prop where
 fr:p.fr.size≤9223372036854775807
 msl:p.ms.length≤9223372036854775807
 ms:∀x∈p.ms,x.ok
 sv:∀x∈p.sv,x.ok
 gs:∀x∈p.gs,x.ok
 wh:∀x∈p.wh,x.ok
theorem Pk.ok0.ok{p:Pk}(h:Pk.ok0 p)(h3:(p.sv.map Sv.row).length≤140737488351232)(h4:(p.gs.map Gw.row).length≤140737488351232)(h5:(p.wh.map Wh.row).length≤140737488351232):p.ok:=by
 rw[ZE]at h3 h4 h5;exact⟨h.fr,h.msl,h.ms,by omega,h.sv,by omega,h.gs,by omega,h.wh⟩
theorem Yl: "*" ++ "errors.errorString" = "*errors.errorString" := rfl
theorem Ac3 (u : TypeId) (h : Tryz.prog.typeName? 3 u = some "*errors.errorString") : u = 159 :=
 typeName_ptr_named (P := Tryz.prog) (nm := "errors.errorString") (by rw [Yl]; kernel_rfl) (by kernel_rfl) (by decide) u (by rw [Yl]; exact h)
abbrev Ut(W:World):Glob:=⟨fun b=>if b=1∨b=2∨b=3 then W.heap[b]? else none⟩
theorem Us(W:World): @Bz (Ut W) W (fun _=>False):=by
 intro b o h;have h:(if b=1∨b=2∨b=3 then W.heap[b]? else none)=some o:=h;refine⟨?_,id⟩;split at h
 ·exact h
 ·cases h
theorem Zd{W w:World}{L:Nat→Prop}(hg: @Bz (Ut W) w L){n:String}{g:Nat}{cs:Array Value}(hn:Tryz.prog.globalNamed n=some g)(hb:g=1∨g=2∨g=3)(h:W.var? Tryz.prog n=some cs):w.var? Tryz.prog n=some cs:=by
 unfold World.var? at h ⊢;rw[hn]at h ⊢;simp only[ZA]at h ⊢;cases ho:W.heap[g]? with
 |none=>rw[ho]at h;cases h
 |some o=>
  rw[ho]at h;rw[(hg g o (show(if g=1∨g=2∨g=3 then W.heap[g]? else none)=some o by rw[if_pos hb];exact ho)).1];exact h
theorem Aa7 {W : World} (h : laidMet Tryz.prog [("math/bits.deBruijn32tab", Rows.laid_math_bits_deBruijn32tab), ("math/bits.deBruijn64tab", Rows.laid_math_bits_deBruijn64tab), ("internal/strconv.uint64pow10", Rows.laid_internal_strconv_uint64pow10), ("strconv.ErrRange", Rows.laid_strconv_ErrRange), ("strconv.ErrSyntax", Rows.laid_strconv_ErrSyntax)] W) : @Tabs (Ut W) := by
 have h3:=h.tail.tail;have e:(Rows.laid_internal_strconv_uint64pow10:DataW Unit)=Lib.tabData .u64 Lib.pow10Tab:=by kernel_rfl
 have h4:=h3.tail;have h5:=h4.tail;rw[e]at h3;have hp:=Lib.tabIs_of_head (g:=3) (t:=152) (e:=139) (n:=20) (by kernel_rfl) (by kernel_rfl) (by kernel_rfl) (by kernel_rfl) (by kernel_rfl) (by kernel_rfl) h3;obtain⟨a0,s0,v0,_⟩:=laid_sentinel h4 (g:=2) (ti:=114) (by kernel_rfl) (by kernel_rfl) Tryz.underlying114 Ac3 Tryz.underlying159 Tryz.underlying161 rfl rfl Tryz.underlying9 (by kernel_rfl) (by kernel_rfl);obtain⟨a1,s1,v1,_⟩:=laid_sentinel h5 (g:=1) (ti:=114) (by kernel_rfl) (by kernel_rfl) Tryz.underlying114 Ac3 Tryz.underlying159 Tryz.underlying161 rfl rfl Tryz.underlying9 (by kernel_rfl) (by kernel_rfl);refine @Tabs.mk (Ut W) (fun w L hg=>Zd hg (g:=3) (by kernel_rfl) (.inr (.inr rfl)) hp) (fun w L hg=>?_) (fun w L hg=>?_)
 ·exact⟨_,World.var?_cell (g:=1) (by kernel_rfl) (Zd hg (g:=1) (by kernel_rfl) (.inl rfl) v1) 0,.inr ⟨_,_,rfl⟩⟩
 ·exact⟨_,World.var?_cell (g:=2) (by kernel_rfl) (Zd hg (g:=2) (by kernel_rfl) (.inr (.inl rfl)) v0) 0,.inr ⟨_,_,rfl⟩⟩
end Go.Proofs.YteflnbjmjcbmmaaGreatDoor
