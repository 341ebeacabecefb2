/- Texts of this claim, joined. -/
import Derived.Test.YtkbjgdcdjccnaaaGreatDoorUa
import Derived.Test.YtkbjgdcdjccnaaaGreatDoorUb
import Derived.Test.YtkbjgdcdjccnaaaGreatDoorUc
import Derived.Test.YtkbjgdcdjccnaaaGreatDoorUd
import Derived.Test.YtkbjgdcdjccnaaaGreatDoorUe
set_option linter.unusedSimpArgs false
set_option linter.unusedVariables false
namespace Go.Proofs.YtkbjgdcdjccnaaaGreatDoor
open Go Go.RowKit Pl
namespace Pl
def Bau(s:ByteArray)(a:Nat)(b:Bool):Nat×Bool:=bif b then(a,true)else(Fc s 2 a,(Ol s 2 a:Int) !=1)
def Atu(a e:Nat)(b:Bool):Bool:=bif b then true else((a:Int) !=(e:Int))
def Arv(s:ByteArray)(nm:ByteArray)(t ls a e:Nat):Option (Rr×Nat×Bool):=
 if t=1 then some (⟨nm,t,ls,Ol s 4 a,⟨#[]⟩,0,⟨#[]⟩⟩,Fc s 4 a,Atu (Fc s 4 a) e (Aec s 4 a false))
 else if t=16 then
  if Aec s 1 a false=true∨s.size<Fc s 1 a+Ol s 1 a then none
  else some (⟨nm,t,ls,0,s.extract (Fc s 1 a) (Fc s 1 a+Ol s 1 a),0,⟨#[]⟩⟩,Fc s 1 a+Ol s 1 a,Atu (Fc s 1 a+Ol s 1 a) e false)
 else if t=33 then
  some (⟨nm,t,ls,0,⟨#[]⟩,Ol s 2 (Fc s 4 a),(Ls s (Fc s 2 (Fc s 4 a)) (Aec s 2 (Fc s 4 a) ((Ol s 4 a:Int) !=0))).1⟩,
   (Ls s (Fc s 2 (Fc s 4 a)) (Aec s 2 (Fc s 4 a) ((Ol s 4 a:Int) !=0))).2.1,
   Atu (Ls s (Fc s 2 (Fc s 4 a)) (Aec s 2 (Fc s 4 a) ((Ol s 4 a:Int) !=0))).2.1 e (Ls s (Fc s 2 (Fc s 4 a)) (Aec s 2 (Fc s 4 a) ((Ol s 4 a:Int) !=0))).2.2)
 else some (⟨nm,t,ls,0,⟨#[]⟩,0,⟨#[]⟩⟩,a,Atu a e false)
def Avb(s:ByteArray)(nm:ByteArray)(a1:Nat)(b1:Bool):Option (Rr×Nat×Bool):=
 let o:=Bau s (Fc s 2 a1) (Aec s 2 a1 b1)
 if Aec s 6 o.1 o.2=true∨s.size<Fc s 6 o.1+Ol s 2 (Fc s 4 o.1)then none
 else Arv s nm (Ol s 2 a1) (Ol s 4 o.1) (Fc s 6 o.1) (Fc s 6 o.1+Ol s 2 (Fc s 4 o.1))
def Arg(s:ByteArray)(a:Nat):Option (Rr×Nat×Bool):=Avb s (Ls s a false).1 (Ls s a false).2.1 (Ls s a false).2.2
def Akd(s:ByteArray):Nat→Nat→Bool→List Rr→Option (List Rr×Nat×Bool)
 |0,a,b,L=>some (L,a,b)
 |n+1,a,b,L=>bif b then some (L,a,true)else(Arg s a).bind fun r=>Akd s n r.2.1 r.2.2 (L++[r.1])
structure Hd where
 id:Nat
 fl:Nat
 co:Nat
 one:Nat
 n:Nat
 z:Nat
def Hd.ok(h:Hd):Prop:=(h.fl=0∨h.fl=2∨h.fl=128∨h.fl=130)∧h.co≤15∧h.one=1∧h.n≤20∧h.z=0
instance (h:Hd):Decidable h.ok:=by unfold Hd.ok;exact inferInstance
theorem Yg{s:ByteArray}(hs:s.size≤1000000):∀(f a:Nat) (l:List ByteArray) (e:Option Nat) (fr:Nat),a≤1000000→e.getD 0≤1000000→l.length≤8→(∀x∈l,x.size≤1000)→
  (P1 s f a l e fr).2≤1000000∧∀p,(P1 s f a l e fr).1=some p→p.2≤1000000∧p.1.length≤8∧∀x∈p.1,x.size≤1000
 |0,a,l,e,fr,ha,he,hl,hz=>⟨ZU _,fun p h=>by cases h⟩
 |f+1,a,l,e,fr,ha,he,hl,hz=>by
  have ht:=Azu s a;have hb:=Yo s a;unfold P1;split
  ·split
   ·refine⟨ZU _,fun p h=>?_⟩;cases h;refine⟨?_,hl,hz⟩;cases e with
    |none=>show a+1≤_;omega
    |some y=>exact he
   ·split
    ·split
     ·exact Yg hs f _ l _ _ ht (At6 he (by omega)) hl hz
     ·exact⟨ht,fun p h=>by cases h⟩
    ·split
     ·rename_i h3;exact Yg hs f _ _ e fr (K5 (by omega) hs) he (by rw[ZF];exact h3.2.2) (Awx hz hb _)
     ·exact⟨K5 (by omega) hs,fun p h=>by cases h⟩
  ·exact⟨by show max a s.size≤_;omega,fun p h=>by cases h⟩
theorem Agk{s:ByteArray}(hs:s.size≤1000000){a:Nat}(ha:a≤1000000)(b:Bool):(Ls s a b).2.1≤1000000∧(Ls s a b).1.size≤10000:=by
 cases b with
 |true=>exact⟨ha,show(⟨#[]⟩:ByteArray).size≤10000 from by decide⟩
 |false=>
  obtain⟨h1,h2⟩:=Yg hs (a+10) a [] none a ha (by simp) (by simp) (by simp);rcases hq:P1 s (a+10) a [] none a with⟨_|p,x⟩
  ·rw[Ai7 (b:=false) hq];rw[hq]at h1;exact⟨h1,show(⟨#[]⟩:ByteArray).size≤10000 from by decide⟩
  ·rw[Ajx (b:=false) hq];rw[hq]at h2;obtain⟨g1,g2,g3⟩:=h2 p rfl;refine⟨g1,?_⟩;have:=Amk p.1 g3 p.1.length (ZT _);rw[XF]at this;show(Dc Ok p.1).size≤_;omega
theorem Aue{s:ByteArray}(hs:s.size≤1000000){a:Nat}(ha:a≤1000000)(b:Bool):(Bau s a b).1≤1000000:=by
 cases b with
 |true=>exact ha
 |false=>exact K5 ha hs
structure Rr.Sh(r:Rr):Prop where
 nm:r.nm.size≤1000000
 tx:r.tx.size≤1000000
 tg:r.tg.size≤1000000
theorem Aqk{s:ByteArray}(hs:s.size≤1000000){nm:ByteArray}(hn:nm.size≤10000){t ls a e:Nat}(ha:a≤1000000){r:Rr}{a':Nat}{b':Bool}(h:Arv s nm t ls a e=some (r,a',b')):r.Sh∧a'≤1000000:=by
 have h0:(⟨#[]⟩:ByteArray).size=0:=rfl;unfold Arv at h;split at h
 ·cases h;exact⟨⟨by show nm.size≤_;omega,by show(⟨#[]⟩:ByteArray).size≤_;omega,by show(⟨#[]⟩:ByteArray).size≤_;omega⟩,K5 ha hs⟩
 ·split at h
  ·split at h
   ·cases h
   ·rename_i h3;cases h;refine⟨⟨by show nm.size≤_;omega,?_,by show(⟨#[]⟩:ByteArray).size≤_;omega⟩,?_⟩
    ·show(s.extract (Fc s 1 a) (Fc s 1 a+Ol s 1 a)).size≤_;rw[ByteArray.size_extract];omega
    ·simp only[not_or]at h3;omega
  ·split at h
   ·cases h;obtain⟨g1,g2⟩:=Agk hs (K5 (K5 ha hs) hs:Fc s 2 (Fc s 4 a)≤1000000) (Aec s 2 (Fc s 4 a) ((Ol s 4 a:Int) !=0));exact⟨⟨by show nm.size≤_;omega,by show(⟨#[]⟩:ByteArray).size≤_;omega,XI g2 (by decide)⟩,g1⟩
   ·cases h;exact⟨⟨by show nm.size≤_;omega,by show(⟨#[]⟩:ByteArray).size≤_;omega,by show(⟨#[]⟩:ByteArray).size≤_;omega⟩,ha⟩
theorem Atl{s:ByteArray}(hs:s.size≤1000000){a:Nat}(ha:a≤1000000){r:Rr}{a':Nat}{b':Bool}(h:Arg s a=some (r,a',b')):r.Sh∧a'≤1000000:=by
 obtain⟨g1,g2⟩:=Agk hs ha false;unfold Arg Avb at h;simp only at h;split at h
 ·cases h
 ·exact Aqk hs g2 (K5 (Aue hs (K5 g1 hs) _) hs) h
structure RsI(s:ByteArray)(n:Nat)(R:Option (List Rr×Nat×Bool))(k a:Nat)(b:Bool)(L:List Rr):Prop where
 hr:Akd s (n-k) a b L=R
 hk:k≤n
 hl:L.length=k
 ha:a≤1000000
 hz:∀r∈L,r.Sh
section
variable {s:ByteArray} {n k a:Nat} {R:Option (List Rr×Nat×Bool)} {L:List Rr} {b:Bool}
theorem RsI.next(h:RsI s n R k a false L)(hs:s.size≤1000000)(hk:k<n){r:Rr}{a':Nat}{b':Bool}(e:Arg s a=some (r,a',b')):RsI s n R (k+1) a' b' (L++[r]):=by
 have hb:=Atl hs h.ha e;refine⟨?_,hk,by rw[ZF,h.hl];rfl,hb.2,fun x hx=>?_⟩
 ·have:=h.hr;rw[show n-k=(n-(k+1))+1 by omega,Akd,e]at this;exact this
 ·rcases XM.1 hx with hx|hx
  ·exact h.hz x hx
  ·rw[XN.1 hx];exact hb.1
theorem RsI.none(h:RsI s n R k a false L)(hk:k<n)(e:Arg s a=none):R=none:=by
 rw[←h.hr,show n-k=(n-(k+1))+1 by omega,Akd,e];rfl
end
end Pl
namespace Pl
section
variable {s:ByteArray} {a:Nat}
end
end Pl
namespace Pl
section
variable {s:ByteArray} {nm:ByteArray} {t ls a e:Nat}
end
end Pl
namespace Pl
end Pl
namespace Pl
def Oi(e:Int):Int:=if e=8 then 4 else 0
noncomputable def Ig(k:Kn)(m:Ms)(G:Qr→List Sv):Ms:=
 if(A8 m.qn).2≠0 then⟨m.id,true,false,if Oi (A8 m.qn).2=0 then 3 else Oi (A8 m.qn).2,m.qn,m.qt,[]⟩
 else if(Ew k (A8 m.qn).1 m.qt (G (A8 m.qn).1)).2.2≠0 then⟨m.id,true,false,2,m.qn,m.qt,[]⟩
 else⟨m.id,true,false,(Ew k (A8 m.qn).1 m.qt (G (A8 m.qn).1)).2.1,m.qn,m.qt,(Ew k (A8 m.qn).1 m.qt (G (A8 m.qn).1)).1⟩
end Pl
theorem Akw{env:Nat→V}{H:Nat→Option Ent}{ts:List RT}{cs cs':List V}(hG:Hy env H ts [.agg cs])(hc:Cj H [] cs cs'):∃us gone,Hy env H ts us∧Av H gone true gone us [.c (.agg cs')]:=⟨_,[],hG,.bora hc (.nil _)⟩
theorem Asf(e:Int):Fun Tryz.prog 194 [.c (.v (.int .i64 e))] [.c (.v (.int .i64 (Oi e)))]:=by
 refine A4 Y5 rfl ?_;refine G1 ?_;intro gg;refine⟨[],none,rfl,A9 rfl,rfl,?_⟩;refine G0 ?_;by_cases h:e=8
 ·subst h;refine⟨some (0,V.v (.int .i64 4)),rfl,?_⟩;refine G0 ?_;(exact⟨[],aI⟩)
 ·refine⟨none,?_,?_⟩
  ·show Fy (.int .i64) (.int .i64 e) [(.int .i64 8,.v (.int .i64 4))] 0=some none;simp[Fy,Instr.sameNow,show(e==8)=false from ZG.2 h]
  refine G0 ?_;rw[show Oi e=0 from if_neg h];(exact⟨[],aI⟩)
set_option maxHeartbeats 1000000 in
theorem An3(k:Kn)(m:Ms)(G:Qr→List Sv)(hm:m.qn.size≤1000000000000)(hR:(A8 m.qn).2=0→Fun Tryz.prog 78 [.c (.agg (A8 m.qn).1.row),.c (.v (.int .i64 m.qt)),.c (.v (.string k.here)),.c (.sl false (k.l.map Sv.row)),.c (.sl false (k.ms.map Mb.row)),.c (.agg k.f.row),.c (.sl false (k.wh.map Wh.row))]
   [.o 51 7 ((Ew k (A8 m.qn).1 m.qt (G (A8 m.qn).1)).1.map Rr.row),.c (.v (.int .i64 (Ew k (A8 m.qn).1 m.qt (G (A8 m.qn).1)).2.1)),.c (.v (.int .i64 (Ew k (A8 m.qn).1 m.qt (G (A8 m.qn).1)).2.2))]):
  Fun Tryz.prog 122 [.c (.agg m.row),.c (.v (.string k.here)),.c (.sl false (k.l.map Sv.row)),.c (.sl false (k.ms.map Mb.row)),.c (.agg k.f.row),.c (.sl false (k.wh.map Wh.row))] [.c (.agg (Ig k m G).row)]:=by
 have hP:=Qn m.qn hm;refine Ait V3 rfl ?_;(refine goI ?_;repeat (intro gg;refine goI ?_));refine .inl (cX hP ?_);unfold Ig;generalize A8 m.qn=P at *;(refine goI ?_;repeat (intro gg;refine goI ?_));by_cases c:P.2=0;rotate_left
 ·rw[if_pos c,show(P.2 !=0)=true from ZZ.2 c];refine G0 ?_;refine .inl (cX (Asf P.2) ?_);refine G1 ?_;intro gg;by_cases d:Oi P.2=0
  ·rw[if_pos d,d];refine G0 ?_;exact Akw (.cell1 rfl rfl rfl rfl rfl rfl .nil) cBI
  ·rw[if_neg d,show(Oi P.2==0)=false from ZG.2 d];refine G0 ?_;exact Akw (.cell1 rfl rfl rfl rfl rfl rfl .nil) cBI
 have hR0:=hR c;rw[if_neg (by simpa using c),c];generalize Ew k P.1 m.qt (G P.1)=X at *;refine G0 ?_;refine .inl (cX hR0 ?_);refine G1 ?_;intro gg;by_cases d:X.2.2=0;rotate_left
 ·rw[if_pos d,show(X.2.2 !=0)=true from ZZ.2 d];refine G0 ?_;exact Akw (.cell1 rfl rfl rfl rfl rfl rfl .nil) cBI
 rw[if_neg (by simpa using d),d];refine G0 ?_;exact Akw (.cell1 rfl rfl rfl rfl rfl rfl .nil) cBI
namespace Pl
noncomputable def I9(k:Kn)(s:ByteArray)(G:Qr→List Sv):Ms:=
 if(rdP s).2=0∧(rdP s).1.rs.length=0 then Ig k (rdP s).1 G else⟨((atB s 0*256+atB s 1:Nat):Int),true,false,1,⟨#[]⟩,1,[]⟩
noncomputable def M2(k:Kn)(s:ByteArray)(G:Qr→List Sv):ByteArray×Bool×Int:=
 if k.err≠0 then(⟨#[]⟩,false,k.err)
 else if s.size<12∨128≤atB s 2 then(⟨#[]⟩,false,0)
 else((N7 (I9 k s G) 512).1,(N7 (I9 k s G) 512).2==0,(N7 (I9 k s G) 512).2)
end Pl
theorem Pm{u:V}(u':V){ps:List Par}{xs:List Value}{b:Nat}(h:Ax (.c u::ps) xs b):Ax (.c u'::ps) xs b:=by
 obtain⟨i,T,sz,rows,x,h1,h2⟩:=h;rcases i with _|i
 ·cases h1
 ·exact⟨i+1,T,sz,rows,x,h1,h2⟩
theorem Fun.sub_hd{P:Program}{f:FuncId}{u u':V}{ps rs:List Par}(h:Fun P f (.c u::ps) rs)(hs:∀(w:World) (R:Nat→Prop) (x:Value),RV w R noG u' x→RV w R noG u x):Fun P f (.c u'::ps) rs:=by
 refine⟨h.1,fun w R xs hlt hp=>?_⟩;have hp':Ik w R (.c u::ps) xs:=by
  refine⟨hp.len,fun i p x h1 h2=>?_,fun i j T sz rows T' sz' rows' x y b hij h1 h2 h3 h4=>?_,fun b hb=>hp.free b (Pm u' hb)⟩
  ·rcases i with _|i
   ·cases h1;exact hs w R x (hp.ok 0 _ _ rfl h2)
   ·exact hp.ok (i+1) p x h1 h2
  ·rcases i with _|i
   ·cases h1
   ·rcases j with _|j
    ·cases h2
    ·exact hp.apart (i+1) (j+1) T sz rows T' sz' rows' x y b hij h1 h2 h3 h4
 refine(h.2 w R xs hlt hp').mono ?_
 rintro e w' ⟨ys,R',h1,h2,h3,h4,h5,h6⟩
 exact⟨ys,R',h1,⟨h2.os,h2.tape,h2.output,h2.size,fun k hk hn=>h2.block k hk fun q=>hn (Pm u' q)⟩,h3,fun b hb=>(h4 b hb).imp id fun g=>⟨g.1,g.2.imp (Pm u') id⟩,h5,fun b hb=>(h6 b hb).imp (Pm u') id⟩
set_option maxHeartbeats 2000000 in
theorem Ao3(k:Kn)(s:ByteArray)(G:Qr→List Sv)(hk:k.In)(hs:s.size≤9223372036854775807)(hRd:Fun Tryz.prog 13 [.c (.v (.string s))] [.c (.agg (rdP s).1.row),.c (.v (.int .i64 (rdP s).2))])(hr:Fun Tryz.prog 122 [.c (.agg (rdP s).1.row),.c (.v (.string k.here)),.c (.sl false (k.l.map Sv.row)),.c (.sl false (k.ms.map Mb.row)),.c (.agg k.f.row),.c (.sl false (k.wh.map Wh.row))] [.c (.agg (Ig k (rdP s).1 G).row)])(hFit:Fun Tryz.prog 123 [.c (.agg (I9 k s G).row),.c (.v (.int .i64 512))] [.c (.v (.string (N7 (I9 k s G) 512).1)),.c (.v (.int .i64 (N7 (I9 k s G) 512).2))]):
  Fun Tryz.prog 62 [.c (.v (.string s)),.c (.v (.string k.here)),.c (.sl false (k.l.map Sv.row)),.c (.sl false (k.ms.map Mb.row)),.c (.agg k.f.row),.c (.sl false (k.wh.map Wh.row))]
   [.c (.v (.string (M2 k s G).1)),.c (.v (.bool (M2 k s G).2.1)),.c (.v (.int .i64 (M2 k s G).2.2))]:=by
 have hA:M2 k s G=(if k.err≠0 then(⟨#[]⟩,false,k.err)
  else if s.size<12∨128≤atB s 2 then(⟨#[]⟩,false,0)
  else((N7 (I9 k s G) 512).1,(N7 (I9 k s G) 512).2==0,(N7 (I9 k s G) 512).2):ByteArray×Bool×Int):=rfl
 refine A4 Vz rfl ?_;refine G1 ?_;intro gg;refine .inl (cX (Abz k hk) ?_);refine G1 ?_;intro gg;by_cases c1:k.err=0;rotate_left
 ·rw[if_pos c1]at hA;rw[hA,show(k.err !=0)=true from ZZ.2 c1];refine G0 ?_;(exact⟨[],aI⟩)
 rw[if_neg (by simpa using c1)]at hA;rw[c1];refine G0 ?_;by_cases c2:s.size<12
 ·rw[if_pos (.inl c2)]at hA;rw[hA,show decide ((s.size:Int)<12)=true from ZX (by omega)];refine G0 ?_;(exact⟨[],aI⟩)
 rw[show decide ((s.size:Int)<12)=false from ZY (by omega)];obtain⟨b0,hb0⟩:∃c,s[0]? =some c:=⟨s[0],by simp⟩;obtain⟨b1,hb1⟩:∃c,s[1]? =some c:=⟨s[1],by simp⟩;obtain⟨b2,hb2⟩:∃c,s[2]? =some c:=⟨s[2],by simp⟩;have q0:=Se hb0;have q1:=Se hb1;have q2:=Se hb2;have l0:=b0.toNat_lt;have l1:=b1.toNat_lt;refine G0 ?_;refine⟨2,b2,rfl,hb2,?_⟩;refine G0 ?_;by_cases c3:128≤atB s 2
 ·rw[if_pos (.inr c3)]at hA;rw[hA,show decide ((128:Int)≤(b2.toNat:Int))=true from ZX (by omega)];refine G0 ?_;(exact⟨[],aI⟩)
 rw[if_neg (fun z=>z.elim c2 c3)]at hA;rw[show decide ((128:Int)≤(b2.toNat:Int))=false from ZY (by omega)];refine G0 ?_;refine .inl (cX hRd ?_);(refine goI ?_;repeat (intro gg;refine goI ?_));refine⟨0,b0,rfl,hb0,?_⟩;refine G0 ?_;refine⟨by decide,_,Aqu l0,?_⟩;refine G0 ?_;refine⟨1,b1,rfl,hb1,?_⟩;refine G0 ?_;refine⟨_,or8 l0 l1,?_⟩;refine G1 ?_;intro gg;rw[←q0,←q1];have hM:I9 k s G=(if(rdP s).2=0∧(rdP s).1.rs.length=0 then Ig k (rdP s).1 G else⟨((atB s 0*256+atB s 1:Nat):Int),true,false,1,⟨#[]⟩,1,[]⟩:Ms):=rfl;generalize I9 k s G=M at *;generalize rdP s=P at *;by_cases c4:P.2=0;rotate_left
 ·rw[if_neg (fun z=>c4 z.1)]at hM;have hFn:=hFit.sub_hd (u':=.agg (U2 M)) fun w R x h=>Ad7 (by rw[hM]) h;subst hM;rw[hA,show(P.2==0)=false from ZG.2 c4];refine G0 ?_;refine .inl (cX hFn ?_);refine G1 ?_;intro gg;(exact⟨[],aI⟩)
 rw[c4];refine G0 ?_;rw[ZE];by_cases c5:P.1.rs.length=0;rotate_left
 ·rw[if_neg (fun z=>c5 z.2)]at hM;have hFn:=hFit.sub_hd (u':=.agg (U2 M)) fun w R x h=>Ad7 (by rw[hM]) h;subst hM;rw[hA,show((P.1.rs.length:Int)==0)=false from ZG.2 (by omega)];refine G0 ?_;refine .inl (cX hFn ?_);refine G1 ?_;intro gg;(exact⟨[],aI⟩)
 rw[if_pos ⟨c4,c5⟩]at hM;rw[hA,c5];refine G0 ?_;refine .inl (cX hr ?_);refine G1 ?_;intro gg;rw[←hM];refine G0 ?_;refine .inl (cX hFit ?_);refine G1 ?_;intro gg;(exact⟨[],aI⟩)
namespace Pl
def I5(n:ByteArray)(K:List Sv):List Sv:=K.filter fun s=>s.nd.toList==n.toList
def Aak(ns:List ByteArray)(s:Sv):List ByteArray:=bif ns.any (fun n=>n.toList==s.nd.toList)then ns else ns++[s.nd]
def nms(K:List Sv):List ByteArray:=K.foldl Aak []
theorem Rv(K:List Sv)(s:Sv):nms (K++[s])=Aak (nms K) s:=by simp[nms,List.foldl_append]
theorem tEq{a b:ByteArray}:(a.toList==b.toList)=true↔a=b:=⟨fun h=>toList_inj (ZR.1 h),fun h=>by rw[h];exact beq_self_eq_true _⟩
theorem Asa{ns:List ByteArray}{m:ByteArray}:ns.any (fun n=>n.toList==m.toList)=true↔m∈ns:=by
 rw[List.any_eq_true];exact⟨fun⟨n,h1,h2⟩=>tEq.1 h2▸h1,fun h=>⟨m,h,tEq.2 rfl⟩⟩
theorem Ad8{ns:List ByteArray}{s:Sv}(h:s.nd∈ns):Aak ns s=ns:=by unfold Aak;rw[Asa.2 h];rfl
theorem Zd{ns:List ByteArray}{s:Sv}(h:s.nd∉ns):Aak ns s=ns++[s.nd]:=by
 unfold Aak;rw[XE.2 (fun e=>h (Asa.1 e))];rfl
theorem Yx:∀(K:List Sv) (ns:List ByteArray),(∀n,n∈K.foldl Aak ns↔n∈ns∨∃s∈K,s.nd=n)∧(ns.Nodup→(K.foldl Aak ns).Nodup)∧(K.foldl Aak ns).length≤ns.length+K.length
 |[],ns=>⟨fun n=>by simp,id,by simp⟩
 |s::K,ns=>by
  obtain⟨h1,h2,h3⟩:=Yx K (Aak ns s);by_cases h:s.nd∈ns
  ·rw[List.foldl_cons];rw[Ad8 h]at *;refine⟨fun n=>(h1 n).trans ⟨fun q=>q.imp id fun⟨t,a,b⟩=>⟨t,ZL _ a,b⟩,fun q=>?_⟩,h2,by simp only[ZJ];omega⟩;rcases q with q|⟨t,a,b⟩
   ·exact .inl q
   ·rcases XC.1 a with e|e
    ·subst e;exact .inl (b▸h)
    ·exact .inr ⟨t,e,b⟩
  ·rw[List.foldl_cons];rw[Zd h]at *;refine⟨fun n=>(h1 n).trans ?_,fun hn=>h2 ?_,by simp only[ZJ,ZF,ZN]at *;omega⟩
   ·rw[XM,XN];constructor
    ·rintro ((q|q)|⟨t,a,b⟩)
     ·exact .inl q
     ·exact .inr ⟨s,XB ..,q.symm⟩
     ·exact .inr ⟨t,ZL _ a,b⟩
    ·rintro (q|⟨t,a,b⟩)
     ·exact .inl (.inl q)
     ·rcases XC.1 a with e|e
      ·subst e;exact .inl (.inr b.symm)
      ·exact .inr ⟨t,e,b⟩
   ·rw[List.nodup_append];refine⟨hn,by simp,fun a ha b hb e=>?_⟩;rw[XN]at hb;subst hb;subst e;exact h ha
theorem Alf{K:List Sv}{n:ByteArray}:n∈nms K↔∃s∈K,s.nd=n:=((Yx K []).1 n).trans (by simp)
theorem Au3(K:List Sv):(nms K).length≤K.length:=by have:=(Yx K []).2.2;simpa[nms]using this
theorem Adp{K:List Sv}{n:ByteArray}(h:n∈nms K):∃s l,I5 n K=s::l∧s.nd=n:=by
 obtain⟨s,h1,h2⟩:=Alf.1 h;have hm:s∈I5 n K:=List.mem_filter.2 ⟨h1,tEq.2 h2⟩;cases hl:I5 n K with
 |nil=>rw[hl]at hm;cases hm
 |cons t l=>
  have:t∈I5 n K:=by rw[hl];exact XB ..
  exact⟨t,l,rfl,tEq.1 (List.mem_filter.1 this).2⟩
theorem Au1{K:List Sv}{n:ByteArray}(h:n∉nms K):I5 n K=[]:=List.filter_eq_nil_iff.2 fun s hs e=>h (Alf.2 ⟨s,hs,tEq.1 e⟩)
theorem Pg(K:List Sv)(s:Sv)(n:ByteArray):I5 n (K++[s])=I5 n K++(bif s.nd.toList==n.toList then [s]else []):=by
 unfold I5;rw[List.filter_append,List.filter_cons];cases s.nd.toList==n.toList<;>rfl
theorem P9(k:ByteArray)(v:V):∀(l:List (ByteArray×V)) (o i:Nat) (u:V),look k l o=some (i,u)→look k (l.set (i-o) (k,v)) o=some (i,v)
 |[],o,i,u,h=>by simp[look]at h
 |(a,w)::es,o,i,u,h=>by
  unfold look at h;split at h
  ·simp only[ZD,Prod.mk.injEq]at h;obtain⟨rfl,rfl⟩:=h;simp[look]
  ·rename_i hk;have h1:=(O1 h).1;rw[show i-o=(i-(o+1))+1 by omega,List.set_cons_succ];unfold look;rw[if_neg hk];exact P9 k v es (o+1) i u h
theorem Vh{k k':ByteArray}(hne:k'≠k)(v:V):∀(l:List (ByteArray×V)) (o i:Nat) (u:V),look k l o=some (i,u)→look k' (l.set (i-o) (k,v)) o=look k' l o
 |[],o,i,u,h=>by simp[look]at h
 |(a,w)::es,o,i,u,h=>by
  unfold look at h;split at h
  ·rename_i hk;simp only[ZD,Prod.mk.injEq]at h;obtain⟨rfl,rfl⟩:=h;subst hk;simp[look,hne]
  ·rename_i hk;have h1:=(O1 h).1;rw[show i-o=(i-(o+1))+1 by omega,List.set_cons_succ];unfold look;rw[Vh hne v es (o+1) i u h]
theorem Tr{k k':ByteArray}(v:V):∀(l:List (ByteArray×V)) (o:Nat),look k' (l++[(k,v)]) o=(match look k' l o with
  |some r=>some r
  |none=>if k'=k then some (o+l.length,v)else none)
 |[],o=>by simp[look]
 |(a,w)::es,o=>by
  rw[List.cons_append];unfold look;split
  ·rfl
  ·rw[Tr v es (o+1),ZJ,show o+1+es.length=o+(es.length+1)by omega]
theorem Qf(k:ByteArray)(v:V)(l:List (ByteArray×V)):∃j,look k (put l k v) 0=some (j,v):=by
 unfold put;cases h:look k l 0 with
 |none=>exact⟨0+l.length,by simp only[];rw[Tr,h];simp⟩
 |some p=>obtain⟨i,u⟩:=p;exact⟨i,by simpa using P9 k v l 0 i u h⟩
theorem K0{k k':ByteArray}(hne:k'≠k)(v:V)(l:List (ByteArray×V)):look k' (put l k v) 0=look k' l 0:=by
 unfold put;cases h:look k l 0 with
 |none=>simp only[];rw[Tr];cases look k' l 0<;>simp[hne]
 |some p=>obtain⟨i,u⟩:=p;simpa using Vh hne v l 0 i u h
theorem Aw0{a b:Sv}(h:a.row=b.row):a.nd=b.nd:=by
 unfold Sv.row at h;injection h with h _
 injection h with h;injection h
structure Grp(T:TypeId)(K:List Sv)(E:List (ByteArray×V))(ss:List SE):Prop where
 has:∀n∈nms K,∃j s,look n E 0=some (j,.v s.val)∧s∈ss∧s.T=T∧s.sz=9∧s.rows=(I5 n K).map Sv.row
 no:∀n,n∉nms K→look n E 0=none
theorem Grp.nil(T:TypeId):Grp T [] [] []:=⟨fun n h=>by simp[nms]at h,fun n _=>rfl⟩
theorem Grp.new{T:TypeId}{K:List Sv}{E:List (ByteArray×V)}{ss:List SE}(h:Grp T K E ss)(s:Sv)(hn:s.nd∉nms K)(b cap:Nat):Grp T (K++[s]) (put E s.nd (.v (SE.val ⟨T,9,b,cap,[s.row]⟩))) (⟨T,9,b,cap,[s.row]⟩::ss):=by
 have e:nms (K++[s])=nms K++[s.nd]:=by rw[Rv,Zd hn]
 constructor
 ·intro n hm;rw[e]at hm;by_cases hc:n=s.nd
  ·subst hc;obtain⟨j,hj⟩:=Qf s.nd (.v (SE.val ⟨T,9,b,cap,[s.row]⟩)) E;refine⟨j,_,hj,XB ..,rfl,rfl,?_⟩;rw[Pg,Au1 hn,tEq.2 rfl];rfl
  ·have hm':n∈nms K:=by
    rcases XM.1 hm with q|q
    ·exact q
    ·exact absurd (XN.1 q) hc
   obtain⟨j,t,h1,h2,h3,h4,h5⟩:=h.has n hm';refine⟨j,t,by rw[K0 hc];exact h1,ZL _ h2,h3,h4,?_⟩;rw[Pg,XE.2 (fun q=>hc (tEq.1 q).symm),cond_false,List.append_nil];exact h5
 ·intro n hm;rw[e]at hm;rw[K0 (fun q=>hm (XM.2 (.inr (by rw[q];exact List.mem_singleton_self _))))];exact h.no n fun q=>hm (XM.2 (.inl q))
theorem Grp.old{T:TypeId}{K:List Sv}{E:List (ByteArray×V)}{ss1 ss2:List SE}{t:SE}(h:Grp T K E (ss1++t::ss2))(s:Sv)(hn:s.nd∈nms K)(ht:t.rows=(I5 s.nd K).map Sv.row)(b cap:Nat):
  Grp T (K++[s]) (put E s.nd (.v (SE.val ⟨T,9,b,cap,t.rows++[s.row]⟩))) (⟨T,9,b,cap,t.rows++[s.row]⟩::(ss1++ss2)):=by
 have e:nms (K++[s])=nms K:=by rw[Rv,Ad8 hn]
 constructor
 ·intro n hm;rw[e]at hm;by_cases hc:n=s.nd
  ·subst hc;obtain⟨j,hj⟩:=Qf s.nd (.v (SE.val ⟨T,9,b,cap,t.rows++[s.row]⟩)) E;refine⟨j,_,hj,XB ..,rfl,rfl,?_⟩;rw[Pg,tEq.2 rfl,cond_true,ZI,←ht];rfl
  ·obtain⟨j,u,h1,h2,h3,h4,h5⟩:=h.has n hm;refine⟨j,u,by rw[K0 hc];exact h1,ZL _ ?_,h3,h4,?_⟩
   ·rcases XM.1 h2 with q|q
    ·exact XM.2 (.inl q)
    ·rcases XC.1 q with q|q
     ·exfalso;subst q;obtain⟨x,l,p1,p2⟩:=Adp hm;obtain⟨y,l',r1,r2⟩:=Adp hn;rw[h5,p1,r1,List.map_cons,List.map_cons]at ht;injection ht with ht _
      exact hc (by rw[←p2,←r2];exact Aw0 ht)
     ·exact XM.2 (.inr q)
   ·rw[Pg,XE.2 (fun q=>hc (tEq.1 q).symm),cond_false,List.append_nil];exact h5
 ·intro n hm;rw[e]at hm;rw[K0 (fun q=>hm (by rw[q];exact hn))];exact h.no n hm
def fK(k:Kn)(q:Qr):List Sv:=keep (fun s=>Ox k.ms s.nd) (Ck k.l q.sv q.tg).2
noncomputable def Ef(k:Kn)(q:Qr):List Sv:=((Kp (cfN (Fw k.f k.wh)) (nms (fK k q))).flatMap fun n=>I5 n (fK k q)).take 20
theorem Am1{K:List Sv}{m:Nat}(hK:K.length≤m):∀ns:List ByteArray,(ns.flatMap fun n=>I5 n K).length≤ns.length*m
 |[]=>by simp
 |n::ns=>by
  have h1:(I5 n K).length≤m:=XI (List.length_filter_le _ _) hK;have h2:=Am1 hK ns;rw[List.flatMap_cons,ZF,ZJ,Nat.add_mul];omega
end Pl
namespace Pl
def Mn(K:List Sv):Prop:=K.Pairwise fun a b=>slt b.nd a.nd=false
theorem Ba1{l:List Sv}(h:sorted Sv.lt l=true):Mn l:=by
 rw[Mn,List.pairwise_iff_getElem];intro i j hi hj hij;have:=Ot Sv.lt_trans h j i hj hij;rcases Sv.lt_iff.1 this with q|⟨q,_⟩
 ·exact Up q
 ·rw[q];exact Fh _
theorem Mn.filter{K:List Sv}(h:Mn K)(p:Sv→Bool):Mn (K.filter p):=List.Pairwise.filter p h
theorem Mn.take{K:List Sv}(h:Mn K)(n:Nat):Mn (K.take n):=h.sublist (List.take_sublist _ _)
theorem Aor{α:Type}{cf:α→α→Int}{d:List α}{x:α}(h:x∈Kp cf d):x∈d:=(List.mergeSort_perm d _).mem_iff.1 h
theorem Api{α:Type}{cf:α→α→Int}{d:List α}:(Kp cf d).length=d.length:=(List.mergeSort_perm d _).length_eq
theorem Akc{k:Kn}{q:Qr}{s:Sv}(h:s∈Ef k q):s∈k.l∧Ox k.ms s.nd=false∧Sv.sought q.sv q.tg s=true:=by
 unfold Ef at h;have h:=List.mem_of_mem_take h;obtain⟨n,_,h2⟩:=List.mem_flatMap.1 h;have h3:=(List.mem_filter.1 h2).1;obtain⟨h4,h5⟩:=List.mem_filter.1 h3;have h6:s∈k.l∧Sv.sought q.sv q.tg s=true:=by
  unfold Ck at h4
  repeat' split at h4
  all_goals first
   |(simp at h4;done)
   |exact List.mem_filter.1 h4
 exact⟨h6.1,by simpa using h5,h6.2⟩
theorem Alq(k:Kn)(q:Qr):(Ef k q).length≤20:=by unfold Ef;rw[ZM];omega
theorem Apt{k:Kn}(h:k.err=0):lab k.here.data.toList=true∧ckSv k.l=0∧I3 k.ms=0∧k.wh.length≤20∧k.f.err=0∧Do (k.wh.map fun w=>w.pl.err)=0:=by
 unfold Kn.err at h;cases h0:lab k.here.data.toList with
 |false=>rw[h0]at h;exact absurd h (by decide:¬(1:Int)=0)
 |true=>
  rw[h0]at h;simp only[Bool.not_true,cond_false]at h;by_cases h1:ckSv k.l≠0
  ·rw[if_pos h1]at h;exact absurd h h1
  rw[if_neg h1]at h;by_cases h2:I3 k.ms≠0
  ·rw[if_pos h2]at h;exact absurd h h2
  rw[if_neg h2]at h;by_cases h3:20<k.wh.length
  ·rw[if_pos h3]at h;exact absurd h (by decide)
  rw[if_neg h3]at h;by_cases h4:k.f.err≠0
  ·rw[if_pos h4]at h;exact absurd h h4
  rw[if_neg h4]at h;exact⟨rfl,by simpa using h1,by simpa using h2,by omega,by simpa using h4,h⟩
theorem Au0{l:List Sv}(h:ckSv l=0):∀s∈l,s.err=0:=fun s hs=>by
 obtain⟨i,hi,e⟩:=List.getElem_of_mem hs;rw[←e];exact(Nw h).2.1 i hi
end Pl
namespace Pl
theorem Ky:As ⟨#[]⟩=0:=by decide+kernel
theorem K7:em ⟨#[]⟩=true:=by simp[em]
theorem Ag6{s:ByteArray}(h:As s=0):(Bp s).length≤249:=by
 obtain⟨h1,h2,_⟩:=Rc h;have:=Pq (l:=Bg s) (m:=30) fun x hx=>(Ae8 (h1 x hx)).2;unfold Bp;rw[ZF,List.length_singleton];omega
theorem Qu{m:Ms}(h:m.Good):(Bu (Fa m 0)).length≤512:=by
 have h1:=Ag6 h.qn;have h2:(Fa m 0).rs=[]:=by show m.rs.take 0=[];simp
 unfold Bu;rw[h2];simp only[ZF,Ar,ZJ,ZN];show 2*6+(Bp m.qn).length+2*2+0≤512;omega
theorem Xj{m:Ms}(h:m.Good):∀n,∃j,j≤n∧(Bu (Fa m j)).length≤512∧Tg m 512 n=(bA (Bu (Fa m j)),0)
 |0=>⟨0,ZT _,Qu h,Sd (by have:=Qu h;omega)⟩
 |n+1=>by
  by_cases q:((Bu (Fa m (n+1))).length:Int)≤512
  ·exact⟨n+1,ZT _,by omega,Sd q⟩
  ·obtain⟨j,h1,h2,h3⟩:=Xj h n;exact⟨j,by omega,h2,(Akk q).trans h3⟩
theorem Ai0{m:Ms}(h:Bc m=0):∃j,j≤m.rs.length∧(Bu (Fa m j)).length≤512∧N7 m 512=(bA (Bu (Fa m j)),0):=by
 have e0:N7 m 512=if Bc m≠0 then(⟨#[]⟩,Bc m)else Tg m 512 m.rs.length:=rfl
 obtain⟨j,h1,h2,h3⟩:=Xj (Hl h).1 m.rs.length;exact⟨j,h1,h2,by rw[e0,if_neg (by simp[h]),h3]⟩
theorem Oz{r:Rr}(h1:As r.nm=0)(h2:Ln r.ty=true)(h3:wIn r.ls 0 2147483647=true)(h4:r.un=true)(h5:wIn r.ad 0 4294967295=true)(h6:wIn r.pt 0 65535=true)(h7:r.tx.size≤200)(h8:As r.tg=0):Eb r=0:=by
 unfold Eb;rw[if_neg (by simp[h1]),h2,h3,h4,h5,h6,if_neg (by omega),h8];rfl
theorem Awy {s : Sv} (h : s.err = 0) : lab s.nd.data.toList = true ∧ lab s.id.data.toList = true ∧ wIn s.ad 0 4294967295 = true ∧ wIn s.pt 0 65535 = true := by
  unfold Sv.err at h
  repeat' split at h
  all_goals first
    | (simp at h; done)
    | (simp only [Acv] at *
       refine ⟨by assumption, by assumption, ?_, ?_⟩ <;> unfold wIn <;> simp_all)
theorem Atd{here nm:ByteArray}{t:Int}{s:Sv}(hs:s.err=0)(hn:As nm=0)(ht:Ln t=true)(e:(Hh here t nm s).2=0):Eb (Hh here t nm s).1=0:=by
 obtain⟨b1,b2,b3,b4⟩:=Awy hs;have w0:∀b:Int,0≤b→wIn 0 0 b=true:=fun b hb=>by unfold wIn;simp[hb]
 have hz:(⟨#[]⟩:ByteArray).size≤200:=by decide
 by_cases t1:t=1
 ·subst t1;rw[show Hh here 1 nm s=(⟨nm,1,0,s.ad,⟨#[]⟩,0,⟨#[]⟩⟩,0)from if_pos rfl];exact Oz hn rfl (w0 _ (by decide)) (by simp[Rr.un,K7]) b3 (w0 _ (by decide)) hz Ky
 by_cases t16:t=16
 ·subst t16;rw[show Hh here 16 nm s=(⟨nm,16,0,0,s.id,0,⟨#[]⟩⟩,0)from(if_neg (by decide)).trans (if_pos rfl)];exact Oz hn rfl (w0 _ (by decide)) (by simp[Rr.un,K7]) (w0 _ (by decide)) (w0 _ (by decide)) (by have:=(Ae8 b2).2;show s.id.size≤200;omega) Ky
 by_cases t33:t=33
 ·subst t33;have e0:Hh here 33 nm s=if(Ao ⟨⟨#[]⟩,⟨#[]⟩,s.nd,here⟩).2≠0 then(⟨nm,33,0,0,⟨#[]⟩,0,⟨#[]⟩⟩,(Ao ⟨⟨#[]⟩,⟨#[]⟩,s.nd,here⟩).2)
   else(⟨nm,33,0,0,⟨#[]⟩,s.pt,(Ao ⟨⟨#[]⟩,⟨#[]⟩,s.nd,here⟩).1⟩,0):=rfl
  rw[e0]at e ⊢;by_cases c:(Ao ⟨⟨#[]⟩,⟨#[]⟩,s.nd,here⟩).2=0
  ·rw[if_neg (by simpa using c)];obtain⟨p1,p2⟩:∃p,Ao ⟨⟨#[]⟩,⟨#[]⟩,s.nd,here⟩=(p,0):=⟨_,Prod.ext rfl c⟩;obtain⟨_,q2,q3⟩:=Ep p2;refine Oz hn rfl (w0 _ (by decide)) (by simp[Rr.un,K7]) (w0 _ (by decide)) b4 hz ?_;show As (Ao ⟨⟨#[]⟩,⟨#[]⟩,s.nd,here⟩).1=0;rw[p2,←q3];exact q2
  ·rw[if_pos c]at e;exact absurd e c
 ·exfalso;simp[Ln,t1,t16,t33]at ht
structure Acd(x:List Rr×Int×Int):Prop where
 co:x.2.1=0∨x.2.1=3
 len:x.1.length≤20
 rs:∀r∈x.1,Eb r=0
theorem Ar2{k:Kn}{q:Qr}{t:Int}{nm:ByteArray}{F:List Sv}(hn:As nm=0)(ht:Ln t=true)(hF:F.length≤20)(hs:∀s∈F,s.err=0):Acd (Mi k q t nm F):=by
 unfold Mi;by_cases h1:Do (F.map fun s=>(Hh k.here t nm s).2)=0
 ·rw[if_neg (by simpa using h1)];split
  ·exact⟨.inr rfl,ZU _,fun r hr=>by cases hr⟩
  ·refine⟨.inl rfl,by simpa using hF,fun r hr=>?_⟩;obtain⟨s,h2,rfl⟩:=XO.1 hr;exact Atd (hs s h2) hn ht (Vl h1 _ (List.mem_map_of_mem h2))
 ·rw[if_pos h1];exact⟨.inl rfl,ZU _,fun r hr=>by cases hr⟩
theorem Aqv{k:Kn}{q:Qr}{t:Int}{nm:ByteArray}(hn:As nm=0)(hm:I3 k.ms=0):Acd ((L7 k q t nm).1,(L7 k q t nm).2,0):=by
 unfold L7;split
 ·exact⟨.inr rfl,ZU _,fun r hr=>by cases hr⟩
 ·split
  ·exact⟨.inl rfl,ZU _,fun r hr=>by cases hr⟩
  ·rename_i t1;have t1:t=1:=by simpa using t1
   split
   ·rename_i m hm1;refine⟨.inl rfl,by simp,fun r hr=>?_⟩;obtain⟨hi,e⟩:=ZB.1 hm1;have hb:m.err=0:=by rw[←e];exact(Ah2 hm).2.1 _ hi
    have ha:wIn m.ad 0 4294967295=true:=by
     unfold Mb.err at hb
     repeat' split at hb
     all_goals first
      |(simp at hb;done)
      |(rename_i h;rw[ZO,Acv,Acv]at h;unfold wIn;simp[h.2.1,h.2.2])
    rw[XN.1 hr,t1];have w0:∀b:Int,0≤b→wIn 0 0 b=true:=fun b hb=>by unfold wIn;simp[hb]
    exact Oz hn rfl (w0 _ (by decide)) (by simp[Rr.un,K7]) ha (w0 _ (by decide)) (by show(⟨#[]⟩:ByteArray).size≤200;decide) Ky
   ·exact⟨.inl rfl,ZU _,fun r hr=>by cases hr⟩
theorem Ar8(k:Kn)(q:Qr)(t:Int):Acd (Ew k q t (Ef k q)):=by
 have bad:∀e:Int,Acd ([],0,e):=fun e=>⟨.inl rfl,ZU _,fun r hr=>by cases hr⟩;unfold Ew;by_cases h1:K3 k q t=0
 ·rw[if_neg (by simpa using h1)];by_cases h2:(Ao q).2=0
  ·rw[if_neg (by simpa using h2)];obtain⟨p1,p2⟩:∃p,Ao q=(p,0):=⟨_,Prod.ext rfl h2⟩;obtain⟨_,q2,q3⟩:=Ep p2;have hn:As (Ao q).1=0:=by rw[p2,←q3];exact q2
   have hk:Ln t=true∧k.err=0:=by
    unfold K3 at h1;split at h1
    ·rename_i h;exact absurd h1 h
    ·split at h1
     ·cases h1
     ·rename_i h;exact⟨by simpa using h,h1⟩
   have hi:=Apt hk.2;split
   ·exact⟨.inr rfl,ZU _,fun r hr=>by cases hr⟩
   ·split
    ·exact Aqv hn hi.2.2.1
    ·exact Ar2 hn hk.1 (Alq k q) fun s hs=>Au0 hi.2.1 s (Akc hs).1
  ·rw[if_pos h2];exact bad _
 ·rw[if_pos h1];exact bad _
theorem Ahh{l:List Int}(h:∀e∈l,e=0):Do l=0:=O7 fun j hj=>h _ (ZK hj)
theorem L0{m:Ms}(h1:wIn m.id 0 65535=true)(h2:wIn m.co 0 15=true)(h3:m.rs.length≤20)(h4:As m.qn=0)(h5:Ln m.qt=true)(h6:∀r∈m.rs,Eb r=0):Bc m=0:=by
 unfold Bc;rw[h1,h2,if_neg (by omega),if_neg (by simp[h4]),h5,Ahh]
 ·rfl
 ·intro e he;obtain⟨r,hr,rfl⟩:=XO.1 he;exact h6 r hr
theorem Ai1{m:Ms}(h:Bc m=0):wIn m.id 0 65535=true∧As m.qn=0∧Ln m.qt=true:=by
 obtain⟨hg,_⟩:=Hl h;refine⟨?_,hg.qn,?_⟩
 ·unfold wIn;simp[hg.id.1,hg.id.2]
 ·rcases hg.qt with e|e|e<;>rw[e]<;>rfl
theorem Abq{k:Kn}{m:Ms}(h:Bc m=0):Bc (Ig k m (Ef k))=0∧(Ig k m (Ef k)).id=m.id∧(Ig k m (Ef k)).an=true∧(Ig k m (Ef k)).qn=m.qn∧(Ig k m (Ef k)).qt=m.qt:=by
 obtain⟨h1,h2,h3⟩:=Ai1 h;have c:∀n:Int,0≤n→n≤15→wIn n 0 15=true:=fun n a b=>by unfold wIn;simp[a,b]
 unfold Ig;split
 ·have cA:0≤(if Oi (A8 m.qn).2=0 then(3:Int)else Oi (A8 m.qn).2)∧(if Oi (A8 m.qn).2=0 then(3:Int)else Oi (A8 m.qn).2)≤15:=by
   unfold Oi
   repeat' split
   all_goals omega
  exact⟨L0 h1 (c _ cA.1 cA.2) (ZU _) h2 h3 (fun r hr=>by cases hr),rfl,rfl,rfl,rfl⟩
 ·split
  ·exact⟨L0 h1 rfl (ZU _) h2 h3 (fun r hr=>by cases hr),rfl,rfl,rfl,rfl⟩
  ·have hR:=Ar8 k (A8 m.qn).1 m.qt;exact⟨L0 h1 (c _ (by show 0≤(Ew k (A8 m.qn).1 m.qt (Ef k (A8 m.qn).1)).2.1;rcases hR.co with e|e<;>rw[e]<;>decide) (by show(Ew k (A8 m.qn).1 m.qt (Ef k (A8 m.qn).1)).2.1≤15;rcases hR.co with e|e<;>rw[e]<;>decide)) hR.len h2 h3 hR.rs,rfl,rfl,rfl,rfl⟩
theorem Alz(s:ByteArray):(∃x,rdP s=(x,0)∧Bc x=0)∨(rdP s).2≠0:=by
 by_cases hl:512<s.size
 ·rw[Ya hl];exact .inr (by decide)
 ·rcases e:Re s with _|m
  ·rw[Yw hl e];exact .inr (by decide)
  ·rw[Sb hl e];by_cases he:Bc m=0
   ·rw[if_pos he];exact .inl ⟨m,rfl,he⟩
   ·rw[if_neg he];exact .inr (by decide)
theorem Zw(k:Kn)(s:ByteArray):Bc (I9 k s (Ef k))=0:=by
 unfold I9;split
 ·rename_i h;rcases Alz s with⟨x,e,hx⟩|e
  ·rw[e];exact(Abq hx).1
  ·exact absurd h.1 e
 ·refine L0 ?_ rfl (ZU _) Ky rfl (fun r hr=>by cases hr);have h0:=Yo s 0;have h1:=Yo s 1;show wIn ((atB s 0*256+atB s 1:Nat):Int) 0 65535=true;unfold wIn;rw[show decide ((0:Int)≤((atB s 0*256+atB s 1:Nat):Int))=true from ZX (by omega),show decide (((atB s 0*256+atB s 1:Nat):Int)≤65535)=true from ZX (by omega)];rfl
end Pl
namespace Pl
instance:OneRow Sv.row 9:=⟨fun _=>rfl,fun x u hu=>by simp[Sv.row]at hu;rcases hu with rfl|rfl|rfl|rfl|rfl|rfl|rfl|rfl|rfl<;>exact⟨_,rfl,rfl⟩⟩
end Pl
theorem Agn(cl:Bool)(l:List Sv)(f:FuncId)(caps:List V)(hcaps:∀u∈caps,Cl u)(p:Sv→Bool)(hl:l.length≤1000)(hf:∀x∈l,Fun Tryz.prog f (.c (.agg (Sv.row x))::caps.map .c) [.c (.v (.bool (p x)))]):
  Fun Tryz.prog 269 [.c (.sl cl (l.map Sv.row)),.c (.clo f caps)] [.c (.v (.int .i64 (at_ p l)))]:=by
 refine A4 Ed rfl ?_;refine G0 ?_;rw[ZE];(refine⟨[],none,{k:Nat//k≤l.length∧∀j,(h:j<l.length)→j<k→p l[j]=false},[0,1,7],fun⟨k,hk,h0⟩=>[(8,.v (.int .i64 k))],[],fun⟨k,hk,h0⟩=>[],fun⟨k,hk,h0⟩=>l.length-k,trivial,fun _=>⟨trivial,fun _=>⟨⟨0,by omega,fun j _ h=>by omega⟩,tI,A2 _ _,tI,A3 _ _⟩⟩,fun⟨k,hk,h0⟩=>?_⟩);refine G0 ?_;(refine Ag (fun h=>?_) (fun h=>?_)<;>rw[h])
 ·have hlt:k<l.length:=(by have:=ZV h;omega);refine G0 ?_;refine⟨k,_,rfl,A7 hlt,?_⟩;refine G0 ?_;refine .inl (cX (hf _ (ZK hlt)) ?_);refine G1 ?_;intro gg;(refine Ag (fun h2=>?_) (fun h2=>?_)<;>rw[h2])
  ·refine G0 ?_;rw[Ae4 hlt h0 h2];(exact⟨[],aI⟩)
  ·refine G0 ?_;(exact⟨none,trivial,fun _=>⟨⟨k+1,by omega,up1 (p:=fun j h=>p l[j]=false) h0 (fun _=>h2)⟩,by show l.length-(k+1)<l.length-k;omega,tI,tI,tI,tI⟩⟩)
 ·have hge:¬k<l.length:=(by have:=ZW h;omega);refine G0 ?_;rw[Akn (p:=p) (l:=l) (fun i hi=>h0 i hi (by omega))];(exact⟨[],aI⟩)
theorem Aaq(l:List Sv)(f:FuncId)(caps:List V)(hcaps:∀u∈caps,Cl u)(p:Sv→Bool)(hl:l.length≤1000)(hf:∀x∈l,Fun Tryz.prog f (.c (.agg (Sv.row x))::caps.map .c) [.c (.v (.bool (p x)))]):
  Fun Tryz.prog 250 [.o 77 9 (l.map Sv.row),.c (.clo f caps)] [.o 77 9 ((keep p l).map Sv.row)]:=by
 refine A4 D9 rfl ?_;refine G0 ?_;refine .inl (cY (Agn false l f caps hcaps p hl hf) ?_);rcases Ajc (p:=p) (l:=l)with⟨h1,h2⟩|⟨k,hk,h1,h2,h3⟩
 ·rw[h1,Pl.keep_all (p:=p) (l:=l) h2];refine G1 ?_;intro gg;(exact⟨[0],aI⟩)
 ·rw[h1];refine G1 ?_;intro gg;(refine⟨[],none,{q:List Sv×Nat×Nat//Jb p l q.1 q.2.1 q.2.2},[0,1,36,37,39,40,41],fun⟨⟨l',i,j⟩,hm⟩=>[(5,.v (.int .i64 i)),(6,.v (.int .i64 j))],[],fun⟨⟨l',i,j⟩,hm⟩=>[(0,⟨0,77,9,l'.map Sv.row⟩)],fun⟨⟨l',i,j⟩,hm⟩=>l.length-j,trivial,fun _=>⟨trivial,fun _=>⟨⟨(l,k,k+1),Jb.start hk h2 h3⟩,tI,A2 _ _,tI,A3 _ _⟩⟩,fun⟨⟨l',i,j⟩,hm⟩=>?_⟩);refine G0 ?_;have hm:Jb p l l' i j:=hm;have hlen:l'.length=l.length:=hm.len;(refine Ag (fun h=>?_) (fun h=>?_)<;>rw[h])
  ·have hlt:j<l'.length:=by have:=ZV h;simpa using this
   refine G0 ?_;refine⟨j,_,rfl,A7 hlt,?_⟩;refine G1 ?_;intro gg;have hj:j<l.length:=by omega
   have hx:l'[j]=l[j]:=hm.behind j hj (ZT _);rw[hx];refine .inl (cX (hf _ (ZK hj)) ?_);refine G1 ?_;intro gg;(refine Ag (fun h4=>?_) (fun h4=>?_)<;>rw[h4])
   ·have h4':p l[j]=false:=L5 h4;have hi:i<l'.length:=by have:=hm.ij;omega
    refine G0 ?_;refine⟨i,_,rfl,A7 hi,?_⟩;refine G0 ?_;have e:(l'.map Sv.row).set i (Sv.row l[j])=(l'.set i l[j]).map Sv.row:=List.map_set.symm;exact⟨none,trivial,fun gr=>⟨⟨(l'.set i l[j],i+1,j+1),hm.stays hj h4'⟩,by show l.length-(j+1)<l.length-j;omega,tI,tI,⟨congrArg (fun r=>some (Ent.mk 0 77 9 r)) e,trivial⟩,tI⟩⟩
   ·have h4':p l[j]=true:=Fb h4;refine G0 ?_;(exact⟨none,trivial,fun _=>⟨⟨(l',i,j+1),hm.gone hj h4'⟩,by show l.length-(j+1)<l.length-j;omega,tI,tI,tI,tI⟩⟩)
  ·have hge:¬j<l'.length:=by have:=ZW h;simpa using this
   have hi:i≤l'.length:=by have:=hm.ij;have:=hm.jl;omega
   refine G0 ?_;refine⟨1,i,(l'.map Sv.row).length,rfl,⟨_,rfl⟩,rfl,by simpa using hi,ZT _,?_⟩;refine G0 ?_;refine⟨by simpa using hi,ZT _,?_⟩;refine G0 ?_;refine⟨0,0,i,rfl,rfl,⟨_,rfl⟩,ZU _,?_,rfl,rfl,fun g=>?_⟩
   ·show i≤((l'.map Sv.row).take i++List.replicate ((l'.map Sv.row).length-i) _++(l'.map Sv.row).drop (l'.map Sv.row).length).length;simp only[ZF,ZM,ZE,List.length_replicate];omega
   refine G0 ?_;refine⟨[0],Ad9 rfl rfl rfl rfl rfl Bx ?_⟩;show((l'.map Sv.row).take i++List.replicate ((l'.map Sv.row).length-i) _++(l'.map Sv.row).drop (l'.map Sv.row).length).take i=(keep p l).map Sv.row;rw[ZS,List.take_append_of_le_length (by simp;omega),List.take_take,Nat.min_self,←hm.fin (by omega),List.map_take]
theorem Ai3(k:Kn)(q:Qr)(t:Int)(nm:ByteArray)(s:Sv)(hl:k.ms.length≤1000)(hm:Ajj (Mb.cf s.nd) k.ms):Fun Tryz.prog 251 [.c (.agg s.row),.c (.rptr [.rptr (k.ask q t nm) 0] 0)] [.c (.v (.bool (Ox k.ms s.nd)))]:=by
 refine A4 Lu rfl ?_;refine G1 ?_;intro gg;(refine .inl ⟨_,_,false,[],.same (Tv k q t nm 0) (.same (A9 rfl) (.nil _)),Ag3 k q t nm s.nd hl hm,Ad,nI,?_⟩);refine G1 ?_;intro gg;(exact⟨[],aI⟩)
theorem Aqs{l:List Sv}{a b:ByteArray}(h:ckSv l=0):(Ck l a b).2.length≤40:=by
 have:=(Nw h).1;unfold Ck
 repeat' split
 all_goals first
  |exact ZU _
  |exact XI (T6 l a b) this
theorem Asl{l:List Int}(h:Do l=0):∀e∈l,e=0:=by
 induction l with
 |nil=>intro e he;cases he
 |cons a l ih=>
  have h:(if a≠0 then a else Do l)=0:=h;split at h
  ·rename_i ha;exact absurd h ha
  ·rename_i ha;intro e he;rcases XC.1 he with rfl|he
   ·simpa using ha
   ·exact ih h e he
set_option maxHeartbeats 2000000 in
theorem Aiy(k:Kn)(q:Qr)(t:Int)(nm:ByteArray)(hk:k.In)(hq:q.ok)(he:k.err=0):Fun Tryz.prog 209 [.c (.rptr (k.ask q t nm) 0)] [.o 77 9 ((Ef k q).map Sv.row)]:=by
 obtain⟨i1,i2,i3,i4,i5,i6⟩:=Apt he;have hms:=Auu he;have hF:=Aqs (a:=q.sv) (b:=q.tg) i2;have hD:=Aaq (Ck k.l q.sv q.tg).2 251 [.rptr [.rptr (k.ask q t nm) 0] 0] (fun u hu=>by rw[XN.1 hu];exact Al5 fun v hv=>by rw[XN.1 hv];exact Tv k q t nm 0) (fun s=>Ox k.ms s.nd) (by omega) (fun x hx=>Ai3 k q t nm x (by omega) (hms.2 x.nd));have hfK:fK k q=Pl.keep (fun s=>Ox k.ms s.nd) (Ck k.l q.sv q.tg).2:=rfl;have hKl:(fK k q).length≤40:=by rw[hfK];exact XI (List.length_filter_le _ _) hF
 refine A4 Nk rfl ?_;refine G1 ?_;intro gg;refine .inl (cX (Aim k.l q.sv q.tg hk.ll hk.lo hq.1 hq.2.1) ?_);refine G1 ?_;intro gg;refine .inl ⟨_,_,true,[432],?_,hD,(fun _=>fI),nI,?_⟩
 ·exact Apo rfl Bx (by decide) (by decide) (.borc (Aka rfl rfl rfl (fun v hv=>by rw[XN.1 hv];exact Tv k q t nm 0) (by decide) Aez) (.nil _))
 rw[←hfK];generalize hK:fK k q=K at *;(refine goI ?_;repeat (intro gg;refine goI ?_));revert gg;intro gm;have hMn:Mn (Ck k.l q.sv q.tg).2:=by
  unfold Ck
  repeat' split
  all_goals first
   |exact List.Pairwise.nil
   |exact(Ba1 (Nw i2).2.2).filter _
 (refine⟨[(6,96,9,1)],none,{p:Nat×Nat×List (ByteArray×V)×List SE//p.1≤K.length∧Grp 77 (K.take p.1) p.2.2.1 p.2.2.2},[1,5,34,35],fun⟨⟨i,g,E,ss⟩,hi,hG⟩=>[(6,.own 96 g),(36,.v (.int .i64 (i:Int)))],[16,512],fun⟨⟨i,g,E,ss⟩,hi,hG⟩=>[(96,⟨g,.t 9,1,(nms (K.take i)).map Nz⟩),(528,⟨gm,.q (Jd (ents E) ss),0,[]⟩)],fun⟨⟨i,g,E,ss⟩,hi,hG⟩=>K.length-i,(by exact⟨rfl,by decide,(fun _ _ _ _ h=>by cases h),trivial⟩),fun gs=>⟨trivial,fun _=>⟨⟨(0,gs 96,[],[]),ZU _,Grp.nil _⟩,tI,tI,tI,tI⟩⟩,fun⟨⟨i,g,E,ss⟩,hi,hG⟩=>?_⟩);simp only at hi hG;have hnl:=Au3 (K.take i);rw[ZM]at hnl;have hnl2:((nms (K.take i)).map Nz).length≤40:=by rw[ZE];omega
 refine G0 ?_;simp only[ZE];by_cases c:i<K.length
 ·rw[show decide ((i:Int)<(K.length:Int))=true from ZX (by omega)];refine G0 ?_;refine⟨i,_,rfl,A7 c,?_⟩;refine G1 ?_;intro gg;have hMi:Mn (K.take i++[K[i]]):=by
   have:Mn (K.take (i+1)):=by
    rw[hfK];exact(hMn.filter _).take _
   rw[XT,ZC c]at this;exact this
  have et:K.take (i+1)=K.take i++[K[i]]:=by rw[XT,ZC c];rfl
  by_cases hm:K[i].nd∈nms (K.take i)
  ·obtain⟨j,u,h1,h2,h3,h4,h5⟩:=hG.has _ hm;obtain⟨x,l',p1,p2⟩:=Adp hm;have hu0:u.rows.length≠0:=by rw[h5,p1];simp
   have hu4:u.rows.length≤40:=by
    rw[h5,ZE];have:(I5 K[i].nd (K.take i)).length≤(K.take i).length:=List.length_filter_le _ _;rw[ZM]at this;omega
   have hu9:u.rows≠[]:=fun e=>hu0 (by rw[e];rfl);have hur:∀row∈u.rows,∀v∈row,Cl v:=by rw[h5];exact Bx
   obtain⟨ss1,ss2,rfl⟩:=List.append_of_mem h2;have en:nms (K.take (i+1))=nms (K.take i):=by rw[et,Rv,Ad8 hm]
   refine⟨_,L8 _ _,some (j,.v u.val),(Di _ _ _).trans (by rw[h1]),?_⟩;refine G0 ?_;rw[show((u.rows.length:Int)==0)=false from ZG.2 (by omega)];refine G0 ?_;refine⟨_,L8 _ _,some (j,.v u.val),(Di _ _ _).trans (by rw[h1]),?_⟩;refine G1 ?_;intro gg;refine⟨_,ss1,u,ss2,rfl,rfl,rfl,rfl,h4,h3,by decide,by decide,by decide,lI,lI,?_⟩;refine G1 ?_;intro gg;refine⟨⟨trivial,rfl,rfl,trivial,trivial,trivial,trivial,trivial,trivial,trivial⟩,?_⟩;refine G0 ?_;refine⟨Pl.ents E,ss1++ss2,some (j,.v u.val),77,rfl,(Di _ _ _).trans (by rw[h1]),?_⟩;refine G0 ?_;refine⟨?_,?_,by decide,fun b cap=>?_⟩
   ·show u.rows++[Sv.row K[i]]≠[];simp
   ·show∀row∈u.rows++[Sv.row K[i]],∀v∈row,Cl v;rw[h5];exact Gl Bx (Ec rfl)
   refine G0 ?_;have e:=Yv E K[i].nd (.v (SE.val ⟨77,9,b,cap,u.rows++[K[i].row]⟩));rw[h1]at e;have hG':Grp 77 (K.take (i+1)) (put E K[i].nd (.v (SE.val ⟨77,9,b,cap,u.rows++[K[i].row]⟩))) (⟨77,9,b,cap,u.rows++[K[i].row]⟩::(ss1++ss2)):=by rw[et];exact hG.old K[i] hm h5 b cap
   (exact⟨none,trivial,fun gr=>⟨⟨(i+1,g,_,_),Nat.succ_le_of_lt c,hG'⟩,by show K.length-(i+1)<K.length-i;omega,tI,tI,⟨congrArg (fun r=>some (Ent.mk g (.t 9) 1 (List.map Nz r))) en.symm,congrArg (fun x=>some (Ent.mk gm (.q (Jd x (⟨77,9,b,cap,u.rows++[K[i].row]⟩::(ss1++ss2)))) 0 [])) e,trivial⟩,tI⟩⟩)
  ·have hl:=hG.no _ hm;have en:nms (K.take (i+1))=nms (K.take i)++[K[i].nd]:=by rw[et,Rv,Zd hm]
   have enr:(nms (K.take i)).map Nz++[Nz K[i].nd]=(nms (K.take (i+1))).map Nz:=by rw[en,ZI];rfl
   refine⟨_,L8 _ _,none,(Di _ _ _).trans (by rw[hl]),?_⟩;refine G1 ?_;intro gg;refine⟨lI,lI,?_⟩;refine G1 ?_;intro gg;revert gg;intro g2;refine⟨_,L8 _ _,none,(Di _ _ _).trans (by rw[hl]),?_⟩;refine G1 ?_;intro gg;refine⟨lI,lI,?_⟩;refine G1 ?_;intro gg;refine⟨⟨trivial,rfl,rfl,trivial,trivial,trivial,trivial,trivial,trivial,trivial⟩,?_⟩;refine G0 ?_;refine⟨Pl.ents E,ss,none,77,rfl,(Di _ _ _).trans (by rw[hl]),?_⟩;refine G0 ?_;refine⟨?_,?_,by decide,fun b cap=>?_⟩
   ·show [Sv.row K[i]]≠[];simp
   ·show∀row∈[Sv.row K[i]],∀v∈row,Cl v;exact Ec rfl
   refine G0 ?_;have e:=Yv E K[i].nd (.v (SE.val ⟨77,9,b,cap,[K[i].row]⟩));rw[hl]at e;have hG':Grp 77 (K.take (i+1)) (put E K[i].nd (.v (SE.val ⟨77,9,b,cap,[K[i].row]⟩))) (⟨77,9,b,cap,[K[i].row]⟩::ss):=by rw[et];exact hG.new K[i] hm b cap
   (exact⟨none,trivial,fun gr=>⟨⟨(i+1,g2,_,_),Nat.succ_le_of_lt c,hG'⟩,by show K.length-(i+1)<K.length-i;omega,tI,tI,⟨congrArg (fun r=>some (Ent.mk g2 (.t 9) 1 r)) enr,congrArg (fun x=>some (Ent.mk gm (.q (Jd x (⟨77,9,b,cap,[K[i].row]⟩::ss))) 0 [])) e,trivial⟩,tI⟩⟩)
 ·rw[show decide ((i:Int)<(K.length:Int))=false from ZY (by omega)];obtain rfl:i=K.length:=by omega
  rw[XF]at hG hnl hnl2;have hS:=Aog k.f k.wh (nms K) hk.wl (by omega);have hz:Gr k.f k.wh (nms K)=0:=by
   rw[Sj (by omega) i5];exact D3 fun j hj=>Asl i6 _ (List.mem_map_of_mem (f:=fun w:Wh=>w.pl.err) (ZK hj))
  rw[hz,Ags hz]at hS;rw[XF];refine G0 ?_;refine .inl (cY hS ?_);refine G1 ?_;intro gg;have hf:=fun n (hn:n∈Kp (cfN (Fw k.f k.wh)) (nms K))=>hG.has n (Aor hn);have hfd:Ef k q=((Kp (cfN (Fw k.f k.wh)) (nms K)).flatMap fun n=>I5 n K).take 20:=by unfold Ef;rw[hK]
  have hNl:(Kp (cfN (Fw k.f k.wh)) (nms K)).length≤40:=by rw[Api];omega
  generalize Kp (cfN (Fw k.f k.wh)) (nms K)=N at *;have hfl:=fun i=>Am1 hKl (N.take i);(refine⟨[(9,144,77,9)],none,{p:Nat×Nat//p.1≤N.length},[5,75,76],fun⟨⟨i,g⟩,hi⟩=>[(9,.own 144 g),(77,.v (.int .i64 (i:Int)))],[528,1152],fun⟨⟨i,g⟩,hi⟩=>[(144,⟨g,.t 77,9,((N.take i).flatMap fun n=>I5 n K).map Sv.row⟩)],fun⟨⟨i,g⟩,hi⟩=>N.length-i,(by exact⟨rfl,by decide,(fun _ _ _ _ h=>by cases h),trivial⟩),fun gs=>⟨trivial,fun _=>⟨⟨(0,gs 144),ZU _⟩,tI,tI,tI,tI⟩⟩,fun⟨⟨i,g⟩,hi⟩=>?_⟩);simp only at hi;have h16:((N.take i).flatMap fun n=>I5 n K).length≤1600:=by
   have:=hfl i;rw[ZM]at this;refine XI this (XI (XG 40 (Nat.min_le_right i N.length)) ?_);omega
  refine G0 ?_;simp only[ZE];by_cases c:i<N.length
  ·rw[show decide ((i:Int)<(N.length:Int))=true from ZX (by omega)];obtain⟨j,u,h1,h2,h3,h4,h5⟩:=hf N[i] (ZK c);have hu4:u.rows.length≤40:=by
    rw[h5,ZE];have:(I5 N[i] K).length≤K.length:=List.length_filter_le _ _;omega
   have er:((N.take i).flatMap fun n=>I5 n K).map Sv.row++u.rows=((N.take (i+1)).flatMap fun n=>I5 n K).map Sv.row:=by
    rw[XT,ZC c,Option.toList_some,List.flatMap_append,ZI,h5];simp
   refine G0 ?_;refine⟨i,_,rfl,A7 c,?_⟩;refine G0 ?_;refine⟨_,L8 _ _,some (j,.v u.val),(Di _ _ _).trans (by rw[h1]),?_⟩;refine G0 ?_;refine⟨Pl.ents E,ss,u,rfl,h2,rfl,rfl,rfl,h4,?_⟩;refine G0 ?_;refine⟨lI,lI,?_⟩;refine G1 ?_;intro gg;(exact⟨none,trivial,fun gr=>⟨⟨(i+1,gg),Nat.succ_le_of_lt c⟩,by show N.length-(i+1)<N.length-i;omega,tI,tI,⟨congrArg (fun r=>some (Ent.mk gg (.t 77) 9 r)) er,trivial⟩,tI⟩⟩)
  ·rw[show decide ((i:Int)<(N.length:Int))=false from ZY (by omega)];obtain rfl:i=N.length:=by omega
   rw[XF];rw[XF]at h16;rw[hfd];generalize N.flatMap (fun n=>I5 n K)=A at *;refine G0 ?_;rw[ZE];have hm:min (A.length:Int) 20=((min A.length 20:Nat):Int):=by omega
   rw[hm];refine G0 ?_;refine⟨0,0,min A.length 20,rfl,rfl,⟨.i64,rfl⟩,ZU _,Nat.min_le_left _ _,rfl,rfl,fun g2=>?_⟩;refine G0 ?_;refine⟨[144],Ad9 rfl rfl rfl rfl rfl Bx ?_⟩;show(A.map Sv.row).take (min A.length 20)=(A.take 20).map Sv.row;rw[←List.map_take];congr 1;by_cases h:A.length≤20
   ·rw[Nat.min_eq_left h,XF,List.take_of_length_le h]
   ·rw[Nat.min_eq_right (by omega)]
theorem Amh(k:Kn)(q:Qr)(t:Int)(nm:ByteArray)(hk:k.In)(hq:q.ok)(he:k.err=0):Fun Tryz.prog 209 [.c (.rptr (k.ask q t nm) 0)] [.c (.sl false ((Ef k q).map Sv.row))]:=Fun.frz (Aiy k q t nm hk hq he)

namespace Pl
theorem Abp{l:List Sv}{a b:ByteArray}(h1:ckSv l=0)(h2:lab a.data.toList=true)(h3:Wg b=true):Ck l a b=(0,Er l a b):=by simp[Ck,h1,h2,h3]
theorem Za:Wg ⟨#[]⟩=true:=by simp[Wg,emp]
end Pl

theorem Ac7{m:Ms}(h:Bc m=0):Awe m:=by
 obtain⟨hg,_⟩:=Hl h;refine⟨⟨by have:=hg.qnz;omega,fun r hr=>?_⟩,by have:=hg.len;omega⟩;have:=hg.rs r hr;exact⟨by have:=this.nmz;omega,by have:=this.tx;omega,by have:=this.tgz;omega⟩
theorem Anp{k:Kn}{s:ByteArray}{M:Ms}(h1:k.err=0)(h2:¬(s.size<12∨128≤atB s 2))(h:I9 k s (Ef k)=M):M2 k s (Ef k)=((N7 M 512).1,true,0)∧(N7 M 512).2=0∧Awe M:=by
 have hM:=Zw k s;rw[h]at hM;obtain⟨j,_,_,e⟩:=Ai0 hM;refine⟨?_,by rw[e],Ac7 hM⟩;unfold M2;rw[if_neg (by simp[h1]),if_neg h2,h,e];rfl
theorem Arm{s:ByteArray}(h:(A8 s).2=0):(A8 s).1.ok:=by
 have hp:Ao (A8 s).1=(s,0):=Aju (Prod.ext rfl h);have he:=(Ep hp).1;have hs:=(Rs he).1;exact⟨by have:=hs.sv;omega,by have:=hs.tg;omega,by have:=hs.nd;omega,by have:=hs.ce;omega⟩
namespace Pl
def Ahy:ByteArray:=⟨#[116,46,115,46,115,101,114,118,105,99,101,46,99,46,109,101,115,104]⟩
def Aau:Qr:=⟨⟨#[115]⟩,⟨#[116]⟩,⟨#[]⟩,⟨#[99]⟩⟩
theorem As2:Aau.err=0:=by
 simp only[Qr.err,Qr.c1,Qr.c2,Qr.c3,Qr.all,Aau,List.any_cons,List.any_nil,em,Aa2,Yz,ByteArray.toList_eq,B3,Cx,Bh];decide
theorem Ak6:Aau.pr=Ahy:=by
 apply L4;simp only[Qr.pr,Qr.base,Aau,em,ByteArray.toList_eq];simp[Sn,Ab8,dot,Bh,Ahy]
theorem Ahn:Bg Ahy=[⟨#[116]⟩,⟨#[115]⟩,B3,⟨#[99]⟩,Bh]:=by
 simp only[Bg,ByteArray.toList_eq];rw[if_neg (by simp[Ahy])];decide
theorem Anv:As Ahy=0:=by
 simp only[As,Ahn];decide
theorem Ajf:Ao Aau=(Ahy,0):=by
 rw[Tz As2 (by rw[Ak6];exact Anv),Ak6]
end Pl
theorem Rd:Fun Tryz.prog 26 [] [.c (.v (.bool true))]:=by
 have h:=Qn Ahy (by decide);rw[Ct Ajf]at h;refine A4 Lb rfl ?_;refine G0 ?_;refine .inl (cX h ?_);(refine goI ?_;repeat (intro gg;refine goI ?_));have e:((Aau,(0:Int)).1.sv.toList==(⟨#[115]⟩:ByteArray).toList&&((Aau,(0:Int)).1.tg.toList==(⟨#[116]⟩:ByteArray).toList&&((Aau,(0:Int)).1.nd.toList==(⟨#[]⟩:ByteArray).toList&&((Aau,(0:Int)).1.ce.toList==(⟨#[99]⟩:ByteArray).toList&&true))))=true:=by simp[Aau]
 rw[e];(exact⟨[],aI⟩)
theorem Awo{k:Kn}(hk:k.In)(q:Qr):∀s∈Ef k q,s.nd.size≤9223372036854775807:=fun s hs=>(hk.lo s (Akc hs).1).1
theorem Asg{k:Kn}{q:Qr}{t:Int}(h:K3 k q t=0):k.err=0:=by
 unfold K3 at h;split at h
 ·rename_i h1;exact absurd h h1
 ·split at h
  ·exact absurd h (by decide)
  ·exact h
theorem Vu(k:Kn)(q:Qr)(t:Int)(hk:k.In)(hq:q.ok):
  Fun Tryz.prog 78 [.c (.agg q.row),.c (.v (.int .i64 t)),.c (.v (.string k.here)),.c (.sl false (k.l.map Sv.row)),.c (.sl false (k.ms.map Mb.row)),.c (.agg k.f.row),.c (.sl false (k.wh.map Wh.row))]
   [.o 51 7 ((Ew k q t (Ef k q)).1.map Rr.row),.c (.v (.int .i64 (Ew k q t (Ef k q)).2.1)),.c (.v (.int .i64 (Ew k q t (Ef k q)).2.2))]:=
 Agy k q t (Ef k q) hk hq (by have:=Alq k q;omega) (Awo hk q) fun h=>Amh k q t _ hk hq (Asg h)
theorem Amq(k:Kn)(s:ByteArray)(hk:k.In)(hs:s.size≤9223372036854775807):
  Fun Tryz.prog 62 [.c (.v (.string s)),.c (.v (.string k.here)),.c (.sl false (k.l.map Sv.row)),.c (.sl false (k.ms.map Mb.row)),.c (.agg k.f.row),.c (.sl false (k.wh.map Wh.row))]
   [.c (.v (.string (M2 k s (Ef k)).1)),.c (.v (.bool (M2 k s (Ef k)).2.1)),.c (.v (.int .i64 (M2 k s (Ef k)).2.2))]:=by
 refine Ao3 k s (Ef k) hk hs (S9 s) (An3 k (rdP s).1 (Ef k) ?_ fun h=>Vu k _ _ hk (Arm h)) (Ato _ 512 (Ac7 (Zw k s)));rcases Alz s with⟨x,e,hx⟩|e
 ·rw[e];have:=(Hl hx).1.qnz;show x.qn.size≤_;omega
 ·by_cases hl:512<s.size
  ·rw[Ya hl];decide
  ·rcases e1:Re s with _|m
   ·rw[Yw hl e1];decide
   ·rw[Sb hl e1]at e ⊢;by_cases he:Bc m=0
    ·rw[if_pos he]at e;exact absurd rfl e
    ·rw[if_neg he];decide
namespace Pl
def sv0:Sv:=⟨⟨#[110]⟩,⟨#[105]⟩,⟨#[115]⟩,⟨#[]⟩,9,0,true,1,false⟩
def kn0:Kn:=⟨⟨#[99]⟩,[sv0],[],⟨0,0,0,0,0⟩,[]⟩
def qr0:Qr:=⟨⟨#[115]⟩,⟨#[]⟩,⟨#[]⟩,⟨#[]⟩⟩
def nm0:ByteArray:=⟨#[115,46,115,101,114,118,105,99,101,46,109,101,115,104]⟩
theorem Alr:qr0.err=0:=by
 simp only[Qr.err,Qr.c1,Qr.c2,Qr.c3,Qr.all,qr0,List.any_cons,List.any_nil,em,Aa2,Yz,ByteArray.toList_eq,B3,Cx,Bh];decide
theorem Art:qr0.pr=nm0:=by
 apply L4;simp only[Qr.pr,Qr.base,qr0,em,ByteArray.toList_eq];simp[Sn,Ab8,dot,Bh,nm0]
theorem Aon:Bg nm0=[⟨#[115]⟩,B3,Bh]:=by
 simp only[Bg,ByteArray.toList_eq];rw[if_neg (by simp[nm0])];decide
theorem App:As nm0=0:=by
 simp only[As,Aon];decide
theorem An5:Ao qr0=(nm0,0):=by
 rw[Tz Alr (by rw[Art];exact App),Art]
theorem At1:emp ⟨#[]⟩=true:=beq_self_eq_true _
theorem At4:sv0.err=0:=by
 have hl1:lab (⟨#[110]⟩:ByteArray).data.toList=true:=by decide+kernel
 have hl2:lab (⟨#[105]⟩:ByteArray).data.toList=true:=by decide+kernel
 have hl3:lab (⟨#[115]⟩:ByteArray).data.toList=true:=by decide+kernel
 simp[Sv.err,sv0,hl1,hl2,hl3,Za,wi]
theorem Aqp:ckSv [sv0]=0:=by simp[ckSv,ckL,firstErr,sorted,At4]
theorem Ast:kn0.err=0:=by
 have hl:lab (⟨#[99]⟩:ByteArray).data.toList=true:=by decide+kernel
 have hp:(⟨0,0,0,0,0⟩:Pc).err=0:=by decide+kernel
 have hm:I3 []=0:=by decide+kernel
 simp[Kn.err,kn0,hl,Aqp,hm,hp,Do]
theorem Afp:(Ck kn0.l qr0.sv qr0.tg).2=[sv0]:=by
 have hs:Sv.sought ⟨#[115]⟩ ⟨#[]⟩ sv0=true:=by
  show(((⟨#[115]⟩:ByteArray).toList==(⟨#[115]⟩:ByteArray).toList)&&((emp ⟨#[]⟩||_)&&true))=true;rw[At1,beq_self_eq_true];rfl
 show(Ck [sv0] ⟨#[115]⟩ ⟨#[]⟩).2=[sv0];rw[Abp Aqp (by decide+kernel) Za];simp[Er,hs]
theorem Asz:Ef kn0 qr0=[sv0]:=by
 have h1:fK kn0 qr0=[sv0]:=by unfold fK;rw[Afp];rfl
 have h2:nms [sv0]=[sv0.nd]:=rfl;have h3:I5 sv0.nd [sv0]=[sv0]:=by unfold I5;simp
 unfold Ef;rw[h1,h2,show Kp (cfN (Fw kn0.f kn0.wh)) [sv0.nd]=[sv0.nd]from List.mergeSort_singleton _,List.flatMap_cons,h3];rfl
theorem Ape:Ew kn0 qr0 1 (Ef kn0 qr0)=([⟨nm0,1,0,9,⟨#[]⟩,0,⟨#[]⟩⟩],0,0):=by
 have hE:K3 kn0 qr0 1=0:=by unfold K3;rw[if_neg (by rw[Alr];decide),if_neg (by decide),Ast]
 have hc:em qr0.ce=true:=K7;have hn:em qr0.nd=true:=K7;have hf:(Ck kn0.l qr0.sv ⟨#[]⟩).2=[sv0]:=Afp;unfold Ew;rw[hE,if_neg (by decide),An5,if_neg (by decide),hc,if_neg (by decide),hn,if_neg (by decide),Asz];unfold Mi;rw[hf];rfl
theorem Awu:kn0.In:=⟨by decide,by decide,fun x hx=>by rw[XN.1 hx];exact⟨by decide,by decide,by decide,by decide⟩,by decide,fun x hx=>(by cases hx),by decide⟩
end Pl
theorem Qo:Fun Tryz.prog 31 [] [.c (.v (.bool true))]:=by
 have h:=Vu kn0 qr0 1 Awu ⟨by decide,by decide,by decide,by decide⟩;rw[Ape]at h;refine A4 Km rfl ?_;refine G1 ?_;intro gg;refine .inl (cY h ?_);refine G1 ?_;intro gg;refine⟨0,_,rfl,rfl,?_⟩;refine G0 ?_;refine⟨0,_,rfl,rfl,?_⟩;refine G0 ?_;rw[show(nm0.toList==(⟨#[115,46,115,101,114,118,105,99,101,46,109,101,115,104]⟩:ByteArray).toList)=true from beq_self_eq_true _];refine G0 ?_;(exact⟨[],aI⟩)
namespace Pl
theorem Akl{s:Sv}(h:s.err=0):lab s.nm.data.toList=true∧Wg s.tg=true:=by
 unfold Sv.err at h
 repeat' split at h
 all_goals first
  |exact⟨by assumption,by assumption⟩
  |exact absurd h (by decide)
def tfS(a i n t:ByteArray)(ad pt:Int):Sv:=⟨a,i,n,t,ad,pt,true,1,false⟩
def tfK(a b c i n t:ByteArray)(ad pt:Int):Kn:=⟨c,[tfS a i n t ad pt],[⟨a,1,1,1,false⟩,⟨b,1,1,2,false⟩],⟨0,0,0,0,1000⟩,[]⟩
def tfQ(n t:ByteArray):Qr:=⟨n,t,⟨#[]⟩,⟨#[]⟩⟩
def tfM(I:Int)(N:ByteArray):Ms:=⟨I,false,false,0,N,1,[]⟩
def tfR(I:Int)(N:ByteArray)(ad:Int):Ms:=⟨I,true,false,0,N,1,[⟨N,1,0,ad,⟨#[]⟩,0,⟨#[]⟩⟩]⟩
section
variable {a b c i n t:ByteArray} {ad pt:Int} (ha:(⟨#[97]⟩:ByteArray)=a) (hb:(⟨#[98]⟩:ByteArray)=b) (hc:(⟨#[99]⟩:ByteArray)=c) (hs:(tfS a i n t ad pt).err=0)
include hs
theorem Av7:ckSv [tfS a i n t ad pt]=0:=by simp[ckSv,ckL,firstErr,sorted,hs]
theorem Aku{g:ByteArray}(hg:Wg g=true)(h:emp g=true∨g=t):(Ck [tfS a i n t ad pt] n g).2=[tfS a i n t ad pt]:=by
 have hl:=Akl hs;have hq:Sv.sought n g (tfS a i n t ad pt)=true:=by
  show((n.toList==n.toList)&&((emp g||(t.toList==g.toList))&&(true&& !false)))=true;rw[beq_self_eq_true];rcases h with h|h
  ·rw[h];rfl
  ·rw[h,beq_self_eq_true,Bool.or_true];rfl
 rw[Abp (a:=n) (Av7 hs) hl.1 hg];simp[Er,hq]
include ha hb hc
theorem Apu:(tfK a b c i n t ad pt).err=0:=by
 have h1:lab c.data.toList=true:=by subst hc;decide+kernel
 have h2:I3 [⟨a,1,1,1,false⟩,⟨b,1,1,2,false⟩]=0:=by subst ha;subst hb;decide+kernel
 have h3:(⟨0,0,0,0,1000⟩:Pc).err=0:=by decide+kernel
 have h4:=Av7 hs;unfold Kn.err tfK;simp[h1,h2,h3,h4,Do]
omit hc in
theorem Avk:Ef (tfK a b c i n t ad pt) (tfQ n t)=[tfS a i n t ad pt]:=by
 have hf:(Ck [tfS a i n t ad pt] n t).2=[tfS a i n t ad pt]:=Aku hs (Akl hs).2 (.inr rfl);have haw:Ox [⟨a,1,1,1,false⟩,⟨b,1,1,2,false⟩] a=false:=by subst ha;subst hb;decide+kernel
 have h1:fK (tfK a b c i n t ad pt) (tfQ n t)=[tfS a i n t ad pt]:=by
  show keep (fun s=>Ox [⟨a,1,1,1,false⟩,⟨b,1,1,2,false⟩] s.nd) (Ck [tfS a i n t ad pt] n t).2=_;rw[hf];simp[keep,tfS,haw]
 have h2:nms [tfS a i n t ad pt]=[a]:=rfl;have h3:I5 a [tfS a i n t ad pt]=[tfS a i n t ad pt]:=by unfold I5;simp[tfS]
 unfold Ef;rw[h1,h2,show Kp (cfN (Fw (tfK a b c i n t ad pt).f (tfK a b c i n t ad pt).wh)) [a]=[a]from List.mergeSort_singleton _,List.flatMap_cons,h3];rfl
theorem Atr{N:ByteArray}(hq:Ao (tfQ n t)=(N,0)):Ew (tfK a b c i n t ad pt) (tfQ n t) 1 (Ef (tfK a b c i n t ad pt) (tfQ n t))=((tfR 0 N ad).rs,0,0):=by
 have hE:K3 (tfK a b c i n t ad pt) (tfQ n t) 1=0:=by unfold K3;rw[if_neg (by rw[(Ep hq).1];decide),if_neg (by decide),Apu ha hb hc hs]
 have hce:em (tfQ n t).ce=true:=K7;have hn:em (tfQ n t).nd=true:=K7;have hf:(Ck (tfK a b c i n t ad pt).l (tfQ n t).sv ⟨#[]⟩).2=[tfS a i n t ad pt]:=Aku hs Za (.inl (beq_self_eq_true _));unfold Ew;rw[hE,if_neg (by decide),hq,if_neg (fun h=>h rfl),hce,if_neg (fun h=>Bool.noConfusion h.1),hn,if_neg (by decide),Avk ha hb hs];unfold Mi;rw[hf];rfl
theorem Afo{N:ByteArray}(hq:Ao (tfQ n t)=(N,0))(I:Int):Ig (tfK a b c i n t ad pt) (tfM I N) (Ef (tfK a b c i n t ad pt))=tfR I N ad:=by
 have hp:A8 N=(tfQ n t,0):=Ct hq;have hr:=Atr ha hb hc hs hq;unfold Ig;show(if(A8 N).2≠0 then _ else if(Ew (tfK a b c i n t ad pt) (A8 N).1 1 (Ef (tfK a b c i n t ad pt) (A8 N).1)).2.2≠0 then _ else(⟨I,true,false,(Ew (tfK a b c i n t ad pt) (A8 N).1 1 (Ef (tfK a b c i n t ad pt) (A8 N).1)).2.1,N,1,(Ew (tfK a b c i n t ad pt) (A8 N).1 1 (Ef (tfK a b c i n t ad pt) (A8 N).1)).1⟩:Ms))=_;rw[hp];rw[if_neg (fun h=>h rfl)];dsimp only;rw[hr,if_neg (fun h=>h rfl)];rfl
end
theorem Aw7{n t N:ByteArray}(hq:Ao (tfQ n t)=(N,0)):(Bp N).length≤125:=by
 obtain⟨h1,h2,h3⟩:=Ep hq;rw[h3]at h2;obtain⟨g1,_,_⟩:=Rc h2;have hl:=Pq (l:=Bg N) (m:=30) fun x hx=>(Ae8 (g1 x hx)).2;have hp:=Sw hq;have hk:(Bg N).length≤4:=by
  unfold Bg;split
  ·exact ZU _
  ·rw[hp];have hw:(tfQ n t).words=[t,n,B3]++([⟨#[]⟩]++[Bh]):=by
    unfold Qr.words;rw[show em (tfQ n t).nd=true from K7];rfl
   have q1:=List.length_filter_le (fun x=> !em x) [t,n,B3];have q2:=List.length_filter_le (fun x=> !em x) [Bh];have q3:([⟨#[]⟩]:List ByteArray).filter (fun x=> !em x)=[]:=by simp[K7]
   rw[hw];unfold keep;rw[List.filter_append,List.filter_append,q3,ZF,ZF];simp only[ZJ,ZN]at q1 q2 ⊢;omega
 unfold Bp;rw[ZF,List.length_singleton];have:=Nat.mul_le_mul_left 31 hk;omega
theorem Agb{n t N:ByteArray}(hq:Ao (tfQ n t)=(N,0))(I ad:Int):(Bu (tfR I N ad)).length≤512:=by
 have h1:=Aw7 hq;unfold Bu tfR Bn I6 inB;simp only[ZF,Ar,ZJ,ZN,List.flatMap_cons,List.flatMap_nil,if_true];omega
end Pl
set_option maxRecDepth 100000
theorem Az5{I:Int}{N:ByteArray}:atB ⟨(Bu (tfM I N)).toArray⟩ 2=0:=by
 have e0:Bu (tfM I N)=Au [I]++(Au [0,1,0,0,0]++Bp N++Au [1,1]):=by
  unfold Bu tfM Bn Dz;simp[Au]
 have e:(Bu (tfM I N))[2]? =some 0:=by rw[e0];rfl
 obtain⟨c,h1,h2⟩:=Au7 (s:=⟨(Bu (tfM I N)).toArray⟩) (k:=2) (by show 2<(Bu (tfM I N)).toArray.size;rw[List.size_toArray,e0];simp only[ZF,Ar,ZJ,ZN];omega);have h3:(Bu (tfM I N))[2]? =some c:=h2;rw[e]at h3;injection h3 with h3
 rw[Se h1,←h3];rfl
theorem Axu{a b c i n t N S T:ByteArray}{ad pt I:Int}(ha:(⟨#[97]⟩:ByteArray)=a)(hb:(⟨#[98]⟩:ByteArray)=b)(hc:(⟨#[99]⟩:ByteArray)=c)(hs:(⟨a,i,n,t,ad,pt,true,1,false⟩:Sv).err=0)(ho:(⟨a,i,n,t,ad,pt,true,1,false⟩:Sv).ok)(hA':Fun Tryz.prog 62 [.c (.v (.string S)),.c (.v (.string c)),.c (.sl false [zS a i n t ad pt]),.c (.sl false [zA a,zB b]),.c (.agg [.v (.int .i64 0),.v (.int .i64 0),.v (.int .i64 0),.v (.int .i64 0),.v (.int .i64 1000)]),.c (.sl false [])] [.c (.v (.string T)),.c (.v (.bool true)),.c (.v (.int .i64 0))])(hRd':Fun Tryz.prog 13 [.c (.v (.string S))] [.c (.agg [.v (.int .i64 I),.v (.bool false),.v (.bool false),.v (.int .i64 0),.v (.string N),.v (.int .i64 1),.sl false []]),.c (.v (.int .i64 0))])(hP':Fun Tryz.prog 73 [.c (.v (.string N))] [.c (.agg [.v (.string n),.v (.string t),.v (.string ⟨#[]⟩),.v (.string ⟨#[]⟩)]),.c (.v (.int .i64 0))]):
  Fun Tryz.prog 22 [.c (.agg (wD a b c i n t ad pt)),.c (.v (.string S))] [.c (.v (.string T)),.c (.v (.int .i64 0)),.c (.v (.bool false)),.c (.v (.int .i64 0))]:=by
 obtain⟨z,hz⟩:∃s,(⟨#[]⟩:ByteArray)=s:=⟨_,rfl⟩;rw[hz]at hP';refine A4 Ah3 rfl ?_;refine G1 ?_;intro gg;refine o4 (Ab 1000 9 De rfl ?_);refine G1 ?_;intro gg;refine .inl ⟨_,_,false,[],aJ,Bb8 ha hb hc hs ho,Ad,nI,?_⟩;refine G1 ?_;intro gg;refine⟨_,_,false,aJ,Bby,Ad,nI,?_⟩;refine G1 ?_;intro gg;refine⟨_,_,false,aJ,crA,Ad,nI,?_⟩;refine G1 ?_;intro gg;refine⟨_,_,false,aJ,kS,Ad,nI,?_⟩;refine G1 ?_;intro gg;refine⟨_,_,false,aJ,cg0,Ad,nI,?_⟩;refine G1 ?_;intro gg;refine⟨_,_,false,aJ,cw0,Ad,nI,?_⟩;(refine goI ?_;repeat (intro gg;refine goI ?_));refine o4 (Awg 4000 Nr rfl ?_);refine G0 ?_;refine .inl ⟨_,_,false,[],aJ,hRd',Ad,nI,?_⟩;(refine goI ?_;repeat (intro gg;refine goI ?_));refine .inl ⟨_,_,false,[],aJ,hP',Ad,nI,?_⟩;(refine goI ?_;repeat (intro gg;refine goI ?_));refine bT ?_;refine G0 ?_;refine .inl ⟨_,_,true,[],aJ,hA',(fun _=>fJ),nI,?_⟩;refine G1 ?_;intro gg;exact⟨[],aJ⟩
theorem Ayp{a b c i n t N:ByteArray}{ad pt:Int}(ha:(⟨#[97]⟩:ByteArray)=a)(hb:(⟨#[98]⟩:ByteArray)=b)(hc:(⟨#[99]⟩:ByteArray)=c)(hs:(⟨a,i,n,t,ad,pt,true,1,false⟩:Sv).err=0)(ho:(⟨a,i,n,t,ad,pt,true,1,false⟩:Sv).ok)(hq:Ao (tfQ n t)=(N,0)){I:Int}(hI:Bc (tfM I N)=0)(hL:¬512<(Bu (tfM I N)).length):
  Fun Tryz.prog 22 [.c (.agg (wD a b c i n t ad pt)),.c (.v (.string ⟨(Bu (tfM I N)).toArray⟩))] [.c (.v (.string ⟨(Bu (tfR I N ad)).toArray⟩)),.c (.v (.int .i64 0)),.c (.v (.bool false)),.c (.v (.int .i64 0))]:=by
 have hp:A8 N=(tfQ n t,0):=Ct hq;have hR:=Yh hI hL;have hz:(Bu (tfM I N)).length=ByteArray.size ⟨(Bu (tfM I N)).toArray⟩:=List.size_toArray.symm;have h12:12≤(Bu (tfM I N)).length:=by
  unfold Bu;simp only[ZF,Ar,ZJ,ZN];omega
 have h2:=Az5 (I:=I) (N:=N);have hE:=Apu (pt:=pt) ha hb hc hs;have hM:I9 (tfK a b c i n t ad pt) ⟨(Bu (tfM I N)).toArray⟩ (Ef (tfK a b c i n t ad pt))=tfR I N ad:=by
  unfold I9;rw[hR,if_pos ⟨rfl,rfl⟩];exact Afo ha hb hc hs hq I
 have hQ:Bc (tfR I N ad)=0:=by rw[←hM];exact Zw _ _
 generalize hS:(⟨(Bu (tfM I N)).toArray⟩:ByteArray)=S at *;have hA:=Amq (tfK a b c i n t ad pt) S ⟨by show c.size≤_;subst hc;decide,by show 1≤_;decide,fun x hx=>by rw[XN.1 hx];exact ho,by show 2≤_;decide,fun x hx=>by rcases XC.1 hx with rfl|hx;(exact(show a.size≤_ by subst ha;decide));(rw[XN.1 hx];exact(show b.size≤_ by subst hb;decide)),by show 0≤_;decide⟩ (by omega);obtain⟨e1,_,_⟩:=Anp hE (by omega) hM;have hF:(N7 (tfR I N ad) 512).1=⟨(Bu (tfR I N ad)).toArray⟩:=by
  have e0:N7 (tfR I N ad) 512=if Bc (tfR I N ad)≠0 then(⟨#[]⟩,Bc (tfR I N ad))else Tg (tfR I N ad) 512 1:=rfl
  have h1:=Agb hq I ad;have hk:Tg (tfR I N ad) 512 1=(bA (Bu (Fa (tfR I N ad) 1)),0):=Sd (by have e:Fa (tfR I N ad) 1=tfR I N ad:=W4 _;rw[e];omega);have e:Fa (tfR I N ad) 1=tfR I N ad:=W4 _;rw[e0,if_neg (by simp[hQ]),hk,e];rfl
 rw[e1,hF]at hA;have hRd:=S9 S;rw[hR]at hRd;have hP:=Qn N (by have:=(Hl hI).1.qnz;exact XI this (by decide));rw[hp]at hP;generalize (⟨(Bu (tfR I N ad)).toArray⟩:ByteArray)=T at *;exact Axu ha hb hc hs ho hA hRd hP
set_option maxRecDepth 100000
section
variable {a c i n t:ByteArray} {ad pt e v0:Int} {g0:Bool} (he:e≠0) (hO:Fun Tryz.prog 160 [.c (.agg (zS a i n t ad pt))] [.c (.v (.int .i64 e))])
include he hO
theorem Bb9:Fun Tryz.prog 80 [.c (.sl false []),.c (.agg (zT a i n t ad pt v0 g0))] [.c (.sl false []),.c (.v (.int .i64 e))]:=by
 refine B4 9 Ja rfl ?_;(refine goI ?_;repeat (intro gg;refine goI ?_));refine o4 (Ab 1000 9 Dj rfl ?_);refine G0 ?_;refine⟨0,_,by kernel_rfl,rfl,?_⟩;refine G0 ?_;refine .inl ⟨_,_,false,[],aJ,hO,Ad,nI,?_⟩;refine G1 ?_;intro gg;rw[show(e !=0)=true from ZZ.2 he];refine G0 ?_;exact⟨[],aJ⟩
theorem Azs(ha:(⟨#[97]⟩:ByteArray)=a)(hc:(⟨#[99]⟩:ByteArray)=c):Fun Tryz.prog 33 [.c (.agg (wA a c)),.c (.agg (zT a i n t ad pt v0 g0))] [.c (.agg [.v (.string ⟨#[]⟩),.v (.string ⟨#[]⟩),.sl false [],.sl false [],.sl false [],.sl false [],.v (.int .i64 0),.v (.int .i64 0),.v (.int .i64 0),.v (.int .i64 0),.v (.int .i64 0),.sl false []]),.c (.v (.int .i64 e))]:=by
 refine Ht 9 Qe rfl ?_;(refine goI ?_;repeat (intro gg;refine goI ?_));refine o4 (Ab 1000 9 De rfl ?_);refine G1 ?_;intro gg;refine .inl ⟨_,_,false,[],aJ,ckA ha hc,Ad,nI,?_⟩;refine G1 ?_;intro gg;refine⟨_,_,false,aJ,kA,Ad,nI,?_⟩;refine G1 ?_;intro gg;refine⟨_,_,false,aJ,cr0,Ad,nI,?_⟩;refine G1 ?_;intro gg;refine⟨_,_,false,aJ,cs0,Ad,nI,?_⟩;refine G1 ?_;intro gg;refine⟨_,_,false,aJ,cg0,Ad,nI,?_⟩;refine G1 ?_;intro gg;refine⟨_,_,false,aJ,cw0,Ad,nI,?_⟩;(refine goI ?_;repeat (intro gg;refine goI ?_));refine bF ?_;refine G0 ?_;refine⟨_,_,true,aJ,Bb9 he hO,(fun _=>fJ),nI,?_⟩;refine G1 ?_;intro gg;refine o4 (W3 10000 9 F8 rfl ?_);refine G1 ?_;intro gg;rw[show(e !=0)=true from ZZ.2 he];refine G0 ?_;(exact⟨_,[],.cell1 rfl rfl rfl rfl rfl rfl (.tmp1 rfl .nil),aJ⟩)
end
end Go.Proofs.YtkbjgdcdjccnaaaGreatDoor
