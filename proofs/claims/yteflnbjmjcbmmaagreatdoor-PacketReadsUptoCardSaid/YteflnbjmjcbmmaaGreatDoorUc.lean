/- Texts of this claim, joined. -/
import Derived.Test.YteflnbjmjcbmmaaGreatDoorRows
import Derived.Lib.Walk
import Derived.Lib.SliceRun
import Derived.Lib.JoinLaws
import Derived.Lib.AppendZeros
import Derived.WalkSpells
import Derived.Lib.ItoaLen
import Derived.Test.YteflnbjmjcbmmaaGreatDoorUa
import Derived.Test.YteflnbjmjcbmmaaGreatDoorUb
set_option linter.unusedSimpArgs false
set_option linter.unusedVariables false
namespace Go.Proofs.YteflnbjmjcbmmaaGreatDoor
open Go.RowKit Pl
theorem Mr[Glob](n a b:Int):Fun Tryz.prog 88 [.c (.v (.int .i64 n)),.c (.v (.int .i64 a)),.c (.v (.int .i64 b))] [.c (.v (.bool (wi n a b)))]:=by
 refine A9 Oh rfl ?_;(refine goI ?_;repeat (intro gg;refine goI ?_));(refine Ab (fun h=>?_) (fun h=>?_)<;>rw[h])
 ·(refine goI ?_;repeat (intro gg;refine goI ?_));rw[Ae9 h];(exact⟨[],aI⟩)
 ·(refine goI ?_;repeat (intro gg;refine goI ?_));rw[Afd h];(exact⟨[],aI⟩)
theorem Adb[Glob](s:ByteArray)(hs:s.size≤9223372036854775807):Fun Tryz.prog 87 [.c (.v (.string s))] [.c (.v (.bool (R5 s)))]:=by
 refine A9 Qk rfl ?_;(refine goI ?_;repeat (intro gg;refine goI ?_));(refine Ab (fun h=>?_) (fun h=>?_)<;>rw[h])
 ·(refine goI ?_;repeat (intro gg;refine goI ?_));rw[show R5 s=true by unfold R5;rw[show emp s=true from h];rfl];(exact⟨[],aI⟩)
 ·(refine goI ?_;repeat (intro gg;refine goI ?_));refine .inl (cX (Ez _ hs) ?_);(refine goI ?_;repeat (intro gg;refine goI ?_));rw[show R5 s=lab s.data.toList by unfold R5;rw[show emp s=false from h];rfl];(exact⟨[],aI⟩)
theorem Af1[Glob](m:Sv)(hm:m.ok):Fun Tryz.prog 77 [.c (.agg m.row)] [.c (.v (.int .i64 m.err))]:=by
 obtain⟨o1,o2,o3,o4⟩:=hm;refine A9 Sp rfl ?_;(refine goI ?_;repeat (intro gg;refine goI ?_));refine .inl (cX (Ez _ o1) ?_);(refine goI ?_;repeat (intro gg;refine goI ?_));(refine Ab (fun h1=>?_) (fun h1=>?_)<;>rw[h1])
 ·(refine goI ?_;repeat (intro gg;refine goI ?_))
  (rw[show m.err=1 from by(first|(simp_all;done)|(unfold Sv.err;simp_all))];(exact⟨[],aI⟩))
 ·(refine goI ?_;repeat (intro gg;refine goI ?_));refine .inl (cX (Ez _ o2) ?_);(refine goI ?_;repeat (intro gg;refine goI ?_));(refine Ab (fun h2=>?_) (fun h2=>?_)<;>rw[h2])
  ·(refine goI ?_;repeat (intro gg;refine goI ?_))
   (rw[show m.err=1 from by(first|(simp_all;done)|(unfold Sv.err;simp_all))];(exact⟨[],aI⟩))
  ·(refine goI ?_;repeat (intro gg;refine goI ?_));refine .inl (cX (Ez _ o3) ?_);(refine goI ?_;repeat (intro gg;refine goI ?_));(refine Ab (fun h3=>?_) (fun h3=>?_)<;>rw[h3])
   ·(refine goI ?_;repeat (intro gg;refine goI ?_))
    (rw[show m.err=1 from by(first|(simp_all;done)|(unfold Sv.err;simp_all))];(exact⟨[],aI⟩))
   ·(refine goI ?_;repeat (intro gg;refine goI ?_));refine .inl (cX (Adb _ o4) ?_);(refine goI ?_;repeat (intro gg;refine goI ?_));(refine Ab (fun h4=>?_) (fun h4=>?_)<;>rw[h4])
    ·(refine goI ?_;repeat (intro gg;refine goI ?_))
     (rw[show m.err=1 from by(first|(simp_all;done)|(unfold Sv.err;simp_all))];(exact⟨[],aI⟩))
    ·(refine goI ?_;repeat (intro gg;refine goI ?_));refine .inl (cX (Mr _ _ _) ?_);(refine goI ?_;repeat (intro gg;refine goI ?_));(refine Ab (fun h5=>?_) (fun h5=>?_)<;>rw[h5])
     ·(refine goI ?_;repeat (intro gg;refine goI ?_))
      (rw[show m.err=3 from by(first|(simp_all;done)|(unfold Sv.err;simp_all))];(exact⟨[],aI⟩))
     ·(refine goI ?_;repeat (intro gg;refine goI ?_));refine .inl (cX (Mr _ _ _) ?_);(refine goI ?_;repeat (intro gg;refine goI ?_));(refine Ab (fun h6=>?_) (fun h6=>?_)<;>rw[h6])
      ·(refine goI ?_;repeat (intro gg;refine goI ?_))
       (rw[show m.err=3 from by(first|(simp_all;done)|(unfold Sv.err;simp_all))];(exact⟨[],aI⟩))
      ·(refine goI ?_;repeat (intro gg;refine goI ?_));refine .inl (cX (Mr _ _ _) ?_);(refine goI ?_;repeat (intro gg;refine goI ?_));(refine Ab (fun h7=>?_) (fun h7=>?_)<;>rw[h7])
       ·(refine goI ?_;repeat (intro gg;refine goI ?_))
        (rw[show m.err=3 from by(first|(simp_all;done)|(unfold Sv.err;simp_all))];(exact⟨[],aI⟩))
       ·(refine goI ?_;repeat (intro gg;refine goI ?_))
        (rw[show m.err=0 from by(first|(simp_all;done)|(unfold Sv.err;simp_all))];(exact⟨[],aI⟩))
theorem Ack[Glob](m:Sv)(hm:m.ok):Fun Tryz.prog 53 [.c (.agg m.row)] [.c (.v (.int .i64 m.err))]:=by
 obtain⟨o1,o2,o3,o4⟩:=hm;refine A9 Jt rfl ?_;(refine goI ?_;repeat (intro gg;refine goI ?_));refine .inl (cX (D6 _ o1) ?_);(refine goI ?_;repeat (intro gg;refine goI ?_));(refine Ab (fun h1=>?_) (fun h1=>?_)<;>rw[h1])
 ·(refine goI ?_;repeat (intro gg;refine goI ?_))
  (rw[show m.err=1 from by(first|(simp_all;done)|(unfold Sv.err;simp_all))];(exact⟨[],aI⟩))
 ·(refine goI ?_;repeat (intro gg;refine goI ?_));refine .inl (cX (D6 _ o2) ?_);(refine goI ?_;repeat (intro gg;refine goI ?_));(refine Ab (fun h2=>?_) (fun h2=>?_)<;>rw[h2])
  ·(refine goI ?_;repeat (intro gg;refine goI ?_))
   (rw[show m.err=1 from by(first|(simp_all;done)|(unfold Sv.err;simp_all))];(exact⟨[],aI⟩))
  ·(refine goI ?_;repeat (intro gg;refine goI ?_));refine .inl (cX (D6 _ o3) ?_);(refine goI ?_;repeat (intro gg;refine goI ?_));(refine Ab (fun h3=>?_) (fun h3=>?_)<;>rw[h3])
   ·(refine goI ?_;repeat (intro gg;refine goI ?_))
    (rw[show m.err=1 from by(first|(simp_all;done)|(unfold Sv.err;simp_all))];(exact⟨[],aI⟩))
   ·(refine goI ?_;repeat (intro gg;refine goI ?_));(refine Ab (fun h4=>?_) (fun h4=>?_)<;>rw[h4])
    ·have hmb:R5 m.tg=lab m.tg.data.toList:=by unfold R5;rw[show emp m.tg=false from Ey h4];rfl
     (refine goI ?_;repeat (intro gg;refine goI ?_));refine .inl (cX (D6 _ o4) ?_);(refine goI ?_;repeat (intro gg;refine goI ?_));(refine Ab (fun h5=>?_) (fun h5=>?_)<;>rw[h5])
     ·(refine goI ?_;repeat (intro gg;refine goI ?_))
      (rw[show m.err=1 from by(first|(simp_all;done)|(unfold Sv.err;simp_all))];(exact⟨[],aI⟩))
     ·(refine goI ?_;repeat (intro gg;refine goI ?_));refine .inl (cX (Jg _) ?_);(refine goI ?_;repeat (intro gg;refine goI ?_));(refine Ab (fun h6=>?_) (fun h6=>?_)<;>rw[h6])
      ·(refine goI ?_;repeat (intro gg;refine goI ?_))
       (rw[show m.err=3 from by(first|(simp_all;done)|(unfold Sv.err;simp_all))];(exact⟨[],aI⟩))
      ·(refine goI ?_;repeat (intro gg;refine goI ?_));refine .inl (cX (B3 _ _ _) ?_);(refine goI ?_;repeat (intro gg;refine goI ?_));(refine Ab (fun h7=>?_) (fun h7=>?_)<;>rw[h7])
       ·(refine goI ?_;repeat (intro gg;refine goI ?_))
        (rw[show m.err=3 from by(first|(simp_all;done)|(unfold Sv.err;simp_all))];(exact⟨[],aI⟩))
       ·(refine goI ?_;repeat (intro gg;refine goI ?_));refine .inl (cX (B3 _ _ _) ?_);(refine goI ?_;repeat (intro gg;refine goI ?_));(refine Ab (fun h8=>?_) (fun h8=>?_)<;>rw[h8])
        ·(refine goI ?_;repeat (intro gg;refine goI ?_))
         (rw[show m.err=3 from by(first|(simp_all;done)|(unfold Sv.err;simp_all))];(exact⟨[],aI⟩))
        ·(refine goI ?_;repeat (intro gg;refine goI ?_))
         (rw[show m.err=0 from by(first|(simp_all;done)|(unfold Sv.err;simp_all))];(exact⟨[],aI⟩))
    ·have hmb:R5 m.tg=true:=by unfold R5;rw[show emp m.tg=true from Eo h4];rfl
     (refine goI ?_;repeat (intro gg;refine goI ?_));refine .inl (cX (Jg _) ?_);(refine goI ?_;repeat (intro gg;refine goI ?_));(refine Ab (fun h6=>?_) (fun h6=>?_)<;>rw[h6])
     ·(refine goI ?_;repeat (intro gg;refine goI ?_))
      (rw[show m.err=3 from by(first|(simp_all;done)|(unfold Sv.err;simp_all))];(exact⟨[],aI⟩))
     ·(refine goI ?_;repeat (intro gg;refine goI ?_));refine .inl (cX (B3 _ _ _) ?_);(refine goI ?_;repeat (intro gg;refine goI ?_));(refine Ab (fun h7=>?_) (fun h7=>?_)<;>rw[h7])
      ·(refine goI ?_;repeat (intro gg;refine goI ?_))
       (rw[show m.err=3 from by(first|(simp_all;done)|(unfold Sv.err;simp_all))];(exact⟨[],aI⟩))
      ·(refine goI ?_;repeat (intro gg;refine goI ?_));refine .inl (cX (B3 _ _ _) ?_);(refine goI ?_;repeat (intro gg;refine goI ?_));(refine Ab (fun h8=>?_) (fun h8=>?_)<;>rw[h8])
       ·(refine goI ?_;repeat (intro gg;refine goI ?_))
        (rw[show m.err=3 from by(first|(simp_all;done)|(unfold Sv.err;simp_all))];(exact⟨[],aI⟩))
       ·(refine goI ?_;repeat (intro gg;refine goI ?_))
        (rw[show m.err=0 from by(first|(simp_all;done)|(unfold Sv.err;simp_all))];(exact⟨[],aI⟩))
theorem Ad3[Glob](g x:Sv):Fun Tryz.prog 78 [.c (.agg g.row),.c (.agg x.row)] [.c (.v (.int .i64 (Sv.cf x.nd x.id g)))]:=by
 refine A9 P5 rfl ?_;(refine goI ?_;repeat (intro gg;refine goI ?_));(refine⟨_,_,false,aI,Xx _ _,Ak,nI,?_⟩);(refine goI ?_;repeat (intro gg;refine goI ?_));refine .inl (cX (Xx _ _) ?_);(refine goI ?_;repeat (intro gg;refine goI ?_));(refine .inl ⟨_,_,true,[],aI,Aj1 false [E4 g.nd x.nd,E4 g.id x.id] (by simp),(fun _=>fI),nI,?_⟩);(refine goI ?_;repeat (intro gg;refine goI ?_));(exact⟨[],aI⟩)
theorem Acm[Glob](g x:Sv):Fun Tryz.prog 54 [.c (.agg g.row),.c (.agg x.row)] [.c (.v (.bool (Sv.lt g x)))]:=by
 refine A9 Nn rfl ?_;(refine goI ?_;repeat (intro gg;refine goI ?_));(refine Ab (fun h1=>?_) (fun h1=>?_)<;>rw[h1])
 ·(refine goI ?_;repeat (intro gg;refine goI ?_));rw[Sv.ahead1 h1];(exact⟨[],aI⟩)
 ·(refine goI ?_;repeat (intro gg;refine goI ?_));(refine Ab (fun h2=>?_) (fun h2=>?_)<;>rw[h2])
  ·(refine goI ?_;repeat (intro gg;refine goI ?_));rw[Sv.ahead2 h1 h2];(exact⟨[],aI⟩)
  ·(refine goI ?_;repeat (intro gg;refine goI ?_));rw[Sv.ahead3 h1 h2];(exact⟨[],aI⟩)
def Aia(l:List Sv):List V:=[.sl false (l.map Sv.row)]
theorem Aaj[Glob](c:Bool)(ls:List (List Sv))(hls:ls.length≤9223372036854775807)(hl:∀l∈ls,l.length≤9223372036854775807)(hw:∀l∈ls,∀m∈l,m.ok):Fun Tryz.prog 60 [.c (.sl c (ls.map Aia))] [.c (.v (.int .i64 (Am Im ls)))]:=by
 refine A9 Qv rfl ?_;(refine goI ?_;repeat (intro gg;refine goI ?_));rw[ZE];(refine⟨[],none,{k:Nat//k≤ls.length∧∀j,(h:j<ls.length)→j<k→Im (ls[j])=0},[9,10],fun⟨k,hk,h0⟩=>[(11,.v (.int .i64 k))],[],fun⟨k,hk,h0⟩=>[],fun⟨k,hk,h0⟩=>ls.length-k,trivial,fun _=>⟨trivial,fun _=>⟨⟨0,by omega,fun j _ h=>by omega⟩,tI,Aj _ _,tI,Ai _ _⟩⟩,fun⟨k,hk,h0⟩=>?_⟩);(refine goI ?_;repeat (intro gg;refine goI ?_));(refine Ab (fun h=>?_) (fun h=>?_)<;>rw[h])
 ·have hlt:k<ls.length:=by simpa using h
  (refine goI ?_;repeat (intro gg;refine goI ?_));refine⟨k,_,rfl,Ap hlt,?_⟩;(refine goI ?_;repeat (intro gg;refine goI ?_));have HL:=hl _ (ZK hlt);have HW:=hw _ (ZK hlt);have HE:=Br (e:=Im) hlt h0;have HN:Im ls[k]=0→∀j,(h:j<ls.length)→j<k+1→Im (ls[j])=0:=fun e=>up1 (p:=fun j h=>Im (ls[j])=0) h0 (fun _=>e);generalize ls[k]=l at *;rw[ZE];(refine Ab (fun h1=>?_) (fun h1=>?_)<;>rw[h1])
  ·(refine goI ?_;repeat (intro gg;refine goI ?_));have e:Im l=2:=Ge (by have:=ZV h1;omega);rw[HE (by rw[e];decide),e];(exact⟨[],aI⟩)
  ·have h1':¬40<l.length:=(by have:=ZW h1;omega);(refine goI ?_;repeat (intro gg;refine goI ?_));rw[ZE];(refine⟨[],none,{q:Nat//q≤l.length∧∀j,(h:j<l.length)→j<q→(l[j]).err=0},[4,9,10,11,18,19],fun⟨q,hq,g0⟩=>[(20,.v (.int .i64 q))],[],fun⟨q,hq,g0⟩=>[],fun⟨q,hq,g0⟩=>l.length-q,trivial,fun _=>⟨trivial,fun _=>⟨⟨0,by omega,fun j _ h=>by omega⟩,tI,Aj _ _,tI,Ai _ _⟩⟩,fun⟨q,hq,g0⟩=>?_⟩);(refine goI ?_;repeat (intro gg;refine goI ?_));(refine Ab (fun h2=>?_) (fun h2=>?_)<;>rw[h2])
   ·have hlt2:q<l.length:=(by have:=ZV h2;omega);(refine goI ?_;repeat (intro gg;refine goI ?_));refine⟨q,_,rfl,Ap hlt2,?_⟩;(refine goI ?_;repeat (intro gg;refine goI ?_));refine .inl (cX (Af1 _ (HW _ (ZK hlt2))) ?_);(refine goI ?_;repeat (intro gg;refine goI ?_));(refine Ab (fun h3=>?_) (fun h3=>?_)<;>rw[h3])
    ·have h3':(l[q]).err≠0:=by simpa using h3
     have e0:=Br hlt2 g0 h3';(refine goI ?_;repeat (intro gg;refine goI ?_));have e:Im l=(l[q]).err:=(Cx h1' (by rw[e0];exact h3')).trans e0;rw[HE (by rw[e];exact h3'),e];(exact⟨[],aI⟩)
    ·(refine goI ?_;repeat (intro gg;refine goI ?_));(exact⟨none,trivial,fun _=>⟨⟨q+1,by omega,up1 (p:=fun j h=>(l[j]).err=0) g0 (fun _=>by simpa using h3)⟩,by show l.length-(q+1)<l.length-q;omega,tI,tI,tI,tI⟩⟩)
   ·have hge2:¬q<l.length:=(by have:=ZW h2;omega);have h2':Am Sv.err l=0:=Bc fun i hi=>g0 i hi (by omega);(refine goI ?_;repeat (intro gg;refine goI ?_));(refine⟨[],none,{k:Nat//(k<l.length∨k=0)∧∀i,(h:i+1<l.length)→i<k→Sv.lt l[i] l[i+1]=true},[4,9,10,11],fun⟨q,hq,g0⟩=>[(8,.v (.int .i64 ((q:Int)+1)))],[],fun⟨q,hq,g0⟩=>[],fun⟨q,hq,g0⟩=>l.length-q,trivial,fun _=>⟨trivial,fun _=>⟨⟨0,by omega,fun j _ h=>by omega⟩,tI,Aj _ _,tI,Ai _ _⟩⟩,fun⟨q,hq,g0⟩=>?_⟩);(refine goI ?_;repeat (intro gg;refine goI ?_));rw[ZE];(refine Ab (fun h3=>?_) (fun h3=>?_)<;>rw[h3])
    ·have hlt3:q+1<l.length:=(by have:=ZV h3;omega);(refine goI ?_;repeat (intro gg;refine goI ?_));refine⟨q,_,by omega,Ap (by omega),?_⟩;(refine goI ?_;repeat (intro gg;refine goI ?_));refine⟨q+1,_,by omega,Ap hlt3,?_⟩;(refine goI ?_;repeat (intro gg;refine goI ?_));refine .inl (cX (Ad3 _ _) ?_);(refine goI ?_;repeat (intro gg;refine goI ?_));(refine Ab (fun h4=>?_) (fun h4=>?_)<;>rw[h4])
     ·(refine goI ?_;repeat (intro gg;refine goI ?_));have e:Im l=4:=Ma h1' h2' (Dn hlt3 (ZY (by have:=ZV h4;show¬Sv.cf l[q+1].nd l[q+1].id l[q]<0;omega)));rw[HE (by rw[e];decide),e];(exact⟨[],aI⟩)
     ·(refine goI ?_;repeat (intro gg;refine goI ?_));(exact⟨none,trivial,fun _=>⟨⟨q+1,by omega,up2 (p:=fun i h=>Sv.lt l[i] l[i+1]=true) g0 (fun _=>ZX (by have:=ZW h4;show Sv.cf l[q+1].nd l[q+1].id l[q]<0;omega))⟩,by show l.length-(q+1)<l.length-q;omega,tI,tI,tI,tI⟩⟩)
    ·have hge3:¬q+1<l.length:=(by have:=ZW h3;omega);(refine goI ?_;repeat (intro gg;refine goI ?_));have e:Im l=0:=Jh h1' h2' (Dv fun i hi=>g0 i hi (by omega));(exact⟨none,trivial,fun _=>⟨⟨k+1,by omega,HN e⟩,by show ls.length-(k+1)<ls.length-k;omega,tI,tI,tI,tI⟩⟩)
 ·have hge:¬k<ls.length:=by simpa using h
  (refine goI ?_;repeat (intro gg;refine goI ?_));rw[Bc (l:=ls) (fun i hi=>h0 i hi (by omega))];(exact⟨[],aI⟩)
theorem Aa0[Glob](l:List Sv)(hl:l.length≤9223372036854775807)(hw:∀m∈l,m.ok):Fun Tryz.prog 28 [.c (.sl false (l.map Sv.row))] [.c (.v (.int .i64 (Im l)))]:=by
 refine A9 P8 rfl ?_;(refine goI ?_;repeat (intro gg;refine goI ?_));(refine .inl ⟨_,_,true,[],aI,Aaj false [l] (by simp) (by simpa using hl) (by simpa using hw),(fun _=>fI),nI,?_⟩);rw[Ld];(refine goI ?_;repeat (intro gg;refine goI ?_));(exact⟨[],aI⟩)
theorem Xs[Glob](c:Bool)(l:List Sv)(hl:l.length≤9223372036854775807)(hw:∀m∈l,m.ok):Fun Tryz.prog 18 [.c (.sl c (l.map Sv.row))] [.c (.v (.int .i64 (Im l)))]:=by
 refine A9 Hm rfl ?_;(refine goI ?_;repeat (intro gg;refine goI ?_));rw[ZE];(refine Ab (fun h1=>?_) (fun h1=>?_)<;>rw[h1])
 ·(refine goI ?_;repeat (intro gg;refine goI ?_));have e:Im l=2:=Ge (by have:=ZV h1;omega);rw[e];(exact⟨[],aI⟩)
 ·have h1':¬40<l.length:=(by have:=ZW h1;omega);(refine goI ?_;repeat (intro gg;refine goI ?_));(refine⟨[],none,{k:Nat//k≤l.length∧∀j,(h:j<l.length)→j<k→(l[j]).err=0},[0],fun⟨k,hk,h0⟩=>[(3,.v (.int .i64 k))],[],fun⟨k,hk,h0⟩=>[],fun⟨k,hk,h0⟩=>l.length-k,trivial,fun _=>⟨trivial,fun _=>⟨⟨0,by omega,fun j _ h=>by omega⟩,tI,Aj _ _,tI,Ai _ _⟩⟩,fun⟨k,hk,h0⟩=>?_⟩);(refine goI ?_;repeat (intro gg;refine goI ?_));rw[ZE];(refine Ab (fun h=>?_) (fun h=>?_)<;>rw[h])
  ·have hlt:k<l.length:=(by have:=ZV h;omega);(refine goI ?_;repeat (intro gg;refine goI ?_));refine⟨k,_,rfl,Ap hlt,?_⟩;(refine goI ?_;repeat (intro gg;refine goI ?_));refine .inl (cX (Ack _ (hw _ (ZK hlt))) ?_);(refine goI ?_;repeat (intro gg;refine goI ?_));(refine Ab (fun h2=>?_) (fun h2=>?_)<;>rw[h2])
   ·(refine goI ?_;repeat (intro gg;refine goI ?_));have h2':(l[k]).err≠0:=by simpa using h2
    have e0:=Br hlt h0 h2';have e:Im l=(l[k]).err:=(Cx h1' (by rw[e0];exact h2')).trans e0;rw[e];(exact⟨[],aI⟩)
   ·(refine goI ?_;repeat (intro gg;refine goI ?_));(exact⟨none,trivial,fun _=>⟨⟨k+1,by omega,up1 (p:=fun j h=>(l[j]).err=0) h0 (fun _=>by simpa using h2)⟩,by show l.length-(k+1)<l.length-k;omega,tI,tI,tI,tI⟩⟩)
  ·have hge:¬k<l.length:=(by have:=ZW h;omega);have h2':Am Sv.err l=0:=Bc fun i hi=>h0 i hi (by omega);(refine goI ?_;repeat (intro gg;refine goI ?_));(refine⟨[],none,{k:Nat//(k<l.length∨k=0)∧∀i,(h:i+1<l.length)→i<k→Sv.lt l[i] l[i+1]=true},[0],fun⟨q,hq,g0⟩=>[(5,.v (.int .i64 ((q:Int)+1)))],[],fun⟨q,hq,g0⟩=>[],fun⟨q,hq,g0⟩=>l.length-q,trivial,fun _=>⟨trivial,fun _=>⟨⟨0,by omega,fun j _ h=>by omega⟩,tI,Aj _ _,tI,Ai _ _⟩⟩,fun⟨q,hq,g0⟩=>?_⟩);(refine goI ?_;repeat (intro gg;refine goI ?_));rw[ZE];(refine Ab (fun h3=>?_) (fun h3=>?_)<;>rw[h3])
   ·have hlt3:q+1<l.length:=(by have:=ZV h3;omega);(refine goI ?_;repeat (intro gg;refine goI ?_));refine⟨q,_,by omega,Ap (by omega),?_⟩;(refine goI ?_;repeat (intro gg;refine goI ?_));refine⟨q+1,_,by omega,Ap hlt3,?_⟩;(refine goI ?_;repeat (intro gg;refine goI ?_));refine .inl (cX (Acm _ _) ?_);(refine goI ?_;repeat (intro gg;refine goI ?_));(refine Ab (fun h4=>?_) (fun h4=>?_)<;>rw[h4])
    ·(refine goI ?_;repeat (intro gg;refine goI ?_));have e:Im l=4:=Ma h1' h2' (Dn hlt3 (Ey h4));rw[e];(exact⟨[],aI⟩)
    ·(refine goI ?_;repeat (intro gg;refine goI ?_));(exact⟨none,trivial,fun _=>⟨⟨q+1,by omega,up2 (p:=fun i h=>Sv.lt l[i] l[i+1]=true) g0 (fun _=>Eo h4)⟩,by show l.length-(q+1)<l.length-q;omega,tI,tI,tI,tI⟩⟩)
   ·have hge3:¬q+1<l.length:=(by have:=ZW h3;omega);(refine goI ?_;repeat (intro gg;refine goI ?_));have e:Im l=0:=Jh h1' h2' (Dv fun i hi=>g0 i hi (by omega));rw[e];(exact⟨[],aI⟩)



theorem Q7[Glob](n a b:Int):Fun Tryz.prog 91 [.c (.v (.int .i64 n)),.c (.v (.int .i64 a)),.c (.v (.int .i64 b))] [.c (.v (.bool (wi n a b)))]:=by
 refine A9 Qa rfl ?_;(refine goI ?_;repeat (intro gg;refine goI ?_));(refine Ab (fun h=>?_) (fun h=>?_)<;>rw[h])
 ·(refine goI ?_;repeat (intro gg;refine goI ?_));rw[Ae9 h];(exact⟨[],aI⟩)
 ·(refine goI ?_;repeat (intro gg;refine goI ?_));rw[Afd h];(exact⟨[],aI⟩)
theorem Aei[Glob](m:Gw)(hm:m.ok):Fun Tryz.prog 79 [.c (.agg m.row)] [.c (.v (.int .i64 m.err))]:=by
 refine A9 U4 rfl ?_;(refine goI ?_;repeat (intro gg;refine goI ?_));refine .inl (cX (Ez _ hm) ?_);(refine goI ?_;repeat (intro gg;refine goI ?_));(refine Ab (fun h1=>?_) (fun h1=>?_)<;>rw[h1])
 ·(refine goI ?_;repeat (intro gg;refine goI ?_))
  (rw[show m.err=1 from by(first|(simp_all;done)|(unfold Gw.err;simp_all))];(exact⟨[],aI⟩))
 ·(refine goI ?_;repeat (intro gg;refine goI ?_));refine .inl (cX (Q7 _ _ _) ?_);(refine goI ?_;repeat (intro gg;refine goI ?_));(refine Ab (fun h3=>?_) (fun h3=>?_)<;>rw[h3])
  ·(refine goI ?_;repeat (intro gg;refine goI ?_))
   (rw[show m.err=3 from by(first|(simp_all;done)|(unfold Gw.err;simp_all))];(exact⟨[],aI⟩))
  ·(refine goI ?_;repeat (intro gg;refine goI ?_));refine .inl (cX (Q7 _ _ _) ?_);(refine goI ?_;repeat (intro gg;refine goI ?_));(refine Ab (fun h4=>?_) (fun h4=>?_)<;>rw[h4])
   ·(refine goI ?_;repeat (intro gg;refine goI ?_))
    (rw[show m.err=3 from by(first|(simp_all;done)|(unfold Gw.err;simp_all))];(exact⟨[],aI⟩))
   ·(refine goI ?_;repeat (intro gg;refine goI ?_))
    (rw[show m.err=0 from by(first|(simp_all;done)|(unfold Gw.err;simp_all))];(exact⟨[],aI⟩))
def Aiv(l:List Gw):List V:=[.sl false (l.map Gw.row)]
theorem Z0[Glob](c:Bool)(ls:List (List Gw))(hls:ls.length≤9223372036854775807)(hl:∀l∈ls,l.length≤9223372036854775807)(hw:∀l∈ls,∀m∈l,m.ok):Fun Tryz.prog 61 [.c (.sl c (ls.map Aiv))] [.c (.v (.int .i64 (Am Ih ls)))]:=by
 refine A9 R4 rfl ?_;(refine goI ?_;repeat (intro gg;refine goI ?_));rw[ZE];(refine⟨[],none,{k:Nat//k≤ls.length∧∀j,(h:j<ls.length)→j<k→Ih (ls[j])=0},[9,10],fun⟨k,hk,h0⟩=>[(11,.v (.int .i64 k))],[],fun⟨k,hk,h0⟩=>[],fun⟨k,hk,h0⟩=>ls.length-k,trivial,fun _=>⟨trivial,fun _=>⟨⟨0,by omega,fun j _ h=>by omega⟩,tI,Aj _ _,tI,Ai _ _⟩⟩,fun⟨k,hk,h0⟩=>?_⟩);(refine goI ?_;repeat (intro gg;refine goI ?_));(refine Ab (fun h=>?_) (fun h=>?_)<;>rw[h])
 ·have hlt:k<ls.length:=by simpa using h
  (refine goI ?_;repeat (intro gg;refine goI ?_));refine⟨k,_,rfl,Ap hlt,?_⟩;(refine goI ?_;repeat (intro gg;refine goI ?_));have HL:=hl _ (ZK hlt);have HW:=hw _ (ZK hlt);have HE:=Br (e:=Ih) hlt h0;have HN:Ih ls[k]=0→∀j,(h:j<ls.length)→j<k+1→Ih (ls[j])=0:=fun e=>up1 (p:=fun j h=>Ih (ls[j])=0) h0 (fun _=>e);generalize ls[k]=l at *;rw[ZE];(refine Ab (fun h1=>?_) (fun h1=>?_)<;>rw[h1])
  ·(refine goI ?_;repeat (intro gg;refine goI ?_));have e:Ih l=2:=Ge (by have:=ZV h1;omega);rw[HE (by rw[e];decide),e];(exact⟨[],aI⟩)
  ·have h1':¬6<l.length:=(by have:=ZW h1;omega);(refine goI ?_;repeat (intro gg;refine goI ?_));rw[ZE];(refine⟨[],none,{k:Nat//k≤l.length∧∀j,(h:j<l.length)→j<k→(l[j]).err=0},[4,9,10,11,18,19],fun⟨p,hp,p0⟩=>[(20,.v (.int .i64 p))],[],fun⟨p,hp,p0⟩=>[],fun⟨p,hp,p0⟩=>l.length-p,trivial,fun _=>⟨trivial,fun _=>⟨⟨0,by omega,fun j _ h=>by omega⟩,tI,Aj _ _,tI,Ai _ _⟩⟩,fun⟨p,hp,p0⟩=>?_⟩);(refine goI ?_;repeat (intro gg;refine goI ?_));(refine Ab (fun h2=>?_) (fun h2=>?_)<;>rw[h2])
   ·have hlt2:p<l.length:=(by have:=ZV h2;omega);(refine goI ?_;repeat (intro gg;refine goI ?_));refine⟨p,_,rfl,Ap hlt2,?_⟩;(refine goI ?_;repeat (intro gg;refine goI ?_));refine .inl (cX (Aei _ (HW _ (ZK hlt2))) ?_);(refine goI ?_;repeat (intro gg;refine goI ?_));(refine Ab (fun h5=>?_) (fun h5=>?_)<;>rw[h5])
    ·(refine goI ?_;repeat (intro gg;refine goI ?_));have h5':(l[p]).err≠0:=by simpa using h5
     have e0:=Br hlt2 p0 h5';have e:Ih l=(l[p]).err:=(Cx h1' (by rw[e0];exact h5')).trans e0;rw[HE (by rw[e];exact h5'),e];(exact⟨[],aI⟩)
    ·(refine goI ?_;repeat (intro gg;refine goI ?_));(exact⟨none,trivial,fun _=>⟨⟨p+1,by omega,up1 (p:=fun j h=>(l[j]).err=0) p0 (fun _=>by simpa using h5)⟩,by show l.length-(p+1)<l.length-p;omega,tI,tI,tI,tI⟩⟩)
   ·have hge2:¬p<l.length:=(by have:=ZW h2;omega);have h2':Am Gw.err l=0:=Bc fun i hi=>p0 i hi (by omega);(refine goI ?_;repeat (intro gg;refine goI ?_));(refine⟨[],none,{k:Nat//(k<l.length∨k=0)∧∀i,(h:i+1<l.length)→i<k→Gw.lt l[i] l[i+1]=true},[4,9,10,11],fun⟨q,hq,g0⟩=>[(8,.v (.int .i64 ((q:Int)+1)))],[],fun⟨q,hq,g0⟩=>[],fun⟨q,hq,g0⟩=>l.length-q,trivial,fun _=>⟨trivial,fun _=>⟨⟨0,by omega,fun j _ h=>by omega⟩,tI,Aj _ _,tI,Ai _ _⟩⟩,fun⟨q,hq,g0⟩=>?_⟩);(refine goI ?_;repeat (intro gg;refine goI ?_));rw[ZE];(refine Ab (fun h3=>?_) (fun h3=>?_)<;>rw[h3])
    ·have hlt3:q+1<l.length:=(by have:=ZV h3;omega);(refine goI ?_;repeat (intro gg;refine goI ?_));refine⟨q+1,_,by omega,Ap hlt3,?_⟩;(refine goI ?_;repeat (intro gg;refine goI ?_));refine⟨q,_,by omega,Ap (by omega),?_⟩;(refine goI ?_;repeat (intro gg;refine goI ?_));rw[Qw];(refine Ab (fun h4=>?_) (fun h4=>?_)<;>rw[h4])
     ·(refine goI ?_;repeat (intro gg;refine goI ?_));have e:Ih l=4:=Ma h1' h2' (Dn hlt3 (by simpa[Gw.lt]using h4));rw[HE (by rw[e];decide),e];(exact⟨[],aI⟩)
     ·(refine goI ?_;repeat (intro gg;refine goI ?_));(exact⟨none,trivial,fun _=>⟨⟨q+1,by omega,up2 (p:=fun i h=>Gw.lt l[i] l[i+1]=true) g0 (fun _=>by simpa[Gw.lt]using h4)⟩,by show l.length-(q+1)<l.length-q;omega,tI,tI,tI,tI⟩⟩)
    ·have hge3:¬q+1<l.length:=(by have:=ZW h3;omega);(refine goI ?_;repeat (intro gg;refine goI ?_));have e:Ih l=0:=Jh h1' h2' (Dv fun i hi=>g0 i hi (by omega));(exact⟨none,trivial,fun _=>⟨⟨k+1,by omega,HN e⟩,by show ls.length-(k+1)<ls.length-k;omega,tI,tI,tI,tI⟩⟩)
 ·have hge:¬k<ls.length:=by simpa using h
  (refine goI ?_;repeat (intro gg;refine goI ?_));rw[Bc (l:=ls) (fun i hi=>h0 i hi (by omega))];(exact⟨[],aI⟩)
theorem Zo[Glob](l:List Gw)(hl:l.length≤9223372036854775807)(hw:∀m∈l,m.ok):Fun Tryz.prog 29 [.c (.sl false (l.map Gw.row))] [.c (.v (.int .i64 (Ih l)))]:=by
 refine A9 Ro rfl ?_;(refine goI ?_;repeat (intro gg;refine goI ?_));(refine .inl ⟨_,_,true,[],aI,Z0 false [l] (by simp) (by simpa using hl) (by simpa using hw),(fun _=>fI),nI,?_⟩);rw[Ld];(refine goI ?_;repeat (intro gg;refine goI ?_));(exact⟨[],aI⟩)
theorem Yn[Glob](c:Bool)(l:List Gw)(hl:l.length≤9223372036854775807)(hw:∀m∈l,m.ok):Fun Tryz.prog 19 [.c (.sl c (l.map Gw.row))] [.c (.v (.int .i64 (Ih l)))]:=by
 refine A9 G7 rfl ?_;(refine goI ?_;repeat (intro gg;refine goI ?_));rw[ZE];(refine Ab (fun h1=>?_) (fun h1=>?_)<;>rw[h1])
 ·(refine goI ?_;repeat (intro gg;refine goI ?_));have e:Ih l=2:=Ge (by have:=ZV h1;omega);rw[e];(exact⟨[],aI⟩)
 ·have h1':¬6<l.length:=(by have:=ZW h1;omega);(refine goI ?_;repeat (intro gg;refine goI ?_));(refine⟨[],none,{k:Nat//k≤l.length∧∀j,(h:j<l.length)→j<k→(l[j]).err=0},[0],fun⟨k,hk,h0⟩=>[(3,.v (.int .i64 k))],[],fun⟨k,hk,h0⟩=>[],fun⟨k,hk,h0⟩=>l.length-k,trivial,fun _=>⟨trivial,fun _=>⟨⟨0,by omega,fun j _ h=>by omega⟩,tI,Aj _ _,tI,Ai _ _⟩⟩,fun⟨k,hk,h0⟩=>?_⟩);(refine goI ?_;repeat (intro gg;refine goI ?_));rw[ZE];(refine Ab (fun h=>?_) (fun h=>?_)<;>rw[h])
  ·have hlt:k<l.length:=(by have:=ZV h;omega);have hE:(l[k]).err≠0→Ih l=(l[k]).err:=fun h2'=>by
    have e0:=Br hlt h0 h2';exact(Cx h1' (by rw[e0];exact h2')).trans e0
   have hN:(l[k]).err=0→_:=fun e=>up1 (p:=fun j h=>(l[j]).err=0) h0 (fun _=>e);(refine goI ?_;repeat (intro gg;refine goI ?_));refine⟨k,_,rfl,Ap hlt,?_⟩;(refine goI ?_;repeat (intro gg;refine goI ?_));refine .inl (cX (D6 _ (hw _ (ZK hlt))) ?_);(refine goI ?_;repeat (intro gg;refine goI ?_));(refine Ab (fun h2=>?_) (fun h2=>?_)<;>rw[h2])
   ·(refine goI ?_;repeat (intro gg;refine goI ?_));have e1:(l[k]).err=1:=by unfold Gw.err;simp_all
    rw[hE (by rw[e1];decide),e1];(exact⟨[],aI⟩)
   ·(refine goI ?_;repeat (intro gg;refine goI ?_));refine⟨k,_,rfl,Ap hlt,?_⟩;(refine goI ?_;repeat (intro gg;refine goI ?_));refine .inl (cX (Jg _) ?_);(refine goI ?_;repeat (intro gg;refine goI ?_));(refine Ab (fun h3=>?_) (fun h3=>?_)<;>rw[h3])
    ·(refine goI ?_;repeat (intro gg;refine goI ?_));have e1:(l[k]).err=3:=by unfold Gw.err;simp_all
     rw[hE (by rw[e1];decide),e1];(exact⟨[],aI⟩)
    ·(refine goI ?_;repeat (intro gg;refine goI ?_));refine⟨k,_,rfl,Ap hlt,?_⟩;(refine goI ?_;repeat (intro gg;refine goI ?_));refine .inl (cX (B3 _ _ _) ?_);(refine goI ?_;repeat (intro gg;refine goI ?_));(refine Ab (fun h4=>?_) (fun h4=>?_)<;>rw[h4])
     ·(refine goI ?_;repeat (intro gg;refine goI ?_));have e1:(l[k]).err=3:=by unfold Gw.err;simp_all
      rw[hE (by rw[e1];decide),e1];(exact⟨[],aI⟩)
     ·have e1:(l[k]).err=0:=by unfold Gw.err;simp_all
      (refine goI ?_;repeat (intro gg;refine goI ?_));(exact⟨none,trivial,fun _=>⟨⟨k+1,by omega,hN e1⟩,by show l.length-(k+1)<l.length-k;omega,tI,tI,tI,tI⟩⟩)
  ·have hge:¬k<l.length:=(by have:=ZW h;omega);have h2':Am Gw.err l=0:=Bc fun i hi=>h0 i hi (by omega);(refine goI ?_;repeat (intro gg;refine goI ?_));(refine⟨[],none,{k:Nat//(k<l.length∨k=0)∧∀i,(h:i+1<l.length)→i<k→Gw.lt l[i] l[i+1]=true},[0],fun⟨q,hq,g0⟩=>[(4,.v (.int .i64 ((q:Int)+1)))],[],fun⟨q,hq,g0⟩=>[],fun⟨q,hq,g0⟩=>l.length-q,trivial,fun _=>⟨trivial,fun _=>⟨⟨0,by omega,fun j _ h=>by omega⟩,tI,Aj _ _,tI,Ai _ _⟩⟩,fun⟨q,hq,g0⟩=>?_⟩);(refine goI ?_;repeat (intro gg;refine goI ?_));rw[ZE];(refine Ab (fun h3=>?_) (fun h3=>?_)<;>rw[h3])
   ·have hlt3:q+1<l.length:=(by have:=ZV h3;omega);(refine goI ?_;repeat (intro gg;refine goI ?_));refine⟨q+1,_,by omega,Ap hlt3,?_⟩;(refine goI ?_;repeat (intro gg;refine goI ?_));refine⟨q,_,by omega,Ap (by omega),?_⟩;(refine goI ?_;repeat (intro gg;refine goI ?_));rw[Qw];(refine Ab (fun h4=>?_) (fun h4=>?_)<;>rw[h4])
    ·(refine goI ?_;repeat (intro gg;refine goI ?_));have e:Ih l=4:=Ma h1' h2' (Dn hlt3 (by simpa[Gw.lt]using h4));rw[e];(exact⟨[],aI⟩)
    ·(refine goI ?_;repeat (intro gg;refine goI ?_));(exact⟨none,trivial,fun _=>⟨⟨q+1,by omega,up2 (p:=fun i h=>Gw.lt l[i] l[i+1]=true) g0 (fun _=>by simpa[Gw.lt]using h4)⟩,by show l.length-(q+1)<l.length-q;omega,tI,tI,tI,tI⟩⟩)
   ·have hge3:¬q+1<l.length:=(by have:=ZW h3;omega);(refine goI ?_;repeat (intro gg;refine goI ?_));have e:Ih l=0:=Jh h1' h2' (Dv fun i hi=>g0 i hi (by omega));rw[e];(exact⟨[],aI⟩)
end Go.Proofs.YteflnbjmjcbmmaaGreatDoor

namespace Go.Proofs.YteflnbjmjcbmmaaGreatDoor
open Go.RowKit Pl
theorem Mh[Glob](n a b:Int):Fun Tryz.prog 81 [.c (.v (.int .i64 n)),.c (.v (.int .i64 a)),.c (.v (.int .i64 b))] [.c (.v (.bool (wi n a b)))]:=by
 refine A9 Rv rfl ?_;(refine goI ?_;repeat (intro gg;refine goI ?_));(refine Ab (fun h=>?_) (fun h=>?_)<;>rw[h])
 ·(refine goI ?_;repeat (intro gg;refine goI ?_));rw[Ae9 h];(exact⟨[],aI⟩)
 ·(refine goI ?_;repeat (intro gg;refine goI ?_));rw[Afd h];(exact⟨[],aI⟩)
theorem Te[Glob](n:Int):Fun Tryz.prog 80 [.c (.v (.int .i64 n))] [.c (.v (.bool (wi n (-10000000) 10000000)))]:=by
 refine A9 P1 rfl ?_;(refine goI ?_;repeat (intro gg;refine goI ?_));refine .inl (cX (Mh _ _ _) ?_);(refine goI ?_;repeat (intro gg;refine goI ?_));(exact⟨[],aI⟩)
theorem Afu{x y z h s:Int}(h1:wi x (-10000000) 10000000=true)(h2:wi y (-10000000) 10000000=true)(h3:wi z (-10000000) 10000000=true)(h4:wi h 0 1000000=true)(h5:wi s 0 1000=true):Zf x y z h s=0:=by simp[Zf,Aen,h1,h2,h3,h4,h5]
theorem J8{x y z h s:Int}(h1:wi x (-10000000) 10000000=false∨wi y (-10000000) 10000000=false∨wi z (-10000000) 10000000=false∨wi h 0 1000000=false∨wi s 0 1000=false):Zf x y z h s=3:=by
 rcases h1 with h|h|h|h|h<;>simp[Zf,Aen,h]
theorem Aa6[Glob](p:Pc):Fun Tryz.prog 62 [.c (.agg p.row)] [.c (.v (.int .i64 p.err))]:=by
 refine A9 Ss rfl ?_;(refine goI ?_;repeat (intro gg;refine goI ?_));refine .inl (cX (Te _) ?_);(refine goI ?_;repeat (intro gg;refine goI ?_));(refine Ab (fun h1=>?_) (fun h1=>?_)<;>rw[h1])
 ·(refine goI ?_;repeat (intro gg;refine goI ?_));rw[show p.err=3 from J8 (.inl (Ey h1))];(exact⟨[],aI⟩)
 ·(refine goI ?_;repeat (intro gg;refine goI ?_));refine .inl (cX (Te _) ?_);(refine goI ?_;repeat (intro gg;refine goI ?_));(refine Ab (fun h2=>?_) (fun h2=>?_)<;>rw[h2])
  ·(refine goI ?_;repeat (intro gg;refine goI ?_));rw[show p.err=3 from J8 (.inr (.inl (Ey h2)))];(exact⟨[],aI⟩)
  ·(refine goI ?_;repeat (intro gg;refine goI ?_));refine .inl (cX (Te _) ?_);(refine goI ?_;repeat (intro gg;refine goI ?_));(refine Ab (fun h3=>?_) (fun h3=>?_)<;>rw[h3])
   ·(refine goI ?_;repeat (intro gg;refine goI ?_));rw[show p.err=3 from J8 (.inr (.inr (.inl (Ey h3))))];(exact⟨[],aI⟩)
   ·(refine goI ?_;repeat (intro gg;refine goI ?_));refine .inl (cX (Mh _ _ _) ?_);(refine goI ?_;repeat (intro gg;refine goI ?_));(refine Ab (fun h4=>?_) (fun h4=>?_)<;>rw[h4])
    ·(refine goI ?_;repeat (intro gg;refine goI ?_));rw[show p.err=3 from J8 (.inr (.inr (.inr (.inl (Ey h4)))))];(exact⟨[],aI⟩)
    ·(refine goI ?_;repeat (intro gg;refine goI ?_));refine .inl (cX (Mh _ _ _) ?_);(refine goI ?_;repeat (intro gg;refine goI ?_));(refine Ab (fun h5=>?_) (fun h5=>?_)<;>rw[h5])
     ·(refine goI ?_;repeat (intro gg;refine goI ?_));rw[show p.err=3 from J8 (.inr (.inr (.inr (.inr (Ey h5)))))];(exact⟨[],aI⟩)
     ·(refine goI ?_;repeat (intro gg;refine goI ?_));rw[show p.err=0 from Afu (Eo h1) (Eo h2) (Eo h3) (Eo h4) (Eo h5)];(exact⟨[],aI⟩)
theorem Y6[Glob](p:Pc):Fun Tryz.prog 57 [.c (.agg p.row)] [.c (.v (.int .i64 p.err))]:=by
 refine A9 J5 rfl ?_;(refine goI ?_;repeat (intro gg;refine goI ?_));refine .inl (cX (B3 _ _ _) ?_);(refine goI ?_;repeat (intro gg;refine goI ?_));(refine Ab (fun h1=>?_) (fun h1=>?_)<;>rw[h1])
 ·(refine goI ?_;repeat (intro gg;refine goI ?_));rw[show p.err=3 from J8 (.inl (Ey h1))];(exact⟨[],aI⟩)
 ·(refine goI ?_;repeat (intro gg;refine goI ?_));refine .inl (cX (B3 _ _ _) ?_);(refine goI ?_;repeat (intro gg;refine goI ?_));(refine Ab (fun h2=>?_) (fun h2=>?_)<;>rw[h2])
  ·(refine goI ?_;repeat (intro gg;refine goI ?_));rw[show p.err=3 from J8 (.inr (.inl (Ey h2)))];(exact⟨[],aI⟩)
  ·(refine goI ?_;repeat (intro gg;refine goI ?_));refine .inl (cX (B3 _ _ _) ?_);(refine goI ?_;repeat (intro gg;refine goI ?_));(refine Ab (fun h3=>?_) (fun h3=>?_)<;>rw[h3])
   ·(refine goI ?_;repeat (intro gg;refine goI ?_));rw[show p.err=3 from J8 (.inr (.inr (.inl (Ey h3))))];(exact⟨[],aI⟩)
   ·(refine goI ?_;repeat (intro gg;refine goI ?_));refine .inl (cX (B3 _ _ _) ?_);(refine goI ?_;repeat (intro gg;refine goI ?_));(refine Ab (fun h4=>?_) (fun h4=>?_)<;>rw[h4])
    ·(refine goI ?_;repeat (intro gg;refine goI ?_));rw[show p.err=3 from J8 (.inr (.inr (.inr (.inl (Ey h4)))))];(exact⟨[],aI⟩)
    ·(refine goI ?_;repeat (intro gg;refine goI ?_));refine .inl (cX (B3 _ _ _) ?_);(refine goI ?_;repeat (intro gg;refine goI ?_));(refine Ab (fun h5=>?_) (fun h5=>?_)<;>rw[h5])
     ·(refine goI ?_;repeat (intro gg;refine goI ?_));rw[show p.err=3 from J8 (.inr (.inr (.inr (.inr (Ey h5)))))];(exact⟨[],aI⟩)
     ·(refine goI ?_;repeat (intro gg;refine goI ?_));rw[show p.err=0 from Afu (Eo h1) (Eo h2) (Eo h3) (Eo h4) (Eo h5)];(exact⟨[],aI⟩)
theorem Aa4[Glob](c:Bool)(l:List Wh)(hl:l.length≤9223372036854775807)(hw:∀x∈l,x.ok):Fun Tryz.prog 30 [.c (.sl c (l.map Wh.row))] [.c (.v (.int .i64 (I7 l)))]:=by
 refine A9 P2 rfl ?_;(refine goI ?_;repeat (intro gg;refine goI ?_));rw[ZE];(refine Ab (fun h1=>?_) (fun h1=>?_)<;>rw[h1])
 ·(refine goI ?_;repeat (intro gg;refine goI ?_));have e:I7 l=2:=Ge (by have:=ZV h1;omega);rw[e];(exact⟨[],aI⟩)
 ·have h1':¬20<l.length:=(by have:=ZW h1;omega);(refine goI ?_;repeat (intro gg;refine goI ?_));rw[ZE];(refine⟨[],none,{k:Nat//k≤l.length∧∀j,(h:j<l.length)→j<k→Wh.err l[j]=0},[0,10,11],fun⟨k,hk,h0⟩=>[(12,.v (.int .i64 k))],[],fun⟨k,hk,h0⟩=>[],fun⟨k,hk,h0⟩=>l.length-k,trivial,fun _=>⟨trivial,fun _=>⟨⟨0,ZU _,fun j _ h=>absurd h (Nat.not_lt_zero _)⟩,tI,Aj _ _,tI,Ai _ _⟩⟩,fun⟨k,hk,h0⟩=>?_⟩);(refine goI ?_;repeat (intro gg;refine goI ?_));(refine Ab (fun h2=>?_) (fun h2=>?_)<;>rw[h2])
  ·have hlt:k<l.length:=(by have:=ZV h2;omega);(refine goI ?_;repeat (intro gg;refine goI ?_));refine⟨k,_,rfl,Ap hlt,?_⟩;(refine goI ?_;repeat (intro gg;refine goI ?_));have hx:=hw _ (ZK hlt);refine .inl (cX (Ez (l[k]).nd hx) ?_);(refine goI ?_;repeat (intro gg;refine goI ?_));have HE:=Br (e:=Wh.err) hlt h0;(refine Ab (fun h3=>?_) (fun h3=>?_)<;>rw[h3])
   ·have h3':lab (l[k]).nd.data.toList=false:=Ey h3;(refine goI ?_;repeat (intro gg;refine goI ?_));have e1:Wh.err l[k]=1:=by unfold Wh.err;rw[h3'];rfl
    have e:I7 l=1:=by unfold I7;rw[Cx h1' (by rw[HE (by rw[e1];decide),e1];decide),HE (by rw[e1];decide),e1]
    rw[e];(exact⟨[],aI⟩)
   ·have h3':lab (l[k]).nd.data.toList=true:=Eo h3;have e1:Wh.err l[k]=(l[k]).pl.err:=by unfold Wh.err;rw[h3'];rfl
    (refine goI ?_;repeat (intro gg;refine goI ?_));refine .inl (cX (Aa6 (l[k]).pl) ?_);(refine goI ?_;repeat (intro gg;refine goI ?_));(refine Ab (fun h4=>?_) (fun h4=>?_)<;>rw[h4])
    ·have h4':(l[k]).pl.err≠0:=by simpa using h4
     (refine goI ?_;repeat (intro gg;refine goI ?_));have e:I7 l=(l[k]).pl.err:=by unfold I7;rw[Cx h1' (by rw[HE (by rw[e1];exact h4'),e1];exact h4'),HE (by rw[e1];exact h4'),e1]
     rw[e];(exact⟨[],aI⟩)
    ·have h4':(l[k]).pl.err=0:=by simpa using h4
     (refine goI ?_;repeat (intro gg;refine goI ?_));(exact⟨none,trivial,fun _=>⟨⟨k+1,by omega,up1 (p:=fun j h=>Wh.err l[j]=0) h0 (fun _=>e1.trans h4')⟩,by show l.length-(k+1)<l.length-k;omega,tI,tI,tI,tI⟩⟩)
  ·have hge:¬k<l.length:=(by have:=ZW h2;omega);have h2':Am Wh.err l=0:=Bc fun i hi=>h0 i hi (by omega);(refine goI ?_;repeat (intro gg;refine goI ?_));(refine⟨[],none,{q:Nat//(q<l.length∨q=0)∧∀i,(h:i+1<l.length)→i<q→Wh.lt l[i] l[i+1]=true},[0],fun⟨q,hq,g0⟩=>[(6,.v (.int .i64 ((q:Int)+1)))],[],fun⟨q,hq,g0⟩=>[],fun⟨q,hq,g0⟩=>l.length-q,trivial,fun _=>⟨trivial,fun _=>⟨⟨0,by omega,fun j _ h=>by omega⟩,tI,Aj _ _,tI,Ai _ _⟩⟩,fun⟨q,hq,g0⟩=>?_⟩);(refine goI ?_;repeat (intro gg;refine goI ?_));rw[ZE];(refine Ab (fun h3=>?_) (fun h3=>?_)<;>rw[h3])
   ·have hlt3:q+1<l.length:=(by have:=ZV h3;omega);(refine goI ?_;repeat (intro gg;refine goI ?_));refine⟨q+1,_,by omega,Ap hlt3,?_⟩;(refine goI ?_;repeat (intro gg;refine goI ?_));refine⟨q,_,by omega,Ap (by omega),?_⟩;(refine goI ?_;repeat (intro gg;refine goI ?_));rw[Qw];(refine Ab (fun h4=>?_) (fun h4=>?_)<;>rw[h4])
    ·(refine goI ?_;repeat (intro gg;refine goI ?_));have e:I7 l=4:=Ma h1' h2' (Dn hlt3 (by simpa[Wh.lt]using h4));rw[e];(exact⟨[],aI⟩)
    ·(refine goI ?_;repeat (intro gg;refine goI ?_));(exact⟨none,trivial,fun _=>⟨⟨q+1,by omega,up2 (p:=fun i h=>Wh.lt l[i] l[i+1]=true) g0 (fun _=>by simpa[Wh.lt]using h4)⟩,by show l.length-(q+1)<l.length-q;omega,tI,tI,tI,tI⟩⟩)
   ·have hge3:¬q+1<l.length:=(by have:=ZW h3;omega);(refine goI ?_;repeat (intro gg;refine goI ?_));have e:I7 l=0:=Jh h1' h2' (Dv fun i hi=>g0 i hi (by omega));rw[e];(exact⟨[],aI⟩)
def Aha(x:Int):List V:=[.v (.int .i64 x)]
instance:FlatRow Aha:=⟨fun x u hu=>by simp[Aha]at hu;subst hu;exact⟨_,rfl⟩⟩

namespace Pl
def Sv.at_(s:Sv)(v:Int):Sv:=⟨s.nd,s.id,s.nm,s.tg,s.ad,s.pt,s.ps,v,s.gn⟩
end Pl
theorem Adc [Glob] (c d : Bool) (a b : List Sv) (ha : a.length ≤ 9223372036854775807) : Fun Tryz.prog 38 [.c (.sl c (a.map Sv.row)), .c (.sl d (b.map Sv.row))] [.c (.v (.bool (L8 Sv.same a b)))] := by
  refine A9 Ik rfl ?_
  (refine goI ?_; repeat (intro gg; refine goI ?_))
  rw [ZE, ZE]
  (refine Ab (fun h => ?_) (fun h => ?_) <;> rw [h])
  · (refine goI ?_; repeat (intro gg; refine goI ?_))
    rw [Pp (fun e => by rw [e] at h; simp at h)]
    (exact ⟨[], aI⟩)
  · have hab : a.length = b.length := by have h' : ((a.length : Int) != (b.length : Int)) = false := h
                                         simp at h'; omega
    (refine goI ?_; repeat (intro gg; refine goI ?_))
    (refine ⟨[], none, {k : Nat // k ≤ a.length ∧ ∀ j, (h : j < a.length) → j < k → Sv.same a[j] (b[j]'(by omega)) = true}, [0, 1], fun ⟨k, hk, h0⟩ => [(5, .v (.int .i64 k))], [], fun ⟨k, hk, h0⟩ => [], fun ⟨k, hk, h0⟩ => a.length - k, trivial, fun _ => ⟨trivial, fun _ => ⟨⟨0, by omega, fun j _ h => by omega⟩, tI, Aj _ _, tI, Ai _ _⟩⟩, fun ⟨k, hk, h0⟩ => ?_⟩)
    (refine goI ?_; repeat (intro gg; refine goI ?_))
    rw [ZE]
    (refine Ab (fun h2 => ?_) (fun h2 => ?_) <;> rw [h2])
    · have hlt : k < a.length := (by have := ZV h2; omega)
      have hlt' : k < b.length := by omega
      (refine goI ?_; repeat (intro gg; refine goI ?_))
      refine ⟨k, _, rfl, Ap hlt, ?_⟩
      (refine goI ?_; repeat (intro gg; refine goI ?_))
      refine ⟨k, _, rfl, Ap hlt', ?_⟩
      (refine goI ?_; repeat (intro gg; refine goI ?_))
      (refine Ab (fun h3 => ?_) (fun h3 => ?_) <;> rw [h3])
      · (refine goI ?_; repeat (intro gg; refine goI ?_))
        rw [Ow hlt hlt' (Ey (b := Sv.same a[k] b[k]) h3)]
        (exact ⟨[], aI⟩)
      · (refine goI ?_; repeat (intro gg; refine goI ?_))
        (exact ⟨none, trivial, fun _ => ⟨⟨k + 1, by omega, up1 (p := fun j h => Sv.same a[j] (b[j]'(by omega)) = true) h0 (fun _ => Eo (b := Sv.same a[k] b[k]) h3)⟩, by show a.length - (k + 1) < a.length - k; omega, tI, tI, tI, tI⟩⟩)
    · have hge : ¬ k < a.length := (by have := ZW h2; omega)
      (refine goI ?_; repeat (intro gg; refine goI ?_))
      rw [K3 hab (fun i hi _ => h0 i hi (by omega))]
      (exact ⟨[], aI⟩)
theorem Ad9 [Glob] (c d : Bool) (a b : List Gw) (ha : a.length ≤ 9223372036854775807) : Fun Tryz.prog 39 [.c (.sl c (a.map Gw.row)), .c (.sl d (b.map Gw.row))] [.c (.v (.bool (L8 Gw.same a b)))] := by
  refine A9 Hr rfl ?_
  (refine goI ?_; repeat (intro gg; refine goI ?_))
  rw [ZE, ZE]
  (refine Ab (fun h => ?_) (fun h => ?_) <;> rw [h])
  · (refine goI ?_; repeat (intro gg; refine goI ?_))
    rw [Pp (fun e => by rw [e] at h; simp at h)]
    (exact ⟨[], aI⟩)
  · have hab : a.length = b.length := by have h' : ((a.length : Int) != (b.length : Int)) = false := h
                                         simp at h'; omega
    (refine goI ?_; repeat (intro gg; refine goI ?_))
    (refine ⟨[], none, {k : Nat // k ≤ a.length ∧ ∀ j, (h : j < a.length) → j < k → Gw.same a[j] (b[j]'(by omega)) = true}, [0, 1], fun ⟨k, hk, h0⟩ => [(5, .v (.int .i64 k))], [], fun ⟨k, hk, h0⟩ => [], fun ⟨k, hk, h0⟩ => a.length - k, trivial, fun _ => ⟨trivial, fun _ => ⟨⟨0, by omega, fun j _ h => by omega⟩, tI, Aj _ _, tI, Ai _ _⟩⟩, fun ⟨k, hk, h0⟩ => ?_⟩)
    (refine goI ?_; repeat (intro gg; refine goI ?_))
    rw [ZE]
    (refine Ab (fun h2 => ?_) (fun h2 => ?_) <;> rw [h2])
    · have hlt : k < a.length := (by have := ZV h2; omega)
      have hlt' : k < b.length := by omega
      (refine goI ?_; repeat (intro gg; refine goI ?_))
      refine ⟨k, _, rfl, Ap hlt, ?_⟩
      (refine goI ?_; repeat (intro gg; refine goI ?_))
      refine ⟨k, _, rfl, Ap hlt', ?_⟩
      (refine goI ?_; repeat (intro gg; refine goI ?_))
      (refine Ab (fun h3 => ?_) (fun h3 => ?_) <;> rw [h3])
      · (refine goI ?_; repeat (intro gg; refine goI ?_))
        rw [Ow hlt hlt' (Ey (b := Gw.same a[k] b[k]) h3)]
        (exact ⟨[], aI⟩)
      · (refine goI ?_; repeat (intro gg; refine goI ?_))
        (exact ⟨none, trivial, fun _ => ⟨⟨k + 1, by omega, up1 (p := fun j h => Gw.same a[j] (b[j]'(by omega)) = true) h0 (fun _ => Eo (b := Gw.same a[k] b[k]) h3)⟩, by show a.length - (k + 1) < a.length - k; omega, tI, tI, tI, tI⟩⟩)
    · have hge : ¬ k < a.length := (by have := ZW h2; omega)
      (refine goI ?_; repeat (intro gg; refine goI ?_))
      rw [K3 hab (fun i hi _ => h0 i hi (by omega))]
      (exact ⟨[], aI⟩)




theorem Abf{env:Nat→V}{H:Nat→Option Ent}{ts:List RT}{cs cs':List V}{v:V}(hG:G3 env H ts [.agg cs,v])(hc:Bo H [] cs cs')(hv:Cl v):∃us gone,G3 env H ts us∧A4 H gone true gone us [.c (.agg cs'),.c v]:=⟨_,[],hG,.bora hc (.same hv (.nil _))⟩
namespace Pl
structure Pk where
 fr:ByteArray
 wo:Bool
 ms:List Mb
 sv:List Sv
 gs:List Gw
 wh:List Wh
def Pk.row(p:Pk):List V:=[.v (.string p.fr),.v (.bool p.wo),.sl false (p.ms.map Mb.row),.sl false (p.sv.map Sv.row),.sl false (p.gs.map Gw.row),.sl false (p.wh.map Wh.row)]
structure Pk.ok(p:Pk):Prop where
 fr:p.fr.size≤9223372036854775807
 msl:p.ms.length≤9223372036854775807
 ms:∀x∈p.ms,x.ok
 svl:p.sv.length≤1000000000000000
 sv:∀x∈p.sv,x.ok
 gsl:p.gs.length≤1000000000000000
 gs:∀x∈p.gs,x.ok
 whl:p.wh.length≤1000000000000000
 wh:∀x∈p.wh,x.ok
def pk0:Pk:=⟨⟨#[]⟩,false,[],[],[],[]⟩
end Pl
section
open Go Go.Lib
namespace Pl
def Fh(s:ByteArray):List UInt8:=A8 s.size++s.data.toList
def E5(b:Bool):List UInt8:=A8 (if b then 1 else 0)
def Fk(s:ByteArray):Option (ByteArray×ByteArray):=(Cd s).bind fun p=>if p.1<0∨(p.2.size:Int)<p.1 then none else some (p.2.extract 0 p.1.toNat,p.2.extract p.1.toNat p.2.size)
def Kg(s:ByteArray):Option (Bool×ByteArray):=(Cd s).bind fun p=>if p.1<0∨1<p.1 then none else some (decide (p.1=1),p.2)
def Ea{α:Type}(one:ByteArray→Option (α×ByteArray)):Nat→ByteArray→Option (List α×ByteArray)
 |0,s=>some ([],s)
 |k+1,s=>(one s).bind fun p=>(Ea one k p.2).bind fun q=>some (p.1::q.1,q.2)
def Hv(most:Int)(s:ByteArray):Option (Nat×ByteArray):=(Cd s).bind fun p=>if p.1<0∨most<p.1 then none else some (p.1.toNat,p.2)
def Ef{α:Type}(most:Int)(one:ByteArray→Option (α×ByteArray))(s:ByteArray):Option (List α×ByteArray):=(Hv most s).bind fun p=>Ea one p.1 p.2
def Tf{α:Type}(enc:α→List UInt8)(l:List α):List UInt8:=A8 l.length++l.flatMap enc
structure Fm{α:Type}(ok:α→Prop)(enc:α→List UInt8)(dec:ByteArray→Option (α×ByteArray)):Prop where
 back:∀x r,ok x→dec (bA (enc x++r))=some (x,bA r)
 some:∀s p,dec s=some p→ok p.1∧s.data.toList=enc p.1++p.2.data.toList
theorem Fy:Fm isI A8 Cd:=⟨fun x r h=>Hg h r,fun s p h=>F5 h⟩
theorem Li:Fm (fun s:ByteArray=>s.size≤9223372036854775807) Fh Fk:=by
 refine⟨fun x r h=>?_,fun s p h=>?_⟩
 ·unfold Fk Fh;rw[ZS,Hg (n:=(x.size:Int)) ⟨by omega,by omega⟩];simp only[ZA];have hl:x.data.toList.length=x.size:=by simp
  rw[if_neg (by rw[Ax,ZF,hl];omega),Int.toNat_natCast,Ek,Ek,Ax,XF,List.drop_zero,←hl,List.take_left,List.drop_left,Q3]
 ·unfold Fk at h;cases hn:Cd s with
  |none=>rw[hn]at h;cases h
  |some q=>
   rw[hn]at h;simp only[ZA]at h;split at h
   ·cases h
   ·rename_i hc;injection h with h
    subst h;obtain⟨⟨b0,b1⟩,hq⟩:=F5 hn;obtain⟨n,r⟩:=q;simp only at hc b0 b1 hq ⊢;obtain⟨k,rfl⟩:=Int.eq_ofNat_of_zero_le (show 0≤n by omega);have hr:r=bA r.data.toList:=(Q3 r).symm;generalize r.data.toList=l at *;subst hr;rw[Ax]at hc;have e1:(bA l).extract 0 k=bA (l.take k):=by rw[Ek,List.drop_zero]
    have e2:(bA l).extract k (bA l).size=bA (l.drop k):=by rw[Ek,Ax,XF]
    rw[Int.toNat_natCast,e1,e2];have hk:(bA (l.take k)).size=k:=by rw[Ax,ZM];omega
    refine⟨by rw[hk];omega,?_⟩;unfold Fh;rw[hk,Jl,Jl,hq,ZS,List.take_append_drop]
theorem Tm:Fm (fun _:Bool=>True) E5 Kg:=by
 refine⟨fun x r h=>?_,fun s p h=>⟨trivial,?_⟩⟩
 ·unfold Kg E5;cases x
  ·have h:=Hg (n:=0) (by unfold isI;omega) r;show(Cd (bA (A8 0++r))).bind _=_;rw[h];rfl
  ·have h:=Hg (n:=1) (by unfold isI;omega) r;show(Cd (bA (A8 1++r))).bind _=_;rw[h];rfl
 ·unfold Kg at h;cases hn:Cd s with
  |none=>rw[hn]at h;cases h
  |some q=>
   rw[hn]at h;simp only[ZA]at h;split at h
   ·cases h
   ·rename_i hc;injection h with h
    subst h;obtain⟨_,hq⟩:=F5 hn;rw[hq];unfold E5;by_cases h1:q.1=1
    ·simp[h1]
    ·have:q.1=0:=by omega
     simp[this]
def Gy{α β:Type}(f:ByteArray→Option (α×ByteArray))(g:ByteArray→Option (β×ByteArray))(s:ByteArray):Option ((α×β)×ByteArray):=(f s).bind fun p=>(g p.2).bind fun q=>some ((p.1,q.1),q.2)
theorem B6{α β:Type}{ok:α→Prop}{ok':β→Prop}{enc:α→List UInt8}{enc':β→List UInt8}{dec:ByteArray→Option (α×ByteArray)}{dec':ByteArray→Option (β×ByteArray)}(h:Fm ok enc dec)(h':Fm ok' enc' dec'):
  Fm (fun p:α×β=>ok p.1∧ok' p.2) (fun p=>enc p.1++enc' p.2) (Gy dec dec'):=by
 refine⟨fun x r hx=>?_,fun s p hp=>?_⟩
 ·unfold Gy;rw[ZS,h.back _ _ hx.1];simp only[ZA];rw[h'.back _ _ hx.2];rfl
 ·unfold Gy at hp;cases h1:dec s with
  |none=>rw[h1]at hp;cases hp
  |some q=>
   rw[h1]at hp;simp only[ZA]at hp;cases h2:dec' q.2 with
   |none=>rw[h2]at hp;cases hp
   |some u=>
    rw[h2]at hp;simp only[ZA,ZD]at hp;subst hp;obtain⟨a1,a2⟩:=h.some _ _ h1;obtain⟨b1,b2⟩:=h'.some _ _ h2;exact⟨⟨a1,b1⟩,by rw[a2,b2,ZS]⟩
theorem Uk{α β:Type}{ok:α→Prop}{ok':β→Prop}{enc:α→List UInt8}{enc':β→List UInt8}{dec:ByteArray→Option (α×ByteArray)}{dec':ByteArray→Option (β×ByteArray)}(h:Fm ok enc dec)(to:α→β)(of:β→α)(e1:∀x,to (of x)=x)(e2:∀x,of (to x)=x)(ho:∀x,ok' x↔ok (of x))(he:∀x,enc' x=enc (of x))(hd:∀s,dec' s=(dec s).map fun p=>(to p.1,p.2)):Fm ok' enc' dec':=by
 refine⟨fun x r hx=>?_,fun s p hp=>?_⟩
 ·rw[hd,he,h.back _ _ ((ho x).1 hx)];simp[e1]
 ·rw[hd]at hp;cases h1:dec s with
  |none=>rw[h1]at hp;cases hp
  |some q=>
   rw[h1]at hp;simp only[Option.map_some,ZD]at hp;subst hp;obtain⟨a1,a2⟩:=h.some _ _ h1;exact⟨(ho _).2 (by rw[e2];exact a1),by rw[he,e2];exact a2⟩
theorem Zu{α:Type}{ok:α→Prop}{enc:α→List UInt8}{dec:ByteArray→Option (α×ByteArray)}(h:Fm ok enc dec):∀(k:Nat),Fm (fun l:List α=>l.length=k∧∀x∈l,ok x) (fun l=>l.flatMap enc) (Ea dec k)
 |0=>⟨fun x r hx=>by
   obtain rfl:x=[]:=List.length_eq_zero_iff.1 hx.1;rfl,fun s p hp=>by
   simp only[Ea,ZD]at hp;subst hp;exact⟨⟨rfl,fun x hx=>by cases hx⟩,rfl⟩⟩
 |k+1=>by
  have ih:=Zu h k;refine⟨fun x r hx=>?_,fun s p hp=>?_⟩
  ·match x,hx with
   |a::l,hx=>
    show(dec (bA ((enc a++l.flatMap enc)++r))).bind _=_;rw[ZS,h.back _ _ (hx.2 a (XB ..))];simp only[ZA];rw[ih.back l r ⟨by simpa using hx.1,fun y hy=>hx.2 y (ZL _ hy)⟩];rfl
  ·have hp:(dec s).bind (fun p=>(Ea dec k p.2).bind fun q=>some (p.1::q.1,q.2))=some p:=hp;cases h1:dec s with
   |none=>rw[h1]at hp;cases hp
   |some q=>
    rw[h1]at hp;simp only[ZA]at hp;cases h2:Ea dec k q.2 with
    |none=>rw[h2]at hp;cases hp
    |some u=>
     rw[h2]at hp;simp only[ZA,ZD]at hp;subst hp;obtain⟨a1,a2⟩:=h.some _ _ h1;obtain⟨b1,b2⟩:=ih.some _ _ h2;refine⟨⟨by simp[b1.1],fun y hy=>?_⟩,?_⟩
     ·rcases XC.1 hy with rfl|hy
      ·exact a1
      ·exact b1.2 y hy
     ·show s.data.toList=(enc q.1++u.1.flatMap enc)++u.2.data.toList;rw[a2,b2,ZS]
theorem Wf{α:Type}{ok:α→Prop}{enc:α→List UInt8}{dec:ByteArray→Option (α×ByteArray)}(h:Fm ok enc dec)(most:Int)(hm:most≤1000000):Fm (fun l:List α=>(l.length:Int)≤most∧∀x∈l,ok x) (Tf enc) (Ef most dec):=by
 refine⟨fun l r hx=>?_,fun s p hp=>?_⟩
 ·unfold Ef Hv Tf;rw[ZS,Hg ⟨by omega,by omega⟩];simp only[ZA];rw[if_neg (by omega),Int.toNat_natCast];exact(Zu h l.length).back l r ⟨rfl,hx.2⟩
 ·unfold Ef Hv at hp;cases h1:Cd s with
  |none=>rw[h1]at hp;cases hp
  |some q=>
   rw[h1]at hp;simp only[ZA]at hp;obtain⟨hb,hq⟩:=F5 h1;split at hp
   ·cases hp
   ·rename_i hc;obtain⟨c1,c2⟩:=(Zu h q.1.toNat).some _ _ hp;have e:((q.1.toNat:Nat):Int)=q.1:=Int.toNat_of_nonneg (by omega);refine⟨⟨by omega,c1.2⟩,?_⟩;unfold Tf;rw[hq,c2,c1.1,e,ZS]
end Pl
end
open Go
abbrev pwT:TypeId:=83
theorem Ajv:Ak1 pwT:=⟨by kernel_rfl,by decide⟩
def Aaf(n:Int):List V:=[.v (.int .i64 n)]
instance:FlatRow Aaf:=⟨fun x u hu=>by simp[Aaf]at hu;exact⟨_,hu⟩⟩
def tRw(s:ByteArray):List V:=[.v (.string s)]
instance:FlatRow tRw:=⟨fun x u hu=>by simp[tRw]at hu;exact⟨_,hu⟩⟩
namespace Pl
def Az(ns:List Int):List UInt8:=ns.flatMap A8
def B4(l:List ByteArray):List UInt8:=l.flatMap Fh
theorem Du{α:Type}{f:α→List UInt8}{l:List α}{k:Nat}(hk:k<l.length):(l.take (k+1)).flatMap f=(l.take k).flatMap f++f l[k]:=by
 rw[XT,ZC hk,List.flatMap_append];simp
theorem Av{n:Int}(h:isI n):(A8 n).length≤22:=by
 have:=Lib.itoa_length_le n h.1 h.2;unfold A8;rw[ZF];simp only[ZJ,ZN];omega
theorem Ec{α:Type}{f:α→List UInt8}{m:Nat}:∀{l:List α},(∀x∈l,(f x).length≤m)→(l.flatMap f).length≤m*l.length
 |[],_=>by simp
 |x::l,h=>by
  have h1:=Ec (l:=l) fun y hy=>h y (ZL _ hy);have h2:=h x (XB ..);rw[List.flatMap_cons,ZF,ZJ,Nat.mul_add];omega
theorem Aev(l:List UInt8):((⟨l.toArray⟩:ByteArray)++⟨#[59]⟩).data.toList=l++[59]:=by simp
end Pl
theorem Cc[Glob][Tabs](l:List UInt8)(c:Bool)(ns:List Int)(h:∀n∈ns,isI n)(hn:ns.length≤100)(hl:l.length≤100000000000):E8 Tryz.prog 45 [.mo (Dg pwT l) (Dg pwT (l++Az ns)),.p (.c (.sl c (ns.map Aaf)))] []:=by
 refine L7 Jx rfl rfl (N3 rfl) ?_;(refine goI ?_;repeat (intro gg;refine goI ?_));rw[ZE];(refine⟨[],none,{k:Nat//k≤ns.length},[0,6,7],fun⟨k,hk⟩=>[(8,.v (.int .i64 k))],[],fun⟨k,hk⟩=>[(0,⟨0,.q (Dg pwT (l++Az (ns.take k))),0,[]⟩)],fun⟨k,hk⟩=>ns.length-k,trivial,fun _=>⟨trivial,fun _=>⟨⟨0,by omega⟩,tI,Aj _ _,?_,Ai _ _⟩⟩,fun⟨k,hk⟩=>?_⟩;focus (exact⟨congrArg (fun r=>some (Ent.mk 0 (.q (Dg pwT r)) 0 [])) (show l=l++Az (ns.take 0)by simp[Az]),trivial⟩));(refine goI ?_;repeat (intro gg;refine goI ?_));(refine Ab (fun h1=>?_) (fun h1=>?_)<;>rw[h1])
 ·have hlt:k<ns.length:=(by have:=ZV h1;omega);have hI:=h _ (ZK hlt);have hlen:(Az (ns.take k)).length≤22*100:=by
   have h1:=Ec (f:=A8) (m:=22) (l:=ns.take k) fun x hx=>Av (h x (List.mem_of_mem_take hx));rw[ZM]at h1;have:min k ns.length≤100:=by omega
   exact XI h1 (Nat.mul_le_mul_left 22 this)
  have hsz:=Lib.itoa_length_le ns[k] hI.1 hI.2;have e:l++Az (ns.take k)++(⟨(Lib.itoa ns[k]).toArray⟩++⟨#[59]⟩:ByteArray).data.toList=l++Az (ns.take (k+1)):=by unfold Az;rw[Du hlt,ZS,Aev];rfl
  (refine goI ?_;repeat (intro gg;refine goI ?_));refine⟨k,_,rfl,Ap hlt,?_⟩;(refine goI ?_;repeat (intro gg;refine goI ?_));(refine⟨_,_,false,aI,Ul ns[k] hI.1 hI.2,Ak,nI,?_⟩);(refine goI ?_;repeat (intro gg;refine goI ?_));refine⟨by show(((Lib.itoa ns[k]).toArray.size+1:Nat):Int)≤_;rw[List.size_toArray];omega,?_⟩;(refine goI ?_;repeat (intro gg;refine goI ?_));(refine .inr (.inl ⟨_,_,false,[0],aM,Yb Ajv (l++Az (ns.take k)) (⟨(Lib.itoa ns[k]).toArray⟩++⟨#[59]⟩) (by rw[ZF];show _+_+((⟨(Lib.itoa ns[k]).toArray⟩++⟨#[59]⟩:ByteArray)).size≤_;rw[XP];show _+_+((Lib.itoa ns[k]).toArray.size+1)≤_;rw[List.size_toArray];omega),Ak,oI,dI,?_⟩));(refine goI ?_;repeat (intro gg;refine goI ?_));(exact⟨none,trivial,fun gr=>⟨⟨k+1,by omega⟩,by show ns.length-(k+1)<ns.length-k;omega,tI,tI,⟨congrArg (fun r=>some (Ent.mk 0 (.q (Dg pwT r)) 0 [])) e,trivial⟩,tI⟩⟩)
 ·have hge:¬k<ns.length:=(by have:=ZW h1;omega);obtain rfl:k=ns.length:=by omega
  rw[show Az ns=Az (ns.take ns.length)by rw[XF]];(refine goI ?_;repeat (intro gg;refine goI ?_));(exact⟨[0],aM⟩)
theorem Kp[Glob][Tabs](l:List UInt8)(c:Bool)(ts:List ByteArray)(h:∀t∈ts,t.size≤100)(hn:ts.length≤10)(hl:l.length≤10000000000):E8 Tryz.prog 41 [.mo (Dg pwT l) (Dg pwT (l++B4 ts)),.p (.c (.sl c (ts.map tRw)))] []:=by
 refine L7 Lh rfl rfl (N3 rfl) ?_;(refine goI ?_;repeat (intro gg;refine goI ?_));rw[ZE];(refine⟨[],none,{k:Nat//k≤ts.length},[0,6,7],fun⟨k,hk⟩=>[(8,.v (.int .i64 k))],[],fun⟨k,hk⟩=>[(0,⟨0,.q (Dg pwT (l++B4 (ts.take k))),0,[]⟩)],fun⟨k,hk⟩=>ts.length-k,trivial,fun _=>⟨trivial,fun _=>⟨⟨0,by omega⟩,tI,Aj _ _,?_,Ai _ _⟩⟩,fun⟨k,hk⟩=>?_⟩;focus (exact⟨congrArg (fun r=>some (Ent.mk 0 (.q (Dg pwT r)) 0 [])) (show l=l++B4 (ts.take 0)by simp[B4]),trivial⟩));(refine goI ?_;repeat (intro gg;refine goI ?_));(refine Ab (fun h1=>?_) (fun h1=>?_)<;>rw[h1])
 ·have hlt:k<ts.length:=(by have:=ZV h1;omega);have hz:=h _ (ZK hlt);have hI:isI (ts[k].size:Int):=⟨by omega,by omega⟩;have hlen:(B4 (ts.take k)).length≤122*10:=by
   have h1:=Ec (f:=Fh) (m:=122) (l:=ts.take k) fun x hx=>by
    have hx:=h x (List.mem_of_mem_take hx);have:=Av (n:=(x.size:Int)) ⟨by omega,by omega⟩;unfold Fh;have hd:x.data.toList.length=x.size:=Array.length_toList;rw[ZF,hd];omega
   rw[ZM]at h1;have:min k ts.length≤10:=by omega
   exact XI h1 (Nat.mul_le_mul_left 122 this)
  have e:l++B4 (ts.take k)++Az [(ts[k].size:Int)]++ts[k].data.toList=l++B4 (ts.take (k+1)):=by unfold B4;rw[Du hlt];simp[Az,Fh]
  have hnl:=Av hI;have hn1:(Az [(ts[k].size:Int)]).length=(A8 (ts[k].size:Int)).length:=by simp[Az]
  (refine goI ?_;repeat (intro gg;refine goI ?_));refine⟨k,_,rfl,Ap hlt,?_⟩;(refine goI ?_;repeat (intro gg;refine goI ?_));(refine .inr (.inl ⟨_,_,true,[0],aM,Cc (l++B4 (ts.take k)) false [(ts[k].size:Int)] (by simpa using hI) (by simp) (by rw[ZF];omega),(fun _=>D9),oI,dI,?_⟩));(refine goI ?_;repeat (intro gg;refine goI ?_));(refine .inr (.inl ⟨_,_,false,[0],aM,Yb Ajv (l++B4 (ts.take k)++Az [(ts[k].size:Int)]) ts[k] (by rw[ZF,ZF,hn1];omega),Ak,oI,dI,?_⟩));(refine goI ?_;repeat (intro gg;refine goI ?_));(exact⟨none,trivial,fun gr=>⟨⟨k+1,by omega⟩,by show ts.length-(k+1)<ts.length-k;omega,tI,tI,⟨congrArg (fun r=>some (Ent.mk 0 (.q (Dg pwT r)) 0 [])) e,trivial⟩,tI⟩⟩)
 ·have hge:¬k<ts.length:=(by have:=ZW h1;omega);obtain rfl:k=ts.length:=by omega
  rw[show B4 ts=B4 (ts.take ts.length)by rw[XF]];(refine goI ?_;repeat (intro gg;refine goI ?_));(exact⟨[0],aM⟩)
theorem O4[Glob][Tabs](l:List UInt8)(b:Bool)(hl:l.length≤10000000000):E8 Tryz.prog 42 [.mo (Dg pwT l) (Dg pwT (l++E5 b)),.p (.c (.v (.bool b)))] []:=by
 refine L7 Mu rfl rfl (N3 rfl) ?_;cases b
 ·rw[show l++E5 false=l++Az [0]by simp[E5,Az]];(refine goI ?_;repeat (intro gg;refine goI ?_));(refine .inr (.inl ⟨_,_,true,[0],aM,Cc l false [0] (by intro n hn;simp at hn;subst hn;exact⟨by decide,by decide⟩) (by simp) (by omega),(fun _=>D9),oI,dI,?_⟩));(refine goI ?_;repeat (intro gg;refine goI ?_));(exact⟨[0],aM⟩)
 ·rw[show l++E5 true=l++Az [1]by simp[E5,Az]];(refine goI ?_;repeat (intro gg;refine goI ?_));(refine .inr (.inl ⟨_,_,true,[0],aM,Cc l false [1] (by intro n hn;simp at hn;subst hn;exact⟨by decide,by decide⟩) (by simp) (by omega),(fun _=>D9),oI,dI,?_⟩));(refine goI ?_;repeat (intro gg;refine goI ?_));(exact⟨[0],aM⟩)
section
open Go.Lib
namespace Pl
def mbB(m:Mb):List UInt8:=Fh m.n++A8 m.st++A8 m.lf++A8 m.ad++E5 m.sv
def svB(x:Sv):List UInt8:=Fh x.nd++Fh x.id++Fh x.nm++Fh x.tg++A8 x.ad++A8 x.pt++E5 x.ps++A8 x.vs++E5 x.gn
def gwB(g:Gw):List UInt8:=Fh g.c++A8 g.a++A8 g.v
def whB(x:Wh):List UInt8:=Fh x.nd++A8 x.pl.x++A8 x.pl.y++A8 x.pl.z++A8 x.pl.h++A8 x.pl.s
def pkB(p:Pk):List UInt8:=Fh p.fr++E5 p.wo++Tf mbB p.ms++Tf svB p.sv++Tf gwB p.gs++Tf whB p.wh
def mbR(s:ByteArray):Option (Mb×ByteArray):=(Fk s).bind fun a=>(Cd a.2).bind fun b=>(Cd b.2).bind fun c=>(Cd c.2).bind fun d=>(Kg d.2).bind fun e=>some (⟨a.1,b.1,c.1,d.1,e.1⟩,e.2)
def svR(s:ByteArray):Option (Sv×ByteArray):=(Fk s).bind fun a=>(Fk a.2).bind fun b=>(Fk b.2).bind fun c=>(Fk c.2).bind fun d=>(Cd d.2).bind fun e=>(Cd e.2).bind fun f=>(Kg f.2).bind fun g=>(Cd g.2).bind fun h=>(Kg h.2).bind fun i=>some (⟨a.1,b.1,c.1,d.1,e.1,f.1,g.1,h.1,i.1⟩,i.2)
def gwR(s:ByteArray):Option (Gw×ByteArray):=(Fk s).bind fun a=>(Cd a.2).bind fun b=>(Cd b.2).bind fun c=>some (⟨a.1,b.1,c.1⟩,c.2)
def whR(s:ByteArray):Option (Wh×ByteArray):=(Fk s).bind fun a=>(Cd a.2).bind fun b=>(Cd b.2).bind fun c=>(Cd c.2).bind fun d=>(Cd d.2).bind fun e=>(Cd e.2).bind fun f=>some (⟨a.1,⟨b.1,c.1,d.1,e.1,f.1⟩⟩,f.2)
def pkR(s:ByteArray):Option (Pk×ByteArray):=(Fk s).bind fun a=>(Kg a.2).bind fun b=>(Ef 20 mbR b.2).bind fun c=>(Ef 40 svR c.2).bind fun d=>(Ef 6 gwR d.2).bind fun e=>(Ef 20 whR e.2).bind fun f=>some (⟨a.1,b.1,c.1,d.1,e.1,f.1⟩,f.2)
def okT(s:ByteArray):Prop:=s.size≤9223372036854775807
def Mb.okB(m:Mb):Prop:=okT m.n∧isI m.st∧isI m.lf∧isI m.ad
def Sv.okB(x:Sv):Prop:=okT x.nd∧okT x.id∧okT x.nm∧okT x.tg∧isI x.ad∧isI x.pt∧isI x.vs
def Gw.okB(g:Gw):Prop:=okT g.c∧isI g.a∧isI g.v
def Wh.okB(x:Wh):Prop:=okT x.nd∧isI x.pl.x∧isI x.pl.y∧isI x.pl.z∧isI x.pl.h∧isI x.pl.s
def Pk.okB(p:Pk):Prop:=okT p.fr∧((p.ms.length:Int)≤20∧∀x∈p.ms,Mb.okB x)∧((p.sv.length:Int)≤40∧∀x∈p.sv,Sv.okB x)∧((p.gs.length:Int)≤6∧∀x∈p.gs,Gw.okB x)∧((p.wh.length:Int)≤20∧∀x∈p.wh,Wh.okB x)
theorem Akv:Fm Mb.okB mbB mbR:=
 Uk (B6 Li (B6 Fy (B6 Fy (B6 Fy Tm)))) (fun p=>⟨p.1,p.2.1,p.2.2.1,p.2.2.2.1,p.2.2.2.2⟩) (fun m=>(m.n,m.st,m.lf,m.ad,m.sv)) (fun _=>rfl) (fun _=>rfl)
  (fun m=>by simp[Mb.okB,okT]) (fun m=>by simp[mbB]) (fun s=>by simp[mbR,Gy,Option.bind_assoc,Option.map_bind,Function.comp_def])
theorem Ak7:Fm Sv.okB svB svR:=
 Uk (B6 Li (B6 Li (B6 Li (B6 Li (B6 Fy (B6 Fy (B6 Tm (B6 Fy Tm)))))))) (fun p=>⟨p.1,p.2.1,p.2.2.1,p.2.2.2.1,p.2.2.2.2.1,p.2.2.2.2.2.1,p.2.2.2.2.2.2.1,p.2.2.2.2.2.2.2.1,p.2.2.2.2.2.2.2.2⟩) (fun x=>(x.nd,x.id,x.nm,x.tg,x.ad,x.pt,x.ps,x.vs,x.gn)) (fun _=>rfl) (fun _=>rfl)
  (fun m=>by simp[Sv.okB,okT]) (fun m=>by simp[svB]) (fun s=>by simp[svR,Gy,Option.bind_assoc,Option.map_bind,Function.comp_def])
theorem Ajy:Fm Gw.okB gwB gwR:=
 Uk (B6 Li (B6 Fy Fy)) (fun p=>⟨p.1,p.2.1,p.2.2⟩) (fun x=>(x.c,x.a,x.v)) (fun _=>rfl) (fun _=>rfl)
  (fun m=>by simp[Gw.okB,okT]) (fun m=>by simp[gwB]) (fun s=>by simp[gwR,Gy,Option.bind_assoc,Option.map_bind,Function.comp_def])
theorem Al8:Fm Wh.okB whB whR:=
 Uk (B6 Li (B6 Fy (B6 Fy (B6 Fy (B6 Fy Fy))))) (fun p=>⟨p.1,⟨p.2.1,p.2.2.1,p.2.2.2.1,p.2.2.2.2.1,p.2.2.2.2.2⟩⟩) (fun x=>(x.nd,x.pl.x,x.pl.y,x.pl.z,x.pl.h,x.pl.s)) (fun _=>rfl) (fun _=>rfl)
  (fun m=>by simp[Wh.okB,okT]) (fun m=>by simp[whB]) (fun s=>by simp[whR,Gy,Option.bind_assoc,Option.map_bind,Function.comp_def])
theorem Adw:Fm Pk.okB pkB pkR:=
 Uk (B6 Li (B6 Tm (B6 (Wf Akv 20 (by decide)) (B6 (Wf Ak7 40 (by decide)) (B6 (Wf Ajy 6 (by decide)) (Wf Al8 20 (by decide))))))) (fun p=>⟨p.1,p.2.1,p.2.2.1,p.2.2.2.1,p.2.2.2.2.1,p.2.2.2.2.2⟩) (fun x=>(x.fr,x.wo,x.ms,x.sv,x.gs,x.wh)) (fun _=>rfl) (fun _=>rfl)
  (fun m=>by simp[Pk.okB,okT]) (fun m=>by simp[pkB]) (fun s=>by simp[pkR,Gy,Option.bind_assoc,Option.map_bind,Function.comp_def])
end Pl
end
section
open Go.Lib
namespace Pl
def Gh:Nat→List UInt8→Nat×Nat
 |n,[]=>(n,0)
 |n,c::r=>if(48≤c.toNat∧c.toNat≤57)∧n<1099511627776 then((Gh (10*n+c.toNat-48) r).1,(Gh (10*n+c.toNat-48) r).2+1)else(n,0)
def N5(s:ByteArray)(a:Nat):Bool:=decide (s.data.toList[a]? =some 45)
def M2(s:ByteArray)(a:Nat):Nat:=if N5 s a then a+1 else a
def scA(s:ByteArray)(a:Nat):Nat×Nat:=Gh 0 (s.data.toList.drop (M2 s a))
def Jw(s:ByteArray)(a:Nat):Int:=if N5 s a then -((scA s a).1:Int)else(scA s a).1
def El(s:ByteArray)(a:Nat):Nat:=M2 s a+(scA s a).2
abbrev Cu:=Nat×Bool
def Bf(s:ByteArray)(c:Cu):Int×Cu:=if c.2=true∨s.size≤El s c.1∨s.extract c.1 (El s c.1+1)≠bA (A8 (Jw s c.1))then(0,(El s c.1,true))else(Jw s c.1,(El s c.1+1,false))
def Fo(s:ByteArray)(c:Cu):ByteArray×Cu:=if(Bf s c).2.2=true∨(Bf s c).1<0∨(s.size:Int)-(Bf s c).2.1<(Bf s c).1 then(⟨#[]⟩,((Bf s c).2.1,true))else(s.extract (Bf s c).2.1 ((Bf s c).2.1+(Bf s c).1.toNat),((Bf s c).2.1+(Bf s c).1.toNat,false))
def Mf(s:ByteArray)(c:Cu):Bool×Cu:=(decide ((Bf s c).1=1),((Bf s c).2.1,((Bf s c).2.2||decide ((Bf s c).1<0)||decide (1<(Bf s c).1))))
def J7(most:Int)(s:ByteArray)(c:Cu):Nat×Cu:=if(Bf s c).2.2=true∨(Bf s c).1<0∨most<(Bf s c).1 then(0,((Bf s c).2.1,true))else((Bf s c).1.toNat,(Bf s c).2)
def Cj{α:Type}(one:Cu→α×Cu):Nat→Cu→List α×Cu
 |0,c=>([],c)
 |k+1,c=>if c.2=true then([],c)else((one c).1::(Cj one k (one c).2).1,(Cj one k (one c).2).2)
structure Rf{α:Type}(s:ByteArray)(small:α→Prop)(dec:ByteArray→Option (α×ByteArray))(ref:Cu→α×Cu):Prop where
 stick:∀a,(ref (a,true)).2.2=true
 fwd:∀a x a',a≤s.size→ref (a,false)=(x,(a',false))→a'≤s.size∧dec (bA (s.data.toList.drop a))=some (x,bA (s.data.toList.drop a'))
 bwd:∀a x r,a≤s.size→dec (bA (s.data.toList.drop a))=some (x,r)→small x→∃a',a'≤s.size∧ref (a,false)=(x,(a',false))∧r=bA (s.data.toList.drop a')
theorem Ug:∀(l:List UInt8) (n:Nat),n<10995116277770→(Gh n l).1<10995116277770
 |[],n,h=>h
 |c::r,n,h=>by
  unfold Gh;split
  ·exact Ug r _ (by omega)
  ·exact h
theorem Pt:∀(l r:List UInt8) (n:Nat),(∀c∈l,isD c)→P0 n l<1099511627776→Gh n (l++59::r)=(P0 n l,l.length)
 |[],r,n,_,_=>by
  show(if _ then _ else(n,0))=(n,0);rw[if_neg (by rintro ⟨⟨h,h'⟩,_⟩;revert h';decide)]
 |c::l,r,n,h,hv=>by
  have h1:48≤c.toNat∧c.toNat≤57:=h c (XB ..);have e:10*n+c.toNat-48=n*10+(c.toNat-48):=by omega
  have hv':P0 (n*10+(c.toNat-48)) l<1099511627776:=hv;have h2:=Ws l (n*10+(c.toNat-48));have ih:=Pt l r (n*10+(c.toNat-48)) (fun x hx=>h x (ZL _ hx)) hv';show(if(48≤c.toNat∧c.toNat≤57)∧n<1099511627776 then((Gh (10*n+c.toNat-48) (l++59::r)).1,(Gh (10*n+c.toNat-48) (l++59::r)).2+1)else(n,0))=_;rw[if_pos ⟨h1,by omega⟩,e,ih];rfl
theorem Aa5(s:ByteArray)(a b:Nat):s.extract a b=bA ((s.data.toList.take b).drop a):=by
 have:=Ek s.data.toList a b
 rwa[Q3]at this
theorem Af7{l:List UInt8}{a b:Nat}{m r:List UInt8}(h:l.drop a=m++r)(hb:b=a+m.length):(bA l).extract a b=bA m∧l.drop b=r:=by
 subst hb;constructor
 ·rw[Ek,List.drop_take,h,Nat.add_sub_cancel_left,List.take_left]
 ·rw[←List.drop_drop,h,List.drop_left]
theorem C3(s:ByteArray):Rf s (fun n:Int=> -1099511627776<n∧n<1099511627776) Cd (Bf s):=by
 have hs:s=bA s.data.toList:=(Q3 s).symm;have hsz:s.size=s.data.toList.length:=by rw[Array.length_toList];rfl
 refine⟨fun a=>?_,fun a x a' ha h=>?_,fun a x r ha h hx=>?_⟩
 ·unfold Bf;rw[if_pos (.inl rfl)]
 ·unfold Bf at h;split at h
  ·injection h with _ h;injection h with _ h
   cases h
  ·rename_i hc;simp only[not_or,Bool.false_eq_true,not_false_iff,true_and,Nat.not_le,ne_eq,Classical.not_not]at hc;obtain⟨h1,h2⟩:=hc;injection h with h3 h4
   injection h4 with h4 _;subst h3 h4;refine⟨h1,?_⟩;have hv:isI (Jw s a):=by
    have:=Ug (s.data.toList.drop (M2 s a)) 0 (by decide);unfold Jw isI scA;split<;>omega
   have hd:s.data.toList.drop a=A8 (Jw s a)++s.data.toList.drop (El s a+1):=by
    rw[Aa5]at h2;rw[←Ain h2];have ha':a≤El s a+1:=by unfold El M2;split<;>omega
    conv=>lhs;rw[←List.take_append_drop (El s a+1) s.data.toList]
    rw[List.drop_append_of_le_length (by rw[ZM];omega)]
   rw[hd];exact Hg hv _
 ·obtain⟨hI,hd⟩:=F5 h;simp only[Jl]at hI hd;have hr:r=bA r.data.toList:=(Q3 r).symm;generalize r.data.toList=rl at *;subst hr;have hat:∀i,s.data.toList[a+i]? =(A8 x++rl)[i]? :=fun i=>by rw[←hd,List.getElem?_drop]
  have key:N5 s a=decide (x<0)∧scA s a=(x.natAbs,(decDigits x.natAbs).length):=by
   by_cases hn:x<0
   ·have e1:A8 x=45::(decDigits x.natAbs++[59]):=by unfold A8 itoa;rw[if_pos hn];rfl
    have e2:N5 s a=true:=by
     unfold N5;have:=hat 0;rw[Nat.add_zero,e1]at this;rw[this];rfl
    refine⟨by rw[e2];simp[hn],?_⟩;unfold scA M2;rw[e2,if_pos rfl];have e3:s.data.toList.drop (a+1)=decDigits x.natAbs++59::rl:=by
     rw[←List.drop_drop,hd,e1];simp
    rw[e3,Pt _ _ _ (Lf _) (by rw[K5];omega),K5]
   ·have e1:A8 x=decDigits x.natAbs++[59]:=by
     unfold A8 itoa;rw[if_neg hn];congr 2;omega
    have e2:N5 s a=false:=by
     unfold N5;have h0:=hat 0;rw[Nat.add_zero,e1]at h0;rw[h0];cases hdd:decDigits x.natAbs with
     |nil=>exact absurd hdd (Aam _)
     |cons c l=>
      have hc:48≤c.toNat∧c.toNat≤57:=Lf x.natAbs c (by rw[hdd];exact XB ..);simp only[List.cons_append,List.getElem?_cons_zero,ZD,decide_eq_false_iff_not];intro e;subst e;revert hc;decide
    refine⟨by rw[e2];simp[hn],?_⟩;unfold scA M2;rw[e2,if_neg (by simp)];have e3:s.data.toList.drop a=decDigits x.natAbs++59::rl:=by
     rw[hd,e1];simp
    rw[e3,Pt _ _ _ (Lf _) (by rw[K5];omega),K5]
  obtain⟨k1,k2⟩:=key;have hval:Jw s a=x:=by
   unfold Jw;rw[k1,k2];by_cases hn:x<0
   ·rw[if_pos (by simp[hn])];show -((x.natAbs:Nat):Int)=x;omega
   ·rw[if_neg (by simp[hn])];show((x.natAbs:Nat):Int)=x;omega
  have hend:El s a+1=a+(A8 x).length:=by
   unfold El M2;rw[k1,k2];unfold A8 itoa;by_cases hn:x<0
   ·rw[if_pos (by simp[hn]),if_pos hn];simp only[ZF,ZJ,ZN];omega
   ·rw[if_neg (by simp[hn]),if_neg hn];have:x.natAbs=x.toNat:=by omega
    rw[this];simp only[ZF,ZJ,ZN];omega
  have hlen:(A8 x++rl).length=s.size-a:=by rw[←hd,List.length_drop,hsz]
  rw[ZF]at hlen;obtain⟨x1,x2⟩:=Af7 hd hend;refine⟨El s a+1,by omega,?_,by rw[x2]⟩;unfold Bf;rw[if_neg,hval];simp only[not_or,Bool.false_eq_true,not_false_iff,true_and,Nat.not_le,ne_eq,Classical.not_not];refine⟨by omega,?_⟩;rw[hval,←x1,←hs]
def D4(n:Int):Prop:= -1099511627776<n∧n<1099511627776
def Ei(t:ByteArray):Prop:=t.size<1099511627776
theorem Ms(s:ByteArray):Rf s Ei Fk (Fo s):=by
 have hsz:s.size=s.data.toList.length:=by rw[Array.length_toList];rfl
 refine⟨fun a=>?_,fun a x a' ha h=>?_,fun a x r ha h hx=>?_⟩
 ·unfold Fo;rw[if_pos (.inl ((C3 s).stick a))]
 ·unfold Fo at h;split at h
  ·injection h with _ h;injection h with _ h
   cases h
  ·rename_i hc;rcases hq:Bf s (a,false)with⟨n,a1,b⟩
   rw[hq]at hc h;simp only[not_or,Bool.not_eq_true,Int.not_lt]at hc;obtain⟨rfl,h1,h2⟩:=hc;obtain⟨k1,k2⟩:=(C3 s).fwd a n a1 ha hq;obtain⟨k,rfl⟩:=Int.eq_ofNat_of_zero_le h1;simp only[Int.toNat_natCast]at h;injection h with e1 e2
   injection e2 with e2 _;subst e1 e2;refine⟨by omega,?_⟩;have hd:(s.data.toList.drop a1).length=s.size-a1:=by rw[List.length_drop,hsz]
   unfold Fk;rw[k2];simp only[ZA];rw[if_neg (by rw[Ax,hd];omega),Int.toNat_natCast,Ek,Ek,Ax,XF,List.drop_zero,Aa5,List.drop_drop,List.drop_take,Nat.add_sub_cancel_left]
 ·unfold Fk at h;cases hn:Cd (bA (s.data.toList.drop a))with
  |none=>rw[hn]at h;cases h
  |some q=>
   rw[hn]at h;simp only[ZA]at h;split at h
   ·cases h
   ·rename_i hc;obtain⟨n,r1⟩:=q;injection h with h
    injection h with h1 h2;simp only at hc h1 h2;obtain⟨k,rfl⟩:=Int.eq_ofNat_of_zero_le (show 0≤n by omega);rw[Int.toNat_natCast]at h1 h2;have hk:x.size=k:=by
     subst h1;rw[ByteArray.size_extract];omega
    obtain⟨a',g1,g2,rfl⟩:=(C3 s).bwd a _ r1 ha hn (by unfold Ei at hx;omega);have hd:(s.data.toList.drop a').length=s.size-a':=by rw[List.length_drop,hsz]
    rw[Ax,hd]at hc;rw[Ek,List.drop_zero]at h1;rw[Ek,Ax,XF,List.drop_drop]at h2;refine⟨a'+k,by omega,?_,h2.symm⟩;unfold Fo;rw[g2];rw[if_neg (by simp only[Bool.false_eq_true,false_or];omega)];simp only[Int.toNat_natCast];rw[Aa5,List.drop_take,Nat.add_sub_cancel_left,h1]
theorem Wu(s:ByteArray):Rf s (fun _:Bool=>True) Kg (Mf s):=by
 refine⟨fun a=>?_,fun a x a' ha h=>?_,fun a x r ha h hx=>?_⟩
 ·unfold Mf;rw[(C3 s).stick a];rfl
 ·unfold Mf at h;rcases hq:Bf s (a,false)with⟨n,a1,b⟩
  rw[hq]at h;simp only[Prod.mk.injEq,Bool.or_eq_false_iff,decide_eq_false_iff_not]at h;obtain⟨h1,rfl,⟨rfl,h2⟩,h3⟩:=h;obtain⟨k1,k2⟩:=(C3 s).fwd a n a1 ha hq;refine⟨k1,?_⟩;unfold Kg;rw[k2];simp only[ZA];rw[if_neg (by omega),h1]
 ·unfold Kg at h;cases hn:Cd (bA (s.data.toList.drop a))with
  |none=>rw[hn]at h;cases h
  |some q=>
   rw[hn]at h;simp only[ZA]at h;split at h
   ·cases h
   ·rename_i hc;obtain⟨n,r1⟩:=q;injection h with h
    injection h with h1 h2;simp only at hc h1 h2;obtain⟨a',g1,g2,rfl⟩:=(C3 s).bwd a _ r1 ha hn (by omega);refine⟨a',g1,?_,h2.symm⟩;unfold Mf;rw[g2];simp only[h1,Prod.mk.injEq,true_and,Bool.or_eq_false_iff,decide_eq_false_iff_not];omega
theorem Aii(s:ByteArray)(most:Int)(hm:most<1099511627776):Rf s (fun _:Nat=>True) (Hv most) (J7 most s):=by
 refine⟨fun a=>?_,fun a x a' ha h=>?_,fun a x r ha h hx=>?_⟩
 ·unfold J7;rw[if_pos (.inl ((C3 s).stick a))]
 ·unfold J7 at h;split at h
  ·injection h with _ h;injection h with _ h
   cases h
  ·rename_i hc;rcases hq:Bf s (a,false)with⟨n,a1,b⟩
   rw[hq]at hc h;simp only[Prod.mk.injEq]at h hc;obtain⟨h1,rfl,rfl⟩:=h;obtain⟨k1,k2⟩:=(C3 s).fwd a n a1 ha hq;refine⟨k1,?_⟩;unfold Hv;rw[k2];simp only[ZA];rw[if_neg (by omega),h1]
 ·unfold Hv at h;cases hn:Cd (bA (s.data.toList.drop a))with
  |none=>rw[hn]at h;cases h
  |some q=>
   rw[hn]at h;simp only[ZA]at h;split at h
   ·cases h
   ·rename_i hc;obtain⟨n,r1⟩:=q;injection h with h
    injection h with h1 h2;simp only at hc h1 h2;obtain⟨a',g1,g2,rfl⟩:=(C3 s).bwd a _ r1 ha hn (by omega);refine⟨a',g1,?_,h2.symm⟩;unfold J7;rw[g2];rw[if_neg (by simp only[Bool.false_eq_true,false_or];omega)];simp only[h1]
def Ac1{α β:Type}(f:Cu→α×Cu)(g:Cu→β×Cu)(c:Cu):(α×β)×Cu:=(((f c).1,(g (f c).2).1),(g (f c).2).2)
theorem B5{α β:Type}{s:ByteArray}{sm:α→Prop}{sm':β→Prop}{dec:ByteArray→Option (α×ByteArray)}{dec':ByteArray→Option (β×ByteArray)}{ref:Cu→α×Cu}{ref':Cu→β×Cu}(h:Rf s sm dec ref)(h':Rf s sm' dec' ref'):
  Rf s (fun p:α×β=>sm p.1∧sm' p.2) (Gy dec dec') (Ac1 ref ref'):=by
 refine⟨fun a=>?_,fun a x a' ha he=>?_,fun a x r ha he hx=>?_⟩
 ·unfold Ac1;have h1:=h.stick a;rcases hq:ref (a,true)with⟨x,a1,b⟩
  rw[hq]at h1;have h1:b=true:=h1;subst h1;exact h'.stick a1
 ·unfold Ac1 at he;rcases hq:ref (a,false)with⟨x1,a1,b⟩
  rw[hq]at he;cases b with
  |true=>
   have:=h'.stick a1;injection he with _ he
   rw[he]at this;cases this
  |false=>
   rcases hq2:ref' (a1,false)with⟨x2,a2,b2⟩;simp only[hq2,Prod.mk.injEq]at he;obtain⟨rfl,rfl,rfl⟩:=he;obtain⟨k1,k2⟩:=h.fwd a x1 a1 ha hq;obtain⟨k3,k4⟩:=h'.fwd a1 x2 a2 k1 hq2;refine⟨k3,?_⟩;unfold Gy;rw[k2];simp only[ZA];rw[k4];rfl
 ·unfold Gy at he;cases h1:dec (bA (s.data.toList.drop a))with
  |none=>rw[h1]at he;cases he
  |some q=>
   rw[h1]at he;simp only[ZA]at he;cases h2:dec' q.2 with
   |none=>rw[h2]at he;cases he
   |some u=>
    rw[h2]at he;simp only[ZA,ZD,Prod.mk.injEq]at he;obtain⟨rfl,rfl⟩:=he;obtain⟨x1,r1⟩:=q;obtain⟨x2,r2⟩:=u;obtain⟨a1,g1,g2,rfl⟩:=h.bwd a x1 r1 ha h1 hx.1;obtain⟨a2,g3,g4,rfl⟩:=h'.bwd a1 x2 r2 g1 h2 hx.2;refine⟨a2,g3,?_,rfl⟩;unfold Ac1;rw[g2,g4]
theorem Tc{α β:Type}{s:ByteArray}{sm:α→Prop}{sm':β→Prop}{dec:ByteArray→Option (α×ByteArray)}{dec':ByteArray→Option (β×ByteArray)}{ref:Cu→α×Cu}{ref':Cu→β×Cu}(h:Rf s sm dec ref)(to:α→β)(ho:∀x,sm' (to x)→sm x)(hd:∀s,dec' s=(dec s).map fun p=>(to p.1,p.2))(hr:∀c,ref' c=(to (ref c).1,(ref c).2)):Rf s sm' dec' ref':=by
 refine⟨fun a=>?_,fun a x a' ha he=>?_,fun a x r ha he hx=>?_⟩
 ·rw[hr];exact h.stick a
 ·rw[hr]at he;rcases hq:ref (a,false)with⟨x1,a1,b⟩
  rw[hq]at he;simp only[Prod.mk.injEq]at he;obtain⟨rfl,rfl,rfl⟩:=he;obtain⟨k1,k2⟩:=h.fwd a x1 a1 ha hq;exact⟨k1,by rw[hd,k2];rfl⟩
 ·rw[hd]at he;cases h1:dec (bA (s.data.toList.drop a))with
  |none=>rw[h1]at he;cases he
  |some q=>
   rw[h1]at he;simp only[Option.map_some,ZD,Prod.mk.injEq]at he;obtain⟨rfl,rfl⟩:=he;obtain⟨a1,g1,g2,g3⟩:=h.bwd a q.1 q.2 ha h1 (ho _ hx);exact⟨a1,g1,by rw[hr,g2],g3⟩
theorem Lb{α:Type}{one:Cu→α×Cu}:∀(k a:Nat),(Cj one k (a,true)).2.2=true
 |0,a=>rfl
 |k+1,a=>by unfold Cj;rw[if_pos rfl]
theorem Aag{α:Type}{s:ByteArray}{sm:α→Prop}{dec:ByteArray→Option (α×ByteArray)}{ref:Cu→α×Cu}(h:Rf s sm dec ref):∀(k:Nat),Rf s (fun l:List α=>∀x∈l,sm x) (Ea dec k) (Cj ref k)
 |0=>⟨fun a=>rfl,fun a x a' ha he=>by
   simp only[Cj,Prod.mk.injEq]at he;obtain⟨rfl,rfl,_⟩:=he;exact⟨ha,rfl⟩,fun a x r ha he hx=>by
   simp only[Ea,ZD,Prod.mk.injEq]at he;obtain⟨rfl,rfl⟩:=he;exact⟨a,ha,rfl,rfl⟩⟩
 |k+1=>by
  have ih:=Aag h k;refine⟨fun a=>Lb _ a,fun a x a' ha he=>?_,fun a x r ha he hx=>?_⟩
  ·have he:(if false=true then([],(a,false))else((ref (a,false)).1::(Cj ref k (ref (a,false)).2).1,(Cj ref k (ref (a,false)).2).2))=(x,(a',false)):=he;rw[if_neg (by simp)]at he;rcases hq:ref (a,false)with⟨x1,a1,b⟩
   rw[hq]at he;cases b with
   |true=>
    have:=Lb (one:=ref) k a1;injection he with _ he
    rw[he]at this;cases this
   |false=>
    rcases hq2:Cj ref k (a1,false)with⟨x2,a2,b2⟩;simp only[hq2,Prod.mk.injEq]at he;obtain⟨rfl,rfl,rfl⟩:=he;obtain⟨k1,k2⟩:=h.fwd a x1 a1 ha hq;obtain⟨k3,k4⟩:=ih.fwd a1 x2 a2 k1 hq2;refine⟨k3,?_⟩;show(dec (bA (s.data.toList.drop a))).bind _=_;rw[k2];simp only[ZA];rw[k4];rfl
  ·have he:(dec (bA (s.data.toList.drop a))).bind (fun p=>(Ea dec k p.2).bind fun q=>some (p.1::q.1,q.2))=some (x,r):=he;cases h1:dec (bA (s.data.toList.drop a))with
   |none=>rw[h1]at he;cases he
   |some q=>
    rw[h1]at he;simp only[ZA]at he;cases h2:Ea dec k q.2 with
    |none=>rw[h2]at he;cases he
    |some u=>
     rw[h2]at he;simp only[ZA,ZD,Prod.mk.injEq]at he;obtain⟨rfl,rfl⟩:=he;obtain⟨x1,r1⟩:=q;obtain⟨x2,r2⟩:=u;obtain⟨a1,g1,g2,rfl⟩:=h.bwd a x1 r1 ha h1 (hx x1 (XB ..));obtain⟨a2,g3,g4,rfl⟩:=ih.bwd a1 x2 r2 g1 h2 fun y hy=>hx y (ZL _ hy);refine⟨a2,g3,?_,rfl⟩;show(if false=true then([],(a,false))else((ref (a,false)).1::(Cj ref k (ref (a,false)).2).1,(Cj ref k (ref (a,false)).2).2))=_;rw[if_neg (by simp),g2,g4]
def Tr{α:Type}(most:Int)(s:ByteArray)(one:Cu→α×Cu)(c:Cu):List α×Cu:=Cj one (J7 most s c).1 (J7 most s c).2
theorem Wv{α:Type}{s:ByteArray}{sm:α→Prop}{dec:ByteArray→Option (α×ByteArray)}{ref:Cu→α×Cu}(h:Rf s sm dec ref)(most:Int)(hm:most<1099511627776):Rf s (fun l:List α=>∀x∈l,sm x) (Ef most dec) (Tr most s ref):=by
 have hC:=Aii s most hm;refine⟨fun a=>?_,fun a x a' ha he=>?_,fun a x r ha he hx=>?_⟩
 ·unfold Tr;have h1:=hC.stick a;rcases hq:J7 most s (a,true)with⟨n,a1,b⟩
  rw[hq]at h1;have h1:b=true:=h1;subst h1;exact Lb n a1
 ·unfold Tr at he;rcases hq:J7 most s (a,false)with⟨n,a1,b⟩
  rw[hq]at he;cases b with
  |true=>
   have:=Lb (one:=ref) n a1;simp only at he;rw[he]at this;cases this
  |false=>
   obtain⟨k1,k2⟩:=hC.fwd a n a1 ha hq;obtain⟨k3,k4⟩:=(Aag h n).fwd a1 x a' k1 he;refine⟨k3,?_⟩;unfold Ef;rw[k2];exact k4
 ·unfold Ef at he;cases h1:Hv most (bA (s.data.toList.drop a))with
  |none=>rw[h1]at he;cases he
  |some q=>
   rw[h1]at he;simp only[ZA]at he;obtain⟨n,r1⟩:=q;obtain⟨a1,g1,g2,rfl⟩:=hC.bwd a n r1 ha h1 trivial;obtain⟨a2,g3,g4,rfl⟩:=(Aag h n).bwd a1 x r g1 he hx;exact⟨a2,g3,by unfold Tr;rw[g2];exact g4,rfl⟩
end Pl
end
section
open Go.Lib
namespace Pl
def cMb(s:ByteArray)(c:Cu):Mb×Cu:=
 let a:=Fo s c
 let b:=Bf s a.2
 let d:=Bf s b.2
 let e:=Bf s d.2
 let f:=Mf s e.2
 (⟨a.1,b.1,d.1,e.1,f.1⟩,f.2)
def cSv(s:ByteArray)(c:Cu):Sv×Cu:=
 let a:=Fo s c
 let b:=Fo s a.2
 let d:=Fo s b.2
 let e:=Fo s d.2
 let f:=Bf s e.2
 let g:=Bf s f.2
 let h:=Mf s g.2
 let i:=Bf s h.2
 let j:=Mf s i.2
 (⟨a.1,b.1,d.1,e.1,f.1,g.1,h.1,i.1,j.1⟩,j.2)
def cGw(s:ByteArray)(c:Cu):Gw×Cu:=
 let a:=Fo s c
 let b:=Bf s a.2
 let d:=Bf s b.2
 (⟨a.1,b.1,d.1⟩,d.2)
def cWh(s:ByteArray)(c:Cu):Wh×Cu:=
 let a:=Fo s c
 let b:=Bf s a.2
 let d:=Bf s b.2
 let e:=Bf s d.2
 let f:=Bf s e.2
 let g:=Bf s f.2
 (⟨a.1,⟨b.1,d.1,e.1,f.1,g.1⟩⟩,g.2)
def cPk(s:ByteArray)(c:Cu):Pk×Cu:=
 let a:=Fo s c
 let b:=Mf s a.2
 let d:=Tr 20 s (cMb s) b.2
 let e:=Tr 40 s (cSv s) d.2
 let f:=Tr 6 s (cGw s) e.2
 let g:=Tr 20 s (cWh s) f.2
 (⟨a.1,b.1,d.1,e.1,f.1,g.1⟩,g.2)
def Mb.small(m:Mb):Prop:=Ei m.n∧D4 m.st∧D4 m.lf∧D4 m.ad
def Sv.small(x:Sv):Prop:=Ei x.nd∧Ei x.id∧Ei x.nm∧Ei x.tg∧D4 x.ad∧D4 x.pt∧D4 x.vs
def Gw.small(g:Gw):Prop:=Ei g.c∧D4 g.a∧D4 g.v
def Wh.small(x:Wh):Prop:=Ei x.nd∧D4 x.pl.x∧D4 x.pl.y∧D4 x.pl.z∧D4 x.pl.h∧D4 x.pl.s
def Pk.small(p:Pk):Prop:=Ei p.fr∧(∀x∈p.ms,Mb.small x)∧(∀x∈p.sv,Sv.small x)∧(∀x∈p.gs,Gw.small x)∧∀x∈p.wh,Wh.small x
theorem Ajt(s:ByteArray):Rf s Mb.small mbR (cMb s):=
 Tc (B5 (Ms s) (B5 (C3 s) (B5 (C3 s) (B5 (C3 s) (Wu s))))) (fun p=>⟨p.1,p.2.1,p.2.2.1,p.2.2.2.1,p.2.2.2.2⟩)
  (fun x h=>⟨h.1,h.2.1,h.2.2.1,h.2.2.2,trivial⟩) (fun s=>by simp[mbR,Gy,Option.bind_assoc,Option.map_bind,Function.comp_def]) (fun c=>rfl)
theorem Ale(s:ByteArray):Rf s Sv.small svR (cSv s):=
 Tc (B5 (Ms s) (B5 (Ms s) (B5 (Ms s) (B5 (Ms s) (B5 (C3 s) (B5 (C3 s) (B5 (Wu s) (B5 (C3 s) (Wu s))))))))) (fun p=>⟨p.1,p.2.1,p.2.2.1,p.2.2.2.1,p.2.2.2.2.1,p.2.2.2.2.2.1,p.2.2.2.2.2.2.1,p.2.2.2.2.2.2.2.1,p.2.2.2.2.2.2.2.2⟩)
  (fun x h=>⟨h.1,h.2.1,h.2.2.1,h.2.2.2.1,h.2.2.2.2.1,h.2.2.2.2.2.1,trivial,h.2.2.2.2.2.2,trivial⟩) (fun s=>by simp[svR,Gy,Option.bind_assoc,Option.map_bind,Function.comp_def]) (fun c=>rfl)
theorem Ajx(s:ByteArray):Rf s Gw.small gwR (cGw s):=
 Tc (B5 (Ms s) (B5 (C3 s) (C3 s))) (fun p=>⟨p.1,p.2.1,p.2.2⟩) (fun x h=>h) (fun s=>by simp[gwR,Gy,Option.bind_assoc,Option.map_bind,Function.comp_def]) (fun c=>rfl)
theorem Alb(s:ByteArray):Rf s Wh.small whR (cWh s):=
 Tc (B5 (Ms s) (B5 (C3 s) (B5 (C3 s) (B5 (C3 s) (B5 (C3 s) (C3 s)))))) (fun p=>⟨p.1,⟨p.2.1,p.2.2.1,p.2.2.2.1,p.2.2.2.2.1,p.2.2.2.2.2⟩⟩) (fun x h=>h) (fun s=>by simp[whR,Gy,Option.bind_assoc,Option.map_bind,Function.comp_def]) (fun c=>rfl)
theorem Ai1(s:ByteArray):Rf s Pk.small pkR (cPk s):=
 Tc (B5 (Ms s) (B5 (Wu s) (B5 (Wv (Ajt s) 20 (by decide)) (B5 (Wv (Ale s) 40 (by decide)) (B5 (Wv (Ajx s) 6 (by decide)) (Wv (Alb s) 20 (by decide))))))) (fun p=>⟨p.1,p.2.1,p.2.2.1,p.2.2.2.1,p.2.2.2.2.1,p.2.2.2.2.2⟩)
  (fun x h=>⟨h.1,trivial,h.2⟩) (fun s=>by simp[pkR,Gy,Option.bind_assoc,Option.map_bind,Function.comp_def]) (fun c=>rfl)
def T8(err:Pk→Int)(z:Pk)(s:ByteArray):Pk×Int:=match pkR s with
 |none=>(z,1)
 |some p=>if p.2.size≠0∨err p.1≠0 then(z,1)else(p.1,0)
def We(err:Pk→Int)(z:Pk)(s:ByteArray):Pk×Int:=if(cPk s (0,false)).2.2=true∨(cPk s (0,false)).2.1≠s.size∨err (cPk s (0,false)).1≠0 then(z,1)else((cPk s (0,false)).1,0)
theorem Ais{err:Pk→Int}(hsm:∀p,err p=0→p.small)(z:Pk)(s:ByteArray):T8 err z s=We err z s:=by
 have h0:bA (s.data.toList.drop 0)=s:=by rw[List.drop_zero];exact Q3 s
 have hsz:s.size=s.data.toList.length:=by rw[Array.length_toList];rfl
 unfold T8 We;rcases hq:cPk s (0,false)with⟨p,a,b⟩
 cases b with
 |false=>
  obtain⟨k1,k2⟩:=(Ai1 s).fwd 0 p a (ZU _) hq;rw[h0]at k2;rw[k2];have hl:(bA (s.data.toList.drop a)).size=s.size-a:=by rw[Ax,List.length_drop,hsz]
  simp only[hl,Bool.false_eq_true,false_or];by_cases h1:s.size-a≠0∨err p≠0
  ·rw[if_pos h1,if_pos (h1.imp (fun h=>by omega) id)]
  ·rw[if_neg h1,if_neg (fun h=>h1 (h.imp (fun h=>by omega) id))]
 |true=>
  rw[if_pos (.inl rfl)];cases hr:pkR s with
  |none=>rfl
  |some q=>
   simp only;by_cases h1:q.2.size≠0∨err q.1≠0
   ·rw[if_pos h1]
   ·exfalso;have h2:err q.1=0:=Classical.byContradiction fun h=>h1 (.inr h);obtain⟨a',_,g2,_⟩:=(Ai1 s).bwd 0 q.1 q.2 (ZU _) (by rw[h0];exact hr) (hsm _ h2);rw[hq]at g2;cases g2
end Pl
end
namespace Pl
open Classical in
noncomputable def Mn(l:List Mb):Int:=if 5<l.length then 2 else if Am Mb.err l≠0 then Am Mb.err l else if(l.map Mb.n).Nodup then 0 else 6
theorem Oe{l:List Mb}(h:5<l.length):Mn l=2:=by simp[Mn,h]
theorem N0{l:List Mb}(h:¬5<l.length)(h2:Am Mb.err l≠0):Mn l=Am Mb.err l:=by simp[Mn,h,h2]
theorem Vf{l:List Mb}(h:¬5<l.length)(h2:Am Mb.err l=0)(h4:¬(l.map Mb.n).Nodup):Mn l=6:=by simp only[Mn,h,h2,h4,if_false,ne_eq,not_true]
theorem Ub{l:List Mb}(h:¬5<l.length)(h2:Am Mb.err l=0)(h4:(l.map Mb.n).Nodup):Mn l=0:=by simp only[Mn,h,h2,h4,if_false,if_true,ne_eq,not_true]
noncomputable def Pk.cks(p:Pk):List Int:=[Ib p.ms,Im p.sv,Ih p.gs,I7 p.wh]
noncomputable def Pk.err(p:Pk):Int:=
 if lab p.fr.data.toList=false then 1 else if p.wo=false then(if p.sv.length+p.gs.length+p.wh.length=0 then Mn p.ms else 1)else Am (fun e=>e) p.cks
theorem Pk.err_form{p:Pk}(h:lab p.fr.data.toList=false):p.err=1:=if_pos h
theorem Pk.err_more{p:Pk}(h:lab p.fr.data.toList=true)(h2:p.wo=false)(h3:p.sv.length+p.gs.length+p.wh.length≠0):p.err=1:=by
 unfold Pk.err;rw[if_neg (by simp[h]),if_pos h2,if_neg h3]
theorem Pk.err_few{p:Pk}(h:lab p.fr.data.toList=true)(h2:p.wo=false)(h3:p.sv.length+p.gs.length+p.wh.length=0):p.err=Mn p.ms:=by
 unfold Pk.err;rw[if_neg (by simp[h]),if_pos h2,if_pos h3]
theorem Pk.err_all{p:Pk}(h:lab p.fr.data.toList=true)(h2:p.wo=true):p.err=Am (fun e=>e) p.cks:=by
 unfold Pk.err;rw[if_neg (by simp[h]),if_neg (by simp[h2])]
end Pl
theorem Ahg[Glob](c:Bool)(l:List Mb)(hl:l.length≤9223372036854775807)(hw:∀m∈l,m.ok):Fun Tryz.prog 26 [.c (.sl c (l.map Mb.row))] [.c (.v (.int .i64 (Mn l)))]:=by
 have hlm:(l.map Mb.row).length=l.length:=ZE ..;refine A9 U5 rfl ?_;(refine goI ?_;repeat (intro gg;refine goI ?_));(refine Ab (fun h=>?_) (fun h=>?_)<;>rw[h])
 ·have h1:5<l.length:=by have:=ZV h;omega
  (refine goI ?_;repeat (intro gg;refine goI ?_));rw[Oe h1];(exact⟨[],aI⟩)
 ·have h1:¬5<l.length:=by have:=ZW h;omega
  (refine goI ?_;repeat (intro gg;refine goI ?_));refine .inl (cX (V8 c l hl hw) ?_);(refine goI ?_;repeat (intro gg;refine goI ?_));(refine Ab (fun h2=>?_) (fun h2=>?_)<;>rw[h2])
  ·have h2':Am Mb.err l≠0:=by simpa using h2
   (refine goI ?_;repeat (intro gg;refine goI ?_));rw[N0 h1 h2'];(exact⟨[],aI⟩)
  ·have h2':Am Mb.err l=0:=by simpa using h2
   (refine goI ?_;repeat (intro gg;refine goI ?_))
   rename Nat=>g0
   (refine⟨[],none,{q:Nat×List (ByteArray×V)//q.1≤l.length∧O8 q.2 ((l.take q.1).map Mb.n)},[0,4,16,17],fun⟨⟨k,E⟩,hk,hE⟩=>[(18,.v (.int .i64 k))],[],fun⟨⟨k,E⟩,hk,hE⟩=>[(240,⟨g0,.q (Nm (Ah E)),0,[]⟩)],fun⟨⟨k,E⟩,hk,hE⟩=>l.length-k,trivial,fun _=>⟨trivial,fun _=>⟨⟨(0,[]),ZU _,O8.nil⟩,tI,Aj _ _,tI,Ai _ _⟩⟩,fun⟨⟨k,E⟩,hk,hE⟩=>?_⟩);(refine goI ?_;repeat (intro gg;refine goI ?_));(refine Ab (fun h3=>?_) (fun h3=>?_)<;>rw[h3])
   ·have hlt:k<l.length:=by have:=ZV h3;omega
    (refine goI ?_;repeat (intro gg;refine goI ?_));refine⟨k,_,rfl,Ap hlt,?_⟩;(refine goI ?_;repeat (intro gg;refine goI ?_));refine⟨_,_,rfl,De rfl,Vg _ _ _,?_⟩;(refine goI ?_;repeat (intro gg;refine goI ?_));have e:=Afz E l[k].n (.v (.bool true));have hE':O8 (put E l[k].n (.v (.bool true))) ((l.take (k+1)).map Mb.n):=by
     rw[XT,ZC hlt,ZI];exact hE.put _ _ (De rfl)
    (exact⟨none,trivial,fun gr=>⟨⟨(k+1,put E l[k].n (.v (.bool true))),by dsimp only;omega,hE'⟩,by show l.length-(k+1)<l.length-k;omega,tI,tI,⟨congrArg (fun x=>some (Ent.mk g0 (.q (Nm x)) 0 [])) e,trivial⟩,tI⟩⟩)
   ·have hge:¬k<l.length:=by have:=ZW h3;omega
    rw[List.take_of_length_le (by dsimp only;omega)]at hE;have hE:O8 E (l.map Mb.n):=hE;(refine goI ?_;repeat (intro gg;refine goI ?_))
    (try refine⟨_,rfl,?_⟩)
    (refine goI ?_;repeat (intro gg;refine goI ?_));rw[Ag4,ZE];have ha:=hE.all;have hle:=hE.le;rw[ZE]at ha hle;(refine Ab (fun h4=>?_) (fun h4=>?_)<;>rw[h4])
    ·have h4':E.length<l.length:=(by have:=ZV h4;omega);(refine goI ?_;repeat (intro gg;refine goI ?_));rw[Vf h1 h2' (fun q=>by have:=ha.2 q;omega)];(exact⟨[],aI⟩)
    ·have h4':¬E.length<l.length:=(by have:=ZW h4;omega);(refine goI ?_;repeat (intro gg;refine goI ?_));rw[Ub h1 h2' (ha.1 (by omega))];(exact⟨[],aI⟩)
theorem Mi[Glob](p:Pk)(h:p.ok):Fun Tryz.prog 10 [.c (.agg p.row)] [.c (.v (.int .i64 p.err))]:=by
 have l1:(p.sv.map Sv.row).length=p.sv.length:=ZE ..;have l2:(p.gs.map Gw.row).length=p.gs.length:=ZE ..;have l3:(p.wh.map Wh.row).length=p.wh.length:=ZE ..;have b1:=h.svl;have b2:=h.gsl;have b3:=h.whl;refine A9 Ry rfl ?_;(refine goI ?_;repeat (intro gg;refine goI ?_));refine .inl (cX (Ez p.fr h.fr) ?_);(refine goI ?_;repeat (intro gg;refine goI ?_));(refine Ab (fun h1=>?_) (fun h1=>?_)<;>rw[h1])
 ·rw[Pk.err_form (Ey h1)];(refine goI ?_;repeat (intro gg;refine goI ?_));(exact⟨[],aI⟩)
 ·have h1':=Eo h1;cases hwo:p.wo with
  |false=>
   (refine goI ?_;repeat (intro gg;refine goI ?_));(refine Ab (fun h2=>?_) (fun h2=>?_)<;>rw[h2])
   ·have h2':=ZV h2;rw[Pk.err_more h1' hwo (by omega)];(refine goI ?_;repeat (intro gg;refine goI ?_));(exact⟨[],aI⟩)
   ·have h2':=ZW h2;rw[Pk.err_few h1' hwo (by omega)];(refine goI ?_;repeat (intro gg;refine goI ?_));refine .inl (cX (Ahg false p.ms h.msl h.ms) ?_);(refine goI ?_;repeat (intro gg;refine goI ?_));(exact⟨[],aI⟩)
  |true=>
   rw[Pk.err_all h1' hwo];(refine goI ?_;repeat (intro gg;refine goI ?_));(refine⟨_,_,false,aI,Z8 p.ms h.msl h.ms,Ak,nI,?_⟩);(refine goI ?_;repeat (intro gg;refine goI ?_));(refine⟨_,_,false,aI,Aa0 p.sv (by omega) h.sv,Ak,nI,?_⟩);(refine goI ?_;repeat (intro gg;refine goI ?_));(refine⟨_,_,false,aI,Zo p.gs (by omega) h.gs,Ak,nI,?_⟩);(refine goI ?_;repeat (intro gg;refine goI ?_));(refine⟨_,_,false,aI,Aa4 false p.wh (by omega) h.wh,Ak,nI,?_⟩);(refine goI ?_;repeat (intro gg;refine goI ?_));(refine⟨[],none,{k:Nat//k≤4∧∀j,(h:j<p.cks.length)→j<k→p.cks[j]=0},[46,47],fun⟨k,hk,h0⟩=>[(48,.v (.int .i64 k))],[16,736],fun⟨k,hk,h0⟩=>[],fun⟨k,hk,h0⟩=>4-k,trivial,fun _=>⟨trivial,fun _=>⟨⟨0,ZU _,fun j _ h=>absurd h (Nat.not_lt_zero _)⟩,tI,Aj _ _,tI,Ai _ _⟩⟩,fun⟨k,hk,h0⟩=>?_⟩);(refine goI ?_;repeat (intro gg;refine goI ?_));have hk6:k≤4:=hk;(refine Ab (fun h3=>?_) (fun h3=>?_)<;>rw[h3])
   ·have hlt6:k<4:=by have h4:=ZV h3;have h5:(k:Int)<4:=h4;omega
    have hlt:k<p.cks.length:=hlt6;(refine goI ?_;repeat (intro gg;refine goI ?_));refine⟨k,_,rfl,Ap (f:=Aha) (l:=p.cks) hlt,?_⟩;(refine goI ?_;repeat (intro gg;refine goI ?_));refine⟨_,Ap (f:=Aha) (l:=p.cks) hlt,?_⟩;(refine goI ?_;repeat (intro gg;refine goI ?_));(refine Ab (fun h4=>?_) (fun h4=>?_)<;>rw[h4])
    ·have h4':p.cks[k]≠0:=by simpa using h4
     have e:Am (fun e=>e) p.cks=p.cks[k]:=Br (e:=fun e=>e) hlt h0 h4';(refine goI ?_;repeat (intro gg;refine goI ?_));rw[e];(exact⟨[],aI⟩)
    ·have h4':p.cks[k]=0:=by simpa using h4
     (refine goI ?_;repeat (intro gg;refine goI ?_));(exact⟨none,trivial,fun _=>⟨⟨k+1,by omega,up1 (p:=fun j h=>p.cks[j]=0) h0 (fun _=>h4')⟩,by show 4-(k+1)<4-k;omega,tI,tI,tI,tI⟩⟩)
   ·have hge:¬k<4:=by have h4:=ZW h3;have h5:¬(k:Int)<4:=h4;omega
    have hz:Am (fun e=>e) p.cks=0:=Bc (e:=fun e=>e) fun i hi=>h0 i hi (by have h6:i<4:=hi;omega);(refine goI ?_;repeat (intro gg;refine goI ?_));rw[hz];(exact⟨[],aI⟩)
end Go.Proofs.YteflnbjmjcbmmaaGreatDoor
