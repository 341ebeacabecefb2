/- Texts of this claim, joined. -/
import Derived.Test.YtbnocibpoghfhaaGreatDoorWAbsS
import Derived.WalkKit
import Derived.Defers
import Derived.Recover
import Derived.Laws.Pointers
import Derived.Test.YtbnocibpoghfhaaGreatDoorZa
import Derived.Test.YtbnocibpoghfhaaGreatDoorZb
set_option linter.unusedSimpArgs false
set_option linter.unusedVariables false
namespace Go.Proofs.YtbnocibpoghfhaaGreatDoor
open Go Go.RowKit Pl
theorem Aez{P Q:Prop}(h:P)(k:P→Q):Q:=k h
namespace Pl
def wIn(n a b:Int):Bool:=bif decide (a≤n)then decide (n≤b)else false
def Fk(t:Int):Bool:=bif (t==1)then true else bif (t==16)then true else(t==33)
def Asz(l:List Int)(x:Int):Bool:=l.any fun w=>x==w
theorem Atx(t:Int):Asz [1,16,33] t=Fk t:=by
 unfold Asz Fk;simp only[List.any_cons,List.any_nil,Bool.or_false];cases (t==1)<;>cases (t==16)<;>rfl
def Rr.un(r:Rr):Bool:=bif (bif (r.ty==1)then true else(r.ad==0))then(bif (bif (r.ty==16)then true else em r.tx)then(bif (r.ty==33)then true else bif (r.pt==0)then em r.tg else false)else false)else false
def Cu(r:Rr):Int:=if Ao r.nm≠0 then Ao r.nm else bif !Fk r.ty then 7 else bif !wIn r.ls 0 2147483647 then 3 else bif !r.un then 1 else bif !wIn r.ad 0 4294967295 then 3 else bif !wIn r.pt 0 65535 then 3 else if 200<r.tx.size then 2 else Ao r.tg
end Pl
theorem Iw(n a b:Int):Fun Tryz.prog 63 [.c (.v (.int .i64 n)),.c (.v (.int .i64 a)),.c (.v (.int .i64 b))] [.c (.v (.bool (wIn n a b)))]:=by
 refine Ar Abw rfl ?_;refine G0 ?_;(refine Aa (fun h=>?_) (fun h=>?_)<;>rw[h])
 ·refine G0 ?_;rw[show wIn n a b=decide (n≤b)by unfold wIn;rw[show decide (a≤n)=true from h];rfl];(exact⟨[],aI⟩)
 ·refine G0 ?_;rw[show wIn n a b=false by unfold wIn;rw[show decide (a≤n)=false from h];rfl];(exact⟨[],aI⟩)
theorem Akf(cl:Bool)(l:List Int)(v:Int)(hl:l.length≤9223372036854775807):
  Fun Tryz.prog 82 [.c (.sl cl (l.map Aqi)),.c (.v (.int .i64 v))] [.c (.v (.int .i64 (at_ (fun w=>v==w) l)))]:=by
 refine Ar Nh rfl ?_;refine G0 ?_;rw[ZE];(refine⟨[],none,{k:Nat//k≤l.length∧∀j,(h:j<l.length)→j<k→(v==l[j])=false},[0,1,7],fun⟨k,hk,h0⟩=>[(8,.v (.int .i64 k))],[],fun⟨k,hk,h0⟩=>[],fun⟨k,hk,h0⟩=>l.length-k,trivial,fun _=>⟨trivial,fun _=>⟨⟨0,by omega,fun j _ h=>by omega⟩,tI,Af _ _,tI,Ae _ _⟩⟩,fun⟨k,hk,h0⟩=>?_⟩);refine G0 ?_;(refine Aa (fun h=>?_) (fun h=>?_)<;>rw[h])
 ·have hlt:k<l.length:=(by have:=ZV h;omega);refine G0 ?_;refine⟨k,_,rfl,Ad hlt,?_⟩;refine G0 ?_;(refine Aa (fun h2=>?_) (fun h2=>?_)<;>rw[h2])
  ·refine G0 ?_;rw[Vq (p:=fun w=>v==w) hlt h0 h2];(exact⟨[],aI⟩)
  ·refine G0 ?_;(exact⟨none,trivial,fun _=>⟨⟨k+1,by omega,up1 (p:=fun j h=>(v==l[j])=false) h0 (fun _=>h2)⟩,by show l.length-(k+1)<l.length-k;omega,tI,tI,tI,tI⟩⟩)
 ·have hge:¬k<l.length:=(by have:=ZW h;omega);refine G0 ?_;rw[Ad9 (p:=fun w=>v==w) (l:=l) (fun i hi=>h0 i hi (by omega))];(exact⟨[],aI⟩)
theorem Ac3(cl:Bool)(l:List Int)(v:Int)(hl:l.length≤9223372036854775807):
  Fun Tryz.prog 44 [.c (.sl cl (l.map Aqi)),.c (.v (.int .i64 v))] [.c (.v (.bool (Asz l v)))]:=by
 refine Ar Kt rfl ?_;refine G0 ?_;(refine .inl ⟨_,_,false,[],aI,Akf cl l v hl,Ab,nI,?_⟩);refine G1 ?_;intro gg;rw[Ajo];(exact⟨[],aI⟩)
theorem Te(t:Int):Fun Tryz.prog 19 [.c (.v (.int .i64 t))] [.c (.v (.bool (Fk t)))]:=by
 have hC:=Ac3 false [1,16,33] t (by simp);rw[Atx]at hC;refine Ar Ace rfl ?_;refine G1 ?_;intro gg;(refine .inl ⟨_,_,true,[],aI,hC,(fun _=>fI),nI,?_⟩);refine G1 ?_;intro gg;(exact⟨[],aI⟩)
theorem Al2(r:Rr):Fun Tryz.prog 108 [.c (.agg r.row)] [.c (.v (.bool r.un))]:=by
 refine Ar Acd rfl ?_;refine G1 ?_;intro gg
 (repeat' (refine Aa (fun h=>?_) (fun h=>?_)<;>(rw[h];refine G0 ?_)))
 all_goals first
  |((refine Aez (P:=r.un=true) ?_ (fun e=>?_);(focus (simp only[*,cond_true,cond_false,Rr.un,em];done));rw[e]);(exact⟨[],aI⟩))
  |((refine Aez (P:=r.un=false) ?_ (fun e=>?_);(focus (simp only[*,cond_true,cond_false,Rr.un,em];done));rw[e]);(exact⟨[],aI⟩))
  |((refine Aez (P:=r.un=em r.tg) ?_ (fun e=>?_);(focus (simp only[*,cond_true,cond_false,Rr.un,em];done));rw[e]);(exact⟨[],aI⟩))
theorem Yp(r:Rr)(h1:r.nm.size≤1000000000000)(h2:r.tx.size≤1000000000000)(h3:r.tg.size≤1000000000000):Fun Tryz.prog 70 [.c (.agg r.row)] [.c (.v (.int .i64 (Cu r)))]:=by
 refine Ar Tf rfl ?_;refine G1 ?_;intro gg;(refine .inl ⟨_,_,false,[],aI,N9 r.nm h1,Ab,nI,?_⟩);refine G1 ?_;intro gg;refine Aa (fun k0=>?_) (fun k0=>?_)<;>rw[k0]
 ·refine G0 ?_;rw[show Cu r=Ao r.nm from if_pos (by simpa using k0)];(exact⟨[],aI⟩)
 ·have e0:Cu r=_:=if_neg (by simpa using k0);refine G0 ?_;(refine .inl ⟨_,_,false,[],aI,Te r.ty,Ab,nI,?_⟩);refine G1 ?_;intro gg;refine Aa (fun k1=>?_) (fun k1=>?_)<;>rw[k1]<;>rw[k1]at e0
  ·refine G0 ?_;rw[e0];(exact⟨[],aI⟩)
  ·refine G0 ?_;(refine .inl ⟨_,_,false,[],aI,Iw r.ls 0 2147483647,Ab,nI,?_⟩);refine G1 ?_;intro gg;refine Aa (fun k2=>?_) (fun k2=>?_)<;>rw[k2]<;>rw[k2]at e0
   ·refine G0 ?_;rw[e0];(exact⟨[],aI⟩)
   ·refine G0 ?_;(refine .inl ⟨_,_,false,[],aI,Al2 r,Ab,nI,?_⟩);refine G1 ?_;intro gg;refine Aa (fun k3=>?_) (fun k3=>?_)<;>rw[k3]<;>rw[k3]at e0
    ·refine G0 ?_;rw[e0];(exact⟨[],aI⟩)
    ·refine G0 ?_;(refine .inl ⟨_,_,false,[],aI,Iw r.ad 0 4294967295,Ab,nI,?_⟩);refine G1 ?_;intro gg;refine Aa (fun k4=>?_) (fun k4=>?_)<;>rw[k4]<;>rw[k4]at e0
     ·refine G0 ?_;rw[e0];(exact⟨[],aI⟩)
     ·refine G0 ?_;(refine .inl ⟨_,_,false,[],aI,Iw r.pt 0 65535,Ab,nI,?_⟩);refine G1 ?_;intro gg;refine Aa (fun k5=>?_) (fun k5=>?_)<;>rw[k5]<;>rw[k5]at e0
      ·refine G0 ?_;rw[e0];(exact⟨[],aI⟩)
      ·refine G0 ?_;refine Aa (fun k6=>?_) (fun k6=>?_)<;>rw[k6]
       ·have k7:200<r.tx.size:=by have:=ZV k6;omega
        refine G0 ?_;rw[e0];simp only[cond_false,if_pos k7];(exact⟨[],aI⟩)
       ·have k7:¬200<r.tx.size:=by have:=ZW k6;omega
        refine G0 ?_;(refine .inl ⟨_,_,false,[],aI,N9 r.tg h3,Ab,nI,?_⟩);refine G1 ?_;intro gg;rw[e0];simp only[cond_false,if_neg k7];(exact⟨[],aI⟩)
theorem T3{t:Int}(h:(!Fk t)=false):t=1∨t=16∨t=33:=by
 unfold Fk at h;cases h1:(t==1)with
 |true=>exact .inl (by simpa using h1)
 |false=>
  cases h2:(t==16)with
  |true=>exact .inr (.inl (by simpa using h2))
  |false=>rw[h1,h2]at h;exact .inr (.inr (by simpa using h))
namespace Pl
def Cp(l:List Int):Int:=l.foldr (fun e k=>if e≠0 then e else k) 0
def A4(m:Ms):Int:=bif !wIn m.id 0 65535 then 3 else bif !wIn m.co 0 15 then 3 else if 20<m.rs.length then 2 else if Ao m.qn≠0 then Ao m.qn else bif !Fk m.qt then 7 else Cp (m.rs.map Cu)
structure Ms.Sized(m:Ms):Prop where
 qn:m.qn.size≤1000000000000
 rs:∀r∈m.rs,r.nm.size≤1000000000000∧r.tx.size≤1000000000000∧r.tg.size≤1000000000000
end Pl
theorem M9{l:List Int}{k:Nat}(hk:k<l.length)(h0:∀j,(h:j<l.length)→j<k→l[j]=0)(h:l[k]≠0):Cp l=l[k]:=by
 induction l generalizing k with
 |nil=>simp at hk
 |cons e l ih=>
  cases k with
  |zero=>exact if_pos h
  |succ k=>
   have e0:e=0:=h0 0 (by simp) (by omega);subst e0;exact ih (by simpa using hk) (fun j hj hjk=>h0 (j+1) (by simpa using hj) (by omega)) h
theorem I1{l:List Int}(h0:∀j,(h:j<l.length)→l[j]=0):Cp l=0:=by
 induction l with
 |nil=>rfl
 |cons e l ih=>
  have e0:e=0:=h0 0 (by simp);subst e0;exact ih fun j hj=>h0 (j+1) (by simpa using hj)
set_option maxHeartbeats 1000000 in
theorem Vp(m:Ms)(hm:m.Sized)(hl:m.rs.length≤9223372036854775807):Fun Tryz.prog 35 [.c (.agg m.row)] [.c (.v (.int .i64 (A4 m)))]:=by
 obtain⟨id,an,ct,co,qn,qt,rs⟩:=m;obtain⟨s1,s2⟩:=hm;simp only at s1 s2 hl;refine Ar Af9 rfl ?_;refine G1 ?_;intro gg;(refine .inl ⟨_,_,false,[],aI,Iw id 0 65535,Ab,nI,?_⟩);refine G1 ?_;intro gg;have e0:A4 ⟨id,an,ct,co,qn,qt,rs⟩=bif !wIn id 0 65535 then 3 else bif !wIn co 0 15 then 3 else if 20<rs.length then 2 else if Ao qn≠0 then Ao qn else bif !Fk qt then 7 else Cp (rs.map Cu):=rfl
 refine Aa (fun k0=>?_) (fun k0=>?_)<;>rw[k0]<;>rw[k0]at e0
 ·refine G0 ?_;rw[e0];(exact⟨[],aI⟩)
 ·refine G0 ?_;(refine .inl ⟨_,_,false,[],aI,Iw co 0 15,Ab,nI,?_⟩);refine G1 ?_;intro gg;refine Aa (fun k1=>?_) (fun k1=>?_)<;>rw[k1]<;>rw[k1]at e0
  ·refine G0 ?_;rw[e0];(exact⟨[],aI⟩)
  ·simp only[cond_false]at e0;refine G0 ?_;rw[ZE];refine Aa (fun k2=>?_) (fun k2=>?_)<;>rw[k2]
   ·have k3:20<rs.length:=by have:=ZV (show decide ((20:Int)<(rs.length:Int))=true from k2);omega
    refine G0 ?_;rw[e0,if_pos k3];(exact⟨[],aI⟩)
   ·have k3:¬20<rs.length:=by have:=ZW (show decide ((20:Int)<(rs.length:Int))=false from k2);omega
    rw[if_neg k3]at e0;refine G0 ?_;(refine .inl ⟨_,_,false,[],aI,N9 qn s1,Ab,nI,?_⟩);refine G1 ?_;intro gg;refine Aa (fun k4=>?_) (fun k4=>?_)<;>rw[k4]
    ·refine G0 ?_;rw[e0,if_pos (by simpa using k4)];(exact⟨[],aI⟩)
    ·rw[if_neg (by simpa using k4)]at e0;refine G0 ?_;(refine .inl ⟨_,_,false,[],aI,Te qt,Ab,nI,?_⟩);refine G1 ?_;intro gg;refine Aa (fun k5=>?_) (fun k5=>?_)<;>rw[k5]<;>rw[k5]at e0
     ·refine G0 ?_;rw[e0];(exact⟨[],aI⟩)
     ·simp only[cond_false]at e0;refine G0 ?_;rw[ZE];(refine⟨[],none,{k:Nat//k≤rs.length∧∀j,(h:j<rs.length)→j<k→Cu rs[j]=0},[36,37],fun⟨k,hk,h0⟩=>[(38,.v (.int .i64 k))],[],fun⟨k,hk,h0⟩=>[],fun⟨k,hk,h0⟩=>rs.length-k,trivial,fun _=>⟨trivial,fun _=>⟨⟨0,by omega,fun j _ h=>by omega⟩,tI,Af _ _,tI,Ae _ _⟩⟩,fun⟨k,hk,h0⟩=>?_⟩);refine G0 ?_;refine Aa (fun k6=>?_) (fun k6=>?_)<;>rw[k6]
      ·have hlt:k<rs.length:=by have:=ZV (show decide ((k:Int)<(rs.length:Int))=true from k6);omega
       obtain⟨g1,g2,g3⟩:=s2 _ (ZK hlt);refine G0 ?_;refine⟨k,_,rfl,Ad hlt,?_⟩;refine G1 ?_;intro gg;(refine .inl ⟨_,_,false,[],aI,Yp rs[k] g1 g2 g3,Ab,nI,?_⟩);refine G1 ?_;intro gg;refine Aa (fun k7=>?_) (fun k7=>?_)<;>rw[k7]
       ·have hne:Cu rs[k]≠0:=by simpa using k7
        have e1:Cp (rs.map Cu)=Cu rs[k]:=by
         have:=M9 (l:=rs.map Cu) (k:=k) (by simpa using hlt) (fun j h hj=>by rw[XQ];exact h0 j (by simpa using h) hj) (by rw[XQ];exact hne);rw[this,XQ]
        refine G0 ?_;rw[e0,e1];(exact⟨[],aI⟩)
       ·refine G0 ?_;(exact⟨none,trivial,fun _=>⟨⟨k+1,by omega,up1 (p:=fun j h=>Cu rs[j]=0) h0 (fun _=>by simpa using k7)⟩,by show rs.length-(k+1)<rs.length-k;omega,tI,tI,tI,tI⟩⟩)
      ·have hge:¬k<rs.length:=by have:=ZW (show decide ((k:Int)<(rs.length:Int))=false from k6);omega
       have e1:Cp (rs.map Cu)=0:=I1 fun j hj=>by rw[XQ];exact h0 j (by simpa using hj) (by simp at hj;omega)
       refine G0 ?_;rw[e0,e1];(exact⟨[],aI⟩)
namespace Pl
structure Kn where
 here:ByteArray
 l:List Sv
 ms:List Mb
 f:Pc
 wh:List Wh
def Kn.row(k:Kn):List V:=[.v (.string k.here),.sl false (k.l.map Sv.row),.sl false (k.ms.map Mb.row),.v (.int .i64 k.f.x),.v (.int .i64 k.f.y),.v (.int .i64 k.f.z),.v (.int .i64 k.f.h),.v (.int .i64 k.f.s),.sl false (k.wh.map Wh.row)]
structure Kn.In(k:Kn):Prop where
 here:k.here.size≤9223372036854775807
 ll:k.l.length≤9223372036854775807
 lo:∀x∈k.l,x.ok
 ml:k.ms.length≤9223372036854775807
 mo:∀x∈k.ms,x.ok
 wl:k.wh.length≤9223372036854775807
def Kn.err(k:Kn):Int:=bif !lab k.here.data.toList then 1 else if Ei k.l≠0 then Ei k.l else if F6 k.ms≠0 then F6 k.ms else if 20<k.wh.length then 2 else if k.f.err≠0 then k.f.err else Cp (k.wh.map fun w=>w.pl.err)
def Cc(ms:List Mb)(name:ByteArray):Bool:=bif hit (Mb.cf name) ms then(match ms[low (Mb.cf name) ms]? with
 |some m=>decide (3≤m.st)
 |none=>false)else false
def Kn.ask(k:Kn)(q:Qr)(t:Int)(name:ByteArray):List V:=[.v (.string q.sv),.v (.string q.tg),.v (.string q.nd),.v (.string q.ce),.v (.int .i64 t),.v (.string k.here),.sl false (k.l.map Sv.row),.sl false (k.ms.map Mb.row),.v (.int .i64 k.f.x),.v (.int .i64 k.f.y),.v (.int .i64 k.f.z),.v (.int .i64 k.f.h),.v (.int .i64 k.f.s),.sl false (k.wh.map Wh.row),.v (.string name)]
end Pl
theorem Adr(k:Kn)(h:k.In):Fun Tryz.prog 20 [.c (.v (.string k.here)),.c (.sl false (k.l.map Sv.row)),.c (.sl false (k.ms.map Mb.row)),.c (.agg k.f.row),.c (.sl false (k.wh.map Wh.row))] [.c (.v (.int .i64 k.err))]:=by
 obtain⟨here,l,ms,f,wh⟩:=k;obtain⟨g1,g2,g3,g4,g5,g6⟩:=h;simp only at g1 g2 g3 g4 g5 g6;have e0:Kn.err ⟨here,l,ms,f,wh⟩=bif !lab here.data.toList then 1 else if Ei l≠0 then Ei l else if F6 ms≠0 then F6 ms else if 20<wh.length then 2 else if f.err≠0 then f.err else Cp (wh.map fun w=>w.pl.err):=rfl
 refine Ar Yb rfl ?_;refine G1 ?_;intro gg;(refine .inl ⟨_,_,false,[],aI,El here g1,Ab,nI,?_⟩);refine G1 ?_;intro gg;refine Aa (fun k0=>?_) (fun k0=>?_)<;>rw[k0]<;>rw[k0]at e0
 ·refine G0 ?_;rw[e0];(exact⟨[],aI⟩)
 simp only[cond_false]at e0;refine G0 ?_;(refine .inl ⟨_,_,false,[],aI,Ajh l g2 g3,Ab,nI,?_⟩);refine G1 ?_;intro gg;refine Aa (fun k1=>?_) (fun k1=>?_)<;>rw[k1]
 ·refine G0 ?_;rw[e0,if_pos (by simpa using k1)];(exact⟨[],aI⟩)
 rw[if_neg (by simpa using k1)]at e0;refine G0 ?_;(refine .inl ⟨_,_,false,[],aI,Akb ms g4 g5,Ab,nI,?_⟩);refine G1 ?_;intro gg;refine Aa (fun k2=>?_) (fun k2=>?_)<;>rw[k2]
 ·refine G0 ?_;rw[e0,if_pos (by simpa using k2)];(exact⟨[],aI⟩)
 rw[if_neg (by simpa using k2)]at e0;refine G0 ?_;by_cases k3:20<wh.length
 ·rw[if_pos k3]at e0;rw[show decide ((20:Int)<((wh.map Wh.row).length:Int))=true from ZX (by rw[ZE];omega)];refine G0 ?_;rw[e0];(exact⟨[],aI⟩)
 rw[if_neg k3]at e0;rw[show decide ((20:Int)<((wh.map Wh.row).length:Int))=false from ZY (by rw[ZE];omega)];refine G0 ?_;(refine .inl ⟨_,_,false,[],aI,On f,Ab,nI,?_⟩);refine G1 ?_;intro gg;refine Aa (fun k4=>?_) (fun k4=>?_)<;>rw[k4]
 ·refine G0 ?_;rw[e0,if_pos (by simpa using k4)];(exact⟨[],aI⟩)
 rw[if_neg (by simpa using k4)]at e0;refine G0 ?_;(refine⟨[],none,{k:Nat//k≤wh.length∧∀j,(h:j<wh.length)→j<k→wh[j].pl.err=0},[38,39],fun⟨k,hk,h0⟩=>[(40,.v (.int .i64 k))],[],fun⟨k,hk,h0⟩=>[],fun⟨k,hk,h0⟩=>wh.length-k,trivial,fun _=>⟨trivial,fun _=>⟨⟨0,by omega,fun j _ h=>by omega⟩,tI,Af _ _,tI,Ae _ _⟩⟩,fun⟨k,hk,h0⟩=>?_⟩);refine G0 ?_;simp only[ZE];by_cases k6:k<wh.length
 ·rw[show decide ((k:Int)<(wh.length:Int))=true from ZX (by omega)];refine G0 ?_;refine⟨k,_,rfl,Ad k6,?_⟩;refine G1 ?_;intro gg;(refine .inl ⟨_,_,false,[],aI,On wh[k].pl,Ab,nI,?_⟩);refine G1 ?_;intro gg;refine Aa (fun k7=>?_) (fun k7=>?_)<;>rw[k7]
  ·have hne:wh[k].pl.err≠0:=by simpa using k7
   have e1:Cp (wh.map fun w=>w.pl.err)=wh[k].pl.err:=by
    have:=M9 (l:=wh.map fun w=>w.pl.err) (k:=k) (by simpa using k6) (fun j h hj=>by rw[XQ];exact h0 j (by simpa using h) hj) (by rw[XQ];exact hne);rw[this,XQ]
   refine G0 ?_;rw[e0,e1];(exact⟨[],aI⟩)
  ·refine G0 ?_;(exact⟨none,trivial,fun _=>⟨⟨k+1,by omega,up1 (p:=fun j h=>wh[j].pl.err=0) h0 (fun _=>by simpa using k7)⟩,by show wh.length-(k+1)<wh.length-k;omega,tI,tI,tI,tI⟩⟩)
 ·rw[show decide ((k:Int)<(wh.length:Int))=false from ZY (by omega)];have e1:Cp (wh.map fun w=>w.pl.err)=0:=I1 fun j hj=>by rw[XQ];exact h0 j (by simpa using hj) (by simp at hj;omega)
  refine G0 ?_;rw[e0,e1];(exact⟨[],aI⟩)
theorem Ahq(k:Kn)(q:Qr)(t:Int)(nm name:ByteArray)(hl:k.ms.length≤1000)(hm:Aj9 (Mb.cf name) k.ms):Fun Tryz.prog 51 [.c (.rptr (k.ask q t nm) 0),.c (.v (.string name))] [.c (.v (.bool (Cc k.ms name)))]:=by
 refine Ar Q2 rfl ?_;refine G0 ?_;(refine .inl ⟨_,_,false,[],aI,Ad0 false k.ms name hl hm,Ab,nI,?_⟩);refine G1 ?_;intro gg;have e0:Cc k.ms name=bif hit (Mb.cf name) k.ms then(match k.ms[low (Mb.cf name) k.ms]? with
  |some m=>decide (3≤m.st)
  |none=>false)else false:=rfl
 by_cases hh:hit (Mb.cf name) k.ms=true
 ·have hlt:=Mx hh;rw[hh]at e0 ⊢;rw[cond_true,ZC hlt]at e0;refine G0 ?_;refine⟨low (Mb.cf name) k.ms,_,rfl,Ad hlt,?_⟩;refine G0 ?_;rw[e0];(exact⟨[],aI⟩)
 ·rw[XE.2 hh]at e0 ⊢;rw[cond_false]at e0;refine G0 ?_;rw[e0];(exact⟨[],aI⟩)
namespace Pl
def C3(here:ByteArray)(t:Int)(nm:ByteArray)(s:Sv):Rr×Int:=
 if t=1 then(⟨nm,t,0,s.ad,⟨#[]⟩,0,⟨#[]⟩⟩,0)
 else if t=16 then(⟨nm,t,0,0,s.id,0,⟨#[]⟩⟩,0)
 else if t=33 then
  if(Ah ⟨⟨#[]⟩,⟨#[]⟩,s.nd,here⟩).2≠0 then(⟨nm,t,0,0,⟨#[]⟩,0,⟨#[]⟩⟩,(Ah ⟨⟨#[]⟩,⟨#[]⟩,s.nd,here⟩).2)
  else(⟨nm,t,0,0,⟨#[]⟩,s.pt,(Ah ⟨⟨#[]⟩,⟨#[]⟩,s.nd,here⟩).1⟩,0)
 else(⟨nm,t,0,0,⟨#[]⟩,0,⟨#[]⟩⟩,0)
def Jc(k:Kn)(q:Qr)(t:Int)(nm:ByteArray):List Rr×Int:=
 if hit (Mb.cf q.nd) k.ms=false∨Cc k.ms q.nd=true then([],3)
 else if t≠1 then([],0)
 else match k.ms[low (Mb.cf q.nd) k.ms]? with
  |some m=>([⟨nm,t,0,m.ad,⟨#[]⟩,0,⟨#[]⟩⟩],0)
  |none=>([],0)
end Pl
theorem V5(k:Kn)(q:Qr)(t:Int)(nm:ByteArray)(off:Nat):Cl (.rptr (k.ask q t nm) off):=Amc fun u hu=>by
 simp only[Kn.ask,XC,XD,or_false]at hu;rcases hu with rfl|rfl|rfl|rfl|rfl|rfl|rfl|rfl|rfl|rfl|rfl|rfl|rfl|rfl|rfl
 all_goals first
  |exact As rfl
  |exact He
theorem Ain(k:Kn)(q:Qr)(t:Int)(nm:ByteArray)(s:Sv)(hk:k.here.size≤9223372036854775807)(hs:s.nd.size≤9223372036854775807):Fun Tryz.prog 53 [.c (.rptr (k.ask q t nm) 0),.c (.agg s.row)] [.c (.agg (C3 k.here t nm s).1.row),.c (.v (.int .i64 (C3 k.here t nm s).2))]:=by
 have hz:(⟨#[]⟩:ByteArray).size≤9223372036854775807:=by decide
 have hP:=Ev ⟨⟨#[]⟩,⟨#[]⟩,s.nd,k.here⟩ ⟨hz,hz,hs,hk⟩;refine Ae5 Ox rfl ?_;(refine goI ?_;repeat (intro gg;refine goI ?_));by_cases t1:t=1
 ·rw[show(t==1)=true from ZR.2 t1,show C3 k.here t nm s=(⟨nm,t,0,s.ad,⟨#[]⟩,0,⟨#[]⟩⟩,0)from if_pos t1];refine G0 ?_;exact Cn (As rfl) (As rfl) (.cell1 rfl rfl rfl rfl rfl rfl (.tmp1 rfl .nil))
 rw[show(t==1)=false from ZG.2 t1];refine G0 ?_;by_cases t16:t=16
 ·rw[show(t==16)=true from ZR.2 t16,show C3 k.here t nm s=(⟨nm,t,0,0,s.id,0,⟨#[]⟩⟩,0)from(if_neg t1).trans (if_pos t16)];refine G0 ?_;exact Cn (As rfl) (As rfl) (.cell1 rfl rfl rfl rfl rfl rfl (.tmp1 rfl .nil))
 rw[show(t==16)=false from ZG.2 t16];refine G0 ?_;by_cases t33:t=33;rotate_left
 ·rw[show(t==33)=false from ZG.2 t33,show C3 k.here t nm s=(⟨nm,t,0,0,⟨#[]⟩,0,⟨#[]⟩⟩,0)from(if_neg t1).trans ((if_neg t16).trans (if_neg t33))];refine G0 ?_;exact Cn (As rfl) (As rfl) (.cell1 rfl rfl rfl rfl rfl rfl (.tmp1 rfl .nil))
 have e0:C3 k.here t nm s=if(Ah ⟨⟨#[]⟩,⟨#[]⟩,s.nd,k.here⟩).2≠0 then(⟨nm,t,0,0,⟨#[]⟩,0,⟨#[]⟩⟩,(Ah ⟨⟨#[]⟩,⟨#[]⟩,s.nd,k.here⟩).2)
  else(⟨nm,t,0,0,⟨#[]⟩,s.pt,(Ah ⟨⟨#[]⟩,⟨#[]⟩,s.nd,k.here⟩).1⟩,0):=(if_neg t1).trans ((if_neg t16).trans (if_pos t33))
 rw[show(t==33)=true from ZR.2 t33];generalize Ah ⟨⟨#[]⟩,⟨#[]⟩,s.nd,k.here⟩=P at *;refine G0 ?_;(refine .inl ⟨_,_,false,[],aI,hP,Ab,nI,?_⟩);refine G1 ?_;intro gg;by_cases c:P.2=0;rotate_left
 ·rw[if_pos c]at e0;rw[e0,show(P.2 !=0)=true from ZZ.2 c];refine G0 ?_;exact Cn (As rfl) (As rfl) (.cell1 rfl rfl rfl rfl rfl rfl (.tmp1 rfl .nil))
 ·rw[if_neg (by simpa using c)]at e0;rw[e0,c];refine G0 ?_;exact Cn (As rfl) (As rfl) (.cell1 rfl rfl rfl rfl rfl rfl (.tmp1 rfl .nil))
theorem Ane(k:Kn)(q:Qr)(t:Int)(nm:ByteArray)(hl:k.ms.length≤1000)(hm:Aj9 (Mb.cf q.nd) k.ms):Fun Tryz.prog 22 [.c (.rptr (k.ask q t nm) 0)] [.o 42 7 ((Jc k q t nm).1.map Rr.row),.c (.v (.int .i64 (Jc k q t nm).2)),.c (.v (.int .i64 0))]:=by
 refine Ar P7 rfl ?_;refine G0 ?_;(refine .inl ⟨_,_,false,[],aI,Ad0 false k.ms q.nd hl hm,Ab,nI,?_⟩);refine G1 ?_;intro gg;by_cases hh:hit (Mb.cf q.nd) k.ms=true;rotate_left
 ·have e0:Jc k q t nm=([],3):=if_pos (.inl (XE.2 hh));rw[e0,XE.2 hh];refine G0 ?_;(exact⟨[],aI⟩)
 have hlt:=Mx hh;rw[hh];refine G0 ?_;(refine .inl ⟨_,_,false,[],.same (V5 k q t nm 0) (.same (As rfl) (.nil _)),Ahq k q t nm q.nd hl hm,Ab,nI,?_⟩);refine G1 ?_;intro gg;by_cases ha:Cc k.ms q.nd=true
 ·have e0:Jc k q t nm=([],3):=if_pos (.inr ha);rw[e0,ha];refine G0 ?_;(exact⟨[],aI⟩)
 rw[XE.2 ha];have e0:Jc k q t nm=(if t≠1 then([],0)else match k.ms[low (Mb.cf q.nd) k.ms]? with
  |some m=>([⟨nm,t,0,m.ad,⟨#[]⟩,0,⟨#[]⟩⟩],0)
  |none=>([],0):List Rr×Int):=if_neg (fun z=>z.elim (fun z=>by rw[hh]at z;cases z) ha)
 refine G0 ?_;by_cases t1:t=1;rotate_left
 ·rw[if_pos t1]at e0;rw[e0,show(t !=1)=true from ZZ.2 t1];refine G0 ?_;(exact⟨[],aI⟩)
 rw[if_neg (by simpa using t1),ZC hlt]at e0;change Jc k q t nm=([⟨nm,t,0,(k.ms[low (Mb.cf q.nd) k.ms]).ad,⟨#[]⟩,0,⟨#[]⟩⟩],0)at e0;rw[e0,show(t !=1)=false from by simpa using t1];refine G0 ?_;refine⟨low (Mb.cf q.nd) k.ms,_,rfl,Ad hlt,?_⟩;refine G1 ?_;intro gg;(exact⟨[848],aI⟩)
namespace Pl
def Jx(k:Kn)(q:Qr)(t:Int)(nm:ByteArray)(F:List Sv):List Rr×Int×Int:=
 if Cp (F.map fun s=>(C3 k.here t nm s).2)≠0 then([],0,Cp (F.map fun s=>(C3 k.here t nm s).2))
 else if(C8 k.l q.sv ⟨#[]⟩).2.length=0 then([],3,0)
 else(F.map fun s=>(C3 k.here t nm s).1,0,0)
end Pl
set_option maxHeartbeats 1000000 in
theorem Aea(k:Kn)(q:Qr)(t:Int)(nm:ByteArray)(F:List Sv)(hk:k.In)(hq:q.ok)(hn:F.length≤1000)(hs:∀s∈F,s.nd.size≤9223372036854775807)(hF:Fun Tryz.prog 52 [.c (.rptr (k.ask q t nm) 0)] [.c (.sl false (F.map Sv.row))]):
  Fun Tryz.prog 23 [.c (.rptr (k.ask q t nm) 0)] [.o 42 7 ((Jx k q t nm F).1.map Rr.row),.c (.v (.int .i64 (Jx k q t nm F).2.1)),.c (.v (.int .i64 (Jx k q t nm F).2.2))]:=by
 refine Ar N7 rfl ?_;refine G0 ?_;(refine .inl ⟨_,_,false,[],.same (V5 k q t nm 0) (.nil _),hF,Ab,nI,?_⟩);refine G1 ?_;intro gg;(refine⟨[(5,496,42,7)],none,{p:Nat×Nat//p.1≤F.length∧∀j,(h:j<F.length)→j<p.1→(C3 k.here t nm F[j]).2=0},[0,13,14],fun⟨⟨i,g⟩,hi,h0⟩=>[(5,.own 496 g),(15,.v (.int .i64 (i:Int)))],[],fun⟨⟨i,g⟩,hi,h0⟩=>[(496,⟨g,.t 42,7,((F.take i).map fun s=>(C3 k.here t nm s).1).map Rr.row⟩)],fun⟨⟨i,g⟩,hi,h0⟩=>F.length-i,(by exact⟨rfl,by decide,(fun _ _ _ _ h=>by cases h),trivial⟩),fun gs=>⟨trivial,fun _=>⟨⟨(0,gs 496),ZU _,fun j _ h=>by omega⟩,tI,tI,tI,tI⟩⟩,fun⟨⟨i,g⟩,hi,h0⟩=>?_⟩);simp only at hi h0;have hli:(((F.take i).map fun s=>(C3 k.here t nm s).1).map Rr.row).length=i:=by rw[ZE,ZE,ZM];omega
 refine G0 ?_;simp only[ZE];by_cases c:i<F.length
 ·rw[show decide ((i:Int)<(F.length:Int))=true from ZX (by omega)];have hR:=Ain k q t nm F[i] hk.here (hs _ (ZK c));refine G0 ?_;refine⟨i,_,rfl,Ad c,?_⟩;refine G1 ?_;intro gg;(refine .inl ⟨_,_,false,[],.same (V5 k q t nm 0) (.same (As rfl) (.nil _)),hR,Ab,nI,?_⟩);(refine goI ?_;repeat (intro gg;refine goI ?_));by_cases e:(C3 k.here t nm F[i]).2=0;rotate_left
  ·have e1:Cp (F.map fun s=>(C3 k.here t nm s).2)=(C3 k.here t nm F[i]).2:=by
    have:=M9 (l:=F.map fun s=>(C3 k.here t nm s).2) (k:=i) (by simpa using c) (fun j h hj=>by rw[XQ];exact h0 j (by simpa using h) hj) (by rw[XQ];exact e);rw[this,XQ]
   have e0:Jx k q t nm F=([],0,(C3 k.here t nm F[i]).2):=by unfold Jx;rw[e1,if_pos e]
   rw[e0,show((C3 k.here t nm F[i]).2 !=0)=true from ZZ.2 e];refine G0 ?_;(exact⟨[],aI⟩)
  have ht:((F.take i).map fun s=>(C3 k.here t nm s).1).map Rr.row++[Rr.row (C3 k.here t nm F[i]).1]=((F.take (i+1)).map fun s=>(C3 k.here t nm s).1).map Rr.row:=by
   rw[XT,ZC c,ZI,ZI];rfl
  have hti:(F.take i).length=i:=by rw[ZM];omega
  rw[e];refine G1 ?_;intro gg;refine⟨lI,lI,?_⟩;refine G1 ?_;intro gg;(exact⟨none,trivial,fun gr=>⟨⟨(i+1,gg),by show i+1≤_;omega,up1 (p:=fun j h=>(C3 k.here t nm F[j]).2=0) h0 (fun _=>e)⟩,by show F.length-(i+1)<F.length-i;omega,tI,tI,⟨congrArg (fun r=>some (Ent.mk gg (.t 42) 7 r)) ht,trivial⟩,tI⟩⟩)
 ·rw[show decide ((i:Int)<(F.length:Int))=false from ZY (by omega)];have e1:Cp (F.map fun s=>(C3 k.here t nm s).2)=0:=I1 fun j hj=>by rw[XQ];exact h0 j (by simpa using hj) (by simp at hj;omega)
  obtain rfl:i=F.length:=by omega
  refine G0 ?_;(refine .inl ⟨_,_,false,[],aI,Apm k.l q.sv ⟨#[]⟩ hk.ll hk.lo hq.1 (by decide),Ab,nI,?_⟩);refine G1 ?_;intro gg;rw[ZE];have e2:Jx k q t nm F=(if(C8 k.l q.sv ⟨#[]⟩).2.length=0 then([],3,0)else(F.map fun s=>(C3 k.here t nm s).1,0,0):List Rr×Int×Int):=by unfold Jx;rw[e1];rfl
  by_cases f:(C8 k.l q.sv ⟨#[]⟩).2.length=0
  ·rw[if_pos f]at e2;rw[e2,f];refine G0 ?_;(exact⟨[],aI⟩)
  ·rw[if_neg f]at e2;rw[e2,show(((C8 k.l q.sv ⟨#[]⟩).2.length:Int)==0)=false from ZG.2 (by omega)];refine G0 ?_;rw[XF];(exact⟨[496],aI⟩)
namespace Pl
def Jt(k:Kn)(q:Qr)(t:Int):Int:=if q.err≠0 then q.err else if Fk t=false then 7 else k.err
def C7(k:Kn)(q:Qr)(t:Int)(F:List Sv):List Rr×Int×Int:=
 if Jt k q t≠0 then([],0,Jt k q t)
 else if(Ah q).2≠0 then([],0,(Ah q).2)
 else if em q.ce=false∧(q.ce.toList==k.here.toList)=false then([],3,0)
 else if em q.nd=false then((Jc k q t (Ah q).1).1,(Jc k q t (Ah q).1).2,0)
 else Jx k q t (Ah q).1 F
end Pl
theorem Yy(k:Kn)(q:Qr)(t:Int)(nm:ByteArray):∀u∈k.ask q t nm,Cl u:=fun u hu=>by
 simp only[Kn.ask,XC,XD,or_false]at hu;rcases hu with rfl|rfl|rfl|rfl|rfl|rfl|rfl|rfl|rfl|rfl|rfl|rfl|rfl|rfl|rfl
 all_goals first
  |exact As rfl
  |exact He
theorem At9{k:Kn}(h:k.err=0):k.ms.length≤20∧∀name,Aj9 (Mb.cf name) k.ms:=by
 have hc:F6 k.ms=0:=by
  unfold Kn.err at h;cases h0:(!lab k.here.data.toList)with
  |true=>rw[h0]at h;exact absurd h (by decide:(1:Int)≠0)
  |false=>
   rw[h0,cond_false]at h;by_cases h1:Ei k.l≠0
   ·rw[if_pos h1]at h;exact absurd h h1
   ·rw[if_neg h1]at h;by_cases h2:F6 k.ms≠0
    ·rw[if_pos h2]at h;exact absurd h h2
    ·exact Decidable.not_not.1 h2
 obtain⟨h1,_,h3⟩:=P4 hc;exact⟨h1,fun name=>(Mb.smono h3 name).mono⟩
set_option maxHeartbeats 1000000 in
theorem Ah4(k:Kn)(q:Qr)(t:Int)(F:List Sv)(hk:k.In)(hq:q.ok)(hn:F.length≤1000)(hs:∀s∈F,s.nd.size≤9223372036854775807)(hF:Jt k q t=0→Fun Tryz.prog 52 [.c (.rptr (k.ask q t (Ah q).1) 0)] [.c (.sl false (F.map Sv.row))]):
  Fun Tryz.prog 8 [.c (.agg q.row),.c (.v (.int .i64 t)),.c (.v (.string k.here)),.c (.sl false (k.l.map Sv.row)),.c (.sl false (k.ms.map Mb.row)),.c (.agg k.f.row),.c (.sl false (k.wh.map Wh.row))]
   [.o 42 7 ((C7 k q t F).1.map Rr.row),.c (.v (.int .i64 (C7 k q t F).2.1)),.c (.v (.int .i64 (C7 k q t F).2.2))]:=by
 have hE:Jt k q t=if q.err≠0 then q.err else if Fk t=false then 7 else k.err:=rfl
 have hA:C7 k q t F=(if Jt k q t≠0 then([],0,Jt k q t)
  else if(Ah q).2≠0 then([],0,(Ah q).2)
  else if em q.ce=false∧(q.ce.toList==k.here.toList)=false then([],3,0)
  else if em q.nd=false then((Jc k q t (Ah q).1).1,(Jc k q t (Ah q).1).2,0)
  else Jx k q t (Ah q).1 F:List Rr×Int×Int):=rfl
 refine Ar Vd rfl ?_;(refine goI ?_;repeat (intro gg;refine goI ?_));(refine .inl ⟨_,_,false,[],aI,Abb q hq,Ab,nI,?_⟩);refine G1 ?_;intro gg;by_cases c1:q.err=0;rotate_left
 ·rw[if_pos c1]at hE;rw[hE,if_pos c1]at hA;rw[hA,show(q.err==0)=false from ZG.2 c1];refine G0 ?_;rw[show(q.err==0)=false from ZG.2 c1];refine G0 ?_;rw[show(q.err !=0)=true from ZZ.2 c1];refine G0 ?_;(exact⟨[],aI⟩)
 rw[if_neg (by simpa using c1)]at hE;rw[show(q.err==0)=true from ZR.2 c1];refine G0 ?_;(refine .inl ⟨_,_,false,[],aI,Te t,Ab,nI,?_⟩);refine G1 ?_;intro gg;by_cases c2:Fk t=true;rotate_left
 ·rw[if_pos (XE.2 c2)]at hE;rw[hE,if_pos (by decide)]at hA;rw[hA,XE.2 c2];refine G0 ?_;(exact⟨[],aI⟩)
 rw[if_neg (by simpa using c2)]at hE;rw[c2];refine G0 ?_;rw[show(q.err==0)=true from ZR.2 c1];refine G0 ?_;(refine .inl ⟨_,_,false,[],aI,Adr k hk,Ab,nI,?_⟩);refine G1 ?_;intro gg;by_cases c3:k.err=0;rotate_left
 ·rw[hE,if_pos c3]at hA;rw[hA,show(k.err !=0)=true from ZZ.2 c3];refine G0 ?_;(exact⟨[],aI⟩)
 have hFF:=hF (hE.trans c3);rw[hE,if_neg (by simpa using c3)]at hA;rw[c3];have hP:=Ev q hq;refine G1 ?_;intro gg;revert gg;intro ga;(refine .inl ⟨_,_,false,[],aI,hP,Ab,nI,?_⟩);generalize Ah q=P at *;refine G1 ?_;intro gg;by_cases c4:P.2=0;rotate_left
 ·rw[if_pos c4]at hA;rw[hA,show(P.2 !=0)=true from ZZ.2 c4];refine G0 ?_;(exact⟨[],aI⟩)
 rw[if_neg (by simpa using c4)]at hA;rw[c4];have hEc:em q.ce=(q.ce.toList==(⟨#[]⟩:ByteArray).toList):=rfl;have hEn:em q.nd=(q.nd.toList==(⟨#[]⟩:ByteArray).toList):=rfl;have hms:=At9 c3;have hN:=Ane k q t P.1 (by omega) (hms.2 q.nd);have hSv:=Aea k q t P.1 F hk hq hn hs hFF;refine G0 ?_;by_cases d1:em q.ce=false∧(q.ce.toList==k.here.toList)=false
 ·rw[if_pos d1]at hA;rw[←hEc,d1.1];refine G0 ?_;rw[d1.2,hA];refine G0 ?_;(exact⟨[],aI⟩)
 rw[if_neg d1]at hA;have Bz:∀b,b=em q.nd→True:=fun _ _=>trivial;rw[←hEc];by_cases d2:em q.ce=true
 ·rw[d2];refine G0 ?_;rw[←hEn];by_cases d4:em q.nd=false
  ·rw[if_pos d4]at hA;rw[d4,hA];refine G0 ?_;(refine .inl ⟨_,_,true,[],.borp rfl rfl rfl (Yy k q t P.1) (by decide) (.nil _),hN,(fun _=>fI),nI,?_⟩);refine G1 ?_;intro gg;(exact⟨[1184],aI⟩)
  rw[if_neg d4]at hA;rw[show em q.nd=true from by simpa using d4,hA];refine G0 ?_;(refine .inl ⟨_,_,true,[],.borp rfl rfl rfl (Yy k q t P.1) (by decide) (.nil _),hSv,(fun _=>fI),nI,?_⟩);refine G1 ?_;intro gg;(exact⟨[1264],aI⟩)
 ·have d3:(q.ce.toList==k.here.toList)=true:=by
   rw[XE.2 d2]at d1;simpa using d1
  rw[XE.2 d2];refine G0 ?_;rw[d3];refine G0 ?_;rw[←hEn];by_cases d4:em q.nd=false
  ·rw[if_pos d4]at hA;rw[d4,hA];refine G0 ?_;(refine .inl ⟨_,_,true,[],.borp rfl rfl rfl (Yy k q t P.1) (by decide) (.nil _),hN,(fun _=>fI),nI,?_⟩);refine G1 ?_;intro gg;(exact⟨[1184],aI⟩)
  rw[if_neg d4]at hA;rw[show em q.nd=true from by simpa using d4,hA];refine G0 ?_;(refine .inl ⟨_,_,true,[],.borp rfl rfl rfl (Yy k q t P.1) (by decide) (.nil _),hSv,(fun _=>fI),nI,?_⟩);refine G1 ?_;intro gg;(exact⟨[1264],aI⟩)
namespace Pl
def Cr(s:ByteArray)(a:Nat):Option (Nat×Nat):=(s[a]?).map fun c=>(c.toNat,a+1)
def Bt(s:ByteArray)(a:Nat):Option (Nat×Nat):=(Cr s a).bind fun p=>(Cr s p.2).bind fun q=>some (p.1*256+q.1,q.2)
def Gp(s:ByteArray)(a:Nat):Option (Nat×Nat):=(Bt s a).bind fun p=>(Bt s p.2).bind fun q=>some (p.1*65536+q.1,q.2)
def Fo(s:ByteArray)(a n:Nat):Option (ByteArray×Nat):=if a+n≤s.size then some (s.extract a (a+n),a+n)else none
def F8(c:UInt8):UInt8:=if 65≤c.toNat∧c.toNat≤90 then c+32 else c
def C6(s:ByteArray):ByteArray:=⟨(s.data.toList.map F8).toArray⟩
def nameR(s:ByteArray):Nat→Nat→List ByteArray→Option Nat→Nat→Option (List ByteArray×Nat)
 |0,_,_,_,_=>none
 |f+1,a,l,e,fr=>
  if l.length≤8 then
   (Cr s a).bind fun p=>
    if p.1=0 then some (l,e.getD p.2)
    else if 192≤p.1 then(Cr s p.2).bind fun q=>
     if p.1%64*256+q.1<fr then nameR s f (p.1%64*256+q.1) l (some (e.getD q.2)) (p.1%64*256+q.1)else none
    else(Fo s p.2 p.1).bind fun q=>if lab (C6 q.1).data.toList=true then nameR s f q.2 (l++[C6 q.1]) e fr else none
  else none
def Eq(s:ByteArray)(a:Nat):Option (ByteArray×Nat):=(nameR s (a+10) a [] none a).map fun p=>(Df ⟨#[46]⟩ p.1,p.2)
def Il(s:ByteArray)(t a:Nat):Option ((Nat×ByteArray×Nat×ByteArray)×Nat):=
 if t=1 then(Gp s a).bind fun p=>some ((p.1,⟨#[]⟩,0,⟨#[]⟩),p.2)
 else if t=16 then(Cr s a).bind fun p=>(Fo s p.2 p.1).bind fun q=>some ((0,q.1,0,⟨#[]⟩),q.2)
 else if t=33 then(Bt s a).bind fun p=>if p.1=0 then(Bt s p.2).bind fun q=>if q.1=0 then(Bt s q.2).bind fun r=>(Eq s r.2).bind fun n=>some ((0,⟨#[]⟩,r.1,n.1),n.2)else none else none
 else none
def Pp(s:ByteArray)(a:Nat):Option (Rr×Nat):=
 (Eq s a).bind fun n=>(Bt s n.2).bind fun t=>(Bt s t.2).bind fun c=>if c.1=1 then
  (Gp s c.2).bind fun ls=>(Bt s ls.2).bind fun k=>if k.2+k.1≤s.size then
   (Il s t.1 k.2).bind fun b=>if b.2=k.2+k.1 then some (⟨n.1,t.1,ls.1,b.1.1,b.1.2.1,b.1.2.2.1,b.1.2.2.2⟩,b.2)else none
  else none
 else none
def Fg(s:ByteArray):Nat→Nat→Option (List Rr×Nat)
 |0,a=>some ([],a)
 |k+1,a=>(Pp s a).bind fun r=>(Fg s k r.2).bind fun l=>some (r.1::l.1,l.2)
def Af0(n:Nat):Bool:=n==0||n==2||n==128||n==130
def Od(s:ByteArray):Option Ms:=
 (Bt s 0).bind fun i=>(Cr s i.2).bind fun a=>(Cr s a.2).bind fun b=>if(Af0 a.1&&decide (b.1<16))=true then
  (Bt s b.2).bind fun c=>if c.1=1 then
   (Bt s c.2).bind fun k=>if k.1≤20 then(Bt s k.2).bind fun z=>if z.1=0 then(Bt s z.2).bind fun y=>if y.1=0 then
    (Eq s y.2).bind fun n=>(Bt s n.2).bind fun t=>(Bt s t.2).bind fun d=>if d.1=1 then
     (Fg s k.1 d.2).bind fun l=>if l.2=s.size then some ⟨i.1,decide (128≤a.1),decide (a.1%4≥2),b.1,n.1,t.1,l.1⟩else none
    else none
   else none else none else none
  else none
 else none
end Pl
abbrev rdT:TypeId:=81
def rdZ(s:ByteArray)(x:Int):List Par:=[.c (.v (.string s)),.c (.v (.int .i64 x))]
def rdC(s:ByteArray)(a:Nat):List Par:=rdZ s (a:Int)
def Hl:Value:=.iface 77 (.agg #[])
theorem Bi(row:List V){b:Bool}(h:b=true):Fun Tryz.prog 77 [.c (.rptr row 0),.c (.v (.bool b))] []:=by
 subst h;refine Ar Le rfl ?_;refine G0 ?_;(exact⟨[],aI⟩)
theorem Cj(row:List V){b:Bool}(h:b=false):Hi Tryz.prog 77 [.p (.c (.rptr row 0)),.p (.c (.v (.bool b)))] Hl:=by
 subst h;refine Nt Le rfl (Ka rfl) ?_;refine G0 ?_;rfl
theorem Aat{s:ByteArray}{a v a':Nat}(h:Cr s a=some (v,a')):∃c,s[a]? =some c∧v=c.toNat∧a'=a+1∧a<s.size:=by
 unfold Cr at h;obtain⟨c,h1,h2⟩:=Option.map_eq_some_iff.1 h;cases h2;refine⟨c,h1,rfl,rfl,?_⟩;exact(getElem?_eq_some_iff.1 h1).1
theorem Ajj{s:ByteArray}{a:Nat}(h:Cr s a=none):¬a<s.size:=by
 unfold Cr at h;intro q;rw[Option.map_eq_none_iff]at h;simp[q]at h
theorem Em{s:ByteArray}{a v a':Nat}(h:Cr s a=some (v,a'))(hs:s.size≤1000000):H3 Tryz.prog 76 [.mn rdT (rdC s a) (rdC s a')] [.p (.c (.v (.int .i64 (v:Int))))]:=by
 obtain⟨c,h1,rfl,rfl,hlt⟩:=Aat h;rw[show rdC s (a+1)=rdZ s ((a:Int)+1)from rfl];have hc:c.toNat<256:=c.toNat_lt;refine Jr Li rfl rfl (Ka rfl) ?_;refine G0 ?_;(refine .inl ⟨_,_,true,[],aI,Bi _ (ZX (by omega)),(fun _=>fI),nI,?_⟩);refine G1 ?_;intro gg;refine⟨a,c,by omega,h1,?_⟩;refine G0 ?_;(exact⟨0::([]++[]),Ez (by first|exact As rfl|assumption) (Jf (gone:=[]) (gone1:=[]) rfl aI (by decide) (by decide) (by decide) (.nil _))⟩)
theorem Kr{s:ByteArray}{a:Nat}{R:List Par}(h:Cr s a=none)(hs:s.size≤1000000):Hi Tryz.prog 76 [.mn rdT (rdC s a) R] Hl:=by
 have hlt:=Ajj h;refine Nt Li rfl (Ka rfl) ?_;refine G0 ?_;(exact .inr (.inr ⟨_,true,[],_,aM,Cj _ (ZY (by omega)),rfl⟩))
theorem C4{s:ByteArray}{a v a':Nat}(h:Cr s a=some (v,a')):v<256∧a'=a+1∧a'≤s.size:=by
 obtain⟨c,_,rfl,rfl,h4⟩:=Aat h;exact⟨c.toNat_lt,rfl,h4⟩
theorem orP{x y:Nat}(k:Nat)(hy:y<2^k)(hx:x*2^k+y<9223372036854775808):IntKind.i64.wrap ((BitVec.ofInt IntKind.i64.bits ((x*2^k:Nat):Int)|||BitVec.ofInt IntKind.i64.bits (y:Int)).toNat)=((x*2^k+y:Nat):Int):=by
 have e1:(BitVec.ofInt IntKind.i64.bits ((x*2^k:Nat):Int)|||BitVec.ofInt IntKind.i64.bits (y:Int)).toNat=x*2^k+y:=by
  show(BitVec.ofInt 64 ((x*2^k:Nat):Int)|||BitVec.ofInt 64 (y:Int)).toNat=_;rw[BitVec.toNat_or,BitVec.ofInt_natCast,BitVec.ofInt_natCast,BitVec.toNat_ofNat,BitVec.toNat_ofNat,Nat.mod_eq_of_lt (by omega),Nat.mod_eq_of_lt (by omega),Nat.mul_comm,←Nat.two_pow_add_eq_or_of_lt hy]
 rw[e1,A6 (by omega) (by omega)]
theorem Arc{x:Nat}(h:x<256):IntKind.i64.wrap ((x:Int)*2^min (Int.toNat 8) IntKind.i64.bits)=((x*2^8:Nat):Int):=by
 show IntKind.i64.wrap ((x:Int)*256)=_;rw[A6 (by omega) (by omega)];omega
theorem Avh{x:Nat}(h:x<65536):IntKind.i64.wrap ((x:Int)*2^min (Int.toNat 16) IntKind.i64.bits)=((x*2^16:Nat):Int):=by
 show IntKind.i64.wrap ((x:Int)*65536)=_;rw[A6 (by omega) (by omega)];omega
theorem or8{x y:Nat}(hx:x<256)(hy:y<256):IntKind.i64.wrap ((BitVec.ofInt IntKind.i64.bits ((x*2^8:Nat):Int)|||BitVec.ofInt IntKind.i64.bits (y:Int)).toNat)=((x*256+y:Nat):Int):=orP 8 (by omega) (by omega)
theorem Azj{x y:Nat}(hx:x<65536)(hy:y<65536):IntKind.i64.wrap ((BitVec.ofInt IntKind.i64.bits ((x*2^16:Nat):Int)|||BitVec.ofInt IntKind.i64.bits (y:Int)).toNat)=((x*65536+y:Nat):Int):=orP 16 (by omega) (by omega)
theorem Bl{s:ByteArray}{a a':Nat}{v:Nat}(h:Bt s a=some (v,a'))(hs:s.size≤1000000):H3 Tryz.prog 75 [.mn rdT (rdC s a) (rdC s a')] [.p (.c (.v (.int .i64 (v:Int))))]:=by
 unfold Bt at h;refine Jr L6 rfl rfl (Ka rfl) ?_;refine G0 ?_;rcases e1:Cr s a with _|⟨x,a1⟩
 ·rw[e1]at h;cases h
 rw[e1,ZA]at h;simp only at h;have be1:=C4 e1;(refine .inr (.inl ⟨_,_,false,0::([]++[]),?_,Em e1 hs,Ab,oI,dI,?_⟩);focus (exact Ak (gone:=[]) (gone1:=[]) rfl aI (by decide) (by decide) (by decide) rfl aM));refine G1 ?_;intro gg;refine⟨by decide,_,Arc be1.1,?_⟩;refine G0 ?_;rcases e2:Cr s a1 with _|⟨y,a2⟩
 ·rw[e2]at h;cases h
 rw[e2,ZA]at h;simp only at h;have be2:=C4 e2;(refine .inr (.inl ⟨_,_,false,0::([]++[]),?_,Em e2 hs,Ab,oI,dI,?_⟩);focus (exact Ak (gone:=[]) (gone1:=[]) rfl aI (by decide) (by decide) (by decide) rfl aM));refine G1 ?_;intro gg;refine⟨_,or8 be1.1 be2.1,?_⟩;refine G0 ?_;cases h;(exact⟨0::([]++[]),Ez (by first|exact As rfl|assumption) (Jf (gone:=[]) (gone1:=[]) rfl aI (by decide) (by decide) (by decide) (.nil _))⟩)
theorem Ea{s:ByteArray}{a:Nat}{R:List Par}(h:Bt s a=none)(hs:s.size≤1000000):Hi Tryz.prog 75 [.mn rdT (rdC s a) R] Hl:=by
 unfold Bt at h;refine Nt L6 rfl (Ka rfl) ?_;refine G0 ?_;rcases e1:Cr s a with _|⟨x,a1⟩
 ·(refine .inr (.inr ⟨_,false,0::([]++[]),_,?_,Kr (R:=rdC s 0) e1 hs,rfl⟩);focus (exact Ak (gone:=[]) (gone1:=[]) rfl aI (by decide) (by decide) (by decide) rfl aM))
 rw[e1,ZA]at h;simp only at h;have be1:=C4 e1;(refine .inr (.inl ⟨_,_,false,0::([]++[]),?_,Em e1 hs,Ab,oI,dI,?_⟩);focus (exact Ak (gone:=[]) (gone1:=[]) rfl aI (by decide) (by decide) (by decide) rfl aM));refine G1 ?_;intro gg;refine⟨by decide,_,Arc be1.1,?_⟩;refine G0 ?_;rcases e2:Cr s a1 with _|⟨y,a2⟩
 ·(refine .inr (.inr ⟨_,false,0::([]++[]),_,?_,Kr (R:=rdC s 0) e2 hs,rfl⟩);focus (exact Ak (gone:=[]) (gone1:=[]) rfl aI (by decide) (by decide) (by decide) rfl aM))
 rw[e2,ZA]at h;simp only at h;have be2:=C4 e2;(refine .inr (.inl ⟨_,_,false,0::([]++[]),?_,Em e2 hs,Ab,oI,dI,?_⟩);focus (exact Ak (gone:=[]) (gone1:=[]) rfl aI (by decide) (by decide) (by decide) rfl aM));refine G1 ?_;intro gg;refine⟨_,or8 be1.1 be2.1,?_⟩;refine G0 ?_;cases h
theorem Bk{s:ByteArray}{a v a':Nat}(h:Bt s a=some (v,a')):v<65536∧a'=a+2∧a'≤s.size:=by
 unfold Bt at h;rcases e1:Cr s a with _|⟨x,a1⟩
 ·rw[e1]at h;cases h
 rw[e1,ZA]at h;simp only at h;rcases e2:Cr s a1 with _|⟨y,a2⟩
 ·rw[e2]at h;cases h
 rw[e2,ZA]at h;cases h;have b1:=C4 e1;have b2:=C4 e2;show x*256+y<65536∧a2=a+2∧a2≤s.size;omega
theorem Ue{s:ByteArray}{a a':Nat}{v:Nat}(h:Gp s a=some (v,a'))(hs:s.size≤1000000):H3 Tryz.prog 114 [.mn rdT (rdC s a) (rdC s a')] [.p (.c (.v (.int .i64 (v:Int))))]:=by
 unfold Gp at h;refine Jr Kl rfl rfl (Ka rfl) ?_;refine G0 ?_;rcases e1:Bt s a with _|⟨x,a1⟩
 ·rw[e1]at h;cases h
 rw[e1,ZA]at h;simp only at h;have be1:=Bk e1;(refine .inr (.inl ⟨_,_,false,0::([]++[]),?_,Bl e1 hs,Ab,oI,dI,?_⟩);focus (exact Ak (gone:=[]) (gone1:=[]) rfl aI (by decide) (by decide) (by decide) rfl aM));refine G1 ?_;intro gg;refine⟨by decide,_,Avh be1.1,?_⟩;refine G0 ?_;rcases e2:Bt s a1 with _|⟨y,a2⟩
 ·rw[e2]at h;cases h
 rw[e2,ZA]at h;simp only at h;have be2:=Bk e2;(refine .inr (.inl ⟨_,_,false,0::([]++[]),?_,Bl e2 hs,Ab,oI,dI,?_⟩);focus (exact Ak (gone:=[]) (gone1:=[]) rfl aI (by decide) (by decide) (by decide) rfl aM));refine G1 ?_;intro gg;refine⟨_,Azj be1.1 be2.1,?_⟩;refine G0 ?_;cases h;(exact⟨0::([]++[]),Ez (by first|exact As rfl|assumption) (Jf (gone:=[]) (gone1:=[]) rfl aI (by decide) (by decide) (by decide) (.nil _))⟩)
theorem Agg{s:ByteArray}{a:Nat}{R:List Par}(h:Gp s a=none)(hs:s.size≤1000000):Hi Tryz.prog 114 [.mn rdT (rdC s a) R] Hl:=by
 unfold Gp at h;refine Nt Kl rfl (Ka rfl) ?_;refine G0 ?_;rcases e1:Bt s a with _|⟨x,a1⟩
 ·(refine .inr (.inr ⟨_,false,0::([]++[]),_,?_,Ea (R:=rdC s 0) e1 hs,rfl⟩);focus (exact Ak (gone:=[]) (gone1:=[]) rfl aI (by decide) (by decide) (by decide) rfl aM))
 rw[e1,ZA]at h;simp only at h;have be1:=Bk e1;(refine .inr (.inl ⟨_,_,false,0::([]++[]),?_,Bl e1 hs,Ab,oI,dI,?_⟩);focus (exact Ak (gone:=[]) (gone1:=[]) rfl aI (by decide) (by decide) (by decide) rfl aM));refine G1 ?_;intro gg;refine⟨by decide,_,Avh be1.1,?_⟩;refine G0 ?_;rcases e2:Bt s a1 with _|⟨y,a2⟩
 ·(refine .inr (.inr ⟨_,false,0::([]++[]),_,?_,Ea (R:=rdC s 0) e2 hs,rfl⟩);focus (exact Ak (gone:=[]) (gone1:=[]) rfl aI (by decide) (by decide) (by decide) rfl aM))
 rw[e2,ZA]at h;simp only at h;have be2:=Bk e2;(refine .inr (.inl ⟨_,_,false,0::([]++[]),?_,Bl e2 hs,Ab,oI,dI,?_⟩);focus (exact Ak (gone:=[]) (gone1:=[]) rfl aI (by decide) (by decide) (by decide) rfl aM));refine G1 ?_;intro gg;refine⟨_,Azj be1.1 be2.1,?_⟩;refine G0 ?_;cases h
theorem Ve{s:ByteArray}{a v a':Nat}(h:Gp s a=some (v,a')):v<4294967296∧a'=a+4∧a'≤s.size:=by
 unfold Gp at h;rcases e1:Bt s a with _|⟨x,a1⟩
 ·rw[e1]at h;cases h
 rw[e1,ZA]at h;simp only at h;rcases e2:Bt s a1 with _|⟨y,a2⟩
 ·rw[e2]at h;cases h
 rw[e2,ZA]at h;cases h;have b1:=Bk e1;have b2:=Bk e2;show x*65536+y<4294967296∧a2=a+4∧a2≤s.size;omega
def SmR(w:World)(B n:Nat)(l:List UInt8):Prop:=
 ∃C hi,w.heap[B]? =some (.cells C 5 (C.size,hi))∧n≤C.size∧l.length=n∧∀(j:Nat) (x:UInt8),l[j]? =some x→C[j]? =some (Value.int .u8 (x.toNat:Int))
theorem SmR.cell{w:World}{B n:Nat}{l:List UInt8}(h:SmR w B n l){j:Nat}{x:UInt8}(hx:l[j]? =some x):w.cell? ⟨B,j,none⟩=some (.int .u8 (x.toNat:Int)):=by
 obtain⟨C,hi,h1,h2,h3,h4⟩:=h;unfold World.cell?;rw[h1];exact h4 j x hx
theorem SmR.frozen{w:World}{B n:Nat}{l:List UInt8}(h:SmR w B n l){j:Nat}(hj:j<n):w.frozen? ⟨B,j,none⟩=false:=by
 obtain⟨C,hi,h1,h2,h3,h4⟩:=h;unfold World.frozen?;simp only[h1];simp;omega
theorem SmR.set{w:World}{B n:Nat}{l:List UInt8}(h:SmR w B n l){j:Nat}(x:UInt8):SmR (w.setCell ⟨B,j,none⟩ (.int .u8 (x.toNat:Int))) B n (l.set j x):=by
 obtain⟨C,hi,h1,h2,h3,h4⟩:=h;refine⟨C.setIfInBounds j (.int .u8 (x.toNat:Int)),hi,?_,by simpa using h2,by simpa using h3,fun i y hy=>?_⟩
 ·simp[World.setCell,Array.getElem?_modify,h1]
 ·rw[List.getElem?_set]at hy;split at hy
  ·subst j;split at hy
   ·cases hy;have:i<C.size:=by omega
    simp[this]
   ·cases hy
  ·rename_i hne;have:=h4 i y hy;rw[Array.getElem?_setIfInBounds_ne hne];exact this
def smK(s:ByteArray)(k:Nat):List UInt8:=(s.data.toList.take k).map F8++s.data.toList.drop k
theorem U3(s:ByteArray)(k:Nat):(smK s k).length=s.size:=by
 unfold smK;have:s.data.toList.length=s.size:=by simp
 simp;omega
theorem Arg{s:ByteArray}{k:Nat}(h:k<s.size):(smK s k)[k]? =some s[k]:=by
 unfold smK;have e:s.data.toList.length=s.size:=by simp
 rw[ZP (by simp;omega)];simp[Nat.min_eq_left (Nat.le_of_lt h),h];rfl
theorem Ah2{s:ByteArray}{k:Nat}(h:k<s.size):smK s (k+1)=(smK s k).set k (F8 s[k]):=by
 have e:s.data.toList.length=s.size:=by simp
 apply List.ext_getElem?;intro i;rw[List.getElem?_set];unfold smK;rcases Nat.lt_trichotomy i k with g|rfl|g
 ·rw[if_neg (by omega),ZQ (by simp;omega),ZQ (by simp;omega)];simp[g,Nat.lt_succ_of_lt g]
 ·rw[if_pos rfl,if_pos (by have:=U3 s i;unfold smK at this;omega),ZQ (by simp;omega)];simp[h];rfl
 ·rw[if_neg (by omega),ZP (by simp;omega),ZP (by simp;omega)];simp[List.getElem?_drop];congr 1;omega
theorem Aq3{s:ByteArray}{k:Nat}(h:k<s.size)(hx:F8 s[k]=s[k]):smK s (k+1)=smK s k:=by
 rw[Ah2 h,hx];have h1:=Arg h;apply List.ext_getElem?;intro i;rw[List.getElem?_set];split
 ·subst i;rw[h1];split<;>first|rfl|(exfalso;have:=U3 s k;omega)
 ·rfl
theorem Au9(s:ByteArray):(⟨(smK s s.size).toArray⟩:ByteArray)=C6 s:=by
 have e:s.data.toList.length=s.size:=by simp
 unfold smK C6;rw[List.take_of_length_le (by omega),List.drop_eq_nil_of_le (by omega),List.append_nil]
theorem Aw3{s:ByteArray}{wr:World}{B k:Nat}{c:UInt8}(h:SmR wr B s.size (smK s k))(hlt:k<s.size)(hc:c=s[k])(h65:(65:Int)≤(c.toNat:Int))(h90:(c.toNat:Int)≤90):SmR (wr.setCell ⟨B,k,none⟩ (.int .u8 ((c.toNat:Int)+32))) B s.size (smK s (k+1)):=by
 have e:((c.toNat:Int)+32)=((F8 c).toNat:Int):=by
  unfold F8;rw[if_pos ⟨by omega,by omega⟩,UInt8.toNat_add];show _=(((c.toNat+32)%256:Nat):Int);omega
 rw[e,Ah2 hlt,←hc];exact h.set _
theorem Ali{s:ByteArray}{wr:World}{B k:Nat}{c:UInt8}(h:SmR wr B s.size (smK s k))(hlt:k<s.size)(hc:c=s[k])(hn:¬((65:Int)≤(c.toNat:Int)∧(c.toNat:Int)≤90)):SmR wr B s.size (smK s (k+1)):=by
 rw[Aq3 hlt]
 ·exact h
 ·rw[←hc];unfold F8;rw[if_neg (by omega)]
theorem Asq{w wr:World}{B:Nat}(h:Below B w wr)(k:Nat)(v:Value):Below B w (wr.setCell ⟨B,k,none⟩ v):=Below.setCell h (ZT _) _
theorem Atc{s:ByteArray}{wr:World}{B:Nat}(h:SmR wr B s.size (smK s s.size))(cap:Nat):(convert 116 9 (.slice (some ⟨B,0,none⟩) s.size cap)).run Tryz.prog wr=.ok (.string (C6 s)) wr:=by
 have key:=run_convert_bytes_arg (P:=Tryz.prog) wr 116 5 Tryz.underlying116 Tryz.underlying5 B 0 ((smK s s.size).map fun b:UInt8=>(b.toNat:Int)).length cap ((smK s s.size).map fun b:UInt8=>(b.toNat:Int)) rfl (fun i hi=>by
  rw[ZE]at hi;have hx:(smK s s.size)[i]? =some (smK s s.size)[i]:=ZC hi;have:=h.cell hx;rw[Nat.zero_add,this];simp[List.getD,hi]) 9 Tryz.underlying9
 rw[ZE,U3]at key;rw[key,←Asu,←Au9];have e:Nl ((smK s s.size).map fun b:UInt8=>(b.toNat:Int))=⟨(smK s s.size).toArray⟩:=by
  unfold Nl;rw[List.map_map,show((fun n:Int=>UInt8.ofNat n.toNat)∘fun b:UInt8=>(b.toNat:Int))=id from funext fun b=>by simp,List.map_id]
 rw[e]
set_option maxRecDepth 100000 in
theorem Anb(s:ByteArray)(w:World)(hs:s.size≤1000000):
  Calls Tryz.prog 112 #[.string s] w fun e w'=>e=.returned (.string (C6 s))∧Below w.heap.size w w':=by
 obtain⟨cap,C,fr,hrun,hR⟩:∃(cap:Nat) (C:Array Value) (fr:Nat×Nat),(convert 9 116 (.string s)).run Tryz.prog w=.ok (.slice (some ⟨w.heap.size,0,none⟩) s.size cap) (w.drew.alloc (.cells C 5 fr))∧SmR (w.alloc (.cells C 5 fr)).drew w.heap.size s.size (smK s 0):=by
  refine⟨_,_,_,run_bytes_of_string w 9 116 5 s Tryz.underlying9 Tryz.underlying116 Tryz.underlying5,?_⟩;refine⟨_,_,heap_alloc_new w _,by unfold bytesRow;simp,U3 s 0,fun j x hx=>?_⟩;have hj:j<s.data.size:=by
   have:=(ZB.1 hx).1;rw[U3]at this;exact this
  rw[bytesRow_at s _ j hj];have:(smK s 0)[j]? =some s.data[j]:=by unfold smK;simp[hj]
  rw[this]at hx;cases hx;rfl
 have HR:=hid hR;clear hR;have HB:=hid (show Below w.heap.size w (w.alloc (.cells C 5 fr)).drew from(by repeat (first|exact Below.refl _ _|assumption|refine Below.drew ?_|refine below_drewN ?_ _|refine Below.alloc ?_ (by simp;try omega) _|refine Below.setCell ?_ (by simp;try omega) _)))
 go_enter Tryz.func112,Tryz.ntmps112
 go_wp2
 go_loopw [10] (fun i wr=>∃k:Nat,k≤s.size∧i=.int .i64 k∧SmR wr w.heap.size s.size (smK s k)∧Below w.heap.size w wr) (fun i _=>s.size-(intOf i).toNat)
 case atStart=>exact⟨0,ZU _,rfl,HR.out,HB.out⟩
 case round=>
  obtain⟨k,hk,rfl,hrow,hbw⟩:=hrel;have HW:=hid hrow;have HL:=hid hbw;clear hrow hbw hrun HR HB;by_cases hlt:k<s.size
  ·have hcell:=HW.out.cell (Arg hlt);have hfro:=HW.out.frozen hlt;have hby:((s[k]).toNat:Int)≤255:=by have:=(s[k]).toNat_lt;omega
   obtain⟨c,hc⟩:∃c,c=s[k]:=⟨_,rfl⟩;have HC:=hid hc;rw[←hc]at hcell hby;clear hc;by_cases h65:(65:Int)≤(c.toNat:Int)
   ·by_cases h90:(c.toNat:Int)≤90
    ·go_wp2
     go_round
     case rel=>exact⟨k+1,by omega,rfl,Aw3 HW.out hlt HC.out h65 h90,Asq HL.out _ _⟩
     case measure=>simp[intOf];omega
    ·go_wp2
     go_round
     case rel=>exact⟨k+1,by omega,rfl,Ali HW.out hlt HC.out (fun q=>h90 q.2),HL.out⟩
     case measure=>simp[intOf];omega
   ·go_wp2
    go_round
    case rel=>exact⟨k+1,by omega,rfl,Ali HW.out hlt HC.out (fun q=>h65 q.1),HL.out⟩
    case measure=>simp[intOf];omega
  ·obtain rfl:k=s.size:=by omega
   have hback:=Atc HW.out cap
   go_wp2
   go_ret
   exact⟨rfl,HL.out⟩
theorem Adn(s:ByteArray)(hs:s.size≤1000000):Fun Tryz.prog 112 [.c (.v (.string s))] [.c (.v (.string (C6 s)))]:=
 Nx (xs:=[.string s]) (Fb Tryz.func112 (by kernel_rfl) (by kernel_rfl)) fun w=>(Anb s w hs).mono fun e w' h=>⟨h.1,h.2⟩
theorem Kf{s:ByteArray}{a n:Nat}{v:ByteArray}{a':Nat}(h:Fo s a n=some (v,a')):a+n≤s.size∧v=s.extract a (a+n)∧a'=a+n∧v.size=n:=by
 unfold Fo at h;split at h
 ·cases h;refine⟨by assumption,rfl,rfl,?_⟩;rw[ByteArray.size_extract];omega
 ·cases h
theorem Anx{s:ByteArray}{a n:Nat}(h:Fo s a n=none):¬a+n≤s.size:=by
 unfold Fo at h;split at h
 ·cases h
 ·assumption
theorem Rt{s:ByteArray}{a n:Nat}{v:ByteArray}{a':Nat}(h:Fo s a n=some (v,a'))(hs:s.size≤1000000)(ha:a≤s.size)(hn:n≤1000000):H3 Tryz.prog 113 [.mn rdT (rdC s a) (rdC s a'),.p (.c (.v (.int .i64 (n:Int))))] [.p (.c (.v (.string v)))]:=by
 obtain⟨h1,rfl,rfl,_⟩:=Kf h;rw[show rdC s (a+n)=rdZ s ((a:Int)+(n:Int))from rfl];refine Jr Jv rfl rfl (Ka rfl) ?_;refine G0 ?_;(refine .inl ⟨_,_,true,[],aI,Bi _ (ZX (by omega)),(fun _=>fI),nI,?_⟩);refine G1 ?_;intro gg;refine⟨a,a+n,⟨_,congrArg (fun z=>V.v (Value.int .i64 z)) (show(a:Int)+(n:Int)-(n:Int)=(a:Int)by omega)⟩,⟨_,rfl⟩,by omega,by omega,?_⟩;refine G0 ?_;(exact⟨0::([]++[]),Ez (by first|exact As rfl|assumption) (Jf (gone:=[]) (gone1:=[]) rfl aI (by decide) (by decide) (by decide) (.nil _))⟩)
theorem Ad4{s:ByteArray}{a n:Nat}{R:List Par}(h:Fo s a n=none)(hs:s.size≤1000000)(ha:a≤s.size)(hn:n≤1000000):Hi Tryz.prog 113 [.mn rdT (rdC s a) R,.p (.c (.v (.int .i64 (n:Int))))] Hl:=by
 have h1:=Anx h;refine Nt Jv rfl (Ka rfl) ?_;refine G0 ?_;(exact .inr (.inr ⟨_,true,[],_,aM,Cj _ (ZY (by omega)),rfl⟩))
def Abu(e:Option Nat):Int:=e.elim (-1) fun n=>(n:Int)
theorem Avv{n:Nat}(h:n<256):IntKind.i64.wrap ((BitVec.ofInt IntKind.i64.bits (n:Int)&&&BitVec.ofInt IntKind.i64.bits 63).toNat)=((n%64:Nat):Int):=by
 have e1:(BitVec.ofInt IntKind.i64.bits (n:Int)&&&BitVec.ofInt IntKind.i64.bits 63).toNat=n%64:=by
  show(BitVec.ofInt 64 (n:Int)&&&BitVec.ofInt 64 63).toNat=_;rw[BitVec.toNat_and];have a1:(BitVec.ofInt 64 (n:Int)).toNat=n:=by
   rw[BitVec.ofInt_natCast,BitVec.toNat_ofNat];exact Nat.mod_eq_of_lt (by omega)
  have a2:(BitVec.ofInt 64 63).toNat=2^6-1:=by decide
  rw[a1,a2,Nat.and_two_pow_sub_one_eq_mod]
 rw[e1,A6 (by omega) (by omega)]
structure NmI(s:ByteArray)(R:Option (List ByteArray×Nat))(a:Nat)(l:List ByteArray)(e:Option Nat)(fr f:Nat):Prop where
 hr:nameR s f a l e fr=R
 ha:a≤s.size
 hfr:fr≤s.size
 hl:l.length≤9
 hf:fr+9<f+l.length
 hz:∀x∈l,x.size≤30
 he:∀n,e=some n→n≤s.size
theorem Zn{l:List ByteArray}(h:∀x∈l,x.size≤30)(hl:l.length≤9):(Df ⟨#[46]⟩ l).size≤1000:=by
 have key:∀l:List ByteArray,(∀x∈l,x.size≤30)→(Lib.join (l.map (·.data.toList)) [46]).length≤31*l.length:=by
  intro l
  induction l with
  |nil=>intro _;simp[Lib.join]
  |cons x l ih=>
   intro h;have h1:=h x (by simp);have h2:=ih fun y hy=>h y (by simp[hy]);have h3:x.data.toList.length=x.size:=by simp
   cases l with
   |nil=>simp[Lib.join];omega
   |cons y l=>
    have e:Lib.join ((x::y::l).map (·.data.toList)) [46]=x.data.toList++[46]++Lib.join ((y::l).map (·.data.toList)) [46]:=by simp[Lib.join]
    rw[e];simp only[ZF,ZJ,ZN]at h2 ⊢;omega
 have:=key l h;unfold Df;show(Lib.join (l.map (·.data.toList)) [46]).toArray.size≤1000;rw[List.size_toArray];omega
theorem Xr(x:ByteArray):(C6 x).size=x.size:=by
 unfold C6;show(x.data.toList.map F8).toArray.size=_;simp
theorem Wm{x:ByteArray}(h:lab x.data.toList=true):x.size≤30:=by
 unfold lab at h;simp at h;have:x.data.toList.length=x.size:=by rw[Array.length_toList];rfl
 omega
theorem Ahx{e:Option Nat}{k S:Nat}(h:∀n,e=some n→n≤S)(hk:k≤S):∀n,some (e.getD k)=some n→n≤S:=by
 intro n hn;cases hn;cases e with
 |none=>exact hk
 |some m=>exact h m rfl
theorem Asn{l:List ByteArray}{x:ByteArray}{S:Nat}(h:∀y∈l,y.size≤S)(hx:x.size≤S):∀y∈l++[x],y.size≤S:=by
 intro y hy;rcases XM.1 hy with hy|hy
 ·exact h y hy
 ·simp at hy;subst hy;exact hx
set_option maxHeartbeats 2000000 in
theorem Kh{s:ByteArray}{a a':Nat}{v:ByteArray}(h:Eq s a=some (v,a'))(hs:s.size≤1000000)(ha:a≤s.size):H3 Tryz.prog 78 [.mn rdT (rdC s a) (rdC s a')] [.p (.c (.v (.string v)))]:=by
 obtain⟨⟨ls,a2⟩,hr,hv⟩:=Option.map_eq_some_iff.1 h;simp only[Prod.mk.injEq]at hv;obtain⟨rfl,rfl⟩:=hv;refine Jr Lc rfl rfl (Ka rfl) ?_;refine G0 ?_;(refine⟨[(3,48,9,1)],none,{p:Nat×List ByteArray×Option Nat×Nat×Nat×Nat//NmI s (some (ls,a2)) p.1 p.2.1 p.2.2.1 p.2.2.2.1 p.2.2.2.2.1},[0],fun⟨⟨k,l,e,fr,f,g⟩,hp⟩=>[(3,.own 48 g),(4,.v (.int .i64 (Abu e))),(5,.v (.int .i64 (fr:Int)))],[],fun⟨⟨k,l,e,fr,f,g⟩,hp⟩=>[(48,⟨g,9,1,l.map A1⟩),(0,⟨0,.b rdT,2,[[.v (.string s),.v (.int .i64 (k:Int))]]⟩)],fun⟨⟨k,l,e,fr,f,g⟩,hp⟩=>f,(by exact⟨rfl,by decide,(fun _ _ _ _ h=>by cases h),trivial⟩),fun gs=>⟨trivial,fun _=>⟨⟨(a,[],none,a,a+10,gs 48),⟨hr,ha,ha,by simp,by simp,by simp,by simp⟩⟩,tI,tI,tI,tI⟩⟩,fun⟨⟨k,l,e,fr,f,g⟩,hp⟩=>?_⟩);obtain⟨hp1,hp2,hp3,hp4,hp5,hp6,hp7⟩:=hp;simp only at hp1 hp2 hp3 hp4 hp5 hp6 hp7;rcases f with _|f
 ·exfalso;omega
 rw[nameR]at hp1;refine G0 ?_;rw[ZE];by_cases c1:l.length≤8
 ·rw[if_pos c1]at hp1;(refine .inl ⟨_,_,true,[],aI,Bi _ (ZX (by omega)),(fun _=>fI),nI,?_⟩);refine G1 ?_;intro gg;rcases e1:Cr s k with _|⟨n,k1⟩
  ·rw[e1]at hp1;cases hp1
  rw[e1,ZA]at hp1;simp only at hp1;have b1:=C4 e1;(refine .inr (.inl ⟨_,_,false,0::([]++[]),?_,Em e1 hs,Ab,oI,dI,?_⟩);focus (exact Ak (gone:=[]) (gone1:=[]) rfl aI (by decide) (by decide) (by decide) rfl aM));refine G1 ?_;intro gg;by_cases c2:n=0
  ·rw[if_pos c2]at hp1;(refine Ic ?_ ?_;focus (simp[c2]));have hj:=Zn hp6 hp4;obtain⟨e4,e5⟩:l=ls∧e.getD k1=a2:=by simpa using hp1
   subst e4 e5;refine G0 ?_;rcases e with _|m
   ·rw[show decide ((0:Int)≤Abu none)=false from rfl];refine G0 ?_;(refine .inl ⟨_,_,true,[],aI,Vf false l ⟨#[46]⟩ (by omega) (by omega),(fun _=>fI),nI,?_⟩);refine G1 ?_;intro gg;(exact⟨0::([]++[]),Ez (by first|exact As rfl|assumption) (Jf (gone:=[]) (gone1:=[]) rfl aI (by decide) (by decide) (by decide) (.nil _))⟩)
   ·rw[show decide ((0:Int)≤Abu (some m))=true from ZX (Int.natCast_nonneg m)];refine G0 ?_;(refine .inl ⟨_,_,true,[],aI,Vf false l ⟨#[46]⟩ (by omega) (by omega),(fun _=>fI),nI,?_⟩);refine G1 ?_;intro gg;(exact⟨0::([]++[]),Ez (by first|exact As rfl|assumption) (Jf (gone:=[]) (gone1:=[]) rfl aI (by decide) (by decide) (by decide) (.nil _))⟩)
  ·rw[if_neg c2]at hp1;(refine Hr ?_ ?_;focus (simpa using c2));refine G0 ?_;by_cases c3:192≤n
   ·rw[if_pos c3]at hp1;(refine Ic ?_ ?_;focus (exact ZX (by omega)));refine G0 ?_;refine⟨_,Avv b1.1,?_⟩;refine G0 ?_;refine⟨by decide,_,Arc (by omega),?_⟩;refine G0 ?_;rcases e2:Cr s k1 with _|⟨q,k2⟩
    ·rw[e2]at hp1;cases hp1
    rw[e2,ZA]at hp1;simp only at hp1;have b2:=C4 e2;(refine .inr (.inl ⟨_,_,false,0::([]++[]),?_,Em e2 hs,Ab,oI,dI,?_⟩);focus (exact Ak (gone:=[]) (gone1:=[]) rfl aI (by decide) (by decide) (by decide) rfl aM));refine G1 ?_;intro gg;obtain⟨to,hto⟩:∃to,to=n%64*256+q:=⟨_,rfl⟩;rw[←hto]at hp1;refine⟨(to:Int),by rw[hto];exact or8 (x:=n%64) (by omega) b2.1,?_⟩;refine G0 ?_;rcases e with _|m
    ·rw[show decide (Abu none<(0:Int))=true from rfl];refine G0 ?_;by_cases c4:to<fr
     ·rw[if_pos c4]at hp1;(refine .inl ⟨_,_,true,[],aI,Bi _ (ZX (by omega)),(fun _=>fI),nI,?_⟩);refine G1 ?_;intro gg;(exact⟨none,trivial,fun _=>⟨⟨(to,l,_,to,f,g),⟨hp1,show to≤s.size by omega,show to≤s.size by omega,hp4,show to+9<f+l.length by omega,hp6,Ahx hp7 (by omega)⟩⟩,by show f<f+1;omega,tI,tI,tI,tI⟩⟩)
     ·rw[if_neg c4]at hp1;cases hp1
    ·rw[show decide (Abu (some m)<(0:Int))=false from ZY (by have:=Int.natCast_nonneg m;simp only[Abu,Option.elim];omega)];refine G0 ?_;by_cases c4:to<fr
     ·rw[if_pos c4]at hp1;(refine .inl ⟨_,_,true,[],aI,Bi _ (ZX (by omega)),(fun _=>fI),nI,?_⟩);refine G1 ?_;intro gg;(exact⟨none,trivial,fun _=>⟨⟨(to,l,_,to,f,g),⟨hp1,show to≤s.size by omega,show to≤s.size by omega,hp4,show to+9<f+l.length by omega,hp6,Ahx hp7 (by omega)⟩⟩,by show f<f+1;omega,tI,tI,tI,tI⟩⟩)
     ·rw[if_neg c4]at hp1;cases hp1
   ·rw[if_neg c3]at hp1;(refine Hr ?_ ?_;focus (exact ZY (by omega)));refine G0 ?_;rcases e3:Fo s k1 n with _|⟨x,k2⟩
    ·rw[e3]at hp1;cases hp1
    rw[e3,ZA]at hp1;simp only at hp1;have b3:=Kf e3;(refine .inr (.inl ⟨_,_,false,0::([]++[]),?_,Rt e3 hs (by omega) (by omega),Ab,oI,dI,?_⟩);focus (exact Ak (gone:=[]) (gone1:=[]) rfl aI (by decide) (by decide) (by decide) rfl aM));refine G1 ?_;intro gg;have hx:(C6 x).size=x.size:=Xr x;(refine .inl ⟨_,_,false,[],aI,Adn x (by omega),Ab,nI,?_⟩);refine G1 ?_;intro gg;(refine .inl ⟨_,_,false,[],aI,El (C6 x) (by omega),Ab,nI,?_⟩);refine G1 ?_;intro gg;by_cases c5:lab (C6 x).data.toList=true
    ·rw[if_pos c5]at hp1;have hz:=Wm c5;(refine .inl ⟨_,_,true,[],aI,Bi _ c5,(fun _=>fI),nI,?_⟩);(refine goI ?_;repeat (intro gg;refine goI ?_));refine⟨lI,lI,?_⟩;refine G1 ?_;intro gg;(exact⟨none,trivial,fun gr=>⟨⟨(k2,l++[C6 x],e,fr,f,gg),⟨hp1,by omega,hp3,by simp;omega,by simp;omega,Asn hp6 hz,hp7⟩⟩,by show f<f+1;omega,hxI (ZI (f:=A1) (l₁:=l) (l₂:=[C6 x])),hxI (ZI (f:=A1) (l₁:=l) (l₂:=[C6 x])),hxI (ZI (f:=A1) (l₁:=l) (l₂:=[C6 x])),hxI (ZI (f:=A1) (l₁:=l) (l₂:=[C6 x]))⟩⟩)
    ·rw[if_neg c5]at hp1;cases hp1
 ·rw[if_neg c1]at hp1;cases hp1
set_option maxHeartbeats 2000000 in
theorem Vj{s:ByteArray}{a:Nat}{R:List Par}(h:Eq s a=none)(hs:s.size≤1000000)(ha:a≤s.size):Hi Tryz.prog 78 [.mn rdT (rdC s a) R] Hl:=by
 have hr:=Option.map_eq_none_iff.1 h;refine Nt Lc rfl (Ka rfl) ?_;refine G0 ?_;(refine⟨[(3,48,9,1)],none,{p:Nat×List ByteArray×Option Nat×Nat×Nat×Nat//NmI s none p.1 p.2.1 p.2.2.1 p.2.2.2.1 p.2.2.2.2.1},[0],fun⟨⟨k,l,e,fr,f,g⟩,hp⟩=>[(3,.own 48 g),(4,.v (.int .i64 (Abu e))),(5,.v (.int .i64 (fr:Int)))],[],fun⟨⟨k,l,e,fr,f,g⟩,hp⟩=>[(48,⟨g,9,1,l.map A1⟩),(0,⟨0,.b rdT,2,[[.v (.string s),.v (.int .i64 (k:Int))]]⟩)],fun⟨⟨k,l,e,fr,f,g⟩,hp⟩=>f,(by exact⟨rfl,by decide,(fun _ _ _ _ h=>by cases h),trivial⟩),fun gs=>⟨trivial,fun _=>⟨⟨(a,[],none,a,a+10,gs 48),⟨hr,ha,ha,by simp,by simp,by simp,by simp⟩⟩,tI,tI,tI,tI⟩⟩,fun⟨⟨k,l,e,fr,f,g⟩,hp⟩=>?_⟩);obtain⟨hp1,hp2,hp3,hp4,hp5,hp6,hp7⟩:=hp;simp only at hp1 hp2 hp3 hp4 hp5 hp6 hp7;rcases f with _|f
 ·exfalso;omega
 rw[nameR]at hp1;refine G0 ?_;rw[ZE];by_cases c1:l.length≤8
 ·rw[if_pos c1]at hp1;(refine .inl ⟨_,_,true,[],aI,Bi _ (ZX (by omega)),(fun _=>fI),nI,?_⟩);refine G1 ?_;intro gg;rcases e1:Cr s k with _|⟨n,k1⟩
  ·(refine .inr (.inr ⟨_,false,0::([]++[]),_,?_,Kr (R:=rdC s 0) e1 hs,rfl⟩);focus (exact Ak (gone:=[]) (gone1:=[]) rfl aI (by decide) (by decide) (by decide) rfl aM))
  rw[e1,ZA]at hp1;simp only at hp1;have b1:=C4 e1;(refine .inr (.inl ⟨_,_,false,0::([]++[]),?_,Em e1 hs,Ab,oI,dI,?_⟩);focus (exact Ak (gone:=[]) (gone1:=[]) rfl aI (by decide) (by decide) (by decide) rfl aM));refine G1 ?_;intro gg;by_cases c2:n=0
  ·rw[if_pos c2]at hp1;cases hp1
  ·rw[if_neg c2]at hp1;(refine Hr ?_ ?_;focus (simpa using c2));refine G0 ?_;by_cases c3:192≤n
   ·rw[if_pos c3]at hp1;(refine Ic ?_ ?_;focus (exact ZX (by omega)));refine G0 ?_;refine⟨_,Avv b1.1,?_⟩;refine G0 ?_;refine⟨by decide,_,Arc (by omega),?_⟩;refine G0 ?_;rcases e2:Cr s k1 with _|⟨q,k2⟩
    ·(refine .inr (.inr ⟨_,false,0::([]++[]),_,?_,Kr (R:=rdC s 0) e2 hs,rfl⟩);focus (exact Ak (gone:=[]) (gone1:=[]) rfl aI (by decide) (by decide) (by decide) rfl aM))
    rw[e2,ZA]at hp1;simp only at hp1;have b2:=C4 e2;(refine .inr (.inl ⟨_,_,false,0::([]++[]),?_,Em e2 hs,Ab,oI,dI,?_⟩);focus (exact Ak (gone:=[]) (gone1:=[]) rfl aI (by decide) (by decide) (by decide) rfl aM));refine G1 ?_;intro gg;obtain⟨to,hto⟩:∃to,to=n%64*256+q:=⟨_,rfl⟩;rw[←hto]at hp1;refine⟨(to:Int),by rw[hto];exact or8 (x:=n%64) (by omega) b2.1,?_⟩;refine G0 ?_;rcases e with _|m
    ·rw[show decide (Abu none<(0:Int))=true from rfl];refine G0 ?_;by_cases c4:to<fr
     ·rw[if_pos c4]at hp1;(refine .inl ⟨_,_,true,[],aI,Bi _ (ZX (by omega)),(fun _=>fI),nI,?_⟩);refine G1 ?_;intro gg;(exact⟨none,trivial,fun _=>⟨⟨(to,l,_,to,f,g),⟨hp1,show to≤s.size by omega,show to≤s.size by omega,hp4,show to+9<f+l.length by omega,hp6,Ahx hp7 (by omega)⟩⟩,by show f<f+1;omega,tI,tI,tI,tI⟩⟩)
     ·(exact .inr (.inr ⟨_,true,[],_,aM,Cj _ (ZY (by omega)),rfl⟩))
    ·rw[show decide (Abu (some m)<(0:Int))=false from ZY (by have:=Int.natCast_nonneg m;simp only[Abu,Option.elim];omega)];refine G0 ?_;by_cases c4:to<fr
     ·rw[if_pos c4]at hp1;(refine .inl ⟨_,_,true,[],aI,Bi _ (ZX (by omega)),(fun _=>fI),nI,?_⟩);refine G1 ?_;intro gg;(exact⟨none,trivial,fun _=>⟨⟨(to,l,_,to,f,g),⟨hp1,show to≤s.size by omega,show to≤s.size by omega,hp4,show to+9<f+l.length by omega,hp6,Ahx hp7 (by omega)⟩⟩,by show f<f+1;omega,tI,tI,tI,tI⟩⟩)
     ·(exact .inr (.inr ⟨_,true,[],_,aM,Cj _ (ZY (by omega)),rfl⟩))
   ·rw[if_neg c3]at hp1;(refine Hr ?_ ?_;focus (exact ZY (by omega)));refine G0 ?_;rcases e3:Fo s k1 n with _|⟨x,k2⟩
    ·(refine .inr (.inr ⟨_,false,0::([]++[]),_,?_,Ad4 (R:=rdC s 0) e3 hs (by omega) (by omega),rfl⟩);focus (exact Ak (gone:=[]) (gone1:=[]) rfl aI (by decide) (by decide) (by decide) rfl aM))
    rw[e3,ZA]at hp1;simp only at hp1;have b3:=Kf e3;(refine .inr (.inl ⟨_,_,false,0::([]++[]),?_,Rt e3 hs (by omega) (by omega),Ab,oI,dI,?_⟩);focus (exact Ak (gone:=[]) (gone1:=[]) rfl aI (by decide) (by decide) (by decide) rfl aM));refine G1 ?_;intro gg;have hx:(C6 x).size=x.size:=Xr x;(refine .inl ⟨_,_,false,[],aI,Adn x (by omega),Ab,nI,?_⟩);refine G1 ?_;intro gg;(refine .inl ⟨_,_,false,[],aI,El (C6 x) (by omega),Ab,nI,?_⟩);refine G1 ?_;intro gg;by_cases c5:lab (C6 x).data.toList=true
    ·rw[if_pos c5]at hp1;have hz:=Wm c5;(refine .inl ⟨_,_,true,[],aI,Bi _ c5,(fun _=>fI),nI,?_⟩);(refine goI ?_;repeat (intro gg;refine goI ?_));refine⟨lI,lI,?_⟩;refine G1 ?_;intro gg;(exact⟨none,trivial,fun gr=>⟨⟨(k2,l++[C6 x],e,fr,f,gg),⟨hp1,by omega,hp3,by simp;omega,by simp;omega,Asn hp6 hz,hp7⟩⟩,by show f<f+1;omega,hxI (ZI (f:=A1) (l₁:=l) (l₂:=[C6 x])),hxI (ZI (f:=A1) (l₁:=l) (l₂:=[C6 x])),hxI (ZI (f:=A1) (l₁:=l) (l₂:=[C6 x])),hxI (ZI (f:=A1) (l₁:=l) (l₂:=[C6 x]))⟩⟩)
    ·(exact .inr (.inr ⟨_,true,[],_,aM,Cj _ (XE.2 c5),rfl⟩))
 ·(exact .inr (.inr ⟨_,true,[],_,aM,Cj _ (ZY (by omega)),rfl⟩))
theorem Apx{s:ByteArray}:∀{f a:Nat} {l:List ByteArray} {e:Option Nat} {fr:Nat} {ls:List ByteArray} {a':Nat},nameR s f a l e fr=some (ls,a')→(∀x∈l,lab x.data.toList=true)→(∀n,e=some n→n≤s.size)→
  a'≤s.size∧(∀x∈ls,lab x.data.toList=true)∧ls.length≤8:=by
 intro f
 induction f with
 |zero=>intro a l e fr ls a' h;cases h
 |succ f ih=>
  intro a l e fr ls a' h hl he;rw[nameR]at h;by_cases c1:l.length≤8
  ·rw[if_pos c1]at h;rcases e1:Cr s a with _|⟨n,k1⟩
   ·rw[e1]at h;cases h
   have b1:=C4 e1;rw[e1,ZA]at h;simp only at h;by_cases c2:n=0
   ·rw[if_pos c2]at h;obtain⟨rfl,rfl⟩:l=ls∧e.getD k1=a':=by simpa using h
    refine⟨?_,hl,c1⟩;cases e with
    |none=>exact b1.2.2
    |some m=>exact he m rfl
   rw[if_neg c2]at h;by_cases c3:192≤n
   ·rw[if_pos c3]at h;rcases e2:Cr s k1 with _|⟨q,k2⟩
    ·rw[e2]at h;cases h
    have b2:=C4 e2;rw[e2,ZA]at h;simp only at h;split at h
    ·exact ih h hl (Ahx he b2.2.2)
    ·cases h
   ·rw[if_neg c3]at h;rcases e3:Fo s k1 n with _|⟨x,k2⟩
    ·rw[e3]at h;cases h
    rw[e3,ZA]at h;simp only at h;split at h
    ·rename_i c4;exact ih h (fun y hy=>by
      rcases XM.1 hy with hy|hy
      ·exact hl y hy
      ·simp at hy;subst hy;exact c4) he
    ·cases h
  ·rw[if_neg c1]at h;cases h
theorem Ij{s:ByteArray}{a a':Nat}{v:ByteArray}(h:Eq s a=some (v,a')):a'≤s.size∧v.size≤1000:=by
 obtain⟨⟨ls,a2⟩,hr,hv⟩:=Option.map_eq_some_iff.1 h;simp only[Prod.mk.injEq]at hv;obtain⟨rfl,rfl⟩:=hv;have b:=Apx hr (by simp) (by simp);exact⟨b.1,Zn (fun x hx=>Wm (b.2.1 x hx)) (by omega)⟩
theorem Alu{s:ByteArray}{a:Nat}:Il s 1 a=(Gp s a).bind fun p=>some ((p.1,⟨#[]⟩,0,⟨#[]⟩),p.2):=rfl
theorem Ahp{s:ByteArray}{a:Nat}:Il s 16 a=(Cr s a).bind fun p=>(Fo s p.2 p.1).bind fun q=>some ((0,q.1,0,⟨#[]⟩),q.2):=rfl
theorem Ah8{s:ByteArray}{a:Nat}:Il s 33 a=(Bt s a).bind fun p=>if p.1=0 then(Bt s p.2).bind fun q=>if q.1=0 then(Bt s q.2).bind fun r=>(Eq s r.2).bind fun n=>some ((0,⟨#[]⟩,r.1,n.1),n.2)else none else none:=rfl
theorem At2{s:ByteArray}{t a:Nat}(h1:t≠1)(h2:t≠16)(h3:t≠33):Il s t a=none:=by
 unfold Il;rw[if_neg h1,if_neg h2,if_neg h3]
set_option maxHeartbeats 4000000 in
theorem Bb{s:ByteArray}{a a':Nat}{v:Rr}(h:Pp s a=some (v,a'))(hs:s.size≤1000000)(ha:a≤s.size):H3 Tryz.prog 79 [.mn rdT (rdC s a) (rdC s a')] [.p (.c (.agg v.row))]:=by
 unfold Pp at h;refine Ame Jb rfl (Ka rfl) ?_;refine G1 ?_;intro gg;rcases e1:Eq s a with _|⟨nm,a1⟩
 ·rw[e1]at h;cases h
 rw[e1,ZA]at h;simp only at h;have be1:=Ij e1;(refine .inr (.inl ⟨_,_,false,0::([]++[]),?_,Kh e1 hs (by omega),Ab,oI,dI,?_⟩);focus (exact Ak (gone:=[]) (gone1:=[]) rfl aI (by decide) (by decide) (by decide) rfl aM));refine G1 ?_;intro gg;rcases e2:Bt s a1 with _|⟨t,a2⟩
 ·rw[e2]at h;cases h
 rw[e2,ZA]at h;simp only at h;have be2:=Bk e2;(refine .inr (.inl ⟨_,_,false,0::([]++[]),?_,Bl e2 hs,Ab,oI,dI,?_⟩);focus (exact Ak (gone:=[]) (gone1:=[]) rfl aI (by decide) (by decide) (by decide) rfl aM));(refine goI ?_;repeat (intro gg;refine goI ?_));rcases e3:Bt s a2 with _|⟨one,a3⟩
 ·rw[e3]at h;cases h
 rw[e3,ZA]at h;simp only at h;have be3:=Bk e3;(refine .inr (.inl ⟨_,_,false,0::([]++[]),?_,Bl e3 hs,Ab,oI,dI,?_⟩);focus (exact Ak (gone:=[]) (gone1:=[]) rfl aI (by decide) (by decide) (by decide) rfl aM));refine G1 ?_;intro gg;by_cases c3:one=1
 ·rw[if_pos c3]at h;(refine .inl ⟨_,_,true,[],aI,Bi _ (ZR.2 (by omega)),(fun _=>fI),nI,?_⟩);refine G1 ?_;intro gg;rcases e4:Gp s a3 with _|⟨ls,a4⟩
  ·rw[e4]at h;cases h
  rw[e4,ZA]at h;simp only at h;have be4:=Ve e4;(refine .inr (.inl ⟨_,_,false,0::([]++[]),?_,Ue e4 hs,Ab,oI,dI,?_⟩);focus (exact Ak (gone:=[]) (gone1:=[]) rfl aI (by decide) (by decide) (by decide) rfl aM));refine G1 ?_;intro gg;rcases e5:Bt s a4 with _|⟨n,a5⟩
  ·rw[e5]at h;cases h
  rw[e5,ZA]at h;simp only at h;have be5:=Bk e5;(refine .inr (.inl ⟨_,_,false,0::([]++[]),?_,Bl e5 hs,Ab,oI,dI,?_⟩);focus (exact Ak (gone:=[]) (gone1:=[]) rfl aI (by decide) (by decide) (by decide) rfl aM));refine G1 ?_;intro gg;by_cases c5:a5+n≤s.size
  ·rw[if_pos c5]at h;(refine .inl ⟨_,_,true,[],aI,Bi _ (ZX (by omega)),(fun _=>fI),nI,?_⟩);refine G1 ?_;intro gg;by_cases t1:t=1
   ·subst t1;rw[Alu]at h;rw[show(((1:Nat):Int)==1)=true from rfl];refine G0 ?_;rcases e6:Gp s a5 with _|⟨ad,a6⟩
    ·rw[e6]at h;cases h
    rw[e6,ZA]at h;simp only at h;have be6:=Ve e6;(refine .inr (.inl ⟨_,_,false,0::([]++[]),?_,Ue e6 hs,Ab,oI,dI,?_⟩);focus (exact Ak (gone:=[]) (gone1:=[]) rfl aI (by decide) (by decide) (by decide) rfl aM));refine G1 ?_;intro gg;rw[ZA]at h;simp only at h;by_cases c9:a6=a5+n
    ·rw[if_pos c9]at h;(refine .inl ⟨_,_,true,[],aI,Bi _ (ZR.2 (by omega)),(fun _=>fI),nI,?_⟩);refine G1 ?_;intro gg;obtain⟨ev,ea⟩:_=v∧_=a':=by simpa using h
     subst ev ea;(exact⟨_,0::([]++[]),.cell1 rfl rfl rfl rfl rfl rfl .nil,Ez (As rfl) (Jf (gone:=[]) (gone1:=[]) rfl aI (by decide) (by decide) (by decide) (.nil _))⟩)
    ·rw[if_neg c9]at h;cases h
   by_cases t2:t=16
   ·subst t2;rw[Ahp]at h;rw[show(((16:Nat):Int)==1)=false from rfl];refine G0 ?_;rw[show(((16:Nat):Int)==16)=true from rfl];refine G0 ?_;rcases e6:Cr s a5 with _|⟨k,a6⟩
    ·rw[e6]at h;cases h
    rw[e6,ZA]at h;simp only at h;have be6:=C4 e6;(refine .inr (.inl ⟨_,_,false,0::([]++[]),?_,Em e6 hs,Ab,oI,dI,?_⟩);focus (exact Ak (gone:=[]) (gone1:=[]) rfl aI (by decide) (by decide) (by decide) rfl aM));refine G1 ?_;intro gg;rcases e7:Fo s a6 k with _|⟨tx,a7⟩
    ·rw[e7]at h;cases h
    rw[e7,ZA]at h;simp only at h;have be7:=Kf e7;(refine .inr (.inl ⟨_,_,false,0::([]++[]),?_,Rt e7 hs (by omega) (by omega),Ab,oI,dI,?_⟩);focus (exact Ak (gone:=[]) (gone1:=[]) rfl aI (by decide) (by decide) (by decide) rfl aM));refine G1 ?_;intro gg;rw[ZA]at h;simp only at h;by_cases c9:a7=a5+n
    ·rw[if_pos c9]at h;(refine .inl ⟨_,_,true,[],aI,Bi _ (ZR.2 (by omega)),(fun _=>fI),nI,?_⟩);refine G1 ?_;intro gg;obtain⟨ev,ea⟩:_=v∧_=a':=by simpa using h
     subst ev ea;(exact⟨_,0::([]++[]),.cell1 rfl rfl rfl rfl rfl rfl .nil,Ez (As rfl) (Jf (gone:=[]) (gone1:=[]) rfl aI (by decide) (by decide) (by decide) (.nil _))⟩)
    ·rw[if_neg c9]at h;cases h
   by_cases t3:t=33
   ·subst t3;rw[Ah8]at h;rw[show(((33:Nat):Int)==1)=false from rfl];refine G0 ?_;rw[show(((33:Nat):Int)==16)=false from rfl];refine G0 ?_;rw[show(((33:Nat):Int)==33)=true from rfl];refine G0 ?_;rcases e6:Bt s a5 with _|⟨z,a6⟩
    ·rw[e6]at h;cases h
    rw[e6,ZA]at h;simp only at h;have be6:=Bk e6;(refine .inr (.inl ⟨_,_,false,0::([]++[]),?_,Bl e6 hs,Ab,oI,dI,?_⟩);focus (exact Ak (gone:=[]) (gone1:=[]) rfl aI (by decide) (by decide) (by decide) rfl aM));refine G1 ?_;intro gg;by_cases c6:z=0
    ·rw[if_pos c6]at h;rw[show((z:Int)==0)=true from ZR.2 (by omega)];refine G0 ?_;rcases e7:Bt s a6 with _|⟨y,a7⟩
     ·rw[e7]at h;cases h
     rw[e7,ZA]at h;simp only at h;have be7:=Bk e7;(refine .inr (.inl ⟨_,_,false,0::([]++[]),?_,Bl e7 hs,Ab,oI,dI,?_⟩);focus (exact Ak (gone:=[]) (gone1:=[]) rfl aI (by decide) (by decide) (by decide) rfl aM));refine G1 ?_;intro gg;by_cases c7:y=0
     ·rw[if_pos c7]at h;(refine .inl ⟨_,_,true,[],aI,Bi _ (ZR.2 (by omega)),(fun _=>fI),nI,?_⟩);refine G1 ?_;intro gg;rcases e8:Bt s a7 with _|⟨pt,a8⟩
      ·rw[e8]at h;cases h
      rw[e8,ZA]at h;simp only at h;have be8:=Bk e8;(refine .inr (.inl ⟨_,_,false,0::([]++[]),?_,Bl e8 hs,Ab,oI,dI,?_⟩);focus (exact Ak (gone:=[]) (gone1:=[]) rfl aI (by decide) (by decide) (by decide) rfl aM));refine G1 ?_;intro gg;rcases e9:Eq s a8 with _|⟨tg,a9⟩
      ·rw[e9]at h;cases h
      rw[e9,ZA]at h;simp only at h;have be9:=Ij e9;(refine .inr (.inl ⟨_,_,false,0::([]++[]),?_,Kh e9 hs (by omega),Ab,oI,dI,?_⟩);focus (exact Ak (gone:=[]) (gone1:=[]) rfl aI (by decide) (by decide) (by decide) rfl aM));refine G1 ?_;intro gg;rw[ZA]at h;simp only at h;by_cases c9:a9=a5+n
      ·rw[if_pos c9]at h;(refine .inl ⟨_,_,true,[],aI,Bi _ (ZR.2 (by omega)),(fun _=>fI),nI,?_⟩);refine G1 ?_;intro gg;obtain⟨ev,ea⟩:_=v∧_=a':=by simpa using h
       subst ev ea;(exact⟨_,0::([]++[]),.cell1 rfl rfl rfl rfl rfl rfl .nil,Ez (As rfl) (Jf (gone:=[]) (gone1:=[]) rfl aI (by decide) (by decide) (by decide) (.nil _))⟩)
      ·rw[if_neg c9]at h;cases h
     ·rw[if_neg c7]at h;cases h
    ·rw[if_neg c6]at h;cases h
   rw[show((t:Int)==1)=false from ZG.2 (by omega)];refine G0 ?_;rw[show((t:Int)==16)=false from ZG.2 (by omega)];refine G0 ?_;rw[show((t:Int)==33)=false from ZG.2 (by omega)];refine G0 ?_;rw[At2 t1 t2 t3]at h;cases h
  ·rw[if_neg c5]at h;cases h
 ·rw[if_neg c3]at h;cases h
set_option maxHeartbeats 4000000 in
theorem De{s:ByteArray}{a:Nat}{R:List Par}(h:Pp s a=none)(hs:s.size≤1000000)(ha:a≤s.size):Hi Tryz.prog 79 [.mn rdT (rdC s a) R] Hl:=by
 unfold Pp at h;refine Acq Jb rfl (Ka rfl) ?_;refine G1 ?_;intro gg;rcases e1:Eq s a with _|⟨nm,a1⟩
 ·(refine .inr (.inr ⟨_,false,0::([]++[]),_,?_,Vj (R:=rdC s 0) e1 hs (by omega),rfl⟩);focus (exact Ak (gone:=[]) (gone1:=[]) rfl aI (by decide) (by decide) (by decide) rfl aM))
 rw[e1,ZA]at h;simp only at h;have be1:=Ij e1;(refine .inr (.inl ⟨_,_,false,0::([]++[]),?_,Kh e1 hs (by omega),Ab,oI,dI,?_⟩);focus (exact Ak (gone:=[]) (gone1:=[]) rfl aI (by decide) (by decide) (by decide) rfl aM));refine G1 ?_;intro gg;rcases e2:Bt s a1 with _|⟨t,a2⟩
 ·(refine .inr (.inr ⟨_,false,0::([]++[]),_,?_,Ea (R:=rdC s 0) e2 hs,rfl⟩);focus (exact Ak (gone:=[]) (gone1:=[]) rfl aI (by decide) (by decide) (by decide) rfl aM))
 rw[e2,ZA]at h;simp only at h;have be2:=Bk e2;(refine .inr (.inl ⟨_,_,false,0::([]++[]),?_,Bl e2 hs,Ab,oI,dI,?_⟩);focus (exact Ak (gone:=[]) (gone1:=[]) rfl aI (by decide) (by decide) (by decide) rfl aM));(refine goI ?_;repeat (intro gg;refine goI ?_));rcases e3:Bt s a2 with _|⟨one,a3⟩
 ·(refine .inr (.inr ⟨_,false,0::([]++[]),_,?_,Ea (R:=rdC s 0) e3 hs,rfl⟩);focus (exact Ak (gone:=[]) (gone1:=[]) rfl aI (by decide) (by decide) (by decide) rfl aM))
 rw[e3,ZA]at h;simp only at h;have be3:=Bk e3;(refine .inr (.inl ⟨_,_,false,0::([]++[]),?_,Bl e3 hs,Ab,oI,dI,?_⟩);focus (exact Ak (gone:=[]) (gone1:=[]) rfl aI (by decide) (by decide) (by decide) rfl aM));refine G1 ?_;intro gg;by_cases c3:one=1
 ·rw[if_pos c3]at h;(refine .inl ⟨_,_,true,[],aI,Bi _ (ZR.2 (by omega)),(fun _=>fI),nI,?_⟩);refine G1 ?_;intro gg;rcases e4:Gp s a3 with _|⟨ls,a4⟩
  ·(refine .inr (.inr ⟨_,false,0::([]++[]),_,?_,Agg (R:=rdC s 0) e4 hs,rfl⟩);focus (exact Ak (gone:=[]) (gone1:=[]) rfl aI (by decide) (by decide) (by decide) rfl aM))
  rw[e4,ZA]at h;simp only at h;have be4:=Ve e4;(refine .inr (.inl ⟨_,_,false,0::([]++[]),?_,Ue e4 hs,Ab,oI,dI,?_⟩);focus (exact Ak (gone:=[]) (gone1:=[]) rfl aI (by decide) (by decide) (by decide) rfl aM));refine G1 ?_;intro gg;rcases e5:Bt s a4 with _|⟨n,a5⟩
  ·(refine .inr (.inr ⟨_,false,0::([]++[]),_,?_,Ea (R:=rdC s 0) e5 hs,rfl⟩);focus (exact Ak (gone:=[]) (gone1:=[]) rfl aI (by decide) (by decide) (by decide) rfl aM))
  rw[e5,ZA]at h;simp only at h;have be5:=Bk e5;(refine .inr (.inl ⟨_,_,false,0::([]++[]),?_,Bl e5 hs,Ab,oI,dI,?_⟩);focus (exact Ak (gone:=[]) (gone1:=[]) rfl aI (by decide) (by decide) (by decide) rfl aM));refine G1 ?_;intro gg;by_cases c5:a5+n≤s.size
  ·rw[if_pos c5]at h;(refine .inl ⟨_,_,true,[],aI,Bi _ (ZX (by omega)),(fun _=>fI),nI,?_⟩);refine G1 ?_;intro gg;by_cases t1:t=1
   ·subst t1;rw[Alu]at h;rw[show(((1:Nat):Int)==1)=true from rfl];refine G0 ?_;rcases e6:Gp s a5 with _|⟨ad,a6⟩
    ·(refine .inr (.inr ⟨_,false,0::([]++[]),_,?_,Agg (R:=rdC s 0) e6 hs,rfl⟩);focus (exact Ak (gone:=[]) (gone1:=[]) rfl aI (by decide) (by decide) (by decide) rfl aM))
    rw[e6,ZA]at h;simp only at h;have be6:=Ve e6;(refine .inr (.inl ⟨_,_,false,0::([]++[]),?_,Ue e6 hs,Ab,oI,dI,?_⟩);focus (exact Ak (gone:=[]) (gone1:=[]) rfl aI (by decide) (by decide) (by decide) rfl aM));refine G1 ?_;intro gg;rw[ZA]at h;simp only at h;by_cases c9:a6=a5+n
    ·rw[if_pos c9]at h;(refine .inl ⟨_,_,true,[],aI,Bi _ (ZR.2 (by omega)),(fun _=>fI),nI,?_⟩);refine G1 ?_;intro gg;cases h
    ·(exact .inr (.inr ⟨_,true,[],_,aM,Cj _ (ZG.2 (by omega)),rfl⟩))
   by_cases t2:t=16
   ·subst t2;rw[Ahp]at h;rw[show(((16:Nat):Int)==1)=false from rfl];refine G0 ?_;rw[show(((16:Nat):Int)==16)=true from rfl];refine G0 ?_;rcases e6:Cr s a5 with _|⟨k,a6⟩
    ·(refine .inr (.inr ⟨_,false,0::([]++[]),_,?_,Kr (R:=rdC s 0) e6 hs,rfl⟩);focus (exact Ak (gone:=[]) (gone1:=[]) rfl aI (by decide) (by decide) (by decide) rfl aM))
    rw[e6,ZA]at h;simp only at h;have be6:=C4 e6;(refine .inr (.inl ⟨_,_,false,0::([]++[]),?_,Em e6 hs,Ab,oI,dI,?_⟩);focus (exact Ak (gone:=[]) (gone1:=[]) rfl aI (by decide) (by decide) (by decide) rfl aM));refine G1 ?_;intro gg;rcases e7:Fo s a6 k with _|⟨tx,a7⟩
    ·(refine .inr (.inr ⟨_,false,0::([]++[]),_,?_,Ad4 (R:=rdC s 0) e7 hs (by omega) (by omega),rfl⟩);focus (exact Ak (gone:=[]) (gone1:=[]) rfl aI (by decide) (by decide) (by decide) rfl aM))
    rw[e7,ZA]at h;simp only at h;have be7:=Kf e7;(refine .inr (.inl ⟨_,_,false,0::([]++[]),?_,Rt e7 hs (by omega) (by omega),Ab,oI,dI,?_⟩);focus (exact Ak (gone:=[]) (gone1:=[]) rfl aI (by decide) (by decide) (by decide) rfl aM));refine G1 ?_;intro gg;rw[ZA]at h;simp only at h;by_cases c9:a7=a5+n
    ·rw[if_pos c9]at h;(refine .inl ⟨_,_,true,[],aI,Bi _ (ZR.2 (by omega)),(fun _=>fI),nI,?_⟩);refine G1 ?_;intro gg;cases h
    ·(exact .inr (.inr ⟨_,true,[],_,aM,Cj _ (ZG.2 (by omega)),rfl⟩))
   by_cases t3:t=33
   ·subst t3;rw[Ah8]at h;rw[show(((33:Nat):Int)==1)=false from rfl];refine G0 ?_;rw[show(((33:Nat):Int)==16)=false from rfl];refine G0 ?_;rw[show(((33:Nat):Int)==33)=true from rfl];refine G0 ?_;rcases e6:Bt s a5 with _|⟨z,a6⟩
    ·(refine .inr (.inr ⟨_,false,0::([]++[]),_,?_,Ea (R:=rdC s 0) e6 hs,rfl⟩);focus (exact Ak (gone:=[]) (gone1:=[]) rfl aI (by decide) (by decide) (by decide) rfl aM))
    rw[e6,ZA]at h;simp only at h;have be6:=Bk e6;(refine .inr (.inl ⟨_,_,false,0::([]++[]),?_,Bl e6 hs,Ab,oI,dI,?_⟩);focus (exact Ak (gone:=[]) (gone1:=[]) rfl aI (by decide) (by decide) (by decide) rfl aM));refine G1 ?_;intro gg;by_cases c6:z=0
    ·rw[if_pos c6]at h;rw[show((z:Int)==0)=true from ZR.2 (by omega)];refine G0 ?_;rcases e7:Bt s a6 with _|⟨y,a7⟩
     ·(refine .inr (.inr ⟨_,false,0::([]++[]),_,?_,Ea (R:=rdC s 0) e7 hs,rfl⟩);focus (exact Ak (gone:=[]) (gone1:=[]) rfl aI (by decide) (by decide) (by decide) rfl aM))
     rw[e7,ZA]at h;simp only at h;have be7:=Bk e7;(refine .inr (.inl ⟨_,_,false,0::([]++[]),?_,Bl e7 hs,Ab,oI,dI,?_⟩);focus (exact Ak (gone:=[]) (gone1:=[]) rfl aI (by decide) (by decide) (by decide) rfl aM));refine G1 ?_;intro gg;by_cases c7:y=0
     ·rw[if_pos c7]at h;(refine .inl ⟨_,_,true,[],aI,Bi _ (ZR.2 (by omega)),(fun _=>fI),nI,?_⟩);refine G1 ?_;intro gg;rcases e8:Bt s a7 with _|⟨pt,a8⟩
      ·(refine .inr (.inr ⟨_,false,0::([]++[]),_,?_,Ea (R:=rdC s 0) e8 hs,rfl⟩);focus (exact Ak (gone:=[]) (gone1:=[]) rfl aI (by decide) (by decide) (by decide) rfl aM))
      rw[e8,ZA]at h;simp only at h;have be8:=Bk e8;(refine .inr (.inl ⟨_,_,false,0::([]++[]),?_,Bl e8 hs,Ab,oI,dI,?_⟩);focus (exact Ak (gone:=[]) (gone1:=[]) rfl aI (by decide) (by decide) (by decide) rfl aM));refine G1 ?_;intro gg;rcases e9:Eq s a8 with _|⟨tg,a9⟩
      ·(refine .inr (.inr ⟨_,false,0::([]++[]),_,?_,Vj (R:=rdC s 0) e9 hs (by omega),rfl⟩);focus (exact Ak (gone:=[]) (gone1:=[]) rfl aI (by decide) (by decide) (by decide) rfl aM))
      rw[e9,ZA]at h;simp only at h;have be9:=Ij e9;(refine .inr (.inl ⟨_,_,false,0::([]++[]),?_,Kh e9 hs (by omega),Ab,oI,dI,?_⟩);focus (exact Ak (gone:=[]) (gone1:=[]) rfl aI (by decide) (by decide) (by decide) rfl aM));refine G1 ?_;intro gg;rw[ZA]at h;simp only at h;by_cases c9:a9=a5+n
      ·rw[if_pos c9]at h;(refine .inl ⟨_,_,true,[],aI,Bi _ (ZR.2 (by omega)),(fun _=>fI),nI,?_⟩);refine G1 ?_;intro gg;cases h
      ·(exact .inr (.inr ⟨_,true,[],_,aM,Cj _ (ZG.2 (by omega)),rfl⟩))
     ·(exact .inr (.inr ⟨_,true,[],_,aM,Cj _ (ZG.2 (by omega)),rfl⟩))
    ·rw[show((z:Int)==0)=false from ZG.2 (by omega)];refine G0 ?_;(exact .inr (.inr ⟨_,true,[],_,aM,Cj _ rfl,rfl⟩))
   rw[show((t:Int)==1)=false from ZG.2 (by omega)];refine G0 ?_;rw[show((t:Int)==16)=false from ZG.2 (by omega)];refine G0 ?_;rw[show((t:Int)==33)=false from ZG.2 (by omega)];refine G0 ?_;(exact .inr (.inr ⟨_,true,[],_,aM,Cj _ rfl,rfl⟩))
  ·(exact .inr (.inr ⟨_,true,[],_,aM,Cj _ (ZY (by omega)),rfl⟩))
 ·(exact .inr (.inr ⟨_,true,[],_,aM,Cj _ (ZG.2 (by omega)),rfl⟩))
theorem Yv{s:ByteArray}{a a':Nat}{v:Rr}(h:Pp s a=some (v,a')):a'≤s.size∧v.nm.size≤1000∧v.tx.size≤s.size∧v.tg.size≤1000:=by
 unfold Pp at h;rcases e1:Eq s a with _|⟨nm,a1⟩
 ·rw[e1]at h;cases h
 rw[e1,ZA]at h;simp only at h;rcases e2:Bt s a1 with _|⟨t,a2⟩
 ·rw[e2]at h;cases h
 rw[e2,ZA]at h;simp only at h;rcases e3:Bt s a2 with _|⟨one,a3⟩
 ·rw[e3]at h;cases h
 rw[e3,ZA]at h;simp only at h;split at h
 ·rcases e4:Gp s a3 with _|⟨ls,a4⟩
  ·rw[e4]at h;cases h
  rw[e4,ZA]at h;simp only at h;rcases e5:Bt s a4 with _|⟨n,a5⟩
  ·rw[e5]at h;cases h
  rw[e5,ZA]at h;simp only at h;split at h
  ·rename_i c5;rcases e6:Il s t a5 with _|⟨⟨ad,tx,pt,tg⟩,a6⟩
   ·rw[e6]at h;cases h
   rw[e6,ZA]at h;simp only at h;split at h
   ·rename_i c6;cases h;have b1:=(Ij e1).2;have key:tx.size≤s.size∧tg.size≤1000:=by
     unfold Il at e6;split at e6
     ·rcases f1:Gp s a5 with _|⟨x1,y1⟩<;>rw[f1]at e6<;>cases e6;exact⟨ZU _,ZU _⟩
     ·split at e6
      ·rcases f1:Cr s a5 with _|⟨x1,y1⟩
       ·rw[f1]at e6;cases e6
       rw[f1,ZA]at e6;simp only at e6;rcases f2:Fo s y1 x1 with _|⟨x2,y2⟩<;>rw[f2]at e6<;>cases e6
       have:=Kf f2;exact⟨show x2.size≤s.size by omega,ZU _⟩
      ·split at e6
       ·rcases f1:Bt s a5 with _|⟨x1,y1⟩
        ·rw[f1]at e6;cases e6
        rw[f1,ZA]at e6;simp only at e6;split at e6
        ·rcases f2:Bt s y1 with _|⟨x2,y2⟩
         ·rw[f2]at e6;cases e6
         rw[f2,ZA]at e6;simp only at e6;split at e6
         ·rcases f3:Bt s y2 with _|⟨x3,y3⟩
          ·rw[f3]at e6;cases e6
          rw[f3,ZA]at e6;simp only at e6;rcases f4:Eq s y3 with _|⟨x4,y4⟩<;>rw[f4]at e6<;>cases e6
          exact⟨ZU _,(Ij f4).2⟩
         ·cases e6
        ·cases e6
       ·cases e6
    exact⟨by omega,b1,key.1,key.2⟩
   ·cases h
  ·cases h
 ·cases h
def Af6(id:Int)(an ct:Bool)(co:Int)(qn:ByteArray)(qt:Int)(v:V):List V:=[.v (.int .i64 id),.v (.bool an),.v (.bool ct),.v (.int .i64 co),.v (.string qn),.v (.int .i64 qt),v]
def Ba4(s:ByteArray)(gz gb:Nat)(id:Int)(an ct:Bool)(co:Int)(qn:ByteArray)(qt:Int)(a:Nat)(L:List Rr)(g:Nat):List (Nat×Ent):=
 match L with
 |[]=>[(32,⟨gz,.b 52,7,[Af6 0 false false 0 ⟨#[]⟩ 0 (.v (.slice none 0 0))]⟩),(48,⟨gb,.b 52,7,[Af6 id an ct co qn qt (.v (.slice none 0 0))]⟩),(0,⟨0,.b rdT,2,[[.v (.string s),.v (.int .i64 (a:Int))]]⟩)]
 |r::L=>[(32,⟨gz,.b 52,7,[Af6 0 false false 0 ⟨#[]⟩ 0 (.v (.slice none 0 0))]⟩),(48,⟨gb,.b 52,7,[Af6 id an ct co qn qt (.own 1168 g)]⟩),(1168,⟨g,.t 42,7,(r::L).map Rr.row⟩),(0,⟨0,.b rdT,2,[[.v (.string s),.v (.int .i64 (a:Int))]]⟩)]
theorem Ou(env:Env)(lv:List (Nat×V)):hdE env [] lv=hdE (fun _=>.any) [] lv:=rfl
theorem O8(H:Hp)(ho:List (Nat×Ent)):hdH H [] ho=hdH noH [] ho:=rfl
theorem Iz(env env':Env):Xq env env' []=True:=rfl
theorem Iv(H H':Hp):Xl H H' []=True:=rfl
structure RcI(s:ByteArray)(n:Nat)(R:Option (List Rr×Nat))(k a:Nat)(L:List Rr):Prop where
 hr:(Fg s (n-k) a).map (fun p=>(L++p.1,p.2))=R
 hk:k≤n
 hl:L.length=k
 ha:a≤s.size
 hz:∀r∈L,r.nm.size≤1000∧r.tx.size≤s.size∧r.tg.size≤1000
theorem Avt{a:Nat}(h:a<256):(IntKind.i64.wrap ((BitVec.ofInt IntKind.i64.bits (a:Int)&&& ~~~ BitVec.ofInt IntKind.i64.bits 130).toNat)==0)=Af0 a:=by
 have key:∀k:Fin 256,(IntKind.i64.wrap ((BitVec.ofInt IntKind.i64.bits (k.val:Int)&&& ~~~ BitVec.ofInt IntKind.i64.bits 130).toNat)==0)=Af0 k.val:=by decide+kernel
 exact key ⟨a,h⟩
theorem Ave{a:Nat}(h:a<256):decide (0<IntKind.i64.wrap ((BitVec.ofInt IntKind.i64.bits (a:Int)&&&BitVec.ofInt IntKind.i64.bits 128).toNat))=decide (128≤a):=by
 have key:∀k:Fin 256,decide (0<IntKind.i64.wrap ((BitVec.ofInt IntKind.i64.bits (k.val:Int)&&&BitVec.ofInt IntKind.i64.bits 128).toNat))=decide (128≤k.val):=by decide+kernel
 exact key ⟨a,h⟩
theorem Avf{a:Nat}(h:a<256):decide (0<IntKind.i64.wrap ((BitVec.ofInt IntKind.i64.bits (a:Int)&&&BitVec.ofInt IntKind.i64.bits 2).toNat))=decide (a%4≥2):=by
 have key:∀k:Fin 256,decide (0<IntKind.i64.wrap ((BitVec.ofInt IntKind.i64.bits (k.val:Int)&&&BitVec.ofInt IntKind.i64.bits 2).toNat))=decide (k.val%4≥2):=by decide+kernel
 exact key ⟨a,h⟩
theorem RcI.start{s:ByteArray}{n a:Nat}(ha:a≤s.size):RcI s n (Fg s n a) 0 a []:=⟨by simp,by omega,rfl,ha,by simp⟩
theorem RcI.next{s:ByteArray}{n k a a2:Nat}{R:Option (List Rr×Nat)}{L:List Rr}{r:Rr}(h:RcI s n R k a L)(hk:k<n)(e:Pp s a=some (r,a2)):RcI s n R (k+1) a2 (L++[r]):=by
 have hb:=Yv e;refine⟨?_,by omega,by simp[h.hl],hb.1,fun x hx=>?_⟩
 ·rw[←h.hr,show n-k=(n-(k+1))+1 by omega];rw[Fg,e,ZA];simp only;cases Fg s (n-(k+1)) a2 with
  |none=>rfl
  |some p=>simp
 ·rcases XM.1 hx with hx|hx
  ·exact h.hz x hx
  ·simp at hx;subst hx;exact⟨hb.2.1,hb.2.2.1,hb.2.2.2⟩
theorem RcI.none{s:ByteArray}{n k a:Nat}{R:Option (List Rr×Nat)}{L:List Rr}(h:RcI s n R k a L)(hk:k<n)(e:Pp s a=none):R=none:=by
 rw[←h.hr,show n-k=(n-(k+1))+1 by omega,Fg,e];rfl
theorem RcI.end_{s:ByteArray}{n k a:Nat}{R:Option (List Rr×Nat)}{L:List Rr}(h:RcI s n R k a L)(hk:¬k<n):R=some (L,a):=by
 have:=h.hk;rw[←h.hr,show n-k=0 by omega,Fg];simp
set_option maxHeartbeats 4000000 in
theorem Afk{s:ByteArray}{v:Ms}(h:Od s=some v)(hs:s.size≤1000000):H3 Tryz.prog 38 [.mn rdT (rdC s 0) (rdC s s.size)] [.p (.c (.agg v.row))]:=by
 unfold Od at h;refine Ame Im rfl (Ka rfl) ?_;refine G1 ?_;intro gg;revert gg;intro gz;rcases e1:Bt s 0 with _|⟨i,a1⟩
 ·rw[e1]at h;cases h
 rw[e1,ZA]at h;simp only at h;have be1:=Bk e1;(refine .inr (.inl ⟨_,_,false,0::([]++[]),?_,Bl e1 hs,Ab,oI,dI,?_⟩);focus (exact Ak (gone:=[]) (gone1:=[]) rfl aI (by decide) (by decide) (by decide) rfl aM));(refine goI ?_;repeat (intro gg;refine goI ?_));revert gg;intro gb;rcases e2:Cr s a1 with _|⟨fl,a2⟩
 ·rw[e2]at h;cases h
 rw[e2,ZA]at h;simp only at h;have be2:=C4 e2;(refine .inr (.inl ⟨_,_,false,0::([]++[]),?_,Em e2 hs,Ab,oI,dI,?_⟩);focus (exact Ak (gone:=[]) (gone1:=[]) rfl aI (by decide) (by decide) (by decide) rfl aM));refine G1 ?_;intro gg;rcases e3:Cr s a2 with _|⟨co,a3⟩
 ·rw[e3]at h;cases h
 rw[e3,ZA]at h;simp only at h;have be3:=C4 e3;(refine .inr (.inl ⟨_,_,false,0::([]++[]),?_,Em e3 hs,Ab,oI,dI,?_⟩);focus (exact Ak (gone:=[]) (gone1:=[]) rfl aI (by decide) (by decide) (by decide) rfl aM));refine G1 ?_;intro gg;refine⟨_,rfl,?_⟩;refine G0 ?_;rw[Avt be2.1];by_cases q1:Af0 fl=true;rotate_left
 ·rw[if_neg (by simp[q1])]at h;cases h
 rw[q1]at h ⊢;refine G0 ?_;by_cases q2:co<16;rotate_left
 ·rw[if_neg (by simp[q2])]at h;cases h
 rw[if_pos (by simp[q2])]at h;(refine .inl ⟨_,_,true,[],aI,Bi _ (ZX (by omega)),(fun _=>fI),nI,?_⟩);refine G1 ?_;intro gg;refine⟨_,rfl,?_⟩;refine G0 ?_;refine⟨_,rfl,?_⟩;refine G0 ?_;rw[Ave be2.1,Avf be2.1];obtain⟨an,han⟩:∃x,x=decide (128≤fl):=⟨_,rfl⟩;obtain⟨ct,hct⟩:∃x,x=decide (fl%4≥2):=⟨_,rfl⟩;rw[←han,←hct]at h ⊢;rcases e4:Bt s a3 with _|⟨one,a4⟩
 ·rw[e4]at h;cases h
 rw[e4,ZA]at h;simp only at h;have be4:=Bk e4;(refine .inr (.inl ⟨_,_,false,0::([]++[]),?_,Bl e4 hs,Ab,oI,dI,?_⟩);focus (exact Ak (gone:=[]) (gone1:=[]) rfl aI (by decide) (by decide) (by decide) rfl aM));refine G1 ?_;intro gg;by_cases c4:one=1;rotate_left
 ·rw[if_neg c4]at h;cases h
 rw[if_pos c4]at h;(refine .inl ⟨_,_,true,[],aI,Bi _ (ZR.2 (by omega)),(fun _=>fI),nI,?_⟩);refine G1 ?_;intro gg;rcases e5:Bt s a4 with _|⟨n,a5⟩
 ·rw[e5]at h;cases h
 rw[e5,ZA]at h;simp only at h;have be5:=Bk e5;(refine .inr (.inl ⟨_,_,false,0::([]++[]),?_,Bl e5 hs,Ab,oI,dI,?_⟩);focus (exact Ak (gone:=[]) (gone1:=[]) rfl aI (by decide) (by decide) (by decide) rfl aM));refine G1 ?_;intro gg;by_cases c5:n≤20;rotate_left
 ·rw[if_neg c5]at h;cases h
 rw[if_pos c5]at h;rw[show(decide ((n:Int)≤20))=true from ZX (by omega)];refine G0 ?_;rcases e6:Bt s a5 with _|⟨z,a6⟩
 ·rw[e6]at h;cases h
 rw[e6,ZA]at h;simp only at h;have be6:=Bk e6;(refine .inr (.inl ⟨_,_,false,0::([]++[]),?_,Bl e6 hs,Ab,oI,dI,?_⟩);focus (exact Ak (gone:=[]) (gone1:=[]) rfl aI (by decide) (by decide) (by decide) rfl aM));refine G1 ?_;intro gg;by_cases c6:z=0;rotate_left
 ·rw[if_neg c6]at h;cases h
 rw[if_pos c6]at h;rw[show((z:Int)==0)=true from ZR.2 (by omega)];refine G0 ?_;rcases e7:Bt s a6 with _|⟨y,a7⟩
 ·rw[e7]at h;cases h
 rw[e7,ZA]at h;simp only at h;have be7:=Bk e7;(refine .inr (.inl ⟨_,_,false,0::([]++[]),?_,Bl e7 hs,Ab,oI,dI,?_⟩);focus (exact Ak (gone:=[]) (gone1:=[]) rfl aI (by decide) (by decide) (by decide) rfl aM));refine G1 ?_;intro gg;by_cases c7:y=0;rotate_left
 ·rw[if_neg c7]at h;cases h
 rw[if_pos c7]at h;(refine .inl ⟨_,_,true,[],aI,Bi _ (ZR.2 (by omega)),(fun _=>fI),nI,?_⟩);refine G1 ?_;intro gg;rcases e8:Eq s a7 with _|⟨qn,a8⟩
 ·rw[e8]at h;cases h
 rw[e8,ZA]at h;simp only at h;have be8:=Ij e8;(refine .inr (.inl ⟨_,_,false,0::([]++[]),?_,Kh e8 hs (by omega),Ab,oI,dI,?_⟩);focus (exact Ak (gone:=[]) (gone1:=[]) rfl aI (by decide) (by decide) (by decide) rfl aM));refine G1 ?_;intro gg;rcases e9:Bt s a8 with _|⟨qt,a9⟩
 ·rw[e9]at h;cases h
 rw[e9,ZA]at h;simp only at h;have be9:=Bk e9;(refine .inr (.inl ⟨_,_,false,0::([]++[]),?_,Bl e9 hs,Ab,oI,dI,?_⟩);focus (exact Ak (gone:=[]) (gone1:=[]) rfl aI (by decide) (by decide) (by decide) rfl aM));refine G1 ?_;intro gg;rcases e10:Bt s a9 with _|⟨d,a10⟩
 ·rw[e10]at h;cases h
 rw[e10,ZA]at h;simp only at h;have be10:=Bk e10;(refine .inr (.inl ⟨_,_,false,0::([]++[]),?_,Bl e10 hs,Ab,oI,dI,?_⟩);focus (exact Ak (gone:=[]) (gone1:=[]) rfl aI (by decide) (by decide) (by decide) rfl aM));refine G1 ?_;intro gg;by_cases c10:d=1;rotate_left
 ·rw[if_neg c10]at h;cases h
 rw[if_pos c10]at h;(refine .inl ⟨_,_,true,[],aI,Bi _ (ZR.2 (by omega)),(fun _=>fI),nI,?_⟩);refine G1 ?_;intro gg;have hT:=be10.2.2;clear e1 e2 e3 e4 e5 e6 e7 e8 e9 e10 be1 be2 be3 be4 be6 be7 be9 be10;(refine⟨[],none,{p:Nat×Nat×List Rr×Nat//RcI s n (Fg s n a10) p.1 p.2.1 p.2.2.1},[],fun⟨⟨k,a,L,g⟩,hp⟩=>[(0,.ptr 0 0 0 0),(2,.ptr 32 gz 0 0),(3,.ptr 48 gb 0 0),(65,.v (.int .i64 (n:Int))),(66,.v (.int .i64 (k:Int)))],[],fun⟨⟨k,a,L,g⟩,hp⟩=>Ba4 s gz gb i an ct co qn qt a L g,fun⟨⟨k,a,L,g⟩,hp⟩=>n-k,trivial,fun _=>⟨trivial,fun _=>⟨⟨(0,a10,[],0),RcI.start hT⟩,tI,Af _ _,tI,Ae _ _⟩⟩,fun⟨⟨k,a,L,g⟩,hp⟩=>?_⟩);simp only at hp;simp only[Ou,O8,Iz,Iv];have hk:=hp.hk;have hl:=hp.hl;by_cases c11:k<n
 ·rcases e:Pp s a with _|⟨r,a2⟩
  ·have hn:=hp.none c11 e;rw[hn]at h;cases h
  ·have hnx:=RcI.next hp c11 e;have b:=Yv e;have hr7:(([r].map Rr.row):List (List V))=[r.row]:=rfl;have hn20:L.length≤20:=by omega
   rcases L with _|⟨r0,L⟩
   ·refine G0 ?_;(refine Ic ?_ ?_;focus (exact ZX (by omega)));refine G0 ?_;refine⟨?_,?_⟩
    ·refine G0 ?_;refine⟨?_,?_⟩
     ·refine G0 ?_;(refine .inr (.inl ⟨_,_,false,0::([]++[]),?_,Bb e hs hp.ha,Ab,oI,dI,?_⟩);focus (exact Ak (gone:=[]) (gone1:=[]) rfl aI (by decide) (by decide) (by decide) rfl aM));(refine goI ?_;repeat (intro gg;refine goI ?_));refine⟨lI,lI,?_⟩;refine G1 ?_;intro gg;(exact⟨none,trivial,fun gr=>⟨⟨(k+1,a2,[r],gg),hnx⟩,by show n-(k+1)<n-k;omega,tI,tI,⟨rfl,⟨rfl,⟨rfl,⟨rfl,trivial⟩⟩⟩⟩,tI⟩⟩)
     ·refine G0 ?_;refine⟨?_,?_⟩
      ·refine G0 ?_;(refine .inr (.inl ⟨_,_,false,0::([]++[]),?_,Bb e hs hp.ha,Ab,oI,dI,?_⟩);focus (exact Ak (gone:=[]) (gone1:=[]) rfl aI (by decide) (by decide) (by decide) rfl aM));(refine goI ?_;repeat (intro gg;refine goI ?_));refine⟨lI,lI,?_⟩;refine G1 ?_;intro gg;(exact⟨none,trivial,fun gr=>⟨⟨(k+1,a2,[r],gg),hnx⟩,by show n-(k+1)<n-k;omega,tI,tI,⟨rfl,⟨rfl,⟨rfl,⟨rfl,trivial⟩⟩⟩⟩,tI⟩⟩)
      ·refine G0 ?_;(refine .inr (.inl ⟨_,_,false,0::([]++[]),?_,Bb e hs hp.ha,Ab,oI,dI,?_⟩);focus (exact Ak (gone:=[]) (gone1:=[]) rfl aI (by decide) (by decide) (by decide) rfl aM));refine G1 ?_;intro gg;refine⟨?_,?_⟩
       ·refine G1 ?_;intro gg;refine⟨lI,lI,?_⟩;refine G1 ?_;intro gg;(exact⟨none,trivial,fun gr=>⟨⟨(k+1,a2,[r],gg),hnx⟩,by show n-(k+1)<n-k;omega,tI,tI,⟨rfl,⟨rfl,⟨rfl,⟨rfl,trivial⟩⟩⟩⟩,tI⟩⟩)
       ·refine G1 ?_;intro gg;refine⟨lI,lI,?_⟩;refine G1 ?_;intro gg;(exact⟨none,trivial,fun gr=>⟨⟨(k+1,a2,[r],gg),hnx⟩,by show n-(k+1)<n-k;omega,tI,tI,⟨rfl,⟨rfl,⟨rfl,⟨rfl,trivial⟩⟩⟩⟩,tI⟩⟩)
    ·refine G0 ?_;refine⟨?_,?_⟩
     ·refine G0 ?_;refine⟨?_,?_⟩
      ·refine G0 ?_;(refine .inr (.inl ⟨_,_,false,0::([]++[]),?_,Bb e hs hp.ha,Ab,oI,dI,?_⟩);focus (exact Ak (gone:=[]) (gone1:=[]) rfl aI (by decide) (by decide) (by decide) rfl aM));(refine goI ?_;repeat (intro gg;refine goI ?_));refine⟨lI,lI,?_⟩;refine G1 ?_;intro gg;(exact⟨none,trivial,fun gr=>⟨⟨(k+1,a2,[r],gg),hnx⟩,by show n-(k+1)<n-k;omega,tI,tI,⟨rfl,⟨rfl,⟨rfl,⟨rfl,trivial⟩⟩⟩⟩,tI⟩⟩)
      ·refine G0 ?_;(refine .inr (.inl ⟨_,_,false,0::([]++[]),?_,Bb e hs hp.ha,Ab,oI,dI,?_⟩);focus (exact Ak (gone:=[]) (gone1:=[]) rfl aI (by decide) (by decide) (by decide) rfl aM));refine G1 ?_;intro gg;refine⟨?_,?_⟩
       ·refine G1 ?_;intro gg;refine⟨lI,lI,?_⟩;refine G1 ?_;intro gg;(exact⟨none,trivial,fun gr=>⟨⟨(k+1,a2,[r],gg),hnx⟩,by show n-(k+1)<n-k;omega,tI,tI,⟨rfl,⟨rfl,⟨rfl,⟨rfl,trivial⟩⟩⟩⟩,tI⟩⟩)
       ·refine G1 ?_;intro gg;refine⟨lI,lI,?_⟩;refine G1 ?_;intro gg;(exact⟨none,trivial,fun gr=>⟨⟨(k+1,a2,[r],gg),hnx⟩,by show n-(k+1)<n-k;omega,tI,tI,⟨rfl,⟨rfl,⟨rfl,⟨rfl,trivial⟩⟩⟩⟩,tI⟩⟩)
     ·refine G0 ?_;(refine .inr (.inl ⟨_,_,false,0::([]++[]),?_,Bb e hs hp.ha,Ab,oI,dI,?_⟩);focus (exact Ak (gone:=[]) (gone1:=[]) rfl aI (by decide) (by decide) (by decide) rfl aM));refine G1 ?_;intro gg;refine⟨?_,?_⟩
      ·refine G0 ?_;refine⟨?_,?_⟩
       ·refine G1 ?_;intro gg;refine⟨lI,lI,?_⟩;refine G1 ?_;intro gg;(exact⟨none,trivial,fun gr=>⟨⟨(k+1,a2,[r],gg),hnx⟩,by show n-(k+1)<n-k;omega,tI,tI,⟨rfl,⟨rfl,⟨rfl,⟨rfl,trivial⟩⟩⟩⟩,tI⟩⟩)
       ·refine G1 ?_;intro gg;refine⟨lI,lI,?_⟩;refine G1 ?_;intro gg;(exact⟨none,trivial,fun gr=>⟨⟨(k+1,a2,[r],gg),hnx⟩,by show n-(k+1)<n-k;omega,tI,tI,⟨rfl,⟨rfl,⟨rfl,⟨rfl,trivial⟩⟩⟩⟩,tI⟩⟩)
      ·refine G1 ?_;intro gg;refine⟨lI,lI,?_⟩;refine G1 ?_;intro gg;(exact⟨none,trivial,fun gr=>⟨⟨(k+1,a2,[r],gg),hnx⟩,by show n-(k+1)<n-k;omega,tI,tI,⟨rfl,⟨rfl,⟨rfl,⟨rfl,trivial⟩⟩⟩⟩,tI⟩⟩)
   ·have hn21:L.length≤20:=by simp only[ZJ]at hn20;omega
    refine G0 ?_;(refine Ic ?_ ?_;focus (exact ZX (by omega)));refine G0 ?_;refine⟨?_,?_⟩
    ·refine G0 ?_;refine⟨?_,?_⟩
     ·refine G0 ?_;(refine .inr (.inl ⟨_,_,false,0::([]++[]),?_,Bb e hs hp.ha,Ab,oI,dI,?_⟩);focus (exact Ak (gone:=[]) (gone1:=[]) rfl aI (by decide) (by decide) (by decide) rfl aM));(refine goI ?_;repeat (intro gg;refine goI ?_));refine⟨lI,lI,?_⟩;refine G1 ?_;intro gg;(exact⟨none,trivial,fun gr=>⟨⟨(k+1,a2,(r0::L)++[r],gg),hnx⟩,by show n-(k+1)<n-k;omega,tI,tI,⟨rfl,⟨rfl,⟨congrArg (fun x=>some (Ent.mk gg (.t 42) 7 x)) (show(r0::L).map Rr.row++[r.row]=((r0::L)++[r]).map Rr.row by rw[ZI];rfl),⟨rfl,trivial⟩⟩⟩⟩,tI⟩⟩)
     ·refine G0 ?_;refine⟨?_,?_⟩
      ·refine G0 ?_;(refine .inr (.inl ⟨_,_,false,0::([]++[]),?_,Bb e hs hp.ha,Ab,oI,dI,?_⟩);focus (exact Ak (gone:=[]) (gone1:=[]) rfl aI (by decide) (by decide) (by decide) rfl aM));(refine goI ?_;repeat (intro gg;refine goI ?_));refine⟨lI,lI,?_⟩;refine G1 ?_;intro gg;(exact⟨none,trivial,fun gr=>⟨⟨(k+1,a2,(r0::L)++[r],gg),hnx⟩,by show n-(k+1)<n-k;omega,tI,tI,⟨rfl,⟨rfl,⟨congrArg (fun x=>some (Ent.mk gg (.t 42) 7 x)) (show(r0::L).map Rr.row++[r.row]=((r0::L)++[r]).map Rr.row by rw[ZI];rfl),⟨rfl,trivial⟩⟩⟩⟩,tI⟩⟩)
      ·refine G0 ?_;(refine .inr (.inl ⟨_,_,false,0::([]++[]),?_,Bb e hs hp.ha,Ab,oI,dI,?_⟩);focus (exact Ak (gone:=[]) (gone1:=[]) rfl aI (by decide) (by decide) (by decide) rfl aM));refine G1 ?_;intro gg;refine⟨?_,?_⟩
       ·refine G1 ?_;intro gg;refine⟨lI,lI,?_⟩;refine G1 ?_;intro gg;(exact⟨none,trivial,fun gr=>⟨⟨(k+1,a2,(r0::L)++[r],gg),hnx⟩,by show n-(k+1)<n-k;omega,tI,tI,⟨rfl,⟨rfl,⟨congrArg (fun x=>some (Ent.mk gg (.t 42) 7 x)) (show(r0::L).map Rr.row++[r.row]=((r0::L)++[r]).map Rr.row by rw[ZI];rfl),⟨rfl,trivial⟩⟩⟩⟩,tI⟩⟩)
       ·refine G1 ?_;intro gg;refine⟨lI,lI,?_⟩;refine G1 ?_;intro gg;(exact⟨none,trivial,fun gr=>⟨⟨(k+1,a2,(r0::L)++[r],gg),hnx⟩,by show n-(k+1)<n-k;omega,tI,tI,⟨rfl,⟨rfl,⟨congrArg (fun x=>some (Ent.mk gg (.t 42) 7 x)) (show(r0::L).map Rr.row++[r.row]=((r0::L)++[r]).map Rr.row by rw[ZI];rfl),⟨rfl,trivial⟩⟩⟩⟩,tI⟩⟩)
    ·refine G0 ?_;refine⟨?_,?_⟩
     ·refine G0 ?_;refine⟨?_,?_⟩
      ·refine G0 ?_;(refine .inr (.inl ⟨_,_,false,0::([]++[]),?_,Bb e hs hp.ha,Ab,oI,dI,?_⟩);focus (exact Ak (gone:=[]) (gone1:=[]) rfl aI (by decide) (by decide) (by decide) rfl aM));(refine goI ?_;repeat (intro gg;refine goI ?_));refine⟨lI,lI,?_⟩;refine G1 ?_;intro gg;(exact⟨none,trivial,fun gr=>⟨⟨(k+1,a2,(r0::L)++[r],gg),hnx⟩,by show n-(k+1)<n-k;omega,tI,tI,⟨rfl,⟨rfl,⟨congrArg (fun x=>some (Ent.mk gg (.t 42) 7 x)) (show(r0::L).map Rr.row++[r.row]=((r0::L)++[r]).map Rr.row by rw[ZI];rfl),⟨rfl,trivial⟩⟩⟩⟩,tI⟩⟩)
      ·refine G0 ?_;(refine .inr (.inl ⟨_,_,false,0::([]++[]),?_,Bb e hs hp.ha,Ab,oI,dI,?_⟩);focus (exact Ak (gone:=[]) (gone1:=[]) rfl aI (by decide) (by decide) (by decide) rfl aM));refine G1 ?_;intro gg;refine⟨?_,?_⟩
       ·refine G1 ?_;intro gg;refine⟨lI,lI,?_⟩;refine G1 ?_;intro gg;(exact⟨none,trivial,fun gr=>⟨⟨(k+1,a2,(r0::L)++[r],gg),hnx⟩,by show n-(k+1)<n-k;omega,tI,tI,⟨rfl,⟨rfl,⟨congrArg (fun x=>some (Ent.mk gg (.t 42) 7 x)) (show(r0::L).map Rr.row++[r.row]=((r0::L)++[r]).map Rr.row by rw[ZI];rfl),⟨rfl,trivial⟩⟩⟩⟩,tI⟩⟩)
       ·refine G1 ?_;intro gg;refine⟨lI,lI,?_⟩;refine G1 ?_;intro gg;(exact⟨none,trivial,fun gr=>⟨⟨(k+1,a2,(r0::L)++[r],gg),hnx⟩,by show n-(k+1)<n-k;omega,tI,tI,⟨rfl,⟨rfl,⟨congrArg (fun x=>some (Ent.mk gg (.t 42) 7 x)) (show(r0::L).map Rr.row++[r.row]=((r0::L)++[r]).map Rr.row by rw[ZI];rfl),⟨rfl,trivial⟩⟩⟩⟩,tI⟩⟩)
     ·refine G0 ?_;(refine .inr (.inl ⟨_,_,false,0::([]++[]),?_,Bb e hs hp.ha,Ab,oI,dI,?_⟩);focus (exact Ak (gone:=[]) (gone1:=[]) rfl aI (by decide) (by decide) (by decide) rfl aM));refine G1 ?_;intro gg;refine⟨?_,?_⟩
      ·refine G0 ?_;refine⟨?_,?_⟩
       ·refine G1 ?_;intro gg;refine⟨lI,lI,?_⟩;refine G1 ?_;intro gg;(exact⟨none,trivial,fun gr=>⟨⟨(k+1,a2,(r0::L)++[r],gg),hnx⟩,by show n-(k+1)<n-k;omega,tI,tI,⟨rfl,⟨rfl,⟨congrArg (fun x=>some (Ent.mk gg (.t 42) 7 x)) (show(r0::L).map Rr.row++[r.row]=((r0::L)++[r]).map Rr.row by rw[ZI];rfl),⟨rfl,trivial⟩⟩⟩⟩,tI⟩⟩)
       ·refine G1 ?_;intro gg;refine⟨lI,lI,?_⟩;refine G1 ?_;intro gg;(exact⟨none,trivial,fun gr=>⟨⟨(k+1,a2,(r0::L)++[r],gg),hnx⟩,by show n-(k+1)<n-k;omega,tI,tI,⟨rfl,⟨rfl,⟨congrArg (fun x=>some (Ent.mk gg (.t 42) 7 x)) (show(r0::L).map Rr.row++[r.row]=((r0::L)++[r]).map Rr.row by rw[ZI];rfl),⟨rfl,trivial⟩⟩⟩⟩,tI⟩⟩)
      ·refine G1 ?_;intro gg;refine⟨lI,lI,?_⟩;refine G1 ?_;intro gg;(exact⟨none,trivial,fun gr=>⟨⟨(k+1,a2,(r0::L)++[r],gg),hnx⟩,by show n-(k+1)<n-k;omega,tI,tI,⟨rfl,⟨rfl,⟨congrArg (fun x=>some (Ent.mk gg (.t 42) 7 x)) (show(r0::L).map Rr.row++[r.row]=((r0::L)++[r]).map Rr.row by rw[ZI];rfl),⟨rfl,trivial⟩⟩⟩⟩,tI⟩⟩)
 ·have he:=hp.end_ c11;rw[he,ZA]at h;simp only at h;rcases L with _|⟨r0,L⟩
  ·refine G0 ?_;(refine Hr ?_ ?_;focus (exact ZY (by omega)));refine G0 ?_;by_cases c12:a=s.size
   ·rw[if_pos c12]at h;cases h;subst c12;(refine .inl ⟨_,_,true,[],aI,Bi _ (beq_self_eq_true _),(fun _=>fI),nI,?_⟩);refine G1 ?_;intro gg;(exact⟨_,0::([]++[]),.cell1 rfl rfl rfl rfl rfl rfl .nil,Aei cBI (Jf (gone:=[]) (gone1:=[]) rfl aI (by decide) (by decide) (by decide) (.nil _))⟩)
   ·rw[if_neg c12]at h;cases h
  ·refine G0 ?_;(refine Hr ?_ ?_;focus (exact ZY (by omega)));refine G0 ?_;by_cases c12:a=s.size
   ·rw[if_pos c12]at h;cases h;subst c12;(refine .inl ⟨_,_,true,[],aI,Bi _ (beq_self_eq_true _),(fun _=>fI),nI,?_⟩);refine G1 ?_;intro gg;(exact⟨_,0::([]++[]),.cell1 rfl rfl rfl rfl rfl rfl .nil,Aei cBI (Jf (gone:=[]) (gone1:=[]) rfl aI (by decide) (by decide) (by decide) (.nil _))⟩)
   ·rw[if_neg c12]at h;cases h
set_option maxHeartbeats 4000000 in
theorem Adw{s:ByteArray}{R:List Par}(h:Od s=none)(hs:s.size≤1000000):Hi Tryz.prog 38 [.mn rdT (rdC s 0) R] Hl:=by
 unfold Od at h;refine Acq Im rfl (Ka rfl) ?_;refine G1 ?_;intro gg;revert gg;intro gz;rcases e1:Bt s 0 with _|⟨i,a1⟩
 ·(refine .inr (.inr ⟨_,false,0::([]++[]),_,?_,Ea (R:=rdC s 0) e1 hs,rfl⟩);focus (exact Ak (gone:=[]) (gone1:=[]) rfl aI (by decide) (by decide) (by decide) rfl aM))
 rw[e1,ZA]at h;simp only at h;have be1:=Bk e1;(refine .inr (.inl ⟨_,_,false,0::([]++[]),?_,Bl e1 hs,Ab,oI,dI,?_⟩);focus (exact Ak (gone:=[]) (gone1:=[]) rfl aI (by decide) (by decide) (by decide) rfl aM));(refine goI ?_;repeat (intro gg;refine goI ?_));revert gg;intro gb;rcases e2:Cr s a1 with _|⟨fl,a2⟩
 ·(refine .inr (.inr ⟨_,false,0::([]++[]),_,?_,Kr (R:=rdC s 0) e2 hs,rfl⟩);focus (exact Ak (gone:=[]) (gone1:=[]) rfl aI (by decide) (by decide) (by decide) rfl aM))
 rw[e2,ZA]at h;simp only at h;have be2:=C4 e2;(refine .inr (.inl ⟨_,_,false,0::([]++[]),?_,Em e2 hs,Ab,oI,dI,?_⟩);focus (exact Ak (gone:=[]) (gone1:=[]) rfl aI (by decide) (by decide) (by decide) rfl aM));refine G1 ?_;intro gg;rcases e3:Cr s a2 with _|⟨co,a3⟩
 ·(refine .inr (.inr ⟨_,false,0::([]++[]),_,?_,Kr (R:=rdC s 0) e3 hs,rfl⟩);focus (exact Ak (gone:=[]) (gone1:=[]) rfl aI (by decide) (by decide) (by decide) rfl aM))
 rw[e3,ZA]at h;simp only at h;have be3:=C4 e3;(refine .inr (.inl ⟨_,_,false,0::([]++[]),?_,Em e3 hs,Ab,oI,dI,?_⟩);focus (exact Ak (gone:=[]) (gone1:=[]) rfl aI (by decide) (by decide) (by decide) rfl aM));refine G1 ?_;intro gg;refine⟨_,rfl,?_⟩;refine G0 ?_;rw[Avt be2.1];by_cases q1:Af0 fl=true;rotate_left
 ·rw[XE.2 q1];refine G0 ?_;(exact .inr (.inr ⟨_,true,[],_,aM,Cj _ rfl,rfl⟩))
 rw[q1]at h ⊢;refine G0 ?_;by_cases q2:co<16;rotate_left
 ·(exact .inr (.inr ⟨_,true,[],_,aM,Cj _ (ZY (by omega)),rfl⟩))
 rw[if_pos (by simp[q2])]at h;(refine .inl ⟨_,_,true,[],aI,Bi _ (ZX (by omega)),(fun _=>fI),nI,?_⟩);refine G1 ?_;intro gg;refine⟨_,rfl,?_⟩;refine G0 ?_;refine⟨_,rfl,?_⟩;refine G0 ?_;rw[Ave be2.1,Avf be2.1];obtain⟨an,han⟩:∃x,x=decide (128≤fl):=⟨_,rfl⟩;obtain⟨ct,hct⟩:∃x,x=decide (fl%4≥2):=⟨_,rfl⟩;rw[←han,←hct]at h ⊢;rcases e4:Bt s a3 with _|⟨one,a4⟩
 ·(refine .inr (.inr ⟨_,false,0::([]++[]),_,?_,Ea (R:=rdC s 0) e4 hs,rfl⟩);focus (exact Ak (gone:=[]) (gone1:=[]) rfl aI (by decide) (by decide) (by decide) rfl aM))
 rw[e4,ZA]at h;simp only at h;have be4:=Bk e4;(refine .inr (.inl ⟨_,_,false,0::([]++[]),?_,Bl e4 hs,Ab,oI,dI,?_⟩);focus (exact Ak (gone:=[]) (gone1:=[]) rfl aI (by decide) (by decide) (by decide) rfl aM));refine G1 ?_;intro gg;by_cases c4:one=1;rotate_left
 ·(exact .inr (.inr ⟨_,true,[],_,aM,Cj _ (ZG.2 (by omega)),rfl⟩))
 rw[if_pos c4]at h;(refine .inl ⟨_,_,true,[],aI,Bi _ (ZR.2 (by omega)),(fun _=>fI),nI,?_⟩);refine G1 ?_;intro gg;rcases e5:Bt s a4 with _|⟨n,a5⟩
 ·(refine .inr (.inr ⟨_,false,0::([]++[]),_,?_,Ea (R:=rdC s 0) e5 hs,rfl⟩);focus (exact Ak (gone:=[]) (gone1:=[]) rfl aI (by decide) (by decide) (by decide) rfl aM))
 rw[e5,ZA]at h;simp only at h;have be5:=Bk e5;(refine .inr (.inl ⟨_,_,false,0::([]++[]),?_,Bl e5 hs,Ab,oI,dI,?_⟩);focus (exact Ak (gone:=[]) (gone1:=[]) rfl aI (by decide) (by decide) (by decide) rfl aM));refine G1 ?_;intro gg;by_cases c5:n≤20;rotate_left
 ·rw[show(decide ((n:Int)≤20))=false from ZY (by omega)];refine G0 ?_;(exact .inr (.inr ⟨_,true,[],_,aM,Cj _ rfl,rfl⟩))
 rw[if_pos c5]at h;rw[show(decide ((n:Int)≤20))=true from ZX (by omega)];refine G0 ?_;rcases e6:Bt s a5 with _|⟨z,a6⟩
 ·(refine .inr (.inr ⟨_,false,0::([]++[]),_,?_,Ea (R:=rdC s 0) e6 hs,rfl⟩);focus (exact Ak (gone:=[]) (gone1:=[]) rfl aI (by decide) (by decide) (by decide) rfl aM))
 rw[e6,ZA]at h;simp only at h;have be6:=Bk e6;(refine .inr (.inl ⟨_,_,false,0::([]++[]),?_,Bl e6 hs,Ab,oI,dI,?_⟩);focus (exact Ak (gone:=[]) (gone1:=[]) rfl aI (by decide) (by decide) (by decide) rfl aM));refine G1 ?_;intro gg;by_cases c6:z=0;rotate_left
 ·rw[show((z:Int)==0)=false from ZG.2 (by omega)];refine G0 ?_;(exact .inr (.inr ⟨_,true,[],_,aM,Cj _ rfl,rfl⟩))
 rw[if_pos c6]at h;rw[show((z:Int)==0)=true from ZR.2 (by omega)];refine G0 ?_;rcases e7:Bt s a6 with _|⟨y,a7⟩
 ·(refine .inr (.inr ⟨_,false,0::([]++[]),_,?_,Ea (R:=rdC s 0) e7 hs,rfl⟩);focus (exact Ak (gone:=[]) (gone1:=[]) rfl aI (by decide) (by decide) (by decide) rfl aM))
 rw[e7,ZA]at h;simp only at h;have be7:=Bk e7;(refine .inr (.inl ⟨_,_,false,0::([]++[]),?_,Bl e7 hs,Ab,oI,dI,?_⟩);focus (exact Ak (gone:=[]) (gone1:=[]) rfl aI (by decide) (by decide) (by decide) rfl aM));refine G1 ?_;intro gg;by_cases c7:y=0;rotate_left
 ·(exact .inr (.inr ⟨_,true,[],_,aM,Cj _ (ZG.2 (by omega)),rfl⟩))
 rw[if_pos c7]at h;(refine .inl ⟨_,_,true,[],aI,Bi _ (ZR.2 (by omega)),(fun _=>fI),nI,?_⟩);refine G1 ?_;intro gg;rcases e8:Eq s a7 with _|⟨qn,a8⟩
 ·(refine .inr (.inr ⟨_,false,0::([]++[]),_,?_,Vj (R:=rdC s 0) e8 hs (by omega),rfl⟩);focus (exact Ak (gone:=[]) (gone1:=[]) rfl aI (by decide) (by decide) (by decide) rfl aM))
 rw[e8,ZA]at h;simp only at h;have be8:=Ij e8;(refine .inr (.inl ⟨_,_,false,0::([]++[]),?_,Kh e8 hs (by omega),Ab,oI,dI,?_⟩);focus (exact Ak (gone:=[]) (gone1:=[]) rfl aI (by decide) (by decide) (by decide) rfl aM));refine G1 ?_;intro gg;rcases e9:Bt s a8 with _|⟨qt,a9⟩
 ·(refine .inr (.inr ⟨_,false,0::([]++[]),_,?_,Ea (R:=rdC s 0) e9 hs,rfl⟩);focus (exact Ak (gone:=[]) (gone1:=[]) rfl aI (by decide) (by decide) (by decide) rfl aM))
 rw[e9,ZA]at h;simp only at h;have be9:=Bk e9;(refine .inr (.inl ⟨_,_,false,0::([]++[]),?_,Bl e9 hs,Ab,oI,dI,?_⟩);focus (exact Ak (gone:=[]) (gone1:=[]) rfl aI (by decide) (by decide) (by decide) rfl aM));refine G1 ?_;intro gg;rcases e10:Bt s a9 with _|⟨d,a10⟩
 ·(refine .inr (.inr ⟨_,false,0::([]++[]),_,?_,Ea (R:=rdC s 0) e10 hs,rfl⟩);focus (exact Ak (gone:=[]) (gone1:=[]) rfl aI (by decide) (by decide) (by decide) rfl aM))
 rw[e10,ZA]at h;simp only at h;have be10:=Bk e10;(refine .inr (.inl ⟨_,_,false,0::([]++[]),?_,Bl e10 hs,Ab,oI,dI,?_⟩);focus (exact Ak (gone:=[]) (gone1:=[]) rfl aI (by decide) (by decide) (by decide) rfl aM));refine G1 ?_;intro gg;by_cases c10:d=1;rotate_left
 ·(exact .inr (.inr ⟨_,true,[],_,aM,Cj _ (ZG.2 (by omega)),rfl⟩))
 rw[if_pos c10]at h;(refine .inl ⟨_,_,true,[],aI,Bi _ (ZR.2 (by omega)),(fun _=>fI),nI,?_⟩);refine G1 ?_;intro gg;have hT:=be10.2.2;clear e1 e2 e3 e4 e5 e6 e7 e8 e9 e10 be1 be2 be3 be4 be6 be7 be9 be10;(refine⟨[],none,{p:Nat×Nat×List Rr×Nat//RcI s n (Fg s n a10) p.1 p.2.1 p.2.2.1},[],fun⟨⟨k,a,L,g⟩,hp⟩=>[(0,.ptr 0 0 0 0),(2,.ptr 32 gz 0 0),(3,.ptr 48 gb 0 0),(65,.v (.int .i64 (n:Int))),(66,.v (.int .i64 (k:Int)))],[],fun⟨⟨k,a,L,g⟩,hp⟩=>Ba4 s gz gb i an ct co qn qt a L g,fun⟨⟨k,a,L,g⟩,hp⟩=>n-k,trivial,fun _=>⟨trivial,fun _=>⟨⟨(0,a10,[],0),RcI.start hT⟩,tI,Af _ _,tI,Ae _ _⟩⟩,fun⟨⟨k,a,L,g⟩,hp⟩=>?_⟩);simp only at hp;simp only[Ou,O8,Iz,Iv];have hk:=hp.hk;have hl:=hp.hl;by_cases c11:k<n
 ·rcases e:Pp s a with _|⟨r,a2⟩
  ·have hn:=hp.none c11 e;rcases L with _|⟨r0,L⟩
   ·refine G0 ?_;(refine Ic ?_ ?_;focus (exact ZX (by omega)));refine G0 ?_;refine⟨?_,?_⟩
    ·refine G0 ?_;refine⟨?_,?_⟩
     ·refine G0 ?_;(refine .inr (.inr ⟨_,false,0::([]++[]),_,?_,De (R:=rdC s 0) e hs hp.ha,rfl⟩);focus (exact Ak (gone:=[]) (gone1:=[]) rfl aI (by decide) (by decide) (by decide) rfl aM))
     ·refine G0 ?_;refine⟨?_,?_⟩
      ·refine G0 ?_;(refine .inr (.inr ⟨_,false,0::([]++[]),_,?_,De (R:=rdC s 0) e hs hp.ha,rfl⟩);focus (exact Ak (gone:=[]) (gone1:=[]) rfl aI (by decide) (by decide) (by decide) rfl aM))
      ·refine G0 ?_;(refine .inr (.inr ⟨_,false,0::([]++[]),_,?_,De (R:=rdC s 0) e hs hp.ha,rfl⟩);focus (exact Ak (gone:=[]) (gone1:=[]) rfl aI (by decide) (by decide) (by decide) rfl aM))
    ·refine G0 ?_;refine⟨?_,?_⟩
     ·refine G0 ?_;refine⟨?_,?_⟩
      ·refine G0 ?_;(refine .inr (.inr ⟨_,false,0::([]++[]),_,?_,De (R:=rdC s 0) e hs hp.ha,rfl⟩);focus (exact Ak (gone:=[]) (gone1:=[]) rfl aI (by decide) (by decide) (by decide) rfl aM))
      ·refine G0 ?_;(refine .inr (.inr ⟨_,false,0::([]++[]),_,?_,De (R:=rdC s 0) e hs hp.ha,rfl⟩);focus (exact Ak (gone:=[]) (gone1:=[]) rfl aI (by decide) (by decide) (by decide) rfl aM))
     ·refine G0 ?_;(refine .inr (.inr ⟨_,false,0::([]++[]),_,?_,De (R:=rdC s 0) e hs hp.ha,rfl⟩);focus (exact Ak (gone:=[]) (gone1:=[]) rfl aI (by decide) (by decide) (by decide) rfl aM))
   ·refine G0 ?_;(refine Ic ?_ ?_;focus (exact ZX (by omega)));refine G0 ?_;refine⟨?_,?_⟩
    ·refine G0 ?_;refine⟨?_,?_⟩
     ·refine G0 ?_;(refine .inr (.inr ⟨_,false,0::([]++[]),_,?_,De (R:=rdC s 0) e hs hp.ha,rfl⟩);focus (exact Ak (gone:=[]) (gone1:=[]) rfl aI (by decide) (by decide) (by decide) rfl aM))
     ·refine G0 ?_;refine⟨?_,?_⟩
      ·refine G0 ?_;(refine .inr (.inr ⟨_,false,0::([]++[]),_,?_,De (R:=rdC s 0) e hs hp.ha,rfl⟩);focus (exact Ak (gone:=[]) (gone1:=[]) rfl aI (by decide) (by decide) (by decide) rfl aM))
      ·refine G0 ?_;(refine .inr (.inr ⟨_,false,0::([]++[]),_,?_,De (R:=rdC s 0) e hs hp.ha,rfl⟩);focus (exact Ak (gone:=[]) (gone1:=[]) rfl aI (by decide) (by decide) (by decide) rfl aM))
    ·refine G0 ?_;refine⟨?_,?_⟩
     ·refine G0 ?_;refine⟨?_,?_⟩
      ·refine G0 ?_;(refine .inr (.inr ⟨_,false,0::([]++[]),_,?_,De (R:=rdC s 0) e hs hp.ha,rfl⟩);focus (exact Ak (gone:=[]) (gone1:=[]) rfl aI (by decide) (by decide) (by decide) rfl aM))
      ·refine G0 ?_;(refine .inr (.inr ⟨_,false,0::([]++[]),_,?_,De (R:=rdC s 0) e hs hp.ha,rfl⟩);focus (exact Ak (gone:=[]) (gone1:=[]) rfl aI (by decide) (by decide) (by decide) rfl aM))
     ·refine G0 ?_;(refine .inr (.inr ⟨_,false,0::([]++[]),_,?_,De (R:=rdC s 0) e hs hp.ha,rfl⟩);focus (exact Ak (gone:=[]) (gone1:=[]) rfl aI (by decide) (by decide) (by decide) rfl aM))
  ·have hnx:=RcI.next hp c11 e;have b:=Yv e;have hr7:(([r].map Rr.row):List (List V))=[r.row]:=rfl;have hn20:L.length≤20:=by omega
   rcases L with _|⟨r0,L⟩
   ·refine G0 ?_;(refine Ic ?_ ?_;focus (exact ZX (by omega)));refine G0 ?_;refine⟨?_,?_⟩
    ·refine G0 ?_;refine⟨?_,?_⟩
     ·refine G0 ?_;(refine .inr (.inl ⟨_,_,false,0::([]++[]),?_,Bb e hs hp.ha,Ab,oI,dI,?_⟩);focus (exact Ak (gone:=[]) (gone1:=[]) rfl aI (by decide) (by decide) (by decide) rfl aM));(refine goI ?_;repeat (intro gg;refine goI ?_));refine⟨lI,lI,?_⟩;refine G1 ?_;intro gg;(exact⟨none,trivial,fun gr=>⟨⟨(k+1,a2,[r],gg),hnx⟩,by show n-(k+1)<n-k;omega,tI,tI,⟨rfl,⟨rfl,⟨rfl,⟨rfl,trivial⟩⟩⟩⟩,tI⟩⟩)
     ·refine G0 ?_;refine⟨?_,?_⟩
      ·refine G0 ?_;(refine .inr (.inl ⟨_,_,false,0::([]++[]),?_,Bb e hs hp.ha,Ab,oI,dI,?_⟩);focus (exact Ak (gone:=[]) (gone1:=[]) rfl aI (by decide) (by decide) (by decide) rfl aM));(refine goI ?_;repeat (intro gg;refine goI ?_));refine⟨lI,lI,?_⟩;refine G1 ?_;intro gg;(exact⟨none,trivial,fun gr=>⟨⟨(k+1,a2,[r],gg),hnx⟩,by show n-(k+1)<n-k;omega,tI,tI,⟨rfl,⟨rfl,⟨rfl,⟨rfl,trivial⟩⟩⟩⟩,tI⟩⟩)
      ·refine G0 ?_;(refine .inr (.inl ⟨_,_,false,0::([]++[]),?_,Bb e hs hp.ha,Ab,oI,dI,?_⟩);focus (exact Ak (gone:=[]) (gone1:=[]) rfl aI (by decide) (by decide) (by decide) rfl aM));refine G1 ?_;intro gg;refine⟨?_,?_⟩
       ·refine G1 ?_;intro gg;refine⟨lI,lI,?_⟩;refine G1 ?_;intro gg;(exact⟨none,trivial,fun gr=>⟨⟨(k+1,a2,[r],gg),hnx⟩,by show n-(k+1)<n-k;omega,tI,tI,⟨rfl,⟨rfl,⟨rfl,⟨rfl,trivial⟩⟩⟩⟩,tI⟩⟩)
       ·refine G1 ?_;intro gg;refine⟨lI,lI,?_⟩;refine G1 ?_;intro gg;(exact⟨none,trivial,fun gr=>⟨⟨(k+1,a2,[r],gg),hnx⟩,by show n-(k+1)<n-k;omega,tI,tI,⟨rfl,⟨rfl,⟨rfl,⟨rfl,trivial⟩⟩⟩⟩,tI⟩⟩)
    ·refine G0 ?_;refine⟨?_,?_⟩
     ·refine G0 ?_;refine⟨?_,?_⟩
      ·refine G0 ?_;(refine .inr (.inl ⟨_,_,false,0::([]++[]),?_,Bb e hs hp.ha,Ab,oI,dI,?_⟩);focus (exact Ak (gone:=[]) (gone1:=[]) rfl aI (by decide) (by decide) (by decide) rfl aM));(refine goI ?_;repeat (intro gg;refine goI ?_));refine⟨lI,lI,?_⟩;refine G1 ?_;intro gg;(exact⟨none,trivial,fun gr=>⟨⟨(k+1,a2,[r],gg),hnx⟩,by show n-(k+1)<n-k;omega,tI,tI,⟨rfl,⟨rfl,⟨rfl,⟨rfl,trivial⟩⟩⟩⟩,tI⟩⟩)
      ·refine G0 ?_;(refine .inr (.inl ⟨_,_,false,0::([]++[]),?_,Bb e hs hp.ha,Ab,oI,dI,?_⟩);focus (exact Ak (gone:=[]) (gone1:=[]) rfl aI (by decide) (by decide) (by decide) rfl aM));refine G1 ?_;intro gg;refine⟨?_,?_⟩
       ·refine G1 ?_;intro gg;refine⟨lI,lI,?_⟩;refine G1 ?_;intro gg;(exact⟨none,trivial,fun gr=>⟨⟨(k+1,a2,[r],gg),hnx⟩,by show n-(k+1)<n-k;omega,tI,tI,⟨rfl,⟨rfl,⟨rfl,⟨rfl,trivial⟩⟩⟩⟩,tI⟩⟩)
       ·refine G1 ?_;intro gg;refine⟨lI,lI,?_⟩;refine G1 ?_;intro gg;(exact⟨none,trivial,fun gr=>⟨⟨(k+1,a2,[r],gg),hnx⟩,by show n-(k+1)<n-k;omega,tI,tI,⟨rfl,⟨rfl,⟨rfl,⟨rfl,trivial⟩⟩⟩⟩,tI⟩⟩)
     ·refine G0 ?_;(refine .inr (.inl ⟨_,_,false,0::([]++[]),?_,Bb e hs hp.ha,Ab,oI,dI,?_⟩);focus (exact Ak (gone:=[]) (gone1:=[]) rfl aI (by decide) (by decide) (by decide) rfl aM));refine G1 ?_;intro gg;refine⟨?_,?_⟩
      ·refine G0 ?_;refine⟨?_,?_⟩
       ·refine G1 ?_;intro gg;refine⟨lI,lI,?_⟩;refine G1 ?_;intro gg;(exact⟨none,trivial,fun gr=>⟨⟨(k+1,a2,[r],gg),hnx⟩,by show n-(k+1)<n-k;omega,tI,tI,⟨rfl,⟨rfl,⟨rfl,⟨rfl,trivial⟩⟩⟩⟩,tI⟩⟩)
       ·refine G1 ?_;intro gg;refine⟨lI,lI,?_⟩;refine G1 ?_;intro gg;(exact⟨none,trivial,fun gr=>⟨⟨(k+1,a2,[r],gg),hnx⟩,by show n-(k+1)<n-k;omega,tI,tI,⟨rfl,⟨rfl,⟨rfl,⟨rfl,trivial⟩⟩⟩⟩,tI⟩⟩)
      ·refine G1 ?_;intro gg;refine⟨lI,lI,?_⟩;refine G1 ?_;intro gg;(exact⟨none,trivial,fun gr=>⟨⟨(k+1,a2,[r],gg),hnx⟩,by show n-(k+1)<n-k;omega,tI,tI,⟨rfl,⟨rfl,⟨rfl,⟨rfl,trivial⟩⟩⟩⟩,tI⟩⟩)
   ·have hn21:L.length≤20:=by simp only[ZJ]at hn20;omega
    refine G0 ?_;(refine Ic ?_ ?_;focus (exact ZX (by omega)));refine G0 ?_;refine⟨?_,?_⟩
    ·refine G0 ?_;refine⟨?_,?_⟩
     ·refine G0 ?_;(refine .inr (.inl ⟨_,_,false,0::([]++[]),?_,Bb e hs hp.ha,Ab,oI,dI,?_⟩);focus (exact Ak (gone:=[]) (gone1:=[]) rfl aI (by decide) (by decide) (by decide) rfl aM));(refine goI ?_;repeat (intro gg;refine goI ?_));refine⟨lI,lI,?_⟩;refine G1 ?_;intro gg;(exact⟨none,trivial,fun gr=>⟨⟨(k+1,a2,(r0::L)++[r],gg),hnx⟩,by show n-(k+1)<n-k;omega,tI,tI,⟨rfl,⟨rfl,⟨congrArg (fun x=>some (Ent.mk gg (.t 42) 7 x)) (show(r0::L).map Rr.row++[r.row]=((r0::L)++[r]).map Rr.row by rw[ZI];rfl),⟨rfl,trivial⟩⟩⟩⟩,tI⟩⟩)
     ·refine G0 ?_;refine⟨?_,?_⟩
      ·refine G0 ?_;(refine .inr (.inl ⟨_,_,false,0::([]++[]),?_,Bb e hs hp.ha,Ab,oI,dI,?_⟩);focus (exact Ak (gone:=[]) (gone1:=[]) rfl aI (by decide) (by decide) (by decide) rfl aM));(refine goI ?_;repeat (intro gg;refine goI ?_));refine⟨lI,lI,?_⟩;refine G1 ?_;intro gg;(exact⟨none,trivial,fun gr=>⟨⟨(k+1,a2,(r0::L)++[r],gg),hnx⟩,by show n-(k+1)<n-k;omega,tI,tI,⟨rfl,⟨rfl,⟨congrArg (fun x=>some (Ent.mk gg (.t 42) 7 x)) (show(r0::L).map Rr.row++[r.row]=((r0::L)++[r]).map Rr.row by rw[ZI];rfl),⟨rfl,trivial⟩⟩⟩⟩,tI⟩⟩)
      ·refine G0 ?_;(refine .inr (.inl ⟨_,_,false,0::([]++[]),?_,Bb e hs hp.ha,Ab,oI,dI,?_⟩);focus (exact Ak (gone:=[]) (gone1:=[]) rfl aI (by decide) (by decide) (by decide) rfl aM));refine G1 ?_;intro gg;refine⟨?_,?_⟩
       ·refine G1 ?_;intro gg;refine⟨lI,lI,?_⟩;refine G1 ?_;intro gg;(exact⟨none,trivial,fun gr=>⟨⟨(k+1,a2,(r0::L)++[r],gg),hnx⟩,by show n-(k+1)<n-k;omega,tI,tI,⟨rfl,⟨rfl,⟨congrArg (fun x=>some (Ent.mk gg (.t 42) 7 x)) (show(r0::L).map Rr.row++[r.row]=((r0::L)++[r]).map Rr.row by rw[ZI];rfl),⟨rfl,trivial⟩⟩⟩⟩,tI⟩⟩)
       ·refine G1 ?_;intro gg;refine⟨lI,lI,?_⟩;refine G1 ?_;intro gg;(exact⟨none,trivial,fun gr=>⟨⟨(k+1,a2,(r0::L)++[r],gg),hnx⟩,by show n-(k+1)<n-k;omega,tI,tI,⟨rfl,⟨rfl,⟨congrArg (fun x=>some (Ent.mk gg (.t 42) 7 x)) (show(r0::L).map Rr.row++[r.row]=((r0::L)++[r]).map Rr.row by rw[ZI];rfl),⟨rfl,trivial⟩⟩⟩⟩,tI⟩⟩)
    ·refine G0 ?_;refine⟨?_,?_⟩
     ·refine G0 ?_;refine⟨?_,?_⟩
      ·refine G0 ?_;(refine .inr (.inl ⟨_,_,false,0::([]++[]),?_,Bb e hs hp.ha,Ab,oI,dI,?_⟩);focus (exact Ak (gone:=[]) (gone1:=[]) rfl aI (by decide) (by decide) (by decide) rfl aM));(refine goI ?_;repeat (intro gg;refine goI ?_));refine⟨lI,lI,?_⟩;refine G1 ?_;intro gg;(exact⟨none,trivial,fun gr=>⟨⟨(k+1,a2,(r0::L)++[r],gg),hnx⟩,by show n-(k+1)<n-k;omega,tI,tI,⟨rfl,⟨rfl,⟨congrArg (fun x=>some (Ent.mk gg (.t 42) 7 x)) (show(r0::L).map Rr.row++[r.row]=((r0::L)++[r]).map Rr.row by rw[ZI];rfl),⟨rfl,trivial⟩⟩⟩⟩,tI⟩⟩)
      ·refine G0 ?_;(refine .inr (.inl ⟨_,_,false,0::([]++[]),?_,Bb e hs hp.ha,Ab,oI,dI,?_⟩);focus (exact Ak (gone:=[]) (gone1:=[]) rfl aI (by decide) (by decide) (by decide) rfl aM));refine G1 ?_;intro gg;refine⟨?_,?_⟩
       ·refine G1 ?_;intro gg;refine⟨lI,lI,?_⟩;refine G1 ?_;intro gg;(exact⟨none,trivial,fun gr=>⟨⟨(k+1,a2,(r0::L)++[r],gg),hnx⟩,by show n-(k+1)<n-k;omega,tI,tI,⟨rfl,⟨rfl,⟨congrArg (fun x=>some (Ent.mk gg (.t 42) 7 x)) (show(r0::L).map Rr.row++[r.row]=((r0::L)++[r]).map Rr.row by rw[ZI];rfl),⟨rfl,trivial⟩⟩⟩⟩,tI⟩⟩)
       ·refine G1 ?_;intro gg;refine⟨lI,lI,?_⟩;refine G1 ?_;intro gg;(exact⟨none,trivial,fun gr=>⟨⟨(k+1,a2,(r0::L)++[r],gg),hnx⟩,by show n-(k+1)<n-k;omega,tI,tI,⟨rfl,⟨rfl,⟨congrArg (fun x=>some (Ent.mk gg (.t 42) 7 x)) (show(r0::L).map Rr.row++[r.row]=((r0::L)++[r]).map Rr.row by rw[ZI];rfl),⟨rfl,trivial⟩⟩⟩⟩,tI⟩⟩)
     ·refine G0 ?_;(refine .inr (.inl ⟨_,_,false,0::([]++[]),?_,Bb e hs hp.ha,Ab,oI,dI,?_⟩);focus (exact Ak (gone:=[]) (gone1:=[]) rfl aI (by decide) (by decide) (by decide) rfl aM));refine G1 ?_;intro gg;refine⟨?_,?_⟩
      ·refine G0 ?_;refine⟨?_,?_⟩
       ·refine G1 ?_;intro gg;refine⟨lI,lI,?_⟩;refine G1 ?_;intro gg;(exact⟨none,trivial,fun gr=>⟨⟨(k+1,a2,(r0::L)++[r],gg),hnx⟩,by show n-(k+1)<n-k;omega,tI,tI,⟨rfl,⟨rfl,⟨congrArg (fun x=>some (Ent.mk gg (.t 42) 7 x)) (show(r0::L).map Rr.row++[r.row]=((r0::L)++[r]).map Rr.row by rw[ZI];rfl),⟨rfl,trivial⟩⟩⟩⟩,tI⟩⟩)
       ·refine G1 ?_;intro gg;refine⟨lI,lI,?_⟩;refine G1 ?_;intro gg;(exact⟨none,trivial,fun gr=>⟨⟨(k+1,a2,(r0::L)++[r],gg),hnx⟩,by show n-(k+1)<n-k;omega,tI,tI,⟨rfl,⟨rfl,⟨congrArg (fun x=>some (Ent.mk gg (.t 42) 7 x)) (show(r0::L).map Rr.row++[r.row]=((r0::L)++[r]).map Rr.row by rw[ZI];rfl),⟨rfl,trivial⟩⟩⟩⟩,tI⟩⟩)
      ·refine G1 ?_;intro gg;refine⟨lI,lI,?_⟩;refine G1 ?_;intro gg;(exact⟨none,trivial,fun gr=>⟨⟨(k+1,a2,(r0::L)++[r],gg),hnx⟩,by show n-(k+1)<n-k;omega,tI,tI,⟨rfl,⟨rfl,⟨congrArg (fun x=>some (Ent.mk gg (.t 42) 7 x)) (show(r0::L).map Rr.row++[r.row]=((r0::L)++[r]).map Rr.row by rw[ZI];rfl),⟨rfl,trivial⟩⟩⟩⟩,tI⟩⟩)
 ·have he:=hp.end_ c11;rw[he,ZA]at h;simp only at h;rcases L with _|⟨r0,L⟩
  ·refine G0 ?_;(refine Hr ?_ ?_;focus (exact ZY (by omega)));refine G0 ?_;by_cases c12:a=s.size
   ·rw[if_pos c12]at h;cases h
   ·(exact .inr (.inr ⟨_,true,[],_,aM,Cj _ (ZG.2 (by omega)),rfl⟩))
  ·refine G0 ?_;(refine Hr ?_ ?_;focus (exact ZY (by omega)));refine G0 ?_;by_cases c12:a=s.size
   ·rw[if_pos c12]at h;cases h
   ·(exact .inr (.inr ⟨_,true,[],_,aM,Cj _ (ZG.2 (by omega)),rfl⟩))
section
variable {P:Program} {ops:Array Oper} {Q:Exit→Act→List Frame→World→Prop} {a:Act} {cs:List Frame} {w w':World} {i:Nat} {Bz:List Nat} {o:Oper} {v:Value}
end
theorem Ak6(T:TypeId)(w:World):(Instr.typeAssert Hl T 77 true).run Tryz.prog w=.ok (.tuple #[.agg #[],.bool true]) w:=by
 have hu:=Tryz.underlying77;simp[Instr.typeAssert,Hl,run_underlying hu]
theorem Aoc(T:TypeId)(w:World):(Instr.typeAssert .nilIface T 77 true).run Tryz.prog w=.ok (.tuple #[.agg #[],.bool false]) w:=by
 have hu:=Tryz.underlying77;have h:(Tryz.prog.info? 77).map (·.zero)=some (some (.agg #[])):=by kernel_rfl
 obtain⟨i,hi,hz⟩:=Option.map_eq_some_iff.1 h;simp[Instr.typeAssert,run_underlying hu,zeroValue,typeInfo,hi,hz]
def K4:Array Value:= #[.int .i64 0,.bool false,.bool false,.int .i64 0,.string ⟨#[]⟩,.int .i64 0,.slice none 0 0]
structure Ar1(w:World)(p q:Nat)(w':World):Prop where
 m:Blk w' p 52 K4
 e:Blk w' q 32 #[.int .i64 1]
 fr:Fr (fun k=>k=p∨k=q) w w'
theorem Fr.set_{F:Nat→Prop}{w w':World}(h:Fr F w w'){b:Nat}(hb:F b)(i:Nat)(v:Value):Fr F w (w'.setCell ⟨b,i,none⟩ v):=by
 have hs:=h.size;refine⟨h.os,h.tape,h.output,by simp[World.setCell];omega,fun k hk hF=>?_⟩;rw[←h.block k hk hF];have:k≠b:=fun e=>hF (e▸hb);exact Below.heap_setCell w' ⟨b,i,none⟩ v k this
theorem Fr.alloc_{F:Nat→Prop}{w w':World}(h:Fr F w w')(o:Obj):Fr F w (w'.alloc o):=by
 have hs:=h.size;refine⟨h.os,h.tape,h.output,by rw[show(w'.alloc o).heap.size=w'.heap.size+1 from by simp[World.alloc,-World.alloc_eq]];omega,fun k hk hF=>?_⟩;rw[←h.block k hk hF];exact Below.heap_alloc w' o k (by omega)
set_option maxRecDepth 100000 in
set_option maxHeartbeats 2000000 in
theorem Akc(p q:Nat)(c0 c1 c2 c3 c4 c5 c6 x:Value)(w:World)(hp:Blk w p 52 #[c0,c1,c2,c3,c4,c5,c6])(hq:Blk w q 32 #[x])(hpq:p≠q):
  CallsD Tryz.prog 37 #[.pointer (some ⟨p,0,none⟩),.pointer (some ⟨q,0,none⟩)] (.panicking [{v:=Hl,recovered:=false}]) w fun e u' w'=>e=.returned (.tuple #[])∧u'=.panicking [{v:=Hl,recovered:=true}]∧Ar1 w p q w':=by
 have hlp:=hp.lt;have hlq:=hq.lt;refine callsD_of_wpS Tryz.func37 rfl fun c₀ cs hu=>?_;apply wpS_seq;apply wpS_region;have hrec:recoverD (c₀::cs)=some (Hl,{c₀ with mode:=.panicking ({v:=Hl,recovered:=true} ::[])} ::cs):=by simp[recoverD,hu]
 simp[wpOpsS,go_sem,hrec,Tryz.ntmps37,Exit.thenS,Ak6];have e0:w.cell? ⟨p,0,none⟩=some c0:=hp.cell 0;have e1:w.cell? ⟨p,1,none⟩=some c1:=hp.cell 1;have e2:w.cell? ⟨p,2,none⟩=some c2:=hp.cell 2;have e3:w.cell? ⟨p,3,none⟩=some c3:=hp.cell 3;have e4:w.cell? ⟨p,4,none⟩=some c4:=hp.cell 4;have e5:w.cell? ⟨p,5,none⟩=some c5:=hp.cell 5;have e6:w.cell? ⟨p,6,none⟩=some c6:=hp.cell 6;have f0:=fun i=>hp.frozen i;have g0:w.cell? ⟨q,0,none⟩=some x:=hq.cell 0;have h0:=hq.frozen 0;refine wpS_of_wp ?_
 go_wp2
 have key:Ar1 w p q (((((((((w.setCell ⟨p,0,none⟩ (.int .i64 0)).setCell ⟨p,1,none⟩ (.bool false)).setCell ⟨p,2,none⟩ (.bool false)).setCell ⟨p,3,none⟩ (.int .i64 0)).setCell ⟨p,4,none⟩ (.string ⟨#[]⟩)).setCell ⟨p,5,none⟩ (.int .i64 0)).setCell ⟨p,6,none⟩ (.slice none 0 0)).setCell ⟨q,0,none⟩ (.int .i64 1)).alloc (Obj.cells #[] 77)):=by
  refine⟨?_,?_,?_⟩
  ·exact(((((((((hp.set_ 0 _).set_ 1 _).set_ 2 _).set_ 3 _).set_ 4 _).set_ 5 _).set_ 6 _).far hpq _).alloc _)
  ·exact(((((((((hq.far (Ne.symm hpq) _).far (Ne.symm hpq) _).far (Ne.symm hpq) _).far (Ne.symm hpq) _).far (Ne.symm hpq) _).far (Ne.symm hpq) _).far (Ne.symm hpq) _).set_ 0 _).alloc _)
  ·exact(((((((((Fr.refl _ w).set_ (.inl rfl) 0 _).set_ (.inl rfl) 1 _).set_ (.inl rfl) 2 _).set_ (.inl rfl) 3 _).set_ (.inl rfl) 4 _).set_ (.inl rfl) 5 _).set_ (.inl rfl) 6 _).set_ (.inr rfl) 0 _).alloc_ _
 simp[bodyPostS,results,Tryz.results37];exact key
set_option maxRecDepth 100000 in
set_option maxHeartbeats 2000000 in
theorem Abj(p q:Nat)(w:World):
  CallsD Tryz.prog 37 #[.pointer (some ⟨p,0,none⟩),.pointer (some ⟨q,0,none⟩)] .returning w fun e u' w'=>e=.returned (.tuple #[])∧u'=.returning∧w'=w.alloc (.cells #[] 77):=by
 refine callsD_of_wpS Tryz.func37 rfl fun c₀ cs hu=>?_;apply wpS_seq;apply wpS_region;have hrec:recoverD (c₀::cs)=none:=by simp[recoverD,hu]
 simp[wpOpsS,go_sem,hrec,Tryz.ntmps37,Exit.thenS,Aoc];refine wpS_of_wp ?_
 go_wp2
 simp[bodyPostS,results,Tryz.results37,hu];cases c₀;simp_all
theorem Avr{n:Int}(h0:0≤n)(h1:n≤15):IntKind.i64.wrap ((BitVec.ofInt IntKind.i64.bits n|||BitVec.ofInt IntKind.i64.bits 32768).toNat)=n+32768:=by
 have key:∀k:Fin 16,IntKind.i64.wrap ((BitVec.ofInt IntKind.i64.bits (k.val:Int)|||BitVec.ofInt IntKind.i64.bits 32768).toNat)=(k.val:Int)+32768:=by decide
 obtain⟨k,rfl⟩:=Int.eq_ofNat_of_zero_le h0;exact key ⟨k,by omega⟩
theorem Az9{n:Int}(h0:0≤n)(h1:n≤15):IntKind.i64.wrap ((BitVec.ofInt IntKind.i64.bits n|||BitVec.ofInt IntKind.i64.bits 512).toNat)=n+512:=by
 have key:∀k:Fin 16,IntKind.i64.wrap ((BitVec.ofInt IntKind.i64.bits (k.val:Int)|||BitVec.ofInt IntKind.i64.bits 512).toNat)=(k.val:Int)+512:=by decide
 obtain⟨k,rfl⟩:=Int.eq_ofNat_of_zero_le h0;exact key ⟨k,by omega⟩
theorem Axt{n:Int}(h0:0≤n)(h1:n≤15):IntKind.i64.wrap ((BitVec.ofInt IntKind.i64.bits (n+32768)|||BitVec.ofInt IntKind.i64.bits 512).toNat)=n+32768+512:=by
 have key:∀k:Fin 16,IntKind.i64.wrap ((BitVec.ofInt IntKind.i64.bits ((k.val:Int)+32768)|||BitVec.ofInt IntKind.i64.bits 512).toNat)=(k.val:Int)+32768+512:=by decide
 obtain⟨k,rfl⟩:=Int.eq_ofNat_of_zero_le h0;exact key ⟨k,by omega⟩
def Dl(id fl n:Int)(qn:ByteArray)(qt:Int):List UInt8:=Av [id,fl,1,n,0,0]++Bv qn++Av [qt,1]
theorem Sa{id fl n qt:Int}{qn:ByteArray}(h:qn.size≤120):0<(Dl id fl n qn qt).length∧(Dl id fl n qn qt).length≤15100:=by
 have:=Dz h;unfold Dl;rw[ZF,ZF,Au,Au];simp only[ZJ,ZN];omega
theorem Y1(m:Ms):Cx m=Dl m.id (Ec m) (m.rs.length:Int) m.qn m.qt++Bg m.rs:=rfl
set_option maxHeartbeats 2000000 in
theorem Agu(m:Ms)(hm:m.Good)(ha:m.an=false)(hc:m.ct=false):Fun Tryz.prog 36 [.c (.agg m.row)] [.c (.v (.string ⟨(Cx m).toArray⟩))]:=by
 obtain⟨id,an,ct,co,qn,qt,rs⟩:=m;obtain⟨h1,h2,h3,h4,h5,h6,h7⟩:=hm;simp only at h1 h2 h3 h4 h5 h6 h7 ha hc;subst ha hc;have eF:Ec ⟨id,false,false,co,qn,qt,rs⟩=co:=by simp[Ec]
 rw[Y1,eF];have hh:=Sa (id:=id) (fl:=co) (n:=(rs.length:Int)) (qt:=qt) h4;have hR:=Fw h7;refine Ar J7 rfl ?_;(refine goI ?_;repeat (intro gg;refine goI ?_));rename_i gw;rw[ZE];(refine .inr (.inl ⟨_,_,true,[128],Zj rfl (Iy rfl) Kp (by decide) (by decide) aM,E3 [] false [id,co,1,(rs.length:Int),0,0] (by simp only[XC,XD,or_false,forall_eq_or_imp,forall_eq];omega) (by simp) (by simp),(fun _=>Gr),oI,dI,?_⟩));refine G1 ?_;intro gg;(refine .inr (.inl ⟨_,_,false,[128],aM,Jm ([]++Av [id,co,1,(rs.length:Int),0,0]) qn h3 h4 (by simp only[ZF,Au,ZJ,ZN];omega),Ab,oI,dI,?_⟩));(refine goI ?_;repeat (intro gg;refine goI ?_));(refine .inr (.inl ⟨_,_,true,[128],aM,E3 ([]++Av [id,co,1,(rs.length:Int),0,0]++Bv qn) false [qt,1] (by simp only[XC,XD,or_false,forall_eq_or_imp,forall_eq];omega) (by simp) (by have:=Dz h4;simp only[ZF,Au,ZJ,ZN];omega),(fun _=>Gr),oI,dI,?_⟩));refine G1 ?_;intro gg;rw[ZE];(refine⟨[],none,{k:Nat//k≤rs.length},[3,40,41],fun⟨k,hk⟩=>[(42,.v (.int .i64 k))],[],fun⟨k,hk⟩=>[(128,⟨gw,.q (Fe wT (Dl id (co) (rs.length:Int) qn qt++Bg (rs.take k))),0,[]⟩)],fun⟨k,hk⟩=>rs.length-k,trivial,fun _=>⟨trivial,fun _=>⟨⟨0,by omega⟩,tI,Af _ _,?_,Ae _ _⟩⟩,fun⟨k,hk⟩=>?_⟩;focus (exact⟨congrArg (fun r=>some (Ent.mk gw (.q (Fe wT r)) 0 [])) (show Dl id (co) (rs.length:Int) qn qt=Dl id (co) (rs.length:Int) qn qt++Bg (rs.take 0)by simp[Bg]),trivial⟩));refine G0 ?_;(refine Aa (fun q1=>?_) (fun q1=>?_)<;>rw[q1])
 ·have hlt:k<rs.length:=by have:=ZV (show decide ((k:Int)<(rs.length:Int))=true from q1);omega
  have hl1:=Fw (l:=rs.take k) fun r hr=>h7 r (List.mem_of_mem_take hr);rw[ZM]at hl1;have e:Dl id (co) (rs.length:Int) qn qt++Bg (rs.take k)++H5 rs[k]=Dl id (co) (rs.length:Int) qn qt++Bg (rs.take (k+1)):=by rw[Hm hlt,ZS]
  refine G0 ?_;refine⟨k,_,rfl,Ad hlt,?_⟩;refine G1 ?_;intro gg;(refine .inr (.inl ⟨_,_,false,[128],aM,Ot (Dl id (co) (rs.length:Int) qn qt++Bg (rs.take k)) rs[k] (h7 _ (ZK hlt)) (by rw[ZF];omega),Ab,oI,dI,?_⟩));refine G1 ?_;intro gg;(exact⟨none,trivial,fun gr=>⟨⟨k+1,by omega⟩,by show rs.length-(k+1)<rs.length-k;omega,tI,tI,⟨congrArg (fun r=>some (Ent.mk gw (.q (Fe wT r)) 0 [])) e,trivial⟩,tI⟩⟩)
 ·have hge:¬k<rs.length:=by have:=ZW (show decide ((k:Int)<(rs.length:Int))=false from q1);omega
  obtain rfl:k=rs.length:=by omega
  have hne:Dl id (co) (rs.length:Int) qn qt++Bg (rs.take rs.length)≠[]:=fun q=>by
   have:=congrArg List.length q;rw[ZF,ZN]at this;omega
  rw[show Bg rs=Bg (rs.take rs.length)by rw[XF]];refine G0 ?_;(refine .inr (.inl ⟨_,_,false,[128],aM,F7 (T:=wT) (Dl id (co) (rs.length:Int) qn qt++Bg (rs.take rs.length)) hne,Ab,oI,dI,?_⟩));refine G1 ?_;intro gg;(exact⟨[],aI⟩)
set_option maxHeartbeats 2000000 in
theorem Ag0(m:Ms)(hm:m.Good)(ha:m.an=true)(hc:m.ct=false):Fun Tryz.prog 36 [.c (.agg m.row)] [.c (.v (.string ⟨(Cx m).toArray⟩))]:=by
 obtain⟨id,an,ct,co,qn,qt,rs⟩:=m;obtain⟨h1,h2,h3,h4,h5,h6,h7⟩:=hm;simp only at h1 h2 h3 h4 h5 h6 h7 ha hc;subst ha hc;have eF:Ec ⟨id,true,false,co,qn,qt,rs⟩=co+32768:=by simp[Ec]
 rw[Y1,eF];have hh:=Sa (id:=id) (fl:=co+32768) (n:=(rs.length:Int)) (qt:=qt) h4;have hR:=Fw h7;refine Ar J7 rfl ?_;(refine goI ?_;repeat (intro gg;refine goI ?_))
 rename Nat=>gw
 refine⟨_,Avr h2.1 h2.2,?_⟩;refine G1 ?_;intro gg;rw[ZE];(refine .inr (.inl ⟨_,_,true,[128],Zj rfl (Iy rfl) Kp (by decide) (by decide) aM,E3 [] false [id,co+32768,1,(rs.length:Int),0,0] (by simp only[XC,XD,or_false,forall_eq_or_imp,forall_eq];omega) (by simp) (by simp),(fun _=>Gr),oI,dI,?_⟩));refine G1 ?_;intro gg;(refine .inr (.inl ⟨_,_,false,[128],aM,Jm ([]++Av [id,co+32768,1,(rs.length:Int),0,0]) qn h3 h4 (by simp only[ZF,Au,ZJ,ZN];omega),Ab,oI,dI,?_⟩));(refine goI ?_;repeat (intro gg;refine goI ?_));(refine .inr (.inl ⟨_,_,true,[128],aM,E3 ([]++Av [id,co+32768,1,(rs.length:Int),0,0]++Bv qn) false [qt,1] (by simp only[XC,XD,or_false,forall_eq_or_imp,forall_eq];omega) (by simp) (by have:=Dz h4;simp only[ZF,Au,ZJ,ZN];omega),(fun _=>Gr),oI,dI,?_⟩));refine G1 ?_;intro gg;rw[ZE];(refine⟨[],none,{k:Nat//k≤rs.length},[3,40,41],fun⟨k,hk⟩=>[(42,.v (.int .i64 k))],[],fun⟨k,hk⟩=>[(128,⟨gw,.q (Fe wT (Dl id (co+32768) (rs.length:Int) qn qt++Bg (rs.take k))),0,[]⟩)],fun⟨k,hk⟩=>rs.length-k,trivial,fun _=>⟨trivial,fun _=>⟨⟨0,by omega⟩,tI,Af _ _,?_,Ae _ _⟩⟩,fun⟨k,hk⟩=>?_⟩;focus (exact⟨congrArg (fun r=>some (Ent.mk gw (.q (Fe wT r)) 0 [])) (show Dl id (co+32768) (rs.length:Int) qn qt=Dl id (co+32768) (rs.length:Int) qn qt++Bg (rs.take 0)by simp[Bg]),trivial⟩));refine G0 ?_;(refine Aa (fun q1=>?_) (fun q1=>?_)<;>rw[q1])
 ·have hlt:k<rs.length:=by have:=ZV (show decide ((k:Int)<(rs.length:Int))=true from q1);omega
  have hl1:=Fw (l:=rs.take k) fun r hr=>h7 r (List.mem_of_mem_take hr);rw[ZM]at hl1;have e:Dl id (co+32768) (rs.length:Int) qn qt++Bg (rs.take k)++H5 rs[k]=Dl id (co+32768) (rs.length:Int) qn qt++Bg (rs.take (k+1)):=by rw[Hm hlt,ZS]
  refine G0 ?_;refine⟨k,_,rfl,Ad hlt,?_⟩;refine G1 ?_;intro gg;(refine .inr (.inl ⟨_,_,false,[128],aM,Ot (Dl id (co+32768) (rs.length:Int) qn qt++Bg (rs.take k)) rs[k] (h7 _ (ZK hlt)) (by rw[ZF];omega),Ab,oI,dI,?_⟩));refine G1 ?_;intro gg;(exact⟨none,trivial,fun gr=>⟨⟨k+1,by omega⟩,by show rs.length-(k+1)<rs.length-k;omega,tI,tI,⟨congrArg (fun r=>some (Ent.mk gw (.q (Fe wT r)) 0 [])) e,trivial⟩,tI⟩⟩)
 ·have hge:¬k<rs.length:=by have:=ZW (show decide ((k:Int)<(rs.length:Int))=false from q1);omega
  obtain rfl:k=rs.length:=by omega
  have hne:Dl id (co+32768) (rs.length:Int) qn qt++Bg (rs.take rs.length)≠[]:=fun q=>by
   have:=congrArg List.length q;rw[ZF,ZN]at this;omega
  rw[show Bg rs=Bg (rs.take rs.length)by rw[XF]];refine G0 ?_;(refine .inr (.inl ⟨_,_,false,[128],aM,F7 (T:=wT) (Dl id (co+32768) (rs.length:Int) qn qt++Bg (rs.take rs.length)) hne,Ab,oI,dI,?_⟩));refine G1 ?_;intro gg;(exact⟨[],aI⟩)
set_option maxHeartbeats 2000000 in
theorem Aia(m:Ms)(hm:m.Good)(ha:m.an=false)(hc:m.ct=true):Fun Tryz.prog 36 [.c (.agg m.row)] [.c (.v (.string ⟨(Cx m).toArray⟩))]:=by
 obtain⟨id,an,ct,co,qn,qt,rs⟩:=m;obtain⟨h1,h2,h3,h4,h5,h6,h7⟩:=hm;simp only at h1 h2 h3 h4 h5 h6 h7 ha hc;subst ha hc;have eF:Ec ⟨id,false,true,co,qn,qt,rs⟩=co+512:=by simp[Ec]
 rw[Y1,eF];have hh:=Sa (id:=id) (fl:=co+512) (n:=(rs.length:Int)) (qt:=qt) h4;have hR:=Fw h7;refine Ar J7 rfl ?_;(refine goI ?_;repeat (intro gg;refine goI ?_))
 rename Nat=>gw
 refine⟨_,Az9 h2.1 h2.2,?_⟩;refine G1 ?_;intro gg;rw[ZE];(refine .inr (.inl ⟨_,_,true,[128],Zj rfl (Iy rfl) Kp (by decide) (by decide) aM,E3 [] false [id,co+512,1,(rs.length:Int),0,0] (by simp only[XC,XD,or_false,forall_eq_or_imp,forall_eq];omega) (by simp) (by simp),(fun _=>Gr),oI,dI,?_⟩));refine G1 ?_;intro gg;(refine .inr (.inl ⟨_,_,false,[128],aM,Jm ([]++Av [id,co+512,1,(rs.length:Int),0,0]) qn h3 h4 (by simp only[ZF,Au,ZJ,ZN];omega),Ab,oI,dI,?_⟩));(refine goI ?_;repeat (intro gg;refine goI ?_));(refine .inr (.inl ⟨_,_,true,[128],aM,E3 ([]++Av [id,co+512,1,(rs.length:Int),0,0]++Bv qn) false [qt,1] (by simp only[XC,XD,or_false,forall_eq_or_imp,forall_eq];omega) (by simp) (by have:=Dz h4;simp only[ZF,Au,ZJ,ZN];omega),(fun _=>Gr),oI,dI,?_⟩));refine G1 ?_;intro gg;rw[ZE];(refine⟨[],none,{k:Nat//k≤rs.length},[3,40,41],fun⟨k,hk⟩=>[(42,.v (.int .i64 k))],[],fun⟨k,hk⟩=>[(128,⟨gw,.q (Fe wT (Dl id (co+512) (rs.length:Int) qn qt++Bg (rs.take k))),0,[]⟩)],fun⟨k,hk⟩=>rs.length-k,trivial,fun _=>⟨trivial,fun _=>⟨⟨0,by omega⟩,tI,Af _ _,?_,Ae _ _⟩⟩,fun⟨k,hk⟩=>?_⟩;focus (exact⟨congrArg (fun r=>some (Ent.mk gw (.q (Fe wT r)) 0 [])) (show Dl id (co+512) (rs.length:Int) qn qt=Dl id (co+512) (rs.length:Int) qn qt++Bg (rs.take 0)by simp[Bg]),trivial⟩));refine G0 ?_;(refine Aa (fun q1=>?_) (fun q1=>?_)<;>rw[q1])
 ·have hlt:k<rs.length:=by have:=ZV (show decide ((k:Int)<(rs.length:Int))=true from q1);omega
  have hl1:=Fw (l:=rs.take k) fun r hr=>h7 r (List.mem_of_mem_take hr);rw[ZM]at hl1;have e:Dl id (co+512) (rs.length:Int) qn qt++Bg (rs.take k)++H5 rs[k]=Dl id (co+512) (rs.length:Int) qn qt++Bg (rs.take (k+1)):=by rw[Hm hlt,ZS]
  refine G0 ?_;refine⟨k,_,rfl,Ad hlt,?_⟩;refine G1 ?_;intro gg;(refine .inr (.inl ⟨_,_,false,[128],aM,Ot (Dl id (co+512) (rs.length:Int) qn qt++Bg (rs.take k)) rs[k] (h7 _ (ZK hlt)) (by rw[ZF];omega),Ab,oI,dI,?_⟩));refine G1 ?_;intro gg;(exact⟨none,trivial,fun gr=>⟨⟨k+1,by omega⟩,by show rs.length-(k+1)<rs.length-k;omega,tI,tI,⟨congrArg (fun r=>some (Ent.mk gw (.q (Fe wT r)) 0 [])) e,trivial⟩,tI⟩⟩)
 ·have hge:¬k<rs.length:=by have:=ZW (show decide ((k:Int)<(rs.length:Int))=false from q1);omega
  obtain rfl:k=rs.length:=by omega
  have hne:Dl id (co+512) (rs.length:Int) qn qt++Bg (rs.take rs.length)≠[]:=fun q=>by
   have:=congrArg List.length q;rw[ZF,ZN]at this;omega
  rw[show Bg rs=Bg (rs.take rs.length)by rw[XF]];refine G0 ?_;(refine .inr (.inl ⟨_,_,false,[128],aM,F7 (T:=wT) (Dl id (co+512) (rs.length:Int) qn qt++Bg (rs.take rs.length)) hne,Ab,oI,dI,?_⟩));refine G1 ?_;intro gg;(exact⟨[],aI⟩)
set_option maxHeartbeats 2000000 in
theorem Agd(m:Ms)(hm:m.Good)(ha:m.an=true)(hc:m.ct=true):Fun Tryz.prog 36 [.c (.agg m.row)] [.c (.v (.string ⟨(Cx m).toArray⟩))]:=by
 obtain⟨id,an,ct,co,qn,qt,rs⟩:=m;obtain⟨h1,h2,h3,h4,h5,h6,h7⟩:=hm;simp only at h1 h2 h3 h4 h5 h6 h7 ha hc;subst ha hc;have eF:Ec ⟨id,true,true,co,qn,qt,rs⟩=co+32768+512:=by simp[Ec]
 rw[Y1,eF];have hh:=Sa (id:=id) (fl:=co+32768+512) (n:=(rs.length:Int)) (qt:=qt) h4;have hR:=Fw h7;refine Ar J7 rfl ?_;(refine goI ?_;repeat (intro gg;refine goI ?_))
 rename Nat=>gw
 refine⟨_,Avr h2.1 h2.2,?_⟩;refine G0 ?_;refine⟨_,Axt h2.1 h2.2,?_⟩;refine G1 ?_;intro gg;rw[ZE];(refine .inr (.inl ⟨_,_,true,[128],Zj rfl (Iy rfl) Kp (by decide) (by decide) aM,E3 [] false [id,co+32768+512,1,(rs.length:Int),0,0] (by simp only[XC,XD,or_false,forall_eq_or_imp,forall_eq];omega) (by simp) (by simp),(fun _=>Gr),oI,dI,?_⟩));refine G1 ?_;intro gg;(refine .inr (.inl ⟨_,_,false,[128],aM,Jm ([]++Av [id,co+32768+512,1,(rs.length:Int),0,0]) qn h3 h4 (by simp only[ZF,Au,ZJ,ZN];omega),Ab,oI,dI,?_⟩));(refine goI ?_;repeat (intro gg;refine goI ?_));(refine .inr (.inl ⟨_,_,true,[128],aM,E3 ([]++Av [id,co+32768+512,1,(rs.length:Int),0,0]++Bv qn) false [qt,1] (by simp only[XC,XD,or_false,forall_eq_or_imp,forall_eq];omega) (by simp) (by have:=Dz h4;simp only[ZF,Au,ZJ,ZN];omega),(fun _=>Gr),oI,dI,?_⟩));refine G1 ?_;intro gg;rw[ZE];(refine⟨[],none,{k:Nat//k≤rs.length},[3,40,41],fun⟨k,hk⟩=>[(42,.v (.int .i64 k))],[],fun⟨k,hk⟩=>[(128,⟨gw,.q (Fe wT (Dl id (co+32768+512) (rs.length:Int) qn qt++Bg (rs.take k))),0,[]⟩)],fun⟨k,hk⟩=>rs.length-k,trivial,fun _=>⟨trivial,fun _=>⟨⟨0,by omega⟩,tI,Af _ _,?_,Ae _ _⟩⟩,fun⟨k,hk⟩=>?_⟩;focus (exact⟨congrArg (fun r=>some (Ent.mk gw (.q (Fe wT r)) 0 [])) (show Dl id (co+32768+512) (rs.length:Int) qn qt=Dl id (co+32768+512) (rs.length:Int) qn qt++Bg (rs.take 0)by simp[Bg]),trivial⟩));refine G0 ?_;(refine Aa (fun q1=>?_) (fun q1=>?_)<;>rw[q1])
 ·have hlt:k<rs.length:=by have:=ZV (show decide ((k:Int)<(rs.length:Int))=true from q1);omega
  have hl1:=Fw (l:=rs.take k) fun r hr=>h7 r (List.mem_of_mem_take hr);rw[ZM]at hl1;have e:Dl id (co+32768+512) (rs.length:Int) qn qt++Bg (rs.take k)++H5 rs[k]=Dl id (co+32768+512) (rs.length:Int) qn qt++Bg (rs.take (k+1)):=by rw[Hm hlt,ZS]
  refine G0 ?_;refine⟨k,_,rfl,Ad hlt,?_⟩;refine G1 ?_;intro gg;(refine .inr (.inl ⟨_,_,false,[128],aM,Ot (Dl id (co+32768+512) (rs.length:Int) qn qt++Bg (rs.take k)) rs[k] (h7 _ (ZK hlt)) (by rw[ZF];omega),Ab,oI,dI,?_⟩));refine G1 ?_;intro gg;(exact⟨none,trivial,fun gr=>⟨⟨k+1,by omega⟩,by show rs.length-(k+1)<rs.length-k;omega,tI,tI,⟨congrArg (fun r=>some (Ent.mk gw (.q (Fe wT r)) 0 [])) e,trivial⟩,tI⟩⟩)
 ·have hge:¬k<rs.length:=by have:=ZW (show decide ((k:Int)<(rs.length:Int))=false from q1);omega
  obtain rfl:k=rs.length:=by omega
  have hne:Dl id (co+32768+512) (rs.length:Int) qn qt++Bg (rs.take rs.length)≠[]:=fun q=>by
   have:=congrArg List.length q;rw[ZF,ZN]at this;omega
  rw[show Bg rs=Bg (rs.take rs.length)by rw[XF]];refine G0 ?_;(refine .inr (.inl ⟨_,_,false,[128],aM,F7 (T:=wT) (Dl id (co+32768+512) (rs.length:Int) qn qt++Bg (rs.take rs.length)) hne,Ab,oI,dI,?_⟩));refine G1 ?_;intro gg;(exact⟨[],aI⟩)
theorem Acn(m:Ms)(hm:m.Good):Fun Tryz.prog 36 [.c (.agg m.row)] [.c (.v (.string ⟨(Cx m).toArray⟩))]:=by
 rcases Bool.eq_false_or_eq_true m.an with ha|ha<;>rcases Bool.eq_false_or_eq_true m.ct with hc|hc
 ·exact Agd m hm ha hc
 ·exact Ag0 m hm ha hc
 ·exact Aia m hm ha hc
 ·exact Agu m hm ha hc
namespace Pl
theorem Vc{n a b:Int}(h:(!wIn n a b)=false):a≤n∧n≤b:=by
 unfold wIn at h;cases h1:decide (a≤n)with
 |true=>rw[h1]at h;exact⟨ZV h1,by simpa using h⟩
 |false=>rw[h1]at h;cases h
theorem Pa{nm:ByteArray}(h:Ao nm=0):nm.size≤120:=by
 unfold Ao at h;split at h
 ·cases h
 ·split at h
  ·cases h
  ·split at h
   ·cases h
   ·omega
theorem Ald{r:Rr}(h:Cu r=0):r.Good∧r.un=true:=by
 unfold Cu at h;split at h
 ·rename_i h0;exact absurd h h0
 ·rename_i h0;have h0:Ao r.nm=0:=by simpa using h0
  cases h1:(!Fk r.ty)with
  |true=>rw[h1]at h;cases h
  |false=>
   rw[h1]at h;cases h2:(!wIn r.ls 0 2147483647)with
   |true=>rw[h2]at h;cases h
   |false=>
    rw[h2]at h;cases h3:(!r.un)with
    |true=>rw[h3]at h;cases h
    |false=>
     rw[h3]at h;cases h4:(!wIn r.ad 0 4294967295)with
     |true=>rw[h4]at h;cases h
     |false=>
      rw[h4]at h;cases h5:(!wIn r.pt 0 65535)with
      |true=>rw[h5]at h;cases h
      |false=>
       rw[h5]at h;simp only[cond_false]at h;split at h
       ·cases h
       ·rename_i h6;exact⟨⟨h0,Pa h0,T3 h1,Vc h2,Vc h4,Vc h5,by omega,h,Pa h⟩,by simpa using h3⟩
theorem P5{l:List Int}(h:Cp l=0):∀e∈l,e=0:=by
 induction l with
 |nil=>intro e he;cases he
 |cons a l ih=>
  have h:(if a≠0 then a else Cp l)=0:=h;split at h
  ·rename_i ha;exact absurd h ha
  ·rename_i ha;intro e he;rcases XC.1 he with rfl|he
   ·simpa using ha
   ·exact ih h e he
theorem G9{m:Ms}(h:A4 m=0):m.Good∧∀r∈m.rs,r.un=true:=by
 unfold A4 at h;cases h1:(!wIn m.id 0 65535)with
 |true=>rw[h1]at h;cases h
 |false=>
  rw[h1]at h;cases h2:(!wIn m.co 0 15)with
  |true=>rw[h2]at h;cases h
  |false=>
   rw[h2]at h;simp only[cond_false]at h;split at h
   ·cases h
   ·rename_i h3;split at h
    ·rename_i h4;exact absurd h h4
    ·rename_i h4;have h4:Ao m.qn=0:=by simpa using h4
     cases h5:(!Fk m.qt)with
     |true=>rw[h5]at h;cases h
     |false=>
      rw[h5]at h;have h6:=P5 h;have h7:∀r∈m.rs,Cu r=0:=fun r hr=>h6 _ (List.mem_map_of_mem hr);exact⟨⟨Vc h1,Vc h2,h4,Pa h4,T3 h5,by omega,fun r hr=>(Ald (h7 r hr)).1⟩,fun r hr=>(Ald (h7 r hr)).2⟩
def wrE(m:Ms):Int:=if A4 m≠0 then A4 m else if 512<(Cx m).length then 2 else 0
def wrS(m:Ms):ByteArray:=if wrE m=0 then⟨(Cx m).toArray⟩else⟨#[]⟩
theorem Akm{m:Ms}(h:A4 m≠0):wrE m=A4 m∧wrS m=⟨#[]⟩:=by
 have e:wrE m=A4 m:=if_pos h;refine⟨e,?_⟩;unfold wrS;rw[e,if_neg h]
theorem Aec{m:Ms}(h:A4 m=0)(h2:512<(Cx m).length):wrE m=2∧wrS m=⟨#[]⟩:=by
 have e:wrE m=2:=by unfold wrE;rw[if_neg (by simpa using h),if_pos h2]
 refine⟨e,?_⟩;unfold wrS;rw[e];rfl
theorem Amk{m:Ms}(h:A4 m=0)(h2:¬512<(Cx m).length):wrE m=0∧wrS m=⟨(Cx m).toArray⟩:=by
 have e:wrE m=0:=by unfold wrE;rw[if_neg (by simpa using h),if_neg h2]
 refine⟨e,?_⟩;unfold wrS;rw[e];rfl
end Pl
theorem Adh(m:Ms)(hm:m.Sized)(hl:m.rs.length≤9223372036854775807):Fun Tryz.prog 16 [.c (.agg m.row)] [.c (.v (.string (wrS m))),.c (.v (.int .i64 (wrE m)))]:=by
 have hC:=Vp m hm hl;by_cases he:A4 m=0
 ·have hW:=Acn m (G9 he).1;have hs:(⟨(Cx m).toArray⟩:ByteArray).size=(Cx m).length:=by show(Cx m).toArray.size=_;simp
  rw[he]at hC;refine Ar Ui rfl ?_;refine G1 ?_;intro gg;(refine .inl ⟨_,_,false,[],aI,hC,Ab,nI,?_⟩);refine G1 ?_;intro gg;(refine .inl ⟨_,_,false,[],aI,hW,Ab,nI,?_⟩);refine G1 ?_;intro gg;refine Aa (fun k0=>?_) (fun k0=>?_)<;>rw[k0]
  ·have k1:=ZV k0;rw[hs]at k1;have h2:512<(Cx m).length:=by omega
   rw[(Aec he h2).1,(Aec he h2).2];refine G0 ?_;(exact⟨[],aI⟩)
  ·have k1:=ZW k0;rw[hs]at k1;have h2:¬512<(Cx m).length:=by omega
   rw[(Amk he h2).1,(Amk he h2).2];refine G0 ?_;(exact⟨[],aI⟩)
 ·refine Ar Ui rfl ?_;refine G1 ?_;intro gg;(refine .inl ⟨_,_,false,[],aI,hC,Ab,nI,?_⟩);refine G1 ?_;intro gg;rw[show(A4 m !=0)=true from ZZ.2 he];rw[(Akm he).1,(Akm he).2];refine G0 ?_;(exact⟨[],aI⟩)
namespace Pl
theorem Axy{a b:ByteArray}(h:a.data.toList=b.data.toList):a=b:=by
 obtain⟨a⟩:=a;obtain⟨b⟩:=b;congr 1;exact Array.ext' h
theorem Aw9{l:List UInt8}{c:UInt8}{m:Nat}(h:Lib.indexByte l c=(m:Int)):l[m]? =some c:=by
 induction l generalizing m with
 |nil=>simp[Lib.indexByte]at h
 |cons b l ih=>
  unfold Lib.indexByte at h;by_cases hb:(b==c)=true
  ·rw[if_pos hb]at h;have:b=c:=by simpa using hb
   obtain rfl:m=0:=by omega
   simp[this]
  ·rw[if_neg hb]at h;have hg:=Lib.indexByte_ge l c;split at h
   ·omega
   ·rename_i h1;have h1':¬Lib.indexByte l c= -1:=by simpa using h1
    obtain⟨k,hk⟩:∃k:Nat,Lib.indexByte l c=(k:Int):=⟨(Lib.indexByte l c).toNat,by omega⟩;obtain rfl:m=k+1:=by omega
    simpa using ih hk
theorem Aj4(c:UInt8)(s:ByteArray){k:Nat}(h:k<cnb s c):(Bz c s k).data.toList=(S0 c s k).data.toList++[c]++(Bz c s (k+1)).data.toList:=by
 obtain⟨m,h1,h2,h3,h4⟩:=Alb c s h;have hm:=Aw9 (l:=(Bz c s k).data.toList) (c:=c) (m:=m) h1;have hlen:(Bz c s k).data.toList.length=(Bz c s k).size:=by simp
 rw[h3,h4,D3,D3,List.drop_zero];rw[List.take_of_length_le (i:=(Bz c s k).size) (by omega)];have hd:(Bz c s k).data.toList.drop m=c::(Bz c s k).data.toList.drop (m+1):=by
  rw[List.drop_eq_getElem_cons (by omega)];congr 1;rw[ZC (by omega)]at hm;exact Option.some.inj hm
 rw[ZS];show _=List.take m _++(c::List.drop (m+1) _);rw[←hd,List.take_append_drop]
theorem Anu(s:ByteArray)(c:UInt8):∀(j k:Nat),k+j=cnb s c→Lib.join ((((List.range' k j).map (S0 c s))++[Bz c s (cnb s c)]).map (·.data.toList)) [c]=(Bz c s k).data.toList:=by
 intro j
 induction j with
 |zero=>
  intro k hk;have hk:k=cnb s c:=by omega
  rw[hk];simp[Lib.join]
 |succ j ih=>
  intro k hk;have h1:=ih (k+1) (by omega);rw[List.range'_succ,List.map_cons,List.cons_append,List.map_cons];rw[Aj4 c s (k:=k) (by omega),←h1];obtain⟨x,xs,hx⟩:∃x xs,(((List.range' (k+1) j).map (S0 c s))++[Bz c s (cnb s c)]).map (·.data.toList)=x::xs:=by
   cases j<;>simp[List.range'_succ]
  rw[hx];simp[Lib.join]
theorem Agl(s:ByteArray):Df ⟨#[46]⟩ (A5 s)=s:=by
 apply Axy;unfold A5;split
 ·rename_i h;have:=toList_inj (ZR.1 h);subst this;rfl
 ·have h:=Anu s 46 (cnb s 46) 0 (by omega);rw[←List.range_eq_range']at h;exact h
def At(s:ByteArray)(a:Nat)(l:List UInt8):Prop:=∃pre post,s.data.toList=pre++l++post∧pre.length=a
theorem At.app{s:ByteArray}{a:Nat}{l l':List UInt8}(h:At s a (l++l')):At s a l∧At s (a+l.length) l':=by
 obtain⟨pre,post,h1,h2⟩:=h;exact⟨⟨pre,l'++post,by rw[h1];simp,h2⟩,⟨pre++l,post,by rw[h1];simp,by simp[h2]⟩⟩
theorem At.le{s:ByteArray}{a:Nat}{l:List UInt8}(h:At s a l):a+l.length≤s.size:=by
 obtain⟨pre,post,h1,h2⟩:=h;have:=congrArg List.length h1;simp at this;omega
theorem At.byte{s:ByteArray}{a:Nat}{c:UInt8}(h:At s a [c]):Cr s a=some (c.toNat,a+1):=by
 obtain⟨pre,post,h1,h2⟩:=h;unfold Cr;have:s.data.toList[a]? =some c:=by rw[h1];subst h2;simp
 have hlt:a<s.size:=by
  have:=(ZB.1 this).1;simpa using this
 have e:s[a]? =some c:=by
  rw[getElem?_pos s a hlt];congr 1;have:=(ZB.1 this).2;rw[Array.getElem_toList]at this;exact this
 rw[e];rfl
theorem At.two{s:ByteArray}{a:Nat}{n:Int}(h:At s a (Av [n]))(h0:0≤n)(h1:n≤65535):Bt s a=some (n.toNat,a+2):=by
 have e:Av [n]=[UInt8.ofNat (n/256).toNat]++[UInt8.ofNat (n%256).toNat]:=rfl;rw[e]at h;have b1:=h.app.1.byte;have b2:=h.app.2.byte;unfold Bt;rw[b1,ZA];simp only[ZJ,ZN]at b2 ⊢;rw[b2,ZA];have e1:(UInt8.ofNat (n/256).toNat).toNat=(n/256).toNat:=by rw[UInt8.toNat_ofNat'];exact Nat.mod_eq_of_lt (by omega)
 have e2:(UInt8.ofNat (n%256).toNat).toNat=(n%256).toNat:=by rw[UInt8.toNat_ofNat'];exact Nat.mod_eq_of_lt (by omega)
 rw[e1,e2];congr 2;omega
theorem Fi(n:Int)(ns:List Int):Av (n::ns)=Av [n]++Av ns:=by simp[Av]
theorem At.four{s:ByteArray}{a:Nat}{n:Int}(h:At s a (Av [n/65536,n%65536]))(h0:0≤n)(h1:n≤4294967295):Gp s a=some (n.toNat,a+4):=by
 rw[Fi]at h;have b1:=h.app.1.two (by omega) (by omega);have b2:=h.app.2.two (by omega) (by omega);rw[Au]at b2;unfold Gp;rw[b1,ZA];simp only[ZJ,ZN]at b2 ⊢;rw[b2,ZA];congr 2;omega
theorem At.bytes{s:ByteArray}{a:Nat}{x:ByteArray}(h:At s a x.data.toList):Fo s a x.size=some (x,a+x.size):=by
 have hx:x.data.toList.length=x.size:=by simp
 have:=h.le;unfold Fo;rw[if_pos (by omega)];congr 2;apply Axy;rw[D3];obtain⟨pre,post,h1,h2⟩:=h;rw[h1,←hx,ZS];subst h2;rw[List.take_append,List.drop_append];simp
theorem Anf{c:UInt8}(h:okB c.toNat=true):F8 c=c:=by
 unfold F8;rw[if_neg];intro⟨h1,h2⟩;unfold okB at h;simp at h;omega
theorem Ap1{x:ByteArray}(h:lab x.data.toList=true):C6 x=x:=by
 apply Axy;unfold C6;show x.data.toList.map F8=x.data.toList;have h2:∀c∈x.data.toList,okB c.toNat=true:=by
  unfold lab at h;exact fun c hc=>List.all_eq_true.1 (Bool.and_eq_true_iff.1 h).1 c hc
 have:x.data.toList.map F8=x.data.toList.map id:=List.map_congr_left fun c hc=>Anf (h2 c hc);rw[this,List.map_id]
theorem Aj2{x:ByteArray}(h:lab x.data.toList=true):1≤x.size∧x.size≤30:=by
 unfold lab at h;have:=ZV (Bool.and_eq_true_iff.1 h).2;have e:x.data.toList.length=x.size:=by simp
 omega
theorem At.nameR{s:ByteArray}:∀(ls l0:List ByteArray) (a f fr:Nat),At s a (D7 ls++[0])→(∀x∈ls,lab x.data.toList=true)→l0.length+ls.length≤8→ls.length<f→
  nameR s f a l0 none fr=some (l0++ls,a+(D7 ls).length+1):=by
 intro ls
 induction ls with
 |nil=>
  intro l0 a f fr h hl h8 hf;obtain⟨f,rfl⟩:∃f',f=f'+1:=⟨f-1,by simp at hf;omega⟩;have b:=At.byte (c:=0) h;rw[Pl.nameR,if_pos (by simpa using h8),b,ZA];simp only[List.append_nil];rw[if_pos (by decide)];rfl
 |cons x ls ih=>
  intro l0 a f fr h hl h8 hf;obtain⟨f,rfl⟩:∃f',f=f'+1:=⟨f-1,by omega⟩;have hx:=hl x (by simp);have hz:=Aj2 hx;have e:D7 (x::ls)++[0]=[UInt8.ofNat x.size]++(x.data.toList++(D7 ls++[0])):=by simp[D7,Aqx]
  rw[e]at h;have b1:=h.app.1.byte;have h2:=h.app.2;rw[show [UInt8.ofNat x.size].length=1 from rfl]at h2;have b2:=h2.app.1.bytes;have h3:=h2.app.2;have el:x.data.toList.length=x.size:=by simp
  rw[el]at h3;have ez:(UInt8.ofNat x.size).toNat=x.size:=by rw[UInt8.toNat_ofNat'];exact Nat.mod_eq_of_lt (by omega)
  rw[ez]at b1;simp only[ZJ]at h8 hf;rw[Pl.nameR,if_pos (by omega),b1,ZA];simp only;rw[if_neg (by omega),if_neg (by omega),b2,ZA];simp only;rw[Ap1 hx,if_pos hx,ih (l0++[x]) (a+1+x.size) f fr h3 (fun y hy=>hl y (by simp[hy])) (by simp;omega) (by omega)];have:(D7 (x::ls)).length=1+x.size+(D7 ls).length:=by simp[D7,Aqx];omega
  rw[this];simp only[ZS,List.cons_append,List.nil_append];congr 2;omega
theorem Ab4{nm:ByteArray}(h:Ao nm=0):(∀x∈A5 nm,lab x.data.toList=true)∧(A5 nm).length≤8∧nm.size≤120:=by
 unfold Ao at h;split at h
 ·cases h
 ·rename_i h1;split at h
  ·cases h
  ·split at h
   ·cases h
   ·refine⟨fun x hx=>?_,by omega,by omega⟩;have h2:(A5 nm).any (fun x=> !lab x.data.toList)=false:=by simpa using h1
    have:=List.any_eq_false.1 h2 x hx;simpa using this
theorem At.name{s:ByteArray}{a:Nat}{nm:ByteArray}(h:At s a (Bv nm))(hn:Ao nm=0):Eq s a=some (nm,a+(Bv nm).length):=by
 obtain⟨h1,h2,h3⟩:=Ab4 hn;unfold Eq;rw[At.nameR (A5 nm) [] a (a+10) a h h1 (by simpa using h2) (by omega)];show some (Df ⟨#[46]⟩ ([]++A5 nm),_)=_;rw[List.nil_append,Agl];simp[Bv];omega
theorem At.byteN{s:ByteArray}{a n:Nat}{l:List UInt8}(h:At s a (UInt8.ofNat n::l))(hn:n<256):Cr s a=some (n,a+1)∧At s (a+1) l:=by
 have h':At s a ([UInt8.ofNat n]++l):=h;refine⟨?_,h'.app.2⟩;rw[h'.app.1.byte,UInt8.toNat_ofNat',Nat.mod_eq_of_lt (by omega)]
theorem Amo{x:ByteArray}(h:em x=true):x=⟨#[]⟩:=toList_inj (ZR.1 h)
theorem Bai{nm tx tg:ByteArray}{ls ad pt:Int}(h:Rr.un ⟨nm,1,ls,ad,tx,pt,tg⟩=true):tx=⟨#[]⟩∧pt=0∧tg=⟨#[]⟩:=by
 unfold Rr.un at h;simp at h;exact⟨Amo h.1,h.2.1,Amo h.2.2⟩
theorem Az5{nm tx tg:ByteArray}{ls ad pt:Int}(h:Rr.un ⟨nm,16,ls,ad,tx,pt,tg⟩=true):ad=0∧pt=0∧tg=⟨#[]⟩:=by
 unfold Rr.un at h;simp at h;exact⟨h.1,h.2.1,Amo h.2.2⟩
theorem Azw{nm tx tg:ByteArray}{ls ad pt:Int}(h:Rr.un ⟨nm,33,ls,ad,tx,pt,tg⟩=true):ad=0∧tx=⟨#[]⟩:=by
 unfold Rr.un at h;simp at h;exact⟨h.1,Amo h.2⟩
theorem At.body{s:ByteArray}{a:Nat}{r:Rr}(h:At s a (inB r))(hg:r.Good)(hu:r.un=true):Il s r.ty.toNat a=some ((r.ad.toNat,r.tx,r.pt.toNat,r.tg),a+(inB r).length):=by
 obtain⟨nm,ty,ls,ad,tx,pt,tg⟩:=r;obtain⟨h1,h2,h3,h4,h5,h6,h7,h8,h9⟩:=hg;simp only at h1 h2 h3 h4 h5 h6 h7 h8 h9;rcases h3 with rfl|rfl|rfl
 ·obtain⟨rfl,rfl,rfl⟩:=Bai hu;have e:inB ⟨nm,1,ls,ad,⟨#[]⟩,0,⟨#[]⟩⟩=Av [ad/65536,ad%65536]:=rfl;rw[e]at h ⊢;have b:=h.four h5.1 h5.2;show Il s 1 a=some ((ad.toNat,⟨#[]⟩,0,⟨#[]⟩),_);unfold Il;rw[if_pos rfl,b,Au];rfl
 ·obtain⟨rfl,rfl,rfl⟩:=Az5 hu;have e:inB ⟨nm,16,ls,0,tx,0,⟨#[]⟩⟩=UInt8.ofNat tx.size::tx.data.toList:=rfl;rw[e]at h ⊢;obtain⟨b1,g1⟩:=h.byteN (by omega);have b2:=g1.bytes;have hx:tx.data.toList.length=tx.size:=by simp
  show Il s 16 a=some ((0,tx,0,⟨#[]⟩),_);unfold Il;rw[if_neg (by decide),if_pos rfl,b1,ZA];simp only;rw[b2,ZA];simp only[ZJ,hx];congr 2;omega
 ·obtain⟨rfl,rfl⟩:=Azw hu;have e:inB ⟨nm,33,ls,0,⟨#[]⟩,pt,tg⟩=Av [0]++(Av [0]++(Av [pt]++Bv tg)):=by
   show Av [0,0,pt]++Bv tg=_;simp[Av]
  rw[e]at h ⊢;have b1:=h.app.1.two (by omega) (by omega);have g1:=h.app.2;rw[Au]at g1;have b2:=g1.app.1.two (by omega) (by omega);have g2:=g1.app.2;rw[Au]at g2;have b3:=g2.app.1.two h6.1 h6.2;have g3:=g2.app.2;rw[Au]at g3;have b4:=g3.name h8;simp only[ZJ,ZN]at b2 b3 b4;show Il s 33 a=some ((0,⟨#[]⟩,pt.toNat,tg),_);unfold Il;rw[if_neg (by decide),if_neg (by decide),if_pos rfl,b1,ZA];simp only;rw[if_pos (by decide),b2,ZA];simp only;rw[if_pos (by decide),b3,ZA];simp only;rw[b4,ZA];simp only[ZF,Au,ZJ,ZN];congr 2;omega
theorem Aue(r:Rr):H5 r=Bv r.nm++(Av [r.ty]++(Av [1]++(Av [r.ls/65536,r.ls%65536]++(Av [((inB r).length:Int)]++inB r)))):=by
 unfold H5;rw[Fi r.ty,Fi 1];simp only[ZS]
theorem At.rec_{s:ByteArray}{a:Nat}{r:Rr}(h:At s a (H5 r))(hg:r.Good)(hu:r.un=true):Pp s a=some (r,a+(H5 r).length):=by
 have hin:=Ok hg;have hle:=h.le;rw[Aue]at h hle ⊢;have b1:=h.app.1.name hg.nm;have g1:=h.app.2;have hty:0≤r.ty∧r.ty≤65535:=by rcases hg.ty with q|q|q<;>omega
 have b2:=g1.app.1.two hty.1 hty.2;have g2:=g1.app.2;rw[Au]at g2;have b3:=g2.app.1.two (by omega) (by omega);have g3:=g2.app.2;rw[Au]at g3;have b4:=g3.app.1.four hg.ls.1 (by have:=hg.ls.2;omega);have g4:=g3.app.2;rw[Au]at g4;have b5:=g4.app.1.two (by omega) (by omega);have g5:=g4.app.2;rw[Au]at g5;have b6:=g5.body hg hu;simp only[ZF,Au,ZJ,ZN]at b2 b3 b4 b5 b6 hle ⊢;unfold Pp;rw[b1,ZA];simp only;rw[b2,ZA];simp only;rw[b3,ZA];simp only;rw[if_pos (by decide)];have e4:a+(Bv r.nm).length+2*1+2=a+(Bv r.nm).length+2*(0+1)+2*(0+1):=by omega
 simp only[Nat.zero_add,Nat.mul_one]at *;rw[b4,ZA];simp only;rw[show a+(Bv r.nm).length+2+2+4=a+(Bv r.nm).length+2+2+2*(1+1)by omega,b5,ZA];simp only;rw[if_pos (by omega),b6,ZA];simp only;rw[if_pos (by omega)];obtain⟨nm,ty,ls,ad,tx,pt,tg⟩:=r;have q1:=hg.ls.1;have q2:=hg.ad.1;have q3:=hg.pt.1;simp only at q1 q2 q3 hty;simp only[ZD,Prod.mk.injEq,Rr.mk.injEq,true_and,and_true];omega
theorem At.recs{s:ByteArray}:∀(l:List Rr) (a:Nat),At s a (Bg l)→(∀r∈l,r.Good∧r.un=true)→Fg s l.length a=some (l,a+(Bg l).length)
 |[],a,_,_=>rfl
 |r::l,a,h,hg=>by
  have e:Bg (r::l)=H5 r++Bg l:=rfl;rw[e]at h ⊢;have b1:=h.app.1.rec_ (hg r (by simp)).1 (hg r (by simp)).2;have b2:=At.recs l _ h.app.2 fun x hx=>hg x (by simp[hx]);show Fg s (l.length+1) a=_;rw[Fg,b1,ZA];simp only;rw[b2,ZA];simp only[ZF];congr 2;omega
theorem Av4(m:Ms)(h:0≤m.co∧m.co≤15):(Ec m/256).toNat=(if m.an then 128 else 0)+(if m.ct then 2 else 0)∧(Ec m%256).toNat=m.co.toNat:=by
 unfold Ec;cases m.an<;>cases m.ct<;>simp<;>omega
theorem Zp(m:Ms):Cx m=Av [m.id]++(UInt8.ofNat (Ec m/256).toNat::UInt8.ofNat (Ec m%256).toNat::(Av [1]++(Av [(m.rs.length:Int)]++(Av [0]++(Av [0]++(Bv m.qn++(Av [m.qt]++(Av [1]++Bg m.rs)))))))):=by
 unfold Cx;rw[Fi m.id,Fi (Ec m),Fi 1,Fi (m.rs.length:Int),Fi 0,Fi m.qt];rw[show Av [Ec m]=[UInt8.ofNat (Ec m/256).toNat,UInt8.ofNat (Ec m%256).toNat]from rfl];simp only[ZS,List.cons_append,List.nil_append]
theorem Ata{m:Ms}(hm:m.Good)(hu:∀r∈m.rs,r.un=true):Od ⟨(Cx m).toArray⟩=some m:=by
 have h:At ⟨(Cx m).toArray⟩ 0 (Cx m):=⟨[],[],by simp,rfl⟩;have hs:(⟨(Cx m).toArray⟩:ByteArray).size=(Cx m).length:=by show(Cx m).toArray.size=_;simp
 obtain⟨f1,f2⟩:=Av4 m hm.co;generalize hS:(⟨(Cx m).toArray⟩:ByteArray)=s at *;have hlen:(Cx m).length=12+(Bv m.qn).length+4+(Bg m.rs).length:=by
  rw[Zp];simp only[ZF,ZJ,Au,ZN];omega
 rw[hlen]at hs;rw[Zp]at h;have hty:0≤m.qt∧m.qt≤65535:=by rcases hm.qt with q|q|q<;>omega
 have hln:=hm.len;have hco:=hm.co;have b1:=h.app.1.two hm.id.1 hm.id.2;have g1:=h.app.2;rw[Au]at g1;have hA:(Ec m/256).toNat<256:=by rw[f1];cases m.an<;>cases m.ct<;>decide
 obtain⟨b2,g2⟩:=g1.byteN hA;obtain⟨b3,g3⟩:=g2.byteN (by rw[f2];omega);have b4:=g3.app.1.two (by omega) (by omega);have g4:=g3.app.2;rw[Au]at g4;have b5:=g4.app.1.two (by omega) (by omega);have g5:=g4.app.2;rw[Au]at g5;have b6:=g5.app.1.two (by omega) (by omega);have g6:=g5.app.2;rw[Au]at g6;have b7:=g6.app.1.two (by omega) (by omega);have g7:=g6.app.2;rw[Au]at g7;have b8:=g7.app.1.name hm.qn;have g8:=g7.app.2;have b9:=g8.app.1.two hty.1 hty.2;have g9:=g8.app.2;rw[Au]at g9;have b10:=g9.app.1.two (by omega) (by omega);have g10:=g9.app.2;rw[Au]at g10;have b11:=At.recs m.rs _ g10 fun r hr=>⟨hm.rs r hr,hu r hr⟩;simp only[ZJ,ZN,Nat.zero_add,Nat.mul_one]at b1 b2 b3 b4 b5 b6 b7 b8 b9 b10 b11;unfold Od;rw[b1,ZA];simp only[Nat.zero_add];rw[b2,ZA];simp only;rw[b3,ZA];simp only;rw[f1,f2,if_pos (by cases m.an<;>cases m.ct<;>simp[Af0]<;>omega),b4,ZA];simp only;rw[if_pos (by decide),b5,ZA];simp only;rw[if_pos (by omega),b6,ZA];simp only;rw[if_pos (by decide),b7,ZA];simp only;rw[if_pos (by decide),b8,ZA];simp only;rw[b9,ZA];simp only;rw[b10,ZA];simp only;rw[if_pos (by decide),Int.toNat_natCast,b11,ZA];simp only;rw[if_pos (by omega)];obtain⟨id,an,ct,co,qn,qt,rs⟩:=m;have q1:=hm.id.1;simp only at q1 hco hty;simp only[ZD,Ms.mk.injEq,and_true,true_and];refine⟨by omega,?_,?_,by omega,by omega⟩
 ·cases an<;>cases ct<;>simp
 ·cases an<;>cases ct<;>simp
end Pl
namespace Pl
def A9:Ms:=⟨0,false,false,0,⟨#[]⟩,0,[]⟩
def rdP(s:ByteArray):Ms×Int:=if 512<s.size then(A9,2)else match Od s with
 |none=>(A9,1)
 |some m=>if A4 m=0 then(m,0)else(A9,1)
end Pl
theorem Fr.out{L:Nat→Prop}{a b c:World}(h:Fr (fun _=>False) a b)(k:Fr L b c)(hl:∀i,L i→a.heap.size≤i):Fr (fun _=>False) a c:=
 ⟨k.os.trans h.os,k.tape.trans h.tape,k.output.trans h.output,XI h.size k.size,fun i hi _=>(k.block i (XH hi h.size) (fun hL=>by have:=hl i hL;omega)).trans (h.block i hi id)⟩
theorem Fr.blk{L:Nat→Prop}{a b:World}{g:Nat}{t:TypeId}{cs:Array Value}(h:Fr L a b)(hb:Blk a g t cs)(hl:¬L g):Blk b g t cs:=(h.block g hb.lt hl).trans hb
def msV(m:Ms)(y:Value):Value:=.agg #[.int .i64 m.id,.bool m.an,.bool m.ct,.int .i64 m.co,.string m.qn,.int .i64 m.qt,y]
theorem Amf{w:World}{R:Nat→Prop}{m:Ms}{y:Value}(h:RV w R noG (.sl false (m.rs.map Rr.row)) y):RV w R noG (.agg m.row) (msV m y):=by
 refine .agg m.row [.int .i64 m.id,.bool m.an,.bool m.ct,.int .i64 m.co,.string m.qn,.int .i64 m.qt,y] rfl fun i u x hu hx=>?_;unfold Ms.row at hu;rcases i with _|_|_|_|_|_|_|i
 all_goals first
  |(cases hu;cases hx;exact .v _)
  |(cases hu;cases hx;exact h)
  |(simp at hu)
theorem Ba3{w:World}{R:Nat→Prop}{m:Ms}{x:Value}(h:RV w R noG (.agg m.row) x):∃y,x=msV m y∧RV w R noG (.sl false (m.rs.map Rr.row)) y:=by
 cases h with
 |agg cs xs hl h=>
  obtain⟨x0,x1,x2,x3,x4,x5,x6,rfl⟩:∃x0 x1 x2 x3 x4 x5 x6,xs=[x0,x1,x2,x3,x4,x5,x6]:=by
   rcases xs with _|⟨x0,_|⟨x1,_|⟨x2,_|⟨x3,_|⟨x4,_|⟨x5,_|⟨x6,_|⟨x7,xs⟩⟩⟩⟩⟩⟩⟩⟩<;>simp[Ms.row]at hl;exact⟨_,_,_,_,_,_,_,rfl⟩
  have h0:=Ce (h 0 _ _ rfl rfl);have h1:=Ce (h 1 _ _ rfl rfl);have h2:=Ce (h 2 _ _ rfl rfl);have h3:=Ce (h 3 _ _ rfl rfl);have h4:=Ce (h 4 _ _ rfl rfl);have h5:=Ce (h 5 _ _ rfl rfl);subst h0 h1 h2 h3 h4 h5;exact⟨x6,rfl,h 6 _ _ rfl rfl⟩
theorem Aps{w:World}{R:Nat→Prop}{G:Nat→Option Loc}{cl:Bool}{rows:List (List V)}{x:Value}(h:RV w R G (.sl cl rows) x):∃a k c,x=.slice a k c:=by
 generalize e:V.sl cl rows=u at h;cases h with
 |nil=>exact⟨_,_,_,rfl⟩
 |sl=>exact⟨_,_,_,rfl⟩
 |_=>cases e
theorem Adm{w:World}{R:Nat→Prop}{u:V}{x:Value}(h:RV w R noG u x):Kx w R [.c u] [x]:=by
 refine⟨rfl,fun i p y h1 h2=>?_,fun i j T sz rows T' sz' rows' x y b hij h1=>?_,fun b h=>?_⟩
 ·rcases i with _|i
  ·cases h1;cases h2;exact h
  ·simp at h1
 ·rcases i with _|i<;>simp at h1
 ·obtain⟨i,T,sz,rows,x,h1,_⟩:=h;rcases i with _|i<;>simp at h1
theorem Aee{u:V}{x:Value}{b:Nat}(h:A2 [.c u] [x] b):False:=by
 obtain⟨i,T,sz,rows,x,h1,_⟩:=h;rcases i with _|i<;>simp at h1
theorem Afg(w:World)(R:Nat→Prop):RV w R noG (.agg A9.row) (.agg K4):=Amf (m:=A9) (y:=.slice none 0 0) (.nil false none 0 (by simp))
def Af7(R:Nat→Prop)(w:World)(m:Ms)(er:Int)(e:Ending)(w':World):Prop:=
 ∃(x:Value) (R':Nat→Prop),e=.returned (.tuple #[x,.int .i64 er])∧Fr (fun _=>False) w w'∧(∀b,R b→R' b)∧(∀b,R' b→R b∨(b<w'.heap.size∧w.heap.size≤b))∧RV w' R' noG (.agg m.row) x
theorem Am3{s:ByteArray}{W:World}{R:Nat→Prop}{n:Nat}{cs:List Par}(hb:Blk W n rdT #[.string s,.int .i64 0])(hn:¬R n):Di W R [.mn rdT (rdC s 0) cs] [.pointer (some ⟨n,0,none⟩)] (fun k=>k=n):=by
 have hp:Kx W R (rdC s 0) [.string s,.int .i64 0]:=by
  refine⟨rfl,fun i p x h1 h2=>?_,fun i j T sz rows T' sz' rows' x y b hij h1=>?_,fun b h=>?_⟩
  ·rcases i with _|_|i
   ·cases h1;cases h2;exact .v _
   ·cases h1;cases h2;exact .v _
   ·simp[rdC,rdZ]at h1
  ·rcases i with _|_|i<;>simp[rdC,rdZ]at h1
  ·obtain⟨i,T,sz,rows,x,h1,_⟩:=h;rcases i with _|_|i<;>simp[rdC,rdZ]at h1
 have hnb:∀k,¬A2 (rdC s 0) [.string s,.int .i64 0] k:=fun k h=>by
  obtain⟨i,T,sz,rows,x,h1,_⟩:=h;rcases i with _|_|i<;>simp[rdC,rdZ]at h1
 refine⟨fun k=>k=n,fun _=>False,⟨n,[.string s,.int .i64 0],rfl,by simp[rdC,rdZ],⟨rfl,.inr ⟨n,1,_,rfl,ZU _,hb,by simp,by decide,rfl,rfl⟩⟩,hp,by simp[Value.oneCell'],hnb n,fun k=>⟨.inl,fun h=>h.elim id (fun h=>absurd h (hnb k))⟩⟩,fun _ h=>h,fun b h=>⟨id,by rw[h];exact hn⟩,fun b=>⟨.inl,fun h=>h.elim id False.elim⟩⟩
set_option maxRecDepth 100000 in
set_option maxHeartbeats 2000000 in
theorem Aob(s:ByteArray)(w:World)(h:(512:Int)<(s.size:Int))(R:Nat→Prop)(hlt:∀b,R b→b<w.heap.size):Calls Tryz.prog 17 #[.string s] w (Af7 R w A9 2):=by
 have hmf:∀(fn:Fn) (first cap:Array Value) (w:World),(Instr.makeFunc fn first cap).run Tryz.prog w=.ok (.func fn first cap) w:=fun _ _ _ _=>rfl
 go_enter_defers Tryz.func17,Tryz.ntmps17
 go_wp2
 have B0:=Blk.new w 52 K4;have B1:=Blk.new (w.alloc (.cells K4 52)) 32 #[.int .i64 2];have B2:=B0.alloc (.cells #[.int .i64 2] 32);simp[bodyPostD,Leaves,settle,results,Tryz.results17,go_sem];refine⟨.agg K4,R,rfl,?_,fun b h=>h,fun b h=>.inl h,Afg _ _⟩;exact((Fr.refl _ w).alloc_ _).alloc_ _
set_option maxRecDepth 100000 in
set_option maxHeartbeats 2000000 in
theorem As2(s:ByteArray)(w:World)(h:¬(512:Int)<(s.size:Int))(R:Nat→Prop)(hlt:∀b,R b→b<w.heap.size)(hd:Hi Tryz.prog 38 [.mn rdT (rdC s 0) (rdC s 0)] Hl):Calls Tryz.prog 17 #[.string s] w (Af7 R w A9 1):=by
 have hmf:∀(fn:Fn) (first cap:Array Value) (w:World),(Instr.makeFunc fn first cap).run Tryz.prog w=.ok (.func fn first cap) w:=fun _ _ _ _=>rfl
 go_enter_defers Tryz.func17,Tryz.ntmps17
 go_wp2_with fail
 have B0:=Blk.new w 52 K4;have B1:=Blk.new_ (w.alloc (.cells K4 52)) 32 #[.int .i64 0] (g:=w.heap.size+1) (by simp[World.alloc,-World.alloc_eq]);have B0':=B0.alloc (.cells #[.int .i64 0] 32);have B2:=Blk.new_ ((w.alloc (.cells K4 52)).alloc (.cells #[.int .i64 0] 32)) rdT #[.string s,.int .i64 0] (g:=w.heap.size+1+1) (by simp[World.alloc,-World.alloc_eq]);have B0'':=B0'.alloc (.cells #[.string s,.int .i64 0] rdT);have B1'':=B1.alloc (.cells #[.string s,.int .i64 0] rdT);refine(hd.2 _ (fun _=>False) [_] _ (fun _ h=>h.elim) (Am3 B2 id)).mono ?_
 rintro e w1 ⟨rfl,hf⟩
 have C0:=hf.blk B0'' (by omega);have C1:=hf.blk B1'' (by omega);refine leaves_cons (f:=37) (args:= #[.pointer (some ⟨w.heap.size,0,none⟩),.pointer (some ⟨w.heap.size+1,0,none⟩)]) (by simp) (by simp[go_sem]) ?_;refine(Akc w.heap.size (w.heap.size+1) _ _ _ _ _ _ _ _ w1 C0 C1 (by omega)).mono ?_
 rintro e u' w2 ⟨rfl,rfl,hC⟩
 obtain⟨D0,D1,hf2⟩:=hC;have e0:w2.cell? ⟨w.heap.size,0,none⟩=some (.int .i64 0):=D0.cell 0;have e1:w2.cell? ⟨w.heap.size,1,none⟩=some (.bool false):=D0.cell 1;have e2:w2.cell? ⟨w.heap.size,2,none⟩=some (.bool false):=D0.cell 2;have e3:w2.cell? ⟨w.heap.size,3,none⟩=some (.int .i64 0):=D0.cell 3;have e4:w2.cell? ⟨w.heap.size,4,none⟩=some (.string ⟨#[]⟩):=D0.cell 4;have e5:w2.cell? ⟨w.heap.size,5,none⟩=some (.int .i64 0):=D0.cell 5;have e6:w2.cell? ⟨w.heap.size,6,none⟩=some (.slice none 0 0):=D0.cell 6;have g0:w2.cell? ⟨w.heap.size+1,0,none⟩=some (.int .i64 1):=D1.cell 0;simp[Leaves,settle,results,Tryz.results17,go_sem,e0,e1,e2,e3,e4,e5,e6,g0];refine⟨.agg K4,R,rfl,?_,fun b h=>h,fun b h=>.inl h,Afg _ _⟩;have F0:Fr (fun _=>False) w _:=(((Fr.refl _ w).alloc_ (.cells K4 52)).alloc_ (.cells #[.int .i64 0] 32)).alloc_ (.cells #[.string s,.int .i64 0] rdT);exact(F0.out hf (fun i hi=>by omega)).out hf2 (fun i hi=>by omega)
set_option maxRecDepth 100000 in
set_option maxHeartbeats 2000000 in
theorem Atw(s:ByteArray)(m:Ms)(w:World)(h:¬(512:Int)<(s.size:Int))(R:Nat→Prop)(hlt:∀b,R b→b<w.heap.size)(hm:H3 Tryz.prog 38 [.mn rdT (rdC s 0) (rdC s s.size)] [.p (.c (.agg m.row))])(hc:Fun Tryz.prog 35 [.c (.agg m.row)] [.c (.v (.int .i64 (A4 m)))])(v:Ms)(er:Int)(hv:A4 m=0→v=m∧er=0)(hz:A4 m≠0→v=A9∧er=1):Calls Tryz.prog 17 #[.string s] w (Af7 R w v er):=by
 have hv:=hid hv;have hz:=hid hz;have hmf:∀(fn:Fn) (first cap:Array Value) (w:World),(Instr.makeFunc fn first cap).run Tryz.prog w=.ok (.func fn first cap) w:=fun _ _ _ _=>rfl
 go_enter_defers Tryz.func17,Tryz.ntmps17
 go_wp2_with fail
 have B0:=Blk.new w 52 K4;have B1:=Blk.new_ (w.alloc (.cells K4 52)) 32 #[.int .i64 0] (g:=w.heap.size+1) (by simp[World.alloc,-World.alloc_eq]);have B0':=B0.alloc (.cells #[.int .i64 0] 32);have B2:=Blk.new_ ((w.alloc (.cells K4 52)).alloc (.cells #[.int .i64 0] 32)) rdT #[.string s,.int .i64 0] (g:=w.heap.size+1+1) (by simp[World.alloc,-World.alloc_eq]);have B0'':=B0'.alloc (.cells #[.string s,.int .i64 0] rdT);have B1'':=B1.alloc (.cells #[.string s,.int .i64 0] rdT);have F0:Fr (fun _=>False) w _:=(((Fr.refl _ w).alloc_ (.cells K4 52)).alloc_ (.cells #[.int .i64 0] 32)).alloc_ (.cells #[.string s,.int .i64 0] rdT);refine(hm.2 _ R [_] _ (fun b hb=>XH (hlt b hb) F0.size) (Am3 B2 fun hR=>by have:=hlt _ hR;omega)).mono ?_
 rintro e w1 ⟨ys,R1,F1,rfl,hl,hf,hR1,hR2,hp,hF⟩
 have C0:=hf.blk B0'' (by omega);have C1:=hf.blk B1'' (by omega);obtain⟨x,rfl⟩:∃x,ys=[x]:=by
  rcases ys with _|⟨x,_|⟨x',ys⟩⟩<;>simp at hl;exact⟨x,rfl⟩
 obtain⟨y,rfl,hy⟩:∃y,x=msV m y∧RV w1 R1 noG (.sl false (m.rs.map Rr.row)) y:=by
  obtain⟨G1,G2,h1,_⟩:=hp;exact Ba3 h1.1
 obtain⟨a,k,c,rfl⟩:∃a k c,y=.slice a k c:=by
  exact Aps hy
 have hy:=hid hy;have hR1:=hid hR1;have hR2:=hid hR2;have hp:=hid hp;have hF:=hid hF;have HF:=hid hf;clear hf;have e0:w1.cell? ⟨w.heap.size,0,none⟩=some (.int .i64 0):=C0.cell 0;have e1:w1.cell? ⟨w.heap.size,1,none⟩=some (.bool false):=C0.cell 1;have e2:w1.cell? ⟨w.heap.size,2,none⟩=some (.bool false):=C0.cell 2;have e3:w1.cell? ⟨w.heap.size,3,none⟩=some (.int .i64 0):=C0.cell 3;have e4:w1.cell? ⟨w.heap.size,4,none⟩=some (.string ⟨#[]⟩):=C0.cell 4;have e5:w1.cell? ⟨w.heap.size,5,none⟩=some (.int .i64 0):=C0.cell 5;have e6:w1.cell? ⟨w.heap.size,6,none⟩=some (.slice none 0 0):=C0.cell 6;have f0:=fun i=>C0.frozen i;have g0:w1.cell? ⟨w.heap.size+1,0,none⟩=some (.int .i64 0):=C1.cell 0;have h0:=C1.frozen 0;simp only[G7,msV]
 go_wp2_with fail
 have D0:Blk (((((((w1.setCell ⟨w.heap.size,0,none⟩ (.int .i64 m.id)).setCell ⟨w.heap.size,1,none⟩ (.bool m.an)).setCell ⟨w.heap.size,2,none⟩ (.bool m.ct)).setCell ⟨w.heap.size,3,none⟩ (.int .i64 m.co)).setCell ⟨w.heap.size,4,none⟩ (.string m.qn)).setCell ⟨w.heap.size,5,none⟩ (.int .i64 m.qt)).setCell ⟨w.heap.size,6,none⟩ (.slice a k c)) w.heap.size 52 #[.int .i64 m.id,.bool m.an,.bool m.ct,.int .i64 m.co,.string m.qn,.int .i64 m.qt,.slice a k c]:=
  ((((((C0.set_ 0 _).set_ 1 _).set_ 2 _).set_ 3 _).set_ 4 _).set_ 5 _).set_ 6 _
 have D1:=((((((C1.far (p:=⟨w.heap.size,0,none⟩) (by simp) (.int .i64 m.id)).far (p:=⟨w.heap.size,1,none⟩) (by simp) (.bool m.an)).far (p:=⟨w.heap.size,2,none⟩) (by simp) (.bool m.ct)).far (p:=⟨w.heap.size,3,none⟩) (by simp) (.int .i64 m.co)).far (p:=⟨w.heap.size,4,none⟩) (by simp) (.string m.qn)).far (p:=⟨w.heap.size,5,none⟩) (by simp) (.int .i64 m.qt)).far (p:=⟨w.heap.size,6,none⟩) (by simp) (.slice a k c);have F2:Fr (fun k=>k=w.heap.size) w1 _:=(((((((Fr.refl (fun k=>k=w.heap.size) w1).set_ rfl 0 (.int .i64 m.id)).set_ rfl 1 (.bool m.an)).set_ rfl 2 (.bool m.ct)).set_ rfl 3 (.int .i64 m.co)).set_ rfl 4 (.string m.qn)).set_ rfl 5 (.int .i64 m.qt)).set_ rfl 6 (.slice a k c);generalize hw2:(((((((w1.setCell ⟨w.heap.size,0,none⟩ (.int .i64 m.id)).setCell ⟨w.heap.size,1,none⟩ (.bool m.an)).setCell ⟨w.heap.size,2,none⟩ (.bool m.ct)).setCell ⟨w.heap.size,3,none⟩ (.int .i64 m.co)).setCell ⟨w.heap.size,4,none⟩ (.string m.qn)).setCell ⟨w.heap.size,5,none⟩ (.int .i64 m.qt)).setCell ⟨w.heap.size,6,none⟩ (.slice a k c))=w2 at D0 D1 F2 ⊢;clear e0 e1 e2 e3 e4 e5 e6 f0 g0 h0 hw2;have hn1:∀b,R1 b→b≠w.heap.size∧b≠w.heap.size+1:=fun b hb=>by
  rcases hR2.out b hb with g|⟨g1,g2⟩
  ·have:=hlt b g;omega
  ·rcases g2 with g2|g2
   ·omega
   ·have:=F0.size;simp[World.alloc,-World.alloc_eq]at g2;omega
 have hlt1:∀b,R1 b→b<w1.heap.size:=fun b hb=>by
  rcases hR2.out b hb with g|⟨g1,g2⟩
  ·have:=hlt b g;have:=F0.size;have:=HF.out.size;omega
  ·exact g1
 have hy2:=hy.out.mono (fun b hb=>⟨hb,F2.block b (hlt1 b hb) (hn1 b hb).1⟩) (Gle.refl _);refine(hc.2 _ R1 [_] (fun b hb=>XH (hlt1 b hb) F2.size) (Adm (Amf hy2))).mono ?_
 rintro e w3 ⟨ys,R3,rfl,hf3,hR3,hR4,hp3,hF3⟩
 obtain⟨x,rfl⟩:∃x,ys=[x]:=by
  have hl:=hp3.len;rcases ys with _|⟨x,_|⟨x',ys⟩⟩<;>simp at hl
  exact⟨x,rfl⟩
 have hx:x=.int .i64 (A4 m):=Ce (hp3.ok 0 _ _ rfl rfl);subst hx;have hf3':Fr (fun _=>False) w2 w3:=⟨hf3.os,hf3.tape,hf3.output,hf3.size,fun k hk _=>hf3.block k hk Aee⟩;have E0:=hf3'.blk D0 id;have E1:=hf3'.blk D1 id;have hy3:=hid (hy2.mono (fun b hb=>⟨hb,hf3'.block b (XH (hlt1 b hb) F2.size) id⟩) (Gle.refl _));have HF3:=hid hf3';have hp3:=hid hp3;have hn1:=hid hn1;have hlt1:=hid hlt1;clear hf3 hR3 hR4 hF3 hp3 hf3' hy2;simp only[G7];have e0:w3.cell? ⟨w.heap.size,0,none⟩=some (.int .i64 m.id):=E0.cell 0;have e1:w3.cell? ⟨w.heap.size,1,none⟩=some (.bool m.an):=E0.cell 1;have e2:w3.cell? ⟨w.heap.size,2,none⟩=some (.bool m.ct):=E0.cell 2;have e3:w3.cell? ⟨w.heap.size,3,none⟩=some (.int .i64 m.co):=E0.cell 3;have e4:w3.cell? ⟨w.heap.size,4,none⟩=some (.string m.qn):=E0.cell 4;have e5:w3.cell? ⟨w.heap.size,5,none⟩=some (.int .i64 m.qt):=E0.cell 5;have e6:w3.cell? ⟨w.heap.size,6,none⟩=some (.slice a k c):=E0.cell 6;have f0:=fun i=>E0.frozen i;have g0:w3.cell? ⟨w.heap.size+1,0,none⟩=some (.int .i64 0):=E1.cell 0;have h0:=E1.frozen 0;by_cases hE:A4 m=0
 ·obtain⟨h1,h2⟩:=hv.out hE;have h1:=hid h1;have h2:=hid h2
  go_wp2_with fail
  refine leaves_cons (f:=37) (args:= #[.pointer (some ⟨w.heap.size,0,none⟩),.pointer (some ⟨w.heap.size+1,0,none⟩)]) (by simp) (by simp[go_sem]) ?_;refine(Abj w.heap.size (w.heap.size+1) _).mono ?_
  rintro e u' w4 ⟨rfl,rfl,hw4⟩
  have F4:Fr (fun k=>k=w.heap.size∨k=w.heap.size+1) w3 w4:=by rw[hw4];exact(((((((((Fr.refl (fun k=>k=w.heap.size∨k=w.heap.size+1) w3).set_ (.inl rfl) 0 (.int .i64 m.id)).set_ (.inl rfl) 1 (.bool m.an)).set_ (.inl rfl) 2 (.bool m.ct)).set_ (.inl rfl) 3 (.int .i64 m.co)).set_ (.inl rfl) 4 (.string m.qn)).set_ (.inl rfl) 5 (.int .i64 m.qt)).set_ (.inl rfl) 6 (.slice a k c)).set_ (.inr rfl) 0 (.int .i64 0)).alloc_ (.cells #[] 77)
  have G0:Blk w4 w.heap.size 52 #[.int .i64 m.id,.bool m.an,.bool m.ct,.int .i64 m.co,.string m.qn,.int .i64 m.qt,.slice a k c]:=by rw[hw4];exact((((((((E0.set_ 0 (.int .i64 m.id)).set_ 1 (.bool m.an)).set_ 2 (.bool m.ct)).set_ 3 (.int .i64 m.co)).set_ 4 (.string m.qn)).set_ 5 (.int .i64 m.qt)).set_ 6 (.slice a k c)).far (p:=⟨w.heap.size+1,0,none⟩) (by simp) (.int .i64 0)).alloc (.cells #[] 77)
  have G1:Blk w4 (w.heap.size+1) 32 #[.int .i64 0]:=by rw[hw4];exact((((((((E1.far (p:=⟨w.heap.size,0,none⟩) (by simp) (.int .i64 m.id)).far (p:=⟨w.heap.size,1,none⟩) (by simp) (.bool m.an)).far (p:=⟨w.heap.size,2,none⟩) (by simp) (.bool m.ct)).far (p:=⟨w.heap.size,3,none⟩) (by simp) (.int .i64 m.co)).far (p:=⟨w.heap.size,4,none⟩) (by simp) (.string m.qn)).far (p:=⟨w.heap.size,5,none⟩) (by simp) (.int .i64 m.qt)).far (p:=⟨w.heap.size,6,none⟩) (by simp) (.slice a k c)).set_ 0 (.int .i64 0)).alloc (.cells #[] 77)
  clear hw4 e0 e1 e2 e3 e4 e5 e6 f0 g0 h0;have e0:w4.cell? ⟨w.heap.size,0,none⟩=some (.int .i64 m.id):=G0.cell 0;have e1:w4.cell? ⟨w.heap.size,1,none⟩=some (.bool m.an):=G0.cell 1;have e2:w4.cell? ⟨w.heap.size,2,none⟩=some (.bool m.ct):=G0.cell 2;have e3:w4.cell? ⟨w.heap.size,3,none⟩=some (.int .i64 m.co):=G0.cell 3;have e4:w4.cell? ⟨w.heap.size,4,none⟩=some (.string m.qn):=G0.cell 4;have e5:w4.cell? ⟨w.heap.size,5,none⟩=some (.int .i64 m.qt):=G0.cell 5;have e6:w4.cell? ⟨w.heap.size,6,none⟩=some (.slice a k c):=G0.cell 6;have g0:w4.cell? ⟨w.heap.size+1,0,none⟩=some (.int .i64 0):=G1.cell 0;simp[Leaves,settle,results,Tryz.results17,go_sem,e0,e1,e2,e3,e4,e5,e6,g0];rw[h1.out,h2.out];refine⟨msV m (.slice a k c),R1,rfl,((((F0.out HF.out (fun i hi=>by omega)).out F2 (fun i hi=>by omega)).out HF3.out (fun i hi=>hi.elim))).out F4 (fun i hi=>by omega),hR1.out,fun b hb=>?_,Amf (hy3.out.mono (fun b hb=>⟨hb,F4.block b (XH (hlt1.out b hb) (XI F2.size HF3.out.size)) (by have:=hn1.out b hb;omega)⟩) (Gle.refl _))⟩;rcases hR2.out b hb with g|⟨g1,g2⟩
  ·exact .inl g
  ·refine .inr ⟨XH g1 (XI F2.size (XI HF3.out.size F4.size)),?_⟩;rcases g2 with g2|g2
   ·omega
   ·exact XI F0.size g2
 ·obtain⟨h1,h2⟩:=hz.out hE;have h1:=hid h1;have h2:=hid h2
  go_wp2_with fail
  refine leaves_cons (f:=37) (args:= #[.pointer (some ⟨w.heap.size,0,none⟩),.pointer (some ⟨w.heap.size+1,0,none⟩)]) (by simp) (by simp[go_sem]) ?_;refine(Abj w.heap.size (w.heap.size+1) _).mono ?_
  rintro e u' w4 ⟨rfl,rfl,hw4⟩
  have F4:Fr (fun k=>k=w.heap.size∨k=w.heap.size+1) w3 w4:=by rw[hw4];exact(((((((((Fr.refl (fun k=>k=w.heap.size∨k=w.heap.size+1) w3).set_ (.inl rfl) 0 (.int .i64 0)).set_ (.inl rfl) 1 (.bool false)).set_ (.inl rfl) 2 (.bool false)).set_ (.inl rfl) 3 (.int .i64 0)).set_ (.inl rfl) 4 (.string ⟨#[]⟩)).set_ (.inl rfl) 5 (.int .i64 0)).set_ (.inl rfl) 6 (.slice none 0 0)).set_ (.inr rfl) 0 (.int .i64 1)).alloc_ (.cells #[] 77)
  have G0:Blk w4 w.heap.size 52 #[.int .i64 0,.bool false,.bool false,.int .i64 0,.string ⟨#[]⟩,.int .i64 0,.slice none 0 0]:=by rw[hw4];exact((((((((E0.set_ 0 (.int .i64 0)).set_ 1 (.bool false)).set_ 2 (.bool false)).set_ 3 (.int .i64 0)).set_ 4 (.string ⟨#[]⟩)).set_ 5 (.int .i64 0)).set_ 6 (.slice none 0 0)).far (p:=⟨w.heap.size+1,0,none⟩) (by simp) (.int .i64 1)).alloc (.cells #[] 77)
  have G1:Blk w4 (w.heap.size+1) 32 #[.int .i64 1]:=by rw[hw4];exact((((((((E1.far (p:=⟨w.heap.size,0,none⟩) (by simp) (.int .i64 0)).far (p:=⟨w.heap.size,1,none⟩) (by simp) (.bool false)).far (p:=⟨w.heap.size,2,none⟩) (by simp) (.bool false)).far (p:=⟨w.heap.size,3,none⟩) (by simp) (.int .i64 0)).far (p:=⟨w.heap.size,4,none⟩) (by simp) (.string ⟨#[]⟩)).far (p:=⟨w.heap.size,5,none⟩) (by simp) (.int .i64 0)).far (p:=⟨w.heap.size,6,none⟩) (by simp) (.slice none 0 0)).set_ 0 (.int .i64 1)).alloc (.cells #[] 77)
  clear hw4 e0 e1 e2 e3 e4 e5 e6 f0 g0 h0;have e0:w4.cell? ⟨w.heap.size,0,none⟩=some (.int .i64 0):=G0.cell 0;have e1:w4.cell? ⟨w.heap.size,1,none⟩=some (.bool false):=G0.cell 1;have e2:w4.cell? ⟨w.heap.size,2,none⟩=some (.bool false):=G0.cell 2;have e3:w4.cell? ⟨w.heap.size,3,none⟩=some (.int .i64 0):=G0.cell 3;have e4:w4.cell? ⟨w.heap.size,4,none⟩=some (.string ⟨#[]⟩):=G0.cell 4;have e5:w4.cell? ⟨w.heap.size,5,none⟩=some (.int .i64 0):=G0.cell 5;have e6:w4.cell? ⟨w.heap.size,6,none⟩=some (.slice none 0 0):=G0.cell 6;have g0:w4.cell? ⟨w.heap.size+1,0,none⟩=some (.int .i64 1):=G1.cell 0;simp[Leaves,settle,results,Tryz.results17,go_sem,e0,e1,e2,e3,e4,e5,e6,g0];rw[h1.out,h2.out];refine⟨.agg K4,R1,rfl,((((F0.out HF.out (fun i hi=>by omega)).out F2 (fun i hi=>by omega)).out HF3.out (fun i hi=>hi.elim))).out F4 (fun i hi=>by omega),hR1.out,fun b hb=>?_,Afg _ _⟩;rcases hR2.out b hb with g|⟨g1,g2⟩
  ·exact .inl g
  ·refine .inr ⟨XH g1 (XI F2.size (XI HF3.out.size F4.size)),?_⟩;rcases g2 with g2|g2
   ·omega
   ·exact XI F0.size g2
end Go.Proofs.YtbnocibpoghfhaaGreatDoor
