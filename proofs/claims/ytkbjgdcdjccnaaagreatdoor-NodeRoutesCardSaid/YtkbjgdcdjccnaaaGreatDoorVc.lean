/- Texts of this claim, joined. -/
import Derived.Test.YtkbjgdcdjccnaaaGreatDoorWAbsQ
import Derived.SizedLaws
import Derived.Deep.Slices
import Derived.Laws.CopyRow
import Derived.Laws.CopyOwn
import Derived.Deep.RegionLaw
import Derived.Lib.AppendZerosOnto
import Derived.Lib.Overlaps
import Derived.Laws.Externs
import Derived.OwnWalk
import Derived.Maps.AppendAt
import Derived.Deep.AppendLies
import Derived.Test.YtkbjgdcdjccnaaaGreatDoorRows
import Derived.Lib.Walk
import Derived.Lib.SliceRun
import Derived.Lib.JoinLaws
import Derived.Lib.AppendZeros
import Derived.WalkSpells
import Derived.Test.YtkbjgdcdjccnaaaGreatDoorVa
import Derived.Test.YtkbjgdcdjccnaaaGreatDoorVb
set_option linter.unusedSimpArgs false
set_option linter.unusedVariables false
namespace Go.Proofs.YtkbjgdcdjccnaaaGreatDoor
namespace Pl
structure Mb where
 n:ByteArray
 st:Int
 lf:Int
 ad:Int
 sv:Bool
def Mb.enc(m:Mb):List Value:=[.string m.n,.int .i64 m.st,.int .i64 m.lf,.int .i64 m.ad,.bool m.sv]
def Mb.row(m:Mb):List V:=[.v (.string m.n),.v (.int .i64 m.st),.v (.int .i64 m.lf),.v (.int .i64 m.ad),.v (.bool m.sv)]
theorem Mb.enc_len(m:Mb):m.enc.length=5:=rfl
theorem Mb.enc_one(m:Mb):∀u∈m.enc,u.oneCell'=true:=by
 intro u hu;simp[Mb.enc]at hu;rcases hu with rfl|rfl|rfl|rfl|rfl<;>rfl
instance:FlatRow Mb.row:=⟨fun x u hu=>by simp[Mb.row]at hu;rcases hu with rfl|rfl|rfl|rfl|rfl<;>exact⟨_,rfl⟩⟩
def Mb.ok(m:Mb):Prop:=m.n.size≤9223372036854775807
def Mb.err(m:Mb):Int:=if lab m.n.data.toList then(if wi m.st 1 4 then(if wi m.lf 1 1000000&&wi m.ad 0 4294967295 then 0 else 3)else 7)else 1
def Mb.lt(g h:Mb):Bool:=slt g.n h.n
def E5(l:List Mb):Int:=ckL 20 Mb.err Mb.lt l
def Mb.cf(name:ByteArray)(g:Mb):Int:=Dg g.n name
def Mb.kf(g x:Mb):Int:=Mb.cf g.n x
def Mb.cmp(g x:Mb):Int:=Bi [Co g.lf x.lf,Co g.st x.st,Co g.ad x.ad,Co (b2i g.sv) (b2i x.sv)]
def Mb.nw(g x:Mb):Bool:=decide (0<Mb.cmp g x)
def Mb.is(name:ByteArray)(m:Mb):Bool:=m.n.toList==name.toList
def Mb.same(g h:Mb):Bool:=(g.n.toList==h.n.toList)&&((g.st==h.st)&&((g.lf==h.lf)&&((g.ad==h.ad)&&((g.sv==h.sv)&&true))))
theorem Mb.err_cases(m:Mb):m.err=0∨m.err=1∨m.err=3∨m.err=7:=by
 unfold Mb.err;split
 ·split
  ·split<;>simp
  ·simp
 ·simp
theorem Mb.lt_trans(x y z:Mb)(h1:Mb.lt x y=true)(h2:Mb.lt y z=true):Mb.lt x z=true:=D5 h1 h2
theorem Mb.lt_cf(name:ByteArray)(x y:Mb)(h:Mb.lt x y=true)(hy:Mb.cf name y≤0):Mb.cf name x<0:=by
 unfold Mb.cf at *;rw[I6];rcases Bool.eq_false_or_eq_true (slt y.n name)with g|g
 ·exact D5 h g
 ·have h0:Dg y.n name=0:=by
   rcases(by omega:Dg y.n name<0∨Dg y.n name=0)with q|q
   ·rw[I6]at q;rw[q]at g;cases g
   ·exact q
  rw[Ct]at h0;rw[←h0];exact h
theorem Jb{l:List Mb}(h:E5 l=0):l.length≤20∧(∀i,(hi:i<l.length)→(l[i]).err=0)∧Bt Mb.lt l=true:=Yq Mb.err_cases h
theorem Mb.smono{l:List Mb}(h:Bt Mb.lt l=true)(name:ByteArray):Rx (Mb.cf name) l:=Pq Mb.lt_trans (Mb.lt_cf name) h
def Mb.ne(m x:Mb):Bool:= !(x.n.toList==m.n.toList)
theorem Mb.is_eq(name:ByteArray):Mb.is name=fun x=>decide (Mb.cf name x=0):=by
 funext x;unfold Mb.is Mb.cf;by_cases h:x.n=name
 ·rw[h,Ol];simp
 ·have h2:Dg x.n name≠0:=fun e=>h (Ct.1 e);rw[Zr h];simp[h2]
theorem Mb.ne_eq(m:Mb):Mb.ne m=fun x=>decide (Mb.kf m x≠0):=by
 funext x;have:=congrFun (Mb.is_eq m.n) x;unfold Mb.is at this;unfold Mb.ne Mb.kf;rw[this];simp
theorem Mb.at_eq{l:List Mb}(hs:Bt Mb.lt l=true)(name:ByteArray):at_ (Mb.is name) l=if hit (Mb.cf name) l=true then(low (Mb.cf name) l:Int)else -1:=by
 rw[Mb.is_eq];exact Qq (Mb.smono hs name)
theorem Mb.err_inv{m:Mb}(h:m.err=0):lab m.n.data.toList=true∧(1≤m.st∧m.st≤4)∧(1≤m.lf∧m.lf≤1000000)∧(0≤m.ad∧m.ad≤4294967295):=by
 unfold Mb.err at h;split at h
 ·rename_i h1;split at h
  ·rename_i h2;split at h
   ·rename_i h3;rw[ZO,Sb,Sb]at h3;exact⟨h1,Sb.1 h2,h3⟩
   ·omega
  ·omega
 ·omega
theorem Bat(row:List V)(h:Rf [.s,.i,.i,.i,.b] row):∃m:Mb,row=m.row∧m.ok:=by
 obtain⟨u0,_,rfl,f0,h⟩:=Ax h;obtain⟨u1,_,rfl,f1,h⟩:=Ax h;obtain⟨u2,_,rfl,f2,h⟩:=Ax h;obtain⟨u3,_,rfl,f3,h⟩:=Ax h;obtain⟨u4,_,rfl,f4,h⟩:=Ax h;obtain rfl:=Kt h;obtain⟨n,rfl,hn⟩:=Lx f0;obtain⟨a,rfl,_⟩:=Gc f1;obtain⟨b,rfl,_⟩:=Gc f2;obtain⟨c,rfl,_⟩:=Gc f3;obtain⟨d,rfl⟩:=Anl f4;exact⟨⟨n,a,b,c,d⟩,rfl,hn⟩
end Pl
namespace Pl
structure Ru where
 m:Mb
 t:Int
def Ru.row(r:Ru):List V:=[.v (.string r.m.n),.v (.int .i64 r.m.st),.v (.int .i64 r.m.lf),.v (.int .i64 r.m.ad),.v (.bool r.m.sv),.v (.int .i64 r.t)]
instance:FlatRow Ru.row:=⟨fun x u hu=>by simp[Ru.row]at hu;rcases hu with rfl|rfl|rfl|rfl|rfl|rfl<;>exact⟨_,rfl⟩⟩
instance:OneRow Ru.row 6:=⟨fun _=>rfl,fun x u hu=>by simp[Ru.row]at hu;rcases hu with rfl|rfl|rfl|rfl|rfl|rfl<;>exact⟨_,rfl,rfl⟩⟩
instance:OneRow Mb.row 5:=⟨fun _=>rfl,fun x u hu=>by simp[Mb.row]at hu;rcases hu with rfl|rfl|rfl|rfl|rfl<;>exact⟨_,rfl,rfl⟩⟩
def Ru.ok(r:Ru):Prop:=r.m.ok
theorem Baw(row:List V)(h:Rf [.s,.i,.i,.i,.b,.i] row):∃m:Ru,row=m.row∧m.ok:=by
 obtain⟨u0,_,rfl,f0,h⟩:=Ax h;obtain⟨u1,_,rfl,f1,h⟩:=Ax h;obtain⟨u2,_,rfl,f2,h⟩:=Ax h;obtain⟨u3,_,rfl,f3,h⟩:=Ax h;obtain⟨u4,_,rfl,f4,h⟩:=Ax h;obtain⟨u5,_,rfl,f5,h⟩:=Ax h;obtain rfl:=Kt h;obtain⟨n,rfl,hn⟩:=Lx f0;obtain⟨a,rfl,_⟩:=Gc f1;obtain⟨b,rfl,_⟩:=Gc f2;obtain⟨c,rfl,_⟩:=Gc f3;obtain⟨d,rfl⟩:=Anl f4;obtain⟨e,rfl,_⟩:=Gc f5;exact⟨⟨⟨n,a,b,c,d⟩,e⟩,rfl,hn⟩
end Pl
namespace Pl
def ents(l:List (ByteArray×V)):List (Value×V):=l.map fun p=>(.string p.1,p.2)
def look(k:ByteArray):List (ByteArray×V)→Nat→Option (Nat×V)
 |[],_=>none
 |(a,v)::es,i=>if k=a then some (i,v)else look k es (i+1)
theorem Di(k:ByteArray):∀(l:List (ByteArray×V)) (i:Nat),Gb .string (.string k) (ents l) i=some (look k l i)
 |[],i=>rfl
 |(a,v)::es,i=>by
  have ih:=Di k es (i+1);unfold ents at ih;by_cases h:k=a
  ·subst h;have hb:(k==k)=true:=(Go.MapKept.bytes_beq k k).2 rfl;simp[ents,Gb,look,Instr.sameNow,hb]
  ·have hb:(k==a)=false:=by
    cases q:(k==a)with
    |true=>exact absurd ((Go.MapKept.bytes_beq k a).1 q) h
    |false=>rfl
   simp only[ents,List.map_cons,Gb,look,Instr.sameNow,hb,if_neg h];exact ih
def put(l:List (ByteArray×V))(k:ByteArray)(v:V):List (ByteArray×V):=match look k l 0 with
 |some (i,_)=>l.set i (k,v)
 |none=>l++[(k,v)]
theorem Uu(l:List (ByteArray×V))(k:ByteArray)(v:V):Ss (ents l) (.string k) v (look k l 0)=ents (put l k v):=by
 unfold put Ss;cases h:look k l 0 with
 |none=>simp[ents]
 |some p=>obtain⟨i,u⟩:=p;simp[ents,List.map_set]
theorem Atn(l:List (ByteArray×V)):(ents l).length=l.length:=by simp[ents]
theorem Qk{k:ByteArray}:∀{l:List (ByteArray×V)} {i j:Nat} {v:V},look k l i=some (j,v)→i≤j∧l[j-i]? =some (k,v)
 |[],i,j,v,h=>by simp[look]at h
 |(a,u)::es,i,j,v,h=>by
  unfold look at h;split at h
  ·rename_i e;simp only[ZD,Prod.mk.injEq]at h;obtain⟨rfl,rfl⟩:=h;subst e;exact⟨ZT _,by simp⟩
  ·obtain⟨h1,h2⟩:=Qk h;exact⟨by omega,by rw[show j-i=(j-(i+1))+1 by omega];simpa using h2⟩
theorem V5{k:ByteArray}:∀{l:List (ByteArray×V)} {i:Nat},look k l i=none↔k∉l.map (·.1)
 |[],i=>by simp[look]
 |(a,u)::es,i=>by
  unfold look;split
  ·rename_i e;subst e;simp
  ·rename_i e;rw[V5 (l:=es) (i:=i+1)];simp[e]
open Classical in
theorem Ar9{l:List (ByteArray×V)}{k:ByteArray}{v:V}:(put l k v).map (·.1)=if k∈l.map (·.1)then l.map (·.1)else l.map (·.1)++[k]:=by
 unfold put;cases h:look k l 0 with
 |none=>rw[if_neg (V5.1 h)];simp
 |some p=>
  obtain⟨i,u⟩:=p;have hk:k∈l.map (·.1):=Classical.byContradiction fun q=>by rw[V5.2 q]at h;cases h
  rw[if_pos hk];obtain⟨_,h2⟩:=Qk h;simp only[Nat.sub_zero]at h2;show(l.set i (k,v)).map (·.1)=l.map (·.1);rw[List.map_set];apply List.ext_getElem?;intro j;rw[List.getElem?_set];split
  ·rename_i e;subst e;split
   ·simp[h2]
   ·rename_i q;simp at q;simp[q]
  ·rfl
structure Uo(l:List (ByteArray×V))(ns:List ByteArray):Prop where
 mem:∀n,n∈l.map (·.1)↔n∈ns
 le:l.length≤ns.length
 all:l.length=ns.length↔ns.Nodup
 cl:∀p∈l,Cl p.2
theorem Uo.nil:Uo [] []:=⟨by simp,by simp,by simp,by simp⟩
theorem Uo.put{l:List (ByteArray×V)}{ns:List ByteArray}(h:Uo l ns)(k:ByteArray)(v:V)(hv:Cl v):Uo (put l k v) (ns++[k]):=by
 have hk:=Ar9 (l:=l) (k:=k) (v:=v);have hlen:(Pl.put l k v).length=((Pl.put l k v).map (·.1)).length:=by simp
 have hm:=h.mem k;refine⟨fun n=>?_,?_,?_,fun p hp=>?_⟩
 ·rw[hk];split
  ·rename_i q;rw[h.mem n];simp;intro e;subst e;exact hm.1 q
  ·simp only[XM,h.mem n]
 ·rw[hlen,hk];have:=h.le;split<;>simp<;>omega
 ·rw[hlen,hk];split
  ·rename_i q;have:=h.le;constructor
   ·intro e;simp at e;omega
   ·intro e;have:=(List.nodup_append.1 e).2.2 k (hm.1 q) k (by simp);exact absurd rfl this
  ·rename_i q;have hq:k∉ns:=fun e=>q (hm.2 e);simp only[ZF,ZE,ZJ,ZN];rw[List.nodup_append];constructor
   ·intro e;refine⟨h.all.1 (by omega),by simp,?_⟩;intro a ha b hb e';simp at hb;subst hb;subst e';exact hq ha
   ·intro e;have:=h.all.2 e.1;omega
 ·unfold Pl.put at hp;split at hp
  ·rcases List.mem_or_eq_of_mem_set hp with q|rfl
   ·exact h.cl p q
   ·exact hv
  ·rcases XM.1 hp with q|q
   ·exact h.cl p q
   ·simp at q;subst q;exact hv
end Pl
namespace Pl
theorem Ag4{α:Type}(p:α→Bool)(l:List α):decide (0≤at_ p l)=l.any p:=by
 rcases Afl (p:=p) (l:=l)with⟨h1,h2⟩|⟨k,hk,h1,h2,_⟩
 ·rw[h1];cases hq:l.any p with
  |false=>rfl
  |true=>
   obtain⟨x,hx,hp⟩:=List.any_eq_true.1 hq;obtain⟨i,hi,rfl⟩:=List.getElem_of_mem hx;rw[h2 i hi]at hp;cases hp
 ·rw[h1];have:l.any p=true:=List.any_eq_true.2 ⟨_,ZK hk,h2⟩;rw[this];simp
def keep{α:Type}(p:α→Bool)(l:List α):List α:=l.filter fun x=> !p x
theorem keep_all{α:Type}{p:α→Bool}{l:List α}(h:∀i,(h:i<l.length)→p l[i]=false):keep p l=l:=by
 unfold keep;rw[List.filter_eq_self];intro x hx;obtain⟨i,hi,rfl⟩:=List.getElem_of_mem hx;simp[h i hi]
theorem Vk{α:Type}{p:α→Bool}{l:List α}{k:Nat}(h:k<l.length):keep p (l.take (k+1))=if p l[k]=true then keep p (l.take k)else keep p (l.take k)++[l[k]]:=by
 unfold keep;rw[XT,ZC h,List.filter_append];cases q:p l[k]<;>simp[q]
structure Jr{α:Type}(p:α→Bool)(l l':List α)(i j:Nat):Prop where
 ij:i<j
 jl:j≤l.length
 len:l'.length=l.length
 ahead:l'.take i=keep p (l.take j)
 behind:∀k,(h:k<l.length)→j≤k→l'[k]'(by rw[len];exact h)=l[k]
theorem Jr.start{α:Type}{p:α→Bool}{l:List α}{k:Nat}(hk:k<l.length)(h1:p l[k]=true)(h0:∀i,(h:i<l.length)→i<k→p l[i]=false):Jr p l l k (k+1):=by
 refine⟨by omega,by omega,rfl,?_,fun _ _ _=>rfl⟩;rw[Vk hk,if_pos h1,keep_all];intro i hi;simp at hi;simp only[List.getElem_take];exact h0 i (by omega) (by omega)
theorem Jr.gone{α:Type}{p:α→Bool}{l l':List α}{i j:Nat}(h:Jr p l l' i j)(hj:j<l.length)(hp:p l[j]=true):Jr p l l' i (j+1):=by
 refine⟨by have:=h.ij;omega,by omega,h.len,?_,fun k hk hkj=>h.behind k hk (by omega)⟩;rw[Vk hj,if_pos hp];exact h.ahead
theorem Jr.stays{α:Type}{p:α→Bool}{l l':List α}{i j:Nat}(h:Jr p l l' i j)(hj:j<l.length)(hp:p l[j]=false):Jr p l (l'.set i l[j]) (i+1) (j+1):=by
 have hij:=h.ij;have hlen:=h.len;refine⟨by omega,by omega,by simp[hlen],?_,fun k hk hkj=>?_⟩
 ·rw[Vk hj,if_neg (by simp[hp]),XT,List.take_set_of_le (ZT _),h.ahead];congr 1;rw[List.getElem?_set_self (by omega)];rfl
 ·rw[List.getElem_set_ne (by omega)];exact h.behind k hk (by omega)
theorem Jr.fin{α:Type}{p:α→Bool}{l l':List α}{i j:Nat}(h:Jr p l l' i j)(hj:¬j<l.length):l'.take i=keep p l:=by
 rw[h.ahead,List.take_of_length_le (by omega)]
theorem Ap5{α:Type}(l:List α)(i:Nat):l.eraseIdx i=l.take i++l.drop (i+1):=List.eraseIdx_eq_take_drop_succ l i
theorem Am4{α β:Type}{f:α→β}{l:List α}{i:Nat}(hi:i<l.length){z:β}{t:List β}{k:Nat}:
  (l.eraseIdx i).map f=(((((l.map f).take i++((l.map f).drop (i+1)).take ((l.map f).length-(i+1))++(l.map f).drop (i+((l.map f).length-(i+1)))).take (0+(i+((l.map f).length-(i+1)))))++List.replicate k z++t)).take (i+((l.map f).length-(i+1))):=by
 have h1:((l.map f).drop (i+1)).take ((l.map f).length-(i+1))=(l.map f).drop (i+1):=List.take_of_length_le (by simp);have h2:((l.map f).take i++(l.map f).drop (i+1)).length=i+((l.map f).length-(i+1)):=by simp;omega
 rw[h1,Nat.zero_add,←h2,List.take_left,ZS,List.take_left,Ap5,ZI,List.map_take,List.map_drop]
end Pl
namespace Pl
def Ru.err(r:Ru):Int:=r.m.err
def Ru.bad(r:Ru):Bool:= !(wi r.t 0 100)
def Ru.nm(r:Ru):ByteArray:=r.m.n
def Ru.is(n:ByteArray)(r:Ru):Bool:=r.m.n.toList==n.toList
open Classical in
noncomputable def Fu(l:List Ru):Int:=if 20<l.length then 2 else if Aq Ru.err l≠0 then Aq Ru.err l else if l.any Ru.bad=true then 3 else if(l.map Ru.nm).Nodup then 0 else 6
theorem Ad0{l:List Ru}(h:20<l.length):Fu l=2:=by simp[Fu,h]
theorem Ad6{l:List Ru}(h:¬20<l.length)(h2:Aq Ru.err l≠0):Fu l=Aq Ru.err l:=by simp[Fu,h,h2]
theorem Air{l:List Ru}(h:¬20<l.length)(h2:Aq Ru.err l=0)(h3:l.any Ru.bad=true):Fu l=3:=by simp only[Fu,h,h2,h3,if_false,if_true,ne_eq,not_true]
theorem Agu{l:List Ru}(h:¬20<l.length)(h2:Aq Ru.err l=0)(h3:l.any Ru.bad=false)(h4:¬(l.map Ru.nm).Nodup):Fu l=6:=by simp only[Fu,h,h2,h3,h4,if_false,ne_eq,not_true,Bool.false_eq_true]
theorem Aff{l:List Ru}(h:¬20<l.length)(h2:Aq Ru.err l=0)(h3:l.any Ru.bad=false)(h4:(l.map Ru.nm).Nodup):Fu l=0:=by simp only[Fu,h,h2,h3,h4,if_false,if_true,ne_eq,not_true,Bool.false_eq_true]
structure Aiw(l:List Ru):Prop where
 len:l.length≤20
 each:Aq Ru.err l=0
 rng:∀i,(h:i<l.length)→0≤l[i].t∧l[i].t≤100
 nd:(l.map Ru.nm).Nodup
theorem Ru.bad_iff(r:Ru):r.bad=false↔0≤r.t∧r.t≤100:=by simp[Ru.bad,wi]
theorem T7{l:List Ru}(h:Fu l=0):Aiw l:=by
 unfold Fu at h;split at h
 ·omega
 ·split at h
  ·rename_i h2;exact absurd h h2
  ·split at h
   ·omega
   ·split at h
    ·rename_i h1 h2 h3 h4;refine⟨by omega,Classical.byContradiction h2,fun i hi=>?_,h4⟩;rw[←Ru.bad_iff];cases q:l[i].bad with
     |false=>rfl
     |true=>exact absurd (List.any_eq_true.2 ⟨_,ZK hi,q⟩) h3
    ·omega
def Ml(l:List Ru)(m:Mb):Int×List Ru:=if l.length=20 then(2,[])else(0,l++[⟨m,0⟩])
def Agd(l:List Ru)(m:Mb):Int×List Ru:=match l[(at_ (Ru.is m.n) l).toNat]? with
 |some r=>if 0≤at_ (Ru.is m.n) l then(if Mb.cmp m r.m≤0 then(0,l)else Ml (l.eraseIdx (at_ (Ru.is m.n) l).toNat) m)else Ml l m
 |none=>Ml l m
noncomputable def Ow(l:List Ru)(m:Mb):Int×List Ru:=if Fu l≠0 then(Fu l,[])else if m.err≠0 then(m.err,[])else Agd l m
theorem Aus{l:List Ru}{m:Mb}(h:Fu l≠0):Ow l m=(Fu l,[]):=by simp[Ow,h]
theorem App{l:List Ru}{m:Mb}(h:Fu l=0)(h1:m.err≠0):Ow l m=(m.err,[]):=by simp[Ow,h,h1]
theorem Ats{l:List Ru}{m:Mb}(h:Fu l=0)(h1:m.err=0):Ow l m=Agd l m:=by simp[Ow,h,h1]
theorem Avz{l:List Ru}{m:Mb}(h:¬0≤at_ (Ru.is m.n) l):Agd l m=Ml l m:=by
 unfold Agd;split
 ·rw[if_neg h]
 ·rfl
theorem Au3{l:List Ru}{m:Mb}{r:Ru}(h:0≤at_ (Ru.is m.n) l)(hr:l[(at_ (Ru.is m.n) l).toNat]? =some r)(hc:Mb.cmp m r.m≤0):Agd l m=(0,l):=by
 unfold Agd;rw[hr];simp only[if_pos h,if_pos hc]
theorem Ard{l:List Ru}{m:Mb}{r:Ru}(h:0≤at_ (Ru.is m.n) l)(hr:l[(at_ (Ru.is m.n) l).toNat]? =some r)(hc:¬Mb.cmp m r.m≤0):Agd l m=Ml (l.eraseIdx (at_ (Ru.is m.n) l).toNat) m:=by
 unfold Agd;rw[hr];simp only[if_pos h,if_neg hc]
theorem Ru.is_iff{n:ByteArray}{r:Ru}:Ru.is n r=true↔r.nm=n:=by
 unfold Ru.is Ru.nm;constructor
 ·intro h;exact toList_inj (by simpa using h)
 ·intro h;rw[h];simp
theorem Bau{α:Type}{l:List α}(h:l.Nodup){i j:Nat}(hi:i<l.length)(hj:j<l.length)(e:l[i]=l[j]):i=j:=by
 have:=List.pairwise_iff_getElem.1 h;rcases(by omega:i<j∨i=j∨j<i)with q|q|q
 ·exact absurd e (this i j hi hj q)
 ·exact q
 ·exact absurd e.symm (this j i hj hi q)
theorem Ayn{l:List Ru}(h:(l.map Ru.nm).Nodup){i j:Nat}(hi:i<l.length)(hj:j<l.length)(e:l[i].nm=l[j].nm):i=j:=
 Bau h (by simpa using hi) (by simpa using hj) (by simpa using e)
def Vj(n:ByteArray)(l:List Ru):List Ru:=l.filter fun r=> !(Ru.is n r)
theorem Ajp{n:ByteArray}{l:List Ru}(h:∀r∈l,Ru.is n r=false):Vj n l=l:=by
 unfold Vj;rw[List.filter_eq_self];intro r hr;simp[h r hr]
theorem Uv{n:ByteArray}:∀{l:List Ru} (i:Nat) (hi:i<l.length),(l.map Ru.nm).Nodup→Ru.is n l[i]=true→Vj n l=l.eraseIdx i
 |r::l,0,hi,hn,h=>by
  have h:Ru.is n r=true:=h;have:∀x∈l,Ru.is n x=false:=fun x hx=>by
   cases q:Ru.is n x with
   |false=>rfl
   |true=>
    have e1:=Ru.is_iff.1 h;have e2:=Ru.is_iff.1 q;rw[List.map_cons,List.nodup_cons]at hn;exact absurd (XO.2 ⟨x,hx,e2.trans e1.symm⟩) hn.1
  have e:=Ajp this;unfold Vj at e ⊢;simp only[List.filter_cons,h,Bool.not_true,Bool.false_eq_true,if_false,List.eraseIdx_cons_zero];exact e
 |r::l,i+1,hi,hn,h=>by
  rw[List.map_cons,List.nodup_cons]at hn;have hi':i<l.length:=by simpa using hi
  have h:Ru.is n l[i]=true:=h;have hr:Ru.is n r=false:=by
   cases q:Ru.is n r with
   |false=>rfl
   |true=>exact absurd (XO.2 ⟨l[i],ZK _,(Ru.is_iff.1 h).trans (Ru.is_iff.1 q).symm⟩) hn.1
  have e:=Uv i hi' hn.2 h;unfold Vj at e ⊢;simp only[List.filter_cons,hr,Bool.not_false,if_true,List.eraseIdx_cons_succ];rw[e]
def tt(l:List Ru)(i:Nat):Int:=(l[i]?.map Ru.t).getD 0
def Bdt(l:List Ru)(i k:Nat):Bool:=decide (tt l i<tt l k)||(tt l i==tt l k&&decide (k<i))
structure Bej(l:List Ru)(o:List Nat):Prop where
 len:o.length=l.length
 nd:o.Nodup
 mem:∀i,i∈o↔i<l.length
 pw:∀(i j:Nat) (hi:i<o.length) (hj:j<o.length),i<j→Bdt l o[i] o[j]=true
end Pl
namespace Pl
structure Good{α:Type}(c:α→α→Int):Prop where
 anti:∀a b,c b a= - c a b
 pp:∀a b d,0<c a b→0<c b d→0<c a d
 zp:∀a b d,c a b=0→0<c b d→0<c a d
 pz:∀a b d,0<c a b→c b d=0→0<c a d
 zz:∀a b d,c a b=0→c b d=0→c a d=0
theorem Iu{a b:Int}:Co a b=0↔a=b:=⟨fun h=>Classical.byContradiction fun hn=>An3 hn h,fun h=>h▸An8 a⟩
theorem M0{α:Type}(f:α→Int):Good fun g x=>Co (f g) (f x) where
 anti:=fun a b=>by unfold Co;split<;>(try split)<;>(try split)<;>omega
 pp:=fun a b d h k=>by rw[Uf]at *;omega
 zp:=fun a b d h k=>by rw[Uf]at *;rw[Iu]at h;omega
 pz:=fun a b d h k=>by rw[Uf]at *;rw[Iu]at k;omega
 zz:=fun a b d h k=>by rw[Iu]at *;omega
theorem Aqt(a b:ByteArray):Dg b a= - Dg a b:=by
 rcases Bool.eq_false_or_eq_true (slt a b)with h|h
 ·rw[Yr h,Yo h];rfl
 ·rcases Bool.eq_false_or_eq_true (slt b a)with k|k
  ·rw[Yr k,Yo k]
  ·have:=Uc h k;rw[this,Ol];rfl
theorem Au5{α:Type}(f:α→ByteArray):Good fun g x=>Dg (f g) (f x) where
 anti:=fun a b=>Aqt _ _
 pp:=fun a b d h k=>by rw[Abe]at *;exact D5 k h
 zp:=fun a b d h k=>by rw[Abe]at *;rw[Ct]at h;rw[h];exact k
 pz:=fun a b d h k=>by rw[Abe]at *;rw[Ct]at k;rw[←k];exact h
 zz:=fun a b d h k=>by rw[Ct]at *;exact h.trans k
theorem Qx(x:Int)(r:List Int):Bi (x::r)=if x=0 then Bi r else x:=rfl
theorem Wg{α:Type}:∀(cs:List (α→α→Int)),(∀c∈cs,Good c)→Good fun g x=>Bi (cs.map fun c=>c g x)
 |[],_=>⟨fun _ _=>rfl,fun _ _ _ h=>by simp[Bi]at h,fun _ _ _ _ h=>by simp[Bi]at h,fun _ _ _ h=>by simp[Bi]at h,fun _ _ _ _ _=>rfl⟩
 |c::cs,h=>by
  have hc:=h c (by simp);have ih:=Wg cs fun c hm=>h c (by simp[hm]);refine⟨fun a b=>?_,fun a b d p q=>?_,fun a b d p q=>?_,fun a b d p q=>?_,fun a b d p q=>?_⟩<;>simp only[List.map_cons,Qx]at *
  ·rw[hc.anti a b];by_cases h0:c a b=0
   ·rw[if_pos (by omega),if_pos h0];exact ih.anti a b
   ·rw[if_neg (by omega),if_neg h0]
  all_goals
   rcases Classical.em (c a b=0)with h1|h1<;>rcases Classical.em (c b d=0)with h2|h2<;>(try simp only[h1,h2,if_true,if_false]at p q)
  all_goals first
   |(have h3:=hc.zz _ _ _ h1 h2;rw[if_pos h3];first|exact ih.pp _ _ _ p q|exact ih.zp _ _ _ p q|exact ih.pz _ _ _ p q|exact ih.zz _ _ _ p q)
   |(have h3:=hc.zp _ _ _ h1 q;rw[if_neg (by omega)];exact h3)
   |(have h3:=hc.pz _ _ _ p h2;rw[if_neg (by omega)];exact h3)
   |(have h3:=hc.pp _ _ _ p q;rw[if_neg (by omega)];exact h3)
   |omega
theorem Aeg:∀{l:List Int},Bi l=0→∀x∈l,x=0
 |[],_,x,hx=>by cases hx
 |y::l,h,x,hx=>by
  rw[Qx]at h;split at h
  ·rename_i h0;rcases XC.1 hx with rfl|hx
   ·exact h0
   ·exact Aeg h x hx
  ·rename_i h0;exact absurd h h0
structure Arp{α:Type}(cf:α→α→Int)(nw:α→α→Bool):Prop where
 irr:∀x,nw x x=false
 trans:∀x y z,nw x y=true→nw y z=true→nw x z=true
 tot:∀x y,cf x y=0→nw x y=false→nw y x=false→x=y
theorem Apv{α:Type}{cf:α→α→Int}{c:α→α→Int}(hc:Good c)(ht:∀x y,cf x y=0→c x y=0→x=y):Arp cf fun g x=>decide (0<c g x) where
 irr:=fun x=>ZY fun h=>by have:=hc.anti x x;omega
 trans:=fun x y z h k=>ZX (hc.pp _ _ _ (ZV h) (ZV k))
 tot:=fun x y h1 h2 h3=>ht x y h1 (by have:=ZW h2;have:=ZW h3;have:=hc.anti x y;omega)
section
variable {α:Type} {lt:α→α→Bool} {cf:α→α→Int} {nw:α→α→Bool}
end
end Pl
namespace Pl
structure Gw where
 c:ByteArray
 a:Int
 v:Int
def Gw.enc(g:Gw):List Value:=[.string g.c,.int .i64 g.a,.int .i64 g.v]
def Gw.row(g:Gw):List V:=[.v (.string g.c),.v (.int .i64 g.a),.v (.int .i64 g.v)]
theorem Gw.enc_len(g:Gw):g.enc.length=3:=rfl
theorem Gw.enc_one(g:Gw):∀u∈g.enc,u.oneCell'=true:=by
 intro u hu;simp[Gw.enc]at hu;rcases hu with rfl|rfl|rfl<;>rfl
instance:FlatRow Gw.row:=⟨fun x u hu=>by simp[Gw.row]at hu;rcases hu with rfl|rfl|rfl<;>exact⟨_,rfl⟩⟩
def Gw.ok(g:Gw):Prop:=g.c.size≤9223372036854775807
def Gw.err(g:Gw):Int:=if lab g.c.data.toList then(if wi g.a 0 4294967295&&wi g.v 1 1000000 then 0 else 3)else 1
def Gw.lt(g h:Gw):Bool:=slt g.c h.c
def Eg(l:List Gw):Int:=ckL 6 Gw.err Gw.lt l
def Gw.cf(name:ByteArray)(g:Gw):Int:=Dg g.c name
def Gw.kf(g x:Gw):Int:=Gw.cf g.c x
def Gw.cmp(g x:Gw):Int:=Bi [Co g.v x.v,Co g.a x.a]
def Gw.nw(g x:Gw):Bool:=decide (0<Gw.cmp g x)
def Gw.is(name:ByteArray)(m:Gw):Bool:=m.c.toList==name.toList
def Gw.same(g h:Gw):Bool:=(g.c.toList==h.c.toList)&&((g.a==h.a)&&((g.v==h.v)&&true))
theorem Gw.err_cases(m:Gw):m.err=0∨m.err=1∨m.err=3∨m.err=7:=by
 unfold Gw.err;split
 ·split<;>simp
 ·simp
theorem Gw.lt_trans(x y z:Gw)(h1:Gw.lt x y=true)(h2:Gw.lt y z=true):Gw.lt x z=true:=D5 h1 h2
theorem Gw.lt_cf(name:ByteArray)(x y:Gw)(h:Gw.lt x y=true)(hy:Gw.cf name y≤0):Gw.cf name x<0:=by
 unfold Gw.cf at *;rw[I6];rcases Bool.eq_false_or_eq_true (slt y.c name)with g|g
 ·exact D5 h g
 ·have h0:Dg y.c name=0:=by
   rcases(by omega:Dg y.c name<0∨Dg y.c name=0)with q|q
   ·rw[I6]at q;rw[q]at g;cases g
   ·exact q
  rw[Ct]at h0;rw[←h0];exact h
theorem Nr{l:List Gw}(h:Eg l=0):l.length≤6∧(∀i,(hi:i<l.length)→(l[i]).err=0)∧Bt Gw.lt l=true:=Yq Gw.err_cases h
theorem Gw.smono{l:List Gw}(h:Bt Gw.lt l=true)(name:ByteArray):Rx (Gw.cf name) l:=Pq Gw.lt_trans (Gw.lt_cf name) h
def Gw.ne(m x:Gw):Bool:= !(x.c.toList==m.c.toList)
theorem Gw.is_eq(name:ByteArray):Gw.is name=fun x=>decide (Gw.cf name x=0):=by
 funext x;unfold Gw.is Gw.cf;by_cases h:x.c=name
 ·rw[h,Ol];simp
 ·have h2:Dg x.c name≠0:=fun e=>h (Ct.1 e);rw[Zr h];simp[h2]
theorem Gw.ne_eq(m:Gw):Gw.ne m=fun x=>decide (Gw.kf m x≠0):=by
 funext x;have:=congrFun (Gw.is_eq m.c) x;unfold Gw.is at this;unfold Gw.ne Gw.kf;rw[this];simp
theorem Gw.at_eq{l:List Gw}(hs:Bt Gw.lt l=true)(name:ByteArray):at_ (Gw.is name) l=if hit (Gw.cf name) l=true then(low (Gw.cf name) l:Int)else -1:=by
 rw[Gw.is_eq];exact Qq (Gw.smono hs name)
def Bei(l:List Gw)(name:ByteArray)(a:Int):Int×List Gw:=
 if Eg l≠0 then(Eg l,[])else if(⟨name,a,1⟩:Gw).err≠0 then((⟨name,a,1⟩:Gw).err,[])else
  match l[low (Gw.cf name) l]? with
  |some x=>if hit (Gw.cf name) l=true then(if x.v=1000000 then(3,[])else(0,l.set (low (Gw.cf name) l) ⟨name,a,x.v+1⟩))else(if l.length=6 then(2,[])else(0,l.take (low (Gw.cf name) l)++[⟨name,a,1⟩]++l.drop (low (Gw.cf name) l)))
  |none=>if l.length=6 then(2,[])else(0,l.take (low (Gw.cf name) l)++[⟨name,a,1⟩]++l.drop (low (Gw.cf name) l))
structure Rt where
 c:ByteArray
 a:Int
def Rt.row(r:Rt):List V:=[.v (.string r.c),.v (.int .i64 r.a)]
instance:FlatRow Rt.row:=⟨fun x u hu=>by simp[Rt.row]at hu;rcases hu with rfl|rfl<;>exact⟨_,rfl⟩⟩
def Rt.same(g h:Rt):Bool:=(g.c.toList==h.c.toList)&&((g.a==h.a)&&true)
def Ff(l:List Gw)(here to:ByteArray):Int×Int:=
 if Eg l≠0 then(Eg l,0)else if lab here.data.toList=false then(1,0)else if lab to.data.toList=false then(1,0)else if(here.toList==to.toList)=true then(6,0)else
  match l[low (Gw.cf to) l]? with
  |some x=>if hit (Gw.cf to) l=true then(0,x.a)else(5,0)
  |none=>(5,0)
theorem Av2{l:List Gw}{here to:ByteArray}(h:Eg l≠0):Ff l here to=(Eg l,0):=by simp[Ff,h]
theorem Awq{l:List Gw}{here to:ByteArray}(h:Eg l=0)(h1:lab here.data.toList=false):Ff l here to=(1,0):=by simp[Ff,h,h1]
theorem Avh{l:List Gw}{here to:ByteArray}(h:Eg l=0)(h1:lab here.data.toList=true)(h2:lab to.data.toList=false):Ff l here to=(1,0):=by simp[Ff,h,h1,h2]
theorem Awd{l:List Gw}{here to:ByteArray}(h:Eg l=0)(h1:lab here.data.toList=true)(h2:lab to.data.toList=true)(h3:(here.toList==to.toList)=true):Ff l here to=(6,0):=by
 unfold Ff;rw[if_neg (by simpa using h),if_neg (by simp[h1]),if_neg (by simp[h2]),if_pos h3]
theorem Alf{l:List Gw}{here to:ByteArray}(h:Eg l=0)(h1:lab here.data.toList=true)(h2:lab to.data.toList=true)(h3:(here.toList==to.toList)=false)(h4:hit (Gw.cf to) l=false):Ff l here to=(5,0):=by
 unfold Ff;rw[if_neg (by simpa using h),if_neg (by simp[h1]),if_neg (by simp[h2]),if_neg (by simp[h3])];split<;>simp[h4]
theorem Adj{l:List Gw}{here to:ByteArray}(h:Eg l=0)(h1:lab here.data.toList=true)(h2:lab to.data.toList=true)(h3:(here.toList==to.toList)=false)(h4:hit (Gw.cf to) l=true):Ff l here to=(0,(l[low (Gw.cf to) l]'(Ep h4)).a):=by
 unfold Ff;rw[if_neg (by simpa using h),if_neg (by simp[h1]),if_neg (by simp[h2]),if_neg (by simp[h3]),ZC (Ep h4)];simp[h4]
theorem Ayr(row:List V)(h:Rf [.s,.i,.i] row):∃m:Gw,row=m.row∧m.ok:=by
 obtain⟨u0,_,rfl,f0,h⟩:=Ax h;obtain⟨u1,_,rfl,f1,h⟩:=Ax h;obtain⟨u2,_,rfl,f2,h⟩:=Ax h;obtain rfl:=Kt h;obtain⟨n,rfl,hn⟩:=Lx f0;obtain⟨a,rfl,_⟩:=Gc f1;obtain⟨b,rfl,_⟩:=Gc f2;exact⟨⟨n,a,b⟩,rfl,hn⟩
end Pl
namespace Pl
structure Sv where
 nd:ByteArray
 id:ByteArray
 nm:ByteArray
 tg:ByteArray
 ad:Int
 pt:Int
 ps:Bool
 vs:Int
 gn:Bool
def Sv.enc(m:Sv):List Value:=[.string m.nd,.string m.id,.string m.nm,.string m.tg,.int .i64 m.ad,.int .i64 m.pt,.bool m.ps,.int .i64 m.vs,.bool m.gn]
def Sv.row(m:Sv):List V:=[.v (.string m.nd),.v (.string m.id),.v (.string m.nm),.v (.string m.tg),.v (.int .i64 m.ad),.v (.int .i64 m.pt),.v (.bool m.ps),.v (.int .i64 m.vs),.v (.bool m.gn)]
theorem Sv.enc_len(m:Sv):m.enc.length=9:=rfl
theorem Sv.enc_one(m:Sv):∀u∈m.enc,u.oneCell'=true:=by
 intro u hu;simp[Sv.enc]at hu;rcases hu with rfl|rfl|rfl|rfl|rfl|rfl|rfl|rfl|rfl<;>rfl
instance:FlatRow Sv.row:=⟨fun x u hu=>by simp[Sv.row]at hu;rcases hu with rfl|rfl|rfl|rfl|rfl|rfl|rfl|rfl|rfl<;>exact⟨_,rfl⟩⟩
def Sv.ok(m:Sv):Prop:=m.nd.size≤9223372036854775807∧m.id.size≤9223372036854775807∧m.nm.size≤9223372036854775807∧m.tg.size≤9223372036854775807
def emp(s:ByteArray):Bool:=s.toList==(ByteArray.mk #[]).toList
def Vc(s:ByteArray):Bool:=emp s||lab s.data.toList
def Sv.err(m:Sv):Int:=if lab m.nd.data.toList then(if lab m.id.data.toList then(if lab m.nm.data.toList then(if Vc m.tg then(if wi m.ad 0 4294967295 then(if wi m.pt 0 65535 then(if wi m.vs 1 1000000 then 0 else 3)else 3)else 3)else 1)else 1)else 1)else 1
def Sv.cf(nd id:ByteArray)(x:Sv):Int:=Bi [Dg x.nd nd,Dg x.id id]
def Sv.kf(g x:Sv):Int:=Sv.cf g.nd g.id x
def Sv.lt(g h:Sv):Bool:=decide (Sv.cf h.nd h.id g<0)
def D3(l:List Sv):Int:=ckL 40 Sv.err Sv.lt l
def Sv.cmp(g x:Sv):Int:=Bi [Co g.vs x.vs,Co (b2i g.gn) (b2i x.gn),Dg g.nm x.nm,Dg g.tg x.tg,Co g.ad x.ad,Co g.pt x.pt,Co (b2i g.ps) (b2i x.ps)]
def Sv.nw(g x:Sv):Bool:=decide (0<Sv.cmp g x)
def Sv.is(nd id:ByteArray)(m:Sv):Bool:=(m.nd.toList==nd.toList)&&(m.id.toList==id.toList)
def Sv.same(g h:Sv):Bool:=(g.nd.toList==h.nd.toList)&&((g.id.toList==h.id.toList)&&((g.nm.toList==h.nm.toList)&&((g.tg.toList==h.tg.toList)&&((g.ad==h.ad)&&((g.pt==h.pt)&&((g.ps==h.ps)&&((g.vs==h.vs)&&((g.gn==h.gn)&&true))))))))
theorem Sv.err_cases(m:Sv):m.err=0∨m.err=1∨m.err=3∨m.err=7:=by
 unfold Sv.err
 repeat' split
 all_goals simp
theorem At0{a b c d:ByteArray}(h:a=b):Bi [Dg a b,Dg c d]=Dg c d:=by
 subst h;by_cases h:Dg c d=0<;>simp[Bi,Ol,h]
theorem As3{a b c d:ByteArray}(h:a≠b):Bi [Dg a b,Dg c d]=Dg a b:=by
 have:Dg a b≠0:=fun e=>h (Ct.1 e);simp[Bi,this]
theorem Sv.cf_neg{nd id:ByteArray}{x:Sv}:Sv.cf nd id x<0↔slt x.nd nd=true∨(x.nd=nd∧slt x.id id=true):=by
 unfold Sv.cf;by_cases h:x.nd=nd
 ·rw[At0 h,I6,h];simp[Ft]
 ·rw[As3 h,I6];simp[h]
theorem Sv.cf_zero{nd id:ByteArray}{x:Sv}:Sv.cf nd id x=0↔x.nd=nd∧x.id=id:=by
 unfold Sv.cf;by_cases h:x.nd=nd
 ·rw[At0 h,Ct];simp[h]
 ·rw[As3 h,Ct];simp[h]
theorem Sv.lt_iff{x y:Sv}:Sv.lt x y=true↔slt x.nd y.nd=true∨(x.nd=y.nd∧slt x.id y.id=true):=by
 unfold Sv.lt;rw[decide_eq_true_iff,Sv.cf_neg]
theorem Sv.lt_trans(x y z:Sv)(h1:Sv.lt x y=true)(h2:Sv.lt y z=true):Sv.lt x z=true:=by
 rw[Sv.lt_iff]at *;rcases h1 with h1|⟨e1,h1⟩<;>rcases h2 with h2|⟨e2,h2⟩
 ·exact .inl (D5 h1 h2)
 ·exact .inl (e2▸h1)
 ·exact .inl (by rw[e1];exact h2)
 ·exact .inr ⟨e1.trans e2,D5 h1 h2⟩
theorem Sv.lt_cf(nd id:ByteArray)(x y:Sv)(h:Sv.lt x y=true)(hy:Sv.cf nd id y≤0):Sv.cf nd id x<0:=by
 rw[Sv.lt_iff]at h;rw[Sv.cf_neg];rcases(by omega:Sv.cf nd id y<0∨Sv.cf nd id y=0)with q|q
 ·rw[Sv.cf_neg]at q;rcases h with h1|⟨e1,h1⟩<;>rcases q with h2|⟨e2,h2⟩
  ·exact .inl (D5 h1 h2)
  ·exact .inl (e2▸h1)
  ·exact .inl (by rw[e1];exact h2)
  ·exact .inr ⟨e1.trans e2,D5 h1 h2⟩
 ·obtain⟨e1,e2⟩:=Sv.cf_zero.1 q;rw[←e1,←e2];exact h
theorem Iz{l:List Sv}(h:D3 l=0):l.length≤40∧(∀i,(hi:i<l.length)→(l[i]).err=0)∧Bt Sv.lt l=true:=Yq Sv.err_cases h
theorem Sv.smono{l:List Sv}(h:Bt Sv.lt l=true)(nd id:ByteArray):Rx (Sv.cf nd id) l:=Pq Sv.lt_trans (Sv.lt_cf nd id) h
theorem Sv.ahead1{x y:Sv}(h:Op.bytesLess x.nd.toList y.nd.toList=true):Sv.lt x y=true:=Sv.lt_iff.2 (.inl h)
theorem Sv.ahead2{x y:Sv}(h:Op.bytesLess x.nd.toList y.nd.toList=false)(h2:(x.nd.toList==y.nd.toList)=true):Sv.lt x y=Op.bytesLess x.id.toList y.id.toList:=by
 have e:=Yt.1 h2;have h':slt x.nd y.nd=false:=h;have:=Sv.lt_iff (x:=x) (y:=y);show Sv.lt x y=slt x.id y.id;cases hb:slt x.id y.id with
 |true=>exact this.2 (.inr ⟨e,hb⟩)
 |false=>
  cases hl:Sv.lt x y with
  |false=>rfl
  |true=>rcases this.1 hl with q|⟨_,q⟩<;>simp_all
theorem Sv.ahead3{x y:Sv}(h:Op.bytesLess x.nd.toList y.nd.toList=false)(h2:(x.nd.toList==y.nd.toList)=false):Sv.lt x y=false:=by
 have e:x.nd≠y.nd:=fun e=>by rw[e]at h2;simp at h2
 have h':slt x.nd y.nd=false:=h;cases hl:Sv.lt x y with
 |false=>rfl
 |true=>rcases Sv.lt_iff.1 hl with q|⟨q,_⟩<;>simp_all
def Sv.ne(m x:Sv):Bool:= !(Sv.is m.nd m.id x)
theorem Sv.is_eq(nd id:ByteArray):Sv.is nd id=fun x=>decide (Sv.cf nd id x=0):=by
 funext x;unfold Sv.is;by_cases h:x.nd=nd∧x.id=id
 ·rw[h.1,h.2];have:Sv.cf nd id x=0:=Sv.cf_zero.2 h;simp[this]
 ·have h2:¬Sv.cf nd id x=0:=fun e=>h (Sv.cf_zero.1 e);have h3:(x.nd.toList==nd.toList&&x.id.toList==id.toList)=false:=by
   cases hb:(x.nd.toList==nd.toList&&x.id.toList==id.toList)with
   |false=>rfl
   |true=>rw[ZO,Yt,Yt]at hb;exact absurd hb h
  rw[h3];simp[h2]
theorem Sv.ne_eq(m:Sv):Sv.ne m=fun x=>decide (Sv.kf m x≠0):=by
 funext x;have:=congrFun (Sv.is_eq m.nd m.id) x;unfold Sv.ne Sv.kf;rw[this];simp
theorem Sv.at_eq{l:List Sv}(hs:Bt Sv.lt l=true)(nd id:ByteArray):at_ (Sv.is nd id) l=if hit (Sv.cf nd id) l=true then(low (Sv.cf nd id) l:Int)else -1:=by
 rw[Sv.is_eq];exact Qq (Sv.smono hs nd id)
theorem Ayt(row:List V)(h:Rf [.s,.s,.s,.s,.i,.i,.b,.i,.b] row):∃m:Sv,row=m.row∧m.ok:=by
 obtain⟨u0,_,rfl,f0,h⟩:=Ax h;obtain⟨u1,_,rfl,f1,h⟩:=Ax h;obtain⟨u2,_,rfl,f2,h⟩:=Ax h;obtain⟨u3,_,rfl,f3,h⟩:=Ax h;obtain⟨u4,_,rfl,f4,h⟩:=Ax h;obtain⟨u5,_,rfl,f5,h⟩:=Ax h;obtain⟨u6,_,rfl,f6,h⟩:=Ax h;obtain⟨u7,_,rfl,f7,h⟩:=Ax h;obtain⟨u8,_,rfl,f8,h⟩:=Ax h;obtain rfl:=Kt h;obtain⟨a,rfl,ha⟩:=Lx f0;obtain⟨b,rfl,hb⟩:=Lx f1;obtain⟨c,rfl,hc⟩:=Lx f2;obtain⟨d,rfl,hd⟩:=Lx f3;obtain⟨e,rfl,_⟩:=Gc f4;obtain⟨f,rfl,_⟩:=Gc f5;obtain⟨g,rfl⟩:=Anl f6;obtain⟨i,rfl,_⟩:=Gc f7;obtain⟨j,rfl⟩:=Anl f8;exact⟨⟨a,b,c,d,e,f,g,i,j⟩,rfl,ha,hb,hc,hd⟩
end Pl
namespace Pl
def L2(n:Nat):Nat→Nat
 |0=>0
 |k+1=>if(k+1)*(k+1)≤n then k+1 else L2 n k
def isq(n:Nat):Nat:=L2 n n
theorem Aps(n k:Nat):L2 n k*L2 n k≤n:=by
 induction k with
 |zero=>simp[L2]
 |succ k ih=>
  unfold L2;split
  ·assumption
  ·exact ih
theorem Aqr(n k:Nat)(h:n<(k+1)*(k+1)):n<(L2 n k+1)*(L2 n k+1):=by
 induction k with
 |zero=>simpa[L2]using h
 |succ k ih=>
  unfold L2;split
  ·exact h
  ·exact ih (by omega)
theorem Az9(n:Nat):isq n*isq n≤n:=Aps n n
theorem Ayy(n:Nat):n<(isq n+1)*(isq n+1):=Aqr n n (by rw[Nat.add_mul];omega)
def rt(n:Int):Int:=(isq n.toNat:Int)
theorem Ae4(n:Int):0≤rt n:=Int.natCast_nonneg _
theorem Ay3(n:Int)(h:0≤n):rt n*rt n≤n:=by
 have:=Az9 n.toNat;unfold rt;have e:((isq n.toNat*isq n.toNat:Nat):Int)≤(n.toNat:Int):=Int.ofNat_le.2 this;rw[Int.natCast_mul]at e;omega
theorem Axy(n:Int)(h:0≤n):n<(rt n+1)*(rt n+1):=by
 have:=Ayy n.toNat;unfold rt;have e:(n.toNat:Int)<((isq n.toNat+1)*(isq n.toNat+1):Nat):=Int.ofNat_lt.2 this;rw[Int.natCast_mul]at e;simp only[Int.natCast_add,Int.natCast_one]at e;omega
theorem Yl{a b:Int}(h0:0≤a)(h:a≤b):a*a≤b*b:=Int.mul_le_mul h h h0 (by omega)
theorem Aso{a b:Int}(h0:0≤b)(h:a*a<(b+1)*(b+1)):a≤b:=by
 rcases Int.lt_or_le b a with g|g
 ·have:=Yl (show 0≤b+1 by omega) (show b+1≤a by omega);omega
 ·exact g
theorem Amm{n r:Int}(h:0≤n)(h0:0≤r)(h2:n<(r+1)*(r+1)):rt n≤r:=by
 have:=Ay3 n h;exact Aso h0 (by omega)
theorem An7{n r:Int}(h:0≤n)(h2:r*r≤n):r≤rt n:=by
 have:=Axy n h;exact Aso (Ae4 n) (by omega)
theorem Av5{n r:Int}(h0:0≤r)(h1:r*r≤n)(h2:n<(r+1)*(r+1)):rt n=r:=by
 have hn:0≤n:=Int.le_trans (Int.mul_nonneg h0 h0) h1;have a:=Amm hn h0 h2;have b:=An7 hn h1;omega
theorem Azd(n:Int)(h:0≤n)(hm:n≤9223372036854775807):rt n≤3037000499:=Amm h (by omega) (by omega)
theorem It{n x:Int}(hn:0≤n)(hx:1≤x):0≤n/x∧x*(n/x)≤n∧n<x*(n/x)+x:=by
 have:=Int.mul_ediv_add_emod n x;have:=Int.emod_nonneg n (show x≠0 by omega);have:=Int.emod_lt_of_pos n (show 0<x by omega);exact⟨Int.ediv_nonneg hn (by omega),by omega,by omega⟩
theorem Bdn{a b s:Int}(h0:0≤a)(h1:0≤b)(h:a+b≤2*s):a*b≤s*s:=by
 have h2:(a+b)*(a+b)≤(2*s)*(2*s):=Yl (by omega) h;have h3:0≤(a-b)*(a-b):=by
  rcases Int.le_total 0 (a-b)with g|g
  ·exact Int.mul_nonneg g g
  ·exact Int.mul_nonneg_of_nonpos_of_nonpos g g
 have e:(a-b)*(a-b)=(a+b)*(a+b)-4*(a*b):=by grind
 have e2:(2*s)*(2*s)=4*(s*s):=by grind
 omega
theorem Bd9{n x:Int}(hn:0≤n)(hm:n≤9223372036854775807)(hx:1≤x)(h:x≤n/x):x≤3037000499:=by
 obtain⟨a,b,c⟩:=It hn hx;have:x*x≤x*(n/x):=Int.mul_le_mul_of_nonneg_left h (by omega);exact Aso (by omega) (by omega)
theorem Bb4{n x:Int}(hn:0≤n)(hx:1≤x)(h:n/x<x):rt n≤x:=by
 obtain⟨a,b,c⟩:=It hn hx;have:x*(n/x)≤x*(x-1):=Int.mul_le_mul_of_nonneg_left (by omega) (by omega);have e:x*(x-1)=x*x-x:=by grind
 have e2:(x+1)*(x+1)=x*x+2*x+1:=by grind
 exact Amm hn (by omega) (by omega)
theorem Azk{n x:Int}(hn:1≤n)(hx:1≤x)(h:rt n≤x):n/x≤rt n+2:=by
 have a:=Axy n (by omega);have b:1≤rt n:=An7 (by omega) (by omega);refine Int.ediv_le_of_le_mul (by omega) ?_;have e:(rt n+1)*(rt n+1)=(rt n+2)*rt n+1:=by grind
 have:(rt n+2)*rt n≤(rt n+2)*x:=Int.mul_le_mul_of_nonneg_left h (by omega);omega
theorem Aw7{n x:Int}(hn:0≤n)(hx:1≤x):rt n≤(x+n/x)/2:=by
 obtain⟨a,b,c⟩:=It hn hx;have s:=Ay3 n hn;rcases Int.lt_or_le ((x+n/x)/2) (rt n)with g|g
 ·have:=Bdn (a:=x) (b:=n/x+1) (s:=rt n) (by omega) (by omega) (by omega);have e:x*(n/x+1)=x*(n/x)+x:=by grind
  omega
 ·exact g
theorem Auq{n x:Int}(hn:0≤n)(hx:1≤x)(h:rt n≤x)(g:x≤(x+n/x)/2):x=rt n:=by
 obtain⟨a,b,c⟩:=It hn hx;have:x*x≤x*(n/x):=Int.mul_le_mul_of_nonneg_left (by omega) (by omega);have:=An7 (n:=n) (r:=x) hn (by omega);omega
end Pl
namespace Pl
def sq3(x y z x' y' z':Int):Int:=(x-x')*(x-x')+(y-y')*(y-y')+(z-z')*(z-z')
def flat(x y z x' y' z':Int):Int:=rt (sq3 x y z x' y' z')
theorem O8{x y z h s:Int}:Ah7 x y z h s=true↔(-10000000≤x∧x≤10000000)∧(-10000000≤y∧y≤10000000)∧(-10000000≤z∧z≤10000000)∧(0≤h∧h≤1000000)∧(0≤s∧s≤1000):=by
 unfold Ah7;simp only[ZO,Sb,and_assoc]
theorem Az6{x b:Int}(h1: -b≤x)(h2:x≤b):0≤x*x∧x*x≤b*b:=by
 rcases Int.le_total 0 x with h|h
 ·exact⟨Int.mul_nonneg h h,Yl h h2⟩
 ·have:=Yl (a:= -x) (b:=b) (by omega) (by omega);rw[Int.neg_mul_neg]at this;exact⟨Int.mul_nonneg_of_nonpos_of_nonpos h h,this⟩
theorem Qo{x x':Int}(h1: -10000000≤x)(h2:x≤10000000)(h3: -10000000≤x')(h4:x'≤10000000):0≤(x-x')*(x-x')∧(x-x')*(x-x')≤400000000000000:=
 Az6 (x:=x-x') (b:=20000000) (by omega) (by omega)
theorem Bak{x y z x' y' z':Int}(a1:0≤(x-x')*(x-x')∧(x-x')*(x-x')≤400000000000000)(a2:0≤(y-y')*(y-y')∧(y-y')*(y-y')≤400000000000000)(a3:0≤(z-z')*(z-z')∧(z-z')*(z-z')≤400000000000000):0≤sq3 x y z x' y' z'∧sq3 x y z x' y' z'≤1200000000000000:=by unfold sq3;omega
theorem Av6{x y z x' y' z':Int}(h:0≤sq3 x y z x' y' z'∧sq3 x y z x' y' z'≤1200000000000000):0≤flat x y z x' y' z'∧flat x y z x' y' z'≤34641017:=
 ⟨Ae4 _,Amm h.1 (by omega) (by omega)⟩
theorem Awb{x y z h s x' y' z' h' s':Int}(o:Ah7 x y z h s=true)(o':Ah7 x' y' z' h' s'=true):0≤flat x y z x' y' z'∧flat x y z x' y' z'≤34641017:=by
 obtain⟨⟨a1,a2⟩,⟨a3,a4⟩,⟨a5,a6⟩,_,_⟩:=O8.1 o;obtain⟨⟨b1,b2⟩,⟨b3,b4⟩,⟨b5,b6⟩,_,_⟩:=O8.1 o';exact Av6 (Bak (Qo a1 a2 b1 b2) (Qo a3 a4 b3 b4) (Qo a5 a6 b5 b6))
def far(x y z h x' y' z' h':Int):Int:=flat x y z x' y' z'+h+h'
end Pl
namespace Pl
structure Pc where
 x:Int
 y:Int
 z:Int
 h:Int
 s:Int
def Pc.row(p:Pc):List V:=[.v (.int .i64 p.x),.v (.int .i64 p.y),.v (.int .i64 p.z),.v (.int .i64 p.h),.v (.int .i64 p.s)]
instance:FlatRow Pc.row:=⟨fun x u hu=>by simp[Pc.row]at hu;rcases hu with rfl|rfl|rfl|rfl|rfl<;>exact⟨_,rfl⟩⟩
def Pc.ok(p:Pc):Prop:=True
def Pc.okb(p:Pc):Bool:=Ah7 p.x p.y p.z p.h p.s
def Pc.err(p:Pc):Int:=Al3 p.x p.y p.z p.h p.s
theorem Pc.err_ok{p:Pc}(h:p.okb=true):p.err=0:=by unfold Pc.err Al3;unfold Pc.okb at h;rw[if_pos h]
theorem Pc.err_bad{p:Pc}(h:p.okb=false):p.err=3:=by unfold Pc.err Al3;unfold Pc.okb at h;rw[if_neg (by rw[h];decide)]
theorem Pc.err_iff{p:Pc}:p.err=0↔p.okb=true:=by
 cases h:p.okb with
 |true=>simp[Pc.err_ok h]
 |false=>simp[Pc.err_bad h]
def Pc.flat(a b:Pc):Int:=Pl.flat a.x a.y a.z b.x b.y b.z
def Pc.far(a b:Pc):Int:=Pl.far a.x a.y a.z a.h b.x b.y b.z b.h
theorem Az8{a b:Pc}(h:a.okb=true)(h':b.okb=true):(0≤a.flat b∧a.flat b≤34641017)∧(0≤a.far b∧a.far b≤36641017):=by
 have f:=Awb h h';obtain⟨_,_,_,⟨a7,a8⟩,_⟩:=O8.1 h;obtain⟨_,_,_,⟨b7,b8⟩,_⟩:=O8.1 h';refine⟨f,?_⟩;unfold Pc.far Pl.far;omega
end Pl
section
open Go.ChangeShapes Go.WideShapes Go.ChangeAt Go.RowKit

end
namespace Pl
structure Wh where
 nd:ByteArray
 pl:Pc
def Wh.enc(x:Wh):List Value:=[.string x.nd,.int .i64 x.pl.x,.int .i64 x.pl.y,.int .i64 x.pl.z,.int .i64 x.pl.h,.int .i64 x.pl.s]
def Wh.row(x:Wh):List V:=[.v (.string x.nd),.v (.int .i64 x.pl.x),.v (.int .i64 x.pl.y),.v (.int .i64 x.pl.z),.v (.int .i64 x.pl.h),.v (.int .i64 x.pl.s)]
theorem Wh.enc_len(x:Wh):x.enc.length=6:=rfl
theorem Wh.enc_one(x:Wh):∀u∈x.enc,u.oneCell'=true:=by
 intro u hu;simp[Wh.enc]at hu;rcases hu with rfl|rfl|rfl|rfl|rfl|rfl<;>rfl
instance:FlatRow Wh.row:=⟨fun x u hu=>by simp[Wh.row]at hu;rcases hu with rfl|rfl|rfl|rfl|rfl|rfl<;>exact⟨_,rfl⟩⟩
instance:OneRow Wh.row 6:=⟨fun _=>rfl,fun x u hu=>by simp[Wh.row]at hu;rcases hu with rfl|rfl|rfl|rfl|rfl|rfl<;>exact⟨_,rfl,rfl⟩⟩
def Wh.ok(x:Wh):Prop:=x.nd.size≤9223372036854775807
theorem Ba1(row:List V)(h:Rf [.s,.i,.i,.i,.i,.i] row):∃m:Wh,row=m.row∧m.ok:=by
 obtain⟨u0,_,rfl,f0,h⟩:=Ax h;obtain⟨u1,_,rfl,f1,h⟩:=Ax h;obtain⟨u2,_,rfl,f2,h⟩:=Ax h;obtain⟨u3,_,rfl,f3,h⟩:=Ax h;obtain⟨u4,_,rfl,f4,h⟩:=Ax h;obtain⟨u5,_,rfl,f5,h⟩:=Ax h;obtain rfl:=Kt h;obtain⟨n,rfl,hn⟩:=Lx f0;obtain⟨a,rfl,_⟩:=Gc f1;obtain⟨b,rfl,_⟩:=Gc f2;obtain⟨c,rfl,_⟩:=Gc f3;obtain⟨d,rfl,_⟩:=Gc f4;obtain⟨e,rfl,_⟩:=Gc f5;exact⟨⟨n,a,b,c,d,e⟩,rfl,hn⟩
end Pl
namespace Pl
def Wh.err(x:Wh):Int:=if lab x.nd.data.toList then x.pl.err else 1
def Wh.lt(g h:Wh):Bool:=slt g.nd h.nd
def H9(l:List Wh):Int:=ckL 20 Wh.err Wh.lt l
structure Nd where
 nm:ByteArray
 ce:ByteArray
 ms:List Mb
 rs:List Ru
 sv:List Sv
 gs:List Gw
 pl:Pc
 wh:List Wh
def Nd.row(n:Nd):List V:=[.v (.string n.nm),.v (.string n.ce),.sl false (n.ms.map Mb.row),.sl false (n.rs.map Ru.row),.sl false (n.sv.map Sv.row),.sl false (n.gs.map Gw.row),
 .v (.int .i64 n.pl.x),.v (.int .i64 n.pl.y),.v (.int .i64 n.pl.z),.v (.int .i64 n.pl.h),.v (.int .i64 n.pl.s),.sl false (n.wh.map Wh.row)]
structure Nd.ok(n:Nd):Prop where
 nm:n.nm.size≤9223372036854775807
 ce:n.ce.size≤9223372036854775807
 msl:n.ms.length≤9223372036854775807
 ms:∀x∈n.ms,x.ok
 rsl:n.rs.length≤9223372036854775807
 rs:∀x∈n.rs,x.ok
 svl:n.sv.length≤9223372036854775807
 sv:∀x∈n.sv,x.ok
 gsl:n.gs.length≤9223372036854775807
 gs:∀x∈n.gs,x.ok
 whl:n.wh.length≤9223372036854775807
 wh:∀x∈n.wh,x.ok
def Vz(ms:List Mb)(r:Ru):Bool:=match ms[low (Mb.cf r.m.n) ms]? with
 |some m=>hit (Mb.cf r.m.n) ms&&decide (Mb.cmp r.m m≤0)
 |none=>false
noncomputable def Nd.cks(n:Nd):List Int:=[E5 n.ms,Fu n.rs,D3 n.sv,Eg n.gs,n.pl.err,H9 n.wh]
def Nd.mine(n:Nd):Int:=match n.ms[low (Mb.cf n.nm) n.ms]? with
 |some m=>if m.st=2∨m.st=3 then 4 else if n.rs.all (Vz n.ms)then 0 else 4
 |none=>4
noncomputable def Nd.err(n:Nd):Int:=
 if lab n.nm.data.toList=false∨lab n.ce.data.toList=false then 1
 else if Aq (fun e=>e) n.cks≠0 then Aq (fun e=>e) n.cks
 else if hit (Mb.cf n.nm) n.ms=false then 5 else n.mine
theorem Nd.err_form{n:Nd}(h:lab n.nm.data.toList=false∨lab n.ce.data.toList=false):n.err=1:=if_pos h
theorem Nd.err_ck{n:Nd}(h1:lab n.nm.data.toList=true)(h2:lab n.ce.data.toList=true)(h:Aq (fun e=>e) n.cks≠0):n.err=Aq (fun e=>e) n.cks:=by
 unfold Nd.err;rw[if_neg (by rw[h1,h2];simp),if_pos h]
theorem Nd.err_none{n:Nd}(h1:lab n.nm.data.toList=true)(h2:lab n.ce.data.toList=true)(h:Aq (fun e=>e) n.cks=0)(h3:hit (Mb.cf n.nm) n.ms=false):n.err=5:=by
 unfold Nd.err;rw[if_neg (by rw[h1,h2];simp),if_neg (by rw[h];simp),if_pos h3]
theorem Nd.err_mine{n:Nd}(h1:lab n.nm.data.toList=true)(h2:lab n.ce.data.toList=true)(h:Aq (fun e=>e) n.cks=0)(h3:hit (Mb.cf n.nm) n.ms=true):n.err=n.mine:=by
 unfold Nd.err;rw[if_neg (by rw[h1,h2];simp),if_neg (by rw[h];simp),if_neg (by rw[h3];simp)]
theorem Nd.mine_at{n:Nd}{m:Mb}(h:n.ms[low (Mb.cf n.nm) n.ms]? =some m):n.mine=if m.st=2∨m.st=3 then 4 else if n.rs.all (Vz n.ms)then 0 else 4:=by
 unfold Nd.mine;rw[h]
theorem Aoj{ms:List Mb}{r:Ru}(h:hit (Mb.cf r.m.n) ms=false):Vz ms r=false:=by
 unfold Vz;split
 ·rw[h];rfl
 ·rfl
theorem An5{ms:List Mb}{r:Ru}{m:Mb}(h:hit (Mb.cf r.m.n) ms=true)(hm:ms[low (Mb.cf r.m.n) ms]? =some m):Vz ms r=decide (Mb.cmp r.m m≤0):=by
 unfold Vz;rw[hm];simp[h]
structure Nd.Good(n:Nd):Prop where
 nm:lab n.nm.data.toList=true
 ce:lab n.ce.data.toList=true
 ms:E5 n.ms=0
 rs:Fu n.rs=0
 sv:D3 n.sv=0
 gs:Eg n.gs=0
 pl:n.pl.okb=true
 wh:H9 n.wh=0
 hit:hit (Mb.cf n.nm) n.ms=true
 st:∀m,n.ms[low (Mb.cf n.nm) n.ms]? =some m→m.st≠2∧m.st≠3
 ru:∀r∈n.rs,Vz n.ms r=true
theorem Ai0{n:Nd}(h:Aq (fun e=>e) n.cks=0):E5 n.ms=0∧Fu n.rs=0∧D3 n.sv=0∧Eg n.gs=0∧n.pl.err=0∧H9 n.wh=0:=by
 have g:=Jt h;exact⟨g 0 (by show 0<6;omega),g 1 (by show 1<6;omega),g 2 (by show 2<6;omega),g 3 (by show 3<6;omega),g 4 (by show 4<6;omega),g 5 (by show 5<6;omega)⟩
theorem Nd.good{n:Nd}(h:n.err=0):n.Good:=by
 by_cases h1:lab n.nm.data.toList=false∨lab n.ce.data.toList=false
 ·rw[Nd.err_form h1]at h;cases h
 ·have h2:lab n.nm.data.toList=true:=by cases q:lab n.nm.data.toList<;>simp[q]at h1 ⊢
  have h3:lab n.ce.data.toList=true:=by cases q:lab n.ce.data.toList<;>simp[q]at h1 ⊢
  by_cases h4:Aq (fun e=>e) n.cks=0
  ·cases h5:Pl.hit (Mb.cf n.nm) n.ms with
   |false=>rw[Nd.err_none h2 h3 h4 h5]at h;cases h
   |true=>
    rw[Nd.err_mine h2 h3 h4 h5]at h;have hm:n.ms[low (Mb.cf n.nm) n.ms]? =some (n.ms[low (Mb.cf n.nm) n.ms]'(Ep h5)):=ZC _;rw[Nd.mine_at hm]at h;obtain⟨c1,c2,c3,c4,c5,c6⟩:=Ai0 h4;split at h
    ·cases h
    ·rename_i h6;split at h
     ·rename_i h7;refine⟨h2,h3,c1,c2,c3,c4,Pc.err_iff.1 c5,c6,h5,fun m hm'=>?_,fun r hr=>List.all_eq_true.1 h7 r hr⟩;rw[hm]at hm';injection hm' with hm';subst hm'
      exact⟨fun q=>h6 (.inl q),fun q=>h6 (.inr q)⟩
     ·cases h
  ·rw[Nd.err_ck h2 h3 h4]at h;exact absurd h h4
end Pl
open Go.RowKit Pl
theorem Pd(n a b:Int):Fun Tryz.prog 96 [.c (.v (.int .i64 n)),.c (.v (.int .i64 a)),.c (.v (.int .i64 b))] [.c (.v (.bool (wi n a b)))]:=by
 refine Av Bv rfl ?_;refine G0 ?_;(refine Aa (fun h=>?_) (fun h=>?_)<;>rw[h])
 ·refine G0 ?_;rw[Atz h];(exact⟨[],aI⟩)
 ·refine G0 ?_;rw[Au0 h];(exact⟨[],aI⟩)
theorem Ajn(m:Mb)(hm:m.ok):Fun Tryz.prog 39 [.c (.agg m.row)] [.c (.v (.int .i64 m.err))]:=by
 refine Av Iy rfl ?_;refine G1 ?_;intro gg;refine .inl (cX (Bu _ hm) ?_);refine G1 ?_;intro gg;(refine Aa (fun h1=>?_) (fun h1=>?_)<;>rw[h1])
 ·refine G0 ?_
  (rw[show m.err=1 from by(first|(simp_all;done)|(unfold Mb.err;simp_all))];(exact⟨[],aI⟩))
 ·refine G0 ?_;refine .inl (cX (Pd _ _ _) ?_);refine G1 ?_;intro gg;(refine Aa (fun h2=>?_) (fun h2=>?_)<;>rw[h2])
  ·refine G0 ?_
   (rw[show m.err=7 from by(first|(simp_all;done)|(unfold Mb.err;simp_all))];(exact⟨[],aI⟩))
  ·refine G0 ?_;refine .inl (cX (Pd _ _ _) ?_);refine G1 ?_;intro gg;(refine Aa (fun h3=>?_) (fun h3=>?_)<;>rw[h3])
   ·refine G0 ?_
    (rw[show m.err=3 from by(first|(simp_all;done)|(unfold Mb.err;simp_all))];(exact⟨[],aI⟩))
   ·refine G0 ?_;refine .inl (cX (Pd _ _ _) ?_);refine G1 ?_;intro gg;(refine Aa (fun h4=>?_) (fun h4=>?_)<;>rw[h4])
    ·refine G0 ?_
     (rw[show m.err=3 from by(first|(simp_all;done)|(unfold Mb.err;simp_all))];(exact⟨[],aI⟩))
    ·refine G0 ?_
     (rw[show m.err=0 from by(first|(simp_all;done)|(unfold Mb.err;simp_all))];(exact⟨[],aI⟩))
theorem Aik(m:Mb)(hm:m.ok):Fun Tryz.prog 57 [.c (.agg m.row)] [.c (.v (.int .i64 m.err))]:=by
 refine Av Mx rfl ?_;refine G1 ?_;intro gg;refine .inl (cX (Es _ hm) ?_);refine G1 ?_;intro gg;(refine Aa (fun h1=>?_) (fun h1=>?_)<;>rw[h1])
 ·refine G0 ?_
  (rw[show m.err=1 from by(first|(simp_all;done)|(unfold Mb.err;simp_all))];(exact⟨[],aI⟩))
 ·refine G0 ?_;refine .inl (cX (Cf _ _ _) ?_);refine G1 ?_;intro gg;(refine Aa (fun h2=>?_) (fun h2=>?_)<;>rw[h2])
  ·refine G0 ?_
   (rw[show m.err=7 from by(first|(simp_all;done)|(unfold Mb.err;simp_all))];(exact⟨[],aI⟩))
  ·refine G0 ?_;refine .inl (cX (Cf _ _ _) ?_);refine G1 ?_;intro gg;(refine Aa (fun h3=>?_) (fun h3=>?_)<;>rw[h3])
   ·refine G0 ?_
    (rw[show m.err=3 from by(first|(simp_all;done)|(unfold Mb.err;simp_all))];(exact⟨[],aI⟩))
   ·refine G0 ?_;refine .inl (cX (Lo _) ?_);refine G1 ?_;intro gg;(refine Aa (fun h4=>?_) (fun h4=>?_)<;>rw[h4])
    ·refine G0 ?_
     (rw[show m.err=3 from by(first|(simp_all;done)|(unfold Mb.err;simp_all))];(exact⟨[],aI⟩))
    ·refine G0 ?_
     (rw[show m.err=0 from by(first|(simp_all;done)|(unfold Mb.err;simp_all))];(exact⟨[],aI⟩))
theorem Xb(b:Bool):Fun Tryz.prog 176 [.c (.v (.bool b))] [.c (.v (.int .i64 (b2i b)))]:=by
 refine Av Vg rfl ?_;refine G0 ?_;(refine Aa (fun h=>?_) (fun h=>?_)<;>rw[h])
 ·refine G0 ?_;(exact⟨[],aI⟩)
 ·refine G0 ?_;(exact⟨[],aI⟩)
theorem Up(g x:Mb):Fun Tryz.prog 93 [.c (.agg g.row),.c (.agg x.row)] [.c (.v (.int .i64 (Mb.cmp g x)))]:=by
 refine Av Tc rfl ?_;(refine goI ?_;repeat (intro gg;refine goI ?_));(refine⟨_,_,false,aI,Ua _ _,Ae,nI,?_⟩);refine G1 ?_;intro gg;(refine⟨_,_,false,aI,Ua _ _,Ae,nI,?_⟩);refine G1 ?_;intro gg;(refine⟨_,_,false,aI,Ua _ _,Ae,nI,?_⟩);refine G1 ?_;intro gg;(refine⟨_,_,false,aI,Xb _,Ae,nI,?_⟩);refine G1 ?_;intro gg;refine .inl (cX (Xb _) ?_);refine G1 ?_;intro gg;refine .inl (cX (Ua _ _) ?_);(refine goI ?_;repeat (intro gg;refine goI ?_));(refine .inl ⟨_,_,true,[],aI,Art false [Co g.lf x.lf,Co g.st x.st,Co g.ad x.ad,Co (b2i g.sv) (b2i x.sv)] (by simp),(fun _=>fI),nI,?_⟩);refine G1 ?_;intro gg;(exact⟨[],aI⟩)
theorem Ak7(g x:Mb):Fun Tryz.prog 59 [.c (.agg g.row),.c (.agg x.row)] [.c (.v (.bool (Mb.nw g x)))]:=by
 refine Av Lf rfl ?_;(refine goI ?_;repeat (intro gg;refine goI ?_));(refine Aa (fun h1=>?_) (fun h1=>?_)<;>rw[h1])
 ·refine G0 ?_;rw[show Mb.nw g x=decide (x.lf<g.lf)from Atr h1];(exact⟨[],aI⟩)
 ·have e1:Mb.nw g x=decide (0<Bi [Co g.st x.st,Co g.ad x.ad,Co (b2i g.sv) (b2i x.sv)]):=by unfold Mb.nw Mb.cmp;rw[Asm h1]
  refine G0 ?_;(refine Aa (fun h2=>?_) (fun h2=>?_)<;>rw[h2])
  ·refine G0 ?_;rw[e1,Atr h2];(exact⟨[],aI⟩)
  ·rw[Asm h2]at e1;refine G0 ?_;(refine Aa (fun h3=>?_) (fun h3=>?_)<;>rw[h3])
   ·refine G0 ?_;rw[e1,Atr h3];(exact⟨[],aI⟩)
   ·rw[Asm h3,Atp]at e1;refine G0 ?_;(refine Aa (fun h4=>?_) (fun h4=>?_)<;>rw[h4])
    ·refine G0 ?_;rw[e1,h4,Bool.true_and];(exact⟨[],aI⟩)
    ·refine G0 ?_;rw[e1,h4,Bool.false_and];(exact⟨[],aI⟩)
section
variable {α:Type} {enc:α→List Value} {sz:Nat} {w w':World} {A:Option Addr} {l:List α}
def RL(enc:α→List Value)(sz:Nat)(w:World)(A:Option Addr)(l:List α):Prop:=
 0<l.length→∃b off,A=some ⟨b,off,none⟩∧b<w.heap.size∧∀i,(h:i<l.length)→∀j u,(enc l[i])[j]? =some u→w.cell? ⟨b,off+i*sz+j,none⟩=some u
theorem RL.nil:RL enc sz w A []:=fun h=>absurd h (by simp)
theorem RL.at_(h:RL enc sz w A l){k:Nat}(hk:k<l.length):∃b off,A=some ⟨b,off,none⟩∧b<w.heap.size∧∀j u,(enc l[k])[j]? =some u→w.cell? ⟨b,off+k*sz+j,none⟩=some u:=by
 obtain⟨b,off,hA,hb,hc⟩:=h (by omega);exact⟨b,off,hA,hb,hc k hk⟩
theorem Auf{w:World}{base base':Nat}{e:TypeId}{v:Value}{n:Nat}{xs:List Value}(h:w.ownsRow base e sz v n xs)(hb:base'≤base):w.ownsRow base' e sz v n xs:=by
 obtain⟨h1,h2⟩:=h;refine⟨h1,?_⟩;rcases h2 with h2|⟨g,cap,cur,hv,hg,r⟩
 ·exact .inl h2
 ·exact .inr ⟨g,cap,cur,hv,by omega,r⟩
end
section
variable {P:Program}
theorem Aqz(w:World)(dT sT ty elem:TypeId)(sz:Nat)(g o dLen dCap:Nat)(a:Addr)(sLen sCap:Nat)(cur:Array Value)(t:TypeId)(cs:List Value)(hu:P.underlying dT=some (.slice elem))(hs:(P.info? elem).map (·.size)=some sz)(hg:w.heap[g]? =some (.cells cur t (0,0)))(hn:cs.length=Nat.min sLen dLen*sz)(hsrc:∀j v,cs[j]? =some v→w.cell? (a.add j)=some v)(hfit:o+cs.length≤cur.size)(h1:∀v∈cs,v.oneCell'=true):
  (Builtin.copy_ #[dT,sT] ty #[.slice (some ⟨g,o,none⟩) dLen dCap,.slice (some a) sLen sCap]).run P w=
   .ok (goInt (Nat.min sLen dLen)) (w.setRow g (splice cur.toList o cs).toArray):=by
 have hl:=run_loadCells_list (P:=P) w a cs hsrc;have hst:=run_storeCells_at P g o t cs 0 cur w hg (by simpa using hfit) h1;rw[hn]at hl;cases hq:P.info? elem with
 |none=>simp[hq]at hs
 |some i=>
  have hi:i.size=sz:=by simpa[hq]using hs
  simp only[Builtin.copy_,Builtin.lenOf,Builtin.firstCells,sizeOf,typeInfo];simp[run_underlying hu,hq,hi,hl,hst,splice]
theorem Ai3{w:World}{o:Oper}{a:Act}{K:Act→World→Prop}{Q:Exit→Act→World→Prop}(d s:Operand)(dT sT:TypeId)(ho:o.op=.call {callee:=.builtin .copy,args:= #[d,s],argTypes:= #[dT,sT]})(elem:TypeId)(sz:Nat)(hu:P.underlying dT=some (.slice elem))(hsz:(P.info? elem).map (·.size)=some sz)(g off dLen dCap:Nat)(ad:Addr)(sLen sCap:Nat)(hd:a.eval d=.slice (some ⟨g,off,none⟩) dLen dCap)(hs:a.eval s=.slice (some ad) sLen sCap)(cur:Array Value)(t:TypeId)(hg:Blk w g t cur)(cs:List Value)(hn:cs.length=Nat.min sLen dLen*sz)(hsrc:∀j v,cs[j]? =some v→w.cell? (ad.add j)=some v)(hfit:off+cs.length≤cur.size)(h1:∀v∈cs,v.oneCell'=true)(h:∀w',Blk w' g t (splice cur.toList off cs).toArray→w.grownBy w' (some g)→w.drawn≤w'.drawn→K (a.put o.dst (goInt (Nat.min sLen dLen))) w'):o.wp P a w K Q:=by
 have hrun:=Aqz (P:=P) w dT sT o.type elem sz g off dLen dCap ad sLen sCap cur t cs hu hsz hg hn hsrc hfit h1;unfold Oper.wp;simp[execOp,ho,resolve,invoke,builtin,hd,hs,hrun,Result.andThen];refine h _ ?_ ⟨rfl,rfl,rfl,by simp[World.setRow],fun k hk hne=>setRow_other w g k _ (fun e=>hne (by rw[e]))⟩ (ZT _);exact setRow_heap w g _ _ t _ hg
theorem Um{w:World}{ops:Array Oper}{Bk:List Oper}{o:Oper}{a:Act}{Q:Exit→Act→World→Prop}(hgd:o.guard=none)(d s:Operand)(dT sT:TypeId)(ho:o.op=.call {callee:=.builtin .copy,args:= #[d,s],argTypes:= #[dT,sT]})(elem:TypeId)(sz:Nat)(hu:P.underlying dT=some (.slice elem))(hsz:(P.info? elem).map (·.size)=some sz)(g off dLen dCap:Nat)(ad:Addr)(sLen sCap:Nat)(hd:a.eval d=.slice (some ⟨g,off,none⟩) dLen dCap)(hs:a.eval s=.slice (some ad) sLen sCap)(cur:Array Value)(t:TypeId)(hg:Blk w g t cur)(cs:List Value)(hn:cs.length=Nat.min sLen dLen*sz)(hsrc:∀j v,cs[j]? =some v→w.cell? (ad.add j)=some v)(hfit:off+cs.length≤cur.size)(h1:∀v∈cs,v.oneCell'=true)(h:∀w',Blk w' g t (splice cur.toList off cs).toArray→w.grownBy w' (some g)→w.drawn≤w'.drawn→wpList P ops Q Bk (a.put o.dst (goInt (Nat.min sLen dLen))) w'):wpList P ops Q (o::Bk) a w:=
 wpList_plain hgd fun _ hK=>Ai3 d s dT sT ho elem sz hu hsz g off dLen dCap ad sLen sCap hd hs cur t hg cs hn hsrc hfit h1 fun w' hb hw hd=>hK _ _ (h w' hb hw hd)
theorem Afz{w:World}{base:Nat}{e:TypeId}{size:Nat}{v:Value}{n:Nat}{xs:List Value}(h:w.ownsRow base e size v n xs):w.ownsRow 0 e size v n xs:=by
 refine⟨h.1,?_⟩;rcases h.2 with q|⟨g,cap,cur,hv,hg,r⟩
 ·exact .inl q
 ·exact .inr ⟨g,cap,cur,hv,ZU _,r⟩
theorem I4(w:World){ops:Array Oper}{Bk:List Oper}{o:Oper}{a:Act}{Q:Exit→Act→World→Prop}(hgd:o.guard=none)(s x:Operand)(t:TypeId)(ho:o.op=.call {callee:=.builtin .append,args:= #[s,x],argTypes:= #[t,t]})(base:Nat)(e:TypeId)(i:TypeInfo)(z:Value)(size bytes:Nat)(ht:P.underlying t=some (.slice e))(hi:P.info? e=some i)(hz:i.zero=some z)(hsize:i.size=size)(hby:i.bytes=bytes)(hzs:z.cells.size=size)(hsz:0<size)(v:Value)(n:Nat)(xs:List Value)(hs:a.eval s=v)(hown:w.ownsRow base e size v n xs)(ad:Addr)(m c:Nat)(news:List Value)(hx:a.eval x=.slice (some ad) m c)(hl:news.length=m*size)(hnews:∀j u,news[j]? =some u→w.cell? (ad.add j)=some u)(h1:∀u∈news,u.oneCell'=true)(h63:n+m≤maxLen)(hbytes:(n+m)*bytes≤140737488355328)(hbase:base≤w.heap.size)(h:∀v' w',w'.ownsRow base e size v' (n+m) (xs++news)→w.grownBy w' v.ownBlock→w.drawn≤w'.drawn→(v'.ownBlock=v.ownBlock∨v'.ownBlock=some w.heap.size)→wpList P ops Q Bk (a.put o.dst v') w'):
  wpList P ops Q (o::Bk) a w:=by
 refine wpList_plain hgd fun K hK=>?_;obtain⟨v',w',hr,h2,h3,h4,h5⟩:=run_append_own_at (P:=P) w base t o.type e i z size bytes ht hi hz hsize hby hzs hsz v n xs hown ad m c news hl hnews h1 h63 hbytes hbase;subst hsize hby;have hd:=Rk w t o.type e i z ht hi hz hsz (Afz hown) ad m c news hl hnews h1 h63 hbytes hr;rw[←hs,←hx]at hr;exact Du (Ok ho rfl rfl rfl hr) (hK _ _ (h v' w' h2 h3 hd h5))
theorem Aad{w:World}{ops:Array Oper}{o:Oper}{a:Act}{K:Act→World→Prop}{Q:Exit→Act→World→Prop}{E:Prop}(hgd:o.guard=none)(d s:Operand)(dT sT:TypeId)(ho:o.op=.call {callee:=.builtin .copy,args:= #[d,s],argTypes:= #[dT,sT]})(elem:TypeId)(sz:Nat)(hu:P.underlying dT=some (.slice elem))(hsz:(P.info? elem).map (·.size)=some sz)(g off dLen dCap:Nat)(ad:Addr)(sLen sCap:Nat)(hd:a.eval d=.slice (some ⟨g,off,none⟩) dLen dCap)(hs:a.eval s=.slice (some ad) sLen sCap)(cur:Array Value)(t:TypeId)(hg:Blk w g t cur)(cs:List Value)(hn:cs.length=Nat.min sLen dLen*sz)(hsrc:∀j v,cs[j]? =some v→w.cell? (ad.add j)=some v)(hfit:off+cs.length≤cur.size)(h1:∀v∈cs,v.oneCell'=true)(h:∀w',Blk w' g t (splice cur.toList off cs).toArray→w.grownBy w' (some g)→w.drawn≤w'.drawn→K (a.put o.dst (goInt (Nat.min sLen dLen))) w'):
  if Region.wanted o (yielded ops a.tmps)=true then Oper.wp P o a w K Q else E:=by
 have hw:Region.wanted o (yielded ops a.tmps)=true:=by simp[Region.wanted,hgd]
 rw[if_pos hw];exact Ai3 d s dT sT ho elem sz hu hsz g off dLen dCap ad sLen sCap hd hs cur t hg cs hn hsrc hfit h1 h
end
theorem Yv{w:World}{a:Addr}{v:Value}(h:w.cell? a=some v):a.block<w.heap.size:=World.block_lt_of_cell? w _ h
theorem Mr{w:World}{base:Nat}{e:TypeId}{size:Nat}{v:Value}{n:Nat}{xs:List Value}(h:w.ownsRow base e size v n xs):∃A c,v=.slice A n c:=by
 rcases h.2 with⟨rfl,rfl⟩|⟨g,cap,cur,rfl,_⟩
 ·exact⟨_,_,rfl⟩
 ·exact⟨_,_,rfl⟩
theorem Ez{w:World}{base:Nat}{e:TypeId}{size:Nat}{v:Value}{n:Nat}{xs:List Value}(h:w.ownsRow base e size v n xs):∀k,v.ownBlock=some k→base≤k:=fun k hk=>(h.lt k hk).1
theorem Tv{w:World}{g:Nat}{t:TypeId}{cur:Array Value}{n:Nat}{xs:List Value}(h:Blk w g t cur)(hx:cur.toList.take n=xs)(p:Nat):
  ∀j v,(xs.drop p)[j]? =some v→w.cell? ((⟨g,p,none⟩:Addr).add j)=some v:=fun j v hj=>by
 have e:(⟨g,p,none⟩:Addr).add j=⟨g,p+j,none⟩:=by unfold Addr.add;split<;>simp_all
 rw[e,h.cell];rw[List.getElem?_drop,←hx]at hj;have hlt:p+j<n:=by
  have:=(ZB.1 hj).1;rw[ZM]at this;omega
 rw[XA hlt]at hj;simpa using hj
def LB(A:Option Addr)(b:Nat):Prop:=∃a,A=some a∧a.block=b
theorem Axj{A:Option Addr}{n c k:Nat}(h:(Value.slice A n c).ownBlock=some k):LB A k:=by
 cases A with
 |none=>cases h
 |some a=>exact⟨a,rfl,by simpa[Value.ownBlock]using h⟩
theorem Avj{w a:World}{base:Nat}{e:TypeId}{size:Nat}{v:Value}{n:Nat}{xs:List Value}{L:Nat→Prop}(h:w.ownsRow base e size v n xs)(hL:∀k,v.ownBlock=some k→L k):∀k,v.ownBlock=some k→L k∨a.heap.size≤k:=fun k hk=>.inl (hL k hk)
theorem Fr.drew{L:Nat→Prop}{a w:World}(h:Fr L a w):Fr L a w.drew:=⟨h.os,h.tape,h.output,h.size,h.block⟩
theorem Fr.alloc{L:Nat→Prop}{a w:World}(h:Fr L a w)(o:Obj):Fr L a (w.alloc o):=h.grown (World.grownBy_alloc w o none) (by simp) (ZT _)
theorem Ak0{w:World}{g:Nat}{t:TypeId}{cur:Array Value}{n:Nat}{xs:List Value}(h:Blk w g t cur)(hx:cur.toList.take n=xs):∀j v,xs[j]? =some v→w.cell? ((⟨g,0,none⟩:Addr).add j)=some v:=fun j v hj=>Tv h hx 0 j v (by rwa[List.drop_zero])
theorem Ajl{α:Type}(cur xs vs:List α)(p n:Nat)(hx:cur.take n=xs)(hn:n≤cur.length)(hp:p≤n)(hr:n+vs.length≤cur.length):
  (splice (splice cur (p+vs.length) (xs.drop p)) p vs).take (n+vs.length)=xs.take p++vs++xs.drop p:=by
 have hxl:xs.length=n:=by rw[←hx,ZM];omega
 have e0:cur.take p=xs.take p:=by rw[←hx,List.take_take,Nat.min_eq_left hp]
 unfold splice;have hA:((cur.take (p+vs.length)++(xs.drop p++cur.drop (p+vs.length+(xs.drop p).length))).take p)=xs.take p:=by
  rw[List.take_append_of_le_length (by rw[ZM];omega),List.take_take,Nat.min_eq_left (by omega),e0]
 have hB:((cur.take (p+vs.length)++(xs.drop p++cur.drop (p+vs.length+(xs.drop p).length))).drop (p+vs.length))=xs.drop p++cur.drop (p+vs.length+(xs.drop p).length):=by
  have hlen:(cur.take (p+vs.length)).length=p+vs.length:=by rw[ZM];omega
  conv=>lhs;arg 1;rw[←hlen]
  rw[List.drop_left]
 rw[hA,hB,←ZS,←ZS];rw[List.take_append_of_le_length (by simp;omega)];exact List.take_of_length_le (by simp;omega)
theorem Ak4{α:Type}(Z xs vs:List α)(p n:Nat)(hz:Z.take p=xs.take p)(hxl:xs.length=n)(hp:p≤n)(hr:n+vs.length≤Z.length):
  (splice (splice Z p vs) (p+vs.length) (xs.drop p)).take (n+vs.length)=xs.take p++vs++xs.drop p:=by
 unfold splice;have hpl:p≤Z.length:=by omega
 have hA:((Z.take p++(vs++Z.drop (p+vs.length))).take (p+vs.length))=xs.take p++vs:=by
  rw[←ZS,List.take_append_of_le_length (by simp;omega),hz];exact List.take_of_length_le (by simp;omega)
 rw[hA,←ZS,List.take_append_of_le_length (by simp;omega)];exact List.take_of_length_le (by simp;omega)
theorem Afh:(Tryz.prog.info? 24).map (fun i=>(i.zero,i.size,i.bytes))=some (some (.agg #[.string ⟨#[]⟩,.int .i64 0,.int .i64 0,.int .i64 0,.bool false]),5,48):=by kernel_rfl
theorem Ym:(Tryz.prog.info? 24).map (·.size)=some 5:=by kernel_rfl
theorem Baz:∀w,(Go.sizeOf 24).run Tryz.prog w=.ok 5 w:=by
 intro w;obtain⟨i0,hi0,hz0,hzs,hzb⟩:=info_parts Afh;simp[sizeOf,typeInfo,hi0,hzs]
theorem Akc(vb g:Nat)(vc lb cb off:Nat)(vs cur:Array Value)(w:World)(hv:Blk w vb 24 vs)(hg:Blk w g 24 cur)(hne:vb≠g)(hcur:cur.size≠0):
  (callFunc 177 #[.slice (some ⟨vb,0,none⟩) 1 vc,.slice (some ⟨g,off,none⟩) lb cb]).run Tryz.prog w=.ok (.value (.bool false)) w:=by
 rw[run_callFunc_extern Tryz.func177 (by kernel_rfl) (by kernel_rfl) (by kernel_rfl) (e:=Extern.SlicesOverlaps.overlaps #[22,22] #[4]) (by kernel_rfl),
  Lib.run_overlaps_apart w 22 4 24 Tryz.underlying22 5 Baz ⟨vb,0,none⟩ ⟨g,off,none⟩ 1 vc lb cb hne 24 24 vs.size cur.size
   (by unfold Blk at hv;simp[World.shape?,hv]) (by unfold Blk at hg;simp[World.shape?,hg]) hcur (hv.frozen _) (hv.frozen _)]
 rfl
def Anw(L:Nat→Prop)(base n i:Nat)(xs vs:List Value)(w:World)(e:Ending)(w':World):Prop:=
 ∃A' c',e=.returned (.slice A' (n+1) c')∧w'.ownsRow base 24 5 (.slice A' (n+1) c') (n+1) (xs.take (i*5)++vs++xs.drop (i*5))∧Fr L w w'∧∀k,(Value.slice A' (n+1) c').ownBlock=some k→L k∨w.heap.size≤k
set_option maxHeartbeats 1000000 in
set_option maxRecDepth 100000 in
theorem Ap9(base:Nat)(A:Option Addr)(n c:Nat)(xs:List Value)(vb vc:Nat)(vcur:Array Value)(vs:List Value)(w:World)(hown:w.ownsRow base 24 5 (.slice A n c) n xs)(hbase:base≤w.heap.size)(hn:n≤1000)(hv:Blk w vb 24 vcur)(hvc:vcur.toList.take 5=vs)(hvl:vs.length=5)(h1:∀v∈vs,v.oneCell'=true):
  Calls Tryz.prog 97 #[.slice A n c,.int .i64 n,.slice (some ⟨vb,0,none⟩) 1 vc] w (Anw (LB A) base n n xs vs w):=by
 obtain⟨i0,hi0,hz0,hzs,hzb⟩:=info_parts Afh;have hnc:n≤c∧c≤9223372036854775807:=by
  rcases hown.2 with⟨hv,hz⟩|⟨g,cap,cur,hv,_,_,h,h',_⟩
  ·injection hv;omega
  ·injection hv with _ _ e;subst e;exact⟨h,h'⟩
 obtain⟨hnc,hc63⟩:=hnc;have hxs:xs.length=n*5:=hown.1;have HXS:=hid hxs;have HVL:=hid hvl;have HV:=hid hv;have HO:=hid hown;have HZ0:=hid hz0;have HZS:=hid hzs;have HZB:=hid hzb;have HI0:=hid hi0;clear hxs hvl hv hown hz0 hzs hzb hi0;have hnn:((n:Int)==(n:Int))=true:=by simp
 go_enter Tryz.func97,Tryz.ntmps97
 go_wp2_with (at_builtin;refine I4 _ rfl _ _ 22 rfl base 24 i0 _ 5 48 Tryz.underlying22 HI0.out HZ0.out HZS.out HZB.out rfl (by decide) _ _ _ rfl HO.out ⟨vb,0,none⟩ 1 vc vs rfl (by simpa using HVL.out) (Ak0 HV.out hvc) h1 (by simp only[maxLen];omega) (by omega) hbase ?_;intro v1 w1 hown1 hg1 hd1 hat1)
 all_goals go_ret
 all_goals
  obtain⟨A',c',rfl⟩:=Mr hown1;refine⟨A',c',rfl,?_,(Fr.refl _ _).grown hg1 (Avj HO.out (fun k hk=>Axj (n:=n) (c:=c) hk)) hd1,fun k hk=>?_⟩;rotate_left
  ·rcases hat1 with h|h
   ·exact .inl (Axj (n:=n) (c:=c) (h.symm.trans hk))
   ·have:=h.symm.trans hk;injection this with this
    exact .inr (by omega)
  rw[List.take_of_length_le (by have:=HXS.out;omega),List.drop_of_length_le (by have:=HXS.out;omega),List.append_nil];exact hown1
set_option maxHeartbeats 2000000 in
set_option maxRecDepth 100000 in
theorem Am7(base g:Nat)(n c i:Nat)(cur:Array Value)(xs:List Value)(vb vc:Nat)(vcur:Array Value)(vs:List Value)(w:World)(hg:Blk w g 24 cur)(hbg:base≤g)(hcs:cur.size=c*5)(hcx:cur.toList.take (n*5)=xs)(hi:i<n)(hr:n+1≤c)(hc63:c≤9223372036854775807)(hn:n≤1000)(hv:Blk w vb 24 vcur)(hvc:vcur.toList.take 5=vs)(hne:vb≠g)(hvl:vs.length=5)(h1:∀v∈vs,v.oneCell'=true)(h1x:∀v∈xs,v.oneCell'=true):
  Calls Tryz.prog 97 #[.slice (some ⟨g,0,none⟩) n c,.int .i64 i,.slice (some ⟨vb,0,none⟩) 1 vc] w (Anw (LB (some ⟨g,0,none⟩)) base n i xs vs w):=by
 have hcl:cur.toList.length=c*5:=by rw[Array.length_toList];exact hcs
 have hxl:xs.length=n*5:=by rw[←hcx,ZM,hcl];omega
 have hov:∀lb cb,(callFunc 177 #[.slice (some ⟨vb,0,none⟩) 1 vc,.slice (some ⟨g,(i+1)*5,none⟩) lb cb]).run Tryz.prog w=.ok (.value (.bool false)) w:=fun lb cb=>Akc vb g vc lb cb ((i+1)*5) vcur cur w hv hg hne (by omega);have HB2:Hid ((splice (splice cur.toList ((i+1)*5) (xs.drop (i*5))) (i*5) vs).take ((n+1)*5)=xs.take (i*5)++vs++xs.drop (i*5)):=by
  refine hid ?_;have h:=Ajl cur.toList xs vs (i*5) (n*5) hcx (by rw[hcl];omega) (by omega) (by rw[hcl,hvl];omega);rw[hvl]at h;rw[Nat.add_mul,Nat.add_mul,Nat.one_mul];exact h
 have HC1:Hid ((xs.drop (i*5)).length=Nat.min (n+1-i) (n-i)*5):=by
  refine hid ?_;rw[List.length_drop,hxl,show Nat.min (n+1-i) (n-i)=n-i from Nat.min_eq_right (by omega),Nat.sub_mul]
 have HC2:=hid (fun j v (hj:(xs.drop (i*5))[j]? =some v)=>Tv hg.drew hcx (i*5) j v hj);have HC3:Hid ((i+1)*5+(xs.drop (i*5)).length≤cur.size):=hid (by rw[List.length_drop];omega);have HC3':Hid ((i+1)*5+(xs.drop (i*5)).length≤cur.toList.length):=hid (by rw[List.length_drop,hcl];omega);have HC4:=hid (fun v (hv:v∈xs.drop (i*5))=>h1x v (List.mem_of_mem_drop hv));have HC5:Hid (vs.length=Nat.min 1 (n+1-i)*5):=by
  refine hid ?_;rw[hvl,show Nat.min 1 (n+1-i)=1 from Nat.min_eq_left (by omega)]
 have HC6:Hid (i*5+vs.length≤(splice cur.toList ((i+1)*5) (xs.drop (i*5))).toArray.size):=by
  refine hid ?_;rw[List.size_toArray,length_splice _ _ _ (by rw[hcl,←hcs];exact HC3.out),hcl,hvl];omega
 have HXL:=hid hxl;have HVL:=hid hvl;have HG:=hid hg;have HV:=hid hv;have HCS:=hid hcs;have HNE:=hid hne;have HCX:=hid hcx;clear hxl hvl hg hv hcs hne hcx;have hw1:IntKind.i64.wrap ((i:Int)+1)=(i:Int)+1:=by rw[IntWalk.i64_in _ (by omega)]
 have hb1:(0:Int)≤(i:Int)+1:=by omega
 have htn:((i:Int)+1).toNat=i+1:=by omega
 have hb3:(i:Int)≤(n:Int)+1:=by omega
 have hb4:(i:Int)+1≤(n:Int)+1:=by omega
 have hb5:(i:Int)≤(n:Int):=by omega
 have hb6:¬c=i:=by omega
 have hb7:¬c=i+1:=by omega
 have hb8:((i:Int)==(n:Int))=false:=by simp;omega
 go_enter Tryz.func97,Tryz.ntmps97
 go_wp2_with (simp only[hov])
 go_region_law (refine Aad rfl (.tmp 73) (.tmp 76) 22 22 rfl 24 5 Tryz.underlying22 Ym g ((i+1)*5) (n-i) (c-(i+1)) ⟨g,i*5,none⟩ (n+1-i) (c-i) (by simp[Act.eval,Act.put]) (by simp[Act.eval,Act.put]) cur 24 HG.out.drew (xs.drop (i*5)) HC1.out HC2.out HC3.out HC4.out ?_;intro w1 hk1 hg1 hd1)
 have HK1:=hid hk1;have HG1:=hid hg1;have HV1:=hid (HV.out.drew.grown hg1 (fun e=>HNE.out (by injection e)));clear hk1 hg1
 go_wp2_with (refine Um rfl (.tmp 80) (.tmp 81) 22 22 rfl 24 5 Tryz.underlying22 Ym g (i*5) (n+1-i) (c-i) ⟨vb,0,none⟩ 1 vc (by simp[Act.eval]) (by simp[Act.eval]) _ 24 HK1.out vs HC5.out (Ak0 HV1.out hvc) HC6.out h1 ?_;intro w2 hk2 hg2 hd2)
 go_ret
 refine⟨_,_,rfl,⟨?_,.inr ⟨g,c,_,rfl,hbg,hk2,by omega,by simpa[maxLen]using hc63,?_,?_⟩⟩,?_,fun k hk=>.inl ⟨_,rfl,by injection hk with hk⟩⟩
 ·simp only[ZF,ZM,List.length_drop];have:=HXL.out;have:=HVL.out;omega
 ·have h1:=length_splice cur.toList ((i+1)*5) (xs.drop (i*5)) HC3'.out;have h2:=length_splice (splice cur.toList ((i+1)*5) (xs.drop (i*5))) (i*5) vs (by simpa using HC6.out);rw[List.size_toArray,List.toList_toArray,h2,h1];simpa using HCS.out
 ·rw[List.toList_toArray,List.toList_toArray];exact HB2.out
 ·have hlt:=HG.out.lt;exact((Fr.refl _ w).drew.grown HG1.out (fun k hk=>.inl (⟨_,rfl,by injection hk with hk⟩)) hd1).grown hg2 (fun k hk=>.inl (⟨_,rfl,by injection hk with hk⟩)) hd2
set_option maxHeartbeats 2000000 in
set_option maxRecDepth 100000 in
theorem Alr(base g:Nat)(n c i:Nat)(cur:Array Value)(xs:List Value)(vb vc:Nat)(vcur:Array Value)(vs:List Value)(w:World)(hg:Blk w g 24 cur)(hbase:base≤w.heap.size)(hcs:cur.size=c*5)(hcx:cur.toList.take (n*5)=xs)(hi:i<n)(hnc:n≤c)(hr:c<n+1)(hn:n≤1000)(hv:Blk w vb 24 vcur)(hvc:vcur.toList.take 5=vs)(hvl:vs.length=5)(h1:∀v∈vs,v.oneCell'=true)(h1x:∀v∈xs,v.oneCell'=true):
  Calls Tryz.prog 97 #[.slice (some ⟨g,0,none⟩) n c,.int .i64 i,.slice (some ⟨vb,0,none⟩) 1 vc] w (Anw (LB (some ⟨g,0,none⟩)) base n i xs vs w):=by
 obtain⟨i0,hi0,hz0,hzs,hzb⟩:=info_parts Afh;have hcl:cur.toList.length=c*5:=by rw[Array.length_toList];exact hcs
 have hxl:xs.length=n*5:=by rw[←hcx,ZM,hcl];omega
 have hold:(Builtin.firstCells i0.size i (.slice (some ⟨g,0,none⟩) i c)).run Tryz.prog w.drew=.ok (xs.take (i*5)).toArray w.drew:=by
  rw[hzs];exact run_firstCells_some w.drew 5 i ⟨g,0,none⟩ i c (xs.take (i*5)) (by rw[ZM];omega) (fun j v hj=>by
   have hj':(xs.drop 0)[j]? =some v:=by
    rw[List.drop_zero];rw[List.getElem?_take]at hj;split at hj
    ·exact hj
    ·cases hj
   exact Tv hg.drew hcx 0 j v hj')
 have hkk:(n:Int)+1-(i:Int)=((n+1-i:Nat):Int):=by omega
 have hik:i+(n+1-i)=n+1:=by omega
 obtain⟨G,hG⟩:∃G,G=grownCap w (n+1) c 24:=⟨_,rfl⟩;have hGn:n+1≤G:=by rw[hG];exact grownCap_ge w _ _ _
 have hG63:G≤9223372036854775807:=by
  have:=grownCap_le_maxLen w (n+1) c 24 (by unfold maxLen;omega);rw[←hG]at this;unfold maxLen at this;omega
 obtain⟨ROW,hROW⟩:∃ROW:Array Value,ROW=(xs.take (i*5)).toArray++Builtin.zeroCells (Value.agg #[.string ⟨#[]⟩,.int .i64 0,.int .i64 0,.int .i64 0,.bool false]).cells (n+1-i)++Builtin.zeroCells (Value.agg #[.string ⟨#[]⟩,.int .i64 0,.int .i64 0,.int .i64 0,.bool false]).cells (G-(n+1)):=⟨_,rfl⟩;have hrz:∀ty,(Builtin.append_ #[22,3] ty #[.slice (some ⟨g,0,none⟩) i c,.int .i64 ((n:Int)+1-(i:Int))]).run Tryz.prog w=
   .ok (.slice (some ⟨w.heap.size,0,none⟩) (n+1) G) (w.drew.alloc (.cells ROW 24)):=fun ty=>by
  have h:=Lib.run_append_grow_zeros w 22 3 ty 24 i0 _ .i64 .i64 Tryz.underlying22 Tryz.underlying3 hi0 hz0 (some ⟨g,0,none⟩) i c (xs.take (i*5)) hold (n+1-i) (by omega) (by omega) (by omega) (by omega) (by rw[hzb];omega) (by rw[hzb,hik];exact growslice_fits hr (by omega));rw[hik]at h;rw[hkk,hROW,hG];exact h
 have hRs:ROW.size=G*5:=by
  rw[hROW];simp[Builtin.zeroCells,Value.cells];omega
 have hRl:ROW.toList.length=G*5:=by rw[Array.length_toList];exact hRs
 have hRt:ROW.toList.take (i*5)=xs.take (i*5):=by
  rw[hROW,Array.toList_append,Array.toList_append,ZS,List.take_append_of_le_length (by simp;omega),List.toList_toArray,List.take_take,Nat.min_self]
 have HB2:Hid ((splice (splice ROW.toList (i*5) vs) ((i+1)*5) (xs.drop (i*5))).take ((n+1)*5)=xs.take (i*5)++vs++xs.drop (i*5)):=by
  refine hid ?_;have h:=Ak4 ROW.toList xs vs (i*5) (n*5) hRt hxl (by omega) (by rw[hRl,hvl];omega);rw[hvl]at h;rw[Nat.add_mul,Nat.add_mul,Nat.one_mul];exact h
 have hgl:=hg.lt;have hvlt:=hv.lt;have HN:=hid (Blk.new_ w.drew 24 ROW (g:=w.heap.size) rfl);have HV:=hid ((hv.drew).alloc (.cells ROW 24));have HG0:=hid ((hg.drew).alloc (.cells ROW 24));have HC1:Hid (vs.length=Nat.min 1 (n+1-i)*5):=by
  refine hid ?_;rw[hvl,show Nat.min 1 (n+1-i)=1 from Nat.min_eq_left (by omega)]
 have HC2:Hid (i*5+vs.length≤ROW.size):=hid (by rw[hRs,hvl];omega);have HC2':Hid (i*5+vs.length≤ROW.toList.length):=hid (by rw[hRl,hvl];omega);have HC3:Hid ((xs.drop (i*5)).length=Nat.min (n-i) (n-i)*5):=by
  refine hid ?_;rw[List.length_drop,hxl,show Nat.min (n-i) (n-i)=n-i from Nat.min_self _,Nat.sub_mul]
 have HC4:Hid ((i+1)*5+(xs.drop (i*5)).length≤(splice ROW.toList (i*5) vs).toArray.size):=by
  refine hid ?_;rw[List.size_toArray,length_splice _ _ _ HC2'.out,hRl,List.length_drop];omega
 have HC5:=hid (fun v (hv:v∈xs.drop (i*5))=>h1x v (List.mem_of_mem_drop hv));have HRL:=hid hRl;have HXL:=hid hxl;have HVL:=hid hvl;have HCX:=hid hcx;have HRS:=hid hRs;have HNE:Hid (w.heap.size≠g):=hid (by omega);have HNV:Hid (w.heap.size≠vb):=hid (by omega);clear hRl hxl hvl hcx hRs hold hi0 hz0 hzs hzb hkk hik hROW hG hg hv hcs hcl hRt;have hw1:IntKind.i64.wrap ((i:Int)+1)=(i:Int)+1:=by rw[IntWalk.i64_in _ (by omega)]
 have hb1:(0:Int)≤(i:Int)+1:=by omega
 have htn:((i:Int)+1).toNat=i+1:=by omega
 have hb3:(i:Int)≤(n:Int)+1:=by omega
 have hb4:(i:Int)+1≤(n:Int)+1:=by omega
 have hb5:(i:Int)≤(n:Int):=by omega
 have hb6:¬c=i:=by omega
 have hb7:¬G=i+1:=by omega
 have hb9:¬G=i:=by omega
 have hb8:((i:Int)==(n:Int))=false:=by simp;omega
 go_enter Tryz.func97,Tryz.ntmps97
 go_wp2_with (first
  |(at_builtin;refine Lib.wpList_append_run _ rfl _ _ _ _ rfl _ _ rfl rfl _ _ (hrz _) ?_;clear hrz)
  |(refine Um rfl (.tmp 43) (.tmp 44) 22 22 rfl 24 5 Tryz.underlying22 Ym w.heap.size (i*5) (n+1-i) (G-i) ⟨vb,0,none⟩ 1 vc (by simp[Act.eval]) (by simp[Act.eval]) ROW 24 HN.out.drew vs HC1.out (Ak0 HV.out.drew hvc) HC2.out h1 ?_;intro w1 hk1 hg1 hd1))
 have HK1:=hid hk1;have HG1:=hid hg1;have HG0':=hid ((show Blk (w.alloc (.cells ROW 24)).drew g 24 cur from HG0.out).grown hg1 (fun e=>HNE.out (by injection e with e;exact e.symm)));have HC2a:=hid (fun j v (hj:(xs.drop (i*5))[j]? =some v)=>Tv HG0'.out.drew HCX.out (i*5) j v hj);clear hk1 hg1
 go_region_law (refine Aad rfl (.tmp 50) (.tmp 53) 22 22 rfl 24 5 Tryz.underlying22 Ym w.heap.size ((i+1)*5) (n-i) (G-(i+1)) ⟨g,i*5,none⟩ (n-i) (c-i) (by simp[Act.eval,Act.put]) (by simp[Act.eval,Act.put]) _ 24 HK1.out.drew (xs.drop (i*5)) HC3.out HC2a.out HC4.out HC5.out ?_;intro w2 hk2 hg2 hd2)
 have HK2:=hid hk2;have HG2:=hid hg2;clear hk2 hg2
 go_wp2
 go_ret
 refine⟨_,_,rfl,⟨?_,.inr ⟨w.heap.size,G,_,rfl,hbase,HK2.out,hGn,by simpa[maxLen]using hG63,?_,?_⟩⟩,?_,fun k hk=>.inr (Nat.le_of_eq (show w.heap.size=k by injection hk))⟩
 ·simp only[ZF,ZM,List.length_drop];have:=HXL.out;have:=HVL.out;omega
 ·have h1:=length_splice ROW.toList (i*5) vs HC2'.out;have h2:=length_splice (splice ROW.toList (i*5) vs) ((i+1)*5) (xs.drop (i*5)) (by simpa using HC4.out);rw[List.size_toArray,List.toList_toArray,h2,h1];simpa using HRS.out
 ·rw[List.toList_toArray,List.toList_toArray];exact HB2.out
 ·exact((((Fr.refl _ w).alloc _).drew.grown HG1.out (fun k hk=>.inr (by injection hk with hk;omega)) hd1).drew).grown HG2.out (fun k hk=>.inr (by injection hk with hk;omega)) hd2
theorem Ap3(base:Nat)(A:Option Addr)(n c i:Nat)(xs:List Value)(vb vc:Nat)(vcur:Array Value)(vs:List Value)(w:World)(hown:w.ownsRow base 24 5 (.slice A n c) n xs)(hbase:base≤w.heap.size)(hi:i≤n)(hn:n≤1000)(hv:Blk w vb 24 vcur)(hvc:vcur.toList.take 5=vs)(hne:(Value.slice A n c).ownBlock≠some vb)(hvl:vs.length=5)(h1:∀v∈vs,v.oneCell'=true)(h1x:∀v∈xs,v.oneCell'=true):
  Calls Tryz.prog 97 #[.slice A n c,.int .i64 i,.slice (some ⟨vb,0,none⟩) 1 vc] w (Anw (LB A) base n i xs vs w):=by
 by_cases hin:i=n
 ·subst hin;exact Ap9 base A i c xs vb vc vcur vs w hown hbase hn hv hvc hvl h1
 ·obtain⟨hl,h2⟩:=hown;rcases h2 with⟨_,h0⟩|⟨g,cap,cur,hA,hbg,hh,hnc,hm,hsz,htk⟩
  ·omega
  ·injection hA with hA _ hcap;subst hA;subst hcap;have hne':vb≠g:=fun e=>hne (by subst e;rfl);by_cases hr:n+1≤c
   ·exact Am7 base g n c i cur xs vb vc vcur vs w hh hbg hsz htk (by omega) hr (by simpa[maxLen]using hm) hn hv hvc hne' hvl h1 h1x
   ·exact Alr base g n c i cur xs vb vc vcur vs w hh hbase hsz htk (by omega) hnc (by omega) hn hv hvc hvl h1 h1x
def Bby(base n:Nat)(xs:List Value)(w:World)(e:Ending)(w':World):Prop:=
 ∃A' c',e=.returned (.slice A' n c')∧w'.ownsRow base 24 5 (.slice A' n c') n xs∧Below base w w'∧w.drawn≤w'.drawn
set_option maxRecDepth 100000 in
theorem Aos(A:Option Addr)(n c:Nat)(xs:List Value)(w:World)(hA:A=none→n=0)(hn:n≤1000)(hxl:xs.length=n*5)(hx:∀ad,A=some ad→∀j u,xs[j]? =some u→w.cell? (ad.add j)=some u)(h1:∀v∈xs,v.oneCell'=true):
  Calls Tryz.prog 41 #[.slice A n c] w (Bby w.heap.size n xs w):=by
 obtain⟨i0,hi0,hz0,hzs,hzb⟩:=info_parts Afh;cases A with
 |none=>
  obtain rfl:=hA rfl;obtain rfl:xs=[]:=XR (by simpa using hxl);clear hx hxl hi0 hz0 hzs hzb h1;have hnl:=fun(w:World)=>Lib.run_eql_slice_nil (P:=Tryz.prog) w 22 24 none 0 c 0 0 Tryz.underlying22
  go_enter Tryz.func41,Tryz.ntmps41
  go_wp2
  go_ret
  exact⟨none,0,rfl,World.ownsRow_nil _ _ _ _,Below.refl _ _,ZT _⟩
 |some ad=>
  have HX:=hid (hx ad rfl);have HXL:=hid hxl;have HZ0:=hid hz0;have HZS:=hid hzs;have HZB:=hid hzb;have HI0:=hid hi0;clear hx hxl hA hi0 hz0 hzs hzb;have hnl:=fun(w:World)=>Lib.run_eql_slice_nil (P:=Tryz.prog) w 22 24 (some ad) n c 0 0 Tryz.underlying22
  go_enter Tryz.func41,Tryz.ntmps41
  have hown0:(w.alloc (.cells #[] 24)).ownsRow w.heap.size 24 5 (.slice (some ⟨w.heap.size,0,none⟩) 0 0) 0 []:=
   ⟨by simp,.inr ⟨w.heap.size,0, #[],rfl,ZT _,heap_alloc_new w _,by omega,by simp[maxLen],by simp,by simp⟩⟩
  have HO:=hid hown0;have HX1:=hid (fun j u (hj:xs[j]? =some u)=>(World.cell?_alloc_lt w (.cells #[] 24) (ad.add j) (Yv (HX.out j u hj))).trans (HX.out j u hj));clear hown0
  go_wp2_with (at_builtin;refine I4 _ rfl _ _ 22 rfl w.heap.size 24 i0 _ 5 48 Tryz.underlying22 HI0.out HZ0.out HZS.out HZB.out rfl (by decide) _ _ _ rfl HO.out ad n c xs rfl HXL.out HX1.out h1 (by simp only[maxLen];omega) (by omega) (by simp) ?_;intro v1 w1 hown1 hg1 hd1 hat1)
  go_ret
  rw[Nat.zero_add,List.nil_append]at hown1;obtain⟨A',c',rfl⟩:=Mr hown1;exact⟨A',c',rfl,hown1,((Below.refl _ _).alloc (ZT _) _).grown hg1 (by simp) (Ez HO.out),hd1⟩
section
variable {α:Type} {enc:α→List Value} {sz:Nat} {w w':World} {R:Nat→Prop}
theorem Fr.imp{L L':Nat→Prop}(h:Fr L w w')(hl:∀k,L k→L' k):Fr L' w w':=⟨h.os,h.tape,h.output,h.size,fun k hk hn=>h.block k hk fun hl'=>hn (hl k hl')⟩
theorem Tr{u:V}{xs:List Value}(hp:Jd w R [.c u] xs):∃v,xs=[v]∧RV w R noG u v:=by
 have hl:=hp.len
 match xs,hl with
 |[v],_=>exact⟨v,rfl,hp.ok 0 _ _ rfl rfl⟩
theorem S7(he:∀x,(enc x).length=sz){cl:Bool}{l:List α}{v:Value}(h:RV w R noG (.sl cl (l.map fun x=>(enc x).map .v)) v):
  ∃A c,v=.slice A l.length c∧(A=none→l.length=0)∧∀ad,A=some ad→∀j u,(l.flatMap enc)[j]? =some u→w.cell? (ad.add j)=some u:=by
 generalize hrows:(l.map fun x=>(enc x).map V.v)=rows at h;cases h with
 |nil _ a cap hc=>
  obtain rfl:l=[]:=by simpa using hrows
  exact⟨a,cap,rfl,fun _=>rfl,fun ad _ j u hu=>by simp at hu⟩
 |sl _ _ b off cap sz' f hR hcap hclip hs hcell hh=>
  have hlen:rows.length=l.length:=by rw[←hrows];simp
  rw[hlen];refine⟨some ⟨b,off,none⟩,cap,rfl,(by intro h;cases h),fun ad had j u hu=>?_⟩;injection had with had;subst had
  rw[Aim _ _ rfl];have hj:j<l.length*sz:=by
   have:=(ZB.1 hu).1
   rwa[Kf he]at this
  have hsz:0<sz:=by rcases Nat.eq_zero_or_pos sz with h|h;(subst h;omega);exact h
  have hd:j/sz<l.length:=Nat.div_lt_of_lt_mul (by rw[Nat.mul_comm];exact hj);have hm:j%sz<sz:=Nat.mod_lt _ hsz;have e2:j=j/sz*sz+j%sz:=by rw[Nat.mul_comm];exact(Nat.div_add_mod j sz).symm
  have hrow:rows[j/sz]? =some ((enc l[j/sz]).map V.v):=by rw[←hrows];simp[hd]
  have hsz':sz'=sz:=by rw[←hs _ (ZH hrow)];simp[he]
  subst hsz';rw[e2,Ta he (j/sz') (j%sz') hd hm]at hu;have hu':((enc l[j/sz']).map V.v)[j%sz']? =some (.v u):=by rw[XJ,hu];rfl
  have h1:=hcell _ _ _ _ hrow hu';have h2:=Bw (hh _ _ _ _ hrow hu');rw[h2]at h1;show w.cell? ⟨b,off+j,none⟩=some u;rw[e2,←Nat.add_assoc];exact h1
theorem Amh(he:∀x,(enc x).length=sz)(h1:∀x,∀v∈enc x,v.oneCell'=true)(l:List α):Cm w R noG (l.flatMap enc) sz (l.map fun x=>(enc x).map V.v):=by
 refine⟨fun row hr=>?_,fun i j row u g1 g2=>?_⟩
 ·obtain⟨x,_,rfl⟩:=XO.1 hr;simp[he]
 ·have hi:i<l.length:=by have:=(ZB.1 g1).1;simpa using this
  have e:row=(enc l[i]).map V.v:=by simp[hi]at g1;exact g1.symm
  subst e;rw[XJ]at g2;cases hq:(enc l[i])[j]? with
  |none=>rw[hq]at g2;cases g2
  |some y=>
   rw[hq]at g2;simp at g2;subst g2;have hj:j<sz:=by rw[←he l[i]];exact(ZB.1 hq).1
   exact⟨y,by rw[Ta he i j hi hj];exact hq,h1 _ y (ZH hq),.v y⟩
theorem Adu(he:∀x,(enc x).length=sz){l:List α}{xs:List Value}(hl:xs.length=l.length*sz)(h:Cm w R noG xs sz (l.map fun x=>(enc x).map V.v)):xs=l.flatMap enc:=by
 apply List.ext_getElem?;intro j;by_cases hj:j<l.length*sz
 ·have hsz:0<sz:=by rcases Nat.eq_zero_or_pos sz with h|h;(subst h;omega);exact h
  have hd:j/sz<l.length:=Nat.div_lt_of_lt_mul (by rw[Nat.mul_comm];exact hj);have hm:j%sz<sz:=Nat.mod_lt _ hsz;have e2:j=j/sz*sz+j%sz:=by rw[Nat.mul_comm];exact(Nat.div_add_mod j sz).symm
  have hrow:(l.map fun x=>(enc x).map V.v)[j/sz]? =some ((enc l[j/sz]).map V.v):=by simp[hd]
  have hy:(enc l[j/sz])[j%sz]? =some ((enc l[j/sz])[j%sz]'(by rw[he];exact hm)):=ZC (by rw[he];exact hm);obtain⟨x,h1,_,h2⟩:=h.2 (j/sz) (j%sz) _ _ hrow (by rw[XJ,hy];rfl);rw[Bw h2]at h1;rw[e2,h1,Ta he _ _ hd hm,hy]
 ·rw[XK (by omega),XK (by rw[Kf he];omega)]
theorem Atd(he:∀x,(enc x).length=sz)(l:List α)(x:α)(i:Nat):(l.flatMap enc).take (i*sz)++enc x++(l.flatMap enc).drop (i*sz)=(l.take i++[x]++l.drop i).flatMap enc:=by
 have h:∀(i:Nat) (l:List α),(l.flatMap enc).take (i*sz)=(l.take i).flatMap enc∧(l.flatMap enc).drop (i*sz)=(l.drop i).flatMap enc:=by
  intro i
  induction i with
  |zero=>intro l;simp
  |succ i ih=>
   intro l;cases l with
   |nil=>simp
   |cons y l=>
    have hy:=he y;have:=ih l;rw[List.flatMap_cons,Nat.add_mul,Nat.one_mul];constructor
    ·rw[List.take_append,hy,List.take_of_length_le (by rw[hy];omega),show i*sz+sz-sz=i*sz by omega,this.1,List.take_succ_cons,List.flatMap_cons]
    ·rw[List.drop_append,hy,List.drop_of_length_le (by rw[hy];omega),show i*sz+sz-sz=i*sz by omega,this.2,List.drop_succ_cons,List.nil_append]
 rw[(h i l).1,(h i l).2];simp
theorem Kv{T:TypeId}{base:Nat}(he:∀x,(enc x).length=sz)(h1:∀x,∀v∈enc x,v.oneCell'=true)(hsz:0<sz){l:List α}{A:Option Addr}{c:Nat}{L:Nat→Prop}(hlt:∀b,R b→b<w.heap.size)(hown:w'.ownsRow base T sz (.slice A l.length c) l.length (l.flatMap enc))(hfr:Fr L w w')(hk:∀k,(Value.slice A l.length c).ownBlock=some k→L k∨w.heap.size≤k)(hn:∀k,(Value.slice A l.length c).ownBlock=some k→¬R k):
  ∃(ys:List Value) (R':Nat→Prop),Ending.returned (.slice A l.length c)=.returned (Ge ys)∧Fr L w w'∧(∀b,R b→R' b)∧
   (∀b,R' b→R b∨(b<w'.heap.size∧(L b∨w.heap.size≤b)))∧Jd w' R' [.o T sz (l.map fun x=>(enc x).map V.v)] ys∧(∀b,A5 [.o T sz (l.map fun x=>(enc x).map V.v)] ys b→L b∨w.heap.size≤b):=by
 have hpb:∀b,A5 [.o T sz (l.map fun x=>(enc x).map V.v)] [.slice A l.length c] b→(Value.slice A l.length c).ownBlock=some b:=by
  rintro b ⟨i,T',sz',rows',x,g1,g2,g3⟩
  cases i with
  |zero=>simp at g2;subst g2;exact g3
  |succ i=>simp at g1
 refine⟨[.slice A l.length c],R,rfl,hfr,fun _ h=>h,fun b h=>.inl h,⟨rfl,?_,?_,?_⟩,fun b hb=>hk b (hpb b hb)⟩
 ·intro i p x g1 g2;cases i with
  |zero=>
   simp at g1 g2;subst g1 g2;exact⟨hsz,_,by rw[ZE];exact Auf hown (ZU _),Amh he h1 l⟩
  |succ i=>simp at g1
 ·intro i j T1 sz1 rows1 T2 sz2 rows2 x y b hij g1 g2;cases i with
  |zero=>cases j with
   |zero=>exact absurd rfl hij
   |succ j=>simp at g2
  |succ i=>simp at g1
 ·intro b hb;exact hn b (hpb b hb)
theorem Asj{T:TypeId}(he:∀x,(enc x).length=sz){l:List α}{x:α}{z:Value}{xs:List Value}(hp:Jd w R [.o T sz (l.map fun x=>(enc x).map V.v),.c (.v z),.o T sz [(enc x).map V.v]] xs):
  ∃v0 v2,xs=[v0,z,v2]∧w.ownsRow 0 T sz v0 l.length (l.flatMap enc)∧w.ownsRow 0 T sz v2 1 (enc x)∧(∀b,v0.ownBlock=some b→v2.ownBlock≠some b)∧∀b,A5 [.o T sz (l.map fun x=>(enc x).map V.v),.c (.v z),.o T sz [(enc x).map V.v]] xs b→¬R b:=by
 have hl:=hp.len
 match xs,hl with
 |[v0,v1,v2],_=>
  obtain⟨_,x0,h0,h0'⟩:=hp.ok 0 _ _ rfl rfl;have h1:RV w R noG (.v z) v1:=hp.ok 1 _ _ rfl rfl;obtain⟨_,x2,h2,h2'⟩:=hp.ok 2 _ _ rfl rfl;obtain rfl:=Bw h1;rw[ZE]at h0;obtain rfl:=Adu he h0.1 h0';have h2'':Cm w R noG x2 sz ([x].map fun x=>(enc x).map V.v):=h2';have e2:=Adu he (l:=[x]) h2.1 h2'';simp only[List.flatMap_cons,List.flatMap_nil,List.append_nil]at e2;rw[e2]at h2;exact⟨v0,v2,rfl,h0,h2,fun b g1 g2=>hp.apart 0 2 _ _ _ _ _ _ _ _ b (by omega) rfl rfl rfl rfl g1 g2,hp.free⟩
end
theorem Aho{α:Type}(enc:α→List Value)(he:∀x,(enc x).length=5)(h1:∀x,∀v∈enc x,v.oneCell'=true)(cl:Bool)(l:List α)(hl:l.length≤1000):
  Fun Tryz.prog 41 [.c (.sl cl (l.map fun x=>(enc x).map .v))] [.o 24 5 (l.map fun x=>(enc x).map .v)]:=by
 refine⟨Cs Tryz.func41 (by kernel_rfl) (by kernel_rfl),fun w R xs hlt hp=>?_⟩;obtain⟨v,rfl,hv⟩:=Tr hp;obtain⟨A,c,rfl,hA,hx⟩:=S7 he hv;have hone:∀v∈l.flatMap enc,v.oneCell'=true:=fun v hv=>by
  obtain⟨g,_,hg⟩:=List.mem_flatMap.1 hv;exact h1 g v hg
 refine(Aos A l.length c (l.flatMap enc) w hA hl (Kf he l) hx hone).mono ?_
 rintro e w' ⟨A',c',rfl,hown,hb,hd⟩
 exact Kv he h1 (by decide) hlt hown (Hl hb) (fun k hk=>.inr (Ez hown k hk)) (fun k hk=>by have:=Ez hown k hk;intro h;have:=hlt k h;omega)
set_option maxHeartbeats 1000000 in
theorem Afj{α:Type}(enc:α→List Value)(he:∀x,(enc x).length=5)(h1:∀x,∀v∈enc x,v.oneCell'=true)(l:List α)(x:α)(i:Nat)(hi:i≤l.length)(hl:l.length≤1000):
  Fun Tryz.prog 97 [.o 24 5 (l.map fun x=>(enc x).map .v),.c (.v (.int .i64 i)),.o 24 5 [(enc x).map .v]] [.o 24 5 ((l.take i++[x]++l.drop i).map fun x=>(enc x).map .v)]:=by
 refine⟨Cs Tryz.func97 (by kernel_rfl) (by kernel_rfl),fun w R xs hlt hp=>?_⟩;obtain⟨v0,v2,rfl,o0,o2,hap,hf0⟩:=Asj (enc:=enc) he hp;obtain⟨A,c,rfl⟩:=Mr o0;rcases o2.2 with⟨_,h0⟩|⟨g,cap,cur,rfl,_,hh,hcap,_,hsz,htk⟩
 ·omega
 have hone:∀v∈l.flatMap enc,v.oneCell'=true:=fun v hv=>by
  obtain⟨g,_,hg⟩:=List.mem_flatMap.1 hv;exact h1 g v hg
 refine(Ap3 0 A l.length c i (l.flatMap enc) g cap cur (enc x) w o0 (ZU _) hi hl hh (by rw[Nat.one_mul]at htk;exact htk) (fun e=>hap g e rfl) (he x) (h1 x) hone).mono ?_
 rintro e w' ⟨A',c',rfl,hown,hb,hk⟩
 rw[Atd he l x i,show l.length+1=(l.take i++[x]++l.drop i).length by simp;omega]at hown;rw[show l.length+1=(l.take i++[x]++l.drop i).length by simp;omega]at hk ⊢;have hL:∀k,LB A k→A5 [.o 24 5 (l.map fun x=>(enc x).map .v),.c (.v (.int .i64 i)),.o 24 5 [(enc x).map .v]] [.slice A l.length c,.int .i64 i,.slice (some ⟨g,0,none⟩) 1 cap] k:=fun k ⟨a,ha,hq⟩=>⟨0,_,_,_,_,rfl,rfl,by subst ha;simp only[Value.ownBlock];rw[hq]⟩;exact Kv he h1 (by decide) hlt hown (hb.imp hL) (fun k hk'=>(hk k hk').imp (hL k) (fun h=>h)) (fun k hk'=>by
  rcases hk k hk' with h|h
  ·exact hf0 k (hL k h)
  ·intro h';have:=hlt k h';omega)
theorem Apg(c:Bool)(l:List Mb)(hl:l.length≤9223372036854775807)(hw:∀m∈l,m.ok):Fun Tryz.prog 95 [.c (.sl c (l.map Mb.row))] [.c (.v (.int .i64 (Aq Mb.err l)))]:=by
 refine Av De rfl ?_;refine G0 ?_;rw[ZE];(refine⟨[],none,{k:Nat//k≤l.length∧∀j,(h:j<l.length)→j<k→(l[j]).err=0},[6,7],fun⟨k,hk,h0⟩=>[(8,.v (.int .i64 k))],[],fun⟨k,hk,h0⟩=>[],fun⟨k,hk,h0⟩=>l.length-k,trivial,fun _=>⟨trivial,fun _=>⟨⟨0,by omega,fun j _ h=>by omega⟩,tI,An _ _,tI,Am _ _⟩⟩,fun⟨k,hk,h0⟩=>?_⟩);refine G0 ?_;(refine Aa (fun h=>?_) (fun h=>?_)<;>rw[h])
 ·have hlt:k<l.length:=by simpa using h
  refine G0 ?_;refine⟨k,_,rfl,Ao hlt,?_⟩;refine G1 ?_;intro gg;refine .inl (cX (Ajn _ (hw _ (ZK hlt))) ?_);refine G1 ?_;intro gg;(refine Aa (fun h=>?_) (fun h=>?_)<;>rw[h])
  ·refine G0 ?_;rw[Bx hlt h0 (by simpa using h)];(exact⟨[],aI⟩)
  ·refine G0 ?_;(exact⟨none,trivial,fun _=>⟨⟨k+1,by omega,up1 (p:=fun j h=>(l[j]).err=0) h0 (fun _=>by simpa using h)⟩,by show l.length-(k+1)<l.length-k;omega,tI,tI,tI,tI⟩⟩)
 ·have hge:¬k<l.length:=by simpa using h
  refine G0 ?_;rw[Ba (l:=l) (fun i hi=>h0 i hi (by omega))];(exact⟨[],aI⟩)
def Bcl(l:List Mb):List V:=[.sl false (l.map Mb.row)]
theorem Akn(c:Bool)(ls:List (List Mb))(hls:ls.length≤9223372036854775807)(hl:∀l∈ls,l.length≤9223372036854775807)(hw:∀l∈ls,∀m∈l,m.ok):Fun Tryz.prog 38 [.c (.sl c (ls.map Bcl))] [.c (.v (.int .i64 (Aq E5 ls)))]:=by
 refine Av Cw rfl ?_;refine G0 ?_;rw[ZE];(refine⟨[],none,{k:Nat//k≤ls.length∧∀j,(h:j<ls.length)→j<k→E5 (ls[j])=0},[7,8],fun⟨k,hk,h0⟩=>[(9,.v (.int .i64 k))],[],fun⟨k,hk,h0⟩=>[],fun⟨k,hk,h0⟩=>ls.length-k,trivial,fun _=>⟨trivial,fun _=>⟨⟨0,by omega,fun j _ h=>by omega⟩,tI,An _ _,tI,Am _ _⟩⟩,fun⟨k,hk,h0⟩=>?_⟩);refine G0 ?_;(refine Aa (fun h=>?_) (fun h=>?_)<;>rw[h])
 ·have hlt:k<ls.length:=by simpa using h
  refine G0 ?_;refine⟨k,_,rfl,Ao hlt,?_⟩;refine G0 ?_;have HL:=hl _ (ZK hlt);have HW:=hw _ (ZK hlt);have HE:=Bx (e:=E5) hlt h0;have HN:E5 ls[k]=0→∀j,(h:j<ls.length)→j<k+1→E5 (ls[j])=0:=fun e=>up1 (p:=fun j h=>E5 (ls[j])=0) h0 (fun _=>e);generalize ls[k]=l at *;rw[ZE];(refine Aa (fun h1=>?_) (fun h1=>?_)<;>rw[h1])
  ·refine G0 ?_;have e:E5 l=2:=Jf (by have:=ZV h1;omega);rw[HE (by rw[e];decide),e];(exact⟨[],aI⟩)
  ·have h1':¬20<l.length:=(by have:=ZW h1;omega);refine G0 ?_;refine .inl (cX (Apg false l HL HW) ?_);refine G1 ?_;intro gg;(refine Aa (fun h2=>?_) (fun h2=>?_)<;>rw[h2])
   ·have h2':Aq Mb.err l≠0:=by simpa using h2
    refine G0 ?_;have e:E5 l=Aq Mb.err l:=Gv h1' h2';rw[HE (by rw[e];exact h2'),e];(exact⟨[],aI⟩)
   ·have h2':Aq Mb.err l=0:=by simpa using h2
    refine G0 ?_;(refine⟨[],none,{k:Nat//(k<l.length∨k=0)∧∀i,(h:i+1<l.length)→i<k→Mb.lt l[i] l[i+1]=true},[4,7,8,9],fun⟨q,hq,g0⟩=>[(6,.v (.int .i64 ((q:Int)+1)))],[],fun⟨q,hq,g0⟩=>[],fun⟨q,hq,g0⟩=>l.length-q,trivial,fun _=>⟨trivial,fun _=>⟨⟨0,by omega,fun j _ h=>by omega⟩,tI,An _ _,tI,Am _ _⟩⟩,fun⟨q,hq,g0⟩=>?_⟩);refine G0 ?_;rw[ZE];(refine Aa (fun h3=>?_) (fun h3=>?_)<;>rw[h3])
    ·have hlt3:q+1<l.length:=(by have:=ZV h3;omega);refine G0 ?_;refine⟨q+1,_,by omega,Ao hlt3,?_⟩;refine G0 ?_;refine⟨q,_,by omega,Ao (by omega),?_⟩;refine G0 ?_;rw[V4];(refine Aa (fun h4=>?_) (fun h4=>?_)<;>rw[h4])
     ·refine G0 ?_;have e:E5 l=4:=Qa h1' h2' (Et hlt3 (by simpa[Mb.lt]using h4));rw[HE (by rw[e];decide),e];(exact⟨[],aI⟩)
     ·refine G0 ?_;(exact⟨none,trivial,fun _=>⟨⟨q+1,by omega,up2 (p:=fun i h=>Mb.lt l[i] l[i+1]=true) g0 (fun _=>by simpa[Mb.lt]using h4)⟩,by show l.length-(q+1)<l.length-q;omega,tI,tI,tI,tI⟩⟩)
    ·have hge3:¬q+1<l.length:=(by have:=ZW h3;omega);refine G0 ?_;have e:E5 l=0:=Lk h1' h2' (E8 fun i hi=>g0 i hi (by omega));(exact⟨none,trivial,fun _=>⟨⟨k+1,by omega,HN e⟩,by show ls.length-(k+1)<ls.length-k;omega,tI,tI,tI,tI⟩⟩)
 ·have hge:¬k<ls.length:=by simpa using h
  refine G0 ?_;rw[Ba (l:=ls) (fun i hi=>h0 i hi (by omega))];(exact⟨[],aI⟩)
theorem Aa0(l:List Mb)(hl:l.length≤9223372036854775807)(hw:∀m∈l,m.ok):Fun Tryz.prog 153 [.c (.sl false (l.map Mb.row))] [.c (.v (.int .i64 (E5 l)))]:=by
 refine Av E2 rfl ?_;refine G1 ?_;intro gg;(refine .inl ⟨_,_,true,[],aI,Akn false [l] (by simp) (by simpa using hl) (by simpa using hw),(fun _=>fI),nI,?_⟩);rw[Fz];refine G1 ?_;intro gg;(exact⟨[],aI⟩)
theorem Akb(c:Bool)(l:List Mb)(hl:l.length≤9223372036854775807)(hw:∀m∈l,m.ok):Fun Tryz.prog 18 [.c (.sl c (l.map Mb.row))] [.c (.v (.int .i64 (E5 l)))]:=by
 refine Av Km rfl ?_;refine G0 ?_;rw[ZE];(refine Aa (fun h1=>?_) (fun h1=>?_)<;>rw[h1])
 ·refine G0 ?_;have e:E5 l=2:=Jf (by have:=ZV h1;omega);rw[e];(exact⟨[],aI⟩)
 ·have h1':¬20<l.length:=(by have:=ZW h1;omega);refine G0 ?_;(refine⟨[],none,{k:Nat//k≤l.length∧∀j,(h:j<l.length)→j<k→(l[j]).err=0},[0],fun⟨k,hk,h0⟩=>[(3,.v (.int .i64 k))],[],fun⟨k,hk,h0⟩=>[],fun⟨k,hk,h0⟩=>l.length-k,trivial,fun _=>⟨trivial,fun _=>⟨⟨0,by omega,fun j _ h=>by omega⟩,tI,An _ _,tI,Am _ _⟩⟩,fun⟨k,hk,h0⟩=>?_⟩);refine G0 ?_;rw[ZE];(refine Aa (fun h=>?_) (fun h=>?_)<;>rw[h])
  ·have hlt:k<l.length:=(by have:=ZV h;omega);refine G0 ?_;refine⟨k,_,rfl,Ao hlt,?_⟩;refine G0 ?_;refine .inl (cX (Aik _ (hw _ (ZK hlt))) ?_);refine G1 ?_;intro gg;(refine Aa (fun h2=>?_) (fun h2=>?_)<;>rw[h2])
   ·refine G0 ?_;have h2':(l[k]).err≠0:=by simpa using h2
    have e0:=Bx hlt h0 h2';have e:E5 l=(l[k]).err:=(Gv h1' (by rw[e0];exact h2')).trans e0;rw[e];(exact⟨[],aI⟩)
   ·refine G0 ?_;(exact⟨none,trivial,fun _=>⟨⟨k+1,by omega,up1 (p:=fun j h=>(l[j]).err=0) h0 (fun _=>by simpa using h2)⟩,by show l.length-(k+1)<l.length-k;omega,tI,tI,tI,tI⟩⟩)
  ·have hge:¬k<l.length:=(by have:=ZW h;omega);have h2':Aq Mb.err l=0:=Ba fun i hi=>h0 i hi (by omega);refine G0 ?_;(refine⟨[],none,{k:Nat//(k<l.length∨k=0)∧∀i,(h:i+1<l.length)→i<k→Mb.lt l[i] l[i+1]=true},[0],fun⟨q,hq,g0⟩=>[(5,.v (.int .i64 ((q:Int)+1)))],[],fun⟨q,hq,g0⟩=>[],fun⟨q,hq,g0⟩=>l.length-q,trivial,fun _=>⟨trivial,fun _=>⟨⟨0,by omega,fun j _ h=>by omega⟩,tI,An _ _,tI,Am _ _⟩⟩,fun⟨q,hq,g0⟩=>?_⟩);refine G0 ?_;rw[ZE];(refine Aa (fun h3=>?_) (fun h3=>?_)<;>rw[h3])
   ·have hlt3:q+1<l.length:=(by have:=ZV h3;omega);refine G0 ?_;refine⟨q+1,_,by omega,Ao hlt3,?_⟩;refine G0 ?_;refine⟨q,_,by omega,Ao (by omega),?_⟩;refine G0 ?_;rw[V4];(refine Aa (fun h4=>?_) (fun h4=>?_)<;>rw[h4])
    ·refine G0 ?_;have e:E5 l=4:=Qa h1' h2' (Et hlt3 (by simpa[Mb.lt]using h4));rw[e];(exact⟨[],aI⟩)
    ·refine G0 ?_;(exact⟨none,trivial,fun _=>⟨⟨q+1,by omega,up2 (p:=fun i h=>Mb.lt l[i] l[i+1]=true) g0 (fun _=>by simpa[Mb.lt]using h4)⟩,by show l.length-(q+1)<l.length-q;omega,tI,tI,tI,tI⟩⟩)
   ·have hge3:¬q+1<l.length:=(by have:=ZW h3;omega);refine G0 ?_;have e:E5 l=0:=Lk h1' h2' (E8 fun i hi=>g0 i hi (by omega));rw[e];(exact⟨[],aI⟩)
theorem Ani(g:Mb)(name:ByteArray):Fun Tryz.prog 175 [.c (.agg g.row),.c (.v (.string name))] [.c (.v (.int .i64 (Mb.cf name g)))]:=by
 refine Av Ap rfl ?_;refine G1 ?_;intro gg;refine .inl (cX (Ui _ _) ?_);refine G1 ?_;intro gg;(exact⟨[],aI⟩)
theorem Awf(c:Bool)(l:List Mb)(name:ByteArray)(hl:l.length≤1000)(hm:Aee (Mb.cf name) l):Fun Tryz.prog 174 [.c (.sl c (l.map Mb.row)),.c (.v (.string name)),.c (.v (.func (.func 175) #[] #[]))] [.c (.v (.int .i64 (low (Mb.cf name) l))),.c (.v (.bool (hit (Mb.cf name) l)))]:=by
 refine Av Af rfl ?_;refine G0 ?_;rw[ZE];(refine⟨[],none,{p:Nat×Nat//p.1≤p.2∧p.2≤l.length∧(∀k,(h:k<l.length)→k<p.1→Mb.cf name l[k]<0)∧(∀k,(h:k<l.length)→p.2≤k→0≤Mb.cf name l[k])},[0,1,2,8],fun⟨⟨i,j⟩,h1,h2,h3,h4⟩=>[(9,.v (.int .i64 i)),(10,.v (.int .i64 j))],[],fun⟨⟨i,j⟩,h1,h2,h3,h4⟩=>[],fun⟨⟨i,j⟩,h1,h2,h3,h4⟩=>j-i,trivial,fun _=>⟨trivial,fun _=>⟨⟨(0,l.length),by omega,by omega,fun k _ h=>absurd h (by omega),fun k h h'=>absurd h (by omega)⟩,tI,An _ _,tI,Am _ _⟩⟩,fun⟨⟨i,j⟩,h1,h2,h3,h4⟩=>?_⟩);dsimp only at h1 h2 h3 h4;refine G0 ?_;(refine Aa (fun h=>?_) (fun h=>?_)<;>rw[h])
 ·have hlt:i<j:=(by have:=ZV h;omega);have hk:(i+j)/2<l.length:=by omega
  refine G0 ?_;refine⟨(i+j)/2,_,by omega,Ao hk,?_⟩;refine G0 ?_;refine .inl (cX (Ani _ _) ?_);refine G1 ?_;intro gg;(refine Aa (fun h5=>?_) (fun h5=>?_)<;>rw[h5])
  ·have h5':Mb.cf name l[(i+j)/2]<0:=by simpa using h5
   refine G0 ?_;(exact⟨none,trivial,fun _=>⟨⟨((i+j)/2+1,j),by dsimp only;omega,h2,fun k hk' hka=>hm k ((i+j)/2) hk' hk (by dsimp only at hka;omega) h5',h4⟩,by show j-((i+j)/2+1)<j-i;omega,tI,tI,tI,tI⟩⟩)
  ·have h5':¬Mb.cf name l[(i+j)/2]<0:=by simpa using h5
   refine G0 ?_;(exact⟨none,trivial,fun _=>⟨⟨(i,(i+j)/2),by dsimp only;omega,by dsimp only;omega,h3,fun k hk' hka=>Int.not_lt.1 (fun h'=>h5' (hm ((i+j)/2) k hk hk' hka h'))⟩,by show(i+j)/2-i<j-i;omega,tI,tI,tI,tI⟩⟩)
 ·have hij:i=j:=(by have:=ZW h;omega);subst hij;have HE:=Ahy (cf:=Mb.cf name) h2 h3 h4;refine G0 ?_;(refine Aa (fun h5=>?_) (fun h5=>?_)<;>rw[h5])
  ·have hin:i<l.length:=(by have:=ZV h5;omega);have HH:hit (Mb.cf name) l=decide (Mb.cf name l[i]=0):=by
    have hin':low (Mb.cf name) l<l.length:=by rw[←HE];exact hin
    rw[Aer hin'];simp only[←HE]
   refine G0 ?_;refine⟨i,_,rfl,Ao hin,?_⟩;refine G0 ?_;refine .inl (cX (Ani _ _) ?_);refine G1 ?_;intro gg;rw[←HE,HH];(exact⟨[],aI⟩)
  ·have HH:hit (Mb.cf name) l=false:=Afe (by rw[←HE];exact(by have:=ZW h5;omega));refine G0 ?_;rw[←HE,HH];(exact⟨[],aI⟩)
theorem Q4(c:Bool)(l:List Mb)(name:ByteArray)(hl:l.length≤1000)(hm:Aee (Mb.cf name) l):Fun Tryz.prog 89 [.c (.sl c (l.map Mb.row)),.c (.v (.string name))] [.c (.v (.int .i64 (low (Mb.cf name) l))),.c (.v (.bool (hit (Mb.cf name) l)))]:=by
 refine Av Bs rfl ?_;refine G0 ?_;refine .inl (cX (Awf c l name hl hm) ?_);refine G1 ?_;intro gg;(exact⟨[],aI⟩)
theorem Ark(c:Bool)(l:List Mb)(name:ByteArray)(hl:l.length≤9223372036854775807):Fun Tryz.prog 58 [.c (.sl c (l.map Mb.row)),.c (.v (.string name))] [.c (.v (.int .i64 (at_ (Mb.is name) l)))]:=by
 refine Av Og rfl ?_;refine G0 ?_;(refine⟨[],none,{k:Nat//k≤l.length∧∀j,(h:j<l.length)→j<k→Mb.is name l[j]=false},[0,1],fun⟨k,hk,h0⟩=>[(5,.v (.int .i64 k))],[],fun⟨k,hk,h0⟩=>[],fun⟨k,hk,h0⟩=>l.length-k,trivial,fun _=>⟨trivial,fun _=>⟨⟨0,by omega,fun j _ h=>by omega⟩,tI,An _ _,tI,Am _ _⟩⟩,fun⟨k,hk,h0⟩=>?_⟩);refine G0 ?_;rw[ZE];(refine Aa (fun h=>?_) (fun h=>?_)<;>rw[h])
 ·have hlt:k<l.length:=(by have:=ZV h;omega);refine G0 ?_;refine⟨k,_,rfl,Ao hlt,?_⟩;refine G0 ?_;(refine Aa (fun h2=>?_) (fun h2=>?_)<;>rw[h2])
  ·refine G0 ?_;rw[N4 hlt h0 h2];(exact⟨[],aI⟩)
  ·refine G0 ?_;(exact⟨none,trivial,fun _=>⟨⟨k+1,by omega,up1 (p:=fun j h=>Mb.is name l[j]=false) h0 (fun _=>h2)⟩,by show l.length-(k+1)<l.length-k;omega,tI,tI,tI,tI⟩⟩)
 ·have hge:¬k<l.length:=(by have:=ZW h;omega);refine G0 ?_;rw[Ti (p:=Mb.is name) (l:=l) (fun i hi=>h0 i hi (by omega))];(exact⟨[],aI⟩)
theorem Ln(cl:Bool)(l:List Ru)(hl:l.length≤1000):Fun Tryz.prog 47 [.c (.sl cl (l.map Ru.row))] [.o 91 6 (l.map Ru.row)]:=by
 refine Av Gp rfl ?_;(refine goI ?_;repeat (intro gg;refine goI ?_));rename_i b;have hb:=gg;cases b with
 |true=>
  have e:l.map Ru.row=[]:=hb rfl;refine G0 ?_;rw[e];(exact⟨[],aI⟩)
 |false=>
  refine G1 ?_;intro gg;refine⟨Ado,?_⟩;refine G0 ?_;refine⟨lI,lI,?_⟩;refine G1 ?_;intro gg;(exact⟨[80],aI⟩)
theorem Axz(cl:Bool)(l:List Ru)(f:FuncId)(caps:List V)(hcaps:∀u∈caps,Cl u)(p:Ru→Bool)(hl:l.length≤1000)(hf:∀x∈l,Fun Tryz.prog f (.c (.agg (Ru.row x))::caps.map .c) [.c (.v (.bool (p x)))]):
  Fun Tryz.prog 91 [.c (.sl cl (l.map Ru.row)),.c (.clo f caps)] [.c (.v (.int .i64 (at_ p l)))]:=by
 refine Av Aw rfl ?_;refine G0 ?_;rw[ZE];(refine⟨[],none,{k:Nat//k≤l.length∧∀j,(h:j<l.length)→j<k→p l[j]=false},[0,1,7],fun⟨k,hk,h0⟩=>[(8,.v (.int .i64 k))],[],fun⟨k,hk,h0⟩=>[],fun⟨k,hk,h0⟩=>l.length-k,trivial,fun _=>⟨trivial,fun _=>⟨⟨0,by omega,fun j _ h=>by omega⟩,tI,An _ _,tI,Am _ _⟩⟩,fun⟨k,hk,h0⟩=>?_⟩);refine G0 ?_;(refine Aa (fun h=>?_) (fun h=>?_)<;>rw[h])
 ·have hlt:k<l.length:=(by have:=ZV h;omega);refine G0 ?_;refine⟨k,_,rfl,Ao hlt,?_⟩;refine G0 ?_;refine .inl (cX (hf _ (ZK hlt)) ?_);refine G1 ?_;intro gg;(refine Aa (fun h2=>?_) (fun h2=>?_)<;>rw[h2])
  ·refine G0 ?_;rw[N4 hlt h0 h2];(exact⟨[],aI⟩)
  ·refine G0 ?_;(exact⟨none,trivial,fun _=>⟨⟨k+1,by omega,up1 (p:=fun j h=>p l[j]=false) h0 (fun _=>h2)⟩,by show l.length-(k+1)<l.length-k;omega,tI,tI,tI,tI⟩⟩)
 ·have hge:¬k<l.length:=(by have:=ZW h;omega);refine G0 ?_;rw[Ti (p:=p) (l:=l) (fun i hi=>h0 i hi (by omega))];(exact⟨[],aI⟩)
theorem Ag6(cl:Bool)(l:List Ru)(f:FuncId)(p:Ru→Bool)(hl:l.length≤1000)(hf:∀x∈l,Fun Tryz.prog f [.c (.agg (Ru.row x))] [.c (.v (.bool (p x)))]):
  Fun Tryz.prog 91 [.c (.sl cl (l.map Ru.row)),.c (.v (.func (.func f) #[] #[]))] [.c (.v (.int .i64 (at_ p l)))]:=by
 refine Av Aw rfl ?_;refine G0 ?_;rw[ZE];(refine⟨[],none,{k:Nat//k≤l.length∧∀j,(h:j<l.length)→j<k→p l[j]=false},[0,1,7],fun⟨k,hk,h0⟩=>[(8,.v (.int .i64 k))],[],fun⟨k,hk,h0⟩=>[],fun⟨k,hk,h0⟩=>l.length-k,trivial,fun _=>⟨trivial,fun _=>⟨⟨0,by omega,fun j _ h=>by omega⟩,tI,An _ _,tI,Am _ _⟩⟩,fun⟨k,hk,h0⟩=>?_⟩);refine G0 ?_;(refine Aa (fun h=>?_) (fun h=>?_)<;>rw[h])
 ·have hlt:k<l.length:=(by have:=ZV h;omega);refine G0 ?_;refine⟨k,_,rfl,Ao hlt,?_⟩;refine G0 ?_;refine .inl (cX (hf _ (ZK hlt)) ?_);refine G1 ?_;intro gg;(refine Aa (fun h2=>?_) (fun h2=>?_)<;>rw[h2])
  ·refine G0 ?_;rw[N4 hlt h0 h2];(exact⟨[],aI⟩)
  ·refine G0 ?_;(exact⟨none,trivial,fun _=>⟨⟨k+1,by omega,up1 (p:=fun j h=>p l[j]=false) h0 (fun _=>h2)⟩,by show l.length-(k+1)<l.length-k;omega,tI,tI,tI,tI⟩⟩)
 ·have hge:¬k<l.length:=(by have:=ZW h;omega);refine G0 ?_;rw[Ti (p:=p) (l:=l) (fun i hi=>h0 i hi (by omega))];(exact⟨[],aI⟩)
theorem Xu(cl:Bool)(l:List Ru)(f:FuncId)(p:Ru→Bool)(hl:l.length≤1000)(hf:∀x∈l,Fun Tryz.prog f [.c (.agg (Ru.row x))] [.c (.v (.bool (p x)))]):
  Fun Tryz.prog 98 [.c (.sl cl (l.map Ru.row)),.c (.v (.func (.func f) #[] #[]))] [.c (.v (.bool (l.any p)))]:=by
 have hI:=Ag6 cl l f p hl hf;refine Av Bb rfl ?_;refine G0 ?_;refine .inl (cX hI ?_);refine G1 ?_;intro gg;rw[Ag4];(exact⟨[],aI⟩)
theorem Apb(l:List Ru)(i:Nat)(hi:i<l.length)(hl:l.length≤1000):Fun Tryz.prog 94 [.o 91 6 (l.map Ru.row),.c (.v (.int .i64 i)),.c (.v (.int .i64 ((i:Int)+1)))] [.o 91 6 ((l.eraseIdx i).map Ru.row)]:=by
 have hlen:(l.map Ru.row).length=l.length:=by simp
 refine Av Gk rfl ?_;refine G0 ?_;refine⟨2,i,i+1,rfl,⟨_,rfl⟩,⟨_,rfl⟩,by omega,by show i+1≤(l.map Ru.row).length;omega,?_⟩;refine⟨_,l.length,.i64,rfl,rfl,by rw[←hlen];rfl,by omega,by show l.length≤(l.map Ru.row).length;omega,?_⟩;refine G0 ?_;rw[show(((i:Int)==(i:Int)+1)=false)from by simp;omega];refine G0 ?_;refine⟨0,i,rfl,rfl,⟨_,rfl⟩,by omega,by show i≤(l.map Ru.row).length;omega,rfl,?_⟩;refine G0 ?_;refine⟨i+1,(l.map Ru.row).length,rfl,⟨_,rfl⟩,rfl,by show i+1≤(l.map Ru.row).length;omega,by show(l.map Ru.row).length≤(l.map Ru.row).length;omega,rfl,?_⟩;refine G0 ?_;refine⟨by omega,by omega,by show(l.map Ru.row).length≤(l.map Ru.row).length;omega,?_⟩;refine G0 ?_;have e2:((l.map Ru.row).take i++((l.map Ru.row).drop (i+1)).take ((l.map Ru.row).length-(i+1))++(l.map Ru.row).drop (i+((l.map Ru.row).length-(i+1)))).length=l.length:=by
  simp only[ZF,ZM,List.length_drop,hlen];omega
 refine⟨i+((l.map Ru.row).length-(i+1)),(l.map Ru.row).length,rfl,⟨_,rfl⟩,⟨_,rfl⟩,by omega,?_,rfl,by omega,?_⟩
 ·show 0+(l.map Ru.row).length≤((l.map Ru.row).take i++((l.map Ru.row).drop (i+1)).take ((l.map Ru.row).length-(i+1))++(l.map Ru.row).drop (i+((l.map Ru.row).length-(i+1)))).length;rw[Nat.zero_add,hlen];rw[hlen]at e2;exact Nat.le_of_eq e2.symm
 refine G0 ?_;refine⟨by omega,?_,?_⟩
 ·show 0+(l.map Ru.row).length≤((l.map Ru.row).take i++((l.map Ru.row).drop (i+1)).take ((l.map Ru.row).length-(i+1))++(l.map Ru.row).drop (i+((l.map Ru.row).length-(i+1)))).length;rw[Nat.zero_add,hlen];rw[hlen]at e2;exact Nat.le_of_eq e2.symm
 refine G0 ?_;refine⟨[0],Aua rfl rfl rfl rfl rfl ?_ ?_ ?_⟩
 ·refine XI ?_ (Nat.le_of_eq (congrArg List.length (ZS _ _ _)).symm);rw[ZF,ZM];refine XI (m:=i+((l.map Ru.row).length-(i+1))) (by omega) (XI (Nat.le_min.2 ⟨by omega,?_⟩) (Nat.le_add_right _ _));show _≤((l.map Ru.row).take i++((l.map Ru.row).drop (i+1)).take ((l.map Ru.row).length-(i+1))++(l.map Ru.row).drop (i+((l.map Ru.row).length-(i+1)))).length;rw[hlen];rw[hlen]at e2;rw[e2];omega
 ·repeat' (first|exact B6|exact Avp rfl|apply Ba2|apply Avv|apply Awi)
 ·exact Am4 hi
theorem Auw(m:Mb)(hm:m.ok):Fun Tryz.prog 90 [.c (.agg m.row)] [.c (.v (.int .i64 m.err))]:=by
 refine Av G3 rfl ?_;refine G1 ?_;intro gg;refine .inl (cX (Ajn m hm) ?_);refine G1 ?_;intro gg;(exact⟨[],aI⟩)
theorem Aqj(r:Ru):Fun Tryz.prog 99 [.c (.agg r.row)] [.c (.v (.bool r.bad))]:=by
 refine Av Iv rfl ?_;refine G1 ?_;intro gg;(refine Aa (fun h=>?_) (fun h=>?_)<;>rw[h])
 ·have e:r.bad=true:=by have:=ZV h;simp[Ru.bad,wi];omega
  refine G0 ?_;rw[e];(exact⟨[],aI⟩)
 ·have e:r.bad=decide (100<r.t):=by
   have h0:0≤r.t:=by have:=ZW h;omega
   unfold Ru.bad wi;rw[ZX h0,Bool.true_and];by_cases q:100<r.t
   ·rw[ZX q,ZY (by omega)];rfl
   ·rw[ZY q,ZX (by omega)];rfl
  refine G0 ?_;rw[e];(exact⟨[],aI⟩)
theorem Agm(cl:Bool)(l:List Ru)(hl:l.length≤9223372036854775807)(hw:∀r∈l,r.m.ok):Fun Tryz.prog 42 [.c (.sl cl (l.map Ru.row))] [.c (.v (.int .i64 (Fu l)))]:=by
 refine Av Hy rfl ?_;refine G0 ?_;rw[ZE];(refine Aa (fun h=>?_) (fun h=>?_)<;>rw[h])
 ·have h1:20<l.length:=(by have:=ZV h;omega);refine G0 ?_;rw[Ad0 h1];(exact⟨[],aI⟩)
 ·have h1:¬20<l.length:=(by have:=ZW h;omega);refine G1 ?_;intro gg
  rename Nat=>g0
  (refine⟨[],none,{q:Nat×List (ByteArray×V)//q.1≤l.length∧(∀j,(h:j<l.length)→j<q.1→(l[j]).err=0)∧Uo q.2 ((l.take q.1).map Ru.nm)},[0,3,11,12],fun⟨⟨k,E⟩,hk,h0,hE⟩=>[(13,.v (.int .i64 k))],[],fun⟨⟨k,E⟩,hk,h0,hE⟩=>[(160,⟨g0,.q (N6 (ents E)),0,[]⟩)],fun⟨⟨k,E⟩,hk,h0,hE⟩=>l.length-k,trivial,fun _=>⟨trivial,fun _=>⟨⟨(0,[]),ZU _,fun j _ h=>absurd h (Nat.not_lt_zero _),Uo.nil⟩,tI,An _ _,tI,Am _ _⟩⟩,fun⟨⟨k,E⟩,hk,h0,hE⟩=>?_⟩);refine G0 ?_;(refine Aa (fun h2=>?_) (fun h2=>?_)<;>rw[h2])
  ·have hlt:k<l.length:=by have:=ZV h2;simpa using this
   refine G0 ?_;refine⟨k,_,rfl,Ao hlt,?_⟩;refine G1 ?_;intro gg;refine .inl (cX (Auw (l[k]).m (hw _ (ZK hlt))) ?_);refine G1 ?_;intro gg;(refine Aa (fun h3=>?_) (fun h3=>?_)<;>rw[h3])
   ·refine G0 ?_;have e:Fu l=l[k].m.err:=by
     have e1:=Bx (e:=Ru.err) hlt h0 (by simpa[Ru.err]using h3);rw[Ad6 h1 (by rw[e1];simpa[Ru.err]using h3),e1];rfl
    rw[e];(exact⟨[],aI⟩)
   ·refine G0 ?_;refine⟨_,_,rfl,A9 rfl,Di _ _ _,?_⟩;refine G0 ?_;have e:=Uu E l[k].m.n (.v (.bool true));have hE':Uo (put E l[k].m.n (.v (.bool true))) ((l.take (k+1)).map Ru.nm):=by
     rw[XT,ZC hlt,ZI];exact hE.put _ _ (A9 rfl)
    (exact⟨none,trivial,fun gr=>⟨⟨(k+1,put E l[k].m.n (.v (.bool true))),by dsimp only;omega,up1 (p:=fun j h=>(l[j]).err=0) h0 (fun _=>by simpa[Ru.err]using h3),hE'⟩,by show l.length-(k+1)<l.length-k;omega,tI,tI,⟨congrArg (fun x=>some (Ent.mk g0 (.q (N6 x)) 0 [])) e,trivial⟩,tI⟩⟩)
  ·have hge:¬k<l.length:=by have:=ZW h2;simpa using this
   have hz:=Ba (e:=Ru.err) (l:=l) (fun i hi=>h0 i hi (by dsimp only;omega));rw[List.take_of_length_le (by dsimp only;omega)]at hE;have hE:Uo E (l.map Ru.nm):=hE;have hc:=Xu cl l 99 Ru.bad (by omega) (fun x _=>Aqj x);refine G0 ?_;refine .inl (cX hc ?_);refine G1 ?_;intro gg;(refine Aa (fun h3=>?_) (fun h3=>?_)<;>rw[h3])
   ·refine G0 ?_;rw[Air h1 hz h3];(exact⟨[],aI⟩)
   ·refine G0 ?_
    (try refine⟨_,rfl,?_⟩)
    refine G0 ?_;rw[Atn,ZE];have ha:=hE.all;have hle:=hE.le;rw[ZE]at ha hle;(refine Aa (fun h4=>?_) (fun h4=>?_)<;>rw[h4])
    ·have h4':E.length<l.length:=(by have:=ZV h4;omega);refine G0 ?_;rw[Agu h1 hz h3 (fun q=>by have:=ha.2 q;omega)];(exact⟨[],aI⟩)
    ·have h4':¬E.length<l.length:=(by have:=ZW h4;omega);refine G0 ?_;rw[Aff h1 hz h3 (ha.1 (by omega))];(exact⟨[],aI⟩)
theorem Ag5(cl:Bool)(l:List Ru)(hl:l.length≤9223372036854775807)(hw:∀r∈l,r.m.ok):Fun Tryz.prog 64 [.c (.sl cl (l.map Ru.row))] [.c (.v (.int .i64 (Fu l)))]:=by
 refine Av Lh rfl ?_;refine G0 ?_;rw[ZE];(refine Aa (fun h=>?_) (fun h=>?_)<;>rw[h])
 ·have h1:20<l.length:=(by have:=ZV h;omega);refine G0 ?_;rw[Ad0 h1];(exact⟨[],aI⟩)
 ·have h1:¬20<l.length:=(by have:=ZW h;omega);refine G0 ?_;(refine⟨[],none,{k:Nat//k≤l.length∧∀j,(h:j<l.length)→j<k→(l[j]).err=0},[0,5,6,7],fun⟨k,hk,h0⟩=>[(3,.v (.int .i64 k))],[],fun⟨k,hk,h0⟩=>[],fun⟨k,hk,h0⟩=>l.length-k,trivial,fun _=>⟨trivial,fun _=>⟨⟨0,by omega,fun j _ h=>by omega⟩,tI,An _ _,tI,Am _ _⟩⟩,fun⟨k,hk,h0⟩=>?_⟩);refine G0 ?_;(refine Aa (fun h2=>?_) (fun h2=>?_)<;>rw[h2])
  ·have hlt:k<l.length:=by have:=ZV h2;simpa using this
   refine G0 ?_;refine⟨k,_,rfl,Ao hlt,?_⟩;refine G0 ?_;refine .inl (cX (Aik (l[k]).m (hw _ (ZK hlt))) ?_);refine G1 ?_;intro gg;(refine Aa (fun h3=>?_) (fun h3=>?_)<;>rw[h3])
   ·refine G0 ?_;have e:Fu l=l[k].m.err:=by
     have e1:=Bx (e:=Ru.err) hlt h0 (by simpa[Ru.err]using h3);rw[Ad6 h1 (by rw[e1];simpa[Ru.err]using h3),e1];rfl
    rw[e];(exact⟨[],aI⟩)
   ·refine G0 ?_;(exact⟨none,trivial,fun _=>⟨⟨k+1,by omega,up1 (p:=fun j h=>(l[j]).err=0) h0 (fun _=>by simpa[Ru.err]using h3)⟩,by show l.length-(k+1)<l.length-k;omega,tI,tI,tI,tI⟩⟩)
  ·have hge:¬k<l.length:=by have:=ZW h2;simpa using this
   have hz:=Ba (e:=Ru.err) (l:=l) (fun i hi=>h0 i hi (by omega));refine G0 ?_;(refine⟨[],none,{k:Nat//k≤l.length∧∀j,(h:j<l.length)→j<k→(l[j]).bad=false},[0,6,7],fun⟨k,hk,h0⟩=>[(5,.v (.int .i64 k))],[],fun⟨k,hk,h0⟩=>[],fun⟨k,hk,h0⟩=>l.length-k,trivial,fun _=>⟨trivial,fun _=>⟨⟨0,by omega,fun j _ h=>by omega⟩,tI,An _ _,tI,Am _ _⟩⟩,fun⟨k,hk,h0⟩=>?_⟩);refine G0 ?_;(refine Aa (fun h2=>?_) (fun h2=>?_)<;>rw[h2])
   ·have hlt:k<l.length:=by have:=ZV h2;simpa using this
    refine G0 ?_;refine⟨k,_,rfl,Ao hlt,?_⟩;refine G0 ?_;refine .inl (cX (Cf _ _ _) ?_);refine G1 ?_;intro gg;(refine Aa (fun h3=>?_) (fun h3=>?_)<;>rw[h3])
    ·refine G0 ?_;rw[Air h1 hz (List.any_eq_true.2 ⟨_,ZK hlt,h3⟩)];(exact⟨[],aI⟩)
    ·refine G0 ?_;(exact⟨none,trivial,fun _=>⟨⟨k+1,by omega,up1 (p:=fun j h=>(l[j]).bad=false) h0 (fun _=>h3)⟩,by show l.length-(k+1)<l.length-k;omega,tI,tI,tI,tI⟩⟩)
   ·have hge:¬k<l.length:=by have:=ZW h2;simpa using this
    have ha:l.any Ru.bad=false:=by
     rw[List.any_eq_false];intro x hx;obtain⟨i,hi,rfl⟩:=List.getElem_of_mem hx;rw[h0 i hi (by omega)];simp
    refine G0 ?_;(refine⟨[],none,{k:Nat//k≤l.length∧∀i,(h:i<l.length)→i<k→∀j,(g:j<i)→(l[j]).nm≠l[i].nm},[0],fun⟨k,hk,h0⟩=>[(6,.v (.int .i64 k))],[],fun⟨k,hk,h0⟩=>[],fun⟨k,hk,h0⟩=>l.length-k,trivial,fun _=>⟨trivial,fun _=>⟨⟨0,by omega,fun j _ h=>by omega⟩,tI,An _ _,tI,Am _ _⟩⟩,fun⟨k,hk,h0⟩=>?_⟩);refine G0 ?_;(refine Aa (fun h2=>?_) (fun h2=>?_)<;>rw[h2])
    ·have hlt:k<l.length:=by have:=ZV h2;simpa using this
     refine G0 ?_;(refine⟨[],none,{q:Nat//q≤k∧∀j,(h:j<k)→j<q→(l[j]).nm≠l[k].nm},[0,6],fun⟨q,hq,h0'⟩=>[(7,.v (.int .i64 q))],[],fun⟨q,hq,h0'⟩=>[],fun⟨q,hq,h0'⟩=>k-q,trivial,fun _=>⟨trivial,fun _=>⟨⟨0,by omega,fun j _ h=>by omega⟩,tI,An _ _,tI,Am _ _⟩⟩,fun⟨q,hq,h0'⟩=>?_⟩);refine G0 ?_;(refine Aa (fun h3=>?_) (fun h3=>?_)<;>rw[h3])
     ·have hqk:q<k:=by have:=ZV h3;omega
      have hql:q<l.length:=by omega
      refine G0 ?_;refine⟨q,_,rfl,Ao hql,?_⟩;refine G0 ?_;refine⟨k,_,rfl,Ao hlt,?_⟩;refine G0 ?_;(refine Aa (fun h4=>?_) (fun h4=>?_)<;>rw[h4])
      ·have h4':l[q].nm=l[k].nm:=Ru.is_iff.1 h4;refine G0 ?_;rw[Agu h1 hz ha (fun hn=>by have:=Ayn hn hql hlt h4';omega)];(exact⟨[],aI⟩)
      ·have h4':l[q].nm≠l[k].nm:=fun e=>by rw[show(l[q].m.n.toList==l[k].m.n.toList)=true from Ru.is_iff.2 e]at h4;cases h4
       refine G0 ?_;(exact⟨none,trivial,fun _=>⟨⟨q+1,by omega,up1 (p:=fun j h=>(l[j]).nm≠l[k].nm) h0' (fun _=>h4')⟩,by show k-(q+1)<k-q;omega,tI,tI,tI,tI⟩⟩)
     ·have hqk:¬q<k:=by have:=ZW h3;omega
      refine G0 ?_;(exact⟨none,trivial,fun _=>⟨⟨k+1,by omega,up1 (p:=fun i h=>∀j,(g:j<i)→(l[j]).nm≠l[i].nm) h0 (fun _ j g=>h0' j g (by omega))⟩,by show l.length-(k+1)<l.length-k;omega,tI,tI,tI,tI⟩⟩)
    ·have hge:¬k<l.length:=by have:=ZW h2;simpa using this
     refine G0 ?_;rw[Aff h1 hz ha (List.pairwise_iff_getElem.2 fun i j hi hj hij=>by
      simp only[XQ];exact h0 j (by simpa using hj) (by simp at hj;omega) i hij)]
     (exact⟨[],aI⟩)
def Ru.same(g h:Ru):Bool:=(g.m.n.toList==h.m.n.toList)&&((g.m.st==h.m.st)&&((g.m.lf==h.m.lf)&&((g.m.ad==h.m.ad)&&((g.m.sv==h.m.sv)&&((g.t==h.t)&&true)))))
theorem Ba3:(Tryz.prog.info? 77).map (fun i=>(i.zero,i.size,i.bytes))=some (some (.agg #[.string ⟨#[]⟩,.string ⟨#[]⟩,.string ⟨#[]⟩,.string ⟨#[]⟩,.int .i64 0,.int .i64 0,.bool false,.int .i64 0,.bool false]),9,104):=by kernel_rfl
def Bbn(base n:Nat)(xs:List Value)(w:World)(e:Ending)(w':World):Prop:=
 ∃A' c',e=.returned (.slice A' n c')∧w'.ownsRow base 77 9 (.slice A' n c') n xs∧Below base w w'∧w.drawn≤w'.drawn
set_option maxRecDepth 100000 in
theorem Apm(A:Option Addr)(n c:Nat)(xs:List Value)(w:World)(hA:A=none→n=0)(hn:n≤1000)(hxl:xs.length=n*9)(hx:∀ad,A=some ad→∀j u,xs[j]? =some u→w.cell? (ad.add j)=some u)(h1:∀v∈xs,v.oneCell'=true):
  Calls Tryz.prog 117 #[.slice A n c] w (Bbn w.heap.size n xs w):=by
 obtain⟨i0,hi0,hz0,hzs,hzb⟩:=info_parts Ba3;cases A with
 |none=>
  obtain rfl:=hA rfl;obtain rfl:xs=[]:=XR (by simpa using hxl);clear hx hxl hi0 hz0 hzs hzb h1;have hnl:=fun(w:World)=>Lib.run_eql_slice_nil (P:=Tryz.prog) w 53 77 none 0 c 0 0 Tryz.underlying53
  go_enter Tryz.func117,Tryz.ntmps117
  go_wp2
  go_ret
  exact⟨none,0,rfl,World.ownsRow_nil _ _ _ _,Below.refl _ _,ZT _⟩
 |some ad=>
  have HX:=hid (hx ad rfl);have HXL:=hid hxl;have HZ0:=hid hz0;have HZS:=hid hzs;have HZB:=hid hzb;have HI0:=hid hi0;clear hx hxl hA hi0 hz0 hzs hzb;have hnl:=fun(w:World)=>Lib.run_eql_slice_nil (P:=Tryz.prog) w 53 77 (some ad) n c 0 0 Tryz.underlying53
  go_enter Tryz.func117,Tryz.ntmps117
  have hown0:(w.alloc (.cells #[] 77)).ownsRow w.heap.size 77 9 (.slice (some ⟨w.heap.size,0,none⟩) 0 0) 0 []:=
   ⟨by simp,.inr ⟨w.heap.size,0, #[],rfl,ZT _,heap_alloc_new w _,by omega,by simp[maxLen],by simp,by simp⟩⟩
  have HO:=hid hown0;have HX1:=hid (fun j u (hj:xs[j]? =some u)=>(World.cell?_alloc_lt w (.cells #[] 77) (ad.add j) (Yv (HX.out j u hj))).trans (HX.out j u hj));clear hown0
  go_wp2_with (at_builtin;refine I4 _ rfl _ _ 53 rfl w.heap.size 77 i0 _ 9 104 Tryz.underlying53 HI0.out HZ0.out HZS.out HZB.out rfl (by decide) _ _ _ rfl HO.out ad n c xs rfl HXL.out HX1.out h1 (by simp only[maxLen];omega) (by omega) (by simp) ?_;intro v1 w1 hown1 hg1 hd1 hat1)
  go_ret
  rw[Nat.zero_add,List.nil_append]at hown1;obtain⟨A',c',rfl⟩:=Mr hown1;exact⟨A',c',rfl,hown1,((Below.refl _ _).alloc (ZT _) _).grown hg1 (by simp) (Ez HO.out),hd1⟩
theorem Ajd{α:Type}(enc:α→List Value)(he:∀x,(enc x).length=9)(h1:∀x,∀v∈enc x,v.oneCell'=true)(cl:Bool)(l:List α)(hl:l.length≤1000):
  Fun Tryz.prog 117 [.c (.sl cl (l.map fun x=>(enc x).map .v))] [.o 77 9 (l.map fun x=>(enc x).map .v)]:=by
 refine⟨Cs Tryz.func117 (by kernel_rfl) (by kernel_rfl),fun w R xs hlt hp=>?_⟩;obtain⟨v,rfl,hv⟩:=Tr hp;obtain⟨A,c,rfl,hA,hx⟩:=S7 he hv;have hone:∀v∈l.flatMap enc,v.oneCell'=true:=fun v hv=>by
  obtain⟨g,_,hg⟩:=List.mem_flatMap.1 hv;exact h1 g v hg
 refine(Apm A l.length c (l.flatMap enc) w hA hl (Kf he l) hx hone).mono ?_
 rintro e w' ⟨A',c',rfl,hown,hb,hd⟩
 exact Kv he h1 (by decide) hlt hown (Hl hb) (fun k hk=>.inr (Ez hown k hk)) (fun k hk=>by have:=Ez hown k hk;intro h;have:=hlt k h;omega)
theorem P4(n a b:Int):Fun Tryz.prog 216 [.c (.v (.int .i64 n)),.c (.v (.int .i64 a)),.c (.v (.int .i64 b))] [.c (.v (.bool (wi n a b)))]:=by
 refine Av Tp rfl ?_;refine G0 ?_;(refine Aa (fun h=>?_) (fun h=>?_)<;>rw[h])
 ·refine G0 ?_;rw[Atz h];(exact⟨[],aI⟩)
 ·refine G0 ?_;rw[Au0 h];(exact⟨[],aI⟩)
theorem Wd(s:ByteArray)(hs:s.size≤9223372036854775807):Fun Tryz.prog 215 [.c (.v (.string s))] [.c (.v (.bool (Vc s)))]:=by
 refine Av Ve rfl ?_;refine G0 ?_;(refine Aa (fun h=>?_) (fun h=>?_)<;>rw[h])
 ·refine G0 ?_;rw[show Vc s=true by unfold Vc;rw[show emp s=true from h];rfl];(exact⟨[],aI⟩)
 ·refine G0 ?_;refine .inl (cX (Bu _ hs) ?_);refine G1 ?_;intro gg;rw[show Vc s=lab s.data.toList by unfold Vc;rw[show emp s=false from h];rfl];(exact⟨[],aI⟩)
theorem As1(m:Sv)(hm:m.ok):Fun Tryz.prog 160 [.c (.agg m.row)] [.c (.v (.int .i64 m.err))]:=by
 obtain⟨o1,o2,o3,o4⟩:=hm;refine Av Z6 rfl ?_;refine G1 ?_;intro gg;refine .inl (cX (Bu _ o1) ?_);refine G1 ?_;intro gg;(refine Aa (fun h1=>?_) (fun h1=>?_)<;>rw[h1])
 ·refine G0 ?_
  (rw[show m.err=1 from by(first|(simp_all;done)|(unfold Sv.err;simp_all))];(exact⟨[],aI⟩))
 ·refine G0 ?_;refine .inl (cX (Bu _ o2) ?_);refine G1 ?_;intro gg;(refine Aa (fun h2=>?_) (fun h2=>?_)<;>rw[h2])
  ·refine G0 ?_
   (rw[show m.err=1 from by(first|(simp_all;done)|(unfold Sv.err;simp_all))];(exact⟨[],aI⟩))
  ·refine G0 ?_;refine .inl (cX (Bu _ o3) ?_);refine G1 ?_;intro gg;(refine Aa (fun h3=>?_) (fun h3=>?_)<;>rw[h3])
   ·refine G0 ?_
    (rw[show m.err=1 from by(first|(simp_all;done)|(unfold Sv.err;simp_all))];(exact⟨[],aI⟩))
   ·refine G0 ?_;refine .inl (cX (Wd _ o4) ?_);refine G1 ?_;intro gg;(refine Aa (fun h4=>?_) (fun h4=>?_)<;>rw[h4])
    ·refine G0 ?_
     (rw[show m.err=1 from by(first|(simp_all;done)|(unfold Sv.err;simp_all))];(exact⟨[],aI⟩))
    ·refine G0 ?_;refine .inl (cX (P4 _ _ _) ?_);refine G1 ?_;intro gg;(refine Aa (fun h5=>?_) (fun h5=>?_)<;>rw[h5])
     ·refine G0 ?_
      (rw[show m.err=3 from by(first|(simp_all;done)|(unfold Sv.err;simp_all))];(exact⟨[],aI⟩))
     ·refine G0 ?_;refine .inl (cX (P4 _ _ _) ?_);refine G1 ?_;intro gg;(refine Aa (fun h6=>?_) (fun h6=>?_)<;>rw[h6])
      ·refine G0 ?_
       (rw[show m.err=3 from by(first|(simp_all;done)|(unfold Sv.err;simp_all))];(exact⟨[],aI⟩))
      ·refine G0 ?_;refine .inl (cX (P4 _ _ _) ?_);refine G1 ?_;intro gg;(refine Aa (fun h7=>?_) (fun h7=>?_)<;>rw[h7])
       ·refine G0 ?_
        (rw[show m.err=3 from by(first|(simp_all;done)|(unfold Sv.err;simp_all))];(exact⟨[],aI⟩))
       ·refine G0 ?_
        (rw[show m.err=0 from by(first|(simp_all;done)|(unfold Sv.err;simp_all))];(exact⟨[],aI⟩))
theorem Apf(m:Sv)(hm:m.ok):Fun Tryz.prog 124 [.c (.agg m.row)] [.c (.v (.int .i64 m.err))]:=by
 obtain⟨o1,o2,o3,o4⟩:=hm;refine Av L7 rfl ?_;refine G1 ?_;intro gg;refine .inl (cX (Es _ o1) ?_);refine G1 ?_;intro gg;(refine Aa (fun h1=>?_) (fun h1=>?_)<;>rw[h1])
 ·refine G0 ?_
  (rw[show m.err=1 from by(first|(simp_all;done)|(unfold Sv.err;simp_all))];(exact⟨[],aI⟩))
 ·refine G0 ?_;refine .inl (cX (Es _ o2) ?_);refine G1 ?_;intro gg;(refine Aa (fun h2=>?_) (fun h2=>?_)<;>rw[h2])
  ·refine G0 ?_
   (rw[show m.err=1 from by(first|(simp_all;done)|(unfold Sv.err;simp_all))];(exact⟨[],aI⟩))
  ·refine G0 ?_;refine .inl (cX (Es _ o3) ?_);refine G1 ?_;intro gg;(refine Aa (fun h3=>?_) (fun h3=>?_)<;>rw[h3])
   ·refine G0 ?_
    (rw[show m.err=1 from by(first|(simp_all;done)|(unfold Sv.err;simp_all))];(exact⟨[],aI⟩))
   ·refine G0 ?_;(refine Aa (fun h4=>?_) (fun h4=>?_)<;>rw[h4])
    ·have hmb:Vc m.tg=lab m.tg.data.toList:=by unfold Vc;rw[show emp m.tg=false from Dr h4];rfl
     refine G0 ?_;refine .inl (cX (Es _ o4) ?_);refine G1 ?_;intro gg;(refine Aa (fun h5=>?_) (fun h5=>?_)<;>rw[h5])
     ·refine G0 ?_
      (rw[show m.err=1 from by(first|(simp_all;done)|(unfold Sv.err;simp_all))];(exact⟨[],aI⟩))
     ·refine G0 ?_;refine .inl (cX (Lo _) ?_);refine G1 ?_;intro gg;(refine Aa (fun h6=>?_) (fun h6=>?_)<;>rw[h6])
      ·refine G0 ?_
       (rw[show m.err=3 from by(first|(simp_all;done)|(unfold Sv.err;simp_all))];(exact⟨[],aI⟩))
      ·refine G0 ?_;refine .inl (cX (Cf _ _ _) ?_);refine G1 ?_;intro gg;(refine Aa (fun h7=>?_) (fun h7=>?_)<;>rw[h7])
       ·refine G0 ?_
        (rw[show m.err=3 from by(first|(simp_all;done)|(unfold Sv.err;simp_all))];(exact⟨[],aI⟩))
       ·refine G0 ?_;refine .inl (cX (Cf _ _ _) ?_);refine G1 ?_;intro gg;(refine Aa (fun h8=>?_) (fun h8=>?_)<;>rw[h8])
        ·refine G0 ?_
         (rw[show m.err=3 from by(first|(simp_all;done)|(unfold Sv.err;simp_all))];(exact⟨[],aI⟩))
        ·refine G0 ?_
         (rw[show m.err=0 from by(first|(simp_all;done)|(unfold Sv.err;simp_all))];(exact⟨[],aI⟩))
    ·have hmb:Vc m.tg=true:=by unfold Vc;rw[show emp m.tg=true from Ci h4];rfl
     refine G0 ?_;refine .inl (cX (Lo _) ?_);refine G1 ?_;intro gg;(refine Aa (fun h6=>?_) (fun h6=>?_)<;>rw[h6])
     ·refine G0 ?_
      (rw[show m.err=3 from by(first|(simp_all;done)|(unfold Sv.err;simp_all))];(exact⟨[],aI⟩))
     ·refine G0 ?_;refine .inl (cX (Cf _ _ _) ?_);refine G1 ?_;intro gg;(refine Aa (fun h7=>?_) (fun h7=>?_)<;>rw[h7])
      ·refine G0 ?_
       (rw[show m.err=3 from by(first|(simp_all;done)|(unfold Sv.err;simp_all))];(exact⟨[],aI⟩))
      ·refine G0 ?_;refine .inl (cX (Cf _ _ _) ?_);refine G1 ?_;intro gg;(refine Aa (fun h8=>?_) (fun h8=>?_)<;>rw[h8])
       ·refine G0 ?_
        (rw[show m.err=3 from by(first|(simp_all;done)|(unfold Sv.err;simp_all))];(exact⟨[],aI⟩))
       ·refine G0 ?_
        (rw[show m.err=0 from by(first|(simp_all;done)|(unfold Sv.err;simp_all))];(exact⟨[],aI⟩))
theorem Apc(g x:Sv):Fun Tryz.prog 214 [.c (.agg g.row),.c (.agg x.row)] [.c (.v (.int .i64 (Sv.cf x.nd x.id g)))]:=by
 refine Av U8 rfl ?_;(refine goI ?_;repeat (intro gg;refine goI ?_));(refine⟨_,_,false,aI,Ui _ _,Ae,nI,?_⟩);refine G1 ?_;intro gg;refine .inl (cX (Ui _ _) ?_);(refine goI ?_;repeat (intro gg;refine goI ?_));(refine .inl ⟨_,_,true,[],aI,Art false [Dg g.nd x.nd,Dg g.id x.id] (by simp),(fun _=>fI),nI,?_⟩);refine G1 ?_;intro gg;(exact⟨[],aI⟩)
theorem Api(g x:Sv):Fun Tryz.prog 125 [.c (.agg g.row),.c (.agg x.row)] [.c (.v (.bool (Sv.lt g x)))]:=by
 refine Av Rd rfl ?_;(refine goI ?_;repeat (intro gg;refine goI ?_));(refine Aa (fun h1=>?_) (fun h1=>?_)<;>rw[h1])
 ·refine G0 ?_;rw[Sv.ahead1 h1];(exact⟨[],aI⟩)
 ·refine G0 ?_;(refine Aa (fun h2=>?_) (fun h2=>?_)<;>rw[h2])
  ·refine G0 ?_;rw[Sv.ahead2 h1 h2];(exact⟨[],aI⟩)
  ·refine G0 ?_;rw[Sv.ahead3 h1 h2];(exact⟨[],aI⟩)
def Ba5(l:List Sv):List V:=[.sl false (l.map Sv.row)]
theorem Sn(c:Bool)(ls:List (List Sv))(hls:ls.length≤9223372036854775807)(hl:∀l∈ls,l.length≤9223372036854775807)(hw:∀l∈ls,∀m∈l,m.ok):Fun Tryz.prog 159 [.c (.sl c (ls.map Ba5))] [.c (.v (.int .i64 (Aq D3 ls)))]:=by
 refine Av Im rfl ?_;refine G0 ?_;rw[ZE];(refine⟨[],none,{k:Nat//k≤ls.length∧∀j,(h:j<ls.length)→j<k→D3 (ls[j])=0},[9,10],fun⟨k,hk,h0⟩=>[(11,.v (.int .i64 k))],[],fun⟨k,hk,h0⟩=>[],fun⟨k,hk,h0⟩=>ls.length-k,trivial,fun _=>⟨trivial,fun _=>⟨⟨0,by omega,fun j _ h=>by omega⟩,tI,An _ _,tI,Am _ _⟩⟩,fun⟨k,hk,h0⟩=>?_⟩);refine G0 ?_;(refine Aa (fun h=>?_) (fun h=>?_)<;>rw[h])
 ·have hlt:k<ls.length:=by simpa using h
  refine G0 ?_;refine⟨k,_,rfl,Ao hlt,?_⟩;refine G0 ?_;have HL:=hl _ (ZK hlt);have HW:=hw _ (ZK hlt);have HE:=Bx (e:=D3) hlt h0;have HN:D3 ls[k]=0→∀j,(h:j<ls.length)→j<k+1→D3 (ls[j])=0:=fun e=>up1 (p:=fun j h=>D3 (ls[j])=0) h0 (fun _=>e);generalize ls[k]=l at *;rw[ZE];(refine Aa (fun h1=>?_) (fun h1=>?_)<;>rw[h1])
  ·refine G0 ?_;have e:D3 l=2:=Jf (by have:=ZV h1;omega);rw[HE (by rw[e];decide),e];(exact⟨[],aI⟩)
  ·have h1':¬40<l.length:=(by have:=ZW h1;omega);refine G0 ?_;rw[ZE];(refine⟨[],none,{q:Nat//q≤l.length∧∀j,(h:j<l.length)→j<q→(l[j]).err=0},[4,9,10,11,18,19],fun⟨q,hq,g0⟩=>[(20,.v (.int .i64 q))],[],fun⟨q,hq,g0⟩=>[],fun⟨q,hq,g0⟩=>l.length-q,trivial,fun _=>⟨trivial,fun _=>⟨⟨0,by omega,fun j _ h=>by omega⟩,tI,An _ _,tI,Am _ _⟩⟩,fun⟨q,hq,g0⟩=>?_⟩);refine G0 ?_;(refine Aa (fun h2=>?_) (fun h2=>?_)<;>rw[h2])
   ·have hlt2:q<l.length:=(by have:=ZV h2;omega);refine G0 ?_;refine⟨q,_,rfl,Ao hlt2,?_⟩;refine G1 ?_;intro gg;refine .inl (cX (As1 _ (HW _ (ZK hlt2))) ?_);refine G1 ?_;intro gg;(refine Aa (fun h3=>?_) (fun h3=>?_)<;>rw[h3])
    ·have h3':(l[q]).err≠0:=by simpa using h3
     have e0:=Bx hlt2 g0 h3';refine G0 ?_;have e:D3 l=(l[q]).err:=(Gv h1' (by rw[e0];exact h3')).trans e0;rw[HE (by rw[e];exact h3'),e];(exact⟨[],aI⟩)
    ·refine G0 ?_;(exact⟨none,trivial,fun _=>⟨⟨q+1,by omega,up1 (p:=fun j h=>(l[j]).err=0) g0 (fun _=>by simpa using h3)⟩,by show l.length-(q+1)<l.length-q;omega,tI,tI,tI,tI⟩⟩)
   ·have hge2:¬q<l.length:=(by have:=ZW h2;omega);have h2':Aq Sv.err l=0:=Ba fun i hi=>g0 i hi (by omega);refine G0 ?_;(refine⟨[],none,{k:Nat//(k<l.length∨k=0)∧∀i,(h:i+1<l.length)→i<k→Sv.lt l[i] l[i+1]=true},[4,9,10,11],fun⟨q,hq,g0⟩=>[(8,.v (.int .i64 ((q:Int)+1)))],[],fun⟨q,hq,g0⟩=>[],fun⟨q,hq,g0⟩=>l.length-q,trivial,fun _=>⟨trivial,fun _=>⟨⟨0,by omega,fun j _ h=>by omega⟩,tI,An _ _,tI,Am _ _⟩⟩,fun⟨q,hq,g0⟩=>?_⟩);refine G0 ?_;rw[ZE];(refine Aa (fun h3=>?_) (fun h3=>?_)<;>rw[h3])
    ·have hlt3:q+1<l.length:=(by have:=ZV h3;omega);refine G0 ?_;refine⟨q,_,by omega,Ao (by omega),?_⟩;refine G0 ?_;refine⟨q+1,_,by omega,Ao hlt3,?_⟩;refine G0 ?_;refine .inl (cX (Apc _ _) ?_);refine G1 ?_;intro gg;(refine Aa (fun h4=>?_) (fun h4=>?_)<;>rw[h4])
     ·refine G0 ?_;have e:D3 l=4:=Qa h1' h2' (Et hlt3 (ZY (by have:=ZV h4;show¬Sv.cf l[q+1].nd l[q+1].id l[q]<0;omega)));rw[HE (by rw[e];decide),e];(exact⟨[],aI⟩)
     ·refine G0 ?_;(exact⟨none,trivial,fun _=>⟨⟨q+1,by omega,up2 (p:=fun i h=>Sv.lt l[i] l[i+1]=true) g0 (fun _=>ZX (by have:=ZW h4;show Sv.cf l[q+1].nd l[q+1].id l[q]<0;omega))⟩,by show l.length-(q+1)<l.length-q;omega,tI,tI,tI,tI⟩⟩)
    ·have hge3:¬q+1<l.length:=(by have:=ZW h3;omega);refine G0 ?_;have e:D3 l=0:=Lk h1' h2' (E8 fun i hi=>g0 i hi (by omega));(exact⟨none,trivial,fun _=>⟨⟨k+1,by omega,HN e⟩,by show ls.length-(k+1)<ls.length-k;omega,tI,tI,tI,tI⟩⟩)
 ·have hge:¬k<ls.length:=by simpa using h
  refine G0 ?_;rw[Ba (l:=ls) (fun i hi=>h0 i hi (by omega))];(exact⟨[],aI⟩)
theorem Aa8(l:List Sv)(hl:l.length≤9223372036854775807)(hw:∀m∈l,m.ok):Fun Tryz.prog 154 [.c (.sl false (l.map Sv.row))] [.c (.v (.int .i64 (D3 l)))]:=by
 refine Av Mv rfl ?_;refine G1 ?_;intro gg;(refine .inl ⟨_,_,true,[],aI,Sn false [l] (by simp) (by simpa using hl) (by simpa using hw),(fun _=>fI),nI,?_⟩);rw[Fz];refine G1 ?_;intro gg;(exact⟨[],aI⟩)
theorem Agz(c:Bool)(l:List Sv)(hl:l.length≤9223372036854775807)(hw:∀m∈l,m.ok):Fun Tryz.prog 65 [.c (.sl c (l.map Sv.row))] [.c (.v (.int .i64 (D3 l)))]:=by
 refine Av La rfl ?_;refine G0 ?_;rw[ZE];(refine Aa (fun h1=>?_) (fun h1=>?_)<;>rw[h1])
 ·refine G0 ?_;have e:D3 l=2:=Jf (by have:=ZV h1;omega);rw[e];(exact⟨[],aI⟩)
 ·have h1':¬40<l.length:=(by have:=ZW h1;omega);refine G0 ?_;(refine⟨[],none,{k:Nat//k≤l.length∧∀j,(h:j<l.length)→j<k→(l[j]).err=0},[0],fun⟨k,hk,h0⟩=>[(3,.v (.int .i64 k))],[],fun⟨k,hk,h0⟩=>[],fun⟨k,hk,h0⟩=>l.length-k,trivial,fun _=>⟨trivial,fun _=>⟨⟨0,by omega,fun j _ h=>by omega⟩,tI,An _ _,tI,Am _ _⟩⟩,fun⟨k,hk,h0⟩=>?_⟩);refine G0 ?_;rw[ZE];(refine Aa (fun h=>?_) (fun h=>?_)<;>rw[h])
  ·have hlt:k<l.length:=(by have:=ZV h;omega);refine G0 ?_;refine⟨k,_,rfl,Ao hlt,?_⟩;refine G0 ?_;refine .inl (cX (Apf _ (hw _ (ZK hlt))) ?_);refine G1 ?_;intro gg;(refine Aa (fun h2=>?_) (fun h2=>?_)<;>rw[h2])
   ·refine G0 ?_;have h2':(l[k]).err≠0:=by simpa using h2
    have e0:=Bx hlt h0 h2';have e:D3 l=(l[k]).err:=(Gv h1' (by rw[e0];exact h2')).trans e0;rw[e];(exact⟨[],aI⟩)
   ·refine G0 ?_;(exact⟨none,trivial,fun _=>⟨⟨k+1,by omega,up1 (p:=fun j h=>(l[j]).err=0) h0 (fun _=>by simpa using h2)⟩,by show l.length-(k+1)<l.length-k;omega,tI,tI,tI,tI⟩⟩)
  ·have hge:¬k<l.length:=(by have:=ZW h;omega);have h2':Aq Sv.err l=0:=Ba fun i hi=>h0 i hi (by omega);refine G0 ?_;(refine⟨[],none,{k:Nat//(k<l.length∨k=0)∧∀i,(h:i+1<l.length)→i<k→Sv.lt l[i] l[i+1]=true},[0],fun⟨q,hq,g0⟩=>[(5,.v (.int .i64 ((q:Int)+1)))],[],fun⟨q,hq,g0⟩=>[],fun⟨q,hq,g0⟩=>l.length-q,trivial,fun _=>⟨trivial,fun _=>⟨⟨0,by omega,fun j _ h=>by omega⟩,tI,An _ _,tI,Am _ _⟩⟩,fun⟨q,hq,g0⟩=>?_⟩);refine G0 ?_;rw[ZE];(refine Aa (fun h3=>?_) (fun h3=>?_)<;>rw[h3])
   ·have hlt3:q+1<l.length:=(by have:=ZV h3;omega);refine G0 ?_;refine⟨q,_,by omega,Ao (by omega),?_⟩;refine G0 ?_;refine⟨q+1,_,by omega,Ao hlt3,?_⟩;refine G0 ?_;refine .inl (cX (Api _ _) ?_);refine G1 ?_;intro gg;(refine Aa (fun h4=>?_) (fun h4=>?_)<;>rw[h4])
    ·refine G0 ?_;have e:D3 l=4:=Qa h1' h2' (Et hlt3 (Dr h4));rw[e];(exact⟨[],aI⟩)
    ·refine G0 ?_;(exact⟨none,trivial,fun _=>⟨⟨q+1,by omega,up2 (p:=fun i h=>Sv.lt l[i] l[i+1]=true) g0 (fun _=>Ci h4)⟩,by show l.length-(q+1)<l.length-q;omega,tI,tI,tI,tI⟩⟩)
   ·have hge3:¬q+1<l.length:=(by have:=ZW h3;omega);refine G0 ?_;have e:D3 l=0:=Lk h1' h2' (E8 fun i hi=>g0 i hi (by omega));rw[e];(exact⟨[],aI⟩)
theorem Aye:(Tryz.prog.info? 74).map (fun i=>(i.zero,i.size,i.bytes))=some (some (.agg #[.string ⟨#[]⟩,.int .i64 0,.int .i64 0]),3,32):=by kernel_rfl
def Bbz(base n:Nat)(xs:List Value)(w:World)(e:Ending)(w':World):Prop:=
 ∃A' c',e=.returned (.slice A' n c')∧w'.ownsRow base 74 3 (.slice A' n c') n xs∧Below base w w'∧w.drawn≤w'.drawn
set_option maxRecDepth 100000 in
theorem Aon(A:Option Addr)(n c:Nat)(xs:List Value)(w:World)(hA:A=none→n=0)(hn:n≤1000)(hxl:xs.length=n*3)(hx:∀ad,A=some ad→∀j u,xs[j]? =some u→w.cell? (ad.add j)=some u)(h1:∀v∈xs,v.oneCell'=true):
  Calls Tryz.prog 118 #[.slice A n c] w (Bbz w.heap.size n xs w):=by
 obtain⟨i0,hi0,hz0,hzs,hzb⟩:=info_parts Aye;cases A with
 |none=>
  obtain rfl:=hA rfl;obtain rfl:xs=[]:=XR (by simpa using hxl);clear hx hxl hi0 hz0 hzs hzb h1;have hnl:=fun(w:World)=>Lib.run_eql_slice_nil (P:=Tryz.prog) w 54 74 none 0 c 0 0 Tryz.underlying54
  go_enter Tryz.func118,Tryz.ntmps118
  go_wp2
  go_ret
  exact⟨none,0,rfl,World.ownsRow_nil _ _ _ _,Below.refl _ _,ZT _⟩
 |some ad=>
  have HX:=hid (hx ad rfl);have HXL:=hid hxl;have HZ0:=hid hz0;have HZS:=hid hzs;have HZB:=hid hzb;have HI0:=hid hi0;clear hx hxl hA hi0 hz0 hzs hzb;have hnl:=fun(w:World)=>Lib.run_eql_slice_nil (P:=Tryz.prog) w 54 74 (some ad) n c 0 0 Tryz.underlying54
  go_enter Tryz.func118,Tryz.ntmps118
  have hown0:(w.alloc (.cells #[] 74)).ownsRow w.heap.size 74 3 (.slice (some ⟨w.heap.size,0,none⟩) 0 0) 0 []:=
   ⟨by simp,.inr ⟨w.heap.size,0, #[],rfl,ZT _,heap_alloc_new w _,by omega,by simp[maxLen],by simp,by simp⟩⟩
  have HO:=hid hown0;have HX1:=hid (fun j u (hj:xs[j]? =some u)=>(World.cell?_alloc_lt w (.cells #[] 74) (ad.add j) (Yv (HX.out j u hj))).trans (HX.out j u hj));clear hown0
  go_wp2_with (at_builtin;refine I4 _ rfl _ _ 54 rfl w.heap.size 74 i0 _ 3 32 Tryz.underlying54 HI0.out HZ0.out HZS.out HZB.out rfl (by decide) _ _ _ rfl HO.out ad n c xs rfl HXL.out HX1.out h1 (by simp only[maxLen];omega) (by omega) (by simp) ?_;intro v1 w1 hown1 hg1 hd1 hat1)
  go_ret
  rw[Nat.zero_add,List.nil_append]at hown1;obtain⟨A',c',rfl⟩:=Mr hown1;exact⟨A',c',rfl,hown1,((Below.refl _ _).alloc (ZT _) _).grown hg1 (by simp) (Ez HO.out),hd1⟩
theorem Ahv{α:Type}(enc:α→List Value)(he:∀x,(enc x).length=3)(h1:∀x,∀v∈enc x,v.oneCell'=true)(cl:Bool)(l:List α)(hl:l.length≤1000):
  Fun Tryz.prog 118 [.c (.sl cl (l.map fun x=>(enc x).map .v))] [.o 74 3 (l.map fun x=>(enc x).map .v)]:=by
 refine⟨Cs Tryz.func118 (by kernel_rfl) (by kernel_rfl),fun w R xs hlt hp=>?_⟩;obtain⟨v,rfl,hv⟩:=Tr hp;obtain⟨A,c,rfl,hA,hx⟩:=S7 he hv;have hone:∀v∈l.flatMap enc,v.oneCell'=true:=fun v hv=>by
  obtain⟨g,_,hg⟩:=List.mem_flatMap.1 hv;exact h1 g v hg
 refine(Aon A l.length c (l.flatMap enc) w hA hl (Kf he l) hx hone).mono ?_
 rintro e w' ⟨A',c',rfl,hown,hb,hd⟩
 exact Kv he h1 (by decide) hlt hown (Hl hb) (fun k hk=>.inr (Ez hown k hk)) (fun k hk=>by have:=Ez hown k hk;intro h;have:=hlt k h;omega)
theorem Xd(n a b:Int):Fun Tryz.prog 254 [.c (.v (.int .i64 n)),.c (.v (.int .i64 a)),.c (.v (.int .i64 b))] [.c (.v (.bool (wi n a b)))]:=by
 refine Av Wx rfl ?_;refine G0 ?_;(refine Aa (fun h=>?_) (fun h=>?_)<;>rw[h])
 ·refine G0 ?_;rw[Atz h];(exact⟨[],aI⟩)
 ·refine G0 ?_;rw[Au0 h];(exact⟨[],aI⟩)
theorem At3(m:Gw)(hm:m.ok):Fun Tryz.prog 221 [.c (.agg m.row)] [.c (.v (.int .i64 m.err))]:=by
 refine Av Acm rfl ?_;refine G1 ?_;intro gg;refine .inl (cX (Bu _ hm) ?_);refine G1 ?_;intro gg;(refine Aa (fun h1=>?_) (fun h1=>?_)<;>rw[h1])
 ·refine G0 ?_
  (rw[show m.err=1 from by(first|(simp_all;done)|(unfold Gw.err;simp_all))];(exact⟨[],aI⟩))
 ·refine G0 ?_;refine .inl (cX (Xd _ _ _) ?_);refine G1 ?_;intro gg;(refine Aa (fun h3=>?_) (fun h3=>?_)<;>rw[h3])
  ·refine G0 ?_
   (rw[show m.err=3 from by(first|(simp_all;done)|(unfold Gw.err;simp_all))];(exact⟨[],aI⟩))
  ·refine G0 ?_;refine .inl (cX (Xd _ _ _) ?_);refine G1 ?_;intro gg;(refine Aa (fun h4=>?_) (fun h4=>?_)<;>rw[h4])
   ·refine G0 ?_
    (rw[show m.err=3 from by(first|(simp_all;done)|(unfold Gw.err;simp_all))];(exact⟨[],aI⟩))
   ·refine G0 ?_
    (rw[show m.err=0 from by(first|(simp_all;done)|(unfold Gw.err;simp_all))];(exact⟨[],aI⟩))
def Ban(l:List Gw):List V:=[.sl false (l.map Gw.row)]
theorem Aae(c:Bool)(ls:List (List Gw))(hls:ls.length≤9223372036854775807)(hl:∀l∈ls,l.length≤9223372036854775807)(hw:∀l∈ls,∀m∈l,m.ok):Fun Tryz.prog 167 [.c (.sl c (ls.map Ban))] [.c (.v (.int .i64 (Aq Eg ls)))]:=by
 refine Av Jq rfl ?_;refine G0 ?_;rw[ZE];(refine⟨[],none,{k:Nat//k≤ls.length∧∀j,(h:j<ls.length)→j<k→Eg (ls[j])=0},[9,10],fun⟨k,hk,h0⟩=>[(11,.v (.int .i64 k))],[],fun⟨k,hk,h0⟩=>[],fun⟨k,hk,h0⟩=>ls.length-k,trivial,fun _=>⟨trivial,fun _=>⟨⟨0,by omega,fun j _ h=>by omega⟩,tI,An _ _,tI,Am _ _⟩⟩,fun⟨k,hk,h0⟩=>?_⟩);refine G0 ?_;(refine Aa (fun h=>?_) (fun h=>?_)<;>rw[h])
 ·have hlt:k<ls.length:=by simpa using h
  refine G0 ?_;refine⟨k,_,rfl,Ao hlt,?_⟩;refine G0 ?_;have HL:=hl _ (ZK hlt);have HW:=hw _ (ZK hlt);have HE:=Bx (e:=Eg) hlt h0;have HN:Eg ls[k]=0→∀j,(h:j<ls.length)→j<k+1→Eg (ls[j])=0:=fun e=>up1 (p:=fun j h=>Eg (ls[j])=0) h0 (fun _=>e);generalize ls[k]=l at *;rw[ZE];(refine Aa (fun h1=>?_) (fun h1=>?_)<;>rw[h1])
  ·refine G0 ?_;have e:Eg l=2:=Jf (by have:=ZV h1;omega);rw[HE (by rw[e];decide),e];(exact⟨[],aI⟩)
  ·have h1':¬6<l.length:=(by have:=ZW h1;omega);refine G0 ?_;rw[ZE];(refine⟨[],none,{k:Nat//k≤l.length∧∀j,(h:j<l.length)→j<k→(l[j]).err=0},[4,9,10,11,18,19],fun⟨p,hp,p0⟩=>[(20,.v (.int .i64 p))],[],fun⟨p,hp,p0⟩=>[],fun⟨p,hp,p0⟩=>l.length-p,trivial,fun _=>⟨trivial,fun _=>⟨⟨0,by omega,fun j _ h=>by omega⟩,tI,An _ _,tI,Am _ _⟩⟩,fun⟨p,hp,p0⟩=>?_⟩);refine G0 ?_;(refine Aa (fun h2=>?_) (fun h2=>?_)<;>rw[h2])
   ·have hlt2:p<l.length:=(by have:=ZV h2;omega);refine G0 ?_;refine⟨p,_,rfl,Ao hlt2,?_⟩;refine G1 ?_;intro gg;refine .inl (cX (At3 _ (HW _ (ZK hlt2))) ?_);refine G1 ?_;intro gg;(refine Aa (fun h5=>?_) (fun h5=>?_)<;>rw[h5])
    ·refine G0 ?_;have h5':(l[p]).err≠0:=by simpa using h5
     have e0:=Bx hlt2 p0 h5';have e:Eg l=(l[p]).err:=(Gv h1' (by rw[e0];exact h5')).trans e0;rw[HE (by rw[e];exact h5'),e];(exact⟨[],aI⟩)
    ·refine G0 ?_;(exact⟨none,trivial,fun _=>⟨⟨p+1,by omega,up1 (p:=fun j h=>(l[j]).err=0) p0 (fun _=>by simpa using h5)⟩,by show l.length-(p+1)<l.length-p;omega,tI,tI,tI,tI⟩⟩)
   ·have hge2:¬p<l.length:=(by have:=ZW h2;omega);have h2':Aq Gw.err l=0:=Ba fun i hi=>p0 i hi (by omega);refine G0 ?_;(refine⟨[],none,{k:Nat//(k<l.length∨k=0)∧∀i,(h:i+1<l.length)→i<k→Gw.lt l[i] l[i+1]=true},[4,9,10,11],fun⟨q,hq,g0⟩=>[(8,.v (.int .i64 ((q:Int)+1)))],[],fun⟨q,hq,g0⟩=>[],fun⟨q,hq,g0⟩=>l.length-q,trivial,fun _=>⟨trivial,fun _=>⟨⟨0,by omega,fun j _ h=>by omega⟩,tI,An _ _,tI,Am _ _⟩⟩,fun⟨q,hq,g0⟩=>?_⟩);refine G0 ?_;rw[ZE];(refine Aa (fun h3=>?_) (fun h3=>?_)<;>rw[h3])
    ·have hlt3:q+1<l.length:=(by have:=ZV h3;omega);refine G0 ?_;refine⟨q+1,_,by omega,Ao hlt3,?_⟩;refine G0 ?_;refine⟨q,_,by omega,Ao (by omega),?_⟩;refine G0 ?_;rw[V4];(refine Aa (fun h4=>?_) (fun h4=>?_)<;>rw[h4])
     ·refine G0 ?_;have e:Eg l=4:=Qa h1' h2' (Et hlt3 (by simpa[Gw.lt]using h4));rw[HE (by rw[e];decide),e];(exact⟨[],aI⟩)
     ·refine G0 ?_;(exact⟨none,trivial,fun _=>⟨⟨q+1,by omega,up2 (p:=fun i h=>Gw.lt l[i] l[i+1]=true) g0 (fun _=>by simpa[Gw.lt]using h4)⟩,by show l.length-(q+1)<l.length-q;omega,tI,tI,tI,tI⟩⟩)
    ·have hge3:¬q+1<l.length:=(by have:=ZW h3;omega);refine G0 ?_;have e:Eg l=0:=Lk h1' h2' (E8 fun i hi=>g0 i hi (by omega));(exact⟨none,trivial,fun _=>⟨⟨k+1,by omega,HN e⟩,by show ls.length-(k+1)<ls.length-k;omega,tI,tI,tI,tI⟩⟩)
 ·have hge:¬k<ls.length:=by simpa using h
  refine G0 ?_;rw[Ba (l:=ls) (fun i hi=>h0 i hi (by omega))];(exact⟨[],aI⟩)
theorem Al6(l:List Gw)(hl:l.length≤9223372036854775807)(hw:∀m∈l,m.ok):Fun Tryz.prog 155 [.c (.sl false (l.map Gw.row))] [.c (.v (.int .i64 (Eg l)))]:=by
 refine Av Ox rfl ?_;refine G1 ?_;intro gg;(refine .inl ⟨_,_,true,[],aI,Aae false [l] (by simp) (by simpa using hl) (by simpa using hw),(fun _=>fI),nI,?_⟩);rw[Fz];refine G1 ?_;intro gg;(exact⟨[],aI⟩)
theorem Ajq(c:Bool)(l:List Gw)(hl:l.length≤9223372036854775807)(hw:∀m∈l,m.ok):Fun Tryz.prog 66 [.c (.sl c (l.map Gw.row))] [.c (.v (.int .i64 (Eg l)))]:=by
 refine Av Jw rfl ?_;refine G0 ?_;rw[ZE];(refine Aa (fun h1=>?_) (fun h1=>?_)<;>rw[h1])
 ·refine G0 ?_;have e:Eg l=2:=Jf (by have:=ZV h1;omega);rw[e];(exact⟨[],aI⟩)
 ·have h1':¬6<l.length:=(by have:=ZW h1;omega);refine G0 ?_;(refine⟨[],none,{k:Nat//k≤l.length∧∀j,(h:j<l.length)→j<k→(l[j]).err=0},[0],fun⟨k,hk,h0⟩=>[(3,.v (.int .i64 k))],[],fun⟨k,hk,h0⟩=>[],fun⟨k,hk,h0⟩=>l.length-k,trivial,fun _=>⟨trivial,fun _=>⟨⟨0,by omega,fun j _ h=>by omega⟩,tI,An _ _,tI,Am _ _⟩⟩,fun⟨k,hk,h0⟩=>?_⟩);refine G0 ?_;rw[ZE];(refine Aa (fun h=>?_) (fun h=>?_)<;>rw[h])
  ·have hlt:k<l.length:=(by have:=ZV h;omega);have hE:(l[k]).err≠0→Eg l=(l[k]).err:=fun h2'=>by
    have e0:=Bx hlt h0 h2';exact(Gv h1' (by rw[e0];exact h2')).trans e0
   have hN:(l[k]).err=0→_:=fun e=>up1 (p:=fun j h=>(l[j]).err=0) h0 (fun _=>e);refine G0 ?_;refine⟨k,_,rfl,Ao hlt,?_⟩;refine G0 ?_;refine .inl (cX (Es _ (hw _ (ZK hlt))) ?_);refine G1 ?_;intro gg;(refine Aa (fun h2=>?_) (fun h2=>?_)<;>rw[h2])
   ·refine G0 ?_;have e1:(l[k]).err=1:=by unfold Gw.err;simp_all
    rw[hE (by rw[e1];decide),e1];(exact⟨[],aI⟩)
   ·refine G0 ?_;refine⟨k,_,rfl,Ao hlt,?_⟩;refine G0 ?_;refine .inl (cX (Lo _) ?_);refine G1 ?_;intro gg;(refine Aa (fun h3=>?_) (fun h3=>?_)<;>rw[h3])
    ·refine G0 ?_;have e1:(l[k]).err=3:=by unfold Gw.err;simp_all
     rw[hE (by rw[e1];decide),e1];(exact⟨[],aI⟩)
    ·refine G0 ?_;refine⟨k,_,rfl,Ao hlt,?_⟩;refine G0 ?_;refine .inl (cX (Cf _ _ _) ?_);refine G1 ?_;intro gg;(refine Aa (fun h4=>?_) (fun h4=>?_)<;>rw[h4])
     ·refine G0 ?_;have e1:(l[k]).err=3:=by unfold Gw.err;simp_all
      rw[hE (by rw[e1];decide),e1];(exact⟨[],aI⟩)
     ·have e1:(l[k]).err=0:=by unfold Gw.err;simp_all
      refine G0 ?_;(exact⟨none,trivial,fun _=>⟨⟨k+1,by omega,hN e1⟩,by show l.length-(k+1)<l.length-k;omega,tI,tI,tI,tI⟩⟩)
  ·have hge:¬k<l.length:=(by have:=ZW h;omega);have h2':Aq Gw.err l=0:=Ba fun i hi=>h0 i hi (by omega);refine G0 ?_;(refine⟨[],none,{k:Nat//(k<l.length∨k=0)∧∀i,(h:i+1<l.length)→i<k→Gw.lt l[i] l[i+1]=true},[0],fun⟨q,hq,g0⟩=>[(4,.v (.int .i64 ((q:Int)+1)))],[],fun⟨q,hq,g0⟩=>[],fun⟨q,hq,g0⟩=>l.length-q,trivial,fun _=>⟨trivial,fun _=>⟨⟨0,by omega,fun j _ h=>by omega⟩,tI,An _ _,tI,Am _ _⟩⟩,fun⟨q,hq,g0⟩=>?_⟩);refine G0 ?_;rw[ZE];(refine Aa (fun h3=>?_) (fun h3=>?_)<;>rw[h3])
   ·have hlt3:q+1<l.length:=(by have:=ZV h3;omega);refine G0 ?_;refine⟨q+1,_,by omega,Ao hlt3,?_⟩;refine G0 ?_;refine⟨q,_,by omega,Ao (by omega),?_⟩;refine G0 ?_;rw[V4];(refine Aa (fun h4=>?_) (fun h4=>?_)<;>rw[h4])
    ·refine G0 ?_;have e:Eg l=4:=Qa h1' h2' (Et hlt3 (by simpa[Gw.lt]using h4));rw[e];(exact⟨[],aI⟩)
    ·refine G0 ?_;(exact⟨none,trivial,fun _=>⟨⟨q+1,by omega,up2 (p:=fun i h=>Gw.lt l[i] l[i+1]=true) g0 (fun _=>by simpa[Gw.lt]using h4)⟩,by show l.length-(q+1)<l.length-q;omega,tI,tI,tI,tI⟩⟩)
   ·have hge3:¬q+1<l.length:=(by have:=ZW h3;omega);refine G0 ?_;have e:Eg l=0:=Lk h1' h2' (E8 fun i hi=>g0 i hi (by omega));rw[e];(exact⟨[],aI⟩)
theorem Ane(g:Gw)(name:ByteArray):Fun Tryz.prog 223 [.c (.agg g.row),.c (.v (.string name))] [.c (.v (.int .i64 (Gw.cf name g)))]:=by
 refine Av Va rfl ?_;refine G1 ?_;intro gg;refine .inl (cX (Ui _ _) ?_);refine G1 ?_;intro gg;(exact⟨[],aI⟩)
theorem Axd(c:Bool)(l:List Gw)(name:ByteArray)(hl:l.length≤1000)(hm:Aee (Gw.cf name) l):Fun Tryz.prog 222 [.c (.sl c (l.map Gw.row)),.c (.v (.string name)),.c (.v (.func (.func 223) #[] #[]))] [.c (.v (.int .i64 (low (Gw.cf name) l))),.c (.v (.bool (hit (Gw.cf name) l)))]:=by
 refine Av Db rfl ?_;refine G0 ?_;rw[ZE];(refine⟨[],none,{p:Nat×Nat//p.1≤p.2∧p.2≤l.length∧(∀k,(h:k<l.length)→k<p.1→Gw.cf name l[k]<0)∧(∀k,(h:k<l.length)→p.2≤k→0≤Gw.cf name l[k])},[0,1,2,8],fun⟨⟨i,j⟩,h1,h2,h3,h4⟩=>[(9,.v (.int .i64 i)),(10,.v (.int .i64 j))],[],fun⟨⟨i,j⟩,h1,h2,h3,h4⟩=>[],fun⟨⟨i,j⟩,h1,h2,h3,h4⟩=>j-i,trivial,fun _=>⟨trivial,fun _=>⟨⟨(0,l.length),by omega,by omega,fun k _ h=>absurd h (by omega),fun k h h'=>absurd h (by omega)⟩,tI,An _ _,tI,Am _ _⟩⟩,fun⟨⟨i,j⟩,h1,h2,h3,h4⟩=>?_⟩);dsimp only at h1 h2 h3 h4;refine G0 ?_;(refine Aa (fun h=>?_) (fun h=>?_)<;>rw[h])
 ·have hlt:i<j:=(by have:=ZV h;omega);have hk:(i+j)/2<l.length:=by omega
  refine G0 ?_;refine⟨(i+j)/2,_,by omega,Ao hk,?_⟩;refine G0 ?_;refine .inl (cX (Ane _ _) ?_);refine G1 ?_;intro gg;(refine Aa (fun h5=>?_) (fun h5=>?_)<;>rw[h5])
  ·have h5':Gw.cf name l[(i+j)/2]<0:=by simpa using h5
   refine G0 ?_;(exact⟨none,trivial,fun _=>⟨⟨((i+j)/2+1,j),by dsimp only;omega,h2,fun k hk' hka=>hm k ((i+j)/2) hk' hk (by dsimp only at hka;omega) h5',h4⟩,by show j-((i+j)/2+1)<j-i;omega,tI,tI,tI,tI⟩⟩)
  ·have h5':¬Gw.cf name l[(i+j)/2]<0:=by simpa using h5
   refine G0 ?_;(exact⟨none,trivial,fun _=>⟨⟨(i,(i+j)/2),by dsimp only;omega,by dsimp only;omega,h3,fun k hk' hka=>Int.not_lt.1 (fun h'=>h5' (hm ((i+j)/2) k hk hk' hka h'))⟩,by show(i+j)/2-i<j-i;omega,tI,tI,tI,tI⟩⟩)
 ·have hij:i=j:=(by have:=ZW h;omega);subst hij;have HE:=Ahy (cf:=Gw.cf name) h2 h3 h4;refine G0 ?_;(refine Aa (fun h5=>?_) (fun h5=>?_)<;>rw[h5])
  ·have hin:i<l.length:=(by have:=ZV h5;omega);have HH:hit (Gw.cf name) l=decide (Gw.cf name l[i]=0):=by
    have hin':low (Gw.cf name) l<l.length:=by rw[←HE];exact hin
    rw[Aer hin'];simp only[←HE]
   refine G0 ?_;refine⟨i,_,rfl,Ao hin,?_⟩;refine G0 ?_;refine .inl (cX (Ane _ _) ?_);refine G1 ?_;intro gg;rw[←HE,HH];(exact⟨[],aI⟩)
  ·have HH:hit (Gw.cf name) l=false:=Afe (by rw[←HE];exact(by have:=ZW h5;omega));refine G0 ?_;rw[←HE,HH];(exact⟨[],aI⟩)
theorem Aqu(c:Bool)(l:List Gw)(name:ByteArray)(hl:l.length≤1000)(hm:Aee (Gw.cf name) l):Fun Tryz.prog 168 [.c (.sl c (l.map Gw.row)),.c (.v (.string name))] [.c (.v (.int .i64 (low (Gw.cf name) l))),.c (.v (.bool (hit (Gw.cf name) l)))]:=by
 refine Av Aaw rfl ?_;refine G0 ?_;refine .inl (cX (Axd c l name hl hm) ?_);refine G1 ?_;intro gg;(exact⟨[],aI⟩)
theorem Avu(c:Bool)(l:List Gw)(name:ByteArray)(hl:l.length≤9223372036854775807):Fun Tryz.prog 30 [.c (.sl c (l.map Gw.row)),.c (.v (.string name))] [.c (.v (.int .i64 (at_ (Gw.is name) l)))]:=by
 refine Av Nv rfl ?_;refine G0 ?_;(refine⟨[],none,{k:Nat//k≤l.length∧∀j,(h:j<l.length)→j<k→Gw.is name l[j]=false},[0,1],fun⟨k,hk,h0⟩=>[(5,.v (.int .i64 k))],[],fun⟨k,hk,h0⟩=>[],fun⟨k,hk,h0⟩=>l.length-k,trivial,fun _=>⟨trivial,fun _=>⟨⟨0,by omega,fun j _ h=>by omega⟩,tI,An _ _,tI,Am _ _⟩⟩,fun⟨k,hk,h0⟩=>?_⟩);refine G0 ?_;rw[ZE];(refine Aa (fun h=>?_) (fun h=>?_)<;>rw[h])
 ·have hlt:k<l.length:=(by have:=ZV h;omega);refine G0 ?_;refine⟨k,_,rfl,Ao hlt,?_⟩;refine G0 ?_;(refine Aa (fun h2=>?_) (fun h2=>?_)<;>rw[h2])
  ·refine G0 ?_;rw[N4 hlt h0 h2];(exact⟨[],aI⟩)
  ·refine G0 ?_;(exact⟨none,trivial,fun _=>⟨⟨k+1,by omega,up1 (p:=fun j h=>Gw.is name l[j]=false) h0 (fun _=>h2)⟩,by show l.length-(k+1)<l.length-k;omega,tI,tI,tI,tI⟩⟩)
 ·have hge:¬k<l.length:=(by have:=ZW h;omega);refine G0 ?_;rw[Ti (p:=Gw.is name) (l:=l) (fun i hi=>h0 i hi (by omega))];(exact⟨[],aI⟩)
end Go.Proofs.YtkbjgdcdjccnaaaGreatDoor

