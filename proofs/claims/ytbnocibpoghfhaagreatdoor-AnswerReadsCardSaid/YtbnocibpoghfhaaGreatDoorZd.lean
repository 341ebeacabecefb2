/- Texts of this claim, joined. -/
import Derived.Test.YtbnocibpoghfhaaGreatDoorRows
import Derived.Test.YtbnocibpoghfhaaGreatDoorZa
import Derived.Test.YtbnocibpoghfhaaGreatDoorZb
import Derived.Test.YtbnocibpoghfhaaGreatDoorZc
set_option linter.unusedSimpArgs false
set_option linter.unusedVariables false
namespace Go.Proofs.YtbnocibpoghfhaaGreatDoor
open Go Go.RowKit Pl
theorem Afv{s:ByteArray}:∀{n a:Nat} {L:List Rr} {a':Nat},Fg s n a=some (L,a')→L.length=n∧∀r∈L,r.nm.size≤1000∧r.tx.size≤s.size∧r.tg.size≤1000
 |0,a,L,a',h=>by
  unfold Fg at h;cases h;exact⟨rfl,fun r hr=>by cases hr⟩
 |n+1,a,L,a',h=>by
  unfold Fg at h;rcases e:Pp s a with _|⟨r,a1⟩
  ·rw[e]at h;cases h
  rw[e,ZA]at h;simp only at h;rcases e2:Fg s n a1 with _|⟨L1,a2⟩
  ·rw[e2]at h;cases h
  rw[e2,ZA]at h;cases h;obtain⟨h1,h2⟩:=Afv e2;have hb:=Yv e;refine⟨by rw[ZJ,h1],fun x hx=>?_⟩;rcases XC.1 hx with rfl|hx
  ·exact⟨hb.2.1,hb.2.2.1,hb.2.2.2⟩
  ·exact h2 x hx
theorem Auz{s:ByteArray}{m:Ms}(hs:s.size≤1000000)(h:Od s=some m):m.Sized∧m.rs.length≤20:=by
 unfold Od at h;rcases e1:Bt s 0 with _|⟨x1,a1⟩
 ·rw[e1]at h;cases h
 rw[e1,ZA]at h;simp only at h;rcases e2:Cr s a1 with _|⟨x2,a2⟩
 ·rw[e2]at h;cases h
 rw[e2,ZA]at h;simp only at h;rcases e3:Cr s a2 with _|⟨x3,a3⟩
 ·rw[e3]at h;cases h
 rw[e3,ZA]at h;simp only at h;split at h;rotate_left
 ·cases h
 rcases e4:Bt s a3 with _|⟨x4,a4⟩
 ·rw[e4]at h;cases h
 rw[e4,ZA]at h;simp only at h;split at h;rotate_left
 ·cases h
 rcases e5:Bt s a4 with _|⟨x5,a5⟩
 ·rw[e5]at h;cases h
 rw[e5,ZA]at h;simp only at h;split at h;rotate_left
 ·cases h
 rename_i c5;rcases e6:Bt s a5 with _|⟨x6,a6⟩
 ·rw[e6]at h;cases h
 rw[e6,ZA]at h;simp only at h;split at h;rotate_left
 ·cases h
 rcases e7:Bt s a6 with _|⟨x7,a7⟩
 ·rw[e7]at h;cases h
 rw[e7,ZA]at h;simp only at h;split at h;rotate_left
 ·cases h
 rcases e8:Eq s a7 with _|⟨x8,a8⟩
 ·rw[e8]at h;cases h
 rw[e8,ZA]at h;simp only at h;rcases e9:Bt s a8 with _|⟨x9,a9⟩
 ·rw[e9]at h;cases h
 rw[e9,ZA]at h;simp only at h;rcases e10:Bt s a9 with _|⟨x10,a10⟩
 ·rw[e10]at h;cases h
 rw[e10,ZA]at h;simp only at h;split at h;rotate_left
 ·cases h
 rcases e11:Fg s x5 a10 with _|⟨x11,a11⟩
 ·rw[e11]at h;cases h
 rw[e11,ZA]at h;simp only at h;split at h;rotate_left
 ·cases h
 cases h;obtain⟨h1,h2⟩:=Afv e11;have h8:=(Ij e8).2;refine⟨⟨by show x8.size≤_;omega,fun r hr=>?_⟩,by show x11.length≤20;omega⟩;obtain⟨g1,g2,g3⟩:=h2 r hr;exact⟨by omega,by omega,by omega⟩
theorem Qm{s:ByteArray}(h:512<s.size):rdP s=(A9,2):=if_pos h
theorem Fu{s:ByteArray}(h:¬512<s.size)(e:Od s=none):rdP s=(A9,1):=by unfold rdP;rw[if_neg h,e]
theorem N5{s:ByteArray}{m:Ms}(h:¬512<s.size)(e:Od s=some m):rdP s=if A4 m=0 then(m,0)else(A9,1):=by unfold rdP;rw[if_neg h,e]
theorem At4(s:ByteArray)(w:World)(R:Nat→Prop)(hlt:∀b,R b→b<w.heap.size):Calls Tryz.prog 17 #[.string s] w (Af7 R w (rdP s).1 (rdP s).2):=by
 by_cases h:512<s.size
 ·rw[Qm h];exact Aob s w (by omega) R hlt
 ·rcases e:Od s with _|m
  ·rw[Fu h e];exact As2 s w (by omega) R hlt (Adw e (by omega))
  ·obtain⟨h1,h2⟩:=Auz (by omega) e;rw[N5 h e];refine Atw s m w (by omega) R hlt (Afk e (by omega)) (Vp m h1 (by omega)) _ _ (fun he=>?_) (fun he=>?_)
   ·rw[if_pos he];exact⟨rfl,rfl⟩
   ·rw[if_neg he];exact⟨rfl,rfl⟩
theorem Up(s:ByteArray):Fun Tryz.prog 17 [.c (.v (.string s))] [.c (.agg (rdP s).1.row),.c (.v (.int .i64 (rdP s).2))]:=by
 refine⟨⟨_,Tryz.func17,by kernel_rfl,by kernel_rfl⟩,fun w R xs hlt hp=>?_⟩;obtain⟨x,rfl⟩:∃x,xs=[x]:=by
  have hl:=hp.len;rcases xs with _|⟨x,_|⟨x',xs⟩⟩<;>simp at hl
  exact⟨x,rfl⟩
 have hx:x=.string s:=Ce (hp.ok 0 _ _ rfl rfl);subst hx;refine(At4 s w R hlt).mono ?_
 rintro e w' ⟨x,R',rfl,hf,h1,h2,h3⟩
 have hnb:∀b,¬A2 [.c (.agg (rdP s).1.row),.c (.v (.int .i64 (rdP s).2))] [x,.int .i64 (rdP s).2] b:=fun b=>Mr (by intro p hp;rcases XC.1 hp with rfl|hp;exact⟨_,rfl⟩;rcases XC.1 hp with rfl|hp;exact⟨_,rfl⟩;cases hp);refine⟨[x,.int .i64 (rdP s).2],R',rfl,⟨hf.os,hf.tape,hf.output,hf.size,fun k hk _=>hf.block k hk id⟩,h1,fun b hb=>(h2 b hb).imp id (fun g=>⟨g.1,.inr g.2⟩),⟨rfl,fun i p y q1 q2=>?_,fun i j T sz rows T' sz' rows' x y b hij q1=>?_,fun b hb=>(hnb b hb).elim⟩,fun b hb=>(hnb b hb).elim⟩
 ·rcases i with _|_|i
  ·cases q1;cases q2;exact h3
  ·cases q1;cases q2;exact .v _
  ·simp at q1
 ·rcases i with _|_|i<;>simp at q1
namespace Pl
def m0:Ms:=⟨258,false,false,0,⟨#[97,46,98]⟩,1,[]⟩
theorem Asv:A4 m0=0:=by decide+kernel
theorem Ajg:(Cx m0).length=21:=by decide+kernel
theorem Ag4{m:Ms}(h:A4 m=0)(hl:¬512<(Cx m).length):rdP ⟨(Cx m).toArray⟩=(m,0):=by
 obtain⟨h1,h2⟩:=G9 h;rw[N5 (by simpa[ByteArray.size]using hl) (Ata h1 h2),if_pos h]
end Pl
theorem Fun.sub1{P:Program}{f:FuncId}{u u':V}{rs:List Par}(h:Fun P f [.c u] rs)(hs:∀(w:World) (R:Nat→Prop) (x:Value),RV w R noG u' x→RV w R noG u x):Fun P f [.c u'] rs:=by
 refine⟨h.1,fun w R xs hlt hp=>?_⟩;obtain⟨x,rfl⟩:∃x,xs=[x]:=by
  have hl:=hp.len;rcases xs with _|⟨x,_|⟨x',xs⟩⟩<;>simp at hl
  exact⟨x,rfl⟩
 have hq:∀b,A2 [.c u] [x] b↔A2 [.c u'] [x] b:=fun b=>⟨fun h=>(Aee h).elim,fun h=>(Aee h).elim⟩;refine(h.2 w R [x] hlt (Adm (hs w R x (hp.ok 0 _ _ rfl rfl)))).mono ?_
 rintro e w' ⟨ys,R',h1,h2,h3,h4,h5,h6⟩
 exact⟨ys,R',h1,⟨h2.os,h2.tape,h2.output,h2.size,fun k hk hn=>h2.block k hk fun q=>hn ((hq k).1 q)⟩,h3,fun b hb=>(h4 b hb).imp id fun g=>⟨g.1,g.2.imp (hq b).1 id⟩,h5,fun b hb=>(h6 b hb).imp (hq b).1 id⟩
def Zv(m:Ms):List V:=[.v (.int .i64 m.id),.v (.bool m.an),.v (.bool m.ct),.v (.int .i64 m.co),.v (.string m.qn),.v (.int .i64 m.qt),.v (.slice none 0 0)]
theorem Aiy{w:World}{R:Nat→Prop}{m:Ms}{x:Value}(hm:m.rs=[])(h:RV w R noG (.agg (Zv m)) x):RV w R noG (.agg m.row) x:=by
 cases h with
 |agg cs xs hl h=>
  obtain⟨x0,x1,x2,x3,x4,x5,x6,rfl⟩:∃x0 x1 x2 x3 x4 x5 x6,xs=[x0,x1,x2,x3,x4,x5,x6]:=by
   rcases xs with _|⟨x0,_|⟨x1,_|⟨x2,_|⟨x3,_|⟨x4,_|⟨x5,_|⟨x6,_|⟨x7,xs⟩⟩⟩⟩⟩⟩⟩⟩<;>simp[Zv]at hl;exact⟨_,_,_,_,_,_,_,rfl⟩
  have h0:=Ce (h 0 _ _ rfl rfl);have h1:=Ce (h 1 _ _ rfl rfl);have h2:=Ce (h 2 _ _ rfl rfl);have h3:=Ce (h 3 _ _ rfl rfl);have h4:=Ce (h 4 _ _ rfl rfl);have h5:=Ce (h 5 _ _ rfl rfl);have h6:=Ce (h 6 _ _ rfl rfl);subst h0 h1 h2 h3 h4 h5 h6;exact Amf (by rw[hm];exact .nil false none 0 (by simp))
theorem Avq:Fun Tryz.prog 15 [] [.c (.v (.bool true))]:=by
 obtain⟨w1,w2⟩:=Amk Asv (by rw[Ajg];decide);have r1:=Ag4 Asv (by rw[Ajg];decide);have hW:=(Adh m0 ⟨by decide,by simp[m0]⟩ (by decide)).sub1 (u':=.agg (Zv m0)) fun w R x h=>Aiy rfl h;rw[w1,w2]at hW;obtain⟨t,ht⟩:∃t:ByteArray,t=⟨(Cx m0).toArray⟩:=⟨_,rfl⟩;have hs:t.size=21:=by rw[ht];simpa[ByteArray.size]using Ajg
 rw[←ht]at hW r1;have hR:=Up t;rw[r1]at hR;simp only at hR;refine Ar O9 rfl ?_;refine G0 ?_;(refine .inl ⟨_,_,false,[],aI,hW,Ab,nI,?_⟩);refine G1 ?_;intro gg;(refine .inl ⟨_,_,false,[],aI,hR,Ab,nI,?_⟩);(refine goI ?_;repeat (intro gg;refine goI ?_));rw[hs];refine G0 ?_;rw[show(m0.qn.toList==(⟨#[97,46,98]⟩:ByteArray).toList)=true from beq_self_eq_true _];(exact⟨[],aI⟩)
namespace Pl
def bA(l:List UInt8):ByteArray:=⟨l.toArray⟩
theorem Ca(l r:List UInt8):bA l++bA r=bA (l++r):=by
 apply ByteArray.ext;rw[ByteArray.data_append];simp[bA]
theorem D2(l:List UInt8):(bA l).size=l.length:=by simp[bA,ByteArray.size]
theorem Abt(s:ByteArray):bA s.data.toList=s:=by simp[bA]
end Pl
namespace Pl
end Pl
section
open Go.Joins Go.ChangeShapes Go.WideShapes Go.Deep
def Bd1(B:Nat):V→Prop
 |.v (.string x)=>x.size≤B
 |_=>True
def Bd(B:Nat):V→Prop
 |.v (.string x)=>x.size≤B
 |.sl _ rows=>rows.length≤B∧∀row∈rows,∀u∈row,Bd1 B u
 |_=>True
theorem Bd.one{B:Nat}{u:V}(h:Bd B u):Bd1 B u:=by
 unfold Bd at h;unfold Bd1;split at h<;>simp_all
structure Avw{H:Type}(bk:DataW H→Nat):Prop where
 str:∀l,l.length≤bk (.lit (.string l))
 agg:∀ds d,d∈ds→bk d≤bk (.agg ds)
 sl:∀es sp,es.length≤bk (.slice es sp)∧∀d∈es,bk d≤bk (.slice es sp)
section
variable {H:Type} {enc:TypeId×Value→H} {P:Program} {w:World} {base:Nat} {spare:Nat→Bool} {held:Bool} {bk:DataW H→Nat} {B:Nat}
end
end

structure Aox(m:Ms):Prop where
 sz:m.Sized
 ln:m.rs.length≤1048576
namespace Pl
def Eh(m:Ms)(n:Nat):Ms:=⟨m.id,m.an,m.ct||decide (n<m.rs.length),m.co,m.qn,m.qt,m.rs.take n⟩
theorem Acz{m:Ms}(h:m.Good)(n:Nat):(Eh m n).Good:=⟨h.id,h.co,h.qn,h.qnz,h.qt,by show(m.rs.take n).length≤20;have:=h.len;rw[ZM];omega,fun r hr=>h.rs r (List.mem_of_mem_take hr)⟩
theorem Aqh(m:Ms):Eh m m.rs.length=m:=by
 obtain⟨id,an,ct,co,qn,qt,rs⟩:=m;unfold Eh;simp
def Ny(m:Ms)(z:Int):Nat→ByteArray×Int
 |0=>if((Cx (Eh m 0)).length:Int)≤z then(bA (Cx (Eh m 0)),0)else(⟨#[]⟩,2)
 |n+1=>if((Cx (Eh m (n+1))).length:Int)≤z then(bA (Cx (Eh m (n+1))),0)else Ny m z n
theorem Qf{m:Ms}{z:Int}{n:Nat}(h:((Cx (Eh m n)).length:Int)≤z):Ny m z n=(bA (Cx (Eh m n)),0):=by
 cases n with
 |zero=>exact if_pos h
 |succ n=>exact if_pos h
theorem Afj{m:Ms}{z:Int}{n:Nat}(h:¬((Cx (Eh m (n+1))).length:Int)≤z):Ny m z (n+1)=Ny m z n:=if_neg h
theorem Ag3{m:Ms}{z:Int}(h:¬((Cx (Eh m 0)).length:Int)≤z):Ny m z 0=(⟨#[]⟩,2):=if_neg h
def Jn(m:Ms)(z:Int):ByteArray×Int:=bif !wIn z 12 512 then(⟨#[]⟩,3)else if A4 m≠0 then(⟨#[]⟩,A4 m)else Ny m z m.rs.length
end Pl
set_option maxHeartbeats 2000000 in
theorem Auv(m:Ms)(z:Int)(hm:Aox m):Fun Tryz.prog 31 [.c (.agg m.row),.c (.v (.int .i64 z))] [.c (.v (.string (Jn m z).1)),.c (.v (.int .i64 (Jn m z).2))]:=by
 have hl:m.rs.length≤9223372036854775807:=by have:=hm.ln;omega
 have hC:=Vp m hm.sz hl;have e0:Jn m z=bif !wIn z 12 512 then(⟨#[]⟩,3)else if A4 m≠0 then(⟨#[]⟩,A4 m)else Ny m z m.rs.length:=rfl
 refine Ar Ak1 rfl ?_;refine G1 ?_;intro gg;revert gg;intro gz;(refine .inl ⟨_,_,false,[],aI,Iw z 12 512,Ab,nI,?_⟩);refine G1 ?_;intro gg;refine Aa (fun k0=>?_) (fun k0=>?_)<;>rw[k0]<;>rw[k0]at e0
 ·refine G0 ?_;rw[e0];(exact⟨[],aI⟩)
 ·simp only[cond_false]at e0;refine G0 ?_;(refine .inl ⟨_,_,false,[],aI,hC,Ab,nI,?_⟩);refine G1 ?_;intro gg;by_cases he:A4 m=0
  ·rw[if_neg (by simp[he])]at e0;rw[show(A4 m !=0)=false by simp[he]];have hg:=(G9 he).1;have hln:=hg.len;refine G0 ?_;(refine⟨[],none,{n:Nat//n≤m.rs.length∧Ny m z n=Ny m z m.rs.length},[1,2],fun⟨n,hn,hf⟩=>[],[],fun⟨n,hn,hf⟩=>[(32,⟨gz,.b 52,7,[(Eh m n).row]⟩)],fun⟨n,hn,hf⟩=>n,trivial,fun _=>⟨trivial,fun _=>⟨⟨m.rs.length,ZT _,rfl⟩,tI,Af _ _,?_,Ae _ _⟩⟩,fun⟨n,hn,hf⟩=>?_⟩;focus (exact⟨congrArg (fun r=>some (Ent.mk gz (.b 52) 7 [r])) (show m.row=(Eh m m.rs.length).row by rw[Aqh]),trivial⟩));have hw:Fun Tryz.prog 36 [.c (.agg (Eh m n).row)] [.c (.v (.string (bA (Cx (Eh m n)))))]:=Acn _ (Acz hg n);refine G0 ?_;(refine .inl ⟨_,_,false,[],aI,hw,Ab,nI,?_⟩);refine G1 ?_;intro gg;rw[D2];by_cases h1:((Cx (Eh m n)).length:Int)≤z
   ·rw[show decide (((Cx (Eh m n)).length:Int)≤z)=true from ZX h1];rw[←hf,Qf h1]at e0;refine G0 ?_;rw[e0];(exact⟨[],aI⟩)
   ·rw[show decide (((Cx (Eh m n)).length:Int)≤z)=false from ZY h1];rcases n with _|n
    ·rw[←hf,Ag3 h1]at e0;refine G0 ?_;rw[e0];(exact⟨[],aI⟩)
    ·have hlen:((Eh m (n+1)).rs.map Rr.row).length=n+1:=by
      show((m.rs.take (n+1)).map Rr.row).length=n+1;rw[ZE,ZM];omega
     have hsb:(((Eh m (n+1)).rs.map Rr.row).length:Int)-1=(n:Int):=by rw[hlen];omega
     have hsl:((((Eh m (n+1)).rs.map Rr.row).drop 0).take (n-0))=(Eh m n).rs.map Rr.row:=by
      show(((m.rs.take (n+1)).map Rr.row).drop 0).take n=(m.rs.take n).map Rr.row;rw[List.drop_zero,←List.map_take,List.take_take,Nat.min_eq_left (by omega)]
     have hct:(m.ct||decide (n<m.rs.length))=true:=by rw[show decide (n<m.rs.length)=true from ZX (by omega),Bool.or_true]
     have hrow:([.v (.int .i64 m.id),.v (.bool m.an),.v (.bool true),.v (.int .i64 m.co),.v (.string m.qn),.v (.int .i64 m.qt),.sl false ((Eh m n).rs.map Rr.row)]:List V)=(Eh m n).row:=by
      unfold Ms.row Eh;rw[hct]
     refine G0 ?_;rw[show((((Eh m (n+1)).rs.map Rr.row).length:Int)==0)=false by rw[hlen];exact ZG.2 (by omega)];refine G0 ?_;refine⟨0,n,rfl,⟨.i64,congrArg (fun x=>V.v (.int .i64 x)) hsb⟩,ZU _,by rw[hlen];omega,.inr ⟨_,Ad (k:=0) (l:=(Eh m (n+1)).rs) (by show 0<(m.rs.take (n+1)).length;rw[ZM];omega),rfl⟩,?_⟩;rw[hsl];refine G0 ?_;(exact⟨none,trivial,fun gr=>⟨⟨n,by omega,(Afj h1).symm.trans hf⟩,by show n<n+1;omega,tI,tI,⟨congrArg (fun r=>some (Ent.mk gz (.b 52) 7 [r])) hrow,trivial⟩,tI⟩⟩)
  ·rw[if_pos he]at e0;rw[show(A4 m !=0)=true from ZZ.2 he];refine G0 ?_;rw[e0];(exact⟨[],aI⟩)
namespace Pl
def atB(s:ByteArray)(a:Nat):Nat:=match s[a]? with|some c=>c.toNat|none=>0
theorem Gu{s:ByteArray}{a:Nat}{c:UInt8}(h:s[a]? =some c):atB s a=c.toNat:=by unfold atB;rw[h]
theorem Is(s:ByteArray)(a:Nat):atB s a<256:=by
 unfold atB;split
 ·exact UInt8.toNat_lt _
 ·omega
def Dx(s:ByteArray)(a:Nat):Nat→Nat
 |0=>0
 |k+1=>256*Dx s a k+atB s (a+k)
def B6(s:ByteArray)(k a:Nat):Nat:=if a+k≤s.size then Dx s a k else 0
def Aq(s:ByteArray)(k a:Nat):Nat:=if a+k≤s.size then a+k else max a s.size
def B7(s:ByteArray)(k a:Nat)(b:Bool):Bool:=b||decide (s.size<a+k)
theorem Cf{s:ByteArray}{k a:Nat}{b:Bool}(h:a+k≤s.size):B6 s k a=Dx s a k∧Aq s k a=a+k∧B7 s k a b=b:=by
 refine⟨if_pos h,if_pos h,?_⟩;unfold B7;rw[ZY (by omega),Bool.or_false]
theorem Bj{s:ByteArray}{k a m:Nat}(h1:a≤m)(h2:s.size≤m):Aq s k a≤m:=by
 unfold Aq;split<;>omega
end Pl
namespace Pl
abbrev Kk:ByteArray:=⟨#[46]⟩
theorem Aaa(l:List ByteArray):Df Kk l=bA (Lib.join (l.map (·.data.toList)) [46]):=rfl
theorem Aos(x:ByteArray):Df Kk [x]=x:=by
 rw[Aaa];simp[Lib.join,List.intercalate,Abt]
theorem Anj(l:List (List UInt8))(x sep:List UInt8)(h:l≠[]):Lib.join (l++[x]) sep=Lib.join l sep++(sep++x):=by
 rcases l with _|⟨y,l⟩
 ·exact absurd rfl h
 ·rw[List.cons_append,Lib.join_cons,Lib.join_cons];unfold Lib.joinTail;simp
theorem Aj5(l:List ByteArray)(x:ByteArray)(h:l≠[]):Df Kk (l++[x])=Df Kk l++Kk++x:=by
 rw[Aaa,Aaa,ZI,List.map_cons,List.map_nil,Anj _ _ _ (by simpa using h)]
 conv=>rhs;rhs;rw[←Abt x]
 rw[show Kk=bA [46]from rfl,Ca,Ca,ZS]
theorem Vn{α:Type}{l:List α}{k:Nat}(h:k<l.length):l.take (k+1)=l.take k++[l[k]]:=by rw[XT,ZC h];rfl
theorem X3{l:List ByteArray}(h:0<l.length):Df Kk (l.take 0)++l[0]=Df Kk (l.take (0+1)):=by
 rw[Vn h,List.take_zero,List.nil_append,Aos,show Df Kk []=bA []from rfl]
 conv=>lhs;rhs;rw[←Abt l[0]]
 rw[Ca,List.nil_append,Abt]
theorem Ab9{l:List ByteArray}{k:Nat}(h:k+1<l.length):Df Kk (l.take (k+1))++Kk++l[k+1]=Df Kk (l.take (k+1+1)):=by
 rw[Vn h,Aj5 _ _ (by intro e;have:=congrArg List.length e;rw[ZM]at this;simp only[ZN]at this;omega)]
theorem Ads(l:List ByteArray)(h:∀x∈l,x.size≤1000)(k:Nat)(hk:k≤l.length):(Df Kk (l.take k)).size≤1001*k:=by
 induction k with
 |zero=>exact ZT 0
 |succ k ih=>
  have h1:=ih (by omega);have h2:=h _ (ZK (show k<l.length by omega));rcases k with _|k
  ·rw[←X3 (by omega),XP];omega
  ·rw[←Ab9 (by omega),XP,XP];have:Kk.size=1:=rfl;omega
end Pl
namespace Pl
theorem Nm(s:ByteArray)(a:Nat):B6 s 1 a=atB s a:=by
 unfold B6;split
 ·show 256*0+atB s (a+0)=_;rw[Nat.mul_zero,Nat.zero_add,Nat.add_zero]
 ·rename_i h;unfold atB;rw[show s[a]? =none from by simp;omega]
def Du(s:ByteArray)(a:Nat):Nat→List UInt8
 |0=>[]
 |i+1=>Du s a i++[F8 (UInt8.ofNat (atB s (a+i)))]
theorem Y4(s:ByteArray)(a n:Nat):(Du s a n).length=n:=by
 induction n with
 |zero=>rfl
 |succ n ih=>show(Du s a n++[_]).length=n+1;rw[ZF,ih];rfl
def Je(s:ByteArray):Nat→Nat→List ByteArray→Option Nat→Nat→Option (List ByteArray×Nat)×Nat
 |0,_,_,_,_=>(none,0)
 |f+1,a,l,e,fr=>
  if a+1≤s.size then
   if atB s a=0 then(some (l,e.getD (a+1)),0)
   else if 192≤atB s a then
    if a+2≤s.size∧(atB s a-192)*256+atB s (a+1)<fr then Je s f ((atB s a-192)*256+atB s (a+1)) l (some (e.getD (a+2))) ((atB s a-192)*256+atB s (a+1))
    else(none,(atB s a-192)*256+atB s (a+1))
   else if a+1+atB s a≤s.size∧lab (Du s (a+1) (atB s a))=true∧l.length+1≤8 then Je s f (Aq s (atB s a) (a+1)) (l++[bA (Du s (a+1) (atB s a))]) e fr
   else(none,Aq s (atB s a) (a+1))
  else(none,max a s.size)
def Abk(s:ByteArray)(a:Nat)(b:Bool):Option (List ByteArray×Nat)×Nat:=bif b then(none,a)else Je s (a+10) a [] none a
def Dp(s:ByteArray)(a:Nat)(b:Bool):ByteArray×Nat×Bool:=match Abk s a b with
 |(some p,_)=>(Df Kk p.1,p.2,false)
 |(none,x)=>(⟨#[]⟩,x,true)
def eI:Option Nat→Int
 |none=> -1
 |some x=>(x:Int)
structure NqI(s:ByteArray)(Q:Option (List ByteArray×Nat)×Nat)(a:Nat)(b:Bool)(l:List ByteArray)(e:Option Nat)(fr:Nat):Prop where
 ha:a≤1000000
 hl:l.length≤9
 hz:∀x∈l,x.size≤1000
 he:e.getD 0≤1000000
 hf:fr≤1000000
 no:b=false→l.length≤8∧∃f,fr+10≤f+l.length∧Je s f a l e fr=Q
 yes:b=true→Q=(none,a)
section
variable {s:ByteArray} {Q:Option (List ByteArray×Nat)×Nat} {a fr:Nat} {l:List ByteArray} {e:Option Nat}
theorem NqI.out(h:NqI s Q a false l e fr)(c:¬a+1≤s.size):Q=(none,max a s.size):=by
 obtain⟨h8,f,hf,hq⟩:=h.no rfl;obtain⟨f,rfl⟩:∃f',f=f'+1:=⟨f-1,by omega⟩;rw[←hq,Je,if_neg c]
theorem NqI.zero(h:NqI s Q a false l e fr)(c:a+1≤s.size)(c0:atB s a=0):Q=(some (l,e.getD (a+1)),0):=by
 obtain⟨h8,f,hf,hq⟩:=h.no rfl;obtain⟨f,rfl⟩:∃f',f=f'+1:=⟨f-1,by omega⟩;rw[←hq,Je,if_pos c,if_pos c0]
theorem Ag1(s:ByteArray)(a:Nat):(atB s a-192)*256+atB s (a+1)≤1000000:=by
 have:=Is s a;have:=Is s (a+1);omega
theorem Ael{e:Option Nat}{x:Nat}(h:e.getD 0≤1000000)(hx:x≤1000000):(some (e.getD x)).getD 0≤1000000:=by
 cases e with
 |none=>exact hx
 |some y=>exact h
theorem Akz(h:∀x∈l,x.size≤1000){n:Nat}(hn:n<256)(b:Nat):∀x∈l++[bA (Du s b n)],x.size≤1000:=fun x hx=>by
 rcases XM.1 hx with hx|hx
 ·exact h x hx
 ·rw[XN]at hx;subst hx;rw[D2,Y4];omega
theorem Ts{b:Bool}{p:List ByteArray×Nat}{x:Nat}(h:Abk s a b=(some p,x)):Dp s a b=(Df Kk p.1,p.2,false):=by unfold Dp;rw[h]
theorem O0{b:Bool}{x:Nat}(h:Abk s a b=(none,x)):Dp s a b=(⟨#[]⟩,x,true):=by unfold Dp;rw[h]
end
end Pl
namespace Pl
def M1(s:ByteArray)(a:Nat)(b:Bool):Nat×Bool:=bif b then(a,true)else(Aq s 2 a,(B6 s 2 a:Int) !=1)
def Uk(a e:Nat)(b:Bool):Bool:=bif b then true else((a:Int) !=(e:Int))
def Aa1(s:ByteArray)(nm:ByteArray)(t ls a e:Nat):Option (Rr×Nat×Bool):=
 if t=1 then some (⟨nm,t,ls,B6 s 4 a,⟨#[]⟩,0,⟨#[]⟩⟩,Aq s 4 a,Uk (Aq s 4 a) e (B7 s 4 a false))
 else if t=16 then
  if B7 s 1 a false=true∨s.size<Aq s 1 a+B6 s 1 a then none
  else some (⟨nm,t,ls,0,s.extract (Aq s 1 a) (Aq s 1 a+B6 s 1 a),0,⟨#[]⟩⟩,Aq s 1 a+B6 s 1 a,Uk (Aq s 1 a+B6 s 1 a) e false)
 else if t=33 then
  some (⟨nm,t,ls,0,⟨#[]⟩,B6 s 2 (Aq s 4 a),(Dp s (Aq s 2 (Aq s 4 a)) (B7 s 2 (Aq s 4 a) ((B6 s 4 a:Int) !=0))).1⟩,
   (Dp s (Aq s 2 (Aq s 4 a)) (B7 s 2 (Aq s 4 a) ((B6 s 4 a:Int) !=0))).2.1,
   Uk (Dp s (Aq s 2 (Aq s 4 a)) (B7 s 2 (Aq s 4 a) ((B6 s 4 a:Int) !=0))).2.1 e (Dp s (Aq s 2 (Aq s 4 a)) (B7 s 2 (Aq s 4 a) ((B6 s 4 a:Int) !=0))).2.2)
 else some (⟨nm,t,ls,0,⟨#[]⟩,0,⟨#[]⟩⟩,a,Uk a e false)
def Xx(s:ByteArray)(nm:ByteArray)(a1:Nat)(b1:Bool):Option (Rr×Nat×Bool):=
 let o:=M1 s (Aq s 2 a1) (B7 s 2 a1 b1)
 if B7 s 6 o.1 o.2=true∨s.size<Aq s 6 o.1+B6 s 2 (Aq s 4 o.1)then none
 else Aa1 s nm (B6 s 2 a1) (B6 s 4 o.1) (Aq s 6 o.1) (Aq s 6 o.1+B6 s 2 (Aq s 4 o.1))
def Oj(s:ByteArray)(a:Nat):Option (Rr×Nat×Bool):=Xx s (Dp s a false).1 (Dp s a false).2.1 (Dp s a false).2.2
def Gy(s:ByteArray):Nat→Nat→Bool→List Rr→Option (List Rr×Nat×Bool)
 |0,a,b,L=>some (L,a,b)
 |n+1,a,b,L=>bif b then some (L,a,true)else(Oj s a).bind fun r=>Gy s n r.2.1 r.2.2 (L++[r.1])
structure Hd where
 id:Nat
 fl:Nat
 co:Nat
 one:Nat
 n:Nat
 z:Nat
def hdS(s:ByteArray):Hd:=⟨B6 s 2 0,B6 s 1 (Aq s 2 0),B6 s 1 (Aq s 3 0),B6 s 2 (Aq s 4 0),B6 s 2 (Aq s 6 0),B6 s 4 (Aq s 8 0)⟩
def Hd.ok(h:Hd):Prop:=(h.fl=0∨h.fl=2∨h.fl=128∨h.fl=130)∧h.co≤15∧h.one=1∧h.n≤20∧h.z=0
instance (h:Hd):Decidable h.ok:=by unfold Hd.ok;exact inferInstance
theorem Aaw{s:ByteArray}(hs:s.size≤1000000):∀(f a:Nat) (l:List ByteArray) (e:Option Nat) (fr:Nat),a≤1000000→e.getD 0≤1000000→l.length≤8→(∀x∈l,x.size≤1000)→
  (Je s f a l e fr).2≤1000000∧∀p,(Je s f a l e fr).1=some p→p.2≤1000000∧p.1.length≤8∧∀x∈p.1,x.size≤1000
 |0,a,l,e,fr,ha,he,hl,hz=>⟨ZU _,fun p h=>by cases h⟩
 |f+1,a,l,e,fr,ha,he,hl,hz=>by
  have ht:=Ag1 s a;have hb:=Is s a;unfold Je;split
  ·split
   ·refine⟨ZU _,fun p h=>?_⟩;cases h;refine⟨?_,hl,hz⟩;cases e with
    |none=>show a+1≤_;omega
    |some y=>exact he
   ·split
    ·split
     ·exact Aaw hs f _ l _ _ ht (Ael he (by omega)) hl hz
     ·exact⟨ht,fun p h=>by cases h⟩
    ·split
     ·rename_i h3;exact Aaw hs f _ _ e fr (Bj (by omega) hs) he (by rw[ZF];exact h3.2.2) (Akz hz hb _)
     ·exact⟨Bj (by omega) hs,fun p h=>by cases h⟩
  ·exact⟨by show max a s.size≤_;omega,fun p h=>by cases h⟩
theorem Uf{s:ByteArray}(hs:s.size≤1000000){a:Nat}(ha:a≤1000000)(b:Bool):(Dp s a b).2.1≤1000000∧(Dp s a b).1.size≤10000:=by
 cases b with
 |true=>exact⟨ha,show(⟨#[]⟩:ByteArray).size≤10000 from by decide⟩
 |false=>
  obtain⟨h1,h2⟩:=Aaw hs (a+10) a [] none a ha (by simp) (by simp) (by simp);rcases hq:Je s (a+10) a [] none a with⟨_|p,x⟩
  ·rw[O0 (b:=false) hq];rw[hq]at h1;exact⟨h1,show(⟨#[]⟩:ByteArray).size≤10000 from by decide⟩
  ·rw[Ts (b:=false) hq];rw[hq]at h2;obtain⟨g1,g2,g3⟩:=h2 p rfl;refine⟨g1,?_⟩;have:=Ads p.1 g3 p.1.length (ZT _);rw[XF]at this;show(Df Kk p.1).size≤_;omega
theorem Amq{s:ByteArray}(hs:s.size≤1000000){a:Nat}(ha:a≤1000000)(b:Bool):(M1 s a b).1≤1000000:=by
 cases b with
 |true=>exact ha
 |false=>exact Bj ha hs
structure Rr.Sh(r:Rr):Prop where
 nm:r.nm.size≤1000000
 tx:r.tx.size≤1000000
 tg:r.tg.size≤1000000
theorem Asm{s:ByteArray}(hs:s.size≤1000000){nm:ByteArray}(hn:nm.size≤10000){t ls a e:Nat}(ha:a≤1000000){r:Rr}{a':Nat}{b':Bool}(h:Aa1 s nm t ls a e=some (r,a',b')):r.Sh∧a'≤1000000:=by
 have h0:(⟨#[]⟩:ByteArray).size=0:=rfl;unfold Aa1 at h;split at h
 ·cases h;exact⟨⟨by show nm.size≤_;omega,by show(⟨#[]⟩:ByteArray).size≤_;omega,by show(⟨#[]⟩:ByteArray).size≤_;omega⟩,Bj ha hs⟩
 ·split at h
  ·split at h
   ·cases h
   ·rename_i h3;cases h;refine⟨⟨by show nm.size≤_;omega,?_,by show(⟨#[]⟩:ByteArray).size≤_;omega⟩,?_⟩
    ·show(s.extract (Aq s 1 a) (Aq s 1 a+B6 s 1 a)).size≤_;rw[ByteArray.size_extract];omega
    ·simp only[not_or]at h3;omega
  ·split at h
   ·cases h;obtain⟨g1,g2⟩:=Uf hs (Bj (Bj ha hs) hs:Aq s 2 (Aq s 4 a)≤1000000) (B7 s 2 (Aq s 4 a) ((B6 s 4 a:Int) !=0));exact⟨⟨by show nm.size≤_;omega,by show(⟨#[]⟩:ByteArray).size≤_;omega,XI g2 (by decide)⟩,g1⟩
   ·cases h;exact⟨⟨by show nm.size≤_;omega,by show(⟨#[]⟩:ByteArray).size≤_;omega,by show(⟨#[]⟩:ByteArray).size≤_;omega⟩,ha⟩
theorem Aul{s:ByteArray}(hs:s.size≤1000000){a:Nat}(ha:a≤1000000){r:Rr}{a':Nat}{b':Bool}(h:Oj s a=some (r,a',b')):r.Sh∧a'≤1000000:=by
 obtain⟨g1,g2⟩:=Uf hs ha false;unfold Oj Xx at h;simp only at h;split at h
 ·cases h
 ·exact Asm hs g2 (Bj (Amq hs (Bj g1 hs) _) hs) h
structure RsI(s:ByteArray)(n:Nat)(R:Option (List Rr×Nat×Bool))(k a:Nat)(b:Bool)(L:List Rr):Prop where
 hr:Gy s (n-k) a b L=R
 hk:k≤n
 hl:L.length=k
 ha:a≤1000000
 hz:∀r∈L,r.Sh
section
variable {s:ByteArray} {n k a:Nat} {R:Option (List Rr×Nat×Bool)} {L:List Rr} {b:Bool}
theorem RsI.next(h:RsI s n R k a false L)(hs:s.size≤1000000)(hk:k<n){r:Rr}{a':Nat}{b':Bool}(e:Oj s a=some (r,a',b')):RsI s n R (k+1) a' b' (L++[r]):=by
 have hb:=Aul hs h.ha e;refine⟨?_,hk,by rw[ZF,h.hl];rfl,hb.2,fun x hx=>?_⟩
 ·have:=h.hr;rw[show n-k=(n-(k+1))+1 by omega,Gy,e]at this;exact this
 ·rcases XM.1 hx with hx|hx
  ·exact h.hz x hx
  ·rw[XN.1 hx];exact hb.1
theorem RsI.none(h:RsI s n R k a false L)(hk:k<n)(e:Oj s a=none):R=none:=by
 rw[←h.hr,show n-k=(n-(k+1))+1 by omega,Gy,e];rfl
end
end Pl
namespace Pl
section
variable {s:ByteArray} {a:Nat}
theorem Hw(h:a+1≤s.size):Cr s a=some (atB s a,a+1):=by
 unfold Cr atB;have:s[a]? =some s[a]:=by simp
 rw[this];rfl
theorem Qv:Dx s a 2=atB s a*256+atB s (a+1):=by
 show 256*(256*0+atB s (a+0))+atB s (a+1)=_;rw[Nat.add_zero];omega
theorem Nn:Dx s a 4=Dx s a 2*65536+Dx s (a+2) 2:=by
 rw[Qv,Qv];show 256*(256*Dx s a 2+atB s (a+2))+atB s (a+3)=_;rw[Qv,show a+2+1=a+3 from rfl];omega
theorem Dt(h:a+2≤s.size):Bt s a=some (Dx s a 2,a+2):=by
 unfold Bt;rw[Hw (by omega),ZA];simp only;rw[Hw (by omega),ZA,Qv]
end
end Pl
namespace Pl
section
variable {s:ByteArray} {nm:ByteArray} {t ls a e:Nat}
end
end Pl
namespace Pl
def Amh(s:ByteArray)(i fl co n:Nat):Option Ms:=
 (Eq s 12).bind fun m=>(Bt s m.2).bind fun t=>(Bt s t.2).bind fun d=>if d.1=1 then
  (Fg s n d.2).bind fun l=>if l.2=s.size then some ⟨i,decide (128≤fl),decide (fl%4≥2),co,m.1,t.1,l.1⟩else none
 else none
theorem Alt{s:ByteArray}(h:12≤s.size):hdS s=⟨Dx s 0 2,atB s 2,atB s 3,Dx s 4 2,Dx s 6 2,Dx s 8 4⟩:=by
 unfold hdS;rw[(Cf (s:=s) (k:=2) (a:=0) (b:=false) (by omega)).1,(Cf (s:=s) (k:=2) (a:=0) (b:=false) (by omega)).2.1,(Cf (s:=s) (k:=3) (a:=0) (b:=false) (by omega)).2.1,(Cf (s:=s) (k:=4) (a:=0) (b:=false) (by omega)).2.1,(Cf (s:=s) (k:=6) (a:=0) (b:=false) (by omega)).2.1,(Cf (s:=s) (k:=8) (a:=0) (b:=false) (by omega)).2.1];simp only[Nat.zero_add];rw[Nm,Nm,(Cf (s:=s) (k:=2) (a:=4) (b:=false) (by omega)).1,(Cf (s:=s) (k:=2) (a:=6) (b:=false) (by omega)).1,(Cf (s:=s) (k:=4) (a:=8) (b:=false) (by omega)).1]
theorem Ad2{s:ByteArray}(h:12≤s.size):Od s=if(hdS s).ok then Amh s (Dx s 0 2) (atB s 2) (atB s 3) (Dx s 6 2)else none:=by
 have hh:=Alt h;have hz:=Nn (s:=s) (a:=8);unfold Od;rw[Dt (by omega),ZA];simp only[Nat.zero_add];rw[Hw (by omega),ZA];simp only;rw[Hw (by omega),ZA];simp only;have hfl:Af0 (atB s 2)=true↔(atB s 2=0∨atB s 2=2∨atB s 2=128∨atB s 2=130):=by
  unfold Af0;simp[or_assoc]
 by_cases c1:(Af0 (atB s 2)&&decide (atB s (2+1)<16))=true;rotate_left
 ·rw[if_neg c1,if_neg (fun q=>c1 (by rw[hh]at q;have q1:=q.1;have q2:=q.2.1;simp only at q1 q2;rw[hfl.2 q1,show decide (atB s (2+1)<16)=true from ZX (show atB s 3<16 by omega)];rfl))]
 rw[if_pos c1,Dt (by omega),ZA];simp only;rw[ZO]at c1;have c1b:=ZV c1.2;by_cases c2:Dx s (2+1+1) 2=1;rotate_left
 ·rw[if_neg c2,if_neg (fun q=>c2 (by rw[hh]at q;exact q.2.2.1))]
 rw[if_pos c2,Dt (by omega),ZA];simp only;by_cases c3:Dx s (2+1+1+2) 2≤20;rotate_left
 ·rw[if_neg c3,if_neg (fun q=>c3 (by rw[hh]at q;exact q.2.2.2.1))]
 rw[if_pos c3,Dt (by omega),ZA];simp only;by_cases c4:Dx s (2+1+1+2+2) 2=0;rotate_left
 ·rw[if_neg c4,if_neg (fun q=>c4 (by rw[hh]at q;have q1:=q.2.2.2.2;simp only at q1;show Dx s 8 2=0;omega))]
 rw[if_pos c4,Dt (by omega),ZA];simp only;by_cases c5:Dx s (2+1+1+2+2+2) 2=0;rotate_left
 ·rw[if_neg c5,if_neg (fun q=>c5 (by rw[hh]at q;have q1:=q.2.2.2.2;simp only at q1;show Dx s 10 2=0;rw[show 8+2=10 from rfl]at hz;omega))]
 have hok:(hdS s).ok:=by
  rw[hh];have d4:Dx s 8 2=0:=c4;have d5:Dx s (8+2) 2=0:=c5;exact⟨hfl.1 c1.1,show atB s 3≤15 from Nat.le_of_lt_succ c1b,c2,c3,by show Dx s 8 4=0;rw[hz,d4,d5]⟩
 rw[if_pos c5,if_pos hok];rfl
theorem Aa9{s:ByteArray}(h:¬12≤s.size):Od s=none:=by
 rcases hm:Od s with _|m
 ·rfl
 ·exfalso;unfold Od at hm;rcases e1:Bt s 0 with _|⟨x1,a1⟩
  ·rw[e1]at hm;cases hm
  rw[e1,ZA]at hm;simp only at hm;rcases e2:Cr s a1 with _|⟨x2,a2⟩
  ·rw[e2]at hm;cases hm
  rw[e2,ZA]at hm;simp only at hm;rcases e3:Cr s a2 with _|⟨x3,a3⟩
  ·rw[e3]at hm;cases hm
  rw[e3,ZA]at hm;simp only at hm;split at hm;rotate_left
  ·cases hm
  rcases e4:Bt s a3 with _|⟨x4,a4⟩
  ·rw[e4]at hm;cases hm
  rw[e4,ZA]at hm;simp only at hm;split at hm;rotate_left
  ·cases hm
  rcases e5:Bt s a4 with _|⟨x5,a5⟩
  ·rw[e5]at hm;cases hm
  rw[e5,ZA]at hm;simp only at hm;split at hm;rotate_left
  ·cases hm
  rcases e6:Bt s a5 with _|⟨x6,a6⟩
  ·rw[e6]at hm;cases hm
  rw[e6,ZA]at hm;simp only at hm;split at hm;rotate_left
  ·cases hm
  rcases e7:Bt s a6 with _|⟨x7,a7⟩
  ·rw[e7]at hm;cases hm
  have:=Bk e1;have:=C4 e2;have:=C4 e3;have:=Bk e4;have:=Bk e5;have:=Bk e6;have:=Bk e7;omega
end Pl
namespace Pl
def Ma(e:Int):Int:=if e=8 then 4 else 0
noncomputable def Hj(k:Kn)(m:Ms)(G:Qr→List Sv):Ms:=
 if(A8 m.qn).2≠0 then⟨m.id,true,false,if Ma (A8 m.qn).2=0 then 3 else Ma (A8 m.qn).2,m.qn,m.qt,[]⟩
 else if(C7 k (A8 m.qn).1 m.qt (G (A8 m.qn).1)).2.2≠0 then⟨m.id,true,false,2,m.qn,m.qt,[]⟩
 else⟨m.id,true,false,(C7 k (A8 m.qn).1 m.qt (G (A8 m.qn).1)).2.1,m.qn,m.qt,(C7 k (A8 m.qn).1 m.qt (G (A8 m.qn).1)).1⟩
end Pl
theorem Ami{env:Nat→V}{H:Nat→Option Ent}{ts:List RT}{cs cs':List V}(hG:Jp env H ts [.agg cs])(hc:Ek H [] cs cs'):∃us gone,Jp env H ts us∧A7 H gone true gone us [.c (.agg cs')]:=⟨_,[],hG,.bora hc (.nil _)⟩
theorem Aq6(e:Int):Fun Tryz.prog 62 [.c (.v (.int .i64 e))] [.c (.v (.int .i64 (Ma e)))]:=by
 refine Ar Y9 rfl ?_;refine G1 ?_;intro gg;refine⟨[],none,rfl,As rfl,rfl,?_⟩;refine G0 ?_;by_cases h:e=8
 ·subst h;refine⟨some (0,V.v (.int .i64 4)),rfl,?_⟩;refine G0 ?_;(exact⟨[],aI⟩)
 ·refine⟨none,?_,?_⟩
  ·show Gn (.int .i64) (.int .i64 e) [(.int .i64 8,.v (.int .i64 4))] 0=some none;simp[Gn,Instr.sameNow,show(e==8)=false from ZG.2 h]
  refine G0 ?_;rw[show Ma e=0 from if_neg h];(exact⟨[],aI⟩)
set_option maxHeartbeats 1000000 in
theorem Ao3(k:Kn)(m:Ms)(G:Qr→List Sv)(hm:m.qn.size≤1000000000000)(hR:(A8 m.qn).2=0→Fun Tryz.prog 8 [.c (.agg (A8 m.qn).1.row),.c (.v (.int .i64 m.qt)),.c (.v (.string k.here)),.c (.sl false (k.l.map Sv.row)),.c (.sl false (k.ms.map Mb.row)),.c (.agg k.f.row),.c (.sl false (k.wh.map Wh.row))]
   [.o 42 7 ((C7 k (A8 m.qn).1 m.qt (G (A8 m.qn).1)).1.map Rr.row),.c (.v (.int .i64 (C7 k (A8 m.qn).1 m.qt (G (A8 m.qn).1)).2.1)),.c (.v (.int .i64 (C7 k (A8 m.qn).1 m.qt (G (A8 m.qn).1)).2.2))]):
  Fun Tryz.prog 30 [.c (.agg m.row),.c (.v (.string k.here)),.c (.sl false (k.l.map Sv.row)),.c (.sl false (k.ms.map Mb.row)),.c (.agg k.f.row),.c (.sl false (k.wh.map Wh.row))] [.c (.agg (Hj k m G).row)]:=by
 have hP:=Aky m.qn hm;refine Ae5 X7 rfl ?_;(refine goI ?_;repeat (intro gg;refine goI ?_));(refine .inl ⟨_,_,false,[],aI,hP,Ab,nI,?_⟩);unfold Hj;generalize A8 m.qn=P at *;(refine goI ?_;repeat (intro gg;refine goI ?_));by_cases c:P.2=0;rotate_left
 ·rw[if_pos c,show(P.2 !=0)=true from ZZ.2 c];refine G0 ?_;(refine .inl ⟨_,_,false,[],aI,Aq6 P.2,Ab,nI,?_⟩);refine G1 ?_;intro gg;by_cases d:Ma P.2=0
  ·rw[if_pos d,d];refine G0 ?_;exact Ami (.cell1 rfl rfl rfl rfl rfl rfl .nil) cBI
  ·rw[if_neg d,show(Ma P.2==0)=false from ZG.2 d];refine G0 ?_;exact Ami (.cell1 rfl rfl rfl rfl rfl rfl .nil) cBI
 have hR0:=hR c;rw[if_neg (by simpa using c),c];generalize C7 k P.1 m.qt (G P.1)=X at *;refine G0 ?_;(refine .inl ⟨_,_,false,[],aI,hR0,Ab,nI,?_⟩);refine G1 ?_;intro gg;by_cases d:X.2.2=0;rotate_left
 ·rw[if_pos d,show(X.2.2 !=0)=true from ZZ.2 d];refine G0 ?_;exact Ami (.cell1 rfl rfl rfl rfl rfl rfl .nil) cBI
 rw[if_neg (by simpa using d),d];refine G0 ?_;exact Ami (.cell1 rfl rfl rfl rfl rfl rfl .nil) cBI
namespace Pl
noncomputable def Dq(k:Kn)(s:ByteArray)(G:Qr→List Sv):Ms:=
 if(rdP s).2=0∧(rdP s).1.rs.length=0 then Hj k (rdP s).1 G else⟨((atB s 0*256+atB s 1:Nat):Int),true,false,1,⟨#[]⟩,1,[]⟩
noncomputable def Eu(k:Kn)(s:ByteArray)(G:Qr→List Sv):ByteArray×Bool×Int:=
 if k.err≠0 then(⟨#[]⟩,false,k.err)
 else if s.size<12∨128≤atB s 2 then(⟨#[]⟩,false,0)
 else((Jn (Dq k s G) 512).1,(Jn (Dq k s G) 512).2==0,(Jn (Dq k s G) 512).2)
end Pl
theorem R6{u:V}(u':V){ps:List Par}{xs:List Value}{b:Nat}(h:A2 (.c u::ps) xs b):A2 (.c u'::ps) xs b:=by
 obtain⟨i,T,sz,rows,x,h1,h2⟩:=h;rcases i with _|i
 ·cases h1
 ·exact⟨i+1,T,sz,rows,x,h1,h2⟩
theorem Fun.sub_hd{P:Program}{f:FuncId}{u u':V}{ps rs:List Par}(h:Fun P f (.c u::ps) rs)(hs:∀(w:World) (R:Nat→Prop) (x:Value),RV w R noG u' x→RV w R noG u x):Fun P f (.c u'::ps) rs:=by
 refine⟨h.1,fun w R xs hlt hp=>?_⟩;have hp':Kx w R (.c u::ps) xs:=by
  refine⟨hp.len,fun i p x h1 h2=>?_,fun i j T sz rows T' sz' rows' x y b hij h1 h2 h3 h4=>?_,fun b hb=>hp.free b (R6 u' hb)⟩
  ·rcases i with _|i
   ·cases h1;exact hs w R x (hp.ok 0 _ _ rfl h2)
   ·exact hp.ok (i+1) p x h1 h2
  ·rcases i with _|i
   ·cases h1
   ·rcases j with _|j
    ·cases h2
    ·exact hp.apart (i+1) (j+1) T sz rows T' sz' rows' x y b hij h1 h2 h3 h4
 refine(h.2 w R xs hlt hp').mono ?_
 rintro e w' ⟨ys,R',h1,h2,h3,h4,h5,h6⟩
 exact⟨ys,R',h1,⟨h2.os,h2.tape,h2.output,h2.size,fun k hk hn=>h2.block k hk fun q=>hn (R6 u' q)⟩,h3,fun b hb=>(h4 b hb).imp id fun g=>⟨g.1,g.2.imp (R6 u') id⟩,h5,fun b hb=>(h6 b hb).imp (R6 u') id⟩
set_option maxHeartbeats 2000000 in
theorem Ano(k:Kn)(s:ByteArray)(G:Qr→List Sv)(hk:k.In)(hs:s.size≤9223372036854775807)(hRd:Fun Tryz.prog 17 [.c (.v (.string s))] [.c (.agg (rdP s).1.row),.c (.v (.int .i64 (rdP s).2))])(hr:Fun Tryz.prog 30 [.c (.agg (rdP s).1.row),.c (.v (.string k.here)),.c (.sl false (k.l.map Sv.row)),.c (.sl false (k.ms.map Mb.row)),.c (.agg k.f.row),.c (.sl false (k.wh.map Wh.row))] [.c (.agg (Hj k (rdP s).1 G).row)])(hFit:Fun Tryz.prog 31 [.c (.agg (Dq k s G).row),.c (.v (.int .i64 512))] [.c (.v (.string (Jn (Dq k s G) 512).1)),.c (.v (.int .i64 (Jn (Dq k s G) 512).2))]):
  Fun Tryz.prog 13 [.c (.v (.string s)),.c (.v (.string k.here)),.c (.sl false (k.l.map Sv.row)),.c (.sl false (k.ms.map Mb.row)),.c (.agg k.f.row),.c (.sl false (k.wh.map Wh.row))]
   [.c (.v (.string (Eu k s G).1)),.c (.v (.bool (Eu k s G).2.1)),.c (.v (.int .i64 (Eu k s G).2.2))]:=by
 have hA:Eu k s G=(if k.err≠0 then(⟨#[]⟩,false,k.err)
  else if s.size<12∨128≤atB s 2 then(⟨#[]⟩,false,0)
  else((Jn (Dq k s G) 512).1,(Jn (Dq k s G) 512).2==0,(Jn (Dq k s G) 512).2):ByteArray×Bool×Int):=rfl
 refine Ar Yl rfl ?_;refine G1 ?_;intro gg;(refine .inl ⟨_,_,false,[],aI,Adr k hk,Ab,nI,?_⟩);refine G1 ?_;intro gg;by_cases c1:k.err=0;rotate_left
 ·rw[if_pos c1]at hA;rw[hA,show(k.err !=0)=true from ZZ.2 c1];refine G0 ?_;(exact⟨[],aI⟩)
 rw[if_neg (by simpa using c1)]at hA;rw[c1];refine G0 ?_;by_cases c2:s.size<12
 ·rw[if_pos (.inl c2)]at hA;rw[hA,show decide ((s.size:Int)<12)=true from ZX (by omega)];refine G0 ?_;(exact⟨[],aI⟩)
 rw[show decide ((s.size:Int)<12)=false from ZY (by omega)];obtain⟨b0,hb0⟩:∃c,s[0]? =some c:=⟨s[0],by simp⟩;obtain⟨b1,hb1⟩:∃c,s[1]? =some c:=⟨s[1],by simp⟩;obtain⟨b2,hb2⟩:∃c,s[2]? =some c:=⟨s[2],by simp⟩;have q0:=Gu hb0;have q1:=Gu hb1;have q2:=Gu hb2;have l0:=b0.toNat_lt;have l1:=b1.toNat_lt;refine G0 ?_;refine⟨2,b2,rfl,hb2,?_⟩;refine G0 ?_;by_cases c3:128≤atB s 2
 ·rw[if_pos (.inr c3)]at hA;rw[hA,show decide ((128:Int)≤(b2.toNat:Int))=true from ZX (by omega)];refine G0 ?_;(exact⟨[],aI⟩)
 rw[if_neg (fun z=>z.elim c2 c3)]at hA;rw[show decide ((128:Int)≤(b2.toNat:Int))=false from ZY (by omega)];refine G0 ?_;(refine .inl ⟨_,_,false,[],aI,hRd,Ab,nI,?_⟩);(refine goI ?_;repeat (intro gg;refine goI ?_));refine⟨0,b0,rfl,hb0,?_⟩;refine G0 ?_;refine⟨by decide,_,Arc l0,?_⟩;refine G0 ?_;refine⟨1,b1,rfl,hb1,?_⟩;refine G0 ?_;refine⟨_,or8 l0 l1,?_⟩;refine G1 ?_;intro gg;rw[←q0,←q1];have hM:Dq k s G=(if(rdP s).2=0∧(rdP s).1.rs.length=0 then Hj k (rdP s).1 G else⟨((atB s 0*256+atB s 1:Nat):Int),true,false,1,⟨#[]⟩,1,[]⟩:Ms):=rfl;generalize Dq k s G=M at *;generalize rdP s=P at *;by_cases c4:P.2=0;rotate_left
 ·rw[if_neg (fun z=>c4 z.1)]at hM;have hFn:=hFit.sub_hd (u':=.agg (Zv M)) fun w R x h=>Aiy (by rw[hM]) h;subst hM;rw[hA,show(P.2==0)=false from ZG.2 c4];refine G0 ?_;(refine .inl ⟨_,_,false,[],aI,hFn,Ab,nI,?_⟩);refine G1 ?_;intro gg;(exact⟨[],aI⟩)
 rw[c4];refine G0 ?_;rw[ZE];by_cases c5:P.1.rs.length=0;rotate_left
 ·rw[if_neg (fun z=>c5 z.2)]at hM;have hFn:=hFit.sub_hd (u':=.agg (Zv M)) fun w R x h=>Aiy (by rw[hM]) h;subst hM;rw[hA,show((P.1.rs.length:Int)==0)=false from ZG.2 (by omega)];refine G0 ?_;(refine .inl ⟨_,_,false,[],aI,hFn,Ab,nI,?_⟩);refine G1 ?_;intro gg;(exact⟨[],aI⟩)
 rw[if_pos ⟨c4,c5⟩]at hM;rw[hA,c5];refine G0 ?_;(refine .inl ⟨_,_,false,[],aI,hr,Ab,nI,?_⟩);refine G1 ?_;intro gg;rw[←hM];refine G0 ?_;(refine .inl ⟨_,_,false,[],aI,hFit,Ab,nI,?_⟩);refine G1 ?_;intro gg;(exact⟨[],aI⟩)
namespace Pl
def Fy(n:ByteArray)(K:List Sv):List Sv:=K.filter fun s=>s.nd.toList==n.toList
def Vy(ns:List ByteArray)(s:Sv):List ByteArray:=bif ns.any (fun n=>n.toList==s.nd.toList)then ns else ns++[s.nd]
def nms(K:List Sv):List ByteArray:=K.foldl Vy []
theorem P9(K:List Sv)(s:Sv):nms (K++[s])=Vy (nms K) s:=by simp[nms,List.foldl_append]
theorem tEq{a b:ByteArray}:(a.toList==b.toList)=true↔a=b:=⟨fun h=>toList_inj (ZR.1 h),fun h=>by rw[h];exact beq_self_eq_true _⟩
theorem Aq4{ns:List ByteArray}{m:ByteArray}:ns.any (fun n=>n.toList==m.toList)=true↔m∈ns:=by
 rw[List.any_eq_true];exact⟨fun⟨n,h1,h2⟩=>tEq.1 h2▸h1,fun h=>⟨m,h,tEq.2 rfl⟩⟩
theorem Rz{ns:List ByteArray}{s:Sv}(h:s.nd∈ns):Vy ns s=ns:=by unfold Vy;rw[Aq4.2 h];rfl
theorem N3{ns:List ByteArray}{s:Sv}(h:s.nd∉ns):Vy ns s=ns++[s.nd]:=by
 unfold Vy;rw[XE.2 (fun e=>h (Aq4.1 e))];rfl
theorem Z4:∀(K:List Sv) (ns:List ByteArray),(∀n,n∈K.foldl Vy ns↔n∈ns∨∃s∈K,s.nd=n)∧(ns.Nodup→(K.foldl Vy ns).Nodup)∧(K.foldl Vy ns).length≤ns.length+K.length
 |[],ns=>⟨fun n=>by simp,id,by simp⟩
 |s::K,ns=>by
  obtain⟨h1,h2,h3⟩:=Z4 K (Vy ns s);by_cases h:s.nd∈ns
  ·rw[List.foldl_cons];rw[Rz h]at *;refine⟨fun n=>(h1 n).trans ⟨fun q=>q.imp id fun⟨t,a,b⟩=>⟨t,ZL _ a,b⟩,fun q=>?_⟩,h2,by simp only[ZJ];omega⟩;rcases q with q|⟨t,a,b⟩
   ·exact .inl q
   ·rcases XC.1 a with e|e
    ·subst e;exact .inl (b▸h)
    ·exact .inr ⟨t,e,b⟩
  ·rw[List.foldl_cons];rw[N3 h]at *;refine⟨fun n=>(h1 n).trans ?_,fun hn=>h2 ?_,by simp only[ZJ,ZF,ZN]at *;omega⟩
   ·rw[XM,XN];constructor
    ·rintro ((q|q)|⟨t,a,b⟩)
     ·exact .inl q
     ·exact .inr ⟨s,XB ..,q.symm⟩
     ·exact .inr ⟨t,ZL _ a,b⟩
    ·rintro (q|⟨t,a,b⟩)
     ·exact .inl (.inl q)
     ·rcases XC.1 a with e|e
      ·subst e;exact .inl (.inr b.symm)
      ·exact .inr ⟨t,e,b⟩
   ·rw[List.nodup_append];refine⟨hn,by simp,fun a ha b hb e=>?_⟩;rw[XN]at hb;subst hb;subst e;exact h ha
theorem Ys{K:List Sv}{n:ByteArray}:n∈nms K↔∃s∈K,s.nd=n:=((Z4 K []).1 n).trans (by simp)
theorem Alj(K:List Sv):(nms K).length≤K.length:=by have:=(Z4 K []).2.2;simpa[nms]using this
theorem Af8{K:List Sv}{n:ByteArray}(h:n∈nms K):∃s l,Fy n K=s::l∧s.nd=n:=by
 obtain⟨s,h1,h2⟩:=Ys.1 h;have hm:s∈Fy n K:=List.mem_filter.2 ⟨h1,tEq.2 h2⟩;cases hl:Fy n K with
 |nil=>rw[hl]at hm;cases hm
 |cons t l=>
  have:t∈Fy n K:=by rw[hl];exact XB ..
  exact⟨t,l,rfl,tEq.1 (List.mem_filter.1 this).2⟩
theorem Auc{K:List Sv}{n:ByteArray}(h:n∉nms K):Fy n K=[]:=List.filter_eq_nil_iff.2 fun s hs e=>h (Ys.2 ⟨s,hs,tEq.1 e⟩)
theorem Oe(K:List Sv)(s:Sv)(n:ByteArray):Fy n (K++[s])=Fy n K++(bif s.nd.toList==n.toList then [s]else []):=by
 unfold Fy;rw[List.filter_append,List.filter_cons];cases s.nd.toList==n.toList<;>rfl
theorem S5(k:ByteArray)(v:V):∀(l:List (ByteArray×V)) (o i:Nat) (u:V),look k l o=some (i,u)→look k (l.set (i-o) (k,v)) o=some (i,v)
 |[],o,i,u,h=>by simp[look]at h
 |(a,w)::es,o,i,u,h=>by
  unfold look at h;split at h
  ·simp only[ZD,Prod.mk.injEq]at h;obtain⟨rfl,rfl⟩:=h;simp[look]
  ·rename_i hk;have h1:=(Ro h).1;rw[show i-o=(i-(o+1))+1 by omega,List.set_cons_succ];unfold look;rw[if_neg hk];exact S5 k v es (o+1) i u h
theorem Xh{k k':ByteArray}(hne:k'≠k)(v:V):∀(l:List (ByteArray×V)) (o i:Nat) (u:V),look k l o=some (i,u)→look k' (l.set (i-o) (k,v)) o=look k' l o
 |[],o,i,u,h=>by simp[look]at h
 |(a,w)::es,o,i,u,h=>by
  unfold look at h;split at h
  ·rename_i hk;simp only[ZD,Prod.mk.injEq]at h;obtain⟨rfl,rfl⟩:=h;subst hk;simp[look,hne]
  ·rename_i hk;have h1:=(Ro h).1;rw[show i-o=(i-(o+1))+1 by omega,List.set_cons_succ];unfold look;rw[Xh hne v es (o+1) i u h]
theorem Wy{k k':ByteArray}(v:V):∀(l:List (ByteArray×V)) (o:Nat),look k' (l++[(k,v)]) o=(match look k' l o with
  |some r=>some r
  |none=>if k'=k then some (o+l.length,v)else none)
 |[],o=>by simp[look]
 |(a,w)::es,o=>by
  rw[List.cons_append];unfold look;split
  ·rfl
  ·rw[Wy v es (o+1),ZJ,show o+1+es.length=o+(es.length+1)by omega]
theorem S4(k:ByteArray)(v:V)(l:List (ByteArray×V)):∃j,look k (put l k v) 0=some (j,v):=by
 unfold put;cases h:look k l 0 with
 |none=>exact⟨0+l.length,by simp only[];rw[Wy,h];simp⟩
 |some p=>obtain⟨i,u⟩:=p;exact⟨i,by simpa using S5 k v l 0 i u h⟩
theorem L8{k k':ByteArray}(hne:k'≠k)(v:V)(l:List (ByteArray×V)):look k' (put l k v) 0=look k' l 0:=by
 unfold put;cases h:look k l 0 with
 |none=>simp only[];rw[Wy];cases look k' l 0<;>simp[hne]
 |some p=>obtain⟨i,u⟩:=p;simpa using Xh hne v l 0 i u h
theorem Axe{a b:Sv}(h:a.row=b.row):a.nd=b.nd:=by
 unfold Sv.row at h;injection h with h _
 injection h with h;injection h
structure Grp(T:TypeId)(K:List Sv)(E:List (ByteArray×V))(ss:List SE):Prop where
 has:∀n∈nms K,∃j s,look n E 0=some (j,.v s.val)∧s∈ss∧s.T=T∧s.sz=9∧s.rows=(Fy n K).map Sv.row
 no:∀n,n∉nms K→look n E 0=none
theorem Grp.nil(T:TypeId):Grp T [] [] []:=⟨fun n h=>by simp[nms]at h,fun n _=>rfl⟩
theorem Grp.new{T:TypeId}{K:List Sv}{E:List (ByteArray×V)}{ss:List SE}(h:Grp T K E ss)(s:Sv)(hn:s.nd∉nms K)(b cap:Nat):Grp T (K++[s]) (put E s.nd (.v (SE.val ⟨T,9,b,cap,[s.row]⟩))) (⟨T,9,b,cap,[s.row]⟩::ss):=by
 have e:nms (K++[s])=nms K++[s.nd]:=by rw[P9,N3 hn]
 constructor
 ·intro n hm;rw[e]at hm;by_cases hc:n=s.nd
  ·subst hc;obtain⟨j,hj⟩:=S4 s.nd (.v (SE.val ⟨T,9,b,cap,[s.row]⟩)) E;refine⟨j,_,hj,XB ..,rfl,rfl,?_⟩;rw[Oe,Auc hn,tEq.2 rfl];rfl
  ·have hm':n∈nms K:=by
    rcases XM.1 hm with q|q
    ·exact q
    ·exact absurd (XN.1 q) hc
   obtain⟨j,t,h1,h2,h3,h4,h5⟩:=h.has n hm';refine⟨j,t,by rw[L8 hc];exact h1,ZL _ h2,h3,h4,?_⟩;rw[Oe,XE.2 (fun q=>hc (tEq.1 q).symm),cond_false,List.append_nil];exact h5
 ·intro n hm;rw[e]at hm;rw[L8 (fun q=>hm (XM.2 (.inr (by rw[q];exact List.mem_singleton_self _))))];exact h.no n fun q=>hm (XM.2 (.inl q))
theorem Grp.old{T:TypeId}{K:List Sv}{E:List (ByteArray×V)}{ss1 ss2:List SE}{t:SE}(h:Grp T K E (ss1++t::ss2))(s:Sv)(hn:s.nd∈nms K)(ht:t.rows=(Fy s.nd K).map Sv.row)(b cap:Nat):
  Grp T (K++[s]) (put E s.nd (.v (SE.val ⟨T,9,b,cap,t.rows++[s.row]⟩))) (⟨T,9,b,cap,t.rows++[s.row]⟩::(ss1++ss2)):=by
 have e:nms (K++[s])=nms K:=by rw[P9,Rz hn]
 constructor
 ·intro n hm;rw[e]at hm;by_cases hc:n=s.nd
  ·subst hc;obtain⟨j,hj⟩:=S4 s.nd (.v (SE.val ⟨T,9,b,cap,t.rows++[s.row]⟩)) E;refine⟨j,_,hj,XB ..,rfl,rfl,?_⟩;rw[Oe,tEq.2 rfl,cond_true,ZI,←ht];rfl
  ·obtain⟨j,u,h1,h2,h3,h4,h5⟩:=h.has n hm;refine⟨j,u,by rw[L8 hc];exact h1,ZL _ ?_,h3,h4,?_⟩
   ·rcases XM.1 h2 with q|q
    ·exact XM.2 (.inl q)
    ·rcases XC.1 q with q|q
     ·exfalso;subst q;obtain⟨x,l,p1,p2⟩:=Af8 hm;obtain⟨y,l',r1,r2⟩:=Af8 hn;rw[h5,p1,r1,List.map_cons,List.map_cons]at ht;injection ht with ht _
      exact hc (by rw[←p2,←r2];exact Axe ht)
     ·exact XM.2 (.inr q)
   ·rw[Oe,XE.2 (fun q=>hc (tEq.1 q).symm),cond_false,List.append_nil];exact h5
 ·intro n hm;rw[e]at hm;rw[L8 (fun q=>hm (by rw[q];exact hn))];exact h.no n hm
def fK(k:Kn)(q:Qr):List Sv:=keep (fun s=>Cc k.ms s.nd) (C8 k.l q.sv q.tg).2
noncomputable def Bh(k:Kn)(q:Qr):List Sv:=((Ii (cfN (Bx k.f k.wh)) (nms (fK k q))).flatMap fun n=>Fy n (fK k q)).take 20
theorem Alf{K:List Sv}{m:Nat}(hK:K.length≤m):∀ns:List ByteArray,(ns.flatMap fun n=>Fy n K).length≤ns.length*m
 |[]=>by simp
 |n::ns=>by
  have h1:(Fy n K).length≤m:=XI (List.length_filter_le _ _) hK;have h2:=Alf hK ns;rw[List.flatMap_cons,ZF,ZJ,Nat.add_mul];omega
end Pl
namespace Pl
def Mn(K:List Sv):Prop:=K.Pairwise fun a b=>slt b.nd a.nd=false
theorem Avc{l:List Sv}(h:Cz Sv.lt l=true):Mn l:=by
 rw[Mn,List.pairwise_iff_getElem];intro i j hi hj hij;have:=Ra Sv.lt_trans h j i hj hij;rcases Sv.lt_iff.1 this with q|⟨q,_⟩
 ·exact W6 q
 ·rw[q];exact Fj _
theorem Mn.filter{K:List Sv}(h:Mn K)(p:Sv→Bool):Mn (K.filter p):=List.Pairwise.filter p h
theorem Mn.take{K:List Sv}(h:Mn K)(n:Nat):Mn (K.take n):=h.sublist (List.take_sublist _ _)
theorem Ahy{α:Type}{cf:α→α→Int}{d:List α}{x:α}(h:x∈Ii cf d):x∈d:=(List.mergeSort_perm d _).mem_iff.1 h
theorem Aad{α:Type}{cf:α→α→Int}{d:List α}:(Ii cf d).length=d.length:=(List.mergeSort_perm d _).length_eq
theorem Aes{k:Kn}{q:Qr}{s:Sv}(h:s∈Bh k q):s∈k.l∧Cc k.ms s.nd=false∧Sv.sought q.sv q.tg s=true:=by
 unfold Bh at h;have h:=List.mem_of_mem_take h;obtain⟨n,_,h2⟩:=List.mem_flatMap.1 h;have h3:=(List.mem_filter.1 h2).1;obtain⟨h4,h5⟩:=List.mem_filter.1 h3;have h6:s∈k.l∧Sv.sought q.sv q.tg s=true:=by
  unfold C8 at h4
  repeat' split at h4
  all_goals first
   |(simp at h4;done)
   |exact List.mem_filter.1 h4
 exact⟨h6.1,by simpa using h5,h6.2⟩
theorem Amj(k:Kn)(q:Qr):(Bh k q).length≤20:=by unfold Bh;rw[ZM];omega
theorem Afc{k:Kn}(h:k.err=0):lab k.here.data.toList=true∧Ei k.l=0∧F6 k.ms=0∧k.wh.length≤20∧k.f.err=0∧Cp (k.wh.map fun w=>w.pl.err)=0:=by
 unfold Kn.err at h;cases h0:lab k.here.data.toList with
 |false=>rw[h0]at h;exact absurd h (by decide:¬(1:Int)=0)
 |true=>
  rw[h0]at h;simp only[Bool.not_true,cond_false]at h;by_cases h1:Ei k.l≠0
  ·rw[if_pos h1]at h;exact absurd h h1
  rw[if_neg h1]at h;by_cases h2:F6 k.ms≠0
  ·rw[if_pos h2]at h;exact absurd h h2
  rw[if_neg h2]at h;by_cases h3:20<k.wh.length
  ·rw[if_pos h3]at h;exact absurd h (by decide)
  rw[if_neg h3]at h;by_cases h4:k.f.err≠0
  ·rw[if_pos h4]at h;exact absurd h h4
  rw[if_neg h4]at h;exact⟨rfl,by simpa using h1,by simpa using h2,by omega,by simpa using h4,h⟩
theorem Av6{l:List Sv}(h:Ei l=0):∀s∈l,s.err=0:=fun s hs=>by
 obtain⟨i,hi,e⟩:=List.getElem_of_mem hs;rw[←e];exact(Jo h).2.1 i hi
end Pl
namespace Pl
theorem L3:Ao ⟨#[]⟩=0:=by decide+kernel
theorem V0:em ⟨#[]⟩=true:=by simp[em]
theorem Ah9{s:ByteArray}(h:Ao s=0):(Bv s).length≤249:=by
 obtain⟨h1,h2,_⟩:=Ab4 h;have:=Rs (l:=A5 s) (m:=30) fun x hx=>(Aj2 (h1 x hx)).2;unfold Bv;rw[ZF,List.length_singleton];omega
theorem Abs{m:Ms}(h:m.Good):(Cx (Eh m 0)).length≤512:=by
 have h1:=Ah9 h.qn;have h2:(Eh m 0).rs=[]:=by show m.rs.take 0=[];simp
 unfold Cx;rw[h2];simp only[ZF,Au,ZJ,ZN];show 2*6+(Bv m.qn).length+2*2+0≤512;omega
theorem Z6{m:Ms}(h:m.Good):∀n,∃j,j≤n∧(Cx (Eh m j)).length≤512∧Ny m 512 n=(bA (Cx (Eh m j)),0)
 |0=>⟨0,ZT _,Abs h,Qf (by have:=Abs h;omega)⟩
 |n+1=>by
  by_cases q:((Cx (Eh m (n+1))).length:Int)≤512
  ·exact⟨n+1,ZT _,by omega,Qf q⟩
  ·obtain⟨j,h1,h2,h3⟩:=Z6 h n;exact⟨j,by omega,h2,(Afj q).trans h3⟩
theorem Y8{m:Ms}(h:A4 m=0):∃j,j≤m.rs.length∧(Cx (Eh m j)).length≤512∧Jn m 512=(bA (Cx (Eh m j)),0):=by
 have e0:Jn m 512=if A4 m≠0 then(⟨#[]⟩,A4 m)else Ny m 512 m.rs.length:=rfl
 obtain⟨j,h1,h2,h3⟩:=Z6 (G9 h).1 m.rs.length;exact⟨j,h1,h2,by rw[e0,if_neg (by simp[h]),h3]⟩
theorem Rw{r:Rr}(h1:Ao r.nm=0)(h2:Fk r.ty=true)(h3:wIn r.ls 0 2147483647=true)(h4:r.un=true)(h5:wIn r.ad 0 4294967295=true)(h6:wIn r.pt 0 65535=true)(h7:r.tx.size≤200)(h8:Ao r.tg=0):Cu r=0:=by
 unfold Cu;rw[if_neg (by simp[h1]),h2,h3,h4,h5,h6,if_neg (by omega),h8];rfl
theorem Aw7 {s : Sv} (h : s.err = 0) : lab s.nd.data.toList = true ∧ lab s.id.data.toList = true ∧ wIn s.ad 0 4294967295 = true ∧ wIn s.pt 0 65535 = true := by
  unfold Sv.err at h
  repeat' split at h
  all_goals first
    | (simp at h; done)
    | (simp only [Ae2] at *
       refine ⟨by assumption, by assumption, ?_, ?_⟩ <;> unfold wIn <;> simp_all)
theorem Auw{here nm:ByteArray}{t:Int}{s:Sv}(hs:s.err=0)(hn:Ao nm=0)(ht:Fk t=true)(e:(C3 here t nm s).2=0):Cu (C3 here t nm s).1=0:=by
 obtain⟨b1,b2,b3,b4⟩:=Aw7 hs;have w0:∀b:Int,0≤b→wIn 0 0 b=true:=fun b hb=>by unfold wIn;simp[hb]
 have hz:(⟨#[]⟩:ByteArray).size≤200:=by decide
 by_cases t1:t=1
 ·subst t1;rw[show C3 here 1 nm s=(⟨nm,1,0,s.ad,⟨#[]⟩,0,⟨#[]⟩⟩,0)from if_pos rfl];exact Rw hn rfl (w0 _ (by decide)) (by simp[Rr.un,V0]) b3 (w0 _ (by decide)) hz L3
 by_cases t16:t=16
 ·subst t16;rw[show C3 here 16 nm s=(⟨nm,16,0,0,s.id,0,⟨#[]⟩⟩,0)from(if_neg (by decide)).trans (if_pos rfl)];exact Rw hn rfl (w0 _ (by decide)) (by simp[Rr.un,V0]) (w0 _ (by decide)) (w0 _ (by decide)) (by have:=(Aj2 b2).2;show s.id.size≤200;omega) L3
 by_cases t33:t=33
 ·subst t33;have e0:C3 here 33 nm s=if(Ah ⟨⟨#[]⟩,⟨#[]⟩,s.nd,here⟩).2≠0 then(⟨nm,33,0,0,⟨#[]⟩,0,⟨#[]⟩⟩,(Ah ⟨⟨#[]⟩,⟨#[]⟩,s.nd,here⟩).2)
   else(⟨nm,33,0,0,⟨#[]⟩,s.pt,(Ah ⟨⟨#[]⟩,⟨#[]⟩,s.nd,here⟩).1⟩,0):=rfl
  rw[e0]at e ⊢;by_cases c:(Ah ⟨⟨#[]⟩,⟨#[]⟩,s.nd,here⟩).2=0
  ·rw[if_neg (by simpa using c)];obtain⟨p1,p2⟩:∃p,Ah ⟨⟨#[]⟩,⟨#[]⟩,s.nd,here⟩=(p,0):=⟨_,Prod.ext rfl c⟩;obtain⟨_,q2,q3⟩:=Ix p2;refine Rw hn rfl (w0 _ (by decide)) (by simp[Rr.un,V0]) (w0 _ (by decide)) b4 hz ?_;show Ao (Ah ⟨⟨#[]⟩,⟨#[]⟩,s.nd,here⟩).1=0;rw[p2,←q3];exact q2
  ·rw[if_pos c]at e;exact absurd e c
 ·exfalso;simp[Fk,t1,t16,t33]at ht
structure Aer(x:List Rr×Int×Int):Prop where
 co:x.2.1=0∨x.2.1=3
 len:x.1.length≤20
 rs:∀r∈x.1,Cu r=0
theorem Ar8{k:Kn}{q:Qr}{t:Int}{nm:ByteArray}{F:List Sv}(hn:Ao nm=0)(ht:Fk t=true)(hF:F.length≤20)(hs:∀s∈F,s.err=0):Aer (Jx k q t nm F):=by
 unfold Jx;by_cases h1:Cp (F.map fun s=>(C3 k.here t nm s).2)=0
 ·rw[if_neg (by simpa using h1)];split
  ·exact⟨.inr rfl,ZU _,fun r hr=>by cases hr⟩
  ·refine⟨.inl rfl,by simpa using hF,fun r hr=>?_⟩;obtain⟨s,h2,rfl⟩:=XO.1 hr;exact Auw (hs s h2) hn ht (P5 h1 _ (List.mem_map_of_mem h2))
 ·rw[if_pos h1];exact⟨.inl rfl,ZU _,fun r hr=>by cases hr⟩
theorem As5{k:Kn}{q:Qr}{t:Int}{nm:ByteArray}(hn:Ao nm=0)(hm:F6 k.ms=0):Aer ((Jc k q t nm).1,(Jc k q t nm).2,0):=by
 unfold Jc;split
 ·exact⟨.inr rfl,ZU _,fun r hr=>by cases hr⟩
 ·split
  ·exact⟨.inl rfl,ZU _,fun r hr=>by cases hr⟩
  ·rename_i t1;have t1:t=1:=by simpa using t1
   split
   ·rename_i m hm1;refine⟨.inl rfl,by simp,fun r hr=>?_⟩;obtain⟨hi,e⟩:=ZB.1 hm1;have hb:m.err=0:=by rw[←e];exact(P4 hm).2.1 _ hi
    have ha:wIn m.ad 0 4294967295=true:=by
     unfold Mb.err at hb
     repeat' split at hb
     all_goals first
      |(simp at hb;done)
      |(rename_i h;rw[ZO,Ae2,Ae2]at h;unfold wIn;simp[h.2.1,h.2.2])
    rw[XN.1 hr,t1];have w0:∀b:Int,0≤b→wIn 0 0 b=true:=fun b hb=>by unfold wIn;simp[hb]
    exact Rw hn rfl (w0 _ (by decide)) (by simp[Rr.un,V0]) ha (w0 _ (by decide)) (by show(⟨#[]⟩:ByteArray).size≤200;decide) L3
   ·exact⟨.inl rfl,ZU _,fun r hr=>by cases hr⟩
theorem Aab(k:Kn)(q:Qr)(t:Int):Aer (C7 k q t (Bh k q)):=by
 have bad:∀e:Int,Aer ([],0,e):=fun e=>⟨.inl rfl,ZU _,fun r hr=>by cases hr⟩;unfold C7;by_cases h1:Jt k q t=0
 ·rw[if_neg (by simpa using h1)];by_cases h2:(Ah q).2=0
  ·rw[if_neg (by simpa using h2)];obtain⟨p1,p2⟩:∃p,Ah q=(p,0):=⟨_,Prod.ext rfl h2⟩;obtain⟨_,q2,q3⟩:=Ix p2;have hn:Ao (Ah q).1=0:=by rw[p2,←q3];exact q2
   have hk:Fk t=true∧k.err=0:=by
    unfold Jt at h1;split at h1
    ·rename_i h;exact absurd h1 h
    ·split at h1
     ·cases h1
     ·rename_i h;exact⟨by simpa using h,h1⟩
   have hi:=Afc hk.2;split
   ·exact⟨.inr rfl,ZU _,fun r hr=>by cases hr⟩
   ·split
    ·exact As5 hn hi.2.2.1
    ·exact Ar8 hn hk.1 (Amj k q) fun s hs=>Av6 hi.2.1 s (Aes hs).1
  ·rw[if_pos h2];exact bad _
 ·rw[if_pos h1];exact bad _
theorem Ak9{l:List Int}(h:∀e∈l,e=0):Cp l=0:=I1 fun j hj=>h _ (ZK hj)
theorem Nj{m:Ms}(h1:wIn m.id 0 65535=true)(h2:wIn m.co 0 15=true)(h3:m.rs.length≤20)(h4:Ao m.qn=0)(h5:Fk m.qt=true)(h6:∀r∈m.rs,Cu r=0):A4 m=0:=by
 unfold A4;rw[h1,h2,if_neg (by omega),if_neg (by simp[h4]),h5,Ak9]
 ·rfl
 ·intro e he;obtain⟨r,hr,rfl⟩:=XO.1 he;exact h6 r hr
theorem Aap{m:Ms}(h:A4 m=0):wIn m.id 0 65535=true∧Ao m.qn=0∧Fk m.qt=true:=by
 obtain⟨hg,_⟩:=G9 h;refine⟨?_,hg.qn,?_⟩
 ·unfold wIn;simp[hg.id.1,hg.id.2]
 ·rcases hg.qt with e|e|e<;>rw[e]<;>rfl
theorem Rf{k:Kn}{m:Ms}(h:A4 m=0):A4 (Hj k m (Bh k))=0∧(Hj k m (Bh k)).id=m.id∧(Hj k m (Bh k)).an=true∧(Hj k m (Bh k)).qn=m.qn∧(Hj k m (Bh k)).qt=m.qt:=by
 obtain⟨h1,h2,h3⟩:=Aap h;have c:∀n:Int,0≤n→n≤15→wIn n 0 15=true:=fun n a b=>by unfold wIn;simp[a,b]
 unfold Hj;split
 ·have cA:0≤(if Ma (A8 m.qn).2=0 then(3:Int)else Ma (A8 m.qn).2)∧(if Ma (A8 m.qn).2=0 then(3:Int)else Ma (A8 m.qn).2)≤15:=by
   unfold Ma
   repeat' split
   all_goals omega
  exact⟨Nj h1 (c _ cA.1 cA.2) (ZU _) h2 h3 (fun r hr=>by cases hr),rfl,rfl,rfl,rfl⟩
 ·split
  ·exact⟨Nj h1 rfl (ZU _) h2 h3 (fun r hr=>by cases hr),rfl,rfl,rfl,rfl⟩
  ·have hR:=Aab k (A8 m.qn).1 m.qt;exact⟨Nj h1 (c _ (by show 0≤(C7 k (A8 m.qn).1 m.qt (Bh k (A8 m.qn).1)).2.1;rcases hR.co with e|e<;>rw[e]<;>decide) (by show(C7 k (A8 m.qn).1 m.qt (Bh k (A8 m.qn).1)).2.1≤15;rcases hR.co with e|e<;>rw[e]<;>decide)) hR.len h2 h3 hR.rs,rfl,rfl,rfl,rfl⟩
theorem Sc(s:ByteArray):(∃x,rdP s=(x,0)∧A4 x=0)∨(rdP s).2≠0:=by
 by_cases hl:512<s.size
 ·rw[Qm hl];exact .inr (by decide)
 ·rcases e:Od s with _|m
  ·rw[Fu hl e];exact .inr (by decide)
  ·rw[N5 hl e];by_cases he:A4 m=0
   ·rw[if_pos he];exact .inl ⟨m,rfl,he⟩
   ·rw[if_neg he];exact .inr (by decide)
theorem Ug(k:Kn)(s:ByteArray):A4 (Dq k s (Bh k))=0:=by
 unfold Dq;split
 ·rename_i h;rcases Sc s with⟨x,e,hx⟩|e
  ·rw[e];exact(Rf hx).1
  ·exact absurd h.1 e
 ·refine Nj ?_ rfl (ZU _) L3 rfl (fun r hr=>by cases hr);have h0:=Is s 0;have h1:=Is s 1;show wIn ((atB s 0*256+atB s 1:Nat):Int) 0 65535=true;unfold wIn;rw[show decide ((0:Int)≤((atB s 0*256+atB s 1:Nat):Int))=true from ZX (by omega),show decide (((atB s 0*256+atB s 1:Nat):Int)≤65535)=true from ZX (by omega)];rfl
end Pl
end Go.Proofs.YtbnocibpoghfhaaGreatDoor

namespace Go.Proofs.YtbnocibpoghfhaaGreatDoor
open Go.RowKit Pl
theorem Ahl(cl:Bool)(l:List Sv)(f:FuncId)(caps:List V)(hcaps:∀u∈caps,Cl u)(p:Sv→Bool)(hl:l.length≤1000)(hf:∀x∈l,Fun Tryz.prog f (.c (.agg (Sv.row x))::caps.map .c) [.c (.v (.bool (p x)))]):
  Fun Tryz.prog 120 [.c (.sl cl (l.map Sv.row)),.c (.clo f caps)] [.c (.v (.int .i64 (at_ p l)))]:=by
 refine Ar Fd rfl ?_;refine G0 ?_;rw[ZE];(refine⟨[],none,{k:Nat//k≤l.length∧∀j,(h:j<l.length)→j<k→p l[j]=false},[0,1,7],fun⟨k,hk,h0⟩=>[(8,.v (.int .i64 k))],[],fun⟨k,hk,h0⟩=>[],fun⟨k,hk,h0⟩=>l.length-k,trivial,fun _=>⟨trivial,fun _=>⟨⟨0,by omega,fun j _ h=>by omega⟩,tI,Af _ _,tI,Ae _ _⟩⟩,fun⟨k,hk,h0⟩=>?_⟩);refine G0 ?_;(refine Aa (fun h=>?_) (fun h=>?_)<;>rw[h])
 ·have hlt:k<l.length:=(by have:=ZV h;omega);refine G0 ?_;refine⟨k,_,rfl,Ad hlt,?_⟩;refine G0 ?_;(refine .inl ⟨_,_,false,[],aI,hf _ (ZK hlt),Ab,nI,?_⟩);refine G1 ?_;intro gg;(refine Aa (fun h2=>?_) (fun h2=>?_)<;>rw[h2])
  ·refine G0 ?_;rw[Vq hlt h0 h2];(exact⟨[],aI⟩)
  ·refine G0 ?_;(exact⟨none,trivial,fun _=>⟨⟨k+1,by omega,up1 (p:=fun j h=>p l[j]=false) h0 (fun _=>h2)⟩,by show l.length-(k+1)<l.length-k;omega,tI,tI,tI,tI⟩⟩)
 ·have hge:¬k<l.length:=(by have:=ZW h;omega);refine G0 ?_;rw[Ad9 (p:=p) (l:=l) (fun i hi=>h0 i hi (by omega))];(exact⟨[],aI⟩)
theorem Ac7(l:List Sv)(f:FuncId)(caps:List V)(hcaps:∀u∈caps,Cl u)(p:Sv→Bool)(hl:l.length≤1000)(hf:∀x∈l,Fun Tryz.prog f (.c (.agg (Sv.row x))::caps.map .c) [.c (.v (.bool (p x)))]):
  Fun Tryz.prog 95 [.o 39 9 (l.map Sv.row),.c (.clo f caps)] [.o 39 9 ((keep p l).map Sv.row)]:=by
 refine Ar E8 rfl ?_;refine G0 ?_;(refine .inl ⟨_,_,true,[],aI,Ahl false l f caps hcaps p hl hf,(fun _=>fI),nI,?_⟩);rcases Ajp (p:=p) (l:=l)with⟨h1,h2⟩|⟨k,hk,h1,h2,h3⟩
 ·rw[h1,Pl.keep_all (p:=p) (l:=l) h2];refine G1 ?_;intro gg;(exact⟨[0],aI⟩)
 ·rw[h1];refine G1 ?_;intro gg;(refine⟨[],none,{q:List Sv×Nat×Nat//Ju p l q.1 q.2.1 q.2.2},[0,1,36,37,39,40,41],fun⟨⟨l',i,j⟩,hm⟩=>[(5,.v (.int .i64 i)),(6,.v (.int .i64 j))],[],fun⟨⟨l',i,j⟩,hm⟩=>[(0,⟨0,39,9,l'.map Sv.row⟩)],fun⟨⟨l',i,j⟩,hm⟩=>l.length-j,trivial,fun _=>⟨trivial,fun _=>⟨⟨(l,k,k+1),Ju.start hk h2 h3⟩,tI,Af _ _,tI,Ae _ _⟩⟩,fun⟨⟨l',i,j⟩,hm⟩=>?_⟩);refine G0 ?_;have hm:Ju p l l' i j:=hm;have hlen:l'.length=l.length:=hm.len;(refine Aa (fun h=>?_) (fun h=>?_)<;>rw[h])
  ·have hlt:j<l'.length:=by have:=ZV h;simpa using this
   refine G0 ?_;refine⟨j,_,rfl,Ad hlt,?_⟩;refine G1 ?_;intro gg;have hj:j<l.length:=by omega
   have hx:l'[j]=l[j]:=hm.behind j hj (ZT _);rw[hx];(refine .inl ⟨_,_,false,[],aI,hf _ (ZK hj),Ab,nI,?_⟩);refine G1 ?_;intro gg;(refine Aa (fun h4=>?_) (fun h4=>?_)<;>rw[h4])
   ·have h4':p l[j]=false:=Dr h4;have hi:i<l'.length:=by have:=hm.ij;omega
    refine G0 ?_;refine⟨i,_,rfl,Ad hi,?_⟩;refine G0 ?_;have e:(l'.map Sv.row).set i (Sv.row l[j])=(l'.set i l[j]).map Sv.row:=List.map_set.symm;exact⟨none,trivial,fun gr=>⟨⟨(l'.set i l[j],i+1,j+1),hm.stays hj h4'⟩,by show l.length-(j+1)<l.length-j;omega,tI,tI,⟨congrArg (fun r=>some (Ent.mk 0 39 9 r)) e,trivial⟩,tI⟩⟩
   ·have h4':p l[j]=true:=Bw h4;refine G0 ?_;(exact⟨none,trivial,fun _=>⟨⟨(l',i,j+1),hm.gone hj h4'⟩,by show l.length-(j+1)<l.length-j;omega,tI,tI,tI,tI⟩⟩)
  ·have hge:¬j<l'.length:=by have:=ZW h;simpa using this
   have hi:i≤l'.length:=by have:=hm.ij;have:=hm.jl;omega
   refine G0 ?_;refine⟨1,i,(l'.map Sv.row).length,rfl,⟨_,rfl⟩,rfl,by simpa using hi,ZT _,?_⟩;refine G0 ?_;refine⟨by simpa using hi,ZT _,?_⟩;refine G0 ?_;refine⟨0,0,i,rfl,rfl,⟨_,rfl⟩,ZU _,?_,rfl,rfl,fun g=>?_⟩
   ·show i≤((l'.map Sv.row).take i++List.replicate ((l'.map Sv.row).length-i) _++(l'.map Sv.row).drop (l'.map Sv.row).length).length;simp only[ZF,ZM,ZE,List.length_replicate];omega
   refine G0 ?_;refine⟨[0],Afr rfl rfl rfl rfl rfl Dy ?_⟩;show((l'.map Sv.row).take i++List.replicate ((l'.map Sv.row).length-i) _++(l'.map Sv.row).drop (l'.map Sv.row).length).take i=(keep p l).map Sv.row;rw[ZS,List.take_append_of_le_length (by simp;omega),List.take_take,Nat.min_self,←hm.fin (by omega),List.map_take]
open Go
theorem Aji(k:Kn)(q:Qr)(t:Int)(nm:ByteArray)(s:Sv)(hl:k.ms.length≤1000)(hm:Aj9 (Mb.cf s.nd) k.ms):Fun Tryz.prog 96 [.c (.agg s.row),.c (.rptr [.rptr (k.ask q t nm) 0] 0)] [.c (.v (.bool (Cc k.ms s.nd)))]:=by
 refine Ar Of rfl ?_;refine G1 ?_;intro gg;(refine .inl ⟨_,_,false,[],.same (V5 k q t nm 0) (.same (As rfl) (.nil _)),Ahq k q t nm s.nd hl hm,Ab,nI,?_⟩);refine G1 ?_;intro gg;(exact⟨[],aI⟩)
theorem Asy{l:List Sv}{a b:ByteArray}(h:Ei l=0):(C8 l a b).2.length≤40:=by
 have:=(Jo h).1;unfold C8
 repeat' split
 all_goals first
  |exact ZU _
  |exact XI (Np l a b) this
theorem An7{l:List Int}(h:Cp l=0):∀e∈l,e=0:=by
 induction l with
 |nil=>intro e he;cases he
 |cons a l ih=>
  have h:(if a≠0 then a else Cp l)=0:=h;split at h
  ·rename_i ha;exact absurd h ha
  ·rename_i ha;intro e he;rcases XC.1 he with rfl|he
   ·simpa using ha
   ·exact ih h e he
set_option maxHeartbeats 2000000 in
theorem Akl(k:Kn)(q:Qr)(t:Int)(nm:ByteArray)(hk:k.In)(hq:q.ok)(he:k.err=0):Fun Tryz.prog 52 [.c (.rptr (k.ask q t nm) 0)] [.o 39 9 ((Bh k q).map Sv.row)]:=by
 obtain⟨i1,i2,i3,i4,i5,i6⟩:=Afc he;have hms:=At9 he;have hF:=Asy (a:=q.sv) (b:=q.tg) i2;have hD:=Ac7 (C8 k.l q.sv q.tg).2 96 [.rptr [.rptr (k.ask q t nm) 0] 0] (fun u hu=>by rw[XN.1 hu];exact Amc fun v hv=>by rw[XN.1 hv];exact V5 k q t nm 0) (fun s=>Cc k.ms s.nd) (by omega) (fun x hx=>Aji k q t nm x (by omega) (hms.2 x.nd));have hfK:fK k q=Pl.keep (fun s=>Cc k.ms s.nd) (C8 k.l q.sv q.tg).2:=rfl;have hKl:(fK k q).length≤40:=by rw[hfK];exact XI (List.length_filter_le _ _) hF
 refine Ar Pm rfl ?_;refine G1 ?_;intro gg;(refine .inl ⟨_,_,false,[],aI,Ajs k.l q.sv q.tg hk.ll hk.lo hq.1 hq.2.1,Ab,nI,?_⟩);refine G1 ?_;intro gg;refine .inl ⟨_,_,true,[432],?_,hD,(fun _=>fI),nI,?_⟩
 ·exact Avj rfl Dy (by decide) (by decide) (.borc (Asa rfl rfl rfl (fun v hv=>by rw[XN.1 hv];exact V5 k q t nm 0) (by decide) Alq) (.nil _))
 rw[←hfK];generalize hK:fK k q=K at *;(refine goI ?_;repeat (intro gg;refine goI ?_));revert gg;intro gm;have hMn:Mn (C8 k.l q.sv q.tg).2:=by
  unfold C8
  repeat' split
  all_goals first
   |exact List.Pairwise.nil
   |exact(Avc (Jo i2).2.2).filter _
 (refine⟨[(6,96,9,1)],none,{p:Nat×Nat×List (ByteArray×V)×List SE//p.1≤K.length∧Grp 39 (K.take p.1) p.2.2.1 p.2.2.2},[1,5,34,35],fun⟨⟨i,g,E,ss⟩,hi,hG⟩=>[(6,.own 96 g),(36,.v (.int .i64 (i:Int)))],[16,512],fun⟨⟨i,g,E,ss⟩,hi,hG⟩=>[(96,⟨g,.t 9,1,(nms (K.take i)).map Dg⟩),(528,⟨gm,.q (J2 (ents E) ss),0,[]⟩)],fun⟨⟨i,g,E,ss⟩,hi,hG⟩=>K.length-i,(by exact⟨rfl,by decide,(fun _ _ _ _ h=>by cases h),trivial⟩),fun gs=>⟨trivial,fun _=>⟨⟨(0,gs 96,[],[]),ZU _,Grp.nil _⟩,tI,tI,tI,tI⟩⟩,fun⟨⟨i,g,E,ss⟩,hi,hG⟩=>?_⟩);simp only at hi hG;have hnl:=Alj (K.take i);rw[ZM]at hnl;have hnl2:((nms (K.take i)).map Dg).length≤40:=by rw[ZE];omega
 refine G0 ?_;simp only[ZE];by_cases c:i<K.length
 ·rw[show decide ((i:Int)<(K.length:Int))=true from ZX (by omega)];refine G0 ?_;refine⟨i,_,rfl,Ad c,?_⟩;refine G1 ?_;intro gg;have hMi:Mn (K.take i++[K[i]]):=by
   have:Mn (K.take (i+1)):=by
    rw[hfK];exact(hMn.filter _).take _
   rw[XT,ZC c]at this;exact this
  have et:K.take (i+1)=K.take i++[K[i]]:=by rw[XT,ZC c];rfl
  by_cases hm:K[i].nd∈nms (K.take i)
  ·obtain⟨j,u,h1,h2,h3,h4,h5⟩:=hG.has _ hm;obtain⟨x,l',p1,p2⟩:=Af8 hm;have hu0:u.rows.length≠0:=by rw[h5,p1];simp
   have hu4:u.rows.length≤40:=by
    rw[h5,ZE];have:(Fy K[i].nd (K.take i)).length≤(K.take i).length:=List.length_filter_le _ _;rw[ZM]at this;omega
   have hu9:u.rows≠[]:=fun e=>hu0 (by rw[e];rfl);have hur:∀row∈u.rows,∀v∈row,Cl v:=by rw[h5];exact Dy
   obtain⟨ss1,ss2,rfl⟩:=List.append_of_mem h2;have en:nms (K.take (i+1))=nms (K.take i):=by rw[et,P9,Rz hm]
   refine⟨_,Nb _ _,some (j,.v u.val),(D8 _ _ _).trans (by rw[h1]),?_⟩;refine G0 ?_;rw[show((u.rows.length:Int)==0)=false from ZG.2 (by omega)];refine G0 ?_;refine⟨_,Nb _ _,some (j,.v u.val),(D8 _ _ _).trans (by rw[h1]),?_⟩;refine G1 ?_;intro gg;refine⟨_,ss1,u,ss2,rfl,rfl,rfl,rfl,h4,h3,by decide,by decide,by decide,lI,lI,?_⟩;refine G1 ?_;intro gg;refine⟨⟨trivial,rfl,rfl,trivial,trivial,trivial,trivial,trivial,trivial,trivial⟩,?_⟩;refine G0 ?_;refine⟨Pl.ents E,ss1++ss2,some (j,.v u.val),39,rfl,(D8 _ _ _).trans (by rw[h1]),?_⟩;refine G0 ?_;refine⟨?_,?_,by decide,fun b cap=>?_⟩
   ·show u.rows++[Sv.row K[i]]≠[];simp
   ·show∀row∈u.rows++[Sv.row K[i]],∀v∈row,Cl v;rw[h5];exact Oi Dy (K1 rfl)
   refine G0 ?_;have e:=Za E K[i].nd (.v (SE.val ⟨39,9,b,cap,u.rows++[K[i].row]⟩));rw[h1]at e;have hG':Grp 39 (K.take (i+1)) (put E K[i].nd (.v (SE.val ⟨39,9,b,cap,u.rows++[K[i].row]⟩))) (⟨39,9,b,cap,u.rows++[K[i].row]⟩::(ss1++ss2)):=by rw[et];exact hG.old K[i] hm h5 b cap
   (exact⟨none,trivial,fun gr=>⟨⟨(i+1,g,_,_),Nat.succ_le_of_lt c,hG'⟩,by show K.length-(i+1)<K.length-i;omega,tI,tI,⟨congrArg (fun r=>some (Ent.mk g (.t 9) 1 (List.map Dg r))) en.symm,congrArg (fun x=>some (Ent.mk gm (.q (J2 x (⟨39,9,b,cap,u.rows++[K[i].row]⟩::(ss1++ss2)))) 0 [])) e,trivial⟩,tI⟩⟩)
  ·have hl:=hG.no _ hm;have en:nms (K.take (i+1))=nms (K.take i)++[K[i].nd]:=by rw[et,P9,N3 hm]
   have enr:(nms (K.take i)).map Dg++[Dg K[i].nd]=(nms (K.take (i+1))).map Dg:=by rw[en,ZI];rfl
   refine⟨_,Nb _ _,none,(D8 _ _ _).trans (by rw[hl]),?_⟩;refine G1 ?_;intro gg;refine⟨lI,lI,?_⟩;refine G1 ?_;intro gg;revert gg;intro g2;refine⟨_,Nb _ _,none,(D8 _ _ _).trans (by rw[hl]),?_⟩;refine G1 ?_;intro gg;refine⟨lI,lI,?_⟩;refine G1 ?_;intro gg;refine⟨⟨trivial,rfl,rfl,trivial,trivial,trivial,trivial,trivial,trivial,trivial⟩,?_⟩;refine G0 ?_;refine⟨Pl.ents E,ss,none,39,rfl,(D8 _ _ _).trans (by rw[hl]),?_⟩;refine G0 ?_;refine⟨?_,?_,by decide,fun b cap=>?_⟩
   ·show [Sv.row K[i]]≠[];simp
   ·show∀row∈[Sv.row K[i]],∀v∈row,Cl v;exact K1 rfl
   refine G0 ?_;have e:=Za E K[i].nd (.v (SE.val ⟨39,9,b,cap,[K[i].row]⟩));rw[hl]at e;have hG':Grp 39 (K.take (i+1)) (put E K[i].nd (.v (SE.val ⟨39,9,b,cap,[K[i].row]⟩))) (⟨39,9,b,cap,[K[i].row]⟩::ss):=by rw[et];exact hG.new K[i] hm b cap
   (exact⟨none,trivial,fun gr=>⟨⟨(i+1,g2,_,_),Nat.succ_le_of_lt c,hG'⟩,by show K.length-(i+1)<K.length-i;omega,tI,tI,⟨congrArg (fun r=>some (Ent.mk g2 (.t 9) 1 r)) enr,congrArg (fun x=>some (Ent.mk gm (.q (J2 x (⟨39,9,b,cap,[K[i].row]⟩::ss))) 0 [])) e,trivial⟩,tI⟩⟩)
 ·rw[show decide ((i:Int)<(K.length:Int))=false from ZY (by omega)];obtain rfl:i=K.length:=by omega
  rw[XF]at hG hnl hnl2;have hS:=Ant k.f k.wh (nms K) hk.wl (by omega);have hz:Hg k.f k.wh (nms K)=0:=by
   rw[Us (by omega) i5];exact Dm fun j hj=>An7 i6 _ (List.mem_map_of_mem (f:=fun w:Wh=>w.pl.err) (ZK hj))
  rw[hz,Agh hz]at hS;rw[XF];refine G0 ?_;(refine .inl ⟨_,_,true,[],aI,hS,(fun _=>fI),nI,?_⟩);refine G1 ?_;intro gg;have hf:=fun n (hn:n∈Ii (cfN (Bx k.f k.wh)) (nms K))=>hG.has n (Ahy hn);have hfd:Bh k q=((Ii (cfN (Bx k.f k.wh)) (nms K)).flatMap fun n=>Fy n K).take 20:=by unfold Bh;rw[hK]
  have hNl:(Ii (cfN (Bx k.f k.wh)) (nms K)).length≤40:=by rw[Aad];omega
  generalize Ii (cfN (Bx k.f k.wh)) (nms K)=N at *;have hfl:=fun i=>Alf hKl (N.take i);(refine⟨[(9,144,39,9)],none,{p:Nat×Nat//p.1≤N.length},[5,75,76],fun⟨⟨i,g⟩,hi⟩=>[(9,.own 144 g),(77,.v (.int .i64 (i:Int)))],[528,1152],fun⟨⟨i,g⟩,hi⟩=>[(144,⟨g,.t 39,9,((N.take i).flatMap fun n=>Fy n K).map Sv.row⟩)],fun⟨⟨i,g⟩,hi⟩=>N.length-i,(by exact⟨rfl,by decide,(fun _ _ _ _ h=>by cases h),trivial⟩),fun gs=>⟨trivial,fun _=>⟨⟨(0,gs 144),ZU _⟩,tI,tI,tI,tI⟩⟩,fun⟨⟨i,g⟩,hi⟩=>?_⟩);simp only at hi;have h16:((N.take i).flatMap fun n=>Fy n K).length≤1600:=by
   have:=hfl i;rw[ZM]at this;refine XI this (XI (XG 40 (Nat.min_le_right i N.length)) ?_);omega
  refine G0 ?_;simp only[ZE];by_cases c:i<N.length
  ·rw[show decide ((i:Int)<(N.length:Int))=true from ZX (by omega)];obtain⟨j,u,h1,h2,h3,h4,h5⟩:=hf N[i] (ZK c);have hu4:u.rows.length≤40:=by
    rw[h5,ZE];have:(Fy N[i] K).length≤K.length:=List.length_filter_le _ _;omega
   have er:((N.take i).flatMap fun n=>Fy n K).map Sv.row++u.rows=((N.take (i+1)).flatMap fun n=>Fy n K).map Sv.row:=by
    rw[XT,ZC c,Option.toList_some,List.flatMap_append,ZI,h5];simp
   refine G0 ?_;refine⟨i,_,rfl,Ad c,?_⟩;refine G0 ?_;refine⟨_,Nb _ _,some (j,.v u.val),(D8 _ _ _).trans (by rw[h1]),?_⟩;refine G0 ?_;refine⟨Pl.ents E,ss,u,rfl,h2,rfl,rfl,rfl,h4,?_⟩;refine G0 ?_;refine⟨lI,lI,?_⟩;refine G1 ?_;intro gg;(exact⟨none,trivial,fun gr=>⟨⟨(i+1,gg),Nat.succ_le_of_lt c⟩,by show N.length-(i+1)<N.length-i;omega,tI,tI,⟨congrArg (fun r=>some (Ent.mk gg (.t 39) 9 r)) er,trivial⟩,tI⟩⟩)
  ·rw[show decide ((i:Int)<(N.length:Int))=false from ZY (by omega)];obtain rfl:i=N.length:=by omega
   rw[XF];rw[XF]at h16;rw[hfd];generalize N.flatMap (fun n=>Fy n K)=A at *;refine G0 ?_;rw[ZE];have hm:min (A.length:Int) 20=((min A.length 20:Nat):Int):=by omega
   rw[hm];refine G0 ?_;refine⟨0,0,min A.length 20,rfl,rfl,⟨.i64,rfl⟩,ZU _,Nat.min_le_left _ _,rfl,rfl,fun g2=>?_⟩;refine G0 ?_;refine⟨[144],Afr rfl rfl rfl rfl rfl Dy ?_⟩;show(A.map Sv.row).take (min A.length 20)=(A.take 20).map Sv.row;rw[←List.map_take];congr 1;by_cases h:A.length≤20
   ·rw[Nat.min_eq_left h,XF,List.take_of_length_le h]
   ·rw[Nat.min_eq_right (by omega)]
theorem Ank(k:Kn)(q:Qr)(t:Int)(nm:ByteArray)(hk:k.In)(hq:q.ok)(he:k.err=0):Fun Tryz.prog 52 [.c (.rptr (k.ask q t nm) 0)] [.c (.sl false ((Bh k q).map Sv.row))]:=Fun.frz (Akl k q t nm hk hq he)

namespace Pl
theorem Vm{l:List Sv}{a b:ByteArray}(h1:Ei l=0)(h2:lab a.data.toList=true)(h3:Sp b=true):C8 l a b=(0,Dc l a b):=by simp[C8,h1,h2,h3]
theorem Aa4:Sp ⟨#[]⟩=true:=by simp[Sp,emp]
end Pl


theorem All{m:Ms}(h:A4 m=0):Aox m:=by
 obtain⟨hg,_⟩:=G9 h;refine⟨⟨by have:=hg.qnz;omega,fun r hr=>?_⟩,by have:=hg.len;omega⟩;have:=hg.rs r hr;exact⟨by have:=this.nmz;omega,by have:=this.tx;omega,by have:=this.tgz;omega⟩
theorem Adp{k:Kn}{s:ByteArray}{M:Ms}(h1:k.err=0)(h2:¬(s.size<12∨128≤atB s 2))(h:Dq k s (Bh k)=M):Eu k s (Bh k)=((Jn M 512).1,true,0)∧(Jn M 512).2=0∧Aox M:=by
 have hM:=Ug k s;rw[h]at hM;obtain⟨j,_,_,e⟩:=Y8 hM;refine⟨?_,by rw[e],All hM⟩;unfold Eu;rw[if_neg (by simp[h1]),if_neg h2,h,e];rfl
theorem Ah5{s:ByteArray}(h:(A8 s).2=0):(A8 s).1.ok:=by
 have hp:Ah (A8 s).1=(s,0):=Ajn (Prod.ext rfl h);have he:=(Ix hp).1;have hs:=(Qy he).1;exact⟨by have:=hs.sv;omega,by have:=hs.tg;omega,by have:=hs.nd;omega,by have:=hs.ce;omega⟩
theorem Apt{s:ByteArray}{i fl co n:Nat}{m:Ms}(h:Amh s i fl co n=some m):m.id=(i:Int):=by
 unfold Amh at h;obtain⟨a,_,h⟩:=XS.1 h;obtain⟨b,_,h⟩:=XS.1 h;obtain⟨d,_,h⟩:=XS.1 h;split at h
 ·obtain⟨l,_,h⟩:=XS.1 h;split at h
  ·simp only[ZD]at h;rw[←h]
  ·cases h
 ·cases h
theorem Asr{s:ByteArray}{x:Ms}(h:rdP s=(x,0)):x.id=((atB s 0*256+atB s 1:Nat):Int):=by
 by_cases hl:512<s.size
 ·rw[Qm hl]at h;simp at h
 ·rcases e:Od s with _|m
  ·rw[Fu hl e]at h;simp at h
  ·rw[N5 hl e]at h;by_cases he:A4 m=0
   ·rw[if_pos he]at h;simp only[Prod.mk.injEq,and_true]at h;subst h;by_cases h12:12≤s.size
    ·rw[Ad2 h12]at e;split at e
     ·rw[Apt e,Qv]
     ·cases e
    ·rw[Aa9 h12]at e;cases e
   ·rw[if_neg he]at h;simp at h
namespace Pl
end Pl
theorem Ax1{k:Kn}(hk:k.In)(q:Qr):∀s∈Bh k q,s.nd.size≤9223372036854775807:=fun s hs=>(hk.lo s (Aes hs).1).1
theorem Ag2{k:Kn}{q:Qr}{t:Int}(h:Jt k q t=0):k.err=0:=by
 unfold Jt at h;split at h
 ·rename_i h1;exact absurd h h1
 ·split at h
  ·exact absurd h (by decide)
  ·exact h
theorem Mj(k:Kn)(q:Qr)(t:Int)(hk:k.In)(hq:q.ok):
  Fun Tryz.prog 8 [.c (.agg q.row),.c (.v (.int .i64 t)),.c (.v (.string k.here)),.c (.sl false (k.l.map Sv.row)),.c (.sl false (k.ms.map Mb.row)),.c (.agg k.f.row),.c (.sl false (k.wh.map Wh.row))]
   [.o 42 7 ((C7 k q t (Bh k q)).1.map Rr.row),.c (.v (.int .i64 (C7 k q t (Bh k q)).2.1)),.c (.v (.int .i64 (C7 k q t (Bh k q)).2.2))]:=
 Ah4 k q t (Bh k q) hk hq (by have:=Amj k q;omega) (Ax1 hk q) fun h=>Ank k q t _ hk hq (Ag2 h)
theorem We(k:Kn)(s:ByteArray)(hk:k.In)(hs:s.size≤9223372036854775807):
  Fun Tryz.prog 13 [.c (.v (.string s)),.c (.v (.string k.here)),.c (.sl false (k.l.map Sv.row)),.c (.sl false (k.ms.map Mb.row)),.c (.agg k.f.row),.c (.sl false (k.wh.map Wh.row))]
   [.c (.v (.string (Eu k s (Bh k)).1)),.c (.v (.bool (Eu k s (Bh k)).2.1)),.c (.v (.int .i64 (Eu k s (Bh k)).2.2))]:=by
 refine Ano k s (Bh k) hk hs (Up s) (Ao3 k (rdP s).1 (Bh k) ?_ fun h=>Mj k _ _ hk (Ah5 h)) (Auv _ 512 (All (Ug k s)));rcases Sc s with⟨x,e,hx⟩|e
 ·rw[e];have:=(G9 hx).1.qnz;show x.qn.size≤_;omega
 ·by_cases hl:512<s.size
  ·rw[Qm hl];decide
  ·rcases e1:Od s with _|m
   ·rw[Fu hl e1];decide
   ·rw[N5 hl e1]at e ⊢;by_cases he:A4 m=0
    ·rw[if_pos he]at e;exact absurd rfl e
    ·rw[if_neg he];decide
namespace Pl
def sv0:Sv:=⟨⟨#[110]⟩,⟨#[105]⟩,⟨#[115]⟩,⟨#[]⟩,9,0,true,1,false⟩
def kn0:Kn:=⟨⟨#[99]⟩,[sv0],[],⟨0,0,0,0,0⟩,[]⟩
def qr0:Qr:=⟨⟨#[115]⟩,⟨#[]⟩,⟨#[]⟩,⟨#[]⟩⟩
def nm0:ByteArray:=⟨#[115,46,115,101,114,118,105,99,101,46,109,101,115,104]⟩
theorem Am0:qr0.err=0:=by
 simp only[Qr.err,Qr.c1,Qr.c2,Qr.c3,Qr.all,qr0,List.any_cons,List.any_nil,em,Z2,Gx,ByteArray.toList_eq,Br,Cm,Bc];decide
theorem Aqk:qr0.pr=nm0:=by
 apply Sd;simp only[Qr.pr,Qr.base,qr0,em,ByteArray.toList_eq];simp[Abl,Jl,dot,Bc,nm0]
theorem At0:A5 nm0=[⟨#[115]⟩,Br,Bc]:=by
 simp only[A5,ByteArray.toList_eq];rw[if_neg (by simp[nm0])];decide
theorem Aqj:Ao nm0=0:=by
 simp only[Ao,At0];decide
theorem Ao8:Ah qr0=(nm0,0):=by
 rw[Hy Am0 (by rw[Aqk];exact Aqj),Aqk]
theorem Av7:emp ⟨#[]⟩=true:=beq_self_eq_true _
theorem Atv:sv0.err=0:=by
 have hl1:lab (⟨#[110]⟩:ByteArray).data.toList=true:=by decide+kernel
 have hl2:lab (⟨#[105]⟩:ByteArray).data.toList=true:=by decide+kernel
 have hl3:lab (⟨#[115]⟩:ByteArray).data.toList=true:=by decide+kernel
 simp[Sv.err,sv0,hl1,hl2,hl3,Aa4,wi]
theorem Arw:Ei [sv0]=0:=by simp[Ei,ckL,Bm,Cz,Atv]
theorem Atn:kn0.err=0:=by
 have hl:lab (⟨#[99]⟩:ByteArray).data.toList=true:=by decide+kernel
 have hp:(⟨0,0,0,0,0⟩:Pc).err=0:=by decide+kernel
 have hm:F6 []=0:=by decide+kernel
 simp[Kn.err,kn0,hl,Arw,hm,hp,Cp]
theorem Ai8:(C8 kn0.l qr0.sv qr0.tg).2=[sv0]:=by
 have hs:Sv.sought ⟨#[115]⟩ ⟨#[]⟩ sv0=true:=by
  show(((⟨#[115]⟩:ByteArray).toList==(⟨#[115]⟩:ByteArray).toList)&&((emp ⟨#[]⟩||_)&&true))=true;rw[Av7,beq_self_eq_true];rfl
 show(C8 [sv0] ⟨#[115]⟩ ⟨#[]⟩).2=[sv0];rw[Vm Arw (by decide+kernel) Aa4];simp[Dc,hs]
theorem Aux:Bh kn0 qr0=[sv0]:=by
 have h1:fK kn0 qr0=[sv0]:=by unfold fK;rw[Ai8];rfl
 have h2:nms [sv0]=[sv0.nd]:=rfl;have h3:Fy sv0.nd [sv0]=[sv0]:=by unfold Fy;simp
 unfold Bh;rw[h1,h2,show Ii (cfN (Bx kn0.f kn0.wh)) [sv0.nd]=[sv0.nd]from List.mergeSort_singleton _,List.flatMap_cons,h3];rfl
theorem Apn:C7 kn0 qr0 1 (Bh kn0 qr0)=([⟨nm0,1,0,9,⟨#[]⟩,0,⟨#[]⟩⟩],0,0):=by
 have hE:Jt kn0 qr0 1=0:=by unfold Jt;rw[if_neg (by rw[Am0];decide),if_neg (by decide),Atn]
 have hc:em qr0.ce=true:=V0;have hn:em qr0.nd=true:=V0;have hf:(C8 kn0.l qr0.sv ⟨#[]⟩).2=[sv0]:=Ai8;unfold C7;rw[hE,if_neg (by decide),Ao8,if_neg (by decide),hc,if_neg (by decide),hn,if_neg (by decide),Aux];unfold Jx;rw[hf];rfl
theorem Avy:kn0.In:=⟨by decide,by decide,fun x hx=>by rw[XN.1 hx];exact⟨by decide,by decide,by decide,by decide⟩,by decide,fun x hx=>(by cases hx),by decide⟩
end Pl
theorem Lh:Fun Tryz.prog 10 [] [.c (.v (.bool true))]:=by
 have h:=Mj kn0 qr0 1 Avy ⟨by decide,by decide,by decide,by decide⟩;rw[Apn]at h;refine Ar Lu rfl ?_;refine G1 ?_;intro gg;(refine .inl ⟨_,_,true,[],aI,h,(fun _=>fI),nI,?_⟩);refine G1 ?_;intro gg;refine⟨0,_,rfl,rfl,?_⟩;refine G0 ?_;refine⟨0,_,rfl,rfl,?_⟩;refine G0 ?_;rw[show(nm0.toList==(⟨#[115,46,115,101,114,118,105,99,101,46,109,101,115,104]⟩:ByteArray).toList)=true from beq_self_eq_true _];refine G0 ?_;(exact⟨[],aI⟩)
theorem Abr(us:List V)(h:Qp [.s,.l [.s,.s,.s,.s,.i,.i,.b,.i,.b],.l [.s,.i,.i,.i,.b],.i,.i,.i,.i,.i,.l [.s,.i,.i,.i,.i,.i]] us):∃k:Kn,us=k.row∧k.In:=by
 obtain⟨u0,_,rfl,f0,h⟩:=Ap h;obtain⟨u1,_,rfl,f1,h⟩:=Ap h;obtain⟨u2,_,rfl,f2,h⟩:=Ap h;obtain⟨u3,_,rfl,f3,h⟩:=Ap h;obtain⟨u4,_,rfl,f4,h⟩:=Ap h;obtain⟨u5,_,rfl,f5,h⟩:=Ap h;obtain⟨u6,_,rfl,f6,h⟩:=Ap h;obtain⟨u7,_,rfl,f7,h⟩:=Ap h;obtain⟨u8,_,rfl,f8,h⟩:=Ap h;obtain rfl:=Ln h;obtain⟨s,rfl,hs⟩:=K3 f0;obtain⟨l,rfl,hl,ho⟩:=Vh Awq f1;obtain⟨m,rfl,hm,hmo⟩:=Vh Aww f2;obtain⟨a,rfl,_⟩:=Ge f3;obtain⟨b,rfl,_⟩:=Ge f4;obtain⟨c,rfl,_⟩:=Ge f5;obtain⟨d,rfl,_⟩:=Ge f6;obtain⟨e,rfl,_⟩:=Ge f7;obtain⟨w,rfl,hw,_⟩:=Vh Awz f8;exact⟨⟨s,l,m,⟨a,b,c,d,e⟩,w⟩,rfl,⟨hs,hl,ho,hm,hmo,hw⟩⟩
end Go.Proofs.YtbnocibpoghfhaaGreatDoor
