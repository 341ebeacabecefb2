/- Texts of this claim, joined. -/
import Derived.Shelf.SlSortCmp.NoneTotal
import Derived.Shelf.SlGeneric
import Derived.Test.YtbnocibpoghfhaaGreatDoorProg
import Derived.WalkKit
import Derived.Test.YtbnocibpoghfhaaGreatDoorRows
import Derived.Lib.Strings
import Derived.Lib.Slices
import Derived.Lib.Walk
import Derived.Lib.Bytealg
import Derived.Shelf.Strings.OnBuilder
import Derived.Test.YtbnocibpoghfhaaGreatDoorWAbsQ
import Derived.Shelf.Strings.BuilderK
import Derived.Maps.AppendAt
import Derived.Lib.AppendStr
import Derived.Test.YtbnocibpoghfhaaGreatDoorWAbsS
import Derived.Defers
import Derived.Recover
import Derived.Laws.Pointers
import Derived.Test.YtbnocibpoghfhaaGreatDoorUa
set_option linter.unusedSimpArgs false
set_option linter.unusedVariables false
namespace Go.Proofs.YtbnocibpoghfhaaGreatDoor
namespace Pl
structure Wh where
 nd:ByteArray
 pl:Pc
def Wh.row(x:Wh):List V:=[.v (.string x.nd),.v (.int .i64 x.pl.x),.v (.int .i64 x.pl.y),.v (.int .i64 x.pl.z),.v (.int .i64 x.pl.h),.v (.int .i64 x.pl.s)]
instance:FlatRow Wh.row:=⟨fun x u hu=>by simp[Wh.row]at hu;rcases hu with rfl|rfl|rfl|rfl|rfl|rfl<;>exact⟨_,rfl⟩⟩
def Wh.ok(x:Wh):Prop:=x.nd.size≤9223372036854775807
theorem Awz(row:List V)(h:Qp [.s,.i,.i,.i,.i,.i] row):∃m:Wh,row=m.row∧m.ok:=by
 obtain⟨u0,_,rfl,f0,h⟩:=Ap h;obtain⟨u1,_,rfl,f1,h⟩:=Ap h;obtain⟨u2,_,rfl,f2,h⟩:=Ap h;obtain⟨u3,_,rfl,f3,h⟩:=Ap h;obtain⟨u4,_,rfl,f4,h⟩:=Ap h;obtain⟨u5,_,rfl,f5,h⟩:=Ap h;obtain rfl:=Ln h;obtain⟨n,rfl,hn⟩:=K3 f0;obtain⟨a,rfl,_⟩:=Ge f1;obtain⟨b,rfl,_⟩:=Ge f2;obtain⟨c,rfl,_⟩:=Ge f3;obtain⟨d,rfl,_⟩:=Ge f4;obtain⟨e,rfl,_⟩:=Ge f5;exact⟨⟨n,a,b,c,d,e⟩,rfl,hn⟩
def Wh.perr(w:Wh):Int:=w.pl.err
def Bx(f:Pc):List Wh→ByteArray→Option Int
 |[],_=>none
 |w::l,a=>if a=w.nd then some (f.far w.pl)else Bx f l a
theorem W8(f:Pc)(w:Wh)(a:ByteArray):∀l:List Wh,Bx f (l++[w]) a=(Bx f l a).or (if a=w.nd then some (f.far w.pl)else none)
 |[]=>by simp[Bx]
 |v::l=>by
  show(if a=v.nd then some (f.far v.pl)else Bx f (l++[w]) a)=(if a=v.nd then some (f.far v.pl)else Bx f l a).or _;split
  ·rfl
  ·exact W8 f w a l
def iV(n:Int):V:=.v (.int .i64 n)
theorem Agp(k:ByteArray)(v:V)(a:ByteArray):∀(E:List (ByteArray×V)) (i:Nat),look a (E++[(k,v)]) i=(look a E i).or (if a=k then some (i+E.length,v)else none)
 |[],i=>by simp[look]
 |(b,u)::E,i=>by
  show(if a=b then some (i,u)else look a (E++[(k,v)]) (i+1))=(if a=b then some (i,u)else look a E (i+1)).or _;split
  ·rfl
  ·rw[Agp k v a E (i+1)];congr 2;simp[Nat.add_assoc,Nat.add_comm 1]
def Gz(f:Pc)(l:List Wh)(E:List (ByteArray×V)):Prop:=∀a,(look a E 0).map (·.2)=(Bx f l a).map iV
theorem Gz.nil(f:Pc):Gz f [] []:=fun a=>rfl
theorem Gz.old{f:Pc}{l:List Wh}{E:List (ByteArray×V)}(h:Gz f l E){w:Wh}(hw:look w.nd E 0≠none):Gz f (l++[w]) E:=fun a=>by
 rw[h a,W8];by_cases e:a=w.nd
 ·subst e;have:=h w.nd;cases q:look w.nd E 0 with
  |none=>exact absurd q hw
  |some r=>
   rw[q]at this;cases q2:Bx f l w.nd with
   |none=>rw[q2]at this;cases this
   |some x=>rfl
 ·rw[if_neg e];cases Bx f l a<;>rfl
theorem Gz.new{f:Pc}{l:List Wh}{E:List (ByteArray×V)}(h:Gz f l E){w:Wh}(hw:look w.nd E 0=none):Gz f (l++[w]) (put E w.nd (iV (f.far w.pl))):=fun a=>by
 have e:put E w.nd (iV (f.far w.pl))=E++[(w.nd,iV (f.far w.pl))]:=by unfold put;rw[hw]
 have hn:Bx f l w.nd=none:=by
  have:=h w.nd;rw[hw]at this;cases q2:Bx f l w.nd with
  |none=>rfl
  |some x=>rw[q2]at this;cases this
 rw[e,Agp,W8];by_cases q:a=w.nd
 ·subst q;rw[hw,hn];simp
 ·rw[if_neg q,if_neg q];have:=h a;cases q1:look a E 0<;>cases q2:Bx f l a<;>rw[q1,q2]at this<;>first|rfl|cases this|exact this
theorem Gz.at_none{f:Pc}{l:List Wh}{E:List (ByteArray×V)}(h:Gz f l E){a:ByteArray}(hf:Bx f l a=none):look a E 0=none:=by
 have:=h a;rw[hf]at this;cases q:look a E 0 with
 |none=>rfl
 |some r=>rw[q]at this;cases this
theorem Gz.at_some {f : Pc} {l : List Wh} {E : List (ByteArray × V)} (h : Gz f l E) {a : ByteArray} {x : Int} (hf : Bx f l a = some x) : ∃ i, look a E 0 = some (i, iV x) := by
  have := h a
  rw [hf] at this
  cases q : look a E 0 with
  | none => rw [q] at this; cases this
  | some r =>
    rw [q] at this
    obtain ⟨i, u⟩ := r
    exact ⟨i, by have e : u = iV x := by simpa using this
                 rw [e]⟩
theorem Gz.val{f:Pc}{l:List Wh}{E:List (ByteArray×V)}(h:Gz f l E){a:ByteArray}{i:Nat}{v:V}(q:look a E 0=some (i,v)):∃x,v=iV x:=by
 have:=h a;rw[q]at this;cases q2:Bx f l a with
 |none=>rw[q2]at this;cases this
 |some x=>rw[q2]at this;exact⟨x,by simpa using this⟩
def Dg(s:ByteArray):List V:=[.v (.string s)]
instance:FlatRow Dg:=⟨fun x u hu=>by simp[Dg]at hu;exact⟨_,hu⟩⟩
instance:OneRow Dg 1:=⟨fun _=>rfl,fun x u hu=>by simp[Dg]at hu;exact⟨_,hu,rfl⟩⟩
noncomputable def Hg(f:Pc)(l:List Wh)(names:List ByteArray):Int:=if 100<l.length∨100<names.length then 2 else if f.err≠0 then f.err else Bm Wh.perr l
end Pl
end Go.Proofs.YtbnocibpoghfhaaGreatDoor

namespace Go.Proofs.YtbnocibpoghfhaaGreatDoor
open Go.RowKit Pl
theorem Qn(n a b:Int):Fun Tryz.prog 86 [.c (.v (.int .i64 n)),.c (.v (.int .i64 a)),.c (.v (.int .i64 b))] [.c (.v (.bool (wi n a b)))]:=by
 refine Ar Yg rfl ?_;refine G0 ?_;(refine Aa (fun h=>?_) (fun h=>?_)<;>rw[h])
 ·refine G0 ?_;rw[Aur h];(exact⟨[],aI⟩)
 ·refine G0 ?_;rw[Av8 h];(exact⟨[],aI⟩)
theorem Zs(n:Int):Fun Tryz.prog 85 [.c (.v (.int .i64 n))] [.c (.v (.bool (wi n (-10000000) 10000000)))]:=by
 refine Ar Wt rfl ?_;refine G0 ?_;(refine .inl ⟨_,_,false,[],aI,Qn _ _ _,Ab,nI,?_⟩);refine G1 ?_;intro gg;(exact⟨[],aI⟩)
theorem Arf{x y z h s:Int}(h1:wi x (-10000000) 10000000=true)(h2:wi y (-10000000) 10000000=true)(h3:wi z (-10000000) 10000000=true)(h4:wi h 0 1000000=true)(h5:wi s 0 1000=true):Ajt x y z h s=0:=by simp[Ajt,Agm,h1,h2,h3,h4,h5]
theorem M3{x y z h s:Int}(h1:wi x (-10000000) 10000000=false∨wi y (-10000000) 10000000=false∨wi z (-10000000) 10000000=false∨wi h 0 1000000=false∨wi s 0 1000=false):Ajt x y z h s=3:=by
 rcases h1 with h|h|h|h|h<;>simp[Ajt,Agm,h]
theorem On(p:Pc):Fun Tryz.prog 47 [.c (.agg p.row)] [.c (.v (.int .i64 p.err))]:=by
 refine Ar Zd rfl ?_;refine G1 ?_;intro gg;(refine .inl ⟨_,_,false,[],aI,Zs _,Ab,nI,?_⟩);refine G1 ?_;intro gg;(refine Aa (fun h1=>?_) (fun h1=>?_)<;>rw[h1])
 ·refine G0 ?_;rw[show p.err=3 from M3 (.inl (Dr h1))];(exact⟨[],aI⟩)
 ·refine G0 ?_;(refine .inl ⟨_,_,false,[],aI,Zs _,Ab,nI,?_⟩);refine G1 ?_;intro gg;(refine Aa (fun h2=>?_) (fun h2=>?_)<;>rw[h2])
  ·refine G0 ?_;rw[show p.err=3 from M3 (.inr (.inl (Dr h2)))];(exact⟨[],aI⟩)
  ·refine G0 ?_;(refine .inl ⟨_,_,false,[],aI,Zs _,Ab,nI,?_⟩);refine G1 ?_;intro gg;(refine Aa (fun h3=>?_) (fun h3=>?_)<;>rw[h3])
   ·refine G0 ?_;rw[show p.err=3 from M3 (.inr (.inr (.inl (Dr h3))))];(exact⟨[],aI⟩)
   ·refine G0 ?_;(refine .inl ⟨_,_,false,[],aI,Qn _ _ _,Ab,nI,?_⟩);refine G1 ?_;intro gg;(refine Aa (fun h4=>?_) (fun h4=>?_)<;>rw[h4])
    ·refine G0 ?_;rw[show p.err=3 from M3 (.inr (.inr (.inr (.inl (Dr h4)))))];(exact⟨[],aI⟩)
    ·refine G0 ?_;(refine .inl ⟨_,_,false,[],aI,Qn _ _ _,Ab,nI,?_⟩);refine G1 ?_;intro gg;(refine Aa (fun h5=>?_) (fun h5=>?_)<;>rw[h5])
     ·refine G0 ?_;rw[show p.err=3 from M3 (.inr (.inr (.inr (.inr (Dr h5)))))];(exact⟨[],aI⟩)
     ·refine G0 ?_;rw[show p.err=0 from Arf (Bw h1) (Bw h2) (Bw h3) (Bw h4) (Bw h5)];(exact⟨[],aI⟩)
theorem Ng{n x:Int}(h:0≤n):n.tdiv x=n/x:=Int.tdiv_eq_ediv_of_nonneg h
theorem Art(n:Int)(h0:0≤n)(hm:n≤9223372036854775807):Fun Tryz.prog 145 [.c (.v (.int .i64 n))] [.c (.v (.int .i64 (rt n)))]:=by
 refine Ar Ac5 rfl ?_;refine G0 ?_;(refine Aa (fun h=>?_) (fun h=>?_)<;>rw[h])
 ·have h2:n<2:=by simpa using h
  have hr:rt n=n:=Amp h0 (by rcases(by omega:n=0∨n=1)with rfl|rfl<;>decide) (by rcases(by omega:n=0∨n=1)with rfl|rfl<;>decide);refine G0 ?_;rw[hr];(exact⟨[],aI⟩)
 ·have h2:¬n<2:=by simpa using h
  refine G0 ?_;(refine⟨[],none,{k:Int//1≤k∧k≤6074000998},[0],fun⟨k,hk1,hk2⟩=>[(3,.v (.int .i64 k))],[],fun⟨k,hk1,hk2⟩=>[],fun⟨k,hk1,hk2⟩=>(12148001996-k).toNat,trivial,fun _=>⟨trivial,fun _=>⟨⟨1,by omega,by omega⟩,tI,Af _ _,tI,Ae _ _⟩⟩,fun⟨k,hk1,hk2⟩=>?_⟩);have hd:=Ir h0 hk1;have hq:n/k≤n:=Int.ediv_le_self _ h0;refine G0 ?_;refine⟨by omega,n/k,by rw[Ng h0];exact A6 (by omega) (by omega),?_⟩;refine G0 ?_;(refine Aa (fun h3=>?_) (fun h3=>?_)<;>rw[h3])
  ·have hc:k≤n/k:=(by have:=ZV h3;omega);have hb:=Azq h0 hm hk1 hc;refine G0 ?_;(exact⟨none,trivial,fun _=>⟨⟨k*2,by omega,by omega⟩,by show(12148001996-k*2).toNat<(12148001996-k).toNat;omega,tI,tI,tI,tI⟩⟩)
  ·have hc:¬k≤n/k:=(by have:=ZW h3;omega);have hb:=Awr h0 hk1 (by omega);refine G0 ?_;(refine⟨[],none,{k:Int//1≤k∧k≤6074000998∧rt n≤k},[0],fun⟨x,hx1,hx2,hx3⟩=>[(3,.v (.int .i64 x))],[],fun⟨x,hx1,hx2,hx3⟩=>[],fun⟨x,hx1,hx2,hx3⟩=>x.toNat,trivial,fun _=>⟨trivial,fun _=>⟨⟨k,by omega,by omega,hb⟩,tI,Af _ _,tI,Ae _ _⟩⟩,fun⟨x,hx1,hx2,hx3⟩=>?_⟩);have q1:=Ir h0 hx1;have q2:=Axd (by omega) hx1 hx3;have q3:=Awu n h0 hm;have q4:=Aun h0 hx1;have q5:1≤rt n:=Am8 (by omega) (by omega);have q6:=q1.1;clear q1;refine G0 ?_;refine⟨by omega,n/x,by rw[Ng h0];exact A6 (by omega) (by omega),?_⟩;refine G0 ?_;refine⟨by omega,(x+n/x)/2,by rw[Ng (by omega)];exact A6 (by omega) (by omega),?_⟩;refine G0 ?_;(refine Aa (fun h4=>?_) (fun h4=>?_)<;>rw[h4])
   ·have hc:x≤(x+n/x)/2:=(by have:=ZV h4;omega);refine G0 ?_;rw[show V.v (Value.int .i64 (rt n))=V.v (Value.int .i64 x)by rw[←Aqy h0 hx1 hx3 hc]];(exact⟨[],aI⟩)
   ·have hc:¬x≤(x+n/x)/2:=(by have:=ZW h4;omega);refine G0 ?_;(exact⟨none,trivial,fun _=>⟨⟨(x+n/x)/2,by omega,by omega,by omega⟩,by show((x+n/x)/2).toNat<x.toNat;omega,tI,tI,tI,tI⟩⟩)
theorem L4{p:Pc}:p.okb=true↔(-10000000≤p.x∧p.x≤10000000)∧(-10000000≤p.y∧p.y≤10000000)∧(-10000000≤p.z∧p.z≤10000000)∧(0≤p.h∧p.h≤1000000)∧(0≤p.s∧p.s≤1000):=Q7
theorem Anr(a b:Pc)(ha:a.okb=true)(hb:b.okb=true):Fun Tryz.prog 134 [.c (.agg a.row),.c (.agg b.row)] [.c (.v (.int .i64 (a.flat b)))]:=by
 obtain⟨⟨a1,a2⟩,⟨a3,a4⟩,⟨a5,a6⟩,_,_⟩:=L4.1 ha;obtain⟨⟨b1,b2⟩,⟨b3,b4⟩,⟨b5,b6⟩,_,_⟩:=L4.1 hb;have q1:=J8 a1 a2 b1 b2;have q2:=J8 a3 a4 b3 b4;have q3:=J8 a5 a6 b5 b6;refine Ar Aaf rfl ?_;(refine goI ?_;repeat (intro gg;refine goI ?_));(refine .inl ⟨_,_,false,[],aI,Art ((a.x-b.x)*(a.x-b.x)+(a.y-b.y)*(a.y-b.y)+(a.z-b.z)*(a.z-b.z)) (by omega) (by omega),Ab,nI,?_⟩);refine G1 ?_;intro gg;(exact⟨[],aI⟩)
theorem Al0(a b:Pc)(ha:a.okb=true)(hb:b.okb=true):Fun Tryz.prog 121 [.c (.agg a.row),.c (.agg b.row)] [.c (.v (.int .i64 (a.far b)))]:=by
 obtain⟨_,_,_,⟨a7,a8⟩,_⟩:=L4.1 ha;obtain⟨_,_,_,⟨b7,b8⟩,_⟩:=L4.1 hb;obtain⟨f1,f2⟩:=(Ajf ha hb).1;refine Ar Yd rfl ?_;(refine goI ?_;repeat (intro gg;refine goI ?_));(refine⟨_,_,false,aI,Anr a b ha hb,Ab,nI,?_⟩);refine G1 ?_;intro gg;(exact⟨[],aI⟩)
section
open Go.Shelf
def Tryz.sortS_ren:Go.Shelf.Ren:=⟨fun|6=>123|15=>136|14=>135|28=>154|29=>155|20=>146|21=>147|22=>148|23=>149|24=>150|25=>151|26=>152|27=>153|46=>160|47=>161|48=>162|49=>163|50=>164|57=>170|n=>n,fun|22=>67|24=>9|25=>135|3=>3|39=>69|0=>0|53=>184|55=>186|4=>4|46=>178|45=>177|50=>96|5=>5|9=>9|66=>191|70=>195|76=>197|77=>198|n=>n,fun|n=>n⟩
theorem Tryz.sortS:Go.Proofs.SlLaysF.n6 Tryz.prog Tryz.sortS_ren:={
 mixed:=by kernel_rfl
 f6:=⟨Tryz.f123.name,by decide,Tryz.func123.trans (congrArg some (by kernel_rfl))⟩
 f14:=⟨Tryz.f135.name,by decide,Tryz.func135.trans (congrArg some (by kernel_rfl))⟩
 f15:=Tryz.func136.trans (congrArg some (by kernel_rfl))
 f20:=⟨Tryz.f146.name,by decide,Tryz.func146.trans (congrArg some (by kernel_rfl))⟩
 f21:=⟨Tryz.f147.name,by decide,Tryz.func147.trans (congrArg some (by kernel_rfl))⟩
 f22:=⟨Tryz.f148.name,by decide,Tryz.func148.trans (congrArg some (by kernel_rfl))⟩
 f23:=⟨Tryz.f149.name,by decide,Tryz.func149.trans (congrArg some (by kernel_rfl))⟩
 f24:=⟨Tryz.f150.name,by decide,Tryz.func150.trans (congrArg some (by kernel_rfl))⟩
 f25:=⟨Tryz.f151.name,by decide,Tryz.func151.trans (congrArg some (by kernel_rfl))⟩
 f26:=⟨Tryz.f152.name,by decide,Tryz.func152.trans (congrArg some (by kernel_rfl))⟩
 f27:=⟨Tryz.f153.name,by decide,Tryz.func153.trans (congrArg some (by kernel_rfl))⟩
 f28:=Tryz.func154.trans (congrArg some (by kernel_rfl))
 f29:=Tryz.func155.trans (congrArg some (by kernel_rfl))
 f46:=⟨Tryz.f160.name,by decide,Tryz.func160.trans (congrArg some (by kernel_rfl))⟩
 f47:=Tryz.func161.trans (congrArg some (by kernel_rfl))
 f48:=Tryz.func162.trans (congrArg some (by kernel_rfl))
 f49:=⟨Tryz.f163.name,by decide,Tryz.func163.trans (congrArg some (by kernel_rfl))⟩
 f50:=⟨Tryz.f164.name,by decide,Tryz.func164.trans (congrArg some (by kernel_rfl))⟩
 f57:=⟨Tryz.f170.name,by decide,Tryz.func170.trans (congrArg some (by kernel_rfl))⟩
 t0:=Tryz.underlying0
 a0:=Tryz.isAgg0
 z0:=Tryz.sizeOf0
 v0:=Tryz.zeroValue0
 t3:=Tryz.underlying3
 a3:=Tryz.isAgg3
 z3:=Tryz.sizeOf3
 v3:=Tryz.zeroValue3
 t4:=Tryz.underlying4
 a4:=Tryz.isAgg4
 z4:=Tryz.sizeOf4
 v4:=Tryz.zeroValue4
 t5:=Tryz.underlying5
 a5:=Tryz.isAgg5
 z5:=Tryz.sizeOf5
 v5:=Tryz.zeroValue5
 t9:=Tryz.underlying9
 a9:=Tryz.isAgg9
 z9:=Tryz.sizeOf9
 v9:=Tryz.zeroValue9
 t22:=Tryz.underlying67
 a22:=Tryz.isAgg67
 z22:=Tryz.sizeOf67
 v22:=Tryz.zeroValue67
 a24:=Tryz.isAgg9
 z24:=Tryz.sizeOf9
 t25:=Tryz.underlying135
 a25:=Tryz.isAgg135
 z25:=Tryz.sizeOf135
 v25:=Tryz.zeroValue135
 t39:=Tryz.underlying69
 a39:=Tryz.isAgg69
 z39:=Tryz.sizeOf69
 v39:=Tryz.zeroValue69
 t45:=Tryz.underlying177
 a45:=Tryz.isAgg177
 z45:=Tryz.sizeOf177
 v45:=Tryz.zeroValue177
 t46:=Tryz.underlying178
 a46:=Tryz.isAgg178
 z46:=Tryz.sizeOf178
 v46:=Tryz.zeroValue178
 t50:=Tryz.underlying96
 a50:=Tryz.isAgg96
 z50:=Tryz.sizeOf96
 v50:=Tryz.zeroValue96
 t53:=Tryz.underlying184
 a53:=Tryz.isAgg184
 z53:=Tryz.sizeOf184
 v53:=Tryz.zeroValue184
 t55:=Tryz.underlying186
 a55:=Tryz.isAgg186
 z55:=Tryz.sizeOf186
 v55:=Tryz.zeroValue186
 t66:=Tryz.underlying191
 a66:=Tryz.isAgg191
 z66:=Tryz.sizeOf191
 v66:=Tryz.zeroValue191
 t70:=Tryz.underlying195
 a70:=Tryz.isAgg195
 z70:=Tryz.sizeOf195
 v70:=Tryz.zeroValue195
 t76:=Tryz.underlying197
 a76:=Tryz.isAgg197
 z76:=Tryz.sizeOf197
 v76:=Tryz.zeroValue197
 t77:=Tryz.underlying198
 a77:=Tryz.isAgg198
 z77:=Tryz.sizeOf198
 v77:=Tryz.zeroValue198}
end
section
open Go.Sort Go.Shelf
theorem Aj1(cl:Bool)(l:List ByteArray)(hl:l.length≤1000):Fun Tryz.prog 122 [.c (.sl cl (l.map Dg))] [.o 9 1 (l.map Dg)]:=by
 refine Ar I5 rfl ?_;(refine goI ?_;repeat (intro gg;refine goI ?_));rename_i b;have hb:=gg;cases b with
 |true=>
  have e:l.map Dg=[]:=hb rfl;refine G0 ?_;rw[e];(exact⟨[],aI⟩)
 |false=>
  refine G1 ?_;intro gg;refine⟨Ap7,?_⟩;refine G0 ?_;refine⟨lI,lI,?_⟩;refine G1 ?_;intro gg;(exact⟨[80],aI⟩)
theorem Ayo{K:ByteArray→Option Int}{a b:ByteArray}(h1:K a=none)(h2:K b=none):cfN K a b=B3 [E9 0 0,Ey a b]:=by simp[cfN,rkN,frN,h1,h2,H7,E9]
theorem Azo{K:ByteArray→Option Int}{a b:ByteArray}{x y:Int}(h1:K a=some x)(h2:K b=some y):cfN K a b=B3 [E9 x y,Ey a b]:=by simp[cfN,rkN,frN,h1,h2,H7,E9]
theorem Ayv{K:ByteArray→Option Int}{a b:ByteArray}{x:Int}(h1:K a=some x)(h2:K b=none):cfN K a b= -1:=by simp[cfN,rkN,frN,h1,h2,H7,E9]
theorem Aym{K:ByteArray→Option Int}{a b:ByteArray}{y:Int}(h1:K a=none)(h2:K b=some y):cfN K a b=1:=by simp[cfN,rkN,frN,h1,h2,H7,E9]
end
open Go
def Azx(a b:ByteArray)(x y:Int)(ok is:Bool):Int:=bif ok&& !is then -1 else bif is&& !ok then 1 else B3 [E9 x y,Ey a b]
theorem Ap4(w:World):∃q os,w=Go.Sort.grow (w.drewN q) os:=⟨0, #[],by simp[Go.Sort.grow,World.drewN]⟩
theorem Aki(w:World)(o:Obj):∃q os,w.alloc o=Go.Sort.grow (w.drewN q) os:=⟨0, #[o],by simp[Go.Sort.grow,World.drewN,World.alloc,-World.alloc_eq]⟩
set_option maxRecDepth 100000 in
theorem Ap2(a b:ByteArray)(bx o mb:Nat)(w:World)(ha:w.cell? ⟨bx,o,none⟩=some (.map (some mb)))(x y:Int)(ok is:Bool)(h1:(Instr.lookup 164 (.map (some mb)) (.string a) true).run Tryz.prog w=.ok (.tuple #[.int .i64 x,.bool ok]) w)(h2:(Instr.lookup 164 (.map (some mb)) (.string b) true).run Tryz.prog w=.ok (.tuple #[.int .i64 y,.bool is]) w):Calls Tryz.prog 124 #[.string a,.string b,.pointer (some ⟨bx,o,none⟩)] w fun e w'=>e=.returned (.int .i64 (Azx a b x y ok is))∧∃q os,w'=Go.Sort.grow (w.drewN q) os:=by
 have hnot:∀(x:Bool) (w:World),(Op.unary .not (.bool x)).run Tryz.prog w=.ok (.bool (!x)) w:=fun _ _=>rfl;cases ok<;>cases is
 all_goals
  go_enter Tryz.func124,Tryz.ntmps124
  go_wp2_with (first|(go_at_call 126;refine(Arr x y _).mono ?_;rintro e w' ⟨rfl,rfl⟩)|(go_at_call 94;refine(Ahs a b _).mono ?_;rintro e w' ⟨rfl,rfl⟩)|(go_at_call 125;refine(Axs _ [E9 x y,Ey a b] _ (Blk.new _ _ _) (by simp)).mono ?_;rintro e w' ⟨rfl,rfl⟩))
  refine bodyPost_ret (results_tmp rfl _ _ _) rfl ⟨rfl,?_⟩
  first|exact Aki _ _|exact Ap4 _
theorem Ait{w:World}{R:Nat→Prop}{E:List (Value×V)}{x:Value}{k:ByteArray}{r:Option (Nat×V)}(hx:RV w R noG (.rmap E) x)(hf:Gn .string (.string k) E 0=some r):
  ∃(mb:Nat) (val:Value) (b:Bool),x=.map (some mb)∧(Instr.lookup 164 x (.string k) true).run Tryz.prog w=.ok (.tuple #[val,.bool b]) w∧(r=none→val=.int .i64 0∧b=false)∧∀j u,r=some (j,u)→b=true∧RV w R noG u val:=by
 cases hx with
 |rmap ents mb clock es hR hb hl hk hv=>
  obtain⟨s,g1,g2,g3⟩:=Or es.toList E 0 (by simpa using hl) (fun j e p q1 q2=>hk j e p (by simpa using q1) q2) r hf;have hck:=fun em=>J0 (P:=Tryz.prog) (w:=w) (em:=em) (n:=9999) (v:=.string k) Tryz.underlying9 rfl;have hget:(Instr.lookup 164 (.map (some mb)) (.string k) true).run Tryz.prog w=(do
    let (v,b')←match s with
     |some (_,v)=>pure (v,true)
     |none=>pure (←zeroValue 3,false)
    pure (.tuple #[v,.bool b']):Sem Value).run Tryz.prog w:=by
   simp only[Instr.lookup,Sem.run_bind,run_underlying Tryz.underlying164,Result.andThen_ok,Sem.run_pure,Go.MapKept.run_getObj_map hb,hck,Jd Tryz.underlying9 g1];rfl
  have hi:(Tryz.prog.info? 3).map (fun i=>i.zero)=some (some (.int .i64 0)):=by kernel_rfl
  obtain⟨i,hi1,hi2⟩:=Option.map_eq_some_iff.1 hi;cases r with
  |none=>
   obtain rfl:=g2 rfl;refine⟨mb,.int .i64 0,false,rfl,?_,fun _=>⟨rfl,rfl⟩,fun j u h=>(by cases h)⟩;rw[hget];simp[zeroValue,typeInfo,hi1,hi2]
  |some q=>
   obtain⟨j,u⟩:=q;obtain⟨v,rfl,_,e,p,k1,k2,k3,k4⟩:=g3 j u rfl;refine⟨mb,v,true,rfl,?_,fun h=>(by cases h),fun j' u' h=>?_⟩
   ·rw[hget];simp
   ·cases h;refine⟨rfl,?_⟩;rw[k3,k4];exact hv (j-0) e p (by simpa using k1) k2
theorem Awo(f:Pc)(l:List Wh)(E:List (ByteArray×V))(hE:Gz f l E)(a b:ByteArray)(w:World)(R:Nat→Prop)(zs:List Value)(hlt:∀b,R b→b<w.heap.size)(hp:Kx w R [.c (.v (.string a)),.c (.v (.string b)),.c (.rptr [.rmap (ents E)] 0)] zs):Calls Tryz.prog 124 zs.toArray w fun e w'=>e=.returned (.int .i64 (cfN (Bx f l) a b))∧∃q os,w'=Go.Sort.grow (w.drewN q) os:=by
 have hl:=hp.len
 match zs,hl,hp with
 |[z0,z1,z2],_,hp=>
  have e0:z0=.string a:=Ce (hp.ok 0 _ _ rfl rfl);have e1:z1=.string b:=Ce (hp.ok 1 _ _ rfl rfl);subst e0 e1;have h2:RV w R noG (.rptr [.rmap (ents E)] 0) z2:=hp.ok 2 _ _ rfl rfl;cases h2 with
  |rptr row off bx o g hR hcell hh=>
   have hm:=hh 0 _ rfl;have hc:=hcell 0 _ rfl;have key:∀c:ByteArray,∃(mb:Nat) (val:Int) (bb:Bool),g 0=.map (some mb)∧(Instr.lookup 164 (g 0) (.string c) true).run Tryz.prog w=.ok (.tuple #[.int .i64 val,.bool bb]) w∧(Bx f l c=none→val=0∧bb=false)∧∀x,Bx f l c=some x→val=x∧bb=true:=by
    intro c;cases hk:Bx f l c with
    |none=>
     have q:=hE.at_none hk;obtain⟨mb,val,bb,k1,k2,k3,_⟩:=Ait (r:=none) hm ((D8 _ _ _).trans (by rw[q]));obtain⟨rfl,rfl⟩:=k3 rfl;exact⟨mb,0,false,k1,k2,fun _=>⟨rfl,rfl⟩,fun x h=>(by cases h)⟩
    |some x=>
     obtain⟨j,q⟩:=hE.at_some hk;obtain⟨mb,val,bb,k1,k2,_,k3⟩:=Ait (r:=some (j,iV x)) hm ((D8 _ _ _).trans (by rw[q]));obtain⟨rfl,hv⟩:=k3 j _ rfl;obtain rfl:=Ce hv;exact⟨mb,x,true,k1,k2,fun h=>(by cases h),fun y h=>by cases h;exact⟨rfl,rfl⟩⟩
   obtain⟨mb,x,ok,m1,l1,n1,s1⟩:=key a;obtain⟨mb2,y,is,m2,l2,n2,s2⟩:=key b;rw[m1]at l1 l2 hc;have h:=Ap2 a b bx o mb w hc x y ok is l1 l2;have er:Azx a b x y ok is=cfN (Bx f l) a b:=by
    cases h1:Bx f l a with
    |none=>
     obtain⟨rfl,rfl⟩:=n1 h1;cases h2:Bx f l b with
     |none=>obtain⟨rfl,rfl⟩:=n2 h2;rw[Ayo h1 h2];rfl
     |some v=>obtain⟨rfl,rfl⟩:=s2 v h2;rw[Aym h1 h2];rfl
    |some u=>
     obtain⟨rfl,rfl⟩:=s1 u h1;cases h2:Bx f l b with
     |none=>obtain⟨rfl,rfl⟩:=n2 h2;rw[Ayv h1 h2];rfl
     |some v=>obtain⟨rfl,rfl⟩:=s2 v h2;rw[Azo h1 h2];rfl
   rw[er]at h;exact h
theorem Anw(f:Pc)(l:List Wh)(E:List (ByteArray×V))(hE:Gz f l E)(names:List ByteArray)(hn:names.length≤1000):H3 Tryz.prog 123 [.ms 9 1 (names.map Dg) ((Ii (cfN (Bx f l)) names).map Dg),.p (.c (.clo 124 [.rptr [.rmap (ents E)] 0]))] []:=
 Ap0 (enc:=fun s:ByteArray=>Value.string s) Tryz.sortS (Fb Tryz.func123 (by kernel_rfl) (by kernel_rfl)) 9 (fun _=>rfl) (cfN (Bx f l)) (Aj6 (Z0 _)) (Arx (Z0 _) fun _ _=>Ahc) 124 [.rptr [.rmap (ents E)] 0]
  (Fb Tryz.func124 (by kernel_rfl) (by kernel_rfl)) names (by omega) (fun _ a b w R zs hlt hp=>Awo f l E hE a b w R zs hlt hp)
section
open Go.Sort Go.Shelf
noncomputable def Aih(f:Pc)(l:List Wh)(names:List ByteArray):List ByteArray:=if Hg f l names=0 then Ii (cfN (Bx f l)) names else []
theorem Un{f:Pc}{l:List Wh}{names:List ByteArray}(h:100<l.length∨100<names.length):Hg f l names=2:=by simp[Hg,h]
theorem Aey{f:Pc}{l:List Wh}{names:List ByteArray}(h:¬(100<l.length∨100<names.length))(h2:f.err≠0):Hg f l names=f.err:=by simp[Hg,h,h2]
theorem Us{f:Pc}{l:List Wh}{names:List ByteArray}(h:¬(100<l.length∨100<names.length))(h2:f.err=0):Hg f l names=Bm Wh.perr l:=by simp[Hg,h,h2]
theorem T5{f:Pc}{l:List Wh}{names:List ByteArray}(h:Hg f l names≠0):Aih f l names=[]:=by simp[Aih,h]
theorem Agh{f:Pc}{l:List Wh}{names:List ByteArray}(h:Hg f l names=0):Aih f l names=Ii (cfN (Bx f l)) names:=by simp[Aih,h]
theorem Ant(f:Pc)(l:List Wh)(names:List ByteArray)(hl:l.length≤9223372036854775807)(hn:names.length≤9223372036854775807):Fun Tryz.prog 97 [.c (.agg f.row),.c (.sl false (l.map Wh.row)),.c (.sl false (names.map Dg))]
  [.o 9 1 ((Aih f l names).map Dg),.c (.v (.int .i64 (Hg f l names)))]:=by
 refine Ar Ac8 rfl ?_;refine G1 ?_;intro gg;rw[ZE];(refine Aa (fun h1=>?_) (fun h1=>?_)<;>rw[h1])
 ·have h1':100<l.length:=(by have:=ZV h1;omega);have e:=Un (f:=f) (l:=l) (names:=names) (.inl h1');rw[e,T5 (by rw[e];decide)];refine G0 ?_;(exact⟨[],aI⟩)
 ·have h1':¬100<l.length:=(by have:=ZW h1;omega);refine G0 ?_;rw[ZE];(refine Aa (fun h2=>?_) (fun h2=>?_)<;>rw[h2])
  ·have h2':100<names.length:=(by have:=ZV h2;omega);have e:=Un (f:=f) (l:=l) (names:=names) (.inr h2');rw[e,T5 (by rw[e];decide)];refine G0 ?_;(exact⟨[],aI⟩)
  ·have h2':¬100<names.length:=(by have:=ZW h2;omega);have h12:¬(100<l.length∨100<names.length):=by omega
   refine G0 ?_;(refine .inl ⟨_,_,false,[],aI,On f,Ab,nI,?_⟩);refine G1 ?_;intro gg;(refine Aa (fun h3=>?_) (fun h3=>?_)<;>rw[h3])
   ·have h3':f.err≠0:=by simpa using h3
    have e:=Aey (f:=f) (l:=l) (names:=names) h12 h3';rw[e,T5 (by rw[e];exact h3')];refine G0 ?_;(exact⟨[],aI⟩)
   ·have h3':f.err=0:=by simpa using h3
    have e:=Us (f:=f) (l:=l) (names:=names) h12 h3';(refine goI ?_;repeat (intro gg;refine goI ?_));rename_i gm
    rename Nat=>gb
    have hf:f.okb=true:=Pc.err_iff.1 h3';refine⟨[],rfl,?_⟩;refine G0 ?_;(refine⟨[],none,{q:Nat×List (ByteArray×V)//q.1≤l.length∧(∀j,(h:j<l.length)→j<q.1→Wh.perr l[j]=0)∧Gz f (l.take q.1) q.2},[1,2,3,9,30,31],fun⟨⟨k,E⟩,hk,h0,hE⟩=>[(32,.v (.int .i64 k))],[48,144],fun⟨⟨k,E⟩,hk,h0,hE⟩=>[(464,⟨gm,.q (Q4 (ents E)),0,[]⟩)],fun⟨⟨k,E⟩,hk,h0,hE⟩=>l.length-k,trivial,fun _=>⟨trivial,fun _=>⟨⟨(0,[]),ZU _,fun j _ h=>absurd h (Nat.not_lt_zero _),Gz.nil f⟩,tI,Af _ _,tI,Ae _ _⟩⟩,fun⟨⟨k,E⟩,hk,h0,hE⟩=>?_⟩);refine G0 ?_;(refine Aa (fun h4=>?_) (fun h4=>?_)<;>rw[h4])
    ·have hlt:k<l.length:=by have:=ZV h4;simpa using this
     refine G0 ?_;refine⟨k,_,rfl,Ad hlt,?_⟩;refine G1 ?_;intro gg;(refine .inl ⟨_,_,false,[],aI,On (l[k]).pl,Ab,nI,?_⟩);refine G1 ?_;intro gg;(refine Aa (fun h5=>?_) (fun h5=>?_)<;>rw[h5])
     ·have h5':Wh.perr l[k]≠0:=by simpa[Wh.perr]using h5
      have e2:=e.trans (Ff hlt h0 h5');rw[e2,T5 (by rw[e2];exact h5')];refine G0 ?_;(exact⟨[],aI⟩)
     ·have h5':Wh.perr l[k]=0:=by simpa[Wh.perr]using h5
      have hp:(l[k]).pl.okb=true:=Pc.err_iff.1 h5';have et:l.take (k+1)=l.take k++[l[k]]:=by rw[XT,ZC hlt];rfl
      refine G0 ?_;cases hlk:Pl.look (l[k]).nd E 0 with
      |some r=>
       obtain⟨ri,rv⟩:=r;obtain⟨x,rfl⟩:=hE.val hlk;refine⟨some (ri,iV x),(D8 _ _ _).trans (by rw[hlk]),?_⟩;refine G0 ?_;have hE':Gz f (l.take (k+1)) E:=by rw[et];exact hE.old (by rw[hlk];simp)
       (exact⟨none,trivial,fun _=>⟨⟨(k+1,E),by dsimp only;omega,up1 (p:=fun j h=>Wh.perr l[j]=0) h0 (fun _=>h5'),hE'⟩,by show l.length-(k+1)<l.length-k;omega,tI,tI,tI,tI⟩⟩)
      |none=>
       refine⟨none,(D8 _ _ _).trans (by rw[hlk]),?_⟩;refine G0 ?_;(refine⟨_,_,false,aI,Al0 f (l[k]).pl hf hp,Ab,nI,?_⟩);refine G1 ?_;intro gg;refine⟨_,none,rfl,As rfl,(D8 _ _ _).trans (by rw[hlk]),?_⟩;refine G0 ?_;have e:=Za E (l[k]).nd (iV (f.far (l[k]).pl));rw[hlk]at e;have hE':Gz f (l.take (k+1)) (put E (l[k]).nd (iV (f.far (l[k]).pl))):=by rw[et];exact hE.new hlk
       (exact⟨none,trivial,fun gr=>⟨⟨(k+1,put E (l[k]).nd (iV (f.far (l[k]).pl))),by dsimp only;omega,up1 (p:=fun j h=>Wh.perr l[j]=0) h0 (fun _=>h5'),hE'⟩,by show l.length-(k+1)<l.length-k;omega,tI,tI,⟨congrArg (fun x=>some (Ent.mk gm (.q (Q4 x)) 0 [])) e,trivial⟩,tI⟩⟩)
    ·have hge:¬k<l.length:=by have:=ZW h4;simpa using this
     have hz:Hg f l names=0:=e.trans (Dm (fun i hi=>h0 i hi (by dsimp only;omega)));rw[List.take_of_length_le (by dsimp only;omega)]at hE;have hE:Gz f l E:=hE;rw[hz,Agh hz];refine G0 ?_;(refine .inl ⟨_,_,false,[],aI,Aj1 false names (by omega),Ab,nI,?_⟩);refine G1 ?_;intro gg;refine .inr (.inl ⟨_,_,true,[960],Ava rfl Dy (by decide) (by decide) (by rw[ZE,ZE];exact List.length_mergeSort _) (Amw (Axk rfl rfl (by decide) (by decide) Alq) (.nil _)),Anw f l E hE names (by omega),(fun _=>mfI),oI,(by exact(by decide:([960]:List Nat).Nodup)),?_⟩);refine G1 ?_;intro gg;(exact⟨[960],aI⟩)
end
theorem Ay4{w:World}{R R':Nat→Prop}{T:TypeId}{sz:Nat}{rows:List (List V)}{x:Value}(h:Sy w R (.o T sz rows) x)(hR:∀b,R b→R' b)(hb:∀b,x.ownBlock=some b→R' b):RV w R' noG (.sl false rows) x:=by
 obtain⟨hsz,xs,g5,g6⟩:=h;have g5':w.ownsRow 0 T (Ent.mk 0 (.t T) sz rows).sz (Loc.mk 0 sz x false none).val (Ent.mk 0 (.t T) sz rows).rows.length xs:=g5;rcases Ha g5' with⟨hv,h0⟩|⟨b,cap,hv,hbk⟩
 ·have hv:x=.slice none 0 0:=hv;rw[hv];have:rows=[]:=h0;subst this;exact .nil _ _ _ (by simp)
 ·have hv:x=.slice (some ⟨b,0,none⟩) rows.length cap:=hv;have hbk:x.ownBlock=some b:=hbk;rw[hv];have hcapn:rows.length≤cap:=by
   rcases g5.2 with⟨q,_⟩|⟨g',cap',cur,q,_,_,hnc,_⟩
   ·rw[hv]at q;cases q
   ·rw[hv]at q;injection q with _ _ q;omega
  refine .sl _ rows b 0 cap sz (fun i j=>(xs[i*sz+j]?).getD undef) (hb b hbk) hcapn (by simp) g6.1 ?_ ?_
  ·intro i j row u h1 h2;obtain⟨y,q1,_,q2⟩:=g6.2 i j row u h1 h2;show w.cell? ⟨b,0+i*sz+j,none⟩=some ((xs[i*sz+j]?).getD undef);rw[q1,Nat.zero_add];exact Gh g5' hbk q1
  ·intro i j row u h1 h2;obtain⟨y,q1,_,q2⟩:=g6.2 i j row u h1 h2;show RV w R' noG u ((xs[i*sz+j]?).getD undef);rw[q1];exact q2.mono (fun b hb=>⟨hR b hb,rfl⟩) (Gle.refl _)
def frz:Par→Par
 |.c u=>.c u
 |.o _ _ rows=>.c (.sl false rows)
theorem Fun.frz{P:Program}{f:FuncId}{ps rs:List Par}(h:Fun P f ps rs):Fun P f ps (rs.map frz):=by
 refine⟨h.1,fun w R xs hlt hp=>(h.2 w R xs hlt hp).mono ?_⟩
 rintro e w' ⟨ys,R',he,hfr,h1,h2,h3,h4⟩
 have no:∀(i:Nat) (T:TypeId) (sz:Nat) (rows:List (List V)),(rs.map Go.Proofs.YtbnocibpoghfhaaGreatDoor.frz)[i]?≠some (.o T sz rows):=fun i T sz rows q=>by
  rw[XJ]at q;cases hr:rs[i]? with
  |none=>rw[hr]at q;cases q
  |some r=>
   rw[hr]at q;cases r<;>cases q
 refine⟨ys,fun b=>R' b∨A2 rs ys b,he,hfr,fun b hb=>.inl (h1 b hb),?_,⟨by rw[ZE];exact h3.len,?_,?_,?_⟩,?_⟩
 ·rintro b (hb|hb)
  ·exact h2 b hb
  ·refine .inr ⟨?_,h4 b hb⟩;obtain⟨i,T,sz,rows,x,q1,q2,q3⟩:=hb;obtain⟨_,xs',g,_⟩:=h3.ok i _ x q1 q2;exact Mm g q3
 ·intro i p x hp1 hx;rw[XJ]at hp1;cases hr:rs[i]? with
  |none=>rw[hr]at hp1;cases hp1
  |some r=>
   rw[hr]at hp1;have ho:=h3.ok i r x hr hx;cases r with
   |c u=>
    injection hp1 with hp1;subst hp1;exact RV.mono ho (fun b hb=>⟨.inl hb,rfl⟩) (Gle.refl _)
   |o T sz rows=>
    injection hp1 with hp1;subst hp1;exact Ay4 ho (fun b hb=>.inl hb) (fun b hb=>.inr ⟨i,T,sz,rows,x,hr,hx,hb⟩)
 ·intro i j T sz rows T' sz' rows' x y b hij h1;exact absurd h1 (no i T sz rows)
 ·rintro b ⟨i,T,sz,rows,x,q1,_⟩
  exact absurd q1 (no i T sz rows)
 ·rintro b ⟨i,T,sz,rows,x,q1,_⟩
  exact absurd q1 (no i T sz rows)
section
open Go.Sort Go.Shelf

end
set_option maxHeartbeats 1000000 in
set_option maxRecDepth 100000 in
theorem Aou(s:ByteArray)(c:UInt8)(w:World):
  Calls Tryz.prog 140 #[.string s,.string ⟨#[c]⟩] w fun e w'=>e=.returned (.int .i64 (Lib.countByte s.data.toList c))∧w'=w:=by
 go_enter Tryz.func140,Tryz.ntmps140
 go_wp2
 rw[run_callFunc_extern Tryz.func158 (by kernel_rfl) (by kernel_rfl) (by kernel_rfl) (e:=Extern.BytealgCount.count) (by kernel_rfl),Lib.run_countString];simp only[Result.andThen];rw[Oper.upon_value]
 go_wp2
 go_ret
 exact⟨rfl,rfl⟩
set_option maxHeartbeats 1000000 in
set_option maxRecDepth 100000 in
theorem Acc(s:ByteArray)(c:Int)(w:World):
  Calls Tryz.prog 166 #[.string s,.int .u8 c] w fun e w'=>e=.returned (.int .i64 (Lib.indexByte s.data.toList c.toNat.toUInt8))∧w'=w:=by
 go_enter Tryz.func166,Tryz.ntmps166
 go_wp2
 rw[run_callFunc_extern Tryz.func171 (by kernel_rfl) (by kernel_rfl) (by kernel_rfl) (e:=Extern.BytealgIndexByte.indexByte) (by kernel_rfl),Lib.run_indexByteString];simp only[Result.andThen];rw[Oper.upon_value]
 go_wp2
 go_ret
 exact⟨rfl,rfl⟩
set_option maxHeartbeats 2000000 in
set_option maxRecDepth 100000 in
theorem Ac2(s:ByteArray)(c:UInt8)(w:World):
  Calls Tryz.prog 159 #[.string s,.string ⟨#[c]⟩] w fun e w'=>e=.returned (.int .i64 (Lib.indexByte s.data.toList c))∧w'=w:=by
 go_enter Tryz.func159,Tryz.ntmps159
 go_wp2_with (go_at_call 166;refine(Acc _ _ _).mono ?_;rintro e w' ⟨rfl,rfl⟩)
 ·have h:([c]==s.toList)=true:=by assumption
  go_ret
  refine⟨?_,rfl⟩;have e:s.data.toList=[c]:=by rw[←Lib.toList_data];exact(ZR.1 h).symm
  rw[e];simp[Lib.indexByte]
 ·go_ret
  exact⟨rfl,rfl⟩
set_option maxHeartbeats 1000000 in
theorem Aor(s:ByteArray)(c:UInt8)(w:World):
  Calls Tryz.prog 141 #[.string s,.string ⟨#[c]⟩] w fun e w'=>e=.returned (.int .i64 (Lib.indexByte s.data.toList c))∧w'=w:=by
 go_enter Tryz.func141,Tryz.ntmps141
 go_wp2_with (go_at_call 159;refine(Ac2 _ _ _).mono ?_;rintro e w' ⟨rfl,rfl⟩)
 go_ret
 exact⟨rfl,rfl⟩
namespace Pl
def ixb(r:ByteArray)(c:UInt8):Int:=Lib.indexByte r.data.toList c
def cnb(r:ByteArray)(c:UInt8):Nat:=Lib.countByte r.data.toList c
theorem Aqa{l:List UInt8}{c:UInt8}(h:0<l.count c):∃m:Nat,Lib.indexByte l c=(m:Int)∧m<l.length∧(l.drop (m+1)).count c+1=l.count c:=by
 induction l with
 |nil=>simp at h
 |cons b l ih=>
  unfold Lib.indexByte;by_cases hb:(b==c)=true
  ·rw[if_pos hb];have:b=c:=by simpa using hb
   subst this;exact⟨0,rfl,by simp,by simp⟩
  ·rw[if_neg hb];have hne:b≠c:=fun e=>hb (by simpa using e);rw[List.count_cons_of_ne hne]at h ⊢;obtain⟨m,h1,h2,h3⟩:=ih h;have hn:¬((Lib.indexByte l c== -1)=true):=by rw[h1];simp
   rw[if_neg hn,h1];exact⟨m+1,by simp,by simp;omega,by simpa using h3⟩
def Bz(c:UInt8)(s:ByteArray):Nat→ByteArray
 |0=>s
 |k+1=>(Bz c s k).extract ((ixb (Bz c s k) c).toNat+1) (Bz c s k).size
def S0(c:UInt8)(s:ByteArray)(k:Nat):ByteArray:=(Bz c s k).extract 0 (ixb (Bz c s k) c).toNat
def Ci(c:UInt8)(s:ByteArray):List ByteArray:=(List.range (cnb s c)).map (S0 c s)++[Bz c s (cnb s c)]
theorem Om(c:UInt8)(s:ByteArray):(Ci c s).length=cnb s c+1:=by simp[Ci]
theorem Afh(s:ByteArray)(c:UInt8):cnb s c≤s.size:=by
 have:=List.count_le_length (a:=c) (l:=s.data.toList);simpa[cnb,Lib.countByte]using this
theorem D3(s:ByteArray)(a b:Nat):(s.extract a b).data.toList=(s.data.toList.take b).drop a:=by
 simp[ByteArray.data_extract,List.drop_take]
theorem Ku(c:UInt8)(s:ByteArray):∀k,k≤cnb s c→cnb (Bz c s k) c+k=cnb s c
 |0,_=>rfl
 |k+1,h=>by
  have ih:=Ku c s k (by omega);have hp:0<(Bz c s k).data.toList.count c:=by have:cnb (Bz c s k) c=(Bz c s k).data.toList.count c:=rfl;omega
  obtain⟨m,h1,h2,h3⟩:=Aqa hp;have hx:ixb (Bz c s k) c=(m:Int):=h1;have e:(Bz c s (k+1)).data.toList=(Bz c s k).data.toList.drop (m+1):=by
   show((Bz c s k).extract ((ixb (Bz c s k) c).toNat+1) (Bz c s k).size).data.toList=_;rw[D3,hx];congr 1;exact List.take_of_length_le (by simp)
  have:cnb (Bz c s (k+1)) c+1=cnb (Bz c s k) c:=by
   unfold cnb Lib.countByte;rw[e];exact h3
  omega
theorem Alb (c : UInt8) (s : ByteArray) {k : Nat} (h : k < cnb s c) : ∃ m : Nat, ixb (Bz c s k) c = (m : Int) ∧ m + 1 ≤ (Bz c s k).size ∧ S0 c s k = (Bz c s k).extract 0 m ∧ Bz c s (k + 1) = (Bz c s k).extract (m + 1) (Bz c s k).size := by
  have ih := Ku c s k (by omega)
  have hp : 0 < (Bz c s k).data.toList.count c := by have : cnb (Bz c s k) c = (Bz c s k).data.toList.count c := rfl; omega
  obtain ⟨m, h1, h2, _⟩ := Aqa hp
  have hx : ixb (Bz c s k) c = (m : Int) := h1
  refine ⟨m, hx, by have h4 : m < (Bz c s k).size := by simpa using h2
                    omega, ?_, ?_⟩
  · show (Bz c s k).extract 0 (ixb (Bz c s k) c).toNat = _
    rw [hx]; rfl
  · show (Bz c s k).extract ((ixb (Bz c s k) c).toNat + 1) (Bz c s k).size = _
    rw [hx]; rfl
theorem R9(c:UInt8)(s:ByteArray):∀k,(Bz c s k).size≤s.size
 |0=>ZT _
 |k+1=>by
  have:=R9 c s k;show((Bz c s k).extract _ _).size≤_;rw[ByteArray.size_extract];omega
end Pl
def A1(s:ByteArray):List V:=[.v (.string s)]
instance:FlatRow A1:=⟨fun x u hu=>by simp[A1]at hu;subst hu;exact⟨_,rfl⟩⟩
theorem Ans(s:ByteArray)(c:UInt8):Fun Tryz.prog 140 [.c (.v (.string s)),.c (.v (.string ⟨#[c]⟩))] [.c (.v (.int .i64 (cnb s c)))]:=
 Nx (xs:=[.string s,.string ⟨#[c]⟩]) (Fb Tryz.func140 (by kernel_rfl) (by kernel_rfl)) fun w=>(Aou s c w).mono fun e w' ⟨h1,h2⟩=>⟨h1,h2▸Below.refl _ _⟩
theorem Ap6(s:ByteArray)(c:UInt8):Fun Tryz.prog 141 [.c (.v (.string s)),.c (.v (.string ⟨#[c]⟩))] [.c (.v (.int .i64 (ixb s c)))]:=
 Nx (xs:=[.string s,.string ⟨#[c]⟩]) (Fb Tryz.func141 (by kernel_rfl) (by kernel_rfl)) fun w=>(Aor s c w).mono fun e w' ⟨h1,h2⟩=>⟨h1,h2▸Below.refl _ _⟩
def E4(c:UInt8)(s:ByteArray)(k:Nat):List ByteArray:=(List.range k).map (S0 c s)++List.replicate (cnb s c+1-k) ⟨#[]⟩
theorem Xm(c:UInt8)(s:ByteArray){k:Nat}(h:k≤cnb s c+1):(E4 c s k).length=cnb s c+1:=by simp[E4];omega
theorem Xi(c:UInt8)(s:ByteArray){k:Nat}(h:k<cnb s c+1)(x:ByteArray):(E4 c s k).set k x=(List.range k).map (S0 c s)++[x]++List.replicate (cnb s c-k) ⟨#[]⟩:=by
 unfold E4;rw[show cnb s c+1-k=(cnb s c-k)+1 by omega,List.replicate_succ];rw[List.set_append_right _ _ (by simp)];simp
theorem Aeu(c:UInt8)(s:ByteArray){k:Nat}(h:k<cnb s c):(E4 c s k).set k (S0 c s k)=E4 c s (k+1):=by
 rw[Xi c s (by omega)];unfold E4;rw[List.range_succ,ZI];simp
theorem Agt(c:UInt8)(s:ByteArray):((E4 c s (cnb s c)).set (cnb s c) (Bz c s (cnb s c))).take (cnb s c+1)=Ci c s:=by
 rw[Xi c s (by omega)];unfold Ci;rw[Nat.sub_self,List.replicate_zero,List.append_nil];exact List.take_of_length_le (by simp)
theorem Axi(c:UInt8):((⟨#[c]⟩:ByteArray).toList==(⟨#[]⟩:ByteArray).toList)=false:=by simp[Lib.toList_data]
theorem Ae3(c:UInt8)(s:ByteArray):(E4 c s 0).map A1=List.replicate (cnb s c+1) (([.string ⟨#[]⟩]:List Value).map .v):=by
 simp[E4,A1]
theorem Aej(s:ByteArray)(c:UInt8)(hs:s.size≤1000000000000):Fun Tryz.prog 129 [.c (.v (.string s)),.c (.v (.string ⟨#[c]⟩)),.c (.v (.int .i64 0)),.c (.v (.int .i64 (-1)))] [.o 9 1 ((Ci c s).map A1)]:=by
 have hc:=Afh s c;have hR:=Ku c s;have hz:=R9 c s;refine Ar Sk rfl ?_;(refine goI ?_;repeat (intro gg;refine goI ?_));rw[Axi];(refine goI ?_;repeat (intro gg;refine goI ?_));(refine .inl ⟨_,_,false,[],aI,Ans s c,Ab,nI,?_⟩);(refine goI ?_;repeat (intro gg;refine goI ?_));rw[show min ((cnb s c:Int)+1) ((s.size:Int)+1)=(cnb s c:Int)+1 by omega];(refine goI ?_;repeat (intro gg;refine goI ?_));refine⟨cnb s c+1,by simp,by simp,by simp only[maxLen];omega,by omega,?_⟩;(refine goI ?_;repeat (intro gg;refine goI ?_));rw[←Ae3];(refine goI ?_;repeat (intro gg;refine goI ?_));(refine⟨[],none,{k:Nat//k≤cnb s c},[1,2,3,9],fun⟨k,hk⟩=>[(0,.v (.string (Bz c s k))),(10,.v (.int .i64 k))],[],fun⟨k,hk⟩=>[(496,⟨gg,9,1,(E4 c s k).map A1⟩)],fun⟨k,hk⟩=>cnb s c-k,trivial,fun _=>⟨trivial,fun _=>⟨⟨0,by omega⟩,tI,Af _ _,tI,Ae _ _⟩⟩,fun⟨k,hk⟩=>?_⟩);(refine goI ?_;repeat (intro gg;refine goI ?_));(refine Aa (fun h1=>?_) (fun h1=>?_)<;>rw[h1])
 ·have hlt:k<cnb s c:=(by have:=ZV h1;omega);obtain⟨m,e1,e2,e3,e4⟩:=Alb c s hlt;have e5:=hz k;have e6:=Aeu c s hlt;have e7:=Xm c s (k:=k) (by omega);have e8:k<(E4 c s k).length:=by omega
  (refine goI ?_;repeat (intro gg;refine goI ?_));(refine .inl ⟨_,_,false,[],aI,Ap6 (Bz c s k) c,Ab,nI,?_⟩);rw[e1];(refine goI ?_;repeat (intro gg;refine goI ?_));refine⟨0,m,rfl,⟨_,rfl⟩,by omega,by omega,?_⟩;(refine goI ?_;repeat (intro gg;refine goI ?_));refine⟨k,_,rfl,Ad e8,?_⟩;(refine goI ?_;repeat (intro gg;refine goI ?_));refine⟨(m:Int)+1,A6 (n:=(m:Int)+1) (by omega) (by omega),?_⟩;(refine goI ?_;repeat (intro gg;refine goI ?_));refine⟨m+1,(Bz c s k).size,⟨_,rfl⟩,rfl,by omega,ZT _,?_⟩;rw[←e4];(refine goI ?_;repeat (intro gg;refine goI ?_));have hn:(E4 c s (k+1)).map A1=((E4 c s k).map A1).set k [V.v (Value.string ((Bz c s k).extract 0 m))]:=by rw[←e6,List.map_set,e3];rfl
  (exact⟨none,trivial,fun gr=>⟨⟨k+1,by omega⟩,by show cnb s c-(k+1)<cnb s c-k;omega,hxI hn,hxI hn,hxI hn,hxI hn⟩⟩)
 ·have hge:¬k<cnb s c:=(by have:=ZW h1;omega);have hk':k≤cnb s c:=hk;obtain rfl:k=cnb s c:=by omega
  have e7:=Xm c s (k:=cnb s c) (by omega);have e8:cnb s c<(E4 c s (cnb s c)).length:=by omega
  (refine goI ?_;repeat (intro gg;refine goI ?_));refine⟨cnb s c,_,rfl,Ad e8,?_⟩;(refine goI ?_;repeat (intro gg;refine goI ?_));refine⟨0,0,cnb s c+1,rfl,rfl,⟨_,rfl⟩,ZU _,by simp[e7],rfl,rfl,fun g=>?_⟩;(refine goI ?_;repeat (intro gg;refine goI ?_));have hE:(((E4 c s (cnb s c)).map A1).set (cnb s c) [V.v (Value.string (Bz c s (cnb s c)))]).take (cnb s c+1)=(Ci c s).map A1:=by rw[←Agt,List.map_take,List.map_set];rfl
  rw[hE];(exact⟨[496],aI⟩)
namespace Pl
theorem Ajo{α:Type}(p:α→Bool)(l:List α):decide (0≤at_ p l)=l.any p:=by
 rcases Ajp (p:=p) (l:=l)with⟨h1,h2⟩|⟨k,hk,h1,h2,_⟩
 ·rw[h1];cases hq:l.any p with
  |false=>rfl
  |true=>
   obtain⟨x,hx,hp⟩:=List.any_eq_true.1 hq;obtain⟨i,hi,rfl⟩:=List.getElem_of_mem hx;rw[h2 i hi]at hp;cases hp
 ·rw[h1];have:l.any p=true:=List.any_eq_true.2 ⟨_,ZK hk,h2⟩;rw[this];simp
def keep{α:Type}(p:α→Bool)(l:List α):List α:=l.filter fun x=> !p x
theorem keep_all{α:Type}{p:α→Bool}{l:List α}(h:∀i,(h:i<l.length)→p l[i]=false):keep p l=l:=by
 unfold keep;rw[List.filter_eq_self];intro x hx;obtain⟨i,hi,rfl⟩:=List.getElem_of_mem hx;simp[h i hi]
theorem Rh{α:Type}{p:α→Bool}{l:List α}{k:Nat}(h:k<l.length):keep p (l.take (k+1))=if p l[k]=true then keep p (l.take k)else keep p (l.take k)++[l[k]]:=by
 unfold keep;rw[XT,ZC h,List.filter_append];cases q:p l[k]<;>simp[q]
structure Ju{α:Type}(p:α→Bool)(l l':List α)(i j:Nat):Prop where
 ij:i<j
 jl:j≤l.length
 len:l'.length=l.length
 ahead:l'.take i=keep p (l.take j)
 behind:∀k,(h:k<l.length)→j≤k→l'[k]'(by rw[len];exact h)=l[k]
theorem Ju.start{α:Type}{p:α→Bool}{l:List α}{k:Nat}(hk:k<l.length)(h1:p l[k]=true)(h0:∀i,(h:i<l.length)→i<k→p l[i]=false):Ju p l l k (k+1):=by
 refine⟨by omega,by omega,rfl,?_,fun _ _ _=>rfl⟩;rw[Rh hk,if_pos h1,keep_all];intro i hi;simp at hi;simp only[List.getElem_take];exact h0 i (by omega) (by omega)
theorem Ju.gone{α:Type}{p:α→Bool}{l l':List α}{i j:Nat}(h:Ju p l l' i j)(hj:j<l.length)(hp:p l[j]=true):Ju p l l' i (j+1):=by
 refine⟨by have:=h.ij;omega,by omega,h.len,?_,fun k hk hkj=>h.behind k hk (by omega)⟩;rw[Rh hj,if_pos hp];exact h.ahead
theorem Ju.stays{α:Type}{p:α→Bool}{l l':List α}{i j:Nat}(h:Ju p l l' i j)(hj:j<l.length)(hp:p l[j]=false):Ju p l (l'.set i l[j]) (i+1) (j+1):=by
 have hij:=h.ij;have hlen:=h.len;refine⟨by omega,by omega,by simp[hlen],?_,fun k hk hkj=>?_⟩
 ·rw[Rh hj,if_neg (by simp[hp]),XT,List.take_set_of_le (ZT _),h.ahead];congr 1;rw[List.getElem?_set_self (by omega)];rfl
 ·rw[List.getElem_set_ne (by omega)];exact h.behind k hk (by omega)
theorem Ju.fin{α:Type}{p:α→Bool}{l l':List α}{i j:Nat}(h:Ju p l l' i j)(hj:¬j<l.length):l'.take i=keep p l:=by
 rw[h.ahead,List.take_of_length_le (by omega)]
end Pl
def A5(s:ByteArray):List ByteArray:=if(s.toList==(⟨#[]⟩:ByteArray).toList)=true then []else Ci 46 s
def Ao(s:ByteArray):Int:=if(A5 s).any (fun x=> !lab x.data.toList)=true then 1 else if 8<(A5 s).length then 2 else if 120<s.size then 2 else 0
theorem Acm(s:ByteArray)(c:UInt8)(hs:s.size≤1000000000000):Fun Tryz.prog 103 [.c (.v (.string s)),.c (.v (.string ⟨#[c]⟩))] [.o 9 1 ((Ci c s).map A1)]:=by
 refine Ar W5 rfl ?_;refine G0 ?_;(refine .inl ⟨_,_,false,[],aI,Aej s c hs,Ab,nI,?_⟩);refine G1 ?_;intro gg;(exact⟨[112],aI⟩)
theorem Aax(s:ByteArray)(hs:s.size≤1000000000000):Fun Tryz.prog 90 [.c (.v (.string s))] [.c (.sl false ((A5 s).map A1))]:=by
 refine Ar Ac0 rfl ?_;refine G0 ?_;(refine Aa (fun h=>?_) (fun h=>?_)<;>rw[h])
 ·refine G0 ?_;rw[show A5 s=[]from if_pos h];(exact⟨[],aI⟩)
 ·refine G0 ?_;(refine .inl ⟨_,_,false,[],aI,Acm s 46 hs,Ab,nI,?_⟩);refine G1 ?_;intro gg;rw[show A5 s=Ci 46 s from if_neg (by rw[h];decide)];(exact⟨[],aI⟩)
theorem Aqs(s:ByteArray)(hs:s.size≤9223372036854775807):Fun Tryz.prog 91 [.c (.v (.string s))] [.c (.v (.bool (!lab s.data.toList)))]:=by
 refine Ar Zx rfl ?_;refine G0 ?_;(refine .inl ⟨_,_,false,[],aI,El s hs,Ab,nI,?_⟩);refine G1 ?_;intro gg;(exact⟨[],aI⟩)
theorem Abo(cl:Bool)(l:List ByteArray)(f:FuncId)(p:ByteArray→Bool)(hl:l.length≤9223372036854775807)(hf:∀s∈l,Fun Tryz.prog f [.c (.v (.string s))] [.c (.v (.bool (p s)))]):
  Fun Tryz.prog 80 [.c (.sl cl (l.map A1)),.c (.v (.func (.func f) #[] #[]))] [.c (.v (.int .i64 (at_ p l)))]:=by
 refine Ar H2 rfl ?_;refine G0 ?_;rw[ZE];(refine⟨[],none,{k:Nat//k≤l.length∧∀j,(h:j<l.length)→j<k→p l[j]=false},[0,1,7],fun⟨k,hk,h0⟩=>[(8,.v (.int .i64 k))],[],fun⟨k,hk,h0⟩=>[],fun⟨k,hk,h0⟩=>l.length-k,trivial,fun _=>⟨trivial,fun _=>⟨⟨0,by omega,fun j _ h=>by omega⟩,tI,Af _ _,tI,Ae _ _⟩⟩,fun⟨k,hk,h0⟩=>?_⟩);refine G0 ?_;(refine Aa (fun h=>?_) (fun h=>?_)<;>rw[h])
 ·have hlt:k<l.length:=(by have:=ZV h;omega);refine G0 ?_;refine⟨k,_,rfl,Ad hlt,?_⟩;refine G0 ?_;(refine .inl ⟨_,_,false,[],aI,hf _ (ZK hlt),Ab,nI,?_⟩);refine G1 ?_;intro gg;(refine Aa (fun h2=>?_) (fun h2=>?_)<;>rw[h2])
  ·refine G0 ?_;rw[Vq hlt h0 h2];(exact⟨[],aI⟩)
  ·refine G0 ?_;(exact⟨none,trivial,fun _=>⟨⟨k+1,by omega,up1 (p:=fun j h=>p l[j]=false) h0 (fun _=>h2)⟩,by show l.length-(k+1)<l.length-k;omega,tI,tI,tI,tI⟩⟩)
 ·have hge:¬k<l.length:=(by have:=ZW h;omega);refine G0 ?_;rw[Ad9 (p:=p) (l:=l) (fun i hi=>h0 i hi (by omega))];(exact⟨[],aI⟩)
theorem S7(cl:Bool)(l:List ByteArray)(f:FuncId)(p:ByteArray→Bool)(hl:l.length≤9223372036854775807)(hf:∀s∈l,Fun Tryz.prog f [.c (.v (.string s))] [.c (.v (.bool (p s)))]):
  Fun Tryz.prog 39 [.c (.sl cl (l.map A1)),.c (.v (.func (.func f) #[] #[]))] [.c (.v (.bool (l.any p)))]:=by
 have hI:=Abo cl l f p hl hf;refine Ar Gt rfl ?_;refine G0 ?_;(refine .inl ⟨_,_,false,[],aI,hI,Ab,nI,?_⟩);refine G1 ?_;intro gg;rw[Ajo];(exact⟨[],aI⟩)
theorem Ajz(s:ByteArray)(a b:Nat):(s.extract a b).size≤s.size:=by rw[ByteArray.size_extract];omega
theorem Fm{s x:ByteArray}(h:x∈A5 s):x.size≤s.size:=by
 unfold A5 at h;split at h
 ·cases h
 ·unfold Ci at h;rcases XM.1 h with h|h
  ·obtain⟨k,_,rfl⟩:=XO.1 h;exact XI (Ajz _ _ _) (R9 46 s k)
  ·simp only[XC,XD,or_false]at h;subst h;exact R9 46 s _
theorem Jk(s:ByteArray):(A5 s).length≤s.size+1:=by
 unfold A5;split
 ·simp
 ·rw[Om];have:=Afh s 46;omega
theorem N9(s:ByteArray)(hs:s.size≤1000000000000):Fun Tryz.prog 49 [.c (.v (.string s))] [.c (.v (.int .i64 (Ao s)))]:=by
 have hL:=Jk s;have hC:=S7 false (A5 s) 91 (fun x=> !lab x.data.toList) (by omega) (fun x hx=>Aqs x (by have:=Fm hx;omega));refine Ar Afi rfl ?_;refine G0 ?_;(refine .inl ⟨_,_,false,[],aI,Aax s hs,Ab,nI,?_⟩);refine G1 ?_;intro gg;(refine .inl ⟨_,_,false,[],aI,hC,Ab,nI,?_⟩);refine G1 ?_;intro gg;(refine Aa (fun h=>?_) (fun h=>?_)<;>rw[h])
 ·refine G0 ?_;rw[show Ao s=1 from if_pos h];(exact⟨[],aI⟩)
 ·have e:Ao s=if 8<(A5 s).length then 2 else if 120<s.size then 2 else 0:=if_neg (by rw[h];decide)
  refine G0 ?_;rw[ZE];(refine Aa (fun h2=>?_) (fun h2=>?_)<;>rw[h2])
  ·refine G0 ?_;rw[e,if_pos (by have:=ZV h2;omega)];(exact⟨[],aI⟩)
  ·rw[if_neg (by have:=ZW h2;omega)]at e;refine G0 ?_;(refine Aa (fun h3=>?_) (fun h3=>?_)<;>rw[h3])
   ·refine G0 ?_;rw[e,if_pos (by have:=ZV h3;omega)];(exact⟨[],aI⟩)
   ·refine G0 ?_;rw[e,if_neg (by have:=ZW h3;omega)];(exact⟨[],aI⟩)
namespace Pl

end Pl

namespace Pl
structure Qr where
 sv:ByteArray
 tg:ByteArray
 nd:ByteArray
 ce:ByteArray
def Qr.row(q:Qr):List V:=[.v (.string q.sv),.v (.string q.tg),.v (.string q.nd),.v (.string q.ce)]
instance:FlatRow Qr.row:=⟨fun x u hu=>by simp[Qr.row]at hu;rcases hu with rfl|rfl|rfl|rfl<;>exact⟨_,rfl⟩⟩
def Qr.ok(q:Qr):Prop:=q.sv.size≤9223372036854775807∧q.tg.size≤9223372036854775807∧q.nd.size≤9223372036854775807∧q.ce.size≤9223372036854775807
def em(x:ByteArray):Bool:=x.toList==(⟨#[]⟩:ByteArray).toList
def Br:ByteArray:=⟨#[115,101,114,118,105,99,101]⟩
def Cm:ByteArray:=⟨#[110,111,100,101]⟩
def Bc:ByteArray:=⟨#[109,101,115,104]⟩
def Z2(l:List ByteArray)(x:ByteArray):Bool:=l.any fun w=>x.toList==w.toList
def Gx(x:ByteArray):Bool:=bif em x then false else !lab x.data.toList
def Qr.all(q:Qr):List ByteArray:=[q.sv,q.tg,q.nd,q.ce]
def Qr.c1(q:Qr):Bool:=bif (em q.sv==em q.nd)then true else(bif em q.sv then !em q.tg else false)
def Qr.c2(q:Qr):Bool:=q.all.any Gx
def Qr.c3(q:Qr):Bool:=bif Z2 [Br,Cm,Bc] q.ce then true else bif Z2 [Br,Cm,Bc] q.sv then true else bif Z2 [Br,Cm,Bc] q.tg then true else Z2 [Br,Cm] q.nd
def Qr.err(q:Qr):Int:=bif q.c1 then 1 else bif q.c2 then 1 else bif q.c3 then 7 else 0
end Pl
theorem Akd(cl:Bool)(l:List ByteArray)(v:ByteArray)(hl:l.length≤9223372036854775807):
  Fun Tryz.prog 81 [.c (.sl cl (l.map A1)),.c (.v (.string v))] [.c (.v (.int .i64 (at_ (fun w=>v.toList==w.toList) l)))]:=by
 refine Ar Jg rfl ?_;refine G0 ?_;rw[ZE];(refine⟨[],none,{k:Nat//k≤l.length∧∀j,(h:j<l.length)→j<k→(v.toList==l[j].toList)=false},[0,1,7],fun⟨k,hk,h0⟩=>[(8,.v (.int .i64 k))],[],fun⟨k,hk,h0⟩=>[],fun⟨k,hk,h0⟩=>l.length-k,trivial,fun _=>⟨trivial,fun _=>⟨⟨0,by omega,fun j _ h=>by omega⟩,tI,Af _ _,tI,Ae _ _⟩⟩,fun⟨k,hk,h0⟩=>?_⟩);refine G0 ?_;(refine Aa (fun h=>?_) (fun h=>?_)<;>rw[h])
 ·have hlt:k<l.length:=(by have:=ZV h;omega);refine G0 ?_;refine⟨k,_,rfl,Ad hlt,?_⟩;refine G0 ?_;(refine Aa (fun h2=>?_) (fun h2=>?_)<;>rw[h2])
  ·refine G0 ?_;rw[Vq (p:=fun w=>v.toList==w.toList) hlt h0 h2];(exact⟨[],aI⟩)
  ·refine G0 ?_;(exact⟨none,trivial,fun _=>⟨⟨k+1,by omega,up1 (p:=fun j h=>(v.toList==l[j].toList)=false) h0 (fun _=>h2)⟩,by show l.length-(k+1)<l.length-k;omega,tI,tI,tI,tI⟩⟩)
 ·have hge:¬k<l.length:=(by have:=ZW h;omega);refine G0 ?_;rw[Ad9 (p:=fun w=>v.toList==w.toList) (l:=l) (fun i hi=>h0 i hi (by omega))];(exact⟨[],aI⟩)
theorem Afs(cl:Bool)(l:List ByteArray)(v:ByteArray)(hl:l.length≤9223372036854775807):
  Fun Tryz.prog 43 [.c (.sl cl (l.map A1)),.c (.v (.string v))] [.c (.v (.bool (Z2 l v)))]:=by
 refine Ar Ie rfl ?_;refine G0 ?_;(refine .inl ⟨_,_,false,[],aI,Akd cl l v hl,Ab,nI,?_⟩);refine G1 ?_;intro gg;rw[Ajo];(exact⟨[],aI⟩)
theorem Atl(s:ByteArray)(hs:s.size≤9223372036854775807):Fun Tryz.prog 40 [.c (.v (.string s))] [.c (.v (.bool (Gx s)))]:=by
 refine Ar Wk rfl ?_;refine G0 ?_;(refine Aa (fun h=>?_) (fun h=>?_)<;>rw[h])
 ·have he:em s=false:=Dr h;refine G0 ?_;(refine .inl ⟨_,_,false,[],aI,El s hs,Ab,nI,?_⟩);refine G1 ?_;intro gg;rw[show Gx s= !lab s.data.toList by unfold Gx;rw[he];rfl];(exact⟨[],aI⟩)
 ·have he:em s=true:=Bw h;refine G0 ?_;rw[show Gx s=false by unfold Gx;rw[he];rfl];(exact⟨[],aI⟩)
theorem Me(s:ByteArray)(l:List ByteArray)(hl:l.length≤9223372036854775807):Fun Tryz.prog 42 [.c (.v (.string s)),.c (.sl false (l.map A1))] [.c (.v (.bool (Z2 l s)))]:=by
 refine Ar Vu rfl ?_;refine G0 ?_;(refine .inl ⟨_,_,false,[],aI,Afs false l s hl,Ab,nI,?_⟩);refine G1 ?_;intro gg;(exact⟨[],aI⟩)
theorem Abb(q:Qr)(hq:q.ok):Fun Tryz.prog 18 [.c (.agg q.row)] [.c (.v (.int .i64 q.err))]:=by
 have hF:=S7 false q.all 40 Gx (by simp[Qr.all]) (fun x hx=>Atl x (by
  obtain⟨h1,h2,h3,h4⟩:=hq;simp only[Qr.all,XC,XD,or_false]at hx;rcases hx with rfl|rfl|rfl|rfl<;>assumption))
 refine Ar Z5 rfl ?_;refine G1 ?_;intro gg;(refine Aa (fun h1=>?_) (fun h1=>?_)<;>rw[h1])
 ·have e1:(em q.sv==em q.nd)=true:=h1;have hc1:q.c1=true:=by unfold Qr.c1;rw[e1];rfl
  refine G0 ?_;rw[show q.err=1 by unfold Qr.err;rw[hc1];rfl];(exact⟨[],aI⟩)
 ·have e1:(em q.sv==em q.nd)=false:=h1;refine G0 ?_;(refine Aa (fun h2=>?_) (fun h2=>?_)<;>rw[h2])
  ·have e2:em q.sv=true:=h2;refine G0 ?_;(refine Aa (fun h3=>?_) (fun h3=>?_)<;>rw[h3])
   ·have e3:(!em q.tg)=true:=h3;have hc1:q.c1=true:=by unfold Qr.c1;rw[e1,e2,e3];rfl
    refine G0 ?_;rw[show q.err=1 by unfold Qr.err;rw[hc1];rfl];(exact⟨[],aI⟩)
   ·have e3:(!em q.tg)=false:=h3;have hc1:q.c1=false:=by unfold Qr.c1;rw[e1,e2,e3];rfl
    refine G1 ?_;intro gg;(refine .inl ⟨_,_,true,[],aI,hF,(fun _=>fI),nI,?_⟩);refine G1 ?_;intro gg;(refine Aa (fun h4=>?_) (fun h4=>?_)<;>rw[h4])
    ·refine G0 ?_;rw[show q.err=1 by unfold Qr.err;rw[hc1,show q.c2=true from h4];rfl];(exact⟨[],aI⟩)
    ·have hc2:q.c2=false:=h4;refine G1 ?_;intro gg;(refine .inl ⟨_,_,true,[],aI,Me q.ce [Br,Cm,Bc] (by simp),(fun _=>fI),nI,?_⟩);refine G1 ?_;intro gg;(refine Aa (fun k1=>?_) (fun k1=>?_)<;>rw[k1])
     ·refine G0 ?_;rw[show q.err=7 by unfold Qr.err Qr.c3;rw[hc1,hc2,k1];rfl];(exact⟨[],aI⟩)
     ·refine G1 ?_;intro gg;(refine .inl ⟨_,_,true,[],aI,Me q.sv [Br,Cm,Bc] (by simp),(fun _=>fI),nI,?_⟩);refine G1 ?_;intro gg;(refine Aa (fun k2=>?_) (fun k2=>?_)<;>rw[k2])
      ·refine G0 ?_;rw[show q.err=7 by unfold Qr.err Qr.c3;rw[hc1,hc2,k1,k2];rfl];(exact⟨[],aI⟩)
      ·refine G1 ?_;intro gg;(refine .inl ⟨_,_,true,[],aI,Me q.tg [Br,Cm,Bc] (by simp),(fun _=>fI),nI,?_⟩);refine G1 ?_;intro gg;(refine Aa (fun k3=>?_) (fun k3=>?_)<;>rw[k3])
       ·refine G0 ?_;rw[show q.err=7 by unfold Qr.err Qr.c3;rw[hc1,hc2,k1,k2,k3];rfl];(exact⟨[],aI⟩)
       ·refine G1 ?_;intro gg;(refine .inl ⟨_,_,true,[],aI,Me q.nd [Br,Cm] (by simp),(fun _=>fI),nI,?_⟩);refine G1 ?_;intro gg;(refine Aa (fun k4=>?_) (fun k4=>?_)<;>rw[k4])
        ·refine G0 ?_;rw[show q.err=7 by unfold Qr.err Qr.c3;rw[hc1,hc2,k1,k2,k3,k4];rfl];(exact⟨[],aI⟩)
        ·refine G0 ?_;rw[show q.err=0 by unfold Qr.err Qr.c3;rw[hc1,hc2,k1,k2,k3,k4];rfl];(exact⟨[],aI⟩)
  ·have e2:em q.sv=false:=h2;have hc1:q.c1=false:=by unfold Qr.c1;rw[e1,e2];rfl
   refine G1 ?_;intro gg;(refine .inl ⟨_,_,true,[],aI,hF,(fun _=>fI),nI,?_⟩);refine G1 ?_;intro gg;(refine Aa (fun h4=>?_) (fun h4=>?_)<;>rw[h4])
   ·refine G0 ?_;rw[show q.err=1 by unfold Qr.err;rw[hc1,show q.c2=true from h4];rfl];(exact⟨[],aI⟩)
   ·have hc2:q.c2=false:=h4;refine G1 ?_;intro gg;(refine .inl ⟨_,_,true,[],aI,Me q.ce [Br,Cm,Bc] (by simp),(fun _=>fI),nI,?_⟩);refine G1 ?_;intro gg;(refine Aa (fun k1=>?_) (fun k1=>?_)<;>rw[k1])
    ·refine G0 ?_;rw[show q.err=7 by unfold Qr.err Qr.c3;rw[hc1,hc2,k1];rfl];(exact⟨[],aI⟩)
    ·refine G1 ?_;intro gg;(refine .inl ⟨_,_,true,[],aI,Me q.sv [Br,Cm,Bc] (by simp),(fun _=>fI),nI,?_⟩);refine G1 ?_;intro gg;(refine Aa (fun k2=>?_) (fun k2=>?_)<;>rw[k2])
     ·refine G0 ?_;rw[show q.err=7 by unfold Qr.err Qr.c3;rw[hc1,hc2,k1,k2];rfl];(exact⟨[],aI⟩)
     ·refine G1 ?_;intro gg;(refine .inl ⟨_,_,true,[],aI,Me q.tg [Br,Cm,Bc] (by simp),(fun _=>fI),nI,?_⟩);refine G1 ?_;intro gg;(refine Aa (fun k3=>?_) (fun k3=>?_)<;>rw[k3])
      ·refine G0 ?_;rw[show q.err=7 by unfold Qr.err Qr.c3;rw[hc1,hc2,k1,k2,k3];rfl];(exact⟨[],aI⟩)
      ·refine G1 ?_;intro gg;(refine .inl ⟨_,_,true,[],aI,Me q.nd [Br,Cm] (by simp),(fun _=>fI),nI,?_⟩);refine G1 ?_;intro gg;(refine Aa (fun k4=>?_) (fun k4=>?_)<;>rw[k4])
       ·refine G0 ?_;rw[show q.err=7 by unfold Qr.err Qr.c3;rw[hc1,hc2,k1,k2,k3,k4];rfl];(exact⟨[],aI⟩)
       ·refine G0 ?_;rw[show q.err=0 by unfold Qr.err Qr.c3;rw[hc1,hc2,k1,k2,k3,k4];rfl];(exact⟨[],aI⟩)

theorem Uh(l:List ByteArray)(f:FuncId)(p:ByteArray→Bool)(hl:l.length≤1000)(hf:∀x∈l,Fun Tryz.prog f [.c (.v (.string x))] [.c (.v (.bool (p x)))]):
  Fun Tryz.prog 88 [.o 9 1 (l.map A1),.c (.v (.func (.func f) #[] #[]))] [.o 9 1 ((keep p l).map A1)]:=by
 refine Ar Hh rfl ?_;refine G0 ?_;(refine .inl ⟨_,_,true,[],aI,Abo false l f p (by omega) hf,(fun _=>fI),nI,?_⟩);rcases Ajp (p:=p) (l:=l)with⟨h1,h2⟩|⟨k,hk,h1,h2,h3⟩
 ·rw[h1,Pl.keep_all (p:=p) (l:=l) h2];refine G1 ?_;intro gg;(exact⟨[0],aI⟩)
 ·rw[h1];refine G1 ?_;intro gg;(refine⟨[],none,{q:List ByteArray×Nat×Nat//Ju p l q.1 q.2.1 q.2.2},[0,1,36,37,39,40,41],fun⟨⟨l',i,j⟩,hm⟩=>[(5,.v (.int .i64 i)),(6,.v (.int .i64 j))],[],fun⟨⟨l',i,j⟩,hm⟩=>[(0,⟨0,9,1,l'.map A1⟩)],fun⟨⟨l',i,j⟩,hm⟩=>l.length-j,trivial,fun _=>⟨trivial,fun _=>⟨⟨(l,k,k+1),Ju.start hk h2 h3⟩,tI,Af _ _,tI,Ae _ _⟩⟩,fun⟨⟨l',i,j⟩,hm⟩=>?_⟩);refine G0 ?_;have hm:Ju p l l' i j:=hm;have hlen:l'.length=l.length:=hm.len;(refine Aa (fun h=>?_) (fun h=>?_)<;>rw[h])
  ·have hlt:j<l'.length:=by have:=ZV h;simpa using this
   refine G0 ?_;refine⟨j,_,rfl,Ad hlt,?_⟩;refine G0 ?_;have hj:j<l.length:=by omega
   have hx:l'[j]=l[j]:=hm.behind j hj (ZT _);rw[hx];(refine .inl ⟨_,_,false,[],aI,hf _ (ZK hj),Ab,nI,?_⟩);refine G1 ?_;intro gg;(refine Aa (fun h4=>?_) (fun h4=>?_)<;>rw[h4])
   ·have h4':p l[j]=false:=Dr h4;have hi:i<l'.length:=by have:=hm.ij;omega
    refine G0 ?_;refine⟨i,_,rfl,Ad hi,?_⟩;refine G0 ?_;have e:(l'.map A1).set i (A1 l[j])=(l'.set i l[j]).map A1:=List.map_set.symm;exact⟨none,trivial,fun gr=>⟨⟨(l'.set i l[j],i+1,j+1),hm.stays hj h4'⟩,by show l.length-(j+1)<l.length-j;omega,tI,tI,⟨congrArg (fun r=>some (Ent.mk 0 9 1 r)) e,trivial⟩,tI⟩⟩
   ·have h4':p l[j]=true:=Bw h4;refine G0 ?_;(exact⟨none,trivial,fun _=>⟨⟨(l',i,j+1),hm.gone hj h4'⟩,by show l.length-(j+1)<l.length-j;omega,tI,tI,tI,tI⟩⟩)
  ·have hge:¬j<l'.length:=by have:=ZW h;simpa using this
   have hi:i≤l'.length:=by have:=hm.ij;have:=hm.jl;omega
   refine G0 ?_;refine⟨1,i,(l'.map A1).length,rfl,⟨_,rfl⟩,rfl,by simpa using hi,ZT _,?_⟩;refine G0 ?_;refine⟨by simpa using hi,ZT _,?_⟩;refine G0 ?_;refine⟨0,0,i,rfl,rfl,⟨_,rfl⟩,ZU _,?_,rfl,rfl,fun g=>?_⟩
   ·show i≤((l'.map A1).take i++List.replicate ((l'.map A1).length-i) _++(l'.map A1).drop (l'.map A1).length).length;simp only[ZF,ZM,ZE,List.length_replicate];omega
   refine G0 ?_;refine⟨[0],Afr rfl rfl rfl rfl rfl Dy ?_⟩;show((l'.map A1).take i++List.replicate ((l'.map A1).length-i) _++(l'.map A1).drop (l'.map A1).length).take i=(keep p l).map A1;rw[ZS,List.take_append_of_le_length (by simp;omega),List.take_take,Nat.min_self,←hm.fin (by omega),List.map_take]
section
open Go.Shelf
def Tryz.lays156_ren:Go.Shelf.Ren:=⟨fun|156=>87|165=>118|166=>110|169=>74|240=>130|241=>133|276=>142|277=>144|n=>n,fun|31=>67|9=>9|3=>3|4=>4|0=>0|20=>20|72=>118|76=>155|70=>115|37=>116|75=>153|127=>157|164=>173|5=>5|80=>110|n=>n,fun|n=>n⟩
theorem Tryz.lays156:Go.Proofs.Lays.n156 Tryz.prog Tryz.lays156_ren:={
 mixed:=by kernel_rfl
 f156:=Tryz.func87.trans (congrArg some (by kernel_rfl))
 f165:=Tryz.func118.trans (congrArg some (by kernel_rfl))
 f166:=Tryz.func110.trans (congrArg some (by kernel_rfl))
 f169:=Tryz.func74.trans (congrArg some (by kernel_rfl))
 f240:=Tryz.func130.trans (congrArg some (by kernel_rfl))
 f241:=Tryz.func133.trans (congrArg some (by kernel_rfl))
 f276:=Tryz.func142.trans (congrArg some (by kernel_rfl))
 f277:=Tryz.func144.trans (congrArg some (by kernel_rfl))
 t0:=Tryz.underlying0
 a0:=Tryz.isAgg0
 z0:=Tryz.sizeOf0
 v0:=Tryz.zeroValue0
 t3:=Tryz.underlying3
 a3:=Tryz.isAgg3
 z3:=Tryz.sizeOf3
 v3:=Tryz.zeroValue3
 t4:=Tryz.underlying4
 a4:=Tryz.isAgg4
 z4:=Tryz.sizeOf4
 v4:=Tryz.zeroValue4
 t9:=Tryz.underlying9
 a9:=Tryz.isAgg9
 z9:=Tryz.sizeOf9
 v9:=Tryz.zeroValue9
 t20:=Tryz.underlying20
 a20:=Tryz.isAgg20
 z20:=Tryz.sizeOf20
 v20:=Tryz.zeroValue20
 t31:=Tryz.underlying67
 a31:=Tryz.isAgg67
 z31:=Tryz.sizeOf67
 v31:=Tryz.zeroValue67
 t37:=Tryz.underlying116
 a37:=Tryz.isAgg116
 z37:=Tryz.sizeOf116
 v37:=Tryz.zeroValue116
 t70:=Tryz.underlying115
 a70:=Tryz.isAgg115
 z70:=Tryz.sizeOf115
 v70:=Tryz.zeroValue115
 t72:=Tryz.underlying118
 a72:=Tryz.isAgg118
 z72:=Tryz.sizeOf118
 v72:=Tryz.zeroValue118
 t75:=Tryz.underlying153
 a75:=Tryz.isAgg153
 z75:=Tryz.sizeOf153
 v75:=Tryz.zeroValue153
 t76:=Tryz.underlying155
 a76:=Tryz.isAgg155
 z76:=Tryz.sizeOf155
 v76:=Tryz.zeroValue155
 t127:=Tryz.underlying157
 a127:=Tryz.isAgg157
 z127:=Tryz.sizeOf157
 v127:=Tryz.zeroValue157
 t164:=Tryz.underlying173
 a164:=Tryz.isAgg173
 z164:=Tryz.sizeOf173
 v164:=Tryz.zeroValue173}
theorem Tryz.Builder_Extra_156:Builder.Extra Tryz.prog Tryz.lays156_ren:={
 sizeBuilder:=by kernel_rfl
 liesBuilder:=by kernel_rfl
 t5:=Tryz.underlying5
 a5:=Tryz.isAgg5
 z5:=Tryz.sizeOf5
 v5:=Tryz.zeroValue5
 infoByte:=by kernel_rfl
 cellsByte:=by kernel_rfl
 sizeByte:=by kernel_rfl
 neB5:=by decide}
end
def Df(sep:ByteArray)(xs:List ByteArray):ByteArray:=⟨(Lib.join (xs.map (·.data.toList)) sep.data.toList).toArray⟩
theorem Vf(cl:Bool)(xs:List ByteArray)(sep:ByteArray)(hN:xs.length≤140737488355328)(hlen:(Df sep xs).size≤140737488355328):
  Fun Tryz.prog 87 [.c (.sl cl (xs.map A1)),.c (.v (.string sep))] [.c (.v (.string (Df sep xs)))]:=by
 refine⟨Fb Tryz.func87 (by kernel_rfl) (by kernel_rfl),fun w R ys hlt hp=>?_⟩;have fin:∀w',Fr (A2 [.c (.sl cl (xs.map A1)),.c (.v (.string sep))] ys) w w'→∃(zs:List Value) (R':Nat→Prop),Ending.returned (Value.string (Df sep xs))=.returned (G7 zs)∧Fr (A2 [.c (.sl cl (xs.map A1)),.c (.v (.string sep))] ys) w w'∧(∀b,R b→R' b)∧
   (∀b,R' b→R b∨(b<w'.heap.size∧(A2 [.c (.sl cl (xs.map A1)),.c (.v (.string sep))] ys b∨w.heap.size≤b)))∧Kx w' R' [.c (.v (.string (Df sep xs)))] zs∧(∀b,A2 [.c (.v (.string (Df sep xs)))] zs b→A2 [.c (.sl cl (xs.map A1)),.c (.v (.string sep))] ys b∨w.heap.size≤b):=fun w' hfr=>by
  refine⟨[.string (Df sep xs)],R,rfl,hfr,fun _ h=>h,fun b h=>.inl h,⟨rfl,?_,?_,?_⟩,?_⟩
  ·intro i p x h1 h2;cases i with
   |zero=>simp at h1 h2;subst h1 h2;exact .v _
   |succ i=>simp at h1
  ·intro i j T sz rows T' sz' rows' x y b _ h1;cases i with
   |zero=>simp at h1
   |succ i=>simp at h1
  ·intro b hb;exact absurd hb (Mr fun p hp=>by simp at hp;exact⟨_,hp⟩)
  ·intro b hb;exact absurd hb (Mr fun p hp=>by simp at hp;exact⟨_,hp⟩)
 have hl:=hp.len
 match ys,hl,hp,fin with
 |[y0,y1],_,hp,fin=>
  have h0:RV w R noG (.sl cl (xs.map A1)) y0:=hp.ok 0 _ _ rfl rfl;have h1:RV w R noG (.v (.string sep)) y1:=hp.ok 1 _ _ rfl rfl;have e1:=Ce h1;subst e1;have hnone:∀(a:Option Addr) (cap:Nat),xs=[]→y0=.slice a 0 cap→Calls Tryz.prog 87 [y0,.string sep].toArray w fun e w'=>∃(zs:List Value) (R':Nat→Prop),e=.returned (G7 zs)∧Fr (A2 [.c (.sl cl (xs.map A1)),.c (.v (.string sep))] [y0,.string sep]) w w'∧(∀b,R b→R' b)∧
   (∀b,R' b→R b∨(b<w'.heap.size∧(A2 [.c (.sl cl (xs.map A1)),.c (.v (.string sep))] [y0,.string sep] b∨w.heap.size≤b)))∧Kx w' R' [.c (.v (.string (Df sep xs)))] zs∧(∀b,A2 [.c (.v (.string (Df sep xs)))] zs b→A2 [.c (.sl cl (xs.map A1)),.c (.v (.string sep))] [y0,.string sep] b∨w.heap.size≤b):=fun a cap hx hy=>by
   have h:=Any.strings_Join_none Tryz.lays156 Tryz.Builder_Extra_156 a cap sep w;change Calls Tryz.prog 87 _ w _ at h;rw[←hy]at h;refine h.mono ?_
   rintro e w' ⟨rfl,rfl⟩
   have e2:Df sep xs=⟨#[]⟩:=by rw[hx];rfl
   rw[←e2];exact fin w' (Fr.refl _ _)
  obtain⟨rows,hr'⟩:∃rows,rows=xs.map A1:=⟨_,rfl⟩;rw[←hr']at h0;have hr:=hr'.symm;clear hr';have hlen0:rows.length=xs.length:=by rw[←hr];simp
  cases h0 with
  |nil clip a cap hc=>
   exact hnone a cap (by simpa using hr) rfl
  |sl clip rows b off cap sz f hR hcap hclip hs hcell hh=>
   by_cases hx:xs=[]
   ·exact hnone _ cap hx (by rw[hlen0,hx];rfl)
   ·have hsz:sz=1:=by
     obtain⟨x,xs',rfl⟩:=List.exists_cons_of_ne_nil hx;exact(hs (A1 x) (by rw[←hr];simp)).symm
    subst hsz;have h:=Any.strings_Join Tryz.lays156 Tryz.Builder_Extra_156 b off cap xs sep w (fun j x hj=>by
     have hrow:rows[j]? =some (A1 x):=by rw[←hr,XJ,hj];rfl
     have h2:=hcell j 0 (A1 x) (.v (.string x)) hrow rfl;rw[Ce (hh j 0 (A1 x) (.v (.string x)) hrow rfl)]at h2;rw[←h2,Nat.mul_one,Nat.add_zero]) (hlt b hR) hN (by omega) (by
      have:(Df sep xs).size=(Lib.join (xs.map (·.data.toList)) sep.data.toList).length:=by
       show(Lib.join (xs.map (·.data.toList)) sep.data.toList).toArray.size=_;simp
      omega)
    change Calls Tryz.prog 87 _ w _ at h;rw[←hlen0]at h;refine h.mono ?_
    rintro e w' ⟨rfl,hb⟩
    exact fin w' (Xf hb)
namespace Pl
def dot:ByteArray:=⟨#[46]⟩
def Uj:ByteArray:=⟨#[46,110,111,100,101,46]⟩
def Jl:ByteArray:=⟨#[46,115,101,114,118,105,99,101,46]⟩
def Qr.base(q:Qr):ByteArray:=bif em q.nd then(bif em q.tg then q.sv++Jl else(q.tg++dot)++(q.sv++Jl))else q.nd++Uj
def Qr.pr(q:Qr):ByteArray:=(bif em q.ce then q.base else q.base++(q.ce++dot))++Bc
def Qr.words(q:Qr):List ByteArray:=bif em q.nd then [q.tg,q.sv,Br,q.ce,Bc]else [q.nd,Cm,q.ce,Bc]
theorem Sd{a b:ByteArray}(h:a.data.toList=b.data.toList):a=b:=by
 obtain⟨a⟩:=a;obtain⟨b⟩:=b;congr 1;exact Array.ext' h
theorem Abl(a b:ByteArray):(a++b).data.toList=a.data.toList++b.data.toList:=by simp[ByteArray.data_append]
theorem Jq{x:ByteArray}:em x=true↔x=⟨#[]⟩:=by
 unfold em;rw[ZR];exact⟨fun h=>toList_inj h,fun h=>by rw[h]⟩
theorem Y5{x:ByteArray}(h:x.size≠0):em x=false:=by
 cases q:em x with
 |false=>rfl
 |true=>rw[Jq]at q;exact absurd (congrArg ByteArray.size q) h
theorem Aqd{x:ByteArray}(h:lab x.data.toList=true):x.size≤30:=by
 unfold lab at h;simp at h;have:x.data.toList.length=x.size:=by rw[Array.length_toList];rfl
 omega
structure Qr.small(q:Qr):Prop where
 sv:q.sv.size≤30
 tg:q.tg.size≤30
 nd:q.nd.size≤30
 ce:q.ce.size≤30
theorem Qy{q:Qr}(h:q.err=0):q.small∧(em q.sv==em q.nd)=false∧(em q.sv=true→em q.tg=true):=by
 unfold Qr.err at h;cases h1:q.c1 with
 |true=>rw[h1]at h;cases h
 |false=>
  cases h2:q.c2 with
  |true=>rw[h1,h2]at h;cases h
  |false=>
   have key:∀x∈q.all,x.size≤30:=fun x hx=>by
    have:=List.any_eq_false.1 h2 x hx;unfold Gx at this;cases he:em x with
    |true=>rw[Jq.1 he];decide
    |false=>rw[he]at this;exact Aqd (by simpa using this)
   refine⟨⟨key _ (by simp[Qr.all]),key _ (by simp[Qr.all]),key _ (by simp[Qr.all]),key _ (by simp[Qr.all])⟩,?_,?_⟩
   ·unfold Qr.c1 at h1;cases q1:(em q.sv==em q.nd)with
    |true=>rw[q1]at h1;cases h1
    |false=>rfl
   ·intro q2;unfold Qr.c1 at h1;cases q1:(em q.sv==em q.nd)with
    |true=>rw[q1]at h1;cases h1
    |false=>rw[q1,q2]at h1;simpa using h1
theorem Ana{q:Qr}(h:q.err=0):Df dot (keep em q.words)=q.pr:=by
 obtain⟨_,h1,h2⟩:=Qy h;have es:em Br=false:=Y5 (by decide);have en:em Cm=false:=Y5 (by decide);have emm:em Bc=false:=Y5 (by decide);apply Sd;unfold Qr.words Qr.pr Qr.base Df keep;cases hn:em q.nd with
 |false=>
  cases hc:em q.ce<;>simp only[cond_false,cond_true,List.filter_cons,List.filter_nil,hn,hc,en,emm,Bool.not_false,Bool.not_true,if_true,Bool.false_eq_true,if_false]<;>simp[Lib.join,List.intercalate,Abl,dot,Uj,Cm,Bc]
 |true=>
  have hs:em q.sv=false:=by rw[hn]at h1;simpa using h1
  cases hc:em q.ce<;>cases ht:em q.tg<;>simp only[cond_false,cond_true,List.filter_cons,List.filter_nil,hs,hc,ht,es,emm,Bool.not_false,Bool.not_true,if_true,Bool.false_eq_true,if_false]<;>simp[Lib.join,List.intercalate,Abl,dot,Jl,Br,Bc]
theorem Ae9{q:Qr}(h:q.err=0):q.pr.size≤200:=by
 have hs:=(Qy h).1;have h1:=hs.sv;have h2:=hs.tg;have h3:=hs.nd;have h4:=hs.ce;have e1:dot.size=1:=rfl;have e2:Jl.size=9:=rfl;have e3:Uj.size=6:=rfl;have e4:Bc.size=4:=rfl;unfold Qr.pr Qr.base;cases em q.nd<;>cases em q.tg<;>cases em q.ce<;>simp only[cond_true,cond_false,XP,e1,e2,e3,e4]<;>omega
def Ah(q:Qr):ByteArray×Int:=if q.err≠0 then(⟨#[]⟩,q.err)else if Ao q.pr≠0 then(⟨#[]⟩,Ao q.pr)else(q.pr,0)
theorem Z3{q:Qr}(h:q.err≠0):Ah q=(⟨#[]⟩,q.err):=by simp[Ah,h]
theorem Ga{q:Qr}(h:q.err=0)(h2:Ao q.pr≠0):Ah q=(⟨#[]⟩,Ao q.pr):=by simp[Ah,h,h2]
theorem Hy{q:Qr}(h:q.err=0)(h2:Ao q.pr=0):Ah q=(q.pr,0):=by simp[Ah,h,h2]
end Pl
theorem An9(x:ByteArray):Fun Tryz.prog 89 [.c (.v (.string x))] [.c (.v (.bool (em x)))]:=by
 refine Ar Tr rfl ?_;refine G0 ?_;(exact⟨[],aI⟩)
def fP1:FuncId:=89
theorem Agb(q:Qr)(h:q.err=0):Fun Tryz.prog 48 [.c (.agg q.row)] [.c (.v (.string q.pr))]:=by
 have hj:=Ana h;have hsz:=Ae9 h;have hk:∀l:List ByteArray,l.length≤5→(keep em l).length≤140737488355328:=fun l hl=>XI (List.length_filter_le _ _) (by omega);rw[←hj]at hsz ⊢;refine Ar W3 rfl ?_;refine G1 ?_;intro gg;(refine Aa (fun h1=>?_) (fun h1=>?_)<;>rw[h1])
 ·have e:q.words=[q.nd,Cm,q.ce,Bc]:=by
   have:em q.nd=false:=Dr h1;unfold Qr.words;rw[this];rfl
  rw[e]at hsz ⊢;(refine goI ?_;repeat (intro gg;refine goI ?_));refine⟨by simp[maxLen],by simp,?_⟩;refine G1 ?_;intro gg;(refine .inl ⟨_,_,true,[144],aI,Uh [q.nd,Cm,q.ce,Bc] fP1 em (by simp) (fun x _=>An9 x),(fun _=>fI),nI,?_⟩);refine G1 ?_;intro gg;(refine .inl ⟨_,_,true,[],aI,Vf false (keep em [q.nd,Cm,q.ce,Bc]) dot (hk _ (by simp)) (by omega),(fun _=>fI),nI,?_⟩);refine G1 ?_;intro gg;(exact⟨[],aI⟩)
 ·have e:q.words=[q.tg,q.sv,Br,q.ce,Bc]:=by
   have:em q.nd=true:=Bw h1;unfold Qr.words;rw[this];rfl
  rw[e]at hsz ⊢;(refine goI ?_;repeat (intro gg;refine goI ?_));refine⟨by simp[maxLen],by simp,?_⟩;refine G1 ?_;intro gg;(refine .inl ⟨_,_,true,[224],aI,Uh [q.tg,q.sv,Br,q.ce,Bc] fP1 em (by simp) (fun x _=>An9 x),(fun _=>fI),nI,?_⟩);refine G1 ?_;intro gg;(refine .inl ⟨_,_,true,[],aI,Vf false (keep em [q.tg,q.sv,Br,q.ce,Bc]) dot (hk _ (by simp)) (by omega),(fun _=>fI),nI,?_⟩);refine G1 ?_;intro gg;(exact⟨[],aI⟩)
theorem Ev(q:Qr)(hq:q.ok):Fun Tryz.prog 21 [.c (.agg q.row)] [.c (.v (.string (Ah q).1)),.c (.v (.int .i64 (Ah q).2))]:=by
 refine Ar Abd rfl ?_;refine G1 ?_;intro gg;(refine .inl ⟨_,_,false,[],aI,Abb q hq,Ab,nI,?_⟩);refine G1 ?_;intro gg;(refine Aa (fun h1=>?_) (fun h1=>?_)<;>rw[h1])
 ·have h1':q.err≠0:=by simpa using h1
  rw[Z3 h1'];refine G0 ?_;(exact⟨[],aI⟩)
 ·have h1':q.err=0:=by simpa using h1
  have hsz:=Ae9 h1';refine G0 ?_;(refine .inl ⟨_,_,false,[],aI,Agb q h1',Ab,nI,?_⟩);refine G1 ?_;intro gg;(refine .inl ⟨_,_,false,[],aI,N9 q.pr (by omega),Ab,nI,?_⟩);refine G1 ?_;intro gg;(refine Aa (fun h2=>?_) (fun h2=>?_)<;>rw[h2])
  ·have h2':Ao q.pr≠0:=by simpa using h2
   rw[Ga h1' h2'];refine G0 ?_;(exact⟨[],aI⟩)
  ·have h2':Ao q.pr=0:=by simpa using h2
   rw[Hy h1' h2'];refine G0 ?_;(exact⟨[],aI⟩)
namespace Pl
def isW(x:ByteArray):Bool:=bif x.toList==Br.toList then true else x.toList==Cm.toList
structure Tk(l:List ByteArray)(k:Nat):Prop where
 lt:k<l.length
 near:l.length≤k+2
 w:isW (l.getD k ⟨#[]⟩)=true
 last:k+1<l.length→isW (l.getD (k+1) ⟨#[]⟩)=false
theorem Ix{q:Qr}{s:ByteArray}(h:Ah q=(s,0)):q.err=0∧Ao q.pr=0∧q.pr=s:=by
 unfold Ah at h;split at h
 ·rename_i h1;simp only[Prod.mk.injEq]at h;exact absurd h.2 h1
 ·rename_i h1;split at h
  ·rename_i h2;simp only[Prod.mk.injEq]at h;exact absurd h.2 h2
  ·rename_i h2;simp only[Prod.mk.injEq]at h;exact⟨Classical.byContradiction h1,Classical.byContradiction h2,h.1⟩
end Pl
namespace Pl
end Pl

section
variable {P:Program} {w w':World} {R:Nat→Prop}
end
structure Axc(T:TypeId):Prop where
 lies:liesAt Tryz.prog Tryz.prog.depth T (2/Tryz.prog.cellsOf T) 0 118 1=true
 ne:T≠5
namespace Pl
def Aqx(s:ByteArray):List UInt8:=UInt8.ofNat s.size::s.data.toList
def D7(l:List ByteArray):List UInt8:=l.flatMap Aqx
def Bv(s:ByteArray):List UInt8:=D7 (A5 s)++[0]
end Pl
def Aqi(n:Int):List V:=[.v (.int .i64 n)]
instance:FlatRow Aqi:=⟨fun x u hu=>by simp[Aqi]at hu;exact⟨_,hu⟩⟩
namespace Pl
structure Rr where
 nm:ByteArray
 ty:Int
 ls:Int
 ad:Int
 tx:ByteArray
 pt:Int
 tg:ByteArray
structure Ms where
 id:Int
 an:Bool
 ct:Bool
 co:Int
 qn:ByteArray
 qt:Int
 rs:List Rr
structure Rr.Good(r:Rr):Prop where
 nm:Ao r.nm=0
 nmz:r.nm.size≤120
 ty:r.ty=1∨r.ty=16∨r.ty=33
 ls:0≤r.ls∧r.ls≤2147483647
 ad:0≤r.ad∧r.ad≤4294967295
 pt:0≤r.pt∧r.pt≤65535
 tx:r.tx.size≤200
 tg:Ao r.tg=0
 tgz:r.tg.size≤120
structure Ms.Good(m:Ms):Prop where
 id:0≤m.id∧m.id≤65535
 co:0≤m.co∧m.co≤15
 qn:Ao m.qn=0
 qnz:m.qn.size≤120
 qt:m.qt=1∨m.qt=16∨m.qt=33
 len:m.rs.length≤20
 rs:∀r∈m.rs,r.Good
def Rr.row(r:Rr):List V:=[.v (.string r.nm),.v (.int .i64 r.ty),.v (.int .i64 r.ls),.v (.int .i64 r.ad),.v (.string r.tx),.v (.int .i64 r.pt),.v (.string r.tg)]
instance:FlatRow Rr.row:=⟨fun x u hu=>by simp[Rr.row]at hu;rcases hu with rfl|rfl|rfl|rfl|rfl|rfl|rfl<;>exact⟨_,rfl⟩⟩
instance:OneRow Rr.row 7:=⟨fun _=>rfl,fun x u hu=>by simp[Rr.row]at hu;rcases hu with rfl|rfl|rfl|rfl|rfl|rfl|rfl<;>exact⟨_,rfl,rfl⟩⟩
def Ms.row(m:Ms):List V:=[.v (.int .i64 m.id),.v (.bool m.an),.v (.bool m.ct),.v (.int .i64 m.co),.v (.string m.qn),.v (.int .i64 m.qt),.sl false (m.rs.map Rr.row)]
end Pl
namespace Pl
def wIn(n a b:Int):Bool:=bif decide (a≤n)then decide (n≤b)else false
def Fk(t:Int):Bool:=bif (t==1)then true else bif (t==16)then true else(t==33)
def Asz(l:List Int)(x:Int):Bool:=l.any fun w=>x==w
theorem Atx(t:Int):Asz [1,16,33] t=Fk t:=by
 unfold Asz Fk;simp only[List.any_cons,List.any_nil,Bool.or_false];cases (t==1)<;>cases (t==16)<;>rfl
def Rr.un(r:Rr):Bool:=bif (bif (r.ty==1)then true else(r.ad==0))then(bif (bif (r.ty==16)then true else em r.tx)then(bif (r.ty==33)then true else bif (r.pt==0)then em r.tg else false)else false)else false
def Cu(r:Rr):Int:=if Ao r.nm≠0 then Ao r.nm else bif !Fk r.ty then 7 else bif !wIn r.ls 0 2147483647 then 3 else bif !r.un then 1 else bif !wIn r.ad 0 4294967295 then 3 else bif !wIn r.pt 0 65535 then 3 else if 200<r.tx.size then 2 else Ao r.tg
end Pl
theorem Akf(cl:Bool)(l:List Int)(v:Int)(hl:l.length≤9223372036854775807):
  Fun Tryz.prog 82 [.c (.sl cl (l.map Aqi)),.c (.v (.int .i64 v))] [.c (.v (.int .i64 (at_ (fun w=>v==w) l)))]:=by
 refine Ar Nh rfl ?_;refine G0 ?_;rw[ZE];(refine⟨[],none,{k:Nat//k≤l.length∧∀j,(h:j<l.length)→j<k→(v==l[j])=false},[0,1,7],fun⟨k,hk,h0⟩=>[(8,.v (.int .i64 k))],[],fun⟨k,hk,h0⟩=>[],fun⟨k,hk,h0⟩=>l.length-k,trivial,fun _=>⟨trivial,fun _=>⟨⟨0,by omega,fun j _ h=>by omega⟩,tI,Af _ _,tI,Ae _ _⟩⟩,fun⟨k,hk,h0⟩=>?_⟩);refine G0 ?_;(refine Aa (fun h=>?_) (fun h=>?_)<;>rw[h])
 ·have hlt:k<l.length:=(by have:=ZV h;omega);refine G0 ?_;refine⟨k,_,rfl,Ad hlt,?_⟩;refine G0 ?_;(refine Aa (fun h2=>?_) (fun h2=>?_)<;>rw[h2])
  ·refine G0 ?_;rw[Vq (p:=fun w=>v==w) hlt h0 h2];(exact⟨[],aI⟩)
  ·refine G0 ?_;(exact⟨none,trivial,fun _=>⟨⟨k+1,by omega,up1 (p:=fun j h=>(v==l[j])=false) h0 (fun _=>h2)⟩,by show l.length-(k+1)<l.length-k;omega,tI,tI,tI,tI⟩⟩)
 ·have hge:¬k<l.length:=(by have:=ZW h;omega);refine G0 ?_;rw[Ad9 (p:=fun w=>v==w) (l:=l) (fun i hi=>h0 i hi (by omega))];(exact⟨[],aI⟩)
theorem Ac3(cl:Bool)(l:List Int)(v:Int)(hl:l.length≤9223372036854775807):
  Fun Tryz.prog 44 [.c (.sl cl (l.map Aqi)),.c (.v (.int .i64 v))] [.c (.v (.bool (Asz l v)))]:=by
 refine Ar Kt rfl ?_;refine G0 ?_;(refine .inl ⟨_,_,false,[],aI,Akf cl l v hl,Ab,nI,?_⟩);refine G1 ?_;intro gg;rw[Ajo];(exact⟨[],aI⟩)
theorem Te(t:Int):Fun Tryz.prog 19 [.c (.v (.int .i64 t))] [.c (.v (.bool (Fk t)))]:=by
 have hC:=Ac3 false [1,16,33] t (by simp);rw[Atx]at hC;refine Ar Ace rfl ?_;refine G1 ?_;intro gg;(refine .inl ⟨_,_,true,[],aI,hC,(fun _=>fI),nI,?_⟩);refine G1 ?_;intro gg;(exact⟨[],aI⟩)
namespace Pl
def Cp(l:List Int):Int:=l.foldr (fun e k=>if e≠0 then e else k) 0
structure Ms.Sized(m:Ms):Prop where
 qn:m.qn.size≤1000000000000
 rs:∀r∈m.rs,r.nm.size≤1000000000000∧r.tx.size≤1000000000000∧r.tg.size≤1000000000000
end Pl
theorem M9{l:List Int}{k:Nat}(hk:k<l.length)(h0:∀j,(h:j<l.length)→j<k→l[j]=0)(h:l[k]≠0):Cp l=l[k]:=by
 induction l generalizing k with
 |nil=>simp at hk
 |cons e l ih=>
  cases k with
  |zero=>exact if_pos h
  |succ k=>
   have e0:e=0:=h0 0 (by simp) (by omega);subst e0;exact ih (by simpa using hk) (fun j hj hjk=>h0 (j+1) (by simpa using hj) (by omega)) h
theorem I1{l:List Int}(h0:∀j,(h:j<l.length)→l[j]=0):Cp l=0:=by
 induction l with
 |nil=>rfl
 |cons e l ih=>
  have e0:e=0:=h0 0 (by simp);subst e0;exact ih fun j hj=>h0 (j+1) (by simpa using hj)
namespace Pl
structure Kn where
 here:ByteArray
 l:List Sv
 ms:List Mb
 f:Pc
 wh:List Wh
def Kn.row(k:Kn):List V:=[.v (.string k.here),.sl false (k.l.map Sv.row),.sl false (k.ms.map Mb.row),.v (.int .i64 k.f.x),.v (.int .i64 k.f.y),.v (.int .i64 k.f.z),.v (.int .i64 k.f.h),.v (.int .i64 k.f.s),.sl false (k.wh.map Wh.row)]
structure Kn.In(k:Kn):Prop where
 here:k.here.size≤9223372036854775807
 ll:k.l.length≤9223372036854775807
 lo:∀x∈k.l,x.ok
 ml:k.ms.length≤9223372036854775807
 mo:∀x∈k.ms,x.ok
 wl:k.wh.length≤9223372036854775807
def Kn.err(k:Kn):Int:=bif !lab k.here.data.toList then 1 else if Ei k.l≠0 then Ei k.l else if F6 k.ms≠0 then F6 k.ms else if 20<k.wh.length then 2 else if k.f.err≠0 then k.f.err else Cp (k.wh.map fun w=>w.pl.err)
def Cc(ms:List Mb)(name:ByteArray):Bool:=bif hit (Mb.cf name) ms then(match ms[low (Mb.cf name) ms]? with
 |some m=>decide (3≤m.st)
 |none=>false)else false
def Kn.ask(k:Kn)(q:Qr)(t:Int)(name:ByteArray):List V:=[.v (.string q.sv),.v (.string q.tg),.v (.string q.nd),.v (.string q.ce),.v (.int .i64 t),.v (.string k.here),.sl false (k.l.map Sv.row),.sl false (k.ms.map Mb.row),.v (.int .i64 k.f.x),.v (.int .i64 k.f.y),.v (.int .i64 k.f.z),.v (.int .i64 k.f.h),.v (.int .i64 k.f.s),.sl false (k.wh.map Wh.row),.v (.string name)]
end Pl
theorem Adr(k:Kn)(h:k.In):Fun Tryz.prog 20 [.c (.v (.string k.here)),.c (.sl false (k.l.map Sv.row)),.c (.sl false (k.ms.map Mb.row)),.c (.agg k.f.row),.c (.sl false (k.wh.map Wh.row))] [.c (.v (.int .i64 k.err))]:=by
 obtain⟨here,l,ms,f,wh⟩:=k;obtain⟨g1,g2,g3,g4,g5,g6⟩:=h;simp only at g1 g2 g3 g4 g5 g6;have e0:Kn.err ⟨here,l,ms,f,wh⟩=bif !lab here.data.toList then 1 else if Ei l≠0 then Ei l else if F6 ms≠0 then F6 ms else if 20<wh.length then 2 else if f.err≠0 then f.err else Cp (wh.map fun w=>w.pl.err):=rfl
 refine Ar Yb rfl ?_;refine G1 ?_;intro gg;(refine .inl ⟨_,_,false,[],aI,El here g1,Ab,nI,?_⟩);refine G1 ?_;intro gg;refine Aa (fun k0=>?_) (fun k0=>?_)<;>rw[k0]<;>rw[k0]at e0
 ·refine G0 ?_;rw[e0];(exact⟨[],aI⟩)
 simp only[cond_false]at e0;refine G0 ?_;(refine .inl ⟨_,_,false,[],aI,Ajh l g2 g3,Ab,nI,?_⟩);refine G1 ?_;intro gg;refine Aa (fun k1=>?_) (fun k1=>?_)<;>rw[k1]
 ·refine G0 ?_;rw[e0,if_pos (by simpa using k1)];(exact⟨[],aI⟩)
 rw[if_neg (by simpa using k1)]at e0;refine G0 ?_;(refine .inl ⟨_,_,false,[],aI,Akb ms g4 g5,Ab,nI,?_⟩);refine G1 ?_;intro gg;refine Aa (fun k2=>?_) (fun k2=>?_)<;>rw[k2]
 ·refine G0 ?_;rw[e0,if_pos (by simpa using k2)];(exact⟨[],aI⟩)
 rw[if_neg (by simpa using k2)]at e0;refine G0 ?_;by_cases k3:20<wh.length
 ·rw[if_pos k3]at e0;rw[show decide ((20:Int)<((wh.map Wh.row).length:Int))=true from ZX (by rw[ZE];omega)];refine G0 ?_;rw[e0];(exact⟨[],aI⟩)
 rw[if_neg k3]at e0;rw[show decide ((20:Int)<((wh.map Wh.row).length:Int))=false from ZY (by rw[ZE];omega)];refine G0 ?_;(refine .inl ⟨_,_,false,[],aI,On f,Ab,nI,?_⟩);refine G1 ?_;intro gg;refine Aa (fun k4=>?_) (fun k4=>?_)<;>rw[k4]
 ·refine G0 ?_;rw[e0,if_pos (by simpa using k4)];(exact⟨[],aI⟩)
 rw[if_neg (by simpa using k4)]at e0;refine G0 ?_;(refine⟨[],none,{k:Nat//k≤wh.length∧∀j,(h:j<wh.length)→j<k→wh[j].pl.err=0},[38,39],fun⟨k,hk,h0⟩=>[(40,.v (.int .i64 k))],[],fun⟨k,hk,h0⟩=>[],fun⟨k,hk,h0⟩=>wh.length-k,trivial,fun _=>⟨trivial,fun _=>⟨⟨0,by omega,fun j _ h=>by omega⟩,tI,Af _ _,tI,Ae _ _⟩⟩,fun⟨k,hk,h0⟩=>?_⟩);refine G0 ?_;simp only[ZE];by_cases k6:k<wh.length
 ·rw[show decide ((k:Int)<(wh.length:Int))=true from ZX (by omega)];refine G0 ?_;refine⟨k,_,rfl,Ad k6,?_⟩;refine G1 ?_;intro gg;(refine .inl ⟨_,_,false,[],aI,On wh[k].pl,Ab,nI,?_⟩);refine G1 ?_;intro gg;refine Aa (fun k7=>?_) (fun k7=>?_)<;>rw[k7]
  ·have hne:wh[k].pl.err≠0:=by simpa using k7
   have e1:Cp (wh.map fun w=>w.pl.err)=wh[k].pl.err:=by
    have:=M9 (l:=wh.map fun w=>w.pl.err) (k:=k) (by simpa using k6) (fun j h hj=>by rw[XQ];exact h0 j (by simpa using h) hj) (by rw[XQ];exact hne);rw[this,XQ]
   refine G0 ?_;rw[e0,e1];(exact⟨[],aI⟩)
  ·refine G0 ?_;(exact⟨none,trivial,fun _=>⟨⟨k+1,by omega,up1 (p:=fun j h=>wh[j].pl.err=0) h0 (fun _=>by simpa using k7)⟩,by show wh.length-(k+1)<wh.length-k;omega,tI,tI,tI,tI⟩⟩)
 ·rw[show decide ((k:Int)<(wh.length:Int))=false from ZY (by omega)];have e1:Cp (wh.map fun w=>w.pl.err)=0:=I1 fun j hj=>by rw[XQ];exact h0 j (by simpa using hj) (by simp at hj;omega)
  refine G0 ?_;rw[e0,e1];(exact⟨[],aI⟩)
theorem Ahq(k:Kn)(q:Qr)(t:Int)(nm name:ByteArray)(hl:k.ms.length≤1000)(hm:Aj9 (Mb.cf name) k.ms):Fun Tryz.prog 51 [.c (.rptr (k.ask q t nm) 0),.c (.v (.string name))] [.c (.v (.bool (Cc k.ms name)))]:=by
 refine Ar Q2 rfl ?_;refine G0 ?_;(refine .inl ⟨_,_,false,[],aI,Ad0 false k.ms name hl hm,Ab,nI,?_⟩);refine G1 ?_;intro gg;have e0:Cc k.ms name=bif hit (Mb.cf name) k.ms then(match k.ms[low (Mb.cf name) k.ms]? with
  |some m=>decide (3≤m.st)
  |none=>false)else false:=rfl
 by_cases hh:hit (Mb.cf name) k.ms=true
 ·have hlt:=Mx hh;rw[hh]at e0 ⊢;rw[cond_true,ZC hlt]at e0;refine G0 ?_;refine⟨low (Mb.cf name) k.ms,_,rfl,Ad hlt,?_⟩;refine G0 ?_;rw[e0];(exact⟨[],aI⟩)
 ·rw[XE.2 hh]at e0 ⊢;rw[cond_false]at e0;refine G0 ?_;rw[e0];(exact⟨[],aI⟩)
namespace Pl
def C3(here:ByteArray)(t:Int)(nm:ByteArray)(s:Sv):Rr×Int:=
 if t=1 then(⟨nm,t,0,s.ad,⟨#[]⟩,0,⟨#[]⟩⟩,0)
 else if t=16 then(⟨nm,t,0,0,s.id,0,⟨#[]⟩⟩,0)
 else if t=33 then
  if(Ah ⟨⟨#[]⟩,⟨#[]⟩,s.nd,here⟩).2≠0 then(⟨nm,t,0,0,⟨#[]⟩,0,⟨#[]⟩⟩,(Ah ⟨⟨#[]⟩,⟨#[]⟩,s.nd,here⟩).2)
  else(⟨nm,t,0,0,⟨#[]⟩,s.pt,(Ah ⟨⟨#[]⟩,⟨#[]⟩,s.nd,here⟩).1⟩,0)
 else(⟨nm,t,0,0,⟨#[]⟩,0,⟨#[]⟩⟩,0)
def Jc(k:Kn)(q:Qr)(t:Int)(nm:ByteArray):List Rr×Int:=
 if hit (Mb.cf q.nd) k.ms=false∨Cc k.ms q.nd=true then([],3)
 else if t≠1 then([],0)
 else match k.ms[low (Mb.cf q.nd) k.ms]? with
  |some m=>([⟨nm,t,0,m.ad,⟨#[]⟩,0,⟨#[]⟩⟩],0)
  |none=>([],0)
end Pl
theorem V5(k:Kn)(q:Qr)(t:Int)(nm:ByteArray)(off:Nat):Cl (.rptr (k.ask q t nm) off):=Amc fun u hu=>by
 simp only[Kn.ask,XC,XD,or_false]at hu;rcases hu with rfl|rfl|rfl|rfl|rfl|rfl|rfl|rfl|rfl|rfl|rfl|rfl|rfl|rfl|rfl
 all_goals first
  |exact As rfl
  |exact He
theorem Ain(k:Kn)(q:Qr)(t:Int)(nm:ByteArray)(s:Sv)(hk:k.here.size≤9223372036854775807)(hs:s.nd.size≤9223372036854775807):Fun Tryz.prog 53 [.c (.rptr (k.ask q t nm) 0),.c (.agg s.row)] [.c (.agg (C3 k.here t nm s).1.row),.c (.v (.int .i64 (C3 k.here t nm s).2))]:=by
 have hz:(⟨#[]⟩:ByteArray).size≤9223372036854775807:=by decide
 have hP:=Ev ⟨⟨#[]⟩,⟨#[]⟩,s.nd,k.here⟩ ⟨hz,hz,hs,hk⟩;refine Ae5 Ox rfl ?_;(refine goI ?_;repeat (intro gg;refine goI ?_));by_cases t1:t=1
 ·rw[show(t==1)=true from ZR.2 t1,show C3 k.here t nm s=(⟨nm,t,0,s.ad,⟨#[]⟩,0,⟨#[]⟩⟩,0)from if_pos t1];refine G0 ?_;exact Cn (As rfl) (As rfl) (.cell1 rfl rfl rfl rfl rfl rfl (.tmp1 rfl .nil))
 rw[show(t==1)=false from ZG.2 t1];refine G0 ?_;by_cases t16:t=16
 ·rw[show(t==16)=true from ZR.2 t16,show C3 k.here t nm s=(⟨nm,t,0,0,s.id,0,⟨#[]⟩⟩,0)from(if_neg t1).trans (if_pos t16)];refine G0 ?_;exact Cn (As rfl) (As rfl) (.cell1 rfl rfl rfl rfl rfl rfl (.tmp1 rfl .nil))
 rw[show(t==16)=false from ZG.2 t16];refine G0 ?_;by_cases t33:t=33;rotate_left
 ·rw[show(t==33)=false from ZG.2 t33,show C3 k.here t nm s=(⟨nm,t,0,0,⟨#[]⟩,0,⟨#[]⟩⟩,0)from(if_neg t1).trans ((if_neg t16).trans (if_neg t33))];refine G0 ?_;exact Cn (As rfl) (As rfl) (.cell1 rfl rfl rfl rfl rfl rfl (.tmp1 rfl .nil))
 have e0:C3 k.here t nm s=if(Ah ⟨⟨#[]⟩,⟨#[]⟩,s.nd,k.here⟩).2≠0 then(⟨nm,t,0,0,⟨#[]⟩,0,⟨#[]⟩⟩,(Ah ⟨⟨#[]⟩,⟨#[]⟩,s.nd,k.here⟩).2)
  else(⟨nm,t,0,0,⟨#[]⟩,s.pt,(Ah ⟨⟨#[]⟩,⟨#[]⟩,s.nd,k.here⟩).1⟩,0):=(if_neg t1).trans ((if_neg t16).trans (if_pos t33))
 rw[show(t==33)=true from ZR.2 t33];generalize Ah ⟨⟨#[]⟩,⟨#[]⟩,s.nd,k.here⟩=P at *;refine G0 ?_;(refine .inl ⟨_,_,false,[],aI,hP,Ab,nI,?_⟩);refine G1 ?_;intro gg;by_cases c:P.2=0;rotate_left
 ·rw[if_pos c]at e0;rw[e0,show(P.2 !=0)=true from ZZ.2 c];refine G0 ?_;exact Cn (As rfl) (As rfl) (.cell1 rfl rfl rfl rfl rfl rfl (.tmp1 rfl .nil))
 ·rw[if_neg (by simpa using c)]at e0;rw[e0,c];refine G0 ?_;exact Cn (As rfl) (As rfl) (.cell1 rfl rfl rfl rfl rfl rfl (.tmp1 rfl .nil))
theorem Ane(k:Kn)(q:Qr)(t:Int)(nm:ByteArray)(hl:k.ms.length≤1000)(hm:Aj9 (Mb.cf q.nd) k.ms):Fun Tryz.prog 22 [.c (.rptr (k.ask q t nm) 0)] [.o 42 7 ((Jc k q t nm).1.map Rr.row),.c (.v (.int .i64 (Jc k q t nm).2)),.c (.v (.int .i64 0))]:=by
 refine Ar P7 rfl ?_;refine G0 ?_;(refine .inl ⟨_,_,false,[],aI,Ad0 false k.ms q.nd hl hm,Ab,nI,?_⟩);refine G1 ?_;intro gg;by_cases hh:hit (Mb.cf q.nd) k.ms=true;rotate_left
 ·have e0:Jc k q t nm=([],3):=if_pos (.inl (XE.2 hh));rw[e0,XE.2 hh];refine G0 ?_;(exact⟨[],aI⟩)
 have hlt:=Mx hh;rw[hh];refine G0 ?_;(refine .inl ⟨_,_,false,[],.same (V5 k q t nm 0) (.same (As rfl) (.nil _)),Ahq k q t nm q.nd hl hm,Ab,nI,?_⟩);refine G1 ?_;intro gg;by_cases ha:Cc k.ms q.nd=true
 ·have e0:Jc k q t nm=([],3):=if_pos (.inr ha);rw[e0,ha];refine G0 ?_;(exact⟨[],aI⟩)
 rw[XE.2 ha];have e0:Jc k q t nm=(if t≠1 then([],0)else match k.ms[low (Mb.cf q.nd) k.ms]? with
  |some m=>([⟨nm,t,0,m.ad,⟨#[]⟩,0,⟨#[]⟩⟩],0)
  |none=>([],0):List Rr×Int):=if_neg (fun z=>z.elim (fun z=>by rw[hh]at z;cases z) ha)
 refine G0 ?_;by_cases t1:t=1;rotate_left
 ·rw[if_pos t1]at e0;rw[e0,show(t !=1)=true from ZZ.2 t1];refine G0 ?_;(exact⟨[],aI⟩)
 rw[if_neg (by simpa using t1),ZC hlt]at e0;change Jc k q t nm=([⟨nm,t,0,(k.ms[low (Mb.cf q.nd) k.ms]).ad,⟨#[]⟩,0,⟨#[]⟩⟩],0)at e0;rw[e0,show(t !=1)=false from by simpa using t1];refine G0 ?_;refine⟨low (Mb.cf q.nd) k.ms,_,rfl,Ad hlt,?_⟩;refine G1 ?_;intro gg;(exact⟨[848],aI⟩)
namespace Pl
def Jx(k:Kn)(q:Qr)(t:Int)(nm:ByteArray)(F:List Sv):List Rr×Int×Int:=
 if Cp (F.map fun s=>(C3 k.here t nm s).2)≠0 then([],0,Cp (F.map fun s=>(C3 k.here t nm s).2))
 else if(C8 k.l q.sv ⟨#[]⟩).2.length=0 then([],3,0)
 else(F.map fun s=>(C3 k.here t nm s).1,0,0)
end Pl
set_option maxHeartbeats 1000000 in
theorem Aea(k:Kn)(q:Qr)(t:Int)(nm:ByteArray)(F:List Sv)(hk:k.In)(hq:q.ok)(hn:F.length≤1000)(hs:∀s∈F,s.nd.size≤9223372036854775807)(hF:Fun Tryz.prog 52 [.c (.rptr (k.ask q t nm) 0)] [.c (.sl false (F.map Sv.row))]):
  Fun Tryz.prog 23 [.c (.rptr (k.ask q t nm) 0)] [.o 42 7 ((Jx k q t nm F).1.map Rr.row),.c (.v (.int .i64 (Jx k q t nm F).2.1)),.c (.v (.int .i64 (Jx k q t nm F).2.2))]:=by
 refine Ar N7 rfl ?_;refine G0 ?_;(refine .inl ⟨_,_,false,[],.same (V5 k q t nm 0) (.nil _),hF,Ab,nI,?_⟩);refine G1 ?_;intro gg;(refine⟨[(5,496,42,7)],none,{p:Nat×Nat//p.1≤F.length∧∀j,(h:j<F.length)→j<p.1→(C3 k.here t nm F[j]).2=0},[0,13,14],fun⟨⟨i,g⟩,hi,h0⟩=>[(5,.own 496 g),(15,.v (.int .i64 (i:Int)))],[],fun⟨⟨i,g⟩,hi,h0⟩=>[(496,⟨g,.t 42,7,((F.take i).map fun s=>(C3 k.here t nm s).1).map Rr.row⟩)],fun⟨⟨i,g⟩,hi,h0⟩=>F.length-i,(by exact⟨rfl,by decide,(fun _ _ _ _ h=>by cases h),trivial⟩),fun gs=>⟨trivial,fun _=>⟨⟨(0,gs 496),ZU _,fun j _ h=>by omega⟩,tI,tI,tI,tI⟩⟩,fun⟨⟨i,g⟩,hi,h0⟩=>?_⟩);simp only at hi h0;have hli:(((F.take i).map fun s=>(C3 k.here t nm s).1).map Rr.row).length=i:=by rw[ZE,ZE,ZM];omega
 refine G0 ?_;simp only[ZE];by_cases c:i<F.length
 ·rw[show decide ((i:Int)<(F.length:Int))=true from ZX (by omega)];have hR:=Ain k q t nm F[i] hk.here (hs _ (ZK c));refine G0 ?_;refine⟨i,_,rfl,Ad c,?_⟩;refine G1 ?_;intro gg;(refine .inl ⟨_,_,false,[],.same (V5 k q t nm 0) (.same (As rfl) (.nil _)),hR,Ab,nI,?_⟩);(refine goI ?_;repeat (intro gg;refine goI ?_));by_cases e:(C3 k.here t nm F[i]).2=0;rotate_left
  ·have e1:Cp (F.map fun s=>(C3 k.here t nm s).2)=(C3 k.here t nm F[i]).2:=by
    have:=M9 (l:=F.map fun s=>(C3 k.here t nm s).2) (k:=i) (by simpa using c) (fun j h hj=>by rw[XQ];exact h0 j (by simpa using h) hj) (by rw[XQ];exact e);rw[this,XQ]
   have e0:Jx k q t nm F=([],0,(C3 k.here t nm F[i]).2):=by unfold Jx;rw[e1,if_pos e]
   rw[e0,show((C3 k.here t nm F[i]).2 !=0)=true from ZZ.2 e];refine G0 ?_;(exact⟨[],aI⟩)
  have ht:((F.take i).map fun s=>(C3 k.here t nm s).1).map Rr.row++[Rr.row (C3 k.here t nm F[i]).1]=((F.take (i+1)).map fun s=>(C3 k.here t nm s).1).map Rr.row:=by
   rw[XT,ZC c,ZI,ZI];rfl
  have hti:(F.take i).length=i:=by rw[ZM];omega
  rw[e];refine G1 ?_;intro gg;refine⟨lI,lI,?_⟩;refine G1 ?_;intro gg;(exact⟨none,trivial,fun gr=>⟨⟨(i+1,gg),by show i+1≤_;omega,up1 (p:=fun j h=>(C3 k.here t nm F[j]).2=0) h0 (fun _=>e)⟩,by show F.length-(i+1)<F.length-i;omega,tI,tI,⟨congrArg (fun r=>some (Ent.mk gg (.t 42) 7 r)) ht,trivial⟩,tI⟩⟩)
 ·rw[show decide ((i:Int)<(F.length:Int))=false from ZY (by omega)];have e1:Cp (F.map fun s=>(C3 k.here t nm s).2)=0:=I1 fun j hj=>by rw[XQ];exact h0 j (by simpa using hj) (by simp at hj;omega)
  obtain rfl:i=F.length:=by omega
  refine G0 ?_;(refine .inl ⟨_,_,false,[],aI,Apm k.l q.sv ⟨#[]⟩ hk.ll hk.lo hq.1 (by decide),Ab,nI,?_⟩);refine G1 ?_;intro gg;rw[ZE];have e2:Jx k q t nm F=(if(C8 k.l q.sv ⟨#[]⟩).2.length=0 then([],3,0)else(F.map fun s=>(C3 k.here t nm s).1,0,0):List Rr×Int×Int):=by unfold Jx;rw[e1];rfl
  by_cases f:(C8 k.l q.sv ⟨#[]⟩).2.length=0
  ·rw[if_pos f]at e2;rw[e2,f];refine G0 ?_;(exact⟨[],aI⟩)
  ·rw[if_neg f]at e2;rw[e2,show(((C8 k.l q.sv ⟨#[]⟩).2.length:Int)==0)=false from ZG.2 (by omega)];refine G0 ?_;rw[XF];(exact⟨[496],aI⟩)
namespace Pl
def Jt(k:Kn)(q:Qr)(t:Int):Int:=if q.err≠0 then q.err else if Fk t=false then 7 else k.err
def C7(k:Kn)(q:Qr)(t:Int)(F:List Sv):List Rr×Int×Int:=
 if Jt k q t≠0 then([],0,Jt k q t)
 else if(Ah q).2≠0 then([],0,(Ah q).2)
 else if em q.ce=false∧(q.ce.toList==k.here.toList)=false then([],3,0)
 else if em q.nd=false then((Jc k q t (Ah q).1).1,(Jc k q t (Ah q).1).2,0)
 else Jx k q t (Ah q).1 F
end Pl
theorem Yy(k:Kn)(q:Qr)(t:Int)(nm:ByteArray):∀u∈k.ask q t nm,Cl u:=fun u hu=>by
 simp only[Kn.ask,XC,XD,or_false]at hu;rcases hu with rfl|rfl|rfl|rfl|rfl|rfl|rfl|rfl|rfl|rfl|rfl|rfl|rfl|rfl|rfl
 all_goals first
  |exact As rfl
  |exact He
theorem At9{k:Kn}(h:k.err=0):k.ms.length≤20∧∀name,Aj9 (Mb.cf name) k.ms:=by
 have hc:F6 k.ms=0:=by
  unfold Kn.err at h;cases h0:(!lab k.here.data.toList)with
  |true=>rw[h0]at h;exact absurd h (by decide:(1:Int)≠0)
  |false=>
   rw[h0,cond_false]at h;by_cases h1:Ei k.l≠0
   ·rw[if_pos h1]at h;exact absurd h h1
   ·rw[if_neg h1]at h;by_cases h2:F6 k.ms≠0
    ·rw[if_pos h2]at h;exact absurd h h2
    ·exact Decidable.not_not.1 h2
 obtain⟨h1,_,h3⟩:=P4 hc;exact⟨h1,fun name=>(Mb.smono h3 name).mono⟩
set_option maxHeartbeats 1000000 in
theorem Ah4(k:Kn)(q:Qr)(t:Int)(F:List Sv)(hk:k.In)(hq:q.ok)(hn:F.length≤1000)(hs:∀s∈F,s.nd.size≤9223372036854775807)(hF:Jt k q t=0→Fun Tryz.prog 52 [.c (.rptr (k.ask q t (Ah q).1) 0)] [.c (.sl false (F.map Sv.row))]):
  Fun Tryz.prog 8 [.c (.agg q.row),.c (.v (.int .i64 t)),.c (.v (.string k.here)),.c (.sl false (k.l.map Sv.row)),.c (.sl false (k.ms.map Mb.row)),.c (.agg k.f.row),.c (.sl false (k.wh.map Wh.row))]
   [.o 42 7 ((C7 k q t F).1.map Rr.row),.c (.v (.int .i64 (C7 k q t F).2.1)),.c (.v (.int .i64 (C7 k q t F).2.2))]:=by
 have hE:Jt k q t=if q.err≠0 then q.err else if Fk t=false then 7 else k.err:=rfl
 have hA:C7 k q t F=(if Jt k q t≠0 then([],0,Jt k q t)
  else if(Ah q).2≠0 then([],0,(Ah q).2)
  else if em q.ce=false∧(q.ce.toList==k.here.toList)=false then([],3,0)
  else if em q.nd=false then((Jc k q t (Ah q).1).1,(Jc k q t (Ah q).1).2,0)
  else Jx k q t (Ah q).1 F:List Rr×Int×Int):=rfl
 refine Ar Vd rfl ?_;(refine goI ?_;repeat (intro gg;refine goI ?_));(refine .inl ⟨_,_,false,[],aI,Abb q hq,Ab,nI,?_⟩);refine G1 ?_;intro gg;by_cases c1:q.err=0;rotate_left
 ·rw[if_pos c1]at hE;rw[hE,if_pos c1]at hA;rw[hA,show(q.err==0)=false from ZG.2 c1];refine G0 ?_;rw[show(q.err==0)=false from ZG.2 c1];refine G0 ?_;rw[show(q.err !=0)=true from ZZ.2 c1];refine G0 ?_;(exact⟨[],aI⟩)
 rw[if_neg (by simpa using c1)]at hE;rw[show(q.err==0)=true from ZR.2 c1];refine G0 ?_;(refine .inl ⟨_,_,false,[],aI,Te t,Ab,nI,?_⟩);refine G1 ?_;intro gg;by_cases c2:Fk t=true;rotate_left
 ·rw[if_pos (XE.2 c2)]at hE;rw[hE,if_pos (by decide)]at hA;rw[hA,XE.2 c2];refine G0 ?_;(exact⟨[],aI⟩)
 rw[if_neg (by simpa using c2)]at hE;rw[c2];refine G0 ?_;rw[show(q.err==0)=true from ZR.2 c1];refine G0 ?_;(refine .inl ⟨_,_,false,[],aI,Adr k hk,Ab,nI,?_⟩);refine G1 ?_;intro gg;by_cases c3:k.err=0;rotate_left
 ·rw[hE,if_pos c3]at hA;rw[hA,show(k.err !=0)=true from ZZ.2 c3];refine G0 ?_;(exact⟨[],aI⟩)
 have hFF:=hF (hE.trans c3);rw[hE,if_neg (by simpa using c3)]at hA;rw[c3];have hP:=Ev q hq;refine G1 ?_;intro gg;revert gg;intro ga;(refine .inl ⟨_,_,false,[],aI,hP,Ab,nI,?_⟩);generalize Ah q=P at *;refine G1 ?_;intro gg;by_cases c4:P.2=0;rotate_left
 ·rw[if_pos c4]at hA;rw[hA,show(P.2 !=0)=true from ZZ.2 c4];refine G0 ?_;(exact⟨[],aI⟩)
 rw[if_neg (by simpa using c4)]at hA;rw[c4];have hEc:em q.ce=(q.ce.toList==(⟨#[]⟩:ByteArray).toList):=rfl;have hEn:em q.nd=(q.nd.toList==(⟨#[]⟩:ByteArray).toList):=rfl;have hms:=At9 c3;have hN:=Ane k q t P.1 (by omega) (hms.2 q.nd);have hSv:=Aea k q t P.1 F hk hq hn hs hFF;refine G0 ?_;by_cases d1:em q.ce=false∧(q.ce.toList==k.here.toList)=false
 ·rw[if_pos d1]at hA;rw[←hEc,d1.1];refine G0 ?_;rw[d1.2,hA];refine G0 ?_;(exact⟨[],aI⟩)
 rw[if_neg d1]at hA;have Bz:∀b,b=em q.nd→True:=fun _ _=>trivial;rw[←hEc];by_cases d2:em q.ce=true
 ·rw[d2];refine G0 ?_;rw[←hEn];by_cases d4:em q.nd=false
  ·rw[if_pos d4]at hA;rw[d4,hA];refine G0 ?_;(refine .inl ⟨_,_,true,[],.borp rfl rfl rfl (Yy k q t P.1) (by decide) (.nil _),hN,(fun _=>fI),nI,?_⟩);refine G1 ?_;intro gg;(exact⟨[1184],aI⟩)
  rw[if_neg d4]at hA;rw[show em q.nd=true from by simpa using d4,hA];refine G0 ?_;(refine .inl ⟨_,_,true,[],.borp rfl rfl rfl (Yy k q t P.1) (by decide) (.nil _),hSv,(fun _=>fI),nI,?_⟩);refine G1 ?_;intro gg;(exact⟨[1264],aI⟩)
 ·have d3:(q.ce.toList==k.here.toList)=true:=by
   rw[XE.2 d2]at d1;simpa using d1
  rw[XE.2 d2];refine G0 ?_;rw[d3];refine G0 ?_;rw[←hEn];by_cases d4:em q.nd=false
  ·rw[if_pos d4]at hA;rw[d4,hA];refine G0 ?_;(refine .inl ⟨_,_,true,[],.borp rfl rfl rfl (Yy k q t P.1) (by decide) (.nil _),hN,(fun _=>fI),nI,?_⟩);refine G1 ?_;intro gg;(exact⟨[1184],aI⟩)
  rw[if_neg d4]at hA;rw[show em q.nd=true from by simpa using d4,hA];refine G0 ?_;(refine .inl ⟨_,_,true,[],.borp rfl rfl rfl (Yy k q t P.1) (by decide) (.nil _),hSv,(fun _=>fI),nI,?_⟩);refine G1 ?_;intro gg;(exact⟨[1264],aI⟩)
namespace Pl
def Cr(s:ByteArray)(a:Nat):Option (Nat×Nat):=(s[a]?).map fun c=>(c.toNat,a+1)
def Bt(s:ByteArray)(a:Nat):Option (Nat×Nat):=(Cr s a).bind fun p=>(Cr s p.2).bind fun q=>some (p.1*256+q.1,q.2)
def Gp(s:ByteArray)(a:Nat):Option (Nat×Nat):=(Bt s a).bind fun p=>(Bt s p.2).bind fun q=>some (p.1*65536+q.1,q.2)
def Fo(s:ByteArray)(a n:Nat):Option (ByteArray×Nat):=if a+n≤s.size then some (s.extract a (a+n),a+n)else none
def F8(c:UInt8):UInt8:=if 65≤c.toNat∧c.toNat≤90 then c+32 else c
def C6(s:ByteArray):ByteArray:=⟨(s.data.toList.map F8).toArray⟩
def nameR(s:ByteArray):Nat→Nat→List ByteArray→Option Nat→Nat→Option (List ByteArray×Nat)
 |0,_,_,_,_=>none
 |f+1,a,l,e,fr=>
  if l.length≤8 then
   (Cr s a).bind fun p=>
    if p.1=0 then some (l,e.getD p.2)
    else if 192≤p.1 then(Cr s p.2).bind fun q=>
     if p.1%64*256+q.1<fr then nameR s f (p.1%64*256+q.1) l (some (e.getD q.2)) (p.1%64*256+q.1)else none
    else(Fo s p.2 p.1).bind fun q=>if lab (C6 q.1).data.toList=true then nameR s f q.2 (l++[C6 q.1]) e fr else none
  else none
def Eq(s:ByteArray)(a:Nat):Option (ByteArray×Nat):=(nameR s (a+10) a [] none a).map fun p=>(Df ⟨#[46]⟩ p.1,p.2)
def Il(s:ByteArray)(t a:Nat):Option ((Nat×ByteArray×Nat×ByteArray)×Nat):=
 if t=1 then(Gp s a).bind fun p=>some ((p.1,⟨#[]⟩,0,⟨#[]⟩),p.2)
 else if t=16 then(Cr s a).bind fun p=>(Fo s p.2 p.1).bind fun q=>some ((0,q.1,0,⟨#[]⟩),q.2)
 else if t=33 then(Bt s a).bind fun p=>if p.1=0 then(Bt s p.2).bind fun q=>if q.1=0 then(Bt s q.2).bind fun r=>(Eq s r.2).bind fun n=>some ((0,⟨#[]⟩,r.1,n.1),n.2)else none else none
 else none
def Pp(s:ByteArray)(a:Nat):Option (Rr×Nat):=
 (Eq s a).bind fun n=>(Bt s n.2).bind fun t=>(Bt s t.2).bind fun c=>if c.1=1 then
  (Gp s c.2).bind fun ls=>(Bt s ls.2).bind fun k=>if k.2+k.1≤s.size then
   (Il s t.1 k.2).bind fun b=>if b.2=k.2+k.1 then some (⟨n.1,t.1,ls.1,b.1.1,b.1.2.1,b.1.2.2.1,b.1.2.2.2⟩,b.2)else none
  else none
 else none
def Fg(s:ByteArray):Nat→Nat→Option (List Rr×Nat)
 |0,a=>some ([],a)
 |k+1,a=>(Pp s a).bind fun r=>(Fg s k r.2).bind fun l=>some (r.1::l.1,l.2)
end Pl
theorem Aat{s:ByteArray}{a v a':Nat}(h:Cr s a=some (v,a')):∃c,s[a]? =some c∧v=c.toNat∧a'=a+1∧a<s.size:=by
 unfold Cr at h;obtain⟨c,h1,h2⟩:=Option.map_eq_some_iff.1 h;cases h2;refine⟨c,h1,rfl,rfl,?_⟩;exact(getElem?_eq_some_iff.1 h1).1
theorem C4{s:ByteArray}{a v a':Nat}(h:Cr s a=some (v,a')):v<256∧a'=a+1∧a'≤s.size:=by
 obtain⟨c,_,rfl,rfl,h4⟩:=Aat h;exact⟨c.toNat_lt,rfl,h4⟩
def SmR(w:World)(B n:Nat)(l:List UInt8):Prop:=
 ∃C hi,w.heap[B]? =some (.cells C 5 (C.size,hi))∧n≤C.size∧l.length=n∧∀(j:Nat) (x:UInt8),l[j]? =some x→C[j]? =some (Value.int .u8 (x.toNat:Int))
theorem SmR.cell{w:World}{B n:Nat}{l:List UInt8}(h:SmR w B n l){j:Nat}{x:UInt8}(hx:l[j]? =some x):w.cell? ⟨B,j,none⟩=some (.int .u8 (x.toNat:Int)):=by
 obtain⟨C,hi,h1,h2,h3,h4⟩:=h;unfold World.cell?;rw[h1];exact h4 j x hx
theorem SmR.frozen{w:World}{B n:Nat}{l:List UInt8}(h:SmR w B n l){j:Nat}(hj:j<n):w.frozen? ⟨B,j,none⟩=false:=by
 obtain⟨C,hi,h1,h2,h3,h4⟩:=h;unfold World.frozen?;simp only[h1];simp;omega
theorem Kf{s:ByteArray}{a n:Nat}{v:ByteArray}{a':Nat}(h:Fo s a n=some (v,a')):a+n≤s.size∧v=s.extract a (a+n)∧a'=a+n∧v.size=n:=by
 unfold Fo at h;split at h
 ·cases h;refine⟨by assumption,rfl,rfl,?_⟩;rw[ByteArray.size_extract];omega
 ·cases h
structure NmI(s:ByteArray)(R:Option (List ByteArray×Nat))(a:Nat)(l:List ByteArray)(e:Option Nat)(fr f:Nat):Prop where
 hr:nameR s f a l e fr=R
 ha:a≤s.size
 hfr:fr≤s.size
 hl:l.length≤9
 hf:fr+9<f+l.length
 hz:∀x∈l,x.size≤30
 he:∀n,e=some n→n≤s.size
theorem Zn{l:List ByteArray}(h:∀x∈l,x.size≤30)(hl:l.length≤9):(Df ⟨#[46]⟩ l).size≤1000:=by
 have key:∀l:List ByteArray,(∀x∈l,x.size≤30)→(Lib.join (l.map (·.data.toList)) [46]).length≤31*l.length:=by
  intro l
  induction l with
  |nil=>intro _;simp[Lib.join]
  |cons x l ih=>
   intro h;have h1:=h x (by simp);have h2:=ih fun y hy=>h y (by simp[hy]);have h3:x.data.toList.length=x.size:=by simp
   cases l with
   |nil=>simp[Lib.join];omega
   |cons y l=>
    have e:Lib.join ((x::y::l).map (·.data.toList)) [46]=x.data.toList++[46]++Lib.join ((y::l).map (·.data.toList)) [46]:=by simp[Lib.join]
    rw[e];simp only[ZF,ZJ,ZN]at h2 ⊢;omega
 have:=key l h;unfold Df;show(Lib.join (l.map (·.data.toList)) [46]).toArray.size≤1000;rw[List.size_toArray];omega
theorem Wm{x:ByteArray}(h:lab x.data.toList=true):x.size≤30:=by
 unfold lab at h;simp at h;have:x.data.toList.length=x.size:=by rw[Array.length_toList];rfl
 omega
theorem Ahx{e:Option Nat}{k S:Nat}(h:∀n,e=some n→n≤S)(hk:k≤S):∀n,some (e.getD k)=some n→n≤S:=by
 intro n hn;cases hn;cases e with
 |none=>exact hk
 |some m=>exact h m rfl
theorem Apx{s:ByteArray}:∀{f a:Nat} {l:List ByteArray} {e:Option Nat} {fr:Nat} {ls:List ByteArray} {a':Nat},nameR s f a l e fr=some (ls,a')→(∀x∈l,lab x.data.toList=true)→(∀n,e=some n→n≤s.size)→
  a'≤s.size∧(∀x∈ls,lab x.data.toList=true)∧ls.length≤8:=by
 intro f
 induction f with
 |zero=>intro a l e fr ls a' h;cases h
 |succ f ih=>
  intro a l e fr ls a' h hl he;rw[nameR]at h;by_cases c1:l.length≤8
  ·rw[if_pos c1]at h;rcases e1:Cr s a with _|⟨n,k1⟩
   ·rw[e1]at h;cases h
   have b1:=C4 e1;rw[e1,ZA]at h;simp only at h;by_cases c2:n=0
   ·rw[if_pos c2]at h;obtain⟨rfl,rfl⟩:l=ls∧e.getD k1=a':=by simpa using h
    refine⟨?_,hl,c1⟩;cases e with
    |none=>exact b1.2.2
    |some m=>exact he m rfl
   rw[if_neg c2]at h;by_cases c3:192≤n
   ·rw[if_pos c3]at h;rcases e2:Cr s k1 with _|⟨q,k2⟩
    ·rw[e2]at h;cases h
    have b2:=C4 e2;rw[e2,ZA]at h;simp only at h;split at h
    ·exact ih h hl (Ahx he b2.2.2)
    ·cases h
   ·rw[if_neg c3]at h;rcases e3:Fo s k1 n with _|⟨x,k2⟩
    ·rw[e3]at h;cases h
    rw[e3,ZA]at h;simp only at h;split at h
    ·rename_i c4;exact ih h (fun y hy=>by
      rcases XM.1 hy with hy|hy
      ·exact hl y hy
      ·simp at hy;subst hy;exact c4) he
    ·cases h
  ·rw[if_neg c1]at h;cases h
theorem Ij{s:ByteArray}{a a':Nat}{v:ByteArray}(h:Eq s a=some (v,a')):a'≤s.size∧v.size≤1000:=by
 obtain⟨⟨ls,a2⟩,hr,hv⟩:=Option.map_eq_some_iff.1 h;simp only[Prod.mk.injEq]at hv;obtain⟨rfl,rfl⟩:=hv;have b:=Apx hr (by simp) (by simp);exact⟨b.1,Zn (fun x hx=>Wm (b.2.1 x hx)) (by omega)⟩
theorem Yv{s:ByteArray}{a a':Nat}{v:Rr}(h:Pp s a=some (v,a')):a'≤s.size∧v.nm.size≤1000∧v.tx.size≤s.size∧v.tg.size≤1000:=by
 unfold Pp at h;rcases e1:Eq s a with _|⟨nm,a1⟩
 ·rw[e1]at h;cases h
 rw[e1,ZA]at h;simp only at h;rcases e2:Bt s a1 with _|⟨t,a2⟩
 ·rw[e2]at h;cases h
 rw[e2,ZA]at h;simp only at h;rcases e3:Bt s a2 with _|⟨one,a3⟩
 ·rw[e3]at h;cases h
 rw[e3,ZA]at h;simp only at h;split at h
 ·rcases e4:Gp s a3 with _|⟨ls,a4⟩
  ·rw[e4]at h;cases h
  rw[e4,ZA]at h;simp only at h;rcases e5:Bt s a4 with _|⟨n,a5⟩
  ·rw[e5]at h;cases h
  rw[e5,ZA]at h;simp only at h;split at h
  ·rename_i c5;rcases e6:Il s t a5 with _|⟨⟨ad,tx,pt,tg⟩,a6⟩
   ·rw[e6]at h;cases h
   rw[e6,ZA]at h;simp only at h;split at h
   ·rename_i c6;cases h;have b1:=(Ij e1).2;have key:tx.size≤s.size∧tg.size≤1000:=by
     unfold Il at e6;split at e6
     ·rcases f1:Gp s a5 with _|⟨x1,y1⟩<;>rw[f1]at e6<;>cases e6;exact⟨ZU _,ZU _⟩
     ·split at e6
      ·rcases f1:Cr s a5 with _|⟨x1,y1⟩
       ·rw[f1]at e6;cases e6
       rw[f1,ZA]at e6;simp only at e6;rcases f2:Fo s y1 x1 with _|⟨x2,y2⟩<;>rw[f2]at e6<;>cases e6
       have:=Kf f2;exact⟨show x2.size≤s.size by omega,ZU _⟩
      ·split at e6
       ·rcases f1:Bt s a5 with _|⟨x1,y1⟩
        ·rw[f1]at e6;cases e6
        rw[f1,ZA]at e6;simp only at e6;split at e6
        ·rcases f2:Bt s y1 with _|⟨x2,y2⟩
         ·rw[f2]at e6;cases e6
         rw[f2,ZA]at e6;simp only at e6;split at e6
         ·rcases f3:Bt s y2 with _|⟨x3,y3⟩
          ·rw[f3]at e6;cases e6
          rw[f3,ZA]at e6;simp only at e6;rcases f4:Eq s y3 with _|⟨x4,y4⟩<;>rw[f4]at e6<;>cases e6
          exact⟨ZU _,(Ij f4).2⟩
         ·cases e6
        ·cases e6
       ·cases e6
    exact⟨by omega,b1,key.1,key.2⟩
   ·cases h
  ·cases h
 ·cases h
structure RcI(s:ByteArray)(n:Nat)(R:Option (List Rr×Nat))(k a:Nat)(L:List Rr):Prop where
 hr:(Fg s (n-k) a).map (fun p=>(L++p.1,p.2))=R
 hk:k≤n
 hl:L.length=k
 ha:a≤s.size
 hz:∀r∈L,r.nm.size≤1000∧r.tx.size≤s.size∧r.tg.size≤1000
theorem RcI.next{s:ByteArray}{n k a a2:Nat}{R:Option (List Rr×Nat)}{L:List Rr}{r:Rr}(h:RcI s n R k a L)(hk:k<n)(e:Pp s a=some (r,a2)):RcI s n R (k+1) a2 (L++[r]):=by
 have hb:=Yv e;refine⟨?_,by omega,by simp[h.hl],hb.1,fun x hx=>?_⟩
 ·rw[←h.hr,show n-k=(n-(k+1))+1 by omega];rw[Fg,e,ZA];simp only;cases Fg s (n-(k+1)) a2 with
  |none=>rfl
  |some p=>simp
 ·rcases XM.1 hx with hx|hx
  ·exact h.hz x hx
  ·simp at hx;subst hx;exact⟨hb.2.1,hb.2.2.1,hb.2.2.2⟩
theorem RcI.none{s:ByteArray}{n k a:Nat}{R:Option (List Rr×Nat)}{L:List Rr}(h:RcI s n R k a L)(hk:k<n)(e:Pp s a=none):R=none:=by
 rw[←h.hr,show n-k=(n-(k+1))+1 by omega,Fg,e];rfl


section
variable {P:Program} {ops:Array Oper} {Q:Exit→Act→List Frame→World→Prop} {a:Act} {cs:List Frame} {w w':World} {i:Nat} {Bz:List Nat} {o:Oper} {v:Value}
end
def K4:Array Value:= #[.int .i64 0,.bool false,.bool false,.int .i64 0,.string ⟨#[]⟩,.int .i64 0,.slice none 0 0]
structure Ar1(w:World)(p q:Nat)(w':World):Prop where
 m:Blk w' p 52 K4
 e:Blk w' q 32 #[.int .i64 1]
 fr:Fr (fun k=>k=p∨k=q) w w'

namespace Pl
theorem P5{l:List Int}(h:Cp l=0):∀e∈l,e=0:=by
 induction l with
 |nil=>intro e he;cases he
 |cons a l ih=>
  have h:(if a≠0 then a else Cp l)=0:=h;split at h
  ·rename_i ha;exact absurd h ha
  ·rename_i ha;intro e he;rcases XC.1 he with rfl|he
   ·simpa using ha
   ·exact ih h e he
end Pl
namespace Pl
theorem Axy{a b:ByteArray}(h:a.data.toList=b.data.toList):a=b:=by
 obtain⟨a⟩:=a;obtain⟨b⟩:=b;congr 1;exact Array.ext' h
theorem Aw9{l:List UInt8}{c:UInt8}{m:Nat}(h:Lib.indexByte l c=(m:Int)):l[m]? =some c:=by
 induction l generalizing m with
 |nil=>simp[Lib.indexByte]at h
 |cons b l ih=>
  unfold Lib.indexByte at h;by_cases hb:(b==c)=true
  ·rw[if_pos hb]at h;have:b=c:=by simpa using hb
   obtain rfl:m=0:=by omega
   simp[this]
  ·rw[if_neg hb]at h;have hg:=Lib.indexByte_ge l c;split at h
   ·omega
   ·rename_i h1;have h1':¬Lib.indexByte l c= -1:=by simpa using h1
    obtain⟨k,hk⟩:∃k:Nat,Lib.indexByte l c=(k:Int):=⟨(Lib.indexByte l c).toNat,by omega⟩;obtain rfl:m=k+1:=by omega
    simpa using ih hk
theorem Aj4(c:UInt8)(s:ByteArray){k:Nat}(h:k<cnb s c):(Bz c s k).data.toList=(S0 c s k).data.toList++[c]++(Bz c s (k+1)).data.toList:=by
 obtain⟨m,h1,h2,h3,h4⟩:=Alb c s h;have hm:=Aw9 (l:=(Bz c s k).data.toList) (c:=c) (m:=m) h1;have hlen:(Bz c s k).data.toList.length=(Bz c s k).size:=by simp
 rw[h3,h4,D3,D3,List.drop_zero];rw[List.take_of_length_le (i:=(Bz c s k).size) (by omega)];have hd:(Bz c s k).data.toList.drop m=c::(Bz c s k).data.toList.drop (m+1):=by
  rw[List.drop_eq_getElem_cons (by omega)];congr 1;rw[ZC (by omega)]at hm;exact Option.some.inj hm
 rw[ZS];show _=List.take m _++(c::List.drop (m+1) _);rw[←hd,List.take_append_drop]
theorem Anu(s:ByteArray)(c:UInt8):∀(j k:Nat),k+j=cnb s c→Lib.join ((((List.range' k j).map (S0 c s))++[Bz c s (cnb s c)]).map (·.data.toList)) [c]=(Bz c s k).data.toList:=by
 intro j
 induction j with
 |zero=>
  intro k hk;have hk:k=cnb s c:=by omega
  rw[hk];simp[Lib.join]
 |succ j ih=>
  intro k hk;have h1:=ih (k+1) (by omega);rw[List.range'_succ,List.map_cons,List.cons_append,List.map_cons];rw[Aj4 c s (k:=k) (by omega),←h1];obtain⟨x,xs,hx⟩:∃x xs,(((List.range' (k+1) j).map (S0 c s))++[Bz c s (cnb s c)]).map (·.data.toList)=x::xs:=by
   cases j<;>simp[List.range'_succ]
  rw[hx];simp[Lib.join]
theorem Agl(s:ByteArray):Df ⟨#[46]⟩ (A5 s)=s:=by
 apply Axy;unfold A5;split
 ·rename_i h;have:=toList_inj (ZR.1 h);subst this;rfl
 ·have h:=Anu s 46 (cnb s 46) 0 (by omega);rw[←List.range_eq_range']at h;exact h
def At(s:ByteArray)(a:Nat)(l:List UInt8):Prop:=∃pre post,s.data.toList=pre++l++post∧pre.length=a
theorem At.app{s:ByteArray}{a:Nat}{l l':List UInt8}(h:At s a (l++l')):At s a l∧At s (a+l.length) l':=by
 obtain⟨pre,post,h1,h2⟩:=h;exact⟨⟨pre,l'++post,by rw[h1];simp,h2⟩,⟨pre++l,post,by rw[h1];simp,by simp[h2]⟩⟩
theorem At.le{s:ByteArray}{a:Nat}{l:List UInt8}(h:At s a l):a+l.length≤s.size:=by
 obtain⟨pre,post,h1,h2⟩:=h;have:=congrArg List.length h1;simp at this;omega
theorem At.byte{s:ByteArray}{a:Nat}{c:UInt8}(h:At s a [c]):Cr s a=some (c.toNat,a+1):=by
 obtain⟨pre,post,h1,h2⟩:=h;unfold Cr;have:s.data.toList[a]? =some c:=by rw[h1];subst h2;simp
 have hlt:a<s.size:=by
  have:=(ZB.1 this).1;simpa using this
 have e:s[a]? =some c:=by
  rw[getElem?_pos s a hlt];congr 1;have:=(ZB.1 this).2;rw[Array.getElem_toList]at this;exact this
 rw[e];rfl
theorem At.bytes{s:ByteArray}{a:Nat}{x:ByteArray}(h:At s a x.data.toList):Fo s a x.size=some (x,a+x.size):=by
 have hx:x.data.toList.length=x.size:=by simp
 have:=h.le;unfold Fo;rw[if_pos (by omega)];congr 2;apply Axy;rw[D3];obtain⟨pre,post,h1,h2⟩:=h;rw[h1,←hx,ZS];subst h2;rw[List.take_append,List.drop_append];simp
theorem Anf{c:UInt8}(h:okB c.toNat=true):F8 c=c:=by
 unfold F8;rw[if_neg];intro⟨h1,h2⟩;unfold okB at h;simp at h;omega
theorem Ap1{x:ByteArray}(h:lab x.data.toList=true):C6 x=x:=by
 apply Axy;unfold C6;show x.data.toList.map F8=x.data.toList;have h2:∀c∈x.data.toList,okB c.toNat=true:=by
  unfold lab at h;exact fun c hc=>List.all_eq_true.1 (Bool.and_eq_true_iff.1 h).1 c hc
 have:x.data.toList.map F8=x.data.toList.map id:=List.map_congr_left fun c hc=>Anf (h2 c hc);rw[this,List.map_id]
theorem Aj2{x:ByteArray}(h:lab x.data.toList=true):1≤x.size∧x.size≤30:=by
 unfold lab at h;have:=ZV (Bool.and_eq_true_iff.1 h).2;have e:x.data.toList.length=x.size:=by simp
 omega
theorem At.nameR{s:ByteArray}:∀(ls l0:List ByteArray) (a f fr:Nat),At s a (D7 ls++[0])→(∀x∈ls,lab x.data.toList=true)→l0.length+ls.length≤8→ls.length<f→
  nameR s f a l0 none fr=some (l0++ls,a+(D7 ls).length+1):=by
 intro ls
 induction ls with
 |nil=>
  intro l0 a f fr h hl h8 hf;obtain⟨f,rfl⟩:∃f',f=f'+1:=⟨f-1,by simp at hf;omega⟩;have b:=At.byte (c:=0) h;rw[Pl.nameR,if_pos (by simpa using h8),b,ZA];simp only[List.append_nil];rw[if_pos (by decide)];rfl
 |cons x ls ih=>
  intro l0 a f fr h hl h8 hf;obtain⟨f,rfl⟩:∃f',f=f'+1:=⟨f-1,by omega⟩;have hx:=hl x (by simp);have hz:=Aj2 hx;have e:D7 (x::ls)++[0]=[UInt8.ofNat x.size]++(x.data.toList++(D7 ls++[0])):=by simp[D7,Aqx]
  rw[e]at h;have b1:=h.app.1.byte;have h2:=h.app.2;rw[show [UInt8.ofNat x.size].length=1 from rfl]at h2;have b2:=h2.app.1.bytes;have h3:=h2.app.2;have el:x.data.toList.length=x.size:=by simp
  rw[el]at h3;have ez:(UInt8.ofNat x.size).toNat=x.size:=by rw[UInt8.toNat_ofNat'];exact Nat.mod_eq_of_lt (by omega)
  rw[ez]at b1;simp only[ZJ]at h8 hf;rw[Pl.nameR,if_pos (by omega),b1,ZA];simp only;rw[if_neg (by omega),if_neg (by omega),b2,ZA];simp only;rw[Ap1 hx,if_pos hx,ih (l0++[x]) (a+1+x.size) f fr h3 (fun y hy=>hl y (by simp[hy])) (by simp;omega) (by omega)];have:(D7 (x::ls)).length=1+x.size+(D7 ls).length:=by simp[D7,Aqx];omega
  rw[this];simp only[ZS,List.cons_append,List.nil_append];congr 2;omega
theorem Ab4{nm:ByteArray}(h:Ao nm=0):(∀x∈A5 nm,lab x.data.toList=true)∧(A5 nm).length≤8∧nm.size≤120:=by
 unfold Ao at h;split at h
 ·cases h
 ·rename_i h1;split at h
  ·cases h
  ·split at h
   ·cases h
   ·refine⟨fun x hx=>?_,by omega,by omega⟩;have h2:(A5 nm).any (fun x=> !lab x.data.toList)=false:=by simpa using h1
    have:=List.any_eq_false.1 h2 x hx;simpa using this
theorem At.name{s:ByteArray}{a:Nat}{nm:ByteArray}(h:At s a (Bv nm))(hn:Ao nm=0):Eq s a=some (nm,a+(Bv nm).length):=by
 obtain⟨h1,h2,h3⟩:=Ab4 hn;unfold Eq;rw[At.nameR (A5 nm) [] a (a+10) a h h1 (by simpa using h2) (by omega)];show some (Df ⟨#[46]⟩ ([]++A5 nm),_)=_;rw[List.nil_append,Agl];simp[Bv];omega
end Pl
namespace Pl
end Pl
theorem Fr.out{L:Nat→Prop}{a b c:World}(h:Fr (fun _=>False) a b)(k:Fr L b c)(hl:∀i,L i→a.heap.size≤i):Fr (fun _=>False) a c:=
 ⟨k.os.trans h.os,k.tape.trans h.tape,k.output.trans h.output,XI h.size k.size,fun i hi _=>(k.block i (XH hi h.size) (fun hL=>by have:=hl i hL;omega)).trans (h.block i hi id)⟩

namespace Pl
end Pl
namespace Pl
def bA(l:List UInt8):ByteArray:=⟨l.toArray⟩
theorem Ca(l r:List UInt8):bA l++bA r=bA (l++r):=by
 apply ByteArray.ext;rw[ByteArray.data_append];simp[bA]
theorem D2(l:List UInt8):(bA l).size=l.length:=by simp[bA,ByteArray.size]
theorem Abt(s:ByteArray):bA s.data.toList=s:=by simp[bA]
end Pl
namespace Pl
end Pl
section
open Go.Joins Go.ChangeShapes Go.WideShapes Go.Deep
def Bd1(B:Nat):V→Prop
 |.v (.string x)=>x.size≤B
 |_=>True
def Bd(B:Nat):V→Prop
 |.v (.string x)=>x.size≤B
 |.sl _ rows=>rows.length≤B∧∀row∈rows,∀u∈row,Bd1 B u
 |_=>True
theorem Bd.one{B:Nat}{u:V}(h:Bd B u):Bd1 B u:=by
 unfold Bd at h;unfold Bd1;split at h<;>simp_all
structure Avw{H:Type}(bk:DataW H→Nat):Prop where
 str:∀l,l.length≤bk (.lit (.string l))
 agg:∀ds d,d∈ds→bk d≤bk (.agg ds)
 sl:∀es sp,es.length≤bk (.slice es sp)∧∀d∈es,bk d≤bk (.slice es sp)
section
variable {H:Type} {enc:TypeId×Value→H} {P:Program} {w:World} {base:Nat} {spare:Nat→Bool} {held:Bool} {bk:DataW H→Nat} {B:Nat}
end
end

structure Aox(m:Ms):Prop where
 sz:m.Sized
 ln:m.rs.length≤1048576
namespace Pl
end Pl
namespace Pl
def atB(s:ByteArray)(a:Nat):Nat:=match s[a]? with|some c=>c.toNat|none=>0
theorem Is(s:ByteArray)(a:Nat):atB s a<256:=by
 unfold atB;split
 ·exact UInt8.toNat_lt _
 ·omega
def Dx(s:ByteArray)(a:Nat):Nat→Nat
 |0=>0
 |k+1=>256*Dx s a k+atB s (a+k)
def B6(s:ByteArray)(k a:Nat):Nat:=if a+k≤s.size then Dx s a k else 0
def Aq(s:ByteArray)(k a:Nat):Nat:=if a+k≤s.size then a+k else max a s.size
def B7(s:ByteArray)(k a:Nat)(b:Bool):Bool:=b||decide (s.size<a+k)
theorem Bj{s:ByteArray}{k a m:Nat}(h1:a≤m)(h2:s.size≤m):Aq s k a≤m:=by
 unfold Aq;split<;>omega
end Pl
namespace Pl
abbrev Kk:ByteArray:=⟨#[46]⟩
theorem Aaa(l:List ByteArray):Df Kk l=bA (Lib.join (l.map (·.data.toList)) [46]):=rfl
theorem Aos(x:ByteArray):Df Kk [x]=x:=by
 rw[Aaa];simp[Lib.join,List.intercalate,Abt]
theorem Anj(l:List (List UInt8))(x sep:List UInt8)(h:l≠[]):Lib.join (l++[x]) sep=Lib.join l sep++(sep++x):=by
 rcases l with _|⟨y,l⟩
 ·exact absurd rfl h
 ·rw[List.cons_append,Lib.join_cons,Lib.join_cons];unfold Lib.joinTail;simp
theorem Aj5(l:List ByteArray)(x:ByteArray)(h:l≠[]):Df Kk (l++[x])=Df Kk l++Kk++x:=by
 rw[Aaa,Aaa,ZI,List.map_cons,List.map_nil,Anj _ _ _ (by simpa using h)]
 conv=>rhs;rhs;rw[←Abt x]
 rw[show Kk=bA [46]from rfl,Ca,Ca,ZS]
theorem Vn{α:Type}{l:List α}{k:Nat}(h:k<l.length):l.take (k+1)=l.take k++[l[k]]:=by rw[XT,ZC h];rfl
theorem X3{l:List ByteArray}(h:0<l.length):Df Kk (l.take 0)++l[0]=Df Kk (l.take (0+1)):=by
 rw[Vn h,List.take_zero,List.nil_append,Aos,show Df Kk []=bA []from rfl]
 conv=>lhs;rhs;rw[←Abt l[0]]
 rw[Ca,List.nil_append,Abt]
theorem Ab9{l:List ByteArray}{k:Nat}(h:k+1<l.length):Df Kk (l.take (k+1))++Kk++l[k+1]=Df Kk (l.take (k+1+1)):=by
 rw[Vn h,Aj5 _ _ (by intro e;have:=congrArg List.length e;rw[ZM]at this;simp only[ZN]at this;omega)]
theorem Ads(l:List ByteArray)(h:∀x∈l,x.size≤1000)(k:Nat)(hk:k≤l.length):(Df Kk (l.take k)).size≤1001*k:=by
 induction k with
 |zero=>exact ZT 0
 |succ k ih=>
  have h1:=ih (by omega);have h2:=h _ (ZK (show k<l.length by omega));rcases k with _|k
  ·rw[←X3 (by omega),XP];omega
  ·rw[←Ab9 (by omega),XP,XP];have:Kk.size=1:=rfl;omega
end Pl
namespace Pl
def Du(s:ByteArray)(a:Nat):Nat→List UInt8
 |0=>[]
 |i+1=>Du s a i++[F8 (UInt8.ofNat (atB s (a+i)))]
theorem Y4(s:ByteArray)(a n:Nat):(Du s a n).length=n:=by
 induction n with
 |zero=>rfl
 |succ n ih=>show(Du s a n++[_]).length=n+1;rw[ZF,ih];rfl
def Je(s:ByteArray):Nat→Nat→List ByteArray→Option Nat→Nat→Option (List ByteArray×Nat)×Nat
 |0,_,_,_,_=>(none,0)
 |f+1,a,l,e,fr=>
  if a+1≤s.size then
   if atB s a=0 then(some (l,e.getD (a+1)),0)
   else if 192≤atB s a then
    if a+2≤s.size∧(atB s a-192)*256+atB s (a+1)<fr then Je s f ((atB s a-192)*256+atB s (a+1)) l (some (e.getD (a+2))) ((atB s a-192)*256+atB s (a+1))
    else(none,(atB s a-192)*256+atB s (a+1))
   else if a+1+atB s a≤s.size∧lab (Du s (a+1) (atB s a))=true∧l.length+1≤8 then Je s f (Aq s (atB s a) (a+1)) (l++[bA (Du s (a+1) (atB s a))]) e fr
   else(none,Aq s (atB s a) (a+1))
  else(none,max a s.size)
def Abk(s:ByteArray)(a:Nat)(b:Bool):Option (List ByteArray×Nat)×Nat:=bif b then(none,a)else Je s (a+10) a [] none a
def Dp(s:ByteArray)(a:Nat)(b:Bool):ByteArray×Nat×Bool:=match Abk s a b with
 |(some p,_)=>(Df Kk p.1,p.2,false)
 |(none,x)=>(⟨#[]⟩,x,true)
structure NqI(s:ByteArray)(Q:Option (List ByteArray×Nat)×Nat)(a:Nat)(b:Bool)(l:List ByteArray)(e:Option Nat)(fr:Nat):Prop where
 ha:a≤1000000
 hl:l.length≤9
 hz:∀x∈l,x.size≤1000
 he:e.getD 0≤1000000
 hf:fr≤1000000
 no:b=false→l.length≤8∧∃f,fr+10≤f+l.length∧Je s f a l e fr=Q
 yes:b=true→Q=(none,a)
section
variable {s:ByteArray} {Q:Option (List ByteArray×Nat)×Nat} {a fr:Nat} {l:List ByteArray} {e:Option Nat}
theorem NqI.out(h:NqI s Q a false l e fr)(c:¬a+1≤s.size):Q=(none,max a s.size):=by
 obtain⟨h8,f,hf,hq⟩:=h.no rfl;obtain⟨f,rfl⟩:∃f',f=f'+1:=⟨f-1,by omega⟩;rw[←hq,Je,if_neg c]
theorem NqI.zero(h:NqI s Q a false l e fr)(c:a+1≤s.size)(c0:atB s a=0):Q=(some (l,e.getD (a+1)),0):=by
 obtain⟨h8,f,hf,hq⟩:=h.no rfl;obtain⟨f,rfl⟩:∃f',f=f'+1:=⟨f-1,by omega⟩;rw[←hq,Je,if_pos c,if_pos c0]
theorem Ag1(s:ByteArray)(a:Nat):(atB s a-192)*256+atB s (a+1)≤1000000:=by
 have:=Is s a;have:=Is s (a+1);omega
theorem Ael{e:Option Nat}{x:Nat}(h:e.getD 0≤1000000)(hx:x≤1000000):(some (e.getD x)).getD 0≤1000000:=by
 cases e with
 |none=>exact hx
 |some y=>exact h
theorem Akz(h:∀x∈l,x.size≤1000){n:Nat}(hn:n<256)(b:Nat):∀x∈l++[bA (Du s b n)],x.size≤1000:=fun x hx=>by
 rcases XM.1 hx with hx|hx
 ·exact h x hx
 ·rw[XN]at hx;subst hx;rw[D2,Y4];omega
theorem Ts{b:Bool}{p:List ByteArray×Nat}{x:Nat}(h:Abk s a b=(some p,x)):Dp s a b=(Df Kk p.1,p.2,false):=by unfold Dp;rw[h]
theorem O0{b:Bool}{x:Nat}(h:Abk s a b=(none,x)):Dp s a b=(⟨#[]⟩,x,true):=by unfold Dp;rw[h]
end
end Pl
namespace Pl
def M1(s:ByteArray)(a:Nat)(b:Bool):Nat×Bool:=bif b then(a,true)else(Aq s 2 a,(B6 s 2 a:Int) !=1)
def Uk(a e:Nat)(b:Bool):Bool:=bif b then true else((a:Int) !=(e:Int))
def Aa1(s:ByteArray)(nm:ByteArray)(t ls a e:Nat):Option (Rr×Nat×Bool):=
 if t=1 then some (⟨nm,t,ls,B6 s 4 a,⟨#[]⟩,0,⟨#[]⟩⟩,Aq s 4 a,Uk (Aq s 4 a) e (B7 s 4 a false))
 else if t=16 then
  if B7 s 1 a false=true∨s.size<Aq s 1 a+B6 s 1 a then none
  else some (⟨nm,t,ls,0,s.extract (Aq s 1 a) (Aq s 1 a+B6 s 1 a),0,⟨#[]⟩⟩,Aq s 1 a+B6 s 1 a,Uk (Aq s 1 a+B6 s 1 a) e false)
 else if t=33 then
  some (⟨nm,t,ls,0,⟨#[]⟩,B6 s 2 (Aq s 4 a),(Dp s (Aq s 2 (Aq s 4 a)) (B7 s 2 (Aq s 4 a) ((B6 s 4 a:Int) !=0))).1⟩,
   (Dp s (Aq s 2 (Aq s 4 a)) (B7 s 2 (Aq s 4 a) ((B6 s 4 a:Int) !=0))).2.1,
   Uk (Dp s (Aq s 2 (Aq s 4 a)) (B7 s 2 (Aq s 4 a) ((B6 s 4 a:Int) !=0))).2.1 e (Dp s (Aq s 2 (Aq s 4 a)) (B7 s 2 (Aq s 4 a) ((B6 s 4 a:Int) !=0))).2.2)
 else some (⟨nm,t,ls,0,⟨#[]⟩,0,⟨#[]⟩⟩,a,Uk a e false)
def Xx(s:ByteArray)(nm:ByteArray)(a1:Nat)(b1:Bool):Option (Rr×Nat×Bool):=
 let o:=M1 s (Aq s 2 a1) (B7 s 2 a1 b1)
 if B7 s 6 o.1 o.2=true∨s.size<Aq s 6 o.1+B6 s 2 (Aq s 4 o.1)then none
 else Aa1 s nm (B6 s 2 a1) (B6 s 4 o.1) (Aq s 6 o.1) (Aq s 6 o.1+B6 s 2 (Aq s 4 o.1))
def Oj(s:ByteArray)(a:Nat):Option (Rr×Nat×Bool):=Xx s (Dp s a false).1 (Dp s a false).2.1 (Dp s a false).2.2
def Gy(s:ByteArray):Nat→Nat→Bool→List Rr→Option (List Rr×Nat×Bool)
 |0,a,b,L=>some (L,a,b)
 |n+1,a,b,L=>bif b then some (L,a,true)else(Oj s a).bind fun r=>Gy s n r.2.1 r.2.2 (L++[r.1])
structure Hd where
 id:Nat
 fl:Nat
 co:Nat
 one:Nat
 n:Nat
 z:Nat
def Hd.ok(h:Hd):Prop:=(h.fl=0∨h.fl=2∨h.fl=128∨h.fl=130)∧h.co≤15∧h.one=1∧h.n≤20∧h.z=0
instance (h:Hd):Decidable h.ok:=by unfold Hd.ok;exact inferInstance
theorem Aaw{s:ByteArray}(hs:s.size≤1000000):∀(f a:Nat) (l:List ByteArray) (e:Option Nat) (fr:Nat),a≤1000000→e.getD 0≤1000000→l.length≤8→(∀x∈l,x.size≤1000)→
  (Je s f a l e fr).2≤1000000∧∀p,(Je s f a l e fr).1=some p→p.2≤1000000∧p.1.length≤8∧∀x∈p.1,x.size≤1000
 |0,a,l,e,fr,ha,he,hl,hz=>⟨ZU _,fun p h=>by cases h⟩
 |f+1,a,l,e,fr,ha,he,hl,hz=>by
  have ht:=Ag1 s a;have hb:=Is s a;unfold Je;split
  ·split
   ·refine⟨ZU _,fun p h=>?_⟩;cases h;refine⟨?_,hl,hz⟩;cases e with
    |none=>show a+1≤_;omega
    |some y=>exact he
   ·split
    ·split
     ·exact Aaw hs f _ l _ _ ht (Ael he (by omega)) hl hz
     ·exact⟨ht,fun p h=>by cases h⟩
    ·split
     ·rename_i h3;exact Aaw hs f _ _ e fr (Bj (by omega) hs) he (by rw[ZF];exact h3.2.2) (Akz hz hb _)
     ·exact⟨Bj (by omega) hs,fun p h=>by cases h⟩
  ·exact⟨by show max a s.size≤_;omega,fun p h=>by cases h⟩
theorem Uf{s:ByteArray}(hs:s.size≤1000000){a:Nat}(ha:a≤1000000)(b:Bool):(Dp s a b).2.1≤1000000∧(Dp s a b).1.size≤10000:=by
 cases b with
 |true=>exact⟨ha,show(⟨#[]⟩:ByteArray).size≤10000 from by decide⟩
 |false=>
  obtain⟨h1,h2⟩:=Aaw hs (a+10) a [] none a ha (by simp) (by simp) (by simp);rcases hq:Je s (a+10) a [] none a with⟨_|p,x⟩
  ·rw[O0 (b:=false) hq];rw[hq]at h1;exact⟨h1,show(⟨#[]⟩:ByteArray).size≤10000 from by decide⟩
  ·rw[Ts (b:=false) hq];rw[hq]at h2;obtain⟨g1,g2,g3⟩:=h2 p rfl;refine⟨g1,?_⟩;have:=Ads p.1 g3 p.1.length (ZT _);rw[XF]at this;show(Df Kk p.1).size≤_;omega
theorem Amq{s:ByteArray}(hs:s.size≤1000000){a:Nat}(ha:a≤1000000)(b:Bool):(M1 s a b).1≤1000000:=by
 cases b with
 |true=>exact ha
 |false=>exact Bj ha hs
structure Rr.Sh(r:Rr):Prop where
 nm:r.nm.size≤1000000
 tx:r.tx.size≤1000000
 tg:r.tg.size≤1000000
theorem Asm{s:ByteArray}(hs:s.size≤1000000){nm:ByteArray}(hn:nm.size≤10000){t ls a e:Nat}(ha:a≤1000000){r:Rr}{a':Nat}{b':Bool}(h:Aa1 s nm t ls a e=some (r,a',b')):r.Sh∧a'≤1000000:=by
 have h0:(⟨#[]⟩:ByteArray).size=0:=rfl;unfold Aa1 at h;split at h
 ·cases h;exact⟨⟨by show nm.size≤_;omega,by show(⟨#[]⟩:ByteArray).size≤_;omega,by show(⟨#[]⟩:ByteArray).size≤_;omega⟩,Bj ha hs⟩
 ·split at h
  ·split at h
   ·cases h
   ·rename_i h3;cases h;refine⟨⟨by show nm.size≤_;omega,?_,by show(⟨#[]⟩:ByteArray).size≤_;omega⟩,?_⟩
    ·show(s.extract (Aq s 1 a) (Aq s 1 a+B6 s 1 a)).size≤_;rw[ByteArray.size_extract];omega
    ·simp only[not_or]at h3;omega
  ·split at h
   ·cases h;obtain⟨g1,g2⟩:=Uf hs (Bj (Bj ha hs) hs:Aq s 2 (Aq s 4 a)≤1000000) (B7 s 2 (Aq s 4 a) ((B6 s 4 a:Int) !=0));exact⟨⟨by show nm.size≤_;omega,by show(⟨#[]⟩:ByteArray).size≤_;omega,XI g2 (by decide)⟩,g1⟩
   ·cases h;exact⟨⟨by show nm.size≤_;omega,by show(⟨#[]⟩:ByteArray).size≤_;omega,by show(⟨#[]⟩:ByteArray).size≤_;omega⟩,ha⟩
theorem Aul{s:ByteArray}(hs:s.size≤1000000){a:Nat}(ha:a≤1000000){r:Rr}{a':Nat}{b':Bool}(h:Oj s a=some (r,a',b')):r.Sh∧a'≤1000000:=by
 obtain⟨g1,g2⟩:=Uf hs ha false;unfold Oj Xx at h;simp only at h;split at h
 ·cases h
 ·exact Asm hs g2 (Bj (Amq hs (Bj g1 hs) _) hs) h
structure RsI(s:ByteArray)(n:Nat)(R:Option (List Rr×Nat×Bool))(k a:Nat)(b:Bool)(L:List Rr):Prop where
 hr:Gy s (n-k) a b L=R
 hk:k≤n
 hl:L.length=k
 ha:a≤1000000
 hz:∀r∈L,r.Sh
section
variable {s:ByteArray} {n k a:Nat} {R:Option (List Rr×Nat×Bool)} {L:List Rr} {b:Bool}
theorem RsI.next(h:RsI s n R k a false L)(hs:s.size≤1000000)(hk:k<n){r:Rr}{a':Nat}{b':Bool}(e:Oj s a=some (r,a',b')):RsI s n R (k+1) a' b' (L++[r]):=by
 have hb:=Aul hs h.ha e;refine⟨?_,hk,by rw[ZF,h.hl];rfl,hb.2,fun x hx=>?_⟩
 ·have:=h.hr;rw[show n-k=(n-(k+1))+1 by omega,Gy,e]at this;exact this
 ·rcases XM.1 hx with hx|hx
  ·exact h.hz x hx
  ·rw[XN.1 hx];exact hb.1
theorem RsI.none(h:RsI s n R k a false L)(hk:k<n)(e:Oj s a=none):R=none:=by
 rw[←h.hr,show n-k=(n-(k+1))+1 by omega,Gy,e];rfl
end
end Pl
namespace Pl
section
variable {s:ByteArray} {a:Nat}
end
end Pl
namespace Pl
section
variable {s:ByteArray} {nm:ByteArray} {t ls a e:Nat}
end
end Pl
namespace Pl
end Pl
namespace Pl
end Pl
namespace Pl
end Pl
namespace Pl
def Fy(n:ByteArray)(K:List Sv):List Sv:=K.filter fun s=>s.nd.toList==n.toList
def Vy(ns:List ByteArray)(s:Sv):List ByteArray:=bif ns.any (fun n=>n.toList==s.nd.toList)then ns else ns++[s.nd]
def nms(K:List Sv):List ByteArray:=K.foldl Vy []
theorem P9(K:List Sv)(s:Sv):nms (K++[s])=Vy (nms K) s:=by simp[nms,List.foldl_append]
theorem tEq{a b:ByteArray}:(a.toList==b.toList)=true↔a=b:=⟨fun h=>toList_inj (ZR.1 h),fun h=>by rw[h];exact beq_self_eq_true _⟩
theorem Aq4{ns:List ByteArray}{m:ByteArray}:ns.any (fun n=>n.toList==m.toList)=true↔m∈ns:=by
 rw[List.any_eq_true];exact⟨fun⟨n,h1,h2⟩=>tEq.1 h2▸h1,fun h=>⟨m,h,tEq.2 rfl⟩⟩
theorem Rz{ns:List ByteArray}{s:Sv}(h:s.nd∈ns):Vy ns s=ns:=by unfold Vy;rw[Aq4.2 h];rfl
theorem N3{ns:List ByteArray}{s:Sv}(h:s.nd∉ns):Vy ns s=ns++[s.nd]:=by
 unfold Vy;rw[XE.2 (fun e=>h (Aq4.1 e))];rfl
theorem Z4:∀(K:List Sv) (ns:List ByteArray),(∀n,n∈K.foldl Vy ns↔n∈ns∨∃s∈K,s.nd=n)∧(ns.Nodup→(K.foldl Vy ns).Nodup)∧(K.foldl Vy ns).length≤ns.length+K.length
 |[],ns=>⟨fun n=>by simp,id,by simp⟩
 |s::K,ns=>by
  obtain⟨h1,h2,h3⟩:=Z4 K (Vy ns s);by_cases h:s.nd∈ns
  ·rw[List.foldl_cons];rw[Rz h]at *;refine⟨fun n=>(h1 n).trans ⟨fun q=>q.imp id fun⟨t,a,b⟩=>⟨t,ZL _ a,b⟩,fun q=>?_⟩,h2,by simp only[ZJ];omega⟩;rcases q with q|⟨t,a,b⟩
   ·exact .inl q
   ·rcases XC.1 a with e|e
    ·subst e;exact .inl (b▸h)
    ·exact .inr ⟨t,e,b⟩
  ·rw[List.foldl_cons];rw[N3 h]at *;refine⟨fun n=>(h1 n).trans ?_,fun hn=>h2 ?_,by simp only[ZJ,ZF,ZN]at *;omega⟩
   ·rw[XM,XN];constructor
    ·rintro ((q|q)|⟨t,a,b⟩)
     ·exact .inl q
     ·exact .inr ⟨s,XB ..,q.symm⟩
     ·exact .inr ⟨t,ZL _ a,b⟩
    ·rintro (q|⟨t,a,b⟩)
     ·exact .inl (.inl q)
     ·rcases XC.1 a with e|e
      ·subst e;exact .inl (.inr b.symm)
      ·exact .inr ⟨t,e,b⟩
   ·rw[List.nodup_append];refine⟨hn,by simp,fun a ha b hb e=>?_⟩;rw[XN]at hb;subst hb;subst e;exact h ha
theorem Ys{K:List Sv}{n:ByteArray}:n∈nms K↔∃s∈K,s.nd=n:=((Z4 K []).1 n).trans (by simp)
theorem Alj(K:List Sv):(nms K).length≤K.length:=by have:=(Z4 K []).2.2;simpa[nms]using this
theorem Af8{K:List Sv}{n:ByteArray}(h:n∈nms K):∃s l,Fy n K=s::l∧s.nd=n:=by
 obtain⟨s,h1,h2⟩:=Ys.1 h;have hm:s∈Fy n K:=List.mem_filter.2 ⟨h1,tEq.2 h2⟩;cases hl:Fy n K with
 |nil=>rw[hl]at hm;cases hm
 |cons t l=>
  have:t∈Fy n K:=by rw[hl];exact XB ..
  exact⟨t,l,rfl,tEq.1 (List.mem_filter.1 this).2⟩
theorem Auc{K:List Sv}{n:ByteArray}(h:n∉nms K):Fy n K=[]:=List.filter_eq_nil_iff.2 fun s hs e=>h (Ys.2 ⟨s,hs,tEq.1 e⟩)
theorem Oe(K:List Sv)(s:Sv)(n:ByteArray):Fy n (K++[s])=Fy n K++(bif s.nd.toList==n.toList then [s]else []):=by
 unfold Fy;rw[List.filter_append,List.filter_cons];cases s.nd.toList==n.toList<;>rfl
theorem S5(k:ByteArray)(v:V):∀(l:List (ByteArray×V)) (o i:Nat) (u:V),look k l o=some (i,u)→look k (l.set (i-o) (k,v)) o=some (i,v)
 |[],o,i,u,h=>by simp[look]at h
 |(a,w)::es,o,i,u,h=>by
  unfold look at h;split at h
  ·simp only[ZD,Prod.mk.injEq]at h;obtain⟨rfl,rfl⟩:=h;simp[look]
  ·rename_i hk;have h1:=(Ro h).1;rw[show i-o=(i-(o+1))+1 by omega,List.set_cons_succ];unfold look;rw[if_neg hk];exact S5 k v es (o+1) i u h
theorem Xh{k k':ByteArray}(hne:k'≠k)(v:V):∀(l:List (ByteArray×V)) (o i:Nat) (u:V),look k l o=some (i,u)→look k' (l.set (i-o) (k,v)) o=look k' l o
 |[],o,i,u,h=>by simp[look]at h
 |(a,w)::es,o,i,u,h=>by
  unfold look at h;split at h
  ·rename_i hk;simp only[ZD,Prod.mk.injEq]at h;obtain⟨rfl,rfl⟩:=h;subst hk;simp[look,hne]
  ·rename_i hk;have h1:=(Ro h).1;rw[show i-o=(i-(o+1))+1 by omega,List.set_cons_succ];unfold look;rw[Xh hne v es (o+1) i u h]
theorem Wy{k k':ByteArray}(v:V):∀(l:List (ByteArray×V)) (o:Nat),look k' (l++[(k,v)]) o=(match look k' l o with
  |some r=>some r
  |none=>if k'=k then some (o+l.length,v)else none)
 |[],o=>by simp[look]
 |(a,w)::es,o=>by
  rw[List.cons_append];unfold look;split
  ·rfl
  ·rw[Wy v es (o+1),ZJ,show o+1+es.length=o+(es.length+1)by omega]
theorem S4(k:ByteArray)(v:V)(l:List (ByteArray×V)):∃j,look k (put l k v) 0=some (j,v):=by
 unfold put;cases h:look k l 0 with
 |none=>exact⟨0+l.length,by simp only[];rw[Wy,h];simp⟩
 |some p=>obtain⟨i,u⟩:=p;exact⟨i,by simpa using S5 k v l 0 i u h⟩
theorem L8{k k':ByteArray}(hne:k'≠k)(v:V)(l:List (ByteArray×V)):look k' (put l k v) 0=look k' l 0:=by
 unfold put;cases h:look k l 0 with
 |none=>simp only[];rw[Wy];cases look k' l 0<;>simp[hne]
 |some p=>obtain⟨i,u⟩:=p;simpa using Xh hne v l 0 i u h
theorem Axe{a b:Sv}(h:a.row=b.row):a.nd=b.nd:=by
 unfold Sv.row at h;injection h with h _
 injection h with h;injection h
structure Grp(T:TypeId)(K:List Sv)(E:List (ByteArray×V))(ss:List SE):Prop where
 has:∀n∈nms K,∃j s,look n E 0=some (j,.v s.val)∧s∈ss∧s.T=T∧s.sz=9∧s.rows=(Fy n K).map Sv.row
 no:∀n,n∉nms K→look n E 0=none
theorem Grp.nil(T:TypeId):Grp T [] [] []:=⟨fun n h=>by simp[nms]at h,fun n _=>rfl⟩
theorem Grp.new{T:TypeId}{K:List Sv}{E:List (ByteArray×V)}{ss:List SE}(h:Grp T K E ss)(s:Sv)(hn:s.nd∉nms K)(b cap:Nat):Grp T (K++[s]) (put E s.nd (.v (SE.val ⟨T,9,b,cap,[s.row]⟩))) (⟨T,9,b,cap,[s.row]⟩::ss):=by
 have e:nms (K++[s])=nms K++[s.nd]:=by rw[P9,N3 hn]
 constructor
 ·intro n hm;rw[e]at hm;by_cases hc:n=s.nd
  ·subst hc;obtain⟨j,hj⟩:=S4 s.nd (.v (SE.val ⟨T,9,b,cap,[s.row]⟩)) E;refine⟨j,_,hj,XB ..,rfl,rfl,?_⟩;rw[Oe,Auc hn,tEq.2 rfl];rfl
  ·have hm':n∈nms K:=by
    rcases XM.1 hm with q|q
    ·exact q
    ·exact absurd (XN.1 q) hc
   obtain⟨j,t,h1,h2,h3,h4,h5⟩:=h.has n hm';refine⟨j,t,by rw[L8 hc];exact h1,ZL _ h2,h3,h4,?_⟩;rw[Oe,XE.2 (fun q=>hc (tEq.1 q).symm),cond_false,List.append_nil];exact h5
 ·intro n hm;rw[e]at hm;rw[L8 (fun q=>hm (XM.2 (.inr (by rw[q];exact List.mem_singleton_self _))))];exact h.no n fun q=>hm (XM.2 (.inl q))
theorem Grp.old{T:TypeId}{K:List Sv}{E:List (ByteArray×V)}{ss1 ss2:List SE}{t:SE}(h:Grp T K E (ss1++t::ss2))(s:Sv)(hn:s.nd∈nms K)(ht:t.rows=(Fy s.nd K).map Sv.row)(b cap:Nat):
  Grp T (K++[s]) (put E s.nd (.v (SE.val ⟨T,9,b,cap,t.rows++[s.row]⟩))) (⟨T,9,b,cap,t.rows++[s.row]⟩::(ss1++ss2)):=by
 have e:nms (K++[s])=nms K:=by rw[P9,Rz hn]
 constructor
 ·intro n hm;rw[e]at hm;by_cases hc:n=s.nd
  ·subst hc;obtain⟨j,hj⟩:=S4 s.nd (.v (SE.val ⟨T,9,b,cap,t.rows++[s.row]⟩)) E;refine⟨j,_,hj,XB ..,rfl,rfl,?_⟩;rw[Oe,tEq.2 rfl,cond_true,ZI,←ht];rfl
  ·obtain⟨j,u,h1,h2,h3,h4,h5⟩:=h.has n hm;refine⟨j,u,by rw[L8 hc];exact h1,ZL _ ?_,h3,h4,?_⟩
   ·rcases XM.1 h2 with q|q
    ·exact XM.2 (.inl q)
    ·rcases XC.1 q with q|q
     ·exfalso;subst q;obtain⟨x,l,p1,p2⟩:=Af8 hm;obtain⟨y,l',r1,r2⟩:=Af8 hn;rw[h5,p1,r1,List.map_cons,List.map_cons]at ht;injection ht with ht _
      exact hc (by rw[←p2,←r2];exact Axe ht)
     ·exact XM.2 (.inr q)
   ·rw[Oe,XE.2 (fun q=>hc (tEq.1 q).symm),cond_false,List.append_nil];exact h5
 ·intro n hm;rw[e]at hm;rw[L8 (fun q=>hm (by rw[q];exact hn))];exact h.no n hm
def fK(k:Kn)(q:Qr):List Sv:=keep (fun s=>Cc k.ms s.nd) (C8 k.l q.sv q.tg).2
noncomputable def Bh(k:Kn)(q:Qr):List Sv:=((Ii (cfN (Bx k.f k.wh)) (nms (fK k q))).flatMap fun n=>Fy n (fK k q)).take 20
theorem Alf{K:List Sv}{m:Nat}(hK:K.length≤m):∀ns:List ByteArray,(ns.flatMap fun n=>Fy n K).length≤ns.length*m
 |[]=>by simp
 |n::ns=>by
  have h1:(Fy n K).length≤m:=XI (List.length_filter_le _ _) hK;have h2:=Alf hK ns;rw[List.flatMap_cons,ZF,ZJ,Nat.add_mul];omega
end Pl
namespace Pl
def Mn(K:List Sv):Prop:=K.Pairwise fun a b=>slt b.nd a.nd=false
theorem Avc{l:List Sv}(h:Cz Sv.lt l=true):Mn l:=by
 rw[Mn,List.pairwise_iff_getElem];intro i j hi hj hij;have:=Ra Sv.lt_trans h j i hj hij;rcases Sv.lt_iff.1 this with q|⟨q,_⟩
 ·exact W6 q
 ·rw[q];exact Fj _
theorem Mn.filter{K:List Sv}(h:Mn K)(p:Sv→Bool):Mn (K.filter p):=List.Pairwise.filter p h
theorem Mn.take{K:List Sv}(h:Mn K)(n:Nat):Mn (K.take n):=h.sublist (List.take_sublist _ _)
theorem Ahy{α:Type}{cf:α→α→Int}{d:List α}{x:α}(h:x∈Ii cf d):x∈d:=(List.mergeSort_perm d _).mem_iff.1 h
theorem Aad{α:Type}{cf:α→α→Int}{d:List α}:(Ii cf d).length=d.length:=(List.mergeSort_perm d _).length_eq
theorem Aes{k:Kn}{q:Qr}{s:Sv}(h:s∈Bh k q):s∈k.l∧Cc k.ms s.nd=false∧Sv.sought q.sv q.tg s=true:=by
 unfold Bh at h;have h:=List.mem_of_mem_take h;obtain⟨n,_,h2⟩:=List.mem_flatMap.1 h;have h3:=(List.mem_filter.1 h2).1;obtain⟨h4,h5⟩:=List.mem_filter.1 h3;have h6:s∈k.l∧Sv.sought q.sv q.tg s=true:=by
  unfold C8 at h4
  repeat' split at h4
  all_goals first
   |(simp at h4;done)
   |exact List.mem_filter.1 h4
 exact⟨h6.1,by simpa using h5,h6.2⟩
theorem Amj(k:Kn)(q:Qr):(Bh k q).length≤20:=by unfold Bh;rw[ZM];omega
theorem Afc{k:Kn}(h:k.err=0):lab k.here.data.toList=true∧Ei k.l=0∧F6 k.ms=0∧k.wh.length≤20∧k.f.err=0∧Cp (k.wh.map fun w=>w.pl.err)=0:=by
 unfold Kn.err at h;cases h0:lab k.here.data.toList with
 |false=>rw[h0]at h;exact absurd h (by decide:¬(1:Int)=0)
 |true=>
  rw[h0]at h;simp only[Bool.not_true,cond_false]at h;by_cases h1:Ei k.l≠0
  ·rw[if_pos h1]at h;exact absurd h h1
  rw[if_neg h1]at h;by_cases h2:F6 k.ms≠0
  ·rw[if_pos h2]at h;exact absurd h h2
  rw[if_neg h2]at h;by_cases h3:20<k.wh.length
  ·rw[if_pos h3]at h;exact absurd h (by decide)
  rw[if_neg h3]at h;by_cases h4:k.f.err≠0
  ·rw[if_pos h4]at h;exact absurd h h4
  rw[if_neg h4]at h;exact⟨rfl,by simpa using h1,by simpa using h2,by omega,by simpa using h4,h⟩
theorem Av6{l:List Sv}(h:Ei l=0):∀s∈l,s.err=0:=fun s hs=>by
 obtain⟨i,hi,e⟩:=List.getElem_of_mem hs;rw[←e];exact(Jo h).2.1 i hi
end Pl
namespace Pl
theorem L3:Ao ⟨#[]⟩=0:=by decide+kernel
theorem V0:em ⟨#[]⟩=true:=by simp[em]
theorem Rw{r:Rr}(h1:Ao r.nm=0)(h2:Fk r.ty=true)(h3:wIn r.ls 0 2147483647=true)(h4:r.un=true)(h5:wIn r.ad 0 4294967295=true)(h6:wIn r.pt 0 65535=true)(h7:r.tx.size≤200)(h8:Ao r.tg=0):Cu r=0:=by
 unfold Cu;rw[if_neg (by simp[h1]),h2,h3,h4,h5,h6,if_neg (by omega),h8];rfl
theorem Aw7 {s : Sv} (h : s.err = 0) : lab s.nd.data.toList = true ∧ lab s.id.data.toList = true ∧ wIn s.ad 0 4294967295 = true ∧ wIn s.pt 0 65535 = true := by
  unfold Sv.err at h
  repeat' split at h
  all_goals first
    | (simp at h; done)
    | (simp only [Ae2] at *
       refine ⟨by assumption, by assumption, ?_, ?_⟩ <;> unfold wIn <;> simp_all)
theorem Auw{here nm:ByteArray}{t:Int}{s:Sv}(hs:s.err=0)(hn:Ao nm=0)(ht:Fk t=true)(e:(C3 here t nm s).2=0):Cu (C3 here t nm s).1=0:=by
 obtain⟨b1,b2,b3,b4⟩:=Aw7 hs;have w0:∀b:Int,0≤b→wIn 0 0 b=true:=fun b hb=>by unfold wIn;simp[hb]
 have hz:(⟨#[]⟩:ByteArray).size≤200:=by decide
 by_cases t1:t=1
 ·subst t1;rw[show C3 here 1 nm s=(⟨nm,1,0,s.ad,⟨#[]⟩,0,⟨#[]⟩⟩,0)from if_pos rfl];exact Rw hn rfl (w0 _ (by decide)) (by simp[Rr.un,V0]) b3 (w0 _ (by decide)) hz L3
 by_cases t16:t=16
 ·subst t16;rw[show C3 here 16 nm s=(⟨nm,16,0,0,s.id,0,⟨#[]⟩⟩,0)from(if_neg (by decide)).trans (if_pos rfl)];exact Rw hn rfl (w0 _ (by decide)) (by simp[Rr.un,V0]) (w0 _ (by decide)) (w0 _ (by decide)) (by have:=(Aj2 b2).2;show s.id.size≤200;omega) L3
 by_cases t33:t=33
 ·subst t33;have e0:C3 here 33 nm s=if(Ah ⟨⟨#[]⟩,⟨#[]⟩,s.nd,here⟩).2≠0 then(⟨nm,33,0,0,⟨#[]⟩,0,⟨#[]⟩⟩,(Ah ⟨⟨#[]⟩,⟨#[]⟩,s.nd,here⟩).2)
   else(⟨nm,33,0,0,⟨#[]⟩,s.pt,(Ah ⟨⟨#[]⟩,⟨#[]⟩,s.nd,here⟩).1⟩,0):=rfl
  rw[e0]at e ⊢;by_cases c:(Ah ⟨⟨#[]⟩,⟨#[]⟩,s.nd,here⟩).2=0
  ·rw[if_neg (by simpa using c)];obtain⟨p1,p2⟩:∃p,Ah ⟨⟨#[]⟩,⟨#[]⟩,s.nd,here⟩=(p,0):=⟨_,Prod.ext rfl c⟩;obtain⟨_,q2,q3⟩:=Ix p2;refine Rw hn rfl (w0 _ (by decide)) (by simp[Rr.un,V0]) (w0 _ (by decide)) b4 hz ?_;show Ao (Ah ⟨⟨#[]⟩,⟨#[]⟩,s.nd,here⟩).1=0;rw[p2,←q3];exact q2
  ·rw[if_pos c]at e;exact absurd e c
 ·exfalso;simp[Fk,t1,t16,t33]at ht
structure Aer(x:List Rr×Int×Int):Prop where
 co:x.2.1=0∨x.2.1=3
 len:x.1.length≤20
 rs:∀r∈x.1,Cu r=0
theorem Ar8{k:Kn}{q:Qr}{t:Int}{nm:ByteArray}{F:List Sv}(hn:Ao nm=0)(ht:Fk t=true)(hF:F.length≤20)(hs:∀s∈F,s.err=0):Aer (Jx k q t nm F):=by
 unfold Jx;by_cases h1:Cp (F.map fun s=>(C3 k.here t nm s).2)=0
 ·rw[if_neg (by simpa using h1)];split
  ·exact⟨.inr rfl,ZU _,fun r hr=>by cases hr⟩
  ·refine⟨.inl rfl,by simpa using hF,fun r hr=>?_⟩;obtain⟨s,h2,rfl⟩:=XO.1 hr;exact Auw (hs s h2) hn ht (P5 h1 _ (List.mem_map_of_mem h2))
 ·rw[if_pos h1];exact⟨.inl rfl,ZU _,fun r hr=>by cases hr⟩
theorem As5{k:Kn}{q:Qr}{t:Int}{nm:ByteArray}(hn:Ao nm=0)(hm:F6 k.ms=0):Aer ((Jc k q t nm).1,(Jc k q t nm).2,0):=by
 unfold Jc;split
 ·exact⟨.inr rfl,ZU _,fun r hr=>by cases hr⟩
 ·split
  ·exact⟨.inl rfl,ZU _,fun r hr=>by cases hr⟩
  ·rename_i t1;have t1:t=1:=by simpa using t1
   split
   ·rename_i m hm1;refine⟨.inl rfl,by simp,fun r hr=>?_⟩;obtain⟨hi,e⟩:=ZB.1 hm1;have hb:m.err=0:=by rw[←e];exact(P4 hm).2.1 _ hi
    have ha:wIn m.ad 0 4294967295=true:=by
     unfold Mb.err at hb
     repeat' split at hb
     all_goals first
      |(simp at hb;done)
      |(rename_i h;rw[ZO,Ae2,Ae2]at h;unfold wIn;simp[h.2.1,h.2.2])
    rw[XN.1 hr,t1];have w0:∀b:Int,0≤b→wIn 0 0 b=true:=fun b hb=>by unfold wIn;simp[hb]
    exact Rw hn rfl (w0 _ (by decide)) (by simp[Rr.un,V0]) ha (w0 _ (by decide)) (by show(⟨#[]⟩:ByteArray).size≤200;decide) L3
   ·exact⟨.inl rfl,ZU _,fun r hr=>by cases hr⟩
theorem Aab(k:Kn)(q:Qr)(t:Int):Aer (C7 k q t (Bh k q)):=by
 have bad:∀e:Int,Aer ([],0,e):=fun e=>⟨.inl rfl,ZU _,fun r hr=>by cases hr⟩;unfold C7;by_cases h1:Jt k q t=0
 ·rw[if_neg (by simpa using h1)];by_cases h2:(Ah q).2=0
  ·rw[if_neg (by simpa using h2)];obtain⟨p1,p2⟩:∃p,Ah q=(p,0):=⟨_,Prod.ext rfl h2⟩;obtain⟨_,q2,q3⟩:=Ix p2;have hn:Ao (Ah q).1=0:=by rw[p2,←q3];exact q2
   have hk:Fk t=true∧k.err=0:=by
    unfold Jt at h1;split at h1
    ·rename_i h;exact absurd h1 h
    ·split at h1
     ·cases h1
     ·rename_i h;exact⟨by simpa using h,h1⟩
   have hi:=Afc hk.2;split
   ·exact⟨.inr rfl,ZU _,fun r hr=>by cases hr⟩
   ·split
    ·exact As5 hn hi.2.2.1
    ·exact Ar8 hn hk.1 (Amj k q) fun s hs=>Av6 hi.2.1 s (Aes hs).1
  ·rw[if_pos h2];exact bad _
 ·rw[if_pos h1];exact bad _
end Pl
end Go.Proofs.YtbnocibpoghfhaaGreatDoor

namespace Go.Proofs.YtbnocibpoghfhaaGreatDoor
open Go.RowKit Pl
theorem Ahl(cl:Bool)(l:List Sv)(f:FuncId)(caps:List V)(hcaps:∀u∈caps,Cl u)(p:Sv→Bool)(hl:l.length≤1000)(hf:∀x∈l,Fun Tryz.prog f (.c (.agg (Sv.row x))::caps.map .c) [.c (.v (.bool (p x)))]):
  Fun Tryz.prog 120 [.c (.sl cl (l.map Sv.row)),.c (.clo f caps)] [.c (.v (.int .i64 (at_ p l)))]:=by
 refine Ar Fd rfl ?_;refine G0 ?_;rw[ZE];(refine⟨[],none,{k:Nat//k≤l.length∧∀j,(h:j<l.length)→j<k→p l[j]=false},[0,1,7],fun⟨k,hk,h0⟩=>[(8,.v (.int .i64 k))],[],fun⟨k,hk,h0⟩=>[],fun⟨k,hk,h0⟩=>l.length-k,trivial,fun _=>⟨trivial,fun _=>⟨⟨0,by omega,fun j _ h=>by omega⟩,tI,Af _ _,tI,Ae _ _⟩⟩,fun⟨k,hk,h0⟩=>?_⟩);refine G0 ?_;(refine Aa (fun h=>?_) (fun h=>?_)<;>rw[h])
 ·have hlt:k<l.length:=(by have:=ZV h;omega);refine G0 ?_;refine⟨k,_,rfl,Ad hlt,?_⟩;refine G0 ?_;(refine .inl ⟨_,_,false,[],aI,hf _ (ZK hlt),Ab,nI,?_⟩);refine G1 ?_;intro gg;(refine Aa (fun h2=>?_) (fun h2=>?_)<;>rw[h2])
  ·refine G0 ?_;rw[Vq hlt h0 h2];(exact⟨[],aI⟩)
  ·refine G0 ?_;(exact⟨none,trivial,fun _=>⟨⟨k+1,by omega,up1 (p:=fun j h=>p l[j]=false) h0 (fun _=>h2)⟩,by show l.length-(k+1)<l.length-k;omega,tI,tI,tI,tI⟩⟩)
 ·have hge:¬k<l.length:=(by have:=ZW h;omega);refine G0 ?_;rw[Ad9 (p:=p) (l:=l) (fun i hi=>h0 i hi (by omega))];(exact⟨[],aI⟩)
theorem Ac7(l:List Sv)(f:FuncId)(caps:List V)(hcaps:∀u∈caps,Cl u)(p:Sv→Bool)(hl:l.length≤1000)(hf:∀x∈l,Fun Tryz.prog f (.c (.agg (Sv.row x))::caps.map .c) [.c (.v (.bool (p x)))]):
  Fun Tryz.prog 95 [.o 39 9 (l.map Sv.row),.c (.clo f caps)] [.o 39 9 ((keep p l).map Sv.row)]:=by
 refine Ar E8 rfl ?_;refine G0 ?_;(refine .inl ⟨_,_,true,[],aI,Ahl false l f caps hcaps p hl hf,(fun _=>fI),nI,?_⟩);rcases Ajp (p:=p) (l:=l)with⟨h1,h2⟩|⟨k,hk,h1,h2,h3⟩
 ·rw[h1,Pl.keep_all (p:=p) (l:=l) h2];refine G1 ?_;intro gg;(exact⟨[0],aI⟩)
 ·rw[h1];refine G1 ?_;intro gg;(refine⟨[],none,{q:List Sv×Nat×Nat//Ju p l q.1 q.2.1 q.2.2},[0,1,36,37,39,40,41],fun⟨⟨l',i,j⟩,hm⟩=>[(5,.v (.int .i64 i)),(6,.v (.int .i64 j))],[],fun⟨⟨l',i,j⟩,hm⟩=>[(0,⟨0,39,9,l'.map Sv.row⟩)],fun⟨⟨l',i,j⟩,hm⟩=>l.length-j,trivial,fun _=>⟨trivial,fun _=>⟨⟨(l,k,k+1),Ju.start hk h2 h3⟩,tI,Af _ _,tI,Ae _ _⟩⟩,fun⟨⟨l',i,j⟩,hm⟩=>?_⟩);refine G0 ?_;have hm:Ju p l l' i j:=hm;have hlen:l'.length=l.length:=hm.len;(refine Aa (fun h=>?_) (fun h=>?_)<;>rw[h])
  ·have hlt:j<l'.length:=by have:=ZV h;simpa using this
   refine G0 ?_;refine⟨j,_,rfl,Ad hlt,?_⟩;refine G1 ?_;intro gg;have hj:j<l.length:=by omega
   have hx:l'[j]=l[j]:=hm.behind j hj (ZT _);rw[hx];(refine .inl ⟨_,_,false,[],aI,hf _ (ZK hj),Ab,nI,?_⟩);refine G1 ?_;intro gg;(refine Aa (fun h4=>?_) (fun h4=>?_)<;>rw[h4])
   ·have h4':p l[j]=false:=Dr h4;have hi:i<l'.length:=by have:=hm.ij;omega
    refine G0 ?_;refine⟨i,_,rfl,Ad hi,?_⟩;refine G0 ?_;have e:(l'.map Sv.row).set i (Sv.row l[j])=(l'.set i l[j]).map Sv.row:=List.map_set.symm;exact⟨none,trivial,fun gr=>⟨⟨(l'.set i l[j],i+1,j+1),hm.stays hj h4'⟩,by show l.length-(j+1)<l.length-j;omega,tI,tI,⟨congrArg (fun r=>some (Ent.mk 0 39 9 r)) e,trivial⟩,tI⟩⟩
   ·have h4':p l[j]=true:=Bw h4;refine G0 ?_;(exact⟨none,trivial,fun _=>⟨⟨(l',i,j+1),hm.gone hj h4'⟩,by show l.length-(j+1)<l.length-j;omega,tI,tI,tI,tI⟩⟩)
  ·have hge:¬j<l'.length:=by have:=ZW h;simpa using this
   have hi:i≤l'.length:=by have:=hm.ij;have:=hm.jl;omega
   refine G0 ?_;refine⟨1,i,(l'.map Sv.row).length,rfl,⟨_,rfl⟩,rfl,by simpa using hi,ZT _,?_⟩;refine G0 ?_;refine⟨by simpa using hi,ZT _,?_⟩;refine G0 ?_;refine⟨0,0,i,rfl,rfl,⟨_,rfl⟩,ZU _,?_,rfl,rfl,fun g=>?_⟩
   ·show i≤((l'.map Sv.row).take i++List.replicate ((l'.map Sv.row).length-i) _++(l'.map Sv.row).drop (l'.map Sv.row).length).length;simp only[ZF,ZM,ZE,List.length_replicate];omega
   refine G0 ?_;refine⟨[0],Afr rfl rfl rfl rfl rfl Dy ?_⟩;show((l'.map Sv.row).take i++List.replicate ((l'.map Sv.row).length-i) _++(l'.map Sv.row).drop (l'.map Sv.row).length).take i=(keep p l).map Sv.row;rw[ZS,List.take_append_of_le_length (by simp;omega),List.take_take,Nat.min_self,←hm.fin (by omega),List.map_take]
open Go
theorem Aji(k:Kn)(q:Qr)(t:Int)(nm:ByteArray)(s:Sv)(hl:k.ms.length≤1000)(hm:Aj9 (Mb.cf s.nd) k.ms):Fun Tryz.prog 96 [.c (.agg s.row),.c (.rptr [.rptr (k.ask q t nm) 0] 0)] [.c (.v (.bool (Cc k.ms s.nd)))]:=by
 refine Ar Of rfl ?_;refine G1 ?_;intro gg;(refine .inl ⟨_,_,false,[],.same (V5 k q t nm 0) (.same (As rfl) (.nil _)),Ahq k q t nm s.nd hl hm,Ab,nI,?_⟩);refine G1 ?_;intro gg;(exact⟨[],aI⟩)
theorem Asy{l:List Sv}{a b:ByteArray}(h:Ei l=0):(C8 l a b).2.length≤40:=by
 have:=(Jo h).1;unfold C8
 repeat' split
 all_goals first
  |exact ZU _
  |exact XI (Np l a b) this
theorem An7{l:List Int}(h:Cp l=0):∀e∈l,e=0:=by
 induction l with
 |nil=>intro e he;cases he
 |cons a l ih=>
  have h:(if a≠0 then a else Cp l)=0:=h;split at h
  ·rename_i ha;exact absurd h ha
  ·rename_i ha;intro e he;rcases XC.1 he with rfl|he
   ·simpa using ha
   ·exact ih h e he
set_option maxHeartbeats 2000000 in
theorem Akl(k:Kn)(q:Qr)(t:Int)(nm:ByteArray)(hk:k.In)(hq:q.ok)(he:k.err=0):Fun Tryz.prog 52 [.c (.rptr (k.ask q t nm) 0)] [.o 39 9 ((Bh k q).map Sv.row)]:=by
 obtain⟨i1,i2,i3,i4,i5,i6⟩:=Afc he;have hms:=At9 he;have hF:=Asy (a:=q.sv) (b:=q.tg) i2;have hD:=Ac7 (C8 k.l q.sv q.tg).2 96 [.rptr [.rptr (k.ask q t nm) 0] 0] (fun u hu=>by rw[XN.1 hu];exact Amc fun v hv=>by rw[XN.1 hv];exact V5 k q t nm 0) (fun s=>Cc k.ms s.nd) (by omega) (fun x hx=>Aji k q t nm x (by omega) (hms.2 x.nd));have hfK:fK k q=Pl.keep (fun s=>Cc k.ms s.nd) (C8 k.l q.sv q.tg).2:=rfl;have hKl:(fK k q).length≤40:=by rw[hfK];exact XI (List.length_filter_le _ _) hF
 refine Ar Pm rfl ?_;refine G1 ?_;intro gg;(refine .inl ⟨_,_,false,[],aI,Ajs k.l q.sv q.tg hk.ll hk.lo hq.1 hq.2.1,Ab,nI,?_⟩);refine G1 ?_;intro gg;refine .inl ⟨_,_,true,[432],?_,hD,(fun _=>fI),nI,?_⟩
 ·exact Avj rfl Dy (by decide) (by decide) (.borc (Asa rfl rfl rfl (fun v hv=>by rw[XN.1 hv];exact V5 k q t nm 0) (by decide) Alq) (.nil _))
 rw[←hfK];generalize hK:fK k q=K at *;(refine goI ?_;repeat (intro gg;refine goI ?_));revert gg;intro gm;have hMn:Mn (C8 k.l q.sv q.tg).2:=by
  unfold C8
  repeat' split
  all_goals first
   |exact List.Pairwise.nil
   |exact(Avc (Jo i2).2.2).filter _
 (refine⟨[(6,96,9,1)],none,{p:Nat×Nat×List (ByteArray×V)×List SE//p.1≤K.length∧Grp 39 (K.take p.1) p.2.2.1 p.2.2.2},[1,5,34,35],fun⟨⟨i,g,E,ss⟩,hi,hG⟩=>[(6,.own 96 g),(36,.v (.int .i64 (i:Int)))],[16,512],fun⟨⟨i,g,E,ss⟩,hi,hG⟩=>[(96,⟨g,.t 9,1,(nms (K.take i)).map Dg⟩),(528,⟨gm,.q (J2 (ents E) ss),0,[]⟩)],fun⟨⟨i,g,E,ss⟩,hi,hG⟩=>K.length-i,(by exact⟨rfl,by decide,(fun _ _ _ _ h=>by cases h),trivial⟩),fun gs=>⟨trivial,fun _=>⟨⟨(0,gs 96,[],[]),ZU _,Grp.nil _⟩,tI,tI,tI,tI⟩⟩,fun⟨⟨i,g,E,ss⟩,hi,hG⟩=>?_⟩);simp only at hi hG;have hnl:=Alj (K.take i);rw[ZM]at hnl;have hnl2:((nms (K.take i)).map Dg).length≤40:=by rw[ZE];omega
 refine G0 ?_;simp only[ZE];by_cases c:i<K.length
 ·rw[show decide ((i:Int)<(K.length:Int))=true from ZX (by omega)];refine G0 ?_;refine⟨i,_,rfl,Ad c,?_⟩;refine G1 ?_;intro gg;have hMi:Mn (K.take i++[K[i]]):=by
   have:Mn (K.take (i+1)):=by
    rw[hfK];exact(hMn.filter _).take _
   rw[XT,ZC c]at this;exact this
  have et:K.take (i+1)=K.take i++[K[i]]:=by rw[XT,ZC c];rfl
  by_cases hm:K[i].nd∈nms (K.take i)
  ·obtain⟨j,u,h1,h2,h3,h4,h5⟩:=hG.has _ hm;obtain⟨x,l',p1,p2⟩:=Af8 hm;have hu0:u.rows.length≠0:=by rw[h5,p1];simp
   have hu4:u.rows.length≤40:=by
    rw[h5,ZE];have:(Fy K[i].nd (K.take i)).length≤(K.take i).length:=List.length_filter_le _ _;rw[ZM]at this;omega
   have hu9:u.rows≠[]:=fun e=>hu0 (by rw[e];rfl);have hur:∀row∈u.rows,∀v∈row,Cl v:=by rw[h5];exact Dy
   obtain⟨ss1,ss2,rfl⟩:=List.append_of_mem h2;have en:nms (K.take (i+1))=nms (K.take i):=by rw[et,P9,Rz hm]
   refine⟨_,Nb _ _,some (j,.v u.val),(D8 _ _ _).trans (by rw[h1]),?_⟩;refine G0 ?_;rw[show((u.rows.length:Int)==0)=false from ZG.2 (by omega)];refine G0 ?_;refine⟨_,Nb _ _,some (j,.v u.val),(D8 _ _ _).trans (by rw[h1]),?_⟩;refine G1 ?_;intro gg;refine⟨_,ss1,u,ss2,rfl,rfl,rfl,rfl,h4,h3,by decide,by decide,by decide,lI,lI,?_⟩;refine G1 ?_;intro gg;refine⟨⟨trivial,rfl,rfl,trivial,trivial,trivial,trivial,trivial,trivial,trivial⟩,?_⟩;refine G0 ?_;refine⟨Pl.ents E,ss1++ss2,some (j,.v u.val),39,rfl,(D8 _ _ _).trans (by rw[h1]),?_⟩;refine G0 ?_;refine⟨?_,?_,by decide,fun b cap=>?_⟩
   ·show u.rows++[Sv.row K[i]]≠[];simp
   ·show∀row∈u.rows++[Sv.row K[i]],∀v∈row,Cl v;rw[h5];exact Oi Dy (K1 rfl)
   refine G0 ?_;have e:=Za E K[i].nd (.v (SE.val ⟨39,9,b,cap,u.rows++[K[i].row]⟩));rw[h1]at e;have hG':Grp 39 (K.take (i+1)) (put E K[i].nd (.v (SE.val ⟨39,9,b,cap,u.rows++[K[i].row]⟩))) (⟨39,9,b,cap,u.rows++[K[i].row]⟩::(ss1++ss2)):=by rw[et];exact hG.old K[i] hm h5 b cap
   (exact⟨none,trivial,fun gr=>⟨⟨(i+1,g,_,_),Nat.succ_le_of_lt c,hG'⟩,by show K.length-(i+1)<K.length-i;omega,tI,tI,⟨congrArg (fun r=>some (Ent.mk g (.t 9) 1 (List.map Dg r))) en.symm,congrArg (fun x=>some (Ent.mk gm (.q (J2 x (⟨39,9,b,cap,u.rows++[K[i].row]⟩::(ss1++ss2)))) 0 [])) e,trivial⟩,tI⟩⟩)
  ·have hl:=hG.no _ hm;have en:nms (K.take (i+1))=nms (K.take i)++[K[i].nd]:=by rw[et,P9,N3 hm]
   have enr:(nms (K.take i)).map Dg++[Dg K[i].nd]=(nms (K.take (i+1))).map Dg:=by rw[en,ZI];rfl
   refine⟨_,Nb _ _,none,(D8 _ _ _).trans (by rw[hl]),?_⟩;refine G1 ?_;intro gg;refine⟨lI,lI,?_⟩;refine G1 ?_;intro gg;revert gg;intro g2;refine⟨_,Nb _ _,none,(D8 _ _ _).trans (by rw[hl]),?_⟩;refine G1 ?_;intro gg;refine⟨lI,lI,?_⟩;refine G1 ?_;intro gg;refine⟨⟨trivial,rfl,rfl,trivial,trivial,trivial,trivial,trivial,trivial,trivial⟩,?_⟩;refine G0 ?_;refine⟨Pl.ents E,ss,none,39,rfl,(D8 _ _ _).trans (by rw[hl]),?_⟩;refine G0 ?_;refine⟨?_,?_,by decide,fun b cap=>?_⟩
   ·show [Sv.row K[i]]≠[];simp
   ·show∀row∈[Sv.row K[i]],∀v∈row,Cl v;exact K1 rfl
   refine G0 ?_;have e:=Za E K[i].nd (.v (SE.val ⟨39,9,b,cap,[K[i].row]⟩));rw[hl]at e;have hG':Grp 39 (K.take (i+1)) (put E K[i].nd (.v (SE.val ⟨39,9,b,cap,[K[i].row]⟩))) (⟨39,9,b,cap,[K[i].row]⟩::ss):=by rw[et];exact hG.new K[i] hm b cap
   (exact⟨none,trivial,fun gr=>⟨⟨(i+1,g2,_,_),Nat.succ_le_of_lt c,hG'⟩,by show K.length-(i+1)<K.length-i;omega,tI,tI,⟨congrArg (fun r=>some (Ent.mk g2 (.t 9) 1 r)) enr,congrArg (fun x=>some (Ent.mk gm (.q (J2 x (⟨39,9,b,cap,[K[i].row]⟩::ss))) 0 [])) e,trivial⟩,tI⟩⟩)
 ·rw[show decide ((i:Int)<(K.length:Int))=false from ZY (by omega)];obtain rfl:i=K.length:=by omega
  rw[XF]at hG hnl hnl2;have hS:=Ant k.f k.wh (nms K) hk.wl (by omega);have hz:Hg k.f k.wh (nms K)=0:=by
   rw[Us (by omega) i5];exact Dm fun j hj=>An7 i6 _ (List.mem_map_of_mem (f:=fun w:Wh=>w.pl.err) (ZK hj))
  rw[hz,Agh hz]at hS;rw[XF];refine G0 ?_;(refine .inl ⟨_,_,true,[],aI,hS,(fun _=>fI),nI,?_⟩);refine G1 ?_;intro gg;have hf:=fun n (hn:n∈Ii (cfN (Bx k.f k.wh)) (nms K))=>hG.has n (Ahy hn);have hfd:Bh k q=((Ii (cfN (Bx k.f k.wh)) (nms K)).flatMap fun n=>Fy n K).take 20:=by unfold Bh;rw[hK]
  have hNl:(Ii (cfN (Bx k.f k.wh)) (nms K)).length≤40:=by rw[Aad];omega
  generalize Ii (cfN (Bx k.f k.wh)) (nms K)=N at *;have hfl:=fun i=>Alf hKl (N.take i);(refine⟨[(9,144,39,9)],none,{p:Nat×Nat//p.1≤N.length},[5,75,76],fun⟨⟨i,g⟩,hi⟩=>[(9,.own 144 g),(77,.v (.int .i64 (i:Int)))],[528,1152],fun⟨⟨i,g⟩,hi⟩=>[(144,⟨g,.t 39,9,((N.take i).flatMap fun n=>Fy n K).map Sv.row⟩)],fun⟨⟨i,g⟩,hi⟩=>N.length-i,(by exact⟨rfl,by decide,(fun _ _ _ _ h=>by cases h),trivial⟩),fun gs=>⟨trivial,fun _=>⟨⟨(0,gs 144),ZU _⟩,tI,tI,tI,tI⟩⟩,fun⟨⟨i,g⟩,hi⟩=>?_⟩);simp only at hi;have h16:((N.take i).flatMap fun n=>Fy n K).length≤1600:=by
   have:=hfl i;rw[ZM]at this;refine XI this (XI (XG 40 (Nat.min_le_right i N.length)) ?_);omega
  refine G0 ?_;simp only[ZE];by_cases c:i<N.length
  ·rw[show decide ((i:Int)<(N.length:Int))=true from ZX (by omega)];obtain⟨j,u,h1,h2,h3,h4,h5⟩:=hf N[i] (ZK c);have hu4:u.rows.length≤40:=by
    rw[h5,ZE];have:(Fy N[i] K).length≤K.length:=List.length_filter_le _ _;omega
   have er:((N.take i).flatMap fun n=>Fy n K).map Sv.row++u.rows=((N.take (i+1)).flatMap fun n=>Fy n K).map Sv.row:=by
    rw[XT,ZC c,Option.toList_some,List.flatMap_append,ZI,h5];simp
   refine G0 ?_;refine⟨i,_,rfl,Ad c,?_⟩;refine G0 ?_;refine⟨_,Nb _ _,some (j,.v u.val),(D8 _ _ _).trans (by rw[h1]),?_⟩;refine G0 ?_;refine⟨Pl.ents E,ss,u,rfl,h2,rfl,rfl,rfl,h4,?_⟩;refine G0 ?_;refine⟨lI,lI,?_⟩;refine G1 ?_;intro gg;(exact⟨none,trivial,fun gr=>⟨⟨(i+1,gg),Nat.succ_le_of_lt c⟩,by show N.length-(i+1)<N.length-i;omega,tI,tI,⟨congrArg (fun r=>some (Ent.mk gg (.t 39) 9 r)) er,trivial⟩,tI⟩⟩)
  ·rw[show decide ((i:Int)<(N.length:Int))=false from ZY (by omega)];obtain rfl:i=N.length:=by omega
   rw[XF];rw[XF]at h16;rw[hfd];generalize N.flatMap (fun n=>Fy n K)=A at *;refine G0 ?_;rw[ZE];have hm:min (A.length:Int) 20=((min A.length 20:Nat):Int):=by omega
   rw[hm];refine G0 ?_;refine⟨0,0,min A.length 20,rfl,rfl,⟨.i64,rfl⟩,ZU _,Nat.min_le_left _ _,rfl,rfl,fun g2=>?_⟩;refine G0 ?_;refine⟨[144],Afr rfl rfl rfl rfl rfl Dy ?_⟩;show(A.map Sv.row).take (min A.length 20)=(A.take 20).map Sv.row;rw[←List.map_take];congr 1;by_cases h:A.length≤20
   ·rw[Nat.min_eq_left h,XF,List.take_of_length_le h]
   ·rw[Nat.min_eq_right (by omega)]
theorem Ank(k:Kn)(q:Qr)(t:Int)(nm:ByteArray)(hk:k.In)(hq:q.ok)(he:k.err=0):Fun Tryz.prog 52 [.c (.rptr (k.ask q t nm) 0)] [.c (.sl false ((Bh k q).map Sv.row))]:=Fun.frz (Akl k q t nm hk hq he)

namespace Pl
theorem Vm{l:List Sv}{a b:ByteArray}(h1:Ei l=0)(h2:lab a.data.toList=true)(h3:Sp b=true):C8 l a b=(0,Dc l a b):=by simp[C8,h1,h2,h3]
theorem Aa4:Sp ⟨#[]⟩=true:=by simp[Sp,emp]
end Pl



namespace Pl
end Pl
theorem Ax1{k:Kn}(hk:k.In)(q:Qr):∀s∈Bh k q,s.nd.size≤9223372036854775807:=fun s hs=>(hk.lo s (Aes hs).1).1
theorem Ag2{k:Kn}{q:Qr}{t:Int}(h:Jt k q t=0):k.err=0:=by
 unfold Jt at h;split at h
 ·rename_i h1;exact absurd h h1
 ·split at h
  ·exact absurd h (by decide)
  ·exact h
theorem Mj(k:Kn)(q:Qr)(t:Int)(hk:k.In)(hq:q.ok):
  Fun Tryz.prog 8 [.c (.agg q.row),.c (.v (.int .i64 t)),.c (.v (.string k.here)),.c (.sl false (k.l.map Sv.row)),.c (.sl false (k.ms.map Mb.row)),.c (.agg k.f.row),.c (.sl false (k.wh.map Wh.row))]
   [.o 42 7 ((C7 k q t (Bh k q)).1.map Rr.row),.c (.v (.int .i64 (C7 k q t (Bh k q)).2.1)),.c (.v (.int .i64 (C7 k q t (Bh k q)).2.2))]:=
 Ah4 k q t (Bh k q) hk hq (by have:=Amj k q;omega) (Ax1 hk q) fun h=>Ank k q t _ hk hq (Ag2 h)
namespace Pl
def sv0:Sv:=⟨⟨#[110]⟩,⟨#[105]⟩,⟨#[115]⟩,⟨#[]⟩,9,0,true,1,false⟩
def kn0:Kn:=⟨⟨#[99]⟩,[sv0],[],⟨0,0,0,0,0⟩,[]⟩
def qr0:Qr:=⟨⟨#[115]⟩,⟨#[]⟩,⟨#[]⟩,⟨#[]⟩⟩
def nm0:ByteArray:=⟨#[115,46,115,101,114,118,105,99,101,46,109,101,115,104]⟩
theorem Am0:qr0.err=0:=by
 simp only[Qr.err,Qr.c1,Qr.c2,Qr.c3,Qr.all,qr0,List.any_cons,List.any_nil,em,Z2,Gx,ByteArray.toList_eq,Br,Cm,Bc];decide
theorem Aqk:qr0.pr=nm0:=by
 apply Sd;simp only[Qr.pr,Qr.base,qr0,em,ByteArray.toList_eq];simp[Abl,Jl,dot,Bc,nm0]
theorem At0:A5 nm0=[⟨#[115]⟩,Br,Bc]:=by
 simp only[A5,ByteArray.toList_eq];rw[if_neg (by simp[nm0])];decide
theorem Aqj:Ao nm0=0:=by
 simp only[Ao,At0];decide
theorem Ao8:Ah qr0=(nm0,0):=by
 rw[Hy Am0 (by rw[Aqk];exact Aqj),Aqk]
theorem Av7:emp ⟨#[]⟩=true:=beq_self_eq_true _
theorem Atv:sv0.err=0:=by
 have hl1:lab (⟨#[110]⟩:ByteArray).data.toList=true:=by decide+kernel
 have hl2:lab (⟨#[105]⟩:ByteArray).data.toList=true:=by decide+kernel
 have hl3:lab (⟨#[115]⟩:ByteArray).data.toList=true:=by decide+kernel
 simp[Sv.err,sv0,hl1,hl2,hl3,Aa4,wi]
theorem Arw:Ei [sv0]=0:=by simp[Ei,ckL,Bm,Cz,Atv]
theorem Atn:kn0.err=0:=by
 have hl:lab (⟨#[99]⟩:ByteArray).data.toList=true:=by decide+kernel
 have hp:(⟨0,0,0,0,0⟩:Pc).err=0:=by decide+kernel
 have hm:F6 []=0:=by decide+kernel
 simp[Kn.err,kn0,hl,Arw,hm,hp,Cp]
theorem Ai8:(C8 kn0.l qr0.sv qr0.tg).2=[sv0]:=by
 have hs:Sv.sought ⟨#[115]⟩ ⟨#[]⟩ sv0=true:=by
  show(((⟨#[115]⟩:ByteArray).toList==(⟨#[115]⟩:ByteArray).toList)&&((emp ⟨#[]⟩||_)&&true))=true;rw[Av7,beq_self_eq_true];rfl
 show(C8 [sv0] ⟨#[115]⟩ ⟨#[]⟩).2=[sv0];rw[Vm Arw (by decide+kernel) Aa4];simp[Dc,hs]
theorem Aux:Bh kn0 qr0=[sv0]:=by
 have h1:fK kn0 qr0=[sv0]:=by unfold fK;rw[Ai8];rfl
 have h2:nms [sv0]=[sv0.nd]:=rfl;have h3:Fy sv0.nd [sv0]=[sv0]:=by unfold Fy;simp
 unfold Bh;rw[h1,h2,show Ii (cfN (Bx kn0.f kn0.wh)) [sv0.nd]=[sv0.nd]from List.mergeSort_singleton _,List.flatMap_cons,h3];rfl
theorem Apn:C7 kn0 qr0 1 (Bh kn0 qr0)=([⟨nm0,1,0,9,⟨#[]⟩,0,⟨#[]⟩⟩],0,0):=by
 have hE:Jt kn0 qr0 1=0:=by unfold Jt;rw[if_neg (by rw[Am0];decide),if_neg (by decide),Atn]
 have hc:em qr0.ce=true:=V0;have hn:em qr0.nd=true:=V0;have hf:(C8 kn0.l qr0.sv ⟨#[]⟩).2=[sv0]:=Ai8;unfold C7;rw[hE,if_neg (by decide),Ao8,if_neg (by decide),hc,if_neg (by decide),hn,if_neg (by decide),Aux];unfold Jx;rw[hf];rfl
theorem Avy:kn0.In:=⟨by decide,by decide,fun x hx=>by rw[XN.1 hx];exact⟨by decide,by decide,by decide,by decide⟩,by decide,fun x hx=>(by cases hx),by decide⟩
end Pl
theorem Lh:Fun Tryz.prog 10 [] [.c (.v (.bool true))]:=by
 have h:=Mj kn0 qr0 1 Avy ⟨by decide,by decide,by decide,by decide⟩;rw[Apn]at h;refine Ar Lu rfl ?_;refine G1 ?_;intro gg;(refine .inl ⟨_,_,true,[],aI,h,(fun _=>fI),nI,?_⟩);refine G1 ?_;intro gg;refine⟨0,_,rfl,rfl,?_⟩;refine G0 ?_;refine⟨0,_,rfl,rfl,?_⟩;refine G0 ?_;rw[show(nm0.toList==(⟨#[115,46,115,101,114,118,105,99,101,46,109,101,115,104]⟩:ByteArray).toList)=true from beq_self_eq_true _];refine G0 ?_;(exact⟨[],aI⟩)
theorem Apv(row:List V)(h:Qp [.s,.s,.s,.s] row):∃q:Qr,row=q.row∧q.ok:=by
 obtain⟨u0,_,rfl,f0,h⟩:=Ap h;obtain⟨u1,_,rfl,f1,h⟩:=Ap h;obtain⟨u2,_,rfl,f2,h⟩:=Ap h;obtain⟨u3,_,rfl,f3,h⟩:=Ap h;obtain rfl:=Ln h;obtain⟨a,rfl,ha⟩:=K3 f0;obtain⟨b,rfl,hb⟩:=K3 f1;obtain⟨c,rfl,hc⟩:=K3 f2;obtain⟨d,rfl,hd⟩:=K3 f3;exact⟨⟨a,b,c,d⟩,rfl,ha,hb,hc,hd⟩
theorem Abr(us:List V)(h:Qp [.s,.l [.s,.s,.s,.s,.i,.i,.b,.i,.b],.l [.s,.i,.i,.i,.b],.i,.i,.i,.i,.i,.l [.s,.i,.i,.i,.i,.i]] us):∃k:Kn,us=k.row∧k.In:=by
 obtain⟨u0,_,rfl,f0,h⟩:=Ap h;obtain⟨u1,_,rfl,f1,h⟩:=Ap h;obtain⟨u2,_,rfl,f2,h⟩:=Ap h;obtain⟨u3,_,rfl,f3,h⟩:=Ap h;obtain⟨u4,_,rfl,f4,h⟩:=Ap h;obtain⟨u5,_,rfl,f5,h⟩:=Ap h;obtain⟨u6,_,rfl,f6,h⟩:=Ap h;obtain⟨u7,_,rfl,f7,h⟩:=Ap h;obtain⟨u8,_,rfl,f8,h⟩:=Ap h;obtain rfl:=Ln h;obtain⟨s,rfl,hs⟩:=K3 f0;obtain⟨l,rfl,hl,ho⟩:=Vh Awq f1;obtain⟨m,rfl,hm,hmo⟩:=Vh Aww f2;obtain⟨a,rfl,_⟩:=Ge f3;obtain⟨b,rfl,_⟩:=Ge f4;obtain⟨c,rfl,_⟩:=Ge f5;obtain⟨d,rfl,_⟩:=Ge f6;obtain⟨e,rfl,_⟩:=Ge f7;obtain⟨w,rfl,hw,_⟩:=Vh Awz f8;exact⟨⟨s,l,m,⟨a,b,c,d,e⟩,w⟩,rfl,⟨hs,hl,ho,hm,hmo,hw⟩⟩
end Go.Proofs.YtbnocibpoghfhaaGreatDoor
