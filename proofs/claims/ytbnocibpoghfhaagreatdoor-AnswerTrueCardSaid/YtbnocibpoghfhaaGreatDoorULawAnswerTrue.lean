/- AnswerTrue: whatever query and knowledge come in, each record was registered, by a node that is not dead nor gone, under the name and the tag that were asked for; no condition. -/
import Derived.Test.YtbnocibpoghfhaaGreatDoorCards
import Derived.Test.YtbnocibpoghfhaaGreatDoorTie
import Derived.Deep.DeepHandedRow
import Derived.Deep.DeepWitnessRowRef
import Derived.Lib.LaidU8
import Derived.Lib.LaidIn
import Derived.Test.YtbnocibpoghfhaaGreatDoorUa
import Derived.Test.YtbnocibpoghfhaaGreatDoorUb
set_option linter.unusedSimpArgs false
set_option linter.unusedVariables false
namespace Go.Proofs.YtbnocibpoghfhaaGreatDoor.answerTrue
open Go.Joins Go.ChangeShapes Go.WideShapes Go.ChangeAt Go.RowKit Pl
def Gi(k:Kn)(q:Qr)(a:Int)(s:Sv):Bool:=(s.ad==a)&&((s.nm.toList==q.sv.toList)&&((emp q.tg||(s.tg.toList==q.tg.toList))&&(s.ps&&(!s.gn&& !Cc k.ms s.nd))))
theorem Ar6{k:Kn}{q:Qr}{s:Sv}(h:s∈Bh k q):s∈k.l∧Gi k q s.ad s=true:=by
 obtain⟨h1,h2,h3⟩:=Aes h;refine⟨h1,?_⟩;unfold Sv.sought at h3;simp only[ZO]at h3;obtain⟨a,b,c,d⟩:=h3;unfold Gi;rw[a,b,c,d,h2,beq_self_eq_true];rfl
theorem Ai7{k:Kn}{q:Qr}{a:Int}{j:Nat}(hj:j<k.l.length):(k.l.take (j+1)).any (Gi k q a)=((k.l.take j).any (Gi k q a)||Gi k q a k.l[j]):=by
 rw[XT,ZC hj,List.any_append];simp
theorem Aus{k:Kn}{q:Qr}(he:(C7 k q 1 (Bh k q)).2.2=0)(hn:em q.nd=true)(i:Nat)(hi:i<(C7 k q 1 (Bh k q)).1.length):k.l.any (Gi k q ((C7 k q 1 (Bh k q)).1[i]).ad)=true:=by
 have key:∀X:List Rr×Int×Int,(∀r∈X.1,∃s∈Bh k q,r.ad=s.ad)→∀(hi:i<X.1.length),k.l.any (Gi k q (X.1[i]).ad)=true:=fun X h hi=>by
  obtain⟨s,h1,h2⟩:=h _ (ZK hi);obtain⟨h3,h4⟩:=Ar6 h1;rw[h2];exact List.any_eq_true.2 ⟨s,h3,h4⟩
 refine key _ ?_ hi;have none:∀(n e:Int),∀r∈(([],n,e):List Rr×Int×Int).1,∃s∈Bh k q,r.ad=s.ad:=fun n e r hr=>by cases hr
 unfold C7;rw[hn];split
 ·exact none _ _
 ·split
  ·exact none _ _
  ·split
   ·exact none _ _
   ·rw[if_neg (by decide)];unfold Jx;split
    ·exact none _ _
    ·split
     ·exact none _ _
     ·intro r hr;obtain⟨s,h1,rfl⟩:=XO.1 hr;exact⟨s,h1,rfl⟩
theorem Asc{k:Kn}{q:Qr}{t:Int}(he:(C7 k q t (Bh k q)).2.2=0)(h:em q.ce=false∧(q.ce.toList==k.here.toList)=false):(C7 k q t (Bh k q)).1.length=0:=by
 unfold C7;by_cases z1:Jt k q t≠0
 ·rw[if_pos z1];rfl
 rw[if_neg z1];by_cases z2:(Ah q).2≠0
 ·rw[if_pos z2];rfl
 rw[if_neg z2,if_pos h];rfl
set_option maxHeartbeats 4000000 in
theorem law(q:Qr)(k:Kn)(hq:q.ok)(hk:k.In):Fun Tryz.prog 4 [.c (.agg q.row),.c (.agg k.row)] [.c (.v (.bool true))]:=by
 have h1:=Mj k q 1 hk hq;have hl:=(Aab k q 1).len;have hE:(C7 k q 1 (Bh k q)).2.2=0→k.err=0:=fun h=>by
  unfold C7 at h;split at h
  ·rename_i z;exact absurd h z
  ·rename_i z;exact Ag2 (by simpa using z)
 have hF:=Asc (k:=k) (q:=q) (t:=1);have hR:=Aus (k:=k) (q:=q);generalize C7 k q 1 (Bh k q)=X at *;have hEc:em q.ce=(q.ce.toList==(⟨#[]⟩:ByteArray).toList):=rfl;have hEn:em q.nd=(q.nd.toList==(⟨#[]⟩:ByteArray).toList):=rfl;refine Akt (rcD:=H8 [true,true,true,true,false] Gv) My (by kernel_rfl) rfl ?_;(refine goI ?_;repeat (intro gg;refine goI ?_));(refine .inl ⟨_,_,false,[],aI,Lh,Ab,nI,?_⟩);refine G1 ?_;intro gg;(refine .inl ⟨_,_,false,[],aI,h1,Ab,nI,?_⟩);refine G1 ?_;intro gg;by_cases c1:X.2.2=0;rotate_left
 ·rw[show(X.2.2 !=0)=true from ZZ.2 c1];refine G0 ?_;(exact⟨[],aI⟩)
 rw[c1];refine G0 ?_;rw[←hEn];by_cases c2:em q.nd=true;rotate_left
 ·rw[XE.2 c2];refine G0 ?_;(exact⟨[],aI⟩)
 rw[c2];have hRR:=hR c1 c2;have hke:=hE c1;obtain⟨i1,i2,i3,i4,i5,i6⟩:=Afc hke;have hat:=fun name=>Mb.at_eq (P4 i3).2.2 name;have hms:=(P4 i3).1;have hls:=(Jo i2).1;have haw:∀name,Cc k.ms name=(bif hit (Mb.cf name) k.ms then(match k.ms[low (Mb.cf name) k.ms]? with
  |some m=>decide (3≤m.st)
  |none=>false)else false):=fun _=>rfl
 refine G0 ?_;(refine⟨Unit,[2,3,5],fun _=>[],[32,48,432],fun _=>[],?_,fun _=>?_⟩)
 ·refine G0 ?_;rw[←hEc];by_cases d2:em q.ce=true
  ·rw[d2];refine G0 ?_;(exact⟨(),tI,tI,tI,tI⟩)
  ·rw[XE.2 d2];refine G0 ?_;by_cases d3:(q.ce.toList==k.here.toList)=true
   ·rw[d3];refine G0 ?_;(exact⟨(),tI,tI,tI,tI⟩)
   ·rw[XE.2 d3];have hx:X.1=[]:=List.length_eq_zero_iff.1 (hF c1 ⟨XE.2 d2,XE.2 d3⟩);rw[hx];refine G0 ?_;(exact⟨[],aI⟩)
 clear hF hR hE;refine G0 ?_;(refine⟨[],none,{i:Nat//i≤X.1.length},[2,3,5],fun⟨i,hi⟩=>[(8,.v (.int .i64 (i:Int)))],[32,48,432],fun⟨i,hi⟩=>[],fun⟨i,hi⟩=>X.1.length-i,trivial,fun _=>⟨trivial,fun _=>⟨⟨0,ZU _⟩,tI,Af _ _,tI,Ae _ _⟩⟩,fun⟨i,hi⟩=>?_⟩);refine G0 ?_;refine Aa (fun h=>?_) (fun h=>?_)<;>rw[h];rotate_left
 ·refine G0 ?_;rw[show decide ((({gen:=_,T:=_,sz:=_,rows:=X.1.map Rr.row} :Ent).rows.length:Int)≤20)=true from ZX (by show((X.1.map Rr.row).length:Int)≤20;rw[ZE];omega)];(exact⟨[],aI⟩)
 have ci:i<X.1.length:=by have:=ZV h;simpa using this
 have hRi:=hRR i ci;refine G0 ?_;(refine⟨[],none,{j:Nat//j≤k.l.length},[2,3,5,8],fun⟨j,hj⟩=>[(9,.v (.bool ((k.l.take j).any (Gi k q (X.1[i]).ad)))),(10,.v (.int .i64 (j:Int)))],[32,48,432],fun⟨j,hj⟩=>[],fun⟨j,hj⟩=>k.l.length-j,trivial,fun _=>⟨trivial,fun _=>⟨⟨0,ZU _⟩,tI,Af _ _,tI,Ae _ _⟩⟩,fun⟨j,hj⟩=>?_⟩);refine G0 ?_;simp only[ZE];by_cases cj:j<k.l.length;rotate_left
 ·obtain rfl:j=k.l.length:=by omega
  rw[show decide ((k.l.length:Int)<(k.l.length:Int))=false from ZY (by omega)];rw[XF,hRi];refine G0 ?_;(exact⟨none,trivial,fun _=>⟨⟨i+1,Nat.succ_le_of_lt ci⟩,by show X.1.length-(i+1)<X.1.length-i;omega,tI,tI,tI,tI⟩⟩)
 rw[show decide ((j:Int)<(k.l.length:Int))=true from ZX (by omega)];refine G0 ?_;refine⟨j,_,rfl,Ad cj,?_⟩;refine G1 ?_;intro gg;(refine .inl ⟨_,_,false,[],aI,Akn false k.ms k.l[j].nd (by omega),Ab,nI,?_⟩);rw[hat k.l[j].nd];have hw:=haw k.l[j].nd;refine G1 ?_;intro gg;by_cases f:(k.l.take j).any (Gi k q (X.1[i]).ad)=true
 ·rw[f];have hn:=Ai7 (k:=k) (q:=q) (a:=(X.1[i]).ad) cj;rw[f,Bool.true_or]at hn;refine G0 ?_;(exact⟨none,trivial,fun gr=>⟨⟨j+1,Nat.succ_le_of_lt cj⟩,by show k.l.length-(j+1)<k.l.length-j;omega,hxI hn,hxI hn,hxI hn,hxI hn⟩⟩)
 rw[XE.2 f];have hn:=Ai7 (k:=k) (q:=q) (a:=(X.1[i]).ad) cj;rw[XE.2 f,Bool.false_or]at hn;refine G0 ?_;refine⟨i,_,rfl,Ad ci,?_⟩;refine G0 ?_;by_cases a1:k.l[j].ad=(X.1[i]).ad;rotate_left
 ·have hn:(k.l.take (j+1)).any (Gi k q (X.1[i]).ad)=false:=by rw[hn];unfold Gi;rw[ZG.2 a1];rfl
  rw[ZG.2 a1];refine G0 ?_;(exact⟨none,trivial,fun gr=>⟨⟨j+1,Nat.succ_le_of_lt cj⟩,by show k.l.length-(j+1)<k.l.length-j;omega,hxI hn,hxI hn,hxI hn,hxI hn⟩⟩)
 rw[show(k.l[j].ad==(X.1[i]).ad)=true from ZR.2 a1];refine G0 ?_;have hEt:emp q.tg=(q.tg.toList==(⟨#[]⟩:ByteArray).toList):=rfl;cases a2:(k.l[j].nm.toList==q.sv.toList)with
 |false=>
  try rw[a2]
  have hn:(k.l.take (j+1)).any (Gi k q (X.1[i]).ad)=false:=by rw[hn];unfold Gi;simp[a1,a2]
  refine G0 ?_;(exact⟨none,trivial,fun gr=>⟨⟨j+1,Nat.succ_le_of_lt cj⟩,by show k.l.length-(j+1)<k.l.length-j;omega,hxI hn,hxI hn,hxI hn,hxI hn⟩⟩)
 |true=>
  try rw[a2]
  refine G0 ?_;rw[←hEt];cases a3:emp q.tg with
  |false=>
   try rw[a3]
   refine G0 ?_;cases a4:(k.l[j].tg.toList==q.tg.toList)with
   |false=>
    try rw[a4]
    have hn:(k.l.take (j+1)).any (Gi k q (X.1[i]).ad)=false:=by rw[hn];unfold Gi;simp[a1,a2,a3,a4]
    refine G0 ?_;(exact⟨none,trivial,fun gr=>⟨⟨j+1,Nat.succ_le_of_lt cj⟩,by show k.l.length-(j+1)<k.l.length-j;omega,hxI hn,hxI hn,hxI hn,hxI hn⟩⟩)
   |true=>
    try rw[a4]
    refine G0 ?_;cases a5:k.l[j].ps with
    |false=>
     try rw[a5]
     have hn:(k.l.take (j+1)).any (Gi k q (X.1[i]).ad)=false:=by rw[hn];unfold Gi;simp[a1,a2,a3,a4,a5]
     refine G0 ?_;(exact⟨none,trivial,fun gr=>⟨⟨j+1,Nat.succ_le_of_lt cj⟩,by show k.l.length-(j+1)<k.l.length-j;omega,hxI hn,hxI hn,hxI hn,hxI hn⟩⟩)
    |true=>
     try rw[a5]
     refine G0 ?_;cases a6:k.l[j].gn with
     |false=>
      try rw[a6]
      refine G0 ?_;by_cases a7:hit (Mb.cf k.l[j].nd) k.ms=true;rotate_left
      ·have hv:Cc k.ms k.l[j].nd=false:=by rw[hw,XE.2 a7];rfl
       rw[if_neg a7];have hn:(k.l.take (j+1)).any (Gi k q (X.1[i]).ad)=true:=by rw[hn];unfold Gi;simp[a1,a2,a3,a4,a5,a6,hv]
       refine G0 ?_;(exact⟨none,trivial,fun gr=>⟨⟨j+1,Nat.succ_le_of_lt cj⟩,by show k.l.length-(j+1)<k.l.length-j;omega,hxI hn,hxI hn,hxI hn,hxI hn⟩⟩)
      have hlt:=Mx a7;rw[a7,cond_true,ZC hlt]at hw;change Cc k.ms k.l[j].nd=decide (3≤(k.ms[low (Mb.cf k.l[j].nd) k.ms]).st)at hw;rw[if_pos a7];rw[show decide ((low (Mb.cf k.l[j].nd) k.ms:Int)<0)=false from ZY (by omega)];refine G0 ?_;refine⟨low (Mb.cf k.l[j].nd) k.ms,_,rfl,Ad hlt,?_⟩;refine G0 ?_;by_cases a8:3≤(k.ms[low (Mb.cf k.l[j].nd) k.ms]).st
      ·have hv:Cc k.ms k.l[j].nd=true:=by rw[hw];exact ZX a8
       rw[show decide ((k.ms[low (Mb.cf k.l[j].nd) k.ms]).st<3)=false from ZY (by omega)];have hn:(k.l.take (j+1)).any (Gi k q (X.1[i]).ad)=false:=by rw[hn];unfold Gi;simp[a1,a2,a3,a4,a5,a6,hv]
       refine G0 ?_;(exact⟨none,trivial,fun gr=>⟨⟨j+1,Nat.succ_le_of_lt cj⟩,by show k.l.length-(j+1)<k.l.length-j;omega,hxI hn,hxI hn,hxI hn,hxI hn⟩⟩)
      ·have hv:Cc k.ms k.l[j].nd=false:=by rw[hw];exact ZY a8
       rw[show decide ((k.ms[low (Mb.cf k.l[j].nd) k.ms]).st<3)=true from ZX (by omega)];have hn:(k.l.take (j+1)).any (Gi k q (X.1[i]).ad)=true:=by rw[hn];unfold Gi;simp[a1,a2,a3,a4,a5,a6,hv]
       refine G0 ?_;(exact⟨none,trivial,fun gr=>⟨⟨j+1,Nat.succ_le_of_lt cj⟩,by show k.l.length-(j+1)<k.l.length-j;omega,hxI hn,hxI hn,hxI hn,hxI hn⟩⟩)
     |true=>
      try rw[a6]
      have hn:(k.l.take (j+1)).any (Gi k q (X.1[i]).ad)=false:=by rw[hn];unfold Gi;simp[a1,a2,a3,a4,a5,a6]
      refine G0 ?_;(exact⟨none,trivial,fun gr=>⟨⟨j+1,Nat.succ_le_of_lt cj⟩,by show k.l.length-(j+1)<k.l.length-j;omega,hxI hn,hxI hn,hxI hn,hxI hn⟩⟩)
  |true=>
   try rw[a3]
   refine G0 ?_;cases a5:k.l[j].ps with
   |false=>
    try rw[a5]
    have hn:(k.l.take (j+1)).any (Gi k q (X.1[i]).ad)=false:=by rw[hn];unfold Gi;simp[a1,a2,a3,a5]
    refine G0 ?_;(exact⟨none,trivial,fun gr=>⟨⟨j+1,Nat.succ_le_of_lt cj⟩,by show k.l.length-(j+1)<k.l.length-j;omega,hxI hn,hxI hn,hxI hn,hxI hn⟩⟩)
   |true=>
    try rw[a5]
    refine G0 ?_;cases a6:k.l[j].gn with
    |false=>
     try rw[a6]
     refine G0 ?_;by_cases a7:hit (Mb.cf k.l[j].nd) k.ms=true;rotate_left
     ·have hv:Cc k.ms k.l[j].nd=false:=by rw[hw,XE.2 a7];rfl
      rw[if_neg a7];have hn:(k.l.take (j+1)).any (Gi k q (X.1[i]).ad)=true:=by rw[hn];unfold Gi;simp[a1,a2,a3,a5,a6,hv]
      refine G0 ?_;(exact⟨none,trivial,fun gr=>⟨⟨j+1,Nat.succ_le_of_lt cj⟩,by show k.l.length-(j+1)<k.l.length-j;omega,hxI hn,hxI hn,hxI hn,hxI hn⟩⟩)
     have hlt:=Mx a7;rw[a7,cond_true,ZC hlt]at hw;change Cc k.ms k.l[j].nd=decide (3≤(k.ms[low (Mb.cf k.l[j].nd) k.ms]).st)at hw;rw[if_pos a7];rw[show decide ((low (Mb.cf k.l[j].nd) k.ms:Int)<0)=false from ZY (by omega)];refine G0 ?_;refine⟨low (Mb.cf k.l[j].nd) k.ms,_,rfl,Ad hlt,?_⟩;refine G0 ?_;by_cases a8:3≤(k.ms[low (Mb.cf k.l[j].nd) k.ms]).st
     ·have hv:Cc k.ms k.l[j].nd=true:=by rw[hw];exact ZX a8
      rw[show decide ((k.ms[low (Mb.cf k.l[j].nd) k.ms]).st<3)=false from ZY (by omega)];have hn:(k.l.take (j+1)).any (Gi k q (X.1[i]).ad)=false:=by rw[hn];unfold Gi;simp[a1,a2,a3,a5,a6,hv]
      refine G0 ?_;(exact⟨none,trivial,fun gr=>⟨⟨j+1,Nat.succ_le_of_lt cj⟩,by show k.l.length-(j+1)<k.l.length-j;omega,hxI hn,hxI hn,hxI hn,hxI hn⟩⟩)
     ·have hv:Cc k.ms k.l[j].nd=false:=by rw[hw];exact ZY a8
      rw[show decide ((k.ms[low (Mb.cf k.l[j].nd) k.ms]).st<3)=true from ZX (by omega)];have hn:(k.l.take (j+1)).any (Gi k q (X.1[i]).ad)=true:=by rw[hn];unfold Gi;simp[a1,a2,a3,a5,a6,hv]
      refine G0 ?_;(exact⟨none,trivial,fun gr=>⟨⟨j+1,Nat.succ_le_of_lt cj⟩,by show k.l.length-(j+1)<k.l.length-j;omega,hxI hn,hxI hn,hxI hn,hxI hn⟩⟩)
    |true=>
     try rw[a6]
     have hn:(k.l.take (j+1)).any (Gi k q (X.1[i]).ad)=false:=by rw[hn];unfold Gi;simp[a1,a2,a3,a5,a6]
     refine G0 ?_;(exact⟨none,trivial,fun gr=>⟨⟨j+1,Nat.succ_le_of_lt cj⟩,by show k.l.length-(j+1)<k.l.length-j;omega,hxI hn,hxI hn,hxI hn,hxI hn⟩⟩)
theorem own:ownKnob Tryz.prog.godebug=none:=by kernel_rfl
noncomputable def Bs(os:Os):World:=
 let w0:=World.holding Tryz.prog os ⟨#[], #[],[]⟩
 let put (h:Array Obj) (g:Nat) (cs:Array Value):Array Obj:=h.modify g fun
  |.cells _ t frozen=>.cells cs t frozen
  |o=>o
 let h1:=put w0.heap 1 (Lib.firstTab.map fun z=>Value.int .u8 z).toArray
 let h2:=put h1 2 ((List.range 16).flatMap fun i=>[Value.int .u8 (Lib.accLo i),Value.int .u8 (Lib.accHi i)]).toArray
 {w0 with heap:=h2}
set_option maxRecDepth 100000 in
theorem H6(os:Os)(args:Array Value):laidMet Tryz.prog Rows.answerTrueRow.laid ((Bs os).forCall (fun _ _=>0) ⟨#[],args,[]⟩).memory:=
 (LaidIn.of_run (l := [("unicode/utf8.acceptRanges", Rows.laid_unicode_utf8_acceptRanges), ("unicode/utf8.first", Rows.laid_unicode_utf8_first)]) [2, 1] 8 (by kernel_rfl) (by kernel_rfl) (by kernel_rfl) (by kernel_rfl)).met
set_option maxRecDepth 100000 in
theorem Et(os:Os){H:Type}(enc:TypeId×Value→H):
  (OpenSpec.ofChange Rows.answerTrueSpec).preRow enc Tryz.prog Tryz.f4 Rows.answerTrueRow.domain false Rows.answerTrueRow.laid ((Bs os).forCall (fun _ _=>0) ⟨#[], #[.agg #[.string ⟨#[]⟩,.string ⟨#[]⟩,.string ⟨#[]⟩,.string ⟨#[]⟩],.agg #[.string ⟨#[]⟩,.slice none 0 0,.slice none 0 0,.int .i64 0,.int .i64 0,.int .i64 0,.int .i64 0,.int .i64 0,.slice none 0 0]],[]⟩).memory #[.agg #[.string ⟨#[]⟩,.string ⟨#[]⟩,.string ⟨#[]⟩,.string ⟨#[]⟩],.agg #[.string ⟨#[]⟩,.slice none 0 0,.slice none 0 0,.int .i64 0,.int .i64 0,.int .i64 0,.int .i64 0,.int .i64 0,.slice none 0 0]]:=by
 have hw:(DataW.whole enc Tryz.prog ((Bs os).forCall (fun _ _=>0) ⟨#[], #[.agg #[.string ⟨#[]⟩,.string ⟨#[]⟩,.string ⟨#[]⟩,.string ⟨#[]⟩],.agg #[.string ⟨#[]⟩,.slice none 0 0,.slice none 0 0,.int .i64 0,.int .i64 0,.int .i64 0,.int .i64 0,.int .i64 0,.slice none 0 0]],[]⟩).memory Tryz.f4.params.toList Rows.answerTrueSpec.vars false (#[.agg #[.string ⟨#[]⟩,.string ⟨#[]⟩,.string ⟨#[]⟩,.string ⟨#[]⟩],.agg #[.string ⟨#[]⟩,.slice none 0 0,.slice none 0 0,.int .i64 0,.int .i64 0,.int .i64 0,.int .i64 0,.int .i64 0,.slice none 0 0]]:Array Value).toList 8).map (fun x=>(x.1,x.2.1))=
   some ([.agg [.lit (.string []),.lit (.string []),.lit (.string []),.lit (.string [])],.agg [.lit (.string []),.nil,.nil,.agg [.lit (.int .i64 0),.lit (.int .i64 0),.lit (.int .i64 0),.lit (.int .i64 0),.lit (.int .i64 0)],.nil]],[]):=by kernel_rfl
 obtain⟨⟨x1,x2,x3⟩,hx,hx1⟩:=Option.map_eq_some_iff.1 hw;simp only[Prod.mk.injEq]at hx1;obtain⟨rfl,rfl⟩:=hx1;exact OpenSpec.preRow_of_cond 8 hx (by kernel_rfl) (fun k hk=>by cases hk) (by kernel_rfl) (H6 os _)
set_option maxRecDepth 100000 in
theorem Oq(os:Os)(started:os.Started)(H:Type)(enc:TypeId×Value→H)(F:Stop.Interp):
  ReturnsInHanded {} Tryz.checked os 4 .any ((OpenSpec.ofChange Rows.answerTrueSpec).preRow enc Tryz.prog Tryz.f4 Rows.answerTrueRow.domain false Rows.answerTrueRow.laid) (((OpenSpec.ofChange Rows.answerTrueSpec).at F).post enc Tryz.prog Tryz.f4 false true false false):=by
 refine returnsInHanded_of_row (C:=Tryz.checked) (s:=(OpenSpec.ofChange Rows.answerTrueSpec)) own started (by kernel_rfl) Tryz.func4
  (witness_row_atRef (enc:=enc) (C:=Tryz.checked) false (Bs os) #[.agg #[.string ⟨#[]⟩,.string ⟨#[]⟩,.string ⟨#[]⟩,.string ⟨#[]⟩],.agg #[.string ⟨#[]⟩,.slice none 0 0,.slice none 0 0,.int .i64 0,.int .i64 0,.int .i64 0,.int .i64 0,.int .i64 0,.slice none 0 0]] rfl (by kernel_rfl) (by kernel_rfl) (by kernel_rfl) (Et os enc)) ?_
 intro W base args ds gs before hval0 hW _ hcond _ hL _ _;have hval:∀(j:Nat) t v,Tryz.f4.params[j]? =some t→args[j]? =some v→Value.okWide Tryz.prog W .any base t v:=hval0;have hW':=hW;obtain⟨p,q,hA0,hV,rfl,hfz,hnd⟩:=hW;have hA:DataW.TrodAll enc Tryz.prog W 0 (fun _=>true) true Tryz.f4.params.toList args.toList ds p:=hA0;rw[Tryz.params4]at hA hval;obtain⟨v0,vs0,d0,ds0,p0,q0,hargs,rfl,rfl,h0,r0⟩:=trodAll_cons hA;obtain⟨v1,vs1,d1,ds1,p1,q1,rfl,rfl,rfl,h1,r1⟩:=trodAll_cons r0;obtain⟨rfl,rfl,rfl⟩:=trodAll_nil r1;obtain rfl:args= #[v0,v1]:=by cases args;simp_all
 obtain⟨rfl,rfl⟩:=trodVars_none hV;obtain⟨u0,f0,rv0⟩:=Gf (dp:=5) Tryz.underlying23 (by kernel_rfl) (hval 0 23 v0 rfl rfl) h0;obtain⟨m0,rfl,mw0⟩:=Apv _ f0;obtain⟨u1,f1,rv1⟩:=Gf (dp:=5) Tryz.underlying30 (by kernel_rfl) (hval 1 30 v1 rfl rfl) h1;obtain⟨m1,rfl,mw1⟩:=Abr _ f1;clear hA0 hval0;refine(Are (us:=[_,_]) (xs:=[_,_]) (w:=W) (law m0 m1 mw0 mw1) ⟨rv0,rv1,trivial⟩).mono fun e W' ⟨he,hg⟩=>?_;subst he;exact⟨_,rfl,Qt hW' (by kernel_rfl) (by rw[Tryz.params4];exact ZV (by kernel_rfl)) rfl rfl (by kernel_rfl) Tryz.underlying4 hg⟩
theorem Aev:Rows.AnswerTrueSaid:=
 OpenClaim.holds_of_cond 4 Tryz.f4 rfl rfl rfl rfl rfl rfl rfl ⟨rfl,rfl,rfl,rfl,rfl⟩ rfl rfl rfl rfl rfl (by kernel_rfl) Tryz.func4 (by kernel_rfl)
  (ZV (by kernel_rfl)) (by unfold Func.isWrapper;first|(rw[if_pos (by decide+kernel)];kernel_rfl)|(rw[if_neg (by decide+kernel)];exact⟨rfl,rfl⟩))
  (fun os started H enc _ F=>by rw[OpenClaim.pre_eq_preRow];exact Oq os started H enc F)
theorem plain (f : FuncId) (fn : Func) (hf : Tryz.pinned.checked.prog.funcNamed "hearsay/hearsaylaw.AnswerTrue" = some f) (hfn : Tryz.pinned.checked.prog.funcs[f]? = some fn) :
  true=Tryz.pinned.checked.prog.looks []∧∀(j:Nat) t,fn.params[j]? =some t→Tryz.pinned.checked.prog.wantsStandIn t=false:=by
 obtain rfl : f = 4 := Option.some.inj ((show Tryz.prog.funcNamed "hearsay/hearsaylaw.AnswerTrue" = some 4 by kernel_rfl).symm.trans hf) |>.symm
 obtain rfl:fn=Tryz.f4:=(Option.some.inj (Tryz.func4.symm.trans hfn)).symm;refine⟨by kernel_rfl,fun j t ht=>?_⟩;rw[Tryz.params4]at ht;have hm:t=23∨t=30:=by simpa using Array.mem_of_getElem? ht
 rcases hm with rfl|rfl
 ·exact(show Tryz.prog.wantsStandIn 23=false by kernel_rfl)
 ·exact(show Tryz.prog.wantsStandIn 30=false by kernel_rfl)
theorem proved:Rows.AnswerTrueCardSaid:=
 Claim7.holds_tied_plain_at .later [] _ _ _ _ Aev (fun _ h=>by cases h) (by kernel_rfl) (fun _ h=>by cases h) answerTrue_row_tie rfl ⟨rfl,rfl⟩ (by kernel_rfl) rfl plain (by kernel_rfl)
#print axioms proved
end Go.Proofs.YtbnocibpoghfhaaGreatDoor.answerTrue
