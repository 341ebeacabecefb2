/- Texts of this claim, joined. -/
import Derived.Test.YtbnocibpoghfhaaGreatDoorYa
import Derived.Test.YtbnocibpoghfhaaGreatDoorYb
import Derived.Test.YtbnocibpoghfhaaGreatDoorYc
import Derived.Test.YtbnocibpoghfhaaGreatDoorYd
import Derived.Test.YtbnocibpoghfhaaGreatDoorYe
import Derived.Test.YtbnocibpoghfhaaGreatDoorYf
set_option linter.unusedSimpArgs false
set_option linter.unusedVariables false
namespace Go.Proofs.YtbnocibpoghfhaaGreatDoor
open Go Go.RowKit Pl
theorem Ax1{k:Kn}(hk:k.In)(q:Qr):∀s∈Bh k q,s.nd.size≤9223372036854775807:=fun s hs=>(hk.lo s (Aes hs).1).1
theorem Ag2{k:Kn}{q:Qr}{t:Int}(h:Jt k q t=0):k.err=0:=by
 unfold Jt at h;split at h
 ·rename_i h1;exact absurd h h1
 ·split at h
  ·exact absurd h (by decide)
  ·exact h
theorem Mj(k:Kn)(q:Qr)(t:Int)(hk:k.In)(hq:q.ok):
  Fun Tryz.prog 8 [.c (.agg q.row),.c (.v (.int .i64 t)),.c (.v (.string k.here)),.c (.sl false (k.l.map Sv.row)),.c (.sl false (k.ms.map Mb.row)),.c (.agg k.f.row),.c (.sl false (k.wh.map Wh.row))]
   [.o 42 7 ((C7 k q t (Bh k q)).1.map Rr.row),.c (.v (.int .i64 (C7 k q t (Bh k q)).2.1)),.c (.v (.int .i64 (C7 k q t (Bh k q)).2.2))]:=
 Ah4 k q t (Bh k q) hk hq (by have:=Amj k q;omega) (Ax1 hk q) fun h=>Ank k q t _ hk hq (Ag2 h)
theorem We(k:Kn)(s:ByteArray)(hk:k.In)(hs:s.size≤9223372036854775807):
  Fun Tryz.prog 13 [.c (.v (.string s)),.c (.v (.string k.here)),.c (.sl false (k.l.map Sv.row)),.c (.sl false (k.ms.map Mb.row)),.c (.agg k.f.row),.c (.sl false (k.wh.map Wh.row))]
   [.c (.v (.string (Eu k s (Bh k)).1)),.c (.v (.bool (Eu k s (Bh k)).2.1)),.c (.v (.int .i64 (Eu k s (Bh k)).2.2))]:=by
 refine Ano k s (Bh k) hk hs (Up s) (Ao3 k (rdP s).1 (Bh k) ?_ fun h=>Mj k _ _ hk (Ah5 h)) (Auv _ 512 (All (Ug k s)));rcases Sc s with⟨x,e,hx⟩|e
 ·rw[e];have:=(G9 hx).1.qnz;show x.qn.size≤_;omega
 ·by_cases hl:512<s.size
  ·rw[Qm hl];decide
  ·rcases e1:Od s with _|m
   ·rw[Fu hl e1];decide
   ·rw[N5 hl e1]at e ⊢;by_cases he:A4 m=0
    ·rw[if_pos he]at e;exact absurd rfl e
    ·rw[if_neg he];decide
namespace Pl
def sv0:Sv:=⟨⟨#[110]⟩,⟨#[105]⟩,⟨#[115]⟩,⟨#[]⟩,9,0,true,1,false⟩
def kn0:Kn:=⟨⟨#[99]⟩,[sv0],[],⟨0,0,0,0,0⟩,[]⟩
def qr0:Qr:=⟨⟨#[115]⟩,⟨#[]⟩,⟨#[]⟩,⟨#[]⟩⟩
def nm0:ByteArray:=⟨#[115,46,115,101,114,118,105,99,101,46,109,101,115,104]⟩
theorem Am0:qr0.err=0:=by
 simp only[Qr.err,Qr.c1,Qr.c2,Qr.c3,Qr.all,qr0,List.any_cons,List.any_nil,em,Z2,Gx,ByteArray.toList_eq,Br,Cm,Bc];decide
theorem Aqk:qr0.pr=nm0:=by
 apply Sd;simp only[Qr.pr,Qr.base,qr0,em,ByteArray.toList_eq];simp[Abl,Jl,dot,Bc,nm0]
theorem At0:A5 nm0=[⟨#[115]⟩,Br,Bc]:=by
 simp only[A5,ByteArray.toList_eq];rw[if_neg (by simp[nm0])];decide
theorem Aqj:Ao nm0=0:=by
 simp only[Ao,At0];decide
theorem Ao8:Ah qr0=(nm0,0):=by
 rw[Hy Am0 (by rw[Aqk];exact Aqj),Aqk]
theorem Av7:emp ⟨#[]⟩=true:=beq_self_eq_true _
theorem Atv:sv0.err=0:=by
 have hl1:lab (⟨#[110]⟩:ByteArray).data.toList=true:=by decide+kernel
 have hl2:lab (⟨#[105]⟩:ByteArray).data.toList=true:=by decide+kernel
 have hl3:lab (⟨#[115]⟩:ByteArray).data.toList=true:=by decide+kernel
 simp[Sv.err,sv0,hl1,hl2,hl3,Aa4,wi]
theorem Arw:Ei [sv0]=0:=by simp[Ei,ckL,Bm,Cz,Atv]
theorem Atn:kn0.err=0:=by
 have hl:lab (⟨#[99]⟩:ByteArray).data.toList=true:=by decide+kernel
 have hp:(⟨0,0,0,0,0⟩:Pc).err=0:=by decide+kernel
 have hm:F6 []=0:=by decide+kernel
 simp[Kn.err,kn0,hl,Arw,hm,hp,Cp]
theorem Ai8:(C8 kn0.l qr0.sv qr0.tg).2=[sv0]:=by
 have hs:Sv.sought ⟨#[115]⟩ ⟨#[]⟩ sv0=true:=by
  show(((⟨#[115]⟩:ByteArray).toList==(⟨#[115]⟩:ByteArray).toList)&&((emp ⟨#[]⟩||_)&&true))=true;rw[Av7,beq_self_eq_true];rfl
 show(C8 [sv0] ⟨#[115]⟩ ⟨#[]⟩).2=[sv0];rw[Vm Arw (by decide+kernel) Aa4];simp[Dc,hs]
theorem Aux:Bh kn0 qr0=[sv0]:=by
 have h1:fK kn0 qr0=[sv0]:=by unfold fK;rw[Ai8];rfl
 have h2:nms [sv0]=[sv0.nd]:=rfl;have h3:Fy sv0.nd [sv0]=[sv0]:=by unfold Fy;simp
 unfold Bh;rw[h1,h2,show Ii (cfN (Bx kn0.f kn0.wh)) [sv0.nd]=[sv0.nd]from List.mergeSort_singleton _,List.flatMap_cons,h3];rfl
theorem Apn:C7 kn0 qr0 1 (Bh kn0 qr0)=([⟨nm0,1,0,9,⟨#[]⟩,0,⟨#[]⟩⟩],0,0):=by
 have hE:Jt kn0 qr0 1=0:=by unfold Jt;rw[if_neg (by rw[Am0];decide),if_neg (by decide),Atn]
 have hc:em qr0.ce=true:=V0;have hn:em qr0.nd=true:=V0;have hf:(C8 kn0.l qr0.sv ⟨#[]⟩).2=[sv0]:=Ai8;unfold C7;rw[hE,if_neg (by decide),Ao8,if_neg (by decide),hc,if_neg (by decide),hn,if_neg (by decide),Aux];unfold Jx;rw[hf];rfl
theorem Avy:kn0.In:=⟨by decide,by decide,fun x hx=>by rw[XN.1 hx];exact⟨by decide,by decide,by decide,by decide⟩,by decide,fun x hx=>(by cases hx),by decide⟩
end Pl
theorem Lh:Fun Tryz.prog 10 [] [.c (.v (.bool true))]:=by
 have h:=Mj kn0 qr0 1 Avy ⟨by decide,by decide,by decide,by decide⟩;rw[Apn]at h;refine Ar Lu rfl ?_;refine G1 ?_;intro gg;refine .inl (cY h ?_);refine G1 ?_;intro gg;refine⟨0,_,rfl,rfl,?_⟩;refine G0 ?_;refine⟨0,_,rfl,rfl,?_⟩;refine G0 ?_;rw[show(nm0.toList==(⟨#[115,46,115,101,114,118,105,99,101,46,109,101,115,104]⟩:ByteArray).toList)=true from beq_self_eq_true _];refine G0 ?_;(exact⟨[],aI⟩)
theorem Abr(us:List V)(h:Qp [.s,.l [.s,.s,.s,.s,.i,.i,.b,.i,.b],.l [.s,.i,.i,.i,.b],.i,.i,.i,.i,.i,.l [.s,.i,.i,.i,.i,.i]] us):∃k:Kn,us=k.row∧k.In:=by
 obtain⟨u0,_,rfl,f0,h⟩:=Ap h;obtain⟨u1,_,rfl,f1,h⟩:=Ap h;obtain⟨u2,_,rfl,f2,h⟩:=Ap h;obtain⟨u3,_,rfl,f3,h⟩:=Ap h;obtain⟨u4,_,rfl,f4,h⟩:=Ap h;obtain⟨u5,_,rfl,f5,h⟩:=Ap h;obtain⟨u6,_,rfl,f6,h⟩:=Ap h;obtain⟨u7,_,rfl,f7,h⟩:=Ap h;obtain⟨u8,_,rfl,f8,h⟩:=Ap h;obtain rfl:=Ln h;obtain⟨s,rfl,hs⟩:=K3 f0;obtain⟨l,rfl,hl,ho⟩:=Vh Awq f1;obtain⟨m,rfl,hm,hmo⟩:=Vh Aww f2;obtain⟨a,rfl,_⟩:=Ge f3;obtain⟨b,rfl,_⟩:=Ge f4;obtain⟨c,rfl,_⟩:=Ge f5;obtain⟨d,rfl,_⟩:=Ge f6;obtain⟨e,rfl,_⟩:=Ge f7;obtain⟨w,rfl,hw,_⟩:=Vh Awz f8;exact⟨⟨s,l,m,⟨a,b,c,d,e⟩,w⟩,rfl,⟨hs,hl,ho,hm,hmo,hw⟩⟩
end Go.Proofs.YtbnocibpoghfhaaGreatDoor
