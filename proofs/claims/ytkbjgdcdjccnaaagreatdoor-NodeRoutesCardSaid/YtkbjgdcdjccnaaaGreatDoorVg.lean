/- Texts of this claim, joined. -/
import Derived.Test.YtkbjgdcdjccnaaaGreatDoorWAbsK
import Derived.Test.YtkbjgdcdjccnaaaGreatDoorWAbsS
import Derived.WalkKit
import Derived.StillTailTactics
import Derived.Deep.RegionHeld3
import Derived.Test.YtkbjgdcdjccnaaaGreatDoorVa
import Derived.Test.YtkbjgdcdjccnaaaGreatDoorVb
import Derived.Test.YtkbjgdcdjccnaaaGreatDoorVc
import Derived.Test.YtkbjgdcdjccnaaaGreatDoorVd
import Derived.Test.YtkbjgdcdjccnaaaGreatDoorVe
import Derived.Test.YtkbjgdcdjccnaaaGreatDoorVf
set_option linter.unusedSimpArgs false
set_option linter.unusedVariables false
namespace Go.Proofs.YtkbjgdcdjccnaaaGreatDoor
open Go Go.RowKit Pl
theorem Ame(k:Kn)(q:Qr)(t:Int)(nm:ByteArray)(s:Sv)(hl:k.ms.length≤1000)(hm:Aee (Mb.cf s.nd) k.ms):Fun Tryz.prog 251 [.c (.agg s.row),.c (.rptr [.rptr (k.ask q t nm) 0] 0)] [.c (.v (.bool (T8 k.ms s.nd)))]:=by
 refine Av Nx rfl ?_;refine G1 ?_;intro gg;(refine .inl ⟨_,_,false,[],.same (V6 k q t nm 0) (.same (A9 rfl) (.nil _)),Aiy k q t nm s.nd hl hm,Ae,nI,?_⟩);refine G1 ?_;intro gg;(exact⟨[],aI⟩)
theorem At7{l:List Sv}{a b:ByteArray}(h:D3 l=0):(Dp l a b).2.length≤40:=by
 have:=(Iz h).1;unfold Dp
 repeat' split
 all_goals first
  |exact ZU _
  |exact XI (Vm l a b) this
theorem Ax3{l:List Int}(h:D4 l=0):∀e∈l,e=0:=by
 induction l with
 |nil=>intro e he;cases he
 |cons a l ih=>
  have h:(if a≠0 then a else D4 l)=0:=h;split at h
  ·rename_i ha;exact absurd h ha
  ·rename_i ha;intro e he;rcases XC.1 he with rfl|he
   ·simpa using ha
   ·exact ih h e he
set_option maxHeartbeats 2000000 in
theorem Ake(k:Kn)(q:Qr)(t:Int)(nm:ByteArray)(hk:k.In)(hq:q.ok)(he:k.err=0):Fun Tryz.prog 209 [.c (.rptr (k.ask q t nm) 0)] [.o 77 9 ((Fo k q).map Sv.row)]:=by
 obtain⟨i1,i2,i3,i4,i5,i6⟩:=As5 he;have hms:=Axs he;have hF:=At7 (a:=q.sv) (b:=q.tg) i2;have hD:=Acp (Dp k.l q.sv q.tg).2 251 [.rptr [.rptr (k.ask q t nm) 0] 0] (fun u hu=>by rw[XN.1 hu];exact Amj fun v hv=>by rw[XN.1 hv];exact V6 k q t nm 0) (fun s=>T8 k.ms s.nd) (by omega) (fun x hx=>Ame k q t nm x (by omega) (hms.2 x.nd));have hfK:fK k q=Pl.keep (fun s=>T8 k.ms s.nd) (Dp k.l q.sv q.tg).2:=rfl;have hKl:(fK k q).length≤40:=by rw[hfK];exact XI (List.length_filter_le _ _) hF
 refine Av O3 rfl ?_;refine G1 ?_;intro gg;refine .inl (cX (Ajv k.l q.sv q.tg hk.ll hk.lo hq.1 hq.2.1) ?_);refine G1 ?_;intro gg;refine .inl ⟨_,_,true,[432],?_,hD,(fun _=>fI),nI,?_⟩
 ·exact Ath rfl B6 (by decide) (by decide) (.borc (Anm rfl rfl rfl (fun v hv=>by rw[XN.1 hv];exact V6 k q t nm 0) (by decide) Ahg) (.nil _))
 rw[←hfK];generalize hK:fK k q=K at *;(refine goI ?_;repeat (intro gg;refine goI ?_));revert gg;intro gm;have hMn:Mn (Dp k.l q.sv q.tg).2:=by
  unfold Dp
  repeat' split
  all_goals first
   |exact List.Pairwise.nil
   |exact(Bbc (Iz i2).2.2).filter _
 (refine⟨[(6,96,9,1)],none,{p:Nat×Nat×List (ByteArray×V)×List SE//p.1≤K.length∧Grp 77 (K.take p.1) p.2.2.1 p.2.2.2},[1,5,34,35],fun⟨⟨i,g,E,ss⟩,hi,hG⟩=>[(6,.own 96 g),(36,.v (.int .i64 (i:Int)))],[16,512],fun⟨⟨i,g,E,ss⟩,hi,hG⟩=>[(96,⟨g,.t 9,1,(nms (K.take i)).map M7⟩),(528,⟨gm,.q (J2 (ents E) ss),0,[]⟩)],fun⟨⟨i,g,E,ss⟩,hi,hG⟩=>K.length-i,(by exact⟨rfl,by decide,(fun _ _ _ _ h=>by cases h),trivial⟩),fun gs=>⟨trivial,fun _=>⟨⟨(0,gs 96,[],[]),ZU _,Grp.nil _⟩,tI,tI,tI,tI⟩⟩,fun⟨⟨i,g,E,ss⟩,hi,hG⟩=>?_⟩);simp only at hi hG;have hnl:=Awj (K.take i);rw[ZM]at hnl;have hnl2:((nms (K.take i)).map M7).length≤40:=by rw[ZE];omega
 refine G0 ?_;simp only[ZE];by_cases c:i<K.length
 ·rw[show decide ((i:Int)<(K.length:Int))=true from ZX (by omega)];refine G0 ?_;refine⟨i,_,rfl,Ao c,?_⟩;refine G1 ?_;intro gg;have hMi:Mn (K.take i++[K[i]]):=by
   have:Mn (K.take (i+1)):=by
    rw[hfK];exact(hMn.filter _).take _
   rw[XT,ZC c]at this;exact this
  have et:K.take (i+1)=K.take i++[K[i]]:=by rw[XT,ZC c];rfl
  by_cases hm:K[i].nd∈nms (K.take i)
  ·obtain⟨j,u,h1,h2,h3,h4,h5⟩:=hG.has _ hm;obtain⟨x,l',p1,p2⟩:=Aey hm;have hu0:u.rows.length≠0:=by rw[h5,p1];simp
   have hu4:u.rows.length≤40:=by
    rw[h5,ZE];have:(L6 K[i].nd (K.take i)).length≤(K.take i).length:=List.length_filter_le _ _;rw[ZM]at this;omega
   have hu9:u.rows≠[]:=fun e=>hu0 (by rw[e];rfl);have hur:∀row∈u.rows,∀v∈row,Cl v:=by rw[h5];exact B6
   obtain⟨ss1,ss2,rfl⟩:=List.append_of_mem h2;have en:nms (K.take (i+1))=nms (K.take i):=by rw[et,Tu,Afb hm]
   refine⟨_,N1 _ _,some (j,.v u.val),(Di _ _ _).trans (by rw[h1]),?_⟩;refine G0 ?_;rw[show((u.rows.length:Int)==0)=false from ZG.2 (by omega)];refine G0 ?_;refine⟨_,N1 _ _,some (j,.v u.val),(Di _ _ _).trans (by rw[h1]),?_⟩;refine G1 ?_;intro gg;refine⟨_,ss1,u,ss2,rfl,rfl,rfl,rfl,h4,h3,by decide,by decide,by decide,lI,lI,?_⟩;refine G1 ?_;intro gg;refine⟨⟨trivial,rfl,rfl,trivial,trivial,trivial,trivial,trivial,trivial,trivial⟩,?_⟩;refine G0 ?_;refine⟨Pl.ents E,ss1++ss2,some (j,.v u.val),77,rfl,(Di _ _ _).trans (by rw[h1]),?_⟩;refine G0 ?_;refine⟨?_,?_,by decide,fun b cap=>?_⟩
   ·show u.rows++[Sv.row K[i]]≠[];simp
   ·show∀row∈u.rows++[Sv.row K[i]],∀v∈row,Cl v;rw[h5];exact G7 B6 (Ei rfl)
   refine G0 ?_;have e:=Uu E K[i].nd (.v (SE.val ⟨77,9,b,cap,u.rows++[K[i].row]⟩));rw[h1]at e;have hG':Grp 77 (K.take (i+1)) (put E K[i].nd (.v (SE.val ⟨77,9,b,cap,u.rows++[K[i].row]⟩))) (⟨77,9,b,cap,u.rows++[K[i].row]⟩::(ss1++ss2)):=by rw[et];exact hG.old K[i] hm h5 b cap
   (exact⟨none,trivial,fun gr=>⟨⟨(i+1,g,_,_),Nat.succ_le_of_lt c,hG'⟩,by show K.length-(i+1)<K.length-i;omega,tI,tI,⟨congrArg (fun r=>some (Ent.mk g (.t 9) 1 (List.map M7 r))) en.symm,congrArg (fun x=>some (Ent.mk gm (.q (J2 x (⟨77,9,b,cap,u.rows++[K[i].row]⟩::(ss1++ss2)))) 0 [])) e,trivial⟩,tI⟩⟩)
  ·have hl:=hG.no _ hm;have en:nms (K.take (i+1))=nms (K.take i)++[K[i].nd]:=by rw[et,Tu,Aam hm]
   have enr:(nms (K.take i)).map M7++[M7 K[i].nd]=(nms (K.take (i+1))).map M7:=by rw[en,ZI];rfl
   refine⟨_,N1 _ _,none,(Di _ _ _).trans (by rw[hl]),?_⟩;refine G1 ?_;intro gg;refine⟨lI,lI,?_⟩;refine G1 ?_;intro gg;revert gg;intro g2;refine⟨_,N1 _ _,none,(Di _ _ _).trans (by rw[hl]),?_⟩;refine G1 ?_;intro gg;refine⟨lI,lI,?_⟩;refine G1 ?_;intro gg;refine⟨⟨trivial,rfl,rfl,trivial,trivial,trivial,trivial,trivial,trivial,trivial⟩,?_⟩;refine G0 ?_;refine⟨Pl.ents E,ss,none,77,rfl,(Di _ _ _).trans (by rw[hl]),?_⟩;refine G0 ?_;refine⟨?_,?_,by decide,fun b cap=>?_⟩
   ·show [Sv.row K[i]]≠[];simp
   ·show∀row∈[Sv.row K[i]],∀v∈row,Cl v;exact Ei rfl
   refine G0 ?_;have e:=Uu E K[i].nd (.v (SE.val ⟨77,9,b,cap,[K[i].row]⟩));rw[hl]at e;have hG':Grp 77 (K.take (i+1)) (put E K[i].nd (.v (SE.val ⟨77,9,b,cap,[K[i].row]⟩))) (⟨77,9,b,cap,[K[i].row]⟩::ss):=by rw[et];exact hG.new K[i] hm b cap
   (exact⟨none,trivial,fun gr=>⟨⟨(i+1,g2,_,_),Nat.succ_le_of_lt c,hG'⟩,by show K.length-(i+1)<K.length-i;omega,tI,tI,⟨congrArg (fun r=>some (Ent.mk g2 (.t 9) 1 r)) enr,congrArg (fun x=>some (Ent.mk gm (.q (J2 x (⟨77,9,b,cap,[K[i].row]⟩::ss))) 0 [])) e,trivial⟩,tI⟩⟩)
 ·rw[show decide ((i:Int)<(K.length:Int))=false from ZY (by omega)];obtain rfl:i=K.length:=by omega
  rw[XF]at hG hnl hnl2;have hS:=Aov k.f k.wh (nms K) hk.wl (by omega);have hz:G5 k.f k.wh (nms K)=0:=by
   rw[Tq (by omega) i5];exact Ba fun j hj=>Ax3 i6 _ (List.mem_map_of_mem (f:=fun w:Wh=>w.pl.err) (ZK hj))
  rw[hz,Ahr hz]at hS;rw[XF];refine G0 ?_;refine .inl (cY hS ?_);refine G1 ?_;intro gg;have hf:=fun n (hn:n∈N0 (cfN (Gm k.f k.wh)) (nms K))=>hG.has n (Asr hn);have hfd:Fo k q=((N0 (cfN (Gm k.f k.wh)) (nms K)).flatMap fun n=>L6 n K).take 20:=by unfold Fo;rw[hK]
  have hNl:(N0 (cfN (Gm k.f k.wh)) (nms K)).length≤40:=by rw[Ar8];omega
  generalize N0 (cfN (Gm k.f k.wh)) (nms K)=N at *;have hfl:=fun i=>Ang hKl (N.take i);(refine⟨[(9,144,77,9)],none,{p:Nat×Nat//p.1≤N.length},[5,75,76],fun⟨⟨i,g⟩,hi⟩=>[(9,.own 144 g),(77,.v (.int .i64 (i:Int)))],[528,1152],fun⟨⟨i,g⟩,hi⟩=>[(144,⟨g,.t 77,9,((N.take i).flatMap fun n=>L6 n K).map Sv.row⟩)],fun⟨⟨i,g⟩,hi⟩=>N.length-i,(by exact⟨rfl,by decide,(fun _ _ _ _ h=>by cases h),trivial⟩),fun gs=>⟨trivial,fun _=>⟨⟨(0,gs 144),ZU _⟩,tI,tI,tI,tI⟩⟩,fun⟨⟨i,g⟩,hi⟩=>?_⟩);simp only at hi;have h16:((N.take i).flatMap fun n=>L6 n K).length≤1600:=by
   have:=hfl i;rw[ZM]at this;refine XI this (XI (XG 40 (Nat.min_le_right i N.length)) ?_);omega
  refine G0 ?_;simp only[ZE];by_cases c:i<N.length
  ·rw[show decide ((i:Int)<(N.length:Int))=true from ZX (by omega)];obtain⟨j,u,h1,h2,h3,h4,h5⟩:=hf N[i] (ZK c);have hu4:u.rows.length≤40:=by
    rw[h5,ZE];have:(L6 N[i] K).length≤K.length:=List.length_filter_le _ _;omega
   have er:((N.take i).flatMap fun n=>L6 n K).map Sv.row++u.rows=((N.take (i+1)).flatMap fun n=>L6 n K).map Sv.row:=by
    rw[XT,ZC c,Option.toList_some,List.flatMap_append,ZI,h5];simp
   refine G0 ?_;refine⟨i,_,rfl,Ao c,?_⟩;refine G0 ?_;refine⟨_,N1 _ _,some (j,.v u.val),(Di _ _ _).trans (by rw[h1]),?_⟩;refine G0 ?_;refine⟨Pl.ents E,ss,u,rfl,h2,rfl,rfl,rfl,h4,?_⟩;refine G0 ?_;refine⟨lI,lI,?_⟩;refine G1 ?_;intro gg;(exact⟨none,trivial,fun gr=>⟨⟨(i+1,gg),Nat.succ_le_of_lt c⟩,by show N.length-(i+1)<N.length-i;omega,tI,tI,⟨congrArg (fun r=>some (Ent.mk gg (.t 77) 9 r)) er,trivial⟩,tI⟩⟩)
  ·rw[show decide ((i:Int)<(N.length:Int))=false from ZY (by omega)];obtain rfl:i=N.length:=by omega
   rw[XF];rw[XF]at h16;rw[hfd];generalize N.flatMap (fun n=>L6 n K)=A at *;refine G0 ?_;rw[ZE];have hm:min (A.length:Int) 20=((min A.length 20:Nat):Int):=by omega
   rw[hm];refine G0 ?_;refine⟨0,0,min A.length 20,rfl,rfl,⟨.i64,rfl⟩,ZU _,Nat.min_le_left _ _,rfl,rfl,fun g2=>?_⟩;refine G0 ?_;refine⟨[144],Ag8 rfl rfl rfl rfl rfl B6 ?_⟩;show(A.map Sv.row).take (min A.length 20)=(A.take 20).map Sv.row;rw[←List.map_take];congr 1;by_cases h:A.length≤20
   ·rw[Nat.min_eq_left h,XF,List.take_of_length_le h]
   ·rw[Nat.min_eq_right (by omega)]
theorem Apw(k:Kn)(q:Qr)(t:Int)(nm:ByteArray)(hk:k.In)(hq:q.ok)(he:k.err=0):Fun Tryz.prog 209 [.c (.rptr (k.ask q t nm) 0)] [.c (.sl false ((Fo k q).map Sv.row))]:=Fun.frz (Ake k q t nm hk hq he)

namespace Pl
end Pl
theorem Ajh {P : Program} {f : FuncId} {fn : Func} {code : Code} {rc : Ag} {ps rs : List Par} {rts : List RT} (hf : P.funcs[f]? = some fn) (hb : fn.body = some code) (hname : (fn.name == "runtime.NumGoroutine") = false) (hres : As P fn.ntmps code = some (D2 rc))
  (hlen:ps.length≤fn.ntmps) (hts:Ou P fn.results.toList=some rts) (h:wpv P rc (An0 rts rs) (Ry ps)):Fun P f ps rs:=by
 refine⟨⟨fn,hf,hname,by rw[hb];rfl⟩,fun w R xs hlt hp=>?_⟩;refine calls_of_wp hf hb ?_;obtain⟨G0,hrel⟩:=Vo (n:=fn.ntmps) hlt hp hlen;refine wp_mono (Dd (c:=⟨w,R,A5 ps xs,fn.ntmps,noD,G0⟩) rfl rc hres h hrel) fun e a' w' he=>?_;have fin:∀st,Azt rts rs st→Rel ⟨w,R,A5 ps xs,fn.ntmps,noD,G0⟩ st a' w'→a'.defers=[]∧∃v,(results fn a'.tmps).run P w'=.ok v w'∧∃(ys:List Value) (R':Nat→Prop),Ending.returned v=.returned (Ge ys)∧Fr (A5 ps xs) w w'∧(∀b,R b→R' b)∧
   (∀b,R' b→R b∨(b<w'.heap.size∧(A5 ps xs b∨w.heap.size≤b)))∧Jd w' R' rs ys∧(∀b,A5 rs ys b→A5 ps xs b∨w.heap.size≤b):=fun st ⟨us,gone,hG,hA⟩ ⟨R2,G,hR⟩=>by
  obtain⟨zs,z1,z2,z3⟩:=Jc hR _ hts hG;refine⟨hR.defers,_,H6 z1,zs,RB R2 G st.H gone true,rfl,hR.fr,fun b hb=>.inl (hR.old b hb),?_,?_⟩
  ·rintro b (hb|⟨_,id,e,l,_,q1,q2,q3,q4⟩)
   ·rcases hR.src b hb with q|q
    ·exact .inl q
    ·exact .inr ⟨hR.lt b hb,q⟩
   ·exact .inr ⟨hR.hr.lt q1 q2 q3 q4,(hR.hr.mine id e l b q1 q2 q3 q4).2⟩
  ·obtain⟨h1,h2⟩:=Hm hR (bor0:=true) (xs:=zs) hA (fun e=>e) z2.symm (fun i u x h3 h4=>z3 i u x h3 h4) (fun id hid=>hid);refine⟨h1,fun b hb=>?_⟩;obtain⟨id,_,e,l,q1,q2,q3,q4⟩:=h2 b hb;exact(hR.hr.mine id e l b q1 q2 q3 q4).2
 cases e with
 |normal=>obtain⟨st,h1,h2⟩:=he;exact fin st h1 h2
 |ret=>obtain⟨st,h1,h2⟩:=he;exact fin st h1 h2
 |exit id=>obtain⟨st,h1,h2⟩:=he;exact h1.elim
 |goto l=>exact he.elim
 |panic ch=>obtain⟨v,_,h2,_⟩:=he;exact h2.elim
 |outgrown=>exact he.elim
theorem Asa{P:Program}{f:FuncId}{np:Nat}{rc rcD:Ag}{ts:List RT}{ps rs:List Par}(hc:Ce P f np=some (rc,ts))(hs:D2 rcD=rc)(hn:ps.length=np)(h:wpv P rcD (An0 ts rs) (Ry ps)):Fun P f ps rs:=by
 unfold Ce at hc;split at hc
 ·cases hc
 ·rename_i fn hf;split at hc
  ·cases hc
  ·rename_i code hb;split at hc
   ·cases hc
   ·rename_i hk;simp only[Bool.or_eq_true,not_or,Bool.not_eq_true',Bool.not_eq_true,decide_eq_false_iff_not,Classical.not_not]at hk;split at hc
    ·rename_i rc' ts' h1 h2;simp only[ZD,Prod.mk.injEq]at hc;obtain⟨rfl,rfl⟩:=hc;refine Ajh hf hb ?_ (h1.trans (by rw[hs])) ?_ h2 h
     ·exact hk.1
     ·rw[hn];simpa using hk.2
    ·cases hc
theorem Aw2{P:Program}{f:FuncId}{np:Nat}{rc rcD:Ag}{ts:List RT}{ps rs:List Par}(hc:Ce P f np=some (rc,ts))(hs:D2 rcD=rc)(hn:ps.length=np)(h:wpx P noD rcD (Asq ts rs) (H3 ps) (Oi ps)):Fun P f ps rs:=by
 refine Asa hc hs hn (Cp rcD (fun e env H h=>?_) h);cases e with
 |normal=>exact h
 |exit j=>exact h
 |ret=>exact h

theorem Ans{m:Ms}(h:Bh m=0):Bbu m:=by
 obtain⟨hg,_⟩:=Hw h;refine⟨⟨by have:=hg.qnz;omega,fun r hr=>?_⟩,by have:=hg.len;omega⟩;have:=hg.rs r hr;exact⟨by have:=this.nmz;omega,by have:=this.tx;omega,by have:=this.tgz;omega⟩
theorem Ajg{s:ByteArray}(h:(Be s).2=0):(Be s).1.ok:=by
 have hp:Au (Be s).1=(s,0):=Al2 (Prod.ext rfl h);have he:=(Hc hp).1;have hs:=(T9 he).1;exact⟨by have:=hs.sv;omega,by have:=hs.tg;omega,by have:=hs.nd;omega,by have:=hs.ce;omega⟩
namespace Pl
def Ala:ByteArray:=⟨#[116,46,115,46,115,101,114,118,105,99,101,46,99,46,109,101,115,104]⟩
def Acz:Qr:=⟨⟨#[115]⟩,⟨#[116]⟩,⟨#[]⟩,⟨#[99]⟩⟩
theorem Ato:Acz.err=0:=by
 simp only[Qr.err,Qr.c1,Qr.c2,Qr.c3,Qr.all,Acz,List.any_cons,List.any_nil,em,Aew,Ace,ByteArray.toList_eq,Cd,C7,Bm];decide
theorem Amo:Acz.pr=Ala:=by
 apply Qi;simp only[Qr.pr,Qr.base,Acz,em,ByteArray.toList_eq];simp[Abq,Ait,dot,Bm,Ala]
theorem Alj:Bp Ala=[⟨#[116]⟩,⟨#[115]⟩,Cd,⟨#[99]⟩,Bm]:=by
 simp only[Bp,ByteArray.toList_eq];rw[if_neg (by simp[Ala])];decide
theorem Aq7:A1 Ala=0:=by
 simp only[A1,Alj];decide
theorem Ak9:Au Acz=(Ala,0):=by
 rw[Adh Ato (by rw[Amo];exact Aq7),Amo]
end Pl
theorem Sy:Fun Tryz.prog 26 [] [.c (.v (.bool true))]:=by
 have h:=Sl Ala (by decide);rw[Dc Ak9]at h;refine Av Mg rfl ?_;refine G0 ?_;refine .inl (cX h ?_);(refine goI ?_;repeat (intro gg;refine goI ?_));have e:((Acz,(0:Int)).1.sv.toList==(⟨#[115]⟩:ByteArray).toList&&((Acz,(0:Int)).1.tg.toList==(⟨#[116]⟩:ByteArray).toList&&((Acz,(0:Int)).1.nd.toList==(⟨#[]⟩:ByteArray).toList&&((Acz,(0:Int)).1.ce.toList==(⟨#[99]⟩:ByteArray).toList&&true))))=true:=by simp[Acz]
 rw[e];(exact⟨[],aI⟩)
theorem Ayx{k:Kn}(hk:k.In)(q:Qr):∀s∈Fo k q,s.nd.size≤9223372036854775807:=fun s hs=>(hk.lo s (An2 hs).1).1
theorem Atb{k:Kn}{q:Qr}{t:Int}(h:Rl k q t=0):k.err=0:=by
 unfold Rl at h;split at h
 ·rename_i h1;exact absurd h h1
 ·split at h
  ·exact absurd h (by decide)
  ·exact h
theorem Aij(k:Kn)(q:Qr)(t:Int)(hk:k.In)(hq:q.ok):
  Fun Tryz.prog 78 [.c (.agg q.row),.c (.v (.int .i64 t)),.c (.v (.string k.here)),.c (.sl false (k.l.map Sv.row)),.c (.sl false (k.ms.map Mb.row)),.c (.agg k.f.row),.c (.sl false (k.wh.map Wh.row))]
   [.o 51 7 ((Ik k q t (Fo k q)).1.map Rr.row),.c (.v (.int .i64 (Ik k q t (Fo k q)).2.1)),.c (.v (.int .i64 (Ik k q t (Fo k q)).2.2))]:=
 Aic k q t (Fo k q) hk hq (by have:=Ana k q;omega) (Ayx hk q) fun h=>Apw k q t _ hk hq (Atb h)
theorem Ap6(k:Kn)(s:ByteArray)(hk:k.In)(hs:s.size≤9223372036854775807):
  Fun Tryz.prog 62 [.c (.v (.string s)),.c (.v (.string k.here)),.c (.sl false (k.l.map Sv.row)),.c (.sl false (k.ms.map Mb.row)),.c (.agg k.f.row),.c (.sl false (k.wh.map Wh.row))]
   [.c (.v (.string (Jo k s (Fo k)).1)),.c (.v (.bool (Jo k s (Fo k)).2.1)),.c (.v (.int .i64 (Jo k s (Fo k)).2.2))]:=by
 refine Ap8 k s (Fo k) hk hs (Yz s) (Aq8 k (rdP s).1 (Fo k) ?_ fun h=>Aij k _ _ hk (Ajg h)) (Ax6 _ 512 (Ans (Ajf k s)));rcases Afq s with⟨x,e,hx⟩|e
 ·rw[e];have:=(Hw hx).1.qnz;show x.qn.size≤_;omega
 ·by_cases hl:512<s.size
  ·rw[Y7 hl];decide
  ·rcases e1:Ut s with _|m
   ·rw[Z1 hl e1];decide
   ·rw[Tw hl e1]at e ⊢;by_cases he:Bh m=0
    ·rw[if_pos he]at e;exact absurd rfl e
    ·rw[if_neg he];decide
namespace Pl
end Pl
namespace Pl
def Nd.kn(n:Nd):Kn:=⟨n.ce,n.sv,n.ms,n.pl,n.wh⟩
theorem Nd.kn_in{n:Nd}(h:n.ok):n.kn.In:=⟨h.ce,h.svl,h.sv,h.msl,h.ms,h.whl⟩
theorem Nd.kn_err{n:Nd}(g:n.Good):n.kn.err=0:=by
 have hw:=Ahb g.wh;have hp:D4 (n.wh.map fun w=>w.pl.err)=0:=Zj fun e he=>by
  obtain⟨x,hx,rfl⟩:=XO.1 he;obtain⟨i,hi,rfl⟩:=List.mem_iff_getElem.1 hx;have:=(Ab5 g.wh).2.1 i hi;unfold Wh.err at this;split at this
  ·exact this
  ·cases this
 unfold Kn.err Nd.kn;rw[g.ce,g.sv,g.ms,Pc.err_ok g.pl,hp,if_neg (by simp),if_neg (by simp),if_neg (by show¬20<n.wh.length;omega),if_neg (by simp)];rfl
noncomputable def onQ(s:ByteArray):Option Qr:=
 if(rdP s).2≠0 then none else if(rdP s).1.an=true then none else if 0<(rdP s).1.rs.length then none
 else if(Be (rdP s).1.qn).2≠0 then none else if((Be (rdP s).1.qn).1.ce.toList==(⟨#[]⟩:ByteArray).toList)=true then none else some (Be (rdP s).1.qn).1
noncomputable def Al8(n:Nd)(s:ByteArray):ByteArray×Int×Bool:=match onQ s with
 |none=>((Jo n.kn s (Fo n.kn)).1,0,false)
 |some q=>if(Ff n.gs n.ce q.ce).1=0 then(s,(Ff n.gs n.ce q.ce).2,true)else((Jo n.kn s (Fo n.kn)).1,0,false)
noncomputable def Aqd(n:Nd)(s:ByteArray):ByteArray×Int×Bool:=if n.err≠0 then(⟨#[]⟩,0,false)else Al8 n s
theorem Ao5{n:Nd}{s:ByteArray}(h:n.err=0):Aqd n s=Al8 n s:=if_neg (by simp[h])
theorem Azu{n:Nd}{s:ByteArray}(h:n.err≠0):Aqd n s=(⟨#[]⟩,0,false):=if_pos h
theorem Ax7{n:Nd}(g:n.Good)(s:ByteArray):(Jo n.kn s (Fo n.kn)).2.2=0:=by
 obtain⟨j,_,_,e⟩:=Alv n.kn s;unfold Jo;rw[if_neg (by simp[Nd.kn_err g])];split
 ·rfl
 ·rw[e]
end Pl
theorem Aw6(n:Nd)(h:n.ok)(s:ByteArray)(hs:s.size≤9223372036854775807):Fun Tryz.prog 22 [.c (.agg n.row),.c (.v (.string s))] [.c (.v (.string (Aqd n s).1)),.c (.v (.int .i64 (Aqd n s).2.1)),.c (.v (.bool (Aqd n s).2.2)),.c (.v (.int .i64 n.err))]:=by
 by_cases he:n.err=0;rotate_left
 ·rw[Azu he];refine Av W8 rfl ?_;refine G1 ?_;intro gg;refine .inl (cX (Au8 n h he) ?_);refine G1 ?_;intro gg;rw[show(n.err !=0)=true from ZZ.2 he];refine G0 ?_;(exact⟨[],aI⟩)
 have g:=Nd.good he;have hA:=Ap6 n.kn s (Nd.kn_in h) hs;have hz:=Ax7 g s;have hR:=Yz s;rw[Ao5 he,he];unfold Al8 onQ;generalize Jo n.kn s (Fo n.kn)=A at *;rw[hz]at hA;have hX:(rdP s).2=0→(rdP s).1.qn.size≤1000000000000:=fun hx=>by
  rcases Afq s with⟨x,e,hx⟩|e
  ·rw[e];have:=(Hw hx).1.qnz;show x.qn.size≤_;omega
  ·exact absurd hx e
 generalize rdP s=X at *;refine Av W8 rfl ?_;refine G1 ?_;intro gg;(refine .inr (.inl ⟨_,_,false,[],aM,Azy n h g he,Ae,oI,dI,?_⟩));refine G1 ?_;intro gg;refine .inr (.inr (.inr (Ay9 4000 O2 rfl ?_)));refine G0 ?_;refine .inl (cX hR ?_);(refine goI ?_;repeat (intro gg;refine goI ?_));by_cases c1:X.2=0;rotate_left
 ·rw[if_pos c1,show(X.2 !=0)=true from ZZ.2 c1];refine G0 ?_;refine .inl (cX hA ?_);refine G1 ?_;intro gg;(exact⟨[],aI⟩)
 rw[if_neg (by simpa using c1),c1];refine G0 ?_;by_cases c2:X.1.an=true
 ·rw[if_pos c2,c2];refine G0 ?_;refine .inl (cX hA ?_);refine G1 ?_;intro gg;(exact⟨[],aI⟩)
 rw[if_neg c2,XE.2 c2];refine G0 ?_;rw[ZE];by_cases c3:0<X.1.rs.length
 ·rw[if_pos c3,show decide ((0:Int)<(X.1.rs.length:Int))=true from ZX (by omega)];refine G0 ?_;refine .inl (cX hA ?_);refine G1 ?_;intro gg;(exact⟨[],aI⟩)
 rw[if_neg c3,show decide ((0:Int)<(X.1.rs.length:Int))=false from ZY (by omega)];refine G0 ?_;refine .inl (cX (Sl X.1.qn (hX c1)) ?_);have hq:=Ajg (s:=X.1.qn);generalize Be X.1.qn=P at *;(refine goI ?_;repeat (intro gg;refine goI ?_));by_cases c4:P.2=0;rotate_left
 ·rw[if_pos c4,show(P.2 !=0)=true from ZZ.2 c4];refine G0 ?_;refine .inl (cX hA ?_);refine G1 ?_;intro gg;(exact⟨[],aI⟩)
 rw[if_neg (by simpa using c4),c4];refine G0 ?_;by_cases c5:(P.1.ce.toList==(⟨#[]⟩:ByteArray).toList)=true
 ·rw[if_pos c5,c5];refine G0 ?_;refine .inl (cX hA ?_);refine G1 ?_;intro gg;(exact⟨[],aI⟩)
 rw[if_neg c5,XE.2 c5];refine G0 ?_;refine .inl (cX (Aqw n.gs n.ce P.1.ce h.gsl h.gs h.ce (hq c4).2.2.2) ?_);dsimp only;generalize Ff n.gs n.ce P.1.ce=Y at *;refine G1 ?_;intro gg;by_cases c6:Y.1=0
 ·rw[if_pos c6,c6];refine G0 ?_;(exact⟨[],aI⟩)
 ·rw[if_neg c6,show(Y.1==0)=false from ZG.2 c6];refine G0 ?_;refine .inl (cX hA ?_);refine G1 ?_;intro gg;(exact⟨[],aI⟩)
set_option maxRecDepth 100000
theorem bT{b:Bool}{p q:Prop}(k:p)(h:b=true:=by first|rfl|(subst_vars;rfl)|(subst_vars;simp only[ByteArray.toList_eq]<;>rfl)):bIf b p q:=Gn h k
theorem bF{b:Bool}{p q:Prop}(k:q)(h:b=false:=by first|rfl|(subst_vars;rfl)|(subst_vars;simp only[ByteArray.toList_eq]<;>rfl)):bIf b p q:=F9 h k
theorem o4{A B C D:Prop}(h:D):A∨B∨C∨D:=.inr (.inr (.inr h))
theorem Qe{P:Program}{f:FuncId}{np:Nat}{rc:Ag}{ts:List RT}{ps rs:List Par}(m:Nat)(hc:Ce P f np=some (rc,ts))(hn:ps.length=np)(h:wpx P noD (Ev m rc) (Asq ts rs) (H3 ps) (Oi ps)):Fun P f ps rs:=by
 obtain⟨fn,code,h1,h2,h3,h4,h5,h6⟩:=Zz hc;exact Aw2 hc ((D7 m rc).trans (E9 code h4)) hn h
theorem Bds{env:Nat→V}{H:Nat→Option Ent}{ts:List RT}{cs cs' ds ds':List V}{v:V}(hG:Ia env H ts [.agg cs,.agg ds,v])(hc:Cn H [] cs cs')(hd:Cn H [] ds ds')(hv:Cl v):∃us gone,Ia env H ts us∧Az H gone true gone us [.c (.agg cs'),.c (.agg ds'),.c v]:=⟨_,[],hG,.bora hc (.bora hd (.same hv (.nil _)))⟩
theorem Azj{T:TypeId}{sz:Nat}{rows:List (List V)}{ps:List Par}(h:Al1 rows=true)(h2:flB ps=true):Dy (.o T sz rows::ps):=by
 intro r hr;rcases XC.1 hr with rfl|hr
 ·exact fun row hr u hu=>Afv h row hr u hu
 ·exact U7 h2 r hr
theorem fJ{rs:List Par}(h:Dy rs:=by first|exact U7 rfl|exact Azj rfl rfl):Dy rs:=h
theorem aJ{H:Nat→Option Ent}{all gone:List Nat}{bor:Bool}{us:List V}{ps:List Par}(h:Az H all bor gone us ps:=by(repeat' (first|exact Az.nil _|exact Oa (by assumption)|refine Az.same (by first|exact A9 rfl|exact Dz|exact cl_nil|exact Aix (Ei rfl)|exact cl_one|exact cl_ll1|exact cl_ll2|exact Wy (by assumption)|exact Q3 (by repeat' (first|exact Ns|refine J5 (by first|exact A9 rfl|exact Dz|exact cl_nil|exact Aix (Ei rfl)|assumption) ?_))) ?_|refine Az.nilsl _ ?_|refine Az.nilown _ _ (by decide) ?_|refine Az.borp rfl rfl rfl (Gf rfl) (by decide) ?_|refine Az.borc (by(repeat' (first|exact Ahg|refine Anm rfl rfl rfl (by first|exact Gf rfl|exact cl_r1 rfl|exact cl_r1b) ?_ ?_|refine cap_m rfl (by decide) ?_|refine cap_c (by first|exact A9 rfl|exact Dz|exact cl_nil|exact cl_one|exact cl_ll1|exact cl_ll2|exact Wy (by assumption)|exact Q3 (by repeat' (first|exact Ns|refine J5 (by first|exact A9 rfl|exact Dz|exact cl_nil|assumption) ?_))) ?_|decide))) ?_|refine Az.bora (by(repeat' (first|exact Cn.nil|refine Cn.same (by first|exact A9 rfl|exact Dz|exact cl_nil|exact Aix (Ei rfl)|assumption) ?_|refine Cn.nilsl _ ?_|refine Akm rfl rfl (by first|exact Ei rfl|exact B6|exact cl_setB rfl|exact cl_setG (cl_setB rfl) rfl|exact G7 B6 (Ei rfl)|exact Mf|exact cl_rl2) (by decide) ?_))) ?_|refine Az.bor rfl rfl (Sj (by first|exact Ei rfl|exact B6|exact cl_setB rfl|exact cl_setG (cl_setB rfl) rfl|exact G7 B6 (Ei rfl)|exact Mf|exact cl_rl2)) (by decide) ?_|refine Ath rfl (by first|exact Ei rfl|exact B6|exact cl_setB rfl|exact cl_setG (cl_setB rfl) rfl|exact G7 B6 (Ei rfl)|exact Mf|exact cl_rl2) (by decide) (by decide) ?_))):Az H all bor gone us ps:=h
theorem cJ{H:Nat→Option Ent}{gone:List Nat}{cs cs':List V}(h:Cn H gone cs cs':=by(repeat' (first|exact Cn.nil|refine Cn.same (by first|exact A9 rfl|exact Dz|exact cl_nil|exact Aix (Ei rfl)|assumption) ?_|refine Cn.nilsl _ ?_|refine Akm rfl rfl (by first|exact Ei rfl|exact B6|exact cl_setB rfl|exact cl_setG (cl_setB rfl) rfl|exact G7 B6 (Ei rfl)|exact Mf|exact cl_rl2) (by decide) ?_))):Cn H gone cs cs':=h
abbrev xA(a:ByteArray):List V:=[.v (.string a),.v (.int .i64 1),.v (.int .i64 1),.v (.int .i64 1),.v (.bool false)]
abbrev xB(b:ByteArray):List V:=[.v (.string b),.v (.int .i64 1),.v (.int .i64 1),.v (.int .i64 2),.v (.bool true)]
abbrev xC(b:ByteArray):List V:=[.v (.string b),.v (.int .i64 2),.v (.int .i64 1),.v (.int .i64 2),.v (.bool true)]
abbrev xR(b:ByteArray):List V:=[.v (.string b),.v (.int .i64 1),.v (.int .i64 1),.v (.int .i64 2),.v (.bool true),.v (.int .i64 0)]
abbrev xS(b:ByteArray):List V:=[.v (.string b),.v (.int .i64 2),.v (.int .i64 1),.v (.int .i64 2),.v (.bool true),.v (.int .i64 0)]
abbrev xZ:Par:=.c (.v (.int .i64 0))
abbrev yA(a c:ByteArray):List V:=[.v (.string a),.v (.string c),.sl false [(xA a)],.sl false [],.sl false [],.sl false [],.v (.int .i64 0),.v (.int .i64 0),.v (.int .i64 0),.v (.int .i64 0),.v (.int .i64 1000),.sl false []]
abbrev yB(b c:ByteArray):List V:=[.v (.string b),.v (.string c),.sl false [(xB b)],.sl false [],.sl false [],.sl false [],.v (.int .i64 0),.v (.int .i64 0),.v (.int .i64 0),.v (.int .i64 0),.v (.int .i64 1000),.sl false []]
abbrev yC(a b c:ByteArray):List V:=[.v (.string a),.v (.string c),.sl false [(xA a),(xB b)],.sl false [(xR b)],.sl false [],.sl false [],.v (.int .i64 0),.v (.int .i64 0),.v (.int .i64 0),.v (.int .i64 0),.v (.int .i64 1000),.sl false []]
abbrev yD(a b c:ByteArray):List V:=[.v (.string a),.v (.string c),.sl false [(xA a),(xC b)],.sl false [(xS b)],.sl false [],.sl false [],.v (.int .i64 0),.v (.int .i64 0),.v (.int .i64 0),.v (.int .i64 0),.v (.int .i64 1000),.sl false []]
section
variable {a b c:ByteArray} (ha:(⟨#[97]⟩:ByteArray)=a) (hb:(⟨#[98]⟩:ByteArray)=b) (hc:(⟨#[99]⟩:ByteArray)=c)
include ha hb hc
omit ha hb hc in
theorem kA:Fun Tryz.prog 41 [.c (.sl false [(xA a)])] [.o 24 5 [(xA a)]]:=Ku false [⟨a,1,1,1,false⟩] (Nat.le_of_ble_eq_true rfl)
omit ha hb hc in
theorem kB:Fun Tryz.prog 41 [.c (.sl false [(xB b)])] [.o 24 5 [(xB b)]]:=Ku false [⟨b,1,1,2,true⟩] (Nat.le_of_ble_eq_true rfl)
omit ha hb hc in
theorem kAB:Fun Tryz.prog 41 [.c (.sl false [(xA a),(xB b)])] [.o 24 5 [(xA a),(xB b)]]:=Ku false [⟨a,1,1,1,false⟩,⟨b,1,1,2,true⟩] (Nat.le_of_ble_eq_true rfl)
omit ha hb hc in
theorem Beb:Fun Tryz.prog 41 [.c (.sl false [(xA a),(xC b)])] [.o 24 5 [(xA a),(xC b)]]:=Ku false [⟨a,1,1,1,false⟩,⟨b,2,1,2,true⟩] (Nat.le_of_ble_eq_true rfl)
omit ha hb hc in
theorem cr0:Fun Tryz.prog 47 [.c (.sl false [])] [.o 91 6 []]:=Ln false [] (Nat.le_of_ble_eq_true rfl)
omit ha hb hc in
theorem crB:Fun Tryz.prog 47 [.c (.sl false [(xR b)])] [.o 91 6 [(xR b)]]:=Ln false [⟨⟨b,1,1,2,true⟩,0⟩] (Nat.le_of_ble_eq_true rfl)
omit ha hb hc in
theorem Bca:Fun Tryz.prog 47 [.c (.sl false [(xS b)])] [.o 91 6 [(xS b)]]:=Ln false [⟨⟨b,2,1,2,true⟩,0⟩] (Nat.le_of_ble_eq_true rfl)
omit ha hb hc in
theorem cs0:Fun Tryz.prog 117 [.c (.sl false [])] [.o 77 9 []]:=Aax false [] (Nat.le_of_ble_eq_true rfl)
omit ha hb hc in
theorem cg0:Fun Tryz.prog 118 [.c (.sl false [])] [.o 74 3 []]:=Abv false [] (Nat.le_of_ble_eq_true rfl)
omit ha hb hc in
theorem cw0:Fun Tryz.prog 119 [.c (.sl false [])] [.o 152 6 []]:=Wz false [] (Nat.le_of_ble_eq_true rfl)
omit ha hb hc in
theorem Bdr:Fun Tryz.prog 97 [.o 24 5 [(xA a)],.c (.v (.int .i64 1)),.o 24 5 [(xB b)]] [.o 24 5 [(xA a),(xB b)]]:=Aha [⟨a,1,1,1,false⟩] ⟨b,1,1,2,true⟩ 1 (ZT _) (Nat.le_of_ble_eq_true rfl)
omit ha hb hc in
theorem Bed:Fun Tryz.prog 94 [.o 91 6 [(xR b)],xZ,.c (.v (.int .i64 1))] [.o 91 6 []]:=Apb [⟨⟨b,1,1,2,true⟩,0⟩] 0 (Nat.lt_succ_self 0) (Nat.le_of_ble_eq_true rfl)
omit hb hc in
theorem Axc:Fun Tryz.prog 88 [.c (.v (.string a))] [.c (.v (.bool true))]:=(by have h:=Bu a (by subst_vars;decide);rw[show Pl.lab a.data.toList=true by subst_vars;rfl]at h;exact h)
omit ha hc in
theorem Aas:Fun Tryz.prog 88 [.c (.v (.string b))] [.c (.v (.bool true))]:=(by have h:=Bu b (by subst_vars;decide);rw[show Pl.lab b.data.toList=true by subst_vars;rfl]at h;exact h)
omit ha hb in
theorem Avd:Fun Tryz.prog 88 [.c (.v (.string c))] [.c (.v (.bool true))]:=(by have h:=Bu c (by subst_vars;decide);rw[show Pl.lab c.data.toList=true by subst_vars;rfl]at h;exact h)
omit hb hc in
theorem Aq9:Fun Tryz.prog 39 [.c (.agg (xA a))] [xZ]:=by
 refine Do 9 Iy rfl ?_;refine G1 ?_;intro gg;refine .inl ⟨_,_,false,[],aJ,Axc ha,Ae,nI,?_⟩;refine G1 ?_;intro gg;refine o4 (Ad 2000 9 Bv rfl ?_);refine G0 ?_;refine o4 (Ad 3000 9 Bv rfl ?_);refine G0 ?_;refine o4 (Ad 4000 9 Bv rfl ?_);refine G0 ?_;(exact⟨[],aJ⟩)
omit ha hc in
theorem Aph:Fun Tryz.prog 39 [.c (.agg (xB b))] [xZ]:=by
 refine Do 9 Iy rfl ?_;refine G1 ?_;intro gg;refine .inl ⟨_,_,false,[],aJ,Aas hb,Ae,nI,?_⟩;refine G1 ?_;intro gg;refine o4 (Ad 2000 9 Bv rfl ?_);refine G0 ?_;refine o4 (Ad 3000 9 Bv rfl ?_);refine G0 ?_;refine o4 (Ad 4000 9 Bv rfl ?_);refine G0 ?_;(exact⟨[],aJ⟩)
omit ha hc in
theorem Aji:Fun Tryz.prog 39 [.c (.agg (xC b))] [xZ]:=by
 refine Do 9 Iy rfl ?_;refine G1 ?_;intro gg;refine .inl ⟨_,_,false,[],aJ,Aas hb,Ae,nI,?_⟩;refine G1 ?_;intro gg;refine o4 (Ad 2000 9 Bv rfl ?_);refine G0 ?_;refine o4 (Ad 3000 9 Bv rfl ?_);refine G0 ?_;refine o4 (Ad 4000 9 Bv rfl ?_);refine G0 ?_;(exact⟨[],aJ⟩)
omit hb hc in
theorem Bdx:Fun Tryz.prog 153 [.c (.sl false [(xA a)])] [xZ]:=by
 refine Do 9 E2 rfl ?_;refine G1 ?_;intro gg;refine o4 (Ad 1000 9 Cw rfl ?_);refine G0 ?_;refine⟨0,_,by kernel_rfl,rfl,?_⟩;refine G0 ?_;refine o4 (Ad 3000 9 De rfl ?_);refine G0 ?_;refine⟨0,_,by kernel_rfl,rfl,?_⟩;refine G1 ?_;intro gg;refine .inl ⟨_,_,false,[],aJ,Aq9 ha,Ae,nI,?_⟩;refine G1 ?_;intro gg;(exact⟨[],aJ⟩)
omit ha hc in
theorem Bb7:Fun Tryz.prog 153 [.c (.sl false [(xB b)])] [xZ]:=by
 refine Do 9 E2 rfl ?_;refine G1 ?_;intro gg;refine o4 (Ad 1000 9 Cw rfl ?_);refine G0 ?_;refine⟨0,_,by kernel_rfl,rfl,?_⟩;refine G0 ?_;refine o4 (Ad 3000 9 De rfl ?_);refine G0 ?_;refine⟨0,_,by kernel_rfl,rfl,?_⟩;refine G1 ?_;intro gg;refine .inl ⟨_,_,false,[],aJ,Aph hb,Ae,nI,?_⟩;refine G1 ?_;intro gg;(exact⟨[],aJ⟩)
omit hc in
theorem Bbb:Fun Tryz.prog 153 [.c (.sl false [(xA a),(xB b)])] [xZ]:=by
 refine Do 9 E2 rfl ?_;refine G1 ?_;intro gg;refine o4 (Ad 1000 9 Cw rfl ?_);refine G0 ?_;refine⟨0,_,by kernel_rfl,rfl,?_⟩;refine G0 ?_;refine o4 (Ad 3000 9 De rfl ?_);refine G0 ?_;refine⟨0,_,by kernel_rfl,rfl,?_⟩;refine G1 ?_;intro gg;refine .inl ⟨_,_,false,[],aJ,Aq9 ha,Ae,nI,?_⟩;refine G1 ?_;intro gg;refine⟨1,_,by kernel_rfl,rfl,?_⟩;refine G1 ?_;intro gg;refine .inl ⟨_,_,false,[],aJ,Aph hb,Ae,nI,?_⟩;refine G1 ?_;intro gg;refine⟨1,_,by kernel_rfl,rfl,?_⟩;refine G0 ?_;refine⟨0,_,by kernel_rfl,rfl,?_⟩;refine G0 ?_;refine bF ?_;refine G0 ?_;(exact⟨[],aJ⟩)
omit hc in
theorem Azo:Fun Tryz.prog 153 [.c (.sl false [(xA a),(xC b)])] [xZ]:=by
 refine Do 9 E2 rfl ?_;refine G1 ?_;intro gg;refine o4 (Ad 1000 9 Cw rfl ?_);refine G0 ?_;refine⟨0,_,by kernel_rfl,rfl,?_⟩;refine G0 ?_;refine o4 (Ad 3000 9 De rfl ?_);refine G0 ?_;refine⟨0,_,by kernel_rfl,rfl,?_⟩;refine G1 ?_;intro gg;refine .inl ⟨_,_,false,[],aJ,Aq9 ha,Ae,nI,?_⟩;refine G1 ?_;intro gg;refine⟨1,_,by kernel_rfl,rfl,?_⟩;refine G1 ?_;intro gg;refine .inl ⟨_,_,false,[],aJ,Aji hb,Ae,nI,?_⟩;refine G1 ?_;intro gg;refine⟨1,_,by kernel_rfl,rfl,?_⟩;refine G0 ?_;refine⟨0,_,by kernel_rfl,rfl,?_⟩;refine G0 ?_;refine bF ?_;refine G0 ?_;(exact⟨[],aJ⟩)
omit ha hb hc in
theorem Bb1:Fun Tryz.prog 42 [.c (.sl false [])] [xZ]:=by
 refine Do 9 Hy rfl ?_;refine G1 ?_;intro gg;refine o4 (Ad 1000 9 Bb rfl ?_);refine G0 ?_;refine o4 (Ad 2000 9 Aw rfl ?_);refine G0 ?_;(exact⟨[],aJ⟩)
omit ha hc in
theorem Bcm:Fun Tryz.prog 42 [.c (.sl false [(xR b)])] [xZ]:=by
 refine Do 9 Hy rfl ?_;refine G1 ?_;intro gg;refine⟨0,_,by kernel_rfl,rfl,?_⟩;refine G1 ?_;intro gg;refine o4 (Ad 2000 9 G3 rfl ?_);refine G1 ?_;intro gg;refine .inl ⟨_,_,false,[],aJ,Aph hb,Ae,nI,?_⟩;refine G1 ?_;intro gg;refine⟨_,_,rfl,A9 rfl,rfl,?_⟩;refine G0 ?_;refine o4 (Ad 5000 9 Bb rfl ?_);refine G0 ?_;refine o4 (Ad 6000 9 Aw rfl ?_);refine G0 ?_;refine⟨0,_,by kernel_rfl,rfl,?_⟩;refine G0 ?_;refine o4 (Ad 8000 9 Iv rfl ?_);refine G1 ?_;intro gg;(exact⟨[],aJ⟩)
omit ha hc in
theorem Axo:Fun Tryz.prog 42 [.c (.sl false [(xS b)])] [xZ]:=by
 refine Do 9 Hy rfl ?_;refine G1 ?_;intro gg;refine⟨0,_,by kernel_rfl,rfl,?_⟩;refine G1 ?_;intro gg;refine o4 (Ad 2000 9 G3 rfl ?_);refine G1 ?_;intro gg;refine .inl ⟨_,_,false,[],aJ,Aji hb,Ae,nI,?_⟩;refine G1 ?_;intro gg;refine⟨_,_,rfl,A9 rfl,rfl,?_⟩;refine G0 ?_;refine o4 (Ad 5000 9 Bb rfl ?_);refine G0 ?_;refine o4 (Ad 6000 9 Aw rfl ?_);refine G0 ?_;refine⟨0,_,by kernel_rfl,rfl,?_⟩;refine G0 ?_;refine o4 (Ad 8000 9 Iv rfl ?_);refine G1 ?_;intro gg;(exact⟨[],aJ⟩)
omit ha hb hc in
theorem Asz:Fun Tryz.prog 154 [.c (.sl false [])] [xZ]:=by
 refine Do 9 Mv rfl ?_;refine G1 ?_;intro gg;refine o4 (Ad 1000 9 Im rfl ?_);refine G0 ?_;refine⟨0,_,by kernel_rfl,rfl,?_⟩;refine G0 ?_;(exact⟨[],aJ⟩)
omit ha hb hc in
theorem Ar2:Fun Tryz.prog 155 [.c (.sl false [])] [xZ]:=by
 refine Do 9 Ox rfl ?_;refine G1 ?_;intro gg;refine o4 (Ad 1000 9 Jq rfl ?_);refine G0 ?_;refine⟨0,_,by kernel_rfl,rfl,?_⟩;refine G0 ?_;(exact⟨[],aJ⟩)
omit ha hb hc in
theorem Asn:Fun Tryz.prog 157 [.c (.sl false [])] [xZ]:=by
 refine Do 9 Np rfl ?_;refine G0 ?_;(exact⟨[],aJ⟩)
omit ha hb hc in
theorem Awn:Fun Tryz.prog 156 [.c (.agg [.v (.int .i64 0),.v (.int .i64 0),.v (.int .i64 0),.v (.int .i64 0),.v (.int .i64 1000)])] [xZ]:=by
 refine Do 9 P0 rfl ?_;refine G1 ?_;intro gg;refine o4 (Ad 1000 9 F8 rfl ?_);refine G0 ?_;refine o4 (Ad 2000 9 D6 rfl ?_);refine G0 ?_;refine o4 (Ad 3000 9 F8 rfl ?_);refine G0 ?_;refine o4 (Ad 4000 9 D6 rfl ?_);refine G0 ?_;refine o4 (Ad 5000 9 F8 rfl ?_);refine G0 ?_;refine o4 (Ad 6000 9 D6 rfl ?_);refine G0 ?_;refine o4 (Ad 7000 9 D6 rfl ?_);refine G0 ?_;refine o4 (Ad 8000 9 D6 rfl ?_);refine G0 ?_;(exact⟨[],aJ⟩)
omit ha hb hc in
theorem Bch:Fun Tryz.prog 93 [.c (.agg (xB b)),.c (.agg (xB b))] [xZ]:=(by have h:=Up (⟨b,1,1,2,true⟩:Pl.Mb) (⟨b,1,1,2,true⟩:Pl.Mb);rw[show Pl.Mb.cmp ⟨b,1,1,2,true⟩ ⟨b,1,1,2,true⟩=0 by kernel_rfl]at h;exact h)
omit ha hb hc in
theorem Bbo:Fun Tryz.prog 93 [.c (.agg (xC b)),.c (.agg (xC b))] [xZ]:=(by have h:=Up (⟨b,2,1,2,true⟩:Pl.Mb) (⟨b,2,1,2,true⟩:Pl.Mb);rw[show Pl.Mb.cmp ⟨b,2,1,2,true⟩ ⟨b,2,1,2,true⟩=0 by kernel_rfl]at h;exact h)
omit ha hb hc in
theorem Axp:Fun Tryz.prog 93 [.c (.agg (xC b)),.c (.agg (xB b))] [.c (.v (.int .i64 1))]:=(by have h:=Up (⟨b,2,1,2,true⟩:Pl.Mb) (⟨b,1,1,2,true⟩:Pl.Mb);rw[show Pl.Mb.cmp ⟨b,2,1,2,true⟩ ⟨b,1,1,2,true⟩=1 by kernel_rfl]at h;exact h)
omit ha hb hc in
theorem Bcn:Fun Tryz.prog 84 [.c (.sl false []),.c (.sl false [])] [.o 77 9 [],xZ]:=by
 refine Do 9 Xy rfl ?_;refine G1 ?_;intro gg;refine o4 (Ad 1000 9 Im rfl ?_);refine G0 ?_;refine⟨0,_,by kernel_rfl,rfl,?_⟩;refine G0 ?_;refine⟨1,_,by kernel_rfl,rfl,?_⟩;refine G0 ?_;refine .inl ⟨_,_,false,[],aJ,cs0,Ae,nI,?_⟩;refine G1 ?_;intro gg;(exact⟨[320],aJ⟩)
omit ha hb hc in
theorem Bcy:Fun Tryz.prog 85 [.c (.sl false []),.c (.sl false [])] [.o 74 3 [],xZ]:=by
 refine Do 9 Abw rfl ?_;refine G1 ?_;intro gg;refine o4 (Ad 1000 9 Jq rfl ?_);refine G0 ?_;refine⟨0,_,by kernel_rfl,rfl,?_⟩;refine G0 ?_;refine⟨1,_,by kernel_rfl,rfl,?_⟩;refine G0 ?_;refine .inl ⟨_,_,false,[],aJ,cg0,Ae,nI,?_⟩;refine G1 ?_;intro gg;(exact⟨[320],aJ⟩)
omit hb in
theorem ckA:Fun Tryz.prog 79 [.c (.agg (yA a c))] [xZ]:=by
 refine Do 9 Gx rfl ?_;refine G1 ?_;intro gg;refine .inl ⟨_,_,false,[],aJ,Axc ha,Ae,nI,?_⟩;refine G1 ?_;intro gg;refine .inl ⟨_,_,false,[],aJ,Avd hc,Ae,nI,?_⟩;refine G1 ?_;intro gg;refine⟨_,_,false,aJ,Bdx ha,Ae,nI,?_⟩;refine G1 ?_;intro gg;refine⟨_,_,false,aJ,Bb1,Ae,nI,?_⟩;refine G1 ?_;intro gg;refine⟨_,_,false,aJ,Asz,Ae,nI,?_⟩;refine G1 ?_;intro gg;refine⟨_,_,false,aJ,Ar2,Ae,nI,?_⟩;refine G1 ?_;intro gg;refine⟨_,_,false,aJ,Awn,Ae,nI,?_⟩;refine G1 ?_;intro gg;refine⟨_,_,false,aJ,Asn,Ae,nI,?_⟩;(refine goI ?_;repeat (intro gg;refine goI ?_));refine⟨0,_,by kernel_rfl,rfl,?_⟩;refine G0 ?_;refine⟨1,_,by kernel_rfl,rfl,?_⟩;refine G0 ?_;refine⟨2,_,by kernel_rfl,rfl,?_⟩;refine G0 ?_;refine⟨3,_,by kernel_rfl,rfl,?_⟩;refine G0 ?_;refine⟨4,_,by kernel_rfl,rfl,?_⟩;refine G0 ?_;refine⟨5,_,by kernel_rfl,rfl,?_⟩;refine G0 ?_;refine o4 (Ad 15000 9 Bs rfl ?_);refine G0 ?_;refine o4 (Ad 16000 9 Af rfl ?_);refine G0 ?_;refine⟨1,by kernel_rfl,?_⟩;refine G0 ?_;refine⟨0,_,by kernel_rfl,rfl,?_⟩;refine G0 ?_;refine o4 (Ad 19000 9 Ap rfl ?_);refine G1 ?_;intro gg;refine o4 (Ad 20000 9 Aj rfl ?_);refine G0 ?_;refine o4 (Ad 21000 9 Ab rfl ?_);refine G0 ?_;refine o4 (Ad 22000 9 Ab rfl ?_);refine G0 ?_;refine bF ?_;refine G0 ?_;refine bF ?_;refine G0 ?_;refine bF ?_;refine G0 ?_;refine bF ?_;refine G0 ?_;refine⟨0,_,by kernel_rfl,rfl,?_⟩;refine G0 ?_;refine o4 (Ad 28000 9 Ap rfl ?_);refine G1 ?_;intro gg;refine o4 (Ad 29000 9 Aj rfl ?_);refine G0 ?_;refine o4 (Ad 30000 9 Ab rfl ?_);refine G0 ?_;refine o4 (Ad 31000 9 Ab rfl ?_);refine G0 ?_;refine bF ?_;refine G0 ?_;refine bF ?_;refine G0 ?_;refine bF ?_;refine G0 ?_;refine bF ?_;refine G0 ?_;refine⟨0,_,by kernel_rfl,rfl,?_⟩;refine G0 ?_;refine⟨0,_,by kernel_rfl,rfl,?_⟩;refine G0 ?_;refine o4 (Ad 38000 9 Fm rfl ?_);refine G1 ?_;intro gg;(exact⟨[],aJ⟩)
omit ha in
theorem ckB:Fun Tryz.prog 79 [.c (.agg (yB b c))] [xZ]:=by
 refine Do 9 Gx rfl ?_;refine G1 ?_;intro gg;refine .inl ⟨_,_,false,[],aJ,Aas hb,Ae,nI,?_⟩;refine G1 ?_;intro gg;refine .inl ⟨_,_,false,[],aJ,Avd hc,Ae,nI,?_⟩;refine G1 ?_;intro gg;refine⟨_,_,false,aJ,Bb7 hb,Ae,nI,?_⟩;refine G1 ?_;intro gg;refine⟨_,_,false,aJ,Bb1,Ae,nI,?_⟩;refine G1 ?_;intro gg;refine⟨_,_,false,aJ,Asz,Ae,nI,?_⟩;refine G1 ?_;intro gg;refine⟨_,_,false,aJ,Ar2,Ae,nI,?_⟩;refine G1 ?_;intro gg;refine⟨_,_,false,aJ,Awn,Ae,nI,?_⟩;refine G1 ?_;intro gg;refine⟨_,_,false,aJ,Asn,Ae,nI,?_⟩;(refine goI ?_;repeat (intro gg;refine goI ?_));refine⟨0,_,by kernel_rfl,rfl,?_⟩;refine G0 ?_;refine⟨1,_,by kernel_rfl,rfl,?_⟩;refine G0 ?_;refine⟨2,_,by kernel_rfl,rfl,?_⟩;refine G0 ?_;refine⟨3,_,by kernel_rfl,rfl,?_⟩;refine G0 ?_;refine⟨4,_,by kernel_rfl,rfl,?_⟩;refine G0 ?_;refine⟨5,_,by kernel_rfl,rfl,?_⟩;refine G0 ?_;refine o4 (Ad 15000 9 Bs rfl ?_);refine G0 ?_;refine o4 (Ad 16000 9 Af rfl ?_);refine G0 ?_;refine⟨1,by kernel_rfl,?_⟩;refine G0 ?_;refine⟨0,_,by kernel_rfl,rfl,?_⟩;refine G0 ?_;refine o4 (Ad 19000 9 Ap rfl ?_);refine G1 ?_;intro gg;refine o4 (Ad 20000 9 Aj rfl ?_);refine G0 ?_;refine o4 (Ad 21000 9 Ab rfl ?_);refine G0 ?_;refine o4 (Ad 22000 9 Ab rfl ?_);refine G0 ?_;refine bF ?_;refine G0 ?_;refine bF ?_;refine G0 ?_;refine bF ?_;refine G0 ?_;refine bF ?_;refine G0 ?_;refine⟨0,_,by kernel_rfl,rfl,?_⟩;refine G0 ?_;refine o4 (Ad 28000 9 Ap rfl ?_);refine G1 ?_;intro gg;refine o4 (Ad 29000 9 Aj rfl ?_);refine G0 ?_;refine o4 (Ad 30000 9 Ab rfl ?_);refine G0 ?_;refine o4 (Ad 31000 9 Ab rfl ?_);refine G0 ?_;refine bF ?_;refine G0 ?_;refine bF ?_;refine G0 ?_;refine bF ?_;refine G0 ?_;refine bF ?_;refine G0 ?_;refine⟨0,_,by kernel_rfl,rfl,?_⟩;refine G0 ?_;refine⟨0,_,by kernel_rfl,rfl,?_⟩;refine G0 ?_;refine o4 (Ad 38000 9 Fm rfl ?_);refine G1 ?_;intro gg;(exact⟨[],aJ⟩)
theorem Bea:Fun Tryz.prog 79 [.c (.agg (yC a b c))] [xZ]:=by
 refine Do 9 Gx rfl ?_;refine G1 ?_;intro gg;refine .inl ⟨_,_,false,[],aJ,Axc ha,Ae,nI,?_⟩;refine G1 ?_;intro gg;refine .inl ⟨_,_,false,[],aJ,Avd hc,Ae,nI,?_⟩;refine G1 ?_;intro gg;refine⟨_,_,false,aJ,Bbb ha hb,Ae,nI,?_⟩;refine G1 ?_;intro gg;refine⟨_,_,false,aJ,Bcm hb,Ae,nI,?_⟩;refine G1 ?_;intro gg;refine⟨_,_,false,aJ,Asz,Ae,nI,?_⟩;refine G1 ?_;intro gg;refine⟨_,_,false,aJ,Ar2,Ae,nI,?_⟩;refine G1 ?_;intro gg;refine⟨_,_,false,aJ,Awn,Ae,nI,?_⟩;refine G1 ?_;intro gg;refine⟨_,_,false,aJ,Asn,Ae,nI,?_⟩;(refine goI ?_;repeat (intro gg;refine goI ?_));refine⟨0,_,by kernel_rfl,rfl,?_⟩;refine G0 ?_;refine⟨1,_,by kernel_rfl,rfl,?_⟩;refine G0 ?_;refine⟨2,_,by kernel_rfl,rfl,?_⟩;refine G0 ?_;refine⟨3,_,by kernel_rfl,rfl,?_⟩;refine G0 ?_;refine⟨4,_,by kernel_rfl,rfl,?_⟩;refine G0 ?_;refine⟨5,_,by kernel_rfl,rfl,?_⟩;refine G0 ?_;refine o4 (Ad 15000 9 Bs rfl ?_);refine G0 ?_;refine o4 (Ad 16000 9 Af rfl ?_);refine G0 ?_;refine⟨2,by kernel_rfl,?_⟩;refine G0 ?_;refine⟨1,_,by kernel_rfl,rfl,?_⟩;refine G0 ?_;refine o4 (Ad 19000 9 Ap rfl ?_);refine G1 ?_;intro gg;refine o4 (Ad 20000 9 Aj rfl ?_);refine G0 ?_;refine o4 (Ad 21000 9 Ab rfl ?_);refine G0 ?_;refine o4 (Ad 22000 9 Ab rfl ?_);refine G0 ?_;refine bF ?_;refine G0 ?_;refine bF ?_;refine G0 ?_;refine bF ?_;refine G0 ?_;refine bT ?_;refine G0 ?_;refine⟨0,_,by kernel_rfl,rfl,?_⟩;refine G0 ?_;refine o4 (Ad 28000 9 Ap rfl ?_);refine G1 ?_;intro gg;refine o4 (Ad 29000 9 Aj rfl ?_);refine G0 ?_;refine o4 (Ad 30000 9 Ab rfl ?_);refine G0 ?_;refine o4 (Ad 31000 9 Ab rfl ?_);refine G0 ?_;refine bF ?_;refine G0 ?_;refine bF ?_;refine G0 ?_;refine bF ?_;refine G0 ?_;refine bF ?_;refine G0 ?_;refine⟨0,_,by kernel_rfl,rfl,?_⟩;refine G0 ?_;refine o4 (Ad 37000 9 Ap rfl ?_);refine G1 ?_;intro gg;refine o4 (Ad 38000 9 Aj rfl ?_);refine G0 ?_;refine o4 (Ad 39000 9 Ab rfl ?_);refine G0 ?_;refine o4 (Ad 40000 9 Ab rfl ?_);refine G0 ?_;refine bF ?_;refine G0 ?_;refine bF ?_;refine G0 ?_;refine bF ?_;refine G0 ?_;refine bF ?_;refine G0 ?_;refine⟨0,_,by kernel_rfl,rfl,?_⟩;refine G0 ?_;refine⟨0,_,by kernel_rfl,rfl,?_⟩;refine G0 ?_;refine o4 (Ad 47000 9 Fm rfl ?_);refine G1 ?_;intro gg;refine⟨0,_,by kernel_rfl,rfl,?_⟩;refine G1 ?_;intro gg;refine o4 (Ad 49000 9 Bs rfl ?_);refine G0 ?_;refine o4 (Ad 50000 9 Af rfl ?_);refine G0 ?_;refine⟨2,by kernel_rfl,?_⟩;refine G0 ?_;refine⟨1,_,by kernel_rfl,rfl,?_⟩;refine G0 ?_;refine o4 (Ad 53000 9 Ap rfl ?_);refine G1 ?_;intro gg;refine o4 (Ad 54000 9 Aj rfl ?_);refine G0 ?_;refine o4 (Ad 55000 9 Ab rfl ?_);refine G0 ?_;refine o4 (Ad 56000 9 Ab rfl ?_);refine G0 ?_;refine bF ?_;refine G0 ?_;refine bF ?_;refine G0 ?_;refine bF ?_;refine G0 ?_;refine bF ?_;refine G0 ?_;refine⟨0,_,by kernel_rfl,rfl,?_⟩;refine G0 ?_;refine o4 (Ad 62000 9 Ap rfl ?_);refine G1 ?_;intro gg;refine o4 (Ad 63000 9 Aj rfl ?_);refine G0 ?_;refine o4 (Ad 64000 9 Ab rfl ?_);refine G0 ?_;refine o4 (Ad 65000 9 Ab rfl ?_);refine G0 ?_;refine bF ?_;refine G0 ?_;refine bF ?_;refine G0 ?_;refine bT ?_;refine G0 ?_;refine⟨1,_,by kernel_rfl,rfl,?_⟩;refine G0 ?_;refine o4 (Ad 70000 9 Ap rfl ?_);refine G1 ?_;intro gg;refine o4 (Ad 71000 9 Aj rfl ?_);refine G0 ?_;refine o4 (Ad 72000 9 Ab rfl ?_);refine G0 ?_;refine o4 (Ad 73000 9 Ab rfl ?_);refine G0 ?_;refine bF ?_;refine G0 ?_;refine bF ?_;refine G0 ?_;refine bF ?_;refine G0 ?_;refine bF ?_;refine G0 ?_;refine⟨1,_,by kernel_rfl,rfl,?_⟩;refine G0 ?_;refine .inl ⟨_,_,false,[],aJ,Bch,Ae,nI,?_⟩;refine G1 ?_;intro gg;(exact⟨[],aJ⟩)
theorem Beh:Fun Tryz.prog 79 [.c (.agg (yD a b c))] [xZ]:=by
 refine Do 9 Gx rfl ?_;refine G1 ?_;intro gg;refine .inl ⟨_,_,false,[],aJ,Axc ha,Ae,nI,?_⟩;refine G1 ?_;intro gg;refine .inl ⟨_,_,false,[],aJ,Avd hc,Ae,nI,?_⟩;refine G1 ?_;intro gg;refine⟨_,_,false,aJ,Azo ha hb,Ae,nI,?_⟩;refine G1 ?_;intro gg;refine⟨_,_,false,aJ,Axo hb,Ae,nI,?_⟩;refine G1 ?_;intro gg;refine⟨_,_,false,aJ,Asz,Ae,nI,?_⟩;refine G1 ?_;intro gg;refine⟨_,_,false,aJ,Ar2,Ae,nI,?_⟩;refine G1 ?_;intro gg;refine⟨_,_,false,aJ,Awn,Ae,nI,?_⟩;refine G1 ?_;intro gg;refine⟨_,_,false,aJ,Asn,Ae,nI,?_⟩;(refine goI ?_;repeat (intro gg;refine goI ?_));refine⟨0,_,by kernel_rfl,rfl,?_⟩;refine G0 ?_;refine⟨1,_,by kernel_rfl,rfl,?_⟩;refine G0 ?_;refine⟨2,_,by kernel_rfl,rfl,?_⟩;refine G0 ?_;refine⟨3,_,by kernel_rfl,rfl,?_⟩;refine G0 ?_;refine⟨4,_,by kernel_rfl,rfl,?_⟩;refine G0 ?_;refine⟨5,_,by kernel_rfl,rfl,?_⟩;refine G0 ?_;refine o4 (Ad 15000 9 Bs rfl ?_);refine G0 ?_;refine o4 (Ad 16000 9 Af rfl ?_);refine G0 ?_;refine⟨2,by kernel_rfl,?_⟩;refine G0 ?_;refine⟨1,_,by kernel_rfl,rfl,?_⟩;refine G0 ?_;refine o4 (Ad 19000 9 Ap rfl ?_);refine G1 ?_;intro gg;refine o4 (Ad 20000 9 Aj rfl ?_);refine G0 ?_;refine o4 (Ad 21000 9 Ab rfl ?_);refine G0 ?_;refine o4 (Ad 22000 9 Ab rfl ?_);refine G0 ?_;refine bF ?_;refine G0 ?_;refine bF ?_;refine G0 ?_;refine bF ?_;refine G0 ?_;refine bT ?_;refine G0 ?_;refine⟨0,_,by kernel_rfl,rfl,?_⟩;refine G0 ?_;refine o4 (Ad 28000 9 Ap rfl ?_);refine G1 ?_;intro gg;refine o4 (Ad 29000 9 Aj rfl ?_);refine G0 ?_;refine o4 (Ad 30000 9 Ab rfl ?_);refine G0 ?_;refine o4 (Ad 31000 9 Ab rfl ?_);refine G0 ?_;refine bF ?_;refine G0 ?_;refine bF ?_;refine G0 ?_;refine bF ?_;refine G0 ?_;refine bF ?_;refine G0 ?_;refine⟨0,_,by kernel_rfl,rfl,?_⟩;refine G0 ?_;refine o4 (Ad 37000 9 Ap rfl ?_);refine G1 ?_;intro gg;refine o4 (Ad 38000 9 Aj rfl ?_);refine G0 ?_;refine o4 (Ad 39000 9 Ab rfl ?_);refine G0 ?_;refine o4 (Ad 40000 9 Ab rfl ?_);refine G0 ?_;refine bF ?_;refine G0 ?_;refine bF ?_;refine G0 ?_;refine bF ?_;refine G0 ?_;refine bF ?_;refine G0 ?_;refine⟨0,_,by kernel_rfl,rfl,?_⟩;refine G0 ?_;refine⟨0,_,by kernel_rfl,rfl,?_⟩;refine G0 ?_;refine o4 (Ad 47000 9 Fm rfl ?_);refine G1 ?_;intro gg;refine⟨0,_,by kernel_rfl,rfl,?_⟩;refine G1 ?_;intro gg;refine o4 (Ad 49000 9 Bs rfl ?_);refine G0 ?_;refine o4 (Ad 50000 9 Af rfl ?_);refine G0 ?_;refine⟨2,by kernel_rfl,?_⟩;refine G0 ?_;refine⟨1,_,by kernel_rfl,rfl,?_⟩;refine G0 ?_;refine o4 (Ad 53000 9 Ap rfl ?_);refine G1 ?_;intro gg;refine o4 (Ad 54000 9 Aj rfl ?_);refine G0 ?_;refine o4 (Ad 55000 9 Ab rfl ?_);refine G0 ?_;refine o4 (Ad 56000 9 Ab rfl ?_);refine G0 ?_;refine bF ?_;refine G0 ?_;refine bF ?_;refine G0 ?_;refine bF ?_;refine G0 ?_;refine bF ?_;refine G0 ?_;refine⟨0,_,by kernel_rfl,rfl,?_⟩;refine G0 ?_;refine o4 (Ad 62000 9 Ap rfl ?_);refine G1 ?_;intro gg;refine o4 (Ad 63000 9 Aj rfl ?_);refine G0 ?_;refine o4 (Ad 64000 9 Ab rfl ?_);refine G0 ?_;refine o4 (Ad 65000 9 Ab rfl ?_);refine G0 ?_;refine bF ?_;refine G0 ?_;refine bF ?_;refine G0 ?_;refine bT ?_;refine G0 ?_;refine⟨1,_,by kernel_rfl,rfl,?_⟩;refine G0 ?_;refine o4 (Ad 70000 9 Ap rfl ?_);refine G1 ?_;intro gg;refine o4 (Ad 71000 9 Aj rfl ?_);refine G0 ?_;refine o4 (Ad 72000 9 Ab rfl ?_);refine G0 ?_;refine o4 (Ad 73000 9 Ab rfl ?_);refine G0 ?_;refine bF ?_;refine G0 ?_;refine bF ?_;refine G0 ?_;refine bF ?_;refine G0 ?_;refine bF ?_;refine G0 ?_;refine⟨1,_,by kernel_rfl,rfl,?_⟩;refine G0 ?_;refine .inl ⟨_,_,false,[],aJ,Bbo,Ae,nI,?_⟩;refine G1 ?_;intro gg;(exact⟨[],aJ⟩)
omit hb in
theorem Beg:Fun Tryz.prog 32 [.c (.v (.string a)),.c (.v (.string c)),.c (.v (.int .i64 1)),.c (.v (.bool false))] [.c (.agg (yA a c)),xZ]:=by
 refine Qe 9 W1 rfl ?_;(refine goI ?_;repeat (intro gg;refine goI ?_));refine .inl ⟨_,_,true,[],aJ,ckA ha hc,(fun _=>fJ),nI,?_⟩;refine G1 ?_;intro gg;(exact⟨_,[],.cell1 rfl rfl rfl rfl rfl rfl (.tmp1 rfl .nil),aJ⟩)
omit ha in
theorem Bdm:Fun Tryz.prog 32 [.c (.v (.string b)),.c (.v (.string c)),.c (.v (.int .i64 2)),.c (.v (.bool true))] [.c (.agg (yB b c)),xZ]:=by
 refine Qe 9 W1 rfl ?_;(refine goI ?_;repeat (intro gg;refine goI ?_));refine .inl ⟨_,_,true,[],aJ,ckB hb hc,(fun _=>fJ),nI,?_⟩;refine G1 ?_;intro gg;(exact⟨_,[],.cell1 rfl rfl rfl rfl rfl rfl (.tmp1 rfl .nil),aJ⟩)
omit ha in
theorem Be5:Fun Tryz.prog 34 [.c (.agg (yB b c))] [.c (.agg [.v (.string b),.v (.bool true),.sl false [(xB b)],.sl false [],.sl false [],.sl false []]),xZ]:=by
 refine Qe 9 Acd rfl ?_;(refine goI ?_;repeat (intro gg;refine goI ?_));refine o4 (Ad 1000 9 F7 rfl ?_);refine G1 ?_;intro gg;refine .inl ⟨_,_,false,[],aJ,ckB hb hc,Ae,nI,?_⟩;refine G1 ?_;intro gg;refine⟨_,_,false,aJ,kB,Ae,nI,?_⟩;refine G1 ?_;intro gg;refine⟨_,_,false,aJ,cr0,Ae,nI,?_⟩;refine G1 ?_;intro gg;refine⟨_,_,false,aJ,cs0,Ae,nI,?_⟩;refine G1 ?_;intro gg;refine⟨_,_,false,aJ,cg0,Ae,nI,?_⟩;refine G1 ?_;intro gg;refine⟨_,_,false,aJ,cw0,Ae,nI,?_⟩;(refine goI ?_;repeat (intro gg;refine goI ?_));(exact⟨_,[],.cell1 rfl rfl rfl rfl rfl rfl (.tmp1 rfl .nil),aJ⟩)
omit hc in
theorem Bd7:Fun Tryz.prog 10 [.c (.sl false [(xA a)]),.c (.agg (xB b))] [.o 24 5 [(xA a),(xB b)],.c (.v (.bool true)),xZ]:=by
 refine Do 9 P7 rfl ?_;(refine goI ?_;repeat (intro gg;refine goI ?_));refine o4 (Ad 1000 9 Cw rfl ?_);refine G0 ?_;refine⟨0,_,by kernel_rfl,rfl,?_⟩;refine G0 ?_;refine o4 (Ad 3000 9 De rfl ?_);refine G0 ?_;refine⟨0,_,by kernel_rfl,rfl,?_⟩;refine G1 ?_;intro gg;refine .inl ⟨_,_,false,[],aJ,Aq9 ha,Ae,nI,?_⟩;refine G1 ?_;intro gg;refine .inl ⟨_,_,false,[],aJ,Aph hb,Ae,nI,?_⟩;refine G1 ?_;intro gg;refine⟨_,_,false,aJ,kA,Ae,nI,?_⟩;refine G1 ?_;intro gg;refine o4 (Ad 8000 9 Ro rfl ?_);refine G1 ?_;intro gg;refine o4 (Ad 9000 9 Bs rfl ?_);refine G0 ?_;refine o4 (Ad 10000 9 Af rfl ?_);refine G0 ?_;refine⟨1,by kernel_rfl,?_⟩;refine G0 ?_;refine⟨0,_,by kernel_rfl,rfl,?_⟩;refine G0 ?_;refine o4 (Ad 13000 9 Ap rfl ?_);refine G1 ?_;intro gg;refine o4 (Ad 14000 9 Aj rfl ?_);refine G0 ?_;refine o4 (Ad 15000 9 Ab rfl ?_);refine G0 ?_;refine o4 (Ad 16000 9 Ab rfl ?_);refine G0 ?_;refine bF ?_;refine G0 ?_;refine bF ?_;refine G0 ?_;refine bT ?_;refine G1 ?_;intro gg;refine .inl ⟨_,_,true,[336,128336],aJ,Bdr,(fun _=>fJ),nI,?_⟩;refine G1 ?_;intro gg;(exact⟨[128352],aJ⟩)
omit ha hc in
theorem Bcj:Fun Tryz.prog 37 [.c (.sl false []),.c (.agg (xB b))] [.o 91 6 [(xR b)],xZ]:=by
 refine Do 9 Tj rfl ?_;refine G1 ?_;intro gg;refine .inl ⟨_,_,false,[],aJ,Bb1,Ae,nI,?_⟩;refine G1 ?_;intro gg;refine o4 (Ad 2000 9 G3 rfl ?_);refine G1 ?_;intro gg;refine .inl ⟨_,_,false,[],aJ,Aph hb,Ae,nI,?_⟩;refine G1 ?_;intro gg;refine .inl ⟨_,_,false,[],aJ,cr0,Ae,nI,?_⟩;refine G1 ?_;intro gg;refine o4 (Ad 5000 9 Aw rfl ?_);refine G1 ?_;intro gg;refine⟨lI,lI,?_⟩;refine G1 ?_;intro gg;(exact⟨[288],aJ⟩)
theorem Bb8:Fun Tryz.prog 35 [.c (.agg (yA a c)),.c (.agg [.v (.string b),.v (.bool true),.sl false [(xB b)],.sl false [],.sl false [],.sl false []])] [.c (.agg (yC a b c)),xZ]:=by
 refine Qe 9 Aft rfl ?_;(refine goI ?_;repeat (intro gg;refine goI ?_));refine o4 (Ad 1000 9 F7 rfl ?_);refine G1 ?_;intro gg;refine .inl ⟨_,_,false,[],aJ,ckA ha hc,Ae,nI,?_⟩;refine G1 ?_;intro gg;refine⟨_,_,false,aJ,kA,Ae,nI,?_⟩;refine G1 ?_;intro gg;refine⟨_,_,false,aJ,cr0,Ae,nI,?_⟩;refine G1 ?_;intro gg;refine⟨_,_,false,aJ,cs0,Ae,nI,?_⟩;refine G1 ?_;intro gg;refine⟨_,_,false,aJ,cg0,Ae,nI,?_⟩;refine G1 ?_;intro gg;refine⟨_,_,false,aJ,cw0,Ae,nI,?_⟩;(refine goI ?_;repeat (intro gg;refine goI ?_));refine o4 (Ad 8000 9 X4 rfl ?_);refine G1 ?_;intro gg;refine .inl ⟨_,_,false,[],aJ,Aas hb,Ae,nI,?_⟩;refine G1 ?_;intro gg;refine⟨_,_,false,aJ,Bb7 hb,Ae,nI,?_⟩;refine G1 ?_;intro gg;refine⟨_,_,false,aJ,Asz,Ae,nI,?_⟩;refine G1 ?_;intro gg;refine⟨_,_,false,aJ,Ar2,Ae,nI,?_⟩;refine G1 ?_;intro gg;refine⟨_,_,false,aJ,Asn,Ae,nI,?_⟩;(refine goI ?_;repeat (intro gg;refine goI ?_));refine⟨0,_,by kernel_rfl,rfl,?_⟩;refine G0 ?_;refine⟨1,_,by kernel_rfl,rfl,?_⟩;refine G0 ?_;refine⟨2,_,by kernel_rfl,rfl,?_⟩;refine G0 ?_;refine⟨3,_,by kernel_rfl,rfl,?_⟩;refine G0 ?_;refine⟨0,_,by kernel_rfl,rfl,?_⟩;refine G1 ?_;intro gg;refine o4 (Ad 19000 9 Ic rfl ?_);refine G1 ?_;intro gg;refine .inl ⟨_,_,true,[],aJ,Bd7 ha hb,(fun _=>fJ),nI,?_⟩;refine G1 ?_;intro gg;refine o4 (Ad 21000 9 K0 rfl ?_);refine G0 ?_;refine o4 (Ad 22000 9 Bs rfl ?_);refine G0 ?_;refine o4 (Ad 23000 9 Af rfl ?_);refine G0 ?_;refine⟨2,by kernel_rfl,?_⟩;refine G0 ?_;refine⟨1,_,by kernel_rfl,rfl,?_⟩;refine G0 ?_;refine o4 (Ad 26000 9 Ap rfl ?_);refine G1 ?_;intro gg;refine o4 (Ad 27000 9 Aj rfl ?_);refine G0 ?_;refine o4 (Ad 28000 9 Ab rfl ?_);refine G0 ?_;refine o4 (Ad 29000 9 Ab rfl ?_);refine G0 ?_;refine bF ?_;refine G0 ?_;refine bF ?_;refine G0 ?_;refine bF ?_;refine G0 ?_;refine bF ?_;refine G0 ?_;refine⟨0,_,by kernel_rfl,rfl,?_⟩;refine G0 ?_;refine o4 (Ad 35000 9 Ap rfl ?_);refine G1 ?_;intro gg;refine o4 (Ad 36000 9 Aj rfl ?_);refine G0 ?_;refine o4 (Ad 37000 9 Ab rfl ?_);refine G0 ?_;refine o4 (Ad 38000 9 Ab rfl ?_);refine G0 ?_;refine bF ?_;refine G0 ?_;refine bF ?_;refine G0 ?_;refine bT ?_;refine G0 ?_;refine⟨1,_,by kernel_rfl,rfl,?_⟩;refine G0 ?_;refine o4 (Ad 43000 9 Ap rfl ?_);refine G1 ?_;intro gg;refine o4 (Ad 44000 9 Aj rfl ?_);refine G0 ?_;refine o4 (Ad 45000 9 Ab rfl ?_);refine G0 ?_;refine o4 (Ad 46000 9 Ab rfl ?_);refine G0 ?_;refine bF ?_;refine G0 ?_;refine bF ?_;refine G0 ?_;refine bF ?_;refine G0 ?_;refine bF ?_;refine G0 ?_;refine⟨1,_,by kernel_rfl,rfl,?_⟩;refine G0 ?_;refine .inl ⟨_,_,true,[],aJ,Bcj hb,(fun _=>fJ),nI,?_⟩;refine G1 ?_;intro gg;refine bT ?_;refine G0 ?_;refine⟨_,_,true,aJ,Bcn,(fun _=>fJ),nI,?_⟩;refine G1 ?_;intro gg;refine⟨_,_,true,aJ,Bcy,(fun _=>fJ),nI,?_⟩;refine G1 ?_;intro gg;(exact⟨_,[],.cell1 rfl rfl rfl rfl rfl rfl (.tmp1 rfl .nil),aJ⟩)
omit hc in
theorem Bdp:Fun Tryz.prog 10 [.c (.sl false [(xA a),(xB b)]),.c (.agg (xC b))] [.o 24 5 [(xA a),(xC b)],.c (.v (.bool true)),xZ]:=by
 refine Do 9 P7 rfl ?_;(refine goI ?_;repeat (intro gg;refine goI ?_));refine o4 (Ad 1000 9 Cw rfl ?_);refine G0 ?_;refine⟨0,_,by kernel_rfl,rfl,?_⟩;refine G0 ?_;refine o4 (Ad 3000 9 De rfl ?_);refine G0 ?_;refine⟨0,_,by kernel_rfl,rfl,?_⟩;refine G1 ?_;intro gg;refine .inl ⟨_,_,false,[],aJ,Aq9 ha,Ae,nI,?_⟩;refine G1 ?_;intro gg;refine⟨1,_,by kernel_rfl,rfl,?_⟩;refine G1 ?_;intro gg;refine .inl ⟨_,_,false,[],aJ,Aph hb,Ae,nI,?_⟩;refine G1 ?_;intro gg;refine⟨1,_,by kernel_rfl,rfl,?_⟩;refine G0 ?_;refine⟨0,_,by kernel_rfl,rfl,?_⟩;refine G0 ?_;refine bF ?_;refine G0 ?_;refine .inl ⟨_,_,false,[],aJ,Aji hb,Ae,nI,?_⟩;refine G1 ?_;intro gg;refine⟨_,_,false,aJ,kAB,Ae,nI,?_⟩;refine G1 ?_;intro gg;refine o4 (Ad 13000 9 Ro rfl ?_);refine G1 ?_;intro gg;refine o4 (Ad 14000 9 Bs rfl ?_);refine G0 ?_;refine o4 (Ad 15000 9 Af rfl ?_);refine G0 ?_;refine⟨2,by kernel_rfl,?_⟩;refine G0 ?_;refine⟨1,_,by kernel_rfl,rfl,?_⟩;refine G0 ?_;refine o4 (Ad 18000 9 Ap rfl ?_);refine G1 ?_;intro gg;refine o4 (Ad 19000 9 Aj rfl ?_);refine G0 ?_;refine o4 (Ad 20000 9 Ab rfl ?_);refine G0 ?_;refine o4 (Ad 21000 9 Ab rfl ?_);refine G0 ?_;refine bF ?_;refine G0 ?_;refine bF ?_;refine G0 ?_;refine bF ?_;refine G0 ?_;refine bF ?_;refine G0 ?_;refine⟨0,_,by kernel_rfl,rfl,?_⟩;refine G0 ?_;refine o4 (Ad 27000 9 Ap rfl ?_);refine G1 ?_;intro gg;refine o4 (Ad 28000 9 Aj rfl ?_);refine G0 ?_;refine o4 (Ad 29000 9 Ab rfl ?_);refine G0 ?_;refine o4 (Ad 30000 9 Ab rfl ?_);refine G0 ?_;refine bF ?_;refine G0 ?_;refine bF ?_;refine G0 ?_;refine bT ?_;refine G0 ?_;refine⟨1,_,by kernel_rfl,rfl,?_⟩;refine G0 ?_;refine o4 (Ad 35000 9 Ap rfl ?_);refine G1 ?_;intro gg;refine o4 (Ad 36000 9 Aj rfl ?_);refine G0 ?_;refine o4 (Ad 37000 9 Ab rfl ?_);refine G0 ?_;refine o4 (Ad 38000 9 Ab rfl ?_);refine G0 ?_;refine bF ?_;refine G0 ?_;refine bF ?_;refine G0 ?_;refine bF ?_;refine G0 ?_;refine bF ?_;refine G0 ?_;refine⟨1,_,by kernel_rfl,rfl,?_⟩;refine G0 ?_;refine .inl ⟨_,_,false,[],aJ,Axp,Ae,nI,?_⟩;refine G1 ?_;intro gg;refine⟨1,_,by kernel_rfl,rfl,?_⟩;refine G0 ?_;(exact⟨[336],aJ⟩)
omit ha hc in
theorem Be1:Fun Tryz.prog 37 [.c (.sl false [(xR b)]),.c (.agg (xC b))] [.o 91 6 [(xS b)],xZ]:=by
 refine Do 9 Tj rfl ?_;refine G1 ?_;intro gg;refine .inl ⟨_,_,false,[],aJ,Bcm hb,Ae,nI,?_⟩;refine G1 ?_;intro gg;refine o4 (Ad 2000 9 G3 rfl ?_);refine G1 ?_;intro gg;refine .inl ⟨_,_,false,[],aJ,Aji hb,Ae,nI,?_⟩;refine G1 ?_;intro gg;refine .inl ⟨_,_,false,[],aJ,crB,Ae,nI,?_⟩;refine G1 ?_;intro gg;refine o4 (Ad 5000 9 Aw rfl ?_);refine G0 ?_;refine⟨0,_,by kernel_rfl,rfl,?_⟩;refine G0 ?_;refine o4 (Ad 7000 9 Aal rfl ?_);refine G1 ?_;intro gg;refine bT ?_;refine G0 ?_;refine⟨0,_,by kernel_rfl,rfl,?_⟩;refine G0 ?_;refine .inl ⟨_,_,false,[],aJ,Axp,Ae,nI,?_⟩;refine G1 ?_;intro gg;refine .inl ⟨_,_,true,[288],aJ,Bed,(fun _=>fJ),nI,?_⟩;(refine goI ?_;repeat (intro gg;refine goI ?_));refine⟨lI,lI,?_⟩;refine G1 ?_;intro gg;(exact⟨[592],aJ⟩)
theorem Be7:Fun Tryz.prog 71 [.c (.agg (yC a b c)),.c (.v (.string b))] [.c (.agg (yD a b c)),xZ]:=by
 refine Qe 9 Acl rfl ?_;(refine goI ?_;repeat (intro gg;refine goI ?_));refine o4 (Aob 1000 9 Aeb rfl ?_);(refine goI ?_;repeat (intro gg;refine goI ?_));refine o4 (Ad 2000 9 F7 rfl ?_);refine G1 ?_;intro gg;refine .inl ⟨_,_,false,[],aJ,Bea ha hb hc,Ae,nI,?_⟩;refine G1 ?_;intro gg;refine⟨_,_,false,aJ,kAB,Ae,nI,?_⟩;refine G1 ?_;intro gg;refine⟨_,_,false,aJ,crB,Ae,nI,?_⟩;refine G1 ?_;intro gg;refine⟨_,_,false,aJ,cs0,Ae,nI,?_⟩;refine G1 ?_;intro gg;refine⟨_,_,false,aJ,cg0,Ae,nI,?_⟩;refine G1 ?_;intro gg;refine⟨_,_,false,aJ,cw0,Ae,nI,?_⟩;(refine goI ?_;repeat (intro gg;refine goI ?_));refine o4 (Ad 9000 9 Bs rfl ?_);refine G0 ?_;refine o4 (Ad 10000 9 Af rfl ?_);refine G0 ?_;refine⟨2,by kernel_rfl,?_⟩;refine G0 ?_;refine⟨1,_,by kernel_rfl,rfl,?_⟩;refine G0 ?_;refine o4 (Ad 13000 9 Ap rfl ?_);refine G1 ?_;intro gg;refine o4 (Ad 14000 9 Aj rfl ?_);refine G0 ?_;refine o4 (Ad 15000 9 Ab rfl ?_);refine G0 ?_;refine o4 (Ad 16000 9 Ab rfl ?_);refine G0 ?_;refine bF ?_;refine G0 ?_;refine bF ?_;refine G0 ?_;refine bF ?_;refine G0 ?_;refine bF ?_;refine G0 ?_;refine⟨0,_,by kernel_rfl,rfl,?_⟩;refine G0 ?_;refine o4 (Ad 22000 9 Ap rfl ?_);refine G1 ?_;intro gg;refine o4 (Ad 23000 9 Aj rfl ?_);refine G0 ?_;refine o4 (Ad 24000 9 Ab rfl ?_);refine G0 ?_;refine o4 (Ad 25000 9 Ab rfl ?_);refine G0 ?_;refine bF ?_;refine G0 ?_;refine bF ?_;refine G0 ?_;refine bT ?_;refine G0 ?_;refine⟨1,_,by kernel_rfl,rfl,?_⟩;refine G0 ?_;refine o4 (Ad 30000 9 Ap rfl ?_);refine G1 ?_;intro gg;refine o4 (Ad 31000 9 Aj rfl ?_);refine G0 ?_;refine o4 (Ad 32000 9 Ab rfl ?_);refine G0 ?_;refine o4 (Ad 33000 9 Ab rfl ?_);refine G0 ?_;refine bF ?_;refine G0 ?_;refine bF ?_;refine G0 ?_;refine bF ?_;refine G0 ?_;refine bF ?_;refine G0 ?_;refine .inl ⟨_,_,false,[],aJ,Aas hb,Ae,nI,?_⟩;refine G1 ?_;intro gg;refine bF ?_;refine G0 ?_;refine⟨1,_,by kernel_rfl,rfl,?_⟩;refine G0 ?_;refine⟨1,_,by kernel_rfl,rfl,?_⟩;refine G1 ?_;intro gg;refine o4 (Ad 42000 9 Ic rfl ?_);refine G1 ?_;intro gg;refine .inl ⟨_,_,true,[],aJ,Bdp ha hb,(fun _=>fJ),nI,?_⟩;refine G1 ?_;intro gg;refine o4 (Ad 44000 9 K0 rfl ?_);refine G0 ?_;refine o4 (Ad 45000 9 Bs rfl ?_);refine G0 ?_;refine o4 (Ad 46000 9 Af rfl ?_);refine G0 ?_;refine⟨2,by kernel_rfl,?_⟩;refine G0 ?_;refine⟨1,_,by kernel_rfl,rfl,?_⟩;refine G0 ?_;refine o4 (Ad 49000 9 Ap rfl ?_);refine G1 ?_;intro gg;refine o4 (Ad 50000 9 Aj rfl ?_);refine G0 ?_;refine o4 (Ad 51000 9 Ab rfl ?_);refine G0 ?_;refine o4 (Ad 52000 9 Ab rfl ?_);refine G0 ?_;refine bF ?_;refine G0 ?_;refine bF ?_;refine G0 ?_;refine bF ?_;refine G0 ?_;refine bF ?_;refine G0 ?_;refine⟨0,_,by kernel_rfl,rfl,?_⟩;refine G0 ?_;refine o4 (Ad 58000 9 Ap rfl ?_);refine G1 ?_;intro gg;refine o4 (Ad 59000 9 Aj rfl ?_);refine G0 ?_;refine o4 (Ad 60000 9 Ab rfl ?_);refine G0 ?_;refine o4 (Ad 61000 9 Ab rfl ?_);refine G0 ?_;refine bF ?_;refine G0 ?_;refine bF ?_;refine G0 ?_;refine bT ?_;refine G0 ?_;refine⟨1,_,by kernel_rfl,rfl,?_⟩;refine G0 ?_;refine o4 (Ad 66000 9 Ap rfl ?_);refine G1 ?_;intro gg;refine o4 (Ad 67000 9 Aj rfl ?_);refine G0 ?_;refine o4 (Ad 68000 9 Ab rfl ?_);refine G0 ?_;refine o4 (Ad 69000 9 Ab rfl ?_);refine G0 ?_;refine bF ?_;refine G0 ?_;refine bF ?_;refine G0 ?_;refine bF ?_;refine G0 ?_;refine bF ?_;refine G0 ?_;refine⟨1,_,by kernel_rfl,rfl,?_⟩;refine G0 ?_;refine .inl ⟨_,_,true,[],aJ,Be1 hb,(fun _=>fJ),nI,?_⟩;refine G1 ?_;intro gg;refine bT ?_;refine G0 ?_;refine o4 (Aob 77000 9 Re rfl ?_);refine G1 ?_;intro gg;(exact⟨_,[],.cell1 rfl rfl rfl rfl rfl rfl (.tmp1 rfl .nil),aJ⟩)
theorem Bdv:Fun Tryz.prog 72 [.c (.agg (yD a b c))] [.c (.agg [.v (.string a),.v (.string c),.sl false [(xA a),(xC b)],.sl false [[.v (.string b),.v (.int .i64 2),.v (.int .i64 1),.v (.int .i64 2),.v (.bool true),.v (.int .i64 1)]],.sl false [],.sl false [],.v (.int .i64 0),.v (.int .i64 0),.v (.int .i64 0),.v (.int .i64 0),.v (.int .i64 1000),.sl false []]),.c (.agg [.v (.string a),.v (.bool false),.sl false [(xC b)],.sl false [],.sl false [],.sl false []]),xZ]:=by
 refine Qe 9 Aec rfl ?_;(refine goI ?_;repeat (intro gg;refine goI ?_));refine o4 (Ad 1000 9 F7 rfl ?_);refine G1 ?_;intro gg;refine .inl ⟨_,_,false,[],aJ,Beh ha hb hc,Ae,nI,?_⟩;refine G1 ?_;intro gg;refine⟨_,_,false,aJ,Beb,Ae,nI,?_⟩;refine G1 ?_;intro gg;refine⟨_,_,false,aJ,Bca,Ae,nI,?_⟩;refine G1 ?_;intro gg;refine⟨_,_,false,aJ,cs0,Ae,nI,?_⟩;refine G1 ?_;intro gg;refine⟨_,_,false,aJ,cg0,Ae,nI,?_⟩;refine G1 ?_;intro gg;refine⟨_,_,false,aJ,cw0,Ae,nI,?_⟩;(refine goI ?_;repeat (intro gg;refine goI ?_));refine o4 (Ad 8000 9 Aa6 rfl ?_);refine G1 ?_;intro gg;refine o4 (Ad 9000 9 Cw rfl ?_);refine G0 ?_;refine⟨0,_,by kernel_rfl,rfl,?_⟩;refine G0 ?_;refine o4 (Ad 11000 9 De rfl ?_);refine G0 ?_;refine⟨0,_,by kernel_rfl,rfl,?_⟩;refine G1 ?_;intro gg;refine .inl ⟨_,_,false,[],aJ,Aq9 ha,Ae,nI,?_⟩;refine G1 ?_;intro gg;refine⟨1,_,by kernel_rfl,rfl,?_⟩;refine G1 ?_;intro gg;refine .inl ⟨_,_,false,[],aJ,Aji hb,Ae,nI,?_⟩;refine G1 ?_;intro gg;refine⟨1,_,by kernel_rfl,rfl,?_⟩;refine G0 ?_;refine⟨0,_,by kernel_rfl,rfl,?_⟩;refine G0 ?_;refine bF ?_;refine G0 ?_;refine⟨0,_,by kernel_rfl,rfl,?_⟩;(refine goI ?_;repeat (intro gg;refine goI ?_));refine⟨lI,lI,?_⟩;refine G1 ?_;intro gg;refine⟨1,_,by kernel_rfl,rfl,?_⟩;(refine goI ?_;repeat (intro gg;refine goI ?_));refine⟨lI,lI,?_⟩;refine G1 ?_;intro gg;refine o4 (Ad 23000 9 Ab3 rfl ?_);refine G0 ?_;refine⟨by omega,1,by kernel_rfl,?_⟩;refine G0 ?_;refine⟨by omega,2,by kernel_rfl,?_⟩;refine G0 ?_;refine⟨by omega,4,by kernel_rfl,?_⟩;refine G0 ?_;refine o4 (Ad 27000 9 Aca rfl ?_);(refine goI ?_;repeat (intro gg;refine goI ?_));refine .inl ⟨_,_,true,[],aJ,Axo hb,(fun _=>fJ),nI,?_⟩;refine G1 ?_;intro gg;refine⟨1,by kernel_rfl,?_⟩;refine G0 ?_;refine⟨by decide,by decide,?_⟩;refine G1 ?_;intro gg;refine⟨0,_,by kernel_rfl,rfl,?_⟩;refine G0 ?_;refine o4 (Ad 32000 9 K5 rfl ?_);refine G0 ?_;refine⟨1,by kernel_rfl,?_⟩;refine G0 ?_;refine o4 (Ad 34000 9 Nf rfl ?_);refine G0 ?_;refine o4 (Ad 35000 9 Kz rfl ?_);refine G0 ?_;refine⟨1,by kernel_rfl,?_⟩;refine G0 ?_;refine⟨1,_,by kernel_rfl,rfl,?_⟩;refine G0 ?_;refine⟨1,by kernel_rfl,?_⟩;refine G0 ?_;refine o4 (Ad 39000 9 Jm rfl ?_);refine G0 ?_;refine⟨1,by kernel_rfl,?_⟩;refine G0 ?_;refine o4 (Ad 41000 9 G9 rfl ?_);refine G0 ?_;refine .inl ⟨_,_,true,[],aJ,Bca,(fun _=>fJ),nI,?_⟩;refine G1 ?_;intro gg;refine⟨0,0,1,rfl,rfl,⟨.i64,rfl⟩,ZU _,Nat.le_of_ble_eq_true rfl,rfl,rfl,fun gg=>?_⟩;refine G0 ?_;refine⟨0,_,by kernel_rfl,rfl,?_⟩;refine G0 ?_;refine⟨0,_,by kernel_rfl,rfl,?_⟩;refine G1 ?_;intro gg;refine⟨lI,lI,?_⟩;refine G1 ?_;intro gg;refine⟨0,_,by kernel_rfl,rfl,?_⟩;refine G0 ?_;refine⟨0,_,by kernel_rfl,rfl,?_⟩;refine G0 ?_;refine o4 (Ad 49000 9 Fe rfl ?_);refine G0 ?_;refine o4 (Ad 50000 9 Aw rfl ?_);refine G0 ?_;refine⟨0,_,by kernel_rfl,rfl,?_⟩;refine G0 ?_;refine o4 (Ad 52000 9 Ya rfl ?_);refine G1 ?_;intro gg;refine o4 (Ad 53000 9 Fb rfl ?_);refine G0 ?_;refine⟨1,by kernel_rfl,?_⟩;refine G0 ?_;refine o4 (Ad 55000 9 Nf rfl ?_);refine G0 ?_;refine o4 (Ad 56000 9 Kz rfl ?_);refine G0 ?_;refine⟨1,by kernel_rfl,?_⟩;refine G0 ?_;refine⟨1,_,by kernel_rfl,rfl,?_⟩;refine G0 ?_;refine⟨1,by kernel_rfl,?_⟩;refine G0 ?_;refine o4 (Ad 60000 9 Gt rfl ?_);refine G0 ?_;refine⟨1,by kernel_rfl,?_⟩;refine G0 ?_;refine o4 (Ad 62000 9 E6 rfl ?_);refine G0 ?_;(exact Bds (.cell1 rfl rfl rfl rfl rfl rfl (.cell1 rfl rfl rfl rfl rfl rfl (.tmp1 rfl .nil))) cJ cJ (A9 rfl))
end
theorem Zk:Fun Tryz.prog 25 [] [.c (.v (.bool true))]:=by
 obtain⟨a,ha⟩:∃s,(⟨#[97]⟩:ByteArray)=s:=⟨_,rfl⟩;obtain⟨b,hb⟩:∃s,(⟨#[98]⟩:ByteArray)=s:=⟨_,rfl⟩;obtain⟨c,hc⟩:∃s,(⟨#[99]⟩:ByteArray)=s:=⟨_,rfl⟩;refine Av Nz rfl ?_;refine G0 ?_;rw[ha];rw[hb];rw[hc];refine .inl ⟨_,_,false,[],aJ,Beg ha hc,Ae,nI,?_⟩;(refine goI ?_;repeat (intro gg;refine goI ?_));refine .inl ⟨_,_,false,[],aJ,Bdm hb hc,Ae,nI,?_⟩;(refine goI ?_;repeat (intro gg;refine goI ?_));refine .inl ⟨_,_,false,[],aJ,Be5 hb hc,Ae,nI,?_⟩;(refine goI ?_;repeat (intro gg;refine goI ?_));refine .inl ⟨_,_,false,[],aJ,Bb8 ha hb hc,Ae,nI,?_⟩;refine G1 ?_;intro gg;refine .inl ⟨_,_,false,[],aJ,Be7 ha hb hc,Ae,nI,?_⟩;refine G1 ?_;intro gg;refine .inl ⟨_,_,false,[],aJ,Bdv ha hb hc,Ae,nI,?_⟩;(refine goI ?_;repeat (intro gg;refine goI ?_));refine⟨0,_,by kernel_rfl,rfl,?_⟩;refine G0 ?_;(exact⟨[],aJ⟩)
theorem Ayl(row:List V)(h:Rf [.s,.s,.l [.s,.i,.i,.i,.b],.l [.s,.i,.i,.i,.b,.i],.l [.s,.s,.s,.s,.i,.i,.b,.i,.b],.l [.s,.i,.i],.i,.i,.i,.i,.i,.l [.s,.i,.i,.i,.i,.i]] row):∃n:Nd,row=n.row∧n.ok:=by
 obtain⟨u0,_,rfl,f0,h⟩:=Ax h;obtain⟨u1,_,rfl,f1,h⟩:=Ax h;obtain⟨u2,_,rfl,f2,h⟩:=Ax h;obtain⟨u3,_,rfl,f3,h⟩:=Ax h;obtain⟨u4,_,rfl,f4,h⟩:=Ax h;obtain⟨u5,_,rfl,f5,h⟩:=Ax h;obtain⟨u6,_,rfl,f6,h⟩:=Ax h;obtain⟨u7,_,rfl,f7,h⟩:=Ax h;obtain⟨u8,_,rfl,f8,h⟩:=Ax h;obtain⟨u9,_,rfl,f9,h⟩:=Ax h;obtain⟨u10,_,rfl,f10,h⟩:=Ax h;obtain⟨u11,_,rfl,f11,h⟩:=Ax h;obtain rfl:=Kt h;obtain⟨nm,rfl,hn⟩:=Lx f0;obtain⟨ce,rfl,hc⟩:=Lx f1;obtain⟨ms,rfl,m1,m2⟩:=Ph Bat f2;obtain⟨rs,rfl,r1,r2⟩:=Ph Baw f3;obtain⟨sv,rfl,s1,s2⟩:=Ph Ayt f4;obtain⟨gs,rfl,g1,g2⟩:=Ph Ayr f5;obtain⟨a,rfl,_⟩:=Gc f6;obtain⟨b,rfl,_⟩:=Gc f7;obtain⟨c,rfl,_⟩:=Gc f8;obtain⟨d,rfl,_⟩:=Gc f9;obtain⟨e,rfl,_⟩:=Gc f10;obtain⟨wh,rfl,w1,w2⟩:=Ph Ba1 f11;exact⟨⟨nm,ce,ms,rs,sv,gs,⟨a,b,c,d,e⟩,wh⟩,rfl,⟨hn,hc,m1,m2,r1,r2,s1,s2,g1,g2,w1,w2⟩⟩
structure Pk.ok0(p:Pk):Prop where
 fr:p.fr.size≤9223372036854775807
 msl:p.ms.length≤9223372036854775807
 ms:∀x∈p.ms,x.ok
 sv:∀x∈p.sv,x.ok
 gs:∀x∈p.gs,x.ok
 wh:∀x∈p.wh,x.ok
theorem Pk.ok0.ok{p:Pk}(h:Pk.ok0 p)(h3:(p.sv.map Sv.row).length≤140737488351232)(h4:(p.gs.map Gw.row).length≤140737488351232)(h5:(p.wh.map Wh.row).length≤140737488351232):p.ok:=by
 rw[ZE]at h3 h4 h5;exact⟨h.fr,h.msl,h.ms,by omega,h.sv,by omega,h.gs,by omega,h.wh⟩


namespace Pl
end Pl
namespace Pl
end Pl
namespace Pl
open Classical in
noncomputable def Bc6(l:List Mb):Int:=if 5<l.length then 2 else if Aq Mb.err l≠0 then Aq Mb.err l else if(l.map Mb.n).Nodup then 0 else 6
noncomputable def Pk.cks(p:Pk):List Int:=[E5 p.ms,D3 p.sv,Eg p.gs,H9 p.wh]
noncomputable def Pk.err(p:Pk):Int:=
 if lab p.fr.data.toList=false then 1 else if p.wo=false then(if p.sv.length+p.gs.length+p.wh.length=0 then Bc6 p.ms else 1)else Aq (fun e=>e) p.cks
theorem Pk.err_form{p:Pk}(h:lab p.fr.data.toList=false):p.err=1:=if_pos h
end Pl
namespace Pl
def Wh.cf(name:ByteArray)(g:Wh):Int:=Dg g.nd name
theorem Wh.lt_cf(name:ByteArray)(x y:Wh)(h:Wh.lt x y=true)(hy:Wh.cf name y≤0):Wh.cf name x<0:=by
 unfold Wh.cf at *;rw[I6];rcases Bool.eq_false_or_eq_true (slt y.nd name)with g|g
 ·exact D5 h g
 ·have h0:Dg y.nd name=0:=by
   rcases(by omega:Dg y.nd name<0∨Dg y.nd name=0)with q|q
   ·rw[I6]at q;rw[q]at g;cases g
   ·exact q
  rw[Ct]at h0;rw[←h0];exact h
theorem Wh.lt_trans(x y z:Wh)(h1:Wh.lt x y=true)(h2:Wh.lt y z=true):Wh.lt x z=true:=D5 h1 h2
theorem Wh.smono{l:List Wh}(h:Bt Wh.lt l=true)(name:ByteArray):Rx (Wh.cf name) l:=Pq Wh.lt_trans (Wh.lt_cf name) h
def Wh.kf(g x:Wh):Int:=Wh.cf g.nd x
end Pl
namespace Pl
def Wh.is(name:ByteArray)(m:Wh):Bool:=m.nd.toList==name.toList
def Wh.ne(m x:Wh):Bool:= !(x.nd.toList==m.nd.toList)
theorem Wh.is_eq(name:ByteArray):Wh.is name=fun x=>decide (Wh.cf name x=0):=by
 funext x;unfold Wh.is Wh.cf;by_cases h:x.nd=name
 ·rw[h,Ol];simp
 ·have h2:Dg x.nd name≠0:=fun e=>h (Ct.1 e);rw[Zr h];simp[h2]
theorem Wh.ne_eq(m:Wh):Wh.ne m=fun x=>decide (Wh.kf m x≠0):=by
 funext x;have:=congrFun (Wh.is_eq m.nd) x;unfold Wh.is at this;unfold Wh.ne Wh.kf;rw[this];simp
theorem Wh.at_eq{l:List Wh}(hs:Bt Wh.lt l=true)(name:ByteArray):at_ (Wh.is name) l=if hit (Wh.cf name) l=true then(low (Wh.cf name) l:Int)else -1:=by
 rw[Wh.is_eq];exact Qq (Wh.smono hs name)
def Wh.same(g h:Wh):Bool:=(g.nd.toList==h.nd.toList)&&((g.pl.x==h.pl.x)&&((g.pl.y==h.pl.y)&&((g.pl.z==h.pl.z)&&((g.pl.h==h.pl.h)&&((g.pl.s==h.pl.s)&&true)))))
end Pl
theorem Ajk(c:Bool)(l:List Wh)(hl:l.length≤9223372036854775807)(hw:∀x∈l,x.ok):Fun Tryz.prog 68 [.c (.sl c (l.map Wh.row))] [.c (.v (.int .i64 (H9 l)))]:=by
 refine Av Mk rfl ?_;refine G0 ?_;rw[ZE];(refine Aa (fun h1=>?_) (fun h1=>?_)<;>rw[h1])
 ·refine G0 ?_;have e:H9 l=2:=Jf (by have:=ZV h1;omega);rw[e];(exact⟨[],aI⟩)
 ·have h1':¬20<l.length:=(by have:=ZW h1;omega);refine G0 ?_;(refine⟨[],none,{k:Nat//k≤l.length∧∀j,(h:j<l.length)→j<k→Wh.err l[j]=0},[0],fun⟨k,hk,h0⟩=>[(3,.v (.int .i64 k))],[],fun⟨k,hk,h0⟩=>[],fun⟨k,hk,h0⟩=>l.length-k,trivial,fun _=>⟨trivial,fun _=>⟨⟨0,ZU _,fun j _ h=>absurd h (Nat.not_lt_zero _)⟩,tI,An _ _,tI,Am _ _⟩⟩,fun⟨k,hk,h0⟩=>?_⟩);refine G0 ?_;rw[ZE];(refine Aa (fun h2=>?_) (fun h2=>?_)<;>rw[h2])
  ·have hlt:k<l.length:=(by have:=ZV h2;omega);refine G0 ?_;refine⟨k,_,rfl,Ao hlt,?_⟩;refine G0 ?_;have hx:=hw _ (ZK hlt);refine .inl (cX (Es (l[k]).nd hx) ?_);refine G1 ?_;intro gg;have HE:=Bx (e:=Wh.err) hlt h0;(refine Aa (fun h3=>?_) (fun h3=>?_)<;>rw[h3])
   ·have h3':lab (l[k]).nd.data.toList=false:=Dr h3;refine G0 ?_;have e1:Wh.err l[k]=1:=by unfold Wh.err;rw[h3'];rfl
    have e:H9 l=1:=by unfold H9;rw[Gv h1' (by rw[HE (by rw[e1];decide),e1];decide),HE (by rw[e1];decide),e1]
    rw[e];(exact⟨[],aI⟩)
   ·have h3':lab (l[k]).nd.data.toList=true:=Ci h3;have e1:Wh.err l[k]=(l[k]).pl.err:=by unfold Wh.err;rw[h3'];rfl
    refine G0 ?_;refine⟨k,_,rfl,Ao hlt,?_⟩;refine G0 ?_;refine .inl (cX (Xf (l[k]).pl) ?_);refine G1 ?_;intro gg;(refine Aa (fun h4=>?_) (fun h4=>?_)<;>rw[h4])
    ·have h4':(l[k]).pl.err≠0:=by simpa using h4
     refine G0 ?_;have e:H9 l=(l[k]).pl.err:=by unfold H9;rw[Gv h1' (by rw[HE (by rw[e1];exact h4'),e1];exact h4'),HE (by rw[e1];exact h4'),e1]
     rw[e];(exact⟨[],aI⟩)
    ·have h4':(l[k]).pl.err=0:=by simpa using h4
     refine G0 ?_;(exact⟨none,trivial,fun _=>⟨⟨k+1,by omega,up1 (p:=fun j h=>Wh.err l[j]=0) h0 (fun _=>e1.trans h4')⟩,by show l.length-(k+1)<l.length-k;omega,tI,tI,tI,tI⟩⟩)
  ·have hge:¬k<l.length:=(by have:=ZW h2;omega);have h2':Aq Wh.err l=0:=Ba fun i hi=>h0 i hi (by omega);refine G0 ?_;(refine⟨[],none,{q:Nat//(q<l.length∨q=0)∧∀i,(h:i+1<l.length)→i<q→Wh.lt l[i] l[i+1]=true},[0],fun⟨q,hq,g0⟩=>[(5,.v (.int .i64 ((q:Int)+1)))],[],fun⟨q,hq,g0⟩=>[],fun⟨q,hq,g0⟩=>l.length-q,trivial,fun _=>⟨trivial,fun _=>⟨⟨0,by omega,fun j _ h=>by omega⟩,tI,An _ _,tI,Am _ _⟩⟩,fun⟨q,hq,g0⟩=>?_⟩);refine G0 ?_;rw[ZE];(refine Aa (fun h3=>?_) (fun h3=>?_)<;>rw[h3])
   ·have hlt3:q+1<l.length:=(by have:=ZV h3;omega);refine G0 ?_;refine⟨q+1,_,by omega,Ao hlt3,?_⟩;refine G0 ?_;refine⟨q,_,by omega,Ao (by omega),?_⟩;refine G0 ?_;rw[V4];(refine Aa (fun h4=>?_) (fun h4=>?_)<;>rw[h4])
    ·refine G0 ?_;have e:H9 l=4:=Qa h1' h2' (Et hlt3 (by simpa[Wh.lt]using h4));rw[e];(exact⟨[],aI⟩)
    ·refine G0 ?_;(exact⟨none,trivial,fun _=>⟨⟨q+1,by omega,up2 (p:=fun i h=>Wh.lt l[i] l[i+1]=true) g0 (fun _=>by simpa[Wh.lt]using h4)⟩,by show l.length-(q+1)<l.length-q;omega,tI,tI,tI,tI⟩⟩)
   ·have hge3:¬q+1<l.length:=(by have:=ZW h3;omega);refine G0 ?_;have e:H9 l=0:=Lk h1' h2' (E8 fun i hi=>g0 i hi (by omega));rw[e];(exact⟨[],aI⟩)
end Go.Proofs.YtkbjgdcdjccnaaaGreatDoor

namespace Go.Proofs.YtkbjgdcdjccnaaaGreatDoor
open Go.RowKit Pl
namespace Pl
end Pl
def M7(s:ByteArray):List V:=[.v (.string s)]
instance:FlatRow M7:=⟨fun x u hu=>by simp[M7]at hu;exact⟨_,hu⟩⟩
open Go

section
open Go.Sort Go.Shelf

end


namespace Pl
end Pl
theorem Aih(n:Nd)(h:n.ok):Fun Tryz.prog 23 [.c (.agg n.row)] [.c (.v (.int .i64 n.err))]:=by
 refine Av Nj rfl ?_;refine G1 ?_;intro gg;refine .inl (cX (Es n.nm h.nm) ?_);refine G1 ?_;intro gg;(refine Aa (fun h1=>?_) (fun h1=>?_)<;>rw[h1])
 ·refine G0 ?_;rw[Nd.err_form (.inl (Dr h1))];(exact⟨[],aI⟩)
 ·have h1':=Ci h1;refine G0 ?_;refine .inl (cX (Es n.ce h.ce) ?_);refine G1 ?_;intro gg;(refine Aa (fun h2=>?_) (fun h2=>?_)<;>rw[h2])
  ·refine G0 ?_;rw[Nd.err_form (.inr (Dr h2))];(exact⟨[],aI⟩)
  ·have h2':=Ci h2;refine G0 ?_;refine .inl (cX (Akb false n.ms h.msl h.ms) ?_);refine G1 ?_;intro gg;(refine Aa (fun e1=>?_) (fun e1=>?_)<;>rw[e1])
   ·have z1:E5 n.ms=0:=by simpa using e1
    refine G0 ?_;refine .inl (cX (Ag5 false n.rs h.rsl h.rs) ?_);refine G1 ?_;intro gg;(refine Aa (fun e2=>?_) (fun e2=>?_)<;>rw[e2])
    ·have z2:Fu n.rs=0:=by simpa using e2
     refine G0 ?_;refine .inl (cX (Agz false n.sv h.svl h.sv) ?_);refine G1 ?_;intro gg;(refine Aa (fun e3=>?_) (fun e3=>?_)<;>rw[e3])
     ·have z3:D3 n.sv=0:=by simpa using e3
      refine G0 ?_;refine .inl (cX (Ajq false n.gs h.gsl h.gs) ?_);refine G1 ?_;intro gg;(refine Aa (fun e4=>?_) (fun e4=>?_)<;>rw[e4])
      ·have z4:Eg n.gs=0:=by simpa using e4
       refine G0 ?_;refine .inl (cX (Xf n.pl) ?_);refine G1 ?_;intro gg;(refine Aa (fun e5=>?_) (fun e5=>?_)<;>rw[e5])
       ·have z5:n.pl.err=0:=by simpa using e5
        refine G0 ?_;refine .inl (cX (Ajk false n.wh h.whl h.wh) ?_);refine G1 ?_;intro gg;(refine Aa (fun e6=>?_) (fun e6=>?_)<;>rw[e6])
        ·have y6:H9 n.wh≠0:=by simpa using e6
         have E:Aq (fun e=>e) n.cks=H9 n.wh:=by simp[Nd.cks,Aq,z1,z2,z3,z4,z5,y6]
         rw[Nd.err_ck h1' h2' (by rw[E];exact y6),E];refine G0 ?_;(exact⟨[],aI⟩)
        ·have z6:H9 n.wh=0:=by simpa using e6
         have hz:Aq (fun e=>e) n.cks=0:=by simp[Nd.cks,Aq,z1,z2,z3,z4,z5,z6]
         have hi:=Jb z1;have hat:=Mb.at_eq hi.2.2 n.nm;have hA:=Ark false n.ms n.nm (by omega);have hrl:=h.rsl;rcases Bool.eq_false_or_eq_true (hit (Mb.cf n.nm) n.ms)with h5|h5
         ·have hlt:=Ep h5;have hm:n.ms[low (Mb.cf n.nm) n.ms]? =some n.ms[low (Mb.cf n.nm) n.ms]:=ZC hlt;rw[hat,if_pos h5]at hA;rw[Nd.err_mine h1' h2' hz h5,Nd.mine_at hm];refine G0 ?_;refine .inl (cX hA ?_);refine G1 ?_;intro gg;refine⟨low (Mb.cf n.nm) n.ms,_,rfl,Ao hlt,?_⟩;refine G0 ?_;(refine Aa (fun h6=>?_) (fun h6=>?_)<;>rw[h6])
          ·rw[if_pos (.inl (by simpa using h6))];refine G0 ?_;(exact⟨[],aI⟩)
          ·have h6':(n.ms[low (Mb.cf n.nm) n.ms]).st≠2:=by simpa using h6
           refine G0 ?_;refine⟨low (Mb.cf n.nm) n.ms,_,rfl,Ao hlt,?_⟩;refine G0 ?_;(refine Aa (fun h7=>?_) (fun h7=>?_)<;>rw[h7])
           ·rw[if_pos (.inr (by simpa using h7))];refine G0 ?_;(exact⟨[],aI⟩)
           ·have h7':(n.ms[low (Mb.cf n.nm) n.ms]).st≠3:=by simpa using h7
            rw[if_neg (fun q=>q.elim h6' h7')];refine G0 ?_;(refine⟨[],none,{k:Nat//k≤n.rs.length∧∀j,(h:j<n.rs.length)→j<k→Vz n.ms n.rs[j]=true},[1],fun⟨k,hk,h0⟩=>[(5,.v (.int .i64 k))],[16],fun⟨k,hk,h0⟩=>[],fun⟨k,hk,h0⟩=>n.rs.length-k,trivial,fun _=>⟨trivial,fun _=>⟨⟨0,ZU _,fun j _ h=>absurd h (Nat.not_lt_zero _)⟩,tI,An _ _,tI,Am _ _⟩⟩,fun⟨k,hk,h0⟩=>?_⟩);refine G0 ?_;rw[ZE];(refine Aa (fun g1=>?_) (fun g1=>?_)<;>rw[g1])
            ·have hlt3:k<n.rs.length:=(by have:=ZV g1;omega);have hat3:=Mb.at_eq hi.2.2 (n.rs[k]).m.n;have hA3:=Ark false n.ms (n.rs[k]).m.n (by omega);refine G0 ?_;refine⟨k,_,rfl,Ao hlt3,?_⟩;refine G1 ?_;intro gg;rcases Bool.eq_false_or_eq_true (hit (Mb.cf (n.rs[k]).m.n) n.ms)with g5|g5
             ·have hl3:=Ep g5;have hro:=An5 g5 (ZC hl3);rw[hat3,if_pos g5]at hA3;refine .inl (cX hA3 ?_);refine G1 ?_;intro gg;refine⟨low (Mb.cf (n.rs[k]).m.n) n.ms,_,rfl,Ao hl3,?_⟩;refine G0 ?_;refine .inl (cX (Ak7 _ _) ?_);refine G1 ?_;intro gg;(refine Aa (fun g6=>?_) (fun g6=>?_)<;>rw[g6])
              ·have g6':0<Mb.cmp (n.rs[k]).m (n.ms[low (Mb.cf (n.rs[k]).m.n) n.ms]):=ZV g6;rw[if_neg (by rw[Aex hlt3 (by rw[hro];exact ZY (by omega))];simp)];refine G0 ?_;(exact⟨[],aI⟩)
              ·have g6':¬0<Mb.cmp (n.rs[k]).m (n.ms[low (Mb.cf (n.rs[k]).m.n) n.ms]):=ZW g6;refine G0 ?_;(exact⟨none,trivial,fun _=>⟨⟨k+1,by omega,up1 (p:=fun j h=>Vz n.ms n.rs[j]=true) h0 (fun _=>by rw[hro];exact ZX (by omega))⟩,by show n.rs.length-(k+1)<n.rs.length-k;omega,tI,tI,tI,tI⟩⟩)
             ·rw[hat3,if_neg (by rw[g5];decide)]at hA3;rw[if_neg (by rw[Aex hlt3 (Aoj g5)];simp)];refine .inl (cX hA3 ?_);refine G1 ?_;intro gg;(exact⟨[],aI⟩)
            ·have hge:¬k<n.rs.length:=(by have:=ZW g1;omega);rw[if_pos (List.all_eq_true.2 fun r hr=>by obtain⟨j,hj,rfl⟩:=List.mem_iff_getElem.1 hr;exact h0 j hj (by omega))];refine G0 ?_;(exact⟨[],aI⟩)
         ·rw[hat,if_neg (by rw[h5];decide)]at hA;rw[Nd.err_none h1' h2' hz h5];refine G0 ?_;refine .inl (cX hA ?_);refine G1 ?_;intro gg;(exact⟨[],aI⟩)
       ·have y5:n.pl.err≠0:=by simpa using e5
        have E:Aq (fun e=>e) n.cks=n.pl.err:=by simp[Nd.cks,Aq,z1,z2,z3,z4,y5]
        rw[Nd.err_ck h1' h2' (by rw[E];exact y5),E];refine G0 ?_;rw[show(n.pl.err !=0)=true from ZZ.2 y5];refine G0 ?_;(exact⟨[],aI⟩)
      ·have y4:Eg n.gs≠0:=by simpa using e4
       have E:Aq (fun e=>e) n.cks=Eg n.gs:=by simp[Nd.cks,Aq,z1,z2,z3,y4]
       rw[Nd.err_ck h1' h2' (by rw[E];exact y4),E];refine G0 ?_;rw[e4];refine G0 ?_;rw[show(Eg n.gs !=0)=true from ZZ.2 y4];refine G0 ?_;(exact⟨[],aI⟩)
     ·have y3:D3 n.sv≠0:=by simpa using e3
      have E:Aq (fun e=>e) n.cks=D3 n.sv:=by simp[Nd.cks,Aq,z1,z2,y3]
      rw[Nd.err_ck h1' h2' (by rw[E];exact y3),E];refine G0 ?_;rw[e3];refine G0 ?_;rw[e3];refine G0 ?_;rw[show(D3 n.sv !=0)=true from ZZ.2 y3];refine G0 ?_;(exact⟨[],aI⟩)
    ·have y2:Fu n.rs≠0:=by simpa using e2
     have E:Aq (fun e=>e) n.cks=Fu n.rs:=by simp[Nd.cks,Aq,z1,y2]
     rw[Nd.err_ck h1' h2' (by rw[E];exact y2),E];refine G0 ?_;rw[e2];refine G0 ?_;rw[e2];refine G0 ?_;rw[e2];refine G0 ?_;rw[show(Fu n.rs !=0)=true from ZZ.2 y2];refine G0 ?_;(exact⟨[],aI⟩)
   ·have y1:E5 n.ms≠0:=by simpa using e1
    have E:Aq (fun e=>e) n.cks=E5 n.ms:=by simp[Nd.cks,Aq,y1]
    rw[Nd.err_ck h1' h2' (by rw[E];exact y1),E];refine G0 ?_;rw[e1];refine G0 ?_;rw[e1];refine G0 ?_;rw[e1];refine G0 ?_;rw[e1];refine G0 ?_;rw[show(E5 n.ms !=0)=true from ZZ.2 y1];refine G0 ?_;(exact⟨[],aI⟩)
theorem Bag(row:List V)(h:Rf [.s,.s,.s,.s] row):∃q:Qr,row=q.row∧q.ok:=by
 obtain⟨u0,_,rfl,f0,h⟩:=Ax h;obtain⟨u1,_,rfl,f1,h⟩:=Ax h;obtain⟨u2,_,rfl,f2,h⟩:=Ax h;obtain⟨u3,_,rfl,f3,h⟩:=Ax h;obtain rfl:=Kt h;obtain⟨a,rfl,ha⟩:=Lx f0;obtain⟨b,rfl,hb⟩:=Lx f1;obtain⟨c,rfl,hc⟩:=Lx f2;obtain⟨d,rfl,hd⟩:=Lx f3;exact⟨⟨a,b,c,d⟩,rfl,ha,hb,hc,hd⟩
end Go.Proofs.YtkbjgdcdjccnaaaGreatDoor
