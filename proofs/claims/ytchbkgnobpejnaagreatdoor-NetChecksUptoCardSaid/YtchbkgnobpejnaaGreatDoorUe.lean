/- Texts of this claim, joined. -/
import Derived.Test.YtchbkgnobpejnaaGreatDoorYAbsK
import Derived.Test.YtchbkgnobpejnaaGreatDoorYAbsMap
import Derived.WalkKit
import Derived.Handy
import Derived.StillTailTactics
import Derived.Deep.RegionHeld3
import Derived.Test.YtchbkgnobpejnaaGreatDoorYAbsW
import Derived.Test.YtchbkgnobpejnaaGreatDoorYAbsS
import Derived.Test.YtchbkgnobpejnaaGreatDoorRows
import Derived.Stop.LaidErr
import Derived.Lib.LaidTab
import Derived.Lay
import Derived.Test.YtchbkgnobpejnaaGreatDoorUa
import Derived.Test.YtchbkgnobpejnaaGreatDoorUb
import Derived.Test.YtchbkgnobpejnaaGreatDoorUc
import Derived.Test.YtchbkgnobpejnaaGreatDoorUd
set_option linter.unusedSimpArgs false
set_option linter.unusedVariables false
namespace Go.Proofs.YtchbkgnobpejnaaGreatDoor
section
open Go.Joins Go.ChangeShapes Go.WideShapes Go.RowKit Go.Deep
def Bd1(B:Nat):V→Prop
 |.v (.string x)=>x.size≤B
 |_=>True
def Bd(B:Nat):V→Prop
 |.v (.string x)=>x.size≤B
 |.sl _ rows=>rows.length≤B∧∀row∈rows,∀u∈row,Bd1 B u
 |_=>True
theorem Bd.one{B:Nat}{u:V}(h:Bd B u):Bd1 B u:=by
 unfold Bd at h;unfold Bd1;split at h<;>simp_all
structure Apf{H:Type}(bk:DataW H→Nat):Prop where
 str:∀l,l.length≤bk (.lit (.string l))
 agg:∀ds d,d∈ds→bk d≤bk (.agg ds)
 sl:∀es sp,es.length≤bk (.slice es sp)∧∀d∈es,bk d≤bk (.slice es sp)
section
variable {H:Type} {enc:TypeId×Value→H} {P:Program} {w:World} {base:Nat} {spare:Nat→Bool} {held:Bool} {bk:DataW H→Nat} {B:Nat}
theorem Yv{d fuel:Nat}{cs:List Value}(rc:∀(t:TypeId) (tys:List Ty) (cs:List Value) (x:DataW H×List MemPlace),Af2 P d t=some tys→DataW.trod enc P w base spare held fuel t cs=some x→bk x.1≤B→∃us,Qd w tys cs us∧∀u∈us,Bd B u):
  ∀(fs:List Field) (off:Nat) (tys:List Ty) (xs:List (DataW H×List MemPlace)),Amq P (Af2 P d) fs off=some tys→(∀(i:Nat) (f:Field),fs[i]? =some f→∃x,DataW.trod enc P w base spare held fuel f.type ((cs.drop f.offset).take (P.cellsOf f.type))=some x∧bk x.1≤B)→
   ∃us,Qd w tys ((cs.drop off).take tys.length) us∧∀u∈us,Bd B u:=by
 intro fs
 induction fs with
 |nil=>
  intro off tys xs h _;simp only[Amq,ZD]at h;subst h;exact⟨[],⟨⟨rfl,by simp⟩,by simp,by simp⟩,by simp⟩
 |cons f fs ih=>
  intro off tys xs h hf;simp only[Amq]at h;split at h
  ·rename_i ts hts;split at h
   ·rename_i hc;simp only[ZO,ZR]at hc;split at h
    ·rename_i r hr;injection h with h;subst h
     obtain⟨x0,hx0,hB0⟩:=hf 0 f rfl;obtain⟨us1,h1,hb1⟩:=rc _ _ _ _ hts hx0 hB0;obtain⟨us2,h2,hb2⟩:=ih _ _ xs hr (fun i g hg=>hf (i+1) g (by simpa using hg));rw[hc.1,hc.2]at h1;have hlen:((cs.drop off).take ts.length).length=ts.length:=by rw[h1.2.1,←h1.1.1]
     refine⟨us1++us2,?_,fun u hu=>(XM.1 hu).elim (hb1 u) (hb2 u)⟩;have e:(cs.drop off).take (ts++r).length=(cs.drop off).take ts.length++(cs.drop (off+ts.length)).take r.length:=by
      rw[ZF,List.take_add,List.drop_drop]
     rw[e];exact h1.app h2
    ·cases h
   ·cases h
  ·cases h
theorem Aip(hk:Apf bk):∀(d fuel:Nat) (t:TypeId) (tys:List Ty) (cs:List Value) (x:DataW H×List MemPlace),Af2 P d t=some tys→DataW.trod enc P w base spare held fuel t cs=some x→bk x.1≤B→∃us,Qd w tys cs us∧∀u∈us,Bd B u:=by
 intro d
 induction d with
 |zero=>intro fuel t tys cs x h;cases h
 |succ d ih=>
  intro fuel t tys cs x h hd hBd;simp only[Af2]at h;split at h
  ·rename_i hu;injection h with h;subst h
   obtain⟨n,rfl,_,hw⟩:=DataW.trod_int hu hd;have hb: -9223372036854775808≤n∧n≤9223372036854775807:=by simpa[Lit.wf,IntKind.min,IntKind.max,IntKind.signed,IntKind.bits]using hw
   exact⟨_,L4 (.i n hb.1 hb.2) (.v _),by simp[Bd]⟩
  ·rename_i hu;injection h with h;subst h
   obtain⟨s,rfl,rfl,hs⟩:=DataW.trod_string hu hd;exact⟨_,L4 (.s s (by simpa[maxLen]using hs)) (.v _),by
    have h1:=XI (hk.str s.data.toList) hBd;have e:s.data.toList.length=s.size:=by simp
    simp[Bd];omega⟩
  ·rename_i hu;injection h with h;subst h
   obtain⟨s,rfl,_⟩:=DataW.trod_bool hu hd;exact⟨_,L4 (.b s) (.v _),by simp[Bd]⟩
  ·rename_i fs hu;split at h
   ·rename_i ts hts;split at h
    ·rename_i hc;simp only[ZR]at hc;injection h with h;subst h
     obtain⟨xs,n,rfl,rfl,hcl,hxl,hf⟩:=DataW.trod_struct hu hd;obtain⟨us,hus,hub⟩:=Yv (B:=B) (bk:=bk) (cs:=cs) (fun t tys cs x h1 h2=>ih n t tys cs x h1 h2) fs.toList 0 ts xs hts (fun i f hi=>by
      have hi':fs[i]? =some f:=by simpa using hi
      have hlt:i<xs.length:=by rw[hxl];exact(XL.1 hi').1
      exact⟨_,(hf i f hi').trans (ZC hlt),XI (hk.agg _ _ (List.mem_map_of_mem (ZK hlt))) hBd⟩)
     refine⟨us,?_,hub⟩
     rwa[List.drop_zero,←hc,←hcl,XF]at hus
    ·cases h
   ·cases h
  ·rename_i e hu;split at h
   ·rename_i ts hts;split at h
    ·rename_i hc;simp only[ZO,ZR,decide_eq_true_eq]at hc;injection h with h;subst h
     rcases open_slice hu hd with⟨rfl,_⟩|⟨a,len,cap,m,n,D,Pl,rfl,hb,hl,hm,hmm,rfl,hi⟩
     ·exact⟨[.sl false []],L4 (.l _ [] (by simp) (by simp) (by simp)) (.nil _ _ _ (by simp)),by simp[Bd]⟩
     ·have hlm:len≤m:=by rw[hmm];split<;>omega
      have hall:∀i:Nat,∃p:List Value×List V,i<len→(Qd w ts p.1 p.2∧∀j,j<ts.length→w.cell? (a.add (i*ts.length+j))=p.1[j]?)∧∀u∈p.2,Bd B u:=fun i=>by
       by_cases hil:i<len
       ·obtain⟨cs',h1,h2⟩:=hi i (by omega);obtain⟨us,hus,hub⟩:=ih n e ts cs' _ hts h2 (XI ((hk.sl _ _).2 _ (XO.2 ⟨i,List.mem_range.2 hil,rfl⟩)) hBd);obtain⟨_,h3,h4⟩:=World.cells?_some h1;rw[hc.1]at h3 h4;exact⟨(cs',us),fun _=>⟨⟨hus,fun j hj=>by rw[←Go.Deep.add_add];exact h4 j hj⟩,hub⟩⟩
       ·exact⟨([],[]),fun h=>absurd h hil⟩
      obtain⟨f,hf0⟩:=Classical.axiomOfChoice hall;have hf:∀i,i<len→Qd w ts (f i).1 (f i).2∧∀j,j<ts.length→w.cell? (a.add (i*ts.length+j))=(f i).1[j]? :=fun i h=>(hf0 i h).1;have hsp:0<len→a.spot=none∧a.block<w.heap.size:=fun h0=>by
       obtain⟨h1,h2⟩:=hf 0 h0;have hx:=h2 0 hc.2;have hlt:0<(f 0).1.length:=by rw[h1.2.1,←h1.1.1];exact hc.2
       rw[ZC hlt]at hx;have e:a.add (0*ts.length+0)=a:=by simp[Addr.add]
       rw[e]at hx;refine⟨?_,World.block_lt_of_cell? w _ hx⟩;unfold World.cell? at hx;split at hx
       ·cases hq:a.spot with
        |none=>rfl
        |some k=>simp[hq]at hx
       ·cases hx
      refine⟨[.sl false ((List.range len).map fun i=>(f i).2)],L4 (.l _ _ (by simp only[ZE,List.length_range];simp only[maxLen]at hm;omega) ?_ ?_) ?_,?_⟩
      ·intro row hrow;simp only[XO,List.mem_range]at hrow;obtain⟨i,hil,rfl⟩:=hrow;exact(hf i hil).1.1.1
      ·intro row hrow j t u g1 g2;simp only[XO,List.mem_range]at hrow;obtain⟨i,hil,rfl⟩:=hrow;exact(hf i hil).1.1.2 j t u g1 g2
      ·rcases Nat.eq_zero_or_pos len with h0|h0
       ·subst h0;exact .nil _ _ _ (by simp)
       ·obtain⟨h1,h2⟩:=hsp h0;obtain⟨b,off,sp⟩:=a;simp only at h1 h2;subst h1;have hrows:∀(i:Nat) (row:List V),((List.range len).map fun i=>(f i).2)[i]? =some row→i<len∧row=(f i).2:=fun i row h=>by
         have hlt:=(ZB.1 h).1;simp only[ZE,List.length_range]at hlt;simp[hlt]at h;exact⟨hlt,h.symm⟩
        have e:=RV.sl (w:=w) (R:=fun b=>b<w.heap.size) (G:=noG) false ((List.range len).map fun i=>(f i).2) b off cap ts.length (fun i j=>((f i).1[j]?).getD undef) h2 (by simpa using hl) (by simp) (by
          intro row hrow;simp only[XO,List.mem_range]at hrow;obtain⟨i,hil,rfl⟩:=hrow;exact(hf i hil).1.1.1.symm) (by
          intro i j row u g1 g2;obtain⟨hil,rfl⟩:=hrows i row g1;have hj:j<ts.length:=by have:=(ZB.1 g2).1;rw[(hf i hil).1.1.1];exact this
          have hjl:j<(f i).1.length:=by rw[(hf i hil).1.2.1,←(hf i hil).1.1.1];exact hj
          have hx:=(hf i hil).2 j hj;rw[Acv _ _ rfl,ZC hjl]at hx;rw[ZC hjl];simp only[Option.getD_some];rw[Nat.add_assoc];exact hx) (by
          intro i j row u g1 g2;obtain⟨hil,rfl⟩:=hrows i row g1;have hj:j<ts.length:=by have:=(ZB.1 g2).1;rw[(hf i hil).1.1.1];exact this
          have hjl:j<(f i).1.length:=by rw[(hf i hil).1.2.1,←(hf i hil).1.1.1];exact hj
          rw[ZC hjl];exact(hf i hil).1.2.2 j u _ g2 (ZC hjl))
        have e2:((List.range len).map fun i=>(f i).2).length=len:=by simp
        rw[e2]at e;exact e
      ·intro u hu;simp only[XN]at hu;subst hu;refine⟨?_,fun row hrow u hu=>?_⟩
       ·have:=XI (hk.sl _ _).1 hBd;simpa using this
       ·simp only[XO,List.mem_range]at hrow;obtain⟨i,hil,rfl⟩:=hrow;exact(hf0 i hil).2 u hu|>.one
    ·cases h
   ·cases h
  ·cases h
theorem Aae{t:TypeId}{tys:List Ty}{r:Reach}{b0:Nat}{v:Value}{fs:Array Field}{d:DataW H}{p:List MemPlace}{dp:Nat}(hk:Apf bk)(hs:P.underlying t=some (.struct fs))(ht:Af2 P dp t=some tys)(hv:Value.okWide P w r b0 t v)(h:DataW.Trod enc P w base spare held t v d p)(hB:bk d≤B):
  ∃us,Ov tys us∧RV w (fun b=>b<w.heap.size) noG (.agg us) v∧∀u∈us,Bd B u:=by
 obtain⟨cs,rfl,hsz⟩:=okWide_struct hs hv;obtain⟨fuel,hf⟩:=h;obtain⟨us,⟨h1,h3,h4⟩,h5⟩:=Aip hk dp fuel t _ _ _ ht hf hB;obtain⟨cs⟩:=cs;exact⟨us,h1,.agg us cs h3.symm h4,h5⟩
end
end
open Go Go.RowKit Pl
theorem Aq0(row:List V)(h:Ov [.i,.s] row):∃l:Lt,row=l.row∧True:=by
 obtain⟨u0,_,rfl,f0,h⟩:=Au h;obtain⟨u1,_,rfl,f1,h⟩:=Au h;obtain rfl:=Ig h;obtain⟨a,rfl,_⟩:=Ey f0;obtain⟨b,rfl,_⟩:=Ou f1;exact⟨⟨a,b⟩,rfl,trivial⟩
theorem Ap9{B:Nat}(hB:B≤1048576)(us:List V)(h:Ov [.l [.s,.s,.l [.s,.i,.i,.i,.b],.l [.s,.i,.i,.i,.b,.i],.l [.s,.s,.s,.s,.i,.i,.b,.i,.b],.l [.s,.i,.i],.i,.i,.i,.i,.i,.l [.s,.i,.i,.i,.i,.i]],.l [.i,.s]] us)(hb:∀u∈us,Bd B u):∃n:Nt,us=n.row∧n.ok:=by
 obtain⟨u0,_,rfl,f0,h⟩:=Au h;obtain⟨u1,_,rfl,f1,h⟩:=Au h;obtain rfl:=Ig h;obtain⟨ns,rfl,_,hn⟩:=J4 Ark f0;obtain⟨ls,rfl,_,_⟩:=J4 Aq0 f1;obtain⟨hl,hr⟩:(ns.map Nd.row).length≤B∧∀row∈ns.map Nd.row,∀u∈row,Bd1 B u:=hb (.sl false (ns.map Nd.row)) (by simp);obtain⟨kl,kr⟩:(ls.map Lt.row).length≤B∧∀row∈ls.map Lt.row,∀u∈row,Bd1 B u:=hb (.sl false (ls.map Lt.row)) (by simp);rw[ZE]at hl kl;refine⟨⟨ns,ls⟩,rfl,by show ns.length≤_;omega,hn,by show ls.length≤_;omega,fun x hx=>?_⟩;have h1:=kr x.row (List.mem_map_of_mem hx);have g1:x.tx.size≤B:=h1 (.v (.string x.tx)) (by simp[Lt.row]);omega
theorem Adm [Glob] {P : Program} {f : FuncId} {fn : Func} {code : Code} {rc : Ae} {ps rs : List Par} {rts : List RT} (hf : P.funcs[f]? = some fn) (hb : fn.body = some code) (hname : (fn.name == "runtime.NumGoroutine") = false) (hres : Ao P fn.ntmps code = some (Cv rc))
  (hlen:ps.length≤fn.ntmps) (hts:Jd P fn.results.toList=some rts) (h:wpv P rc (Agd rts rs) (P8 ps)):Fun P f ps rs:=by
 refine⟨⟨fn,hf,hname,by rw[hb];rfl⟩,fun w R xs hlt hp hg=>?_⟩;refine calls_of_wp hf hb ?_;obtain⟨G0,hrel⟩:=Tq (n:=fn.ntmps) hlt hp hlen hg;refine wp_mono (Ce (c:=⟨w,R,A4 ps xs,fn.ntmps,noD,G0,hg⟩) rfl rc hres h hrel) fun e a' w' he=>?_;have fin:∀st,Ari rts rs st→Rel ⟨w,R,A4 ps xs,fn.ntmps,noD,G0,hg⟩ st a' w'→a'.defers=[]∧∃v,(results fn a'.tmps).run P w'=.ok v w'∧∃(ys:List Value) (R':Nat→Prop),Ending.returned v=.returned (Dl ys)∧Fr (A4 ps xs) w w'∧(∀b,R b→R' b)∧
   (∀b,R' b→R b∨(b<w'.heap.size∧(A4 ps xs b∨w.heap.size≤b)))∧M3 w' R' rs ys∧(∀b,A4 rs ys b→A4 ps xs b∨w.heap.size≤b):=fun st ⟨us,gone,hG,hA⟩ ⟨R2,G,hR⟩=>by
  obtain⟨zs,z1,z2,z3⟩:=Ge hR _ hts hG;refine⟨hR.defers,_,E5 z1,zs,RB R2 G st.H gone true,rfl,hR.fr,fun b hb=>.inl (hR.old b hb),?_,?_⟩
  ·rintro b (hb|⟨_,id,e,l,_,q1,q2,q3,q4⟩)
   ·rcases hR.src b hb with q|q
    ·exact .inl q
    ·exact .inr ⟨hR.lt b hb,q⟩
   ·exact .inr ⟨hR.hr.lt q1 q2 q3 q4,(hR.hr.mine id e l b q1 q2 q3 q4).2⟩
  ·obtain⟨h1,h2⟩:=Gf hR (bor0:=true) (xs:=zs) hA (fun e=>e) z2.symm (fun i u x h3 h4=>z3 i u x h3 h4) (fun id hid=>hid);refine⟨h1,fun b hb=>?_⟩;obtain⟨id,_,e,l,q1,q2,q3,q4⟩:=h2 b hb;exact(hR.hr.mine id e l b q1 q2 q3 q4).2
 cases e with
 |normal=>obtain⟨st,h1,h2⟩:=he;exact fin st h1 h2
 |ret=>obtain⟨st,h1,h2⟩:=he;exact fin st h1 h2
 |exit id=>obtain⟨st,h1,h2⟩:=he;exact h1.elim
 |goto l=>exact he.elim
 |panic ch=>obtain⟨v,_,h2,_⟩:=he;exact h2.elim
 |outgrown=>exact he.elim
theorem Akb[Glob]{P:Program}{f:FuncId}{np:Nat}{rc rcD:Ae}{ts:List RT}{ps rs:List Par}(hc:Bi P f np=some (rc,ts))(hs:Cv rcD=rc)(hn:ps.length=np)(h:wpv P rcD (Agd ts rs) (P8 ps)):Fun P f ps rs:=by
 unfold Bi at hc;split at hc
 ·cases hc
 ·rename_i fn hf;split at hc
  ·cases hc
  ·rename_i code hb;split at hc
   ·cases hc
   ·rename_i hk;simp only[Bool.or_eq_true,not_or,Bool.not_eq_true',Bool.not_eq_true,decide_eq_false_iff_not,Classical.not_not]at hk;split at hc
    ·rename_i rc' ts' h1 h2;simp only[ZD,Prod.mk.injEq]at hc;obtain⟨rfl,rfl⟩:=hc;refine Adm hf hb ?_ (h1.trans (by rw[hs])) ?_ h2 h
     ·exact hk.1
     ·rw[hn];simpa using hk.2
    ·cases hc
theorem Ahp[Glob]{P:Program}{f:FuncId}{np:Nat}{rc rcD:Ae}{ts:List RT}{ps rs:List Par}(hc:Bi P f np=some (rc,ts))(hs:Cv rcD=rc)(hn:ps.length=np)(h:wpx P noD rcD (Akd ts rs) (Gt ps) (Jc ps)):Fun P f ps rs:=by
 refine Akb hc hs hn (B3 rcD (fun e env H h=>?_) h);cases e with
 |normal=>exact h
 |exit j=>exact h
 |ret=>exact h
set_option maxRecDepth 100000
theorem bT{b:Bool}{p q:Prop}(k:p)(h:b=true:=by first|rfl|(subst_vars;rfl)|(subst_vars;simp only[ByteArray.toList_eq]<;>rfl)):bIf b p q:=Ad3 h k
theorem bF{b:Bool}{p q:Prop}(k:q)(h:b=false:=by first|rfl|(subst_vars;rfl)|(subst_vars;simp only[ByteArray.toList_eq]<;>rfl)):bIf b p q:=T6 h k
theorem o4{A B C D:Prop}(h:D):A∨B∨C∨D:=.inr (.inr (.inr h))
theorem Pn[Glob]{P:Program}{f:FuncId}{np:Nat}{rc:Ae}{ts:List RT}{ps rs:List Par}(m:Nat)(hc:Bi P f np=some (rc,ts))(hn:ps.length=np)(h:wpx P noD (Ea m rc) (Akd ts rs) (Gt ps) (Jc ps)):Fun P f ps rs:=by
 obtain⟨fn,code,h1,h2,h3,h4,h5,h6⟩:=Qx hc;exact Ahp hc ((Do m rc).trans (Dc code h4)) hn h
theorem Apm{T:TypeId}{sz:Nat}{rows:List (List V)}{ps:List Par}(h:Aec rows=true)(h2:flB ps=true):Dx (.o T sz rows::ps):=by
 intro r hr;rcases XC.1 hr with rfl|hr
 ·exact fun row hr u hu=>Ab2 h row hr u hu
 ·exact Abn h2 r hr
theorem fJ{rs:List Par}(h:Dx rs:=by first|exact Abn rfl|exact Apm rfl rfl):Dx rs:=h
theorem aJ{H:Nat→Option Ent}{all gone:List Nat}{bor:Bool}{us:List V}{ps:List Par}(h:Ar H all bor gone us ps:=by(repeat' (first|exact Ar.nil _|exact My (by assumption)|refine Ar.same (by first|exact Cw rfl|exact Dj|exact F3|exact Zq (Fg rfl)|exact cl_one|exact cl_ll1|exact cl_ll2|exact cl_clo (by assumption)|exact Pw (by repeat' (first|exact L8|refine I2 (by first|exact Cw rfl|exact Dj|exact F3|exact Zq (Fg rfl)|assumption) ?_))) ?_|refine Ar.nilsl _ ?_|refine Ar.nilown _ _ (by decide) ?_|refine Ar.borp rfl rfl rfl (Li rfl) (by decide) ?_|refine Ar.borc (by(repeat' (first|exact cap_n|refine cap_p rfl rfl rfl (by first|exact Li rfl|exact cl_r1 rfl|exact cl_r1b) ?_ ?_|refine cap_m rfl (by decide) ?_|refine cap_c (by first|exact Cw rfl|exact Dj|exact F3|exact cl_one|exact cl_ll1|exact cl_ll2|exact cl_clo (by assumption)|exact Pw (by repeat' (first|exact L8|refine I2 (by first|exact Cw rfl|exact Dj|exact F3|assumption) ?_))) ?_|decide))) ?_|refine Ar.bora (by(repeat' (first|exact Bt.nil|refine Bt.same (by first|exact Cw rfl|exact Dj|exact F3|exact Zq (Fg rfl)|assumption) ?_|refine Bt.nilsl _ ?_|refine Jt rfl rfl (by first|exact Fg rfl|exact B5|exact cl_setB rfl|exact cl_setG (cl_setB rfl) rfl|exact Ht B5 (Fg rfl)|exact Nm|exact cl_rl2) (by decide) ?_))) ?_|refine Ar.bor rfl rfl (Qj (by first|exact Fg rfl|exact B5|exact cl_setB rfl|exact cl_setG (cl_setB rfl) rfl|exact Ht B5 (Fg rfl)|exact Nm|exact cl_rl2)) (by decide) ?_|refine Ah9 rfl (by first|exact Fg rfl|exact B5|exact cl_setB rfl|exact cl_setG (cl_setB rfl) rfl|exact Ht B5 (Fg rfl)|exact Nm|exact cl_rl2) (by decide) (by decide) ?_))):Ar H all bor gone us ps:=h
abbrev xA(a:ByteArray):List V:=[.v (.string a),.v (.int .i64 1),.v (.int .i64 1),.v (.int .i64 1),.v (.bool false)]
abbrev xB(b:ByteArray):List V:=[.v (.string b),.v (.int .i64 1),.v (.int .i64 1),.v (.int .i64 2),.v (.bool true)]
abbrev xR(a:ByteArray):List V:=[.v (.string a),.v (.int .i64 1),.v (.int .i64 1),.v (.int .i64 1),.v (.bool false),.v (.int .i64 0)]
abbrev xZ:Par:=.c (.v (.int .i64 0))
abbrev yA(a c:ByteArray):List V:=[.v (.string a),.v (.string c),.sl false [(xA a)],.sl false [],.sl false [],.sl false [],.v (.int .i64 0),.v (.int .i64 0),.v (.int .i64 0),.v (.int .i64 0),.v (.int .i64 1000),.sl false []]
abbrev yB(b c:ByteArray):List V:=[.v (.string b),.v (.string c),.sl false [(xB b)],.sl false [],.sl false [],.sl false [],.v (.int .i64 0),.v (.int .i64 0),.v (.int .i64 0),.v (.int .i64 0),.v (.int .i64 1000),.sl false []]
abbrev yC(a b c:ByteArray):List V:=[.v (.string b),.v (.string c),.sl false [(xA a),(xB b)],.sl false [(xR a)],.sl false [],.sl false [],.v (.int .i64 0),.v (.int .i64 0),.v (.int .i64 0),.v (.int .i64 0),.v (.int .i64 1000),.sl false []]
section
variable {a b c:ByteArray} (ha:(⟨#[97]⟩:ByteArray)=a) (hb:(⟨#[98]⟩:ByteArray)=b) (hc:(⟨#[99]⟩:ByteArray)=c)
include ha hb hc
omit ha hb hc in
theorem kA[Glob]:Fun Tryz.prog 107 [.c (.sl false [(xA a)])] [.o 47 5 [(xA a)]]:=Qw false [⟨a,1,1,1,false⟩] (Nat.le_of_ble_eq_true rfl)
omit ha hb hc in
theorem kB[Glob]:Fun Tryz.prog 107 [.c (.sl false [(xB b)])] [.o 47 5 [(xB b)]]:=Qw false [⟨b,1,1,2,true⟩] (Nat.le_of_ble_eq_true rfl)
omit ha hb hc in
theorem cr0[Glob]:Fun Tryz.prog 108 [.c (.sl false [])] [.o 79 6 []]:=Ut false [] (Nat.le_of_ble_eq_true rfl)
omit ha hb hc in
theorem cs0[Glob]:Fun Tryz.prog 109 [.c (.sl false [])] [.o 50 9 []]:=X4 false [] (Nat.le_of_ble_eq_true rfl)
omit ha hb hc in
theorem cg0[Glob]:Fun Tryz.prog 110 [.c (.sl false [])] [.o 53 3 []]:=Xg false [] (Nat.le_of_ble_eq_true rfl)
omit ha hb hc in
theorem cw0[Glob]:Fun Tryz.prog 111 [.c (.sl false [])] [.o 88 6 []]:=Uk false [] (Nat.le_of_ble_eq_true rfl)
omit ha hb hc in
theorem Auu[Glob]:Fun Tryz.prog 201 [.o 47 5 [(xB b)],xZ,.o 47 5 [(xA a)]] [.o 47 5 [(xA a),(xB b)]]:=Ac2 [⟨b,1,1,2,true⟩] ⟨a,1,1,1,false⟩ 0 (ZU _) (Nat.le_of_ble_eq_true rfl)
omit hb hc in
theorem Apr[Glob]:Fun Tryz.prog 44 [.c (.v (.string a))] [.c (.v (.bool true))]:=(by have h:=Dd a (by subst_vars;decide);rw[show Pl.lab a.data.toList=true by subst_vars;rfl]at h;exact h)
omit ha hc in
theorem Atb[Glob]:Fun Tryz.prog 44 [.c (.v (.string b))] [.c (.v (.bool true))]:=(by have h:=Dd b (by subst_vars;decide);rw[show Pl.lab b.data.toList=true by subst_vars;rfl]at h;exact h)
omit ha hb in
theorem Atj[Glob]:Fun Tryz.prog 44 [.c (.v (.string c))] [.c (.v (.bool true))]:=(by have h:=Dd c (by subst_vars;decide);rw[show Pl.lab c.data.toList=true by subst_vars;rfl]at h;exact h)
omit hb hc in
theorem App[Glob]:Fun Tryz.prog 130 [.c (.agg (xA a))] [xZ]:=by
 refine Fh 9 Lp rfl ?_;(refine goI ?_;repeat (intro gg;refine goI ?_));refine .inl ⟨_,_,false,[],aJ,Apr ha,Af,nI,?_⟩;(refine goI ?_;repeat (intro gg;refine goI ?_));refine o4 (Aq 2000 9 Cx rfl ?_);(refine goI ?_;repeat (intro gg;refine goI ?_));refine o4 (Aq 3000 9 Cx rfl ?_);(refine goI ?_;repeat (intro gg;refine goI ?_));refine o4 (Aq 4000 9 Cx rfl ?_);(refine goI ?_;repeat (intro gg;refine goI ?_));(exact⟨[],aJ⟩)
omit ha hc in
theorem Au1[Glob]:Fun Tryz.prog 130 [.c (.agg (xB b))] [xZ]:=by
 refine Fh 9 Lp rfl ?_;(refine goI ?_;repeat (intro gg;refine goI ?_));refine .inl ⟨_,_,false,[],aJ,Atb hb,Af,nI,?_⟩;(refine goI ?_;repeat (intro gg;refine goI ?_));refine o4 (Aq 2000 9 Cx rfl ?_);(refine goI ?_;repeat (intro gg;refine goI ?_));refine o4 (Aq 3000 9 Cx rfl ?_);(refine goI ?_;repeat (intro gg;refine goI ?_));refine o4 (Aq 4000 9 Cx rfl ?_);(refine goI ?_;repeat (intro gg;refine goI ?_));(exact⟨[],aJ⟩)
omit hb hc in
theorem At9[Glob]:Fun Tryz.prog 45 [.c (.sl false [(xA a)])] [xZ]:=by
 refine Fh 9 Ii rfl ?_;(refine goI ?_;repeat (intro gg;refine goI ?_));refine o4 (Aq 1000 9 Fu rfl ?_);(refine goI ?_;repeat (intro gg;refine goI ?_));refine⟨0,_,by kernel_rfl,rfl,?_⟩;(refine goI ?_;repeat (intro gg;refine goI ?_));refine o4 (Aq 3000 9 Gs rfl ?_);(refine goI ?_;repeat (intro gg;refine goI ?_));refine⟨0,_,by kernel_rfl,rfl,?_⟩;(refine goI ?_;repeat (intro gg;refine goI ?_));refine .inl ⟨_,_,false,[],aJ,App ha,Af,nI,?_⟩;(refine goI ?_;repeat (intro gg;refine goI ?_));(exact⟨[],aJ⟩)
omit ha hc in
theorem Aun[Glob]:Fun Tryz.prog 45 [.c (.sl false [(xB b)])] [xZ]:=by
 refine Fh 9 Ii rfl ?_;(refine goI ?_;repeat (intro gg;refine goI ?_));refine o4 (Aq 1000 9 Fu rfl ?_);(refine goI ?_;repeat (intro gg;refine goI ?_));refine⟨0,_,by kernel_rfl,rfl,?_⟩;(refine goI ?_;repeat (intro gg;refine goI ?_));refine o4 (Aq 3000 9 Gs rfl ?_);(refine goI ?_;repeat (intro gg;refine goI ?_));refine⟨0,_,by kernel_rfl,rfl,?_⟩;(refine goI ?_;repeat (intro gg;refine goI ?_));refine .inl ⟨_,_,false,[],aJ,Au1 hb,Af,nI,?_⟩;(refine goI ?_;repeat (intro gg;refine goI ?_));(exact⟨[],aJ⟩)
omit ha hb hc in
theorem Ar5[Glob]:Fun Tryz.prog 46 [.c (.sl false [])] [xZ]:=by
 refine Fh 9 O7 rfl ?_;(refine goI ?_;repeat (intro gg;refine goI ?_));refine o4 (Aq 1000 9 Cj rfl ?_);(refine goI ?_;repeat (intro gg;refine goI ?_));refine o4 (Aq 2000 9 Be rfl ?_);(refine goI ?_;repeat (intro gg;refine goI ?_));(exact⟨[],aJ⟩)
omit ha hb hc in
theorem Apo[Glob]:Fun Tryz.prog 47 [.c (.sl false [])] [xZ]:=by
 refine Fh 9 Mh rfl ?_;(refine goI ?_;repeat (intro gg;refine goI ?_));refine o4 (Aq 1000 9 Hh rfl ?_);(refine goI ?_;repeat (intro gg;refine goI ?_));refine⟨0,_,by kernel_rfl,rfl,?_⟩;(refine goI ?_;repeat (intro gg;refine goI ?_));(exact⟨[],aJ⟩)
omit ha hb hc in
theorem Aqz[Glob]:Fun Tryz.prog 48 [.c (.sl false [])] [xZ]:=by
 refine Fh 9 Nx rfl ?_;(refine goI ?_;repeat (intro gg;refine goI ?_));refine o4 (Aq 1000 9 Ik rfl ?_);(refine goI ?_;repeat (intro gg;refine goI ?_));refine⟨0,_,by kernel_rfl,rfl,?_⟩;(refine goI ?_;repeat (intro gg;refine goI ?_));(exact⟨[],aJ⟩)
omit ha hb hc in
theorem Arf[Glob]:Fun Tryz.prog 50 [.c (.sl false [])] [xZ]:=by
 refine Fh 9 L2 rfl ?_;(refine goI ?_;repeat (intro gg;refine goI ?_));(exact⟨[],aJ⟩)
omit ha hb hc in
theorem Atf[Glob]:Fun Tryz.prog 49 [.c (.agg [.v (.int .i64 0),.v (.int .i64 0),.v (.int .i64 0),.v (.int .i64 0),.v (.int .i64 1000)])] [xZ]:=by
 refine Fh 9 Oq rfl ?_;(refine goI ?_;repeat (intro gg;refine goI ?_));refine o4 (Aq 1000 9 Ff rfl ?_);(refine goI ?_;repeat (intro gg;refine goI ?_));refine o4 (Aq 2000 9 Dn rfl ?_);(refine goI ?_;repeat (intro gg;refine goI ?_));refine o4 (Aq 3000 9 Ff rfl ?_);(refine goI ?_;repeat (intro gg;refine goI ?_));refine o4 (Aq 4000 9 Dn rfl ?_);(refine goI ?_;repeat (intro gg;refine goI ?_));refine o4 (Aq 5000 9 Ff rfl ?_);(refine goI ?_;repeat (intro gg;refine goI ?_));refine o4 (Aq 6000 9 Dn rfl ?_);(refine goI ?_;repeat (intro gg;refine goI ?_));refine o4 (Aq 7000 9 Dn rfl ?_);(refine goI ?_;repeat (intro gg;refine goI ?_));refine o4 (Aq 8000 9 Dn rfl ?_);(refine goI ?_;repeat (intro gg;refine goI ?_));(exact⟨[],aJ⟩)
omit ha hb hc in
theorem Atd[Glob]:Fun Tryz.prog 116 [.c (.sl false []),.c (.sl false [])] [.o 50 9 [],xZ]:=by
 refine Fh 9 Vf rfl ?_;(refine goI ?_;repeat (intro gg;refine goI ?_));refine o4 (Aq 1000 9 Hh rfl ?_);(refine goI ?_;repeat (intro gg;refine goI ?_));refine⟨0,_,by kernel_rfl,rfl,?_⟩;(refine goI ?_;repeat (intro gg;refine goI ?_));refine⟨1,_,by kernel_rfl,rfl,?_⟩;(refine goI ?_;repeat (intro gg;refine goI ?_));refine .inl ⟨_,_,false,[],aJ,cs0,Af,nI,?_⟩;(refine goI ?_;repeat (intro gg;refine goI ?_));(exact⟨[320],aJ⟩)
omit ha hb hc in
theorem Asl[Glob]:Fun Tryz.prog 117 [.c (.sl false []),.c (.sl false [])] [.o 53 3 [],xZ]:=by
 refine Fh 9 Xb rfl ?_;(refine goI ?_;repeat (intro gg;refine goI ?_));refine o4 (Aq 1000 9 Ik rfl ?_);(refine goI ?_;repeat (intro gg;refine goI ?_));refine⟨0,_,by kernel_rfl,rfl,?_⟩;(refine goI ?_;repeat (intro gg;refine goI ?_));refine⟨1,_,by kernel_rfl,rfl,?_⟩;(refine goI ?_;repeat (intro gg;refine goI ?_));refine .inl ⟨_,_,false,[],aJ,cg0,Af,nI,?_⟩;(refine goI ?_;repeat (intro gg;refine goI ?_));(exact⟨[320],aJ⟩)
omit hb in
theorem ckA[Glob]:Fun Tryz.prog 20 [.c (.agg (yA a c))] [xZ]:=by
 refine Fh 9 Ls rfl ?_;(refine goI ?_;repeat (intro gg;refine goI ?_));refine .inl ⟨_,_,false,[],aJ,Apr ha,Af,nI,?_⟩;(refine goI ?_;repeat (intro gg;refine goI ?_));refine .inl ⟨_,_,false,[],aJ,Atj hc,Af,nI,?_⟩;(refine goI ?_;repeat (intro gg;refine goI ?_));refine⟨_,_,false,aJ,At9 ha,Af,nI,?_⟩;(refine goI ?_;repeat (intro gg;refine goI ?_));refine⟨_,_,false,aJ,Ar5,Af,nI,?_⟩;(refine goI ?_;repeat (intro gg;refine goI ?_));refine⟨_,_,false,aJ,Apo,Af,nI,?_⟩;(refine goI ?_;repeat (intro gg;refine goI ?_));refine⟨_,_,false,aJ,Aqz,Af,nI,?_⟩;(refine goI ?_;repeat (intro gg;refine goI ?_));refine⟨_,_,false,aJ,Atf,Af,nI,?_⟩;(refine goI ?_;repeat (intro gg;refine goI ?_));refine⟨_,_,false,aJ,Arf,Af,nI,?_⟩;(refine goI ?_;repeat (intro gg;refine goI ?_));refine⟨0,_,by kernel_rfl,rfl,?_⟩;(refine goI ?_;repeat (intro gg;refine goI ?_));refine⟨1,_,by kernel_rfl,rfl,?_⟩;(refine goI ?_;repeat (intro gg;refine goI ?_));refine⟨2,_,by kernel_rfl,rfl,?_⟩;(refine goI ?_;repeat (intro gg;refine goI ?_));refine⟨3,_,by kernel_rfl,rfl,?_⟩;(refine goI ?_;repeat (intro gg;refine goI ?_));refine⟨4,_,by kernel_rfl,rfl,?_⟩;(refine goI ?_;repeat (intro gg;refine goI ?_));refine⟨5,_,by kernel_rfl,rfl,?_⟩;(refine goI ?_;repeat (intro gg;refine goI ?_));refine o4 (Aq 15000 9 Ev rfl ?_);(refine goI ?_;repeat (intro gg;refine goI ?_));refine o4 (Aq 16000 9 Av rfl ?_);(refine goI ?_;repeat (intro gg;refine goI ?_));refine⟨1,by kernel_rfl,?_⟩;(refine goI ?_;repeat (intro gg;refine goI ?_));refine⟨0,_,by kernel_rfl,rfl,?_⟩;(refine goI ?_;repeat (intro gg;refine goI ?_));refine o4 (Aq 19000 9 Bo rfl ?_);(refine goI ?_;repeat (intro gg;refine goI ?_));refine o4 (Aq 20000 9 Bc rfl ?_);(refine goI ?_;repeat (intro gg;refine goI ?_));refine o4 (Aq 21000 9 As rfl ?_);(refine goI ?_;repeat (intro gg;refine goI ?_));refine o4 (Aq 22000 9 As rfl ?_);(refine goI ?_;repeat (intro gg;refine goI ?_));refine bF ?_;(refine goI ?_;repeat (intro gg;refine goI ?_));refine bF ?_;(refine goI ?_;repeat (intro gg;refine goI ?_));refine bF ?_;(refine goI ?_;repeat (intro gg;refine goI ?_));refine bF ?_;(refine goI ?_;repeat (intro gg;refine goI ?_));refine⟨0,_,by kernel_rfl,rfl,?_⟩;(refine goI ?_;repeat (intro gg;refine goI ?_));refine o4 (Aq 28000 9 Bo rfl ?_);(refine goI ?_;repeat (intro gg;refine goI ?_));refine o4 (Aq 29000 9 Bc rfl ?_);(refine goI ?_;repeat (intro gg;refine goI ?_));refine o4 (Aq 30000 9 As rfl ?_);(refine goI ?_;repeat (intro gg;refine goI ?_));refine o4 (Aq 31000 9 As rfl ?_);(refine goI ?_;repeat (intro gg;refine goI ?_));refine bF ?_;(refine goI ?_;repeat (intro gg;refine goI ?_));refine bF ?_;(refine goI ?_;repeat (intro gg;refine goI ?_));refine bF ?_;(refine goI ?_;repeat (intro gg;refine goI ?_));refine bF ?_;(refine goI ?_;repeat (intro gg;refine goI ?_));refine⟨0,_,by kernel_rfl,rfl,?_⟩;(refine goI ?_;repeat (intro gg;refine goI ?_));refine⟨0,_,by kernel_rfl,rfl,?_⟩;(refine goI ?_;repeat (intro gg;refine goI ?_));refine o4 (Aq 38000 9 Jh rfl ?_);(refine goI ?_;repeat (intro gg;refine goI ?_));(exact⟨[],aJ⟩)
omit ha in
theorem ckB[Glob]:Fun Tryz.prog 20 [.c (.agg (yB b c))] [xZ]:=by
 refine Fh 9 Ls rfl ?_;(refine goI ?_;repeat (intro gg;refine goI ?_));refine .inl ⟨_,_,false,[],aJ,Atb hb,Af,nI,?_⟩;(refine goI ?_;repeat (intro gg;refine goI ?_));refine .inl ⟨_,_,false,[],aJ,Atj hc,Af,nI,?_⟩;(refine goI ?_;repeat (intro gg;refine goI ?_));refine⟨_,_,false,aJ,Aun hb,Af,nI,?_⟩;(refine goI ?_;repeat (intro gg;refine goI ?_));refine⟨_,_,false,aJ,Ar5,Af,nI,?_⟩;(refine goI ?_;repeat (intro gg;refine goI ?_));refine⟨_,_,false,aJ,Apo,Af,nI,?_⟩;(refine goI ?_;repeat (intro gg;refine goI ?_));refine⟨_,_,false,aJ,Aqz,Af,nI,?_⟩;(refine goI ?_;repeat (intro gg;refine goI ?_));refine⟨_,_,false,aJ,Atf,Af,nI,?_⟩;(refine goI ?_;repeat (intro gg;refine goI ?_));refine⟨_,_,false,aJ,Arf,Af,nI,?_⟩;(refine goI ?_;repeat (intro gg;refine goI ?_));refine⟨0,_,by kernel_rfl,rfl,?_⟩;(refine goI ?_;repeat (intro gg;refine goI ?_));refine⟨1,_,by kernel_rfl,rfl,?_⟩;(refine goI ?_;repeat (intro gg;refine goI ?_));refine⟨2,_,by kernel_rfl,rfl,?_⟩;(refine goI ?_;repeat (intro gg;refine goI ?_));refine⟨3,_,by kernel_rfl,rfl,?_⟩;(refine goI ?_;repeat (intro gg;refine goI ?_));refine⟨4,_,by kernel_rfl,rfl,?_⟩;(refine goI ?_;repeat (intro gg;refine goI ?_));refine⟨5,_,by kernel_rfl,rfl,?_⟩;(refine goI ?_;repeat (intro gg;refine goI ?_));refine o4 (Aq 15000 9 Ev rfl ?_);(refine goI ?_;repeat (intro gg;refine goI ?_));refine o4 (Aq 16000 9 Av rfl ?_);(refine goI ?_;repeat (intro gg;refine goI ?_));refine⟨1,by kernel_rfl,?_⟩;(refine goI ?_;repeat (intro gg;refine goI ?_));refine⟨0,_,by kernel_rfl,rfl,?_⟩;(refine goI ?_;repeat (intro gg;refine goI ?_));refine o4 (Aq 19000 9 Bo rfl ?_);(refine goI ?_;repeat (intro gg;refine goI ?_));refine o4 (Aq 20000 9 Bc rfl ?_);(refine goI ?_;repeat (intro gg;refine goI ?_));refine o4 (Aq 21000 9 As rfl ?_);(refine goI ?_;repeat (intro gg;refine goI ?_));refine o4 (Aq 22000 9 As rfl ?_);(refine goI ?_;repeat (intro gg;refine goI ?_));refine bF ?_;(refine goI ?_;repeat (intro gg;refine goI ?_));refine bF ?_;(refine goI ?_;repeat (intro gg;refine goI ?_));refine bF ?_;(refine goI ?_;repeat (intro gg;refine goI ?_));refine bF ?_;(refine goI ?_;repeat (intro gg;refine goI ?_));refine⟨0,_,by kernel_rfl,rfl,?_⟩;(refine goI ?_;repeat (intro gg;refine goI ?_));refine o4 (Aq 28000 9 Bo rfl ?_);(refine goI ?_;repeat (intro gg;refine goI ?_));refine o4 (Aq 29000 9 Bc rfl ?_);(refine goI ?_;repeat (intro gg;refine goI ?_));refine o4 (Aq 30000 9 As rfl ?_);(refine goI ?_;repeat (intro gg;refine goI ?_));refine o4 (Aq 31000 9 As rfl ?_);(refine goI ?_;repeat (intro gg;refine goI ?_));refine bF ?_;(refine goI ?_;repeat (intro gg;refine goI ?_));refine bF ?_;(refine goI ?_;repeat (intro gg;refine goI ?_));refine bF ?_;(refine goI ?_;repeat (intro gg;refine goI ?_));refine bF ?_;(refine goI ?_;repeat (intro gg;refine goI ?_));refine⟨0,_,by kernel_rfl,rfl,?_⟩;(refine goI ?_;repeat (intro gg;refine goI ?_));refine⟨0,_,by kernel_rfl,rfl,?_⟩;(refine goI ?_;repeat (intro gg;refine goI ?_));refine o4 (Aq 38000 9 Jh rfl ?_);(refine goI ?_;repeat (intro gg;refine goI ?_));(exact⟨[],aJ⟩)
omit hb in
theorem Aug[Glob]:Fun Tryz.prog 18 [.c (.v (.string a)),.c (.v (.string c)),.c (.v (.int .i64 1)),.c (.v (.bool false))] [.c (.agg (yA a c)),xZ]:=by
 refine Pn 9 U0 rfl ?_;(refine goI ?_;repeat (intro gg;refine goI ?_));refine .inl ⟨_,_,true,[],aJ,ckA ha hc,(fun _=>fJ),nI,?_⟩;(refine goI ?_;repeat (intro gg;refine goI ?_));(exact⟨_,[],.cell1 rfl rfl rfl rfl rfl rfl (.tmp1 rfl .nil),aJ⟩)
omit ha in
theorem Aus[Glob]:Fun Tryz.prog 18 [.c (.v (.string b)),.c (.v (.string c)),.c (.v (.int .i64 2)),.c (.v (.bool true))] [.c (.agg (yB b c)),xZ]:=by
 refine Pn 9 U0 rfl ?_;(refine goI ?_;repeat (intro gg;refine goI ?_));refine .inl ⟨_,_,true,[],aJ,ckB hb hc,(fun _=>fJ),nI,?_⟩;(refine goI ?_;repeat (intro gg;refine goI ?_));(exact⟨_,[],.cell1 rfl rfl rfl rfl rfl rfl (.tmp1 rfl .nil),aJ⟩)
omit hb in
theorem Auh[Glob]:Fun Tryz.prog 122 [.c (.agg (yA a c))] [.c (.agg [.v (.string a),.v (.bool true),.sl false [(xA a)],.sl false [],.sl false [],.sl false []]),xZ]:=by
 refine Pn 9 Yo rfl ?_;(refine goI ?_;repeat (intro gg;refine goI ?_));refine o4 (Aq 1000 9 Sd rfl ?_);(refine goI ?_;repeat (intro gg;refine goI ?_));refine .inl ⟨_,_,false,[],aJ,ckA ha hc,Af,nI,?_⟩;(refine goI ?_;repeat (intro gg;refine goI ?_));refine⟨_,_,false,aJ,kA,Af,nI,?_⟩;(refine goI ?_;repeat (intro gg;refine goI ?_));refine⟨_,_,false,aJ,cr0,Af,nI,?_⟩;(refine goI ?_;repeat (intro gg;refine goI ?_));refine⟨_,_,false,aJ,cs0,Af,nI,?_⟩;(refine goI ?_;repeat (intro gg;refine goI ?_));refine⟨_,_,false,aJ,cg0,Af,nI,?_⟩;(refine goI ?_;repeat (intro gg;refine goI ?_));refine⟨_,_,false,aJ,cw0,Af,nI,?_⟩;(refine goI ?_;repeat (intro gg;refine goI ?_));(exact⟨_,[],.cell1 rfl rfl rfl rfl rfl rfl (.tmp1 rfl .nil),aJ⟩)
omit hc in
theorem Ats[Glob]:Fun Tryz.prog 142 [.c (.sl false [(xB b)]),.c (.agg (xA a))] [.o 47 5 [(xA a),(xB b)],.c (.v (.bool true)),xZ]:=by
 refine Fh 9 X7 rfl ?_;(refine goI ?_;repeat (intro gg;refine goI ?_));refine o4 (Aq 1000 9 Fu rfl ?_);(refine goI ?_;repeat (intro gg;refine goI ?_));refine⟨0,_,by kernel_rfl,rfl,?_⟩;(refine goI ?_;repeat (intro gg;refine goI ?_));refine o4 (Aq 3000 9 Gs rfl ?_);(refine goI ?_;repeat (intro gg;refine goI ?_));refine⟨0,_,by kernel_rfl,rfl,?_⟩;(refine goI ?_;repeat (intro gg;refine goI ?_));refine .inl ⟨_,_,false,[],aJ,Au1 hb,Af,nI,?_⟩;(refine goI ?_;repeat (intro gg;refine goI ?_));refine .inl ⟨_,_,false,[],aJ,App ha,Af,nI,?_⟩;(refine goI ?_;repeat (intro gg;refine goI ?_));refine⟨_,_,false,aJ,kB,Af,nI,?_⟩;(refine goI ?_;repeat (intro gg;refine goI ?_));refine o4 (Aq 8000 9 Yy rfl ?_);(refine goI ?_;repeat (intro gg;refine goI ?_));refine o4 (Aq 9000 9 Ev rfl ?_);(refine goI ?_;repeat (intro gg;refine goI ?_));refine o4 (Aq 10000 9 Av rfl ?_);(refine goI ?_;repeat (intro gg;refine goI ?_));refine⟨1,by kernel_rfl,?_⟩;(refine goI ?_;repeat (intro gg;refine goI ?_));refine⟨0,_,by kernel_rfl,rfl,?_⟩;(refine goI ?_;repeat (intro gg;refine goI ?_));refine o4 (Aq 13000 9 Bo rfl ?_);(refine goI ?_;repeat (intro gg;refine goI ?_));refine o4 (Aq 14000 9 Bc rfl ?_);(refine goI ?_;repeat (intro gg;refine goI ?_));refine o4 (Aq 15000 9 As rfl ?_);(refine goI ?_;repeat (intro gg;refine goI ?_));refine o4 (Aq 16000 9 As rfl ?_);(refine goI ?_;repeat (intro gg;refine goI ?_));refine bF ?_;(refine goI ?_;repeat (intro gg;refine goI ?_));refine bF ?_;(refine goI ?_;repeat (intro gg;refine goI ?_));refine bF ?_;(refine goI ?_;repeat (intro gg;refine goI ?_));refine bT ?_;(refine goI ?_;repeat (intro gg;refine goI ?_));refine⟨0,_,by kernel_rfl,rfl,?_⟩;(refine goI ?_;repeat (intro gg;refine goI ?_));refine o4 (Aq 22000 9 Bo rfl ?_);(refine goI ?_;repeat (intro gg;refine goI ?_));refine o4 (Aq 23000 9 Bc rfl ?_);(refine goI ?_;repeat (intro gg;refine goI ?_));refine o4 (Aq 24000 9 As rfl ?_);(refine goI ?_;repeat (intro gg;refine goI ?_));refine o4 (Aq 25000 9 As rfl ?_);(refine goI ?_;repeat (intro gg;refine goI ?_));refine bF ?_;(refine goI ?_;repeat (intro gg;refine goI ?_));refine bF ?_;(refine goI ?_;repeat (intro gg;refine goI ?_));refine bF ?_;(refine goI ?_;repeat (intro gg;refine goI ?_));refine bT ?_;(refine goI ?_;repeat (intro gg;refine goI ?_));refine .inl ⟨_,_,true,[336,128336],aJ,Auu,(fun _=>fJ),nI,?_⟩;(refine goI ?_;repeat (intro gg;refine goI ?_));(exact⟨[128352],aJ⟩)
omit hb hc in
theorem Au4[Glob]:Fun Tryz.prog 172 [.c (.sl false []),.c (.agg (xA a))] [.o 79 6 [(xR a)],xZ]:=by
 refine Fh 9 Aag rfl ?_;(refine goI ?_;repeat (intro gg;refine goI ?_));refine .inl ⟨_,_,false,[],aJ,Ar5,Af,nI,?_⟩;(refine goI ?_;repeat (intro gg;refine goI ?_));refine o4 (Aq 2000 9 Qc rfl ?_);(refine goI ?_;repeat (intro gg;refine goI ?_));refine .inl ⟨_,_,false,[],aJ,App ha,Af,nI,?_⟩;(refine goI ?_;repeat (intro gg;refine goI ?_));refine .inl ⟨_,_,false,[],aJ,cr0,Af,nI,?_⟩;(refine goI ?_;repeat (intro gg;refine goI ?_));refine o4 (Aq 5000 9 Be rfl ?_);(refine goI ?_;repeat (intro gg;refine goI ?_));refine⟨lI,lI,?_⟩;(refine goI ?_;repeat (intro gg;refine goI ?_));(exact⟨[288],aJ⟩)
theorem Atw[Glob]:Fun Tryz.prog 65 [.c (.agg (yB b c)),.c (.agg [.v (.string a),.v (.bool true),.sl false [(xA a)],.sl false [],.sl false [],.sl false []])] [.c (.agg (yC a b c)),xZ]:=by
 refine Pn 9 Aaw rfl ?_;(refine goI ?_;repeat (intro gg;refine goI ?_));refine o4 (Aq 1000 9 Sd rfl ?_);(refine goI ?_;repeat (intro gg;refine goI ?_));refine .inl ⟨_,_,false,[],aJ,ckB hb hc,Af,nI,?_⟩;(refine goI ?_;repeat (intro gg;refine goI ?_));refine⟨_,_,false,aJ,kB,Af,nI,?_⟩;(refine goI ?_;repeat (intro gg;refine goI ?_));refine⟨_,_,false,aJ,cr0,Af,nI,?_⟩;(refine goI ?_;repeat (intro gg;refine goI ?_));refine⟨_,_,false,aJ,cs0,Af,nI,?_⟩;(refine goI ?_;repeat (intro gg;refine goI ?_));refine⟨_,_,false,aJ,cg0,Af,nI,?_⟩;(refine goI ?_;repeat (intro gg;refine goI ?_));refine⟨_,_,false,aJ,cw0,Af,nI,?_⟩;(refine goI ?_;repeat (intro gg;refine goI ?_));refine o4 (Aq 8000 9 Nw rfl ?_);(refine goI ?_;repeat (intro gg;refine goI ?_));refine .inl ⟨_,_,false,[],aJ,Apr ha,Af,nI,?_⟩;(refine goI ?_;repeat (intro gg;refine goI ?_));refine⟨_,_,false,aJ,At9 ha,Af,nI,?_⟩;(refine goI ?_;repeat (intro gg;refine goI ?_));refine⟨_,_,false,aJ,Apo,Af,nI,?_⟩;(refine goI ?_;repeat (intro gg;refine goI ?_));refine⟨_,_,false,aJ,Aqz,Af,nI,?_⟩;(refine goI ?_;repeat (intro gg;refine goI ?_));refine⟨_,_,false,aJ,Arf,Af,nI,?_⟩;(refine goI ?_;repeat (intro gg;refine goI ?_));refine⟨0,_,by kernel_rfl,rfl,?_⟩;(refine goI ?_;repeat (intro gg;refine goI ?_));refine⟨1,_,by kernel_rfl,rfl,?_⟩;(refine goI ?_;repeat (intro gg;refine goI ?_));refine⟨2,_,by kernel_rfl,rfl,?_⟩;(refine goI ?_;repeat (intro gg;refine goI ?_));refine⟨3,_,by kernel_rfl,rfl,?_⟩;(refine goI ?_;repeat (intro gg;refine goI ?_));refine⟨0,_,by kernel_rfl,rfl,?_⟩;(refine goI ?_;repeat (intro gg;refine goI ?_));refine o4 (Aq 19000 9 N6 rfl ?_);(refine goI ?_;repeat (intro gg;refine goI ?_));refine .inl ⟨_,_,true,[],aJ,Ats ha hb,(fun _=>fJ),nI,?_⟩;(refine goI ?_;repeat (intro gg;refine goI ?_));refine o4 (Aq 21000 9 Ql rfl ?_);(refine goI ?_;repeat (intro gg;refine goI ?_));refine o4 (Aq 22000 9 Ev rfl ?_);(refine goI ?_;repeat (intro gg;refine goI ?_));refine o4 (Aq 23000 9 Av rfl ?_);(refine goI ?_;repeat (intro gg;refine goI ?_));refine⟨2,by kernel_rfl,?_⟩;(refine goI ?_;repeat (intro gg;refine goI ?_));refine⟨1,_,by kernel_rfl,rfl,?_⟩;(refine goI ?_;repeat (intro gg;refine goI ?_));refine o4 (Aq 26000 9 Bo rfl ?_);(refine goI ?_;repeat (intro gg;refine goI ?_));refine o4 (Aq 27000 9 Bc rfl ?_);(refine goI ?_;repeat (intro gg;refine goI ?_));refine o4 (Aq 28000 9 As rfl ?_);(refine goI ?_;repeat (intro gg;refine goI ?_));refine o4 (Aq 29000 9 As rfl ?_);(refine goI ?_;repeat (intro gg;refine goI ?_));refine bF ?_;(refine goI ?_;repeat (intro gg;refine goI ?_));refine bF ?_;(refine goI ?_;repeat (intro gg;refine goI ?_));refine bF ?_;(refine goI ?_;repeat (intro gg;refine goI ?_));refine bT ?_;(refine goI ?_;repeat (intro gg;refine goI ?_));refine⟨0,_,by kernel_rfl,rfl,?_⟩;(refine goI ?_;repeat (intro gg;refine goI ?_));refine o4 (Aq 35000 9 Bo rfl ?_);(refine goI ?_;repeat (intro gg;refine goI ?_));refine o4 (Aq 36000 9 Bc rfl ?_);(refine goI ?_;repeat (intro gg;refine goI ?_));refine o4 (Aq 37000 9 As rfl ?_);(refine goI ?_;repeat (intro gg;refine goI ?_));refine o4 (Aq 38000 9 As rfl ?_);(refine goI ?_;repeat (intro gg;refine goI ?_));refine bF ?_;(refine goI ?_;repeat (intro gg;refine goI ?_));refine bF ?_;(refine goI ?_;repeat (intro gg;refine goI ?_));refine bF ?_;(refine goI ?_;repeat (intro gg;refine goI ?_));refine bF ?_;(refine goI ?_;repeat (intro gg;refine goI ?_));refine⟨0,_,by kernel_rfl,rfl,?_⟩;(refine goI ?_;repeat (intro gg;refine goI ?_));refine o4 (Aq 44000 9 Bo rfl ?_);(refine goI ?_;repeat (intro gg;refine goI ?_));refine o4 (Aq 45000 9 Bc rfl ?_);(refine goI ?_;repeat (intro gg;refine goI ?_));refine o4 (Aq 46000 9 As rfl ?_);(refine goI ?_;repeat (intro gg;refine goI ?_));refine o4 (Aq 47000 9 As rfl ?_);(refine goI ?_;repeat (intro gg;refine goI ?_));refine bF ?_;(refine goI ?_;repeat (intro gg;refine goI ?_));refine bF ?_;(refine goI ?_;repeat (intro gg;refine goI ?_));refine bF ?_;(refine goI ?_;repeat (intro gg;refine goI ?_));refine bF ?_;(refine goI ?_;repeat (intro gg;refine goI ?_));refine⟨0,_,by kernel_rfl,rfl,?_⟩;(refine goI ?_;repeat (intro gg;refine goI ?_));refine .inl ⟨_,_,true,[],aJ,Au4 ha,(fun _=>fJ),nI,?_⟩;(refine goI ?_;repeat (intro gg;refine goI ?_));refine bT ?_;(refine goI ?_;repeat (intro gg;refine goI ?_));refine⟨_,_,true,aJ,Atd,(fun _=>fJ),nI,?_⟩;(refine goI ?_;repeat (intro gg;refine goI ?_));refine⟨_,_,true,aJ,Asl,(fun _=>fJ),nI,?_⟩;(refine goI ?_;repeat (intro gg;refine goI ?_));(exact⟨_,[],.cell1 rfl rfl rfl rfl rfl rfl (.tmp1 rfl .nil),aJ⟩)
end
theorem Asu[Glob]{P:Program}{f:FuncId}{T:TypeId}{sz:Nat}{rows:List (List V)}{rs:List Par}(hF:Fun P f [.c (.sl false rows)] rs):Fun P f [.o T sz rows] rs:=by
 refine⟨hF.1,fun w R xs hlt hp hg=>?_⟩;obtain⟨x,rfl⟩:∃x,xs=[x]:=by
  have hl:=hp.len;rcases xs with _|⟨x,_|⟨x',xs⟩⟩<;>simp at hl
  exact⟨x,rfl⟩
 have h0:O4 w R (.o T sz rows) x:=hp.ok 0 _ _ rfl rfl;have hx:RV w (fun b=>R b∨x.ownBlock=some b) noG (.sl false rows) x:=Ami h0 (fun b hb=>.inl hb) (fun b hb=>.inr hb);have hlt1:∀b,(R b∨x.ownBlock=some b)→b<w.heap.size:=by
  rintro b (hb|hb)
  ·exact hlt b hb
  ·obtain⟨_,xs',g,_⟩:=h0;exact Hv g hb
 have n:∀b,¬A4 [.c (.sl false rows)] [x] b:=fun b=>Fi (by intro p hp;rcases XC.1 hp with rfl|hp;exact⟨_,rfl⟩;cases hp);have blk:∀b,x.ownBlock=some b→A4 [.o T sz rows] [x] b:=fun b hb=>⟨0,T,sz,rows,x,rfl,rfl,hb⟩;refine(hF.2 w (fun b=>R b∨x.ownBlock=some b) [x] hlt1 (Wu hx) (fun b o q=>⟨(hg b o q).1,n b⟩)).mono ?_
 rintro e w' ⟨ys,R',rfl,hf,h1,h2,h3,h4⟩
 refine⟨ys,R',rfl,Dk hf (fun k q=>(n k q).elim),fun b hb=>h1 b (.inl hb),fun b hb=>?_,h3,fun b hb=>?_⟩
 ·rcases h2 b hb with(q|q)|⟨q1,q2⟩
  ·exact .inl q
  ·exact .inr ⟨XH (hlt1 b (.inr q)) hf.size,.inl (blk b q)⟩
  ·exact .inr ⟨q1,q2.elim (fun q=>(n b q).elim) .inr⟩
 ·rcases h4 b hb with q|q
  ·exact(n b q).elim
  ·exact .inr q
theorem Aiw[Glob](l:List Lt)(i:Nat)(hi:i<l.length)(hl:l.length≤1000):Fun Tryz.prog 66 [.o 57 2 (l.map Lt.row),.c (.v (.int .i64 i)),.c (.v (.int .i64 ((i:Int)+1)))] [.o 57 2 ((l.eraseIdx i).map Lt.row)]:=by
 have hlen:(l.map Lt.row).length=l.length:=by simp
 refine A9 E4 rfl ?_;(refine goI ?_;repeat (intro gg;refine goI ?_));refine⟨2,i,i+1,rfl,⟨_,rfl⟩,⟨_,rfl⟩,by omega,by show i+1≤(l.map Lt.row).length;omega,?_⟩;refine⟨_,l.length,.i64,rfl,rfl,by rw[←hlen];rfl,by omega,by show l.length≤(l.map Lt.row).length;omega,?_⟩;(refine goI ?_;repeat (intro gg;refine goI ?_));rw[show(((i:Int)==(i:Int)+1)=false)from by simp;omega];(refine goI ?_;repeat (intro gg;refine goI ?_));refine⟨0,i,rfl,rfl,⟨_,rfl⟩,by omega,by show i≤(l.map Lt.row).length;omega,rfl,?_⟩;(refine goI ?_;repeat (intro gg;refine goI ?_));refine⟨i+1,(l.map Lt.row).length,rfl,⟨_,rfl⟩,rfl,by show i+1≤(l.map Lt.row).length;omega,by show(l.map Lt.row).length≤(l.map Lt.row).length;omega,rfl,?_⟩;(refine goI ?_;repeat (intro gg;refine goI ?_));refine⟨by omega,by omega,by show(l.map Lt.row).length≤(l.map Lt.row).length;omega,?_⟩;(refine goI ?_;repeat (intro gg;refine goI ?_));have e2:((l.map Lt.row).take i++((l.map Lt.row).drop (i+1)).take ((l.map Lt.row).length-(i+1))++(l.map Lt.row).drop (i+((l.map Lt.row).length-(i+1)))).length=l.length:=by
  simp only[ZF,ZM,List.length_drop,hlen];omega
 refine⟨i+((l.map Lt.row).length-(i+1)),(l.map Lt.row).length,rfl,⟨_,rfl⟩,⟨_,rfl⟩,by omega,?_,rfl,by omega,?_⟩
 ·show 0+(l.map Lt.row).length≤((l.map Lt.row).take i++((l.map Lt.row).drop (i+1)).take ((l.map Lt.row).length-(i+1))++(l.map Lt.row).drop (i+((l.map Lt.row).length-(i+1)))).length;rw[Nat.zero_add,hlen];rw[hlen]at e2;exact Nat.le_of_eq e2.symm
 (refine goI ?_;repeat (intro gg;refine goI ?_));refine⟨by omega,?_,?_⟩
 ·show 0+(l.map Lt.row).length≤((l.map Lt.row).take i++((l.map Lt.row).drop (i+1)).take ((l.map Lt.row).length-(i+1))++(l.map Lt.row).drop (i+((l.map Lt.row).length-(i+1)))).length;rw[Nat.zero_add,hlen];rw[hlen]at e2;exact Nat.le_of_eq e2.symm
 (refine goI ?_;repeat (intro gg;refine goI ?_));refine⟨[0],Akl rfl rfl rfl rfl rfl ?_ ?_ ?_⟩
 ·refine XI ?_ (Nat.le_of_eq (congrArg List.length (ZS _ _ _)).symm);rw[ZF,ZM];refine XI (m:=i+((l.map Lt.row).length-(i+1))) (by omega) (XI (Nat.le_min.2 ⟨by omega,?_⟩) (Nat.le_add_right _ _));show _≤((l.map Lt.row).take i++((l.map Lt.row).drop (i+1)).take ((l.map Lt.row).length-(i+1))++(l.map Lt.row).drop (i+((l.map Lt.row).length-(i+1)))).length;rw[hlen];rw[hlen]at e2;rw[e2];omega
 ·repeat' (first|exact B5|exact Amv rfl|apply Aps|apply Aod|apply Aog)
 ·exact Afc hi
theorem Ai6(w:World)(o o':Obj): {w.alloc o with heap:=(w.alloc o).heap.setIfInBounds w.heap.size o'} =w.alloc o':=by
 have e:(w.heap.push o).setIfInBounds w.heap.size o'=w.heap.push o':=by
  apply Array.ext
  ·simp
  ·intro i h1 h2;simp only[Array.getElem_setIfInBounds,Array.getElem_push]
   grind
 show({w with heap:=(w.heap.push o).setIfInBounds w.heap.size o'} :World)={w with heap:=w.heap.push o'};rw[e]
theorem Ad0(w:World)(o:Obj):(w.alloc o).heap[w.heap.size]? =some o:=by
 show(w.heap.push o)[w.heap.size]? =some o;simp
theorem Iv{P:Program}{w:World}{t kt et:TypeId}{clock:Nat}{es:Array MapEntry}{k:Int}{v:Value}(ht:P.underlying t=some (.map kt et))(hkt:P.underlying kt=some (.int .i64))(hf:Instr.findNow (.int .i64) (.int .i64 k) es.toList 0=some none):(Instr.mapUpdate t (.map (some w.heap.size)) (.int .i64 k) v).run P (w.alloc (.map es clock))=.ok () (w.alloc (.map (es.push ⟨.int .i64 k,v,clock⟩) (clock+1))):=by
 have hm:=Ad0 w (.map es clock);rw[←Ai6 w (.map es clock) (.map (es.push ⟨.int .i64 k,v,clock⟩) (clock+1))];simp[Instr.mapUpdate,run_underlying ht,Go.MapKept.run_getObj_map hm,Go.MapKept.run_checkKey hkt (show Go.MapKept.IsKey (.int .i64) (.int .i64 k)from rfl),Go.MapKept.run_findKey hkt hf,Go.MapKept.run_setObj_map _ hm,Result.andThen]
theorem Akg{P:Program}{w:World}{t kt et:TypeId}{clock i:Nat}{es:Array MapEntry}{k:Int}{v:Value}(ht:P.underlying t=some (.map kt et))(hkt:P.underlying kt=some (.int .i64))(hf:Instr.findNow (.int .i64) (.int .i64 k) es.toList 0=some (some (i,v))):(Instr.lookup t (.map (some w.heap.size)) (.int .i64 k) false).run P (w.alloc (.map es clock))=.ok v (w.alloc (.map es clock)):=by
 have hm:=Ad0 w (.map es clock);simp[Instr.lookup,run_underlying ht,Go.MapKept.run_getObj_map hm,Go.MapKept.run_checkKey hkt (show Go.MapKept.IsKey (.int .i64) (.int .i64 k)from rfl),Go.MapKept.run_findKey hkt hf,Result.andThen]
theorem Aa1{P:Program}{f:FuncId}{xs:Array Value}{w:World}(h:Ds P f):(callFunc f xs).run P w=.ok (.enter f xs) w:=by
 obtain⟨fn,h1,h2,h3⟩:=h
 have h2' : fn.name ≠ "runtime.NumGoroutine" := fun e => by rw [e] at h2; cases h2
 have h3':fn.body≠none:=fun e=>by rw[e]at h3;cases h3
 simp[callFunc,h1,h2',h3']
def Q6(b pb nb eb:Nat):Array MapEntry:= #[⟨.int .i64 1,.func (.func 67) #[.pointer (some ⟨b,0,none⟩)] #[],0⟩,⟨.int .i64 2,.func (.func 68) #[.pointer (some ⟨b,0,none⟩)] #[],1⟩,⟨.int .i64 9,.func (.func 69) #[.pointer (some ⟨b,0,none⟩)] #[],2⟩,⟨.int .i64 6,.func (.func 70) #[] #[.pointer (some ⟨pb,0,none⟩),.pointer (some ⟨nb,0,none⟩),.pointer (some ⟨eb,0,none⟩)],3⟩,⟨.int .i64 7,.func (.func 73) #[] #[.pointer (some ⟨pb,0,none⟩),.pointer (some ⟨nb,0,none⟩),.pointer (some ⟨eb,0,none⟩)],4⟩,⟨.int .i64 8,.func (.func 75) #[] #[.pointer (some ⟨pb,0,none⟩),.pointer (some ⟨nb,0,none⟩)],5⟩,⟨.int .i64 10,.func (.func 77) #[] #[.pointer (some ⟨pb,0,none⟩),.pointer (some ⟨nb,0,none⟩),.pointer (some ⟨eb,0,none⟩)],6⟩,⟨.int .i64 11,.func (.func 79) #[] #[.pointer (some ⟨pb,0,none⟩),.pointer (some ⟨nb,0,none⟩),.pointer (some ⟨eb,0,none⟩)],7⟩,⟨.int .i64 12,.func (.func 81) #[] #[.pointer (some ⟨pb,0,none⟩),.pointer (some ⟨nb,0,none⟩),.pointer (some ⟨eb,0,none⟩)],8⟩]
noncomputable def Wx:Code:=match Tryz.f43.body with|some (.seq _ (.seq _ c))=>c|_=>.skip
noncomputable def Aab:Code×Code:=match Tryz.f43.body with|some (.seq a (.seq b _))=>(a,b)|_=>(.skip,.skip)
def Aoq:Ae:=.reg [⟨(some 1),none,.box 90 1 (.tmp 0)⟩,
 ⟨(some 2),none,.mv (.const (.int .i64 0))⟩]
def Aor:Ae:=.dreg [[],
 [⟨(some 17),none,.mkm⟩,
 ⟨(some 18),none,.mkm⟩,
 ⟨(some 19),none,.mkm⟩,
 ⟨(some 20),none,.mkm⟩],
 [⟨(some 5),none,.load false 1 (.tmp 1)⟩,
 ⟨(some 6),none,.fldA 0 (.tmp 5)⟩,
 ⟨(some 7),none,.fldA 0 (.tmp 6)⟩,
 ⟨(some 8),none,.fldA 0 (.tmp 7)⟩,
 ⟨(some 9),none,.load false 1 (.tmp 8)⟩,
 ⟨(some 10),none,.load false 1 (.tmp 1)⟩,
 ⟨(some 11),none,.fldA 0 (.tmp 10)⟩,
 ⟨(some 12),none,.fldA 2 (.tmp 11)⟩,
 ⟨(some 13),none,.fldA 1 (.tmp 12)⟩,
 ⟨(some 14),none,.load false 1 (.tmp 13)⟩,
 ⟨(some 15),none,.idxA 12 (.tmp 9) (.tmp 14)⟩,
 ⟨(some 16),none,.load true 12 (.tmp 15)⟩,
 ⟨(some 17),none,.load false 1 (.tmp 1)⟩,
 ⟨(some 18),none,.fldA 0 (.tmp 17)⟩,
 ⟨(some 19),none,.fldA 2 (.tmp 18)⟩,
 ⟨(some 20),none,.load true 19 (.tmp 19)⟩,
 ⟨(some 3),none,.zbox 44 [(.string ⟨#[]⟩),(.string ⟨#[]⟩),(.slice none 0 0),(.slice none 0 0),(.slice none 0 0),(.slice none 0 0),(.int .i64 0),(.int .i64 0),(.int .i64 0),(.int .i64 0),(.int .i64 0),(.slice none 0 0)]⟩,
 ⟨(some 4),none,.zbox 66 [(.int .i64 0),(.int .i64 0),(.int .i64 0),(.int .i64 0),(.string ⟨#[]⟩),(.int .i64 0),(.int .i64 0),(.int .i64 0),(.int .i64 0),(.int .i64 0),(.string ⟨#[]⟩),(.string ⟨#[]⟩),(.string ⟨#[]⟩),(.string ⟨#[]⟩),(.int .i64 0),(.int .i64 0),(.bool false),(.int .i64 0),(.bool false)]⟩,
 ⟨none,none,.store 12 (.tmp 3) (.tmp 16)⟩],
 [⟨none,none,.store 19 (.tmp 4) (.tmp 20)⟩]]
theorem Ata:Ao Tryz.prog 39 Aab.1=some Aoq:=by kernel_rfl
theorem Aty:Ao Tryz.prog 39 Aab.2=some Aor:=by kernel_rfl
set_option maxRecDepth 100000 in
set_option maxHeartbeats 8000000 in
theorem Amw(w:World)(pb nb eb b:Nat)(k:Int)(x0 x2 x5 x6 x7 x8 x9 x10 x11 x12 x13 x14 x15 x16 x17 x18 x19 x20 x21 x22 x23 x24 x25 x26 x27 x28 x29 x30 x31 x32 x33 x34 x35 x36 x37 x38:Value)(Q:Exit→Act→World→Prop)(cp:w.cell? ⟨pb,0,none⟩=some (.pointer (some ⟨b,0,none⟩)))(ck:w.cell? ⟨eb,0,none⟩=some (.int .i64 k)){i:Nat}{f:FuncId}{fs cs:Array Value}(hf:Instr.findNow (.int .i64) (.int .i64 k) (Q6 b pb nb eb).toList 0=some (some (i,.func (.func f) fs cs)))(hcan:Ds Tryz.prog f)(hc:∀w4,w4=w.alloc (.map (Q6 b pb nb eb) 9)→Calls Tryz.prog f (fs++cs) w4 fun e w5=>(∃x,e=.returned x∧∀T:Array Value,T.size=39→T.getD 2 undef=x→Q .ret ⟨T,[]⟩ w5)∨(∃ch,e=.panicked ch∧∀T,Q (.panic ch) ⟨T,[]⟩ w5)):
  Wx.wp Tryz.prog Q ⟨#[x0,.pointer (some ⟨pb,0,none⟩),x2,.pointer (some ⟨nb,0,none⟩),.pointer (some ⟨eb,0,none⟩),x5,x6,x7,x8,x9,x10,x11,x12,x13,x14,x15,x16,x17,x18,x19,x20,x21,x22,x23,x24,x25,x26,x27,x28,x29,x30,x31,x32,x33,x34,x35,x36,x37,x38],[]⟩ w:=by
 have cp':∀o,(w.alloc o).cell? ⟨pb,0,none⟩=some (.pointer (some ⟨b,0,none⟩)):=fun o=>by rw[World.cell?_alloc_some _ _ _ (by rw[cp];rfl),cp]
 have ck':∀o,(w.alloc o).cell? ⟨eb,0,none⟩=some (.int .i64 k):=fun o=>by rw[World.cell?_alloc_some _ _ _ (by rw[ck];rfl),ck]
 clear cp ck;have hmm:= @run_makeMap Tryz.prog;unfold Wx Tryz.f43;dsimp only
 go_wp2_with fail
 rw[Iv (kt:=3) (et:=93) (by kernel_rfl) (by kernel_rfl) rfl]
 go_wp2_with fail
 rw[Iv (kt:=3) (et:=93) (by kernel_rfl) (by kernel_rfl) rfl]
 go_wp2_with fail
 rw[Iv (kt:=3) (et:=93) (by kernel_rfl) (by kernel_rfl) rfl]
 go_wp2_with fail
 rw[Iv (kt:=3) (et:=93) (by kernel_rfl) (by kernel_rfl) rfl]
 go_wp2_with fail
 rw[Iv (kt:=3) (et:=93) (by kernel_rfl) (by kernel_rfl) rfl]
 go_wp2_with fail
 rw[Iv (kt:=3) (et:=93) (by kernel_rfl) (by kernel_rfl) rfl]
 go_wp2_with fail
 rw[Iv (kt:=3) (et:=93) (by kernel_rfl) (by kernel_rfl) rfl]
 go_wp2_with fail
 rw[Iv (kt:=3) (et:=93) (by kernel_rfl) (by kernel_rfl) rfl]
 go_wp2_with fail
 rw[Iv (kt:=3) (et:=93) (by kernel_rfl) (by kernel_rfl) rfl]
 go_wp2_with fail
 unfold Q6 at hf;rw[Akg (kt:=3) (et:=93) (by kernel_rfl) (by kernel_rfl) hf]
 go_wp2_with fail
 rw[Aa1 hcan];simp only[Oper.upon];unfold Q6 at hc;refine(hc _ rfl).mono ?_
 rintro e w5 (⟨x,rfl,hq⟩|⟨ch,rfl,hq⟩)
 ·go_wp2_with fail
  exact hq _ rfl rfl
 ·exact hq _
def K1(K:List V→Hp→Prop):List V→Hp→Prop:=fun us H=>match us with|[u]=>K [u] H|_=>False
theorem Aqf(t:Array Value)(h:t.size=39):t= #[t.getD 0 undef,t.getD 1 undef,t.getD 2 undef,t.getD 3 undef,t.getD 4 undef,t.getD 5 undef,t.getD 6 undef,t.getD 7 undef,t.getD 8 undef,t.getD 9 undef,t.getD 10 undef,t.getD 11 undef,t.getD 12 undef,t.getD 13 undef,t.getD 14 undef,t.getD 15 undef,t.getD 16 undef,t.getD 17 undef,t.getD 18 undef,t.getD 19 undef,t.getD 20 undef,t.getD 21 undef,t.getD 22 undef,t.getD 23 undef,t.getD 24 undef,t.getD 25 undef,t.getD 26 undef,t.getD 27 undef,t.getD 28 undef,t.getD 29 undef,t.getD 30 undef,t.getD 31 undef,t.getD 32 undef,t.getD 33 undef,t.getD 34 undef,t.getD 35 undef,t.getD 36 undef,t.getD 37 undef,t.getD 38 undef]:=by
 have e:t.toList=(List.range 39).map fun i=>t.getD i undef:=by
  apply List.ext_getElem
  ·simpa using h
  ·intro i h1 h2;simp[Array.getD];simp at h1;omega
 exact Array.ext' e
theorem Aia[Glob]{c:Ctx}{env:Env}{H:Hp}{D:Value→Prop}{a:Act}{w:World}{K:List V→Hp→Prop}{pid pg eid eg nid ng id g:Nat}{ep ee en eo:Ent}{er nr:List V}{f i:Nat}{k:Int}{us:List V}{fs cs:Nat→Nat→Nat→Nat→List Value}(hR:Rel c ⟨env,H,D⟩ a w)(hn:c.n=39)(p1:env 1=.ptr pid pg 0 0)(p2:H pid=some ep)(p3:ep.gen=pg)(p4:ep.rows[0]? =some [.ptr id g 0 0])(q1:env 4=.ptr eid eg 0 0)(q2:H eid=some ee)(q3:ee.gen=eg)(q4:ee.rows[0]? =some (.v (.int .i64 k)::er))(n1:env 3=.ptr nid ng 0 0)(n2:H nid=some en)(n3:en.gen=ng)(n4:en.rows[0]? =some nr)(o2:H id=some eo)(o3:eo.gen=g)(hf:∀b pb nb eb,Instr.findNow (.int .i64) (.int .i64 k) (Q6 b pb nb eb).toList 0=some (some (i,.func (.func f) (fs b pb nb eb).toArray (cs b pb nb eb).toArray)))(hl:∀w R G b pb nb eb,RV w R G (.ptr id g 0 0) (.pointer (some ⟨b,0,none⟩))→RV w R G (.ptr pid pg 0 0) (.pointer (some ⟨pb,0,none⟩))→RV w R G (.ptr nid ng 0 0) (.pointer (some ⟨nb,0,none⟩))→RV w R G (.ptr eid eg 0 0) (.pointer (some ⟨eb,0,none⟩))→
   us.length=(fs b pb nb eb++cs b pb nb eb).length∧∀(j:Nat) (u:V) (x:Value),us[j]? =some u→(fs b pb nb eb++cs b pb nb eb)[j]? =some x→RV w R G u x)(hI:Inl Tryz.prog f us H D (K1 K)):Wx.wp Tryz.prog (So c (Aj5 [(2,none)] K)) a w:=by
 obtain⟨R,G,h⟩:=hR;have h1:=h.env 1;have h3:=h.env 3;have h4:=h.env 4;simp only[p1,n1,q1]at h1 h3 h4;obtain⟨pb,y,t1,c1,v1⟩:=h.cellAt h1 p2 p3 p4 (j:=0) rfl;obtain⟨l,b,_,_,_,_,e1⟩:=h.objB v1 o2 o3;rw[Nat.zero_mul]at e1;subst e1;obtain⟨eb,y,t4,c4,v4⟩:=h.cellAt h4 q2 q3 q4 (j:=0) rfl;cases v4;obtain⟨l',nb,_,_,_,_,t3⟩:=h.objB h3 n2 n3;rw[Nat.zero_mul]at t3;have hs:a.tmps.size=39:=h.n.trans hn;have hd:=h.defers;obtain⟨tm,df⟩:=a;simp only at t1 t3 t4 hs hd;subst hd;rw[Aqf tm hs,t1,t3,t4];rw[t1]at h1;rw[t3]at h3;rw[t4]at h4;obtain⟨hlen,hrv⟩:=hl w R G b pb nb eb v1 h1 h3 h4;refine Amw w pb nb eb b k _ _ _ _ _ _ _ _ _ _ _ _ _ _ _ _ _ _ _ _ _ _ _ _ _ _ _ _ _ _ _ _ _ _ _ _ _ c1 c4 (hf b pb nb eb) hI.can ?_
 rintro w4 rfl
 have hal:=h.alloc (.map (Q6 b pb nb eb) 9);rw[List.append_toArray];refine(Asi hal hlen (fun j u x e1 e2=>(hrv j u x e1 e2).mono (fun b hb=>⟨hb,?_⟩) (Gle.refl _)) hI).mono ?_
 ·show(w.heap.push _)[b]? =_;rw[Array.getElem?_push_lt (h.lt b hb)];exact(Array.getElem?_eq_getElem (h.lt b hb)).symm
 rintro e w5 (⟨us',H',x,R',G',hK,rfl,hA,hV⟩|⟨v,rfl,hD,hF⟩)
 ·obtain⟨u,rfl,hK⟩:∃u,us'=[u]∧K [u] H':=by
   unfold K1 at hK;split at hK
   ·exact⟨_,rfl,hK⟩
   ·exact hK.elim
  refine .inl ⟨x,rfl,fun T hT hx=>⟨⟨fun i=>if i=2 then u else .any,H',D⟩,⟨[u],.tmp .nil,hK⟩,R',G',⟨fun i=>?_,hA.hr,hA.lt,hA.src,hA.old,hA.fr,hT.trans hn.symm,rfl,hA.die,hA.gle⟩⟩⟩;show RV _ _ _ (if i=2 then u else .any) _;split
  ·rename_i e;subst e;show RV w5 R' G' u (T.getD 2 undef);rw[hx];exact hV
  ·exact .any _
 ·exact .inr ⟨_,rfl,fun T=>⟨v,rfl,by rw[←h.die];exact hD,hF,rfl⟩⟩
theorem Ant[Glob]{c:Ctx}{env:Env}{H:Hp}{D:Value→Prop}{a:Act}{w:World}{K:List V→Hp→Prop}{pid pg eid eg nid ng id g:Nat}{ep ee en eo:Ent}{er nr:List V}{f i:Nat}{k:Int}(hR:Rel c ⟨env,H,D⟩ a w)(hn:c.n=39)(p1:env 1=.ptr pid pg 0 0)(p2:H pid=some ep)(p3:ep.gen=pg)(p4:ep.rows[0]? =some [.ptr id g 0 0])(q1:env 4=.ptr eid eg 0 0)(q2:H eid=some ee)(q3:ee.gen=eg)(q4:ee.rows[0]? =some (.v (.int .i64 k)::er))(n1:env 3=.ptr nid ng 0 0)(n2:H nid=some en)(n3:en.gen=ng)(n4:en.rows[0]? =some nr)(o2:H id=some eo)(o3:eo.gen=g)(hf:∀b pb nb eb,Instr.findNow (.int .i64) (.int .i64 k) (Q6 b pb nb eb).toList 0=some (some (i,.func (.func f) #[.pointer (some ⟨b,0,none⟩)] #[])))(hI:Inl Tryz.prog f [.ptr id g 0 0] H D (K1 K)):Wx.wp Tryz.prog (So c (Aj5 [(2,none)] K)) a w:=
 Aia (fs:=fun b _ _ _=>[.pointer (some ⟨b,0,none⟩)]) (cs:=fun _ _ _ _=>[]) hR hn p1 p2 p3 p4 q1 q2 q3 q4 n1 n2 n3 n4 o2 o3 hf (fun w R G b pb nb eb v1 _ _ _=>⟨rfl,fun j u x e1 e2=>by
  cases j with
  |zero=>cases e1;cases e2;exact v1
  |succ j=>cases e1⟩) hI
theorem Aii[Glob](off:Nat){us:List V}{H:Hp}{D:Value→Prop}{K:List V→Hp→Prop}(hl:us.length=1)(h:letI:Off:=⟨off⟩;wpx Tryz.prog D (.seq Aoq Aor) (Ap3 Tryz.prog D 39 [(2,none)] Wx K) (atV us) H):Inl Tryz.prog 43 us H D K:=
 letI:Off:=⟨off⟩;Ajr (fn:=Tryz.f43) (c0:=Aab.1) (c1:=Aab.2) (by kernel_rfl) (by kernel_rfl) (by kernel_rfl) Ata Aty (by rw[hl];decide) (by kernel_rfl) h
set_option maxRecDepth 100000
def Xf(ex:List Nat)(H0 H:Hp):Prop:=∀id e,ex.contains id=false→H0 id=some e→H id=some e
theorem Auo{T:List Nat}{H0 H:Hp}(h:Xf [] H0 H):H8 T H0 H:=fun id e _ q=>h id e rfl q
theorem Apz{ex:List Nat}{H0 H:Hp}{k:Nat}{x:Option Ent}(hk:H k=x)(h:Xf (k::ex) H0 H):Xf ex (upd H0 k x) H:=fun id e h1 h2=>by
 by_cases q:id=k
 ·subst q;rw[Aj]at h2;exact hk.trans h2
 ·rw[Ap _ _ q]at h2;refine h id e ?_ h2;rw[List.contains_cons,h1,Bool.or_false];exact ZG.2 q
theorem Aoe{ex:List Nat}{H0 H:Hp}(h:Xf ex H0 H):Xf ex (W4 H0 []) H:=h
theorem Ar9{ex:List Nat}{ps:List Par}{H:Hp}(h:(ps.all fun p=>match p with|.o _ _ _=>false|_=>true)=true):Xf ex (Jc ps) H:=fun id e h1 h2=>by
 unfold Jc at h2;split at h2
 ·cases hp:ps[id/16]? with
  |none=>rw[hp]at h2;cases h2
  |some p=>
   rw[hp]at h2;have:=List.all_eq_true.1 h p (ZH hp);cases p with
   |c u=>cases h2
   |o T sz rows=>cases this
 ·cases h2
theorem kEI{T:List Nat}{H0 H:Hp}{p:Prop}(hp:p)(h:Xf [] H0 H:=by(repeat' (first|exact Ar9 rfl|with_reducible refine Aoe ?_|refine kE_in rfl ?_|refine Apz (by kernel_rfl) ?_))):H8 T H0 H∧p:=⟨Auo h,hp⟩
section
variable {a b c t:ByteArray} (ha:(⟨#[97]⟩:ByteArray)=a) (hb:(⟨#[98]⟩:ByteArray)=b) (hc:(⟨#[99]⟩:ByteArray)=c) (hk:(⟨a,true,[⟨a,1,1,1,false⟩],[],[],[]⟩:Pl.Pk).err=0) (ht:Pl.bA (Pl.pkB (⟨a,true,[⟨a,1,1,1,false⟩],[],[],[]⟩:Pl.Pk))=t) (hz:t.size≤1000000000000) (hA:(⟨a,c,[⟨a,1,1,1,false⟩],[],[],[],⟨0,0,0,0,1000⟩,[]⟩:Pl.Nd).err=0) (hB:(⟨b,c,[⟨b,1,1,2,true⟩],[],[],[],⟨0,0,0,0,1000⟩,[]⟩:Pl.Nd).err=0) (ok0:Pl.Nt.ok ⟨[(⟨a,c,[⟨a,1,1,1,false⟩],[],[],[],⟨0,0,0,0,1000⟩,[]⟩:Pl.Nd),(⟨b,c,[⟨b,1,1,2,true⟩],[],[],[],⟨0,0,0,0,1000⟩,[]⟩:Pl.Nd)],[]⟩) (ok1:Pl.Nt.ok ⟨[(⟨a,c,[⟨a,1,1,1,false⟩],[],[],[],⟨0,0,0,0,1000⟩,[]⟩:Pl.Nd),(⟨b,c,[⟨b,1,1,2,true⟩],[],[],[],⟨0,0,0,0,1000⟩,[]⟩:Pl.Nd)],[⟨1,t⟩]⟩) (e0:Pl.Nt.err ⟨[(⟨a,c,[⟨a,1,1,1,false⟩],[],[],[],⟨0,0,0,0,1000⟩,[]⟩:Pl.Nd),(⟨b,c,[⟨b,1,1,2,true⟩],[],[],[],⟨0,0,0,0,1000⟩,[]⟩:Pl.Nd)],[]⟩=0) (e1:Pl.Nt.err ⟨[(⟨a,c,[⟨a,1,1,1,false⟩],[],[],[],⟨0,0,0,0,1000⟩,[]⟩:Pl.Nd),(⟨b,c,[⟨b,1,1,2,true⟩],[],[],[],⟨0,0,0,0,1000⟩,[]⟩:Pl.Nd)],[⟨1,t⟩]⟩=0)
include ha hb hc hk ht hz hA hB ok0 ok1 e0 e1
omit ha hb hc hA hB ok0 ok1 e0 e1 in
theorem rdT[Glob][Tabs]:Fun Tryz.prog 21 [.c (.v (.string t))] [.c (.agg [.v (.string a),.v (.bool true),.sl false [[.v (.string a),.v (.int .i64 1),.v (.int .i64 1),.v (.int .i64 1),.v (.bool false)]],.sl false [],.sl false [],.sl false []]),.c (.v (.int .i64 0))]:=(by have h:=W1 t hz;rw[←ht,Pl.rdPk_back hk,ht]at h;exact h)
omit ha hb hc hz hA hB ok0 ok1 e0 e1 in
theorem wrT[Glob][Tabs]:Fun Tryz.prog 159 [.c (.agg [.v (.string a),.v (.bool true),.sl false [[.v (.string a),.v (.int .i64 1),.v (.int .i64 1),.v (.int .i64 1),.v (.bool false)]],.sl false [],.sl false [],.sl false []])] [.c (.v (.string t)),.c (.v (.int .i64 0))]:=(by have h:=Acx (⟨a,true,[⟨a,1,1,1,false⟩],[],[],[]⟩:Pl.Pk) (Pk.okB_ok (Pl.Pk.sm hk).okB);rw[hk,show Pl.wrPk (⟨a,true,[⟨a,1,1,1,false⟩],[],[],[]⟩:Pl.Pk)=_ from if_pos hk,ht]at h;exact h)
omit ha hb hc hk ht hz hB ok0 ok1 e0 e1 in
theorem Atp[Glob]:Fun Tryz.prog 58 [.c (.agg [.v (.string a),.v (.string c),.sl false [[.v (.string a),.v (.int .i64 1),.v (.int .i64 1),.v (.int .i64 1),.v (.bool false)]],.sl false [],.sl false [],.sl false [],.v (.int .i64 0),.v (.int .i64 0),.v (.int .i64 0),.v (.int .i64 0),.v (.int .i64 1000),.sl false []])] [.c (.agg [.v (.string a),.v (.string c),.sl false [[.v (.string a),.v (.int .i64 1),.v (.int .i64 1),.v (.int .i64 1),.v (.bool false)]],.sl false [],.sl false [],.sl false [],.v (.int .i64 0),.v (.int .i64 0),.v (.int .i64 0),.v (.int .i64 0),.v (.int .i64 1000),.sl false []])]:=Oc (⟨a,c,[⟨a,1,1,1,false⟩],[],[],[],⟨0,0,0,0,1000⟩,[]⟩:Pl.Nd) (Pl.Nd.good hA)
omit ha hb hc hk ht hz hA ok0 ok1 e0 e1 in
theorem Atv[Glob]:Fun Tryz.prog 58 [.c (.agg [.v (.string b),.v (.string c),.sl false [[.v (.string b),.v (.int .i64 1),.v (.int .i64 1),.v (.int .i64 2),.v (.bool true)]],.sl false [],.sl false [],.sl false [],.v (.int .i64 0),.v (.int .i64 0),.v (.int .i64 0),.v (.int .i64 0),.v (.int .i64 1000),.sl false []])] [.c (.agg [.v (.string b),.v (.string c),.sl false [[.v (.string b),.v (.int .i64 1),.v (.int .i64 1),.v (.int .i64 2),.v (.bool true)]],.sl false [],.sl false [],.sl false [],.v (.int .i64 0),.v (.int .i64 0),.v (.int .i64 0),.v (.int .i64 0),.v (.int .i64 1000),.sl false []])]:=Oc (⟨b,c,[⟨b,1,1,2,true⟩],[],[],[],⟨0,0,0,0,1000⟩,[]⟩:Pl.Nd) (Pl.Nd.good hB)
omit ha hb hc hk ht hz hA hB ok0 ok1 e0 e1 in
theorem kN[Glob]:Fun Tryz.prog 56 [.c (.sl false [[.v (.string a),.v (.string c),.sl false [[.v (.string a),.v (.int .i64 1),.v (.int .i64 1),.v (.int .i64 1),.v (.bool false)]],.sl false [],.sl false [],.sl false [],.v (.int .i64 0),.v (.int .i64 0),.v (.int .i64 0),.v (.int .i64 0),.v (.int .i64 1000),.sl false []],[.v (.string b),.v (.string c),.sl false [[.v (.string b),.v (.int .i64 1),.v (.int .i64 1),.v (.int .i64 2),.v (.bool true)]],.sl false [],.sl false [],.sl false [],.v (.int .i64 0),.v (.int .i64 0),.v (.int .i64 0),.v (.int .i64 0),.v (.int .i64 1000),.sl false []]])] [.o 44 12 [[.v (.string a),.v (.string c),.sl false [[.v (.string a),.v (.int .i64 1),.v (.int .i64 1),.v (.int .i64 1),.v (.bool false)]],.sl false [],.sl false [],.sl false [],.v (.int .i64 0),.v (.int .i64 0),.v (.int .i64 0),.v (.int .i64 0),.v (.int .i64 1000),.sl false []],[.v (.string b),.v (.string c),.sl false [[.v (.string b),.v (.int .i64 1),.v (.int .i64 1),.v (.int .i64 2),.v (.bool true)]],.sl false [],.sl false [],.sl false [],.v (.int .i64 0),.v (.int .i64 0),.v (.int .i64 0),.v (.int .i64 0),.v (.int .i64 1000),.sl false []]]]:=Ur false [(⟨a,c,[⟨a,1,1,1,false⟩],[],[],[],⟨0,0,0,0,1000⟩,[]⟩:Pl.Nd),(⟨b,c,[⟨b,1,1,2,true⟩],[],[],[],⟨0,0,0,0,1000⟩,[]⟩:Pl.Nd)] (Nat.le_of_ble_eq_true rfl)
omit ha hb hc hk ht hz hA hB ok0 ok1 e0 e1 in
theorem kL0[Glob]:Fun Tryz.prog 57 [.c (.sl false [])] [.o 57 2 []]:=Pa false [] (Nat.le_of_ble_eq_true rfl)
omit ha hb hc hk ht hz hA hB ok0 ok1 e0 e1 in
theorem kL1[Glob]:Fun Tryz.prog 57 [.c (.sl false [[.v (.int .i64 1),.v (.string t)]])] [.o 57 2 [[.v (.int .i64 1),.v (.string t)]]]:=Pa false [⟨1,t⟩] (Nat.le_of_ble_eq_true rfl)
omit ha hb hc hk ht hz hA hB ok0 ok1 e0 e1 in
theorem Aum[Glob]:Fun Tryz.prog 66 [.o 57 2 [[.v (.int .i64 1),.v (.string t)]],.c (.v (.int .i64 0)),.c (.v (.int .i64 1))] [.o 57 2 []]:=Aiw [⟨1,t⟩] 0 (Nat.lt_succ_self 0) (Nat.le_of_ble_eq_true rfl)
omit ha hb hc hk ht hz hA hB ok1 e1 in
theorem Aur[Glob][Tabs]:Fun Tryz.prog 8 [.c (.agg [.sl false [[.v (.string a),.v (.string c),.sl false [[.v (.string a),.v (.int .i64 1),.v (.int .i64 1),.v (.int .i64 1),.v (.bool false)]],.sl false [],.sl false [],.sl false [],.v (.int .i64 0),.v (.int .i64 0),.v (.int .i64 0),.v (.int .i64 0),.v (.int .i64 1000),.sl false []],[.v (.string b),.v (.string c),.sl false [[.v (.string b),.v (.int .i64 1),.v (.int .i64 1),.v (.int .i64 2),.v (.bool true)]],.sl false [],.sl false [],.sl false [],.v (.int .i64 0),.v (.int .i64 0),.v (.int .i64 0),.v (.int .i64 0),.v (.int .i64 1000),.sl false []]],.sl false []])] [.c (.v (.int .i64 0))]:=(by have h:=H7 ⟨[(⟨a,c,[⟨a,1,1,1,false⟩],[],[],[],⟨0,0,0,0,1000⟩,[]⟩:Pl.Nd),(⟨b,c,[⟨b,1,1,2,true⟩],[],[],[],⟨0,0,0,0,1000⟩,[]⟩:Pl.Nd)],[]⟩ ok0;rw[e0]at h;exact h)
omit ha hb hc hk ht hz hA hB ok0 e0 in
theorem Aut[Glob][Tabs]:Fun Tryz.prog 8 [.c (.agg [.sl false [[.v (.string a),.v (.string c),.sl false [[.v (.string a),.v (.int .i64 1),.v (.int .i64 1),.v (.int .i64 1),.v (.bool false)]],.sl false [],.sl false [],.sl false [],.v (.int .i64 0),.v (.int .i64 0),.v (.int .i64 0),.v (.int .i64 0),.v (.int .i64 1000),.sl false []],[.v (.string b),.v (.string c),.sl false [[.v (.string b),.v (.int .i64 1),.v (.int .i64 1),.v (.int .i64 2),.v (.bool true)]],.sl false [],.sl false [],.sl false [],.v (.int .i64 0),.v (.int .i64 0),.v (.int .i64 0),.v (.int .i64 0),.v (.int .i64 1000),.sl false []]],.sl false [[.v (.int .i64 1),.v (.string t)]]])] [.c (.v (.int .i64 0))]:=(by have h:=H7 ⟨[(⟨a,c,[⟨a,1,1,1,false⟩],[],[],[],⟨0,0,0,0,1000⟩,[]⟩:Pl.Nd),(⟨b,c,[⟨b,1,1,2,true⟩],[],[],[],⟨0,0,0,0,1000⟩,[]⟩:Pl.Nd)],[⟨1,t⟩]⟩ ok1;rw[e1]at h;exact h)
omit ha hb hc hk ht hz hA hB ok1 e1 in
theorem Auc[Glob][Tabs]:Fun Tryz.prog 10 [.o 44 12 [[.v (.string a),.v (.string c),.sl false [[.v (.string a),.v (.int .i64 1),.v (.int .i64 1),.v (.int .i64 1),.v (.bool false)]],.sl false [],.sl false [],.sl false [],.v (.int .i64 0),.v (.int .i64 0),.v (.int .i64 0),.v (.int .i64 0),.v (.int .i64 1000),.sl false []],[.v (.string b),.v (.string c),.sl false [[.v (.string b),.v (.int .i64 1),.v (.int .i64 1),.v (.int .i64 2),.v (.bool true)]],.sl false [],.sl false [],.sl false [],.v (.int .i64 0),.v (.int .i64 0),.v (.int .i64 0),.v (.int .i64 0),.v (.int .i64 1000),.sl false []]]] [.c (.agg [.sl false [[.v (.string a),.v (.string c),.sl false [[.v (.string a),.v (.int .i64 1),.v (.int .i64 1),.v (.int .i64 1),.v (.bool false)]],.sl false [],.sl false [],.sl false [],.v (.int .i64 0),.v (.int .i64 0),.v (.int .i64 0),.v (.int .i64 0),.v (.int .i64 1000),.sl false []],[.v (.string b),.v (.string c),.sl false [[.v (.string b),.v (.int .i64 1),.v (.int .i64 1),.v (.int .i64 2),.v (.bool true)]],.sl false [],.sl false [],.sl false [],.v (.int .i64 0),.v (.int .i64 0),.v (.int .i64 0),.v (.int .i64 0),.v (.int .i64 1000),.sl false []]],.sl false []]),.c (.v (.int .i64 0))]:=(by have h:=Ais [(⟨a,c,[⟨a,1,1,1,false⟩],[],[],[],⟨0,0,0,0,1000⟩,[]⟩:Pl.Nd),(⟨b,c,[⟨b,1,1,2,true⟩],[],[],[],⟨0,0,0,0,1000⟩,[]⟩:Pl.Nd)] ok0.nsl ok0.ns;rw[show Pl.newNt [(⟨a,c,[⟨a,1,1,1,false⟩],[],[],[],⟨0,0,0,0,1000⟩,[]⟩:Pl.Nd),(⟨b,c,[⟨b,1,1,2,true⟩],[],[],[],⟨0,0,0,0,1000⟩,[]⟩:Pl.Nd)]=⟨[(⟨a,c,[⟨a,1,1,1,false⟩],[],[],[],⟨0,0,0,0,1000⟩,[]⟩:Pl.Nd),(⟨b,c,[⟨b,1,1,2,true⟩],[],[],[],⟨0,0,0,0,1000⟩,[]⟩:Pl.Nd)],[]⟩from if_neg (fun q=>q e0),e0]at h;exact Asu h)
omit hb hz ok1 e1 in
theorem Aux[Glob][Tabs]:Fun Tryz.prog 19 [.c (.agg [.sl false [[.v (.string a),.v (.string c),.sl false [[.v (.string a),.v (.int .i64 1),.v (.int .i64 1),.v (.int .i64 1),.v (.bool false)]],.sl false [],.sl false [],.sl false [],.v (.int .i64 0),.v (.int .i64 0),.v (.int .i64 0),.v (.int .i64 0),.v (.int .i64 1000),.sl false []],[.v (.string b),.v (.string c),.sl false [[.v (.string b),.v (.int .i64 1),.v (.int .i64 1),.v (.int .i64 2),.v (.bool true)]],.sl false [],.sl false [],.sl false [],.v (.int .i64 0),.v (.int .i64 0),.v (.int .i64 0),.v (.int .i64 0),.v (.int .i64 1000),.sl false []]],.sl false []]),.c (.agg [.v (.int .i64 2),.v (.int .i64 0),.v (.int .i64 1),.v (.int .i64 0),.v (.string ⟨#[]⟩),.v (.int .i64 0),.v (.int .i64 0),.v (.int .i64 0),.v (.int .i64 0),.v (.int .i64 0),.v (.string ⟨#[]⟩),.v (.string ⟨#[]⟩),.v (.string ⟨#[]⟩),.v (.string ⟨#[]⟩),.v (.int .i64 0),.v (.int .i64 0),.v (.bool false),.v (.int .i64 0),.v (.bool false)])] [.c (.agg [.sl false [[.v (.string a),.v (.string c),.sl false [[.v (.string a),.v (.int .i64 1),.v (.int .i64 1),.v (.int .i64 1),.v (.bool false)]],.sl false [],.sl false [],.sl false [],.v (.int .i64 0),.v (.int .i64 0),.v (.int .i64 0),.v (.int .i64 0),.v (.int .i64 1000),.sl false []],[.v (.string b),.v (.string c),.sl false [[.v (.string b),.v (.int .i64 1),.v (.int .i64 1),.v (.int .i64 2),.v (.bool true)]],.sl false [],.sl false [],.sl false [],.v (.int .i64 0),.v (.int .i64 0),.v (.int .i64 0),.v (.int .i64 0),.v (.int .i64 1000),.sl false []]],.sl false [[.v (.int .i64 1),.v (.string t)]]]),.c (.v (.int .i64 0))]:=by
 refine Pn 9 Ux rfl ?_;(refine goI ?_;repeat (intro gg;refine goI ?_));refine .inl ⟨_,_,false,[],Ar.same (Si (n:=⟨[(⟨a,c,[⟨a,1,1,1,false⟩],[],[],[],⟨0,0,0,0,1000⟩,[]⟩:Pl.Nd),(⟨b,c,[⟨b,1,1,2,true⟩],[],[],[],⟨0,0,0,0,1000⟩,[]⟩:Pl.Nd)],[]⟩)) (.nil _),Aur ok0 e0,Af,nI,?_⟩;(refine goI ?_;repeat (intro gg;refine goI ?_));refine⟨([]:List Nat),?_⟩;(refine goI ?_;repeat (intro gg;refine goI ?_));refine o4 (Ahg 3000 9 Qu rfl ?_);(refine goI ?_;repeat (intro gg;refine goI ?_));refine⟨_,_,false,Ar.same (Od (l:=[(⟨a,c,[⟨a,1,1,1,false⟩],[],[],[],⟨0,0,0,0,1000⟩,[]⟩:Pl.Nd),(⟨b,c,[⟨b,1,1,2,true⟩],[],[],[],⟨0,0,0,0,1000⟩,[]⟩:Pl.Nd)])) (.nil _),kN,Af,nI,?_⟩;(refine goI ?_;repeat (intro gg;refine goI ?_));refine⟨_,_,false,aJ,kL0,Af,nI,?_⟩;(refine goI ?_;repeat (intro gg;refine goI ?_));refine⟨0,_,by kernel_rfl,rfl,?_⟩;(refine goI ?_;repeat (intro gg;refine goI ?_));refine⟨_,_,false,Ar.same (Pf (Vv (n:=(⟨a,c,[⟨a,1,1,1,false⟩],[],[],[],⟨0,0,0,0,1000⟩,[]⟩:Pl.Nd)))) (.nil _),Atp hA,Af,nI,?_⟩;(refine goI ?_;repeat (intro gg;refine goI ?_));refine⟨0,_,by kernel_rfl,rfl,?_⟩;(refine goI ?_;repeat (intro gg;refine goI ?_));refine⟨1,_,by kernel_rfl,rfl,?_⟩;(refine goI ?_;repeat (intro gg;refine goI ?_));refine⟨_,_,false,Ar.same (Pf (Vv (n:=(⟨b,c,[⟨b,1,1,2,true⟩],[],[],[],⟨0,0,0,0,1000⟩,[]⟩:Pl.Nd)))) (.nil _),Atv hB,Af,nI,?_⟩;(refine goI ?_;repeat (intro gg;refine goI ?_));refine⟨1,_,by kernel_rfl,rfl,?_⟩;(refine goI ?_;repeat (intro gg;refine goI ?_));refine kEI ?_;(refine goI ?_;repeat (intro gg;refine goI ?_));refine o4 (Aq 13000 9 H6 rfl ?_);(refine goI ?_;repeat (intro gg;refine goI ?_));refine o4 (Aii 90000 rfl ?_);(refine goI ?_;repeat (intro gg;refine goI ?_));refine⟨0,_,by kernel_rfl,rfl,?_⟩;(refine goI ?_;repeat (intro gg;refine goI ?_));refine⟨fun cc aa ww hn hR=>Ant hR hn rfl rfl rfl rfl rfl rfl rfl rfl rfl rfl rfl rfl rfl rfl (fun _ _ _ _=>rfl) (Aq 50000 9 P2 rfl ?_)⟩;(refine goI ?_;repeat (intro gg;refine goI ?_));refine o4 (Aq 15000 9 H6 rfl ?_);(refine goI ?_;repeat (intro gg;refine goI ?_));refine⟨0,_,by kernel_rfl,rfl,?_⟩;(refine goI ?_;repeat (intro gg;refine goI ?_));refine⟨_,_,false,aJ,Auh ha hc,Af,nI,?_⟩;(refine goI ?_;repeat (intro gg;refine goI ?_));refine o4 (Aq 18000 9 Q1 rfl ?_);(refine goI ?_;repeat (intro gg;refine goI ?_));refine .inl ⟨_,_,false,[],aJ,wrT hk ht,Af,nI,?_⟩;(refine goI ?_;repeat (intro gg;refine goI ?_));refine⟨lI,lI,?_⟩;(refine goI ?_;repeat (intro gg;refine goI ?_));exact Uw (.cell1 rfl rfl rfl rfl rfl rfl (.tmp1 rfl .nil)) (Jt rfl rfl (Tf (l:=[(⟨a,c,[⟨a,1,1,1,false⟩],[],[],[],⟨0,0,0,0,1000⟩,[]⟩:Pl.Nd),(⟨b,c,[⟨b,1,1,2,true⟩],[],[],[],⟨0,0,0,0,1000⟩,[]⟩:Pl.Nd)])) (by decide) (Jt rfl rfl (B5 (enc:=Pl.Lt.row) (l:=[(⟨1,t⟩:Pl.Lt)])) (by decide) .nil)) (Cw rfl)
omit ok0 e0 in
theorem Auw[Glob][Tabs]:Fun Tryz.prog 19 [.c (.agg [.sl false [[.v (.string a),.v (.string c),.sl false [[.v (.string a),.v (.int .i64 1),.v (.int .i64 1),.v (.int .i64 1),.v (.bool false)]],.sl false [],.sl false [],.sl false [],.v (.int .i64 0),.v (.int .i64 0),.v (.int .i64 0),.v (.int .i64 0),.v (.int .i64 1000),.sl false []],[.v (.string b),.v (.string c),.sl false [[.v (.string b),.v (.int .i64 1),.v (.int .i64 1),.v (.int .i64 2),.v (.bool true)]],.sl false [],.sl false [],.sl false [],.v (.int .i64 0),.v (.int .i64 0),.v (.int .i64 0),.v (.int .i64 0),.v (.int .i64 1000),.sl false []]],.sl false [[.v (.int .i64 1),.v (.string t)]]]),.c (.agg [.v (.int .i64 3),.v (.int .i64 0),.v (.int .i64 0),.v (.int .i64 0),.v (.string ⟨#[]⟩),.v (.int .i64 0),.v (.int .i64 0),.v (.int .i64 0),.v (.int .i64 0),.v (.int .i64 0),.v (.string ⟨#[]⟩),.v (.string ⟨#[]⟩),.v (.string ⟨#[]⟩),.v (.string ⟨#[]⟩),.v (.int .i64 0),.v (.int .i64 0),.v (.bool false),.v (.int .i64 0),.v (.bool false)])] [.c (.agg [.sl false [[.v (.string a),.v (.string c),.sl false [[.v (.string a),.v (.int .i64 1),.v (.int .i64 1),.v (.int .i64 1),.v (.bool false)]],.sl false [],.sl false [],.sl false [],.v (.int .i64 0),.v (.int .i64 0),.v (.int .i64 0),.v (.int .i64 0),.v (.int .i64 1000),.sl false []],[.v (.string b),.v (.string c),.sl false [[.v (.string a),.v (.int .i64 1),.v (.int .i64 1),.v (.int .i64 1),.v (.bool false)],[.v (.string b),.v (.int .i64 1),.v (.int .i64 1),.v (.int .i64 2),.v (.bool true)]],.sl false [[.v (.string a),.v (.int .i64 1),.v (.int .i64 1),.v (.int .i64 1),.v (.bool false),.v (.int .i64 0)]],.sl false [],.sl false [],.v (.int .i64 0),.v (.int .i64 0),.v (.int .i64 0),.v (.int .i64 0),.v (.int .i64 1000),.sl false []]],.sl false []]),.c (.v (.int .i64 0))]:=by
 refine Pn 9 Ux rfl ?_;(refine goI ?_;repeat (intro gg;refine goI ?_));refine .inl ⟨_,_,false,[],Ar.same (Si (n:=⟨[(⟨a,c,[⟨a,1,1,1,false⟩],[],[],[],⟨0,0,0,0,1000⟩,[]⟩:Pl.Nd),(⟨b,c,[⟨b,1,1,2,true⟩],[],[],[],⟨0,0,0,0,1000⟩,[]⟩:Pl.Nd)],[⟨1,t⟩]⟩)) (.nil _),Aut ok1 e1,Af,nI,?_⟩;(refine goI ?_;repeat (intro gg;refine goI ?_));refine⟨([]:List Nat),?_⟩;(refine goI ?_;repeat (intro gg;refine goI ?_));refine o4 (Ahg 3000 9 Qu rfl ?_);(refine goI ?_;repeat (intro gg;refine goI ?_));refine⟨_,_,false,Ar.same (Od (l:=[(⟨a,c,[⟨a,1,1,1,false⟩],[],[],[],⟨0,0,0,0,1000⟩,[]⟩:Pl.Nd),(⟨b,c,[⟨b,1,1,2,true⟩],[],[],[],⟨0,0,0,0,1000⟩,[]⟩:Pl.Nd)])) (.nil _),kN,Af,nI,?_⟩;(refine goI ?_;repeat (intro gg;refine goI ?_));refine⟨_,_,false,aJ,kL1,Af,nI,?_⟩;(refine goI ?_;repeat (intro gg;refine goI ?_));refine⟨0,_,by kernel_rfl,rfl,?_⟩;(refine goI ?_;repeat (intro gg;refine goI ?_));refine⟨_,_,false,Ar.same (Pf (Vv (n:=(⟨a,c,[⟨a,1,1,1,false⟩],[],[],[],⟨0,0,0,0,1000⟩,[]⟩:Pl.Nd)))) (.nil _),Atp hA,Af,nI,?_⟩;(refine goI ?_;repeat (intro gg;refine goI ?_));refine⟨0,_,by kernel_rfl,rfl,?_⟩;(refine goI ?_;repeat (intro gg;refine goI ?_));refine⟨1,_,by kernel_rfl,rfl,?_⟩;(refine goI ?_;repeat (intro gg;refine goI ?_));refine⟨_,_,false,Ar.same (Pf (Vv (n:=(⟨b,c,[⟨b,1,1,2,true⟩],[],[],[],⟨0,0,0,0,1000⟩,[]⟩:Pl.Nd)))) (.nil _),Atv hB,Af,nI,?_⟩;(refine goI ?_;repeat (intro gg;refine goI ?_));refine⟨1,_,by kernel_rfl,rfl,?_⟩;(refine goI ?_;repeat (intro gg;refine goI ?_));refine kEI ?_;(refine goI ?_;repeat (intro gg;refine goI ?_));refine o4 (Aq 13000 9 N4 rfl ?_);(refine goI ?_;repeat (intro gg;refine goI ?_));refine⟨0,_,by kernel_rfl,rfl,?_⟩;(refine goI ?_;repeat (intro gg;refine goI ?_));refine .inl ⟨_,_,false,[],aJ,rdT hk ht hz,Af,nI,?_⟩;(refine goI ?_;repeat (intro gg;refine goI ?_));refine⟨1,_,by kernel_rfl,rfl,?_⟩;(refine goI ?_;repeat (intro gg;refine goI ?_));refine⟨_,_,false,aJ,Atw ha hb hc,Af,nI,?_⟩;(refine goI ?_;repeat (intro gg;refine goI ?_));refine⟨1,_,by kernel_rfl,rfl,?_⟩;(refine goI ?_;repeat (intro gg;refine goI ?_));refine .inl ⟨_,_,true,[48160],aJ,Aum,(fun _=>fJ),nI,?_⟩;(refine goI ?_;repeat (intro gg;refine goI ?_));exact Uw (.cell1 rfl rfl rfl rfl rfl rfl (.tmp1 rfl .nil)) (Jt rfl rfl (Tf (l:=[(⟨a,c,[⟨a,1,1,1,false⟩],[],[],[],⟨0,0,0,0,1000⟩,[]⟩:Pl.Nd),(⟨b,c,[⟨a,1,1,1,false⟩,⟨b,1,1,2,true⟩],[⟨⟨a,1,1,1,false⟩,0⟩],[],[],⟨0,0,0,0,1000⟩,[]⟩:Pl.Nd)])) (by decide) (Jt rfl rfl (B5 (enc:=Pl.Lt.row) (l:=[])) (by decide) .nil)) (Cw rfl)
theorem At2[Glob][Tabs]:Fun Tryz.prog 7 [] [.c (.v (.bool true))]:=by
 refine Fh 9 M4 rfl ?_;(refine goI ?_;repeat (intro gg;refine goI ?_));rw[ha];rw[hb];rw[hc];refine .inl ⟨_,_,false,[],aJ,Aug ha hc,Af,nI,?_⟩;(refine goI ?_;repeat (intro gg;refine goI ?_));refine .inl ⟨_,_,false,[],aJ,Aus hb hc,Af,nI,?_⟩;(refine goI ?_;repeat (intro gg;refine goI ?_));refine .inl ⟨_,_,false,[320],Ah9 rfl (Tf (l:=[(⟨a,c,[⟨a,1,1,1,false⟩],[],[],[],⟨0,0,0,0,1000⟩,[]⟩:Pl.Nd),(⟨b,c,[⟨b,1,1,2,true⟩],[],[],[],⟨0,0,0,0,1000⟩,[]⟩:Pl.Nd)])) (by decide) (by decide) (.nil _),Auc ok0 e0,Af,nI,?_⟩;(refine goI ?_;repeat (intro gg;refine goI ?_));refine .inl ⟨_,_,false,[],Ar.same (Si (n:=⟨[(⟨a,c,[⟨a,1,1,1,false⟩],[],[],[],⟨0,0,0,0,1000⟩,[]⟩:Pl.Nd),(⟨b,c,[⟨b,1,1,2,true⟩],[],[],[],⟨0,0,0,0,1000⟩,[]⟩:Pl.Nd)],[]⟩)) (.same (Cw rfl) (.nil _)),Aux ha hc hk ht hA hB ok0 e0,Af,nI,?_⟩;(refine goI ?_;repeat (intro gg;refine goI ?_));refine .inl ⟨_,_,false,[],Ar.same (Si (n:=⟨[(⟨a,c,[⟨a,1,1,1,false⟩],[],[],[],⟨0,0,0,0,1000⟩,[]⟩:Pl.Nd),(⟨b,c,[⟨b,1,1,2,true⟩],[],[],[],⟨0,0,0,0,1000⟩,[]⟩:Pl.Nd)],[⟨1,t⟩]⟩)) (.same (Cw rfl) (.nil _)),Auw ha hb hc hk ht hz hA hB ok1 e1,Af,nI,?_⟩;(refine goI ?_;repeat (intro gg;refine goI ?_));refine⟨1,_,by kernel_rfl,rfl,?_⟩;(refine goI ?_;repeat (intro gg;refine goI ?_));(exact⟨[],aJ⟩)
end
namespace Pl
def ndA:Nd:=⟨⟨#[97]⟩,⟨#[99]⟩,[⟨⟨#[97]⟩,1,1,1,false⟩],[],[],[],⟨0,0,0,0,1000⟩,[]⟩
def ndB:Nd:=⟨⟨#[98]⟩,⟨#[99]⟩,[⟨⟨#[98]⟩,1,1,2,true⟩],[],[],[],⟨0,0,0,0,1000⟩,[]⟩
def pkA:Pk:=⟨⟨#[97]⟩,true,[⟨⟨#[97]⟩,1,1,1,false⟩],[],[],[]⟩
theorem Ahf[Glob]:ndA.err=0:=by kernel_rfl
theorem Ah0[Glob]:ndB.err=0:=by kernel_rfl
theorem Aai[Glob]:pkA.err=0:=by kernel_rfl
theorem Apn[Glob]:ndA.ok:=by
 constructor<;>simp[ndA,ByteArray.size];exact Nat.le_of_ble_eq_true rfl
theorem Aqt[Glob]:ndB.ok:=by
 constructor<;>simp[ndB,ByteArray.size];exact Nat.le_of_ble_eq_true rfl
theorem Ak3[Glob]{p:Pk}(h:Pk.Sm p):(bA (pkB p)).size≤100000:=by
 have h1:=C7 h.fr;have h2:=H5 p.wo;have m1:=h.msl;have m2:=h.svl;have m3:=h.gsl;have m4:=h.whl;have n1:=Bg (n:=(p.ms.length:Int)) ⟨by omega,by omega⟩;have n2:=Bg (n:=(p.sv.length:Int)) ⟨by omega,by omega⟩;have n3:=Bg (n:=(p.gs.length:Int)) ⟨by omega,by omega⟩;have n4:=Bg (n:=(p.wh.length:Int)) ⟨by omega,by omega⟩;have f1:=Fc (f:=mbB) (m:=140) (l:=p.ms) fun x hx=>Mb.lenB (h.ms x hx);have f2:=Fc (f:=svB) (m:=318) (l:=p.sv) fun x hx=>Sv.lenB (h.sv x hx);have f3:=Fc (f:=gwB) (m:=96) (l:=p.gs) fun x hx=>Gw.lenB (h.gs x hx);have f4:=Fc (f:=whB) (m:=300) (l:=p.wh) fun x hx=>XI (Wh.lenB (h.wh x hx)) (by decide);rw[C4];unfold pkB Aao;simp only[ZF];omega
noncomputable def txA:ByteArray:=bA (pkB pkA)
theorem Ags[Glob]:txA.size≤1000000000000:=XI (Ak3 (Pk.sm Aai)) (by decide)
theorem Aox[Glob]:([ndA,ndB].map Nd.nm).Nodup:=by simp[ndA,ndB]
theorem Agp[Glob]:Ad Nd.err [ndA,ndB]=0:=by simp[Ad,Ahf,Ah0]
theorem Amt[Glob]:Nt.err ⟨[ndA,ndB],[]⟩=0:=by
 rw[Nt.err_ls (by simp) Agp Aox];rfl
theorem An7[Glob]:Nt.err ⟨[ndA,ndB],[⟨1,txA⟩]⟩=0:=by
 rw[Nt.err_ls (by simp) Agp Aox];have e:Gc 2 ⟨1,txA⟩=0:=by
  rw[Xh (by decide)];show(Iy txA).2=0;rw[show Iy txA=(pkA,0)from rdPk_back Aai]
 show Ad (Gc 2) [⟨1,txA⟩]=0;simp[Ad,e]
theorem Aol[Glob]:∀x∈[ndA,ndB],x.ok:=by
 intro x hx;simp only[XC,XD,or_false]at hx;rcases hx with rfl|rfl
 ·exact Apn
 ·exact Aqt
theorem Arj[Glob]:Nt.ok ⟨[ndA,ndB],[]⟩:=⟨Nat.le_of_ble_eq_true rfl,Aol,ZU _,fun x hx=>nomatch hx⟩
theorem Apu[Glob]:Nt.ok ⟨[ndA,ndB],[⟨1,txA⟩]⟩:=⟨Nat.le_of_ble_eq_true rfl,Aol,Nat.le_of_ble_eq_true rfl,fun x hx=>by
 rw[XN.1 hx];exact Ags⟩
end Pl
theorem Akp[Glob][Tabs]:Fun Tryz.prog 7 [] [.c (.v (.bool true))]:=
 At2 (t:=txA) rfl rfl rfl Aai rfl Ags Ahf Ah0 Arj Apu Amt An7
theorem Rm[Glob](n:Int)(h0:0≤n)(h1:n≤9223372036854775807):Fun Tryz.prog 64 [.c (.v (.int .i64 n))] [.c (.v (.string (bA (Bz n))))]:=by
 obtain⟨u,rfl⟩:=Int.eq_ofNat_of_zero_le h0;refine A9 Eg rfl ?_;(refine goI ?_;repeat (intro gg;refine goI ?_));(refine⟨[],none,{p:Nat×List UInt8//p.1≤u∧Lib.decDigits p.1++p.2=Bz (u:Int)},[],fun⟨⟨m,acc⟩,hm,hA⟩=>[(0,.v (.int .i64 (m:Int))),(4,.v (.string (bA acc)))],[],fun⟨⟨m,acc⟩,hm,hA⟩=>[],fun⟨⟨m,acc⟩,hm,hA⟩=>m,trivial,fun _=>⟨trivial,fun _=>⟨⟨(u,[59]),ZT _,by simp[Bz,Lib.itoa]⟩,tI,Ah _ _,?_,Ag _ _⟩⟩,fun⟨⟨m,acc⟩,hm,hA⟩=>?_⟩;focus (exact trivial));(refine goI ?_;repeat (intro gg;refine goI ?_));refine⟨by decide,((m%10:Nat):Int),(Int.ofNat_tmod m 10).symm,?_⟩;(refine goI ?_;repeat (intro gg;refine goI ?_));refine⟨((48+m%10:Nat):Int),by show(48+((m%10:Nat):Int))%256=_;omega,?_⟩;(refine goI ?_;repeat (intro gg;refine goI ?_));refine⟨[((48+m%10:Nat):Int)],rfl,?_⟩;(refine goI ?_;repeat (intro gg;refine goI ?_));have hnl:=Bg (n:=(u:Int)) ⟨by omega,by omega⟩;have hal:acc.length≤22:=by
  have h:=congrArg List.length hA;simp only[ZF]at h;omega
 obtain⟨d,hd⟩:∃d,d=UInt8.ofNat (48+m%10):=⟨_,rfl⟩;have e3:Z0 [((48+m%10:Nat):Int)]++bA acc=bA (d::acc):=by
  rw[hd];have h:Z0 [((48+m%10:Nat):Int)]=bA [UInt8.ofNat (48+m%10)]:=by unfold Z0;rw[List.map_cons,Int.toNat_natCast];rfl
  rw[h];apply ByteArray.ext;simp[bA]
 refine⟨by rw[C4];show((1+acc.length:Nat):Int)≤_;omega,?_⟩;rw[e3];(refine goI ?_;repeat (intro gg;refine goI ?_));refine⟨by decide,((m/10:Nat):Int),by rw[show((m:Int)).tdiv 10=((m/10:Nat):Int)from(Int.ofNat_tdiv m 10).symm];exact K5 (by omega) (by omega),?_⟩;(refine goI ?_;repeat (intro gg;refine goI ?_));have hA':Lib.decDigits m++acc=Bz (u:Int):=hA;by_cases hz:m/10=0
 ·have hA2:d::acc=Bz (u:Int):=by
   rw[hd,←hA',Lib.decDigits_one (show m<10 by omega),show m%10=m by omega];rfl
  rw[hz,hA2];(refine goI ?_;repeat (intro gg;refine goI ?_));(exact⟨[],aI⟩)
 ·have hN:Lib.decDigits (m/10)++d::acc=Bz (u:Int):=by
   rw[hd,←hA']
   conv=>rhs;rw[Lib.decDigits,dif_neg (show¬m<10 by omega)]
   simp
  rw[show(((m/10:Nat):Int)==0)=false from beq_false_of_ne (by omega)];(refine goI ?_;repeat (intro gg;refine goI ?_));(exact⟨none,trivial,fun gr=>⟨⟨(m/10,d::acc),by show m/10≤u;have:m≤u:=hm;omega,hN⟩,by show m/10<m;omega,tI,tI,trivial,tI⟩⟩)
namespace Pl
theorem Ad8(u:Nat)(h:1≤u):Bz (-(u:Int))=45::(Lib.decDigits u++[59]):=by
 unfold Bz Lib.itoa;rw[if_pos (by omega)];simp
theorem Ss(u:Nat):Bz (u:Int)=Lib.decDigits u++[59]:=by
 unfold Bz Lib.itoa;rw[if_neg (by omega)];simp
theorem Aee(a b:List UInt8):bA a++bA b=bA (a++b):=by
 apply ByteArray.ext;simp[bA]
end Pl
theorem Agh[Glob](n:Int)(h:isI n):Fun Tryz.prog 64 [.c (.v (.int .i64 n))] [.c (.v (.string (bA (Bz n))))]:=by
 obtain⟨h0,h1⟩:=h;by_cases hn:0≤n
 ·exact Rm n hn h1
 obtain⟨u,hu⟩:∃u:Nat,n= -(u:Int):=⟨n.natAbs,by omega⟩;subst hu;have hu1:1≤u:=by omega
 have e45:(⟨#[45]⟩:ByteArray)=bA [45]:=rfl;by_cases hs:u<10
 ·have hD:=Rm (u:Int) (by omega) (by omega);have hl:=Bg (n:=(u:Int)) ⟨by omega,by omega⟩;have hR:(⟨#[45]⟩:ByteArray)++bA (Bz (u:Int))=bA (Bz (-(u:Int))):=by rw[e45,Aee,Ad8 u hu1,Ss];rfl
  refine A9 Eg rfl ?_;(refine goI ?_;repeat (intro gg;refine goI ?_));rw[ZX (show -(u:Int)<0 by omega)];(refine goI ?_;repeat (intro gg;refine goI ?_));rw[ZX (show(-10:Int)< -(u:Int)by omega)];(refine goI ?_;repeat (intro gg;refine goI ?_));rw[show(0:Int) - -(u:Int)=(u:Int)by omega];refine .inl (cX hD ?_);(refine goI ?_;repeat (intro gg;refine goI ?_));refine⟨by show((1+(bA (Bz (u:Int))).size:Nat):Int)≤_;rw[C4];omega,?_⟩;rw[hR];(refine goI ?_;repeat (intro gg;refine goI ?_));(exact⟨[],aI⟩)
 ·have hD:=Rm ((u/10:Nat):Int) (by omega) (by omega);have hE:=Rm ((u%10:Nat):Int) (by omega) (by omega);have hl:=Bg (n:=((u/10:Nat):Int)) ⟨by omega,by omega⟩;have hl2:=Bg (n:=((u%10:Nat):Int)) ⟨by omega,by omega⟩;have hR:(⟨#[45]⟩:ByteArray)++(bA (Bz ((u/10:Nat):Int))).extract 0 (Lib.decDigits (u/10)).length++bA (Bz ((u%10:Nat):Int))=bA (Bz (-(u:Int))):=by
   rw[e45,F5,Aee,Aee,Ad8 u hu1,Ss,Ss,List.drop_zero,List.take_left]
   conv=>rhs;rw[Lib.decDigits,dif_neg hs]
   rw[Lib.decDigits_one (show u%10<10 by omega)];congr 1;simp
  have hz:(Bz ((u/10:Nat):Int)).length=(Lib.decDigits (u/10)).length+1:=by rw[Ss];simp
  refine A9 Eg rfl ?_;(refine goI ?_;repeat (intro gg;refine goI ?_));rw[ZX (show -(u:Int)<0 by omega)];(refine goI ?_;repeat (intro gg;refine goI ?_));rw[ZY (show¬(-10:Int)< -(u:Int)by omega)];(refine goI ?_;repeat (intro gg;refine goI ?_));rw[ZX (show -(u:Int)<0 by omega)];(refine goI ?_;repeat (intro gg;refine goI ?_));refine⟨by decide,-((u/10:Nat):Int),by rw[Int.neg_tdiv,show((u:Int)).tdiv 10=((u/10:Nat):Int)from(Int.ofNat_tdiv u 10).symm];exact K5 (by omega) (by omega),?_⟩;(refine goI ?_;repeat (intro gg;refine goI ?_));rw[show(0:Int) - -((u/10:Nat):Int)=((u/10:Nat):Int)by omega];refine .inl (cX hD ?_);(refine goI ?_;repeat (intro gg;refine goI ?_));refine⟨((Lib.decDigits (u/10)).length:Int),by rw[C4,hz,show(((Lib.decDigits (u/10)).length+1:Nat):Int)-1=((Lib.decDigits (u/10)).length:Int)by omega];exact K5 (by omega) (by omega),?_⟩;(refine goI ?_;repeat (intro gg;refine goI ?_));refine⟨0,(Lib.decDigits (u/10)).length,rfl,⟨_,rfl⟩,by omega,by rw[C4,hz];omega,?_⟩;(refine goI ?_;repeat (intro gg;refine goI ?_));have hx:((bA (Bz ((u/10:Nat):Int))).extract 0 (Lib.decDigits (u/10)).length).size≤22:=by rw[ByteArray.size_extract,C4];omega
  refine⟨by show((1+((bA (Bz ((u/10:Nat):Int))).extract 0 (Lib.decDigits (u/10)).length).size:Nat):Int)≤_;omega,?_⟩;(refine goI ?_;repeat (intro gg;refine goI ?_));refine⟨by decide,-((u%10:Nat):Int),by rw[Int.neg_tmod,show((u:Int)).tmod 10=((u%10:Nat):Int)from(Int.ofNat_tmod u 10).symm],?_⟩;(refine goI ?_;repeat (intro gg;refine goI ?_));rw[show(0:Int) - -((u%10:Nat):Int)=((u%10:Nat):Int)by omega];(refine⟨_,_,false,aI,hE,Af,nI,?_⟩);(refine goI ?_;repeat (intro gg;refine goI ?_));refine⟨by rw[XP,C4];show((1+((bA (Bz ((u/10:Nat):Int))).extract 0 (Lib.decDigits (u/10)).length).size+_:Nat):Int)≤_;omega,?_⟩;rw[hR];(refine goI ?_;repeat (intro gg;refine goI ?_));(exact⟨[],aI⟩)
abbrev cuT:TypeId:=83
def cuC(s:ByteArray)(c:Cu):List Par:=[.c (.v (.string s)),.c (.v (.int .i64 (c.1:Int))),.c (.v (.bool c.2))]
theorem Anq(s:ByteArray)(a:Nat):a≤Fz s a:=by unfold Fz Ot;split<;>omega
theorem Abr:∀(l:List UInt8) (n:Nat),(Hx n l).2≤l.length
 |[],n=>ZT _
 |c::r,n=>by
  unfold Hx;split
  ·have:=Abr r (10*n+c.toNat-48);simp only[ZJ];omega
  ·exact ZU _
theorem Akj{s:ByteArray}{i:Nat}(h:i<s.size):∃c,s[i]? =some c∧s.data.toList[i]? =some c:=⟨s[i],by simp[h],by
 have h':i<s.data.size:=h;rw[Array.getElem?_toList,Array.getElem?_eq_getElem h'];rfl⟩
theorem Ahc{s:ByteArray}{i:Nat}(h:¬i<s.size):s.data.toList[i]? =none:=XK (by rw[Array.length_toList];show s.size≤i;omega)
theorem Agk{x y:ByteArray}(h:x=y):(!x.toList==y.toList)=false:=by rw[h];simp
theorem Agi{x y:ByteArray}(h:x≠y):(!x.toList==y.toList)=true:=by
 rw[Bool.not_eq_true',ZG];intro q;rw[ByteArray.toList_eq,ByteArray.toList_eq]at q;exact h (ByteArray.ext (Array.ext' q))
theorem Atn(c:UInt8):(((c.toNat:Nat):Int)==45)=decide (c=45):=by
 rw[Bool.eq_iff_iff,ZR,decide_eq_true_iff];exact⟨fun h=>UInt8.toNat_inj.1 (show c.toNat=45 by omega),fun h=>by rw[h];rfl⟩
theorem h10:(0:Int)<10995116277770:=by decide
theorem Am8{l:List UInt8}{i:Nat}{c:UInt8}(h:l[i]? =some c):l.drop i=c::l.drop (i+1):=by
 obtain⟨h1,h2⟩:=ZB.1 h;rw[List.drop_eq_getElem_cons h1,h2]
theorem Z9{s:ByteArray}{a:Nat}(h:a≤s.size):Ot s a≤s.size:=by
 unfold Ot;split
 ·rename_i hn;by_cases hlt:a<s.size
  ·omega
  ·unfold Qm at hn;rw[Ahc hlt]at hn;cases hn
 ·exact h
theorem Ag7{s:ByteArray}{a:Nat}(h:a≤s.size):Fz s a≤s.size:=by
 have h1:=Z9 h;have h2:=Abr (s.data.toList.drop (Ot s a)) 0;rw[List.length_drop,Array.length_toList]at h2;have h3:s.data.size=s.size:=rfl;unfold Fz scA;omega
def At3:Ae:=Ei [true,true,false] (Ei [true,true,true,false] (Ei [true,true,true,true,true,false] Eh))
theorem L5{s:ByteArray}{c:Cu}(h:c.2=true∨s.size≤Fz s c.1∨s.extract c.1 (Fz s c.1+1)≠bA (Bz (Lu s c.1))):Bl s c=(0,(Fz s c.1,true)):=if_pos h
theorem Zm{s:ByteArray}{c:Cu}(h:¬(c.2=true∨s.size≤Fz s c.1∨s.extract c.1 (Fz s c.1+1)≠bA (Bz (Lu s c.1)))):Bl s c=(Lu s c.1,(Fz s c.1+1,false)):=if_neg h
theorem Xz{s:ByteArray}{a p:Nat}{W:Int}(hp:p=Fz s a)(hw:W=Lu s a)(h1:¬s.size≤p)(h2:s.extract a (p+1)=bA (Bz W)):Bl s (a,false)=(W,(p+1,false)):=by
 subst hp hw;exact Zm (fun h=>h.elim (fun h=>Bool.noConfusion h) fun h=>h.elim h1 fun h=>h h2)
theorem Z1{s:ByteArray}{a p:Nat}{W:Int}(hp:p=Fz s a)(hw:W=Lu s a)(h2:s.extract a (p+1)≠bA (Bz W)):Bl s (a,false)=(0,(p,true)):=by
 subst hp hw;exact L5 (.inr (.inr h2))
theorem Anp:Bi Tryz.prog 39 1=some (Eh,[(2,none)]):=by kernel_rfl
set_option maxHeartbeats 4000000 in
theorem C6[Glob](s:ByteArray)(a:Nat)(b:Bool)(hs:s.size≤1000000000000)(ha:a≤s.size):Gl Tryz.prog 39 [.mn cuT (cuC s (a,b)) (cuC s (Bl s (a,b)).2)] [.p (.c (.v (.int .i64 (Bl s (a,b)).1)))]:=by
 refine Ady Anp (rcD:=At3) (by rfl) rfl (Qk rfl) ?_;(refine goI ?_;repeat (intro gg;refine goI ?_));refine⟨Unit,[0,2,3],fun _=>[(4,.v (.bool (Qm s a)))],[0],fun _=>[],?_,fun _=>?_⟩
 ·(refine goI ?_;repeat (intro gg;refine goI ?_));by_cases hlt:a<s.size
  ·rw[ZX (show(((a,b):Cu).1:Int)<(s.size:Int)from by show(a:Int)<_;omega)];obtain⟨c,hc1,hc2⟩:=Akj hlt;have e1:Qm s a=decide (c=45):=by unfold Qm;rw[hc2];simp
   rw[e1];(refine goI ?_;repeat (intro gg;refine goI ?_));refine⟨a,c,rfl,hc1,?_⟩;(refine goI ?_;repeat (intro gg;refine goI ?_));rw[Atn c];(exact⟨(),tI,tI,tI,tI⟩)
  ·rw[ZY (show¬(((a,b):Cu).1:Int)<(s.size:Int)from by show¬(a:Int)<_;omega)];have e1:Qm s a=false:=by unfold Qm;rw[Ahc hlt];rfl
   rw[e1];(refine goI ?_;repeat (intro gg;refine goI ?_));(exact⟨(),tI,tI,tI,tI⟩)
 (refine goI ?_;repeat (intro gg;refine goI ?_));refine⟨Unit,[0,2,3,4],fun _=>[],[],fun _=>[(0,⟨0,.b cuT,3,[[.v (.string s),.v (.int .i64 ((Ot s a:Nat):Int)),.v (.bool b)]]⟩)],?_,fun _=>?_⟩
 ·(refine goI ?_;repeat (intro gg;refine goI ?_));cases hn:Qm s a with
  |true=>
   have e1:Ot s a=a+1:=by unfold Ot;rw[hn];rfl
   rw[e1];have hlt:a<s.size:=by
    have:=Z9 ha;omega
   (refine goI ?_;repeat (intro gg;refine goI ?_));(exact⟨(),tI,tI,tI,tI⟩)
  |false=>
   have e1:Ot s a=a:=by unfold Ot;rw[hn];rfl
   rw[e1];(refine goI ?_;repeat (intro gg;refine goI ?_));(exact⟨(),tI,tI,tI,tI⟩)
 (refine goI ?_;repeat (intro gg;refine goI ?_));refine⟨{q:Int×Nat//q.1=((scA s a).1:Int)∧q.2=Fz s a},[0,2,3,4],fun x=>[(5,.v (.int .i64 x.1.1))],[],fun x=>[(0,⟨0,.b cuT,3,[[.v (.string s),.v (.int .i64 ((x.1.2:Nat):Int)),.v (.bool b)]]⟩)],?_,fun x=>?_⟩
 ·(refine goI ?_;repeat (intro gg;refine goI ?_));(refine⟨[],none,{q:Int×Nat//q.2≤s.size∧(0≤q.1∧q.1<10995116277770)∧(Hx q.1.toNat (s.data.toList.drop q.2)).1=(scA s a).1∧q.2+(Hx q.1.toNat (s.data.toList.drop q.2)).2=Fz s a},[0,2,3,4],fun⟨⟨v,p⟩,hp,hn,h1,h2⟩=>[(5,.v (.int .i64 v))],[],fun⟨⟨v,p⟩,hp,hn,h1,h2⟩=>[(0,⟨0,.b cuT,3,[[.v (.string s),.v (.int .i64 ((p:Nat):Int)),.v (.bool b)]]⟩)],fun⟨⟨v,p⟩,hp,hn,h1,h2⟩=>s.size-p,trivial,fun _=>⟨trivial,fun _=>⟨⟨(0,Ot s a),Z9 ha,⟨Int.le_refl _,h10⟩,rfl,rfl⟩,tI,Ah _ _,?_,Ag _ _⟩⟩,fun⟨⟨v,p⟩,hp,hn,h1,h2⟩=>?_⟩;focus (exact⟨rfl,trivial⟩));have hp:p≤s.size:=hp;obtain⟨hn0,hn⟩:0≤v∧v<10995116277770:=hn;have h1:(Hx v.toNat (s.data.toList.drop p)).1=(scA s a).1:=h1;have h2:p+(Hx v.toNat (s.data.toList.drop p)).2=Fz s a:=h2;(refine goI ?_;repeat (intro gg;refine goI ?_));by_cases hlt:p<s.size
  ·rw[ZX (show(p:Int)<(s.size:Int)from by omega)];obtain⟨c,hc1,hc2⟩:=Akj hlt;rw[Am8 hc2,Hx]at h1 h2;have hc256:c.toNat<256:=c.toNat_lt;(refine goI ?_;repeat (intro gg;refine goI ?_));refine⟨p,c,rfl,hc1,?_⟩;(refine goI ?_;repeat (intro gg;refine goI ?_));by_cases d1:48≤c.toNat
   ·rw[ZX (show(48:Int)≤(c.toNat:Int)from by omega)];(refine goI ?_;repeat (intro gg;refine goI ?_));refine⟨p,c,rfl,hc1,?_⟩;(refine goI ?_;repeat (intro gg;refine goI ?_));by_cases d2:c.toNat≤57
    ·rw[ZX (show(c.toNat:Int)≤(57:Int)from by omega)];(refine goI ?_;repeat (intro gg;refine goI ?_));by_cases d3:v<1099511627776
     ·rw[ZX d3];rw[if_pos ⟨⟨d1,d2⟩,by omega⟩]at h1 h2;(refine goI ?_;repeat (intro gg;refine goI ?_));refine⟨p,c,rfl,hc1,?_⟩;(refine goI ?_;repeat (intro gg;refine goI ?_));have e3:10*v.toNat+c.toNat-48=(10*v+(c.toNat:Int)-48).toNat:=by omega
      rw[e3]at h1 h2;(exact⟨none,trivial,fun gr=>⟨⟨(10*v+(c.toNat:Int)-48,p+1),by show p+1≤s.size;omega,⟨by show 0≤10*v+(c.toNat:Int)-48;omega,by show 10*v+(c.toNat:Int)-48<10995116277770;omega⟩,h1,by rw[←h2];show p+1+(Hx (10*v+(c.toNat:Int)-48).toNat (s.data.toList.drop (p+1))).2=_;omega⟩,by show s.size-(p+1)<s.size-p;omega,tI,tI,⟨rfl,trivial⟩,tI⟩⟩)
     ·rw[ZY d3];rw[if_neg (fun h=>d3 (by omega))]at h1 h2;(refine goI ?_;repeat (intro gg;refine goI ?_));exact⟨⟨(v,p),by show v=_;rw[←h1];show v=(v.toNat:Int);omega,h2⟩,tI,tI,tI,tI⟩
    ·rw[ZY (show¬(c.toNat:Int)≤(57:Int)from by omega)];rw[if_neg (fun h=>d2 h.1.2)]at h1 h2;(refine goI ?_;repeat (intro gg;refine goI ?_));exact⟨⟨(v,p),by show v=_;rw[←h1];show v=(v.toNat:Int);omega,h2⟩,tI,tI,tI,tI⟩
   ·rw[ZY (show¬(48:Int)≤(c.toNat:Int)from by omega)];rw[if_neg (fun h=>d1 h.1.1)]at h1 h2;(refine goI ?_;repeat (intro gg;refine goI ?_));exact⟨⟨(v,p),by show v=_;rw[←h1];show v=(v.toNat:Int);omega,h2⟩,tI,tI,tI,tI⟩
  ·rw[ZY (show¬(p:Int)<(s.size:Int)from by omega)];rw[List.drop_eq_nil_of_le (by rw[Array.length_toList];show s.size≤p;omega),Hx]at h1 h2;(refine goI ?_;repeat (intro gg;refine goI ?_));exact⟨⟨(v,p),by show v=_;rw[←h1];show v=(v.toNat:Int);omega,h2⟩,tI,tI,tI,tI⟩
 have q1:x.1.1=((scA s a).1:Int):=x.2.1;have q2:x.1.2=Fz s a:=x.2.2;(refine goI ?_;repeat (intro gg;refine goI ?_));have hsc:(scA s a).1<10995116277770:=Yh _ _ (by decide);have hel:=Ag7 ha;have hge:=Anq s a;cases hn:Qm s a with
 |true=>
  have e1:Lu s a= -((scA s a).1:Int):=by unfold Lu;rw[hn];rfl
  (refine goI ?_;repeat (intro gg;refine goI ?_));have hw:0-x.1.1=Lu s a:=by omega
  have hi:isI (Lu s a):=by unfold isI;omega
  (refine goI ?_;repeat (intro gg;refine goI ?_));cases b with
  |true=>
   have e9:Bl s (a,true)=(0,(x.1.2,true)):=by rw[L5 (.inl rfl),q2]
   rw[e9];(refine goI ?_;repeat (intro gg;refine goI ?_));(exact⟨_,0::([]++[]),.tmp .nil,Ci (Cw rfl) (Er (gone:=[]) (gone1:=[]) rfl aI (by decide) (by decide) (by decide) (.nil _))⟩)
  |false=>
   (refine goI ?_;repeat (intro gg;refine goI ?_));by_cases h1:s.size≤x.1.2
   ·have e9:Bl s (a,false)=(0,(x.1.2,true)):=by rw[L5 (.inr (.inl (q2▸h1))),q2]
    rw[e9,ZX (show(s.size:Int)≤(x.1.2:Int)from by omega)];(refine goI ?_;repeat (intro gg;refine goI ?_));(exact⟨_,0::([]++[]),.tmp .nil,Ci (Cw rfl) (Er (gone:=[]) (gone1:=[]) rfl aI (by decide) (by decide) (by decide) (.nil _))⟩)
   ·rw[ZY (show¬(s.size:Int)≤(x.1.2:Int)from by omega)];(refine goI ?_;repeat (intro gg;refine goI ?_));refine⟨a,x.1.2+1,⟨_,rfl⟩,⟨_,rfl⟩,by omega,by omega,?_⟩;(refine goI ?_;repeat (intro gg;refine goI ?_));have hD:=Agh (0-x.1.1) (hw▸hi);(refine⟨_,_,false,aI,hD,Af,nI,?_⟩);(refine goI ?_;repeat (intro gg;refine goI ?_));by_cases h2:s.extract a (x.1.2+1)=bA (Bz (0-x.1.1))
    ·have e9:Bl s (a,false)=(0-x.1.1,(x.1.2+1,false)):=Xz q2 hw h1 h2;rw[e9,Agk h2];(refine goI ?_;repeat (intro gg;refine goI ?_));(exact⟨_,0::([]++[]),.tmp .nil,Ci (Cw rfl) (Er (gone:=[]) (gone1:=[]) rfl aI (by decide) (by decide) (by decide) (.nil _))⟩)
    ·have e9:Bl s (a,false)=(0,(x.1.2,true)):=Z1 q2 hw h2;rw[e9,Agi h2];(refine goI ?_;repeat (intro gg;refine goI ?_));(exact⟨_,0::([]++[]),.tmp .nil,Ci (Cw rfl) (Er (gone:=[]) (gone1:=[]) rfl aI (by decide) (by decide) (by decide) (.nil _))⟩)
 |false=>
  have e1:Lu s a=((scA s a).1:Int):=by unfold Lu;rw[hn];rfl
  have hw:x.1.1=Lu s a:=by omega
  have hi:isI (Lu s a):=by unfold isI;omega
  (refine goI ?_;repeat (intro gg;refine goI ?_));cases b with
  |true=>
   have e9:Bl s (a,true)=(0,(x.1.2,true)):=by rw[L5 (.inl rfl),q2]
   rw[e9];(refine goI ?_;repeat (intro gg;refine goI ?_));(exact⟨_,0::([]++[]),.tmp .nil,Ci (Cw rfl) (Er (gone:=[]) (gone1:=[]) rfl aI (by decide) (by decide) (by decide) (.nil _))⟩)
  |false=>
   (refine goI ?_;repeat (intro gg;refine goI ?_));by_cases h1:s.size≤x.1.2
   ·have e9:Bl s (a,false)=(0,(x.1.2,true)):=by rw[L5 (.inr (.inl (q2▸h1))),q2]
    rw[e9,ZX (show(s.size:Int)≤(x.1.2:Int)from by omega)];(refine goI ?_;repeat (intro gg;refine goI ?_));(exact⟨_,0::([]++[]),.tmp .nil,Ci (Cw rfl) (Er (gone:=[]) (gone1:=[]) rfl aI (by decide) (by decide) (by decide) (.nil _))⟩)
   ·rw[ZY (show¬(s.size:Int)≤(x.1.2:Int)from by omega)];(refine goI ?_;repeat (intro gg;refine goI ?_));refine⟨a,x.1.2+1,⟨_,rfl⟩,⟨_,rfl⟩,by omega,by omega,?_⟩;(refine goI ?_;repeat (intro gg;refine goI ?_));have hD:=Agh (x.1.1) (hw▸hi);(refine⟨_,_,false,aI,hD,Af,nI,?_⟩);(refine goI ?_;repeat (intro gg;refine goI ?_));by_cases h2:s.extract a (x.1.2+1)=bA (Bz (x.1.1))
    ·have e9:Bl s (a,false)=(x.1.1,(x.1.2+1,false)):=Xz q2 hw h1 h2;rw[e9,Agk h2];(refine goI ?_;repeat (intro gg;refine goI ?_));(exact⟨_,0::([]++[]),.tmp .nil,Ci (Cw rfl) (Er (gone:=[]) (gone1:=[]) rfl aI (by decide) (by decide) (by decide) (.nil _))⟩)
    ·have e9:Bl s (a,false)=(0,(x.1.2,true)):=Z1 q2 hw h2;rw[e9,Agi h2];(refine goI ?_;repeat (intro gg;refine goI ?_));(exact⟨_,0::([]++[]),.tmp .nil,Ci (Cw rfl) (Er (gone:=[]) (gone1:=[]) rfl aI (by decide) (by decide) (by decide) (.nil _))⟩)
theorem Dp{s:ByteArray}{a:Nat}{b:Bool}(ha:a≤s.size):(Bl s (a,b)).2.1≤s.size:=by
 have:=Ag7 ha;by_cases h:b=true∨s.size≤Fz s a∨s.extract a (Fz s a+1)≠bA (Bz (Lu s a))
 ·rw[L5 (c:=(a,b)) h];exact this
 ·rw[Zm (c:=(a,b)) h];have h2:¬s.size≤Fz s a:=fun q=>h (.inr (.inl q));show Fz s a+1≤s.size;omega
theorem Ah8{s:ByteArray}{c:Cu}{n:Int}{p:Nat}{bd:Bool}(h:Bl s c=(n,(p,bd))):G7 s c=if bd=true∨n<0∨(s.size:Int)-p<n then(⟨#[]⟩,(p,true))else(s.extract p (p+n.toNat),(p+n.toNat,false)):=by unfold G7;rw[h]
theorem Ano{s:ByteArray}{c:Cu}{n:Int}{p:Nat}{bd:Bool}(h:Bl s c=(n,(p,bd))):Pd s c=(decide (n=1),(p,(bd||decide (n<0)||decide (1<n)))):=by unfold Pd;rw[h]
theorem Agt{most:Int}{s:ByteArray}{c:Cu}{n:Int}{p:Nat}{bd:Bool}(h:Bl s c=(n,(p,bd))):K9 most s c=if bd=true∨n<0∨most<n then(0,(p,true))else(n.toNat,(p,bd)):=by unfold K9;rw[h]
set_option maxHeartbeats 4000000 in
theorem Hy[Glob](s:ByteArray)(a:Nat)(b:Bool)(hs:s.size≤1000000000000)(ha:a≤s.size):Gl Tryz.prog 36 [.mn cuT (cuC s (a,b)) (cuC s (G7 s (a,b)).2)] [.p (.c (.v (.string (G7 s (a,b)).1)))]:=by
 have hf:=C6 s a b hs ha;have hp:=Dp (b:=b) ha;obtain⟨⟨n,p,bd⟩,hN⟩:∃q,Bl s (a,b)=q:=⟨_,rfl⟩;rw[hN]at hf hp;rw[Ah8 hN];have hp:p≤s.size:=hp;refine On Kn rfl rfl (Qk rfl) ?_;(refine goI ?_;repeat (intro gg;refine goI ?_));(refine .inr (.inl ⟨_,_,false,0::([]++[]),?_,hf,Af,oI,dI,?_⟩);focus (exact wI));(refine goI ?_;repeat (intro gg;refine goI ?_));cases bd with
 |true=>
  (refine goI ?_;repeat (intro gg;refine goI ?_));rw[if_pos (.inl rfl)];(exact⟨0::([]++[]),Ci (by first|exact Cw rfl|assumption) (Er (gone:=[]) (gone1:=[]) rfl aI (by decide) (by decide) (by decide) (.nil _))⟩)
 |false=>
  (refine goI ?_;repeat (intro gg;refine goI ?_));by_cases h1:n<0
  ·rw[ZX h1,if_pos (.inr (.inl h1))];(refine goI ?_;repeat (intro gg;refine goI ?_));(exact⟨0::([]++[]),Ci (by first|exact Cw rfl|assumption) (Er (gone:=[]) (gone1:=[]) rfl aI (by decide) (by decide) (by decide) (.nil _))⟩)
  ·obtain⟨k,rfl⟩:=Int.eq_ofNat_of_zero_le (show 0≤n by omega);rw[ZY h1];(refine goI ?_;repeat (intro gg;refine goI ?_));by_cases h2:(s.size:Int)-(p:Int)<(k:Int)
   ·rw[ZX h2,if_pos (.inr (.inr h2))];(refine goI ?_;repeat (intro gg;refine goI ?_));(exact⟨0::([]++[]),Ci (by first|exact Cw rfl|assumption) (Er (gone:=[]) (gone1:=[]) rfl aI (by decide) (by decide) (by decide) (.nil _))⟩)
   ·rw[ZY h2,if_neg (fun h=>h.elim (fun h=>Bool.noConfusion h) fun h=>h.elim h1 h2),Int.toNat_natCast];(refine goI ?_;repeat (intro gg;refine goI ?_));refine⟨p,p+k,⟨_,congrArg (fun z=>V.v (.int .i64 z)) (show(p:Int)+(k:Int)-(k:Int)=(p:Int)by omega)⟩,⟨_,rfl⟩,by omega,by omega,?_⟩;(refine goI ?_;repeat (intro gg;refine goI ?_));(exact⟨0::([]++[]),Ci (by first|exact Cw rfl|assumption) (Er (gone:=[]) (gone1:=[]) rfl aI (by decide) (by decide) (by decide) (.nil _))⟩)
set_option maxHeartbeats 4000000 in
theorem Ry[Glob](s:ByteArray)(a:Nat)(b:Bool)(hs:s.size≤1000000000000)(ha:a≤s.size):Gl Tryz.prog 37 [.mn cuT (cuC s (a,b)) (cuC s (Pd s (a,b)).2)] [.p (.c (.v (.bool (Pd s (a,b)).1)))]:=by
 have hf:=C6 s a b hs ha;obtain⟨⟨n,p,bd⟩,hN⟩:∃q,Bl s (a,b)=q:=⟨_,rfl⟩;rw[hN]at hf;rw[Ano hN];refine On Ln rfl rfl (Qk rfl) ?_;(refine goI ?_;repeat (intro gg;refine goI ?_));(refine .inr (.inl ⟨_,_,false,0::([]++[]),?_,hf,Af,oI,dI,?_⟩);focus (exact wI));(refine goI ?_;repeat (intro gg;refine goI ?_));cases bd with
 |true=>
  (refine goI ?_;repeat (intro gg;refine goI ?_));(exact⟨0::([]++[]),Ci (by first|exact Cw rfl|assumption) (Er (gone:=[]) (gone1:=[]) rfl aI (by decide) (by decide) (by decide) (.nil _))⟩)
 |false=>
  (refine goI ?_;repeat (intro gg;refine goI ?_));by_cases h1:n<0
  ·rw[ZX h1];(refine goI ?_;repeat (intro gg;refine goI ?_));(exact⟨0::([]++[]),Ci (by first|exact Cw rfl|assumption) (Er (gone:=[]) (gone1:=[]) rfl aI (by decide) (by decide) (by decide) (.nil _))⟩)
  ·rw[ZY h1];(refine goI ?_;repeat (intro gg;refine goI ?_));(exact⟨0::([]++[]),Ci (by first|exact Cw rfl|assumption) (Er (gone:=[]) (gone1:=[]) rfl aI (by decide) (by decide) (by decide) (.nil _))⟩)
set_option maxHeartbeats 4000000 in
theorem Sn[Glob](most:Int)(s:ByteArray)(a:Nat)(b:Bool)(hs:s.size≤1000000000000)(ha:a≤s.size):Gl Tryz.prog 38 [.mn cuT (cuC s (a,b)) (cuC s (K9 most s (a,b)).2),.p (.c (.v (.int .i64 most)))] [.p (.c (.v (.int .i64 ((K9 most s (a,b)).1:Nat))))]:=by
 have hf:=C6 s a b hs ha;obtain⟨⟨n,p,bd⟩,hN⟩:∃q,Bl s (a,b)=q:=⟨_,rfl⟩;rw[hN]at hf;rw[Agt hN];refine On J2 rfl rfl (Qk rfl) ?_;(refine goI ?_;repeat (intro gg;refine goI ?_));(refine .inr (.inl ⟨_,_,false,0::([]++[]),?_,hf,Af,oI,dI,?_⟩);focus (exact wI));(refine goI ?_;repeat (intro gg;refine goI ?_));by_cases h1:n<0
 ·rw[ZX h1,if_pos (.inr (.inl h1))];(refine goI ?_;repeat (intro gg;refine goI ?_));(exact⟨0::([]++[]),Ci (by first|exact Cw rfl|assumption) (Er (gone:=[]) (gone1:=[]) rfl aI (by decide) (by decide) (by decide) (.nil _))⟩)
 ·rw[ZY h1];(refine goI ?_;repeat (intro gg;refine goI ?_));by_cases h2:most<n
  ·rw[ZX h2,if_pos (.inr (.inr h2))];(refine goI ?_;repeat (intro gg;refine goI ?_));(exact⟨0::([]++[]),Ci (by first|exact Cw rfl|assumption) (Er (gone:=[]) (gone1:=[]) rfl aI (by decide) (by decide) (by decide) (.nil _))⟩)
  ·rw[ZY h2];(refine goI ?_;repeat (intro gg;refine goI ?_));cases bd with
   |true=>
    rw[if_pos (.inl rfl)];(refine goI ?_;repeat (intro gg;refine goI ?_));(exact⟨0::([]++[]),Ci (by first|exact Cw rfl|assumption) (Er (gone:=[]) (gone1:=[]) rfl aI (by decide) (by decide) (by decide) (.nil _))⟩)
   |false=>
    obtain⟨k,rfl⟩:=Int.eq_ofNat_of_zero_le (show 0≤n by omega);rw[if_neg (fun h=>h.elim (fun h=>Bool.noConfusion h) fun h=>h.elim h1 h2),Int.toNat_natCast];(refine goI ?_;repeat (intro gg;refine goI ?_));(exact⟨0::([]++[]),Ci (by first|exact Cw rfl|assumption) (Er (gone:=[]) (gone1:=[]) rfl aI (by decide) (by decide) (by decide) (.nil _))⟩)
theorem K3{s:ByteArray}{a:Nat}{b:Bool}(ha:a≤s.size):(G7 s (a,b)).2.1≤s.size:=by
 have:=Dp (b:=b) ha;obtain⟨⟨n,p,bd⟩,hN⟩:∃q,Bl s (a,b)=q:=⟨_,rfl⟩;rw[Ah8 hN];rw[hN]at this;have h:p≤s.size:=this;split
 ·exact h
 ·show p+n.toNat≤s.size;omega
theorem Vk{s:ByteArray}{a:Nat}{b:Bool}(ha:a≤s.size):(Pd s (a,b)).2.1≤s.size:=Dp (b:=b) ha
theorem Vt{most:Int}{s:ByteArray}{a:Nat}{b:Bool}(ha:a≤s.size):(K9 most s (a,b)).2.1≤s.size:=by
 have:=Dp (b:=b) ha;obtain⟨⟨n,p,bd⟩,hN⟩:∃q,Bl s (a,b)=q:=⟨_,rfl⟩;rw[Agt hN];rw[hN]at this;split<;>exact this
theorem Sh{most:Int}{s:ByteArray}{c:Cu}(h0:0≤most):((K9 most s c).1:Int)≤most:=by
 unfold K9;split
 ·exact h0
 ·show(((Bl s c).1.toNat:Nat):Int)≤most;omega
theorem Ans{s:ByteArray}{c:Cu}:(G7 s c).1.size≤s.size:=by
 unfold G7;split
 ·exact ZU _
 ·show(s.extract _ _).size≤_;rw[ByteArray.size_extract];omega
section
variable {α:Type} {one:Cu→α×Cu} {N k:Nat} {l:List α} {c c':Cu} {R:List α×Cu} {m:α}
theorem Pt(hk:k<N)(h:(l++(Cz one (N-k) c).1,(Cz one (N-k) c).2)=R)(hc:c.2=false)(hm:one c=(m,c')):(l++[m]++(Cz one (N-(k+1)) c').1,(Cz one (N-(k+1)) c').2)=R:=by
 obtain⟨j,hj⟩:∃j,N-k=j+1:=⟨N-k-1,by omega⟩;rw[hj]at h;unfold Cz at h;rw[if_neg (by rw[hc];decide),hm]at h;rw[show N-(k+1)=j by omega,←h];simp
theorem H2(h:(l++(Cz one (N-k) c).1,(Cz one (N-k) c).2)=R)(he:¬k<N∨c.2=true):(l,c)=R:=by
 rw[←h];by_cases hk:k<N
 ·have hc:=he.resolve_left (fun q=>q hk);obtain⟨j,hj⟩:∃j,N-k=j+1:=⟨N-k-1,by omega⟩;rw[hj];unfold Cz;rw[if_pos hc];simp
 ·rw[show N-k=0 by omega];unfold Cz;simp
theorem Adt:∀(n:Nat) (c:Cu),(Cz one n c).1.length≤n
 |0,c=>ZT _
 |n+1,c=>by
  unfold Cz;split
  ·exact ZU _
  ·have:=Adt n (one c).2;simp only[ZJ];omega
theorem O2{P:α→Prop}(h:∀c,P (one c).1):∀(n:Nat) (c:Cu),∀x∈(Cz one n c).1,P x
 |0,c=>fun x hx=>by cases hx
 |n+1,c=>by
  unfold Cz;split
  ·intro x hx;cases hx
  ·intro x hx;rcases XC.1 hx with rfl|hx
   ·exact h c
   ·exact O2 h n _ x hx
end
theorem Apk{s:ByteArray}(hs:s.size≤1000000000000):(cPk s (0,false)).1.ok:=by
 have ht:∀c,(G7 s c).1.size≤9223372036854775807:=fun c=>XI Ans (by omega);have hl:∀{α:Type} (most:Int) (one:Cu→α×Cu) (c:Cu),0≤most→most≤40→(Xi most s one c).1.length≤40:=fun most one c h0 h1=>by
  have e1:=Sh (s:=s) (c:=c) h0;have e2:=Adt (one:=one) (K9 most s c).1 (K9 most s c).2;unfold Xi;omega
 refine⟨ht _,XI (hl 20 _ _ (by decide) (by decide)) (by decide),O2 (fun c=>ht _) _ _,XI (hl 40 _ _ (by decide) (by decide)) (by decide),O2 (fun c=>⟨ht _,ht _,ht _,ht _⟩) _ _,XI (hl 6 _ _ (by decide) (by decide)) (by decide),O2 (fun c=>ht _) _ _,XI (hl 20 _ _ (by decide) (by decide)) (by decide),O2 (fun c=>ht _) _ _⟩
theorem Hw(env:Env)(lv:List (Nat×V)):hdE env [] lv=hdE (fun _=>.any) [] lv:=rfl
theorem H9(H:Hp)(ho:List (Nat×Ent)):hdH H [] ho=hdH noH [] ho:=rfl
theorem Nj(env env':Env):Uo env env' []=True:=rfl
theorem Np(H H':Hp):Uq H H' []=True:=rfl
abbrev pkT:TypeId:=59
def uO(id:Nat):Option Nat→V
 |none=>.v (.slice none 0 0)
 |some g=>.own id g
def hO(id:Nat)(T:TypeId)(sz:Nat)(rows:List (List V)):Option Nat→List (Nat×Ent)
 |none=>[]
 |some g=>[(id,⟨g,.t T,sz,rows⟩)]
def Asr:Ae:=Ei (List.replicate 6 true++[false]) (Ei (List.replicate 8 true++[false]) (Ei (List.replicate 10 true++[false]) (Ei (List.replicate 12 true++[false]) Gn)))
set_option maxHeartbeats 20000000 in
theorem Aav[Glob](s:ByteArray)(hs:s.size≤1000000000000):Fun Tryz.prog 17 [.c (.v (.string s))] [.c (.agg (Zo s).1.row),.c (.v (.int .i64 (Zo s).2))]:=by
 obtain⟨F,hF⟩:∃F,Zo s=F:=⟨_,rfl⟩;rw[hF];refine Ahp (rcD:=Asr) Ni (by rfl) rfl ?_;(refine goI ?_;repeat (intro gg;refine goI ?_));revert gg;intro gp;revert gg;intro gc;revert gg;intro gq;have h0:0≤s.size:=ZU _;obtain⟨⟨fr,pfr,bfr⟩,efr⟩:∃q,G7 s (0,false)=q:=⟨_,rfl⟩;have ffr:=Hy s 0 false hs h0;have hpfr:=K3 (b:=false) h0;rw[efr]at ffr hpfr;simp only at ffr hpfr;(refine .inr (.inl ⟨_,_,false,272::([]++[]),?_,ffr,Af,oI,dI,?_⟩);focus (exact wI));(refine goI ?_;repeat (intro gg;refine goI ?_));obtain⟨⟨wo,pwo,bwo⟩,ewo⟩:∃q,Pd s (pfr,bfr)=q:=⟨_,rfl⟩;have fwo:=Ry s pfr bfr hs hpfr;have hpwo:=Vk (b:=bfr) hpfr;rw[ewo]at fwo hpwo;simp only at fwo hpwo;(refine .inr (.inl ⟨_,_,false,272::([]++[]),?_,fwo,Af,oI,dI,?_⟩);focus (exact wI));(refine goI ?_;repeat (intro gg;refine goI ?_));obtain⟨⟨Nms,pnms,bnms⟩,enms⟩:∃q,K9 20 s (pwo,bwo)=q:=⟨_,rfl⟩;have fnms:=Sn 20 s pwo bwo hs hpwo;have hpnms:=Vt (most:=20) (b:=bwo) hpwo;rw[enms]at fnms hpnms;simp only at fnms hpnms;(refine .inr (.inl ⟨_,_,false,272::([]++[]),?_,fnms,Af,oI,dI,?_⟩);focus (exact wI));(refine goI ?_;repeat (intro gg;refine goI ?_));have kms:(Nms:Int)≤20:=by
  have:=Sh (most:=20) (s:=s) (c:=(pwo,bwo)) (by decide)
  rwa[enms]at this
 obtain⟨⟨ms,pms,bms⟩,ems⟩:∃q,Cz (cMb s) Nms (pnms,bnms)=q:=⟨_,rfl⟩;have ims:(([]:List Mb)++(Cz (cMb s) (Nms-0) (pnms,bnms)).1,(Cz (cMb s) (Nms-0) (pnms,bnms)).2)=(ms,pms,bms):=by rw[List.nil_append,Nat.sub_zero,ems]
 refine⟨{og:Option Nat//(og=none→ms=[])∧pms≤s.size},[],fun _=>[(0,.v (.string s)),(2,.ptr 32 gq 0 0),(3,.v (.int .i64 0)),(4,.ptr 272 gc 0 0),(5,.ptr 80 gp 0 0)],[],fun og=>(32,⟨gq,.b pkT,6,[[.v (.string ⟨#[]⟩),.v (.bool false),.v (.slice none 0 0),.v (.slice none 0 0),.v (.slice none 0 0),.v (.slice none 0 0)]]⟩)::(272,⟨gc,.b cuT,3,[[.v (.string s),.v (.int .i64 ((pms:Nat):Int)),.v (.bool bms)]]⟩)::(80,⟨gp,.b pkT,6,[[.v (.string fr),.v (.bool wo),uO 912 og.1,.v (.slice none 0 0),.v (.slice none 0 0),.v (.slice none 0 0)]]⟩)::hO 912 47 5 (ms.map Mb.row) og.1,?_,fun og=>?_⟩
 ·(refine goI ?_;repeat (intro gg;refine goI ?_));(refine⟨[],none,{q:List Mb×Cu×Option Nat×Nat//(q.2.2.2≤Nms∧q.1.length≤q.2.2.2)∧q.2.1.1≤s.size∧(q.2.2.1=none→q.1=[])∧(q.1++(Cz (cMb s) (Nms-q.2.2.2) q.2.1).1,(Cz (cMb s) (Nms-q.2.2.2) q.2.1).2)=(ms,pms,bms)},[],fun⟨⟨l,⟨a,b⟩,og,k⟩,hk,ha,ho,hR⟩=>[(0,.v (.string s)),(2,.ptr 32 gq 0 0),(3,.v (.int .i64 0)),(4,.ptr 272 gc 0 0),(5,.ptr 80 gp 0 0),(6,.v (.int .i64 ((Nms:Nat):Int))),(7,.v (.int .i64 (k:Int)))],[],fun⟨⟨l,⟨a,b⟩,og,k⟩,hk,ha,ho,hR⟩=>(32,⟨gq,.b pkT,6,[[.v (.string ⟨#[]⟩),.v (.bool false),.v (.slice none 0 0),.v (.slice none 0 0),.v (.slice none 0 0),.v (.slice none 0 0)]]⟩)::(272,⟨gc,.b cuT,3,[[.v (.string s),.v (.int .i64 ((a:Nat):Int)),.v (.bool b)]]⟩)::(80,⟨gp,.b pkT,6,[[.v (.string fr),.v (.bool wo),uO 912 og,.v (.slice none 0 0),.v (.slice none 0 0),.v (.slice none 0 0)]]⟩)::hO 912 47 5 (l.map Mb.row) og,fun⟨⟨l,⟨a,b⟩,og,k⟩,hk,ha,ho,hR⟩=>Nms-k,trivial,fun _=>⟨trivial,fun _=>⟨⟨([],(pnms,bnms),none,0),⟨ZU _,ZT _⟩,hpnms,fun _=>rfl,ims⟩,tI,Ah _ _,?_,Ag _ _⟩⟩,fun⟨⟨l,⟨a,b⟩,og,k⟩,hk,ha,ho,hR⟩=>?_⟩;focus (exact(by exact tI)));simp only[Hw,H9,Nj,Np];obtain⟨hk,hl⟩:k≤Nms∧l.length≤k:=hk;have ha:a≤s.size:=ha;have ho:og=none→l=[]:=ho;have hR:(l++(Cz (cMb s) (Nms-k) (a,b)).1,(Cz (cMb s) (Nms-k) (a,b)).2)=(ms,pms,bms):=hR;(refine goI ?_;repeat (intro gg;refine goI ?_));by_cases hlt:k<Nms
  ·rw[ZX (show(k:Int)<(Nms:Int)from by omega)];(refine goI ?_;repeat (intro gg;refine goI ?_));cases b with
   |true=>
    (refine goI ?_;repeat (intro gg;refine goI ?_));obtain⟨rfl,rfl,rfl⟩:l=ms∧a=pms∧true=bms:=by
     have:=H2 hR (.inr rfl);simpa using this
    rcases og with _|g<;>exact⟨⟨_,ho,ha⟩,tI,tI,tI,tI⟩
   |false=>
    (refine goI ?_;repeat (intro gg;refine goI ?_));obtain⟨⟨x0,v0,b0⟩,e0⟩:∃q,G7 s (a,false)=q:=⟨_,rfl⟩;have f0:=Hy s a false hs ha;have hv0:=K3 (b:=false) ha;rw[e0]at f0 hv0;simp only at f0 hv0;(refine .inr (.inl ⟨_,_,false,272::([]++[]),?_,f0,Af,oI,dI,?_⟩);focus (exact wI));(refine goI ?_;repeat (intro gg;refine goI ?_));obtain⟨⟨x1,v1,b1⟩,e1⟩:∃q,Bl s (v0,b0)=q:=⟨_,rfl⟩;have f1:=C6 s v0 b0 hs hv0;have hv1:=Dp (b:=b0) hv0;rw[e1]at f1 hv1;simp only at f1 hv1;(refine .inr (.inl ⟨_,_,false,272::([]++[]),?_,f1,Af,oI,dI,?_⟩);focus (exact wI));(refine goI ?_;repeat (intro gg;refine goI ?_));obtain⟨⟨x2,v2,b2⟩,e2⟩:∃q,Bl s (v1,b1)=q:=⟨_,rfl⟩;have f2:=C6 s v1 b1 hs hv1;have hv2:=Dp (b:=b1) hv1;rw[e2]at f2 hv2;simp only at f2 hv2;(refine .inr (.inl ⟨_,_,false,272::([]++[]),?_,f2,Af,oI,dI,?_⟩);focus (exact wI));(refine goI ?_;repeat (intro gg;refine goI ?_));obtain⟨⟨x3,v3,b3⟩,e3⟩:∃q,Bl s (v2,b2)=q:=⟨_,rfl⟩;have f3:=C6 s v2 b2 hs hv2;have hv3:=Dp (b:=b2) hv2;rw[e3]at f3 hv3;simp only at f3 hv3;(refine .inr (.inl ⟨_,_,false,272::([]++[]),?_,f3,Af,oI,dI,?_⟩);focus (exact wI));(refine goI ?_;repeat (intro gg;refine goI ?_));obtain⟨⟨x4,v4,b4⟩,e4⟩:∃q,Pd s (v3,b3)=q:=⟨_,rfl⟩;have f4:=Ry s v3 b3 hs hv3;have hv4:=Vk (b:=b3) hv3;rw[e4]at f4 hv4;simp only at f4 hv4;(refine .inr (.inl ⟨_,_,false,272::([]++[]),?_,f4,Af,oI,dI,?_⟩);focus (exact wI));(refine goI ?_;repeat (intro gg;refine goI ?_));obtain⟨m,hm⟩:∃m:Mb,m=⟨x0,x1,x2,x3,x4⟩:=⟨_,rfl⟩;have h1:cMb s (a,false)=(m,(v4,b4)):=by unfold cMb;simp only[e0,e1,e2,e3,e4,hm]
    have h2:=Pt hlt hR rfl h1;have h3:(l++[m]).length≤k+1:=by simp;omega
    have h4:(l++[m]).map Mb.row=l.map Mb.row++[m.row]:=by simp
    subst hm
    (rcases og with _|g
     ·obtain rfl:=ho rfl;(refine goI ?_;repeat (intro gg;refine goI ?_));refine⟨lI,lI,?_⟩;(refine goI ?_;repeat (intro gg;refine goI ?_));(exact⟨none,trivial,fun gr=>⟨⟨([]++[⟨x0,x1,x2,x3,x4⟩],(v4,b4),some gg,k+1),⟨by show k+1≤Nms;omega,h3⟩,hv4,(fun(q:some gg=none)=>nomatch q),h2⟩,by show Nms-(k+1)<Nms-k;omega,tI,tI,(by exact⟨rfl,⟨rfl,⟨rfl,⟨rfl,tI⟩⟩⟩⟩),tI⟩⟩)
     ·(refine goI ?_;repeat (intro gg;refine goI ?_));refine⟨lI,lI,?_⟩;(refine goI ?_;repeat (intro gg;refine goI ?_));(exact⟨none,trivial,fun gr=>⟨⟨(l++[⟨x0,x1,x2,x3,x4⟩],(v4,b4),some gg,k+1),⟨by show k+1≤Nms;omega,h3⟩,hv4,(fun(q:some gg=none)=>nomatch q),h2⟩,by show Nms-(k+1)<Nms-k;omega,tI,tI,(by exact⟨rfl,⟨rfl,⟨rfl,⟨congrArg (fun r=>(some ⟨gg,.t 47,5,r⟩:Option Ent)) h4.symm,tI⟩⟩⟩⟩),tI⟩⟩))
  ·rw[ZY (show¬(k:Int)<(Nms:Int)from by omega)];(refine goI ?_;repeat (intro gg;refine goI ?_));obtain⟨rfl,rfl,rfl⟩:l=ms∧a=pms∧b=bms:=by
    have:=H2 hR (.inl hlt);simpa using this
   rcases og with _|g<;>exact⟨⟨_,ho,ha⟩,tI,tI,tI,tI⟩
 simp only[Hw,H9];obtain⟨oms,jms,hpms⟩:=og;obtain⟨⟨Nsv,pnsv,bnsv⟩,ensv⟩:∃q,K9 40 s (pms,bms)=q:=⟨_,rfl⟩;have fnsv:=Sn 40 s pms bms hs hpms;have hpnsv:=Vt (most:=40) (b:=bms) hpms;rw[ensv]at fnsv hpnsv;simp only at fnsv hpnsv;(refine .inr (.inl ⟨_,_,false,272::([]++[]),?_,fnsv,Af,oI,dI,?_⟩);focus (exact wI));(refine goI ?_;repeat (intro gg;refine goI ?_));have ksv:(Nsv:Int)≤40:=by
  have:=Sh (most:=40) (s:=s) (c:=(pms,bms)) (by decide)
  rwa[ensv]at this
 obtain⟨⟨sv,psv,bsv⟩,esv⟩:∃q,Cz (cSv s) Nsv (pnsv,bnsv)=q:=⟨_,rfl⟩;have isv:(([]:List Sv)++(Cz (cSv s) (Nsv-0) (pnsv,bnsv)).1,(Cz (cSv s) (Nsv-0) (pnsv,bnsv)).2)=(sv,psv,bsv):=by rw[List.nil_append,Nat.sub_zero,esv]
 refine⟨{og:Option Nat//(og=none→sv=[])∧psv≤s.size},[],fun _=>[(0,.v (.string s)),(2,.ptr 32 gq 0 0),(3,.v (.int .i64 0)),(4,.ptr 272 gc 0 0),(5,.ptr 80 gp 0 0)],[],fun og=>(32,⟨gq,.b pkT,6,[[.v (.string ⟨#[]⟩),.v (.bool false),.v (.slice none 0 0),.v (.slice none 0 0),.v (.slice none 0 0),.v (.slice none 0 0)]]⟩)::(272,⟨gc,.b cuT,3,[[.v (.string s),.v (.int .i64 ((psv:Nat):Int)),.v (.bool bsv)]]⟩)::(80,⟨gp,.b pkT,6,[[.v (.string fr),.v (.bool wo),uO 912 oms,uO 1664 og.1,.v (.slice none 0 0),.v (.slice none 0 0)]]⟩)::hO 1664 50 9 (sv.map Sv.row) og.1++hO 912 47 5 (ms.map Mb.row) oms,?_,fun og=>?_⟩
 ·(refine goI ?_;repeat (intro gg;refine goI ?_));(refine⟨[],none,{q:List Sv×Cu×Option Nat×Nat//(q.2.2.2≤Nsv∧q.1.length≤q.2.2.2)∧q.2.1.1≤s.size∧(q.2.2.1=none→q.1=[])∧(q.1++(Cz (cSv s) (Nsv-q.2.2.2) q.2.1).1,(Cz (cSv s) (Nsv-q.2.2.2) q.2.1).2)=(sv,psv,bsv)},[],fun⟨⟨l,⟨a,b⟩,og,k⟩,hk,ha,ho,hR⟩=>[(0,.v (.string s)),(2,.ptr 32 gq 0 0),(3,.v (.int .i64 0)),(4,.ptr 272 gc 0 0),(5,.ptr 80 gp 0 0),(6,.v (.int .i64 ((Nsv:Nat):Int))),(9,.v (.int .i64 (k:Int)))],[],fun⟨⟨l,⟨a,b⟩,og,k⟩,hk,ha,ho,hR⟩=>(32,⟨gq,.b pkT,6,[[.v (.string ⟨#[]⟩),.v (.bool false),.v (.slice none 0 0),.v (.slice none 0 0),.v (.slice none 0 0),.v (.slice none 0 0)]]⟩)::(272,⟨gc,.b cuT,3,[[.v (.string s),.v (.int .i64 ((a:Nat):Int)),.v (.bool b)]]⟩)::(80,⟨gp,.b pkT,6,[[.v (.string fr),.v (.bool wo),uO 912 oms,uO 1664 og,.v (.slice none 0 0),.v (.slice none 0 0)]]⟩)::hO 1664 50 9 (l.map Sv.row) og++hO 912 47 5 (ms.map Mb.row) oms,fun⟨⟨l,⟨a,b⟩,og,k⟩,hk,ha,ho,hR⟩=>Nsv-k,trivial,fun _=>⟨trivial,fun _=>⟨⟨([],(pnsv,bnsv),none,0),⟨ZU _,ZT _⟩,hpnsv,fun _=>rfl,isv⟩,tI,Ah _ _,?_,Ag _ _⟩⟩,fun⟨⟨l,⟨a,b⟩,og,k⟩,hk,ha,ho,hR⟩=>?_⟩;focus (exact(by rcases oms with _|gms<;>exact tI)));simp only[Hw,H9,Nj,Np];obtain⟨hk,hl⟩:k≤Nsv∧l.length≤k:=hk;have ha:a≤s.size:=ha;have ho:og=none→l=[]:=ho;have hR:(l++(Cz (cSv s) (Nsv-k) (a,b)).1,(Cz (cSv s) (Nsv-k) (a,b)).2)=(sv,psv,bsv):=hR;(refine goI ?_;repeat (intro gg;refine goI ?_));by_cases hlt:k<Nsv
  ·rw[ZX (show(k:Int)<(Nsv:Int)from by omega)];(refine goI ?_;repeat (intro gg;refine goI ?_));cases b with
   |true=>
    (refine goI ?_;repeat (intro gg;refine goI ?_));obtain⟨rfl,rfl,rfl⟩:l=sv∧a=psv∧true=bsv:=by
     have:=H2 hR (.inr rfl);simpa using this
    rcases og with _|g<;>rcases oms with _|gms<;>exact⟨⟨_,ho,ha⟩,tI,tI,tI,tI⟩
   |false=>
    (refine goI ?_;repeat (intro gg;refine goI ?_));obtain⟨⟨x0,v0,b0⟩,e0⟩:∃q,G7 s (a,false)=q:=⟨_,rfl⟩;have f0:=Hy s a false hs ha;have hv0:=K3 (b:=false) ha;rw[e0]at f0 hv0;simp only at f0 hv0;(refine .inr (.inl ⟨_,_,false,272::([]++[]),?_,f0,Af,oI,dI,?_⟩);focus (exact wI));(refine goI ?_;repeat (intro gg;refine goI ?_));obtain⟨⟨x1,v1,b1⟩,e1⟩:∃q,G7 s (v0,b0)=q:=⟨_,rfl⟩;have f1:=Hy s v0 b0 hs hv0;have hv1:=K3 (b:=b0) hv0;rw[e1]at f1 hv1;simp only at f1 hv1;(refine .inr (.inl ⟨_,_,false,272::([]++[]),?_,f1,Af,oI,dI,?_⟩);focus (exact wI));(refine goI ?_;repeat (intro gg;refine goI ?_));obtain⟨⟨x2,v2,b2⟩,e2⟩:∃q,G7 s (v1,b1)=q:=⟨_,rfl⟩;have f2:=Hy s v1 b1 hs hv1;have hv2:=K3 (b:=b1) hv1;rw[e2]at f2 hv2;simp only at f2 hv2;(refine .inr (.inl ⟨_,_,false,272::([]++[]),?_,f2,Af,oI,dI,?_⟩);focus (exact wI));(refine goI ?_;repeat (intro gg;refine goI ?_));obtain⟨⟨x3,v3,b3⟩,e3⟩:∃q,G7 s (v2,b2)=q:=⟨_,rfl⟩;have f3:=Hy s v2 b2 hs hv2;have hv3:=K3 (b:=b2) hv2;rw[e3]at f3 hv3;simp only at f3 hv3;(refine .inr (.inl ⟨_,_,false,272::([]++[]),?_,f3,Af,oI,dI,?_⟩);focus (exact wI));(refine goI ?_;repeat (intro gg;refine goI ?_));obtain⟨⟨x4,v4,b4⟩,e4⟩:∃q,Bl s (v3,b3)=q:=⟨_,rfl⟩;have f4:=C6 s v3 b3 hs hv3;have hv4:=Dp (b:=b3) hv3;rw[e4]at f4 hv4;simp only at f4 hv4;(refine .inr (.inl ⟨_,_,false,272::([]++[]),?_,f4,Af,oI,dI,?_⟩);focus (exact wI));(refine goI ?_;repeat (intro gg;refine goI ?_));obtain⟨⟨x5,v5,b5⟩,e5⟩:∃q,Bl s (v4,b4)=q:=⟨_,rfl⟩;have f5:=C6 s v4 b4 hs hv4;have hv5:=Dp (b:=b4) hv4;rw[e5]at f5 hv5;simp only at f5 hv5;(refine .inr (.inl ⟨_,_,false,272::([]++[]),?_,f5,Af,oI,dI,?_⟩);focus (exact wI));(refine goI ?_;repeat (intro gg;refine goI ?_));obtain⟨⟨x6,v6,b6⟩,e6⟩:∃q,Pd s (v5,b5)=q:=⟨_,rfl⟩;have f6:=Ry s v5 b5 hs hv5;have hv6:=Vk (b:=b5) hv5;rw[e6]at f6 hv6;simp only at f6 hv6;(refine .inr (.inl ⟨_,_,false,272::([]++[]),?_,f6,Af,oI,dI,?_⟩);focus (exact wI));(refine goI ?_;repeat (intro gg;refine goI ?_));obtain⟨⟨x7,v7,b7⟩,e7⟩:∃q,Bl s (v6,b6)=q:=⟨_,rfl⟩;have f7:=C6 s v6 b6 hs hv6;have hv7:=Dp (b:=b6) hv6;rw[e7]at f7 hv7;simp only at f7 hv7;(refine .inr (.inl ⟨_,_,false,272::([]++[]),?_,f7,Af,oI,dI,?_⟩);focus (exact wI));(refine goI ?_;repeat (intro gg;refine goI ?_));obtain⟨⟨x8,v8,b8⟩,e8⟩:∃q,Pd s (v7,b7)=q:=⟨_,rfl⟩;have f8:=Ry s v7 b7 hs hv7;have hv8:=Vk (b:=b7) hv7;rw[e8]at f8 hv8;simp only at f8 hv8;(refine .inr (.inl ⟨_,_,false,272::([]++[]),?_,f8,Af,oI,dI,?_⟩);focus (exact wI));(refine goI ?_;repeat (intro gg;refine goI ?_));obtain⟨m,hm⟩:∃m:Sv,m=⟨x0,x1,x2,x3,x4,x5,x6,x7,x8⟩:=⟨_,rfl⟩;have h1:cSv s (a,false)=(m,(v8,b8)):=by unfold cSv;simp only[e0,e1,e2,e3,e4,e5,e6,e7,e8,hm]
    have h2:=Pt hlt hR rfl h1;have h3:(l++[m]).length≤k+1:=by simp;omega
    have h4:(l++[m]).map Sv.row=l.map Sv.row++[m.row]:=by simp
    subst hm;rcases oms with _|gms<;>
    (rcases og with _|g
     ·obtain rfl:=ho rfl;(refine goI ?_;repeat (intro gg;refine goI ?_));refine⟨lI,lI,?_⟩;(refine goI ?_;repeat (intro gg;refine goI ?_));(exact⟨none,trivial,fun gr=>⟨⟨([]++[⟨x0,x1,x2,x3,x4,x5,x6,x7,x8⟩],(v8,b8),some gg,k+1),⟨by show k+1≤Nsv;omega,h3⟩,hv8,(fun(q:some gg=none)=>nomatch q),h2⟩,by show Nsv-(k+1)<Nsv-k;omega,tI,tI,(by exact⟨rfl,⟨rfl,⟨rfl,⟨rfl,tI⟩⟩⟩⟩),tI⟩⟩)
     ·(refine goI ?_;repeat (intro gg;refine goI ?_));refine⟨lI,lI,?_⟩;(refine goI ?_;repeat (intro gg;refine goI ?_));(exact⟨none,trivial,fun gr=>⟨⟨(l++[⟨x0,x1,x2,x3,x4,x5,x6,x7,x8⟩],(v8,b8),some gg,k+1),⟨by show k+1≤Nsv;omega,h3⟩,hv8,(fun(q:some gg=none)=>nomatch q),h2⟩,by show Nsv-(k+1)<Nsv-k;omega,tI,tI,(by exact⟨rfl,⟨rfl,⟨rfl,⟨congrArg (fun r=>(some ⟨gg,.t 50,9,r⟩:Option Ent)) h4.symm,tI⟩⟩⟩⟩),tI⟩⟩))
  ·rw[ZY (show¬(k:Int)<(Nsv:Int)from by omega)];(refine goI ?_;repeat (intro gg;refine goI ?_));obtain⟨rfl,rfl,rfl⟩:l=sv∧a=psv∧b=bsv:=by
    have:=H2 hR (.inl hlt);simpa using this
   rcases og with _|g<;>rcases oms with _|gms<;>exact⟨⟨_,ho,ha⟩,tI,tI,tI,tI⟩
 simp only[Hw,H9];obtain⟨osv,jsv,hpsv⟩:=og;obtain⟨⟨Ngs,pngs,bngs⟩,engs⟩:∃q,K9 6 s (psv,bsv)=q:=⟨_,rfl⟩;have fngs:=Sn 6 s psv bsv hs hpsv;have hpngs:=Vt (most:=6) (b:=bsv) hpsv;rw[engs]at fngs hpngs;simp only at fngs hpngs;(refine .inr (.inl ⟨_,_,false,272::([]++[]),?_,fngs,Af,oI,dI,?_⟩);focus (exact wI));(refine goI ?_;repeat (intro gg;refine goI ?_));have kgs:(Ngs:Int)≤6:=by
  have:=Sh (most:=6) (s:=s) (c:=(psv,bsv)) (by decide)
  rwa[engs]at this
 obtain⟨⟨gs,pgs,bgs⟩,egs⟩:∃q,Cz (cGw s) Ngs (pngs,bngs)=q:=⟨_,rfl⟩;have igs:(([]:List Gw)++(Cz (cGw s) (Ngs-0) (pngs,bngs)).1,(Cz (cGw s) (Ngs-0) (pngs,bngs)).2)=(gs,pgs,bgs):=by rw[List.nil_append,Nat.sub_zero,egs]
 refine⟨{og:Option Nat//(og=none→gs=[])∧pgs≤s.size},[],fun _=>[(0,.v (.string s)),(2,.ptr 32 gq 0 0),(3,.v (.int .i64 0)),(4,.ptr 272 gc 0 0),(5,.ptr 80 gp 0 0)],[],fun og=>(32,⟨gq,.b pkT,6,[[.v (.string ⟨#[]⟩),.v (.bool false),.v (.slice none 0 0),.v (.slice none 0 0),.v (.slice none 0 0),.v (.slice none 0 0)]]⟩)::(272,⟨gc,.b cuT,3,[[.v (.string s),.v (.int .i64 ((pgs:Nat):Int)),.v (.bool bgs)]]⟩)::(80,⟨gp,.b pkT,6,[[.v (.string fr),.v (.bool wo),uO 912 oms,uO 1664 osv,uO 2128 og.1,.v (.slice none 0 0)]]⟩)::hO 2128 53 3 (gs.map Gw.row) og.1++hO 912 47 5 (ms.map Mb.row) oms++hO 1664 50 9 (sv.map Sv.row) osv,?_,fun og=>?_⟩
 ·(refine goI ?_;repeat (intro gg;refine goI ?_));(refine⟨[],none,{q:List Gw×Cu×Option Nat×Nat//(q.2.2.2≤Ngs∧q.1.length≤q.2.2.2)∧q.2.1.1≤s.size∧(q.2.2.1=none→q.1=[])∧(q.1++(Cz (cGw s) (Ngs-q.2.2.2) q.2.1).1,(Cz (cGw s) (Ngs-q.2.2.2) q.2.1).2)=(gs,pgs,bgs)},[],fun⟨⟨l,⟨a,b⟩,og,k⟩,hk,ha,ho,hR⟩=>[(0,.v (.string s)),(2,.ptr 32 gq 0 0),(3,.v (.int .i64 0)),(4,.ptr 272 gc 0 0),(5,.ptr 80 gp 0 0),(6,.v (.int .i64 ((Ngs:Nat):Int))),(11,.v (.int .i64 (k:Int)))],[],fun⟨⟨l,⟨a,b⟩,og,k⟩,hk,ha,ho,hR⟩=>(32,⟨gq,.b pkT,6,[[.v (.string ⟨#[]⟩),.v (.bool false),.v (.slice none 0 0),.v (.slice none 0 0),.v (.slice none 0 0),.v (.slice none 0 0)]]⟩)::(272,⟨gc,.b cuT,3,[[.v (.string s),.v (.int .i64 ((a:Nat):Int)),.v (.bool b)]]⟩)::(80,⟨gp,.b pkT,6,[[.v (.string fr),.v (.bool wo),uO 912 oms,uO 1664 osv,uO 2128 og,.v (.slice none 0 0)]]⟩)::hO 2128 53 3 (l.map Gw.row) og++hO 912 47 5 (ms.map Mb.row) oms++hO 1664 50 9 (sv.map Sv.row) osv,fun⟨⟨l,⟨a,b⟩,og,k⟩,hk,ha,ho,hR⟩=>Ngs-k,trivial,fun _=>⟨trivial,fun _=>⟨⟨([],(pngs,bngs),none,0),⟨ZU _,ZT _⟩,hpngs,fun _=>rfl,igs⟩,tI,Ah _ _,?_,Ag _ _⟩⟩,fun⟨⟨l,⟨a,b⟩,og,k⟩,hk,ha,ho,hR⟩=>?_⟩;focus (exact(by rcases oms with _|gms<;>rcases osv with _|gsv<;>exact tI)));simp only[Hw,H9,Nj,Np];obtain⟨hk,hl⟩:k≤Ngs∧l.length≤k:=hk;have ha:a≤s.size:=ha;have ho:og=none→l=[]:=ho;have hR:(l++(Cz (cGw s) (Ngs-k) (a,b)).1,(Cz (cGw s) (Ngs-k) (a,b)).2)=(gs,pgs,bgs):=hR;(refine goI ?_;repeat (intro gg;refine goI ?_));by_cases hlt:k<Ngs
  ·rw[ZX (show(k:Int)<(Ngs:Int)from by omega)];(refine goI ?_;repeat (intro gg;refine goI ?_));cases b with
   |true=>
    (refine goI ?_;repeat (intro gg;refine goI ?_));obtain⟨rfl,rfl,rfl⟩:l=gs∧a=pgs∧true=bgs:=by
     have:=H2 hR (.inr rfl);simpa using this
    rcases og with _|g<;>rcases oms with _|gms<;>rcases osv with _|gsv<;>exact⟨⟨_,ho,ha⟩,tI,tI,tI,tI⟩
   |false=>
    (refine goI ?_;repeat (intro gg;refine goI ?_));obtain⟨⟨x0,v0,b0⟩,e0⟩:∃q,G7 s (a,false)=q:=⟨_,rfl⟩;have f0:=Hy s a false hs ha;have hv0:=K3 (b:=false) ha;rw[e0]at f0 hv0;simp only at f0 hv0;(refine .inr (.inl ⟨_,_,false,272::([]++[]),?_,f0,Af,oI,dI,?_⟩);focus (exact wI));(refine goI ?_;repeat (intro gg;refine goI ?_));obtain⟨⟨x1,v1,b1⟩,e1⟩:∃q,Bl s (v0,b0)=q:=⟨_,rfl⟩;have f1:=C6 s v0 b0 hs hv0;have hv1:=Dp (b:=b0) hv0;rw[e1]at f1 hv1;simp only at f1 hv1;(refine .inr (.inl ⟨_,_,false,272::([]++[]),?_,f1,Af,oI,dI,?_⟩);focus (exact wI));(refine goI ?_;repeat (intro gg;refine goI ?_));obtain⟨⟨x2,v2,b2⟩,e2⟩:∃q,Bl s (v1,b1)=q:=⟨_,rfl⟩;have f2:=C6 s v1 b1 hs hv1;have hv2:=Dp (b:=b1) hv1;rw[e2]at f2 hv2;simp only at f2 hv2;(refine .inr (.inl ⟨_,_,false,272::([]++[]),?_,f2,Af,oI,dI,?_⟩);focus (exact wI));(refine goI ?_;repeat (intro gg;refine goI ?_));obtain⟨m,hm⟩:∃m:Gw,m=⟨x0,x1,x2⟩:=⟨_,rfl⟩;have h1:cGw s (a,false)=(m,(v2,b2)):=by unfold cGw;simp only[e0,e1,e2,hm]
    have h2:=Pt hlt hR rfl h1;have h3:(l++[m]).length≤k+1:=by simp;omega
    have h4:(l++[m]).map Gw.row=l.map Gw.row++[m.row]:=by simp
    subst hm;rcases oms with _|gms<;>rcases osv with _|gsv<;>
    (rcases og with _|g
     ·obtain rfl:=ho rfl;(refine goI ?_;repeat (intro gg;refine goI ?_));refine⟨lI,lI,?_⟩;(refine goI ?_;repeat (intro gg;refine goI ?_));(exact⟨none,trivial,fun gr=>⟨⟨([]++[⟨x0,x1,x2⟩],(v2,b2),some gg,k+1),⟨by show k+1≤Ngs;omega,h3⟩,hv2,(fun(q:some gg=none)=>nomatch q),h2⟩,by show Ngs-(k+1)<Ngs-k;omega,tI,tI,(by exact⟨rfl,⟨rfl,⟨rfl,⟨rfl,tI⟩⟩⟩⟩),tI⟩⟩)
     ·(refine goI ?_;repeat (intro gg;refine goI ?_));refine⟨lI,lI,?_⟩;(refine goI ?_;repeat (intro gg;refine goI ?_));(exact⟨none,trivial,fun gr=>⟨⟨(l++[⟨x0,x1,x2⟩],(v2,b2),some gg,k+1),⟨by show k+1≤Ngs;omega,h3⟩,hv2,(fun(q:some gg=none)=>nomatch q),h2⟩,by show Ngs-(k+1)<Ngs-k;omega,tI,tI,(by exact⟨rfl,⟨rfl,⟨rfl,⟨congrArg (fun r=>(some ⟨gg,.t 53,3,r⟩:Option Ent)) h4.symm,tI⟩⟩⟩⟩),tI⟩⟩))
  ·rw[ZY (show¬(k:Int)<(Ngs:Int)from by omega)];(refine goI ?_;repeat (intro gg;refine goI ?_));obtain⟨rfl,rfl,rfl⟩:l=gs∧a=pgs∧b=bgs:=by
    have:=H2 hR (.inl hlt);simpa using this
   rcases og with _|g<;>rcases oms with _|gms<;>rcases osv with _|gsv<;>exact⟨⟨_,ho,ha⟩,tI,tI,tI,tI⟩
 simp only[Hw,H9];obtain⟨ogs,jgs,hpgs⟩:=og;obtain⟨⟨Nwh,pnwh,bnwh⟩,enwh⟩:∃q,K9 20 s (pgs,bgs)=q:=⟨_,rfl⟩;have fnwh:=Sn 20 s pgs bgs hs hpgs;have hpnwh:=Vt (most:=20) (b:=bgs) hpgs;rw[enwh]at fnwh hpnwh;simp only at fnwh hpnwh;(refine .inr (.inl ⟨_,_,false,272::([]++[]),?_,fnwh,Af,oI,dI,?_⟩);focus (exact wI));(refine goI ?_;repeat (intro gg;refine goI ?_));have kwh:(Nwh:Int)≤20:=by
  have:=Sh (most:=20) (s:=s) (c:=(pgs,bgs)) (by decide)
  rwa[enwh]at this
 obtain⟨⟨wh,pwh,bwh⟩,ewh⟩:∃q,Cz (cWh s) Nwh (pnwh,bnwh)=q:=⟨_,rfl⟩;have iwh:(([]:List Wh)++(Cz (cWh s) (Nwh-0) (pnwh,bnwh)).1,(Cz (cWh s) (Nwh-0) (pnwh,bnwh)).2)=(wh,pwh,bwh):=by rw[List.nil_append,Nat.sub_zero,ewh]
 refine⟨{og:Option Nat//(og=none→wh=[])∧pwh≤s.size},[],fun _=>[(0,.v (.string s)),(2,.ptr 32 gq 0 0),(3,.v (.int .i64 0)),(4,.ptr 272 gc 0 0),(5,.ptr 80 gp 0 0)],[],fun og=>(32,⟨gq,.b pkT,6,[[.v (.string ⟨#[]⟩),.v (.bool false),.v (.slice none 0 0),.v (.slice none 0 0),.v (.slice none 0 0),.v (.slice none 0 0)]]⟩)::(272,⟨gc,.b cuT,3,[[.v (.string s),.v (.int .i64 ((pwh:Nat):Int)),.v (.bool bwh)]]⟩)::(80,⟨gp,.b pkT,6,[[.v (.string fr),.v (.bool wo),uO 912 oms,uO 1664 osv,uO 2128 ogs,uO 2816 og.1]]⟩)::hO 2816 88 6 (wh.map Wh.row) og.1++hO 912 47 5 (ms.map Mb.row) oms++hO 1664 50 9 (sv.map Sv.row) osv++hO 2128 53 3 (gs.map Gw.row) ogs,?_,fun og=>?_⟩
 ·(refine goI ?_;repeat (intro gg;refine goI ?_));(refine⟨[],none,{q:List Wh×Cu×Option Nat×Nat//(q.2.2.2≤Nwh∧q.1.length≤q.2.2.2)∧q.2.1.1≤s.size∧(q.2.2.1=none→q.1=[])∧(q.1++(Cz (cWh s) (Nwh-q.2.2.2) q.2.1).1,(Cz (cWh s) (Nwh-q.2.2.2) q.2.1).2)=(wh,pwh,bwh)},[],fun⟨⟨l,⟨a,b⟩,og,k⟩,hk,ha,ho,hR⟩=>[(0,.v (.string s)),(2,.ptr 32 gq 0 0),(3,.v (.int .i64 0)),(4,.ptr 272 gc 0 0),(5,.ptr 80 gp 0 0),(6,.v (.int .i64 ((Nwh:Nat):Int))),(13,.v (.int .i64 (k:Int)))],[],fun⟨⟨l,⟨a,b⟩,og,k⟩,hk,ha,ho,hR⟩=>(32,⟨gq,.b pkT,6,[[.v (.string ⟨#[]⟩),.v (.bool false),.v (.slice none 0 0),.v (.slice none 0 0),.v (.slice none 0 0),.v (.slice none 0 0)]]⟩)::(272,⟨gc,.b cuT,3,[[.v (.string s),.v (.int .i64 ((a:Nat):Int)),.v (.bool b)]]⟩)::(80,⟨gp,.b pkT,6,[[.v (.string fr),.v (.bool wo),uO 912 oms,uO 1664 osv,uO 2128 ogs,uO 2816 og]]⟩)::hO 2816 88 6 (l.map Wh.row) og++hO 912 47 5 (ms.map Mb.row) oms++hO 1664 50 9 (sv.map Sv.row) osv++hO 2128 53 3 (gs.map Gw.row) ogs,fun⟨⟨l,⟨a,b⟩,og,k⟩,hk,ha,ho,hR⟩=>Nwh-k,trivial,fun _=>⟨trivial,fun _=>⟨⟨([],(pnwh,bnwh),none,0),⟨ZU _,ZT _⟩,hpnwh,fun _=>rfl,iwh⟩,tI,Ah _ _,?_,Ag _ _⟩⟩,fun⟨⟨l,⟨a,b⟩,og,k⟩,hk,ha,ho,hR⟩=>?_⟩;focus (exact(by rcases oms with _|gms<;>rcases osv with _|gsv<;>rcases ogs with _|ggs<;>exact tI)));simp only[Hw,H9,Nj,Np];obtain⟨hk,hl⟩:k≤Nwh∧l.length≤k:=hk;have ha:a≤s.size:=ha;have ho:og=none→l=[]:=ho;have hR:(l++(Cz (cWh s) (Nwh-k) (a,b)).1,(Cz (cWh s) (Nwh-k) (a,b)).2)=(wh,pwh,bwh):=hR;(refine goI ?_;repeat (intro gg;refine goI ?_));by_cases hlt:k<Nwh
  ·rw[ZX (show(k:Int)<(Nwh:Int)from by omega)];(refine goI ?_;repeat (intro gg;refine goI ?_));cases b with
   |true=>
    (refine goI ?_;repeat (intro gg;refine goI ?_));obtain⟨rfl,rfl,rfl⟩:l=wh∧a=pwh∧true=bwh:=by
     have:=H2 hR (.inr rfl);simpa using this
    rcases og with _|g<;>rcases oms with _|gms<;>rcases osv with _|gsv<;>rcases ogs with _|ggs<;>exact⟨⟨_,ho,ha⟩,tI,tI,tI,tI⟩
   |false=>
    (refine goI ?_;repeat (intro gg;refine goI ?_));obtain⟨⟨x0,v0,b0⟩,e0⟩:∃q,G7 s (a,false)=q:=⟨_,rfl⟩;have f0:=Hy s a false hs ha;have hv0:=K3 (b:=false) ha;rw[e0]at f0 hv0;simp only at f0 hv0;(refine .inr (.inl ⟨_,_,false,272::([]++[]),?_,f0,Af,oI,dI,?_⟩);focus (exact wI));(refine goI ?_;repeat (intro gg;refine goI ?_));obtain⟨⟨x1,v1,b1⟩,e1⟩:∃q,Bl s (v0,b0)=q:=⟨_,rfl⟩;have f1:=C6 s v0 b0 hs hv0;have hv1:=Dp (b:=b0) hv0;rw[e1]at f1 hv1;simp only at f1 hv1;(refine .inr (.inl ⟨_,_,false,272::([]++[]),?_,f1,Af,oI,dI,?_⟩);focus (exact wI));(refine goI ?_;repeat (intro gg;refine goI ?_));obtain⟨⟨x2,v2,b2⟩,e2⟩:∃q,Bl s (v1,b1)=q:=⟨_,rfl⟩;have f2:=C6 s v1 b1 hs hv1;have hv2:=Dp (b:=b1) hv1;rw[e2]at f2 hv2;simp only at f2 hv2;(refine .inr (.inl ⟨_,_,false,272::([]++[]),?_,f2,Af,oI,dI,?_⟩);focus (exact wI));(refine goI ?_;repeat (intro gg;refine goI ?_));obtain⟨⟨x3,v3,b3⟩,e3⟩:∃q,Bl s (v2,b2)=q:=⟨_,rfl⟩;have f3:=C6 s v2 b2 hs hv2;have hv3:=Dp (b:=b2) hv2;rw[e3]at f3 hv3;simp only at f3 hv3;(refine .inr (.inl ⟨_,_,false,272::([]++[]),?_,f3,Af,oI,dI,?_⟩);focus (exact wI));(refine goI ?_;repeat (intro gg;refine goI ?_));obtain⟨⟨x4,v4,b4⟩,e4⟩:∃q,Bl s (v3,b3)=q:=⟨_,rfl⟩;have f4:=C6 s v3 b3 hs hv3;have hv4:=Dp (b:=b3) hv3;rw[e4]at f4 hv4;simp only at f4 hv4;(refine .inr (.inl ⟨_,_,false,272::([]++[]),?_,f4,Af,oI,dI,?_⟩);focus (exact wI));(refine goI ?_;repeat (intro gg;refine goI ?_));obtain⟨⟨x5,v5,b5⟩,e5⟩:∃q,Bl s (v4,b4)=q:=⟨_,rfl⟩;have f5:=C6 s v4 b4 hs hv4;have hv5:=Dp (b:=b4) hv4;rw[e5]at f5 hv5;simp only at f5 hv5;(refine .inr (.inl ⟨_,_,false,272::([]++[]),?_,f5,Af,oI,dI,?_⟩);focus (exact wI));(refine goI ?_;repeat (intro gg;refine goI ?_));obtain⟨m,hm⟩:∃m:Wh,m=⟨x0,⟨x1,x2,x3,x4,x5⟩⟩:=⟨_,rfl⟩;have h1:cWh s (a,false)=(m,(v5,b5)):=by unfold cWh;simp only[e0,e1,e2,e3,e4,e5,hm]
    have h2:=Pt hlt hR rfl h1;have h3:(l++[m]).length≤k+1:=by simp;omega
    have h4:(l++[m]).map Wh.row=l.map Wh.row++[m.row]:=by simp
    subst hm;rcases oms with _|gms<;>rcases osv with _|gsv<;>rcases ogs with _|ggs<;>
    (rcases og with _|g
     ·obtain rfl:=ho rfl;(refine goI ?_;repeat (intro gg;refine goI ?_));refine⟨lI,lI,?_⟩;(refine goI ?_;repeat (intro gg;refine goI ?_));(exact⟨none,trivial,fun gr=>⟨⟨([]++[⟨x0,⟨x1,x2,x3,x4,x5⟩⟩],(v5,b5),some gg,k+1),⟨by show k+1≤Nwh;omega,h3⟩,hv5,(fun(q:some gg=none)=>nomatch q),h2⟩,by show Nwh-(k+1)<Nwh-k;omega,tI,tI,(by exact⟨rfl,⟨rfl,⟨rfl,⟨rfl,tI⟩⟩⟩⟩),tI⟩⟩)
     ·(refine goI ?_;repeat (intro gg;refine goI ?_));refine⟨lI,lI,?_⟩;(refine goI ?_;repeat (intro gg;refine goI ?_));(exact⟨none,trivial,fun gr=>⟨⟨(l++[⟨x0,⟨x1,x2,x3,x4,x5⟩⟩],(v5,b5),some gg,k+1),⟨by show k+1≤Nwh;omega,h3⟩,hv5,(fun(q:some gg=none)=>nomatch q),h2⟩,by show Nwh-(k+1)<Nwh-k;omega,tI,tI,(by exact⟨rfl,⟨rfl,⟨rfl,⟨congrArg (fun r=>(some ⟨gg,.t 88,6,r⟩:Option Ent)) h4.symm,tI⟩⟩⟩⟩),tI⟩⟩))
  ·rw[ZY (show¬(k:Int)<(Nwh:Int)from by omega)];(refine goI ?_;repeat (intro gg;refine goI ?_));obtain⟨rfl,rfl,rfl⟩:l=wh∧a=pwh∧b=bwh:=by
    have:=H2 hR (.inl hlt);simpa using this
   rcases og with _|g<;>rcases oms with _|gms<;>rcases osv with _|gsv<;>rcases ogs with _|ggs<;>exact⟨⟨_,ho,ha⟩,tI,tI,tI,tI⟩
 simp only[Hw,H9];obtain⟨owh,jwh,hpwh⟩:=og;have hC:cPk s (0,false)=((⟨fr,wo,ms,sv,gs,wh⟩:Pk),(pwh,bwh)):=by
  unfold cPk Xi;simp only[efr,ewo,enms,ems,ensv,esv,engs,egs,enwh,ewh]
 have hok:=Apk hs;have hR:Zo s=if bwh=true∨pwh≠s.size∨Pk.err ⟨fr,wo,ms,sv,gs,wh⟩≠0 then(pk0,1)else(⟨fr,wo,ms,sv,gs,wh⟩,0):=by
  unfold Zo Aba;rw[hC]
 rw[hC]at hok;rw[hF]at hR;have hK:=Aau _ hok;(refine goI ?_;repeat (intro gg;refine goI ?_));cases bwh with
 |true=>
  rw[if_pos (.inl rfl)]at hR;subst hR;(refine goI ?_;repeat (intro gg;refine goI ?_));exact Uw (.cell1 rfl rfl rfl rfl rfl rfl (.tmp1 rfl .nil)) cBI (Cw rfl)
 |false=>
  (refine goI ?_;repeat (intro gg;refine goI ?_));by_cases hp:pwh=s.size
  ·rw[show((pwh:Int) !=(s.size:Int))=false by rw[hp];exact bne_self_eq_false _];by_cases he:Pk.err ⟨fr,wo,ms,sv,gs,wh⟩=0
   ·rw[if_neg (fun h=>h.elim (fun h=>nomatch h) fun h=>h.elim (fun h=>h hp) fun h=>h he)]at hR;rw[he]at hK;subst hR;rcases oms with _|goms<;>rcases osv with _|gosv<;>rcases ogs with _|gogs<;>rcases owh with _|gowh<;>
    (first|(obtain rfl:=jms rfl)|skip
     first|(obtain rfl:=jsv rfl)|skip
     first|(obtain rfl:=jgs rfl)|skip
     first|(obtain rfl:=jwh rfl)|skip
     (refine goI ?_;repeat (intro gg;refine goI ?_));refine .inl ⟨_,_,true,[],.bora (by repeat' (first|exact Bt.nil|refine Bt.nilsl _ ?_|refine Jt rfl rfl B5 (by decide) ?_|refine Bt.same (Cw rfl) ?_)) (.nil _),hK,(fun _=>fI),nI,?_⟩;(refine goI ?_;repeat (intro gg;refine goI ?_));exact Uw (.cell1 rfl rfl rfl rfl rfl rfl (.tmp1 rfl .nil)) (by repeat' (first|exact Bt.nil|refine Bt.nilsl _ ?_|refine Jt rfl rfl B5 (by decide) ?_|refine Bt.same (Cw rfl) ?_)) (Cw rfl))
   ·rw[if_pos (.inr (.inr he))]at hR;subst hR;have he':(Pk.err ⟨fr,wo,ms,sv,gs,wh⟩ !=0)=true:=ZZ.2 he;obtain⟨e,hE⟩:∃e,Pk.err ⟨fr,wo,ms,sv,gs,wh⟩=e:=⟨_,rfl⟩;rw[hE]at hK he';rcases oms with _|goms<;>rcases osv with _|gosv<;>rcases ogs with _|gogs<;>rcases owh with _|gowh<;>
    (first|(obtain rfl:=jms rfl)|skip
     first|(obtain rfl:=jsv rfl)|skip
     first|(obtain rfl:=jgs rfl)|skip
     first|(obtain rfl:=jwh rfl)|skip
     (refine goI ?_;repeat (intro gg;refine goI ?_));refine .inl ⟨_,_,true,[],.bora (by repeat' (first|exact Bt.nil|refine Bt.nilsl _ ?_|refine Jt rfl rfl B5 (by decide) ?_|refine Bt.same (Cw rfl) ?_)) (.nil _),hK,(fun _=>fI),nI,?_⟩;(refine goI ?_;repeat (intro gg;refine goI ?_));rw[he'];(refine goI ?_;repeat (intro gg;refine goI ?_));exact Uw (.cell1 rfl rfl rfl rfl rfl rfl (.tmp1 rfl .nil)) (by repeat' (first|exact Bt.nil|refine Bt.nilsl _ ?_|refine Jt rfl rfl B5 (by decide) ?_|refine Bt.same (Cw rfl) ?_)) (Cw rfl))
  ·rw[if_pos (.inr (.inl hp))]at hR;subst hR;rw[show((pwh:Int) !=(s.size:Int))=true from ZZ.2 (fun h=>hp (by omega))];(refine goI ?_;repeat (intro gg;refine goI ?_));exact Uw (.cell1 rfl rfl rfl rfl rfl rfl (.tmp1 rfl .nil)) cBI (Cw rfl)
section
open Go.ChangeShapes Go.WideShapes Go.ChangeAt

end
theorem Ajv{H:Type}(d:DataW H):1≤Rows.uptoBulk d:=by
 cases d with
 |lit l=>cases l<;>simp[Rows.uptoBulk]
 |_=>simp[Rows.uptoBulk]
theorem Xk{H:Type}:∀(ds:List (DataW H)) (d:DataW H),d∈ds→Rows.uptoBulk d≤Rows.uptoBulkAll ds
 |[],d,h=>by simp at h
 |e::ds,d,h=>by
  simp only[Rows.uptoBulkAll];rcases XC.1 h with rfl|h
  ·omega
  ·have:=Xk ds d h;omega
theorem Ae4{H:Type}:∀(ds:List (DataW H)),ds.length≤Rows.uptoBulkAll ds
 |[]=>by simp
 |e::ds=>by
  simp only[Rows.uptoBulkAll,ZJ];have:=Ae4 ds;have:=Ajv e;omega
theorem Aif{H:Type}:Apf (Rows.uptoBulk (H:=H)):=by
 refine⟨fun l=>by simp[Rows.uptoBulk],fun ds d hd=>?_,fun es sp=>⟨?_,fun d hd=>?_⟩⟩
 ·have:=Xk ds d hd;simp only[Rows.uptoBulk];omega
 ·have:=Ae4 es;simp only[Rows.uptoBulk];omega
 ·have:=Xk es d hd;simp only[Rows.uptoBulk];omega
theorem Abq: "*" ++ "errors.errorString" = "*errors.errorString" := rfl
theorem Ah7 (u : TypeId) (h : Tryz.prog.typeName? 3 u = some "*errors.errorString") : u = 294 :=
 typeName_ptr_named (P := Tryz.prog) (nm := "errors.errorString") (by rw [Abq]; kernel_rfl) (by kernel_rfl) (by decide) u (by rw [Abq]; exact h)
abbrev Ade(W:World):Glob:=⟨fun b=>if b=1∨b=2∨b=3 then W.heap[b]? else none⟩
theorem Ale(W:World): @Cc (Ade W) W (fun _=>False):=by
 intro b o h;have h:(if b=1∨b=2∨b=3 then W.heap[b]? else none)=some o:=h;refine⟨?_,id⟩;split at h
 ·exact h
 ·cases h
theorem Aes{W w:World}{L:Nat→Prop}(hg: @Cc (Ade W) w L){n:String}{g:Nat}{cs:Array Value}(hn:Tryz.prog.globalNamed n=some g)(hb:g=1∨g=2∨g=3)(h:W.var? Tryz.prog n=some cs):w.var? Tryz.prog n=some cs:=by
 unfold World.var? at h ⊢;rw[hn]at h ⊢;simp only[ZA]at h ⊢;cases ho:W.heap[g]? with
 |none=>rw[ho]at h;cases h
 |some o=>
  rw[ho]at h;rw[(hg g o (show(if g=1∨g=2∨g=3 then W.heap[g]? else none)=some o by rw[if_pos hb];exact ho)).1];exact h
theorem Aq9 {W : World} (h : laidMet Tryz.prog [("math/bits.deBruijn32tab", Rows.laid_math_bits_deBruijn32tab), ("math/bits.deBruijn64tab", Rows.laid_math_bits_deBruijn64tab), ("internal/strconv.uint64pow10", Rows.laid_internal_strconv_uint64pow10), ("strconv.ErrRange", Rows.laid_strconv_ErrRange), ("strconv.ErrSyntax", Rows.laid_strconv_ErrSyntax)] W) : @Tabs (Ade W) := by
 have h3:=h.tail.tail;have e:(Rows.laid_internal_strconv_uint64pow10:DataW Unit)=Lib.tabData .u64 Lib.pow10Tab:=by kernel_rfl
 have h4:=h3.tail;have h5:=h4.tail;rw[e]at h3;have hp:=Lib.tabIs_of_head (g:=3) (t:=297) (e:=246) (n:=20) (by kernel_rfl) (by kernel_rfl) (by kernel_rfl) (by kernel_rfl) (by kernel_rfl) (by kernel_rfl) h3;obtain⟨a0,s0,v0,_⟩:=laid_sentinel h4 (g:=2) (ti:=180) (by kernel_rfl) (by kernel_rfl) Tryz.underlying180 Ah7 Tryz.underlying294 Tryz.underlying296 rfl rfl Tryz.underlying9 (by kernel_rfl) (by kernel_rfl);obtain⟨a1,s1,v1,_⟩:=laid_sentinel h5 (g:=1) (ti:=180) (by kernel_rfl) (by kernel_rfl) Tryz.underlying180 Ah7 Tryz.underlying294 Tryz.underlying296 rfl rfl Tryz.underlying9 (by kernel_rfl) (by kernel_rfl);refine @Tabs.mk (Ade W) (fun w L hg=>Aes hg (g:=3) (by kernel_rfl) (.inr (.inr rfl)) hp) (fun w L hg=>?_) (fun w L hg=>?_)
 ·exact⟨_,World.var?_cell (g:=1) (by kernel_rfl) (Aes hg (g:=1) (by kernel_rfl) (.inl rfl) v1) 0,.inr ⟨_,_,rfl⟩⟩
 ·exact⟨_,World.var?_cell (g:=2) (by kernel_rfl) (Aes hg (g:=2) (by kernel_rfl) (.inr (.inl rfl)) v0) 0,.inr ⟨_,_,rfl⟩⟩
end Go.Proofs.YtchbkgnobpejnaaGreatDoor
