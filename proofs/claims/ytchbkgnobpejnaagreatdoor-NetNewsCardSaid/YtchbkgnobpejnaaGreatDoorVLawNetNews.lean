/- NetNews: whatever nodes come in, New answers what the document says; no condition. -/
import Derived.Lay
import Derived.MakeChecks
import Derived.Test.YtchbkgnobpejnaaGreatDoorCards
import Derived.Test.YtchbkgnobpejnaaGreatDoorTie
import Derived.Deep.DeepHandedRow
import Derived.Deep.DeepWitnessRowRef
import Derived.Lib.LaidU8
import Derived.Lib.LaidIn
import Derived.Test.YtchbkgnobpejnaaGreatDoorVa
import Derived.Test.YtchbkgnobpejnaaGreatDoorVb
import Derived.Test.YtchbkgnobpejnaaGreatDoorVc
import Derived.Test.YtchbkgnobpejnaaGreatDoorVd
import Derived.Test.YtchbkgnobpejnaaGreatDoorVe
set_option linter.unusedSimpArgs false
set_option linter.unusedVariables false
namespace Go.Proofs.YtchbkgnobpejnaaGreatDoor.netNews
open Go.Joins Go.ChangeShapes Go.WideShapes Go.ChangeAt Go.RowKit Pl
section
theorem law[Glob][Tabs](ns:List Nd)(hl:ns.length≤1000000000000000)(h:∀x∈ns,x.ok):Fun Tryz.prog 4 [.c (.sl false (ns.map Nd.row))] [.c (.v (.bool true))]:=by
 have ok:Nt.ok ⟨ns,[]⟩:=⟨hl,h,ZU _,(fun x hx=>nomatch hx)⟩;have hN:=Xi ns hl h;have hC:=Af3 (u:=.agg [.sl false (ns.map Nd.row),.sl false []]) (u':=.agg [.sl false (ns.map Nd.row),.v (.slice none 0 0)]) (Yx ⟨ns,[]⟩ ok (fun x hx=>nomatch hx)) fun w R x h=>Aeu h;have hsh:Nt.sh (newNt ns):=by
  unfold newNt;split
  ·exact⟨ZU _,(fun x hx=>nomatch hx),ZU _⟩
  ·exact Ap9 ok
 have hI:=Af8 (newNt ns) ⟨ns,[]⟩ (⟨ns,[]⟩:Nt).err hsh (fun e=>(if_neg (fun q=>q e)).symm) (fun e=>if_pos e);generalize (⟨ns,[]⟩:Nt).err=E at hN hC hI;refine A9 Mt rfl ?_;(refine goI ?_;repeat (intro gg;refine goI ?_));refine .inl ⟨_,_,false,[],.same Ic (.nil _),hN,Am,nI,?_⟩;(refine goI ?_;repeat (intro gg;refine goI ?_));refine .inl (cX Aip ?_);(refine goI ?_;repeat (intro gg;refine goI ?_));(refine⟨_,_,false,.same (Lr (fun u hu=>by simp only[XC,XD,or_false]at hu;rcases hu with rfl|rfl;exact Ic;exact(Af9 _).cl)) (.nil _),hC,Am,nI,?_⟩);(refine goI ?_;repeat (intro gg;refine goI ?_));refine .inl ⟨_,_,true,[],.same (Sc (n:=newNt ns)) (.same (Ez rfl) (.same (Ez rfl) (.bora (.same Ic (.nilsl _ .nil)) (.nil _)))),hI,(fun _=>fI),nI,?_⟩;(refine goI ?_;repeat (intro gg;refine goI ?_));(exact⟨[],aI⟩)
end
theorem Anu{a b:Bool}(h1:a=true)(h2:b=true):(a&&b)=true:=by rw[h1,h2];rfl
theorem own:ownKnob Tryz.prog.godebug=none:=by kernel_rfl
noncomputable def N4(os:Os):World:=World.laidAll Tryz.prog os Rows.netNewsRow.laid
set_option maxRecDepth 100000 in
theorem Ait(os:Os)(args:Array Value):laidMet Tryz.prog Rows.netNewsRow.laid ((N4 os).forCall (fun _ _=>0) ⟨#[],args,[]⟩).memory:=
 laidMet_laidAll args (by kernel_rfl) (by kernel_rfl)
set_option maxRecDepth 100000 in
theorem Z6(os:Os){H:Type}(enc:TypeId×Value→H):
  (OpenSpec.ofChange Rows.netNewsSpec).preRow enc Tryz.prog Tryz.f4 Rows.netNewsRow.domain false Rows.netNewsRow.laid ((N4 os).forCall (fun _ _=>0) ⟨#[], #[.slice none 0 0],[]⟩).memory #[.slice none 0 0]:=by
 have hw:(DataW.whole enc Tryz.prog ((N4 os).forCall (fun _ _=>0) ⟨#[], #[.slice none 0 0],[]⟩).memory Tryz.f4.params.toList Rows.netNewsSpec.vars false (#[.slice none 0 0]:Array Value).toList 8).map (fun x=>(x.1,x.2.1))=
   some ([.nil],[]):=by kernel_rfl
 obtain⟨⟨x1,x2,x3⟩,hx,hx1⟩:=Option.map_eq_some_iff.1 hw;simp only[Prod.mk.injEq]at hx1;obtain⟨rfl,rfl⟩:=hx1;exact OpenSpec.preRow_of_cond 8 hx (by kernel_rfl) (fun k hk=>by cases hk) (by kernel_rfl) (Ait os _)
set_option maxRecDepth 100000 in
theorem Anp(os:Os)(started:os.Started)(H:Type)(enc:TypeId×Value→H)(F:Stop.Interp):
  ReturnsInHanded {} Tryz.checked os 4 .any ((OpenSpec.ofChange Rows.netNewsSpec).preRow enc Tryz.prog Tryz.f4 Rows.netNewsRow.domain false Rows.netNewsRow.laid) (((OpenSpec.ofChange Rows.netNewsSpec).at F).post enc Tryz.prog Tryz.f4 false true false false):=by
 refine returnsInHanded_of_row (C:=Tryz.checked) (s:=(OpenSpec.ofChange Rows.netNewsSpec)) own started (by kernel_rfl) Tryz.func4
  (witness_row_atRef (enc:=enc) (C:=Tryz.checked) false (N4 os) #[.slice none 0 0] (World.laidAll_os _ _ _) (by kernel_rfl) (by kernel_rfl) (by kernel_rfl) (Z6 os enc)) ?_
 intro W base args ds gs before hval0 hW _ hcond hsz hL _ _;have hval:∀(j:Nat) t v,Tryz.f4.params[j]? =some t→args[j]? =some v→Value.okWide Tryz.prog W .any base t v:=hval0;have hW':=hW;obtain⟨p,q,hA0,hV,rfl,hfz,hnd⟩:=hW;have hA:DataW.TrodAll enc Tryz.prog W 0 (fun _=>true) true Tryz.f4.params.toList args.toList ds p:=hA0;rw[Tryz.params4]at hA hval;obtain⟨v0,vs0,d0,ds0,p0,q0,hargs,rfl,rfl,h0,r0⟩:=trodAll_cons hA;obtain⟨rfl,rfl,rfl⟩:=trodAll_nil r0;obtain rfl:args= #[v0]:=by cases args;simp_all
 obtain⟨rfl,rfl⟩:=trodVars_none hV;obtain⟨u0,f0,rv0⟩:=Agn (dp:=6) Tryz.underlying22 (by kernel_rfl) (hval 0 22 v0 rfl rfl) h0;obtain⟨l0,rfl,ln0,lw0⟩:=K7 Amo f0;have z0:=Alr Tryz.underlying22 h0 rv0 (j:=0) hsz (by rw[Tryz.params4];rfl) rfl;rw[show Tryz.prog.bytesOf 44=192 by kernel_rfl,ZE]at z0;clear hA0 hval0;rw[Go.MakeChecks.laidMetH_plain _ _ _ (by kernel_rfl)]at hL
 letI:Glob:=Aba W
 haveI:Tabs:=Amr hL
 refine(Ard (us:=[_]) (xs:=[_]) (w:=W) (law l0 (by omega) lw0) ⟨rv0,trivial⟩ (Aid W)).mono fun e W' ⟨he,hg⟩=>?_;subst he;exact⟨_,rfl,Aj9 hW' (by kernel_rfl) (by rw[Tryz.params4];exact ZV (by kernel_rfl)) rfl rfl (by kernel_rfl) Tryz.underlying4 hg⟩
set_option maxHeartbeats 100000000 in
theorem closed:joinedFacts Tryz.pinned.checked.prog 4 Tryz.f4 (OpenSpec.ofChange Rows.netNewsSpec).bare Rows.netNewsRow=true:=by
 unfold joinedFacts;repeat' (with_reducible refine Anu ?_ ?_)
 all_goals (as_aux_lemma=>kernel_rfl)
theorem Arq:Rows.NetNewsSaid:=
 OpenClaim.holds_of_cond 4 Tryz.f4 rfl rfl rfl rfl rfl rfl rfl ⟨rfl,rfl,rfl,rfl,rfl⟩ rfl rfl rfl rfl rfl (by kernel_rfl) Tryz.func4 closed
  (ZV (by kernel_rfl)) (by unfold Func.isWrapper;first|(rw[if_pos (by decide+kernel)];kernel_rfl)|(rw[if_neg (by decide+kernel)];exact⟨rfl,rfl⟩))
  (fun os started H enc _ F=>by rw[OpenClaim.pre_eq_preRow];exact Anp os started H enc F)
theorem plain (f : FuncId) (fn : Func) (hf : Tryz.pinned.checked.prog.funcNamed "hearsay/hearsaylaw.NetNews" = some f) (hfn : Tryz.pinned.checked.prog.funcs[f]? = some fn) :
  true=Tryz.pinned.checked.prog.looks []∧∀(j:Nat) t,fn.params[j]? =some t→Tryz.pinned.checked.prog.wantsStandIn t=false:=by
 obtain rfl : f = 4 := Option.some.inj ((show Tryz.prog.funcNamed "hearsay/hearsaylaw.NetNews" = some 4 by kernel_rfl).symm.trans hf) |>.symm
 obtain rfl:fn=Tryz.f4:=(Option.some.inj (Tryz.func4.symm.trans hfn)).symm;refine⟨by kernel_rfl,fun j t ht=>?_⟩;rw[Tryz.params4]at ht;have hm:t=22:=by simpa using Array.mem_of_getElem? ht
 rcases hm with rfl
 ·exact(show Tryz.prog.wantsStandIn 22=false by kernel_rfl)
theorem proved:Rows.NetNewsCardSaid:=
 Claim7.holds_tied_plain_at .later [] _ _ _ _ Arq (fun _ h=>by cases h) (by kernel_rfl) (fun _ h=>by cases h) netNews_row_tie rfl ⟨rfl,rfl⟩ (by kernel_rfl) rfl plain (by kernel_rfl)
#print axioms proved
end Go.Proofs.YtchbkgnobpejnaaGreatDoor.netNews
