/- The framework: part of this claim. -/
import Derived.Test.YtchbkgnobpejnaaGreatDoorYAbsD
import Derived.LoopN
import Derived.Scope
set_option linter.unusedSimpArgs false
set_option linter.unusedVariables false
namespace Go.Proofs.YtchbkgnobpejnaaGreatDoor
open Go.RowKit
section
variable [Off]
inductive Ex where
 |normal
 |exit (id:Nat)
 |ret
inductive Ae where
 |skip
 |reg (ops:List Aa)
 |dreg (segs:List (List Aa))
 |seq (a b:Ae)
 |cond (c:Operand) (a b:Ae)
 |block (id:Nat) (a:Ae)
 |loop (a:Ae)
 |exit (id:Nat)
 |ret
 |stage (a:Ae)
 |unr (n:Nat) (a:Ae)
def Ao(P:Program)(n:Nat):Code→Option Ae
 |.skip=>some .skip
 |.label _=>some .skip
 |.region _ ops draw=>match ops.toList.mapM (Bh P ops n)with
  |none=>none
  |some rs=>if draw then(if P.follows .mixedOrders&&Aqm ops rs (Agf ops rs)then some (.dreg (Agf ops rs))else none)else some (.reg rs)
 |.seq a b=>match Ao P n a,Ao P n b with
  |some x,some y=>some (.seq x y)
  |_,_=>none
 |.cond c a b=>match Ao P n a,Ao P n b with
  |some x,some y=>some (.cond c x y)
  |_,_=>none
 |.block id a=>match Ao P n a with
  |some x=>some (.block id x)
  |none=>none
 |.loop a=>match Ao P n a with
  |some x=>some (.loop x)
  |none=>none
 |.scope a=>Ao P n a
 |.exit id=>some (.exit id)
 |.ret=>some .ret
 |_=>none
end
theorem Tu(ms:List Nat):∀(rs:List Aa) (i:Nat) (cur:List Aa),(G3 ms i cur rs).flatten=cur.reverse++rs
 |[],i,cur=>by
  unfold G3;cases cur with
  |nil=>rfl
  |cons a cur=>simp
 |r::rs,i,cur=>by
  unfold G3;split
  ·rw[List.flatten_cons,Tu ms rs (i+1) [r]];simp
  ·rw[Tu ms rs (i+1) (r::cur)];simp
theorem Tt(ms:List Nat):∀(rs:List Aa) (i:Nat) (cur:List Aa),∀seg∈G3 ms i cur rs,seg≠[]
 |[],i,cur=>by
  unfold G3;cases cur with
  |nil=>simp
  |cons a cur=>simp
 |r::rs,i,cur=>by
  unfold G3;split
  ·rename_i h;intro seg hm;rcases XC.1 hm with q|q
   ·subst q;intro e;cases cur with
    |nil=>simp at h
    |cons a cur=>simp at e
   ·exact Tt ms rs (i+1) [r] seg q
  ·exact Tt ms rs (i+1) (r::cur)
theorem Adb(ms:List Nat)(s m:Nat):∀(l:List Aa) (i:Nat),∀q∈K7 ms s m i l,Jx q.op=false
 |[],_,q,hq=>by simp[K7]at hq
 |r::rs,i,q,hq=>by
  have ih:=Adb ms s m rs (i+1);unfold K7 at hq;split at hq
  ·exact ih q hq
  ·rcases XC.1 hq with e|e
   ·rw[e];rfl
   ·exact ih q e
theorem Aep(ms:List Nat)(s m:Nat)(l:List Aa)(i:Nat):Fw (K7 ms s m i l)=none:=by
 have h:=Adb ms s m l i;generalize K7 ms s m i l=fl at h
 match fl with
 |[]=>rfl
 |r::_=>simp[Fw,h r (by simp)]
theorem Tl{α:Type}:∀{l:List α} {a:α},l.getLast? =some a→l.dropLast++[a]=l
 |[],a,h=>by simp at h
 |[x],a,h=>by simp at h;rw[h];rfl
 |x::y::l,a,h=>by
  have:(y::l).getLast? =some a:=by simpa[List.getLast?_cons_cons]using h
  have ih:=Tl this;rw[List.dropLast_cons_cons,List.cons_append,ih]
theorem Z4(ms:List Nat):∀(l:List (List Aa)) (s:Nat),(∀seg∈l,seg≠[])→Ez (O0 ms s l)=l.flatten
 |[],s,_=>rfl
 |seg::ss,s,h=>by
  have ih:=Z4 ms ss (s+seg.length) (fun x hx=>h x (ZL _ hx));have plain:Ez (seg::O0 ms (s+seg.length) ss)=(seg::ss).flatten:=by
   cases seg with
   |nil=>exact absurd rfl (h [] XB)
   |cons r rs=>cases rs<;>simp only[Ez,List.flatten_cons,ih]
  unfold O0;split
  ·have e:Fw [⟨none,none,.mkm⟩,⟨none,none,.mkm⟩]=none:=rfl;simp only[Ez,e,List.flatten_cons,ih]
  split
  ·have e:Fw [⟨none,none,.mkm⟩]=none:=rfl;simp only[Ez,e,List.flatten_cons,ih]
  split
  ·simp only[Ez,Aep,List.flatten_cons,ih]
  ·split
   ·rename_i r hr;split
    ·rename_i hc;simp only[ZO]at hc;have hlt:Jx r.op=true:=by have:=hc.1.2;unfold Aom at this;simp only[ZO]at this;exact this.1.1
     have e:Fw [r]=some r:=by simp[Fw,hlt]
     simp only[Ez,e,List.flatten_cons,ih];rw[←ZS,Tl hr]
    ·split
     ·rename_i hc;simp only[ZO]at hc;have hlt:Jx r.op=true:=by have:=hc.2;unfold Alt at this;simp only[ZO]at this;exact this.1.1
      have e:Fw (r::Ap6 ms s r seg.dropLast)=some r:=by simp[Fw,hlt]
      simp only[Ez,e,List.flatten_cons,ih];rw[←ZS,Tl hr]
     ·exact plain
   ·exact plain
theorem Aig(ops:Array Oper)(rs:List Aa):Ez (Agf ops rs)=rs:=by
 unfold Agf Al2;rw[Z4 _ _ _ (Tt _ _ _ _),Tu];rfl
section
variable [Off]
def Aou[Glob](st st':St):Prop:=∀c a w,Rel c st a w→Rel c st' a w
def Un(Q:Ex→St→Prop)(K:St→Prop):Ex→St→Prop
 |.normal,st=>K st
 |e,st=>Q e st
def Adj(id:Nat)(Q:Ex→St→Prop):Ex→St→Prop
 |.exit j,st=>if j=id then Q .normal st else Q (.exit j) st
 |e,st=>Q e st
def Anl(step:(St→Prop)→St→Prop):Nat→St→Prop
 |0,_=>False
 |n+1,st=>step (Anl step n) st
def wpv[Glob](P:Program):Ae→(Ex→St→Prop)→St→Prop
 |.skip,Q,st=>Q .normal st
 |.reg ops,Q,st=>wpR P ops st (Q .normal)
 |.dreg segs,Q,st=>wpS P segs st (Q .normal)
 |.seq a b,Q,st=>wpv P a (Un Q fun st'=>wpv P b Q st') st
 |.cond c a b,Q,st=>match val st.env c with
  |.v (.bool t)=>(t=true→wpv P a Q st)∧(t=false→wpv P b Q st)
  |_=>False
 |.block id a,Q,st=>wpv P a (Adj id Q) st
 |.loop a,Q,st=>∃(X:Type) (hd:X→St) (μ:X→Nat),(∀c a w,Rel c st a w→∃x,Rel c (hd x) a w)∧∀x,wpv P a (Un Q fun st'=>∀c a w,Rel c st' a w→∃x',μ x'<μ x∧Rel c (hd x') a w) (hd x)
 |.exit id,Q,st=>Q (.exit id) st
 |.ret,Q,st=>Q .ret st
 |.stage a,Q,st=>∃(X:Type) (hd:X→St),wpv P a (Un Q fun st'=>∀c a w,Rel c st' a w→∃x,Rel c (hd x) a w) st∧∀x,Q .normal (hd x)
 |.unr n a,Q,st=>Anl (fun K st'=>wpv P a (Un Q K) st') n st
def So[Glob](c:Ctx)(Q:Ex→St→Prop):Exit→Act→World→Prop
 |.normal,a,w=>∃st,Q .normal st∧Rel c st a w
 |.exit id,a,w=>∃st,Q (.exit id) st∧Rel c st a w
 |.ret,a,w=>∃st,Q .ret st∧Rel c st a w
 |.panic ch,a,w=>∃v,ch=[{v:=v,recovered:=false}]∧c.D v∧Fr c.L c.w0 w∧a.defers=[]
 |_,_,_=>False
end
theorem Yk[Glob](c:Ctx)(Q:Ex→St→Prop):Og c (So c Q):=fun v a w h1 h2 h3=>⟨v,rfl,h1,h2,h3⟩
section
variable [Off]
theorem Bs[Glob]{P:Program}{c:Ctx}{n:Nat}(hn:c.n=n):∀(code:Code) {rc:Ae} {Q:Ex→St→Prop} {st:St} {a:Act} {w:World},Ao P n code=some rc→wpv P rc Q st→Rel c st a w→code.wp P (So c Q) a w
 |.skip,rc,Q,st,a,w,hr,h,hR=>by
  simp only[Ao,ZD]at hr;subst hr;exact wp_skip ⟨st,h,hR⟩
 |.label l,rc,Q,st,a,w,hr,h,hR=>by
  simp only[Ao,ZD]at hr;subst hr;exact wp_label ⟨st,h,hR⟩
 |.region id ops draw,rc,Q,st,a,w,hr,h,hR=>by
  simp only[Ao]at hr;split at hr
  ·cases hr
  ·rename_i rs hmap;cases draw with
   |true=>
    simp only[if_true]at hr;split at hr
    ·rename_i hc;simp only[ZO]at hc;simp only[ZD]at hr;subst hr;exact Aej hn (Yk c Q) hc.1 hc.2 (Aig _ _) hmap h hR fun st' a' w' hk hr'=>⟨st',hk,hr'⟩
    ·cases hr
   |false=>
    simp only[Bool.false_eq_true,if_false,ZD]at hr;subst hr;exact wp_region_list (Tj hn (Yk c Q) ops.toList rs hmap h hR fun st' a' w' hk hr'=>⟨st',hk,hr'⟩)
 |.seq x y,rc,Q,st,a,w,hr,h,hR=>by
  simp only[Ao]at hr;split at hr
  ·rename_i rx ry hx hy;simp only[ZD]at hr;subst hr;refine wp_seq (wp_mono (Bs hn x hx h hR) fun e a w he=>?_);cases e with
   |normal=>obtain⟨st',h1,h2⟩:=he;exact Bs hn y hy h1 h2
   |exit id=>exact he
   |ret=>exact he
   |goto l=>exact he
   |panic ch=>exact he
   |outgrown=>exact he
  ·cases hr
 |.cond cd x y,rc,Q,st,a,w,hr,h,hR=>by
  simp only[Ao]at hr;split at hr
  ·rename_i rx ry hx hy;simp only[ZD]at hr;subst hr;simp only[wpv]at h;split at h
   ·rename_i t ht;obtain⟨R,G,hRR⟩:=hR;have hv:a.eval cd=.bool t:=Cd (ht▸hRR.val cd);exact wp_cond_split hv (fun e=>Bs hn x hx (h.1 e) ⟨R,G,hRR⟩) (fun e=>Bs hn y hy (h.2 e) ⟨R,G,hRR⟩)
   ·exact h.elim
  ·cases hr
 |.block id x,rc,Q,st,a,w,hr,h,hR=>by
  simp only[Ao]at hr;split at hr
  ·rename_i rx hx;simp only[ZD]at hr;subst hr;refine wp_block (wp_mono (Bs hn x hx h hR) fun e a w he=>?_);cases e with
   |normal=>exact he
   |exit j=>
    obtain⟨st',h1,h2⟩:=he;simp only[Adj]at h1;simp only[Exit.inBlock];split
    ·rename_i hj;rw[if_pos hj]at h1;exact⟨st',h1,h2⟩
    ·rename_i hj;rw[if_neg hj]at h1;exact⟨st',h1,h2⟩
   |ret=>exact he
   |goto l=>exact he
   |panic ch=>exact he
   |outgrown=>exact he
  ·cases hr
 |.loop cd,rc,Q,st,a,w,hr,h,hR=>by
  simp only[Ao]at hr;split at hr
  ·rename_i rx hx;simp only[ZD]at hr;subst hr;simp only[wpv]at h;obtain⟨X,hd,μ,h0,hround⟩:=h;obtain⟨x0,h0⟩:=h0 c a w hR;have key:∀(m:Nat) (y:X) (a:Act) (w:World),μ y<m→Rel c (hd y) a w→Code.rounds P cd (So c Q) m a w:=by
    intro m
    induction m with
    |zero=>intro y a w hm;omega
    |succ m ih=>
     intro y a w hm hR;rw[rounds_succ];refine wp_mono (Bs hn cd hx (hround y) hR) fun e a w he=>?_;cases e with
     |normal=>
      obtain⟨st',h12,h3⟩:=he;obtain⟨y',h1,h2⟩:=h12 c a w h3;exact ih y' a w (by omega) h2
     |exit id=>exact he
     |ret=>exact he
     |goto l=>exact he
     |panic ch=>exact he
     |outgrown=>exact he
   exact wp_loop_rounds _ (key (μ x0+1) x0 a w (by omega) h0)
  ·cases hr
 |.scope x,rc,Q,st,a,w,hr,h,hR=>by
  simp only[Ao]at hr;refine wp_scope_straight (wp_mono (Bs hn x hr h hR) fun e a w he=>?_);cases e<;>first|exact he|exact he.elim
 |.exit id,rc,Q,st,a,w,hr,h,hR=>by
  simp only[Ao,ZD]at hr;subst hr;exact wp_exit ⟨st,h,hR⟩
 |.ret,rc,Q,st,a,w,hr,h,hR=>by
  simp only[Ao,ZD]at hr;subst hr;exact wp_ret ⟨st,h,hR⟩
 |.goto l,rc,Q,st,a,w,hr,h,hR=>by simp[Ao]at hr
 |.rangeFunc f ps as b,rc,Q,st,a,w,hr,h,hR=>by simp[Ao]at hr
 |.refuse y,rc,Q,st,a,w,hr,h,hR=>by simp[Ao]at hr
def Cv:Ae→Ae
 |.stage a=>Cv a
 |.unr _ a=>.loop (Cv a)
 |.seq a b=>.seq (Cv a) (Cv b)
 |.cond c a b=>.cond c (Cv a) (Cv b)
 |.block i a=>.block i (Cv a)
 |.loop a=>.loop (Cv a)
 |.skip=>.skip
 |.reg ops=>.reg ops
 |.dreg s=>.dreg s
 |.exit i=>.exit i
 |.ret=>.ret
def Ea(n:Nat):Ae→Ae
 |.stage a=>.stage (Ea n a)
 |.unr m a=>.unr m (Ea n a)
 |.seq a b=>.seq (Ea n a) (Ea n b)
 |.cond c a b=>.cond c (Ea n a) (Ea n b)
 |.block i a=>.block i (Ea n a)
 |.loop a=>.unr n (Ea n a)
 |.skip=>.skip
 |.reg ops=>.reg ops
 |.dreg s=>.dreg s
 |.exit i=>.exit i
 |.ret=>.ret
end
theorem Do(n:Nat):∀rc,Cv (Ea n rc)=Cv rc
 |.stage a=>by simp only[Ea,Cv,Do n a]
 |.unr m a=>by simp only[Ea,Cv,Do n a]
 |.seq a b=>by simp only[Ea,Cv,Do n a,Do n b]
 |.cond c a b=>by simp only[Ea,Cv,Do n a,Do n b]
 |.block i a=>by simp only[Ea,Cv,Do n a]
 |.loop a=>by simp only[Ea,Cv,Do n a]
 |.skip=>rfl
 |.reg _=>rfl
 |.dreg _=>rfl
 |.exit _=>rfl
 |.ret=>rfl
theorem Dc{P:Program}{n:Nat}:∀(code:Code) {rc:Ae},Ao P n code=some rc→Cv rc=rc
 |.skip,rc,h=>by simp only[Ao,ZD]at h;subst h;rfl
 |.label _,rc,h=>by simp only[Ao,ZD]at h;subst h;rfl
 |.region _ _ _,rc,h=>by
  simp only[Ao]at h
  repeat' (split at h)
  all_goals first
   |(cases h;done)
   |(simp only[ZD]at h;subst h;rfl)
 |.seq a b,rc,h=>by
  simp only[Ao]at h;split at h
  ·rename_i x y hx hy;simp only[ZD]at h;subst h;simp only[Cv,Dc a hx,Dc b hy]
  ·cases h
 |.cond _ a b,rc,h=>by
  simp only[Ao]at h;split at h
  ·rename_i x y hx hy;simp only[ZD]at h;subst h;simp only[Cv,Dc a hx,Dc b hy]
  ·cases h
 |.block _ a,rc,h=>by
  simp only[Ao]at h;split at h
  ·rename_i x hx;simp only[ZD]at h;subst h;simp only[Cv,Dc a hx]
  ·cases h
 |.loop a,rc,h=>by
  simp only[Ao]at h;split at h
  ·rename_i x hx;simp only[ZD]at h;subst h;simp only[Cv,Dc a hx]
  ·cases h
 |.scope a,rc,h=>by
  simp only[Ao]at h;exact Dc a h
 |.exit _,rc,h=>by simp only[Ao,ZD]at h;subst h;rfl
 |.ret,rc,h=>by simp only[Ao,ZD]at h;subst h;rfl
 |.goto _,rc,h=>by simp[Ao]at h
 |.rangeFunc _ _ _ _,rc,h=>by simp[Ao]at h
 |.refuse _,rc,h=>by simp[Ao]at h
section
variable [Off]
def Ei:List Bool→Ae→Ae
 |[],rc=>.stage rc
 |false::p,.seq a b=>.seq (Ei p a) b
 |true::p,.seq a b=>.seq a (Ei p b)
 |false::p,.cond c a b=>.cond c (Ei p a) b
 |true::p,.cond c a b=>.cond c a (Ei p b)
 |_::p,.block i a=>.block i (Ei p a)
 |_::p,.loop a=>.loop (Ei p a)
 |_,rc=>rc
end
theorem Pu[Glob]{P:Program}{n:Nat}{r:Ae}:∀(code:Code),Ao P n code=some r→∃code',(∀x,code'≠.scope x)∧Ao P n code'=some r∧∀c Q a w,code'.wp P (So c Q) a w→code.wp P (So c Q) a w
 |.scope x,h=>by
  simp only[Ao]at h;obtain⟨y,h1,h2,h3⟩:=Pu x h;refine⟨y,h1,h2,fun c Q a w hw=>wp_scope_straight (wp_mono (h3 c Q a w hw) fun e a w he=>?_)⟩;cases e<;>first|exact he|exact he.elim
 |.skip,h=>⟨_,(fun _ e=>by cases e),h,fun _ _ _ _ hw=>hw⟩
 |.label _,h=>⟨_,(fun _ e=>by cases e),h,fun _ _ _ _ hw=>hw⟩
 |.region _ _ _,h=>⟨_,(fun _ e=>by cases e),h,fun _ _ _ _ hw=>hw⟩
 |.seq _ _,h=>⟨_,(fun _ e=>by cases e),h,fun _ _ _ _ hw=>hw⟩
 |.cond _ _ _,h=>⟨_,(fun _ e=>by cases e),h,fun _ _ _ _ hw=>hw⟩
 |.block _ _,h=>⟨_,(fun _ e=>by cases e),h,fun _ _ _ _ hw=>hw⟩
 |.loop _,h=>⟨_,(fun _ e=>by cases e),h,fun _ _ _ _ hw=>hw⟩
 |.exit _,h=>⟨_,(fun _ e=>by cases e),h,fun _ _ _ _ hw=>hw⟩
 |.ret,h=>⟨_,(fun _ e=>by cases e),h,fun _ _ _ _ hw=>hw⟩
 |.goto _,h=>by simp[Ao]at h
 |.rangeFunc _ _ _ _,h=>by simp[Ao]at h
 |.refuse _,h=>by simp[Ao]at h
theorem An5{P:Program}{n:Nat}{code:Code}{x y:Ae}(hns:∀z,code≠.scope z)(hr:Ao P n code=some (.seq x y)):∃cx cy,code=.seq cx cy∧Ao P n cx=some x∧Ao P n cy=some y:=by
 cases code with
 |seq a b=>
  simp only[Ao]at hr;split at hr
  ·rename_i rx ry hx hy;simp only[ZD,Ae.seq.injEq]at hr;obtain⟨rfl,rfl⟩:=hr;exact⟨a,b,rfl,hx,hy⟩
  ·cases hr
 |scope z=>exact absurd rfl (hns z)
 |_=>simp only[Ao]at hr<;>repeat' (first|(split at hr)|cases hr)
theorem Ajs{P:Program}{n:Nat}{code:Code}{x y:Ae}{cd:Operand}(hns:∀z,code≠.scope z)(hr:Ao P n code=some (.cond cd x y)):∃cx cy,code=.cond cd cx cy∧Ao P n cx=some x∧Ao P n cy=some y:=by
 cases code with
 |cond c a b=>
  simp only[Ao]at hr;split at hr
  ·rename_i rx ry hx hy;simp only[ZD,Ae.cond.injEq]at hr;obtain⟨rfl,rfl,rfl⟩:=hr;exact⟨a,b,rfl,hx,hy⟩
  ·cases hr
 |scope z=>exact absurd rfl (hns z)
 |_=>simp only[Ao]at hr<;>repeat' (first|(split at hr)|cases hr)
theorem Ai3{P:Program}{n:Nat}{code:Code}{x:Ae}{i:Nat}(hns:∀z,code≠.scope z)(hr:Ao P n code=some (.block i x)):∃cx,code=.block i cx∧Ao P n cx=some x:=by
 cases code with
 |block j a=>
  simp only[Ao]at hr;split at hr
  ·rename_i rx hx;simp only[ZD,Ae.block.injEq]at hr;obtain⟨rfl,rfl⟩:=hr;exact⟨a,rfl,hx⟩
  ·cases hr
 |scope z=>exact absurd rfl (hns z)
 |_=>simp only[Ao]at hr<;>repeat' (first|(split at hr)|cases hr)
theorem Ac7{P:Program}{n:Nat}{code:Code}{x:Ae}(hns:∀z,code≠.scope z)(hr:Ao P n code=some (.loop x)):∃cx,code=.loop cx∧Ao P n cx=some x:=by
 cases code with
 |loop a=>
  simp only[Ao]at hr;split at hr
  ·rename_i rx hx;simp only[ZD,Ae.loop.injEq]at hr;subst hr;exact⟨a,rfl,hx⟩
  ·cases hr
 |scope z=>exact absurd rfl (hns z)
 |_=>simp only[Ao]at hr<;>repeat' (first|(split at hr)|cases hr)
section
variable [Off]
theorem Ce[Glob]{P:Program}{c:Ctx}{n:Nat}(hn:c.n=n):∀(rc:Ae) {code:Code} {Q:Ex→St→Prop} {st:St} {a:Act} {w:World},Ao P n code=some (Cv rc)→wpv P rc Q st→Rel c st a w→code.wp P (So c Q) a w
 |.skip,code,Q,st,a,w,hr,h,hR=>Bs hn code hr h hR
 |.reg _,code,Q,st,a,w,hr,h,hR=>Bs hn code hr h hR
 |.dreg _,code,Q,st,a,w,hr,h,hR=>Bs hn code hr h hR
 |.exit _,code,Q,st,a,w,hr,h,hR=>Bs hn code hr h hR
 |.ret,code,Q,st,a,w,hr,h,hR=>Bs hn code hr h hR
 |.stage x,code,Q,st,a,w,hr,h,hR=>by
  obtain⟨X,hd,h1,h2⟩:=h;refine wp_mono (Ce hn x hr h1 hR) fun e a w he=>?_;cases e with
  |normal=>
   obtain⟨st',q1,q2⟩:=he;obtain⟨y,q3⟩:=q1 c a w q2;exact⟨hd y,h2 y,q3⟩
  |exit id=>exact he
  |ret=>exact he
  |goto l=>exact he
  |panic ch=>exact he
  |outgrown=>exact he
 |.seq x y,code,Q,st,a,w,hr,h,hR=>by
  obtain⟨code',hns,hr',hto⟩:=Pu code hr;refine hto _ _ _ _ ?_;obtain⟨cx,cy,rfl,hx,hy⟩:=An5 hns hr';refine wp_seq (wp_mono (Ce hn x hx h hR) fun e a w he=>?_);cases e with
  |normal=>obtain⟨st',h1,h2⟩:=he;exact Ce hn y hy h1 h2
  |exit id=>exact he
  |ret=>exact he
  |goto l=>exact he
  |panic ch=>exact he
  |outgrown=>exact he
 |.cond cd x y,code,Q,st,a,w,hr,h,hR=>by
  obtain⟨code',hns,hr',hto⟩:=Pu code hr;refine hto _ _ _ _ ?_;obtain⟨cx,cy,rfl,hx,hy⟩:=Ajs hns hr';simp only[wpv]at h;split at h
  ·rename_i t ht;obtain⟨R,G,hRR⟩:=hR;have hv:a.eval cd=.bool t:=Cd (ht▸hRR.val cd);exact wp_cond_split hv (fun e=>Ce hn x hx (h.1 e) ⟨R,G,hRR⟩) (fun e=>Ce hn y hy (h.2 e) ⟨R,G,hRR⟩)
  ·exact h.elim
 |.block id x,code,Q,st,a,w,hr,h,hR=>by
  obtain⟨code',hns,hr',hto⟩:=Pu code hr;refine hto _ _ _ _ ?_;obtain⟨cx,rfl,hx⟩:=Ai3 hns hr';refine wp_block (wp_mono (Ce hn x hx h hR) fun e a w he=>?_);cases e with
  |normal=>exact he
  |exit j=>
   obtain⟨st',h1,h2⟩:=he;simp only[Adj]at h1;simp only[Exit.inBlock];split
   ·rename_i hj;rw[if_pos hj]at h1;exact⟨st',h1,h2⟩
   ·rename_i hj;rw[if_neg hj]at h1;exact⟨st',h1,h2⟩
  |ret=>exact he
  |goto l=>exact he
  |panic ch=>exact he
  |outgrown=>exact he
 |.loop x,code,Q,st,a,w,hr,h,hR=>by
  obtain⟨code',hns,hr',hto⟩:=Pu code hr;refine hto _ _ _ _ ?_;obtain⟨cd,rfl,hx⟩:=Ac7 hns hr';simp only[wpv]at h;obtain⟨X,hd,μ,h0,hround⟩:=h;obtain⟨x0,h0⟩:=h0 c a w hR;have key:∀(m:Nat) (y:X) (a:Act) (w:World),μ y<m→Rel c (hd y) a w→Code.rounds P cd (So c Q) m a w:=by
   intro m
   induction m with
   |zero=>intro y a w hm;omega
   |succ m ih=>
    intro y a w hm hR;rw[rounds_succ];refine wp_mono (Ce hn x hx (hround y) hR) fun e a w he=>?_;cases e with
    |normal=>
     obtain⟨st',h12,h3⟩:=he;obtain⟨y',h1,h2⟩:=h12 c a w h3;exact ih y' a w (by omega) h2
    |exit id=>exact he
    |ret=>exact he
    |goto l=>exact he
    |panic ch=>exact he
    |outgrown=>exact he
  exact wp_loop_rounds _ (key (μ x0+1) x0 a w (by omega) h0)
 |.unr m x,code,Q,st,a,w,hr,h,hR=>by
  obtain⟨code',hns,hr',hto⟩:=Pu code hr;refine hto _ _ _ _ ?_;obtain⟨cd,rfl,hx⟩:=Ac7 hns hr';have key:∀(m:Nat) (st:St) (a:Act) (w:World),Anl (fun K st'=>wpv P x (Un Q K) st') m st→Rel c st a w→Code.rounds P cd (So c Q) m a w:=by
   intro m
   induction m with
   |zero=>intro st a w h;exact h.elim
   |succ m ih=>
    intro st a w h hR;rw[rounds_succ];refine wp_mono (Ce hn x hx h hR) fun e a w he=>?_;cases e with
    |normal=>obtain⟨st',h1,h2⟩:=he;exact ih st' a w h1 h2
    |exit id=>exact he
    |ret=>exact he
    |goto l=>exact he
    |panic ch=>exact he
    |outgrown=>exact he
  exact wp_loop_rounds _ (key m st a w h hR)
def Gt(ps:List Par):Nat→V:=fun i=>match ps[i]? with
 |some (.c u)=>u
 |some (.o _ _ _)=>.own (16*i) 0
 |none=>.v undef
def Jc(ps:List Par):Nat→Option Ent:=fun id=>if id%16=0 then match ps[id/16]? with
 |some (.o T sz rows)=>some ⟨0,.t T,sz,rows⟩
 |_=>none
 else none
def noD:Value→Prop:=fun _=>False
def P8(ps:List Par):St:=⟨Gt ps,Jc ps,noD⟩
end
theorem Tq[Glob]{w:World}{R:Nat→Prop}{ps:List Par}{xs:List Value}{n:Nat}(hlt:∀b,R b→b<w.heap.size)(hp:M3 w R ps xs)(hn:ps.length≤n)(hg:Cc w (A4 ps xs)):
  ∃G0,Rel ⟨w,R,A4 ps xs,n,noD,G0,hg⟩ (P8 ps) {tmps:=xs.toArray++Array.replicate (n-xs.toArray.size) undef,defers:=[]} w:=by
 have hget:∀i,(xs.toArray++Array.replicate (n-xs.toArray.size) undef).getD i undef=(xs[i]?).getD undef:=fun i=>by
  rw[Array.getD_eq_getD_getElem?,Array.getElem?_append];split
  ·simp
  ·rename_i h;rw[XK (by simpa using h)];rw[Array.getElem?_replicate];split<;>rfl
 have hG:∀(id:Nat) (T:TypeId) (sz:Nat) (rows:List (List V)) (x:Value),id%16=0→ps[id/16]? =some (.o T sz rows)→xs[id/16]? =some x→True:=fun _ _ _ _ _ _ _ _=>trivial
 let G:Nat→Option Loc:=fun id=>if id%16=0 then match ps[id/16]?,xs[id/16]? with
  |some (.o T sz rows),some x=>some ⟨0,sz,x,false,none⟩
  |_,_=>none
  else none
 have hGi:∀i T sz rows x,ps[i]? =some (.o T sz rows)→xs[i]? =some x→G (16*i)=some ⟨0,sz,x,false,none⟩:=fun i T sz rows x h1 h2=>by
  show(if(16*i)%16=0 then _ else _)=_;rw[if_pos (by omega),show 16*i/16=i by omega,h1,h2]
 have hinv:∀id l,G id=some l→∃T rows x,id%16=0∧ps[id/16]? =some (.o T l.sz rows)∧xs[id/16]? =some x∧l=⟨0,l.sz,x,false,none⟩:=fun id l h=>by
  have h':(if id%16=0 then match ps[id/16]?,xs[id/16]? with
   |some (.o T sz rows),some x=>some (⟨0,sz,x,false,none⟩:Loc)
   |_,_=>none
   else none)=some l:=h
  split at h'
  ·rename_i hz;split at h'
   ·rename_i T sz rows x h1 h2;injection h' with h';subst h'
    exact⟨T,rows,x,hz,h1,h2,rfl⟩
   ·cases h'
  ·cases h'
 have hHinv:∀id e,Jc ps id=some e→id%16=0∧(∃T,e.T=.t T∧ps[id/16]? =some (.o T e.sz e.rows))∧e.gen=0:=fun id e h=>by
  unfold Jc at h;split at h
  ·rename_i hz;split at h
   ·rename_i T sz rows h1;injection h with h;subst h
    exact⟨hz,⟨T,rfl,h1⟩,rfl⟩
   ·cases h
  ·cases h
 refine⟨G,R,G,?_,⟨?_,?_,?_,?_⟩,hlt,fun b hb=>.inl hb,fun b hb=>hb,Fr.refl _ _,?_,rfl,rfl,Gle.refl _⟩
 ·intro i;show RV w R G (Gt ps i) ((xs.toArray++Array.replicate (n-xs.toArray.size) undef).getD i undef);rw[hget];unfold Gt;cases hpi:ps[i]? with
  |none=>
   have:xs[i]? =none:=by
    rw[List.getElem?_eq_none_iff]at hpi ⊢;have:=hp.len;omega
   rw[this];exact .v _
  |some p=>
   have hi:i<xs.length:=by rw[←hp.len];exact(ZB.1 hpi).1
   have hx:xs[i]? =some xs[i]:=ZC hi;rw[hx];have hok:=hp.ok i p _ hpi hx;cases p with
   |c u=>exact W5 hok
   |o T sz rows=>exact .own _ _ _ (hGi i T sz rows _ hpi hx) (ZT _) _ fun _=>⟨rfl,rfl⟩
 ·intro id e l h1 h2;obtain⟨_,_,h3⟩:=hHinv id e h1;obtain⟨T,rows,x,_,_,_,h4⟩:=hinv id l h2;rw[h4];exact ZU _
 ·intro id e l h1 h2 _;obtain⟨h3,⟨T',h35,h4⟩,h5⟩:=hHinv id e h1;obtain⟨T,rows,x,_,h6,h7,h8⟩:=hinv id l h2;rw[h4]at h6;injection h6 with h6
  injection h6 with q1 q2 q3;obtain⟨p1,zs,p2,p3⟩:=hp.ok _ _ _ h4 h7;refine Wz (T:=T') (.inl h35) (by rw[h8]) q2.symm p1 (by rw[h8];exact p2) (p3.mono (fun b hb=>⟨hb,rfl⟩) (Xu _))
 ·intro id id' e e' l l' b h1 h2 hne h3 h4 _ _ h5 h6;obtain⟨k1,⟨_,_,k2⟩,_⟩:=hHinv id e h1;obtain⟨k3,⟨_,_,k4⟩,_⟩:=hHinv id' e' h2;obtain⟨_,_,x,_,_,m1,m2⟩:=hinv id l h3;obtain⟨_,_,y,_,_,m3,m4⟩:=hinv id' l' h4;rw[m2]at h5;rw[m4]at h6;have h5:=(Loc.ft_of rfl).1 h5;have h6:=(Loc.ft_of rfl).1 h6;exact hp.apart _ _ _ _ _ _ _ _ x y b (by omega) k2 k4 m1 m3 h5 h6
 ·intro id e l b h1 h2 _ h3;obtain⟨k1,⟨_,_,k2⟩,_⟩:=hHinv id e h1;obtain⟨_,_,x,_,_,m1,m2⟩:=hinv id l h2;rw[m2]at h3;have h3:=(Loc.ft_of rfl).1 h3;have hb:A4 ps xs b:=⟨_,_,_,_,x,k2,m1,h3⟩;exact⟨hp.free b hb,.inl hb⟩
 ·have:=hp.len;simp;omega
section
variable [Off]
def Ret(ts:List Nat)(rs:List Par)(st:St):Prop:=∃gone,Ar st.H gone true gone (ts.map st.env) rs
def Ak8(ts:List Nat)(rs:List Par):Ex→St→Prop
 |.exit _,_=>False
 |_,st=>Ret ts rs st
end
theorem Ub{P:Program}{fn:Func}{ts:List Nat}(h:fn.results.toList=ts.map .tmp)(tmps:Array Value)(w:World):(results fn tmps).run P w=.ok (Dl (ts.map fun t=>tmps.getD t undef)) w:=by
 have e:fn.results=(ts.map ResultVar.tmp).toArray:=by apply Array.ext';simpa using h
 have key:∀ts:List Nat,((ts.map ResultVar.tmp).mapM fun(r:ResultVar)=>match r with
   |.tmp t=>(pure (tmps.getD t undef):Sem Value)
   |.cell a t=>(do loadVar t (←asAddr (tmps.getD a undef)))).run P w=.ok (ts.map fun t=>tmps.getD t undef) w:=by
  intro ts
  induction ts with
  |nil=>simp
  |cons t ts ih=>
   rw[List.map_cons,List.mapM_cons];simp only[Sem.run_bind,Sem.run_pure,Result.andThen_ok];rw[ih];rfl
 unfold results;rw[e];simp only[Sem.run_bind];rw[Array.mapM_eq_mapM_toList,Sem.run_map];have k:=key ts;refine(congrArg (fun r=>Result.andThen (Result.andThen r fun a w'=>Result.ok (List.toArray a) w') _) k).trans ?_;simp only[Result.andThen_ok,Sem.run_pure]
 match ts with
 |[]=>rfl
 |[t]=>rfl
 |t::t'::ts=>simp[Dl]
theorem Xw [Glob] {P : Program} {f : FuncId} {fn : Func} {code : Code} {ps rs : List Par} {ts : List Nat} (hf : P.funcs[f]? = some fn) (hb : fn.body = some code) (hname : (fn.name == "runtime.NumGoroutine") = false)
  (hlen:ps.length≤fn.ntmps) (hts:fn.results.toList=ts.map .tmp) (hsnd:∀{c:Ctx} {a:Act} {w:World},c.n=fn.ntmps→Rel c (P8 ps) a w→code.wp P (So c (Ak8 ts rs)) a w):Fun P f ps rs:=by
 refine⟨⟨fn,hf,hname,by rw[hb];rfl⟩,fun w R xs hlt hp hg=>?_⟩;refine calls_of_wp hf hb ?_;obtain⟨G0,hrel⟩:=Tq (n:=fn.ntmps) hlt hp hlen hg;refine wp_mono (hsnd (c:=⟨w,R,A4 ps xs,fn.ntmps,noD,G0,hg⟩) rfl hrel) fun e a' w' he=>?_;have fin:∀st,Ret ts rs st→Rel ⟨w,R,A4 ps xs,fn.ntmps,noD,G0,hg⟩ st a' w'→a'.defers=[]∧∃v,(results fn a'.tmps).run P w'=.ok v w'∧∃(ys:List Value) (R':Nat→Prop),Ending.returned v=.returned (Dl ys)∧Fr (A4 ps xs) w w'∧(∀b,R b→R' b)∧
   (∀b,R' b→R b∨(b<w'.heap.size∧(A4 ps xs b∨w.heap.size≤b)))∧M3 w' R' rs ys∧(∀b,A4 rs ys b→A4 ps xs b∨w.heap.size≤b):=fun st ⟨gone,hA⟩ ⟨R2,G,hR⟩=>by
  refine⟨hR.defers,_,Ub hts _ _,(ts.map fun t=>a'.tmps.getD t undef),RB R2 G st.H gone true,rfl,hR.fr,fun b hb=>.inl (hR.old b hb),?_,?_⟩
  ·rintro b (hb|⟨_,id,e,l,_,q1,q2,q3,q4⟩)
   ·rcases hR.src b hb with q|q
    ·exact .inl q
    ·exact .inr ⟨hR.lt b hb,q⟩
   ·exact .inr ⟨hR.hr.lt q1 q2 q3 q4,(hR.hr.mine id e l b q1 q2 q3 q4).2⟩
  ·obtain⟨h1,h2⟩:=Gf hR (bor0:=true) (xs:=ts.map fun t=>a'.tmps.getD t undef) hA (fun e=>e) (by simp) (fun i u x h3 h4=>by
    rw[XJ]at h3 h4;cases hq:ts[i]? with
    |none=>rw[hq]at h3;cases h3
    |some t=>rw[hq]at h3 h4;simp only[Option.map_some,ZD]at h3 h4;subst h3 h4;exact hR.env t) (fun id hid=>hid)
   refine⟨h1,fun b hb=>?_⟩;obtain⟨id,_,e,l,q1,q2,q3,q4⟩:=h2 b hb;exact(hR.hr.mine id e l b q1 q2 q3 q4).2
 cases e with
 |normal=>obtain⟨st,h1,h2⟩:=he;exact fin st h1 h2
 |ret=>obtain⟨st,h1,h2⟩:=he;exact fin st h1 h2
 |exit id=>obtain⟨st,h1,h2⟩:=he;exact h1.elim
 |goto l=>exact he.elim
 |panic ch=>obtain⟨v,_,h2,_⟩:=he;exact h2.elim
 |outgrown=>exact he.elim
section
variable [Off]
theorem Ai1 [Glob] {P : Program} {f : FuncId} {fn : Func} {code : Code} {rc : Ae} {ps rs : List Par} {ts : List Nat} (hf : P.funcs[f]? = some fn) (hb : fn.body = some code) (hname : (fn.name == "runtime.NumGoroutine") = false) (hres : Ao P fn.ntmps code = some rc)
  (hlen:ps.length≤fn.ntmps) (hts:fn.results.toList=ts.map .tmp) (h:wpv P rc (Ak8 ts rs) (P8 ps)):Fun P f ps rs:=
 Xw hf hb hname hlen hts fun hn hR=>Bs hn code hres h hR
theorem Aer [Glob] {P : Program} {f : FuncId} {fn : Func} {code : Code} {rc : Ae} {ps rs : List Par} {ts : List Nat} (hf : P.funcs[f]? = some fn) (hb : fn.body = some code) (hname : (fn.name == "runtime.NumGoroutine") = false) (hres : Ao P fn.ntmps code = some (Cv rc))
  (hlen:ps.length≤fn.ntmps) (hts:fn.results.toList=ts.map .tmp) (h:wpv P rc (Ak8 ts rs) (P8 ps)):Fun P f ps rs:=
 Xw hf hb hname hlen hts fun hn hR=>Ce hn rc hres h hR
end
end Go.Proofs.YtchbkgnobpejnaaGreatDoor
