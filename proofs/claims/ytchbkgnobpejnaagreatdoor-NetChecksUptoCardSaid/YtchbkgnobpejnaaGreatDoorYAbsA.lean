/- The framework: part of this claim. -/
import Derived.Test.YtchbkgnobpejnaaGreatDoorYAbs9
set_option linter.unusedSimpArgs false
set_option linter.unusedVariables false
namespace Go.Proofs.YtchbkgnobpejnaaGreatDoor
open Go.RowKit
def ROp.quiet:ROp→Bool
 |.store _ _ _=>false
 |.app _ _ _ _ _ _=>false
 |.mupd _ _ _ _=>false
 |.die _=>false
 |.clr _ _ _=>false
 |.isnil _ _=>false
 |_=>true
def ROp.allocs:ROp→Bool
 |.box _ _ _=>true
 |.zbox _ _=>true
 |.mks _ _ _ _ _=>true
 |.mkn _ _ _ _ _ _=>true
 |.call _ _=>true
 |.mkm=>true
 |_=>false
def ROp.looks:ROp→List Operand
 |.mv x=>[x]
 |.pick a b c=>[a,b,c]
 |.box _ _ x=>[x]
 |.zbox _ _=>[]
 |.build _ ps=>ps.map fun p=>p.2.2
 |.mks _ _ _ _ ps=>ps.map fun p=>p.2
 |.mkn _ _ _ _ x y=>[x,y]
 |.load _ _ x=>[x]
 |.bin _ x y=>[x,y]
 |.mm _ x y=>[x,y]
 |.eqb _ x y=>[x,y]
 |.eqS _ _ x y=>[x,y]
 |.not x=>[x]
 |.neg x=>[x]
 |.conv _ x=>[x]
 |.convS x=>[x]
 |.fld _ _ _ x=>[x]
 |.fldA _ x=>[x]
 |.idxA _ x i=>[x,i]
 |.idxS x i=>[x,i]
 |.slcS x lo hi=>[x]++lo.toList++hi.toList
 |.slcL _ x lo hi mx=>[x]++lo.toList++hi.toList++mx.toList
 |.ext x _=>[x]
 |.len _ x=>[x]
 |.call x args=>x::args
 |.mkfn _ caps=>caps
 |.store _ x y=>[x,y]
 |.app _ _ _ _ x y=>[x,y]
 |.mkm=>[]
 |.mlook _ _ _ x i=>[x,i]
 |.mlen x=>[x]
 |.mupd _ x i v=>[x,i,v]
 |.die x=>[x]
 |.mki _ x=>[x]
 |.ofB x=>[x]
 |.toB x=>[x]
 |.clr _ _ x=>[x]
 |.isnil _ x=>[x]
section
variable {P:Program} {env env':Nat→V} {H H':Nat→Option Ent} {g g':Nat→Nat} {b:Nat} {K:V→List (Nat×Option Ent)→Prop}
theorem Alp(hH:∀id e,H id=some e→H' id=some e){u:V}(h:one H u):one H' u:=by
 cases u<;>simp only[one]at h ⊢ <;>first|exact h|(obtain⟨e,h1,h2⟩:=h;exact⟨e,hH _ _ h1,h2⟩)
theorem I0(hH:∀id e,H id=some e→H' id=some e):∀{us:List V},Hl H us→Hl H' us
 |[],_=>trivial
 |u::us,h=>⟨Alp hH h.1,I0 hH h.2⟩
theorem Afr(hH:∀id e,H id=some e→H' id=some e){rows rows':List (List V)}(h:Ack H rows rows'):Ack H' rows rows':=
 ⟨h.1,fun i row row' h1 h2=>by
  obtain⟨h3,h4⟩:=h.2 i row row' h1 h2;refine⟨h3,fun j u u' h5 h6=>?_⟩;rcases h4 j u u' h5 h6 with q|⟨id,g,e,q1,q2,q3⟩|q
  ·exact .inl q
  ·exact .inr (.inl ⟨id,g,e,q1,hH _ _ q2,q3⟩)
  ·exact .inr (.inr q)⟩
theorem U3(hH:∀id e,H id=some e→H' id=some e){all:List Nat}:∀(us us':List V),W2 H all us us'→W2 H' all us us'
 |[],[],h=>trivial
 |u::us,u'::us',h=>by
  refine⟨?_,U3 hH us us' h.2⟩;rcases h.1 with q|⟨id,g,i,off,e,row,row',h1,h2,h25,h3,h35,h4⟩|⟨id,g,e,An,h1,h2,h3⟩
  ·exact .inl q
  ·exact .inr (.inl ⟨id,g,i,off,e,row,row',h1,hH _ _ h2,h25,h3,Ui hH _ _ h35,h4⟩)
  ·exact .inr (.inr ⟨id,g,e,An,h1,hH _ _ h2,h3⟩)
theorem Ue(hH:∀id e,H id=some e→H' id=some e){all:List Nat}{bor:Bool}{gone:List Nat}{us:List V}{ps:List Par}(h:Ar H all bor gone us ps):Ar H' all bor gone us ps:=by
 induction h with
 |nil bor=>exact .nil bor
 |same hu h ih=>exact .same hu ih
 |nilsl c h ih=>exact .nilsl c ih
 |nilown T sz hz h ih=>exact .nilown T sz hz ih
 | @bor gone id g e rows' us ps he hg hr hn h ih=>
  refine .bor (hH _ _ he) hg (Afr (fun k e hk=>?_) hr) hn ih;by_cases hm:k∈id::all
  ·simp only[hm,if_true]at hk;cases hk
  ·simp only[hm,if_false]at hk ⊢;exact hH _ _ hk
 |borp he hg hi hr hn h ih=>exact .borp (hH _ _ he) hg hi hr hn ih
 |borc hc h ih=>exact .borc (U3 hH _ _ hc) ih
 |bora hc h ih=>exact .bora (hc.mono hH) ih
 |givv he hg hT hl hr hn ha h ih=>exact .givv (hH _ _ he) hg hT hl hr hn ha ih
 |give he hg hT hr hn ha h ih=>exact .give (hH _ _ he) hg hT hr hn ha ih
theorem Uj(hH:∀id e,H id=some e→H' id=some e){v:V}{An:List (Value×V)}(h:Ld H v An):Ld H' v An:=by
 unfold Ld at h ⊢;split at h<;>first|exact h|(obtain⟨e,h1,h2⟩:=h;exact⟨e,hH _ _ h1,h2⟩)|exact h.elim
theorem Abl(hH:∀id e,H id=some e→H' id=some e){sz:Nat}{v:V}{rows:List (List V)}(h:C8 H sz v rows):C8 H' sz v rows:=by
 unfold C8 at h ⊢;split at h
 ·obtain⟨e,h1,h2⟩:=h;exact⟨e,hH _ _ h1,h2⟩
 ·exact⟨h.1,fun row hr=>⟨(h.2 row hr).1,I0 hH (h.2 row hr).2⟩⟩
 ·exact h
 ·obtain⟨e,h1,h2⟩:=h;exact⟨e,hH _ _ h1,h2⟩
 ·obtain⟨e,h1,h2⟩:=h;exact⟨e,hH _ _ h1,h2⟩
 ·exact h.elim
theorem V0(hH:∀id e,H id=some e→H' id=some e):∀(ps:List (Nat×Nat×Operand)) (cs:List V) {K:List V→Prop},(∀x∈ps.map (fun p=>p.2.2),val env' x=val env x)→Gb env H cs ps K→Gb env' H' cs ps K
 |[],cs,K,_,h=>h
 |(off,sz,x)::ps,cs,K,hv,h=>by
  simp only[Gb]at h ⊢;rw[hv x (by simp)];split at h
  ·exact⟨h.1,h.2.1,I0 hH h.2.2.1,V0 hH ps _ (fun y hy=>hv y (ZL _ hy)) h.2.2.2⟩
  ·exact h
theorem Yj(hH:∀id e,H id=some e→H' id=some e){sz:Nat}:∀(ps:List (Nat×Operand)) (rows:List (List V)) {K:List (List V)→Prop},(∀x∈ps.map (fun p=>p.2),val env' x=val env x)→F9 env H sz rows ps K→F9 env' H' sz rows ps K
 |[],cs,K,_,h=>h
 |(i,x)::ps,rows,K,hv,h=>by
  simp only[F9]at h ⊢;rw[hv x (by simp)];split at h
  ·exact⟨h.1,h.2.1,I0 hH h.2.2.1,Yj hH ps _ (fun y hy=>hv y (ZL _ hy)) h.2.2.2⟩
  ·exact h
theorem Of{lo:Option Operand}{l:Nat}(hv:∀x∈lo.toList,val env' x=val env x)(h:loV env lo l):loV env' lo l:=by
 cases lo with
 |none=>exact h
 |some x=>simp only[loV]at h ⊢;rw[hv x (by simp)];exact h
theorem Ph{hi:Option Operand}{n l:Nat}(hv:∀x∈hi.toList,val env' x=val env x)(h:hiV env n hi l):hiV env' n hi l:=by
 cases hi with
 |none=>exact h
 |some x=>simp only[hiV]at h ⊢;rw[hv x (by simp)];exact h
theorem Ahh{args:List Operand}(hv:∀x∈args,val env' x=val env x):args.map (val env')=args.map (val env):=List.map_congr_left hv
set_option maxHeartbeats 1000000 in
theorem D5[Glob]{r:ROp}(hv:∀x∈r.looks,val env' x=val env x)(hH:∀id e,H id=some e→H' id=some e)(h:Ak P r env H g b K):Ak P r env' H' g b K:=by
 cases r with
 |mv x=>simp only[Ak]at h ⊢;rw[hv x (by simp[ROp.looks])];exact h
 |pick x y z=>
  simp only[Ak]at h ⊢;rw[hv x (by simp[ROp.looks]),hv y (by simp[ROp.looks]),hv z (by simp[ROp.looks])];exact h
 |box T sz x=>
  simp only[Ak]at h ⊢;rw[hv x (by simp[ROp.looks])];split at h
  ·exact⟨h.1,I0 hH h.2.1,h.2.2⟩
  ·exact h
 |zbox T z=>exact h
 |build z ps=>exact V0 hH ps _ hv h
 |mks T sz n z ps=>exact Yj hH ps _ hv h
 |mkn T sz bytes z x y=>simp only[Ak]at h ⊢;rw[hv x (by simp[ROp.looks]),hv y (by simp[ROp.looks])];exact h
 |load agg sz x=>
  simp only[Ak]at h ⊢;rw[hv x (by simp[ROp.looks])];split at h
  ·exact h
  ·obtain⟨e,row,h1,h2⟩:=h;exact⟨e,row,hH _ _ h1,h2⟩
  ·exact h
 |bin op x y=>simp only[Ak]at h ⊢;rw[hv x (by simp[ROp.looks]),hv y (by simp[ROp.looks])];exact h
 |mm n x y=>simp only[Ak]at h ⊢;rw[hv x (by simp[ROp.looks]),hv y (by simp[ROp.looks])];exact h
 |eqb n x y=>simp only[Ak]at h ⊢;rw[hv x (by simp[ROp.looks]),hv y (by simp[ROp.looks])];exact h
 |eqS n ts x y=>simp only[Ak]at h ⊢;rw[hv x (by simp[ROp.looks]),hv y (by simp[ROp.looks])];exact h
 |not x=>simp only[Ak]at h ⊢;rw[hv x (by simp[ROp.looks])];exact h
 |neg x=>simp only[Ak]at h ⊢;rw[hv x (by simp[ROp.looks])];exact h
 |conv k x=>simp only[Ak]at h ⊢;rw[hv x (by simp[ROp.looks])];exact h
 |convS x=>simp only[Ak]at h ⊢;rw[hv x (by simp[ROp.looks])];exact h
 |fld agg sz off x=>simp only[Ak]at h ⊢;rw[hv x (by simp[ROp.looks])];exact h
 |fldA off x=>
  simp only[Ak]at h ⊢;rw[hv x (by simp[ROp.looks])];split at h
  ·exact h
  ·obtain⟨⟨e,h1,h2⟩,h3⟩:=h;exact⟨⟨e,hH _ _ h1,h2⟩,h3⟩
  ·exact h
 |idxA sz x i=>
  simp only[Ak]at h ⊢;rw[hv x (by simp[ROp.looks]),hv i (by simp[ROp.looks])];split at h
  ·exact h
  ·obtain⟨e,j,row,h1,h2⟩:=h;exact⟨e,j,row,hH _ _ h1,h2⟩
  ·exact h
 |idxS x i=>simp only[Ak]at h ⊢;rw[hv x (by simp[ROp.looks]),hv i (by simp[ROp.looks])];exact h
 |slcS x lo hi=>
  simp only[Ak]at h ⊢;rw[hv x (by simp[ROp.looks])];split at h
  ·obtain⟨l,k,h1,h2,h3⟩:=h;exact⟨l,k,Of (fun y hy=>hv y (by simp[ROp.looks]at hy ⊢;simp[hy])) h1,Ph (fun y hy=>hv y (by simp[ROp.looks]at hy ⊢;simp[hy])) h2,h3⟩
  ·exact h
 |slcL sz x lo hi mx=>
  simp only[Ak]at h ⊢;rw[hv x (by simp[ROp.looks])];split at h
  ·obtain⟨l,k,h1,h2,h3,h4,h5,h6⟩:=h;refine⟨l,k,Of (fun y hy=>hv y (by simp[ROp.looks]at hy ⊢;simp[hy])) h1,Ph (fun y hy=>hv y (by simp[ROp.looks]at hy ⊢;simp[hy])) h2,h3,h4,h5,?_⟩;cases mx with
   |none=>exact h6
   |some y=>simp only at h6 ⊢;rw[hv y (by simp[ROp.looks])];exact h6
  ·obtain⟨e,l,k,h1,h2,h3,h4,h5,h6,h7,h8⟩:=h;refine⟨e,l,k,hH _ _ h1,h2,h3,Of (fun y hy=>hv y (by simp[ROp.looks]at hy ⊢;simp[hy])) h4,Ph (fun y hy=>hv y (by simp[ROp.looks]at hy ⊢;simp[hy])) h5,h6,h7,?_⟩;cases mx with
   |none=>exact h8
   |some y=>simp only at h8 ⊢;rw[hv y (by simp[ROp.looks])];exact h8
  ·obtain⟨e,l,k,h1,h2,h3,h4,h5,h6,h7,h8,h9⟩:=h;exact⟨e,l,k,hH _ _ h1,h2,h3,Of (fun y hy=>hv y (by simp[ROp.looks]at hy ⊢;simp[hy])) h4,Ph (fun y hy=>hv y (by simp[ROp.looks]at hy ⊢;simp[hy])) h5,h6,h7,h8,h9⟩
  ·exact h
 |ext x i=>simp only[Ak]at h ⊢;rw[hv x (by simp[ROp.looks])];exact h
 |len s x=>
  cases s with
  |true=>simp only[Ak]at h ⊢;rw[hv x (by simp[ROp.looks])];exact h
  |false=>
   simp only[Ak]at h ⊢;rw[hv x (by simp[ROp.looks])];split at h
   ·exact h
   ·exact h
   ·obtain⟨e,h1,h2⟩:=h;exact⟨e,hH _ _ h1,h2⟩
   ·obtain⟨⟨e,h1,h2⟩,h3⟩:=h;exact⟨⟨e,hH _ _ h1,h2⟩,h3⟩
   ·exact h
   ·exact h
 |call x args=>
  simp only[Ak]at h ⊢;rw[hv x (by simp[ROp.looks]),Ahh (fun y hy=>hv y (by simp[ROp.looks,hy]))];split at h
  ·obtain⟨ps,rs,bor,h1,h2⟩:=h;exact⟨ps,rs,bor,Ue hH h1,h2⟩
  ·obtain⟨ps,rs,bor,h1,h2⟩:=h;exact⟨ps,rs,bor,Ue hH h1,h2⟩
  ·exact h
 |mkfn f caps=>
  simp only[Ak]at h ⊢;simp only[ROp.looks]at hv;rw[Ahh hv];exact h
 |store _ _ _=>exact h
 |app _ _ _ _ _ _=>exact h
 |mkm=>exact h
 |mlook kd ok z x i=>
  simp only[Ak]at h ⊢;rw[hv x (by simp[ROp.looks]),hv i (by simp[ROp.looks])];obtain⟨An,kv,r,h1,h2⟩:=h;exact⟨An,kv,r,Uj hH h1,h2⟩
 |mlen x=>
  simp only[Ak]at h ⊢;rw[hv x (by simp[ROp.looks])];obtain⟨An,h1,h2⟩:=h;exact⟨An,Uj hH h1,h2⟩
 |mupd _ _ _ _=>exact h
 |die _=>exact h
 |clr _ _ _=>exact h
 |isnil _ _=>exact h
 |mki t x=>simp only[Ak]at h ⊢;rw[hv x (by simp[ROp.looks])];exact h
 |ofB x=>
  simp only[Ak]at h ⊢;rw[hv x (by simp[ROp.looks])];obtain⟨rows,ns,h1,h2⟩:=h;exact⟨rows,ns,Abl hH h1,h2⟩
 |toB x=>simp only[Ak]at h ⊢;rw[hv x (by simp[ROp.looks])];exact h
theorem I6[Glob]{r:ROp}(hr:r.allocs=false)(h:Ak P r env H g b K):Ak P r env H g' b K:=by
 cases r with
 |len s x=>cases s<;>exact h
 |_=>first|exact h|(simp[ROp.allocs]at hr;done)
def W6(g:Nat→Nat)(lo hi:Nat):List (Nat×Option Ent)→Prop
 |[]=>True
 |(k,e)::r=>lo≤k∧k<hi∧(∃e',e=some e'∧e'.gen=g k)∧W6 g (k+1) hi r
theorem Sk:∀(rs:List Par) (k hi:Nat),k+rs.length≤hi→W6 g k hi (P1 g k rs)
 |[],k,hi,_=>trivial
 |.c u::rs,k,hi,h=>by
  simp only[ZJ]at h;exact Sk rs k hi (by omega)
 |.o T sz rows::rs,k,hi,h=>by
  simp only[ZJ]at h;exact⟨ZT _,by omega,⟨_,rfl,rfl⟩,Sk rs (k+1) hi (by omega)⟩
theorem Tc:∀(ps:List (Nat×Nat×Operand)) (cs:List V) {K K':List V→Prop},(∀x,K x→K' x)→Gb env H cs ps K→Gb env H cs ps K'
 |[],cs,K,K',hk,h=>hk _ h
 |(off,sz,x)::ps,cs,K,K',hk,h=>by
  simp only[Gb]at h ⊢;split at h
  ·exact⟨h.1,h.2.1,h.2.2.1,Tc ps _ hk h.2.2.2⟩
  ·exact h.elim
theorem Tx{sz:Nat}:∀(ps:List (Nat×Operand)) (rows:List (List V)) {K K':List (List V)→Prop},(∀x,K x→K' x)→F9 env H sz rows ps K→F9 env H sz rows ps K'
 |[],rows,K,K',hk,h=>hk _ h
 |(i,x)::ps,rows,K,K',hk,h=>by
  simp only[F9]at h ⊢;split at h
  ·exact⟨h.1,h.2.1,h.2.2.1,Tx ps _ hk h.2.2.2⟩
  ·exact h.elim
set_option maxHeartbeats 1000000 in
theorem Mp[Glob]{r:ROp}(h:Ak P r env H g b K):∃u dH,Ak P r env H g b (fun v d=>v=u∧d=dH)∧K u dH∧W6 g b (b+16) dH∧(r.allocs=false→dH=[]):=by
 have n0:∀{p:Prop},W6 g b (b+16) []∧(p→([]:List (Nat×Option Ent))=[]):=⟨trivial,fun _=>rfl⟩;have n1:∀e:Ent,e.gen=g b→W6 g b (b+16) [(b,some e)]:=fun e he=>⟨ZT _,by omega,⟨e,rfl,he⟩,trivial⟩;cases r with
 |mv x=>exact⟨_,_,⟨rfl,rfl⟩,h,n0⟩
 |pick x y z=>
  simp only[Ak]at h ⊢;split at h
  ·rename_i t _;cases t with
   |true=>exact⟨_,_,⟨fun _=>⟨rfl,rfl⟩,(fun e=>by cases e)⟩,h.1 rfl,n0⟩
   |false=>exact⟨_,_,⟨(fun e=>by cases e),fun _=>⟨rfl,rfl⟩⟩,h.2 rfl,n0⟩
  ·exact h.elim
 |box T sz x=>
  simp only[Ak]at h ⊢;split at h
  ·exact⟨_,_,⟨h.1,h.2.1,rfl,rfl⟩,h.2.2,n1 _ rfl,(fun e=>by simp[ROp.allocs]at e)⟩
  ·exact h.elim
 |zbox T z=>exact⟨_,_,⟨rfl,rfl⟩,h,n1 _ rfl,(fun e=>by simp[ROp.allocs]at e)⟩
 |build z ps=>
  simp only[Ak]at h ⊢;obtain⟨cs,h1,h2⟩:=W7 _ _ _ h;exact⟨_,_,Tc _ _ (fun x hx=>by subst hx;exact⟨rfl,rfl⟩) h1,h2,n0⟩
 |mks T sz n z ps=>
  simp only[Ak]at h ⊢;obtain⟨cs,h1,h2⟩:=Wm _ _ _ h;exact⟨_,_,Tx _ _ (fun x hx=>by subst hx;exact⟨rfl,rfl⟩) h1,h2,n1 _ rfl,(fun e=>by simp[ROp.allocs]at e)⟩
 |mkn T sz bytes z x y=>
  simp only[Ak]at h ⊢;split at h
  ·obtain⟨k,h1,h2,h3,h4,h5⟩:=h;exact⟨_,_,⟨k,h1,h2,h3,h4,rfl,rfl⟩,h5,n1 _ rfl,(fun e=>by simp[ROp.allocs]at e)⟩
  ·exact h.elim
 |load agg sz x=>
  simp only[Ak]at h ⊢;split at h
  ·exact⟨_,_,⟨h.1,rfl,rfl⟩,h.2,n0⟩
  ·obtain⟨e,row,h1,h2,h3,h4,h5⟩:=h;exact⟨_,_,⟨e,row,h1,h2,h3,h4,rfl,rfl⟩,h5,n0⟩
  ·exact h.elim
 |bin op x y=>
  simp only[Ak]at h ⊢;split at h
  ·obtain⟨r,h1,h2⟩:=Ab6 h;refine⟨_,_,?_,h2,n0⟩;unfold S1 at h1 ⊢;split at h1
   ·cases op<;>first
     |exact h1.elim
     |(obtain⟨q1,c,q2,rfl⟩:=h1;exact⟨q1,c,q2,rfl,rfl⟩)
     |(obtain⟨q1,q0,c,q2,rfl⟩:=h1;exact⟨q1,q0,c,q2,rfl,rfl⟩)
     |(obtain⟨q1,rfl⟩:=h1;exact⟨q1,rfl,rfl⟩)
   ·cases op<;>first
     |exact h1.elim
     |(obtain⟨q1,rfl⟩:=h1;exact⟨q1,rfl,rfl⟩)
     |(obtain rfl:=h1;exact⟨rfl,rfl⟩)
   ·exact h1.elim
  ·exact h.elim
 |mm n x y=>
  simp only[Ak]at h ⊢;split at h
  ·exact⟨_,_,⟨rfl,rfl⟩,h,n0⟩
  ·exact h.elim
 |eqb n x y=>
  simp only[Ak]at h ⊢;split at h
  ·exact⟨_,_,⟨rfl,rfl⟩,h,n0⟩
  ·exact h.elim
 |eqS n ts x y=>
  simp only[Ak]at h ⊢;split at h
  ·split at h
   ·exact⟨_,_,⟨rfl,rfl⟩,h,n0⟩
   ·exact h.elim
  ·exact h.elim
 |not x=>
  simp only[Ak]at h ⊢;split at h
  ·exact⟨_,_,⟨rfl,rfl⟩,h,n0⟩
  ·exact h.elim
 |neg x=>
  simp only[Ak]at h ⊢;split at h
  ·obtain⟨c,h1,h2⟩:=h;exact⟨_,_,⟨c,h1,rfl,rfl⟩,h2,n0⟩
  ·exact h.elim
 |conv k x=>
  simp only[Ak]at h ⊢;split at h
  ·obtain⟨c,h1,h2⟩:=h;exact⟨_,_,⟨c,h1,rfl,rfl⟩,h2,n0⟩
  ·exact h.elim
 |convS x=>
  simp only[Ak]at h ⊢;split at h
  ·exact⟨_,_,⟨rfl,rfl⟩,h,n0⟩
  ·exact h.elim
 |fld agg sz off x=>
  simp only[Ak]at h ⊢;split at h
  ·exact⟨_,_,⟨h.1,rfl,rfl⟩,h.2,n0⟩
  ·exact h.elim
 |fldA off x=>
  simp only[Ak]at h ⊢;split at h
  ·exact⟨_,_,⟨rfl,rfl⟩,h,n0⟩
  ·exact⟨_,_,⟨h.1,rfl,rfl⟩,h.2,n0⟩
  ·exact h.elim
 |idxA sz x i=>
  simp only[Ak]at h ⊢;split at h
  ·obtain⟨j,row,h1,h2,h3,h4⟩:=h;exact⟨_,_,⟨j,row,h1,h2,h3,rfl,rfl⟩,h4,n0⟩
  ·obtain⟨e,j,row,h1,h2,h3,h4,h5,h6⟩:=h;exact⟨_,_,⟨e,j,row,h1,h2,h3,h4,h5,rfl,rfl⟩,h6,n0⟩
  ·exact h.elim
 |idxS x i=>
  simp only[Ak]at h ⊢;split at h
  ·obtain⟨j,c,h1,h2,h3⟩:=h;exact⟨_,_,⟨j,c,h1,h2,rfl,rfl⟩,h3,n0⟩
  ·exact h.elim
 |slcS x lo hi=>
  simp only[Ak]at h ⊢;split at h
  ·obtain⟨l,k,h1,h2,h3,h4,h5⟩:=h;exact⟨_,_,⟨l,k,h1,h2,h3,h4,rfl,rfl⟩,h5,n0⟩
  ·exact h.elim
 |slcL sz x lo hi mx=>
  simp only[Ak]at h ⊢;split at h
  ·obtain⟨l,k,h1,h2,h3,h4,h5,h6⟩:=h;cases mx with
   |none=>exact⟨_,_,⟨l,k,h1,h2,h3,h4,h5,rfl,rfl⟩,h6,n0⟩
   |some y=>exact⟨_,_,⟨l,k,h1,h2,h3,h4,h5,h6.1,h6.2.1,rfl,rfl⟩,h6.2.2,n0⟩
  ·obtain⟨e,l,k,h1,h2,h3,h4,h5,h6,h7,h8⟩:=h;cases mx with
   |none=>
    refine⟨_,_,⟨e,l,k,h1,h2,h3,h4,h5,h6,h7,?_⟩,h8.2,n0⟩;exact⟨trivial,rfl,rfl⟩
   |some y=>
    refine⟨_,_,⟨e,l,k,h1,h2,h3,h4,h5,h6,h7,?_⟩,h8.2.2.2,n0⟩;exact⟨h8.1,h8.2.1,h8.2.2.1,rfl,rfl⟩
  ·obtain⟨e,l,k,h1,h2,h3,h4,h5,h6,h7,h8,h85,h9⟩:=h;exact⟨_,_,⟨e,l,k,h1,h2,h3,h4,h5,h6,h7,h8,h85,rfl,rfl⟩,h9,n0⟩
  ·exact h.elim
 |ext x i=>
  simp only[Ak]at h ⊢;split at h
  ·obtain⟨u,h1,h2⟩:=h;exact⟨_,_,⟨u,h1,rfl,rfl⟩,h2,n0⟩
  ·exact h.elim
 |len s x=>
  cases s with
  |true=>
   simp only[Ak]at h ⊢;split at h
   ·exact⟨_,_,⟨rfl,rfl⟩,h,n0⟩
   ·exact h.elim
  |false=>
   simp only[Ak]at h ⊢;split at h
   ·exact⟨_,_,⟨rfl,rfl⟩,h,n0⟩
   ·exact⟨_,_,⟨rfl,rfl⟩,h,n0⟩
   ·obtain⟨e,h1,h2,h3⟩:=h;exact⟨_,_,⟨e,h1,h2,rfl,rfl⟩,h3,n0⟩
   ·obtain⟨h1,h3⟩:=h;exact⟨_,_,⟨h1,rfl,rfl⟩,h3,n0⟩
   ·exact⟨_,_,⟨rfl,rfl⟩,h,n0⟩
   ·exact h.elim
 |call x args=>
  simp only[Ak]at h ⊢;split at h
  ·obtain⟨ps,rs,bor,h1,h2,h3,h4,h5⟩:=h;exact⟨_,_,⟨ps,rs,bor,h1,h2,h3,h4,rfl,rfl⟩,h5,Sk rs b _ (by omega),(fun e=>by simp[ROp.allocs]at e)⟩
  ·obtain⟨ps,rs,bor,h1,h2,h3,h4,h5⟩:=h;exact⟨_,_,⟨ps,rs,bor,h1,h2,h3,h4,rfl,rfl⟩,h5,Sk rs b _ (by omega),(fun e=>by simp[ROp.allocs]at e)⟩
  ·exact h.elim
 |mkfn f caps=>exact⟨_,_,⟨rfl,rfl⟩,h,n0⟩
 |store _ _ _=>exact h.elim
 |app _ _ _ _ _ _=>exact h.elim
 |mkm=>exact⟨_,_,⟨rfl,rfl⟩,h,n1 _ rfl,(fun e=>by simp[ROp.allocs]at e)⟩
 |mlook kd ok z x i=>
  simp only[Ak]at h ⊢;obtain⟨An,kv,r,h1,h2,h3,h4⟩:=h;exact⟨_,_,⟨An,kv,r,h1,h2,h3,rfl,rfl⟩,h4,n0⟩
 |mlen x=>
  simp only[Ak]at h ⊢;obtain⟨An,h1,h2⟩:=h;exact⟨_,_,⟨An,h1,rfl,rfl⟩,h2,n0⟩
 |mupd _ _ _ _=>exact h.elim
 |die _=>exact h.elim
 |clr _ _ _=>exact h.elim
 |isnil _ _=>exact h.elim
 |mki t x=>
  simp only[Ak]at h ⊢;split at h
  ·exact⟨_,_,⟨rfl,rfl⟩,h,n0⟩
  ·obtain⟨vs,h1,h2⟩:=h;exact⟨_,_,⟨vs,h1,rfl,rfl⟩,h2,n0⟩
  ·exact h.elim
 |ofB x=>
  simp only[Ak]at h ⊢;obtain⟨rows,ns,h1,h2,h3⟩:=h;exact⟨_,_,⟨rows,ns,h1,h2,rfl,rfl⟩,h3,n0⟩
 |toB x=>
  simp only[Ak]at h ⊢;split at h
  ·exact⟨_,_,⟨rfl,rfl⟩,h,n0⟩
  ·exact h.elim
end
end Go.Proofs.YtchbkgnobpejnaaGreatDoor
