/- The framework: part of this claim. -/
import Derived.Test.YtchbkgnobpejnaaGreatDoorWAbsEq
import Derived.Test.YtchbkgnobpejnaaGreatDoorWAbsV
import Derived.Deep.Upon
set_option linter.unusedSimpArgs false
set_option linter.unusedVariables false
namespace Go.Proofs.YtchbkgnobpejnaaGreatDoor
open Go.RowKit
section
variable {P:Program} {st:St} {a:Act} {w w':World} {R:Nat→Prop} {G:Nat→Option Loc} {o:Oper} {r:ROp} {Q:Exit→Act→World→Prop} {d:Nat} {u:V} {dH:List (Nat×Option Ent)}
theorem Vn[Glob]{c:Ctx}(h:Ac c st a w R G)(l:List Operand):(l.map (val st.env)).length=(l.map a.eval).length∧∀(i:Nat) (u:V) (x:Value),(l.map (val st.env))[i]? =some u→(l.map a.eval)[i]? =some x→RV w R G u x:=by
 refine⟨by simp,fun i u x h1 h2=>?_⟩;rw[XJ]at h1 h2;cases hq:l[i]? with
 |none=>rw[hq]at h1;cases h1
 |some y=>rw[hq]at h1 h2;simp at h1 h2;subst h1 h2;exact h.val y
set_option maxHeartbeats 1000000 in
theorem De[Glob]{c:Ctx}(hres:A7 P o=some r){g:Nat→Nat}(hgen:∀id,id/16=d→∀l0,G id=some l0→l0.gen<g id)(h:Ac c st a w R G)(hs:Ah P r st.env st.H g (16*d) (fun v dh=>v=u∧dh=dH)):Cr P c st a w G o Q d u dH:=by
 have hid:(16*d)/16=d:=by omega
 have hids:∀k,k<16→(16*d+k)/16=d:=fun k hk=>by omega
 cases hop:o.op with
 |move x=>
  simp only[A7,hop,ZD]at hres;subst hres;simp only[Ah]at hs;obtain⟨rfl,rfl⟩:=hs;exact Apj (.inl hop) h
 |assign x=>
  simp only[A7,hop,ZD]at hres;subst hres;simp only[Ah]at hs;obtain⟨rfl,rfl⟩:=hs;exact Apj (.inr hop) h
 |pick x y z=>
  simp only[A7,hop,ZD]at hres;subst hres;simp only[Ah]at hs;split at hs
  ·rename_i t ht;have:=Ank (P:=P) (Q:=Q) (d:=d) hop h ht;cases t with
   |true=>obtain⟨rfl,rfl⟩:=hs.1 rfl;exact this
   |false=>obtain⟨rfl,rfl⟩:=hs.2 rfl;exact this
  ·exact hs.elim
 |box T x=>
  simp only[A7,hop]at hres;split at hres
  ·rename_i i hi;split at hres
   ·rename_i h0;simp only[ZD]at hres;subst hres;simp only[Ah]at hs;split at hs
    ·rename_i cs hcs;obtain⟨h1,h2,rfl,rfl⟩:=hs;have:=Aqn (Q:=Q) (P:=P) hid (hgen _ hid) hop h hcs (by omega) h2;rw[h1]at this;exact this
    ·exact hs.elim
   ·cases hres
  ·cases hres
 |alloc T=>
  simp only[A7,hop]at hres;split at hres
  ·rename_i i hi;split at hres
   ·rename_i z hz;split at hres
    ·rename_i h0;simp only[ZO,decide_eq_true_eq]at h0;simp only[ZD]at hres;subst hres;simp only[Ah]at hs;obtain⟨rfl,rfl⟩:=hs;exact Aod hid (hgen _ hid) hop hi hz h h0.1 h0.2
    ·cases hres
   ·cases hres
  ·cases hres
 |makeSlice t x y=>
  simp only[A7,hop]at hres;split at hres
  ·rename_i e ht;split at hres
   ·rename_i i hi;split at hres
    ·rename_i z hz;split at hres
     ·rename_i h0;simp only[ZO,decide_eq_true_eq,ZR]at h0;simp only[ZD]at hres;subst hres;simp only[Ah]at hs;split at hs
      ·rename_i k1 n k2 m hx hy;obtain⟨k,rfl,rfl,h3,h4,rfl,rfl⟩:=hs;exact Ar5 hid (hgen _ hid) hop ht hi hz h0.1.1 h0.1.2 h0.2 h hx hy h3 h4
      ·exact hs.elim
     ·cases hres
    ·cases hres
   ·cases hres
  ·cases hres
 |load t x=>
  simp only[A7,hop]at hres;have key:∀(agg:Bool) (i:TypeInfo) (sz:Nat),P.info? t=some i→F3 P t=some agg→(sz=if agg then i.size else 1)→r=.load agg sz x→Cr P c st a w G o Q d u dH:=fun agg i sz hi ha hsz hr=>by
   subst hr;simp only[Ah]at hs;split at hs
   ·rename_i row off hv;obtain⟨h1,rfl,rfl⟩:=hs;exact Ahi hop hi ha hsz h hv h1
   ·rename_i id gen k off hv;obtain⟨e,row,h1,h2,h3,h4,rfl,rfl⟩:=hs;exact Aj8 hop hi ha hsz h hv h1 h2 h3 h4
   ·exact hs.elim
  split at hres
  ·rename_i i hi ha;simp only[ZD]at hres;exact key true i i.size hi ha rfl hres.symm
  ·rename_i i hi ha;simp only[ZD]at hres;exact key false i 1 hi ha rfl hres.symm
  ·cases hres
 |binOp op t x y t'=>
  simp only[A7,hop]at hres;have kb:r=.bin op x y→Cr P c st a w G o Q d u dH:=fun hr=>by
   subst hr;simp only[Ah]at hs;split at hs
   ·rename_i p q hx hy;obtain⟨r,h1,rfl,rfl⟩:=Yi hs;exact Aqx hop h hx hy h1
   ·exact hs.elim
  have ke:∀neg:Bool,(op=if neg then .neq else .eql)→P.underlying t=some .bool→r=.eqb neg x y→Cr P c st a w G o Q d u dH:=fun neg hn ht hr=>by
   subst hr;simp only[Ah]at hs;split at hs
   ·rename_i p q hx hy;obtain⟨rfl,rfl⟩:=hs;exact Apk hop ht hn h hx hy
   ·exact hs.elim
  have ks:∀neg:Bool,(op=if neg then .neq else .eql)→∀fs,P.underlying t=some (.struct fs)→∀ts,F9 P 20 t=some ts→r=.eqS neg ts x y→Cr P c st a w G o Q d u dH:=fun neg hn fs ht ts hts hr=>by
   subst hr;simp only[Ah]at hs;split at hs
   ·rename_i us vs hx hy;split at hs
    ·rename_i b hb;obtain⟨rfl,rfl⟩:=hs;exact Apl hop ht hts hn h hx hy hb
    ·exact hs.elim
   ·exact hs.elim
  split at hres
  ·split at hres
   ·simp only[ZD]at hres;subst hres;exact hs.elim
   ·cases hres
  ·split at hres
   ·simp only[ZD]at hres;subst hres;exact hs.elim
   ·cases hres
  ·rename_i ht;simp only[ZD]at hres;exact ke false rfl ht hres.symm
  ·rename_i ht;simp only[ZD]at hres;exact ke true rfl ht hres.symm
  ·simp only[ZD]at hres;exact kb hres.symm
  ·simp only[ZD]at hres;exact kb hres.symm
  ·rename_i fs ht;simp only[Option.map_eq_some_iff]at hres;obtain⟨ts,hts,hr⟩:=hres;exact ks false rfl fs ht ts hts hr.symm
  ·rename_i fs ht;simp only[Option.map_eq_some_iff]at hres;obtain⟨ts,hts,hr⟩:=hres;exact ks true rfl fs ht ts hts hr.symm
  ·cases hres
 |unOp op t x=>
  cases op with
  |not=>
   simp only[A7,hop,ZD]at hres;subst hres;simp only[Ah]at hs;split at hs
   ·rename_i p hx;obtain⟨rfl,rfl⟩:=hs;exact Aoz hop h hx
   ·exact hs.elim
  |neg=>
   simp only[A7,hop,ZD]at hres;subst hres;simp only[Ah]at hs;split at hs
   ·rename_i k n hx;obtain⟨_,rfl,rfl,rfl⟩:=hs;exact Aqw hop h hx
   ·exact hs.elim
  |_=>simp[A7,hop]at hres
 |convert s t x=>
  simp only[A7,hop]at hres;split at hres
  ·rename_i k0 k hs0 ht;simp only[ZD]at hres;subst hres;simp only[Ah]at hs;split at hs
   ·rename_i k' n hx;obtain⟨_,rfl,rfl,rfl⟩:=hs;exact Ao6 hop hs0 ht h hx
   ·exact hs.elim
  ·rename_i hs0 ht;simp only[ZD]at hres;subst hres;simp only[Ah]at hs;split at hs
   ·rename_i b hx;obtain⟨rfl,rfl⟩:=hs;exact Alf (dsc:=.string) hop hs0 ht h hx
   ·exact hs.elim
  ·rename_i e hs0 ht;split at hres
   ·rename_i i he hi;split at hres
    ·simp only[ZD]at hres;subst hres;simp only[Ah]at hs;obtain⟨rows,ns,h1,rfl,rfl,rfl⟩:=hs;exact Aq6 hop hs0 he ht h h1
    ·cases hres
   ·cases hres
  ·rename_i e hs0 ht;split at hres
   ·rename_i he;simp only[ZD]at hres;subst hres;simp only[Ah]at hs;split at hs
    ·rename_i b hx;obtain⟨rfl,rfl⟩:=hs;exact Aps hop hs0 he ht h hx
    ·exact hs.elim
   ·cases hres
  ·cases hres
 |field t x k=>
  simp only[A7,hop]at hres;split at hres
  ·rename_i fs ht;split at hres
   ·rename_i f hf;have key:∀(agg:Bool) (i:TypeInfo) (sz:Nat),P.info? f.type=some i→F3 P f.type=some agg→(sz=if agg then i.size else 1)→r=.fld agg sz f.offset x→Cr P c st a w G o Q d u dH:=fun agg i sz hi ha hsz hr=>by
     subst hr;simp only[Ah]at hs;split at hs
     ·rename_i us hv;obtain⟨h1,rfl,rfl⟩:=hs;exact Ar3 hop ht hf hi ha hsz h hv h1
     ·exact hs.elim
    split at hres
    ·rename_i i hi ha;simp only[ZD]at hres;exact key true i i.size hi ha rfl hres.symm
    ·rename_i i hi ha;simp only[ZD]at hres;exact key false i 1 hi ha rfl hres.symm
    ·cases hres
   ·cases hres
  ·cases hres
 |fieldAddr t x k=>
  simp only[A7,hop]at hres;split at hres
  ·rename_i fs ht;split at hres
   ·rename_i f hf;split at hres
    ·rename_i i hi;split at hres
     ·rename_i h0;simp only[ZD]at hres;subst hres;simp only[Ah]at hs;split at hs
      ·rename_i row off hv;obtain⟨rfl,rfl⟩:=hs;exact Ah3 hop ht hf hi h0 h hv
      ·rename_i id gen j off hv;obtain⟨⟨e,h1,h2⟩,rfl,rfl⟩:=hs;exact Aig hop ht hf hi h0 h hv h1 h2
      ·exact hs.elim
     ·cases hres
    ·cases hres
   ·cases hres
  ·cases hres
 |nilCheck x=>
  simp only[A7,hop,ZD]at hres;subst hres;simp only[Ah]at hs;split at hs
  ·rename_i row off hv;obtain⟨rfl,rfl⟩:=hs;exact Aki hop h hv
  ·rename_i id gen j off hv;obtain⟨⟨e,h1,h2⟩,rfl,rfl⟩:=hs;exact Al2 hop h hv h1 h2
  ·exact hs.elim
 |indexAddr t x y=>
  simp only[A7,hop]at hres;split at hres
  ·rename_i e ht;split at hres
   ·rename_i j hj;split at hres
    ·rename_i h0;simp only[ZD]at hres;subst hres;simp only[Ah]at hs;split at hs
     ·rename_i clip rows k n hx hy;obtain⟨m,row,rfl,h1,h2,rfl,rfl⟩:=hs;exact Aht hop ht hj h hx hy h1 h2
     ·rename_i id gen k n hx hy;obtain⟨en,m,row,h1,h2,h3,rfl,h4,rfl,rfl⟩:=hs;exact Aih hop ht hj h hx hy h1 h2 h3 h4
     ·exact hs.elim
    ·cases hres
   ·cases hres
  ·cases hres
 |index t x y=>
  simp only[A7,hop]at hres;split at hres
  ·rename_i ht;simp only[ZD]at hres;subst hres;simp only[Ah]at hs;split at hs
   ·rename_i s k n hx hy;obtain⟨m,ch,rfl,h1,rfl,rfl⟩:=hs;exact Aom hop ht h hx hy h1
   ·exact hs.elim
  ·cases hres
 |slice t x lo hi mx=>
  simp only[A7,hop]at hres;split at hres
  ·rename_i ht;split at hres
   ·rename_i hm;simp only[ZD]at hres;subst hres;have hm':mx=none:=by simpa using hm
    subst hm';simp only[Ah]at hs;split at hs
    ·rename_i s hx;obtain⟨l,k,h1,h2,h3,h4,rfl,rfl⟩:=hs;exact Ano hop ht h hx h1 h2 h3 h4
    ·exact hs.elim
   ·cases hres
  ·rename_i e ht;split at hres
   ·rename_i j hj;split at hres
    ·rename_i h0;simp only[ZD]at hres;subst hres;simp only[Ah]at hs;split at hs
     ·rename_i clip rows hx;obtain⟨l,k,h1,h2,h3,h4,h5,h6⟩:=hs;cases mx with
      |none=>
       obtain⟨rfl,rfl⟩:=h6;exact Yj hop ht hj h hx h1 h2 h3 h4 h5 (.inl ⟨rfl,rfl⟩)
      |some y=>
       obtain⟨h7,⟨kd,hk⟩,rfl,rfl⟩:=h6;exact Yj hop ht hj h hx h1 h2 h3 h4 h5 (.inr ⟨y,kd,rfl,h7,hk⟩)
     ·rename_i id gen hx;obtain⟨e,l,k,h1,h2,h3,h4,h5,h6,h7,h8⟩:=hs;cases mx with
      |none=>
       obtain⟨_,rfl,rfl⟩:=h8;exact Aiz hop ht hj h hx h1 h2 h3 h4 h5 h6 h7
      |some y=>
       obtain⟨rfl,h9,⟨kd,hk⟩,rfl,rfl⟩:=h8;exact Aia hop ht hj h hx h1 h2 h4 h5 h9 hk h7
     ·rename_i id gen lo0 hi0 hx;obtain⟨e,l,k,h1,h2,h3,h4,h5,h6,h7,rfl,h8,rfl,rfl⟩:=hs;exact Ai0 hop ht hj h (hx▸h.val x) h1 h2 h3 h4 h5 h6 h7 h8
     ·exact hs.elim
    ·cases hres
   ·cases hres
  ·cases hres
 |extract x i=>
  simp only[A7,hop,ZD]at hres;subst hres;simp only[Ah]at hs;split at hs
  ·rename_i us hx;obtain⟨v,h1,rfl,rfl⟩:=hs;exact Apw hop h hx h1
  ·exact hs.elim
 |build t ps=>
  simp only[A7,hop]at hres;split at hres
  ·rename_i i hi;split at hres
   ·rename_i z fs hz ht;split at hres
    ·rename_i hall;simp only[ZO]at hall;simp only[Option.map_eq_some_iff]at hres;obtain⟨rps,hp,rfl⟩:=hres;simp only[Ah]at hs;obtain⟨us,h1,rfl,rfl⟩:=Vc _ _ _ hs;exact Akw hop hi hz ht hall.1 hp hall.2 h h1
    ·cases hres
   ·cases hres
  ·cases hres
 |buildSlice t n ps=>
  simp only[A7,hop]at hres;split at hres
  ·rename_i e ht;split at hres
   ·rename_i i hi;split at hres
    ·rename_i z hz;split at hres
     ·rename_i h0;simp only[ZO,decide_eq_true_eq,ZR]at h0;simp only[ZD]at hres;subst hres;simp only[Ah]at hs;obtain⟨rows,h1,rfl,rfl⟩:=Un _ _ _ hs;exact Aqo hid (hgen _ hid) hop ht hi hz h0.1.1.1 h0.1.1.2 h0.1.2 h0.2 h h1
     ·cases hres
    ·cases hres
   ·cases hres
  ·cases hres
 |makeFunc fn first caps=>
  cases fn with
  |func f=>
   simp only[A7,hop]at hres;split at hres
   ·rename_i h0;simp only[ZD]at hres;subst hres;simp only[Ah]at hs;obtain⟨rfl,rfl⟩:=hs;exact Anh hop h0 h
   ·cases hres
  |_=>simp[A7,hop]at hres
 |call cl=>
  obtain⟨callee,args,argTypes⟩:=cl;cases callee with
  |value f=>
   simp only[A7,hop,ZD]at hres;subst hres;simp only[Ah]at hs;obtain⟨e1,e2⟩:=Vn h args.toList;split at hs
   ·rename_i f' hf;obtain⟨ps,rs,bor,h1,h2,h3,h4,rfl,rfl⟩:=hs;have hx:a.eval f=.func (.func f') #[] ([]:List Value).toArray:=B8 (hf▸h.val f);have hr:=K5 (P:=P) (w:=w) hop rfl hx h2.1;rw[List.append_nil]at hr;have:=Ad8 (Q:=Q) (gone:=[]) hids hgen h hr e1 e2 h1 h2 h3 h4;simpa using this
   ·rename_i f' caps hf;obtain⟨ps,rs,bor,h1,h2,h3,h4,rfl,rfl⟩:=hs;have hv:=h.val f;rw[hf]at hv;generalize hax:a.eval f=ax at hv;cases hv with
    |clo f' caps xs hl hh=>
     have hr:=K5 (P:=P) (w:=w) hop rfl hax h2.1;have:=Ad8 (Q:=Q) (gone:=[]) (us:=args.toList.map (val st.env)++caps) hids hgen h hr (by simp[hl]) ?_ h1 h2 h3 h4
     ·simpa using this
     ·intro i u x g1 g2;by_cases hi:i<(args.toList.map (val st.env)).length
      ·rw[ZQ hi]at g1;rw[ZQ (by simpa using hi)]at g2;exact e2 i u x g1 g2
      ·rw[ZP (by omega)]at g1;rw[ZP (by simpa using hi)]at g2;exact hh _ u x (by simpa using g1) (by simpa using g2)
   ·exact hs.elim
  |invoke f m=>simp[A7,hop]at hres
  |builtin b=>
   cases b with
   |len=>
    simp only[A7,hop]at hres;split at hres
    ·rename_i x t hax hat;split at hres
     ·rename_i ht;simp only[ZD]at hres;subst hres;simp only[Ah]at hs;split at hs
      ·rename_i s hx;obtain⟨rfl,rfl⟩:=hs;exact Akg hop rfl hax hat ht h hx
      ·exact hs.elim
     ·rename_i e ht;simp only[ZD]at hres;subst hres;simp only[Ah]at hs;split at hs
      ·rename_i b n cap hx;obtain⟨rfl,rfl⟩:=hs;exact Jt hop rfl hax hat ht h (B8 (hx▸h.val x))
      ·rename_i clip rows hx;obtain⟨rfl,rfl⟩:=hs;have hv:=h.val x;rw[hx]at hv;generalize hae:a.eval x=ax at hv;cases hv with
       |nil=>exact Jt hop rfl hax hat ht h hae
       |sl=>exact Jt hop rfl hax hat ht h hae
      ·rename_i id gen hx;obtain⟨e,h1,h2,rfl,rfl⟩:=hs;obtain⟨l,xs,T0,g1,g2,g3,g4,g5,g6,hae,hT0,hop0,hbx0⟩:=h.objO (hx▸h.val x) h1 h2;rcases Es g5 with⟨q1,q2⟩|⟨b,cap,q1,_⟩
       ·rw[q1]at hae;have:=Jt (Q:=Q) (P:=P) (d:=d) hop rfl hax hat ht h hae;rw[q2];exact this
       ·rw[q1]at hae;exact Jt hop rfl hax hat ht h hae
      ·rename_i id gen lo hi hx;obtain⟨⟨e,h1,h2⟩,rfl,rfl⟩:=hs;exact Agb hop rfl hax hat ht h hx h1 h2
      ·rename_i id gen b n cap hx;obtain⟨rfl,rfl⟩:=hs;have hv:=h.val x;rw[hx]at hv;generalize hae:a.eval x=ax at hv;cases hv with
       |inm=>exact Jt hop rfl hax hat ht h hae
      ·exact hs.elim
     ·rename_i kt et ht;simp only[ZD]at hres;subst hres;simp only[Ah]at hs;obtain⟨An,h1,rfl,rfl⟩:=hs;exact Aoe hop rfl hax hat ht h h1
     ·cases hres
    ·cases hres
   |max=>
    simp only[A7,hop]at hres;split at hres
    ·rename_i x y hax;simp only[ZD]at hres;subst hres;simp only[Ah]at hs;split at hs
     ·rename_i k p k' q hx hy;obtain⟨rfl,rfl⟩:=hs;exact Aqp hop rfl hax h hx hy
     ·exact hs.elim
    ·cases hres
   |min=>
    simp only[A7,hop]at hres;split at hres
    ·rename_i x y hax;simp only[ZD]at hres;subst hres;simp only[Ah]at hs;split at hs
     ·rename_i k p k' q hx hy;obtain⟨rfl,rfl⟩:=hs;exact Apn hop rfl hax h hx hy
     ·exact hs.elim
    ·cases hres
   |append=>
    simp only[A7,hop]at hres;split at hres
    ·split at hres
     ·split at hres
      ·split at hres
       ·split at hres
        ·split at hres
         ·simp only[ZD]at hres;subst hres;exact hs.elim
         ·cases hres
        ·cases hres
       ·cases hres
      ·cases hres
     ·cases hres
    ·cases hres
   |clear=>
    simp only[A7,hop]at hres
    repeat' (split at hres)
    all_goals first|(cases hres;done)|(simp only[ZD]at hres;subst hres;exact hs.elim)
   |_=>simp[A7,hop]at hres
 |store t x y=>
  simp only[A7,hop]at hres;split at hres
  ·simp only[ZD]at hres;subst hres;exact hs.elim
  ·cases hres
 |makeMap t rs=>
  cases rs with
  |some _=>simp[A7,hop]at hres
  |none=>
   simp only[A7,hop,ZD]at hres;subst hres;simp only[Ah]at hs;obtain⟨rfl,rfl⟩:=hs;exact Aq2 hid (hgen _ hid) hop h
 |lookup t x y ok=>
  simp only[A7,hop]at hres;split at hres
  ·rename_i kt et ht;split at hres
   ·rename_i kd i hkt hi;split at hres
    ·rename_i z hz;split at hres
     ·rename_i h0;simp only[ZO]at h0;simp only[ZD]at hres;subst hres;simp only[Ah]at hs;obtain⟨An,kv,r,h1,h2,h3,rfl,rfl⟩:=hs;exact Alh hop ht hkt h0.1 hi hz h h1 h2 h3
     ·cases hres
    ·cases hres
   ·cases hres
  ·cases hres
 |panic x=>
  simp only[A7,hop,ZD]at hres;subst hres;exact hs.elim
 |makeInterface t x=>
  simp only[A7,hop]at hres;split at hres
  ·cases hres
  ·rename_i ds hni ht;simp only[ZD]at hres;subst hres;simp only[Ah]at hs;split at hs
   ·rename_i v hx;obtain⟨rfl,rfl⟩:=hs;exact Am5 hop ht (fun m e=>hni m e) h (fun y hy=>B8 (hx▸hy))
   ·rename_i cs hx;obtain⟨vs,rfl,rfl,rfl⟩:=hs;exact Am5 hop ht (fun m e=>hni m e) h (fun y hy=>Aq4 (hx▸hy))
   ·exact hs.elim
  ·cases hres
 |mapUpdate t x y z=>
  simp only[A7,hop]at hres
  repeat' (split at hres)
  all_goals first|(cases hres;done)|(simp only[ZD]at hres;subst hres;exact hs.elim)
 |insert t x y z=>
  simp only[A7,hop]at hres
  repeat' (split at hres)
  all_goals first|(cases hres;done)|(simp only[ZD]at hres;subst hres;exact hs.elim)
 |_=>simp[A7,hop]at hres
end
end Go.Proofs.YtchbkgnobpejnaaGreatDoor
