/- The framework: part of this claim. -/
import Derived.Test.YtchbkgnobpejnaaGreatDoorYAbsEq
import Derived.Test.YtchbkgnobpejnaaGreatDoorYAbsV
import Derived.Deep.Upon
set_option linter.unusedSimpArgs false
set_option linter.unusedVariables false
namespace Go.Proofs.YtchbkgnobpejnaaGreatDoor
open Go.RowKit
section
variable {P:Program} {st:St} {a:Act} {w w':World} {R:Nat→Prop} {G:Nat→Option Loc} {o:Oper} {r:ROp} {Q:Exit→Act→World→Prop} {d:Nat} {u:V} {dH:List (Nat×Option Ent)}
theorem Xx[Glob]{c:Ctx}(h:Ac c st a w R G)(l:List Operand):(l.map (val st.env)).length=(l.map a.eval).length∧∀(i:Nat) (u:V) (x:Value),(l.map (val st.env))[i]? =some u→(l.map a.eval)[i]? =some x→RV w R G u x:=by
 refine⟨by simp,fun i u x h1 h2=>?_⟩;rw[XJ]at h1 h2;cases hq:l[i]? with
 |none=>rw[hq]at h1;cases h1
 |some y=>rw[hq]at h1 h2;simp at h1 h2;subst h1 h2;exact h.val y
set_option maxHeartbeats 1000000 in
theorem Dr[Glob]{c:Ctx}(hres:A6 P o=some r){g:Nat→Nat}(hgen:∀id,id/16=d→∀l0,G id=some l0→l0.gen<g id)(h:Ac c st a w R G)(hs:Ak P r st.env st.H g (16*d) (fun v dh=>v=u∧dh=dH)):C2 P c st a w G o Q d u dH:=by
 have hid:(16*d)/16=d:=by omega
 have hids:∀k,k<16→(16*d+k)/16=d:=fun k hk=>by omega
 cases hop:o.op with
 |move x=>
  simp only[A6,hop,ZD]at hres;subst hres;simp only[Ak]at hs;obtain⟨rfl,rfl⟩:=hs;exact At5 (.inl hop) h
 |assign x=>
  simp only[A6,hop,ZD]at hres;subst hres;simp only[Ak]at hs;obtain⟨rfl,rfl⟩:=hs;exact At5 (.inr hop) h
 |pick x y z=>
  simp only[A6,hop,ZD]at hres;subst hres;simp only[Ak]at hs;split at hs
  ·rename_i t ht;have:=Aqp (P:=P) (Q:=Q) (d:=d) hop h ht;cases t with
   |true=>obtain⟨rfl,rfl⟩:=hs.1 rfl;exact this
   |false=>obtain⟨rfl,rfl⟩:=hs.2 rfl;exact this
  ·exact hs.elim
 |box T x=>
  simp only[A6,hop]at hres;split at hres
  ·rename_i i hi;split at hres
   ·rename_i h0;simp only[ZD]at hres;subst hres;simp only[Ak]at hs;split at hs
    ·rename_i cs hcs;obtain⟨h1,h2,rfl,rfl⟩:=hs;have:=Aru (Q:=Q) (P:=P) hid (hgen _ hid) hop h hcs (by omega) h2;rw[h1]at this;exact this
    ·exact hs.elim
   ·cases hres
  ·cases hres
 |alloc T=>
  simp only[A6,hop]at hres;split at hres
  ·rename_i i hi;split at hres
   ·rename_i z hz;split at hres
    ·rename_i h0;simp only[ZO,decide_eq_true_eq]at h0;simp only[ZD]at hres;subst hres;simp only[Ak]at hs;obtain⟨rfl,rfl⟩:=hs;exact Apg hid (hgen _ hid) hop hi hz h h0.1 h0.2
    ·cases hres
   ·cases hres
  ·cases hres
 |makeSlice t x y=>
  simp only[A6,hop]at hres;split at hres
  ·rename_i e ht;split at hres
   ·rename_i i hi;split at hres
    ·rename_i z hz;split at hres
     ·rename_i h0;simp only[ZO,decide_eq_true_eq,ZR]at h0;simp only[ZD]at hres;subst hres;simp only[Ak]at hs;split at hs
      ·rename_i k1 n k2 m hx hy;obtain⟨k,rfl,rfl,h3,h4,rfl,rfl⟩:=hs;exact Ase hid (hgen _ hid) hop ht hi hz h0.1.1 h0.1.2 h0.2 h hx hy h3 h4
      ·exact hs.elim
     ·cases hres
    ·cases hres
   ·cases hres
  ·cases hres
 |load t x=>
  simp only[A6,hop]at hres;have key:∀(agg:Bool) (i:TypeInfo) (sz:Nat),P.info? t=some i→G5 P t=some agg→(sz=if agg then i.size else 1)→r=.load agg sz x→C2 P c st a w G o Q d u dH:=fun agg i sz hi ha hsz hr=>by
   subst hr;simp only[Ak]at hs;split at hs
   ·rename_i row off hv;obtain⟨h1,rfl,rfl⟩:=hs;exact Aln hop hi ha hsz h hv h1
   ·rename_i id gen k off hv;obtain⟨e,row,h1,h2,h3,h4,rfl,rfl⟩:=hs;exact Ajk hop hi ha hsz h hv h1 h2 h3 h4
   ·exact hs.elim
  split at hres
  ·rename_i i hi ha;simp only[ZD]at hres;exact key true i i.size hi ha rfl hres.symm
  ·rename_i i hi ha;simp only[ZD]at hres;exact key false i 1 hi ha rfl hres.symm
  ·cases hres
 |binOp op t x y t'=>
  simp only[A6,hop]at hres;have kb:r=.bin op x y→C2 P c st a w G o Q d u dH:=fun hr=>by
   subst hr;simp only[Ak]at hs;split at hs
   ·rename_i p q hx hy;obtain⟨r,h1,rfl,rfl⟩:=Ab6 hs;exact Atz hop h hx hy h1
   ·exact hs.elim
  have ke:∀neg:Bool,(op=if neg then .neq else .eql)→P.underlying t=some .bool→r=.eqb neg x y→C2 P c st a w G o Q d u dH:=fun neg hn ht hr=>by
   subst hr;simp only[Ak]at hs;split at hs
   ·rename_i p q hx hy;obtain⟨rfl,rfl⟩:=hs;exact At7 hop ht hn h hx hy
   ·exact hs.elim
  have ks:∀neg:Bool,(op=if neg then .neq else .eql)→∀fs,P.underlying t=some (.struct fs)→∀ts,Hs P 20 t=some ts→r=.eqS neg ts x y→C2 P c st a w G o Q d u dH:=fun neg hn fs ht ts hts hr=>by
   subst hr;simp only[Ak]at hs;split at hs
   ·rename_i us vs hx hy;split at hs
    ·rename_i b hb;obtain⟨rfl,rfl⟩:=hs;exact Asc hop ht hts hn h hx hy hb
    ·exact hs.elim
   ·exact hs.elim
  split at hres
  ·split at hres
   ·simp only[ZD]at hres;subst hres;exact hs.elim
   ·cases hres
  ·split at hres
   ·simp only[ZD]at hres;subst hres;exact hs.elim
   ·cases hres
  ·rename_i ht;simp only[ZD]at hres;exact ke false rfl ht hres.symm
  ·rename_i ht;simp only[ZD]at hres;exact ke true rfl ht hres.symm
  ·simp only[ZD]at hres;exact kb hres.symm
  ·simp only[ZD]at hres;exact kb hres.symm
  ·rename_i fs ht;simp only[Option.map_eq_some_iff]at hres;obtain⟨ts,hts,hr⟩:=hres;exact ks false rfl fs ht ts hts hr.symm
  ·rename_i fs ht;simp only[Option.map_eq_some_iff]at hres;obtain⟨ts,hts,hr⟩:=hres;exact ks true rfl fs ht ts hts hr.symm
  ·cases hres
 |unOp op t x=>
  cases op with
  |not=>
   simp only[A6,hop,ZD]at hres;subst hres;simp only[Ak]at hs;split at hs
   ·rename_i p hx;obtain⟨rfl,rfl⟩:=hs;exact Art hop h hx
   ·exact hs.elim
  |neg=>
   simp only[A6,hop,ZD]at hres;subst hres;simp only[Ak]at hs;split at hs
   ·rename_i k n hx;obtain⟨_,rfl,rfl,rfl⟩:=hs;exact Atl hop h hx
   ·exact hs.elim
  |_=>simp[A6,hop]at hres
 |convert s t x=>
  simp only[A6,hop]at hres;split at hres
  ·rename_i k0 k hs0 ht;simp only[ZD]at hres;subst hres;simp only[Ak]at hs;split at hs
   ·rename_i k' n hx;obtain⟨_,rfl,rfl,rfl⟩:=hs;exact Apy hop hs0 ht h hx
   ·exact hs.elim
  ·rename_i hs0 ht;simp only[ZD]at hres;subst hres;simp only[Ak]at hs;split at hs
   ·rename_i b hx;obtain⟨rfl,rfl⟩:=hs;exact Aoa (dsc:=.string) hop hs0 ht h hx
   ·exact hs.elim
  ·rename_i e hs0 ht;split at hres
   ·rename_i i he hi;split at hres
    ·simp only[ZD]at hres;subst hres;simp only[Ak]at hs;obtain⟨rows,ns,h1,rfl,rfl,rfl⟩:=hs;exact Ass hop hs0 he ht h h1
    ·cases hres
   ·cases hres
  ·rename_i e hs0 ht;split at hres
   ·rename_i he;simp only[ZD]at hres;subst hres;simp only[Ak]at hs;split at hs
    ·rename_i b hx;obtain⟨rfl,rfl⟩:=hs;exact Asg hop hs0 he ht h hx
    ·exact hs.elim
   ·cases hres
  ·cases hres
 |field t x k=>
  simp only[A6,hop]at hres;split at hres
  ·rename_i fs ht;split at hres
   ·rename_i f hf;have key:∀(agg:Bool) (i:TypeInfo) (sz:Nat),P.info? f.type=some i→G5 P f.type=some agg→(sz=if agg then i.size else 1)→r=.fld agg sz f.offset x→C2 P c st a w G o Q d u dH:=fun agg i sz hi ha hsz hr=>by
     subst hr;simp only[Ak]at hs;split at hs
     ·rename_i us hv;obtain⟨h1,rfl,rfl⟩:=hs;exact As0 hop ht hf hi ha hsz h hv h1
     ·exact hs.elim
    split at hres
    ·rename_i i hi ha;simp only[ZD]at hres;exact key true i i.size hi ha rfl hres.symm
    ·rename_i i hi ha;simp only[ZD]at hres;exact key false i 1 hi ha rfl hres.symm
    ·cases hres
   ·cases hres
  ·cases hres
 |fieldAddr t x k=>
  simp only[A6,hop]at hres;split at hres
  ·rename_i fs ht;split at hres
   ·rename_i f hf;split at hres
    ·rename_i i hi;split at hres
     ·rename_i h0;simp only[ZD]at hres;subst hres;simp only[Ak]at hs;split at hs
      ·rename_i row off hv;obtain⟨rfl,rfl⟩:=hs;exact Alk hop ht hf hi h0 h hv
      ·rename_i id gen j off hv;obtain⟨⟨e,h1,h2⟩,rfl,rfl⟩:=hs;exact Akc hop ht hf hi h0 h hv h1 h2
      ·exact hs.elim
     ·cases hres
    ·cases hres
   ·cases hres
  ·cases hres
 |nilCheck x=>
  simp only[A6,hop,ZD]at hres;subst hres;simp only[Ak]at hs;split at hs
  ·rename_i row off hv;obtain⟨rfl,rfl⟩:=hs;exact Aoh hop h hv
  ·rename_i id gen j off hv;obtain⟨⟨e,h1,h2⟩,rfl,rfl⟩:=hs;exact Amx hop h hv h1 h2
  ·exact hs.elim
 |indexAddr t x y=>
  simp only[A6,hop]at hres;split at hres
  ·rename_i e ht;split at hres
   ·rename_i j hj;split at hres
    ·rename_i h0;simp only[ZD]at hres;subst hres;simp only[Ak]at hs;split at hs
     ·rename_i clip rows k n hx hy;obtain⟨m,row,rfl,h1,h2,rfl,rfl⟩:=hs;exact Ajo hop ht hj h hx hy h1 h2
     ·rename_i id gen k n hx hy;obtain⟨en,m,row,h1,h2,h3,rfl,h4,rfl,rfl⟩:=hs;exact Am6 hop ht hj h hx hy h1 h2 h3 h4
     ·exact hs.elim
    ·cases hres
   ·cases hres
  ·cases hres
 |index t x y=>
  simp only[A6,hop]at hres;split at hres
  ·rename_i ht;simp only[ZD]at hres;subst hres;simp only[Ak]at hs;split at hs
   ·rename_i s k n hx hy;obtain⟨m,ch,rfl,h1,rfl,rfl⟩:=hs;exact Arm hop ht h hx hy h1
   ·exact hs.elim
  ·cases hres
 |slice t x lo hi mx=>
  simp only[A6,hop]at hres;split at hres
  ·rename_i ht;split at hres
   ·rename_i hm;simp only[ZD]at hres;subst hres;have hm':mx=none:=by simpa using hm
    subst hm';simp only[Ak]at hs;split at hs
    ·rename_i s hx;obtain⟨l,k,h1,h2,h3,h4,rfl,rfl⟩:=hs;exact Arc hop ht h hx h1 h2 h3 h4
    ·exact hs.elim
   ·cases hres
  ·rename_i e ht;split at hres
   ·rename_i j hj;split at hres
    ·rename_i h0;simp only[ZD]at hres;subst hres;simp only[Ak]at hs;split at hs
     ·rename_i clip rows hx;obtain⟨l,k,h1,h2,h3,h4,h5,h6⟩:=hs;cases mx with
      |none=>
       obtain⟨rfl,rfl⟩:=h6;exact Z8 hop ht hj h hx h1 h2 h3 h4 h5 (.inl ⟨rfl,rfl⟩)
      |some y=>
       obtain⟨h7,⟨kd,hk⟩,rfl,rfl⟩:=h6;exact Z8 hop ht hj h hx h1 h2 h3 h4 h5 (.inr ⟨y,kd,rfl,h7,hk⟩)
     ·rename_i id gen hx;obtain⟨e,l,k,h1,h2,h3,h4,h5,h6,h7,h8⟩:=hs;cases mx with
      |none=>
       obtain⟨_,rfl,rfl⟩:=h8;exact Alr hop ht hj h hx h1 h2 h3 h4 h5 h6 h7
      |some y=>
       obtain⟨rfl,h9,⟨kd,hk⟩,rfl,rfl⟩:=h8;exact Alu hop ht hj h hx h1 h2 h4 h5 h9 hk h7
     ·rename_i id gen lo0 hi0 hx;obtain⟨e,l,k,h1,h2,h3,h4,h5,h6,h7,rfl,h8,rfl,rfl⟩:=hs;exact Als hop ht hj h (hx▸h.val x) h1 h2 h3 h4 h5 h6 h7 h8
     ·exact hs.elim
    ·cases hres
   ·cases hres
  ·cases hres
 |extract x i=>
  simp only[A6,hop,ZD]at hres;subst hres;simp only[Ak]at hs;split at hs
  ·rename_i us hx;obtain⟨v,h1,rfl,rfl⟩:=hs;exact At1 hop h hx h1
  ·exact hs.elim
 |build t ps=>
  simp only[A6,hop]at hres;split at hres
  ·rename_i i hi;split at hres
   ·rename_i z fs hz ht;split at hres
    ·rename_i hall;simp only[ZO]at hall;simp only[Option.map_eq_some_iff]at hres;obtain⟨rps,hp,rfl⟩:=hres;simp only[Ak]at hs;obtain⟨us,h1,rfl,rfl⟩:=W7 _ _ _ hs;exact Anm hop hi hz ht hall.1 hp hall.2 h h1
    ·cases hres
   ·cases hres
  ·cases hres
 |buildSlice t n ps=>
  simp only[A6,hop]at hres;split at hres
  ·rename_i e ht;split at hres
   ·rename_i i hi;split at hres
    ·rename_i z hz;split at hres
     ·rename_i h0;simp only[ZO,decide_eq_true_eq,ZR]at h0;simp only[ZD]at hres;subst hres;simp only[Ak]at hs;obtain⟨rows,h1,rfl,rfl⟩:=Wm _ _ _ hs;exact Au5 hid (hgen _ hid) hop ht hi hz h0.1.1.1 h0.1.1.2 h0.1.2 h0.2 h h1
     ·cases hres
    ·cases hres
   ·cases hres
  ·cases hres
 |makeFunc fn first caps=>
  cases fn with
  |func f=>
   simp only[A6,hop]at hres;split at hres
   ·rename_i h0;simp only[ZD]at hres;subst hres;simp only[Ak]at hs;obtain⟨rfl,rfl⟩:=hs;exact Aqr hop h0 h
   ·cases hres
  |_=>simp[A6,hop]at hres
 |call cl=>
  obtain⟨callee,args,argTypes⟩:=cl;cases callee with
  |value f=>
   simp only[A6,hop,ZD]at hres;subst hres;simp only[Ak]at hs;obtain⟨e1,e2⟩:=Xx h args.toList;split at hs
   ·rename_i f' hf;obtain⟨ps,rs,bor,h1,h2,h3,h4,rfl,rfl⟩:=hs;have hx:a.eval f=.func (.func f') #[] ([]:List Value).toArray:=Cd (hf▸h.val f);have hr:=Mr (P:=P) (w:=w) hop rfl hx h2.1;rw[List.append_nil]at hr;have:=Aeu (Q:=Q) (gone:=[]) hids hgen h hr e1 e2 h1 h2 h3 h4;simpa using this
   ·rename_i f' caps hf;obtain⟨ps,rs,bor,h1,h2,h3,h4,rfl,rfl⟩:=hs;have hv:=h.val f;rw[hf]at hv;generalize hax:a.eval f=ax at hv;cases hv with
    |clo f' caps xs hl hh=>
     have hr:=Mr (P:=P) (w:=w) hop rfl hax h2.1;have:=Aeu (Q:=Q) (gone:=[]) (us:=args.toList.map (val st.env)++caps) hids hgen h hr (by simp[hl]) ?_ h1 h2 h3 h4
     ·simpa using this
     ·intro i u x g1 g2;by_cases hi:i<(args.toList.map (val st.env)).length
      ·rw[ZQ hi]at g1;rw[ZQ (by simpa using hi)]at g2;exact e2 i u x g1 g2
      ·rw[ZP (by omega)]at g1;rw[ZP (by simpa using hi)]at g2;exact hh _ u x (by simpa using g1) (by simpa using g2)
   ·exact hs.elim
  |invoke f m=>simp[A6,hop]at hres
  |builtin b=>
   cases b with
   |len=>
    simp only[A6,hop]at hres;split at hres
    ·rename_i x t hax hat;split at hres
     ·rename_i ht;simp only[ZD]at hres;subst hres;simp only[Ak]at hs;split at hs
      ·rename_i s hx;obtain⟨rfl,rfl⟩:=hs;exact Ane hop rfl hax hat ht h hx
      ·exact hs.elim
     ·rename_i e ht;simp only[ZD]at hres;subst hres;simp only[Ak]at hs;split at hs
      ·rename_i b n cap hx;obtain⟨rfl,rfl⟩:=hs;exact K2 hop rfl hax hat ht h (Cd (hx▸h.val x))
      ·rename_i clip rows hx;obtain⟨rfl,rfl⟩:=hs;have hv:=h.val x;rw[hx]at hv;generalize hae:a.eval x=ax at hv;cases hv with
       |nil=>exact K2 hop rfl hax hat ht h hae
       |sl=>exact K2 hop rfl hax hat ht h hae
      ·rename_i id gen hx;obtain⟨e,h1,h2,rfl,rfl⟩:=hs;obtain⟨l,xs,T0,g1,g2,g3,g4,g5,g6,hae,hT0,hop0,hbx0⟩:=h.objO (hx▸h.val x) h1 h2;rcases Fs g5 with⟨q1,q2⟩|⟨b,cap,q1,_⟩
       ·rw[q1]at hae;have:=K2 (Q:=Q) (P:=P) (d:=d) hop rfl hax hat ht h hae;rw[q2];exact this
       ·rw[q1]at hae;exact K2 hop rfl hax hat ht h hae
      ·rename_i id gen lo hi hx;obtain⟨⟨e,h1,h2⟩,rfl,rfl⟩:=hs;exact Ahz hop rfl hax hat ht h hx h1 h2
      ·rename_i id gen b n cap hx;obtain⟨rfl,rfl⟩:=hs;have hv:=h.val x;rw[hx]at hv;generalize hae:a.eval x=ax at hv;cases hv with
       |inm=>exact K2 hop rfl hax hat ht h hae
      ·exact hs.elim
     ·rename_i kt et ht;simp only[ZD]at hres;subst hres;simp only[Ak]at hs;obtain⟨An,h1,rfl,rfl⟩:=hs;exact Aq4 hop rfl hax hat ht h h1
     ·cases hres
    ·cases hres
   |max=>
    simp only[A6,hop]at hres;split at hres
    ·rename_i x y hax;simp only[ZD]at hres;subst hres;simp only[Ak]at hs;split at hs
     ·rename_i k p k' q hx hy;obtain⟨rfl,rfl⟩:=hs;exact Arz hop rfl hax h hx hy
     ·exact hs.elim
    ·cases hres
   |min=>
    simp only[A6,hop]at hres;split at hres
    ·rename_i x y hax;simp only[ZD]at hres;subst hres;simp only[Ak]at hs;split at hs
     ·rename_i k p k' q hx hy;obtain⟨rfl,rfl⟩:=hs;exact Asj hop rfl hax h hx hy
     ·exact hs.elim
    ·cases hres
   |append=>
    simp only[A6,hop]at hres;split at hres
    ·split at hres
     ·split at hres
      ·split at hres
       ·split at hres
        ·split at hres
         ·simp only[ZD]at hres;subst hres;exact hs.elim
         ·cases hres
        ·cases hres
       ·cases hres
      ·cases hres
     ·cases hres
    ·cases hres
   |clear=>
    simp only[A6,hop]at hres
    repeat' (split at hres)
    all_goals first|(cases hres;done)|(simp only[ZD]at hres;subst hres;exact hs.elim)
   |_=>simp[A6,hop]at hres
 |store t x y=>
  simp only[A6,hop]at hres;split at hres
  ·simp only[ZD]at hres;subst hres;exact hs.elim
  ·cases hres
 |makeMap t rs=>
  cases rs with
  |some _=>simp[A6,hop]at hres
  |none=>
   simp only[A6,hop,ZD]at hres;subst hres;simp only[Ak]at hs;obtain⟨rfl,rfl⟩:=hs;exact Ars hid (hgen _ hid) hop h
 |lookup t x y ok=>
  simp only[A6,hop]at hres;split at hres
  ·rename_i kt et ht;split at hres
   ·rename_i kd i hkt hi;split at hres
    ·rename_i z hz;split at hres
     ·rename_i h0;simp only[ZO]at h0;simp only[ZD]at hres;subst hres;simp only[Ak]at hs;obtain⟨An,kv,r,h1,h2,h3,rfl,rfl⟩:=hs;exact Ao2 hop ht hkt h0.1 hi hz h h1 h2 h3
     ·cases hres
    ·cases hres
   ·cases hres
  ·cases hres
 |panic x=>
  simp only[A6,hop,ZD]at hres;subst hres;exact hs.elim
 |makeInterface t x=>
  simp only[A6,hop]at hres;split at hres
  ·cases hres
  ·rename_i ds hni ht;simp only[ZD]at hres;subst hres;simp only[Ak]at hs;split at hs
   ·rename_i v hx;obtain⟨rfl,rfl⟩:=hs;exact Ap4 hop ht (fun m e=>hni m e) h (fun y hy=>Cd (hx▸hy))
   ·rename_i cs hx;obtain⟨vs,rfl,rfl,rfl⟩:=hs;exact Ap4 hop ht (fun m e=>hni m e) h (fun y hy=>Arv (hx▸hy))
   ·exact hs.elim
  ·cases hres
 |mapUpdate t x y z=>
  simp only[A6,hop]at hres
  repeat' (split at hres)
  all_goals first|(cases hres;done)|(simp only[ZD]at hres;subst hres;exact hs.elim)
 |insert t x y z=>
  simp only[A6,hop]at hres
  repeat' (split at hres)
  all_goals first|(cases hres;done)|(simp only[ZD]at hres;subst hres;exact hs.elim)
 |_=>simp[A6,hop]at hres
end
end Go.Proofs.YtchbkgnobpejnaaGreatDoor
