/- The framework: part of this claim. -/
import Derived.Test.YtchbkgnobpejnaaGreatDoorYAbsA
import Derived.Test.YtchbkgnobpejnaaGreatDoorYAbsJ
import Derived.Tactics
set_option linter.unusedSimpArgs false
set_option linter.unusedVariables false
namespace Go.Proofs.YtchbkgnobpejnaaGreatDoor
open Go.RowKit
class Off where
 o:Nat
section
variable [Off]
def Aa.d(r:Aa):Nat:=r.dst.getD 1000000
def ROp.isE:ROp→Bool
 |.store _ _ _=>true
 |.app _ _ _ _ _ _=>true
 |.call _ _=>true
 |.slcL _ _ _ _ _=>true
 |.mupd _ _ _ _=>true
 |.die _=>true
 |.clr _ _ _=>true
 |.isnil _ _=>true
 |_=>false
def gv(env:Nat→V):Option (Nat×Bool)→Option Bool
 |none=>some true
 |some (s,want)=>match env s with
  |.v (.bool t)=>some (t==want)
  |.v (.tuple ⟨[]⟩)=>some false
  |_=>none
def Fd(r:Aa)(st:St)(K:St→Prop)(u:V)(dH:List (Nat×Option Ent)):Prop:=K (St.put {st with H:=Bx st.H dH} r.dst u)
def opR[Glob](P:Program)(r:Aa)(st:St)(K:St→Prop):Prop:=
 if r.op.isE then R5 P r.op st.env st.H st.D (16*(r.d+Off.o)) (fun u H'=>K (St.put {st with H:=H'} r.dst u))
 else if r.op.allocs then∀g,Ak P r.op st.env st.H g (16*(r.d+Off.o)) (Fd r st K)
 else Ak P r.op st.env st.H (fun _=>0) (16*(r.d+Off.o)) (Fd r st K)
def opD[Glob](P:Program)(r:Aa)(st:St)(K:St→Prop):Prop:=
 if r.op.allocs then∀g,Ak P r.op st.env st.H g (16*(r.d+Off.o)) (Fd r st K)
 else Ak P r.op st.env st.H (fun _=>0) (16*(r.d+Off.o)) (Fd r st K)
def K6(r:Aa)(st:St)(A B:Prop):Prop:=
 match r.guard with
 |none=>A
 |some (s,want)=>match st.env s with
  |.v (.bool t)=>(t=want→A)∧(t= !want→B)
  |.v (.tuple ⟨[]⟩)=>B
  |_=>False
def wpR[Glob](P:Program):List Aa→St→(St→Prop)→Prop
 |[],st,K=>K st
 |r::rs,st,K=>K6 r st (opR P r st fun st'=>wpR P rs st' K) (wpR P rs (st.put r.dst (.v undef)) K)
def N1[Glob](P:Program):List Aa→St→(St→Prop)→Prop
 |[],st,K=>K st
 |r::rs,st,K=>K6 r st (opD P r st fun st'=>N1 P rs st' K) (N1 P rs (st.put r.dst (.v undef)) K)
def C9(rs:List Aa):List Nat:=rs.filterMap fun r=>if r.op.allocs then r.dst.map (fun d=>d+Off.o)else none
def Kx(ds:List Nat)(H:Nat→Option Ent):Nat→Option Ent:=match ds with
 |[]=>H
 |ds=>fun id=>bif ds.contains (id/16)then none else H id
def wpD[Glob](P:Program)(rs:List Aa)(st:St)(K:St→Prop):Prop:=N1 P rs {st with H:=Kx (C9 rs) st.H} K
def Bh(P:Program)(ops:Array Oper)(n:Nat)(o:Oper):Option Aa:=
 match A6 P o with
 |none=>none
 |some op=>if o.dst.all (fun d=>decide (d<n))then
   match o.guard with
   |none=>some ⟨o.dst,none,op⟩
   |some (j,w)=>match (ops[j]?).bind (·.dst)with
    |some s=>some ⟨o.dst,some (s,w),op⟩
    |none=>none
  else none
end
section
variable {P:Program} {st:St} {a:Act} {w w':World} {R:Nat→Prop} {G:Nat→Option Loc} {o:Oper} {r:Aa} {Q:Exit→Act→World→Prop} {ops:Array Oper} {n:Nat}
theorem Je{A B:Prop}(h:K6 r st A B):(gv st.env r.guard=some true∧A)∨(gv st.env r.guard=some false∧B):=by
 unfold K6 at h;unfold gv;cases hg:r.guard with
 |none=>simp only[hg]at h;exact .inl ⟨rfl,h⟩
 |some p=>
  obtain⟨s,want⟩:=p;simp only[hg]at h ⊢;generalize st.env s=u at h ⊢;split at h
  ·rename_i t;cases t<;>cases want
   ·exact .inl ⟨rfl,h.1 rfl⟩
   ·exact .inr ⟨rfl,h.2 rfl⟩
   ·exact .inr ⟨rfl,h.2 rfl⟩
   ·exact .inl ⟨rfl,h.1 rfl⟩
  ·exact .inr ⟨rfl,h⟩
  ·exact h.elim
theorem B9(h:Bh P ops n o=some r):A6 P o=some r.op∧r.dst=o.dst∧(∀d,o.dst=some d→d<n)∧
  ((o.guard=none∧r.guard=none)∨∃j w s,o.guard=some (j,w)∧(ops[j]?).bind (·.dst)=some s∧r.guard=some (s,w)):=by
 unfold Bh at h;split at h
 ·cases h
 ·rename_i op hop;split at h
  ·rename_i hd;have hd':∀d,o.dst=some d→d<n:=fun d hd2=>by rw[hd2]at hd;simpa using hd
   split at h
   ·rename_i hg;injection h with h;subst h
    exact⟨hop,rfl,hd',.inl ⟨hg,rfl⟩⟩
   ·rename_i j w hg;split at h
    ·rename_i s hs;injection h with h;subst h
     exact⟨hop,rfl,hd',.inr ⟨j,w,s,hg,hs,rfl⟩⟩
    ·cases h
  ·cases h
theorem B7[Glob]{c:Ctx}(hr:Bh P ops n o=some r)(h:Ac c st a w R G){b:Bool}(hg:gv st.env r.guard=some b):Region.wanted o (yielded ops a.tmps)=b:=by
 obtain⟨_,_,_,hgd⟩:=B9 hr;rcases hgd with⟨h1,h2⟩|⟨j,want,s,h1,h2,h3⟩
 ·rw[h2]at hg;simp only[gv,ZD]at hg;simp[Region.wanted,h1,hg]
 ·rw[h3]at hg;simp only[gv]at hg;have hs:=h.env s;have hy:yielded ops a.tmps j=match a.tmps[s]? with|some (.bool b)=>some b|_=>none:=by
   unfold yielded;rw[h2];rfl
  simp only[Region.wanted,h1,hy];rw[Array.getD_eq_getD_getElem?]at hs;split at hg
  ·rename_i t ht;rw[ht]at hs;have e:=Cd hs;injection hg with hg
   cases hq:a.tmps[s]? with
   |none=>rw[hq]at e;simp[undef]at e
   |some y=>rw[hq]at e;simp at e;subst e;rw[←hg];cases t<;>cases want<;>rfl
  ·rename_i ht;rw[ht]at hs;have e:=Cd hs;injection hg with hg
   subst hg;cases hq:a.tmps[s]? with
   |none=>rfl
   |some y=>rw[hq]at e;simp at e;subst e;rfl
  ·cases hg
theorem Jm[Glob]{c:Ctx}(hr:Bh P ops n o=some r)(hn:c.n=n):∀d,o.dst=some d→d<c.n:=by
 rw[hn];exact(B9 hr).2.2.1
section
variable [Off]
def Og[Glob](c:Ctx)(Q:Exit→Act→World→Prop):Prop:=∀v a w,c.D v→Fr c.L c.w0 w→a.defers=[]→Q (.panic [{v:=v,recovered:=false}]) a w
theorem Tj[Glob]{c:Ctx}(hn:c.n=n)(hdie:Og c Q):∀(l:List Oper) (rl:List Aa) {st:St} {a:Act} {w:World} {K:St→Prop},l.mapM (Bh P ops n)=some rl→wpR P rl st K→Rel c st a w→(∀st' a' w',K st'→Rel c st' a' w'→Q .normal a' w')→wpList P ops Q l a w
 |[],rl,st,a,w,K,hm,h,hR,hK=>by
  simp only[List.mapM_nil,Option.pure_def,ZD]at hm;subst hm;exact hK st a w h hR
 |o::l,rl,st,a,w,K,hm,h,hR,hK=>by
  rw[List.mapM_cons]at hm;simp only[Option.bind_eq_bind,XS,Option.pure_def,ZD]at hm;obtain⟨r,hr,rs,hrs,rfl⟩:=hm;obtain⟨R,G,hR⟩:=hR;obtain⟨hop,hdst,hdlt,_⟩:=B9 hr;simp only[wpR]at h;unfold wpList;rcases Je h with⟨hg,h⟩|⟨hg,h⟩
  ·rw[if_pos (B7 hr hR hg)];left;have next:∀{st':St},wpR P rs st' K→∀{a' w'},Rel c st' a' w'→wpList P ops Q l a' w':=fun hw _ _ hr'=>Tj hn hdie l rs hrs hw hr' hK
   have hdn:=Jm hr hn;unfold opR at h;split at h
   ·refine Ja (d:=r.d+Off.o) hop hR h (fun u H' hk x w' R' G' hR' hV=>?_) (fun v hv w' hfr=>hdie v _ w' (hR.die▸hv) hfr hR.defers);have:=hR'.put hdn hV;rw[←hdst]at *;exact next hk ⟨R',G',this⟩
   ·have hq:∃g:Nat→Nat,(∀id,id/16=r.d+Off.o→∀l0,G id=some l0→l0.gen<g id)∧Ak P r.op st.env st.H g (16*(r.d+Off.o)) (Fd r st fun st'=>wpR P rs st' K):=by
     refine⟨Ax G,fun id _ l0 h0=>Az h0,?_⟩;split at h
     ·exact h _
     ·rename_i hal;exact I6 (by simpa using hal) h
    obtain⟨g,hgen,hq⟩:=hq;obtain⟨u,dH,h1,h2,_⟩:=Mp hq;refine Dr hop hgen hR h1 _ (fun x w' R' G' hR' hV _=>?_);have:=hR'.put hdn hV;rw[←hdst]at *;exact next h2 ⟨R',G',this⟩
  ·rw[if_neg (by rw[B7 hr hR hg];simp)];have:=hR.put (Jm hr hn) (u:=.v undef) (.v undef);rw[←hdst]at *;exact Tj hn hdie l rs hrs h ⟨R,G,this⟩ hK
end
end
end Go.Proofs.YtchbkgnobpejnaaGreatDoor
