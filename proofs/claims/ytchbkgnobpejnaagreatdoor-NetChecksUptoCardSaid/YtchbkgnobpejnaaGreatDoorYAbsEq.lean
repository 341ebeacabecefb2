/- The framework: part of this claim. -/
import Derived.Test.YtchbkgnobpejnaaGreatDoorYAbs7
import Derived.Laws.StructEq
set_option linter.unusedSimpArgs false
set_option linter.unusedVariables false
namespace Go.Proofs.YtchbkgnobpejnaaGreatDoor
open Go.RowKit
def Bu:List Nat→List Value→List Value→Option Bool
 |[],[],[]=>some true
 |0::ts,.int k a::us,.int k' b::vs=>if k=k' then(match Bu ts us vs with
  |some r=>some ((a==b)&&r)
  |none=>none)else none
 |1::ts,.string a::us,.string b::vs=>match Bu ts us vs with
  |some r=>some ((a.toList==b.toList)&&r)
  |none=>none
 |2::ts,.bool a::us,.bool b::vs=>match Bu ts us vs with
  |some r=>some ((a==b)&&r)
  |none=>none
 |_,_,_=>none
theorem Rw{t:Nat}{ts:List Nat}{xs ys:List Value}{b:Bool}(h:Bu (t::ts) xs ys=some b):
  ∃(x:Value) (xs':List Value) (y:Value) (ys':List Value) (e r:Bool),xs=x::xs'∧ys=y::ys'∧Bu ts xs' ys'=some r∧b=(e&&r)∧
   ∀ts2 xs2 ys2 r2,Bu ts2 xs2 ys2=some r2→Bu (t::ts2) (x::xs2) (y::ys2)=some (e&&r2):=by
 unfold Bu at h;split at h
 ·rename_i hq;cases hq
 ·rename_i k a us k' b' vs e1;injection e1 with e1 e1'
  subst e1 e1';split at h
  ·rename_i hk;subst hk;split at h
   ·rename_i r hr;injection h with h
    exact⟨_,us,_,vs,a==b',r,rfl,rfl,hr,h.symm,fun ts2 xs2 ys2 r2 h2=>by simp only[Bu,if_true,h2]⟩
   ·cases h
  ·cases h
 ·rename_i a us b' vs e1;injection e1 with e1 e1'
  subst e1 e1';split at h
  ·rename_i r hr;injection h with h
   exact⟨_,us,_,vs,a.toList==b'.toList,r,rfl,rfl,hr,h.symm,fun ts2 xs2 ys2 r2 h2=>by simp only[Bu,h2]⟩
  ·cases h
 ·rename_i a us b' vs e1;injection e1 with e1 e1'
  subst e1 e1';split at h
  ·rename_i r hr;injection h with h
   exact⟨_,us,_,vs,a==b',r,rfl,rfl,hr,h.symm,fun ts2 xs2 ys2 r2 h2=>by simp only[Bu,h2]⟩
  ·cases h
 ·cases h
theorem Acb{xs ys:List Value}{b:Bool}(h:Bu [] xs ys=some b):xs=[]∧ys=[]∧b=true:=by
 cases xs<;>cases ys<;>simp[Bu]at h ⊢
 first|exact h|exact h.symm
theorem Hz:∀(ts:List Nat) (xs ys:List Value) {b:Bool},Bu ts xs ys=some b→xs.length=ts.length∧ys.length=ts.length:=by
 intro ts
 induction ts with
 |nil=>intro xs ys b h;obtain⟨rfl,rfl,_⟩:=Acb h;exact⟨rfl,rfl⟩
 |cons t ts ih=>
  intro xs ys b h;obtain⟨x,xs',y,ys',e,r,rfl,rfl,h1,_,_⟩:=Rw h;obtain⟨g1,g2⟩:=ih _ _ h1;simp[g1,g2]
theorem Ae1:∀(ts ts':List Nat) (xs ys xs' ys':List Value) {b:Bool},xs.length=ts.length→ys.length=ts.length→Bu (ts++ts') (xs++xs') (ys++ys')=some b→
  ∃b1 b2,Bu ts xs ys=some b1∧Bu ts' xs' ys'=some b2∧b=(b1&&b2):=by
 intro ts
 induction ts with
 |nil=>
  intro ts' xs ys xs' ys' b h1 h2 h;obtain rfl:=XR h1;obtain rfl:=XR h2;exact⟨true,b,rfl,h,by simp⟩
 |cons t ts ih=>
  intro ts' xs ys xs' ys' b h1 h2 h
  match xs,ys,h1,h2 with
  |x::xs,y::ys,h1,h2=>
   have h1':xs.length=ts.length:=by simpa using h1
   have h2':ys.length=ts.length:=by simpa using h2
   simp only[List.cons_append]at h;obtain⟨x',_,y',_,e,r,q1,q2,q3,q4,q5⟩:=Rw h;injection q1 with q1 q1';injection q2 with q2 q2'
   subst q1 q1' q2 q2';obtain⟨b1,b2,g1,g2,g3⟩:=ih _ _ _ _ _ h1' h2' q3;exact⟨e&&b1,b2,q5 _ _ _ _ g1,g2,by rw[q4,g3,Bool.and_assoc]⟩
section
variable {P:Program} {w:World}
def P7(agg:Bool)(xs:List Value):Value:=if agg then .agg xs.toArray else xs.headD undef
theorem Aco{t:TypeId}{i:TypeInfo}{agg:Bool}{n off:Nat}{xs:List Value}(hi:P.info? t=some i)(ha:G5 P t=some agg)(hn:n=i.size)(h1:agg=false→n=1)(hb:off+n≤xs.length):
  (part t xs.toArray off).run P w=.ok (P7 agg ((xs.drop off).take n)) w:=by
 unfold P7;unfold G5 at ha;unfold part isAgg;cases hu:P.underlying t with
 |none=>rw[hu]at ha;cases ha
 |some dsc=>
  rw[hu]at ha;cases agg with
  |true=>cases dsc<;>simp at ha<;>simp[run_underlying hu,sizeOf,typeInfo,hi,List.extract_eq_take_drop,hn]
  |false=>
   have hs:n=1:=h1 rfl;subst hs;have hx:xs[off]? =some (xs[off]'(by omega)):=ZC (by omega);have hd:(xs.drop off).take 1=[xs[off]'(by omega)]:=by
    rw[List.drop_eq_getElem_cons (by omega),List.take_succ_cons,List.take_zero]
   cases dsc<;>simp at ha<;>simp[run_underlying hu,hx,hd]
theorem Ak7{d:Nat}{t:TypeId}{ts:List Nat}(h:Hs P d t=some ts)(ha:G5 P t=some false):ts.length=1:=by
 cases d with
 |zero=>cases h
 |succ d=>
  simp only[Hs]at h;unfold G5 at ha;split at h
  ·injection h with h;subst h;rfl
  ·injection h with h;subst h;rfl
  ·injection h with h;subst h;rfl
  ·rename_i hu;rw[hu]at ha;cases ha
  ·cases h
theorem Ab8{d D:Nat}(rec_:∀(t:TypeId) (ts:List Nat) (agg:Bool) (xs ys:List Value) (b:Bool) (w:World),Hs P d t=some ts→G5 P t=some agg→Bu ts xs ys=some b→(Op.equalIn D t (P7 agg xs) (P7 agg ys)).run P w=.ok b w):
  ∀(fs:List Field) (off:Nat) (ts:List Nat) (xs ys:List Value) (b:Bool) (w:World),Ak4 P (Hs P d) fs off=some ts→Bu ts (xs.drop off) (ys.drop off)=some b→
   (Op.eqFields D xs.toArray ys.toArray fs).run P w=.ok b w:=by
 intro fs
 induction fs with
 |nil=>
  intro off ts xs ys b w h1 h2;simp only[Ak4,ZD]at h1;subst h1;obtain⟨g1,g2⟩:=Hz _ _ _ h2;have e1:=XR g1;have e2:=XR g2;rw[e1,e2]at h2;simp only[Bu,ZD]at h2;subst h2;rfl
 |cons f fs ih=>
  intro off ts xs ys b w h1 h2;simp only[Ak4]at h1;split at h1
  ·rename_i ts1 i agg hts hi ha;split at h1
   ·rename_i hc;simp only[ZO,ZZ,ne_eq,ZR,Bool.or_eq_true]at hc;obtain⟨⟨⟨c1,c2⟩,c3⟩,c4⟩:=hc;split at h1
    ·rename_i r hr;injection h1 with h1
     subst h1;obtain⟨g1,g2⟩:=Hz _ _ _ h2;rw[ZF]at g1 g2;have s1:xs.drop off=(xs.drop off).take ts1.length++xs.drop (off+ts1.length):=by rw[←List.drop_drop,List.take_append_drop]
     have s2:ys.drop off=(ys.drop off).take ts1.length++ys.drop (off+ts1.length):=by rw[←List.drop_drop,List.take_append_drop]
     rw[s1,s2]at h2;obtain⟨b1,b2,k1,k2,k3⟩:=Ae1 _ _ _ _ _ _ (by rw[ZM];omega) (by rw[ZM];omega) h2;rw[List.length_drop]at g1 g2;have q1:agg=false→ts1.length=1:=fun e=>Ak7 hts (e▸ha);rcases Nat.eq_zero_or_pos ts1.length with hz|hz
     ·have hagg:agg=true:=by cases agg with
       |true=>rfl
       |false=>have:=q1 rfl;omega
      subst hagg;have q1':(part f.type xs.toArray f.offset).run P w=.ok (P7 true ((xs.drop off).take ts1.length)) w:=by
       rw[c2,c3];unfold P7 part isAgg;unfold G5 at ha;cases hu:P.underlying f.type with
       |none=>rw[hu]at ha;cases ha
       |some dsc=>rw[hu]at ha;cases dsc<;>simp at ha<;>simp[run_underlying hu,sizeOf,typeInfo,hi,List.extract_eq_take_drop]
      have q2':(part f.type ys.toArray f.offset).run P w=.ok (P7 true ((ys.drop off).take ts1.length)) w:=by
       rw[c2,c3];unfold P7 part isAgg;unfold G5 at ha;cases hu:P.underlying f.type with
       |none=>rw[hu]at ha;cases ha
       |some dsc=>rw[hu]at ha;cases dsc<;>simp at ha<;>simp[run_underlying hu,sizeOf,typeInfo,hi,List.extract_eq_take_drop]
      have q3:=rec_ f.type ts1 true _ _ b1 w hts ha k1;simp only[Op.eqFields,ne_eq,c1,not_false_eq_true,if_true,Sem.run_bind,q1',q2',q3,Result.andThen_ok,Sem.run_ite];cases b1 with
      |false=>simp[k3]
      |true=>simp only[Bool.not_true,Bool.false_eq_true,if_false];rw[ih _ _ _ _ _ _ hr k2,k3];simp
     ·have p1:=Aco (w:=w) (off:=f.offset) (n:=ts1.length) (xs:=xs) hi ha c3 q1 (by rw[c2];omega);have p2:=Aco (w:=w) (off:=f.offset) (n:=ts1.length) (xs:=ys) hi ha c3 q1 (by rw[c2];omega);rw[c2]at p1 p2;have q3:=rec_ f.type ts1 agg _ _ b1 w hts ha k1;simp only[Op.eqFields,ne_eq,c1,not_false_eq_true,if_true,Sem.run_bind,c2,p1,p2,q3,Result.andThen_ok,Sem.run_ite];cases b1 with
      |false=>simp[k3]
      |true=>simp only[Bool.not_true,Bool.false_eq_true,if_false];rw[ih _ _ _ _ _ _ hr k2,k3];simp
    ·cases h1
   ·cases h1
  ·cases h1
theorem Ajt:∀(d D:Nat) (t:TypeId) (ts:List Nat) (agg:Bool) (xs ys:List Value) (b:Bool) (w:World),d≤D→Hs P d t=some ts→G5 P t=some agg→Bu ts xs ys=some b→(Op.equalIn D t (P7 agg xs) (P7 agg ys)).run P w=.ok b w:=by
 intro d
 induction d with
 |zero=>intro D t ts agg xs ys b w _ h;cases h
 |succ d ih=>
  intro D t ts agg xs ys b w hD h ha hc;obtain⟨D,rfl⟩:∃D',D=D'+1:=⟨D-1,by omega⟩;simp only[Hs]at h;split at h
  ·rename_i k hu;injection h with h;subst h
   have:agg=false:=by unfold G5 at ha;rw[hu]at ha;simpa using ha.symm
   subst this;obtain⟨g1,g2⟩:=Hz _ _ _ hc
   match xs,ys,g1,g2 with
   |[x],[y],_,_=>
    cases x<;>cases y<;>simp[Bu]at hc;obtain⟨rfl,rfl⟩:=hc;exact run_equalIn_int w D t _ k _ _ hu
  ·rename_i hu;injection h with h;subst h
   have:agg=false:=by unfold G5 at ha;rw[hu]at ha;simpa using ha.symm
   subst this;obtain⟨g1,g2⟩:=Hz _ _ _ hc
   match xs,ys,g1,g2 with
   |[x],[y],_,_=>
    cases x<;>cases y<;>simp[Bu]at hc;subst hc;exact run_equalIn_string w D t _ _ hu
  ·rename_i hu;injection h with h;subst h
   have:agg=false:=by unfold G5 at ha;rw[hu]at ha;simpa using ha.symm
   subst this;obtain⟨g1,g2⟩:=Hz _ _ _ hc
   match xs,ys,g1,g2 with
   |[x],[y],_,_=>
    cases x<;>cases y<;>simp[Bu]at hc;subst hc;exact run_equalIn_bool' w D t _ _ hu
  ·rename_i fs hu;split at h
   ·cases h
   ·rename_i hk;simp only[Bool.or_eq_true,not_or,Bool.not_eq_true]at hk;have:agg=true:=by unfold G5 at ha;rw[hu]at ha;simpa using ha.symm
    subst this;have hf:P.fieldsOf t=fs:=by unfold Program.fieldsOf;rw[hu]
    have:=run_equalIn_struct (P:=P) w D t xs.toArray ys.toArray (by rw[hf];exact hu) hk.1;show(Op.equalIn (D+1) t (.agg xs.toArray) (.agg ys.toArray)).run P w=_;rw[this,hf];exact Ab8 (fun t ts agg xs ys b w h1 h2 h3=>ih D t ts agg xs ys b w (by omega) h1 h2 h3) fs.toList 0 ts xs ys b w h (by simpa using hc)
  ·cases h
theorem Aje{R:Nat→Prop}{G:Nat→Option Loc}:∀(ts:List Nat) (us vs:List V) (xs ys:List Value) {b:Bool},eqV ts us vs=some b→us.length=xs.length→vs.length=ys.length→
  (∀(i:Nat) (u:V) (x:Value),us[i]? =some u→xs[i]? =some x→RV w R G u x)→(∀(i:Nat) (u:V) (x:Value),vs[i]? =some u→ys[i]? =some x→RV w R G u x)→Bu ts xs ys=some b:=by
 intro ts
 induction ts with
 |nil=>
  intro us vs xs ys b h h1 h2 _ _;cases us with
  |nil=>cases vs with
   |nil=>
    obtain rfl:=XR h1.symm;obtain rfl:=XR h2.symm;exact h
   |cons=>simp[eqV]at h
  |cons=>cases vs<;>simp[eqV]at h
 |cons t ts ih=>
  intro us vs xs ys b h h1 h2 r1 r2
  match us,vs with
  |[],_=>simp[eqV]at h
  |_::_,[]=>simp[eqV]at h
  |u::us,v::vs=>
   match xs,ys,h1,h2 with
   |x::xs,y::ys,h1,h2=>
    have a1:=r1 0 u x rfl rfl;have a2:=r2 0 v y rfl rfl;have b1:∀(i:Nat) (u:V) (x:Value),us[i]? =some u→xs[i]? =some x→RV w R G u x:=fun i u x g1 g2=>r1 (i+1) u x (by simpa using g1) (by simpa using g2);have b2:∀(i:Nat) (u:V) (x:Value),vs[i]? =some u→ys[i]? =some x→RV w R G u x:=fun i u x g1 g2=>r2 (i+1) u x (by simpa using g1) (by simpa using g2);have h1':us.length=xs.length:=by simpa using h1
    have h2':vs.length=ys.length:=by simpa using h2
    unfold eqV at h;split at h
    ·rename_i e1 _ _;cases e1
    ·rename_i e1 e2 e3;injection e1 with e1 e1';injection e2 with e2 e2';injection e3 with e3 e3'
     subst e1 e2 e3 e1' e2' e3';cases a1;cases a2;split at h
     ·rename_i hk;subst hk;split at h
      ·rename_i r hr;simp only[Bu,if_true,ih _ _ _ _ hr h1' h2' b1 b2];exact h
      ·cases h
     ·cases h
    ·rename_i e1 e2 e3;injection e1 with e1 e1';injection e2 with e2 e2';injection e3 with e3 e3'
     subst e1 e2 e3 e1' e2' e3';cases a1;cases a2;split at h
     ·rename_i r hr;simp only[Bu,ih _ _ _ _ hr h1' h2' b1 b2];exact h
     ·cases h
    ·rename_i e1 e2 e3;injection e1 with e1 e1';injection e2 with e2 e2';injection e3 with e3 e3'
     subst e1 e2 e3 e1' e2' e3';cases a1;cases a2;split at h
     ·rename_i r hr;simp only[Bu,ih _ _ _ _ hr h1' h2' b1 b2];exact h
     ·cases h
    ·cases h
theorem Aef{t:TypeId}{ts:List Nat}{fs:Array Field}{d:Nat}(h:Hs P d t=some ts)(hu:P.underlying t=some (.struct fs)):P.eqGuardType P.depth t=false:=by
 cases d with
 |zero=>cases h
 |succ d=>
  simp only[Hs,hu]at h;split at h
  ·cases h
  ·rename_i hk;simp only[Bool.or_eq_true,not_or,Bool.not_eq_true]at hk;exact hk.2
variable {st:St} {a:Act} {R:Nat→Prop} {G:Nat→Option Loc} {o:Oper} {Q:Exit→Act→World→Prop} {d:Nat}
theorem Asc[Glob]{c:Ctx}{op:BinOp}{t t':TypeId}{x y:Operand}{us vs:List V}{neg b:Bool}{fs:Array Field}{ts:List Nat}(ho:o.op=.binOp op t x y t')(ht:P.underlying t=some (.struct fs))(hts:Hs P 20 t=some ts)(hop:op=if neg then .neq else .eql)(h:Ac c st a w R G)(hx:val st.env x=.agg us)(hy:val st.env y=.agg vs)(hb:eqV ts us vs=some b):C2 P c st a w G o Q d (.v (.bool (bif neg then !b else b))) []:=by
 have rx:=h.val x;have ry:=h.val y;rw[hx]at rx;rw[hy]at ry;generalize hax:a.eval x=ax at rx;generalize hay:a.eval y=ay at ry;cases rx with
 |agg us xs hl hh=>
  cases ry with
  |agg vs ys hl' hh'=>
   have hce:=Aje _ _ _ _ _ hb hl hl' hh hh';have ha:G5 P t=some true:=by unfold G5;rw[ht]
   have hrun:=Ajt (P:=P) 20 10000 t ts true xs ys b w (by omega) hts ha hce;have hrun':(Op.equalIn 10000 t (.agg xs.toArray) (.agg ys.toArray)).run P w=.ok b w:=hrun;have hg:=run_eqGuard_agg (P:=P) w op t x y xs.toArray ys.toArray (Aef hts ht);refine Ay h ?_ (.v _);unfold execOp;rw[ho];refine Dh _ ?_;simp only[hax,hay,Sem.run_bind,hg,Result.andThen_ok];subst hop;cases neg
   ·have:=run_eql_struct (P:=P) w t xs.toArray ys.toArray;rw[hrun']at this;exact this
   ·have:=run_neq_struct (P:=P) w t xs.toArray ys.toArray;rw[hrun']at this;exact this
end
end Go.Proofs.YtchbkgnobpejnaaGreatDoor
