/- The framework: part of this claim. -/
import Derived.Test.YtchbkgnobpejnaaGreatDoorYAbs3
import Derived.Laws.Slices
import Derived.Laws.Small
set_option linter.unusedSimpArgs false
set_option linter.unusedVariables false
namespace Go.Proofs.YtchbkgnobpejnaaGreatDoor
open Go.RowKit
section
variable {P:Program} {st:St} {a:Act} {w w':World} {R:Nat→Prop} {G:Nat→Option Loc} {o:Oper} {Q:Exit→Act→World→Prop} {d:Nat} {u:V} {dH:List (Nat×Option Ent)}
theorem Cs(b k j:Nat):(⟨b,k,none⟩:Addr).add j=⟨b,k+j,none⟩:=by unfold Addr.add;split<;>simp_all
theorem O5{t:TypeId}{i:TypeInfo}{agg:Bool}{sz:Nat}(hi:P.info? t=some i)(ha:G5 P t=some agg)(hsz:sz=if agg then i.size else 1){b k:Nat}{xs:List Value}(hl:xs.length=sz)(hc:∀j x,xs[j]? =some x→w.cell? ⟨b,k+j,none⟩=some x):(loadVar t ⟨b,k,none⟩).run P w=.ok (if agg then .agg xs.toArray else xs.headD undef) w:=by
 have hlc:=run_loadCells_list (P:=P) w ⟨b,k,none⟩ xs (fun j v hv=>by rw[Cs];exact hc j v hv);unfold G5 at ha;unfold loadVar isAgg;cases hu:P.underlying t with
 |none=>rw[hu]at ha;cases ha
 |some dsc=>
  rw[hu]at ha;cases agg with
  |true=>
   have hs:xs.length=i.size:=by rw[hl,hsz];rfl
   have hagg:(match dsc with|.struct _|.array _ _=>true|_=>false)=true:=by
    cases dsc<;>simp at ha<;>rfl
   cases dsc<;>simp at ha<;>simp[run_underlying hu,sizeOf,typeInfo,hi,←hs,hlc]
  |false=>
   have hs:xs.length=1:=by rw[hl,hsz];rfl
   match xs,hs with
   |[x],_=>
    have hx:=hc 0 x rfl;simp only[Nat.add_zero]at hx;cases dsc<;>simp at ha<;>simp[run_underlying hu,hx]
theorem Aah{agg:Bool}{us:List V}{xs:List Value}(hl:us.length=xs.length)(h1:agg=false→us.length=1)(h:∀(i:Nat) (u:V) (x:Value),us[i]? =some u→xs[i]? =some x→RV w R G u x):
  RV w R G (mkV agg us) (if agg then .agg xs.toArray else xs.headD undef):=by
 cases agg with
 |true=>exact .agg us xs hl h
 |false=>
  have:=h1 rfl
  match us,xs,hl,this with
  |[u],[x],_,_=>exact h 0 u x rfl rfl
theorem Ic{α:Type}(row:List α)(off sz:Nat)(i:Nat)(hi:i<sz):((row.drop off).take sz)[i]? =row[off+i]? :=by
 rw[XA hi,List.getElem?_drop]
theorem Aln[Glob]{c:Ctx}{t:TypeId}{x:Operand}{i:TypeInfo}{agg:Bool}{sz:Nat}{row:List V}{off:Nat}(ho:o.op=.load t x)(hi:P.info? t=some i)(ha:G5 P t=some agg)(hsz:sz=if agg then i.size else 1)(h:Ac c st a w R G)(hv:val st.env x=.rptr row off)(hb:off+sz≤row.length):C2 P c st a w G o Q d (mkV agg ((row.drop off).take sz)) []:=by
 have hx:=h.val x;rw[hv]at hx;generalize hax:a.eval x=ax at hx;cases hx with
 |rptr row off b k f hR hcell hh=>
  have hxl:((List.range sz).map fun j=>f (off+j)).length=sz:=by simp
  have hrun:=O5 (w:=w) (xs:=(List.range sz).map fun j=>f (off+j)) (b:=b) (k:=k+off) hi ha hsz hxl (fun j x hj=>by
   have hjs:j<sz:=by have:=(ZB.1 hj).1;simpa using this
   have e:((List.range sz).map fun j=>f (off+j))[j]? =some (f (off+j)):=by simp[hjs]
   rw[e]at hj;injection hj with hj;subst hj
   have hr:row[off+j]? =some (row[off+j]'(by omega)):=ZC (by omega);have:=hcell (off+j) _ hr
   rwa[←Nat.add_assoc]at this)
  refine Ay h (x:=if agg then .agg ((List.range sz).map fun j=>f (off+j)).toArray else((List.range sz).map fun j=>f (off+j)).headD undef) ?_ ?_
  ·unfold execOp;rw[ho];exact Dh _ (by rw[hax];simpa[Instr.loadAt,Instr.sureAddr]using hrun)
  ·refine Aah (by simp;omega) (fun e=>by subst e;simp at hsz;subst hsz;simp;omega) ?_;intro j u x h1 h2;have hjs:j<sz:=by have:=(ZB.1 h2).1;simpa using this
   rw[Ic _ _ _ _ hjs]at h1;have e:((List.range sz).map fun j=>f (off+j))[j]? =some (f (off+j)):=by simp[hjs]
   rw[e]at h2;injection h2 with h2;subst h2
   exact hh (off+j) u h1
theorem Fs{e:Ent}{l:Loc}{xs:List Value}{T:TypeId}(h:w.ownsRow 0 T e.sz l.val e.rows.length xs):(l.val=.slice none 0 0∧e.rows=[])∨∃b cap,l.val=.slice (some ⟨b,0,none⟩) e.rows.length cap∧l.val.ownBlock=some b:=by
 rcases h.2 with⟨h1,h2⟩|⟨b,cap,cur,h1,_⟩
 ·exact .inl ⟨h1,XR h2⟩
 ·exact .inr ⟨b,cap,h1,by rw[h1];rfl⟩
theorem Ee{e:Ent}{l:Loc}{xs:List Value}{b:Nat}{T:TypeId}(h:w.ownsRow 0 T e.sz l.val e.rows.length xs)(hb:l.val.ownBlock=some b){j:Nat}{x:Value}(hx:xs[j]? =some x):w.cell? ⟨b,j,none⟩=some x:=by
 have:=h.cells hb j x hx
 rwa[Cs,Nat.zero_add]at this
theorem Ajk[Glob]{c:Ctx}{t:TypeId}{x:Operand}{i:TypeInfo}{agg:Bool}{sz:Nat}{id gen k off:Nat}{e:Ent}{row:List V}(ho:o.op=.load t x)(hi:P.info? t=some i)(ha:G5 P t=some agg)(hsz:sz=if agg then i.size else 1)(h:Ac c st a w R G)(hv:val st.env x=.ptr id gen k off)(he:st.H id=some e)(hg:e.gen=gen)(hrow:e.rows[k]? =some row)(hb:off+sz≤row.length):C2 P c st a w G o Q d (mkV agg ((row.drop off).take sz)) []:=by
 obtain⟨l,xs,b,T0,g1,g2,g3,g4,g5,g6,hbk,hax,hT0,hop0⟩:=h.objP (hv▸h.val x) he hg hrow;have hcells:∀j,j<sz→∃y,xs[k*e.sz+off+j]? =some y∧RV w R G (row[off+j]?.getD .any) y:=fun j hj=>by
  have hr:row[off+j]? =some (row[off+j]'(by omega)):=ZC (by omega);obtain⟨y,h1,_,h2⟩:=g6.2 k (off+j) row _ hrow hr;exact⟨y,by rw[Nat.add_assoc];exact h1,by rw[hr];exact h2⟩
 have hxl:((xs.drop (k*e.sz+off)).take sz).length=sz:=by
  rcases Nat.eq_zero_or_pos sz with h0|h0
  ·simp[h0]
  ·obtain⟨y,h1,_⟩:=hcells (sz-1) (by omega);have:=(ZB.1 h1).1;simp;omega
 have hrun:=O5 (w:=w) (xs:=(xs.drop (k*e.sz+off)).take sz) (b:=b) (k:=k*l.sz+off) hi ha hsz hxl (fun j y hj=>by
  have hjs:j<sz:=by have:=(ZB.1 hj).1;omega
  rw[Ic _ _ _ _ hjs]at hj;rw[g3];exact Ee g5 hbk hj)
 refine Ay h (x:=if agg then .agg ((xs.drop (k*e.sz+off)).take sz).toArray else((xs.drop (k*e.sz+off)).take sz).headD undef) ?_ ?_
 ·unfold execOp;rw[ho];exact Dh _ (by rw[hax];simpa[Instr.loadAt,Instr.sureAddr]using hrun)
 ·refine Aah (by rw[hxl];simp;omega) (fun e=>by subst e;simp at hsz;subst hsz;simp;omega) ?_;intro j u y h1 h2;have hjs:j<sz:=by have:=(ZB.1 h2).1;omega
  rw[Ic _ _ _ _ hjs]at h1 h2;obtain⟨y',h3,h4⟩:=hcells j hjs;rw[h3]at h2;injection h2 with h2;subst h2
  rw[h1]at h4;exact h4
theorem Aoc{op:BinOp}{t:TypeId}{k k':IntKind}{x y:Int}{r:Value}(hk:Akf op k x k' y (fun x=>x=r)):(binOp op t (.int k x) (.int k' y)).run P w=.ok r w:=by
 cases op<;>first
  |exact hk.elim
  |(obtain⟨rfl,c,rfl,rfl⟩:=hk;simp[binOp,Op.intArith];done)
  |(obtain⟨rfl,c,rfl,rfl⟩:=hk;simp[binOp,Op.intBits];done)
  |(obtain⟨rfl,h0,c,rfl,rfl⟩:=hk;simp[binOp,Op.intDiv,h0];done)
  |(obtain⟨h0,c,rfl,rfl⟩:=hk;simp[binOp,Op.shift,Int.not_lt.2 h0];done)
  |(obtain⟨rfl,rfl⟩:=hk;simp[binOp,Op.intCmp];done)
theorem Anw {op : BinOp} {t : TypeId} {x y : ByteArray} {r : Value} (hk : Amc op x y (fun x => x = r)) : (binOp op t (.string x) (.string y)).run P w = .ok r w := by
  cases op <;> first
    | exact hk.elim
    | (obtain ⟨h0, rfl⟩ := hk
       have : ¬ ((x.size + y.size : Nat) : Int) > IntKind.i64.max := by
         have e : IntKind.i64.max = 9223372036854775807 := by rfl
         rw [e]; exact Int.not_lt.2 h0
       simp only [binOp, Op.stringOp]
       rw [if_neg this]; rfl)
    | (subst hk; simp [binOp, Op.stringOp]; done)
theorem Anz{op:BinOp}{t:TypeId}{p q r:Value}(hk:S1 op p q (fun x=>x=r)):(binOp op t p q).run P w=.ok r w:=by
 unfold S1 at hk;split at hk
 ·exact Aoc hk
 ·exact Anw hk
 ·exact hk.elim
theorem Y3{op:BinOp}{t:TypeId}{x y:Operand}{p q:Value}(h:(∃k n,p=.int k n)∨(∃s,p=.string s)∨∃b,p=.bool b):(eqGuard op t x y p q).run P w=.ok () w:=by
 unfold eqGuard;rcases h with⟨k,n,rfl⟩|⟨s,rfl⟩|⟨b,rfl⟩<;>cases op<;>simp
theorem Aj2{op:BinOp}{p q:Value}{K:Value→Prop}(h:S1 op p q K):(∃k n,p=.int k n)∨(∃s,p=.string s)∨∃b,p=.bool b:=by
 unfold S1 at h;split at h<;>first|exact .inl ⟨_,_,rfl⟩|exact .inr (.inl ⟨_,rfl⟩)|exact h.elim
theorem Atz[Glob]{c:Ctx}{op:BinOp}{t t':TypeId}{x y:Operand}{p q r:Value}(ho:o.op=.binOp op t x y t')(h:Ac c st a w R G)(hx:val st.env x=.v p)(hy:val st.env y=.v q)(hk:S1 op p q (fun x=>x=r)):
  C2 P c st a w G o Q d (.v r) []:=by
 have e1:a.eval x=p:=Cd (hx▸h.val x);have e2:a.eval y=q:=Cd (hy▸h.val y);refine Ay h ?_ (.v r);unfold execOp;rw[ho];refine Dh _ ?_;simp only[e1,e2,Sem.run_bind,Y3 (Aj2 hk),Result.andThen_ok,Anz hk]
theorem At7[Glob]{c:Ctx}{op:BinOp}{t t':TypeId}{x y:Operand}{p q:Bool}{neg:Bool}(ho:o.op=.binOp op t x y t')(ht:P.underlying t=some .bool)(hop:op=if neg then .neq else .eql)(h:Ac c st a w R G)(hx:val st.env x=.v (.bool p))(hy:val st.env y=.v (.bool q)):
  C2 P c st a w G o Q d (.v (.bool (if neg then p !=q else p==q))) []:=by
 have e1:a.eval x=.bool p:=Cd (hx▸h.val x);have e2:a.eval y=.bool q:=Cd (hy▸h.val y);refine Ay h ?_ (.v _);unfold execOp;rw[ho];refine Dh _ ?_;simp only[e1,e2,Sem.run_bind,Y3 (.inr (.inr ⟨_,rfl⟩)),Result.andThen_ok];subst hop;cases neg
 ·exact run_eql_bool w t p q ht
 ·have:=run_neq_bool (P:=P) w t p q ht;exact this
theorem Art[Glob]{c:Ctx}{t:TypeId}{x:Operand}{p:Bool}(ho:o.op=.unOp .not t x)(h:Ac c st a w R G)(hx:val st.env x=.v (.bool p)):C2 P c st a w G o Q d (.v (.bool (!p))) []:=by
 have e1:a.eval x=.bool p:=Cd (hx▸h.val x);refine Ay h ?_ (.v _);unfold execOp;rw[ho];simp[e1,Op.unary]
theorem Atl[Glob]{c:Ctx}{t:TypeId}{x:Operand}{k:IntKind}{n:Int}(ho:o.op=.unOp .neg t x)(h:Ac c st a w R G)(hx:val st.env x=.v (.int k n)):C2 P c st a w G o Q d (.v (.int k (k.wrap (0-n)))) []:=by
 have e1:a.eval x=.int k n:=Cd (hx▸h.val x);refine Ay h ?_ (.v _);unfold execOp;rw[ho];simp[e1,Op.unary,Op.intArith]
theorem Apy[Glob]{c:Ctx}{s t:TypeId}{x:Operand}{k k':IntKind}{n:Int}(ho:o.op=.convert s t x){dsc:TypeDesc}(hs:P.underlying s=some dsc)(ht:P.underlying t=some (.int k))(h:Ac c st a w R G)(hx:val st.env x=.v (.int k' n)):C2 P c st a w G o Q d (.v (.int k (k.wrap n))) []:=by
 have e1:a.eval x=.int k' n:=Cd (hx▸h.val x);refine Ay h ?_ (.v _);unfold execOp;rw[ho];refine Dh _ ?_;simp[e1,convert,run_underlying hs,run_underlying ht,Conv.intToInt]
theorem Aoa[Glob]{c:Ctx}{s t:TypeId}{x:Operand}{b:ByteArray}(ho:o.op=.convert s t x){dsc:TypeDesc}(hs:P.underlying s=some .string)(ht:P.underlying t=some .string)(h:Ac c st a w R G)(hx:val st.env x=.v (.string b)):C2 P c st a w G o Q d (.v (.string b)) []:=by
 have e1:a.eval x=.string b:=Cd (hx▸h.val x);refine Ay h ?_ (.v _);unfold execOp;rw[ho];refine Dh _ ?_;simp[e1,convert,run_underlying hs,run_underlying ht]
theorem At1[Glob]{c:Ctx}{x:Operand}{i:Nat}{us:List V}(ho:o.op=.extract x i)(h:Ac c st a w R G)(hx:val st.env x=.tup us)(hu:us[i]? =some u):C2 P c st a w G o Q d u []:=by
 have hr:=h.val x;rw[hx]at hr;generalize hax:a.eval x=ax at hr;cases hr with
 |tup us xs hl hh=>
  have hi:i<xs.length:=by rw[←hl];exact(ZB.1 hu).1
  have hy:xs[i]? =some xs[i]:=ZC hi;refine Ay h (x:=xs[i]) ?_ (hh i u _ hu hy);unfold execOp;rw[ho];refine Dh _ ?_;simp[hax,Instr.extract,hy]
theorem Aqr[Glob]{c:Ctx}{f:FuncId}{first caps:Array Operand}(ho:o.op=.makeFunc (.func f) first caps)(hf:first.isEmpty=true)(h:Ac c st a w R G):C2 P c st a w G o Q d (.clo f (caps.toList.map (val st.env))) []:=by
 have hf':first= #[]:=by simpa using hf
 refine Ay h (x:=.func (.func f) #[] (caps.toList.map a.eval).toArray) ?_ (.clo f (caps.toList.map (val st.env)) (caps.toList.map a.eval) (by simp) ?_)
 ·unfold execOp;rw[ho,hf'];have e:(caps.toList.map a.eval).toArray=caps.map a.eval:=by apply Array.ext';simp
  rw[e];simp[Instr.makeFunc]
 ·intro i u x h1 h2;rw[XJ]at h1 h2;cases hq:caps.toList[i]? with
  |none=>rw[hq]at h1;cases h1
  |some y=>rw[hq]at h1 h2;simp at h1 h2;subst h1 h2;exact h.val y
theorem Alk[Glob]{c:Ctx}{t:TypeId}{x:Operand}{k:Nat}{fs:Array Field}{f:Field}{i:TypeInfo}{row:List V}{off:Nat}(ho:o.op=.fieldAddr t x k)(ht:P.underlying t=some (.struct fs))(hf:fs[k]? =some f)(hi:P.info? f.type=some i)(hz:0<i.size)(h:Ac c st a w R G)(hv:val st.env x=.rptr row off):C2 P c st a w G o Q d (.rptr row (off+f.offset)) []:=by
 have hx:=h.val x;rw[hv]at hx;generalize hax:a.eval x=ax at hx;cases hx with
 |rptr row off b k' g hR hcell hh=>
  refine Ay h (x:=.pointer (some ⟨b,k'+(off+f.offset),none⟩)) ?_ (.rptr _ _ _ _ g hR hcell hh);unfold execOp;rw[ho];refine Dh _ ?_;have:i.size≠0:=by omega
  simp[hax,Instr.fieldAt,run_underlying ht,hf,Instr.sureAddr,fieldPlace,sizeOf,typeInfo,hi,this,Cs,Nat.add_assoc]
theorem Akc[Glob]{c:Ctx}{t:TypeId}{x:Operand}{k:Nat}{fs:Array Field}{f:Field}{i:TypeInfo}{id gen j off:Nat}{e:Ent}(ho:o.op=.fieldAddr t x k)(ht:P.underlying t=some (.struct fs))(hf:fs[k]? =some f)(hi:P.info? f.type=some i)(hz:0<i.size)(h:Ac c st a w R G)(hv:val st.env x=.ptr id gen j off)(he:st.H id=some e)(hg:e.gen=gen):C2 P c st a w G o Q d (.ptr id gen j (off+f.offset)) []:=by
 obtain⟨l,b,g1,g2,g3,hbk,hax⟩:=h.objB (hv▸h.val x) he hg;refine Ay h (x:=.pointer (some ⟨b,j*l.sz+(off+f.offset),none⟩)) ?_ (.ptr _ _ _ _ l g1 (by omega) _ fun _=>⟨b,hbk,rfl⟩);unfold execOp;rw[ho];refine Dh _ ?_;have:i.size≠0:=by omega
 simp[hax,Instr.fieldAt,run_underlying ht,hf,Instr.sureAddr,fieldPlace,sizeOf,typeInfo,hi,this,Cs,Nat.add_assoc]
theorem Aoh[Glob]{c:Ctx}{x:Operand}{row:List V}{off:Nat}(ho:o.op=.nilCheck x)(h:Ac c st a w R G)(hv:val st.env x=.rptr row off):C2 P c st a w G o Q d (.rptr row (off+0)) []:=by
 have hx:=h.val x;rw[hv]at hx;generalize hax:a.eval x=ax at hx;cases hx with
 |rptr row off b k' g hR hcell hh=>
  refine Ay h (x:=.pointer (some ⟨b,k'+off,none⟩)) ?_ (.rptr _ _ _ _ g hR hcell hh);unfold execOp;rw[ho];simp[hax]
theorem Amx[Glob]{c:Ctx}{x:Operand}{id gen j off:Nat}{e:Ent}(ho:o.op=.nilCheck x)(h:Ac c st a w R G)(hv:val st.env x=.ptr id gen j off)(he:st.H id=some e)(hg:e.gen=gen):C2 P c st a w G o Q d (.ptr id gen j (off+0)) []:=by
 obtain⟨l,b,g1,g2,g3,hbk,hax⟩:=h.objB (hv▸h.val x) he hg;refine Ay h (x:=.pointer (some ⟨b,j*l.sz+off,none⟩)) ?_ (.ptr _ _ _ _ l g1 (by omega) _ fun _=>⟨b,hbk,rfl⟩);unfold execOp;rw[ho];simp[hax]
theorem Ane[Glob]{c:Ctx}{arg:Operand}{t:TypeId}{cl:Call}{s:ByteArray}(ho:o.op=.call cl)(hc:cl.callee=.builtin .len)(ha:cl.args.toList=[arg])(hat:cl.argTypes.toList=[t])(ht:P.underlying t=some .string)(h:Ac c st a w R G)(hx:val st.env arg=.v (.string s)):
  C2 P c st a w G o Q d (.v (.int .i64 s.size)) []:=by
 have e1:a.eval arg=.string s:=Cd (hx▸h.val arg);have ha':cl.args= #[arg]:=by apply Array.ext';simpa using ha
 have hat':cl.argTypes= #[t]:=by apply Array.ext';simpa using hat
 refine Ay h ?_ (.v _);unfold execOp;rw[ho];simp[resolve,hc,ha',hat',invoke,builtin,Builtin.len_,run_underlying ht,e1,goInt]
theorem K2[Glob]{c:Ctx}{arg:Operand}{t e:TypeId}{cl:Call}{n cap:Nat}{b:Option Addr}(ho:o.op=.call cl)(hc:cl.callee=.builtin .len)(ha:cl.args.toList=[arg])(hat:cl.argTypes.toList=[t])(ht:P.underlying t=some (.slice e))(h:Ac c st a w R G)(e1:a.eval arg=.slice b n cap):
  C2 P c st a w G o Q d (.v (.int .i64 n)) []:=by
 have ha':cl.args= #[arg]:=by apply Array.ext';simpa using ha
 have hat':cl.argTypes= #[t]:=by apply Array.ext';simpa using hat
 refine Ay h ?_ (.v _);unfold execOp;rw[ho];simp[resolve,hc,ha',hat',invoke,builtin,Builtin.len_,run_underlying ht,e1,goInt]
theorem Arz[Glob]{c:Ctx}{x y:Operand}{cl:Call}{k k':IntKind}{p q:Int}(ho:o.op=.call cl)(hc:cl.callee=.builtin .max)(ha:cl.args.toList=[x,y])(h:Ac c st a w R G)(hx:val st.env x=.v (.int k p))(hy:val st.env y=.v (.int k' q)):
  C2 P c st a w G o Q d (.v (.int k (max p q))) []:=by
 have e1:a.eval x=.int k p:=Cd (hx▸h.val x);have e2:a.eval y=.int k' q:=Cd (hy▸h.val y);have ha':cl.args= #[x,y]:=by apply Array.ext';simpa using ha
 have hm:max p q=if q>p then q else p:=by split<;>omega
 rw[hm];refine Ay h ?_ (.v _);unfold execOp;rw[ho];simp[resolve,hc,ha',invoke,builtin,Builtin.max_,Builtin.max2,e1,e2]
theorem Asj[Glob]{c:Ctx}{x y:Operand}{cl:Call}{k k':IntKind}{p q:Int}(ho:o.op=.call cl)(hc:cl.callee=.builtin .min)(ha:cl.args.toList=[x,y])(h:Ac c st a w R G)(hx:val st.env x=.v (.int k p))(hy:val st.env y=.v (.int k' q)):
  C2 P c st a w G o Q d (.v (.int k (min p q))) []:=by
 have e1:a.eval x=.int k p:=Cd (hx▸h.val x);have e2:a.eval y=.int k' q:=Cd (hy▸h.val y);have ha':cl.args= #[x,y]:=by apply Array.ext';simpa using ha
 have hm:min p q=if q<p then q else p:=by split<;>omega
 rw[hm];refine Ay h ?_ (.v _);unfold execOp;rw[ho];simp[resolve,hc,ha',invoke,builtin,Builtin.min_,Builtin.min2,e1,e2]
end
end Go.Proofs.YtchbkgnobpejnaaGreatDoor
