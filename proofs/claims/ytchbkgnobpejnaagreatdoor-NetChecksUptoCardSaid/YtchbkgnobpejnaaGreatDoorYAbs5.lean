/- The framework: part of this claim. -/
import Derived.Test.YtchbkgnobpejnaaGreatDoorYAbs4
set_option linter.unusedSimpArgs false
set_option linter.unusedVariables false
namespace Go.Proofs.YtchbkgnobpejnaaGreatDoor
open Go.RowKit
section
variable {P:Program} {st:St} {a:Act} {w w':World} {R:Nat→Prop} {G:Nat→Option Loc} {o:Oper} {Q:Exit→Act→World→Prop} {d:Nat} {u:V} {dH:List (Nat×Option Ent)}
theorem Uh{t e:TypeId}{j:TypeInfo}{k:IntKind}{n:Nat}{b off len cap:Nat}(ht:P.underlying t=some (.slice e))(hj:P.info? e=some j)(hn:n<len):
  (Instr.indexAt t (.slice (some ⟨b,off,none⟩) len cap) (.int k (n:Int))).run P w=.ok (.pointer (some ⟨b,off+n*j.size,none⟩)) w:=by
 simp[Instr.indexAt,asIntOf,run_underlying ht,hn,sizeOf,typeInfo,hj,Cs]
theorem Ajo[Glob]{c:Ctx}{t e:TypeId}{x y:Operand}{j:TypeInfo}{clip:Bool}{rows:List (List V)}{row:List V}{k:IntKind}{n:Nat}(ho:o.op=.indexAddr t x y)(ht:P.underlying t=some (.slice e))(hj:P.info? e=some j)(h:Ac c st a w R G)(hx:val st.env x=.sl clip rows)(hy:val st.env y=.v (.int k (n:Int)))(hrow:rows[n]? =some row)(hsz:row.length=j.size):C2 P c st a w G o Q d (.rptr row 0) []:=by
 have e2:a.eval y=.int k (n:Int):=Cd (hy▸h.val y);have hr:=h.val x;rw[hx]at hr;have hn:n<rows.length:=(ZB.1 hrow).1;generalize hax:a.eval x=ax at hr;cases hr with
 |nil=>simp at hn
 |sl clip rows b off cap sz f hR hcap hclip hs hcell hh=>
  have hsz':sz=j.size:=by rw[←hsz];exact(hs row (ZH hrow)).symm
  refine Ay h (x:=.pointer (some ⟨b,(off+n*j.size)+0,none⟩)) ?_ (.rptr row 0 b (off+n*j.size) (fun q=>f n q) hR (fun q u hq=>?_) (fun q u hq=>hh n q row u hrow hq))
  ·unfold execOp;rw[ho];refine Dh _ ?_;rw[hax,e2];exact Uh ht hj hn
  ·rw[←hsz'];exact hcell n q row u hrow hq
theorem Am6[Glob]{c:Ctx}{t e:TypeId}{x y:Operand}{j:TypeInfo}{id gen:Nat}{en:Ent}{row:List V}{k:IntKind}{n:Nat}(ho:o.op=.indexAddr t x y)(ht:P.underlying t=some (.slice e))(hj:P.info? e=some j)(h:Ac c st a w R G)(hx:val st.env x=.own id gen)(hy:val st.env y=.v (.int k (n:Int)))(he:st.H id=some en)(hg:en.gen=gen)(hsz:en.sz=j.size)(hrow:en.rows[n]? =some row):C2 P c st a w G o Q d (.ptr id gen n 0) []:=by
 obtain⟨l,xs,T0,g1,g2,g3,g4,g5,g6,hax,hT0,hop0,hbx0⟩:=h.objO (hx▸h.val x) he hg;have e2:a.eval y=.int k (n:Int):=Cd (hy▸h.val y);have hn:n<en.rows.length:=(ZB.1 hrow).1;rcases Fs g5 with⟨_,h0⟩|⟨b,cap,hv,hb⟩
 ·rw[h0]at hn;simp at hn
 ·refine Ay h (x:=.pointer (some ⟨b,n*l.sz+0,none⟩)) ?_ (.ptr _ _ _ _ l g1 (by omega) _ fun _=>⟨b,hb,rfl⟩);unfold execOp;rw[ho];refine Dh _ ?_;rw[hax,hv,e2,g3,hsz];simpa using Uh (w:=w) (off:=0) (b:=b) (cap:=cap) (k:=k) ht hj hn
theorem Arm[Glob]{c:Ctx}{t:TypeId}{x y:Operand}{s:ByteArray}{k:IntKind}{n:Nat}{ch:UInt8}(ho:o.op=.index t x y)(ht:P.underlying t=some .string)(h:Ac c st a w R G)(hx:val st.env x=.v (.string s))(hy:val st.env y=.v (.int k (n:Int)))(hc:s[n]? =some ch):
  C2 P c st a w G o Q d (.v (.int .u8 ch.toNat)) []:=by
 have e1:a.eval x=.string s:=Cd (hx▸h.val x);have e2:a.eval y=.int k (n:Int):=Cd (hy▸h.val y);refine Ay h ?_ (.v _);unfold execOp;rw[ho];refine Dh _ ?_;rw[e1,e2];have h0:(0:Int)≤(n:Int):=by omega
 simp[Instr.index,asIntOf,run_underlying ht,hc]
theorem Hc[Glob]{c:Ctx}(h:Ac c st a w R G){x:Operand}{k:IntKind}{n:Nat}(hx:val st.env x=.v (.int k (n:Int))):a.eval x=.int k (n:Int):=Cd (hx▸h.val x)
theorem Ca[Glob]{c:Ctx}{isS:Bool}{len cap:Nat}{lo hi mx:Option Operand}(h:Ac c st a w R G){l hh m:Nat}(hl:loV st.env lo l)(hhi:hiV st.env len hi hh)(hm:(mx=none∧m=cap)∨∃y k,mx=some y∧hi.isSome=true∧val st.env y=.v (.int k (m:Int)))(h1:l≤hh)(h2:hh≤m)(h3:m≤cap):
  (Instr.sliceBounds isS len cap (lo.map a.eval) (hi.map a.eval) (mx.map a.eval)).run P w=.ok (l,hh,m) w:=by
 have b:∀(k:IntKind) (n y:Nat) (code:BoundsCode),n≤y→(Instr.sliceBound (.int k (n:Int)) y code).run P w=.ok n w:=fun k n y code hny=>by
  have:=run_sliceBound (P:=P) (w:=w) k (n:Int) y code (by omega) (by omega);simpa using this
 unfold Instr.sliceBounds;rcases hm with⟨rfl,rfl⟩|⟨y,k,rfl,hs,hy⟩
 ·cases hi with
  |none=>
   simp only[hiV]at hhi;subst hhi;cases lo with
   |none=>simp only[loV]at hl;subst hl;simp
   |some x=>obtain⟨kl,hx⟩:=hl;have ex:=Hc h hx;simp[ex,b _ _ _ _ h1]
  |some z=>
   obtain⟨kh,hz⟩:=hhi;have ez:=Hc h hz;cases lo with
   |none=>simp only[loV]at hl;subst hl;simp[ez,b _ _ _ _ h2]
   |some x=>obtain⟨kl,hx⟩:=hl;have ex:=Hc h hx;simp[ex,ez,b _ _ _ _ h1,b _ _ _ _ h2]
 ·have ey:=Hc h hy;cases hi with
  |none=>simp at hs
  |some z=>
   obtain⟨kh,hz⟩:=hhi;have ez:=Hc h hz;cases lo with
   |none=>simp only[loV]at hl;subst hl;simp[ey,ez,b _ _ _ _ h2,b _ _ _ _ h3]
   |some x=>obtain⟨kl,hx⟩:=hl;have ex:=Hc h hx;simp[ex,ey,ez,b _ _ _ _ h1,b _ _ _ _ h2,b _ _ _ _ h3]
theorem Arc[Glob]{c:Ctx}{t:TypeId}{x:Operand}{lo hi:Option Operand}{s:ByteArray}{l hh:Nat}(ho:o.op=.slice t x lo hi none)(ht:P.underlying t=some .string)(h:Ac c st a w R G)(hx:val st.env x=.v (.string s))(hl:loV st.env lo l)(hhi:hiV st.env s.size hi hh)(h1:l≤hh)(h2:hh≤s.size):
  C2 P c st a w G o Q d (.v (.string (s.extract l hh))) []:=by
 have e1:a.eval x=.string s:=Cd (hx▸h.val x);refine Ay h ?_ (.v _);unfold execOp;rw[ho];refine Dh _ ?_;have hb:=Ca (P:=P) (isS:=false) (cap:=s.size) (mx:=none) h hl hhi (.inl ⟨rfl,rfl⟩) h1 h2 (ZT _);simp only[Option.map_none]at hb;simp[Instr.sliceAt,run_underlying ht,Instr.slice,e1,hb]
theorem Apv{clip':Bool}{rows:List (List V)}{b off sz:Nat}{f:Nat→Nat→Value}(hR:R b)(hs:∀row∈rows,row.length=sz)(hcell:∀(i j:Nat) (row:List V) (u:V),rows[i]? =some row→row[j]? =some u→w.cell? ⟨b,off+i*sz+j,none⟩=some (f i j))(hh:∀(i j:Nat) (row:List V) (u:V),rows[i]? =some row→row[j]? =some u→RV w R G u (f i j)){l k m:Nat}(h1:l≤k)(h2:k≤rows.length)(h3:k≤m)(hc:clip'=true→m=k):
  RV w R G (.sl clip' ((rows.drop l).take (k-l))) (.slice (if m=l then some ⟨b,off,none⟩else some ⟨b,off+l*sz,none⟩) (k-l) (m-l)):=by
 by_cases h0:k=l
 ·have e:k-l=0:=by omega
  rw[e,List.take_zero];exact .nil _ _ _ fun e2=>by have:=hc e2;omega
 ·rw[if_neg (by omega)];have hlen:((rows.drop l).take (k-l)).length=k-l:=by simp;omega
  have key:=RV.sl (w:=w) (R:=R) (G:=G) clip' ((rows.drop l).take (k-l)) b (off+l*sz) (m-l) sz (fun i j=>f (l+i) j) hR (by omega) (fun e2=>by have:=hc e2;omega)
   (fun row hrow=>hs row (List.mem_of_mem_drop (List.mem_of_mem_take hrow))) ?_ ?_
  ·rw[hlen]at key;exact key
  ·intro i j row u hr hu;have hi:i<k-l:=by rw[←hlen];exact(ZB.1 hr).1
   rw[Ic _ _ _ _ hi]at hr;have:=hcell (l+i) j row u hr hu;rw[Nat.add_mul,←Nat.add_assoc]at this;exact this
  ·intro i j row u hr hu;have hi:i<k-l:=by rw[←hlen];exact(ZB.1 hr).1
   rw[Ic _ _ _ _ hi]at hr;exact hh (l+i) j row u hr hu
theorem Z8[Glob]{c:Ctx}{t e:TypeId}{x:Operand}{lo hi mx:Option Operand}{j:TypeInfo}{clip clip':Bool}{rows:List (List V)}{l k:Nat}(ho:o.op=.slice t x lo hi mx)(ht:P.underlying t=some (.slice e))(hj:P.info? e=some j)(h:Ac c st a w R G)(hx:val st.env x=.sl clip rows)(hl:loV st.env lo l)(hhi:hiV st.env rows.length hi k)(h1:l≤k)(h2:k≤rows.length)(hsz:rows=[]∨∃row,rows[0]? =some row∧row.length=j.size)(hm:(mx=none∧clip'=false)∨∃y kd,mx=some y∧hi.isSome=true∧val st.env y=.v (.int kd (k:Int))):
  C2 P c st a w G o Q d (.sl clip' ((rows.drop l).take (k-l))) []:=by
 have hr:=h.val x;rw[hx]at hr;generalize hax:a.eval x=ax at hr;have fin:∀(ad:Option Addr) (cap m:Nat),ax=.slice ad rows.length cap→((mx=none∧m=cap)∨∃y k,mx=some y∧hi.isSome=true∧val st.env y=.v (.int k (m:Int)))→k≤m→m≤cap→
   RV w R G (.sl clip' ((rows.drop l).take (k-l))) (.slice (if m=l then ad else ad.map (·.add (l*j.size))) (k-l) (m-l))→C2 P c st a w G o Q d (.sl clip' ((rows.drop l).take (k-l))) []:=fun ad cap m hv hm hkm hmc hrv=>by
  refine Ay h ?_ hrv;unfold execOp;rw[ho];refine Dh _ ?_;have hb:=Ca (P:=P) (isS:=true) h hl hhi hm h1 hkm hmc;rw[hax,hv];simp[Instr.sliceAt,run_underlying ht,Instr.slice,hb,sizeOf,typeInfo,hj]
 have pick:∀cap,rows.length≤cap→∃m,((mx=none∧m=cap)∨∃y k,mx=some y∧hi.isSome=true∧val st.env y=.v (.int k (m:Int)))∧k≤m∧m≤cap∧(clip'=true→m=k):=fun cap hcap=>by
  rcases hm with⟨h3,h4⟩|⟨y,kd,h3,h4,h5⟩
  ·exact⟨cap,.inl ⟨h3,rfl⟩,by omega,ZT _,by rw[h4];simp⟩
  ·exact⟨k,.inr ⟨y,kd,h3,h4,h5⟩,ZT _,by omega,fun _=>rfl⟩
 cases hr with
 |nil clip ad cap hc=>
  obtain⟨m,q1,q2,q3,q4⟩:=pick cap (ZU _);refine fin ad cap m rfl q1 q2 q3 ?_;have hk:k=0:=by simpa using h2
  subst hk;have hl0:l=0:=by omega
  subst hl0;simp;exact .nil _ _ _ q4
 |sl clip rows b off cap sz f hR hcap hclip hs hcell hh=>
  obtain⟨m,q1,q2,q3,q4⟩:=pick cap hcap;refine fin _ cap m rfl q1 q2 q3 ?_;have key:=Apv hR hs hcell hh h1 h2 q2 q4;rcases hsz with h0|⟨row,hrow,hlen⟩
  ·have hk:k=0:=by rw[h0]at h2;simpa using h2
   subst hk;have hl0:l=0:=by omega
   subst hl0;simp;exact .nil _ _ _ q4
  ·have:sz=j.size:=by rw[←hlen];exact(hs row (ZH hrow)).symm
   subst this;simpa[Cs]using key
theorem Am9{t:TypeId}{i:TypeInfo}{agg:Bool}{sz off:Nat}{us:List V}{xs:List Value}(hi:P.info? t=some i)(ha:G5 P t=some agg)(hsz:sz=if agg then i.size else 1)(hl:us.length=xs.length)(hh:∀(i:Nat) (u:V) (x:Value),us[i]? =some u→xs[i]? =some x→RV w R G u x)(hb:off+sz≤us.length):
  ∃x,(part t xs.toArray off).run P w=.ok x w∧RV w R G (mkV agg ((us.drop off).take sz)) x:=by
 refine⟨if agg then .agg ((xs.drop off).take sz).toArray else((xs.drop off).take sz).headD undef,?_,Aah (by simp;omega) (fun e=>by subst e;simp at hsz;subst hsz;simp;omega) ?_⟩
 ·unfold G5 at ha;unfold part isAgg;cases hu:P.underlying t with
  |none=>rw[hu]at ha;cases ha
  |some dsc=>
   rw[hu]at ha;cases agg with
   |true=>
    have hs:sz=i.size:=hsz;have he:xs.toArray.extract off (off+i.size)=((xs.drop off).take sz).toArray:=by
     rw[hs];simp[List.extract_eq_take_drop]
    cases dsc<;>simp at ha<;>simp[run_underlying hu,sizeOf,typeInfo,hi,List.extract_eq_take_drop,hs]
   |false=>
    have hs:sz=1:=hsz;subst hs;have hx:xs[off]? =some (xs[off]'(by omega)):=ZC (by omega);have hd:(xs.drop off).take 1=[xs[off]'(by omega)]:=by
     rw[List.drop_eq_getElem_cons (by omega),List.take_succ_cons,List.take_zero]
    cases dsc<;>simp at ha<;>simp[run_underlying hu,hx,hd]
 ·intro j u x h1 h2;have hjs:j<sz:=by have:=(ZB.1 h2).1;simp at this;omega
  rw[Ic _ _ _ _ hjs]at h1 h2;exact hh (off+j) u x h1 h2
theorem As0[Glob]{c:Ctx}{t:TypeId}{x:Operand}{k:Nat}{fs:Array Field}{f:Field}{i:TypeInfo}{agg:Bool}{sz:Nat}{us:List V}(ho:o.op=.field t x k)(ht:P.underlying t=some (.struct fs))(hf:fs[k]? =some f)(hi:P.info? f.type=some i)(ha:G5 P f.type=some agg)(hsz:sz=if agg then i.size else 1)(h:Ac c st a w R G)(hv:val st.env x=.agg us)(hb:f.offset+sz≤us.length):C2 P c st a w G o Q d (mkV agg ((us.drop f.offset).take sz)) []:=by
 have hx:=h.val x;rw[hv]at hx;generalize hax:a.eval x=ax at hx;cases hx with
 |agg us xs hl hh=>
  obtain⟨y,h1,h2⟩:=Am9 (P:=P) hi ha hsz hl hh hb;refine Ay h (x:=y) ?_ h2;unfold execOp;rw[ho];refine Dh _ ?_;simp[hax,Instr.field,run_underlying ht,hf,asAgg,h1]
end
end Go.Proofs.YtchbkgnobpejnaaGreatDoor
