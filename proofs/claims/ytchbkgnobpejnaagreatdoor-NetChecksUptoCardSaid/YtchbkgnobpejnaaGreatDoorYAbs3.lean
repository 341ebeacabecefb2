/- The framework: part of this claim. -/
import Derived.Test.YtchbkgnobpejnaaGreatDoorYAbs2
set_option linter.unusedSimpArgs false
set_option linter.unusedVariables false
namespace Go.Proofs.YtchbkgnobpejnaaGreatDoor
open Go.RowKit
def G5(P:Program)(t:TypeId):Option Bool:=match P.underlying t with
 |some (.struct _)=>some true
 |some (.array _ _)=>some true
 |some _=>some false
 |none=>none
def Gp(z:Value):Bool:=z.cells.toList.all fun x=>x.oneCell'
def Ak4(P:Program)(rc:TypeId→Option (List Nat)):List Field→Nat→Option (List Nat)
 |[],_=>some []
 |f::fs,off=>match rc f.type,P.info? f.type,G5 P f.type with
  | some ts, some i, some agg => if f.name != "_" && f.offset == off && ts.length == i.size && (agg || ts.length == 1) then (match Ak4 P rc fs (off + ts.length) with
   |some r=>some (ts++r)
   |none=>none)else none
  |_,_,_=>none
def Hs(P:Program):Nat→TypeId→Option (List Nat)
 |0,_=>none
 |d+1,t=>match P.underlying t with
  |some (.int _)=>some [0]
  |some .string=>some [1]
  |some .bool=>some [2]
  |some (.struct fs)=>if P.stoodInHeld t||P.eqGuardType P.depth t then none else Ak4 P (Hs P d) fs.toList 0
  |_=>none
def Px(P:Program)(fs:Array Field):List (Nat×Operand)→Option (List (Nat×Nat×Operand))
 |[]=>some []
 |(k,x)::ps=>do
  let f←fs[k]?
  let i←P.info? f.type
  let r←Px P fs ps
  some ((f.offset,i.size,x)::r)
def Iu:TypeDesc→Bool
 |.int _=>true
 |.string=>true
 |_=>false
def A6(P:Program)(o:Oper):Option ROp:=
 match o.op with
 |.move x=>some (.mv x)
 |.assign x=>some (.mv x)
 |.pick c a b=>some (.pick c a b)
 |.box T x=>match P.info? T with
  |some i=>if 0<i.size then some (.box T i.size x)else none
  |none=>none
 |.alloc T=>match P.info? T with
  |some i=>match i.zero with
   |some z=>if 0<z.cells.size&&Gp z then some (.zbox T z.cells.toList)else none
   |none=>none
  |none=>none
 |.load t x=>match P.info? t,G5 P t with
  |some i,some true=>some (.load true i.size x)
  |some i,some false=>some (.load false 1 x)
  |_,_=>none
 |.binOp op t x y _=>match P.underlying t,op with
  |some (.slice _),.eql=>match y with
   |.const (.slice none 0 0)=>some (.isnil false x)
   |_=>none
  |some (.slice _),.neq=>match y with
   |.const (.slice none 0 0)=>some (.isnil true x)
   |_=>none
  |some .bool,.eql=>some (.eqb false x y)
  |some .bool,.neq=>some (.eqb true x y)
  |some (.int _),op=>some (.bin op x y)
  |some .string,op=>some (.bin op x y)
  |some (.struct _),.eql=>(Hs P 20 t).map fun ts=>.eqS false ts x y
  |some (.struct _),.neq=>(Hs P 20 t).map fun ts=>.eqS true ts x y
  |_,_=>none
 |.unOp .not _ x=>some (.not x)
 |.unOp .neg _ x=>some (.neg x)
 |.convert s d x=>match P.underlying s,P.underlying d with
  |some (.int _),some (.int k)=>some (.conv k x)
  |some .string,some .string=>some (.convS x)
  |some (.slice e),some .string=>match P.underlying e,P.info? e with
   |some (.int .u8),some i=>if i.size=1 then some (.ofB x)else none
   |_,_=>none
  |some .string,some (.slice e)=>match P.underlying e with
   |some (.int .u8)=>some (.toB x)
   |_=>none
  |_,_=>none
 |.field t x k=>match P.underlying t with
  |some (.struct fs)=>match fs[k]? with
   |some f=>match P.info? f.type,G5 P f.type with
    |some i,some true=>some (.fld true i.size f.offset x)
    |some i,some false=>some (.fld false 1 f.offset x)
    |_,_=>none
   |none=>none
  |_=>none
 |.fieldAddr t x k=>match P.underlying t with
  |some (.struct fs)=>match fs[k]? with
   |some f=>match P.info? f.type with
    |some i=>if 0<i.size then some (.fldA f.offset x)else none
    |none=>none
   |none=>none
  |_=>none
 |.nilCheck x=>some (.fldA 0 x)
 |.indexAddr t x i=>match P.underlying t with
  |some (.slice e)=>match P.info? e with
   |some j=>if 0<j.size then some (.idxA j.size x i)else none
   |none=>none
  |_=>none
 |.index t x i=>match P.underlying t with
  |some .string=>some (.idxS x i)
  |_=>none
 |.slice t x lo hi mx=>match P.underlying t with
  |some .string=>if mx.isNone then some (.slcS x lo hi)else none
  |some (.slice e)=>match P.info? e with
   |some j=>if 0<j.size then some (.slcL j.size x lo hi mx)else none
   |none=>none
  |_=>none
 |.extract x i=>some (.ext x i)
 |.build t ps=>match P.info? t with
  |some i=>match i.zero,P.underlying t with
   |some z,some (.struct fs)=>if fs.toList.all (fun f=>(P.info? f.type).isSome)&&Gp z then(Px P fs ps.toList).map (.build z.cells.toList)else none
   |_,_=>none
  |none=>none
 |.buildSlice t n ps=>match P.underlying t with
  |some (.slice e)=>match P.info? e with
   |some i=>match i.zero with
    |some z=>if 0<i.size&&z.cells.size==i.size&&n*i.size≤16777216&&Gp z then some (.mks e i.size n z.cells.toList ps.toList)else none
    |none=>none
   |none=>none
  |_=>none
 |.makeSlice t x y=>match P.underlying t with
  |some (.slice e)=>match P.info? e with
   |some i=>match i.zero with
    |some z=>if 0<i.size&&z.cells.size==i.size&&Gp z then some (.mkn e i.size i.bytes z.cells.toList x y)else none
    |none=>none
   |none=>none
  |_=>none
 |.call {callee:=.builtin .len,args,argTypes} =>match args.toList,argTypes.toList with
  |[x],[t]=>match P.underlying t with
   |some .string=>some (.len true x)
   |some (.slice _)=>some (.len false x)
   |some (.map _ _)=>some (.mlen x)
   |_=>none
  |_,_=>none
 |.call {callee:=.builtin .max,args,argTypes} =>match args.toList with
  |[x,y]=>some (.mm true x y)
  |_=>none
 |.call {callee:=.builtin .min,args,argTypes} =>match args.toList with
  |[x,y]=>some (.mm false x y)
  |_=>none
 |.call {callee:=.builtin .clear,args,argTypes} =>match args.toList,argTypes.toList with
  |[x],[t]=>match P.underlying t with
   |some (.slice e)=>match P.info? e with
    |some i=>match i.zero with
     |some z=>if 0<i.size&&z.cells.size==i.size&&Gp z then some (.clr i.size z.cells.toList x)else none
     |none=>none
    |none=>none
   |_=>none
  |_,_=>none
 |.call {callee:=.builtin .append,args,argTypes} =>match args.toList,argTypes.toList with
  |[x,y],[t,t']=>if t=t' then match P.underlying t with
   |some (.slice e)=>match P.info? e with
    |some i=>match i.zero with
     |some z=>if 0<i.size&&z.cells.size==i.size then some (.app e i.size i.bytes z x y)else none
     |none=>none
    |none=>none
   |_=>none
   else none
  |_,_=>none
 |.call {callee:=.value f,args, .. } =>some (.call f args.toList)
 |.makeFunc (.func f) first caps=>if first.isEmpty then some (.mkfn f caps.toList)else none
 |.store t x y=>match P.info? t with
  |some i=>some (.store i.size x y)
  |none=>none
 |.makeMap t none=>some .mkm
 |.panic x=>some (.die x)
 |.makeInterface t x=>match P.underlying t with
  |some (.interface _)=>none
  |some _=>some (.mki t x)
  |none=>none
 |.lookup t x i' ok=>match P.underlying t with
  |some (.map k e)=>match P.underlying k,P.info? e with
   |some kd,some i=>match i.zero with
    |some z=>if Iu kd&&z.oneCell' then some (.mlook kd ok z x i')else none
    |none=>none
   |_,_=>none
  |_=>none
 |.mapUpdate t x i v=>match P.underlying t with
  |some (.map k e)=>match P.underlying k with
   |some kd=>if Iu kd then some (.mupd kd x i v)else none
   |none=>none
  |_=>none
 |.insert t x i v=>match P.underlying t with
  |some (.map k e)=>match P.underlying k with
   |some kd=>if Iu kd then some (.mupd kd x i v)else none
   |none=>none
  |_=>none
 |_=>none
def Bx(H:Nat→Option Ent):List (Nat×Option Ent)→(Nat→Option Ent)
 |[]=>H
 |(k,e)::r=>Bx (upd H k e) r
def C2[Glob](P:Program)(c:Ctx)(st:St)(a:Act)(w:World)(G:Nat→Option Loc)(o:Oper)(Q:Exit→Act→World→Prop)(d:Nat)(u:V)(dH:List (Nat×Option Ent)):Prop:=
 ∀next:Act→World→Prop,(∀x w' R' G',Ac c {st with H:=Bx st.H dH} a w' R' G'→RV w' R' G' u x→(∀id,id/16≠d→G' id=G id)→next (a.put o.dst x) w')→o.wp P a w next Q
section
variable {P:Program} {st:St} {a:Act} {w w':World} {R:Nat→Prop} {G:Nat→Option Loc} {o:Oper} {Q:Exit→Act→World→Prop} {d:Nat} {u:V} {dH:List (Nat×Option Ent)}
theorem De{x:Value}{next:Act→World→Prop}(h:(execOp a.eval o).run P w=.ok (.value x) w')(hn:next (a.put o.dst x) w'):o.wp P a w next Q:=by
 unfold Oper.wp;rw[h];exact hn
theorem Ay[Glob]{c:Ctx}{x:Value}(h:Ac c st a w R G)(hr:(execOp a.eval o).run P w=.ok (.value x) w)(hu:RV w R G u x):C2 P c st a w G o Q d u []:=
 fun next hn=>De hr (hn x w R G h hu (fun _ _=>rfl))
theorem Dh(s:Sem Value){x:Value}(h:s.run P w=.ok x w'):((do pure (Next.value (←s))):Sem Next).run P w=.ok (.value x) w':=by
 simp[h]
theorem Ac.val[Glob]{c:Ctx}(h:Ac c st a w R G)(x:Operand):RV w R G (val st.env x) (a.eval x):=by
 cases x with
 |tmp t=>exact h.env t
 |const x=>exact .v x
 |global g=>exact .v _
 |func f=>exact .v _
theorem Cd{x y:Value}(h:RV w R G (.v x) y):y=x:=by cases h;rfl
theorem At5[Glob]{c:Ctx}{x:Operand}(ho:o.op=.move x∨o.op=.assign x)(h:Ac c st a w R G):C2 P c st a w G o Q d (val st.env x) []:=
 Ay (x:=a.eval x) h (by rcases ho with ho|ho<;>(unfold execOp;rw[ho];rfl)) (h.val x)
theorem Aqp[Glob]{c:Ctx}{x y z:Operand}{t:Bool}(ho:o.op=.pick x y z)(h:Ac c st a w R G)(ht:val st.env x=.v (.bool t)):C2 P c st a w G o Q d (if t then val st.env y else val st.env z) []:=by
 have e:a.eval x=.bool t:=Cd (ht▸h.val x);refine Ay (x:=if t then a.eval y else a.eval z) h ?_ ?_
 ·unfold execOp;rw[ho];simp[e,asBool]
 ·cases t<;>exact h.val _
theorem Wk[Glob]{c:Ctx}(h:Ac c st a w R G){u:V}{x:Value}(h1:one st.H u)(hr:RV w R G u x):x.oneCell'=true:=by
 cases hr with
 |any x=>exact h1.elim
 |v x=>exact h1
 |agg=>exact h1.elim
 |tup=>exact h1.elim
 |nil=>rfl
 |sl=>rfl
 |own id gen l hl hg x hx=>
  obtain⟨e,he,hge⟩:=h1;obtain⟨l',xs,_,g1,g2,g3,g4,g5,g6,rfl,_⟩:=h.objO (.own id gen l hl hg x hx) he hge;rcases g5.2 with⟨q,_⟩|⟨g,cap,cur,q,_⟩<;>rw[q]<;>rfl
 |ptr id gen i off l hl hg x hx=>
  obtain⟨e,he,hge⟩:=h1;obtain⟨l',b,g1,g2,g3,g4,rfl⟩:=h.objB (.ptr id gen i off l hl hg x hx) he hge;rfl
 |rptr=>rfl
 |clo=>rfl
 |obj id gen l hl hg x hx=>
  obtain⟨e,he,hge,An,hT⟩:=h1;have:=h.hr.le id e l he hl;have h2:l.gen=e.gen:=by omega
  have h3:=h.hr.obj id e l he hl h2;unfold Kz at h3;rw[hT]at h3;obtain⟨F,f1,f2,f3,b,clock,es,m1,m2⟩:=h3;rw[hx (by omega),m1];rfl
 |osub=>exact h1.elim
 |oclip=>exact h1.elim
 |inm=>exact h1.elim
 |rmap=>rfl
theorem X1{H:Nat→Option Ent}:∀{cs:List V} {u:V},Hl H cs→u∈cs→one H u
 |v::cs,u,h,hu=>by
  rcases XC.1 hu with rfl|hu
  ·exact h.1
  ·exact X1 h.2 hu
theorem Z3[Glob]{c:Ctx}(h:Ac c st a w R G){u:V}{x:Value}{cs:List V}(hc:Eb u=some cs)(hr:RV w R G u x)(h1:Hl st.H cs):
  x.cells.toList.length=cs.length∧∀(i:Nat) (v:V),cs[i]? =some v→∃y,x.cells.toList[i]? =some y∧y.oneCell'=true∧RV w R G v y:=by
 have single:∀(u:V) (x:Value),Eb u=some [u]→RV w R G u x→Hl st.H [u]→x.cells.toList.length=[u].length∧∀(i:Nat) (v:V),[u][i]? =some v→∃y,x.cells.toList[i]? =some y∧y.oneCell'=true∧RV w R G v y:=fun u x _ hr h1=>by
  have hx:=Wk h h1.1 hr;have hcx:x.cells= #[x]:=by cases x<;>first|rfl|(simp[Value.oneCell']at hx)
  rw[hcx];refine⟨rfl,fun i v hv=>?_⟩;cases i with
  |zero=>simp at hv;subst hv;exact⟨x,rfl,hx,hr⟩
  |succ i=>simp at hv
 cases u with
 |any=>cases hc
 |tup=>cases hc
 |agg us=>
  injection hc with hc;subst hc;cases hr with
  |agg cs xs hl hh=>
   refine⟨by simp[Value.cells,hl],fun i v hv=>?_⟩;have hi:i<xs.length:=by rw[←hl];exact(ZB.1 hv).1
   have hy:xs[i]? =some xs[i]:=ZC hi;exact⟨xs[i],hy,Wk h (X1 h1 (ZH hv)) (hh i v _ hv hy),hh i v _ hv hy⟩
 |v y=>injection hc with hc;subst hc;exact single _ _ rfl hr h1
 |sl c r=>injection hc with hc;subst hc;exact single _ _ rfl hr h1
 |own i g=>injection hc with hc;subst hc;exact single _ _ rfl hr h1
 |ptr i g j k=>injection hc with hc;subst hc;exact single _ _ rfl hr h1
 |rptr r k=>injection hc with hc;subst hc;exact single _ _ rfl hr h1
 |clo f r=>injection hc with hc;subst hc;exact single _ _ rfl hr h1
 |obj i g=>injection hc with hc;subst hc;exact single _ _ rfl hr h1
 |osub i g lo hi=>injection hc with hc;subst hc;exact single _ _ rfl hr h1
 |oclip i g n=>injection hc with hc;subst hc;exact single _ _ rfl hr h1
 |inm i g b n c=>injection hc with hc;subst hc;exact single _ _ rfl hr h1
 |rmap r=>injection hc with hc;subst hc;exact single _ _ rfl hr h1
theorem Sf[Glob]{c:Ctx}{g:Nat→Nat}{id:Nat}{To:TO}{T:TypeId}{box:Bool}{sz:Nat}{rows:List (List V)}{cur:Array Value}{x:Value}(hT:X3 To T (.slice (some ⟨w.heap.size,0,none⟩) rows.length rows.length) box)(hid:id/16=d)(hgen:∀l0,G id=some l0→l0.gen<g id)(h:Ac c st a w R G)(hsz:0<sz)(hcur:cur.size=rows.length*sz)(hmax:rows.length≤maxLen)(hrows:Ch w R G cur.toList sz rows)(hr:(execOp a.eval o).run P w=.ok (.value x) (w.alloc (.cells cur T)))(hu:∀G',G' id=some ⟨g id,sz,.slice (some ⟨w.heap.size,0,none⟩) rows.length rows.length,box,none⟩→RV (w.alloc (.cells cur T)) R G' u x):
  C2 P c st a w G o Q d u [(id,some ⟨g id,To,sz,rows⟩)]:=by
 intro next hn
 have hgb:=World.grownBy_alloc w (.cells cur T) none;have hle:Gle G (upd G id (some ⟨g id,sz,.slice (some ⟨w.heap.size,0,none⟩) rows.length rows.length,box,none⟩)):=fun k m hm=>by
  by_cases hk:k=id
  ·subst hk;exact⟨_,Aj _ _ _,.inr (hgen m hm)⟩
  ·exact⟨m,by rw[Ap _ _ hk];exact hm,.inl (Db.refl _)⟩
 have hR:Ac c {st with H:=upd st.H id (some ⟨g id,To,sz,rows⟩)} a (w.alloc (.cells cur T)) R (upd G id (some ⟨g id,sz,.slice (some ⟨w.heap.size,0,none⟩) rows.length rows.length,box,none⟩)):=by
  refine h.set (row:=none) hgb hT (by simp) (fun l0 h0=>.inr (hgen l0 h0)) hsz (xs:=cur.toList) ?_ ?_ ?_
  ·refine⟨by simpa using hcur,.inr ⟨w.heap.size,rows.length,cur,rfl,ZU _,heap_alloc_new w _,ZT _,hmax,hcur,?_⟩⟩;rw[List.take_of_length_le (by simp[hcur])]
  ·exact hrows.mono (fun b hb=>⟨hb,hgb.block b (h.lt b hb) (by simp)⟩) hle
  ·intro b hb;simp[Value.ownBlock]at hb;subst hb;exact .inr (h.newBlk (ZT _) id)
 refine De hr (hn x _ R _ hR (hu _ (Aj _ _ _)) ?_);intro k hk;rw[Ap _ _ (fun e=>hk (by rw[e];exact hid))]
theorem Ars[Glob]{c:Ctx}{g:Nat→Nat}{id:Nat}{t:TypeId}(hid:id/16=d)(hgen:∀l0,G id=some l0→l0.gen<g id)(ho:o.op=.makeMap t none)(h:Ac c st a w R G):C2 P c st a w G o Q d (.obj id (g id)) [(id,some ⟨g id,.q (Mj []),0,[]⟩)]:=by
 intro next hn
 have hgb:=World.grownBy_alloc w (.map #[] 0) none;have hr:(execOp a.eval o).run P w=.ok (.value (.map (some w.heap.size))) (w.alloc (.map #[] 0)):=by
  unfold execOp;rw[ho];simp[Instr.makeMap]
 refine De hr (hn (.map (some w.heap.size)) _ R (upd G id (some ⟨g id,0,.map (some w.heap.size),true,some fun k=>k=w.heap.size⟩)) ?_ ?_ ?_)
 ·refine h.setG (e:=⟨g id,.q (Mj []),0,[]⟩) (row:=none) hgb (by simp) (fun l0 h0=>.inr (hgen l0 h0)) rfl ?_ ?_
  ·exact⟨_,rfl,rfl,rfl,w.heap.size,0, #[],rfl,heap_alloc_new w _,rfl,fun _=>Iff.rfl,fun i e p h1=>by simp at h1⟩
  ·intro b hb;have hb:b=w.heap.size:=hb;subst hb;exact .inr (h.newBlk (ZT _) id)
 ·exact .obj id (g id) _ (Aj _ _ _) (ZT _) _ (fun _=>rfl)
 ·intro k hk;rw[Ap _ _ (fun e=>hk (by rw[e];exact hid))]
theorem Aru[Glob]{c:Ctx}{g:Nat→Nat}{id:Nat}{T:TypeId}{x:Operand}{cs:List V}(hid:id/16=d)(hgen:∀l0,G id=some l0→l0.gen<g id)(ho:o.op=.box T x)(h:Ac c st a w R G)(hc:Eb (val st.env x)=some cs)(h0:0<cs.length)(h1:Hl st.H cs):
  C2 P c st a w G o Q d (.ptr id (g id) 0 0) [(id,some ⟨g id,.b T,cs.length,[cs]⟩)]:=by
 obtain⟨hl,hcells⟩:=Z3 h hc (h.val x) h1;refine Sf (cur:=(a.eval x).cells) (x:=.pointer (some ⟨w.heap.size,0,none⟩)) (.inr ⟨rfl,rfl,_,rfl⟩) hid hgen h h0 (by simp at hl ⊢;exact hl) (by simp[maxLen]) ⟨by simp,?_⟩ ?_ ?_
 ·intro i j row u h2 h3;cases i with
  |zero=>simp at h2;subst h2;simpa using hcells j u h3
  |succ i=>simp at h2
 ·unfold execOp;rw[ho];simp[Instr.box,newVar,newRow]
 ·intro G' hG';exact .ptr _ _ _ _ _ hG' (ZT _) _ fun _=>⟨w.heap.size,rfl,by simp⟩
theorem Apg[Glob]{c:Ctx}{g:Nat→Nat}{id:Nat}{T:TypeId}{i:TypeInfo}{z:Value}(hid:id/16=d)(hgen:∀l0,G id=some l0→l0.gen<g id)(ho:o.op=.alloc T)(hi:P.info? T=some i)(hz:i.zero=some z)(h:Ac c st a w R G)(h0:0<z.cells.size)(h1:Gp z=true):
  C2 P c st a w G o Q d (.ptr id (g id) 0 0) [(id,some ⟨g id,.b T,z.cells.toList.length,[z.cells.toList.map .v]⟩)]:=by
 refine Sf (cur:=z.cells) (x:=.pointer (some ⟨w.heap.size,0,none⟩)) (.inr ⟨rfl,rfl,_,rfl⟩) hid hgen h (by simp;exact h0) (by simp) (by simp[maxLen]) ⟨by simp,?_⟩ ?_ ?_
 ·intro k j row u h2 h3;cases k with
  |zero=>
   simp at h2;subst h2;rw[XJ]at h3;cases hq:z.cells.toList[j]? with
   |none=>rw[hq]at h3;cases h3
   |some y=>
    rw[hq]at h3;simp at h3;subst h3;refine⟨y,by simpa using hq,?_,.v y⟩;unfold Gp at h1;exact List.all_eq_true.1 h1 y (ZH hq)
  |succ k=>simp at h2
 ·unfold execOp;rw[ho];simp[Instr.alloc,zeroValue,typeInfo,hi,hz,newVar,newRow]
 ·intro G' hG';exact .ptr _ _ _ _ _ hG' (ZT _) _ fun _=>⟨w.heap.size,rfl,by simp⟩
end
end Go.Proofs.YtchbkgnobpejnaaGreatDoor
