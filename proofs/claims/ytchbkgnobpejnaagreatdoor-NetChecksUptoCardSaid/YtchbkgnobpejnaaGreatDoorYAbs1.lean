/- The framework: part of this claim. -/
import Derived.WalkKit
import Derived.Below
import Derived.WalkSmall
import Derived.Laws.AppendOwn
set_option linter.unusedSimpArgs false
set_option linter.unusedVariables false
namespace Go.Proofs.YtchbkgnobpejnaaGreatDoor
theorem ZA.{u,v}:type_of% @Option.bind_some.{u,v}:=@Option.bind_some.{u,v}
theorem ZB.{u}:type_of% @List.getElem?_eq_some_iff.{u}:=@List.getElem?_eq_some_iff.{u}
theorem ZC.{u}:type_of% @List.getElem?_eq_getElem.{u}:=@List.getElem?_eq_getElem.{u}
theorem ZD.{u}:type_of% @Option.some.injEq.{u}:=@Option.some.injEq.{u}
theorem ZE.{u,v}:type_of% @List.length_map.{u,v}:=@List.length_map.{u,v}
theorem ZF.{u}:type_of% @List.length_append.{u}:=@List.length_append.{u}
theorem ZG.{u}:type_of% @beq_eq_false_iff_ne.{u}:=@beq_eq_false_iff_ne.{u}
theorem ZH.{u}:type_of% @List.mem_of_getElem?.{u}:=@List.mem_of_getElem?.{u}
theorem ZI.{u,v}:type_of% @List.map_append.{u,v}:=@List.map_append.{u,v}
theorem ZJ.{u}:type_of% @List.length_cons.{u}:=@List.length_cons.{u}
theorem ZK.{u}:type_of% @List.getElem_mem.{u}:=@List.getElem_mem.{u}
theorem ZL.{u}:type_of% @List.mem_cons_of_mem.{u}:=@List.mem_cons_of_mem.{u}
theorem ZM.{u}:type_of% @List.length_take.{u}:=@List.length_take.{u}
theorem ZN.{u}:type_of% @List.length_nil.{u}:=@List.length_nil.{u}
theorem ZO:type_of% @Bool.and_eq_true:=@Bool.and_eq_true
theorem ZP.{u}:type_of% @List.getElem?_append_right.{u}:=@List.getElem?_append_right.{u}
theorem ZQ.{u}:type_of% @List.getElem?_append_left.{u}:=@List.getElem?_append_left.{u}
theorem ZR.{u}:type_of% @beq_iff_eq.{u}:=@beq_iff_eq.{u}
theorem ZS.{u}:type_of% @List.append_assoc.{u}:=@List.append_assoc.{u}
theorem ZT:type_of% @Nat.le_refl:=@Nat.le_refl
theorem ZU:type_of% @Nat.zero_le:=@Nat.zero_le
theorem ZV:type_of% @of_decide_eq_true:=@of_decide_eq_true
theorem ZW:type_of% @of_decide_eq_false:=@of_decide_eq_false
theorem ZX:type_of% @decide_eq_true:=@decide_eq_true
theorem ZY:type_of% @decide_eq_false:=@decide_eq_false
theorem ZZ.{u}:type_of% @bne_iff_ne.{u}:=@bne_iff_ne.{u}
theorem XA.{u}:type_of% @List.getElem?_take_of_lt.{u}:=@List.getElem?_take_of_lt.{u}
theorem XB.{u}:type_of% @List.mem_cons_self.{u}:=@List.mem_cons_self.{u}
theorem XC.{u}:type_of% @List.mem_cons.{u}:=@List.mem_cons.{u}
theorem XD.{u}:type_of% @List.not_mem_nil.{u}:=@List.not_mem_nil.{u}
theorem XE:type_of% @Bool.eq_false_iff:=@Bool.eq_false_iff
theorem XF.{u}:type_of% @List.take_length.{u}:=@List.take_length.{u}
theorem XG:type_of% @Nat.mul_le_mul_right:=@Nat.mul_le_mul_right
theorem XH:type_of% @Nat.lt_of_lt_of_le:=@Nat.lt_of_lt_of_le
theorem XI:type_of% @Nat.le_trans:=@Nat.le_trans
theorem XJ.{u,v}:type_of% @List.getElem?_map.{u,v}:=@List.getElem?_map.{u,v}
theorem XK.{u}:type_of% @List.getElem?_eq_none.{u}:=@List.getElem?_eq_none.{u}
theorem XL.{u}:type_of% @Array.getElem?_eq_some_iff.{u}:=@Array.getElem?_eq_some_iff.{u}
theorem XM.{u}:type_of% @List.mem_append.{u}:=@List.mem_append.{u}
theorem XN.{u}:type_of% @List.mem_singleton.{u}:=@List.mem_singleton.{u}
theorem XO.{u,v}:type_of% @List.mem_map.{u,v}:=@List.mem_map.{u,v}
theorem XP:type_of% @ByteArray.size_append:=@ByteArray.size_append
theorem XQ.{u,v}:type_of% @List.getElem_map.{u,v}:=@List.getElem_map.{u,v}
theorem XR.{u}:type_of% @List.eq_nil_of_length_eq_zero.{u}:=@List.eq_nil_of_length_eq_zero.{u}
theorem XS.{u,v}:type_of% @Option.bind_eq_some_iff.{u,v}:=@Option.bind_eq_some_iff.{u,v}
theorem XT.{u}:type_of% @List.take_add_one.{u}:=@List.take_add_one.{u}
theorem XU.{u}:type_of% @bne_eq_false_iff_eq.{u}:=@bne_eq_false_iff_eq.{u}
open Go.RowKit
inductive V where
 |any
 |v (x:Value)
 |agg (cs:List V)
 |tup (cs:List V)
 |sl (clip:Bool) (rows:List (List V))
 |own (id gen:Nat)
 |ptr (id gen i off:Nat)
 |rptr (row:List V) (off:Nat)
 |clo (f:FuncId) (caps:List V)
 |obj (id gen:Nat)
 |osub (id gen lo hi:Nat)
 |oclip (id gen n:Nat)
 |inm (id gen b n cap:Nat)
 |rmap (An:List (Value×V))
structure Loc where
 gen:Nat
 sz:Nat
 val:Value
 box:Bool
 op:Option (Nat→Prop)
def Loc.ft(l:Loc)(b:Nat):Prop:=match l.op with|none=>l.val.ownBlock=some b|some F=>F b
theorem Loc.ft_of{l:Loc}(h:l.op=none){b:Nat}:l.ft b↔l.val.ownBlock=some b:=by simp only[Loc.ft,h]
def pv:Value→Value
 |.slice (some a) _ _=>.pointer (some ⟨a.block,0,none⟩)
 |x=>x
structure Db(l l':Loc):Prop where
 gen:l'.gen=l.gen
 sz:l'.sz=l.sz
 val:l'.val=l.val
 box:l'.box=l.box
theorem Db.refl(l:Loc):Db l l:=⟨rfl,rfl,rfl,rfl⟩
theorem Db.trans{a b c:Loc}(h:Db a b)(k:Db b c):Db a c:=⟨k.gen.trans h.gen,k.sz.trans h.sz,k.val.trans h.val,k.box.trans h.box⟩
def Apb(v:Value)(sz lo hi:Nat)(x:Value):Prop:=
 (v=.slice none 0 0∧lo=0∧hi=0∧x=.slice none 0 0)∨
 ∃b n cap off,v=.slice (some ⟨b,0,none⟩) n cap∧lo≤hi∧hi≤cap∧(lo=0∨cap≠lo→off=lo*sz)∧x=.slice (some ⟨b,off,none⟩) (hi-lo) (cap-lo)
def Aoo(v:Value)(n:Nat)(x:Value):Prop:=
 (v=.slice none 0 0∧n=0∧x=.slice none 0 0)∨∃b m cap,v=.slice (some ⟨b,0,none⟩) m cap∧n≤cap∧x=.slice (some ⟨b,0,none⟩) n n
inductive RV(w:World)(R:Nat→Prop)(G:Nat→Option Loc):V→Value→Prop where
 |any (x:Value):RV w R G .any x
 |v (x:Value):RV w R G (.v x) x
 |agg (cs:List V) (xs:List Value) (hl:cs.length=xs.length) (h:∀(i:Nat) (u:V) (x:Value),cs[i]? =some u→xs[i]? =some x→RV w R G u x):RV w R G (.agg cs) (.agg xs.toArray)
 |tup (cs:List V) (xs:List Value) (hl:cs.length=xs.length) (h:∀(i:Nat) (u:V) (x:Value),cs[i]? =some u→xs[i]? =some x→RV w R G u x):RV w R G (.tup cs) (.tuple xs.toArray)
 |nil (clip:Bool) (a:Option Addr) (cap:Nat) (hc:clip=true→cap=0):RV w R G (.sl clip []) (.slice a 0 cap)
 |sl (clip:Bool) (rows:List (List V)) (b off cap sz:Nat) (f:Nat→Nat→Value) (hR:R b) (hcap:rows.length≤cap) (hclip:clip=true→cap=rows.length)
   (hs:∀row∈rows,row.length=sz)
   (hcell:∀(i j:Nat) (row:List V) (u:V),rows[i]? =some row→row[j]? =some u→w.cell? ⟨b,off+i*sz+j,none⟩=some (f i j))
   (h:∀(i j:Nat) (row:List V) (u:V),rows[i]? =some row→row[j]? =some u→RV w R G u (f i j)):RV w R G (.sl clip rows) (.slice (some ⟨b,off,none⟩) rows.length cap)
 |own (id gen:Nat) (l:Loc) (hG:G id=some l) (hg:gen≤l.gen) (x:Value) (hx:l.gen=gen→x=l.val∧l.box=false):RV w R G (.own id gen) x
 |ptr (id gen i off:Nat) (l:Loc) (hG:G id=some l) (hg:gen≤l.gen) (x:Value) (hx:l.gen=gen→∃b,l.val.ownBlock=some b∧x=.pointer (some ⟨b,i*l.sz+off,none⟩)):RV w R G (.ptr id gen i off) x
 |rptr (row:List V) (off b o:Nat) (f:Nat→Value) (hR:R b) (hcell:∀(j:Nat) (u:V),row[j]? =some u→w.cell? ⟨b,o+j,none⟩=some (f j))
   (h:∀(j:Nat) (u:V),row[j]? =some u→RV w R G u (f j)):RV w R G (.rptr row off) (.pointer (some ⟨b,o+off,none⟩))
 |clo (f:FuncId) (cs:List V) (xs:List Value) (hl:cs.length=xs.length) (h:∀(i:Nat) (u:V) (x:Value),cs[i]? =some u→xs[i]? =some x→RV w R G u x):RV w R G (.clo f cs) (.func (.func f) #[] xs.toArray)
 |obj (id gen:Nat) (l:Loc) (hG:G id=some l) (hg:gen≤l.gen) (x:Value) (hx:l.gen=gen→x=pv l.val):RV w R G (.obj id gen) x
 |osub (id gen lo hi:Nat) (l:Loc) (hG:G id=some l) (hg:gen≤l.gen) (x:Value) (hx:l.gen=gen→l.box=false∧Apb l.val l.sz lo hi x):RV w R G (.osub id gen lo hi) x
 |oclip (id gen n:Nat) (l:Loc) (hG:G id=some l) (hg:gen≤l.gen) (x:Value) (hx:l.gen=gen→l.box=false∧Aoo l.val n x):RV w R G (.oclip id gen n) x
 |inm (id gen b n cap:Nat) (l:Loc) (hG:G id=some l) (hg:gen≤l.gen):RV w R G (.inm id gen b n cap) (.slice (some ⟨b,0,none⟩) n cap)
 |rmap (An:List (Value×V)) (b clock:Nat) (es:Array MapEntry) (hR:R b) (hb:w.heap[b]? =some (.map es clock)) (hl:es.size=An.length)
   (hk:∀(i:Nat) (e:MapEntry) (p:Value×V),es[i]? =some e→An[i]? =some p→e.key=p.1)
   (hv:∀(i:Nat) (e:MapEntry) (p:Value×V),es[i]? =some e→An[i]? =some p→RV w R G p.2 e.val):RV w R G (.rmap An) (.map (some b))
def Gle(G G':Nat→Option Loc):Prop:=∀id l,G id=some l→∃l',G' id=some l'∧(Db l l'∨l.gen<l'.gen)
theorem Gle.refl(G:Nat→Option Loc):Gle G G:=fun id l h=>⟨l,h,.inl (Db.refl _)⟩
theorem Gle.trans{G G' G'':Nat→Option Loc}(h:Gle G G')(k:Gle G' G''):Gle G G'':=fun id l hl=>by
 obtain⟨l',h1,h2⟩:=h id l hl;obtain⟨l'',k1,k2⟩:=k id l' h1;refine⟨l'',k1,?_⟩;rcases h2 with h2|h2
 ·rcases k2 with k2|k2
  ·exact .inl (h2.trans k2)
  ·exact .inr (by have:=h2.gen;omega)
 ·rcases k2 with k2|k2
  ·exact .inr (by have:=k2.gen;omega)
  ·exact .inr (by omega)
theorem RV.mono{w w':World}{R R':Nat→Prop}{G G':Nat→Option Loc}{u:V}{x:Value}(h:RV w R G u x)(hR:∀b,R b→R' b∧w'.heap[b]? =w.heap[b]?)(hG:Gle G G'):RV w' R' G' u x:=by
 have hc:∀(b o:Nat),R b→w'.cell? ⟨b,o,none⟩=w.cell? ⟨b,o,none⟩:=fun b o hb=>World.cell?_of_block (hR b hb).2
 induction h with
 |any x=>exact .any x
 |v x=>exact .v x
 |agg cs xs hl h ih=>exact .agg cs xs hl ih
 |tup cs xs hl h ih=>exact .tup cs xs hl ih
 |nil clip a cap hcl=>exact .nil clip a cap hcl
 |sl clip rows b off cap sz f hRb hcap hclip hs hcell h ih=>
  exact .sl clip rows b off cap sz f (hR b hRb).1 hcap hclip hs (fun i j row u h1 h2=>(hc _ _ hRb).trans (hcell i j row u h1 h2)) ih
 |own id gen l hl hg x hx=>
  obtain⟨l',h1,h2⟩:=hG id l hl;rcases h2 with h2|h2
  ·exact .own id gen l' h1 (by have:=h2.gen;omega) x (fun e=>by rw[h2.val,h2.box];exact hx (h2.gen▸e))
  ·exact .own id gen l' h1 (by omega) x (fun e=>by omega)
 |obj id gen l hl hg x hx=>
  obtain⟨l',h1,h2⟩:=hG id l hl;rcases h2 with h2|h2
  ·exact .obj id gen l' h1 (by have:=h2.gen;omega) x (fun e=>by rw[h2.val];exact hx (h2.gen▸e))
  ·exact .obj id gen l' h1 (by omega) x (fun e=>by omega)
 |osub id gen lo hi l hl hg x hx=>
  obtain⟨l',h1,h2⟩:=hG id l hl;rcases h2 with h2|h2
  ·exact .osub id gen lo hi l' h1 (by have:=h2.gen;omega) x (fun e=>by rw[h2.val,h2.box,h2.sz];exact hx (h2.gen▸e))
  ·exact .osub id gen lo hi l' h1 (by omega) x (fun e=>by omega)
 |oclip id gen n l hl hg x hx=>
  obtain⟨l',h1,h2⟩:=hG id l hl;rcases h2 with h2|h2
  ·exact .oclip id gen n l' h1 (by have:=h2.gen;omega) x (fun e=>by rw[h2.val,h2.box];exact hx (h2.gen▸e))
  ·exact .oclip id gen n l' h1 (by omega) x (fun e=>by omega)
 |inm id gen b n cap l hl hg=>
  obtain⟨l',h1,h2⟩:=hG id l hl;rcases h2 with h2|h2
  ·exact .inm id gen b n cap l' h1 (by have:=h2.gen;omega)
  ·exact .inm id gen b n cap l' h1 (by omega)
 |rmap An b clock es hRb hb hl hk hv ihv=>exact .rmap An b clock es (hR b hRb).1 ((hR b hRb).2.trans hb) hl hk ihv
 |ptr id gen i off l hl hg x hx=>
  obtain⟨l',h1,h2⟩:=hG id l hl;rcases h2 with h2|h2
  ·exact .ptr id gen i off l' h1 (by have:=h2.gen;omega) x (fun e=>by rw[h2.val,h2.sz];exact hx (h2.gen▸e))
  ·exact .ptr id gen i off l' h1 (by omega) x (fun e=>by omega)
 |rptr row off b o f hRb hcell h ih=>
  exact .rptr row off b o f (hR b hRb).1 (fun j u h1=>(hc _ _ hRb).trans (hcell j u h1)) ih
 |clo f cs xs hl h ih=>exact .clo f cs xs hl ih
def Cl(u:V):Prop:=∀(w:World) (R:Nat→Prop) (G G':Nat→Option Loc) (x:Value),RV w R G u x→RV w R G' u x
def Fl(u:V):Prop:=∀(w w':World) (R R':Nat→Prop) (G G':Nat→Option Loc) (x:Value),RV w R G u x→RV w' R' G' u x
theorem Fl.cl{u:V}(h:Fl u):Cl u:=fun w R G G' x hx=>h w w R R G G' x hx
theorem Ak2(x:Value):Fl (.v x):=fun _ _ _ _ _ _ y h=>by cases h;exact .v _
theorem Aqg{cs:List V}(h:∀u∈cs,Fl u):Fl (.agg cs):=fun w w' R R' G G' x hx=>by
 cases hx with
 |agg cs xs hl hh=>exact .agg cs xs hl fun i u x h1 h2=>h u (ZH h1) _ _ _ _ _ _ _ (hh i u x h1 h2)
theorem Aqa{cs:List V}(h:∀u∈cs,Fl u):Fl (.tup cs):=fun w w' R R' G G' x hx=>by
 cases hx with
 |tup cs xs hl hh=>exact .tup cs xs hl fun i u x h1 h2=>h u (ZH h1) _ _ _ _ _ _ _ (hh i u x h1 h2)
theorem Ara:Fl (.sl false []):=fun w w' R R' G G' x hx=>by
 cases hx with
 |nil clip a cap hc=>exact .nil _ a cap hc
 |sl clip rows b off cap sz f hR hcap hclip hs hcell h=>exact .nil _ _ _ (by simp)
theorem Pf{cs:List V}(h:∀u∈cs,Cl u):Cl (.agg cs):=fun w R G G' x hx=>by
 cases hx with
 |agg cs xs hl hh=>exact .agg cs xs hl fun i u x h1 h2=>h u (ZH h1) _ _ _ _ _ (hh i u x h1 h2)
theorem Zq{c:Bool}{rows:List (List V)}(h:∀row∈rows,∀u∈row,Cl u):Cl (.sl c rows):=fun w R G G' x hx=>by
 cases hx with
 |nil clip a cap hc=>exact .nil _ a cap hc
 |sl clip rows b off cap sz f hR hcap hclip hs hcell hh=>
  exact .sl _ _ b off cap sz f hR hcap hclip hs hcell fun i j row u h1 h2=>h row (ZH h1) u (ZH h2) _ _ _ _ _ (hh i j row u h1 h2)
def Anj(An:List (Value×V))(w:World)(R:Nat→Prop)(x:Value):Prop:=
 ∃(b clock:Nat) (es:Array MapEntry),x=.map (some b)∧w.heap[b]? =some (.map es clock)∧es.size=An.length∧
  ∀(i:Nat) (e:MapEntry) (p:Value×V),es[i]? =some e→An[i]? =some p→e.key=p.1∧RV w R (fun _=>none) p.2 e.val
structure Opq where
 inv:World→(Nat→Prop)→Value→(Nat→Prop)→Prop
 mono:∀{w w':World} {R R':Nat→Prop} {x:Value} {F:Nat→Prop},inv w R x F→(∀b,R b→R' b∧w'.heap[b]? =w.heap[b]?)→(∀b,F b→w'.heap[b]? =w.heap[b]?)→inv w' R' x F
 lt:∀{w:World} {R:Nat→Prop} {x:Value} {F:Nat→Prop} {b:Nat},inv w R x F→F b→b<w.heap.size
 view:Option (List (Value×V)):=none
 vok:∀{w:World} {R:Nat→Prop} {x:Value} {F:Nat→Prop} {An:List (Value×V)},view=some An→inv w R x F→Anj An w R x:=by intro w R x F An h;cases h
inductive TO where
 |t (T:TypeId)
 |b (T:TypeId)
 |q (I:Opq)
instance toNat(n:Nat):OfNat TO n:=⟨.t n⟩
structure Ent where
 gen:Nat
 T:TO
 sz:Nat
 rows:List (List V)
def Ch(w:World)(R:Nat→Prop)(G:Nat→Option Loc)(xs:List Value)(sz:Nat)(rows:List (List V)):Prop:=
 (∀row∈rows,row.length=sz)∧∀(i j:Nat) (row:List V) (u:V),rows[i]? =some row→row[j]? =some u→∃x,xs[i*sz+j]? =some x∧x.oneCell'=true∧RV w R G u x
theorem Ch.mono{w w':World}{R R':Nat→Prop}{G G':Nat→Option Loc}{xs:List Value}{sz:Nat}{rows:List (List V)}(h:Ch w R G xs sz rows)(hR:∀b,R b→R' b∧w'.heap[b]? =w.heap[b]?)(hG:Gle G G'):Ch w' R' G' xs sz rows:=
 ⟨h.1,fun i j row u h1 h2=>by obtain⟨x,hx,h1,hr⟩:=h.2 i j row u h1 h2;exact⟨x,hx,h1,hr.mono hR hG⟩⟩
def Kz(w:World)(R:Nat→Prop)(G:Nat→Option Loc)(e:Ent)(l:Loc):Prop:=match e.T with
 |.t T=>l.op=none∧∃xs,l.sz=e.sz∧0<e.sz∧w.ownsRow 0 T e.sz l.val e.rows.length xs∧Ch w R G xs e.sz e.rows
 |.b T=>(l.op=none∧∃xs,l.sz=e.sz∧0<e.sz∧w.ownsRow 0 T e.sz l.val e.rows.length xs∧Ch w R G xs e.sz e.rows)∧l.box=true∧∃b,l.val=.slice (some ⟨b,0,none⟩) 1 1
 |.q I=>∃F,l.op=some F∧l.box=true∧e.rows=[]∧I.inv w R (pv l.val) F
theorem Hv{w:World}{T:TypeId}{sz n:Nat}{v:Value}{xs:List Value}{b:Nat}(h:w.ownsRow 0 T sz v n xs)(hb:v.ownBlock=some b):b<w.heap.size:=(h.lt b hb).2
theorem Kz.lt{w:World}{R:Nat→Prop}{G:Nat→Option Loc}{e:Ent}{l:Loc}(h:Kz w R G e l){b:Nat}(hb:l.ft b):b<w.heap.size:=by
 obtain⟨g,T,sz,rows⟩:=e;cases T with
 |t T=>obtain⟨h1,xs,h2,h3,h4,h5⟩:=h;simp only[Loc.ft,h1]at hb;exact Hv h4 hb
 |b T=>obtain⟨⟨h1,xs,h2,h3,h4,h5⟩,_⟩:=h;simp only[Loc.ft,h1]at hb;exact Hv h4 hb
 |q I=>obtain⟨F,h1,h2,h3,h4⟩:=h;simp only[Loc.ft,h1]at hb;exact I.lt h4 hb
theorem Kz.mono{w w':World}{R R':Nat→Prop}{G G':Nat→Option Loc}{e:Ent}{l:Loc}(h:Kz w R G e l)(hR:∀b,R b→R' b∧w'.heap[b]? =w.heap[b]?)(hG:Gle G G')(hF:∀b,l.ft b→w'.heap[b]? =w.heap[b]?):Kz w' R' G' e l:=by
 obtain⟨g,T,sz,rows⟩:=e;cases T with
 |t T=>
  obtain⟨h1,xs,h2,h3,h4,h5⟩:=h;refine⟨h1,xs,h2,h3,⟨h4.1,?_⟩,h5.mono hR hG⟩;rcases h4.2 with q|⟨g,cap,cur,hv,hg,hh,r⟩
  ·exact .inl q
  ·exact .inr ⟨g,cap,cur,hv,hg,(hF g (by simp only[Loc.ft,h1,hv];rfl)).trans hh,r⟩
 |b T=>
  obtain⟨⟨h1,xs,h2,h3,h4,h5⟩,h6⟩:=h;refine⟨⟨h1,xs,h2,h3,⟨h4.1,?_⟩,h5.mono hR hG⟩,h6⟩;rcases h4.2 with q|⟨g,cap,cur,hv,hg,hh,r⟩
  ·exact .inl q
  ·exact .inr ⟨g,cap,cur,hv,hg,(hF g (by simp only[Loc.ft,h1,hv];rfl)).trans hh,r⟩
 |q I=>
  obtain⟨F,h1,h2,h3,h4⟩:=h;exact⟨F,h1,h2,h3,I.mono h4 hR (fun b hb=>hF b (by simp only[Loc.ft,h1];exact hb))⟩
structure HR(w0:World)(L:Nat→Prop)(w:World)(R:Nat→Prop)(G:Nat→Option Loc)(H:Nat→Option Ent):Prop where
 le:∀id e l,H id=some e→G id=some l→l.gen≤e.gen
 obj:∀id e l,H id=some e→G id=some l→l.gen=e.gen→Kz w R G e l
 apart:∀id id' e e' l l' b,H id=some e→H id'=some e'→id≠id'→G id=some l→G id'=some l'→l.gen=e.gen→l'.gen=e'.gen→l.ft b→¬l'.ft b
 mine:∀id e l b,H id=some e→G id=some l→l.gen=e.gen→l.ft b→¬R b∧(L b∨w0.heap.size≤b)
def upd{α:Type}(f:Nat→α)(k:Nat)(x:α):Nat→α:=fun i=>bif Nat.beq i k then x else f i
theorem Aj{α:Type}(f:Nat→α)(k:Nat)(x:α):upd f k x k=x:=by simp[upd]
theorem Ap{α:Type}(f:Nat→α){k i:Nat}(x:α)(h:i≠k):upd f k x i=f i:=by
 unfold upd;have:Nat.beq i k=false:=by
  cases hb:Nat.beq i k with
  |false=>rfl
  |true=>exact absurd (Nat.eq_of_beq_eq_true hb) h
 rw[this];rfl
structure Fr(L:Nat→Prop)(w w':World):Prop where
 os:w'.os=w.os
 tape:w'.tape=w.tape
 output:w'.output=w.output
 size:w.heap.size≤w'.heap.size
 block:∀k,k<w.heap.size→¬L k→w'.heap[k]? =w.heap[k]?
theorem Fr.refl(L:Nat→Prop)(w:World):Fr L w w:=⟨rfl,rfl,rfl,ZT _,fun _ _ _=>rfl⟩
theorem Fr.trans{L:Nat→Prop}{a b c:World}(h:Fr L a b)(k:Fr L b c):Fr L a c:=
 ⟨k.os.trans h.os,k.tape.trans h.tape,k.output.trans h.output,XI h.size k.size,fun i hi hl=>(k.block i (XH hi h.size) hl).trans (h.block i hi hl)⟩
theorem Fr.grown{L:Nat→Prop}{a b c:World}{row:Option Nat}(h:Fr L a b)(hg:b.grownBy c row)(hr:∀k,row=some k→L k∨a.heap.size≤k)(hd:b.drawn≤c.drawn):Fr L a c:=
 ⟨hg.os.trans h.os,hg.tape.trans h.tape,hg.output.trans h.output,XI h.size hg.size,fun i hi hl=>(hg.block i (XH hi h.size) (fun e=>by
  rcases hr i e.symm with h1|h1
  ·exact hl h1
  ·omega)).trans (h.block i hi hl)⟩
section
variable {w0:World} {L:Nat→Prop} {w w':World} {R:Nat→Prop} {G G':Nat→Option Loc} {H:Nat→Option Ent}
theorem HR.set(h:HR w0 L w R G H)(hRlt:∀b,R b→b<w.heap.size){row:Option Nat}(hg:w.grownBy w' row){id:Nat}{l:Loc}{e:Ent}(hrow:∀b,row=some b→∃l0 e0,H id=some e0∧G id=some l0∧l0.gen=e0.gen∧l0.ft b)(hgen:∀l0,G id=some l0→Db l0 l∨l0.gen<l.gen)(hle:l.gen=e.gen)(hok:Kz w' R (upd G id (some l)) e l)(hblk:∀b,l.ft b→(row=some b∨(¬R b∧(L b∨w0.heap.size≤b)∧∀k ek lk,k≠id→H k=some ek→G k=some lk→lk.gen=ek.gen→¬lk.ft b))):
  HR w0 L w' R (upd G id (some l)) (upd H id (some e))∧Gle G (upd G id (some l))∧(∀b,R b→R b∧w'.heap[b]? =w.heap[b]?):=by
 have hG:Gle G (upd G id (some l)):=fun k m hm=>by
  by_cases hk:k=id
  ·subst hk;exact⟨l,Aj _ _ _,hgen m hm⟩
  ·exact⟨m,by rw[Ap _ _ hk];exact hm,.inl (Db.refl _)⟩
 have hst:∀b,R b→R b∧w'.heap[b]? =w.heap[b]? :=fun b hb=>⟨hb,hg.block b (hRlt b hb) (fun e=>by
  obtain⟨l0,e0,h1,h2,h25,h3⟩:=hrow b e.symm;exact(h.mine id e0 l0 b h1 h2 h25 h3).1 hb)⟩
 have other:∀k ek lk b,k≠id→H k=some ek→G k=some lk→lk.gen=ek.gen→lk.ft b→¬l.ft b:=fun k ek lk b hk h1 h2 h25 h3 h4=>by
  rcases hblk b h4 with h5|h5
  ·obtain⟨l0,e0,q1,q2,q25,q3⟩:=hrow b h5;exact h.apart k id ek e0 lk l0 b h1 q1 hk h2 q2 h25 q25 h3 q3
  ·exact h5.2.2 k ek lk hk h1 h2 h25 h3
 refine⟨⟨?_,?_,?_,?_⟩,hG,hst⟩
 ·intro k ek lk h1 h2;by_cases hk:k=id
  ·subst hk;rw[Aj]at h1 h2;injection h1 with h1;injection h2 with h2;subst h1 h2
   omega
  ·rw[Ap _ _ hk]at h1 h2;exact h.le k ek lk h1 h2
 ·intro k ek lk hk hgk hlk;by_cases hki:k=id
  ·subst hki;rw[Aj]at hk hgk;injection hk with hk;injection hgk with hgk;subst hk hgk
   exact hok
  ·rw[Ap _ _ hki]at hk hgk;have h0:=h.obj k ek lk hk hgk hlk;refine h0.mono hst hG fun b hb=>hg.block b (h0.lt hb) fun e=>?_;obtain⟨l0,e0,q1,q2,q25,q3⟩:=hrow b e.symm;exact h.apart k id ek e0 lk l0 b hk q1 hki hgk q2 hlk q25 hb q3
 ·intro k k' ek ek' lk lk' b h1 h2 hne h3 h4 m1 m2 h5 h6;by_cases hk:k=id
  ·subst hk;rw[Aj]at h1 h3;rw[Ap _ _ (Ne.symm hne)]at h2 h4;injection h3 with h3;subst h3
   exact other k' ek' lk' b (Ne.symm hne) h2 h4 m2 h6 h5
  ·rw[Ap _ _ hk]at h1 h3;by_cases hk':k'=id
   ·subst hk';rw[Aj]at h2 h4;injection h4 with h4;subst h4
    exact other k ek lk b hk h1 h3 m1 h5 h6
   ·rw[Ap _ _ hk']at h2 h4;exact h.apart k k' ek ek' lk lk' b h1 h2 hne h3 h4 m1 m2 h5 h6
 ·intro k ek lk b h1 h2 m1 h3;by_cases hk:k=id
  ·subst hk;rw[Aj]at h2;injection h2 with h2;subst h2
   rcases hblk b h3 with h5|h5
   ·obtain⟨l0,e0,q1,q2,q25,q3⟩:=hrow b h5;exact h.mine k e0 l0 b q1 q2 q25 q3
   ·exact⟨h5.1,h5.2.1⟩
  ·rw[Ap _ _ hk]at h1 h2;exact h.mine k ek lk b h1 h2 m1 h3
theorem HR.lt(h:HR w0 L w R G H){k:Nat}{ek:Ent}{lk:Loc}{b:Nat}(h1:H k=some ek)(h2:G k=some lk)(h25:lk.gen=ek.gen)(h3:lk.ft b):b<w.heap.size:=
 (h.obj k ek lk h1 h2 h25).lt h3
theorem HR.sub{H':Nat→Option Ent}(h:HR w0 L w R G H)(hs:∀k e,H' k=some e→H k=some e):HR w0 L w R G H':=
 ⟨fun k e l h1=>h.le k e l (hs _ _ h1),fun k e l h1=>h.obj k e l (hs _ _ h1),fun k k' e e' l l' b h1 h2=>h.apart k k' e e' l l' b (hs _ _ h1) (hs _ _ h2),fun k e l b h1=>h.mine k e l b (hs _ _ h1)⟩
theorem HR.more{H':Nat→Option Ent}(h:HR w0 L w R G H)(hs:∀k e,H' k=some e→H k=some e∨∀l,G k=some l→l.gen<e.gen):HR w0 L w R G H':=by
 have key:∀k e l,H' k=some e→G k=some l→l.gen=e.gen→H k=some e:=fun k e l h1 h2 h3=>by
  rcases hs k e h1 with q|q
  ·exact q
  ·have:=q l h2;omega
 refine⟨fun k e l h1 h2=>?_,fun k e l h1 h2 h3=>h.obj k e l (key k e l h1 h2 h3) h2 h3,fun k k' e e' l l' b h1 h2 h3 h4 h5 h6 h7=>h.apart k k' e e' l l' b (key k e l h1 h4 h6) (key k' e' l' h2 h5 h7) h3 h4 h5 h6 h7,
  fun k e l b h1 h2 h3=>h.mine k e l b (key k e l h1 h2 h3) h2 h3⟩
 rcases hs k e h1 with q|q
 ·exact h.le k e l q h2
 ·exact Nat.le_of_lt (q l h2)
theorem HR.drop(h:HR w0 L w R G H)(id:Nat):HR w0 L w R G (upd H id none):=
 h.sub fun k ek hk=>by
  by_cases hki:k=id
  ·subst hki;rw[Aj]at hk;cases hk
  ·rwa[Ap _ _ hki]at hk
theorem HR.world{R':Nat→Prop}(h:HR w0 L w R G H)(hsub:∀b,R b→R' b)(hno:∀b,R' b→¬R b→∀k ek lk,H k=some ek→G k=some lk→lk.gen=ek.gen→¬lk.ft b)(hst:∀b,R b→w'.heap[b]? =w.heap[b]?)(hown:∀k ek lk b,H k=some ek→G k=some lk→lk.gen=ek.gen→lk.ft b→w'.heap[b]? =w.heap[b]?):HR w0 L w' R' G H:=by
 refine⟨h.le,?_,h.apart,?_⟩
 ·intro k ek lk hk g1 g2;exact(h.obj k ek lk hk g1 g2).mono (fun b hb=>⟨hsub b hb,hst b hb⟩) (Gle.refl _) fun b hb=>hown k ek lk b hk g1 g2 hb
 ·intro k ek lk b h1 h2 h25 h3;refine⟨fun hb=>?_,(h.mine k ek lk b h1 h2 h25 h3).2⟩;by_cases hR:R b
  ·exact(h.mine k ek lk b h1 h2 h25 h3).1 hR
  ·exact hno b hb hR k ek lk h1 h2 h25 h3
theorem HR.quiet(h:HR w0 L w R G H)(hRlt:∀b,R b→b<w.heap.size)(hg:w.grownBy w' none):HR w0 L w' R G H∧(∀b,R b→R b∧w'.heap[b]? =w.heap[b]?):=by
 have hst:∀b,R b→R b∧w'.heap[b]? =w.heap[b]? :=fun b hb=>⟨hb,hg.block b (hRlt b hb) (by simp)⟩;refine⟨⟨h.le,?_,h.apart,h.mine⟩,hst⟩;intro k ek lk hk g1 g2;have h0:=h.obj k ek lk hk g1 g2;exact h0.mono hst (Gle.refl _) fun b hb=>hg.block b (h0.lt hb) (by simp)
end
structure St where
 env:Nat→V
 H:Nat→Option Ent
 D:Value→Prop
class Glob where
 blk:Nat→Option Obj
def Cc[Glob](w:World)(L:Nat→Prop):Prop:=∀b o,Glob.blk b=some o→w.heap[b]? =some o∧¬L b
theorem Cc.at_[Glob]{L L':Nat→Prop}{w0 w:World}(hg:Cc w0 L)(hf:Fr L w0 w)(hs:∀b,L' b→L b∨w0.heap.size≤b):Cc w L':=fun b o h=>by
 obtain⟨h1,h2⟩:=hg b o h;have hlt:b<w0.heap.size:=(XL.1 h1).1;exact⟨(hf.block b hlt h2).trans h1,fun q=>(hs b q).elim h2 fun q=>by omega⟩
structure Ctx [Glob] where
 w0:World
 R0:Nat→Prop
 L:Nat→Prop
 n:Nat
 D:Value→Prop
 G0:Nat→Option Loc
 gl:Cc w0 L
structure Ac[Glob](c:Ctx)(st:St)(a:Act)(w:World)(R:Nat→Prop)(G:Nat→Option Loc):Prop where
 env:∀i,RV w R G (st.env i) (a.tmps.getD i undef)
 hr:HR c.w0 c.L w R G st.H
 lt:∀b,R b→b<w.heap.size
 src:∀b,R b→c.R0 b∨(c.L b∨c.w0.heap.size≤b)
 old:∀b,c.R0 b→R b
 fr:Fr c.L c.w0 w
 n:a.tmps.size=c.n
 defers:a.defers=[]
 die:st.D=c.D
 gle:Gle c.G0 G
theorem Ac.glb[Glob]{c:Ctx}{st:St}{a:Act}{w:World}{R:Nat→Prop}{G:Nat→Option Loc}(h:Ac c st a w R G){L:Nat→Prop}(hs:∀b,L b→c.L b∨c.w0.heap.size≤b):Cc w L:=c.gl.at_ h.fr hs
def Rel[Glob](c:Ctx)(st:St)(a:Act)(w:World):Prop:=∃R G,Ac c st a w R G
def St.put(st:St)(dst:Option Nat)(u:V):St:=match dst with|some d=> {st with env:=upd st.env d u} |none=>st
theorem Q4{a:Array Value}{d i:Nat}{v u:Value}(h:d<a.size):(a.setIfInBounds d v).getD i u=if i=d then v else a.getD i u:=by
 simp only[Array.getD_eq_getD_getElem?,Array.getElem?_setIfInBounds];by_cases hi:d=i
 ·subst hi;simp[h]
 ·rw[if_neg hi,if_neg (fun e=>hi e.symm)]
theorem Ac.put[Glob]{c:Ctx}{st:St}{a:Act}{w:World}{R:Nat→Prop}{G:Nat→Option Loc}(h:Ac c st a w R G){dst:Option Nat}(hd:∀d,dst=some d→d<c.n){u:V}{x:Value}(hu:RV w R G u x):Ac c (st.put dst u) (a.put dst x) w R G:=by
 cases dst with
 |none=>exact h
 |some d=>
  have hdn:d<a.tmps.size:=by rw[h.n];exact hd d rfl
  refine⟨?_,h.hr,h.lt,h.src,h.old,h.fr,by simp[Act.put,h.n],h.defers,h.die,h.gle⟩;intro i;simp only[St.put,Act.put];rw[Q4 hdn];by_cases hi:i=d
  ·subst hi;rw[Aj,if_pos rfl];exact hu
  ·rw[Ap _ _ hi,if_neg hi];exact h.env i
theorem Ac.quiet[Glob]{c:Ctx}{st:St}{a:Act}{w w':World}{R:Nat→Prop}{G:Nat→Option Loc}(h:Ac c st a w R G)(hg:w.grownBy w' none)(hd:w.drawn≤w'.drawn:=by first|exact ZT _|exact Nat.le_succ _|simp):Ac c st a w' R G:=by
 obtain⟨h1,h2⟩:=h.hr.quiet h.lt hg;exact⟨fun i=>(h.env i).mono h2 (Gle.refl _),h1,fun b hb=>XH (h.lt b hb) hg.size,h.src,h.old,h.fr.grown hg (by simp) hd,h.n,h.defers,h.die,h.gle⟩
theorem Ac.setG[Glob]{c:Ctx}{st:St}{a:Act}{w w':World}{R:Nat→Prop}{G:Nat→Option Loc}(h:Ac c st a w R G){row:Option Nat}(hg:w.grownBy w' row){id:Nat}{l:Loc}{e:Ent}(hrow:∀b,row=some b→∃l0 e0,st.H id=some e0∧G id=some l0∧l0.gen=e0.gen∧l0.ft b)(hgen:∀l0,G id=some l0→Db l0 l∨l0.gen<l.gen)(hle:l.gen=e.gen)(hok:Kz w' R (upd G id (some l)) e l)(hblk:∀b,l.ft b→(row=some b∨(¬R b∧(c.L b∨c.w0.heap.size≤b)∧∀k ek lk,k≠id→st.H k=some ek→G k=some lk→lk.gen=ek.gen→¬lk.ft b)))(hd:w.drawn≤w'.drawn:=by first|exact ZT _|exact Nat.le_succ _|simp):
  Ac c {st with H:=upd st.H id (some e)} a w' R (upd G id (some l)):=by
 obtain⟨h1,h2,h3⟩:=h.hr.set h.lt hg hrow hgen hle hok hblk;refine⟨fun i=>(h.env i).mono h3 h2,h1,fun b hb=>XH (h.lt b hb) hg.size,h.src,h.old,h.fr.grown hg ?_ hd,h.n,h.defers,h.die,h.gle.trans h2⟩;intro b hb;obtain⟨l0,e0,q1,q2,q25,q3⟩:=hrow b hb;exact(h.hr.mine id e0 l0 b q1 q2 q25 q3).2
def X3(To:TO)(T:TypeId)(v:Value)(box:Bool):Prop:=To=.t T∨(To=.b T∧box=true∧∃b,v=.slice (some ⟨b,0,none⟩) 1 1)
theorem Wz{w:World}{R:Nat→Prop}{G:Nat→Option Loc}{e:Ent}{l:Loc}{T:TypeId}{xs:List Value}(hk:X3 e.T T l.val l.box)(hop:l.op=none)(hsz:l.sz=e.sz)(h0:0<e.sz)(hown:w.ownsRow 0 T e.sz l.val e.rows.length xs)(hrows:Ch w R G xs e.sz e.rows):Kz w R G e l:=by
 obtain⟨g,To,sz,rows⟩:=e;rcases hk with hT|⟨hT,h1,h2⟩
 ·have hT:To=.t T:=hT;subst hT;exact⟨hop,xs,hsz,h0,hown,hrows⟩
 ·have hT:To=.b T:=hT;subst hT;exact⟨⟨hop,xs,hsz,h0,hown,hrows⟩,h1,h2⟩
theorem Ac.set[Glob]{c:Ctx}{st:St}{a:Act}{w w':World}{R:Nat→Prop}{G:Nat→Option Loc}(h:Ac c st a w R G){row:Option Nat}(hg:w.grownBy w' row){id g sz:Nat}{To:TO}{T:TypeId}{rows:List (List V)}{v:Value}{box:Bool}(hT:X3 To T v box)(hrow:∀b,row=some b→∃l0 e0,st.H id=some e0∧G id=some l0∧l0.gen=e0.gen∧l0.ft b)(hgen:∀l0,G id=some l0→Db l0 ⟨g,sz,v,box,none⟩∨l0.gen<g)(hpos:0<sz){xs:List Value}(hown:w'.ownsRow 0 T sz v rows.length xs)(hrows:Ch w' R (upd G id (some ⟨g,sz,v,box,none⟩)) xs sz rows)(hblk:∀b,v.ownBlock=some b→(row=some b∨(¬R b∧(c.L b∨c.w0.heap.size≤b)∧∀k ek lk,k≠id→st.H k=some ek→G k=some lk→lk.gen=ek.gen→¬lk.ft b)))(hd:w.drawn≤w'.drawn:=by first|exact ZT _|exact Nat.le_succ _|simp):
  Ac c {st with H:=upd st.H id (some ⟨g,To,sz,rows⟩)} a w' R (upd G id (some ⟨g,sz,v,box,none⟩)):=by
 refine h.setG hg hrow hgen rfl ?_ hblk hd;rcases hT with rfl|⟨rfl,h1,h2⟩
 ·exact⟨rfl,xs,rfl,hpos,hown,hrows⟩
 ·exact⟨⟨rfl,xs,rfl,hpos,hown,hrows⟩,h1,h2⟩
theorem Ac.newBlk[Glob]{c:Ctx}{st:St}{a:Act}{w:World}{R:Nat→Prop}{G:Nat→Option Loc}(h:Ac c st a w R G){b:Nat}(hb:w.heap.size≤b)(id:Nat):¬R b∧(c.L b∨c.w0.heap.size≤b)∧∀k ek lk,k≠id→st.H k=some ek→G k=some lk→lk.gen=ek.gen→¬lk.ft b:=
 ⟨fun hR=>by have:=h.lt b hR;omega,.inr (XI h.fr.size hb),fun k ek lk _ h1 h2 h25 h3=>by have:=h.hr.lt h1 h2 h25 h3;omega⟩
theorem Ac.more[Glob]{c:Ctx}{st:St}{a:Act}{w:World}{R:Nat→Prop}{G:Nat→Option Loc}{H':Nat→Option Ent}(h:Ac c st a w R G)(hs:∀k e,H' k=some e→st.H k=some e∨∀l,G k=some l→l.gen<e.gen):Ac c {st with H:=H'} a w R G:=
 ⟨h.env,h.hr.more hs,h.lt,h.src,h.old,h.fr,h.n,h.defers,h.die,h.gle⟩
theorem Ac.objO[Glob]{c:Ctx}{st:St}{a:Act}{w:World}{R:Nat→Prop}{G:Nat→Option Loc}(h:Ac c st a w R G){id gen:Nat}{e:Ent}{x:Value}(hx:RV w R G (.own id gen) x)(he:st.H id=some e)(hg:e.gen=gen):
  ∃l xs T,G id=some l∧l.gen=gen∧l.sz=e.sz∧0<e.sz∧w.ownsRow 0 T e.sz l.val e.rows.length xs∧Ch w R G xs e.sz e.rows∧x=l.val∧e.T=.t T∧l.op=none∧l.box=false:=by
 cases hx with
 |own id gen l hG hg' x hx=>
  have:=h.hr.le id e l he hG;have h2:l.gen=e.gen:=by omega
  have h3:=h.hr.obj id e l he hG h2;obtain⟨hx1,hx2⟩:=hx (by omega);obtain⟨g,T,sz,rows⟩:=e;cases T with
  |t T=>obtain⟨k1,xs,k2,k3,k4,k5⟩:=h3;exact⟨l,xs,T,hG,by omega,k2,k3,k4,k5,hx1,rfl,k1,hx2⟩
  |b T=>obtain⟨_,k2,_⟩:=h3;rw[hx2]at k2;cases k2
  |q I=>obtain⟨F,k1,k2,k3,k4⟩:=h3;rw[hx2]at k2;cases k2
theorem Ac.objB[Glob]{c:Ctx}{st:St}{a:Act}{w:World}{R:Nat→Prop}{G:Nat→Option Loc}(h:Ac c st a w R G){id gen i off:Nat}{e:Ent}{x:Value}(hx:RV w R G (.ptr id gen i off) x)(he:st.H id=some e)(hg:e.gen=gen):
  ∃l b,G id=some l∧l.gen=gen∧Kz w R G e l∧l.val.ownBlock=some b∧x=.pointer (some ⟨b,i*l.sz+off,none⟩):=by
 cases hx with
 |ptr id gen i off l hG hg' x hx=>
  have:=h.hr.le id e l he hG;have h2:l.gen=e.gen:=by omega
  have h3:=h.hr.obj id e l he hG h2;obtain⟨b,h7,h8⟩:=hx (by omega);exact⟨l,b,hG,by omega,h3,h7,h8⟩
theorem Ac.objP[Glob]{c:Ctx}{st:St}{a:Act}{w:World}{R:Nat→Prop}{G:Nat→Option Loc}(h:Ac c st a w R G){id gen i off:Nat}{e:Ent}{x:Value}{row:List V}(hx:RV w R G (.ptr id gen i off) x)(he:st.H id=some e)(hg:e.gen=gen){k:Nat}(hr:e.rows[k]? =some row):
  ∃l xs b T,G id=some l∧l.gen=gen∧l.sz=e.sz∧0<e.sz∧w.ownsRow 0 T e.sz l.val e.rows.length xs∧Ch w R G xs e.sz e.rows∧l.val.ownBlock=some b∧x=.pointer (some ⟨b,i*l.sz+off,none⟩)∧X3 e.T T l.val l.box∧l.op=none:=by
 obtain⟨l,b,h1,h2,h3,h4,h5⟩:=h.objB hx he hg;obtain⟨g,T,sz,rows⟩:=e;cases T with
 |t T=>obtain⟨k1,xs,k2,k3,k4,k5⟩:=h3;exact⟨l,xs,b,T,h1,h2,k2,k3,k4,k5,h4,h5,.inl rfl,k1⟩
 |b T=>
  obtain⟨⟨k1,xs,k2,k3,k4,k5⟩,k6,b',k7⟩:=h3;have hbb:b'=b:=by rw[k7]at h4;injection h4
  subst hbb;exact⟨l,xs,b',T,h1,h2,k2,k3,k4,k5,h4,h5,.inr ⟨rfl,k6,_,k7⟩,k1⟩
 |q I=>
  obtain⟨F,k1,k2,k3,k4⟩:=h3;have k3:rows=[]:=k3;subst k3;simp at hr
theorem Ac.drop[Glob]{c:Ctx}{st:St}{a:Act}{w:World}{R:Nat→Prop}{G:Nat→Option Loc}(h:Ac c st a w R G)(id:Nat):Ac c {st with H:=upd st.H id none} a w R G:=
 ⟨h.env,h.hr.drop id,h.lt,h.src,h.old,h.fr,h.n,h.defers,h.die,h.gle⟩
theorem Ac.world[Glob]{c:Ctx}{st:St}{a:Act}{w w':World}{R R' L':Nat→Prop}{G:Nat→Option Loc}(h:Ac c st a w R G)(hfr:Fr L' w w')(hsub:∀b,R b→R' b)(hL:∀b,L' b→¬R b∧(c.L b∨c.w0.heap.size≤b)∧∀k ek lk,st.H k=some ek→G k=some lk→lk.gen=ek.gen→¬lk.ft b)(hR:∀b,R' b→R b∨(b<w'.heap.size∧(c.L b∨c.w0.heap.size≤b)∧(L' b∨w.heap.size≤b))):Ac c st a w' R' G:=by
 have hst:∀b,R b→w'.heap[b]? =w.heap[b]? :=fun b hb=>hfr.block b (h.lt b hb) (fun hl=>(hL b hl).1 hb);refine⟨fun i=>(h.env i).mono (fun b hb=>⟨hsub b hb,hst b hb⟩) (Gle.refl _),?_,?_,?_,fun b hb=>hsub b (h.old b hb),?_,h.n,h.defers,h.die,h.gle⟩
 ·refine h.hr.world hsub ?_ hst ?_
  ·intro b hb hnb k ek lk h1 h2 h25 h3;rcases hR b hb with h4|⟨_,_,h4|h4⟩
   ·exact hnb h4
   ·exact(hL b h4).2.2 k ek lk h1 h2 h25 h3
   ·have:=h.hr.lt h1 h2 h25 h3;omega
  ·intro k ek lk b h1 h2 h25 h3;exact hfr.block b (h.hr.lt h1 h2 h25 h3) (fun hl=>(hL b hl).2.2 k ek lk h1 h2 h25 h3)
 ·intro b hb;rcases hR b hb with h4|h4
  ·exact XH (h.lt b h4) hfr.size
  ·exact h4.1
 ·intro b hb;rcases hR b hb with h4|h4
  ·exact h.src b h4
  ·exact .inr h4.2.1
 ·refine⟨hfr.os.trans h.fr.os,hfr.tape.trans h.fr.tape,hfr.output.trans h.fr.output,XI h.fr.size hfr.size,fun k hk hl=>?_⟩;refine(hfr.block k (XH hk h.fr.size) (fun hl'=>?_)).trans (h.fr.block k hk hl);rcases(hL k hl').2.1 with h5|h5
  ·exact hl h5
  ·omega
def Ax(G:Nat→Option Loc)(id:Nat):Nat:=match G id with|some l=>l.gen+1|none=>0
theorem Az{G:Nat→Option Loc}{id:Nat}{l0:Loc}(h:G id=some l0):l0.gen<Ax G id:=by
 unfold Ax;rw[h];simp
end Go.Proofs.YtchbkgnobpejnaaGreatDoor
