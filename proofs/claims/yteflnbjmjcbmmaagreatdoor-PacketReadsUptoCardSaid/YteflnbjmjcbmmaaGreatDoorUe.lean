/- Texts of this claim, joined. -/
import Derived.Test.YteflnbjmjcbmmaaGreatDoorWAbsS
import Derived.Test.YteflnbjmjcbmmaaGreatDoorUa
import Derived.Test.YteflnbjmjcbmmaaGreatDoorUb
import Derived.Test.YteflnbjmjcbmmaaGreatDoorUc
import Derived.Test.YteflnbjmjcbmmaaGreatDoorUd
set_option linter.unusedSimpArgs false
set_option linter.unusedVariables false
namespace Go.Proofs.YteflnbjmjcbmmaaGreatDoor
open Go Go.RowKit Pl
theorem Fr.outP{L:Nat→Prop}{a b c:World}(h:Fr (fun _=>False) a b)(k:Fr L b c)(hl:∀i,L i→a.heap.size≤i):Fr (fun _=>False) a c:=
 ⟨k.os.trans h.os,k.tape.trans h.tape,k.output.trans h.output,XI h.size k.size,fun i hi _=>(k.block i (XH hi h.size) (fun hL=>by have:=hl i hL;omega)).trans (h.block i hi id)⟩
theorem Fr.blkP{L:Nat→Prop}{a b:World}{g:Nat}{t:TypeId}{cs:Array Value}(h:Fr L a b)(hb:Blk a g t cs)(hl:¬L g):Blk b g t cs:=(h.block g hb.lt hl).trans hb
def pkV(p:Pk)(y2 y3 y4 y5:Value):Value:=.agg #[.string p.fr,.bool p.wo,y2,y3,y4,y5]
theorem Aho{w:World}{R:Nat→Prop}{p:Pk}{y2 y3 y4 y5:Value}(h2:RV w R noG (.sl false (p.ms.map Mb.row)) y2)(h3:RV w R noG (.sl false (p.sv.map Sv.row)) y3)(h4:RV w R noG (.sl false (p.gs.map Gw.row)) y4)(h5:RV w R noG (.sl false (p.wh.map Wh.row)) y5):RV w R noG (.agg p.row) (pkV p y2 y3 y4 y5):=by
 refine .agg p.row [.string p.fr,.bool p.wo,y2,y3,y4,y5] rfl fun i u x hu hx=>?_;unfold Pk.row at hu;rcases i with _|_|_|_|_|_|i
 all_goals first
  |(cases hu;cases hx;exact .v _)
  |(cases hu;cases hx;exact h2)
  |(cases hu;cases hx;exact h3)
  |(cases hu;cases hx;exact h4)
  |(cases hu;cases hx;exact h5)
  |(simp at hu)
theorem Akf{w:World}{R:Nat→Prop}{p:Pk}{x:Value}(h:RV w R noG (.agg p.row) x):∃y2 y3 y4 y5,x=pkV p y2 y3 y4 y5∧RV w R noG (.sl false (p.ms.map Mb.row)) y2∧RV w R noG (.sl false (p.sv.map Sv.row)) y3∧RV w R noG (.sl false (p.gs.map Gw.row)) y4∧RV w R noG (.sl false (p.wh.map Wh.row)) y5:=by
 cases h with
 |agg cs xs hl h=>
  obtain⟨x0,x1,x2,x3,x4,x5,rfl⟩:∃x0 x1 x2 x3 x4 x5,xs=[x0,x1,x2,x3,x4,x5]:=by
   rcases xs with _|⟨x0,_|⟨x1,_|⟨x2,_|⟨x3,_|⟨x4,_|⟨x5,_|⟨x6,xs⟩⟩⟩⟩⟩⟩⟩<;>simp[Pk.row]at hl;exact⟨_,_,_,_,_,_,rfl⟩
  have h0:=B9 (h 0 _ _ rfl rfl);have h1:=B9 (h 1 _ _ rfl rfl);subst h0 h1;exact⟨x2,x3,x4,x5,rfl,h 2 _ _ rfl rfl,h 3 _ _ rfl rfl,h 4 _ _ rfl rfl,h 5 _ _ rfl rfl⟩
theorem Qr(w:World)(R:Nat→Prop):RV w R noG (.agg pk0.row) (.agg Fx):=Aho (p:=pk0) (y2:=.slice none 0 0) (y3:=.slice none 0 0) (y4:=.slice none 0 0) (y5:=.slice none 0 0) (.nil false none 0 (by simp)) (.nil false none 0 (by simp)) (.nil false none 0 (by simp)) (.nil false none 0 (by simp))
theorem M7{w:World}{R:Nat→Prop}{G:Nat→Option Loc}{cl:Bool}{rows:List (List V)}{x:Value}(h:RV w R G (.sl cl rows) x):∃a k c,x=.slice a k c:=by
 generalize e:V.sl cl rows=u at h;cases h with
 |nil=>exact⟨_,_,_,rfl⟩
 |sl=>exact⟨_,_,_,rfl⟩
 |_=>cases e
theorem Uj{u:V}{x:Value}{b:Nat}(h:A7 [.c u] [x] b):False:=Fa (fun p hp=>by simp at hp;exact⟨_,hp⟩) h
def Wm(R:Nat→Prop)(w:World)(m:Pk)(er:Int)(e:Ending)(w':World):Prop:=
 ∃(x:Value) (R':Nat→Prop),e=.returned (.tuple #[x,.int .i64 er])∧Fr (fun _=>False) w w'∧(∀b,R b→R' b)∧(∀b,R' b→R b∨(b<w'.heap.size∧w.heap.size≤b))∧RV w' R' noG (.agg m.row) x
theorem Xo{s:ByteArray}{y':Value}{W:World}{R:Nat→Prop}{n:Nat}(hb:Blk W n prT #[.string s])(hn:¬R n):Ca W R [.mn prT [.c (.v (.string s))] [.c (.v y')]] [.pointer (some ⟨n,0,none⟩)] (fun k=>k=n):=by
 have hnb:∀k,¬A7 [.c (.v (.string s))] [.string s] k:=fun k h=>Uj h;refine⟨fun k=>k=n,fun _=>False,⟨n,[.string s],rfl,by simp,⟨rfl,.inr ⟨n,1,_,rfl,ZU _,hb,by simp,by decide,rfl,rfl⟩⟩,Aa1 (.v _),by simp[Value.oneCell'],hnb n,fun k=>⟨.inl,fun h=>h.elim id (fun h=>absurd h (hnb k))⟩⟩,fun _ h=>h,fun b h=>⟨id,by rw[h];exact hn⟩,fun b=>⟨.inl,fun h=>h.elim id False.elim⟩⟩
theorem Aes{r:ByteArray}(h:r.toList=[]):r.size=0:=by
 rw[ByteArray.toList_eq]at h;have e:r.data.toList.length=0:=by rw[h];rfl
 exact e
theorem Ago{W:World}{R:Nat→Prop}{n:Nat}{r:ByteArray}{F:Nat→Prop}(h:Ca W R [.pn prT [.c (.v (.string r))]] [.pointer (some ⟨n,0,none⟩)] F):Blk W n prT #[.string r]:=by
 obtain⟨F1,F2,⟨b',vs,q,hpos,hown,hpars,_⟩,_⟩:=h;injection q with q
 injection q with q;injection q with q
 subst q;have hl:vs.length=1:=by simpa using hpars.len.symm
 obtain⟨y0,rfl⟩:∃y0,vs=[y0]:=List.length_eq_one_iff.1 hl;obtain rfl:y0=.string r:=B9 (hpars.ok 0 _ _ rfl rfl);rcases hown.2 with⟨q,_⟩|⟨g,cap,cur,q,_,hg,hnc,hcm,hcs,htake⟩
 ·cases q
 ·injection q with q1 q2 q3;injection q1 with q1
  injection q1 with q1;subst q1 q3;have hl:cur.toList.length=1:=by simpa using hcs
  have hx:cur.toList=[.string r]:=by rw[←htake,List.take_of_length_le (by rw[hl];exact ZT _)]
  have hc:cur= #[.string r]:=by apply Array.ext';rw[hx]
  rw[hc]at hg;exact hg
set_option maxRecDepth 100000 in
set_option maxHeartbeats 2000000 in
theorem Ad8[Glob](s:ByteArray)(y':Value)(w:World)(R:Nat→Prop)(hlt:∀b,R b→b<w.heap.size)(hg:Bz w (fun _=>False))(hd:Gu Tryz.prog 32 [.mn prT [.c (.v (.string s))] [.c (.v y')]] Do):Calls Tryz.prog 12 #[.string s] w (Wm R w pk0 1):=by
 have hmf:∀(fn:Fn) (first cap:Array Value) (w:World),(Instr.makeFunc fn first cap).run Tryz.prog w=.ok (.func fn first cap) w:=fun _ _ _ _=>rfl
 go_enter_defers Tryz.func12,Tryz.ntmps12
 go_wp2_with fail
 have B0:=Blk.new w 27 Fx;have B1:=Blk.new_ (w.alloc (.cells Fx 27)) 28 #[.int .i64 0] (g:=w.heap.size+1) (by simp[World.alloc,-World.alloc_eq]);have B0':=B0.alloc (.cells #[.int .i64 0] 28);have B2:=Blk.new_ ((w.alloc (.cells Fx 27)).alloc (.cells #[.int .i64 0] 28)) prT #[.string s] (g:=w.heap.size+1+1) (by simp[World.alloc,-World.alloc_eq]);have B0'':=B0'.alloc (.cells #[.string s] prT);have B1'':=B1.alloc (.cells #[.string s] prT);have F0:Fr (fun _=>False) w _:=(((Fr.refl _ w).alloc_ (.cells Fx 27)).alloc_ (.cells #[.int .i64 0] 28)).alloc_ (.cells #[.string s] prT);refine(hd.2 _ (fun _=>False) [_] _ (fun _ h=>h.elim) (Xo B2 id) (hg.at_ F0 (fun b hb=>by have hb:b=w.heap.size+1+1:=hb;omega))).mono ?_
 rintro e w1 ⟨rfl,hf⟩
 have C0:=hf.blkP B0'' (by omega);have C1:=hf.blkP B1'' (by omega);refine leaves_cons (f:=31) (args:= #[.pointer (some ⟨w.heap.size,0,none⟩),.pointer (some ⟨w.heap.size+1,0,none⟩)]) (by simp) (by simp[go_sem]) ?_;refine(Xn w.heap.size (w.heap.size+1) _ _ _ _ _ _ _ w1 C0 C1 (by omega)).mono ?_
 rintro e u' w2 ⟨rfl,rfl,hC⟩
 obtain⟨D0,D1,hf2⟩:=hC;have e0:w2.cell? ⟨w.heap.size,0,none⟩=some (.string ⟨#[]⟩):=D0.cell 0;have e1:w2.cell? ⟨w.heap.size,1,none⟩=some (.bool false):=D0.cell 1;have e2:w2.cell? ⟨w.heap.size,2,none⟩=some (.slice none 0 0):=D0.cell 2;have e3:w2.cell? ⟨w.heap.size,3,none⟩=some (.slice none 0 0):=D0.cell 3;have e4:w2.cell? ⟨w.heap.size,4,none⟩=some (.slice none 0 0):=D0.cell 4;have e5:w2.cell? ⟨w.heap.size,5,none⟩=some (.slice none 0 0):=D0.cell 5;have g0:w2.cell? ⟨w.heap.size+1,0,none⟩=some (.int .i64 1):=D1.cell 0;simp[Leaves,settle,results,Tryz.results12,go_sem,e0,e1,e2,e3,e4,e5,g0];refine⟨.agg Fx,R,rfl,?_,fun b h=>h,fun b h=>.inl h,Qr _ _⟩;exact(F0.outP hf (fun i hi=>by omega)).outP hf2 (fun i hi=>by omega)
set_option maxRecDepth 100000 in
set_option maxHeartbeats 4000000 in
theorem Adz[Glob](s r:ByteArray)(p:Pk)(w:World)(R:Nat→Prop)(hlt:∀b,R b→b<w.heap.size)(hg:Bz w (fun _=>False))(hm:E8 Tryz.prog 32 [.mn prT [.c (.v (.string s))] [.c (.v (.string r))]] [.p (.c (.agg p.row))])(hc:Fun Tryz.prog 10 [.c (.agg p.row)] [.c (.v (.int .i64 p.err))])(v:Pk)(er:Int)(hv:r.size=0→p.err=0→v=p∧er=0)(hz:r.size≠0∨p.err≠0→v=pk0∧er=1):Calls Tryz.prog 12 #[.string s] w (Wm R w v er):=by
 have hv:=hid hv;have hz:=hid hz;have hmf:∀(fn:Fn) (first cap:Array Value) (w:World),(Instr.makeFunc fn first cap).run Tryz.prog w=.ok (.func fn first cap) w:=fun _ _ _ _=>rfl
 go_enter_defers Tryz.func12,Tryz.ntmps12
 go_wp2_with fail
 have B0:=Blk.new w 27 Fx;have B1:=Blk.new_ (w.alloc (.cells Fx 27)) 28 #[.int .i64 0] (g:=w.heap.size+1) (by simp[World.alloc,-World.alloc_eq]);have B0':=B0.alloc (.cells #[.int .i64 0] 28);have B2:=Blk.new_ ((w.alloc (.cells Fx 27)).alloc (.cells #[.int .i64 0] 28)) prT #[.string s] (g:=w.heap.size+1+1) (by simp[World.alloc,-World.alloc_eq]);have B0'':=B0'.alloc (.cells #[.string s] prT);have B1'':=B1.alloc (.cells #[.string s] prT);have F0:Fr (fun _=>False) w _:=(((Fr.refl _ w).alloc_ (.cells Fx 27)).alloc_ (.cells #[.int .i64 0] 28)).alloc_ (.cells #[.string s] prT);refine(hm.2 _ R [_] _ (fun b hb=>XH (hlt b hb) F0.size) (Xo B2 fun hR=>by have:=hlt _ hR;omega) (hg.at_ F0 (fun b hb=>by have hb:b=w.heap.size+1+1:=hb;omega))).mono ?_
 rintro e w1 ⟨ys,R1,F1,rfl,hl,hf,hR1,hR2,hp,hF⟩
 have hgl1:Bz w1 (fun b=>b=w.heap.size∨b=w.heap.size+1∨b=w.heap.size+1+1):=(hg.at_ (L':=fun b=>b=w.heap.size∨b=w.heap.size+1∨b=w.heap.size+1+1) F0 (fun b hb=>.inr (by omega))).at_ (C6 hf fun k hk=>.inr (.inr hk)) (fun b hb=>.inl hb);have C0:=hf.blkP B0'' (by omega);have C1:=hf.blkP B1'' (by omega);obtain⟨x,rfl⟩:∃x,ys=[x]:=by
  rcases ys with _|⟨x,_|⟨x',ys⟩⟩<;>simp at hl;exact⟨x,rfl⟩
 obtain⟨⟨y2,y3,y4,y5,rfl,q2,q3,q4,q5⟩,hrd⟩:(∃y2 y3 y4 y5,x=pkV p y2 y3 y4 y5∧RV w1 R1 noG (.sl false (p.ms.map Mb.row)) y2∧RV w1 R1 noG (.sl false (p.sv.map Sv.row)) y3∧RV w1 R1 noG (.sl false (p.gs.map Gw.row)) y4∧RV w1 R1 noG (.sl false (p.wh.map Wh.row)) y5)∧Blk w1 (w.heap.size+1+1) prT #[.string r]:=by
  obtain⟨G1,G2,h1,h2,_⟩:=hp;exact⟨Akf h1.1,Ago h2⟩
 obtain⟨a2,k2,c2,rfl⟩:=M7 q2;obtain⟨a3,k3,c3,rfl⟩:=M7 q3;obtain⟨a4,k4,c4,rfl⟩:=M7 q4;obtain⟨a5,k5,c5,rfl⟩:=M7 q5;have hrv:=hid (Aho (p:=p) q2 q3 q4 q5);have hR1:=hid hR1;have hR2:=hid hR2;have HF:=hid hf;have hgl:Bz w1 (fun b=>b=w.heap.size∨b=w.heap.size+1∨b=w.heap.size+1+1):=hgl1;clear q2 q3 q4 q5 hf hp hF;have e0:w1.cell? ⟨w.heap.size,0,none⟩=some (.string ⟨#[]⟩):=C0.cell 0;have e1:w1.cell? ⟨w.heap.size,1,none⟩=some (.bool false):=C0.cell 1;have e2:w1.cell? ⟨w.heap.size,2,none⟩=some (.slice none 0 0):=C0.cell 2;have e3:w1.cell? ⟨w.heap.size,3,none⟩=some (.slice none 0 0):=C0.cell 3;have e4:w1.cell? ⟨w.heap.size,4,none⟩=some (.slice none 0 0):=C0.cell 4;have e5:w1.cell? ⟨w.heap.size,5,none⟩=some (.slice none 0 0):=C0.cell 5;have f0:=fun i=>C0.frozen i;have g0:w1.cell? ⟨w.heap.size+1,0,none⟩=some (.int .i64 0):=C1.cell 0;have h0:=C1.frozen 0;have r0:w1.cell? ⟨w.heap.size+1+1,0,none⟩=some (.string r):=hrd.cell 0;have hn1:∀b,R1 b→b≠w.heap.size∧b≠w.heap.size+1:=fun b hb=>by
  rcases hR2.out b hb with g|⟨g1,g2⟩
  ·have:=hlt b g;omega
  ·rcases g2 with g2|g2
   ·omega
   ·have:=F0.size;simp[World.alloc,-World.alloc_eq]at g2;omega
 have hlt1:∀b,R1 b→b<w1.heap.size:=fun b hb=>by
  rcases hR2.out b hb with g|⟨g1,g2⟩
  ·have:=hlt b g;have:=F0.size;have:=HF.out.size;omega
  ·exact g1
 simp only[Db,pkV];by_cases hr:r.size=0
 ·obtain rfl:r=⟨#[]⟩:=ByteArray.ext (Array.eq_empty_of_size_eq_zero hr)
  go_wp2_with fail
  have D0:Blk ((((((w1.setCell ⟨w.heap.size,0,none⟩ (.string p.fr)).setCell ⟨w.heap.size,1,none⟩ (.bool p.wo)).setCell ⟨w.heap.size,2,none⟩ (.slice a2 k2 c2)).setCell ⟨w.heap.size,3,none⟩ (.slice a3 k3 c3)).setCell ⟨w.heap.size,4,none⟩ (.slice a4 k4 c4)).setCell ⟨w.heap.size,5,none⟩ (.slice a5 k5 c5)) w.heap.size 27 #[.string p.fr,.bool p.wo,.slice a2 k2 c2,.slice a3 k3 c3,.slice a4 k4 c4,.slice a5 k5 c5]:=((((((C0.set_ 0 (.string p.fr)).set_ 1 (.bool p.wo)).set_ 2 (.slice a2 k2 c2)).set_ 3 (.slice a3 k3 c3)).set_ 4 (.slice a4 k4 c4)).set_ 5 (.slice a5 k5 c5));have D1:=((((((C1.far (p:=⟨w.heap.size,0,none⟩) (by simp) (.string p.fr)).far (p:=⟨w.heap.size,1,none⟩) (by simp) (.bool p.wo)).far (p:=⟨w.heap.size,2,none⟩) (by simp) (.slice a2 k2 c2)).far (p:=⟨w.heap.size,3,none⟩) (by simp) (.slice a3 k3 c3)).far (p:=⟨w.heap.size,4,none⟩) (by simp) (.slice a4 k4 c4)).far (p:=⟨w.heap.size,5,none⟩) (by simp) (.slice a5 k5 c5));have F2:Fr (fun k=>k=w.heap.size) w1 _:=(((((((Fr.refl (fun k=>k=w.heap.size) w1).set_ rfl 0 (.string p.fr)).set_ rfl 1 (.bool p.wo)).set_ rfl 2 (.slice a2 k2 c2)).set_ rfl 3 (.slice a3 k3 c3)).set_ rfl 4 (.slice a4 k4 c4)).set_ rfl 5 (.slice a5 k5 c5));generalize hw2:((((((w1.setCell ⟨w.heap.size,0,none⟩ (.string p.fr)).setCell ⟨w.heap.size,1,none⟩ (.bool p.wo)).setCell ⟨w.heap.size,2,none⟩ (.slice a2 k2 c2)).setCell ⟨w.heap.size,3,none⟩ (.slice a3 k3 c3)).setCell ⟨w.heap.size,4,none⟩ (.slice a4 k4 c4)).setCell ⟨w.heap.size,5,none⟩ (.slice a5 k5 c5))=w2 at D0 D1 F2 ⊢;clear e0 e1 e2 e3 e4 e5 f0 g0 h0 r0 hw2;have hy2:=hrv.out.mono (fun b hb=>⟨hb,F2.block b (hlt1 b hb) (hn1 b hb).1⟩) (Gle.refl _);have hg2:Bz w2 (fun _=>False):=hgl.at_ (C6 F2 fun k hk=>.inl hk) (fun b hb=>hb.elim);refine(hc.2 _ R1 [_] (fun b hb=>XH (hlt1 b hb) F2.size) (Aa1 hy2) (hg2.at_ (Fr.refl _ _) fun b hb=>(Uj hb).elim)).mono ?_
  rintro e w3 ⟨ys,R3,rfl,hf3,hR3,hR4,hp3,hF3⟩
  obtain⟨x,rfl⟩:∃x,ys=[x]:=by
   have hl:=hp3.len;rcases ys with _|⟨x,_|⟨x',ys⟩⟩<;>simp at hl
   exact⟨x,rfl⟩
  have hx:x=.int .i64 p.err:=B9 (hp3.ok 0 _ _ rfl rfl);subst hx;have hf3':Fr (fun _=>False) w2 w3:=⟨hf3.os,hf3.tape,hf3.output,hf3.size,fun k hk _=>hf3.block k hk Uj⟩;have E0:=hf3'.blkP D0 id;have E1:=hf3'.blkP D1 id;have hy3:=hid (hy2.mono (fun b hb=>⟨hb,hf3'.block b (XH (hlt1 b hb) F2.size) id⟩) (Gle.refl _));have HF3:=hid hf3';have hp3:=hid hp3;have hn1:=hid hn1;have hlt1:=hid hlt1;clear hf3 hR3 hR4 hF3 hp3 hf3' hy2;simp only[Db];have e0:w3.cell? ⟨w.heap.size,0,none⟩=some (.string p.fr):=E0.cell 0;have e1:w3.cell? ⟨w.heap.size,1,none⟩=some (.bool p.wo):=E0.cell 1;have e2:w3.cell? ⟨w.heap.size,2,none⟩=some (.slice a2 k2 c2):=E0.cell 2;have e3:w3.cell? ⟨w.heap.size,3,none⟩=some (.slice a3 k3 c3):=E0.cell 3;have e4:w3.cell? ⟨w.heap.size,4,none⟩=some (.slice a4 k4 c4):=E0.cell 4;have e5:w3.cell? ⟨w.heap.size,5,none⟩=some (.slice a5 k5 c5):=E0.cell 5;have f0:=fun i=>E0.frozen i;have g0:w3.cell? ⟨w.heap.size+1,0,none⟩=some (.int .i64 0):=E1.cell 0;have h0:=E1.frozen 0;by_cases hE:p.err=0
  ·obtain⟨h1,h2⟩:=hv.out rfl hE;have h1:=hid h1;have h2:=hid h2
   go_wp2_with fail
   refine leaves_cons (f:=31) (args:= #[.pointer (some ⟨w.heap.size,0,none⟩),.pointer (some ⟨w.heap.size+1,0,none⟩)]) (by simp) (by simp[go_sem]) ?_;refine(M1 w.heap.size (w.heap.size+1) _).mono ?_
   rintro e u' w4 ⟨rfl,rfl,hw4⟩
   have F4:Fr (fun k=>k=w.heap.size∨k=w.heap.size+1) w3 w4:=by rw[hw4];exact((((((((Fr.refl (fun k=>k=w.heap.size∨k=w.heap.size+1) w3).set_ (.inl rfl) 0 (.string p.fr)).set_ (.inl rfl) 1 (.bool p.wo)).set_ (.inl rfl) 2 (.slice a2 k2 c2)).set_ (.inl rfl) 3 (.slice a3 k3 c3)).set_ (.inl rfl) 4 (.slice a4 k4 c4)).set_ (.inl rfl) 5 (.slice a5 k5 c5)).set_ (.inr rfl) 0 (.int .i64 0)).alloc_ (.cells #[] 61)
   have G0:Blk w4 w.heap.size 27 #[.string p.fr,.bool p.wo,.slice a2 k2 c2,.slice a3 k3 c3,.slice a4 k4 c4,.slice a5 k5 c5]:=by rw[hw4];exact(((((((E0.set_ 0 (.string p.fr)).set_ 1 (.bool p.wo)).set_ 2 (.slice a2 k2 c2)).set_ 3 (.slice a3 k3 c3)).set_ 4 (.slice a4 k4 c4)).set_ 5 (.slice a5 k5 c5)).far (p:=⟨w.heap.size+1,0,none⟩) (by simp) (.int .i64 0)).alloc (.cells #[] 61)
   have G1:Blk w4 (w.heap.size+1) 28 #[.int .i64 0]:=by rw[hw4];exact(((((((E1.far (p:=⟨w.heap.size,0,none⟩) (by simp) (.string p.fr)).far (p:=⟨w.heap.size,1,none⟩) (by simp) (.bool p.wo)).far (p:=⟨w.heap.size,2,none⟩) (by simp) (.slice a2 k2 c2)).far (p:=⟨w.heap.size,3,none⟩) (by simp) (.slice a3 k3 c3)).far (p:=⟨w.heap.size,4,none⟩) (by simp) (.slice a4 k4 c4)).far (p:=⟨w.heap.size,5,none⟩) (by simp) (.slice a5 k5 c5)).set_ 0 (.int .i64 0)).alloc (.cells #[] 61)
   clear hw4 e0 e1 e2 e3 e4 e5 f0 g0 h0;have e0:w4.cell? ⟨w.heap.size,0,none⟩=some (.string p.fr):=G0.cell 0;have e1:w4.cell? ⟨w.heap.size,1,none⟩=some (.bool p.wo):=G0.cell 1;have e2:w4.cell? ⟨w.heap.size,2,none⟩=some (.slice a2 k2 c2):=G0.cell 2;have e3:w4.cell? ⟨w.heap.size,3,none⟩=some (.slice a3 k3 c3):=G0.cell 3;have e4:w4.cell? ⟨w.heap.size,4,none⟩=some (.slice a4 k4 c4):=G0.cell 4;have e5:w4.cell? ⟨w.heap.size,5,none⟩=some (.slice a5 k5 c5):=G0.cell 5;have g0:w4.cell? ⟨w.heap.size+1,0,none⟩=some (.int .i64 0):=G1.cell 0;simp[Leaves,settle,results,Tryz.results12,go_sem,e0,e1,e2,e3,e4,e5,g0];rw[h1.out,h2.out];refine⟨pkV p (.slice a2 k2 c2) (.slice a3 k3 c3) (.slice a4 k4 c4) (.slice a5 k5 c5),R1,rfl,((((F0.outP HF.out (fun i hi=>by omega)).outP F2 (fun i hi=>by omega)).outP HF3.out (fun i hi=>hi.elim))).outP F4 (fun i hi=>by omega),hR1.out,fun b hb=>?_,hy3.out.mono (fun b hb=>⟨hb,F4.block b (XH (hlt1.out b hb) (XI F2.size HF3.out.size)) (by have:=hn1.out b hb;omega)⟩) (Gle.refl _)⟩;rcases hR2.out b hb with g|⟨g1,g2⟩
   ·exact .inl g
   ·refine .inr ⟨XH g1 (XI F2.size (XI HF3.out.size F4.size)),?_⟩;rcases g2 with g2|g2
    ·omega
    ·exact XI F0.size g2
  ·obtain⟨h1,h2⟩:=hz.out (.inr hE);have h1:=hid h1;have h2:=hid h2
   go_wp2_with fail
   refine leaves_cons (f:=31) (args:= #[.pointer (some ⟨w.heap.size,0,none⟩),.pointer (some ⟨w.heap.size+1,0,none⟩)]) (by simp) (by simp[go_sem]) ?_;refine(M1 w.heap.size (w.heap.size+1) _).mono ?_
   rintro e u' w4 ⟨rfl,rfl,hw4⟩
   have F4:Fr (fun k=>k=w.heap.size∨k=w.heap.size+1) w3 w4:=by rw[hw4];exact((((((((Fr.refl (fun k=>k=w.heap.size∨k=w.heap.size+1) w3).set_ (.inl rfl) 0 (.string ⟨#[]⟩)).set_ (.inl rfl) 1 (.bool false)).set_ (.inl rfl) 2 (.slice none 0 0)).set_ (.inl rfl) 3 (.slice none 0 0)).set_ (.inl rfl) 4 (.slice none 0 0)).set_ (.inl rfl) 5 (.slice none 0 0)).set_ (.inr rfl) 0 (.int .i64 1)).alloc_ (.cells #[] 61)
   have G0:Blk w4 w.heap.size 27 #[.string ⟨#[]⟩,.bool false,.slice none 0 0,.slice none 0 0,.slice none 0 0,.slice none 0 0]:=by rw[hw4];exact(((((((E0.set_ 0 (.string ⟨#[]⟩)).set_ 1 (.bool false)).set_ 2 (.slice none 0 0)).set_ 3 (.slice none 0 0)).set_ 4 (.slice none 0 0)).set_ 5 (.slice none 0 0)).far (p:=⟨w.heap.size+1,0,none⟩) (by simp) (.int .i64 1)).alloc (.cells #[] 61)
   have G1:Blk w4 (w.heap.size+1) 28 #[.int .i64 1]:=by rw[hw4];exact(((((((E1.far (p:=⟨w.heap.size,0,none⟩) (by simp) (.string ⟨#[]⟩)).far (p:=⟨w.heap.size,1,none⟩) (by simp) (.bool false)).far (p:=⟨w.heap.size,2,none⟩) (by simp) (.slice none 0 0)).far (p:=⟨w.heap.size,3,none⟩) (by simp) (.slice none 0 0)).far (p:=⟨w.heap.size,4,none⟩) (by simp) (.slice none 0 0)).far (p:=⟨w.heap.size,5,none⟩) (by simp) (.slice none 0 0)).set_ 0 (.int .i64 1)).alloc (.cells #[] 61)
   clear hw4 e0 e1 e2 e3 e4 e5 f0 g0 h0;have e0:w4.cell? ⟨w.heap.size,0,none⟩=some (.string ⟨#[]⟩):=G0.cell 0;have e1:w4.cell? ⟨w.heap.size,1,none⟩=some (.bool false):=G0.cell 1;have e2:w4.cell? ⟨w.heap.size,2,none⟩=some (.slice none 0 0):=G0.cell 2;have e3:w4.cell? ⟨w.heap.size,3,none⟩=some (.slice none 0 0):=G0.cell 3;have e4:w4.cell? ⟨w.heap.size,4,none⟩=some (.slice none 0 0):=G0.cell 4;have e5:w4.cell? ⟨w.heap.size,5,none⟩=some (.slice none 0 0):=G0.cell 5;have g0:w4.cell? ⟨w.heap.size+1,0,none⟩=some (.int .i64 1):=G1.cell 0;simp[Leaves,settle,results,Tryz.results12,go_sem,e0,e1,e2,e3,e4,e5,g0];rw[h1.out,h2.out];refine⟨.agg Fx,R1,rfl,((((F0.outP HF.out (fun i hi=>by omega)).outP F2 (fun i hi=>by omega)).outP HF3.out (fun i hi=>hi.elim))).outP F4 (fun i hi=>by omega),hR1.out,fun b hb=>?_,Qr _ _⟩;rcases hR2.out b hb with g|⟨g1,g2⟩
   ·exact .inl g
   ·refine .inr ⟨XH g1 (XI F2.size (XI HF3.out.size F4.size)),?_⟩;rcases g2 with g2|g2
    ·omega
    ·exact XI F0.size g2
 ·obtain⟨h1,h2⟩:=hz.out (.inl hr);have h1:=hid h1;have h2:=hid h2;have hr':r≠⟨#[]⟩:=fun q=>hr (by rw[q];rfl);have hb0:ByteArray.toList ⟨#[]⟩=[]:=by rw[ByteArray.toList_eq]
  have hb2:¬r.toList=[]:=fun q=>hr (Aes q);have hb1:(r.toList==[])=false:=by simp[hb2]
  go_wp2_with fail
  have D0:Blk ((((((w1.setCell ⟨w.heap.size,0,none⟩ (.string p.fr)).setCell ⟨w.heap.size,1,none⟩ (.bool p.wo)).setCell ⟨w.heap.size,2,none⟩ (.slice a2 k2 c2)).setCell ⟨w.heap.size,3,none⟩ (.slice a3 k3 c3)).setCell ⟨w.heap.size,4,none⟩ (.slice a4 k4 c4)).setCell ⟨w.heap.size,5,none⟩ (.slice a5 k5 c5)) w.heap.size 27 #[.string p.fr,.bool p.wo,.slice a2 k2 c2,.slice a3 k3 c3,.slice a4 k4 c4,.slice a5 k5 c5]:=((((((C0.set_ 0 (.string p.fr)).set_ 1 (.bool p.wo)).set_ 2 (.slice a2 k2 c2)).set_ 3 (.slice a3 k3 c3)).set_ 4 (.slice a4 k4 c4)).set_ 5 (.slice a5 k5 c5));have D1:=((((((C1.far (p:=⟨w.heap.size,0,none⟩) (by simp) (.string p.fr)).far (p:=⟨w.heap.size,1,none⟩) (by simp) (.bool p.wo)).far (p:=⟨w.heap.size,2,none⟩) (by simp) (.slice a2 k2 c2)).far (p:=⟨w.heap.size,3,none⟩) (by simp) (.slice a3 k3 c3)).far (p:=⟨w.heap.size,4,none⟩) (by simp) (.slice a4 k4 c4)).far (p:=⟨w.heap.size,5,none⟩) (by simp) (.slice a5 k5 c5));have F2:Fr (fun k=>k=w.heap.size) w1 _:=(((((((Fr.refl (fun k=>k=w.heap.size) w1).set_ rfl 0 (.string p.fr)).set_ rfl 1 (.bool p.wo)).set_ rfl 2 (.slice a2 k2 c2)).set_ rfl 3 (.slice a3 k3 c3)).set_ rfl 4 (.slice a4 k4 c4)).set_ rfl 5 (.slice a5 k5 c5));generalize hw2:((((((w1.setCell ⟨w.heap.size,0,none⟩ (.string p.fr)).setCell ⟨w.heap.size,1,none⟩ (.bool p.wo)).setCell ⟨w.heap.size,2,none⟩ (.slice a2 k2 c2)).setCell ⟨w.heap.size,3,none⟩ (.slice a3 k3 c3)).setCell ⟨w.heap.size,4,none⟩ (.slice a4 k4 c4)).setCell ⟨w.heap.size,5,none⟩ (.slice a5 k5 c5))=w2 at D0 D1 F2 ⊢;clear r0 hw2;refine leaves_cons (f:=31) (args:= #[.pointer (some ⟨w.heap.size,0,none⟩),.pointer (some ⟨w.heap.size+1,0,none⟩)]) (by simp) (by simp[go_sem]) ?_;refine(M1 w.heap.size (w.heap.size+1) _).mono ?_
  rintro e u' w4 ⟨rfl,rfl,hw4⟩
  have F4:Fr (fun k=>k=w.heap.size∨k=w.heap.size+1) w2 w4:=by rw[hw4];exact((((((((Fr.refl (fun k=>k=w.heap.size∨k=w.heap.size+1) w2).set_ (.inl rfl) 0 (.string ⟨#[]⟩)).set_ (.inl rfl) 1 (.bool false)).set_ (.inl rfl) 2 (.slice none 0 0)).set_ (.inl rfl) 3 (.slice none 0 0)).set_ (.inl rfl) 4 (.slice none 0 0)).set_ (.inl rfl) 5 (.slice none 0 0)).set_ (.inr rfl) 0 (.int .i64 1)).alloc_ (.cells #[] 61)
  have G0:Blk w4 w.heap.size 27 #[.string ⟨#[]⟩,.bool false,.slice none 0 0,.slice none 0 0,.slice none 0 0,.slice none 0 0]:=by rw[hw4];exact(((((((D0.set_ 0 (.string ⟨#[]⟩)).set_ 1 (.bool false)).set_ 2 (.slice none 0 0)).set_ 3 (.slice none 0 0)).set_ 4 (.slice none 0 0)).set_ 5 (.slice none 0 0)).far (p:=⟨w.heap.size+1,0,none⟩) (by simp) (.int .i64 1)).alloc (.cells #[] 61)
  have G1:Blk w4 (w.heap.size+1) 28 #[.int .i64 1]:=by rw[hw4];exact(((((((D1.far (p:=⟨w.heap.size,0,none⟩) (by simp) (.string ⟨#[]⟩)).far (p:=⟨w.heap.size,1,none⟩) (by simp) (.bool false)).far (p:=⟨w.heap.size,2,none⟩) (by simp) (.slice none 0 0)).far (p:=⟨w.heap.size,3,none⟩) (by simp) (.slice none 0 0)).far (p:=⟨w.heap.size,4,none⟩) (by simp) (.slice none 0 0)).far (p:=⟨w.heap.size,5,none⟩) (by simp) (.slice none 0 0)).set_ 0 (.int .i64 1)).alloc (.cells #[] 61)
  clear hw4 e0 e1 e2 e3 e4 e5 f0 g0 h0;have e0:w4.cell? ⟨w.heap.size,0,none⟩=some (.string ⟨#[]⟩):=G0.cell 0;have e1:w4.cell? ⟨w.heap.size,1,none⟩=some (.bool false):=G0.cell 1;have e2:w4.cell? ⟨w.heap.size,2,none⟩=some (.slice none 0 0):=G0.cell 2;have e3:w4.cell? ⟨w.heap.size,3,none⟩=some (.slice none 0 0):=G0.cell 3;have e4:w4.cell? ⟨w.heap.size,4,none⟩=some (.slice none 0 0):=G0.cell 4;have e5:w4.cell? ⟨w.heap.size,5,none⟩=some (.slice none 0 0):=G0.cell 5;have g0:w4.cell? ⟨w.heap.size+1,0,none⟩=some (.int .i64 1):=G1.cell 0;simp[Leaves,settle,results,Tryz.results12,go_sem,e0,e1,e2,e3,e4,e5,g0];rw[h1.out,h2.out];refine⟨.agg Fx,R1,rfl,((F0.outP HF.out (fun i hi=>by omega)).outP F2 (fun i hi=>by omega)).outP F4 (fun i hi=>by omega),hR1.out,fun b hb=>?_,Qr _ _⟩;rcases hR2.out b hb with g|⟨g1,g2⟩
  ·exact .inl g
  ·refine .inr ⟨XH g1 (XI F2.size F4.size),?_⟩;rcases g2 with g2|g2
   ·omega
   ·exact XI F0.size g2
theorem Pk.okB_ok[Glob]{p:Pk}(h:p.okB):p.ok:=by
 obtain⟨h0,⟨m1,m2⟩,⟨s1,s2⟩,⟨g1,g2⟩,⟨w1,w2⟩⟩:=h;exact⟨h0,by omega,fun x hx=>(m2 x hx).1,by omega,fun x hx=>⟨(s2 x hx).1,(s2 x hx).2.1,(s2 x hx).2.2.1,(s2 x hx).2.2.2.1⟩,by omega,fun x hx=>(g2 x hx).1,by omega,fun x hx=>(w2 x hx).1⟩
theorem Acr[Glob][Tabs](s:ByteArray)(hs:s.size≤1000000000000)(w:World)(R:Nat→Prop)(hlt:∀b,R b→b<w.heap.size)(hg:Bz w (fun _=>False)):Calls Tryz.prog 12 #[.string s] w (Wm R w (Km s).1 (Km s).2):=by
 unfold Km T8;rcases e:pkR s with _|⟨p,r⟩
 ·exact Ad8 s (.string s) w R hlt hg (Aad e hs)
 ·have hok:p.ok:=Pk.okB_ok (Adw.some _ _ e).1;refine Adz s r p w R hlt hg (Aaa e hs) (Mi p hok) _ _ (fun h1 h2=>?_) (fun h=>?_)
  ·simp only;rw[if_neg (fun h:r.size≠0∨p.err≠0=>h.elim (fun h=>h h1) (fun h=>h h2))];exact⟨rfl,rfl⟩
  ·simp only;rw[if_pos (show r.size≠0∨p.err≠0 from h)];exact⟨rfl,rfl⟩
theorem K9[Glob][Tabs](s:ByteArray)(hs:s.size≤1000000000000):Fun Tryz.prog 12 [.c (.v (.string s))] [.c (.agg (Km s).1.row),.c (.v (.int .i64 (Km s).2))]:=by
 refine⟨⟨_,Tryz.func12,by kernel_rfl,by kernel_rfl⟩,fun w R xs hlt hp hg=>?_⟩;obtain⟨x,rfl⟩:∃x,xs=[x]:=by
  have hl:=hp.len;rcases xs with _|⟨x,_|⟨x',xs⟩⟩<;>simp at hl
  exact⟨x,rfl⟩
 have hx:x=.string s:=B9 (hp.ok 0 _ _ rfl rfl);subst hx;refine(Acr s hs w R hlt (hg.at_ (C6 (Fr.refl (fun _=>False) w) fun _ h=>h.elim) fun b h=>h.elim)).mono ?_
 rintro e w' ⟨x,R',rfl,hf,h1,h2,h3⟩
 have hnb:∀b,¬A7 [.c (.agg (Km s).1.row),.c (.v (.int .i64 (Km s).2))] [x,.int .i64 (Km s).2] b:=fun b=>Fa (by intro p hp;rcases XC.1 hp with rfl|hp;exact⟨_,rfl⟩;rcases XC.1 hp with rfl|hp;exact⟨_,rfl⟩;cases hp);refine⟨[x,.int .i64 (Km s).2],R',rfl,⟨hf.os,hf.tape,hf.output,hf.size,fun k hk _=>hf.block k hk id⟩,h1,fun b hb=>(h2 b hb).imp id (fun g=>⟨g.1,.inr g.2⟩),⟨rfl,fun i p y q1 q2=>?_,fun i j T sz rows T' sz' rows' x y b hij q1=>?_,fun b hb=>(hnb b hb).elim⟩,fun b hb=>(hnb b hb).elim⟩
 ·rcases i with _|_|i
  ·cases q1;cases q2;exact h3
  ·cases q1;cases q2;exact .v _
  ·simp at q1
 ·rcases i with _|_|i<;>simp at q1
theorem Af6 [Glob] (c d : Bool) (a b : List Mb) (ha : a.length ≤ 9223372036854775807) : Fun Tryz.prog 37 [.c (.sl c (a.map Mb.row)), .c (.sl d (b.map Mb.row))] [.c (.v (.bool (L8 Mb.same a b)))] := by
  refine A9 I5 rfl ?_
  (refine goI ?_; repeat (intro gg; refine goI ?_))
  rw [ZE, ZE]
  (refine Ab (fun h => ?_) (fun h => ?_) <;> rw [h])
  · (refine goI ?_; repeat (intro gg; refine goI ?_))
    rw [Pp (fun e => by rw [e] at h; simp at h)]
    (exact ⟨[], aI⟩)
  · have hab : a.length = b.length := by have h' : ((a.length : Int) != (b.length : Int)) = false := h
                                         simp at h'; omega
    (refine goI ?_; repeat (intro gg; refine goI ?_))
    (refine ⟨[], none, {k : Nat // k ≤ a.length ∧ ∀ j, (h : j < a.length) → j < k → Mb.same a[j] (b[j]'(by omega)) = true}, [0, 1], fun ⟨k, hk, h0⟩ => [(5, .v (.int .i64 k))], [], fun ⟨k, hk, h0⟩ => [], fun ⟨k, hk, h0⟩ => a.length - k, trivial, fun _ => ⟨trivial, fun _ => ⟨⟨0, by omega, fun j _ h => by omega⟩, tI, Aj _ _, tI, Ai _ _⟩⟩, fun ⟨k, hk, h0⟩ => ?_⟩)
    (refine goI ?_; repeat (intro gg; refine goI ?_))
    rw [ZE]
    (refine Ab (fun h2 => ?_) (fun h2 => ?_) <;> rw [h2])
    · have hlt : k < a.length := (by have := ZV h2; omega)
      have hlt' : k < b.length := by omega
      (refine goI ?_; repeat (intro gg; refine goI ?_))
      refine ⟨k, _, rfl, Ap hlt, ?_⟩
      (refine goI ?_; repeat (intro gg; refine goI ?_))
      refine ⟨k, _, rfl, Ap hlt', ?_⟩
      (refine goI ?_; repeat (intro gg; refine goI ?_))
      (refine Ab (fun h3 => ?_) (fun h3 => ?_) <;> rw [h3])
      · (refine goI ?_; repeat (intro gg; refine goI ?_))
        rw [Ow hlt hlt' (Ey (b := Mb.same a[k] b[k]) h3)]
        (exact ⟨[], aI⟩)
      · (refine goI ?_; repeat (intro gg; refine goI ?_))
        (exact ⟨none, trivial, fun _ => ⟨⟨k + 1, by omega, up1 (p := fun j h => Mb.same a[j] (b[j]'(by omega)) = true) h0 (fun _ => Eo (b := Mb.same a[k] b[k]) h3)⟩, by show a.length - (k + 1) < a.length - k; omega, tI, tI, tI, tI⟩⟩)
    · have hge : ¬ k < a.length := (by have := ZW h2; omega)
      (refine goI ?_; repeat (intro gg; refine goI ?_))
      rw [K3 hab (fun i hi _ => h0 i hi (by omega))]
      (exact ⟨[], aI⟩)
namespace Pl
def Wh.same(g h:Wh):Bool:=(g.nd.toList==h.nd.toList)&&((g.pl.x==h.pl.x)&&((g.pl.y==h.pl.y)&&((g.pl.z==h.pl.z)&&((g.pl.h==h.pl.h)&&((g.pl.s==h.pl.s)&&true)))))
theorem Wh.same_iff{g h:Wh}:Wh.same g h=true↔g=h:=by
 obtain⟨a,b,c,d,e,f⟩:=g;obtain⟨a',b',c',d',e',f'⟩:=h;have tl:∀a b:ByteArray,a.toList=b.toList↔a=b:=fun a b=>⟨toList_inj,fun h=>by rw[h]⟩;simp only[Wh.same,Bool.and_true,ZO,ZR,tl,Wh.mk.injEq,Pc.mk.injEq]
end Pl
theorem Acs [Glob] (c d : Bool) (a b : List Wh) (ha : a.length ≤ 9223372036854775807) : Fun Tryz.prog 40 [.c (.sl c (a.map Wh.row)), .c (.sl d (b.map Wh.row))] [.c (.v (.bool (L8 Wh.same a b)))] := by
  refine A9 K6 rfl ?_
  (refine goI ?_; repeat (intro gg; refine goI ?_))
  rw [ZE, ZE]
  (refine Ab (fun h => ?_) (fun h => ?_) <;> rw [h])
  · (refine goI ?_; repeat (intro gg; refine goI ?_))
    rw [Pp (fun e => by rw [e] at h; simp at h)]
    (exact ⟨[], aI⟩)
  · have hab : a.length = b.length := by have h' : ((a.length : Int) != (b.length : Int)) = false := h
                                         simp at h'; omega
    (refine goI ?_; repeat (intro gg; refine goI ?_))
    (refine ⟨[], none, {k : Nat // k ≤ a.length ∧ ∀ j, (h : j < a.length) → j < k → Wh.same a[j] (b[j]'(by omega)) = true}, [0, 1], fun ⟨k, hk, h0⟩ => [(5, .v (.int .i64 k))], [], fun ⟨k, hk, h0⟩ => [], fun ⟨k, hk, h0⟩ => a.length - k, trivial, fun _ => ⟨trivial, fun _ => ⟨⟨0, by omega, fun j _ h => by omega⟩, tI, Aj _ _, tI, Ai _ _⟩⟩, fun ⟨k, hk, h0⟩ => ?_⟩)
    (refine goI ?_; repeat (intro gg; refine goI ?_))
    rw [ZE]
    (refine Ab (fun h2 => ?_) (fun h2 => ?_) <;> rw [h2])
    · have hlt : k < a.length := (by have := ZV h2; omega)
      have hlt' : k < b.length := by omega
      (refine goI ?_; repeat (intro gg; refine goI ?_))
      refine ⟨k, _, rfl, Ap hlt, ?_⟩
      (refine goI ?_; repeat (intro gg; refine goI ?_))
      refine ⟨k, _, rfl, Ap hlt', ?_⟩
      (refine goI ?_; repeat (intro gg; refine goI ?_))
      (refine Ab (fun h3 => ?_) (fun h3 => ?_) <;> rw [h3])
      · (refine goI ?_; repeat (intro gg; refine goI ?_))
        rw [Ow hlt hlt' (Ey (b := Wh.same a[k] b[k]) h3)]
        (exact ⟨[], aI⟩)
      · (refine goI ?_; repeat (intro gg; refine goI ?_))
        (exact ⟨none, trivial, fun _ => ⟨⟨k + 1, by omega, up1 (p := fun j h => Wh.same a[j] (b[j]'(by omega)) = true) h0 (fun _ => Eo (b := Wh.same a[k] b[k]) h3)⟩, by show a.length - (k + 1) < a.length - k; omega, tI, tI, tI, tI⟩⟩)
    · have hge : ¬ k < a.length := (by have := ZW h2; omega)
      (refine goI ?_; repeat (intro gg; refine goI ?_))
      rw [K3 hab (fun i hi _ => h0 i hi (by omega))]
      (exact ⟨[], aI⟩)
theorem Y7[Glob](c:Bool)(l:List Wh)(hl:l.length≤9223372036854775807)(hw:∀x∈l,x.ok):Fun Tryz.prog 20 [.c (.sl c (l.map Wh.row))] [.c (.v (.int .i64 (I7 l)))]:=by
 refine A9 J1 rfl ?_;(refine goI ?_;repeat (intro gg;refine goI ?_));rw[ZE];(refine Ab (fun h1=>?_) (fun h1=>?_)<;>rw[h1])
 ·(refine goI ?_;repeat (intro gg;refine goI ?_));have e:I7 l=2:=Ge (by have:=ZV h1;omega);rw[e];(exact⟨[],aI⟩)
 ·have h1':¬20<l.length:=(by have:=ZW h1;omega);(refine goI ?_;repeat (intro gg;refine goI ?_));(refine⟨[],none,{k:Nat//k≤l.length∧∀j,(h:j<l.length)→j<k→Wh.err l[j]=0},[0],fun⟨k,hk,h0⟩=>[(3,.v (.int .i64 k))],[],fun⟨k,hk,h0⟩=>[],fun⟨k,hk,h0⟩=>l.length-k,trivial,fun _=>⟨trivial,fun _=>⟨⟨0,ZU _,fun j _ h=>absurd h (Nat.not_lt_zero _)⟩,tI,Aj _ _,tI,Ai _ _⟩⟩,fun⟨k,hk,h0⟩=>?_⟩);(refine goI ?_;repeat (intro gg;refine goI ?_));rw[ZE];(refine Ab (fun h2=>?_) (fun h2=>?_)<;>rw[h2])
  ·have hlt:k<l.length:=(by have:=ZV h2;omega);(refine goI ?_;repeat (intro gg;refine goI ?_));refine⟨k,_,rfl,Ap hlt,?_⟩;(refine goI ?_;repeat (intro gg;refine goI ?_));have hx:=hw _ (ZK hlt);refine .inl (cX (D6 (l[k]).nd hx) ?_);(refine goI ?_;repeat (intro gg;refine goI ?_));have HE:=Br (e:=Wh.err) hlt h0;(refine Ab (fun h3=>?_) (fun h3=>?_)<;>rw[h3])
   ·have h3':lab (l[k]).nd.data.toList=false:=Ey h3;(refine goI ?_;repeat (intro gg;refine goI ?_));have e1:Wh.err l[k]=1:=by unfold Wh.err;rw[h3'];rfl
    have e:I7 l=1:=by unfold I7;rw[Cx h1' (by rw[HE (by rw[e1];decide),e1];decide),HE (by rw[e1];decide),e1]
    rw[e];(exact⟨[],aI⟩)
   ·have h3':lab (l[k]).nd.data.toList=true:=Eo h3;have e1:Wh.err l[k]=(l[k]).pl.err:=by unfold Wh.err;rw[h3'];rfl
    (refine goI ?_;repeat (intro gg;refine goI ?_));refine⟨k,_,rfl,Ap hlt,?_⟩;(refine goI ?_;repeat (intro gg;refine goI ?_));refine .inl (cX (Y6 (l[k]).pl) ?_);(refine goI ?_;repeat (intro gg;refine goI ?_));(refine Ab (fun h4=>?_) (fun h4=>?_)<;>rw[h4])
    ·have h4':(l[k]).pl.err≠0:=by simpa using h4
     (refine goI ?_;repeat (intro gg;refine goI ?_));have e:I7 l=(l[k]).pl.err:=by unfold I7;rw[Cx h1' (by rw[HE (by rw[e1];exact h4'),e1];exact h4'),HE (by rw[e1];exact h4'),e1]
     rw[e];(exact⟨[],aI⟩)
    ·have h4':(l[k]).pl.err=0:=by simpa using h4
     (refine goI ?_;repeat (intro gg;refine goI ?_));(exact⟨none,trivial,fun _=>⟨⟨k+1,by omega,up1 (p:=fun j h=>Wh.err l[j]=0) h0 (fun _=>e1.trans h4')⟩,by show l.length-(k+1)<l.length-k;omega,tI,tI,tI,tI⟩⟩)
  ·have hge:¬k<l.length:=(by have:=ZW h2;omega);have h2':Am Wh.err l=0:=Bc fun i hi=>h0 i hi (by omega);(refine goI ?_;repeat (intro gg;refine goI ?_));(refine⟨[],none,{q:Nat//(q<l.length∨q=0)∧∀i,(h:i+1<l.length)→i<q→Wh.lt l[i] l[i+1]=true},[0],fun⟨q,hq,g0⟩=>[(5,.v (.int .i64 ((q:Int)+1)))],[],fun⟨q,hq,g0⟩=>[],fun⟨q,hq,g0⟩=>l.length-q,trivial,fun _=>⟨trivial,fun _=>⟨⟨0,by omega,fun j _ h=>by omega⟩,tI,Aj _ _,tI,Ai _ _⟩⟩,fun⟨q,hq,g0⟩=>?_⟩);(refine goI ?_;repeat (intro gg;refine goI ?_));rw[ZE];(refine Ab (fun h3=>?_) (fun h3=>?_)<;>rw[h3])
   ·have hlt3:q+1<l.length:=(by have:=ZV h3;omega);(refine goI ?_;repeat (intro gg;refine goI ?_));refine⟨q+1,_,by omega,Ap hlt3,?_⟩;(refine goI ?_;repeat (intro gg;refine goI ?_));refine⟨q,_,by omega,Ap (by omega),?_⟩;(refine goI ?_;repeat (intro gg;refine goI ?_));rw[Qw];(refine Ab (fun h4=>?_) (fun h4=>?_)<;>rw[h4])
    ·(refine goI ?_;repeat (intro gg;refine goI ?_));have e:I7 l=4:=Ma h1' h2' (Dn hlt3 (by simpa[Wh.lt]using h4));rw[e];(exact⟨[],aI⟩)
    ·(refine goI ?_;repeat (intro gg;refine goI ?_));(exact⟨none,trivial,fun _=>⟨⟨q+1,by omega,up2 (p:=fun i h=>Wh.lt l[i] l[i+1]=true) g0 (fun _=>by simpa[Wh.lt]using h4)⟩,by show l.length-(q+1)<l.length-q;omega,tI,tI,tI,tI⟩⟩)
   ·have hge3:¬q+1<l.length:=(by have:=ZW h3;omega);(refine goI ?_;repeat (intro gg;refine goI ?_));have e:I7 l=0:=Jh h1' h2' (Dv fun i hi=>g0 i hi (by omega));rw[e];(exact⟨[],aI⟩)
structure Pk.sh(p:Pk):Prop where
 msl:p.ms.length≤9223372036854775807
 svl:p.sv.length≤9223372036854775807
 gsl:p.gs.length≤9223372036854775807
 whl:p.wh.length≤9223372036854775807
theorem Uo[Glob](p:Pk)(h:Pk.sh p):Fun Tryz.prog 14 [.c (.agg p.row),.c (.agg p.row)] [.c (.v (.bool true))]:=by
 have s1:=Af6 false false p.ms p.ms h.msl;have s3:=Adc false false p.sv p.sv h.svl;have s4:=Ad9 false false p.gs p.gs h.gsl;have s5:=Acs false false p.wh p.wh h.whl;rw[Ln (fun x=>Mb.same_iff.2 rfl) p.ms]at s1;rw[Ln (fun x=>Sv.same_iff.2 rfl) p.sv]at s3;rw[Ln (fun x=>Gw.same_iff.2 rfl) p.gs]at s4;rw[Ln (fun x=>Wh.same_iff.2 rfl) p.wh]at s5;refine A9 Jv rfl ?_;(refine goI ?_;repeat (intro gg;refine goI ?_));(refine Ab (fun q1=>?_) (fun q1=>?_)<;>rw[q1];rotate_left;focus (exfalso;simp at q1));(refine goI ?_;repeat (intro gg;refine goI ?_));(refine Ab (fun q2=>?_) (fun q2=>?_)<;>rw[q2];rotate_left;focus (exfalso;simp at q2));(refine goI ?_;repeat (intro gg;refine goI ?_));refine .inl (cX s1 ?_);(refine goI ?_;repeat (intro gg;refine goI ?_));refine .inl (cX s3 ?_);(refine goI ?_;repeat (intro gg;refine goI ?_));refine .inl (cX s4 ?_);(refine goI ?_;repeat (intro gg;refine goI ?_));refine .inl (cX s5 ?_);(refine goI ?_;repeat (intro gg;refine goI ?_));(exact⟨[],aI⟩)
theorem O9[Glob](p:Pk)(h:p.ok):Fun Tryz.prog 7 [.c (.agg p.row)] [.c (.v (.int .i64 p.err))]:=by
 have l1:(p.sv.map Sv.row).length=p.sv.length:=ZE ..;have l2:(p.gs.map Gw.row).length=p.gs.length:=ZE ..;have l3:(p.wh.map Wh.row).length=p.wh.length:=ZE ..;have b1:=h.svl;have b2:=h.gsl;have b3:=h.whl;have b0:=h.msl;refine A9 I6 rfl ?_;(refine goI ?_;repeat (intro gg;refine goI ?_));refine .inl (cX (D6 p.fr h.fr) ?_);(refine goI ?_;repeat (intro gg;refine goI ?_));(refine Ab (fun h1=>?_) (fun h1=>?_)<;>rw[h1])
 ·rw[Pk.err_form (Ey h1)];(refine goI ?_;repeat (intro gg;refine goI ?_));(exact⟨[],aI⟩)
 ·have h1':=Eo h1;cases hwo:p.wo with
  |true=>
   rw[Pk.err_all h1' hwo];(refine goI ?_;repeat (intro gg;refine goI ?_));refine .inl (cX (Aa2 false p.ms h.msl h.ms) ?_);(refine goI ?_;repeat (intro gg;refine goI ?_));(refine Ab (fun e1=>?_) (fun e1=>?_)<;>rw[e1])
   ·have z1:Ib p.ms=0:=by simpa using e1
    (refine goI ?_;repeat (intro gg;refine goI ?_));(refine .inl ⟨_,_,false,[],aI,Xs false p.sv (by omega) h.sv,Ak,nI,?_⟩);(refine goI ?_;repeat (intro gg;refine goI ?_));(refine Ab (fun e2=>?_) (fun e2=>?_)<;>rw[e2])
    ·have z2:Im p.sv=0:=by simpa using e2
     (refine goI ?_;repeat (intro gg;refine goI ?_));(refine .inl ⟨_,_,false,[],aI,Yn false p.gs (by omega) h.gs,Ak,nI,?_⟩);(refine goI ?_;repeat (intro gg;refine goI ?_));(refine Ab (fun e3=>?_) (fun e3=>?_)<;>rw[e3])
     ·have z3:Ih p.gs=0:=by simpa using e3
      (refine goI ?_;repeat (intro gg;refine goI ?_));(refine .inl ⟨_,_,false,[],aI,Y7 false p.wh (by omega) h.wh,Ak,nI,?_⟩);(refine goI ?_;repeat (intro gg;refine goI ?_));rw[show Am (fun e=>e) p.cks=I7 p.wh from by by_cases q:I7 p.wh=0<;>simp[Pk.cks,Am,z1,z2,z3,q]];(exact⟨[],aI⟩)
     ·have y3:Ih p.gs≠0:=by simpa using e3
      (refine goI ?_;repeat (intro gg;refine goI ?_));rw[show Am (fun e=>e) p.cks=Ih p.gs from by simp[Pk.cks,Am,z1,z2,y3]];(exact⟨[],aI⟩)
    ·have y2:Im p.sv≠0:=by simpa using e2
     (refine goI ?_;repeat (intro gg;refine goI ?_));rw[e2];(refine goI ?_;repeat (intro gg;refine goI ?_));rw[show Am (fun e=>e) p.cks=Im p.sv from by simp[Pk.cks,Am,z1,y2]];(exact⟨[],aI⟩)
   ·have y1:Ib p.ms≠0:=by simpa using e1
    (refine goI ?_;repeat (intro gg;refine goI ?_));rw[e1];(refine goI ?_;repeat (intro gg;refine goI ?_));rw[e1];(refine goI ?_;repeat (intro gg;refine goI ?_));rw[show Am (fun e=>e) p.cks=Ib p.ms from by simp[Pk.cks,Am,y1]];(exact⟨[],aI⟩)
  |false=>
   (refine goI ?_;repeat (intro gg;refine goI ?_));(refine Ab (fun g1=>?_) (fun g1=>?_)<;>rw[g1])
   ·have g1':=ZV g1;rw[l1]at g1';rw[Pk.err_more h1' hwo (by omega)];(refine goI ?_;repeat (intro gg;refine goI ?_));(exact⟨[],aI⟩)
   ·have g1':=ZW g1;rw[l1]at g1';(refine goI ?_;repeat (intro gg;refine goI ?_));(refine Ab (fun g2=>?_) (fun g2=>?_)<;>rw[g2])
    ·have g2':=ZV g2;rw[l2]at g2';rw[Pk.err_more h1' hwo (by omega)];(refine goI ?_;repeat (intro gg;refine goI ?_));(exact⟨[],aI⟩)
    ·have g2':=ZW g2;rw[l2]at g2';(refine goI ?_;repeat (intro gg;refine goI ?_));(refine Ab (fun g3=>?_) (fun g3=>?_)<;>rw[g3])
     ·have g3':=ZV g3;rw[l3]at g3';rw[Pk.err_more h1' hwo (by omega)];(refine goI ?_;repeat (intro gg;refine goI ?_));(exact⟨[],aI⟩)
     ·have g3':=ZW g3;rw[l3]at g3';rw[Pk.err_few h1' hwo (by omega)];have hlm:(p.ms.map Mb.row).length=p.ms.length:=ZE ..;(refine goI ?_;repeat (intro gg;refine goI ?_));rw[hlm];(refine Ab (fun g4=>?_) (fun g4=>?_)<;>rw[g4])
      ·rw[Oe (by have:=ZV g4;omega)];(refine goI ?_;repeat (intro gg;refine goI ?_));(exact⟨[],aI⟩)
      ·have g4':¬5<p.ms.length:=by have:=ZW g4;omega
       (refine goI ?_;repeat (intro gg;refine goI ?_));(refine⟨[],none,{k:Nat//k≤p.ms.length∧∀j,(h:j<p.ms.length)→j<k→(p.ms[j]).err=0},[1],fun⟨k,hk,h0⟩=>[(4,.v (.int .i64 k))],[16],fun⟨k,hk,h0⟩=>[],fun⟨k,hk,h0⟩=>p.ms.length-k,trivial,fun _=>⟨trivial,fun _=>⟨⟨0,by omega,fun j _ h=>by omega⟩,tI,Aj _ _,tI,Ai _ _⟩⟩,fun⟨k,hk,h0⟩=>?_⟩);(refine goI ?_;repeat (intro gg;refine goI ?_));rw[hlm];(refine Ab (fun g5=>?_) (fun g5=>?_)<;>rw[g5])
       ·have hlt:k<p.ms.length:=by have:=ZV g5;omega
        (refine goI ?_;repeat (intro gg;refine goI ?_));refine⟨k,_,rfl,Ap hlt,?_⟩;(refine goI ?_;repeat (intro gg;refine goI ?_));refine .inl (cX (Yp (p.ms[k]) (h.ms _ (ZK hlt))) ?_);(refine goI ?_;repeat (intro gg;refine goI ?_));(refine Ab (fun g6=>?_) (fun g6=>?_)<;>rw[g6])
        ·have g6':(p.ms[k]).err≠0:=by simpa using g6
         have e1:=Br (e:=Mb.err) hlt h0 g6';rw[N0 g4' (by rw[e1];exact g6'),e1];(refine goI ?_;repeat (intro gg;refine goI ?_));(exact⟨[],aI⟩)
        ·have g6':(p.ms[k]).err=0:=by simpa using g6
         (refine goI ?_;repeat (intro gg;refine goI ?_));(exact⟨none,trivial,fun _=>⟨⟨k+1,by omega,up1 (p:=fun j h=>(p.ms[j]).err=0) h0 (fun _=>g6')⟩,by show p.ms.length-(k+1)<p.ms.length-k;omega,tI,tI,tI,tI⟩⟩)
       ·have hge:¬k<p.ms.length:=by have:=ZW g5;omega
        have hz:=Bc (e:=Mb.err) (l:=p.ms) (fun i hi=>h0 i hi (by omega));(refine goI ?_;repeat (intro gg;refine goI ?_));(refine⟨[],none,{k:Nat//k≤p.ms.length∧∀i,(h:i<p.ms.length)→i<k→∀j,(g:j<i)→(p.ms[j]).n≠(p.ms[i]).n},[1],fun⟨k,hk,h0⟩=>[(6,.v (.int .i64 k))],[16],fun⟨k,hk,h0⟩=>[],fun⟨k,hk,h0⟩=>p.ms.length-k,trivial,fun _=>⟨trivial,fun _=>⟨⟨0,by omega,fun j _ h=>by omega⟩,tI,Aj _ _,tI,Ai _ _⟩⟩,fun⟨k,hk,h0⟩=>?_⟩);(refine goI ?_;repeat (intro gg;refine goI ?_));rw[hlm];(refine Ab (fun g7=>?_) (fun g7=>?_)<;>rw[g7])
        ·have hlt:k<p.ms.length:=by have:=ZV g7;omega
         (refine goI ?_;repeat (intro gg;refine goI ?_));(refine⟨[],none,{q:Nat//q≤k∧∀j,(h:j<k)→j<q→(p.ms[j]).n≠(p.ms[k]).n},[1,6],fun⟨q,hq,h0'⟩=>[(7,.v (.int .i64 q))],[16],fun⟨q,hq,h0'⟩=>[],fun⟨q,hq,h0'⟩=>k-q,trivial,fun _=>⟨trivial,fun _=>⟨⟨0,by omega,fun j _ h=>by omega⟩,tI,Aj _ _,tI,Ai _ _⟩⟩,fun⟨q,hq,h0'⟩=>?_⟩);(refine goI ?_;repeat (intro gg;refine goI ?_));(refine Ab (fun g8=>?_) (fun g8=>?_)<;>rw[g8])
         ·have hqk:q<k:=by have:=ZV g8;omega
          have hql:q<p.ms.length:=by omega
          (refine goI ?_;repeat (intro gg;refine goI ?_));refine⟨q,_,rfl,Ap hql,?_⟩;(refine goI ?_;repeat (intro gg;refine goI ?_));refine⟨k,_,rfl,Ap hlt,?_⟩;(refine goI ?_;repeat (intro gg;refine goI ?_));(refine Ab (fun g9=>?_) (fun g9=>?_)<;>rw[g9])
          ·have g9':(p.ms[q]).n=(p.ms[k]).n:=toList_inj (ZR.1 g9);rw[Vf g4' hz (fun hn=>by
            have:=(List.pairwise_iff_getElem.1 hn) q k (by simpa using hql) (by simpa using hlt) hqk;simp only[XQ]at this;exact this g9')]
           (refine goI ?_;repeat (intro gg;refine goI ?_));(exact⟨[],aI⟩)
          ·have g9':(p.ms[q]).n≠(p.ms[k]).n:=fun e=>by rw[e,beq_self_eq_true]at g9;cases g9
           (refine goI ?_;repeat (intro gg;refine goI ?_));(exact⟨none,trivial,fun _=>⟨⟨q+1,by omega,up1 (p:=fun j h=>(p.ms[j]).n≠(p.ms[k]).n) h0' (fun _=>g9')⟩,by show k-(q+1)<k-q;omega,tI,tI,tI,tI⟩⟩)
         ·have hqk:¬q<k:=by have:=ZW g8;omega
          (refine goI ?_;repeat (intro gg;refine goI ?_));(exact⟨none,trivial,fun _=>⟨⟨k+1,by omega,up1 (p:=fun i h=>∀j,(g:j<i)→(p.ms[j]).n≠(p.ms[i]).n) h0 (fun _ j g=>h0' j g (by omega))⟩,by show p.ms.length-(k+1)<p.ms.length-k;omega,tI,tI,tI,tI⟩⟩)
        ·have hge:¬k<p.ms.length:=by have:=ZW g7;omega
         rw[Ub g4' hz (List.pairwise_iff_getElem.2 fun i j hi hj hij=>by
          simp only[XQ];exact h0 j (by simpa using hj) (by simp at hj;omega) i hij)]
         (refine goI ?_;repeat (intro gg;refine goI ?_));(exact⟨[],aI⟩)
namespace Pl
def pk1:Pk:=⟨⟨#[97]⟩,false,[],[],[],[]⟩
theorem Si:pk1.err=0:=by
 rw[Pk.err_few (p:=pk1) (by decide) rfl rfl];exact Ub (l:=[]) (by decide) rfl List.Pairwise.nil
theorem Aji[Glob][Tabs]:pk1.ok:=Pk.okB_ok (Pk.sm Si).okB
theorem Vk:bA (pkB pk1)=⟨#[49,59,97,48,59,48,59,48,59,48,59,48,59]⟩:=by
 have h0:A8 0=[48,59]:=by unfold A8 Go.Lib.itoa;simp[Go.Lib.decDigits_one]
 have h1:A8 1=[49,59]:=by unfold A8 Go.Lib.itoa;simp[Go.Lib.decDigits_one]
 have e:pkB pk1=[49,59,97,48,59,48,59,48,59,48,59,48,59]:=by
  simp[pkB,Tf,Fh,E5,pk1,h0,h1,ByteArray.size]
 rw[e];rfl
theorem Pk.Sm.sh{p:Pk}(h:Pk.Sm p):Pk.sh p:=⟨by have:=h.msl;omega,by have:=h.svl;omega,by have:=h.gsl;omega,by have:=h.whl;omega⟩
end Pl
theorem Gc[Glob][Tabs]:Fun Tryz.prog 9 [] [.c (.v (.bool true))]:=by
 have hW:=Gs pk1 Aji;rw[Si,show Ux pk1=bA (pkB pk1)from if_pos Si]at hW;have hR:=K9 (bA (pkB pk1)) (by rw[Vk];decide);rw[Vu Si]at hR;rw[Vk]at hW hR;refine A9 I1 rfl ?_;(refine goI ?_;repeat (intro gg;refine goI ?_));refine .inl (cY hW ?_);(refine goI ?_;repeat (intro gg;refine goI ?_));refine .inl (cX hR ?_);(refine goI ?_;repeat (intro gg;refine goI ?_));rw[beq_self_eq_true];(refine goI ?_;repeat (intro gg;refine goI ?_));rw[show(pk1.fr.toList==(⟨#[97]⟩:ByteArray).toList)=true from beq_self_eq_true _];(refine goI ?_;repeat (intro gg;refine goI ?_));(exact⟨[],aI⟩)
theorem Mp[Glob](n:Int)(h0:0≤n)(h1:n≤9223372036854775807):Fun Tryz.prog 24 [.c (.v (.int .i64 n))] [.c (.v (.string (bA (A8 n))))]:=by
 obtain⟨u,rfl⟩:=Int.eq_ofNat_of_zero_le h0;refine A9 Dw rfl ?_;(refine goI ?_;repeat (intro gg;refine goI ?_));(refine⟨[],none,{p:Nat×List UInt8//p.1≤u∧Lib.decDigits p.1++p.2=A8 (u:Int)},[],fun⟨⟨m,acc⟩,hm,hA⟩=>[(0,.v (.int .i64 (m:Int))),(4,.v (.string (bA acc)))],[],fun⟨⟨m,acc⟩,hm,hA⟩=>[],fun⟨⟨m,acc⟩,hm,hA⟩=>m,trivial,fun _=>⟨trivial,fun _=>⟨⟨(u,[59]),ZT _,by simp[A8,Lib.itoa]⟩,tI,Aj _ _,?_,Ai _ _⟩⟩,fun⟨⟨m,acc⟩,hm,hA⟩=>?_⟩;focus (exact trivial));(refine goI ?_;repeat (intro gg;refine goI ?_));refine⟨by decide,((m%10:Nat):Int),(Int.ofNat_tmod m 10).symm,?_⟩;(refine goI ?_;repeat (intro gg;refine goI ?_));refine⟨((48+m%10:Nat):Int),by show(48+((m%10:Nat):Int))%256=_;omega,?_⟩;(refine goI ?_;repeat (intro gg;refine goI ?_));refine⟨[((48+m%10:Nat):Int)],rfl,?_⟩;(refine goI ?_;repeat (intro gg;refine goI ?_));have hnl:=Av (n:=(u:Int)) ⟨by omega,by omega⟩;have hal:acc.length≤22:=by
  have h:=congrArg List.length hA;simp only[ZF]at h;omega
 obtain⟨d,hd⟩:∃d,d=UInt8.ofNat (48+m%10):=⟨_,rfl⟩;have e3:Vo [((48+m%10:Nat):Int)]++bA acc=bA (d::acc):=by
  rw[hd];have h:Vo [((48+m%10:Nat):Int)]=bA [UInt8.ofNat (48+m%10)]:=by unfold Vo;rw[List.map_cons,Int.toNat_natCast];rfl
  rw[h];apply ByteArray.ext;simp[bA]
 refine⟨by rw[Ax];show((1+acc.length:Nat):Int)≤_;omega,?_⟩;rw[e3];(refine goI ?_;repeat (intro gg;refine goI ?_));refine⟨by decide,((m/10:Nat):Int),by rw[show((m:Int)).tdiv 10=((m/10:Nat):Int)from(Int.ofNat_tdiv m 10).symm];exact Jf (by omega) (by omega),?_⟩;(refine goI ?_;repeat (intro gg;refine goI ?_));have hA':Lib.decDigits m++acc=A8 (u:Int):=hA;by_cases hz:m/10=0
 ·have hA2:d::acc=A8 (u:Int):=by
   rw[hd,←hA',Lib.decDigits_one (show m<10 by omega),show m%10=m by omega];rfl
  rw[hz,hA2];(refine goI ?_;repeat (intro gg;refine goI ?_));(exact⟨[],aI⟩)
 ·have hN:Lib.decDigits (m/10)++d::acc=A8 (u:Int):=by
   rw[hd,←hA']
   conv=>rhs;rw[Lib.decDigits,dif_neg (show¬m<10 by omega)]
   simp
  rw[show(((m/10:Nat):Int)==0)=false from beq_false_of_ne (by omega)];(refine goI ?_;repeat (intro gg;refine goI ?_));(exact⟨none,trivial,fun gr=>⟨⟨(m/10,d::acc),by show m/10≤u;have:m≤u:=hm;omega,hN⟩,by show m/10<m;omega,tI,tI,trivial,tI⟩⟩)
namespace Pl
theorem Yr(u:Nat)(h:1≤u):A8 (-(u:Int))=45::(Lib.decDigits u++[59]):=by
 unfold A8 Lib.itoa;rw[if_pos (by omega)];simp
theorem Ps(u:Nat):A8 (u:Int)=Lib.decDigits u++[59]:=by
 unfold A8 Lib.itoa;rw[if_neg (by omega)];simp
theorem Fv(a b:List UInt8):bA a++bA b=bA (a++b):=by
 apply ByteArray.ext;simp[bA]
end Pl
theorem Cv[Glob](n:Int)(h:isI n):Fun Tryz.prog 24 [.c (.v (.int .i64 n))] [.c (.v (.string (bA (A8 n))))]:=by
 obtain⟨h0,h1⟩:=h;by_cases hn:0≤n
 ·exact Mp n hn h1
 obtain⟨u,hu⟩:∃u:Nat,n= -(u:Int):=⟨n.natAbs,by omega⟩;subst hu;have hu1:1≤u:=by omega
 have e45:(⟨#[45]⟩:ByteArray)=bA [45]:=rfl;by_cases hs:u<10
 ·have hD:=Mp (u:Int) (by omega) (by omega);have hl:=Av (n:=(u:Int)) ⟨by omega,by omega⟩;have hR:(⟨#[45]⟩:ByteArray)++bA (A8 (u:Int))=bA (A8 (-(u:Int))):=by rw[e45,Fv,Yr u hu1,Ps];rfl
  refine A9 Dw rfl ?_;(refine goI ?_;repeat (intro gg;refine goI ?_));rw[ZX (show -(u:Int)<0 by omega)];(refine goI ?_;repeat (intro gg;refine goI ?_));rw[ZX (show(-10:Int)< -(u:Int)by omega)];(refine goI ?_;repeat (intro gg;refine goI ?_));rw[show(0:Int) - -(u:Int)=(u:Int)by omega];refine .inl (cX hD ?_);(refine goI ?_;repeat (intro gg;refine goI ?_));refine⟨by show((1+(bA (A8 (u:Int))).size:Nat):Int)≤_;rw[Ax];omega,?_⟩;rw[hR];(refine goI ?_;repeat (intro gg;refine goI ?_));(exact⟨[],aI⟩)
 ·have hD:=Mp ((u/10:Nat):Int) (by omega) (by omega);have hE:=Mp ((u%10:Nat):Int) (by omega) (by omega);have hl:=Av (n:=((u/10:Nat):Int)) ⟨by omega,by omega⟩;have hl2:=Av (n:=((u%10:Nat):Int)) ⟨by omega,by omega⟩;have hR:(⟨#[45]⟩:ByteArray)++(bA (A8 ((u/10:Nat):Int))).extract 0 (Lib.decDigits (u/10)).length++bA (A8 ((u%10:Nat):Int))=bA (A8 (-(u:Int))):=by
   rw[e45,Ek,Fv,Fv,Yr u hu1,Ps,Ps,List.drop_zero,List.take_left]
   conv=>rhs;rw[Lib.decDigits,dif_neg hs]
   rw[Lib.decDigits_one (show u%10<10 by omega)];congr 1;simp
  have hz:(A8 ((u/10:Nat):Int)).length=(Lib.decDigits (u/10)).length+1:=by rw[Ps];simp
  refine A9 Dw rfl ?_;(refine goI ?_;repeat (intro gg;refine goI ?_));rw[ZX (show -(u:Int)<0 by omega)];(refine goI ?_;repeat (intro gg;refine goI ?_));rw[ZY (show¬(-10:Int)< -(u:Int)by omega)];(refine goI ?_;repeat (intro gg;refine goI ?_));rw[ZX (show -(u:Int)<0 by omega)];(refine goI ?_;repeat (intro gg;refine goI ?_));refine⟨by decide,-((u/10:Nat):Int),by rw[Int.neg_tdiv,show((u:Int)).tdiv 10=((u/10:Nat):Int)from(Int.ofNat_tdiv u 10).symm];exact Jf (by omega) (by omega),?_⟩;(refine goI ?_;repeat (intro gg;refine goI ?_));rw[show(0:Int) - -((u/10:Nat):Int)=((u/10:Nat):Int)by omega];refine .inl (cX hD ?_);(refine goI ?_;repeat (intro gg;refine goI ?_));refine⟨((Lib.decDigits (u/10)).length:Int),by rw[Ax,hz,show(((Lib.decDigits (u/10)).length+1:Nat):Int)-1=((Lib.decDigits (u/10)).length:Int)by omega];exact Jf (by omega) (by omega),?_⟩;(refine goI ?_;repeat (intro gg;refine goI ?_));refine⟨0,(Lib.decDigits (u/10)).length,rfl,⟨_,rfl⟩,by omega,by rw[Ax,hz];omega,?_⟩;(refine goI ?_;repeat (intro gg;refine goI ?_));have hx:((bA (A8 ((u/10:Nat):Int))).extract 0 (Lib.decDigits (u/10)).length).size≤22:=by rw[ByteArray.size_extract,Ax];omega
  refine⟨by show((1+((bA (A8 ((u/10:Nat):Int))).extract 0 (Lib.decDigits (u/10)).length).size:Nat):Int)≤_;omega,?_⟩;(refine goI ?_;repeat (intro gg;refine goI ?_));refine⟨by decide,-((u%10:Nat):Int),by rw[Int.neg_tmod,show((u:Int)).tmod 10=((u%10:Nat):Int)from(Int.ofNat_tmod u 10).symm],?_⟩;(refine goI ?_;repeat (intro gg;refine goI ?_));rw[show(0:Int) - -((u%10:Nat):Int)=((u%10:Nat):Int)by omega];(refine⟨_,_,false,aI,hE,Ak,nI,?_⟩);(refine goI ?_;repeat (intro gg;refine goI ?_));refine⟨by rw[XP,Ax];show((1+((bA (A8 ((u/10:Nat):Int))).extract 0 (Lib.decDigits (u/10)).length).size+_:Nat):Int)≤_;omega,?_⟩;rw[hR];(refine goI ?_;repeat (intro gg;refine goI ?_));(exact⟨[],aI⟩)
abbrev cuT:TypeId:=69
def cuC(s:ByteArray)(c:Cu):List Par:=[.c (.v (.string s)),.c (.v (.int .i64 (c.1:Int))),.c (.v (.bool c.2))]
theorem Ahk(s:ByteArray)(a:Nat):a≤El s a:=by unfold El M2;split<;>omega
theorem Yj:∀(l:List UInt8) (n:Nat),(Gh n l).2≤l.length
 |[],n=>ZT _
 |c::r,n=>by
  unfold Gh;split
  ·have:=Yj r (10*n+c.toNat-48);simp only[ZJ];omega
  ·exact ZU _
theorem Afb{s:ByteArray}{i:Nat}(h:i<s.size):∃c,s[i]? =some c∧s.data.toList[i]? =some c:=⟨s[i],by simp[h],by
 have h':i<s.data.size:=h;rw[Array.getElem?_toList,Array.getElem?_eq_getElem h'];rfl⟩
theorem Ac2{s:ByteArray}{i:Nat}(h:¬i<s.size):s.data.toList[i]? =none:=XK (by rw[Array.length_toList];show s.size≤i;omega)
theorem Aba{x y:ByteArray}(h:x=y):(!x.toList==y.toList)=false:=by rw[h];simp
theorem Abv{x y:ByteArray}(h:x≠y):(!x.toList==y.toList)=true:=by
 rw[Bool.not_eq_true',ZG];intro q;rw[ByteArray.toList_eq,ByteArray.toList_eq]at q;exact h (ByteArray.ext (Array.ext' q))
theorem Akc(c:UInt8):(((c.toNat:Nat):Int)==45)=decide (c=45):=by
 rw[Bool.eq_iff_iff,ZR,decide_eq_true_iff];exact⟨fun h=>UInt8.toNat_inj.1 (show c.toNat=45 by omega),fun h=>by rw[h];rfl⟩
theorem h10:(0:Int)<10995116277770:=by decide
theorem Afy{l:List UInt8}{i:Nat}{c:UInt8}(h:l[i]? =some c):l.drop i=c::l.drop (i+1):=by
 obtain⟨h1,h2⟩:=ZB.1 h;rw[List.drop_eq_getElem_cons h1,h2]
theorem Xb{s:ByteArray}{a:Nat}(h:a≤s.size):M2 s a≤s.size:=by
 unfold M2;split
 ·rename_i hn;by_cases hlt:a<s.size
  ·omega
  ·unfold N5 at hn;rw[Ac2 hlt]at hn;cases hn
 ·exact h
theorem Aat{s:ByteArray}{a:Nat}(h:a≤s.size):El s a≤s.size:=by
 have h1:=Xb h;have h2:=Yj (s.data.toList.drop (M2 s a)) 0;rw[List.length_drop,Array.length_toList]at h2;have h3:s.data.size=s.size:=rfl;unfold El scA;omega
def Al7:Ag:=Dx [true,true,false] (Dx [true,true,true,false] (Dx [true,true,true,true,true,false] D2))
theorem Ki{s:ByteArray}{c:Cu}(h:c.2=true∨s.size≤El s c.1∨s.extract c.1 (El s c.1+1)≠bA (A8 (Jw s c.1))):Bf s c=(0,(El s c.1,true)):=if_pos h
theorem Vp{s:ByteArray}{c:Cu}(h:¬(c.2=true∨s.size≤El s c.1∨s.extract c.1 (El s c.1+1)≠bA (A8 (Jw s c.1)))):Bf s c=(Jw s c.1,(El s c.1+1,false)):=if_neg h
theorem Tu{s:ByteArray}{a p:Nat}{W:Int}(hp:p=El s a)(hw:W=Jw s a)(h1:¬s.size≤p)(h2:s.extract a (p+1)=bA (A8 W)):Bf s (a,false)=(W,(p+1,false)):=by
 subst hp hw;exact Vp (fun h=>h.elim (fun h=>Bool.noConfusion h) fun h=>h.elim h1 fun h=>h h2)
theorem Wa{s:ByteArray}{a p:Nat}{W:Int}(hp:p=El s a)(hw:W=Jw s a)(h2:s.extract a (p+1)≠bA (A8 W)):Bf s (a,false)=(0,(p,true)):=by
 subst hp hw;exact Ki (.inr (.inr h2))
theorem Agq:Cr Tryz.prog 36 1=some (D2,[(2,none)]):=by kernel_rfl
set_option maxHeartbeats 4000000 in
theorem Cp[Glob](s:ByteArray)(a:Nat)(b:Bool)(hs:s.size≤1000000000000)(ha:a≤s.size):E8 Tryz.prog 36 [.mn cuT (cuC s (a,b)) (cuC s (Bf s (a,b)).2)] [.p (.c (.v (.int .i64 (Bf s (a,b)).1)))]:=by
 refine Ys Agq (rcD:=Al7) (by rfl) rfl (N3 rfl) ?_;(refine goI ?_;repeat (intro gg;refine goI ?_));refine⟨Unit,[0,2,3],fun _=>[(4,.v (.bool (N5 s a)))],[0],fun _=>[],?_,fun _=>?_⟩
 ·(refine goI ?_;repeat (intro gg;refine goI ?_));by_cases hlt:a<s.size
  ·rw[ZX (show(((a,b):Cu).1:Int)<(s.size:Int)from by show(a:Int)<_;omega)];obtain⟨c,hc1,hc2⟩:=Afb hlt;have e1:N5 s a=decide (c=45):=by unfold N5;rw[hc2];simp
   rw[e1];(refine goI ?_;repeat (intro gg;refine goI ?_));refine⟨a,c,rfl,hc1,?_⟩;(refine goI ?_;repeat (intro gg;refine goI ?_));rw[Akc c];(exact⟨(),tI,tI,tI,tI⟩)
  ·rw[ZY (show¬(((a,b):Cu).1:Int)<(s.size:Int)from by show¬(a:Int)<_;omega)];have e1:N5 s a=false:=by unfold N5;rw[Ac2 hlt];rfl
   rw[e1];(refine goI ?_;repeat (intro gg;refine goI ?_));(exact⟨(),tI,tI,tI,tI⟩)
 (refine goI ?_;repeat (intro gg;refine goI ?_));refine⟨Unit,[0,2,3,4],fun _=>[],[],fun _=>[(0,⟨0,.b cuT,3,[[.v (.string s),.v (.int .i64 ((M2 s a:Nat):Int)),.v (.bool b)]]⟩)],?_,fun _=>?_⟩
 ·(refine goI ?_;repeat (intro gg;refine goI ?_));cases hn:N5 s a with
  |true=>
   have e1:M2 s a=a+1:=by unfold M2;rw[hn];rfl
   rw[e1];have hlt:a<s.size:=by
    have:=Xb ha;omega
   (refine goI ?_;repeat (intro gg;refine goI ?_));(exact⟨(),tI,tI,tI,tI⟩)
  |false=>
   have e1:M2 s a=a:=by unfold M2;rw[hn];rfl
   rw[e1];(refine goI ?_;repeat (intro gg;refine goI ?_));(exact⟨(),tI,tI,tI,tI⟩)
 (refine goI ?_;repeat (intro gg;refine goI ?_));refine⟨{q:Int×Nat//q.1=((scA s a).1:Int)∧q.2=El s a},[0,2,3,4],fun x=>[(5,.v (.int .i64 x.1.1))],[],fun x=>[(0,⟨0,.b cuT,3,[[.v (.string s),.v (.int .i64 ((x.1.2:Nat):Int)),.v (.bool b)]]⟩)],?_,fun x=>?_⟩
 ·(refine goI ?_;repeat (intro gg;refine goI ?_));(refine⟨[],none,{q:Int×Nat//q.2≤s.size∧(0≤q.1∧q.1<10995116277770)∧(Gh q.1.toNat (s.data.toList.drop q.2)).1=(scA s a).1∧q.2+(Gh q.1.toNat (s.data.toList.drop q.2)).2=El s a},[0,2,3,4],fun⟨⟨v,p⟩,hp,hn,h1,h2⟩=>[(5,.v (.int .i64 v))],[],fun⟨⟨v,p⟩,hp,hn,h1,h2⟩=>[(0,⟨0,.b cuT,3,[[.v (.string s),.v (.int .i64 ((p:Nat):Int)),.v (.bool b)]]⟩)],fun⟨⟨v,p⟩,hp,hn,h1,h2⟩=>s.size-p,trivial,fun _=>⟨trivial,fun _=>⟨⟨(0,M2 s a),Xb ha,⟨Int.le_refl _,h10⟩,rfl,rfl⟩,tI,Aj _ _,?_,Ai _ _⟩⟩,fun⟨⟨v,p⟩,hp,hn,h1,h2⟩=>?_⟩;focus (exact⟨rfl,trivial⟩));have hp:p≤s.size:=hp;obtain⟨hn0,hn⟩:0≤v∧v<10995116277770:=hn;have h1:(Gh v.toNat (s.data.toList.drop p)).1=(scA s a).1:=h1;have h2:p+(Gh v.toNat (s.data.toList.drop p)).2=El s a:=h2;(refine goI ?_;repeat (intro gg;refine goI ?_));by_cases hlt:p<s.size
  ·rw[ZX (show(p:Int)<(s.size:Int)from by omega)];obtain⟨c,hc1,hc2⟩:=Afb hlt;rw[Afy hc2,Gh]at h1 h2;have hc256:c.toNat<256:=c.toNat_lt;(refine goI ?_;repeat (intro gg;refine goI ?_));refine⟨p,c,rfl,hc1,?_⟩;(refine goI ?_;repeat (intro gg;refine goI ?_));by_cases d1:48≤c.toNat
   ·rw[ZX (show(48:Int)≤(c.toNat:Int)from by omega)];(refine goI ?_;repeat (intro gg;refine goI ?_));refine⟨p,c,rfl,hc1,?_⟩;(refine goI ?_;repeat (intro gg;refine goI ?_));by_cases d2:c.toNat≤57
    ·rw[ZX (show(c.toNat:Int)≤(57:Int)from by omega)];(refine goI ?_;repeat (intro gg;refine goI ?_));by_cases d3:v<1099511627776
     ·rw[ZX d3];rw[if_pos ⟨⟨d1,d2⟩,by omega⟩]at h1 h2;(refine goI ?_;repeat (intro gg;refine goI ?_));refine⟨p,c,rfl,hc1,?_⟩;(refine goI ?_;repeat (intro gg;refine goI ?_));have e3:10*v.toNat+c.toNat-48=(10*v+(c.toNat:Int)-48).toNat:=by omega
      rw[e3]at h1 h2;(exact⟨none,trivial,fun gr=>⟨⟨(10*v+(c.toNat:Int)-48,p+1),by show p+1≤s.size;omega,⟨by show 0≤10*v+(c.toNat:Int)-48;omega,by show 10*v+(c.toNat:Int)-48<10995116277770;omega⟩,h1,by rw[←h2];show p+1+(Gh (10*v+(c.toNat:Int)-48).toNat (s.data.toList.drop (p+1))).2=_;omega⟩,by show s.size-(p+1)<s.size-p;omega,tI,tI,⟨rfl,trivial⟩,tI⟩⟩)
     ·rw[ZY d3];rw[if_neg (fun h=>d3 (by omega))]at h1 h2;(refine goI ?_;repeat (intro gg;refine goI ?_));exact⟨⟨(v,p),by show v=_;rw[←h1];show v=(v.toNat:Int);omega,h2⟩,tI,tI,tI,tI⟩
    ·rw[ZY (show¬(c.toNat:Int)≤(57:Int)from by omega)];rw[if_neg (fun h=>d2 h.1.2)]at h1 h2;(refine goI ?_;repeat (intro gg;refine goI ?_));exact⟨⟨(v,p),by show v=_;rw[←h1];show v=(v.toNat:Int);omega,h2⟩,tI,tI,tI,tI⟩
   ·rw[ZY (show¬(48:Int)≤(c.toNat:Int)from by omega)];rw[if_neg (fun h=>d1 h.1.1)]at h1 h2;(refine goI ?_;repeat (intro gg;refine goI ?_));exact⟨⟨(v,p),by show v=_;rw[←h1];show v=(v.toNat:Int);omega,h2⟩,tI,tI,tI,tI⟩
  ·rw[ZY (show¬(p:Int)<(s.size:Int)from by omega)];rw[List.drop_eq_nil_of_le (by rw[Array.length_toList];show s.size≤p;omega),Gh]at h1 h2;(refine goI ?_;repeat (intro gg;refine goI ?_));exact⟨⟨(v,p),by show v=_;rw[←h1];show v=(v.toNat:Int);omega,h2⟩,tI,tI,tI,tI⟩
 have q1:x.1.1=((scA s a).1:Int):=x.2.1;have q2:x.1.2=El s a:=x.2.2;(refine goI ?_;repeat (intro gg;refine goI ?_));have hsc:(scA s a).1<10995116277770:=Ug _ _ (by decide);have hel:=Aat ha;have hge:=Ahk s a;cases hn:N5 s a with
 |true=>
  have e1:Jw s a= -((scA s a).1:Int):=by unfold Jw;rw[hn];rfl
  (refine goI ?_;repeat (intro gg;refine goI ?_));have hw:0-x.1.1=Jw s a:=by omega
  have hi:isI (Jw s a):=by unfold isI;omega
  (refine goI ?_;repeat (intro gg;refine goI ?_));cases b with
  |true=>
   have e9:Bf s (a,true)=(0,(x.1.2,true)):=by rw[Ki (.inl rfl),q2]
   rw[e9];(refine goI ?_;repeat (intro gg;refine goI ?_));(exact⟨_,0::([]++[]),.tmp .nil,B7 (De rfl) (D7 (gone:=[]) (gone1:=[]) rfl aI (by decide) (by decide) (by decide) (.nil _))⟩)
  |false=>
   (refine goI ?_;repeat (intro gg;refine goI ?_));by_cases h1:s.size≤x.1.2
   ·have e9:Bf s (a,false)=(0,(x.1.2,true)):=by rw[Ki (.inr (.inl (q2▸h1))),q2]
    rw[e9,ZX (show(s.size:Int)≤(x.1.2:Int)from by omega)];(refine goI ?_;repeat (intro gg;refine goI ?_));(exact⟨_,0::([]++[]),.tmp .nil,B7 (De rfl) (D7 (gone:=[]) (gone1:=[]) rfl aI (by decide) (by decide) (by decide) (.nil _))⟩)
   ·rw[ZY (show¬(s.size:Int)≤(x.1.2:Int)from by omega)];(refine goI ?_;repeat (intro gg;refine goI ?_));refine⟨a,x.1.2+1,⟨_,rfl⟩,⟨_,rfl⟩,by omega,by omega,?_⟩;(refine goI ?_;repeat (intro gg;refine goI ?_));have hD:=Cv (0-x.1.1) (hw▸hi);(refine⟨_,_,false,aI,hD,Ak,nI,?_⟩);(refine goI ?_;repeat (intro gg;refine goI ?_));by_cases h2:s.extract a (x.1.2+1)=bA (A8 (0-x.1.1))
    ·have e9:Bf s (a,false)=(0-x.1.1,(x.1.2+1,false)):=Tu q2 hw h1 h2;rw[e9,Aba h2];(refine goI ?_;repeat (intro gg;refine goI ?_));(exact⟨_,0::([]++[]),.tmp .nil,B7 (De rfl) (D7 (gone:=[]) (gone1:=[]) rfl aI (by decide) (by decide) (by decide) (.nil _))⟩)
    ·have e9:Bf s (a,false)=(0,(x.1.2,true)):=Wa q2 hw h2;rw[e9,Abv h2];(refine goI ?_;repeat (intro gg;refine goI ?_));(exact⟨_,0::([]++[]),.tmp .nil,B7 (De rfl) (D7 (gone:=[]) (gone1:=[]) rfl aI (by decide) (by decide) (by decide) (.nil _))⟩)
 |false=>
  have e1:Jw s a=((scA s a).1:Int):=by unfold Jw;rw[hn];rfl
  have hw:x.1.1=Jw s a:=by omega
  have hi:isI (Jw s a):=by unfold isI;omega
  (refine goI ?_;repeat (intro gg;refine goI ?_));cases b with
  |true=>
   have e9:Bf s (a,true)=(0,(x.1.2,true)):=by rw[Ki (.inl rfl),q2]
   rw[e9];(refine goI ?_;repeat (intro gg;refine goI ?_));(exact⟨_,0::([]++[]),.tmp .nil,B7 (De rfl) (D7 (gone:=[]) (gone1:=[]) rfl aI (by decide) (by decide) (by decide) (.nil _))⟩)
  |false=>
   (refine goI ?_;repeat (intro gg;refine goI ?_));by_cases h1:s.size≤x.1.2
   ·have e9:Bf s (a,false)=(0,(x.1.2,true)):=by rw[Ki (.inr (.inl (q2▸h1))),q2]
    rw[e9,ZX (show(s.size:Int)≤(x.1.2:Int)from by omega)];(refine goI ?_;repeat (intro gg;refine goI ?_));(exact⟨_,0::([]++[]),.tmp .nil,B7 (De rfl) (D7 (gone:=[]) (gone1:=[]) rfl aI (by decide) (by decide) (by decide) (.nil _))⟩)
   ·rw[ZY (show¬(s.size:Int)≤(x.1.2:Int)from by omega)];(refine goI ?_;repeat (intro gg;refine goI ?_));refine⟨a,x.1.2+1,⟨_,rfl⟩,⟨_,rfl⟩,by omega,by omega,?_⟩;(refine goI ?_;repeat (intro gg;refine goI ?_));have hD:=Cv (x.1.1) (hw▸hi);(refine⟨_,_,false,aI,hD,Ak,nI,?_⟩);(refine goI ?_;repeat (intro gg;refine goI ?_));by_cases h2:s.extract a (x.1.2+1)=bA (A8 (x.1.1))
    ·have e9:Bf s (a,false)=(x.1.1,(x.1.2+1,false)):=Tu q2 hw h1 h2;rw[e9,Aba h2];(refine goI ?_;repeat (intro gg;refine goI ?_));(exact⟨_,0::([]++[]),.tmp .nil,B7 (De rfl) (D7 (gone:=[]) (gone1:=[]) rfl aI (by decide) (by decide) (by decide) (.nil _))⟩)
    ·have e9:Bf s (a,false)=(0,(x.1.2,true)):=Wa q2 hw h2;rw[e9,Abv h2];(refine goI ?_;repeat (intro gg;refine goI ?_));(exact⟨_,0::([]++[]),.tmp .nil,B7 (De rfl) (D7 (gone:=[]) (gone1:=[]) rfl aI (by decide) (by decide) (by decide) (.nil _))⟩)
theorem C7{s:ByteArray}{a:Nat}{b:Bool}(ha:a≤s.size):(Bf s (a,b)).2.1≤s.size:=by
 have:=Aat ha;by_cases h:b=true∨s.size≤El s a∨s.extract a (El s a+1)≠bA (A8 (Jw s a))
 ·rw[Ki (c:=(a,b)) h];exact this
 ·rw[Vp (c:=(a,b)) h];have h2:¬s.size≤El s a:=fun q=>h (.inr (.inl q));show El s a+1≤s.size;omega
theorem Aau{s:ByteArray}{c:Cu}{n:Int}{p:Nat}{bd:Bool}(h:Bf s c=(n,(p,bd))):Fo s c=if bd=true∨n<0∨(s.size:Int)-p<n then(⟨#[]⟩,(p,true))else(s.extract p (p+n.toNat),(p+n.toNat,false)):=by unfold Fo;rw[h]
theorem Ah2{s:ByteArray}{c:Cu}{n:Int}{p:Nat}{bd:Bool}(h:Bf s c=(n,(p,bd))):Mf s c=(decide (n=1),(p,(bd||decide (n<0)||decide (1<n)))):=by unfold Mf;rw[h]
theorem Abe{most:Int}{s:ByteArray}{c:Cu}{n:Int}{p:Nat}{bd:Bool}(h:Bf s c=(n,(p,bd))):J7 most s c=if bd=true∨n<0∨most<n then(0,(p,true))else(n.toNat,(p,bd)):=by unfold J7;rw[h]
set_option maxHeartbeats 4000000 in
theorem Gg[Glob](s:ByteArray)(a:Nat)(b:Bool)(hs:s.size≤1000000000000)(ha:a≤s.size):E8 Tryz.prog 33 [.mn cuT (cuC s (a,b)) (cuC s (Fo s (a,b)).2)] [.p (.c (.v (.string (Fo s (a,b)).1)))]:=by
 have hf:=Cp s a b hs ha;have hp:=C7 (b:=b) ha;obtain⟨⟨n,p,bd⟩,hN⟩:∃q,Bf s (a,b)=q:=⟨_,rfl⟩;rw[hN]at hf hp;rw[Aau hN];have hp:p≤s.size:=hp;refine L7 I2 rfl rfl (N3 rfl) ?_;(refine goI ?_;repeat (intro gg;refine goI ?_));(refine .inr (.inl ⟨_,_,false,0::([]++[]),?_,hf,Ak,oI,dI,?_⟩);focus (exact wI));(refine goI ?_;repeat (intro gg;refine goI ?_));cases bd with
 |true=>
  (refine goI ?_;repeat (intro gg;refine goI ?_));rw[if_pos (.inl rfl)];(exact⟨0::([]++[]),B7 (by first|exact De rfl|assumption) (D7 (gone:=[]) (gone1:=[]) rfl aI (by decide) (by decide) (by decide) (.nil _))⟩)
 |false=>
  (refine goI ?_;repeat (intro gg;refine goI ?_));by_cases h1:n<0
  ·rw[ZX h1,if_pos (.inr (.inl h1))];(refine goI ?_;repeat (intro gg;refine goI ?_));(exact⟨0::([]++[]),B7 (by first|exact De rfl|assumption) (D7 (gone:=[]) (gone1:=[]) rfl aI (by decide) (by decide) (by decide) (.nil _))⟩)
  ·obtain⟨k,rfl⟩:=Int.eq_ofNat_of_zero_le (show 0≤n by omega);rw[ZY h1];(refine goI ?_;repeat (intro gg;refine goI ?_));by_cases h2:(s.size:Int)-(p:Int)<(k:Int)
   ·rw[ZX h2,if_pos (.inr (.inr h2))];(refine goI ?_;repeat (intro gg;refine goI ?_));(exact⟨0::([]++[]),B7 (by first|exact De rfl|assumption) (D7 (gone:=[]) (gone1:=[]) rfl aI (by decide) (by decide) (by decide) (.nil _))⟩)
   ·rw[ZY h2,if_neg (fun h=>h.elim (fun h=>Bool.noConfusion h) fun h=>h.elim h1 h2),Int.toNat_natCast];(refine goI ?_;repeat (intro gg;refine goI ?_));refine⟨p,p+k,⟨_,congrArg (fun z=>V.v (.int .i64 z)) (show(p:Int)+(k:Int)-(k:Int)=(p:Int)by omega)⟩,⟨_,rfl⟩,by omega,by omega,?_⟩;(refine goI ?_;repeat (intro gg;refine goI ?_));(exact⟨0::([]++[]),B7 (by first|exact De rfl|assumption) (D7 (gone:=[]) (gone1:=[]) rfl aI (by decide) (by decide) (by decide) (.nil _))⟩)
set_option maxHeartbeats 4000000 in
theorem Oq[Glob](s:ByteArray)(a:Nat)(b:Bool)(hs:s.size≤1000000000000)(ha:a≤s.size):E8 Tryz.prog 34 [.mn cuT (cuC s (a,b)) (cuC s (Mf s (a,b)).2)] [.p (.c (.v (.bool (Mf s (a,b)).1)))]:=by
 have hf:=Cp s a b hs ha;obtain⟨⟨n,p,bd⟩,hN⟩:∃q,Bf s (a,b)=q:=⟨_,rfl⟩;rw[hN]at hf;rw[Ah2 hN];refine L7 Jz rfl rfl (N3 rfl) ?_;(refine goI ?_;repeat (intro gg;refine goI ?_));(refine .inr (.inl ⟨_,_,false,0::([]++[]),?_,hf,Ak,oI,dI,?_⟩);focus (exact wI));(refine goI ?_;repeat (intro gg;refine goI ?_));cases bd with
 |true=>
  (refine goI ?_;repeat (intro gg;refine goI ?_));(exact⟨0::([]++[]),B7 (by first|exact De rfl|assumption) (D7 (gone:=[]) (gone1:=[]) rfl aI (by decide) (by decide) (by decide) (.nil _))⟩)
 |false=>
  (refine goI ?_;repeat (intro gg;refine goI ?_));by_cases h1:n<0
  ·rw[ZX h1];(refine goI ?_;repeat (intro gg;refine goI ?_));(exact⟨0::([]++[]),B7 (by first|exact De rfl|assumption) (D7 (gone:=[]) (gone1:=[]) rfl aI (by decide) (by decide) (by decide) (.nil _))⟩)
  ·rw[ZY h1];(refine goI ?_;repeat (intro gg;refine goI ?_));(exact⟨0::([]++[]),B7 (by first|exact De rfl|assumption) (D7 (gone:=[]) (gone1:=[]) rfl aI (by decide) (by decide) (by decide) (.nil _))⟩)
set_option maxHeartbeats 4000000 in
theorem Pm[Glob](most:Int)(s:ByteArray)(a:Nat)(b:Bool)(hs:s.size≤1000000000000)(ha:a≤s.size):E8 Tryz.prog 35 [.mn cuT (cuC s (a,b)) (cuC s (J7 most s (a,b)).2),.p (.c (.v (.int .i64 most)))] [.p (.c (.v (.int .i64 ((J7 most s (a,b)).1:Nat))))]:=by
 have hf:=Cp s a b hs ha;obtain⟨⟨n,p,bd⟩,hN⟩:∃q,Bf s (a,b)=q:=⟨_,rfl⟩;rw[hN]at hf;rw[Abe hN];refine L7 Hx rfl rfl (N3 rfl) ?_;(refine goI ?_;repeat (intro gg;refine goI ?_));(refine .inr (.inl ⟨_,_,false,0::([]++[]),?_,hf,Ak,oI,dI,?_⟩);focus (exact wI));(refine goI ?_;repeat (intro gg;refine goI ?_));by_cases h1:n<0
 ·rw[ZX h1,if_pos (.inr (.inl h1))];(refine goI ?_;repeat (intro gg;refine goI ?_));(exact⟨0::([]++[]),B7 (by first|exact De rfl|assumption) (D7 (gone:=[]) (gone1:=[]) rfl aI (by decide) (by decide) (by decide) (.nil _))⟩)
 ·rw[ZY h1];(refine goI ?_;repeat (intro gg;refine goI ?_));by_cases h2:most<n
  ·rw[ZX h2,if_pos (.inr (.inr h2))];(refine goI ?_;repeat (intro gg;refine goI ?_));(exact⟨0::([]++[]),B7 (by first|exact De rfl|assumption) (D7 (gone:=[]) (gone1:=[]) rfl aI (by decide) (by decide) (by decide) (.nil _))⟩)
  ·rw[ZY h2];(refine goI ?_;repeat (intro gg;refine goI ?_));cases bd with
   |true=>
    rw[if_pos (.inl rfl)];(refine goI ?_;repeat (intro gg;refine goI ?_));(exact⟨0::([]++[]),B7 (by first|exact De rfl|assumption) (D7 (gone:=[]) (gone1:=[]) rfl aI (by decide) (by decide) (by decide) (.nil _))⟩)
   |false=>
    obtain⟨k,rfl⟩:=Int.eq_ofNat_of_zero_le (show 0≤n by omega);rw[if_neg (fun h=>h.elim (fun h=>Bool.noConfusion h) fun h=>h.elim h1 h2),Int.toNat_natCast];(refine goI ?_;repeat (intro gg;refine goI ?_));(exact⟨0::([]++[]),B7 (by first|exact De rfl|assumption) (D7 (gone:=[]) (gone1:=[]) rfl aI (by decide) (by decide) (by decide) (.nil _))⟩)
theorem Y8 [Glob] {P : Program} {f : FuncId} {fn : Func} {code : Code} {rc : Ag} {ps rs : List Par} {rts : List RT} (hf : P.funcs[f]? = some fn) (hb : fn.body = some code) (hname : (fn.name == "runtime.NumGoroutine") = false) (hres : Al P fn.ntmps code = some (Dj rc))
  (hlen:ps.length≤fn.ntmps) (hts:Lt P fn.results.toList=some rts) (h:wpv P rc (Ahy rts rs) (Vh ps)):Fun P f ps rs:=by
 refine⟨⟨fn,hf,hname,by rw[hb];rfl⟩,fun w R xs hlt hp hg=>?_⟩;refine calls_of_wp hf hb ?_;obtain⟨G0,hrel⟩:=Vl (n:=fn.ntmps) hlt hp hlen hg;refine wp_mono (Cb (c:=⟨w,R,A7 ps xs,fn.ntmps,noD,G0,hg⟩) rfl rc hres h hrel) fun e a' w' he=>?_;have fin:∀st,Al4 rts rs st→Rel ⟨w,R,A7 ps xs,fn.ntmps,noD,G0,hg⟩ st a' w'→a'.defers=[]∧∃v,(results fn a'.tmps).run P w'=.ok v w'∧∃(ys:List Value) (R':Nat→Prop),Ending.returned v=.returned (Db ys)∧Fr (A7 ps xs) w w'∧(∀b,R b→R' b)∧
   (∀b,R' b→R b∨(b<w'.heap.size∧(A7 ps xs b∨w.heap.size≤b)))∧N7 w' R' rs ys∧(∀b,A7 rs ys b→A7 ps xs b∨w.heap.size≤b):=fun st ⟨us,gone,hG,hA⟩ ⟨R2,G,hR⟩=>by
  obtain⟨zs,z1,z2,z3⟩:=Jq hR _ hts hG;refine⟨hR.defers,_,Ij z1,zs,RB R2 G st.H gone true,rfl,hR.fr,fun b hb=>.inl (hR.old b hb),?_,?_⟩
  ·rintro b (hb|⟨_,id,e,l,_,q1,q2,q3,q4⟩)
   ·rcases hR.src b hb with q|q
    ·exact .inl q
    ·exact .inr ⟨hR.lt b hb,q⟩
   ·exact .inr ⟨hR.hr.lt q1 q2 q3 q4,(hR.hr.mine id e l b q1 q2 q3 q4).2⟩
  ·obtain⟨h1,h2⟩:=F7 hR (bor0:=true) (xs:=zs) hA (fun e=>e) z2.symm (fun i u x h3 h4=>z3 i u x h3 h4) (fun id hid=>hid);refine⟨h1,fun b hb=>?_⟩;obtain⟨id,_,e,l,q1,q2,q3,q4⟩:=h2 b hb;exact(hR.hr.mine id e l b q1 q2 q3 q4).2
 cases e with
 |normal=>obtain⟨st,h1,h2⟩:=he;exact fin st h1 h2
 |ret=>obtain⟨st,h1,h2⟩:=he;exact fin st h1 h2
 |exit id=>obtain⟨st,h1,h2⟩:=he;exact h1.elim
 |goto l=>exact he.elim
 |panic ch=>obtain⟨v,_,h2,_⟩:=he;exact h2.elim
 |outgrown=>exact he.elim
theorem Adn[Glob]{P:Program}{f:FuncId}{np:Nat}{rc rcD:Ag}{ts:List RT}{ps rs:List Par}(hc:Cr P f np=some (rc,ts))(hs:Dj rcD=rc)(hn:ps.length=np)(h:wpv P rcD (Ahy ts rs) (Vh ps)):Fun P f ps rs:=by
 unfold Cr at hc;split at hc
 ·cases hc
 ·rename_i fn hf;split at hc
  ·cases hc
  ·rename_i code hb;split at hc
   ·cases hc
   ·rename_i hk;simp only[Bool.or_eq_true,not_or,Bool.not_eq_true',Bool.not_eq_true,decide_eq_false_iff_not,Classical.not_not]at hk;split at hc
    ·rename_i rc' ts' h1 h2;simp only[ZD,Prod.mk.injEq]at hc;obtain⟨rfl,rfl⟩:=hc;refine Y8 hf hb ?_ (h1.trans (by rw[hs])) ?_ h2 h
     ·exact hk.1
     ·rw[hn];simpa using hk.2
    ·cases hc
theorem Ahl[Glob]{P:Program}{f:FuncId}{np:Nat}{rc rcD:Ag}{ts:List RT}{ps rs:List Par}(hc:Cr P f np=some (rc,ts))(hs:Dj rcD=rc)(hn:ps.length=np)(h:wpx P noD rcD (Alo ts rs) (L5 ps) (S9 ps)):Fun P f ps rs:=by
 refine Adn hc hs hn (B8 rcD (fun e env H h=>?_) h);cases e with
 |normal=>exact h
 |exit j=>exact h
 |ret=>exact h
end Go.Proofs.YteflnbjmjcbmmaaGreatDoor
