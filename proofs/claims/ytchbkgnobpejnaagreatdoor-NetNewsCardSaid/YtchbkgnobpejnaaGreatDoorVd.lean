/- Texts of this claim, joined. -/
import Derived.Test.YtchbkgnobpejnaaGreatDoorProg
import Derived.Test.YtchbkgnobpejnaaGreatDoorWAbsQ
import Derived.KernelRfl
import Derived.Test.YtchbkgnobpejnaaGreatDoorWAbsK
import Derived.Test.YtchbkgnobpejnaaGreatDoorWAbsS
import Derived.Test.YtchbkgnobpejnaaGreatDoorWAbs1
import Derived.WalkKit
import Derived.Below
import Derived.Defers
import Derived.Recover
import Derived.Laws.Pointers
import Derived.Test.YtchbkgnobpejnaaGreatDoorWAbsMap
import Derived.Test.YtchbkgnobpejnaaGreatDoorVa
import Derived.Test.YtchbkgnobpejnaaGreatDoorVb
import Derived.Test.YtchbkgnobpejnaaGreatDoorVc
set_option linter.unusedSimpArgs false
set_option linter.unusedVariables false
namespace Go.Proofs.YtchbkgnobpejnaaGreatDoor
open Go Go.RowKit Pl
abbrev prT:TypeId:=104
def Dt:Value:=.iface 100 (.agg #[])
section
variable {P:Program} {w:World} {R:Nat→Prop}
theorem Abc{p:Be}{x:Value}{F':Nat→Prop}(hx:Is w R p x F')(hd:∀b,F' b→¬R b):∀(zs:List Value),Cd w R ((zs.map fun z=>.p (.c (.v z)))++[p]) (zs++[x]) F'
 |[]=>⟨F',fun _=>False,hx,fun b h=>h,fun b hb=>⟨fun q=>q,hd b hb⟩,fun b=>by simp⟩
 |z::zs=>by
  refine⟨fun _=>False,F',⟨.v z,fun b=>⟨fun q=>q.elim,fun q=>Em (fun p hp=>by simp at hp;exact⟨_,hp⟩) q⟩⟩,Abc hx hd zs,fun b hb=>hb.elim,fun b=>by simp⟩
theorem Vr{u:V}{x:Value}(h:RV w R noG u x):Ls w R [.c u] [x]:=by
 refine⟨rfl,fun i p y h1 h2=>?_,fun i j T sz rows T' sz' rows' x y b hij h1=>?_,fun b h=>absurd h (Em (fun p hp=>by simp at hp;exact⟨_,hp⟩))⟩
 ·rcases i with _|i
  ·cases h1;cases h2;exact h
  ·simp at h1
 ·rcases i with _|i<;>simp at h1
theorem Am6{T:TypeId}{y y':Value}{xs:List Value}{F:Nat→Prop}(hp:Cd w R [.mn T [.c (.v y)] [.c (.v y')]] xs F):∃b,xs=[.pointer (some ⟨b,0,none⟩)]∧w.heap[b]? =some (.cells #[y] T (0,0))∧(∀k,F k↔k=b)∧¬R b:=by
 match xs,hp with
 |[x],hp=>
  obtain⟨F1,F2,⟨b,ys,rfl,hpos,hown,hpars,hone,hnb,hF1⟩,h2,h3,h4⟩:=hp;have hl:ys.length=1:=by simpa using hpars.len.symm
  obtain⟨y0,rfl⟩:∃y0,ys=[y0]:=List.length_eq_one_iff.1 hl;obtain rfl:y0=y:=B8 (hpars.ok 0 _ _ rfl rfl);have hnb':∀k,¬A4 [.c (.v y0)] [y0] k:=fun k=>Em (fun p hp=>by simp at hp;exact⟨_,hp⟩);have hF:∀k,F k↔k=b:=fun k=>by
   rw[h4,hF1];exact⟨fun q=>q.elim (fun q=>q.resolve_right (hnb' k)) (fun q=>absurd q (h2 k)),fun q=>.inl (.inl q)⟩
  refine⟨b,rfl,?_,hF,(h3 b ((hF1 b).2 (.inl rfl))).2⟩;rcases hown.2 with⟨q,_⟩|⟨g,cap,cur,q,_,hg,hnc,hcm,hcs,htake⟩
  ·cases q
  ·injection q with q1 q2 q3;injection q1 with q1
   injection q1 with q1;subst q1 q3;have hl:cur.toList.length=1:=by simpa using hcs
   have hx:cur.toList=[y0]:=by rw[←htake,List.take_of_length_le (by rw[hl];exact ZT _)]
   have hc:cur= #[y0]:=by apply Array.ext';rw[hx]
   rw[hc]at hg;exact hg
theorem Ah7[Glob]{f:FuncId}{T:TypeId}{y y':Value}{zs:List Value}(hc:Dd P f)(hy':y'.oneCell'=true)(h:∀(w:World) (L:Nat→Prop) (b:Nat),B6 w L→w.heap[b]? =some (.cells #[y] T (0,0))→Calls P f #[.pointer (some ⟨b,0,none⟩)] w fun e w'=>e=.returned (Da zs)∧Fr (fun k=>k=b) w w'∧w'.heap[b]? =some (.cells #[y'] T (0,0))):
  Hd P f [.mn T [.c (.v y)] [.c (.v y')]] (zs.map fun z=>.p (.c (.v z))):=by
 refine⟨hc,fun w R xs F hlt hp hg=>?_⟩;obtain⟨b,rfl,hb,hF,hR⟩:=Am6 hp;refine(h w F b hg hb).mono ?_
 rintro e w' ⟨rfl,hfr,hb'⟩
 refine⟨zs,R,fun k=>k=b,rfl,by simp,C8 hfr fun k hk=>(hF k).2 hk,fun b hb=>hb,fun b hb=>.inl hb,?_,fun k hk=>.inl ((hF k).2 hk)⟩;have hnb':∀k,¬A4 [.c (.v y')] [y'] k:=fun k=>Em (fun p hp=>by simp at hp;exact⟨_,hp⟩);refine Abc (p:=.pn T [.c (.v y')]) ⟨b,[y'],rfl,by simp,⟨rfl,.inr ⟨b,1,_,rfl,ZU _,hb',by simp,by decide,rfl,rfl⟩⟩,Vr (.v _),by simp[hy'],hnb' b,fun k=>⟨.inl,fun h=>h.elim id (fun h=>absurd h (hnb' k))⟩⟩ (fun k hk=>by rw[hk];exact hR) zs
theorem Adh[Glob]{f:FuncId}{T:TypeId}{y v:Value}{y':Value}(hc:Dd P f)(h:∀(w:World) (L:Nat→Prop) (b:Nat),B6 w L→w.heap[b]? =some (.cells #[y] T (0,0))→Calls P f #[.pointer (some ⟨b,0,none⟩)] w fun e w'=>e=.panicked [{v:=v,recovered:=false}]∧Fr (fun k=>k=b) w w'):
  Ha P f [.mn T [.c (.v y)] [.c (.v y')]] v:=by
 refine⟨hc,fun w R xs F hlt hp hg=>?_⟩;obtain⟨b,rfl,hb,hF,hR⟩:=Am6 hp;exact(h w F b hg hb).mono fun e w' ⟨h1,h2⟩=>⟨h1,C8 h2 fun k hk=>(hF k).2 hk⟩
end
def Hm:Ae:=
 .seq (.reg [Rq 4 (.mv (.const (.string ⟨#[]⟩))),Rq 5 (.mv (.const (.string ⟨#[]⟩))),Rq 6 (.mv (.const (.bool false)))]) (.seq (.seq (.reg [Mq 8 0,Mq 9 1,Cq 10 194 ([8,9]),Mq 7 10]) (.seq (.reg [Mq 11 7,Bq 12 .geq 11 (Kq 0)]) (.cond 12 (.seq (.dreg [[Mq 13 0,Mq 14 7,Rq 15 (.slcS 13 none (some 14)),Mq 16 0,Mq 17 7,Mq 18 1,Rq 19 (.len true 18),Bq 20 .add 17 19,Rq 21 (.slcS 16 (some 20) none),Mq 4 15],[Mq 5 21],[Rq 6 (.mv (.const (.bool true)))]]) (.ret)) (.skip)))) (.seq (.reg [Mq 22 0,Mq 4 22,Rq 5 (.mv (.const (.string ⟨#[]⟩))),Rq 6 (.mv (.const (.bool false)))]) (.ret)))
theorem D3:Ai Tryz.prog 167 2=some (Hm,[4,5,6]):=by kernel_rfl
namespace Pl
noncomputable def wrPk(p:Pk):ByteArray:=if p.err=0 then bA (pkB p)else⟨#[]⟩
end Pl
theorem Aa0[Glob][Tabs](p:Pk)(h:p.ok):Fun Tryz.prog 159 [.c (.agg p.row)] [.c (.v (.string (wrPk p))),.c (.v (.int .i64 p.err))]:=by
 have hC:=S4 p h;by_cases h0:p.err=0
 ·have hW:=Afu p (Pk.sm h0);rw[h0]at hC ⊢;rw[show wrPk p=bA (pkB p)from if_pos h0];refine A9 Me rfl ?_;(refine goI ?_;repeat (intro gg;refine goI ?_));refine .inl (cX hC ?_);(refine goI ?_;repeat (intro gg;refine goI ?_));refine .inl (cX hW ?_);(refine goI ?_;repeat (intro gg;refine goI ?_));(exact⟨[],aI⟩)
 ·rw[show wrPk p=⟨#[]⟩from if_neg h0];refine A9 Me rfl ?_;(refine goI ?_;repeat (intro gg;refine goI ?_));refine .inl (cX hC ?_);(refine goI ?_;repeat (intro gg;refine goI ?_));(refine Aah ?_ ?_;focus (simpa using h0));(refine goI ?_;repeat (intro gg;refine goI ?_));(exact⟨[],aI⟩)
theorem Ov[Glob](s:ByteArray)(c:UInt8):Fun Tryz.prog 194 [.c (.v (.string s)),.c (.v (.string ⟨#[c]⟩))] [.c (.v (.int .i64 (ixb s c)))]:=
 M6 (xs:=[.string s,.string ⟨#[c]⟩]) (C7 Tryz.func194 (by kernel_rfl) (by kernel_rfl)) fun w=>(W5 s c w).mono fun e w' ⟨h1,h2⟩=>⟨h1,h2▸Below.refl _ _⟩
theorem Afs[Glob]{s:ByteArray}{k:Nat}(hk:ixb s 59=(k:Int))(hlt:k<s.size)(hs:s.size≤1000000000000):Fun Tryz.prog 167 [.c (.v (.string s)),.c (.v (.string ⟨#[59]⟩))] [.c (.v (.string (s.extract 0 k))),.c (.v (.string (s.extract (k+1) s.size))),.c (.v (.bool true))]:=by
 have hi:=Ov s 59;rw[hk]at hi;refine A9 D3 rfl ?_;(refine goI ?_;repeat (intro gg;refine goI ?_));refine .inl (cX hi ?_);(refine goI ?_;repeat (intro gg;refine goI ?_));refine⟨0,k,rfl,⟨_,rfl⟩,by omega,by omega,?_⟩;(refine goI ?_;repeat (intro gg;refine goI ?_));refine⟨(k:Int)+1,Qr (n:=(k:Int)+1) (by omega) (by omega),?_⟩;(refine goI ?_;repeat (intro gg;refine goI ?_));refine⟨k+1,s.size,⟨_,rfl⟩,rfl,by omega,ZT _,?_⟩;(refine goI ?_;repeat (intro gg;refine goI ?_));(exact⟨[],aI⟩)
theorem Afx[Glob]{s:ByteArray}(h:ixb s 59<0):Fun Tryz.prog 167 [.c (.v (.string s)),.c (.v (.string ⟨#[59]⟩))] [.c (.v (.string s)),.c (.v (.string ⟨#[]⟩)),.c (.v (.bool false))]:=by
 have hi:=Ov s 59;generalize ixb s 59=i at hi h;refine A9 D3 rfl ?_;(refine goI ?_;repeat (intro gg;refine goI ?_));refine .inl (cX hi ?_);(refine goI ?_;repeat (intro gg;refine goI ?_));(refine Re ?_ ?_;focus (exact ZY (by omega)));(refine goI ?_;repeat (intro gg;refine goI ?_));(exact⟨[],aI⟩)
theorem Qp[Glob]{s a b:ByteArray}(h:Mm s 59=some (a,b))(hs:s.size≤1000000000000):Fun Tryz.prog 139 [.c (.v (.string s)),.c (.v (.string ⟨#[59]⟩))] [.c (.v (.string a)),.c (.v (.string b)),.c (.v (.bool true))]:=by
 unfold Mm at h;split at h
 ·cases h
 ·rename_i h0;injection h with h
  injection h with ha hb;obtain⟨k,hk⟩:=Int.eq_ofNat_of_zero_le (show 0≤ixb s 59 by omega);have hlt:k<s.size:=by
   have h1:=(Lib.indexByte_some (show Lib.indexByte s.data.toList 59=(k:Int)from hk)).1;have:=(ZB.1 h1).1;rw[Array.length_toList]at this;exact this
  have hi:=Afs hk hlt hs;rw[hk,Int.toNat_natCast]at ha hb;rw[ha,hb]at hi;refine A9 Mw rfl ?_;(refine goI ?_;repeat (intro gg;refine goI ?_));refine .inl (cX hi ?_);(refine goI ?_;repeat (intro gg;refine goI ?_));(exact⟨[],aI⟩)
theorem Tz[Glob]{s:ByteArray}(h:Mm s 59=none):Fun Tryz.prog 139 [.c (.v (.string s)),.c (.v (.string ⟨#[59]⟩))] [.c (.v (.string s)),.c (.v (.string ⟨#[]⟩)),.c (.v (.bool false))]:=by
 unfold Mm at h;split at h
 ·rename_i h0;have hi:=Afx h0;refine A9 Mw rfl ?_;(refine goI ?_;repeat (intro gg;refine goI ?_));refine .inl (cX hi ?_);(refine goI ?_;repeat (intro gg;refine goI ?_));(exact⟨[],aI⟩)
 ·cases h
theorem B6.none_[Glob]{w:World}{L:Nat→Prop}(h:B6 w L):B6 w (fun _=>False):=fun b o q=>⟨(h b o q).1,id⟩
theorem B6.fr_[Glob]{w w':World}(h:B6 w (fun _=>False))(hf:Fr (fun _=>False) w w'):B6 w' (fun _=>False):=h.at_ hf fun b q=>q.elim
theorem X8[Glob]{w w':World}(hf:Fr (fun _=>False) w w'){b:Nat}{o:Obj}(h:w.heap[b]? =some o):w'.heap[b]? =some o:=(hf.block b (XL.1 h).1 id).trans h
set_option maxRecDepth 100000 in
set_option maxHeartbeats 4000000 in
theorem Afe[Glob][Tabs]{s r:ByteArray}{n:Int}(h:Cp s=some (n,r))(hs:s.size≤1000000000000)(w:World)(L:Nat→Prop)(b:Nat)(hg:B6 w L)(hb:w.heap[b]? =some (.cells #[.string s] prT (0,0))):
  Calls Tryz.prog 99 #[.pointer (some ⟨b,0,none⟩)] w fun e w'=>e=.returned (Da [.int .i64 n])∧Fr (fun k=>k=b) w w'∧w'.heap[b]? =some (.cells #[.string r] prT (0,0)):=by
 obtain⟨hI,_⟩:=Hy h;unfold Cp at h;rcases hc:Mm s 59 with _|⟨t,r'⟩
 ·rw[hc]at h;cases h
 rw[hc,ZA]at h;rcases hv:Ad5 t with _|n'
 ·simp only[hv]at h;cases h
 simp only[hv,Option.map_some,ZD,Prod.mk.injEq]at h;obtain⟨rfl,rfl⟩:=h;unfold Ad5 at hv;rcases hA:Lib.atoiAll t.data.toList with m|_|_
 rotate_left
 ·rw[hA]at hv;cases hv
 ·rw[hA]at hv;cases hv
 rw[hA]at hv;simp only at hv;split at hv;rotate_left
 ·cases hv
 rename_i hE;injection hv with hv
 subst hv;have hts:t.size≤1000000000000:=by
  unfold Mm at hc;split at hc
  ·cases hc
  ·injection hc with hc;injection hc with hc _
   subst hc;rw[ByteArray.size_extract];omega
 have hg0:=hg.none_;have c0:w.cell? ⟨b,0,none⟩=some (.string s):=by rw[Lib.cell_of_heap hb];rfl
 go_enter Tryz.func99,Tryz.ntmps99
 go_wp2_with (go_at_call 139;refine(Hr (xs:=[.string s,.string ⟨#[59]⟩]) (ys:=[.string t,.string r',.bool true]) (Qp hc hs) _ hg0).mono ?_;rintro e w1 ⟨rfl,hf1⟩;simp only[Da])
 have hg1:=hg0.fr_ hf1
 go_wp2_with (go_at_call 140;refine(Any.strconv_Atoi_ok Tryz.laysC172 t (by omega) m hA _).mono ?_;rintro e w2 ⟨rfl,hw2⟩)
 have hf2:Fr (fun _=>False) w1 w2:=by
  rcases hw2 with rfl|⟨q,rfl⟩
  ·exact Fr.refl _ _
  ·have hb:=Lib.bytesWorld_below w1 (Tryz.laysC172_ren.t 5) q;exact Cf hb
 have hg2:=hg1.fr_ hf2;clear hw2
 go_wp2_with (go_at_call 141;refine(Hr (xs:=[.int .i64 m]) (ys:=[.string ⟨(Lib.itoa m).toArray⟩]) (T8 m hI.1 hI.2) _ hg2).mono ?_;rintro e w3 ⟨rfl,hf3⟩;simp only[Da];have hb3:=X8 hf3 (X8 hf2 (X8 hf1 hb));have f3:=Lib.frozen_of_heap hb3 0;have c3:w3.cell? ⟨b,0,none⟩=some (.string s):=(by rw[Lib.cell_of_heap hb3];rfl))
 ·go_ret
  refine⟨rfl,?_,?_⟩
  ·exact(C8 ((hf1.trans hf2).trans hf3) (fun k q=>q.elim)).trans (Acp (L:=fun k=>k=b) rfl _ _)
  ·rw[heap_set hb3];rfl
theorem Ba[Glob][Tabs]{s r:ByteArray}{n:Int}(h:Cp s=some (n,r))(hs:s.size≤1000000000000):Hd Tryz.prog 99 [.mn prT [.c (.v (.string s))] [.c (.v (.string r))]] [.p (.c (.v (.int .i64 n)))]:=
 Ah7 (zs:=[.int .i64 n]) (C7 Tryz.func99 (by kernel_rfl) (by kernel_rfl)) rfl fun w L b hg hb=>Afe h hs w L b hg hb
set_option maxRecDepth 100000 in
set_option maxHeartbeats 4000000 in
theorem We[Glob]{s:ByteArray}(hc:Mm s 59=none)(m:Int)(hA:Lib.atoiAll s.data.toList=.ok m)(hs:s.size≤1000000000000)(w:World)(L:Nat→Prop)(b:Nat)(hg:B6 w L)(hb:w.heap[b]? =some (.cells #[.string s] prT (0,0))):
  Calls Tryz.prog 99 #[.pointer (some ⟨b,0,none⟩)] w fun e w'=>e=.panicked [{v:=Dt,recovered:=false}]∧Fr (fun k=>k=b) w w':=by
 have hg0:=hg.none_;have c0:w.cell? ⟨b,0,none⟩=some (.string s):=by rw[Lib.cell_of_heap hb];rfl
 go_enter Tryz.func99,Tryz.ntmps99
 go_wp2_with (go_at_call 139;refine(Hr (xs:=[.string s,.string ⟨#[59]⟩]) (ys:=[.string s,.string ⟨#[]⟩,.bool false]) (Tz hc) _ hg0).mono ?_;rintro e w1 ⟨rfl,hf1⟩;simp only[Da])
 have hg1:=hg0.fr_ hf1
 go_wp2_with (go_at_call 140;refine(Any.strconv_Atoi_ok Tryz.laysC172 s (by omega) m hA _).mono ?_;rintro e w2 ⟨rfl,hw2⟩)
 have hf2:Fr (fun _=>False) w1 w2:=by
  rcases hw2 with rfl|⟨q,rfl⟩
  ·exact Fr.refl _ _
  ·have hb:=Lib.bytesWorld_below w1 (Tryz.laysC172_ren.t 5) q;exact Cf hb
 have hg2:=hg1.fr_ hf2;clear hw2
 go_wp2
 refine⟨rfl,?_⟩;exact⟨rfl,C8 (hf1.trans hf2) (fun k q=>q.elim)⟩
set_option maxRecDepth 100000 in
set_option maxHeartbeats 4000000 in
theorem Pn[Glob][Tabs]{s:ByteArray}(hc:Mm s 59=none)(hA:Lib.atoiAll s.data.toList=Lib.atoiAll [])(hs:s.size≤1000000000000)(w:World)(L:Nat→Prop)(b:Nat)(hg:B6 w L)(hb:w.heap[b]? =some (.cells #[.string s] prT (0,0))):
  Calls Tryz.prog 99 #[.pointer (some ⟨b,0,none⟩)] w fun e w'=>e=.panicked [{v:=Dt,recovered:=false}]∧Fr (fun k=>k=b) w w':=by
 have hg0:=hg.none_;have c0:w.cell? ⟨b,0,none⟩=some (.string s):=by rw[Lib.cell_of_heap hb];rfl
 go_enter Tryz.func99,Tryz.ntmps99
 go_wp2_with (go_at_call 139;refine(Hr (xs:=[.string s,.string ⟨#[59]⟩]) (ys:=[.string s,.string ⟨#[]⟩,.bool false]) (Tz hc) _ hg0).mono ?_;rintro e w1 ⟨rfl,hf1⟩;simp only[Da])
 have hg1:=hg0.fr_ hf1;obtain⟨ev,hev1,hev2⟩:=Tabs.syn w1 _ hg1
 go_wp2_with (go_at_call 140;refine(Any.strconv_Atoi_syntax Tryz.laysC172 s (by omega) hA ev _ hev1 hev2).mono ?_;rintro e w2 ⟨N,rfl,hN1,hN2,hw2⟩)
 have hf2:Fr (fun _=>False) w1 w2:=Cf hw2
 go_wp2
 refine⟨rfl,?_⟩;exact⟨rfl,C8 (hf1.trans hf2) (fun k q=>q.elim)⟩
set_option maxRecDepth 100000 in
set_option maxHeartbeats 4000000 in
theorem P6[Glob][Tabs]{s:ByteArray}(hc:Mm s 59=none)(hA:Lib.atoiAll s.data.toList=.range)(hs:s.size≤1000000000000)(w:World)(L:Nat→Prop)(b:Nat)(hg:B6 w L)(hb:w.heap[b]? =some (.cells #[.string s] prT (0,0))):
  Calls Tryz.prog 99 #[.pointer (some ⟨b,0,none⟩)] w fun e w'=>e=.panicked [{v:=Dt,recovered:=false}]∧Fr (fun k=>k=b) w w':=by
 have hg0:=hg.none_;have c0:w.cell? ⟨b,0,none⟩=some (.string s):=by rw[Lib.cell_of_heap hb];rfl
 go_enter Tryz.func99,Tryz.ntmps99
 go_wp2_with (go_at_call 139;refine(Hr (xs:=[.string s,.string ⟨#[59]⟩]) (ys:=[.string s,.string ⟨#[]⟩,.bool false]) (Tz hc) _ hg0).mono ?_;rintro e w1 ⟨rfl,hf1⟩;simp only[Da])
 have hg1:=hg0.fr_ hf1;obtain⟨ev,hev1,hev2⟩:=Tabs.ran w1 _ hg1
 go_wp2_with (go_at_call 140;refine(Any.strconv_Atoi_range Tryz.laysC172 s (by omega) hA ev _ hev1 hev2).mono ?_;rintro e w2 ⟨N,rfl,hN1,hN2,hw2⟩)
 have hf2:Fr (fun _=>False) w1 w2:=Cf hw2
 go_wp2
 refine⟨rfl,?_⟩;exact⟨rfl,C8 (hf1.trans hf2) (fun k q=>q.elim)⟩
set_option maxRecDepth 100000 in
set_option maxHeartbeats 4000000 in
theorem Qs[Glob][Tabs]{s t r:ByteArray}(hc:Mm s 59=some (t,r))(hA:Lib.atoiAll t.data.toList=Lib.atoiAll [])(hs:s.size≤1000000000000)(ht:t.size≤1000000000000)(w:World)(L:Nat→Prop)(b:Nat)(hg:B6 w L)(hb:w.heap[b]? =some (.cells #[.string s] prT (0,0))):
  Calls Tryz.prog 99 #[.pointer (some ⟨b,0,none⟩)] w fun e w'=>e=.panicked [{v:=Dt,recovered:=false}]∧Fr (fun k=>k=b) w w':=by
 have hg0:=hg.none_;have c0:w.cell? ⟨b,0,none⟩=some (.string s):=by rw[Lib.cell_of_heap hb];rfl
 go_enter Tryz.func99,Tryz.ntmps99
 go_wp2_with (go_at_call 139;refine(Hr (xs:=[.string s,.string ⟨#[59]⟩]) (ys:=[.string t,.string r,.bool true]) (Qp hc hs) _ hg0).mono ?_;rintro e w1 ⟨rfl,hf1⟩;simp only[Da])
 have hg1:=hg0.fr_ hf1;obtain⟨ev,hev1,hev2⟩:=Tabs.syn w1 _ hg1
 go_wp2_with (go_at_call 140;refine(Any.strconv_Atoi_syntax Tryz.laysC172 t (by omega) hA ev _ hev1 hev2).mono ?_;rintro e w2 ⟨N,rfl,hN1,hN2,hw2⟩)
 have hf2:Fr (fun _=>False) w1 w2:=Cf hw2
 go_wp2
 refine⟨rfl,?_⟩;exact⟨rfl,C8 (hf1.trans hf2) (fun k q=>q.elim)⟩
set_option maxRecDepth 100000 in
set_option maxHeartbeats 4000000 in
theorem Q8[Glob][Tabs]{s t r:ByteArray}(hc:Mm s 59=some (t,r))(hA:Lib.atoiAll t.data.toList=.range)(hs:s.size≤1000000000000)(ht:t.size≤1000000000000)(w:World)(L:Nat→Prop)(b:Nat)(hg:B6 w L)(hb:w.heap[b]? =some (.cells #[.string s] prT (0,0))):
  Calls Tryz.prog 99 #[.pointer (some ⟨b,0,none⟩)] w fun e w'=>e=.panicked [{v:=Dt,recovered:=false}]∧Fr (fun k=>k=b) w w':=by
 have hg0:=hg.none_;have c0:w.cell? ⟨b,0,none⟩=some (.string s):=by rw[Lib.cell_of_heap hb];rfl
 go_enter Tryz.func99,Tryz.ntmps99
 go_wp2_with (go_at_call 139;refine(Hr (xs:=[.string s,.string ⟨#[59]⟩]) (ys:=[.string t,.string r,.bool true]) (Qp hc hs) _ hg0).mono ?_;rintro e w1 ⟨rfl,hf1⟩;simp only[Da])
 have hg1:=hg0.fr_ hf1;obtain⟨ev,hev1,hev2⟩:=Tabs.ran w1 _ hg1
 go_wp2_with (go_at_call 140;refine(Any.strconv_Atoi_range Tryz.laysC172 t (by omega) hA ev _ hev1 hev2).mono ?_;rintro e w2 ⟨N,rfl,hN1,hN2,hw2⟩)
 have hf2:Fr (fun _=>False) w1 w2:=Cf hw2
 go_wp2
 refine⟨rfl,?_⟩;exact⟨rfl,C8 (hf1.trans hf2) (fun k q=>q.elim)⟩
set_option maxRecDepth 100000 in
set_option maxHeartbeats 4000000 in
theorem Wz[Glob][Tabs]{s t r:ByteArray}(hc:Mm s 59=some (t,r))(m:Int)(hA:Lib.atoiAll t.data.toList=.ok m)(hE:¬Lib.itoa m=t.data.toList)(hs:s.size≤1000000000000)(ht:t.size≤1000000000000)(w:World)(L:Nat→Prop)(b:Nat)(hg:B6 w L)(hb:w.heap[b]? =some (.cells #[.string s] prT (0,0))):
  Calls Tryz.prog 99 #[.pointer (some ⟨b,0,none⟩)] w fun e w'=>e=.panicked [{v:=Dt,recovered:=false}]∧Fr (fun k=>k=b) w w':=by
 have hg0:=hg.none_;have c0:w.cell? ⟨b,0,none⟩=some (.string s):=by rw[Lib.cell_of_heap hb];rfl
 obtain⟨hI1,hI2⟩:=Lib.atoiAll_bounds hA;have hE2:(⟨(Lib.itoa m).toArray⟩:ByteArray)≠t:=fun q=>hE (by rw[←q])
 go_enter Tryz.func99,Tryz.ntmps99
 go_wp2_with (go_at_call 139;refine(Hr (xs:=[.string s,.string ⟨#[59]⟩]) (ys:=[.string t,.string r,.bool true]) (Qp hc hs) _ hg0).mono ?_;rintro e w1 ⟨rfl,hf1⟩;simp only[Da])
 have hg1:=hg0.fr_ hf1
 go_wp2_with (go_at_call 140;refine(Any.strconv_Atoi_ok Tryz.laysC172 t (by omega) m hA _).mono ?_;rintro e w2 ⟨rfl,hw2⟩)
 have hf2:Fr (fun _=>False) w1 w2:=by
  rcases hw2 with rfl|⟨q,rfl⟩
  ·exact Fr.refl _ _
  ·have hb:=Lib.bytesWorld_below w1 (Tryz.laysC172_ren.t 5) q;exact Cf hb
 have hg2:=hg1.fr_ hf2;clear hw2
 go_wp2_with (go_at_call 141;refine(Hr (xs:=[.int .i64 m]) (ys:=[.string ⟨(Lib.itoa m).toArray⟩]) (T8 m hI1 hI2) _ hg2).mono ?_;rintro e w3 ⟨rfl,hf3⟩;simp only[Da];have hE3:((Lib.itoa m)==t.toList)=false:=(by rw[Lib.toList_data];simpa using hE))
 go_wp2
 refine⟨rfl,?_⟩;exact⟨rfl,C8 ((hf1.trans hf2).trans hf3) (fun k q=>q.elim)⟩
theorem Bg[Glob][Tabs]{s:ByteArray}{y':Value}(h:Cp s=none)(hs:s.size≤1000000000000):Ha Tryz.prog 99 [.mn prT [.c (.v (.string s))] [.c (.v y')]] Dt:=by
 refine Adh (C7 Tryz.func99 (by kernel_rfl) (by kernel_rfl)) fun w L b hg hb=>?_;unfold Cp at h;rcases hc:Mm s 59 with _|⟨t,r⟩
 ·rcases hA:Lib.atoiAll s.data.toList with m|_|_
  ·exact We hc m hA hs w L b hg hb
  ·exact Pn hc hA hs w L b hg hb
  ·exact P6 hc hA hs w L b hg hb
 ·rw[hc,ZA,Option.map_eq_none_iff]at h;have ht:t.size≤1000000000000:=by
   unfold Mm at hc;split at hc
   ·cases hc
   ·injection hc with hc;injection hc with hc _
    subst hc;rw[ByteArray.size_extract];omega
  unfold Ad5 at h;simp only at h;rcases hA:Lib.atoiAll t.data.toList with m|_|_
  ·rw[hA]at h;simp only at h;split at h
   ·cases h
   ·rename_i hE;exact Wz hc m hA hE hs ht w L b hg hb
  ·exact Qs hc hA hs ht w L b hg hb
  ·exact Q8 hc hA hs ht w L b hg hb
theorem Bz[Glob]{s:ByteArray}{p:Int×ByteArray}(h:Cp s=some p):p.2.size≤s.size:=by
 obtain⟨_,h⟩:=Hy h;have h1:s.data.toList.length=s.size:=Array.length_toList;have h2:p.2.data.toList.length=p.2.size:=Array.length_toList;rw[h,ZF]at h1;omega
theorem Ed[Glob][Tabs]{s t r:ByteArray}(h:G7 s=some (t,r))(hs:s.size≤1000000000000):Hd Tryz.prog 95 [.mn prT [.c (.v (.string s))] [.c (.v (.string r))]] [.p (.c (.v (.string t)))]:=by
 unfold G7 at h;rcases e:Cp s with _|⟨n,r1⟩
 ·rw[e]at h;cases h
 rw[e,ZA]at h;simp only at h;split at h
 ·cases h
 rename_i hc;have hz:=Bz e;simp only at hz;obtain⟨k,rfl⟩:=Int.eq_ofNat_of_zero_le (show 0≤n by omega);have hk:k≤r1.size:=by omega
 rw[Int.toNat_natCast]at h;injection h with h
 injection h with h1 h2;subst h1 h2;refine Us F7 rfl rfl (Uo rfl) ?_;(refine goI ?_;repeat (intro gg;refine goI ?_));(refine .inr (.inl ⟨_,_,false,0::([]++[]),?_,Ba e hs,Am,oI,dI,?_⟩);focus (exact wI));(refine goI ?_;repeat (intro gg;refine goI ?_));(refine Re ?_ ?_;focus (exact ZY (by omega)));(refine goI ?_;repeat (intro gg;refine goI ?_));refine⟨0,k,rfl,⟨_,rfl⟩,by omega,by omega,?_⟩;(refine goI ?_;repeat (intro gg;refine goI ?_));refine⟨k,r1.size,⟨_,rfl⟩,rfl,by omega,ZT _,?_⟩;(refine goI ?_;repeat (intro gg;refine goI ?_));(exact⟨0::([]++[]),Tw (by first|exact Ez rfl|assumption) (Aen (gone:=[]) (gone1:=[]) rfl aI (by decide) (by decide) (by decide) (.nil _))⟩)
theorem Fs[Glob][Tabs]{s:ByteArray}{y':Value}(h:G7 s=none)(hs:s.size≤1000000000000):Ha Tryz.prog 95 [.mn prT [.c (.v (.string s))] [.c (.v y')]] Dt:=by
 unfold G7 at h;refine Abm F7 rfl (Uo rfl) ?_;(refine goI ?_;repeat (intro gg;refine goI ?_));rcases e:Cp s with _|⟨n,r1⟩
 ·(refine .inr (.inr (.inl ⟨_,false,0::([]++[]),_,?_,Bg (y':=.nilIface) e hs,rfl⟩));focus (exact wI))
 ·rw[e,ZA]at h;simp only at h;split at h;rotate_left
  ·cases h
  rename_i hc;(refine .inr (.inl ⟨_,_,false,0::([]++[]),?_,Ba e hs,Am,oI,dI,?_⟩);focus (exact wI));(refine goI ?_;repeat (intro gg;refine goI ?_));by_cases hn:n<0
  ·rw[ZX hn];(refine goI ?_;repeat (intro gg;refine goI ?_));rfl
  ·rw[ZY hn];(refine goI ?_;repeat (intro gg;refine goI ?_));rw[ZX (show(r1.size:Int)<n by omega)];(refine goI ?_;repeat (intro gg;refine goI ?_));rfl
theorem Kl[Glob][Tabs]{s r:ByteArray}{b:Bool}(h:Nv s=some (b,r))(hs:s.size≤1000000000000):Hd Tryz.prog 96 [.mn prT [.c (.v (.string s))] [.c (.v (.string r))]] [.p (.c (.v (.bool b)))]:=by
 unfold Nv at h;rcases e:Cp s with _|⟨n,r1⟩
 ·rw[e]at h;cases h
 rw[e,ZA]at h;simp only at h;split at h
 ·cases h
 rename_i hc;injection h with h
 injection h with h1 h2;subst h2;refine Us Gv rfl rfl (Uo rfl) ?_;(refine goI ?_;repeat (intro gg;refine goI ?_));rcases(show n=0∨n=1 by omega)with rfl|rfl
 ·obtain rfl:b=false:=h1.symm;(refine .inr (.inl ⟨_,_,false,0::([]++[]),?_,Ba e hs,Am,oI,dI,?_⟩);focus (exact wI));(refine goI ?_;repeat (intro gg;refine goI ?_));(exact⟨0::([]++[]),Tw (by first|exact Ez rfl|assumption) (Aen (gone:=[]) (gone1:=[]) rfl aI (by decide) (by decide) (by decide) (.nil _))⟩)
 ·obtain rfl:b=true:=h1.symm;(refine .inr (.inl ⟨_,_,false,0::([]++[]),?_,Ba e hs,Am,oI,dI,?_⟩);focus (exact wI));(refine goI ?_;repeat (intro gg;refine goI ?_));(exact⟨0::([]++[]),Tw (by first|exact Ez rfl|assumption) (Aen (gone:=[]) (gone1:=[]) rfl aI (by decide) (by decide) (by decide) (.nil _))⟩)
theorem Kr[Glob][Tabs]{s:ByteArray}{y':Value}(h:Nv s=none)(hs:s.size≤1000000000000):Ha Tryz.prog 96 [.mn prT [.c (.v (.string s))] [.c (.v y')]] Dt:=by
 unfold Nv at h;refine Abm Gv rfl (Uo rfl) ?_;(refine goI ?_;repeat (intro gg;refine goI ?_));rcases e:Cp s with _|⟨n,r1⟩
 ·(refine .inr (.inr (.inl ⟨_,false,0::([]++[]),_,?_,Bg (y':=.nilIface) e hs,rfl⟩));focus (exact wI))
 ·rw[e,ZA]at h;simp only at h;split at h;rotate_left
  ·cases h
  rename_i hc;(refine .inr (.inl ⟨_,_,false,0::([]++[]),?_,Ba e hs,Am,oI,dI,?_⟩);focus (exact wI));(refine goI ?_;repeat (intro gg;refine goI ?_));by_cases hn:n<0
  ·rw[ZX hn];(refine goI ?_;repeat (intro gg;refine goI ?_));rfl
  ·rw[ZY hn];(refine goI ?_;repeat (intro gg;refine goI ?_));rw[ZX (show(1:Int)<n by omega)];(refine goI ?_;repeat (intro gg;refine goI ?_));rfl
theorem Ff[Glob]{s:ByteArray}{p:ByteArray×ByteArray}(h:G7 s=some p):p.2.size≤s.size:=by
 obtain⟨_,h⟩:=Le.some _ _ h;have h1:s.data.toList.length=s.size:=Array.length_toList;have h2:p.2.data.toList.length=p.2.size:=Array.length_toList;rw[h,ZF]at h1;omega
theorem Od[Glob]{s:ByteArray}{p:Bool×ByteArray}(h:Nv s=some p):p.2.size≤s.size:=by
 obtain⟨_,h⟩:=Ua.some _ _ h;have h1:s.data.toList.length=s.size:=Array.length_toList;have h2:p.2.data.toList.length=p.2.size:=Array.length_toList;rw[h,ZF]at h1;omega
theorem Av[Glob]{T:List Nat}{H:Hp}:G6 T H H:=fun _ _ _ h=>h
theorem A5[Glob]{T:List Nat}{H0 H:Hp}{k:Nat}{x:Option Ent}(h:T.contains k=true)(hk:G6 T H0 H):G6 T H0 (upd H k x):=fun id e h1 h2=>by
 rw[Aq _ _ (fun q=>by rw[q,h]at h1;cases h1)];exact hk id e h1 h2
namespace Pl
def kWh(fr:ByteArray)(wo:Bool)(ms:List Mb)(sv:List Sv)(gs:List Gw)(f:List Wh×ByteArray):Option (Pk×ByteArray):=some (⟨fr,wo,ms,sv,gs,f.1⟩,f.2)
def kGs(fr:ByteArray)(wo:Bool)(ms:List Mb)(sv:List Sv)(e:List Gw×ByteArray):Option (Pk×ByteArray):=(Fj 20 whR e.2).bind (kWh fr wo ms sv e.1)
def kSv(fr:ByteArray)(wo:Bool)(ms:List Mb)(d:List Sv×ByteArray):Option (Pk×ByteArray):=(Fj 6 gwR d.2).bind (kGs fr wo ms d.1)
def kMs(fr:ByteArray)(wo:Bool)(c:List Mb×ByteArray):Option (Pk×ByteArray):=(Fj 40 svR c.2).bind (kSv fr wo c.1)
end Pl
def Aqk:Ae:=L3 [true,false] Di
set_option maxHeartbeats 20000000 in
theorem Sl[Glob][Tabs]{s:ByteArray}{y':Value}(hs:s.size≤1000000000000)(D:Value→Prop)(K:Ex→Env→Hp→Prop)(hd:pkR s=none→D Dt)(hk:∀p r env H,pkR s=some (p,r)→Ze [(2,some (true,6))] [.mn prT [.c (.v (.string s))] [.c (.v (.string r))]] [.p (.c (.agg p.row))] .ret env H→K .ret env H):
  wpx Tryz.prog D Aqk K (atV (Fp 0 [.mn prT [.c (.v (.string s))] [.c (.v y')]])) (Bu noH (Ox 0 [.mn prT [.c (.v (.string s))] [.c (.v y')]])):=by
 have hP:pkR s=(G7 s).bind fun a=>(Nv a.2).bind fun b=>(Fj 20 mbR b.2).bind (kMs a.1 b.1):=rfl;(refine goI ?_;repeat (intro gg;refine goI ?_));revert gg;rename_i g1;intro g2;rcases e1:G7 s with _|⟨fr,s1⟩
 ·refine⟨PEmpty,[],fun _=>[],[],fun _=>[],?_,fun x=>x.elim⟩;have hD:=hd (by rw[hP,e1];rfl);refine⟨[0,48],?_⟩;(refine goI ?_;repeat (intro gg;refine goI ?_));refine⟨?_,?_⟩
  ·(refine goI ?_;repeat (intro gg;refine goI ?_));refine⟨(by repeat (first|exact Av|refine keepT_drops rfl ?_|refine A5 rfl ?_)),?_⟩;(refine goI ?_;repeat (intro gg;refine goI ?_));(refine .inr (.inr (.inl ⟨_,false,0::([]++[]),_,?_,Fs (y':=.nilIface) e1 hs,hD⟩));focus (exact wI))
  ·(refine goI ?_;repeat (intro gg;refine goI ?_));(refine .inr (.inr (.inl ⟨_,false,0::([]++[]),_,?_,Fs (y':=.nilIface) e1 hs,hD⟩));focus (exact wI))
 have z1:=Ff e1;simp only at z1;rw[e1,ZA]at hP;simp only at hP;rcases e2:Nv s1 with _|⟨wo,s2⟩
 ·refine⟨PEmpty,[],fun _=>[],[],fun _=>[],?_,fun x=>x.elim⟩;have hD:=hd (by rw[hP,e2];rfl);refine⟨[0,48],?_⟩;(refine goI ?_;repeat (intro gg;refine goI ?_));refine⟨?_,?_⟩
  ·(refine goI ?_;repeat (intro gg;refine goI ?_));refine⟨(by repeat (first|exact Av|refine keepT_drops rfl ?_|refine A5 rfl ?_)),?_⟩;(refine goI ?_;repeat (intro gg;refine goI ?_));(refine .inr (.inl ⟨_,_,false,0::([]++[]),?_,Ed e1 hs,Am,oI,dI,?_⟩);focus (exact wI));(refine goI ?_;repeat (intro gg;refine goI ?_));refine⟨(by repeat (first|exact Av|refine keepT_drops rfl ?_|refine A5 rfl ?_)),?_⟩;(refine goI ?_;repeat (intro gg;refine goI ?_));(refine .inr (.inr (.inl ⟨_,false,0::([]++[]),_,?_,Kr (y':=.nilIface) e2 (by omega),hD⟩));focus (exact wI))
  ·(refine goI ?_;repeat (intro gg;refine goI ?_));(refine .inr (.inl ⟨_,_,false,0::([]++[]),?_,Ed e1 hs,Am,oI,dI,?_⟩);focus (exact wI));(refine goI ?_;repeat (intro gg;refine goI ?_));refine⟨(by repeat (first|exact Av|refine keepT_drops rfl ?_|refine A5 rfl ?_)),?_⟩;(refine goI ?_;repeat (intro gg;refine goI ?_));refine⟨?_,?_⟩
   ·(refine goI ?_;repeat (intro gg;refine goI ?_));refine⟨(by repeat (first|exact Av|refine keepT_drops rfl ?_|refine A5 rfl ?_)),?_⟩;(refine goI ?_;repeat (intro gg;refine goI ?_));(refine .inr (.inr (.inl ⟨_,false,0::([]++[]),_,?_,Kr (y':=.nilIface) e2 (by omega),hD⟩));focus (exact wI))
   ·(refine goI ?_;repeat (intro gg;refine goI ?_));(refine .inr (.inr (.inl ⟨_,false,0::([]++[]),_,?_,Kr (y':=.nilIface) e2 (by omega),hD⟩));focus (exact wI))
 have z2:=Od e2;simp only at z2;rw[e2,ZA]at hP;simp only at hP;refine⟨Nat,[1,2],fun x=>[(3,.ptr 48 x 0 0)],[16,32],fun x=>[(0,⟨0,.b prT,1,[[.v (.string s2)]]⟩),(48,⟨x,.b 59,6,[[.v (.string fr),.v (.bool wo),.v (.slice none 0 0),.v (.slice none 0 0),.v (.slice none 0 0),.v (.slice none 0 0)]]⟩)],?_,fun gp=>?_⟩
 ·refine⟨[0,48],?_⟩;(refine goI ?_;repeat (intro gg;refine goI ?_));refine⟨?_,?_⟩
  ·(refine goI ?_;repeat (intro gg;refine goI ?_));revert gg;intro gp;refine⟨(by repeat (first|exact Av|refine keepT_drops rfl ?_|refine A5 rfl ?_)),?_⟩;(refine goI ?_;repeat (intro gg;refine goI ?_));(refine .inr (.inl ⟨_,_,false,0::([]++[]),?_,Ed e1 hs,Am,oI,dI,?_⟩);focus (exact wI));(refine goI ?_;repeat (intro gg;refine goI ?_));refine⟨(by repeat (first|exact Av|refine keepT_drops rfl ?_|refine A5 rfl ?_)),?_⟩;(refine goI ?_;repeat (intro gg;refine goI ?_));(refine .inr (.inl ⟨_,_,false,0::([]++[]),?_,Kl e2 (by omega),Am,oI,dI,?_⟩);focus (exact wI));(refine goI ?_;repeat (intro gg;refine goI ?_));refine⟨(by repeat (first|exact Av|refine keepT_drops rfl ?_|refine A5 rfl ?_)),?_⟩;(refine goI ?_;repeat (intro gg;refine goI ?_));refine⟨(by repeat (first|exact Av|refine keepT_drops rfl ?_|refine A5 rfl ?_)),?_⟩;(refine goI ?_;repeat (intro gg;refine goI ?_));(exact⟨gp,tI,tI,tI,tI⟩)
  ·(refine goI ?_;repeat (intro gg;refine goI ?_));(refine .inr (.inl ⟨_,_,false,0::([]++[]),?_,Ed e1 hs,Am,oI,dI,?_⟩);focus (exact wI));(refine goI ?_;repeat (intro gg;refine goI ?_));refine⟨(by repeat (first|exact Av|refine keepT_drops rfl ?_|refine A5 rfl ?_)),?_⟩;(refine goI ?_;repeat (intro gg;refine goI ?_));refine⟨?_,?_⟩
   ·(refine goI ?_;repeat (intro gg;refine goI ?_));revert gg;intro gp;refine⟨(by repeat (first|exact Av|refine keepT_drops rfl ?_|refine A5 rfl ?_)),?_⟩;(refine goI ?_;repeat (intro gg;refine goI ?_));(refine .inr (.inl ⟨_,_,false,0::([]++[]),?_,Kl e2 (by omega),Am,oI,dI,?_⟩);focus (exact wI));(refine goI ?_;repeat (intro gg;refine goI ?_));refine⟨(by repeat (first|exact Av|refine keepT_drops rfl ?_|refine A5 rfl ?_)),?_⟩;(refine goI ?_;repeat (intro gg;refine goI ?_));refine⟨(by repeat (first|exact Av|refine keepT_drops rfl ?_|refine A5 rfl ?_)),?_⟩;(refine goI ?_;repeat (intro gg;refine goI ?_));(exact⟨gp,tI,tI,tI,tI⟩)
   ·(refine goI ?_;repeat (intro gg;refine goI ?_));(refine .inr (.inl ⟨_,_,false,0::([]++[]),?_,Kl e2 (by omega),Am,oI,dI,?_⟩);focus (exact wI));(refine goI ?_;repeat (intro gg;refine goI ?_));refine⟨(by repeat (first|exact Av|refine keepT_drops rfl ?_|refine A5 rfl ?_)),?_⟩;(refine goI ?_;repeat (intro gg;refine goI ?_));refine⟨?_,?_⟩
    ·(refine goI ?_;repeat (intro gg;refine goI ?_));revert gg;intro gp;refine⟨(by repeat (first|exact Av|refine keepT_drops rfl ?_|refine A5 rfl ?_)),?_⟩;(refine goI ?_;repeat (intro gg;refine goI ?_));refine⟨(by repeat (first|exact Av|refine keepT_drops rfl ?_|refine A5 rfl ?_)),?_⟩;(refine goI ?_;repeat (intro gg;refine goI ?_));(exact⟨gp,tI,tI,tI,tI⟩)
    ·(refine goI ?_;repeat (intro gg;refine goI ?_));refine⟨(by repeat (first|exact Av|refine keepT_drops rfl ?_|refine A5 rfl ?_)),?_⟩;(refine goI ?_;repeat (intro gg;refine goI ?_));revert gg;intro gp;refine⟨(by repeat (first|exact Av|refine keepT_drops rfl ?_|refine A5 rfl ?_)),?_⟩;(refine goI ?_;repeat (intro gg;refine goI ?_));(exact⟨gp,tI,tI,tI,tI⟩)
 ·
  (refine goI ?_;repeat (intro gg;refine goI ?_));refine .inr (.inr (.inr (G8 1000 Jh rfl ?_)));(refine goI ?_;repeat (intro gg;refine goI ?_));rcases ems:Cp s2 with _|⟨n,ums⟩
  ·(refine .inr (.inr (.inl ⟨_,false,0::([]++[]),_,?_,Bg (y':=.nilIface) ems (by omega),hd (by rw[hP];unfold Fj Lk;rw[ems];rfl)⟩));focus (exact wI))
  have zms:=Bz ems;simp only at zms;by_cases hn:n<0
  ·(refine .inr (.inl ⟨_,_,false,0::([]++[]),?_,Ba ems (by omega),Am,oI,dI,?_⟩);focus (exact wI));(refine goI ?_;repeat (intro gg;refine goI ?_));rw[ZX hn];(refine goI ?_;repeat (intro gg;refine goI ?_));exact hd (by rw[hP];unfold Fj Lk;rw[ems,ZA];simp only;rw[if_pos (.inl hn)];rfl)
  obtain⟨Nms,rfl⟩:=Int.eq_ofNat_of_zero_le (show 0≤n by omega);(refine .inr (.inl ⟨_,_,false,0::([]++[]),?_,Ba ems (by omega),Am,oI,dI,?_⟩);focus (exact wI));(refine goI ?_;repeat (intro gg;refine goI ?_));by_cases hm:(20:Int)<(Nms:Int)
  ·rw[ZX hm];(refine goI ?_;repeat (intro gg;refine goI ?_));exact hd (by rw[hP];unfold Fj Lk;rw[ems,ZA];simp only;rw[if_pos (.inr hm)];rfl)
  rw[ZY hm];have hPms:pkR s=(Fk mbR Nms ums).bind (kMs fr wo):=by
   rw[hP];unfold Fj Lk;rw[ems,ZA];simp only;rw[if_neg (by omega),ZA,Int.toNat_natCast]
  (refine goI ?_;repeat (intro gg;refine goI ?_));(refine⟨[(8,900000,47,5)],none,{q:List Mb×ByteArray×Nat×Nat//(q.1.length=q.2.2.2∧q.2.2.2≤Nms)∧q.2.1.size≤1000000000000∧pkR s=(Fk mbR (Nms-q.1.length) q.2.1).bind (fun r=>kMs fr wo (q.1++r.1,r.2))},[0,1,2,20],fun⟨⟨lms,tms,gms,k⟩,hl,ht,hq⟩=>[(8,.own 900000 gms),(21,.v (.int .i64 (k:Int)))],[16,32,48],fun⟨⟨lms,tms,gms,k⟩,hl,ht,hq⟩=>[(0,⟨0,.b prT,1,[[.v (.string tms)]]⟩),(900000,⟨gms,.t 47,5,lms.map Mb.row⟩)],fun⟨⟨lms,tms,gms,k⟩,hl,ht,hq⟩=>Nms-k,(by exact⟨rfl,by decide,(fun _ _ _ _ h=>by cases h),trivial⟩),fun gs=>⟨trivial,fun _=>⟨⟨([],ums,gs 900000,0),⟨rfl,ZU _⟩,by show ums.size≤_;omega,by rw[hPms];simp⟩,tI,tI,tI,tI⟩⟩,fun⟨⟨lms,tms,gms,k⟩,hl,ht,hq⟩=>?_⟩);have hl:lms.length=k∧k≤Nms:=hl;obtain⟨hl1,hl2⟩:=hl;have htms:tms.size≤1000000000000:=ht;have hq:pkR s=(Fk mbR (Nms-lms.length) tms).bind (fun r=>kMs fr wo (lms++r.1,r.2)):=hq;(refine goI ?_;repeat (intro gg;refine goI ?_));(refine Ab (fun cms=>?_) (fun cms=>?_)<;>rw[cms])
  ·have hlt:k<Nms:=(by have:=ZV cms;omega);obtain⟨j,hj⟩:∃j,Nms-lms.length=j+1:=⟨Nms-lms.length-1,by omega⟩;rw[hj]at hq;have hq:pkR s=((mbR tms).bind fun p=>(Fk mbR j p.2).bind fun q=>some (p.1::q.1,q.2)).bind (fun r=>kMs fr wo (lms++r.1,r.2)):=hq;(refine goI ?_;repeat (intro gg;refine goI ?_));refine .inr (.inr (.inr (Tt 2000 Jf rfl ?_)));(refine goI ?_;repeat (intro gg;refine goI ?_));refine⟨[0],?_⟩;(refine goI ?_;repeat (intro gg;refine goI ?_));obtain⟨F,hF⟩:∃F,F=Fk mbR:=⟨_,rfl⟩;rw[←hF]at hq;unfold mbR at hq;rcases f0:G7 tms with _|⟨x0,v0⟩
   ·(refine .inr (.inr (.inl ⟨_,false,0::([]++[]),_,?_,Fs (y':=.nilIface) f0 (by omega),hd (by rw[hq,f0];rfl)⟩));focus (exact wI))
   have y0:=Ff f0;simp only at y0;rw[f0,ZA]at hq;simp only at hq;(refine .inr (.inl ⟨_,_,false,0::([]++[]),?_,Ed f0 (by omega),Am,oI,dI,?_⟩);focus (exact wI));(refine goI ?_;repeat (intro gg;refine goI ?_));refine⟨(by repeat (first|exact Av|refine keepT_drops rfl ?_|refine A5 rfl ?_)),?_⟩;(refine goI ?_;repeat (intro gg;refine goI ?_));rcases f1:Cp v0 with _|⟨x1,v1⟩
   ·(refine .inr (.inr (.inl ⟨_,false,0::([]++[]),_,?_,Bg (y':=.nilIface) f1 (by omega),hd (by rw[hq,f1];rfl)⟩));focus (exact wI))
   have y1:=Bz f1;simp only at y1;rw[f1,ZA]at hq;simp only at hq;(refine .inr (.inl ⟨_,_,false,0::([]++[]),?_,Ba f1 (by omega),Am,oI,dI,?_⟩);focus (exact wI));(refine goI ?_;repeat (intro gg;refine goI ?_));refine⟨(by repeat (first|exact Av|refine keepT_drops rfl ?_|refine A5 rfl ?_)),?_⟩;(refine goI ?_;repeat (intro gg;refine goI ?_));rcases f2:Cp v1 with _|⟨x2,v2⟩
   ·(refine .inr (.inr (.inl ⟨_,false,0::([]++[]),_,?_,Bg (y':=.nilIface) f2 (by omega),hd (by rw[hq,f2];rfl)⟩));focus (exact wI))
   have y2:=Bz f2;simp only at y2;rw[f2,ZA]at hq;simp only at hq;(refine .inr (.inl ⟨_,_,false,0::([]++[]),?_,Ba f2 (by omega),Am,oI,dI,?_⟩);focus (exact wI));(refine goI ?_;repeat (intro gg;refine goI ?_));refine⟨(by repeat (first|exact Av|refine keepT_drops rfl ?_|refine A5 rfl ?_)),?_⟩;(refine goI ?_;repeat (intro gg;refine goI ?_));rcases f3:Cp v2 with _|⟨x3,v3⟩
   ·(refine .inr (.inr (.inl ⟨_,false,0::([]++[]),_,?_,Bg (y':=.nilIface) f3 (by omega),hd (by rw[hq,f3];rfl)⟩));focus (exact wI))
   have y3:=Bz f3;simp only at y3;rw[f3,ZA]at hq;simp only at hq;(refine .inr (.inl ⟨_,_,false,0::([]++[]),?_,Ba f3 (by omega),Am,oI,dI,?_⟩);focus (exact wI));(refine goI ?_;repeat (intro gg;refine goI ?_));refine⟨(by repeat (first|exact Av|refine keepT_drops rfl ?_|refine A5 rfl ?_)),?_⟩;(refine goI ?_;repeat (intro gg;refine goI ?_));rcases f4:Nv v3 with _|⟨x4,v4⟩
   ·(refine .inr (.inr (.inl ⟨_,false,0::([]++[]),_,?_,Kr (y':=.nilIface) f4 (by omega),hd (by rw[hq,f4];rfl)⟩));focus (exact wI))
   have y4:=Od f4;simp only at y4;rw[f4,ZA]at hq;simp only at hq;(refine .inr (.inl ⟨_,_,false,0::([]++[]),?_,Kl f4 (by omega),Am,oI,dI,?_⟩);focus (exact wI));(refine goI ?_;repeat (intro gg;refine goI ?_));obtain⟨m,hm0⟩:∃m:Mb,m=⟨x0,x1,x2,x3,x4⟩:=⟨_,rfl⟩;have hl3:(lms++[m]).length=k+1:=by simp[hl1]
   have hq2:pkR s=(Fk mbR (Nms-(lms++[m]).length) v4).bind (fun r=>kMs fr wo ((lms++[m])++r.1,r.2)):=by
    rw[hl3,show Nms-(k+1)=j by omega,←hF,hq,hm0];simp only[ZA];rcases F j v4 with _|⟨a,b⟩
    ·rfl
    ·simp only[ZA,ZS,List.cons_append,List.nil_append]
   have hsz:v4.size≤1000000000000:=by omega
   refine⟨lI,lI,?_⟩;(refine goI ?_;repeat (intro gg;refine goI ?_));(exact⟨none,trivial,fun gr=>⟨⟨(lms++[m],v4,gg,k+1),⟨hl3,by show k+1≤Nms;omega⟩,hsz,hq2⟩,by show Nms-(k+1)<Nms-k;omega,tI,tI,⟨rfl,⟨congrArg (fun r=>some (Ent.mk gg (.t 47) 5 r)) (by rw[ZI,hm0];rfl),trivial⟩⟩,tI⟩⟩)
  ·have hge:=(by have:=ZW cms;omega);obtain rfl:k=Nms:=by omega
   have hP:pkR s=(Fj 40 svR tms).bind (kSv fr wo lms):=by
    rw[hq,hl1,Nat.sub_self];show(some (([]:List Mb),tms)).bind _=_;rw[ZA,List.append_nil];rfl
   (refine goI ?_;repeat (intro gg;refine goI ?_));refine .inr (.inr (.inr (G8 3000 Iw rfl ?_)));(refine goI ?_;repeat (intro gg;refine goI ?_));rcases esv:Cp tms with _|⟨n,usv⟩
   ·(refine .inr (.inr (.inl ⟨_,false,0::([]++[]),_,?_,Bg (y':=.nilIface) esv (by omega),hd (by rw[hP];unfold Fj Lk;rw[esv];rfl)⟩));focus (exact wI))
   have zsv:=Bz esv;simp only at zsv;by_cases hn:n<0
   ·(refine .inr (.inl ⟨_,_,false,0::([]++[]),?_,Ba esv (by omega),Am,oI,dI,?_⟩);focus (exact wI));(refine goI ?_;repeat (intro gg;refine goI ?_));rw[ZX hn];(refine goI ?_;repeat (intro gg;refine goI ?_));exact hd (by rw[hP];unfold Fj Lk;rw[esv,ZA];simp only;rw[if_pos (.inl hn)];rfl)
   obtain⟨Nsv,rfl⟩:=Int.eq_ofNat_of_zero_le (show 0≤n by omega);(refine .inr (.inl ⟨_,_,false,0::([]++[]),?_,Ba esv (by omega),Am,oI,dI,?_⟩);focus (exact wI));(refine goI ?_;repeat (intro gg;refine goI ?_));by_cases hm:(40:Int)<(Nsv:Int)
   ·rw[ZX hm];(refine goI ?_;repeat (intro gg;refine goI ?_));exact hd (by rw[hP];unfold Fj Lk;rw[esv,ZA];simp only;rw[if_pos (.inr hm)];rfl)
   rw[ZY hm];have hPsv:pkR s=(Fk svR Nsv usv).bind (kSv fr wo lms):=by
    rw[hP];unfold Fj Lk;rw[esv,ZA];simp only;rw[if_neg (by omega),ZA,Int.toNat_natCast]
   (refine goI ?_;repeat (intro gg;refine goI ?_));(refine⟨[(8,900016,50,9)],none,{q:List Sv×ByteArray×Nat×Nat//(q.1.length=q.2.2.2∧q.2.2.2≤Nsv)∧q.2.1.size≤1000000000000∧pkR s=(Fk svR (Nsv-q.1.length) q.2.1).bind (fun r=>kSv fr wo lms (q.1++r.1,r.2))},[0,1,2,20],fun⟨⟨lsv,tsv,gsv,k⟩,hl,ht,hq⟩=>[(8,.own 900016 gsv),(21,.v (.int .i64 (k:Int)))],[16,32,48,900000],fun⟨⟨lsv,tsv,gsv,k⟩,hl,ht,hq⟩=>[(0,⟨0,.b prT,1,[[.v (.string tsv)]]⟩),(900016,⟨gsv,.t 50,9,lsv.map Sv.row⟩)],fun⟨⟨lsv,tsv,gsv,k⟩,hl,ht,hq⟩=>Nsv-k,(by exact⟨rfl,by decide,(fun _ _ _ _ h=>by cases h),trivial⟩),fun gs=>⟨trivial,fun _=>⟨⟨([],usv,gs 900016,0),⟨rfl,ZU _⟩,by show usv.size≤_;omega,by rw[hPsv];simp⟩,tI,tI,tI,tI⟩⟩,fun⟨⟨lsv,tsv,gsv,k⟩,hl,ht,hq⟩=>?_⟩);have hl:lsv.length=k∧k≤Nsv:=hl;obtain⟨hl1,hl2⟩:=hl;have htsv:tsv.size≤1000000000000:=ht;have hq:pkR s=(Fk svR (Nsv-lsv.length) tsv).bind (fun r=>kSv fr wo lms (lsv++r.1,r.2)):=hq;(refine goI ?_;repeat (intro gg;refine goI ?_));(refine Ab (fun csv=>?_) (fun csv=>?_)<;>rw[csv])
   ·have hlt:k<Nsv:=(by have:=ZV csv;omega);obtain⟨j,hj⟩:∃j,Nsv-lsv.length=j+1:=⟨Nsv-lsv.length-1,by omega⟩;rw[hj]at hq;have hq:pkR s=((svR tsv).bind fun p=>(Fk svR j p.2).bind fun q=>some (p.1::q.1,q.2)).bind (fun r=>kSv fr wo lms (lsv++r.1,r.2)):=hq;(refine goI ?_;repeat (intro gg;refine goI ?_));refine .inr (.inr (.inr (Tt 4000 I7 rfl ?_)));(refine goI ?_;repeat (intro gg;refine goI ?_));refine⟨[0],?_⟩;(refine goI ?_;repeat (intro gg;refine goI ?_));obtain⟨F,hF⟩:∃F,F=Fk svR:=⟨_,rfl⟩;rw[←hF]at hq;unfold svR at hq;rcases f0:G7 tsv with _|⟨x0,v0⟩
    ·(refine .inr (.inr (.inl ⟨_,false,0::([]++[]),_,?_,Fs (y':=.nilIface) f0 (by omega),hd (by rw[hq,f0];rfl)⟩));focus (exact wI))
    have y0:=Ff f0;simp only at y0;rw[f0,ZA]at hq;simp only at hq;(refine .inr (.inl ⟨_,_,false,0::([]++[]),?_,Ed f0 (by omega),Am,oI,dI,?_⟩);focus (exact wI));(refine goI ?_;repeat (intro gg;refine goI ?_));refine⟨(by repeat (first|exact Av|refine keepT_drops rfl ?_|refine A5 rfl ?_)),?_⟩;(refine goI ?_;repeat (intro gg;refine goI ?_));rcases f1:G7 v0 with _|⟨x1,v1⟩
    ·(refine .inr (.inr (.inl ⟨_,false,0::([]++[]),_,?_,Fs (y':=.nilIface) f1 (by omega),hd (by rw[hq,f1];rfl)⟩));focus (exact wI))
    have y1:=Ff f1;simp only at y1;rw[f1,ZA]at hq;simp only at hq;(refine .inr (.inl ⟨_,_,false,0::([]++[]),?_,Ed f1 (by omega),Am,oI,dI,?_⟩);focus (exact wI));(refine goI ?_;repeat (intro gg;refine goI ?_));refine⟨(by repeat (first|exact Av|refine keepT_drops rfl ?_|refine A5 rfl ?_)),?_⟩;(refine goI ?_;repeat (intro gg;refine goI ?_));rcases f2:G7 v1 with _|⟨x2,v2⟩
    ·(refine .inr (.inr (.inl ⟨_,false,0::([]++[]),_,?_,Fs (y':=.nilIface) f2 (by omega),hd (by rw[hq,f2];rfl)⟩));focus (exact wI))
    have y2:=Ff f2;simp only at y2;rw[f2,ZA]at hq;simp only at hq;(refine .inr (.inl ⟨_,_,false,0::([]++[]),?_,Ed f2 (by omega),Am,oI,dI,?_⟩);focus (exact wI));(refine goI ?_;repeat (intro gg;refine goI ?_));refine⟨(by repeat (first|exact Av|refine keepT_drops rfl ?_|refine A5 rfl ?_)),?_⟩;(refine goI ?_;repeat (intro gg;refine goI ?_));rcases f3:G7 v2 with _|⟨x3,v3⟩
    ·(refine .inr (.inr (.inl ⟨_,false,0::([]++[]),_,?_,Fs (y':=.nilIface) f3 (by omega),hd (by rw[hq,f3];rfl)⟩));focus (exact wI))
    have y3:=Ff f3;simp only at y3;rw[f3,ZA]at hq;simp only at hq;(refine .inr (.inl ⟨_,_,false,0::([]++[]),?_,Ed f3 (by omega),Am,oI,dI,?_⟩);focus (exact wI));(refine goI ?_;repeat (intro gg;refine goI ?_));refine⟨(by repeat (first|exact Av|refine keepT_drops rfl ?_|refine A5 rfl ?_)),?_⟩;(refine goI ?_;repeat (intro gg;refine goI ?_));rcases f4:Cp v3 with _|⟨x4,v4⟩
    ·(refine .inr (.inr (.inl ⟨_,false,0::([]++[]),_,?_,Bg (y':=.nilIface) f4 (by omega),hd (by rw[hq,f4];rfl)⟩));focus (exact wI))
    have y4:=Bz f4;simp only at y4;rw[f4,ZA]at hq;simp only at hq;(refine .inr (.inl ⟨_,_,false,0::([]++[]),?_,Ba f4 (by omega),Am,oI,dI,?_⟩);focus (exact wI));(refine goI ?_;repeat (intro gg;refine goI ?_));refine⟨(by repeat (first|exact Av|refine keepT_drops rfl ?_|refine A5 rfl ?_)),?_⟩;(refine goI ?_;repeat (intro gg;refine goI ?_));rcases f5:Cp v4 with _|⟨x5,v5⟩
    ·(refine .inr (.inr (.inl ⟨_,false,0::([]++[]),_,?_,Bg (y':=.nilIface) f5 (by omega),hd (by rw[hq,f5];rfl)⟩));focus (exact wI))
    have y5:=Bz f5;simp only at y5;rw[f5,ZA]at hq;simp only at hq;(refine .inr (.inl ⟨_,_,false,0::([]++[]),?_,Ba f5 (by omega),Am,oI,dI,?_⟩);focus (exact wI));(refine goI ?_;repeat (intro gg;refine goI ?_));refine⟨(by repeat (first|exact Av|refine keepT_drops rfl ?_|refine A5 rfl ?_)),?_⟩;(refine goI ?_;repeat (intro gg;refine goI ?_));rcases f6:Nv v5 with _|⟨x6,v6⟩
    ·(refine .inr (.inr (.inl ⟨_,false,0::([]++[]),_,?_,Kr (y':=.nilIface) f6 (by omega),hd (by rw[hq,f6];rfl)⟩));focus (exact wI))
    have y6:=Od f6;simp only at y6;rw[f6,ZA]at hq;simp only at hq;(refine .inr (.inl ⟨_,_,false,0::([]++[]),?_,Kl f6 (by omega),Am,oI,dI,?_⟩);focus (exact wI));(refine goI ?_;repeat (intro gg;refine goI ?_));refine⟨(by repeat (first|exact Av|refine keepT_drops rfl ?_|refine A5 rfl ?_)),?_⟩;(refine goI ?_;repeat (intro gg;refine goI ?_));rcases f7:Cp v6 with _|⟨x7,v7⟩
    ·(refine .inr (.inr (.inl ⟨_,false,0::([]++[]),_,?_,Bg (y':=.nilIface) f7 (by omega),hd (by rw[hq,f7];rfl)⟩));focus (exact wI))
    have y7:=Bz f7;simp only at y7;rw[f7,ZA]at hq;simp only at hq;(refine .inr (.inl ⟨_,_,false,0::([]++[]),?_,Ba f7 (by omega),Am,oI,dI,?_⟩);focus (exact wI));(refine goI ?_;repeat (intro gg;refine goI ?_));refine⟨(by repeat (first|exact Av|refine keepT_drops rfl ?_|refine A5 rfl ?_)),?_⟩;(refine goI ?_;repeat (intro gg;refine goI ?_));rcases f8:Nv v7 with _|⟨x8,v8⟩
    ·(refine .inr (.inr (.inl ⟨_,false,0::([]++[]),_,?_,Kr (y':=.nilIface) f8 (by omega),hd (by rw[hq,f8];rfl)⟩));focus (exact wI))
    have y8:=Od f8;simp only at y8;rw[f8,ZA]at hq;simp only at hq;(refine .inr (.inl ⟨_,_,false,0::([]++[]),?_,Kl f8 (by omega),Am,oI,dI,?_⟩);focus (exact wI));(refine goI ?_;repeat (intro gg;refine goI ?_));obtain⟨m,hm0⟩:∃m:Sv,m=⟨x0,x1,x2,x3,x4,x5,x6,x7,x8⟩:=⟨_,rfl⟩;have hl3:(lsv++[m]).length=k+1:=by simp[hl1]
    have hq2:pkR s=(Fk svR (Nsv-(lsv++[m]).length) v8).bind (fun r=>kSv fr wo lms ((lsv++[m])++r.1,r.2)):=by
     rw[hl3,show Nsv-(k+1)=j by omega,←hF,hq,hm0];simp only[ZA];rcases F j v8 with _|⟨a,b⟩
     ·rfl
     ·simp only[ZA,ZS,List.cons_append,List.nil_append]
    have hsz:v8.size≤1000000000000:=by omega
    refine⟨lI,lI,?_⟩;(refine goI ?_;repeat (intro gg;refine goI ?_));(exact⟨none,trivial,fun gr=>⟨⟨(lsv++[m],v8,gg,k+1),⟨hl3,by show k+1≤Nsv;omega⟩,hsz,hq2⟩,by show Nsv-(k+1)<Nsv-k;omega,tI,tI,⟨rfl,⟨congrArg (fun r=>some (Ent.mk gg (.t 50) 9 r)) (by rw[ZI,hm0];rfl),trivial⟩⟩,tI⟩⟩)
   ·have hge:=(by have:=ZW csv;omega);obtain rfl:k=Nsv:=by omega
    have hP:pkR s=(Fj 6 gwR tsv).bind (kGs fr wo lms lsv):=by
     rw[hq,hl1,Nat.sub_self];show(some (([]:List Sv),tsv)).bind _=_;rw[ZA,List.append_nil];rfl
    (refine goI ?_;repeat (intro gg;refine goI ?_));refine .inr (.inr (.inr (G8 5000 Iv rfl ?_)));(refine goI ?_;repeat (intro gg;refine goI ?_));rcases egs:Cp tsv with _|⟨n,ugs⟩
    ·(refine .inr (.inr (.inl ⟨_,false,0::([]++[]),_,?_,Bg (y':=.nilIface) egs (by omega),hd (by rw[hP];unfold Fj Lk;rw[egs];rfl)⟩));focus (exact wI))
    have zgs:=Bz egs;simp only at zgs;by_cases hn:n<0
    ·(refine .inr (.inl ⟨_,_,false,0::([]++[]),?_,Ba egs (by omega),Am,oI,dI,?_⟩);focus (exact wI));(refine goI ?_;repeat (intro gg;refine goI ?_));rw[ZX hn];(refine goI ?_;repeat (intro gg;refine goI ?_));exact hd (by rw[hP];unfold Fj Lk;rw[egs,ZA];simp only;rw[if_pos (.inl hn)];rfl)
    obtain⟨Ngs,rfl⟩:=Int.eq_ofNat_of_zero_le (show 0≤n by omega);(refine .inr (.inl ⟨_,_,false,0::([]++[]),?_,Ba egs (by omega),Am,oI,dI,?_⟩);focus (exact wI));(refine goI ?_;repeat (intro gg;refine goI ?_));by_cases hm:(6:Int)<(Ngs:Int)
    ·rw[ZX hm];(refine goI ?_;repeat (intro gg;refine goI ?_));exact hd (by rw[hP];unfold Fj Lk;rw[egs,ZA];simp only;rw[if_pos (.inr hm)];rfl)
    rw[ZY hm];have hPgs:pkR s=(Fk gwR Ngs ugs).bind (kGs fr wo lms lsv):=by
     rw[hP];unfold Fj Lk;rw[egs,ZA];simp only;rw[if_neg (by omega),ZA,Int.toNat_natCast]
    (refine goI ?_;repeat (intro gg;refine goI ?_));(refine⟨[(8,900032,53,3)],none,{q:List Gw×ByteArray×Nat×Nat//(q.1.length=q.2.2.2∧q.2.2.2≤Ngs)∧q.2.1.size≤1000000000000∧pkR s=(Fk gwR (Ngs-q.1.length) q.2.1).bind (fun r=>kGs fr wo lms lsv (q.1++r.1,r.2))},[0,1,2,20],fun⟨⟨lgs,tgs,ggs,k⟩,hl,ht,hq⟩=>[(8,.own 900032 ggs),(21,.v (.int .i64 (k:Int)))],[16,32,48,900000,900016],fun⟨⟨lgs,tgs,ggs,k⟩,hl,ht,hq⟩=>[(0,⟨0,.b prT,1,[[.v (.string tgs)]]⟩),(900032,⟨ggs,.t 53,3,lgs.map Gw.row⟩)],fun⟨⟨lgs,tgs,ggs,k⟩,hl,ht,hq⟩=>Ngs-k,(by exact⟨rfl,by decide,(fun _ _ _ _ h=>by cases h),trivial⟩),fun gs=>⟨trivial,fun _=>⟨⟨([],ugs,gs 900032,0),⟨rfl,ZU _⟩,by show ugs.size≤_;omega,by rw[hPgs];simp⟩,tI,tI,tI,tI⟩⟩,fun⟨⟨lgs,tgs,ggs,k⟩,hl,ht,hq⟩=>?_⟩);have hl:lgs.length=k∧k≤Ngs:=hl;obtain⟨hl1,hl2⟩:=hl;have htgs:tgs.size≤1000000000000:=ht;have hq:pkR s=(Fk gwR (Ngs-lgs.length) tgs).bind (fun r=>kGs fr wo lms lsv (lgs++r.1,r.2)):=hq;(refine goI ?_;repeat (intro gg;refine goI ?_));(refine Ab (fun cgs=>?_) (fun cgs=>?_)<;>rw[cgs])
    ·have hlt:k<Ngs:=(by have:=ZV cgs;omega);obtain⟨j,hj⟩:∃j,Ngs-lgs.length=j+1:=⟨Ngs-lgs.length-1,by omega⟩;rw[hj]at hq;have hq:pkR s=((gwR tgs).bind fun p=>(Fk gwR j p.2).bind fun q=>some (p.1::q.1,q.2)).bind (fun r=>kGs fr wo lms lsv (lgs++r.1,r.2)):=hq;(refine goI ?_;repeat (intro gg;refine goI ?_));refine .inr (.inr (.inr (Tt 6000 I8 rfl ?_)));(refine goI ?_;repeat (intro gg;refine goI ?_));refine⟨[0],?_⟩;(refine goI ?_;repeat (intro gg;refine goI ?_));obtain⟨F,hF⟩:∃F,F=Fk gwR:=⟨_,rfl⟩;rw[←hF]at hq;unfold gwR at hq;rcases f0:G7 tgs with _|⟨x0,v0⟩
     ·(refine .inr (.inr (.inl ⟨_,false,0::([]++[]),_,?_,Fs (y':=.nilIface) f0 (by omega),hd (by rw[hq,f0];rfl)⟩));focus (exact wI))
     have y0:=Ff f0;simp only at y0;rw[f0,ZA]at hq;simp only at hq;(refine .inr (.inl ⟨_,_,false,0::([]++[]),?_,Ed f0 (by omega),Am,oI,dI,?_⟩);focus (exact wI));(refine goI ?_;repeat (intro gg;refine goI ?_));refine⟨(by repeat (first|exact Av|refine keepT_drops rfl ?_|refine A5 rfl ?_)),?_⟩;(refine goI ?_;repeat (intro gg;refine goI ?_));rcases f1:Cp v0 with _|⟨x1,v1⟩
     ·(refine .inr (.inr (.inl ⟨_,false,0::([]++[]),_,?_,Bg (y':=.nilIface) f1 (by omega),hd (by rw[hq,f1];rfl)⟩));focus (exact wI))
     have y1:=Bz f1;simp only at y1;rw[f1,ZA]at hq;simp only at hq;(refine .inr (.inl ⟨_,_,false,0::([]++[]),?_,Ba f1 (by omega),Am,oI,dI,?_⟩);focus (exact wI));(refine goI ?_;repeat (intro gg;refine goI ?_));refine⟨(by repeat (first|exact Av|refine keepT_drops rfl ?_|refine A5 rfl ?_)),?_⟩;(refine goI ?_;repeat (intro gg;refine goI ?_));rcases f2:Cp v1 with _|⟨x2,v2⟩
     ·(refine .inr (.inr (.inl ⟨_,false,0::([]++[]),_,?_,Bg (y':=.nilIface) f2 (by omega),hd (by rw[hq,f2];rfl)⟩));focus (exact wI))
     have y2:=Bz f2;simp only at y2;rw[f2,ZA]at hq;simp only at hq;(refine .inr (.inl ⟨_,_,false,0::([]++[]),?_,Ba f2 (by omega),Am,oI,dI,?_⟩);focus (exact wI));(refine goI ?_;repeat (intro gg;refine goI ?_));obtain⟨m,hm0⟩:∃m:Gw,m=⟨x0,x1,x2⟩:=⟨_,rfl⟩;have hl3:(lgs++[m]).length=k+1:=by simp[hl1]
     have hq2:pkR s=(Fk gwR (Ngs-(lgs++[m]).length) v2).bind (fun r=>kGs fr wo lms lsv ((lgs++[m])++r.1,r.2)):=by
      rw[hl3,show Ngs-(k+1)=j by omega,←hF,hq,hm0];simp only[ZA];rcases F j v2 with _|⟨a,b⟩
      ·rfl
      ·simp only[ZA,ZS,List.cons_append,List.nil_append]
     have hsz:v2.size≤1000000000000:=by omega
     refine⟨lI,lI,?_⟩;(refine goI ?_;repeat (intro gg;refine goI ?_));(exact⟨none,trivial,fun gr=>⟨⟨(lgs++[m],v2,gg,k+1),⟨hl3,by show k+1≤Ngs;omega⟩,hsz,hq2⟩,by show Ngs-(k+1)<Ngs-k;omega,tI,tI,⟨rfl,⟨congrArg (fun r=>some (Ent.mk gg (.t 53) 3 r)) (by rw[ZI,hm0];rfl),trivial⟩⟩,tI⟩⟩)
    ·have hge:=(by have:=ZW cgs;omega);obtain rfl:k=Ngs:=by omega
     have hP:pkR s=(Fj 20 whR tgs).bind (kWh fr wo lms lsv lgs):=by
      rw[hq,hl1,Nat.sub_self];show(some (([]:List Gw),tgs)).bind _=_;rw[ZA,List.append_nil];rfl
     (refine goI ?_;repeat (intro gg;refine goI ?_));refine .inr (.inr (.inr (G8 7000 Jx rfl ?_)));(refine goI ?_;repeat (intro gg;refine goI ?_));rcases ewh:Cp tgs with _|⟨n,uwh⟩
     ·(refine .inr (.inr (.inl ⟨_,false,0::([]++[]),_,?_,Bg (y':=.nilIface) ewh (by omega),hd (by rw[hP];unfold Fj Lk;rw[ewh];rfl)⟩));focus (exact wI))
     have zwh:=Bz ewh;simp only at zwh;by_cases hn:n<0
     ·(refine .inr (.inl ⟨_,_,false,0::([]++[]),?_,Ba ewh (by omega),Am,oI,dI,?_⟩);focus (exact wI));(refine goI ?_;repeat (intro gg;refine goI ?_));rw[ZX hn];(refine goI ?_;repeat (intro gg;refine goI ?_));exact hd (by rw[hP];unfold Fj Lk;rw[ewh,ZA];simp only;rw[if_pos (.inl hn)];rfl)
     obtain⟨Nwh,rfl⟩:=Int.eq_ofNat_of_zero_le (show 0≤n by omega);(refine .inr (.inl ⟨_,_,false,0::([]++[]),?_,Ba ewh (by omega),Am,oI,dI,?_⟩);focus (exact wI));(refine goI ?_;repeat (intro gg;refine goI ?_));by_cases hm:(20:Int)<(Nwh:Int)
     ·rw[ZX hm];(refine goI ?_;repeat (intro gg;refine goI ?_));exact hd (by rw[hP];unfold Fj Lk;rw[ewh,ZA];simp only;rw[if_pos (.inr hm)];rfl)
     rw[ZY hm];have hPwh:pkR s=(Fk whR Nwh uwh).bind (kWh fr wo lms lsv lgs):=by
      rw[hP];unfold Fj Lk;rw[ewh,ZA];simp only;rw[if_neg (by omega),ZA,Int.toNat_natCast]
     (refine goI ?_;repeat (intro gg;refine goI ?_));(refine⟨[(8,900048,88,6)],none,{q:List Wh×ByteArray×Nat×Nat//(q.1.length=q.2.2.2∧q.2.2.2≤Nwh)∧q.2.1.size≤1000000000000∧pkR s=(Fk whR (Nwh-q.1.length) q.2.1).bind (fun r=>kWh fr wo lms lsv lgs (q.1++r.1,r.2))},[0,1,2,20],fun⟨⟨lwh,twh,gwh,k⟩,hl,ht,hq⟩=>[(8,.own 900048 gwh),(21,.v (.int .i64 (k:Int)))],[16,32,48,900000,900016,900032],fun⟨⟨lwh,twh,gwh,k⟩,hl,ht,hq⟩=>[(0,⟨0,.b prT,1,[[.v (.string twh)]]⟩),(900048,⟨gwh,.t 88,6,lwh.map Wh.row⟩)],fun⟨⟨lwh,twh,gwh,k⟩,hl,ht,hq⟩=>Nwh-k,(by exact⟨rfl,by decide,(fun _ _ _ _ h=>by cases h),trivial⟩),fun gs=>⟨trivial,fun _=>⟨⟨([],uwh,gs 900048,0),⟨rfl,ZU _⟩,by show uwh.size≤_;omega,by rw[hPwh];simp⟩,tI,tI,tI,tI⟩⟩,fun⟨⟨lwh,twh,gwh,k⟩,hl,ht,hq⟩=>?_⟩);have hl:lwh.length=k∧k≤Nwh:=hl;obtain⟨hl1,hl2⟩:=hl;have htwh:twh.size≤1000000000000:=ht;have hq:pkR s=(Fk whR (Nwh-lwh.length) twh).bind (fun r=>kWh fr wo lms lsv lgs (lwh++r.1,r.2)):=hq;(refine goI ?_;repeat (intro gg;refine goI ?_));(refine Ab (fun cwh=>?_) (fun cwh=>?_)<;>rw[cwh])
     ·have hlt:k<Nwh:=(by have:=ZV cwh;omega);obtain⟨j,hj⟩:∃j,Nwh-lwh.length=j+1:=⟨Nwh-lwh.length-1,by omega⟩;rw[hj]at hq;have hq:pkR s=((whR twh).bind fun p=>(Fk whR j p.2).bind fun q=>some (p.1::q.1,q.2)).bind (fun r=>kWh fr wo lms lsv lgs (lwh++r.1,r.2)):=hq;(refine goI ?_;repeat (intro gg;refine goI ?_));refine .inr (.inr (.inr (Tt 8000 Jm rfl ?_)));(refine goI ?_;repeat (intro gg;refine goI ?_));refine⟨[0],?_⟩;(refine goI ?_;repeat (intro gg;refine goI ?_));obtain⟨F,hF⟩:∃F,F=Fk whR:=⟨_,rfl⟩;rw[←hF]at hq;unfold whR at hq;rcases f0:G7 twh with _|⟨x0,v0⟩
      ·(refine .inr (.inr (.inl ⟨_,false,0::([]++[]),_,?_,Fs (y':=.nilIface) f0 (by omega),hd (by rw[hq,f0];rfl)⟩));focus (exact wI))
      have y0:=Ff f0;simp only at y0;rw[f0,ZA]at hq;simp only at hq;(refine .inr (.inl ⟨_,_,false,0::([]++[]),?_,Ed f0 (by omega),Am,oI,dI,?_⟩);focus (exact wI));(refine goI ?_;repeat (intro gg;refine goI ?_));refine⟨(by repeat (first|exact Av|refine keepT_drops rfl ?_|refine A5 rfl ?_)),?_⟩;(refine goI ?_;repeat (intro gg;refine goI ?_));rcases f1:Cp v0 with _|⟨x1,v1⟩
      ·(refine .inr (.inr (.inl ⟨_,false,0::([]++[]),_,?_,Bg (y':=.nilIface) f1 (by omega),hd (by rw[hq,f1];rfl)⟩));focus (exact wI))
      have y1:=Bz f1;simp only at y1;rw[f1,ZA]at hq;simp only at hq;(refine .inr (.inl ⟨_,_,false,0::([]++[]),?_,Ba f1 (by omega),Am,oI,dI,?_⟩);focus (exact wI));(refine goI ?_;repeat (intro gg;refine goI ?_));refine⟨(by repeat (first|exact Av|refine keepT_drops rfl ?_|refine A5 rfl ?_)),?_⟩;(refine goI ?_;repeat (intro gg;refine goI ?_));rcases f2:Cp v1 with _|⟨x2,v2⟩
      ·(refine .inr (.inr (.inl ⟨_,false,0::([]++[]),_,?_,Bg (y':=.nilIface) f2 (by omega),hd (by rw[hq,f2];rfl)⟩));focus (exact wI))
      have y2:=Bz f2;simp only at y2;rw[f2,ZA]at hq;simp only at hq;(refine .inr (.inl ⟨_,_,false,0::([]++[]),?_,Ba f2 (by omega),Am,oI,dI,?_⟩);focus (exact wI));(refine goI ?_;repeat (intro gg;refine goI ?_));refine⟨(by repeat (first|exact Av|refine keepT_drops rfl ?_|refine A5 rfl ?_)),?_⟩;(refine goI ?_;repeat (intro gg;refine goI ?_));rcases f3:Cp v2 with _|⟨x3,v3⟩
      ·(refine .inr (.inr (.inl ⟨_,false,0::([]++[]),_,?_,Bg (y':=.nilIface) f3 (by omega),hd (by rw[hq,f3];rfl)⟩));focus (exact wI))
      have y3:=Bz f3;simp only at y3;rw[f3,ZA]at hq;simp only at hq;(refine .inr (.inl ⟨_,_,false,0::([]++[]),?_,Ba f3 (by omega),Am,oI,dI,?_⟩);focus (exact wI));(refine goI ?_;repeat (intro gg;refine goI ?_));refine⟨(by repeat (first|exact Av|refine keepT_drops rfl ?_|refine A5 rfl ?_)),?_⟩;(refine goI ?_;repeat (intro gg;refine goI ?_));rcases f4:Cp v3 with _|⟨x4,v4⟩
      ·(refine .inr (.inr (.inl ⟨_,false,0::([]++[]),_,?_,Bg (y':=.nilIface) f4 (by omega),hd (by rw[hq,f4];rfl)⟩));focus (exact wI))
      have y4:=Bz f4;simp only at y4;rw[f4,ZA]at hq;simp only at hq;(refine .inr (.inl ⟨_,_,false,0::([]++[]),?_,Ba f4 (by omega),Am,oI,dI,?_⟩);focus (exact wI));(refine goI ?_;repeat (intro gg;refine goI ?_));refine⟨(by repeat (first|exact Av|refine keepT_drops rfl ?_|refine A5 rfl ?_)),?_⟩;(refine goI ?_;repeat (intro gg;refine goI ?_));rcases f5:Cp v4 with _|⟨x5,v5⟩
      ·(refine .inr (.inr (.inl ⟨_,false,0::([]++[]),_,?_,Bg (y':=.nilIface) f5 (by omega),hd (by rw[hq,f5];rfl)⟩));focus (exact wI))
      have y5:=Bz f5;simp only at y5;rw[f5,ZA]at hq;simp only at hq;(refine .inr (.inl ⟨_,_,false,0::([]++[]),?_,Ba f5 (by omega),Am,oI,dI,?_⟩);focus (exact wI));(refine goI ?_;repeat (intro gg;refine goI ?_));obtain⟨m,hm0⟩:∃m:Wh,m=⟨x0,⟨x1,x2,x3,x4,x5⟩⟩:=⟨_,rfl⟩;have hl3:(lwh++[m]).length=k+1:=by simp[hl1]
      have hq2:pkR s=(Fk whR (Nwh-(lwh++[m]).length) v5).bind (fun r=>kWh fr wo lms lsv lgs ((lwh++[m])++r.1,r.2)):=by
       rw[hl3,show Nwh-(k+1)=j by omega,←hF,hq,hm0];simp only[ZA];rcases F j v5 with _|⟨a,b⟩
       ·rfl
       ·simp only[ZA,ZS,List.cons_append,List.nil_append]
      have hsz:v5.size≤1000000000000:=by omega
      refine⟨lI,lI,?_⟩;(refine goI ?_;repeat (intro gg;refine goI ?_));(exact⟨none,trivial,fun gr=>⟨⟨(lwh++[m],v5,gg,k+1),⟨hl3,by show k+1≤Nwh;omega⟩,hsz,hq2⟩,by show Nwh-(k+1)<Nwh-k;omega,tI,tI,⟨rfl,⟨congrArg (fun r=>some (Ent.mk gg (.t 88) 6 r)) (by rw[ZI,hm0];rfl),trivial⟩⟩,tI⟩⟩)
     ·have hge:=(by have:=ZW cwh;omega);obtain rfl:k=Nwh:=by omega
      have hP:pkR s=some (⟨fr,wo,lms,lsv,lgs,lwh⟩,twh):=by
       rw[hq,hl1,Nat.sub_self];show(some (([]:List Wh),twh)).bind _=_;rw[ZA,List.append_nil];rfl
      (refine goI ?_;repeat (intro gg;refine goI ?_));refine hk ⟨fr,wo,lms,lsv,lgs,lwh⟩ twh _ _ hP ?_;(exact⟨_,0::([]++[]),.cell1 rfl rfl rfl rfl rfl rfl .nil,Adv cBI (Aen (gone:=[]) (gone1:=[]) rfl aI (by decide) (by decide) (by decide) (.nil _))⟩)
theorem Aaz[Glob]:Cm Aqk=Cm Di:=by rfl
theorem Abp[Glob][Tabs]{s r:ByteArray}{p:Pk}(h:pkR s=some (p,r))(hs:s.size≤1000000000000):Hd Tryz.prog 54 [.mn prT [.c (.v (.string s))] [.c (.v (.string r))]] [.p (.c (.agg p.row))]:=
 Ah8 E7 Aaz rfl (Uo rfl) (Sl (y':=.string r) hs noD (Ze [(2,some (true,6))] [.mn prT [.c (.v (.string s))] [.c (.v (.string r))]] [.p (.c (.agg p.row))]) (fun q=>by rw[h]at q;cases q) (fun p' r' env H e k=>by
  rw[h]at e;cases e;exact k))
theorem Acx[Glob][Tabs]{s:ByteArray}{y':Value}(h:pkR s=none)(hs:s.size≤1000000000000):Ha Tryz.prog 54 [.mn prT [.c (.v (.string s))] [.c (.v y')]] Dt:=
 Ace E7 Aaz rfl (Uo rfl) (Sl (y':=y') hs (fun x=>x=Dt) Anl (fun _=>rfl) (fun p' r' env H e=>by
  rw[h]at e;cases e))
theorem Fr.set_{F:Nat→Prop}{w w':World}(h:Fr F w w'){b:Nat}(hb:F b)(i:Nat)(v:Value):Fr F w (w'.setCell ⟨b,i,none⟩ v):=by
 have hs:=h.size;refine⟨h.os,h.tape,h.output,by simp[World.setCell];omega,fun k hk hF=>?_⟩;rw[←h.block k hk hF];have:k≠b:=fun e=>hF (e▸hb);exact Below.heap_setCell w' ⟨b,i,none⟩ v k this
theorem Fr.alloc_{F:Nat→Prop}{w w':World}(h:Fr F w w')(o:Obj):Fr F w (w'.alloc o):=by
 have hs:=h.size;refine⟨h.os,h.tape,h.output,by rw[show(w'.alloc o).heap.size=w'.heap.size+1 from by simp[World.alloc,-World.alloc_eq]];omega,fun k hk hF=>?_⟩;rw[←h.block k hk hF];exact Below.heap_alloc w' o k (by omega)
theorem Z8(T:TypeId)(w:World):(Instr.typeAssert Dt T 100 true).run Tryz.prog w=.ok (.tuple #[.agg #[],.bool true]) w:=by
 have hu:=Tryz.underlying100;simp[Instr.typeAssert,Dt,run_underlying hu]
theorem Acv(T:TypeId)(w:World):(Instr.typeAssert .nilIface T 100 true).run Tryz.prog w=.ok (.tuple #[.agg #[],.bool false]) w:=by
 have hu:=Tryz.underlying100;have h:(Tryz.prog.info? 100).map (·.zero)=some (some (.agg #[])):=by kernel_rfl
 obtain⟨i,hi,hz⟩:=Option.map_eq_some_iff.1 h;simp[Instr.typeAssert,run_underlying hu,zeroValue,typeInfo,hi,hz]
def Gg:Array Value:= #[.string ⟨#[]⟩,.bool false,.slice none 0 0,.slice none 0 0,.slice none 0 0,.slice none 0 0]
structure Aes(w:World)(p q:Nat)(w':World):Prop where
 m:Blk w' p 59 Gg
 e:Blk w' q 26 #[.int .i64 1]
 fr:Fr (fun k=>k=p∨k=q) w w'
set_option maxRecDepth 100000 in
set_option maxHeartbeats 2000000 in
theorem Ab3(p q:Nat)(c0 c1 c2 c3 c4 c5 x:Value)(w:World)(hp:Blk w p 59 #[c0,c1,c2,c3,c4,c5])(hq:Blk w q 26 #[x])(hpq:p≠q):
  CallsD Tryz.prog 53 #[.pointer (some ⟨p,0,none⟩),.pointer (some ⟨q,0,none⟩)] (.panicking [{v:=Dt,recovered:=false}]) w fun e u' w'=>e=.returned (.tuple #[])∧u'=.panicking [{v:=Dt,recovered:=true}]∧Aes w p q w':=by
 have hlp:=hp.lt;have hlq:=hq.lt;refine callsD_of_wpS Tryz.func53 rfl fun c₀ cs hu=>?_;apply wpS_seq;apply wpS_region;have hrec:recoverD (c₀::cs)=some (Dt,{c₀ with mode:=.panicking ({v:=Dt,recovered:=true} ::[])} ::cs):=by simp[recoverD,hu]
 simp[wpOpsS,go_sem,hrec,Tryz.ntmps53,Exit.thenS,Z8];have e0:w.cell? ⟨p,0,none⟩=some c0:=hp.cell 0;have e1:w.cell? ⟨p,1,none⟩=some c1:=hp.cell 1;have e2:w.cell? ⟨p,2,none⟩=some c2:=hp.cell 2;have e3:w.cell? ⟨p,3,none⟩=some c3:=hp.cell 3;have e4:w.cell? ⟨p,4,none⟩=some c4:=hp.cell 4;have e5:w.cell? ⟨p,5,none⟩=some c5:=hp.cell 5;have f0:=fun i=>hp.frozen i;have g0:w.cell? ⟨q,0,none⟩=some x:=hq.cell 0;have h0:=hq.frozen 0;refine wpS_of_wp ?_
 go_wp2
 have key:Aes w p q ((((((((w.setCell ⟨p,0,none⟩ (.string ⟨#[]⟩)).setCell ⟨p,1,none⟩ (.bool false)).setCell ⟨p,2,none⟩ (.slice none 0 0)).setCell ⟨p,3,none⟩ (.slice none 0 0)).setCell ⟨p,4,none⟩ (.slice none 0 0)).setCell ⟨p,5,none⟩ (.slice none 0 0)).setCell ⟨q,0,none⟩ (.int .i64 1)).alloc (Obj.cells #[] 100)):=by
  refine⟨?_,?_,?_⟩
  ·exact((((((((hp.set_ 0 _).set_ 1 _).set_ 2 _).set_ 3 _).set_ 4 _).set_ 5 _).far hpq _).alloc _)
  ·exact((((((((hq.far (Ne.symm hpq) _).far (Ne.symm hpq) _).far (Ne.symm hpq) _).far (Ne.symm hpq) _).far (Ne.symm hpq) _).far (Ne.symm hpq) _).set_ 0 _).alloc _)
  ·exact(((((((((Fr.refl _ w).set_ (.inl rfl) 0 _).set_ (.inl rfl) 1 _).set_ (.inl rfl) 2 _).set_ (.inl rfl) 3 _).set_ (.inl rfl) 4 _).set_ (.inl rfl) 5 _).set_ (.inr rfl) 0 _).alloc_ _)
 simp[bodyPostS,results,Tryz.results53];exact key
set_option maxRecDepth 100000 in
set_option maxHeartbeats 2000000 in
theorem M5(p q:Nat)(w:World):
  CallsD Tryz.prog 53 #[.pointer (some ⟨p,0,none⟩),.pointer (some ⟨q,0,none⟩)] .returning w fun e u' w'=>e=.returned (.tuple #[])∧u'=.returning∧w'=w.alloc (.cells #[] 100):=by
 refine callsD_of_wpS Tryz.func53 rfl fun c₀ cs hu=>?_;apply wpS_seq;apply wpS_region;have hrec:recoverD (c₀::cs)=none:=by simp[recoverD,hu]
 simp[wpOpsS,go_sem,hrec,Tryz.ntmps53,Exit.thenS,Acv];refine wpS_of_wp ?_
 go_wp2
 simp[bodyPostS,results,Tryz.results53,hu];cases c₀;simp_all
theorem Fr.outP{L:Nat→Prop}{a b c:World}(h:Fr (fun _=>False) a b)(k:Fr L b c)(hl:∀i,L i→a.heap.size≤i):Fr (fun _=>False) a c:=
 ⟨k.os.trans h.os,k.tape.trans h.tape,k.output.trans h.output,XI h.size k.size,fun i hi _=>(k.block i (XH hi h.size) (fun hL=>by have:=hl i hL;omega)).trans (h.block i hi id)⟩
theorem Fr.blkP{L:Nat→Prop}{a b:World}{g:Nat}{t:TypeId}{cs:Array Value}(h:Fr L a b)(hb:Blk a g t cs)(hl:¬L g):Blk b g t cs:=(h.block g hb.lt hl).trans hb
def pkV(p:Pk)(y2 y3 y4 y5:Value):Value:=.agg #[.string p.fr,.bool p.wo,y2,y3,y4,y5]
theorem Aly{w:World}{R:Nat→Prop}{p:Pk}{y2 y3 y4 y5:Value}(h2:RV w R noG (.sl false (p.ms.map Mb.row)) y2)(h3:RV w R noG (.sl false (p.sv.map Sv.row)) y3)(h4:RV w R noG (.sl false (p.gs.map Gw.row)) y4)(h5:RV w R noG (.sl false (p.wh.map Wh.row)) y5):RV w R noG (.agg p.row) (pkV p y2 y3 y4 y5):=by
 refine .agg p.row [.string p.fr,.bool p.wo,y2,y3,y4,y5] rfl fun i u x hu hx=>?_;unfold Pk.row at hu;rcases i with _|_|_|_|_|_|i
 all_goals first
  |(cases hu;cases hx;exact .v _)
  |(cases hu;cases hx;exact h2)
  |(cases hu;cases hx;exact h3)
  |(cases hu;cases hx;exact h4)
  |(cases hu;cases hx;exact h5)
  |(simp at hu)
theorem Aoy{w:World}{R:Nat→Prop}{p:Pk}{x:Value}(h:RV w R noG (.agg p.row) x):∃y2 y3 y4 y5,x=pkV p y2 y3 y4 y5∧RV w R noG (.sl false (p.ms.map Mb.row)) y2∧RV w R noG (.sl false (p.sv.map Sv.row)) y3∧RV w R noG (.sl false (p.gs.map Gw.row)) y4∧RV w R noG (.sl false (p.wh.map Wh.row)) y5:=by
 cases h with
 |agg cs xs hl h=>
  obtain⟨x0,x1,x2,x3,x4,x5,rfl⟩:∃x0 x1 x2 x3 x4 x5,xs=[x0,x1,x2,x3,x4,x5]:=by
   rcases xs with _|⟨x0,_|⟨x1,_|⟨x2,_|⟨x3,_|⟨x4,_|⟨x5,_|⟨x6,xs⟩⟩⟩⟩⟩⟩⟩<;>simp[Pk.row]at hl;exact⟨_,_,_,_,_,_,rfl⟩
  have h0:=B8 (h 0 _ _ rfl rfl);have h1:=B8 (h 1 _ _ rfl rfl);subst h0 h1;exact⟨x2,x3,x4,x5,rfl,h 2 _ _ rfl rfl,h 3 _ _ rfl rfl,h 4 _ _ rfl rfl,h 5 _ _ rfl rfl⟩
theorem R7(w:World)(R:Nat→Prop):RV w R noG (.agg pk0.row) (.agg Gg):=Aly (p:=pk0) (y2:=.slice none 0 0) (y3:=.slice none 0 0) (y4:=.slice none 0 0) (y5:=.slice none 0 0) (.nil false none 0 (by simp)) (.nil false none 0 (by simp)) (.nil false none 0 (by simp)) (.nil false none 0 (by simp))
theorem N2{w:World}{R:Nat→Prop}{G:Nat→Option Loc}{cl:Bool}{rows:List (List V)}{x:Value}(h:RV w R G (.sl cl rows) x):∃a k c,x=.slice a k c:=by
 generalize e:V.sl cl rows=u at h;cases h with
 |nil=>exact⟨_,_,_,rfl⟩
 |sl=>exact⟨_,_,_,rfl⟩
 |_=>cases e
theorem Vf{u:V}{x:Value}{b:Nat}(h:A4 [.c u] [x] b):False:=Em (fun p hp=>by simp at hp;exact⟨_,hp⟩) h
def Yd(R:Nat→Prop)(w:World)(m:Pk)(er:Int)(e:Ending)(w':World):Prop:=
 ∃(x:Value) (R':Nat→Prop),e=.returned (.tuple #[x,.int .i64 er])∧Fr (fun _=>False) w w'∧(∀b,R b→R' b)∧(∀b,R' b→R b∨(b<w'.heap.size∧w.heap.size≤b))∧RV w' R' noG (.agg m.row) x
theorem Z1{s:ByteArray}{y':Value}{W:World}{R:Nat→Prop}{n:Nat}(hb:Blk W n prT #[.string s])(hn:¬R n):Cd W R [.mn prT [.c (.v (.string s))] [.c (.v y')]] [.pointer (some ⟨n,0,none⟩)] (fun k=>k=n):=by
 have hnb:∀k,¬A4 [.c (.v (.string s))] [.string s] k:=fun k h=>Vf h;refine⟨fun k=>k=n,fun _=>False,⟨n,[.string s],rfl,by simp,⟨rfl,.inr ⟨n,1,_,rfl,ZU _,hb,by simp,by decide,rfl,rfl⟩⟩,Vr (.v _),by simp[Value.oneCell'],hnb n,fun k=>⟨.inl,fun h=>h.elim id (fun h=>absurd h (hnb k))⟩⟩,fun _ h=>h,fun b h=>⟨id,by rw[h];exact hn⟩,fun b=>⟨.inl,fun h=>h.elim id False.elim⟩⟩
theorem Ak6{r:ByteArray}(h:r.toList=[]):r.size=0:=by
 rw[ByteArray.toList_eq]at h;have e:r.data.toList.length=0:=by rw[h];rfl
 exact e
theorem Akl{W:World}{R:Nat→Prop}{n:Nat}{r:ByteArray}{F:Nat→Prop}(h:Cd W R [.pn prT [.c (.v (.string r))]] [.pointer (some ⟨n,0,none⟩)] F):Blk W n prT #[.string r]:=by
 obtain⟨F1,F2,⟨b',vs,q,hpos,hown,hpars,_⟩,_⟩:=h;injection q with q
 injection q with q;injection q with q
 subst q;have hl:vs.length=1:=by simpa using hpars.len.symm
 obtain⟨y0,rfl⟩:∃y0,vs=[y0]:=List.length_eq_one_iff.1 hl;obtain rfl:y0=.string r:=B8 (hpars.ok 0 _ _ rfl rfl);rcases hown.2 with⟨q,_⟩|⟨g,cap,cur,q,_,hg,hnc,hcm,hcs,htake⟩
 ·cases q
 ·injection q with q1 q2 q3;injection q1 with q1
  injection q1 with q1;subst q1 q3;have hl:cur.toList.length=1:=by simpa using hcs
  have hx:cur.toList=[.string r]:=by rw[←htake,List.take_of_length_le (by rw[hl];exact ZT _)]
  have hc:cur= #[.string r]:=by apply Array.ext';rw[hx]
  rw[hc]at hg;exact hg
set_option maxRecDepth 100000 in
set_option maxHeartbeats 2000000 in
theorem Afi[Glob](s:ByteArray)(y':Value)(w:World)(R:Nat→Prop)(hlt:∀b,R b→b<w.heap.size)(hg:B6 w (fun _=>False))(hd:Ha Tryz.prog 54 [.mn prT [.c (.v (.string s))] [.c (.v y')]] Dt):Calls Tryz.prog 21 #[.string s] w (Yd R w pk0 1):=by
 have hmf:∀(fn:Fn) (first cap:Array Value) (w:World),(Instr.makeFunc fn first cap).run Tryz.prog w=.ok (.func fn first cap) w:=fun _ _ _ _=>rfl
 go_enter_defers Tryz.func21,Tryz.ntmps21
 go_wp2_with fail
 have B0:=Blk.new w 59 Gg;have B1:=Blk.new_ (w.alloc (.cells Gg 59)) 26 #[.int .i64 0] (g:=w.heap.size+1) (by simp[World.alloc,-World.alloc_eq]);have B0':=B0.alloc (.cells #[.int .i64 0] 26);have B2:=Blk.new_ ((w.alloc (.cells Gg 59)).alloc (.cells #[.int .i64 0] 26)) prT #[.string s] (g:=w.heap.size+1+1) (by simp[World.alloc,-World.alloc_eq]);have B0'':=B0'.alloc (.cells #[.string s] prT);have B1'':=B1.alloc (.cells #[.string s] prT);have F0:Fr (fun _=>False) w _:=(((Fr.refl _ w).alloc_ (.cells Gg 59)).alloc_ (.cells #[.int .i64 0] 26)).alloc_ (.cells #[.string s] prT);refine(hd.2 _ (fun _=>False) [_] _ (fun _ h=>h.elim) (Z1 B2 id) (hg.at_ F0 (fun b hb=>by have hb:b=w.heap.size+1+1:=hb;omega))).mono ?_
 rintro e w1 ⟨rfl,hf⟩
 have C0:=hf.blkP B0'' (by omega);have C1:=hf.blkP B1'' (by omega);refine leaves_cons (f:=53) (args:= #[.pointer (some ⟨w.heap.size,0,none⟩),.pointer (some ⟨w.heap.size+1,0,none⟩)]) (by simp) (by simp[go_sem]) ?_;refine(Ab3 w.heap.size (w.heap.size+1) _ _ _ _ _ _ _ w1 C0 C1 (by omega)).mono ?_
 rintro e u' w2 ⟨rfl,rfl,hC⟩
 obtain⟨D0,D1,hf2⟩:=hC;have e0:w2.cell? ⟨w.heap.size,0,none⟩=some (.string ⟨#[]⟩):=D0.cell 0;have e1:w2.cell? ⟨w.heap.size,1,none⟩=some (.bool false):=D0.cell 1;have e2:w2.cell? ⟨w.heap.size,2,none⟩=some (.slice none 0 0):=D0.cell 2;have e3:w2.cell? ⟨w.heap.size,3,none⟩=some (.slice none 0 0):=D0.cell 3;have e4:w2.cell? ⟨w.heap.size,4,none⟩=some (.slice none 0 0):=D0.cell 4;have e5:w2.cell? ⟨w.heap.size,5,none⟩=some (.slice none 0 0):=D0.cell 5;have g0:w2.cell? ⟨w.heap.size+1,0,none⟩=some (.int .i64 1):=D1.cell 0;simp[Leaves,settle,results,Tryz.results21,go_sem,e0,e1,e2,e3,e4,e5,g0];refine⟨.agg Gg,R,rfl,?_,fun b h=>h,fun b h=>.inl h,R7 _ _⟩;exact(F0.outP hf (fun i hi=>by omega)).outP hf2 (fun i hi=>by omega)
set_option maxRecDepth 100000 in
set_option maxHeartbeats 4000000 in
theorem Aj6[Glob](s r:ByteArray)(p:Pk)(w:World)(R:Nat→Prop)(hlt:∀b,R b→b<w.heap.size)(hg:B6 w (fun _=>False))(hm:Hd Tryz.prog 54 [.mn prT [.c (.v (.string s))] [.c (.v (.string r))]] [.p (.c (.agg p.row))])(hc:Fun Tryz.prog 55 [.c (.agg p.row)] [.c (.v (.int .i64 p.err))])(v:Pk)(er:Int)(hv:r.size=0→p.err=0→v=p∧er=0)(hz:r.size≠0∨p.err≠0→v=pk0∧er=1):Calls Tryz.prog 21 #[.string s] w (Yd R w v er):=by
 have hv:=hid hv;have hz:=hid hz;have hmf:∀(fn:Fn) (first cap:Array Value) (w:World),(Instr.makeFunc fn first cap).run Tryz.prog w=.ok (.func fn first cap) w:=fun _ _ _ _=>rfl
 go_enter_defers Tryz.func21,Tryz.ntmps21
 go_wp2_with fail
 have B0:=Blk.new w 59 Gg;have B1:=Blk.new_ (w.alloc (.cells Gg 59)) 26 #[.int .i64 0] (g:=w.heap.size+1) (by simp[World.alloc,-World.alloc_eq]);have B0':=B0.alloc (.cells #[.int .i64 0] 26);have B2:=Blk.new_ ((w.alloc (.cells Gg 59)).alloc (.cells #[.int .i64 0] 26)) prT #[.string s] (g:=w.heap.size+1+1) (by simp[World.alloc,-World.alloc_eq]);have B0'':=B0'.alloc (.cells #[.string s] prT);have B1'':=B1.alloc (.cells #[.string s] prT);have F0:Fr (fun _=>False) w _:=(((Fr.refl _ w).alloc_ (.cells Gg 59)).alloc_ (.cells #[.int .i64 0] 26)).alloc_ (.cells #[.string s] prT);refine(hm.2 _ R [_] _ (fun b hb=>XH (hlt b hb) F0.size) (Z1 B2 fun hR=>by have:=hlt _ hR;omega) (hg.at_ F0 (fun b hb=>by have hb:b=w.heap.size+1+1:=hb;omega))).mono ?_
 rintro e w1 ⟨ys,R1,F1,rfl,hl,hf,hR1,hR2,hp,hF⟩
 have hgl1:B6 w1 (fun b=>b=w.heap.size∨b=w.heap.size+1∨b=w.heap.size+1+1):=(hg.at_ (L':=fun b=>b=w.heap.size∨b=w.heap.size+1∨b=w.heap.size+1+1) F0 (fun b hb=>.inr (by omega))).at_ (C8 hf fun k hk=>.inr (.inr hk)) (fun b hb=>.inl hb);have C0:=hf.blkP B0'' (by omega);have C1:=hf.blkP B1'' (by omega);obtain⟨x,rfl⟩:∃x,ys=[x]:=by
  rcases ys with _|⟨x,_|⟨x',ys⟩⟩<;>simp at hl;exact⟨x,rfl⟩
 obtain⟨⟨y2,y3,y4,y5,rfl,q2,q3,q4,q5⟩,hrd⟩:(∃y2 y3 y4 y5,x=pkV p y2 y3 y4 y5∧RV w1 R1 noG (.sl false (p.ms.map Mb.row)) y2∧RV w1 R1 noG (.sl false (p.sv.map Sv.row)) y3∧RV w1 R1 noG (.sl false (p.gs.map Gw.row)) y4∧RV w1 R1 noG (.sl false (p.wh.map Wh.row)) y5)∧Blk w1 (w.heap.size+1+1) prT #[.string r]:=by
  obtain⟨G1,G2,h1,h2,_⟩:=hp;exact⟨Aoy h1.1,Akl h2⟩
 obtain⟨a2,k2,c2,rfl⟩:=N2 q2;obtain⟨a3,k3,c3,rfl⟩:=N2 q3;obtain⟨a4,k4,c4,rfl⟩:=N2 q4;obtain⟨a5,k5,c5,rfl⟩:=N2 q5;have hrv:=hid (Aly (p:=p) q2 q3 q4 q5);have hR1:=hid hR1;have hR2:=hid hR2;have HF:=hid hf;have hgl:B6 w1 (fun b=>b=w.heap.size∨b=w.heap.size+1∨b=w.heap.size+1+1):=hgl1;clear q2 q3 q4 q5 hf hp hF;have e0:w1.cell? ⟨w.heap.size,0,none⟩=some (.string ⟨#[]⟩):=C0.cell 0;have e1:w1.cell? ⟨w.heap.size,1,none⟩=some (.bool false):=C0.cell 1;have e2:w1.cell? ⟨w.heap.size,2,none⟩=some (.slice none 0 0):=C0.cell 2;have e3:w1.cell? ⟨w.heap.size,3,none⟩=some (.slice none 0 0):=C0.cell 3;have e4:w1.cell? ⟨w.heap.size,4,none⟩=some (.slice none 0 0):=C0.cell 4;have e5:w1.cell? ⟨w.heap.size,5,none⟩=some (.slice none 0 0):=C0.cell 5;have f0:=fun i=>C0.frozen i;have g0:w1.cell? ⟨w.heap.size+1,0,none⟩=some (.int .i64 0):=C1.cell 0;have h0:=C1.frozen 0;have r0:w1.cell? ⟨w.heap.size+1+1,0,none⟩=some (.string r):=hrd.cell 0;have hn1:∀b,R1 b→b≠w.heap.size∧b≠w.heap.size+1:=fun b hb=>by
  rcases hR2.out b hb with g|⟨g1,g2⟩
  ·have:=hlt b g;omega
  ·rcases g2 with g2|g2
   ·omega
   ·have:=F0.size;simp[World.alloc,-World.alloc_eq]at g2;omega
 have hlt1:∀b,R1 b→b<w1.heap.size:=fun b hb=>by
  rcases hR2.out b hb with g|⟨g1,g2⟩
  ·have:=hlt b g;have:=F0.size;have:=HF.out.size;omega
  ·exact g1
 simp only[Da,pkV];by_cases hr:r.size=0
 ·obtain rfl:r=⟨#[]⟩:=ByteArray.ext (Array.eq_empty_of_size_eq_zero hr)
  go_wp2_with fail
  have D0:Blk ((((((w1.setCell ⟨w.heap.size,0,none⟩ (.string p.fr)).setCell ⟨w.heap.size,1,none⟩ (.bool p.wo)).setCell ⟨w.heap.size,2,none⟩ (.slice a2 k2 c2)).setCell ⟨w.heap.size,3,none⟩ (.slice a3 k3 c3)).setCell ⟨w.heap.size,4,none⟩ (.slice a4 k4 c4)).setCell ⟨w.heap.size,5,none⟩ (.slice a5 k5 c5)) w.heap.size 59 #[.string p.fr,.bool p.wo,.slice a2 k2 c2,.slice a3 k3 c3,.slice a4 k4 c4,.slice a5 k5 c5]:=((((((C0.set_ 0 (.string p.fr)).set_ 1 (.bool p.wo)).set_ 2 (.slice a2 k2 c2)).set_ 3 (.slice a3 k3 c3)).set_ 4 (.slice a4 k4 c4)).set_ 5 (.slice a5 k5 c5));have D1:=((((((C1.far (p:=⟨w.heap.size,0,none⟩) (by simp) (.string p.fr)).far (p:=⟨w.heap.size,1,none⟩) (by simp) (.bool p.wo)).far (p:=⟨w.heap.size,2,none⟩) (by simp) (.slice a2 k2 c2)).far (p:=⟨w.heap.size,3,none⟩) (by simp) (.slice a3 k3 c3)).far (p:=⟨w.heap.size,4,none⟩) (by simp) (.slice a4 k4 c4)).far (p:=⟨w.heap.size,5,none⟩) (by simp) (.slice a5 k5 c5));have F2:Fr (fun k=>k=w.heap.size) w1 _:=(((((((Fr.refl (fun k=>k=w.heap.size) w1).set_ rfl 0 (.string p.fr)).set_ rfl 1 (.bool p.wo)).set_ rfl 2 (.slice a2 k2 c2)).set_ rfl 3 (.slice a3 k3 c3)).set_ rfl 4 (.slice a4 k4 c4)).set_ rfl 5 (.slice a5 k5 c5));generalize hw2:((((((w1.setCell ⟨w.heap.size,0,none⟩ (.string p.fr)).setCell ⟨w.heap.size,1,none⟩ (.bool p.wo)).setCell ⟨w.heap.size,2,none⟩ (.slice a2 k2 c2)).setCell ⟨w.heap.size,3,none⟩ (.slice a3 k3 c3)).setCell ⟨w.heap.size,4,none⟩ (.slice a4 k4 c4)).setCell ⟨w.heap.size,5,none⟩ (.slice a5 k5 c5))=w2 at D0 D1 F2 ⊢;clear e0 e1 e2 e3 e4 e5 f0 g0 h0 r0 hw2;have hy2:=hrv.out.mono (fun b hb=>⟨hb,F2.block b (hlt1 b hb) (hn1 b hb).1⟩) (Gle.refl _);have hg2:B6 w2 (fun _=>False):=hgl.at_ (C8 F2 fun k hk=>.inl hk) (fun b hb=>hb.elim);refine(hc.2 _ R1 [_] (fun b hb=>XH (hlt1 b hb) F2.size) (Vr hy2) (hg2.at_ (Fr.refl _ _) fun b hb=>(Vf hb).elim)).mono ?_
  rintro e w3 ⟨ys,R3,rfl,hf3,hR3,hR4,hp3,hF3⟩
  obtain⟨x,rfl⟩:∃x,ys=[x]:=by
   have hl:=hp3.len;rcases ys with _|⟨x,_|⟨x',ys⟩⟩<;>simp at hl
   exact⟨x,rfl⟩
  have hx:x=.int .i64 p.err:=B8 (hp3.ok 0 _ _ rfl rfl);subst hx;have hf3':Fr (fun _=>False) w2 w3:=⟨hf3.os,hf3.tape,hf3.output,hf3.size,fun k hk _=>hf3.block k hk Vf⟩;have E0:=hf3'.blkP D0 id;have E1:=hf3'.blkP D1 id;have hy3:=hid (hy2.mono (fun b hb=>⟨hb,hf3'.block b (XH (hlt1 b hb) F2.size) id⟩) (Gle.refl _));have HF3:=hid hf3';have hp3:=hid hp3;have hn1:=hid hn1;have hlt1:=hid hlt1;clear hf3 hR3 hR4 hF3 hp3 hf3' hy2;simp only[Da];have e0:w3.cell? ⟨w.heap.size,0,none⟩=some (.string p.fr):=E0.cell 0;have e1:w3.cell? ⟨w.heap.size,1,none⟩=some (.bool p.wo):=E0.cell 1;have e2:w3.cell? ⟨w.heap.size,2,none⟩=some (.slice a2 k2 c2):=E0.cell 2;have e3:w3.cell? ⟨w.heap.size,3,none⟩=some (.slice a3 k3 c3):=E0.cell 3;have e4:w3.cell? ⟨w.heap.size,4,none⟩=some (.slice a4 k4 c4):=E0.cell 4;have e5:w3.cell? ⟨w.heap.size,5,none⟩=some (.slice a5 k5 c5):=E0.cell 5;have f0:=fun i=>E0.frozen i;have g0:w3.cell? ⟨w.heap.size+1,0,none⟩=some (.int .i64 0):=E1.cell 0;have h0:=E1.frozen 0;by_cases hE:p.err=0
  ·obtain⟨h1,h2⟩:=hv.out rfl hE;have h1:=hid h1;have h2:=hid h2
   go_wp2_with fail
   refine leaves_cons (f:=53) (args:= #[.pointer (some ⟨w.heap.size,0,none⟩),.pointer (some ⟨w.heap.size+1,0,none⟩)]) (by simp) (by simp[go_sem]) ?_;refine(M5 w.heap.size (w.heap.size+1) _).mono ?_
   rintro e u' w4 ⟨rfl,rfl,hw4⟩
   have F4:Fr (fun k=>k=w.heap.size∨k=w.heap.size+1) w3 w4:=by rw[hw4];exact((((((((Fr.refl (fun k=>k=w.heap.size∨k=w.heap.size+1) w3).set_ (.inl rfl) 0 (.string p.fr)).set_ (.inl rfl) 1 (.bool p.wo)).set_ (.inl rfl) 2 (.slice a2 k2 c2)).set_ (.inl rfl) 3 (.slice a3 k3 c3)).set_ (.inl rfl) 4 (.slice a4 k4 c4)).set_ (.inl rfl) 5 (.slice a5 k5 c5)).set_ (.inr rfl) 0 (.int .i64 0)).alloc_ (.cells #[] 100)
   have G0:Blk w4 w.heap.size 59 #[.string p.fr,.bool p.wo,.slice a2 k2 c2,.slice a3 k3 c3,.slice a4 k4 c4,.slice a5 k5 c5]:=by rw[hw4];exact(((((((E0.set_ 0 (.string p.fr)).set_ 1 (.bool p.wo)).set_ 2 (.slice a2 k2 c2)).set_ 3 (.slice a3 k3 c3)).set_ 4 (.slice a4 k4 c4)).set_ 5 (.slice a5 k5 c5)).far (p:=⟨w.heap.size+1,0,none⟩) (by simp) (.int .i64 0)).alloc (.cells #[] 100)
   have G1:Blk w4 (w.heap.size+1) 26 #[.int .i64 0]:=by rw[hw4];exact(((((((E1.far (p:=⟨w.heap.size,0,none⟩) (by simp) (.string p.fr)).far (p:=⟨w.heap.size,1,none⟩) (by simp) (.bool p.wo)).far (p:=⟨w.heap.size,2,none⟩) (by simp) (.slice a2 k2 c2)).far (p:=⟨w.heap.size,3,none⟩) (by simp) (.slice a3 k3 c3)).far (p:=⟨w.heap.size,4,none⟩) (by simp) (.slice a4 k4 c4)).far (p:=⟨w.heap.size,5,none⟩) (by simp) (.slice a5 k5 c5)).set_ 0 (.int .i64 0)).alloc (.cells #[] 100)
   clear hw4 e0 e1 e2 e3 e4 e5 f0 g0 h0;have e0:w4.cell? ⟨w.heap.size,0,none⟩=some (.string p.fr):=G0.cell 0;have e1:w4.cell? ⟨w.heap.size,1,none⟩=some (.bool p.wo):=G0.cell 1;have e2:w4.cell? ⟨w.heap.size,2,none⟩=some (.slice a2 k2 c2):=G0.cell 2;have e3:w4.cell? ⟨w.heap.size,3,none⟩=some (.slice a3 k3 c3):=G0.cell 3;have e4:w4.cell? ⟨w.heap.size,4,none⟩=some (.slice a4 k4 c4):=G0.cell 4;have e5:w4.cell? ⟨w.heap.size,5,none⟩=some (.slice a5 k5 c5):=G0.cell 5;have g0:w4.cell? ⟨w.heap.size+1,0,none⟩=some (.int .i64 0):=G1.cell 0;simp[Leaves,settle,results,Tryz.results21,go_sem,e0,e1,e2,e3,e4,e5,g0];rw[h1.out,h2.out];refine⟨pkV p (.slice a2 k2 c2) (.slice a3 k3 c3) (.slice a4 k4 c4) (.slice a5 k5 c5),R1,rfl,((((F0.outP HF.out (fun i hi=>by omega)).outP F2 (fun i hi=>by omega)).outP HF3.out (fun i hi=>hi.elim))).outP F4 (fun i hi=>by omega),hR1.out,fun b hb=>?_,hy3.out.mono (fun b hb=>⟨hb,F4.block b (XH (hlt1.out b hb) (XI F2.size HF3.out.size)) (by have:=hn1.out b hb;omega)⟩) (Gle.refl _)⟩;rcases hR2.out b hb with g|⟨g1,g2⟩
   ·exact .inl g
   ·refine .inr ⟨XH g1 (XI F2.size (XI HF3.out.size F4.size)),?_⟩;rcases g2 with g2|g2
    ·omega
    ·exact XI F0.size g2
  ·obtain⟨h1,h2⟩:=hz.out (.inr hE);have h1:=hid h1;have h2:=hid h2
   go_wp2_with fail
   refine leaves_cons (f:=53) (args:= #[.pointer (some ⟨w.heap.size,0,none⟩),.pointer (some ⟨w.heap.size+1,0,none⟩)]) (by simp) (by simp[go_sem]) ?_;refine(M5 w.heap.size (w.heap.size+1) _).mono ?_
   rintro e u' w4 ⟨rfl,rfl,hw4⟩
   have F4:Fr (fun k=>k=w.heap.size∨k=w.heap.size+1) w3 w4:=by rw[hw4];exact((((((((Fr.refl (fun k=>k=w.heap.size∨k=w.heap.size+1) w3).set_ (.inl rfl) 0 (.string ⟨#[]⟩)).set_ (.inl rfl) 1 (.bool false)).set_ (.inl rfl) 2 (.slice none 0 0)).set_ (.inl rfl) 3 (.slice none 0 0)).set_ (.inl rfl) 4 (.slice none 0 0)).set_ (.inl rfl) 5 (.slice none 0 0)).set_ (.inr rfl) 0 (.int .i64 1)).alloc_ (.cells #[] 100)
   have G0:Blk w4 w.heap.size 59 #[.string ⟨#[]⟩,.bool false,.slice none 0 0,.slice none 0 0,.slice none 0 0,.slice none 0 0]:=by rw[hw4];exact(((((((E0.set_ 0 (.string ⟨#[]⟩)).set_ 1 (.bool false)).set_ 2 (.slice none 0 0)).set_ 3 (.slice none 0 0)).set_ 4 (.slice none 0 0)).set_ 5 (.slice none 0 0)).far (p:=⟨w.heap.size+1,0,none⟩) (by simp) (.int .i64 1)).alloc (.cells #[] 100)
   have G1:Blk w4 (w.heap.size+1) 26 #[.int .i64 1]:=by rw[hw4];exact(((((((E1.far (p:=⟨w.heap.size,0,none⟩) (by simp) (.string ⟨#[]⟩)).far (p:=⟨w.heap.size,1,none⟩) (by simp) (.bool false)).far (p:=⟨w.heap.size,2,none⟩) (by simp) (.slice none 0 0)).far (p:=⟨w.heap.size,3,none⟩) (by simp) (.slice none 0 0)).far (p:=⟨w.heap.size,4,none⟩) (by simp) (.slice none 0 0)).far (p:=⟨w.heap.size,5,none⟩) (by simp) (.slice none 0 0)).set_ 0 (.int .i64 1)).alloc (.cells #[] 100)
   clear hw4 e0 e1 e2 e3 e4 e5 f0 g0 h0;have e0:w4.cell? ⟨w.heap.size,0,none⟩=some (.string ⟨#[]⟩):=G0.cell 0;have e1:w4.cell? ⟨w.heap.size,1,none⟩=some (.bool false):=G0.cell 1;have e2:w4.cell? ⟨w.heap.size,2,none⟩=some (.slice none 0 0):=G0.cell 2;have e3:w4.cell? ⟨w.heap.size,3,none⟩=some (.slice none 0 0):=G0.cell 3;have e4:w4.cell? ⟨w.heap.size,4,none⟩=some (.slice none 0 0):=G0.cell 4;have e5:w4.cell? ⟨w.heap.size,5,none⟩=some (.slice none 0 0):=G0.cell 5;have g0:w4.cell? ⟨w.heap.size+1,0,none⟩=some (.int .i64 1):=G1.cell 0;simp[Leaves,settle,results,Tryz.results21,go_sem,e0,e1,e2,e3,e4,e5,g0];rw[h1.out,h2.out];refine⟨.agg Gg,R1,rfl,((((F0.outP HF.out (fun i hi=>by omega)).outP F2 (fun i hi=>by omega)).outP HF3.out (fun i hi=>hi.elim))).outP F4 (fun i hi=>by omega),hR1.out,fun b hb=>?_,R7 _ _⟩;rcases hR2.out b hb with g|⟨g1,g2⟩
   ·exact .inl g
   ·refine .inr ⟨XH g1 (XI F2.size (XI HF3.out.size F4.size)),?_⟩;rcases g2 with g2|g2
    ·omega
    ·exact XI F0.size g2
 ·obtain⟨h1,h2⟩:=hz.out (.inl hr);have h1:=hid h1;have h2:=hid h2;have hr':r≠⟨#[]⟩:=fun q=>hr (by rw[q];rfl);have hb0:ByteArray.toList ⟨#[]⟩=[]:=by rw[ByteArray.toList_eq]
  have hb2:¬r.toList=[]:=fun q=>hr (Ak6 q);have hb1:(r.toList==[])=false:=by simp[hb2]
  go_wp2_with fail
  have D0:Blk ((((((w1.setCell ⟨w.heap.size,0,none⟩ (.string p.fr)).setCell ⟨w.heap.size,1,none⟩ (.bool p.wo)).setCell ⟨w.heap.size,2,none⟩ (.slice a2 k2 c2)).setCell ⟨w.heap.size,3,none⟩ (.slice a3 k3 c3)).setCell ⟨w.heap.size,4,none⟩ (.slice a4 k4 c4)).setCell ⟨w.heap.size,5,none⟩ (.slice a5 k5 c5)) w.heap.size 59 #[.string p.fr,.bool p.wo,.slice a2 k2 c2,.slice a3 k3 c3,.slice a4 k4 c4,.slice a5 k5 c5]:=((((((C0.set_ 0 (.string p.fr)).set_ 1 (.bool p.wo)).set_ 2 (.slice a2 k2 c2)).set_ 3 (.slice a3 k3 c3)).set_ 4 (.slice a4 k4 c4)).set_ 5 (.slice a5 k5 c5));have D1:=((((((C1.far (p:=⟨w.heap.size,0,none⟩) (by simp) (.string p.fr)).far (p:=⟨w.heap.size,1,none⟩) (by simp) (.bool p.wo)).far (p:=⟨w.heap.size,2,none⟩) (by simp) (.slice a2 k2 c2)).far (p:=⟨w.heap.size,3,none⟩) (by simp) (.slice a3 k3 c3)).far (p:=⟨w.heap.size,4,none⟩) (by simp) (.slice a4 k4 c4)).far (p:=⟨w.heap.size,5,none⟩) (by simp) (.slice a5 k5 c5));have F2:Fr (fun k=>k=w.heap.size) w1 _:=(((((((Fr.refl (fun k=>k=w.heap.size) w1).set_ rfl 0 (.string p.fr)).set_ rfl 1 (.bool p.wo)).set_ rfl 2 (.slice a2 k2 c2)).set_ rfl 3 (.slice a3 k3 c3)).set_ rfl 4 (.slice a4 k4 c4)).set_ rfl 5 (.slice a5 k5 c5));generalize hw2:((((((w1.setCell ⟨w.heap.size,0,none⟩ (.string p.fr)).setCell ⟨w.heap.size,1,none⟩ (.bool p.wo)).setCell ⟨w.heap.size,2,none⟩ (.slice a2 k2 c2)).setCell ⟨w.heap.size,3,none⟩ (.slice a3 k3 c3)).setCell ⟨w.heap.size,4,none⟩ (.slice a4 k4 c4)).setCell ⟨w.heap.size,5,none⟩ (.slice a5 k5 c5))=w2 at D0 D1 F2 ⊢;clear r0 hw2;refine leaves_cons (f:=53) (args:= #[.pointer (some ⟨w.heap.size,0,none⟩),.pointer (some ⟨w.heap.size+1,0,none⟩)]) (by simp) (by simp[go_sem]) ?_;refine(M5 w.heap.size (w.heap.size+1) _).mono ?_
  rintro e u' w4 ⟨rfl,rfl,hw4⟩
  have F4:Fr (fun k=>k=w.heap.size∨k=w.heap.size+1) w2 w4:=by rw[hw4];exact((((((((Fr.refl (fun k=>k=w.heap.size∨k=w.heap.size+1) w2).set_ (.inl rfl) 0 (.string ⟨#[]⟩)).set_ (.inl rfl) 1 (.bool false)).set_ (.inl rfl) 2 (.slice none 0 0)).set_ (.inl rfl) 3 (.slice none 0 0)).set_ (.inl rfl) 4 (.slice none 0 0)).set_ (.inl rfl) 5 (.slice none 0 0)).set_ (.inr rfl) 0 (.int .i64 1)).alloc_ (.cells #[] 100)
  have G0:Blk w4 w.heap.size 59 #[.string ⟨#[]⟩,.bool false,.slice none 0 0,.slice none 0 0,.slice none 0 0,.slice none 0 0]:=by rw[hw4];exact(((((((D0.set_ 0 (.string ⟨#[]⟩)).set_ 1 (.bool false)).set_ 2 (.slice none 0 0)).set_ 3 (.slice none 0 0)).set_ 4 (.slice none 0 0)).set_ 5 (.slice none 0 0)).far (p:=⟨w.heap.size+1,0,none⟩) (by simp) (.int .i64 1)).alloc (.cells #[] 100)
  have G1:Blk w4 (w.heap.size+1) 26 #[.int .i64 1]:=by rw[hw4];exact(((((((D1.far (p:=⟨w.heap.size,0,none⟩) (by simp) (.string ⟨#[]⟩)).far (p:=⟨w.heap.size,1,none⟩) (by simp) (.bool false)).far (p:=⟨w.heap.size,2,none⟩) (by simp) (.slice none 0 0)).far (p:=⟨w.heap.size,3,none⟩) (by simp) (.slice none 0 0)).far (p:=⟨w.heap.size,4,none⟩) (by simp) (.slice none 0 0)).far (p:=⟨w.heap.size,5,none⟩) (by simp) (.slice none 0 0)).set_ 0 (.int .i64 1)).alloc (.cells #[] 100)
  clear hw4 e0 e1 e2 e3 e4 e5 f0 g0 h0;have e0:w4.cell? ⟨w.heap.size,0,none⟩=some (.string ⟨#[]⟩):=G0.cell 0;have e1:w4.cell? ⟨w.heap.size,1,none⟩=some (.bool false):=G0.cell 1;have e2:w4.cell? ⟨w.heap.size,2,none⟩=some (.slice none 0 0):=G0.cell 2;have e3:w4.cell? ⟨w.heap.size,3,none⟩=some (.slice none 0 0):=G0.cell 3;have e4:w4.cell? ⟨w.heap.size,4,none⟩=some (.slice none 0 0):=G0.cell 4;have e5:w4.cell? ⟨w.heap.size,5,none⟩=some (.slice none 0 0):=G0.cell 5;have g0:w4.cell? ⟨w.heap.size+1,0,none⟩=some (.int .i64 1):=G1.cell 0;simp[Leaves,settle,results,Tryz.results21,go_sem,e0,e1,e2,e3,e4,e5,g0];rw[h1.out,h2.out];refine⟨.agg Gg,R1,rfl,((F0.outP HF.out (fun i hi=>by omega)).outP F2 (fun i hi=>by omega)).outP F4 (fun i hi=>by omega),hR1.out,fun b hb=>?_,R7 _ _⟩;rcases hR2.out b hb with g|⟨g1,g2⟩
  ·exact .inl g
  ·refine .inr ⟨XH g1 (XI F2.size F4.size),?_⟩;rcases g2 with g2|g2
   ·omega
   ·exact XI F0.size g2
theorem Pk.okB_ok[Glob]{p:Pk}(h:p.okB):p.ok:=by
 obtain⟨h0,⟨m1,m2⟩,⟨s1,s2⟩,⟨g1,g2⟩,⟨w1,w2⟩⟩:=h;exact⟨h0,by omega,fun x hx=>(m2 x hx).1,by omega,fun x hx=>⟨(s2 x hx).1,(s2 x hx).2.1,(s2 x hx).2.2.1,(s2 x hx).2.2.2.1⟩,by omega,fun x hx=>(g2 x hx).1,by omega,fun x hx=>(w2 x hx).1⟩
theorem Agh[Glob][Tabs](s:ByteArray)(hs:s.size≤1000000000000)(w:World)(R:Nat→Prop)(hlt:∀b,R b→b<w.heap.size)(hg:B6 w (fun _=>False)):Calls Tryz.prog 21 #[.string s] w (Yd R w (J3 s).1 (J3 s).2):=by
 unfold J3 Ajq;rcases e:pkR s with _|⟨p,r⟩
 ·exact Afi s (.string s) w R hlt hg (Acx e hs)
 ·have hok:p.ok:=Pk.okB_ok (Alv.some _ _ e).1;refine Aj6 s r p w R hlt hg (Abp e hs) (S4 p hok) _ _ (fun h1 h2=>?_) (fun h=>?_)
  ·simp only;rw[if_neg (fun h:r.size≠0∨p.err≠0=>h.elim (fun h=>h h1) (fun h=>h h2))];exact⟨rfl,rfl⟩
  ·simp only;rw[if_pos (show r.size≠0∨p.err≠0 from h)];exact⟨rfl,rfl⟩
theorem T3[Glob][Tabs](s:ByteArray)(hs:s.size≤1000000000000):Fun Tryz.prog 21 [.c (.v (.string s))] [.c (.agg (J3 s).1.row),.c (.v (.int .i64 (J3 s).2))]:=by
 refine⟨⟨_,Tryz.func21,by kernel_rfl,by kernel_rfl⟩,fun w R xs hlt hp hg=>?_⟩;obtain⟨x,rfl⟩:∃x,xs=[x]:=by
  have hl:=hp.len;rcases xs with _|⟨x,_|⟨x',xs⟩⟩<;>simp at hl
  exact⟨x,rfl⟩
 have hx:x=.string s:=B8 (hp.ok 0 _ _ rfl rfl);subst hx;refine(Agh s hs w R hlt (hg.at_ (C8 (Fr.refl (fun _=>False) w) fun _ h=>h.elim) fun b h=>h.elim)).mono ?_
 rintro e w' ⟨x,R',rfl,hf,h1,h2,h3⟩
 have hnb:∀b,¬A4 [.c (.agg (J3 s).1.row),.c (.v (.int .i64 (J3 s).2))] [x,.int .i64 (J3 s).2] b:=fun b=>Em (by intro p hp;rcases XC.1 hp with rfl|hp;exact⟨_,rfl⟩;rcases XC.1 hp with rfl|hp;exact⟨_,rfl⟩;cases hp);refine⟨[x,.int .i64 (J3 s).2],R',rfl,⟨hf.os,hf.tape,hf.output,hf.size,fun k hk _=>hf.block k hk id⟩,h1,fun b hb=>(h2 b hb).imp id (fun g=>⟨g.1,.inr g.2⟩),⟨rfl,fun i p y q1 q2=>?_,fun i j T sz rows T' sz' rows' x y b hij q1=>?_,fun b hb=>(hnb b hb).elim⟩,fun b hb=>(hnb b hb).elim⟩
 ·rcases i with _|_|i
  ·cases q1;cases q2;exact h3
  ·cases q1;cases q2;exact .v _
  ·simp at q1
 ·rcases i with _|_|i<;>simp at q1
def Aol(n:Nd):ByteArray:=n.nm
theorem Nc[Glob][Tabs](n:Nt)(h:n.ok):Fun Tryz.prog 8 [.c (.agg n.row)] [.c (.v (.int .i64 n.err))]:=by
 have l1:(n.ns.map Nd.row).length=n.ns.length:=ZE ..;have l2:(n.ls.map Lt.row).length=n.ls.length:=ZE ..;have b1:=h.nsl;have b2:=h.lsl;refine A9 X6 rfl ?_;(refine goI ?_;repeat (intro gg;refine goI ?_));rw[l1];(refine Ab (fun q1=>?_) (fun q1=>?_)<;>rw[q1])
 ·rw[Nt.err_many (.inl (by have:=ZV q1;omega))];(refine goI ?_;repeat (intro gg;refine goI ?_));(exact⟨[],aI⟩)
 ·have q1':¬6<n.ns.length:=by have:=ZW q1;omega
  (refine goI ?_;repeat (intro gg;refine goI ?_));rw[l2];(refine Ab (fun q2=>?_) (fun q2=>?_)<;>rw[q2])
  ·rw[Nt.err_many (.inr (by have:=ZV q2;omega))];(refine goI ?_;repeat (intro gg;refine goI ?_));(exact⟨[],aI⟩)
  ·have q2':¬20<n.ls.length:=by have:=ZW q2;omega
   have hm:¬(6<n.ns.length∨20<n.ls.length):=fun q=>q.elim q1' q2';(refine goI ?_;repeat (intro gg;refine goI ?_))
   rename Nat=>g0
   (refine⟨[],none,{q:Nat×List (ByteArray×V)//q.1≤n.ns.length∧(∀j,(h:j<n.ns.length)→j<q.1→(n.ns[j]).err=0)∧G5 q.2 ((n.ns.take q.1).map Aol)},[1,3,23,24],fun⟨⟨k,E⟩,hk,h0,hE⟩=>[(25,.v (.int .i64 k))],[16],fun⟨⟨k,E⟩,hk,h0,hE⟩=>[(336,⟨g0,.q (K0 (An E)),0,[]⟩)],fun⟨⟨k,E⟩,hk,h0,hE⟩=>n.ns.length-k,trivial,fun _=>⟨trivial,fun _=>⟨⟨(0,[]),ZU _,fun j _ h=>absurd h (Nat.not_lt_zero _),G5.nil⟩,tI,Aj _ _,tI,Ak _ _⟩⟩,fun⟨⟨k,E⟩,hk,h0,hE⟩=>?_⟩);(refine goI ?_;repeat (intro gg;refine goI ?_));rw[l1];(refine Ab (fun q3=>?_) (fun q3=>?_)<;>rw[q3])
   ·have hlt:k<n.ns.length:=by have:=ZV q3;omega
    (refine goI ?_;repeat (intro gg;refine goI ?_));refine⟨k,_,rfl,Al hlt,?_⟩;(refine goI ?_;repeat (intro gg;refine goI ?_));refine .inl (cX (Aaj (n.ns[k]) (h.ns _ (ZK hlt))) ?_);(refine goI ?_;repeat (intro gg;refine goI ?_));(refine Ab (fun q4=>?_) (fun q4=>?_)<;>rw[q4])
    ·have y:(n.ns[k]).err≠0:=by simpa using q4
     have e1:=Bc (e:=Nd.err) hlt h0 y;rw[Nt.err_each hm (by rw[e1];exact y),e1];(refine goI ?_;repeat (intro gg;refine goI ?_));(exact⟨[],aI⟩)
    ·have z:(n.ns[k]).err=0:=by simpa using q4
     (refine goI ?_;repeat (intro gg;refine goI ?_));refine⟨_,_,rfl,Ez rfl,N0 _ _ _,?_⟩;(refine goI ?_;repeat (intro gg;refine goI ?_));have e:=Vi E n.ns[k].nm (.v (.bool true));have hE':G5 (put E n.ns[k].nm (.v (.bool true))) ((n.ns.take (k+1)).map Aol):=by
      rw[XT,ZC hlt,ZI];exact hE.put _ _ (Ez rfl)
     (exact⟨none,trivial,fun gr=>⟨⟨(k+1,put E n.ns[k].nm (.v (.bool true))),by dsimp only;omega,up1 (p:=fun j h=>(n.ns[j]).err=0) h0 (fun _=>z),hE'⟩,by show n.ns.length-(k+1)<n.ns.length-k;omega,tI,tI,⟨congrArg (fun x=>some (Ent.mk g0 (.q (K0 x)) 0 [])) e,trivial⟩,tI⟩⟩)
   ·have hge:¬k<n.ns.length:=by have:=ZW q3;omega
    have hz:=A8 (e:=Nd.err) (l:=n.ns) (fun i hi=>h0 i hi (by dsimp only;omega));rw[List.take_of_length_le (by dsimp only;omega)]at hE;have hE:G5 E (n.ns.map Aol):=hE;have ha:=hE.all;have hle:=hE.le;rw[ZE]at ha hle;(refine goI ?_;repeat (intro gg;refine goI ?_))
    (try refine⟨_,rfl,?_⟩)
    (refine goI ?_;repeat (intro gg;refine goI ?_));rw[V9,l1];(refine Ab (fun q5=>?_) (fun q5=>?_)<;>rw[q5])
    ·have q5':E.length<n.ns.length:=by have:=ZV q5;omega
     rw[Nt.err_two hm hz (fun q=>by have:=ha.2 q;omega)];(refine goI ?_;repeat (intro gg;refine goI ?_));(exact⟨[],aI⟩)
    ·have q5':¬E.length<n.ns.length:=by have:=ZW q5;omega
     rw[Nt.err_ls hm hz (ha.1 (by omega))];(refine goI ?_;repeat (intro gg;refine goI ?_));(refine⟨[],none,{k:Nat//k≤n.ls.length∧∀j,(h:j<n.ls.length)→j<k→Fe n.ns.length n.ls[j]=0},[1,45,46],fun⟨k,hk,h0⟩=>[(47,.v (.int .i64 (k:Int)))],[16],fun⟨k,hk,h0⟩=>[],fun⟨k,hk,h0⟩=>n.ls.length-k,trivial,fun _=>⟨trivial,fun _=>⟨⟨0,ZU _,fun j _ h=>absurd h (Nat.not_lt_zero _)⟩,tI,Aj _ _,tI,Ak _ _⟩⟩,fun⟨k,hk,h0⟩=>?_⟩);(refine goI ?_;repeat (intro gg;refine goI ?_));rw[l2];(refine Ab (fun q6=>?_) (fun q6=>?_)<;>rw[q6])
     ·have hlt:k<n.ls.length:=by have:=ZV q6;omega
      (refine goI ?_;repeat (intro gg;refine goI ?_));refine⟨k,_,rfl,Al hlt,?_⟩;(refine goI ?_;repeat (intro gg;refine goI ?_));have hFst:=fun y=>Bc (e:=Fe n.ns.length) hlt h0 y;have hRd:=T3 n.ls[k].tx (h.ls _ (ZK hlt));(refine Ab (fun q7=>?_) (fun q7=>?_)<;>rw[q7])
      ·have y:Fe n.ns.length n.ls[k]=3:=Rg (.inl (ZV q7));rw[hFst (by rw[y];decide),y];(refine goI ?_;repeat (intro gg;refine goI ?_));(exact⟨[],aI⟩)
      ·have q7':¬n.ls[k].to<0:=ZW q7;(refine goI ?_;repeat (intro gg;refine goI ?_));rw[l1];(refine Ab (fun q8=>?_) (fun q8=>?_)<;>rw[q8])
       ·have y:Fe n.ns.length n.ls[k]=3:=Rg (.inr (ZV q8));rw[hFst (by rw[y];decide),y];(refine goI ?_;repeat (intro gg;refine goI ?_));(exact⟨[],aI⟩)
       ·have q8':¬(n.ns.length:Int)≤n.ls[k].to:=ZW q8;have e1:Fe n.ns.length n.ls[k]=(J3 n.ls[k].tx).2:=Wc (fun q=>q.elim q7' q8');generalize J3 n.ls[k].tx=F at *;(refine goI ?_;repeat (intro gg;refine goI ?_));refine .inl (cX hRd ?_);(refine goI ?_;repeat (intro gg;refine goI ?_));(refine Ab (fun q9=>?_) (fun q9=>?_)<;>rw[q9])
        ·have y:F.2≠0:=by simpa using q9
         rw[hFst (by rw[e1];exact y),e1];(refine goI ?_;repeat (intro gg;refine goI ?_));(exact⟨[],aI⟩)
        ·have z:F.2=0:=by simpa using q9
         (refine goI ?_;repeat (intro gg;refine goI ?_));(exact⟨none,trivial,fun _=>⟨⟨k+1,by omega,up1 (p:=fun j h=>Fe n.ns.length n.ls[j]=0) h0 (fun _=>e1.trans z)⟩,by show n.ls.length-(k+1)<n.ls.length-k;omega,tI,tI,tI,tI⟩⟩)
     ·have hge:¬k<n.ls.length:=by have:=ZW q6;omega
      rw[A8 (e:=Fe n.ns.length) (l:=n.ls) (fun i hi=>h0 i hi (by omega))];(refine goI ?_;repeat (intro gg;refine goI ?_));(exact⟨[],aI⟩)
instance:OneRow Lt.row 2:=⟨fun _=>rfl,fun x u hu=>by simp only[Lt.row,XC,XD,or_false]at hu;rcases hu with rfl|rfl<;>exact⟨_,rfl,rfl⟩⟩
theorem Ajf{H:Nat→Option Ent}{l:List Nd}:∀row∈l.map Nd.row,row.length=12∧Ge H row:=by
 intro row hr;obtain⟨n,_,rfl⟩:=XO.1 hr;exact⟨rfl,⟨rfl,⟨rfl,⟨trivial,⟨trivial,⟨trivial,⟨trivial,⟨rfl,⟨rfl,⟨rfl,⟨rfl,⟨rfl,⟨trivial,trivial⟩⟩⟩⟩⟩⟩⟩⟩⟩⟩⟩⟩⟩
theorem Sx[Glob](cl:Bool)(l:List Nd)(hl:l.length≤1000):Fun Tryz.prog 56 [.c (.sl cl (l.map Nd.row))] [.o 44 12 (l.map Nd.row)]:=by
 refine A9 Fh rfl ?_;(refine goI ?_;repeat (intro gg;refine goI ?_));rename_i b;have hb:=gg;cases b with
 |true=>
  have e:l.map Nd.row=[]:=hb rfl;(refine goI ?_;repeat (intro gg;refine goI ?_));rw[e];(exact⟨[],aI⟩)
 |false=>
  (refine goI ?_;repeat (intro gg;refine goI ?_));refine⟨Ajf,?_⟩;(refine goI ?_;repeat (intro gg;refine goI ?_));refine⟨lI,lI,?_⟩;(refine goI ?_;repeat (intro gg;refine goI ?_));exact⟨[80],Adq rfl Q7 (by decide) (by decide) (.nil _)⟩
theorem Nj[Glob](cl:Bool)(l:List Lt)(hl:l.length≤1000):Fun Tryz.prog 57 [.c (.sl cl (l.map Lt.row))] [.o 57 2 (l.map Lt.row)]:=by
 refine A9 Ei rfl ?_;(refine goI ?_;repeat (intro gg;refine goI ?_));rename_i b;have hb:=gg;cases b with
 |true=>
  have e:l.map Lt.row=[]:=hb rfl;(refine goI ?_;repeat (intro gg;refine goI ?_));rw[e];(exact⟨[],aI⟩)
 |false=>
  (refine goI ?_;repeat (intro gg;refine goI ?_));refine⟨Xy,?_⟩;(refine goI ?_;repeat (intro gg;refine goI ?_));refine⟨lI,lI,?_⟩;(refine goI ?_;repeat (intro gg;refine goI ?_));(exact⟨[80],aI⟩)
theorem M3[Glob](n:Nd)(g:n.Good):Fun Tryz.prog 58 [.c (.agg n.row)] [.c (.agg n.row)]:=by
 have i1:=(Qq g.ms).1;have i2:=(Ajs g.rs).len;have i3:=(Ajx g.sv).1;have i4:=(Ajv g.gs).1;have i5:=Ajp g.wh;have c1:=(Pj false n.ms (by omega)).frz;have c2:=(Sn false n.rs (by omega)).frz;have c3:=(Um false n.sv (by omega)).frz;have c4:=(U5 false n.gs (by omega)).frz;have c5:=(Sh false n.wh (by omega)).frz;simp only[List.map_cons,List.map_nil,Go.Proofs.YtchbkgnobpejnaaGreatDoor.frz]at c1 c2 c3 c4 c5;refine Yb T7 rfl ?_;(refine goI ?_;repeat (intro gg;refine goI ?_));(refine⟨_,_,false,aI,c1,Am,nI,?_⟩);(refine goI ?_;repeat (intro gg;refine goI ?_));(refine⟨_,_,false,aI,c2,Am,nI,?_⟩);(refine goI ?_;repeat (intro gg;refine goI ?_));(refine⟨_,_,false,aI,c3,Am,nI,?_⟩);(refine goI ?_;repeat (intro gg;refine goI ?_));(refine⟨_,_,false,aI,c4,Am,nI,?_⟩);(refine goI ?_;repeat (intro gg;refine goI ?_));(refine⟨_,_,false,aI,c5,Am,nI,?_⟩);(refine goI ?_;repeat (intro gg;refine goI ?_));exact⟨_,[],.cell1 rfl rfl rfl rfl rfl rfl .nil,.same (Lr Ug) (.nil _)⟩
theorem Akq[Glob](n:Nt)(hg:∀x∈n.ns,x.Good)(l1:n.ns.length≤6)(l2:n.ls.length≤20):Fun Tryz.prog 25 [.c (.agg n.row)] [.c (.agg n.row)]:=by
 have c1:=Sx false n.ns (by omega);have c2:=(Nj false n.ls (by omega)).frz;simp only[List.map_cons,List.map_nil,Go.Proofs.YtchbkgnobpejnaaGreatDoor.frz]at c2;refine Yb O0 rfl ?_;(refine goI ?_;repeat (intro gg;refine goI ?_));(refine⟨_,_,false,.same Ic (.nil _),c1,Am,nI,?_⟩);(refine goI ?_;repeat (intro gg;refine goI ?_));(refine⟨_,_,false,aI,c2,Am,nI,?_⟩);(refine goI ?_;repeat (intro gg;refine goI ?_));rename_i gb gz gn;(refine⟨[],none,{k:Nat//k≤n.ns.length},[1,2,14,15],fun⟨k,hk⟩=>[(16,.v (.int .i64 (k:Int)))],[16,32],fun⟨k,hk⟩=>[(112,⟨gn 112,.t 44,12,n.ns.map Nd.row⟩)],fun⟨k,hk⟩=>n.ns.length-k,trivial,fun _=>⟨trivial,fun _=>⟨⟨0,ZU _⟩,tI,Aj _ _,tI,Ak _ _⟩⟩,fun⟨k,hk⟩=>?_⟩);have hl:(n.ns.map Nd.row).length=n.ns.length:=ZE ..;(refine goI ?_;repeat (intro gg;refine goI ?_));(refine Ab (fun h=>?_) (fun h=>?_)<;>rw[h])
 ·have hlt:k<n.ns.length:=by have:=ZV h;simpa using this
  have e:(n.ns.map Nd.row).set k (n.ns[k].row)=n.ns.map Nd.row:=by
   apply List.ext_getElem
   ·simp
   ·intro i h1 h2;rw[List.getElem_set];split
    ·next q=>subst q;simp
    ·rfl
  (refine goI ?_;repeat (intro gg;refine goI ?_));refine⟨k,_,rfl,Al hlt,?_⟩;(refine goI ?_;repeat (intro gg;refine goI ?_));(refine⟨_,_,false,.same (Lr Ug) (.nil _),M3 n.ns[k] (hg _ (ZK hlt)),Am,nI,?_⟩);(refine goI ?_;repeat (intro gg;refine goI ?_));refine⟨k,_,rfl,Al hlt,?_⟩;(refine goI ?_;repeat (intro gg;refine goI ?_));(exact⟨none,trivial,fun gr=>⟨⟨k+1,by omega⟩,by show n.ns.length-(k+1)<n.ns.length-k;omega,tI,tI,⟨congrArg (fun r=>(some ⟨gn 112,.t 44,12,r⟩:Option Ent)) e,trivial⟩,tI⟩⟩)
 ·(refine goI ?_;repeat (intro gg;refine goI ?_));exact⟨_,[],.cell1 rfl rfl rfl rfl rfl rfl .nil,.bora (Pf rfl rfl Q7 (by decide) (.same C9 .nil)) (.nil _)⟩
theorem Ahp [Glob] (c d : Bool) (a b : List Mb) (ha : a.length ≤ 9223372036854775807) : Fun Tryz.prog 22 [.c (.sl c (a.map Mb.row)), .c (.sl d (b.map Mb.row))] [.c (.v (.bool (L9 Mb.same a b)))] := by
  refine A9 Jo rfl ?_
  (refine goI ?_; repeat (intro gg; refine goI ?_))
  rw [ZE, ZE]
  (refine Ab (fun h => ?_) (fun h => ?_) <;> rw [h])
  · (refine goI ?_; repeat (intro gg; refine goI ?_))
    rw [M7 (fun e => by rw [e] at h; simp at h)]
    (exact ⟨[], aI⟩)
  · have hab : a.length = b.length := by have h' : ((a.length : Int) != (b.length : Int)) = false := h
                                         simp at h'; omega
    (refine goI ?_; repeat (intro gg; refine goI ?_))
    (refine ⟨[], none, {k : Nat // k ≤ a.length ∧ ∀ j, (h : j < a.length) → j < k → Mb.same a[j] (b[j]'(by omega)) = true}, [0, 1], fun ⟨k, hk, h0⟩ => [(5, .v (.int .i64 k))], [], fun ⟨k, hk, h0⟩ => [], fun ⟨k, hk, h0⟩ => a.length - k, trivial, fun _ => ⟨trivial, fun _ => ⟨⟨0, by omega, fun j _ h => by omega⟩, tI, Aj _ _, tI, Ak _ _⟩⟩, fun ⟨k, hk, h0⟩ => ?_⟩)
    (refine goI ?_; repeat (intro gg; refine goI ?_))
    rw [ZE]
    (refine Ab (fun h2 => ?_) (fun h2 => ?_) <;> rw [h2])
    · have hlt : k < a.length := (by have := ZV h2; omega)
      have hlt' : k < b.length := by omega
      (refine goI ?_; repeat (intro gg; refine goI ?_))
      refine ⟨k, _, rfl, Al hlt, ?_⟩
      (refine goI ?_; repeat (intro gg; refine goI ?_))
      refine ⟨k, _, rfl, Al hlt', ?_⟩
      (refine goI ?_; repeat (intro gg; refine goI ?_))
      (refine Ab (fun h3 => ?_) (fun h3 => ?_) <;> rw [h3])
      · (refine goI ?_; repeat (intro gg; refine goI ?_))
        rw [Nn hlt hlt' (Dk (b := Mb.same a[k] b[k]) h3)]
        (exact ⟨[], aI⟩)
      · (refine goI ?_; repeat (intro gg; refine goI ?_))
        (exact ⟨none, trivial, fun _ => ⟨⟨k + 1, by omega, up1 (p := fun j h => Mb.same a[j] (b[j]'(by omega)) = true) h0 (fun _ => Dl (b := Mb.same a[k] b[k]) h3)⟩, by show a.length - (k + 1) < a.length - k; omega, tI, tI, tI, tI⟩⟩)
    · have hge : ¬ k < a.length := (by have := ZW h2; omega)
      (refine goI ?_; repeat (intro gg; refine goI ?_))
      rw [Ht hab (fun i hi _ => h0 i hi (by omega))]
      (exact ⟨[], aI⟩)
namespace Pl
def Wh.same(g h:Wh):Bool:=(g.nd.toList==h.nd.toList)&&((g.pl.x==h.pl.x)&&((g.pl.y==h.pl.y)&&((g.pl.z==h.pl.z)&&((g.pl.h==h.pl.h)&&((g.pl.s==h.pl.s)&&true)))))
theorem Wh.same_iff{g h:Wh}:Wh.same g h=true↔g=h:=by
 obtain⟨a,b,c,d,e,f⟩:=g;obtain⟨a',b',c',d',e',f'⟩:=h;have tl:∀a b:ByteArray,a.toList=b.toList↔a=b:=fun a b=>⟨toList_inj,fun h=>by rw[h]⟩;simp only[Wh.same,Bool.and_true,ZO,ZR,tl,Wh.mk.injEq,Pc.mk.injEq]
end Pl
theorem Afb [Glob] (c d : Bool) (a b : List Wh) (ha : a.length ≤ 9223372036854775807) : Fun Tryz.prog 113 [.c (.sl c (a.map Wh.row)), .c (.sl d (b.map Wh.row))] [.c (.v (.bool (L9 Wh.same a b)))] := by
  refine A9 Kz rfl ?_
  (refine goI ?_; repeat (intro gg; refine goI ?_))
  rw [ZE, ZE]
  (refine Ab (fun h => ?_) (fun h => ?_) <;> rw [h])
  · (refine goI ?_; repeat (intro gg; refine goI ?_))
    rw [M7 (fun e => by rw [e] at h; simp at h)]
    (exact ⟨[], aI⟩)
  · have hab : a.length = b.length := by have h' : ((a.length : Int) != (b.length : Int)) = false := h
                                         simp at h'; omega
    (refine goI ?_; repeat (intro gg; refine goI ?_))
    (refine ⟨[], none, {k : Nat // k ≤ a.length ∧ ∀ j, (h : j < a.length) → j < k → Wh.same a[j] (b[j]'(by omega)) = true}, [0, 1], fun ⟨k, hk, h0⟩ => [(5, .v (.int .i64 k))], [], fun ⟨k, hk, h0⟩ => [], fun ⟨k, hk, h0⟩ => a.length - k, trivial, fun _ => ⟨trivial, fun _ => ⟨⟨0, by omega, fun j _ h => by omega⟩, tI, Aj _ _, tI, Ak _ _⟩⟩, fun ⟨k, hk, h0⟩ => ?_⟩)
    (refine goI ?_; repeat (intro gg; refine goI ?_))
    rw [ZE]
    (refine Ab (fun h2 => ?_) (fun h2 => ?_) <;> rw [h2])
    · have hlt : k < a.length := (by have := ZV h2; omega)
      have hlt' : k < b.length := by omega
      (refine goI ?_; repeat (intro gg; refine goI ?_))
      refine ⟨k, _, rfl, Al hlt, ?_⟩
      (refine goI ?_; repeat (intro gg; refine goI ?_))
      refine ⟨k, _, rfl, Al hlt', ?_⟩
      (refine goI ?_; repeat (intro gg; refine goI ?_))
      (refine Ab (fun h3 => ?_) (fun h3 => ?_) <;> rw [h3])
      · (refine goI ?_; repeat (intro gg; refine goI ?_))
        rw [Nn hlt hlt' (Dk (b := Wh.same a[k] b[k]) h3)]
        (exact ⟨[], aI⟩)
      · (refine goI ?_; repeat (intro gg; refine goI ?_))
        (exact ⟨none, trivial, fun _ => ⟨⟨k + 1, by omega, up1 (p := fun j h => Wh.same a[j] (b[j]'(by omega)) = true) h0 (fun _ => Dl (b := Wh.same a[k] b[k]) h3)⟩, by show a.length - (k + 1) < a.length - k; omega, tI, tI, tI, tI⟩⟩)
    · have hge : ¬ k < a.length := (by have := ZW h2; omega)
      (refine goI ?_; repeat (intro gg; refine goI ?_))
      rw [Ht hab (fun i hi _ => h0 i hi (by omega))]
      (exact ⟨[], aI⟩)
theorem Aa3[Glob](c:Bool)(l:List Wh)(hl:l.length≤9223372036854775807)(hw:∀x∈l,x.ok):Fun Tryz.prog 33 [.c (.sl c (l.map Wh.row))] [.c (.v (.int .i64 (Gr l)))]:=by
 refine A9 J2 rfl ?_;(refine goI ?_;repeat (intro gg;refine goI ?_));rw[ZE];(refine Ab (fun h1=>?_) (fun h1=>?_)<;>rw[h1])
 ·(refine goI ?_;repeat (intro gg;refine goI ?_));have e:Gr l=2:=Gt (by have:=ZV h1;omega);rw[e];(exact⟨[],aI⟩)
 ·have h1':¬20<l.length:=(by have:=ZW h1;omega);(refine goI ?_;repeat (intro gg;refine goI ?_));(refine⟨[],none,{k:Nat//k≤l.length∧∀j,(h:j<l.length)→j<k→Wh.err l[j]=0},[0],fun⟨k,hk,h0⟩=>[(3,.v (.int .i64 k))],[],fun⟨k,hk,h0⟩=>[],fun⟨k,hk,h0⟩=>l.length-k,trivial,fun _=>⟨trivial,fun _=>⟨⟨0,ZU _,fun j _ h=>absurd h (Nat.not_lt_zero _)⟩,tI,Aj _ _,tI,Ak _ _⟩⟩,fun⟨k,hk,h0⟩=>?_⟩);(refine goI ?_;repeat (intro gg;refine goI ?_));rw[ZE];(refine Ab (fun h2=>?_) (fun h2=>?_)<;>rw[h2])
  ·have hlt:k<l.length:=(by have:=ZV h2;omega);(refine goI ?_;repeat (intro gg;refine goI ?_));refine⟨k,_,rfl,Al hlt,?_⟩;(refine goI ?_;repeat (intro gg;refine goI ?_));have hx:=hw _ (ZK hlt);refine .inl (cX (Dx (l[k]).nd hx) ?_);(refine goI ?_;repeat (intro gg;refine goI ?_));have HE:=Bc (e:=Wh.err) hlt h0;(refine Ab (fun h3=>?_) (fun h3=>?_)<;>rw[h3])
   ·have h3':lab (l[k]).nd.data.toList=false:=Dk h3;(refine goI ?_;repeat (intro gg;refine goI ?_));have e1:Wh.err l[k]=1:=by unfold Wh.err;rw[h3'];rfl
    have e:Gr l=1:=by unfold Gr;rw[C3 h1' (by rw[HE (by rw[e1];decide),e1];decide),HE (by rw[e1];decide),e1]
    rw[e];(exact⟨[],aI⟩)
   ·have h3':lab (l[k]).nd.data.toList=true:=Dl h3;have e1:Wh.err l[k]=(l[k]).pl.err:=by unfold Wh.err;rw[h3'];rfl
    (refine goI ?_;repeat (intro gg;refine goI ?_));refine⟨k,_,rfl,Al hlt,?_⟩;(refine goI ?_;repeat (intro gg;refine goI ?_));refine .inl (cX (Si (l[k]).pl) ?_);(refine goI ?_;repeat (intro gg;refine goI ?_));(refine Ab (fun h4=>?_) (fun h4=>?_)<;>rw[h4])
    ·have h4':(l[k]).pl.err≠0:=by simpa using h4
     (refine goI ?_;repeat (intro gg;refine goI ?_));have e:Gr l=(l[k]).pl.err:=by unfold Gr;rw[C3 h1' (by rw[HE (by rw[e1];exact h4'),e1];exact h4'),HE (by rw[e1];exact h4'),e1]
     rw[e];(exact⟨[],aI⟩)
    ·have h4':(l[k]).pl.err=0:=by simpa using h4
     (refine goI ?_;repeat (intro gg;refine goI ?_));(exact⟨none,trivial,fun _=>⟨⟨k+1,by omega,up1 (p:=fun j h=>Wh.err l[j]=0) h0 (fun _=>e1.trans h4')⟩,by show l.length-(k+1)<l.length-k;omega,tI,tI,tI,tI⟩⟩)
  ·have hge:¬k<l.length:=(by have:=ZW h2;omega);have h2':Ad Wh.err l=0:=A8 fun i hi=>h0 i hi (by omega);(refine goI ?_;repeat (intro gg;refine goI ?_));(refine⟨[],none,{q:Nat//(q<l.length∨q=0)∧∀i,(h:i+1<l.length)→i<q→Wh.lt l[i] l[i+1]=true},[0],fun⟨q,hq,g0⟩=>[(5,.v (.int .i64 ((q:Int)+1)))],[],fun⟨q,hq,g0⟩=>[],fun⟨q,hq,g0⟩=>l.length-q,trivial,fun _=>⟨trivial,fun _=>⟨⟨0,by omega,fun j _ h=>by omega⟩,tI,Aj _ _,tI,Ak _ _⟩⟩,fun⟨q,hq,g0⟩=>?_⟩);(refine goI ?_;repeat (intro gg;refine goI ?_));rw[ZE];(refine Ab (fun h3=>?_) (fun h3=>?_)<;>rw[h3])
   ·have hlt3:q+1<l.length:=(by have:=ZV h3;omega);(refine goI ?_;repeat (intro gg;refine goI ?_));refine⟨q+1,_,by omega,Al hlt3,?_⟩;(refine goI ?_;repeat (intro gg;refine goI ?_));refine⟨q,_,by omega,Al (by omega),?_⟩;(refine goI ?_;repeat (intro gg;refine goI ?_));rw[Ro];(refine Ab (fun h4=>?_) (fun h4=>?_)<;>rw[h4])
    ·(refine goI ?_;repeat (intro gg;refine goI ?_));have e:Gr l=4:=Ng h1' h2' (Dp hlt3 (by simpa[Wh.lt]using h4));rw[e];(exact⟨[],aI⟩)
    ·(refine goI ?_;repeat (intro gg;refine goI ?_));(exact⟨none,trivial,fun _=>⟨⟨q+1,by omega,up2 (p:=fun i h=>Wh.lt l[i] l[i+1]=true) g0 (fun _=>by simpa[Wh.lt]using h4)⟩,by show l.length-(q+1)<l.length-q;omega,tI,tI,tI,tI⟩⟩)
   ·have hge3:¬q+1<l.length:=(by have:=ZW h3;omega);(refine goI ?_;repeat (intro gg;refine goI ?_));have e:Gr l=0:=Jw h1' h2' (D2 fun i hi=>g0 i hi (by omega));rw[e];(exact⟨[],aI⟩)
structure Pk.sh(p:Pk):Prop where
 msl:p.ms.length≤9223372036854775807
 svl:p.sv.length≤9223372036854775807
 gsl:p.gs.length≤9223372036854775807
 whl:p.wh.length≤9223372036854775807
theorem Zy[Glob](n:Nd)(h:n.ok):Fun Tryz.prog 15 [.c (.agg n.row)] [.c (.v (.int .i64 n.err))]:=by
 refine A9 K6 rfl ?_;(refine goI ?_;repeat (intro gg;refine goI ?_));refine .inl (cX (Dx n.nm h.nm) ?_);(refine goI ?_;repeat (intro gg;refine goI ?_));(refine Ab (fun h1=>?_) (fun h1=>?_)<;>rw[h1])
 ·(refine goI ?_;repeat (intro gg;refine goI ?_));rw[Nd.err_form (.inl (Dk h1))];(exact⟨[],aI⟩)
 ·have h1':=Dl h1;(refine goI ?_;repeat (intro gg;refine goI ?_));refine .inl (cX (Dx n.ce h.ce) ?_);(refine goI ?_;repeat (intro gg;refine goI ?_));(refine Ab (fun h2=>?_) (fun h2=>?_)<;>rw[h2])
  ·(refine goI ?_;repeat (intro gg;refine goI ?_));rw[Nd.err_form (.inr (Dk h2))];(exact⟨[],aI⟩)
  ·have h2':=Dl h2;(refine goI ?_;repeat (intro gg;refine goI ?_));refine .inl (cX (Abr false n.ms h.msl h.ms) ?_);(refine goI ?_;repeat (intro gg;refine goI ?_));(refine Ab (fun e1=>?_) (fun e1=>?_)<;>rw[e1])
   ·have z1:Gc n.ms=0:=by simpa using e1
    (refine goI ?_;repeat (intro gg;refine goI ?_));refine .inl (cX (Ya false n.rs h.rsl h.rs) ?_);(refine goI ?_;repeat (intro gg;refine goI ?_));(refine Ab (fun e2=>?_) (fun e2=>?_)<;>rw[e2])
    ·have z2:H5 n.rs=0:=by simpa using e2
     (refine goI ?_;repeat (intro gg;refine goI ?_));refine .inl (cX (Zt false n.sv h.svl h.sv) ?_);(refine goI ?_;repeat (intro gg;refine goI ?_));(refine Ab (fun e3=>?_) (fun e3=>?_)<;>rw[e3])
     ·have z3:Gp n.sv=0:=by simpa using e3
      (refine goI ?_;repeat (intro gg;refine goI ?_));refine .inl (cX (Zp false n.gs h.gsl h.gs) ?_);(refine goI ?_;repeat (intro gg;refine goI ?_));(refine Ab (fun e4=>?_) (fun e4=>?_)<;>rw[e4])
      ·have z4:Gx n.gs=0:=by simpa using e4
       (refine goI ?_;repeat (intro gg;refine goI ?_));refine .inl (cX (Si n.pl) ?_);(refine goI ?_;repeat (intro gg;refine goI ?_));(refine Ab (fun e5=>?_) (fun e5=>?_)<;>rw[e5])
       ·have z5:n.pl.err=0:=by simpa using e5
        (refine goI ?_;repeat (intro gg;refine goI ?_));refine .inl (cX (Aa3 false n.wh h.whl h.wh) ?_);(refine goI ?_;repeat (intro gg;refine goI ?_));(refine Ab (fun e6=>?_) (fun e6=>?_)<;>rw[e6])
        ·have y6:Gr n.wh≠0:=by simpa using e6
         have E:Ad (fun e=>e) n.cks=Gr n.wh:=by simp[Nd.cks,Ad,z1,z2,z3,z4,z5,y6]
         rw[Nd.err_ck h1' h2' (by rw[E];exact y6),E];(refine goI ?_;repeat (intro gg;refine goI ?_));(exact⟨[],aI⟩)
        ·have z6:Gr n.wh=0:=by simpa using e6
         have hz:Ad (fun e=>e) n.cks=0:=by simp[Nd.cks,Ad,z1,z2,z3,z4,z5,z6]
         have hi:=Qq z1;have hat:=Mb.at_eq hi.2.2 n.nm;have hA:=Ai1 false n.ms n.nm (by omega);have hrl:=h.rsl;rcases Bool.eq_false_or_eq_true (hit (Mb.cf n.nm) n.ms)with h5|h5
         ·have hlt:=L0 h5;have hm:n.ms[low (Mb.cf n.nm) n.ms]? =some n.ms[low (Mb.cf n.nm) n.ms]:=ZC hlt;rw[hat,if_pos h5]at hA;rw[Nd.err_mine h1' h2' hz h5,Nd.mine_at hm];(refine goI ?_;repeat (intro gg;refine goI ?_));refine .inl (cX hA ?_);(refine goI ?_;repeat (intro gg;refine goI ?_));refine⟨low (Mb.cf n.nm) n.ms,_,rfl,Al hlt,?_⟩;(refine goI ?_;repeat (intro gg;refine goI ?_));(refine Ab (fun h6=>?_) (fun h6=>?_)<;>rw[h6])
          ·rw[if_pos (.inl (by simpa using h6))];(refine goI ?_;repeat (intro gg;refine goI ?_));(exact⟨[],aI⟩)
          ·have h6':(n.ms[low (Mb.cf n.nm) n.ms]).st≠2:=by simpa using h6
           (refine goI ?_;repeat (intro gg;refine goI ?_));refine⟨low (Mb.cf n.nm) n.ms,_,rfl,Al hlt,?_⟩;(refine goI ?_;repeat (intro gg;refine goI ?_));(refine Ab (fun h7=>?_) (fun h7=>?_)<;>rw[h7])
           ·rw[if_pos (.inr (by simpa using h7))];(refine goI ?_;repeat (intro gg;refine goI ?_));(exact⟨[],aI⟩)
           ·have h7':(n.ms[low (Mb.cf n.nm) n.ms]).st≠3:=by simpa using h7
            rw[if_neg (fun q=>q.elim h6' h7')];(refine goI ?_;repeat (intro gg;refine goI ?_));(refine⟨[],none,{k:Nat//k≤n.rs.length∧∀j,(h:j<n.rs.length)→j<k→Rd n.ms n.rs[j]=true},[1],fun⟨k,hk,h0⟩=>[(5,.v (.int .i64 k))],[16],fun⟨k,hk,h0⟩=>[],fun⟨k,hk,h0⟩=>n.rs.length-k,trivial,fun _=>⟨trivial,fun _=>⟨⟨0,ZU _,fun j _ h=>absurd h (Nat.not_lt_zero _)⟩,tI,Aj _ _,tI,Ak _ _⟩⟩,fun⟨k,hk,h0⟩=>?_⟩);(refine goI ?_;repeat (intro gg;refine goI ?_));rw[ZE];(refine Ab (fun g1=>?_) (fun g1=>?_)<;>rw[g1])
            ·have hlt3:k<n.rs.length:=(by have:=ZV g1;omega);have hat3:=Mb.at_eq hi.2.2 (n.rs[k]).m.n;have hA3:=Ai1 false n.ms (n.rs[k]).m.n (by omega);(refine goI ?_;repeat (intro gg;refine goI ?_));refine⟨k,_,rfl,Al hlt3,?_⟩;(refine goI ?_;repeat (intro gg;refine goI ?_));rcases Bool.eq_false_or_eq_true (hit (Mb.cf (n.rs[k]).m.n) n.ms)with g5|g5
             ·have hl3:=L0 g5;have hro:=Aeb g5 (ZC hl3);rw[hat3,if_pos g5]at hA3;refine .inl (cX hA3 ?_);(refine goI ?_;repeat (intro gg;refine goI ?_));refine⟨low (Mb.cf (n.rs[k]).m.n) n.ms,_,rfl,Al hl3,?_⟩;(refine goI ?_;repeat (intro gg;refine goI ?_));refine .inl (cX (Abs _ _) ?_);(refine goI ?_;repeat (intro gg;refine goI ?_));(refine Ab (fun g6=>?_) (fun g6=>?_)<;>rw[g6])
              ·have g6':0<Mb.cmp (n.rs[k]).m (n.ms[low (Mb.cf (n.rs[k]).m.n) n.ms]):=ZV g6;rw[if_neg (by rw[Zj hlt3 (by rw[hro];exact ZY (by omega))];simp)];(refine goI ?_;repeat (intro gg;refine goI ?_));(exact⟨[],aI⟩)
              ·have g6':¬0<Mb.cmp (n.rs[k]).m (n.ms[low (Mb.cf (n.rs[k]).m.n) n.ms]):=ZW g6;(refine goI ?_;repeat (intro gg;refine goI ?_));(exact⟨none,trivial,fun _=>⟨⟨k+1,by omega,up1 (p:=fun j h=>Rd n.ms n.rs[j]=true) h0 (fun _=>by rw[hro];exact ZX (by omega))⟩,by show n.rs.length-(k+1)<n.rs.length-k;omega,tI,tI,tI,tI⟩⟩)
             ·rw[hat3,if_neg (by rw[g5];decide)]at hA3;rw[if_neg (by rw[Zj hlt3 (Ae7 g5)];simp)];refine .inl (cX hA3 ?_);(refine goI ?_;repeat (intro gg;refine goI ?_));(exact⟨[],aI⟩)
            ·have hge:¬k<n.rs.length:=(by have:=ZW g1;omega);rw[if_pos (List.all_eq_true.2 fun r hr=>by obtain⟨j,hj,rfl⟩:=List.mem_iff_getElem.1 hr;exact h0 j hj (by omega))];(refine goI ?_;repeat (intro gg;refine goI ?_));(exact⟨[],aI⟩)
         ·rw[hat,if_neg (by rw[h5];decide)]at hA;rw[Nd.err_none h1' h2' hz h5];(refine goI ?_;repeat (intro gg;refine goI ?_));refine .inl (cX hA ?_);(refine goI ?_;repeat (intro gg;refine goI ?_));(exact⟨[],aI⟩)
       ·have y5:n.pl.err≠0:=by simpa using e5
        have E:Ad (fun e=>e) n.cks=n.pl.err:=by simp[Nd.cks,Ad,z1,z2,z3,z4,y5]
        rw[Nd.err_ck h1' h2' (by rw[E];exact y5),E];(refine goI ?_;repeat (intro gg;refine goI ?_));rw[show(n.pl.err !=0)=true from ZZ.2 y5];(refine goI ?_;repeat (intro gg;refine goI ?_));(exact⟨[],aI⟩)
      ·have y4:Gx n.gs≠0:=by simpa using e4
       have E:Ad (fun e=>e) n.cks=Gx n.gs:=by simp[Nd.cks,Ad,z1,z2,z3,y4]
       rw[Nd.err_ck h1' h2' (by rw[E];exact y4),E];(refine goI ?_;repeat (intro gg;refine goI ?_));rw[e4];(refine goI ?_;repeat (intro gg;refine goI ?_));rw[show(Gx n.gs !=0)=true from ZZ.2 y4];(refine goI ?_;repeat (intro gg;refine goI ?_));(exact⟨[],aI⟩)
     ·have y3:Gp n.sv≠0:=by simpa using e3
      have E:Ad (fun e=>e) n.cks=Gp n.sv:=by simp[Nd.cks,Ad,z1,z2,y3]
      rw[Nd.err_ck h1' h2' (by rw[E];exact y3),E];(refine goI ?_;repeat (intro gg;refine goI ?_));rw[e3];(refine goI ?_;repeat (intro gg;refine goI ?_));rw[e3];(refine goI ?_;repeat (intro gg;refine goI ?_));rw[show(Gp n.sv !=0)=true from ZZ.2 y3];(refine goI ?_;repeat (intro gg;refine goI ?_));(exact⟨[],aI⟩)
    ·have y2:H5 n.rs≠0:=by simpa using e2
     have E:Ad (fun e=>e) n.cks=H5 n.rs:=by simp[Nd.cks,Ad,z1,y2]
     rw[Nd.err_ck h1' h2' (by rw[E];exact y2),E];(refine goI ?_;repeat (intro gg;refine goI ?_));rw[e2];(refine goI ?_;repeat (intro gg;refine goI ?_));rw[e2];(refine goI ?_;repeat (intro gg;refine goI ?_));rw[e2];(refine goI ?_;repeat (intro gg;refine goI ?_));rw[show(H5 n.rs !=0)=true from ZZ.2 y2];(refine goI ?_;repeat (intro gg;refine goI ?_));(exact⟨[],aI⟩)
   ·have y1:Gc n.ms≠0:=by simpa using e1
    have E:Ad (fun e=>e) n.cks=Gc n.ms:=by simp[Nd.cks,Ad,y1]
    rw[Nd.err_ck h1' h2' (by rw[E];exact y1),E];(refine goI ?_;repeat (intro gg;refine goI ?_));rw[e1];(refine goI ?_;repeat (intro gg;refine goI ?_));rw[e1];(refine goI ?_;repeat (intro gg;refine goI ?_));rw[e1];(refine goI ?_;repeat (intro gg;refine goI ?_));rw[e1];(refine goI ?_;repeat (intro gg;refine goI ?_));rw[show(Gc n.ms !=0)=true from ZZ.2 y1];(refine goI ?_;repeat (intro gg;refine goI ?_));(exact⟨[],aI⟩)
structure Nd.sh(n:Nd):Prop where
 msl:n.ms.length≤9223372036854775807
 rsl:n.rs.length≤9223372036854775807
 svl:n.sv.length≤9223372036854775807
 gsl:n.gs.length≤9223372036854775807
 whl:n.wh.length≤9223372036854775807
theorem Aqd{n:Nd}(h:n.ok):Nd.sh n:=⟨h.msl,h.rsl,h.svl,h.gsl,h.whl⟩
theorem Agw[Glob](n:Nd)(h:Nd.sh n):Fun Tryz.prog 59 [.c (.agg n.row),.c (.agg n.row)] [.c (.v (.bool true))]:=by
 have s1:=Ahp false false n.ms n.ms h.msl;have s2:=Acn false false n.rs n.rs h.rsl;have s3:=Ag7 false false n.sv n.sv h.svl;have s4:=Ag8 false false n.gs n.gs h.gsl;have s5:=Afb false false n.wh n.wh h.whl;rw[Il (fun x=>Mb.same_iff.2 rfl) n.ms]at s1;rw[Il (fun x=>Ru.same_iff.2 rfl) n.rs]at s2;rw[Il (fun x=>Sv.same_iff.2 rfl) n.sv]at s3;rw[Il (fun x=>Gw.same_iff.2 rfl) n.gs]at s4;rw[Il (fun x=>Wh.same_iff.2 rfl) n.wh]at s5;refine A9 Ly rfl ?_;(refine goI ?_;repeat (intro gg;refine goI ?_));(refine Ab (fun q1=>?_) (fun q1=>?_)<;>rw[q1];rotate_left;focus (exfalso;simp at q1));(refine goI ?_;repeat (intro gg;refine goI ?_));(refine Ab (fun q2=>?_) (fun q2=>?_)<;>rw[q2];rotate_left;focus (exfalso;simp at q2));(refine goI ?_;repeat (intro gg;refine goI ?_));refine .inl (cX s1 ?_);(refine goI ?_;repeat (intro gg;refine goI ?_));refine .inl (cX s2 ?_);(refine goI ?_;repeat (intro gg;refine goI ?_));refine .inl (cX s3 ?_);(refine goI ?_;repeat (intro gg;refine goI ?_));refine .inl (cX s4 ?_);(refine goI ?_;repeat (intro gg;refine goI ?_));(refine Ab (fun q3=>?_) (fun q3=>?_)<;>rw[q3];rotate_left;focus (exfalso;simp at q3));(refine goI ?_;repeat (intro gg;refine goI ?_));refine .inl (cX s5 ?_);(refine goI ?_;repeat (intro gg;refine goI ?_));(exact⟨[],aI⟩)
namespace Pl
def nt0:Nt:=⟨[],[]⟩
noncomputable def newNt(ns:List Nd):Nt:=if(⟨ns,[]⟩:Nt).err≠0 then nt0 else⟨ns,[]⟩
structure Nt.Good(n:Nt):Prop where
 ns:∀x∈n.ns,x.err=0
 nsl:n.ns.length≤6
 lsl:n.ls.length≤20
 nd:(n.ns.map Nd.nm).Nodup
 ls:∀l∈n.ls,Fe n.ns.length l=0
theorem Nt.good{n:Nt}(h:n.err=0):n.Good:=by
 unfold Nt.err at h;split at h
 ·cases h
 ·rename_i h1;split at h
  ·rename_i h2;exact absurd h h2
  ·rename_i h2;split at h
   ·cases h
   ·rename_i h3;exact⟨Gl (Classical.byContradiction h2),by omega,by omega,Classical.byContradiction h3,Gl h⟩
end Pl
theorem Af3[Glob]{P:Program}{f:FuncId}{u u':V}{rs:List Par}(hF:Fun P f [.c u] rs)(hu:∀(w:World) (R:Nat→Prop) (x:Value),RV w R noG u' x→RV w R noG u x):Fun P f [.c u'] rs:=by
 refine⟨hF.1,fun w R xs hlt hp hg=>?_⟩;obtain⟨x,rfl⟩:∃x,xs=[x]:=by
  have hl:=hp.len;rcases xs with _|⟨x,_|⟨x',xs⟩⟩<;>simp at hl
  exact⟨x,rfl⟩
 have hx:RV w R noG u' x:=hp.ok 0 _ _ rfl rfl;have n:∀v b,¬A4 [.c v] [x] b:=fun v b=>Em (by intro p hp;rcases XC.1 hp with rfl|hp;exact⟨_,rfl⟩;cases hp);have e:A4 [.c u'] [x]=A4 [.c u] [x]:=funext fun b=>propext ⟨fun h=>(n _ b h).elim,fun h=>(n _ b h).elim⟩;rw[e]at hg ⊢;exact hF.2 w R [x] hlt (Vr (hu w R x hx)) hg
theorem Aeu{a:V}{c:Bool}{w:World}{R:Nat→Prop}{x:Value}(h:RV w R noG (.agg [a,.v (.slice none 0 0)]) x):RV w R noG (.agg [a,.sl c []]) x:=by
 cases h with
 |agg cs xs hl hh=>
  refine .agg _ _ hl fun i u y h1 h2=>?_
  match i,h1 with
  |0,h1=>exact hh 0 u y h1 h2
  |1,h1=>
   have e:=B8 (hh 1 _ y rfl h2);simp at h1;subst h1;subst e;exact .nil c none 0 (fun _=>rfl)
  |i+2,h1=>simp at h1
theorem Xi[Glob][Tabs](ns:List Nd)(hl:ns.length≤1000000000000000)(h:∀x∈ns,x.ok):Fun Tryz.prog 10 [.c (.sl false (ns.map Nd.row))] [.c (.agg (newNt ns).row),.c (.v (.int .i64 (⟨ns,[]⟩:Nt).err))]:=by
 have hC:=Nc ⟨ns,[]⟩ ⟨hl,h,ZU _,fun x hx=>nomatch hx⟩;by_cases he:(⟨ns,[]⟩:Nt).err=0
 ·have g:=Nt.good he;have hO:=Akq ⟨ns,[]⟩ (fun x hx=>Nd.good (g.ns x hx)) g.nsl (ZU _);have hO':=Af3 (u:=.agg [.sl false (ns.map Nd.row),.sl false []]) (u':=.agg [.sl false (ns.map Nd.row),.v (.slice none 0 0)]) hO fun w R x h=>Aeu h;rw[he]at hC ⊢;rw[show newNt ns=⟨ns,[]⟩from if_neg (fun q=>q he)];refine Yb Vz rfl ?_;(refine goI ?_;repeat (intro gg;refine goI ?_));refine .inl ⟨_,_,true,[],.bora (.same Ic (.nilsl _ .nil)) (.nil _),hC,(fun _=>fI),nI,?_⟩;(refine goI ?_;repeat (intro gg;refine goI ?_));refine .inl ⟨_,_,false,[],.same (Lr (fun u hu=>by simp only[XC,XD,or_false]at hu;rcases hu with rfl|rfl;exact Ic;exact(Af9 _).cl)) (.nil _),hO',Am,nI,?_⟩;(refine goI ?_;repeat (intro gg;refine goI ?_));exact Aeq (.cell1 rfl rfl rfl rfl rfl rfl (.tmp1 rfl .nil)) (.same Ic (.same E6 .nil)) (Ez rfl)
 ·rw[show newNt ns=nt0 from if_pos he];refine Yb Vz rfl ?_;(refine goI ?_;repeat (intro gg;refine goI ?_));refine .inl ⟨_,_,true,[],.bora (.same Ic (.nilsl _ .nil)) (.nil _),hC,(fun _=>fI),nI,?_⟩;(refine goI ?_;repeat (intro gg;refine goI ?_));rw[show((⟨ns,[]⟩:Nt).err !=0)=true from ZZ.2 he];(refine goI ?_;repeat (intro gg;refine goI ?_));exact Aeq (.cell1 rfl rfl rfl rfl rfl rfl (.tmp1 rfl .nil)) (.nilsl _ (.nilsl _ .nil)) (Ez rfl)
theorem Yx[Glob](n:Nt)(h:n.ok)(hP:∀l∈n.ls,Fun Tryz.prog 17 [.c (.v (.string l.tx))] [.c (.agg (J3 l.tx).1.row),.c (.v (.int .i64 (J3 l.tx).2))]):Fun Tryz.prog 6 [.c (.agg n.row)] [.c (.v (.int .i64 n.err))]:=by
 have l1:(n.ns.map Nd.row).length=n.ns.length:=ZE ..;have l2:(n.ls.map Lt.row).length=n.ls.length:=ZE ..;have b1:=h.nsl;have b2:=h.lsl;refine A9 Lj rfl ?_;(refine goI ?_;repeat (intro gg;refine goI ?_));rw[l1];(refine Ab (fun q1=>?_) (fun q1=>?_)<;>rw[q1])
 ·rw[Nt.err_many (.inl (by have:=ZV q1;omega))];(refine goI ?_;repeat (intro gg;refine goI ?_));(exact⟨[],aI⟩)
 ·have q1':¬6<n.ns.length:=by have:=ZW q1;omega
  (refine goI ?_;repeat (intro gg;refine goI ?_));rw[l2];(refine Ab (fun q2=>?_) (fun q2=>?_)<;>rw[q2])
  ·rw[Nt.err_many (.inr (by have:=ZV q2;omega))];(refine goI ?_;repeat (intro gg;refine goI ?_));(exact⟨[],aI⟩)
  ·have q2':¬20<n.ls.length:=by have:=ZW q2;omega
   have hm:¬(6<n.ns.length∨20<n.ls.length):=fun q=>q.elim q1' q2';(refine goI ?_;repeat (intro gg;refine goI ?_));(refine⟨[],none,{k:Nat//k≤n.ns.length∧∀j,(h:j<n.ns.length)→j<k→(n.ns[j]).err=0},[1],fun⟨k,hk,h0⟩=>[(3,.v (.int .i64 (k:Int)))],[16],fun⟨k,hk,h0⟩=>[],fun⟨k,hk,h0⟩=>n.ns.length-k,trivial,fun _=>⟨trivial,fun _=>⟨⟨0,ZU _,fun j _ h=>absurd h (Nat.not_lt_zero _)⟩,tI,Aj _ _,tI,Ak _ _⟩⟩,fun⟨k,hk,h0⟩=>?_⟩);(refine goI ?_;repeat (intro gg;refine goI ?_));rw[l1];(refine Ab (fun q3=>?_) (fun q3=>?_)<;>rw[q3])
   ·have hlt:k<n.ns.length:=by have:=ZV q3;omega
    (refine goI ?_;repeat (intro gg;refine goI ?_));refine⟨k,_,rfl,Al hlt,?_⟩;(refine goI ?_;repeat (intro gg;refine goI ?_));refine .inl (cX (Zy (n.ns[k]) (h.ns _ (ZK hlt))) ?_);(refine goI ?_;repeat (intro gg;refine goI ?_));(refine Ab (fun q4=>?_) (fun q4=>?_)<;>rw[q4])
    ·have y:(n.ns[k]).err≠0:=by simpa using q4
     have e1:=Bc (e:=Nd.err) hlt h0 y;rw[Nt.err_each hm (by rw[e1];exact y),e1];(refine goI ?_;repeat (intro gg;refine goI ?_));(exact⟨[],aI⟩)
    ·have z:(n.ns[k]).err=0:=by simpa using q4
     (refine goI ?_;repeat (intro gg;refine goI ?_));(exact⟨none,trivial,fun _=>⟨⟨k+1,by omega,up1 (p:=fun j h=>(n.ns[j]).err=0) h0 (fun _=>z)⟩,by show n.ns.length-(k+1)<n.ns.length-k;omega,tI,tI,tI,tI⟩⟩)
   ·have hge:¬k<n.ns.length:=by have:=ZW q3;omega
    have hz:=A8 (e:=Nd.err) (l:=n.ns) (fun i hi=>h0 i hi (by omega));(refine goI ?_;repeat (intro gg;refine goI ?_));(refine⟨[],none,{k:Nat//k≤n.ns.length∧∀i,(h:i<n.ns.length)→i<k→∀j,(g:j<i)→(n.ns[j]).nm≠(n.ns[i]).nm},[1],fun⟨k,hk,h0⟩=>[(5,.v (.int .i64 (k:Int)))],[16],fun⟨k,hk,h0⟩=>[],fun⟨k,hk,h0⟩=>n.ns.length-k,trivial,fun _=>⟨trivial,fun _=>⟨⟨0,ZU _,fun i _ h=>absurd h (Nat.not_lt_zero _)⟩,tI,Aj _ _,tI,Ak _ _⟩⟩,fun⟨k,hk,h0⟩=>?_⟩);(refine goI ?_;repeat (intro gg;refine goI ?_));rw[l1];(refine Ab (fun q5=>?_) (fun q5=>?_)<;>rw[q5])
    ·have hlt:k<n.ns.length:=by have:=ZV q5;omega
     (refine goI ?_;repeat (intro gg;refine goI ?_));(refine⟨[],none,{q:Nat//q≤k∧∀j,(h:j<k)→j<q→(n.ns[j]).nm≠(n.ns[k]).nm},[1,5],fun⟨q,hq,h0'⟩=>[(6,.v (.int .i64 (q:Int)))],[16],fun⟨q,hq,h0'⟩=>[],fun⟨q,hq,h0'⟩=>k-q,trivial,fun _=>⟨trivial,fun _=>⟨⟨0,by omega,fun j _ h=>by omega⟩,tI,Aj _ _,tI,Ak _ _⟩⟩,fun⟨q,hq,h0'⟩=>?_⟩);(refine goI ?_;repeat (intro gg;refine goI ?_));(refine Ab (fun q6=>?_) (fun q6=>?_)<;>rw[q6])
     ·have hqk:q<k:=by have:=ZV q6;omega
      have hql:q<n.ns.length:=by omega
      (refine goI ?_;repeat (intro gg;refine goI ?_));refine⟨q,_,rfl,Al hql,?_⟩;(refine goI ?_;repeat (intro gg;refine goI ?_));refine⟨k,_,rfl,Al hlt,?_⟩;(refine goI ?_;repeat (intro gg;refine goI ?_));(refine Ab (fun q7=>?_) (fun q7=>?_)<;>rw[q7])
      ·have g9:(n.ns[q]).nm=(n.ns[k]).nm:=toList_inj (ZR.1 q7);rw[Nt.err_two hm hz (fun hn=>by
        have:=(List.pairwise_iff_getElem.1 hn) q k (by simpa using hql) (by simpa using hlt) hqk;simp only[XQ]at this;exact this g9)]
       (refine goI ?_;repeat (intro gg;refine goI ?_));(exact⟨[],aI⟩)
      ·have g9:(n.ns[q]).nm≠(n.ns[k]).nm:=fun e=>by rw[e,beq_self_eq_true]at q7;cases q7
       (refine goI ?_;repeat (intro gg;refine goI ?_));(exact⟨none,trivial,fun _=>⟨⟨q+1,by omega,up1 (p:=fun j h=>(n.ns[j]).nm≠(n.ns[k]).nm) h0' (fun _=>g9)⟩,by show k-(q+1)<k-q;omega,tI,tI,tI,tI⟩⟩)
     ·have hqk:¬q<k:=by have:=ZW q6;omega
      (refine goI ?_;repeat (intro gg;refine goI ?_));(exact⟨none,trivial,fun _=>⟨⟨k+1,by omega,up1 (p:=fun i h=>∀j,(g:j<i)→(n.ns[j]).nm≠(n.ns[i]).nm) h0 (fun _ j g=>h0' j g (by omega))⟩,by show n.ns.length-(k+1)<n.ns.length-k;omega,tI,tI,tI,tI⟩⟩)
    ·have hge5:¬k<n.ns.length:=by have:=ZW q5;omega
     have hnd:(n.ns.map Nd.nm).Nodup:=List.pairwise_iff_getElem.2 fun i j hi hj hij=>by
      simp only[XQ];exact h0 j (by simpa using hj) (by simp at hj;omega) i hij
     rw[Nt.err_ls hm hz hnd];(refine goI ?_;repeat (intro gg;refine goI ?_));(refine⟨[],none,{k:Nat//k≤n.ls.length∧∀j,(h:j<n.ls.length)→j<k→Fe n.ns.length n.ls[j]=0},[1],fun⟨k,hk,h0⟩=>[(7,.v (.int .i64 (k:Int)))],[16],fun⟨k,hk,h0⟩=>[],fun⟨k,hk,h0⟩=>n.ls.length-k,trivial,fun _=>⟨trivial,fun _=>⟨⟨0,ZU _,fun j _ h=>absurd h (Nat.not_lt_zero _)⟩,tI,Aj _ _,tI,Ak _ _⟩⟩,fun⟨k,hk,h0⟩=>?_⟩);(refine goI ?_;repeat (intro gg;refine goI ?_));rw[l2];(refine Ab (fun q8=>?_) (fun q8=>?_)<;>rw[q8])
     ·have hlt:k<n.ls.length:=by have:=ZV q8;omega
      (refine goI ?_;repeat (intro gg;refine goI ?_));refine⟨k,_,rfl,Al hlt,?_⟩;(refine goI ?_;repeat (intro gg;refine goI ?_));rw[l1];have hFst:=fun y=>Bc (e:=Fe n.ns.length) hlt h0 y;have hRd:=hP n.ls[k] (ZK hlt);refine .inl (cX (Br n.ls[k].to 0 ((n.ns.length:Int)-1)) ?_);(refine goI ?_;repeat (intro gg;refine goI ?_));(refine Ab (fun q9=>?_) (fun q9=>?_)<;>rw[q9])
      ·have q9':¬(0≤n.ls[k].to∧n.ls[k].to≤(n.ns.length:Int)-1):=Apb.1 (by simpa using q9);have y:Fe n.ns.length n.ls[k]=3:=Rg (by omega);rw[hFst (by rw[y];decide),y];(refine goI ?_;repeat (intro gg;refine goI ?_));(exact⟨[],aI⟩)
      ·have q9':=Ev.1 (show wi n.ls[k].to 0 ((n.ns.length:Int)-1)=true by simpa using q9);have e1:Fe n.ns.length n.ls[k]=(J3 n.ls[k].tx).2:=Wc (by omega);generalize J3 n.ls[k].tx=F at *;(refine goI ?_;repeat (intro gg;refine goI ?_));refine⟨k,_,rfl,Al hlt,?_⟩;(refine goI ?_;repeat (intro gg;refine goI ?_));refine .inl (cX hRd ?_);(refine goI ?_;repeat (intro gg;refine goI ?_));(refine Ab (fun q10=>?_) (fun q10=>?_)<;>rw[q10])
       ·have y:F.2≠0:=by simpa using q10
        rw[hFst (by rw[e1];exact y),e1];(refine goI ?_;repeat (intro gg;refine goI ?_));(exact⟨[],aI⟩)
       ·have z:F.2=0:=by simpa using q10
        (refine goI ?_;repeat (intro gg;refine goI ?_));(exact⟨none,trivial,fun _=>⟨⟨k+1,by omega,up1 (p:=fun j h=>Fe n.ns.length n.ls[j]=0) h0 (fun _=>e1.trans z)⟩,by show n.ls.length-(k+1)<n.ls.length-k;omega,tI,tI,tI,tI⟩⟩)
     ·have hge8:¬k<n.ls.length:=by have:=ZW q8;omega
      rw[A8 (e:=Fe n.ns.length) (l:=n.ls) (fun i hi=>h0 i hi (by omega))];(refine goI ?_;repeat (intro gg;refine goI ?_));(exact⟨[],aI⟩)
structure Nt.sh(n:Nt):Prop where
 nsl:n.ns.length≤1000000000000000
 ns:∀x∈n.ns,Nd.sh x
 lsl:n.ls.length≤1000000000000000
theorem Ap9{n:Nt}(h:n.ok):Nt.sh n:=⟨h.nsl,fun x hx=>Aqd (h.ns x hx),h.lsl⟩
theorem Adi[Glob](n:Nt)(h:Nt.sh n):Fun Tryz.prog 26 [.c (.agg n.row),.c (.agg n.row)] [.c (.v (.bool true))]:=by
 have l1:(n.ns.map Nd.row).length=n.ns.length:=ZE ..;have l2:(n.ls.map Lt.row).length=n.ls.length:=ZE ..;have b1:=h.nsl;have b2:=h.lsl;refine A9 Ms rfl ?_;(refine goI ?_;repeat (intro gg;refine goI ?_));rw[show(((n.ns.map Nd.row).length:Int) !=((n.ns.map Nd.row).length:Int))=false from bne_self_eq_false _];(refine goI ?_;repeat (intro gg;refine goI ?_));rw[show(((n.ls.map Lt.row).length:Int) !=((n.ls.map Lt.row).length:Int))=false from bne_self_eq_false _];(refine goI ?_;repeat (intro gg;refine goI ?_));(refine⟨[],none,{k:Nat//k≤n.ns.length},[2,3],fun⟨k,hk⟩=>[(5,.v (.int .i64 (k:Int)))],[32,48],fun⟨k,hk⟩=>[],fun⟨k,hk⟩=>n.ns.length-k,trivial,fun _=>⟨trivial,fun _=>⟨⟨0,ZU _⟩,tI,Aj _ _,tI,Ak _ _⟩⟩,fun⟨k,hk⟩=>?_⟩);(refine goI ?_;repeat (intro gg;refine goI ?_));rw[l1];(refine Ab (fun q3=>?_) (fun q3=>?_)<;>rw[q3])
 ·have hlt:k<n.ns.length:=by have:=ZV q3;omega
  (refine goI ?_;repeat (intro gg;refine goI ?_));refine⟨k,_,rfl,Al hlt,?_⟩;(refine goI ?_;repeat (intro gg;refine goI ?_));refine⟨k,_,rfl,Al hlt,?_⟩;(refine goI ?_;repeat (intro gg;refine goI ?_));refine .inl (cX (Agw (n.ns[k]) (h.ns _ (ZK hlt))) ?_);(refine goI ?_;repeat (intro gg;refine goI ?_));(exact⟨none,trivial,fun _=>⟨⟨k+1,by omega⟩,by show n.ns.length-(k+1)<n.ns.length-k;omega,tI,tI,tI,tI⟩⟩)
 ·(refine goI ?_;repeat (intro gg;refine goI ?_));(refine⟨[],none,{k:Nat//k≤n.ls.length},[2,3],fun⟨k,hk⟩=>[(6,.v (.int .i64 (k:Int)))],[32,48],fun⟨k,hk⟩=>[],fun⟨k,hk⟩=>n.ls.length-k,trivial,fun _=>⟨trivial,fun _=>⟨⟨0,ZU _⟩,tI,Aj _ _,tI,Ak _ _⟩⟩,fun⟨k,hk⟩=>?_⟩);(refine goI ?_;repeat (intro gg;refine goI ?_));rw[l2];(refine Ab (fun q4=>?_) (fun q4=>?_)<;>rw[q4])
  ·have hlt:k<n.ls.length:=by have:=ZV q4;omega
   (refine goI ?_;repeat (intro gg;refine goI ?_));refine⟨k,_,rfl,Al hlt,?_⟩;(refine goI ?_;repeat (intro gg;refine goI ?_));refine⟨k,_,rfl,Al hlt,?_⟩;(refine goI ?_;repeat (intro gg;refine goI ?_));rw[show(!((n.ls[k].to==n.ls[k].to)&&((n.ls[k].tx.toList==n.ls[k].tx.toList)&&true)))=false by simp];(refine goI ?_;repeat (intro gg;refine goI ?_));(exact⟨none,trivial,fun _=>⟨⟨k+1,by omega⟩,by show n.ls.length-(k+1)<n.ls.length-k;omega,tI,tI,tI,tI⟩⟩)
  ·(refine goI ?_;repeat (intro gg;refine goI ?_));(exact⟨[],aI⟩)
theorem Af8[Glob](n want:Nt)(e:Int)(hn:Nt.sh n)(h0:e=0→want=n)(h1:e≠0→n=nt0):Fun Tryz.prog 11 [.c (.agg n.row),.c (.v (.int .i64 e)),.c (.v (.int .i64 e)),.c (.agg want.row)] [.c (.v (.bool true))]:=by
 have hN:=Adi n hn;refine A9 Og rfl ?_;(refine goI ?_;repeat (intro gg;refine goI ?_));(refine Ab (fun q=>?_) (fun q=>?_)<;>rw[q])
 ·have hq:=h1 (by simpa using q);subst hq;(refine goI ?_;repeat (intro gg;refine goI ?_));rw[show(e==e)=true from beq_self_eq_true _];(refine goI ?_;repeat (intro gg;refine goI ?_));refine .inl ⟨_,_,true,[],.same (Sc (n:=nt0)) (.bora (.nilsl _ (.nilsl _ .nil)) (.nil _)),hN,(fun _=>fI),nI,?_⟩;(refine goI ?_;repeat (intro gg;refine goI ?_));(exact⟨[],aI⟩)
 ·have hq:=h0 (by simpa using q);subst hq;(refine goI ?_;repeat (intro gg;refine goI ?_));rw[show(e==e)=true from beq_self_eq_true _];(refine goI ?_;repeat (intro gg;refine goI ?_));refine .inl ⟨_,_,false,[],.same (Sc (n:=want)) (.same (Sc (n:=want)) (.nil _)),hN,Am,nI,?_⟩;(refine goI ?_;repeat (intro gg;refine goI ?_));(exact⟨[],aI⟩)
theorem Aov[Glob]{P:Program}{f:FuncId}{T:TypeId}{sz:Nat}{rows:List (List V)}{rs:List Par}(hF:Fun P f [.c (.sl false rows)] rs):Fun P f [.o T sz rows] rs:=by
 refine⟨hF.1,fun w R xs hlt hp hg=>?_⟩;obtain⟨x,rfl⟩:∃x,xs=[x]:=by
  have hl:=hp.len;rcases xs with _|⟨x,_|⟨x',xs⟩⟩<;>simp at hl
  exact⟨x,rfl⟩
 have h0:Nk w R (.o T sz rows) x:=hp.ok 0 _ _ rfl rfl;have hx:RV w (fun b=>R b∨x.ownBlock=some b) noG (.sl false rows) x:=Ahw h0 (fun b hb=>.inl hb) (fun b hb=>.inr hb);have hlt1:∀b,(R b∨x.ownBlock=some b)→b<w.heap.size:=by
  rintro b (hb|hb)
  ·exact hlt b hb
  ·obtain⟨_,xs',g,_⟩:=h0;exact Gn g hb
 have n:∀b,¬A4 [.c (.sl false rows)] [x] b:=fun b=>Em (by intro p hp;rcases XC.1 hp with rfl|hp;exact⟨_,rfl⟩;cases hp);have blk:∀b,x.ownBlock=some b→A4 [.o T sz rows] [x] b:=fun b hb=>⟨0,T,sz,rows,x,rfl,rfl,hb⟩;refine(hF.2 w (fun b=>R b∨x.ownBlock=some b) [x] hlt1 (Vr hx) (fun b o q=>⟨(hg b o q).1,n b⟩)).mono ?_
 rintro e w' ⟨ys,R',rfl,hf,h1,h2,h3,h4⟩
 refine⟨ys,R',rfl,C8 hf (fun k q=>(n k q).elim),fun b hb=>h1 b (.inl hb),fun b hb=>?_,h3,fun b hb=>?_⟩
 ·rcases h2 b hb with(q|q)|⟨q1,q2⟩
  ·exact .inl q
  ·exact .inr ⟨XH (hlt1 b (.inr q)) hf.size,.inl (blk b q)⟩
  ·exact .inr ⟨q1,q2.elim (fun q=>(n b q).elim) .inr⟩
 ·rcases h4 b hb with q|q
  ·exact(n b q).elim
  ·exact .inr q
theorem Agd[Glob](l:List Lt)(i:Nat)(hi:i<l.length)(hl:l.length≤1000):Fun Tryz.prog 66 [.o 57 2 (l.map Lt.row),.c (.v (.int .i64 i)),.c (.v (.int .i64 ((i:Int)+1)))] [.o 57 2 ((l.eraseIdx i).map Lt.row)]:=by
 have hlen:(l.map Lt.row).length=l.length:=by simp
 refine A9 D9 rfl ?_;(refine goI ?_;repeat (intro gg;refine goI ?_));refine⟨2,i,i+1,rfl,⟨_,rfl⟩,⟨_,rfl⟩,by omega,by show i+1≤(l.map Lt.row).length;omega,?_⟩;refine⟨_,l.length,.i64,rfl,rfl,by rw[←hlen];rfl,by omega,by show l.length≤(l.map Lt.row).length;omega,?_⟩;(refine goI ?_;repeat (intro gg;refine goI ?_));rw[show(((i:Int)==(i:Int)+1)=false)from by simp;omega];(refine goI ?_;repeat (intro gg;refine goI ?_));refine⟨0,i,rfl,rfl,⟨_,rfl⟩,by omega,by show i≤(l.map Lt.row).length;omega,rfl,?_⟩;(refine goI ?_;repeat (intro gg;refine goI ?_));refine⟨i+1,(l.map Lt.row).length,rfl,⟨_,rfl⟩,rfl,by show i+1≤(l.map Lt.row).length;omega,by show(l.map Lt.row).length≤(l.map Lt.row).length;omega,rfl,?_⟩;(refine goI ?_;repeat (intro gg;refine goI ?_));refine⟨by omega,by omega,by show(l.map Lt.row).length≤(l.map Lt.row).length;omega,?_⟩;(refine goI ?_;repeat (intro gg;refine goI ?_));have e2:((l.map Lt.row).take i++((l.map Lt.row).drop (i+1)).take ((l.map Lt.row).length-(i+1))++(l.map Lt.row).drop (i+((l.map Lt.row).length-(i+1)))).length=l.length:=by
  simp only[ZF,ZM,List.length_drop,hlen];omega
 refine⟨i+((l.map Lt.row).length-(i+1)),(l.map Lt.row).length,rfl,⟨_,rfl⟩,⟨_,rfl⟩,by omega,?_,rfl,by omega,?_⟩
 ·show 0+(l.map Lt.row).length≤((l.map Lt.row).take i++((l.map Lt.row).drop (i+1)).take ((l.map Lt.row).length-(i+1))++(l.map Lt.row).drop (i+((l.map Lt.row).length-(i+1)))).length;rw[Nat.zero_add,hlen];rw[hlen]at e2;exact Nat.le_of_eq e2.symm
 (refine goI ?_;repeat (intro gg;refine goI ?_));refine⟨by omega,?_,?_⟩
 ·show 0+(l.map Lt.row).length≤((l.map Lt.row).take i++((l.map Lt.row).drop (i+1)).take ((l.map Lt.row).length-(i+1))++(l.map Lt.row).drop (i+((l.map Lt.row).length-(i+1)))).length;rw[Nat.zero_add,hlen];rw[hlen]at e2;exact Nat.le_of_eq e2.symm
 (refine goI ?_;repeat (intro gg;refine goI ?_));refine⟨[0],Ahr rfl rfl rfl rfl rfl ?_ ?_ ?_⟩
 ·refine XI ?_ (Nat.le_of_eq (congrArg List.length (ZS _ _ _)).symm);rw[ZF,ZM];refine XI (m:=i+((l.map Lt.row).length-(i+1))) (by omega) (XI (Nat.le_min.2 ⟨by omega,?_⟩) (Nat.le_add_right _ _));show _≤((l.map Lt.row).take i++((l.map Lt.row).drop (i+1)).take ((l.map Lt.row).length-(i+1))++(l.map Lt.row).drop (i+((l.map Lt.row).length-(i+1)))).length;rw[hlen];rw[hlen]at e2;rw[e2];omega
 ·repeat' (first|exact Ci|exact Alt rfl|apply Aof|apply Als|apply Ak8)
 ·exact Aby hi
theorem Ago(w:World)(o o':Obj): {w.alloc o with heap:=(w.alloc o).heap.setIfInBounds w.heap.size o'} =w.alloc o':=by
 have e:(w.heap.push o).setIfInBounds w.heap.size o'=w.heap.push o':=by
  apply Array.ext
  ·simp
  ·intro i h1 h2;simp only[Array.getElem_setIfInBounds,Array.getElem_push]
   grind
 show({w with heap:=(w.heap.push o).setIfInBounds w.heap.size o'} :World)={w with heap:=w.heap.push o'};rw[e]
theorem Aaq(w:World)(o:Obj):(w.alloc o).heap[w.heap.size]? =some o:=by
 show(w.heap.push o)[w.heap.size]? =some o;simp
theorem Hl{P:Program}{w:World}{t kt et:TypeId}{clock:Nat}{es:Array MapEntry}{k:Int}{v:Value}(ht:P.underlying t=some (.map kt et))(hkt:P.underlying kt=some (.int .i64))(hf:Instr.findNow (.int .i64) (.int .i64 k) es.toList 0=some none):(Instr.mapUpdate t (.map (some w.heap.size)) (.int .i64 k) v).run P (w.alloc (.map es clock))=.ok () (w.alloc (.map (es.push ⟨.int .i64 k,v,clock⟩) (clock+1))):=by
 have hm:=Aaq w (.map es clock);rw[←Ago w (.map es clock) (.map (es.push ⟨.int .i64 k,v,clock⟩) (clock+1))];simp[Instr.mapUpdate,run_underlying ht,Go.MapKept.run_getObj_map hm,Go.MapKept.run_checkKey hkt (show Go.MapKept.IsKey (.int .i64) (.int .i64 k)from rfl),Go.MapKept.run_findKey hkt hf,Go.MapKept.run_setObj_map _ hm,Result.andThen]
theorem Ak1{P:Program}{w:World}{t kt et:TypeId}{clock i:Nat}{es:Array MapEntry}{k:Int}{v:Value}(ht:P.underlying t=some (.map kt et))(hkt:P.underlying kt=some (.int .i64))(hf:Instr.findNow (.int .i64) (.int .i64 k) es.toList 0=some (some (i,v))):(Instr.lookup t (.map (some w.heap.size)) (.int .i64 k) false).run P (w.alloc (.map es clock))=.ok v (w.alloc (.map es clock)):=by
 have hm:=Aaq w (.map es clock);simp[Instr.lookup,run_underlying ht,Go.MapKept.run_getObj_map hm,Go.MapKept.run_checkKey hkt (show Go.MapKept.IsKey (.int .i64) (.int .i64 k)from rfl),Go.MapKept.run_findKey hkt hf,Result.andThen]
theorem Zg{P:Program}{f:FuncId}{xs:Array Value}{w:World}(h:Dd P f):(callFunc f xs).run P w=.ok (.enter f xs) w:=by
 obtain⟨fn,h1,h2,h3⟩:=h
 have h2' : fn.name ≠ "runtime.NumGoroutine" := fun e => by rw [e] at h2; cases h2
 have h3':fn.body≠none:=fun e=>by rw[e]at h3;cases h3
 simp[callFunc,h1,h2',h3']
end Go.Proofs.YtchbkgnobpejnaaGreatDoor
