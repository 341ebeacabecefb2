/- Texts of this claim, joined. -/
import Derived.Test.YteflnbjmjcbmmaaGreatDoorProg
import Derived.Test.YteflnbjmjcbmmaaGreatDoorWAbsQ
import Derived.KernelRfl
import Derived.Test.YteflnbjmjcbmmaaGreatDoorWAbsK
import Derived.Test.YteflnbjmjcbmmaaGreatDoorWAbsS
import Derived.Test.YteflnbjmjcbmmaaGreatDoorWAbs1
import Derived.WalkKit
import Derived.Below
import Derived.Defers
import Derived.Recover
import Derived.Laws.Pointers
import Derived.Test.YteflnbjmjcbmmaaGreatDoorVa
import Derived.Test.YteflnbjmjcbmmaaGreatDoorVb
import Derived.Test.YteflnbjmjcbmmaaGreatDoorVc
set_option linter.unusedSimpArgs false
set_option linter.unusedVariables false
namespace Go.Proofs.YteflnbjmjcbmmaaGreatDoor
open Go Go.RowKit Pl
abbrev prT:TypeId:=65
def Do:Value:=.iface 61 (.agg #[])
section
variable {P:Program} {w:World} {R:Nat→Prop}
theorem Y4{p:Ba}{x:Value}{F':Nat→Prop}(hx:Hj w R p x F')(hd:∀b,F' b→¬R b):∀(zs:List Value),Ca w R ((zs.map fun z=>.p (.c (.v z)))++[p]) (zs++[x]) F'
 |[]=>⟨F',fun _=>False,hx,fun b h=>h,fun b hb=>⟨fun q=>q,hd b hb⟩,fun b=>by simp⟩
 |z::zs=>by
  refine⟨fun _=>False,F',⟨.v z,fun b=>⟨fun q=>q.elim,fun q=>Fa (fun p hp=>by simp at hp;exact⟨_,hp⟩) q⟩⟩,Y4 hx hd zs,fun b hb=>hb.elim,fun b=>by simp⟩
theorem Aa1{u:V}{x:Value}(h:RV w R noG u x):N7 w R [.c u] [x]:=by
 refine⟨rfl,fun i p y h1 h2=>?_,fun i j T sz rows T' sz' rows' x y b hij h1=>?_,fun b h=>absurd h (Fa (fun p hp=>by simp at hp;exact⟨_,hp⟩))⟩
 ·rcases i with _|i
  ·cases h1;cases h2;exact h
  ·simp at h1
 ·rcases i with _|i<;>simp at h1
theorem Ahs{T:TypeId}{y y':Value}{xs:List Value}{F:Nat→Prop}(hp:Ca w R [.mn T [.c (.v y)] [.c (.v y')]] xs F):∃b,xs=[.pointer (some ⟨b,0,none⟩)]∧w.heap[b]? =some (.cells #[y] T (0,0))∧(∀k,F k↔k=b)∧¬R b:=by
 match xs,hp with
 |[x],hp=>
  obtain⟨F1,F2,⟨b,ys,rfl,hpos,hown,hpars,hone,hnb,hF1⟩,h2,h3,h4⟩:=hp;have hl:ys.length=1:=by simpa using hpars.len.symm
  obtain⟨y0,rfl⟩:∃y0,ys=[y0]:=List.length_eq_one_iff.1 hl;obtain rfl:y0=y:=B9 (hpars.ok 0 _ _ rfl rfl);have hnb':∀k,¬A7 [.c (.v y0)] [y0] k:=fun k=>Fa (fun p hp=>by simp at hp;exact⟨_,hp⟩);have hF:∀k,F k↔k=b:=fun k=>by
   rw[h4,hF1];exact⟨fun q=>q.elim (fun q=>q.resolve_right (hnb' k)) (fun q=>absurd q (h2 k)),fun q=>.inl (.inl q)⟩
  refine⟨b,rfl,?_,hF,(h3 b ((hF1 b).2 (.inl rfl))).2⟩;rcases hown.2 with⟨q,_⟩|⟨g,cap,cur,q,_,hg,hnc,hcm,hcs,htake⟩
  ·cases q
  ·injection q with q1 q2 q3;injection q1 with q1
   injection q1 with q1;subst q1 q3;have hl:cur.toList.length=1:=by simpa using hcs
   have hx:cur.toList=[y0]:=by rw[←htake,List.take_of_length_le (by rw[hl];exact ZT _)]
   have hc:cur= #[y0]:=by apply Array.ext';rw[hx]
   rw[hc]at hg;exact hg
theorem Afo[Glob]{f:FuncId}{T:TypeId}{y y':Value}{zs:List Value}(hc:Dt P f)(hy':y'.oneCell'=true)(h:∀(w:World) (L:Nat→Prop) (b:Nat),Bz w L→w.heap[b]? =some (.cells #[y] T (0,0))→Calls P f #[.pointer (some ⟨b,0,none⟩)] w fun e w'=>e=.returned (Db zs)∧Fr (fun k=>k=b) w w'∧w'.heap[b]? =some (.cells #[y'] T (0,0))):
  E8 P f [.mn T [.c (.v y)] [.c (.v y')]] (zs.map fun z=>.p (.c (.v z))):=by
 refine⟨hc,fun w R xs F hlt hp hg=>?_⟩;obtain⟨b,rfl,hb,hF,hR⟩:=Ahs hp;refine(h w F b hg hb).mono ?_
 rintro e w' ⟨rfl,hfr,hb'⟩
 refine⟨zs,R,fun k=>k=b,rfl,by simp,C6 hfr fun k hk=>(hF k).2 hk,fun b hb=>hb,fun b hb=>.inl hb,?_,fun k hk=>.inl ((hF k).2 hk)⟩;have hnb':∀k,¬A7 [.c (.v y')] [y'] k:=fun k=>Fa (fun p hp=>by simp at hp;exact⟨_,hp⟩);refine Y4 (p:=.pn T [.c (.v y')]) ⟨b,[y'],rfl,by simp,⟨rfl,.inr ⟨b,1,_,rfl,ZU _,hb',by simp,by decide,rfl,rfl⟩⟩,Aa1 (.v _),by simp[hy'],hnb' b,fun k=>⟨.inl,fun h=>h.elim id (fun h=>absurd h (hnb' k))⟩⟩ (fun k hk=>by rw[hk];exact hR) zs
theorem Zs[Glob]{f:FuncId}{T:TypeId}{y v:Value}{y':Value}(hc:Dt P f)(h:∀(w:World) (L:Nat→Prop) (b:Nat),Bz w L→w.heap[b]? =some (.cells #[y] T (0,0))→Calls P f #[.pointer (some ⟨b,0,none⟩)] w fun e w'=>e=.panicked [{v:=v,recovered:=false}]∧Fr (fun k=>k=b) w w'):
  Gu P f [.mn T [.c (.v y)] [.c (.v y')]] v:=by
 refine⟨hc,fun w R xs F hlt hp hg=>?_⟩;obtain⟨b,rfl,hb,hF,hR⟩:=Ahs hp;exact(h w F b hg hb).mono fun e w' ⟨h1,h2⟩=>⟨h1,C6 h2 fun k hk=>(hF k).2 hk⟩
end
def G5:Ag:=
 .seq (.reg [Rq 4 (.mv (.const (.string ⟨#[]⟩))),Rq 5 (.mv (.const (.string ⟨#[]⟩))),Rq 6 (.mv (.const (.bool false)))]) (.seq (.seq (.reg [Mq 8 0,Mq 9 1,Cq 10 98 ([8,9]),Mq 7 10]) (.seq (.reg [Mq 11 7,Bq 12 .geq 11 (Kq 0)]) (.cond 12 (.seq (.dreg [[Mq 13 0,Mq 14 7,Rq 15 (.slcS 13 none (some 14)),Mq 16 0,Mq 17 7,Mq 18 1,Rq 19 (.len true 18),Bq 20 .add 17 19,Rq 21 (.slcS 16 (some 20) none),Mq 4 15],[Mq 5 21],[Rq 6 (.mv (.const (.bool true)))]]) (.ret)) (.skip)))) (.seq (.reg [Mq 22 0,Mq 4 22,Rq 5 (.mv (.const (.string ⟨#[]⟩))),Rq 6 (.mv (.const (.bool false)))]) (.ret)))
theorem Dy:Ao Tryz.prog 92 2=some (G5,[4,5,6]):=by kernel_rfl
namespace Pl
noncomputable def Ux(p:Pk):ByteArray:=if p.err=0 then bA (pkB p)else⟨#[]⟩
end Pl
theorem Gs[Glob][Tabs](p:Pk)(h:p.ok):Fun Tryz.prog 6 [.c (.agg p.row)] [.c (.v (.string (Ux p))),.c (.v (.int .i64 p.err))]:=by
 have hC:=Mi p h;by_cases h0:p.err=0
 ·have hW:=Acv p (Pk.sm h0);rw[h0]at hC ⊢;rw[show Ux p=bA (pkB p)from if_pos h0];refine A9 Lu rfl ?_;(refine goI ?_;repeat (intro gg;refine goI ?_));refine .inl (cX hC ?_);(refine goI ?_;repeat (intro gg;refine goI ?_));refine .inl (cX hW ?_);(refine goI ?_;repeat (intro gg;refine goI ?_));(exact⟨[],aI⟩)
 ·rw[show Ux p=⟨#[]⟩from if_neg h0];refine A9 Lu rfl ?_;(refine goI ?_;repeat (intro gg;refine goI ?_));refine .inl (cX hC ?_);(refine goI ?_;repeat (intro gg;refine goI ?_));(refine Ae5 ?_ ?_;focus (simpa using h0));(refine goI ?_;repeat (intro gg;refine goI ?_));(exact⟨[],aI⟩)
theorem Ns[Glob](s:ByteArray)(c:UInt8):Fun Tryz.prog 98 [.c (.v (.string s)),.c (.v (.string ⟨#[c]⟩))] [.c (.v (.int .i64 (ixb s c)))]:=
 Oi (xs:=[.string s,.string ⟨#[c]⟩]) (Ff Tryz.func98 (by kernel_rfl) (by kernel_rfl)) fun w=>(U7 s c w).mono fun e w' ⟨h1,h2⟩=>⟨h1,h2▸Below.refl _ _⟩
theorem Aci[Glob]{s:ByteArray}{k:Nat}(hk:ixb s 59=(k:Int))(hlt:k<s.size)(hs:s.size≤1000000000000):Fun Tryz.prog 92 [.c (.v (.string s)),.c (.v (.string ⟨#[59]⟩))] [.c (.v (.string (s.extract 0 k))),.c (.v (.string (s.extract (k+1) s.size))),.c (.v (.bool true))]:=by
 have hi:=Ns s 59;rw[hk]at hi;refine A9 Dy rfl ?_;(refine goI ?_;repeat (intro gg;refine goI ?_));refine .inl (cX hi ?_);(refine goI ?_;repeat (intro gg;refine goI ?_));refine⟨0,k,rfl,⟨_,rfl⟩,by omega,by omega,?_⟩;(refine goI ?_;repeat (intro gg;refine goI ?_));refine⟨(k:Int)+1,Jf (n:=(k:Int)+1) (by omega) (by omega),?_⟩;(refine goI ?_;repeat (intro gg;refine goI ?_));refine⟨k+1,s.size,⟨_,rfl⟩,rfl,by omega,ZT _,?_⟩;(refine goI ?_;repeat (intro gg;refine goI ?_));(exact⟨[],aI⟩)
theorem Acl[Glob]{s:ByteArray}(h:ixb s 59<0):Fun Tryz.prog 92 [.c (.v (.string s)),.c (.v (.string ⟨#[59]⟩))] [.c (.v (.string s)),.c (.v (.string ⟨#[]⟩)),.c (.v (.bool false))]:=by
 have hi:=Ns s 59;generalize ixb s 59=i at hi h;refine A9 Dy rfl ?_;(refine goI ?_;repeat (intro gg;refine goI ?_));refine .inl (cX hi ?_);(refine goI ?_;repeat (intro gg;refine goI ?_));(refine Vs ?_ ?_;focus (exact ZY (by omega)));(refine goI ?_;repeat (intro gg;refine goI ?_));(exact⟨[],aI⟩)
theorem O7[Glob]{s a b:ByteArray}(h:L1 s 59=some (a,b))(hs:s.size≤1000000000000):Fun Tryz.prog 82 [.c (.v (.string s)),.c (.v (.string ⟨#[59]⟩))] [.c (.v (.string a)),.c (.v (.string b)),.c (.v (.bool true))]:=by
 unfold L1 at h;split at h
 ·cases h
 ·rename_i h0;injection h with h
  injection h with ha hb;obtain⟨k,hk⟩:=Int.eq_ofNat_of_zero_le (show 0≤ixb s 59 by omega);have hlt:k<s.size:=by
   have h1:=(Lib.indexByte_some (show Lib.indexByte s.data.toList 59=(k:Int)from hk)).1;have:=(ZB.1 h1).1;rw[Array.length_toList]at this;exact this
  have hi:=Aci hk hlt hs;rw[hk,Int.toNat_natCast]at ha hb;rw[ha,hb]at hi;refine A9 Mt rfl ?_;(refine goI ?_;repeat (intro gg;refine goI ?_));refine .inl (cX hi ?_);(refine goI ?_;repeat (intro gg;refine goI ?_));(exact⟨[],aI⟩)
theorem Ts[Glob]{s:ByteArray}(h:L1 s 59=none):Fun Tryz.prog 82 [.c (.v (.string s)),.c (.v (.string ⟨#[59]⟩))] [.c (.v (.string s)),.c (.v (.string ⟨#[]⟩)),.c (.v (.bool false))]:=by
 unfold L1 at h;split at h
 ·rename_i h0;have hi:=Acl h0;refine A9 Mt rfl ?_;(refine goI ?_;repeat (intro gg;refine goI ?_));refine .inl (cX hi ?_);(refine goI ?_;repeat (intro gg;refine goI ?_));(exact⟨[],aI⟩)
 ·cases h
theorem Bz.none_[Glob]{w:World}{L:Nat→Prop}(h:Bz w L):Bz w (fun _=>False):=fun b o q=>⟨(h b o q).1,id⟩
theorem Bz.fr_[Glob]{w w':World}(h:Bz w (fun _=>False))(hf:Fr (fun _=>False) w w'):Bz w' (fun _=>False):=h.at_ hf fun b q=>q.elim
theorem Xe[Glob]{w w':World}(hf:Fr (fun _=>False) w w'){b:Nat}{o:Obj}(h:w.heap[b]? =some o):w'.heap[b]? =some o:=(hf.block b (XL.1 h).1 id).trans h
set_option maxRecDepth 100000 in
set_option maxHeartbeats 4000000 in
theorem Ad1[Glob][Tabs]{s r:ByteArray}{n:Int}(h:Cd s=some (n,r))(hs:s.size≤1000000000000)(w:World)(L:Nat→Prop)(b:Nat)(hg:Bz w L)(hb:w.heap[b]? =some (.cells #[.string s] prT (0,0))):
  Calls Tryz.prog 67 #[.pointer (some ⟨b,0,none⟩)] w fun e w'=>e=.returned (Db [.int .i64 n])∧Fr (fun k=>k=b) w w'∧w'.heap[b]? =some (.cells #[.string r] prT (0,0)):=by
 obtain⟨hI,_⟩:=F5 h;unfold Cd at h;rcases hc:L1 s 59 with _|⟨t,r'⟩
 ·rw[hc]at h;cases h
 rw[hc,ZA]at h;rcases hv:Zn t with _|n'
 ·simp only[hv]at h;cases h
 simp only[hv,Option.map_some,ZD,Prod.mk.injEq]at h;obtain⟨rfl,rfl⟩:=h;unfold Zn at hv;rcases hA:Lib.atoiAll t.data.toList with m|_|_
 rotate_left
 ·rw[hA]at hv;cases hv
 ·rw[hA]at hv;cases hv
 rw[hA]at hv;simp only at hv;split at hv;rotate_left
 ·cases hv
 rename_i hE;injection hv with hv
 subst hv;have hts:t.size≤1000000000000:=by
  unfold L1 at hc;split at hc
  ·cases hc
  ·injection hc with hc;injection hc with hc _
   subst hc;rw[ByteArray.size_extract];omega
 have hg0:=hg.none_;have c0:w.cell? ⟨b,0,none⟩=some (.string s):=by rw[Lib.cell_of_heap hb];rfl
 go_enter Tryz.func67,Tryz.ntmps67
 go_wp2_with (go_at_call 82;refine(G6 (xs:=[.string s,.string ⟨#[59]⟩]) (ys:=[.string t,.string r',.bool true]) (O7 hc hs) _ hg0).mono ?_;rintro e w1 ⟨rfl,hf1⟩;simp only[Db])
 have hg1:=hg0.fr_ hf1
 go_wp2_with (go_at_call 83;refine(Any.strconv_Atoi_ok Tryz.laysC172 t (by omega) m hA _).mono ?_;rintro e w2 ⟨rfl,hw2⟩)
 have hf2:Fr (fun _=>False) w1 w2:=by
  rcases hw2 with rfl|⟨q,rfl⟩
  ·exact Fr.refl _ _
  ·have hb:=Lib.bytesWorld_below w1 (Tryz.laysC172_ren.t 5) q;exact Dh hb
 have hg2:=hg1.fr_ hf2;clear hw2
 go_wp2_with (go_at_call 75;refine(G6 (xs:=[.int .i64 m]) (ys:=[.string ⟨(Lib.itoa m).toArray⟩]) (Ul m hI.1 hI.2) _ hg2).mono ?_;rintro e w3 ⟨rfl,hf3⟩;simp only[Db];have hb3:=Xe hf3 (Xe hf2 (Xe hf1 hb));have f3:=Lib.frozen_of_heap hb3 0;have c3:w3.cell? ⟨b,0,none⟩=some (.string s):=(by rw[Lib.cell_of_heap hb3];rfl))
 ·go_ret
  refine⟨rfl,?_,?_⟩
  ·exact(C6 ((hf1.trans hf2).trans hf3) (fun k q=>q.elim)).trans (Zp (L:=fun k=>k=b) rfl _ _)
  ·rw[heap_set hb3];rfl
theorem A5[Glob][Tabs]{s r:ByteArray}{n:Int}(h:Cd s=some (n,r))(hs:s.size≤1000000000000):E8 Tryz.prog 67 [.mn prT [.c (.v (.string s))] [.c (.v (.string r))]] [.p (.c (.v (.int .i64 n)))]:=
 Afo (zs:=[.int .i64 n]) (Ff Tryz.func67 (by kernel_rfl) (by kernel_rfl)) rfl fun w L b hg hb=>Ad1 h hs w L b hg hb
set_option maxRecDepth 100000 in
set_option maxHeartbeats 4000000 in
theorem Sw[Glob]{s:ByteArray}(hc:L1 s 59=none)(m:Int)(hA:Lib.atoiAll s.data.toList=.ok m)(hs:s.size≤1000000000000)(w:World)(L:Nat→Prop)(b:Nat)(hg:Bz w L)(hb:w.heap[b]? =some (.cells #[.string s] prT (0,0))):
  Calls Tryz.prog 67 #[.pointer (some ⟨b,0,none⟩)] w fun e w'=>e=.panicked [{v:=Do,recovered:=false}]∧Fr (fun k=>k=b) w w':=by
 have hg0:=hg.none_;have c0:w.cell? ⟨b,0,none⟩=some (.string s):=by rw[Lib.cell_of_heap hb];rfl
 go_enter Tryz.func67,Tryz.ntmps67
 go_wp2_with (go_at_call 82;refine(G6 (xs:=[.string s,.string ⟨#[59]⟩]) (ys:=[.string s,.string ⟨#[]⟩,.bool false]) (Ts hc) _ hg0).mono ?_;rintro e w1 ⟨rfl,hf1⟩;simp only[Db])
 have hg1:=hg0.fr_ hf1
 go_wp2_with (go_at_call 83;refine(Any.strconv_Atoi_ok Tryz.laysC172 s (by omega) m hA _).mono ?_;rintro e w2 ⟨rfl,hw2⟩)
 have hf2:Fr (fun _=>False) w1 w2:=by
  rcases hw2 with rfl|⟨q,rfl⟩
  ·exact Fr.refl _ _
  ·have hb:=Lib.bytesWorld_below w1 (Tryz.laysC172_ren.t 5) q;exact Dh hb
 have hg2:=hg1.fr_ hf2;clear hw2
 go_wp2
 refine⟨rfl,?_⟩;exact⟨rfl,C6 (hf1.trans hf2) (fun k q=>q.elim)⟩
set_option maxRecDepth 100000 in
set_option maxHeartbeats 4000000 in
theorem N8[Glob][Tabs]{s:ByteArray}(hc:L1 s 59=none)(hA:Lib.atoiAll s.data.toList=Lib.atoiAll [])(hs:s.size≤1000000000000)(w:World)(L:Nat→Prop)(b:Nat)(hg:Bz w L)(hb:w.heap[b]? =some (.cells #[.string s] prT (0,0))):
  Calls Tryz.prog 67 #[.pointer (some ⟨b,0,none⟩)] w fun e w'=>e=.panicked [{v:=Do,recovered:=false}]∧Fr (fun k=>k=b) w w':=by
 have hg0:=hg.none_;have c0:w.cell? ⟨b,0,none⟩=some (.string s):=by rw[Lib.cell_of_heap hb];rfl
 go_enter Tryz.func67,Tryz.ntmps67
 go_wp2_with (go_at_call 82;refine(G6 (xs:=[.string s,.string ⟨#[59]⟩]) (ys:=[.string s,.string ⟨#[]⟩,.bool false]) (Ts hc) _ hg0).mono ?_;rintro e w1 ⟨rfl,hf1⟩;simp only[Db])
 have hg1:=hg0.fr_ hf1;obtain⟨ev,hev1,hev2⟩:=Tabs.syn w1 _ hg1
 go_wp2_with (go_at_call 83;refine(Any.strconv_Atoi_syntax Tryz.laysC172 s (by omega) hA ev _ hev1 hev2).mono ?_;rintro e w2 ⟨N,rfl,hN1,hN2,hw2⟩)
 have hf2:Fr (fun _=>False) w1 w2:=Dh hw2
 go_wp2
 refine⟨rfl,?_⟩;exact⟨rfl,C6 (hf1.trans hf2) (fun k q=>q.elim)⟩
set_option maxRecDepth 100000 in
set_option maxHeartbeats 4000000 in
theorem Ok[Glob][Tabs]{s:ByteArray}(hc:L1 s 59=none)(hA:Lib.atoiAll s.data.toList=.range)(hs:s.size≤1000000000000)(w:World)(L:Nat→Prop)(b:Nat)(hg:Bz w L)(hb:w.heap[b]? =some (.cells #[.string s] prT (0,0))):
  Calls Tryz.prog 67 #[.pointer (some ⟨b,0,none⟩)] w fun e w'=>e=.panicked [{v:=Do,recovered:=false}]∧Fr (fun k=>k=b) w w':=by
 have hg0:=hg.none_;have c0:w.cell? ⟨b,0,none⟩=some (.string s):=by rw[Lib.cell_of_heap hb];rfl
 go_enter Tryz.func67,Tryz.ntmps67
 go_wp2_with (go_at_call 82;refine(G6 (xs:=[.string s,.string ⟨#[59]⟩]) (ys:=[.string s,.string ⟨#[]⟩,.bool false]) (Ts hc) _ hg0).mono ?_;rintro e w1 ⟨rfl,hf1⟩;simp only[Db])
 have hg1:=hg0.fr_ hf1;obtain⟨ev,hev1,hev2⟩:=Tabs.ran w1 _ hg1
 go_wp2_with (go_at_call 83;refine(Any.strconv_Atoi_range Tryz.laysC172 s (by omega) hA ev _ hev1 hev2).mono ?_;rintro e w2 ⟨N,rfl,hN1,hN2,hw2⟩)
 have hf2:Fr (fun _=>False) w1 w2:=Dh hw2
 go_wp2
 refine⟨rfl,?_⟩;exact⟨rfl,C6 (hf1.trans hf2) (fun k q=>q.elim)⟩
set_option maxRecDepth 100000 in
set_option maxHeartbeats 4000000 in
theorem O5[Glob][Tabs]{s t r:ByteArray}(hc:L1 s 59=some (t,r))(hA:Lib.atoiAll t.data.toList=Lib.atoiAll [])(hs:s.size≤1000000000000)(ht:t.size≤1000000000000)(w:World)(L:Nat→Prop)(b:Nat)(hg:Bz w L)(hb:w.heap[b]? =some (.cells #[.string s] prT (0,0))):
  Calls Tryz.prog 67 #[.pointer (some ⟨b,0,none⟩)] w fun e w'=>e=.panicked [{v:=Do,recovered:=false}]∧Fr (fun k=>k=b) w w':=by
 have hg0:=hg.none_;have c0:w.cell? ⟨b,0,none⟩=some (.string s):=by rw[Lib.cell_of_heap hb];rfl
 go_enter Tryz.func67,Tryz.ntmps67
 go_wp2_with (go_at_call 82;refine(G6 (xs:=[.string s,.string ⟨#[59]⟩]) (ys:=[.string t,.string r,.bool true]) (O7 hc hs) _ hg0).mono ?_;rintro e w1 ⟨rfl,hf1⟩;simp only[Db])
 have hg1:=hg0.fr_ hf1;obtain⟨ev,hev1,hev2⟩:=Tabs.syn w1 _ hg1
 go_wp2_with (go_at_call 83;refine(Any.strconv_Atoi_syntax Tryz.laysC172 t (by omega) hA ev _ hev1 hev2).mono ?_;rintro e w2 ⟨N,rfl,hN1,hN2,hw2⟩)
 have hf2:Fr (fun _=>False) w1 w2:=Dh hw2
 go_wp2
 refine⟨rfl,?_⟩;exact⟨rfl,C6 (hf1.trans hf2) (fun k q=>q.elim)⟩
set_option maxRecDepth 100000 in
set_option maxHeartbeats 4000000 in
theorem Pw[Glob][Tabs]{s t r:ByteArray}(hc:L1 s 59=some (t,r))(hA:Lib.atoiAll t.data.toList=.range)(hs:s.size≤1000000000000)(ht:t.size≤1000000000000)(w:World)(L:Nat→Prop)(b:Nat)(hg:Bz w L)(hb:w.heap[b]? =some (.cells #[.string s] prT (0,0))):
  Calls Tryz.prog 67 #[.pointer (some ⟨b,0,none⟩)] w fun e w'=>e=.panicked [{v:=Do,recovered:=false}]∧Fr (fun k=>k=b) w w':=by
 have hg0:=hg.none_;have c0:w.cell? ⟨b,0,none⟩=some (.string s):=by rw[Lib.cell_of_heap hb];rfl
 go_enter Tryz.func67,Tryz.ntmps67
 go_wp2_with (go_at_call 82;refine(G6 (xs:=[.string s,.string ⟨#[59]⟩]) (ys:=[.string t,.string r,.bool true]) (O7 hc hs) _ hg0).mono ?_;rintro e w1 ⟨rfl,hf1⟩;simp only[Db])
 have hg1:=hg0.fr_ hf1;obtain⟨ev,hev1,hev2⟩:=Tabs.ran w1 _ hg1
 go_wp2_with (go_at_call 83;refine(Any.strconv_Atoi_range Tryz.laysC172 t (by omega) hA ev _ hev1 hev2).mono ?_;rintro e w2 ⟨N,rfl,hN1,hN2,hw2⟩)
 have hf2:Fr (fun _=>False) w1 w2:=Dh hw2
 go_wp2
 refine⟨rfl,?_⟩;exact⟨rfl,C6 (hf1.trans hf2) (fun k q=>q.elim)⟩
set_option maxRecDepth 100000 in
set_option maxHeartbeats 4000000 in
theorem U8[Glob][Tabs]{s t r:ByteArray}(hc:L1 s 59=some (t,r))(m:Int)(hA:Lib.atoiAll t.data.toList=.ok m)(hE:¬Lib.itoa m=t.data.toList)(hs:s.size≤1000000000000)(ht:t.size≤1000000000000)(w:World)(L:Nat→Prop)(b:Nat)(hg:Bz w L)(hb:w.heap[b]? =some (.cells #[.string s] prT (0,0))):
  Calls Tryz.prog 67 #[.pointer (some ⟨b,0,none⟩)] w fun e w'=>e=.panicked [{v:=Do,recovered:=false}]∧Fr (fun k=>k=b) w w':=by
 have hg0:=hg.none_;have c0:w.cell? ⟨b,0,none⟩=some (.string s):=by rw[Lib.cell_of_heap hb];rfl
 obtain⟨hI1,hI2⟩:=Lib.atoiAll_bounds hA;have hE2:(⟨(Lib.itoa m).toArray⟩:ByteArray)≠t:=fun q=>hE (by rw[←q])
 go_enter Tryz.func67,Tryz.ntmps67
 go_wp2_with (go_at_call 82;refine(G6 (xs:=[.string s,.string ⟨#[59]⟩]) (ys:=[.string t,.string r,.bool true]) (O7 hc hs) _ hg0).mono ?_;rintro e w1 ⟨rfl,hf1⟩;simp only[Db])
 have hg1:=hg0.fr_ hf1
 go_wp2_with (go_at_call 83;refine(Any.strconv_Atoi_ok Tryz.laysC172 t (by omega) m hA _).mono ?_;rintro e w2 ⟨rfl,hw2⟩)
 have hf2:Fr (fun _=>False) w1 w2:=by
  rcases hw2 with rfl|⟨q,rfl⟩
  ·exact Fr.refl _ _
  ·have hb:=Lib.bytesWorld_below w1 (Tryz.laysC172_ren.t 5) q;exact Dh hb
 have hg2:=hg1.fr_ hf2;clear hw2
 go_wp2_with (go_at_call 75;refine(G6 (xs:=[.int .i64 m]) (ys:=[.string ⟨(Lib.itoa m).toArray⟩]) (Ul m hI1 hI2) _ hg2).mono ?_;rintro e w3 ⟨rfl,hf3⟩;simp only[Db];have hE3:((Lib.itoa m)==t.toList)=false:=(by rw[Lib.toList_data];simpa using hE))
 go_wp2
 refine⟨rfl,?_⟩;exact⟨rfl,C6 ((hf1.trans hf2).trans hf3) (fun k q=>q.elim)⟩
theorem Bd[Glob][Tabs]{s:ByteArray}{y':Value}(h:Cd s=none)(hs:s.size≤1000000000000):Gu Tryz.prog 67 [.mn prT [.c (.v (.string s))] [.c (.v y')]] Do:=by
 refine Zs (Ff Tryz.func67 (by kernel_rfl) (by kernel_rfl)) fun w L b hg hb=>?_;unfold Cd at h;rcases hc:L1 s 59 with _|⟨t,r⟩
 ·rcases hA:Lib.atoiAll s.data.toList with m|_|_
  ·exact Sw hc m hA hs w L b hg hb
  ·exact N8 hc hA hs w L b hg hb
  ·exact Ok hc hA hs w L b hg hb
 ·rw[hc,ZA,Option.map_eq_none_iff]at h;have ht:t.size≤1000000000000:=by
   unfold L1 at hc;split at hc
   ·cases hc
   ·injection hc with hc;injection hc with hc _
    subst hc;rw[ByteArray.size_extract];omega
  unfold Zn at h;simp only at h;rcases hA:Lib.atoiAll t.data.toList with m|_|_
  ·rw[hA]at h;simp only at h;split at h
   ·cases h
   ·rename_i hE;exact U8 hc m hA hE hs ht w L b hg hb
  ·exact O5 hc hA hs ht w L b hg hb
  ·exact Pw hc hA hs ht w L b hg hb
theorem Bt[Glob]{s:ByteArray}{p:Int×ByteArray}(h:Cd s=some p):p.2.size≤s.size:=by
 obtain⟨_,h⟩:=F5 h;have h1:s.data.toList.length=s.size:=Array.length_toList;have h2:p.2.data.toList.length=p.2.size:=Array.length_toList;rw[h,ZF]at h1;omega
theorem D5[Glob][Tabs]{s t r:ByteArray}(h:Fk s=some (t,r))(hs:s.size≤1000000000000):E8 Tryz.prog 63 [.mn prT [.c (.v (.string s))] [.c (.v (.string r))]] [.p (.c (.v (.string t)))]:=by
 unfold Fk at h;rcases e:Cd s with _|⟨n,r1⟩
 ·rw[e]at h;cases h
 rw[e,ZA]at h;simp only at h;split at h
 ·cases h
 rename_i hc;have hz:=Bt e;simp only at hz;obtain⟨k,rfl⟩:=Int.eq_ofNat_of_zero_le (show 0≤n by omega);have hk:k≤r1.size:=by omega
 rw[Int.toNat_natCast]at h;injection h with h
 injection h with h1 h2;subst h1 h2;refine L7 Fs rfl rfl (N3 rfl) ?_;(refine goI ?_;repeat (intro gg;refine goI ?_));(refine .inr (.inl ⟨_,_,false,0::([]++[]),?_,A5 e hs,Ak,oI,dI,?_⟩);focus (exact wI));(refine goI ?_;repeat (intro gg;refine goI ?_));(refine Vs ?_ ?_;focus (exact ZY (by omega)));(refine goI ?_;repeat (intro gg;refine goI ?_));refine⟨0,k,rfl,⟨_,rfl⟩,by omega,by omega,?_⟩;(refine goI ?_;repeat (intro gg;refine goI ?_));refine⟨k,r1.size,⟨_,rfl⟩,rfl,by omega,ZT _,?_⟩;(refine goI ?_;repeat (intro gg;refine goI ?_));(exact⟨0::([]++[]),B7 (by first|exact De rfl|assumption) (D7 (gone:=[]) (gone1:=[]) rfl aI (by decide) (by decide) (by decide) (.nil _))⟩)
theorem Fg[Glob][Tabs]{s:ByteArray}{y':Value}(h:Fk s=none)(hs:s.size≤1000000000000):Gu Tryz.prog 63 [.mn prT [.c (.v (.string s))] [.c (.v y')]] Do:=by
 unfold Fk at h;refine Xw Fs rfl (N3 rfl) ?_;(refine goI ?_;repeat (intro gg;refine goI ?_));rcases e:Cd s with _|⟨n,r1⟩
 ·(refine .inr (.inr (.inl ⟨_,false,0::([]++[]),_,?_,Bd (y':=.nilIface) e hs,rfl⟩));focus (exact wI))
 ·rw[e,ZA]at h;simp only at h;split at h;rotate_left
  ·cases h
  rename_i hc;(refine .inr (.inl ⟨_,_,false,0::([]++[]),?_,A5 e hs,Ak,oI,dI,?_⟩);focus (exact wI));(refine goI ?_;repeat (intro gg;refine goI ?_));by_cases hn:n<0
  ·rw[ZX hn];(refine goI ?_;repeat (intro gg;refine goI ?_));rfl
  ·rw[ZY hn];(refine goI ?_;repeat (intro gg;refine goI ?_));rw[ZX (show(r1.size:Int)<n by omega)];(refine goI ?_;repeat (intro gg;refine goI ?_));rfl
theorem K2[Glob][Tabs]{s r:ByteArray}{b:Bool}(h:Kg s=some (b,r))(hs:s.size≤1000000000000):E8 Tryz.prog 64 [.mn prT [.c (.v (.string s))] [.c (.v (.string r))]] [.p (.c (.v (.bool b)))]:=by
 unfold Kg at h;rcases e:Cd s with _|⟨n,r1⟩
 ·rw[e]at h;cases h
 rw[e,ZA]at h;simp only at h;split at h
 ·cases h
 rename_i hc;injection h with h
 injection h with h1 h2;subst h2;refine L7 Gp rfl rfl (N3 rfl) ?_;(refine goI ?_;repeat (intro gg;refine goI ?_));rcases(show n=0∨n=1 by omega)with rfl|rfl
 ·obtain rfl:b=false:=h1.symm;(refine .inr (.inl ⟨_,_,false,0::([]++[]),?_,A5 e hs,Ak,oI,dI,?_⟩);focus (exact wI));(refine goI ?_;repeat (intro gg;refine goI ?_));(exact⟨0::([]++[]),B7 (by first|exact De rfl|assumption) (D7 (gone:=[]) (gone1:=[]) rfl aI (by decide) (by decide) (by decide) (.nil _))⟩)
 ·obtain rfl:b=true:=h1.symm;(refine .inr (.inl ⟨_,_,false,0::([]++[]),?_,A5 e hs,Ak,oI,dI,?_⟩);focus (exact wI));(refine goI ?_;repeat (intro gg;refine goI ?_));(exact⟨0::([]++[]),B7 (by first|exact De rfl|assumption) (D7 (gone:=[]) (gone1:=[]) rfl aI (by decide) (by decide) (by decide) (.nil _))⟩)
theorem Ky[Glob][Tabs]{s:ByteArray}{y':Value}(h:Kg s=none)(hs:s.size≤1000000000000):Gu Tryz.prog 64 [.mn prT [.c (.v (.string s))] [.c (.v y')]] Do:=by
 unfold Kg at h;refine Xw Gp rfl (N3 rfl) ?_;(refine goI ?_;repeat (intro gg;refine goI ?_));rcases e:Cd s with _|⟨n,r1⟩
 ·(refine .inr (.inr (.inl ⟨_,false,0::([]++[]),_,?_,Bd (y':=.nilIface) e hs,rfl⟩));focus (exact wI))
 ·rw[e,ZA]at h;simp only at h;split at h;rotate_left
  ·cases h
  rename_i hc;(refine .inr (.inl ⟨_,_,false,0::([]++[]),?_,A5 e hs,Ak,oI,dI,?_⟩);focus (exact wI));(refine goI ?_;repeat (intro gg;refine goI ?_));by_cases hn:n<0
  ·rw[ZX hn];(refine goI ?_;repeat (intro gg;refine goI ?_));rfl
  ·rw[ZY hn];(refine goI ?_;repeat (intro gg;refine goI ?_));rw[ZX (show(1:Int)<n by omega)];(refine goI ?_;repeat (intro gg;refine goI ?_));rfl
theorem Es[Glob]{s:ByteArray}{p:ByteArray×ByteArray}(h:Fk s=some p):p.2.size≤s.size:=by
 obtain⟨_,h⟩:=Li.some _ _ h;have h1:s.data.toList.length=s.size:=Array.length_toList;have h2:p.2.data.toList.length=p.2.size:=Array.length_toList;rw[h,ZF]at h1;omega
theorem Na[Glob]{s:ByteArray}{p:Bool×ByteArray}(h:Kg s=some p):p.2.size≤s.size:=by
 obtain⟨_,h⟩:=Tm.some _ _ h;have h1:s.data.toList.length=s.size:=Array.length_toList;have h2:p.2.data.toList.length=p.2.size:=Array.length_toList;rw[h,ZF]at h1;omega
theorem Aq[Glob]{T:List Nat}{H:Hp}:Ic T H H:=fun _ _ _ h=>h
theorem Aw[Glob]{T:List Nat}{H0 H:Hp}{k:Nat}{x:Option Ent}(h:T.contains k=true)(hk:Ic T H0 H):Ic T H0 (upd H k x):=fun id e h1 h2=>by
 rw[An _ _ (fun q=>by rw[q,h]at h1;cases h1)];exact hk id e h1 h2
namespace Pl
def kWh(fr:ByteArray)(wo:Bool)(ms:List Mb)(sv:List Sv)(gs:List Gw)(f:List Wh×ByteArray):Option (Pk×ByteArray):=some (⟨fr,wo,ms,sv,gs,f.1⟩,f.2)
def kGs(fr:ByteArray)(wo:Bool)(ms:List Mb)(sv:List Sv)(e:List Gw×ByteArray):Option (Pk×ByteArray):=(Ef 20 whR e.2).bind (kWh fr wo ms sv e.1)
def kSv(fr:ByteArray)(wo:Bool)(ms:List Mb)(d:List Sv×ByteArray):Option (Pk×ByteArray):=(Ef 6 gwR d.2).bind (kGs fr wo ms d.1)
def kMs(fr:ByteArray)(wo:Bool)(c:List Mb×ByteArray):Option (Pk×ByteArray):=(Ef 40 svR c.2).bind (kSv fr wo c.1)
end Pl
def Alk:Ag:=Dx [true,false] Df
set_option maxHeartbeats 20000000 in
theorem Q4[Glob][Tabs]{s:ByteArray}{y':Value}(hs:s.size≤1000000000000)(D:Value→Prop)(K:Ex→Env→Hp→Prop)(hd:pkR s=none→D Do)(hk:∀p r env H,pkR s=some (p,r)→Wi [(2,some (true,6))] [.mn prT [.c (.v (.string s))] [.c (.v (.string r))]] [.p (.c (.agg p.row))] .ret env H→K .ret env H):
  wpx Tryz.prog D Alk K (atV (Fe 0 [.mn prT [.c (.v (.string s))] [.c (.v y')]])) (Bn noH (Nt 0 [.mn prT [.c (.v (.string s))] [.c (.v y')]])):=by
 have hP:pkR s=(Fk s).bind fun a=>(Kg a.2).bind fun b=>(Ef 20 mbR b.2).bind (kMs a.1 b.1):=rfl;(refine goI ?_;repeat (intro gg;refine goI ?_));revert gg;rename_i g1;intro g2;rcases e1:Fk s with _|⟨fr,s1⟩
 ·refine⟨PEmpty,[],fun _=>[],[],fun _=>[],?_,fun x=>x.elim⟩;have hD:=hd (by rw[hP,e1];rfl);refine⟨[0,48],?_⟩;(refine goI ?_;repeat (intro gg;refine goI ?_));refine⟨?_,?_⟩
  ·(refine goI ?_;repeat (intro gg;refine goI ?_));refine⟨(by repeat (first|exact Aq|refine keepT_drops rfl ?_|refine Aw rfl ?_)),?_⟩;(refine goI ?_;repeat (intro gg;refine goI ?_));(refine .inr (.inr (.inl ⟨_,false,0::([]++[]),_,?_,Fg (y':=.nilIface) e1 hs,hD⟩));focus (exact wI))
  ·(refine goI ?_;repeat (intro gg;refine goI ?_));(refine .inr (.inr (.inl ⟨_,false,0::([]++[]),_,?_,Fg (y':=.nilIface) e1 hs,hD⟩));focus (exact wI))
 have z1:=Es e1;simp only at z1;rw[e1,ZA]at hP;simp only at hP;rcases e2:Kg s1 with _|⟨wo,s2⟩
 ·refine⟨PEmpty,[],fun _=>[],[],fun _=>[],?_,fun x=>x.elim⟩;have hD:=hd (by rw[hP,e2];rfl);refine⟨[0,48],?_⟩;(refine goI ?_;repeat (intro gg;refine goI ?_));refine⟨?_,?_⟩
  ·(refine goI ?_;repeat (intro gg;refine goI ?_));refine⟨(by repeat (first|exact Aq|refine keepT_drops rfl ?_|refine Aw rfl ?_)),?_⟩;(refine goI ?_;repeat (intro gg;refine goI ?_));(refine .inr (.inl ⟨_,_,false,0::([]++[]),?_,D5 e1 hs,Ak,oI,dI,?_⟩);focus (exact wI));(refine goI ?_;repeat (intro gg;refine goI ?_));refine⟨(by repeat (first|exact Aq|refine keepT_drops rfl ?_|refine Aw rfl ?_)),?_⟩;(refine goI ?_;repeat (intro gg;refine goI ?_));(refine .inr (.inr (.inl ⟨_,false,0::([]++[]),_,?_,Ky (y':=.nilIface) e2 (by omega),hD⟩));focus (exact wI))
  ·(refine goI ?_;repeat (intro gg;refine goI ?_));(refine .inr (.inl ⟨_,_,false,0::([]++[]),?_,D5 e1 hs,Ak,oI,dI,?_⟩);focus (exact wI));(refine goI ?_;repeat (intro gg;refine goI ?_));refine⟨(by repeat (first|exact Aq|refine keepT_drops rfl ?_|refine Aw rfl ?_)),?_⟩;(refine goI ?_;repeat (intro gg;refine goI ?_));refine⟨?_,?_⟩
   ·(refine goI ?_;repeat (intro gg;refine goI ?_));refine⟨(by repeat (first|exact Aq|refine keepT_drops rfl ?_|refine Aw rfl ?_)),?_⟩;(refine goI ?_;repeat (intro gg;refine goI ?_));(refine .inr (.inr (.inl ⟨_,false,0::([]++[]),_,?_,Ky (y':=.nilIface) e2 (by omega),hD⟩));focus (exact wI))
   ·(refine goI ?_;repeat (intro gg;refine goI ?_));(refine .inr (.inr (.inl ⟨_,false,0::([]++[]),_,?_,Ky (y':=.nilIface) e2 (by omega),hD⟩));focus (exact wI))
 have z2:=Na e2;simp only at z2;rw[e2,ZA]at hP;simp only at hP;refine⟨Nat,[1,2],fun x=>[(3,.ptr 48 x 0 0)],[16,32],fun x=>[(0,⟨0,.b prT,1,[[.v (.string s2)]]⟩),(48,⟨x,.b 27,6,[[.v (.string fr),.v (.bool wo),.v (.slice none 0 0),.v (.slice none 0 0),.v (.slice none 0 0),.v (.slice none 0 0)]]⟩)],?_,fun gp=>?_⟩
 ·refine⟨[0,48],?_⟩;(refine goI ?_;repeat (intro gg;refine goI ?_));refine⟨?_,?_⟩
  ·(refine goI ?_;repeat (intro gg;refine goI ?_));revert gg;intro gp;refine⟨(by repeat (first|exact Aq|refine keepT_drops rfl ?_|refine Aw rfl ?_)),?_⟩;(refine goI ?_;repeat (intro gg;refine goI ?_));(refine .inr (.inl ⟨_,_,false,0::([]++[]),?_,D5 e1 hs,Ak,oI,dI,?_⟩);focus (exact wI));(refine goI ?_;repeat (intro gg;refine goI ?_));refine⟨(by repeat (first|exact Aq|refine keepT_drops rfl ?_|refine Aw rfl ?_)),?_⟩;(refine goI ?_;repeat (intro gg;refine goI ?_));(refine .inr (.inl ⟨_,_,false,0::([]++[]),?_,K2 e2 (by omega),Ak,oI,dI,?_⟩);focus (exact wI));(refine goI ?_;repeat (intro gg;refine goI ?_));refine⟨(by repeat (first|exact Aq|refine keepT_drops rfl ?_|refine Aw rfl ?_)),?_⟩;(refine goI ?_;repeat (intro gg;refine goI ?_));refine⟨(by repeat (first|exact Aq|refine keepT_drops rfl ?_|refine Aw rfl ?_)),?_⟩;(refine goI ?_;repeat (intro gg;refine goI ?_));(exact⟨gp,tI,tI,tI,tI⟩)
  ·(refine goI ?_;repeat (intro gg;refine goI ?_));(refine .inr (.inl ⟨_,_,false,0::([]++[]),?_,D5 e1 hs,Ak,oI,dI,?_⟩);focus (exact wI));(refine goI ?_;repeat (intro gg;refine goI ?_));refine⟨(by repeat (first|exact Aq|refine keepT_drops rfl ?_|refine Aw rfl ?_)),?_⟩;(refine goI ?_;repeat (intro gg;refine goI ?_));refine⟨?_,?_⟩
   ·(refine goI ?_;repeat (intro gg;refine goI ?_));revert gg;intro gp;refine⟨(by repeat (first|exact Aq|refine keepT_drops rfl ?_|refine Aw rfl ?_)),?_⟩;(refine goI ?_;repeat (intro gg;refine goI ?_));(refine .inr (.inl ⟨_,_,false,0::([]++[]),?_,K2 e2 (by omega),Ak,oI,dI,?_⟩);focus (exact wI));(refine goI ?_;repeat (intro gg;refine goI ?_));refine⟨(by repeat (first|exact Aq|refine keepT_drops rfl ?_|refine Aw rfl ?_)),?_⟩;(refine goI ?_;repeat (intro gg;refine goI ?_));refine⟨(by repeat (first|exact Aq|refine keepT_drops rfl ?_|refine Aw rfl ?_)),?_⟩;(refine goI ?_;repeat (intro gg;refine goI ?_));(exact⟨gp,tI,tI,tI,tI⟩)
   ·(refine goI ?_;repeat (intro gg;refine goI ?_));(refine .inr (.inl ⟨_,_,false,0::([]++[]),?_,K2 e2 (by omega),Ak,oI,dI,?_⟩);focus (exact wI));(refine goI ?_;repeat (intro gg;refine goI ?_));refine⟨(by repeat (first|exact Aq|refine keepT_drops rfl ?_|refine Aw rfl ?_)),?_⟩;(refine goI ?_;repeat (intro gg;refine goI ?_));refine⟨?_,?_⟩
    ·(refine goI ?_;repeat (intro gg;refine goI ?_));revert gg;intro gp;refine⟨(by repeat (first|exact Aq|refine keepT_drops rfl ?_|refine Aw rfl ?_)),?_⟩;(refine goI ?_;repeat (intro gg;refine goI ?_));refine⟨(by repeat (first|exact Aq|refine keepT_drops rfl ?_|refine Aw rfl ?_)),?_⟩;(refine goI ?_;repeat (intro gg;refine goI ?_));(exact⟨gp,tI,tI,tI,tI⟩)
    ·(refine goI ?_;repeat (intro gg;refine goI ?_));refine⟨(by repeat (first|exact Aq|refine keepT_drops rfl ?_|refine Aw rfl ?_)),?_⟩;(refine goI ?_;repeat (intro gg;refine goI ?_));revert gg;intro gp;refine⟨(by repeat (first|exact Aq|refine keepT_drops rfl ?_|refine Aw rfl ?_)),?_⟩;(refine goI ?_;repeat (intro gg;refine goI ?_));(exact⟨gp,tI,tI,tI,tI⟩)
 ·
  (refine goI ?_;repeat (intro gg;refine goI ?_));refine .inr (.inr (.inr (Gv 1000 Ix rfl ?_)));(refine goI ?_;repeat (intro gg;refine goI ?_));rcases ems:Cd s2 with _|⟨n,ums⟩
  ·(refine .inr (.inr (.inl ⟨_,false,0::([]++[]),_,?_,Bd (y':=.nilIface) ems (by omega),hd (by rw[hP];unfold Ef Hv;rw[ems];rfl)⟩));focus (exact wI))
  have zms:=Bt ems;simp only at zms;by_cases hn:n<0
  ·(refine .inr (.inl ⟨_,_,false,0::([]++[]),?_,A5 ems (by omega),Ak,oI,dI,?_⟩);focus (exact wI));(refine goI ?_;repeat (intro gg;refine goI ?_));rw[ZX hn];(refine goI ?_;repeat (intro gg;refine goI ?_));exact hd (by rw[hP];unfold Ef Hv;rw[ems,ZA];simp only;rw[if_pos (.inl hn)];rfl)
  obtain⟨Nms,rfl⟩:=Int.eq_ofNat_of_zero_le (show 0≤n by omega);(refine .inr (.inl ⟨_,_,false,0::([]++[]),?_,A5 ems (by omega),Ak,oI,dI,?_⟩);focus (exact wI));(refine goI ?_;repeat (intro gg;refine goI ?_));by_cases hm:(20:Int)<(Nms:Int)
  ·rw[ZX hm];(refine goI ?_;repeat (intro gg;refine goI ?_));exact hd (by rw[hP];unfold Ef Hv;rw[ems,ZA];simp only;rw[if_pos (.inr hm)];rfl)
  rw[ZY hm];have hPms:pkR s=(Ea mbR Nms ums).bind (kMs fr wo):=by
   rw[hP];unfold Ef Hv;rw[ems,ZA];simp only;rw[if_neg (by omega),ZA,Int.toNat_natCast]
  (refine goI ?_;repeat (intro gg;refine goI ?_));(refine⟨[(8,900000,47,5)],none,{q:List Mb×ByteArray×Nat×Nat//(q.1.length=q.2.2.2∧q.2.2.2≤Nms)∧q.2.1.size≤1000000000000∧pkR s=(Ea mbR (Nms-q.1.length) q.2.1).bind (fun r=>kMs fr wo (q.1++r.1,r.2))},[0,1,2,20],fun⟨⟨lms,tms,gms,k⟩,hl,ht,hq⟩=>[(8,.own 900000 gms),(21,.v (.int .i64 (k:Int)))],[16,32,48],fun⟨⟨lms,tms,gms,k⟩,hl,ht,hq⟩=>[(0,⟨0,.b prT,1,[[.v (.string tms)]]⟩),(900000,⟨gms,.t 47,5,lms.map Mb.row⟩)],fun⟨⟨lms,tms,gms,k⟩,hl,ht,hq⟩=>Nms-k,(by exact⟨rfl,by decide,(fun _ _ _ _ h=>by cases h),trivial⟩),fun gs=>⟨trivial,fun _=>⟨⟨([],ums,gs 900000,0),⟨rfl,ZU _⟩,by show ums.size≤_;omega,by rw[hPms];simp⟩,tI,tI,tI,tI⟩⟩,fun⟨⟨lms,tms,gms,k⟩,hl,ht,hq⟩=>?_⟩);have hl:lms.length=k∧k≤Nms:=hl;obtain⟨hl1,hl2⟩:=hl;have htms:tms.size≤1000000000000:=ht;have hq:pkR s=(Ea mbR (Nms-lms.length) tms).bind (fun r=>kMs fr wo (lms++r.1,r.2)):=hq;(refine goI ?_;repeat (intro gg;refine goI ?_));(refine Ab (fun cms=>?_) (fun cms=>?_)<;>rw[cms])
  ·have hlt:k<Nms:=(by have:=ZV cms;omega);obtain⟨j,hj⟩:∃j,Nms-lms.length=j+1:=⟨Nms-lms.length-1,by omega⟩;rw[hj]at hq;have hq:pkR s=((mbR tms).bind fun p=>(Ea mbR j p.2).bind fun q=>some (p.1::q.1,q.2)).bind (fun r=>kMs fr wo (lms++r.1,r.2)):=hq;(refine goI ?_;repeat (intro gg;refine goI ?_));refine .inr (.inr (.inr (R9 2000 I0 rfl ?_)));(refine goI ?_;repeat (intro gg;refine goI ?_));refine⟨[0],?_⟩;(refine goI ?_;repeat (intro gg;refine goI ?_));obtain⟨F,hF⟩:∃F,F=Ea mbR:=⟨_,rfl⟩;rw[←hF]at hq;unfold mbR at hq;rcases f0:Fk tms with _|⟨x0,v0⟩
   ·(refine .inr (.inr (.inl ⟨_,false,0::([]++[]),_,?_,Fg (y':=.nilIface) f0 (by omega),hd (by rw[hq,f0];rfl)⟩));focus (exact wI))
   have y0:=Es f0;simp only at y0;rw[f0,ZA]at hq;simp only at hq;(refine .inr (.inl ⟨_,_,false,0::([]++[]),?_,D5 f0 (by omega),Ak,oI,dI,?_⟩);focus (exact wI));(refine goI ?_;repeat (intro gg;refine goI ?_));refine⟨(by repeat (first|exact Aq|refine keepT_drops rfl ?_|refine Aw rfl ?_)),?_⟩;(refine goI ?_;repeat (intro gg;refine goI ?_));rcases f1:Cd v0 with _|⟨x1,v1⟩
   ·(refine .inr (.inr (.inl ⟨_,false,0::([]++[]),_,?_,Bd (y':=.nilIface) f1 (by omega),hd (by rw[hq,f1];rfl)⟩));focus (exact wI))
   have y1:=Bt f1;simp only at y1;rw[f1,ZA]at hq;simp only at hq;(refine .inr (.inl ⟨_,_,false,0::([]++[]),?_,A5 f1 (by omega),Ak,oI,dI,?_⟩);focus (exact wI));(refine goI ?_;repeat (intro gg;refine goI ?_));refine⟨(by repeat (first|exact Aq|refine keepT_drops rfl ?_|refine Aw rfl ?_)),?_⟩;(refine goI ?_;repeat (intro gg;refine goI ?_));rcases f2:Cd v1 with _|⟨x2,v2⟩
   ·(refine .inr (.inr (.inl ⟨_,false,0::([]++[]),_,?_,Bd (y':=.nilIface) f2 (by omega),hd (by rw[hq,f2];rfl)⟩));focus (exact wI))
   have y2:=Bt f2;simp only at y2;rw[f2,ZA]at hq;simp only at hq;(refine .inr (.inl ⟨_,_,false,0::([]++[]),?_,A5 f2 (by omega),Ak,oI,dI,?_⟩);focus (exact wI));(refine goI ?_;repeat (intro gg;refine goI ?_));refine⟨(by repeat (first|exact Aq|refine keepT_drops rfl ?_|refine Aw rfl ?_)),?_⟩;(refine goI ?_;repeat (intro gg;refine goI ?_));rcases f3:Cd v2 with _|⟨x3,v3⟩
   ·(refine .inr (.inr (.inl ⟨_,false,0::([]++[]),_,?_,Bd (y':=.nilIface) f3 (by omega),hd (by rw[hq,f3];rfl)⟩));focus (exact wI))
   have y3:=Bt f3;simp only at y3;rw[f3,ZA]at hq;simp only at hq;(refine .inr (.inl ⟨_,_,false,0::([]++[]),?_,A5 f3 (by omega),Ak,oI,dI,?_⟩);focus (exact wI));(refine goI ?_;repeat (intro gg;refine goI ?_));refine⟨(by repeat (first|exact Aq|refine keepT_drops rfl ?_|refine Aw rfl ?_)),?_⟩;(refine goI ?_;repeat (intro gg;refine goI ?_));rcases f4:Kg v3 with _|⟨x4,v4⟩
   ·(refine .inr (.inr (.inl ⟨_,false,0::([]++[]),_,?_,Ky (y':=.nilIface) f4 (by omega),hd (by rw[hq,f4];rfl)⟩));focus (exact wI))
   have y4:=Na f4;simp only at y4;rw[f4,ZA]at hq;simp only at hq;(refine .inr (.inl ⟨_,_,false,0::([]++[]),?_,K2 f4 (by omega),Ak,oI,dI,?_⟩);focus (exact wI));(refine goI ?_;repeat (intro gg;refine goI ?_));obtain⟨m,hm0⟩:∃m:Mb,m=⟨x0,x1,x2,x3,x4⟩:=⟨_,rfl⟩;have hl3:(lms++[m]).length=k+1:=by simp[hl1]
   have hq2:pkR s=(Ea mbR (Nms-(lms++[m]).length) v4).bind (fun r=>kMs fr wo ((lms++[m])++r.1,r.2)):=by
    rw[hl3,show Nms-(k+1)=j by omega,←hF,hq,hm0];simp only[ZA];rcases F j v4 with _|⟨a,b⟩
    ·rfl
    ·simp only[ZA,ZS,List.cons_append,List.nil_append]
   have hsz:v4.size≤1000000000000:=by omega
   refine⟨lI,lI,?_⟩;(refine goI ?_;repeat (intro gg;refine goI ?_));(exact⟨none,trivial,fun gr=>⟨⟨(lms++[m],v4,gg,k+1),⟨hl3,by show k+1≤Nms;omega⟩,hsz,hq2⟩,by show Nms-(k+1)<Nms-k;omega,tI,tI,⟨rfl,⟨congrArg (fun r=>some (Ent.mk gg (.t 47) 5 r)) (by rw[ZI,hm0];rfl),trivial⟩⟩,tI⟩⟩)
  ·have hge:=(by have:=ZW cms;omega);obtain rfl:k=Nms:=by omega
   have hP:pkR s=(Ef 40 svR tms).bind (kSv fr wo lms):=by
    rw[hq,hl1,Nat.sub_self];show(some (([]:List Mb),tms)).bind _=_;rw[ZA,List.append_nil];rfl
   (refine goI ?_;repeat (intro gg;refine goI ?_));refine .inr (.inr (.inr (Gv 3000 Ii rfl ?_)));(refine goI ?_;repeat (intro gg;refine goI ?_));rcases esv:Cd tms with _|⟨n,usv⟩
   ·(refine .inr (.inr (.inl ⟨_,false,0::([]++[]),_,?_,Bd (y':=.nilIface) esv (by omega),hd (by rw[hP];unfold Ef Hv;rw[esv];rfl)⟩));focus (exact wI))
   have zsv:=Bt esv;simp only at zsv;by_cases hn:n<0
   ·(refine .inr (.inl ⟨_,_,false,0::([]++[]),?_,A5 esv (by omega),Ak,oI,dI,?_⟩);focus (exact wI));(refine goI ?_;repeat (intro gg;refine goI ?_));rw[ZX hn];(refine goI ?_;repeat (intro gg;refine goI ?_));exact hd (by rw[hP];unfold Ef Hv;rw[esv,ZA];simp only;rw[if_pos (.inl hn)];rfl)
   obtain⟨Nsv,rfl⟩:=Int.eq_ofNat_of_zero_le (show 0≤n by omega);(refine .inr (.inl ⟨_,_,false,0::([]++[]),?_,A5 esv (by omega),Ak,oI,dI,?_⟩);focus (exact wI));(refine goI ?_;repeat (intro gg;refine goI ?_));by_cases hm:(40:Int)<(Nsv:Int)
   ·rw[ZX hm];(refine goI ?_;repeat (intro gg;refine goI ?_));exact hd (by rw[hP];unfold Ef Hv;rw[esv,ZA];simp only;rw[if_pos (.inr hm)];rfl)
   rw[ZY hm];have hPsv:pkR s=(Ea svR Nsv usv).bind (kSv fr wo lms):=by
    rw[hP];unfold Ef Hv;rw[esv,ZA];simp only;rw[if_neg (by omega),ZA,Int.toNat_natCast]
   (refine goI ?_;repeat (intro gg;refine goI ?_));(refine⟨[(8,900016,52,9)],none,{q:List Sv×ByteArray×Nat×Nat//(q.1.length=q.2.2.2∧q.2.2.2≤Nsv)∧q.2.1.size≤1000000000000∧pkR s=(Ea svR (Nsv-q.1.length) q.2.1).bind (fun r=>kSv fr wo lms (q.1++r.1,r.2))},[0,1,2,20],fun⟨⟨lsv,tsv,gsv,k⟩,hl,ht,hq⟩=>[(8,.own 900016 gsv),(21,.v (.int .i64 (k:Int)))],[16,32,48,900000],fun⟨⟨lsv,tsv,gsv,k⟩,hl,ht,hq⟩=>[(0,⟨0,.b prT,1,[[.v (.string tsv)]]⟩),(900016,⟨gsv,.t 52,9,lsv.map Sv.row⟩)],fun⟨⟨lsv,tsv,gsv,k⟩,hl,ht,hq⟩=>Nsv-k,(by exact⟨rfl,by decide,(fun _ _ _ _ h=>by cases h),trivial⟩),fun gs=>⟨trivial,fun _=>⟨⟨([],usv,gs 900016,0),⟨rfl,ZU _⟩,by show usv.size≤_;omega,by rw[hPsv];simp⟩,tI,tI,tI,tI⟩⟩,fun⟨⟨lsv,tsv,gsv,k⟩,hl,ht,hq⟩=>?_⟩);have hl:lsv.length=k∧k≤Nsv:=hl;obtain⟨hl1,hl2⟩:=hl;have htsv:tsv.size≤1000000000000:=ht;have hq:pkR s=(Ea svR (Nsv-lsv.length) tsv).bind (fun r=>kSv fr wo lms (lsv++r.1,r.2)):=hq;(refine goI ?_;repeat (intro gg;refine goI ?_));(refine Ab (fun csv=>?_) (fun csv=>?_)<;>rw[csv])
   ·have hlt:k<Nsv:=(by have:=ZV csv;omega);obtain⟨j,hj⟩:∃j,Nsv-lsv.length=j+1:=⟨Nsv-lsv.length-1,by omega⟩;rw[hj]at hq;have hq:pkR s=((svR tsv).bind fun p=>(Ea svR j p.2).bind fun q=>some (p.1::q.1,q.2)).bind (fun r=>kSv fr wo lms (lsv++r.1,r.2)):=hq;(refine goI ?_;repeat (intro gg;refine goI ?_));refine .inr (.inr (.inr (R9 4000 Je rfl ?_)));(refine goI ?_;repeat (intro gg;refine goI ?_));refine⟨[0],?_⟩;(refine goI ?_;repeat (intro gg;refine goI ?_));obtain⟨F,hF⟩:∃F,F=Ea svR:=⟨_,rfl⟩;rw[←hF]at hq;unfold svR at hq;rcases f0:Fk tsv with _|⟨x0,v0⟩
    ·(refine .inr (.inr (.inl ⟨_,false,0::([]++[]),_,?_,Fg (y':=.nilIface) f0 (by omega),hd (by rw[hq,f0];rfl)⟩));focus (exact wI))
    have y0:=Es f0;simp only at y0;rw[f0,ZA]at hq;simp only at hq;(refine .inr (.inl ⟨_,_,false,0::([]++[]),?_,D5 f0 (by omega),Ak,oI,dI,?_⟩);focus (exact wI));(refine goI ?_;repeat (intro gg;refine goI ?_));refine⟨(by repeat (first|exact Aq|refine keepT_drops rfl ?_|refine Aw rfl ?_)),?_⟩;(refine goI ?_;repeat (intro gg;refine goI ?_));rcases f1:Fk v0 with _|⟨x1,v1⟩
    ·(refine .inr (.inr (.inl ⟨_,false,0::([]++[]),_,?_,Fg (y':=.nilIface) f1 (by omega),hd (by rw[hq,f1];rfl)⟩));focus (exact wI))
    have y1:=Es f1;simp only at y1;rw[f1,ZA]at hq;simp only at hq;(refine .inr (.inl ⟨_,_,false,0::([]++[]),?_,D5 f1 (by omega),Ak,oI,dI,?_⟩);focus (exact wI));(refine goI ?_;repeat (intro gg;refine goI ?_));refine⟨(by repeat (first|exact Aq|refine keepT_drops rfl ?_|refine Aw rfl ?_)),?_⟩;(refine goI ?_;repeat (intro gg;refine goI ?_));rcases f2:Fk v1 with _|⟨x2,v2⟩
    ·(refine .inr (.inr (.inl ⟨_,false,0::([]++[]),_,?_,Fg (y':=.nilIface) f2 (by omega),hd (by rw[hq,f2];rfl)⟩));focus (exact wI))
    have y2:=Es f2;simp only at y2;rw[f2,ZA]at hq;simp only at hq;(refine .inr (.inl ⟨_,_,false,0::([]++[]),?_,D5 f2 (by omega),Ak,oI,dI,?_⟩);focus (exact wI));(refine goI ?_;repeat (intro gg;refine goI ?_));refine⟨(by repeat (first|exact Aq|refine keepT_drops rfl ?_|refine Aw rfl ?_)),?_⟩;(refine goI ?_;repeat (intro gg;refine goI ?_));rcases f3:Fk v2 with _|⟨x3,v3⟩
    ·(refine .inr (.inr (.inl ⟨_,false,0::([]++[]),_,?_,Fg (y':=.nilIface) f3 (by omega),hd (by rw[hq,f3];rfl)⟩));focus (exact wI))
    have y3:=Es f3;simp only at y3;rw[f3,ZA]at hq;simp only at hq;(refine .inr (.inl ⟨_,_,false,0::([]++[]),?_,D5 f3 (by omega),Ak,oI,dI,?_⟩);focus (exact wI));(refine goI ?_;repeat (intro gg;refine goI ?_));refine⟨(by repeat (first|exact Aq|refine keepT_drops rfl ?_|refine Aw rfl ?_)),?_⟩;(refine goI ?_;repeat (intro gg;refine goI ?_));rcases f4:Cd v3 with _|⟨x4,v4⟩
    ·(refine .inr (.inr (.inl ⟨_,false,0::([]++[]),_,?_,Bd (y':=.nilIface) f4 (by omega),hd (by rw[hq,f4];rfl)⟩));focus (exact wI))
    have y4:=Bt f4;simp only at y4;rw[f4,ZA]at hq;simp only at hq;(refine .inr (.inl ⟨_,_,false,0::([]++[]),?_,A5 f4 (by omega),Ak,oI,dI,?_⟩);focus (exact wI));(refine goI ?_;repeat (intro gg;refine goI ?_));refine⟨(by repeat (first|exact Aq|refine keepT_drops rfl ?_|refine Aw rfl ?_)),?_⟩;(refine goI ?_;repeat (intro gg;refine goI ?_));rcases f5:Cd v4 with _|⟨x5,v5⟩
    ·(refine .inr (.inr (.inl ⟨_,false,0::([]++[]),_,?_,Bd (y':=.nilIface) f5 (by omega),hd (by rw[hq,f5];rfl)⟩));focus (exact wI))
    have y5:=Bt f5;simp only at y5;rw[f5,ZA]at hq;simp only at hq;(refine .inr (.inl ⟨_,_,false,0::([]++[]),?_,A5 f5 (by omega),Ak,oI,dI,?_⟩);focus (exact wI));(refine goI ?_;repeat (intro gg;refine goI ?_));refine⟨(by repeat (first|exact Aq|refine keepT_drops rfl ?_|refine Aw rfl ?_)),?_⟩;(refine goI ?_;repeat (intro gg;refine goI ?_));rcases f6:Kg v5 with _|⟨x6,v6⟩
    ·(refine .inr (.inr (.inl ⟨_,false,0::([]++[]),_,?_,Ky (y':=.nilIface) f6 (by omega),hd (by rw[hq,f6];rfl)⟩));focus (exact wI))
    have y6:=Na f6;simp only at y6;rw[f6,ZA]at hq;simp only at hq;(refine .inr (.inl ⟨_,_,false,0::([]++[]),?_,K2 f6 (by omega),Ak,oI,dI,?_⟩);focus (exact wI));(refine goI ?_;repeat (intro gg;refine goI ?_));refine⟨(by repeat (first|exact Aq|refine keepT_drops rfl ?_|refine Aw rfl ?_)),?_⟩;(refine goI ?_;repeat (intro gg;refine goI ?_));rcases f7:Cd v6 with _|⟨x7,v7⟩
    ·(refine .inr (.inr (.inl ⟨_,false,0::([]++[]),_,?_,Bd (y':=.nilIface) f7 (by omega),hd (by rw[hq,f7];rfl)⟩));focus (exact wI))
    have y7:=Bt f7;simp only at y7;rw[f7,ZA]at hq;simp only at hq;(refine .inr (.inl ⟨_,_,false,0::([]++[]),?_,A5 f7 (by omega),Ak,oI,dI,?_⟩);focus (exact wI));(refine goI ?_;repeat (intro gg;refine goI ?_));refine⟨(by repeat (first|exact Aq|refine keepT_drops rfl ?_|refine Aw rfl ?_)),?_⟩;(refine goI ?_;repeat (intro gg;refine goI ?_));rcases f8:Kg v7 with _|⟨x8,v8⟩
    ·(refine .inr (.inr (.inl ⟨_,false,0::([]++[]),_,?_,Ky (y':=.nilIface) f8 (by omega),hd (by rw[hq,f8];rfl)⟩));focus (exact wI))
    have y8:=Na f8;simp only at y8;rw[f8,ZA]at hq;simp only at hq;(refine .inr (.inl ⟨_,_,false,0::([]++[]),?_,K2 f8 (by omega),Ak,oI,dI,?_⟩);focus (exact wI));(refine goI ?_;repeat (intro gg;refine goI ?_));obtain⟨m,hm0⟩:∃m:Sv,m=⟨x0,x1,x2,x3,x4,x5,x6,x7,x8⟩:=⟨_,rfl⟩;have hl3:(lsv++[m]).length=k+1:=by simp[hl1]
    have hq2:pkR s=(Ea svR (Nsv-(lsv++[m]).length) v8).bind (fun r=>kSv fr wo lms ((lsv++[m])++r.1,r.2)):=by
     rw[hl3,show Nsv-(k+1)=j by omega,←hF,hq,hm0];simp only[ZA];rcases F j v8 with _|⟨a,b⟩
     ·rfl
     ·simp only[ZA,ZS,List.cons_append,List.nil_append]
    have hsz:v8.size≤1000000000000:=by omega
    refine⟨lI,lI,?_⟩;(refine goI ?_;repeat (intro gg;refine goI ?_));(exact⟨none,trivial,fun gr=>⟨⟨(lsv++[m],v8,gg,k+1),⟨hl3,by show k+1≤Nsv;omega⟩,hsz,hq2⟩,by show Nsv-(k+1)<Nsv-k;omega,tI,tI,⟨rfl,⟨congrArg (fun r=>some (Ent.mk gg (.t 52) 9 r)) (by rw[ZI,hm0];rfl),trivial⟩⟩,tI⟩⟩)
   ·have hge:=(by have:=ZW csv;omega);obtain rfl:k=Nsv:=by omega
    have hP:pkR s=(Ef 6 gwR tsv).bind (kGs fr wo lms lsv):=by
     rw[hq,hl1,Nat.sub_self];show(some (([]:List Sv),tsv)).bind _=_;rw[ZA,List.append_nil];rfl
    (refine goI ?_;repeat (intro gg;refine goI ?_));refine .inr (.inr (.inr (Gv 5000 H3 rfl ?_)));(refine goI ?_;repeat (intro gg;refine goI ?_));rcases egs:Cd tsv with _|⟨n,ugs⟩
    ·(refine .inr (.inr (.inl ⟨_,false,0::([]++[]),_,?_,Bd (y':=.nilIface) egs (by omega),hd (by rw[hP];unfold Ef Hv;rw[egs];rfl)⟩));focus (exact wI))
    have zgs:=Bt egs;simp only at zgs;by_cases hn:n<0
    ·(refine .inr (.inl ⟨_,_,false,0::([]++[]),?_,A5 egs (by omega),Ak,oI,dI,?_⟩);focus (exact wI));(refine goI ?_;repeat (intro gg;refine goI ?_));rw[ZX hn];(refine goI ?_;repeat (intro gg;refine goI ?_));exact hd (by rw[hP];unfold Ef Hv;rw[egs,ZA];simp only;rw[if_pos (.inl hn)];rfl)
    obtain⟨Ngs,rfl⟩:=Int.eq_ofNat_of_zero_le (show 0≤n by omega);(refine .inr (.inl ⟨_,_,false,0::([]++[]),?_,A5 egs (by omega),Ak,oI,dI,?_⟩);focus (exact wI));(refine goI ?_;repeat (intro gg;refine goI ?_));by_cases hm:(6:Int)<(Ngs:Int)
    ·rw[ZX hm];(refine goI ?_;repeat (intro gg;refine goI ?_));exact hd (by rw[hP];unfold Ef Hv;rw[egs,ZA];simp only;rw[if_pos (.inr hm)];rfl)
    rw[ZY hm];have hPgs:pkR s=(Ea gwR Ngs ugs).bind (kGs fr wo lms lsv):=by
     rw[hP];unfold Ef Hv;rw[egs,ZA];simp only;rw[if_neg (by omega),ZA,Int.toNat_natCast]
    (refine goI ?_;repeat (intro gg;refine goI ?_));(refine⟨[(8,900032,54,3)],none,{q:List Gw×ByteArray×Nat×Nat//(q.1.length=q.2.2.2∧q.2.2.2≤Ngs)∧q.2.1.size≤1000000000000∧pkR s=(Ea gwR (Ngs-q.1.length) q.2.1).bind (fun r=>kGs fr wo lms lsv (q.1++r.1,r.2))},[0,1,2,20],fun⟨⟨lgs,tgs,ggs,k⟩,hl,ht,hq⟩=>[(8,.own 900032 ggs),(21,.v (.int .i64 (k:Int)))],[16,32,48,900000,900016],fun⟨⟨lgs,tgs,ggs,k⟩,hl,ht,hq⟩=>[(0,⟨0,.b prT,1,[[.v (.string tgs)]]⟩),(900032,⟨ggs,.t 54,3,lgs.map Gw.row⟩)],fun⟨⟨lgs,tgs,ggs,k⟩,hl,ht,hq⟩=>Ngs-k,(by exact⟨rfl,by decide,(fun _ _ _ _ h=>by cases h),trivial⟩),fun gs=>⟨trivial,fun _=>⟨⟨([],ugs,gs 900032,0),⟨rfl,ZU _⟩,by show ugs.size≤_;omega,by rw[hPgs];simp⟩,tI,tI,tI,tI⟩⟩,fun⟨⟨lgs,tgs,ggs,k⟩,hl,ht,hq⟩=>?_⟩);have hl:lgs.length=k∧k≤Ngs:=hl;obtain⟨hl1,hl2⟩:=hl;have htgs:tgs.size≤1000000000000:=ht;have hq:pkR s=(Ea gwR (Ngs-lgs.length) tgs).bind (fun r=>kGs fr wo lms lsv (lgs++r.1,r.2)):=hq;(refine goI ?_;repeat (intro gg;refine goI ?_));(refine Ab (fun cgs=>?_) (fun cgs=>?_)<;>rw[cgs])
    ·have hlt:k<Ngs:=(by have:=ZV cgs;omega);obtain⟨j,hj⟩:∃j,Ngs-lgs.length=j+1:=⟨Ngs-lgs.length-1,by omega⟩;rw[hj]at hq;have hq:pkR s=((gwR tgs).bind fun p=>(Ea gwR j p.2).bind fun q=>some (p.1::q.1,q.2)).bind (fun r=>kGs fr wo lms lsv (lgs++r.1,r.2)):=hq;(refine goI ?_;repeat (intro gg;refine goI ?_));refine .inr (.inr (.inr (R9 6000 Ip rfl ?_)));(refine goI ?_;repeat (intro gg;refine goI ?_));refine⟨[0],?_⟩;(refine goI ?_;repeat (intro gg;refine goI ?_));obtain⟨F,hF⟩:∃F,F=Ea gwR:=⟨_,rfl⟩;rw[←hF]at hq;unfold gwR at hq;rcases f0:Fk tgs with _|⟨x0,v0⟩
     ·(refine .inr (.inr (.inl ⟨_,false,0::([]++[]),_,?_,Fg (y':=.nilIface) f0 (by omega),hd (by rw[hq,f0];rfl)⟩));focus (exact wI))
     have y0:=Es f0;simp only at y0;rw[f0,ZA]at hq;simp only at hq;(refine .inr (.inl ⟨_,_,false,0::([]++[]),?_,D5 f0 (by omega),Ak,oI,dI,?_⟩);focus (exact wI));(refine goI ?_;repeat (intro gg;refine goI ?_));refine⟨(by repeat (first|exact Aq|refine keepT_drops rfl ?_|refine Aw rfl ?_)),?_⟩;(refine goI ?_;repeat (intro gg;refine goI ?_));rcases f1:Cd v0 with _|⟨x1,v1⟩
     ·(refine .inr (.inr (.inl ⟨_,false,0::([]++[]),_,?_,Bd (y':=.nilIface) f1 (by omega),hd (by rw[hq,f1];rfl)⟩));focus (exact wI))
     have y1:=Bt f1;simp only at y1;rw[f1,ZA]at hq;simp only at hq;(refine .inr (.inl ⟨_,_,false,0::([]++[]),?_,A5 f1 (by omega),Ak,oI,dI,?_⟩);focus (exact wI));(refine goI ?_;repeat (intro gg;refine goI ?_));refine⟨(by repeat (first|exact Aq|refine keepT_drops rfl ?_|refine Aw rfl ?_)),?_⟩;(refine goI ?_;repeat (intro gg;refine goI ?_));rcases f2:Cd v1 with _|⟨x2,v2⟩
     ·(refine .inr (.inr (.inl ⟨_,false,0::([]++[]),_,?_,Bd (y':=.nilIface) f2 (by omega),hd (by rw[hq,f2];rfl)⟩));focus (exact wI))
     have y2:=Bt f2;simp only at y2;rw[f2,ZA]at hq;simp only at hq;(refine .inr (.inl ⟨_,_,false,0::([]++[]),?_,A5 f2 (by omega),Ak,oI,dI,?_⟩);focus (exact wI));(refine goI ?_;repeat (intro gg;refine goI ?_));obtain⟨m,hm0⟩:∃m:Gw,m=⟨x0,x1,x2⟩:=⟨_,rfl⟩;have hl3:(lgs++[m]).length=k+1:=by simp[hl1]
     have hq2:pkR s=(Ea gwR (Ngs-(lgs++[m]).length) v2).bind (fun r=>kGs fr wo lms lsv ((lgs++[m])++r.1,r.2)):=by
      rw[hl3,show Ngs-(k+1)=j by omega,←hF,hq,hm0];simp only[ZA];rcases F j v2 with _|⟨a,b⟩
      ·rfl
      ·simp only[ZA,ZS,List.cons_append,List.nil_append]
     have hsz:v2.size≤1000000000000:=by omega
     refine⟨lI,lI,?_⟩;(refine goI ?_;repeat (intro gg;refine goI ?_));(exact⟨none,trivial,fun gr=>⟨⟨(lgs++[m],v2,gg,k+1),⟨hl3,by show k+1≤Ngs;omega⟩,hsz,hq2⟩,by show Ngs-(k+1)<Ngs-k;omega,tI,tI,⟨rfl,⟨congrArg (fun r=>some (Ent.mk gg (.t 54) 3 r)) (by rw[ZI,hm0];rfl),trivial⟩⟩,tI⟩⟩)
    ·have hge:=(by have:=ZW cgs;omega);obtain rfl:k=Ngs:=by omega
     have hP:pkR s=(Ef 20 whR tgs).bind (kWh fr wo lms lsv lgs):=by
      rw[hq,hl1,Nat.sub_self];show(some (([]:List Gw),tgs)).bind _=_;rw[ZA,List.append_nil];rfl
     (refine goI ?_;repeat (intro gg;refine goI ?_));refine .inr (.inr (.inr (Gv 7000 Kd rfl ?_)));(refine goI ?_;repeat (intro gg;refine goI ?_));rcases ewh:Cd tgs with _|⟨n,uwh⟩
     ·(refine .inr (.inr (.inl ⟨_,false,0::([]++[]),_,?_,Bd (y':=.nilIface) ewh (by omega),hd (by rw[hP];unfold Ef Hv;rw[ewh];rfl)⟩));focus (exact wI))
     have zwh:=Bt ewh;simp only at zwh;by_cases hn:n<0
     ·(refine .inr (.inl ⟨_,_,false,0::([]++[]),?_,A5 ewh (by omega),Ak,oI,dI,?_⟩);focus (exact wI));(refine goI ?_;repeat (intro gg;refine goI ?_));rw[ZX hn];(refine goI ?_;repeat (intro gg;refine goI ?_));exact hd (by rw[hP];unfold Ef Hv;rw[ewh,ZA];simp only;rw[if_pos (.inl hn)];rfl)
     obtain⟨Nwh,rfl⟩:=Int.eq_ofNat_of_zero_le (show 0≤n by omega);(refine .inr (.inl ⟨_,_,false,0::([]++[]),?_,A5 ewh (by omega),Ak,oI,dI,?_⟩);focus (exact wI));(refine goI ?_;repeat (intro gg;refine goI ?_));by_cases hm:(20:Int)<(Nwh:Int)
     ·rw[ZX hm];(refine goI ?_;repeat (intro gg;refine goI ?_));exact hd (by rw[hP];unfold Ef Hv;rw[ewh,ZA];simp only;rw[if_pos (.inr hm)];rfl)
     rw[ZY hm];have hPwh:pkR s=(Ea whR Nwh uwh).bind (kWh fr wo lms lsv lgs):=by
      rw[hP];unfold Ef Hv;rw[ewh,ZA];simp only;rw[if_neg (by omega),ZA,Int.toNat_natCast]
     (refine goI ?_;repeat (intro gg;refine goI ?_));(refine⟨[(8,900048,58,6)],none,{q:List Wh×ByteArray×Nat×Nat//(q.1.length=q.2.2.2∧q.2.2.2≤Nwh)∧q.2.1.size≤1000000000000∧pkR s=(Ea whR (Nwh-q.1.length) q.2.1).bind (fun r=>kWh fr wo lms lsv lgs (q.1++r.1,r.2))},[0,1,2,20],fun⟨⟨lwh,twh,gwh,k⟩,hl,ht,hq⟩=>[(8,.own 900048 gwh),(21,.v (.int .i64 (k:Int)))],[16,32,48,900000,900016,900032],fun⟨⟨lwh,twh,gwh,k⟩,hl,ht,hq⟩=>[(0,⟨0,.b prT,1,[[.v (.string twh)]]⟩),(900048,⟨gwh,.t 58,6,lwh.map Wh.row⟩)],fun⟨⟨lwh,twh,gwh,k⟩,hl,ht,hq⟩=>Nwh-k,(by exact⟨rfl,by decide,(fun _ _ _ _ h=>by cases h),trivial⟩),fun gs=>⟨trivial,fun _=>⟨⟨([],uwh,gs 900048,0),⟨rfl,ZU _⟩,by show uwh.size≤_;omega,by rw[hPwh];simp⟩,tI,tI,tI,tI⟩⟩,fun⟨⟨lwh,twh,gwh,k⟩,hl,ht,hq⟩=>?_⟩);have hl:lwh.length=k∧k≤Nwh:=hl;obtain⟨hl1,hl2⟩:=hl;have htwh:twh.size≤1000000000000:=ht;have hq:pkR s=(Ea whR (Nwh-lwh.length) twh).bind (fun r=>kWh fr wo lms lsv lgs (lwh++r.1,r.2)):=hq;(refine goI ?_;repeat (intro gg;refine goI ?_));(refine Ab (fun cwh=>?_) (fun cwh=>?_)<;>rw[cwh])
     ·have hlt:k<Nwh:=(by have:=ZV cwh;omega);obtain⟨j,hj⟩:∃j,Nwh-lwh.length=j+1:=⟨Nwh-lwh.length-1,by omega⟩;rw[hj]at hq;have hq:pkR s=((whR twh).bind fun p=>(Ea whR j p.2).bind fun q=>some (p.1::q.1,q.2)).bind (fun r=>kWh fr wo lms lsv lgs (lwh++r.1,r.2)):=hq;(refine goI ?_;repeat (intro gg;refine goI ?_));refine .inr (.inr (.inr (R9 8000 Jc rfl ?_)));(refine goI ?_;repeat (intro gg;refine goI ?_));refine⟨[0],?_⟩;(refine goI ?_;repeat (intro gg;refine goI ?_));obtain⟨F,hF⟩:∃F,F=Ea whR:=⟨_,rfl⟩;rw[←hF]at hq;unfold whR at hq;rcases f0:Fk twh with _|⟨x0,v0⟩
      ·(refine .inr (.inr (.inl ⟨_,false,0::([]++[]),_,?_,Fg (y':=.nilIface) f0 (by omega),hd (by rw[hq,f0];rfl)⟩));focus (exact wI))
      have y0:=Es f0;simp only at y0;rw[f0,ZA]at hq;simp only at hq;(refine .inr (.inl ⟨_,_,false,0::([]++[]),?_,D5 f0 (by omega),Ak,oI,dI,?_⟩);focus (exact wI));(refine goI ?_;repeat (intro gg;refine goI ?_));refine⟨(by repeat (first|exact Aq|refine keepT_drops rfl ?_|refine Aw rfl ?_)),?_⟩;(refine goI ?_;repeat (intro gg;refine goI ?_));rcases f1:Cd v0 with _|⟨x1,v1⟩
      ·(refine .inr (.inr (.inl ⟨_,false,0::([]++[]),_,?_,Bd (y':=.nilIface) f1 (by omega),hd (by rw[hq,f1];rfl)⟩));focus (exact wI))
      have y1:=Bt f1;simp only at y1;rw[f1,ZA]at hq;simp only at hq;(refine .inr (.inl ⟨_,_,false,0::([]++[]),?_,A5 f1 (by omega),Ak,oI,dI,?_⟩);focus (exact wI));(refine goI ?_;repeat (intro gg;refine goI ?_));refine⟨(by repeat (first|exact Aq|refine keepT_drops rfl ?_|refine Aw rfl ?_)),?_⟩;(refine goI ?_;repeat (intro gg;refine goI ?_));rcases f2:Cd v1 with _|⟨x2,v2⟩
      ·(refine .inr (.inr (.inl ⟨_,false,0::([]++[]),_,?_,Bd (y':=.nilIface) f2 (by omega),hd (by rw[hq,f2];rfl)⟩));focus (exact wI))
      have y2:=Bt f2;simp only at y2;rw[f2,ZA]at hq;simp only at hq;(refine .inr (.inl ⟨_,_,false,0::([]++[]),?_,A5 f2 (by omega),Ak,oI,dI,?_⟩);focus (exact wI));(refine goI ?_;repeat (intro gg;refine goI ?_));refine⟨(by repeat (first|exact Aq|refine keepT_drops rfl ?_|refine Aw rfl ?_)),?_⟩;(refine goI ?_;repeat (intro gg;refine goI ?_));rcases f3:Cd v2 with _|⟨x3,v3⟩
      ·(refine .inr (.inr (.inl ⟨_,false,0::([]++[]),_,?_,Bd (y':=.nilIface) f3 (by omega),hd (by rw[hq,f3];rfl)⟩));focus (exact wI))
      have y3:=Bt f3;simp only at y3;rw[f3,ZA]at hq;simp only at hq;(refine .inr (.inl ⟨_,_,false,0::([]++[]),?_,A5 f3 (by omega),Ak,oI,dI,?_⟩);focus (exact wI));(refine goI ?_;repeat (intro gg;refine goI ?_));refine⟨(by repeat (first|exact Aq|refine keepT_drops rfl ?_|refine Aw rfl ?_)),?_⟩;(refine goI ?_;repeat (intro gg;refine goI ?_));rcases f4:Cd v3 with _|⟨x4,v4⟩
      ·(refine .inr (.inr (.inl ⟨_,false,0::([]++[]),_,?_,Bd (y':=.nilIface) f4 (by omega),hd (by rw[hq,f4];rfl)⟩));focus (exact wI))
      have y4:=Bt f4;simp only at y4;rw[f4,ZA]at hq;simp only at hq;(refine .inr (.inl ⟨_,_,false,0::([]++[]),?_,A5 f4 (by omega),Ak,oI,dI,?_⟩);focus (exact wI));(refine goI ?_;repeat (intro gg;refine goI ?_));refine⟨(by repeat (first|exact Aq|refine keepT_drops rfl ?_|refine Aw rfl ?_)),?_⟩;(refine goI ?_;repeat (intro gg;refine goI ?_));rcases f5:Cd v4 with _|⟨x5,v5⟩
      ·(refine .inr (.inr (.inl ⟨_,false,0::([]++[]),_,?_,Bd (y':=.nilIface) f5 (by omega),hd (by rw[hq,f5];rfl)⟩));focus (exact wI))
      have y5:=Bt f5;simp only at y5;rw[f5,ZA]at hq;simp only at hq;(refine .inr (.inl ⟨_,_,false,0::([]++[]),?_,A5 f5 (by omega),Ak,oI,dI,?_⟩);focus (exact wI));(refine goI ?_;repeat (intro gg;refine goI ?_));obtain⟨m,hm0⟩:∃m:Wh,m=⟨x0,⟨x1,x2,x3,x4,x5⟩⟩:=⟨_,rfl⟩;have hl3:(lwh++[m]).length=k+1:=by simp[hl1]
      have hq2:pkR s=(Ea whR (Nwh-(lwh++[m]).length) v5).bind (fun r=>kWh fr wo lms lsv lgs ((lwh++[m])++r.1,r.2)):=by
       rw[hl3,show Nwh-(k+1)=j by omega,←hF,hq,hm0];simp only[ZA];rcases F j v5 with _|⟨a,b⟩
       ·rfl
       ·simp only[ZA,ZS,List.cons_append,List.nil_append]
      have hsz:v5.size≤1000000000000:=by omega
      refine⟨lI,lI,?_⟩;(refine goI ?_;repeat (intro gg;refine goI ?_));(exact⟨none,trivial,fun gr=>⟨⟨(lwh++[m],v5,gg,k+1),⟨hl3,by show k+1≤Nwh;omega⟩,hsz,hq2⟩,by show Nwh-(k+1)<Nwh-k;omega,tI,tI,⟨rfl,⟨congrArg (fun r=>some (Ent.mk gg (.t 58) 6 r)) (by rw[ZI,hm0];rfl),trivial⟩⟩,tI⟩⟩)
     ·have hge:=(by have:=ZW cwh;omega);obtain rfl:k=Nwh:=by omega
      have hP:pkR s=some (⟨fr,wo,lms,lsv,lgs,lwh⟩,twh):=by
       rw[hq,hl1,Nat.sub_self];show(some (([]:List Wh),twh)).bind _=_;rw[ZA,List.append_nil];rfl
      (refine goI ?_;repeat (intro gg;refine goI ?_));refine hk ⟨fr,wo,lms,lsv,lgs,lwh⟩ twh _ _ hP ?_;(exact⟨_,0::([]++[]),.cell1 rfl rfl rfl rfl rfl rfl .nil,Abg cBI (D7 (gone:=[]) (gone1:=[]) rfl aI (by decide) (by decide) (by decide) (.nil _))⟩)
theorem X9[Glob]:Dj Alk=Dj Df:=by rfl
theorem Aaa[Glob][Tabs]{s r:ByteArray}{p:Pk}(h:pkR s=some (p,r))(hs:s.size≤1000000000000):E8 Tryz.prog 32 [.mn prT [.c (.v (.string s))] [.c (.v (.string r))]] [.p (.c (.agg p.row))]:=
 Ys Ew X9 rfl (N3 rfl) (Q4 (y':=.string r) hs noD (Wi [(2,some (true,6))] [.mn prT [.c (.v (.string s))] [.c (.v (.string r))]] [.p (.c (.agg p.row))]) (fun q=>by rw[h]at q;cases q) (fun p' r' env H e k=>by
  rw[h]at e;cases e;exact k))
theorem Aad[Glob][Tabs]{s:ByteArray}{y':Value}(h:pkR s=none)(hs:s.size≤1000000000000):Gu Tryz.prog 32 [.mn prT [.c (.v (.string s))] [.c (.v y')]] Do:=
 Zj Ew X9 rfl (N3 rfl) (Q4 (y':=y') hs (fun x=>x=Do) Ai9 (fun _=>rfl) (fun p' r' env H e=>by
  rw[h]at e;cases e))
theorem Fr.set_{F:Nat→Prop}{w w':World}(h:Fr F w w'){b:Nat}(hb:F b)(i:Nat)(v:Value):Fr F w (w'.setCell ⟨b,i,none⟩ v):=by
 have hs:=h.size;refine⟨h.os,h.tape,h.output,by simp[World.setCell];omega,fun k hk hF=>?_⟩;rw[←h.block k hk hF];have:k≠b:=fun e=>hF (e▸hb);exact Below.heap_setCell w' ⟨b,i,none⟩ v k this
theorem Fr.alloc_{F:Nat→Prop}{w w':World}(h:Fr F w w')(o:Obj):Fr F w (w'.alloc o):=by
 have hs:=h.size;refine⟨h.os,h.tape,h.output,by rw[show(w'.alloc o).heap.size=w'.heap.size+1 from by simp[World.alloc,-World.alloc_eq]];omega,fun k hk hF=>?_⟩;rw[←h.block k hk hF];exact Below.heap_alloc w' o k (by omega)
theorem Y1(T:TypeId)(w:World):(Instr.typeAssert Do T 61 true).run Tryz.prog w=.ok (.tuple #[.agg #[],.bool true]) w:=by
 have hu:=Tryz.underlying61;simp[Instr.typeAssert,Do,run_underlying hu]
theorem Z4(T:TypeId)(w:World):(Instr.typeAssert .nilIface T 61 true).run Tryz.prog w=.ok (.tuple #[.agg #[],.bool false]) w:=by
 have hu:=Tryz.underlying61;have h:(Tryz.prog.info? 61).map (·.zero)=some (some (.agg #[])):=by kernel_rfl
 obtain⟨i,hi,hz⟩:=Option.map_eq_some_iff.1 h;simp[Instr.typeAssert,run_underlying hu,zeroValue,typeInfo,hi,hz]
def Fx:Array Value:= #[.string ⟨#[]⟩,.bool false,.slice none 0 0,.slice none 0 0,.slice none 0 0,.slice none 0 0]
structure Abh(w:World)(p q:Nat)(w':World):Prop where
 m:Blk w' p 27 Fx
 e:Blk w' q 28 #[.int .i64 1]
 fr:Fr (fun k=>k=p∨k=q) w w'
set_option maxRecDepth 100000 in
set_option maxHeartbeats 2000000 in
theorem Xn(p q:Nat)(c0 c1 c2 c3 c4 c5 x:Value)(w:World)(hp:Blk w p 27 #[c0,c1,c2,c3,c4,c5])(hq:Blk w q 28 #[x])(hpq:p≠q):
  CallsD Tryz.prog 31 #[.pointer (some ⟨p,0,none⟩),.pointer (some ⟨q,0,none⟩)] (.panicking [{v:=Do,recovered:=false}]) w fun e u' w'=>e=.returned (.tuple #[])∧u'=.panicking [{v:=Do,recovered:=true}]∧Abh w p q w':=by
 have hlp:=hp.lt;have hlq:=hq.lt;refine callsD_of_wpS Tryz.func31 rfl fun c₀ cs hu=>?_;apply wpS_seq;apply wpS_region;have hrec:recoverD (c₀::cs)=some (Do,{c₀ with mode:=.panicking ({v:=Do,recovered:=true} ::[])} ::cs):=by simp[recoverD,hu]
 simp[wpOpsS,go_sem,hrec,Tryz.ntmps31,Exit.thenS,Y1];have e0:w.cell? ⟨p,0,none⟩=some c0:=hp.cell 0;have e1:w.cell? ⟨p,1,none⟩=some c1:=hp.cell 1;have e2:w.cell? ⟨p,2,none⟩=some c2:=hp.cell 2;have e3:w.cell? ⟨p,3,none⟩=some c3:=hp.cell 3;have e4:w.cell? ⟨p,4,none⟩=some c4:=hp.cell 4;have e5:w.cell? ⟨p,5,none⟩=some c5:=hp.cell 5;have f0:=fun i=>hp.frozen i;have g0:w.cell? ⟨q,0,none⟩=some x:=hq.cell 0;have h0:=hq.frozen 0;refine wpS_of_wp ?_
 go_wp2
 have key:Abh w p q ((((((((w.setCell ⟨p,0,none⟩ (.string ⟨#[]⟩)).setCell ⟨p,1,none⟩ (.bool false)).setCell ⟨p,2,none⟩ (.slice none 0 0)).setCell ⟨p,3,none⟩ (.slice none 0 0)).setCell ⟨p,4,none⟩ (.slice none 0 0)).setCell ⟨p,5,none⟩ (.slice none 0 0)).setCell ⟨q,0,none⟩ (.int .i64 1)).alloc (Obj.cells #[] 61)):=by
  refine⟨?_,?_,?_⟩
  ·exact((((((((hp.set_ 0 _).set_ 1 _).set_ 2 _).set_ 3 _).set_ 4 _).set_ 5 _).far hpq _).alloc _)
  ·exact((((((((hq.far (Ne.symm hpq) _).far (Ne.symm hpq) _).far (Ne.symm hpq) _).far (Ne.symm hpq) _).far (Ne.symm hpq) _).far (Ne.symm hpq) _).set_ 0 _).alloc _)
  ·exact(((((((((Fr.refl _ w).set_ (.inl rfl) 0 _).set_ (.inl rfl) 1 _).set_ (.inl rfl) 2 _).set_ (.inl rfl) 3 _).set_ (.inl rfl) 4 _).set_ (.inl rfl) 5 _).set_ (.inr rfl) 0 _).alloc_ _)
 simp[bodyPostS,results,Tryz.results31];exact key
set_option maxRecDepth 100000 in
set_option maxHeartbeats 2000000 in
theorem M1(p q:Nat)(w:World):
  CallsD Tryz.prog 31 #[.pointer (some ⟨p,0,none⟩),.pointer (some ⟨q,0,none⟩)] .returning w fun e u' w'=>e=.returned (.tuple #[])∧u'=.returning∧w'=w.alloc (.cells #[] 61):=by
 refine callsD_of_wpS Tryz.func31 rfl fun c₀ cs hu=>?_;apply wpS_seq;apply wpS_region;have hrec:recoverD (c₀::cs)=none:=by simp[recoverD,hu]
 simp[wpOpsS,go_sem,hrec,Tryz.ntmps31,Exit.thenS,Z4];refine wpS_of_wp ?_
 go_wp2
 simp[bodyPostS,results,Tryz.results31,hu];cases c₀;simp_all
theorem Fr.outP{L:Nat→Prop}{a b c:World}(h:Fr (fun _=>False) a b)(k:Fr L b c)(hl:∀i,L i→a.heap.size≤i):Fr (fun _=>False) a c:=
 ⟨k.os.trans h.os,k.tape.trans h.tape,k.output.trans h.output,XI h.size k.size,fun i hi _=>(k.block i (XH hi h.size) (fun hL=>by have:=hl i hL;omega)).trans (h.block i hi id)⟩
theorem Fr.blkP{L:Nat→Prop}{a b:World}{g:Nat}{t:TypeId}{cs:Array Value}(h:Fr L a b)(hb:Blk a g t cs)(hl:¬L g):Blk b g t cs:=(h.block g hb.lt hl).trans hb
def pkV(p:Pk)(y2 y3 y4 y5:Value):Value:=.agg #[.string p.fr,.bool p.wo,y2,y3,y4,y5]
theorem Aho{w:World}{R:Nat→Prop}{p:Pk}{y2 y3 y4 y5:Value}(h2:RV w R noG (.sl false (p.ms.map Mb.row)) y2)(h3:RV w R noG (.sl false (p.sv.map Sv.row)) y3)(h4:RV w R noG (.sl false (p.gs.map Gw.row)) y4)(h5:RV w R noG (.sl false (p.wh.map Wh.row)) y5):RV w R noG (.agg p.row) (pkV p y2 y3 y4 y5):=by
 refine .agg p.row [.string p.fr,.bool p.wo,y2,y3,y4,y5] rfl fun i u x hu hx=>?_;unfold Pk.row at hu;rcases i with _|_|_|_|_|_|i
 all_goals first
  |(cases hu;cases hx;exact .v _)
  |(cases hu;cases hx;exact h2)
  |(cases hu;cases hx;exact h3)
  |(cases hu;cases hx;exact h4)
  |(cases hu;cases hx;exact h5)
  |(simp at hu)
theorem Akf{w:World}{R:Nat→Prop}{p:Pk}{x:Value}(h:RV w R noG (.agg p.row) x):∃y2 y3 y4 y5,x=pkV p y2 y3 y4 y5∧RV w R noG (.sl false (p.ms.map Mb.row)) y2∧RV w R noG (.sl false (p.sv.map Sv.row)) y3∧RV w R noG (.sl false (p.gs.map Gw.row)) y4∧RV w R noG (.sl false (p.wh.map Wh.row)) y5:=by
 cases h with
 |agg cs xs hl h=>
  obtain⟨x0,x1,x2,x3,x4,x5,rfl⟩:∃x0 x1 x2 x3 x4 x5,xs=[x0,x1,x2,x3,x4,x5]:=by
   rcases xs with _|⟨x0,_|⟨x1,_|⟨x2,_|⟨x3,_|⟨x4,_|⟨x5,_|⟨x6,xs⟩⟩⟩⟩⟩⟩⟩<;>simp[Pk.row]at hl;exact⟨_,_,_,_,_,_,rfl⟩
  have h0:=B9 (h 0 _ _ rfl rfl);have h1:=B9 (h 1 _ _ rfl rfl);subst h0 h1;exact⟨x2,x3,x4,x5,rfl,h 2 _ _ rfl rfl,h 3 _ _ rfl rfl,h 4 _ _ rfl rfl,h 5 _ _ rfl rfl⟩
theorem Qr(w:World)(R:Nat→Prop):RV w R noG (.agg pk0.row) (.agg Fx):=Aho (p:=pk0) (y2:=.slice none 0 0) (y3:=.slice none 0 0) (y4:=.slice none 0 0) (y5:=.slice none 0 0) (.nil false none 0 (by simp)) (.nil false none 0 (by simp)) (.nil false none 0 (by simp)) (.nil false none 0 (by simp))
theorem M7{w:World}{R:Nat→Prop}{G:Nat→Option Loc}{cl:Bool}{rows:List (List V)}{x:Value}(h:RV w R G (.sl cl rows) x):∃a k c,x=.slice a k c:=by
 generalize e:V.sl cl rows=u at h;cases h with
 |nil=>exact⟨_,_,_,rfl⟩
 |sl=>exact⟨_,_,_,rfl⟩
 |_=>cases e
theorem Uj{u:V}{x:Value}{b:Nat}(h:A7 [.c u] [x] b):False:=Fa (fun p hp=>by simp at hp;exact⟨_,hp⟩) h
def Wm(R:Nat→Prop)(w:World)(m:Pk)(er:Int)(e:Ending)(w':World):Prop:=
 ∃(x:Value) (R':Nat→Prop),e=.returned (.tuple #[x,.int .i64 er])∧Fr (fun _=>False) w w'∧(∀b,R b→R' b)∧(∀b,R' b→R b∨(b<w'.heap.size∧w.heap.size≤b))∧RV w' R' noG (.agg m.row) x
theorem Xo{s:ByteArray}{y':Value}{W:World}{R:Nat→Prop}{n:Nat}(hb:Blk W n prT #[.string s])(hn:¬R n):Ca W R [.mn prT [.c (.v (.string s))] [.c (.v y')]] [.pointer (some ⟨n,0,none⟩)] (fun k=>k=n):=by
 have hnb:∀k,¬A7 [.c (.v (.string s))] [.string s] k:=fun k h=>Uj h;refine⟨fun k=>k=n,fun _=>False,⟨n,[.string s],rfl,by simp,⟨rfl,.inr ⟨n,1,_,rfl,ZU _,hb,by simp,by decide,rfl,rfl⟩⟩,Aa1 (.v _),by simp[Value.oneCell'],hnb n,fun k=>⟨.inl,fun h=>h.elim id (fun h=>absurd h (hnb k))⟩⟩,fun _ h=>h,fun b h=>⟨id,by rw[h];exact hn⟩,fun b=>⟨.inl,fun h=>h.elim id False.elim⟩⟩
theorem Aes{r:ByteArray}(h:r.toList=[]):r.size=0:=by
 rw[ByteArray.toList_eq]at h;have e:r.data.toList.length=0:=by rw[h];rfl
 exact e
theorem Ago{W:World}{R:Nat→Prop}{n:Nat}{r:ByteArray}{F:Nat→Prop}(h:Ca W R [.pn prT [.c (.v (.string r))]] [.pointer (some ⟨n,0,none⟩)] F):Blk W n prT #[.string r]:=by
 obtain⟨F1,F2,⟨b',vs,q,hpos,hown,hpars,_⟩,_⟩:=h;injection q with q
 injection q with q;injection q with q
 subst q;have hl:vs.length=1:=by simpa using hpars.len.symm
 obtain⟨y0,rfl⟩:∃y0,vs=[y0]:=List.length_eq_one_iff.1 hl;obtain rfl:y0=.string r:=B9 (hpars.ok 0 _ _ rfl rfl);rcases hown.2 with⟨q,_⟩|⟨g,cap,cur,q,_,hg,hnc,hcm,hcs,htake⟩
 ·cases q
 ·injection q with q1 q2 q3;injection q1 with q1
  injection q1 with q1;subst q1 q3;have hl:cur.toList.length=1:=by simpa using hcs
  have hx:cur.toList=[.string r]:=by rw[←htake,List.take_of_length_le (by rw[hl];exact ZT _)]
  have hc:cur= #[.string r]:=by apply Array.ext';rw[hx]
  rw[hc]at hg;exact hg
set_option maxRecDepth 100000 in
set_option maxHeartbeats 2000000 in
theorem Ad8[Glob](s:ByteArray)(y':Value)(w:World)(R:Nat→Prop)(hlt:∀b,R b→b<w.heap.size)(hg:Bz w (fun _=>False))(hd:Gu Tryz.prog 32 [.mn prT [.c (.v (.string s))] [.c (.v y')]] Do):Calls Tryz.prog 12 #[.string s] w (Wm R w pk0 1):=by
 have hmf:∀(fn:Fn) (first cap:Array Value) (w:World),(Instr.makeFunc fn first cap).run Tryz.prog w=.ok (.func fn first cap) w:=fun _ _ _ _=>rfl
 go_enter_defers Tryz.func12,Tryz.ntmps12
 go_wp2_with fail
 have B0:=Blk.new w 27 Fx;have B1:=Blk.new_ (w.alloc (.cells Fx 27)) 28 #[.int .i64 0] (g:=w.heap.size+1) (by simp[World.alloc,-World.alloc_eq]);have B0':=B0.alloc (.cells #[.int .i64 0] 28);have B2:=Blk.new_ ((w.alloc (.cells Fx 27)).alloc (.cells #[.int .i64 0] 28)) prT #[.string s] (g:=w.heap.size+1+1) (by simp[World.alloc,-World.alloc_eq]);have B0'':=B0'.alloc (.cells #[.string s] prT);have B1'':=B1.alloc (.cells #[.string s] prT);have F0:Fr (fun _=>False) w _:=(((Fr.refl _ w).alloc_ (.cells Fx 27)).alloc_ (.cells #[.int .i64 0] 28)).alloc_ (.cells #[.string s] prT);refine(hd.2 _ (fun _=>False) [_] _ (fun _ h=>h.elim) (Xo B2 id) (hg.at_ F0 (fun b hb=>by have hb:b=w.heap.size+1+1:=hb;omega))).mono ?_
 rintro e w1 ⟨rfl,hf⟩
 have C0:=hf.blkP B0'' (by omega);have C1:=hf.blkP B1'' (by omega);refine leaves_cons (f:=31) (args:= #[.pointer (some ⟨w.heap.size,0,none⟩),.pointer (some ⟨w.heap.size+1,0,none⟩)]) (by simp) (by simp[go_sem]) ?_;refine(Xn w.heap.size (w.heap.size+1) _ _ _ _ _ _ _ w1 C0 C1 (by omega)).mono ?_
 rintro e u' w2 ⟨rfl,rfl,hC⟩
 obtain⟨D0,D1,hf2⟩:=hC;have e0:w2.cell? ⟨w.heap.size,0,none⟩=some (.string ⟨#[]⟩):=D0.cell 0;have e1:w2.cell? ⟨w.heap.size,1,none⟩=some (.bool false):=D0.cell 1;have e2:w2.cell? ⟨w.heap.size,2,none⟩=some (.slice none 0 0):=D0.cell 2;have e3:w2.cell? ⟨w.heap.size,3,none⟩=some (.slice none 0 0):=D0.cell 3;have e4:w2.cell? ⟨w.heap.size,4,none⟩=some (.slice none 0 0):=D0.cell 4;have e5:w2.cell? ⟨w.heap.size,5,none⟩=some (.slice none 0 0):=D0.cell 5;have g0:w2.cell? ⟨w.heap.size+1,0,none⟩=some (.int .i64 1):=D1.cell 0;simp[Leaves,settle,results,Tryz.results12,go_sem,e0,e1,e2,e3,e4,e5,g0];refine⟨.agg Fx,R,rfl,?_,fun b h=>h,fun b h=>.inl h,Qr _ _⟩;exact(F0.outP hf (fun i hi=>by omega)).outP hf2 (fun i hi=>by omega)
set_option maxRecDepth 100000 in
set_option maxHeartbeats 4000000 in
theorem Adz[Glob](s r:ByteArray)(p:Pk)(w:World)(R:Nat→Prop)(hlt:∀b,R b→b<w.heap.size)(hg:Bz w (fun _=>False))(hm:E8 Tryz.prog 32 [.mn prT [.c (.v (.string s))] [.c (.v (.string r))]] [.p (.c (.agg p.row))])(hc:Fun Tryz.prog 10 [.c (.agg p.row)] [.c (.v (.int .i64 p.err))])(v:Pk)(er:Int)(hv:r.size=0→p.err=0→v=p∧er=0)(hz:r.size≠0∨p.err≠0→v=pk0∧er=1):Calls Tryz.prog 12 #[.string s] w (Wm R w v er):=by
 have hv:=hid hv;have hz:=hid hz;have hmf:∀(fn:Fn) (first cap:Array Value) (w:World),(Instr.makeFunc fn first cap).run Tryz.prog w=.ok (.func fn first cap) w:=fun _ _ _ _=>rfl
 go_enter_defers Tryz.func12,Tryz.ntmps12
 go_wp2_with fail
 have B0:=Blk.new w 27 Fx;have B1:=Blk.new_ (w.alloc (.cells Fx 27)) 28 #[.int .i64 0] (g:=w.heap.size+1) (by simp[World.alloc,-World.alloc_eq]);have B0':=B0.alloc (.cells #[.int .i64 0] 28);have B2:=Blk.new_ ((w.alloc (.cells Fx 27)).alloc (.cells #[.int .i64 0] 28)) prT #[.string s] (g:=w.heap.size+1+1) (by simp[World.alloc,-World.alloc_eq]);have B0'':=B0'.alloc (.cells #[.string s] prT);have B1'':=B1.alloc (.cells #[.string s] prT);have F0:Fr (fun _=>False) w _:=(((Fr.refl _ w).alloc_ (.cells Fx 27)).alloc_ (.cells #[.int .i64 0] 28)).alloc_ (.cells #[.string s] prT);refine(hm.2 _ R [_] _ (fun b hb=>XH (hlt b hb) F0.size) (Xo B2 fun hR=>by have:=hlt _ hR;omega) (hg.at_ F0 (fun b hb=>by have hb:b=w.heap.size+1+1:=hb;omega))).mono ?_
 rintro e w1 ⟨ys,R1,F1,rfl,hl,hf,hR1,hR2,hp,hF⟩
 have hgl1:Bz w1 (fun b=>b=w.heap.size∨b=w.heap.size+1∨b=w.heap.size+1+1):=(hg.at_ (L':=fun b=>b=w.heap.size∨b=w.heap.size+1∨b=w.heap.size+1+1) F0 (fun b hb=>.inr (by omega))).at_ (C6 hf fun k hk=>.inr (.inr hk)) (fun b hb=>.inl hb);have C0:=hf.blkP B0'' (by omega);have C1:=hf.blkP B1'' (by omega);obtain⟨x,rfl⟩:∃x,ys=[x]:=by
  rcases ys with _|⟨x,_|⟨x',ys⟩⟩<;>simp at hl;exact⟨x,rfl⟩
 obtain⟨⟨y2,y3,y4,y5,rfl,q2,q3,q4,q5⟩,hrd⟩:(∃y2 y3 y4 y5,x=pkV p y2 y3 y4 y5∧RV w1 R1 noG (.sl false (p.ms.map Mb.row)) y2∧RV w1 R1 noG (.sl false (p.sv.map Sv.row)) y3∧RV w1 R1 noG (.sl false (p.gs.map Gw.row)) y4∧RV w1 R1 noG (.sl false (p.wh.map Wh.row)) y5)∧Blk w1 (w.heap.size+1+1) prT #[.string r]:=by
  obtain⟨G1,G2,h1,h2,_⟩:=hp;exact⟨Akf h1.1,Ago h2⟩
 obtain⟨a2,k2,c2,rfl⟩:=M7 q2;obtain⟨a3,k3,c3,rfl⟩:=M7 q3;obtain⟨a4,k4,c4,rfl⟩:=M7 q4;obtain⟨a5,k5,c5,rfl⟩:=M7 q5;have hrv:=hid (Aho (p:=p) q2 q3 q4 q5);have hR1:=hid hR1;have hR2:=hid hR2;have HF:=hid hf;have hgl:Bz w1 (fun b=>b=w.heap.size∨b=w.heap.size+1∨b=w.heap.size+1+1):=hgl1;clear q2 q3 q4 q5 hf hp hF;have e0:w1.cell? ⟨w.heap.size,0,none⟩=some (.string ⟨#[]⟩):=C0.cell 0;have e1:w1.cell? ⟨w.heap.size,1,none⟩=some (.bool false):=C0.cell 1;have e2:w1.cell? ⟨w.heap.size,2,none⟩=some (.slice none 0 0):=C0.cell 2;have e3:w1.cell? ⟨w.heap.size,3,none⟩=some (.slice none 0 0):=C0.cell 3;have e4:w1.cell? ⟨w.heap.size,4,none⟩=some (.slice none 0 0):=C0.cell 4;have e5:w1.cell? ⟨w.heap.size,5,none⟩=some (.slice none 0 0):=C0.cell 5;have f0:=fun i=>C0.frozen i;have g0:w1.cell? ⟨w.heap.size+1,0,none⟩=some (.int .i64 0):=C1.cell 0;have h0:=C1.frozen 0;have r0:w1.cell? ⟨w.heap.size+1+1,0,none⟩=some (.string r):=hrd.cell 0;have hn1:∀b,R1 b→b≠w.heap.size∧b≠w.heap.size+1:=fun b hb=>by
  rcases hR2.out b hb with g|⟨g1,g2⟩
  ·have:=hlt b g;omega
  ·rcases g2 with g2|g2
   ·omega
   ·have:=F0.size;simp[World.alloc,-World.alloc_eq]at g2;omega
 have hlt1:∀b,R1 b→b<w1.heap.size:=fun b hb=>by
  rcases hR2.out b hb with g|⟨g1,g2⟩
  ·have:=hlt b g;have:=F0.size;have:=HF.out.size;omega
  ·exact g1
 simp only[Db,pkV];by_cases hr:r.size=0
 ·obtain rfl:r=⟨#[]⟩:=ByteArray.ext (Array.eq_empty_of_size_eq_zero hr)
  go_wp2_with fail
  have D0:Blk ((((((w1.setCell ⟨w.heap.size,0,none⟩ (.string p.fr)).setCell ⟨w.heap.size,1,none⟩ (.bool p.wo)).setCell ⟨w.heap.size,2,none⟩ (.slice a2 k2 c2)).setCell ⟨w.heap.size,3,none⟩ (.slice a3 k3 c3)).setCell ⟨w.heap.size,4,none⟩ (.slice a4 k4 c4)).setCell ⟨w.heap.size,5,none⟩ (.slice a5 k5 c5)) w.heap.size 27 #[.string p.fr,.bool p.wo,.slice a2 k2 c2,.slice a3 k3 c3,.slice a4 k4 c4,.slice a5 k5 c5]:=((((((C0.set_ 0 (.string p.fr)).set_ 1 (.bool p.wo)).set_ 2 (.slice a2 k2 c2)).set_ 3 (.slice a3 k3 c3)).set_ 4 (.slice a4 k4 c4)).set_ 5 (.slice a5 k5 c5));have D1:=((((((C1.far (p:=⟨w.heap.size,0,none⟩) (by simp) (.string p.fr)).far (p:=⟨w.heap.size,1,none⟩) (by simp) (.bool p.wo)).far (p:=⟨w.heap.size,2,none⟩) (by simp) (.slice a2 k2 c2)).far (p:=⟨w.heap.size,3,none⟩) (by simp) (.slice a3 k3 c3)).far (p:=⟨w.heap.size,4,none⟩) (by simp) (.slice a4 k4 c4)).far (p:=⟨w.heap.size,5,none⟩) (by simp) (.slice a5 k5 c5));have F2:Fr (fun k=>k=w.heap.size) w1 _:=(((((((Fr.refl (fun k=>k=w.heap.size) w1).set_ rfl 0 (.string p.fr)).set_ rfl 1 (.bool p.wo)).set_ rfl 2 (.slice a2 k2 c2)).set_ rfl 3 (.slice a3 k3 c3)).set_ rfl 4 (.slice a4 k4 c4)).set_ rfl 5 (.slice a5 k5 c5));generalize hw2:((((((w1.setCell ⟨w.heap.size,0,none⟩ (.string p.fr)).setCell ⟨w.heap.size,1,none⟩ (.bool p.wo)).setCell ⟨w.heap.size,2,none⟩ (.slice a2 k2 c2)).setCell ⟨w.heap.size,3,none⟩ (.slice a3 k3 c3)).setCell ⟨w.heap.size,4,none⟩ (.slice a4 k4 c4)).setCell ⟨w.heap.size,5,none⟩ (.slice a5 k5 c5))=w2 at D0 D1 F2 ⊢;clear e0 e1 e2 e3 e4 e5 f0 g0 h0 r0 hw2;have hy2:=hrv.out.mono (fun b hb=>⟨hb,F2.block b (hlt1 b hb) (hn1 b hb).1⟩) (Gle.refl _);have hg2:Bz w2 (fun _=>False):=hgl.at_ (C6 F2 fun k hk=>.inl hk) (fun b hb=>hb.elim);refine(hc.2 _ R1 [_] (fun b hb=>XH (hlt1 b hb) F2.size) (Aa1 hy2) (hg2.at_ (Fr.refl _ _) fun b hb=>(Uj hb).elim)).mono ?_
  rintro e w3 ⟨ys,R3,rfl,hf3,hR3,hR4,hp3,hF3⟩
  obtain⟨x,rfl⟩:∃x,ys=[x]:=by
   have hl:=hp3.len;rcases ys with _|⟨x,_|⟨x',ys⟩⟩<;>simp at hl
   exact⟨x,rfl⟩
  have hx:x=.int .i64 p.err:=B9 (hp3.ok 0 _ _ rfl rfl);subst hx;have hf3':Fr (fun _=>False) w2 w3:=⟨hf3.os,hf3.tape,hf3.output,hf3.size,fun k hk _=>hf3.block k hk Uj⟩;have E0:=hf3'.blkP D0 id;have E1:=hf3'.blkP D1 id;have hy3:=hid (hy2.mono (fun b hb=>⟨hb,hf3'.block b (XH (hlt1 b hb) F2.size) id⟩) (Gle.refl _));have HF3:=hid hf3';have hp3:=hid hp3;have hn1:=hid hn1;have hlt1:=hid hlt1;clear hf3 hR3 hR4 hF3 hp3 hf3' hy2;simp only[Db];have e0:w3.cell? ⟨w.heap.size,0,none⟩=some (.string p.fr):=E0.cell 0;have e1:w3.cell? ⟨w.heap.size,1,none⟩=some (.bool p.wo):=E0.cell 1;have e2:w3.cell? ⟨w.heap.size,2,none⟩=some (.slice a2 k2 c2):=E0.cell 2;have e3:w3.cell? ⟨w.heap.size,3,none⟩=some (.slice a3 k3 c3):=E0.cell 3;have e4:w3.cell? ⟨w.heap.size,4,none⟩=some (.slice a4 k4 c4):=E0.cell 4;have e5:w3.cell? ⟨w.heap.size,5,none⟩=some (.slice a5 k5 c5):=E0.cell 5;have f0:=fun i=>E0.frozen i;have g0:w3.cell? ⟨w.heap.size+1,0,none⟩=some (.int .i64 0):=E1.cell 0;have h0:=E1.frozen 0;by_cases hE:p.err=0
  ·obtain⟨h1,h2⟩:=hv.out rfl hE;have h1:=hid h1;have h2:=hid h2
   go_wp2_with fail
   refine leaves_cons (f:=31) (args:= #[.pointer (some ⟨w.heap.size,0,none⟩),.pointer (some ⟨w.heap.size+1,0,none⟩)]) (by simp) (by simp[go_sem]) ?_;refine(M1 w.heap.size (w.heap.size+1) _).mono ?_
   rintro e u' w4 ⟨rfl,rfl,hw4⟩
   have F4:Fr (fun k=>k=w.heap.size∨k=w.heap.size+1) w3 w4:=by rw[hw4];exact((((((((Fr.refl (fun k=>k=w.heap.size∨k=w.heap.size+1) w3).set_ (.inl rfl) 0 (.string p.fr)).set_ (.inl rfl) 1 (.bool p.wo)).set_ (.inl rfl) 2 (.slice a2 k2 c2)).set_ (.inl rfl) 3 (.slice a3 k3 c3)).set_ (.inl rfl) 4 (.slice a4 k4 c4)).set_ (.inl rfl) 5 (.slice a5 k5 c5)).set_ (.inr rfl) 0 (.int .i64 0)).alloc_ (.cells #[] 61)
   have G0:Blk w4 w.heap.size 27 #[.string p.fr,.bool p.wo,.slice a2 k2 c2,.slice a3 k3 c3,.slice a4 k4 c4,.slice a5 k5 c5]:=by rw[hw4];exact(((((((E0.set_ 0 (.string p.fr)).set_ 1 (.bool p.wo)).set_ 2 (.slice a2 k2 c2)).set_ 3 (.slice a3 k3 c3)).set_ 4 (.slice a4 k4 c4)).set_ 5 (.slice a5 k5 c5)).far (p:=⟨w.heap.size+1,0,none⟩) (by simp) (.int .i64 0)).alloc (.cells #[] 61)
   have G1:Blk w4 (w.heap.size+1) 28 #[.int .i64 0]:=by rw[hw4];exact(((((((E1.far (p:=⟨w.heap.size,0,none⟩) (by simp) (.string p.fr)).far (p:=⟨w.heap.size,1,none⟩) (by simp) (.bool p.wo)).far (p:=⟨w.heap.size,2,none⟩) (by simp) (.slice a2 k2 c2)).far (p:=⟨w.heap.size,3,none⟩) (by simp) (.slice a3 k3 c3)).far (p:=⟨w.heap.size,4,none⟩) (by simp) (.slice a4 k4 c4)).far (p:=⟨w.heap.size,5,none⟩) (by simp) (.slice a5 k5 c5)).set_ 0 (.int .i64 0)).alloc (.cells #[] 61)
   clear hw4 e0 e1 e2 e3 e4 e5 f0 g0 h0;have e0:w4.cell? ⟨w.heap.size,0,none⟩=some (.string p.fr):=G0.cell 0;have e1:w4.cell? ⟨w.heap.size,1,none⟩=some (.bool p.wo):=G0.cell 1;have e2:w4.cell? ⟨w.heap.size,2,none⟩=some (.slice a2 k2 c2):=G0.cell 2;have e3:w4.cell? ⟨w.heap.size,3,none⟩=some (.slice a3 k3 c3):=G0.cell 3;have e4:w4.cell? ⟨w.heap.size,4,none⟩=some (.slice a4 k4 c4):=G0.cell 4;have e5:w4.cell? ⟨w.heap.size,5,none⟩=some (.slice a5 k5 c5):=G0.cell 5;have g0:w4.cell? ⟨w.heap.size+1,0,none⟩=some (.int .i64 0):=G1.cell 0;simp[Leaves,settle,results,Tryz.results12,go_sem,e0,e1,e2,e3,e4,e5,g0];rw[h1.out,h2.out];refine⟨pkV p (.slice a2 k2 c2) (.slice a3 k3 c3) (.slice a4 k4 c4) (.slice a5 k5 c5),R1,rfl,((((F0.outP HF.out (fun i hi=>by omega)).outP F2 (fun i hi=>by omega)).outP HF3.out (fun i hi=>hi.elim))).outP F4 (fun i hi=>by omega),hR1.out,fun b hb=>?_,hy3.out.mono (fun b hb=>⟨hb,F4.block b (XH (hlt1.out b hb) (XI F2.size HF3.out.size)) (by have:=hn1.out b hb;omega)⟩) (Gle.refl _)⟩;rcases hR2.out b hb with g|⟨g1,g2⟩
   ·exact .inl g
   ·refine .inr ⟨XH g1 (XI F2.size (XI HF3.out.size F4.size)),?_⟩;rcases g2 with g2|g2
    ·omega
    ·exact XI F0.size g2
  ·obtain⟨h1,h2⟩:=hz.out (.inr hE);have h1:=hid h1;have h2:=hid h2
   go_wp2_with fail
   refine leaves_cons (f:=31) (args:= #[.pointer (some ⟨w.heap.size,0,none⟩),.pointer (some ⟨w.heap.size+1,0,none⟩)]) (by simp) (by simp[go_sem]) ?_;refine(M1 w.heap.size (w.heap.size+1) _).mono ?_
   rintro e u' w4 ⟨rfl,rfl,hw4⟩
   have F4:Fr (fun k=>k=w.heap.size∨k=w.heap.size+1) w3 w4:=by rw[hw4];exact((((((((Fr.refl (fun k=>k=w.heap.size∨k=w.heap.size+1) w3).set_ (.inl rfl) 0 (.string ⟨#[]⟩)).set_ (.inl rfl) 1 (.bool false)).set_ (.inl rfl) 2 (.slice none 0 0)).set_ (.inl rfl) 3 (.slice none 0 0)).set_ (.inl rfl) 4 (.slice none 0 0)).set_ (.inl rfl) 5 (.slice none 0 0)).set_ (.inr rfl) 0 (.int .i64 1)).alloc_ (.cells #[] 61)
   have G0:Blk w4 w.heap.size 27 #[.string ⟨#[]⟩,.bool false,.slice none 0 0,.slice none 0 0,.slice none 0 0,.slice none 0 0]:=by rw[hw4];exact(((((((E0.set_ 0 (.string ⟨#[]⟩)).set_ 1 (.bool false)).set_ 2 (.slice none 0 0)).set_ 3 (.slice none 0 0)).set_ 4 (.slice none 0 0)).set_ 5 (.slice none 0 0)).far (p:=⟨w.heap.size+1,0,none⟩) (by simp) (.int .i64 1)).alloc (.cells #[] 61)
   have G1:Blk w4 (w.heap.size+1) 28 #[.int .i64 1]:=by rw[hw4];exact(((((((E1.far (p:=⟨w.heap.size,0,none⟩) (by simp) (.string ⟨#[]⟩)).far (p:=⟨w.heap.size,1,none⟩) (by simp) (.bool false)).far (p:=⟨w.heap.size,2,none⟩) (by simp) (.slice none 0 0)).far (p:=⟨w.heap.size,3,none⟩) (by simp) (.slice none 0 0)).far (p:=⟨w.heap.size,4,none⟩) (by simp) (.slice none 0 0)).far (p:=⟨w.heap.size,5,none⟩) (by simp) (.slice none 0 0)).set_ 0 (.int .i64 1)).alloc (.cells #[] 61)
   clear hw4 e0 e1 e2 e3 e4 e5 f0 g0 h0;have e0:w4.cell? ⟨w.heap.size,0,none⟩=some (.string ⟨#[]⟩):=G0.cell 0;have e1:w4.cell? ⟨w.heap.size,1,none⟩=some (.bool false):=G0.cell 1;have e2:w4.cell? ⟨w.heap.size,2,none⟩=some (.slice none 0 0):=G0.cell 2;have e3:w4.cell? ⟨w.heap.size,3,none⟩=some (.slice none 0 0):=G0.cell 3;have e4:w4.cell? ⟨w.heap.size,4,none⟩=some (.slice none 0 0):=G0.cell 4;have e5:w4.cell? ⟨w.heap.size,5,none⟩=some (.slice none 0 0):=G0.cell 5;have g0:w4.cell? ⟨w.heap.size+1,0,none⟩=some (.int .i64 1):=G1.cell 0;simp[Leaves,settle,results,Tryz.results12,go_sem,e0,e1,e2,e3,e4,e5,g0];rw[h1.out,h2.out];refine⟨.agg Fx,R1,rfl,((((F0.outP HF.out (fun i hi=>by omega)).outP F2 (fun i hi=>by omega)).outP HF3.out (fun i hi=>hi.elim))).outP F4 (fun i hi=>by omega),hR1.out,fun b hb=>?_,Qr _ _⟩;rcases hR2.out b hb with g|⟨g1,g2⟩
   ·exact .inl g
   ·refine .inr ⟨XH g1 (XI F2.size (XI HF3.out.size F4.size)),?_⟩;rcases g2 with g2|g2
    ·omega
    ·exact XI F0.size g2
 ·obtain⟨h1,h2⟩:=hz.out (.inl hr);have h1:=hid h1;have h2:=hid h2;have hr':r≠⟨#[]⟩:=fun q=>hr (by rw[q];rfl);have hb0:ByteArray.toList ⟨#[]⟩=[]:=by rw[ByteArray.toList_eq]
  have hb2:¬r.toList=[]:=fun q=>hr (Aes q);have hb1:(r.toList==[])=false:=by simp[hb2]
  go_wp2_with fail
  have D0:Blk ((((((w1.setCell ⟨w.heap.size,0,none⟩ (.string p.fr)).setCell ⟨w.heap.size,1,none⟩ (.bool p.wo)).setCell ⟨w.heap.size,2,none⟩ (.slice a2 k2 c2)).setCell ⟨w.heap.size,3,none⟩ (.slice a3 k3 c3)).setCell ⟨w.heap.size,4,none⟩ (.slice a4 k4 c4)).setCell ⟨w.heap.size,5,none⟩ (.slice a5 k5 c5)) w.heap.size 27 #[.string p.fr,.bool p.wo,.slice a2 k2 c2,.slice a3 k3 c3,.slice a4 k4 c4,.slice a5 k5 c5]:=((((((C0.set_ 0 (.string p.fr)).set_ 1 (.bool p.wo)).set_ 2 (.slice a2 k2 c2)).set_ 3 (.slice a3 k3 c3)).set_ 4 (.slice a4 k4 c4)).set_ 5 (.slice a5 k5 c5));have D1:=((((((C1.far (p:=⟨w.heap.size,0,none⟩) (by simp) (.string p.fr)).far (p:=⟨w.heap.size,1,none⟩) (by simp) (.bool p.wo)).far (p:=⟨w.heap.size,2,none⟩) (by simp) (.slice a2 k2 c2)).far (p:=⟨w.heap.size,3,none⟩) (by simp) (.slice a3 k3 c3)).far (p:=⟨w.heap.size,4,none⟩) (by simp) (.slice a4 k4 c4)).far (p:=⟨w.heap.size,5,none⟩) (by simp) (.slice a5 k5 c5));have F2:Fr (fun k=>k=w.heap.size) w1 _:=(((((((Fr.refl (fun k=>k=w.heap.size) w1).set_ rfl 0 (.string p.fr)).set_ rfl 1 (.bool p.wo)).set_ rfl 2 (.slice a2 k2 c2)).set_ rfl 3 (.slice a3 k3 c3)).set_ rfl 4 (.slice a4 k4 c4)).set_ rfl 5 (.slice a5 k5 c5));generalize hw2:((((((w1.setCell ⟨w.heap.size,0,none⟩ (.string p.fr)).setCell ⟨w.heap.size,1,none⟩ (.bool p.wo)).setCell ⟨w.heap.size,2,none⟩ (.slice a2 k2 c2)).setCell ⟨w.heap.size,3,none⟩ (.slice a3 k3 c3)).setCell ⟨w.heap.size,4,none⟩ (.slice a4 k4 c4)).setCell ⟨w.heap.size,5,none⟩ (.slice a5 k5 c5))=w2 at D0 D1 F2 ⊢;clear r0 hw2;refine leaves_cons (f:=31) (args:= #[.pointer (some ⟨w.heap.size,0,none⟩),.pointer (some ⟨w.heap.size+1,0,none⟩)]) (by simp) (by simp[go_sem]) ?_;refine(M1 w.heap.size (w.heap.size+1) _).mono ?_
  rintro e u' w4 ⟨rfl,rfl,hw4⟩
  have F4:Fr (fun k=>k=w.heap.size∨k=w.heap.size+1) w2 w4:=by rw[hw4];exact((((((((Fr.refl (fun k=>k=w.heap.size∨k=w.heap.size+1) w2).set_ (.inl rfl) 0 (.string ⟨#[]⟩)).set_ (.inl rfl) 1 (.bool false)).set_ (.inl rfl) 2 (.slice none 0 0)).set_ (.inl rfl) 3 (.slice none 0 0)).set_ (.inl rfl) 4 (.slice none 0 0)).set_ (.inl rfl) 5 (.slice none 0 0)).set_ (.inr rfl) 0 (.int .i64 1)).alloc_ (.cells #[] 61)
  have G0:Blk w4 w.heap.size 27 #[.string ⟨#[]⟩,.bool false,.slice none 0 0,.slice none 0 0,.slice none 0 0,.slice none 0 0]:=by rw[hw4];exact(((((((D0.set_ 0 (.string ⟨#[]⟩)).set_ 1 (.bool false)).set_ 2 (.slice none 0 0)).set_ 3 (.slice none 0 0)).set_ 4 (.slice none 0 0)).set_ 5 (.slice none 0 0)).far (p:=⟨w.heap.size+1,0,none⟩) (by simp) (.int .i64 1)).alloc (.cells #[] 61)
  have G1:Blk w4 (w.heap.size+1) 28 #[.int .i64 1]:=by rw[hw4];exact(((((((D1.far (p:=⟨w.heap.size,0,none⟩) (by simp) (.string ⟨#[]⟩)).far (p:=⟨w.heap.size,1,none⟩) (by simp) (.bool false)).far (p:=⟨w.heap.size,2,none⟩) (by simp) (.slice none 0 0)).far (p:=⟨w.heap.size,3,none⟩) (by simp) (.slice none 0 0)).far (p:=⟨w.heap.size,4,none⟩) (by simp) (.slice none 0 0)).far (p:=⟨w.heap.size,5,none⟩) (by simp) (.slice none 0 0)).set_ 0 (.int .i64 1)).alloc (.cells #[] 61)
  clear hw4 e0 e1 e2 e3 e4 e5 f0 g0 h0;have e0:w4.cell? ⟨w.heap.size,0,none⟩=some (.string ⟨#[]⟩):=G0.cell 0;have e1:w4.cell? ⟨w.heap.size,1,none⟩=some (.bool false):=G0.cell 1;have e2:w4.cell? ⟨w.heap.size,2,none⟩=some (.slice none 0 0):=G0.cell 2;have e3:w4.cell? ⟨w.heap.size,3,none⟩=some (.slice none 0 0):=G0.cell 3;have e4:w4.cell? ⟨w.heap.size,4,none⟩=some (.slice none 0 0):=G0.cell 4;have e5:w4.cell? ⟨w.heap.size,5,none⟩=some (.slice none 0 0):=G0.cell 5;have g0:w4.cell? ⟨w.heap.size+1,0,none⟩=some (.int .i64 1):=G1.cell 0;simp[Leaves,settle,results,Tryz.results12,go_sem,e0,e1,e2,e3,e4,e5,g0];rw[h1.out,h2.out];refine⟨.agg Fx,R1,rfl,((F0.outP HF.out (fun i hi=>by omega)).outP F2 (fun i hi=>by omega)).outP F4 (fun i hi=>by omega),hR1.out,fun b hb=>?_,Qr _ _⟩;rcases hR2.out b hb with g|⟨g1,g2⟩
  ·exact .inl g
  ·refine .inr ⟨XH g1 (XI F2.size F4.size),?_⟩;rcases g2 with g2|g2
   ·omega
   ·exact XI F0.size g2
theorem Pk.okB_ok[Glob]{p:Pk}(h:p.okB):p.ok:=by
 obtain⟨h0,⟨m1,m2⟩,⟨s1,s2⟩,⟨g1,g2⟩,⟨w1,w2⟩⟩:=h;exact⟨h0,by omega,fun x hx=>(m2 x hx).1,by omega,fun x hx=>⟨(s2 x hx).1,(s2 x hx).2.1,(s2 x hx).2.2.1,(s2 x hx).2.2.2.1⟩,by omega,fun x hx=>(g2 x hx).1,by omega,fun x hx=>(w2 x hx).1⟩
theorem Acr[Glob][Tabs](s:ByteArray)(hs:s.size≤1000000000000)(w:World)(R:Nat→Prop)(hlt:∀b,R b→b<w.heap.size)(hg:Bz w (fun _=>False)):Calls Tryz.prog 12 #[.string s] w (Wm R w (Km s).1 (Km s).2):=by
 unfold Km T8;rcases e:pkR s with _|⟨p,r⟩
 ·exact Ad8 s (.string s) w R hlt hg (Aad e hs)
 ·have hok:p.ok:=Pk.okB_ok (Adw.some _ _ e).1;refine Adz s r p w R hlt hg (Aaa e hs) (Mi p hok) _ _ (fun h1 h2=>?_) (fun h=>?_)
  ·simp only;rw[if_neg (fun h:r.size≠0∨p.err≠0=>h.elim (fun h=>h h1) (fun h=>h h2))];exact⟨rfl,rfl⟩
  ·simp only;rw[if_pos (show r.size≠0∨p.err≠0 from h)];exact⟨rfl,rfl⟩
theorem K9[Glob][Tabs](s:ByteArray)(hs:s.size≤1000000000000):Fun Tryz.prog 12 [.c (.v (.string s))] [.c (.agg (Km s).1.row),.c (.v (.int .i64 (Km s).2))]:=by
 refine⟨⟨_,Tryz.func12,by kernel_rfl,by kernel_rfl⟩,fun w R xs hlt hp hg=>?_⟩;obtain⟨x,rfl⟩:∃x,xs=[x]:=by
  have hl:=hp.len;rcases xs with _|⟨x,_|⟨x',xs⟩⟩<;>simp at hl
  exact⟨x,rfl⟩
 have hx:x=.string s:=B9 (hp.ok 0 _ _ rfl rfl);subst hx;refine(Acr s hs w R hlt (hg.at_ (C6 (Fr.refl (fun _=>False) w) fun _ h=>h.elim) fun b h=>h.elim)).mono ?_
 rintro e w' ⟨x,R',rfl,hf,h1,h2,h3⟩
 have hnb:∀b,¬A7 [.c (.agg (Km s).1.row),.c (.v (.int .i64 (Km s).2))] [x,.int .i64 (Km s).2] b:=fun b=>Fa (by intro p hp;rcases XC.1 hp with rfl|hp;exact⟨_,rfl⟩;rcases XC.1 hp with rfl|hp;exact⟨_,rfl⟩;cases hp);refine⟨[x,.int .i64 (Km s).2],R',rfl,⟨hf.os,hf.tape,hf.output,hf.size,fun k hk _=>hf.block k hk id⟩,h1,fun b hb=>(h2 b hb).imp id (fun g=>⟨g.1,.inr g.2⟩),⟨rfl,fun i p y q1 q2=>?_,fun i j T sz rows T' sz' rows' x y b hij q1=>?_,fun b hb=>(hnb b hb).elim⟩,fun b hb=>(hnb b hb).elim⟩
 ·rcases i with _|_|i
  ·cases q1;cases q2;exact h3
  ·cases q1;cases q2;exact .v _
  ·simp at q1
 ·rcases i with _|_|i<;>simp at q1

end Go.Proofs.YteflnbjmjcbmmaaGreatDoor
