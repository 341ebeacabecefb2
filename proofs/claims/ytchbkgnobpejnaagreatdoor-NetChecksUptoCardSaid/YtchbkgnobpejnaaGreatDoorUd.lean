/- Texts of this claim, joined. -/
import Derived.Test.YtchbkgnobpejnaaGreatDoorProg
import Derived.Test.YtchbkgnobpejnaaGreatDoorYAbsQ
import Derived.KernelRfl
import Derived.Test.YtchbkgnobpejnaaGreatDoorYAbsK
import Derived.Test.YtchbkgnobpejnaaGreatDoorYAbsS
import Derived.Test.YtchbkgnobpejnaaGreatDoorYAbs1
import Derived.WalkKit
import Derived.Below
import Derived.Defers
import Derived.Recover
import Derived.Laws.Pointers
import Derived.Test.YtchbkgnobpejnaaGreatDoorUa
import Derived.Test.YtchbkgnobpejnaaGreatDoorUb
import Derived.Test.YtchbkgnobpejnaaGreatDoorUc
set_option linter.unusedSimpArgs false
set_option linter.unusedVariables false
namespace Go.Proofs.YtchbkgnobpejnaaGreatDoor
open Go Go.RowKit Pl
abbrev prT:TypeId:=104
def D4:Value:=.iface 100 (.agg #[])
section
variable {P:Program} {w:World} {R:Nat→Prop}
theorem Adv{p:Bf}{x:Value}{F':Nat→Prop}(hx:Ji w R p x F')(hd:∀b,F' b→¬R b):∀(zs:List Value),Cm w R ((zs.map fun z=>.p (.c (.v z)))++[p]) (zs++[x]) F'
 |[]=>⟨F',fun _=>False,hx,fun b h=>h,fun b hb=>⟨fun q=>q,hd b hb⟩,fun b=>by simp⟩
 |z::zs=>by
  refine⟨fun _=>False,F',⟨.v z,fun b=>⟨fun q=>q.elim,fun q=>Fi (fun p hp=>by simp at hp;exact⟨_,hp⟩) q⟩⟩,Adv hx hd zs,fun b hb=>hb.elim,fun b=>by simp⟩
theorem Wu{u:V}{x:Value}(h:RV w R noG u x):M3 w R [.c u] [x]:=by
 refine⟨rfl,fun i p y h1 h2=>?_,fun i j T sz rows T' sz' rows' x y b hij h1=>?_,fun b h=>absurd h (Fi (fun p hp=>by simp at hp;exact⟨_,hp⟩))⟩
 ·rcases i with _|i
  ·cases h1;cases h2;exact h
  ·simp at h1
 ·rcases i with _|i<;>simp at h1
theorem Aoz{T:TypeId}{y y':Value}{xs:List Value}{F:Nat→Prop}(hp:Cm w R [.mn T [.c (.v y)] [.c (.v y')]] xs F):∃b,xs=[.pointer (some ⟨b,0,none⟩)]∧w.heap[b]? =some (.cells #[y] T (0,0))∧(∀k,F k↔k=b)∧¬R b:=by
 match xs,hp with
 |[x],hp=>
  obtain⟨F1,F2,⟨b,ys,rfl,hpos,hown,hpars,hone,hnb,hF1⟩,h2,h3,h4⟩:=hp;have hl:ys.length=1:=by simpa using hpars.len.symm
  obtain⟨y0,rfl⟩:∃y0,ys=[y0]:=List.length_eq_one_iff.1 hl;obtain rfl:y0=y:=Cd (hpars.ok 0 _ _ rfl rfl);have hnb':∀k,¬A4 [.c (.v y0)] [y0] k:=fun k=>Fi (fun p hp=>by simp at hp;exact⟨_,hp⟩);have hF:∀k,F k↔k=b:=fun k=>by
   rw[h4,hF1];exact⟨fun q=>q.elim (fun q=>q.resolve_right (hnb' k)) (fun q=>absurd q (h2 k)),fun q=>.inl (.inl q)⟩
  refine⟨b,rfl,?_,hF,(h3 b ((hF1 b).2 (.inl rfl))).2⟩;rcases hown.2 with⟨q,_⟩|⟨g,cap,cur,q,_,hg,hnc,hcm,hcs,htake⟩
  ·cases q
  ·injection q with q1 q2 q3;injection q1 with q1
   injection q1 with q1;subst q1 q3;have hl:cur.toList.length=1:=by simpa using hcs
   have hx:cur.toList=[y0]:=by rw[←htake,List.take_of_length_le (by rw[hl];exact ZT _)]
   have hc:cur= #[y0]:=by apply Array.ext';rw[hx]
   rw[hc]at hg;exact hg
theorem Ake[Glob]{f:FuncId}{T:TypeId}{y y':Value}{zs:List Value}(hc:Ds P f)(hy':y'.oneCell'=true)(h:∀(w:World) (L:Nat→Prop) (b:Nat),Cc w L→w.heap[b]? =some (.cells #[y] T (0,0))→Calls P f #[.pointer (some ⟨b,0,none⟩)] w fun e w'=>e=.returned (Dl zs)∧Fr (fun k=>k=b) w w'∧w'.heap[b]? =some (.cells #[y'] T (0,0))):
  Gl P f [.mn T [.c (.v y)] [.c (.v y')]] (zs.map fun z=>.p (.c (.v z))):=by
 refine⟨hc,fun w R xs F hlt hp hg=>?_⟩;obtain⟨b,rfl,hb,hF,hR⟩:=Aoz hp;refine(h w F b hg hb).mono ?_
 rintro e w' ⟨rfl,hfr,hb'⟩
 refine⟨zs,R,fun k=>k=b,rfl,by simp,Dk hfr fun k hk=>(hF k).2 hk,fun b hb=>hb,fun b hb=>.inl hb,?_,fun k hk=>.inl ((hF k).2 hk)⟩;have hnb':∀k,¬A4 [.c (.v y')] [y'] k:=fun k=>Fi (fun p hp=>by simp at hp;exact⟨_,hp⟩);refine Adv (p:=.pn T [.c (.v y')]) ⟨b,[y'],rfl,by simp,⟨rfl,.inr ⟨b,1,_,rfl,ZU _,hb',by simp,by decide,rfl,rfl⟩⟩,Wu (.v _),by simp[hy'],hnb' b,fun k=>⟨.inl,fun h=>h.elim id (fun h=>absurd h (hnb' k))⟩⟩ (fun k hk=>by rw[hk];exact hR) zs
theorem Afv[Glob]{f:FuncId}{T:TypeId}{y v:Value}{y':Value}(hc:Ds P f)(h:∀(w:World) (L:Nat→Prop) (b:Nat),Cc w L→w.heap[b]? =some (.cells #[y] T (0,0))→Calls P f #[.pointer (some ⟨b,0,none⟩)] w fun e w'=>e=.panicked [{v:=v,recovered:=false}]∧Fr (fun k=>k=b) w w'):
  Ij P f [.mn T [.c (.v y)] [.c (.v y')]] v:=by
 refine⟨hc,fun w R xs F hlt hp hg=>?_⟩;obtain⟨b,rfl,hb,hF,hR⟩:=Aoz hp;exact(h w F b hg hb).mono fun e w' ⟨h1,h2⟩=>⟨h1,Dk h2 fun k hk=>(hF k).2 hk⟩
end
def It:Ae:=
 .seq (.reg [Rq 4 (.mv (.const (.string ⟨#[]⟩))),Rq 5 (.mv (.const (.string ⟨#[]⟩))),Rq 6 (.mv (.const (.bool false)))]) (.seq (.seq (.reg [Mq 8 0,Mq 9 1,Cq 10 194 ([8,9]),Mq 7 10]) (.seq (.reg [Mq 11 7,Bq 12 .geq 11 (Kq 0)]) (.cond 12 (.seq (.dreg [[Mq 13 0,Mq 14 7,Rq 15 (.slcS 13 none (some 14)),Mq 16 0,Mq 17 7,Mq 18 1,Rq 19 (.len true 18),Bq 20 .add 17 19,Rq 21 (.slcS 16 (some 20) none),Mq 4 15],[Mq 5 21],[Rq 6 (.mv (.const (.bool true)))]]) (.ret)) (.skip)))) (.seq (.reg [Mq 22 0,Mq 4 22,Rq 5 (.mv (.const (.string ⟨#[]⟩))),Rq 6 (.mv (.const (.bool false)))]) (.ret)))
theorem Ek:Al Tryz.prog 167 2=some (It,[4,5,6]):=by kernel_rfl
namespace Pl
noncomputable def wrPk(p:Pk):ByteArray:=if p.err=0 then bA (pkB p)else⟨#[]⟩
end Pl
theorem Acx[Glob][Tabs](p:Pk)(h:p.ok):Fun Tryz.prog 159 [.c (.agg p.row)] [.c (.v (.string (wrPk p))),.c (.v (.int .i64 p.err))]:=by
 have hC:=Ug p h;by_cases h0:p.err=0
 ·have hW:=Aix p (Pk.sm h0);rw[h0]at hC ⊢;rw[show wrPk p=bA (pkB p)from if_pos h0];refine A9 Nu rfl ?_;(refine goI ?_;repeat (intro gg;refine goI ?_));refine .inl (cX hC ?_);(refine goI ?_;repeat (intro gg;refine goI ?_));refine .inl (cX hW ?_);(refine goI ?_;repeat (intro gg;refine goI ?_));(exact⟨[],aI⟩)
 ·rw[show wrPk p=⟨#[]⟩from if_neg h0];refine A9 Nu rfl ?_;(refine goI ?_;repeat (intro gg;refine goI ?_));refine .inl (cX hC ?_);(refine goI ?_;repeat (intro gg;refine goI ?_));(refine Ad3 ?_ ?_;focus (simpa using h0));(refine goI ?_;repeat (intro gg;refine goI ?_));(exact⟨[],aI⟩)
theorem Qe[Glob](s:ByteArray)(c:UInt8):Fun Tryz.prog 194 [.c (.v (.string s)),.c (.v (.string ⟨#[c]⟩))] [.c (.v (.int .i64 (ixb s c)))]:=
 Pi (xs:=[.string s,.string ⟨#[c]⟩]) (Df Tryz.func194 (by kernel_rfl) (by kernel_rfl)) fun w=>(Yu s c w).mono fun e w' ⟨h1,h2⟩=>⟨h1,h2▸Below.refl _ _⟩
theorem Ajg[Glob]{s:ByteArray}{k:Nat}(hk:ixb s 59=(k:Int))(hlt:k<s.size)(hs:s.size≤1000000000000):Fun Tryz.prog 167 [.c (.v (.string s)),.c (.v (.string ⟨#[59]⟩))] [.c (.v (.string (s.extract 0 k))),.c (.v (.string (s.extract (k+1) s.size))),.c (.v (.bool true))]:=by
 have hi:=Qe s 59;rw[hk]at hi;refine A9 Ek rfl ?_;(refine goI ?_;repeat (intro gg;refine goI ?_));refine .inl (cX hi ?_);(refine goI ?_;repeat (intro gg;refine goI ?_));refine⟨0,k,rfl,⟨_,rfl⟩,by omega,by omega,?_⟩;(refine goI ?_;repeat (intro gg;refine goI ?_));refine⟨(k:Int)+1,K5 (n:=(k:Int)+1) (by omega) (by omega),?_⟩;(refine goI ?_;repeat (intro gg;refine goI ?_));refine⟨k+1,s.size,⟨_,rfl⟩,rfl,by omega,ZT _,?_⟩;(refine goI ?_;repeat (intro gg;refine goI ?_));(exact⟨[],aI⟩)
theorem Aik[Glob]{s:ByteArray}(h:ixb s 59<0):Fun Tryz.prog 167 [.c (.v (.string s)),.c (.v (.string ⟨#[59]⟩))] [.c (.v (.string s)),.c (.v (.string ⟨#[]⟩)),.c (.v (.bool false))]:=by
 have hi:=Qe s 59;generalize ixb s 59=i at hi h;refine A9 Ek rfl ?_;(refine goI ?_;repeat (intro gg;refine goI ?_));refine .inl (cX hi ?_);(refine goI ?_;repeat (intro gg;refine goI ?_));(refine T6 ?_ ?_;focus (exact ZY (by omega)));(refine goI ?_;repeat (intro gg;refine goI ?_));(exact⟨[],aI⟩)
theorem Rz[Glob]{s a b:ByteArray}(h:Oa s 59=some (a,b))(hs:s.size≤1000000000000):Fun Tryz.prog 139 [.c (.v (.string s)),.c (.v (.string ⟨#[59]⟩))] [.c (.v (.string a)),.c (.v (.string b)),.c (.v (.bool true))]:=by
 unfold Oa at h;split at h
 ·cases h
 ·rename_i h0;injection h with h
  injection h with ha hb;obtain⟨k,hk⟩:=Int.eq_ofNat_of_zero_le (show 0≤ixb s 59 by omega);have hlt:k<s.size:=by
   have h1:=(Lib.indexByte_some (show Lib.indexByte s.data.toList 59=(k:Int)from hk)).1;have:=(ZB.1 h1).1;rw[Array.length_toList]at this;exact this
  have hi:=Ajg hk hlt hs;rw[hk,Int.toNat_natCast]at ha hb;rw[ha,hb]at hi;refine A9 Oz rfl ?_;(refine goI ?_;repeat (intro gg;refine goI ?_));refine .inl (cX hi ?_);(refine goI ?_;repeat (intro gg;refine goI ?_));(exact⟨[],aI⟩)
theorem Xa[Glob]{s:ByteArray}(h:Oa s 59=none):Fun Tryz.prog 139 [.c (.v (.string s)),.c (.v (.string ⟨#[59]⟩))] [.c (.v (.string s)),.c (.v (.string ⟨#[]⟩)),.c (.v (.bool false))]:=by
 unfold Oa at h;split at h
 ·rename_i h0;have hi:=Aik h0;refine A9 Oz rfl ?_;(refine goI ?_;repeat (intro gg;refine goI ?_));refine .inl (cX hi ?_);(refine goI ?_;repeat (intro gg;refine goI ?_));(exact⟨[],aI⟩)
 ·cases h
theorem Cc.none_[Glob]{w:World}{L:Nat→Prop}(h:Cc w L):Cc w (fun _=>False):=fun b o q=>⟨(h b o q).1,id⟩
theorem Cc.fr_[Glob]{w w':World}(h:Cc w (fun _=>False))(hf:Fr (fun _=>False) w w'):Cc w' (fun _=>False):=h.at_ hf fun b q=>q.elim
theorem Ab9[Glob]{w w':World}(hf:Fr (fun _=>False) w w'){b:Nat}{o:Obj}(h:w.heap[b]? =some o):w'.heap[b]? =some o:=(hf.block b (XL.1 h).1 id).trans h
set_option maxRecDepth 100000 in
set_option maxHeartbeats 4000000 in
theorem Ail[Glob][Tabs]{s r:ByteArray}{n:Int}(h:Cr s=some (n,r))(hs:s.size≤1000000000000)(w:World)(L:Nat→Prop)(b:Nat)(hg:Cc w L)(hb:w.heap[b]? =some (.cells #[.string s] prT (0,0))):
  Calls Tryz.prog 99 #[.pointer (some ⟨b,0,none⟩)] w fun e w'=>e=.returned (Dl [.int .i64 n])∧Fr (fun k=>k=b) w w'∧w'.heap[b]? =some (.cells #[.string r] prT (0,0)):=by
 obtain⟨hI,_⟩:=Hn h;unfold Cr at h;rcases hc:Oa s 59 with _|⟨t,r'⟩
 ·rw[hc]at h;cases h
 rw[hc,ZA]at h;rcases hv:Ag0 t with _|n'
 ·simp only[hv]at h;cases h
 simp only[hv,Option.map_some,ZD,Prod.mk.injEq]at h;obtain⟨rfl,rfl⟩:=h;unfold Ag0 at hv;rcases hA:Lib.atoiAll t.data.toList with m|_|_
 rotate_left
 ·rw[hA]at hv;cases hv
 ·rw[hA]at hv;cases hv
 rw[hA]at hv;simp only at hv;split at hv;rotate_left
 ·cases hv
 rename_i hE;injection hv with hv
 subst hv;have hts:t.size≤1000000000000:=by
  unfold Oa at hc;split at hc
  ·cases hc
  ·injection hc with hc;injection hc with hc _
   subst hc;rw[ByteArray.size_extract];omega
 have hg0:=hg.none_;have c0:w.cell? ⟨b,0,none⟩=some (.string s):=by rw[Lib.cell_of_heap hb];rfl
 go_enter Tryz.func99,Tryz.ntmps99
 go_wp2_with (go_at_call 139;refine(Ix (xs:=[.string s,.string ⟨#[59]⟩]) (ys:=[.string t,.string r',.bool true]) (Rz hc hs) _ hg0).mono ?_;rintro e w1 ⟨rfl,hf1⟩;simp only[Dl])
 have hg1:=hg0.fr_ hf1
 go_wp2_with (go_at_call 140;refine(Any.strconv_Atoi_ok Tryz.laysC172 t (by omega) m hA _).mono ?_;rintro e w2 ⟨rfl,hw2⟩)
 have hf2:Fr (fun _=>False) w1 w2:=by
  rcases hw2 with rfl|⟨q,rfl⟩
  ·exact Fr.refl _ _
  ·have hb:=Lib.bytesWorld_below w1 (Tryz.laysC172_ren.t 5) q;exact Cn hb
 have hg2:=hg1.fr_ hf2;clear hw2
 go_wp2_with (go_at_call 141;refine(Ix (xs:=[.int .i64 m]) (ys:=[.string ⟨(Lib.itoa m).toArray⟩]) (Wq m hI.1 hI.2) _ hg2).mono ?_;rintro e w3 ⟨rfl,hf3⟩;simp only[Dl];have hb3:=Ab9 hf3 (Ab9 hf2 (Ab9 hf1 hb));have f3:=Lib.frozen_of_heap hb3 0;have c3:w3.cell? ⟨b,0,none⟩=some (.string s):=(by rw[Lib.cell_of_heap hb3];rfl))
 ·go_ret
  refine⟨rfl,?_,?_⟩
  ·exact(Dk ((hf1.trans hf2).trans hf3) (fun k q=>q.elim)).trans (Aen (L:=fun k=>k=b) rfl _ _)
  ·rw[heap_set hb3];rfl
theorem Ba[Glob][Tabs]{s r:ByteArray}{n:Int}(h:Cr s=some (n,r))(hs:s.size≤1000000000000):Gl Tryz.prog 99 [.mn prT [.c (.v (.string s))] [.c (.v (.string r))]] [.p (.c (.v (.int .i64 n)))]:=
 Ake (zs:=[.int .i64 n]) (Df Tryz.func99 (by kernel_rfl) (by kernel_rfl)) rfl fun w L b hg hb=>Ail h hs w L b hg hb
set_option maxRecDepth 100000 in
set_option maxHeartbeats 4000000 in
theorem X0[Glob]{s:ByteArray}(hc:Oa s 59=none)(m:Int)(hA:Lib.atoiAll s.data.toList=.ok m)(hs:s.size≤1000000000000)(w:World)(L:Nat→Prop)(b:Nat)(hg:Cc w L)(hb:w.heap[b]? =some (.cells #[.string s] prT (0,0))):
  Calls Tryz.prog 99 #[.pointer (some ⟨b,0,none⟩)] w fun e w'=>e=.panicked [{v:=D4,recovered:=false}]∧Fr (fun k=>k=b) w w':=by
 have hg0:=hg.none_;have c0:w.cell? ⟨b,0,none⟩=some (.string s):=by rw[Lib.cell_of_heap hb];rfl
 go_enter Tryz.func99,Tryz.ntmps99
 go_wp2_with (go_at_call 139;refine(Ix (xs:=[.string s,.string ⟨#[59]⟩]) (ys:=[.string s,.string ⟨#[]⟩,.bool false]) (Xa hc) _ hg0).mono ?_;rintro e w1 ⟨rfl,hf1⟩;simp only[Dl])
 have hg1:=hg0.fr_ hf1
 go_wp2_with (go_at_call 140;refine(Any.strconv_Atoi_ok Tryz.laysC172 s (by omega) m hA _).mono ?_;rintro e w2 ⟨rfl,hw2⟩)
 have hf2:Fr (fun _=>False) w1 w2:=by
  rcases hw2 with rfl|⟨q,rfl⟩
  ·exact Fr.refl _ _
  ·have hb:=Lib.bytesWorld_below w1 (Tryz.laysC172_ren.t 5) q;exact Cn hb
 have hg2:=hg1.fr_ hf2;clear hw2
 go_wp2
 refine⟨rfl,?_⟩;exact⟨rfl,Dk (hf1.trans hf2) (fun k q=>q.elim)⟩
set_option maxRecDepth 100000 in
set_option maxHeartbeats 4000000 in
theorem Qt[Glob][Tabs]{s:ByteArray}(hc:Oa s 59=none)(hA:Lib.atoiAll s.data.toList=Lib.atoiAll [])(hs:s.size≤1000000000000)(w:World)(L:Nat→Prop)(b:Nat)(hg:Cc w L)(hb:w.heap[b]? =some (.cells #[.string s] prT (0,0))):
  Calls Tryz.prog 99 #[.pointer (some ⟨b,0,none⟩)] w fun e w'=>e=.panicked [{v:=D4,recovered:=false}]∧Fr (fun k=>k=b) w w':=by
 have hg0:=hg.none_;have c0:w.cell? ⟨b,0,none⟩=some (.string s):=by rw[Lib.cell_of_heap hb];rfl
 go_enter Tryz.func99,Tryz.ntmps99
 go_wp2_with (go_at_call 139;refine(Ix (xs:=[.string s,.string ⟨#[59]⟩]) (ys:=[.string s,.string ⟨#[]⟩,.bool false]) (Xa hc) _ hg0).mono ?_;rintro e w1 ⟨rfl,hf1⟩;simp only[Dl])
 have hg1:=hg0.fr_ hf1;obtain⟨ev,hev1,hev2⟩:=Tabs.syn w1 _ hg1
 go_wp2_with (go_at_call 140;refine(Any.strconv_Atoi_syntax Tryz.laysC172 s (by omega) hA ev _ hev1 hev2).mono ?_;rintro e w2 ⟨N,rfl,hN1,hN2,hw2⟩)
 have hf2:Fr (fun _=>False) w1 w2:=Cn hw2
 go_wp2
 refine⟨rfl,?_⟩;exact⟨rfl,Dk (hf1.trans hf2) (fun k q=>q.elim)⟩
set_option maxRecDepth 100000 in
set_option maxHeartbeats 4000000 in
theorem Rl[Glob][Tabs]{s:ByteArray}(hc:Oa s 59=none)(hA:Lib.atoiAll s.data.toList=.range)(hs:s.size≤1000000000000)(w:World)(L:Nat→Prop)(b:Nat)(hg:Cc w L)(hb:w.heap[b]? =some (.cells #[.string s] prT (0,0))):
  Calls Tryz.prog 99 #[.pointer (some ⟨b,0,none⟩)] w fun e w'=>e=.panicked [{v:=D4,recovered:=false}]∧Fr (fun k=>k=b) w w':=by
 have hg0:=hg.none_;have c0:w.cell? ⟨b,0,none⟩=some (.string s):=by rw[Lib.cell_of_heap hb];rfl
 go_enter Tryz.func99,Tryz.ntmps99
 go_wp2_with (go_at_call 139;refine(Ix (xs:=[.string s,.string ⟨#[59]⟩]) (ys:=[.string s,.string ⟨#[]⟩,.bool false]) (Xa hc) _ hg0).mono ?_;rintro e w1 ⟨rfl,hf1⟩;simp only[Dl])
 have hg1:=hg0.fr_ hf1;obtain⟨ev,hev1,hev2⟩:=Tabs.ran w1 _ hg1
 go_wp2_with (go_at_call 140;refine(Any.strconv_Atoi_range Tryz.laysC172 s (by omega) hA ev _ hev1 hev2).mono ?_;rintro e w2 ⟨N,rfl,hN1,hN2,hw2⟩)
 have hf2:Fr (fun _=>False) w1 w2:=Cn hw2
 go_wp2
 refine⟨rfl,?_⟩;exact⟨rfl,Dk (hf1.trans hf2) (fun k q=>q.elim)⟩
set_option maxRecDepth 100000 in
set_option maxHeartbeats 4000000 in
theorem Rb[Glob][Tabs]{s t r:ByteArray}(hc:Oa s 59=some (t,r))(hA:Lib.atoiAll t.data.toList=Lib.atoiAll [])(hs:s.size≤1000000000000)(ht:t.size≤1000000000000)(w:World)(L:Nat→Prop)(b:Nat)(hg:Cc w L)(hb:w.heap[b]? =some (.cells #[.string s] prT (0,0))):
  Calls Tryz.prog 99 #[.pointer (some ⟨b,0,none⟩)] w fun e w'=>e=.panicked [{v:=D4,recovered:=false}]∧Fr (fun k=>k=b) w w':=by
 have hg0:=hg.none_;have c0:w.cell? ⟨b,0,none⟩=some (.string s):=by rw[Lib.cell_of_heap hb];rfl
 go_enter Tryz.func99,Tryz.ntmps99
 go_wp2_with (go_at_call 139;refine(Ix (xs:=[.string s,.string ⟨#[59]⟩]) (ys:=[.string t,.string r,.bool true]) (Rz hc hs) _ hg0).mono ?_;rintro e w1 ⟨rfl,hf1⟩;simp only[Dl])
 have hg1:=hg0.fr_ hf1;obtain⟨ev,hev1,hev2⟩:=Tabs.syn w1 _ hg1
 go_wp2_with (go_at_call 140;refine(Any.strconv_Atoi_syntax Tryz.laysC172 t (by omega) hA ev _ hev1 hev2).mono ?_;rintro e w2 ⟨N,rfl,hN1,hN2,hw2⟩)
 have hf2:Fr (fun _=>False) w1 w2:=Cn hw2
 go_wp2
 refine⟨rfl,?_⟩;exact⟨rfl,Dk (hf1.trans hf2) (fun k q=>q.elim)⟩
set_option maxRecDepth 100000 in
set_option maxHeartbeats 4000000 in
theorem Tg[Glob][Tabs]{s t r:ByteArray}(hc:Oa s 59=some (t,r))(hA:Lib.atoiAll t.data.toList=.range)(hs:s.size≤1000000000000)(ht:t.size≤1000000000000)(w:World)(L:Nat→Prop)(b:Nat)(hg:Cc w L)(hb:w.heap[b]? =some (.cells #[.string s] prT (0,0))):
  Calls Tryz.prog 99 #[.pointer (some ⟨b,0,none⟩)] w fun e w'=>e=.panicked [{v:=D4,recovered:=false}]∧Fr (fun k=>k=b) w w':=by
 have hg0:=hg.none_;have c0:w.cell? ⟨b,0,none⟩=some (.string s):=by rw[Lib.cell_of_heap hb];rfl
 go_enter Tryz.func99,Tryz.ntmps99
 go_wp2_with (go_at_call 139;refine(Ix (xs:=[.string s,.string ⟨#[59]⟩]) (ys:=[.string t,.string r,.bool true]) (Rz hc hs) _ hg0).mono ?_;rintro e w1 ⟨rfl,hf1⟩;simp only[Dl])
 have hg1:=hg0.fr_ hf1;obtain⟨ev,hev1,hev2⟩:=Tabs.ran w1 _ hg1
 go_wp2_with (go_at_call 140;refine(Any.strconv_Atoi_range Tryz.laysC172 t (by omega) hA ev _ hev1 hev2).mono ?_;rintro e w2 ⟨N,rfl,hN1,hN2,hw2⟩)
 have hf2:Fr (fun _=>False) w1 w2:=Cn hw2
 go_wp2
 refine⟨rfl,?_⟩;exact⟨rfl,Dk (hf1.trans hf2) (fun k q=>q.elim)⟩
set_option maxRecDepth 100000 in
set_option maxHeartbeats 4000000 in
theorem Y2[Glob][Tabs]{s t r:ByteArray}(hc:Oa s 59=some (t,r))(m:Int)(hA:Lib.atoiAll t.data.toList=.ok m)(hE:¬Lib.itoa m=t.data.toList)(hs:s.size≤1000000000000)(ht:t.size≤1000000000000)(w:World)(L:Nat→Prop)(b:Nat)(hg:Cc w L)(hb:w.heap[b]? =some (.cells #[.string s] prT (0,0))):
  Calls Tryz.prog 99 #[.pointer (some ⟨b,0,none⟩)] w fun e w'=>e=.panicked [{v:=D4,recovered:=false}]∧Fr (fun k=>k=b) w w':=by
 have hg0:=hg.none_;have c0:w.cell? ⟨b,0,none⟩=some (.string s):=by rw[Lib.cell_of_heap hb];rfl
 obtain⟨hI1,hI2⟩:=Lib.atoiAll_bounds hA;have hE2:(⟨(Lib.itoa m).toArray⟩:ByteArray)≠t:=fun q=>hE (by rw[←q])
 go_enter Tryz.func99,Tryz.ntmps99
 go_wp2_with (go_at_call 139;refine(Ix (xs:=[.string s,.string ⟨#[59]⟩]) (ys:=[.string t,.string r,.bool true]) (Rz hc hs) _ hg0).mono ?_;rintro e w1 ⟨rfl,hf1⟩;simp only[Dl])
 have hg1:=hg0.fr_ hf1
 go_wp2_with (go_at_call 140;refine(Any.strconv_Atoi_ok Tryz.laysC172 t (by omega) m hA _).mono ?_;rintro e w2 ⟨rfl,hw2⟩)
 have hf2:Fr (fun _=>False) w1 w2:=by
  rcases hw2 with rfl|⟨q,rfl⟩
  ·exact Fr.refl _ _
  ·have hb:=Lib.bytesWorld_below w1 (Tryz.laysC172_ren.t 5) q;exact Cn hb
 have hg2:=hg1.fr_ hf2;clear hw2
 go_wp2_with (go_at_call 141;refine(Ix (xs:=[.int .i64 m]) (ys:=[.string ⟨(Lib.itoa m).toArray⟩]) (Wq m hI1 hI2) _ hg2).mono ?_;rintro e w3 ⟨rfl,hf3⟩;simp only[Dl];have hE3:((Lib.itoa m)==t.toList)=false:=(by rw[Lib.toList_data];simpa using hE))
 go_wp2
 refine⟨rfl,?_⟩;exact⟨rfl,Dk ((hf1.trans hf2).trans hf3) (fun k q=>q.elim)⟩
theorem Bj[Glob][Tabs]{s:ByteArray}{y':Value}(h:Cr s=none)(hs:s.size≤1000000000000):Ij Tryz.prog 99 [.mn prT [.c (.v (.string s))] [.c (.v y')]] D4:=by
 refine Afv (Df Tryz.func99 (by kernel_rfl) (by kernel_rfl)) fun w L b hg hb=>?_;unfold Cr at h;rcases hc:Oa s 59 with _|⟨t,r⟩
 ·rcases hA:Lib.atoiAll s.data.toList with m|_|_
  ·exact X0 hc m hA hs w L b hg hb
  ·exact Qt hc hA hs w L b hg hb
  ·exact Rl hc hA hs w L b hg hb
 ·rw[hc,ZA,Option.map_eq_none_iff]at h;have ht:t.size≤1000000000000:=by
   unfold Oa at hc;split at hc
   ·cases hc
   ·injection hc with hc;injection hc with hc _
    subst hc;rw[ByteArray.size_extract];omega
  unfold Ag0 at h;simp only at h;rcases hA:Lib.atoiAll t.data.toList with m|_|_
  ·rw[hA]at h;simp only at h;split at h
   ·cases h
   ·rename_i hE;exact Y2 hc m hA hE hs ht w L b hg hb
  ·exact Rb hc hA hs ht w L b hg hb
  ·exact Tg hc hA hs ht w L b hg hb
theorem B6[Glob]{s:ByteArray}{p:Int×ByteArray}(h:Cr s=some p):p.2.size≤s.size:=by
 obtain⟨_,h⟩:=Hn h;have h1:s.data.toList.length=s.size:=Array.length_toList;have h2:p.2.data.toList.length=p.2.size:=Array.length_toList;rw[h,ZF]at h1;omega
theorem Eu[Glob][Tabs]{s t r:ByteArray}(h:G6 s=some (t,r))(hs:s.size≤1000000000000):Gl Tryz.prog 95 [.mn prT [.c (.v (.string s))] [.c (.v (.string r))]] [.p (.c (.v (.string t)))]:=by
 unfold G6 at h;rcases e:Cr s with _|⟨n,r1⟩
 ·rw[e]at h;cases h
 rw[e,ZA]at h;simp only at h;split at h
 ·cases h
 rename_i hc;have hz:=B6 e;simp only at hz;obtain⟨k,rfl⟩:=Int.eq_ofNat_of_zero_le (show 0≤n by omega);have hk:k≤r1.size:=by omega
 rw[Int.toNat_natCast]at h;injection h with h
 injection h with h1 h2;subst h1 h2;refine On G8 rfl rfl (Qk rfl) ?_;(refine goI ?_;repeat (intro gg;refine goI ?_));(refine .inr (.inl ⟨_,_,false,0::([]++[]),?_,Ba e hs,Af,oI,dI,?_⟩);focus (exact wI));(refine goI ?_;repeat (intro gg;refine goI ?_));(refine T6 ?_ ?_;focus (exact ZY (by omega)));(refine goI ?_;repeat (intro gg;refine goI ?_));refine⟨0,k,rfl,⟨_,rfl⟩,by omega,by omega,?_⟩;(refine goI ?_;repeat (intro gg;refine goI ?_));refine⟨k,r1.size,⟨_,rfl⟩,rfl,by omega,ZT _,?_⟩;(refine goI ?_;repeat (intro gg;refine goI ?_));(exact⟨0::([]++[]),Ci (by first|exact Cw rfl|assumption) (Er (gone:=[]) (gone1:=[]) rfl aI (by decide) (by decide) (by decide) (.nil _))⟩)
theorem Gr[Glob][Tabs]{s:ByteArray}{y':Value}(h:G6 s=none)(hs:s.size≤1000000000000):Ij Tryz.prog 95 [.mn prT [.c (.v (.string s))] [.c (.v y')]] D4:=by
 unfold G6 at h;refine Acj G8 rfl (Qk rfl) ?_;(refine goI ?_;repeat (intro gg;refine goI ?_));rcases e:Cr s with _|⟨n,r1⟩
 ·(refine .inr (.inr (.inl ⟨_,false,0::([]++[]),_,?_,Bj (y':=.nilIface) e hs,rfl⟩));focus (exact wI))
 ·rw[e,ZA]at h;simp only at h;split at h;rotate_left
  ·cases h
  rename_i hc;(refine .inr (.inl ⟨_,_,false,0::([]++[]),?_,Ba e hs,Af,oI,dI,?_⟩);focus (exact wI));(refine goI ?_;repeat (intro gg;refine goI ?_));by_cases hn:n<0
  ·rw[ZX hn];(refine goI ?_;repeat (intro gg;refine goI ?_));rfl
  ·rw[ZY hn];(refine goI ?_;repeat (intro gg;refine goI ?_));rw[ZX (show(r1.size:Int)<n by omega)];(refine goI ?_;repeat (intro gg;refine goI ?_));rfl
theorem Mv[Glob][Tabs]{s r:ByteArray}{b:Bool}(h:L7 s=some (b,r))(hs:s.size≤1000000000000):Gl Tryz.prog 96 [.mn prT [.c (.v (.string s))] [.c (.v (.string r))]] [.p (.c (.v (.bool b)))]:=by
 unfold L7 at h;rcases e:Cr s with _|⟨n,r1⟩
 ·rw[e]at h;cases h
 rw[e,ZA]at h;simp only at h;split at h
 ·cases h
 rename_i hc;injection h with h
 injection h with h1 h2;subst h2;refine On Ia rfl rfl (Qk rfl) ?_;(refine goI ?_;repeat (intro gg;refine goI ?_));rcases(show n=0∨n=1 by omega)with rfl|rfl
 ·obtain rfl:b=false:=h1.symm;(refine .inr (.inl ⟨_,_,false,0::([]++[]),?_,Ba e hs,Af,oI,dI,?_⟩);focus (exact wI));(refine goI ?_;repeat (intro gg;refine goI ?_));(exact⟨0::([]++[]),Ci (by first|exact Cw rfl|assumption) (Er (gone:=[]) (gone1:=[]) rfl aI (by decide) (by decide) (by decide) (.nil _))⟩)
 ·obtain rfl:b=true:=h1.symm;(refine .inr (.inl ⟨_,_,false,0::([]++[]),?_,Ba e hs,Af,oI,dI,?_⟩);focus (exact wI));(refine goI ?_;repeat (intro gg;refine goI ?_));(exact⟨0::([]++[]),Ci (by first|exact Cw rfl|assumption) (Er (gone:=[]) (gone1:=[]) rfl aI (by decide) (by decide) (by decide) (.nil _))⟩)
theorem Lz[Glob][Tabs]{s:ByteArray}{y':Value}(h:L7 s=none)(hs:s.size≤1000000000000):Ij Tryz.prog 96 [.mn prT [.c (.v (.string s))] [.c (.v y')]] D4:=by
 unfold L7 at h;refine Acj Ia rfl (Qk rfl) ?_;(refine goI ?_;repeat (intro gg;refine goI ?_));rcases e:Cr s with _|⟨n,r1⟩
 ·(refine .inr (.inr (.inl ⟨_,false,0::([]++[]),_,?_,Bj (y':=.nilIface) e hs,rfl⟩));focus (exact wI))
 ·rw[e,ZA]at h;simp only at h;split at h;rotate_left
  ·cases h
  rename_i hc;(refine .inr (.inl ⟨_,_,false,0::([]++[]),?_,Ba e hs,Af,oI,dI,?_⟩);focus (exact wI));(refine goI ?_;repeat (intro gg;refine goI ?_));by_cases hn:n<0
  ·rw[ZX hn];(refine goI ?_;repeat (intro gg;refine goI ?_));rfl
  ·rw[ZY hn];(refine goI ?_;repeat (intro gg;refine goI ?_));rw[ZX (show(1:Int)<n by omega)];(refine goI ?_;repeat (intro gg;refine goI ?_));rfl
theorem Gg[Glob]{s:ByteArray}{p:ByteArray×ByteArray}(h:G6 s=some p):p.2.size≤s.size:=by
 obtain⟨_,h⟩:=M1.some _ _ h;have h1:s.data.toList.length=s.size:=Array.length_toList;have h2:p.2.data.toList.length=p.2.size:=Array.length_toList;rw[h,ZF]at h1;omega
theorem Pm[Glob]{s:ByteArray}{p:Bool×ByteArray}(h:L7 s=some p):p.2.size≤s.size:=by
 obtain⟨_,h⟩:=Yg.some _ _ h;have h1:s.data.toList.length=s.size:=Array.length_toList;have h2:p.2.data.toList.length=p.2.size:=Array.length_toList;rw[h,ZF]at h1;omega
theorem Aw[Glob]{T:List Nat}{H:Hp}:H8 T H H:=fun _ _ _ h=>h
theorem A5[Glob]{T:List Nat}{H0 H:Hp}{k:Nat}{x:Option Ent}(h:T.contains k=true)(hk:H8 T H0 H):H8 T H0 (upd H k x):=fun id e h1 h2=>by
 rw[Ap _ _ (fun q=>by rw[q,h]at h1;cases h1)];exact hk id e h1 h2
namespace Pl
def kWh(fr:ByteArray)(wo:Bool)(ms:List Mb)(sv:List Sv)(gs:List Gw)(f:List Wh×ByteArray):Option (Pk×ByteArray):=some (⟨fr,wo,ms,sv,gs,f.1⟩,f.2)
def kGs(fr:ByteArray)(wo:Bool)(ms:List Mb)(sv:List Sv)(e:List Gw×ByteArray):Option (Pk×ByteArray):=(Fj 20 whR e.2).bind (kWh fr wo ms sv e.1)
def kSv(fr:ByteArray)(wo:Bool)(ms:List Mb)(d:List Sv×ByteArray):Option (Pk×ByteArray):=(Fj 6 gwR d.2).bind (kGs fr wo ms d.1)
def kMs(fr:ByteArray)(wo:Bool)(c:List Mb×ByteArray):Option (Pk×ByteArray):=(Fj 40 svR c.2).bind (kSv fr wo c.1)
end Pl
def As9:Ae:=Ei [true,false] Dy
set_option maxHeartbeats 20000000 in
theorem Um[Glob][Tabs]{s:ByteArray}{y':Value}(hs:s.size≤1000000000000)(D:Value→Prop)(K:Ex→Env→Hp→Prop)(hd:pkR s=none→D D4)(hk:∀p r env H,pkR s=some (p,r)→Aa0 [(2,some (true,6))] [.mn prT [.c (.v (.string s))] [.c (.v (.string r))]] [.p (.c (.agg p.row))] .ret env H→K .ret env H):
  wpx Tryz.prog D As9 K (atV (Gm 0 [.mn prT [.c (.v (.string s))] [.c (.v y')]])) (Bx noH (Qf 0 [.mn prT [.c (.v (.string s))] [.c (.v y')]])):=by
 have hP:pkR s=(G6 s).bind fun a=>(L7 a.2).bind fun b=>(Fj 20 mbR b.2).bind (kMs a.1 b.1):=rfl;(refine goI ?_;repeat (intro gg;refine goI ?_));revert gg;rename_i g1;intro g2;rcases e1:G6 s with _|⟨fr,s1⟩
 ·refine⟨PEmpty,[],fun _=>[],[],fun _=>[],?_,fun x=>x.elim⟩;have hD:=hd (by rw[hP,e1];rfl);refine⟨[0,48],?_⟩;(refine goI ?_;repeat (intro gg;refine goI ?_));refine⟨?_,?_⟩
  ·(refine goI ?_;repeat (intro gg;refine goI ?_));refine⟨(by repeat (first|exact Aw|refine keepT_drops rfl ?_|refine A5 rfl ?_)),?_⟩;(refine goI ?_;repeat (intro gg;refine goI ?_));(refine .inr (.inr (.inl ⟨_,false,0::([]++[]),_,?_,Gr (y':=.nilIface) e1 hs,hD⟩));focus (exact wI))
  ·(refine goI ?_;repeat (intro gg;refine goI ?_));(refine .inr (.inr (.inl ⟨_,false,0::([]++[]),_,?_,Gr (y':=.nilIface) e1 hs,hD⟩));focus (exact wI))
 have z1:=Gg e1;simp only at z1;rw[e1,ZA]at hP;simp only at hP;rcases e2:L7 s1 with _|⟨wo,s2⟩
 ·refine⟨PEmpty,[],fun _=>[],[],fun _=>[],?_,fun x=>x.elim⟩;have hD:=hd (by rw[hP,e2];rfl);refine⟨[0,48],?_⟩;(refine goI ?_;repeat (intro gg;refine goI ?_));refine⟨?_,?_⟩
  ·(refine goI ?_;repeat (intro gg;refine goI ?_));refine⟨(by repeat (first|exact Aw|refine keepT_drops rfl ?_|refine A5 rfl ?_)),?_⟩;(refine goI ?_;repeat (intro gg;refine goI ?_));(refine .inr (.inl ⟨_,_,false,0::([]++[]),?_,Eu e1 hs,Af,oI,dI,?_⟩);focus (exact wI));(refine goI ?_;repeat (intro gg;refine goI ?_));refine⟨(by repeat (first|exact Aw|refine keepT_drops rfl ?_|refine A5 rfl ?_)),?_⟩;(refine goI ?_;repeat (intro gg;refine goI ?_));(refine .inr (.inr (.inl ⟨_,false,0::([]++[]),_,?_,Lz (y':=.nilIface) e2 (by omega),hD⟩));focus (exact wI))
  ·(refine goI ?_;repeat (intro gg;refine goI ?_));(refine .inr (.inl ⟨_,_,false,0::([]++[]),?_,Eu e1 hs,Af,oI,dI,?_⟩);focus (exact wI));(refine goI ?_;repeat (intro gg;refine goI ?_));refine⟨(by repeat (first|exact Aw|refine keepT_drops rfl ?_|refine A5 rfl ?_)),?_⟩;(refine goI ?_;repeat (intro gg;refine goI ?_));refine⟨?_,?_⟩
   ·(refine goI ?_;repeat (intro gg;refine goI ?_));refine⟨(by repeat (first|exact Aw|refine keepT_drops rfl ?_|refine A5 rfl ?_)),?_⟩;(refine goI ?_;repeat (intro gg;refine goI ?_));(refine .inr (.inr (.inl ⟨_,false,0::([]++[]),_,?_,Lz (y':=.nilIface) e2 (by omega),hD⟩));focus (exact wI))
   ·(refine goI ?_;repeat (intro gg;refine goI ?_));(refine .inr (.inr (.inl ⟨_,false,0::([]++[]),_,?_,Lz (y':=.nilIface) e2 (by omega),hD⟩));focus (exact wI))
 have z2:=Pm e2;simp only at z2;rw[e2,ZA]at hP;simp only at hP;refine⟨Nat,[1,2],fun x=>[(3,.ptr 48 x 0 0)],[16,32],fun x=>[(0,⟨0,.b prT,1,[[.v (.string s2)]]⟩),(48,⟨x,.b 59,6,[[.v (.string fr),.v (.bool wo),.v (.slice none 0 0),.v (.slice none 0 0),.v (.slice none 0 0),.v (.slice none 0 0)]]⟩)],?_,fun gp=>?_⟩
 ·refine⟨[0,48],?_⟩;(refine goI ?_;repeat (intro gg;refine goI ?_));refine⟨?_,?_⟩
  ·(refine goI ?_;repeat (intro gg;refine goI ?_));revert gg;intro gp;refine⟨(by repeat (first|exact Aw|refine keepT_drops rfl ?_|refine A5 rfl ?_)),?_⟩;(refine goI ?_;repeat (intro gg;refine goI ?_));(refine .inr (.inl ⟨_,_,false,0::([]++[]),?_,Eu e1 hs,Af,oI,dI,?_⟩);focus (exact wI));(refine goI ?_;repeat (intro gg;refine goI ?_));refine⟨(by repeat (first|exact Aw|refine keepT_drops rfl ?_|refine A5 rfl ?_)),?_⟩;(refine goI ?_;repeat (intro gg;refine goI ?_));(refine .inr (.inl ⟨_,_,false,0::([]++[]),?_,Mv e2 (by omega),Af,oI,dI,?_⟩);focus (exact wI));(refine goI ?_;repeat (intro gg;refine goI ?_));refine⟨(by repeat (first|exact Aw|refine keepT_drops rfl ?_|refine A5 rfl ?_)),?_⟩;(refine goI ?_;repeat (intro gg;refine goI ?_));refine⟨(by repeat (first|exact Aw|refine keepT_drops rfl ?_|refine A5 rfl ?_)),?_⟩;(refine goI ?_;repeat (intro gg;refine goI ?_));(exact⟨gp,tI,tI,tI,tI⟩)
  ·(refine goI ?_;repeat (intro gg;refine goI ?_));(refine .inr (.inl ⟨_,_,false,0::([]++[]),?_,Eu e1 hs,Af,oI,dI,?_⟩);focus (exact wI));(refine goI ?_;repeat (intro gg;refine goI ?_));refine⟨(by repeat (first|exact Aw|refine keepT_drops rfl ?_|refine A5 rfl ?_)),?_⟩;(refine goI ?_;repeat (intro gg;refine goI ?_));refine⟨?_,?_⟩
   ·(refine goI ?_;repeat (intro gg;refine goI ?_));revert gg;intro gp;refine⟨(by repeat (first|exact Aw|refine keepT_drops rfl ?_|refine A5 rfl ?_)),?_⟩;(refine goI ?_;repeat (intro gg;refine goI ?_));(refine .inr (.inl ⟨_,_,false,0::([]++[]),?_,Mv e2 (by omega),Af,oI,dI,?_⟩);focus (exact wI));(refine goI ?_;repeat (intro gg;refine goI ?_));refine⟨(by repeat (first|exact Aw|refine keepT_drops rfl ?_|refine A5 rfl ?_)),?_⟩;(refine goI ?_;repeat (intro gg;refine goI ?_));refine⟨(by repeat (first|exact Aw|refine keepT_drops rfl ?_|refine A5 rfl ?_)),?_⟩;(refine goI ?_;repeat (intro gg;refine goI ?_));(exact⟨gp,tI,tI,tI,tI⟩)
   ·(refine goI ?_;repeat (intro gg;refine goI ?_));(refine .inr (.inl ⟨_,_,false,0::([]++[]),?_,Mv e2 (by omega),Af,oI,dI,?_⟩);focus (exact wI));(refine goI ?_;repeat (intro gg;refine goI ?_));refine⟨(by repeat (first|exact Aw|refine keepT_drops rfl ?_|refine A5 rfl ?_)),?_⟩;(refine goI ?_;repeat (intro gg;refine goI ?_));refine⟨?_,?_⟩
    ·(refine goI ?_;repeat (intro gg;refine goI ?_));revert gg;intro gp;refine⟨(by repeat (first|exact Aw|refine keepT_drops rfl ?_|refine A5 rfl ?_)),?_⟩;(refine goI ?_;repeat (intro gg;refine goI ?_));refine⟨(by repeat (first|exact Aw|refine keepT_drops rfl ?_|refine A5 rfl ?_)),?_⟩;(refine goI ?_;repeat (intro gg;refine goI ?_));(exact⟨gp,tI,tI,tI,tI⟩)
    ·(refine goI ?_;repeat (intro gg;refine goI ?_));refine⟨(by repeat (first|exact Aw|refine keepT_drops rfl ?_|refine A5 rfl ?_)),?_⟩;(refine goI ?_;repeat (intro gg;refine goI ?_));revert gg;intro gp;refine⟨(by repeat (first|exact Aw|refine keepT_drops rfl ?_|refine A5 rfl ?_)),?_⟩;(refine goI ?_;repeat (intro gg;refine goI ?_));(exact⟨gp,tI,tI,tI,tI⟩)
 ·
  (refine goI ?_;repeat (intro gg;refine goI ?_));refine .inr (.inr (.inr (Im 1000 Kd rfl ?_)));(refine goI ?_;repeat (intro gg;refine goI ?_));rcases ems:Cr s2 with _|⟨n,ums⟩
  ·(refine .inr (.inr (.inl ⟨_,false,0::([]++[]),_,?_,Bj (y':=.nilIface) ems (by omega),hd (by rw[hP];unfold Fj I8;rw[ems];rfl)⟩));focus (exact wI))
  have zms:=B6 ems;simp only at zms;by_cases hn:n<0
  ·(refine .inr (.inl ⟨_,_,false,0::([]++[]),?_,Ba ems (by omega),Af,oI,dI,?_⟩);focus (exact wI));(refine goI ?_;repeat (intro gg;refine goI ?_));rw[ZX hn];(refine goI ?_;repeat (intro gg;refine goI ?_));exact hd (by rw[hP];unfold Fj I8;rw[ems,ZA];simp only;rw[if_pos (.inl hn)];rfl)
  obtain⟨Nms,rfl⟩:=Int.eq_ofNat_of_zero_le (show 0≤n by omega);(refine .inr (.inl ⟨_,_,false,0::([]++[]),?_,Ba ems (by omega),Af,oI,dI,?_⟩);focus (exact wI));(refine goI ?_;repeat (intro gg;refine goI ?_));by_cases hm:(20:Int)<(Nms:Int)
  ·rw[ZX hm];(refine goI ?_;repeat (intro gg;refine goI ?_));exact hd (by rw[hP];unfold Fj I8;rw[ems,ZA];simp only;rw[if_pos (.inr hm)];rfl)
  rw[ZY hm];have hPms:pkR s=(Fb mbR Nms ums).bind (kMs fr wo):=by
   rw[hP];unfold Fj I8;rw[ems,ZA];simp only;rw[if_neg (by omega),ZA,Int.toNat_natCast]
  (refine goI ?_;repeat (intro gg;refine goI ?_));(refine⟨[(8,900000,47,5)],none,{q:List Mb×ByteArray×Nat×Nat//(q.1.length=q.2.2.2∧q.2.2.2≤Nms)∧q.2.1.size≤1000000000000∧pkR s=(Fb mbR (Nms-q.1.length) q.2.1).bind (fun r=>kMs fr wo (q.1++r.1,r.2))},[0,1,2,20],fun⟨⟨lms,tms,gms,k⟩,hl,ht,hq⟩=>[(8,.own 900000 gms),(21,.v (.int .i64 (k:Int)))],[16,32,48],fun⟨⟨lms,tms,gms,k⟩,hl,ht,hq⟩=>[(0,⟨0,.b prT,1,[[.v (.string tms)]]⟩),(900000,⟨gms,.t 47,5,lms.map Mb.row⟩)],fun⟨⟨lms,tms,gms,k⟩,hl,ht,hq⟩=>Nms-k,(by exact⟨rfl,by decide,(fun _ _ _ _ h=>by cases h),trivial⟩),fun gs=>⟨trivial,fun _=>⟨⟨([],ums,gs 900000,0),⟨rfl,ZU _⟩,by show ums.size≤_;omega,by rw[hPms];simp⟩,tI,tI,tI,tI⟩⟩,fun⟨⟨lms,tms,gms,k⟩,hl,ht,hq⟩=>?_⟩);have hl:lms.length=k∧k≤Nms:=hl;obtain⟨hl1,hl2⟩:=hl;have htms:tms.size≤1000000000000:=ht;have hq:pkR s=(Fb mbR (Nms-lms.length) tms).bind (fun r=>kMs fr wo (lms++r.1,r.2)):=hq;(refine goI ?_;repeat (intro gg;refine goI ?_));(refine Ab (fun cms=>?_) (fun cms=>?_)<;>rw[cms])
  ·have hlt:k<Nms:=(by have:=ZV cms;omega);obtain⟨j,hj⟩:∃j,Nms-lms.length=j+1:=⟨Nms-lms.length-1,by omega⟩;rw[hj]at hq;have hq:pkR s=((mbR tms).bind fun p=>(Fb mbR j p.2).bind fun q=>some (p.1::q.1,q.2)).bind (fun r=>kMs fr wo (lms++r.1,r.2)):=hq;(refine goI ?_;repeat (intro gg;refine goI ?_));refine .inr (.inr (.inr (Vs 2000 Ka rfl ?_)));(refine goI ?_;repeat (intro gg;refine goI ?_));refine⟨[0],?_⟩;(refine goI ?_;repeat (intro gg;refine goI ?_));obtain⟨F,hF⟩:∃F,F=Fb mbR:=⟨_,rfl⟩;rw[←hF]at hq;unfold mbR at hq;rcases f0:G6 tms with _|⟨x0,v0⟩
   ·(refine .inr (.inr (.inl ⟨_,false,0::([]++[]),_,?_,Gr (y':=.nilIface) f0 (by omega),hd (by rw[hq,f0];rfl)⟩));focus (exact wI))
   have y0:=Gg f0;simp only at y0;rw[f0,ZA]at hq;simp only at hq;(refine .inr (.inl ⟨_,_,false,0::([]++[]),?_,Eu f0 (by omega),Af,oI,dI,?_⟩);focus (exact wI));(refine goI ?_;repeat (intro gg;refine goI ?_));refine⟨(by repeat (first|exact Aw|refine keepT_drops rfl ?_|refine A5 rfl ?_)),?_⟩;(refine goI ?_;repeat (intro gg;refine goI ?_));rcases f1:Cr v0 with _|⟨x1,v1⟩
   ·(refine .inr (.inr (.inl ⟨_,false,0::([]++[]),_,?_,Bj (y':=.nilIface) f1 (by omega),hd (by rw[hq,f1];rfl)⟩));focus (exact wI))
   have y1:=B6 f1;simp only at y1;rw[f1,ZA]at hq;simp only at hq;(refine .inr (.inl ⟨_,_,false,0::([]++[]),?_,Ba f1 (by omega),Af,oI,dI,?_⟩);focus (exact wI));(refine goI ?_;repeat (intro gg;refine goI ?_));refine⟨(by repeat (first|exact Aw|refine keepT_drops rfl ?_|refine A5 rfl ?_)),?_⟩;(refine goI ?_;repeat (intro gg;refine goI ?_));rcases f2:Cr v1 with _|⟨x2,v2⟩
   ·(refine .inr (.inr (.inl ⟨_,false,0::([]++[]),_,?_,Bj (y':=.nilIface) f2 (by omega),hd (by rw[hq,f2];rfl)⟩));focus (exact wI))
   have y2:=B6 f2;simp only at y2;rw[f2,ZA]at hq;simp only at hq;(refine .inr (.inl ⟨_,_,false,0::([]++[]),?_,Ba f2 (by omega),Af,oI,dI,?_⟩);focus (exact wI));(refine goI ?_;repeat (intro gg;refine goI ?_));refine⟨(by repeat (first|exact Aw|refine keepT_drops rfl ?_|refine A5 rfl ?_)),?_⟩;(refine goI ?_;repeat (intro gg;refine goI ?_));rcases f3:Cr v2 with _|⟨x3,v3⟩
   ·(refine .inr (.inr (.inl ⟨_,false,0::([]++[]),_,?_,Bj (y':=.nilIface) f3 (by omega),hd (by rw[hq,f3];rfl)⟩));focus (exact wI))
   have y3:=B6 f3;simp only at y3;rw[f3,ZA]at hq;simp only at hq;(refine .inr (.inl ⟨_,_,false,0::([]++[]),?_,Ba f3 (by omega),Af,oI,dI,?_⟩);focus (exact wI));(refine goI ?_;repeat (intro gg;refine goI ?_));refine⟨(by repeat (first|exact Aw|refine keepT_drops rfl ?_|refine A5 rfl ?_)),?_⟩;(refine goI ?_;repeat (intro gg;refine goI ?_));rcases f4:L7 v3 with _|⟨x4,v4⟩
   ·(refine .inr (.inr (.inl ⟨_,false,0::([]++[]),_,?_,Lz (y':=.nilIface) f4 (by omega),hd (by rw[hq,f4];rfl)⟩));focus (exact wI))
   have y4:=Pm f4;simp only at y4;rw[f4,ZA]at hq;simp only at hq;(refine .inr (.inl ⟨_,_,false,0::([]++[]),?_,Mv f4 (by omega),Af,oI,dI,?_⟩);focus (exact wI));(refine goI ?_;repeat (intro gg;refine goI ?_));obtain⟨m,hm0⟩:∃m:Mb,m=⟨x0,x1,x2,x3,x4⟩:=⟨_,rfl⟩;have hl3:(lms++[m]).length=k+1:=by simp[hl1]
   have hq2:pkR s=(Fb mbR (Nms-(lms++[m]).length) v4).bind (fun r=>kMs fr wo ((lms++[m])++r.1,r.2)):=by
    rw[hl3,show Nms-(k+1)=j by omega,←hF,hq,hm0];simp only[ZA];rcases F j v4 with _|⟨a,b⟩
    ·rfl
    ·simp only[ZA,ZS,List.cons_append,List.nil_append]
   have hsz:v4.size≤1000000000000:=by omega
   refine⟨lI,lI,?_⟩;(refine goI ?_;repeat (intro gg;refine goI ?_));(exact⟨none,trivial,fun gr=>⟨⟨(lms++[m],v4,gg,k+1),⟨hl3,by show k+1≤Nms;omega⟩,hsz,hq2⟩,by show Nms-(k+1)<Nms-k;omega,tI,tI,⟨rfl,⟨congrArg (fun r=>some (Ent.mk gg (.t 47) 5 r)) (by rw[ZI,hm0];rfl),trivial⟩⟩,tI⟩⟩)
  ·have hge:=(by have:=ZW cms;omega);obtain rfl:k=Nms:=by omega
   have hP:pkR s=(Fj 40 svR tms).bind (kSv fr wo lms):=by
    rw[hq,hl1,Nat.sub_self];show(some (([]:List Mb),tms)).bind _=_;rw[ZA,List.append_nil];rfl
   (refine goI ?_;repeat (intro gg;refine goI ?_));refine .inr (.inr (.inr (Im 3000 Jn rfl ?_)));(refine goI ?_;repeat (intro gg;refine goI ?_));rcases esv:Cr tms with _|⟨n,usv⟩
   ·(refine .inr (.inr (.inl ⟨_,false,0::([]++[]),_,?_,Bj (y':=.nilIface) esv (by omega),hd (by rw[hP];unfold Fj I8;rw[esv];rfl)⟩));focus (exact wI))
   have zsv:=B6 esv;simp only at zsv;by_cases hn:n<0
   ·(refine .inr (.inl ⟨_,_,false,0::([]++[]),?_,Ba esv (by omega),Af,oI,dI,?_⟩);focus (exact wI));(refine goI ?_;repeat (intro gg;refine goI ?_));rw[ZX hn];(refine goI ?_;repeat (intro gg;refine goI ?_));exact hd (by rw[hP];unfold Fj I8;rw[esv,ZA];simp only;rw[if_pos (.inl hn)];rfl)
   obtain⟨Nsv,rfl⟩:=Int.eq_ofNat_of_zero_le (show 0≤n by omega);(refine .inr (.inl ⟨_,_,false,0::([]++[]),?_,Ba esv (by omega),Af,oI,dI,?_⟩);focus (exact wI));(refine goI ?_;repeat (intro gg;refine goI ?_));by_cases hm:(40:Int)<(Nsv:Int)
   ·rw[ZX hm];(refine goI ?_;repeat (intro gg;refine goI ?_));exact hd (by rw[hP];unfold Fj I8;rw[esv,ZA];simp only;rw[if_pos (.inr hm)];rfl)
   rw[ZY hm];have hPsv:pkR s=(Fb svR Nsv usv).bind (kSv fr wo lms):=by
    rw[hP];unfold Fj I8;rw[esv,ZA];simp only;rw[if_neg (by omega),ZA,Int.toNat_natCast]
   (refine goI ?_;repeat (intro gg;refine goI ?_));(refine⟨[(8,900016,50,9)],none,{q:List Sv×ByteArray×Nat×Nat//(q.1.length=q.2.2.2∧q.2.2.2≤Nsv)∧q.2.1.size≤1000000000000∧pkR s=(Fb svR (Nsv-q.1.length) q.2.1).bind (fun r=>kSv fr wo lms (q.1++r.1,r.2))},[0,1,2,20],fun⟨⟨lsv,tsv,gsv,k⟩,hl,ht,hq⟩=>[(8,.own 900016 gsv),(21,.v (.int .i64 (k:Int)))],[16,32,48,900000],fun⟨⟨lsv,tsv,gsv,k⟩,hl,ht,hq⟩=>[(0,⟨0,.b prT,1,[[.v (.string tsv)]]⟩),(900016,⟨gsv,.t 50,9,lsv.map Sv.row⟩)],fun⟨⟨lsv,tsv,gsv,k⟩,hl,ht,hq⟩=>Nsv-k,(by exact⟨rfl,by decide,(fun _ _ _ _ h=>by cases h),trivial⟩),fun gs=>⟨trivial,fun _=>⟨⟨([],usv,gs 900016,0),⟨rfl,ZU _⟩,by show usv.size≤_;omega,by rw[hPsv];simp⟩,tI,tI,tI,tI⟩⟩,fun⟨⟨lsv,tsv,gsv,k⟩,hl,ht,hq⟩=>?_⟩);have hl:lsv.length=k∧k≤Nsv:=hl;obtain⟨hl1,hl2⟩:=hl;have htsv:tsv.size≤1000000000000:=ht;have hq:pkR s=(Fb svR (Nsv-lsv.length) tsv).bind (fun r=>kSv fr wo lms (lsv++r.1,r.2)):=hq;(refine goI ?_;repeat (intro gg;refine goI ?_));(refine Ab (fun csv=>?_) (fun csv=>?_)<;>rw[csv])
   ·have hlt:k<Nsv:=(by have:=ZV csv;omega);obtain⟨j,hj⟩:∃j,Nsv-lsv.length=j+1:=⟨Nsv-lsv.length-1,by omega⟩;rw[hj]at hq;have hq:pkR s=((svR tsv).bind fun p=>(Fb svR j p.2).bind fun q=>some (p.1::q.1,q.2)).bind (fun r=>kSv fr wo lms (lsv++r.1,r.2)):=hq;(refine goI ?_;repeat (intro gg;refine goI ?_));refine .inr (.inr (.inr (Vs 4000 Kh rfl ?_)));(refine goI ?_;repeat (intro gg;refine goI ?_));refine⟨[0],?_⟩;(refine goI ?_;repeat (intro gg;refine goI ?_));obtain⟨F,hF⟩:∃F,F=Fb svR:=⟨_,rfl⟩;rw[←hF]at hq;unfold svR at hq;rcases f0:G6 tsv with _|⟨x0,v0⟩
    ·(refine .inr (.inr (.inl ⟨_,false,0::([]++[]),_,?_,Gr (y':=.nilIface) f0 (by omega),hd (by rw[hq,f0];rfl)⟩));focus (exact wI))
    have y0:=Gg f0;simp only at y0;rw[f0,ZA]at hq;simp only at hq;(refine .inr (.inl ⟨_,_,false,0::([]++[]),?_,Eu f0 (by omega),Af,oI,dI,?_⟩);focus (exact wI));(refine goI ?_;repeat (intro gg;refine goI ?_));refine⟨(by repeat (first|exact Aw|refine keepT_drops rfl ?_|refine A5 rfl ?_)),?_⟩;(refine goI ?_;repeat (intro gg;refine goI ?_));rcases f1:G6 v0 with _|⟨x1,v1⟩
    ·(refine .inr (.inr (.inl ⟨_,false,0::([]++[]),_,?_,Gr (y':=.nilIface) f1 (by omega),hd (by rw[hq,f1];rfl)⟩));focus (exact wI))
    have y1:=Gg f1;simp only at y1;rw[f1,ZA]at hq;simp only at hq;(refine .inr (.inl ⟨_,_,false,0::([]++[]),?_,Eu f1 (by omega),Af,oI,dI,?_⟩);focus (exact wI));(refine goI ?_;repeat (intro gg;refine goI ?_));refine⟨(by repeat (first|exact Aw|refine keepT_drops rfl ?_|refine A5 rfl ?_)),?_⟩;(refine goI ?_;repeat (intro gg;refine goI ?_));rcases f2:G6 v1 with _|⟨x2,v2⟩
    ·(refine .inr (.inr (.inl ⟨_,false,0::([]++[]),_,?_,Gr (y':=.nilIface) f2 (by omega),hd (by rw[hq,f2];rfl)⟩));focus (exact wI))
    have y2:=Gg f2;simp only at y2;rw[f2,ZA]at hq;simp only at hq;(refine .inr (.inl ⟨_,_,false,0::([]++[]),?_,Eu f2 (by omega),Af,oI,dI,?_⟩);focus (exact wI));(refine goI ?_;repeat (intro gg;refine goI ?_));refine⟨(by repeat (first|exact Aw|refine keepT_drops rfl ?_|refine A5 rfl ?_)),?_⟩;(refine goI ?_;repeat (intro gg;refine goI ?_));rcases f3:G6 v2 with _|⟨x3,v3⟩
    ·(refine .inr (.inr (.inl ⟨_,false,0::([]++[]),_,?_,Gr (y':=.nilIface) f3 (by omega),hd (by rw[hq,f3];rfl)⟩));focus (exact wI))
    have y3:=Gg f3;simp only at y3;rw[f3,ZA]at hq;simp only at hq;(refine .inr (.inl ⟨_,_,false,0::([]++[]),?_,Eu f3 (by omega),Af,oI,dI,?_⟩);focus (exact wI));(refine goI ?_;repeat (intro gg;refine goI ?_));refine⟨(by repeat (first|exact Aw|refine keepT_drops rfl ?_|refine A5 rfl ?_)),?_⟩;(refine goI ?_;repeat (intro gg;refine goI ?_));rcases f4:Cr v3 with _|⟨x4,v4⟩
    ·(refine .inr (.inr (.inl ⟨_,false,0::([]++[]),_,?_,Bj (y':=.nilIface) f4 (by omega),hd (by rw[hq,f4];rfl)⟩));focus (exact wI))
    have y4:=B6 f4;simp only at y4;rw[f4,ZA]at hq;simp only at hq;(refine .inr (.inl ⟨_,_,false,0::([]++[]),?_,Ba f4 (by omega),Af,oI,dI,?_⟩);focus (exact wI));(refine goI ?_;repeat (intro gg;refine goI ?_));refine⟨(by repeat (first|exact Aw|refine keepT_drops rfl ?_|refine A5 rfl ?_)),?_⟩;(refine goI ?_;repeat (intro gg;refine goI ?_));rcases f5:Cr v4 with _|⟨x5,v5⟩
    ·(refine .inr (.inr (.inl ⟨_,false,0::([]++[]),_,?_,Bj (y':=.nilIface) f5 (by omega),hd (by rw[hq,f5];rfl)⟩));focus (exact wI))
    have y5:=B6 f5;simp only at y5;rw[f5,ZA]at hq;simp only at hq;(refine .inr (.inl ⟨_,_,false,0::([]++[]),?_,Ba f5 (by omega),Af,oI,dI,?_⟩);focus (exact wI));(refine goI ?_;repeat (intro gg;refine goI ?_));refine⟨(by repeat (first|exact Aw|refine keepT_drops rfl ?_|refine A5 rfl ?_)),?_⟩;(refine goI ?_;repeat (intro gg;refine goI ?_));rcases f6:L7 v5 with _|⟨x6,v6⟩
    ·(refine .inr (.inr (.inl ⟨_,false,0::([]++[]),_,?_,Lz (y':=.nilIface) f6 (by omega),hd (by rw[hq,f6];rfl)⟩));focus (exact wI))
    have y6:=Pm f6;simp only at y6;rw[f6,ZA]at hq;simp only at hq;(refine .inr (.inl ⟨_,_,false,0::([]++[]),?_,Mv f6 (by omega),Af,oI,dI,?_⟩);focus (exact wI));(refine goI ?_;repeat (intro gg;refine goI ?_));refine⟨(by repeat (first|exact Aw|refine keepT_drops rfl ?_|refine A5 rfl ?_)),?_⟩;(refine goI ?_;repeat (intro gg;refine goI ?_));rcases f7:Cr v6 with _|⟨x7,v7⟩
    ·(refine .inr (.inr (.inl ⟨_,false,0::([]++[]),_,?_,Bj (y':=.nilIface) f7 (by omega),hd (by rw[hq,f7];rfl)⟩));focus (exact wI))
    have y7:=B6 f7;simp only at y7;rw[f7,ZA]at hq;simp only at hq;(refine .inr (.inl ⟨_,_,false,0::([]++[]),?_,Ba f7 (by omega),Af,oI,dI,?_⟩);focus (exact wI));(refine goI ?_;repeat (intro gg;refine goI ?_));refine⟨(by repeat (first|exact Aw|refine keepT_drops rfl ?_|refine A5 rfl ?_)),?_⟩;(refine goI ?_;repeat (intro gg;refine goI ?_));rcases f8:L7 v7 with _|⟨x8,v8⟩
    ·(refine .inr (.inr (.inl ⟨_,false,0::([]++[]),_,?_,Lz (y':=.nilIface) f8 (by omega),hd (by rw[hq,f8];rfl)⟩));focus (exact wI))
    have y8:=Pm f8;simp only at y8;rw[f8,ZA]at hq;simp only at hq;(refine .inr (.inl ⟨_,_,false,0::([]++[]),?_,Mv f8 (by omega),Af,oI,dI,?_⟩);focus (exact wI));(refine goI ?_;repeat (intro gg;refine goI ?_));obtain⟨m,hm0⟩:∃m:Sv,m=⟨x0,x1,x2,x3,x4,x5,x6,x7,x8⟩:=⟨_,rfl⟩;have hl3:(lsv++[m]).length=k+1:=by simp[hl1]
    have hq2:pkR s=(Fb svR (Nsv-(lsv++[m]).length) v8).bind (fun r=>kSv fr wo lms ((lsv++[m])++r.1,r.2)):=by
     rw[hl3,show Nsv-(k+1)=j by omega,←hF,hq,hm0];simp only[ZA];rcases F j v8 with _|⟨a,b⟩
     ·rfl
     ·simp only[ZA,ZS,List.cons_append,List.nil_append]
    have hsz:v8.size≤1000000000000:=by omega
    refine⟨lI,lI,?_⟩;(refine goI ?_;repeat (intro gg;refine goI ?_));(exact⟨none,trivial,fun gr=>⟨⟨(lsv++[m],v8,gg,k+1),⟨hl3,by show k+1≤Nsv;omega⟩,hsz,hq2⟩,by show Nsv-(k+1)<Nsv-k;omega,tI,tI,⟨rfl,⟨congrArg (fun r=>some (Ent.mk gg (.t 50) 9 r)) (by rw[ZI,hm0];rfl),trivial⟩⟩,tI⟩⟩)
   ·have hge:=(by have:=ZW csv;omega);obtain rfl:k=Nsv:=by omega
    have hP:pkR s=(Fj 6 gwR tsv).bind (kGs fr wo lms lsv):=by
     rw[hq,hl1,Nat.sub_self];show(some (([]:List Sv),tsv)).bind _=_;rw[ZA,List.append_nil];rfl
    (refine goI ?_;repeat (intro gg;refine goI ?_));refine .inr (.inr (.inr (Im 5000 J5 rfl ?_)));(refine goI ?_;repeat (intro gg;refine goI ?_));rcases egs:Cr tsv with _|⟨n,ugs⟩
    ·(refine .inr (.inr (.inl ⟨_,false,0::([]++[]),_,?_,Bj (y':=.nilIface) egs (by omega),hd (by rw[hP];unfold Fj I8;rw[egs];rfl)⟩));focus (exact wI))
    have zgs:=B6 egs;simp only at zgs;by_cases hn:n<0
    ·(refine .inr (.inl ⟨_,_,false,0::([]++[]),?_,Ba egs (by omega),Af,oI,dI,?_⟩);focus (exact wI));(refine goI ?_;repeat (intro gg;refine goI ?_));rw[ZX hn];(refine goI ?_;repeat (intro gg;refine goI ?_));exact hd (by rw[hP];unfold Fj I8;rw[egs,ZA];simp only;rw[if_pos (.inl hn)];rfl)
    obtain⟨Ngs,rfl⟩:=Int.eq_ofNat_of_zero_le (show 0≤n by omega);(refine .inr (.inl ⟨_,_,false,0::([]++[]),?_,Ba egs (by omega),Af,oI,dI,?_⟩);focus (exact wI));(refine goI ?_;repeat (intro gg;refine goI ?_));by_cases hm:(6:Int)<(Ngs:Int)
    ·rw[ZX hm];(refine goI ?_;repeat (intro gg;refine goI ?_));exact hd (by rw[hP];unfold Fj I8;rw[egs,ZA];simp only;rw[if_pos (.inr hm)];rfl)
    rw[ZY hm];have hPgs:pkR s=(Fb gwR Ngs ugs).bind (kGs fr wo lms lsv):=by
     rw[hP];unfold Fj I8;rw[egs,ZA];simp only;rw[if_neg (by omega),ZA,Int.toNat_natCast]
    (refine goI ?_;repeat (intro gg;refine goI ?_));(refine⟨[(8,900032,53,3)],none,{q:List Gw×ByteArray×Nat×Nat//(q.1.length=q.2.2.2∧q.2.2.2≤Ngs)∧q.2.1.size≤1000000000000∧pkR s=(Fb gwR (Ngs-q.1.length) q.2.1).bind (fun r=>kGs fr wo lms lsv (q.1++r.1,r.2))},[0,1,2,20],fun⟨⟨lgs,tgs,ggs,k⟩,hl,ht,hq⟩=>[(8,.own 900032 ggs),(21,.v (.int .i64 (k:Int)))],[16,32,48,900000,900016],fun⟨⟨lgs,tgs,ggs,k⟩,hl,ht,hq⟩=>[(0,⟨0,.b prT,1,[[.v (.string tgs)]]⟩),(900032,⟨ggs,.t 53,3,lgs.map Gw.row⟩)],fun⟨⟨lgs,tgs,ggs,k⟩,hl,ht,hq⟩=>Ngs-k,(by exact⟨rfl,by decide,(fun _ _ _ _ h=>by cases h),trivial⟩),fun gs=>⟨trivial,fun _=>⟨⟨([],ugs,gs 900032,0),⟨rfl,ZU _⟩,by show ugs.size≤_;omega,by rw[hPgs];simp⟩,tI,tI,tI,tI⟩⟩,fun⟨⟨lgs,tgs,ggs,k⟩,hl,ht,hq⟩=>?_⟩);have hl:lgs.length=k∧k≤Ngs:=hl;obtain⟨hl1,hl2⟩:=hl;have htgs:tgs.size≤1000000000000:=ht;have hq:pkR s=(Fb gwR (Ngs-lgs.length) tgs).bind (fun r=>kGs fr wo lms lsv (lgs++r.1,r.2)):=hq;(refine goI ?_;repeat (intro gg;refine goI ?_));(refine Ab (fun cgs=>?_) (fun cgs=>?_)<;>rw[cgs])
    ·have hlt:k<Ngs:=(by have:=ZV cgs;omega);obtain⟨j,hj⟩:∃j,Ngs-lgs.length=j+1:=⟨Ngs-lgs.length-1,by omega⟩;rw[hj]at hq;have hq:pkR s=((gwR tgs).bind fun p=>(Fb gwR j p.2).bind fun q=>some (p.1::q.1,q.2)).bind (fun r=>kGs fr wo lms lsv (lgs++r.1,r.2)):=hq;(refine goI ?_;repeat (intro gg;refine goI ?_));refine .inr (.inr (.inr (Vs 6000 Kp rfl ?_)));(refine goI ?_;repeat (intro gg;refine goI ?_));refine⟨[0],?_⟩;(refine goI ?_;repeat (intro gg;refine goI ?_));obtain⟨F,hF⟩:∃F,F=Fb gwR:=⟨_,rfl⟩;rw[←hF]at hq;unfold gwR at hq;rcases f0:G6 tgs with _|⟨x0,v0⟩
     ·(refine .inr (.inr (.inl ⟨_,false,0::([]++[]),_,?_,Gr (y':=.nilIface) f0 (by omega),hd (by rw[hq,f0];rfl)⟩));focus (exact wI))
     have y0:=Gg f0;simp only at y0;rw[f0,ZA]at hq;simp only at hq;(refine .inr (.inl ⟨_,_,false,0::([]++[]),?_,Eu f0 (by omega),Af,oI,dI,?_⟩);focus (exact wI));(refine goI ?_;repeat (intro gg;refine goI ?_));refine⟨(by repeat (first|exact Aw|refine keepT_drops rfl ?_|refine A5 rfl ?_)),?_⟩;(refine goI ?_;repeat (intro gg;refine goI ?_));rcases f1:Cr v0 with _|⟨x1,v1⟩
     ·(refine .inr (.inr (.inl ⟨_,false,0::([]++[]),_,?_,Bj (y':=.nilIface) f1 (by omega),hd (by rw[hq,f1];rfl)⟩));focus (exact wI))
     have y1:=B6 f1;simp only at y1;rw[f1,ZA]at hq;simp only at hq;(refine .inr (.inl ⟨_,_,false,0::([]++[]),?_,Ba f1 (by omega),Af,oI,dI,?_⟩);focus (exact wI));(refine goI ?_;repeat (intro gg;refine goI ?_));refine⟨(by repeat (first|exact Aw|refine keepT_drops rfl ?_|refine A5 rfl ?_)),?_⟩;(refine goI ?_;repeat (intro gg;refine goI ?_));rcases f2:Cr v1 with _|⟨x2,v2⟩
     ·(refine .inr (.inr (.inl ⟨_,false,0::([]++[]),_,?_,Bj (y':=.nilIface) f2 (by omega),hd (by rw[hq,f2];rfl)⟩));focus (exact wI))
     have y2:=B6 f2;simp only at y2;rw[f2,ZA]at hq;simp only at hq;(refine .inr (.inl ⟨_,_,false,0::([]++[]),?_,Ba f2 (by omega),Af,oI,dI,?_⟩);focus (exact wI));(refine goI ?_;repeat (intro gg;refine goI ?_));obtain⟨m,hm0⟩:∃m:Gw,m=⟨x0,x1,x2⟩:=⟨_,rfl⟩;have hl3:(lgs++[m]).length=k+1:=by simp[hl1]
     have hq2:pkR s=(Fb gwR (Ngs-(lgs++[m]).length) v2).bind (fun r=>kGs fr wo lms lsv ((lgs++[m])++r.1,r.2)):=by
      rw[hl3,show Ngs-(k+1)=j by omega,←hF,hq,hm0];simp only[ZA];rcases F j v2 with _|⟨a,b⟩
      ·rfl
      ·simp only[ZA,ZS,List.cons_append,List.nil_append]
     have hsz:v2.size≤1000000000000:=by omega
     refine⟨lI,lI,?_⟩;(refine goI ?_;repeat (intro gg;refine goI ?_));(exact⟨none,trivial,fun gr=>⟨⟨(lgs++[m],v2,gg,k+1),⟨hl3,by show k+1≤Ngs;omega⟩,hsz,hq2⟩,by show Ngs-(k+1)<Ngs-k;omega,tI,tI,⟨rfl,⟨congrArg (fun r=>some (Ent.mk gg (.t 53) 3 r)) (by rw[ZI,hm0];rfl),trivial⟩⟩,tI⟩⟩)
    ·have hge:=(by have:=ZW cgs;omega);obtain rfl:k=Ngs:=by omega
     have hP:pkR s=(Fj 20 whR tgs).bind (kWh fr wo lms lsv lgs):=by
      rw[hq,hl1,Nat.sub_self];show(some (([]:List Gw),tgs)).bind _=_;rw[ZA,List.append_nil];rfl
     (refine goI ?_;repeat (intro gg;refine goI ?_));refine .inr (.inr (.inr (Im 7000 Lb rfl ?_)));(refine goI ?_;repeat (intro gg;refine goI ?_));rcases ewh:Cr tgs with _|⟨n,uwh⟩
     ·(refine .inr (.inr (.inl ⟨_,false,0::([]++[]),_,?_,Bj (y':=.nilIface) ewh (by omega),hd (by rw[hP];unfold Fj I8;rw[ewh];rfl)⟩));focus (exact wI))
     have zwh:=B6 ewh;simp only at zwh;by_cases hn:n<0
     ·(refine .inr (.inl ⟨_,_,false,0::([]++[]),?_,Ba ewh (by omega),Af,oI,dI,?_⟩);focus (exact wI));(refine goI ?_;repeat (intro gg;refine goI ?_));rw[ZX hn];(refine goI ?_;repeat (intro gg;refine goI ?_));exact hd (by rw[hP];unfold Fj I8;rw[ewh,ZA];simp only;rw[if_pos (.inl hn)];rfl)
     obtain⟨Nwh,rfl⟩:=Int.eq_ofNat_of_zero_le (show 0≤n by omega);(refine .inr (.inl ⟨_,_,false,0::([]++[]),?_,Ba ewh (by omega),Af,oI,dI,?_⟩);focus (exact wI));(refine goI ?_;repeat (intro gg;refine goI ?_));by_cases hm:(20:Int)<(Nwh:Int)
     ·rw[ZX hm];(refine goI ?_;repeat (intro gg;refine goI ?_));exact hd (by rw[hP];unfold Fj I8;rw[ewh,ZA];simp only;rw[if_pos (.inr hm)];rfl)
     rw[ZY hm];have hPwh:pkR s=(Fb whR Nwh uwh).bind (kWh fr wo lms lsv lgs):=by
      rw[hP];unfold Fj I8;rw[ewh,ZA];simp only;rw[if_neg (by omega),ZA,Int.toNat_natCast]
     (refine goI ?_;repeat (intro gg;refine goI ?_));(refine⟨[(8,900048,88,6)],none,{q:List Wh×ByteArray×Nat×Nat//(q.1.length=q.2.2.2∧q.2.2.2≤Nwh)∧q.2.1.size≤1000000000000∧pkR s=(Fb whR (Nwh-q.1.length) q.2.1).bind (fun r=>kWh fr wo lms lsv lgs (q.1++r.1,r.2))},[0,1,2,20],fun⟨⟨lwh,twh,gwh,k⟩,hl,ht,hq⟩=>[(8,.own 900048 gwh),(21,.v (.int .i64 (k:Int)))],[16,32,48,900000,900016,900032],fun⟨⟨lwh,twh,gwh,k⟩,hl,ht,hq⟩=>[(0,⟨0,.b prT,1,[[.v (.string twh)]]⟩),(900048,⟨gwh,.t 88,6,lwh.map Wh.row⟩)],fun⟨⟨lwh,twh,gwh,k⟩,hl,ht,hq⟩=>Nwh-k,(by exact⟨rfl,by decide,(fun _ _ _ _ h=>by cases h),trivial⟩),fun gs=>⟨trivial,fun _=>⟨⟨([],uwh,gs 900048,0),⟨rfl,ZU _⟩,by show uwh.size≤_;omega,by rw[hPwh];simp⟩,tI,tI,tI,tI⟩⟩,fun⟨⟨lwh,twh,gwh,k⟩,hl,ht,hq⟩=>?_⟩);have hl:lwh.length=k∧k≤Nwh:=hl;obtain⟨hl1,hl2⟩:=hl;have htwh:twh.size≤1000000000000:=ht;have hq:pkR s=(Fb whR (Nwh-lwh.length) twh).bind (fun r=>kWh fr wo lms lsv lgs (lwh++r.1,r.2)):=hq;(refine goI ?_;repeat (intro gg;refine goI ?_));(refine Ab (fun cwh=>?_) (fun cwh=>?_)<;>rw[cwh])
     ·have hlt:k<Nwh:=(by have:=ZV cwh;omega);obtain⟨j,hj⟩:∃j,Nwh-lwh.length=j+1:=⟨Nwh-lwh.length-1,by omega⟩;rw[hj]at hq;have hq:pkR s=((whR twh).bind fun p=>(Fb whR j p.2).bind fun q=>some (p.1::q.1,q.2)).bind (fun r=>kWh fr wo lms lsv lgs (lwh++r.1,r.2)):=hq;(refine goI ?_;repeat (intro gg;refine goI ?_));refine .inr (.inr (.inr (Vs 8000 Kg rfl ?_)));(refine goI ?_;repeat (intro gg;refine goI ?_));refine⟨[0],?_⟩;(refine goI ?_;repeat (intro gg;refine goI ?_));obtain⟨F,hF⟩:∃F,F=Fb whR:=⟨_,rfl⟩;rw[←hF]at hq;unfold whR at hq;rcases f0:G6 twh with _|⟨x0,v0⟩
      ·(refine .inr (.inr (.inl ⟨_,false,0::([]++[]),_,?_,Gr (y':=.nilIface) f0 (by omega),hd (by rw[hq,f0];rfl)⟩));focus (exact wI))
      have y0:=Gg f0;simp only at y0;rw[f0,ZA]at hq;simp only at hq;(refine .inr (.inl ⟨_,_,false,0::([]++[]),?_,Eu f0 (by omega),Af,oI,dI,?_⟩);focus (exact wI));(refine goI ?_;repeat (intro gg;refine goI ?_));refine⟨(by repeat (first|exact Aw|refine keepT_drops rfl ?_|refine A5 rfl ?_)),?_⟩;(refine goI ?_;repeat (intro gg;refine goI ?_));rcases f1:Cr v0 with _|⟨x1,v1⟩
      ·(refine .inr (.inr (.inl ⟨_,false,0::([]++[]),_,?_,Bj (y':=.nilIface) f1 (by omega),hd (by rw[hq,f1];rfl)⟩));focus (exact wI))
      have y1:=B6 f1;simp only at y1;rw[f1,ZA]at hq;simp only at hq;(refine .inr (.inl ⟨_,_,false,0::([]++[]),?_,Ba f1 (by omega),Af,oI,dI,?_⟩);focus (exact wI));(refine goI ?_;repeat (intro gg;refine goI ?_));refine⟨(by repeat (first|exact Aw|refine keepT_drops rfl ?_|refine A5 rfl ?_)),?_⟩;(refine goI ?_;repeat (intro gg;refine goI ?_));rcases f2:Cr v1 with _|⟨x2,v2⟩
      ·(refine .inr (.inr (.inl ⟨_,false,0::([]++[]),_,?_,Bj (y':=.nilIface) f2 (by omega),hd (by rw[hq,f2];rfl)⟩));focus (exact wI))
      have y2:=B6 f2;simp only at y2;rw[f2,ZA]at hq;simp only at hq;(refine .inr (.inl ⟨_,_,false,0::([]++[]),?_,Ba f2 (by omega),Af,oI,dI,?_⟩);focus (exact wI));(refine goI ?_;repeat (intro gg;refine goI ?_));refine⟨(by repeat (first|exact Aw|refine keepT_drops rfl ?_|refine A5 rfl ?_)),?_⟩;(refine goI ?_;repeat (intro gg;refine goI ?_));rcases f3:Cr v2 with _|⟨x3,v3⟩
      ·(refine .inr (.inr (.inl ⟨_,false,0::([]++[]),_,?_,Bj (y':=.nilIface) f3 (by omega),hd (by rw[hq,f3];rfl)⟩));focus (exact wI))
      have y3:=B6 f3;simp only at y3;rw[f3,ZA]at hq;simp only at hq;(refine .inr (.inl ⟨_,_,false,0::([]++[]),?_,Ba f3 (by omega),Af,oI,dI,?_⟩);focus (exact wI));(refine goI ?_;repeat (intro gg;refine goI ?_));refine⟨(by repeat (first|exact Aw|refine keepT_drops rfl ?_|refine A5 rfl ?_)),?_⟩;(refine goI ?_;repeat (intro gg;refine goI ?_));rcases f4:Cr v3 with _|⟨x4,v4⟩
      ·(refine .inr (.inr (.inl ⟨_,false,0::([]++[]),_,?_,Bj (y':=.nilIface) f4 (by omega),hd (by rw[hq,f4];rfl)⟩));focus (exact wI))
      have y4:=B6 f4;simp only at y4;rw[f4,ZA]at hq;simp only at hq;(refine .inr (.inl ⟨_,_,false,0::([]++[]),?_,Ba f4 (by omega),Af,oI,dI,?_⟩);focus (exact wI));(refine goI ?_;repeat (intro gg;refine goI ?_));refine⟨(by repeat (first|exact Aw|refine keepT_drops rfl ?_|refine A5 rfl ?_)),?_⟩;(refine goI ?_;repeat (intro gg;refine goI ?_));rcases f5:Cr v4 with _|⟨x5,v5⟩
      ·(refine .inr (.inr (.inl ⟨_,false,0::([]++[]),_,?_,Bj (y':=.nilIface) f5 (by omega),hd (by rw[hq,f5];rfl)⟩));focus (exact wI))
      have y5:=B6 f5;simp only at y5;rw[f5,ZA]at hq;simp only at hq;(refine .inr (.inl ⟨_,_,false,0::([]++[]),?_,Ba f5 (by omega),Af,oI,dI,?_⟩);focus (exact wI));(refine goI ?_;repeat (intro gg;refine goI ?_));obtain⟨m,hm0⟩:∃m:Wh,m=⟨x0,⟨x1,x2,x3,x4,x5⟩⟩:=⟨_,rfl⟩;have hl3:(lwh++[m]).length=k+1:=by simp[hl1]
      have hq2:pkR s=(Fb whR (Nwh-(lwh++[m]).length) v5).bind (fun r=>kWh fr wo lms lsv lgs ((lwh++[m])++r.1,r.2)):=by
       rw[hl3,show Nwh-(k+1)=j by omega,←hF,hq,hm0];simp only[ZA];rcases F j v5 with _|⟨a,b⟩
       ·rfl
       ·simp only[ZA,ZS,List.cons_append,List.nil_append]
      have hsz:v5.size≤1000000000000:=by omega
      refine⟨lI,lI,?_⟩;(refine goI ?_;repeat (intro gg;refine goI ?_));(exact⟨none,trivial,fun gr=>⟨⟨(lwh++[m],v5,gg,k+1),⟨hl3,by show k+1≤Nwh;omega⟩,hsz,hq2⟩,by show Nwh-(k+1)<Nwh-k;omega,tI,tI,⟨rfl,⟨congrArg (fun r=>some (Ent.mk gg (.t 88) 6 r)) (by rw[ZI,hm0];rfl),trivial⟩⟩,tI⟩⟩)
     ·have hge:=(by have:=ZW cwh;omega);obtain rfl:k=Nwh:=by omega
      have hP:pkR s=some (⟨fr,wo,lms,lsv,lgs,lwh⟩,twh):=by
       rw[hq,hl1,Nat.sub_self];show(some (([]:List Wh),twh)).bind _=_;rw[ZA,List.append_nil];rfl
      (refine goI ?_;repeat (intro gg;refine goI ?_));refine hk ⟨fr,wo,lms,lsv,lgs,lwh⟩ twh _ _ hP ?_;(exact⟨_,0::([]++[]),.cell1 rfl rfl rfl rfl rfl rfl .nil,Agw cBI (Er (gone:=[]) (gone1:=[]) rfl aI (by decide) (by decide) (by decide) (.nil _))⟩)
theorem Adg[Glob]:Cv As9=Cv Dy:=by rfl
theorem Afk[Glob][Tabs]{s r:ByteArray}{p:Pk}(h:pkR s=some (p,r))(hs:s.size≤1000000000000):Gl Tryz.prog 54 [.mn prT [.c (.v (.string s))] [.c (.v (.string r))]] [.p (.c (.agg p.row))]:=
 Ady F8 Adg rfl (Qk rfl) (Um (y':=.string r) hs noD (Aa0 [(2,some (true,6))] [.mn prT [.c (.v (.string s))] [.c (.v (.string r))]] [.p (.c (.agg p.row))]) (fun q=>by rw[h]at q;cases q) (fun p' r' env H e k=>by
  rw[h]at e;cases e;exact k))
theorem Afx[Glob][Tabs]{s:ByteArray}{y':Value}(h:pkR s=none)(hs:s.size≤1000000000000):Ij Tryz.prog 54 [.mn prT [.c (.v (.string s))] [.c (.v y')]] D4:=
 Ae6 F8 Adg rfl (Qk rfl) (Um (y':=y') hs (fun x=>x=D4) Ap8 (fun _=>rfl) (fun p' r' env H e=>by
  rw[h]at e;cases e))
theorem Fr.set_{F:Nat→Prop}{w w':World}(h:Fr F w w'){b:Nat}(hb:F b)(i:Nat)(v:Value):Fr F w (w'.setCell ⟨b,i,none⟩ v):=by
 have hs:=h.size;refine⟨h.os,h.tape,h.output,by simp[World.setCell];omega,fun k hk hF=>?_⟩;rw[←h.block k hk hF];have:k≠b:=fun e=>hF (e▸hb);exact Below.heap_setCell w' ⟨b,i,none⟩ v k this
theorem Fr.alloc_{F:Nat→Prop}{w w':World}(h:Fr F w w')(o:Obj):Fr F w (w'.alloc o):=by
 have hs:=h.size;refine⟨h.os,h.tape,h.output,by rw[show(w'.alloc o).heap.size=w'.heap.size+1 from by simp[World.alloc,-World.alloc_eq]];omega,fun k hk hF=>?_⟩;rw[←h.block k hk hF];exact Below.heap_alloc w' o k (by omega)
theorem Aby(T:TypeId)(w:World):(Instr.typeAssert D4 T 100 true).run Tryz.prog w=.ok (.tuple #[.agg #[],.bool true]) w:=by
 have hu:=Tryz.underlying100;simp[Instr.typeAssert,D4,run_underlying hu]
theorem Afz(T:TypeId)(w:World):(Instr.typeAssert .nilIface T 100 true).run Tryz.prog w=.ok (.tuple #[.agg #[],.bool false]) w:=by
 have hu:=Tryz.underlying100;have h:(Tryz.prog.info? 100).map (·.zero)=some (some (.agg #[])):=by kernel_rfl
 obtain⟨i,hi,hz⟩:=Option.map_eq_some_iff.1 h;simp[Instr.typeAssert,run_underlying hu,zeroValue,typeInfo,hi,hz]
def He:Array Value:= #[.string ⟨#[]⟩,.bool false,.slice none 0 0,.slice none 0 0,.slice none 0 0,.slice none 0 0]
structure Ag1(w:World)(p q:Nat)(w':World):Prop where
 m:Blk w' p 59 He
 e:Blk w' q 26 #[.int .i64 1]
 fr:Fr (fun k=>k=p∨k=q) w w'
set_option maxRecDepth 100000 in
set_option maxHeartbeats 2000000 in
theorem Acl(p q:Nat)(c0 c1 c2 c3 c4 c5 x:Value)(w:World)(hp:Blk w p 59 #[c0,c1,c2,c3,c4,c5])(hq:Blk w q 26 #[x])(hpq:p≠q):
  CallsD Tryz.prog 53 #[.pointer (some ⟨p,0,none⟩),.pointer (some ⟨q,0,none⟩)] (.panicking [{v:=D4,recovered:=false}]) w fun e u' w'=>e=.returned (.tuple #[])∧u'=.panicking [{v:=D4,recovered:=true}]∧Ag1 w p q w':=by
 have hlp:=hp.lt;have hlq:=hq.lt;refine callsD_of_wpS Tryz.func53 rfl fun c₀ cs hu=>?_;apply wpS_seq;apply wpS_region;have hrec:recoverD (c₀::cs)=some (D4,{c₀ with mode:=.panicking ({v:=D4,recovered:=true} ::[])} ::cs):=by simp[recoverD,hu]
 simp[wpOpsS,go_sem,hrec,Tryz.ntmps53,Exit.thenS,Aby];have e0:w.cell? ⟨p,0,none⟩=some c0:=hp.cell 0;have e1:w.cell? ⟨p,1,none⟩=some c1:=hp.cell 1;have e2:w.cell? ⟨p,2,none⟩=some c2:=hp.cell 2;have e3:w.cell? ⟨p,3,none⟩=some c3:=hp.cell 3;have e4:w.cell? ⟨p,4,none⟩=some c4:=hp.cell 4;have e5:w.cell? ⟨p,5,none⟩=some c5:=hp.cell 5;have f0:=fun i=>hp.frozen i;have g0:w.cell? ⟨q,0,none⟩=some x:=hq.cell 0;have h0:=hq.frozen 0;refine wpS_of_wp ?_
 go_wp2
 have key:Ag1 w p q ((((((((w.setCell ⟨p,0,none⟩ (.string ⟨#[]⟩)).setCell ⟨p,1,none⟩ (.bool false)).setCell ⟨p,2,none⟩ (.slice none 0 0)).setCell ⟨p,3,none⟩ (.slice none 0 0)).setCell ⟨p,4,none⟩ (.slice none 0 0)).setCell ⟨p,5,none⟩ (.slice none 0 0)).setCell ⟨q,0,none⟩ (.int .i64 1)).alloc (Obj.cells #[] 100)):=by
  refine⟨?_,?_,?_⟩
  ·exact((((((((hp.set_ 0 _).set_ 1 _).set_ 2 _).set_ 3 _).set_ 4 _).set_ 5 _).far hpq _).alloc _)
  ·exact((((((((hq.far (Ne.symm hpq) _).far (Ne.symm hpq) _).far (Ne.symm hpq) _).far (Ne.symm hpq) _).far (Ne.symm hpq) _).far (Ne.symm hpq) _).set_ 0 _).alloc _)
  ·exact(((((((((Fr.refl _ w).set_ (.inl rfl) 0 _).set_ (.inl rfl) 1 _).set_ (.inl rfl) 2 _).set_ (.inl rfl) 3 _).set_ (.inl rfl) 4 _).set_ (.inl rfl) 5 _).set_ (.inr rfl) 0 _).alloc_ _)
 simp[bodyPostS,results,Tryz.results53];exact key
set_option maxRecDepth 100000 in
set_option maxHeartbeats 2000000 in
theorem O6(p q:Nat)(w:World):
  CallsD Tryz.prog 53 #[.pointer (some ⟨p,0,none⟩),.pointer (some ⟨q,0,none⟩)] .returning w fun e u' w'=>e=.returned (.tuple #[])∧u'=.returning∧w'=w.alloc (.cells #[] 100):=by
 refine callsD_of_wpS Tryz.func53 rfl fun c₀ cs hu=>?_;apply wpS_seq;apply wpS_region;have hrec:recoverD (c₀::cs)=none:=by simp[recoverD,hu]
 simp[wpOpsS,go_sem,hrec,Tryz.ntmps53,Exit.thenS,Afz];refine wpS_of_wp ?_
 go_wp2
 simp[bodyPostS,results,Tryz.results53,hu];cases c₀;simp_all
theorem Fr.outP{L:Nat→Prop}{a b c:World}(h:Fr (fun _=>False) a b)(k:Fr L b c)(hl:∀i,L i→a.heap.size≤i):Fr (fun _=>False) a c:=
 ⟨k.os.trans h.os,k.tape.trans h.tape,k.output.trans h.output,XI h.size k.size,fun i hi _=>(k.block i (XH hi h.size) (fun hL=>by have:=hl i hL;omega)).trans (h.block i hi id)⟩
theorem Fr.blkP{L:Nat→Prop}{a b:World}{g:Nat}{t:TypeId}{cs:Array Value}(h:Fr L a b)(hb:Blk a g t cs)(hl:¬L g):Blk b g t cs:=(h.block g hb.lt hl).trans hb
def pkV(p:Pk)(y2 y3 y4 y5:Value):Value:=.agg #[.string p.fr,.bool p.wo,y2,y3,y4,y5]
theorem Aok{w:World}{R:Nat→Prop}{p:Pk}{y2 y3 y4 y5:Value}(h2:RV w R noG (.sl false (p.ms.map Mb.row)) y2)(h3:RV w R noG (.sl false (p.sv.map Sv.row)) y3)(h4:RV w R noG (.sl false (p.gs.map Gw.row)) y4)(h5:RV w R noG (.sl false (p.wh.map Wh.row)) y5):RV w R noG (.agg p.row) (pkV p y2 y3 y4 y5):=by
 refine .agg p.row [.string p.fr,.bool p.wo,y2,y3,y4,y5] rfl fun i u x hu hx=>?_;unfold Pk.row at hu;rcases i with _|_|_|_|_|_|i
 all_goals first
  |(cases hu;cases hx;exact .v _)
  |(cases hu;cases hx;exact h2)
  |(cases hu;cases hx;exact h3)
  |(cases hu;cases hx;exact h4)
  |(cases hu;cases hx;exact h5)
  |(simp at hu)
theorem Atx{w:World}{R:Nat→Prop}{p:Pk}{x:Value}(h:RV w R noG (.agg p.row) x):∃y2 y3 y4 y5,x=pkV p y2 y3 y4 y5∧RV w R noG (.sl false (p.ms.map Mb.row)) y2∧RV w R noG (.sl false (p.sv.map Sv.row)) y3∧RV w R noG (.sl false (p.gs.map Gw.row)) y4∧RV w R noG (.sl false (p.wh.map Wh.row)) y5:=by
 cases h with
 |agg cs xs hl h=>
  obtain⟨x0,x1,x2,x3,x4,x5,rfl⟩:∃x0 x1 x2 x3 x4 x5,xs=[x0,x1,x2,x3,x4,x5]:=by
   rcases xs with _|⟨x0,_|⟨x1,_|⟨x2,_|⟨x3,_|⟨x4,_|⟨x5,_|⟨x6,xs⟩⟩⟩⟩⟩⟩⟩<;>simp[Pk.row]at hl;exact⟨_,_,_,_,_,_,rfl⟩
  have h0:=Cd (h 0 _ _ rfl rfl);have h1:=Cd (h 1 _ _ rfl rfl);subst h0 h1;exact⟨x2,x3,x4,x5,rfl,h 2 _ _ rfl rfl,h 3 _ _ rfl rfl,h 4 _ _ rfl rfl,h 5 _ _ rfl rfl⟩
theorem S8(w:World)(R:Nat→Prop):RV w R noG (.agg pk0.row) (.agg He):=Aok (p:=pk0) (y2:=.slice none 0 0) (y3:=.slice none 0 0) (y4:=.slice none 0 0) (y5:=.slice none 0 0) (.nil false none 0 (by simp)) (.nil false none 0 (by simp)) (.nil false none 0 (by simp)) (.nil false none 0 (by simp))
theorem Py{w:World}{R:Nat→Prop}{G:Nat→Option Loc}{cl:Bool}{rows:List (List V)}{x:Value}(h:RV w R G (.sl cl rows) x):∃a k c,x=.slice a k c:=by
 generalize e:V.sl cl rows=u at h;cases h with
 |nil=>exact⟨_,_,_,rfl⟩
 |sl=>exact⟨_,_,_,rfl⟩
 |_=>cases e
theorem Wl{u:V}{x:Value}{b:Nat}(h:A4 [.c u] [x] b):False:=Fi (fun p hp=>by simp at hp;exact⟨_,hp⟩) h
def Aaq(R:Nat→Prop)(w:World)(m:Pk)(er:Int)(e:Ending)(w':World):Prop:=
 ∃(x:Value) (R':Nat→Prop),e=.returned (.tuple #[x,.int .i64 er])∧Fr (fun _=>False) w w'∧(∀b,R b→R' b)∧(∀b,R' b→R b∨(b<w'.heap.size∧w.heap.size≤b))∧RV w' R' noG (.agg m.row) x
theorem Ac5{s:ByteArray}{y':Value}{W:World}{R:Nat→Prop}{n:Nat}(hb:Blk W n prT #[.string s])(hn:¬R n):Cm W R [.mn prT [.c (.v (.string s))] [.c (.v y')]] [.pointer (some ⟨n,0,none⟩)] (fun k=>k=n):=by
 have hnb:∀k,¬A4 [.c (.v (.string s))] [.string s] k:=fun k h=>Wl h;refine⟨fun k=>k=n,fun _=>False,⟨n,[.string s],rfl,by simp,⟨rfl,.inr ⟨n,1,_,rfl,ZU _,hb,by simp,by decide,rfl,rfl⟩⟩,Wu (.v _),by simp[Value.oneCell'],hnb n,fun k=>⟨.inl,fun h=>h.elim id (fun h=>absurd h (hnb k))⟩⟩,fun _ h=>h,fun b h=>⟨id,by rw[h];exact hn⟩,fun b=>⟨.inl,fun h=>h.elim id False.elim⟩⟩
theorem All{r:ByteArray}(h:r.toList=[]):r.size=0:=by
 rw[ByteArray.toList_eq]at h;have e:r.data.toList.length=0:=by rw[h];rfl
 exact e
theorem An0{W:World}{R:Nat→Prop}{n:Nat}{r:ByteArray}{F:Nat→Prop}(h:Cm W R [.pn prT [.c (.v (.string r))]] [.pointer (some ⟨n,0,none⟩)] F):Blk W n prT #[.string r]:=by
 obtain⟨F1,F2,⟨b',vs,q,hpos,hown,hpars,_⟩,_⟩:=h;injection q with q
 injection q with q;injection q with q
 subst q;have hl:vs.length=1:=by simpa using hpars.len.symm
 obtain⟨y0,rfl⟩:∃y0,vs=[y0]:=List.length_eq_one_iff.1 hl;obtain rfl:y0=.string r:=Cd (hpars.ok 0 _ _ rfl rfl);rcases hown.2 with⟨q,_⟩|⟨g,cap,cur,q,_,hg,hnc,hcm,hcs,htake⟩
 ·cases q
 ·injection q with q1 q2 q3;injection q1 with q1
  injection q1 with q1;subst q1 q3;have hl:cur.toList.length=1:=by simpa using hcs
  have hx:cur.toList=[.string r]:=by rw[←htake,List.take_of_length_le (by rw[hl];exact ZT _)]
  have hc:cur= #[.string r]:=by apply Array.ext';rw[hx]
  rw[hc]at hg;exact hg
set_option maxRecDepth 100000 in
set_option maxHeartbeats 2000000 in
theorem Ait[Glob](s:ByteArray)(y':Value)(w:World)(R:Nat→Prop)(hlt:∀b,R b→b<w.heap.size)(hg:Cc w (fun _=>False))(hd:Ij Tryz.prog 54 [.mn prT [.c (.v (.string s))] [.c (.v y')]] D4):Calls Tryz.prog 21 #[.string s] w (Aaq R w pk0 1):=by
 have hmf:∀(fn:Fn) (first cap:Array Value) (w:World),(Instr.makeFunc fn first cap).run Tryz.prog w=.ok (.func fn first cap) w:=fun _ _ _ _=>rfl
 go_enter_defers Tryz.func21,Tryz.ntmps21
 go_wp2_with fail
 have B0:=Blk.new w 59 He;have B1:=Blk.new_ (w.alloc (.cells He 59)) 26 #[.int .i64 0] (g:=w.heap.size+1) (by simp[World.alloc,-World.alloc_eq]);have B0':=B0.alloc (.cells #[.int .i64 0] 26);have B2:=Blk.new_ ((w.alloc (.cells He 59)).alloc (.cells #[.int .i64 0] 26)) prT #[.string s] (g:=w.heap.size+1+1) (by simp[World.alloc,-World.alloc_eq]);have B0'':=B0'.alloc (.cells #[.string s] prT);have B1'':=B1.alloc (.cells #[.string s] prT);have F0:Fr (fun _=>False) w _:=(((Fr.refl _ w).alloc_ (.cells He 59)).alloc_ (.cells #[.int .i64 0] 26)).alloc_ (.cells #[.string s] prT);refine(hd.2 _ (fun _=>False) [_] _ (fun _ h=>h.elim) (Ac5 B2 id) (hg.at_ F0 (fun b hb=>by have hb:b=w.heap.size+1+1:=hb;omega))).mono ?_
 rintro e w1 ⟨rfl,hf⟩
 have C0:=hf.blkP B0'' (by omega);have C1:=hf.blkP B1'' (by omega);refine leaves_cons (f:=53) (args:= #[.pointer (some ⟨w.heap.size,0,none⟩),.pointer (some ⟨w.heap.size+1,0,none⟩)]) (by simp) (by simp[go_sem]) ?_;refine(Acl w.heap.size (w.heap.size+1) _ _ _ _ _ _ _ w1 C0 C1 (by omega)).mono ?_
 rintro e u' w2 ⟨rfl,rfl,hC⟩
 obtain⟨D0,D1,hf2⟩:=hC;have e0:w2.cell? ⟨w.heap.size,0,none⟩=some (.string ⟨#[]⟩):=D0.cell 0;have e1:w2.cell? ⟨w.heap.size,1,none⟩=some (.bool false):=D0.cell 1;have e2:w2.cell? ⟨w.heap.size,2,none⟩=some (.slice none 0 0):=D0.cell 2;have e3:w2.cell? ⟨w.heap.size,3,none⟩=some (.slice none 0 0):=D0.cell 3;have e4:w2.cell? ⟨w.heap.size,4,none⟩=some (.slice none 0 0):=D0.cell 4;have e5:w2.cell? ⟨w.heap.size,5,none⟩=some (.slice none 0 0):=D0.cell 5;have g0:w2.cell? ⟨w.heap.size+1,0,none⟩=some (.int .i64 1):=D1.cell 0;simp[Leaves,settle,results,Tryz.results21,go_sem,e0,e1,e2,e3,e4,e5,g0];refine⟨.agg He,R,rfl,?_,fun b h=>h,fun b h=>.inl h,S8 _ _⟩;exact(F0.outP hf (fun i hi=>by omega)).outP hf2 (fun i hi=>by omega)
set_option maxRecDepth 100000 in
set_option maxHeartbeats 4000000 in
theorem Amb[Glob](s r:ByteArray)(p:Pk)(w:World)(R:Nat→Prop)(hlt:∀b,R b→b<w.heap.size)(hg:Cc w (fun _=>False))(hm:Gl Tryz.prog 54 [.mn prT [.c (.v (.string s))] [.c (.v (.string r))]] [.p (.c (.agg p.row))])(hc:Fun Tryz.prog 55 [.c (.agg p.row)] [.c (.v (.int .i64 p.err))])(v:Pk)(er:Int)(hv:r.size=0→p.err=0→v=p∧er=0)(hz:r.size≠0∨p.err≠0→v=pk0∧er=1):Calls Tryz.prog 21 #[.string s] w (Aaq R w v er):=by
 have hv:=hid hv;have hz:=hid hz;have hmf:∀(fn:Fn) (first cap:Array Value) (w:World),(Instr.makeFunc fn first cap).run Tryz.prog w=.ok (.func fn first cap) w:=fun _ _ _ _=>rfl
 go_enter_defers Tryz.func21,Tryz.ntmps21
 go_wp2_with fail
 have B0:=Blk.new w 59 He;have B1:=Blk.new_ (w.alloc (.cells He 59)) 26 #[.int .i64 0] (g:=w.heap.size+1) (by simp[World.alloc,-World.alloc_eq]);have B0':=B0.alloc (.cells #[.int .i64 0] 26);have B2:=Blk.new_ ((w.alloc (.cells He 59)).alloc (.cells #[.int .i64 0] 26)) prT #[.string s] (g:=w.heap.size+1+1) (by simp[World.alloc,-World.alloc_eq]);have B0'':=B0'.alloc (.cells #[.string s] prT);have B1'':=B1.alloc (.cells #[.string s] prT);have F0:Fr (fun _=>False) w _:=(((Fr.refl _ w).alloc_ (.cells He 59)).alloc_ (.cells #[.int .i64 0] 26)).alloc_ (.cells #[.string s] prT);refine(hm.2 _ R [_] _ (fun b hb=>XH (hlt b hb) F0.size) (Ac5 B2 fun hR=>by have:=hlt _ hR;omega) (hg.at_ F0 (fun b hb=>by have hb:b=w.heap.size+1+1:=hb;omega))).mono ?_
 rintro e w1 ⟨ys,R1,F1,rfl,hl,hf,hR1,hR2,hp,hF⟩
 have hgl1:Cc w1 (fun b=>b=w.heap.size∨b=w.heap.size+1∨b=w.heap.size+1+1):=(hg.at_ (L':=fun b=>b=w.heap.size∨b=w.heap.size+1∨b=w.heap.size+1+1) F0 (fun b hb=>.inr (by omega))).at_ (Dk hf fun k hk=>.inr (.inr hk)) (fun b hb=>.inl hb);have C0:=hf.blkP B0'' (by omega);have C1:=hf.blkP B1'' (by omega);obtain⟨x,rfl⟩:∃x,ys=[x]:=by
  rcases ys with _|⟨x,_|⟨x',ys⟩⟩<;>simp at hl;exact⟨x,rfl⟩
 obtain⟨⟨y2,y3,y4,y5,rfl,q2,q3,q4,q5⟩,hrd⟩:(∃y2 y3 y4 y5,x=pkV p y2 y3 y4 y5∧RV w1 R1 noG (.sl false (p.ms.map Mb.row)) y2∧RV w1 R1 noG (.sl false (p.sv.map Sv.row)) y3∧RV w1 R1 noG (.sl false (p.gs.map Gw.row)) y4∧RV w1 R1 noG (.sl false (p.wh.map Wh.row)) y5)∧Blk w1 (w.heap.size+1+1) prT #[.string r]:=by
  obtain⟨G1,G2,h1,h2,_⟩:=hp;exact⟨Atx h1.1,An0 h2⟩
 obtain⟨a2,k2,c2,rfl⟩:=Py q2;obtain⟨a3,k3,c3,rfl⟩:=Py q3;obtain⟨a4,k4,c4,rfl⟩:=Py q4;obtain⟨a5,k5,c5,rfl⟩:=Py q5;have hrv:=hid (Aok (p:=p) q2 q3 q4 q5);have hR1:=hid hR1;have hR2:=hid hR2;have HF:=hid hf;have hgl:Cc w1 (fun b=>b=w.heap.size∨b=w.heap.size+1∨b=w.heap.size+1+1):=hgl1;clear q2 q3 q4 q5 hf hp hF;have e0:w1.cell? ⟨w.heap.size,0,none⟩=some (.string ⟨#[]⟩):=C0.cell 0;have e1:w1.cell? ⟨w.heap.size,1,none⟩=some (.bool false):=C0.cell 1;have e2:w1.cell? ⟨w.heap.size,2,none⟩=some (.slice none 0 0):=C0.cell 2;have e3:w1.cell? ⟨w.heap.size,3,none⟩=some (.slice none 0 0):=C0.cell 3;have e4:w1.cell? ⟨w.heap.size,4,none⟩=some (.slice none 0 0):=C0.cell 4;have e5:w1.cell? ⟨w.heap.size,5,none⟩=some (.slice none 0 0):=C0.cell 5;have f0:=fun i=>C0.frozen i;have g0:w1.cell? ⟨w.heap.size+1,0,none⟩=some (.int .i64 0):=C1.cell 0;have h0:=C1.frozen 0;have r0:w1.cell? ⟨w.heap.size+1+1,0,none⟩=some (.string r):=hrd.cell 0;have hn1:∀b,R1 b→b≠w.heap.size∧b≠w.heap.size+1:=fun b hb=>by
  rcases hR2.out b hb with g|⟨g1,g2⟩
  ·have:=hlt b g;omega
  ·rcases g2 with g2|g2
   ·omega
   ·have:=F0.size;simp[World.alloc,-World.alloc_eq]at g2;omega
 have hlt1:∀b,R1 b→b<w1.heap.size:=fun b hb=>by
  rcases hR2.out b hb with g|⟨g1,g2⟩
  ·have:=hlt b g;have:=F0.size;have:=HF.out.size;omega
  ·exact g1
 simp only[Dl,pkV];by_cases hr:r.size=0
 ·obtain rfl:r=⟨#[]⟩:=ByteArray.ext (Array.eq_empty_of_size_eq_zero hr)
  go_wp2_with fail
  have D0:Blk ((((((w1.setCell ⟨w.heap.size,0,none⟩ (.string p.fr)).setCell ⟨w.heap.size,1,none⟩ (.bool p.wo)).setCell ⟨w.heap.size,2,none⟩ (.slice a2 k2 c2)).setCell ⟨w.heap.size,3,none⟩ (.slice a3 k3 c3)).setCell ⟨w.heap.size,4,none⟩ (.slice a4 k4 c4)).setCell ⟨w.heap.size,5,none⟩ (.slice a5 k5 c5)) w.heap.size 59 #[.string p.fr,.bool p.wo,.slice a2 k2 c2,.slice a3 k3 c3,.slice a4 k4 c4,.slice a5 k5 c5]:=((((((C0.set_ 0 (.string p.fr)).set_ 1 (.bool p.wo)).set_ 2 (.slice a2 k2 c2)).set_ 3 (.slice a3 k3 c3)).set_ 4 (.slice a4 k4 c4)).set_ 5 (.slice a5 k5 c5));have D1:=((((((C1.far (p:=⟨w.heap.size,0,none⟩) (by simp) (.string p.fr)).far (p:=⟨w.heap.size,1,none⟩) (by simp) (.bool p.wo)).far (p:=⟨w.heap.size,2,none⟩) (by simp) (.slice a2 k2 c2)).far (p:=⟨w.heap.size,3,none⟩) (by simp) (.slice a3 k3 c3)).far (p:=⟨w.heap.size,4,none⟩) (by simp) (.slice a4 k4 c4)).far (p:=⟨w.heap.size,5,none⟩) (by simp) (.slice a5 k5 c5));have F2:Fr (fun k=>k=w.heap.size) w1 _:=(((((((Fr.refl (fun k=>k=w.heap.size) w1).set_ rfl 0 (.string p.fr)).set_ rfl 1 (.bool p.wo)).set_ rfl 2 (.slice a2 k2 c2)).set_ rfl 3 (.slice a3 k3 c3)).set_ rfl 4 (.slice a4 k4 c4)).set_ rfl 5 (.slice a5 k5 c5));generalize hw2:((((((w1.setCell ⟨w.heap.size,0,none⟩ (.string p.fr)).setCell ⟨w.heap.size,1,none⟩ (.bool p.wo)).setCell ⟨w.heap.size,2,none⟩ (.slice a2 k2 c2)).setCell ⟨w.heap.size,3,none⟩ (.slice a3 k3 c3)).setCell ⟨w.heap.size,4,none⟩ (.slice a4 k4 c4)).setCell ⟨w.heap.size,5,none⟩ (.slice a5 k5 c5))=w2 at D0 D1 F2 ⊢;clear e0 e1 e2 e3 e4 e5 f0 g0 h0 r0 hw2;have hy2:=hrv.out.mono (fun b hb=>⟨hb,F2.block b (hlt1 b hb) (hn1 b hb).1⟩) (Gle.refl _);have hg2:Cc w2 (fun _=>False):=hgl.at_ (Dk F2 fun k hk=>.inl hk) (fun b hb=>hb.elim);refine(hc.2 _ R1 [_] (fun b hb=>XH (hlt1 b hb) F2.size) (Wu hy2) (hg2.at_ (Fr.refl _ _) fun b hb=>(Wl hb).elim)).mono ?_
  rintro e w3 ⟨ys,R3,rfl,hf3,hR3,hR4,hp3,hF3⟩
  obtain⟨x,rfl⟩:∃x,ys=[x]:=by
   have hl:=hp3.len;rcases ys with _|⟨x,_|⟨x',ys⟩⟩<;>simp at hl
   exact⟨x,rfl⟩
  have hx:x=.int .i64 p.err:=Cd (hp3.ok 0 _ _ rfl rfl);subst hx;have hf3':Fr (fun _=>False) w2 w3:=⟨hf3.os,hf3.tape,hf3.output,hf3.size,fun k hk _=>hf3.block k hk Wl⟩;have E0:=hf3'.blkP D0 id;have E1:=hf3'.blkP D1 id;have hy3:=hid (hy2.mono (fun b hb=>⟨hb,hf3'.block b (XH (hlt1 b hb) F2.size) id⟩) (Gle.refl _));have HF3:=hid hf3';have hp3:=hid hp3;have hn1:=hid hn1;have hlt1:=hid hlt1;clear hf3 hR3 hR4 hF3 hp3 hf3' hy2;simp only[Dl];have e0:w3.cell? ⟨w.heap.size,0,none⟩=some (.string p.fr):=E0.cell 0;have e1:w3.cell? ⟨w.heap.size,1,none⟩=some (.bool p.wo):=E0.cell 1;have e2:w3.cell? ⟨w.heap.size,2,none⟩=some (.slice a2 k2 c2):=E0.cell 2;have e3:w3.cell? ⟨w.heap.size,3,none⟩=some (.slice a3 k3 c3):=E0.cell 3;have e4:w3.cell? ⟨w.heap.size,4,none⟩=some (.slice a4 k4 c4):=E0.cell 4;have e5:w3.cell? ⟨w.heap.size,5,none⟩=some (.slice a5 k5 c5):=E0.cell 5;have f0:=fun i=>E0.frozen i;have g0:w3.cell? ⟨w.heap.size+1,0,none⟩=some (.int .i64 0):=E1.cell 0;have h0:=E1.frozen 0;by_cases hE:p.err=0
  ·obtain⟨h1,h2⟩:=hv.out rfl hE;have h1:=hid h1;have h2:=hid h2
   go_wp2_with fail
   refine leaves_cons (f:=53) (args:= #[.pointer (some ⟨w.heap.size,0,none⟩),.pointer (some ⟨w.heap.size+1,0,none⟩)]) (by simp) (by simp[go_sem]) ?_;refine(O6 w.heap.size (w.heap.size+1) _).mono ?_
   rintro e u' w4 ⟨rfl,rfl,hw4⟩
   have F4:Fr (fun k=>k=w.heap.size∨k=w.heap.size+1) w3 w4:=by rw[hw4];exact((((((((Fr.refl (fun k=>k=w.heap.size∨k=w.heap.size+1) w3).set_ (.inl rfl) 0 (.string p.fr)).set_ (.inl rfl) 1 (.bool p.wo)).set_ (.inl rfl) 2 (.slice a2 k2 c2)).set_ (.inl rfl) 3 (.slice a3 k3 c3)).set_ (.inl rfl) 4 (.slice a4 k4 c4)).set_ (.inl rfl) 5 (.slice a5 k5 c5)).set_ (.inr rfl) 0 (.int .i64 0)).alloc_ (.cells #[] 100)
   have G0:Blk w4 w.heap.size 59 #[.string p.fr,.bool p.wo,.slice a2 k2 c2,.slice a3 k3 c3,.slice a4 k4 c4,.slice a5 k5 c5]:=by rw[hw4];exact(((((((E0.set_ 0 (.string p.fr)).set_ 1 (.bool p.wo)).set_ 2 (.slice a2 k2 c2)).set_ 3 (.slice a3 k3 c3)).set_ 4 (.slice a4 k4 c4)).set_ 5 (.slice a5 k5 c5)).far (p:=⟨w.heap.size+1,0,none⟩) (by simp) (.int .i64 0)).alloc (.cells #[] 100)
   have G1:Blk w4 (w.heap.size+1) 26 #[.int .i64 0]:=by rw[hw4];exact(((((((E1.far (p:=⟨w.heap.size,0,none⟩) (by simp) (.string p.fr)).far (p:=⟨w.heap.size,1,none⟩) (by simp) (.bool p.wo)).far (p:=⟨w.heap.size,2,none⟩) (by simp) (.slice a2 k2 c2)).far (p:=⟨w.heap.size,3,none⟩) (by simp) (.slice a3 k3 c3)).far (p:=⟨w.heap.size,4,none⟩) (by simp) (.slice a4 k4 c4)).far (p:=⟨w.heap.size,5,none⟩) (by simp) (.slice a5 k5 c5)).set_ 0 (.int .i64 0)).alloc (.cells #[] 100)
   clear hw4 e0 e1 e2 e3 e4 e5 f0 g0 h0;have e0:w4.cell? ⟨w.heap.size,0,none⟩=some (.string p.fr):=G0.cell 0;have e1:w4.cell? ⟨w.heap.size,1,none⟩=some (.bool p.wo):=G0.cell 1;have e2:w4.cell? ⟨w.heap.size,2,none⟩=some (.slice a2 k2 c2):=G0.cell 2;have e3:w4.cell? ⟨w.heap.size,3,none⟩=some (.slice a3 k3 c3):=G0.cell 3;have e4:w4.cell? ⟨w.heap.size,4,none⟩=some (.slice a4 k4 c4):=G0.cell 4;have e5:w4.cell? ⟨w.heap.size,5,none⟩=some (.slice a5 k5 c5):=G0.cell 5;have g0:w4.cell? ⟨w.heap.size+1,0,none⟩=some (.int .i64 0):=G1.cell 0;simp[Leaves,settle,results,Tryz.results21,go_sem,e0,e1,e2,e3,e4,e5,g0];rw[h1.out,h2.out];refine⟨pkV p (.slice a2 k2 c2) (.slice a3 k3 c3) (.slice a4 k4 c4) (.slice a5 k5 c5),R1,rfl,((((F0.outP HF.out (fun i hi=>by omega)).outP F2 (fun i hi=>by omega)).outP HF3.out (fun i hi=>hi.elim))).outP F4 (fun i hi=>by omega),hR1.out,fun b hb=>?_,hy3.out.mono (fun b hb=>⟨hb,F4.block b (XH (hlt1.out b hb) (XI F2.size HF3.out.size)) (by have:=hn1.out b hb;omega)⟩) (Gle.refl _)⟩;rcases hR2.out b hb with g|⟨g1,g2⟩
   ·exact .inl g
   ·refine .inr ⟨XH g1 (XI F2.size (XI HF3.out.size F4.size)),?_⟩;rcases g2 with g2|g2
    ·omega
    ·exact XI F0.size g2
  ·obtain⟨h1,h2⟩:=hz.out (.inr hE);have h1:=hid h1;have h2:=hid h2
   go_wp2_with fail
   refine leaves_cons (f:=53) (args:= #[.pointer (some ⟨w.heap.size,0,none⟩),.pointer (some ⟨w.heap.size+1,0,none⟩)]) (by simp) (by simp[go_sem]) ?_;refine(O6 w.heap.size (w.heap.size+1) _).mono ?_
   rintro e u' w4 ⟨rfl,rfl,hw4⟩
   have F4:Fr (fun k=>k=w.heap.size∨k=w.heap.size+1) w3 w4:=by rw[hw4];exact((((((((Fr.refl (fun k=>k=w.heap.size∨k=w.heap.size+1) w3).set_ (.inl rfl) 0 (.string ⟨#[]⟩)).set_ (.inl rfl) 1 (.bool false)).set_ (.inl rfl) 2 (.slice none 0 0)).set_ (.inl rfl) 3 (.slice none 0 0)).set_ (.inl rfl) 4 (.slice none 0 0)).set_ (.inl rfl) 5 (.slice none 0 0)).set_ (.inr rfl) 0 (.int .i64 1)).alloc_ (.cells #[] 100)
   have G0:Blk w4 w.heap.size 59 #[.string ⟨#[]⟩,.bool false,.slice none 0 0,.slice none 0 0,.slice none 0 0,.slice none 0 0]:=by rw[hw4];exact(((((((E0.set_ 0 (.string ⟨#[]⟩)).set_ 1 (.bool false)).set_ 2 (.slice none 0 0)).set_ 3 (.slice none 0 0)).set_ 4 (.slice none 0 0)).set_ 5 (.slice none 0 0)).far (p:=⟨w.heap.size+1,0,none⟩) (by simp) (.int .i64 1)).alloc (.cells #[] 100)
   have G1:Blk w4 (w.heap.size+1) 26 #[.int .i64 1]:=by rw[hw4];exact(((((((E1.far (p:=⟨w.heap.size,0,none⟩) (by simp) (.string ⟨#[]⟩)).far (p:=⟨w.heap.size,1,none⟩) (by simp) (.bool false)).far (p:=⟨w.heap.size,2,none⟩) (by simp) (.slice none 0 0)).far (p:=⟨w.heap.size,3,none⟩) (by simp) (.slice none 0 0)).far (p:=⟨w.heap.size,4,none⟩) (by simp) (.slice none 0 0)).far (p:=⟨w.heap.size,5,none⟩) (by simp) (.slice none 0 0)).set_ 0 (.int .i64 1)).alloc (.cells #[] 100)
   clear hw4 e0 e1 e2 e3 e4 e5 f0 g0 h0;have e0:w4.cell? ⟨w.heap.size,0,none⟩=some (.string ⟨#[]⟩):=G0.cell 0;have e1:w4.cell? ⟨w.heap.size,1,none⟩=some (.bool false):=G0.cell 1;have e2:w4.cell? ⟨w.heap.size,2,none⟩=some (.slice none 0 0):=G0.cell 2;have e3:w4.cell? ⟨w.heap.size,3,none⟩=some (.slice none 0 0):=G0.cell 3;have e4:w4.cell? ⟨w.heap.size,4,none⟩=some (.slice none 0 0):=G0.cell 4;have e5:w4.cell? ⟨w.heap.size,5,none⟩=some (.slice none 0 0):=G0.cell 5;have g0:w4.cell? ⟨w.heap.size+1,0,none⟩=some (.int .i64 1):=G1.cell 0;simp[Leaves,settle,results,Tryz.results21,go_sem,e0,e1,e2,e3,e4,e5,g0];rw[h1.out,h2.out];refine⟨.agg He,R1,rfl,((((F0.outP HF.out (fun i hi=>by omega)).outP F2 (fun i hi=>by omega)).outP HF3.out (fun i hi=>hi.elim))).outP F4 (fun i hi=>by omega),hR1.out,fun b hb=>?_,S8 _ _⟩;rcases hR2.out b hb with g|⟨g1,g2⟩
   ·exact .inl g
   ·refine .inr ⟨XH g1 (XI F2.size (XI HF3.out.size F4.size)),?_⟩;rcases g2 with g2|g2
    ·omega
    ·exact XI F0.size g2
 ·obtain⟨h1,h2⟩:=hz.out (.inl hr);have h1:=hid h1;have h2:=hid h2;have hr':r≠⟨#[]⟩:=fun q=>hr (by rw[q];rfl);have hb0:ByteArray.toList ⟨#[]⟩=[]:=by rw[ByteArray.toList_eq]
  have hb2:¬r.toList=[]:=fun q=>hr (All q);have hb1:(r.toList==[])=false:=by simp[hb2]
  go_wp2_with fail
  have D0:Blk ((((((w1.setCell ⟨w.heap.size,0,none⟩ (.string p.fr)).setCell ⟨w.heap.size,1,none⟩ (.bool p.wo)).setCell ⟨w.heap.size,2,none⟩ (.slice a2 k2 c2)).setCell ⟨w.heap.size,3,none⟩ (.slice a3 k3 c3)).setCell ⟨w.heap.size,4,none⟩ (.slice a4 k4 c4)).setCell ⟨w.heap.size,5,none⟩ (.slice a5 k5 c5)) w.heap.size 59 #[.string p.fr,.bool p.wo,.slice a2 k2 c2,.slice a3 k3 c3,.slice a4 k4 c4,.slice a5 k5 c5]:=((((((C0.set_ 0 (.string p.fr)).set_ 1 (.bool p.wo)).set_ 2 (.slice a2 k2 c2)).set_ 3 (.slice a3 k3 c3)).set_ 4 (.slice a4 k4 c4)).set_ 5 (.slice a5 k5 c5));have D1:=((((((C1.far (p:=⟨w.heap.size,0,none⟩) (by simp) (.string p.fr)).far (p:=⟨w.heap.size,1,none⟩) (by simp) (.bool p.wo)).far (p:=⟨w.heap.size,2,none⟩) (by simp) (.slice a2 k2 c2)).far (p:=⟨w.heap.size,3,none⟩) (by simp) (.slice a3 k3 c3)).far (p:=⟨w.heap.size,4,none⟩) (by simp) (.slice a4 k4 c4)).far (p:=⟨w.heap.size,5,none⟩) (by simp) (.slice a5 k5 c5));have F2:Fr (fun k=>k=w.heap.size) w1 _:=(((((((Fr.refl (fun k=>k=w.heap.size) w1).set_ rfl 0 (.string p.fr)).set_ rfl 1 (.bool p.wo)).set_ rfl 2 (.slice a2 k2 c2)).set_ rfl 3 (.slice a3 k3 c3)).set_ rfl 4 (.slice a4 k4 c4)).set_ rfl 5 (.slice a5 k5 c5));generalize hw2:((((((w1.setCell ⟨w.heap.size,0,none⟩ (.string p.fr)).setCell ⟨w.heap.size,1,none⟩ (.bool p.wo)).setCell ⟨w.heap.size,2,none⟩ (.slice a2 k2 c2)).setCell ⟨w.heap.size,3,none⟩ (.slice a3 k3 c3)).setCell ⟨w.heap.size,4,none⟩ (.slice a4 k4 c4)).setCell ⟨w.heap.size,5,none⟩ (.slice a5 k5 c5))=w2 at D0 D1 F2 ⊢;clear r0 hw2;refine leaves_cons (f:=53) (args:= #[.pointer (some ⟨w.heap.size,0,none⟩),.pointer (some ⟨w.heap.size+1,0,none⟩)]) (by simp) (by simp[go_sem]) ?_;refine(O6 w.heap.size (w.heap.size+1) _).mono ?_
  rintro e u' w4 ⟨rfl,rfl,hw4⟩
  have F4:Fr (fun k=>k=w.heap.size∨k=w.heap.size+1) w2 w4:=by rw[hw4];exact((((((((Fr.refl (fun k=>k=w.heap.size∨k=w.heap.size+1) w2).set_ (.inl rfl) 0 (.string ⟨#[]⟩)).set_ (.inl rfl) 1 (.bool false)).set_ (.inl rfl) 2 (.slice none 0 0)).set_ (.inl rfl) 3 (.slice none 0 0)).set_ (.inl rfl) 4 (.slice none 0 0)).set_ (.inl rfl) 5 (.slice none 0 0)).set_ (.inr rfl) 0 (.int .i64 1)).alloc_ (.cells #[] 100)
  have G0:Blk w4 w.heap.size 59 #[.string ⟨#[]⟩,.bool false,.slice none 0 0,.slice none 0 0,.slice none 0 0,.slice none 0 0]:=by rw[hw4];exact(((((((D0.set_ 0 (.string ⟨#[]⟩)).set_ 1 (.bool false)).set_ 2 (.slice none 0 0)).set_ 3 (.slice none 0 0)).set_ 4 (.slice none 0 0)).set_ 5 (.slice none 0 0)).far (p:=⟨w.heap.size+1,0,none⟩) (by simp) (.int .i64 1)).alloc (.cells #[] 100)
  have G1:Blk w4 (w.heap.size+1) 26 #[.int .i64 1]:=by rw[hw4];exact(((((((D1.far (p:=⟨w.heap.size,0,none⟩) (by simp) (.string ⟨#[]⟩)).far (p:=⟨w.heap.size,1,none⟩) (by simp) (.bool false)).far (p:=⟨w.heap.size,2,none⟩) (by simp) (.slice none 0 0)).far (p:=⟨w.heap.size,3,none⟩) (by simp) (.slice none 0 0)).far (p:=⟨w.heap.size,4,none⟩) (by simp) (.slice none 0 0)).far (p:=⟨w.heap.size,5,none⟩) (by simp) (.slice none 0 0)).set_ 0 (.int .i64 1)).alloc (.cells #[] 100)
  clear hw4 e0 e1 e2 e3 e4 e5 f0 g0 h0;have e0:w4.cell? ⟨w.heap.size,0,none⟩=some (.string ⟨#[]⟩):=G0.cell 0;have e1:w4.cell? ⟨w.heap.size,1,none⟩=some (.bool false):=G0.cell 1;have e2:w4.cell? ⟨w.heap.size,2,none⟩=some (.slice none 0 0):=G0.cell 2;have e3:w4.cell? ⟨w.heap.size,3,none⟩=some (.slice none 0 0):=G0.cell 3;have e4:w4.cell? ⟨w.heap.size,4,none⟩=some (.slice none 0 0):=G0.cell 4;have e5:w4.cell? ⟨w.heap.size,5,none⟩=some (.slice none 0 0):=G0.cell 5;have g0:w4.cell? ⟨w.heap.size+1,0,none⟩=some (.int .i64 1):=G1.cell 0;simp[Leaves,settle,results,Tryz.results21,go_sem,e0,e1,e2,e3,e4,e5,g0];rw[h1.out,h2.out];refine⟨.agg He,R1,rfl,((F0.outP HF.out (fun i hi=>by omega)).outP F2 (fun i hi=>by omega)).outP F4 (fun i hi=>by omega),hR1.out,fun b hb=>?_,S8 _ _⟩;rcases hR2.out b hb with g|⟨g1,g2⟩
  ·exact .inl g
  ·refine .inr ⟨XH g1 (XI F2.size F4.size),?_⟩;rcases g2 with g2|g2
   ·omega
   ·exact XI F0.size g2
theorem Pk.okB_ok[Glob]{p:Pk}(h:p.okB):p.ok:=by
 obtain⟨h0,⟨m1,m2⟩,⟨s1,s2⟩,⟨g1,g2⟩,⟨w1,w2⟩⟩:=h;exact⟨h0,by omega,fun x hx=>(m2 x hx).1,by omega,fun x hx=>⟨(s2 x hx).1,(s2 x hx).2.1,(s2 x hx).2.2.1,(s2 x hx).2.2.2.1⟩,by omega,fun x hx=>(g2 x hx).1,by omega,fun x hx=>(w2 x hx).1⟩
theorem Aiv[Glob][Tabs](s:ByteArray)(hs:s.size≤1000000000000)(w:World)(R:Nat→Prop)(hlt:∀b,R b→b<w.heap.size)(hg:Cc w (fun _=>False)):Calls Tryz.prog 21 #[.string s] w (Aaq R w (Iy s).1 (Iy s).2):=by
 unfold Iy Ad4;rcases e:pkR s with _|⟨p,r⟩
 ·exact Ait s (.string s) w R hlt hg (Afx e hs)
 ·have hok:p.ok:=Pk.okB_ok (Aos.some _ _ e).1;refine Amb s r p w R hlt hg (Afk e hs) (Ug p hok) _ _ (fun h1 h2=>?_) (fun h=>?_)
  ·simp only;rw[if_neg (fun h:r.size≠0∨p.err≠0=>h.elim (fun h=>h h1) (fun h=>h h2))];exact⟨rfl,rfl⟩
  ·simp only;rw[if_pos (show r.size≠0∨p.err≠0 from h)];exact⟨rfl,rfl⟩
theorem W1[Glob][Tabs](s:ByteArray)(hs:s.size≤1000000000000):Fun Tryz.prog 21 [.c (.v (.string s))] [.c (.agg (Iy s).1.row),.c (.v (.int .i64 (Iy s).2))]:=by
 refine⟨⟨_,Tryz.func21,by kernel_rfl,by kernel_rfl⟩,fun w R xs hlt hp hg=>?_⟩;obtain⟨x,rfl⟩:∃x,xs=[x]:=by
  have hl:=hp.len;rcases xs with _|⟨x,_|⟨x',xs⟩⟩<;>simp at hl
  exact⟨x,rfl⟩
 have hx:x=.string s:=Cd (hp.ok 0 _ _ rfl rfl);subst hx;refine(Aiv s hs w R hlt (hg.at_ (Dk (Fr.refl (fun _=>False) w) fun _ h=>h.elim) fun b h=>h.elim)).mono ?_
 rintro e w' ⟨x,R',rfl,hf,h1,h2,h3⟩
 have hnb:∀b,¬A4 [.c (.agg (Iy s).1.row),.c (.v (.int .i64 (Iy s).2))] [x,.int .i64 (Iy s).2] b:=fun b=>Fi (by intro p hp;rcases XC.1 hp with rfl|hp;exact⟨_,rfl⟩;rcases XC.1 hp with rfl|hp;exact⟨_,rfl⟩;cases hp);refine⟨[x,.int .i64 (Iy s).2],R',rfl,⟨hf.os,hf.tape,hf.output,hf.size,fun k hk _=>hf.block k hk id⟩,h1,fun b hb=>(h2 b hb).imp id (fun g=>⟨g.1,.inr g.2⟩),⟨rfl,fun i p y q1 q2=>?_,fun i j T sz rows T' sz' rows' x y b hij q1=>?_,fun b hb=>(hnb b hb).elim⟩,fun b hb=>(hnb b hb).elim⟩
 ·rcases i with _|_|i
  ·cases q1;cases q2;exact h3
  ·cases q1;cases q2;exact .v _
  ·simp at q1
 ·rcases i with _|_|i<;>simp at q1
def Aqj(n:Nd):ByteArray:=n.nm
theorem H7[Glob][Tabs](n:Nt)(h:n.ok):Fun Tryz.prog 8 [.c (.agg n.row)] [.c (.v (.int .i64 n.err))]:=by
 have l1:(n.ns.map Nd.row).length=n.ns.length:=ZE ..;have l2:(n.ls.map Lt.row).length=n.ls.length:=ZE ..;have b1:=h.nsl;have b2:=h.lsl;refine A9 Aaj rfl ?_;(refine goI ?_;repeat (intro gg;refine goI ?_));rw[l1];(refine Ab (fun q1=>?_) (fun q1=>?_)<;>rw[q1])
 ·rw[Nt.err_many (.inl (by have:=ZV q1;omega))];(refine goI ?_;repeat (intro gg;refine goI ?_));(exact⟨[],aI⟩)
 ·have q1':¬6<n.ns.length:=by have:=ZW q1;omega
  (refine goI ?_;repeat (intro gg;refine goI ?_));rw[l2];(refine Ab (fun q2=>?_) (fun q2=>?_)<;>rw[q2])
  ·rw[Nt.err_many (.inr (by have:=ZV q2;omega))];(refine goI ?_;repeat (intro gg;refine goI ?_));(exact⟨[],aI⟩)
  ·have q2':¬20<n.ls.length:=by have:=ZW q2;omega
   have hm:¬(6<n.ns.length∨20<n.ls.length):=fun q=>q.elim q1' q2';(refine goI ?_;repeat (intro gg;refine goI ?_))
   rename Nat=>g0
   (refine⟨[],none,{q:Nat×List (ByteArray×V)//q.1≤n.ns.length∧(∀j,(h:j<n.ns.length)→j<q.1→(n.ns[j]).err=0)∧H3 q.2 ((n.ns.take q.1).map Aqj)},[1,3,23,24],fun⟨⟨k,E⟩,hk,h0,hE⟩=>[(25,.v (.int .i64 k))],[16],fun⟨⟨k,E⟩,hk,h0,hE⟩=>[(336,⟨g0,.q (Mj (An E)),0,[]⟩)],fun⟨⟨k,E⟩,hk,h0,hE⟩=>n.ns.length-k,trivial,fun _=>⟨trivial,fun _=>⟨⟨(0,[]),ZU _,fun j _ h=>absurd h (Nat.not_lt_zero _),H3.nil⟩,tI,Ah _ _,tI,Ag _ _⟩⟩,fun⟨⟨k,E⟩,hk,h0,hE⟩=>?_⟩);(refine goI ?_;repeat (intro gg;refine goI ?_));rw[l1];(refine Ab (fun q3=>?_) (fun q3=>?_)<;>rw[q3])
   ·have hlt:k<n.ns.length:=by have:=ZV q3;omega
    (refine goI ?_;repeat (intro gg;refine goI ?_));refine⟨k,_,rfl,Am hlt,?_⟩;(refine goI ?_;repeat (intro gg;refine goI ?_));refine .inl (cX (Adn (n.ns[k]) (h.ns _ (ZK hlt))) ?_);(refine goI ?_;repeat (intro gg;refine goI ?_));(refine Ab (fun q4=>?_) (fun q4=>?_)<;>rw[q4])
    ·have y:(n.ns[k]).err≠0:=by simpa using q4
     have e1:=Bb (e:=Nd.err) hlt h0 y;rw[Nt.err_each hm (by rw[e1];exact y),e1];(refine goI ?_;repeat (intro gg;refine goI ?_));(exact⟨[],aI⟩)
    ·have z:(n.ns[k]).err=0:=by simpa using q4
     (refine goI ?_;repeat (intro gg;refine goI ?_));refine⟨_,_,rfl,Cw rfl,Pq _ _ _,?_⟩;(refine goI ?_;repeat (intro gg;refine goI ?_));have e:=Xy E n.ns[k].nm (.v (.bool true));have hE':H3 (put E n.ns[k].nm (.v (.bool true))) ((n.ns.take (k+1)).map Aqj):=by
      rw[XT,ZC hlt,ZI];exact hE.put _ _ (Cw rfl)
     (exact⟨none,trivial,fun gr=>⟨⟨(k+1,put E n.ns[k].nm (.v (.bool true))),by dsimp only;omega,up1 (p:=fun j h=>(n.ns[j]).err=0) h0 (fun _=>z),hE'⟩,by show n.ns.length-(k+1)<n.ns.length-k;omega,tI,tI,⟨congrArg (fun x=>some (Ent.mk g0 (.q (Mj x)) 0 [])) e,trivial⟩,tI⟩⟩)
   ·have hge:¬k<n.ns.length:=by have:=ZW q3;omega
    have hz:=A8 (e:=Nd.err) (l:=n.ns) (fun i hi=>h0 i hi (by dsimp only;omega));rw[List.take_of_length_le (by dsimp only;omega)]at hE;have hE:H3 E (n.ns.map Aqj):=hE;have ha:=hE.all;have hle:=hE.le;rw[ZE]at ha hle;(refine goI ?_;repeat (intro gg;refine goI ?_))
    (try refine⟨_,rfl,?_⟩)
    (refine goI ?_;repeat (intro gg;refine goI ?_));rw[Wg,l1];(refine Ab (fun q5=>?_) (fun q5=>?_)<;>rw[q5])
    ·have q5':E.length<n.ns.length:=by have:=ZV q5;omega
     rw[Nt.err_two hm hz (fun q=>by have:=ha.2 q;omega)];(refine goI ?_;repeat (intro gg;refine goI ?_));(exact⟨[],aI⟩)
    ·have q5':¬E.length<n.ns.length:=by have:=ZW q5;omega
     rw[Nt.err_ls hm hz (ha.1 (by omega))];(refine goI ?_;repeat (intro gg;refine goI ?_));(refine⟨[],none,{k:Nat//k≤n.ls.length∧∀j,(h:j<n.ls.length)→j<k→Gc n.ns.length n.ls[j]=0},[1,45,46],fun⟨k,hk,h0⟩=>[(47,.v (.int .i64 (k:Int)))],[16],fun⟨k,hk,h0⟩=>[],fun⟨k,hk,h0⟩=>n.ls.length-k,trivial,fun _=>⟨trivial,fun _=>⟨⟨0,ZU _,fun j _ h=>absurd h (Nat.not_lt_zero _)⟩,tI,Ah _ _,tI,Ag _ _⟩⟩,fun⟨k,hk,h0⟩=>?_⟩);(refine goI ?_;repeat (intro gg;refine goI ?_));rw[l2];(refine Ab (fun q6=>?_) (fun q6=>?_)<;>rw[q6])
     ·have hlt:k<n.ls.length:=by have:=ZV q6;omega
      (refine goI ?_;repeat (intro gg;refine goI ?_));refine⟨k,_,rfl,Am hlt,?_⟩;(refine goI ?_;repeat (intro gg;refine goI ?_));have hFst:=fun y=>Bb (e:=Gc n.ns.length) hlt h0 y;have hRd:=W1 n.ls[k].tx (h.ls _ (ZK hlt));(refine Ab (fun q7=>?_) (fun q7=>?_)<;>rw[q7])
      ·have y:Gc n.ns.length n.ls[k]=3:=Tk (.inl (ZV q7));rw[hFst (by rw[y];decide),y];(refine goI ?_;repeat (intro gg;refine goI ?_));(exact⟨[],aI⟩)
      ·have q7':¬n.ls[k].to<0:=ZW q7;(refine goI ?_;repeat (intro gg;refine goI ?_));rw[l1];(refine Ab (fun q8=>?_) (fun q8=>?_)<;>rw[q8])
       ·have y:Gc n.ns.length n.ls[k]=3:=Tk (.inr (ZV q8));rw[hFst (by rw[y];decide),y];(refine goI ?_;repeat (intro gg;refine goI ?_));(exact⟨[],aI⟩)
       ·have q8':¬(n.ns.length:Int)≤n.ls[k].to:=ZW q8;have e1:Gc n.ns.length n.ls[k]=(Iy n.ls[k].tx).2:=Xh (fun q=>q.elim q7' q8');generalize Iy n.ls[k].tx=F at *;(refine goI ?_;repeat (intro gg;refine goI ?_));refine .inl (cX hRd ?_);(refine goI ?_;repeat (intro gg;refine goI ?_));(refine Ab (fun q9=>?_) (fun q9=>?_)<;>rw[q9])
        ·have y:F.2≠0:=by simpa using q9
         rw[hFst (by rw[e1];exact y),e1];(refine goI ?_;repeat (intro gg;refine goI ?_));(exact⟨[],aI⟩)
        ·have z:F.2=0:=by simpa using q9
         (refine goI ?_;repeat (intro gg;refine goI ?_));(exact⟨none,trivial,fun _=>⟨⟨k+1,by omega,up1 (p:=fun j h=>Gc n.ns.length n.ls[j]=0) h0 (fun _=>e1.trans z)⟩,by show n.ls.length-(k+1)<n.ls.length-k;omega,tI,tI,tI,tI⟩⟩)
     ·have hge:¬k<n.ls.length:=by have:=ZW q6;omega
      rw[A8 (e:=Gc n.ns.length) (l:=n.ls) (fun i hi=>h0 i hi (by omega))];(refine goI ?_;repeat (intro gg;refine goI ?_));(exact⟨[],aI⟩)
instance:OneRow Lt.row 2:=⟨fun _=>rfl,fun x u hu=>by simp only[Lt.row,XC,XD,or_false]at hu;rcases hu with rfl|rfl<;>exact⟨_,rfl,rfl⟩⟩
theorem Ak5{H:Nat→Option Ent}{l:List Nd}:∀row∈l.map Nd.row,row.length=12∧Hl H row:=by
 intro row hr;obtain⟨n,_,rfl⟩:=XO.1 hr;exact⟨rfl,⟨rfl,⟨rfl,⟨trivial,⟨trivial,⟨trivial,⟨trivial,⟨rfl,⟨rfl,⟨rfl,⟨rfl,⟨rfl,⟨trivial,trivial⟩⟩⟩⟩⟩⟩⟩⟩⟩⟩⟩⟩⟩
theorem Ur[Glob](cl:Bool)(l:List Nd)(hl:l.length≤1000):Fun Tryz.prog 56 [.c (.sl cl (l.map Nd.row))] [.o 44 12 (l.map Nd.row)]:=by
 refine A9 Gh rfl ?_;(refine goI ?_;repeat (intro gg;refine goI ?_));rename_i b;have hb:=gg;cases b with
 |true=>
  have e:l.map Nd.row=[]:=hb rfl;(refine goI ?_;repeat (intro gg;refine goI ?_));rw[e];(exact⟨[],aI⟩)
 |false=>
  (refine goI ?_;repeat (intro gg;refine goI ?_));refine⟨Ak5,?_⟩;(refine goI ?_;repeat (intro gg;refine goI ?_));refine⟨lI,lI,?_⟩;(refine goI ?_;repeat (intro gg;refine goI ?_));exact⟨[80],Ah9 rfl Tf (by decide) (by decide) (.nil _)⟩
theorem Pa[Glob](cl:Bool)(l:List Lt)(hl:l.length≤1000):Fun Tryz.prog 57 [.c (.sl cl (l.map Lt.row))] [.o 57 2 (l.map Lt.row)]:=by
 refine A9 Fa rfl ?_;(refine goI ?_;repeat (intro gg;refine goI ?_));rename_i b;have hb:=gg;cases b with
 |true=>
  have e:l.map Lt.row=[]:=hb rfl;(refine goI ?_;repeat (intro gg;refine goI ?_));rw[e];(exact⟨[],aI⟩)
 |false=>
  (refine goI ?_;repeat (intro gg;refine goI ?_));refine⟨Zv,?_⟩;(refine goI ?_;repeat (intro gg;refine goI ?_));refine⟨lI,lI,?_⟩;(refine goI ?_;repeat (intro gg;refine goI ?_));(exact⟨[80],aI⟩)
theorem Oc[Glob](n:Nd)(g:n.Good):Fun Tryz.prog 58 [.c (.agg n.row)] [.c (.agg n.row)]:=by
 have i1:=(Re g.ms).1;have i2:=(Am5 g.rs).len;have i3:=(Al0 g.sv).1;have i4:=(Amm g.gs).1;have i5:=Amo g.wh;have c1:=(Qw false n.ms (by omega)).frz;have c2:=(Ut false n.rs (by omega)).frz;have c3:=(X4 false n.sv (by omega)).frz;have c4:=(Xg false n.gs (by omega)).frz;have c5:=(Uk false n.wh (by omega)).frz;simp only[List.map_cons,List.map_nil,Go.Proofs.YtchbkgnobpejnaaGreatDoor.frz]at c1 c2 c3 c4 c5;refine Abi Wn rfl ?_;(refine goI ?_;repeat (intro gg;refine goI ?_));(refine⟨_,_,false,aI,c1,Af,nI,?_⟩);(refine goI ?_;repeat (intro gg;refine goI ?_));(refine⟨_,_,false,aI,c2,Af,nI,?_⟩);(refine goI ?_;repeat (intro gg;refine goI ?_));(refine⟨_,_,false,aI,c3,Af,nI,?_⟩);(refine goI ?_;repeat (intro gg;refine goI ?_));(refine⟨_,_,false,aI,c4,Af,nI,?_⟩);(refine goI ?_;repeat (intro gg;refine goI ?_));(refine⟨_,_,false,aI,c5,Af,nI,?_⟩);(refine goI ?_;repeat (intro gg;refine goI ?_));exact⟨_,[],.cell1 rfl rfl rfl rfl rfl rfl .nil,.same (Pf Vv) (.nil _)⟩
theorem Amy[Glob](n:Nt)(hg:∀x∈n.ns,x.Good)(l1:n.ns.length≤6)(l2:n.ls.length≤20):Fun Tryz.prog 25 [.c (.agg n.row)] [.c (.agg n.row)]:=by
 have c1:=Ur false n.ns (by omega);have c2:=(Pa false n.ls (by omega)).frz;simp only[List.map_cons,List.map_nil,Go.Proofs.YtchbkgnobpejnaaGreatDoor.frz]at c2;refine Abi Qu rfl ?_;(refine goI ?_;repeat (intro gg;refine goI ?_));(refine⟨_,_,false,.same Od (.nil _),c1,Af,nI,?_⟩);(refine goI ?_;repeat (intro gg;refine goI ?_));(refine⟨_,_,false,aI,c2,Af,nI,?_⟩);(refine goI ?_;repeat (intro gg;refine goI ?_));rename_i gb gz gn;(refine⟨[],none,{k:Nat//k≤n.ns.length},[1,2,14,15],fun⟨k,hk⟩=>[(16,.v (.int .i64 (k:Int)))],[16,32],fun⟨k,hk⟩=>[(112,⟨gn 112,.t 44,12,n.ns.map Nd.row⟩)],fun⟨k,hk⟩=>n.ns.length-k,trivial,fun _=>⟨trivial,fun _=>⟨⟨0,ZU _⟩,tI,Ah _ _,tI,Ag _ _⟩⟩,fun⟨k,hk⟩=>?_⟩);have hl:(n.ns.map Nd.row).length=n.ns.length:=ZE ..;(refine goI ?_;repeat (intro gg;refine goI ?_));(refine Ab (fun h=>?_) (fun h=>?_)<;>rw[h])
 ·have hlt:k<n.ns.length:=by have:=ZV h;simpa using this
  have e:(n.ns.map Nd.row).set k (n.ns[k].row)=n.ns.map Nd.row:=by
   apply List.ext_getElem
   ·simp
   ·intro i h1 h2;rw[List.getElem_set];split
    ·next q=>subst q;simp
    ·rfl
  (refine goI ?_;repeat (intro gg;refine goI ?_));refine⟨k,_,rfl,Am hlt,?_⟩;(refine goI ?_;repeat (intro gg;refine goI ?_));(refine⟨_,_,false,.same (Pf Vv) (.nil _),Oc n.ns[k] (hg _ (ZK hlt)),Af,nI,?_⟩);(refine goI ?_;repeat (intro gg;refine goI ?_));refine⟨k,_,rfl,Am hlt,?_⟩;(refine goI ?_;repeat (intro gg;refine goI ?_));(exact⟨none,trivial,fun gr=>⟨⟨k+1,by omega⟩,by show n.ns.length-(k+1)<n.ns.length-k;omega,tI,tI,⟨congrArg (fun r=>(some ⟨gn 112,.t 44,12,r⟩:Option Ent)) e,trivial⟩,tI⟩⟩)
 ·(refine goI ?_;repeat (intro gg;refine goI ?_));exact⟨_,[],.cell1 rfl rfl rfl rfl rfl rfl .nil,.bora (Jt rfl rfl Tf (by decide) (.same Dj .nil)) (.nil _)⟩
theorem Ajj [Glob] (c d : Bool) (a b : List Mb) (ha : a.length ≤ 9223372036854775807) : Fun Tryz.prog 22 [.c (.sl c (a.map Mb.row)), .c (.sl d (b.map Mb.row))] [.c (.v (.bool (Da Mb.same a b)))] := by
  refine A9 Kf rfl ?_
  (refine goI ?_; repeat (intro gg; refine goI ?_))
  rw [ZE, ZE]
  (refine Ab (fun h => ?_) (fun h => ?_) <;> rw [h])
  · (refine goI ?_; repeat (intro gg; refine goI ?_))
    rw [Mk (fun e => by rw [e] at h; simp at h)]
    (exact ⟨[], aI⟩)
  · have hab : a.length = b.length := by have h' : ((a.length : Int) != (b.length : Int)) = false := h
                                         simp at h'; omega
    (refine goI ?_; repeat (intro gg; refine goI ?_))
    (refine ⟨[], none, {k : Nat // k ≤ a.length ∧ ∀ j, (h : j < a.length) → j < k → Mb.same a[j] (b[j]'(by omega)) = true}, [0, 1], fun ⟨k, hk, h0⟩ => [(5, .v (.int .i64 k))], [], fun ⟨k, hk, h0⟩ => [], fun ⟨k, hk, h0⟩ => a.length - k, trivial, fun _ => ⟨trivial, fun _ => ⟨⟨0, by omega, fun j _ h => by omega⟩, tI, Ah _ _, tI, Ag _ _⟩⟩, fun ⟨k, hk, h0⟩ => ?_⟩)
    (refine goI ?_; repeat (intro gg; refine goI ?_))
    rw [ZE]
    (refine Ab (fun h2 => ?_) (fun h2 => ?_) <;> rw [h2])
    · have hlt : k < a.length := (by have := ZV h2; omega)
      have hlt' : k < b.length := by omega
      (refine goI ?_; repeat (intro gg; refine goI ?_))
      refine ⟨k, _, rfl, Am hlt, ?_⟩
      (refine goI ?_; repeat (intro gg; refine goI ?_))
      refine ⟨k, _, rfl, Am hlt', ?_⟩
      (refine goI ?_; repeat (intro gg; refine goI ?_))
      (refine Ab (fun h3 => ?_) (fun h3 => ?_) <;> rw [h3])
      · (refine goI ?_; repeat (intro gg; refine goI ?_))
        rw [Me hlt hlt' (Dt (b := Mb.same a[k] b[k]) h3)]
        (exact ⟨[], aI⟩)
      · (refine goI ?_; repeat (intro gg; refine goI ?_))
        (exact ⟨none, trivial, fun _ => ⟨⟨k + 1, by omega, up1 (p := fun j h => Mb.same a[j] (b[j]'(by omega)) = true) h0 (fun _ => Dq (b := Mb.same a[k] b[k]) h3)⟩, by show a.length - (k + 1) < a.length - k; omega, tI, tI, tI, tI⟩⟩)
    · have hge : ¬ k < a.length := (by have := ZW h2; omega)
      (refine goI ?_; repeat (intro gg; refine goI ?_))
      rw [Hm hab (fun i hi _ => h0 i hi (by omega))]
      (exact ⟨[], aI⟩)
namespace Pl
def Wh.same(g h:Wh):Bool:=(g.nd.toList==h.nd.toList)&&((g.pl.x==h.pl.x)&&((g.pl.y==h.pl.y)&&((g.pl.z==h.pl.z)&&((g.pl.h==h.pl.h)&&((g.pl.s==h.pl.s)&&true)))))
theorem Wh.same_iff{g h:Wh}:Wh.same g h=true↔g=h:=by
 obtain⟨a,b,c,d,e,f⟩:=g;obtain⟨a',b',c',d',e',f'⟩:=h;have tl:∀a b:ByteArray,a.toList=b.toList↔a=b:=fun a b=>⟨toList_inj,fun h=>by rw[h]⟩;simp only[Wh.same,Bool.and_true,ZO,ZR,tl,Wh.mk.injEq,Pc.mk.injEq]
end Pl
theorem U1[Glob](c:Bool)(l:List Wh)(hl:l.length≤9223372036854775807)(hw:∀x∈l,x.ok):Fun Tryz.prog 33 [.c (.sl c (l.map Wh.row))] [.c (.v (.int .i64 (G4 l)))]:=by
 refine A9 Lk rfl ?_;(refine goI ?_;repeat (intro gg;refine goI ?_));rw[ZE];(refine Ab (fun h1=>?_) (fun h1=>?_)<;>rw[h1])
 ·(refine goI ?_;repeat (intro gg;refine goI ?_));have e:G4 l=2:=Ie (by have:=ZV h1;omega);rw[e];(exact⟨[],aI⟩)
 ·have h1':¬20<l.length:=(by have:=ZW h1;omega);(refine goI ?_;repeat (intro gg;refine goI ?_));(refine⟨[],none,{k:Nat//k≤l.length∧∀j,(h:j<l.length)→j<k→Wh.err l[j]=0},[0],fun⟨k,hk,h0⟩=>[(3,.v (.int .i64 k))],[],fun⟨k,hk,h0⟩=>[],fun⟨k,hk,h0⟩=>l.length-k,trivial,fun _=>⟨trivial,fun _=>⟨⟨0,ZU _,fun j _ h=>absurd h (Nat.not_lt_zero _)⟩,tI,Ah _ _,tI,Ag _ _⟩⟩,fun⟨k,hk,h0⟩=>?_⟩);(refine goI ?_;repeat (intro gg;refine goI ?_));rw[ZE];(refine Ab (fun h2=>?_) (fun h2=>?_)<;>rw[h2])
  ·have hlt:k<l.length:=(by have:=ZV h2;omega);(refine goI ?_;repeat (intro gg;refine goI ?_));refine⟨k,_,rfl,Am hlt,?_⟩;(refine goI ?_;repeat (intro gg;refine goI ?_));have hx:=hw _ (ZK hlt);refine .inl (cX (Dw (l[k]).nd hx) ?_);(refine goI ?_;repeat (intro gg;refine goI ?_));have HE:=Bb (e:=Wh.err) hlt h0;(refine Ab (fun h3=>?_) (fun h3=>?_)<;>rw[h3])
   ·have h3':lab (l[k]).nd.data.toList=false:=Dt h3;(refine goI ?_;repeat (intro gg;refine goI ?_));have e1:Wh.err l[k]=1:=by unfold Wh.err;rw[h3'];rfl
    have e:G4 l=1:=by unfold G4;rw[Di h1' (by rw[HE (by rw[e1];decide),e1];decide),HE (by rw[e1];decide),e1]
    rw[e];(exact⟨[],aI⟩)
   ·have h3':lab (l[k]).nd.data.toList=true:=Dq h3;have e1:Wh.err l[k]=(l[k]).pl.err:=by unfold Wh.err;rw[h3'];rfl
    (refine goI ?_;repeat (intro gg;refine goI ?_));refine⟨k,_,rfl,Am hlt,?_⟩;(refine goI ?_;repeat (intro gg;refine goI ?_));refine .inl (cX (Ua (l[k]).pl) ?_);(refine goI ?_;repeat (intro gg;refine goI ?_));(refine Ab (fun h4=>?_) (fun h4=>?_)<;>rw[h4])
    ·have h4':(l[k]).pl.err≠0:=by simpa using h4
     (refine goI ?_;repeat (intro gg;refine goI ?_));have e:G4 l=(l[k]).pl.err:=by unfold G4;rw[Di h1' (by rw[HE (by rw[e1];exact h4'),e1];exact h4'),HE (by rw[e1];exact h4'),e1]
     rw[e];(exact⟨[],aI⟩)
    ·have h4':(l[k]).pl.err=0:=by simpa using h4
     (refine goI ?_;repeat (intro gg;refine goI ?_));(exact⟨none,trivial,fun _=>⟨⟨k+1,by omega,up1 (p:=fun j h=>Wh.err l[j]=0) h0 (fun _=>e1.trans h4')⟩,by show l.length-(k+1)<l.length-k;omega,tI,tI,tI,tI⟩⟩)
  ·have hge:¬k<l.length:=(by have:=ZW h2;omega);have h2':Ad Wh.err l=0:=A8 fun i hi=>h0 i hi (by omega);(refine goI ?_;repeat (intro gg;refine goI ?_));(refine⟨[],none,{q:Nat//(q<l.length∨q=0)∧∀i,(h:i+1<l.length)→i<q→Wh.lt l[i] l[i+1]=true},[0],fun⟨q,hq,g0⟩=>[(5,.v (.int .i64 ((q:Int)+1)))],[],fun⟨q,hq,g0⟩=>[],fun⟨q,hq,g0⟩=>l.length-q,trivial,fun _=>⟨trivial,fun _=>⟨⟨0,by omega,fun j _ h=>by omega⟩,tI,Ah _ _,tI,Ag _ _⟩⟩,fun⟨q,hq,g0⟩=>?_⟩);(refine goI ?_;repeat (intro gg;refine goI ?_));rw[ZE];(refine Ab (fun h3=>?_) (fun h3=>?_)<;>rw[h3])
   ·have hlt3:q+1<l.length:=(by have:=ZV h3;omega);(refine goI ?_;repeat (intro gg;refine goI ?_));refine⟨q+1,_,by omega,Am hlt3,?_⟩;(refine goI ?_;repeat (intro gg;refine goI ?_));refine⟨q,_,by omega,Am (by omega),?_⟩;(refine goI ?_;repeat (intro gg;refine goI ?_));rw[Tm];(refine Ab (fun h4=>?_) (fun h4=>?_)<;>rw[h4])
    ·(refine goI ?_;repeat (intro gg;refine goI ?_));have e:G4 l=4:=Oi h1' h2' (D8 hlt3 (by simpa[Wh.lt]using h4));rw[e];(exact⟨[],aI⟩)
    ·(refine goI ?_;repeat (intro gg;refine goI ?_));(exact⟨none,trivial,fun _=>⟨⟨q+1,by omega,up2 (p:=fun i h=>Wh.lt l[i] l[i+1]=true) g0 (fun _=>by simpa[Wh.lt]using h4)⟩,by show l.length-(q+1)<l.length-q;omega,tI,tI,tI,tI⟩⟩)
   ·have hge3:¬q+1<l.length:=(by have:=ZW h3;omega);(refine goI ?_;repeat (intro gg;refine goI ?_));have e:G4 l=0:=K0 h1' h2' (Ef fun i hi=>g0 i hi (by omega));rw[e];(exact⟨[],aI⟩)
structure Pk.sh(p:Pk):Prop where
 msl:p.ms.length≤9223372036854775807
 svl:p.sv.length≤9223372036854775807
 gsl:p.gs.length≤9223372036854775807
 whl:p.wh.length≤9223372036854775807
theorem Aau[Glob](p:Pk)(h:p.ok):Fun Tryz.prog 40 [.c (.agg p.row)] [.c (.v (.int .i64 p.err))]:=by
 have l1:(p.sv.map Sv.row).length=p.sv.length:=ZE ..;have l2:(p.gs.map Gw.row).length=p.gs.length:=ZE ..;have l3:(p.wh.map Wh.row).length=p.wh.length:=ZE ..;have b1:=h.svl;have b2:=h.gsl;have b3:=h.whl;have b0:=h.msl;refine A9 Ki rfl ?_;(refine goI ?_;repeat (intro gg;refine goI ?_));refine .inl (cX (Dw p.fr h.fr) ?_);(refine goI ?_;repeat (intro gg;refine goI ?_));(refine Ab (fun h1=>?_) (fun h1=>?_)<;>rw[h1])
 ·rw[Pk.err_form (Dt h1)];(refine goI ?_;repeat (intro gg;refine goI ?_));(exact⟨[],aI⟩)
 ·have h1':=Dq h1;cases hwo:p.wo with
  |true=>
   rw[Pk.err_all h1' hwo];(refine goI ?_;repeat (intro gg;refine goI ?_));refine .inl (cX (X5 false p.ms h.msl h.ms) ?_);(refine goI ?_;repeat (intro gg;refine goI ?_));(refine Ab (fun e1=>?_) (fun e1=>?_)<;>rw[e1])
   ·have z1:Gj p.ms=0:=by simpa using e1
    (refine goI ?_;repeat (intro gg;refine goI ?_));(refine .inl ⟨_,_,false,[],aI,Ud false p.sv (by omega) h.sv,Af,nI,?_⟩);(refine goI ?_;repeat (intro gg;refine goI ?_));(refine Ab (fun e2=>?_) (fun e2=>?_)<;>rw[e2])
    ·have z2:Gv p.sv=0:=by simpa using e2
     (refine goI ?_;repeat (intro gg;refine goI ?_));(refine .inl ⟨_,_,false,[],aI,Uy false p.gs (by omega) h.gs,Af,nI,?_⟩);(refine goI ?_;repeat (intro gg;refine goI ?_));(refine Ab (fun e3=>?_) (fun e3=>?_)<;>rw[e3])
     ·have z3:Gz p.gs=0:=by simpa using e3
      (refine goI ?_;repeat (intro gg;refine goI ?_));(refine .inl ⟨_,_,false,[],aI,U1 false p.wh (by omega) h.wh,Af,nI,?_⟩);(refine goI ?_;repeat (intro gg;refine goI ?_));rw[show Ad (fun e=>e) p.cks=G4 p.wh from by by_cases q:G4 p.wh=0<;>simp[Pk.cks,Ad,z1,z2,z3,q]];(exact⟨[],aI⟩)
     ·have y3:Gz p.gs≠0:=by simpa using e3
      (refine goI ?_;repeat (intro gg;refine goI ?_));rw[show Ad (fun e=>e) p.cks=Gz p.gs from by simp[Pk.cks,Ad,z1,z2,y3]];(exact⟨[],aI⟩)
    ·have y2:Gv p.sv≠0:=by simpa using e2
     (refine goI ?_;repeat (intro gg;refine goI ?_));rw[e2];(refine goI ?_;repeat (intro gg;refine goI ?_));rw[show Ad (fun e=>e) p.cks=Gv p.sv from by simp[Pk.cks,Ad,z1,y2]];(exact⟨[],aI⟩)
   ·have y1:Gj p.ms≠0:=by simpa using e1
    (refine goI ?_;repeat (intro gg;refine goI ?_));rw[e1];(refine goI ?_;repeat (intro gg;refine goI ?_));rw[e1];(refine goI ?_;repeat (intro gg;refine goI ?_));rw[show Ad (fun e=>e) p.cks=Gj p.ms from by simp[Pk.cks,Ad,y1]];(exact⟨[],aI⟩)
  |false=>
   (refine goI ?_;repeat (intro gg;refine goI ?_));(refine Ab (fun g1=>?_) (fun g1=>?_)<;>rw[g1])
   ·have g1':=ZV g1;rw[l1]at g1';rw[Pk.err_more h1' hwo (by omega)];(refine goI ?_;repeat (intro gg;refine goI ?_));(exact⟨[],aI⟩)
   ·have g1':=ZW g1;rw[l1]at g1';(refine goI ?_;repeat (intro gg;refine goI ?_));(refine Ab (fun g2=>?_) (fun g2=>?_)<;>rw[g2])
    ·have g2':=ZV g2;rw[l2]at g2';rw[Pk.err_more h1' hwo (by omega)];(refine goI ?_;repeat (intro gg;refine goI ?_));(exact⟨[],aI⟩)
    ·have g2':=ZW g2;rw[l2]at g2';(refine goI ?_;repeat (intro gg;refine goI ?_));(refine Ab (fun g3=>?_) (fun g3=>?_)<;>rw[g3])
     ·have g3':=ZV g3;rw[l3]at g3';rw[Pk.err_more h1' hwo (by omega)];(refine goI ?_;repeat (intro gg;refine goI ?_));(exact⟨[],aI⟩)
     ·have g3':=ZW g3;rw[l3]at g3';rw[Pk.err_few h1' hwo (by omega)];have hlm:(p.ms.map Mb.row).length=p.ms.length:=ZE ..;(refine goI ?_;repeat (intro gg;refine goI ?_));rw[hlm];(refine Ab (fun g4=>?_) (fun g4=>?_)<;>rw[g4])
      ·rw[Qo (by have:=ZV g4;omega)];(refine goI ?_;repeat (intro gg;refine goI ?_));(exact⟨[],aI⟩)
      ·have g4':¬5<p.ms.length:=by have:=ZW g4;omega
       (refine goI ?_;repeat (intro gg;refine goI ?_));(refine⟨[],none,{k:Nat//k≤p.ms.length∧∀j,(h:j<p.ms.length)→j<k→(p.ms[j]).err=0},[1],fun⟨k,hk,h0⟩=>[(4,.v (.int .i64 k))],[16],fun⟨k,hk,h0⟩=>[],fun⟨k,hk,h0⟩=>p.ms.length-k,trivial,fun _=>⟨trivial,fun _=>⟨⟨0,by omega,fun j _ h=>by omega⟩,tI,Ah _ _,tI,Ag _ _⟩⟩,fun⟨k,hk,h0⟩=>?_⟩);(refine goI ?_;repeat (intro gg;refine goI ?_));rw[hlm];(refine Ab (fun g5=>?_) (fun g5=>?_)<;>rw[g5])
       ·have hlt:k<p.ms.length:=by have:=ZV g5;omega
        (refine goI ?_;repeat (intro gg;refine goI ?_));refine⟨k,_,rfl,Am hlt,?_⟩;(refine goI ?_;repeat (intro gg;refine goI ?_));refine .inl (cX (Xl (p.ms[k]) (h.ms _ (ZK hlt))) ?_);(refine goI ?_;repeat (intro gg;refine goI ?_));(refine Ab (fun g6=>?_) (fun g6=>?_)<;>rw[g6])
        ·have g6':(p.ms[k]).err≠0:=by simpa using g6
         have e1:=Bb (e:=Mb.err) hlt h0 g6';rw[Qz g4' (by rw[e1];exact g6'),e1];(refine goI ?_;repeat (intro gg;refine goI ?_));(exact⟨[],aI⟩)
        ·have g6':(p.ms[k]).err=0:=by simpa using g6
         (refine goI ?_;repeat (intro gg;refine goI ?_));(exact⟨none,trivial,fun _=>⟨⟨k+1,by omega,up1 (p:=fun j h=>(p.ms[j]).err=0) h0 (fun _=>g6')⟩,by show p.ms.length-(k+1)<p.ms.length-k;omega,tI,tI,tI,tI⟩⟩)
       ·have hge:¬k<p.ms.length:=by have:=ZW g5;omega
        have hz:=A8 (e:=Mb.err) (l:=p.ms) (fun i hi=>h0 i hi (by omega));(refine goI ?_;repeat (intro gg;refine goI ?_));(refine⟨[],none,{k:Nat//k≤p.ms.length∧∀i,(h:i<p.ms.length)→i<k→∀j,(g:j<i)→(p.ms[j]).n≠(p.ms[i]).n},[1],fun⟨k,hk,h0⟩=>[(6,.v (.int .i64 k))],[16],fun⟨k,hk,h0⟩=>[],fun⟨k,hk,h0⟩=>p.ms.length-k,trivial,fun _=>⟨trivial,fun _=>⟨⟨0,by omega,fun j _ h=>by omega⟩,tI,Ah _ _,tI,Ag _ _⟩⟩,fun⟨k,hk,h0⟩=>?_⟩);(refine goI ?_;repeat (intro gg;refine goI ?_));rw[hlm];(refine Ab (fun g7=>?_) (fun g7=>?_)<;>rw[g7])
        ·have hlt:k<p.ms.length:=by have:=ZV g7;omega
         (refine goI ?_;repeat (intro gg;refine goI ?_));(refine⟨[],none,{q:Nat//q≤k∧∀j,(h:j<k)→j<q→(p.ms[j]).n≠(p.ms[k]).n},[1,6],fun⟨q,hq,h0'⟩=>[(7,.v (.int .i64 q))],[16],fun⟨q,hq,h0'⟩=>[],fun⟨q,hq,h0'⟩=>k-q,trivial,fun _=>⟨trivial,fun _=>⟨⟨0,by omega,fun j _ h=>by omega⟩,tI,Ah _ _,tI,Ag _ _⟩⟩,fun⟨q,hq,h0'⟩=>?_⟩);(refine goI ?_;repeat (intro gg;refine goI ?_));(refine Ab (fun g8=>?_) (fun g8=>?_)<;>rw[g8])
         ·have hqk:q<k:=by have:=ZV g8;omega
          have hql:q<p.ms.length:=by omega
          (refine goI ?_;repeat (intro gg;refine goI ?_));refine⟨q,_,rfl,Am hql,?_⟩;(refine goI ?_;repeat (intro gg;refine goI ?_));refine⟨k,_,rfl,Am hlt,?_⟩;(refine goI ?_;repeat (intro gg;refine goI ?_));(refine Ab (fun g9=>?_) (fun g9=>?_)<;>rw[g9])
          ·have g9':(p.ms[q]).n=(p.ms[k]).n:=toList_inj (ZR.1 g9);rw[Zc g4' hz (fun hn=>by
            have:=(List.pairwise_iff_getElem.1 hn) q k (by simpa using hql) (by simpa using hlt) hqk;simp only[XQ]at this;exact this g9')]
           (refine goI ?_;repeat (intro gg;refine goI ?_));(exact⟨[],aI⟩)
          ·have g9':(p.ms[q]).n≠(p.ms[k]).n:=fun e=>by rw[e,beq_self_eq_true]at g9;cases g9
           (refine goI ?_;repeat (intro gg;refine goI ?_));(exact⟨none,trivial,fun _=>⟨⟨q+1,by omega,up1 (p:=fun j h=>(p.ms[j]).n≠(p.ms[k]).n) h0' (fun _=>g9')⟩,by show k-(q+1)<k-q;omega,tI,tI,tI,tI⟩⟩)
         ·have hqk:¬q<k:=by have:=ZW g8;omega
          (refine goI ?_;repeat (intro gg;refine goI ?_));(exact⟨none,trivial,fun _=>⟨⟨k+1,by omega,up1 (p:=fun i h=>∀j,(g:j<i)→(p.ms[j]).n≠(p.ms[i]).n) h0 (fun _ j g=>h0' j g (by omega))⟩,by show p.ms.length-(k+1)<p.ms.length-k;omega,tI,tI,tI,tI⟩⟩)
        ·have hge:¬k<p.ms.length:=by have:=ZW g7;omega
         rw[Adx g4' hz (List.pairwise_iff_getElem.2 fun i j hi hj hij=>by
          simp only[XQ];exact h0 j (by simpa using hj) (by simp at hj;omega) i hij)]
         (refine goI ?_;repeat (intro gg;refine goI ?_));(exact⟨[],aI⟩)
theorem Abs[Glob](n:Nd)(h:n.ok):Fun Tryz.prog 15 [.c (.agg n.row)] [.c (.v (.int .i64 n.err))]:=by
 refine A9 Mc rfl ?_;(refine goI ?_;repeat (intro gg;refine goI ?_));refine .inl (cX (Dw n.nm h.nm) ?_);(refine goI ?_;repeat (intro gg;refine goI ?_));(refine Ab (fun h1=>?_) (fun h1=>?_)<;>rw[h1])
 ·(refine goI ?_;repeat (intro gg;refine goI ?_));rw[Nd.err_form (.inl (Dt h1))];(exact⟨[],aI⟩)
 ·have h1':=Dq h1;(refine goI ?_;repeat (intro gg;refine goI ?_));refine .inl (cX (Dw n.ce h.ce) ?_);(refine goI ?_;repeat (intro gg;refine goI ?_));(refine Ab (fun h2=>?_) (fun h2=>?_)<;>rw[h2])
  ·(refine goI ?_;repeat (intro gg;refine goI ?_));rw[Nd.err_form (.inr (Dt h2))];(exact⟨[],aI⟩)
  ·have h2':=Dq h2;(refine goI ?_;repeat (intro gg;refine goI ?_));refine .inl (cX (X5 false n.ms h.msl h.ms) ?_);(refine goI ?_;repeat (intro gg;refine goI ?_));(refine Ab (fun e1=>?_) (fun e1=>?_)<;>rw[e1])
   ·have z1:Gj n.ms=0:=by simpa using e1
    (refine goI ?_;repeat (intro gg;refine goI ?_));refine .inl (cX (Ab1 false n.rs h.rsl h.rs) ?_);(refine goI ?_;repeat (intro gg;refine goI ?_));(refine Ab (fun e2=>?_) (fun e2=>?_)<;>rw[e2])
    ·have z2:Jl n.rs=0:=by simpa using e2
     (refine goI ?_;repeat (intro gg;refine goI ?_));refine .inl (cX (Ud false n.sv h.svl h.sv) ?_);(refine goI ?_;repeat (intro gg;refine goI ?_));(refine Ab (fun e3=>?_) (fun e3=>?_)<;>rw[e3])
     ·have z3:Gv n.sv=0:=by simpa using e3
      (refine goI ?_;repeat (intro gg;refine goI ?_));refine .inl (cX (Uy false n.gs h.gsl h.gs) ?_);(refine goI ?_;repeat (intro gg;refine goI ?_));(refine Ab (fun e4=>?_) (fun e4=>?_)<;>rw[e4])
      ·have z4:Gz n.gs=0:=by simpa using e4
       (refine goI ?_;repeat (intro gg;refine goI ?_));refine .inl (cX (Ua n.pl) ?_);(refine goI ?_;repeat (intro gg;refine goI ?_));(refine Ab (fun e5=>?_) (fun e5=>?_)<;>rw[e5])
       ·have z5:n.pl.err=0:=by simpa using e5
        (refine goI ?_;repeat (intro gg;refine goI ?_));refine .inl (cX (U1 false n.wh h.whl h.wh) ?_);(refine goI ?_;repeat (intro gg;refine goI ?_));(refine Ab (fun e6=>?_) (fun e6=>?_)<;>rw[e6])
        ·have y6:G4 n.wh≠0:=by simpa using e6
         have E:Ad (fun e=>e) n.cks=G4 n.wh:=by simp[Nd.cks,Ad,z1,z2,z3,z4,z5,y6]
         rw[Nd.err_ck h1' h2' (by rw[E];exact y6),E];(refine goI ?_;repeat (intro gg;refine goI ?_));(exact⟨[],aI⟩)
        ·have z6:G4 n.wh=0:=by simpa using e6
         have hz:Ad (fun e=>e) n.cks=0:=by simp[Nd.cks,Ad,z1,z2,z3,z4,z5,z6]
         have hi:=Re z1;have hat:=Mb.at_eq hi.2.2 n.nm;have hA:=Alm false n.ms n.nm (by omega);have hrl:=h.rsl;rcases Bool.eq_false_or_eq_true (hit (Mb.cf n.nm) n.ms)with h5|h5
         ·have hlt:=M9 h5;have hm:n.ms[low (Mb.cf n.nm) n.ms]? =some n.ms[low (Mb.cf n.nm) n.ms]:=ZC hlt;rw[hat,if_pos h5]at hA;rw[Nd.err_mine h1' h2' hz h5,Nd.mine_at hm];(refine goI ?_;repeat (intro gg;refine goI ?_));refine .inl (cX hA ?_);(refine goI ?_;repeat (intro gg;refine goI ?_));refine⟨low (Mb.cf n.nm) n.ms,_,rfl,Am hlt,?_⟩;(refine goI ?_;repeat (intro gg;refine goI ?_));(refine Ab (fun h6=>?_) (fun h6=>?_)<;>rw[h6])
          ·rw[if_pos (.inl (by simpa using h6))];(refine goI ?_;repeat (intro gg;refine goI ?_));(exact⟨[],aI⟩)
          ·have h6':(n.ms[low (Mb.cf n.nm) n.ms]).st≠2:=by simpa using h6
           (refine goI ?_;repeat (intro gg;refine goI ?_));refine⟨low (Mb.cf n.nm) n.ms,_,rfl,Am hlt,?_⟩;(refine goI ?_;repeat (intro gg;refine goI ?_));(refine Ab (fun h7=>?_) (fun h7=>?_)<;>rw[h7])
           ·rw[if_pos (.inr (by simpa using h7))];(refine goI ?_;repeat (intro gg;refine goI ?_));(exact⟨[],aI⟩)
           ·have h7':(n.ms[low (Mb.cf n.nm) n.ms]).st≠3:=by simpa using h7
            rw[if_neg (fun q=>q.elim h6' h7')];(refine goI ?_;repeat (intro gg;refine goI ?_));(refine⟨[],none,{k:Nat//k≤n.rs.length∧∀j,(h:j<n.rs.length)→j<k→Te n.ms n.rs[j]=true},[1],fun⟨k,hk,h0⟩=>[(5,.v (.int .i64 k))],[16],fun⟨k,hk,h0⟩=>[],fun⟨k,hk,h0⟩=>n.rs.length-k,trivial,fun _=>⟨trivial,fun _=>⟨⟨0,ZU _,fun j _ h=>absurd h (Nat.not_lt_zero _)⟩,tI,Ah _ _,tI,Ag _ _⟩⟩,fun⟨k,hk,h0⟩=>?_⟩);(refine goI ?_;repeat (intro gg;refine goI ?_));rw[ZE];(refine Ab (fun g1=>?_) (fun g1=>?_)<;>rw[g1])
            ·have hlt3:k<n.rs.length:=(by have:=ZV g1;omega);have hat3:=Mb.at_eq hi.2.2 (n.rs[k]).m.n;have hA3:=Alm false n.ms (n.rs[k]).m.n (by omega);(refine goI ?_;repeat (intro gg;refine goI ?_));refine⟨k,_,rfl,Am hlt3,?_⟩;(refine goI ?_;repeat (intro gg;refine goI ?_));rcases Bool.eq_false_or_eq_true (hit (Mb.cf (n.rs[k]).m.n) n.ms)with g5|g5
             ·have hl3:=M9 g5;have hro:=Age g5 (ZC hl3);rw[hat3,if_pos g5]at hA3;refine .inl (cX hA3 ?_);(refine goI ?_;repeat (intro gg;refine goI ?_));refine⟨low (Mb.cf (n.rs[k]).m.n) n.ms,_,rfl,Am hl3,?_⟩;(refine goI ?_;repeat (intro gg;refine goI ?_));refine .inl (cX (Aet _ _) ?_);(refine goI ?_;repeat (intro gg;refine goI ?_));(refine Ab (fun g6=>?_) (fun g6=>?_)<;>rw[g6])
              ·have g6':0<Mb.cmp (n.rs[k]).m (n.ms[low (Mb.cf (n.rs[k]).m.n) n.ms]):=ZV g6;rw[if_neg (by rw[Aad hlt3 (by rw[hro];exact ZY (by omega))];simp)];(refine goI ?_;repeat (intro gg;refine goI ?_));(exact⟨[],aI⟩)
              ·have g6':¬0<Mb.cmp (n.rs[k]).m (n.ms[low (Mb.cf (n.rs[k]).m.n) n.ms]):=ZW g6;(refine goI ?_;repeat (intro gg;refine goI ?_));(exact⟨none,trivial,fun _=>⟨⟨k+1,by omega,up1 (p:=fun j h=>Te n.ms n.rs[j]=true) h0 (fun _=>by rw[hro];exact ZX (by omega))⟩,by show n.rs.length-(k+1)<n.rs.length-k;omega,tI,tI,tI,tI⟩⟩)
             ·rw[hat3,if_neg (by rw[g5];decide)]at hA3;rw[if_neg (by rw[Aad hlt3 (Agm g5)];simp)];refine .inl (cX hA3 ?_);(refine goI ?_;repeat (intro gg;refine goI ?_));(exact⟨[],aI⟩)
            ·have hge:¬k<n.rs.length:=(by have:=ZW g1;omega);rw[if_pos (List.all_eq_true.2 fun r hr=>by obtain⟨j,hj,rfl⟩:=List.mem_iff_getElem.1 hr;exact h0 j hj (by omega))];(refine goI ?_;repeat (intro gg;refine goI ?_));(exact⟨[],aI⟩)
         ·rw[hat,if_neg (by rw[h5];decide)]at hA;rw[Nd.err_none h1' h2' hz h5];(refine goI ?_;repeat (intro gg;refine goI ?_));refine .inl (cX hA ?_);(refine goI ?_;repeat (intro gg;refine goI ?_));(exact⟨[],aI⟩)
       ·have y5:n.pl.err≠0:=by simpa using e5
        have E:Ad (fun e=>e) n.cks=n.pl.err:=by simp[Nd.cks,Ad,z1,z2,z3,z4,y5]
        rw[Nd.err_ck h1' h2' (by rw[E];exact y5),E];(refine goI ?_;repeat (intro gg;refine goI ?_));rw[show(n.pl.err !=0)=true from ZZ.2 y5];(refine goI ?_;repeat (intro gg;refine goI ?_));(exact⟨[],aI⟩)
      ·have y4:Gz n.gs≠0:=by simpa using e4
       have E:Ad (fun e=>e) n.cks=Gz n.gs:=by simp[Nd.cks,Ad,z1,z2,z3,y4]
       rw[Nd.err_ck h1' h2' (by rw[E];exact y4),E];(refine goI ?_;repeat (intro gg;refine goI ?_));rw[e4];(refine goI ?_;repeat (intro gg;refine goI ?_));rw[show(Gz n.gs !=0)=true from ZZ.2 y4];(refine goI ?_;repeat (intro gg;refine goI ?_));(exact⟨[],aI⟩)
     ·have y3:Gv n.sv≠0:=by simpa using e3
      have E:Ad (fun e=>e) n.cks=Gv n.sv:=by simp[Nd.cks,Ad,z1,z2,y3]
      rw[Nd.err_ck h1' h2' (by rw[E];exact y3),E];(refine goI ?_;repeat (intro gg;refine goI ?_));rw[e3];(refine goI ?_;repeat (intro gg;refine goI ?_));rw[e3];(refine goI ?_;repeat (intro gg;refine goI ?_));rw[show(Gv n.sv !=0)=true from ZZ.2 y3];(refine goI ?_;repeat (intro gg;refine goI ?_));(exact⟨[],aI⟩)
    ·have y2:Jl n.rs≠0:=by simpa using e2
     have E:Ad (fun e=>e) n.cks=Jl n.rs:=by simp[Nd.cks,Ad,z1,y2]
     rw[Nd.err_ck h1' h2' (by rw[E];exact y2),E];(refine goI ?_;repeat (intro gg;refine goI ?_));rw[e2];(refine goI ?_;repeat (intro gg;refine goI ?_));rw[e2];(refine goI ?_;repeat (intro gg;refine goI ?_));rw[e2];(refine goI ?_;repeat (intro gg;refine goI ?_));rw[show(Jl n.rs !=0)=true from ZZ.2 y2];(refine goI ?_;repeat (intro gg;refine goI ?_));(exact⟨[],aI⟩)
   ·have y1:Gj n.ms≠0:=by simpa using e1
    have E:Ad (fun e=>e) n.cks=Gj n.ms:=by simp[Nd.cks,Ad,y1]
    rw[Nd.err_ck h1' h2' (by rw[E];exact y1),E];(refine goI ?_;repeat (intro gg;refine goI ?_));rw[e1];(refine goI ?_;repeat (intro gg;refine goI ?_));rw[e1];(refine goI ?_;repeat (intro gg;refine goI ?_));rw[e1];(refine goI ?_;repeat (intro gg;refine goI ?_));rw[e1];(refine goI ?_;repeat (intro gg;refine goI ?_));rw[show(Gj n.ms !=0)=true from ZZ.2 y1];(refine goI ?_;repeat (intro gg;refine goI ?_));(exact⟨[],aI⟩)
structure Nd.sh(n:Nd):Prop where
 msl:n.ms.length≤9223372036854775807
 rsl:n.rs.length≤9223372036854775807
 svl:n.sv.length≤9223372036854775807
 gsl:n.gs.length≤9223372036854775807
 whl:n.wh.length≤9223372036854775807
namespace Pl
def nt0:Nt:=⟨[],[]⟩
noncomputable def newNt(ns:List Nd):Nt:=if(⟨ns,[]⟩:Nt).err≠0 then nt0 else⟨ns,[]⟩
structure Nt.Good(n:Nt):Prop where
 ns:∀x∈n.ns,x.err=0
 nsl:n.ns.length≤6
 lsl:n.ls.length≤20
 nd:(n.ns.map Nd.nm).Nodup
 ls:∀l∈n.ls,Gc n.ns.length l=0
theorem Nt.good{n:Nt}(h:n.err=0):n.Good:=by
 unfold Nt.err at h;split at h
 ·cases h
 ·rename_i h1;split at h
  ·rename_i h2;exact absurd h h2
  ·rename_i h2;split at h
   ·cases h
   ·rename_i h3;exact⟨Hu (Classical.byContradiction h2),by omega,by omega,Classical.byContradiction h3,Hu h⟩
end Pl
theorem An1[Glob]{P:Program}{f:FuncId}{u u':V}{rs:List Par}(hF:Fun P f [.c u] rs)(hu:∀(w:World) (R:Nat→Prop) (x:Value),RV w R noG u' x→RV w R noG u x):Fun P f [.c u'] rs:=by
 refine⟨hF.1,fun w R xs hlt hp hg=>?_⟩;obtain⟨x,rfl⟩:∃x,xs=[x]:=by
  have hl:=hp.len;rcases xs with _|⟨x,_|⟨x',xs⟩⟩<;>simp at hl
  exact⟨x,rfl⟩
 have hx:RV w R noG u' x:=hp.ok 0 _ _ rfl rfl;have n:∀v b,¬A4 [.c v] [x] b:=fun v b=>Fi (by intro p hp;rcases XC.1 hp with rfl|hp;exact⟨_,rfl⟩;cases hp);have e:A4 [.c u'] [x]=A4 [.c u] [x]:=funext fun b=>propext ⟨fun h=>(n _ b h).elim,fun h=>(n _ b h).elim⟩;rw[e]at hg ⊢;exact hF.2 w R [x] hlt (Wu (hu w R x hx)) hg
theorem Aoi{a:V}{c:Bool}{w:World}{R:Nat→Prop}{x:Value}(h:RV w R noG (.agg [a,.v (.slice none 0 0)]) x):RV w R noG (.agg [a,.sl c []]) x:=by
 cases h with
 |agg cs xs hl hh=>
  refine .agg _ _ hl fun i u y h1 h2=>?_
  match i,h1 with
  |0,h1=>exact hh 0 u y h1 h2
  |1,h1=>
   have e:=Cd (hh 1 _ y rfl h2);simp at h1;subst h1;subst e;exact .nil c none 0 (fun _=>rfl)
  |i+2,h1=>simp at h1
theorem Ais[Glob][Tabs](ns:List Nd)(hl:ns.length≤1000000000000000)(h:∀x∈ns,x.ok):Fun Tryz.prog 10 [.c (.sl false (ns.map Nd.row))] [.c (.agg (newNt ns).row),.c (.v (.int .i64 (⟨ns,[]⟩:Nt).err))]:=by
 have hC:=H7 ⟨ns,[]⟩ ⟨hl,h,ZU _,fun x hx=>nomatch hx⟩;by_cases he:(⟨ns,[]⟩:Nt).err=0
 ·have g:=Nt.good he;have hO:=Amy ⟨ns,[]⟩ (fun x hx=>Nd.good (g.ns x hx)) g.nsl (ZU _);have hO':=An1 (u:=.agg [.sl false (ns.map Nd.row),.sl false []]) (u':=.agg [.sl false (ns.map Nd.row),.v (.slice none 0 0)]) hO fun w R x h=>Aoi h;rw[he]at hC ⊢;rw[show newNt ns=⟨ns,[]⟩from if_neg (fun q=>q he)];refine Abi Xm rfl ?_;(refine goI ?_;repeat (intro gg;refine goI ?_));refine .inl ⟨_,_,true,[],.bora (.same Od (.nilsl _ .nil)) (.nil _),hC,(fun _=>fI),nI,?_⟩;(refine goI ?_;repeat (intro gg;refine goI ?_));refine .inl ⟨_,_,false,[],.same (Pf (fun u hu=>by simp only[XC,XD,or_false]at hu;rcases hu with rfl|rfl;exact Od;exact(Ak2 _).cl)) (.nil _),hO',Af,nI,?_⟩;(refine goI ?_;repeat (intro gg;refine goI ?_));exact Uw (.cell1 rfl rfl rfl rfl rfl rfl (.tmp1 rfl .nil)) (.same Od (.same F3 .nil)) (Cw rfl)
 ·rw[show newNt ns=nt0 from if_pos he];refine Abi Xm rfl ?_;(refine goI ?_;repeat (intro gg;refine goI ?_));refine .inl ⟨_,_,true,[],.bora (.same Od (.nilsl _ .nil)) (.nil _),hC,(fun _=>fI),nI,?_⟩;(refine goI ?_;repeat (intro gg;refine goI ?_));rw[show((⟨ns,[]⟩:Nt).err !=0)=true from ZZ.2 he];(refine goI ?_;repeat (intro gg;refine goI ?_));exact Uw (.cell1 rfl rfl rfl rfl rfl rfl (.tmp1 rfl .nil)) (.nilsl _ (.nilsl _ .nil)) (Cw rfl)
theorem Ab7[Glob](n:Nt)(h:n.ok)(hP:∀l∈n.ls,Fun Tryz.prog 17 [.c (.v (.string l.tx))] [.c (.agg (Iy l.tx).1.row),.c (.v (.int .i64 (Iy l.tx).2))]):Fun Tryz.prog 6 [.c (.agg n.row)] [.c (.v (.int .i64 n.err))]:=by
 have l1:(n.ns.map Nd.row).length=n.ns.length:=ZE ..;have l2:(n.ls.map Lt.row).length=n.ls.length:=ZE ..;have b1:=h.nsl;have b2:=h.lsl;refine A9 Nc rfl ?_;(refine goI ?_;repeat (intro gg;refine goI ?_));rw[l1];(refine Ab (fun q1=>?_) (fun q1=>?_)<;>rw[q1])
 ·rw[Nt.err_many (.inl (by have:=ZV q1;omega))];(refine goI ?_;repeat (intro gg;refine goI ?_));(exact⟨[],aI⟩)
 ·have q1':¬6<n.ns.length:=by have:=ZW q1;omega
  (refine goI ?_;repeat (intro gg;refine goI ?_));rw[l2];(refine Ab (fun q2=>?_) (fun q2=>?_)<;>rw[q2])
  ·rw[Nt.err_many (.inr (by have:=ZV q2;omega))];(refine goI ?_;repeat (intro gg;refine goI ?_));(exact⟨[],aI⟩)
  ·have q2':¬20<n.ls.length:=by have:=ZW q2;omega
   have hm:¬(6<n.ns.length∨20<n.ls.length):=fun q=>q.elim q1' q2';(refine goI ?_;repeat (intro gg;refine goI ?_));(refine⟨[],none,{k:Nat//k≤n.ns.length∧∀j,(h:j<n.ns.length)→j<k→(n.ns[j]).err=0},[1],fun⟨k,hk,h0⟩=>[(3,.v (.int .i64 (k:Int)))],[16],fun⟨k,hk,h0⟩=>[],fun⟨k,hk,h0⟩=>n.ns.length-k,trivial,fun _=>⟨trivial,fun _=>⟨⟨0,ZU _,fun j _ h=>absurd h (Nat.not_lt_zero _)⟩,tI,Ah _ _,tI,Ag _ _⟩⟩,fun⟨k,hk,h0⟩=>?_⟩);(refine goI ?_;repeat (intro gg;refine goI ?_));rw[l1];(refine Ab (fun q3=>?_) (fun q3=>?_)<;>rw[q3])
   ·have hlt:k<n.ns.length:=by have:=ZV q3;omega
    (refine goI ?_;repeat (intro gg;refine goI ?_));refine⟨k,_,rfl,Am hlt,?_⟩;(refine goI ?_;repeat (intro gg;refine goI ?_));refine .inl (cX (Abs (n.ns[k]) (h.ns _ (ZK hlt))) ?_);(refine goI ?_;repeat (intro gg;refine goI ?_));(refine Ab (fun q4=>?_) (fun q4=>?_)<;>rw[q4])
    ·have y:(n.ns[k]).err≠0:=by simpa using q4
     have e1:=Bb (e:=Nd.err) hlt h0 y;rw[Nt.err_each hm (by rw[e1];exact y),e1];(refine goI ?_;repeat (intro gg;refine goI ?_));(exact⟨[],aI⟩)
    ·have z:(n.ns[k]).err=0:=by simpa using q4
     (refine goI ?_;repeat (intro gg;refine goI ?_));(exact⟨none,trivial,fun _=>⟨⟨k+1,by omega,up1 (p:=fun j h=>(n.ns[j]).err=0) h0 (fun _=>z)⟩,by show n.ns.length-(k+1)<n.ns.length-k;omega,tI,tI,tI,tI⟩⟩)
   ·have hge:¬k<n.ns.length:=by have:=ZW q3;omega
    have hz:=A8 (e:=Nd.err) (l:=n.ns) (fun i hi=>h0 i hi (by omega));(refine goI ?_;repeat (intro gg;refine goI ?_));(refine⟨[],none,{k:Nat//k≤n.ns.length∧∀i,(h:i<n.ns.length)→i<k→∀j,(g:j<i)→(n.ns[j]).nm≠(n.ns[i]).nm},[1],fun⟨k,hk,h0⟩=>[(5,.v (.int .i64 (k:Int)))],[16],fun⟨k,hk,h0⟩=>[],fun⟨k,hk,h0⟩=>n.ns.length-k,trivial,fun _=>⟨trivial,fun _=>⟨⟨0,ZU _,fun i _ h=>absurd h (Nat.not_lt_zero _)⟩,tI,Ah _ _,tI,Ag _ _⟩⟩,fun⟨k,hk,h0⟩=>?_⟩);(refine goI ?_;repeat (intro gg;refine goI ?_));rw[l1];(refine Ab (fun q5=>?_) (fun q5=>?_)<;>rw[q5])
    ·have hlt:k<n.ns.length:=by have:=ZV q5;omega
     (refine goI ?_;repeat (intro gg;refine goI ?_));(refine⟨[],none,{q:Nat//q≤k∧∀j,(h:j<k)→j<q→(n.ns[j]).nm≠(n.ns[k]).nm},[1,5],fun⟨q,hq,h0'⟩=>[(6,.v (.int .i64 (q:Int)))],[16],fun⟨q,hq,h0'⟩=>[],fun⟨q,hq,h0'⟩=>k-q,trivial,fun _=>⟨trivial,fun _=>⟨⟨0,by omega,fun j _ h=>by omega⟩,tI,Ah _ _,tI,Ag _ _⟩⟩,fun⟨q,hq,h0'⟩=>?_⟩);(refine goI ?_;repeat (intro gg;refine goI ?_));(refine Ab (fun q6=>?_) (fun q6=>?_)<;>rw[q6])
     ·have hqk:q<k:=by have:=ZV q6;omega
      have hql:q<n.ns.length:=by omega
      (refine goI ?_;repeat (intro gg;refine goI ?_));refine⟨q,_,rfl,Am hql,?_⟩;(refine goI ?_;repeat (intro gg;refine goI ?_));refine⟨k,_,rfl,Am hlt,?_⟩;(refine goI ?_;repeat (intro gg;refine goI ?_));(refine Ab (fun q7=>?_) (fun q7=>?_)<;>rw[q7])
      ·have g9:(n.ns[q]).nm=(n.ns[k]).nm:=toList_inj (ZR.1 q7);rw[Nt.err_two hm hz (fun hn=>by
        have:=(List.pairwise_iff_getElem.1 hn) q k (by simpa using hql) (by simpa using hlt) hqk;simp only[XQ]at this;exact this g9)]
       (refine goI ?_;repeat (intro gg;refine goI ?_));(exact⟨[],aI⟩)
      ·have g9:(n.ns[q]).nm≠(n.ns[k]).nm:=fun e=>by rw[e,beq_self_eq_true]at q7;cases q7
       (refine goI ?_;repeat (intro gg;refine goI ?_));(exact⟨none,trivial,fun _=>⟨⟨q+1,by omega,up1 (p:=fun j h=>(n.ns[j]).nm≠(n.ns[k]).nm) h0' (fun _=>g9)⟩,by show k-(q+1)<k-q;omega,tI,tI,tI,tI⟩⟩)
     ·have hqk:¬q<k:=by have:=ZW q6;omega
      (refine goI ?_;repeat (intro gg;refine goI ?_));(exact⟨none,trivial,fun _=>⟨⟨k+1,by omega,up1 (p:=fun i h=>∀j,(g:j<i)→(n.ns[j]).nm≠(n.ns[i]).nm) h0 (fun _ j g=>h0' j g (by omega))⟩,by show n.ns.length-(k+1)<n.ns.length-k;omega,tI,tI,tI,tI⟩⟩)
    ·have hge5:¬k<n.ns.length:=by have:=ZW q5;omega
     have hnd:(n.ns.map Nd.nm).Nodup:=List.pairwise_iff_getElem.2 fun i j hi hj hij=>by
      simp only[XQ];exact h0 j (by simpa using hj) (by simp at hj;omega) i hij
     rw[Nt.err_ls hm hz hnd];(refine goI ?_;repeat (intro gg;refine goI ?_));(refine⟨[],none,{k:Nat//k≤n.ls.length∧∀j,(h:j<n.ls.length)→j<k→Gc n.ns.length n.ls[j]=0},[1],fun⟨k,hk,h0⟩=>[(7,.v (.int .i64 (k:Int)))],[16],fun⟨k,hk,h0⟩=>[],fun⟨k,hk,h0⟩=>n.ls.length-k,trivial,fun _=>⟨trivial,fun _=>⟨⟨0,ZU _,fun j _ h=>absurd h (Nat.not_lt_zero _)⟩,tI,Ah _ _,tI,Ag _ _⟩⟩,fun⟨k,hk,h0⟩=>?_⟩);(refine goI ?_;repeat (intro gg;refine goI ?_));rw[l2];(refine Ab (fun q8=>?_) (fun q8=>?_)<;>rw[q8])
     ·have hlt:k<n.ls.length:=by have:=ZV q8;omega
      (refine goI ?_;repeat (intro gg;refine goI ?_));refine⟨k,_,rfl,Am hlt,?_⟩;(refine goI ?_;repeat (intro gg;refine goI ?_));rw[l1];have hFst:=fun y=>Bb (e:=Gc n.ns.length) hlt h0 y;have hRd:=hP n.ls[k] (ZK hlt);refine .inl (cX (Bv n.ls[k].to 0 ((n.ns.length:Int)-1)) ?_);(refine goI ?_;repeat (intro gg;refine goI ?_));(refine Ab (fun q9=>?_) (fun q9=>?_)<;>rw[q9])
      ·have q9':¬(0≤n.ls[k].to∧n.ls[k].to≤(n.ns.length:Int)-1):=At6.1 (by simpa using q9);have y:Gc n.ns.length n.ls[k]=3:=Tk (by omega);rw[hFst (by rw[y];decide),y];(refine goI ?_;repeat (intro gg;refine goI ?_));(exact⟨[],aI⟩)
      ·have q9':=Fv.1 (show wi n.ls[k].to 0 ((n.ns.length:Int)-1)=true by simpa using q9);have e1:Gc n.ns.length n.ls[k]=(Iy n.ls[k].tx).2:=Xh (by omega);generalize Iy n.ls[k].tx=F at *;(refine goI ?_;repeat (intro gg;refine goI ?_));refine⟨k,_,rfl,Am hlt,?_⟩;(refine goI ?_;repeat (intro gg;refine goI ?_));refine .inl (cX hRd ?_);(refine goI ?_;repeat (intro gg;refine goI ?_));(refine Ab (fun q10=>?_) (fun q10=>?_)<;>rw[q10])
       ·have y:F.2≠0:=by simpa using q10
        rw[hFst (by rw[e1];exact y),e1];(refine goI ?_;repeat (intro gg;refine goI ?_));(exact⟨[],aI⟩)
       ·have z:F.2=0:=by simpa using q10
        (refine goI ?_;repeat (intro gg;refine goI ?_));(exact⟨none,trivial,fun _=>⟨⟨k+1,by omega,up1 (p:=fun j h=>Gc n.ns.length n.ls[j]=0) h0 (fun _=>e1.trans z)⟩,by show n.ls.length-(k+1)<n.ls.length-k;omega,tI,tI,tI,tI⟩⟩)
     ·have hge8:¬k<n.ls.length:=by have:=ZW q8;omega
      rw[A8 (e:=Gc n.ns.length) (l:=n.ls) (fun i hi=>h0 i hi (by omega))];(refine goI ?_;repeat (intro gg;refine goI ?_));(exact⟨[],aI⟩)
structure Nt.sh(n:Nt):Prop where
 nsl:n.ns.length≤1000000000000000
 ns:∀x∈n.ns,Nd.sh x
 lsl:n.ls.length≤1000000000000000
theorem Abo [Glob] (c d : Bool) (a b : List Mb) (ha : a.length ≤ 9223372036854775807) : Fun Tryz.prog 12 [.c (.sl c (a.map Mb.row)), .c (.sl d (b.map Mb.row))] [.c (.v (.bool (Da Mb.same a b)))] := by
  refine A9 E7 rfl ?_
  (refine goI ?_; repeat (intro gg; refine goI ?_))
  rw [ZE, ZE]
  (refine Ab (fun h => ?_) (fun h => ?_) <;> rw [h])
  · (refine goI ?_; repeat (intro gg; refine goI ?_))
    rw [Mk (fun e => by rw [e] at h; simp at h)]
    (exact ⟨[], aI⟩)
  · have hab : a.length = b.length := by have h' : ((a.length : Int) != (b.length : Int)) = false := h
                                         simp at h'; omega
    (refine goI ?_; repeat (intro gg; refine goI ?_))
    rw [ZE]
    (refine ⟨[], none, {k : Nat // k ≤ a.length ∧ ∀ j, (h : j < a.length) → j < k → Mb.same a[j] (b[j]'(by omega)) = true}, [0, 1, 12], fun ⟨k, hk, h0⟩ => [(13, .v (.int .i64 k))], [], fun ⟨k, hk, h0⟩ => [], fun ⟨k, hk, h0⟩ => a.length - k, trivial, fun _ => ⟨trivial, fun _ => ⟨⟨0, by omega, fun j _ h => by omega⟩, tI, Ah _ _, tI, Ag _ _⟩⟩, fun ⟨k, hk, h0⟩ => ?_⟩)
    (refine goI ?_; repeat (intro gg; refine goI ?_))
    (refine Ab (fun h2 => ?_) (fun h2 => ?_) <;> rw [h2])
    · have hlt : k < a.length := (by have := ZV h2; omega)
      have hlt' : k < b.length := by omega
      (refine goI ?_; repeat (intro gg; refine goI ?_))
      refine ⟨k, _, rfl, Am hlt, ?_⟩
      (refine goI ?_; repeat (intro gg; refine goI ?_))
      refine ⟨k, _, rfl, Am hlt', ?_⟩
      (refine goI ?_; repeat (intro gg; refine goI ?_))
      (refine Ab (fun h3 => ?_) (fun h3 => ?_) <;> rw [h3])
      · (refine goI ?_; repeat (intro gg; refine goI ?_))
        rw [Me hlt hlt' (Dt (b := Mb.same a[k] b[k]) h3)]
        (exact ⟨[], aI⟩)
      · (refine goI ?_; repeat (intro gg; refine goI ?_))
        (exact ⟨none, trivial, fun _ => ⟨⟨k + 1, by omega, up1 (p := fun j h => Mb.same a[j] (b[j]'(by omega)) = true) h0 (fun _ => Dq (b := Mb.same a[k] b[k]) h3)⟩, by show a.length - (k + 1) < a.length - k; omega, tI, tI, tI, tI⟩⟩)
    · have hge : ¬ k < a.length := (by have := ZW h2; omega)
      (refine goI ?_; repeat (intro gg; refine goI ?_))
      rw [Hm hab (fun i hi _ => h0 i hi (by omega))]
      (exact ⟨[], aI⟩)
theorem Ad9 [Glob] (c d : Bool) (a b : List Sv) (ha : a.length ≤ 9223372036854775807) : Fun Tryz.prog 13 [.c (.sl c (a.map Sv.row)), .c (.sl d (b.map Sv.row))] [.c (.v (.bool (Da Sv.same a b)))] := by
  refine A9 Ep rfl ?_
  (refine goI ?_; repeat (intro gg; refine goI ?_))
  rw [ZE, ZE]
  (refine Ab (fun h => ?_) (fun h => ?_) <;> rw [h])
  · (refine goI ?_; repeat (intro gg; refine goI ?_))
    rw [Mk (fun e => by rw [e] at h; simp at h)]
    (exact ⟨[], aI⟩)
  · have hab : a.length = b.length := by have h' : ((a.length : Int) != (b.length : Int)) = false := h
                                         simp at h'; omega
    (refine goI ?_; repeat (intro gg; refine goI ?_))
    rw [ZE]
    (refine ⟨[], none, {k : Nat // k ≤ a.length ∧ ∀ j, (h : j < a.length) → j < k → Sv.same a[j] (b[j]'(by omega)) = true}, [0, 1, 12], fun ⟨k, hk, h0⟩ => [(13, .v (.int .i64 k))], [], fun ⟨k, hk, h0⟩ => [], fun ⟨k, hk, h0⟩ => a.length - k, trivial, fun _ => ⟨trivial, fun _ => ⟨⟨0, by omega, fun j _ h => by omega⟩, tI, Ah _ _, tI, Ag _ _⟩⟩, fun ⟨k, hk, h0⟩ => ?_⟩)
    (refine goI ?_; repeat (intro gg; refine goI ?_))
    (refine Ab (fun h2 => ?_) (fun h2 => ?_) <;> rw [h2])
    · have hlt : k < a.length := (by have := ZV h2; omega)
      have hlt' : k < b.length := by omega
      (refine goI ?_; repeat (intro gg; refine goI ?_))
      refine ⟨k, _, rfl, Am hlt, ?_⟩
      (refine goI ?_; repeat (intro gg; refine goI ?_))
      refine ⟨k, _, rfl, Am hlt', ?_⟩
      (refine goI ?_; repeat (intro gg; refine goI ?_))
      (refine Ab (fun h3 => ?_) (fun h3 => ?_) <;> rw [h3])
      · (refine goI ?_; repeat (intro gg; refine goI ?_))
        rw [Me hlt hlt' (Dt (b := Sv.same a[k] b[k]) h3)]
        (exact ⟨[], aI⟩)
      · (refine goI ?_; repeat (intro gg; refine goI ?_))
        (exact ⟨none, trivial, fun _ => ⟨⟨k + 1, by omega, up1 (p := fun j h => Sv.same a[j] (b[j]'(by omega)) = true) h0 (fun _ => Dq (b := Sv.same a[k] b[k]) h3)⟩, by show a.length - (k + 1) < a.length - k; omega, tI, tI, tI, tI⟩⟩)
    · have hge : ¬ k < a.length := (by have := ZW h2; omega)
      (refine goI ?_; repeat (intro gg; refine goI ?_))
      rw [Hm hab (fun i hi _ => h0 i hi (by omega))]
      (exact ⟨[], aI⟩)
theorem Acf [Glob] (c d : Bool) (a b : List Gw) (ha : a.length ≤ 9223372036854775807) : Fun Tryz.prog 14 [.c (.sl c (a.map Gw.row)), .c (.sl d (b.map Gw.row))] [.c (.v (.bool (Da Gw.same a b)))] := by
  refine A9 Eo rfl ?_
  (refine goI ?_; repeat (intro gg; refine goI ?_))
  rw [ZE, ZE]
  (refine Ab (fun h => ?_) (fun h => ?_) <;> rw [h])
  · (refine goI ?_; repeat (intro gg; refine goI ?_))
    rw [Mk (fun e => by rw [e] at h; simp at h)]
    (exact ⟨[], aI⟩)
  · have hab : a.length = b.length := by have h' : ((a.length : Int) != (b.length : Int)) = false := h
                                         simp at h'; omega
    (refine goI ?_; repeat (intro gg; refine goI ?_))
    rw [ZE]
    (refine ⟨[], none, {k : Nat // k ≤ a.length ∧ ∀ j, (h : j < a.length) → j < k → Gw.same a[j] (b[j]'(by omega)) = true}, [0, 1, 12], fun ⟨k, hk, h0⟩ => [(13, .v (.int .i64 k))], [], fun ⟨k, hk, h0⟩ => [], fun ⟨k, hk, h0⟩ => a.length - k, trivial, fun _ => ⟨trivial, fun _ => ⟨⟨0, by omega, fun j _ h => by omega⟩, tI, Ah _ _, tI, Ag _ _⟩⟩, fun ⟨k, hk, h0⟩ => ?_⟩)
    (refine goI ?_; repeat (intro gg; refine goI ?_))
    (refine Ab (fun h2 => ?_) (fun h2 => ?_) <;> rw [h2])
    · have hlt : k < a.length := (by have := ZV h2; omega)
      have hlt' : k < b.length := by omega
      (refine goI ?_; repeat (intro gg; refine goI ?_))
      refine ⟨k, _, rfl, Am hlt, ?_⟩
      (refine goI ?_; repeat (intro gg; refine goI ?_))
      refine ⟨k, _, rfl, Am hlt', ?_⟩
      (refine goI ?_; repeat (intro gg; refine goI ?_))
      (refine Ab (fun h3 => ?_) (fun h3 => ?_) <;> rw [h3])
      · (refine goI ?_; repeat (intro gg; refine goI ?_))
        rw [Me hlt hlt' (Dt (b := Gw.same a[k] b[k]) h3)]
        (exact ⟨[], aI⟩)
      · (refine goI ?_; repeat (intro gg; refine goI ?_))
        (exact ⟨none, trivial, fun _ => ⟨⟨k + 1, by omega, up1 (p := fun j h => Gw.same a[j] (b[j]'(by omega)) = true) h0 (fun _ => Dq (b := Gw.same a[k] b[k]) h3)⟩, by show a.length - (k + 1) < a.length - k; omega, tI, tI, tI, tI⟩⟩)
    · have hge : ¬ k < a.length := (by have := ZW h2; omega)
      (refine goI ?_; repeat (intro gg; refine goI ?_))
      rw [Hm hab (fun i hi _ => h0 i hi (by omega))]
      (exact ⟨[], aI⟩)
namespace Pl
def Nd.agr(x y:Nd):Bool:=Da Mb.same x.ms y.ms&&Da Sv.same x.sv y.sv&&Da Gw.same x.gs y.gs
def Nt.agr(n:Nt):Bool:=n.ns.all fun x=>Nd.agr x (n.ns.headD nd0)
theorem Ago{n:Nt}{y:Nd}(hy:n.ns.headD nd0=y)(h:∀j,(h:j<n.ns.length)→Nd.agr n.ns[j] y=true):n.agr=true:=by
 subst hy;exact List.all_eq_true.2 fun x hx=>by
  obtain⟨k,hk,rfl⟩:=List.getElem_of_mem hx;exact h k hk
theorem Alj{n:Nt}{y:Nd}(hy:n.ns.headD nd0=y){k:Nat}(hk:k<n.ns.length)(h:Nd.agr n.ns[k] y=false):n.agr=false:=by
 subst hy;unfold Nt.agr;rw[List.all_eq_false];exact⟨_,ZK hk,fun q=>by rw[h]at q;cases q⟩
theorem Aa9{l:List Nd}{y:Nd}(hy:l.headD nd0=y){k:Nat}(hk:k<l.length):l[0]'(by omega)=y:=by
 cases l with
 |nil=>simp at hk
 |cons a l=>exact hy
end Pl
theorem Adq[Glob][Tabs](n:Nt)(h:n.ok):Fun Tryz.prog 5 [.c (.agg n.row)] [.c (.v (.bool (decide (n.err=0)&&n.agr))),.c (.v (.int .i64 n.err))]:=by
 have l1:(n.ns.map Nd.row).length=n.ns.length:=ZE ..;have b1:=h.nsl;obtain⟨y,hy⟩:∃y,n.ns.headD nd0=y:=⟨_,rfl⟩;refine A9 Aat rfl ?_;(refine goI ?_;repeat (intro gg;refine goI ?_));refine .inl ⟨_,_,false,[],Ar.same (Si (n:=n)) (.nil _),H7 n h,Af,nI,?_⟩;(refine goI ?_;repeat (intro gg;refine goI ?_));(refine Ab (fun q=>?_) (fun q=>?_)<;>rw[q])
 ·have y:n.err≠0:=by simpa using q
  (refine goI ?_;repeat (intro gg;refine goI ?_));rw[ZY y];(exact⟨[],aI⟩)
 ·have z:n.err=0:=by simpa using q
  rw[z];(refine goI ?_;repeat (intro gg;refine goI ?_));(refine⟨[],none,{k:Nat//k≤n.ns.length∧∀j,(h:j<n.ns.length)→j<k→Nd.agr n.ns[j] y=true},[1,14,15],fun⟨k,hk,h0⟩=>[(16,.v (.int .i64 (k:Int)))],[16],fun⟨k,hk,h0⟩=>[],fun⟨k,hk,h0⟩=>n.ns.length-k,trivial,fun _=>⟨trivial,fun _=>⟨⟨0,ZU _,fun j _ h=>absurd h (Nat.not_lt_zero _)⟩,tI,Ah _ _,tI,Ag _ _⟩⟩,fun⟨k,hk,h0⟩=>?_⟩);(refine goI ?_;repeat (intro gg;refine goI ?_));rw[l1];(refine Ab (fun q2=>?_) (fun q2=>?_)<;>rw[q2])
  ·have hlt:k<n.ns.length:=by have:=ZV q2;omega
   have hx:=h.ns _ (ZK hlt);have e0:=Aa9 hy hlt;(refine goI ?_;repeat (intro gg;refine goI ?_));refine⟨k,_,rfl,Am hlt,?_⟩;(refine goI ?_;repeat (intro gg;refine goI ?_));refine⟨0,_,rfl,Am (show 0<n.ns.length by omega),?_⟩;rw[e0];have ha:Nd.agr n.ns[k] y=(Da Mb.same n.ns[k].ms y.ms&&Da Sv.same n.ns[k].sv y.sv&&Da Gw.same n.ns[k].gs y.gs):=rfl;have hno:=Alj hy hlt;have hyes:=fun q:Nd.agr n.ns[k] y=true=>up1 (p:=fun j h=>Nd.agr n.ns[j] y=true) h0 (fun _=>q);generalize n.ns[k]=x at *;(refine goI ?_;repeat (intro gg;refine goI ?_));refine .inl (cX (Abo false false x.ms y.ms hx.msl) ?_);(refine goI ?_;repeat (intro gg;refine goI ?_));cases e1:Da Mb.same x.ms y.ms with
   |false=>
    rw[hno (by rw[ha,e1];rfl)];(refine goI ?_;repeat (intro gg;refine goI ?_));(exact⟨[],aI⟩)
   |true=>
    (refine goI ?_;repeat (intro gg;refine goI ?_));refine .inl (cX (Ad9 false false x.sv y.sv hx.svl) ?_);(refine goI ?_;repeat (intro gg;refine goI ?_));cases e2:Da Sv.same x.sv y.sv with
    |false=>
     rw[hno (by rw[ha,e1,e2];rfl)];(refine goI ?_;repeat (intro gg;refine goI ?_));(exact⟨[],aI⟩)
    |true=>
     (refine goI ?_;repeat (intro gg;refine goI ?_));refine .inl (cX (Acf false false x.gs y.gs hx.gsl) ?_);(refine goI ?_;repeat (intro gg;refine goI ?_));cases e3:Da Gw.same x.gs y.gs with
     |false=>
      rw[hno (by rw[ha,e1,e2,e3];rfl)];(refine goI ?_;repeat (intro gg;refine goI ?_));(exact⟨[],aI⟩)
     |true=>
      (refine goI ?_;repeat (intro gg;refine goI ?_));(exact⟨none,trivial,fun _=>⟨⟨k+1,by omega,hyes (by rw[ha,e1,e2,e3];rfl)⟩,by show n.ns.length-(k+1)<n.ns.length-k;omega,tI,tI,tI,tI⟩⟩)
  ·have hge:¬k<n.ns.length:=by have:=ZW q2;omega
   rw[Ago hy fun j hj=>h0 j hj (by omega)];(refine goI ?_;repeat (intro gg;refine goI ?_));(exact⟨[],aI⟩)
namespace Pl
theorem Qy{α:Type}{e:α→α→Bool}(he:∀x y,e x y=true↔x=y)(a b:List α):Da e a b=Da e b a:=by
 rw[Bool.eq_iff_iff,Zx he,Zx he];exact eq_comm
theorem Amn(x:Nd):Nd.agr x x=true:=by
 unfold Nd.agr;rw[M5 fun y=>Mb.same_iff.2 rfl,M5 fun y=>Sv.same_iff.2 rfl,M5 fun y=>Gw.same_iff.2 rfl];rfl
theorem Aq2{n:Nt}{y:Nd}(hy:n.ns.headD nd0=y){j:Nat}(hj:j<n.ns.length)(hl:j<1):Nd.agr n.ns[j] y=true:=by
 obtain rfl:j=0:=Nat.lt_one_iff.1 hl;rw[Aa9 hy hj];exact Amn y
end Pl
theorem Afg[Glob](n:Nt)(h:n.ok):Fun Tryz.prog 9 [.c (.agg n.row)] [.c (.v (.bool n.agr))]:=by
 have l1:(n.ns.map Nd.row).length=n.ns.length:=ZE ..;have b1:=h.nsl;obtain⟨y,hy⟩:∃y,n.ns.headD nd0=y:=⟨_,rfl⟩;refine A9 N3 rfl ?_;(refine goI ?_;repeat (intro gg;refine goI ?_));(refine⟨[],none,{k:Nat//(k≤n.ns.length∨k=1)∧1≤k∧∀j,(h:j<n.ns.length)→j<k→Nd.agr n.ns[j] y=true},[1],fun⟨k,hk,hk1,h0⟩=>[(3,.v (.int .i64 (k:Int)))],[16],fun⟨k,hk,hk1,h0⟩=>[],fun⟨k,hk,hk1,h0⟩=>n.ns.length-k,trivial,fun _=>⟨trivial,fun _=>⟨⟨1,.inr rfl,ZT _,fun j hj hl=>Aq2 hy hj hl⟩,tI,Ah _ _,tI,Ag _ _⟩⟩,fun⟨k,hk,hk1,h0⟩=>?_⟩);(refine goI ?_;repeat (intro gg;refine goI ?_));rw[l1];(refine Ab (fun q2=>?_) (fun q2=>?_)<;>rw[q2])
 ·have hlt:k<n.ns.length:=by have:=ZV q2;omega
  have hx:=h.ns _ (ZK hlt);have hy':=h.ns _ (ZK (show 0<n.ns.length by omega));have e0:=Aa9 hy hlt;rw[e0]at hy';(refine goI ?_;repeat (intro gg;refine goI ?_));refine⟨0,_,rfl,Am (show 0<n.ns.length by omega),?_⟩;rw[e0];(refine goI ?_;repeat (intro gg;refine goI ?_));refine⟨k,_,rfl,Am hlt,?_⟩;have ha:Nd.agr n.ns[k] y=(Da Mb.same y.ms n.ns[k].ms&&Da Sv.same y.sv n.ns[k].sv&&Da Gw.same y.gs n.ns[k].gs):=by
   rw[Qy (fun _ _=>Mb.same_iff) y.ms,Qy (fun _ _=>Sv.same_iff) y.sv,Qy (fun _ _=>Gw.same_iff) y.gs];rfl
  have hno:=Alj hy hlt;have hyes:=fun q:Nd.agr n.ns[k] y=true=>up1 (p:=fun j h=>Nd.agr n.ns[j] y=true) h0 (fun _=>q);generalize n.ns[k]=x at *;(refine goI ?_;repeat (intro gg;refine goI ?_));refine .inl (cX (Ajj false false y.ms x.ms hy'.msl) ?_);(refine goI ?_;repeat (intro gg;refine goI ?_));cases e1:Da Mb.same y.ms x.ms with
  |false=>
   rw[hno (by rw[ha,e1];rfl)];(refine goI ?_;repeat (intro gg;refine goI ?_));(exact⟨[],aI⟩)
  |true=>
   (refine goI ?_;repeat (intro gg;refine goI ?_));refine .inl (cX (Ai5 false false y.sv x.sv hy'.svl) ?_);(refine goI ?_;repeat (intro gg;refine goI ?_));cases e2:Da Sv.same y.sv x.sv with
   |false=>
    rw[hno (by rw[ha,e1,e2];rfl)];(refine goI ?_;repeat (intro gg;refine goI ?_));(exact⟨[],aI⟩)
   |true=>
    (refine goI ?_;repeat (intro gg;refine goI ?_));refine .inl (cX (Aij false false y.gs x.gs hy'.gsl) ?_);(refine goI ?_;repeat (intro gg;refine goI ?_));cases e3:Da Gw.same y.gs x.gs with
    |false=>
     rw[hno (by rw[ha,e1,e2,e3];rfl)];(refine goI ?_;repeat (intro gg;refine goI ?_));(exact⟨[],aI⟩)
    |true=>
     (refine goI ?_;repeat (intro gg;refine goI ?_));(exact⟨none,trivial,fun _=>⟨⟨k+1,.inl (by omega),by omega,hyes (by rw[ha,e1,e2,e3];rfl)⟩,by show n.ns.length-(k+1)<n.ns.length-k;omega,tI,tI,tI,tI⟩⟩)
 ·have hge:¬k<n.ns.length:=by have:=ZW q2;omega
  rw[Ago hy fun j hj=>h0 j hj (by omega)];(refine goI ?_;repeat (intro gg;refine goI ?_));(exact⟨[],aI⟩)
end Go.Proofs.YtchbkgnobpejnaaGreatDoor
