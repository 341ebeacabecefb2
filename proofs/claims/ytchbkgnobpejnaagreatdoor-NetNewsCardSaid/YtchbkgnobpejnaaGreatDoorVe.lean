/- Texts of this claim, joined. -/
import Derived.WalkKit
import Derived.Handy
import Derived.StillTailTactics
import Derived.Deep.RegionHeld3
import Derived.Test.YtchbkgnobpejnaaGreatDoorWAbsW
import Derived.Test.YtchbkgnobpejnaaGreatDoorWAbsK
import Derived.Test.YtchbkgnobpejnaaGreatDoorRows
import Derived.Stop.LaidErr
import Derived.Lib.LaidTab
import Derived.Lay
import Derived.Test.YtchbkgnobpejnaaGreatDoorVa
import Derived.Test.YtchbkgnobpejnaaGreatDoorVb
import Derived.Test.YtchbkgnobpejnaaGreatDoorVc
import Derived.Test.YtchbkgnobpejnaaGreatDoorVd
set_option linter.unusedSimpArgs false
set_option linter.unusedVariables false
namespace Go.Proofs.YtchbkgnobpejnaaGreatDoor
open Go Go.RowKit
def O4(b pb nb eb:Nat):Array MapEntry:= #[⟨.int .i64 1,.func (.func 67) #[.pointer (some ⟨b,0,none⟩)] #[],0⟩,⟨.int .i64 2,.func (.func 68) #[.pointer (some ⟨b,0,none⟩)] #[],1⟩,⟨.int .i64 9,.func (.func 69) #[.pointer (some ⟨b,0,none⟩)] #[],2⟩,⟨.int .i64 6,.func (.func 70) #[] #[.pointer (some ⟨pb,0,none⟩),.pointer (some ⟨nb,0,none⟩),.pointer (some ⟨eb,0,none⟩)],3⟩,⟨.int .i64 7,.func (.func 73) #[] #[.pointer (some ⟨pb,0,none⟩),.pointer (some ⟨nb,0,none⟩),.pointer (some ⟨eb,0,none⟩)],4⟩,⟨.int .i64 8,.func (.func 75) #[] #[.pointer (some ⟨pb,0,none⟩),.pointer (some ⟨nb,0,none⟩)],5⟩,⟨.int .i64 10,.func (.func 77) #[] #[.pointer (some ⟨pb,0,none⟩),.pointer (some ⟨nb,0,none⟩),.pointer (some ⟨eb,0,none⟩)],6⟩,⟨.int .i64 11,.func (.func 79) #[] #[.pointer (some ⟨pb,0,none⟩),.pointer (some ⟨nb,0,none⟩),.pointer (some ⟨eb,0,none⟩)],7⟩,⟨.int .i64 12,.func (.func 81) #[] #[.pointer (some ⟨pb,0,none⟩),.pointer (some ⟨nb,0,none⟩),.pointer (some ⟨eb,0,none⟩)],8⟩]
noncomputable def Ul:Code:=match Tryz.f43.body with|some (.seq _ (.seq _ c))=>c|_=>.skip
noncomputable def Zi:Code×Code:=match Tryz.f43.body with|some (.seq a (.seq b _))=>(a,b)|_=>(.skip,.skip)
def Am2:Ae:=.reg [⟨(some 1),none,.box 90 1 (.tmp 0)⟩,
 ⟨(some 2),none,.mv (.const (.int .i64 0))⟩]
def Am7:Ae:=.dreg [[],
 [⟨(some 17),none,.mkm⟩,
 ⟨(some 18),none,.mkm⟩,
 ⟨(some 19),none,.mkm⟩,
 ⟨(some 20),none,.mkm⟩],
 [⟨(some 5),none,.load false 1 (.tmp 1)⟩,
 ⟨(some 6),none,.fldA 0 (.tmp 5)⟩,
 ⟨(some 7),none,.fldA 0 (.tmp 6)⟩,
 ⟨(some 8),none,.fldA 0 (.tmp 7)⟩,
 ⟨(some 9),none,.load false 1 (.tmp 8)⟩,
 ⟨(some 10),none,.load false 1 (.tmp 1)⟩,
 ⟨(some 11),none,.fldA 0 (.tmp 10)⟩,
 ⟨(some 12),none,.fldA 2 (.tmp 11)⟩,
 ⟨(some 13),none,.fldA 1 (.tmp 12)⟩,
 ⟨(some 14),none,.load false 1 (.tmp 13)⟩,
 ⟨(some 15),none,.idxA 12 (.tmp 9) (.tmp 14)⟩,
 ⟨(some 16),none,.load true 12 (.tmp 15)⟩,
 ⟨(some 17),none,.load false 1 (.tmp 1)⟩,
 ⟨(some 18),none,.fldA 0 (.tmp 17)⟩,
 ⟨(some 19),none,.fldA 2 (.tmp 18)⟩,
 ⟨(some 20),none,.load true 19 (.tmp 19)⟩,
 ⟨(some 3),none,.zbox 44 [(.string ⟨#[]⟩),(.string ⟨#[]⟩),(.slice none 0 0),(.slice none 0 0),(.slice none 0 0),(.slice none 0 0),(.int .i64 0),(.int .i64 0),(.int .i64 0),(.int .i64 0),(.int .i64 0),(.slice none 0 0)]⟩,
 ⟨(some 4),none,.zbox 66 [(.int .i64 0),(.int .i64 0),(.int .i64 0),(.int .i64 0),(.string ⟨#[]⟩),(.int .i64 0),(.int .i64 0),(.int .i64 0),(.int .i64 0),(.int .i64 0),(.string ⟨#[]⟩),(.string ⟨#[]⟩),(.string ⟨#[]⟩),(.string ⟨#[]⟩),(.int .i64 0),(.int .i64 0),(.bool false),(.int .i64 0),(.bool false)]⟩,
 ⟨none,none,.store 12 (.tmp 3) (.tmp 16)⟩],
 [⟨none,none,.store 19 (.tmp 4) (.tmp 20)⟩]]
theorem Apd:Ao Tryz.prog 39 Zi.1=some Am2:=by kernel_rfl
theorem Apr:Ao Tryz.prog 39 Zi.2=some Am7:=by kernel_rfl
set_option maxRecDepth 100000 in
set_option maxHeartbeats 8000000 in
theorem Alm(w:World)(pb nb eb b:Nat)(k:Int)(x0 x2 x5 x6 x7 x8 x9 x10 x11 x12 x13 x14 x15 x16 x17 x18 x19 x20 x21 x22 x23 x24 x25 x26 x27 x28 x29 x30 x31 x32 x33 x34 x35 x36 x37 x38:Value)(Q:Exit→Act→World→Prop)(cp:w.cell? ⟨pb,0,none⟩=some (.pointer (some ⟨b,0,none⟩)))(ck:w.cell? ⟨eb,0,none⟩=some (.int .i64 k)){i:Nat}{f:FuncId}{fs cs:Array Value}(hf:Instr.findNow (.int .i64) (.int .i64 k) (O4 b pb nb eb).toList 0=some (some (i,.func (.func f) fs cs)))(hcan:Dd Tryz.prog f)(hc:∀w4,w4=w.alloc (.map (O4 b pb nb eb) 9)→Calls Tryz.prog f (fs++cs) w4 fun e w5=>(∃x,e=.returned x∧∀T:Array Value,T.size=39→T.getD 2 undef=x→Q .ret ⟨T,[]⟩ w5)∨(∃ch,e=.panicked ch∧∀T,Q (.panic ch) ⟨T,[]⟩ w5)):
  Ul.wp Tryz.prog Q ⟨#[x0,.pointer (some ⟨pb,0,none⟩),x2,.pointer (some ⟨nb,0,none⟩),.pointer (some ⟨eb,0,none⟩),x5,x6,x7,x8,x9,x10,x11,x12,x13,x14,x15,x16,x17,x18,x19,x20,x21,x22,x23,x24,x25,x26,x27,x28,x29,x30,x31,x32,x33,x34,x35,x36,x37,x38],[]⟩ w:=by
 have cp':∀o,(w.alloc o).cell? ⟨pb,0,none⟩=some (.pointer (some ⟨b,0,none⟩)):=fun o=>by rw[World.cell?_alloc_some _ _ _ (by rw[cp];rfl),cp]
 have ck':∀o,(w.alloc o).cell? ⟨eb,0,none⟩=some (.int .i64 k):=fun o=>by rw[World.cell?_alloc_some _ _ _ (by rw[ck];rfl),ck]
 clear cp ck;have hmm:= @run_makeMap Tryz.prog;unfold Ul Tryz.f43;dsimp only
 go_wp2_with fail
 rw[Hl (kt:=3) (et:=93) (by kernel_rfl) (by kernel_rfl) rfl]
 go_wp2_with fail
 rw[Hl (kt:=3) (et:=93) (by kernel_rfl) (by kernel_rfl) rfl]
 go_wp2_with fail
 rw[Hl (kt:=3) (et:=93) (by kernel_rfl) (by kernel_rfl) rfl]
 go_wp2_with fail
 rw[Hl (kt:=3) (et:=93) (by kernel_rfl) (by kernel_rfl) rfl]
 go_wp2_with fail
 rw[Hl (kt:=3) (et:=93) (by kernel_rfl) (by kernel_rfl) rfl]
 go_wp2_with fail
 rw[Hl (kt:=3) (et:=93) (by kernel_rfl) (by kernel_rfl) rfl]
 go_wp2_with fail
 rw[Hl (kt:=3) (et:=93) (by kernel_rfl) (by kernel_rfl) rfl]
 go_wp2_with fail
 rw[Hl (kt:=3) (et:=93) (by kernel_rfl) (by kernel_rfl) rfl]
 go_wp2_with fail
 rw[Hl (kt:=3) (et:=93) (by kernel_rfl) (by kernel_rfl) rfl]
 go_wp2_with fail
 unfold O4 at hf;rw[Ak1 (kt:=3) (et:=93) (by kernel_rfl) (by kernel_rfl) hf]
 go_wp2_with fail
 rw[Zg hcan];simp only[Oper.upon];unfold O4 at hc;refine(hc _ rfl).mono ?_
 rintro e w5 (⟨x,rfl,hq⟩|⟨ch,rfl,hq⟩)
 ·go_wp2_with fail
  exact hq _ rfl rfl
 ·exact hq _
def K1(K:List V→Hp→Prop):List V→Hp→Prop:=fun us H=>match us with|[u]=>K [u] H|_=>False
theorem An9(t:Array Value)(h:t.size=39):t= #[t.getD 0 undef,t.getD 1 undef,t.getD 2 undef,t.getD 3 undef,t.getD 4 undef,t.getD 5 undef,t.getD 6 undef,t.getD 7 undef,t.getD 8 undef,t.getD 9 undef,t.getD 10 undef,t.getD 11 undef,t.getD 12 undef,t.getD 13 undef,t.getD 14 undef,t.getD 15 undef,t.getD 16 undef,t.getD 17 undef,t.getD 18 undef,t.getD 19 undef,t.getD 20 undef,t.getD 21 undef,t.getD 22 undef,t.getD 23 undef,t.getD 24 undef,t.getD 25 undef,t.getD 26 undef,t.getD 27 undef,t.getD 28 undef,t.getD 29 undef,t.getD 30 undef,t.getD 31 undef,t.getD 32 undef,t.getD 33 undef,t.getD 34 undef,t.getD 35 undef,t.getD 36 undef,t.getD 37 undef,t.getD 38 undef]:=by
 have e:t.toList=(List.range 39).map fun i=>t.getD i undef:=by
  apply List.ext_getElem
  ·simpa using h
  ·intro i h1 h2;simp[Array.getD];simp at h1;omega
 exact Array.ext' e
theorem Agv[Glob]{c:Ctx}{env:Env}{H:Hp}{D:Value→Prop}{a:Act}{w:World}{K:List V→Hp→Prop}{pid pg eid eg nid ng id g:Nat}{ep ee en eo:Ent}{er nr:List V}{f i:Nat}{k:Int}{us:List V}{fs cs:Nat→Nat→Nat→Nat→List Value}(hR:Rel c ⟨env,H,D⟩ a w)(hn:c.n=39)(p1:env 1=.ptr pid pg 0 0)(p2:H pid=some ep)(p3:ep.gen=pg)(p4:ep.rows[0]? =some [.ptr id g 0 0])(q1:env 4=.ptr eid eg 0 0)(q2:H eid=some ee)(q3:ee.gen=eg)(q4:ee.rows[0]? =some (.v (.int .i64 k)::er))(n1:env 3=.ptr nid ng 0 0)(n2:H nid=some en)(n3:en.gen=ng)(n4:en.rows[0]? =some nr)(o2:H id=some eo)(o3:eo.gen=g)(hf:∀b pb nb eb,Instr.findNow (.int .i64) (.int .i64 k) (O4 b pb nb eb).toList 0=some (some (i,.func (.func f) (fs b pb nb eb).toArray (cs b pb nb eb).toArray)))(hl:∀w R G b pb nb eb,RV w R G (.ptr id g 0 0) (.pointer (some ⟨b,0,none⟩))→RV w R G (.ptr pid pg 0 0) (.pointer (some ⟨pb,0,none⟩))→RV w R G (.ptr nid ng 0 0) (.pointer (some ⟨nb,0,none⟩))→RV w R G (.ptr eid eg 0 0) (.pointer (some ⟨eb,0,none⟩))→
   us.length=(fs b pb nb eb++cs b pb nb eb).length∧∀(j:Nat) (u:V) (x:Value),us[j]? =some u→(fs b pb nb eb++cs b pb nb eb)[j]? =some x→RV w R G u x)(hI:Inl Tryz.prog f us H D (K1 K)):Ul.wp Tryz.prog (Qt c (Afh [(2,none)] K)) a w:=by
 obtain⟨R,G,h⟩:=hR;have h1:=h.env 1;have h3:=h.env 3;have h4:=h.env 4;simp only[p1,n1,q1]at h1 h3 h4;obtain⟨pb,y,t1,c1,v1⟩:=h.cellAt h1 p2 p3 p4 (j:=0) rfl;obtain⟨l,b,_,_,_,_,e1⟩:=h.objB v1 o2 o3;rw[Nat.zero_mul]at e1;subst e1;obtain⟨eb,y,t4,c4,v4⟩:=h.cellAt h4 q2 q3 q4 (j:=0) rfl;cases v4;obtain⟨l',nb,_,_,_,_,t3⟩:=h.objB h3 n2 n3;rw[Nat.zero_mul]at t3;have hs:a.tmps.size=39:=h.n.trans hn;have hd:=h.defers;obtain⟨tm,df⟩:=a;simp only at t1 t3 t4 hs hd;subst hd;rw[An9 tm hs,t1,t3,t4];rw[t1]at h1;rw[t3]at h3;rw[t4]at h4;obtain⟨hlen,hrv⟩:=hl w R G b pb nb eb v1 h1 h3 h4;refine Alm w pb nb eb b k _ _ _ _ _ _ _ _ _ _ _ _ _ _ _ _ _ _ _ _ _ _ _ _ _ _ _ _ _ _ _ _ _ _ _ _ _ c1 c4 (hf b pb nb eb) hI.can ?_
 rintro w4 rfl
 have hal:=h.alloc (.map (O4 b pb nb eb) 9);rw[List.append_toArray];refine(Apq hal hlen (fun j u x e1 e2=>(hrv j u x e1 e2).mono (fun b hb=>⟨hb,?_⟩) (Gle.refl _)) hI).mono ?_
 ·show(w.heap.push _)[b]? =_;rw[Array.getElem?_push_lt (h.lt b hb)];exact(Array.getElem?_eq_getElem (h.lt b hb)).symm
 rintro e w5 (⟨us',H',x,R',G',hK,rfl,hA,hV⟩|⟨v,rfl,hD,hF⟩)
 ·obtain⟨u,rfl,hK⟩:∃u,us'=[u]∧K [u] H':=by
   unfold K1 at hK;split at hK
   ·exact⟨_,rfl,hK⟩
   ·exact hK.elim
  refine .inl ⟨x,rfl,fun T hT hx=>⟨⟨fun i=>if i=2 then u else .any,H',D⟩,⟨[u],.tmp .nil,hK⟩,R',G',⟨fun i=>?_,hA.hr,hA.lt,hA.src,hA.old,hA.fr,hT.trans hn.symm,rfl,hA.die,hA.gle⟩⟩⟩;show RV _ _ _ (if i=2 then u else .any) _;split
  ·rename_i e;subst e;show RV w5 R' G' u (T.getD 2 undef);rw[hx];exact hV
  ·exact .any _
 ·exact .inr ⟨_,rfl,fun T=>⟨v,rfl,by rw[←h.die];exact hD,hF,rfl⟩⟩
theorem Al1[Glob]{c:Ctx}{env:Env}{H:Hp}{D:Value→Prop}{a:Act}{w:World}{K:List V→Hp→Prop}{pid pg eid eg nid ng id g:Nat}{ep ee en eo:Ent}{er nr:List V}{f i:Nat}{k:Int}(hR:Rel c ⟨env,H,D⟩ a w)(hn:c.n=39)(p1:env 1=.ptr pid pg 0 0)(p2:H pid=some ep)(p3:ep.gen=pg)(p4:ep.rows[0]? =some [.ptr id g 0 0])(q1:env 4=.ptr eid eg 0 0)(q2:H eid=some ee)(q3:ee.gen=eg)(q4:ee.rows[0]? =some (.v (.int .i64 k)::er))(n1:env 3=.ptr nid ng 0 0)(n2:H nid=some en)(n3:en.gen=ng)(n4:en.rows[0]? =some nr)(o2:H id=some eo)(o3:eo.gen=g)(hf:∀b pb nb eb,Instr.findNow (.int .i64) (.int .i64 k) (O4 b pb nb eb).toList 0=some (some (i,.func (.func f) #[.pointer (some ⟨b,0,none⟩)] #[])))(hI:Inl Tryz.prog f [.ptr id g 0 0] H D (K1 K)):Ul.wp Tryz.prog (Qt c (Afh [(2,none)] K)) a w:=
 Agv (fs:=fun b _ _ _=>[.pointer (some ⟨b,0,none⟩)]) (cs:=fun _ _ _ _=>[]) hR hn p1 p2 p3 p4 q1 q2 q3 q4 n1 n2 n3 n4 o2 o3 hf (fun w R G b pb nb eb v1 _ _ _=>⟨rfl,fun j u x e1 e2=>by
  cases j with
  |zero=>cases e1;cases e2;exact v1
  |succ j=>cases e1⟩) hI
theorem Agq[Glob](off:Nat){us:List V}{H:Hp}{D:Value→Prop}{K:List V→Hp→Prop}(hl:us.length=1)(h:letI:Off:=⟨off⟩;wpx Tryz.prog D (.seq Am2 Am7) (Alz Tryz.prog D 39 [(2,none)] Ul K) (atV us) H):Inl Tryz.prog 43 us H D K:=
 letI:Off:=⟨off⟩;Aiu (fn:=Tryz.f43) (c0:=Zi.1) (c1:=Zi.2) (by kernel_rfl) (by kernel_rfl) (by kernel_rfl) Apd Apr (by rw[hl];decide) (by kernel_rfl) h
set_option maxRecDepth 100000
def V6(ex:List Nat)(H0 H:Hp):Prop:=∀id e,ex.contains id=false→H0 id=some e→H id=some e
theorem Arr{T:List Nat}{H0 H:Hp}(h:V6 [] H0 H):G6 T H0 H:=fun id e _ q=>h id e rfl q
theorem Ana{ex:List Nat}{H0 H:Hp}{k:Nat}{x:Option Ent}(hk:H k=x)(h:V6 (k::ex) H0 H):V6 ex (upd H0 k x) H:=fun id e h1 h2=>by
 by_cases q:id=k
 ·subst q;rw[Ag]at h2;exact hk.trans h2
 ·rw[Aq _ _ q]at h2;refine h id e ?_ h2;rw[List.contains_cons,h1,Bool.or_false];exact ZG.2 q
theorem Akh{ex:List Nat}{H0 H:Hp}(h:V6 ex H0 H):V6 ex (Ux H0 []) H:=h
theorem Aok{ex:List Nat}{ps:List Par}{H:Hp}(h:(ps.all fun p=>match p with|.o _ _ _=>false|_=>true)=true):V6 ex (H4 ps) H:=fun id e h1 h2=>by
 unfold H4 at h2;split at h2
 ·cases hp:ps[id/16]? with
  |none=>rw[hp]at h2;cases h2
  |some p=>
   rw[hp]at h2;have:=List.all_eq_true.1 h p (ZH hp);cases p with
   |c u=>cases h2
   |o T sz rows=>cases this
 ·cases h2
theorem kEI{T:List Nat}{H0 H:Hp}{p:Prop}(hp:p)(h:V6 [] H0 H:=by(repeat' (first|exact Aok rfl|with_reducible refine Akh ?_|refine kE_in rfl ?_|refine Ana (by kernel_rfl) ?_))):G6 T H0 H∧p:=⟨Arr h,hp⟩
section
variable {a b c t:ByteArray} (ha:(⟨#[97]⟩:ByteArray)=a) (hb:(⟨#[98]⟩:ByteArray)=b) (hc:(⟨#[99]⟩:ByteArray)=c) (hk:(⟨a,true,[⟨a,1,1,1,false⟩],[],[],[]⟩:Pl.Pk).err=0) (ht:Pl.bA (Pl.pkB (⟨a,true,[⟨a,1,1,1,false⟩],[],[],[]⟩:Pl.Pk))=t) (hz:t.size≤1000000000000) (hA:(⟨a,c,[⟨a,1,1,1,false⟩],[],[],[],⟨0,0,0,0,1000⟩,[]⟩:Pl.Nd).err=0) (hB:(⟨b,c,[⟨b,1,1,2,true⟩],[],[],[],⟨0,0,0,0,1000⟩,[]⟩:Pl.Nd).err=0) (ok0:Pl.Nt.ok ⟨[(⟨a,c,[⟨a,1,1,1,false⟩],[],[],[],⟨0,0,0,0,1000⟩,[]⟩:Pl.Nd),(⟨b,c,[⟨b,1,1,2,true⟩],[],[],[],⟨0,0,0,0,1000⟩,[]⟩:Pl.Nd)],[]⟩) (ok1:Pl.Nt.ok ⟨[(⟨a,c,[⟨a,1,1,1,false⟩],[],[],[],⟨0,0,0,0,1000⟩,[]⟩:Pl.Nd),(⟨b,c,[⟨b,1,1,2,true⟩],[],[],[],⟨0,0,0,0,1000⟩,[]⟩:Pl.Nd)],[⟨1,t⟩]⟩) (e0:Pl.Nt.err ⟨[(⟨a,c,[⟨a,1,1,1,false⟩],[],[],[],⟨0,0,0,0,1000⟩,[]⟩:Pl.Nd),(⟨b,c,[⟨b,1,1,2,true⟩],[],[],[],⟨0,0,0,0,1000⟩,[]⟩:Pl.Nd)],[]⟩=0) (e1:Pl.Nt.err ⟨[(⟨a,c,[⟨a,1,1,1,false⟩],[],[],[],⟨0,0,0,0,1000⟩,[]⟩:Pl.Nd),(⟨b,c,[⟨b,1,1,2,true⟩],[],[],[],⟨0,0,0,0,1000⟩,[]⟩:Pl.Nd)],[⟨1,t⟩]⟩=0)
include ha hb hc hk ht hz hA hB ok0 ok1 e0 e1
omit ha hb hc hA hB ok0 ok1 e0 e1 in
theorem rdT[Glob][Tabs]:Fun Tryz.prog 21 [.c (.v (.string t))] [.c (.agg [.v (.string a),.v (.bool true),.sl false [[.v (.string a),.v (.int .i64 1),.v (.int .i64 1),.v (.int .i64 1),.v (.bool false)]],.sl false [],.sl false [],.sl false []]),.c (.v (.int .i64 0))]:=(by have h:=T3 t hz;rw[←ht,Pl.rdPk_back hk,ht]at h;exact h)
omit ha hb hc hz hA hB ok0 ok1 e0 e1 in
theorem wrT[Glob][Tabs]:Fun Tryz.prog 159 [.c (.agg [.v (.string a),.v (.bool true),.sl false [[.v (.string a),.v (.int .i64 1),.v (.int .i64 1),.v (.int .i64 1),.v (.bool false)]],.sl false [],.sl false [],.sl false []])] [.c (.v (.string t)),.c (.v (.int .i64 0))]:=(by have h:=Aa0 (⟨a,true,[⟨a,1,1,1,false⟩],[],[],[]⟩:Pl.Pk) (Pk.okB_ok (Pl.Pk.sm hk).okB);rw[hk,show Pl.wrPk (⟨a,true,[⟨a,1,1,1,false⟩],[],[],[]⟩:Pl.Pk)=_ from if_pos hk,ht]at h;exact h)
omit ha hb hc hk ht hz hB ok0 ok1 e0 e1 in
theorem Aqu[Glob]:Fun Tryz.prog 58 [.c (.agg [.v (.string a),.v (.string c),.sl false [[.v (.string a),.v (.int .i64 1),.v (.int .i64 1),.v (.int .i64 1),.v (.bool false)]],.sl false [],.sl false [],.sl false [],.v (.int .i64 0),.v (.int .i64 0),.v (.int .i64 0),.v (.int .i64 0),.v (.int .i64 1000),.sl false []])] [.c (.agg [.v (.string a),.v (.string c),.sl false [[.v (.string a),.v (.int .i64 1),.v (.int .i64 1),.v (.int .i64 1),.v (.bool false)]],.sl false [],.sl false [],.sl false [],.v (.int .i64 0),.v (.int .i64 0),.v (.int .i64 0),.v (.int .i64 0),.v (.int .i64 1000),.sl false []])]:=M3 (⟨a,c,[⟨a,1,1,1,false⟩],[],[],[],⟨0,0,0,0,1000⟩,[]⟩:Pl.Nd) (Pl.Nd.good hA)
omit ha hb hc hk ht hz hA ok0 ok1 e0 e1 in
theorem Apf[Glob]:Fun Tryz.prog 58 [.c (.agg [.v (.string b),.v (.string c),.sl false [[.v (.string b),.v (.int .i64 1),.v (.int .i64 1),.v (.int .i64 2),.v (.bool true)]],.sl false [],.sl false [],.sl false [],.v (.int .i64 0),.v (.int .i64 0),.v (.int .i64 0),.v (.int .i64 0),.v (.int .i64 1000),.sl false []])] [.c (.agg [.v (.string b),.v (.string c),.sl false [[.v (.string b),.v (.int .i64 1),.v (.int .i64 1),.v (.int .i64 2),.v (.bool true)]],.sl false [],.sl false [],.sl false [],.v (.int .i64 0),.v (.int .i64 0),.v (.int .i64 0),.v (.int .i64 0),.v (.int .i64 1000),.sl false []])]:=M3 (⟨b,c,[⟨b,1,1,2,true⟩],[],[],[],⟨0,0,0,0,1000⟩,[]⟩:Pl.Nd) (Pl.Nd.good hB)
omit ha hb hc hk ht hz hA hB ok0 ok1 e0 e1 in
theorem kN[Glob]:Fun Tryz.prog 56 [.c (.sl false [[.v (.string a),.v (.string c),.sl false [[.v (.string a),.v (.int .i64 1),.v (.int .i64 1),.v (.int .i64 1),.v (.bool false)]],.sl false [],.sl false [],.sl false [],.v (.int .i64 0),.v (.int .i64 0),.v (.int .i64 0),.v (.int .i64 0),.v (.int .i64 1000),.sl false []],[.v (.string b),.v (.string c),.sl false [[.v (.string b),.v (.int .i64 1),.v (.int .i64 1),.v (.int .i64 2),.v (.bool true)]],.sl false [],.sl false [],.sl false [],.v (.int .i64 0),.v (.int .i64 0),.v (.int .i64 0),.v (.int .i64 0),.v (.int .i64 1000),.sl false []]])] [.o 44 12 [[.v (.string a),.v (.string c),.sl false [[.v (.string a),.v (.int .i64 1),.v (.int .i64 1),.v (.int .i64 1),.v (.bool false)]],.sl false [],.sl false [],.sl false [],.v (.int .i64 0),.v (.int .i64 0),.v (.int .i64 0),.v (.int .i64 0),.v (.int .i64 1000),.sl false []],[.v (.string b),.v (.string c),.sl false [[.v (.string b),.v (.int .i64 1),.v (.int .i64 1),.v (.int .i64 2),.v (.bool true)]],.sl false [],.sl false [],.sl false [],.v (.int .i64 0),.v (.int .i64 0),.v (.int .i64 0),.v (.int .i64 0),.v (.int .i64 1000),.sl false []]]]:=Sx false [(⟨a,c,[⟨a,1,1,1,false⟩],[],[],[],⟨0,0,0,0,1000⟩,[]⟩:Pl.Nd),(⟨b,c,[⟨b,1,1,2,true⟩],[],[],[],⟨0,0,0,0,1000⟩,[]⟩:Pl.Nd)] (Nat.le_of_ble_eq_true rfl)
omit ha hb hc hk ht hz hA hB ok0 ok1 e0 e1 in
theorem kL0[Glob]:Fun Tryz.prog 57 [.c (.sl false [])] [.o 57 2 []]:=Nj false [] (Nat.le_of_ble_eq_true rfl)
omit ha hb hc hk ht hz hA hB ok0 ok1 e0 e1 in
theorem kL1[Glob]:Fun Tryz.prog 57 [.c (.sl false [[.v (.int .i64 1),.v (.string t)]])] [.o 57 2 [[.v (.int .i64 1),.v (.string t)]]]:=Nj false [⟨1,t⟩] (Nat.le_of_ble_eq_true rfl)
omit ha hb hc hk ht hz hA hB ok0 ok1 e0 e1 in
theorem Ar8[Glob]:Fun Tryz.prog 66 [.o 57 2 [[.v (.int .i64 1),.v (.string t)]],.c (.v (.int .i64 0)),.c (.v (.int .i64 1))] [.o 57 2 []]:=Agd [⟨1,t⟩] 0 (Nat.lt_succ_self 0) (Nat.le_of_ble_eq_true rfl)
omit ha hb hc hk ht hz hA hB ok1 e1 in
theorem Ari[Glob][Tabs]:Fun Tryz.prog 8 [.c (.agg [.sl false [[.v (.string a),.v (.string c),.sl false [[.v (.string a),.v (.int .i64 1),.v (.int .i64 1),.v (.int .i64 1),.v (.bool false)]],.sl false [],.sl false [],.sl false [],.v (.int .i64 0),.v (.int .i64 0),.v (.int .i64 0),.v (.int .i64 0),.v (.int .i64 1000),.sl false []],[.v (.string b),.v (.string c),.sl false [[.v (.string b),.v (.int .i64 1),.v (.int .i64 1),.v (.int .i64 2),.v (.bool true)]],.sl false [],.sl false [],.sl false [],.v (.int .i64 0),.v (.int .i64 0),.v (.int .i64 0),.v (.int .i64 0),.v (.int .i64 1000),.sl false []]],.sl false []])] [.c (.v (.int .i64 0))]:=(by have h:=Nc ⟨[(⟨a,c,[⟨a,1,1,1,false⟩],[],[],[],⟨0,0,0,0,1000⟩,[]⟩:Pl.Nd),(⟨b,c,[⟨b,1,1,2,true⟩],[],[],[],⟨0,0,0,0,1000⟩,[]⟩:Pl.Nd)],[]⟩ ok0;rw[e0]at h;exact h)
omit ha hb hc hk ht hz hA hB ok0 e0 in
theorem Are[Glob][Tabs]:Fun Tryz.prog 8 [.c (.agg [.sl false [[.v (.string a),.v (.string c),.sl false [[.v (.string a),.v (.int .i64 1),.v (.int .i64 1),.v (.int .i64 1),.v (.bool false)]],.sl false [],.sl false [],.sl false [],.v (.int .i64 0),.v (.int .i64 0),.v (.int .i64 0),.v (.int .i64 0),.v (.int .i64 1000),.sl false []],[.v (.string b),.v (.string c),.sl false [[.v (.string b),.v (.int .i64 1),.v (.int .i64 1),.v (.int .i64 2),.v (.bool true)]],.sl false [],.sl false [],.sl false [],.v (.int .i64 0),.v (.int .i64 0),.v (.int .i64 0),.v (.int .i64 0),.v (.int .i64 1000),.sl false []]],.sl false [[.v (.int .i64 1),.v (.string t)]]])] [.c (.v (.int .i64 0))]:=(by have h:=Nc ⟨[(⟨a,c,[⟨a,1,1,1,false⟩],[],[],[],⟨0,0,0,0,1000⟩,[]⟩:Pl.Nd),(⟨b,c,[⟨b,1,1,2,true⟩],[],[],[],⟨0,0,0,0,1000⟩,[]⟩:Pl.Nd)],[⟨1,t⟩]⟩ ok1;rw[e1]at h;exact h)
omit ha hb hc hk ht hz hA hB ok1 e1 in
theorem Arj[Glob][Tabs]:Fun Tryz.prog 10 [.o 44 12 [[.v (.string a),.v (.string c),.sl false [[.v (.string a),.v (.int .i64 1),.v (.int .i64 1),.v (.int .i64 1),.v (.bool false)]],.sl false [],.sl false [],.sl false [],.v (.int .i64 0),.v (.int .i64 0),.v (.int .i64 0),.v (.int .i64 0),.v (.int .i64 1000),.sl false []],[.v (.string b),.v (.string c),.sl false [[.v (.string b),.v (.int .i64 1),.v (.int .i64 1),.v (.int .i64 2),.v (.bool true)]],.sl false [],.sl false [],.sl false [],.v (.int .i64 0),.v (.int .i64 0),.v (.int .i64 0),.v (.int .i64 0),.v (.int .i64 1000),.sl false []]]] [.c (.agg [.sl false [[.v (.string a),.v (.string c),.sl false [[.v (.string a),.v (.int .i64 1),.v (.int .i64 1),.v (.int .i64 1),.v (.bool false)]],.sl false [],.sl false [],.sl false [],.v (.int .i64 0),.v (.int .i64 0),.v (.int .i64 0),.v (.int .i64 0),.v (.int .i64 1000),.sl false []],[.v (.string b),.v (.string c),.sl false [[.v (.string b),.v (.int .i64 1),.v (.int .i64 1),.v (.int .i64 2),.v (.bool true)]],.sl false [],.sl false [],.sl false [],.v (.int .i64 0),.v (.int .i64 0),.v (.int .i64 0),.v (.int .i64 0),.v (.int .i64 1000),.sl false []]],.sl false []]),.c (.v (.int .i64 0))]:=(by have h:=Xi [(⟨a,c,[⟨a,1,1,1,false⟩],[],[],[],⟨0,0,0,0,1000⟩,[]⟩:Pl.Nd),(⟨b,c,[⟨b,1,1,2,true⟩],[],[],[],⟨0,0,0,0,1000⟩,[]⟩:Pl.Nd)] ok0.nsl ok0.ns;rw[show Pl.newNt [(⟨a,c,[⟨a,1,1,1,false⟩],[],[],[],⟨0,0,0,0,1000⟩,[]⟩:Pl.Nd),(⟨b,c,[⟨b,1,1,2,true⟩],[],[],[],⟨0,0,0,0,1000⟩,[]⟩:Pl.Nd)]=⟨[(⟨a,c,[⟨a,1,1,1,false⟩],[],[],[],⟨0,0,0,0,1000⟩,[]⟩:Pl.Nd),(⟨b,c,[⟨b,1,1,2,true⟩],[],[],[],⟨0,0,0,0,1000⟩,[]⟩:Pl.Nd)],[]⟩from if_neg (fun q=>q e0),e0]at h;exact Aov h)
omit hb hz ok1 e1 in
theorem Art[Glob][Tabs]:Fun Tryz.prog 19 [.c (.agg [.sl false [[.v (.string a),.v (.string c),.sl false [[.v (.string a),.v (.int .i64 1),.v (.int .i64 1),.v (.int .i64 1),.v (.bool false)]],.sl false [],.sl false [],.sl false [],.v (.int .i64 0),.v (.int .i64 0),.v (.int .i64 0),.v (.int .i64 0),.v (.int .i64 1000),.sl false []],[.v (.string b),.v (.string c),.sl false [[.v (.string b),.v (.int .i64 1),.v (.int .i64 1),.v (.int .i64 2),.v (.bool true)]],.sl false [],.sl false [],.sl false [],.v (.int .i64 0),.v (.int .i64 0),.v (.int .i64 0),.v (.int .i64 0),.v (.int .i64 1000),.sl false []]],.sl false []]),.c (.agg [.v (.int .i64 2),.v (.int .i64 0),.v (.int .i64 1),.v (.int .i64 0),.v (.string ⟨#[]⟩),.v (.int .i64 0),.v (.int .i64 0),.v (.int .i64 0),.v (.int .i64 0),.v (.int .i64 0),.v (.string ⟨#[]⟩),.v (.string ⟨#[]⟩),.v (.string ⟨#[]⟩),.v (.string ⟨#[]⟩),.v (.int .i64 0),.v (.int .i64 0),.v (.bool false),.v (.int .i64 0),.v (.bool false)])] [.c (.agg [.sl false [[.v (.string a),.v (.string c),.sl false [[.v (.string a),.v (.int .i64 1),.v (.int .i64 1),.v (.int .i64 1),.v (.bool false)]],.sl false [],.sl false [],.sl false [],.v (.int .i64 0),.v (.int .i64 0),.v (.int .i64 0),.v (.int .i64 0),.v (.int .i64 1000),.sl false []],[.v (.string b),.v (.string c),.sl false [[.v (.string b),.v (.int .i64 1),.v (.int .i64 1),.v (.int .i64 2),.v (.bool true)]],.sl false [],.sl false [],.sl false [],.v (.int .i64 0),.v (.int .i64 0),.v (.int .i64 0),.v (.int .i64 0),.v (.int .i64 1000),.sl false []]],.sl false [[.v (.int .i64 1),.v (.string t)]]]),.c (.v (.int .i64 0))]:=by
 refine Nz 9 Sd rfl ?_;(refine goI ?_;repeat (intro gg;refine goI ?_));refine .inl ⟨_,_,false,[],Au.same (Sc (n:=⟨[(⟨a,c,[⟨a,1,1,1,false⟩],[],[],[],⟨0,0,0,0,1000⟩,[]⟩:Pl.Nd),(⟨b,c,[⟨b,1,1,2,true⟩],[],[],[],⟨0,0,0,0,1000⟩,[]⟩:Pl.Nd)],[]⟩)) (.nil _),Ari ok0 e0,Am,nI,?_⟩;(refine goI ?_;repeat (intro gg;refine goI ?_));refine⟨([]:List Nat),?_⟩;(refine goI ?_;repeat (intro gg;refine goI ?_));refine o4 (Aek 3000 9 O0 rfl ?_);(refine goI ?_;repeat (intro gg;refine goI ?_));refine⟨_,_,false,Au.same (Ic (l:=[(⟨a,c,[⟨a,1,1,1,false⟩],[],[],[],⟨0,0,0,0,1000⟩,[]⟩:Pl.Nd),(⟨b,c,[⟨b,1,1,2,true⟩],[],[],[],⟨0,0,0,0,1000⟩,[]⟩:Pl.Nd)])) (.nil _),kN,Am,nI,?_⟩;(refine goI ?_;repeat (intro gg;refine goI ?_));refine⟨_,_,false,aJ,kL0,Am,nI,?_⟩;(refine goI ?_;repeat (intro gg;refine goI ?_));refine⟨0,_,by kernel_rfl,rfl,?_⟩;(refine goI ?_;repeat (intro gg;refine goI ?_));refine⟨_,_,false,Au.same (Lr (Ug (n:=(⟨a,c,[⟨a,1,1,1,false⟩],[],[],[],⟨0,0,0,0,1000⟩,[]⟩:Pl.Nd)))) (.nil _),Aqu hA,Am,nI,?_⟩;(refine goI ?_;repeat (intro gg;refine goI ?_));refine⟨0,_,by kernel_rfl,rfl,?_⟩;(refine goI ?_;repeat (intro gg;refine goI ?_));refine⟨1,_,by kernel_rfl,rfl,?_⟩;(refine goI ?_;repeat (intro gg;refine goI ?_));refine⟨_,_,false,Au.same (Lr (Ug (n:=(⟨b,c,[⟨b,1,1,2,true⟩],[],[],[],⟨0,0,0,0,1000⟩,[]⟩:Pl.Nd)))) (.nil _),Apf hB,Am,nI,?_⟩;(refine goI ?_;repeat (intro gg;refine goI ?_));refine⟨1,_,by kernel_rfl,rfl,?_⟩;(refine goI ?_;repeat (intro gg;refine goI ?_));refine kEI ?_;(refine goI ?_;repeat (intro gg;refine goI ?_));refine o4 (Ap 13000 9 G4 rfl ?_);(refine goI ?_;repeat (intro gg;refine goI ?_));refine o4 (Agq 90000 rfl ?_);(refine goI ?_;repeat (intro gg;refine goI ?_));refine⟨0,_,by kernel_rfl,rfl,?_⟩;(refine goI ?_;repeat (intro gg;refine goI ?_));refine⟨fun cc aa ww hn hR=>Al1 hR hn rfl rfl rfl rfl rfl rfl rfl rfl rfl rfl rfl rfl rfl rfl (fun _ _ _ _=>rfl) (Ap 50000 9 Oe rfl ?_)⟩;(refine goI ?_;repeat (intro gg;refine goI ?_));refine o4 (Ap 15000 9 G4 rfl ?_);(refine goI ?_;repeat (intro gg;refine goI ?_));refine⟨0,_,by kernel_rfl,rfl,?_⟩;(refine goI ?_;repeat (intro gg;refine goI ?_));refine⟨_,_,false,aJ,Arb ha hc,Am,nI,?_⟩;(refine goI ?_;repeat (intro gg;refine goI ?_));refine o4 (Ap 18000 9 O7 rfl ?_);(refine goI ?_;repeat (intro gg;refine goI ?_));refine .inl ⟨_,_,false,[],aJ,wrT hk ht,Am,nI,?_⟩;(refine goI ?_;repeat (intro gg;refine goI ?_));refine⟨lI,lI,?_⟩;(refine goI ?_;repeat (intro gg;refine goI ?_));exact Aeq (.cell1 rfl rfl rfl rfl rfl rfl (.tmp1 rfl .nil)) (Pf rfl rfl (Q7 (l:=[(⟨a,c,[⟨a,1,1,1,false⟩],[],[],[],⟨0,0,0,0,1000⟩,[]⟩:Pl.Nd),(⟨b,c,[⟨b,1,1,2,true⟩],[],[],[],⟨0,0,0,0,1000⟩,[]⟩:Pl.Nd)])) (by decide) (Pf rfl rfl (Ci (enc:=Pl.Lt.row) (l:=[(⟨1,t⟩:Pl.Lt)])) (by decide) .nil)) (Ez rfl)
omit ok0 e0 in
theorem Arf[Glob][Tabs]:Fun Tryz.prog 19 [.c (.agg [.sl false [[.v (.string a),.v (.string c),.sl false [[.v (.string a),.v (.int .i64 1),.v (.int .i64 1),.v (.int .i64 1),.v (.bool false)]],.sl false [],.sl false [],.sl false [],.v (.int .i64 0),.v (.int .i64 0),.v (.int .i64 0),.v (.int .i64 0),.v (.int .i64 1000),.sl false []],[.v (.string b),.v (.string c),.sl false [[.v (.string b),.v (.int .i64 1),.v (.int .i64 1),.v (.int .i64 2),.v (.bool true)]],.sl false [],.sl false [],.sl false [],.v (.int .i64 0),.v (.int .i64 0),.v (.int .i64 0),.v (.int .i64 0),.v (.int .i64 1000),.sl false []]],.sl false [[.v (.int .i64 1),.v (.string t)]]]),.c (.agg [.v (.int .i64 3),.v (.int .i64 0),.v (.int .i64 0),.v (.int .i64 0),.v (.string ⟨#[]⟩),.v (.int .i64 0),.v (.int .i64 0),.v (.int .i64 0),.v (.int .i64 0),.v (.int .i64 0),.v (.string ⟨#[]⟩),.v (.string ⟨#[]⟩),.v (.string ⟨#[]⟩),.v (.string ⟨#[]⟩),.v (.int .i64 0),.v (.int .i64 0),.v (.bool false),.v (.int .i64 0),.v (.bool false)])] [.c (.agg [.sl false [[.v (.string a),.v (.string c),.sl false [[.v (.string a),.v (.int .i64 1),.v (.int .i64 1),.v (.int .i64 1),.v (.bool false)]],.sl false [],.sl false [],.sl false [],.v (.int .i64 0),.v (.int .i64 0),.v (.int .i64 0),.v (.int .i64 0),.v (.int .i64 1000),.sl false []],[.v (.string b),.v (.string c),.sl false [[.v (.string a),.v (.int .i64 1),.v (.int .i64 1),.v (.int .i64 1),.v (.bool false)],[.v (.string b),.v (.int .i64 1),.v (.int .i64 1),.v (.int .i64 2),.v (.bool true)]],.sl false [[.v (.string a),.v (.int .i64 1),.v (.int .i64 1),.v (.int .i64 1),.v (.bool false),.v (.int .i64 0)]],.sl false [],.sl false [],.v (.int .i64 0),.v (.int .i64 0),.v (.int .i64 0),.v (.int .i64 0),.v (.int .i64 1000),.sl false []]],.sl false []]),.c (.v (.int .i64 0))]:=by
 refine Nz 9 Sd rfl ?_;(refine goI ?_;repeat (intro gg;refine goI ?_));refine .inl ⟨_,_,false,[],Au.same (Sc (n:=⟨[(⟨a,c,[⟨a,1,1,1,false⟩],[],[],[],⟨0,0,0,0,1000⟩,[]⟩:Pl.Nd),(⟨b,c,[⟨b,1,1,2,true⟩],[],[],[],⟨0,0,0,0,1000⟩,[]⟩:Pl.Nd)],[⟨1,t⟩]⟩)) (.nil _),Are ok1 e1,Am,nI,?_⟩;(refine goI ?_;repeat (intro gg;refine goI ?_));refine⟨([]:List Nat),?_⟩;(refine goI ?_;repeat (intro gg;refine goI ?_));refine o4 (Aek 3000 9 O0 rfl ?_);(refine goI ?_;repeat (intro gg;refine goI ?_));refine⟨_,_,false,Au.same (Ic (l:=[(⟨a,c,[⟨a,1,1,1,false⟩],[],[],[],⟨0,0,0,0,1000⟩,[]⟩:Pl.Nd),(⟨b,c,[⟨b,1,1,2,true⟩],[],[],[],⟨0,0,0,0,1000⟩,[]⟩:Pl.Nd)])) (.nil _),kN,Am,nI,?_⟩;(refine goI ?_;repeat (intro gg;refine goI ?_));refine⟨_,_,false,aJ,kL1,Am,nI,?_⟩;(refine goI ?_;repeat (intro gg;refine goI ?_));refine⟨0,_,by kernel_rfl,rfl,?_⟩;(refine goI ?_;repeat (intro gg;refine goI ?_));refine⟨_,_,false,Au.same (Lr (Ug (n:=(⟨a,c,[⟨a,1,1,1,false⟩],[],[],[],⟨0,0,0,0,1000⟩,[]⟩:Pl.Nd)))) (.nil _),Aqu hA,Am,nI,?_⟩;(refine goI ?_;repeat (intro gg;refine goI ?_));refine⟨0,_,by kernel_rfl,rfl,?_⟩;(refine goI ?_;repeat (intro gg;refine goI ?_));refine⟨1,_,by kernel_rfl,rfl,?_⟩;(refine goI ?_;repeat (intro gg;refine goI ?_));refine⟨_,_,false,Au.same (Lr (Ug (n:=(⟨b,c,[⟨b,1,1,2,true⟩],[],[],[],⟨0,0,0,0,1000⟩,[]⟩:Pl.Nd)))) (.nil _),Apf hB,Am,nI,?_⟩;(refine goI ?_;repeat (intro gg;refine goI ?_));refine⟨1,_,by kernel_rfl,rfl,?_⟩;(refine goI ?_;repeat (intro gg;refine goI ?_));refine kEI ?_;(refine goI ?_;repeat (intro gg;refine goI ?_));refine o4 (Ap 13000 9 Mn rfl ?_);(refine goI ?_;repeat (intro gg;refine goI ?_));refine⟨0,_,by kernel_rfl,rfl,?_⟩;(refine goI ?_;repeat (intro gg;refine goI ?_));refine .inl ⟨_,_,false,[],aJ,rdT hk ht hz,Am,nI,?_⟩;(refine goI ?_;repeat (intro gg;refine goI ?_));refine⟨1,_,by kernel_rfl,rfl,?_⟩;(refine goI ?_;repeat (intro gg;refine goI ?_));refine⟨_,_,false,aJ,Ap2 ha hb hc,Am,nI,?_⟩;(refine goI ?_;repeat (intro gg;refine goI ?_));refine⟨1,_,by kernel_rfl,rfl,?_⟩;(refine goI ?_;repeat (intro gg;refine goI ?_));refine .inl ⟨_,_,true,[48160],aJ,Ar8,(fun _=>fJ),nI,?_⟩;(refine goI ?_;repeat (intro gg;refine goI ?_));exact Aeq (.cell1 rfl rfl rfl rfl rfl rfl (.tmp1 rfl .nil)) (Pf rfl rfl (Q7 (l:=[(⟨a,c,[⟨a,1,1,1,false⟩],[],[],[],⟨0,0,0,0,1000⟩,[]⟩:Pl.Nd),(⟨b,c,[⟨a,1,1,1,false⟩,⟨b,1,1,2,true⟩],[⟨⟨a,1,1,1,false⟩,0⟩],[],[],⟨0,0,0,0,1000⟩,[]⟩:Pl.Nd)])) (by decide) (Pf rfl rfl (Ci (enc:=Pl.Lt.row) (l:=[])) (by decide) .nil)) (Ez rfl)
theorem Ap8[Glob][Tabs]:Fun Tryz.prog 7 [] [.c (.v (.bool true))]:=by
 refine Eo 9 Lz rfl ?_;(refine goI ?_;repeat (intro gg;refine goI ?_));rw[ha];rw[hb];rw[hc];refine .inl ⟨_,_,false,[],aJ,Aro ha hc,Am,nI,?_⟩;(refine goI ?_;repeat (intro gg;refine goI ?_));refine .inl ⟨_,_,false,[],aJ,Arc hb hc,Am,nI,?_⟩;(refine goI ?_;repeat (intro gg;refine goI ?_));refine .inl ⟨_,_,false,[320],Adq rfl (Q7 (l:=[(⟨a,c,[⟨a,1,1,1,false⟩],[],[],[],⟨0,0,0,0,1000⟩,[]⟩:Pl.Nd),(⟨b,c,[⟨b,1,1,2,true⟩],[],[],[],⟨0,0,0,0,1000⟩,[]⟩:Pl.Nd)])) (by decide) (by decide) (.nil _),Arj ok0 e0,Am,nI,?_⟩;(refine goI ?_;repeat (intro gg;refine goI ?_));refine .inl ⟨_,_,false,[],Au.same (Sc (n:=⟨[(⟨a,c,[⟨a,1,1,1,false⟩],[],[],[],⟨0,0,0,0,1000⟩,[]⟩:Pl.Nd),(⟨b,c,[⟨b,1,1,2,true⟩],[],[],[],⟨0,0,0,0,1000⟩,[]⟩:Pl.Nd)],[]⟩)) (.same (Ez rfl) (.nil _)),Art ha hc hk ht hA hB ok0 e0,Am,nI,?_⟩;(refine goI ?_;repeat (intro gg;refine goI ?_));refine .inl ⟨_,_,false,[],Au.same (Sc (n:=⟨[(⟨a,c,[⟨a,1,1,1,false⟩],[],[],[],⟨0,0,0,0,1000⟩,[]⟩:Pl.Nd),(⟨b,c,[⟨b,1,1,2,true⟩],[],[],[],⟨0,0,0,0,1000⟩,[]⟩:Pl.Nd)],[⟨1,t⟩]⟩)) (.same (Ez rfl) (.nil _)),Arf ha hb hc hk ht hz hA hB ok1 e1,Am,nI,?_⟩;(refine goI ?_;repeat (intro gg;refine goI ?_));refine⟨1,_,by kernel_rfl,rfl,?_⟩;(refine goI ?_;repeat (intro gg;refine goI ?_));(exact⟨[],aJ⟩)
end
open Pl
namespace Pl
def ndA:Nd:=⟨⟨#[97]⟩,⟨#[99]⟩,[⟨⟨#[97]⟩,1,1,1,false⟩],[],[],[],⟨0,0,0,0,1000⟩,[]⟩
def ndB:Nd:=⟨⟨#[98]⟩,⟨#[99]⟩,[⟨⟨#[98]⟩,1,1,2,true⟩],[],[],[],⟨0,0,0,0,1000⟩,[]⟩
def pkA:Pk:=⟨⟨#[97]⟩,true,[⟨⟨#[97]⟩,1,1,1,false⟩],[],[],[]⟩
theorem Aef[Glob]:ndA.err=0:=by kernel_rfl
theorem Ads[Glob]:ndB.err=0:=by kernel_rfl
theorem Y1[Glob]:pkA.err=0:=by kernel_rfl
theorem Amm[Glob]:ndA.ok:=by
 constructor<;>simp[ndA,ByteArray.size];exact Nat.le_of_ble_eq_true rfl
theorem Ani[Glob]:ndB.ok:=by
 constructor<;>simp[ndB,ByteArray.size];exact Nat.le_of_ble_eq_true rfl
theorem Aju[Glob]{p:Pk}(h:Pk.Sm p):(bA (pkB p)).size≤100000:=by
 have h1:=Cu h.fr;have h2:=Gy p.wo;have m1:=h.msl;have m2:=h.svl;have m3:=h.gsl;have m4:=h.whl;have n1:=Bs (n:=(p.ms.length:Int)) ⟨by omega,by omega⟩;have n2:=Bs (n:=(p.sv.length:Int)) ⟨by omega,by omega⟩;have n3:=Bs (n:=(p.gs.length:Int)) ⟨by omega,by omega⟩;have n4:=Bs (n:=(p.wh.length:Int)) ⟨by omega,by omega⟩;have f1:=Eh (f:=mbB) (m:=140) (l:=p.ms) fun x hx=>Mb.lenB (h.ms x hx);have f2:=Eh (f:=svB) (m:=318) (l:=p.sv) fun x hx=>Sv.lenB (h.sv x hx);have f3:=Eh (f:=gwB) (m:=96) (l:=p.gs) fun x hx=>Gw.lenB (h.gs x hx);have f4:=Eh (f:=whB) (m:=300) (l:=p.wh) fun x hx=>XI (Wh.lenB (h.wh x hx)) (by decide);rw[Hj];unfold pkB Zd;simp only[ZF];omega
noncomputable def txA:ByteArray:=bA (pkB pkA)
theorem Adl[Glob]:txA.size≤1000000000000:=XI (Aju (Pk.sm Y1)) (by decide)
theorem Am3[Glob]:([ndA,ndB].map Nd.nm).Nodup:=by simp[ndA,ndB]
theorem Aea[Glob]:Ad Nd.err [ndA,ndB]=0:=by simp[Ad,Aef,Ads]
theorem Alk[Glob]:Nt.err ⟨[ndA,ndB],[]⟩=0:=by
 rw[Nt.err_ls (by simp) Aea Am3];rfl
theorem Aka[Glob]:Nt.err ⟨[ndA,ndB],[⟨1,txA⟩]⟩=0:=by
 rw[Nt.err_ls (by simp) Aea Am3];have e:Fe 2 ⟨1,txA⟩=0:=by
  rw[Wc (by decide)];show(J3 txA).2=0;rw[show J3 txA=(pkA,0)from rdPk_back Y1]
 show Ad (Fe 2) [⟨1,txA⟩]=0;simp[Ad,e]
theorem Ama[Glob]:∀x∈[ndA,ndB],x.ok:=by
 intro x hx;simp only[XC,XD,or_false]at hx;rcases hx with rfl|rfl
 ·exact Amm
 ·exact Ani
theorem Ao2[Glob]:Nt.ok ⟨[ndA,ndB],[]⟩:=⟨Nat.le_of_ble_eq_true rfl,Ama,ZU _,fun x hx=>nomatch hx⟩
theorem Ams[Glob]:Nt.ok ⟨[ndA,ndB],[⟨1,txA⟩]⟩:=⟨Nat.le_of_ble_eq_true rfl,Ama,Nat.le_of_ble_eq_true rfl,fun x hx=>by
 rw[XN.1 hx];exact Adl⟩
end Pl
theorem Aip[Glob][Tabs]:Fun Tryz.prog 7 [] [.c (.v (.bool true))]:=
 Ap8 (t:=txA) rfl rfl rfl Y1 rfl Adl Aef Ads Ao2 Ams Alk Aka
section
open Go.ChangeShapes Go.WideShapes Go.ChangeAt

end
theorem Abl: "*" ++ "errors.errorString" = "*errors.errorString" := rfl
theorem Adn (u : TypeId) (h : Tryz.prog.typeName? 3 u = some "*errors.errorString") : u = 294 :=
 typeName_ptr_named (P := Tryz.prog) (nm := "errors.errorString") (by rw [Abl]; kernel_rfl) (by kernel_rfl) (by decide) u (by rw [Abl]; exact h)
abbrev Aba(W:World):Glob:=⟨fun b=>if b=1∨b=2∨b=3 then W.heap[b]? else none⟩
theorem Aid(W:World): @B6 (Aba W) W (fun _=>False):=by
 intro b o h;have h:(if b=1∨b=2∨b=3 then W.heap[b]? else none)=some o:=h;refine⟨?_,id⟩;split at h
 ·exact h
 ·cases h
theorem Ack{W w:World}{L:Nat→Prop}(hg: @B6 (Aba W) w L){n:String}{g:Nat}{cs:Array Value}(hn:Tryz.prog.globalNamed n=some g)(hb:g=1∨g=2∨g=3)(h:W.var? Tryz.prog n=some cs):w.var? Tryz.prog n=some cs:=by
 unfold World.var? at h ⊢;rw[hn]at h ⊢;simp only[ZA]at h ⊢;cases ho:W.heap[g]? with
 |none=>rw[ho]at h;cases h
 |some o=>
  rw[ho]at h;rw[(hg g o (show(if g=1∨g=2∨g=3 then W.heap[g]? else none)=some o by rw[if_pos hb];exact ho)).1];exact h
theorem Amr {W : World} (h : laidMet Tryz.prog [("math/bits.deBruijn32tab", Rows.laid_math_bits_deBruijn32tab), ("math/bits.deBruijn64tab", Rows.laid_math_bits_deBruijn64tab), ("internal/strconv.uint64pow10", Rows.laid_internal_strconv_uint64pow10), ("strconv.ErrRange", Rows.laid_strconv_ErrRange), ("strconv.ErrSyntax", Rows.laid_strconv_ErrSyntax)] W) : @Tabs (Aba W) := by
 have h3:=h.tail.tail;have e:(Rows.laid_internal_strconv_uint64pow10:DataW Unit)=Lib.tabData .u64 Lib.pow10Tab:=by kernel_rfl
 have h4:=h3.tail;have h5:=h4.tail;rw[e]at h3;have hp:=Lib.tabIs_of_head (g:=3) (t:=297) (e:=246) (n:=20) (by kernel_rfl) (by kernel_rfl) (by kernel_rfl) (by kernel_rfl) (by kernel_rfl) (by kernel_rfl) h3;obtain⟨a0,s0,v0,_⟩:=laid_sentinel h4 (g:=2) (ti:=180) (by kernel_rfl) (by kernel_rfl) Tryz.underlying180 Adn Tryz.underlying294 Tryz.underlying296 rfl rfl Tryz.underlying9 (by kernel_rfl) (by kernel_rfl);obtain⟨a1,s1,v1,_⟩:=laid_sentinel h5 (g:=1) (ti:=180) (by kernel_rfl) (by kernel_rfl) Tryz.underlying180 Adn Tryz.underlying294 Tryz.underlying296 rfl rfl Tryz.underlying9 (by kernel_rfl) (by kernel_rfl);refine @Tabs.mk (Aba W) (fun w L hg=>Ack hg (g:=3) (by kernel_rfl) (.inr (.inr rfl)) hp) (fun w L hg=>?_) (fun w L hg=>?_)
 ·exact⟨_,World.var?_cell (g:=1) (by kernel_rfl) (Ack hg (g:=1) (by kernel_rfl) (.inl rfl) v1) 0,.inr ⟨_,_,rfl⟩⟩
 ·exact⟨_,World.var?_cell (g:=2) (by kernel_rfl) (Ack hg (g:=2) (by kernel_rfl) (.inr (.inl rfl)) v0) 0,.inr ⟨_,_,rfl⟩⟩
end Go.Proofs.YtchbkgnobpejnaaGreatDoor
