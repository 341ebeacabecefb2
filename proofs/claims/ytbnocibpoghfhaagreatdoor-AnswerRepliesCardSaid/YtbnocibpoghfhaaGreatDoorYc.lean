/- Texts of this claim, joined. -/
import Derived.Shelf.SlSortCmp.NoneTotal
import Derived.Shelf.SlGeneric
import Derived.Test.YtbnocibpoghfhaaGreatDoorProg
import Derived.WalkKit
import Derived.Test.YtbnocibpoghfhaaGreatDoorRows
import Derived.Lib.Strings
import Derived.Lib.Slices
import Derived.Lib.Walk
import Derived.Lib.Bytealg
import Derived.Shelf.Strings.OnBuilder
import Derived.Test.YtbnocibpoghfhaaGreatDoorYa
import Derived.Test.YtbnocibpoghfhaaGreatDoorYb
set_option linter.unusedSimpArgs false
set_option linter.unusedVariables false
namespace Go.Proofs.YtbnocibpoghfhaaGreatDoor
section
open Go.Shelf
def Tryz.sortS_ren:Go.Shelf.Ren:=⟨fun|6=>123|15=>136|14=>135|28=>154|29=>155|20=>146|21=>147|22=>148|23=>149|24=>150|25=>151|26=>152|27=>153|46=>160|47=>161|48=>162|49=>163|50=>164|57=>170|n=>n,fun|22=>67|24=>9|25=>135|3=>3|39=>69|0=>0|53=>184|55=>186|4=>4|46=>178|45=>177|50=>96|5=>5|9=>9|66=>191|70=>195|76=>197|77=>198|n=>n,fun|n=>n⟩
theorem Tryz.sortS:Go.Proofs.SlLaysF.n6 Tryz.prog Tryz.sortS_ren:={
 mixed:=by kernel_rfl
 f6:=⟨Tryz.f123.name,by decide,Tryz.func123.trans (congrArg some (by kernel_rfl))⟩
 f14:=⟨Tryz.f135.name,by decide,Tryz.func135.trans (congrArg some (by kernel_rfl))⟩
 f15:=Tryz.func136.trans (congrArg some (by kernel_rfl))
 f20:=⟨Tryz.f146.name,by decide,Tryz.func146.trans (congrArg some (by kernel_rfl))⟩
 f21:=⟨Tryz.f147.name,by decide,Tryz.func147.trans (congrArg some (by kernel_rfl))⟩
 f22:=⟨Tryz.f148.name,by decide,Tryz.func148.trans (congrArg some (by kernel_rfl))⟩
 f23:=⟨Tryz.f149.name,by decide,Tryz.func149.trans (congrArg some (by kernel_rfl))⟩
 f24:=⟨Tryz.f150.name,by decide,Tryz.func150.trans (congrArg some (by kernel_rfl))⟩
 f25:=⟨Tryz.f151.name,by decide,Tryz.func151.trans (congrArg some (by kernel_rfl))⟩
 f26:=⟨Tryz.f152.name,by decide,Tryz.func152.trans (congrArg some (by kernel_rfl))⟩
 f27:=⟨Tryz.f153.name,by decide,Tryz.func153.trans (congrArg some (by kernel_rfl))⟩
 f28:=Tryz.func154.trans (congrArg some (by kernel_rfl))
 f29:=Tryz.func155.trans (congrArg some (by kernel_rfl))
 f46:=⟨Tryz.f160.name,by decide,Tryz.func160.trans (congrArg some (by kernel_rfl))⟩
 f47:=Tryz.func161.trans (congrArg some (by kernel_rfl))
 f48:=Tryz.func162.trans (congrArg some (by kernel_rfl))
 f49:=⟨Tryz.f163.name,by decide,Tryz.func163.trans (congrArg some (by kernel_rfl))⟩
 f50:=⟨Tryz.f164.name,by decide,Tryz.func164.trans (congrArg some (by kernel_rfl))⟩
 f57:=⟨Tryz.f170.name,by decide,Tryz.func170.trans (congrArg some (by kernel_rfl))⟩
 t0:=Tryz.underlying0
 a0:=Tryz.isAgg0
 z0:=Tryz.sizeOf0
 v0:=Tryz.zeroValue0
 t3:=Tryz.underlying3
 a3:=Tryz.isAgg3
 z3:=Tryz.sizeOf3
 v3:=Tryz.zeroValue3
 t4:=Tryz.underlying4
 a4:=Tryz.isAgg4
 z4:=Tryz.sizeOf4
 v4:=Tryz.zeroValue4
 t5:=Tryz.underlying5
 a5:=Tryz.isAgg5
 z5:=Tryz.sizeOf5
 v5:=Tryz.zeroValue5
 t9:=Tryz.underlying9
 a9:=Tryz.isAgg9
 z9:=Tryz.sizeOf9
 v9:=Tryz.zeroValue9
 t22:=Tryz.underlying67
 a22:=Tryz.isAgg67
 z22:=Tryz.sizeOf67
 v22:=Tryz.zeroValue67
 a24:=Tryz.isAgg9
 z24:=Tryz.sizeOf9
 t25:=Tryz.underlying135
 a25:=Tryz.isAgg135
 z25:=Tryz.sizeOf135
 v25:=Tryz.zeroValue135
 t39:=Tryz.underlying69
 a39:=Tryz.isAgg69
 z39:=Tryz.sizeOf69
 v39:=Tryz.zeroValue69
 t45:=Tryz.underlying177
 a45:=Tryz.isAgg177
 z45:=Tryz.sizeOf177
 v45:=Tryz.zeroValue177
 t46:=Tryz.underlying178
 a46:=Tryz.isAgg178
 z46:=Tryz.sizeOf178
 v46:=Tryz.zeroValue178
 t50:=Tryz.underlying96
 a50:=Tryz.isAgg96
 z50:=Tryz.sizeOf96
 v50:=Tryz.zeroValue96
 t53:=Tryz.underlying184
 a53:=Tryz.isAgg184
 z53:=Tryz.sizeOf184
 v53:=Tryz.zeroValue184
 t55:=Tryz.underlying186
 a55:=Tryz.isAgg186
 z55:=Tryz.sizeOf186
 v55:=Tryz.zeroValue186
 t66:=Tryz.underlying191
 a66:=Tryz.isAgg191
 z66:=Tryz.sizeOf191
 v66:=Tryz.zeroValue191
 t70:=Tryz.underlying195
 a70:=Tryz.isAgg195
 z70:=Tryz.sizeOf195
 v70:=Tryz.zeroValue195
 t76:=Tryz.underlying197
 a76:=Tryz.isAgg197
 z76:=Tryz.sizeOf197
 v76:=Tryz.zeroValue197
 t77:=Tryz.underlying198
 a77:=Tryz.isAgg198
 z77:=Tryz.sizeOf198
 v77:=Tryz.zeroValue198}
end
section
open Go.RowKit Go.Sort Go.Shelf Pl
theorem Aj1(cl:Bool)(l:List ByteArray)(hl:l.length≤1000):Fun Tryz.prog 122 [.c (.sl cl (l.map Dg))] [.o 9 1 (l.map Dg)]:=by
 refine Ar I5 rfl ?_;(refine goI ?_;repeat (intro gg;refine goI ?_));rename_i b;have hb:=gg;cases b with
 |true=>
  have e:l.map Dg=[]:=hb rfl;refine G0 ?_;rw[e];(exact⟨[],aI⟩)
 |false=>
  refine G1 ?_;intro gg;refine⟨Ap7,?_⟩;refine G0 ?_;refine⟨lI,lI,?_⟩;refine G1 ?_;intro gg;(exact⟨[80],aI⟩)
theorem Ayo{K:ByteArray→Option Int}{a b:ByteArray}(h1:K a=none)(h2:K b=none):cfN K a b=B3 [E9 0 0,Ey a b]:=by simp[cfN,rkN,frN,h1,h2,H7,E9]
theorem Azo{K:ByteArray→Option Int}{a b:ByteArray}{x y:Int}(h1:K a=some x)(h2:K b=some y):cfN K a b=B3 [E9 x y,Ey a b]:=by simp[cfN,rkN,frN,h1,h2,H7,E9]
theorem Ayv{K:ByteArray→Option Int}{a b:ByteArray}{x:Int}(h1:K a=some x)(h2:K b=none):cfN K a b= -1:=by simp[cfN,rkN,frN,h1,h2,H7,E9]
theorem Aym{K:ByteArray→Option Int}{a b:ByteArray}{y:Int}(h1:K a=none)(h2:K b=some y):cfN K a b=1:=by simp[cfN,rkN,frN,h1,h2,H7,E9]
end
open Go Go.RowKit Pl
def Azx(a b:ByteArray)(x y:Int)(ok is:Bool):Int:=bif ok&& !is then -1 else bif is&& !ok then 1 else B3 [E9 x y,Ey a b]
theorem Ap4(w:World):∃q os,w=Go.Sort.grow (w.drewN q) os:=⟨0, #[],by simp[Go.Sort.grow,World.drewN]⟩
theorem Aki(w:World)(o:Obj):∃q os,w.alloc o=Go.Sort.grow (w.drewN q) os:=⟨0, #[o],by simp[Go.Sort.grow,World.drewN,World.alloc,-World.alloc_eq]⟩
set_option maxRecDepth 100000 in
theorem Ap2(a b:ByteArray)(bx o mb:Nat)(w:World)(ha:w.cell? ⟨bx,o,none⟩=some (.map (some mb)))(x y:Int)(ok is:Bool)(h1:(Instr.lookup 164 (.map (some mb)) (.string a) true).run Tryz.prog w=.ok (.tuple #[.int .i64 x,.bool ok]) w)(h2:(Instr.lookup 164 (.map (some mb)) (.string b) true).run Tryz.prog w=.ok (.tuple #[.int .i64 y,.bool is]) w):Calls Tryz.prog 124 #[.string a,.string b,.pointer (some ⟨bx,o,none⟩)] w fun e w'=>e=.returned (.int .i64 (Azx a b x y ok is))∧∃q os,w'=Go.Sort.grow (w.drewN q) os:=by
 have hnot:∀(x:Bool) (w:World),(Op.unary .not (.bool x)).run Tryz.prog w=.ok (.bool (!x)) w:=fun _ _=>rfl;cases ok<;>cases is
 all_goals
  go_enter Tryz.func124,Tryz.ntmps124
  go_wp2_with (first|(go_at_call 126;refine(Arr x y _).mono ?_;rintro e w' ⟨rfl,rfl⟩)|(go_at_call 94;refine(Ahs a b _).mono ?_;rintro e w' ⟨rfl,rfl⟩)|(go_at_call 125;refine(Axs _ [E9 x y,Ey a b] _ (Blk.new _ _ _) (by simp)).mono ?_;rintro e w' ⟨rfl,rfl⟩))
  refine bodyPost_ret (results_tmp rfl _ _ _) rfl ⟨rfl,?_⟩
  first|exact Aki _ _|exact Ap4 _
theorem Ait{w:World}{R:Nat→Prop}{E:List (Value×V)}{x:Value}{k:ByteArray}{r:Option (Nat×V)}(hx:RV w R noG (.rmap E) x)(hf:Gn .string (.string k) E 0=some r):
  ∃(mb:Nat) (val:Value) (b:Bool),x=.map (some mb)∧(Instr.lookup 164 x (.string k) true).run Tryz.prog w=.ok (.tuple #[val,.bool b]) w∧(r=none→val=.int .i64 0∧b=false)∧∀j u,r=some (j,u)→b=true∧RV w R noG u val:=by
 cases hx with
 |rmap ents mb clock es hR hb hl hk hv=>
  obtain⟨s,g1,g2,g3⟩:=Or es.toList E 0 (by simpa using hl) (fun j e p q1 q2=>hk j e p (by simpa using q1) q2) r hf;have hck:=fun em=>J0 (P:=Tryz.prog) (w:=w) (em:=em) (n:=9999) (v:=.string k) Tryz.underlying9 rfl;have hget:(Instr.lookup 164 (.map (some mb)) (.string k) true).run Tryz.prog w=(do
    let (v,b')←match s with
     |some (_,v)=>pure (v,true)
     |none=>pure (←zeroValue 3,false)
    pure (.tuple #[v,.bool b']):Sem Value).run Tryz.prog w:=by
   simp only[Instr.lookup,Sem.run_bind,run_underlying Tryz.underlying164,Result.andThen_ok,Sem.run_pure,Go.MapKept.run_getObj_map hb,hck,Jd Tryz.underlying9 g1];rfl
  have hi:(Tryz.prog.info? 3).map (fun i=>i.zero)=some (some (.int .i64 0)):=by kernel_rfl
  obtain⟨i,hi1,hi2⟩:=Option.map_eq_some_iff.1 hi;cases r with
  |none=>
   obtain rfl:=g2 rfl;refine⟨mb,.int .i64 0,false,rfl,?_,fun _=>⟨rfl,rfl⟩,fun j u h=>(by cases h)⟩;rw[hget];simp[zeroValue,typeInfo,hi1,hi2]
  |some q=>
   obtain⟨j,u⟩:=q;obtain⟨v,rfl,_,e,p,k1,k2,k3,k4⟩:=g3 j u rfl;refine⟨mb,v,true,rfl,?_,fun h=>(by cases h),fun j' u' h=>?_⟩
   ·rw[hget];simp
   ·cases h;refine⟨rfl,?_⟩;rw[k3,k4];exact hv (j-0) e p (by simpa using k1) k2
theorem Awo(f:Pc)(l:List Wh)(E:List (ByteArray×V))(hE:Gz f l E)(a b:ByteArray)(w:World)(R:Nat→Prop)(zs:List Value)(hlt:∀b,R b→b<w.heap.size)(hp:Kx w R [.c (.v (.string a)),.c (.v (.string b)),.c (.rptr [.rmap (ents E)] 0)] zs):Calls Tryz.prog 124 zs.toArray w fun e w'=>e=.returned (.int .i64 (cfN (Bx f l) a b))∧∃q os,w'=Go.Sort.grow (w.drewN q) os:=by
 have hl:=hp.len
 match zs,hl,hp with
 |[z0,z1,z2],_,hp=>
  have e0:z0=.string a:=Ce (hp.ok 0 _ _ rfl rfl);have e1:z1=.string b:=Ce (hp.ok 1 _ _ rfl rfl);subst e0 e1;have h2:RV w R noG (.rptr [.rmap (ents E)] 0) z2:=hp.ok 2 _ _ rfl rfl;cases h2 with
  |rptr row off bx o g hR hcell hh=>
   have hm:=hh 0 _ rfl;have hc:=hcell 0 _ rfl;have key:∀c:ByteArray,∃(mb:Nat) (val:Int) (bb:Bool),g 0=.map (some mb)∧(Instr.lookup 164 (g 0) (.string c) true).run Tryz.prog w=.ok (.tuple #[.int .i64 val,.bool bb]) w∧(Bx f l c=none→val=0∧bb=false)∧∀x,Bx f l c=some x→val=x∧bb=true:=by
    intro c;cases hk:Bx f l c with
    |none=>
     have q:=hE.at_none hk;obtain⟨mb,val,bb,k1,k2,k3,_⟩:=Ait (r:=none) hm ((D8 _ _ _).trans (by rw[q]));obtain⟨rfl,rfl⟩:=k3 rfl;exact⟨mb,0,false,k1,k2,fun _=>⟨rfl,rfl⟩,fun x h=>(by cases h)⟩
    |some x=>
     obtain⟨j,q⟩:=hE.at_some hk;obtain⟨mb,val,bb,k1,k2,_,k3⟩:=Ait (r:=some (j,iV x)) hm ((D8 _ _ _).trans (by rw[q]));obtain⟨rfl,hv⟩:=k3 j _ rfl;obtain rfl:=Ce hv;exact⟨mb,x,true,k1,k2,fun h=>(by cases h),fun y h=>by cases h;exact⟨rfl,rfl⟩⟩
   obtain⟨mb,x,ok,m1,l1,n1,s1⟩:=key a;obtain⟨mb2,y,is,m2,l2,n2,s2⟩:=key b;rw[m1]at l1 l2 hc;have h:=Ap2 a b bx o mb w hc x y ok is l1 l2;have er:Azx a b x y ok is=cfN (Bx f l) a b:=by
    cases h1:Bx f l a with
    |none=>
     obtain⟨rfl,rfl⟩:=n1 h1;cases h2:Bx f l b with
     |none=>obtain⟨rfl,rfl⟩:=n2 h2;rw[Ayo h1 h2];rfl
     |some v=>obtain⟨rfl,rfl⟩:=s2 v h2;rw[Aym h1 h2];rfl
    |some u=>
     obtain⟨rfl,rfl⟩:=s1 u h1;cases h2:Bx f l b with
     |none=>obtain⟨rfl,rfl⟩:=n2 h2;rw[Ayv h1 h2];rfl
     |some v=>obtain⟨rfl,rfl⟩:=s2 v h2;rw[Azo h1 h2];rfl
   rw[er]at h;exact h
theorem Anw(f:Pc)(l:List Wh)(E:List (ByteArray×V))(hE:Gz f l E)(names:List ByteArray)(hn:names.length≤1000):H3 Tryz.prog 123 [.ms 9 1 (names.map Dg) ((Ii (cfN (Bx f l)) names).map Dg),.p (.c (.clo 124 [.rptr [.rmap (ents E)] 0]))] []:=
 Ap0 (enc:=fun s:ByteArray=>Value.string s) Tryz.sortS (Fb Tryz.func123 (by kernel_rfl) (by kernel_rfl)) 9 (fun _=>rfl) (cfN (Bx f l)) (Aj6 (Z0 _)) (Arx (Z0 _) fun _ _=>Ahc) 124 [.rptr [.rmap (ents E)] 0]
  (Fb Tryz.func124 (by kernel_rfl) (by kernel_rfl)) names (by omega) (fun _ a b w R zs hlt hp=>Awo f l E hE a b w R zs hlt hp)
section
open Go.Sort Go.Shelf
noncomputable def Aih(f:Pc)(l:List Wh)(names:List ByteArray):List ByteArray:=if Hg f l names=0 then Ii (cfN (Bx f l)) names else []
theorem Un{f:Pc}{l:List Wh}{names:List ByteArray}(h:100<l.length∨100<names.length):Hg f l names=2:=by simp[Hg,h]
theorem Aey{f:Pc}{l:List Wh}{names:List ByteArray}(h:¬(100<l.length∨100<names.length))(h2:f.err≠0):Hg f l names=f.err:=by simp[Hg,h,h2]
theorem Us{f:Pc}{l:List Wh}{names:List ByteArray}(h:¬(100<l.length∨100<names.length))(h2:f.err=0):Hg f l names=Bm Wh.perr l:=by simp[Hg,h,h2]
theorem T5{f:Pc}{l:List Wh}{names:List ByteArray}(h:Hg f l names≠0):Aih f l names=[]:=by simp[Aih,h]
theorem Agh{f:Pc}{l:List Wh}{names:List ByteArray}(h:Hg f l names=0):Aih f l names=Ii (cfN (Bx f l)) names:=by simp[Aih,h]
theorem Ant(f:Pc)(l:List Wh)(names:List ByteArray)(hl:l.length≤9223372036854775807)(hn:names.length≤9223372036854775807):Fun Tryz.prog 97 [.c (.agg f.row),.c (.sl false (l.map Wh.row)),.c (.sl false (names.map Dg))]
  [.o 9 1 ((Aih f l names).map Dg),.c (.v (.int .i64 (Hg f l names)))]:=by
 refine Ar Ac8 rfl ?_;refine G1 ?_;intro gg;rw[ZE];(refine Aa (fun h1=>?_) (fun h1=>?_)<;>rw[h1])
 ·have h1':100<l.length:=(by have:=ZV h1;omega);have e:=Un (f:=f) (l:=l) (names:=names) (.inl h1');rw[e,T5 (by rw[e];decide)];refine G0 ?_;(exact⟨[],aI⟩)
 ·have h1':¬100<l.length:=(by have:=ZW h1;omega);refine G0 ?_;rw[ZE];(refine Aa (fun h2=>?_) (fun h2=>?_)<;>rw[h2])
  ·have h2':100<names.length:=(by have:=ZV h2;omega);have e:=Un (f:=f) (l:=l) (names:=names) (.inr h2');rw[e,T5 (by rw[e];decide)];refine G0 ?_;(exact⟨[],aI⟩)
  ·have h2':¬100<names.length:=(by have:=ZW h2;omega);have h12:¬(100<l.length∨100<names.length):=by omega
   refine G0 ?_;refine .inl (cX (On f) ?_);refine G1 ?_;intro gg;(refine Aa (fun h3=>?_) (fun h3=>?_)<;>rw[h3])
   ·have h3':f.err≠0:=by simpa using h3
    have e:=Aey (f:=f) (l:=l) (names:=names) h12 h3';rw[e,T5 (by rw[e];exact h3')];refine G0 ?_;(exact⟨[],aI⟩)
   ·have h3':f.err=0:=by simpa using h3
    have e:=Us (f:=f) (l:=l) (names:=names) h12 h3';(refine goI ?_;repeat (intro gg;refine goI ?_));rename_i gm
    rename Nat=>gb
    have hf:f.okb=true:=Pc.err_iff.1 h3';refine⟨[],rfl,?_⟩;refine G0 ?_;(refine⟨[],none,{q:Nat×List (ByteArray×V)//q.1≤l.length∧(∀j,(h:j<l.length)→j<q.1→Wh.perr l[j]=0)∧Gz f (l.take q.1) q.2},[1,2,3,9,30,31],fun⟨⟨k,E⟩,hk,h0,hE⟩=>[(32,.v (.int .i64 k))],[48,144],fun⟨⟨k,E⟩,hk,h0,hE⟩=>[(464,⟨gm,.q (Q4 (ents E)),0,[]⟩)],fun⟨⟨k,E⟩,hk,h0,hE⟩=>l.length-k,trivial,fun _=>⟨trivial,fun _=>⟨⟨(0,[]),ZU _,fun j _ h=>absurd h (Nat.not_lt_zero _),Gz.nil f⟩,tI,Af _ _,tI,Ae _ _⟩⟩,fun⟨⟨k,E⟩,hk,h0,hE⟩=>?_⟩);refine G0 ?_;(refine Aa (fun h4=>?_) (fun h4=>?_)<;>rw[h4])
    ·have hlt:k<l.length:=by have:=ZV h4;simpa using this
     refine G0 ?_;refine⟨k,_,rfl,Ad hlt,?_⟩;refine G1 ?_;intro gg;refine .inl (cX (On (l[k]).pl) ?_);refine G1 ?_;intro gg;(refine Aa (fun h5=>?_) (fun h5=>?_)<;>rw[h5])
     ·have h5':Wh.perr l[k]≠0:=by simpa[Wh.perr]using h5
      have e2:=e.trans (Ff hlt h0 h5');rw[e2,T5 (by rw[e2];exact h5')];refine G0 ?_;(exact⟨[],aI⟩)
     ·have h5':Wh.perr l[k]=0:=by simpa[Wh.perr]using h5
      have hp:(l[k]).pl.okb=true:=Pc.err_iff.1 h5';have et:l.take (k+1)=l.take k++[l[k]]:=by rw[XT,ZC hlt];rfl
      refine G0 ?_;cases hlk:Pl.look (l[k]).nd E 0 with
      |some r=>
       obtain⟨ri,rv⟩:=r;obtain⟨x,rfl⟩:=hE.val hlk;refine⟨some (ri,iV x),(D8 _ _ _).trans (by rw[hlk]),?_⟩;refine G0 ?_;have hE':Gz f (l.take (k+1)) E:=by rw[et];exact hE.old (by rw[hlk];simp)
       (exact⟨none,trivial,fun _=>⟨⟨(k+1,E),by dsimp only;omega,up1 (p:=fun j h=>Wh.perr l[j]=0) h0 (fun _=>h5'),hE'⟩,by show l.length-(k+1)<l.length-k;omega,tI,tI,tI,tI⟩⟩)
      |none=>
       refine⟨none,(D8 _ _ _).trans (by rw[hlk]),?_⟩;refine G0 ?_;(refine⟨_,_,false,aI,Al0 f (l[k]).pl hf hp,Ab,nI,?_⟩);refine G1 ?_;intro gg;refine⟨_,none,rfl,As rfl,(D8 _ _ _).trans (by rw[hlk]),?_⟩;refine G0 ?_;have e:=Za E (l[k]).nd (iV (f.far (l[k]).pl));rw[hlk]at e;have hE':Gz f (l.take (k+1)) (put E (l[k]).nd (iV (f.far (l[k]).pl))):=by rw[et];exact hE.new hlk
       (exact⟨none,trivial,fun gr=>⟨⟨(k+1,put E (l[k]).nd (iV (f.far (l[k]).pl))),by dsimp only;omega,up1 (p:=fun j h=>Wh.perr l[j]=0) h0 (fun _=>h5'),hE'⟩,by show l.length-(k+1)<l.length-k;omega,tI,tI,⟨congrArg (fun x=>some (Ent.mk gm (.q (Q4 x)) 0 [])) e,trivial⟩,tI⟩⟩)
    ·have hge:¬k<l.length:=by have:=ZW h4;simpa using this
     have hz:Hg f l names=0:=e.trans (Dm (fun i hi=>h0 i hi (by dsimp only;omega)));rw[List.take_of_length_le (by dsimp only;omega)]at hE;have hE:Gz f l E:=hE;rw[hz,Agh hz];refine G0 ?_;(refine .inl ⟨_,_,false,[],aI,Aj1 false names (by omega),Ab,nI,?_⟩);refine G1 ?_;intro gg;refine .inr (.inl ⟨_,_,true,[960],Ava rfl Dy (by decide) (by decide) (by rw[ZE,ZE];exact List.length_mergeSort _) (Amw (Axk rfl rfl (by decide) (by decide) Alq) (.nil _)),Anw f l E hE names (by omega),(fun _=>mfI),oI,(by exact(by decide:([960]:List Nat).Nodup)),?_⟩);refine G1 ?_;intro gg;(exact⟨[960],aI⟩)
end
theorem Ay4{w:World}{R R':Nat→Prop}{T:TypeId}{sz:Nat}{rows:List (List V)}{x:Value}(h:Sy w R (.o T sz rows) x)(hR:∀b,R b→R' b)(hb:∀b,x.ownBlock=some b→R' b):RV w R' noG (.sl false rows) x:=by
 obtain⟨hsz,xs,g5,g6⟩:=h;have g5':w.ownsRow 0 T (Ent.mk 0 (.t T) sz rows).sz (Loc.mk 0 sz x false none).val (Ent.mk 0 (.t T) sz rows).rows.length xs:=g5;rcases Ha g5' with⟨hv,h0⟩|⟨b,cap,hv,hbk⟩
 ·have hv:x=.slice none 0 0:=hv;rw[hv];have:rows=[]:=h0;subst this;exact .nil _ _ _ (by simp)
 ·have hv:x=.slice (some ⟨b,0,none⟩) rows.length cap:=hv;have hbk:x.ownBlock=some b:=hbk;rw[hv];have hcapn:rows.length≤cap:=by
   rcases g5.2 with⟨q,_⟩|⟨g',cap',cur,q,_,_,hnc,_⟩
   ·rw[hv]at q;cases q
   ·rw[hv]at q;injection q with _ _ q;omega
  refine .sl _ rows b 0 cap sz (fun i j=>(xs[i*sz+j]?).getD undef) (hb b hbk) hcapn (by simp) g6.1 ?_ ?_
  ·intro i j row u h1 h2;obtain⟨y,q1,_,q2⟩:=g6.2 i j row u h1 h2;show w.cell? ⟨b,0+i*sz+j,none⟩=some ((xs[i*sz+j]?).getD undef);rw[q1,Nat.zero_add];exact Gh g5' hbk q1
  ·intro i j row u h1 h2;obtain⟨y,q1,_,q2⟩:=g6.2 i j row u h1 h2;show RV w R' noG u ((xs[i*sz+j]?).getD undef);rw[q1];exact q2.mono (fun b hb=>⟨hR b hb,rfl⟩) (Gle.refl _)
def frz:Par→Par
 |.c u=>.c u
 |.o _ _ rows=>.c (.sl false rows)
theorem Fun.frz{P:Program}{f:FuncId}{ps rs:List Par}(h:Fun P f ps rs):Fun P f ps (rs.map frz):=by
 refine⟨h.1,fun w R xs hlt hp=>(h.2 w R xs hlt hp).mono ?_⟩
 rintro e w' ⟨ys,R',he,hfr,h1,h2,h3,h4⟩
 have no:∀(i:Nat) (T:TypeId) (sz:Nat) (rows:List (List V)),(rs.map Go.Proofs.YtbnocibpoghfhaaGreatDoor.frz)[i]?≠some (.o T sz rows):=fun i T sz rows q=>by
  rw[XJ]at q;cases hr:rs[i]? with
  |none=>rw[hr]at q;cases q
  |some r=>
   rw[hr]at q;cases r<;>cases q
 refine⟨ys,fun b=>R' b∨A2 rs ys b,he,hfr,fun b hb=>.inl (h1 b hb),?_,⟨by rw[ZE];exact h3.len,?_,?_,?_⟩,?_⟩
 ·rintro b (hb|hb)
  ·exact h2 b hb
  ·refine .inr ⟨?_,h4 b hb⟩;obtain⟨i,T,sz,rows,x,q1,q2,q3⟩:=hb;obtain⟨_,xs',g,_⟩:=h3.ok i _ x q1 q2;exact Mm g q3
 ·intro i p x hp1 hx;rw[XJ]at hp1;cases hr:rs[i]? with
  |none=>rw[hr]at hp1;cases hp1
  |some r=>
   rw[hr]at hp1;have ho:=h3.ok i r x hr hx;cases r with
   |c u=>
    injection hp1 with hp1;subst hp1;exact RV.mono ho (fun b hb=>⟨.inl hb,rfl⟩) (Gle.refl _)
   |o T sz rows=>
    injection hp1 with hp1;subst hp1;exact Ay4 ho (fun b hb=>.inl hb) (fun b hb=>.inr ⟨i,T,sz,rows,x,hr,hx,hb⟩)
 ·intro i j T sz rows T' sz' rows' x y b hij h1;exact absurd h1 (no i T sz rows)
 ·rintro b ⟨i,T,sz,rows,x,q1,_⟩
  exact absurd q1 (no i T sz rows)
 ·rintro b ⟨i,T,sz,rows,x,q1,_⟩
  exact absurd q1 (no i T sz rows)
section
open Go.Sort Go.Shelf
theorem Alx{f:Pc}{a:ByteArray}:∀{l:List Wh},(∀j,(h:j<l.length)→(l[j].nd.toList==a.toList)=false)→Bx f l a=none
 |[],_=>rfl
 |w::l,h=>by
  have h0:=h 0 (by simp);simp only[List.getElem_cons_zero]at h0;have hne:a≠w.nd:=fun e=>by rw[e]at h0;simp at h0
  show(if a=w.nd then some (f.far w.pl)else Bx f l a)=none;rw[if_neg hne];exact Alx fun j hj=>by have:=h (j+1) (by simpa using hj);simpa using this
theorem Am4{f:Pc}{a:ByteArray}:∀{l:List Wh} {k:Nat} (hk:k<l.length),(∀j,(h:j<l.length)→j<k→(l[j].nd.toList==a.toList)=false)→(l[k].nd.toList==a.toList)=true→Bx f l a=some (f.far l[k].pl)
 |[],k,hk,_,_=>by simp at hk
 |w::l,0,hk,h0,h1=>by
  have e:w.nd=a:=toList_inj (by simpa using h1);show(if a=w.nd then some (f.far w.pl)else Bx f l a)=_;rw[if_pos e.symm];rfl
 |w::l,k+1,hk,h0,h1=>by
  have h:=h0 0 (by simp) (by omega);simp only[List.getElem_cons_zero]at h;have hne:a≠w.nd:=fun e=>by rw[e]at h;simp at h
  show(if a=w.nd then some (f.far w.pl)else Bx f l a)=_;rw[if_neg hne];have:=Am4 (f:=f) (l:=l) (k:=k) (by simpa using hk) (fun j hj hjk=>by have:=h0 (j+1) (by simpa using hj) (by omega);simpa using this) (by simpa using h1);simpa using this
theorem Xy(f:Pc)(l:List Wh)(a:ByteArray)(hl:l.length≤9223372036854775807)(hf:f.okb=true)(hw:∀w∈l,w.pl.okb=true):Fun Tryz.prog 60 [.c (.agg f.row),.c (.sl false (l.map Wh.row)),.c (.v (.string a))] [.c (.v (.int .i64 (Su (Bx f l) a)))]:=by
 refine Ar Po rfl ?_;refine G1 ?_;intro gg;(refine⟨[],none,{k:Nat//k≤l.length∧∀j,(h:j<l.length)→j<k→(l[j].nd.toList==a.toList)=false},[1,2,3],fun⟨k,hk,h0⟩=>[(7,.v (.int .i64 k))],[48],fun⟨k,hk,h0⟩=>[],fun⟨k,hk,h0⟩=>l.length-k,trivial,fun _=>⟨trivial,fun _=>⟨⟨0,by omega,fun j _ h=>by omega⟩,tI,Af _ _,tI,Ae _ _⟩⟩,fun⟨k,hk,h0⟩=>?_⟩);refine G0 ?_;rw[ZE];(refine Aa (fun h=>?_) (fun h=>?_)<;>rw[h])
 ·have hlt:k<l.length:=(by have:=ZV h;omega);refine G0 ?_;refine⟨k,_,rfl,Ad hlt,?_⟩;refine G0 ?_;(refine Aa (fun h2=>?_) (fun h2=>?_)<;>rw[h2])
  ·have e:Su (Bx f l) a=f.far l[k].pl:=by unfold Su;rw[Am4 hlt h0 h2];rfl
   rw[e];refine G0 ?_;refine⟨k,_,rfl,Ad hlt,?_⟩;refine G0 ?_;refine .inl (cX (Apk f (l[k]).pl hf (hw _ (ZK hlt))) ?_);refine G1 ?_;intro gg;(exact⟨[],aI⟩)
  ·refine G0 ?_;(exact⟨none,trivial,fun _=>⟨⟨k+1,by omega,up1 (p:=fun j h=>(l[j].nd.toList==a.toList)=false) h0 (fun _=>h2)⟩,by show l.length-(k+1)<l.length-k;omega,tI,tI,tI,tI⟩⟩)
 ·have hge:¬k<l.length:=(by have:=ZW h;omega);have e:Su (Bx f l) a= -1:=by unfold Su;rw[Alx fun j hj=>h0 j hj (by omega)];rfl
  rw[e];refine G0 ?_;(exact⟨[],aI⟩)
theorem Oc{c:ByteArray→ByteArray→Int}{L:List ByteArray}{x:ByteArray}{n:Nat}(e:Jy c L x=L.take n++(x::L.drop n))(hn:n≤L.length):
  (L.map Dg).take n++([Dg x]++((L.map Dg).drop n).take ((L.map Dg).length-n))=(Jy c L x).map Dg:=by
 rw[e,ZI,List.map_cons,List.map_take,List.map_drop,List.take_of_length_le (l:=(L.map Dg).drop n) (by simp)];rfl
theorem Afu(f:Pc)(l:List Wh)(names:List ByteArray)(hl:l.length≤100)(hn:names.length≤100)(hf:f.okb=true)(hw:∀w∈l,w.pl.okb=true):Fun Tryz.prog 29 [.c (.agg f.row),.c (.sl false (l.map Wh.row)),.c (.sl false (names.map Dg))]
  [.o 9 1 ((Q8 f l names).map Dg)]:=by
 have hpos:∀a x,Bx f l a=some x→0≤x:=fun a x h=>Aha hf hw h;refine Ar Rd rfl ?_;refine G1 ?_;intro gg;(refine⟨[(7,112,9,1)],none,{p:Nat×Nat×List ByteArray//p.1≤names.length∧p.2.2=Q8 f l (names.take p.1)},[1,2,3],fun⟨⟨k,g,L⟩,hk,hL⟩=>[(7,.own 112 g),(8,.v (.int .i64 k))],[48],fun⟨⟨k,g,L⟩,hk,hL⟩=>[(112,⟨g,9,1,L.map Dg⟩)],fun⟨⟨k,g,L⟩,hk,hL⟩=>names.length-k,(by exact⟨rfl,by decide,(fun _ _ _ _ h=>by cases h),trivial⟩),fun gs=>⟨trivial,fun _=>⟨⟨(0,gs 112,[]),by omega,by simp[Q8]⟩,tI,tI,tI,tI⟩⟩,fun⟨⟨k,g,L⟩,hk,hL⟩=>?_⟩);have hk:k≤names.length:=hk;have hL:L=Q8 f l (names.take k):=hL;refine G0 ?_;rw[ZE];(refine Aa (fun h=>?_) (fun h=>?_)<;>rw[h])
 ·have hlt:k<names.length:=(by have:=ZV h;omega);have hs:=Ak5 (f:=f) (l:=l) hlt;have hLl:L.length≤100:=by rw[hL,Apg,ZM];omega
  rw[←hL]at hs;obtain⟨s,hsd⟩:∃s,names[k]=s:=⟨_,rfl⟩;have hrow:(names.map Dg)[k]? =some (Dg s):=by rw[Ad hlt,hsd]
  rw[hsd]at hs;refine G0 ?_;refine⟨k,_,rfl,hrow,?_⟩;refine G0 ?_;(refine .inl ⟨_,_,false,[],aI,Xy f l s (by omega) hf hw,Ab,nI,?_⟩);refine G1 ?_;intro gg;(refine⟨[],none,{j:Nat//j≤L.length∧∀i,(h:i<L.length)→i<j→leB (cfN (Bx f l)) L[i] s=true},[1,2,3,7,8,9],fun⟨j,hj,h0⟩=>[(10,.v (.int .i64 j))],[48,112],fun⟨j,hj,h0⟩=>[],fun⟨j,hj,h0⟩=>L.length-j,trivial,fun _=>⟨trivial,fun _=>⟨⟨0,by omega,fun j _ h=>by omega⟩,tI,Af _ _,tI,Ae _ _⟩⟩,fun⟨j,hj,h0⟩=>?_⟩);refine G0 ?_;rw[ZE];(refine Aa (fun h2=>?_) (fun h2=>?_)<;>rw[h2])
  ·have hjl:j<L.length:=(by have:=ZV h2;omega);have hA:=Ao4 hpos L[j] s;have hrj:(L.map Dg)[j]? =some (Dg L[j]):=Ad hjl;refine G0 ?_;refine⟨j,_,rfl,hrj,?_⟩;refine G0 ?_;(refine .inl ⟨_,_,false,[],aI,Xy f l L[j] (by omega) hf hw,Ab,nI,?_⟩);generalize Su (Bx f l) s=x at *;generalize Su (Bx f l) L[j]=y at *;refine G1 ?_;intro gg;(refine Aa (fun a1=>?_) (fun a1=>?_)<;>rw[a1])
   ·have a1':x<0:=ZV a1;refine G0 ?_;(refine Aa (fun a2=>?_) (fun a2=>?_)<;>rw[a2])
    ·have a2':0≤y:=ZV a2;refine G0 ?_;have ht:leB (cfN (Bx f l)) L[j] s=true:=hA.2 (.inl ⟨a1',a2'⟩);(exact⟨none,trivial,fun _=>⟨⟨j+1,by omega,up1 (p:=fun i h=>leB (cfN (Bx f l)) L[i] s=true) h0 (fun _=>ht)⟩,by show L.length-(j+1)<L.length-j;omega,tI,tI,tI,tI⟩⟩)
    ·have a2':¬0≤y:=ZW a2;have a3:decide (y<0)=true:=ZX (by omega);refine G0 ?_;rw[a1,a3];refine G0 ?_;(refine Aa (fun b1=>?_) (fun b1=>?_)<;>rw[b1])
     ·refine G0 ?_;have ht:leB (cfN (Bx f l)) L[j] s=true:=hA.2 (.inr ⟨by omega,.inl (ZV b1)⟩);(exact⟨none,trivial,fun _=>⟨⟨j+1,by omega,up1 (p:=fun i h=>leB (cfN (Bx f l)) L[i] s=true) h0 (fun _=>ht)⟩,by show L.length-(j+1)<L.length-j;omega,tI,tI,tI,tI⟩⟩)
     ·refine G0 ?_;(refine Aa (fun b2=>?_) (fun b2=>?_)<;>rw[b2])
      ·have b2':y=x:=by simpa using b2
       refine G0 ?_;refine⟨j,_,rfl,hrj,?_⟩;refine G0 ?_;refine⟨k,_,rfl,hrow,?_⟩;refine G0 ?_;rw[Afe];(refine Aa (fun b3=>?_) (fun b3=>?_)<;>rw[b3])
       ·have b3':slt s L[j]=true:=by simpa using b3
        have hfl:leB (cfN (Bx f l)) L[j] s=false:=by
         rw[←Bool.not_eq_true,hA]
         rintro (q|⟨_,q|⟨_,q⟩⟩)
         ·omega
         ·have:=ZW b1;omega
         ·rw[q]at b3';cases b3'
        have eI:=Re (c:=cfN (Bx f l)) (l:=L) (x:=s) hj h0 (.inr ⟨hjl,hfl⟩);have eR:=Oc eI hj;refine G0 ?_;refine⟨0,j,rfl,rfl,⟨.i64,rfl⟩,ZU _,by rw[ZE];exact hj,rfl,rfl,⟨.i64,rfl⟩,?_⟩;refine G0 ?_;refine⟨k,_,rfl,hrow,?_⟩;refine G1 ?_;intro gg;refine⟨j,(L.map Dg).length,rfl,⟨.i64,rfl⟩,rfl,by rw[ZE];exact hj,ZT _,rfl,?_⟩;refine G0 ?_;refine⟨by rw[ZE];exact hj,ZT _,?_⟩;refine G0 ?_;have hdl:(((L.map Dg).drop j).take (L.length-j)).length≤100:=by simp;omega
        refine⟨lI,lI,?_⟩;refine G1 ?_;intro gg;refine⟨⟨trivial,trivial,trivial,rfl,trivial,trivial,trivial,trivial,trivial,trivial,trivial,trivial,trivial⟩,?_⟩;refine G0 ?_;refine⟨List.cons_ne_nil _ _,rfl,by rw[ZE];exact hj,?_⟩;refine⟨lI,lI,?_⟩;refine G1 ?_;intro gg;exact⟨some (7,1408,112),by(first|exact trivial|exact⟨_,rfl,rfl,trivial⟩),fun gr=>⟨⟨(k+1,gr,Jy (cfN (Bx f l)) L s),by dsimp only;omega,hs.symm⟩,by show names.length-(k+1)<names.length-k;omega,tI,tI,⟨congrArg (fun r=>some (Ent.mk gr (.t 9) 1 r)) eR,trivial⟩,tI⟩⟩
       ·have b3':slt s L[j]=false:=by simpa using b3
        refine G0 ?_;have ht:leB (cfN (Bx f l)) L[j] s=true:=hA.2 (.inr ⟨by omega,.inr ⟨b2',b3'⟩⟩);(exact⟨none,trivial,fun _=>⟨⟨j+1,by omega,up1 (p:=fun i h=>leB (cfN (Bx f l)) L[i] s=true) h0 (fun _=>ht)⟩,by show L.length-(j+1)<L.length-j;omega,tI,tI,tI,tI⟩⟩)
      ·have b2':y≠x:=by simpa using b2
       have hfl:leB (cfN (Bx f l)) L[j] s=false:=by
        rw[←Bool.not_eq_true,hA]
        rintro (q|⟨_,q|⟨q,_⟩⟩)
        ·omega
        ·have:=ZW b1;omega
        ·exact b2' q
       have eI:=Re (c:=cfN (Bx f l)) (l:=L) (x:=s) hj h0 (.inr ⟨hjl,hfl⟩);have eR:=Oc eI hj;refine G0 ?_;refine⟨0,j,rfl,rfl,⟨.i64,rfl⟩,ZU _,by rw[ZE];exact hj,rfl,rfl,⟨.i64,rfl⟩,?_⟩;refine G0 ?_;refine⟨k,_,rfl,hrow,?_⟩;refine G1 ?_;intro gg;refine⟨j,(L.map Dg).length,rfl,⟨.i64,rfl⟩,rfl,by rw[ZE];exact hj,ZT _,rfl,?_⟩;refine G0 ?_;refine⟨by rw[ZE];exact hj,ZT _,?_⟩;refine G0 ?_;have hdl:(((L.map Dg).drop j).take (L.length-j)).length≤100:=by simp;omega
       refine⟨lI,lI,?_⟩;refine G1 ?_;intro gg;refine⟨⟨trivial,trivial,trivial,rfl,trivial,trivial,trivial,trivial,trivial,trivial,trivial,trivial,trivial⟩,?_⟩;refine G0 ?_;refine⟨List.cons_ne_nil _ _,rfl,by rw[ZE];exact hj,?_⟩;refine⟨lI,lI,?_⟩;refine G1 ?_;intro gg;exact⟨some (7,1408,112),by(first|exact trivial|exact⟨_,rfl,rfl,trivial⟩),fun gr=>⟨⟨(k+1,gr,Jy (cfN (Bx f l)) L s),by dsimp only;omega,hs.symm⟩,by show names.length-(k+1)<names.length-k;omega,tI,tI,⟨congrArg (fun r=>some (Ent.mk gr (.t 9) 1 r)) eR,trivial⟩,tI⟩⟩
   ·have a1':¬x<0:=ZW a1;refine G0 ?_;rw[a1];cases a3:decide (y<0)with
    |true=>
     have a3':y<0:=ZV a3;refine G0 ?_;have hfl:leB (cfN (Bx f l)) L[j] s=false:=by
      rw[←Bool.not_eq_true,hA]
      rintro (q|⟨q,_⟩)<;>omega
     have eI:=Re (c:=cfN (Bx f l)) (l:=L) (x:=s) hj h0 (.inr ⟨hjl,hfl⟩);have eR:=Oc eI hj;refine G0 ?_;refine⟨0,j,rfl,rfl,⟨.i64,rfl⟩,ZU _,by rw[ZE];exact hj,rfl,rfl,⟨.i64,rfl⟩,?_⟩;refine G0 ?_;refine⟨k,_,rfl,hrow,?_⟩;refine G1 ?_;intro gg;refine⟨j,(L.map Dg).length,rfl,⟨.i64,rfl⟩,rfl,by rw[ZE];exact hj,ZT _,rfl,?_⟩;refine G0 ?_;refine⟨by rw[ZE];exact hj,ZT _,?_⟩;refine G0 ?_;have hdl:(((L.map Dg).drop j).take (L.length-j)).length≤100:=by simp;omega
     refine⟨lI,lI,?_⟩;refine G1 ?_;intro gg;refine⟨⟨trivial,trivial,trivial,rfl,trivial,trivial,trivial,trivial,trivial,trivial,trivial,trivial,trivial⟩,?_⟩;refine G0 ?_;refine⟨List.cons_ne_nil _ _,rfl,by rw[ZE];exact hj,?_⟩;refine⟨lI,lI,?_⟩;refine G1 ?_;intro gg;exact⟨some (7,1408,112),by(first|exact trivial|exact⟨_,rfl,rfl,trivial⟩),fun gr=>⟨⟨(k+1,gr,Jy (cfN (Bx f l)) L s),by dsimp only;omega,hs.symm⟩,by show names.length-(k+1)<names.length-k;omega,tI,tI,⟨congrArg (fun r=>some (Ent.mk gr (.t 9) 1 r)) eR,trivial⟩,tI⟩⟩
    |false=>
     have a3':¬y<0:=ZW a3;refine G0 ?_;(refine Aa (fun b1=>?_) (fun b1=>?_)<;>rw[b1])
     ·refine G0 ?_;have ht:leB (cfN (Bx f l)) L[j] s=true:=hA.2 (.inr ⟨by omega,.inl (ZV b1)⟩);(exact⟨none,trivial,fun _=>⟨⟨j+1,by omega,up1 (p:=fun i h=>leB (cfN (Bx f l)) L[i] s=true) h0 (fun _=>ht)⟩,by show L.length-(j+1)<L.length-j;omega,tI,tI,tI,tI⟩⟩)
     ·refine G0 ?_;(refine Aa (fun b2=>?_) (fun b2=>?_)<;>rw[b2])
      ·have b2':y=x:=by simpa using b2
       refine G0 ?_;refine⟨j,_,rfl,hrj,?_⟩;refine G0 ?_;refine⟨k,_,rfl,hrow,?_⟩;refine G0 ?_;rw[Afe];(refine Aa (fun b3=>?_) (fun b3=>?_)<;>rw[b3])
       ·have b3':slt s L[j]=true:=by simpa using b3
        have hfl:leB (cfN (Bx f l)) L[j] s=false:=by
         rw[←Bool.not_eq_true,hA]
         rintro (q|⟨_,q|⟨_,q⟩⟩)
         ·omega
         ·have:=ZW b1;omega
         ·rw[q]at b3';cases b3'
        have eI:=Re (c:=cfN (Bx f l)) (l:=L) (x:=s) hj h0 (.inr ⟨hjl,hfl⟩);have eR:=Oc eI hj;refine G0 ?_;refine⟨0,j,rfl,rfl,⟨.i64,rfl⟩,ZU _,by rw[ZE];exact hj,rfl,rfl,⟨.i64,rfl⟩,?_⟩;refine G0 ?_;refine⟨k,_,rfl,hrow,?_⟩;refine G1 ?_;intro gg;refine⟨j,(L.map Dg).length,rfl,⟨.i64,rfl⟩,rfl,by rw[ZE];exact hj,ZT _,rfl,?_⟩;refine G0 ?_;refine⟨by rw[ZE];exact hj,ZT _,?_⟩;refine G0 ?_;have hdl:(((L.map Dg).drop j).take (L.length-j)).length≤100:=by simp;omega
        refine⟨lI,lI,?_⟩;refine G1 ?_;intro gg;refine⟨⟨trivial,trivial,trivial,rfl,trivial,trivial,trivial,trivial,trivial,trivial,trivial,trivial,trivial⟩,?_⟩;refine G0 ?_;refine⟨List.cons_ne_nil _ _,rfl,by rw[ZE];exact hj,?_⟩;refine⟨lI,lI,?_⟩;refine G1 ?_;intro gg;exact⟨some (7,1408,112),by(first|exact trivial|exact⟨_,rfl,rfl,trivial⟩),fun gr=>⟨⟨(k+1,gr,Jy (cfN (Bx f l)) L s),by dsimp only;omega,hs.symm⟩,by show names.length-(k+1)<names.length-k;omega,tI,tI,⟨congrArg (fun r=>some (Ent.mk gr (.t 9) 1 r)) eR,trivial⟩,tI⟩⟩
       ·have b3':slt s L[j]=false:=by simpa using b3
        refine G0 ?_;have ht:leB (cfN (Bx f l)) L[j] s=true:=hA.2 (.inr ⟨by omega,.inr ⟨b2',b3'⟩⟩);(exact⟨none,trivial,fun _=>⟨⟨j+1,by omega,up1 (p:=fun i h=>leB (cfN (Bx f l)) L[i] s=true) h0 (fun _=>ht)⟩,by show L.length-(j+1)<L.length-j;omega,tI,tI,tI,tI⟩⟩)
      ·have b2':y≠x:=by simpa using b2
       have hfl:leB (cfN (Bx f l)) L[j] s=false:=by
        rw[←Bool.not_eq_true,hA]
        rintro (q|⟨_,q|⟨q,_⟩⟩)
        ·omega
        ·have:=ZW b1;omega
        ·exact b2' q
       have eI:=Re (c:=cfN (Bx f l)) (l:=L) (x:=s) hj h0 (.inr ⟨hjl,hfl⟩);have eR:=Oc eI hj;refine G0 ?_;refine⟨0,j,rfl,rfl,⟨.i64,rfl⟩,ZU _,by rw[ZE];exact hj,rfl,rfl,⟨.i64,rfl⟩,?_⟩;refine G0 ?_;refine⟨k,_,rfl,hrow,?_⟩;refine G1 ?_;intro gg;refine⟨j,(L.map Dg).length,rfl,⟨.i64,rfl⟩,rfl,by rw[ZE];exact hj,ZT _,rfl,?_⟩;refine G0 ?_;refine⟨by rw[ZE];exact hj,ZT _,?_⟩;refine G0 ?_;have hdl:(((L.map Dg).drop j).take (L.length-j)).length≤100:=by simp;omega
       refine⟨lI,lI,?_⟩;refine G1 ?_;intro gg;refine⟨⟨trivial,trivial,trivial,rfl,trivial,trivial,trivial,trivial,trivial,trivial,trivial,trivial,trivial⟩,?_⟩;refine G0 ?_;refine⟨List.cons_ne_nil _ _,rfl,by rw[ZE];exact hj,?_⟩;refine⟨lI,lI,?_⟩;refine G1 ?_;intro gg;exact⟨some (7,1408,112),by(first|exact trivial|exact⟨_,rfl,rfl,trivial⟩),fun gr=>⟨⟨(k+1,gr,Jy (cfN (Bx f l)) L s),by dsimp only;omega,hs.symm⟩,by show names.length-(k+1)<names.length-k;omega,tI,tI,⟨congrArg (fun r=>some (Ent.mk gr (.t 9) 1 r)) eR,trivial⟩,tI⟩⟩
  ·have hge:¬j<L.length:=(by have:=ZW h2;omega);have eI:=Re (c:=cfN (Bx f l)) (l:=L) (x:=s) hj h0 (.inl (by omega));have eR:=Oc eI hj;refine G0 ?_;refine⟨0,j,rfl,rfl,⟨.i64,rfl⟩,ZU _,by rw[ZE];exact hj,rfl,rfl,⟨.i64,rfl⟩,?_⟩;refine G0 ?_;refine⟨k,_,rfl,hrow,?_⟩;refine G1 ?_;intro gg;refine⟨j,(L.map Dg).length,rfl,⟨.i64,rfl⟩,rfl,by rw[ZE];exact hj,ZT _,rfl,?_⟩;refine G0 ?_;refine⟨by rw[ZE];exact hj,ZT _,?_⟩;refine G0 ?_;have hdl:(((L.map Dg).drop j).take (L.length-j)).length≤100:=by simp;omega
   refine⟨lI,lI,?_⟩;refine G1 ?_;intro gg;refine⟨⟨trivial,trivial,trivial,rfl,trivial,trivial,trivial,trivial,trivial,trivial,trivial,trivial,trivial⟩,?_⟩;refine G0 ?_;refine⟨List.cons_ne_nil _ _,rfl,by rw[ZE];exact hj,?_⟩;refine⟨lI,lI,?_⟩;refine G1 ?_;intro gg;exact⟨some (7,1408,112),by(first|exact trivial|exact⟨_,rfl,rfl,trivial⟩),fun gr=>⟨⟨(k+1,gr,Jy (cfN (Bx f l)) L s),by dsimp only;omega,hs.symm⟩,by show names.length-(k+1)<names.length-k;omega,tI,tI,⟨congrArg (fun r=>some (Ent.mk gr (.t 9) 1 r)) eR,trivial⟩,tI⟩⟩
 ·have hge:¬k<names.length:=(by have:=ZW h;omega);obtain rfl:k=names.length:=by omega
  have hL2:Q8 f l names=L:=by rw[hL,XF]
  rw[hL2];refine G0 ?_;(exact⟨[112],aI⟩)
end
set_option maxHeartbeats 1000000 in
set_option maxRecDepth 100000 in
theorem Aou(s:ByteArray)(c:UInt8)(w:World):
  Calls Tryz.prog 140 #[.string s,.string ⟨#[c]⟩] w fun e w'=>e=.returned (.int .i64 (Lib.countByte s.data.toList c))∧w'=w:=by
 go_enter Tryz.func140,Tryz.ntmps140
 go_wp2
 rw[run_callFunc_extern Tryz.func158 (by kernel_rfl) (by kernel_rfl) (by kernel_rfl) (e:=Extern.BytealgCount.count) (by kernel_rfl),Lib.run_countString];simp only[Result.andThen];rw[Oper.upon_value]
 go_wp2
 go_ret
 exact⟨rfl,rfl⟩
set_option maxHeartbeats 1000000 in
set_option maxRecDepth 100000 in
theorem Acc(s:ByteArray)(c:Int)(w:World):
  Calls Tryz.prog 166 #[.string s,.int .u8 c] w fun e w'=>e=.returned (.int .i64 (Lib.indexByte s.data.toList c.toNat.toUInt8))∧w'=w:=by
 go_enter Tryz.func166,Tryz.ntmps166
 go_wp2
 rw[run_callFunc_extern Tryz.func171 (by kernel_rfl) (by kernel_rfl) (by kernel_rfl) (e:=Extern.BytealgIndexByte.indexByte) (by kernel_rfl),Lib.run_indexByteString];simp only[Result.andThen];rw[Oper.upon_value]
 go_wp2
 go_ret
 exact⟨rfl,rfl⟩
set_option maxHeartbeats 2000000 in
set_option maxRecDepth 100000 in
theorem Ac2(s:ByteArray)(c:UInt8)(w:World):
  Calls Tryz.prog 159 #[.string s,.string ⟨#[c]⟩] w fun e w'=>e=.returned (.int .i64 (Lib.indexByte s.data.toList c))∧w'=w:=by
 go_enter Tryz.func159,Tryz.ntmps159
 go_wp2_with (go_at_call 166;refine(Acc _ _ _).mono ?_;rintro e w' ⟨rfl,rfl⟩)
 ·have h:([c]==s.toList)=true:=by assumption
  go_ret
  refine⟨?_,rfl⟩;have e:s.data.toList=[c]:=by rw[←Lib.toList_data];exact(ZR.1 h).symm
  rw[e];simp[Lib.indexByte]
 ·go_ret
  exact⟨rfl,rfl⟩
set_option maxHeartbeats 1000000 in
theorem Aor(s:ByteArray)(c:UInt8)(w:World):
  Calls Tryz.prog 141 #[.string s,.string ⟨#[c]⟩] w fun e w'=>e=.returned (.int .i64 (Lib.indexByte s.data.toList c))∧w'=w:=by
 go_enter Tryz.func141,Tryz.ntmps141
 go_wp2_with (go_at_call 159;refine(Ac2 _ _ _).mono ?_;rintro e w' ⟨rfl,rfl⟩)
 go_ret
 exact⟨rfl,rfl⟩
namespace Pl
def ixb(r:ByteArray)(c:UInt8):Int:=Lib.indexByte r.data.toList c
def cnb(r:ByteArray)(c:UInt8):Nat:=Lib.countByte r.data.toList c
theorem Aw2{l:List UInt8}{c:UInt8}:Lib.indexByte l c= -1↔l.count c=0:=by
 induction l with
 |nil=>simp[Lib.indexByte]
 |cons b l ih=>
  unfold Lib.indexByte;have hg:=Lib.indexByte_ge l c;by_cases hb:(b==c)=true
  ·rw[if_pos hb];have:b=c:=by simpa using hb
   subst this;simp
  ·rw[if_neg hb];have hne:b≠c:=fun e=>hb (by simpa using e);rw[List.count_cons_of_ne hne];split
   ·rename_i h;have h':Lib.indexByte l c= -1:=by simpa using h
    simp[ih.1 h']
   ·rename_i h;have h':¬Lib.indexByte l c= -1:=by simpa using h
    constructor
    ·intro e;omega
    ·intro e;exact absurd (ih.2 e) h'
theorem Aqa{l:List UInt8}{c:UInt8}(h:0<l.count c):∃m:Nat,Lib.indexByte l c=(m:Int)∧m<l.length∧(l.drop (m+1)).count c+1=l.count c:=by
 induction l with
 |nil=>simp at h
 |cons b l ih=>
  unfold Lib.indexByte;by_cases hb:(b==c)=true
  ·rw[if_pos hb];have:b=c:=by simpa using hb
   subst this;exact⟨0,rfl,by simp,by simp⟩
  ·rw[if_neg hb];have hne:b≠c:=fun e=>hb (by simpa using e);rw[List.count_cons_of_ne hne]at h ⊢;obtain⟨m,h1,h2,h3⟩:=ih h;have hn:¬((Lib.indexByte l c== -1)=true):=by rw[h1];simp
   rw[if_neg hn,h1];exact⟨m+1,by simp,by simp;omega,by simpa using h3⟩
def Bz(c:UInt8)(s:ByteArray):Nat→ByteArray
 |0=>s
 |k+1=>(Bz c s k).extract ((ixb (Bz c s k) c).toNat+1) (Bz c s k).size
def S0(c:UInt8)(s:ByteArray)(k:Nat):ByteArray:=(Bz c s k).extract 0 (ixb (Bz c s k) c).toNat
def Ci(c:UInt8)(s:ByteArray):List ByteArray:=(List.range (cnb s c)).map (S0 c s)++[Bz c s (cnb s c)]
theorem Om(c:UInt8)(s:ByteArray):(Ci c s).length=cnb s c+1:=by simp[Ci]
theorem Afh(s:ByteArray)(c:UInt8):cnb s c≤s.size:=by
 have:=List.count_le_length (a:=c) (l:=s.data.toList);simpa[cnb,Lib.countByte]using this
theorem D3(s:ByteArray)(a b:Nat):(s.extract a b).data.toList=(s.data.toList.take b).drop a:=by
 simp[ByteArray.data_extract,List.drop_take]
theorem Ku(c:UInt8)(s:ByteArray):∀k,k≤cnb s c→cnb (Bz c s k) c+k=cnb s c
 |0,_=>rfl
 |k+1,h=>by
  have ih:=Ku c s k (by omega);have hp:0<(Bz c s k).data.toList.count c:=by have:cnb (Bz c s k) c=(Bz c s k).data.toList.count c:=rfl;omega
  obtain⟨m,h1,h2,h3⟩:=Aqa hp;have hx:ixb (Bz c s k) c=(m:Int):=h1;have e:(Bz c s (k+1)).data.toList=(Bz c s k).data.toList.drop (m+1):=by
   show((Bz c s k).extract ((ixb (Bz c s k) c).toNat+1) (Bz c s k).size).data.toList=_;rw[D3,hx];congr 1;exact List.take_of_length_le (by simp)
  have:cnb (Bz c s (k+1)) c+1=cnb (Bz c s k) c:=by
   unfold cnb Lib.countByte;rw[e];exact h3
  omega
theorem Alb (c : UInt8) (s : ByteArray) {k : Nat} (h : k < cnb s c) : ∃ m : Nat, ixb (Bz c s k) c = (m : Int) ∧ m + 1 ≤ (Bz c s k).size ∧ S0 c s k = (Bz c s k).extract 0 m ∧ Bz c s (k + 1) = (Bz c s k).extract (m + 1) (Bz c s k).size := by
  have ih := Ku c s k (by omega)
  have hp : 0 < (Bz c s k).data.toList.count c := by have : cnb (Bz c s k) c = (Bz c s k).data.toList.count c := rfl; omega
  obtain ⟨m, h1, h2, _⟩ := Aqa hp
  have hx : ixb (Bz c s k) c = (m : Int) := h1
  refine ⟨m, hx, by have h4 : m < (Bz c s k).size := by simpa using h2
                    omega, ?_, ?_⟩
  · show (Bz c s k).extract 0 (ixb (Bz c s k) c).toNat = _
    rw [hx]; rfl
  · show (Bz c s k).extract ((ixb (Bz c s k) c).toNat + 1) (Bz c s k).size = _
    rw [hx]; rfl
theorem R9(c:UInt8)(s:ByteArray):∀k,(Bz c s k).size≤s.size
 |0=>ZT _
 |k+1=>by
  have:=R9 c s k;show((Bz c s k).extract _ _).size≤_;rw[ByteArray.size_extract];omega
end Pl
def A1(s:ByteArray):List V:=[.v (.string s)]
instance:FlatRow A1:=⟨fun x u hu=>by simp[A1]at hu;subst hu;exact⟨_,rfl⟩⟩
theorem Ans(s:ByteArray)(c:UInt8):Fun Tryz.prog 140 [.c (.v (.string s)),.c (.v (.string ⟨#[c]⟩))] [.c (.v (.int .i64 (cnb s c)))]:=
 Nx (xs:=[.string s,.string ⟨#[c]⟩]) (Fb Tryz.func140 (by kernel_rfl) (by kernel_rfl)) fun w=>(Aou s c w).mono fun e w' ⟨h1,h2⟩=>⟨h1,h2▸Below.refl _ _⟩
theorem Ap6(s:ByteArray)(c:UInt8):Fun Tryz.prog 141 [.c (.v (.string s)),.c (.v (.string ⟨#[c]⟩))] [.c (.v (.int .i64 (ixb s c)))]:=
 Nx (xs:=[.string s,.string ⟨#[c]⟩]) (Fb Tryz.func141 (by kernel_rfl) (by kernel_rfl)) fun w=>(Aor s c w).mono fun e w' ⟨h1,h2⟩=>⟨h1,h2▸Below.refl _ _⟩
def E4(c:UInt8)(s:ByteArray)(k:Nat):List ByteArray:=(List.range k).map (S0 c s)++List.replicate (cnb s c+1-k) ⟨#[]⟩
theorem Xm(c:UInt8)(s:ByteArray){k:Nat}(h:k≤cnb s c+1):(E4 c s k).length=cnb s c+1:=by simp[E4];omega
theorem Xi(c:UInt8)(s:ByteArray){k:Nat}(h:k<cnb s c+1)(x:ByteArray):(E4 c s k).set k x=(List.range k).map (S0 c s)++[x]++List.replicate (cnb s c-k) ⟨#[]⟩:=by
 unfold E4;rw[show cnb s c+1-k=(cnb s c-k)+1 by omega,List.replicate_succ];rw[List.set_append_right _ _ (by simp)];simp
theorem Aeu(c:UInt8)(s:ByteArray){k:Nat}(h:k<cnb s c):(E4 c s k).set k (S0 c s k)=E4 c s (k+1):=by
 rw[Xi c s (by omega)];unfold E4;rw[List.range_succ,ZI];simp
theorem Agt(c:UInt8)(s:ByteArray):((E4 c s (cnb s c)).set (cnb s c) (Bz c s (cnb s c))).take (cnb s c+1)=Ci c s:=by
 rw[Xi c s (by omega)];unfold Ci;rw[Nat.sub_self,List.replicate_zero,List.append_nil];exact List.take_of_length_le (by simp)
theorem Axi(c:UInt8):((⟨#[c]⟩:ByteArray).toList==(⟨#[]⟩:ByteArray).toList)=false:=by simp[Lib.toList_data]
theorem Ae3(c:UInt8)(s:ByteArray):(E4 c s 0).map A1=List.replicate (cnb s c+1) (([.string ⟨#[]⟩]:List Value).map .v):=by
 simp[E4,A1]
theorem Aej(s:ByteArray)(c:UInt8)(hs:s.size≤1000000000000):Fun Tryz.prog 129 [.c (.v (.string s)),.c (.v (.string ⟨#[c]⟩)),.c (.v (.int .i64 0)),.c (.v (.int .i64 (-1)))] [.o 9 1 ((Ci c s).map A1)]:=by
 have hc:=Afh s c;have hR:=Ku c s;have hz:=R9 c s;refine Ar Sk rfl ?_;(refine goI ?_;repeat (intro gg;refine goI ?_));rw[Axi];(refine goI ?_;repeat (intro gg;refine goI ?_));refine .inl (cX (Ans s c) ?_);(refine goI ?_;repeat (intro gg;refine goI ?_));rw[show min ((cnb s c:Int)+1) ((s.size:Int)+1)=(cnb s c:Int)+1 by omega];(refine goI ?_;repeat (intro gg;refine goI ?_));refine⟨cnb s c+1,by simp,by simp,by simp only[maxLen];omega,by omega,?_⟩;(refine goI ?_;repeat (intro gg;refine goI ?_));rw[←Ae3];(refine goI ?_;repeat (intro gg;refine goI ?_));(refine⟨[],none,{k:Nat//k≤cnb s c},[1,2,3,9],fun⟨k,hk⟩=>[(0,.v (.string (Bz c s k))),(10,.v (.int .i64 k))],[],fun⟨k,hk⟩=>[(496,⟨gg,9,1,(E4 c s k).map A1⟩)],fun⟨k,hk⟩=>cnb s c-k,trivial,fun _=>⟨trivial,fun _=>⟨⟨0,by omega⟩,tI,Af _ _,tI,Ae _ _⟩⟩,fun⟨k,hk⟩=>?_⟩);(refine goI ?_;repeat (intro gg;refine goI ?_));(refine Aa (fun h1=>?_) (fun h1=>?_)<;>rw[h1])
 ·have hlt:k<cnb s c:=(by have:=ZV h1;omega);obtain⟨m,e1,e2,e3,e4⟩:=Alb c s hlt;have e5:=hz k;have e6:=Aeu c s hlt;have e7:=Xm c s (k:=k) (by omega);have e8:k<(E4 c s k).length:=by omega
  (refine goI ?_;repeat (intro gg;refine goI ?_));refine .inl (cX (Ap6 (Bz c s k) c) ?_);rw[e1];(refine goI ?_;repeat (intro gg;refine goI ?_));refine⟨0,m,rfl,⟨_,rfl⟩,by omega,by omega,?_⟩;(refine goI ?_;repeat (intro gg;refine goI ?_));refine⟨k,_,rfl,Ad e8,?_⟩;(refine goI ?_;repeat (intro gg;refine goI ?_));refine⟨(m:Int)+1,A6 (n:=(m:Int)+1) (by omega) (by omega),?_⟩;(refine goI ?_;repeat (intro gg;refine goI ?_));refine⟨m+1,(Bz c s k).size,⟨_,rfl⟩,rfl,by omega,ZT _,?_⟩;rw[←e4];(refine goI ?_;repeat (intro gg;refine goI ?_));have hn:(E4 c s (k+1)).map A1=((E4 c s k).map A1).set k [V.v (Value.string ((Bz c s k).extract 0 m))]:=by rw[←e6,List.map_set,e3];rfl
  (exact⟨none,trivial,fun gr=>⟨⟨k+1,by omega⟩,by show cnb s c-(k+1)<cnb s c-k;omega,hxI hn,hxI hn,hxI hn,hxI hn⟩⟩)
 ·have hge:¬k<cnb s c:=(by have:=ZW h1;omega);have hk':k≤cnb s c:=hk;obtain rfl:k=cnb s c:=by omega
  have e7:=Xm c s (k:=cnb s c) (by omega);have e8:cnb s c<(E4 c s (cnb s c)).length:=by omega
  (refine goI ?_;repeat (intro gg;refine goI ?_));refine⟨cnb s c,_,rfl,Ad e8,?_⟩;(refine goI ?_;repeat (intro gg;refine goI ?_));refine⟨0,0,cnb s c+1,rfl,rfl,⟨_,rfl⟩,ZU _,by simp[e7],rfl,rfl,fun g=>?_⟩;(refine goI ?_;repeat (intro gg;refine goI ?_));have hE:(((E4 c s (cnb s c)).map A1).set (cnb s c) [V.v (Value.string (Bz c s (cnb s c)))]).take (cnb s c+1)=(Ci c s).map A1:=by rw[←Agt,List.map_take,List.map_set];rfl
  rw[hE];(exact⟨[496],aI⟩)
namespace Pl
theorem Ajo{α:Type}(p:α→Bool)(l:List α):decide (0≤at_ p l)=l.any p:=by
 rcases Ajp (p:=p) (l:=l)with⟨h1,h2⟩|⟨k,hk,h1,h2,_⟩
 ·rw[h1];cases hq:l.any p with
  |false=>rfl
  |true=>
   obtain⟨x,hx,hp⟩:=List.any_eq_true.1 hq;obtain⟨i,hi,rfl⟩:=List.getElem_of_mem hx;rw[h2 i hi]at hp;cases hp
 ·rw[h1];have:l.any p=true:=List.any_eq_true.2 ⟨_,ZK hk,h2⟩;rw[this];simp
def keep{α:Type}(p:α→Bool)(l:List α):List α:=l.filter fun x=> !p x
theorem keep_all{α:Type}{p:α→Bool}{l:List α}(h:∀i,(h:i<l.length)→p l[i]=false):keep p l=l:=by
 unfold keep;rw[List.filter_eq_self];intro x hx;obtain⟨i,hi,rfl⟩:=List.getElem_of_mem hx;simp[h i hi]
theorem Rh{α:Type}{p:α→Bool}{l:List α}{k:Nat}(h:k<l.length):keep p (l.take (k+1))=if p l[k]=true then keep p (l.take k)else keep p (l.take k)++[l[k]]:=by
 unfold keep;rw[XT,ZC h,List.filter_append];cases q:p l[k]<;>simp[q]
structure Ju{α:Type}(p:α→Bool)(l l':List α)(i j:Nat):Prop where
 ij:i<j
 jl:j≤l.length
 len:l'.length=l.length
 ahead:l'.take i=keep p (l.take j)
 behind:∀k,(h:k<l.length)→j≤k→l'[k]'(by rw[len];exact h)=l[k]
theorem Ju.start{α:Type}{p:α→Bool}{l:List α}{k:Nat}(hk:k<l.length)(h1:p l[k]=true)(h0:∀i,(h:i<l.length)→i<k→p l[i]=false):Ju p l l k (k+1):=by
 refine⟨by omega,by omega,rfl,?_,fun _ _ _=>rfl⟩;rw[Rh hk,if_pos h1,keep_all];intro i hi;simp at hi;simp only[List.getElem_take];exact h0 i (by omega) (by omega)
theorem Ju.gone{α:Type}{p:α→Bool}{l l':List α}{i j:Nat}(h:Ju p l l' i j)(hj:j<l.length)(hp:p l[j]=true):Ju p l l' i (j+1):=by
 refine⟨by have:=h.ij;omega,by omega,h.len,?_,fun k hk hkj=>h.behind k hk (by omega)⟩;rw[Rh hj,if_pos hp];exact h.ahead
theorem Ju.stays{α:Type}{p:α→Bool}{l l':List α}{i j:Nat}(h:Ju p l l' i j)(hj:j<l.length)(hp:p l[j]=false):Ju p l (l'.set i l[j]) (i+1) (j+1):=by
 have hij:=h.ij;have hlen:=h.len;refine⟨by omega,by omega,by simp[hlen],?_,fun k hk hkj=>?_⟩
 ·rw[Rh hj,if_neg (by simp[hp]),XT,List.take_set_of_le (ZT _),h.ahead];congr 1;rw[List.getElem?_set_self (by omega)];rfl
 ·rw[List.getElem_set_ne (by omega)];exact h.behind k hk (by omega)
theorem Ju.fin{α:Type}{p:α→Bool}{l l':List α}{i j:Nat}(h:Ju p l l' i j)(hj:¬j<l.length):l'.take i=keep p l:=by
 rw[h.ahead,List.take_of_length_le (by omega)]
end Pl
def A5(s:ByteArray):List ByteArray:=if(s.toList==(⟨#[]⟩:ByteArray).toList)=true then []else Ci 46 s
def Ao(s:ByteArray):Int:=if(A5 s).any (fun x=> !lab x.data.toList)=true then 1 else if 8<(A5 s).length then 2 else if 120<s.size then 2 else 0
theorem Acm(s:ByteArray)(c:UInt8)(hs:s.size≤1000000000000):Fun Tryz.prog 103 [.c (.v (.string s)),.c (.v (.string ⟨#[c]⟩))] [.o 9 1 ((Ci c s).map A1)]:=by
 refine Ar W5 rfl ?_;refine G0 ?_;refine .inl (cX (Aej s c hs) ?_);refine G1 ?_;intro gg;(exact⟨[112],aI⟩)
theorem Aax(s:ByteArray)(hs:s.size≤1000000000000):Fun Tryz.prog 90 [.c (.v (.string s))] [.c (.sl false ((A5 s).map A1))]:=by
 refine Ar Ac0 rfl ?_;refine G0 ?_;(refine Aa (fun h=>?_) (fun h=>?_)<;>rw[h])
 ·refine G0 ?_;rw[show A5 s=[]from if_pos h];(exact⟨[],aI⟩)
 ·refine G0 ?_;refine .inl (cX (Acm s 46 hs) ?_);refine G1 ?_;intro gg;rw[show A5 s=Ci 46 s from if_neg (by rw[h];decide)];(exact⟨[],aI⟩)
theorem Aqs(s:ByteArray)(hs:s.size≤9223372036854775807):Fun Tryz.prog 91 [.c (.v (.string s))] [.c (.v (.bool (!lab s.data.toList)))]:=by
 refine Ar Zx rfl ?_;refine G0 ?_;refine .inl (cX (El s hs) ?_);refine G1 ?_;intro gg;(exact⟨[],aI⟩)
theorem Abo(cl:Bool)(l:List ByteArray)(f:FuncId)(p:ByteArray→Bool)(hl:l.length≤9223372036854775807)(hf:∀s∈l,Fun Tryz.prog f [.c (.v (.string s))] [.c (.v (.bool (p s)))]):
  Fun Tryz.prog 80 [.c (.sl cl (l.map A1)),.c (.v (.func (.func f) #[] #[]))] [.c (.v (.int .i64 (at_ p l)))]:=by
 refine Ar H2 rfl ?_;refine G0 ?_;rw[ZE];(refine⟨[],none,{k:Nat//k≤l.length∧∀j,(h:j<l.length)→j<k→p l[j]=false},[0,1,7],fun⟨k,hk,h0⟩=>[(8,.v (.int .i64 k))],[],fun⟨k,hk,h0⟩=>[],fun⟨k,hk,h0⟩=>l.length-k,trivial,fun _=>⟨trivial,fun _=>⟨⟨0,by omega,fun j _ h=>by omega⟩,tI,Af _ _,tI,Ae _ _⟩⟩,fun⟨k,hk,h0⟩=>?_⟩);refine G0 ?_;(refine Aa (fun h=>?_) (fun h=>?_)<;>rw[h])
 ·have hlt:k<l.length:=(by have:=ZV h;omega);refine G0 ?_;refine⟨k,_,rfl,Ad hlt,?_⟩;refine G0 ?_;refine .inl (cX (hf _ (ZK hlt)) ?_);refine G1 ?_;intro gg;(refine Aa (fun h2=>?_) (fun h2=>?_)<;>rw[h2])
  ·refine G0 ?_;rw[Vq hlt h0 h2];(exact⟨[],aI⟩)
  ·refine G0 ?_;(exact⟨none,trivial,fun _=>⟨⟨k+1,by omega,up1 (p:=fun j h=>p l[j]=false) h0 (fun _=>h2)⟩,by show l.length-(k+1)<l.length-k;omega,tI,tI,tI,tI⟩⟩)
 ·have hge:¬k<l.length:=(by have:=ZW h;omega);refine G0 ?_;rw[Ad9 (p:=p) (l:=l) (fun i hi=>h0 i hi (by omega))];(exact⟨[],aI⟩)
theorem S7(cl:Bool)(l:List ByteArray)(f:FuncId)(p:ByteArray→Bool)(hl:l.length≤9223372036854775807)(hf:∀s∈l,Fun Tryz.prog f [.c (.v (.string s))] [.c (.v (.bool (p s)))]):
  Fun Tryz.prog 39 [.c (.sl cl (l.map A1)),.c (.v (.func (.func f) #[] #[]))] [.c (.v (.bool (l.any p)))]:=by
 have hI:=Abo cl l f p hl hf;refine Ar Gt rfl ?_;refine G0 ?_;refine .inl (cX hI ?_);refine G1 ?_;intro gg;rw[Ajo];(exact⟨[],aI⟩)
theorem Ajz(s:ByteArray)(a b:Nat):(s.extract a b).size≤s.size:=by rw[ByteArray.size_extract];omega
theorem Fm{s x:ByteArray}(h:x∈A5 s):x.size≤s.size:=by
 unfold A5 at h;split at h
 ·cases h
 ·unfold Ci at h;rcases XM.1 h with h|h
  ·obtain⟨k,_,rfl⟩:=XO.1 h;exact XI (Ajz _ _ _) (R9 46 s k)
  ·simp only[XC,XD,or_false]at h;subst h;exact R9 46 s _
theorem Jk(s:ByteArray):(A5 s).length≤s.size+1:=by
 unfold A5;split
 ·simp
 ·rw[Om];have:=Afh s 46;omega
theorem N9(s:ByteArray)(hs:s.size≤1000000000000):Fun Tryz.prog 49 [.c (.v (.string s))] [.c (.v (.int .i64 (Ao s)))]:=by
 have hL:=Jk s;have hC:=S7 false (A5 s) 91 (fun x=> !lab x.data.toList) (by omega) (fun x hx=>Aqs x (by have:=Fm hx;omega));refine Ar Afi rfl ?_;refine G0 ?_;refine .inl (cX (Aax s hs) ?_);refine G1 ?_;intro gg;refine .inl (cX hC ?_);refine G1 ?_;intro gg;(refine Aa (fun h=>?_) (fun h=>?_)<;>rw[h])
 ·refine G0 ?_;rw[show Ao s=1 from if_pos h];(exact⟨[],aI⟩)
 ·have e:Ao s=if 8<(A5 s).length then 2 else if 120<s.size then 2 else 0:=if_neg (by rw[h];decide)
  refine G0 ?_;rw[ZE];(refine Aa (fun h2=>?_) (fun h2=>?_)<;>rw[h2])
  ·refine G0 ?_;rw[e,if_pos (by have:=ZV h2;omega)];(exact⟨[],aI⟩)
  ·rw[if_neg (by have:=ZW h2;omega)]at e;refine G0 ?_;(refine Aa (fun h3=>?_) (fun h3=>?_)<;>rw[h3])
   ·refine G0 ?_;rw[e,if_pos (by have:=ZV h3;omega)];(exact⟨[],aI⟩)
   ·refine G0 ?_;rw[e,if_neg (by have:=ZW h3;omega)];(exact⟨[],aI⟩)
namespace Pl
def Eg(c:UInt8)(s:ByteArray):Nat→List ByteArray×Nat
 |0=>([],0)
 |i+1=>if s.data.toList[i]? =some c then((Eg c s i).1++[s.extract (Eg c s i).2 i],i+1)else Eg c s i
theorem Ayk{l:List UInt8}{c:UInt8}:∀{m:Nat},l[m]? =some c→(∀j,j<m→l[j]?≠some c)→Lib.indexByte l c=(m:Int):=by
 induction l with
 |nil=>intro m h;simp at h
 |cons b l ih=>
  intro m h1 h2;unfold Lib.indexByte;cases m with
  |zero=>
   simp at h1;subst h1;simp
  |succ m=>
   have hne:¬((b==c)=true):=fun e=>by
    have:b=c:=by simpa using e
    exact h2 0 (by omega) (by simp[this])
   rw[if_neg hne];have:=ih (m:=m) (by simpa using h1) (fun j hj=>by simpa using h2 (j+1) (by omega));have hn:¬((Lib.indexByte l c== -1)=true):=by rw[this];simp
   rw[if_neg hn,this];simp
theorem Wi(s:ByteArray)(f:Nat):(s.extract f s.size).data.toList=s.data.toList.drop f:=by
 rw[D3,List.take_of_length_le (by simp)]
theorem Vk(c:UInt8)(s:ByteArray):∀i,i≤s.size→(Eg c s i).2≤i∧(∀j,(Eg c s i).2≤j→j<i→s.data.toList[j]?≠some c)∧
  ∃k,k≤cnb s c∧(Eg c s i).1=(List.range k).map (S0 c s)∧Bz c s k=s.extract (Eg c s i).2 s.size∧k≤i
 |0,_=>⟨ZT _,fun j _ h=>by omega,0,ZU _,rfl,by show s=s.extract 0 s.size;simp,ZT _⟩
 |i+1,hi=>by
  obtain⟨h1,h2,k,h3,h4,h5,h6⟩:=Vk c s i (by omega);by_cases hc:s.data.toList[i]? =some c
  ·have e:Eg c s (i+1)=((Eg c s i).1++[s.extract (Eg c s i).2 i],i+1):=if_pos hc;rw[e];generalize (Eg c s i).2=f at *;have hl:(Bz c s k).data.toList=s.data.toList.drop f:=by rw[h5,Wi]
   have hx:ixb (Bz c s k) c=((i-f:Nat):Int):=by
    unfold ixb;rw[hl];refine Ayk ?_ (fun j hj=>?_)
    ·rw[List.getElem?_drop,show f+(i-f)=i by omega];exact hc
    ·rw[List.getElem?_drop];exact h2 _ (by omega) (by omega)
   have hk:k<cnb s c:=by
    rcases Nat.lt_or_ge k (cnb s c)with q|q
    ·exact q
    ·have hq:=Ku c s k h3;have h0:(Bz c s k).data.toList.count c=0:=by have:cnb (Bz c s k) c=(Bz c s k).data.toList.count c:=rfl;omega
     have:=Aw2.2 h0;unfold ixb at hx;omega
   refine⟨ZT _,fun j h h'=>by omega,k+1,hk,?_,?_,by omega⟩
   ·show(Eg c s i).1++[s.extract f i]=_;rw[h4,List.range_succ,ZI];congr 1;show [s.extract f i]=[S0 c s k];congr 1;show _=(Bz c s k).extract 0 (ixb (Bz c s k) c).toNat;rw[hx,h5,ByteArray.extract_extract];congr 1;simp;omega
   ·show(Bz c s k).extract ((ixb (Bz c s k) c).toNat+1) (Bz c s k).size=s.extract (i+1) s.size;rw[hx,h5,ByteArray.extract_extract];congr 1
    ·simp;omega
    ·rw[ByteArray.size_extract];omega
  ·have e:Eg c s (i+1)=Eg c s i:=if_neg hc;rw[e];refine⟨by omega,fun j h h'=>?_,k,h3,h4,h5,by omega⟩;rcases Nat.lt_or_ge j i with q|q
   ·exact h2 j h q
   ·have:j=i:=by omega
    subst this;exact hc
theorem Ahg(c:UInt8)(s:ByteArray):(Eg c s s.size).1++[s.extract (Eg c s s.size).2 s.size]=Ci c s:=by
 obtain⟨h1,h2,k,h3,h4,h5,_⟩:=Vk c s s.size (ZT _);have h0:(Bz c s k).data.toList.count c=0:=by
  rw[h5,Wi,List.count_eq_zero];intro hm;obtain⟨j,hj,e⟩:=List.getElem_of_mem hm;have hj':(s.data.toList.drop (Eg c s s.size).2)[j]? =some c:=by rw[ZC hj,e]
  rw[List.getElem?_drop]at hj';have hlt:=(ZB.1 hj').1;exact h2 _ (by omega) (by simpa using hlt) hj'
 have hk:k=cnb s c:=by
  have:=Ku c s k h3;have:cnb (Bz c s k) c=(Bz c s k).data.toList.count c:=rfl;omega
 subst hk;rw[h4,←h5];rfl
theorem Aie(c:UInt8)(s:ByteArray){i:Nat}(h:i≤s.size):(Eg c s i).1.length≤i∧(Eg c s i).2≤i:=by
 obtain⟨h1,_,k,_,h4,_,h6⟩:=Vk c s i h;refine⟨?_,h1⟩;rw[h4];simp;exact h6
end Pl
theorem Auo{s:ByteArray}{k:Nat}(h:k<s.size):∃c,s[k]? =some c∧s.data.toList[k]? =some c:=⟨s[k],by simp[h],by simp[h];rfl⟩
theorem At8{c:UInt8}{s:ByteArray}{i:Nat}(h:s.data.toList[i]? =some c):Eg c s (i+1)=((Eg c s i).1++[s.extract (Eg c s i).2 i],i+1):=if_pos h
theorem Ats{c:UInt8}{s:ByteArray}{i:Nat}(h:s.data.toList[i]?≠some c):Eg c s (i+1)=Eg c s i:=if_neg h
theorem Q9(s:ByteArray)(hs:s.size≤1000000000000):Fun Tryz.prog 67 [.c (.v (.string s))] [.c (.sl false ((A5 s).map A1))]:=by
 refine Ar O6 rfl ?_;refine G0 ?_;(refine Aa (fun h=>?_) (fun h=>?_)<;>rw[h])
 ·refine G0 ?_;rw[show A5 s=[]from if_pos h];(exact⟨[],aI⟩)
 ·have hE:=Ahg 46 s;rw[show A5 s=Ci 46 s from if_neg (by rw[h];decide),←hE];refine G0 ?_;(refine⟨[(3,48,9,1)],none,{p:Nat×Nat//p.1≤s.size},[0],fun⟨⟨k,g⟩,hk⟩=>[(3,.own 48 g),(4,.v (.int .i64 (Eg 46 s k).2)),(5,.v (.int .i64 k))],[],fun⟨⟨k,g⟩,hk⟩=>[(48,⟨g,9,1,(Eg 46 s k).1.map A1⟩)],fun⟨⟨k,g⟩,hk⟩=>s.size-k,(by exact⟨rfl,by decide,(fun _ _ _ _ h=>by cases h),trivial⟩),fun gs=>⟨trivial,fun _=>⟨⟨(0,gs 48),by omega⟩,tI,tI,tI,tI⟩⟩,fun⟨⟨k,g⟩,hk⟩=>?_⟩);have hk':k≤s.size:=hk;have hl:=Aie 46 s hk';refine G0 ?_;(refine Aa (fun h1=>?_) (fun h1=>?_)<;>rw[h1])
  ·have hlt:k<s.size:=(by have:=ZV h1;omega);obtain⟨c,hc1,hc2⟩:=Auo hlt;refine G0 ?_;refine⟨k,c,rfl,hc1,?_⟩;refine G0 ?_;(refine Aa (fun h2=>?_) (fun h2=>?_)<;>rw[h2])
   ·have hc:c=46:=by
     have h3:(c.toNat:Int)=46:=by simpa using h2
     exact UInt8.toNat_inj.1 (by show c.toNat=46;omega)
    subst hc;have e:=At8 hc2;obtain⟨e1,e2⟩:(Eg 46 s (k+1)).1=(Eg 46 s k).1++[s.extract (Eg 46 s k).2 k]∧(Eg 46 s (k+1)).2=k+1:=by rw[e];exact⟨rfl,rfl⟩
    refine G0 ?_;refine⟨(Eg 46 s k).2,k,⟨_,rfl⟩,⟨_,rfl⟩,hl.2,by omega,?_⟩;refine G1 ?_;intro gg;refine⟨lI,lI,?_⟩;refine G1 ?_;intro gg;(exact⟨none,trivial,fun gr=>⟨⟨(k+1,gg),by dsimp only;omega⟩,by show s.size-(k+1)<s.size-k;omega,hxI e,hxI e,hxI e,hxI e⟩⟩)
   ·have hc:s.data.toList[k]?≠some 46:=fun q=>by
     rw[hc2]at q;injection q with q;subst q
     simp at h2
    have e:=Ats hc;refine G0 ?_;(exact⟨none,trivial,fun gr=>⟨⟨(k+1,g),by dsimp only;omega⟩,by show s.size-(k+1)<s.size-k;omega,hxI e,hxI e,hxI e,hxI e⟩⟩)
  ·have hge:¬k<s.size:=(by have:=ZW h1;omega);obtain rfl:k=s.size:=by omega
   refine G0 ?_;refine⟨(Eg 46 s s.size).2,s.size,⟨_,rfl⟩,rfl,hl.2,ZT _,?_⟩;refine G1 ?_;intro gg;refine⟨lI,lI,?_⟩;refine G1 ?_;intro gg;rw[ZI];(exact⟨[],aI⟩)
theorem Ck(s:ByteArray)(hs:s.size≤1000000000000):Fun Tryz.prog 59 [.c (.v (.string s))] [.c (.v (.int .i64 (Ao s)))]:=by
 have hL:=Jk s;refine Ar Na rfl ?_;refine G0 ?_;refine .inl (cX (Q9 s hs) ?_);refine G1 ?_;intro gg;(refine⟨[],none,{k:Nat//k≤(A5 s).length∧∀j,(h:j<(A5 s).length)→j<k→lab (A5 s)[j].data.toList=true},[0,3],fun⟨k,hk,h0⟩=>[(4,.v (.int .i64 k))],[],fun⟨k,hk,h0⟩=>[],fun⟨k,hk,h0⟩=>(A5 s).length-k,trivial,fun _=>⟨trivial,fun _=>⟨⟨0,by omega,fun j _ h=>by omega⟩,tI,Af _ _,tI,Ae _ _⟩⟩,fun⟨k,hk,h0⟩=>?_⟩);refine G0 ?_;rw[ZE];(refine Aa (fun h=>?_) (fun h=>?_)<;>rw[h])
 ·have hlt:k<(A5 s).length:=(by have:=ZV h;omega);refine G0 ?_;refine⟨k,_,rfl,Ad hlt,?_⟩;refine G0 ?_;(refine .inl ⟨_,_,false,[],aI,Eb (A5 s)[k] (by have:=Fm (ZK hlt);omega),Ab,nI,?_⟩);refine G1 ?_;intro gg;(refine Aa (fun h2=>?_) (fun h2=>?_)<;>rw[h2])
  ·refine G0 ?_;have e:Ao s=1:=if_pos (List.any_eq_true.2 ⟨_,ZK hlt,h2⟩);rw[e];(exact⟨[],aI⟩)
  ·refine G0 ?_;(exact⟨none,trivial,fun _=>⟨⟨k+1,by omega,up1 (p:=fun j h=>lab (A5 s)[j].data.toList=true) h0 (fun _=>Bw h2)⟩,by show(A5 s).length-(k+1)<(A5 s).length-k;omega,tI,tI,tI,tI⟩⟩)
 ·have hge:¬k<(A5 s).length:=(by have:=ZW h;omega);have hn:(A5 s).any (fun x=> !lab x.data.toList)=false:=by
   rw[List.any_eq_false];intro x hx;obtain⟨j,hj,rfl⟩:=List.getElem_of_mem hx;rw[h0 j hj (by omega)];simp
  have e:Ao s=if 8<(A5 s).length then 2 else if 120<s.size then 2 else 0:=if_neg (by rw[hn];decide)
  refine G0 ?_;rw[ZE];(refine Aa (fun h2=>?_) (fun h2=>?_)<;>rw[h2])
  ·refine G0 ?_;rw[e,if_pos (by have:=ZV h2;omega)];(exact⟨[],aI⟩)
  ·rw[if_neg (by have:=ZW h2;omega)]at e;refine G0 ?_;(refine Aa (fun h3=>?_) (fun h3=>?_)<;>rw[h3])
   ·refine G0 ?_;rw[e,if_pos (by have:=ZV h3;omega)];(exact⟨[],aI⟩)
   ·refine G0 ?_;rw[e,if_neg (by have:=ZW h3;omega)];(exact⟨[],aI⟩)
namespace Pl
structure Qr where
 sv:ByteArray
 tg:ByteArray
 nd:ByteArray
 ce:ByteArray
def Qr.row(q:Qr):List V:=[.v (.string q.sv),.v (.string q.tg),.v (.string q.nd),.v (.string q.ce)]
instance:FlatRow Qr.row:=⟨fun x u hu=>by simp[Qr.row]at hu;rcases hu with rfl|rfl|rfl|rfl<;>exact⟨_,rfl⟩⟩
def Qr.ok(q:Qr):Prop:=q.sv.size≤9223372036854775807∧q.tg.size≤9223372036854775807∧q.nd.size≤9223372036854775807∧q.ce.size≤9223372036854775807
def em(x:ByteArray):Bool:=x.toList==(⟨#[]⟩:ByteArray).toList
def Br:ByteArray:=⟨#[115,101,114,118,105,99,101]⟩
def Cm:ByteArray:=⟨#[110,111,100,101]⟩
def Bc:ByteArray:=⟨#[109,101,115,104]⟩
def Z2(l:List ByteArray)(x:ByteArray):Bool:=l.any fun w=>x.toList==w.toList
def Gx(x:ByteArray):Bool:=bif em x then false else !lab x.data.toList
def Qr.all(q:Qr):List ByteArray:=[q.sv,q.tg,q.nd,q.ce]
def Qr.c1(q:Qr):Bool:=bif (em q.sv==em q.nd)then true else(bif em q.sv then !em q.tg else false)
def Qr.c2(q:Qr):Bool:=q.all.any Gx
def Qr.c3(q:Qr):Bool:=bif Z2 [Br,Cm,Bc] q.ce then true else bif Z2 [Br,Cm,Bc] q.sv then true else bif Z2 [Br,Cm,Bc] q.tg then true else Z2 [Br,Cm] q.nd
def Qr.err(q:Qr):Int:=bif q.c1 then 1 else bif q.c2 then 1 else bif q.c3 then 7 else 0
end Pl
theorem Akd(cl:Bool)(l:List ByteArray)(v:ByteArray)(hl:l.length≤9223372036854775807):
  Fun Tryz.prog 81 [.c (.sl cl (l.map A1)),.c (.v (.string v))] [.c (.v (.int .i64 (at_ (fun w=>v.toList==w.toList) l)))]:=by
 refine Ar Jg rfl ?_;refine G0 ?_;rw[ZE];(refine⟨[],none,{k:Nat//k≤l.length∧∀j,(h:j<l.length)→j<k→(v.toList==l[j].toList)=false},[0,1,7],fun⟨k,hk,h0⟩=>[(8,.v (.int .i64 k))],[],fun⟨k,hk,h0⟩=>[],fun⟨k,hk,h0⟩=>l.length-k,trivial,fun _=>⟨trivial,fun _=>⟨⟨0,by omega,fun j _ h=>by omega⟩,tI,Af _ _,tI,Ae _ _⟩⟩,fun⟨k,hk,h0⟩=>?_⟩);refine G0 ?_;(refine Aa (fun h=>?_) (fun h=>?_)<;>rw[h])
 ·have hlt:k<l.length:=(by have:=ZV h;omega);refine G0 ?_;refine⟨k,_,rfl,Ad hlt,?_⟩;refine G0 ?_;(refine Aa (fun h2=>?_) (fun h2=>?_)<;>rw[h2])
  ·refine G0 ?_;rw[Vq (p:=fun w=>v.toList==w.toList) hlt h0 h2];(exact⟨[],aI⟩)
  ·refine G0 ?_;(exact⟨none,trivial,fun _=>⟨⟨k+1,by omega,up1 (p:=fun j h=>(v.toList==l[j].toList)=false) h0 (fun _=>h2)⟩,by show l.length-(k+1)<l.length-k;omega,tI,tI,tI,tI⟩⟩)
 ·have hge:¬k<l.length:=(by have:=ZW h;omega);refine G0 ?_;rw[Ad9 (p:=fun w=>v.toList==w.toList) (l:=l) (fun i hi=>h0 i hi (by omega))];(exact⟨[],aI⟩)
theorem Afs(cl:Bool)(l:List ByteArray)(v:ByteArray)(hl:l.length≤9223372036854775807):
  Fun Tryz.prog 43 [.c (.sl cl (l.map A1)),.c (.v (.string v))] [.c (.v (.bool (Z2 l v)))]:=by
 refine Ar Ie rfl ?_;refine G0 ?_;refine .inl (cX (Akd cl l v hl) ?_);refine G1 ?_;intro gg;rw[Ajo];(exact⟨[],aI⟩)
theorem Atl(s:ByteArray)(hs:s.size≤9223372036854775807):Fun Tryz.prog 40 [.c (.v (.string s))] [.c (.v (.bool (Gx s)))]:=by
 refine Ar Wk rfl ?_;refine G0 ?_;(refine Aa (fun h=>?_) (fun h=>?_)<;>rw[h])
 ·have he:em s=false:=Dr h;refine G0 ?_;refine .inl (cX (El s hs) ?_);refine G1 ?_;intro gg;rw[show Gx s= !lab s.data.toList by unfold Gx;rw[he];rfl];(exact⟨[],aI⟩)
 ·have he:em s=true:=Bw h;refine G0 ?_;rw[show Gx s=false by unfold Gx;rw[he];rfl];(exact⟨[],aI⟩)
theorem Me(s:ByteArray)(l:List ByteArray)(hl:l.length≤9223372036854775807):Fun Tryz.prog 42 [.c (.v (.string s)),.c (.sl false (l.map A1))] [.c (.v (.bool (Z2 l s)))]:=by
 refine Ar Vu rfl ?_;refine G0 ?_;refine .inl (cX (Afs false l s hl) ?_);refine G1 ?_;intro gg;(exact⟨[],aI⟩)
theorem Abb(q:Qr)(hq:q.ok):Fun Tryz.prog 18 [.c (.agg q.row)] [.c (.v (.int .i64 q.err))]:=by
 have hF:=S7 false q.all 40 Gx (by simp[Qr.all]) (fun x hx=>Atl x (by
  obtain⟨h1,h2,h3,h4⟩:=hq;simp only[Qr.all,XC,XD,or_false]at hx;rcases hx with rfl|rfl|rfl|rfl<;>assumption))
 refine Ar Z5 rfl ?_;refine G1 ?_;intro gg;(refine Aa (fun h1=>?_) (fun h1=>?_)<;>rw[h1])
 ·have e1:(em q.sv==em q.nd)=true:=h1;have hc1:q.c1=true:=by unfold Qr.c1;rw[e1];rfl
  refine G0 ?_;rw[show q.err=1 by unfold Qr.err;rw[hc1];rfl];(exact⟨[],aI⟩)
 ·have e1:(em q.sv==em q.nd)=false:=h1;refine G0 ?_;(refine Aa (fun h2=>?_) (fun h2=>?_)<;>rw[h2])
  ·have e2:em q.sv=true:=h2;refine G0 ?_;(refine Aa (fun h3=>?_) (fun h3=>?_)<;>rw[h3])
   ·have e3:(!em q.tg)=true:=h3;have hc1:q.c1=true:=by unfold Qr.c1;rw[e1,e2,e3];rfl
    refine G0 ?_;rw[show q.err=1 by unfold Qr.err;rw[hc1];rfl];(exact⟨[],aI⟩)
   ·have e3:(!em q.tg)=false:=h3;have hc1:q.c1=false:=by unfold Qr.c1;rw[e1,e2,e3];rfl
    refine G1 ?_;intro gg;refine .inl (cY hF ?_);refine G1 ?_;intro gg;(refine Aa (fun h4=>?_) (fun h4=>?_)<;>rw[h4])
    ·refine G0 ?_;rw[show q.err=1 by unfold Qr.err;rw[hc1,show q.c2=true from h4];rfl];(exact⟨[],aI⟩)
    ·have hc2:q.c2=false:=h4;refine G1 ?_;intro gg;(refine .inl ⟨_,_,true,[],aI,Me q.ce [Br,Cm,Bc] (by simp),(fun _=>fI),nI,?_⟩);refine G1 ?_;intro gg;(refine Aa (fun k1=>?_) (fun k1=>?_)<;>rw[k1])
     ·refine G0 ?_;rw[show q.err=7 by unfold Qr.err Qr.c3;rw[hc1,hc2,k1];rfl];(exact⟨[],aI⟩)
     ·refine G1 ?_;intro gg;(refine .inl ⟨_,_,true,[],aI,Me q.sv [Br,Cm,Bc] (by simp),(fun _=>fI),nI,?_⟩);refine G1 ?_;intro gg;(refine Aa (fun k2=>?_) (fun k2=>?_)<;>rw[k2])
      ·refine G0 ?_;rw[show q.err=7 by unfold Qr.err Qr.c3;rw[hc1,hc2,k1,k2];rfl];(exact⟨[],aI⟩)
      ·refine G1 ?_;intro gg;(refine .inl ⟨_,_,true,[],aI,Me q.tg [Br,Cm,Bc] (by simp),(fun _=>fI),nI,?_⟩);refine G1 ?_;intro gg;(refine Aa (fun k3=>?_) (fun k3=>?_)<;>rw[k3])
       ·refine G0 ?_;rw[show q.err=7 by unfold Qr.err Qr.c3;rw[hc1,hc2,k1,k2,k3];rfl];(exact⟨[],aI⟩)
       ·refine G1 ?_;intro gg;(refine .inl ⟨_,_,true,[],aI,Me q.nd [Br,Cm] (by simp),(fun _=>fI),nI,?_⟩);refine G1 ?_;intro gg;(refine Aa (fun k4=>?_) (fun k4=>?_)<;>rw[k4])
        ·refine G0 ?_;rw[show q.err=7 by unfold Qr.err Qr.c3;rw[hc1,hc2,k1,k2,k3,k4];rfl];(exact⟨[],aI⟩)
        ·refine G0 ?_;rw[show q.err=0 by unfold Qr.err Qr.c3;rw[hc1,hc2,k1,k2,k3,k4];rfl];(exact⟨[],aI⟩)
  ·have e2:em q.sv=false:=h2;have hc1:q.c1=false:=by unfold Qr.c1;rw[e1,e2];rfl
   refine G1 ?_;intro gg;refine .inl (cY hF ?_);refine G1 ?_;intro gg;(refine Aa (fun h4=>?_) (fun h4=>?_)<;>rw[h4])
   ·refine G0 ?_;rw[show q.err=1 by unfold Qr.err;rw[hc1,show q.c2=true from h4];rfl];(exact⟨[],aI⟩)
   ·have hc2:q.c2=false:=h4;refine G1 ?_;intro gg;(refine .inl ⟨_,_,true,[],aI,Me q.ce [Br,Cm,Bc] (by simp),(fun _=>fI),nI,?_⟩);refine G1 ?_;intro gg;(refine Aa (fun k1=>?_) (fun k1=>?_)<;>rw[k1])
    ·refine G0 ?_;rw[show q.err=7 by unfold Qr.err Qr.c3;rw[hc1,hc2,k1];rfl];(exact⟨[],aI⟩)
    ·refine G1 ?_;intro gg;(refine .inl ⟨_,_,true,[],aI,Me q.sv [Br,Cm,Bc] (by simp),(fun _=>fI),nI,?_⟩);refine G1 ?_;intro gg;(refine Aa (fun k2=>?_) (fun k2=>?_)<;>rw[k2])
     ·refine G0 ?_;rw[show q.err=7 by unfold Qr.err Qr.c3;rw[hc1,hc2,k1,k2];rfl];(exact⟨[],aI⟩)
     ·refine G1 ?_;intro gg;(refine .inl ⟨_,_,true,[],aI,Me q.tg [Br,Cm,Bc] (by simp),(fun _=>fI),nI,?_⟩);refine G1 ?_;intro gg;(refine Aa (fun k3=>?_) (fun k3=>?_)<;>rw[k3])
      ·refine G0 ?_;rw[show q.err=7 by unfold Qr.err Qr.c3;rw[hc1,hc2,k1,k2,k3];rfl];(exact⟨[],aI⟩)
      ·refine G1 ?_;intro gg;(refine .inl ⟨_,_,true,[],aI,Me q.nd [Br,Cm] (by simp),(fun _=>fI),nI,?_⟩);refine G1 ?_;intro gg;(refine Aa (fun k4=>?_) (fun k4=>?_)<;>rw[k4])
       ·refine G0 ?_;rw[show q.err=7 by unfold Qr.err Qr.c3;rw[hc1,hc2,k1,k2,k3,k4];rfl];(exact⟨[],aI⟩)
       ·refine G0 ?_;rw[show q.err=0 by unfold Qr.err Qr.c3;rw[hc1,hc2,k1,k2,k3,k4];rfl];(exact⟨[],aI⟩)
theorem C5{q:Qr}{k:Nat}(h:k<4):(q.all.map A1)[k]? =some (A1 (q.all[k]'h)):=Ad (f:=A1) (l:=q.all) h
def Ee(k:Nat)(x:ByteArray):Bool:=bif x.toList==Br.toList then true else bif x.toList==Cm.toList then true else bif ((k:Int) !=2)then x.toList==Bc.toList else false
theorem Qr.c2_of{q:Qr}(h:∀j,(hj:j<4)→Gx (q.all[j]'hj)=false):q.c2=false:=by
 have a:=h 0 (by omega);have b:=h 1 (by omega);have c:=h 2 (by omega);have d:=h 3 (by omega);simp only[Qr.all,List.getElem_cons_zero,List.getElem_cons_succ]at a b c d;simp[Qr.c2,Qr.all,a,b,c,d]
theorem Qr.c2_at{q:Qr}{k:Nat}(hk:k<4)(h:Gx (q.all[k]'hk)=true):q.c2=true:=List.any_eq_true.2 ⟨_,ZK hk,h⟩
theorem Qr.c3_of{q:Qr}(h:∀j,(hj:j<4)→Ee j (q.all[j]'hj)=false):q.c3=false:=by
 have a:=h 0 (by omega);have b:=h 1 (by omega);have c:=h 2 (by omega);have d:=h 3 (by omega);simp only[Qr.all,List.getElem_cons_zero,List.getElem_cons_succ,Ee]at a b c d;simp[Qr.c3,Z2]at *;simp_all
theorem Qr.c3_at{q:Qr}{k:Nat}(hk:k<4)(h:Ee k (q.all[k]'hk)=true):q.c3=true:=by
 rcases(by omega:k=0∨k=1∨k=2∨k=3)with rfl|rfl|rfl|rfl<;>
  (simp only[Qr.all,List.getElem_cons_zero,List.getElem_cons_succ,Ee]at h
   simp[Qr.c3,Z2]at *
   grind)
theorem Pd(q:Qr)(hq:q.ok):Fun Tryz.prog 24 [.c (.agg q.row)] [.c (.v (.int .i64 q.err))]:=by
 have hz:∀k,(hk:k<4)→(q.all[k]'hk).size≤9223372036854775807:=fun k hk=>by
  obtain⟨h1,h2,h3,h4⟩:=hq;have hx:=ZK (l:=q.all) (n:=k) hk;generalize q.all[k]'hk=x at *;simp only[Qr.all,XC,XD,or_false]at hx;rcases hx with rfl|rfl|rfl|rfl<;>assumption
 cases e1:em q.sv with
 |true=>
  have r1:(q.sv.toList==(⟨#[]⟩:ByteArray).toList)=true:=e1;cases e2:em q.nd with
  |true=>
   have r2:(q.nd.toList==(⟨#[]⟩:ByteArray).toList)=true:=e2;have hc1:q.c1=true:=by unfold Qr.c1;rw[e1,e2];rfl
   refine Ar B5 rfl ?_;refine G1 ?_;intro gg;rw[r1];refine G0 ?_;rw[r2];refine G0 ?_;rw[show q.err=1 by unfold Qr.err;rw[hc1];rfl];(exact⟨[],aI⟩)
  |false=>
   have r2:(q.nd.toList==(⟨#[]⟩:ByteArray).toList)=false:=e2;cases e3:em q.tg with
   |true=>
    have r3:(q.tg.toList==(⟨#[]⟩:ByteArray).toList)=true:=e3;have hc1:q.c1=false:=by unfold Qr.c1;rw[e1,e2,e3];rfl
    refine Ar B5 rfl ?_;refine G1 ?_;intro gg;rw[r1];refine G0 ?_;rw[r2];refine G0 ?_;rw[r1];refine G0 ?_;rw[r3];refine G1 ?_;intro gg;(refine⟨[],none,{k:Nat//k≤4∧∀j,(h:j<4)→j<k→Gx (q.all[j]'h)=false},[3],fun⟨k,hk,h0⟩=>[(4,.v (.int .i64 k))],[672],fun⟨k,hk,h0⟩=>[],fun⟨k,hk,h0⟩=>4-k,trivial,fun _=>⟨trivial,fun _=>⟨⟨0,by omega,fun j _ h=>by omega⟩,tI,Af _ _,tI,Ae _ _⟩⟩,fun⟨k,hk,h0⟩=>?_⟩);refine G0 ?_;(refine Aa (fun g1=>?_) (fun g1=>?_)<;>rw[g1])
    ·have hlt:k<4:=(by have:=ZV g1;omega);have hnx:Gx (q.all[k]'hlt)=false→_:=fun hb=>up1 (n:=4) (p:=fun j h=>Gx (q.all[j]'h)=false) h0 (fun _=>hb);refine G0 ?_;refine⟨k,_,rfl,C5 hlt,?_⟩;refine G0 ?_;refine⟨_,C5 hlt,?_⟩;refine G0 ?_;(refine Aa (fun g2=>?_) (fun g2=>?_)<;>rw[g2])
     ·have he:em (q.all[k]'hlt)=false:=Dr g2;refine G0 ?_;refine⟨k,_,rfl,C5 hlt,?_⟩;refine G0 ?_;refine⟨_,C5 hlt,?_⟩;refine G0 ?_;refine .inl (cX (Eb (q.all[k]'hlt) (hz k hlt)) ?_);refine G1 ?_;intro gg;have hbl:Gx (q.all[k]'hlt)= !lab (q.all[k]'hlt).data.toList:=by unfold Gx;rw[he];rfl
      (refine Aa (fun g3=>?_) (fun g3=>?_)<;>rw[g3])
      ·have hc2:=Qr.c2_at hlt (hbl.trans g3);refine G0 ?_;rw[show q.err=1 by unfold Qr.err;rw[hc1,hc2];rfl];(exact⟨[],aI⟩)
      ·refine G0 ?_;(exact⟨none,trivial,fun _=>⟨⟨k+1,by omega,hnx (hbl.trans g3)⟩,by show 4-(k+1)<4-k;omega,tI,tI,tI,tI⟩⟩)
     ·have he:em (q.all[k]'hlt)=true:=Bw g2;refine G0 ?_;(exact⟨none,trivial,fun _=>⟨⟨k+1,by omega,hnx (by unfold Gx;rw[he];rfl)⟩,by show 4-(k+1)<4-k;omega,tI,tI,tI,tI⟩⟩)
    ·have hge:¬k<4:=(by have:=ZW g1;omega);have hc2:q.c2=false:=Qr.c2_of fun j hj=>h0 j hj (by omega);refine G0 ?_;(refine⟨[],none,{k:Nat//k≤4∧∀j,(h:j<4)→j<k→Ee j (q.all[j]'h)=false},[3],fun⟨k,hk,h0⟩=>[(5,.v (.int .i64 k))],[672],fun⟨k,hk,h0⟩=>[],fun⟨k,hk,h0⟩=>4-k,trivial,fun _=>⟨trivial,fun _=>⟨⟨0,by omega,fun j _ h=>by omega⟩,tI,Af _ _,tI,Ae _ _⟩⟩,fun⟨k,hk,h0⟩=>?_⟩);refine G0 ?_;(refine Aa (fun g1=>?_) (fun g1=>?_)<;>rw[g1])
     ·have hlt:k<4:=(by have:=ZV g1;omega);have hbad:Ee k (q.all[k]'hlt)=true→q.err=7:=fun hb=>by unfold Qr.err;rw[hc1,hc2,Qr.c3_at hlt hb];rfl
      have hnx:Ee k (q.all[k]'hlt)=false→_:=fun hb=>up1 (n:=4) (p:=fun j h=>Ee j (q.all[j]'h)=false) h0 (fun _=>hb);refine G0 ?_;refine⟨k,_,rfl,C5 hlt,?_⟩;refine G0 ?_;refine⟨_,C5 hlt,?_⟩;refine G0 ?_;(refine Aa (fun g2=>?_) (fun g2=>?_)<;>rw[g2])
      ·refine G0 ?_;rw[hbad (by unfold Ee;rw[show((q.all[k]'hlt).toList==Br.toList)=true from g2];rfl)];(exact⟨[],aI⟩)
      ·refine G0 ?_;refine⟨k,_,rfl,C5 hlt,?_⟩;refine G0 ?_;refine⟨_,C5 hlt,?_⟩;refine G0 ?_;(refine Aa (fun g3=>?_) (fun g3=>?_)<;>rw[g3])
       ·refine G0 ?_;rw[hbad (by unfold Ee;rw[show((q.all[k]'hlt).toList==Br.toList)=false from g2,show((q.all[k]'hlt).toList==Cm.toList)=true from g3];rfl)];(exact⟨[],aI⟩)
       ·refine G0 ?_;(refine Aa (fun g4=>?_) (fun g4=>?_)<;>rw[g4])
        ·refine G0 ?_;refine⟨k,_,rfl,C5 hlt,?_⟩;refine G0 ?_;refine⟨_,C5 hlt,?_⟩;refine G0 ?_;have hkb:Ee k (q.all[k]'hlt)=((q.all[k]'hlt).toList==Bc.toList):=by unfold Ee;rw[show((q.all[k]'hlt).toList==Br.toList)=false from g2,show((q.all[k]'hlt).toList==Cm.toList)=false from g3,show((k:Int) !=2)=true from g4];rfl
         (refine Aa (fun g5=>?_) (fun g5=>?_)<;>rw[g5])
         ·refine G0 ?_;rw[hbad (hkb.trans g5)];(exact⟨[],aI⟩)
         ·refine G0 ?_;(exact⟨none,trivial,fun _=>⟨⟨k+1,by omega,hnx (hkb.trans g5)⟩,by show 4-(k+1)<4-k;omega,tI,tI,tI,tI⟩⟩)
        ·refine G0 ?_;(exact⟨none,trivial,fun _=>⟨⟨k+1,by omega,hnx (by unfold Ee;rw[show((q.all[k]'hlt).toList==Br.toList)=false from g2,show((q.all[k]'hlt).toList==Cm.toList)=false from g3,show((k:Int) !=2)=false from g4];rfl)⟩,by show 4-(k+1)<4-k;omega,tI,tI,tI,tI⟩⟩)
     ·have hge:¬k<4:=(by have:=ZW g1;omega);have hc3:q.c3=false:=Qr.c3_of fun j hj=>h0 j hj (by omega);refine G0 ?_;rw[show q.err=0 by unfold Qr.err;rw[hc1,hc2,hc3];rfl];(exact⟨[],aI⟩)
   |false=>
    have r3:(q.tg.toList==(⟨#[]⟩:ByteArray).toList)=false:=e3;have hc1:q.c1=true:=by unfold Qr.c1;rw[e1,e2,e3];rfl
    refine Ar B5 rfl ?_;refine G1 ?_;intro gg;rw[r1];refine G0 ?_;rw[r2];refine G0 ?_;rw[r1];refine G0 ?_;rw[r3];refine G0 ?_;rw[r1];refine G0 ?_;rw[show q.err=1 by unfold Qr.err;rw[hc1];rfl];(exact⟨[],aI⟩)
 |false=>
  have r1:(q.sv.toList==(⟨#[]⟩:ByteArray).toList)=false:=e1;cases e2:em q.nd with
  |true=>
   have r2:(q.nd.toList==(⟨#[]⟩:ByteArray).toList)=true:=e2;have hc1:q.c1=false:=by unfold Qr.c1;rw[e1,e2];rfl
   cases e3:em q.tg with
   |true=>
    have r3:(q.tg.toList==(⟨#[]⟩:ByteArray).toList)=true:=e3;refine Ar B5 rfl ?_;refine G1 ?_;intro gg;rw[r1];refine G0 ?_;rw[r1];refine G0 ?_;rw[r2];refine G0 ?_;rw[r3];refine G1 ?_;intro gg;(refine⟨[],none,{k:Nat//k≤4∧∀j,(h:j<4)→j<k→Gx (q.all[j]'h)=false},[3],fun⟨k,hk,h0⟩=>[(4,.v (.int .i64 k))],[672],fun⟨k,hk,h0⟩=>[],fun⟨k,hk,h0⟩=>4-k,trivial,fun _=>⟨trivial,fun _=>⟨⟨0,by omega,fun j _ h=>by omega⟩,tI,Af _ _,tI,Ae _ _⟩⟩,fun⟨k,hk,h0⟩=>?_⟩);refine G0 ?_;(refine Aa (fun g1=>?_) (fun g1=>?_)<;>rw[g1])
    ·have hlt:k<4:=(by have:=ZV g1;omega);have hnx:Gx (q.all[k]'hlt)=false→_:=fun hb=>up1 (n:=4) (p:=fun j h=>Gx (q.all[j]'h)=false) h0 (fun _=>hb);refine G0 ?_;refine⟨k,_,rfl,C5 hlt,?_⟩;refine G0 ?_;refine⟨_,C5 hlt,?_⟩;refine G0 ?_;(refine Aa (fun g2=>?_) (fun g2=>?_)<;>rw[g2])
     ·have he:em (q.all[k]'hlt)=false:=Dr g2;refine G0 ?_;refine⟨k,_,rfl,C5 hlt,?_⟩;refine G0 ?_;refine⟨_,C5 hlt,?_⟩;refine G0 ?_;refine .inl (cX (Eb (q.all[k]'hlt) (hz k hlt)) ?_);refine G1 ?_;intro gg;have hbl:Gx (q.all[k]'hlt)= !lab (q.all[k]'hlt).data.toList:=by unfold Gx;rw[he];rfl
      (refine Aa (fun g3=>?_) (fun g3=>?_)<;>rw[g3])
      ·have hc2:=Qr.c2_at hlt (hbl.trans g3);refine G0 ?_;rw[show q.err=1 by unfold Qr.err;rw[hc1,hc2];rfl];(exact⟨[],aI⟩)
      ·refine G0 ?_;(exact⟨none,trivial,fun _=>⟨⟨k+1,by omega,hnx (hbl.trans g3)⟩,by show 4-(k+1)<4-k;omega,tI,tI,tI,tI⟩⟩)
     ·have he:em (q.all[k]'hlt)=true:=Bw g2;refine G0 ?_;(exact⟨none,trivial,fun _=>⟨⟨k+1,by omega,hnx (by unfold Gx;rw[he];rfl)⟩,by show 4-(k+1)<4-k;omega,tI,tI,tI,tI⟩⟩)
    ·have hge:¬k<4:=(by have:=ZW g1;omega);have hc2:q.c2=false:=Qr.c2_of fun j hj=>h0 j hj (by omega);refine G0 ?_;(refine⟨[],none,{k:Nat//k≤4∧∀j,(h:j<4)→j<k→Ee j (q.all[j]'h)=false},[3],fun⟨k,hk,h0⟩=>[(5,.v (.int .i64 k))],[672],fun⟨k,hk,h0⟩=>[],fun⟨k,hk,h0⟩=>4-k,trivial,fun _=>⟨trivial,fun _=>⟨⟨0,by omega,fun j _ h=>by omega⟩,tI,Af _ _,tI,Ae _ _⟩⟩,fun⟨k,hk,h0⟩=>?_⟩);refine G0 ?_;(refine Aa (fun g1=>?_) (fun g1=>?_)<;>rw[g1])
     ·have hlt:k<4:=(by have:=ZV g1;omega);have hbad:Ee k (q.all[k]'hlt)=true→q.err=7:=fun hb=>by unfold Qr.err;rw[hc1,hc2,Qr.c3_at hlt hb];rfl
      have hnx:Ee k (q.all[k]'hlt)=false→_:=fun hb=>up1 (n:=4) (p:=fun j h=>Ee j (q.all[j]'h)=false) h0 (fun _=>hb);refine G0 ?_;refine⟨k,_,rfl,C5 hlt,?_⟩;refine G0 ?_;refine⟨_,C5 hlt,?_⟩;refine G0 ?_;(refine Aa (fun g2=>?_) (fun g2=>?_)<;>rw[g2])
      ·refine G0 ?_;rw[hbad (by unfold Ee;rw[show((q.all[k]'hlt).toList==Br.toList)=true from g2];rfl)];(exact⟨[],aI⟩)
      ·refine G0 ?_;refine⟨k,_,rfl,C5 hlt,?_⟩;refine G0 ?_;refine⟨_,C5 hlt,?_⟩;refine G0 ?_;(refine Aa (fun g3=>?_) (fun g3=>?_)<;>rw[g3])
       ·refine G0 ?_;rw[hbad (by unfold Ee;rw[show((q.all[k]'hlt).toList==Br.toList)=false from g2,show((q.all[k]'hlt).toList==Cm.toList)=true from g3];rfl)];(exact⟨[],aI⟩)
       ·refine G0 ?_;(refine Aa (fun g4=>?_) (fun g4=>?_)<;>rw[g4])
        ·refine G0 ?_;refine⟨k,_,rfl,C5 hlt,?_⟩;refine G0 ?_;refine⟨_,C5 hlt,?_⟩;refine G0 ?_;have hkb:Ee k (q.all[k]'hlt)=((q.all[k]'hlt).toList==Bc.toList):=by unfold Ee;rw[show((q.all[k]'hlt).toList==Br.toList)=false from g2,show((q.all[k]'hlt).toList==Cm.toList)=false from g3,show((k:Int) !=2)=true from g4];rfl
         (refine Aa (fun g5=>?_) (fun g5=>?_)<;>rw[g5])
         ·refine G0 ?_;rw[hbad (hkb.trans g5)];(exact⟨[],aI⟩)
         ·refine G0 ?_;(exact⟨none,trivial,fun _=>⟨⟨k+1,by omega,hnx (hkb.trans g5)⟩,by show 4-(k+1)<4-k;omega,tI,tI,tI,tI⟩⟩)
        ·refine G0 ?_;(exact⟨none,trivial,fun _=>⟨⟨k+1,by omega,hnx (by unfold Ee;rw[show((q.all[k]'hlt).toList==Br.toList)=false from g2,show((q.all[k]'hlt).toList==Cm.toList)=false from g3,show((k:Int) !=2)=false from g4];rfl)⟩,by show 4-(k+1)<4-k;omega,tI,tI,tI,tI⟩⟩)
     ·have hge:¬k<4:=(by have:=ZW g1;omega);have hc3:q.c3=false:=Qr.c3_of fun j hj=>h0 j hj (by omega);refine G0 ?_;rw[show q.err=0 by unfold Qr.err;rw[hc1,hc2,hc3];rfl];(exact⟨[],aI⟩)
   |false=>
    have r3:(q.tg.toList==(⟨#[]⟩:ByteArray).toList)=false:=e3;refine Ar B5 rfl ?_;refine G1 ?_;intro gg;rw[r1];refine G0 ?_;rw[r1];refine G0 ?_;rw[r2];refine G0 ?_;rw[r3];refine G0 ?_;rw[r1];refine G1 ?_;intro gg;(refine⟨[],none,{k:Nat//k≤4∧∀j,(h:j<4)→j<k→Gx (q.all[j]'h)=false},[3],fun⟨k,hk,h0⟩=>[(4,.v (.int .i64 k))],[672],fun⟨k,hk,h0⟩=>[],fun⟨k,hk,h0⟩=>4-k,trivial,fun _=>⟨trivial,fun _=>⟨⟨0,by omega,fun j _ h=>by omega⟩,tI,Af _ _,tI,Ae _ _⟩⟩,fun⟨k,hk,h0⟩=>?_⟩);refine G0 ?_;(refine Aa (fun g1=>?_) (fun g1=>?_)<;>rw[g1])
    ·have hlt:k<4:=(by have:=ZV g1;omega);have hnx:Gx (q.all[k]'hlt)=false→_:=fun hb=>up1 (n:=4) (p:=fun j h=>Gx (q.all[j]'h)=false) h0 (fun _=>hb);refine G0 ?_;refine⟨k,_,rfl,C5 hlt,?_⟩;refine G0 ?_;refine⟨_,C5 hlt,?_⟩;refine G0 ?_;(refine Aa (fun g2=>?_) (fun g2=>?_)<;>rw[g2])
     ·have he:em (q.all[k]'hlt)=false:=Dr g2;refine G0 ?_;refine⟨k,_,rfl,C5 hlt,?_⟩;refine G0 ?_;refine⟨_,C5 hlt,?_⟩;refine G0 ?_;refine .inl (cX (Eb (q.all[k]'hlt) (hz k hlt)) ?_);refine G1 ?_;intro gg;have hbl:Gx (q.all[k]'hlt)= !lab (q.all[k]'hlt).data.toList:=by unfold Gx;rw[he];rfl
      (refine Aa (fun g3=>?_) (fun g3=>?_)<;>rw[g3])
      ·have hc2:=Qr.c2_at hlt (hbl.trans g3);refine G0 ?_;rw[show q.err=1 by unfold Qr.err;rw[hc1,hc2];rfl];(exact⟨[],aI⟩)
      ·refine G0 ?_;(exact⟨none,trivial,fun _=>⟨⟨k+1,by omega,hnx (hbl.trans g3)⟩,by show 4-(k+1)<4-k;omega,tI,tI,tI,tI⟩⟩)
     ·have he:em (q.all[k]'hlt)=true:=Bw g2;refine G0 ?_;(exact⟨none,trivial,fun _=>⟨⟨k+1,by omega,hnx (by unfold Gx;rw[he];rfl)⟩,by show 4-(k+1)<4-k;omega,tI,tI,tI,tI⟩⟩)
    ·have hge:¬k<4:=(by have:=ZW g1;omega);have hc2:q.c2=false:=Qr.c2_of fun j hj=>h0 j hj (by omega);refine G0 ?_;(refine⟨[],none,{k:Nat//k≤4∧∀j,(h:j<4)→j<k→Ee j (q.all[j]'h)=false},[3],fun⟨k,hk,h0⟩=>[(5,.v (.int .i64 k))],[672],fun⟨k,hk,h0⟩=>[],fun⟨k,hk,h0⟩=>4-k,trivial,fun _=>⟨trivial,fun _=>⟨⟨0,by omega,fun j _ h=>by omega⟩,tI,Af _ _,tI,Ae _ _⟩⟩,fun⟨k,hk,h0⟩=>?_⟩);refine G0 ?_;(refine Aa (fun g1=>?_) (fun g1=>?_)<;>rw[g1])
     ·have hlt:k<4:=(by have:=ZV g1;omega);have hbad:Ee k (q.all[k]'hlt)=true→q.err=7:=fun hb=>by unfold Qr.err;rw[hc1,hc2,Qr.c3_at hlt hb];rfl
      have hnx:Ee k (q.all[k]'hlt)=false→_:=fun hb=>up1 (n:=4) (p:=fun j h=>Ee j (q.all[j]'h)=false) h0 (fun _=>hb);refine G0 ?_;refine⟨k,_,rfl,C5 hlt,?_⟩;refine G0 ?_;refine⟨_,C5 hlt,?_⟩;refine G0 ?_;(refine Aa (fun g2=>?_) (fun g2=>?_)<;>rw[g2])
      ·refine G0 ?_;rw[hbad (by unfold Ee;rw[show((q.all[k]'hlt).toList==Br.toList)=true from g2];rfl)];(exact⟨[],aI⟩)
      ·refine G0 ?_;refine⟨k,_,rfl,C5 hlt,?_⟩;refine G0 ?_;refine⟨_,C5 hlt,?_⟩;refine G0 ?_;(refine Aa (fun g3=>?_) (fun g3=>?_)<;>rw[g3])
       ·refine G0 ?_;rw[hbad (by unfold Ee;rw[show((q.all[k]'hlt).toList==Br.toList)=false from g2,show((q.all[k]'hlt).toList==Cm.toList)=true from g3];rfl)];(exact⟨[],aI⟩)
       ·refine G0 ?_;(refine Aa (fun g4=>?_) (fun g4=>?_)<;>rw[g4])
        ·refine G0 ?_;refine⟨k,_,rfl,C5 hlt,?_⟩;refine G0 ?_;refine⟨_,C5 hlt,?_⟩;refine G0 ?_;have hkb:Ee k (q.all[k]'hlt)=((q.all[k]'hlt).toList==Bc.toList):=by unfold Ee;rw[show((q.all[k]'hlt).toList==Br.toList)=false from g2,show((q.all[k]'hlt).toList==Cm.toList)=false from g3,show((k:Int) !=2)=true from g4];rfl
         (refine Aa (fun g5=>?_) (fun g5=>?_)<;>rw[g5])
         ·refine G0 ?_;rw[hbad (hkb.trans g5)];(exact⟨[],aI⟩)
         ·refine G0 ?_;(exact⟨none,trivial,fun _=>⟨⟨k+1,by omega,hnx (hkb.trans g5)⟩,by show 4-(k+1)<4-k;omega,tI,tI,tI,tI⟩⟩)
        ·refine G0 ?_;(exact⟨none,trivial,fun _=>⟨⟨k+1,by omega,hnx (by unfold Ee;rw[show((q.all[k]'hlt).toList==Br.toList)=false from g2,show((q.all[k]'hlt).toList==Cm.toList)=false from g3,show((k:Int) !=2)=false from g4];rfl)⟩,by show 4-(k+1)<4-k;omega,tI,tI,tI,tI⟩⟩)
     ·have hge:¬k<4:=(by have:=ZW g1;omega);have hc3:q.c3=false:=Qr.c3_of fun j hj=>h0 j hj (by omega);refine G0 ?_;rw[show q.err=0 by unfold Qr.err;rw[hc1,hc2,hc3];rfl];(exact⟨[],aI⟩)
  |false=>
   have r2:(q.nd.toList==(⟨#[]⟩:ByteArray).toList)=false:=e2;have hc1:q.c1=true:=by unfold Qr.c1;rw[e1,e2];rfl
   refine Ar B5 rfl ?_;refine G1 ?_;intro gg;rw[r1];refine G0 ?_;rw[r1];refine G0 ?_;rw[r2];refine G0 ?_;rw[show q.err=1 by unfold Qr.err;rw[hc1];rfl];(exact⟨[],aI⟩)
theorem Uh(l:List ByteArray)(f:FuncId)(p:ByteArray→Bool)(hl:l.length≤1000)(hf:∀x∈l,Fun Tryz.prog f [.c (.v (.string x))] [.c (.v (.bool (p x)))]):
  Fun Tryz.prog 88 [.o 9 1 (l.map A1),.c (.v (.func (.func f) #[] #[]))] [.o 9 1 ((keep p l).map A1)]:=by
 refine Ar Hh rfl ?_;refine G0 ?_;(refine .inl ⟨_,_,true,[],aI,Abo false l f p (by omega) hf,(fun _=>fI),nI,?_⟩);rcases Ajp (p:=p) (l:=l)with⟨h1,h2⟩|⟨k,hk,h1,h2,h3⟩
 ·rw[h1,Pl.keep_all (p:=p) (l:=l) h2];refine G1 ?_;intro gg;(exact⟨[0],aI⟩)
 ·rw[h1];refine G1 ?_;intro gg;(refine⟨[],none,{q:List ByteArray×Nat×Nat//Ju p l q.1 q.2.1 q.2.2},[0,1,36,37,39,40,41],fun⟨⟨l',i,j⟩,hm⟩=>[(5,.v (.int .i64 i)),(6,.v (.int .i64 j))],[],fun⟨⟨l',i,j⟩,hm⟩=>[(0,⟨0,9,1,l'.map A1⟩)],fun⟨⟨l',i,j⟩,hm⟩=>l.length-j,trivial,fun _=>⟨trivial,fun _=>⟨⟨(l,k,k+1),Ju.start hk h2 h3⟩,tI,Af _ _,tI,Ae _ _⟩⟩,fun⟨⟨l',i,j⟩,hm⟩=>?_⟩);refine G0 ?_;have hm:Ju p l l' i j:=hm;have hlen:l'.length=l.length:=hm.len;(refine Aa (fun h=>?_) (fun h=>?_)<;>rw[h])
  ·have hlt:j<l'.length:=by have:=ZV h;simpa using this
   refine G0 ?_;refine⟨j,_,rfl,Ad hlt,?_⟩;refine G0 ?_;have hj:j<l.length:=by omega
   have hx:l'[j]=l[j]:=hm.behind j hj (ZT _);rw[hx];refine .inl (cX (hf _ (ZK hj)) ?_);refine G1 ?_;intro gg;(refine Aa (fun h4=>?_) (fun h4=>?_)<;>rw[h4])
   ·have h4':p l[j]=false:=Dr h4;have hi:i<l'.length:=by have:=hm.ij;omega
    refine G0 ?_;refine⟨i,_,rfl,Ad hi,?_⟩;refine G0 ?_;have e:(l'.map A1).set i (A1 l[j])=(l'.set i l[j]).map A1:=List.map_set.symm;exact⟨none,trivial,fun gr=>⟨⟨(l'.set i l[j],i+1,j+1),hm.stays hj h4'⟩,by show l.length-(j+1)<l.length-j;omega,tI,tI,⟨congrArg (fun r=>some (Ent.mk 0 9 1 r)) e,trivial⟩,tI⟩⟩
   ·have h4':p l[j]=true:=Bw h4;refine G0 ?_;(exact⟨none,trivial,fun _=>⟨⟨(l',i,j+1),hm.gone hj h4'⟩,by show l.length-(j+1)<l.length-j;omega,tI,tI,tI,tI⟩⟩)
  ·have hge:¬j<l'.length:=by have:=ZW h;simpa using this
   have hi:i≤l'.length:=by have:=hm.ij;have:=hm.jl;omega
   refine G0 ?_;refine⟨1,i,(l'.map A1).length,rfl,⟨_,rfl⟩,rfl,by simpa using hi,ZT _,?_⟩;refine G0 ?_;refine⟨by simpa using hi,ZT _,?_⟩;refine G0 ?_;refine⟨0,0,i,rfl,rfl,⟨_,rfl⟩,ZU _,?_,rfl,rfl,fun g=>?_⟩
   ·show i≤((l'.map A1).take i++List.replicate ((l'.map A1).length-i) _++(l'.map A1).drop (l'.map A1).length).length;simp only[ZF,ZM,ZE,List.length_replicate];omega
   refine G0 ?_;refine⟨[0],Afr rfl rfl rfl rfl rfl Dy ?_⟩;show((l'.map A1).take i++List.replicate ((l'.map A1).length-i) _++(l'.map A1).drop (l'.map A1).length).take i=(keep p l).map A1;rw[ZS,List.take_append_of_le_length (by simp;omega),List.take_take,Nat.min_self,←hm.fin (by omega),List.map_take]
section
open Go.Shelf
def Tryz.lays156_ren:Go.Shelf.Ren:=⟨fun|156=>87|165=>118|166=>110|169=>74|240=>130|241=>133|276=>142|277=>144|n=>n,fun|31=>67|9=>9|3=>3|4=>4|0=>0|20=>20|72=>118|76=>155|70=>115|37=>116|75=>153|127=>157|164=>173|5=>5|80=>110|n=>n,fun|n=>n⟩
theorem Tryz.lays156:Go.Proofs.Lays.n156 Tryz.prog Tryz.lays156_ren:={
 mixed:=by kernel_rfl
 f156:=Tryz.func87.trans (congrArg some (by kernel_rfl))
 f165:=Tryz.func118.trans (congrArg some (by kernel_rfl))
 f166:=Tryz.func110.trans (congrArg some (by kernel_rfl))
 f169:=Tryz.func74.trans (congrArg some (by kernel_rfl))
 f240:=Tryz.func130.trans (congrArg some (by kernel_rfl))
 f241:=Tryz.func133.trans (congrArg some (by kernel_rfl))
 f276:=Tryz.func142.trans (congrArg some (by kernel_rfl))
 f277:=Tryz.func144.trans (congrArg some (by kernel_rfl))
 t0:=Tryz.underlying0
 a0:=Tryz.isAgg0
 z0:=Tryz.sizeOf0
 v0:=Tryz.zeroValue0
 t3:=Tryz.underlying3
 a3:=Tryz.isAgg3
 z3:=Tryz.sizeOf3
 v3:=Tryz.zeroValue3
 t4:=Tryz.underlying4
 a4:=Tryz.isAgg4
 z4:=Tryz.sizeOf4
 v4:=Tryz.zeroValue4
 t9:=Tryz.underlying9
 a9:=Tryz.isAgg9
 z9:=Tryz.sizeOf9
 v9:=Tryz.zeroValue9
 t20:=Tryz.underlying20
 a20:=Tryz.isAgg20
 z20:=Tryz.sizeOf20
 v20:=Tryz.zeroValue20
 t31:=Tryz.underlying67
 a31:=Tryz.isAgg67
 z31:=Tryz.sizeOf67
 v31:=Tryz.zeroValue67
 t37:=Tryz.underlying116
 a37:=Tryz.isAgg116
 z37:=Tryz.sizeOf116
 v37:=Tryz.zeroValue116
 t70:=Tryz.underlying115
 a70:=Tryz.isAgg115
 z70:=Tryz.sizeOf115
 v70:=Tryz.zeroValue115
 t72:=Tryz.underlying118
 a72:=Tryz.isAgg118
 z72:=Tryz.sizeOf118
 v72:=Tryz.zeroValue118
 t75:=Tryz.underlying153
 a75:=Tryz.isAgg153
 z75:=Tryz.sizeOf153
 v75:=Tryz.zeroValue153
 t76:=Tryz.underlying155
 a76:=Tryz.isAgg155
 z76:=Tryz.sizeOf155
 v76:=Tryz.zeroValue155
 t127:=Tryz.underlying157
 a127:=Tryz.isAgg157
 z127:=Tryz.sizeOf157
 v127:=Tryz.zeroValue157
 t164:=Tryz.underlying173
 a164:=Tryz.isAgg173
 z164:=Tryz.sizeOf173
 v164:=Tryz.zeroValue173}
theorem Tryz.Builder_Extra_156:Builder.Extra Tryz.prog Tryz.lays156_ren:={
 sizeBuilder:=by kernel_rfl
 liesBuilder:=by kernel_rfl
 t5:=Tryz.underlying5
 a5:=Tryz.isAgg5
 z5:=Tryz.sizeOf5
 v5:=Tryz.zeroValue5
 infoByte:=by kernel_rfl
 cellsByte:=by kernel_rfl
 sizeByte:=by kernel_rfl
 neB5:=by decide}
end
def Df(sep:ByteArray)(xs:List ByteArray):ByteArray:=⟨(Lib.join (xs.map (·.data.toList)) sep.data.toList).toArray⟩
theorem Vf(cl:Bool)(xs:List ByteArray)(sep:ByteArray)(hN:xs.length≤140737488355328)(hlen:(Df sep xs).size≤140737488355328):
  Fun Tryz.prog 87 [.c (.sl cl (xs.map A1)),.c (.v (.string sep))] [.c (.v (.string (Df sep xs)))]:=by
 refine⟨Fb Tryz.func87 (by kernel_rfl) (by kernel_rfl),fun w R ys hlt hp=>?_⟩;have fin:∀w',Fr (A2 [.c (.sl cl (xs.map A1)),.c (.v (.string sep))] ys) w w'→∃(zs:List Value) (R':Nat→Prop),Ending.returned (Value.string (Df sep xs))=.returned (G7 zs)∧Fr (A2 [.c (.sl cl (xs.map A1)),.c (.v (.string sep))] ys) w w'∧(∀b,R b→R' b)∧
   (∀b,R' b→R b∨(b<w'.heap.size∧(A2 [.c (.sl cl (xs.map A1)),.c (.v (.string sep))] ys b∨w.heap.size≤b)))∧Kx w' R' [.c (.v (.string (Df sep xs)))] zs∧(∀b,A2 [.c (.v (.string (Df sep xs)))] zs b→A2 [.c (.sl cl (xs.map A1)),.c (.v (.string sep))] ys b∨w.heap.size≤b):=fun w' hfr=>by
  refine⟨[.string (Df sep xs)],R,rfl,hfr,fun _ h=>h,fun b h=>.inl h,⟨rfl,?_,?_,?_⟩,?_⟩
  ·intro i p x h1 h2;cases i with
   |zero=>simp at h1 h2;subst h1 h2;exact .v _
   |succ i=>simp at h1
  ·intro i j T sz rows T' sz' rows' x y b _ h1;cases i with
   |zero=>simp at h1
   |succ i=>simp at h1
  ·intro b hb;exact absurd hb (Mr fun p hp=>by simp at hp;exact⟨_,hp⟩)
  ·intro b hb;exact absurd hb (Mr fun p hp=>by simp at hp;exact⟨_,hp⟩)
 have hl:=hp.len
 match ys,hl,hp,fin with
 |[y0,y1],_,hp,fin=>
  have h0:RV w R noG (.sl cl (xs.map A1)) y0:=hp.ok 0 _ _ rfl rfl;have h1:RV w R noG (.v (.string sep)) y1:=hp.ok 1 _ _ rfl rfl;have e1:=Ce h1;subst e1;have hnone:∀(a:Option Addr) (cap:Nat),xs=[]→y0=.slice a 0 cap→Calls Tryz.prog 87 [y0,.string sep].toArray w fun e w'=>∃(zs:List Value) (R':Nat→Prop),e=.returned (G7 zs)∧Fr (A2 [.c (.sl cl (xs.map A1)),.c (.v (.string sep))] [y0,.string sep]) w w'∧(∀b,R b→R' b)∧
   (∀b,R' b→R b∨(b<w'.heap.size∧(A2 [.c (.sl cl (xs.map A1)),.c (.v (.string sep))] [y0,.string sep] b∨w.heap.size≤b)))∧Kx w' R' [.c (.v (.string (Df sep xs)))] zs∧(∀b,A2 [.c (.v (.string (Df sep xs)))] zs b→A2 [.c (.sl cl (xs.map A1)),.c (.v (.string sep))] [y0,.string sep] b∨w.heap.size≤b):=fun a cap hx hy=>by
   have h:=Any.strings_Join_none Tryz.lays156 Tryz.Builder_Extra_156 a cap sep w;change Calls Tryz.prog 87 _ w _ at h;rw[←hy]at h;refine h.mono ?_
   rintro e w' ⟨rfl,rfl⟩
   have e2:Df sep xs=⟨#[]⟩:=by rw[hx];rfl
   rw[←e2];exact fin w' (Fr.refl _ _)
  obtain⟨rows,hr'⟩:∃rows,rows=xs.map A1:=⟨_,rfl⟩;rw[←hr']at h0;have hr:=hr'.symm;clear hr';have hlen0:rows.length=xs.length:=by rw[←hr];simp
  cases h0 with
  |nil clip a cap hc=>
   exact hnone a cap (by simpa using hr) rfl
  |sl clip rows b off cap sz f hR hcap hclip hs hcell hh=>
   by_cases hx:xs=[]
   ·exact hnone _ cap hx (by rw[hlen0,hx];rfl)
   ·have hsz:sz=1:=by
     obtain⟨x,xs',rfl⟩:=List.exists_cons_of_ne_nil hx;exact(hs (A1 x) (by rw[←hr];simp)).symm
    subst hsz;have h:=Any.strings_Join Tryz.lays156 Tryz.Builder_Extra_156 b off cap xs sep w (fun j x hj=>by
     have hrow:rows[j]? =some (A1 x):=by rw[←hr,XJ,hj];rfl
     have h2:=hcell j 0 (A1 x) (.v (.string x)) hrow rfl;rw[Ce (hh j 0 (A1 x) (.v (.string x)) hrow rfl)]at h2;rw[←h2,Nat.mul_one,Nat.add_zero]) (hlt b hR) hN (by omega) (by
      have:(Df sep xs).size=(Lib.join (xs.map (·.data.toList)) sep.data.toList).length:=by
       show(Lib.join (xs.map (·.data.toList)) sep.data.toList).toArray.size=_;simp
      omega)
    change Calls Tryz.prog 87 _ w _ at h;rw[←hlen0]at h;refine h.mono ?_
    rintro e w' ⟨rfl,hb⟩
    exact fin w' (Xf hb)
namespace Pl
def dot:ByteArray:=⟨#[46]⟩
def Uj:ByteArray:=⟨#[46,110,111,100,101,46]⟩
def Jl:ByteArray:=⟨#[46,115,101,114,118,105,99,101,46]⟩
def Qr.base(q:Qr):ByteArray:=bif em q.nd then(bif em q.tg then q.sv++Jl else(q.tg++dot)++(q.sv++Jl))else q.nd++Uj
def Qr.pr(q:Qr):ByteArray:=(bif em q.ce then q.base else q.base++(q.ce++dot))++Bc
def Qr.words(q:Qr):List ByteArray:=bif em q.nd then [q.tg,q.sv,Br,q.ce,Bc]else [q.nd,Cm,q.ce,Bc]
theorem Sd{a b:ByteArray}(h:a.data.toList=b.data.toList):a=b:=by
 obtain⟨a⟩:=a;obtain⟨b⟩:=b;congr 1;exact Array.ext' h
theorem Abl(a b:ByteArray):(a++b).data.toList=a.data.toList++b.data.toList:=by simp[ByteArray.data_append]
theorem Jq{x:ByteArray}:em x=true↔x=⟨#[]⟩:=by
 unfold em;rw[ZR];exact⟨fun h=>toList_inj h,fun h=>by rw[h]⟩
theorem Y5{x:ByteArray}(h:x.size≠0):em x=false:=by
 cases q:em x with
 |false=>rfl
 |true=>rw[Jq]at q;exact absurd (congrArg ByteArray.size q) h
theorem Aqd{x:ByteArray}(h:lab x.data.toList=true):x.size≤30:=by
 unfold lab at h;simp at h;have:x.data.toList.length=x.size:=by rw[Array.length_toList];rfl
 omega
structure Qr.small(q:Qr):Prop where
 sv:q.sv.size≤30
 tg:q.tg.size≤30
 nd:q.nd.size≤30
 ce:q.ce.size≤30
theorem Qy{q:Qr}(h:q.err=0):q.small∧(em q.sv==em q.nd)=false∧(em q.sv=true→em q.tg=true):=by
 unfold Qr.err at h;cases h1:q.c1 with
 |true=>rw[h1]at h;cases h
 |false=>
  cases h2:q.c2 with
  |true=>rw[h1,h2]at h;cases h
  |false=>
   have key:∀x∈q.all,x.size≤30:=fun x hx=>by
    have:=List.any_eq_false.1 h2 x hx;unfold Gx at this;cases he:em x with
    |true=>rw[Jq.1 he];decide
    |false=>rw[he]at this;exact Aqd (by simpa using this)
   refine⟨⟨key _ (by simp[Qr.all]),key _ (by simp[Qr.all]),key _ (by simp[Qr.all]),key _ (by simp[Qr.all])⟩,?_,?_⟩
   ·unfold Qr.c1 at h1;cases q1:(em q.sv==em q.nd)with
    |true=>rw[q1]at h1;cases h1
    |false=>rfl
   ·intro q2;unfold Qr.c1 at h1;cases q1:(em q.sv==em q.nd)with
    |true=>rw[q1]at h1;cases h1
    |false=>rw[q1,q2]at h1;simpa using h1
theorem Ana{q:Qr}(h:q.err=0):Df dot (keep em q.words)=q.pr:=by
 obtain⟨_,h1,h2⟩:=Qy h;have es:em Br=false:=Y5 (by decide);have en:em Cm=false:=Y5 (by decide);have emm:em Bc=false:=Y5 (by decide);apply Sd;unfold Qr.words Qr.pr Qr.base Df keep;cases hn:em q.nd with
 |false=>
  cases hc:em q.ce<;>simp only[cond_false,cond_true,List.filter_cons,List.filter_nil,hn,hc,en,emm,Bool.not_false,Bool.not_true,if_true,Bool.false_eq_true,if_false]<;>simp[Lib.join,List.intercalate,Abl,dot,Uj,Cm,Bc]
 |true=>
  have hs:em q.sv=false:=by rw[hn]at h1;simpa using h1
  cases hc:em q.ce<;>cases ht:em q.tg<;>simp only[cond_false,cond_true,List.filter_cons,List.filter_nil,hs,hc,ht,es,emm,Bool.not_false,Bool.not_true,if_true,Bool.false_eq_true,if_false]<;>simp[Lib.join,List.intercalate,Abl,dot,Jl,Br,Bc]
theorem Ae9{q:Qr}(h:q.err=0):q.pr.size≤200:=by
 have hs:=(Qy h).1;have h1:=hs.sv;have h2:=hs.tg;have h3:=hs.nd;have h4:=hs.ce;have e1:dot.size=1:=rfl;have e2:Jl.size=9:=rfl;have e3:Uj.size=6:=rfl;have e4:Bc.size=4:=rfl;unfold Qr.pr Qr.base;cases em q.nd<;>cases em q.tg<;>cases em q.ce<;>simp only[cond_true,cond_false,XP,e1,e2,e3,e4]<;>omega
def Ah(q:Qr):ByteArray×Int:=if q.err≠0 then(⟨#[]⟩,q.err)else if Ao q.pr≠0 then(⟨#[]⟩,Ao q.pr)else(q.pr,0)
theorem Z3{q:Qr}(h:q.err≠0):Ah q=(⟨#[]⟩,q.err):=by simp[Ah,h]
theorem Ga{q:Qr}(h:q.err=0)(h2:Ao q.pr≠0):Ah q=(⟨#[]⟩,Ao q.pr):=by simp[Ah,h,h2]
theorem Hy{q:Qr}(h:q.err=0)(h2:Ao q.pr=0):Ah q=(q.pr,0):=by simp[Ah,h,h2]
end Pl
theorem An9(x:ByteArray):Fun Tryz.prog 89 [.c (.v (.string x))] [.c (.v (.bool (em x)))]:=by
 refine Ar Tr rfl ?_;refine G0 ?_;(exact⟨[],aI⟩)
def fP1:FuncId:=89
theorem Agb(q:Qr)(h:q.err=0):Fun Tryz.prog 48 [.c (.agg q.row)] [.c (.v (.string q.pr))]:=by
 have hj:=Ana h;have hsz:=Ae9 h;have hk:∀l:List ByteArray,l.length≤5→(keep em l).length≤140737488355328:=fun l hl=>XI (List.length_filter_le _ _) (by omega);rw[←hj]at hsz ⊢;refine Ar W3 rfl ?_;refine G1 ?_;intro gg;(refine Aa (fun h1=>?_) (fun h1=>?_)<;>rw[h1])
 ·have e:q.words=[q.nd,Cm,q.ce,Bc]:=by
   have:em q.nd=false:=Dr h1;unfold Qr.words;rw[this];rfl
  rw[e]at hsz ⊢;(refine goI ?_;repeat (intro gg;refine goI ?_));refine⟨by simp[maxLen],by simp,?_⟩;refine G1 ?_;intro gg;(refine .inl ⟨_,_,true,[144],aI,Uh [q.nd,Cm,q.ce,Bc] fP1 em (by simp) (fun x _=>An9 x),(fun _=>fI),nI,?_⟩);refine G1 ?_;intro gg;(refine .inl ⟨_,_,true,[],aI,Vf false (keep em [q.nd,Cm,q.ce,Bc]) dot (hk _ (by simp)) (by omega),(fun _=>fI),nI,?_⟩);refine G1 ?_;intro gg;(exact⟨[],aI⟩)
 ·have e:q.words=[q.tg,q.sv,Br,q.ce,Bc]:=by
   have:em q.nd=true:=Bw h1;unfold Qr.words;rw[this];rfl
  rw[e]at hsz ⊢;(refine goI ?_;repeat (intro gg;refine goI ?_));refine⟨by simp[maxLen],by simp,?_⟩;refine G1 ?_;intro gg;(refine .inl ⟨_,_,true,[224],aI,Uh [q.tg,q.sv,Br,q.ce,Bc] fP1 em (by simp) (fun x _=>An9 x),(fun _=>fI),nI,?_⟩);refine G1 ?_;intro gg;(refine .inl ⟨_,_,true,[],aI,Vf false (keep em [q.tg,q.sv,Br,q.ce,Bc]) dot (hk _ (by simp)) (by omega),(fun _=>fI),nI,?_⟩);refine G1 ?_;intro gg;(exact⟨[],aI⟩)
theorem Ev(q:Qr)(hq:q.ok):Fun Tryz.prog 21 [.c (.agg q.row)] [.c (.v (.string (Ah q).1)),.c (.v (.int .i64 (Ah q).2))]:=by
 refine Ar Abd rfl ?_;refine G1 ?_;intro gg;refine .inl (cX (Abb q hq) ?_);refine G1 ?_;intro gg;(refine Aa (fun h1=>?_) (fun h1=>?_)<;>rw[h1])
 ·have h1':q.err≠0:=by simpa using h1
  rw[Z3 h1'];refine G0 ?_;(exact⟨[],aI⟩)
 ·have h1':q.err=0:=by simpa using h1
  have hsz:=Ae9 h1';refine G0 ?_;refine .inl (cX (Agb q h1') ?_);refine G1 ?_;intro gg;(refine .inl ⟨_,_,false,[],aI,N9 q.pr (by omega),Ab,nI,?_⟩);refine G1 ?_;intro gg;(refine Aa (fun h2=>?_) (fun h2=>?_)<;>rw[h2])
  ·have h2':Ao q.pr≠0:=by simpa using h2
   rw[Ga h1' h2'];refine G0 ?_;(exact⟨[],aI⟩)
  ·have h2':Ao q.pr=0:=by simpa using h2
   rw[Hy h1' h2'];refine G0 ?_;(exact⟨[],aI⟩)
theorem Ks(q:Qr)(hq:q.ok):Fun Tryz.prog 27 [.c (.agg q.row)] [.c (.v (.string (Ah q).1)),.c (.v (.int .i64 (Ah q).2))]:=by
 refine Ar Pt rfl ?_;refine G1 ?_;intro gg;refine .inl (cX (Pd q hq) ?_);refine G1 ?_;intro gg;(refine Aa (fun h1=>?_) (fun h1=>?_)<;>rw[h1])
 ·have h1':q.err≠0:=by simpa using h1
  rw[Z3 h1'];refine G0 ?_;(exact⟨[],aI⟩)
 ·have h1':q.err=0:=by simpa using h1
  have hsz:=Ae9 h1';have hs:=(Qy h1').1;have k1:=hs.sv;have k2:=hs.tg;have k3:=hs.nd;have k4:=hs.ce;have e1:dot.size=1:=rfl;have e2:Jl.size=9:=rfl;have e3:Uj.size=6:=rfl;have e4:Bc.size=4:=rfl;refine G0 ?_;refine⟨by show((q.nd.size+6:Nat):Int)≤_;omega,?_⟩;refine G0 ?_;(refine Aa (fun h2=>?_) (fun h2=>?_)<;>rw[h2])
  ·have h2':em q.nd=true:=h2;refine G0 ?_;refine⟨by show((q.sv.size+9:Nat):Int)≤_;omega,?_⟩;refine G0 ?_;(refine Aa (fun h3=>?_) (fun h3=>?_)<;>rw[h3])
   ·have h3':em q.tg=false:=Dr h3;refine G0 ?_;refine⟨by show((q.tg.size+1:Nat):Int)≤_;omega,?_⟩;refine G0 ?_;refine⟨by show(((q.tg++dot).size+(q.sv++Jl).size:Nat):Int)≤_;simp only[XP,e1,e2,e3];omega,?_⟩;refine G0 ?_;(refine Aa (fun h5=>?_) (fun h5=>?_)<;>rw[h5])
    ·have h5':em q.ce=false:=Dr h5;have e:q.pr=(((q.tg++dot)++(q.sv++Jl))++(q.ce++dot))++Bc:=by unfold Qr.pr Qr.base;rw[h5',h2',h3'];rfl
     refine G0 ?_;refine⟨by show((q.ce.size+1:Nat):Int)≤_;omega,?_⟩;refine G0 ?_;refine⟨by show((((q.tg++dot)++(q.sv++Jl)).size+(q.ce++dot).size:Nat):Int)≤_;simp only[XP,e1,e2,e3];omega,?_⟩;refine G0 ?_;refine⟨by show(((((q.tg++dot)++(q.sv++Jl))++(q.ce++dot)).size+4:Nat):Int)≤_;simp only[XP,e1,e2,e3];omega,?_⟩;have hc:=Ck q.pr (by omega);rw[e]at hc;refine G0 ?_;refine .inl (cX hc ?_);rw[←e];refine G1 ?_;intro gg;(refine Aa (fun h6=>?_) (fun h6=>?_)<;>rw[h6])
     ·have h6':Ao q.pr≠0:=by simpa using h6
      rw[Ga h1' h6'];refine G0 ?_;(exact⟨[],aI⟩)
     ·have h6':Ao q.pr=0:=by simpa using h6
      rw[Hy h1' h6',e];refine G0 ?_;(exact⟨[],aI⟩)
    ·have h5':em q.ce=true:=Bw h5;have e:q.pr=((q.tg++dot)++(q.sv++Jl))++Bc:=by unfold Qr.pr Qr.base;rw[h5',h2',h3'];rfl
     refine G0 ?_;refine⟨by show((((q.tg++dot)++(q.sv++Jl)).size+4:Nat):Int)≤_;simp only[XP,e1,e2,e3];omega,?_⟩;have hc:=Ck q.pr (by omega);rw[e]at hc;refine G0 ?_;refine .inl (cX hc ?_);rw[←e];refine G1 ?_;intro gg;(refine Aa (fun h6=>?_) (fun h6=>?_)<;>rw[h6])
     ·have h6':Ao q.pr≠0:=by simpa using h6
      rw[Ga h1' h6'];refine G0 ?_;(exact⟨[],aI⟩)
     ·have h6':Ao q.pr=0:=by simpa using h6
      rw[Hy h1' h6',e];refine G0 ?_;(exact⟨[],aI⟩)
   ·have h3':em q.tg=true:=Bw h3;refine G0 ?_;(refine Aa (fun h5=>?_) (fun h5=>?_)<;>rw[h5])
    ·have h5':em q.ce=false:=Dr h5;have e:q.pr=((q.sv++Jl)++(q.ce++dot))++Bc:=by unfold Qr.pr Qr.base;rw[h5',h2',h3'];rfl
     refine G0 ?_;refine⟨by show((q.ce.size+1:Nat):Int)≤_;omega,?_⟩;refine G0 ?_;refine⟨by show(((q.sv++Jl).size+(q.ce++dot).size:Nat):Int)≤_;simp only[XP,e1,e2,e3];omega,?_⟩;refine G0 ?_;refine⟨by show((((q.sv++Jl)++(q.ce++dot)).size+4:Nat):Int)≤_;simp only[XP,e1,e2,e3];omega,?_⟩;have hc:=Ck q.pr (by omega);rw[e]at hc;refine G0 ?_;refine .inl (cX hc ?_);rw[←e];refine G1 ?_;intro gg;(refine Aa (fun h6=>?_) (fun h6=>?_)<;>rw[h6])
     ·have h6':Ao q.pr≠0:=by simpa using h6
      rw[Ga h1' h6'];refine G0 ?_;(exact⟨[],aI⟩)
     ·have h6':Ao q.pr=0:=by simpa using h6
      rw[Hy h1' h6',e];refine G0 ?_;(exact⟨[],aI⟩)
    ·have h5':em q.ce=true:=Bw h5;have e:q.pr=(q.sv++Jl)++Bc:=by unfold Qr.pr Qr.base;rw[h5',h2',h3'];rfl
     refine G0 ?_;refine⟨by show(((q.sv++Jl).size+4:Nat):Int)≤_;simp only[XP,e1,e2,e3];omega,?_⟩;have hc:=Ck q.pr (by omega);rw[e]at hc;refine G0 ?_;refine .inl (cX hc ?_);rw[←e];refine G1 ?_;intro gg;(refine Aa (fun h6=>?_) (fun h6=>?_)<;>rw[h6])
     ·have h6':Ao q.pr≠0:=by simpa using h6
      rw[Ga h1' h6'];refine G0 ?_;(exact⟨[],aI⟩)
     ·have h6':Ao q.pr=0:=by simpa using h6
      rw[Hy h1' h6',e];refine G0 ?_;(exact⟨[],aI⟩)
  ·have h2':em q.nd=false:=h2;refine G0 ?_;(refine Aa (fun h5=>?_) (fun h5=>?_)<;>rw[h5])
   ·have h5':em q.ce=false:=Dr h5;have e:q.pr=((q.nd++Uj)++(q.ce++dot))++Bc:=by unfold Qr.pr Qr.base;rw[h5',h2'];rfl
    refine G0 ?_;refine⟨by show((q.ce.size+1:Nat):Int)≤_;omega,?_⟩;refine G0 ?_;refine⟨by show(((q.nd++Uj).size+(q.ce++dot).size:Nat):Int)≤_;simp only[XP,e1,e2,e3];omega,?_⟩;refine G0 ?_;refine⟨by show((((q.nd++Uj)++(q.ce++dot)).size+4:Nat):Int)≤_;simp only[XP,e1,e2,e3];omega,?_⟩;have hc:=Ck q.pr (by omega);rw[e]at hc;refine G0 ?_;refine .inl (cX hc ?_);rw[←e];refine G1 ?_;intro gg;(refine Aa (fun h6=>?_) (fun h6=>?_)<;>rw[h6])
    ·have h6':Ao q.pr≠0:=by simpa using h6
     rw[Ga h1' h6'];refine G0 ?_;(exact⟨[],aI⟩)
    ·have h6':Ao q.pr=0:=by simpa using h6
     rw[Hy h1' h6',e];refine G0 ?_;(exact⟨[],aI⟩)
   ·have h5':em q.ce=true:=Bw h5;have e:q.pr=(q.nd++Uj)++Bc:=by unfold Qr.pr Qr.base;rw[h5',h2'];rfl
    refine G0 ?_;refine⟨by show(((q.nd++Uj).size+4:Nat):Int)≤_;simp only[XP,e1,e2,e3];omega,?_⟩;have hc:=Ck q.pr (by omega);rw[e]at hc;refine G0 ?_;refine .inl (cX hc ?_);rw[←e];refine G1 ?_;intro gg;(refine Aa (fun h6=>?_) (fun h6=>?_)<;>rw[h6])
    ·have h6':Ao q.pr≠0:=by simpa using h6
     rw[Ga h1' h6'];refine G0 ?_;(exact⟨[],aI⟩)
    ·have h6':Ao q.pr=0:=by simpa using h6
     rw[Hy h1' h6',e];refine G0 ?_;(exact⟨[],aI⟩)
namespace Pl
theorem Ai3{c:UInt8}:∀{x y A B:List UInt8},c∉x→c∉y→x++c::A=y++c::B→x=y∧A=B
 |[],[],A,B,_,_,h=>⟨rfl,by simpa using h⟩
 |[],b::y,A,B,_,hy,h=>by
  simp at h hy;exact absurd h.1 hy.1
 |a::x,[],A,B,hx,_,h=>by
  simp at h hx;exact absurd h.1.symm hx.1
 |a::x,b::y,A,B,hx,hy,h=>by
  simp only[List.cons_append,List.cons.injEq]at h;obtain⟨h1,h2⟩:=Ai3 (fun q=>hx (ZL _ q)) (fun q=>hy (ZL _ q)) h.2;exact⟨by rw[h.1,h1],h2⟩
theorem Nu(x y:List UInt8)(r:List (List UInt8))(c:UInt8):Lib.join (x::y::r) [c]=x++c::Lib.join (y::r) [c]:=by
 simp[Lib.join,List.intercalate]
theorem Ai0{c:UInt8}:∀{xs ys:List (List UInt8)},xs≠[]→ys≠[]→(∀x∈xs,c∉x)→(∀y∈ys,c∉y)→Lib.join xs [c]=Lib.join ys [c]→xs=ys
 |[],_,h,_,_,_,_=>absurd rfl h
 |_,[],_,h,_,_,_=>absurd rfl h
 |[x],[y],_,_,_,_,h=>by rw[Lib.join_one,Lib.join_one]at h;rw[h]
 |[x],y::y'::r,_,_,hx,_,h=>by
  rw[Lib.join_one,Nu]at h;exact absurd (by rw[h];simp) (hx x (by simp))
 |x::x'::r,[y],_,_,_,hy,h=>by
  rw[Lib.join_one,Nu]at h;exact absurd (by rw[←h];simp) (hy y (by simp))
 |x::x'::r,y::y'::r',_,_,hx,hy,h=>by
  rw[Nu,Nu]at h;obtain⟨h1,h2⟩:=Ai3 (hx x (by simp)) (hy y (by simp)) h;rw[h1,Ai0 (by simp) (by simp) (fun z hz=>hx z (ZL _ hz)) (fun z hz=>hy z (ZL _ hz)) h2]
theorem Agi{x:List UInt8}(h:lab x=true):(46:UInt8)∉x:=fun hm=>by
 unfold lab at h;rw[ZO]at h;have:=List.all_eq_true.1 h.1 _ hm;exact absurd this (by decide)
theorem Ad8(c:UInt8)(s:ByteArray):∀i,i≤s.size→((Eg c s i).1.map fun x=>x.data.toList++[c]).flatten=s.data.toList.take (Eg c s i).2
 |0,_=>by simp[Eg]
 |i+1,h=>by
  have ih:=Ad8 c s i (by omega);have hle:=(Aie c s (i:=i) (by omega)).2;unfold Eg;split
  ·rename_i hc;rw[ZI,List.flatten_append,ih];simp only[List.map_cons,List.map_nil,List.flatten_cons,List.flatten_nil,List.append_nil];rw[D3,XT,hc];have:s.data.toList.take (Eg c s i).2++(s.data.toList.take i).drop (Eg c s i).2=s.data.toList.take i:=by
    have e:(s.data.toList.take i).take (Eg c s i).2=s.data.toList.take (Eg c s i).2:=by rw[List.take_take,Nat.min_eq_left hle]
    rw[←e,List.take_append_drop]
   rw[←ZS,this];rfl
  ·exact ih
theorem Ado(c:UInt8)(y:List UInt8):∀xs:List (List UInt8),Lib.join (xs++[y]) [c]=(xs.map fun x=>x++[c]).flatten++y
 |[]=>by simp[Lib.join_one]
 |[x]=>by rw[List.singleton_append,Nu,Lib.join_one];simp
 |x::x'::r=>by
  have ih:=Ado c y (x'::r);rw[List.cons_append,List.cons_append,Nu,←List.cons_append,ih];simp
theorem Ahd(s:ByteArray):Df dot (Ci 46 s)=s:=by
 apply Sd;rw[←Ahg];show(Lib.join (((Eg 46 s s.size).1++[s.extract (Eg 46 s s.size).2 s.size]).map (·.data.toList)) [46]).toArray.toList=_;rw[ZI];have h:=Ado 46 (s.extract (Eg 46 s s.size).2 s.size).data.toList ((Eg 46 s s.size).1.map (·.data.toList));have h2:=Ad8 46 s s.size (ZT _);simp only[List.map_map]at h;have h3:s.data.toList.take (Eg 46 s s.size).2++(s.extract (Eg 46 s s.size).2 s.size).data.toList=s.data.toList:=by rw[Wi,List.take_append_drop]
 rw[show((fun x:List UInt8=>x++[46])∘fun x:ByteArray=>x.data.toList)=fun x:ByteArray=>x.data.toList++[46]from rfl,h2,h3]at h;rw[List.toList_toArray];exact h
theorem Apj{s:ByteArray}(h:Ao s=0):∀x∈A5 s,lab x.data.toList=true:=fun x hx=>by
 unfold Ao at h;split at h
 ·omega
 ·rename_i h1;have h1:(A5 s).any (fun x=> !lab x.data.toList)=false:=by simpa using h1
  have:=List.any_eq_false.1 h1 x hx;simpa using this
theorem Atz{xs ys:List ByteArray}(h:xs.map (·.data.toList)=ys.map (·.data.toList)):xs=ys:=by
 induction xs generalizing ys with
 |nil=>cases ys with
  |nil=>rfl
  |cons y ys=>simp at h
 |cons x xs ih=>cases ys with
  |nil=>simp at h
  |cons y ys=>
   simp only[List.map_cons,List.cons.injEq]at h;rw[Sd h.1,ih h.2]
theorem Ani{s:ByteArray}{xs:List ByteArray}(h0:xs≠[])(h1:∀x∈xs,lab x.data.toList=true)(h2:∀x∈Ci 46 s,lab x.data.toList=true)(h:Df dot xs=s):Ci 46 s=xs:=by
 have hp:Ci 46 s≠[]:=by simp[Ci]
 refine Atz (Ai0 (c:=46) (by simpa using hp) (by simpa using h0) (fun x hx=>?_) (fun x hx=>?_) ?_)
 ·obtain⟨y,hy,rfl⟩:=XO.1 hx;exact Agi (h2 y hy)
 ·obtain⟨y,hy,rfl⟩:=XO.1 hx;exact Agi (h1 y hy)
 ·have e:=(Ahd s).trans h.symm;have:=congrArg (fun b:ByteArray=>b.data.toList) e;simpa[Df,dot]using this
theorem I2{s:ByteArray}(h:em s=false):A5 s=Ci 46 s:=by
 unfold A5;rw[if_neg (by unfold em at h;rw[h];simp)]
def isW(x:ByteArray):Bool:=bif x.toList==Br.toList then true else x.toList==Cm.toList
def noQ:Qr:=⟨⟨#[]⟩,⟨#[]⟩,⟨#[]⟩,⟨#[]⟩⟩
def q0 (l : List ByteArray) (k : Nat) : Qr :=
  ⟨if l.getD k ⟨#[]⟩ = Br then l.getD (k - 1) ⟨#[]⟩ else ⟨#[]⟩, if l.getD k ⟨#[]⟩ = Br ∧ k = 2 then l.getD 0 ⟨#[]⟩ else ⟨#[]⟩,
   if l.getD k ⟨#[]⟩ = Cm ∧ k = 1 then l.getD 0 ⟨#[]⟩ else ⟨#[]⟩, if k + 1 < l.length then l.getD (k + 1) ⟨#[]⟩ else ⟨#[]⟩⟩
structure Tk(l:List ByteArray)(k:Nat):Prop where
 lt:k<l.length
 near:l.length≤k+2
 w:isW (l.getD k ⟨#[]⟩)=true
 last:k+1<l.length→isW (l.getD (k+1) ⟨#[]⟩)=false
theorem Tk.uniq{l:List ByteArray}{k k':Nat}(h:Tk l k)(h':Tk l k'):k=k':=by
 have a1:=h.lt;have a2:=h.near;have b1:=h'.lt;have b2:=h'.near;rcases(by omega:k=k'∨k'=k+1∨k=k'+1)with q|q|q
 ·exact q
 ·have:=h.last (by omega);rw[←q,h'.w]at this;cases this
 ·have:=h'.last (by omega);rw[←q,h.w]at this;cases this
def Vw(ls:List ByteArray):List Qr:=match ls with
 |[a,_,_]=>[⟨a,⟨#[]⟩,⟨#[]⟩,⟨#[]⟩⟩,⟨⟨#[]⟩,⟨#[]⟩,a,⟨#[]⟩⟩]
 |[a,b,c,_]=>[⟨a,⟨#[]⟩,⟨#[]⟩,c⟩,⟨⟨#[]⟩,⟨#[]⟩,a,c⟩,⟨b,a,⟨#[]⟩,⟨#[]⟩⟩]
 |[a,b,c,d,_]=>[⟨b,a,⟨#[]⟩,d⟩]
 |_=>[]
theorem Ix{q:Qr}{s:ByteArray}(h:Ah q=(s,0)):q.err=0∧Ao q.pr=0∧q.pr=s:=by
 unfold Ah at h;split at h
 ·rename_i h1;simp only[Prod.mk.injEq]at h;exact absurd h.2 h1
 ·rename_i h1;split at h
  ·rename_i h2;simp only[Prod.mk.injEq]at h;exact absurd h.2 h2
  ·rename_i h2;simp only[Prod.mk.injEq]at h;exact⟨Classical.byContradiction h1,Classical.byContradiction h2,h.1⟩
theorem Aup{q:Qr}:keep em q.words≠[]:=fun h=>by
 have hm:Bc∈keep em q.words:=by
  unfold keep;rw[List.mem_filter];exact⟨by unfold Qr.words;cases em q.nd<;>simp,by rw[Y5 (by decide)];rfl⟩
 rw[h]at hm;cases hm
theorem Aoo{q:Qr}(h:q.err=0):∀x∈keep em q.words,lab x.data.toList=true:=fun x hx=>by
 have hall:∀y∈q.all,em y=false→lab y.data.toList=true:=fun y hy he=>by
  unfold Qr.err at h;cases h1:q.c1 with
  |true=>rw[h1]at h;cases h
  |false=>
   cases h2:q.c2 with
   |true=>rw[h1,h2]at h;cases h
   |false=>
    have:=List.any_eq_false.1 h2 y hy;unfold Gx at this;rw[he]at this;simpa using this
 unfold keep at hx;rw[List.mem_filter]at hx;obtain⟨hx1,hx2⟩:=hx;have he:em x=false:=by simpa using hx2
 have ls:lab Br.data.toList=true:=by decide
 have ln:lab Cm.data.toList=true:=by decide
 have lm:lab Bc.data.toList=true:=by decide
 unfold Qr.words at hx1;cases hn:em q.nd with
 |true=>
  rw[hn]at hx1;simp only[cond_true,XC,XD,or_false]at hx1;rcases hx1 with rfl|rfl|rfl|rfl|rfl
  ·exact hall _ (by simp[Qr.all]) he
  ·exact hall _ (by simp[Qr.all]) he
  ·exact ls
  ·exact hall _ (by simp[Qr.all]) he
  ·exact lm
 |false=>
  rw[hn]at hx1;simp only[cond_false,XC,XD,or_false]at hx1;rcases hx1 with rfl|rfl|rfl|rfl
  ·exact hall _ (by simp[Qr.all]) he
  ·exact ln
  ·exact hall _ (by simp[Qr.all]) he
  ·exact lm
theorem Aft{q:Qr}{s:ByteArray}(h:Ah q=(s,0)):Ci 46 s=keep em q.words:=by
 obtain⟨h1,h2,h3⟩:=Ix h;rw[h3]at h2;have hj:=(Ana h1).trans h3;have hs:em s=false:=by
  cases q2:em s with
  |false=>rfl
  |true=>
   have e:=Jq.1 q2;have hsz:q.pr.size=0:=by rw[h3,e];rfl
   unfold Qr.pr at hsz;rw[XP]at hsz;have:Bc.size=4:=rfl;omega
 refine Ani Aup (Aoo h1) (fun x hx=>Apj h2 x (by rw[I2 hs];exact hx)) hj
theorem U9:isW Br=true:=by unfold isW;simp
theorem Ahh:isW Cm=true:=by unfold isW;cases (Cm.toList==Br.toList)<;>simp
theorem Awy{q:Qr}(h:q.err=0):isW q.ce=false:=by
 unfold Qr.err at h;cases h1:q.c1 with
 |true=>rw[h1]at h;cases h
 |false=>
  cases h2:q.c2 with
  |true=>rw[h1,h2]at h;cases h
  |false=>
   cases h3:q.c3 with
   |true=>rw[h1,h2,h3]at h;cases h
   |false=>
    have h4:Z2 [Br,Cm,Bc] q.ce=false:=by
     unfold Qr.c3 at h3;cases q1:Z2 [Br,Cm,Bc] q.ce with
     |false=>rfl
     |true=>rw[q1]at h3;cases h3
    have k1:=List.any_eq_false.1 h4 Br (by simp);have k2:=List.any_eq_false.1 h4 Cm (by simp);unfold isW;cases q1:(q.ce.toList==Br.toList)with
    |true=>exact absurd q1 k1
    |false=>simpa using k2
theorem E2:Br≠Cm:=fun h=>absurd (congrArg ByteArray.size h) (by decide)
theorem E7{q:Qr}{s:ByteArray}(h:Ah q=(s,0)):∃l k,Ci 46 s=l++[Bc]∧Tk l k∧1≤k∧k≤2∧q=q0 l k∧q∈Vw (Ci 46 s):=by
 have hp:=Aft h;obtain⟨h1,h2,h3⟩:=Ix h;obtain⟨_,hc1,hc2⟩:=Qy h1;have hw:=Awy h1;have es:em Br=false:=Y5 (by decide);have en:em Cm=false:=Y5 (by decide);have emm:em Bc=false:=Y5 (by decide);rw[hp];obtain⟨sv,tg,nd,ce⟩:=q;unfold Qr.words keep;dsimp only at *;cases hn:em nd with
 |false=>
  have hsv:em sv=true:=by rw[hn]at hc1;simpa using hc1
  have htg:=hc2 hsv;have e1:=Jq.1 hsv;have e2:=Jq.1 htg;subst e1 e2;cases hc:em ce with
  |true=>
   have e3:=Jq.1 hc;subst e3;refine⟨[nd,Cm],1,?_,⟨by simp,by simp,Ahh,by simp⟩,by omega,by omega,?_,?_⟩
   ·simp[hn,hc,en,emm]
   ·simp[q0,E2.symm]
   ·simp[hn,hc,en,emm,Vw]
  |false=>
   refine⟨[nd,Cm,ce],1,?_,⟨by simp,by simp,Ahh,fun _=>hw⟩,by omega,by omega,?_,?_⟩
   ·simp[hn,hc,en,emm]
   ·simp[q0,E2.symm]
   ·simp[hn,hc,en,emm,Vw]
 |true=>
  have hsv:em sv=false:=by rw[hn]at hc1;simpa using hc1
  have e1:=Jq.1 hn;subst e1;cases ht:em tg with
  |true=>
   have e2:=Jq.1 ht;subst e2;cases hc:em ce with
   |true=>
    have e3:=Jq.1 hc;subst e3;refine⟨[sv,Br],1,?_,⟨by simp,by simp,U9,by simp⟩,by omega,by omega,?_,?_⟩
    ·simp[hsv,hc,es,emm]
    ·simp[q0,E2]
    ·simp[hsv,hc,es,emm,Vw]
   |false=>
    refine⟨[sv,Br,ce],1,?_,⟨by simp,by simp,U9,fun _=>hw⟩,by omega,by omega,?_,?_⟩
    ·simp[hn,hsv,hc,es,emm]
    ·simp[q0,E2]
    ·simp[hn,hsv,hc,es,emm,Vw]
  |false=>
   cases hc:em ce with
   |true=>
    have e3:=Jq.1 hc;subst e3;refine⟨[tg,sv,Br],2,?_,⟨by simp,by simp,U9,by simp⟩,by omega,by omega,?_,?_⟩
    ·simp[hsv,ht,hc,es,emm]
    ·simp[q0,E2]
    ·simp[hsv,ht,hc,es,emm,Vw]
   |false=>
    refine⟨[tg,sv,Br,ce],2,?_,⟨by simp,by simp,U9,fun _=>hw⟩,by omega,by omega,?_,?_⟩
    ·simp[hsv,ht,hc,es,emm]
    ·simp[q0,E2]
    ·simp[hsv,ht,hc,es,emm,Vw]
theorem Ajx{q q':Qr}{s:ByteArray}(h:Ah q=(s,0))(h':Ah q'=(s,0)):q=q':=by
 obtain⟨l,k,a1,a2,_,_,a3,_⟩:=E7 h;obtain⟨l',k',b1,b2,_,_,b3,_⟩:=E7 h';have e:l=l':=by rw[a1]at b1;exact(List.append_inj' b1 rfl).1
 subst e;rw[a3,b3,a2.uniq b2]
open Classical in
noncomputable def A8(s:ByteArray):Qr×Int:=if Ao s≠0 then(noQ,Ao s)else if(Ci 46 s).getLast?≠some Bc then(noQ,8)else if h:∃q,Ah q=(s,0)then(h.choose,0)else(noQ,1)
theorem Tm{s:ByteArray}(h:Ao s≠0):A8 s=(noQ,Ao s):=by unfold A8;rw[if_pos h]
theorem Ol{s:ByteArray}(h:Ao s=0)(h2:(Ci 46 s).getLast?≠some Bc):A8 s=(noQ,8):=by unfold A8;rw[if_neg (by simp[h]),if_pos h2]
theorem Eo{s:ByteArray}(h:Ao s=0)(h2:(Ci 46 s).getLast? =some Bc)(h3:∀q,Ah q≠(s,0)):A8 s=(noQ,1):=by
 unfold A8;rw[if_neg (by simp[h]),if_neg (by simp[h2]),dif_neg (fun⟨q,hq⟩=>h3 q hq)]
theorem Dd{s:ByteArray}{q:Qr}(hq:Ah q=(s,0)):A8 s=(q,0):=by
 obtain⟨l,k,a1,_⟩:=E7 hq;obtain⟨h1,h2,h3⟩:=Ix hq;unfold A8;have hex:∃q,Ah q=(s,0):=⟨q,hq⟩;rw[if_neg (by rw[←h3];simp[h2]),if_neg (by rw[a1];simp),dif_pos hex,Ajx hex.choose_spec hq]
theorem Ajn{s:ByteArray}{q:Qr}(h:A8 s=(q,0)):Ah q=(s,0):=by
 by_cases h1:Ao s=0
 ·by_cases h2:(Ci 46 s).getLast? =some Bc
  ·by_cases h3:∃q,Ah q=(s,0)
   ·obtain⟨q',hq⟩:=h3;rw[Dd hq]at h;injection h with h _
    rw[←h];exact hq
   ·rw[Eo h1 h2 (fun q hq=>h3 ⟨q,hq⟩)]at h;simp at h
  ·rw[Ol h1 h2]at h;simp at h
 ·rw[Tm h1]at h;simp only[Prod.mk.injEq]at h;exact absurd h.2 h1
end Pl
namespace Pl
theorem Ad1(t:((⟨#[110,111,100,101]⟩:ByteArray).toList==(⟨#[115,101,114,118,105,99,101]⟩:ByteArray).toList)=true):False:=E2 (toList_inj (ZR.1 t)).symm
theorem Rn(t:((⟨#[115,101,114,118,105,99,101]⟩:ByteArray).toList==(⟨#[110,111,100,101]⟩:ByteArray).toList)=true):False:=E2 (toList_inj (ZR.1 t))
theorem Ack{x:ByteArray}(h:isW x=true):x=Br∨x=Cm:=by
 unfold isW at h;cases q:(x.toList==Br.toList)with
 |true=>exact .inl (toList_inj (by simpa using q))
 |false=>rw[q]at h;exact .inr (toList_inj (by simpa using h))
theorem E5{s:ByteArray}{l:List ByteArray}{k:Nat}(hl:Ci 46 s=l++[Bc])(h:Ao s=0)(hw:Tk l k)(hn:Ah (q0 l k)≠(s,0)):A8 s=(noQ,1):=by
 refine Eo h (by rw[hl];simp) fun q hq=>?_;obtain⟨l',k',b1,b2,_,_,b3,_⟩:=E7 hq;have e:l=l':=by rw[hl]at b1;exact(List.append_inj' b1 rfl).1
 subst e;rw[b3,b2.uniq hw]at hq;exact hn hq
theorem Aex{s:ByteArray}{l:List ByteArray}(hl:Ci 46 s=l++[Bc])(h:Ao s=0)(hn:∀k,Tk l k→¬(1≤k∧k≤2)):A8 s=(noQ,1):=by
 refine Eo h (by rw[hl];simp) fun q hq=>?_;obtain⟨l',k',b1,b2,b3,b4,_,_⟩:=E7 hq;have e:l=l':=by rw[hl]at b1;exact(List.append_inj' b1 rfl).1
 subst e;exact hn k' b2 ⟨b3,b4⟩
theorem Ap5{l:List ByteArray}{M:Nat}(h:∀x∈l,x.size≤M)(k:Nat):(l.getD k ⟨#[]⟩).size≤M:=by
 rw[List.getD_eq_getElem?_getD];cases q:l[k]? with
 |none=>exact ZU _
 |some x=>exact h x (ZH q)
theorem X4{l:List ByteArray}(h:∀x∈l,x.size≤9223372036854775807)(k:Nat):(q0 l k).ok:=by
 have z:(⟨#[]⟩:ByteArray).size≤9223372036854775807:=ZU _;refine⟨?_,?_,?_,?_⟩<;>(unfold q0;dsimp only;split)<;>first|exact Ap5 h _|exact z
def kI:Option Nat→Int
 |none=> -1
 |some b=>b
def KD(l:List ByteArray)(i:Nat):Option Nat→Prop
 |none=>∀j,j<i→l.length≤j+2→isW (l.getD j ⟨#[]⟩)=false
 |some k=>k<i∧l.length≤k+2∧isW (l.getD k ⟨#[]⟩)=true∧∀j,j<i→k<j→isW (l.getD j ⟨#[]⟩)=false
theorem At1{l:List ByteArray}{i:Nat}{o:Option Nat}(h:KD l i o)(hi:l.length≤i+2)(hw:isW (l.getD i ⟨#[]⟩)=true):KD l (i+1) (some i):=⟨by omega,hi,hw,fun j h1 h2=>by omega⟩
theorem Ayn{l:List ByteArray}{i:Nat}{o:Option Nat}(h:KD l i o)(hw:isW (l.getD i ⟨#[]⟩)=false):KD l (i+1) o:=by
 cases o with
 |none=>
  intro j h1 h2;by_cases q:j<i
  ·exact h j q h2
  ·have e:j=i:=by omega
   rw[e];exact hw
 |some k=>
  refine⟨by have:=h.1;omega,h.2.1,h.2.2.1,fun j h1 h2=>?_⟩;by_cases q:j<i
  ·exact h.2.2.2 j q h2
  ·have e:j=i:=by omega
   rw[e];exact hw
theorem Atm{l:List ByteArray}{k:Nat}(h:KD l l.length (some k)):Tk l k:=⟨h.1,h.2.1,h.2.2.1,fun q=>h.2.2.2 _ q (by omega)⟩
end Pl
theorem Aky(s:ByteArray)(hs:s.size≤1000000000000):Fun Tryz.prog 61 [.c (.v (.string s))] [.c (.agg (A8 s).1.row),.c (.v (.int .i64 (A8 s).2))]:=by
 obtain⟨l,x,hlx⟩:∃l x,Ci 46 s=l++[x]:=⟨_,_,rfl⟩;have hll:l.length≤s.size:=by
  have h1:=Om 46 s;have h2:=Afh s 46;rw[hlx,ZF]at h1;simp at h1;omega
 have hS:=Acm s 46 hs;rw[hlx]at hS;have hlen:((l++[x]).map A1).length=l.length+1:=by simp
 have hsub:IntKind.i64.wrap ((((l++[x]).map A1).length:Int)-1)=(l.length:Int):=by rw[hlen,A6 (by omega) (by omega)];omega
 have hlast:((l++[x]).map A1)[l.length]? =some (A1 x):=by simp
 refine Ae5 Abe rfl ?_;refine G1 ?_;intro gg;refine .inl (cX (N9 s hs) ?_);refine G1 ?_;intro gg;(refine Aa (fun h1=>?_) (fun h1=>?_)<;>rw[h1])
 ·have h1':Ao s≠0:=by simpa using h1
  rw[Tm h1'];refine G0 ?_;exact Cn (As rfl) (As rfl) (.cell1 rfl rfl rfl rfl rfl rfl (.tmp1 rfl .nil))
 ·have h1':Ao s=0:=by simpa using h1
  refine G0 ?_;refine .inl (cX hS ?_);refine G1 ?_;intro gg;refine⟨(l.length:Int),hsub,?_⟩;refine G0 ?_;refine⟨l.length,_,rfl,hlast,?_⟩;refine G0 ?_;refine⟨_,hlast,?_⟩;refine G0 ?_;(refine Aa (fun h2=>?_) (fun h2=>?_)<;>rw[h2])
  ·have h2':x≠Bc:=fun e=>by rw[e,show(Bc.toList==(⟨#[109,101,115,104]⟩:ByteArray).toList)=true from beq_self_eq_true _]at h2;cases h2
   rw[Ol h1' (by rw[hlx];simpa using h2')];refine G0 ?_;exact Cn (As rfl) (As rfl) (.cell1 rfl rfl rfl rfl rfl rfl (.tmp1 rfl .nil))
  ·have h2':x=Bc:=toList_inj (ZR.1 (Bw h2));subst h2';have hl:=hlx;have hsz':∀y∈l,y.size≤9223372036854775807:=fun y hy=>by
    have he:em s=false:=by
     cases q:em s with
     |false=>rfl
     |true=>
      have e0:=Jq.1 q;rw[e0]at hl;have:=congrArg List.length hl;simp at this;have e3:(Ci 46 (⟨#[]⟩:ByteArray)).length=1:=by rw[Om];rfl
      rw[hl]at e3;simp at e3;subst e3;cases hy
    have hm:y∈A5 s:=by rw[I2 he,hl];exact List.mem_append_left _ hy
    have:=Fm hm;omega
   have et:((l++[Bc]).map A1).take l.length=l.map A1:=by rw[ZI,List.take_append_of_le_length (by simp),List.take_of_length_le (by simp)]
   have etl:(((l++[Bc]).map A1).take l.length).length=l.length:=by rw[et];simp
   have hrow:∀j,j<l.length→(((l++[Bc]).map A1).take l.length)[j]? =some (A1 (l.getD j ⟨#[]⟩)):=fun j hj=>by
    rw[et,Ad hj,List.getD_eq_getElem?_getD,ZC hj];rfl
   have hsub2:IntKind.i64.wrap (((((l++[Bc]).map A1).take l.length).length:Int)-2)=(l.length:Int)-2:=by rw[etl,A6 (by omega) (by omega)]
   have hsub1:IntKind.i64.wrap (((((l++[Bc]).map A1).take l.length).length:Int)-1)=(l.length:Int)-1:=by rw[etl,A6 (by omega) (by omega)]
   have hmax:max (0:Int) ((l.length:Int)-2)=((l.length-2:Nat):Int):=by omega
   refine G0 ?_;refine⟨(l.length:Int),hsub,?_⟩;refine G0 ?_;refine⟨0,0,l.length,rfl,rfl,⟨_,rfl⟩,ZU _,by show l.length≤((l++[Bc]).map A1).length;omega,rfl,rfl,fun g=>?_⟩;refine G1 ?_;intro gg;refine⟨(l.length:Int)-2,hsub2,?_⟩;refine G0 ?_;refine⟨[],none,{p:Nat×Option Nat//l.length-2≤p.1∧p.1≤l.length∧KD l p.1 p.2},[0,2,5,6],fun⟨⟨i,o⟩,hi⟩=>[(7,.v (.int .i64 (kI o))),(8,.v (.int .i64 i))],[32,96,288],fun⟨⟨i,o⟩,hi⟩=>[],fun⟨⟨i,o⟩,hi⟩=>l.length-i,trivial,
    fun gs=>⟨trivial,fun _=>⟨⟨(l.length-2,none),ZT _,Nat.sub_le _ _,fun j h1 h2=>by dsimp only at h1;omega⟩,⟨rfl,congrArg (fun x=>V.v (.int .i64 x)) hmax,trivial⟩,tI,tI,tI⟩⟩,fun⟨⟨i,o⟩,hi1,hi2,hkd⟩=>?_⟩
   refine G0 ?_;(refine Aa (fun h3=>?_) (fun h3=>?_)<;>rw[h3])
   ·have hlt:i<l.length:=by have:=ZV h3;simp only[etl]at this;omega
    refine G0 ?_;refine⟨i,_,rfl,hrow i hlt,?_⟩;refine G0 ?_;refine⟨_,hrow i hlt,?_⟩;refine G0 ?_;(refine Aa (fun h4=>?_) (fun h4=>?_)<;>rw[h4])
    ·have hw:isW (l.getD i ⟨#[]⟩)=true:=by unfold isW;rw[show((l.getD i ⟨#[]⟩).toList==Br.toList)=true from h4];rfl
     refine G0 ?_;(exact⟨none,trivial,fun _=>⟨⟨(i+1,some i),by dsimp only;omega,by dsimp only;omega,At1 hkd (by dsimp only at hi1;omega) hw⟩,by show l.length-(i+1)<l.length-i;omega,tI,tI,tI,tI⟩⟩)
    ·refine G0 ?_;refine⟨i,_,rfl,hrow i hlt,?_⟩;refine G0 ?_;refine⟨_,hrow i hlt,?_⟩;refine G0 ?_;(refine Aa (fun h5=>?_) (fun h5=>?_)<;>rw[h5])
     ·have hw:isW (l.getD i ⟨#[]⟩)=true:=by unfold isW;rw[show((l.getD i ⟨#[]⟩).toList==Br.toList)=false from h4];exact h5
      refine G0 ?_;(exact⟨none,trivial,fun _=>⟨⟨(i+1,some i),by dsimp only;omega,by dsimp only;omega,At1 hkd (by dsimp only at hi1;omega) hw⟩,by show l.length-(i+1)<l.length-i;omega,tI,tI,tI,tI⟩⟩)
     ·have hw:isW (l.getD i ⟨#[]⟩)=false:=by unfold isW;rw[show((l.getD i ⟨#[]⟩).toList==Br.toList)=false from h4];exact h5
      refine G0 ?_;(exact⟨none,trivial,fun _=>⟨⟨(i+1,o),by dsimp only;omega,by dsimp only;omega,Ayn hkd hw⟩,by show l.length-(i+1)<l.length-i;omega,tI,tI,tI,tI⟩⟩)
   ·have hge:¬i<l.length:=by have:=ZW h3;simp only[etl]at this;omega
    obtain rfl:i=l.length:=by dsimp only at hi2;omega
    have hkd:KD l l.length o:=hkd;refine G0 ?_;cases o with
    |none=>
     rw[Aex hl h1' (fun k hw _=>by have:=hkd k hw.lt hw.near;rw[hw.w]at this;cases this)];refine G0 ?_;exact Cn (As rfl) (As rfl) (.cell1 rfl rfl rfl rfl rfl rfl (.tmp1 rfl .nil))
    |some k=>
     have hwd:=Atm hkd;(refine Aa (fun h6=>?_) (fun h6=>?_)<;>rw[h6])
     ·have hk0:k<1:=by have:=ZV h6;simp only[kI]at this;omega
      rw[Aex hl h1' (fun k' hw' hk'=>by have:=hwd.uniq hw';omega)];refine G0 ?_;exact Cn (As rfl) (As rfl) (.cell1 rfl rfl rfl rfl rfl rfl (.tmp1 rfl .nil))
     ·have hk0:¬k<1:=by have:=ZW h6;simp only[kI]at this;omega
      refine G0 ?_;(refine Aa (fun h6b=>?_) (fun h6b=>?_)<;>rw[h6b])
      ·have hk2:2<k:=by have:=ZV h6b;simp only[kI]at this;omega
       rw[Aex hl h1' (fun k' hw' hk'=>by have:=hwd.uniq hw';omega)];refine G0 ?_;exact Cn (As rfl) (As rfl) (.cell1 rfl rfl rfl rfl rfl rfl (.tmp1 rfl .nil))
      ·have hk2:¬2<k:=by have:=ZW h6b;simp only[kI]at this;omega
       rcases(by omega:k=1∨k=2)with rfl|rfl
       ·skip
        have hkl:1<l.length:=hwd.lt;have hww:=Ack hwd.w;refine G0 ?_;refine⟨(l.length:Int)-1,hsub1,?_⟩;refine G0 ?_;(refine Aa (fun h7=>?_) (fun h7=>?_)<;>rw[h7])
        ·have hce:1+1<l.length:=by have:=ZV h7;simp only[kI]at this;omega
         refine G0 ?_;refine⟨2,by decide,?_⟩;refine G0 ?_;refine⟨2,_,rfl,hrow 2 hce,?_⟩;refine G0 ?_;refine⟨_,hrow 2 hce,?_⟩;rcases hww with hx|hx
         ·have hrk:(((l++[Bc]).map A1).take l.length)[1]? =some (A1 Br):=by rw[←hx];exact hrow 1 hkl
          refine G0 ?_;refine⟨1,_,rfl,hrk,?_⟩;refine G0 ?_;refine⟨_,hrk,?_⟩;refine G0 ?_;(refine Aa (fun t=>?_) (fun t=>?_)<;>rw[t];focus (exfalso;exact Rn t));refine G0 ?_;refine⟨1,_,rfl,hrk,?_⟩;refine G0 ?_;refine⟨_,hrk,?_⟩;refine G0 ?_;(refine Aa (fun t=>?_) (fun t=>?_)<;>rw[t];rotate_left;focus (exfalso;exact Bool.noConfusion ((ZR.2 rfl).symm.trans t)));refine G0 ?_;refine⟨0,by decide,?_⟩;refine G0 ?_;refine⟨0,_,rfl,hrow 0 (by omega),?_⟩;refine G0 ?_;refine⟨_,hrow 0 (by omega),?_⟩;have e:q0 l 1=⟨l.getD 0 ⟨#[]⟩,⟨#[]⟩,⟨#[]⟩,l.getD 2 ⟨#[]⟩⟩:=by simp only[q0,hx,E2,hce,if_true,if_false,true_and,and_true,false_and,and_false,reduceCtorEq,Nat.reduceEqDiff,Nat.reduceSub,Nat.reduceAdd]
          have hP:=Ev (q0 l 1) (X4 hsz' 1);rw[e]at hP;refine G0 ?_;refine .inl (cX hP ?_);rw[←e];refine G1 ?_;intro gg;(refine Aa (fun h8=>?_) (fun h8=>?_)<;>rw[h8])
          ·have h8':(Ah (q0 l 1)).2≠0:=by simpa using h8
           rw[E5 hl h1' hwd (fun hq=>h8' (by rw[hq]))];refine G0 ?_;exact Cn (As rfl) (As rfl) (.cell1 rfl rfl rfl rfl rfl rfl (.tmp1 rfl .nil))
          ·have h8':(Ah (q0 l 1)).2=0:=by simpa using h8
           refine G0 ?_;(refine Aa (fun h9=>?_) (fun h9=>?_)<;>rw[h9])
           ·have h9':(Ah (q0 l 1)).1≠s:=fun e=>by rw[e]at h9;simp at h9
            rw[E5 hl h1' hwd (fun hq=>h9' (by rw[hq]))];refine G0 ?_;exact Cn (As rfl) (As rfl) (.cell1 rfl rfl rfl rfl rfl rfl (.tmp1 rfl .nil))
           ·have h9':(Ah (q0 l 1)).1=s:=toList_inj (ZR.1 (Bw h9));rw[Dd (q:=q0 l 1) (Prod.ext h9' h8'),e];refine G0 ?_;exact Cn (As rfl) (As rfl) (.cell1 rfl rfl rfl rfl rfl rfl (.tmp1 rfl .nil))
         ·have hrk:(((l++[Bc]).map A1).take l.length)[1]? =some (A1 Cm):=by rw[←hx];exact hrow 1 hkl
          refine G0 ?_;refine⟨1,_,rfl,hrk,?_⟩;refine G0 ?_;refine⟨_,hrk,?_⟩;refine G0 ?_;(refine Aa (fun t=>?_) (fun t=>?_)<;>rw[t];rotate_left;focus (exfalso;exact Bool.noConfusion ((ZR.2 rfl).symm.trans t)));refine G0 ?_;refine⟨0,_,rfl,hrow 0 (by omega),?_⟩;refine G0 ?_;refine⟨_,hrow 0 (by omega),?_⟩;have e:q0 l 1=⟨⟨#[]⟩,⟨#[]⟩,l.getD 0 ⟨#[]⟩,l.getD 2 ⟨#[]⟩⟩:=by simp only[q0,hx,E2.symm,hce,if_true,if_false,true_and,and_true,false_and,and_false,reduceCtorEq,Nat.reduceEqDiff,Nat.reduceSub,Nat.reduceAdd]
          have hP:=Ev (q0 l 1) (X4 hsz' 1);rw[e]at hP;refine G0 ?_;refine .inl (cX hP ?_);rw[←e];refine G1 ?_;intro gg;(refine Aa (fun h8=>?_) (fun h8=>?_)<;>rw[h8])
          ·have h8':(Ah (q0 l 1)).2≠0:=by simpa using h8
           rw[E5 hl h1' hwd (fun hq=>h8' (by rw[hq]))];refine G0 ?_;exact Cn (As rfl) (As rfl) (.cell1 rfl rfl rfl rfl rfl rfl (.tmp1 rfl .nil))
          ·have h8':(Ah (q0 l 1)).2=0:=by simpa using h8
           refine G0 ?_;(refine Aa (fun h9=>?_) (fun h9=>?_)<;>rw[h9])
           ·have h9':(Ah (q0 l 1)).1≠s:=fun e=>by rw[e]at h9;simp at h9
            rw[E5 hl h1' hwd (fun hq=>h9' (by rw[hq]))];refine G0 ?_;exact Cn (As rfl) (As rfl) (.cell1 rfl rfl rfl rfl rfl rfl (.tmp1 rfl .nil))
           ·have h9':(Ah (q0 l 1)).1=s:=toList_inj (ZR.1 (Bw h9));rw[Dd (q:=q0 l 1) (Prod.ext h9' h8'),e];refine G0 ?_;exact Cn (As rfl) (As rfl) (.cell1 rfl rfl rfl rfl rfl rfl (.tmp1 rfl .nil))
        ·have hce:¬1+1<l.length:=by have:=ZW h7;simp only[kI]at this;omega
         rcases hww with hx|hx
         ·have hrk:(((l++[Bc]).map A1).take l.length)[1]? =some (A1 Br):=by rw[←hx];exact hrow 1 hkl
          refine G0 ?_;refine⟨1,_,rfl,hrk,?_⟩;refine G0 ?_;refine⟨_,hrk,?_⟩;refine G0 ?_;(refine Aa (fun t=>?_) (fun t=>?_)<;>rw[t];focus (exfalso;exact Rn t));refine G0 ?_;refine⟨1,_,rfl,hrk,?_⟩;refine G0 ?_;refine⟨_,hrk,?_⟩;refine G0 ?_;(refine Aa (fun t=>?_) (fun t=>?_)<;>rw[t];rotate_left;focus (exfalso;exact Bool.noConfusion ((ZR.2 rfl).symm.trans t)));refine G0 ?_;refine⟨0,by decide,?_⟩;refine G0 ?_;refine⟨0,_,rfl,hrow 0 (by omega),?_⟩;refine G0 ?_;refine⟨_,hrow 0 (by omega),?_⟩;have e:q0 l 1=⟨l.getD 0 ⟨#[]⟩,⟨#[]⟩,⟨#[]⟩,⟨#[]⟩⟩:=by simp only[q0,hx,E2,hce,if_true,if_false,true_and,and_true,false_and,and_false,reduceCtorEq,Nat.reduceEqDiff,Nat.reduceSub,Nat.reduceAdd]
          have hP:=Ev (q0 l 1) (X4 hsz' 1);rw[e]at hP;refine G0 ?_;refine .inl (cX hP ?_);rw[←e];refine G1 ?_;intro gg;(refine Aa (fun h8=>?_) (fun h8=>?_)<;>rw[h8])
          ·have h8':(Ah (q0 l 1)).2≠0:=by simpa using h8
           rw[E5 hl h1' hwd (fun hq=>h8' (by rw[hq]))];refine G0 ?_;exact Cn (As rfl) (As rfl) (.cell1 rfl rfl rfl rfl rfl rfl (.tmp1 rfl .nil))
          ·have h8':(Ah (q0 l 1)).2=0:=by simpa using h8
           refine G0 ?_;(refine Aa (fun h9=>?_) (fun h9=>?_)<;>rw[h9])
           ·have h9':(Ah (q0 l 1)).1≠s:=fun e=>by rw[e]at h9;simp at h9
            rw[E5 hl h1' hwd (fun hq=>h9' (by rw[hq]))];refine G0 ?_;exact Cn (As rfl) (As rfl) (.cell1 rfl rfl rfl rfl rfl rfl (.tmp1 rfl .nil))
           ·have h9':(Ah (q0 l 1)).1=s:=toList_inj (ZR.1 (Bw h9));rw[Dd (q:=q0 l 1) (Prod.ext h9' h8'),e];refine G0 ?_;exact Cn (As rfl) (As rfl) (.cell1 rfl rfl rfl rfl rfl rfl (.tmp1 rfl .nil))
         ·have hrk:(((l++[Bc]).map A1).take l.length)[1]? =some (A1 Cm):=by rw[←hx];exact hrow 1 hkl
          refine G0 ?_;refine⟨1,_,rfl,hrk,?_⟩;refine G0 ?_;refine⟨_,hrk,?_⟩;refine G0 ?_;(refine Aa (fun t=>?_) (fun t=>?_)<;>rw[t];rotate_left;focus (exfalso;exact Bool.noConfusion ((ZR.2 rfl).symm.trans t)));refine G0 ?_;refine⟨0,_,rfl,hrow 0 (by omega),?_⟩;refine G0 ?_;refine⟨_,hrow 0 (by omega),?_⟩;have e:q0 l 1=⟨⟨#[]⟩,⟨#[]⟩,l.getD 0 ⟨#[]⟩,⟨#[]⟩⟩:=by simp only[q0,hx,E2.symm,hce,if_true,if_false,true_and,and_true,false_and,and_false,reduceCtorEq,Nat.reduceEqDiff,Nat.reduceSub,Nat.reduceAdd]
          have hP:=Ev (q0 l 1) (X4 hsz' 1);rw[e]at hP;refine G0 ?_;refine .inl (cX hP ?_);rw[←e];refine G1 ?_;intro gg;(refine Aa (fun h8=>?_) (fun h8=>?_)<;>rw[h8])
          ·have h8':(Ah (q0 l 1)).2≠0:=by simpa using h8
           rw[E5 hl h1' hwd (fun hq=>h8' (by rw[hq]))];refine G0 ?_;exact Cn (As rfl) (As rfl) (.cell1 rfl rfl rfl rfl rfl rfl (.tmp1 rfl .nil))
          ·have h8':(Ah (q0 l 1)).2=0:=by simpa using h8
           refine G0 ?_;(refine Aa (fun h9=>?_) (fun h9=>?_)<;>rw[h9])
           ·have h9':(Ah (q0 l 1)).1≠s:=fun e=>by rw[e]at h9;simp at h9
            rw[E5 hl h1' hwd (fun hq=>h9' (by rw[hq]))];refine G0 ?_;exact Cn (As rfl) (As rfl) (.cell1 rfl rfl rfl rfl rfl rfl (.tmp1 rfl .nil))
           ·have h9':(Ah (q0 l 1)).1=s:=toList_inj (ZR.1 (Bw h9));rw[Dd (q:=q0 l 1) (Prod.ext h9' h8'),e];refine G0 ?_;exact Cn (As rfl) (As rfl) (.cell1 rfl rfl rfl rfl rfl rfl (.tmp1 rfl .nil))
       ·skip
        have hkl:2<l.length:=hwd.lt;have hww:=Ack hwd.w;refine G0 ?_;refine⟨(l.length:Int)-1,hsub1,?_⟩;refine G0 ?_;(refine Aa (fun h7=>?_) (fun h7=>?_)<;>rw[h7])
        ·have hce:2+1<l.length:=by have:=ZV h7;simp only[kI]at this;omega
         refine G0 ?_;refine⟨3,by decide,?_⟩;refine G0 ?_;refine⟨3,_,rfl,hrow 3 hce,?_⟩;refine G0 ?_;refine⟨_,hrow 3 hce,?_⟩;rcases hww with hx|hx
         ·have hrk:(((l++[Bc]).map A1).take l.length)[2]? =some (A1 Br):=by rw[←hx];exact hrow 2 hkl
          refine G0 ?_;refine⟨2,_,rfl,hrk,?_⟩;refine G0 ?_;refine⟨_,hrk,?_⟩;refine G0 ?_;(refine Aa (fun t=>?_) (fun t=>?_)<;>rw[t];focus (exfalso;exact Rn t));refine G0 ?_;refine⟨2,_,rfl,hrk,?_⟩;refine G0 ?_;refine⟨_,hrk,?_⟩;refine G0 ?_;(refine Aa (fun t=>?_) (fun t=>?_)<;>rw[t];rotate_left;focus (exfalso;exact Bool.noConfusion ((ZR.2 rfl).symm.trans t)));refine G0 ?_;refine⟨1,by decide,?_⟩;refine G0 ?_;refine⟨1,_,rfl,hrow 1 (by omega),?_⟩;refine G0 ?_;refine⟨_,hrow 1 (by omega),?_⟩;refine G0 ?_;refine⟨0,_,rfl,hrow 0 (by omega),?_⟩;refine G0 ?_;refine⟨_,hrow 0 (by omega),?_⟩;have e:q0 l 2=⟨l.getD 1 ⟨#[]⟩,l.getD 0 ⟨#[]⟩,⟨#[]⟩,l.getD 3 ⟨#[]⟩⟩:=by simp only[q0,hx,E2,hce,if_true,if_false,true_and,and_true,false_and,and_false,reduceCtorEq,Nat.reduceEqDiff,Nat.reduceSub,Nat.reduceAdd]
          have hP:=Ev (q0 l 2) (X4 hsz' 2);rw[e]at hP;refine G0 ?_;refine .inl (cX hP ?_);rw[←e];refine G1 ?_;intro gg;(refine Aa (fun h8=>?_) (fun h8=>?_)<;>rw[h8])
          ·have h8':(Ah (q0 l 2)).2≠0:=by simpa using h8
           rw[E5 hl h1' hwd (fun hq=>h8' (by rw[hq]))];refine G0 ?_;exact Cn (As rfl) (As rfl) (.cell1 rfl rfl rfl rfl rfl rfl (.tmp1 rfl .nil))
          ·have h8':(Ah (q0 l 2)).2=0:=by simpa using h8
           refine G0 ?_;(refine Aa (fun h9=>?_) (fun h9=>?_)<;>rw[h9])
           ·have h9':(Ah (q0 l 2)).1≠s:=fun e=>by rw[e]at h9;simp at h9
            rw[E5 hl h1' hwd (fun hq=>h9' (by rw[hq]))];refine G0 ?_;exact Cn (As rfl) (As rfl) (.cell1 rfl rfl rfl rfl rfl rfl (.tmp1 rfl .nil))
           ·have h9':(Ah (q0 l 2)).1=s:=toList_inj (ZR.1 (Bw h9));rw[Dd (q:=q0 l 2) (Prod.ext h9' h8'),e];refine G0 ?_;exact Cn (As rfl) (As rfl) (.cell1 rfl rfl rfl rfl rfl rfl (.tmp1 rfl .nil))
         ·have hrk:(((l++[Bc]).map A1).take l.length)[2]? =some (A1 Cm):=by rw[←hx];exact hrow 2 hkl
          refine G0 ?_;refine⟨2,_,rfl,hrk,?_⟩;refine G0 ?_;refine⟨_,hrk,?_⟩;refine G0 ?_;(refine Aa (fun t=>?_) (fun t=>?_)<;>rw[t];rotate_left;focus (exfalso;exact Bool.noConfusion ((ZR.2 rfl).symm.trans t)));refine G0 ?_;refine⟨2,_,rfl,hrk,?_⟩;refine G0 ?_;refine⟨_,hrk,?_⟩;refine G0 ?_;(refine Aa (fun t=>?_) (fun t=>?_)<;>rw[t];focus (exfalso;exact Ad1 t));have e:q0 l 2=⟨⟨#[]⟩,⟨#[]⟩,⟨#[]⟩,l.getD 3 ⟨#[]⟩⟩:=by simp only[q0,hx,E2.symm,hce,if_true,if_false,true_and,and_true,false_and,and_false,reduceCtorEq,Nat.reduceEqDiff,Nat.reduceSub,Nat.reduceAdd]
          have hP:=Ev (q0 l 2) (X4 hsz' 2);rw[e]at hP;refine G0 ?_;refine .inl (cX hP ?_);rw[←e];refine G1 ?_;intro gg;(refine Aa (fun h8=>?_) (fun h8=>?_)<;>rw[h8])
          ·have h8':(Ah (q0 l 2)).2≠0:=by simpa using h8
           rw[E5 hl h1' hwd (fun hq=>h8' (by rw[hq]))];refine G0 ?_;exact Cn (As rfl) (As rfl) (.cell1 rfl rfl rfl rfl rfl rfl (.tmp1 rfl .nil))
          ·have h8':(Ah (q0 l 2)).2=0:=by simpa using h8
           refine G0 ?_;(refine Aa (fun h9=>?_) (fun h9=>?_)<;>rw[h9])
           ·have h9':(Ah (q0 l 2)).1≠s:=fun e=>by rw[e]at h9;simp at h9
            rw[E5 hl h1' hwd (fun hq=>h9' (by rw[hq]))];refine G0 ?_;exact Cn (As rfl) (As rfl) (.cell1 rfl rfl rfl rfl rfl rfl (.tmp1 rfl .nil))
           ·have h9':(Ah (q0 l 2)).1=s:=toList_inj (ZR.1 (Bw h9));rw[Dd (q:=q0 l 2) (Prod.ext h9' h8'),e];refine G0 ?_;exact Cn (As rfl) (As rfl) (.cell1 rfl rfl rfl rfl rfl rfl (.tmp1 rfl .nil))
        ·have hce:¬2+1<l.length:=by have:=ZW h7;simp only[kI]at this;omega
         rcases hww with hx|hx
         ·have hrk:(((l++[Bc]).map A1).take l.length)[2]? =some (A1 Br):=by rw[←hx];exact hrow 2 hkl
          refine G0 ?_;refine⟨2,_,rfl,hrk,?_⟩;refine G0 ?_;refine⟨_,hrk,?_⟩;refine G0 ?_;(refine Aa (fun t=>?_) (fun t=>?_)<;>rw[t];focus (exfalso;exact Rn t));refine G0 ?_;refine⟨2,_,rfl,hrk,?_⟩;refine G0 ?_;refine⟨_,hrk,?_⟩;refine G0 ?_;(refine Aa (fun t=>?_) (fun t=>?_)<;>rw[t];rotate_left;focus (exfalso;exact Bool.noConfusion ((ZR.2 rfl).symm.trans t)));refine G0 ?_;refine⟨1,by decide,?_⟩;refine G0 ?_;refine⟨1,_,rfl,hrow 1 (by omega),?_⟩;refine G0 ?_;refine⟨_,hrow 1 (by omega),?_⟩;refine G0 ?_;refine⟨0,_,rfl,hrow 0 (by omega),?_⟩;refine G0 ?_;refine⟨_,hrow 0 (by omega),?_⟩;have e:q0 l 2=⟨l.getD 1 ⟨#[]⟩,l.getD 0 ⟨#[]⟩,⟨#[]⟩,⟨#[]⟩⟩:=by simp only[q0,hx,E2,hce,if_true,if_false,true_and,and_true,false_and,and_false,reduceCtorEq,Nat.reduceEqDiff,Nat.reduceSub,Nat.reduceAdd]
          have hP:=Ev (q0 l 2) (X4 hsz' 2);rw[e]at hP;refine G0 ?_;refine .inl (cX hP ?_);rw[←e];refine G1 ?_;intro gg;(refine Aa (fun h8=>?_) (fun h8=>?_)<;>rw[h8])
          ·have h8':(Ah (q0 l 2)).2≠0:=by simpa using h8
           rw[E5 hl h1' hwd (fun hq=>h8' (by rw[hq]))];refine G0 ?_;exact Cn (As rfl) (As rfl) (.cell1 rfl rfl rfl rfl rfl rfl (.tmp1 rfl .nil))
          ·have h8':(Ah (q0 l 2)).2=0:=by simpa using h8
           refine G0 ?_;(refine Aa (fun h9=>?_) (fun h9=>?_)<;>rw[h9])
           ·have h9':(Ah (q0 l 2)).1≠s:=fun e=>by rw[e]at h9;simp at h9
            rw[E5 hl h1' hwd (fun hq=>h9' (by rw[hq]))];refine G0 ?_;exact Cn (As rfl) (As rfl) (.cell1 rfl rfl rfl rfl rfl rfl (.tmp1 rfl .nil))
           ·have h9':(Ah (q0 l 2)).1=s:=toList_inj (ZR.1 (Bw h9));rw[Dd (q:=q0 l 2) (Prod.ext h9' h8'),e];refine G0 ?_;exact Cn (As rfl) (As rfl) (.cell1 rfl rfl rfl rfl rfl rfl (.tmp1 rfl .nil))
         ·have hrk:(((l++[Bc]).map A1).take l.length)[2]? =some (A1 Cm):=by rw[←hx];exact hrow 2 hkl
          refine G0 ?_;refine⟨2,_,rfl,hrk,?_⟩;refine G0 ?_;refine⟨_,hrk,?_⟩;refine G0 ?_;(refine Aa (fun t=>?_) (fun t=>?_)<;>rw[t];rotate_left;focus (exfalso;exact Bool.noConfusion ((ZR.2 rfl).symm.trans t)));refine G0 ?_;refine⟨2,_,rfl,hrk,?_⟩;refine G0 ?_;refine⟨_,hrk,?_⟩;refine G0 ?_;(refine Aa (fun t=>?_) (fun t=>?_)<;>rw[t];focus (exfalso;exact Ad1 t));have e:q0 l 2=⟨⟨#[]⟩,⟨#[]⟩,⟨#[]⟩,⟨#[]⟩⟩:=by simp only[q0,hx,E2.symm,hce,if_true,if_false,true_and,and_true,false_and,and_false,reduceCtorEq,Nat.reduceEqDiff,Nat.reduceSub,Nat.reduceAdd]
          have hP:=Ev (q0 l 2) (X4 hsz' 2);rw[e]at hP;refine G0 ?_;refine .inl (cX hP ?_);rw[←e];refine G1 ?_;intro gg;(refine Aa (fun h8=>?_) (fun h8=>?_)<;>rw[h8])
          ·have h8':(Ah (q0 l 2)).2≠0:=by simpa using h8
           rw[E5 hl h1' hwd (fun hq=>h8' (by rw[hq]))];refine G0 ?_;exact Cn (As rfl) (As rfl) (.cell1 rfl rfl rfl rfl rfl rfl (.tmp1 rfl .nil))
          ·have h8':(Ah (q0 l 2)).2=0:=by simpa using h8
           refine G0 ?_;(refine Aa (fun h9=>?_) (fun h9=>?_)<;>rw[h9])
           ·have h9':(Ah (q0 l 2)).1≠s:=fun e=>by rw[e]at h9;simp at h9
            rw[E5 hl h1' hwd (fun hq=>h9' (by rw[hq]))];refine G0 ?_;exact Cn (As rfl) (As rfl) (.cell1 rfl rfl rfl rfl rfl rfl (.tmp1 rfl .nil))
           ·have h9':(Ah (q0 l 2)).1=s:=toList_inj (ZR.1 (Bw h9));rw[Dd (q:=q0 l 2) (Prod.ext h9' h8'),e];refine G0 ?_;exact Cn (As rfl) (As rfl) (.cell1 rfl rfl rfl rfl rfl rfl (.tmp1 rfl .nil))
end Go.Proofs.YtbnocibpoghfhaaGreatDoor
