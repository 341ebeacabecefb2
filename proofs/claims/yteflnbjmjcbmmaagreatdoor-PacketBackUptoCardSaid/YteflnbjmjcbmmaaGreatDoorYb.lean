/- Texts of this claim, joined. -/
import Derived.Shelf.LaysC
import Derived.Shelf.LaysM
import Derived.Test.YteflnbjmjcbmmaaGreatDoorProg
import Derived.Lib.AppendIntMem
import Derived.Shelf.Strconv.Itoa3
import Derived.Shelf.Strconv.AtoiAll
import Derived.Lib.LaidTab
import Derived.Lib.AtoiAllCases
import Derived.Lib.IndexLaws
import Derived.Test.YteflnbjmjcbmmaaGreatDoorRows
import Derived.WalkLawsBesides
import Derived.BigGuardPart
import Derived.Deep.Light
import Derived.Laws.IdiomStrings
import Derived.Test.YteflnbjmjcbmmaaGreatDoorWAbsQ
import Derived.SizedLaws
import Derived.Deep.Slices
import Derived.Laws.CopyRow
import Derived.Laws.CopyOwn
import Derived.Deep.RegionLaw
import Derived.Lib.AppendZerosOnto
import Derived.Lib.Overlaps
import Derived.Laws.Externs
import Derived.OwnWalk
import Derived.Maps.AppendAt
import Derived.Deep.AppendLies
import Derived.Lib.Walk
import Derived.Lib.SliceRun
import Derived.Lib.JoinLaws
import Derived.Lib.AppendZeros
import Derived.WalkSpells
import Derived.Test.YteflnbjmjcbmmaaGreatDoorYa
set_option linter.unusedSimpArgs false
set_option linter.unusedVariables false
namespace Go.Proofs.YteflnbjmjcbmmaaGreatDoor
open Go Go.RowKit
def Dg(T:TypeId)(l:List UInt8):Opq where
 inv:=fun w R x F=>∃b v,x=.pointer (some ⟨b,0,none⟩)∧Afv T b v (Lib.byteCells l) w∧∀k,F k↔(k=b∨v.ownBlock=some k)
 mono:=fun {w w' R R' x F} h hR hF=>by
  obtain⟨b,v,h1,⟨⟨p,hp,hb⟩,h3,h4⟩,h5⟩:=h
  refine⟨b,v,h1,⟨⟨p,hp,(hF b ((h5 b).2 (.inl rfl))).trans hb⟩,?_,h4⟩,h5⟩
  refine⟨h3.1,?_⟩
  rcases h3.2 with q|⟨g,cap,cur,q,q2,q3,q4⟩
  ·exact .inl q
  ·exact .inr ⟨g,cap,cur,q,q2,(hF g ((h5 g).2 (.inr (by rw[q];rfl)))).trans q3,q4⟩
 lt:=fun {w R x F b} h hb=>by
  obtain⟨b',v,h1,⟨⟨p,hp,hbk⟩,h3,h4⟩,h5⟩:=h
  rcases(h5 b).1 hb with rfl|q
  ·exact(XL.1 hbk).1
  ·exact(h3.lt b q).2
def Al5:Opq where
 inv:=fun w R x F=>∀k,F k→k<w.heap.size
 mono:=fun {w w' R R' x F} h hR hF k hk=>by
  have h1:=h k hk
  have h2:=hF k hk
  rw[Array.getElem?_eq_getElem h1]at h2
  exact(XL.1 h2).1
 lt:=fun {w R x F b} h hb=>h b hb
section
variable {P:Program} {w w':World} {R:Nat→Prop}
theorem O3:∀{vs:List Value} {ys:List Value} {F:Nat→Prop},Ca w R (vs.map fun z=>.p (.c (.v z))) ys F→ys=vs∧∀b,¬F b
 |[],[],F,h=>⟨rfl,h⟩
 |[],_::_,F,h=>h.elim
 |v::vs,[],F,h=>h.elim
 |v::vs,y::ys,F,h=>by
  obtain⟨F1,F2,⟨h1,h1'⟩,h2,h3,h4⟩:=h;obtain⟨rfl,k2⟩:=O3 h2;have e:y=v:=B9 h1;subst e;refine⟨rfl,fun b hb=>?_⟩;rcases(h4 b).1 hb with q|q
  ·exact Fa (fun p hp=>by simp at hp;exact⟨_,hp⟩) ((h1' b).1 q)
  ·exact k2 b q
theorem Xr{I':Opq}{x:Value}{F':Nat→Prop}(hx:Sl w R I' x F')(hd:∀b,F' b→¬R b):∀(zs:List Value),Ca w R ((zs.map fun z=>.p (.c (.v z)))++[.po I']) (zs++[x]) F'
 |[]=>⟨F',fun _=>False,hx,fun b h=>h,fun b hb=>⟨fun q=>q,hd b hb⟩,fun b=>by simp⟩
 |z::zs=>by
  refine⟨fun _=>False,F',⟨.v z,fun b=>⟨fun q=>q.elim,fun q=>Fa (fun p hp=>by simp at hp;exact⟨_,hp⟩) q⟩⟩,Xr hx hd zs,fun b hb=>hb.elim,fun b=>by simp⟩
theorem Ady(zs:List Value):Bp (zs.map fun z=>.p (.c (.v z)))=[]:=by
 induction zs with
 |nil=>rfl
 |cons z zs ih=>exact ih
theorem Vc:∀(zs xs:List Value),Da (zs.map fun z=>.p (.c (.v z))) xs=[]
 |[],[]=>rfl
 |[],_::_=>rfl
 |z::zs,[]=>rfl
 |z::zs,x::xs=>Vc zs xs
theorem Ac0[Glob]{f:FuncId}{I I':Opq}{vs zs:List Value}(hc:Dt P f)(h:∀(w:World) (R:Nat→Prop) (x:Value) (F:Nat→Prop),Sl w R I x F→Calls P f (x::vs).toArray w fun e w'=>e=.returned (Db zs)∧∃F',Fr F w w'∧Sl w' R I' x F'∧∀b,F' b→F b∨w.heap.size≤b):
  E8 P f (.mo I I'::vs.map fun z=>.p (.c (.v z))) (zs.map fun z=>.p (.c (.v z))):=by
 refine⟨hc,fun w R xs F hlt hp _=>?_⟩
 match xs,hp with
 |x::ys,hp=>
  obtain⟨F1,F2,h1,h2,h3,h4⟩:=hp;obtain⟨rfl,h5⟩:=O3 h2;have hF:∀b,F b↔F1 b:=fun b=>by rw[h4 b];exact⟨fun q=>q.resolve_right (h5 b),.inl⟩
  refine(h w R x F1 h1).mono ?_
  rintro e w' ⟨rfl,F',q1,q2,q3⟩
  refine⟨zs,R,F',rfl,by simp,C6 q1 fun k hk=>(hF k).2 hk,fun b hb=>hb,fun b hb=>.inl hb,?_,fun b hb=>(q3 b hb).imp (hF b).2 id⟩;have hd:∀b,F' b→¬R b:=fun b hb hr=>by
   rcases q3 b hb with q|q
   ·exact(h3 b q).2 hr
   ·have:=hlt b hr;omega
  have:=Xr q2 hd zs;show Ca w' R ((zs.map fun z=>.p (.c (.v z)))++Bp (.mo I I'::ys.map fun z=>.p (.c (.v z)))) (zs++Da (.mo I I'::ys.map fun z=>.p (.c (.v z))) (x::ys)) F';simp only[Bp,Da,Ady,Vc];exact this
end
theorem Ad4(s:ByteArray):Lib.strCells s=Lib.byteCells s.data.toList:=by simp[Lib.strCells,Lib.byteCells]
theorem Acu(a b:List UInt8):Lib.byteCells (a++b)=Lib.byteCells a++Lib.byteCells b:=by simp[Lib.byteCells]
theorem D9{I:Opq}{T:TypeId}{l:List UInt8}{u:V}:∀p∈([]:List Ba)++Bp [.mo I (Dg T l),.p (.c u)],V9 p:=by
 intro p hp;simp only[Bp,List.nil_append,XC,XD,or_false]at hp;subst hp;exact fun _ _ _ _ _ h=>h
structure Ak1(T:TypeId):Prop where
 lies:liesAt Tryz.prog Tryz.prog.depth T (2/Tryz.prog.cellsOf T) 0 81 1=true
 ne:T≠5
theorem Yb[Glob]{T:TypeId}(hT:Ak1 T)(l:List UInt8)(s:ByteArray)(hl:l.length+s.size≤140737488355328):E8 Tryz.prog 74 [.mo (Dg T l) (Dg T (l++s.data.toList)),.p (.c (.v (.string s)))] [.p (.c (.v (.int .i64 s.size))),.p (.c (.v .nilIface))]:=by
 refine Ac0 (vs:=[.string s]) (zs:=[.int .i64 s.size,.nilIface]) (Ff Tryz.func74 (by kernel_rfl) (by kernel_rfl)) ?_
 rintro w R x F ⟨hx,b,v,rfl,hB,hF⟩
 refine(Rj T hT.lies hT.ne b v _ s w hB (by rw[Lib.byteCells_length];omega)).mono ?_
 rintro e w' ⟨rfl,v',q1,q2,q3⟩
 rw[Ad4,←Acu]at q1;refine⟨rfl,fun k=>k=b∨v'.ownBlock=some k,C6 q2 fun k hk=>(hF k).2 hk,⟨⟨b,rfl⟩,b,v',rfl,q1,fun k=>Iff.rfl⟩,fun k hk=>?_⟩;rcases hk with rfl|hk
 ·exact .inl ((hF _).2 (.inl rfl))
 ·exact(q3 k hk).imp (fun q=>(hF k).2 (.inr q)) id
theorem X8[Glob]{T:TypeId}(l:List UInt8)(h0:l≠[]):E8 Tryz.prog 52 [.mo (Dg T l) Al5] [.p (.c (.v (.string ⟨l.toArray⟩)))]:=by
 refine Ac0 (vs:=[]) (zs:=[.string ⟨l.toArray⟩]) (Ff Tryz.func52 (by kernel_rfl) (by kernel_rfl)) ?_
 rintro w R x F ⟨hx,b,v,rfl,hB,hF⟩
 have hlt:∀k,F k→k<w.heap.size:=fun k hk=>(Dg T l).lt (R:=R) ⟨b,v,rfl,hB,hF⟩ hk;refine(Z1 T b v l w hB h0).mono ?_
 rintro e w' ⟨rfl,q⟩
 exact⟨rfl,F,C6 q fun k hk=>(hF k).2 hk,⟨hx,fun k hk=>XH (hlt k hk) q.size⟩,fun k hk=>.inl hk⟩
section
open Go.Shelf
def Tryz.laysM171_ren:Go.Shelf.Ren:=⟨fun|171=>75|243=>85|246=>96|283=>104|284=>105|285=>106|286=>107|129=>116|317=>115|318=>117|319=>118|320=>119|337=>124|338=>125|n=>n,fun|3=>3|9=>9|2=>2|4=>4|171=>138|0=>0|53=>139|37=>79|5=>5|173=>142|212=>152|51=>153|20=>20|213=>154|46=>145|232=>163|233=>164|n=>n,fun|17=>3|18=>4|19=>5|n=>n⟩
theorem Tryz.laysM171:Go.Proofs.LaysM.n171 Tryz.prog Tryz.laysM171_ren:={
 mixed:=by kernel_rfl
 f129:=Tryz.func116.trans (congrArg some (by kernel_rfl))
 f171:=Tryz.func75.trans (congrArg some (by kernel_rfl))
 f243:=Tryz.func85.trans (congrArg some (by kernel_rfl))
 f246:=Tryz.func96.trans (congrArg some (by kernel_rfl))
 f283:=Tryz.func104.trans (congrArg some (by kernel_rfl))
 f284:=Tryz.func105.trans (congrArg some (by kernel_rfl))
 f285:=Tryz.func106.trans (congrArg some (by kernel_rfl))
 f286:=Tryz.func107.trans (congrArg some (by kernel_rfl))
 f317:=Tryz.func115.trans (congrArg some (by kernel_rfl))
 f318:=Tryz.func117.trans (congrArg some (by kernel_rfl))
 f319:=Tryz.func118.trans (congrArg some (by kernel_rfl))
 f320:=Tryz.func119.trans (congrArg some (by kernel_rfl))
 f337:=Tryz.func124.trans (congrArg some (by kernel_rfl))
 f338:=Tryz.func125.trans (congrArg some (by kernel_rfl))
 t0:=Tryz.underlying0
 a0:=Tryz.isAgg0
 z0:=Tryz.sizeOf0
 v0:=Tryz.zeroValue0
 t2:=Tryz.underlying2
 a2:=Tryz.isAgg2
 z2:=Tryz.sizeOf2
 v2:=Tryz.zeroValue2
 t3:=Tryz.underlying3
 a3:=Tryz.isAgg3
 z3:=Tryz.sizeOf3
 v3:=Tryz.zeroValue3
 t4:=Tryz.underlying4
 a4:=Tryz.isAgg4
 z4:=Tryz.sizeOf4
 v4:=Tryz.zeroValue4
 t5:=Tryz.underlying5
 a5:=Tryz.isAgg5
 z5:=Tryz.sizeOf5
 v5:=Tryz.zeroValue5
 t9:=Tryz.underlying9
 a9:=Tryz.isAgg9
 z9:=Tryz.sizeOf9
 v9:=Tryz.zeroValue9
 t20:=Tryz.underlying20
 a20:=Tryz.isAgg20
 z20:=Tryz.sizeOf20
 v20:=Tryz.zeroValue20
 t37:=Tryz.underlying79
 a37:=Tryz.isAgg79
 z37:=Tryz.sizeOf79
 v37:=Tryz.zeroValue79
 t46:=Tryz.underlying145
 a46:=Tryz.isAgg145
 z46:=Tryz.sizeOf145
 v46:=Tryz.zeroValue145
 t51:=Tryz.underlying153
 a51:=Tryz.isAgg153
 z51:=Tryz.sizeOf153
 v51:=Tryz.zeroValue153
 t53:=Tryz.underlying139
 a53:=Tryz.isAgg139
 z53:=Tryz.sizeOf139
 v53:=Tryz.zeroValue139
 t171:=Tryz.underlying138
 a171:=Tryz.isAgg138
 z171:=Tryz.sizeOf138
 v171:=Tryz.zeroValue138
 t173:=Tryz.underlying142
 a173:=Tryz.isAgg142
 z173:=Tryz.sizeOf142
 v173:=Tryz.zeroValue142
 t212:=Tryz.underlying152
 a212:=Tryz.isAgg152
 z212:=Tryz.sizeOf152
 v212:=Tryz.zeroValue152
 t213:=Tryz.underlying154
 a213:=Tryz.isAgg154
 z213:=Tryz.sizeOf154
 t232:=Tryz.underlying163
 a232:=Tryz.isAgg163
 z232:=Tryz.sizeOf163
 v232:=Tryz.zeroValue163
 t233:=Tryz.underlying164
 a233:=Tryz.isAgg164
 z233:=Tryz.sizeOf164
 v233:=Tryz.zeroValue164
 g17:=by kernel_rfl
 g18:=by kernel_rfl
 g19:=by kernel_rfl
 i0:=by kernel_rfl
 i2:=by kernel_rfl
 i3:=by kernel_rfl
 i4:=by kernel_rfl
 i5:=by kernel_rfl
 i9:=by kernel_rfl
 i20:=by kernel_rfl
 i37:=by kernel_rfl
 i46:=by kernel_rfl
 i51:=by kernel_rfl
 i53:=by kernel_rfl
 i171:=by kernel_rfl
 i173:=by kernel_rfl
 i212:=by kernel_rfl
 i232:=by kernel_rfl
 i233:=by kernel_rfl
 m17:=by kernel_rfl
 m18:=by kernel_rfl
 m19:=by kernel_rfl}
def Tryz.laysC172_ren:Go.Shelf.Ren:=⟨fun|172=>83|244=>93|245=>94|247=>99|279=>100|280=>101|281=>102|282=>103|287=>112|316=>113|171=>75|205=>114|321=>122|322=>123|243=>85|246=>96|283=>104|284=>105|285=>106|286=>107|129=>116|317=>115|318=>117|319=>118|320=>119|337=>124|338=>125|n=>n,fun|9=>9|3=>3|75=>114|76=>115|4=>4|5=>5|167=>132|37=>79|0=>0|85=>133|2=>2|168=>135|53=>139|175=>146|46=>145|210=>149|127=>118|145=>161|143=>159|21=>21|171=>138|173=>142|212=>152|51=>153|20=>20|213=>154|232=>163|233=>164|80=>70|n=>n,fun|15=>1|16=>2|17=>3|18=>4|19=>5|n=>n⟩
theorem Tryz.laysC172:Go.Proofs.LaysC.n172 Tryz.prog Tryz.laysC172_ren:={
 mixed:=by kernel_rfl
 f129:=Tryz.func116.trans (congrArg some (by kernel_rfl))
 f171:=Tryz.func75.trans (congrArg some (by kernel_rfl))
 f172:=Tryz.func83.trans (congrArg some (by kernel_rfl))
 f205:=Tryz.func114.trans (congrArg some (by kernel_rfl))
 f243:=Tryz.func85.trans (congrArg some (by kernel_rfl))
 f244:=Tryz.func93.trans (congrArg some (by kernel_rfl))
 f245:=Tryz.func94.trans (congrArg some (by kernel_rfl))
 f246:=Tryz.func96.trans (congrArg some (by kernel_rfl))
 f247:=Tryz.func99.trans (congrArg some (by kernel_rfl))
 f279:=Tryz.func100.trans (congrArg some (by kernel_rfl))
 f280:=Tryz.func101.trans (congrArg some (by kernel_rfl))
 f281:=Tryz.func102.trans (congrArg some (by kernel_rfl))
 f282:=Tryz.func103.trans (congrArg some (by kernel_rfl))
 f283:=Tryz.func104.trans (congrArg some (by kernel_rfl))
 f284:=Tryz.func105.trans (congrArg some (by kernel_rfl))
 f285:=Tryz.func106.trans (congrArg some (by kernel_rfl))
 f286:=Tryz.func107.trans (congrArg some (by kernel_rfl))
 f287:=Tryz.func112.trans (congrArg some (by kernel_rfl))
 f316:=Tryz.func113.trans (congrArg some (by kernel_rfl))
 f317:=Tryz.func115.trans (congrArg some (by kernel_rfl))
 f318:=Tryz.func117.trans (congrArg some (by kernel_rfl))
 f319:=Tryz.func118.trans (congrArg some (by kernel_rfl))
 f320:=Tryz.func119.trans (congrArg some (by kernel_rfl))
 f321:=Tryz.func122.trans (congrArg some (by kernel_rfl))
 f322:=Tryz.func123.trans (congrArg some (by kernel_rfl))
 f337:=Tryz.func124.trans (congrArg some (by kernel_rfl))
 f338:=Tryz.func125.trans (congrArg some (by kernel_rfl))
 t0:=Tryz.underlying0
 a0:=Tryz.isAgg0
 z0:=Tryz.sizeOf0
 v0:=Tryz.zeroValue0
 t2:=Tryz.underlying2
 a2:=Tryz.isAgg2
 z2:=Tryz.sizeOf2
 v2:=Tryz.zeroValue2
 t3:=Tryz.underlying3
 a3:=Tryz.isAgg3
 z3:=Tryz.sizeOf3
 v3:=Tryz.zeroValue3
 t4:=Tryz.underlying4
 a4:=Tryz.isAgg4
 z4:=Tryz.sizeOf4
 v4:=Tryz.zeroValue4
 t5:=Tryz.underlying5
 a5:=Tryz.isAgg5
 z5:=Tryz.sizeOf5
 v5:=Tryz.zeroValue5
 t9:=Tryz.underlying9
 a9:=Tryz.isAgg9
 z9:=Tryz.sizeOf9
 v9:=Tryz.zeroValue9
 t20:=Tryz.underlying20
 a20:=Tryz.isAgg20
 z20:=Tryz.sizeOf20
 v20:=Tryz.zeroValue20
 t21:=Tryz.underlying21
 a21:=Tryz.isAgg21
 z21:=Tryz.sizeOf21
 v21:=Tryz.zeroValue21
 t37:=Tryz.underlying79
 a37:=Tryz.isAgg79
 z37:=Tryz.sizeOf79
 v37:=Tryz.zeroValue79
 t46:=Tryz.underlying145
 a46:=Tryz.isAgg145
 z46:=Tryz.sizeOf145
 v46:=Tryz.zeroValue145
 t51:=Tryz.underlying153
 a51:=Tryz.isAgg153
 z51:=Tryz.sizeOf153
 v51:=Tryz.zeroValue153
 t53:=Tryz.underlying139
 a53:=Tryz.isAgg139
 z53:=Tryz.sizeOf139
 v53:=Tryz.zeroValue139
 t75:=Tryz.underlying114
 a75:=Tryz.isAgg114
 z75:=Tryz.sizeOf114
 v75:=Tryz.zeroValue114
 t76:=Tryz.underlying115
 a76:=Tryz.isAgg115
 z76:=Tryz.sizeOf115
 v76:=Tryz.zeroValue115
 t85:=Tryz.underlying133
 a85:=Tryz.isAgg133
 z85:=Tryz.sizeOf133
 v85:=Tryz.zeroValue133
 t127:=Tryz.underlying118
 a127:=Tryz.isAgg118
 z127:=Tryz.sizeOf118
 v127:=Tryz.zeroValue118
 t143:=Tryz.underlying159
 a143:=Tryz.isAgg159
 z143:=Tryz.sizeOf159
 v143:=Tryz.zeroValue159
 t145:=Tryz.underlying161
 a145:=Tryz.isAgg161
 z145:=Tryz.sizeOf161
 v145:=Tryz.zeroValue161
 t167:=Tryz.underlying132
 a167:=Tryz.isAgg132
 z167:=Tryz.sizeOf132
 v167:=Tryz.zeroValue132
 t168:=Tryz.underlying135
 a168:=Tryz.isAgg135
 z168:=Tryz.sizeOf135
 v168:=Tryz.zeroValue135
 t171:=Tryz.underlying138
 a171:=Tryz.isAgg138
 z171:=Tryz.sizeOf138
 v171:=Tryz.zeroValue138
 t173:=Tryz.underlying142
 a173:=Tryz.isAgg142
 z173:=Tryz.sizeOf142
 v173:=Tryz.zeroValue142
 t175:=Tryz.underlying146
 a175:=Tryz.isAgg146
 z175:=Tryz.sizeOf146
 v175:=Tryz.zeroValue146
 t210:=Tryz.underlying149
 a210:=Tryz.isAgg149
 z210:=Tryz.sizeOf149
 v210:=Tryz.zeroValue149
 t212:=Tryz.underlying152
 a212:=Tryz.isAgg152
 z212:=Tryz.sizeOf152
 v212:=Tryz.zeroValue152
 t213:=Tryz.underlying154
 a213:=Tryz.isAgg154
 z213:=Tryz.sizeOf154
 t232:=Tryz.underlying163
 a232:=Tryz.isAgg163
 z232:=Tryz.sizeOf163
 v232:=Tryz.zeroValue163
 t233:=Tryz.underlying164
 a233:=Tryz.isAgg164
 z233:=Tryz.sizeOf164
 v233:=Tryz.zeroValue164
 g15:=by kernel_rfl
 g16:=by kernel_rfl
 g17:=by kernel_rfl
 g18:=by kernel_rfl
 g19:=by kernel_rfl
 t80:=Tryz.underlying70
 a80:=Tryz.isAgg70
 z80:=Tryz.sizeOf70
 v80:=Tryz.zeroValue70
 i0:=by kernel_rfl
 i2:=by kernel_rfl
 i3:=by kernel_rfl
 i4:=by kernel_rfl
 i5:=by kernel_rfl
 i9:=by kernel_rfl
 i20:=by kernel_rfl
 i21:=by kernel_rfl
 i37:=by kernel_rfl
 i46:=by kernel_rfl
 i51:=by kernel_rfl
 i53:=by kernel_rfl
 i75:=by kernel_rfl
 i76:=by kernel_rfl
 i80:=by kernel_rfl
 i85:=by kernel_rfl
 i127:=by kernel_rfl
 i143:=by kernel_rfl
 i145:=by kernel_rfl
 i167:=by kernel_rfl
 i168:=by kernel_rfl
 i171:=by kernel_rfl
 i173:=by kernel_rfl
 i175:=by kernel_rfl
 i210:=by kernel_rfl
 i212:=by kernel_rfl
 i232:=by kernel_rfl
 i233:=by kernel_rfl
 m15:=by kernel_rfl
 m16:=by kernel_rfl
 m17:=by kernel_rfl
 m18:=by kernel_rfl
 m19:=by kernel_rfl
 c0:=by kernel_rfl
 c2:=by kernel_rfl
 c3:=by kernel_rfl
 c4:=by kernel_rfl
 c5:=by kernel_rfl
 c9:=by kernel_rfl
 c20:=by kernel_rfl
 c21:=by kernel_rfl
 c37:=by kernel_rfl
 c46:=by kernel_rfl
 c51:=by kernel_rfl
 c53:=by kernel_rfl
 c75:=by kernel_rfl
 c76:=by kernel_rfl
 c80:=by kernel_rfl
 c85:=by kernel_rfl
 c127:=by kernel_rfl
 c143:=by kernel_rfl
 c145:=by kernel_rfl
 c167:=by kernel_rfl
 c168:=by kernel_rfl
 c171:=by kernel_rfl
 c173:=by kernel_rfl
 c175:=by kernel_rfl
 c210:=by kernel_rfl
 c212:=by kernel_rfl
 c213:=by kernel_rfl
 c232:=by kernel_rfl
 c233:=by kernel_rfl}
end
open Pl
class Tabs [Glob]:Prop where
 pow : ∀ (w : World) (L : Nat → Prop), Bz w L → Lib.TabIs Tryz.prog w "internal/strconv.uint64pow10" .u64 Lib.pow10Tab
 syn:∀(w:World) (L:Nat→Prop),Bz w L→∃ev,w.cell? ⟨Tryz.laysC172_ren.g 15,0,none⟩=some ev∧(ev=.nilIface∨∃te pe,ev=.iface te pe)
 ran:∀(w:World) (L:Nat→Prop),Bz w L→∃ev,w.cell? ⟨Tryz.laysC172_ren.g 16,0,none⟩=some ev∧(ev=.nilIface∨∃te pe,ev=.iface te pe)
theorem G6[Glob]{P:Program}{f:FuncId}{xs ys:List Value}(hF:Fun P f (xs.map fun x=>.c (.v x)) (ys.map fun x=>.c (.v x)))(w:World){L:Nat→Prop}(hg:Bz w L):Calls P f xs.toArray w fun e w'=>e=.returned (Db ys)∧Fr (fun _=>False) w w':=by
 have hn:∀b,¬A7 (xs.map fun x=>.c (.v x)) xs b:=fun b=>Fa (fun p hp=>by simp at hp;obtain⟨x,_,rfl⟩:=hp;exact⟨_,rfl⟩);refine(hF.2 w (fun _=>False) xs (fun _ h=>h.elim) ⟨by simp,fun i p x h1 h2=>?_,fun i j T sz rows T' sz' rows' x y b _ h1=>?_,fun b hb=>absurd hb (hn b)⟩ (fun b o q=>⟨(hg b o q).1,hn b⟩)).mono ?_
 ·rw[XJ,h2]at h1;cases h1;exact .v _
 ·rw[XJ]at h1;cases h:xs[i]? <;>rw[h]at h1<;>cases h1
 ·rintro e w' ⟨zs,R',rfl,hf,_,_,hp,_⟩
  obtain rfl:=Adr hp;exact⟨rfl,C6 hf fun k hk=>hn k hk⟩
theorem Ul[Glob][Tabs](n:Int)(h0: -9223372036854775808≤n)(h1:n≤9223372036854775807):Fun Tryz.prog 75 [.c (.v (.int .i64 n))] [.c (.v (.string ⟨(Lib.itoa n).toArray⟩))]:=
 Vx (xs:=[.int .i64 n]) (Ff Tryz.func75 (by kernel_rfl) (by kernel_rfl)) fun w L hg=>by
  exact(Any.strconv_Itoa Tryz.laysM171 n h0 h1 w (Tabs.pow w L hg)).mono fun e w' ⟨h,k,os,hw⟩=>⟨h,hw▸Lib.below_grow _ _ (ZT _) k os⟩
namespace Pl
def L1(s:ByteArray)(c:UInt8):Option (ByteArray×ByteArray):=if ixb s c<0 then none else some (s.extract 0 (ixb s c).toNat,s.extract ((ixb s c).toNat+1) s.size)
def Zn(s:ByteArray):Option Int:=match Lib.atoiAll s.data.toList with
 |.ok n=>if Lib.itoa n=s.data.toList then some n else none
 |_=>none
def Cd(s:ByteArray):Option (Int×ByteArray):=(L1 s 59).bind fun p=>(Zn p.1).map fun n=>(n,p.2)
end Pl
section
open Go.Lib
namespace Pl
def isD(c:UInt8):Prop:=48≤c.toNat∧c.toNat≤57
theorem Sf{k:Nat}(h:k<10):(UInt8.ofNat (48+k)).toNat=48+k:=by rw[UInt8.toNat_ofNat'];omega
theorem Lf(u:Nat):∀c∈decDigits u,isD c:=by
 induction u using Nat.strongRecOn with
 |_ u ih=>
  intro c hc;rw[decDigits]at hc;split at hc
  ·simp only[XN]at hc;subst hc;have:=Sf (k:=u) (by omega);unfold isD;omega
  ·rcases XM.1 hc with h|h
   ·exact ih _ (by omega) c h
   ·simp only[XN]at h;subst h;have:=Sf (k:=u%10) (by omega);unfold isD;omega
theorem Aam(u:Nat):decDigits u≠[]:=fun h=>by
 have h1:=decDigits_length u;have h2:=nDigits_pos u;rw[h]at h1;simp at h1;omega
def P0(acc:Nat)(l:List UInt8):Nat:=l.foldl (fun a c=>a*10+(c.toNat-48)) acc
theorem Af2(acc:Nat)(l r:List UInt8):P0 acc (l++r)=P0 (P0 acc l) r:=by simp[P0]
theorem K5(u:Nat):P0 0 (decDigits u)=u:=by
 induction u using Nat.strongRecOn with
 |_ u ih=>
  rw[decDigits];split
  ·have:=Sf (k:=u) (by omega);show 0*10+((UInt8.ofNat (48+u)).toNat-48)=u;omega
  ·rw[Af2,ih _ (by omega)];have:=Sf (k:=u%10) (by omega);show u/10*10+((UInt8.ofNat (48+u%10)).toNat-48)=u;omega
theorem Ws:∀(l:List UInt8) (acc:Nat),acc≤P0 acc l
 |[],acc=>ZT _
 |c::l,acc=>by
  have:=Ws l (acc*10+(c.toNat-48));show acc≤P0 (acc*10+(c.toNat-48)) l;omega
theorem Vi:∀(l:List UInt8) (acc:Nat),(∀c∈l,isD c)→P0 acc l<18446744073709551616→parseUint10 acc l=.ok (P0 acc l)
 |[],acc,_,_=>rfl
 |c::l,acc,h,hv=>by
  have h1:48≤c.toNat∧c.toNat≤57:=h c (XB ..);have hv':P0 (acc*10+(c.toNat-48)) l<18446744073709551616:=hv;have h2:=Ws l (acc*10+(c.toNat-48));rw[parseUint10,if_pos h1,if_neg (by omega),if_neg (by omega)];exact Vi l _ (fun x hx=>h x (ZL _ hx)) hv'
theorem Ab8{u:Nat}(h:u<18446744073709551616):parseMag (decDigits u)=.ok u:=by
 unfold parseMag;rw[if_neg (Aam u),Vi _ _ (Lf u) (by rw[K5];exact h),K5]
theorem Acj{n:Int}(h0: -9223372036854775808≤n)(h1:n≤9223372036854775807):atoiAll (itoa n)=.ok n:=by
 unfold itoa;split
 ·rw[atoiAll_minus,Ab8 (by omega)];show(if 9223372036854775808<n.natAbs then NumEnd.range else NumEnd.ok (-(n.natAbs:Int)))=_;rw[if_neg (by omega)];congr 1;omega
 ·cases hd:decDigits n.toNat with
  |nil=>exact absurd hd (Aam _)
  |cons c r=>
   have hc:48≤c.toNat∧c.toNat≤57:=Lf n.toNat c (by rw[hd];exact XB ..);rw[atoiAll_plain c r (by omega) (by omega),←hd,Ab8 (by omega)];show(if 9223372036854775808≤n.toNat then NumEnd.range else NumEnd.ok (n.toNat:Int))=_;rw[if_neg (by omega)];congr 1;omega
theorem Agv(n:Int):∀c∈itoa n,c≠59:=fun c hc e=>by
 subst e;unfold itoa at hc;split at hc
 ·rcases XC.1 hc with h|h
  ·cases h
  ·have:=Lf _ _ h;unfold isD at this;revert this;decide
 ·have:=Lf _ _ hc;unfold isD at this;revert this;decide
theorem Aed{l r:List UInt8}(h:∀c∈l,c≠59):indexByte (l++59::r) 59=l.length:=by
 induction l with
 |nil=>simp[indexByte]
 |cons a l ih=>
  have h1:=ih fun c hc=>h c (ZL _ hc);have h2:=h a (XB ..);show(if a==59 then(0:Int)else if indexByte (l++59::r) 59== -1 then -1 else indexByte (l++59::r) 59+1)=_;rw[if_neg (by simpa using h2),h1,if_neg (by simp)];simp
def bA(l:List UInt8):ByteArray:=⟨l.toArray⟩
theorem Jl(l:List UInt8):(bA l).data.toList=l:=by simp[bA]
theorem Ax(l:List UInt8):(bA l).size=l.length:=by simp[bA,ByteArray.size]
theorem Afx{s:ByteArray}{l:List UInt8}(h:s.data.toList=l):s=bA l:=by subst h;simp[bA]
theorem Q3(s:ByteArray):bA s.data.toList=s:=(Afx rfl).symm
theorem Ek(l:List UInt8)(a b:Nat):(bA l).extract a b=bA ((l.take b).drop a):=by
 apply Afx;rw[ByteArray.data_extract,Array.toList_extract];simp only[bA];rw[List.extract_eq_take_drop,List.drop_take]
def A8(n:Int):List UInt8:=itoa n++[59]
def isI(n:Int):Prop:= -9223372036854775808≤n∧n≤9223372036854775807
theorem Hg{n:Int}(h:isI n)(r:List UInt8):Cd (bA (A8 n++r))=some (n,bA r):=by
 have e:A8 n++r=itoa n++59::r:=by simp[A8]
 have hi:ixb (bA (itoa n++59::r)) 59=(itoa n).length:=by unfold ixb;rw[Jl];exact Aed (Agv n)
 unfold Cd L1;rw[e,hi,if_neg (by omega),Int.toNat_natCast,Ek,Ek,Ax];have e1:((itoa n++59::r).take (itoa n).length).drop 0=itoa n:=by simp
 have e2:((itoa n++59::r).take (itoa n++59::r).length).drop ((itoa n).length+1)=r:=by rw[XF];simp
 rw[e1,e2];simp only[ZA,Zn,Jl,Acj h.1 h.2,if_true,Option.map_some]
theorem F5{s:ByteArray}{p:Int×ByteArray}(h:Cd s=some p):isI p.1∧s.data.toList=A8 p.1++p.2.data.toList:=by
 unfold Cd at h;cases hc:L1 s 59 with
 |none=>rw[hc]at h;cases h
 |some q=>
  rw[hc]at h;simp only[ZA]at h;cases hv:Zn q.1 with
  |none=>rw[hv]at h;cases h
  |some n=>
   rw[hv]at h;simp only[Option.map_some,ZD]at h;subst h;unfold Zn at hv;split at hv
   ·rename_i m hm;split at hv
    ·rename_i he;injection hv with hv
     subst hv;obtain⟨b0,b1⟩:=atoiAll_bounds hm;refine⟨⟨b0,b1⟩,?_⟩;unfold L1 at hc;split at hc
     ·cases hc
     ·rename_i hn;injection hc with hc
      obtain⟨k,hk⟩:=Int.eq_ofNat_of_zero_le (show 0≤ixb s 59 by omega);have hk1:=indexByte_some (show indexByte s.data.toList 59=(k:Int)from hk);have hs:s=bA s.data.toList:=(Q3 s).symm;rw[hk,Int.toNat_natCast]at hc;generalize s.data.toList=l at *;subst hs;rw[Ek,Ek,Ax]at hc;subst hc;simp only[Jl]at he ⊢;unfold A8;rw[he];obtain⟨hlt,hat⟩:=ZB.1 hk1.1;rw[XF,List.drop_zero]
      conv=>lhs;rw[←List.take_append_drop k l,List.drop_eq_getElem_cons hlt,hat]
      simp
    ·cases hv
   ·cases hv
end Pl
end
namespace Pl
section
variable {α:Type} {lt:α→α→Bool} {cf:α→Int} {l:List α}
theorem Rb(htr:∀x y z,lt x y=true→lt y z=true→lt x z=true)(hs:C2 lt l=true):∀j i,(hj:j<l.length)→(hij:i<j)→lt (l[i]'(by omega)) l[j]=true:=by
 intro j
 induction j with
 |zero=>intro i _ h;omega
 |succ j ih=>
  intro i hj hij;have h1:=Tx hs j hj;rcases(by omega:i<j∨i=j)with g|rfl
  ·exact htr _ _ _ (ih i (by omega) g) h1
  ·exact h1
def Adt(cf:α→Int)(l:List α):Prop:=∀i j,(hj:j<l.length)→(hij:i<j)→cf l[j]≤0→cf (l[i]'(by omega))<0
theorem Ag6(htr:∀x y z,lt x y=true→lt y z=true→lt x z=true)(hcf:∀x y,lt x y=true→cf y≤0→cf x<0)(hs:C2 lt l=true):Adt cf l:=
 fun i j hj hij h=>hcf _ _ (Rb htr hs j i hj hij) h
theorem Aab(h:hit cf l=true):low cf l<l.length:=by
 rcases Nat.lt_or_ge (low cf l) l.length with g|g
 ·exact g
 ·rw[Ah1 (by omega)]at h;cases h
theorem Aer(h:hit cf l=true):cf (l[low cf l]'(Aab h))=0:=by
 have:=Ae2 (Aab h);rw[this]at h;simpa using h
theorem Ad0{x:α}(hx:x∈l.take (low cf l)):cf x<0:=by
 obtain⟨i,hi,rfl⟩:=List.getElem_of_mem hx;rw[ZM]at hi;rw[List.getElem_take];exact Ag8 (by omega) (by omega)
theorem Aap(hm:Adt cf l)(h:hit cf l=false){x:α}(hx:x∈l.drop (low cf l)):0<cf x:=by
 obtain⟨i,hi,rfl⟩:=List.getElem_of_mem hx;rw[List.length_drop]at hi;rw[List.getElem_drop];have hlo:low cf l<l.length:=by omega
 have h0:=Adi hlo;have h1:cf l[low cf l]≠0:=by
  rw[Ae2 hlo]at h;simpa using h
 rcases Nat.eq_zero_or_pos i with rfl|hp
 ·simp only[Nat.add_zero];omega
 ·have:=hm (low cf l) (low cf l+i) (by omega) (by omega);omega
theorem Afc{k:Nat}(hk:k<l.length):l=l.take k++l[k]::l.drop (k+1):=by
 rw[←List.drop_eq_getElem_cons hk,List.take_append_drop]
def X4(cf:α→Int)(g:α)(l:List α):List α:=if hit cf l=true then l.set (low cf l) g else l.take (low cf l)++[g]++l.drop (low cf l)
end
end Pl
namespace Pl
structure Ord{α:Type}(lt:α→α→Bool)(cf:α→α→Int):Prop where
 neg:∀g x,cf g x<0↔lt x g=true
 pos:∀g x,0<cf g x↔lt g x=true
 trans:∀x y z,lt x y=true→lt y z=true→lt x z=true
 left:∀g x y,cf g x=0→lt x y=lt g y
 right:∀g x y,cf g x=0→lt y x=lt y g
section
variable {α:Type} {lt:α→α→Bool} {cf:α→α→Int} {l:List α}
theorem Ord.smono(o:Ord lt cf)(hs:C2 lt l=true)(g:α):Adt (cf g) l:=
 Ag6 o.trans (fun x y h hy=>by
  rw[o.neg];rcases(by omega:cf g y<0∨cf g y=0)with q|q
  ·exact o.trans _ _ _ h ((o.neg g y).1 q)
  ·rw[←o.right g y x q];exact h) hs
theorem T9(h:∀j i,(hj:j<l.length)→(hij:i<j)→lt (l[i]'(by omega)) l[j]=true):C2 lt l=true:=
 Dv fun i hi=>h (i+1) i hi (by omega)
theorem Aa8(ht:∀x y z,lt x y=true→lt y z=true→lt x z=true):C2 lt l=true↔l.Pairwise (fun x y=>lt x y=true):=by
 constructor
 ·intro h;rw[List.pairwise_iff_getElem];intro i j hi hj hij;exact Rb ht h j i hj hij
 ·intro h;rw[List.pairwise_iff_getElem]at h;exact T9 fun j i hj hij=>h i j (by omega) hj hij
theorem Ord.put(o:Ord lt cf)(hs:C2 lt l=true)(g:α):C2 lt (X4 (cf g) g l)=true:=by
 have hm:=o.smono hs g;rw[Aa8 o.trans]at hs ⊢;unfold X4;split
 ·rename_i h;have hl:=Aab h;have h0:=Aer h;rw[List.set_eq_take_append_cons_drop,if_pos hl];have e:=Afc hl;rw[e]at hs;rw[List.pairwise_append,List.pairwise_cons]at hs ⊢;refine⟨hs.1,⟨fun y hy=>?_,hs.2.1.2⟩,fun x hx y hy=>?_⟩
  ·rw[←o.left g _ y h0];exact hs.2.1.1 y hy
  ·rcases XC.1 hy with rfl|hy
   ·rw[←o.right _ _ x h0];exact hs.2.2 x hx _ (XB ..)
   ·exact hs.2.2 x hx y (ZL _ hy)
 ·rename_i h;have hf:hit (cf g) l=false:=by simpa using h
  have e:l=l.take (low (cf g) l)++l.drop (low (cf g) l):=(List.take_append_drop _ _).symm;rw[e,List.pairwise_append]at hs;rw[ZS,List.pairwise_append,List.singleton_append,List.pairwise_cons];refine⟨hs.1,⟨fun y hy=>(o.pos g y).1 (Aap hm hf hy),hs.2.1⟩,fun x hx y hy=>?_⟩;rcases XC.1 hy with rfl|hy
  ·exact(o.neg _ x).1 (Ad0 hx)
  ·exact hs.2.2 x hx y hy
def upd(cf:α→α→Int)(nw:α→α→Bool)(l:List α)(g:α):List α:=
 match l[low (cf g) l]? with
 |some x=>if hit (cf g) l=true∧nw g x=false then l else X4 (cf g) g l
 |none=>X4 (cf g) g l
theorem Acd(nw:α→α→Bool)(g:α):upd cf nw l g=l∨upd cf nw l g=X4 (cf g) g l:=by
 unfold upd;split
 ·split
  ·exact .inl rfl
  ·exact .inr rfl
 ·exact .inr rfl
theorem Ord.upd(o:Ord lt cf)(nw:α→α→Bool)(hs:C2 lt l=true)(g:α):C2 lt (upd cf nw l g)=true:=by
 rcases Acd (cf:=cf) (l:=l) nw g with h|h
 ·rw[h];exact hs
 ·rw[h];exact o.put hs g
end
end Pl
namespace Pl
section
variable {α:Type} {cf:α→α→Int} {nw:α→α→Bool} {l:List α} {g:α}
end
end Pl
namespace Pl
def L8{α:Type}(e:α→α→Bool)(a b:List α):Bool:=decide (a.length=b.length)&&(List.zip a b).all fun x=>e x.1 x.2
theorem Pp{α:Type}{e:α→α→Bool}{a b:List α}(h:a.length≠b.length):L8 e a b=false:=by simp[L8,h]
theorem Ow{α:Type}{e:α→α→Bool}{a b:List α}{k:Nat}(h1:k<a.length)(h2:k<b.length)(h:e a[k] b[k]=false):L8 e a b=false:=by
 unfold L8;rw[Bool.and_eq_false_iff];right;rw[List.all_eq_false];have hz:k<(List.zip a b).length:=by simp;omega
 exact⟨(List.zip a b)[k],ZK hz,by simp[h]⟩
theorem K3{α:Type}{e:α→α→Bool}{a b:List α}(hl:a.length=b.length)(h:∀k,(h1:k<a.length)→(h2:k<b.length)→e a[k] b[k]=true):L8 e a b=true:=by
 unfold L8;rw[Bool.and_eq_true_iff];refine⟨by simpa using hl,List.all_eq_true.2 fun x hx=>?_⟩;obtain⟨k,hk,rfl⟩:=List.getElem_of_mem hx;simp at hk ⊢;exact h k (by omega) (by omega)
theorem Ln{α:Type}{e:α→α→Bool}(he:∀x,e x x=true)(a:List α):L8 e a a=true:=K3 rfl fun k _ _=>he _
end Pl
namespace Pl
def okB(n:Int):Bool:=decide ((97≤n∧n≤122)∨(48≤n∧n≤57)∨n=45∨n=95)
def lab(s:List UInt8):Bool:=s.all (fun c=>okB c.toNat)&&decide (1≤s.length∧s.length≤30)
theorem Abj{s:List UInt8}(h:∀i,(hi:i<s.length)→okB (s[i]).toNat=true)(h1:1≤s.length)(h2:s.length≤30):lab s=true:=by
 unfold lab;rw[Bool.and_eq_true_iff];refine⟨List.all_eq_true.2 fun c hc=>?_,by simp;omega⟩;obtain⟨i,hi,rfl⟩:=List.getElem_of_mem hc;exact h i hi
theorem Ags{s:List UInt8}{i:Nat}(hi:i<s.length)(h:okB (s[i]).toNat=false):lab s=false:=by
 unfold lab;rw[Bool.and_eq_false_iff];left;rw[List.all_eq_false];exact⟨s[i],ZK hi,by simp[h]⟩
theorem Yz{s:List UInt8}(h:¬(1≤s.length∧s.length≤30)):lab s=false:=by
 unfold lab;simp only[h,decide_false,Bool.and_false]
theorem Adu{n:Int}(h:¬((97≤n∧n≤122)∨(48≤n∧n≤57)∨n=45∨n=95)):okB n=false:=by
 unfold okB;simpa using h
theorem Aax{n:Int}(h:(97≤n∧n≤122)∨(48≤n∧n≤57)∨n=45∨n=95):okB n=true:=by
 unfold okB;simpa using h
end Pl
theorem Nz(a:ByteArray)(w:World):Calls Tryz.prog 97 #[.string a] w fun e w'=>e=.returned (.bool false)∧w=w':=by
 have h:(a.toList==a.toList)=true:=by simp
 go_enter Tryz.func97,Tryz.ntmps97
 go_wp2
 go_ret
 exact⟨K4 (by simp),rfl⟩
theorem Adq(a b:ByteArray)(w:World):Calls Tryz.prog 90 #[.string a,.string b] w fun e w'=>e=.returned (.int .i64 (E4 a b))∧w=w':=by
 rcases Bool.eq_false_or_eq_true (slt a b)with h|h
 ·have HE:=hid (Ah4 h);unfold slt at h
  go_enter Tryz.func90,Tryz.ntmps90
  go_wp2_with (go_at_call 97;refine(Nz _ _).mono ?_;rintro e w' ⟨rfl,rfl⟩)
  go_ret
  exact⟨Wj HE.out.symm,rfl⟩
 ·rcases Bool.eq_false_or_eq_true (slt b a)with g|g
  ·have HE:=hid (Agw g);have h2:(a.toList==b.toList)=false:=W5 (fun e=>by subst e;rw[Ej]at g;cases g);unfold slt at h;clear g
   go_enter Tryz.func90,Tryz.ntmps90
   go_wp2_with (go_at_call 97;refine(Nz _ _).mono ?_;rintro e w' ⟨rfl,rfl⟩)
   go_ret
   exact⟨Wj HE.out.symm,rfl⟩
  ·obtain rfl:=Xh h g;have HE:=hid (Sc a);have h2:(a.toList==a.toList)=true:=by simp
   unfold slt at h;clear g
   go_enter Tryz.func90,Tryz.ntmps90
   go_wp2_with (go_at_call 97;refine(Nz _ _).mono ?_;rintro e w' ⟨rfl,rfl⟩)
   go_ret
   exact⟨Wj HE.out.symm,rfl⟩
def Uf(a b:Int):Int:=if a<b then -1 else if b<a then 1 else 0
def Dk:List Int→Int
 |[]=>0
 |x::r=>if x=0 then Dk r else x
theorem Tj:∀{l:List Int} {k:Nat} (hk:k<l.length),(∀i,(h:i<l.length)→i<k→l[i]=0)→l[k]≠0→Dk l=l[k]
 |x::r,0,_,_,hne=>by
  simp only[List.getElem_cons_zero]at hne ⊢;simp[Dk,hne]
 |x::r,k+1,hk,h,hne=>by
  have h0:x=0:=h 0 (by simp) (by omega);subst h0;simp only[Dk,if_true,List.getElem_cons_succ]at hne ⊢;exact Tj (by simpa using hk) (fun i hi hik=>h (i+1) (by simpa using hi) (by omega)) hne
theorem Oz:∀{l:List Int},(∀i,(h:i<l.length)→l[i]=0)→Dk l=0
 |[],_=>rfl
 |x::r,h=>by
  have h0:x=0:=h 0 (by simp);subst h0;simp only[Dk,if_true];exact Oz fun i hi=>h (i+1) (by simpa using hi)
theorem Xk{s:ByteArray}{k:Nat}(h:∀j,(hj:j<s.data.toList.length)→j<k→okB (s.data.toList[j]).toNat=true)(hlt:k<s.size)(hk:okB (s[k]).toNat=true):
  ∀j,(hj:j<s.data.toList.length)→j<k+1→okB (s.data.toList[j]).toNat=true:=by
 intro j hj hjk;rcases(by omega:j<k∨j=k)with g|rfl
 ·exact h j hj g
 ·exact hk
theorem Pe(s:ByteArray):s.toList.isEmpty=decide (s.size=0):=by
 rw[ByteArray.toList_eq,Bool.eq_iff_iff,List.isEmpty_iff_length_eq_zero,decide_eq_true_eq,Array.length_toList];rfl
theorem Ae7{s:ByteArray}(h1:1≤s.size∧s.size≤30→lab s.data.toList=true)(h2:¬(1≤s.size∧s.size≤30)→lab s.data.toList=false)(e:s.toList.isEmpty=false):decide ((s.size:Int)≤30)=lab s.data.toList:=by
 have e0:s.size≠0:=by simpa[Pe]using e
 by_cases g:s.size≤30
 ·rw[h1 ⟨by omega,g⟩];simp;omega
 ·rw[h2 (by omega)];simp;omega
theorem Ag5{s:ByteArray}(h2:¬(1≤s.size∧s.size≤30)→lab s.data.toList=false)(e:s.toList.isEmpty=true):false=lab s.data.toList:=by
 have e0:s.size=0:=by simpa[Pe]using e
 rw[h2 (by omega)]
theorem Af9(w:World)(C:Array Value)(t:TypeId)(fr:Nat×Nat)(k:Nat):(w.alloc (.cells C t fr)).drew.cell? ⟨w.heap.size,k,none⟩=C[k]? :=by
 have h:(w.alloc (.cells C t fr)).drew.heap[w.heap.size]? =some (.cells C t fr):=heap_alloc_new w _;unfold World.cell?;rw[h];rfl
theorem Abl{s:ByteArray}{k:Nat}(hlt:k<s.size)(hk:okB (s[k]).toNat=false):false=lab s.data.toList:=
 (Ags (i:=k) (s:=s.data.toList) (by simpa using hlt) hk).symm
theorem Uc (s : ByteArray) (w : World) (hs : s.size ≤ 9223372036854775807) :
    Calls Tryz.prog 16 #[.string s] w fun e w' => e = .returned (.bool (lab s.data.toList)) ∧ w = w' := by
  go_enter Tryz.func16, Tryz.ntmps16
  go_wp2
  go_loop [3] (fun i => ∃ k : Nat, k ≤ s.size ∧ i = .int .i64 k ∧ ∀ j, (hj : j < s.data.toList.length) → j < k → okB (s.data.toList[j]).toNat = true) (fun i => s.size - (intOf i).toNat)
  case atStart => exact ⟨0, ZU _, rfl, fun j _ h => absurd h (by omega)⟩
  case round =>
    obtain ⟨k, hk, rfl, hall⟩ := hrel
    have HA := hid hall
    clear hall
    by_cases hlt : k < s.size
    · go_wp2
      all_goals first
        | (go_round
           case rel => exact ⟨k + 1, by omega, by go_num, Xk HA.out hlt (Aax (by go_light; clear HA; first | omega | (simp_all; done) | (simp_all; omega)))⟩
           case measure => simp [intOf]; omega)
        | (go_ret
           exact ⟨K4 (Abl hlt (Adu (by go_light; clear HA; first | omega | (simp_all; done) | (simp_all; omega)))), rfl⟩)
    · have HL := fun (g : 1 ≤ s.size ∧ s.size ≤ 30) => Abj (s := s.data.toList) (fun i hi => HA.out i hi (by simp at hi; omega)) (by simpa using g.1) (by simpa using g.2)
      have HN := fun (g : ¬ (1 ≤ s.size ∧ s.size ≤ 30)) => Yz (s := s.data.toList) (by simpa using g)
      have HL := hid HL
      have HN := hid HN
      clear HA
      go_wp2
      all_goals go_ret
      all_goals exact ⟨K4 (by
        go_light
        by_cases g : 1 ≤ s.size ∧ s.size ≤ 30
        · rw [HL.out g] <;> first | rfl | (simp <;> omega)
        · rw [HN.out g] <;> first | rfl | (simp <;> omega)), rfl⟩
theorem Ac4(s:ByteArray)(w:World):∃(cap:Nat) (C:Array Value) (fr:Nat×Nat),
  (convert 9 79 (.string s)).run Tryz.prog w=.ok (.slice (some ⟨w.heap.size,0,none⟩) s.size cap) (w.drew.alloc (.cells C 5 fr))∧
  ∀j,(h:j<s.size)→C[j]? =some (.int .u8 ((s[j]).toNat:Int)):=by
 refine⟨_,_,_,run_bytes_of_string w 9 79 5 s Tryz.underlying9 Tryz.underlying79 Tryz.underlying5,?_⟩;intro j h;exact bytesRow_at s _ j h
set_option maxRecDepth 100000 in
theorem Xy (s : ByteArray) (w : World) (hs : s.size ≤ 9223372036854775807) :
    Calls Tryz.prog 25 #[.string s] w fun e w' => e = .returned (.bool (lab s.data.toList)) ∧ Below w.heap.size w w' ∧ w.drawn ≤ w'.drawn := by
  obtain ⟨cap, C, fr, hrun, hC⟩ := Ac4 s w
  have HC := hid hC
  clear hC
  have hB : Below w.heap.size w (w.alloc (.cells C 5 fr)).drew ∧ w.drawn ≤ (w.alloc (.cells C 5 fr)).drew.drawn := ⟨(by repeat (first | exact Below.refl _ _ | assumption | refine Below.drew ?_ | refine below_drewN ?_ _ | refine Below.alloc ?_ (by simp; try omega) _ | refine Below.setCell ?_ (by simp; try omega) _)), Nat.le_succ _⟩
  have HB := hid hB
  clear hB
  go_enter Tryz.func25, Tryz.ntmps25
  go_wp2
  go_loop [8] (fun i => ∃ k : Nat, k ≤ s.size ∧ i = .int .i64 k ∧ ∀ j, (hj : j < s.data.toList.length) → j < k → okB (s.data.toList[j]).toNat = true) (fun i => s.size - (intOf i).toNat)
  case atStart => exact ⟨0, ZU _, rfl, fun j _ h => absurd h (by omega)⟩
  case round =>
    obtain ⟨k, hk, rfl, hall⟩ := hrel
    have HA := hid hall
    clear hall
    by_cases hlt : k < s.size
    · have hcell : (w.alloc (.cells C 5 fr)).drew.cell? ⟨w.heap.size, k, none⟩ = some (.int .u8 ((s[k]).toNat : Int)) := (Af9 w C 5 fr k).trans (HC.out k hlt)
      have hby : ((s[k]).toNat : Int) ≤ 255 := by have := (s[k]).toNat_lt; omega
      clear hrun
      go_wp2
      all_goals first
        | (go_round
           case rel => exact ⟨k + 1, by omega, by go_num, Xk HA.out hlt (Aax (by go_light; clear HA; first | omega | (simp_all; done) | (simp_all; omega)))⟩
           case measure => simp [intOf]; omega)
        | (go_ret
           exact ⟨K4 (Abl hlt (Adu (by go_light; clear HA; first | omega | (simp_all; done) | (simp_all; omega)))), HB.out⟩)
    · have HL := fun (g : 1 ≤ s.size ∧ s.size ≤ 30) => Abj (s := s.data.toList) (fun i hi => HA.out i hi (by simp at hi; omega)) (by simpa using g.1) (by simpa using g.2)
      have HN := fun (g : ¬ (1 ≤ s.size ∧ s.size ≤ 30)) => Yz (s := s.data.toList) (by simpa using g)
      have HL := hid HL
      have HN := hid HN
      clear HA
      go_wp2
      all_goals go_ret
      all_goals first
        | exact ⟨K4 (Ae7 HL.out HN.out ‹s.toList.isEmpty = false›), HB.out⟩
        | exact ⟨K4 (Ag5 HN.out ‹s.toList.isEmpty = true›), HB.out⟩
theorem Ez[Glob](s:ByteArray)(hs:s.size≤9223372036854775807):Fun Tryz.prog 25 [.c (.v (.string s))] [.c (.v (.bool (lab s.data.toList)))]:=
 Oi (xs:=[.string s]) (Ff Tryz.func25 (by kernel_rfl) (by kernel_rfl)) fun w=>(Xy s w hs).mono fun e w' h=>⟨h.1,h.2.1⟩
theorem Xx[Glob](a b:ByteArray):Fun Tryz.prog 90 [.c (.v (.string a)),.c (.v (.string b))] [.c (.v (.int .i64 (E4 a b)))]:=
 Oi (xs:=[.string a,.string b]) (Ff Tryz.func90 (by kernel_rfl) (by kernel_rfl)) fun w=>(Adq a b w).mono fun e w' ⟨h1,h2⟩=>⟨h1,h2▸Below.refl _ _⟩
theorem Ld{α:Type}(e:α→Int)(a:α):Am e [a]=e a:=by
 by_cases h:e a=0<;>simp[Am,h]
theorem Cx{α:Type}{mx:Nat}{e:α→Int}{lt:α→α→Bool}{l:List α}(h1:¬mx<l.length)(h2:Am e l≠0):ckL mx e lt l=Am e l:=by simp[ckL,h1,h2]
theorem Ma{α:Type}{mx:Nat}{e:α→Int}{lt:α→α→Bool}{l:List α}(h1:¬mx<l.length)(h2:Am e l=0)(h3:C2 lt l=false):ckL mx e lt l=4:=by simp[ckL,h1,h2,h3]
theorem Jh{α:Type}{mx:Nat}{e:α→Int}{lt:α→α→Bool}{l:List α}(h1:¬mx<l.length)(h2:Am e l=0)(h3:C2 lt l=true):ckL mx e lt l=0:=by simp[ckL,h1,h2,h3]
def b2i(b:Bool):Int:=if b then 1 else 0
def Afw(n:Int):List V:=[.v (.int .i64 n)]
instance:FlatRow Afw:=⟨fun x u hu=>by simp[Afw]at hu;exact⟨_,hu⟩⟩
theorem Aj1[Glob](c:Bool)(l:List Int)(hl:l.length≤9223372036854775807):Fun Tryz.prog 89 [.c (.sl c (l.map Afw))] [.c (.v (.int .i64 (Dk l)))]:=by
 refine A9 Uw rfl ?_;(refine goI ?_;repeat (intro gg;refine goI ?_));(refine⟨[],none,{k:Nat//k≤l.length∧∀j,(h:j<l.length)→j<k→l[j]=0},[3,6,7],fun⟨k,hk,h0⟩=>[(8,.v (.int .i64 k))],[],fun⟨k,hk,h0⟩=>[],fun⟨k,hk,h0⟩=>l.length-k,trivial,fun _=>⟨trivial,fun _=>⟨⟨0,by omega,fun j _ h=>by omega⟩,tI,Aj _ _,tI,Ai _ _⟩⟩,fun⟨k,hk,h0⟩=>?_⟩);(refine goI ?_;repeat (intro gg;refine goI ?_));rw[ZE];(refine Ab (fun h=>?_) (fun h=>?_)<;>rw[h])
 ·have hlt:k<l.length:=by simpa using h
  (refine goI ?_;repeat (intro gg;refine goI ?_));refine⟨k,_,rfl,Ap hlt,?_⟩;(refine goI ?_;repeat (intro gg;refine goI ?_));(refine Ab (fun h=>?_) (fun h=>?_)<;>rw[h])
  ·(refine goI ?_;repeat (intro gg;refine goI ?_));rw[Tj hlt h0 (by simpa using h)];(exact⟨[],aI⟩)
  ·(refine goI ?_;repeat (intro gg;refine goI ?_));(exact⟨none,trivial,fun _=>⟨⟨k+1,by omega,up1 (p:=fun j h=>l[j]=0) h0 (fun _=>by simpa using h)⟩,by show l.length-(k+1)<l.length-k;omega,tI,tI,tI,tI⟩⟩)
 ·have hge:¬k<l.length:=by simpa using h
  (refine goI ?_;repeat (intro gg;refine goI ?_));rw[Oz (l:=l) (fun i hi=>h0 i hi (by omega))];(exact⟨[],aI⟩)
namespace Pl
structure Mb where
 n:ByteArray
 st:Int
 lf:Int
 ad:Int
 sv:Bool
def Mb.enc(m:Mb):List Value:=[.string m.n,.int .i64 m.st,.int .i64 m.lf,.int .i64 m.ad,.bool m.sv]
def Mb.row(m:Mb):List V:=[.v (.string m.n),.v (.int .i64 m.st),.v (.int .i64 m.lf),.v (.int .i64 m.ad),.v (.bool m.sv)]
instance:FlatRow Mb.row:=⟨fun x u hu=>by simp[Mb.row]at hu;rcases hu with rfl|rfl|rfl|rfl|rfl<;>exact⟨_,rfl⟩⟩
def Mb.ok(m:Mb):Prop:=m.n.size≤9223372036854775807
def Mb.err(m:Mb):Int:=if lab m.n.data.toList then(if wi m.st 1 4 then(if wi m.lf 1 1000000&&wi m.ad 0 4294967295 then 0 else 3)else 7)else 1
def Mb.lt(g h:Mb):Bool:=slt g.n h.n
def Ib(l:List Mb):Int:=ckL 20 Mb.err Mb.lt l
def Mb.cf(name:ByteArray)(g:Mb):Int:=E4 g.n name
def Mb.kf(g x:Mb):Int:=Mb.cf g.n x
def Mb.cmp(g x:Mb):Int:=Dk [Uf g.lf x.lf,Uf g.st x.st,Uf g.ad x.ad,Uf (b2i g.sv) (b2i x.sv)]
def Mb.nw(g x:Mb):Bool:=decide (0<Mb.cmp g x)
def Mb.is(name:ByteArray)(m:Mb):Bool:=m.n.toList==name.toList
def Mb.same(g h:Mb):Bool:=(g.n.toList==h.n.toList)&&((g.st==h.st)&&((g.lf==h.lf)&&((g.ad==h.ad)&&((g.sv==h.sv)&&true))))
theorem Mb.same_iff{g h:Mb}:Mb.same g h=true↔g=h:=by
 obtain⟨a,b,c,d,e⟩:=g;obtain⟨a',b',c',d',e'⟩:=h;have tl:∀a b:ByteArray,a.toList=b.toList↔a=b:=fun a b=>⟨toList_inj,fun h=>by rw[h]⟩;simp only[Mb.same,Bool.and_true,ZO,ZR,tl,Mb.mk.injEq]
def Mb.ne(m x:Mb):Bool:= !(x.n.toList==m.n.toList)
theorem Mb.is_eq(name:ByteArray):Mb.is name=fun x=>decide (Mb.cf name x=0):=by
 funext x;unfold Mb.is Mb.cf;by_cases h:x.n=name
 ·rw[h,Sc];simp
 ·have h2:E4 x.n name≠0:=fun e=>h (K0.1 e);rw[W5 h];simp[h2]
theorem Mb.ne_eq(m:Mb):Mb.ne m=fun x=>decide (Mb.kf m x≠0):=by
 funext x;have:=congrFun (Mb.is_eq m.n) x;unfold Mb.is at this;unfold Mb.ne Mb.kf;rw[this];simp
theorem Mb.err_inv{m:Mb}(h:m.err=0):lab m.n.data.toList=true∧(1≤m.st∧m.st≤4)∧(1≤m.lf∧m.lf≤1000000)∧(0≤m.ad∧m.ad≤4294967295):=by
 unfold Mb.err at h;split at h
 ·rename_i h1;split at h
  ·rename_i h2;split at h
   ·rename_i h3;rw[ZO,F3,F3]at h3;exact⟨h1,F3.1 h2,h3⟩
   ·omega
  ·omega
 ·omega
theorem Ajj(row:List V)(h:Pa [.s,.i,.i,.i,.b] row):∃m:Mb,row=m.row∧m.ok:=by
 obtain⟨u0,_,rfl,f0,h⟩:=A6 h;obtain⟨u1,_,rfl,f1,h⟩:=A6 h;obtain⟨u2,_,rfl,f2,h⟩:=A6 h;obtain⟨u3,_,rfl,f3,h⟩:=A6 h;obtain⟨u4,_,rfl,f4,h⟩:=A6 h;obtain rfl:=M5 h;obtain⟨n,rfl,hn⟩:=Qz f0;obtain⟨a,rfl,_⟩:=Kk f1;obtain⟨b,rfl,_⟩:=Kk f2;obtain⟨c,rfl,_⟩:=Kk f3;obtain⟨d,rfl⟩:=Abu f4;exact⟨⟨n,a,b,c,d⟩,rfl,hn⟩
end Pl
namespace Pl
structure Ru where
 m:Mb
 t:Int
def Ru.row(r:Ru):List V:=[.v (.string r.m.n),.v (.int .i64 r.m.st),.v (.int .i64 r.m.lf),.v (.int .i64 r.m.ad),.v (.bool r.m.sv),.v (.int .i64 r.t)]
instance:FlatRow Ru.row:=⟨fun x u hu=>by simp[Ru.row]at hu;rcases hu with rfl|rfl|rfl|rfl|rfl|rfl<;>exact⟨_,rfl⟩⟩
instance:OneRow Ru.row 6:=⟨fun _=>rfl,fun x u hu=>by simp[Ru.row]at hu;rcases hu with rfl|rfl|rfl|rfl|rfl|rfl<;>exact⟨_,rfl,rfl⟩⟩
instance:OneRow Mb.row 5:=⟨fun _=>rfl,fun x u hu=>by simp[Mb.row]at hu;rcases hu with rfl|rfl|rfl|rfl|rfl<;>exact⟨_,rfl,rfl⟩⟩
def Ru.ok(r:Ru):Prop:=r.m.ok
end Pl
namespace Pl
def Ah(l:List (ByteArray×V)):List (Value×V):=l.map fun p=>(.string p.1,p.2)
def On(k:ByteArray):List (ByteArray×V)→Nat→Option (Nat×V)
 |[],_=>none
 |(a,v)::es,i=>if k=a then some (i,v)else On k es (i+1)
theorem Vg(k:ByteArray):∀(l:List (ByteArray×V)) (i:Nat),E9 .string (.string k) (Ah l) i=some (On k l i)
 |[],i=>rfl
 |(a,v)::es,i=>by
  have ih:=Vg k es (i+1);unfold Ah at ih;by_cases h:k=a
  ·subst h;have hb:(k==k)=true:=(Go.MapKept.bytes_beq k k).2 rfl;simp[Ah,E9,On,Instr.sameNow,hb]
  ·have hb:(k==a)=false:=by
    cases q:(k==a)with
    |true=>exact absurd ((Go.MapKept.bytes_beq k a).1 q) h
    |false=>rfl
   simp only[Ah,List.map_cons,E9,On,Instr.sameNow,hb,if_neg h];exact ih
def put(l:List (ByteArray×V))(k:ByteArray)(v:V):List (ByteArray×V):=match On k l 0 with
 |some (i,_)=>l.set i (k,v)
 |none=>l++[(k,v)]
theorem Afz(l:List (ByteArray×V))(k:ByteArray)(v:V):Oa (Ah l) (.string k) v (On k l 0)=Ah (put l k v):=by
 unfold put Oa;cases h:On k l 0 with
 |none=>simp[Ah]
 |some p=>obtain⟨i,u⟩:=p;simp[Ah,List.map_set]
theorem Ag4(l:List (ByteArray×V)):(Ah l).length=l.length:=by simp[Ah]
theorem Vj{k:ByteArray}:∀{l:List (ByteArray×V)} {i j:Nat} {v:V},On k l i=some (j,v)→i≤j∧l[j-i]? =some (k,v)
 |[],i,j,v,h=>by simp[On]at h
 |(a,u)::es,i,j,v,h=>by
  unfold On at h;split at h
  ·rename_i e;simp only[ZD,Prod.mk.injEq]at h;obtain⟨rfl,rfl⟩:=h;subst e;exact⟨ZT _,by simp⟩
  ·obtain⟨h1,h2⟩:=Vj h;exact⟨by omega,by rw[show j-i=(j-(i+1))+1 by omega];simpa using h2⟩
theorem Qb{k:ByteArray}:∀{l:List (ByteArray×V)} {i:Nat},On k l i=none↔k∉l.map (·.1)
 |[],i=>by simp[On]
 |(a,u)::es,i=>by
  unfold On;split
  ·rename_i e;subst e;simp
  ·rename_i e;rw[Qb (l:=es) (i:=i+1)];simp[e]
open Classical in
theorem Aeu{l:List (ByteArray×V)}{k:ByteArray}{v:V}:(put l k v).map (·.1)=if k∈l.map (·.1)then l.map (·.1)else l.map (·.1)++[k]:=by
 unfold put;cases h:On k l 0 with
 |none=>rw[if_neg (Qb.1 h)];simp
 |some p=>
  obtain⟨i,u⟩:=p;have hk:k∈l.map (·.1):=Classical.byContradiction fun q=>by rw[Qb.2 q]at h;cases h
  rw[if_pos hk];obtain⟨_,h2⟩:=Vj h;simp only[Nat.sub_zero]at h2;show(l.set i (k,v)).map (·.1)=l.map (·.1);rw[List.map_set];apply List.ext_getElem?;intro j;rw[List.getElem?_set];split
  ·rename_i e;subst e;split
   ·simp[h2]
   ·rename_i q;simp at q;simp[q]
  ·rfl
structure O8(l:List (ByteArray×V))(ns:List ByteArray):Prop where
 mem:∀n,n∈l.map (·.1)↔n∈ns
 le:l.length≤ns.length
 all:l.length=ns.length↔ns.Nodup
 cl:∀p∈l,Cl p.2
theorem O8.nil:O8 [] []:=⟨by simp,by simp,by simp,by simp⟩
theorem O8.put{l:List (ByteArray×V)}{ns:List ByteArray}(h:O8 l ns)(k:ByteArray)(v:V)(hv:Cl v):O8 (put l k v) (ns++[k]):=by
 have hk:=Aeu (l:=l) (k:=k) (v:=v);have hlen:(Pl.put l k v).length=((Pl.put l k v).map (·.1)).length:=by simp
 have hm:=h.mem k;refine⟨fun n=>?_,?_,?_,fun p hp=>?_⟩
 ·rw[hk];split
  ·rename_i q;rw[h.mem n];simp;intro e;subst e;exact hm.1 q
  ·simp only[XM,h.mem n]
 ·rw[hlen,hk];have:=h.le;split<;>simp<;>omega
 ·rw[hlen,hk];split
  ·rename_i q;have:=h.le;constructor
   ·intro e;simp at e;omega
   ·intro e;have:=(List.nodup_append.1 e).2.2 k (hm.1 q) k (by simp);exact absurd rfl this
  ·rename_i q;have hq:k∉ns:=fun e=>q (hm.2 e);simp only[ZF,ZE,ZJ,ZN];rw[List.nodup_append];constructor
   ·intro e;refine⟨h.all.1 (by omega),by simp,?_⟩;intro a ha b hb e';simp at hb;subst hb;subst e';exact hq ha
   ·intro e;have:=h.all.2 e.1;omega
 ·unfold Pl.put at hp;split at hp
  ·rcases List.mem_or_eq_of_mem_set hp with q|rfl
   ·exact h.cl p q
   ·exact hv
  ·rcases XM.1 hp with q|q
   ·exact h.cl p q
   ·simp at q;subst q;exact hv
end Pl
namespace Pl
def Is{α:Type}(p:α→Bool)(l:List α):List α:=l.filter fun x=> !p x
structure Am4{α:Type}(p:α→Bool)(l l':List α)(i j:Nat):Prop where
 ij:i<j
 jl:j≤l.length
 len:l'.length=l.length
 ahead:l'.take i=Is p (l.take j)
 behind:∀k,(h:k<l.length)→j≤k→l'[k]'(by rw[len];exact h)=l[k]
end Pl
namespace Pl
def Ru.err(r:Ru):Int:=r.m.err
def Ru.bad(r:Ru):Bool:= !(wi r.t 0 100)
def Ru.nm(r:Ru):ByteArray:=r.m.n
def Ru.is(n:ByteArray)(r:Ru):Bool:=r.m.n.toList==n.toList
open Classical in
noncomputable def Akl(l:List Ru):Int:=if 20<l.length then 2 else if Am Ru.err l≠0 then Am Ru.err l else if l.any Ru.bad=true then 3 else if(l.map Ru.nm).Nodup then 0 else 6
structure Am5(l:List Ru):Prop where
 len:l.length≤20
 each:Am Ru.err l=0
 rng:∀i,(h:i<l.length)→0≤l[i].t∧l[i].t≤100
 nd:(l.map Ru.nm).Nodup
def tt(l:List Ru)(i:Nat):Int:=(l[i]?.map Ru.t).getD 0
def Aly(l:List Ru)(i k:Nat):Bool:=decide (tt l i<tt l k)||(tt l i==tt l k&&decide (k<i))
structure Am6(l:List Ru)(o:List Nat):Prop where
 len:o.length=l.length
 nd:o.Nodup
 mem:∀i,i∈o↔i<l.length
 pw:∀(i j:Nat) (hi:i<o.length) (hj:j<o.length),i<j→Aly l o[i] o[j]=true
end Pl
namespace Pl
structure Good{α:Type}(c:α→α→Int):Prop where
 anti:∀a b,c b a= - c a b
 pp:∀a b d,0<c a b→0<c b d→0<c a d
 zp:∀a b d,c a b=0→0<c b d→0<c a d
 pz:∀a b d,0<c a b→c b d=0→0<c a d
 zz:∀a b d,c a b=0→c b d=0→c a d=0
structure Am1{α:Type}(cf:α→α→Int)(nw:α→α→Bool):Prop where
 irr:∀x,nw x x=false
 trans:∀x y z,nw x y=true→nw y z=true→nw x z=true
 tot:∀x y,cf x y=0→nw x y=false→nw y x=false→x=y
section
variable {α:Type} {lt:α→α→Bool} {cf:α→α→Int} {nw:α→α→Bool}
end
end Pl
namespace Pl
structure Gw where
 c:ByteArray
 a:Int
 v:Int
def Gw.enc(g:Gw):List Value:=[.string g.c,.int .i64 g.a,.int .i64 g.v]
def Gw.row(g:Gw):List V:=[.v (.string g.c),.v (.int .i64 g.a),.v (.int .i64 g.v)]
instance:FlatRow Gw.row:=⟨fun x u hu=>by simp[Gw.row]at hu;rcases hu with rfl|rfl|rfl<;>exact⟨_,rfl⟩⟩
def Gw.ok(g:Gw):Prop:=g.c.size≤9223372036854775807
def Gw.err(g:Gw):Int:=if lab g.c.data.toList then(if wi g.a 0 4294967295&&wi g.v 1 1000000 then 0 else 3)else 1
def Gw.lt(g h:Gw):Bool:=slt g.c h.c
def Ih(l:List Gw):Int:=ckL 6 Gw.err Gw.lt l
def Gw.cf(name:ByteArray)(g:Gw):Int:=E4 g.c name
def Gw.kf(g x:Gw):Int:=Gw.cf g.c x
def Gw.cmp(g x:Gw):Int:=Dk [Uf g.v x.v,Uf g.a x.a]
def Gw.nw(g x:Gw):Bool:=decide (0<Gw.cmp g x)
def Gw.is(name:ByteArray)(m:Gw):Bool:=m.c.toList==name.toList
def Gw.same(g h:Gw):Bool:=(g.c.toList==h.c.toList)&&((g.a==h.a)&&((g.v==h.v)&&true))
theorem Gw.same_iff{g h:Gw}:Gw.same g h=true↔g=h:=by
 obtain⟨a,b,c⟩:=g;obtain⟨a',b',c'⟩:=h;have tl:∀a b:ByteArray,a.toList=b.toList↔a=b:=fun a b=>⟨toList_inj,fun h=>by rw[h]⟩;simp only[Gw.same,Bool.and_true,ZO,ZR,tl,Gw.mk.injEq]
def Gw.ne(m x:Gw):Bool:= !(x.c.toList==m.c.toList)
theorem Gw.is_eq(name:ByteArray):Gw.is name=fun x=>decide (Gw.cf name x=0):=by
 funext x;unfold Gw.is Gw.cf;by_cases h:x.c=name
 ·rw[h,Sc];simp
 ·have h2:E4 x.c name≠0:=fun e=>h (K0.1 e);rw[W5 h];simp[h2]
theorem Gw.ne_eq(m:Gw):Gw.ne m=fun x=>decide (Gw.kf m x≠0):=by
 funext x;have:=congrFun (Gw.is_eq m.c) x;unfold Gw.is at this;unfold Gw.ne Gw.kf;rw[this];simp
structure Rt where
 c:ByteArray
 a:Int
def Rt.row(r:Rt):List V:=[.v (.string r.c),.v (.int .i64 r.a)]
instance:FlatRow Rt.row:=⟨fun x u hu=>by simp[Rt.row]at hu;rcases hu with rfl|rfl<;>exact⟨_,rfl⟩⟩
def Rt.same(g h:Rt):Bool:=(g.c.toList==h.c.toList)&&((g.a==h.a)&&true)
theorem Rt.same_iff{g h:Rt}:Rt.same g h=true↔g=h:=by
 obtain⟨a,b⟩:=g;obtain⟨a',b'⟩:=h;have tl:∀a b:ByteArray,a.toList=b.toList↔a=b:=fun a b=>⟨toList_inj,fun h=>by rw[h]⟩;simp only[Rt.same,Bool.and_true,ZO,ZR,tl,Rt.mk.injEq]
theorem Gw.err_inv{m:Gw}(h:m.err=0):lab m.c.data.toList=true∧(0≤m.a∧m.a≤4294967295)∧(1≤m.v∧m.v≤1000000):=by
 unfold Gw.err at h;split at h
 ·rename_i h1;split at h
  ·rename_i h2;rw[ZO,F3,F3]at h2;exact⟨h1,h2⟩
  ·omega
 ·omega
theorem Ai3(row:List V)(h:Pa [.s,.i,.i] row):∃m:Gw,row=m.row∧m.ok:=by
 obtain⟨u0,_,rfl,f0,h⟩:=A6 h;obtain⟨u1,_,rfl,f1,h⟩:=A6 h;obtain⟨u2,_,rfl,f2,h⟩:=A6 h;obtain rfl:=M5 h;obtain⟨n,rfl,hn⟩:=Qz f0;obtain⟨a,rfl,_⟩:=Kk f1;obtain⟨b,rfl,_⟩:=Kk f2;exact⟨⟨n,a,b⟩,rfl,hn⟩
end Pl
namespace Pl
structure Sv where
 nd:ByteArray
 id:ByteArray
 nm:ByteArray
 tg:ByteArray
 ad:Int
 pt:Int
 ps:Bool
 vs:Int
 gn:Bool
def Sv.enc(m:Sv):List Value:=[.string m.nd,.string m.id,.string m.nm,.string m.tg,.int .i64 m.ad,.int .i64 m.pt,.bool m.ps,.int .i64 m.vs,.bool m.gn]
def Sv.row(m:Sv):List V:=[.v (.string m.nd),.v (.string m.id),.v (.string m.nm),.v (.string m.tg),.v (.int .i64 m.ad),.v (.int .i64 m.pt),.v (.bool m.ps),.v (.int .i64 m.vs),.v (.bool m.gn)]
instance:FlatRow Sv.row:=⟨fun x u hu=>by simp[Sv.row]at hu;rcases hu with rfl|rfl|rfl|rfl|rfl|rfl|rfl|rfl|rfl<;>exact⟨_,rfl⟩⟩
def Sv.ok(m:Sv):Prop:=m.nd.size≤9223372036854775807∧m.id.size≤9223372036854775807∧m.nm.size≤9223372036854775807∧m.tg.size≤9223372036854775807
def emp(s:ByteArray):Bool:=s.toList==(ByteArray.mk #[]).toList
def R5(s:ByteArray):Bool:=emp s||lab s.data.toList
def Sv.err(m:Sv):Int:=if lab m.nd.data.toList then(if lab m.id.data.toList then(if lab m.nm.data.toList then(if R5 m.tg then(if wi m.ad 0 4294967295 then(if wi m.pt 0 65535 then(if wi m.vs 1 1000000 then 0 else 3)else 3)else 3)else 1)else 1)else 1)else 1
def Sv.cf(nd id:ByteArray)(x:Sv):Int:=Dk [E4 x.nd nd,E4 x.id id]
def Sv.kf(g x:Sv):Int:=Sv.cf g.nd g.id x
def Sv.lt(g h:Sv):Bool:=decide (Sv.cf h.nd h.id g<0)
def Im(l:List Sv):Int:=ckL 40 Sv.err Sv.lt l
def Sv.cmp(g x:Sv):Int:=Dk [Uf g.vs x.vs,Uf (b2i g.gn) (b2i x.gn),E4 g.nm x.nm,E4 g.tg x.tg,Uf g.ad x.ad,Uf g.pt x.pt,Uf (b2i g.ps) (b2i x.ps)]
def Sv.nw(g x:Sv):Bool:=decide (0<Sv.cmp g x)
def Sv.is(nd id:ByteArray)(m:Sv):Bool:=(m.nd.toList==nd.toList)&&(m.id.toList==id.toList)
def Sv.same(g h:Sv):Bool:=(g.nd.toList==h.nd.toList)&&((g.id.toList==h.id.toList)&&((g.nm.toList==h.nm.toList)&&((g.tg.toList==h.tg.toList)&&((g.ad==h.ad)&&((g.pt==h.pt)&&((g.ps==h.ps)&&((g.vs==h.vs)&&((g.gn==h.gn)&&true))))))))
theorem Sv.same_iff{g h:Sv}:Sv.same g h=true↔g=h:=by
 obtain⟨a,b,c,d,e,f,i,j,k⟩:=g;obtain⟨a',b',c',d',e',f',i',j',k'⟩:=h;have tl:∀a b:ByteArray,a.toList=b.toList↔a=b:=fun a b=>⟨toList_inj,fun h=>by rw[h]⟩;simp only[Sv.same,Bool.and_true,ZO,ZR,tl,Sv.mk.injEq]
theorem Adl{a b c d:ByteArray}(h:a=b):Dk [E4 a b,E4 c d]=E4 c d:=by
 subst h;by_cases h:E4 c d=0<;>simp[Dk,Sc,h]
theorem Aeq{a b c d:ByteArray}(h:a≠b):Dk [E4 a b,E4 c d]=E4 a b:=by
 have:E4 a b≠0:=fun e=>h (K0.1 e);simp[Dk,this]
theorem Sv.cf_zero{nd id:ByteArray}{x:Sv}:Sv.cf nd id x=0↔x.nd=nd∧x.id=id:=by
 unfold Sv.cf;by_cases h:x.nd=nd
 ·rw[Adl h,K0];simp[h]
 ·rw[Aeq h,K0];simp[h]
def Sv.ne(m x:Sv):Bool:= !(Sv.is m.nd m.id x)
theorem Sv.is_eq(nd id:ByteArray):Sv.is nd id=fun x=>decide (Sv.cf nd id x=0):=by
 funext x;unfold Sv.is;by_cases h:x.nd=nd∧x.id=id
 ·rw[h.1,h.2];have:Sv.cf nd id x=0:=Sv.cf_zero.2 h;simp[this]
 ·have h2:¬Sv.cf nd id x=0:=fun e=>h (Sv.cf_zero.1 e);have h3:(x.nd.toList==nd.toList&&x.id.toList==id.toList)=false:=by
   cases hb:(x.nd.toList==nd.toList&&x.id.toList==id.toList)with
   |false=>rfl
   |true=>rw[ZO,Se,Se]at hb;exact absurd hb h
  rw[h3];simp[h2]
theorem Sv.ne_eq(m:Sv):Sv.ne m=fun x=>decide (Sv.kf m x≠0):=by
 funext x;have:=congrFun (Sv.is_eq m.nd m.id) x;unfold Sv.ne Sv.kf;rw[this];simp
theorem Aiy(row:List V)(h:Pa [.s,.s,.s,.s,.i,.i,.b,.i,.b] row):∃m:Sv,row=m.row∧m.ok:=by
 obtain⟨u0,_,rfl,f0,h⟩:=A6 h;obtain⟨u1,_,rfl,f1,h⟩:=A6 h;obtain⟨u2,_,rfl,f2,h⟩:=A6 h;obtain⟨u3,_,rfl,f3,h⟩:=A6 h;obtain⟨u4,_,rfl,f4,h⟩:=A6 h;obtain⟨u5,_,rfl,f5,h⟩:=A6 h;obtain⟨u6,_,rfl,f6,h⟩:=A6 h;obtain⟨u7,_,rfl,f7,h⟩:=A6 h;obtain⟨u8,_,rfl,f8,h⟩:=A6 h;obtain rfl:=M5 h;obtain⟨a,rfl,ha⟩:=Qz f0;obtain⟨b,rfl,hb⟩:=Qz f1;obtain⟨c,rfl,hc⟩:=Qz f2;obtain⟨d,rfl,hd⟩:=Qz f3;obtain⟨e,rfl,_⟩:=Kk f4;obtain⟨f,rfl,_⟩:=Kk f5;obtain⟨g,rfl⟩:=Abu f6;obtain⟨i,rfl,_⟩:=Kk f7;obtain⟨j,rfl⟩:=Abu f8;exact⟨⟨a,b,c,d,e,f,g,i,j⟩,rfl,ha,hb,hc,hd⟩
end Pl
namespace Pl

end Pl
namespace Pl

end Pl
namespace Pl
structure Pc where
 x:Int
 y:Int
 z:Int
 h:Int
 s:Int
def Pc.row(p:Pc):List V:=[.v (.int .i64 p.x),.v (.int .i64 p.y),.v (.int .i64 p.z),.v (.int .i64 p.h),.v (.int .i64 p.s)]
instance:FlatRow Pc.row:=⟨fun x u hu=>by simp[Pc.row]at hu;rcases hu with rfl|rfl|rfl|rfl|rfl<;>exact⟨_,rfl⟩⟩
def Pc.ok(p:Pc):Prop:=True
def Pc.okb(p:Pc):Bool:=Aen p.x p.y p.z p.h p.s
def Pc.err(p:Pc):Int:=Zf p.x p.y p.z p.h p.s
theorem Pc.err_ok{p:Pc}(h:p.okb=true):p.err=0:=by unfold Pc.err Zf;unfold Pc.okb at h;rw[if_pos h]
theorem Pc.err_bad{p:Pc}(h:p.okb=false):p.err=3:=by unfold Pc.err Zf;unfold Pc.okb at h;rw[if_neg (by rw[h];decide)]
theorem Pc.err_iff{p:Pc}:p.err=0↔p.okb=true:=by
 cases h:p.okb with
 |true=>simp[Pc.err_ok h]
 |false=>simp[Pc.err_bad h]
end Pl
section
open Go.ChangeShapes Go.WideShapes Go.ChangeAt
theorem Agy{H:Type}{enc:TypeId×Value→H}{P:Program}{w:World}{base:Nat}{spare:Nat→Bool}{held:Bool}{t e:TypeId}{v:Value}{d:DataW H}{p:List MemPlace}{R:Nat→Prop}{G:Nat→Option Loc}{rows:List (List V)}(hu:P.underlying t=some (.slice e))(h:DataW.Trod enc P w base spare held t v d p)(hv:RV w R G (.sl false rows) v){ts:List TypeId}{ds:List (DataW H)}{j:Nat}(hz:(DataW.weightsEach P ts ds).all (·≤reachBytes)=true)(ht:ts[j]? =some t)(hd:ds[j]? =some d):rows.length*P.bytesOf e≤140737488351232:=by
 obtain⟨fuel,hf⟩:=h;have key:∀a len cap,v=.slice a len cap→rows.length=len→rows.length*P.bytesOf e≤140737488351232:=fun a len cap hva hl=>by
  subst hva;rcases Go.Deep.open_slice hu hf with⟨h1,_⟩|⟨a',len',cap',m,n,D,Pl,h1,_,_,_,_,h2,_⟩
  ·have h1:[Value.slice a len cap]=[.slice none 0 0]:=h1;simp only[List.cons.injEq,Value.slice.injEq]at h1;rw[hl,h1.1.2.1];omega
  ·have h1:[Value.slice a len cap]=[.slice (some a') len' cap']:=h1;simp only[List.cons.injEq,Value.slice.injEq]at h1;injection h2 with h2 _
   subst h2;have:=sized_slice hz ht hd hu;rw[ZE,List.length_range]at this;rw[hl,h1.1.2.1];have h3:len'*P.bytesOf e≤(len'+((List.range (m-len')).map fun j=>D (len'+j)).length)*P.bytesOf e:=XG _ (by omega);have h4:reachBytes=140737488351232:=rfl;omega
 generalize hu':V.sl false rows=u at hv;cases hv with
 |nil clip a cap hc=>injection hu' with _ hr;subst hr;exact key _ _ _ rfl rfl
 |sl clip rows' b off cap sz f _ _ _ _ _ _=>injection hu' with _ hr;subst hr;exact key _ _ _ rfl rfl
 |_=>cases hu'
end
namespace Pl
structure Wh where
 nd:ByteArray
 pl:Pc
def Wh.enc(x:Wh):List Value:=[.string x.nd,.int .i64 x.pl.x,.int .i64 x.pl.y,.int .i64 x.pl.z,.int .i64 x.pl.h,.int .i64 x.pl.s]
def Wh.row(x:Wh):List V:=[.v (.string x.nd),.v (.int .i64 x.pl.x),.v (.int .i64 x.pl.y),.v (.int .i64 x.pl.z),.v (.int .i64 x.pl.h),.v (.int .i64 x.pl.s)]
instance:FlatRow Wh.row:=⟨fun x u hu=>by simp[Wh.row]at hu;rcases hu with rfl|rfl|rfl|rfl|rfl|rfl<;>exact⟨_,rfl⟩⟩
instance:OneRow Wh.row 6:=⟨fun _=>rfl,fun x u hu=>by simp[Wh.row]at hu;rcases hu with rfl|rfl|rfl|rfl|rfl|rfl<;>exact⟨_,rfl,rfl⟩⟩
def Wh.ok(x:Wh):Prop:=x.nd.size≤9223372036854775807
theorem Ajb(row:List V)(h:Pa [.s,.i,.i,.i,.i,.i] row):∃m:Wh,row=m.row∧m.ok:=by
 obtain⟨u0,_,rfl,f0,h⟩:=A6 h;obtain⟨u1,_,rfl,f1,h⟩:=A6 h;obtain⟨u2,_,rfl,f2,h⟩:=A6 h;obtain⟨u3,_,rfl,f3,h⟩:=A6 h;obtain⟨u4,_,rfl,f4,h⟩:=A6 h;obtain⟨u5,_,rfl,f5,h⟩:=A6 h;obtain rfl:=M5 h;obtain⟨n,rfl,hn⟩:=Qz f0;obtain⟨a,rfl,_⟩:=Kk f1;obtain⟨b,rfl,_⟩:=Kk f2;obtain⟨c,rfl,_⟩:=Kk f3;obtain⟨d,rfl,_⟩:=Kk f4;obtain⟨e,rfl,_⟩:=Kk f5;exact⟨⟨n,a,b,c,d,e⟩,rfl,hn⟩
end Pl
namespace Pl
def Wh.err(x:Wh):Int:=if lab x.nd.data.toList then x.pl.err else 1
def Wh.lt(g h:Wh):Bool:=slt g.nd h.nd
def I7(l:List Wh):Int:=ckL 20 Wh.err Wh.lt l
structure Nd where
 nm:ByteArray
 ce:ByteArray
 ms:List Mb
 rs:List Ru
 sv:List Sv
 gs:List Gw
 pl:Pc
 wh:List Wh
def Nd.row(n:Nd):List V:=[.v (.string n.nm),.v (.string n.ce),.sl false (n.ms.map Mb.row),.sl false (n.rs.map Ru.row),.sl false (n.sv.map Sv.row),.sl false (n.gs.map Gw.row),
 .v (.int .i64 n.pl.x),.v (.int .i64 n.pl.y),.v (.int .i64 n.pl.z),.v (.int .i64 n.pl.h),.v (.int .i64 n.pl.s),.sl false (n.wh.map Wh.row)]
structure Nd.ok(n:Nd):Prop where
 nm:n.nm.size≤9223372036854775807
 ce:n.ce.size≤9223372036854775807
 msl:n.ms.length≤9223372036854775807
 ms:∀x∈n.ms,x.ok
 rsl:n.rs.length≤9223372036854775807
 rs:∀x∈n.rs,x.ok
 svl:n.sv.length≤9223372036854775807
 sv:∀x∈n.sv,x.ok
 gsl:n.gs.length≤9223372036854775807
 gs:∀x∈n.gs,x.ok
 whl:n.wh.length≤9223372036854775807
 wh:∀x∈n.wh,x.ok
def Alg(ms:List Mb)(r:Ru):Bool:=match ms[low (Mb.cf r.m.n) ms]? with
 |some m=>hit (Mb.cf r.m.n) ms&&decide (Mb.cmp r.m m≤0)
 |none=>false
noncomputable def Nd.cks(n:Nd):List Int:=[Ib n.ms,Akl n.rs,Im n.sv,Ih n.gs,n.pl.err,I7 n.wh]
def Nd.mine(n:Nd):Int:=match n.ms[low (Mb.cf n.nm) n.ms]? with
 |some m=>if m.st=2∨m.st=3 then 4 else if n.rs.all (Alg n.ms)then 0 else 4
 |none=>4
noncomputable def Nd.err(n:Nd):Int:=
 if lab n.nm.data.toList=false∨lab n.ce.data.toList=false then 1
 else if Am (fun e=>e) n.cks≠0 then Am (fun e=>e) n.cks
 else if hit (Mb.cf n.nm) n.ms=false then 5 else n.mine
theorem Nd.err_form{n:Nd}(h:lab n.nm.data.toList=false∨lab n.ce.data.toList=false):n.err=1:=if_pos h
structure Nd.Good(n:Nd):Prop where
 nm:lab n.nm.data.toList=true
 ce:lab n.ce.data.toList=true
 ms:Ib n.ms=0
 rs:Akl n.rs=0
 sv:Im n.sv=0
 gs:Ih n.gs=0
 pl:n.pl.okb=true
 wh:I7 n.wh=0
 hit:hit (Mb.cf n.nm) n.ms=true
 st:∀m,n.ms[low (Mb.cf n.nm) n.ms]? =some m→m.st≠2∧m.st≠3
 ru:∀r∈n.rs,Alg n.ms r=true
end Pl
theorem Mc[Glob](n a b:Int):Fun Tryz.prog 86 [.c (.v (.int .i64 n)),.c (.v (.int .i64 a)),.c (.v (.int .i64 b))] [.c (.v (.bool (wi n a b)))]:=by
 refine A9 Qp rfl ?_;(refine goI ?_;repeat (intro gg;refine goI ?_));(refine Ab (fun h=>?_) (fun h=>?_)<;>rw[h])
 ·(refine goI ?_;repeat (intro gg;refine goI ?_));rw[Ae9 h];(exact⟨[],aI⟩)
 ·(refine goI ?_;repeat (intro gg;refine goI ?_));rw[Afd h];(exact⟨[],aI⟩)
theorem Aex[Glob](m:Mb)(hm:m.ok):Fun Tryz.prog 76 [.c (.agg m.row)] [.c (.v (.int .i64 m.err))]:=by
 refine A9 U2 rfl ?_;(refine goI ?_;repeat (intro gg;refine goI ?_));refine .inl (cX (Ez _ hm) ?_);(refine goI ?_;repeat (intro gg;refine goI ?_));(refine Ab (fun h1=>?_) (fun h1=>?_)<;>rw[h1])
 ·(refine goI ?_;repeat (intro gg;refine goI ?_))
  (rw[show m.err=1 from by(first|(simp_all;done)|(unfold Mb.err;simp_all))];(exact⟨[],aI⟩))
 ·(refine goI ?_;repeat (intro gg;refine goI ?_));refine .inl (cX (Mc _ _ _) ?_);(refine goI ?_;repeat (intro gg;refine goI ?_));(refine Ab (fun h2=>?_) (fun h2=>?_)<;>rw[h2])
  ·(refine goI ?_;repeat (intro gg;refine goI ?_))
   (rw[show m.err=7 from by(first|(simp_all;done)|(unfold Mb.err;simp_all))];(exact⟨[],aI⟩))
  ·(refine goI ?_;repeat (intro gg;refine goI ?_));refine .inl (cX (Mc _ _ _) ?_);(refine goI ?_;repeat (intro gg;refine goI ?_));(refine Ab (fun h3=>?_) (fun h3=>?_)<;>rw[h3])
   ·(refine goI ?_;repeat (intro gg;refine goI ?_))
    (rw[show m.err=3 from by(first|(simp_all;done)|(unfold Mb.err;simp_all))];(exact⟨[],aI⟩))
   ·(refine goI ?_;repeat (intro gg;refine goI ?_));refine .inl (cX (Mc _ _ _) ?_);(refine goI ?_;repeat (intro gg;refine goI ?_));(refine Ab (fun h4=>?_) (fun h4=>?_)<;>rw[h4])
    ·(refine goI ?_;repeat (intro gg;refine goI ?_))
     (rw[show m.err=3 from by(first|(simp_all;done)|(unfold Mb.err;simp_all))];(exact⟨[],aI⟩))
    ·(refine goI ?_;repeat (intro gg;refine goI ?_))
     (rw[show m.err=0 from by(first|(simp_all;done)|(unfold Mb.err;simp_all))];(exact⟨[],aI⟩))
section
variable {α:Type} {enc:α→List Value} {sz:Nat} {w w':World} {A:Option Addr} {l:List α}
def RL(enc:α→List Value)(sz:Nat)(w:World)(A:Option Addr)(l:List α):Prop:=
 0<l.length→∃b off,A=some ⟨b,off,none⟩∧b<w.heap.size∧∀i,(h:i<l.length)→∀j u,(enc l[i])[j]? =some u→w.cell? ⟨b,off+i*sz+j,none⟩=some u
theorem RL.nil:RL enc sz w A []:=fun h=>absurd h (by simp)
theorem RL.at_(h:RL enc sz w A l){k:Nat}(hk:k<l.length):∃b off,A=some ⟨b,off,none⟩∧b<w.heap.size∧∀j u,(enc l[k])[j]? =some u→w.cell? ⟨b,off+k*sz+j,none⟩=some u:=by
 obtain⟨b,off,hA,hb,hc⟩:=h (by omega);exact⟨b,off,hA,hb,hc k hk⟩
end
section
variable {P:Program}
end
theorem Fr.alloc{L:Nat→Prop}{a w:World}(h:Fr L a w)(o:Obj):Fr L a (w.alloc o):=h.grown (World.grownBy_alloc w o none) (by simp) (ZT _)


section
variable {α:Type} {enc:α→List Value} {sz:Nat} {w w':World} {R:Nat→Prop}
end

theorem V8[Glob](c:Bool)(l:List Mb)(hl:l.length≤9223372036854775807)(hw:∀m∈l,m.ok):Fun Tryz.prog 58 [.c (.sl c (l.map Mb.row))] [.c (.v (.int .i64 (Am Mb.err l)))]:=by
 refine A9 Ti rfl ?_;(refine goI ?_;repeat (intro gg;refine goI ?_));rw[ZE];(refine⟨[],none,{k:Nat//k≤l.length∧∀j,(h:j<l.length)→j<k→(l[j]).err=0},[6,7],fun⟨k,hk,h0⟩=>[(8,.v (.int .i64 k))],[],fun⟨k,hk,h0⟩=>[],fun⟨k,hk,h0⟩=>l.length-k,trivial,fun _=>⟨trivial,fun _=>⟨⟨0,by omega,fun j _ h=>by omega⟩,tI,Aj _ _,tI,Ai _ _⟩⟩,fun⟨k,hk,h0⟩=>?_⟩);(refine goI ?_;repeat (intro gg;refine goI ?_));(refine Ab (fun h=>?_) (fun h=>?_)<;>rw[h])
 ·have hlt:k<l.length:=by simpa using h
  (refine goI ?_;repeat (intro gg;refine goI ?_));refine⟨k,_,rfl,Ap hlt,?_⟩;(refine goI ?_;repeat (intro gg;refine goI ?_));refine .inl (cX (Aex _ (hw _ (ZK hlt))) ?_);(refine goI ?_;repeat (intro gg;refine goI ?_));(refine Ab (fun h=>?_) (fun h=>?_)<;>rw[h])
  ·(refine goI ?_;repeat (intro gg;refine goI ?_));rw[Br hlt h0 (by simpa using h)];(exact⟨[],aI⟩)
  ·(refine goI ?_;repeat (intro gg;refine goI ?_));(exact⟨none,trivial,fun _=>⟨⟨k+1,by omega,up1 (p:=fun j h=>(l[j]).err=0) h0 (fun _=>by simpa using h)⟩,by show l.length-(k+1)<l.length-k;omega,tI,tI,tI,tI⟩⟩)
 ·have hge:¬k<l.length:=by simpa using h
  (refine goI ?_;repeat (intro gg;refine goI ?_));rw[Bc (l:=l) (fun i hi=>h0 i hi (by omega))];(exact⟨[],aI⟩)
def Ak5(l:List Mb):List V:=[.sl false (l.map Mb.row)]
theorem Zx[Glob](c:Bool)(ls:List (List Mb))(hls:ls.length≤9223372036854775807)(hl:∀l∈ls,l.length≤9223372036854775807)(hw:∀l∈ls,∀m∈l,m.ok):Fun Tryz.prog 59 [.c (.sl c (ls.map Ak5))] [.c (.v (.int .i64 (Am Ib ls)))]:=by
 refine A9 Rk rfl ?_;(refine goI ?_;repeat (intro gg;refine goI ?_));rw[ZE];(refine⟨[],none,{k:Nat//k≤ls.length∧∀j,(h:j<ls.length)→j<k→Ib (ls[j])=0},[7,8],fun⟨k,hk,h0⟩=>[(9,.v (.int .i64 k))],[],fun⟨k,hk,h0⟩=>[],fun⟨k,hk,h0⟩=>ls.length-k,trivial,fun _=>⟨trivial,fun _=>⟨⟨0,by omega,fun j _ h=>by omega⟩,tI,Aj _ _,tI,Ai _ _⟩⟩,fun⟨k,hk,h0⟩=>?_⟩);(refine goI ?_;repeat (intro gg;refine goI ?_));(refine Ab (fun h=>?_) (fun h=>?_)<;>rw[h])
 ·have hlt:k<ls.length:=by simpa using h
  (refine goI ?_;repeat (intro gg;refine goI ?_));refine⟨k,_,rfl,Ap hlt,?_⟩;(refine goI ?_;repeat (intro gg;refine goI ?_));have HL:=hl _ (ZK hlt);have HW:=hw _ (ZK hlt);have HE:=Br (e:=Ib) hlt h0;have HN:Ib ls[k]=0→∀j,(h:j<ls.length)→j<k+1→Ib (ls[j])=0:=fun e=>up1 (p:=fun j h=>Ib (ls[j])=0) h0 (fun _=>e);generalize ls[k]=l at *;rw[ZE];(refine Ab (fun h1=>?_) (fun h1=>?_)<;>rw[h1])
  ·(refine goI ?_;repeat (intro gg;refine goI ?_));have e:Ib l=2:=Ge (by have:=ZV h1;omega);rw[HE (by rw[e];decide),e];(exact⟨[],aI⟩)
  ·have h1':¬20<l.length:=(by have:=ZW h1;omega);(refine goI ?_;repeat (intro gg;refine goI ?_));refine .inl (cX (V8 false l HL HW) ?_);(refine goI ?_;repeat (intro gg;refine goI ?_));(refine Ab (fun h2=>?_) (fun h2=>?_)<;>rw[h2])
   ·have h2':Am Mb.err l≠0:=by simpa using h2
    (refine goI ?_;repeat (intro gg;refine goI ?_));have e:Ib l=Am Mb.err l:=Cx h1' h2';rw[HE (by rw[e];exact h2'),e];(exact⟨[],aI⟩)
   ·have h2':Am Mb.err l=0:=by simpa using h2
    (refine goI ?_;repeat (intro gg;refine goI ?_));(refine⟨[],none,{k:Nat//(k<l.length∨k=0)∧∀i,(h:i+1<l.length)→i<k→Mb.lt l[i] l[i+1]=true},[4,7,8,9],fun⟨q,hq,g0⟩=>[(6,.v (.int .i64 ((q:Int)+1)))],[],fun⟨q,hq,g0⟩=>[],fun⟨q,hq,g0⟩=>l.length-q,trivial,fun _=>⟨trivial,fun _=>⟨⟨0,by omega,fun j _ h=>by omega⟩,tI,Aj _ _,tI,Ai _ _⟩⟩,fun⟨q,hq,g0⟩=>?_⟩);(refine goI ?_;repeat (intro gg;refine goI ?_));rw[ZE];(refine Ab (fun h3=>?_) (fun h3=>?_)<;>rw[h3])
    ·have hlt3:q+1<l.length:=(by have:=ZV h3;omega);(refine goI ?_;repeat (intro gg;refine goI ?_));refine⟨q+1,_,by omega,Ap hlt3,?_⟩;(refine goI ?_;repeat (intro gg;refine goI ?_));refine⟨q,_,by omega,Ap (by omega),?_⟩;(refine goI ?_;repeat (intro gg;refine goI ?_));rw[Qw];(refine Ab (fun h4=>?_) (fun h4=>?_)<;>rw[h4])
     ·(refine goI ?_;repeat (intro gg;refine goI ?_));have e:Ib l=4:=Ma h1' h2' (Dn hlt3 (by simpa[Mb.lt]using h4));rw[HE (by rw[e];decide),e];(exact⟨[],aI⟩)
     ·(refine goI ?_;repeat (intro gg;refine goI ?_));(exact⟨none,trivial,fun _=>⟨⟨q+1,by omega,up2 (p:=fun i h=>Mb.lt l[i] l[i+1]=true) g0 (fun _=>by simpa[Mb.lt]using h4)⟩,by show l.length-(q+1)<l.length-q;omega,tI,tI,tI,tI⟩⟩)
    ·have hge3:¬q+1<l.length:=(by have:=ZW h3;omega);(refine goI ?_;repeat (intro gg;refine goI ?_));have e:Ib l=0:=Jh h1' h2' (Dv fun i hi=>g0 i hi (by omega));(exact⟨none,trivial,fun _=>⟨⟨k+1,by omega,HN e⟩,by show ls.length-(k+1)<ls.length-k;omega,tI,tI,tI,tI⟩⟩)
 ·have hge:¬k<ls.length:=by simpa using h
  (refine goI ?_;repeat (intro gg;refine goI ?_));rw[Bc (l:=ls) (fun i hi=>h0 i hi (by omega))];(exact⟨[],aI⟩)
theorem Z8[Glob](l:List Mb)(hl:l.length≤9223372036854775807)(hw:∀m∈l,m.ok):Fun Tryz.prog 27 [.c (.sl false (l.map Mb.row))] [.c (.v (.int .i64 (Ib l)))]:=by
 refine A9 Rz rfl ?_;(refine goI ?_;repeat (intro gg;refine goI ?_));(refine .inl ⟨_,_,true,[],aI,Zx false [l] (by simp) (by simpa using hl) (by simpa using hw),(fun _=>fI),nI,?_⟩);rw[Ld];(refine goI ?_;repeat (intro gg;refine goI ?_));(exact⟨[],aI⟩)

def Ru.same(g h:Ru):Bool:=(g.m.n.toList==h.m.n.toList)&&((g.m.st==h.m.st)&&((g.m.lf==h.m.lf)&&((g.m.ad==h.m.ad)&&((g.m.sv==h.m.sv)&&((g.t==h.t)&&true)))))
theorem Ru.same_iff{g h:Ru}:Ru.same g h=true↔g=h:=by
 obtain⟨⟨a,b,c,d,e⟩,f⟩:=g;obtain⟨⟨a',b',c',d',e'⟩,f'⟩:=h;have tl:∀a b:ByteArray,a.toList=b.toList↔a=b:=fun a b=>⟨toList_inj,fun h=>by rw[h]⟩;simp only[Ru.same,Bool.and_true,ZO,ZR,tl,Ru.mk.injEq,Mb.mk.injEq,and_assoc]



theorem Mr[Glob](n a b:Int):Fun Tryz.prog 88 [.c (.v (.int .i64 n)),.c (.v (.int .i64 a)),.c (.v (.int .i64 b))] [.c (.v (.bool (wi n a b)))]:=by
 refine A9 Oh rfl ?_;(refine goI ?_;repeat (intro gg;refine goI ?_));(refine Ab (fun h=>?_) (fun h=>?_)<;>rw[h])
 ·(refine goI ?_;repeat (intro gg;refine goI ?_));rw[Ae9 h];(exact⟨[],aI⟩)
 ·(refine goI ?_;repeat (intro gg;refine goI ?_));rw[Afd h];(exact⟨[],aI⟩)
theorem Adb[Glob](s:ByteArray)(hs:s.size≤9223372036854775807):Fun Tryz.prog 87 [.c (.v (.string s))] [.c (.v (.bool (R5 s)))]:=by
 refine A9 Qk rfl ?_;(refine goI ?_;repeat (intro gg;refine goI ?_));(refine Ab (fun h=>?_) (fun h=>?_)<;>rw[h])
 ·(refine goI ?_;repeat (intro gg;refine goI ?_));rw[show R5 s=true by unfold R5;rw[show emp s=true from h];rfl];(exact⟨[],aI⟩)
 ·(refine goI ?_;repeat (intro gg;refine goI ?_));refine .inl (cX (Ez _ hs) ?_);(refine goI ?_;repeat (intro gg;refine goI ?_));rw[show R5 s=lab s.data.toList by unfold R5;rw[show emp s=false from h];rfl];(exact⟨[],aI⟩)
theorem Af1[Glob](m:Sv)(hm:m.ok):Fun Tryz.prog 77 [.c (.agg m.row)] [.c (.v (.int .i64 m.err))]:=by
 obtain⟨o1,o2,o3,o4⟩:=hm;refine A9 Sp rfl ?_;(refine goI ?_;repeat (intro gg;refine goI ?_));refine .inl (cX (Ez _ o1) ?_);(refine goI ?_;repeat (intro gg;refine goI ?_));(refine Ab (fun h1=>?_) (fun h1=>?_)<;>rw[h1])
 ·(refine goI ?_;repeat (intro gg;refine goI ?_))
  (rw[show m.err=1 from by(first|(simp_all;done)|(unfold Sv.err;simp_all))];(exact⟨[],aI⟩))
 ·(refine goI ?_;repeat (intro gg;refine goI ?_));refine .inl (cX (Ez _ o2) ?_);(refine goI ?_;repeat (intro gg;refine goI ?_));(refine Ab (fun h2=>?_) (fun h2=>?_)<;>rw[h2])
  ·(refine goI ?_;repeat (intro gg;refine goI ?_))
   (rw[show m.err=1 from by(first|(simp_all;done)|(unfold Sv.err;simp_all))];(exact⟨[],aI⟩))
  ·(refine goI ?_;repeat (intro gg;refine goI ?_));refine .inl (cX (Ez _ o3) ?_);(refine goI ?_;repeat (intro gg;refine goI ?_));(refine Ab (fun h3=>?_) (fun h3=>?_)<;>rw[h3])
   ·(refine goI ?_;repeat (intro gg;refine goI ?_))
    (rw[show m.err=1 from by(first|(simp_all;done)|(unfold Sv.err;simp_all))];(exact⟨[],aI⟩))
   ·(refine goI ?_;repeat (intro gg;refine goI ?_));refine .inl (cX (Adb _ o4) ?_);(refine goI ?_;repeat (intro gg;refine goI ?_));(refine Ab (fun h4=>?_) (fun h4=>?_)<;>rw[h4])
    ·(refine goI ?_;repeat (intro gg;refine goI ?_))
     (rw[show m.err=1 from by(first|(simp_all;done)|(unfold Sv.err;simp_all))];(exact⟨[],aI⟩))
    ·(refine goI ?_;repeat (intro gg;refine goI ?_));refine .inl (cX (Mr _ _ _) ?_);(refine goI ?_;repeat (intro gg;refine goI ?_));(refine Ab (fun h5=>?_) (fun h5=>?_)<;>rw[h5])
     ·(refine goI ?_;repeat (intro gg;refine goI ?_))
      (rw[show m.err=3 from by(first|(simp_all;done)|(unfold Sv.err;simp_all))];(exact⟨[],aI⟩))
     ·(refine goI ?_;repeat (intro gg;refine goI ?_));refine .inl (cX (Mr _ _ _) ?_);(refine goI ?_;repeat (intro gg;refine goI ?_));(refine Ab (fun h6=>?_) (fun h6=>?_)<;>rw[h6])
      ·(refine goI ?_;repeat (intro gg;refine goI ?_))
       (rw[show m.err=3 from by(first|(simp_all;done)|(unfold Sv.err;simp_all))];(exact⟨[],aI⟩))
      ·(refine goI ?_;repeat (intro gg;refine goI ?_));refine .inl (cX (Mr _ _ _) ?_);(refine goI ?_;repeat (intro gg;refine goI ?_));(refine Ab (fun h7=>?_) (fun h7=>?_)<;>rw[h7])
       ·(refine goI ?_;repeat (intro gg;refine goI ?_))
        (rw[show m.err=3 from by(first|(simp_all;done)|(unfold Sv.err;simp_all))];(exact⟨[],aI⟩))
       ·(refine goI ?_;repeat (intro gg;refine goI ?_))
        (rw[show m.err=0 from by(first|(simp_all;done)|(unfold Sv.err;simp_all))];(exact⟨[],aI⟩))
theorem Ad3[Glob](g x:Sv):Fun Tryz.prog 78 [.c (.agg g.row),.c (.agg x.row)] [.c (.v (.int .i64 (Sv.cf x.nd x.id g)))]:=by
 refine A9 P5 rfl ?_;(refine goI ?_;repeat (intro gg;refine goI ?_));(refine⟨_,_,false,aI,Xx _ _,Ak,nI,?_⟩);(refine goI ?_;repeat (intro gg;refine goI ?_));refine .inl (cX (Xx _ _) ?_);(refine goI ?_;repeat (intro gg;refine goI ?_));(refine .inl ⟨_,_,true,[],aI,Aj1 false [E4 g.nd x.nd,E4 g.id x.id] (by simp),(fun _=>fI),nI,?_⟩);(refine goI ?_;repeat (intro gg;refine goI ?_));(exact⟨[],aI⟩)
def Aia(l:List Sv):List V:=[.sl false (l.map Sv.row)]
theorem Aaj[Glob](c:Bool)(ls:List (List Sv))(hls:ls.length≤9223372036854775807)(hl:∀l∈ls,l.length≤9223372036854775807)(hw:∀l∈ls,∀m∈l,m.ok):Fun Tryz.prog 60 [.c (.sl c (ls.map Aia))] [.c (.v (.int .i64 (Am Im ls)))]:=by
 refine A9 Qv rfl ?_;(refine goI ?_;repeat (intro gg;refine goI ?_));rw[ZE];(refine⟨[],none,{k:Nat//k≤ls.length∧∀j,(h:j<ls.length)→j<k→Im (ls[j])=0},[9,10],fun⟨k,hk,h0⟩=>[(11,.v (.int .i64 k))],[],fun⟨k,hk,h0⟩=>[],fun⟨k,hk,h0⟩=>ls.length-k,trivial,fun _=>⟨trivial,fun _=>⟨⟨0,by omega,fun j _ h=>by omega⟩,tI,Aj _ _,tI,Ai _ _⟩⟩,fun⟨k,hk,h0⟩=>?_⟩);(refine goI ?_;repeat (intro gg;refine goI ?_));(refine Ab (fun h=>?_) (fun h=>?_)<;>rw[h])
 ·have hlt:k<ls.length:=by simpa using h
  (refine goI ?_;repeat (intro gg;refine goI ?_));refine⟨k,_,rfl,Ap hlt,?_⟩;(refine goI ?_;repeat (intro gg;refine goI ?_));have HL:=hl _ (ZK hlt);have HW:=hw _ (ZK hlt);have HE:=Br (e:=Im) hlt h0;have HN:Im ls[k]=0→∀j,(h:j<ls.length)→j<k+1→Im (ls[j])=0:=fun e=>up1 (p:=fun j h=>Im (ls[j])=0) h0 (fun _=>e);generalize ls[k]=l at *;rw[ZE];(refine Ab (fun h1=>?_) (fun h1=>?_)<;>rw[h1])
  ·(refine goI ?_;repeat (intro gg;refine goI ?_));have e:Im l=2:=Ge (by have:=ZV h1;omega);rw[HE (by rw[e];decide),e];(exact⟨[],aI⟩)
  ·have h1':¬40<l.length:=(by have:=ZW h1;omega);(refine goI ?_;repeat (intro gg;refine goI ?_));rw[ZE];(refine⟨[],none,{q:Nat//q≤l.length∧∀j,(h:j<l.length)→j<q→(l[j]).err=0},[4,9,10,11,18,19],fun⟨q,hq,g0⟩=>[(20,.v (.int .i64 q))],[],fun⟨q,hq,g0⟩=>[],fun⟨q,hq,g0⟩=>l.length-q,trivial,fun _=>⟨trivial,fun _=>⟨⟨0,by omega,fun j _ h=>by omega⟩,tI,Aj _ _,tI,Ai _ _⟩⟩,fun⟨q,hq,g0⟩=>?_⟩);(refine goI ?_;repeat (intro gg;refine goI ?_));(refine Ab (fun h2=>?_) (fun h2=>?_)<;>rw[h2])
   ·have hlt2:q<l.length:=(by have:=ZV h2;omega);(refine goI ?_;repeat (intro gg;refine goI ?_));refine⟨q,_,rfl,Ap hlt2,?_⟩;(refine goI ?_;repeat (intro gg;refine goI ?_));refine .inl (cX (Af1 _ (HW _ (ZK hlt2))) ?_);(refine goI ?_;repeat (intro gg;refine goI ?_));(refine Ab (fun h3=>?_) (fun h3=>?_)<;>rw[h3])
    ·have h3':(l[q]).err≠0:=by simpa using h3
     have e0:=Br hlt2 g0 h3';(refine goI ?_;repeat (intro gg;refine goI ?_));have e:Im l=(l[q]).err:=(Cx h1' (by rw[e0];exact h3')).trans e0;rw[HE (by rw[e];exact h3'),e];(exact⟨[],aI⟩)
    ·(refine goI ?_;repeat (intro gg;refine goI ?_));(exact⟨none,trivial,fun _=>⟨⟨q+1,by omega,up1 (p:=fun j h=>(l[j]).err=0) g0 (fun _=>by simpa using h3)⟩,by show l.length-(q+1)<l.length-q;omega,tI,tI,tI,tI⟩⟩)
   ·have hge2:¬q<l.length:=(by have:=ZW h2;omega);have h2':Am Sv.err l=0:=Bc fun i hi=>g0 i hi (by omega);(refine goI ?_;repeat (intro gg;refine goI ?_));(refine⟨[],none,{k:Nat//(k<l.length∨k=0)∧∀i,(h:i+1<l.length)→i<k→Sv.lt l[i] l[i+1]=true},[4,9,10,11],fun⟨q,hq,g0⟩=>[(8,.v (.int .i64 ((q:Int)+1)))],[],fun⟨q,hq,g0⟩=>[],fun⟨q,hq,g0⟩=>l.length-q,trivial,fun _=>⟨trivial,fun _=>⟨⟨0,by omega,fun j _ h=>by omega⟩,tI,Aj _ _,tI,Ai _ _⟩⟩,fun⟨q,hq,g0⟩=>?_⟩);(refine goI ?_;repeat (intro gg;refine goI ?_));rw[ZE];(refine Ab (fun h3=>?_) (fun h3=>?_)<;>rw[h3])
    ·have hlt3:q+1<l.length:=(by have:=ZV h3;omega);(refine goI ?_;repeat (intro gg;refine goI ?_));refine⟨q,_,by omega,Ap (by omega),?_⟩;(refine goI ?_;repeat (intro gg;refine goI ?_));refine⟨q+1,_,by omega,Ap hlt3,?_⟩;(refine goI ?_;repeat (intro gg;refine goI ?_));refine .inl (cX (Ad3 _ _) ?_);(refine goI ?_;repeat (intro gg;refine goI ?_));(refine Ab (fun h4=>?_) (fun h4=>?_)<;>rw[h4])
     ·(refine goI ?_;repeat (intro gg;refine goI ?_));have e:Im l=4:=Ma h1' h2' (Dn hlt3 (ZY (by have:=ZV h4;show¬Sv.cf l[q+1].nd l[q+1].id l[q]<0;omega)));rw[HE (by rw[e];decide),e];(exact⟨[],aI⟩)
     ·(refine goI ?_;repeat (intro gg;refine goI ?_));(exact⟨none,trivial,fun _=>⟨⟨q+1,by omega,up2 (p:=fun i h=>Sv.lt l[i] l[i+1]=true) g0 (fun _=>ZX (by have:=ZW h4;show Sv.cf l[q+1].nd l[q+1].id l[q]<0;omega))⟩,by show l.length-(q+1)<l.length-q;omega,tI,tI,tI,tI⟩⟩)
    ·have hge3:¬q+1<l.length:=(by have:=ZW h3;omega);(refine goI ?_;repeat (intro gg;refine goI ?_));have e:Im l=0:=Jh h1' h2' (Dv fun i hi=>g0 i hi (by omega));(exact⟨none,trivial,fun _=>⟨⟨k+1,by omega,HN e⟩,by show ls.length-(k+1)<ls.length-k;omega,tI,tI,tI,tI⟩⟩)
 ·have hge:¬k<ls.length:=by simpa using h
  (refine goI ?_;repeat (intro gg;refine goI ?_));rw[Bc (l:=ls) (fun i hi=>h0 i hi (by omega))];(exact⟨[],aI⟩)
theorem Aa0[Glob](l:List Sv)(hl:l.length≤9223372036854775807)(hw:∀m∈l,m.ok):Fun Tryz.prog 28 [.c (.sl false (l.map Sv.row))] [.c (.v (.int .i64 (Im l)))]:=by
 refine A9 P8 rfl ?_;(refine goI ?_;repeat (intro gg;refine goI ?_));(refine .inl ⟨_,_,true,[],aI,Aaj false [l] (by simp) (by simpa using hl) (by simpa using hw),(fun _=>fI),nI,?_⟩);rw[Ld];(refine goI ?_;repeat (intro gg;refine goI ?_));(exact⟨[],aI⟩)



theorem Q7[Glob](n a b:Int):Fun Tryz.prog 91 [.c (.v (.int .i64 n)),.c (.v (.int .i64 a)),.c (.v (.int .i64 b))] [.c (.v (.bool (wi n a b)))]:=by
 refine A9 Qa rfl ?_;(refine goI ?_;repeat (intro gg;refine goI ?_));(refine Ab (fun h=>?_) (fun h=>?_)<;>rw[h])
 ·(refine goI ?_;repeat (intro gg;refine goI ?_));rw[Ae9 h];(exact⟨[],aI⟩)
 ·(refine goI ?_;repeat (intro gg;refine goI ?_));rw[Afd h];(exact⟨[],aI⟩)
theorem Aei[Glob](m:Gw)(hm:m.ok):Fun Tryz.prog 79 [.c (.agg m.row)] [.c (.v (.int .i64 m.err))]:=by
 refine A9 U4 rfl ?_;(refine goI ?_;repeat (intro gg;refine goI ?_));refine .inl (cX (Ez _ hm) ?_);(refine goI ?_;repeat (intro gg;refine goI ?_));(refine Ab (fun h1=>?_) (fun h1=>?_)<;>rw[h1])
 ·(refine goI ?_;repeat (intro gg;refine goI ?_))
  (rw[show m.err=1 from by(first|(simp_all;done)|(unfold Gw.err;simp_all))];(exact⟨[],aI⟩))
 ·(refine goI ?_;repeat (intro gg;refine goI ?_));refine .inl (cX (Q7 _ _ _) ?_);(refine goI ?_;repeat (intro gg;refine goI ?_));(refine Ab (fun h3=>?_) (fun h3=>?_)<;>rw[h3])
  ·(refine goI ?_;repeat (intro gg;refine goI ?_))
   (rw[show m.err=3 from by(first|(simp_all;done)|(unfold Gw.err;simp_all))];(exact⟨[],aI⟩))
  ·(refine goI ?_;repeat (intro gg;refine goI ?_));refine .inl (cX (Q7 _ _ _) ?_);(refine goI ?_;repeat (intro gg;refine goI ?_));(refine Ab (fun h4=>?_) (fun h4=>?_)<;>rw[h4])
   ·(refine goI ?_;repeat (intro gg;refine goI ?_))
    (rw[show m.err=3 from by(first|(simp_all;done)|(unfold Gw.err;simp_all))];(exact⟨[],aI⟩))
   ·(refine goI ?_;repeat (intro gg;refine goI ?_))
    (rw[show m.err=0 from by(first|(simp_all;done)|(unfold Gw.err;simp_all))];(exact⟨[],aI⟩))
def Aiv(l:List Gw):List V:=[.sl false (l.map Gw.row)]
theorem Z0[Glob](c:Bool)(ls:List (List Gw))(hls:ls.length≤9223372036854775807)(hl:∀l∈ls,l.length≤9223372036854775807)(hw:∀l∈ls,∀m∈l,m.ok):Fun Tryz.prog 61 [.c (.sl c (ls.map Aiv))] [.c (.v (.int .i64 (Am Ih ls)))]:=by
 refine A9 R4 rfl ?_;(refine goI ?_;repeat (intro gg;refine goI ?_));rw[ZE];(refine⟨[],none,{k:Nat//k≤ls.length∧∀j,(h:j<ls.length)→j<k→Ih (ls[j])=0},[9,10],fun⟨k,hk,h0⟩=>[(11,.v (.int .i64 k))],[],fun⟨k,hk,h0⟩=>[],fun⟨k,hk,h0⟩=>ls.length-k,trivial,fun _=>⟨trivial,fun _=>⟨⟨0,by omega,fun j _ h=>by omega⟩,tI,Aj _ _,tI,Ai _ _⟩⟩,fun⟨k,hk,h0⟩=>?_⟩);(refine goI ?_;repeat (intro gg;refine goI ?_));(refine Ab (fun h=>?_) (fun h=>?_)<;>rw[h])
 ·have hlt:k<ls.length:=by simpa using h
  (refine goI ?_;repeat (intro gg;refine goI ?_));refine⟨k,_,rfl,Ap hlt,?_⟩;(refine goI ?_;repeat (intro gg;refine goI ?_));have HL:=hl _ (ZK hlt);have HW:=hw _ (ZK hlt);have HE:=Br (e:=Ih) hlt h0;have HN:Ih ls[k]=0→∀j,(h:j<ls.length)→j<k+1→Ih (ls[j])=0:=fun e=>up1 (p:=fun j h=>Ih (ls[j])=0) h0 (fun _=>e);generalize ls[k]=l at *;rw[ZE];(refine Ab (fun h1=>?_) (fun h1=>?_)<;>rw[h1])
  ·(refine goI ?_;repeat (intro gg;refine goI ?_));have e:Ih l=2:=Ge (by have:=ZV h1;omega);rw[HE (by rw[e];decide),e];(exact⟨[],aI⟩)
  ·have h1':¬6<l.length:=(by have:=ZW h1;omega);(refine goI ?_;repeat (intro gg;refine goI ?_));rw[ZE];(refine⟨[],none,{k:Nat//k≤l.length∧∀j,(h:j<l.length)→j<k→(l[j]).err=0},[4,9,10,11,18,19],fun⟨p,hp,p0⟩=>[(20,.v (.int .i64 p))],[],fun⟨p,hp,p0⟩=>[],fun⟨p,hp,p0⟩=>l.length-p,trivial,fun _=>⟨trivial,fun _=>⟨⟨0,by omega,fun j _ h=>by omega⟩,tI,Aj _ _,tI,Ai _ _⟩⟩,fun⟨p,hp,p0⟩=>?_⟩);(refine goI ?_;repeat (intro gg;refine goI ?_));(refine Ab (fun h2=>?_) (fun h2=>?_)<;>rw[h2])
   ·have hlt2:p<l.length:=(by have:=ZV h2;omega);(refine goI ?_;repeat (intro gg;refine goI ?_));refine⟨p,_,rfl,Ap hlt2,?_⟩;(refine goI ?_;repeat (intro gg;refine goI ?_));refine .inl (cX (Aei _ (HW _ (ZK hlt2))) ?_);(refine goI ?_;repeat (intro gg;refine goI ?_));(refine Ab (fun h5=>?_) (fun h5=>?_)<;>rw[h5])
    ·(refine goI ?_;repeat (intro gg;refine goI ?_));have h5':(l[p]).err≠0:=by simpa using h5
     have e0:=Br hlt2 p0 h5';have e:Ih l=(l[p]).err:=(Cx h1' (by rw[e0];exact h5')).trans e0;rw[HE (by rw[e];exact h5'),e];(exact⟨[],aI⟩)
    ·(refine goI ?_;repeat (intro gg;refine goI ?_));(exact⟨none,trivial,fun _=>⟨⟨p+1,by omega,up1 (p:=fun j h=>(l[j]).err=0) p0 (fun _=>by simpa using h5)⟩,by show l.length-(p+1)<l.length-p;omega,tI,tI,tI,tI⟩⟩)
   ·have hge2:¬p<l.length:=(by have:=ZW h2;omega);have h2':Am Gw.err l=0:=Bc fun i hi=>p0 i hi (by omega);(refine goI ?_;repeat (intro gg;refine goI ?_));(refine⟨[],none,{k:Nat//(k<l.length∨k=0)∧∀i,(h:i+1<l.length)→i<k→Gw.lt l[i] l[i+1]=true},[4,9,10,11],fun⟨q,hq,g0⟩=>[(8,.v (.int .i64 ((q:Int)+1)))],[],fun⟨q,hq,g0⟩=>[],fun⟨q,hq,g0⟩=>l.length-q,trivial,fun _=>⟨trivial,fun _=>⟨⟨0,by omega,fun j _ h=>by omega⟩,tI,Aj _ _,tI,Ai _ _⟩⟩,fun⟨q,hq,g0⟩=>?_⟩);(refine goI ?_;repeat (intro gg;refine goI ?_));rw[ZE];(refine Ab (fun h3=>?_) (fun h3=>?_)<;>rw[h3])
    ·have hlt3:q+1<l.length:=(by have:=ZV h3;omega);(refine goI ?_;repeat (intro gg;refine goI ?_));refine⟨q+1,_,by omega,Ap hlt3,?_⟩;(refine goI ?_;repeat (intro gg;refine goI ?_));refine⟨q,_,by omega,Ap (by omega),?_⟩;(refine goI ?_;repeat (intro gg;refine goI ?_));rw[Qw];(refine Ab (fun h4=>?_) (fun h4=>?_)<;>rw[h4])
     ·(refine goI ?_;repeat (intro gg;refine goI ?_));have e:Ih l=4:=Ma h1' h2' (Dn hlt3 (by simpa[Gw.lt]using h4));rw[HE (by rw[e];decide),e];(exact⟨[],aI⟩)
     ·(refine goI ?_;repeat (intro gg;refine goI ?_));(exact⟨none,trivial,fun _=>⟨⟨q+1,by omega,up2 (p:=fun i h=>Gw.lt l[i] l[i+1]=true) g0 (fun _=>by simpa[Gw.lt]using h4)⟩,by show l.length-(q+1)<l.length-q;omega,tI,tI,tI,tI⟩⟩)
    ·have hge3:¬q+1<l.length:=(by have:=ZW h3;omega);(refine goI ?_;repeat (intro gg;refine goI ?_));have e:Ih l=0:=Jh h1' h2' (Dv fun i hi=>g0 i hi (by omega));(exact⟨none,trivial,fun _=>⟨⟨k+1,by omega,HN e⟩,by show ls.length-(k+1)<ls.length-k;omega,tI,tI,tI,tI⟩⟩)
 ·have hge:¬k<ls.length:=by simpa using h
  (refine goI ?_;repeat (intro gg;refine goI ?_));rw[Bc (l:=ls) (fun i hi=>h0 i hi (by omega))];(exact⟨[],aI⟩)
theorem Zo[Glob](l:List Gw)(hl:l.length≤9223372036854775807)(hw:∀m∈l,m.ok):Fun Tryz.prog 29 [.c (.sl false (l.map Gw.row))] [.c (.v (.int .i64 (Ih l)))]:=by
 refine A9 Ro rfl ?_;(refine goI ?_;repeat (intro gg;refine goI ?_));(refine .inl ⟨_,_,true,[],aI,Z0 false [l] (by simp) (by simpa using hl) (by simpa using hw),(fun _=>fI),nI,?_⟩);rw[Ld];(refine goI ?_;repeat (intro gg;refine goI ?_));(exact⟨[],aI⟩)
end Go.Proofs.YteflnbjmjcbmmaaGreatDoor

