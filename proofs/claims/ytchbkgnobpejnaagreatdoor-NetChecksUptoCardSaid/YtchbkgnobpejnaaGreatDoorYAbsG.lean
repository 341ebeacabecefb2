/- The framework: part of this claim. -/
import Derived.Test.YtchbkgnobpejnaaGreatDoorYAbsF
set_option linter.unusedSimpArgs false
set_option linter.unusedVariables false
namespace Go.Proofs.YtchbkgnobpejnaaGreatDoor
open Go.RowKit
section
variable [Off]
abbrev Env:=Nat→V
abbrev Hp:=Nat→Option Ent
def f1(v:V)(K:V→Prop):Prop:=match v with
 |.v (.int k n)=>K (.v (.int k n))
 |.v (.bool b)=>K (.v (.bool b))
 |.v (.string s)=>K (.v (.string s))
 |.v (.slice a n c)=>K (.v (.slice a n c))
 |.v (.tuple xs)=>K (.v (.tuple xs))
 |.v (.pointer x)=>K (.v (.pointer x))
 |.v (.func f a b)=>K (.v (.func f a b))
 |.v x=>K (.v x)
 |.any=>K .any
 |.agg cs=>K (.agg cs)
 |.tup us=>K (.tup us)
 |.sl c rows=>K (.sl c rows)
 |.own id g=>K (.own id g)
 |.ptr id g i o=>K (.ptr id g i o)
 |.rptr row o=>K (.rptr row o)
 |.clo f cs=>K (.clo f cs)
 |.obj id g=>K (.obj id g)
 |.rmap es=>K (.rmap es)
 |.osub id g a b=>K (.osub id g a b)
 |.oclip id g n=>K (.oclip id g n)
 |.inm id g b n c=>K (.inm id g b n c)
end
theorem Uu(v:V)(K:V→Prop):f1 v K=K v:=by
 unfold f1;split<;>rfl
section
variable [Off]
def fL:List V→(List V→Prop)→Prop
 |[],K=>K []
 |v::vs,K=>f1 v fun v=>fL vs fun vs=>K (v::vs)
end
theorem Ri:∀(vs:List V) (K:List V→Prop),fL vs K=K vs
 |[],K=>rfl
 |v::vs,K=>by rw[fL,Uu,Ri]
section
variable [Off]
def kk(k k':IntKind)(p:Prop):Prop:=if k=k' then p else False
end
theorem Aqh{k k':IntKind}{p:Prop}(h:kk k k' p):k=k'∧p:=by
 unfold kk at h;split at h
 ·exact⟨‹_›,h⟩
 ·exact h.elim
section
variable [Off]
def bIf(t:Bool)(A B:Prop):Prop:=match t with
 |true=>A
 |false=>B
end
theorem Ab{t:Bool}{A B:Prop}(h1:t=true→A)(h2:t=false→B):bIf t A B:=by cases t;exact h2 rfl;exact h1 rfl
theorem Ad3{t:Bool}{A B:Prop}(ht:t=true)(h1:A):bIf t A B:=by subst ht;exact h1
theorem T6{t:Bool}{A B:Prop}(ht:t=false)(h1:B):bIf t A B:=by subst ht;exact h1
theorem Z5{t:Bool}{A B:Prop}(h:bIf t A B):(t=true→A)∧(t=false→B):=by
 cases t
 ·exact⟨(fun e=>by cases e),fun _=>h⟩
 ·exact⟨fun _=>h,(fun e=>by cases e)⟩
section
variable [Off]
def Asm(op:BinOp)(k:IntKind)(x:Int)(k':IntKind)(y:Int)(K:Value→Prop):Prop:=
 match op with
 |.add=>kk k k' (∃c,k.wrap (x+y)=c∧K (.int k c))
 |.sub=>kk k k' (∃c,k.wrap (x-y)=c∧K (.int k c))
 |.mul=>kk k k' (∃c,k.wrap (x*y)=c∧K (.int k c))
 |.quo=>kk k k' (y≠0∧∃c,k.wrap (x.tdiv y)=c∧K (.int k c))
 |.rem=>kk k k' (y≠0∧∃c,x.tmod y=c∧K (.int k c))
 |.shl=>0≤y∧∃c,k.wrap (x*2^(min y.toNat k.bits))=c∧K (.int k c)
 |.shr=>0≤y∧∃c,x.fdiv (2^(min y.toNat k.bits))=c∧K (.int k c)
 |.and=>kk k k' (∃c,k.wrap ((BitVec.ofInt k.bits x&&&BitVec.ofInt k.bits y).toNat)=c∧K (.int k c))
 |.or=>kk k k' (∃c,k.wrap ((BitVec.ofInt k.bits x|||BitVec.ofInt k.bits y).toNat)=c∧K (.int k c))
 |.andNot=>kk k k' (∃c,k.wrap ((BitVec.ofInt k.bits x&&& ~~~BitVec.ofInt k.bits y).toNat)=c∧K (.int k c))
 |.eql=>kk k k' (K (.bool (x==y)))
 |.neq=>kk k k' (K (.bool (x !=y)))
 |.lss=>kk k k' (K (.bool (decide (x<y))))
 |.leq=>kk k k' (K (.bool (decide (x≤y))))
 |.gtr=>kk k k' (K (.bool (decide (y<x))))
 |.geq=>kk k k' (K (.bool (decide (y≤x))))
 |_=>False
end
theorem Ao4{op:BinOp}{k k':IntKind}{x y:Int}{K:Value→Prop}(h:Asm op k x k' y K):Akf op k x k' y K:=by
 cases op<;>first|exact Aqh h|exact h
section
variable [Off]
def Aq7(op:BinOp)(a b:Value)(K:Value→Prop):Prop:=
 match a,b with
 |.int k x,.int k' y=>Asm op k x k' y K
 |.string x,.string y=>Amc op x y K
 |_,_=>False
end
theorem Ao7{op:BinOp}{a b:Value}{K:Value→Prop}(h:Aq7 op a b K):S1 op a b K:=by
 unfold Aq7 at h;unfold S1;split at h
 ·exact Ao4 h
 ·exact h
 ·exact h.elim
section
variable [Off]
def atH(H:Hp)(id gen:Nat)(K:Ent→Prop):Prop:=match H id with
 |some e=>e.gen=gen∧K e
 |none=>False
end
theorem Cp{H:Hp}{id gen:Nat}{K:Ent→Prop}(h:atH H id gen K):∃e,H id=some e∧e.gen=gen∧K e:=by
 unfold atH at h;split at h
 ·rename_i e he;exact⟨e,he,h.1,h.2⟩
 ·exact h.elim
section
variable [Off]
def bX(b:Bool)(K:Prop):Prop:=match b with
 |true=>K
 |false=>False
end
theorem Ha{b:Bool}{K:Prop}(h:bX b K):b=true∧K:=by cases b;exact h.elim;exact⟨rfl,h⟩
section
variable [Off]
def As6(H:Hp)(v:V)(K:Prop):Prop:=match v with
 |.v x=>bX x.oneCell' K
 |.sl _ _=>K
 |.rptr _ _=>K
 |.clo _ _=>K
 |.rmap _=>K
 |.own id g=>atH H id g fun _=>K
 |.ptr id g _ _=>atH H id g fun _=>K
 |.obj id g=>atH H id g fun e=>∃An,e.T=.q (Mj An)∧K
 |_=>False
end
theorem Ang{H:Hp}{v:V}{K:Prop}(h:As6 H v K):one H v∧K:=by
 cases v<;>first
  |exact Ha h
  |exact⟨trivial,h⟩
  |(obtain⟨e,h1,h2,h3⟩:=Cp h;exact⟨⟨e,h1,h2⟩,h3⟩)
  |(obtain⟨e,h1,h2,An,h3,h4⟩:=Cp h;exact⟨⟨e,h1,h2,An,h3⟩,h4⟩)
  |exact h.elim
section
variable [Off]
def W3(H:Hp):List V→Prop→Prop
 |[],K=>K
 |v::vs,K=>As6 H v (W3 H vs K)
end
theorem Mm{H:Hp}:∀{vs:List V} {K:Prop},W3 H vs K→Hl H vs∧K
 |[],K,h=>⟨trivial,h⟩
 |v::vs,K,h=>by
  obtain⟨h1,h2⟩:=Ang h;obtain⟨h3,h4⟩:=Mm h2;exact⟨⟨h1,h3⟩,h4⟩
section
variable [Off]
def Agr(env:Env)(H:Hp):List V→List (Nat×Nat×Operand)→(List V→Prop)→Prop
 |cs,[],K=>K cs
 |cs,(off,sz,x)::ps,K=>match Eb (val env x)with
  |some us=>bX (Nat.beq us.length sz) (bX (Nat.ble (off+sz) cs.length) (W3 H us (fL (Lh cs off us) fun cs'=>Agr env H cs' ps K)))
  |none=>False
end
theorem Acr{env:Env}{H:Hp}:∀(ps:List (Nat×Nat×Operand)) (cs:List V) {K:List V→Prop},Agr env H cs ps K→Gb env H cs ps K
 |[],cs,K,h=>h
 |(off,sz,x)::ps,cs,K,h=>by
  simp only[Agr,Gb]at h ⊢;split at h
  ·rename_i us hu;simp only[hu];obtain⟨h1,h⟩:=Ha h;obtain⟨h2,h⟩:=Ha h;obtain⟨h3,h⟩:=Mm h;rw[Ri]at h;exact⟨Nat.eq_of_beq_eq_true h1,Nat.le_of_ble_eq_true h2,h3,Acr ps _ h⟩
  ·exact h.elim
section
variable [Off]
def Abk(env:Env)(H:Hp)(sz:Nat):List (List V)→List (Nat×Operand)→(List (List V)→Prop)→Prop
 |rows,[],K=>K rows
 |rows,(i,x)::ps,K=>match Eb (val env x)with
  |some us=>fL us fun us=>bX (Nat.beq us.length sz) (bX (Nat.ble (i+1) rows.length) (W3 H us (Abk env H sz (rows.set i us) ps K)))
  |none=>False
end
theorem Zd{env:Env}{H:Hp}{sz:Nat}:∀(ps:List (Nat×Operand)) (rows:List (List V)) {K:List (List V)→Prop},Abk env H sz rows ps K→F9 env H sz rows ps K
 |[],cs,K,h=>h
 |(i,x)::ps,cs,K,h=>by
  simp only[Abk,F9]at h ⊢;split at h
  ·rename_i us hu;simp only[hu];rw[Ri]at h;obtain⟨h1,h⟩:=Ha h;obtain⟨h2,h⟩:=Ha h;obtain⟨h3,h⟩:=Mm h;exact⟨Nat.eq_of_beq_eq_true h1,Nat.le_of_ble_eq_true h2,h3,Zd ps _ h⟩
  ·exact h.elim
section
variable [Off]
def Abu(H:Hp)(sz:Nat)(v:V)(K:List (List V)→Prop):Prop:=match v with
 |.own id g=>atH H id g fun e=>e.sz=sz∧K e.rows
 |.sl _ rows=>(∀row∈rows,row.length=sz∧Hl H row)∧K rows
 |.v (.slice none 0 0)=>K []
 |.osub id g lo hi=>atH H id g fun e=>e.sz=sz∧lo≤hi∧hi≤e.rows.length∧K ((e.rows.drop lo).take (hi-lo))
 |.inm id g b n cap=>atH H id g fun e=>∃An ss s,e.T=.q (Mo An ss)∧s∈ss∧s.b=b∧s.cap=cap∧s.rows.length=n∧s.sz=sz∧K s.rows
 |_=>False
end
theorem Ps{H:Hp}{sz:Nat}{v:V}{K:List (List V)→Prop}(h:Abu H sz v K):∃rows,C8 H sz v rows∧K rows:=by
 unfold Abu at h;split at h
 ·obtain⟨e,h1,h2,h3,h4⟩:=Cp h;exact⟨_,⟨e,h1,h2,h3,rfl⟩,h4⟩
 ·exact⟨_,⟨rfl,h.1⟩,h.2⟩
 ·exact⟨_,rfl,h⟩
 ·obtain⟨e,h1,h2,h3,h4,h5,h6⟩:=Cp h;exact⟨_,⟨e,h1,h2,h3,h4,h5,rfl⟩,h6⟩
 ·obtain⟨e,h1,h2,An,ss,s,h3,h4,h5,h6,h7,h8,h9⟩:=Cp h;exact⟨_,⟨e,h1,h2,An,ss,s,h3,h4,h5,h6,h7,h8,rfl⟩,h9⟩
 ·exact h.elim
section
variable [Off]
def Abb(g:Nat→Nat):Nat→List Par→Hp→(List V→Hp→Prop)→Prop
 |_,[],H,K=>K [] H
 |k,.c u::rs,H,K=>Abb g k rs H fun us H'=>K (u::us) H'
 |k,.o T sz rows::rs,H,K=>Abb g (k+1) rs (upd H k (some ⟨g k,.t T,sz,rows⟩)) fun us H'=>K (.own k (g k)::us) H'
end
theorem Pp(g:Nat→Nat):∀(rs:List Par) (k:Nat) (H:Hp) (K:List V→Hp→Prop),Abb g k rs H K=K (Ih g k rs) (Bx H (P1 g k rs))
 |[],k,H,K=>rfl
 |.c u::rs,k,H,K=>by rw[Abb,Pp g rs];rfl
 |.o T sz rows::rs,k,H,K=>by rw[Abb,Pp g rs];rfl
section
variable [Off]
def W4:Hp→List Nat→Hp
 |H,[]=>H
 |H,i::l=>W4 (upd H i none) l
end
theorem Sy:∀(l:List Nat) (H:Hp),W4 H l=Bx H (l.map fun i=>(i,none))
 |[],H=>rfl
 |i::l,H=>Sy l (upd H i none)
section
variable [Off]
def mkX(agg:Bool)(cs:List V)(K:V→Prop):Prop:=match agg with
 |true=>fL cs fun cs=>K (.agg cs)
 |false=>f1 (cs.headD .any) K
end
theorem Am3(agg:Bool)(cs:List V)(K:V→Prop):mkX agg cs K=K (mkV agg cs):=by
 cases agg
 ·exact Uu _ _
 ·exact Ri _ _
section
variable [Off]
def Bk(r:Aa)(env:Env)(K:Env→Hp→Prop)(u:V)(H:Hp):Prop:=match r.dst with
 |some d=>K (upd env d u) H
 |none=>K env H
def Aiz(g:Nat→Nat)(id gn:Nat)(p:Bf)(H:Hp)(K:V→Hp→Prop):Prop:=match p with
 |.p (.c u)=>K u H
 |.p (.o T sz rows)=>K (.own id gn) (upd H id (some ⟨gn,.t T,sz,rows⟩))
 |.pn T cells=>Abb g (kx id) cells H fun us H'=>K (.ptr id gn 0 0) (upd H' id (some ⟨gn,.b T,cells.length,[us]⟩))
 |.po I=>K (.ptr id gn 0 0) (upd H id (some ⟨gn,.q I,0,[]⟩))
 |_=>K .any H
end
theorem Ah5(g:Nat→Nat)(id gn:Nat)(p:Bf)(H:Hp)(K:V→Hp→Prop):Aiz g id gn p H K=K (Aj3 id gn p) (Bx H (U8 g id gn p)):=by
 cases p with
 |p p=>cases p<;>rfl
 |pn T cells=>simp only[Aiz,Pp,Aj3,U8,Br];rfl
 |_=>rfl
section
variable [Off]
def Ag6(g:Nat→Nat):Nat→List Bf→Hp→(List V→Hp→Prop)→Prop
 |_,[],H,K=>K [] H
 |k,p::rs,H,K=>Aiz g k (g k) p H fun u H'=>Ag6 g (k+1) rs H' fun us H''=>K (u::us) H''
end
theorem Ac4(g:Nat→Nat):∀(rs:List Bf) (k:Nat) (H:Hp) (K:List V→Hp→Prop),Ag6 g k rs H K=K (Qh g k rs) (Bx H (Wd g k rs))
 |[],k,H,K=>rfl
 |p::rs,k,H,K=>by rw[Ag6,Ah5,Ac4 g rs,Wd,Br];rfl
section
variable [Off]
def Aeb(g:Nat→Nat)(u:V)(p:Bf)(H:Hp)(K:Hp→Prop):Prop:=match p with
 |.ms T sz _ rows'=>match u with|.own id gn=>Aiz g id gn (.p (.o T sz rows')) H fun _ H'=>K H'|_=>K H
 |.mn T _ cells'=>match u with|.ptr id gn _ _=>Aiz g id gn (.pn T cells') H fun _ H'=>K H'|_=>K H
 |.mo _ I'=>match u with|.ptr id gn _ _=>Aiz g id gn (.po I') H fun _ H'=>K H'|_=>K H
 |_=>K H
end
theorem Aih(g:Nat→Nat)(u:V)(p:Bf)(H:Hp)(K:Hp→Prop):Aeb g u p H K=K (Bx H (Ah1 g u p)):=by
 cases p<;>cases u<;>first|rfl|(simp only[Aeb,Ah5,Ah1])
section
variable [Off]
def Ag2(g:Nat→Nat):List V→List Bf→Hp→(Hp→Prop)→Prop
 |u::us,p::ps,H,K=>Aeb g u p H fun H'=>Ag2 g us ps H' K
 |_,_,H,K=>K H
end
theorem Adw(g:Nat→Nat):∀(us:List V) (ps:List Bf) (H:Hp) (K:Hp→Prop),Ag2 g us ps H K=K (Bx H (Ns g us ps))
 |u::us,p::ps,H,K=>by rw[Ag2,Aih,Adw g us,Ns,Br]
 |[],[],H,K=>rfl
 |[],_::_,H,K=>rfl
 |_::_,[],H,K=>rfl
section
variable [Off]
def qX(e:Ent)(K:Opq→Prop):Prop:=match e.T with
 |.q I=>K I
 |_=>False
end
theorem Aow{e:Ent}{K:Opq→Prop}(h:qX e K):∃I,e.T=.q I∧K I:=by
 unfold qX at h;split at h
 ·rename_i I hI;exact⟨I,hI,h⟩
 ·exact h.elim
section
variable [Off]
def Agb(H:Hp)(v:V)(K:List (Value×V)→Prop):Prop:=match v with
 |.obj id g=>atH H id g fun e=>qX e fun I=>∃An,I.view=some An∧K An
 |.rmap An=>K An
 |.v (.map none)=>K []
 |_=>False
end
theorem Acn{H:Hp}{v:V}{K:List (Value×V)→Prop}(h:Agb H v K):∃An,Ld H v An∧K An:=by
 unfold Agb at h;split at h
 ·obtain⟨e,h1,h2,h3⟩:=Cp h;obtain⟨I,h4,An,h6,h5⟩:=Aow h3;exact⟨An,⟨e,h1,h2,I,h4,h6⟩,h5⟩
 ·exact⟨_,rfl,h⟩
 ·exact⟨_,rfl,h⟩
 ·exact h.elim
section
variable [Off]
def Al7[Glob](P:Program)(H:Hp)(D:Value→Prop)(b:Nat)(f:FuncId)(us:List V)(K:List V→Hp→Prop):Prop:=
 (∃ps rs bor gone,Ar H gone bor gone us ps∧Fun P f ps rs∧(bor=true→Dx rs)∧rs.length≤16∧∀g:Nat→Nat,Abb g b rs (W4 H gone) K)∨
 (∃ps rs bor gone,Bm H gone bor gone us ps∧Gl P f ps rs∧(bor=true→∀p∈rs++B4 ps,Zj p)∧(∀p∈rs,Aaz p=true)∧(V5 b rs++J3 us ps).Nodup∧∀g:Nat→Nat,Ag2 g us ps (W4 H gone) fun H'=>Ag6 g b rs H' K)∨
 (∃ps bor gone v,Bm H gone bor gone us ps∧Ij P f ps v∧D v)∨Inl P f us H D K
end
theorem Adz[Glob]{P:Program}{H:Hp}{D:Value→Prop}{b:Nat}{f:FuncId}{us:List V}{K:List V→Hp→Prop}{K':V→Hp→Prop}(hk:∀us H',K us H'→K' (F7 us) H')(h:Al7 P H D b f us K):Ahm P H D b f us (fun u dH=>K' u (Bx H dH))∨Inl P f us H D (fun us H'=>K' (F7 us) H'):=by
 rcases h with⟨ps,rs,bor,gone,h1,h2,h3,h4,h5⟩|⟨ps,rs,bor,gone,h1,h2,h3,h4,h5,h6⟩|h|h
 ·refine .inl<|.inl ⟨ps,rs,bor,gone,h1,h2,h3,h4,fun g=>hk _ _ ?_⟩;have:=h5 g;rw[Pp,Sy,←Br]at this;exact this
 ·refine .inl<|.inr (.inl ⟨ps,rs,bor,gone,h1,h2,h3,h4,h5,fun g=>hk _ _ ?_⟩);have:=h6 g;rw[Adw,Ac4,Sy]at this;rw[Br,Br];exact this
 ·exact .inl (.inr (.inr h))
 ·exact .inr (h.mono hk)
section
variable [Off]
def opX[Glob](P:Program)(D:Value→Prop)(q:Bool)(r:Aa)(env:Env)(H:Hp)(K:Env→Hp→Prop):Prop:=
 match r.op with
 |.mv x=>f1 (val env x) fun v=>Bk r env K v H
 |.pick c x y=>match val env c with
  |.v (.bool t)=>bIf t (f1 (val env x) fun v=>Bk r env K v H) (f1 (val env y) fun v=>Bk r env K v H)
  |_=>False
 |.box T sz x=>match Eb (val env x)with
  |some cs=>fL cs fun cs=>bX (Nat.beq cs.length sz) (W3 H cs (∀g:Nat,Bk r env K (.ptr (16*(r.d+Off.o)) g 0 0) (upd H (16*(r.d+Off.o)) (some ⟨g,.b T,sz,[cs]⟩))))
  |none=>False
 |.zbox T z=>∀g:Nat,Bk r env K (.ptr (16*(r.d+Off.o)) g 0 0) (upd H (16*(r.d+Off.o)) (some ⟨g,.b T,z.length,[z.map .v]⟩))
 |.build z ps=>fL (z.map .v) fun cs=>Agr env H cs ps fun cs=>Bk r env K (.agg cs) H
 |.mks T sz n z ps=>Abk env H sz (List.replicate n (z.map .v)) ps fun rows=>∀g:Nat,Bk r env K (.own (16*(r.d+Off.o)) g) (upd H (16*(r.d+Off.o)) (some ⟨g,.t T,sz,rows⟩))
 |.mkn T sz bytes z x y=>match val env x,val env y with
  |.v (.int _ n),.v (.int _ m)=>∃k:Nat,n=(k:Int)∧m=(k:Int)∧k≤maxLen∧k*bytes≤140737488355328∧∀g:Nat,Bk r env K (.own (16*(r.d+Off.o)) g) (upd H (16*(r.d+Off.o)) (some ⟨g,.t T,sz,List.replicate k (z.map .v)⟩))
  |_,_=>False
 |.load agg sz x=>match val env x with
  |.rptr row off=>bX (Nat.ble (off+sz) row.length) (mkX agg ((row.drop off).take sz) fun v=>Bk r env K v H)
  |.ptr id gen i off=>atH H id gen fun e=>∃row,e.rows[i]? =some row∧bX (Nat.ble (off+sz) row.length) (mkX agg ((row.drop off).take sz) fun v=>Bk r env K v H)
  |_=>False
 |.bin op x y=>match val env x,val env y with
  |.v a,.v c=>Aq7 op a c fun v=>Bk r env K (.v v) H
  |_,_=>False
 |.mm mx x y=>match val env x,val env y with
  |.v (.int k a),.v (.int _ c)=>match mx with
   |true=>Bk r env K (.v (.int k (max a c))) H
   |false=>Bk r env K (.v (.int k (min a c))) H
  |_,_=>False
 |.eqb neg x y=>match val env x,val env y with
  |.v (.bool a),.v (.bool c)=>Bk r env K (.v (.bool (if neg then a !=c else a==c))) H
  |_,_=>False
 |.eqS neg ts x y=>match val env x,val env y with
  |.agg us,.agg vs=>match eqV ts us vs with
   |some b=>match neg with
    |true=>Bk r env K (.v (.bool (!b))) H
    |false=>Bk r env K (.v (.bool b)) H
   |none=>False
  |_,_=>False
 |.not x=>match val env x with
  |.v (.bool a)=>Bk r env K (.v (.bool (!a))) H
  |_=>False
 |.neg x=>match val env x with
  |.v (.int k a)=>∃c,k.wrap (0-a)=c∧Bk r env K (.v (.int k c)) H
  |_=>False
 |.conv k x=>match val env x with
  |.v (.int _ a)=>∃c,k.wrap a=c∧Bk r env K (.v (.int k c)) H
  |_=>False
 |.convS x=>match val env x with
  |.v (.string s)=>Bk r env K (.v (.string s)) H
  |_=>False
 |.fld agg sz off x=>match val env x with
  |.agg cs=>bX (Nat.ble (off+sz) cs.length) (mkX agg ((cs.drop off).take sz) fun v=>Bk r env K v H)
  |_=>False
 |.fldA off x=>match val env x with
  |.rptr row o=>Bk r env K (.rptr row (o+off)) H
  |.ptr id gen i o=>atH H id gen fun e=>Bk r env K (.ptr id gen i (o+off)) H
  |_=>False
 |.idxA sz x i=>match val env x,val env i with
  |.sl _ rows,.v (.int _ n)=>∃(j:Nat) (row:List V),n=(j:Int)∧rows[j]? =some row∧bX (Nat.beq row.length sz) (Bk r env K (.rptr row 0) H)
  |.own id gen,.v (.int _ n)=>atH H id gen fun e=>e.sz=sz∧∃(j:Nat) (row:List V),n=(j:Int)∧e.rows[j]? =some row∧Bk r env K (.ptr id gen j 0) H
  |_,_=>False
 |.idxS x i=>match val env x,val env i with
  |.v (.string s),.v (.int _ n)=>∃(j:Nat) (c:UInt8),n=(j:Int)∧s[j]? =some c∧Bk r env K (.v (.int .u8 c.toNat)) H
  |_,_=>False
 |.slcS x lo hi=>match val env x with
  |.v (.string s)=>∃l h:Nat,loV env lo l∧hiV env s.size hi h∧l≤h∧h≤s.size∧Bk r env K (.v (.string (s.extract l h))) H
  |_=>False
 |.slcL sz x lo hi mx=>match val env x with
  |.own id gen=>match q with
   |true=>atH H id gen fun e=>∃l h:Nat,e.sz=sz∧loV env lo l∧hiV env e.rows.length hi h∧l≤h∧h≤e.rows.length∧
    match mx with
    |none=>(none:Option Operand)=none∧Bk r env K (.osub id gen l h) H
    |some y=>l=0∧hi.isSome=true∧(∃kd,val env y=.v (.int kd (h:Int)))∧Bk r env K (.oclip id gen h) H
   |false=>atH H id gen fun e=>∃md l n:Nat,e.sz=sz∧loV env lo l∧hiV env e.rows.length hi n∧l≤n∧n≤e.rows.length∧match md with
    |0=>l=0∧mx=none∧∀g:Nat,Bk r env K (.own id g) (upd H id (some ⟨g,e.T,e.sz,e.rows.take n⟩))
    |1=>mx=none∧Bk r env K (.osub id gen l n) H
    |3=>l=0∧hi.isSome=true∧∃(y:Operand) (kd:IntKind),mx=some y∧val env y=.v (.int kd (n:Int))∧Bk r env K (.oclip id gen n) H
    |_=>∃(y:Operand) (m:Nat) (kd:IntKind),mx=some y∧hi.isSome=true∧val env y=.v (.int kd (m:Int))∧n≤m∧m≤e.rows.length∧Bk r env K .any H
  |.osub id gen lo0 hi0=>atH H id gen fun e=>∃l h:Nat,e.sz=sz∧loV env lo l∧hiV env (hi0-lo0) hi h∧l≤h∧lo0+h≤e.rows.length∧mx=none∧lo0≤hi0∧Bk r env K (.osub id gen (lo0+l) (lo0+h)) H
  |.sl clip rows=>∃l h:Nat,loV env lo l∧hiV env rows.length hi h∧l≤h∧h≤rows.length∧(rows=[]∨∃row,rows[0]? =some row∧row.length=sz)∧
    match mx with
    |none=>Bk r env K (.sl false ((rows.drop l).take (h-l))) H
    |some y=>hi.isSome=true∧(∃k,val env y=.v (.int k (h:Int)))∧Bk r env K (.sl true ((rows.drop l).take (h-l))) H
  |_=>False
 |.ext x i=>match val env x with
  |.tup us=>match us[i]? with
   |some u=>f1 u fun u=>Bk r env K u H
   |none=>False
  |_=>False
 |.len true x=>match val env x with
  |.v (.string s)=>Bk r env K (.v (.int .i64 s.size)) H
  |_=>False
 |.len false x=>match val env x with
  |.v (.slice _ n _)=>Bk r env K (.v (.int .i64 n)) H
  |.sl _ rows=>Bk r env K (.v (.int .i64 rows.length)) H
  |.own id gen=>atH H id gen fun e=>Bk r env K (.v (.int .i64 e.rows.length)) H
  |.osub id gen lo hi=>atH H id gen fun _=>Bk r env K (.v (.int .i64 ((hi-lo:Nat):Int))) H
  |.inm _ _ _ n _=>Bk r env K (.v (.int .i64 n)) H
  |_=>False
 |.call x args=>match q with
  |true=>match val env x with
   |.v (.func (.func f) ⟨[]⟩ ⟨[]⟩)=>∃ps rs bor,Ar H [] bor [] (args.map (val env)) ps∧Fun P f ps rs∧(bor=true→Dx rs)∧rs.length≤16∧∀g:Nat→Nat,Abb g (16*(r.d+Off.o)) rs H fun us H'=>Bk r env K (F7 us) H'
   |.clo f caps=>∃ps rs bor,Ar H [] bor [] (args.map (val env)++caps) ps∧Fun P f ps rs∧(bor=true→Dx rs)∧rs.length≤16∧∀g:Nat→Nat,Abb g (16*(r.d+Off.o)) rs H fun us H'=>Bk r env K (F7 us) H'
   |_=>False
  |false=>match val env x with
   |.v (.func (.func f) ⟨[]⟩ ⟨[]⟩)=>Al7 P H D (16*(r.d+Off.o)) f (args.map (val env)) fun us H'=>Bk r env K (F7 us) H'
   |.clo f caps=>Al7 P H D (16*(r.d+Off.o)) f (args.map (val env)++caps) fun us H'=>Bk r env K (F7 us) H'
   |_=>False
 |.mkfn f caps=>fL (caps.map (val env)) fun us=>Bk r env K (.clo f us) H
 |.store sz x y=>match q with
  |true=>False
  |false=>match val env x with
   |.ptr id gen i off=>atH H id gen fun e=>∃row,e.rows[i]? =some row∧match Eb (val env y)with
    |some us=>bX (Nat.beq us.length sz) (bX (Nat.ble (off+sz) row.length) (W3 H us (fL (Lh row off us) fun row'=>Bk r env K (.v undef) (upd H id (some ⟨e.gen,e.T,e.sz,e.rows.set i row'⟩)))))
    |none=>False
   |_=>False
 |.app T sz bytes z x y=>match q with
  |true=>False
  |false=>match val env x with
   |.osub id gen lo0 k=>match val env y with
    |.osub id' gen' lo hi=>atH H id gen fun e=>id'=id∧gen'=gen∧lo0=0∧e.sz=sz∧k≤lo∧lo≤hi∧hi≤e.rows.length∧Bk r env K (.osub id gen 0 (k+(hi-lo))) (upd H id (some ⟨e.gen,e.T,e.sz,e.rows.take k++(e.rows.drop lo).take (hi-lo)++e.rows.drop (k+(hi-lo))⟩))
    |_=>False
   |.own id gen=>Abu H sz (val env y) fun rows=>atH H id gen fun e=>e.T=.t T∧e.sz=sz∧e.rows.length+rows.length≤maxLen∧(e.rows.length+rows.length)*bytes≤140737488355328∧∀g:Nat,Bk r env K (.own id g) (upd H id (some ⟨g,.t T,sz,e.rows++rows⟩))
   |.v (.slice none 0 0)=>Abu H sz (val env y) fun rows=>rows.length≤maxLen∧rows.length*bytes≤140737488355328∧∀g:Nat,Bk r env K (.own (16*(r.d+Off.o)) g) (upd H (16*(r.d+Off.o)) (some ⟨g,.t T,sz,rows⟩))
   |.sl true rows0=>Abu H sz (val env y) fun rows=>rows≠[]∧(∀row∈rows0,row.length=sz∧Hl H row)∧rows0.length+rows.length≤maxLen∧(rows0.length+rows.length)*bytes≤140737488355328∧∀g:Nat,Bk r env K (.own (16*(r.d+Off.o)) g) (upd H (16*(r.d+Off.o)) (some ⟨g,.t T,sz,rows0++rows⟩))
   |.inm id gen b n cap=>match val env y with
    |.own id' gen'=>Abu H sz (.own id' gen') fun rows=>atH H id gen fun e=>∃An ss1 s ss2,e.T=.q (Mo An (ss1++s::ss2))∧s.b=b∧s.cap=cap∧s.rows.length=n∧s.sz=sz∧s.T=T∧id'≠16*(r.d+Off.o)∧id≠16*(r.d+Off.o)∧id'≠id∧n+rows.length≤maxLen∧(n+rows.length)*bytes≤140737488355328∧
      ∀g:Nat,Bk r env K (.own (16*(r.d+Off.o)) g) (upd (upd H id (some ⟨gen,.q (Mo An (ss1++ss2)),0,[]⟩)) (16*(r.d+Off.o)) (some ⟨g,.t T,sz,s.rows++rows⟩))
    |_=>False
   |.oclip id gen n=>Abu H sz (val env y) fun rows=>atH H id gen fun e=>rows≠[]∧e.sz=sz∧n≤e.rows.length∧n+rows.length≤maxLen∧(n+rows.length)*bytes≤140737488355328∧∀g:Nat,Bk r env K (.own (16*(r.d+Off.o)) g) (upd H (16*(r.d+Off.o)) (some ⟨g,.t T,sz,e.rows.take n++rows⟩))
   |_=>False
 |.clr sz z x=>match q with
  |true=>False
  |false=>match val env x with
   |.osub id gen lo hi=>atH H id gen fun e=>e.sz=sz∧lo≤hi∧hi≤e.rows.length∧Bk r env K .any (upd H id (some ⟨e.gen,e.T,e.sz,e.rows.take lo++List.replicate (hi-lo) (z.map .v)++e.rows.drop hi⟩))
   |_=>False
 |.isnil neg x=>match q with
  |true=>False
  |false=>match val env x with
   |.v (.slice ad _ _)=>Bk r env K (.v (.bool (if neg then !ad.isNone else ad.isNone))) H
   |.sl _ rows=>∀b:Bool,(b=true→rows=[])→Bk r env K (.v (.bool (if neg then !b else b))) H
   |.own id gen=>atH H id gen fun e=>∀b:Bool,(b=true→e.rows=[])→Bk r env K (.v (.bool (if neg then !b else b))) H
   |_=>False
 |.mkm=>∀g:Nat,Bk r env K (.obj (16*(r.d+Off.o)) g) (upd H (16*(r.d+Off.o)) (some ⟨g,.q (Mj []),0,[]⟩))
 |.mlook kd ok z x i=>match val env i with
  |.v kv=>Agb H (val env x) fun An=>∃u,Gk kd kv An 0=some u∧match u with
   |some (_,u)=>match ok with
    |true=>Bk r env K (.tup [u,.v (.bool true)]) H
    |false=>f1 (wit (val env x) u) fun u=>Bk r env K u H
   |none=>match ok with
    |true=>Bk r env K (.tup [.v z,.v (.bool false)]) H
    |false=>Bk r env K (.v z) H
  |_=>False
 |.mlen x=>Agb H (val env x) fun An=>Bk r env K (.v (.int .i64 An.length)) H
 |.mupd kd x i v=>match q with
  |true=>False
  |false=>match val env x,val env i with
   |.obj id gen,.v kv=>match val env v with
    |.own id' gen'=>atH H id gen fun e=>∃An ss r' T,e.T=.q (Mo An ss)∧Gk kd kv An 0=some r'∧(atH H id' gen' fun e'=>e'.T=.t T∧e'.rows≠[]∧(∀row∈e'.rows,∀u∈row,Cl u)∧id≠id'∧
      ∀b cap:Nat,Bk r env K (.v undef) (upd (upd H id' none) id (some ⟨gen,.q (Mo (Q3 An kv (.v (.slice (some ⟨b,0,none⟩) e'.rows.length cap)) r') (⟨T,e'.sz,b,cap,e'.rows⟩::ss)),0,[]⟩)))
    |_=>atH H id gen fun e=>qX e fun I=>∃An u,I=Mj An∧Cl (val env v)∧Gk kd kv An 0=some u∧Bk r env K (.v undef) (upd H id (some ⟨e.gen,.q (Mj (Q3 An kv (val env v) u)),0,[]⟩))
   |_,_=>False
 |.die x=>match q with
  |true=>False
  |false=>match val env x with
   |.v (.iface t y)=>D (.iface t y)
   |_=>False
 |.mki t x=>match val env x with
  |.v v=>Bk r env K (.v (.iface t v)) H
  |.agg []=>Bk r env K (.v (.iface t (.agg #[]))) H
  |_=>False
 |.ofB x=>Abu H 1 (val env x) fun rows=>∃ns:List Int,rows=ns.map (fun n=>[.v (.int .u8 n)])∧Bk r env K (.v (.string (Z0 ns))) H
 |.toB x=>match val env x with
  |.v (.string s)=>Bk r env K (.sl false (s.data.toList.map fun b=>[.v (.int .u8 b.toNat)])) H
  |_=>False
end
theorem Aa3(D:Value→Prop)(r:Aa)(env:Env)(K:Env→Hp→Prop)(u:V)(H:Hp):Bk r env K u H=K (St.put ⟨env,H,D⟩ r.dst u).env (St.put ⟨env,H,D⟩ r.dst u).H:=by
 unfold Bk St.put;cases r.dst<;>rfl
section
variable [Off]
set_option maxHeartbeats 2000000 in
theorem Aon[Glob]{P:Program}{D:Value→Prop}{q:Bool}{r:Aa}{env:Env}{H:Hp}{K:Env→Hp→Prop}{K':St→Prop}(hk:∀env H,K env H→K' ⟨env,H,D⟩)(hq:q=true∨r.op.isE=false)(h:opX P D q r env H K)(g:Nat→Nat):Ak P r.op env H g (16*(r.d+Off.o)) (Fd r ⟨env,H,D⟩ K'):=by
 obtain⟨dst,guard,op⟩:=r;have kf:∀(u:V) (dH:List (Nat×Option Ent)),Bk ⟨dst,guard,op⟩ env K u (Bx H dH)→Fd ⟨dst,guard,op⟩ ⟨env,H,D⟩ K' u dH:=fun u dH h=>by
  rw[Aa3 D]at h;have h:=hk _ _ h;cases dst<;>exact h
 have k0:∀(u:V),Bk ⟨dst,guard,op⟩ env K u H→Fd ⟨dst,guard,op⟩ ⟨env,H,D⟩ K' u []:=fun u h=>kf u [] h;have kmk:∀(agg:Bool) (cs:List V),(mkX agg cs fun v=>Bk ⟨dst,guard,op⟩ env K v H)→Fd ⟨dst,guard,op⟩ ⟨env,H,D⟩ K' (mkV agg cs) []:=fun agg cs h=>by
  rw[Am3]at h;exact k0 _ h
 cases op with
 |mv x=>simp only[opX,Uu]at h;exact k0 _ h
 |pick c x y=>
  simp only[opX]at h;simp only[Ak];split at h
  ·rename_i t ht;simp only[ht];have h:=Z5 h;rw[Uu,Uu]at h;exact⟨fun e=>k0 _ (h.1 e),fun e=>k0 _ (h.2 e)⟩
  ·exact h.elim
 |box T sz x=>
  simp only[opX]at h;simp only[Ak];split at h
  ·rename_i cs hcs;simp only[hcs];rw[Ri]at h;obtain⟨h1,h⟩:=Ha h;obtain⟨h2,h⟩:=Mm h;exact⟨Nat.eq_of_beq_eq_true h1,h2,kf _ _ (h _)⟩
  ·exact h.elim
 |zbox T z=>simp only[opX]at h;exact kf _ _ (h _)
 |build z ps=>
  simp only[opX,Ri]at h;exact Tc _ _ (fun cs h=>k0 _ h) (Acr _ _ h)
 |mks T sz n z ps=>
  simp only[opX]at h;exact Tx _ _ (fun cs h=>kf _ _ (h _)) (Zd _ _ h)
 |mkn T sz bytes z x y=>
  simp only[opX]at h;simp only[Ak];split at h
  ·rename_i k1 n k2 m hx hy;simp only[hx,hy];obtain⟨k,h1,h2,h3,h4,h5⟩:=h;exact⟨k,h1,h2,h3,h4,kf _ _ (h5 _)⟩
  ·exact h.elim
 |load agg sz x=>
  simp only[opX]at h;simp only[Ak];split at h
  ·rename_i row off hx;simp only[hx];obtain⟨h1,h⟩:=Ha h;exact⟨Nat.le_of_ble_eq_true h1,kmk _ _ h⟩
  ·rename_i id gen i off hx;simp only[hx];obtain⟨e,h1,h2,row,h3,h4⟩:=Cp h;obtain⟨h5,h4⟩:=Ha h4;exact⟨e,row,h1,h2,h3,Nat.le_of_ble_eq_true h5,kmk _ _ h4⟩
  ·exact h.elim
 |bin op x y=>
  simp only[opX]at h;simp only[Ak];split at h
  ·rename_i a c hx hy;simp only[hx,hy];obtain⟨r,h1,h2⟩:=Ab6 (Ao7 h);unfold S1 at h1 ⊢;split at h1
   ·cases op<;>first
     |exact h1.elim
     |(obtain⟨q1,c,q2,rfl⟩:=h1;exact⟨q1,c,q2,k0 _ h2⟩)
     |(obtain⟨q1,q0,c,q2,rfl⟩:=h1;exact⟨q1,q0,c,q2,k0 _ h2⟩)
     |(obtain⟨q1,rfl⟩:=h1;exact⟨q1,k0 _ h2⟩)
   ·cases op<;>first
     |exact h1.elim
     |(obtain⟨q1,rfl⟩:=h1;exact⟨q1,k0 _ h2⟩)
     |(obtain rfl:=h1;exact k0 _ h2)
   ·exact h1.elim
  ·exact h.elim
 |mm mx x y=>
  simp only[opX]at h;simp only[Ak];split at h
  ·rename_i k a k' c hx hy;simp only[hx,hy];cases mx<;>exact k0 _ h
  ·exact h.elim
 |eqb neg x y=>
  simp only[opX]at h;simp only[Ak];split at h
  ·rename_i a c hx hy;simp only[hx,hy];exact k0 _ h
  ·exact h.elim
 |eqS neg ts x y=>
  simp only[opX]at h;simp only[Ak];split at h
  ·rename_i us vs hx hy;simp only[hx,hy];split at h
   ·rename_i b hb;simp only[hb];cases neg
    ·exact k0 _ h
    ·exact k0 _ h
   ·exact h.elim
  ·exact h.elim
 |not x=>
  simp only[opX]at h;simp only[Ak];split at h
  ·rename_i a hx;simp only[hx];exact k0 _ h
  ·exact h.elim
 |neg x=>
  simp only[opX]at h;simp only[Ak];split at h
  ·rename_i k a hx;simp only[hx];obtain⟨c,h1,h2⟩:=h;exact⟨c,h1,k0 _ h2⟩
  ·exact h.elim
 |conv k x=>
  simp only[opX]at h;simp only[Ak];split at h
  ·rename_i k' a hx;simp only[hx];obtain⟨c,h1,h2⟩:=h;exact⟨c,h1,k0 _ h2⟩
  ·exact h.elim
 |convS x=>
  simp only[opX]at h;simp only[Ak];split at h
  ·rename_i s hx;simp only[hx];exact k0 _ h
  ·exact h.elim
 |fld agg sz off x=>
  simp only[opX]at h;simp only[Ak];split at h
  ·rename_i cs hx;simp only[hx];obtain⟨h1,h⟩:=Ha h;exact⟨Nat.le_of_ble_eq_true h1,kmk _ _ h⟩
  ·exact h.elim
 |fldA off x=>
  simp only[opX]at h;simp only[Ak];split at h
  ·rename_i row o hx;simp only[hx];exact k0 _ h
  ·rename_i id gen i o hx;simp only[hx];obtain⟨e,h1,h2,h4⟩:=Cp h;exact⟨⟨e,h1,h2⟩,k0 _ h4⟩
  ·exact h.elim
 |idxA sz x i=>
  simp only[opX]at h;simp only[Ak];split at h
  ·rename_i c rows k n hx hi;simp only[hx,hi];obtain⟨j,row,h1,h2,h4⟩:=h;obtain⟨h3,h4⟩:=Ha h4;exact⟨j,row,h1,h2,Nat.eq_of_beq_eq_true h3,k0 _ h4⟩
  ·rename_i id gen k n hx hi;simp only[hx,hi];obtain⟨e,h1,h2,h3,j,row,h4,h5,h6⟩:=Cp h;exact⟨e,j,row,h1,h2,h3,h4,h5,k0 _ h6⟩
  ·exact h.elim
 |idxS x i=>
  simp only[opX]at h;simp only[Ak];split at h
  ·rename_i s k n hx hi;simp only[hx,hi];obtain⟨j,c,h1,h2,h3⟩:=h;exact⟨j,c,h1,h2,k0 _ h3⟩
  ·exact h.elim
 |slcS x lo hi=>
  simp only[opX]at h;simp only[Ak];split at h
  ·rename_i s hx;simp only[hx];obtain⟨l,k,h1,h2,h3,h4,h5⟩:=h;exact⟨l,k,h1,h2,h3,h4,k0 _ h5⟩
  ·exact h.elim
 |slcL sz x lo hi mx=>
  simp only[opX]at h;simp only[Ak];split at h
  ·rename_i id gen hx;rcases hq with rfl|hq
   ·simp only[hx];obtain⟨e,h1,h2,l,k,h3,h4,h5,h6,h7,h8⟩:=Cp h;refine⟨e,l,k,h1,h2,h3,h4,h5,h6,h7,?_⟩;cases mx with
    |none=>exact⟨trivial,k0 _ h8.2⟩
    |some y=>exact⟨h8.1,h8.2.1,h8.2.2.1,k0 _ h8.2.2.2⟩
   ·simp[ROp.isE]at hq
  ·rename_i id gen lo0 hi0 hx;simp only[hx];obtain⟨e,h1,h2,l,k,h3,h4,h5,h6,h7,h8,h85,h9⟩:=Cp h;exact⟨e,l,k,h1,h2,h3,h4,h5,h6,h7,h8,h85,k0 _ h9⟩
  ·rename_i clip rows hx;simp only[hx];obtain⟨l,k,h1,h2,h3,h4,h5,h6⟩:=h;refine⟨l,k,h1,h2,h3,h4,h5,?_⟩;cases mx with
   |none=>exact k0 _ h6
   |some y=>exact⟨h6.1,h6.2.1,k0 _ h6.2.2⟩
  ·exact h.elim
 |ext x i=>
  simp only[opX]at h;simp only[Ak];split at h
  ·rename_i us hx;simp only[hx];split at h
   ·rename_i u hu;rw[Uu]at h;exact⟨u,hu,k0 _ h⟩
   ·exact h.elim
  ·exact h.elim
 |len s x=>
  cases s with
  |true=>
   simp only[opX]at h;simp only[Ak];split at h
   ·rename_i s hx;simp only[hx];exact k0 _ h
   ·exact h.elim
  |false=>
   simp only[opX]at h;simp only[Ak];split at h
   ·rename_i a n c hx;simp only[hx];exact k0 _ h
   ·rename_i c rows hx;simp only[hx];exact k0 _ h
   ·rename_i id gen hx;simp only[hx];obtain⟨e,h1,h2,h3⟩:=Cp h;exact⟨e,h1,h2,k0 _ h3⟩
   ·rename_i id gen lo hi hx;simp only[hx];obtain⟨e,h1,h2,h3⟩:=Cp h;exact⟨⟨e,h1,h2⟩,k0 _ h3⟩
   ·rename_i hx;simp only[hx];exact k0 _ h
   ·exact h.elim
 |call x args=>
  rcases hq with rfl|hq
  ·simp only[opX]at h;simp only[Ak];split at h
   ·rename_i f hf;simp only[hf];obtain⟨ps,rs,bor,h1,h2,h3,h4,h5⟩:=h;refine⟨ps,rs,bor,h1,h2,h3,h4,kf _ _ ?_⟩;have:=h5 g;rw[Pp]at this;exact this
   ·rename_i f caps hf;simp only[hf];obtain⟨ps,rs,bor,h1,h2,h3,h4,h5⟩:=h;refine⟨ps,rs,bor,h1,h2,h3,h4,kf _ _ ?_⟩;have:=h5 g;rw[Pp]at this;exact this
   ·exact h.elim
  ·simp[ROp.isE]at hq
 |mkfn f caps=>simp only[opX,Ri]at h;exact k0 _ h
 |store sz x y=>
  rcases hq with rfl|hq
  ·exact h.elim
  ·simp[ROp.isE]at hq
 |app T sz bytes z x y=>
  rcases hq with rfl|hq
  ·exact h.elim
  ·simp[ROp.isE]at hq
 |mupd kd x i v=>
  rcases hq with rfl|hq
  ·exact h.elim
  ·simp[ROp.isE]at hq
 |die x=>
  rcases hq with rfl|hq
  ·exact h.elim
  ·simp[ROp.isE]at hq
 |clr sz z x=>
  rcases hq with rfl|hq
  ·exact h.elim
  ·simp[ROp.isE]at hq
 |isnil neg x=>
  rcases hq with rfl|hq
  ·exact h.elim
  ·simp[ROp.isE]at hq
 |mkm=>simp only[opX]at h;exact kf _ _ (h _)
 |mlook kd ok z x i=>
  simp only[opX]at h;simp only[Ak];split at h
  ·rename_i kv hi;obtain⟨An,h1,u,h2,h3⟩:=Acn h;refine⟨An,kv,u,h1,hi,h2,?_⟩;split at h3<;>cases ok<;>first|exact k0 _ h3|exact k0 _ (by rw[Uu]at h3;exact h3)
  ·exact h.elim
 |mlen x=>
  simp only[opX]at h;simp only[Ak];obtain⟨An,h1,h2⟩:=Acn h;exact⟨An,h1,k0 _ h2⟩
 |mki t x=>
  simp only[opX]at h;simp only[Ak];split at h
  ·rename_i v hx;simp only[hx];exact k0 _ h
  ·rename_i hx;simp only[hx];exact⟨[],rfl,k0 _ h⟩
  ·exact h.elim
 |ofB x=>
  simp only[opX]at h;simp only[Ak];obtain⟨rows,h1,ns,h2,h3⟩:=Ps h;exact⟨rows,ns,h1,h2,k0 _ h3⟩
 |toB x=>
  simp only[opX]at h;simp only[Ak];split at h
  ·rename_i s hx;simp only[hx];exact k0 _ h
  ·exact h.elim
set_option maxHeartbeats 1000000 in
theorem Ash[Glob]{P:Program}{D:Value→Prop}{r:Aa}{env:Env}{H:Hp}{K:Env→Hp→Prop}{K':St→Prop}(hk:∀env H,K env H→K' ⟨env,H,D⟩)(h:opX P D false r env H K):opR P r ⟨env,H,D⟩ K':=by
 obtain⟨dst,guard,op⟩:=r;unfold opR;have kf:∀(u:V) (dH:List (Nat×Option Ent)),Bk ⟨dst,guard,op⟩ env K u (Bx H dH)→K' (St.put ⟨env,Bx H dH,D⟩ dst u):=fun u dH h=>by
  rw[Aa3 D]at h;have h:=hk _ _ h;cases dst<;>exact h
 have kg:∀(u:V) (H':Hp),Bk ⟨dst,guard,op⟩ env K u H'→K' (St.put ⟨env,H',D⟩ dst u):=fun u H' h=>by
  rw[Aa3 D]at h;have h:=hk _ _ h;cases dst<;>exact h
 cases op with
 |call x args=>
  simp only[ROp.isE,if_true,R5,Ej,Alv];simp only[opX]at h;split at h
  ·rename_i f hf;simp only[hf];exact Adz (K':=fun u H'=>K' (St.put ⟨env,H',D⟩ dst u)) (fun us H' h=>kg _ _ h) h
  ·rename_i f caps hf;simp only[hf];exact Adz (K':=fun u H'=>K' (St.put ⟨env,H',D⟩ dst u)) (fun us H' h=>kg _ _ h) h
  ·exact h.elim
 |mupd kd x i v=>
  simp only[ROp.isE,if_true];refine Or.inl ?_;simp only[Ej];simp only[opX]at h;split at h
  ·rename_i id gen kv hx hi;simp only[hx];split at h
   ·rename_i id' gen' hv;simp only[hv];obtain⟨e,h1,h2,An,ss,r',T,h3,h4,h5⟩:=Cp h;obtain⟨e',g1,g2,g3,g4,g5,g6,g7⟩:=Cp h5;exact⟨e,An,ss,kv,r',e',T,h1,h2,h3,hi,h4,g1,g2,g3,g4,g5,g6,fun b cap=>kf _ _ (g7 b cap)⟩
   ·rename_i hne;obtain⟨e,h1,h2,h3⟩:=Cp h;obtain⟨I,h4,An,u,rfl,h5,h6,h7⟩:=Aow h3;subst h2;split
    ·rename_i hv;exact absurd hv (hne _ _)
    ·exact⟨e,An,kv,u,h1,rfl,h4,hi,h5,h6,kf _ _ h7⟩
  ·exact h.elim
 |die x=>
  simp only[ROp.isE,if_true];refine Or.inl ?_;simp only[Ej];simp only[opX]at h;split at h
  ·rename_i t y hx;simp only[hx];exact h
  ·exact h.elim
 |store sz x y=>
  simp only[ROp.isE,if_true];refine Or.inl ?_;simp only[Ej];simp only[opX]at h;split at h
  ·rename_i id gen i off hx;simp only[hx];obtain⟨e,h1,h2,row,h3,h4⟩:=Cp h;split at h4
   ·rename_i us hus;obtain⟨h5,h4⟩:=Ha h4;obtain⟨h6,h4⟩:=Ha h4;obtain⟨h7,h4⟩:=Mm h4;rw[Ri]at h4;exact⟨e,row,us,h1,h2,h3,hus,Nat.eq_of_beq_eq_true h5,Nat.le_of_ble_eq_true h6,h7,kf _ _ h4⟩
   ·exact h4.elim
  ·exact h.elim
 |slcL sz x lo hi mx=>
  simp only[ROp.isE,if_true];refine Or.inl ?_;simp only[Ej];simp only[opX]at h;split at h
  ·rename_i id gen hx;simp only[hx];obtain⟨e,h1,h2,md,l,n,h3,h4,h5,h6,h7,h8⟩:=Cp h;refine⟨e,md,l,n,h1,h2,h3,h4,h5,h6,h7,?_⟩
   match md,h8 with
   |0,h8=>exact⟨h8.1,h8.2.1,fun g=>kf _ _ (h8.2.2 g)⟩
   |1,h8=>exact⟨h8.1,kf _ [] h8.2⟩
   |3,h8=>
    obtain⟨k1,k2,y,kd,k3,k4,k6⟩:=h8;exact⟨k1,k2,y,kd,k3,k4,kf _ [] k6⟩
   |2,h8=>
    obtain⟨y,m,kd,k1,k2,k3,k4,k5,k6⟩:=h8;exact⟨y,m,kd,k1,k2,k3,k4,k5,kf _ [] k6⟩
   |_+4,h8=>
    obtain⟨y,m,kd,k1,k2,k3,k4,k5,k6⟩:=h8;exact⟨y,m,kd,k1,k2,k3,k4,k5,kf _ [] k6⟩
  ·rename_i id gen lo0 hi0 hx;simp only[hx];obtain⟨e,h1,h2,l,k,h3,h4,h5,h6,h7,h8,h85,h9⟩:=Cp h;exact⟨e,l,k,h1,h2,h3,h4,h5,h6,h7,h8,h85,kf _ [] h9⟩
  ·rename_i clip rows hx;simp only[hx];obtain⟨l,k,h1,h2,h3,h4,h5,h6⟩:=h;refine⟨l,k,h1,h2,h3,h4,h5,?_⟩;cases mx with
   |none=>exact kf _ [] h6
   |some y=>exact⟨h6.1,h6.2.1,kf _ [] h6.2.2⟩
  ·exact h.elim
 |clr sz z x=>
  simp only[ROp.isE,if_true];refine Or.inl ?_;simp only[Ej];simp only[opX]at h;split at h
  ·rename_i id gen lo hi hx;simp only[hx];obtain⟨e,h1,h2,h3,h4,h5,h6⟩:=Cp h;exact⟨e,h1,h2,h3,h4,h5,kf _ _ h6⟩
  ·exact h.elim
 |isnil neg x=>
  simp only[ROp.isE,if_true];refine Or.inl ?_;simp only[Ej];simp only[opX]at h;split at h
  ·rename_i ad n c hx;simp only[hx];exact kf _ [] h
  ·rename_i c rows hx;simp only[hx];exact fun b hb=>kf _ [] (h b hb)
  ·rename_i id gen hx;simp only[hx];obtain⟨e,h1,h2,h3⟩:=Cp h;exact⟨e,h1,h2,fun b hb=>kf _ [] (h3 b hb)⟩
  ·exact h.elim
 |app T sz bytes z x y=>
  simp only[ROp.isE,if_true];refine Or.inl ?_;simp only[Ej];simp only[opX]at h;split at h
  ·rename_i id gen lo0 k hx;simp only[hx];split at h
   ·rename_i id' gen' lo hi hy;simp only[hy];obtain⟨e,h1,h2,h3,h4,h5,h6,h7,h8,h9,h10⟩:=Cp h;exact⟨e,h1,h2,h3,h4,h5,h6,h7,h8,h9,kf _ _ h10⟩
   ·exact h.elim
  ·rename_i id gen hx;simp only[hx];obtain⟨rows,h0,h⟩:=Ps h;obtain⟨e,h1,h2,h3,h4,h5,h6,h7⟩:=Cp h;exact⟨rows,h0,e,h1,h2,h3,h4,h5,h6,fun g=>kf _ _ (h7 g)⟩
  ·rename_i hx;simp only[hx];obtain⟨rows,h0,h⟩:=Ps h;exact⟨rows,h0,h.1,h.2.1,fun g=>kf _ _ (h.2.2 g)⟩
  ·rename_i rows0 hx;simp only[hx];obtain⟨rows,h0,h⟩:=Ps h;exact⟨rows,h0,h.1,h.2.1,h.2.2.1,h.2.2.2.1,fun g=>kf _ _ (h.2.2.2.2 g)⟩
  ·rename_i id gen b n cap hx;simp only[hx];split at h
   ·rename_i id' gen' hy;simp only[hy];obtain⟨rows,h0,h⟩:=Ps h;obtain⟨e,h1,h2,An,ss1,s,ss2,h3,h4,h5,h6,h7,h8,h9,h10,h11,h12,h13,h14⟩:=Cp h;exact⟨rows,h0,e,An,ss1,s,ss2,h1,h2,h3,h4,h5,h6,h7,h8,h9,h10,h11,h12,h13,fun g=>kf _ _ (h14 g)⟩
   ·exact h.elim
  ·rename_i id gen n hx;simp only[hx];obtain⟨rows,h0,h⟩:=Ps h;obtain⟨e,h1,h2,h3,h4,h5,h6,h7,h8⟩:=Cp h;exact⟨rows,h0,e,h1,h2,h3,h4,h5,h6,h7,fun g=>kf _ _ (h8 g)⟩
  ·exact h.elim
 |_=>
  have:=Aon (q:=false) hk (.inr rfl) h;simp only[ROp.isE,ROp.allocs,Bool.false_eq_true,if_false,if_true]
  first
   |exact this _
   |exact fun g=>this g
theorem Atg[Glob]{P:Program}{D:Value→Prop}{r:Aa}{env:Env}{H:Hp}{K:Env→Hp→Prop}{K':St→Prop}(hk:∀env H,K env H→K' ⟨env,H,D⟩)(h:opX P D true r env H K):opD P r ⟨env,H,D⟩ K':=by
 have:=Aon (q:=true) hk (.inl rfl) h;unfold opD;split
 ·exact fun g=>this g
 ·exact this _
def Xn(r:Aa)(env:Env)(A B:Prop):Prop:=
 match r.guard with
 |none=>A
 |some (s,want)=>match env s with
  |.v (.bool t)=>(match want with
   |true=>bIf t A B
   |false=>bIf t B A)
  |.v (.tuple ⟨[]⟩)=>B
  |_=>False
end
theorem Y6{r:Aa}{st:St}{A B A' B':Prop}(h:Xn r st.env A B)(hA:A→A')(hB:B→B'):K6 r st A' B':=by
 unfold Xn at h;unfold K6;cases hg:r.guard with
 |none=>simp only[hg]at h;exact hA h
 |some p=>
  obtain⟨s,want⟩:=p;simp only[hg]at h ⊢;generalize st.env s=u at h ⊢;split at h
  ·rename_i t;cases want
   ·have:=Z5 h;exact⟨fun e=>hA (this.2 e),fun e=>hB (this.1 (by simpa using e))⟩
   ·have:=Z5 h;exact⟨fun e=>hA (this.1 e),fun e=>hB (this.2 (by simpa using e))⟩
  ·exact hB h
  ·exact h.elim
section
variable [Off]
def Wi(r:Aa)(env:Env):Env:=match r.dst with
 |some d=>upd env d (.v undef)
 |none=>env
def Auq(env:Env)(H:Hp)(K:Env→Hp→Prop):Prop:=K env H
def Aua[Glob](P:Program)(D:Value→Prop)(q:Bool)(r:Aa)(_:List Aa)(ih:Env→Hp→(Env→Hp→Prop)→Prop)(env:Env)(H:Hp)(K:Env→Hp→Prop):Prop:=
 Xn r env (opX P D q r env H fun env H=>ih env H K) (ih (Wi r env) H K)
noncomputable def Ho[Glob](P:Program)(D:Value→Prop)(q:Bool)(rs:List Aa):Env→Hp→(Env→Hp→Prop)→Prop:=
 @List.rec Aa (fun _=>Env→Hp→(Env→Hp→Prop)→Prop) Auq (Aua P D q) rs
theorem Hk[Glob]{P:Program}{D:Value→Prop}:∀(rs:List Aa) {env:Env} {H:Hp} {K:Env→Hp→Prop} {K':St→Prop},(∀env H,K env H→K' ⟨env,H,D⟩)→Ho P D false rs env H K→wpR P rs ⟨env,H,D⟩ K'
 |[],env,H,K,K',hk,h=>hk _ _ h
 |r::rs,env,H,K,K',hk,h=>by
  have h:Xn r env (opX P D false r env H fun env H=>Ho P D false rs env H K) (Ho P D false rs (Wi r env) H K):=h;simp only[wpR];refine Y6 (st:=⟨env,H,D⟩) h (fun h=>Ash (fun env H h=>Hk rs hk h) h) (fun h=>?_)
  ·have e:(St.put ⟨env,H,D⟩ r.dst (.v undef))=⟨Wi r env,H,D⟩:=by unfold St.put Wi;cases r.dst<;>rfl
   rw[e];exact Hk rs hk h
theorem Qn[Glob]{P:Program}{D:Value→Prop}:∀(rs:List Aa) {env:Env} {H:Hp} {K:Env→Hp→Prop} {K':St→Prop},(∀env H,K env H→K' ⟨env,H,D⟩)→Ho P D true rs env H K→N1 P rs ⟨env,H,D⟩ K'
 |[],env,H,K,K',hk,h=>hk _ _ h
 |r::rs,env,H,K,K',hk,h=>by
  have h:Xn r env (opX P D true r env H fun env H=>Ho P D true rs env H K) (Ho P D true rs (Wi r env) H K):=h;simp only[N1];refine Y6 (st:=⟨env,H,D⟩) h (fun h=>Atg (fun env H h=>Qn rs hk h) h) (fun h=>?_)
  ·have e:(St.put ⟨env,H,D⟩ r.dst (.v undef))=⟨Wi r env,H,D⟩:=by unfold St.put Wi;cases r.dst<;>rfl
   rw[e];exact Qn rs hk h
def stX(r:Aa)(fin:List Aa)(env:Env)(H:Hp)(K:Hp→Nat→Prop):Prop:=match r with
 |⟨none,none,.store sz x y⟩=>match val env x with
  |.ptr id gen i off=>bX (!(C9 fin).contains (id/16)) (atH H id gen fun e=>∃row,e.rows[i]? =some row∧match Eb (val env y)with
    |some us=>bX (Nat.beq us.length sz) (bX (Nat.ble (off+sz) row.length) (W3 H us (fL (Lh row off us) fun row'=>K (upd H id (some ⟨e.gen,e.T,e.sz,e.rows.set i row'⟩)) id)))
    |none=>False)
  |_=>False
 |_=>False
def awX(env:Env)(id:Nat)(r:Aa)(K:Prop):Prop:=match r.op with
 |.load _ _ x=>match val env x with
  |.ptr id' _ _ _=>bX (!(Nat.beq id' id)) K
  |.rptr _ _=>K
  |_=>False
 |.idxA _ x _=>match val env x with
  |.own id' _=>bX (!(Nat.beq id' id)) K
  |_=>K
 |_=>K
def Aks(env:Env)(id:Nat)(fl:List Aa)(r:Aa)(_:List Aa)(ih:Prop):Prop:=bif fl.any (fun q=>Nat.beq q.d r.d)then awX env id r ih else ih
noncomputable def Adr(env:Env)(id:Nat)(fl:List Aa)(seg:List Aa)(K:Prop):Prop:=
 @List.rec Aa (fun _=>Prop) K (Aks env id fl) seg
end
theorem Arp{env:Env}{id:Nat}{r:Aa}{K:Prop}(h:awX env id r K):K4 env id r∧K:=by
 obtain⟨dst,gd,op⟩:=r;cases op with
 |load agg sz x=>
  simp only[awX]at h;simp only[K4];split at h
  ·rename_i hx;rw[hx];obtain⟨h1,h2⟩:=Ha h;exact⟨by simpa using h1,h2⟩
  ·rename_i hx;rw[hx];exact⟨trivial,h⟩
  ·exact h.elim
 |idxA sz x i=>
  simp only[awX]at h;simp only[K4];split at h
  ·rename_i hx;rw[hx];obtain⟨h1,h2⟩:=Ha h;exact⟨by simpa using h1,h2⟩
  ·rename_i hx;refine⟨?_,h⟩;split
   ·rename_i hy;exact absurd hy (hx _ _)
   ·trivial
 |_=>exact⟨trivial,h⟩
theorem V7{env:Env}{id:Nat}{fl:List Aa}:∀{seg:List Aa} {K:Prop},Adr env id fl seg K→Pv env id fl seg∧K
 |[],K,h=>⟨trivial,h⟩
 |r::rs,K,h=>by
  have h:Aks env id fl r rs (Adr env id fl rs K):=h;unfold Aks at h;simp only[Pv];cases hq:fl.any (fun q=>Nat.beq q.d r.d)with
  |true=>
   rw[hq]at h;obtain⟨h1,h2⟩:=Arp (show awX env id r (Adr env id fl rs K)from h);obtain⟨h3,h4⟩:=V7 h2;exact⟨⟨h1,h3⟩,h4⟩
  |false=>
   rw[hq]at h;obtain⟨h3,h4⟩:=V7 (show Adr env id fl rs K from h);exact⟨⟨trivial,h3⟩,h4⟩
section
variable [Off]
noncomputable def Aop[Glob](P:Program)(D:Value→Prop)(fl seg:List Aa)(l:List Aa)(env:Env)(H:Hp)(K:Env→Hp→Prop):Prop:=match l with
 |[]=>False
 |r::rest=>stX r rest env H fun H id=>Ho P D true rest env H fun env H=>Adr env id fl seg (K env H)
noncomputable def Ar3[Glob](P:Program)(D:Value→Prop)(fl seg:List Aa)(env:Env)(H:Hp)(K:Env→Hp→Prop):Prop:=
 Ho P D true (seg.take (B8 seg)) env (Kx (C9 seg) H) fun env H=>Aop P D fl seg (seg.drop (B8 seg)) env H K
theorem Aqd{r:Aa}{fin:List Aa}{env:Env}{H:Hp}{D:Value→Prop}{K:Hp→Nat→Prop}{K':St→Nat→Prop}(hk:∀H id,K H id→K' ⟨env,H,D⟩ id)(h:stX r fin env H K):Amr r fin ⟨env,H,D⟩ K':=by
 unfold stX at h;unfold Amr;split at h
 ·split at h
  ·rename_i id gen i off hx;simp only[hx];obtain⟨h0,h⟩:=Ha h;obtain⟨e,h1,h2,row,h3,h4⟩:=Cp h;split at h4
   ·rename_i us hus;obtain⟨h5,h4⟩:=Ha h4;obtain⟨h6,h4⟩:=Ha h4;obtain⟨h7,h4⟩:=Mm h4;rw[Ri]at h4;exact⟨by simpa using h0,e,row,us,h1,h2,h3,hus,Nat.eq_of_beq_eq_true h5,Nat.le_of_ble_eq_true h6,h7,hk _ _ h4⟩
   ·exact h4.elim
  ·exact h.elim
 ·exact h.elim
theorem Aqb[Glob]{P:Program}{D:Value→Prop}{fl seg:List Aa}{env:Env}{H:Hp}{K:Env→Hp→Prop}{K':St→Prop}(hk:∀env H,K env H→K' ⟨env,H,D⟩)(h:Ar3 P D fl seg env H K):wpM P fl seg ⟨env,H,D⟩ K':=by
 unfold wpM;refine Qn _ (fun env H h=>?_) h;unfold Aop at h;split at h
 ·exact h.elim
 ·rename_i r rest hr;simp only[hr];refine Aqd (fun H id h=>?_) h;refine Qn _ (fun env H h=>?_) h;obtain⟨h1,h2⟩:=V7 h;exact⟨h1,hk _ _ h2⟩
def Aey[Glob](P:Program)(D:Value→Prop):Nat→List Aa→List Aa→Env→Hp→(Env→Hp→Prop)→Prop
 |0,_,_,env,H,K=>K env H
 |n+1,a::A,b::B,env,H,K=>Ho P D false [a] env H (fun env H=>Aey P D n A (b::B) env H K)∧Ho P D false [b] env H (fun env H=>Aey P D n (a::A) B env H K)
 |n+1,a::A,[],env,H,K=>Ho P D false [a] env H (fun env H=>Aey P D n A [] env H K)
 |n+1,[],b::B,env,H,K=>Ho P D false [b] env H (fun env H=>Aey P D n [] B env H K)
 |_+1,[],[],_,_,_=>False
theorem Wa[Glob]{P:Program}{D:Value→Prop}{K:Env→Hp→Prop}{K':St→Prop}(hk:∀env H,K env H→K' ⟨env,H,D⟩):∀{n:Nat} {A B:List Aa} {env:Env} {H:Hp},Aey P D n A B env H K→Mu P n A B ⟨env,H,D⟩ K'
 |0,A,B,env,H,h=>by unfold Mu;exact hk _ _ h
 |n+1,a::A,b::B,env,H,h=>⟨Hk [a] (fun env H h=>Wa hk h) h.1,Hk [b] (fun env H h=>Wa hk h) h.2⟩
 |n+1,a::A,[],env,H,h=>Hk [a] (fun env H h=>Wa hk h) h
 |n+1,[],b::B,env,H,h=>Hk [b] (fun env H h=>Wa hk h) h
 |n+1,[],[],env,H,h=>h.elim
noncomputable def Z2[Glob](P:Program)(D:Value→Prop)(T:List Nat)(H0:Hp):Nat→List Aa→List Aa→Env→Hp→(Env→Hp→Prop)→Prop
 |0,_,_,env,H,K=>K env H
 |n+1,a::A,b::B,env,H,K=>Ho P D false [a] env H (fun env H=>H8 T H0 H∧Z2 P D T H0 n A (b::B) env H K)∧Ho P D false [b] env H (fun env H=>H8 T H0 H∧Z2 P D T H0 n (a::A) B env H K)
 |n+1,a::A,[],env,H,K=>Ho P D false [a] env H (fun env H=>H8 T H0 H∧Z2 P D T H0 n A [] env H K)
 |n+1,[],b::B,env,H,K=>Ho P D false [b] env H (fun env H=>H8 T H0 H∧Z2 P D T H0 n [] B env H K)
 |_+1,[],[],_,_,_=>False
theorem Rd[Glob]{P:Program}{D:Value→Prop}{T:List Nat}{H0:Hp}{K:Env→Hp→Prop}{K':St→Prop}(hk:∀env H,K env H→K' ⟨env,H,D⟩):∀{n:Nat} {A B:List Aa} {env:Env} {H:Hp},Z2 P D T H0 n A B env H K→Hr P T H0 n A B ⟨env,H,D⟩ K'
 |0,A,B,env,H,h=>by unfold Hr;exact hk _ _ h
 |n+1,a::A,b::B,env,H,h=>⟨Hk [a] (fun env H h=>⟨h.1,Rd hk h.2⟩) h.1,Hk [b] (fun env H h=>⟨h.1,Rd hk h.2⟩) h.2⟩
 |n+1,a::A,[],env,H,h=>Hk [a] (fun env H h=>⟨h.1,Rd hk h.2⟩) h
 |n+1,[],b::B,env,H,h=>Hk [b] (fun env H h=>⟨h.1,Rd hk h.2⟩) h
 |n+1,[],[],env,H,h=>h.elim
def ldX[Glob](P:Program)(D:Value→Prop)(seg:List Aa)(env:Env)(H:Hp)(K:Env→Hp→Prop):Prop:=
 ∃T:List Nat,Ho P D true (D3 seg (eIx seg)) env (Ahq T H) fun env1 _=>Z2 P D T H ((aIx seg).length+(bIx seg).length) (D3 seg (aIx seg)) (D3 seg (bIx seg)) env1 H K
theorem Ary[Glob]{P:Program}{D:Value→Prop}{seg:List Aa}{env:Env}{H:Hp}{K:Env→Hp→Prop}{K':St→Prop}(hk:∀env H,K env H→K' ⟨env,H,D⟩)(h:ldX P D seg env H K):Apw P seg (eIx seg) (aIx seg) (bIx seg) ⟨env,H,D⟩ K':=by
 obtain⟨T,h⟩:=h;exact⟨T,Qn _ (fun env1 H1 h=>Rd hk h) h⟩
inductive Md where
 |z
 |a
 |b (fl:List Aa)
def Aul(md:Md)(env:Env)(H:Hp)(K:Env→Hp→Prop):Prop:=match md with
 |.z=>K env H
 |_=>False
noncomputable def Aud[Glob](P:Program)(D:Value→Prop)(seg:List Aa)(_:List (List Aa))(ih:Md→Env→Hp→(Env→Hp→Prop)→Prop)(md:Md)(env:Env)(H:Hp)(K:Env→Hp→Prop):Prop:=
 match md with
 |.z=>match seg with
  |[]=>ih .a env H K
  |[r]=>Ho P D false [r] env H fun env H=>ih .z env H K
  |seg=>Ho P D true seg env (Kx (C9 seg) H) fun env H=>ih .z env H K
 |.a=>ih (.b seg) env H K
 |.b fl=>match Fw fl with
  |some r=>Ho P D true seg env (Kx (C9 seg) H) fun env H=>Ho P D false [r] env H fun env' H'=>Ju fl.tail env H H' seg (ih .z env' H' K)
  |none=>match Ai8 fl with
   |true=>ldX P D seg env H fun env H=>ih .z env H K
   |false=>match Zk fl with
    |true=>Aey P D 5 (seg.take 2) (seg.drop 2) env H fun env H=>ih .z env H K
    |false=>Ar3 P D fl seg env H fun env H=>ih .z env H K
noncomputable def Aa2[Glob](P:Program)(D:Value→Prop)(ss:List (List Aa)):Env→Hp→(Env→Hp→Prop)→Prop:=
 @List.rec (List Aa) (fun _=>Md→Env→Hp→(Env→Hp→Prop)→Prop) Aul (Aud P D) ss .z
theorem Qi[Glob]{P:Program}{D:Value→Prop}:∀(segs:List (List Aa)) {env:Env} {H:Hp} {K:Env→Hp→Prop} {K':St→Prop},(∀env H,K env H→K' ⟨env,H,D⟩)→Aa2 P D segs env H K→wpS P segs ⟨env,H,D⟩ K'
 |[],env,H,K,K',hk,h=>hk _ _ h
 |[]::fl::seg::ss,env,H,K,K',hk,h=>by
  have h:(match Fw fl with
   |some r=>Ho P D true seg env (Kx (C9 seg) H) fun env H=>Ho P D false [r] env H fun env' H'=>Ju fl.tail env H H' seg (Aa2 P D ss env' H' K)
   |none=>match Ai8 fl with
    |true=>ldX P D seg env H fun env H=>Aa2 P D ss env H K
    |false=>match Zk fl with
     |true=>Aey P D 5 (seg.take 2) (seg.drop 2) env H fun env H=>Aa2 P D ss env H K
     |false=>Ar3 P D fl seg env H fun env H=>Aa2 P D ss env H K):=h
  cases hlt:Fw fl with
  |some r=>
   simp only[hlt]at h;simp only[wpS,hlt];exact Qn seg (fun env H h=>Hk [r] (fun env' H' h=>Ad5 (fun h=>Qi ss hk h) h) h) h
  |none=>
   cases hch:Ai8 fl with
   |true=>
    simp only[hlt,hch]at h;simp only[wpS,hlt,hch];exact Ary (fun env H h=>Qi ss hk h) h
   |false=>
    cases htw:Zk fl with
    |true=>
     simp only[hlt,hch,htw]at h;simp only[wpS,hlt,hch,htw];exact Wa (fun env H h=>Qi ss hk h) h
    |false=>
     simp only[hlt,hch,htw]at h;simp only[wpS,hlt,hch,htw];exact Aqb (fun env H h=>Qi ss hk h) h
 |[r]::ss,env,H,K,K',hk,h=>by
  have h:Ho P D false [r] env H fun env H=>Aa2 P D ss env H K:=h;simp only[wpS];exact Hk [r] (fun env H h=>Qi ss hk h) h
 |[]::[],env,H,K,K',hk,h=>(show False from h).elim
 |[]::[fl],env,H,K,K',hk,h=>(show False from h).elim
 |(r::r'::seg)::ss,env,H,K,K',hk,h=>by
  have h:Ho P D true (r::r'::seg) env (Kx (C9 (r::r'::seg)) H) fun env H=>Aa2 P D ss env H K:=h;simp only[wpS];exact Qn (r::r'::seg) (fun env H h=>Qi ss hk h) h
def M7(env:Env)(g:Nat→Nat):List (Nat×Nat×TypeId×Nat)→Env
 |[]=>env
 |(s,id,_,_)::l=>M7 (upd env s (.own id (g id))) g l
def Nk(H:Hp)(g:Nat→Nat):List (Nat×Nat×TypeId×Nat)→Hp
 |[]=>H
 |(_,id,T,sz)::l=>Nk (upd H id (some ⟨g id,.t T,sz,[]⟩)) g l
def R9(env:Env):List (Nat×Nat×TypeId×Nat)→Prop
 |[]=>True
 |(s,id,_,sz)::l=>env s=.v (.slice none 0 0)∧0<sz∧(∀s' id' T' sz',(s',id',T',sz')∈l→s'≠s∧id'≠id)∧R9 env l
def Agv:List (Nat×V)→Nat→Option V
 |[],_=>none
 |(s,v)::l,i=>bif Nat.beq i s then some v else Agv l i
def hdE(env:Env)(Kt:List Nat)(l:List (Nat×V)):Env:=fun i=>match Agv l i with
 |some v=>v
 |none=>bif Kt.contains i then env i else .any
def Ahn:List (Nat×Ent)→Nat→Option Ent
 |[],_=>none
 |(s,e)::l,i=>bif Nat.beq i s then some e else Ahn l i
def hdH(H:Hp)(Kt:List Nat)(l:List (Nat×Ent)):Hp:=fun i=>match Ahn l i with
 |some e=>some e
 |none=>bif Kt.contains i then H i else none
def Tv(env:Env):List (Nat×V)→Prop
 |[]=>True
 |(s,v)::l=>env s=v∧Tv env l
def Ti(H:Hp):List (Nat×Ent)→Prop
 |[]=>True
 |(s,e)::l=>H s=some e∧Ti H l
def Uo(env env':Env):List Nat→Prop
 |[]=>True
 |s::l=>env' s=env s∧Uo env env' l
def Uq(H H':Hp):List Nat→Prop
 |[]=>True
 |s::l=>H' s=H s∧Uq H H' l
end
theorem Uv{env:Env}{i:Nat}{v:V}:∀{l:List (Nat×V)},Tv env l→Agv l i=some v→env i=v
 |(s,u)::l,h,hf=>by
  simp only[Agv]at hf;cases hb:Nat.beq i s with
  |true=>
   have:=Nat.eq_of_beq_eq_true hb;subst this;rw[hb]at hf;simp at hf;rw[←hf];exact h.1
  |false=>rw[hb]at hf;exact Uv h.2 hf
theorem Uc{H:Hp}{i:Nat}{e:Ent}:∀{l:List (Nat×Ent)},Ti H l→Ahn l i=some e→H i=some e
 |(s,u)::l,h,hf=>by
  simp only[Ahn]at hf;cases hb:Nat.beq i s with
  |true=>
   have:=Nat.eq_of_beq_eq_true hb;subst this;rw[hb]at hf;simp at hf;rw[←hf];exact h.1
  |false=>rw[hb]at hf;exact Uc h.2 hf
theorem Acy{env env':Env}{i:Nat}:∀{l:List Nat},Uo env env' l→l.contains i=true→env' i=env i
 |s::l,h,hc=>by
  simp only[List.contains_cons,Bool.or_eq_true,ZR]at hc;rcases hc with rfl|hc
  ·exact h.1
  ·exact Acy h.2 hc
theorem Adl{H H':Hp}{i:Nat}:∀{l:List Nat},Uq H H' l→l.contains i=true→H' i=H i
 |s::l,h,hc=>by
  simp only[List.contains_cons,Bool.or_eq_true,ZR]at hc;rcases hc with rfl|hc
  ·exact h.1
  ·exact Adl h.2 hc
theorem Vy[Glob]{D:Value→Prop}{env0 env:Env}{H0 H:Hp}{Kt keepH:List Nat}{lv:List (Nat×V)}{ho:List (Nat×Ent)}(h1:Tv env lv)(h2:Uo env0 env Kt)(h3:Ti H ho)(h4:Uq H0 H keepH):Aou ⟨env,H,D⟩ ⟨hdE env0 Kt lv,hdH H0 keepH ho,D⟩:=by
 refine Aev (fun i=>?_) (fun id e he=>?_) rfl
 ·show hdE env0 Kt lv i=.any∨hdE env0 Kt lv i=env i;unfold hdE;split
  ·rename_i v hv;right;exact(Uv h1 hv).symm
  ·cases hc:Kt.contains i with
   |true=>right;exact(Acy h2 hc).symm
   |false=>left;rfl
 ·have he':hdH H0 keepH ho id=some e:=he;unfold hdH at he';split at he'
  ·rename_i e' hf;injection he' with he';subst he';exact Uc h3 hf
  ·cases hc:keepH.contains id with
   |true=>rw[hc]at he';exact(Adl h4 hc).trans he'
   |false=>rw[hc]at he';cases he'
theorem Ah(env:Env):∀l:List Nat,Uo env env l
 |[]=>trivial
 |_::l=>⟨rfl,Ah env l⟩
theorem Ag(H:Hp):∀l:List Nat,Uq H H l
 |[]=>trivial
 |_::l=>⟨rfl,Ag H l⟩
theorem Aj8[Glob]{D:Value→Prop}{c:Ctx}{env:Env}{H:Hp}{a:Act}{w:World}{R:Nat→Prop}{G:Nat→Option Loc}(h:Ac c ⟨env,H,D⟩ a w R G){s id:Nat}{T:TypeId}{sz:Nat}(hs:env s=.v (.slice none 0 0))(hz:0<sz):Ac c ⟨upd env s (.own id (Ax G id)),upd H id (some ⟨Ax G id,.t T,sz,[]⟩),D⟩ a w R (upd G id (some ⟨Ax G id,sz,.slice none 0 0,false,none⟩)):=by
 have h1:=h.set (row:=none) (w':=w) (id:=id) (v:=.slice none 0 0) (box:=false) (To:=.t T) (T:=T) (rows:=[]) ⟨rfl,rfl,rfl,ZT _,fun _ _ _=>rfl⟩ (.inl rfl) (by simp) (fun l0 h0=>.inr (Az h0)) hz (xs:=[]) (World.ownsRow_nil _ _ _ _) ⟨by simp,fun i j row u hi=>by simp at hi⟩ (fun b hb=>by cases hb);refine⟨fun i=>?_,h1.hr,h1.lt,h1.src,h1.old,h1.fr,h1.n,h1.defers,h1.die,h1.gle⟩;show RV w R _ (upd env s (.own id (Ax G id)) i) _;by_cases hi:i=s
 ·subst hi;rw[Aj];have h2:RV w R G (env i) (a.tmps.getD i undef):=h.env i;rw[hs]at h2;rw[Cd h2];exact .own _ _ _ (Aj _ _ _) (ZT _) _ fun _=>⟨rfl,rfl⟩
 ·rw[Ap _ _ hi];exact h1.env i
theorem Zg[Glob]{D:Value→Prop}{c:Ctx}{a:Act}{w:World}{R:Nat→Prop}:∀(ads:List (Nat×Nat×TypeId×Nat)) {env:Env} {H:Hp} {G:Nat→Option Loc},R9 env ads→Ac c ⟨env,H,D⟩ a w R G→∃(gs:Nat→Nat) (G':Nat→Option Loc),Ac c ⟨M7 env gs ads,Nk H gs ads,D⟩ a w R G'
 |[],env,H,G,_,h=>⟨fun _=>0,G,h⟩
 |(s,id,T,sz)::l,env,H,G,ho,h=>by
  obtain⟨h1,h2,h3,h4⟩:=ho;have hr:=Aj8 h h1 h2 (T:=T) (id:=id);have hok:∀(l:List (Nat×Nat×TypeId×Nat)) (env:Env) (v:V),(∀s' id' T' sz',(s',id',T',sz')∈l→s'≠s∧id'≠id)→R9 env l→R9 (upd env s v) l:=by
   intro l
   induction l with
   |nil=>intro _ _ _ _;trivial
   |cons p l ih=>
    obtain⟨s',id',T',sz'⟩:=p;intro env v hne ⟨q1,q2,q3,q4⟩;exact⟨by rw[Ap _ _ (hne s' id' T' sz' (by simp)).1];exact q1,q2,q3,ih env v (fun a b c d hm=>hne a b c d (ZL _ hm)) q4⟩
  obtain⟨gs,G',hr'⟩:=Zg l (hok l env _ h3 h4) hr;have hE:∀(l:List (Nat×Nat×TypeId×Nat)) (env:Env) (g g':Nat→Nat),(∀s' id' T' sz',(s',id',T',sz')∈l→g id'=g' id')→M7 env g l=M7 env g' l:=by
   intro l
   induction l with
   |nil=>intro _ _ _ _;rfl
   |cons p l ih=>
    obtain⟨s',id',T',sz'⟩:=p;intro env g g' hh;simp only[M7];rw[hh s' id' T' sz' (by simp)];exact ih _ g g' fun a b c d hm=>hh a b c d (ZL _ hm)
  have hHp:∀(l:List (Nat×Nat×TypeId×Nat)) (H:Hp) (g g':Nat→Nat),(∀s' id' T' sz',(s',id',T',sz')∈l→g id'=g' id')→Nk H g l=Nk H g' l:=by
   intro l
   induction l with
   |nil=>intro _ _ _ _;rfl
   |cons p l ih=>
    obtain⟨s',id',T',sz'⟩:=p;intro H g g' hh;simp only[Nk];rw[hh s' id' T' sz' (by simp)];exact ih _ g g' fun a b c d hm=>hh a b c d (ZL _ hm)
  have hg:∀s' id' T' sz',(s',id',T',sz')∈l→gs id'=upd gs id (Ax G id) id':=fun s' id' T' sz' hm=>by rw[Ap _ _ (h3 s' id' T' sz' hm).2]
  refine⟨upd gs id (Ax G id),G',?_⟩;simp only[M7,Nk];rw[Aj,←hE l _ gs _ hg,←hHp l _ gs _ hg];exact hr'
section
variable [Off]
def Akq(env:Env)(g:Nat):Option (Nat×Nat×Nat)→Env
 |none=>env
 |some (s,_,id')=>upd env s (.own id' g)
def Aei(H:Hp)(g:Nat):Option (Nat×Nat×Nat)→Hp
 |none=>H
 |some (_,id,id')=>match H id with
  |some e=>upd (upd H id none) id' (some ⟨g,e.T,e.sz,e.rows⟩)
  |none=>H
def Alo(env:Env)(H:Hp):Option (Nat×Nat×Nat)→Prop
 |none=>True
 |some (s,id,_)=>∃g,env s=.own id g∧atH H id g fun _=>True
end
theorem Agq[Glob]{D:Value→Prop}{c:Ctx}{env:Env}{H:Hp}{a:Act}{w:World}{R:Nat→Prop}{G:Nat→Option Loc}(h:Ac c ⟨env,H,D⟩ a w R G):∀{r:Option (Nat×Nat×Nat)},Alo env H r→∃(g:Nat) (G':Nat→Option Loc),Ac c ⟨Akq env g r,Aei H g r,D⟩ a w R G'
 |none,_=>⟨0,G,h⟩
 |some (s,id,id'),hr=>by
  obtain⟨g,hs,ha⟩:=hr;obtain⟨e,he,hg,_⟩:=Cp ha;have hv:RV w R G (env s) (a.tmps.getD s undef):=h.env s;rw[hs]at hv;obtain⟨l,xs,T0,g1,g2,g3,g4,g5,g6,g7,hT0,hop0,hbx0⟩:=h.objO hv he hg;have hle:Gle G (upd G id' (some ⟨Ax G id',e.sz,l.val,false,none⟩)):=fun k m hm=>by
   by_cases hk:k=id'
   ·subst hk;exact⟨_,Aj _ _ _,.inr (Az hm)⟩
   ·exact⟨m,by rw[Ap _ _ hk];exact hm,.inl (Db.refl _)⟩
  have h1:=(h.drop id).set (row:=none) (w':=w) (id:=id') (v:=l.val) (box:=false) (To:=e.T) (T:=T0) (rows:=e.rows) ⟨rfl,rfl,rfl,ZT _,fun _ _ _=>rfl⟩ (.inl hT0) (by simp) (fun l0 h0=>.inr (Az h0)) g4 (xs:=xs) g5 (g6.mono (fun b hb=>⟨hb,rfl⟩) hle) (fun b hb=>by
   right;have hb:=(Loc.ft_of hop0).2 hb;have hm:=h.hr.mine id e l b he g1 (g2.trans hg.symm) hb;refine⟨hm.1,hm.2,fun k ek lk hk h1 h2 h3=>?_⟩;by_cases hki:k=id
   ·subst hki;have:upd H k none k=some ek:=h1;rw[Aj]at this;cases this
   ·have h1':upd H id none k=some ek:=h1;rw[Ap _ _ hki]at h1';exact h.hr.apart id k e ek l lk b he h1' (fun e=>hki e.symm) g1 h2 (g2.trans hg.symm) h3 hb)
  refine⟨Ax G id',upd G id' (some ⟨Ax G id',e.sz,l.val,false,none⟩),⟨fun i=>?_,?_,h1.lt,h1.src,h1.old,h1.fr,h1.n,h1.defers,h1.die,h1.gle⟩⟩
  ·show RV w R _ (upd env s (.own id' (Ax G id')) i) _;by_cases hi:i=s
   ·subst hi;rw[Aj,g7];exact .own _ _ _ (Aj _ _ _) (ZT _) _ fun _=>⟨rfl,rfl⟩
   ·rw[Ap _ _ hi];exact h1.env i
  ·show HR _ _ _ _ _ (Aei H (Ax G id') (some (s,id,id')));have e2:Aei H (Ax G id') (some (s,id,id'))=upd (upd H id none) id' (some ⟨Ax G id',e.T,e.sz,e.rows⟩):=by
    show(match H id with|some e=>_|none=>_)=_;rw[he]
   rw[e2];exact h1.hr
section
variable [Off]
def Uz(Q:Ex→Env→Hp→Prop)(K:Env→Hp→Prop):Ex→Env→Hp→Prop
 |.normal=>K
 |.exit j=>Q (.exit j)
 |.ret=>Q .ret
def Ape(id:Nat)(Q:Ex→Env→Hp→Prop):Ex→Env→Hp→Prop
 |.normal=>Q .normal
 |.exit j=>bif Nat.beq j id then Q .normal else Q (.exit j)
 |.ret=>Q .ret
abbrev Wp:=(Ex→Env→Hp→Prop)→Env→Hp→Prop
def Arq(Q:Ex→Env→Hp→Prop)(env:Env)(H:Hp):Prop:=Q .normal env H
def Aup[Glob](P:Program)(D:Value→Prop)(ops:List Aa)(Q:Ex→Env→Hp→Prop)(env:Env)(H:Hp):Prop:=Ho P D false ops env H (Q .normal)
noncomputable def Asp[Glob](P:Program)(D:Value→Prop)(segs:List (List Aa))(Q:Ex→Env→Hp→Prop)(env:Env)(H:Hp):Prop:=Aa2 P D segs env H (Q .normal)
def Aui(_ _:Ae)(ia ib:Wp)(Q:Ex→Env→Hp→Prop)(env:Env)(H:Hp):Prop:=ia (Uz Q (ib Q)) env H
def Atq(c:Operand)(_ _:Ae)(ia ib:Wp)(Q:Ex→Env→Hp→Prop)(env:Env)(H:Hp):Prop:=match val env c with
 |.v (.bool t)=>bIf t (ia Q env H) (ib Q env H)
 |_=>False
def Aqi(id:Nat)(_:Ae)(ia:Wp)(Q:Ex→Env→Hp→Prop)(env:Env)(H:Hp):Prop:=ia (Ape id Q) env H
def Asv(_:Ae)(ih:Wp)(Q:Ex→Env→Hp→Prop)(env:Env)(H:Hp):Prop:=∃(ads:List (Nat×Nat×TypeId×Nat)) (r0:Option (Nat×Nat×Nat)) (X:Type) (Kt:List Nat) (lv:X→List (Nat×V)) (keepH:List Nat) (ho:X→List (Nat×Ent)) (μ:X→Nat),
   R9 env ads∧(∀gs,Alo (M7 env gs ads) (Nk H gs ads) r0∧∀g,∃x,Tv (Akq (M7 env gs ads) g r0) (lv x)∧Uo env (Akq (M7 env gs ads) g r0) Kt∧Ti (Aei (Nk H gs ads) g r0) (ho x)∧Uq H (Aei (Nk H gs ads) g r0) keepH)∧
   ∀x,ih (Uz Q fun env' H'=>∃r1,Alo env' H' r1∧∀g,∃x',μ x'<μ x∧Tv (Akq env' g r1) (lv x')∧Uo env (Akq env' g r1) Kt∧Ti (Aei H' g r1) (ho x')∧Uq H (Aei H' g r1) keepH) (hdE env Kt (lv x)) (hdH H keepH (ho x))
def Ati(id:Nat)(Q:Ex→Env→Hp→Prop)(env:Env)(H:Hp):Prop:=Q (.exit id) env H
def Au8(Q:Ex→Env→Hp→Prop)(env:Env)(H:Hp):Prop:=Q .ret env H
def Api(_:Ae)(ia:Wp)(Q:Ex→Env→Hp→Prop)(env:Env)(H:Hp):Prop:=∃(X:Type) (Kt:List Nat) (lv:X→List (Nat×V)) (keepH:List Nat) (ho:X→List (Nat×Ent)),
   ia (Uz Q fun env' H'=>∃x',Tv env' (lv x')∧Uo env env' Kt∧Ti H' (ho x')∧Uq H H' keepH) env H∧∀x,Q .normal (hdE env Kt (lv x)) (hdH H keepH (ho x))
noncomputable def Aqn(step:(Env→Hp→Prop)→Env→Hp→Prop)(n:Nat):Env→Hp→Prop:= @Nat.rec (fun _=>Env→Hp→Prop) (fun _ _=>False) (fun _ ih=>step ih) n
noncomputable def Auv(n:Nat)(_:Ae)(ia:Wp)(Q:Ex→Env→Hp→Prop)(env:Env)(H:Hp):Prop:=Aqn (fun K=>ia (Uz Q K)) n env H
noncomputable def wpx[Glob](P:Program)(D:Value→Prop)(rc:Ae):Wp:=
 @Ae.rec (fun _=>Wp) Arq (Aup P D) (Asp P D) Aui Atq Aqi Asv Ati Au8 Api Auv rc
end
section
variable [Off]
theorem B3[Glob]{P:Program}{D:Value→Prop}:∀(rc:Ae) {Q:Ex→Env→Hp→Prop} {Q':Ex→St→Prop} {env:Env} {H:Hp},(∀e env H,Q e env H→Q' e ⟨env,H,D⟩)→wpx P D rc Q env H→wpv P rc Q' ⟨env,H,D⟩
 |.skip,Q,Q',env,H,hq,h=>hq _ _ _ h
 |.reg ops,Q,Q',env,H,hq,h=>Hk ops (fun env H h=>hq _ _ _ h) (show Ho P D false ops env H (Q .normal)from h)
 |.dreg segs,Q,Q',env,H,hq,h=>Qi segs (fun env H h=>hq _ _ _ h) (show Aa2 P D segs env H (Q .normal)from h)
 |.seq a b,Q,Q',env,H,hq,h=>by
  have h:wpx P D a (Uz Q (wpx P D b Q)) env H:=h;refine B3 a (Q':=Un Q' fun st'=>wpv P b Q' st') (fun e env H h=>?_) h;cases e with
  |normal=>exact B3 b hq h
  |exit j=>exact hq _ _ _ h
  |ret=>exact hq _ _ _ h
 |.cond c a b,Q,Q',env,H,hq,h=>by
  have h:(match val env c with
   |.v (.bool t)=>bIf t (wpx P D a Q env H) (wpx P D b Q env H)
   |_=>False):=h
  simp only[wpv];split at h
  ·rename_i t ht;simp only[ht];have:=Z5 h;exact⟨fun e=>B3 a hq (this.1 e),fun e=>B3 b hq (this.2 e)⟩
  ·exact h.elim
 |.block id a,Q,Q',env,H,hq,h=>by
  have h:wpx P D a (Ape id Q) env H:=h;refine B3 a (Q':=Adj id Q') (fun e env H h=>?_) h;cases e with
  |normal=>exact hq _ _ _ h
  |exit j=>
   simp only[Ape]at h;simp only[Adj];by_cases hj:j=id
   ·subst hj;rw[if_pos rfl];have:Nat.beq j j=true:=by simp
    rw[this]at h;exact hq _ _ _ h
   ·rw[if_neg hj];have:Nat.beq j id=false:=by
     cases hb:Nat.beq j id with
     |false=>rfl
     |true=>exact absurd (Nat.eq_of_beq_eq_true hb) hj
    rw[this]at h;exact hq _ _ _ h
  |ret=>exact hq _ _ _ h
 |.loop a,Q,Q',env,H,hq,h=>by
  obtain⟨ads,r0,X,Kt,lv,keepH,ho,μ,h1,h2,h3⟩:=h;refine⟨X,fun x=>⟨hdE env Kt (lv x),hdH H keepH (ho x),D⟩,μ,fun c a w ⟨R,G,hR⟩=>?_,fun x=>?_⟩
  ·obtain⟨gs,G',hR'⟩:=Zg ads h1 hR;obtain⟨ho,h2⟩:=h2 gs;obtain⟨g,G2,hR2⟩:=Agq hR' ho;obtain⟨x,m1,m2,m3,m4⟩:=h2 g;exact⟨x,Vy m1 m2 m3 m4 c a w ⟨R,G2,hR2⟩⟩
  ·refine B3 a (fun e env' H' h=>?_) (h3 x);cases e with
   |normal=>
    intro c a w ⟨R,G,hR⟩;obtain⟨r1,hro,h2⟩:=h;obtain⟨g,G2,hR2⟩:=Agq hR hro;obtain⟨x',m0,m1,m2,m3,m4⟩:=h2 g;exact⟨x',m0,Vy m1 m2 m3 m4 c a w ⟨R,G2,hR2⟩⟩
   |exit j=>exact hq _ _ _ h
   |ret=>exact hq _ _ _ h
 |.exit id,Q,Q',env,H,hq,h=>hq _ _ _ h
 |.ret,Q,Q',env,H,hq,h=>hq _ _ _ h
 |.stage a,Q,Q',env,H,hq,h=>by
  obtain⟨X,Kt,lv,keepH,ho,h1,h2⟩:=h;refine⟨X,fun x=>⟨hdE env Kt (lv x),hdH H keepH (ho x),D⟩,B3 a (fun e env' H' h=>?_) h1,fun x=>hq _ _ _ (h2 x)⟩;cases e with
  |normal=>
   intro c a w ⟨R,G,hR⟩;obtain⟨x',m1,m2,m3,m4⟩:=h;exact⟨x',Vy m1 m2 m3 m4 c a w ⟨R,G,hR⟩⟩
  |exit j=>exact hq _ _ _ h
  |ret=>exact hq _ _ _ h
 |.unr n a,Q,Q',env,H,hq,h=>by
  have key:∀(n:Nat) (env:Env) (H:Hp),Aqn (fun K=>wpx P D a (Uz Q K)) n env H→Anl (fun K st'=>wpv P a (Un Q' K) st') n ⟨env,H,D⟩:=by
   intro n
   induction n with
   |zero=>intro env H h;exact h
   |succ n ih=>
    intro env H h;refine B3 a (Q':=Un Q' _) (fun e env H h=>?_) (show wpx P D a (Uz Q (Aqn (fun K=>wpx P D a (Uz Q K)) n)) env H from h);cases e with
    |normal=>exact ih env H h
    |exit j=>exact hq _ _ _ h
    |ret=>exact hq _ _ _ h
  exact key n env H h
def Ar1(ts:List Nat)(rs:List Par):Ex→Env→Hp→Prop
 |.exit _=>fun _ _=>False
 |.normal=>fun env H=>∃gone,Ar H gone true gone (ts.map env) rs
 |.ret=>fun env H=>∃gone,Ar H gone true gone (ts.map env) rs
theorem A9[Glob]{P:Program}{f:FuncId}{np:Nat}{rc:Ae}{ts:List Nat}{ps rs:List Par}(hc:Al P f np=some (rc,ts))(hn:ps.length=np)(h:wpx P noD rc (Ar1 ts rs) (Gt ps) (Jc ps)):Fun P f ps rs:=by
 refine Aq6 hc hn (B3 rc (fun e env H h=>?_) h);cases e with
 |normal=>exact h
 |exit j=>exact h
 |ret=>exact h
theorem Aro[Glob]{P:Program}{f:FuncId}{np:Nat}{rc rcD:Ae}{ts:List Nat}{ps rs:List Par}(hc:Al P f np=some (rc,ts))(hs:Cv rcD=rc)(hn:ps.length=np)(h:wpx P noD rcD (Ar1 ts rs) (Gt ps) (Jc ps)):Fun P f ps rs:=by
 refine Amu hc hs hn (B3 rcD (fun e env H h=>?_) h);cases e with
 |normal=>exact h
 |exit j=>exact h
 |ret=>exact h
end
theorem Ro{α:Type}{x:α}:some x=some x:=rfl
instance off0:Off:=⟨0⟩
instance glob0:Glob:=⟨fun _=>none⟩
end Go.Proofs.YtchbkgnobpejnaaGreatDoor
