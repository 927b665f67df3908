/- Steps of this proof; no condition. -/
import Derived.Test.YtgfdlpcdjklcoaaGreatDoorP1
import Derived.RangeFuncOwn
import Derived.RangeFuncLeaves
import Derived.Stop.BytesEq
namespace Go.Proofs.YtgfdlpcdjklcoaaGreatDoor
open Go Go.RowKit HP Ai
open _root_.List renaming length→aa
set_option linter.all false
variable{b o t k c e i sz m j len n tj:Nat}{α:Type}{Post:Value→HP→Prop}{w B:World}{R H H':HP}{vs cs l zs args s:List Value}{v:Value}{a:Act}{fn:Func}{p:Option Addr}{ik jk:IntKind}{P:Program}{ps:List (Nat×Operand)}{f:FuncId}{r:Option Nat}{Q:Exit→Act→World→Prop}{want:Bool}{ts:List Nat}{D:CO}{pl:Array (Nat×Nat)}{K:Act→World→Prop}{ats:Array TypeId}{rs:List ResultVar}{ls:Array Bool}{zc:Array Value}{xs ys:List α}{EE:α→A8}{HH A:α→HP}{φ:α→Prop}
open _root_.Go.Builtin renaming firstCells→ad,zeroCells→a9,append_→c6,lenOf→Anv,copy_→Aoa
open _root_.Go.Region renaming wanted→cx,ready→m5,binds→ti,noSelect→Ao5
open _root_.Go.Addr renaming add→eo
open _root_.Go.Instr renaming sureAddr→hO,sliceBounds→n9,sliceAt→Kt,sliceBound→Ann,fill→v5,buildSlice→Anp,makeSlice→Anr,storeAt→Anu,slice→Ao2,build→Ao3,loadAt→Aod,alloc→Aof,box→Aog
open _root_.Nat renaming blt→hB,beq→Q1,div_eq_of_lt→Ao1,mul_assoc→Aob,ble→Aoc
open _root_.Go.ResultVar renaming tmp→kl
open _root_.UInt64 renaming ofNat→sy
open _root_.Prod renaming fst→py
open _root_.Array renaming replicate→Anl,range→Ant,getElem_mem→Any
open _root_.Go.Question renaming appendCap→Anm,cut→Aoe
open _root_.Option renaming some→Anq
open _root_.List renaming replicate→Ans,set_cons_succ→Anw,mapM→Anz,getD→Ao0,range'→Ao4,forIn_cons→Ao6,nodup_cons→Ao7,find?_cons→Ao8,range→Ao9
section
structure CW where
 ds:List Deferred
 r:Option Nat:=none
def Sat.EU{v v'}(h:Sat B H v)(u:Iq v v'):Sat B H v':=by
 obtain⟨m,d,rfl⟩:=u;obtain⟨⟨O,U,M,C,X⟩,r,Y,J⟩:=h;have F:∀b:Nat,b<v.heap.size→(v.heap++Anl m dead)[b]?=v.heap[b]?:=λb q=>Aif q;have W:∀b i x,r.c b i=some x→b<v.heap.size:=λb i x e=>K9 (J.cell b i x e);refine⟨⟨O,U,M,by simp;omega,λk Z=>(F k (by omega)).trans (X k Z)⟩,r,Y,⟨λb i x e=>?_,λb i x e=>?_,λb x e=>?_,J.live,J.FV,J.GC⟩⟩
 ·have:=J.cell b i x e;unfold World.cell? at this⊢;rwa[show({v with heap:=v.heap++Anl m dead,drawn:=d}:World).heap[b]?=v.heap[b]? from F b (W b i x e)]
 ·have:=J.free b i x e;unfold World.frozen? at this⊢;rwa[show({v with heap:=v.heap++Anl m dead,drawn:=d}:World).heap[b]?=v.heap[b]? from F b (W b i x e)]
 exact(J.obj b x e).same (F b (J.obj b x e).lt)
def mF{o:Oper}{c}(q:o.op=.defer c)(w):(∃d V,(execOp a.eval o).run P w=.ok (.defer d) V)∨∃x V,(execOp a.eval o).run P w=.halt x V:=by
 unfold execOp;rw[q];simp only[bn];cases h:(resolve a.eval c o.type).run P w with
 |ok d V=>exact .inl ⟨d,V,by simp[Result.andThen]⟩
 |halt x V=>exact .inr ⟨x,V,I⟩
def BZ(B:World)(Q:Exit→Act→World→Prop)(e:Exit)(n:Nat)(E:A8)(D:CW)(H:HP):Prop:=
 ∀a w,DZ n E a→a.defers=D.ds→Sat B H w→Q e a w
def WP(P:Program)(B:World)(c:Code)(Q:Exit→Act→World→Prop)(n:Nat)(E:A8)(D:CW)(H:HP):Prop:=
 ∀a w,DZ n E a→a.defers=D.ds→Sat B H w→ER P B.heap.size D.r c Q a w
def WL(P:Program)(B:World)(ops:Array Oper)(Q:Exit→Act→World→Prop)(l:List Oper)(n:Nat)(E:A8)(D:CW)(H:HP):Prop:=
 ∀a w,DZ n E a→a.defers=D.ds→Sat B H w→Hw P B.heap.size D.r ops Q l a w
def DT(P:Program)(B:World)(n:Nat)(o:Oper)(E:A8)(D:CW)(H:HP)(Post:Value→HP→Prop):Prop:=
 ∀a w,DZ n E a→a.defers=D.ds→Sat B H w→∀(K:Act→World→Prop) (Q:Exit→Act→World→Prop),
  (∀v H' V,Post v H'→Sat B H' V→K (a.put o.dst v) V)→Oper.co P B.heap.size o a w K Q
def Fn(P:Program)(B:World)(f:FuncId)(args:List Value)(H:HP)(Post:Value→HP→Prop):Prop:=
 ∀w,Sat B H w→IT P B.heap.size f args.toArray w λe V=>∃v H',e=.returned v∧Post v H'∧Sat B H' V
def Fn.mono{A C:Value→HP→Prop}(h:Fn P B f args H A)(W:∀v H',A v H'→C v H'):Fn P B f args H C:=
 λw X=>(h w X).mono λ_ _ ⟨v,H',e,a,s⟩=>⟨v,H',e,W v H' a,s⟩
class Aa(P:Program)(f:FuncId):Prop where
 get:∀args w,(callFunc f args).run P w=.ok (.enter f args) w
 Ez:∀n D args w,Al n D P (callFunc f args) w
def Dw(E:A8):List Operand→Option (List Value)
 |[]=>some []
 |x::r=>match ev E x with
  |some v=>match Dw E r with
   |some vs=>some (v::vs)
   |none=>none
  |none=>none
def Fy{E}(h:DZ n E a):∀{xs:List Operand} {vs:List Value},Dw E xs=some vs→xs.map a.eval=vs:=by
 intro xs
 induction xs with
 |nil=>intro vs e;simpa[Dw]using e
 |cons x r Z=>
  intro vs e;simp only[Dw]at e;cases F:ev E x with
  |none=>simp[F]at e
  |some v=>
   cases Y:Dw E r with
   |none=>simp[F,Y]at e
   |some us=>
    simp only[F,Y,Anq.injEq]at e;subst e;simp[h.ev F,Z Y]
section
variable{P:Program}{B:World}{n:Nat}{E:A8}{D:CW}{H:HP}{ops:Array Oper}{Q:Exit→Act→World→Prop}{rest:List Oper}
 {op:Op} {ty:TypeId} {pos:String} {af:Array Edge}
abbrev Qv(P:Program)(B:World)(n:Nat)(o:Oper)(E:A8)(D:CW)(H:HP)(Post:Value→HP→Prop):Prop:=DT P B n o E D H Post
def DT.Il{o:Oper}(N:DT P B n o E D H Post)(h1:DZ n E a)(h2:a.defers=D.ds)(M:Sat B H w):∀c,o.op≠ .defer c:=by
 intro c W;have h:=(N a w h1 h2 M (λq _=>q.defers=a.defers) (λ_ _ _=>False) (λv H' V _ _=>by simp[Act.put];cases o.dst<;>rfl)).2;obtain⟨d,V,e⟩|⟨x,V,e⟩:=mF (a:=a) (P:=P) W w
 ·rw[e]at h;have Z:({a with defers:=d::a.defers}.put o.dst undef).defers=a.defers:=h;have X:({a with defers:=d::a.defers}.put o.dst undef).defers=d::a.defers:=by cases o.dst<;>rfl
  rw[X]at Z;exact absurd (congrArg List.length Z) (by simp)
 rw[e]at h;cases x<;>exact h.elim
def DT.Mw{o}(N:DT P B n o E D H Post):Qv P B n o E D H Post:=N
def AY.Mw{o}(S:AY P B n o E H v):Qv P B n o E D H (λL H'=>L=v∧H'=H):=by
 intro a w O U M K Q Z;obtain⟨h,Y⟩:=S a w O M;refine⟨h,?_⟩;rw[Y];exact Z _ _ _ ⟨I,I⟩ M
def Xv(h:BZ B Q .normal n E D H):WL P B ops Q [] n E D H:=λa w O U M=>h a w O U M
def Po(N:Qv P B n ⟨some t,op,ty,pos,af,none⟩ E D H Post)(ht:hB t n=true)(next:∀v H',Post v H'→WL P B ops Q rest n ((t,v)::E) D H'):WL P B ops Q (⟨some t,op,ty,pos,af,none⟩::rest) n E D H:=by
 intro a w O U M;unfold Hw;rw[AJ (by simp[cx])];refine⟨λc _=>N.Il O U M c,λW u=>?_⟩;exact N a _ O U (M.EU (.pad w W)) _ _ λv H' V J C=>next v H' J _ V (O.put (by simpa using ht) v) (by simp[Act.put,U]) C
def yf(N:Qv P B n ⟨none,op,ty,pos,af,none⟩ E D H Post)(next:∀v H',Post v H'→WL P B ops Q rest n E D H'):WL P B ops Q (⟨none,op,ty,pos,af,none⟩::rest) n E D H:=by
 intro a w O U M;unfold Hw;rw[AJ (by simp[cx])];refine⟨λc _=>N.Il O U M c,λW u=>?_⟩;exact N a _ O U (M.EU (.pad w W)) _ _ λv H' V J C=>next v H' J _ V O U C
def D9(S:AY P B n ⟨some t,op,ty,pos,af,none⟩ E H v)(ht:hB t n=true)(next:WL P B ops Q rest n ((t,v)::E) D H):WL P B ops Q (⟨some t,op,ty,pos,af,none⟩::rest) n E D H:=
 Po S.Mw ht (by rintro _ _ ⟨rfl,rfl⟩;exact next)
def Ae(N:DT P B n ⟨some t,op,ty,pos,af,none⟩ E D H Post)(ht:hB t n=true)(next:∀v H',Post v H'→WL P B ops Q rest n ((t,v)::E) D H'):WL P B ops Q (⟨some t,op,ty,pos,af,none⟩::rest) n E D H:=Po N.Mw ht next
def Bl(N:DT P B n ⟨none,op,ty,pos,af,none⟩ E D H Post)(next:∀v H',Post v H'→WL P B ops Q rest n E D H'):WL P B ops Q (⟨none,op,ty,pos,af,none⟩::rest) n E D H:=yf N.Mw next
def l9{b}(W:(ops[j]?).bind (·.dst)=some tj)(hb:lk E tj=some (.bool b))(ht:hB t n=true)(q:b=want→WL P B ops Q (⟨some t,op,ty,pos,af,none⟩::rest) n E D H)(no:b= !want→WL P B ops Q rest n ((t,undef)::E) D H):WL P B ops Q (⟨some t,op,ty,pos,af,some (j,want)⟩::rest) n E D H:=by
 intro a w O U M;have G:yielded ops a.tmps j=some b:=by
  have:=O.2 _ _ hb;simp[yielded,W,this]
 unfold Hw;by_cases h:b=want
 ·have:=q h a w O U M;unfold Hw at this;rw[AJ (by simp[cx])]at this;rw[AJ (by simp[cx,G,h])];exact this
 rw[AF (by simp[cx,G,h])];exact no (by cases b<;>cases want<;>simp_all) _ w (O.put (by simpa using ht) undef) (by simp[Act.put,U]) M
variable{c x y:Code}{id:Nat}
def W_(h:WP P B x (Exit.then (ER P B.heap.size D.r y Q) Q) n E D H):WP P B (.seq x y) Q n E D H:=λa w O U M=>Abv (h a w O U M)
def NX{l}(J:ops.toList=l)(h:WL P B ops Q l n E D H):WP P B (.region id ops false) Q n E D H:=
 λa w O U M=>np J (h a w O U M)
def Se{t b}(hb:ev E t=some (.bool b))(h1:b=true→WP P B x Q n E D H)(h2:b=false→WP P B y Q n E D H):
  WP P B (.cond t x y) Q n E D H:=by
 intro a w C M h;refine T_ (C.ev hb) ?_;cases b
 ·exact h2 I a w C M h
 exact h1 I a w C M h
def Afw{t}{p:Prop}[Decidable p](hb:ev E t=some (.bool (decide p)))(h1:p→WP P B x Q n E D H)(h2:¬p→WP P B y Q n E D H):
  WP P B (.cond t x y) Q n E D H:=
 Se hb (λh=>h1 (by simpa using h)) (λh=>h2 (by simpa using h))
def Aaf(h:WP P B c (Exit.inBlock id Q) n E D H):WP P B (.block id c) Q n E D H:=λa w O U M=>Ae8 (h a w O U M)
def ml(h:BZ B Q .normal n E D H):WP P B .skip Q n E D H:=λa w O U M=>xh (h a w O U M)
def vh(h:BZ B Q (.exit id) n E D H):WP P B (.exit id) Q n E D H:=λa w O U M=>cX (h a w O U M)
def Aao(h:BZ B Q .ret n E D H):WP P B .ret Q n E D H:=λa w O U M=>iJ (h a w O U M)
def nX(B:World)(n:Nat)(D:CW)(EE:α→A8)(HH:α→HP)(φ:α→Prop)(q:α→Nat)(m:Nat):Act→World→Prop:=
 λa w=>∃y,φ y∧q y<m∧DZ n (EE y) a∧a.defers=D.ds∧Sat B (HH y) w
def Bf(EE:α→A8)(HH:α→HP)(φ:α→Prop)(q:α→Nat)(u:α)(h0:φ u)(L:Sub E (EE u))(U:H=HH u)(h:∀x,φ x→WP P B c (Exit.then (nX B n D EE HH φ q (q x)) Q) n (EE x) D (HH x)):WP P B (.loop c) Q n E D H:=by
 intro a w O C M;refine Ab0 (λm a w=>∃y,φ y∧q y=m∧DZ n (EE y) a∧a.defers=D.ds∧Sat B (HH y) w) (q u) ⟨u,h0,I,O.sub L,C,U▸M⟩ ?_;rintro m a w ⟨y,G,rfl,J,S,W⟩;refine ER.mono (h y G a w J S W) ?_;intro e a' V N;cases e with
 |normal=>obtain⟨z,Y,Z,k3,F,X⟩:=N;exact⟨q z,Z,z,Y,I,k3,F,X⟩
 |exit id=>exact N
 |goto l=>exact N
 |ret=>exact N
 |panic ch=>exact N
 |outgrown=>exact N
def oB(h:WP P B y Q n E D H):BZ B (Exit.then (ER P B.heap.size D.r y Q) Q) .normal n E D H:=h
def rR(h:BZ B Q .ret n E D H):BZ B (Exit.then K Q) .ret n E D H:=h
def iA(h:BZ B Q (.exit id) n E D H):BZ B (Exit.then K Q) (.exit id) n E D H:=h
def bN(h:BZ B Q .ret n E D H):BZ B (Exit.inBlock id Q) .ret n E D H:=h
def dX(h:BZ B Q .normal n E D H):BZ B (Exit.inBlock id Q) .normal n E D H:=h
def rN(h:BZ B Q .normal n E D H):BZ B (Exit.inBlock id Q) (.exit id) n E D H:=by
 intro a w O U M;simp only[Exit.inBlock,if_true];exact h a w O U M
def Acl(hi:Q1 i id=false)(h:BZ B Q (.exit i) n E D H):BZ B (Exit.inBlock id Q) (.exit i) n E D H:=by
 intro a w O U M;have:i≠id:=λe=>by subst e;simp at hi
 simp only[Exit.inBlock,this,if_false];exact h a w O U M
def BV{q:α→Nat}(z:α)(h0:φ z)(hm:q z<m)(L:Sub E (EE z))(U:H=HH z):
  BZ B (Exit.then (nX B n D EE HH φ q m) Q) .normal n E D H:=
 λ_ _ O h M=>⟨z,h0,hm,O.sub L,h,U▸M⟩
def Q5(B:World)(n:Nat)(D:CW)(EE:α→A8)(HH:α→HP)(φ:α→Prop)(Q:Exit→Act→World→Prop):Exit→Act→World→Prop
 | .normal,a,w=>∃y,φ y∧DZ n (EE y) a∧a.defers=D.ds∧Sat B (HH y) w
 |e,a,w=>Q e a w
def Bq(EE:α→A8)(HH:α→HP)(φ:α→Prop)(h1:WP P B c (Q5 B n D EE HH φ Q) n E D H)(h2:∀z,φ z→BZ B Q .normal n (EE z) D (HH z)):WP P B c Q n E D H:=by
 intro a w C M h;refine ER.mono (h1 a w C M h) ?_;intro e q V N;cases e with
 |normal=>obtain⟨z,u,O,F,X⟩:=N;exact h2 z u q V O F X
 |exit id=>exact N
 |goto l=>exact N
 |ret=>exact N
 |panic G=>exact N
 |outgrown=>exact N
def An(z:α)(h0:φ z)(L:Sub E (EE z))(U:H=HH z):
  BZ B (Q5 B n D EE HH φ Q) .normal n E D H:=λ_ _ O h M=>⟨z,h0,O.sub L,h,U▸M⟩
def cG(h:BZ B Q .ret n E D H):BZ B (Q5 B n D EE HH φ Q) .ret n E D H:=h
def uU(h:BZ B Q (.exit id) n E D H):BZ B (Q5 B n D EE HH φ Q) (.exit id) n E D H:=h
def A3(e:H=H')(h:WP P B c Q n E D H'):WP P B c Q n E D H:=e▸h
def BH{l}(e:H=H')(h:WL P B ops Q l n E D H'):WL P B ops Q l n E D H:=e▸h
def Aec(h:∀z,WP P B c Q n E D (A z*R)):WP P B c Q n E D (HP.ex A*R):=by
 intro a w O U M;rw[LH]at M;obtain⟨z,Z⟩:=Sat.ex.1 M;exact h z a w O U Z
def Afd{p:Prop}(h:p→WP P B c Q n E D R):WP P B c Q n E D (HP.pr p*R):=by
 intro a w O U M;obtain⟨J,Z⟩:=Sat.pr.1 M;exact h J a w O U Z
def O3{E'}(s:Sub E E')(h:WP P B c Q n E' D H):WP P B c Q n E D H:=λa w O U M=>h a w (O.sub s) U M
def IL:Nat→List Value→A8
 |_,[]=>[]
 |k,v::r=>(k,v)::IL (k+1) r
def NI:∀(vs:List Value) (k t:Nat) (v:Value),lk (IL k vs) t=some v→k≤t∧vs[t-k]?=some v
 |[],_,_,_,h=>by cases h
 |u::r,k,t,v,h=>by
  simp only[IL,lk]at h;cases q:Q1 k t
  ·rw[q]at h;obtain⟨O,U⟩:=NI r (k+1) t v h;refine⟨by omega,?_⟩;rw[show t-k=(t-(k+1))+1 by omega];simpa using U
  rw[q]at h;obtain rfl:=Aju q;exact⟨er _,by simpa using h⟩
def RP(B:World)(Post:Value→HP→Prop)(e:Ending)(w':World):Prop:=∃v H',e=.returned v∧Post v H'∧Sat B H' w'
def Ju(P:Program)(B:World)(fn:Func)(Post:Value→HP→Prop):Exit→Act→World→Prop:=
 RS P B.heap.size fn (RP B Post)
def u5(hf:P.funcs[f]?=some fn)(hb:fn.body=some c)(G:fn.ntmps=n)(q:Aoc (aa args) n=true)(h:WP P B c (Ju P B fn Post) n (IL 0 args) ⟨[],none⟩ H):Fn P B f args H Post:=by
 intro w X;refine cS hf hb (h _ w ⟨?_,?_⟩ I X)
 ·have:aa args≤n:=by simpa using q
  simp[G];omega
 intro t v e;obtain⟨_,U⟩:=NI args 0 t v e;simp only[H0]at U;have L:t<aa args:=(Lk.1 U).1;simp only[];rw[Aif (by simpa using L)];simpa using U
def FH:List Value→Value
 |[v]=>v
 |vs=>.tuple vs.toArray
def yZ(hr:fn.results=(ts.map kl).toArray)(N:DZ n E a)(S:Dw E (ts.map Operand.tmp)=some vs):results fn a.tmps=Pure.pure (FH vs):=by
 have O:=Fy N S;have U:∀f:ResultVar→Sem Value,(∀t,f (.tmp t)=Pure.pure (a.tmps.getD t undef))→fn.results.mapM f=Pure.pure vs.toArray:=by
  intro f V;have M:Anz (f ∘ kl) ts=Pure.pure (ts.map λt=>a.tmps.getD t undef):=by
   rw[show f ∘ kl=λt=>Pure.pure (a.tmps.getD t undef)from funext V];exact List.mapM_pure ..
  rw[hr,Aly,List.mapM_map,M,map_pure,←O,Al1];rfl
 unfold results;rw[U _ (λ_=>rfl)];simp only[pure_bind];congr 1
 match vs with
 |[]=>rfl
 |[v]=>rfl
 |u::v::r=>
  rw[dif_neg (by simp)];rfl
def K8{R:Ending→World→Prop}(hr:fn.results=(ts.map kl).toArray)(h1:DZ n E a)(S:Dw E (ts.map Operand.tmp)=some vs)(M:Sat B H w)(J:∀v,Sat B H v→R (.returned (FH vs)) v):
  ∀W,B5 m w W→A9 m P (results fn a.tmps) (pad w W)∧∃x L,(results fn a.tmps).run P (pad w W)=.ok x L∧R (.returned x) L:=
 λW _=>by rw[yZ hr h1 S];exact⟨trivial,_,_,I,J _ (M.EU (.pad w W))⟩
def rV(hr:fn.results=(ts.map kl).toArray)(S:Dw E (ts.map Operand.tmp)=some vs)(J:Post (FH vs) H):BZ B (Ju P B fn Post) .ret n E ⟨[],r⟩ H:=
 λ_ w O U M=>⟨U,K8 (R:=RP B Post) hr O S M λ_ C=>⟨_,_,I,J,C⟩⟩
def VP(hr:fn.results=(ts.map kl).toArray)(S:Dw E (ts.map Operand.tmp)=some vs)(J:Post (FH vs) H):BZ B (Ju P B fn Post) .normal n E ⟨[],r⟩ H:=
 λ_ w O U M=>⟨U,K8 (R:=RP B Post) hr O S M λ_ C=>⟨_,_,I,J,C⟩⟩
end
end
section
class Row(H:HP)(b o:Nat)(l:outParam (List Value))(R:outParam HP):Prop where
 eq:H=AA b o l*R
instance(b o:Nat)(l:List Value):Row (AA b o l) b o l Bs:=⟨(Hr _).symm⟩
instance(priority:=2000)(C:HP)(b o:Nat)(l:List Value):Row (AA b o l*C) b o l C:=⟨I⟩
instance(A C R:HP)(b o:Nat)(l:List Value)[h:Row A b o l R]:Row (A*C) b o l (R*C):=⟨by rw[h.eq,HP.assoc]⟩
instance(A C R:HP)(b o:Nat)(l:List Value)[h:Row C b o l R]:Row (A*C) b o l (A*R):=⟨by rw[h.eq,EM]⟩
def Sat.cells(h:Sat B (AA b o l*R) w)(j v)(e:l[j]?=some v):
  w.cell? ⟨b,o+j,none⟩=some v:=by
 obtain⟨_,r,Y,J⟩:=h.left;refine J.cell b (o+j) v ?_;rw[show r=_ from Y];simp[e]
def Sat.rU(h:Sat B (AA b o l*R) w):∀v∈l,live v=true:=by
 intro v S;obtain⟨_,r,Y,J⟩:=h.left;obtain⟨j,e⟩:=List.getElem?_of_mem S;refine J.live b (o+j) v ?_;rw[show r=_ from Y];simp[e]
def Oper.Gg{o:Oper}{w'}(ht:A9 n P (execOp a.eval o) w)(hr:(execOp a.eval o).run P w=.ok (.value v) w')(Z:K (a.put o.dst v) w'):Oper.co P n o a w K Q:=⟨ht,by rw[hr];exact Z⟩
def Oper.Tl{o:Oper}{w'}(ht:A9 n P (execOp a.eval o) w)(hr:(execOp a.eval o).run P w=.ok .skip w')(Z:K (a.put o.dst undef) w'):Oper.co P n o a w K Q:=⟨ht,by rw[hr];exact Z⟩
def Oper.QB{o:Oper}{args}{R:Ending→World→Prop}(ht:A9 n P (execOp a.eval o) w)(hr:(execOp a.eval o).run P w=.ok (.enter f args) w)(C:IT P n f args w R)(h1:∀v V,R (.returned v) V→K (a.put o.dst v) V)(h2:∀c V,R (.panicked c) V→Q (.panic c) a V)(M:∀V,¬R .outgrown V):Oper.co P n o a w K Q:=
 ⟨ht,by
  rw[hr];simp only[Nr];refine IT.mono C λe V N=>?_;cases e with
  |returned v=>exact h1 v V N
  |panicked c=>exact h2 c V N
  |outgrown=>exact(M V N).elim⟩
def Sat.ME{P:Program}{B b}:∀(vs:List Value) (o i:Nat) (l:List Value) (R:HP) (w:World),vs.length≤l.length→(∀v∈vs,v.oneCell'=true)→
  Sat B (AA b (o+i) l*R) w→
  ∃V,(storeCells ⟨b,o,none⟩ vs i).run P w=.ok () V∧Sat B (AA b (o+i) (vs++l.drop vs.length)*R) V∧∀n D,Al n D P (storeCells ⟨b,o,none⟩ vs i) w
 |[],o,i,l,R,w,_,_,h=>⟨w,rfl,by simpa using h,λ_ _=>trivial⟩
 |v::vs,o,i,[],R,w,J,_,h=>by simp at J
 |v::vs,o,i,u::l,R,w,J,S,h=>by
  have N:D8 (AA b (o+i) (u::l)*R) b (o+i+0) v (AA b (o+i) (v::l)*R) True:=AH;obtain⟨⟨q,W,L⟩,G,C⟩:=Sat.store N h trivial (S v (by simp));simp only[kv]at W G C
  have Y:eo ⟨b,o,none⟩ i=⟨b,o+i,none⟩:=by by_cases M:i=0<;>simp[eo,M]
  have U:Sat B (AA b (o+(i+1)) l*(AA b (o+i) [v]*R)) (w.setCell ⟨b,o+i,none⟩ v):=by
   rw[show(v::l)=[v]++l from rfl,HF]at C;rw[EM,←HP.assoc];exact C
  obtain⟨V,O,Z,h3⟩:=Sat.ME (P:=P) vs o (i+1) l _ _ (by simpa using J) (λx F=>S x (by simp[F])) U
  have X:(Go.store ⟨b,o+i,none⟩ v).run P w=.ok () (w.setCell ⟨b,o+i,none⟩ v):=by
   rw[run_store P w _ v _ (S v (by simp))];simp only[W,G];rfl
  refine⟨V,?_,?_,λn D=>?_⟩
  ·simp only[storeCells,bn,Y,X];exact O
  ·rw[show(v::vs)++List.drop (v::vs).length (u::l)=[v]++(vs++l.drop vs.length)from rfl,HF,HP.assoc,EM];exact Z
  ·simp only[storeCells,BL,Y,X,jm,BX,W,G,S v (by simp),h3];exact⟨⟨⟨_,rfl,L⟩,trivial,trivial⟩,trivial⟩
section
variable{P:Program}{B:World}{n:Nat}{E:A8}{D:CW}{H:HP}{d:Option Tmp}{T T' ty:TypeId}{pos:String}{af:Array Edge}{g:Option (Nat×Bool)}{x y:Operand}
def Eu{s:Prop}[hT:DC P T](F:ev E x=some (.pointer (some ⟨b,i,none⟩)))(G:ev E y=some v)(S:v.oneCell'=true)[N:D8 H b i v H' s](C:s):DT P B n ⟨d,.store T x y,ty,pos,af,g⟩ E D H (λv Y=>v=undef∧Y=H'):=by
 intro a w O _ M K Q Z;obtain⟨⟨u,W,L⟩,V,U⟩:=Sat.store N M C S;have h:v.cells= #[v]:=by cases v<;>first|rfl|cases S
 have q:(execOp a.eval ⟨d,.store T x y,ty,pos,af,g⟩).run P w=.ok .skip (w.setCell ⟨b,i,none⟩ v):=by
  simp only[execOp,O.ev F,O.ev G,Anu,hO,bn,bp,b0,storeVar,hT.size,h];simp[storeCells,eo,run_store P w ⟨b,i,none⟩ v _ S,W,V]
 refine Oper.Tl ?_ q (Z undef H' _ ⟨I,I⟩ U);simp only[A9,BL,execOp,O.ev F,O.ev G,Anu,hO,bn,bp,b0,storeVar,hT.size,h,B3,DQ,BX,true_and];simp[storeCells,eo,run_store P w ⟨b,i,none⟩ v _ S,W,V,S,L]
def Ek[hT:GN P T k](F:ev E x=some (.pointer (some ⟨b,i,none⟩)))(G:ev E y=some (.agg cs.toArray))(J:aa cs=k∧aa l=k)(S:∀v∈cs,v.oneCell'=true)[N:Row H b i l R]:DT P B n ⟨d,.store T x y,ty,pos,af,g⟩ E D H (λv Y=>v=undef∧Y=AA b i cs*R):=by
 intro a w O _ M K Q Z;rw[N.eq]at M;obtain⟨V,X,U,W⟩:=Sat.ME (P:=P) cs i 0 l R w (by omega) S M;have q:(execOp a.eval ⟨d,.store T x y,ty,pos,af,g⟩).run P w=.ok .skip V:=by
  simp only[execOp,O.ev F,O.ev G,Anu,hO,bn,bp,b0,storeVar,hT.size,Value.cells];simp[J.1,X]
 refine Oper.Tl ?_ q (Z undef _ _ ⟨I,I⟩ ?_)
 ·simp only[A9,BL,execOp,O.ev F,O.ev G,Anu,hO,bn,bp,b0,storeVar,hT.size,Value.cells,B3,DQ,BX,true_and];simp[J.1,X,W]
 rw[A' (by omega)]at U;simpa using U
def GS{z:Value}[hz:Bh P T z](J:z.cells.toList=l):
  DT P B n ⟨d,.alloc T,ty,pos,af,g⟩ E D H (λv H'=>∃b,v=.pointer (some ⟨b,0,none⟩)∧H'=AA b 0 l*H):=by
 intro a w _ _ M K Q Z;have q:(execOp a.eval ⟨d,.alloc T,ty,pos,af,g⟩).run P w=.ok (.value (.pointer (some ⟨w.heap.size,0,none⟩))) (w.alloc (.cells z.cells T)):=by
  simp[execOp,Aof,hz.get,newVar,newRow]
 refine Oper.Gg ?_ q (Z _ _ _ ⟨w.heap.size,I,I⟩ (J▸M.alloc z.cells T (KA hz.live)));simp[execOp,Aof,hz.get,newVar,newRow]
def EB(F:ev E x=some v)(J:v.cells.toList=l)(h:l.all live=true:=by first|rfl|exact Kx _|simp[live,Kx]):
  DT P B n ⟨d,.box T x,ty,pos,af,g⟩ E D H (λv H'=>∃b,v=.pointer (some ⟨b,0,none⟩)∧H'=HP.AA b 0 l*H):=by
 intro a w O _ M K Q Z;have q:(execOp a.eval ⟨d,.box T x,ty,pos,af,g⟩).run P w=.ok (.value (.pointer (some ⟨w.heap.size,0,none⟩))) (w.alloc (.cells v.cells T)):=by
  simp[execOp,O.ev F,Aog,newVar,newRow]
 refine Oper.Gg ?_ q (Z _ _ _ ⟨w.heap.size,I,I⟩ (J▸M.alloc v.cells T (J▸KA h)));simp[execOp,O.ev F,Aog,newVar,newRow]
def Bd{xs:List Operand}[hf:Aa P f](F:Dw E xs=some vs)(C:Fn P B f vs H Post):
  DT P B n ⟨d,.call ⟨.value (.func f),xs.toArray,ats⟩,ty,pos,af,g⟩ E D H Post:=by
 intro a w O _ M K Q Z;have q:(execOp a.eval ⟨d,.call ⟨.value (.func f),xs.toArray,ats⟩,ty,pos,af,g⟩).run P w=.ok (.enter f vs.toArray) w:=by
  simp only[execOp,resolve,hI,Fy O F,Act.eval,Deferred.ofValue,bn,bp,b0,invoke];simp[hf.get]
 refine Oper.QB ?_ q (C w M) (λv V N=>?_) (λc V N=>?_) (λV N=>?_)
 ·simp only[A9,BL,execOp,resolve,hI,Fy O F,Act.eval,Deferred.ofValue,bp,B3,BX,invoke,true_and];exact hf.Ez _ _ _ _
 ·obtain⟨L,H',e,J,U⟩:=N;cases e;exact Z v H' V J U
 ·obtain⟨L,H',e,_⟩:=N;cases e
 obtain⟨L,H',e,_⟩:=N;cases e
def HD{t}{xs:List Operand}{us:List Value}[hf:Aa P f](ht:ev E t=some (.func (.func f) #[] us.toArray))(F:Dw E xs=some vs)(C:Fn P B f (vs++us) H Post):
  DT P B n ⟨d,.call ⟨.value t,xs.toArray,ats⟩,ty,pos,af,g⟩ E D H Post:=by
 intro a w O _ M K Q Z;have q:(execOp a.eval ⟨d,.call ⟨.value t,xs.toArray,ats⟩,ty,pos,af,g⟩).run P w=.ok (.enter f (vs++us).toArray) w:=by
  simp only[execOp,resolve,hI,Fy O F,O.ev ht,Deferred.ofValue,bn,bp,b0,invoke];simp[hf.get]
 refine Oper.QB ?_ q (C w M) (λv V N=>?_) (λc V N=>?_) (λV N=>?_)
 ·simp only[A9,BL,execOp,resolve,hI,Fy O F,O.ev ht,Deferred.ofValue,bp,B3,BX,invoke,true_and];exact hf.Ez _ _ _ _
 ·obtain⟨L,H',e,J,U⟩:=N;cases e;exact Z v H' V J U
 ·obtain⟨L,H',e,_⟩:=N;cases e
 obtain⟨L,H',e,_⟩:=N;cases e
def QZ{D}{C:Addr}:∀(l:List Value) (i:Nat) (NE:Array Value) (_:Unit),(∀j v,l[j]?=some v→w.cell? (C.add (i+j))=some v)→(∀v∈l,live v=true)→Al m D P (loadCellsFrom C i (aa l) NE) w
 |[],_,_,_,_,_=>trivial
 |v::l,i,NE,_,h,J=>by
  have F:=h 0 v I;simp only[kv]at F;have Y:(load (C.add i)).run P w=.ok v w:=by simp[F]
  simp only[f',loadCellsFrom,BL,N!,Y,BX];exact⟨⟨v,F,J v (by simp)⟩,QZ l (i+1) _ () (λj u e=>by have:=h (j+1) u e;rwa[show i+1+j=i+(j+1) by omega]) λu q=>J u (by simp[q])⟩
def Et[hT:GN P T k](F:ev E x=some (.pointer (some ⟨b,i,none⟩)))[hr:Row H b i l R](J:aa l=k):
  AY P B n ⟨d,.load T x,ty,pos,af,g⟩ E H (.agg l.toArray):=by
 intro a w N X;rw[hr.eq]at X;have O:(loadCells ⟨b,i,none⟩ k).run P w=.ok l.toArray w:=by
  rw[←J];refine run_loadCells_list w ⟨b,i,none⟩ l λj v e=>?_;have:=X.cells j v e;by_cases W:j=0
  ·subst W;simpa[eo]using this
  simpa[eo,W]using this
 have U:∀n D,Al n D P (loadCells ⟨b,i,none⟩ k) w:=λn D=>by
  rw[←J];refine QZ l 0 #[] () (λj v e=>?_) (X.rU);rw[Pl];have:=X.cells j v e;by_cases W:j=0
  ·subst W;simpa[eo]using this
  simpa[eo,W]using this
 constructor<;>simp[execOp,N.ev F,Aod,hO,loadVar,hT.get,hT.size,O,U]
end
end
section
class PQ(Q:Exit→Act→World→Prop):Prop where
 get:∀c a w d v,Q (.panic c) (Act.put a d v) w→Q (.panic c) a w
 out:∀a w,¬Q .outgrown a w
instance{K:Act→World→Prop}{Q:Exit→Act→World→Prop}[h:PQ Q]:PQ (Exit.then K Q):=⟨h.get,h.out⟩
instance{id:Nat}{Q:Exit→Act→World→Prop}[h:PQ Q]:PQ (Exit.inBlock id Q):=⟨h.get,h.out⟩
instance{B:World}{n:Nat}{D:CW}{α:Type}{EE:α→A8}{HH:α→HP}{φ:α→Prop}{Q:Exit→Act→World→Prop}[h:PQ Q]:PQ (Q5 B n D EE HH φ Q):=⟨h.get,h.out⟩
instance{P:Program}{B:World}{fn:Func}{Post:Value→HP→Prop}:PQ (Ju P B fn Post):=⟨by
 intro c a w d v h;cases d<;>exact h,λa w h=>h⟩
def Il(ops:Array Oper):Bool:=ops.all λo=>match o.op with| .defer _=>false|_=>true
def AY.Il{o:Oper}{E}(S:AY P B n o E H v)(h1:DZ n E a)(M:Sat B H w):∀c,o.op≠ .defer c:=by
 intro c W;have h:=(S a w h1 M).2;rcases mF (a:=a) (P:=P) W w with⟨d,V,e⟩|⟨x,V,e⟩<;>rw[e]at h<;>cases h
def OB(ops:Array Oper)(i:Nat):Nat→Nat→Bool
 |0,_=>false
 |f+1,k=>match ops[k]? with
  |none=>false
  |some o=>o.after.any (λe=>ti .any e&&e.on==i)||o.after.any (λe=>ti .any e&&OB ops i f e.on)
def waits(ops:Array Oper)(last i:Nat):Bool:=(Ao9 ops.size).all λj=>hB j last||OB ops i 8 j
def Rl(ops:Array Oper)(ls:Array Bool):Prop:=∀k o,ops[k]?=some o→ls.getD k false=true→∀e∈o.after,ti .any e=true→ls.getD e.on false=true
def X4(ops:Array Oper)(ls:Array Bool):Bool:=
 (Ao9 ops.size).all λk=> !ls.getD k false||((ops[k]?).all λo=>o.after.all λe=> !ti .any e||ls.getD e.on false)
def UZ{ops}(h:X4 ops ls=true):Rl ops ls:=by
 intro k o u J e N q;simp only[X4,Ajq,Ak3]at h;have O:=h k (HX.1 u).1;rw[u,J]at O;simp only[Bool.not_true,Q2,Option.all_some,Al2]at O;have U:=O e N;rw[q]at U;simpa using U
def Adc{ops}(h:Rl ops ls)(W:j∈m5 .any ops ls):Rl ops (ls.setIfInBounds j true):=by
 obtain⟨_,p,G,F⟩:=mem_ready.1 W;have up:∀m,ls.getD m false=true→(ls.setIfInBounds j true).getD m false=true:=λm L=>by
  by_cases e:j=m
  ·subst e;obtain O|O:=ff j ls.size
   ·simp[O]
   simp[n3 O]at L
  rwa[getD_set_ne false e]
 intro k o u J e N q;by_cases C:j=k
 ·subst C;rw[G]at u;obtain rfl:=Anq.inj u;exact up _ (F e N q)
 rw[getD_set_ne false C]at J;exact up _ (h k o u J e N q)
def eL{ops}(h:Rl ops ls):∀(f k:Nat) (o:Oper),ops[k]?=some o→(∀e∈o.after,ti .any e=true→ls.getD e.on false=true)→
  OB ops i f k=true→ls.getD i false=true
 |0,_,_,_,_,X=>by cases X
 |f+1,k,o,C,F,X=>by
  simp only[OB,C,Alo,Array.any_eq_true,Ajr,beq_iff_eq]at X;obtain⟨m,W,u,N⟩|⟨m,W,u,N⟩:=X
  ·have:=F _ (Any W) u;rwa[N]at this
  have O:=F _ (Any W) u;cases U:ops[o.after[m].on]? with
  |none=>
   cases f with
   |zero=>cases N
   |succ f=>simp[OB,U]at N
  |some q=>exact eL h f _ q U (h _ q U O) N
def IH.first{ops}{S:World→Prop}{last}{o:Oper}{x}(hi:ops[i]?=some o)(hsel:Ao5 ops=true)(hw:waits ops last i=true)(hQ:∀c a w,Q (.panic c) (a.put o.dst x) w→Q (.panic c) a w)(hS:∀v X,Iq v X→S v→S X):
  ∀(fuel:Nat) (ls:Array Bool) (a:Act) (v:World),Rl ops ls→
   (∀j p,ops[j]?=some p→j≠i→ls.getD j true=false→(∀e∈p.after,ti .any e=true→e.on≠i)→o.apart ops p=true)→
   i∈m5 .any ops ls→Jq P n r ops S o x a→S v→
   IH P n r ops Q S last fuel (ls.setIfInBounds i true) (a.put o.dst x) v→IH P n r ops Q S last (fuel+1) ls a v:=by
 have hsel':=Region.noSelect_spec hsel;intro fuel
 induction fuel with
 |zero=>
  intro ls a v _ _ Y G hSv h X J;refine⟨λe=>by rw[e]at Y;exact absurd Y (by simp),λj W=>?_⟩;by_cases e:j=i
  ·subst e;exact G.at hi (hS v X J hSv) ⟨.inr (hS v X J hSv),h.EU J⟩
  have:=ready_mono W e;rw[(h X J).1]at this;exact absurd this (by simp)
 |succ fuel ih=>
  intro ls a v hcl V Y G hSv h X J;refine⟨λe=>by rw[e]at Y;exact absurd Y (by simp),λj W=>?_⟩;by_cases e:j=i
  ·subst e;exact G.at hi (hS v X J hSv) ⟨.inr (hS v X J hSv),h.EU J⟩
  have O:=(h X J).2 j (ready_mono W e);obtain⟨hun,p,hpj,F⟩:=mem_ready.1 W;have u:ls.getD i true=false:=(mem_ready.1 Y).1;have hnot:∀e∈p.after,ti .any e=true→e.on≠i:=λe N hb heq=>by
   have U:=F e N hb;rw[heq]at U;obtain L|C:=ff i ls.size
   ·simp[L]at U u;rw[u]at U;cases U
   simp[n3 C]at U
  have hjl:¬last≤j:=λe2=>by
   have L:=(HX.1 hpj).1;have hw2:(hB j last||OB ops i 8 j)=true:=by
    simp only[waits,Ajq,Ak3]at hw;exact hw j L
   simp only[Alo,Nat.blt_eq]at hw2;have M:=eL hcl 8 j p hpj F (hw2.resolve_left (by omega));obtain Z|Z:=ff i ls.size
   ·simp[Z]at M u;rw[u]at M;cases M
   simp[n3 Z]at M
  have U:=F5z.Ag8 hpj (V j p hpj e hun hnot) (λcs b=>hsel' i o cs b hi) (λcs b=>hsel' j p cs b hpj) hQ G O;refine F5z.mono (λa' v' M=>?_) U;have hS':S v':=M.2.1.resolve_left hjl;refine⟨.inr hS',ih _ a' v' (Adc hcl W) ?_ (ready_mono Y (Ne.symm e)) M.1 hS' ?_⟩
  ·intro k q hq hki hun2 hno;refine V k q hq hki ?_ hno;by_cases hjk:j=k
   ·subst hjk;exact hun
   rwa[getD_set_ne true hjk]at hun2
  rw[Array.setIfInBounds_comm _ _ e];exact M.2.2
def WA(P:Program)(B:World)(ops:Array Oper)(Q:Exit→Act→World→Prop)(R:HP)(last:Nat)(fuel:Nat)(listed:Array Bool)(n:Nat)(E:A8)(D:CW)(H:HP):Prop:=
 ∀a w,DZ n E a→a.defers=D.ds→Sat B H w→IH P B.heap.size D.r ops Q (Sat B R) last fuel listed a w
class Kc(H R:HP):Prop where
 get:∀r,H r→∃x y,Ai.dj x y∧r=x.un y∧R x
instance(priority:=2000)(H:HP):Kc H H:=⟨λr h=>⟨r,Ai.nil,(SP r).symm,(dL r).symm,h⟩⟩
instance(priority:=1800)(A C:HP):Kc (A*C) A:=⟨λr ⟨x,y,d,e,a,_⟩=>⟨x,y,d,e,a⟩⟩
instance(priority:=1500)(A C D R:HP)[h:Kc (A*(C*D)) R]:Kc (A*C*D) R:=by rw[HP.assoc];exact h
instance(priority:=1400)(A C D H:HP)[h:Kc H (A*(C*D))]:Kc H (A*C*D):=by rw[HP.assoc];exact h
instance(priority:=900)(A C R:HP)[h:Kc C R]:Kc (A*C) R:=⟨λr ⟨x,y,d,e,_,c⟩=>by
 obtain⟨u,v,X,M,Y⟩:=h.get y c;subst M;obtain⟨S,q⟩:=Ng.1 d;refine⟨u,x.un v,Ng.2 ⟨S.symm,X⟩,?_,Y⟩;rw[e,←QO,←QO,MF S]⟩
instance(priority:=1000)(A C R:HP)[h:Kc C R]:Kc (A*C) (A*R):=⟨λr ⟨x,y,d,e,a,c⟩=>by
 obtain⟨u,v,X,M,Y⟩:=h.get y c;subst M;obtain⟨S,q⟩:=Ng.1 d;refine⟨x.un u,v,Ug.2 ⟨q,X⟩,?_,x,u,S,I,a,Y⟩;rw[e,QO]⟩
class CM(B:World)(H R:HP):Prop where
 get:∀w,Sat B H w→Sat B R w
instance(B:World)(H R:HP)[h:Kc H R]:CM B H R:=⟨λ_ ⟨O,r,Y,J⟩=>by
 obtain⟨x,y,_,e,F⟩:=h.get r Y;exact⟨O,x,F,(e▸J).left⟩⟩
theorem CM.Bs(B H):CM B H Bs:=⟨λ_ h=>h.Bs⟩
theorem CM.of{A}(h:H=A*R):CM B H R:=⟨λ_ X=>(h▸X).right⟩
def B1(ops:Array Oper)(ls:Array Bool)(last i:Nat):Bool:=
 Ao5 ops&&Region.free .any ops ls i&&(m5 .any ops ls).contains i&&waits ops last i&&X4 ops ls
section
variable{P:Program}{B:World}{n:Nat}{E:A8}{D:CW}{H R:HP}{ops:Array Oper}{Q:Exit→Act→World→Prop}{fuel last:Nat}{ls:Array Bool}
 {op:Op} {ty:TypeId} {pos:String} {af:Array Edge}
def EI{id}(R last k)(hm:P.follows .mixedOrders=true)(Z:ops.size=k)[N:PQ Q](F:Il ops=true)(h:WA P B ops Q R last k (Anl k false) n E D H):WP P B (.region id ops true) Q n E D H:=
 λa w O U M=>Aaa (S:=Sat B R) (last:=last) hm (by rw[Z];exact h a w O U M)
def Ace{id}(last k)(hm:P.follows .mixedOrders=true)(Z:ops.size=k)[N:PQ Q](F:Il ops=true)(h:WA P B ops Q H last k (Anl k false) n E D H):WP P B (.region id ops true) Q n E D H:=
 EI H last k hm Z F h
def Ll(i)(hi:ops[i]?=some ⟨some t,op,ty,pos,af,none⟩)(Z:B1 ops ls last i=true)[N:PQ Q][hE:CM B H R](ht:hB t n=true)(S:AY P B n ⟨some t,op,ty,pos,af,none⟩ E R v)(next:WA P B ops Q R last fuel (ls.setIfInBounds i true) n ((t,v)::E) D H):
  WA P B ops Q R last (fuel+1) ls n E D H:=by
 intro a w O U M;simp only[B1,Ajr]at Z;obtain⟨⟨⟨⟨C,V⟩,Y⟩,J⟩,L⟩:=Z;refine IH.first hi C J (λc a w=>N.get c a w _ _) (λ_ _ u h=>h.EU u) fuel ls a w (UZ L) (Ald hi V) (by simpa using Y) (.inl ⟨by simp[cx],λc _=>S.Il O (hE.get w M) c,λF q=>S a F O q⟩) (hE.get w M) ?_
 exact next _ w (O.put (by simpa using ht) v) (by simp[Act.put,U]) M
def dr(i){b}(hi:ops[i]?=some ⟨some t,op,ty,pos,af,some (j,b)⟩)(Z:B1 ops ls last i=true)[N:PQ Q][hE:CM B H R](ht:hB t n=true)(W:(ops[j]?).bind (·.dst)=some tj)(hb:lk E tj=some (.bool b))(S:AY P B n ⟨some t,op,ty,pos,af,none⟩ E R v)(next:WA P B ops Q R last fuel (ls.setIfInBounds i true) n ((t,v)::E) D H):
  WA P B ops Q R last (fuel+1) ls n E D H:=by
 intro a w O U M;have G:yielded ops a.tmps j=some b:=by
  have:=O.2 _ _ hb;simp[yielded,W,this]
 simp only[B1,Ajr]at Z;obtain⟨⟨⟨⟨C,V⟩,Y⟩,J⟩,L⟩:=Z;refine IH.first hi C J (λc a w=>N.get c a w _ _) (λ_ _ u h=>h.EU u) fuel ls a w (UZ L) (Ald hi V) (by simpa using Y) (.inl ⟨by simp[cx,G],λc _=>S.Il (o:=⟨some t,op,ty,pos,af,none⟩) O (hE.get w M) c,λF q=>S a F O q⟩) (hE.get w M) ?_
 exact next _ w (O.put (by simpa using ht) v) (by simp[Act.put,U]) M
def nl(i){b}(hi:ops[i]?=some ⟨some t,op,ty,pos,af,some (j,want)⟩)(Z:B1 ops ls last i=true)[N:PQ Q][hE:CM B H R](ht:hB t n=true)(W:(ops[j]?).bind (·.dst)=some tj)(hb:lk E tj=some (.bool b))(Y:b= !want)(next:WA P B ops Q R last fuel (ls.setIfInBounds i true) n ((t,undef)::E) D H):
  WA P B ops Q R last (fuel+1) ls n E D H:=by
 intro a w O U M;have G:yielded ops a.tmps j=some b:=by
  have:=O.2 _ _ hb;simp[yielded,W,this]
 simp only[B1,Ajr]at Z;obtain⟨⟨⟨⟨C,V⟩,q⟩,J⟩,L⟩:=Z;refine IH.first hi C J (λc a w=>N.get c a w _ _) (λ_ _ u h=>h.EU u) fuel ls a w (UZ L) (Ald hi V) (by simpa using q) (.inr ⟨by rw[Y]at G;cases want<;>simp[cx,G],I⟩) (hE.get w M) ?_
 exact next _ w (O.put (by simpa using ht) undef) (by simp[Act.put,U]) M
def Au(i)(hr:m5 .any ops ls=[i])(hi:ops[i]?=some ⟨some t,op,ty,pos,af,none⟩)(ht:hB t n=true)(N:DT P B n ⟨some t,op,ty,pos,af,none⟩ E D H Post)(next:∀v H',Post v H'→(last≤i∨CM B H' R)∧WA P B ops Q R last fuel (ls.setIfInBounds i true) n ((t,v)::E) D H'):
  WA P B ops Q R last (fuel+1) ls n E D H:=by
 intro a w O U M;intro Y X;refine⟨(λq=>by rw[hr]at q;cases q),λj W=>?_⟩;rw[hr]at W;obtain rfl:=g5.1 W;unfold F5z;rw[hi];simp only[cx,if_true];refine⟨λc _=>N.Il O U M c,N a Y O U (M.EU X) _ _ λv H' V J C=>?_⟩;obtain⟨S,F⟩:=next v H' J;exact⟨S.imp id (λh=>h.get V C),F _ V (O.put (by simpa using ht) v) (by simp[Act.put,U]) C⟩
def GO(i)(hr:m5 .any ops ls=[i])(hi:ops[i]?=some ⟨none,op,ty,pos,af,none⟩)(N:DT P B n ⟨none,op,ty,pos,af,none⟩ E D H Post)(next:∀v H',Post v H'→(last≤i∨CM B H' R)∧WA P B ops Q R last fuel (ls.setIfInBounds i true) n E D H'):
  WA P B ops Q R last (fuel+1) ls n E D H:=by
 intro a w O U M;intro Y X;refine⟨(λq=>by rw[hr]at q;cases q),λj W=>?_⟩;rw[hr]at W;obtain rfl:=g5.1 W;unfold F5z;rw[hi];simp only[cx,if_true];refine⟨λc _=>N.Il O U M c,N a Y O U (M.EU X) _ _ λv H' V J C=>?_⟩;obtain⟨S,F⟩:=next v H' J;exact⟨S.imp id (λh=>h.get V C),F _ V O U C⟩
def GU(i)(hr:m5 .any ops ls=[i])(hi:ops[i]?=some ⟨some t,op,ty,pos,af,none⟩)(ht:hB t n=true)(S:AY P B n ⟨some t,op,ty,pos,af,none⟩ E H v)(F:last≤i∨CM B H R)(next:WA P B ops Q R last fuel (ls.setIfInBounds i true) n ((t,v)::E) D H):
  WA P B ops Q R last (fuel+1) ls n E D H:=
 Au i hr hi ht (Post:=λL H'=>L=v∧H'=H) S.Mw (by rintro _ _ ⟨rfl,rfl⟩;exact⟨F,next⟩)
def F9(e:H=H')(h:WA P B ops Q R last fuel ls n E D H'):WA P B ops Q R last fuel ls n E D H:=e▸h
def qD(hr:m5 .any ops ls=[])(h:BZ B Q .normal n E D H):WA P B ops Q R last fuel ls n E D H:=
 λa w O U M=>by
  cases fuel with
  |zero=>exactλY X=>⟨hr,h a Y O U (M.EU X)⟩
  |succ fuel=>exactλY X=>⟨λ_=>h a Y O U (M.EU X),λi q=>by rw[hr]at q;cases q⟩
def Ag1(i j)(hr:m5 .any ops ls=[i,j]){Z oj:Oper}{Pi L:Value→HP→Prop}{u}(hi:ops[i]?=some Z)(W:ops[j]?=some oj)(N:Z.dst=some u)(dj:oj.dst=some tj)(q:Z.guard=none)(gj:oj.guard=none)(F:hB u n=true)(G:hB tj n=true)(ei:DT P B n Z E D H Pi)(ej:DT P B n oj E D H L)(ni:∀v H',Pi v H'→(last≤i∨CM B H' R)∧WA P B ops Q R last fuel (ls.setIfInBounds i true) n ((u,v)::E) D H')(nj:∀v H',L v H'→(last≤j∨CM B H' R)∧WA P B ops Q R last fuel (ls.setIfInBounds j true) n ((tj,v)::E) D H'):
  WA P B ops Q R last (fuel+1) ls n E D H:=by
 intro a w O U M Y X;have M:=M.EU X;refine⟨(λh0=>by rw[hr]at h0;cases h0),λk hk=>?_⟩;rw[hr]at hk;obtain rfl|hk:=j1.1 hk
 ·unfold F5z;rw[hi];simp only[cx,q,if_true];refine⟨λc _=>ei.Il O U M c,ei a Y O U M _ _ λv H' V J C=>?_⟩;obtain⟨S,n2⟩:=ni v H' J;exact⟨S.imp id (λh=>h.get V C),n2 _ V (by rw[N];exact O.put (by simpa using F) v) (by rw[N];simp[Act.put,U]) C⟩
 obtain rfl:=g5.1 hk;unfold F5z;rw[W];simp only[cx,gj,if_true];refine⟨λc _=>ej.Il O U M c,ej a Y O U M _ _ λv H' V J C=>?_⟩;obtain⟨S,n2⟩:=nj v H' J;exact⟨S.imp id (λh=>h.get V C),n2 _ V (by rw[dj];exact O.put (by simpa using G) v) (by rw[dj];simp[Act.put,U]) C⟩
end
end
section
class AB(α:Type) where
 sz:Nat
 enc:α→List Value
 AD:α
 len:∀x,(enc x).length=sz
 one:∀x,∀v∈enc x,v.oneCell'=true
abbrev u8(b:UInt8):Value:=.int .u8 (b.toNat:Nat)
@[reducible] instance:AB UInt8:=⟨1,λb=>[u8 b],0,λ_=>rfl,λ_ v h=>by rw[g5.1 h];rfl⟩
@[simp] theorem Q6:AB.sz UInt8=1:=rfl
@[simp] theorem aT(b:UInt8):AB.enc b=[u8 b]:=rfl
@[simp] theorem Agh:(AB.AD:UInt8)=0:=rfl
def AE[AB α](xs:List α):List Value:=xs.flatMap AB.enc
def CV[AB α](xs:List α):aa (AE xs)=aa xs*AB.sz α:=by
 induction xs with
 |nil=>simp[AE]
 |cons x xs Z=>simp only[AE,N2,a5,AB.len,f']at*;rw[Z,Al3,An2]
def GH[AB α](xs ys:List α):AE (xs++ys)=AE xs++AE ys:=by simp[AE]
def Lr[AB α](xs:List α):∀v∈AE xs,v.oneCell'=true:=by
 intro v h;obtain⟨x,_,U⟩:=List.mem_flatMap.1 h;exact AB.one x v U
def RN[AB α](xs:List α):∀v∈AE xs,live v=true:=λv h=>Qp (Lr xs v h)
def Kx[AB α](xs:List α):(AE xs).all live=true:=Ajq.2 (RN xs)
def Yj[AB α]:∀(xs:List α) (i f:Nat) (v:Value),i<aa xs→(AB.enc (xs.getD i AB.AD))[f]?=some v→(AE xs)[i*AB.sz α+f]?=some v
 |[],i,f,v,h,_=>by simp at h
 |x::xs,0,f,v,_,h=>by
  simp only[Amv]at h;have L:f<aa (AB.enc x):=(Lk.1 h).1;simp only[AE,N2,An3,Pl];rw[E2 L];exact h
 |x::xs,i+1,f,v,M,h=>by
  simp only[Amw]at h;have:=Yj xs i f v (by simpa using M) h;simp only[AE,N2]at*;rw[R' (by rw[AB.len,Al3];omega),AB.len,show(i+1)*AB.sz α+f-AB.sz α=i*AB.sz α+f by rw[Al3];omega];exact this
def AC[AB α](b o:Nat)(xs:List α)(s:List Value):HP:=AA b o (AE xs++s)
def GY[AB α](b o):AC b o ([]:List α) []=Bs:=by simp[AC,AE,lB]
def Sr[AB α]{f}(h:(AB.enc (xs.getD i AB.AD))[f]?=some v)(r:Ai)(hr:AC b o xs s r)(hi:i<aa xs):
  r.c b (o+i*AB.sz α+f)=some v:=by
 have O:=Yj xs i f v hi h;have L:i*AB.sz α+f<aa (AE xs):=(Lk.1 O).1;rw[show r=_ from hr];simp only[];rw[AJ (And.intro trivial (by omega)),show o+i*AB.sz α+f-o=i*AB.sz α+f by omega,E2 L,O]
instance{α:Type}[AB α](b o i f:Nat)(xs:List α)(s:List Value)(v:Value)[h:Ob (AB.enc (xs.getD i AB.AD)) f v]:
  Cell (AC b o xs s) b (o+i*AB.sz α+f) v (i<aa xs):=⟨Sr h.get⟩
instance{α:Type}[AB α](b o i:Nat)(xs:List α)(s:List Value)(v:Value)[h:Ob (AB.enc (xs.getD i AB.AD)) 0 v]:
  Cell (AC b o xs s) b (o+i*AB.sz α) v (i<aa xs):=⟨Sr (f:=0) h.get⟩
instance(b o i:Nat)(xs:List UInt8)(s:List Value):Cell (AC b o xs s) b (o+i*1) (u8 (xs.getD i 0)) (i<aa xs):=⟨Sr (f:=0) I⟩
def Sl(p:Option Addr)(b o k c:Nat):Prop:=(c=0∨p=some ⟨b,o,none⟩)∧k≤c
class AZ{α:Type}[AB α](B:World)(H:HP)(b o:Nat)(xs:List α):Prop where
 get:∀i f v,(AB.enc (xs.getD i AB.AD))[f]?=some v→i<xs.length→∀w,Sat B H w→w.cell? ⟨b,o+i*AB.sz α+f,none⟩=some v
instance{α:Type}[AB α](B:World)(b o:Nat)(xs:List α)(s:List Value):AZ B (AC b o xs s) b o xs:=
 ⟨λ_ _ v h M _ ⟨_,r,Y,J⟩=>J.cell _ _ v (Sr h r Y M)⟩
instance{α:Type}[AB α](B:World)(A C:HP)(b o:Nat)(xs:List α)[h:AZ B A b o xs]:AZ B (A*C) b o xs:=⟨λi f v e M w X=>h.get i f v e M w X.left⟩
instance{α:Type}[AB α](B:World)(A C:HP)(b o:Nat)(xs:List α)[h:AZ B C b o xs]:AZ B (A*C) b o xs:=⟨λi f v e M w X=>h.get i f v e M w X.right⟩
theorem PF{xs:List UInt8}(h:AZ B H b o xs)(i):
  Rd B H b (o+i*1) (u8 (xs.getD i 0)) (i<aa xs):=⟨λw X M=>h.get i 0 _ I M w X,λ_ _ _=>rfl⟩
def sp(p:Option Addr)(c l sz:Nat):Option Addr:=if c=l then p else p.map (·.add (l*sz))
def Lz{l h}(C:Sl p b o k c)(J:l≤h)(Y:h≤c):Sl (sp p c l sz) b (o+l*sz) (h-l) (c-l):=by
 refine⟨?_,by omega⟩;by_cases e:c=l
 ·left;omega
 obtain O|O:=C.1
 ·omega
 right;rw[sp,AF e,O];by_cases M:l*sz=0<;>simp[eo,M]
theorem AZ.sub[AB α](hr:AZ B H b o xs)(l h)(Y:h≤aa xs):AZ B H b (o+l*AB.sz α) ((xs.take h).drop l):=by
 refine⟨λi f v e M w X=>?_⟩;have q:l+i<h:=by simp at M;omega
 have O:((xs.take h).drop l).getD i AB.AD=xs.getD (l+i) AB.AD:=by
  simp[Ao0,Cx,q]
 rw[O]at e;have:=hr.get (l+i) f v e (by omega) w X;rw[show o+l*AB.sz α+i*AB.sz α+f=o+(l+i)*AB.sz α+f by rw[u2];omega];exact this
def DI[AB α](R:HP)(xs:List α)(v:Value)(H':HP):Prop:=
 ∃p b o c s,v=.slice p (aa xs) c∧Sl p b o (aa xs) c∧aa xs*AB.sz α+aa s=c*AB.sz α∧H'=AC b o xs s*R
section
variable{P:Program}{B:World}{n:Nat}{E:A8}{D:CW}{H:HP}{d:Option Tmp}{T T' ty:TypeId}{pos:String}{af:Array Edge}{g:Option (Nat×Bool)}{x y z:Operand}
def CJ{e}[hT:Aw P T (.slice e)][hz:CG P e sz](F:ev E x=some (.slice p k c))(G:ev E y=some (.int ik i))(C:Sl p b o k c)(h:i<k):AY P B n ⟨d,.indexAddr T x y,ty,pos,af,g⟩ E H (.pointer (some ⟨b,o+i*sz,none⟩)):=by
 obtain⟨O,U⟩:=C;obtain rfl:=O.resolve_left (by omega);exact Uk F G h
def IQ{c}(h:i≤m)(w):(Ann (.int ik i) m c).run P w=.ok i w:=by
 have q:(0:Int)≤i∧(i:Int)≤m:=by omega
 simp[Ann,asIntOf,q]
def IY{N q c}(h:i≤m)(w):Al N q P (Ann (.int ik i) m c) w=True:=by
 have u:(0:Int)≤i∧(i:Int)≤m:=by omega
 simp[Ann,asIntOf,u]
def Lh{l:Nat}{e:TypeId}[hT:Aw P T (.slice e)][hz:CG P e sz](F:ev E x=some (.slice p k c))(G:ev E y=some (.int ik l))
  (h:l≤k):AY P B n ⟨d,.slice T x (some y) none none,ty,pos,af,g⟩ E H (.slice (sp p c l sz) (k-l) (c-l)):=by
 intro a w N _;simp only[A9,BL,Dp,CT,DQ,B3,BX,true_and,and_true,execOp,N.ev F,i',Ajd,N.ev G,Kt,Ao2,n9,bn,A6 hT.get,b0,bp,IQ h,IY h,hz.get,Ajf];rfl
def Uo{h:Nat}{e:TypeId}[hT:Aw P T (.slice e)][hz:CG P e sz](F:ev E x=some (.slice p k c))(G:ev E y=some (.int ik h))
  (W:h≤c):AY P B n ⟨d,.slice T x none (some y) none,ty,pos,af,g⟩ E H (.slice p h c):=by
 intro a w N _;simp only[A9,BL,Dp,CT,DQ,B3,BX,true_and,and_true,execOp,N.ev F,i',Ajd,N.ev G,Kt,Ao2,n9,bn,A6 hT.get,b0,bp,IQ W,IY W,hz.get,Ajf];cases p<;>simp[eo]
def QH{l h:Nat}{e:TypeId}[hT:Aw P T (.slice e)][hz:CG P e sz](F:ev E x=some (.slice p k c))(G:ev E y=some (.int ik l))(C:ev E z=some (.int jk h))
  (W:l≤h∧h≤c):AY P B n ⟨d,.slice T x (some y) (some z) none,ty,pos,af,g⟩ E H (.slice (sp p c l sz) (h-l) (c-l)):=by
 intro a w N _;simp only[A9,BL,Dp,CT,DQ,B3,BX,true_and,and_true,execOp,N.ev F,i',Ajd,N.ev G,N.ev C,Kt,Ao2,n9,bn,A6 hT.get,b0,bp,IQ W.1,IQ W.2,IY W.1,IY W.2,hz.get,Ajf];rfl
def Ag7[hT:Aw P T (.array len e)][hz:CG P e sz](F:ev E x=some (.pointer (some ⟨b,o,none⟩))):
  AY P B n ⟨d,.slice T x none none none,ty,pos,af,g⟩ E H (.slice (some ⟨b,o,none⟩) len len):=by
 intro a w N _;simp only[A9,BL,Dp,CT,DQ,B3,BX,true_and,and_true,execOp,N.ev F,Ajd,Kt,n9,bn,A6 hT.get,hO,b0,bp,hz.get];simp[eo]
def qE{l:Nat}[hT:Aw P T (.array len e)][hz:CG P e sz](F:ev E x=some (.pointer (some ⟨b,o,none⟩)))(G:ev E y=some (.int ik l))(h:l≤len):
  AY P B n ⟨d,.slice T x (some y) none none,ty,pos,af,g⟩ E H (.slice (sp (some ⟨b,o,none⟩) len l sz) (len-l) (len-l)):=by
 intro a w N _;simp only[A9,BL,Dp,CT,DQ,B3,BX,true_and,and_true,execOp,N.ev F,i',Ajd,N.ev G,Kt,n9,bn,A6 hT.get,hO,b0,bp,hz.get,IQ h,IY h,Ajf];by_cases e:len=l<;>simp[sp,e]
def aX{h:Nat}[hT:Aw P T (.array len e)][hz:CG P e sz](F:ev E x=some (.pointer (some ⟨b,o,none⟩)))(G:ev E y=some (.int ik h))(Y:h≤len):
  AY P B n ⟨d,.slice T x none (some y) none,ty,pos,af,g⟩ E H (.slice (some ⟨b,o,none⟩) h len):=by
 intro a w N _;simp only[A9,BL,Dp,CT,DQ,B3,BX,true_and,and_true,execOp,N.ev F,i',Ajd,N.ev G,Kt,n9,bn,A6 hT.get,hO,b0,bp,hz.get,IQ Y,IY Y];simp[eo]
end
section
variable{P:Program}{B:World}{α:Type}[AB α]
def AZ.at{xs:List α}(h:AZ B H b o xs)(hw:Sat B H w)(j v)(e:(AE xs)[j]?=some v):w.cell? (eo ⟨b,o,none⟩ j)=some v:=by
 have W:j<aa xs*AB.sz α:=by rw[←CV];exact(Lk.1 e).1
 have C:0<AB.sz α:=by rcases Akv (AB.sz α)with J|J;rw[J]at W;omega;exact J
 have M:j/AB.sz α<aa xs:=(Ala C).2 W;have F:j/AB.sz α*AB.sz α+j%AB.sz α=j:=Nat.div_add_mod' ..;have L:j%AB.sz α<AB.sz α:=Alu _ C;have N:(AB.enc (xs.getD (j/AB.sz α) AB.AD))[j%AB.sz α]?=some v:=by
  obtain⟨u,q⟩:∃u,(AB.enc (xs.getD (j/AB.sz α) AB.AD))[j%AB.sz α]?=some u:=by
   rw[c8 (by rw[AB.len];exact L)];exact⟨_,I⟩
  have:=Yj xs _ _ u M q;rw[F,e]at this;rw[q,this]
 have:=h.get _ _ v N M w hw;rw[Am0,F]at this;by_cases G:j=0
 ·subst G;simpa[eo]using this
 simpa[eo,G]using this
def AZ.run{xs:List α}(h:AZ B H b o xs)(hw:Sat B H w):(loadCells ⟨b,o,none⟩ (aa xs*AB.sz α)).run P w=.ok (AE xs).toArray w:=by
 rw[←CV];exact run_loadCells_list w ⟨b,o,none⟩ (AE xs) (h.at hw)
def AZ.Ez{xs:List α}(h:AZ B H b o xs)(hw:Sat B H w)(m D):Al m D P (loadCells ⟨b,o,none⟩ (aa xs*AB.sz α)) w:=by
 rw[←CV];exact QZ (AE xs) 0 #[] () (λj v e=>by rw[Pl];exact h.at hw j v e) (RN xs)
@[simp] theorem Ags(x w):Al m D P (Anv x) w=True:=by cases x<;>rfl
@[simp] theorem Agm(n w):Al m D P (askRoom n) w=True:=by
 unfold askRoom;simp
def Afz(h:zc.toList.all live=true)(m):∀v∈((Ant m).map λi=>zc[i%zc.size]!).toList,live v=true:=by
 intro v S;simp only[Ajs,g9]at S;obtain⟨i,_,rfl⟩:=S;by_cases W:i%zc.size<zc.size
 ·rw[getElem!_pos zc (i%zc.size) W];exact KA h _ (by simp)
 rw[getElem!_neg zc (i%zc.size) W];rfl
def Wr(h:zc.toList.all live=true)(n):∀v∈(a9 zc n).toList,live v=true:=by
 intro v S;simp only[a9,Ajs,g9,Amm,Array.mem_range]at S;obtain⟨i,M,rfl⟩:=S;have C:0<zc.size:=Nat.pos_of_ne_zero λe=>by rw[e]at M;simp at M
 have W:i%zc.size<zc.size:=Alu _ C;rw[getElem!_pos zc (i%zc.size) W];exact KA h _ (by simp)
def eG{xs ys:List α}(h:zc.toList.all live=true)(n):∀v∈((AE xs).toArray++((AE ys).toArray++a9 zc n)).toList,live v=true:=by
 intro v S;simp only[Ak2,j2]at S;obtain S|S|S:=S
 ·exact RN xs v S
 ·exact RN ys v S
 exact Wr h n v S
def iR{xs ys:List α}{sT xT by_ ty x}{z:Value}(hT:P.underlying sT=some (.slice e))(ha0:ats[0]?=some sT)(Z:ats[1]?=some xT)(hxT:∀k,P.underlying xT≠some (.int k))(hxT':∃d,P.underlying xT=some d)(hz:∀w,(sizeOf e).run P w=.ok (AB.sz α) w)(hi:∃i,(∀w,(typeInfo e).run P w=.ok i w)∧i.bytes=by_)(h0:∀w,(zeroValue e).run P w=.ok z w)(hzc:z.cells.size=AB.sz α)(hzl:z.cells.toList.all live=true)(C:Sl p b o (aa xs) c)(hc:aa xs*AB.sz α+aa s=c*AB.sz α)(L:(Anv x).run P w=.ok (aa ys) w)(hx':∀V,Sat B (AC b o xs s*R) V→(ad (AB.sz α) (aa ys) x).run P V=.ok (AE ys).toArray V)(hxt:∀V,Sat B (AC b o xs s*R) V→∀m D,Al m D P (ad (AB.sz α) (aa ys) x) V)(hb:(aa xs+aa ys)*by_≤140737488355328)(hby:0<by_)(hw:Sat B (AC b o xs s*R) w):
  ∃v V,(c6 ats ty #[.slice p (aa xs) c,x]).run P w=.ok v V∧(∃H',DI R (xs++ys) v H'∧Sat B H' V)∧∀m D,Al m D P (c6 ats ty #[.slice p (aa xs) c,x]) w:=by
 have hcells:=hx' w hw;have htc:=hxt w hw;obtain⟨dx,u⟩:=hxT';obtain⟨W,hinf,rfl⟩:=hi;have hdx':∀k,dx≠ .int k:=λk h=>hxT k (by rw[u,h]);have hzero:(match dx with| .int _=>true|_=>false)=false:=by cases dx<;>first|rfl|exact absurd I (hdx' _)
 by_cases G:aa xs+aa ys≤c
 ·
  by_cases hc0:c=0
  ·have J:xs=[]:=hU.1 (by omega);have hy0:ys=[]:=hU.1 (by omega);subst J hy0 hc0;have q:(c6 ats ty #[.slice p (aa ([]:List α)) 0,x]).run P w=.ok (.slice p 0 0) w:=by
    simp only[c6,ha0,Z];simp only[ss,kv]at*;simp[A6 hT,A6 u,hz,L,hcells,AE];cases p<;>simp[storeCells]
   refine⟨_,w,q,⟨_,⟨p,b,o,0,s,I,C,hc,I⟩,hw⟩,λm D=>?_⟩;simp only[c6,ha0,Z];simp only[ss,kv]at*;simp[A6 hT,A6 u,hz,L,hcells,AE,htc];cases p<;>simp[storeCells]
  obtain rfl:=C.1.resolve_left hc0;have hcm:=ta (AB.sz α) G;rw[u2]at hcm;have hw2:Sat B (AA b (o+aa xs*AB.sz α+0) s*(AA b o (AE xs)*R)) w:=by
   rw[EM,←HP.assoc,kv,←CV,←HF];exact hw
  obtain⟨V,O,h2,h3⟩:=Sat.ME (P:=P) (AE ys) (o+aa xs*AB.sz α) 0 s _ w (by rw[CV];omega) (Lr ys) hw2;have ha:eo ⟨b,o,none⟩ (aa xs*AB.sz α)=⟨b,o+aa xs*AB.sz α,none⟩:=by
   by_cases M:aa xs*AB.sz α=0<;>simp[eo,M]
  have q:(c6 ats ty #[.slice (some ⟨b,o,none⟩) (aa xs) c,x]).run P w=.ok (.slice (some ⟨b,o,none⟩) (aa xs+aa ys) c) V:=by
   simp only[c6,ha0,Z];simp[A6 hT,A6 u,hz,L,G,hcells,ha,O]
  refine⟨_,V,q,⟨_,⟨some ⟨b,o,none⟩,b,o,c,s.drop (aa (AE ys)),by rw[a5],⟨.inr I,by rw[a5];exact G⟩,?_,I⟩,?_⟩,λm D=>?_⟩
  ·rw[a5,di,CV,u2];omega
  ·unfold AC;rw[GH,c5,HF,HP.assoc,EM,CV xs,←kv (o+aa xs*AB.sz α)];exact h2
  simp only[c6,ha0,Z];simp[A6 hT,A6 u,hz,L,G,hcells,ha,O,htc,h3]
 -- a new row
 have hby0:¬W.bytes=0:=by omega
 have S:¬281474976710656<Builtin.nextslicecap (aa xs+aa ys) c*W.bytes:=by
  have:=growslice_fits (old:=c) (by omega) hb;omega
 have hfo:(Anm (aa xs+aa ys) c e).forced=false:=rfl;have U:(ad (AB.sz α) (aa xs) (.slice p (aa xs) c)).run P w.drew=.ok (AE xs).toArray w.drew:=by
  have hwd:Sat B (AC b o xs s*R) w.drew:=hw.IS;obtain O|rfl:=C.1
  ·have J:xs=[]:=hU.1 (by have:=C.2;omega);subst J;cases p<;>simp[ad,AE,loadCells,loadCellsFrom]
  simp only[ad];exact AZ.run (H:=AC b o xs s*R) AH hwd
 have hold2:∀m D,Al m D P (ad (AB.sz α) (aa xs) (.slice p (aa xs) c)) w.drew:=λm D=>by
  have hwd:Sat B (AC b o xs s*R) w.drew:=hw.IS;obtain O|rfl:=C.1
  ·have J:xs=[]:=hU.1 (by have:=C.2;omega);subst J;cases p<;>simp[ad,loadCells,loadCellsFrom]
  simp only[ad];exact AZ.Ez (H:=AC b o xs s*R) AH hwd m D
 have hnew:=hx' w.drew hw.IS;have hnew2:=hxt w.drew hw.IS;obtain⟨N,X⟩:∃N,N=(Anm (aa xs+aa ys) c e).cut (w.tape w.drawn (Anm (aa xs+aa ys) c e)):=⟨_,I⟩
 have Y:aa xs+aa ys≤N:=by rw[X];simp[Aoe]
 have q:(c6 ats ty #[.slice p (aa xs) c,x]).run P w=.ok (.slice (some ⟨w.heap.size,0,none⟩) (aa xs+aa ys) N)
   (w.drew.alloc (.cells ((AE xs).toArray++((AE ys).toArray++a9 z.cells (N-(aa xs+aa ys)))) e)):=by
  simp only[c6,ha0,Z];simp[A6 hT,A6 u,hz,L,G,hinf,hby0,S,hfo,U,hnew,h0,newRow,←X]
 have hcm:=ta (AB.sz α) Y;have F:=(show Sat B (AC b o xs s*R) w.drew from hw.IS).alloc ((AE xs).toArray++((AE ys).toArray++a9 z.cells (N-(aa xs+aa ys)))) e (eG hzl _);refine⟨_,_,q,⟨_,⟨some ⟨w.heap.size,0,none⟩,w.heap.size,0,N,(a9 z.cells (N-(aa xs+aa ys))).toList,by rw[a5],⟨.inr I,by rw[a5];exact Y⟩,?_,I⟩,?_⟩,λm D=>?_⟩
 ·have e1:(a9 z.cells (N-(aa xs+aa ys))).toList.length=(N-(aa xs+aa ys))*AB.sz α:=by rw[←hzc];simp[a9]
  rw[a5,e1,Nat.sub_mul];omega
 ·have M:((AE xs).toArray++((AE ys).toArray++a9 z.cells (N-(aa xs+aa ys)))).toList=AE xs++(AE ys++(a9 z.cells (N-(aa xs+aa ys))).toList):=by simp
  rw[M,EM]at F;unfold AC;rw[GH,c5];exact F.right
 simp only[c6,ha0,Z];simp[A6 hT,A6 u,hz,L,G,hinf,hby0,S,hfo,U,hold2,hnew,hnew2,h0,newRow,←X]
def CA{E D d sT xT ty by_ pos af}{g:Option (Nat×Bool)}{x y bb oo cc pp}{xs ys:List α}{z:Value}[hT:Aw P sT (.slice e)][hT2:Aw P xT (.slice e)][hz:CG P e (AB.sz α)][hi:Ft P e by_][h0:Bh P e z](F:ev E x=some (.slice p (aa xs) c))(C:Sl p b o (aa xs) c)(W:aa xs*AB.sz α+aa s=c*AB.sz α)(G:ev E y=some (.slice pp (aa ys) cc))(Y:Sl pp bb oo (aa ys) cc)(hr:AZ B (AC b o xs s*R) bb oo ys)(N:z.cells.size=AB.sz α)(hb:(aa xs+aa ys)*by_≤140737488355328)(S:0<by_):
  DT P B n ⟨d,.call ⟨.builtin .append,#[x,y],#[sT,xT]⟩,ty,pos,af,g⟩ E D (AC b o xs s*R) (λv H'=>DI R (xs++ys) v H'):=by
 intro a w O _ M K Q Z;have hf:∀V,Sat B (AC b o xs s*R) V→(ad (AB.sz α) (aa ys) (.slice pp (aa ys) cc)).run P V=.ok (AE ys).toArray V:=by
  intro V L;obtain h4|rfl:=Y.1
  ·have J:ys=[]:=hU.1 (by have:=Y.2;omega);subst J;cases pp<;>simp[ad,AE,loadCells,loadCellsFrom]
  simp only[ad];exact hr.run L
 have X:∀V,Sat B (AC b o xs s*R) V→∀m D,Al m D P (ad (AB.sz α) (aa ys) (.slice pp (aa ys) cc)) V:=by
  intro V L m D;obtain h4|rfl:=Y.1
  ·have J:ys=[]:=hU.1 (by have:=Y.2;omega);subst J;cases pp<;>simp[ad,loadCells,loadCellsFrom]
  simp only[ad];exact hr.Ez L m D
 obtain⟨v,V,q,⟨H',hH,L⟩,ht⟩:=iR (P:=P) (B:=B) (R:=R) (b:=b) (o:=o) (p:=p) (c:=c) (xs:=xs) (ys:=ys) (s:=s) (sT:=sT) (xT:=xT) (ats:= #[sT,xT]) (e:=e) (by_:=by_) (ty:=ty)
  (x:=.slice pp (aa ys) cc) (w:=w) (z:=z) hT.get I I (λk h=>by rw[hT2.get]at h;cases h) ⟨_,hT2.get⟩ hz.get hi.get h0.get N h0.live C W I
  (λw2 U=>hf w2 U) X hb S M
 have u:(execOp a.eval ⟨d,.call ⟨.builtin .append,#[x,y],#[sT,xT]⟩,ty,pos,af,g⟩).run P w=.ok (.value v) V:=by
  simp[execOp,resolve,O.ev F,O.ev G,invoke,builtin,q]
 refine Oper.Gg ?_ u (Z v H' V hH L);simp[execOp,resolve,O.ev F,O.ev G,invoke,builtin,ht]
end
end
section
def MD(E:A8):List (Nat×Operand)→Option (List (Nat×Value))
 |[]=>some []
 |(i,x)::r=>match ev E x with
  |some v=>match MD E r with
   |some vs=>some ((i,v)::vs)
   |none=>none
  |none=>none
def Wq{E}(h:DZ n E a):∀{xs:List (Nat×Operand)} {vs:List (Nat×Value)},MD E xs=some vs→xs.map (λ(i,x)=>(i,a.eval x))=vs:=by
 intro xs
 induction xs with
 |nil=>intro vs e;simpa[MD]using e
 |cons x r Z=>
  obtain⟨i,x⟩:=x;intro vs e;simp only[MD]at e;cases F:ev E x with
  |none=>simp[F]at e
  |some v=>
   cases Y:MD E r with
   |none=>simp[F,Y]at e
   |some us=>
    simp only[F,Y,Anq.injEq]at e;subst e;simp[h.ev F,Z Y]
def BR(xs:List UInt8):ByteArray:=⟨xs.toArray⟩
def Sk(s:ByteArray):BR s.data.toList=s:=by cases s;simp[BR]
@[simp] theorem Mo(xs:List UInt8):(BR xs).size=aa xs:=by simp[BR,ByteArray.size]
def uC(s t:ByteArray):(s.toList==t.toList)=decide (s=t):=by
 rw[ByteArray.toList_eq,ByteArray.toList_eq];by_cases h:s=t
 ·subst h;simp
 have:¬s.data=t.data:=λe=>h (by cases s;cases t;simp_all);simp[h,this]
section
variable{P:Program}{B:World}{n:Nat}{E:A8}{D:CW}{H R:HP}{d:Option Tmp}{T T' ty:TypeId}{pos:String}{af:Array Edge}{g:Option (Nat×Bool)}{x y z:Operand}{α:Type}[AB α]
def Gn{vs:List (Nat×Value)}{G:Value}[hT:Aw P T (.slice e)][hz:CG P e sz][h0:Bh P e G](F:MD E ps=some vs)(hf:v5 (λi=>some (i*sz,sz)) ((Ant (len*sz)).map λi=>G.cells[i%G.cells.size]!) vs=some cs.toArray)(hb:Aoc (len*sz) 16777216=true)(J:hB 0 (len*sz)=true)(L:cs.all live=true:=by first|rfl|exact Kx _|simp[live,Kx]):
  DT P B n ⟨d,.buildSlice T len ps.toArray,ty,pos,af,g⟩ E D H (λv H'=>∃b,v=.slice (some ⟨b,0,none⟩) len len∧H'=HP.AA b 0 cs*H):=by
 intro a w O _ M K Q Z;have C:¬len*sz> 2^24:=by have:=Alb hb;omega
 have h:¬len*sz=0:=by
  have:0<len*sz:=by simpa using J
  omega
 have W:(ps.toArray.map λ(i,x)=>(i,a.eval x)).toList=vs:=by
  rw[hI];exact Wq O F
 have q:(execOp a.eval ⟨d,.buildSlice T len ps.toArray,ty,pos,af,g⟩).run P w=.ok (.value (.slice (some ⟨w.heap.size,0,none⟩) len len)) (w.alloc (.cells cs.toArray e)):=by
  simp only[execOp,Anp,bn,A6 hT.get,b0,hz.get,C,if_false,h,h0.get,bp,W,hf,newRow];rfl
 refine Oper.Gg ?_ q (Z _ _ _ ⟨w.heap.size,I,I⟩ (M.alloc cs.toArray e (KA L)));simp only[A9,BL,Dp,CT,DQ,EP,EX,Ej,B3,BX,true_and,and_true,and_self,execOp,Anp,bn,A6 hT.get,b0,hz.get,C,if_false,h,h0.get,bp,W,hf,newRow,Xe];trivial
def ln{by_ J}[hT:Aw P T (.slice e)][hz:CG P e (AB.sz α)][hi:Ft P e by_][h0:Bh P e J](F:ev E x=some (.int ik (0:Nat)))(u:ev E y=some (.int jk c))(hb:c*by_≤140737488355328∧c<9223372036854775808):
  DT P B n ⟨d,.makeSlice T x y,ty,pos,af,g⟩ E D H (λv H'=>DI (α:=α) H [] v H'):=by
 intro a w O _ M K Q Z;obtain⟨W,h,rfl⟩:=hi.get;have X:IntKind.i64.wrap ((0:Nat):Int)=0:=rfl;have Y:IntKind.i64.wrap (c:Int)=c:=R4 hb.2;have C:¬(c:Int)<0:=by omega
 have S:¬(281474976710656:Int)<W.bytes*c:=by
  rw[←Amg,Al4];omega
 let zs:=(Ant (c*AB.sz α)).map λi=>J.cells[i%J.cells.size]!;have q:∃cs:Array Value,cs.size=c*AB.sz α∧(∀v∈cs.toList,live v=true)∧((execOp a.eval ⟨d,.makeSlice T x y,ty,pos,af,g⟩).run P w=.ok (.value (.slice (some ⟨w.heap.size,0,none⟩) 0 c)) (w.alloc (.cells cs e)))∧A9 B.heap.size P (execOp a.eval ⟨d,.makeSlice T x y,ty,pos,af,g⟩) w:=by
  by_cases G:c*AB.sz α=0
  ·refine⟨#[],by simp[G],by simp,?_,by simp only[A9,BL,Dp,CT,DQ,EP,EX,Ej,B3,BX,true_and,and_true,and_self,execOp,O.ev F,O.ev u,Anr,bn,A6 hT.get,b0,asInt,asIntOf,bp,h,X,Y,newRow];simp[C,S,G,hz.get]⟩;simp only[execOp,O.ev F,O.ev u,Anr,bn,A6 hT.get,b0,asInt,asIntOf,bp,h,X,Y,newRow];simp[C,S,G,hz.get];have:Array.map (λ_=>(default:Value)) (Ant 0)= #[]:=by simp
   rw[this]
  refine⟨zs,by simp[zs],Afz h0.live _,?_,by simp only[A9,BL,Dp,CT,DQ,EP,EX,Ej,B3,BX,true_and,and_true,and_self,execOp,O.ev F,O.ev u,Anr,bn,A6 hT.get,b0,asInt,asIntOf,bp,h,X,Y,newRow];simp[C,S,G,hz.get,h0.get]⟩;simp only[execOp,O.ev F,O.ev u,Anr,bn,A6 hT.get,b0,asInt,asIntOf,bp,h,X,Y,newRow];simp[C,S,G,h0.get,zs,hz.get]
 obtain⟨cs,N,L,q,U⟩:=q;refine Oper.Gg U q (Z _ _ _ ⟨some ⟨w.heap.size,0,none⟩,w.heap.size,0,c,cs.toList,I,⟨.inr I,bk _⟩,by simp[N],I⟩ ?_);have:=M.alloc cs e L;simpa[AC,AE]using this
def dw(s m):∀v∈(bytesRow s m).toList,live v=true:=by
 intro v S;simp only[bytesRow,Ak2,Ajs,Amd,j2,g9,List.mem_replicate]at S;rcases S with⟨_,_,rfl⟩|⟨_,rfl⟩<;>rfl
def Acw{e}{s:ByteArray}[hT:Aw P T .string][hT2:Aw P T' (.slice e)][hE:Aw P e (.int .u8)](F:ev E x=some (.string s)):
  DT P B n ⟨d,.convert T T' x,ty,pos,af,g⟩ E D H (λv H'=>DI H s.data.toList v H'):=by
 intro a w O _ M K Q Z;have q:(execOp a.eval ⟨d,.convert T T' x,ty,pos,af,g⟩).run P w=.ok (.value (.slice (some ⟨w.heap.size,0,none⟩) s.size (grownCap w s.size 0 e)))
   (w.drew.alloc (.cells (bytesRow s (grownCap w s.size 0 e)) e ((bytesRow s (grownCap w s.size 0 e)).size,(bytesRow s (grownCap w s.size 0 e)).size+1))):=by
  simp only[execOp,O.ev F,bn,run_bytes_of_string w T T' e s hT.get hT2.get hE.get,b0,bp]
 have Y:s.size≤grownCap w s.size 0 e:=by simp[grownCap,Aoe]
 have L:aa s.data.toList=s.size:=by rw[Ajk];rfl
 refine Oper.Gg ?_ q (Z _ _ _ ⟨some ⟨w.heap.size,0,none⟩,w.heap.size,0,grownCap w s.size 0 e,Ans (grownCap w s.size 0 e-s.size) (.int .u8 0),by rw[L],⟨.inr I,by rw[L];exact Y⟩,?_,I⟩ ?_)
 ·have u:B.heap.size≤w.heap.size:=M.1.size;have W:¬w.heap[w.heap.size]?=some dead:=by simp
  have G:(Anm s.size 0 e).forced=false:=rfl;have h:∀(o:Obj),Al B.heap.size (Ec w) P (markStringish ⟨w.heap.size,0,none⟩) (w.drew.alloc o):=λo=>by
   unfold markStringish;simp only[BL,xb];refine⟨⟨u,W⟩,?_⟩;show NK (.ok _ _) _;rw[BX];cases(w.drew.alloc o).shape? w.heap.size with
   |none=>trivial
   |some z=>simp only[ow];exact er _
  simp only[execOp,O.ev F,convert,Conv.stringToBytes,newRow];simp[A6 hT.get,A6 hT2.get,A6 hE.get,G];exact h _
 ·rw[L,s8,Q6];omega
 have:=(show Sat B H w.drew from M.IS).uL (bytesRow s (grownCap w s.size 0 e)) e (bytesRow s (grownCap w s.size 0 e)).size ((bytesRow s (grownCap w s.size 0 e)).size+1) (.inr (er _)) (dw s _);have C:(bytesRow s (grownCap w s.size 0 e)).toList=AE s.data.toList++Ans (grownCap w s.size 0 e-s.size) (.int .u8 0):=by
  simp only[bytesRow,Ak2,Ajs,Amd,AE];congr 1
  induction s.data.toList with
  |nil=>rfl
  |cons b l J=>simp only[hP,N2,J];rfl
 rw[C]at this;exact this
def KO{xs:List UInt8}[hT:Aw P T (.slice e)][hT2:Aw P T' .string][hE:Aw P e (.int .u8)](F:ev E x=some (.slice p (aa xs) c))(C:Sl p b o (aa xs) c)(hr:AZ B H b o xs):AY P B n ⟨d,.convert T T' x,ty,pos,af,g⟩ E H (.string (BR xs)):=by
 intro a w N X;have L:A9 B.heap.size P (convert T T' (.slice p (aa xs) c)) w:=by
  have S:∀(f:Value→ByteArray→Sem (ForInStep ByteArray)) (_:∀(n:Nat) (r:ByteArray),(f (.int .u8 n) r).run P w=.ok (.yield (r.push (UInt8.ofNat n))) w) (_:∀(n:Nat) r,A9 B.heap.size P (f (.int .u8 n) r) w) (l:List UInt8) (s:ByteArray),
    A9 B.heap.size P (forIn (AE l) s f) w:=by
   intro f V u l
   induction l with
   |nil=>intro s;trivial
   |cons n l Z=>
    intro s;simp only[AE,N2,aT,Ap,l0,Ao6,A9,BL,V,BX];exact⟨u n.toNat s,Z _⟩
  have Y:p=none∨(∃q,p=some q∧(loadCells q (aa xs)).run P w=.ok (AE xs).toArray w∧A9 B.heap.size P (loadCells q (aa xs)) w):=by
   cases p with
   |none=>exact .inl I
   |some q=>
    refine .inr ⟨q,I,?_⟩;obtain O|O:=C.1
    ·have J:xs=[]:=hU.1 (by have:=C.2;omega);subst J;exact⟨I,trivial⟩
    cases O;have U:=hr.run (P:=P) X;have M:=hr.Ez (P:=P) X B.heap.size (Ec w);simp only[Q6,s6]at U M;exact⟨U,M⟩
  simp only[convert,A9,BL,A6 hT.get,A6 hT2.get,A6 hE.get,BX,CT,true_and];obtain rfl|⟨q,rfl,U,M⟩:=Y
  ·trivial
  simp only[Conv.bytesToString,BL,U,M,BX,true_and,List.forIn_toArray];refine⟨S _ ?_ ?_ _ _,?_⟩
  ·intro n r;rfl
  ·intro n r;trivial
  cases(forIn (AE xs) ByteArray.empty _:Sem ByteArray).run P w<;>trivial
 suffices h:(execOp a.eval ⟨d,.convert T T' x,ty,pos,af,g⟩).run P w=.ok (.value (.string (BR xs))) w from⟨by simpa[execOp,N.ev F]using L,h⟩
 simp only[execOp,N.ev F,bn];obtain O|rfl:=C.1
 ·have J:xs=[]:=hU.1 (by have:=C.2;omega);subst J;cases p with
  |none=>
   rw[run_convert_bytes_string w T T' e none _ c hT.get hE.get hT2.get];rfl
  |some q=>
   rw[run_convert_bytes_back w T T' e q c [] hT.get hE.get hT2.get (λj W=>by simp at W)];rfl
 rw[run_convert_bytes_back w T T' e ⟨b,o,none⟩ c xs hT.get hE.get hT2.get (λj W=>?_)]
 ·rfl
 have:=hr.get j 0 (u8 xs[j]) (by simp[Ao0,c8 W]) W w X;simp only[Q6,s6,kv]at this;by_cases G:j=0
 ·subst G;simpa[eo]using this
 simpa[eo,G]using this
def yJ{sT xT bb oo dl dc cc pp}{ys:List α}[hT:Aw P sT (.slice e)][hz:CG P e (AB.sz α)](F:ev E x=some (.slice p dl dc))(C:Sl p b o dl dc)(G:ev E y=some (.slice pp (aa ys) cc))(Y:Sl pp bb oo (aa ys) cc)(hr:AZ B (AA b o l*R) bb oo ys)(hl:dl*AB.sz α≤aa l):
  DT P B n ⟨d,.call ⟨.builtin .copy,#[x,y],#[sT,xT]⟩,ty,pos,af,g⟩ E D (AA b o l*R)
   (λv H'=>v=.int .i64 (min (aa ys) dl:Nat)∧H'=AA b o (AE (ys.take (min (aa ys) dl))++l.drop (min (aa ys) dl*AB.sz α))*R):=by
 intro a w O _ M K Q hk;have W:Nat.min (aa ys) dl=min (aa ys) dl:=rfl;have L:aa (ys.take (min (aa ys) dl))=min (aa ys) dl:=by simp
 have N:AZ B (AA b o l*R) bb oo (ys.take (min (aa ys) dl)):=by
  have:=hr.sub 0 (min (aa ys) dl) (Ajw ..);simpa using this
 have hf:(ad (AB.sz α) (min (aa ys) dl) (.slice pp (aa ys) cc)).run P w=.ok (AE (ys.take (min (aa ys) dl))).toArray w:=by
  obtain Z|rfl:=Y.1
  ·have J:ys=[]:=hU.1 (by have:=Y.2;omega);subst J;cases pp<;>simp[ad,AE,loadCells,loadCellsFrom]
  simp only[ad];have:=N.run (P:=P) M;rwa[L]at this
 have X:A9 B.heap.size P (ad (AB.sz α) (min (aa ys) dl) (.slice pp (aa ys) cc)) w:=by
  obtain Z|rfl:=Y.1
  ·have J:ys=[]:=hU.1 (by have:=Y.2;omega);subst J;cases pp<;>simp[ad,loadCells,loadCellsFrom]
  simp only[ad];have:=N.Ez (P:=P) M B.heap.size (Ec w);rwa[L]at this
 have U:∃V,((match p with|some q=>storeCells q (AE (ys.take (min (aa ys) dl)))|none=>pure ()).run P w)=.ok () V∧
   Sat B (AA b o (AE (ys.take (min (aa ys) dl))++l.drop (min (aa ys) dl*AB.sz α))*R) V∧
   A9 B.heap.size P (match p with|some q=>storeCells q (AE (ys.take (min (aa ys) dl)))|none=>pure ()) w:=by
  obtain Z|rfl:=C.1
  ·have h:min (aa ys) dl=0:=by have:=C.2;omega
   rw[h];refine⟨w,?_,by simpa[AE]using M,?_⟩<;>cases p<;>simp[AE,storeCells]
  have hcm:=ta (AB.sz α) (Ale (aa ys) dl);obtain⟨V,k1,S,k3⟩:=Sat.ME (P:=P) (AE (ys.take (min (aa ys) dl))) o 0 l R w (by rw[CV,L];omega) (Lr _) M;rw[CV,L]at S;exact⟨V,k1,S,k3 _ _⟩
 obtain⟨V,k1,S,k3⟩:=U;have u:(execOp a.eval ⟨d,.call ⟨.builtin .copy,#[x,y],#[sT,xT]⟩,ty,pos,af,g⟩).run P w=.ok (.value (.int .i64 (min (aa ys) dl:Nat))) V:=by
  simp only[execOp,resolve,hI,hP,oq,O.ev F,O.ev G,bn,bp,b0,invoke,builtin];simp only[Aoa];simp[A6 hT.get,Anv,W,hz.get,hf];cases p<;>simp_all[goInt]
 refine Oper.Gg ?_ u (hk _ _ _ ⟨I,I⟩ S);simp only[execOp,resolve,hI,hP,oq,O.ev F,O.ev G,invoke,builtin];simp only[Aoa];simp[A6 hT.get,Anv,W,hz.get,hf,X];cases p<;>simp_all[goInt]
def pD{s t}(F:ev E x=some (.string s))(G:ev E y=some (.string t)):
  AY P B n ⟨d,.binOp .eql T x y T',ty,pos,af,g⟩ E H (.bool (decide (s=t))):=by
 intro a w N _;simp only[execOp,N.ev F,N.ev G,bn,binOp_string_eql,uC];exact⟨trivial,I⟩
def WH{s t}(F:ev E x=some (.string s))(G:ev E y=some (.string t)):
  AY P B n ⟨d,.binOp .neq T x y T',ty,pos,af,g⟩ E H (.bool (decide (s≠t))):=by
 intro a w N _;simp only[execOp,N.ev F,N.ev G,bn,binOp_string_neq,uC];have:(!decide (s=t))=decide (s≠t):=by simp
 rw[this];exact⟨trivial,I⟩
end
end
section
abbrev u64(x:UInt64):Value:=.int .u64 (x.toNat:Nat)
@[reducible] instance:AB UInt64:=⟨1,λb=>[u64 b],0,λ_=>rfl,λ_ v h=>by rw[g5.1 h];rfl⟩
def OZ(j)(h:j<64):(sy j).toNat%64=j:=by
 rw[Alq];omega
section
variable{P:Program}{B:World}{n:Nat}{E:A8}{H:HP}{d:Option Tmp}{T T' ty:TypeId}{pos:String}{af:Array Edge}{g:Option (Nat×Bool)}{x y:Operand}
def qp{a b:UInt64}(F:ev E x=some (u64 a))(G:ev E y=some (u64 b)):AY P B n ⟨d,.binOp .add T x y T',ty,pos,af,g⟩ E H (u64 (a+b)):=by
 have:=Acp (P:=P) (B:=B) (n:=n) (H:=H) (d:=d) (T:=T) (T':=T') (ty:=ty) (pos:=pos) (af:=af) (g:=g) F G;rw[show u64 (a+b)=.int .u64 ((a.toNat+b.toNat)%18446744073709551616:Nat) by rw[u64,Alf]];exact this
def Zc{a b:UInt64}(F:ev E x=some (u64 a))(G:ev E y=some (u64 b)):AY P B n ⟨d,.binOp .mul T x y T',ty,pos,af,g⟩ E H (u64 (a*b)):=by
 have:=tO (P:=P) (B:=B) (n:=n) (H:=H) (d:=d) (T:=T) (T':=T') (ty:=ty) (pos:=pos) (af:=af) (g:=g) F G;rw[show u64 (a*b)=.int .u64 ((a.toNat*b.toNat)%18446744073709551616:Nat) by rw[u64,Alg]];exact this
def Mv{a b:UInt64}(F:ev E x=some (u64 a))(G:ev E y=some (u64 b)):AY P B n ⟨d,.binOp .xor T x y T',ty,pos,af,g⟩ E H (u64 (a ^^^b)):=by
 have:=fu (P:=P) (B:=B) (n:=n) (H:=H) (d:=d) (T:=T) (T':=T') (ty:=ty) (pos:=pos) (af:=af) (g:=g) F G ⟨a.toNat_lt,b.toNat_lt⟩;rw[show u64 (a ^^^b)=.int .u64 (a.toNat ^^^b.toNat:Nat) by rw[u64,UInt64.toNat_xor]];exact this
def Ye{a b:UInt64}(F:ev E x=some (u64 a))(G:ev E y=some (u64 b)):AY P B n ⟨d,.binOp .or T x y T',ty,pos,af,g⟩ E H (u64 (a|||b)):=by
 have:=fJ (P:=P) (B:=B) (n:=n) (H:=H) (d:=d) (T:=T) (T':=T') (ty:=ty) (pos:=pos) (af:=af) (g:=g) F G ⟨a.toNat_lt,b.toNat_lt⟩;rw[show u64 (a|||b)=.int .u64 (a.toNat|||b.toNat:Nat) by rw[u64,Akq]];exact this
def XB{a:UInt64}{k:IntKind}(F:ev E x=some (u64 a))(G:ev E y=some (.int k j))(h:j<64):
  AY P B n ⟨d,.binOp .shl T x y T',ty,pos,af,g⟩ E H (u64 (a<<< sy j)):=by
 have:=Tt (P:=P) (B:=B) (n:=n) (H:=H) (d:=d) (T:=T) (T':=T') (ty:=ty) (pos:=pos) (af:=af) (g:=g) F G (by omega);rw[show u64 (a<<< sy j)=.int .u64 (a.toNat*2^j%18446744073709551616:Nat) by
  rw[u64,Ajm,OZ j h,Akf]];exact this
def Kr{a:UInt64}{k:IntKind}(F:ev E x=some (u64 a))(G:ev E y=some (.int k j))(h:j<64):
  AY P B n ⟨d,.binOp .shr T x y T',ty,pos,af,g⟩ E H (u64 (a>>> sy j)):=by
 have:=L7 (P:=P) (B:=B) (n:=n) (H:=H) (d:=d) (T:=T) (T':=T') (ty:=ty) (pos:=pos) (af:=af) (g:=g) F G (by omega);rw[show u64 (a>>> sy j)=.int .u64 (a.toNat/2^j:Nat) by
  rw[u64,Ak4,OZ j h,Ajv]];exact this
def eZ{a b:UInt8}(F:ev E x=some (u8 a))(G:ev E y=some (u8 b)):AY P B n ⟨d,.binOp .xor T x y T',ty,pos,af,g⟩ E H (u8 (a ^^^b)):=by
 have:=sj (P:=P) (B:=B) (n:=n) (H:=H) (d:=d) (T:=T) (T':=T') (ty:=ty) (pos:=pos) (af:=af) (g:=g) F G ⟨a.toNat_lt,b.toNat_lt⟩;rw[show u8 (a ^^^b)=.int .u8 (a.toNat ^^^b.toNat:Nat) by rw[u8,UInt8.toNat_xor]];exact this
def TB{a:UInt8}[h1:Aw P T (.int .u8)][h2:Aw P T' (.int .u64)](F:ev E x=some (u8 a)):AY P B n ⟨d,.convert T T' x,ty,pos,af,g⟩ E H (u64 a.toUInt64):=by
 have:=IF (P:=P) (B:=B) (n:=n) (H:=H) (d:=d) (T:=T) (T':=T') (ty:=ty) (pos:=pos) (af:=af) (g:=g) F (Ia (by have:=a.toNat_lt;omega));rw[show u64 a.toUInt64=.int .u64 (a.toNat:Nat) by rw[u64,Ajz]];exact this
def u1{a:UInt64}[h1:Aw P T (.int .u64)][h2:Aw P T' (.int .u8)](F:ev E x=some (u64 a)):AY P B n ⟨d,.convert T T' x,ty,pos,af,g⟩ E H (u8 a.toUInt8):=by
 have:=Tw (P:=P) (B:=B) (n:=n) (H:=H) (d:=d) (T:=T) (T':=T') (ty:=ty) (pos:=pos) (af:=af) (g:=g) F;rw[show u8 a.toUInt8=.int .u8 (a.toNat%256:Nat) by rw[u8,All]];exact this
def Aa3[h1:Aw P T (.int .i64)][h2:Aw P T' (.int .u8)](F:ev E x=some (.int .i64 i)):AY P B n ⟨d,.convert T T' x,ty,pos,af,g⟩ E H (u8 (UInt8.ofNat i)):=by
 have:=Tw (P:=P) (B:=B) (n:=n) (H:=H) (d:=d) (T:=T) (T':=T') (ty:=ty) (pos:=pos) (af:=af) (g:=g) F;rw[show u8 (UInt8.ofNat i)=.int .u8 (i%256:Nat) by rw[u8,Ak5]];exact this
end
def LM(x:UInt64)(k:Nat):UInt64:=(x<<< sy k)|||(x>>> sy (64-k))
structure S4 where
 a:UInt64
 b:UInt64
 c:UInt64
 d:UInt64
@[reducible] def s4(v:S4):List Value:=[u64 v.a,u64 v.b,u64 v.c,u64 v.d]
def UW(v:S4):S4:=
 let a:=v.a+v.b
 let b:=LM v.b 13 ^^^a;let a:=LM a 32;let c:=v.c+v.d;let d:=LM v.d 16 ^^^c;let a:=a+d;let d:=LM d 21 ^^^a;let c:=c+b;let b:=LM b 17 ^^^c
 ⟨a,b,LM c 32,d⟩
def KQ:Nat→S4→S4
 |0,v=>v
 |n+1,v=>KQ n (UW v)
def rB(n v):KQ (n+1) v=UW (KQ n v):=by
 induction n generalizing v with
 |zero=>rfl
 |succ n Z=>rw[KQ,Z];rfl
end
section
abbrev ptr(b o:Nat):Value:=.pointer (some ⟨b,o,none⟩)
abbrev iN(n:Nat):Value:=.int .i64 (n:Nat)
class GM(P:Program)(t:TypeId)(pl:outParam (Array (Nat×Nat))):Prop where
 get:∃fs,P.underlying t=some (.struct fs)∧∀w,(fs.mapM λf=>do pure (f.offset,←sizeOf f.type):Sem (Array (Nat×Nat))).run P w=.ok pl w
instance{α:Type}[AB α](B:World)(b o:Nat)(xs:List α):AZ B (AA b o (AE xs)) b o xs:=
 ⟨λi f v h M w X=>(AH:AZ B (AC b o xs []) b o xs).get i f v h M w (by unfold AC;rw[g8];exact X)⟩
theorem AZ.L8[AB α](h:AZ B H b o xs)(l):AZ B H b (o+l*AB.sz α) (xs.drop l):=by
 have:=h.sub l (aa xs) (er _);rwa[pq]at this
instance(B:World)(H:HP)(b o l:Nat)(xs:List UInt8)[h:AZ B H b o xs]:AZ B H b (o+l*1) (xs.drop l):=h.L8 l
theorem AZ.Add{xs:List UInt8}(h:AZ B H b o xs)(l):AZ B H b (o+l) (xs.drop l):=by
 have:AZ B H b (o+l*1) (xs.drop l):=AH;rwa[s6]at this
instance{α:Type}[AB α](B:World)(H:HP)(b o l:Nat)(xs:List α)[h:AZ B H b o xs]:AZ B H b o (xs.take l):=by
 obtain O|O:=ff (aa xs) l
 ·rw[Ajb (by omega)];exact h
 have:=h.sub 0 l O;simpa using this
def nW:∀(xs:List UInt8) (i:Nat) (v:UInt8),AE (xs.set i v)=(AE xs).set i (u8 v)
 |[],_,_=>rfl
 |x::xs,0,v=>rfl
 |x::xs,i+1,v=>by
  have:=nW xs i v;simp only[Anw];simp only[AE,N2,aT,Al9,Anw]at*;rw[this]
instance(b o i:Nat)(xs:List UInt8)(s:List Value)(v:UInt8):D8 (AC b o xs s) b (o+i*1) (u8 v) (AC b o (xs.set i v) s) (i<aa xs):=
 ⟨λr Y M=>by
  have F:aa (AE xs)=aa xs:=by rw[CV];simp
  have h:OH (AE xs++s) i (u8 v) ((AE xs++s).set i (u8 v)):=⟨by rw[a5];omega,I⟩
  have U:=(AH:D8 (AA b o (AE xs++s)) b (o+i) (u8 v) (AA b o ((AE xs++s).set i (u8 v))) True).upd r Y trivial;rw[s6];refine⟨U.1,?_⟩;have e:AE (xs.set i v)++s=(AE xs++s).set i (u8 v):=by rw[nW,Amn _ _ (by omega)]
  unfold AC;rw[e];exact U.2⟩
section
variable{P:Program}{B:World}{n:Nat}{E:A8}{D:CW}{H:HP}{d:Option Tmp}{T T' ty:TypeId}{pos:String}{af:Array Edge}{g:Option (Nat×Bool)}{x y z:Operand}
def gx{q:Type}{D}{f:α→Sem q}(h:∀x w,Al m D P (f x) w)(l:List α):∀w,Al m D P (l.mapM f) w:=by
 induction l with
 |nil=>intro w;trivial
 |cons x l Z=>
  intro w;rw[Amo,BL];refine⟨h x w,?_⟩;cases(f x).run P w with
  |halt e w=>trivial
  |ok y v=>
   rw[BX,BL];refine⟨Z v,?_⟩;cases(Anz f l).run P v<;>trivial
def Aal{q:Type}{D}{f:α→Sem q}(h:∀x w,Al m D P (f x) w)(l:Array α)(w):Al m D P (l.mapM f) w:=by
 cases l with
 |mk l=>rw[Aly,Dp];exact gx h l w
def uZ{D}(fs:Array Field)(w):Al m D P (fs.mapM λf=>do pure (f.offset,←sizeOf f.type)) w:=by
 refine Aal (λx w=>?_) fs w;simp only[BL,DQ,true_and];cases(sizeOf x.type).run P w<;>trivial
def nv{z:Value}{vs:List (Nat×Value)}[hT:GM P T pl][hz:Bh P T z](F:MD E ps=some vs)(hf:v5 (pl[·]?) z.cells vs=some cs.toArray):AY P B n ⟨d,.build T ps.toArray,ty,pos,af,g⟩ E H (.agg cs.toArray):=by
 intro a w N _;obtain⟨X,O,U⟩:=hT.get;have W:(ps.toArray.map λ(i,x)=>(i,a.eval x)).toList=vs:=by rw[hI];exact Wq N F
 simp only[A9,BL,Dp,CT,DQ,EP,EX,Ej,B3,BX,true_and,and_true,and_self,execOp,Ao3,bn,hz.get,b0,A6 O,U,W,hf,bp];exact uZ X w
def yL{f:Go.Fn}{xs ys:List Operand}{us:List Value}(h1:Dw E xs=some us)(h2:Dw E ys=some vs):
  AY P B n ⟨d,.makeFunc f xs.toArray ys.toArray,ty,pos,af,g⟩ E H (.func f us.toArray vs.toArray):=by
 intro a w N _;simp only[execOp,Instr.makeFunc,hI,Fy N h1,Fy N h2];exact⟨trivial,I⟩
def Ty[hT:Aw P T (.array len e)][hz:CG P e sz](F:ev E x=some (.pointer (some ⟨b,o,none⟩)))(h:k=len):
  AY P B n ⟨d,.slice T x none none none,ty,pos,af,g⟩ E H (.slice (some ⟨b,o,none⟩) k len):=by subst h;exact Ag7 F
def Aff{l:Nat}[hT:Aw P T (.array len e)][hz:CG P e sz](F:ev E x=some (.pointer (some ⟨b,o,none⟩)))(G:ev E y=some (.int ik l))(h:l≤len)(Z:k=len-l):
  AY P B n ⟨d,.slice T x (some y) none none,ty,pos,af,g⟩ E H (.slice (sp (some ⟨b,o,none⟩) len l sz) k (len-l)):=by subst Z;exact qE F G h
def SI{k' l:Nat}{e:TypeId}[hT:Aw P T (.slice e)][hz:CG P e sz](F:ev E x=some (.slice p k c))(G:ev E y=some (.int ik l))
  (h:l≤k)(Z:k'=k-l):AY P B n ⟨d,.slice T x (some y) none none,ty,pos,af,g⟩ E H (.slice (sp p c l sz) k' (c-l)):=by subst Z;exact Lh F G h
def Rb{k' h:Nat}{e:TypeId}[hT:Aw P T (.slice e)][hz:CG P e sz](F:ev E x=some (.slice p k c))(G:ev E y=some (.int ik h))
  (W:h≤c)(Z:k'=h):AY P B n ⟨d,.slice T x none (some y) none,ty,pos,af,g⟩ E H (.slice p k' c):=by subst Z;exact Uo F G W
def Oe{k' l h:Nat}{e:TypeId}[hT:Aw P T (.slice e)][hz:CG P e sz](F:ev E x=some (.slice p k c))(G:ev E y=some (.int ik l))(C:ev E z=some (.int jk h))
  (W:l≤h∧h≤c)(Z:k'=h-l):AY P B n ⟨d,.slice T x (some y) (some z) none,ty,pos,af,g⟩ E H (.slice (sp p c l sz) k' (c-l)):=by subst Z;exact QH F G C W
def q_(H')(hr:fn.results=(ts.map kl).toArray)(S:Dw E (ts.map Operand.tmp)=some vs)[hE:CM B H H'](J:Post (FH vs) H'):BZ B (Ju P B fn Post) .ret n E ⟨[],r⟩ H:=
 λ_ w O U M=>⟨U,K8 (R:=RP B Post) hr O S M λv C=>⟨_,_,I,J,hE.get v C⟩⟩
def Nd(H')(hr:fn.results=(ts.map kl).toArray)(S:Dw E (ts.map Operand.tmp)=some vs)[hE:CM B H H'](J:Post (FH vs) H'):BZ B (Ju P B fn Post) .normal n E ⟨[],r⟩ H:=
 λ_ w O U M=>⟨U,K8 (R:=RP B Post) hr O S M λv C=>⟨_,_,I,J,hE.get v C⟩⟩
def I4{c}(H')[hE:CM B H H'](h:WP P B c Q n E D H'):WP P B c Q n E D H:=λa w O U M=>h a w O U (hE.get w M)
def pF{ops l}(H')[hE:CM B H H'](h:WL P B ops Q l n E D H'):WL P B ops Q l n E D H:=λa w O U M=>h a w O U (hE.get w M)
def Bg{e}(H')[hE:CM B H H'](h:BZ B Q e n E D H'):BZ B Q e n E D H:=λa w O U M=>h a w O U (hE.get w M)
def GE{e}(N:H=H')(h:BZ B Q e n E D H'):BZ B Q e n E D H:=N▸h
end
def Fn.drop{A C:Value→HP→Prop}(h:Fn P B f args H A)(W:∀v H',A v H'→∃Y,C v Y∧∀w,Sat B H' w→Sat B Y w):Fn P B f args H C:=
 λw X=>(h w X).mono λ_ _ ⟨v,H',e,a,s⟩=>let⟨Y,c,i⟩:=W v H' a;⟨v,Y,e,c,i _ s⟩
def Fn.pre{A:Value→HP→Prop}(e:H=H')(h:Fn P B f args H' A):Fn P B f args H A:=e▸h
end
section
def KV:List (Nat×Operand)→Nat→Option Operand
 |[],_=>none
 |(i,x)::r,k=>bif Q1 i k then some x else KV r k
def Ks(E:A8)(ps:List (Nat×Operand)):Nat→List Value→Option (List Value)
 |_,[]=>some []
 |k,z::zs=>match KV ps k with
  |some x=>match ev E x with
   |some v=>match Ks E ps (k+1) zs with
    |some r=>some (v::r)
    |none=>none
   |none=>none
  |none=>match Ks E ps (k+1) zs with
   |some r=>some (z::r)
   |none=>none
def tT{E}:∀{zs:List Value} {k:Nat} {cs:List Value},Ks E ps k zs=some cs→aa cs=aa zs∧∀j,j<aa zs→
  match KV ps (k+j)with
  |some x=>∃v,ev E x=some v∧cs[j]?=some v
  |none=>cs[j]?=zs[j]?
 |[],k,cs,h=>by simp only[Ks,Anq.injEq]at h;subst h;exact⟨I,λj W=>by simp at W⟩
 |z::zs,k,cs,h=>by
  simp only[Ks]at h;cases Y:Ks E ps (k+1) zs with
  |none=>simp only[Y]at h;split at h<;>first|(split at h<;>cases h)|cases h
  |some r=>
   obtain⟨O,U⟩:=tT Y;simp only[Y]at h;cases V:KV ps k with
   |none=>
    simp only[V,Anq.injEq]at h;subst h;refine⟨by simp[O],λj W=>?_⟩;cases j with
    |zero=>simp[V]
    |succ j=>
     have:=U j (by simpa using W);rw[show k+1+j=k+(j+1) by omega]at this;simpa using this
   |some x=>
    simp only[V]at h;cases F:ev E x with
    |none=>simp[F]at h
    |some v=>
     simp only[F,Anq.injEq]at h;subst h;refine⟨by simp[O],λj W=>?_⟩;cases j with
     |zero=>simp only[kv,V];exact⟨v,F,I⟩
     |succ j=>
      have:=U j (by simpa using W);rw[show k+1+j=k+(j+1) by omega]at this;simpa using this
def lR(L:Nat→Option (Nat×Nat)):∀(vs:List (Nat×Value)) (u:Array Value),(∀p∈vs,L p.1=some (p.1,1)∧p.1<u.size∧p.2.oneCell'=true)→
  v5 L u vs=some (vs.foldl (λcs p=>cs.setIfInBounds p.1 p.2) u)
 |[],_,_=>rfl
 |(i,v)::vs,u,h=>by
  obtain⟨O,U,M⟩:=h (i,v) (by simp)
  have W:v.cells= #[v]:=by cases v<;>first|rfl|cases M
  simp only at O U;simp only[v5,O,W];rw[AF (by simp;omega)]
  have e:(#[v].zipIdx.foldl (λcs (c,j)=>cs.setIfInBounds (i+j) c) u)=u.setIfInBounds i v:=by simp
  rw[e,lR L vs _ (λp J=>by
   obtain⟨a,b,c⟩:=h p (by simp[J])
   exact⟨a,by simpa using b,c⟩)]
  rfl
def Af9(vs:List (Nat×Value)):∀(u:Array Value) (k:Nat),(vs.map py).Nodup→(vs.foldl (λcs p=>cs.setIfInBounds p.1 p.2) u)[k]?=
  match vs.find? (λp=>p.1==k)with
  |some p=>if k<u.size then some p.2 else none
  |none=>u[k]?:=by
 induction vs with
 |nil=>intro u k _;rfl
 |cons p vs C=>
  intro u k G;simp only[hP,Ao7]at G;simp only[n'];rw[C _ k G.2];by_cases Z:p.1=k
  ·have X:vs.find? (λq=>q.1==k)=none:=by
    rw[List.find?_eq_none];intro q N h;exact G.1 (by rw[Z];simp at h;rw[←h];exact Alr N)
   simp[X,Z,Aj3]
  have:(p.1==k)=false:=by simp[Z]
  simp only[Ao8,this];cases vs.find? (λq=>q.1==k)with
  |none=>simp[s5 Z]
  |some q=>simp
def Xd{E}(N:DZ n E a)(L:Nat→Option (Nat×Nat))(h:Ks E ps 0 zs=some cs)(G:(ps.map py).Nodup)(hb:∀i∈ps.map py,i<aa zs)(J:∀i,i<aa zs→L i=some (i,1))(ho:∀v∈cs,v.oneCell'=true):
  v5 L zs.toArray (ps.map λ(i,x)=>(i,a.eval x))=some cs.toArray:=by
 obtain⟨hl,S⟩:=tT h;have u:∀(ps:List (Nat×Operand)) (k:Nat),(ps.map λ(i,x)=>(i,a.eval x)).find? (λp=>p.1==k)=(KV ps k).map λx=>(k,a.eval x):=by
  intro ps k
  induction ps with
  |nil=>rfl
  |cons q r ih=>
   obtain⟨i,x⟩:=q;simp only[hP,Ao8,KV];cases hb:Q1 i k with
   |true=>obtain rfl:=Aju hb;simp
   |false=>
    have:(i==k)=false:=by rw[beq_eq_false_iff_ne];intro h;subst h;simp at hb
    simp only[this,cond_false];exact ih
 have X:(ps.map λ(i,x)=>(i,a.eval x)).map py=ps.map py:=by rw[Al1];rfl
 have F:∀(ps:List (Nat×Operand)) (i:Nat) (x:Operand),(ps.map py).Nodup→(i,x)∈ps→KV ps i=some x:=by
  intro ps i x G W
  induction ps with
  |nil=>simp at W
  |cons q r ih=>
   obtain⟨j,y⟩:=q;simp only[hP,Ao7]at G;obtain O|O:=j1.1 W
   ·cases O;simp[KV]
   have Y:Q1 j i=false:=by
    cases hb:Q1 j i with
    |false=>rfl
    |true=>
     obtain rfl:=Aju hb;exact absurd (Alr (f:=py) O) G.1
   simp only[KV,Y,cond_false];exact ih G.2 O
 rw[lR L]
 ·congr 1;apply Aj6;intro k;rw[Af9 _ _ _ (by rw[X];exact G),u];obtain Z|Z:=ff k (aa zs)
  ·have:=S k Z;rw[Pl]at this;cases V:KV ps k with
   |none=>rw[V]at this;simpa using this.symm
   |some x=>
    rw[V]at this;obtain⟨v,O,U⟩:=this;simp[Z,N.ev O,U]
  have O:cs.toArray[k]?=none:=by simp;omega
  rw[O];cases V:KV ps k with
  |none=>simpa using Z
  |some x=>simp;omega
 intro p C;obtain⟨⟨i,x⟩,W,rfl⟩:=g9.1 C;have M:=hb i (Alr (f:=py) W);refine⟨J i M,by simpa using M,?_⟩;have:=S i M;rw[Pl,F ps i x G W]at this;obtain⟨v,O,U⟩:=this;simp only[N.ev O];exact ho v (Akb U)
def P8(ps:List (Nat×Operand))(m:Nat):Bool:=decide ((ps.map py).Nodup)&&ps.all λp=>hB p.1 m
def U5(h:P8 ps m=true):(ps.map py).Nodup∧∀i∈ps.map py,i<m:=by
 simp only[P8,Ajr,decide_eq_true_eq,Ajq]at h;refine⟨h.1,λi M=>?_⟩;obtain⟨p,J,rfl⟩:=g9.1 M;simpa using h.2 p J
section
variable{P:Program}{B:World}{n:Nat}{E:A8}{D:CW}{H:HP}{d:Option Tmp}{T T' ty:TypeId}{pos:String}{af:Array Edge}{g:Option (Nat×Bool)}{x y z:Operand}
def br[hT:Aw P T (.array len e)][C:CG P e 1][hz:Bh P T (.agg zs.toArray)](F:Ks E ps 0 zs=some cs)(hi:P8 ps (aa zs)=true)(h:∀v∈cs,v.oneCell'=true):AY P B n ⟨d,.build T ps.toArray,ty,pos,af,g⟩ E H (.agg cs.toArray):=by
 intro a w N _;obtain⟨O,U⟩:=U5 hi;have V:=Xd N (λi=>some (i*1,1)) F O U (λi _=>by rw[s6]) h;simp only[A9,BL,Dp,CT,DQ,EP,EX,Ej,B3,BX,true_and,and_true,and_self,execOp,Ao3,bn,hz.get,b0,A6 hT.get,C.get,hI,Value.cells,V,bp]
def FW[hT:GM P T pl][hz:Bh P T (.agg zs.toArray)](F:Ks E ps 0 zs=some cs)(hi:P8 ps (aa zs)=true)(J:pl=((Ao9 (aa zs)).map λi=>(i,1)).toArray)(h:∀v∈cs,v.oneCell'=true):
  AY P B n ⟨d,.build T ps.toArray,ty,pos,af,g⟩ E H (.agg cs.toArray):=by
 intro a w N _;obtain⟨X,q,u⟩:=hT.get;obtain⟨O,U⟩:=U5 hi;have V:=Xd N (pl[·]?) F O U (λi hi=>by subst J;simp[hi]) h;simp only[A9,BL,Dp,CT,DQ,EP,EX,Ej,B3,BX,true_and,and_true,and_self,execOp,Ao3,bn,hz.get,b0,A6 q,u,hI,Value.cells,V,bp];exact uZ X w
def Ady{G:Value}[hT:Aw P T (.slice e)][hz:CG P e 1][h0:Bh P e G](F:Ks E ps 0 (Ans len G)=some cs)(hi:P8 ps len=true)(U:∀v∈cs,v.oneCell'=true)(N:G.cells= #[G])(hb:Aoc len 16777216=true)(J:hB 0 len=true)(L:cs.all live=true:=by first|rfl|exact Kx _|simp[live,Kx]):
  DT P B n ⟨d,.buildSlice T len ps.toArray,ty,pos,af,g⟩ E D H (λv H'=>∃b,v=.slice (some ⟨b,0,none⟩) len len∧H'=HP.AA b 0 cs*H):=by
 intro a w O _ M K Q Z;have C:¬len*1> 2^24:=by have:=Alb hb;omega
 have S:¬len*1=0:=by
  have:0<len:=by simpa using J
  omega
 obtain⟨W,X⟩:=U5 hi;have u:((Ant (len*1)).map λi=>G.cells[i%G.cells.size]!)=(Ans len G).toArray:=by
  rw[N,s6];apply Aj6;intro i;obtain h|h:=ff i len
  ·simp[h,Nat.mod_one]
  simp[h]
 have V:=Xd O (λi=>some (i*1,1)) F W (by simpa using X) (λi _=>by rw[s6]) U;have q:(execOp a.eval ⟨d,.buildSlice T len ps.toArray,ty,pos,af,g⟩).run P w=.ok (.value (.slice (some ⟨w.heap.size,0,none⟩) len len)) (w.alloc (.cells cs.toArray e)):=by
  simp only[execOp,Anp,bn,A6 hT.get,b0,hz.get,C,if_false,S,h0.get,bp,hI,u,V,newRow];rfl
 refine Oper.Gg ?_ q (Z _ _ _ ⟨w.heap.size,I,I⟩ (M.alloc cs.toArray e (KA L)));simp only[A9,BL,Dp,CT,DQ,EP,EX,Ej,B3,BX,true_and,and_true,and_self,execOp,Anp,bn,A6 hT.get,b0,hz.get,C,if_false,S,h0.get,bp,hI,u,V,newRow,Xe];trivial
end
end
section
def Ael{V y}(h:V≠b):(w.putObj b y).cell? ⟨V,i,none⟩=w.cell? ⟨V,i,none⟩:=by
 simp[World.cell?,World.putObj_heap_other h]
def Ac7{V y}(h:V≠b):(w.putObj b y).frozen? ⟨V,i,none⟩=w.frozen? ⟨V,i,none⟩:=by
 simp[World.frozen?,World.putObj_heap_other h]
def Sat.Lp{x}(h:Sat B (HP.obj b x*R) w)(F:∀c t f,x≠ .cells c t f:=by first|simp|simp[rec_]):w.heap[b]?=some x∧B.heap.size≤b∧∀c t f,x≠ .cells c t f:=by
 obtain⟨_,r,Y,J⟩:=h.left;obtain rfl:r=_:=Y;exact⟨(Mb F).1 (J.obj b x (by simp)),J.GC b x (by simp),F⟩
def Sat.NL{x y}(h:Sat B (HP.obj b x*R) w)(G:∀c t f,y≠ .cells c t f)(N:∀c t f,x≠ .cells c t f:=by first|simp|simp[rec_]):Sat B (HP.obj b y*R) (w.putObj b y):=by
 obtain⟨F,q,S⟩:=h.Lp N;have L:b<w.heap.size:=(HX.1 F).1;obtain⟨O,r,⟨C,U,hd,rfl,e1,M⟩,J⟩:=h;obtain rfl:C=_:=e1;have W:U.o b=none:=(hd.2 b).resolve_left (by simp);have Y:∀V i v,U.c V i=some v→V≠b:=λV i v e X=>by
  subst X;have:=J.cell V i v (by simp[Ai.un,e]);unfold World.cell? at this;rw[F]at this;cases x<;>first|cases this|exact absurd rfl (S _ _ _)
 have u:∀k,k≠b→(w.putObj b y).heap[k]?=w.heap[k]?:=λk Z=>World.putObj_heap_other Z;refine⟨⟨O.os,O.tape,O.output,by simpa using O.size,λk Z=>(u k (by omega)).trans (O.block k Z)⟩,_,⟨_,U,⟨λ_ _=>.inl I,λV=>?_⟩,I,I,M⟩,?_⟩
 ·by_cases h:V=b
  ·subst h;exact .inr W
  exact .inl (by simp[h])
 refine⟨λV i v e=>?_,λV i v e=>?_,λV z e=>?_,λV i v e=>?_,λV i v e=>?_,λV z e=>?_⟩
 ·simp only[Ai.un,D1]at e;rw[Ael (Y V i v e)];exact J.cell V i v (by simp[Ai.un,e])
 ·simp only[Ai.un,D1]at e;rw[Ac7 (Y V i v e)];exact J.free V i v (by simp[Ai.un,e])
 ·simp only[Ai.un]at e;by_cases h:V=b
  ·subst h;simp at e;subst e;exact(Mb G).2 (World.putObj_heap_same L)
  simp[h]at e;exact(J.obj V z (by simp[Ai.un,h,e])).same (u V h)
 ·simp only[Ai.un,D1]at e;exact J.live V i v (by simp[Ai.un,e])
 ·simp only[Ai.un,D1]at e;exact J.FV V i v (by simp[Ai.un,e])
 simp only[Ai.un]at e;by_cases h:V=b
 ·subst h;exact q
 simp[h]at e;exact J.GC V z (by simp[Ai.un,h,e])
def Sat.eX(hw:Sat B H w)(y)(G:∀c t f,y≠ .cells c t f):Sat B (HP.obj w.heap.size y*H) (w.alloc y):=by
 obtain⟨O,r,Y,J⟩:=hw;have L:∀b i v,r.c b i=some v→b<w.heap.size:=λb i v e=>by
  have:=J.cell b i v e;unfold World.cell? at this;cases h:w.heap[b]? with
  |none=>rw[h]at this;cases this
  |some o=>exact(HX.1 h).1
 have C:∀b z,r.o b=some z→b<w.heap.size:=λb z e=>(J.obj b z e).lt;have U:∀k,k<w.heap.size→(w.alloc y).heap[k]?=w.heap[k]?:=λk Z=>by
  show(w.heap.push y)[k]?=_;rw[Pj Z,←mi]
 refine⟨⟨O.os,O.tape,O.output,by have:=O.size;simp only[World.Yi];omega,λk Z=>(U k (by have:=O.size;omega)).trans (O.block k Z)⟩,_,⟨_,r,⟨λ_ _=>.inl I,λb=>?_⟩,I,I,Y⟩,?_⟩
 ·cases h:r.o b with
  |none=>exact .inr I
  |some z=>exact .inl (by have:=C b z h;simp;omega)
 refine⟨λb i v e=>?_,λb i v e=>?_,λb z e=>?_,λb i v e=>?_,λb i v e=>?_,λb z e=>?_⟩
 ·simp only[Ai.un,D1]at e;have:=J.cell b i v e;unfold World.cell? at this⊢;rw[U b (L b i v e)];exact this
 ·simp only[Ai.un,D1]at e;have:=J.free b i v e;unfold World.frozen? at this⊢;rw[U b (L b i v e)];exact this
 ·simp only[Ai.un]at e;by_cases h:b=w.heap.size
  ·subst h;simp at e;subst e;exact(Mb G).2 (World.alloc_heap_new _ _)
  simp[h]at e;exact(J.obj b z e).same (U b (C b z e))
 ·simp only[Ai.un,D1]at e;exact J.live b i v e
 ·simp only[Ai.un,D1]at e;exact J.FV b i v e
 simp only[Ai.un]at e;by_cases h:b=w.heap.size
 ·subst h;exact O.size
 simp[h]at e;exact J.GC b z e
def Yn(P:Program)(B:World)(l:Nat)(args:List Value)(H:HP)(Post:Value→HP→Prop):Prop:=
 ∀w,Sat B H w→∃fn Y X Z,(Instr.yield l args.toArray).run P w=.ok (.round l fn Y X Z) w∧ZY P B.heap.size l fn Y X Z w (RP B Post)
def PP(P:Program)(B:World)(W:FuncId)(lb:List Value)(enc:α→Value)(S h G:List α→Prop)(F Z:HP):Prop:=
 ∀(l:Nat) (J q:List α→HP),(∀u x R,h (u++[x])→Yn P B l [enc x] (J u*R) (λv H'=>∃g:Bool,v=.bool g∧(g=true→G (u++[x]))∧H'=(bif g then J (u++[x])else q (u++[x]))*R))→
  Fn P B W (.func (.yield l) #[] #[]::lb) (J []*F) (λ_ H'=>(∃xs,S xs∧H'=J xs*Z)∨∃u,h u∧H'=q u*Z)
def ZR(B:World)(n:Nat)(E:A8)(H:HP):Exit→Act→World→Prop
 | .normal,a,w=>DZ n E a∧a.defers=[]∧Sat B H w
 |_,_,_=>False
def TC(B:World)(G:Prop)(H:HP)(X:Nat→HP):Exit→Act→World→Prop
 | .normal,_,w=>G∧Sat B H w
 | .exit id,_,w=>Sat B (X id) w
 |_,_,_=>False
instance{B:World}{n:Nat}{E:A8}{H:HP}:PQ (ZR B n E H):=⟨λ_ _ _ _ _ h=>h,λ_ _ h=>h⟩
instance{B:World}{G:Prop}{H:HP}{X:Nat→HP}:PQ (TC B G H X):=⟨λ_ _ _ _ _ h=>h,λ_ _ h=>h⟩
abbrev mark(d:Nat):Deferred:={target:=.collected d,args:= #[]}
section
variable{P:Program}{B:World}{n:Nat}{E:A8}{D:CW}{H:HP}{d:Option Tmp}{T T' ty:TypeId}{pos:String}{af:Array Edge}{g:Option (Nat×Bool)}{x y z:Operand}{Q:Exit→Act→World→Prop}
def Ag5{E'}(s:Sub E E')(e:H=H'):BZ B (ZR B n E' H') .normal n E ⟨[],r⟩ H:=λ_ _ O U M=>⟨O.sub s,U,e▸M⟩
def xy{G:Prop}{X:Nat→HP}(g:G)(e:∀w,Sat B H w→Sat B H' w):BZ B (TC B G H' X) .normal n E D H:=λ_ w _ _ M=>⟨g,e w M⟩
def Af7{G:Prop}{X:Nat→HP}{id}(e:∀w,Sat B H w→Sat B (X id) w):BZ B (TC B G H' X) (.exit id) n E D H:=λa w _ _ M=>e w M
def OL{c}{p:α→Prop}(h:∀z,p z→WP P B c Q n E D (A z*R)):WP P B c Q n E D ((HP.ex λz=>HP.pr (p z)*A z)*R):=
 Aec λz=>by rw[HP.assoc];exact Afd λJ=>h z J
def UD{e}{p:α→Prop}(h:∀z,p z→BZ B Q e n E D (A z*R)):BZ B Q e n E D ((HP.ex λz=>HP.pr (p z)*A z)*R):=by
 intro a w O U M;rw[LH]at M;obtain⟨z,Z⟩:=Sat.ex.1 M;rw[HP.assoc]at Z;obtain⟨J,X⟩:=Sat.pr.1 Z;exact h z J a w O U X
def KP{p:α→Prop}(z:α)(J:p z)(e:H=A z*R)(w)(hw:Sat B H w):Sat B ((HP.ex λz=>HP.pr (p z)*A z)*R) w:=by
 rw[LH];exact Sat.ex.2 ⟨z,by rw[HP.assoc];exact Sat.pr.2 ⟨J,e▸hw⟩⟩
def WR{l t}{xs:List Operand}(ht:ev E t=some (.func (.yield l) #[] #[]))(F:Dw E xs=some vs)(C:Yn P B l vs H Post):Qv P B n ⟨d,.call ⟨.value t,xs.toArray,ats⟩,ty,pos,af,g⟩ E D H Post:=by
 intro a w O h2 M K Q u;obtain⟨fn,Y,X,Z,G,S⟩:=C w M;have q:(execOp a.eval ⟨d,.call ⟨.value t,xs.toArray,ats⟩,ty,pos,af,g⟩).run P w=.ok (.round l fn Y X Z) w:=by
  simp only[execOp,resolve,hI,Fy O F,O.ev ht,Deferred.ofValue,bn,bp,b0,invoke];simpa using G
 refine⟨?_,?_⟩
 ·simp only[A9,BL,B3,BX,true_and,execOp,resolve,hI,Fy O F,O.ev ht,Deferred.ofValue,bp,invoke];exact(b_ l _).Oa (by simpa using G)
 rw[q];simp only[Nr];intro h N V cs W k2;refine S h N V cs (λx L F=>?_) λc L F=>?_
 ·obtain⟨v,H',e,J,U⟩:=F;cases e;exact W x L (u x H' L J U)
 obtain⟨v,H',e,_⟩:=F;cases e
def Rx(P:Program)(B:World)(fn:Func)(Post:Value→HP→Prop):Exit→Act→World→Prop
 | .normal,a,w| .ret,a,w=>If P B.heap.size fn a.tmps (RP B Post) a.defers .returning w
 |_,_,_=>False
instance{P:Program}{B:World}{fn:Func}{Post:Value→HP→Prop}:PQ (Rx P B fn Post):=⟨λ_ _ _ _ _ h=>h,λ_ _ h=>h⟩
def Ts{c}(hf:P.funcs[f]?=some fn)(hb:fn.body=some c)(G:fn.ntmps=n)(q:Aoc (aa args) n=true)(h:WP P B c (Rx P B fn Post) n (IL 0 args) ⟨[],none⟩ H):Fn P B f args H Post:=by
 intro w X;refine aO (R:=RP B Post) hf hb (ER.mono (h _ w ⟨?_,?_⟩ I X) ?_)
 ·have:aa args≤n:=by simpa using q
  simp[G];omega
 ·intro t v e;obtain⟨_,U⟩:=NI args 0 t v e;simp only[H0]at U;have L:t<aa args:=(Lk.1 U).1;simp only[];rw[Aif (by simpa using L)];simpa using U
 intro e a w N;cases e<;>first|exact N|exact N.elim
def W7{tmps}{R:Ending→World→Prop}:∀(u:List Nat) (w:World) (H:HP),Sat B (u.foldr (λd H=>HP.obj d (.deferred (some []))*H) H) w→
  (∀V,Sat B H V→∀W,B5 B.heap.size V W→A9 B.heap.size P (results fn tmps) (pad V W)∧∃x L,(results fn tmps).run P (pad V W)=.ok x L∧R (.returned x) L)→If P B.heap.size fn tmps R (u.map mark) .returning w
 |[],w,H,C,Z=>Z w C
 |m::u,w,H,C,Z=>by
  refine⟨by simp,λW _=>?_⟩;have C:=Sat.EU C (.pad w W);obtain⟨q,_,_⟩:=Sat.Lp C;exact⟨_,run_takeDeferred q,W7 u _ H (Sat.right (Sat.NL C (y:=.deferred none) (by simp))) Z⟩
def Sn(u:List Nat)(H')(hr:fn.results=(ts.map kl).toArray)(S:Dw E (ts.map Operand.tmp)=some vs)(J:Post (FH vs) H')(e:H=u.foldr (λd H=>HP.obj d (.deferred (some []))*H) H'):BZ B (Rx P B fn Post) .ret n E ⟨u.map mark,r⟩ H:=by
 intro a w O U M;show If _ _ _ _ _ _ _ _;rw[U];exact W7 u w H' (e▸M) λV L=>K8 (R:=RP B Post) hr O S L λv C=>⟨_,_,I,J,C⟩
end
end
section
section
variable{P:Program}{B:World}{n:Nat}{E:A8}{D:CW}{H R:HP}{ops:Array Oper}{Q:Exit→Act→World→Prop}{rest:List Oper}{fuel last:Nat}{ls:Array Bool}
 {op:Op} {T ty:TypeId} {pos:String} {af:Array Edge} {d:Option Tmp} {g:Option (Nat×Bool)} {x y:Operand}
def OC{b}(W:(ops[j]?).bind (·.dst)=some tj)(hb:lk E tj=some (.bool b))(ht:hB t n=true)(hw:b=want)(q:WL P B ops Q (⟨some t,op,ty,pos,af,none⟩::rest) n E D H):WL P B ops Q (⟨some t,op,ty,pos,af,some (j,want)⟩::rest) n E D H:=
 l9 W hb ht (λ_=>q) (λh=>by subst hw;cases b<;>cases h)
def vN{b}(W:(ops[j]?).bind (·.dst)=some tj)(hb:lk E tj=some (.bool b))(ht:hB t n=true)(hw:b= !want)(no:WL P B ops Q rest n ((t,undef)::E) D H):WL P B ops Q (⟨some t,op,ty,pos,af,some (j,want)⟩::rest) n E D H:=
 l9 W hb ht (λh=>by subst h;cases b<;>cases hw) (λ_=>no)
def DU{p:Prop}[Decidable p]{l}(tj)(hb:lk E tj=some (.bool (decide p)))(h1:p→WL P B ops Q l n E D H)(h2:¬p→WL P B ops Q l n E D H):WL P B ops Q l n E D H:=
 if h:p then h1 h else h2 h
def Do{b l}(tj)(hb:lk E tj=some (.bool b))(h1:b=true→WL P B ops Q l n E D H)(h2:b=false→WL P B ops Q l n E D H):WL P B ops Q l n E D H:=by
 cases b
 ·exact h2 I
 exact h1 I
def D4{p:Prop}[Decidable p](tj)(hb:lk E tj=some (.bool (decide p)))(h1:p→WA P B ops Q R last fuel ls n E D H)(h2:¬p→WA P B ops Q R last fuel ls n E D H):WA P B ops Q R last fuel ls n E D H:=
 if h:p then h1 h else h2 h
def Ha{b}(tj)(hb:lk E tj=some (.bool b))(h1:b=true→WA P B ops Q R last fuel ls n E D H)(h2:b=false→WA P B ops Q R last fuel ls n E D H):WA P B ops Q R last fuel ls n E D H:=by
 cases b
 ·exact h2 I
 exact h1 I
def WI(i){b}(hi:ops[i]?=some ⟨some t,op,ty,pos,af,some (j,want)⟩)(Z:B1 ops ls last i=true)[N:PQ Q][hE:CM B H R](ht:hB t n=true)(W:(ops[j]?).bind (·.dst)=some tj)(hb:lk E tj=some (.bool b))(hw:b=want)(S:AY P B n ⟨some t,op,ty,pos,af,none⟩ E R v)(next:WA P B ops Q R last fuel (ls.setIfInBounds i true) n ((t,v)::E) D H):
  WA P B ops Q R last (fuel+1) ls n E D H:=by
 subst hw;exact dr i hi Z ht W hb S next
def kT(i){b}(hi:ops[i]?=some ⟨some t,op,ty,pos,af,some (j,want)⟩)(Z:B1 ops ls last i=true)[N:PQ Q][hE:CM B H R](ht:hB t n=true)(W:(ops[j]?).bind (·.dst)=some tj)(hb:lk E tj=some (.bool b))(hw:b= !want)(next:WA P B ops Q R last fuel (ls.setIfInBounds i true) n ((t,undef)::E) D H):
  WA P B ops Q R last (fuel+1) ls n E D H:=nl i hi Z ht W hb hw next
def S3(i){b}(hr:m5 .any ops ls=[i])(hi:ops[i]?=some ⟨some t,op,ty,pos,af,some (j,want)⟩)(ht:hB t n=true)(W:(ops[j]?).bind (·.dst)=some tj)(hb:lk E tj=some (.bool b))(hw:b=want)(N:DT P B n ⟨some t,op,ty,pos,af,some (j,want)⟩ E D H Post)(next:∀v H',Post v H'→(last≤i∨CM B H' R)∧WA P B ops Q R last fuel (ls.setIfInBounds i true) n ((t,v)::E) D H'):
  WA P B ops Q R last (fuel+1) ls n E D H:=by
 intro a w O U M;have G:yielded ops a.tmps j=some b:=by
  have:=O.2 _ _ hb;simp[yielded,W,this]
 intro Y X;refine⟨(λq=>by rw[hr]at q;cases q),λk Z=>?_⟩;rw[hr]at Z;obtain rfl:=g5.1 Z;unfold F5z;rw[hi];simp only[cx,G,hw,beq_self_eq_true,if_true];refine⟨λc _=>N.Il O U M c,N a Y O U (M.EU X) _ _ λv H' V J C=>?_⟩;obtain⟨S,F⟩:=next v H' J;exact⟨S.imp id (λh=>h.get V C),F _ V (O.put (by simpa using ht) v) (by simp[Act.put,U]) C⟩
def Om{c b u}(hw:b=true)(W:ev E c=some (.bool b))(F:ev E x=some u):
  AY P B n ⟨d,.pick c x y,ty,pos,af,g⟩ E H u:=by subst hw;exact Aeu W F
def N5{c b u}(hw:b=false)(W:ev E c=some (.bool b))(G:ev E y=some u):
  AY P B n ⟨d,.pick c x y,ty,pos,af,g⟩ E H u:=by subst hw;exact Aci W G
def Pd{p:Prop}[Decidable p](h:ev E x=some (.bool (decide p))):AY P B n ⟨d,.unOp .not T x,ty,pos,af,g⟩ E H (.bool (decide (¬p))):=by
 have:=Tn (P:=P) (B:=B) (n:=n) (H:=H) (d:=d) (T:=T) (ty:=ty) (pos:=pos) (af:=af) (g:=g) h;rwa[show(!decide p)=decide (¬p) by simp]at this
def pz{t u v b}(hb:ev E t=some (.bool b))(hw:b=true)(h:WP P B u Q n E D H):WP P B (.cond t u v) Q n E D H:=by subst hw;exact Se hb (λ_=>h) (λh=>by cases h)
def PM{t u v b}(hb:ev E t=some (.bool b))(hw:b=false)(h:WP P B v Q n E D H):WP P B (.cond t u v) Q n E D H:=by subst hw;exact Se hb (λh=>by cases h) (λ_=>h)
end
section
variable{P:Program}{B:World}{n:Nat}{E:A8}{H:HP}
def Qb(P:Program)(B:World)(n:Nat)(E:A8)(H:HP)(h:ResultVar)(v:Value):Prop:=
 ∀a w,DZ n E a→Sat B H w→A9 B.heap.size P (match h with
  | .tmp t=>(pure (a.tmps.getD t undef):Sem Value)
  | .cell c t=>do loadVar t (←asAddr (a.tmps.getD c undef))) w∧(match h with
  | .tmp t=>(pure (a.tmps.getD t undef):Sem Value)
  | .cell c t=>do loadVar t (←asAddr (a.tmps.getD c undef))).run P w=.ok v w
def Kd[hT:GN P t k](h:ev E (.tmp c)=some (.pointer (some ⟨b,0,none⟩)))[hr:Row H b 0 l R](J:aa l=k):Qb P B n E H (.cell c t) (.agg l.toArray):=by
 intro a w O X;have e:=O.ev h;have M:a.tmps.getD c undef=.pointer (some ⟨b,0,none⟩):=e;rw[hr.eq]at X;have O:(loadCells ⟨b,0,none⟩ k).run P w=.ok l.toArray w:=by
  rw[←J];refine run_loadCells_list w ⟨b,0,none⟩ l λj v e=>?_;have:=X.cells j v e;by_cases W:j=0
  ·subst W;simpa[eo]using this
  simpa[eo,W]using this
 have U:A9 B.heap.size P (loadCells ⟨b,0,none⟩ k) w:=by
  rw[←J];refine QZ l 0 #[] () (λj v e=>?_) X.rU;rw[Pl];have:=X.cells j v e;by_cases W:j=0
  ·subst W;simpa[eo]using this
  simpa[eo,W]using this
 constructor<;>simp[M,asAddr,loadVar,hT.get,hT.size,O,U]
def SH{s:Prop}[hT:DC P t](h:ev E (.tmp c)=some (.pointer (some ⟨b,0,none⟩)))[hr:Rd B H b 0 v s](C:s):Qb P B n E H (.cell c t) v:=by
 intro a w O X;have e:=O.ev h;have M:a.tmps.getD c undef=.pointer (some ⟨b,0,none⟩):=e;have q:=hr.get w X C;have Z:=hr.live w X C;constructor<;>simp[M,asAddr,loadVar,hT.get,q,Z]
def LB(P:Program)(B:World)(n:Nat)(E:A8)(H:HP):List ResultVar→List Value→Prop
 |[],vs=>vs=[]
 |r::rs,vs=>∃v us,vs=v::us∧Qb P B n E H r v∧LB P B n E H rs us
def Im:LB P B n E H [] []:=rfl
def IC{r}(h:Qb P B n E H r v)(C:LB P B n E H rs vs):LB P B n E H (r::rs) (v::vs):=⟨v,vs,I,h,C⟩
def Aeq(hr:fn.results=rs.toArray)(N:DZ n E a)(S:LB P B n E H rs vs)(hw:Sat B H w):
  (results fn a.tmps).run P w=.ok (FH vs) w∧A9 B.heap.size P (results fn a.tmps) w:=by
 have U:∀f:ResultVar→Sem Value,(∀r v,r∈rs→Qb P B n E H r v→A9 B.heap.size P (f r) w∧(f r).run P w=.ok v w)→(Anz f rs).run P w=.ok vs w∧A9 B.heap.size P (Anz f rs) w:=by
  clear hr;intro f V
  induction rs generalizing vs with
  |nil=>obtain rfl:vs=[]:=S;exact⟨I,trivial⟩
  |cons r rs Z=>
   obtain⟨v,us,rfl,M,G⟩:=S;obtain⟨q,O⟩:=Z G (λr v W=>V r v (by simp[W]));obtain⟨F,C⟩:=V r v (by simp) M;refine⟨by simp only[Amo,bn,C,b0,q,bp],?_⟩;simp only[Amo,A9,BL,C,BX,q,B3,and_true];exact⟨F,O⟩
 unfold results;rw[hr,Aly];constructor
 ·simp only[bn,Sem.run_map];rw[(U _ λr v _ h=>by have:=h a w N hw;cases r<;>exact this).1];simp only[b0,bp]
  match vs with
  |[]=>rfl
  |[v]=>rfl
  |u::v::r=>simp[FH]
 simp only[A9,BL,Dp];refine⟨(U _ λr v _ h=>by have:=h a w N hw;cases r<;>exact this).2,?_⟩;simp only[Sem.run_map];rw[(U _ λr v _ h=>by have:=h a w N hw;cases r<;>exact this).1];trivial
def tJ{R:Ending→World→Prop}(hr:fn.results=rs.toArray)(h1:DZ n E a)(S:LB P B n E H rs vs)(M:Sat B H w)(J:∀v,Sat B H v→R (.returned (FH vs)) v):∀W,B5 B.heap.size w W→A9 B.heap.size P (results fn a.tmps) (pad w W)∧∃x L,(results fn a.tmps).run P (pad w W)=.ok x L∧R (.returned x) L:=λW _=>by
 have M:=M.EU (.pad w W);obtain⟨h,q⟩:=Aeq hr h1 S M;exact⟨q,_,_,h,J _ M⟩
def KT(H')[hE:CM B H H'](hr:fn.results=rs.toArray)(S:LB P B n E H rs vs)(J:Post (FH vs) H'):BZ B (Ju P B fn Post) .ret n E ⟨[],r⟩ H:=
 λ_ w O U M=>⟨U,tJ (R:=RP B Post) hr O S M λv C=>⟨_,_,I,J,hE.get v C⟩⟩
end
end
section
def qB(xs:List UInt8):AE xs=xs.map Extern.Stop.cell:=by
 induction xs with
 |nil=>rfl
 |cons x xs Z=>show _::AE xs=_;rw[Z];rfl
def pu:∀(c:List Value) (a b d:List Value) (k:Nat),aa b=aa c→k=0→(c.toArray.zipIdx.foldl (λcs (c,j)=>cs.setIfInBounds (aa a+j) c) (a++b++d).toArray)=(a++c++d).toArray:=by
 intro c a b d k h _;have U:∀(c a b d:List Value) (k m:Nat),aa b=aa c→aa a=m+k→((c.zipIdx k).foldl (λ(cs:Array Value) (p:Value×Nat)=>cs.setIfInBounds (m+p.2) p.1) (a++b++d).toArray)=(a++c++d).toArray:=by
  intro c
  induction c with
  |nil=>intro a b d k m h _;have:b=[]:=hU.1 (by simpa using h);simp[this]
  |cons x c Z=>
   intro a b d k m h W;cases b with
   |nil=>simp at h
   |cons y b=>
    simp only[List.zipIdx_cons,n'];have e:((a++y::b++d).toArray.setIfInBounds (m+k) x)=((a++[x])++b++d).toArray:=by
     rw[←W];apply Akg.1;simp
    rw[e,Z (a++[x]) b d (k+1) m (by simpa using h) (by simp;omega)];simp
 have:=U c a b d 0 (aa a) h I;rw[←this];simp
def Kv(pl:Array (Nat×Nat)):List Value→List (Nat×Value)→List Value→Prop
 |zs,[],cs=>cs=zs
 |zs,(i,v)::r,cs=>∃a b d c,pl[i]?=some (aa a,aa c)∧zs=a++b++d∧aa b=aa c∧v.cells=c.toArray∧Kv pl (a++c++d) r cs
def Tm:Kv pl zs [] zs:=rfl
def KF{r:List (Nat×Value)}(a b d c:List Value)(h1:pl[i]?=some (aa a,aa c))(h2:zs=a++b++d)(M:aa b=aa c)(Z:v.cells=c.toArray)(h:Kv pl (a++c++d) r cs):Kv pl zs ((i,v)::r) cs:=⟨a,b,d,c,h1,h2,M,Z,h⟩
def Kv.run:∀{vs:List (Nat×Value)} {zs cs:List Value},Kv pl zs vs cs→v5 (pl[·]?) zs.toArray vs=some cs.toArray
 |[],zs,cs,h=>by obtain rfl:cs=zs:=h;rfl
 |(i,v)::r,zs,cs,⟨a,b,d,c,O,U,M,Z,h⟩=>by
  subst U;simp only[v5,O,Z];rw[AF (by simp;omega)];rw[pu c a b d 0 M rfl];exact Kv.run h
section
variable{P:Program}{B:World}{n:Nat}{E:A8}{D:CW}{H:HP}{d:Option Tmp}{T T' ty:TypeId}{pos:String}{af:Array Edge}{g:Option (Nat×Bool)}{x y z:Operand}
def Th{vs:List (Nat×Value)}[hT:GM P T pl][hz:Bh P T (.agg zs.toArray)](F:MD E ps=some vs)(hf:Kv pl zs vs cs):AY P B n ⟨d,.build T ps.toArray,ty,pos,af,g⟩ E H (.agg cs.toArray):=nv F hf.run
def xn{D}(w d t e n)(ht:P.underlying t=some (.array n e))(N:P.underlying e=some (.int .u8))(L:∀w,(sizeOf e).run P w=.ok 1 w)(xs ys:List UInt8)(F:aa xs=n)(G:aa ys=n):Al m D P (Op.equalIn (d+2) t (.agg (xs.map Extern.Stop.cell).toArray) (.agg (ys.map Extern.Stop.cell).toArray)) w:=by
 have q:=λ(t:TypeId) (O:TypeDesc) (h:P.underlying t=some O)=>A6 (P:=P) h w;rw[Op.equalIn];simp only[BL,A6 ht,BX,L,CT,DQ,true_and,Std.Legacy.Range.forIn_eq_forIn_range',Std.Legacy.Range.size,H0,Jx,Alm];refine⟨?_,?_⟩
 ·have J:∀i∈Ao4 0 n 1,i<n:=λi M=>by simpa using(List.mem_range'_1.1 M).2
  generalize Ao4 0 n 1=l at J⊢
  induction l with
  |nil=>trivial
  |cons i l Z=>
   have M:i<n:=J i (by simp);have S:(part e (xs.map Extern.Stop.cell).toArray (i*1)).run P w=.ok (Extern.Stop.cell (xs.getD i 0)) w∧Al m D P (part e (xs.map Extern.Stop.cell).toArray (i*1)) w:=by
    constructor<;>simp[part,isAgg,A6 N,Ao0,c8 (show i<(aa xs) by omega)]
   have C:(part e (ys.map Extern.Stop.cell).toArray (i*1)).run P w=.ok (Extern.Stop.cell (ys.getD i 0)) w∧Al m D P (part e (ys.map Extern.Stop.cell).toArray (i*1)) w:=by
    constructor<;>simp[part,isAgg,A6 N,Ao0,c8 (show i<(aa ys) by omega)]
   have u:(Op.equalIn (d+1) e (Extern.Stop.cell (xs.getD i 0)) (Extern.Stop.cell (ys.getD i 0))).run P w=.ok (xs.getD i 0==ys.getD i 0) w∧Al m D P (Op.equalIn (d+1) e (Extern.Stop.cell (xs.getD i 0)) (Extern.Stop.cell (ys.getD i 0))) w:=by
    refine⟨?_,?_⟩
    ·rw[Extern.Stop.cell,Extern.Stop.cell,run_equalIn_int w d e .u8 .u8 _ _ N];congr 1;rw[L'];simp[←Ajj];omega
    simp only[Op.equalIn,Extern.Stop.cell,BL,A6 N,BX,CT,true_and];trivial
   simp only[Ao6,BL,bn,b0,S.1,S.2,C.1,C.2,u.1,u.2,BX,true_and];cases U:(xs.getD i 0==ys.getD i 0)
   ·simp only[Bool.not_false,if_true];trivial
   simp only[Bool.not_true,v8,if_false,bp,BX,B3,true_and];exact Z λj W=>J j (by simp[W])
 cases(forIn (Ao4 0 n 1) _ _:Sem _).run P w with
 |ok z w=>simp only[BX];cases z.fst<;>trivial
 |halt z w=>trivial
def Ad0{xs ys:List UInt8}[hT:Aw P T (.array len e)][hE:Aw P e (.int .u8)][hz:CG P e 1](M:P.eqGuardType P.depth T=false)(F:ev E x=some (.agg (AE xs).toArray))(G:ev E y=some (.agg (AE ys).toArray))(h1:aa xs=len)(h2:aa ys=len):
  AY P B n ⟨d,.binOp .neq T x y T',ty,pos,af,g⟩ E H (.bool (decide (xs≠ys))):=by
 intro a w N _;rw[qB]at F G;have q:=run_equalIn_bytes (P:=P) w 9998 T e len hT.get hE.get hz.get xs ys h1 h2;have Z:(eqGuard .neq T x y (.agg (xs.map Extern.Stop.cell).toArray) (.agg (ys.map Extern.Stop.cell).toArray)).run P w=.ok () w:=by
  simp[eqGuard,bn,run_program,M]
 have X:=xn (P:=P) (m:=B.heap.size) (D:=Ec w) w 9998 T e len hT.get hE.get hz.get xs ys h1 h2;have J:A9 B.heap.size P (eqGuard .neq T x y (.agg (xs.map Extern.Stop.cell).toArray) (.agg (ys.map Extern.Stop.cell).toArray)) w:=by
  simp[eqGuard,run_program,M]
 simp only[A9,BL,Dp,CT,DQ,EP,EX,Ej,B3,BX,true_and,and_true,and_self,execOp,N.ev F,N.ev G,bn,Z,X,J,b0,binOp,Op.equal,show Op.maxDepth=9998+2 from I,q,bp];congr 3;by_cases h:xs=ys<;>simp[h]
def G? [hT:Aw P T (.array len e)](F:ev E x=some (.slice p k c))(C:Sl p b o k c)(h0:0<k)(Z:len≤k):
  AY P B n ⟨d,.sliceToArrayPointer T x,ty,pos,af,g⟩ E H (.pointer (some ⟨b,o,none⟩)):=by
 intro a w N _;obtain rfl:=C.1.resolve_left (by have:=C.2;omega);simp only[A9,BL,Dp,CT,DQ,EP,EX,Ej,B3,BX,true_and,and_true,and_self,execOp,N.ev F,Instr.arrayAt,bn,A6 hT.get,b0];simp[show ¬k<len by omega]
def xH[AB α][hT:GN P T k](F:ev E x=some (.pointer (some ⟨b,o,none⟩)))(hr:AZ B H b o xs)(J:aa xs*AB.sz α=k):
  AY P B n ⟨d,.load T x,ty,pos,af,g⟩ E H (.agg (AE xs).toArray):=by
 intro a w N X;have O:=hr.run (P:=P) X;have U:=hr.Ez (P:=P) X B.heap.size (Ec w);rw[J]at O U;constructor<;>simp[U,execOp,N.ev F,Aod,hO,loadVar,hT.get,hT.size,O]
end
end
def le(xs:List UInt8):Nat→UInt64
 |0=>0
 |i+1=>le xs i|||((xs.getD i 0).toUInt64<<< sy (8*i))
def Kq(xs:List UInt8):Nat→Nat
 |0=>0
 |i+1=>Kq xs i+(xs.getD i 0).toNat*2^(8*i)
def wK(xs:List UInt8):∀i,Kq xs i<2^(8*i)
 |0=>by simp[Kq]
 |i+1=>by
  have O:=wK xs i;have U:=(xs.getD i 0).toNat_lt;simp only[Kq];rw[show 8*(i+1)=8*i+8 by omega,za];have:(xs.getD i 0).toNat*2^(8*i)≤255*2^(8*i):=ta _ (by omega);omega
def m9(xs:List UInt8):∀i,i≤8→(le xs i).toNat=Kq xs i
 |0,_=>rfl
 |i+1,h=>by
  have Z:=m9 xs i (by omega);have O:=wK xs i;have U:=(xs.getD i 0).toNat_lt;have M:(xs.getD i 0).toNat*2^(8*i)<18446744073709551616:=by
   have q:(xs.getD i 0).toNat*2^(8*i)<2^8*2^(8*i):=Nat.mul_lt_mul_of_pos_right (by omega) (Alp _);rw[←za]at q;have X:2^(8+8*i)≤2^64:=Akc (by omega) (by omega);omega
  simp only[le,Kq,Akq,Z,Ajm,OZ (8*i) (by omega),Ajz,Akf];rw[show(2:Nat)^64=18446744073709551616 by decide,pg M,Nat.or_comm,Al4,←Aj9 O];omega
def NE(xs:List UInt8)(m:Nat):Nat→UInt64
 |0=>0
 |j+1=>NE xs m j*256+(xs.getD (m-1-j) 0).toUInt64
def Kn(xs:List UInt8)(m:Nat):Nat→Nat
 |0=>0
 |j+1=>Kn xs m j*256+(xs.getD (m-1-j) 0).toNat
def aY(xs:List UInt8)(m):∀j,Kn xs m j<2^(8*j)
 |0=>by simp[Kn]
 |j+1=>by
  have O:=aY xs m j;have U:=(xs.getD (m-1-j) 0).toNat_lt;simp only[Kn];rw[show 8*(j+1)=8*j+8 by omega,za,show(2:Nat)^8=256 by decide];omega
def nL(xs:List UInt8)(m):∀j,j≤8→(NE xs m j).toNat=Kn xs m j
 |0,_=>rfl
 |j+1,h=>by
  have Z:=nL xs m j (by omega);have O:=aY xs m (j+1);have X:2^(8*(j+1))≤2^64:=Akc (by omega) (by omega);have U:=(xs.getD (m-1-j) 0).toNat_lt;simp only[Kn]at O⊢;simp only[NE,Alf,Alg,Z,Ajz];rw[show(256:UInt64).toNat=256 from rfl];rw[show(2:Nat)^64=18446744073709551616 by decide]at*;omega
def nO(xs:List UInt8)(m):∀j,j≤m→Kq xs m=Kn xs m j*2^(8*(m-j))+Kq xs (m-j)
 |0,_=>by simp[Kn]
 |j+1,h=>by
  rw[nO xs m j (by omega),show m-j=(m-(j+1))+1 by omega];simp only[Kq,Kn];rw[show m-1-j=m-(j+1) by omega,show 8*(m-(j+1)+1)=8*(m-(j+1))+8 by omega,za,show(2:Nat)^8=256 by decide,u2,Aob (Kn xs m j) 256,Al4 256];omega
def yq(xs:List UInt8):NE xs 8 8=le xs 8:=by
 apply Alh.1;rw[nL xs 8 8 (by omega),m9 xs 8 (by omega),nO xs 8 8 (by omega)];simp[Kq]
def X'{xs ys:List UInt8}:∀i,(∀j,j<i→xs.getD j 0=ys.getD j 0)→le xs i=le ys i
 |0,_=>rfl
 |i+1,h=>by simp only[le];rw[X' i (λj W=>h j (by omega)),h i (by omega)]
def oI(x:UInt64):UInt64:=x*2+(x>>> sy 63)
def PT:Nat→UInt64→UInt64
 |0,x=>x
 |n+1,x=>oI (PT n x)
def zC(x:UInt64):∀k,k≤63→(PT k x).toNat=x.toNat*2^k%2^64+x.toNat/2^(64-k)
 |0,_=>by
  have:=x.toNat_lt;simp only[PT,Al5,s6,H0];rw[pg this,Ao1 this];rfl
 |k+1,h=>by
  have Z:=zC x k (by omega);have F:=x.toNat_lt;simp only[PT,oI,Alf,Alg,Ak4,OZ 63 (by omega),Z,Ajv];rw[show(2:UInt64).toNat=2 from rfl];generalize x.toNat=N at F⊢
  -- N=q*2^(64-k)+r,q<2^k,r<2^(64-k)
  obtain⟨m,W⟩:∃m,64-k=m+1:=⟨63-k,by omega⟩
  have G:k=63-m:=by omega
  have hq:N/2^(m+1)<2^k:=by
   rw[Ala (Alp _),←za,show k+(m+1)=64 by omega];exact F
  have S:N*2^k%2^64=N%2^(m+1)*2^k:=by
   rw[show(2:Nat)^64=2^(m+1)*2^k by rw[←za];congr 1;omega,Ak8]
  have M:N*2^(k+1)%2^64=N%2^m*2^(k+1):=by
   rw[show(2:Nat)^64=2^m*2^(k+1) by rw[←za];congr 1;omega,Ak8]
  rw[W,show 64-(k+1)=m by omega,S,M];have e3:N%2^(m+1)=N%2^m+2^m*(N/2^m%2):=Nat.mod_pow_succ;have X:N/2^(m+1)=N/2^m/2:=by rw[Alt,Ame]
  have V:2^m*2^k=2^63:=by rw[←za];congr 1;omega
  have Y:N%2^m<2^m:=Alu _ (Alp _);rw[X]at hq;rw[e3,X];clear S M e3 X Z;generalize N%2^m=A at*;generalize N/2^m=C at*;have u:(A+2^m*(C%2))*2^k=A*2^k+2^63*(C%2):=by
   rw[u2,Nat.mul_right_comm,V]
  have J:A*2^k+2^k≤2^63:=by
   rw[←V,←Al3];exact ta _ Y
  rw[u,show A*2^(k+1)=A*2^k*2 by rw[Alt,Aob]];clear u V;generalize A*2^k=U at*;generalize 2^k=K at*;rw[show(2:Nat)^63=9223372036854775808 by decide,show(2:Nat)^64=18446744073709551616 by decide]at*;obtain L|L:=(show C%2=0∨C%2=1 by omega)
  ·rw[L];have hV:U+9223372036854775808*0+C/2<9223372036854775808:=by omega
   rw[Ao1 hV,pg (a:=(U+9223372036854775808*0+C/2)*2) (by omega)];omega
  rw[L];have hV:U+C/2<9223372036854775808:=by omega
  have O:(U+9223372036854775808*1+C/2)/9223372036854775808=1:=by omega
  have h2:(U+9223372036854775808*1+C/2)*2%18446744073709551616=(U+C/2)*2:=by omega
  rw[O,h2];omega
def Abj(x:UInt64)(k)(h0:0<k)(h:k≤63):PT k x=LM x k:=by
 apply Alh.1;rw[zC x k h,LM,Akq,Ajm,Ak4,OZ k (by omega),OZ (64-k) (by omega),Akf,Ajv];have F:=x.toNat_lt;have N:x.toNat/2^(64-k)<2^k:=by
  rw[Ala (Alp _),←za,show k+(64-k)=64 by omega];exact F
 have C:x.toNat*2^k%2^64=2^k*(x.toNat%2^(64-k)):=by
  rw[show(2:Nat)^64=2^(64-k)*2^k by rw[←za];congr 1;omega,Ak8,Al4]
 rw[C,Aj9 N]
end Go.Proofs.YtgfdlpcdjklcoaaGreatDoor
