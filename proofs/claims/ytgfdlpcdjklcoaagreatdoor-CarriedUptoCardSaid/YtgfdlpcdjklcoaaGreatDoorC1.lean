/- A part of this proof: steps of the program, plain facts; no condition. -/
import Derived.WalkKit
import Derived.OrdersHeld
import Derived.Sort.LoopGhostIn
import Derived.RangeFuncOwn
import Derived.RangeFuncLeaves
import Derived.OrdersIn
namespace Go.Proofs.YtgfdlpcdjklcoaaGreatDoor
open Go Go.RowKit
open _root_.Go.Result renaming andThen_ok→A_
open _root_.Go.Sem renaming run_bind→A!,run_pure→A?
open _root_.Go.Builtin renaming firstCells→B_,zeroCells→E_,append_→G_,lenOf→ag,len_→ai
open _root_.Go.Region renaming wanted→B!,ready→D_,binds→K?,free_spec→R!,noSelect→X?
open _root_.List renaming length_append→B?,map_toArray→C_,length_eq_zero_iff→C!,getElem?_append_left→F!,getElem?_eq_some_iff→F?,getElem?_eq_getElem→G?,mem_singleton→I_,flatMap_cons→J!,getElem?_append_right→J?,getElem?_eq_none→O_,map_cons→O!,mem_map_of_mem→P!,replicate→Q_,all_eq_true→R_,set_cons_succ→T!,append_assoc→V_,nodup_cons→Y?,find?_cons→Z_,range→Z?,mem_range→ab,mem_cons→ae,map_map→aj,mem_map→al,getD→ao
open _root_.Go.Oper renaming upon→C?,wp→H!
open _root_.Go.Instr renaming sureAddr→D!,sliceBounds→G!,sliceAt→L?,fill→S_,sliceBound→V!,buildSlice→V?,slice→W?,build→X_,makeSlice→Y!,indexAt→ac,storeAt→ad,loadAt→ah
open _root_.Go.Addr renaming add→D?
open _root_.Nat renaming mod_eq_of_lt→E!,eq_of_beq_eq_true→F_,blt→H?,lt_or_ge→K!,add_zero→N_,mul_le_mul_right→O?,mul_one→P_,beq→Q?,min_eq_left→S!,le_of_ble_eq_true→S?,succ_mul→U!,zero_add→U?,le_refl→W_,add_mul→W!,ble→am
open _root_.Array renaming getElem?_eq_some_iff→E?,getElem?_eq_none→H_,getElem?_modify→J_,all_eq_true_iff_forall_mem→N!,getElem?_setIfInBounds_ne→N?,getElem?_eq_getElem→Q!,getElem?_push_lt→R?,range→T_,ext_getElem?→T?,getElem_mem→U_,replicate→Y_
open _root_.Option renaming map_none→I!,some→K_,map_some→M!,isSome_none→M?,none_or→Z!
open _root_.Go.ResultVar renaming tmp→I?
open _root_.Bool renaming and_eq_true→L_,or_eq_true→X!
open _root_.UInt64 renaming ofNat→L!
open _root_.Prod renaming fst→M_
open _root_.Go.Question renaming appendCap→P?,cut→ak
set_option linter.unusedVariables false
structure Ap where
 c:Nat→Nat→Option Value
 o:Nat→Option Obj
namespace Ap
@[ext] theorem ext{r s:Ap}(h1:∀b i,r.c b i=s.c b i)(h2:∀b,r.o b=s.o b):r=s:=by
 cases r;cases s;simp only [Ap.mk.injEq];exact⟨funext fun b=>funext fun i=>h1 b i,funext h2⟩
def nil:Ap:=⟨fun _ _=>none,fun _=>none⟩
def un(r s:Ap):Ap:=⟨fun b i=>(r.c b i).or (s.c b i),fun b=>(r.o b).or (s.o b)⟩
def dj(r s:Ap):Prop:=(∀b i,r.c b i=none∨s.c b i=none)∧(∀b,r.o b=none∨s.o b=none)
theorem dj.symm{r s:Ap}(h:r.dj s):s.dj r:=⟨fun b i=>(h.1 b i).symm,fun b=>(h.2 b).symm⟩
theorem UE{r s:Ap}(h:r.dj s):r.un s=s.un r:=by
 apply ext
 ·intro b i;simp only [un];rcases h.1 b i with e|e<;>simp [e]
 ·intro b;simp only [un];rcases h.2 b with e|e<;>simp [e]
theorem NA(r s t:Ap):(r.un s).un t=r.un (s.un t):=by
 apply ext<;>intros<;>simp [un,Option.or_assoc]
theorem PC(r:Ap):nil.un r=r:=by apply ext<;>intros<;>simp [un,nil]
theorem gV(r:Ap):r.un nil=r:=by apply ext<;>intros<;>simp [un,nil]
theorem RR(r:Ap):nil.dj r:=⟨fun _ _=>.inl rfl,fun _=>.inl rfl⟩
theorem Kb{r s t:Ap}:r.dj (s.un t)↔r.dj s∧r.dj t:=by
 constructor
 ·intro h;refine⟨⟨fun b i=>?_,fun b=>?_⟩,⟨fun b i=>?_,fun b=>?_⟩⟩
  ·rcases h.1 b i with e|e;exact .inl e;simp [un]at e;exact .inr e.1
  ·rcases h.2 b with e|e;exact .inl e;simp [un]at e;exact .inr e.1
  ·rcases h.1 b i with e|e;exact .inl e;simp [un]at e;exact .inr e.2
  ·rcases h.2 b with e|e;exact .inl e;simp [un]at e;exact .inr e.2
 ·rintro⟨h1,h2⟩;refine⟨fun b i=>?_,fun b=>?_⟩
  ·rcases h1.1 b i with e|e;exact .inl e;rcases h2.1 b i with e'|e';exact .inl e';exact .inr (by simp [un,e,e'])
  ·rcases h1.2 b with e|e;exact .inl e;rcases h2.2 b with e'|e';exact .inl e';exact .inr (by simp [un,e,e'])
theorem Tz{r s t:Ap}:(r.un s).dj t↔r.dj t∧s.dj t:=
 ⟨fun h=>let⟨a,b⟩:=Kb.1 h.symm;⟨a.symm,b.symm⟩,fun⟨a,b⟩=>(Kb.2 ⟨a.symm,b.symm⟩).symm⟩
end Ap
def HP:Type:=Ap→Prop
namespace HP
theorem ext{A B:HP}(h:∀r,A r↔B r):A=B:=funext fun r=>propext (h r)
def BC:HP:=fun r=>r=Ap.nil
def sep(A B:HP):HP:=fun r=>∃x y,Ap.dj x y∧r=x.un y∧A x∧B y
def ex{α:Type}(P:α→HP):HP:=fun r=>∃x,P x r
def pr(p:Prop):HP:=fun r=>p∧r=Ap.nil
end HP
instance:Mul HP:=⟨HP.sep⟩
namespace HP
theorem comm(A B:HP):A*B=B*A:=by
 apply ext;intro r;constructor
 ·rintro⟨x,y,h,rfl,a,b⟩;exact⟨y,x,h.symm,Ap.UE h,b,a⟩
 ·rintro⟨x,y,h,rfl,a,b⟩;exact⟨y,x,h.symm,Ap.UE h,b,a⟩
theorem assoc(A B C:HP):A*B*C=A*(B*C):=by
 apply ext;intro r;constructor
 ·rintro⟨_,z,h,rfl,⟨x,y,h2,rfl,a,b⟩,c⟩;obtain⟨h3,h4⟩:=Ap.Tz.1 h;exact⟨x,y.un z,Ap.Kb.2 ⟨h2,h3⟩,Ap.NA ..,a,y,z,h4,rfl,b,c⟩
 ·rintro⟨x,_,h,rfl,a,y,z,h2,rfl,b,c⟩;obtain⟨h3,h4⟩:=Ap.Kb.1 h;exact⟨x.un y,z,Ap.Tz.2 ⟨h4,h2⟩,(Ap.NA ..).symm,⟨x,y,h3,rfl,a,b⟩,c⟩
theorem CF(A B C:HP):A*(B*C)=B*(A*C):=by
 rw [←assoc,comm A B,assoc]
instance:Std.Commutative (α:=HP) (·*·):=⟨comm⟩
instance:Std.Associative (α:=HP) (·*·):=⟨assoc⟩
@[simp] theorem BH(A:HP):BC*A=A:=by
 apply ext;intro r;constructor
 ·rintro⟨_,y,_,rfl,rfl,b⟩;rw [Ap.PC];exact b
 ·intro h;exact⟨Ap.nil,r,Ap.RR r,(Ap.PC r).symm,rfl,h⟩
@[simp] theorem Fz(A:HP):A*BC=A:=by rw [comm,BH]
theorem Gb{α:Type}(P:α→HP)(B:HP):ex P*B=ex fun x=>P x*B:=by
 apply ext;intro r;constructor
 ·rintro⟨x,y,h,rfl,⟨z,a⟩,b⟩;exact⟨z,x,y,h,rfl,a,b⟩
 ·rintro⟨z,x,y,h,rfl,a,b⟩;exact⟨x,y,h,rfl,⟨z,a⟩,b⟩
theorem Uj{p:Prop}{A:HP}{r:Ap}:(pr p*A) r↔p∧A r:=by
 constructor
 ·rintro⟨x,y,h,rfl,⟨hp,rfl⟩,a⟩;rw [Ap.PC];exact⟨hp,a⟩
 ·rintro⟨hp,a⟩;exact⟨Ap.nil,r,Ap.RR r,(Ap.PC r).symm,⟨hp,rfl⟩,a⟩
def AA(b o:Nat)(l:List Value):HP:=fun r=>r=⟨fun b' i=>if b'=b∧o≤i then l[i-o]? else none,fun _=>none⟩
def obj(b:Nat)(x:Obj):HP:=fun r=>r=⟨fun _ _=>none,fun b'=>if b'=b then some x else none⟩
theorem XO(b o:Nat):AA b o []=BC:=by
 apply ext;intro r;simp [AA,BC,Ap.nil]
theorem E3(b o:Nat)(l m:List Value):AA b o (l++m)=AA b o l*AA b (o+l.length) m:=by
 apply ext;intro r;constructor
 ·intro h;refine⟨_,_,⟨fun b' i=>?_,fun _=>.inl rfl⟩,?_,rfl,rfl⟩
  ·by_cases h1:b'=b∧o≤i
   ·by_cases h2:i-o<l.length
    ·refine .inr ?_;simp only [];rw [if_neg];omega
    ·refine .inl ?_;simp only [];rw [if_pos h1];exact O_ (by omega)
   ·exact .inl (if_neg h1)
  ·rw [h];apply Ap.ext
   ·intro b' i;simp only [Ap.un];by_cases h1:b'=b∧o≤i
    ·rw [if_pos h1,if_pos h1];by_cases h2:i-o<l.length
     ·rw [F! h2,G? h2];rfl
     ·rw [J? (by omega),if_pos ⟨h1.1,by omega⟩,O_ (l:=l) (by omega)];simp only [Z!];congr 1;omega
    ·rw [if_neg h1,if_neg h1,if_neg (by omega)];rfl
   ·intro b';rfl
 ·rintro⟨x,y,_,rfl,rfl,rfl⟩;apply Ap.ext
  ·intro b' i;simp only [Ap.un];by_cases h1:b'=b∧o≤i
   ·rw [if_pos h1,if_pos h1];by_cases h2:i-o<l.length
    ·rw [F! h2,G? h2];rfl
    ·rw [J? (by omega),if_pos ⟨h1.1,by omega⟩,O_ (l:=l) (by omega)];simp only [Z!];congr 1;omega
   ·rw [if_neg h1,if_neg h1,if_neg (by omega)];rfl
  ·intro b';rfl
end HP
def Km(w:World)(b:Nat):Obj→Prop
 | .cells _ _ _=>∃c t lo,w.heap[b]?=some (.cells c t (lo,0))
 |x=>w.heap[b]?=some x
theorem SM{w:World}{b:Nat}{x:Obj}(hx:∀c t f,x≠ .cells c t f):Km w b x↔w.heap[b]?=some x:=by
 cases x<;>first|exact Iff.rfl|exact absurd rfl (hx _ _ _)
theorem Km.lt{w:World}{b:Nat}{x:Obj}(h:Km w b x):b<w.heap.size:=by
 have:∃y,w.heap[b]?=some y:=by
  cases x with
  |cells _ _ _=>obtain⟨c,t,lo,e⟩:=h;exact⟨_,e⟩
  |_=>exact⟨_,h⟩
 obtain⟨y,e⟩:=this;exact(E?.1 e).1
theorem Km.same{w w':World}{b:Nat}{x:Obj}(h:Km w b x)(e:w'.heap[b]?=w.heap[b]?):Km w' b x:=by
 cases x with
 |cells _ _ _=>obtain⟨c,t,lo,h⟩:=h;exact⟨c,t,lo,e.trans h⟩
 |_=>exact e.trans h
structure Ap.PH(n:Nat)(r:Ap)(w:World):Prop where
 cell:∀b i v,r.c b i=some v→w.cell? ⟨b,i,none⟩=some v
 free:∀b i v,r.c b i=some v→w.frozen? ⟨b,i,none⟩=false
 obj:∀b x,r.o b=some x→Km w b x
 other:∀b x,r.o b=some x→True
 IW:∀b i v,r.c b i=some v→n≤b
 JQ:∀b x,r.o b=some x→n≤b
def Sat(B:World)(H:HP)(w:World):Prop:=Below B.heap.size B w∧∃r,H r∧r.PH B.heap.size w
theorem Ap.PH.left{n:Nat}{r s:Ap}{w:World}(h:(r.un s).PH n w):r.PH n w:=by
 refine⟨fun b i v e=>h.cell b i v ?_,fun b i v e=>h.free b i v ?_,fun b x e=>h.obj b x ?_,fun b x e=>h.other b x ?_,fun b i v e=>h.IW b i v ?_,fun b x e=>h.JQ b x ?_⟩<;>simp [Ap.un,e]
theorem Sat.left{B:World}{A C:HP}{w:World}(h:Sat B (A*C) w):Sat B A w:=by
 obtain⟨h1,r,⟨x,y,hd,rfl,a,c⟩,h2⟩:=h;exact⟨h1,x,a,h2.left⟩
theorem Sat.right{B:World}{A C:HP}{w:World}(h:Sat B (A*C) w):Sat B C w:=by
 rw [HP.comm]at h;exact h.left
theorem Sat.start(B:World):Sat B HP.BC B:=
 ⟨Below.refl _ _,Ap.nil,rfl,⟨(fun _ _ _ h=>by cases h),(fun _ _ _ h=>by cases h),(fun _ _ h=>by cases h),(fun _ _ h=>by cases h),(fun _ _ _ h=>by cases h),(fun _ _ h=>by cases h)⟩⟩
theorem Sat.BC{B:World}{A:HP}{w:World}(h:Sat B A w):Sat B HP.BC w:=by
 refine Sat.left (C:=A) ?_;rw [HP.BH];exact h
theorem Sat.H1{B:World}{A:HP}{w:World}(h:Sat B A w):Sat B A {w with drawn:=w.drawn+1}:=by
 obtain⟨⟨a,b,c,d,e⟩,r,hr,h2⟩:=h;exact⟨⟨a,b,c,d,e⟩,r,hr,⟨h2.cell,h2.free,h2.obj,h2.other,h2.IW,h2.JQ⟩⟩
theorem Sat.ex{B:World}{α:Type}{P:α→HP}{w:World}:Sat B (HP.ex P) w↔∃x,Sat B (P x) w:=
 ⟨fun⟨h1,r,⟨x,hx⟩,h2⟩=>⟨x,h1,r,hx,h2⟩,fun⟨x,h1,r,hx,h2⟩=>⟨h1,r,⟨x,hx⟩,h2⟩⟩
theorem Sat.pr{B:World}{p:Prop}{A:HP}{w:World}:Sat B (HP.pr p*A) w↔p∧Sat B A w:=
 ⟨fun⟨h1,r,hr,h2⟩=>let⟨hp,ha⟩:=HP.Uj.1 hr;⟨hp,h1,r,ha,h2⟩,fun⟨hp,h1,r,hr,h2⟩=>⟨h1,r,HP.Uj.2 ⟨hp,hr⟩,h2⟩⟩
abbrev Ay:=List (Nat×Value)
def lk:Ay→Nat→Option Value
 |[],_=>none
 |(u,v)::E,t=>bif Q? u t then some v else lk E t
def ev(E:Ay):Operand→Option Value
 | .tmp t=>lk E t
 | .const v=>some v
 | .global g=>some (.pointer (some ⟨g,0,none⟩))
 | .func f=>some (.func (.func f) #[] #[])
def CP(n:Nat)(E:Ay)(a:Act):Prop:=a.tmps.size=n∧∀t v,lk E t=some v→a.tmps[t]?=some v
theorem CP.ev{n:Nat}{E:Ay}{a:Act}(h:CP n E a){x:Operand}{v:Value}(e:ev E x=some v):a.eval x=v:=by
 cases x with
 |tmp t=>have:=h.2 t v e;simp [Act.eval,this]
 |const u=>simpa [Proofs.YtgfdlpcdjklcoaaGreatDoor.ev,Act.eval]using e
 |global g=>simpa [Proofs.YtgfdlpcdjklcoaaGreatDoor.ev,Act.eval]using e
 |func f=>simpa [Proofs.YtgfdlpcdjklcoaaGreatDoor.ev,Act.eval]using e
theorem CP.put{n:Nat}{E:Ay}{a:Act}(h:CP n E a){t:Nat}(ht:t<n)(v:Value):CP n ((t,v)::E) (a.put (some t) v):=by
 refine⟨by simp [Act.put,h.1],fun u w e=>?_⟩;simp only [lk]at e;cases hb:Q? t u
 ·rw [hb]at e
  have hne:t≠u:=fun h=>by subst h;simp at hb
  simp only [Act.put,N? hne];exact h.2 u w e
 ·rw [hb]at e;obtain rfl:=F_ hb;simp only [cond_true,K_.injEq]at e;subst e;simp [Act.put,h.1,ht]
def Sub(E F:Ay):Prop:=∀t v,lk F t=some v→lk E t=some v
theorem CP.sub{n:Nat}{E F:Ay}{a:Act}(h:CP n E a)(s:Sub E F):CP n F a:=⟨h.1,fun t v e=>h.2 t v (s t v e)⟩
theorem Sub.nil{E:Ay}:Sub E []:=fun _ _ h=>by cases h
theorem Sub.cons{E F:Ay}{t:Nat}{v:Value}(h:lk E t=some v)(s:Sub E F):Sub E ((t,v)::F):=by
 intro u w e;simp only [lk]at e;cases hb:Q? t u
 ·rw [hb]at e;exact s u w e
 ·rw [hb]at e;obtain rfl:=F_ hb;simp only [cond_true,K_.injEq]at e;subst e;exact h
class Ld(l:List Value)(k:Nat)(v:outParam Value):Prop where
 get:l[k]?=some v
instance(priority:=1100)(v:Value)(l:List Value):Ld (v::l) 0 v:=⟨rfl⟩
instance(u v:Value)(l:List Value)(k:Nat)[h:Ld l k v]:Ld (u::l) (k+1) v:=⟨by simpa using h.get⟩
class LE(l:List Value)(k:Nat)(v:Value)(l':outParam (List Value)):Prop where
 lt:k<l.length
 eq:l'=l.set k v
instance(u v:Value)(l:List Value):LE (u::l) 0 v (v::l):=⟨by simp,rfl⟩
instance(u v:Value)(l l':List Value)(k:Nat)[h:LE l k v l']:LE (u::l) (k+1) v (u::l'):=⟨by have:=h.lt;simp;omega,by rw [h.eq];rfl⟩
class Cell(H:HP)(b i:Nat)(v:outParam Value)(s:outParam Prop):Prop where
 get:∀r,H r→s→r.c b i=some v
instance(b o k:Nat)(l:List Value)(v:Value)[h:Ld l k v]:Cell (HP.AA b o l) b (o+k) v True:=
 ⟨fun r hr _=>by rw [show r=_ from hr];simp [h.get]⟩
instance(priority:=900)(b o:Nat)(l:List Value)(v:Value):Cell (HP.AA b o (v::l)) b o v True:=
 ⟨fun r hr _=>by rw [show r=_ from hr];simp⟩
instance(A C:HP)(b i:Nat)(v:Value)(s:Prop)[h:Cell A b i v s]:Cell (A*C) b i v s:=
 ⟨fun r ⟨x,y,_,e,a,_⟩ hs=>by rw [e];simp [Ap.un,h.get x a hs]⟩
instance(A C:HP)(b i:Nat)(v:Value)(s:Prop)[h:Cell C b i v s]:Cell (A*C) b i v s:=
 ⟨fun r ⟨x,y,d,e,_,c⟩ hs=>by
  have:=h.get y c hs
  rw [e];rcases d.1 b i with h1|h1
  ·simp [Ap.un,this,h1]
  ·rw [this]at h1;cases h1⟩
class Rd(B:World)(H:HP)(b i:Nat)(v:outParam Value)(s:outParam Prop):Prop where
 get:∀w,Sat B H w→s→w.cell? ⟨b,i,none⟩=some v
instance(priority:=500)(B:World)(H:HP)(b i:Nat)(v:Value)(s:Prop)[h:Cell H b i v s]:Rd B H b i v s:=
 ⟨fun _ ⟨_,r,hr,hl⟩ hs=>hl.cell b i v (h.get r hr hs)⟩
instance(priority:=400)(B:World)(A C:HP)(b i:Nat)(v:Value)(s:Prop)[h:Rd B A b i v s]:Rd B (A*C) b i v s:=⟨fun w hw hs=>h.get w hw.left hs⟩
instance(priority:=400)(B:World)(A C:HP)(b i:Nat)(v:Value)(s:Prop)[h:Rd B C b i v s]:Rd B (A*C) b i v s:=⟨fun w hw hs=>h.get w hw.right hs⟩
def Ap.set(b i:Nat)(v:Value)(r:Ap):Ap:=⟨fun b' i'=>if b'=b∧i'=i then some v else r.c b' i',r.o⟩
class CH(H:HP)(b i:Nat)(v:Value)(H':outParam HP)(s:outParam Prop):Prop where
 upd:∀r,H r→s→r.c b i≠none∧H' (r.set b i v)
instance(b o k:Nat)(l l':List Value)(v:Value)[h:LE l k v l']:CH (HP.AA b o l) b (o+k) v (HP.AA b o l') True:=
 ⟨fun r hr _=>by
  have hlt:=h.lt
  rw [show r=_ from hr]
  refine⟨by simp [hlt],?_⟩
  show Ap.set _ _ _ _=_
  apply Ap.ext
  ·intro b' i'
   rw [h.eq]
   simp only [Ap.set,List.getElem?_set]
   by_cases h1:b'=b∧i'=o+k
   ·obtain⟨rfl,rfl⟩:=h1;simp [hlt]
   ·by_cases h2:b'=b∧o≤i'
    ·rw [if_neg h1,if_pos h2,if_pos h2,if_neg (by omega)]
    ·rw [if_neg h1,if_neg h2,if_neg h2]
  ·intro b';rfl⟩
instance(priority:=900)(b o:Nat)(l:List Value)(u v:Value):CH (HP.AA b o (u::l)) b o v (HP.AA b o (v::l)) True:=by
 have h:CH (HP.AA b o (u::l)) b (o+0) v (HP.AA b o (v::l)) True:=inferInstance;exact h
theorem Ap.vW{b i:Nat}{v:Value}{x y:Ap}(d:x.dj y)(h:x.c b i≠none):(x.set b i v).dj y∧(x.un y).set b i v=(x.set b i v).un y:=by
 have hy:y.c b i=none:=(d.1 b i).resolve_left h;refine⟨⟨fun b' i'=>?_,d.2⟩,?_⟩
 ·by_cases e:b'=b∧i'=i
  ·obtain⟨rfl,rfl⟩:=e;exact .inr hy
  ·rcases d.1 b' i' with h1|h1
   ·left;simp only [Ap.set,if_neg e];exact h1
   ·exact .inr h1
 ·apply Ap.ext
  ·intro b' i';simp only [Ap.set,Ap.un];by_cases e:b'=b∧i'=i
   ·simp [e]
   ·simp [e]
  ·intro b';rfl
instance(A A' C:HP)(b i:Nat)(v:Value)(s:Prop)[h:CH A b i v A' s]:CH (A*C) b i v (A'*C) s:=
 ⟨fun r ⟨x,y,d,e,a,c⟩ hs=>by
  obtain⟨h1,h2⟩:=h.upd x a hs
  obtain⟨h3,h4⟩:=Ap.vW (v:=v) d h1
  subst e
  refine⟨?_,_,y,h3,h4,h2,c⟩
  simp only [Ap.un]
  cases hx:x.c b i with
  |none=>exact absurd hx h1
  |some _=>simp⟩
instance(A C C':HP)(b i:Nat)(v:Value)(s:Prop)[h:CH C b i v C' s]:CH (A*C) b i v (A*C') s:=
 ⟨by rw [HP.comm A C,HP.comm A C'];exact(inferInstance:CH (C*A) b i v (C'*A) s).upd⟩
theorem Sat.store{B:World}{H H':HP}{b i:Nat}{v:Value}{s:Prop}{w:World}(h:CH H b i v H' s)(hw:Sat B H w)(hs:s):
  (∃u,w.cell? ⟨b,i,none⟩=some u)∧w.frozen? ⟨b,i,none⟩=false∧Sat B H' (w.setCell ⟨b,i,none⟩ v):=by
 obtain⟨h1,r,hr,hl⟩:=hw;obtain⟨h2,h3⟩:=h.upd r hr hs;obtain⟨u,hu⟩:=Option.ne_none_iff_exists'.1 h2;have hc:=hl.cell b i u hu
 have hne:∀k,k<B.heap.size→(w.setCell ⟨b,i,none⟩ v).heap[k]?=w.heap[k]?:=fun k hk=>by
  have:=hl.IW b i u hu
  simp only [World.setCell];rw [J_,if_neg (by omega)]
 refine⟨⟨u,hc⟩,hl.free b i u hu,⟨h1.os,h1.tape,h1.output,by simpa [World.setCell]using h1.size,fun k hk=>(hne k hk).trans (h1.block k hk)⟩,_,h3,?_⟩;refine⟨fun b' i' v' e=>?_,fun b' i' v' e=>?_,fun b' x e=>?_,fun _ _ _=>trivial,fun b' i' v' e=>?_,fun b' x e=>hl.JQ b' x e⟩
 ·simp only [Ap.set]at e;by_cases he:b'=b∧i'=i
  ·obtain⟨rfl,rfl⟩:=he;simp at e;subst e;exact World.cell?_setCell_same _ _ _ hc
  ·rw [if_neg he]at e;rw [World.cell?_setCell_other _ _ _ _ (fun h=>he (by cases h;exact⟨rfl,rfl⟩))];exact hl.cell b' i' v' e
 ·rw [World.frozen?_setCell];simp only [Ap.set]at e;by_cases he:b'=b∧i'=i
  ·obtain⟨rfl,rfl⟩:=he;exact hl.free _ _ u hu
  ·rw [if_neg he]at e;exact hl.free b' i' v' e
 ·have hx:=hl.obj b' x e;by_cases hbb:b=b'
  ·subst hbb
   cases x with
   |cells _ _ _=>obtain⟨c,t,lo,h⟩:=hx;exact⟨_,t,lo,by simp only [World.setCell];rw [J_,if_pos rfl,h];rfl⟩
   |_=>show(w.setCell ⟨b,i,none⟩ v).heap[b]?=_;simp only [World.setCell];rw [J_,if_pos rfl,show w.heap[b]?=_ from hx];rfl
  ·refine hx.same ?_;simp only [World.setCell];rw [J_,if_neg hbb]
 ·simp only [Ap.set]at e;by_cases he:b'=b∧i'=i
  ·obtain⟨rfl,rfl⟩:=he;exact hl.IW _ _ u hu
  ·rw [if_neg he]at e;exact hl.IW b' i' v' e
theorem World.NV(w:World)(o:Obj):(w.alloc o).heap.size=w.heap.size+1:=Array.size_push ..
theorem Sat.Zq{B:World}{H:HP}{w:World}(hw:Sat B H w)(c:Array Value)(t:TypeId)(lo hi:Nat)(hfr:hi=0∨c.size≤lo):
  Sat B (HP.AA w.heap.size 0 c.toList*H) (w.alloc (.cells c t (lo,hi))):=by
 obtain⟨h1,r,hr,hl⟩:=hw;have hsz:B.heap.size≤w.heap.size:=h1.size
 have hlt:∀b i v,r.c b i=some v→b<w.heap.size:=fun b i v e=>by
  rcases K! b w.heap.size with h|h
  ·exact h
  ·have:=hl.cell b i v e;simp [World.cell?,H_ h]at this
 have hltO:∀b x,r.o b=some x→b<w.heap.size:=fun b x e=>(hl.obj b x e).lt;refine⟨⟨h1.os,h1.tape,h1.output,(by rw [World.NV];omega),fun k hk=>?_⟩,_,⟨_,r,?_,rfl,rfl,hr⟩,?_⟩
 ·rw [←h1.block k hk];simp only [World.alloc];rw [R? (by omega)];exact(Q! (by omega)).symm
 ·refine⟨fun b i=>?_,fun b=>.inl rfl⟩
  cases e:r.c b i with
  |none=>exact .inr rfl
  |some v=>left;simp only [];rw [if_neg];intro h;have:=hlt b i v e;omega
 ·refine⟨fun b i v e=>?_,fun b i v e=>?_,fun b x e=>?_,fun b x e=>?_,fun b i v e=>?_,fun b x e=>?_⟩
  ·simp only [Ap.un]at e;by_cases h:b=w.heap.size∧0≤i
   ·obtain⟨rfl,_⟩:=h;rw [World.cell?_alloc_mark]
    cases h2:r.c w.heap.size i with
    |none=>simpa [h2]using e
    |some u=>have:=hlt _ _ _ h2;omega
   ·rw [if_neg h]at e;simp at e;rw [World.cell?_alloc_lt _ _ _ (hlt b i v e)];exact hl.cell b i v e
  ·simp only [Ap.un]at e;by_cases h:b=w.heap.size∧0≤i
   ·obtain⟨rfl,_⟩:=h;rw [World.frozen?_alloc_mark]
    have hlt2:i<c.size:=by
     cases h2:r.c w.heap.size i with
     |none=>
      have e2:c[i]?=some v:=by simpa [h2]using e
      exact(E?.1 e2).1
     |some u=>have:=hlt _ _ _ h2;omega
    rcases hfr with h3|h3<;>simp<;>omega
   ·rw [if_neg h]at e;simp at e;rw [World.frozen?_alloc_old _ _ _ (by have:=hlt b i v e;simp;omega)];exact hl.free b i v e
  ·simp only [Ap.un]at e
   have e':r.o b=some x:=by simpa using e
   refine(hl.obj b x e').same ?_;simp only [World.alloc];rw [R? (hltO b x e'),←Q!]
  ·trivial
  ·simp only [Ap.un]at e;by_cases h:b=w.heap.size∧0≤i
   ·omega
   ·rw [if_neg h]at e;simp at e;exact hl.IW b i v e
  ·exact hl.JQ b x (by simpa [Ap.un]using e)
theorem Sat.alloc{B:World}{H:HP}{w:World}(hw:Sat B H w)(c:Array Value)(t:TypeId):
  Sat B (HP.AA w.heap.size 0 c.toList*H) (w.alloc (.cells c t)):=hw.Zq c t 0 0 (.inl rfl)
abbrev HP.fresh(b:Nat):HP:=HP.obj b (.cells #[] 0 (0,0))
theorem Sat.fresh{B:World}{b:Nat}{R:HP}{w:World}(h:Sat B (HP.fresh b*R) w):∃c t lo,w.heap[b]?=some (.cells c t (lo,0)):=by
 obtain⟨_,r,hr,hl⟩:=h.left;obtain rfl:r=_:=hr;have h2:=hl.obj b (.cells #[] 0 (0,0)) (by simp);exact h2
theorem Sat.kF{B:World}{H:HP}{w:World}(hw:Sat B H w)(c:Array Value)(t:TypeId):
  Sat B (HP.fresh w.heap.size*(HP.AA w.heap.size 0 c.toList*H)) (w.alloc (.cells c t)):=by
 obtain⟨h1,r,hr,hl⟩:=hw
 have hw0:Sat B (fun r'=>r'=r) w:=⟨h1,r,rfl,hl⟩
 obtain⟨k1,q,⟨x,y,d,rfl,hx,rfl⟩,kl⟩:=hw0.alloc c t;have hx':x=_:=hx
 have hno:(x.un y).o w.heap.size=none:=by
  cases e:y.o w.heap.size with
  |none=>rw [hx'];simp [Ap.un,e]
  |some z=>have:=(hl.obj _ z e).lt;omega
 have hal:(w.alloc (.cells c t)).heap[w.heap.size]?=some (.cells c t (0,0)):=by show(w.heap.push _)[w.heap.size]?=_;exact Array.getElem?_push_size
 refine⟨k1,_,⟨⟨fun _ _=>none,fun b'=>if b'=w.heap.size then some (.cells #[] 0 (0,0))else none⟩,x.un y,⟨fun _ _=>.inl rfl,fun b=>?_⟩,rfl,rfl,x,y,d,rfl,hx,hr⟩,?_⟩
 ·by_cases h:b=w.heap.size
  ·subst h;exact .inr hno
  ·exact .inl (if_neg h)
 ·refine⟨fun b i v e=>kl.cell b i v (by simpa [Ap.un]using e),fun b i v e=>kl.free b i v (by simpa [Ap.un]using e),fun b z e=>?_,fun _ _ _=>trivial,fun b i v e=>kl.IW b i v (by simpa [Ap.un]using e),fun b z e=>?_⟩
  ·by_cases h:b=w.heap.size
   ·subst h
    have e':some (Obj.cells #[] 0 (0,0))=some z:=by simpa [Ap.un]using e
    cases e';exact⟨c,t,0,hal⟩
   ·exact kl.obj b z (by simpa [Ap.un,h]using e)
  ·by_cases h:b=w.heap.size
   ·subst h;exact h1.size
   ·exact kl.JQ b z (by simpa [Ap.un,h]using e)
section
def Aa(P:Program)(B:World)(n:Nat)(o:Oper)(E:Ay)(H:HP)(v:Value):Prop:=
 ∀a w,CP n E a→Sat B H w→(execOp a.eval o).run P w=.ok (.value v) w
class Ar(P:Program)(t:TypeId)(d:outParam TypeDesc):Prop where
 get:P.underlying t=some d
class Bg(P:Program)(t:TypeId)(k:outParam Nat):Prop where
 get:∀w,(sizeOf t).run P w=.ok k w
class BO(P:Program)(t:TypeId)(v:outParam Value):Prop where
 get:∀w,(zeroValue t).run P w=.ok v w
class Eo(P:Program)(t:TypeId)(bytes:outParam Nat):Prop where
 get:∃i,(∀w,(typeInfo t).run P w=.ok i w)∧i.bytes=bytes
class B9(P:Program)(t:TypeId):Prop where
 get:∀w,(isAgg t).run P w=.ok false w
 size:∀w,(sizeOf t).run P w=.ok 1 w
class EQ(P:Program)(t:TypeId)(k:outParam Nat):Prop where
 get:∀w,(isAgg t).run P w=.ok true w
 size:∀w,(sizeOf t).run P w=.ok k w
class At(P:Program)(t:TypeId)(f:Nat)(k:outParam Nat):Prop where
 get:∃fs,P.underlying t=some (.struct fs)∧∃g,fs[f]?=some g∧g.offset=k∧∃m,(∀w,(sizeOf g.type).run P w=.ok m w)∧m≠0
theorem Bh{P:Program}{t:TypeId}{d:TypeDesc}(h:P.underlying t=some d)(w:World):(underlying t).run P w=.ok d w:=by
 simp [underlying,h]
section
variable{P:Program}{B:World}{n:Nat}{E:Ay}{H:HP}{d:Option Tmp}{T T' ty:TypeId}{pos:String}{af:Array Edge}{g:Option (Nat×Bool)}{x y:Operand}
theorem Qf{v:Value}(h:ev E x=some v):Aa P B n ⟨d,.move x,ty,pos,af,g⟩ E H v:=by
 intro a w he _;simp [execOp,he.ev h]
theorem FO{v:Value}(h:ev E x=some v):Aa P B n ⟨d,.assign x,ty,pos,af,g⟩ E H v:=by
 intro a w he _;simp [execOp,he.ev h]
theorem uY{c:Operand}{b:Bool}{u v:Value}(hc:ev E c=some (.bool b))(hx:ev E x=some u)(hy:ev E y=some v):
  Aa P B n ⟨d,.pick c x y,ty,pos,af,g⟩ E H (bif b then u else v):=by
 intro a w he _;cases b<;>simp [execOp,he.ev hc,he.ev hx,he.ev hy,asBool]
theorem xZ{c:Operand}{u:Value}(hc:ev E c=some (.bool true))(hx:ev E x=some u):
  Aa P B n ⟨d,.pick c x y,ty,pos,af,g⟩ E H u:=by
 intro a w he _;simp [execOp,he.ev hc,he.ev hx,asBool]
theorem vB{c:Operand}{v:Value}(hc:ev E c=some (.bool false))(hy:ev E y=some v):
  Aa P B n ⟨d,.pick c x y,ty,pos,af,g⟩ E H v:=by
 intro a w he _;simp [execOp,he.ev hc,he.ev hy,asBool]
theorem V7{i:Nat}{vs:Array Value}{v:Value}(h:ev E x=some (.tuple vs))(hv:vs[i]?=some v):
  Aa P B n ⟨d,.extract x i,ty,pos,af,g⟩ E H v:=by
 intro a w he _;simp [execOp,he.ev h,Instr.extract,hv]
theorem T0{p:Addr}(h:ev E x=some (.pointer (some p))):Aa P B n ⟨d,.nilCheck x,ty,pos,af,g⟩ E H (.pointer (some p)):=by
 intro a w he _;simp [execOp,he.ev h]
theorem Kn{v:Value}(hT:P.concrete T=true)(h:ev E x=some v):
  Aa P B n ⟨d,.makeInterface T x,ty,pos,af,g⟩ E H (.iface T v):=by
 intro a w he _;simp only [execOp,he.ev h,A!,run_makeInterface w T v hT,A_,A?]
theorem S6{b:Bool}(h:ev E x=some (.bool b)):Aa P B n ⟨d,.unOp .not T x,ty,pos,af,g⟩ E H (.bool (!b)):=by
 intro a w he _;simp [execOp,he.ev h,Op.unary]
theorem D'{op:BinOp}{k:IntKind}{i j:Int}{v:Value}(hx:ev E x=some (.int k i))(hy:ev E y=some (.int k j))
  (hv:∀w,(binOp op T (.int k i) (.int k j)).run P w=.ok v w):Aa P B n ⟨d,.binOp op T x y T',ty,pos,af,g⟩ E H v:=by
 intro a w he _;simp only [execOp,he.ev hx,he.ev hy,A!,hv];cases op<;>rfl
theorem G7{i j:Nat}(hx:ev E x=some (.int .i64 i))(hy:ev E y=some (.int .i64 j))(h:i+j<9223372036854775808):
  Aa P B n ⟨d,.binOp .add T x y T',ty,pos,af,g⟩ E H (.int .i64 (i+j:Nat)):=
 D' hx hy fun w=>by simp [binOp,Op.intArith];exact IntWalk.i64_in _ (by omega)
theorem Iy{i j:Nat}(hx:ev E x=some (.int .u64 i))(hy:ev E y=some (.int .u64 j))(h:i+j<18446744073709551616):
  Aa P B n ⟨d,.binOp .add T x y T',ty,pos,af,g⟩ E H (.int .u64 (i+j:Nat)):=
 D' hx hy fun w=>by simp [binOp,Op.intArith];exact IntWalk.u64_in _ (by omega)
theorem vI{i j:Nat}(hx:ev E x=some (.int .u64 i))(hy:ev E y=some (.int .u64 j)):
  Aa P B n ⟨d,.binOp .add T x y T',ty,pos,af,g⟩ E H (.int .u64 ((i+j)%18446744073709551616:Nat)):=
 D' hx hy fun w=>by simp [binOp,Op.intArith,IntKind.wrap,IntKind.bits,IntKind.signed]
theorem oL{i j:Int}(hx:ev E x=some (.int .i64 i))(hy:ev E y=some (.int .i64 j))(h: -9223372036854775808≤i+j∧i+j<9223372036854775808):
  Aa P B n ⟨d,.binOp .add T x y T',ty,pos,af,g⟩ E H (.int .i64 (i+j)):=
 D' hx hy fun w=>by simp [binOp,Op.intArith];exact IntWalk.i64_in _ (by omega)
theorem II{i j:Nat}(hx:ev E x=some (.int .i64 i))(hy:ev E y=some (.int .i64 j))(h:j≤i∧i<9223372036854775808):
  Aa P B n ⟨d,.binOp .sub T x y T',ty,pos,af,g⟩ E H (.int .i64 (i-j:Nat)):=
 D' hx hy fun w=>by
  simp only [binOp,Op.intArith];rw [show((i-j:Nat):Int)=(i:Int)-j by omega,IntWalk.i64_in _ (by omega)];rfl
theorem KI{i j:Nat}(hx:ev E x=some (.int .u64 i))(hy:ev E y=some (.int .u64 j))(h:j≤i∧i<18446744073709551616):
  Aa P B n ⟨d,.binOp .sub T x y T',ty,pos,af,g⟩ E H (.int .u64 (i-j:Nat)):=
 D' hx hy fun w=>by
  simp only [binOp,Op.intArith];rw [show((i-j:Nat):Int)=(i:Int)-j by omega,IntWalk.u64_in _ (by omega)];rfl
theorem Ob{i j:Int}(hx:ev E x=some (.int .i64 i))(hy:ev E y=some (.int .i64 j))(h: -9223372036854775808≤i-j∧i-j<9223372036854775808):
  Aa P B n ⟨d,.binOp .sub T x y T',ty,pos,af,g⟩ E H (.int .i64 (i-j)):=
 D' hx hy fun w=>by simp [binOp,Op.intArith];exact IntWalk.i64_in _ (by omega)
theorem vR{i j:Nat}(hx:ev E x=some (.int .i64 i))(hy:ev E y=some (.int .i64 j))(h:i*j<9223372036854775808):
  Aa P B n ⟨d,.binOp .mul T x y T',ty,pos,af,g⟩ E H (.int .i64 (i*j:Nat)):=
 D' hx hy fun w=>by simp [binOp,Op.intArith];exact IntWalk.i64_in _ (by rw [←Int.natCast_mul];omega)
theorem wH{k:IntKind}{i j:Nat}(hx:ev E x=some (.int k i))(hy:ev E y=some (.int k j))(h:j≠0):
  Aa P B n ⟨d,.binOp .rem T x y T',ty,pos,af,g⟩ E H (.int k (i%j:Nat)):=
 D' hx hy fun w=>by
  have h0:¬(j:Int)=0:=by omega
  have h1:(i:Int).tmod j=(i%j:Nat):=rfl;simp only [binOp,Op.intDiv,ne_eq,not_true_eq_false,h0,h1,if_false];rfl
theorem U1{k k':IntKind}{i j:Nat}(hx:ev E x=some (.int k i))(hy:ev E y=some (.int k' j)):
  Aa P B n ⟨d,.binOp .shr T x y T',ty,pos,af,g⟩ E H (.int k (i/2^(min j k.bits):Nat)):=by
 intro a w he _
 have h0:¬(j:Int)<0:=by omega
 have h1:(i:Int).fdiv (2^(min j k.bits))=(i/2^(min j k.bits):Nat):=by
  rw [Int.fdiv_eq_ediv_of_nonneg _ (by exact Int.pow_nonneg (by omega))];simp
 simp only [execOp,he.ev hx,he.ev hy,A!];simp [eqGuard,binOp,Op.shift,h0,h1]
theorem jO{k k':IntKind}{i j:Nat}(hx:ev E x=some (.int k i))(hy:ev E y=some (.int k' j))(hk:k.signed=false):
  Aa P B n ⟨d,.binOp .shl T x y T',ty,pos,af,g⟩ E H (.int k (i*2^(min j k.bits)%2^k.bits:Nat)):=by
 intro a w he _
 have h0:¬(j:Int)<0:=by omega
 simp only [execOp,he.ev hx,he.ev hy,A!];simp [eqGuard,binOp,Op.shift,h0,IntKind.wrap,hk]
theorem Tb{k:IntKind}{m:Nat}(hk:k.signed=false)(h:m<2^k.bits):k.wrap (m:Int)=m:=by
 simp only [IntKind.wrap,hk,Bool.false_and,Bool.false_eq_true,if_false]
 have e:((2:Int)^k.bits)=((2^k.bits:Nat):Int):=by simp
 rw [e,←Int.natCast_emod,E! h]
theorem VZ{k:IntKind}{i j:Nat}(hx:ev E x=some (.int k i))(hy:ev E y=some (.int k j))(hk:k.signed=false)(h:i<2^k.bits∧j<2^k.bits):
  Aa P B n ⟨d,.binOp .xor T x y T',ty,pos,af,g⟩ E H (.int k (i ^^^j:Nat)):=
 D' hx hy fun w=>by
  have e:(BitVec.ofInt k.bits (i:Int) ^^^BitVec.ofInt k.bits (j:Int)).toNat=i ^^^j:=by
   rw [BitVec.toNat_xor,BitVec.ofInt_natCast,BitVec.ofInt_natCast,BitVec.toNat_ofNat,BitVec.toNat_ofNat,E! h.1,E! h.2]
  simp only [binOp,Op.intBits,ne_eq,not_true_eq_false,if_false,e,Tb hk (Nat.xor_lt_two_pow h.1 h.2)];rfl
theorem Wh{k:IntKind}{i j:Nat}(hx:ev E x=some (.int k i))(hy:ev E y=some (.int k j))(hk:k.signed=false)(h:i<2^k.bits∧j<2^k.bits):
  Aa P B n ⟨d,.binOp .or T x y T',ty,pos,af,g⟩ E H (.int k (i|||j:Nat)):=
 D' hx hy fun w=>by
  have e:(BitVec.ofInt k.bits (i:Int)|||BitVec.ofInt k.bits (j:Int)).toNat=i|||j:=by
   rw [BitVec.toNat_or,BitVec.ofInt_natCast,BitVec.ofInt_natCast,BitVec.toNat_ofNat,BitVec.toNat_ofNat,E! h.1,E! h.2]
  simp only [binOp,Op.intBits,ne_eq,not_true_eq_false,if_false,e,Tb hk (Nat.or_lt_two_pow h.1 h.2)];rfl
theorem WD{k:IntKind}{i j:Nat}(hx:ev E x=some (.int k i))(hy:ev E y=some (.int k j))(hk:k.signed=false)(h:i<2^k.bits∧j<2^k.bits):
  Aa P B n ⟨d,.binOp .and T x y T',ty,pos,af,g⟩ E H (.int k (i&&&j:Nat)):=
 D' hx hy fun w=>by
  have e:(BitVec.ofInt k.bits (i:Int)&&&BitVec.ofInt k.bits (j:Int)).toNat=i&&&j:=by
   rw [BitVec.toNat_and,BitVec.ofInt_natCast,BitVec.ofInt_natCast,BitVec.toNat_ofNat,BitVec.toNat_ofNat,E! h.1,E! h.2]
  simp only [binOp,Op.intBits,ne_eq,not_true_eq_false,if_false,e,Tb hk (Nat.and_lt_two_pow _ h.2)];rfl
theorem Dr{k:IntKind}{i j:Nat}(hx:ev E x=some (.int k i))(hy:ev E y=some (.int k j)):
  Aa P B n ⟨d,.binOp .lss T x y T',ty,pos,af,g⟩ E H (.bool (decide (i<j))):=D' hx hy fun w=>by simp [binOp,Op.intCmp]
theorem Zr{k:IntKind}{i j:Nat}(hx:ev E x=some (.int k i))(hy:ev E y=some (.int k j)):
  Aa P B n ⟨d,.binOp .leq T x y T',ty,pos,af,g⟩ E H (.bool (decide (i≤j))):=D' hx hy fun w=>by simp [binOp,Op.intCmp]
theorem F6{k:IntKind}{i j:Nat}(hx:ev E x=some (.int k i))(hy:ev E y=some (.int k j)):
  Aa P B n ⟨d,.binOp .gtr T x y T',ty,pos,af,g⟩ E H (.bool (decide (j<i))):=D' hx hy fun w=>by simp [binOp,Op.intCmp]
theorem TU{k:IntKind}{i j:Nat}(hx:ev E x=some (.int k i))(hy:ev E y=some (.int k j)):
  Aa P B n ⟨d,.binOp .geq T x y T',ty,pos,af,g⟩ E H (.bool (decide (j≤i))):=D' hx hy fun w=>by simp [binOp,Op.intCmp]
theorem CD{k:IntKind}{i j:Nat}(hx:ev E x=some (.int k i))(hy:ev E y=some (.int k j)):
  Aa P B n ⟨d,.binOp .eql T x y T',ty,pos,af,g⟩ E H (.bool (decide (i=j))):=
 D' hx hy fun w=>by
  have:((i:Int)==(j:Int))=decide (i=j):=by by_cases h:i=j<;>simp [h];omega
  simp [binOp,Op.intCmp,this]
theorem GE{k:IntKind}{i j:Nat}(hx:ev E x=some (.int k i))(hy:ev E y=some (.int k j)):
  Aa P B n ⟨d,.binOp .neq T x y T',ty,pos,af,g⟩ E H (.bool (decide (i≠j))):=
 D' hx hy fun w=>by
  have:((i:Int) !=(j:Int))=decide (i≠j):=by by_cases h:i=j<;>simp [h];omega
  simp [binOp,Op.intCmp,this]
theorem K3{k:IntKind}{i j:Int}(hx:ev E x=some (.int k i))(hy:ev E y=some (.int k j)):
  Aa P B n ⟨d,.binOp .lss T x y T',ty,pos,af,g⟩ E H (.bool (decide (i<j))):=D' hx hy fun w=>by simp [binOp,Op.intCmp]
theorem Y3{k:IntKind}{i j:Int}(hx:ev E x=some (.int k i))(hy:ev E y=some (.int k j)):
  Aa P B n ⟨d,.binOp .gtr T x y T',ty,pos,af,g⟩ E H (.bool (decide (j<i))):=D' hx hy fun w=>by simp [binOp,Op.intCmp]
theorem ON{k:IntKind}{i j:Int}(hx:ev E x=some (.int k i))(hy:ev E y=some (.int k j)):
  Aa P B n ⟨d,.binOp .geq T x y T',ty,pos,af,g⟩ E H (.bool (decide (j≤i))):=D' hx hy fun w=>by simp [binOp,Op.intCmp]
theorem CT{k:IntKind}{i j:Int}(hx:ev E x=some (.int k i))(hy:ev E y=some (.int k j)):
  Aa P B n ⟨d,.binOp .eql T x y T',ty,pos,af,g⟩ E H (.bool (decide (i=j))):=
 D' hx hy fun w=>by
  have:(i==j)=decide (i=j):=by by_cases h:i=j<;>simp [h]
  simp [binOp,Op.intCmp,this]
theorem Tp{k:IntKind}{i j:Int}(hx:ev E x=some (.int k i))(hy:ev E y=some (.int k j)):
  Aa P B n ⟨d,.binOp .neq T x y T',ty,pos,af,g⟩ E H (.bool (decide (i≠j))):=
 D' hx hy fun w=>by
  have:(i !=j)=decide (i≠j):=by by_cases h:i=j<;>simp [h]
  simp [binOp,Op.intCmp,this]
theorem Lm{i:Nat}(h:i<18446744073709551616):IntKind.u64.wrap (i:Int)=i:=IntWalk.u64_in _ (by omega)
theorem Qv{i:Nat}(h:i<9223372036854775808):IntKind.i64.wrap (i:Int)=i:=IntWalk.i64_in _ (by omega)
theorem iV{i j:Nat}(hx:ev E x=some (.int .u64 i))(hy:ev E y=some (.int .u64 j))(h:i<18446744073709551616∧j<18446744073709551616):
  Aa P B n ⟨d,.binOp .xor T x y T',ty,pos,af,g⟩ E H (.int .u64 (i ^^^j:Nat)):=VZ hx hy rfl h
theorem V3{i j:Nat}(hx:ev E x=some (.int .u64 i))(hy:ev E y=some (.int .u64 j))(h:i<18446744073709551616∧j<18446744073709551616):
  Aa P B n ⟨d,.binOp .or T x y T',ty,pos,af,g⟩ E H (.int .u64 (i|||j:Nat)):=Wh hx hy rfl h
theorem kV{i j:Nat}(hx:ev E x=some (.int .u64 i))(hy:ev E y=some (.int .u64 j))(h:i<18446744073709551616∧j<18446744073709551616):
  Aa P B n ⟨d,.binOp .and T x y T',ty,pos,af,g⟩ E H (.int .u64 (i&&&j:Nat)):=WD hx hy rfl h
theorem nY{i j:Nat}(hx:ev E x=some (.int .u8 i))(hy:ev E y=some (.int .u8 j))(h:i<256∧j<256):
  Aa P B n ⟨d,.binOp .xor T x y T',ty,pos,af,g⟩ E H (.int .u8 (i ^^^j:Nat)):=VZ hx hy rfl h
theorem RI{i j:Nat}(hx:ev E x=some (.int .u8 i))(hy:ev E y=some (.int .u8 j))(h:i<256∧j<256):
  Aa P B n ⟨d,.binOp .or T x y T',ty,pos,af,g⟩ E H (.int .u8 (i|||j:Nat)):=Wh hx hy rfl h
theorem jI{i j:Nat}(hx:ev E x=some (.int .u8 i))(hy:ev E y=some (.int .u8 j))(h:i<256∧j<256):
  Aa P B n ⟨d,.binOp .and T x y T',ty,pos,af,g⟩ E H (.int .u8 (i&&&j:Nat)):=WD hx hy rfl h
theorem Iq{k:IntKind}{i j:Nat}(hx:ev E x=some (.int .u64 i))(hy:ev E y=some (.int k j))(h:j≤64):
  Aa P B n ⟨d,.binOp .shr T x y T',ty,pos,af,g⟩ E H (.int .u64 (i/2^j:Nat)):=by
 have:=U1 (P:=P) (B:=B) (n:=n) (H:=H) (d:=d) (T:=T) (T':=T') (ty:=ty) (pos:=pos) (af:=af) (g:=g) hx hy
 rwa [show min j IntKind.u64.bits=j from S! h]at this
theorem Pc{k:IntKind}{i j:Nat}(hx:ev E x=some (.int .u64 i))(hy:ev E y=some (.int k j))(h:j≤64):
  Aa P B n ⟨d,.binOp .shl T x y T',ty,pos,af,g⟩ E H (.int .u64 (i*2^j%18446744073709551616:Nat)):=by
 have:=jO (P:=P) (B:=B) (n:=n) (H:=H) (d:=d) (T:=T) (T':=T') (ty:=ty) (pos:=pos) (af:=af) (g:=g) hx hy rfl
 rwa [show min j IntKind.u64.bits=j from S! h]at this
theorem mQ{k:IntKind}{i j:Nat}(hx:ev E x=some (.int .u8 i))(hy:ev E y=some (.int k j))(h:j≤8):
  Aa P B n ⟨d,.binOp .shr T x y T',ty,pos,af,g⟩ E H (.int .u8 (i/2^j:Nat)):=by
 have:=U1 (P:=P) (B:=B) (n:=n) (H:=H) (d:=d) (T:=T) (T':=T') (ty:=ty) (pos:=pos) (af:=af) (g:=g) hx hy
 rwa [show min j IntKind.u8.bits=j from S! h]at this
theorem JX{k k':IntKind}{i:Nat}[h1:Ar P T (.int k)][h2:Ar P T' (.int k')](hx:ev E x=some (.int k i))(h:k'.wrap (i:Int)=i):
  Aa P B n ⟨d,.convert T T' x,ty,pos,af,g⟩ E H (.int k' i):=by
 intro a w he _;simp [execOp,he.ev hx,convert,Bh h1.get,Bh h2.get,Conv.intToInt,h]
theorem uP{k k':IntKind}{i:Nat}[h1:Ar P T (.int k)][h2:Ar P T' (.int k')](hx:ev E x=some (.int k i))(hk:k'.signed=false):
  Aa P B n ⟨d,.convert T T' x,ty,pos,af,g⟩ E H (.int k' (i%2^k'.bits:Nat)):=by
 intro a w he _;simp [execOp,he.ev hx,convert,Bh h1.get,Bh h2.get,Conv.intToInt,IntKind.wrap,hk]
theorem TA{k:IntKind}{i:Nat}[h1:Ar P T (.int k)][h2:Ar P T' (.int .u8)](hx:ev E x=some (.int k i)):
  Aa P B n ⟨d,.convert T T' x,ty,pos,af,g⟩ E H (.int .u8 (i%256:Nat)):=uP hx rfl
theorem Ss{f k b o:Nat}[hf:At P T f k](hx:ev E x=some (.pointer (some ⟨b,o,none⟩))):
  Aa P B n ⟨d,.fieldAddr T x f,ty,pos,af,g⟩ E H (.pointer (some ⟨b,o+k,none⟩)):=by
 intro a w he _;obtain⟨fs,h1,gd,h2,h3,m,h4,h5⟩:=hf.get;simp only [execOp,he.ev hx,Instr.fieldAt,A!,Bh h1,A_,h2,D!,A?,fieldPlace,h4,h5,if_false,h3];by_cases hk:k=0<;>simp [D?,hk]
theorem GL{b i:Nat}{v:Value}{s:Prop}[hT:B9 P T](hx:ev E x=some (.pointer (some ⟨b,i,none⟩)))[hr:Rd B H b i v s](hs:s):
  Aa P B n ⟨d,.load T x,ty,pos,af,g⟩ E H v:=by
 intro a w he hw;simp [execOp,he.ev hx,ah,D!,loadVar,hT.get,hr.get w hw hs]
theorem Z6{p:Option Addr}{k c:Nat}{e:TypeId}[hT:Ar P T (.slice e)](hx:ev E x=some (.slice p k c)):
  Aa P B n ⟨d,.call ⟨.builtin .len,#[x],#[T]⟩,ty,pos,af,g⟩ E H (.int .i64 k):=by
 intro a w he _;simp [execOp,he.ev hx,resolve,invoke,builtin,ai,Bh hT.get,goInt]
theorem XD{s:ByteArray}[hT:Ar P T .string](hx:ev E x=some (.string s)):
  Aa P B n ⟨d,.call ⟨.builtin .len,#[x],#[T]⟩,ty,pos,af,g⟩ E H (.int .i64 s.size):=by
 intro a w he _;simp [execOp,he.ev hx,resolve,invoke,builtin,ai,Bh hT.get,goInt]
theorem fS{p:Option Addr}{k c:Nat}{e:TypeId}[hT:Ar P T (.slice e)](hx:ev E x=some (.slice p k c)):
  Aa P B n ⟨d,.call ⟨.builtin .cap,#[x],#[T]⟩,ty,pos,af,g⟩ E H (.int .i64 c):=by
 intro a w he _;simp [execOp,he.ev hx,resolve,invoke,builtin,Builtin.cap_,Bh hT.get,goInt]
theorem UF{b o k c i sz:Nat}{e:TypeId}{ik:IntKind}[hT:Ar P T (.slice e)][hz:Bg P e sz](hx:ev E x=some (.slice (some ⟨b,o,none⟩) k c))
  (hy:ev E y=some (.int ik i))(h:i<k):Aa P B n ⟨d,.indexAddr T x y,ty,pos,af,g⟩ E H (.pointer (some ⟨b,o+i*sz,none⟩)):=by
 intro a w he _;simp only [execOp,he.ev hx,he.ev hy,ac,asIntOf,A!,A?,A_,Bh hT.get]
 have h0:(0:Int)≤i∧(i:Int)<k:=by omega
 simp only [h0,and_self,if_true,A!,hz.get,A_,A?,Int.toNat_natCast];by_cases hk:i*sz=0<;>simp [D?,hk]
theorem Mm{b o len i sz:Nat}{e:TypeId}{ik:IntKind}[hT:Ar P T (.array len e)][hz:Bg P e sz](hx:ev E x=some (.pointer (some ⟨b,o,none⟩)))
  (hy:ev E y=some (.int ik i))(h:i<len):Aa P B n ⟨d,.indexAddr T x y,ty,pos,af,g⟩ E H (.pointer (some ⟨b,o+i*sz,none⟩)):=by
 intro a w he _;simp only [execOp,he.ev hx,he.ev hy,ac,asIntOf,A!,A?,A_,Bh hT.get,D!]
 have h0:(0:Int)≤i∧(i:Int)<len:=by omega
 simp only [h0,and_self,if_true,A!,hz.get,A_,A?,Int.toNat_natCast];by_cases hk:i*sz=0<;>simp [D?,hk]
theorem Pm{b o len i sz q:Nat}{e:TypeId}{ik:IntKind}[hT:Ar P T (.array len e)][hz:Bg P e sz](hx:ev E x=some (.pointer (some ⟨b,o,none⟩)))
  (hy:ev E y=some (.int ik i))(h:i<len)(hq:i*sz=q):Aa P B n ⟨d,.indexAddr T x y,ty,pos,af,g⟩ E H (.pointer (some ⟨b,o+q,none⟩)):=hq▸Mm hx hy h
end
end
section
structure Br where
 ds:List Deferred
 r:Option Nat:=none
def fr(r:Option Nat):Fence:={Fence.wide with round:=r}
theorem Pu{r:Option Nat}{n:Nat}{P:Program}{f:FuncId}{args:Array Value}{w:World}{R:Ending→World→Prop}(h:Calls P f args w R):CallsIn (fr r) n P f args w R:=
 callsIn_wide (n:=n).2 h
theorem xN{r:Option Nat}{n:Nat}{P:Program}{row:String}{args:Array Value}{w:World}{R:Value→World→Prop}(h:Rows P row args w R):RowsIn (fr r) n P row args w R:=
 fun c cs _=>let⟨v,w',hr,hs⟩:=h c cs;⟨v,w',hr,stepsIn_wide.2 hs⟩
theorem M3{r:Option Nat}{n:Nat}{P:Program}{o:Oper}{a:Act}{w:World}{K:Act→World→Prop}{Q:Exit→Act→World→Prop}(ho:∀c,o.op≠ .defer c)(h:o.wp P a w K Q):o.wpIn (fr r) n P a w K Q:=by
 refine⟨fun _ _=>trivial,?_⟩;rw [Oper.semAt_eq _ _ _ ho];unfold H! at h;generalize(execOp a.eval o).run P w=z at h⊢
 cases z with
 |ok x w'=>
  cases x<;>simp only [C?]at h<;>first
   |exact h
   |exact h.elim
   |exact⟨fun h0=>by simp [fr,Fence.wide]at h0,Pu h⟩
   |exact⟨fun h0=>by simp [fr,Fence.wide]at h0,xN h⟩
 |halt x w'=>cases x<;>simp only [C?]at h<;>first|exact h|exact h.elim
theorem Xh{P:Program}{a:Act}{o:Oper}{c:Call}(ho:o.op=.defer c)(w:World):(∃d w',(execOp a.eval o).run P w=.ok (.defer d) w')∨∃x w',(execOp a.eval o).run P w=.halt x w':=by
 unfold execOp;rw [ho];simp only [A!]
 cases h:(resolve a.eval c o.type).run P w with
 |ok d w'=>exact .inl ⟨d,w',by simp [Result.andThen]⟩
 |halt x w'=>exact .inr ⟨x,w',rfl⟩
def A7(B:World)(Q:Exit→Act→World→Prop)(e:Exit)(n:Nat)(E:Ay)(D:Br)(H:HP):Prop:=
 ∀a w,CP n E a→a.defers=D.ds→Sat B H w→Q e a w
def WP(P:Program)(B:World)(c:Code)(Q:Exit→Act→World→Prop)(n:Nat)(E:Ay)(D:Br)(H:HP):Prop:=
 ∀a w,CP n E a→a.defers=D.ds→Sat B H w→c.wpIn (fr D.r) 0 P Q a w
def WL(P:Program)(B:World)(ops:Array Oper)(Q:Exit→Act→World→Prop)(l:List Oper)(n:Nat)(E:Ay)(D:Br)(H:HP):Prop:=
 ∀a w,CP n E a→a.defers=D.ds→Sat B H w→wpListIn (fr D.r) 0 P ops Q l a w
def CE(P:Program)(B:World)(n:Nat)(o:Oper)(E:Ay)(D:Br)(H:HP)(Post:Value→HP→Prop):Prop:=
 ∀a w,CP n E a→a.defers=D.ds→Sat B H w→∀(K:Act→World→Prop) (Q:Exit→Act→World→Prop),
  (∀v H' w',Post v H'→Sat B H' w'→K (a.put o.dst v) w')→o.wp P a w K Q
def Fn(P:Program)(B:World)(f:FuncId)(args:List Value)(H:HP)(Post:Value→HP→Prop):Prop:=
 ∀w,Sat B H w→Calls P f args.toArray w fun e w'=>∃v H',e=.returned v∧Post v H'∧Sat B H' w'
theorem Fn.mono{P:Program}{B:World}{f:FuncId}{args:List Value}{H:HP}{A C:Value→HP→Prop}(h:Fn P B f args H A)(hc:∀v H',A v H'→C v H'):Fn P B f args H C:=
 fun w hw=>(h w hw).mono fun _ _ ⟨v,H',e,a,s⟩=>⟨v,H',e,hc v H' a,s⟩
class Ad(P:Program)(f:FuncId):Prop where
 get:∀args w,(callFunc f args).run P w=.ok (.enter f args) w
def DB(E:Ay):List Operand→Option (List Value)
 |[]=>some []
 |x::r=>match ev E x with
  |some v=>match DB E r with
   |some vs=>some (v::vs)
   |none=>none
  |none=>none
theorem HN{n:Nat}{E:Ay}{a:Act}(h:CP n E a):∀{xs:List Operand} {vs:List Value},DB E xs=some vs→xs.map a.eval=vs:=by
 intro xs
 induction xs with
 |nil=>intro vs e;simpa [DB]using e
 |cons x r ih=>
  intro vs e;simp only [DB]at e
  cases hx:ev E x with
  |none=>simp [hx]at e
  |some v=>
   cases hr:DB E r with
   |none=>simp [hx,hr]at e
   |some us=>
    simp only [hx,hr,K_.injEq]at e;subst e;simp [h.ev hx,ih hr]
section
variable{P:Program}{B:World}{n:Nat}{E:Ay}{D:Br}{H:HP}{ops:Array Oper}{Q:Exit→Act→World→Prop}{rest:List Oper}
 {op:Op} {ty:TypeId} {pos:String} {af:Array Edge}
def NU(P:Program)(B:World)(n:Nat)(o:Oper)(E:Ay)(D:Br)(H:HP)(Post:Value→HP→Prop):Prop:=
 ∀a w,CP n E a→a.defers=D.ds→Sat B H w→∀(K:Act→World→Prop) (Q:Exit→Act→World→Prop),
  (∀v H' w',Post v H'→Sat B H' w'→K (a.put o.dst v) w')→o.wpIn (fr D.r) 0 P a w K Q
theorem CE.I0{o:Oper}{Post:Value→HP→Prop}(he:CE P B n o E D H Post){a:Act}{w:World}(h1:CP n E a)(h2:a.defers=D.ds)(h3:Sat B H w):∀c,o.op≠ .defer c:=by
 intro c hc;have h:=he a w h1 h2 h3 (fun a' _=>a'.defers=a.defers) (fun _ _ _=>False) (fun v H' w' _ _=>by simp [Act.put];cases o.dst<;>rfl);unfold H! at h;rcases Xh (a:=a) (P:=P) hc w with⟨d,w',e⟩|⟨x,w',e⟩
 ·rw [e]at h;have h4:({a with defers:=d::a.defers}.put o.dst undef).defers=a.defers:=h
  have h5:({a with defers:=d::a.defers}.put o.dst undef).defers=d::a.defers:=by cases o.dst<;>rfl
  rw [h5]at h4;exact absurd (congrArg List.length h4) (by simp)
 ·rw [e]at h;cases x<;>exact h.elim
theorem CE.P3{o:Oper}{Post:Value→HP→Prop}(he:CE P B n o E D H Post):NU P B n o E D H Post:=
 fun a w h1 h2 h3 K Q hk=>M3 (he.I0 h1 h2 h3) (he a w h1 h2 h3 K Q hk)
theorem Aa.P3{o:Oper}{v:Value}(hv:Aa P B n o E H v):NU P B n o E D H (fun v' H'=>v'=v∧H'=H):=by
 intro a w h1 h2 h3 K Q hk;refine M3 (fun c hc=>?_) ?_
 ·rcases Xh (a:=a) (P:=P) hc w with⟨d,w',e⟩|⟨x,w',e⟩<;>rw [hv a w h1 h3]at e<;>cases e
 ·simp only [H!,hv a w h1 h3,C?];exact hk _ _ _ ⟨rfl,rfl⟩ h3
theorem qH(h:A7 B Q .normal n E D H):WL P B ops Q [] n E D H:=fun a w h1 h2 h3=>wpListIn_nil (h a w h1 h2 h3)
theorem Me{t:Nat}{Post:Value→HP→Prop}(he:NU P B n ⟨some t,op,ty,pos,af,none⟩ E D H Post)(ht:H? t n=true)
  (next:∀v H',Post v H'→WL P B ops Q rest n ((t,v)::E) D H'):WL P B ops Q (⟨some t,op,ty,pos,af,none⟩::rest) n E D H:=by
 intro a w h1 h2 h3;unfold wpListIn;rw [if_pos (by simp [B!])];exact he a w h1 h2 h3 _ _ fun v H' w' hp hs=>next v H' hp _ w' (h1.put (by simpa using ht) v) (by simp [Act.put,h2]) hs
theorem pW{Post:Value→HP→Prop}(he:NU P B n ⟨none,op,ty,pos,af,none⟩ E D H Post)
  (next:∀v H',Post v H'→WL P B ops Q rest n E D H'):WL P B ops Q (⟨none,op,ty,pos,af,none⟩::rest) n E D H:=by
 intro a w h1 h2 h3;unfold wpListIn;rw [if_pos (by simp [B!])];exact he a w h1 h2 h3 _ _ fun v H' w' hp hs=>next v H' hp _ w' h1 h2 hs
theorem FU{t:Nat}{v:Value}(hv:Aa P B n ⟨some t,op,ty,pos,af,none⟩ E H v)(ht:H? t n=true)
  (next:WL P B ops Q rest n ((t,v)::E) D H):WL P B ops Q (⟨some t,op,ty,pos,af,none⟩::rest) n E D H:=
 Me hv.P3 ht (by rintro _ _ ⟨rfl,rfl⟩;exact next)
theorem Af{t:Nat}{Post:Value→HP→Prop}(he:CE P B n ⟨some t,op,ty,pos,af,none⟩ E D H Post)(ht:H? t n=true)
  (next:∀v H',Post v H'→WL P B ops Q rest n ((t,v)::E) D H'):WL P B ops Q (⟨some t,op,ty,pos,af,none⟩::rest) n E D H:=Me he.P3 ht next
theorem Bj{Post:Value→HP→Prop}(he:CE P B n ⟨none,op,ty,pos,af,none⟩ E D H Post)
  (next:∀v H',Post v H'→WL P B ops Q rest n E D H'):WL P B ops Q (⟨none,op,ty,pos,af,none⟩::rest) n E D H:=pW he.P3 next
theorem cJ{t j tj:Nat}{b want:Bool}(hj:(ops[j]?).bind (·.dst)=some tj)(hb:lk E tj=some (.bool b))(ht:H? t n=true)
  (yes:b=want→WL P B ops Q (⟨some t,op,ty,pos,af,none⟩::rest) n E D H)
  (no:b= !want→WL P B ops Q rest n ((t,undef)::E) D H):WL P B ops Q (⟨some t,op,ty,pos,af,some (j,want)⟩::rest) n E D H:=by
 intro a w h1 h2 h3
 have hy:yielded ops a.tmps j=some b:=by
  have:=h1.2 _ _ hb
  simp [yielded,hj,this]
 unfold wpListIn;by_cases h:b=want
 ·have:=yes h a w h1 h2 h3
  unfold wpListIn at this;rw [if_pos (by simp [B!])]at this;rw [if_pos (by simp [B!,hy,h])];exact this
 ·rw [if_neg (by simp [B!,hy,h])];exact⟨fun _ _=>trivial,no (by cases b<;>cases want<;>simp_all) _ w (h1.put (by simpa using ht) undef) (by simp [Act.put,h2]) h3⟩
variable{c x y:Code}{id:Nat}
theorem fR(h:WP P B x (Exit.then (y.wpIn (fr D.r) 0 P Q) Q) n E D H):WP P B (.seq x y) Q n E D H:=fun a w h1 h2 h3=>wpIn_seq (h a w h1 h2 h3)
theorem lT{l:List Oper}(hl:ops.toList=l)(h:WL P B ops Q l n E D H):WP P B (.region id ops false) Q n E D H:=
 fun a w h1 h2 h3=>wpIn_region_list (by rw [hl];exact h a w h1 h2 h3)
theorem Od{t:Operand}{b:Bool}(hb:ev E t=some (.bool b))(h1:b=true→WP P B x Q n E D H)(h2:b=false→WP P B y Q n E D H):
  WP P B (.cond t x y) Q n E D H:=by
 intro a w e1 e2 e3;refine wpIn_cond (e1.ev hb) ?_;cases b
 ·exact h2 rfl a w e1 e2 e3
 ·exact h1 rfl a w e1 e2 e3
theorem yY{t:Operand}{p:Prop}[Decidable p](hb:ev E t=some (.bool (decide p)))(h1:p→WP P B x Q n E D H)(h2:¬p→WP P B y Q n E D H):
  WP P B (.cond t x y) Q n E D H:=
 Od hb (fun h=>h1 (by simpa using h)) (fun h=>h2 (by simpa using h))
theorem sF(h:WP P B c (Exit.inBlock id Q) n E D H):WP P B (.block id c) Q n E D H:=fun a w h1 h2 h3=>wpIn_block (h a w h1 h2 h3)
theorem lL(h:A7 B Q .normal n E D H):WP P B .skip Q n E D H:=fun a w h1 h2 h3=>wpIn_skip (h a w h1 h2 h3)
theorem oU(h:A7 B Q (.exit id) n E D H):WP P B (.exit id) Q n E D H:=fun a w h1 h2 h3=>wpIn_exit (h a w h1 h2 h3)
theorem sN(h:A7 B Q .ret n E D H):WP P B .ret Q n E D H:=fun a w h1 h2 h3=>wpIn_ret (h a w h1 h2 h3)
def X'(B:World)(n:Nat)(D:Br){α:Type}(EE:α→Ay)(HH:α→HP)(φ:α→Prop)(μ:α→Nat)(m:Nat):Act→World→Prop:=
 fun a w=>∃y,φ y∧μ y<m∧CP n (EE y) a∧a.defers=D.ds∧Sat B (HH y) w
theorem Bk{α:Type}(EE:α→Ay)(HH:α→HP)(φ:α→Prop)(μ:α→Nat)(x0:α)(h0:φ x0)(s0:Sub E (EE x0))(e0:H=HH x0)
  (round:∀x,φ x→WP P B c (Exit.then (X' B n D EE HH φ μ (μ x)) Q) n (EE x) D (HH x)):WP P B (.loop c) Q n E D H:=by
 intro a w h1 h2 h3;refine wpIn_loop_ghost (fun m a w=>∃y,φ y∧μ y=m∧CP n (EE y) a∧a.defers=D.ds∧Sat B (HH y) w) (μ x0) ⟨x0,h0,rfl,h1.sub s0,h2,e0▸h3⟩ ?_;rintro m a w ⟨y,hy,rfl,g1,g2,g3⟩;refine wpIn_mono (round y hy a w g1 g2 g3) ?_;intro e a' w' hq
 cases e with
 |normal=>obtain⟨z,k1,k2,k3,k4,k5⟩:=hq;exact⟨μ z,k2,z,k1,rfl,k3,k4,k5⟩
 |exit id=>exact hq
 |goto l=>exact hq
 |ret=>exact hq
 |panic ch=>exact hq
 |outgrown=>exact hq
theorem YA(h:WP P B y Q n E D H):A7 B (Exit.then (y.wpIn (fr D.r) 0 P Q) Q) .normal n E D H:=h
theorem Y6{K:Act→World→Prop}(h:A7 B Q .ret n E D H):A7 B (Exit.then K Q) .ret n E D H:=h
theorem Wa{K:Act→World→Prop}(h:A7 B Q (.exit id) n E D H):A7 B (Exit.then K Q) (.exit id) n E D H:=h
theorem Uy(h:A7 B Q .ret n E D H):A7 B (Exit.inBlock id Q) .ret n E D H:=h
theorem Vi(h:A7 B Q .normal n E D H):A7 B (Exit.inBlock id Q) .normal n E D H:=h
theorem Yz(h:A7 B Q .normal n E D H):A7 B (Exit.inBlock id Q) (.exit id) n E D H:=by
 intro a w h1 h2 h3;simp only [Exit.inBlock,if_true];exact h a w h1 h2 h3
theorem vE{i:Nat}(hi:Q? i id=false)(h:A7 B Q (.exit i) n E D H):A7 B (Exit.inBlock id Q) (.exit i) n E D H:=by
 intro a w h1 h2 h3
 have:i≠id:=fun e=>by subst e;simp at hi
 simp only [Exit.inBlock,this,if_false];exact h a w h1 h2 h3
theorem BW{α:Type}{EE:α→Ay}{HH:α→HP}{φ:α→Prop}{μ:α→Nat}{m:Nat}(z:α)(h0:φ z)(hm:μ z<m)(s0:Sub E (EE z))(e0:H=HH z):
  A7 B (Exit.then (X' B n D EE HH φ μ m) Q) .normal n E D H:=
 fun _ _ h1 h2 h3=>⟨z,h0,hm,h1.sub s0,h2,e0▸h3⟩
def Nd(B:World)(n:Nat)(D:Br){α:Type}(EE:α→Ay)(HH:α→HP)(φ:α→Prop)(Q:Exit→Act→World→Prop):Exit→Act→World→Prop
 | .normal,a,w=>∃y,φ y∧CP n (EE y) a∧a.defers=D.ds∧Sat B (HH y) w
 |e,a,w=>Q e a w
theorem CR{α:Type}(EE:α→Ay)(HH:α→HP)(φ:α→Prop)(h1:WP P B c (Nd B n D EE HH φ Q) n E D H)
  (h2:∀z,φ z→A7 B Q .normal n (EE z) D (HH z)):WP P B c Q n E D H:=by
 intro a w e1 e2 e3;refine wpIn_mono (h1 a w e1 e2 e3) ?_;intro e a' w' hq
 cases e with
 |normal=>obtain⟨z,k1,k3,k4,k5⟩:=hq;exact h2 z k1 a' w' k3 k4 k5
 |exit id=>exact hq
 |goto l=>exact hq
 |ret=>exact hq
 |panic ch=>exact hq
 |outgrown=>exact hq
theorem A8{α:Type}{EE:α→Ay}{HH:α→HP}{φ:α→Prop}(z:α)(h0:φ z)(s0:Sub E (EE z))(e0:H=HH z):
  A7 B (Nd B n D EE HH φ Q) .normal n E D H:=fun _ _ h1 h2 h3=>⟨z,h0,h1.sub s0,h2,e0▸h3⟩
theorem VE{α:Type}{EE:α→Ay}{HH:α→HP}{φ:α→Prop}(h:A7 B Q .ret n E D H):A7 B (Nd B n D EE HH φ Q) .ret n E D H:=h
theorem Zt{α:Type}{EE:α→Ay}{HH:α→HP}{φ:α→Prop}(h:A7 B Q (.exit id) n E D H):A7 B (Nd B n D EE HH φ Q) (.exit id) n E D H:=h
theorem Ao{H':HP}(e:H=H')(h:WP P B c Q n E D H'):WP P B c Q n E D H:=e▸h
theorem BF{H':HP}{l:List Oper}(e:H=H')(h:WL P B ops Q l n E D H'):WL P B ops Q l n E D H:=e▸h
theorem xI{α:Type}{A:α→HP}{R:HP}(h:∀z,WP P B c Q n E D (A z*R)):WP P B c Q n E D (HP.ex A*R):=by
 intro a w h1 h2 h3;rw [HP.Gb]at h3;obtain⟨z,h4⟩:=Sat.ex.1 h3;exact h z a w h1 h2 h4
theorem yM{p:Prop}{R:HP}(h:p→WP P B c Q n E D R):WP P B c Q n E D (HP.pr p*R):=by
 intro a w h1 h2 h3;obtain⟨hp,h4⟩:=Sat.pr.1 h3;exact h hp a w h1 h2 h4
theorem Pz{E':Ay}(s:Sub E E')(h:WP P B c Q n E' D H):WP P B c Q n E D H:=fun a w h1 h2 h3=>h a w (h1.sub s) h2 h3
def IL:Nat→List Value→Ay
 |_,[]=>[]
 |k,v::r=>(k,v)::IL (k+1) r
theorem LA:∀(vs:List Value) (k t:Nat) (v:Value),lk (IL k vs) t=some v→k≤t∧vs[t-k]?=some v
 |[],_,_,_,h=>by cases h
 |u::r,k,t,v,h=>by
  simp only [IL,lk]at h;cases hb:Q? k t
  ·rw [hb]at h;obtain⟨h1,h2⟩:=LA r (k+1) t v h;refine⟨by omega,?_⟩;rw [show t-k=(t-(k+1))+1 by omega];simpa using h2
  ·rw [hb]at h;obtain rfl:=F_ hb;exact⟨W_ _,by simpa using h⟩
def HV(P:Program)(B:World)(fn:Func)(Post:Value→HP→Prop):Exit→Act→World→Prop:=
 bodyPost P fn fun e w'=>∃v H',e=.returned v∧Post v H'∧Sat B H' w'
theorem dH{f:FuncId}{fn:Func}{args:List Value}{Post:Value→HP→Prop}(hf:P.funcs[f]?=some fn)(hb:fn.body=some c)(hn:fn.ntmps=n)
  (ha:am args.length n=true)(h:WP P B c (HV P B fn Post) n (IL 0 args) ⟨[],none⟩ H):Fn P B f args H Post:=by
 intro w hw;refine calls_of_wp hf hb (wpIn_wide.1 (h _ w ⟨?_,?_⟩ rfl hw))
 ·have:args.length≤n:=by simpa using ha
  simp [hn];omega
 ·intro t v e;obtain⟨_,h2⟩:=LA args 0 t v e;simp only [Nat.sub_zero]at h2;have hlt:t<args.length:=(F?.1 h2).1;simp only [];rw [Array.getElem?_append_left (by simpa using hlt)];simpa using h2
def Ew:List Value→Value
 |[v]=>v
 |vs=>.tuple vs.toArray
theorem I3{fn:Func}{a:Act}{ts:List Nat}{vs:List Value}(hr:fn.results=(ts.map I?).toArray)(he:CP n E a)
  (hv:DB E (ts.map Operand.tmp)=some vs)(w:World):(results fn a.tmps).run P w=.ok (Ew vs) w:=by
 have h1:=HN he hv
 have h2:∀f:ResultVar→Sem Value,(∀t,f (.tmp t)=Pure.pure (a.tmps.getD t undef))→fn.results.mapM f=Pure.pure vs.toArray:=by
  intro f hf
  have h3:List.mapM (f ∘ I?) ts=Pure.pure (ts.map fun t=>a.tmps.getD t undef):=by
   rw [show f ∘ I?=fun t=>Pure.pure (a.tmps.getD t undef)from funext hf];exact List.mapM_pure ..
  rw [hr,List.mapM_toArray,List.mapM_map,h3,map_pure,←h1,aj];rfl
 unfold results;rw [h2 _ (fun _=>rfl)];simp only [pure_bind,A?];congr 1
 match vs with
 |[]=>rfl
 |[v]=>rfl
 |u::v::r=>
  rw [dif_neg (by simp)];rfl
theorem ZA{r:Option Nat}{fn:Func}{Post:Value→HP→Prop}{ts:List Nat}{vs:List Value}(hr:fn.results=(ts.map I?).toArray)(hv:DB E (ts.map Operand.tmp)=some vs)
  (hp:Post (Ew vs) H):A7 B (HV P B fn Post) .ret n E ⟨[],r⟩ H:=
 fun _ w h1 h2 h3=>⟨h2,_,I3 hr h1 hv w,_,_,rfl,hp,h3⟩
theorem OD{r:Option Nat}{fn:Func}{Post:Value→HP→Prop}{ts:List Nat}{vs:List Value}(hr:fn.results=(ts.map I?).toArray)(hv:DB E (ts.map Operand.tmp)=some vs)
  (hp:Post (Ew vs) H):A7 B (HV P B fn Post) .normal n E ⟨[],r⟩ H:=
 fun _ w h1 h2 h3=>⟨h2,_,I3 hr h1 hv w,_,_,rfl,hp,h3⟩
end
end
section
class HR(H:HP)(b o:Nat)(l:outParam (List Value))(R:outParam HP):Prop where
 eq:H=HP.AA b o l*R
instance(b o:Nat)(l:List Value):HR (HP.AA b o l) b o l HP.BC:=⟨(HP.Fz _).symm⟩
instance(priority:=2000)(C:HP)(b o:Nat)(l:List Value):HR (HP.AA b o l*C) b o l C:=⟨rfl⟩
instance(A C R:HP)(b o:Nat)(l:List Value)[h:HR A b o l R]:HR (A*C) b o l (R*C):=⟨by rw [h.eq,HP.assoc]⟩
instance(A C R:HP)(b o:Nat)(l:List Value)[h:HR C b o l R]:HR (A*C) b o l (A*R):=⟨by rw [h.eq,HP.CF]⟩
theorem Sat.cells{B:World}{b o:Nat}{l:List Value}{R:HP}{w:World}(h:Sat B (HP.AA b o l*R) w)(j:Nat)(v:Value)(e:l[j]?=some v):
  w.cell? ⟨b,o+j,none⟩=some v:=by
 obtain⟨_,r,hr,hl⟩:=h.left;refine hl.cell b (o+j) v ?_;rw [show r=_ from hr];simp [e]
theorem Sat.I5{P:Program}{B:World}{b:Nat}:∀(vs:List Value) (o i:Nat) (l:List Value) (R:HP) (w:World),vs.length≤l.length→(∀v∈vs,v.oneCell'=true)→
  Sat B (HP.AA b (o+i) l*R) w→
  ∃w',(storeCells ⟨b,o,none⟩ vs i).run P w=.ok () w'∧Sat B (HP.AA b (o+i) (vs++l.drop vs.length)*R) w'
 |[],o,i,l,R,w,_,_,h=>⟨w,rfl,by simpa using h⟩
 |v::vs,o,i,[],R,w,hl,_,h=>by simp at hl
 |v::vs,o,i,u::l,R,w,hl,hv,h=>by
  have hU:CH (HP.AA b (o+i) (u::l)*R) b (o+i+0) v (HP.AA b (o+i) (v::l)*R) True:=inferInstance;obtain⟨⟨u',hc⟩,hf,hs⟩:=Sat.store hU h trivial;simp only [N_]at hc hf hs
  have ha:D? ⟨b,o,none⟩ i=⟨b,o+i,none⟩:=by by_cases hi:i=0<;>simp [D?,hi]
  have hs':Sat B (HP.AA b (o+(i+1)) l*(HP.AA b (o+i) [v]*R)) (w.setCell ⟨b,o+i,none⟩ v):=by
   rw [show(v::l)=[v]++l from rfl,HP.E3]at hs;rw [HP.CF,←HP.assoc];exact hs
  obtain⟨w',h1,h2⟩:=Sat.I5 vs o (i+1) l _ _ (by simpa using hl) (fun x hx=>hv x (by simp [hx])) hs';refine⟨w',?_,?_⟩
  ·simp only [storeCells,A!,ha];rw [run_store P w _ v _ (hv v (by simp))];simp only [hc,hf];exact h1
  ·rw [show(v::vs)++List.drop (v::vs).length (u::l)=[v]++(vs++l.drop vs.length)from rfl,HP.E3,HP.assoc,HP.CF];exact h2
section
variable{P:Program}{B:World}{n:Nat}{E:Ay}{D:Br}{H:HP}{d:Option Tmp}{T T' ty:TypeId}{pos:String}{af:Array Edge}{g:Option (Nat×Bool)}{x y:Operand}
theorem EY{b i:Nat}{v:Value}{H':HP}{s:Prop}[hT:B9 P T](hx:ev E x=some (.pointer (some ⟨b,i,none⟩)))(hy:ev E y=some v)(hv:v.oneCell'=true)
  [hU:CH H b i v H' s](hs:s):CE P B n ⟨d,.store T x y,ty,pos,af,g⟩ E D H (fun v H''=>v=undef∧H''=H'):=by
 intro a w h1 _ h3 K Q hk;obtain⟨⟨u,hc⟩,hf,hs'⟩:=Sat.store hU h3 hs
 have hcs:v.cells= #[v]:=by cases v<;>first|rfl|cases hv
 have hrun:(execOp a.eval ⟨d,.store T x y,ty,pos,af,g⟩).run P w=.ok .skip (w.setCell ⟨b,i,none⟩ v):=by
  simp only [execOp,h1.ev hx,h1.ev hy,ad,D!,A!,A?,A_,storeVar,hT.size,hcs];simp [storeCells,D?,run_store P w ⟨b,i,none⟩ v _ hv,hc,hf]
 simp only [H!,hrun,C?];exact hk undef H' _ ⟨rfl,rfl⟩ hs'
theorem Dz{b i k:Nat}{cs l:List Value}{R:HP}[hT:EQ P T k](hx:ev E x=some (.pointer (some ⟨b,i,none⟩)))(hy:ev E y=some (.agg cs.toArray))
  (hl:cs.length=k∧l.length=k)(hv:∀v∈cs,v.oneCell'=true)
  [hU:HR H b i l R]:CE P B n ⟨d,.store T x y,ty,pos,af,g⟩ E D H (fun v H''=>v=undef∧H''=HP.AA b i cs*R):=by
 intro a w h1 _ h3 K Q hk;rw [hU.eq]at h3;obtain⟨w',hw1,hw2⟩:=Sat.I5 (P:=P) cs i 0 l R w (by omega) hv h3
 have hrun:(execOp a.eval ⟨d,.store T x y,ty,pos,af,g⟩).run P w=.ok .skip w':=by
  simp only [execOp,h1.ev hx,h1.ev hy,ad,D!,A!,A?,A_,storeVar,hT.size,Value.cells];simp [hl.1,hw1]
 simp only [H!,hrun,C?];refine hk undef _ _ ⟨rfl,rfl⟩ ?_;rw [List.drop_eq_nil_of_le (by omega)]at hw2;simpa using hw2
theorem FD{z:Value}{l:List Value}[hz:BO P T z](hl:z.cells.toList=l):
  CE P B n ⟨d,.alloc T,ty,pos,af,g⟩ E D H (fun v H'=>∃b,v=.pointer (some ⟨b,0,none⟩)∧H'=HP.AA b 0 l*H):=by
 intro a w _ _ h3 K Q hk
 have hrun:(execOp a.eval ⟨d,.alloc T,ty,pos,af,g⟩).run P w=.ok (.value (.pointer (some ⟨w.heap.size,0,none⟩))) (w.alloc (.cells z.cells T)):=by
  simp [execOp,Instr.alloc,hz.get,newVar,newRow]
 simp only [H!,hrun,C?];exact hk _ _ _ ⟨w.heap.size,rfl,rfl⟩ (hl▸h3.alloc z.cells T)
theorem DP{v:Value}{l:List Value}(hx:ev E x=some v)(hl:v.cells.toList=l):
  CE P B n ⟨d,.box T x,ty,pos,af,g⟩ E D H (fun v H'=>∃b,v=.pointer (some ⟨b,0,none⟩)∧H'=HP.AA b 0 l*H):=by
 intro a w h1 _ h3 K Q hk
 have hrun:(execOp a.eval ⟨d,.box T x,ty,pos,af,g⟩).run P w=.ok (.value (.pointer (some ⟨w.heap.size,0,none⟩))) (w.alloc (.cells v.cells T)):=by
  simp [execOp,h1.ev hx,Instr.box,newVar,newRow]
 simp only [H!,hrun,C?];exact hk _ _ _ ⟨w.heap.size,rfl,rfl⟩ (hl▸h3.alloc v.cells T)
theorem BJ{f:FuncId}{xs:List Operand}{vs:List Value}{ats:Array TypeId}{Post:Value→HP→Prop}[hf:Ad P f](hx:DB E xs=some vs)(hs:Fn P B f vs H Post):
  CE P B n ⟨d,.call ⟨.value (.func f),xs.toArray,ats⟩,ty,pos,af,g⟩ E D H Post:=by
 intro a w h1 _ h3 K Q hk
 have hrun:(execOp a.eval ⟨d,.call ⟨.value (.func f),xs.toArray,ats⟩,ty,pos,af,g⟩).run P w=.ok (.enter f vs.toArray) w:=by
  simp only [execOp,resolve,C_,HN h1 hx,Act.eval,Deferred.ofValue,A!,A?,A_,invoke];simp [hf.get]
 simp only [H!,hrun,C?];refine(hs w h3).mono ?_;rintro e w' ⟨v,H',rfl,hp,hs'⟩;exact hk v H' w' hp hs'
theorem Hg{f:FuncId}{t:Operand}{xs:List Operand}{vs us:List Value}{ats:Array TypeId}{Post:Value→HP→Prop}[hf:Ad P f]
  (ht:ev E t=some (.func (.func f) #[] us.toArray))(hx:DB E xs=some vs)(hs:Fn P B f (vs++us) H Post):
  CE P B n ⟨d,.call ⟨.value t,xs.toArray,ats⟩,ty,pos,af,g⟩ E D H Post:=by
 intro a w h1 _ h3 K Q hk
 have hrun:(execOp a.eval ⟨d,.call ⟨.value t,xs.toArray,ats⟩,ty,pos,af,g⟩).run P w=.ok (.enter f (vs++us).toArray) w:=by
  simp only [execOp,resolve,C_,HN h1 hx,h1.ev ht,Deferred.ofValue,A!,A?,A_,invoke];simp [hf.get]
 simp only [H!,hrun,C?];refine(hs w h3).mono ?_;rintro e w' ⟨v,H',rfl,hp,hs'⟩;exact hk v H' w' hp hs'
theorem Di{b i k:Nat}{l:List Value}{R:HP}[hT:EQ P T k](hx:ev E x=some (.pointer (some ⟨b,i,none⟩)))[hr:HR H b i l R](hl:l.length=k):
  Aa P B n ⟨d,.load T x,ty,pos,af,g⟩ E H (.agg l.toArray):=by
 intro a w he hw;rw [hr.eq]at hw
 have h1:(loadCells ⟨b,i,none⟩ k).run P w=.ok l.toArray w:=by
  rw [←hl];refine run_loadCells_list w ⟨b,i,none⟩ l fun j v e=>?_
  have:=hw.cells j v e
  by_cases hj:j=0
  ·subst hj;simpa [D?]using this
  ·simpa [D?,hj]using this
 simp [execOp,he.ev hx,ah,D!,loadVar,hT.get,hT.size,h1]
end
end
section
class PQ(Q:Exit→Act→World→Prop):Prop where
 get:∀c a w d v,Q (.panic c) (Act.put a d v) w→Q (.panic c) a w
 out:∀a w,¬Q .outgrown a w
instance{K:Act→World→Prop}{Q:Exit→Act→World→Prop}[h:PQ Q]:PQ (Exit.then K Q):=⟨h.get,h.out⟩
instance{id:Nat}{Q:Exit→Act→World→Prop}[h:PQ Q]:PQ (Exit.inBlock id Q):=⟨h.get,h.out⟩
instance{B:World}{n:Nat}{D:Br}{α:Type}{EE:α→Ay}{HH:α→HP}{φ:α→Prop}{Q:Exit→Act→World→Prop}[h:PQ Q]:PQ (Nd B n D EE HH φ Q):=⟨h.get,h.out⟩
instance{P:Program}{B:World}{fn:Func}{Post:Value→HP→Prop}:PQ (HV P B fn Post):=⟨by
 intro c a w d v h
 cases d<;>exact h,by rintro a w ⟨v,H',h,_⟩;cases h⟩
def I0(ops:Array Oper):Bool:=ops.all fun o=>match o.op with| .defer _=>false|_=>true
theorem uQ{ops:Array Oper}(h:I0 ops=true){i:Nat}{o:Oper}(ho:ops[i]?=some o)(c:Call):o.op≠ .defer c:=by
 simp only [I0,N!]at h
 have:=h o (Array.mem_of_getElem? ho)
 intro e;rw [e]at this;cases this
theorem yK{P:Program}{ops:Array Oper}{Q:Exit→Act→World→Prop}{r:Option Nat}{i:Nat}{K:Act→World→Prop}{a:Act}{w:World}(hd:I0 ops=true)(hq:∀a w,¬Q .outgrown a w)
  (h:wpOp P ops Q i K a w):wpOpIn (fr r) 0 P ops Q i K a w:=by
 unfold wpOp at h;unfold wpOpIn
 cases ho:ops[i]? with
 |none=>simpa [ho]using h
 |some o=>
  simp only [ho]at h⊢;split
  ·rename_i hw;simp only [hw,if_true]at h;exact M3 (uQ hd ho) (h.resolve_right fun⟨_,a,w,h1⟩=>hq a w h1)
  ·rename_i hw;simp only [hw]at h;exact⟨fun _ _=>trivial,h⟩
theorem bT{P:Program}{ops:Array Oper}{Q:Exit→Act→World→Prop}{r:Option Nat}(hd:I0 ops=true)(hq:∀a w,¬Q .outgrown a w):∀(fuel:Nat) (ls:Array Bool) (a:Act) (w:World),
  wpAny P .any ops Q fuel ls a w→wpAnyIn (fr r) 0 P .any ops Q fuel ls a w
 |0,_,_,_,h=>h
 |fuel+1,_,_,_,⟨h1,h2⟩=>⟨h1,fun i hi=>wpOpIn_mono (fun a w h=>bT hd hq fuel _ a w h) (yK hd hq (h2 i hi))⟩
def MV(P:Program)(ops:Array Oper)(Q:Exit→Act→World→Prop)(S:World→Prop)(last:Nat):Nat→Array Bool→Act→World→Prop
 |0,ls,a,w=>D_ .any ops ls=[]∧Q .normal a w
 |fuel+1,ls,a,w=>(D_ .any ops ls=[]→Q .normal a w)∧
   ∀i∈D_ .any ops ls,wpOp P ops Q i (fun a' w'=>(last≤i∨S w')∧MV P ops Q S last fuel (ls.setIfInBounds i true) a' w') a w
theorem ZE{P:Program}{ops:Array Oper}{Q:Exit→Act→World→Prop}{S:World→Prop}{last:Nat}:∀(fuel:Nat) (ls:Array Bool) (a:Act) (w:World),
  MV P ops Q S last fuel ls a w→wpAny P .any ops Q fuel ls a w
 |0,_,_,_,h=>h
 |fuel+1,_,_,_,⟨h1,h2⟩=>⟨h1,fun i hi=>wpOp_mono (fun a' w' h=>ZE fuel _ a' w' h.2) (h2 i hi)⟩
def K7(ops:Array Oper)(i:Nat):Nat→Nat→Bool
 |0,_=>false
 |f+1,k=>match ops[k]? with
  |none=>false
  |some o=>o.after.any (fun e=>K? .any e&&e.on==i)||o.after.any (fun e=>K? .any e&&K7 ops i f e.on)
def waits(ops:Array Oper)(last i:Nat):Bool:=(Z? ops.size).all fun j=>H? j last||K7 ops i 8 j
def Nq(ops:Array Oper)(ls:Array Bool):Prop:=∀k o,ops[k]?=some o→ls.getD k false=true→∀e∈o.after,K? .any e=true→ls.getD e.on false=true
def Sy(ops:Array Oper)(ls:Array Bool):Bool:=
 (Z? ops.size).all fun k=> !ls.getD k false||((ops[k]?).all fun o=>o.after.all fun e=> !K? .any e||ls.getD e.on false)
theorem QM{ops:Array Oper}{ls:Array Bool}(h:Sy ops ls=true):Nq ops ls:=by
 intro k o ho hl e he hb;simp only [Sy,R_,ab]at h;have h1:=h k (E?.1 ho).1;rw [ho,hl]at h1;simp only [Bool.not_true,Bool.false_or,Option.all_some,N!]at h1;have h2:=h1 e he;rw [hb]at h2;simpa using h2
theorem wD{ops:Array Oper}{ls:Array Bool}{j:Nat}(h:Nq ops ls)(hj:j∈D_ .any ops ls):Nq ops (ls.setIfInBounds j true):=by
 obtain⟨_,p,hp,hall⟩:=mem_ready.1 hj
 have up:∀m,ls.getD m false=true→(ls.setIfInBounds j true).getD m false=true:=fun m hm=>by
  by_cases e:j=m
  ·subst e;rcases K! j ls.size with h1|h1
   ·simp [h1]
   ·simp [H_ h1]at hm
  ·rwa [getD_set_ne false e]
 intro k o ho hl e he hb;by_cases ek:j=k
 ·subst ek;rw [hp]at ho;obtain rfl:=K_.inj ho;exact up _ (hall e he hb)
 ·rw [getD_set_ne false ek]at hl;exact up _ (h k o ho hl e he hb)
theorem Vu{ops:Array Oper}{ls:Array Bool}{i:Nat}(h:Nq ops ls):∀(f k:Nat) (o:Oper),ops[k]?=some o→(∀e∈o.after,K? .any e=true→ls.getD e.on false=true)→
  K7 ops i f k=true→ls.getD i false=true
 |0,_,_,_,_,hw=>by cases hw
 |f+1,k,o,ho,hall,hw=>by
  simp only [K7,ho,X!,Array.any_eq_true,L_,beq_iff_eq]at hw;rcases hw with⟨m,hm,hb,he⟩|⟨m,hm,hb,he⟩
  ·have:=hall _ (U_ hm) hb
   rwa [he]at this
  ·have h1:=hall _ (U_ hm) hb
   cases h2:ops[o.after[m].on]? with
   |none=>
    cases f with
    |zero=>cases he
    |succ f=>simp [K7,h2]at he
   |some q=>exact Vu h f _ q h2 (h _ q h2 h1) he
theorem P'{P:Program}{ops:Array Oper}{Q:Exit→Act→World→Prop}{S:World→Prop}{last i:Nat}{o:Oper}{v:Value}(hi:ops[i]?=some o)
  (hsel:X? ops=true)(hw:waits ops last i=true)(hQ:∀c a w,Q (.panic c) (a.put o.dst v) w→Q (.panic c) a w):
  ∀(fuel:Nat) (ls:Array Bool) (a:Act) (w:World),Nq ops ls→
   (∀j p,ops[j]?=some p→j≠i→ls.getD j true=false→(∀e∈p.after,K? .any e=true→e.on≠i)→o.apart ops p=true)→
   i∈D_ .any ops ls→YieldsIf P ops S o v a→S w→
   MV P ops Q S last fuel (ls.setIfInBounds i true) (a.put o.dst v) w→MV P ops Q S last (fuel+1) ls a w:=by
 have hsel':=Region.noSelect_spec hsel;intro fuel
 induction fuel with
 |zero=>
  intro ls a w _ _ hr hy hS h;refine⟨fun e=>by rw [e]at hr;exact absurd hr (by simp),fun j hj=>?_⟩;by_cases e:j=i
  ·subst e;exact hy.wpOp hi hS ⟨.inr hS,h⟩
  ·have:=ready_mono hj e
   rw [h.1]at this;exact absurd this (by simp)
 |succ fuel ih=>
  intro ls a w hcl hf hr hy hS h;refine⟨fun e=>by rw [e]at hr;exact absurd hr (by simp),fun j hj=>?_⟩;by_cases e:j=i
  ·subst e;exact hy.wpOp hi hS ⟨.inr hS,h⟩
  ·have h1:=h.2 j (ready_mono hj e);obtain⟨hun,p,hp,hall⟩:=mem_ready.1 hj;have hnl:ls.getD i true=false:=(mem_ready.1 hr).1
   have hnot:∀e∈p.after,K? .any e=true→e.on≠i:=fun e he hb heq=>by
    have h2:=hall e he hb;rw [heq]at h2;rcases K! i ls.size with hlt|hge
    ·simp [hlt]at h2 hnl;rw [hnl]at h2;cases h2
    ·simp [H_ hge]at h2
   have hjl:¬last≤j:=fun e2=>by
    have hlt:=(E?.1 hp).1
    have hw2:(H? j last||K7 ops i 8 j)=true:=by
     simp only [waits,R_,ab]at hw;exact hw j hlt
    simp only [X!,Nat.blt_eq]at hw2;have h3:=Vu hcl 8 j p hp hall (hw2.resolve_left (by omega));rcases K! i ls.size with h4|h4
    ·simp [h4]at h3 hnl;rw [hnl]at h3;cases h3
    ·simp [H_ h4]at h3
   have h2:=wpOp_putIf hp (hf j p hp e hun hnot) (fun cs b=>hsel' i o cs b hi) (fun cs b=>hsel' j p cs b hp) hQ hy h1;refine wpOp_mono (fun a' w' h3=>?_) h2;have hS':S w':=h3.2.1.resolve_left hjl;refine⟨.inr hS',ih _ a' w' (wD hcl hj) ?_ (ready_mono hr (Ne.symm e)) h3.1 hS' ?_⟩
   ·intro k q hq hki hun2 hno;refine hf k q hq hki ?_ hno;by_cases hjk:j=k
    ·subst hjk;exact hun
    ·rwa [getD_set_ne true hjk]at hun2
   ·rw [Array.setIfInBounds_comm _ _ e];exact h3.2.2
def WA(P:Program)(B:World)(ops:Array Oper)(Q:Exit→Act→World→Prop)(R:HP)(last:Nat)(fuel:Nat)(listed:Array Bool)(n:Nat)(E:Ay)(D:Br)(H:HP):Prop:=
 ∀a w,CP n E a→a.defers=D.ds→Sat B H w→MV P ops Q (Sat B R) last fuel listed a w
class Hv(H R:HP):Prop where
 get:∀r,H r→∃x y,Ap.dj x y∧r=x.un y∧R x
instance(priority:=2000)(H:HP):Hv H H:=⟨fun r h=>⟨r,Ap.nil,(Ap.RR r).symm,(Ap.gV r).symm,h⟩⟩
instance(priority:=1800)(A C:HP):Hv (A*C) A:=⟨fun r ⟨x,y,d,e,a,_⟩=>⟨x,y,d,e,a⟩⟩
instance(priority:=1500)(A C D R:HP)[h:Hv (A*(C*D)) R]:Hv (A*C*D) R:=by rw [HP.assoc];exact h
instance(priority:=1400)(A C D H:HP)[h:Hv H (A*(C*D))]:Hv H (A*C*D):=by rw [HP.assoc];exact h
instance(priority:=900)(A C R:HP)[h:Hv C R]:Hv (A*C) R:=⟨fun r ⟨x,y,d,e,_,c⟩=>by
 obtain⟨u,v,d2,e2,hr⟩:=h.get y c
 subst e2
 obtain⟨d3,d4⟩:=Ap.Kb.1 d
 refine⟨u,x.un v,Ap.Kb.2 ⟨d3.symm,d2⟩,?_,hr⟩
 rw [e,←Ap.NA,←Ap.NA,Ap.UE d3]⟩
instance(priority:=1000)(A C R:HP)[h:Hv C R]:Hv (A*C) (A*R):=⟨fun r ⟨x,y,d,e,a,c⟩=>by
 obtain⟨u,v,d2,e2,hr⟩:=h.get y c
 subst e2
 obtain⟨d3,d4⟩:=Ap.Kb.1 d
 refine⟨x.un u,v,Ap.Tz.2 ⟨d4,d2⟩,?_,x,u,d3,rfl,a,hr⟩
 rw [e,Ap.NA]⟩
class Bm(B:World)(H R:HP):Prop where
 get:∀w,Sat B H w→Sat B R w
instance(B:World)(H R:HP)[h:Hv H R]:Bm B H R:=⟨fun _ ⟨h1,r,hr,hl⟩=>by
 obtain⟨x,y,_,e,hx⟩:=h.get r hr
 exact⟨h1,x,hx,(e▸hl).left⟩⟩
theorem Bm.BC(B:World)(H:HP):Bm B H HP.BC:=⟨fun _ h=>h.BC⟩
theorem Bm.of{B:World}{A H R:HP}(h:H=A*R):Bm B H R:=⟨fun _ hw=>(h▸hw).right⟩
def Bc(ops:Array Oper)(ls:Array Bool)(last i:Nat):Bool:=
 X? ops&&Region.free .any ops ls i&&(D_ .any ops ls).contains i&&waits ops last i&&Sy ops ls
section
variable{P:Program}{B:World}{n:Nat}{E:Ay}{D:Br}{H R:HP}{ops:Array Oper}{Q:Exit→Act→World→Prop}{fuel last:Nat}{ls:Array Bool}
 {op:Op} {ty:TypeId} {pos:String} {af:Array Edge}
theorem D5{id:Nat}(R:HP)(last k:Nat)(hm:P.follows .mixedOrders=true)(hk:ops.size=k)[hq:PQ Q](hd:I0 ops=true)(h:WA P B ops Q R last k (Y_ k false) n E D H):WP P B (.region id ops true) Q n E D H:=
 fun a _ h1 h2 h3=>wpIn_region_any hm (by rw [hk];exact bT hd hq.out _ _ _ _ (ZE _ _ _ _ (h a _ h1 h2 h3.H1)))
theorem uV{id:Nat}(last k:Nat)(hm:P.follows .mixedOrders=true)(hk:ops.size=k)[hq:PQ Q](hd:I0 ops=true)(h:WA P B ops Q H last k (Y_ k false) n E D H):WP P B (.region id ops true) Q n E D H:=
 D5 H last k hm hk hd h
theorem JW(i:Nat){t:Nat}{v:Value}(hi:ops[i]?=some ⟨some t,op,ty,pos,af,none⟩)(hk:Bc ops ls last i=true)[hq:PQ Q][hE:Bm B H R](ht:H? t n=true)
  (hv:Aa P B n ⟨some t,op,ty,pos,af,none⟩ E R v)(next:WA P B ops Q R last fuel (ls.setIfInBounds i true) n ((t,v)::E) D H):
  WA P B ops Q R last (fuel+1) ls n E D H:=by
 intro a w h1 h2 h3;simp only [Bc,L_]at hk;obtain⟨⟨⟨⟨hs,hf⟩,hr⟩,hl⟩,hcl⟩:=hk;refine P' hi hs hl (fun c a w=>hq.get c a w _ _) fuel ls a w (QM hcl) (R! hi hf) (by simpa using hr) (.inl ⟨by simp [B!],fun w' hw'=>hv a w' h1 hw'⟩) (hE.get w h3) ?_;exact next _ w (h1.put (by simpa using ht) v) (by simp [Act.put,h2]) h3
theorem iI(i:Nat){t j tj:Nat}{v:Value}{b:Bool}(hi:ops[i]?=some ⟨some t,op,ty,pos,af,some (j,b)⟩)(hk:Bc ops ls last i=true)[hq:PQ Q][hE:Bm B H R](ht:H? t n=true)
  (hj:(ops[j]?).bind (·.dst)=some tj)(hb:lk E tj=some (.bool b))
  (hv:Aa P B n ⟨some t,op,ty,pos,af,none⟩ E R v)(next:WA P B ops Q R last fuel (ls.setIfInBounds i true) n ((t,v)::E) D H):
  WA P B ops Q R last (fuel+1) ls n E D H:=by
 intro a w h1 h2 h3
 have hy:yielded ops a.tmps j=some b:=by
  have:=h1.2 _ _ hb
  simp [yielded,hj,this]
 simp only [Bc,L_]at hk;obtain⟨⟨⟨⟨hs,hf⟩,hr⟩,hl⟩,hcl⟩:=hk;refine P' hi hs hl (fun c a w=>hq.get c a w _ _) fuel ls a w (QM hcl) (R! hi hf) (by simpa using hr) (.inl ⟨by simp [B!,hy],fun w' hw'=>hv a w' h1 hw'⟩) (hE.get w h3) ?_;exact next _ w (h1.put (by simpa using ht) v) (by simp [Act.put,h2]) h3
theorem lV(i:Nat){t j tj:Nat}{b want:Bool}(hi:ops[i]?=some ⟨some t,op,ty,pos,af,some (j,want)⟩)(hk:Bc ops ls last i=true)[hq:PQ Q][hE:Bm B H R](ht:H? t n=true)
  (hj:(ops[j]?).bind (·.dst)=some tj)(hb:lk E tj=some (.bool b))(hne:b= !want)
  (next:WA P B ops Q R last fuel (ls.setIfInBounds i true) n ((t,undef)::E) D H):
  WA P B ops Q R last (fuel+1) ls n E D H:=by
 intro a w h1 h2 h3
 have hy:yielded ops a.tmps j=some b:=by
  have:=h1.2 _ _ hb
  simp [yielded,hj,this]
 simp only [Bc,L_]at hk;obtain⟨⟨⟨⟨hs,hf⟩,hr⟩,hl⟩,hcl⟩:=hk;refine P' hi hs hl (fun c a w=>hq.get c a w _ _) fuel ls a w (QM hcl) (R! hi hf) (by simpa using hr) (.inr ⟨by rw [hne]at hy;cases want<;>simp [B!,hy],rfl⟩) (hE.get w h3) ?_;exact next _ w (h1.put (by simpa using ht) undef) (by simp [Act.put,h2]) h3
theorem An(i:Nat){t:Nat}{Post:Value→HP→Prop}(hr:D_ .any ops ls=[i])(hi:ops[i]?=some ⟨some t,op,ty,pos,af,none⟩)(ht:H? t n=true)
  (he:CE P B n ⟨some t,op,ty,pos,af,none⟩ E D H Post)
  (next:∀v H',Post v H'→(last≤i∨Bm B H' R)∧WA P B ops Q R last fuel (ls.setIfInBounds i true) n ((t,v)::E) D H'):
  WA P B ops Q R last (fuel+1) ls n E D H:=by
 intro a w h1 h2 h3;refine⟨(fun h0=>by rw [hr]at h0;cases h0),fun j hj=>?_⟩;rw [hr]at hj;obtain rfl:=I_.1 hj;unfold wpOp;rw [hi];simp only [B!,if_true];refine .inl (he a w h1 h2 h3 _ _ fun v H' w' hp hs=>?_);obtain⟨n1,n2⟩:=next v H' hp;exact⟨n1.imp id (fun h=>h.get w' hs),n2 _ w' (h1.put (by simpa using ht) v) (by simp [Act.put,h2]) hs⟩
theorem Db(i:Nat){Post:Value→HP→Prop}(hr:D_ .any ops ls=[i])(hi:ops[i]?=some ⟨none,op,ty,pos,af,none⟩)
  (he:CE P B n ⟨none,op,ty,pos,af,none⟩ E D H Post)
  (next:∀v H',Post v H'→(last≤i∨Bm B H' R)∧WA P B ops Q R last fuel (ls.setIfInBounds i true) n E D H'):
  WA P B ops Q R last (fuel+1) ls n E D H:=by
 intro a w h1 h2 h3;refine⟨(fun h0=>by rw [hr]at h0;cases h0),fun j hj=>?_⟩;rw [hr]at hj;obtain rfl:=I_.1 hj;unfold wpOp;rw [hi];simp only [B!,if_true];refine .inl (he a w h1 h2 h3 _ _ fun v H' w' hp hs=>?_);obtain⟨n1,n2⟩:=next v H' hp;exact⟨n1.imp id (fun h=>h.get w' hs),n2 _ w' h1 h2 hs⟩
theorem EL(i:Nat){t:Nat}{v:Value}(hr:D_ .any ops ls=[i])(hi:ops[i]?=some ⟨some t,op,ty,pos,af,none⟩)(ht:H? t n=true)
  (hv:Aa P B n ⟨some t,op,ty,pos,af,none⟩ E H v)(hR:last≤i∨Bm B H R)(next:WA P B ops Q R last fuel (ls.setIfInBounds i true) n ((t,v)::E) D H):
  WA P B ops Q R last (fuel+1) ls n E D H:=
 An i hr hi ht (Post:=fun v' H'=>v'=v∧H'=H) (fun a w h1 _ h3 K Q hk=>by simp only [H!,hv a w h1 h3,C?];exact hk _ _ _ ⟨rfl,rfl⟩ h3) (by rintro _ _ ⟨rfl,rfl⟩;exact⟨hR,next⟩)
theorem Ea{H':HP}(e:H=H')(h:WA P B ops Q R last fuel ls n E D H'):WA P B ops Q R last fuel ls n E D H:=e▸h
theorem rC(hr:D_ .any ops ls=[])(h:A7 B Q .normal n E D H):WA P B ops Q R last fuel ls n E D H:=
 fun a w h1 h2 h3=>by
  cases fuel with
  |zero=>exact⟨hr,h a w h1 h2 h3⟩
  |succ fuel=>exact⟨fun _=>h a w h1 h2 h3,fun i hi=>by rw [hr]at hi;cases hi⟩
theorem zD(i j:Nat)(hr:D_ .any ops ls=[i,j]){oi oj:Oper}{Pi Pj:Value→HP→Prop}{ti tj:Nat}(hi:ops[i]?=some oi)(hj:ops[j]?=some oj)
  (di:oi.dst=some ti)(dj:oj.dst=some tj)(gi:oi.guard=none)(gj:oj.guard=none)(hti:H? ti n=true)(htj:H? tj n=true)
  (ei:CE P B n oi E D H Pi)(ej:CE P B n oj E D H Pj)
  (ni:∀v H',Pi v H'→(last≤i∨Bm B H' R)∧WA P B ops Q R last fuel (ls.setIfInBounds i true) n ((ti,v)::E) D H')
  (nj:∀v H',Pj v H'→(last≤j∨Bm B H' R)∧WA P B ops Q R last fuel (ls.setIfInBounds j true) n ((tj,v)::E) D H'):
  WA P B ops Q R last (fuel+1) ls n E D H:=by
 intro a w h1 h2 h3;refine⟨(fun h0=>by rw [hr]at h0;cases h0),fun k hk=>?_⟩;rw [hr]at hk;rcases ae.1 hk with rfl|hk
 ·unfold wpOp;rw [hi];simp only [B!,gi,if_true];refine .inl (ei a w h1 h2 h3 _ _ fun v H' w' hp hs=>?_);obtain⟨n1,n2⟩:=ni v H' hp;exact⟨n1.imp id (fun h=>h.get w' hs),n2 _ w' (by rw [di];exact h1.put (by simpa using hti) v) (by rw [di];simp [Act.put,h2]) hs⟩
 ·obtain rfl:=I_.1 hk;unfold wpOp;rw [hj];simp only [B!,gj,if_true];refine .inl (ej a w h1 h2 h3 _ _ fun v H' w' hp hs=>?_);obtain⟨n1,n2⟩:=nj v H' hp;exact⟨n1.imp id (fun h=>h.get w' hs),n2 _ w' (by rw [dj];exact h1.put (by simpa using htj) v) (by rw [dj];simp [Act.put,h2]) hs⟩
end
end
section
class AC(α:Type) where
 sz:Nat
 Al:α→List Value
 AH:α
 len:∀x,(Al x).length=sz
 one:∀x,∀v∈Al x,v.oneCell'=true
abbrev u8(b:UInt8):Value:=.int .u8 (b.toNat:Nat)
@[reducible] instance:AC UInt8:=⟨1,fun b=>[u8 b],0,fun _=>rfl,fun _ v h=>by rw [I_.1 h];rfl⟩
@[simp] theorem P6:AC.sz UInt8=1:=rfl
@[simp] theorem eK(b:UInt8):AC.Al b=[u8 b]:=rfl
@[simp] theorem zV:(AC.AH:UInt8)=0:=rfl
def AD{α:Type}[AC α](xs:List α):List Value:=xs.flatMap AC.Al
theorem Bl{α:Type}[AC α](xs:List α):(AD xs).length=xs.length*AC.sz α:=by
 induction xs with
 |nil=>simp [AD]
 |cons x xs ih=>simp only [AD,J!,B?,AC.len,List.length_cons]at*;rw [ih,U!,Nat.add_comm]
theorem Ef{α:Type}[AC α](xs ys:List α):AD (xs++ys)=AD xs++AD ys:=by simp [AD]
theorem Jh{α:Type}[AC α](xs:List α):∀v∈AD xs,v.oneCell'=true:=by
 intro v h;obtain⟨x,_,h2⟩:=List.mem_flatMap.1 h;exact AC.one x v h2
theorem TL{α:Type}[AC α]:∀(xs:List α) (i f:Nat) (v:Value),i<xs.length→(AC.Al (xs.getD i AC.AH))[f]?=some v→(AD xs)[i*AC.sz α+f]?=some v
 |[],i,f,v,h,_=>by simp at h
 |x::xs,0,f,v,_,h=>by
  simp only [List.getD_cons_zero]at h;have hlt:f<(AC.Al x).length:=(F?.1 h).1;simp only [AD,J!,Nat.zero_mul,U?];rw [F! hlt];exact h
 |x::xs,i+1,f,v,hi,h=>by
  simp only [List.getD_cons_succ]at h
  have:=TL xs i f v (by simpa using hi) h
  simp only [AD,J!]at*;rw [J? (by rw [AC.len,U!];omega),AC.len,show(i+1)*AC.sz α+f-AC.sz α=i*AC.sz α+f by rw [U!];omega];exact this
def AB{α:Type}[AC α](b o:Nat)(xs:List α)(s:List Value):HP:=HP.AA b o (AD xs++s)
theorem GU{α:Type}[AC α](b o:Nat):AB b o ([]:List α) []=HP.BC:=by simp [AB,AD,HP.XO]
theorem Oj{α:Type}[AC α]{b o i f:Nat}{xs:List α}{s:List Value}{v:Value}(h:(AC.Al (xs.getD i AC.AH))[f]?=some v)(r:Ap)(hr:AB b o xs s r)(hi:i<xs.length):
  r.c b (o+i*AC.sz α+f)=some v:=by
 have h1:=TL xs i f v hi h;have hlt:i*AC.sz α+f<(AD xs).length:=(F?.1 h1).1;rw [show r=_ from hr];simp only [];rw [if_pos (And.intro trivial (by omega)),show o+i*AC.sz α+f-o=i*AC.sz α+f by omega,F! hlt,h1]
instance{α:Type}[AC α](b o i f:Nat)(xs:List α)(s:List Value)(v:Value)[h:Ld (AC.Al (xs.getD i AC.AH)) f v]:
  Cell (AB b o xs s) b (o+i*AC.sz α+f) v (i<xs.length):=⟨Oj h.get⟩
instance{α:Type}[AC α](b o i:Nat)(xs:List α)(s:List Value)(v:Value)[h:Ld (AC.Al (xs.getD i AC.AH)) 0 v]:
  Cell (AB b o xs s) b (o+i*AC.sz α) v (i<xs.length):=⟨Oj (f:=0) h.get⟩
instance(b o i:Nat)(xs:List UInt8)(s:List Value):Cell (AB b o xs s) b (o+i*1) (u8 (xs.getD i 0)) (i<xs.length):=⟨Oj (f:=0) rfl⟩
def Sl(p:Option Addr)(b o k c:Nat):Prop:=(c=0∨p=some ⟨b,o,none⟩)∧k≤c
class Ab{α:Type}[AC α](B:World)(H:HP)(b o:Nat)(xs:List α):Prop where
 get:∀i f v,(AC.Al (xs.getD i AC.AH))[f]?=some v→i<xs.length→∀w,Sat B H w→w.cell? ⟨b,o+i*AC.sz α+f,none⟩=some v
instance{α:Type}[AC α](B:World)(b o:Nat)(xs:List α)(s:List Value):Ab B (AB b o xs s) b o xs:=
 ⟨fun _ _ v h hi _ ⟨_,r,hr,hl⟩=>hl.cell _ _ v (Oj h r hr hi)⟩
instance{α:Type}[AC α](B:World)(A C:HP)(b o:Nat)(xs:List α)[h:Ab B A b o xs]:Ab B (A*C) b o xs:=⟨fun i f v e hi w hw=>h.get i f v e hi w hw.left⟩
instance{α:Type}[AC α](B:World)(A C:HP)(b o:Nat)(xs:List α)[h:Ab B C b o xs]:Ab B (A*C) b o xs:=⟨fun i f v e hi w hw=>h.get i f v e hi w hw.right⟩
theorem Tx{B:World}{H:HP}{b o:Nat}{xs:List UInt8}(h:Ab B H b o xs)(i:Nat):
  Rd B H b (o+i*1) (u8 (xs.getD i 0)) (i<xs.length):=⟨fun w hw hi=>h.get i 0 _ rfl hi w hw⟩
def sp(p:Option Addr)(c l sz:Nat):Option Addr:=if c=l then p else p.map (·.add (l*sz))
theorem Kr{p:Option Addr}{b o k c l h sz:Nat}(hs:Sl p b o k c)(hl:l≤h)(hh:h≤c):Sl (sp p c l sz) b (o+l*sz) (h-l) (c-l):=by
 refine⟨?_,by omega⟩;by_cases e:c=l
 ·left;omega
 ·rcases hs.1 with h1|h1
  ·omega
  ·right;rw [sp,if_neg e,h1];by_cases e2:l*sz=0<;>simp [D?,e2]
theorem Ab.sub{α:Type}[AC α]{B:World}{H:HP}{b o:Nat}{xs:List α}(hr:Ab B H b o xs)(l h:Nat)(hh:h≤xs.length):Ab B H b (o+l*AC.sz α) ((xs.take h).drop l):=by
 refine⟨fun i f v e hi w hw=>?_⟩
 have hi':l+i<h:=by simp at hi;omega
 have h1:((xs.take h).drop l).getD i AC.AH=xs.getD (l+i) AC.AH:=by
  simp [ao,List.getElem?_drop,hi']
 rw [h1]at e
 have:=hr.get (l+i) f v e (by omega) w hw
 rw [show o+l*AC.sz α+i*AC.sz α+f=o+(l+i)*AC.sz α+f by rw [W!];omega];exact this
def B1{α:Type}[AC α](R:HP)(xs:List α)(v:Value)(H':HP):Prop:=
 ∃p b o c s,v=.slice p xs.length c∧Sl p b o xs.length c∧xs.length*AC.sz α+s.length=c*AC.sz α∧H'=AB b o xs s*R
section
variable{P:Program}{B:World}{n:Nat}{E:Ay}{D:Br}{H:HP}{d:Option Tmp}{T T' ty:TypeId}{pos:String}{af:Array Edge}{g:Option (Nat×Bool)}{x y z:Operand}
theorem DG{p:Option Addr}{b o k c i sz:Nat}{e:TypeId}{ik:IntKind}[hT:Ar P T (.slice e)][hz:Bg P e sz](hx:ev E x=some (.slice p k c))
  (hy:ev E y=some (.int ik i))(hs:Sl p b o k c)(h:i<k):Aa P B n ⟨d,.indexAddr T x y,ty,pos,af,g⟩ E H (.pointer (some ⟨b,o+i*sz,none⟩)):=by
 obtain⟨h1,h2⟩:=hs;obtain rfl:=h1.resolve_left (by omega);exact UF hx hy h
theorem Fg{ik:IntKind}{i m:Nat}{c:BoundsCode}(h:i≤m)(w:World):(V! (.int ik i) m c).run P w=.ok i w:=by
 have h0:(0:Int)≤i∧(i:Int)≤m:=by omega
 simp [V!,asIntOf,h0]
theorem KU{p:Option Addr}{k c sz l:Nat}{e:TypeId}{ik:IntKind}[hT:Ar P T (.slice e)][hz:Bg P e sz](hx:ev E x=some (.slice p k c))(hy:ev E y=some (.int ik l))
  (h:l≤k):Aa P B n ⟨d,.slice T x (some y) none none,ty,pos,af,g⟩ E H (.slice (sp p c l sz) (k-l) (c-l)):=by
 intro a w he _;simp only [execOp,he.ev hx,M!,I!,he.ev hy,L?,W?,G!,A!,Bh hT.get,A_,A?,Fg h,hz.get,M?];rfl
theorem Qd{p:Option Addr}{k c sz h:Nat}{e:TypeId}{ik:IntKind}[hT:Ar P T (.slice e)][hz:Bg P e sz](hx:ev E x=some (.slice p k c))(hy:ev E y=some (.int ik h))
  (hc:h≤c):Aa P B n ⟨d,.slice T x none (some y) none,ty,pos,af,g⟩ E H (.slice p h c):=by
 intro a w he _;simp only [execOp,he.ev hx,M!,I!,he.ev hy,L?,W?,G!,A!,Bh hT.get,A_,A?,Fg hc,hz.get,M?];cases p<;>simp [D?]
theorem M4{p:Option Addr}{k c sz l h:Nat}{e:TypeId}{ik jk:IntKind}[hT:Ar P T (.slice e)][hz:Bg P e sz](hx:ev E x=some (.slice p k c))(hy:ev E y=some (.int ik l))(hz':ev E z=some (.int jk h))
  (hc:l≤h∧h≤c):Aa P B n ⟨d,.slice T x (some y) (some z) none,ty,pos,af,g⟩ E H (.slice (sp p c l sz) (h-l) (c-l)):=by
 intro a w he _;simp only [execOp,he.ev hx,M!,I!,he.ev hy,he.ev hz',L?,W?,G!,A!,Bh hT.get,A_,A?,Fg hc.1,Fg hc.2,hz.get,M?];rfl
theorem zH{b o len:Nat}{e sz:Nat}[hT:Ar P T (.array len e)][hz:Bg P e sz](hx:ev E x=some (.pointer (some ⟨b,o,none⟩))):
  Aa P B n ⟨d,.slice T x none none none,ty,pos,af,g⟩ E H (.slice (some ⟨b,o,none⟩) len len):=by
 intro a w he _;simp only [execOp,he.ev hx,I!,L?,G!,A!,Bh hT.get,D!,A_,A?,hz.get];simp [D?]
theorem rD{b o len l:Nat}{e sz:Nat}{ik:IntKind}[hT:Ar P T (.array len e)][hz:Bg P e sz](hx:ev E x=some (.pointer (some ⟨b,o,none⟩)))(hy:ev E y=some (.int ik l))(h:l≤len):
  Aa P B n ⟨d,.slice T x (some y) none none,ty,pos,af,g⟩ E H (.slice (sp (some ⟨b,o,none⟩) len l sz) (len-l) (len-l)):=by
 intro a w he _;simp only [execOp,he.ev hx,M!,I!,he.ev hy,L?,G!,A!,Bh hT.get,D!,A_,A?,hz.get,Fg h,M?];by_cases e:len=l<;>simp [sp,e]
theorem eQ{b o len h:Nat}{e sz:Nat}{ik:IntKind}[hT:Ar P T (.array len e)][hz:Bg P e sz](hx:ev E x=some (.pointer (some ⟨b,o,none⟩)))(hy:ev E y=some (.int ik h))(hh:h≤len):
  Aa P B n ⟨d,.slice T x none (some y) none,ty,pos,af,g⟩ E H (.slice (some ⟨b,o,none⟩) h len):=by
 intro a w he _;simp only [execOp,he.ev hx,M!,I!,he.ev hy,L?,G!,A!,Bh hT.get,D!,A_,A?,hz.get,Fg hh];simp [D?]
end
section
variable{P:Program}{B:World}{α:Type}[AC α]
theorem Ab.run{H:HP}{b o:Nat}{xs:List α}(h:Ab B H b o xs){w:World}(hw:Sat B H w):(loadCells ⟨b,o,none⟩ (xs.length*AC.sz α)).run P w=.ok (AD xs).toArray w:=by
 rw [←Bl];refine run_loadCells_list w ⟨b,o,none⟩ (AD xs) fun j v e=>?_
 have hj:j<xs.length*AC.sz α:=by rw [←Bl];exact(F?.1 e).1
 have hpos:0<AC.sz α:=by rcases Nat.eq_zero_or_pos (AC.sz α)with h0|h0;rw [h0]at hj;omega;exact h0
 have hi:j/AC.sz α<xs.length:=(Nat.div_lt_iff_lt_mul hpos).2 hj;have hsplit:j/AC.sz α*AC.sz α+j%AC.sz α=j:=Nat.div_add_mod' ..;have hm:j%AC.sz α<AC.sz α:=Nat.mod_lt _ hpos
 have he:(AC.Al (xs.getD (j/AC.sz α) AC.AH))[j%AC.sz α]?=some v:=by
  obtain⟨u,hu⟩:∃u,(AC.Al (xs.getD (j/AC.sz α) AC.AH))[j%AC.sz α]?=some u:=by
   rw [G? (by rw [AC.len];exact hm)];exact⟨_,rfl⟩
  have:=TL xs _ _ u hi hu
  rw [hsplit,e]at this;rw [hu,this]
 have:=h.get _ _ v he hi w hw
 rw [Nat.add_assoc,hsplit]at this;by_cases hj0:j=0
 ·subst hj0;simpa [D?]using this
 ·simpa [D?,hj0]using this
theorem Wo{R:HP}{b o:Nat}{p:Option Addr}{c:Nat}{xs ys:List α}{s:List Value}{sT xT:TypeId}{ats:Array TypeId}{e by_:Nat}{ty:TypeId}{x:Value}{w:World}{z:Value}
  (hT:P.underlying sT=some (.slice e))(ha0:ats[0]?=some sT)(ha1:ats[1]?=some xT)(hxT:∀k,P.underlying xT≠some (.int k))(hxT':∃d,P.underlying xT=some d)
  (hz:∀w,(sizeOf e).run P w=.ok (AC.sz α) w)(hi:∃i,(∀w,(typeInfo e).run P w=.ok i w)∧i.bytes=by_)(h0:∀w,(zeroValue e).run P w=.ok z w)(hzc:z.cells.size=AC.sz α)
  (hs:Sl p b o xs.length c)(hc:xs.length*AC.sz α+s.length=c*AC.sz α)
  (hlen:(ag x).run P w=.ok ys.length w)
  (hx':∀w',Sat B (AB b o xs s*R) w'→(B_ (AC.sz α) ys.length x).run P w'=.ok (AD ys).toArray w')
  (hb:(xs.length+ys.length)*by_≤140737488355328)(hby:0<by_)(hw:Sat B (AB b o xs s*R) w):
  ∃v w',(G_ ats ty #[.slice p xs.length c,x]).run P w=.ok v w'∧∃H',B1 R (xs++ys) v H'∧Sat B H' w':=by
 have hcells:=hx' w hw;obtain⟨dx,hdx⟩:=hxT';obtain⟨inf,hinf,rfl⟩:=hi;have hdx':∀k,dx≠ .int k:=fun k h=>hxT k (by rw [hdx,h])
 have hzero:(match dx with| .int _=>true|_=>false)=false:=by cases dx<;>first|rfl|exact absurd rfl (hdx' _)
 by_cases hn:xs.length+ys.length≤c
 ·
  by_cases hc0:c=0
  ·have hx0:xs=[]:=C!.1 (by omega);have hy0:ys=[]:=C!.1 (by omega);subst hx0 hy0 hc0
   have hrun:(G_ ats ty #[.slice p ([]:List α).length 0,x]).run P w=.ok (.slice p 0 0) w:=by
    simp only [G_,ha0,ha1];simp only [List.length_nil,N_]at*;simp [Bh hT,Bh hdx,hz,hlen,hcells,AD];cases p<;>simp [storeCells]
   exact⟨_,w,hrun,_,⟨p,b,o,0,s,rfl,hs,hc,rfl⟩,hw⟩
  ·obtain rfl:=hs.1.resolve_left hc0;have hcm:=O? (AC.sz α) hn;rw [W!]at hcm
   have hw2:Sat B (HP.AA b (o+xs.length*AC.sz α+0) s*(HP.AA b o (AD xs)*R)) w:=by
    rw [HP.CF,←HP.assoc,N_,←Bl,←HP.E3];exact hw
   obtain⟨w',h1,h2⟩:=Sat.I5 (P:=P) (AD ys) (o+xs.length*AC.sz α) 0 s _ w (by rw [Bl];omega) (Jh ys) hw2
   have ha:D? ⟨b,o,none⟩ (xs.length*AC.sz α)=⟨b,o+xs.length*AC.sz α,none⟩:=by
    by_cases e2:xs.length*AC.sz α=0<;>simp [D?,e2]
   have hrun:(G_ ats ty #[.slice (some ⟨b,o,none⟩) xs.length c,x]).run P w=.ok (.slice (some ⟨b,o,none⟩) (xs.length+ys.length) c) w':=by
    simp only [G_,ha0,ha1];simp [Bh hT,Bh hdx,hz,hlen,hn,hcells,ha,h1]
   refine⟨_,w',hrun,_,⟨some ⟨b,o,none⟩,b,o,c,s.drop (AD ys).length,by rw [B?],⟨.inr rfl,by rw [B?];exact hn⟩,?_,rfl⟩,?_⟩
   ·rw [B?,List.length_drop,Bl,W!];omega
   ·unfold AB;rw [Ef,V_,HP.E3,HP.assoc,HP.CF,Bl xs,←N_ (o+xs.length*AC.sz α)];exact h2
 ·
  have hby0:¬inf.bytes=0:=by omega
  have hg:¬281474976710656<Builtin.nextslicecap (xs.length+ys.length) c*inf.bytes:=by
   have:=growslice_fits (old:=c) (by omega) hb;omega
  have hfo:(P? (xs.length+ys.length) c e).forced=false:=rfl
  have hold:(B_ (AC.sz α) xs.length (.slice p xs.length c)).run P w.drew=.ok (AD xs).toArray w.drew:=by
   have hwd:Sat B (AB b o xs s*R) w.drew:=hw.H1;rcases hs.1 with h1|rfl
   ·have hx0:xs=[]:=C!.1 (by have:=hs.2;omega);subst hx0;cases p<;>simp [B_,AD,loadCells,loadCellsFrom]
   ·simp only [B_];exact Ab.run (H:=AB b o xs s*R) inferInstance hwd
  have hnew:=hx' w.drew hw.H1
  obtain⟨N,hN⟩:∃N,N=(P? (xs.length+ys.length) c e).cut (w.tape w.drawn (P? (xs.length+ys.length) c e)):=⟨_,rfl⟩
  have hle:xs.length+ys.length≤N:=by rw [hN];simp [ak]
  have hrun:(G_ ats ty #[.slice p xs.length c,x]).run P w=.ok (.slice (some ⟨w.heap.size,0,none⟩) (xs.length+ys.length) N)
    (w.drew.alloc (.cells ((AD xs).toArray++((AD ys).toArray++E_ z.cells (N-(xs.length+ys.length)))) e)):=by
   simp only [G_,ha0,ha1];simp [Bh hT,Bh hdx,hz,hlen,hn,hinf,hby0,hg,hfo,hold,hnew,h0,newRow,←hN]
  have hcm:=O? (AC.sz α) hle;have hall:=(show Sat B (AB b o xs s*R) w.drew from hw.H1).alloc ((AD xs).toArray++((AD ys).toArray++E_ z.cells (N-(xs.length+ys.length)))) e;refine⟨_,_,hrun,_,⟨some ⟨w.heap.size,0,none⟩,w.heap.size,0,N,(E_ z.cells (N-(xs.length+ys.length))).toList,by rw [B?],⟨.inr rfl,by rw [B?];exact hle⟩,?_,rfl⟩,?_⟩
  ·have e1:(E_ z.cells (N-(xs.length+ys.length))).toList.length=(N-(xs.length+ys.length))*AC.sz α:=by rw [←hzc];simp [E_]
   rw [B?,e1,Nat.sub_mul];omega
  ·have e2:((AD xs).toArray++((AD ys).toArray++E_ z.cells (N-(xs.length+ys.length)))).toList=AD xs++(AD ys++(E_ z.cells (N-(xs.length+ys.length))).toList):=by simp
   rw [e2,HP.CF]at hall;unfold AB;rw [Ef,V_];exact hall.right
theorem CS{n:Nat}{E:Ay}{D:Br}{R:HP}{d:Option Tmp}{sT xT ty e by_:Nat}{pos:String}{af:Array Edge}{g:Option (Nat×Bool)}{x y:Operand}{b o bb oo cc c:Nat}{p pp:Option Addr}
  {xs ys:List α}{s:List Value}{z:Value}[hT:Ar P sT (.slice e)][hT2:Ar P xT (.slice e)][hz:Bg P e (AC.sz α)][hi:Eo P e by_][h0:BO P e z]
  (hx:ev E x=some (.slice p xs.length c))(hs:Sl p b o xs.length c)(hc:xs.length*AC.sz α+s.length=c*AC.sz α)
  (hy:ev E y=some (.slice pp ys.length cc))(hs2:Sl pp bb oo ys.length cc)(hr:Ab B (AB b o xs s*R) bb oo ys)(hzc:z.cells.size=AC.sz α)
  (hb:(xs.length+ys.length)*by_≤140737488355328)(hby:0<by_):
  CE P B n ⟨d,.call ⟨.builtin .append,#[x,y],#[sT,xT]⟩,ty,pos,af,g⟩ E D (AB b o xs s*R) (fun v H'=>B1 R (xs++ys) v H'):=by
 intro a w h1 _ h3 K Q hk
 have hf:∀w',Sat B (AB b o xs s*R) w'→(B_ (AC.sz α) ys.length (.slice pp ys.length cc)).run P w'=.ok (AD ys).toArray w':=by
  intro w' hw';rcases hs2.1 with h4|rfl
  ·have hx0:ys=[]:=C!.1 (by have:=hs2.2;omega);subst hx0;cases pp<;>simp [B_,AD,loadCells,loadCellsFrom]
  ·simp only [B_];exact hr.run hw'
 obtain⟨v,w',hrun,H',hH,hw'⟩:=Wo (P:=P) (B:=B) (R:=R) (b:=b) (o:=o) (p:=p) (c:=c) (xs:=xs) (ys:=ys) (s:=s) (sT:=sT) (xT:=xT) (ats:= #[sT,xT]) (e:=e) (by_:=by_) (ty:=ty)
  (x:=.slice pp ys.length cc) (w:=w) (z:=z) hT.get rfl rfl (fun k h=>by rw [hT2.get]at h;cases h) ⟨_,hT2.get⟩ hz.get hi.get h0.get hzc hs hc rfl
  (fun w2 hw2=>hf w2 hw2) hb hby h3
 have hrun2:(execOp a.eval ⟨d,.call ⟨.builtin .append,#[x,y],#[sT,xT]⟩,ty,pos,af,g⟩).run P w=.ok (.value v) w':=by
  simp [execOp,resolve,h1.ev hx,h1.ev hy,invoke,builtin,hrun]
 simp only [H!,hrun2,C?];exact hk v H' w' hH hw'
end
end
section
def I4(E:Ay):List (Nat×Operand)→Option (List (Nat×Value))
 |[]=>some []
 |(i,x)::r=>match ev E x with
  |some v=>match I4 E r with
   |some vs=>some ((i,v)::vs)
   |none=>none
  |none=>none
theorem SA{n:Nat}{E:Ay}{a:Act}(h:CP n E a):∀{xs:List (Nat×Operand)} {vs:List (Nat×Value)},I4 E xs=some vs→xs.map (fun(i,x)=>(i,a.eval x))=vs:=by
 intro xs
 induction xs with
 |nil=>intro vs e;simpa [I4]using e
 |cons x r ih=>
  obtain⟨i,x⟩:=x;intro vs e;simp only [I4]at e
  cases hx:ev E x with
  |none=>simp [hx]at e
  |some v=>
   cases hr:I4 E r with
   |none=>simp [hx,hr]at e
   |some us=>
    simp only [hx,hr,K_.injEq]at e;subst e;simp [h.ev hx,ih hr]
def AW(xs:List UInt8):ByteArray:=⟨xs.toArray⟩
@[simp] theorem Em(xs:List UInt8):(AW xs).size=xs.length:=by simp [AW,ByteArray.size]
theorem uH(s t:ByteArray):(s.toList==t.toList)=decide (s=t):=by
 rw [ByteArray.toList_eq,ByteArray.toList_eq];by_cases h:s=t
 ·subst h;simp
 ·have:¬s.data=t.data:=fun e=>h (by cases s;cases t;simp_all)
  simp [h,this]
section
variable{P:Program}{B:World}{n:Nat}{E:Ay}{D:Br}{H R:HP}{d:Option Tmp}{T T' ty:TypeId}{pos:String}{af:Array Edge}{g:Option (Nat×Bool)}{x y z:Operand}{α:Type}[AC α]
theorem GZ{len sz e:Nat}{ps:List (Nat×Operand)}{vs:List (Nat×Value)}{zv:Value}{cs:List Value}[hT:Ar P T (.slice e)][hz:Bg P e sz][h0:BO P e zv]
  (hx:I4 E ps=some vs)(hf:S_ (fun i=>some (i*sz,sz)) ((T_ (len*sz)).map fun i=>zv.cells[i%zv.cells.size]!) vs=some cs.toArray)(hb:am (len*sz) 16777216=true)(hp:H? 0 (len*sz)=true):
  CE P B n ⟨d,.buildSlice T len ps.toArray,ty,pos,af,g⟩ E D H (fun v H'=>∃b,v=.slice (some ⟨b,0,none⟩) len len∧H'=HP.AA b 0 cs*H):=by
 intro a w h1 _ h3 K Q hk
 have hb':¬len*sz> 2^24:=by have:=S? hb;omega
 have hp':¬len*sz=0:=by
  have:0<len*sz:=by simpa using hp
  omega
 have hm:(ps.toArray.map fun(i,x)=>(i,a.eval x)).toList=vs:=by
  rw [C_];exact SA h1 hx
 have hrun:(execOp a.eval ⟨d,.buildSlice T len ps.toArray,ty,pos,af,g⟩).run P w=.ok (.value (.slice (some ⟨w.heap.size,0,none⟩) len len)) (w.alloc (.cells cs.toArray e)):=by
  simp only [execOp,V?,A!,Bh hT.get,A_,hz.get,hb',if_false,hp',h0.get,A?,hm,hf,newRow];rfl
 simp only [H!,hrun,C?];exact hk _ _ _ ⟨w.heap.size,rfl,rfl⟩ (h3.alloc cs.toArray e)
theorem kW{e by_ c:Nat}{zv:Value}{ik jk:IntKind}[hT:Ar P T (.slice e)][hz:Bg P e (AC.sz α)][hi:Eo P e by_][h0:BO P e zv]
  (hx:ev E x=some (.int ik (0:Nat)))(hy:ev E y=some (.int jk c))(hb:c*by_≤140737488355328∧c<9223372036854775808):
  CE P B n ⟨d,.makeSlice T x y,ty,pos,af,g⟩ E D H (fun v H'=>B1 (α:=α) H [] v H'):=by
 intro a w h1 _ h3 K Q hk;obtain⟨inf,hinf,rfl⟩:=hi.get;have w0:IntKind.i64.wrap ((0:Nat):Int)=0:=rfl;have w1:IntKind.i64.wrap (c:Int)=c:=Qv hb.2
 have hc0:¬(c:Int)<0:=by omega
 have hc1:¬(281474976710656:Int)<inf.bytes*c:=by
  rw [←Int.natCast_mul,Nat.mul_comm];omega
 let zs:=(T_ (c*AC.sz α)).map fun i=>zv.cells[i%zv.cells.size]!
 have hrun:∃cs:Array Value,cs.size=c*AC.sz α∧(execOp a.eval ⟨d,.makeSlice T x y,ty,pos,af,g⟩).run P w=.ok (.value (.slice (some ⟨w.heap.size,0,none⟩) 0 c)) (w.alloc (.cells cs e)):=by
  by_cases hn:c*AC.sz α=0
  ·refine⟨#[],by simp [hn],?_⟩;simp only [execOp,h1.ev hx,h1.ev hy,Y!,A!,Bh hT.get,A_,asInt,asIntOf,A?,hinf,w0,w1,newRow];simp [hc0,hc1,hn,hz.get]
   have:Array.map (fun _=>(default:Value)) (T_ 0)= #[]:=by simp
   rw [this]
  ·refine⟨zs,by simp [zs],?_⟩;simp only [execOp,h1.ev hx,h1.ev hy,Y!,A!,Bh hT.get,A_,asInt,asIntOf,A?,hinf,w0,w1,newRow];simp [hc0,hc1,hn,h0.get,zs,hz.get]
 obtain⟨cs,hcs,hrun⟩:=hrun;simp only [H!,hrun,C?];refine hk _ _ _ ⟨some ⟨w.heap.size,0,none⟩,w.heap.size,0,c,cs.toList,rfl,⟨.inr rfl,Nat.zero_le _⟩,by simp [hcs],rfl⟩ ?_
 have:=h3.alloc cs e
 simpa [AB,AD]using this
theorem Td{e:TypeId}{s:ByteArray}[hT:Ar P T .string][hT2:Ar P T' (.slice e)][hE:Ar P e (.int .u8)](hx:ev E x=some (.string s)):
  CE P B n ⟨d,.convert T T' x,ty,pos,af,g⟩ E D H (fun v H'=>B1 H s.data.toList v H'):=by
 intro a w h1 _ h3 K Q hk
 have hrun:(execOp a.eval ⟨d,.convert T T' x,ty,pos,af,g⟩).run P w=.ok (.value (.slice (some ⟨w.heap.size,0,none⟩) s.size (grownCap w s.size 0 e)))
   (w.drew.alloc (.cells (bytesRow s (grownCap w s.size 0 e)) e ((bytesRow s (grownCap w s.size 0 e)).size,(bytesRow s (grownCap w s.size 0 e)).size+1))):=by
  simp only [execOp,h1.ev hx,A!,run_bytes_of_string w T T' e s hT.get hT2.get hE.get,A_,A?]
 have hle:s.size≤grownCap w s.size 0 e:=by simp [grownCap,ak]
 have hsz:s.data.toList.length=s.size:=by rw [Array.length_toList];rfl
 simp only [H!,hrun,C?];refine hk _ _ _ ⟨some ⟨w.heap.size,0,none⟩,w.heap.size,0,grownCap w s.size 0 e,Q_ (grownCap w s.size 0 e-s.size) (.int .u8 0),by rw [hsz],⟨.inr rfl,by rw [hsz];exact hle⟩,?_,rfl⟩ ?_
 ·rw [hsz,List.length_replicate,P6];omega
 ·have:=(show Sat B H w.drew from h3.H1).Zq (bytesRow s (grownCap w s.size 0 e)) e (bytesRow s (grownCap w s.size 0 e)).size ((bytesRow s (grownCap w s.size 0 e)).size+1) (.inr (W_ _))
  have e1:(bytesRow s (grownCap w s.size 0 e)).toList=AD s.data.toList++Q_ (grownCap w s.size 0 e-s.size) (.int .u8 0):=by
   simp only [bytesRow,Array.toList_append,Array.toList_map,Array.toList_replicate,AD];congr 1
   induction s.data.toList with
   |nil=>rfl
   |cons b l ih=>simp only [O!,J!,ih];rfl
  rw [e1]at this;exact this
theorem Lp{e b o c:Nat}{p:Option Addr}{xs:List UInt8}[hT:Ar P T (.slice e)][hT2:Ar P T' .string][hE:Ar P e (.int .u8)](hx:ev E x=some (.slice p xs.length c))
  (hs:Sl p b o xs.length c)(hr:Ab B H b o xs):Aa P B n ⟨d,.convert T T' x,ty,pos,af,g⟩ E H (.string (AW xs)):=by
 intro a w he hw;simp only [execOp,he.ev hx,A!];rcases hs.1 with h1|rfl
 ·have hx0:xs=[]:=C!.1 (by have:=hs.2;omega);subst hx0
  cases p with
  |none=>
   rw [run_convert_bytes_string w T T' e none _ c hT.get hE.get hT2.get];rfl
  |some q=>
   rw [run_convert_bytes_back w T T' e q c [] hT.get hE.get hT2.get (fun j hj=>by simp at hj)];rfl
 ·rw [run_convert_bytes_back w T T' e ⟨b,o,none⟩ c xs hT.get hE.get hT2.get (fun j hj=>?_)]
  ·rfl
  ·have:=hr.get j 0 (u8 xs[j]) (by simp [ao,G? hj]) hj w hw
   simp only [P6,P_,N_]at this;by_cases hj0:j=0
   ·subst hj0;simpa [D?]using this
   ·simpa [D?,hj0]using this
theorem aY{sT xT e b o bb oo dl dc cc:Nat}{p pp:Option Addr}{ys:List α}{l:List Value}[hT:Ar P sT (.slice e)][hz:Bg P e (AC.sz α)]
  (hx:ev E x=some (.slice p dl dc))(hs:Sl p b o dl dc)(hy:ev E y=some (.slice pp ys.length cc))(hs2:Sl pp bb oo ys.length cc)(hr:Ab B (HP.AA b o l*R) bb oo ys)
  (hl:dl*AC.sz α≤l.length):
  CE P B n ⟨d,.call ⟨.builtin .copy,#[x,y],#[sT,xT]⟩,ty,pos,af,g⟩ E D (HP.AA b o l*R)
   (fun v H'=>v=.int .i64 (min ys.length dl:Nat)∧H'=HP.AA b o (AD (ys.take (min ys.length dl))++l.drop (min ys.length dl*AC.sz α))*R):=by
 intro a w h1 _ h3 K Q hk;have hm:Nat.min ys.length dl=min ys.length dl:=rfl
 have hlen:(ys.take (min ys.length dl)).length=min ys.length dl:=by simp
 have hr':Ab B (HP.AA b o l*R) bb oo (ys.take (min ys.length dl)):=by
  have:=hr.sub 0 (min ys.length dl) (Nat.min_le_left ..)
  simpa using this
 have hf:(B_ (AC.sz α) (min ys.length dl) (.slice pp ys.length cc)).run P w=.ok (AD (ys.take (min ys.length dl))).toArray w:=by
  rcases hs2.1 with h4|rfl
  ·have hx0:ys=[]:=C!.1 (by have:=hs2.2;omega);subst hx0;cases pp<;>simp [B_,AD,loadCells,loadCellsFrom]
  ·simp only [B_]
   have:=hr'.run (P:=P) h3
   rwa [hlen]at this
 have hw2:∃w',((match p with|some q=>storeCells q (AD (ys.take (min ys.length dl)))|none=>pure ()).run P w)=.ok () w'∧
   Sat B (HP.AA b o (AD (ys.take (min ys.length dl))++l.drop (min ys.length dl*AC.sz α))*R) w':=by
  rcases hs.1 with h4|rfl
  ·have hd0:min ys.length dl=0:=by have:=hs.2;omega
   rw [hd0];refine⟨w,?_,by simpa [AD]using h3⟩;cases p<;>simp [AD,storeCells]
  ·have hcm:=O? (AC.sz α) (Nat.min_le_right ys.length dl);obtain⟨w',k1,k2⟩:=Sat.I5 (P:=P) (AD (ys.take (min ys.length dl))) o 0 l R w (by rw [Bl,hlen];omega) (Jh _) h3;rw [Bl,hlen]at k2;exact⟨w',k1,k2⟩
 obtain⟨w',k1,k2⟩:=hw2
 have hrun:(execOp a.eval ⟨d,.call ⟨.builtin .copy,#[x,y],#[sT,xT]⟩,ty,pos,af,g⟩).run P w=.ok (.value (.int .i64 (min ys.length dl:Nat))) w':=by
  simp only [execOp,resolve,C_,O!,List.map_nil,h1.ev hx,h1.ev hy,A!,A?,A_,invoke,builtin];simp only [Builtin.copy_];simp [Bh hT.get,ag,hm,hz.get,hf];cases p<;>simp_all [goInt]
 simp only [H!,hrun,C?];exact hk _ _ _ ⟨rfl,rfl⟩ k2
theorem Rg{s t:ByteArray}(hx:ev E x=some (.string s))(hy:ev E y=some (.string t)):
  Aa P B n ⟨d,.binOp .neq T x y T',ty,pos,af,g⟩ E H (.bool (decide (s≠t))):=by
 intro a w he _;simp only [execOp,he.ev hx,he.ev hy,A!,binOp_string_neq,uH]
 have:(!decide (s=t))=decide (s≠t):=by simp
 rw [this];rfl
end
end
section
abbrev u64(x:UInt64):Value:=.int .u64 (x.toNat:Nat)
@[reducible] instance:AC UInt64:=⟨1,fun b=>[u64 b],0,fun _=>rfl,fun _ v h=>by rw [I_.1 h];rfl⟩
theorem XI(j:Nat)(h:j<64):(L! j).toNat%64=j:=by
 rw [UInt64.toNat_ofNat'];omega
section
variable{P:Program}{B:World}{n:Nat}{E:Ay}{H:HP}{d:Option Tmp}{T T' ty:TypeId}{pos:String}{af:Array Edge}{g:Option (Nat×Bool)}{x y:Operand}
theorem nJ{a b:UInt64}(hx:ev E x=some (u64 a))(hy:ev E y=some (u64 b)):Aa P B n ⟨d,.binOp .add T x y T',ty,pos,af,g⟩ E H (u64 (a+b)):=by
 have:=vI (P:=P) (B:=B) (n:=n) (H:=H) (d:=d) (T:=T) (T':=T') (ty:=ty) (pos:=pos) (af:=af) (g:=g) hx hy
 rw [show u64 (a+b)=.int .u64 ((a.toNat+b.toNat)%18446744073709551616:Nat) by rw [u64,UInt64.toNat_add]];exact this
theorem Ly{a b:UInt64}(hx:ev E x=some (u64 a))(hy:ev E y=some (u64 b)):Aa P B n ⟨d,.binOp .xor T x y T',ty,pos,af,g⟩ E H (u64 (a ^^^b)):=by
 have:=iV (P:=P) (B:=B) (n:=n) (H:=H) (d:=d) (T:=T) (T':=T') (ty:=ty) (pos:=pos) (af:=af) (g:=g) hx hy ⟨a.toNat_lt,b.toNat_lt⟩
 rw [show u64 (a ^^^b)=.int .u64 (a.toNat ^^^b.toNat:Nat) by rw [u64,UInt64.toNat_xor]];exact this
theorem TI{a b:UInt64}(hx:ev E x=some (u64 a))(hy:ev E y=some (u64 b)):Aa P B n ⟨d,.binOp .or T x y T',ty,pos,af,g⟩ E H (u64 (a|||b)):=by
 have:=V3 (P:=P) (B:=B) (n:=n) (H:=H) (d:=d) (T:=T) (T':=T') (ty:=ty) (pos:=pos) (af:=af) (g:=g) hx hy ⟨a.toNat_lt,b.toNat_lt⟩
 rw [show u64 (a|||b)=.int .u64 (a.toNat|||b.toNat:Nat) by rw [u64,UInt64.toNat_or]];exact this
theorem SK{a:UInt64}{k:IntKind}{j:Nat}(hx:ev E x=some (u64 a))(hy:ev E y=some (.int k j))(h:j<64):
  Aa P B n ⟨d,.binOp .shl T x y T',ty,pos,af,g⟩ E H (u64 (a<<< L! j)):=by
 have:=Pc (P:=P) (B:=B) (n:=n) (H:=H) (d:=d) (T:=T) (T':=T') (ty:=ty) (pos:=pos) (af:=af) (g:=g) hx hy (by omega)
 rw [show u64 (a<<< L! j)=.int .u64 (a.toNat*2^j%18446744073709551616:Nat) by
  rw [u64,UInt64.toNat_shiftLeft,XI j h,Nat.shiftLeft_eq]];exact this
theorem JI{a:UInt64}{k:IntKind}{j:Nat}(hx:ev E x=some (u64 a))(hy:ev E y=some (.int k j))(h:j<64):
  Aa P B n ⟨d,.binOp .shr T x y T',ty,pos,af,g⟩ E H (u64 (a>>> L! j)):=by
 have:=Iq (P:=P) (B:=B) (n:=n) (H:=H) (d:=d) (T:=T) (T':=T') (ty:=ty) (pos:=pos) (af:=af) (g:=g) hx hy (by omega)
 rw [show u64 (a>>> L! j)=.int .u64 (a.toNat/2^j:Nat) by
  rw [u64,UInt64.toNat_shiftRight,XI j h,Nat.shiftRight_eq_div_pow]];exact this
theorem Vz{a b:UInt8}(hx:ev E x=some (u8 a))(hy:ev E y=some (u8 b)):Aa P B n ⟨d,.binOp .xor T x y T',ty,pos,af,g⟩ E H (u8 (a ^^^b)):=by
 have:=nY (P:=P) (B:=B) (n:=n) (H:=H) (d:=d) (T:=T) (T':=T') (ty:=ty) (pos:=pos) (af:=af) (g:=g) hx hy ⟨a.toNat_lt,b.toNat_lt⟩
 rw [show u8 (a ^^^b)=.int .u8 (a.toNat ^^^b.toNat:Nat) by rw [u8,UInt8.toNat_xor]];exact this
theorem XF{a:UInt8}[h1:Ar P T (.int .u8)][h2:Ar P T' (.int .u64)](hx:ev E x=some (u8 a)):Aa P B n ⟨d,.convert T T' x,ty,pos,af,g⟩ E H (u64 a.toUInt64):=by
 have:=JX (P:=P) (B:=B) (n:=n) (H:=H) (d:=d) (T:=T) (T':=T') (ty:=ty) (pos:=pos) (af:=af) (g:=g) hx (Lm (by have:=a.toNat_lt;omega))
 rw [show u64 a.toUInt64=.int .u64 (a.toNat:Nat) by rw [u64,UInt8.toNat_toUInt64]];exact this
theorem dG{a:UInt64}[h1:Ar P T (.int .u64)][h2:Ar P T' (.int .u8)](hx:ev E x=some (u64 a)):Aa P B n ⟨d,.convert T T' x,ty,pos,af,g⟩ E H (u8 a.toUInt8):=by
 have:=TA (P:=P) (B:=B) (n:=n) (H:=H) (d:=d) (T:=T) (T':=T') (ty:=ty) (pos:=pos) (af:=af) (g:=g) hx
 rw [show u8 a.toUInt8=.int .u8 (a.toNat%256:Nat) by rw [u8,UInt64.toNat_toUInt8]];exact this
theorem Yr{i:Nat}[h1:Ar P T (.int .i64)][h2:Ar P T' (.int .u8)](hx:ev E x=some (.int .i64 i)):Aa P B n ⟨d,.convert T T' x,ty,pos,af,g⟩ E H (u8 (UInt8.ofNat i)):=by
 have:=TA (P:=P) (B:=B) (n:=n) (H:=H) (d:=d) (T:=T) (T':=T') (ty:=ty) (pos:=pos) (af:=af) (g:=g) hx
 rw [show u8 (UInt8.ofNat i)=.int .u8 (i%256:Nat) by rw [u8,UInt8.toNat_ofNat']];exact this
end
def K5(x:UInt64)(k:Nat):UInt64:=(x<<< L! k)|||(x>>> L! (64-k))
structure S4 where
 a:UInt64
 b:UInt64
 c:UInt64
 d:UInt64
@[reducible] def s4(v:S4):List Value:=[u64 v.a,u64 v.b,u64 v.c,u64 v.d]
def aB(v:S4):S4:=
 let a:=v.a+v.b
 let b:=K5 v.b 13 ^^^a
 let a:=K5 a 32
 let c:=v.c+v.d
 let d:=K5 v.d 16 ^^^c
 let a:=a+d
 let d:=K5 d 21 ^^^a
 let c:=c+b
 let b:=K5 b 17 ^^^c
 ⟨a,b,K5 c 32,d⟩
def Jj:Nat→S4→S4
 |0,v=>v
 |n+1,v=>Jj n (aB v)
theorem rV(n:Nat)(v:S4):Jj (n+1) v=aB (Jj n v):=by
 induction n generalizing v with
 |zero=>rfl
 |succ n ih=>rw [Jj,ih];rfl
end
section
abbrev ptr(b o:Nat):Value:=.pointer (some ⟨b,o,none⟩)
abbrev iN(n:Nat):Value:=.int .i64 (n:Nat)
class EW(P:Program)(t:TypeId)(pl:outParam (Array (Nat×Nat))):Prop where
 get:∃fs,P.underlying t=some (.struct fs)∧∀w,(fs.mapM fun f=>do pure (f.offset,←sizeOf f.type):Sem (Array (Nat×Nat))).run P w=.ok pl w
instance{α:Type}[AC α](B:World)(b o:Nat)(xs:List α):Ab B (HP.AA b o (AD xs)) b o xs:=
 ⟨fun i f v h hi w hw=>(inferInstance:Ab B (AB b o xs []) b o xs).get i f v h hi w (by unfold AB;rw [List.append_nil];exact hw)⟩
theorem Ab.Jr{α:Type}[AC α]{B:World}{H:HP}{b o:Nat}{xs:List α}(h:Ab B H b o xs)(l:Nat):Ab B H b (o+l*AC.sz α) (xs.drop l):=by
 have:=h.sub l xs.length (W_ _)
 rwa [List.take_length]at this
instance(B:World)(H:HP)(b o l:Nat)(xs:List UInt8)[h:Ab B H b o xs]:Ab B H b (o+l*1) (xs.drop l):=h.Jr l
theorem Ab.wE{B:World}{H:HP}{b o:Nat}{xs:List UInt8}(h:Ab B H b o xs)(l:Nat):Ab B H b (o+l) (xs.drop l):=by
 have:Ab B H b (o+l*1) (xs.drop l):=inferInstance
 rwa [P_]at this
instance{α:Type}[AC α](B:World)(H:HP)(b o l:Nat)(xs:List α)[h:Ab B H b o xs]:Ab B H b o (xs.take l):=by
 rcases K! xs.length l with h1|h1
 ·rw [List.take_of_length_le (by omega)];exact h
 ·have:=h.sub 0 l h1
  simpa using this
theorem X9:∀(xs:List UInt8) (i:Nat) (v:UInt8),AD (xs.set i v)=(AD xs).set i (u8 v)
 |[],_,_=>rfl
 |x::xs,0,v=>rfl
 |x::xs,i+1,v=>by
  have:=X9 xs i v
  simp only [T!];simp only [AD,J!,eK,List.singleton_append,T!]at*;rw [this]
instance(b o i:Nat)(xs:List UInt8)(s:List Value)(v:UInt8):CH (AB b o xs s) b (o+i*1) (u8 v) (AB b o (xs.set i v) s) (i<xs.length):=
 ⟨fun r hr hi=>by
  have hfl:(AD xs).length=xs.length:=by rw [Bl];simp
  have h:LE (AD xs++s) i (u8 v) ((AD xs++s).set i (u8 v)):=⟨by rw [B?];omega,rfl⟩
  have h2:=(inferInstance:CH (HP.AA b o (AD xs++s)) b (o+i) (u8 v) (HP.AA b o ((AD xs++s).set i (u8 v))) True).upd r hr trivial
  rw [P_]
  refine⟨h2.1,?_⟩
  have e:AD (xs.set i v)++s=(AD xs++s).set i (u8 v):=by rw [X9,List.set_append_left _ _ (by omega)]
  unfold AB
  rw [e]
  exact h2.2⟩
section
variable{P:Program}{B:World}{n:Nat}{E:Ay}{D:Br}{H:HP}{d:Option Tmp}{T T' ty:TypeId}{pos:String}{af:Array Edge}{g:Option (Nat×Bool)}{x y z:Operand}
theorem mB{pl:Array (Nat×Nat)}{z:Value}{ps:List (Nat×Operand)}{vs:List (Nat×Value)}{cs:List Value}[hT:EW P T pl][hz:BO P T z]
  (hx:I4 E ps=some vs)(hf:S_ (pl[·]?) z.cells vs=some cs.toArray):Aa P B n ⟨d,.build T ps.toArray,ty,pos,af,g⟩ E H (.agg cs.toArray):=by
 intro a w he _;obtain⟨fs,h1,h2⟩:=hT.get
 have hm:(ps.toArray.map fun(i,x)=>(i,a.eval x)).toList=vs:=by rw [C_];exact SA he hx
 simp only [execOp,X_,A!,hz.get,A_,Bh h1,h2,hm,hf,A?]
theorem xQ{f:Go.Fn}{xs ys:List Operand}{us vs:List Value}(h1:DB E xs=some us)(h2:DB E ys=some vs):
  Aa P B n ⟨d,.makeFunc f xs.toArray ys.toArray,ty,pos,af,g⟩ E H (.func f us.toArray vs.toArray):=by
 intro a w he _;simp only [execOp,Instr.makeFunc,C_,HN he h1,HN he h2];rfl
theorem Po{b o len k:Nat}{e sz:Nat}[hT:Ar P T (.array len e)][hz:Bg P e sz](hx:ev E x=some (.pointer (some ⟨b,o,none⟩)))(h:k=len):
  Aa P B n ⟨d,.slice T x none none none,ty,pos,af,g⟩ E H (.slice (some ⟨b,o,none⟩) k len):=by subst h;exact zH hx
theorem yN{b o len l k:Nat}{e sz:Nat}{ik:IntKind}[hT:Ar P T (.array len e)][hz:Bg P e sz](hx:ev E x=some (.pointer (some ⟨b,o,none⟩)))(hy:ev E y=some (.int ik l))(h:l≤len)(hk:k=len-l):
  Aa P B n ⟨d,.slice T x (some y) none none,ty,pos,af,g⟩ E H (.slice (sp (some ⟨b,o,none⟩) len l sz) k (len-l)):=by subst hk;exact rD hx hy h
theorem OP{p:Option Addr}{k k' c sz l:Nat}{e:TypeId}{ik:IntKind}[hT:Ar P T (.slice e)][hz:Bg P e sz](hx:ev E x=some (.slice p k c))(hy:ev E y=some (.int ik l))
  (h:l≤k)(hk:k'=k-l):Aa P B n ⟨d,.slice T x (some y) none none,ty,pos,af,g⟩ E H (.slice (sp p c l sz) k' (c-l)):=by subst hk;exact KU hx hy h
theorem Nr{p:Option Addr}{k k' c sz h:Nat}{e:TypeId}{ik:IntKind}[hT:Ar P T (.slice e)][hz:Bg P e sz](hx:ev E x=some (.slice p k c))(hy:ev E y=some (.int ik h))
  (hc:h≤c)(hk:k'=h):Aa P B n ⟨d,.slice T x none (some y) none,ty,pos,af,g⟩ E H (.slice p k' c):=by subst hk;exact Qd hx hy hc
theorem O7{p:Option Addr}{k k' c sz l h:Nat}{e:TypeId}{ik jk:IntKind}[hT:Ar P T (.slice e)][hz:Bg P e sz](hx:ev E x=some (.slice p k c))(hy:ev E y=some (.int ik l))(hz':ev E z=some (.int jk h))
  (hc:l≤h∧h≤c)(hk:k'=h-l):Aa P B n ⟨d,.slice T x (some y) (some z) none,ty,pos,af,g⟩ E H (.slice (sp p c l sz) k' (c-l)):=by subst hk;exact M4 hx hy hz' hc
theorem rH{r:Option Nat}{fn:Func}{Post:Value→HP→Prop}{ts:List Nat}{vs:List Value}(H':HP)(hr:fn.results=(ts.map I?).toArray)(hv:DB E (ts.map Operand.tmp)=some vs)
  [hE:Bm B H H'](hp:Post (Ew vs) H'):A7 B (HV P B fn Post) .ret n E ⟨[],r⟩ H:=
 fun _ w h1 h2 h3=>⟨h2,_,I3 hr h1 hv w,_,_,rfl,hp,hE.get w h3⟩
theorem Lg{r:Option Nat}{fn:Func}{Post:Value→HP→Prop}{ts:List Nat}{vs:List Value}(H':HP)(hr:fn.results=(ts.map I?).toArray)(hv:DB E (ts.map Operand.tmp)=some vs)
  [hE:Bm B H H'](hp:Post (Ew vs) H'):A7 B (HV P B fn Post) .normal n E ⟨[],r⟩ H:=
 fun _ w h1 h2 h3=>⟨h2,_,I3 hr h1 hv w,_,_,rfl,hp,hE.get w h3⟩
theorem HI{Q:Exit→Act→World→Prop}{c:Code}(H':HP)[hE:Bm B H H'](h:WP P B c Q n E D H'):WP P B c Q n E D H:=fun a w h1 h2 h3=>h a w h1 h2 (hE.get w h3)
theorem pZ{ops:Array Oper}{Q:Exit→Act→World→Prop}{l:List Oper}(H':HP)[hE:Bm B H H'](h:WL P B ops Q l n E D H'):WL P B ops Q l n E D H:=fun a w h1 h2 h3=>h a w h1 h2 (hE.get w h3)
theorem Bf{Q:Exit→Act→World→Prop}{e:Exit}(H':HP)[hE:Bm B H H'](h:A7 B Q e n E D H'):A7 B Q e n E D H:=fun a w h1 h2 h3=>h a w h1 h2 (hE.get w h3)
theorem Dl{Q:Exit→Act→World→Prop}{e:Exit}{H':HP}(he:H=H')(h:A7 B Q e n E D H'):A7 B Q e n E D H:=he▸h
end
theorem Fn.drop{P:Program}{B:World}{f:FuncId}{args:List Value}{H:HP}{A C:Value→HP→Prop}(h:Fn P B f args H A)(hc:∀v H',A v H'→∃H'',C v H''∧∀w,Sat B H' w→Sat B H'' w):Fn P B f args H C:=
 fun w hw=>(h w hw).mono fun _ _ ⟨v,H',e,a,s⟩=>let⟨H'',c,i⟩:=hc v H' a;⟨v,H'',e,c,i _ s⟩
theorem Fn.pre{P:Program}{B:World}{f:FuncId}{args:List Value}{H H':HP}{A:Value→HP→Prop}(e:H=H')(h:Fn P B f args H' A):Fn P B f args H A:=e▸h
end
section
def Hr:List (Nat×Operand)→Nat→Option Operand
 |[],_=>none
 |(i,x)::r,k=>bif Q? i k then some x else Hr r k
def Hz(E:Ay)(ps:List (Nat×Operand)):Nat→List Value→Option (List Value)
 |_,[]=>some []
 |k,z::zs=>match Hr ps k with
  |some x=>match ev E x with
   |some v=>match Hz E ps (k+1) zs with
    |some r=>some (v::r)
    |none=>none
   |none=>none
  |none=>match Hz E ps (k+1) zs with
   |some r=>some (z::r)
   |none=>none
theorem Ze{E:Ay}{ps:List (Nat×Operand)}:∀{zs:List Value} {k:Nat} {cs:List Value},Hz E ps k zs=some cs→cs.length=zs.length∧∀j,j<zs.length→
  match Hr ps (k+j)with
  |some x=>∃v,ev E x=some v∧cs[j]?=some v
  |none=>cs[j]?=zs[j]?
 |[],k,cs,h=>by simp only [Hz,K_.injEq]at h;subst h;exact⟨rfl,fun j hj=>by simp at hj⟩
 |z::zs,k,cs,h=>by
  simp only [Hz]at h
  cases hr:Hz E ps (k+1) zs with
  |none=>simp only [hr]at h;split at h<;>first|(split at h<;>cases h)|cases h
  |some r=>
   obtain⟨h1,h2⟩:=Ze hr;simp only [hr]at h
   cases hf:Hr ps k with
   |none=>
    simp only [hf,K_.injEq]at h;subst h;refine⟨by simp [h1],fun j hj=>?_⟩
    cases j with
    |zero=>simp [hf]
    |succ j=>
     have:=h2 j (by simpa using hj)
     rw [show k+1+j=k+(j+1) by omega]at this;simpa using this
   |some x=>
    simp only [hf]at h
    cases hx:ev E x with
    |none=>simp [hx]at h
    |some v=>
     simp only [hx,K_.injEq]at h;subst h;refine⟨by simp [h1],fun j hj=>?_⟩
     cases j with
     |zero=>simp only [N_,hf];exact⟨v,hx,rfl⟩
     |succ j=>
      have:=h2 j (by simpa using hj)
      rw [show k+1+j=k+(j+1) by omega]at this;simpa using this
theorem XY(place:Nat→Option (Nat×Nat)):∀(vs:List (Nat×Value)) (cells:Array Value),(∀p∈vs,place p.1=some (p.1,1)∧p.1<cells.size∧p.2.oneCell'=true)→
  S_ place cells vs=some (vs.foldl (fun cs p=>cs.setIfInBounds p.1 p.2) cells)
 |[],_,_=>rfl
 |(i,v)::vs,cells,h=>by
  obtain⟨h1,h2,h3⟩:=h (i,v) (by simp)
  have hc:v.cells= #[v]:=by cases v<;>first|rfl|cases h3
  simp only at h1 h2;simp only [S_,h1,hc];rw [if_neg (by simp;omega)]
  have e:(#[v].zipIdx.foldl (fun cs (c,j)=>cs.setIfInBounds (i+j) c) cells)=cells.setIfInBounds i v:=by simp
  rw [e,XY place vs _ (fun p hp=>by
   obtain⟨a,b,c⟩:=h p (by simp [hp])
   exact⟨a,by simpa using b,c⟩)]
  rfl
theorem yJ(vs:List (Nat×Value)):∀(cells:Array Value) (k:Nat),(vs.map M_).Nodup→(vs.foldl (fun cs p=>cs.setIfInBounds p.1 p.2) cells)[k]?=
  match vs.find? (fun p=>p.1==k)with
  |some p=>if k<cells.size then some p.2 else none
  |none=>cells[k]?:=by
 induction vs with
 |nil=>intro cells k _;rfl
 |cons p vs ih=>
  intro cells k hn;simp only [O!,Y?]at hn;simp only [List.foldl_cons];rw [ih _ k hn.2];by_cases hk:p.1=k
  ·have hnone:vs.find? (fun q=>q.1==k)=none:=by
    rw [List.find?_eq_none];intro q hq hqk;exact hn.1 (by rw [hk];simp at hqk;rw [←hqk];exact P! hq)
   simp [hnone,hk,Array.getElem?_setIfInBounds]
  ·have:(p.1==k)=false:=by simp [hk]
   simp only [Z_,this]
   cases vs.find? (fun q=>q.1==k)with
   |none=>simp [N? hk]
   |some q=>simp
theorem Sf{n:Nat}{E:Ay}{a:Act}{ps:List (Nat×Operand)}{zs cs:List Value}(he:CP n E a)(place:Nat→Option (Nat×Nat))(h:Hz E ps 0 zs=some cs)
  (hn:(ps.map M_).Nodup)(hb:∀i∈ps.map M_,i<zs.length)(hp:∀i,i<zs.length→place i=some (i,1))(ho:∀v∈cs,v.oneCell'=true):
  S_ place zs.toArray (ps.map fun(i,x)=>(i,a.eval x))=some cs.toArray:=by
 obtain⟨hl,hg⟩:=Ze h
 have hfind:∀(ps:List (Nat×Operand)) (k:Nat),(ps.map fun(i,x)=>(i,a.eval x)).find? (fun p=>p.1==k)=(Hr ps k).map fun x=>(k,a.eval x):=by
  intro ps k
  induction ps with
  |nil=>rfl
  |cons q r ih=>
   obtain⟨i,x⟩:=q;simp only [O!,Z_,Hr]
   cases hb:Q? i k with
   |true=>obtain rfl:=F_ hb;simp
   |false=>
    have:(i==k)=false:=by rw [beq_eq_false_iff_ne];intro h;subst h;simp at hb
    simp only [this,cond_false];exact ih
 have hfst:(ps.map fun(i,x)=>(i,a.eval x)).map M_=ps.map M_:=by rw [aj];rfl
 have hmem:∀(ps:List (Nat×Operand)) (i:Nat) (x:Operand),(ps.map M_).Nodup→(i,x)∈ps→Hr ps i=some x:=by
  intro ps i x hn hm
  induction ps with
  |nil=>simp at hm
  |cons q r ih=>
   obtain⟨j,y⟩:=q;simp only [O!,Y?]at hn;rcases ae.1 hm with h1|h1
   ·cases h1;simp [Hr]
   ·have hne:Q? j i=false:=by
     cases hb:Q? j i with
     |false=>rfl
     |true=>
      obtain rfl:=F_ hb;exact absurd (P! (f:=M_) h1) hn.1
    simp only [Hr,hne,cond_false];exact ih hn.2 h1
 rw [XY place]
 ·congr 1;apply T?;intro k;rw [yJ _ _ _ (by rw [hfst];exact hn),hfind];rcases K! k zs.length with hk|hk
  ·have:=hg k hk
   rw [U?]at this
   cases hf:Hr ps k with
   |none=>rw [hf]at this;simpa using this.symm
   |some x=>
    rw [hf]at this;obtain⟨v,h1,h2⟩:=this;simp [hk,he.ev h1,h2]
  ·have h1:cs.toArray[k]?=none:=by simp;omega
   rw [h1]
   cases hf:Hr ps k with
   |none=>simpa using hk
   |some x=>simp;omega
 ·intro p hp';obtain⟨⟨i,x⟩,hm,rfl⟩:=al.1 hp';have hi:=hb i (P! (f:=M_) hm);refine⟨hp i hi,by simpa using hi,?_⟩
  have:=hg i hi
  rw [U?,hmem ps i x hn hm]at this;obtain⟨v,h1,h2⟩:=this;simp only [he.ev h1];exact ho v (List.mem_of_getElem? h2)
def Mx(ps:List (Nat×Operand))(m:Nat):Bool:=decide ((ps.map M_).Nodup)&&ps.all fun p=>H? p.1 m
theorem Ql{ps:List (Nat×Operand)}{m:Nat}(h:Mx ps m=true):(ps.map M_).Nodup∧∀i∈ps.map M_,i<m:=by
 simp only [Mx,L_,decide_eq_true_eq,R_]at h;refine⟨h.1,fun i hi=>?_⟩;obtain⟨p,hp,rfl⟩:=al.1 hi;simpa using h.2 p hp
section
variable{P:Program}{B:World}{n:Nat}{E:Ay}{D:Br}{H:HP}{d:Option Tmp}{T T' ty:TypeId}{pos:String}{af:Array Edge}{g:Option (Nat×Bool)}{x y z:Operand}
theorem Vc{len e:Nat}{zs cs:List Value}{ps:List (Nat×Operand)}[hT:Ar P T (.array len e)][hs:Bg P e 1][hz:BO P T (.agg zs.toArray)]
  (hx:Hz E ps 0 zs=some cs)(hi:Mx ps zs.length=true)(ho:∀v∈cs,v.oneCell'=true):Aa P B n ⟨d,.build T ps.toArray,ty,pos,af,g⟩ E H (.agg cs.toArray):=by
 intro a w he _;obtain⟨h1,h2⟩:=Ql hi;have hf:=Sf he (fun i=>some (i*1,1)) hx h1 h2 (fun i _=>by rw [P_]) ho;simp only [execOp,X_,A!,hz.get,A_,Bh hT.get,hs.get,C_,Value.cells,hf,A?]
theorem Ex{pl:Array (Nat×Nat)}{zs cs:List Value}{ps:List (Nat×Operand)}[hT:EW P T pl][hz:BO P T (.agg zs.toArray)]
  (hx:Hz E ps 0 zs=some cs)(hi:Mx ps zs.length=true)(hp:pl=((Z? zs.length).map fun i=>(i,1)).toArray)(ho:∀v∈cs,v.oneCell'=true):
  Aa P B n ⟨d,.build T ps.toArray,ty,pos,af,g⟩ E H (.agg cs.toArray):=by
 intro a w he _;obtain⟨fs,k1,k2⟩:=hT.get;obtain⟨h1,h2⟩:=Ql hi;have hf:=Sf he (pl[·]?) hx h1 h2 (fun i hi=>by subst hp;simp [hi]) ho;simp only [execOp,X_,A!,hz.get,A_,Bh k1,k2,C_,Value.cells,hf,A?]
theorem wR{len e:Nat}{zv:Value}{cs:List Value}{ps:List (Nat×Operand)}[hT:Ar P T (.slice e)][hz:Bg P e 1][h0:BO P e zv]
  (hx:Hz E ps 0 (Q_ len zv)=some cs)(hi:Mx ps len=true)(ho:∀v∈cs,v.oneCell'=true)(hzv:zv.cells= #[zv])(hb:am len 16777216=true)(hp:H? 0 len=true):
  CE P B n ⟨d,.buildSlice T len ps.toArray,ty,pos,af,g⟩ E D H (fun v H'=>∃b,v=.slice (some ⟨b,0,none⟩) len len∧H'=HP.AA b 0 cs*H):=by
 intro a w h1 _ h3 K Q hk
 have hb':¬len*1> 2^24:=by have:=S? hb;omega
 have hp':¬len*1=0:=by
  have:0<len:=by simpa using hp
  omega
 obtain⟨k1,k2⟩:=Ql hi
 have hz1:((T_ (len*1)).map fun i=>zv.cells[i%zv.cells.size]!)=(Q_ len zv).toArray:=by
  rw [hzv,P_];apply T?;intro i;rcases K! i len with h|h
  ·simp [h,Nat.mod_one]
  ·simp [h]
 have hf:=Sf h1 (fun i=>some (i*1,1)) hx k1 (by simpa using k2) (fun i _=>by rw [P_]) ho
 have hrun:(execOp a.eval ⟨d,.buildSlice T len ps.toArray,ty,pos,af,g⟩).run P w=.ok (.value (.slice (some ⟨w.heap.size,0,none⟩) len len)) (w.alloc (.cells cs.toArray e)):=by
  simp only [execOp,V?,A!,Bh hT.get,A_,hz.get,hb',if_false,hp',h0.get,A?,C_,hz1,hf,newRow];rfl
 simp only [H!,hrun,C?];exact hk _ _ _ ⟨w.heap.size,rfl,rfl⟩ (h3.alloc cs.toArray e)
end
end
end Go.Proofs.YtgfdlpcdjklcoaaGreatDoor
