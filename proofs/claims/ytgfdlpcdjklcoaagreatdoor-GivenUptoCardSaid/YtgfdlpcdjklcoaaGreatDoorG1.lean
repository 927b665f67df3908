/- A part of this proof: steps of the program, plain facts; no condition. -/
import Derived.WalkKit
import Derived.OrdersHeld
import Derived.Sort.LoopGhostIn
import Derived.RangeFuncOwn
import Derived.RangeFuncLeaves
import Derived.OrdersIn
namespace Go.Proofs.YtgfdlpcdjklcoaaGreatDoor
open Go Go.RowKit
open _root_.Go.Result renaming andThen_ok→a_
open _root_.Go.Sem renaming run_bind→b_,run_pure→c_
open _root_.Go.Builtin renaming firstCells→d_,zeroCells→kg,append_→ko,lenOf→om,len_→ov
open _root_.Go.Region renaming wanted→e_,ready→i_,binds→li,free_spec→mj,noSelect→nt
open _root_.List renaming length_append→f_,map_toArray→g_,length_eq_zero_iff→g',getElem?_append_left→km,getElem?_eq_some_iff→kn,getElem?_eq_getElem→kq,mem_singleton→kv,flatMap_cons→k_,getElem?_append_right→ld,getElem?_eq_none→ly,map_cons→lz,mem_map_of_mem→mb,replicate→me,all_eq_true→mh,set_cons_succ→my,append_assoc→nf,nodup_cons→n_,find?_cons→oa,range→od,mem_range→oe,mem_cons→ol,map_map→ow,mem_map→oy,getD→o_
open _root_.Go.Oper renaming upon→h_,wp→kt
open _root_.Go.Instr renaming sureAddr→j_,sliceBounds→kp,sliceAt→lm,fill→mn,sliceBound→ng,buildSlice→nh,slice→nq,build→nr,makeSlice→nv,indexAt→og,storeAt→oh,loadAt→ot
open _root_.Go.Addr renaming add→kf
open _root_.Nat renaming mod_eq_of_lt→kh,eq_of_beq_eq_true→kj,blt→ku,lt_or_ge→lh,add_zero→lu,mul_le_mul_right→l_,mul_one→ma,beq→mg,min_eq_left→mq,le_of_ble_eq_true→mv,succ_mul→nc,zero_add→nd,le_refl→nk,add_mul→np,ble→oz
open _root_.Array renaming getElem?_eq_some_iff→ki,getElem?_eq_none→kr,getElem?_modify→ky,all_eq_true_iff_forall_mem→lw,getElem?_setIfInBounds_ne→lx,getElem?_eq_getElem→mf,getElem?_push_lt→ml,range→mx,ext_getElem?→m_,getElem_mem→na,replicate→nu
open _root_.Option renaming map_none→kw,some→lf,map_some→lq,isSome_none→lr,none_or→oc
open _root_.Go.ResultVar renaming tmp→kx
open _root_.Bool renaming and_eq_true→lj,or_eq_true→ns
open _root_.UInt64 renaming ofNat→ll
open _root_.Prod renaming fst→ln
open _root_.Go.Question renaming appendCap→md,cut→ox
set_option linter.unusedVariables false
structure Aw where
 c:Nat→Nat→Option Value
 o:Nat→Option Obj
namespace Aw
@[ext] theorem ext{r s:Aw}(h1:∀b i,r.c b i=s.c b i)(h2:∀b,r.o b=s.o b):r=s:=by
 cases r;cases s;simp only [Aw.mk.injEq];exact⟨funext fun b=>funext fun i=>h1 b i,funext h2⟩
def nil:Aw:=⟨fun _ _=>none,fun _=>none⟩
def un(r s:Aw):Aw:=⟨fun b i=>(r.c b i).or (s.c b i),fun b=>(r.o b).or (s.o b)⟩
def dj(r s:Aw):Prop:=(∀b i,r.c b i=none∨s.c b i=none)∧(∀b,r.o b=none∨s.o b=none)
theorem dj.symm{r s:Aw}(h:r.dj s):s.dj r:=⟨fun b i=>(h.1 b i).symm,fun b=>(h.2 b).symm⟩
theorem Wf{r s:Aw}(h:r.dj s):r.un s=s.un r:=by
 apply ext
 ·intro b i;simp only [un];rcases h.1 b i with e|e<;>simp [e]
 ·intro b;simp only [un];rcases h.2 b with e|e<;>simp [e]
theorem OP(r s t:Aw):(r.un s).un t=r.un (s.un t):=by
 apply ext<;>intros<;>simp [un,Option.or_assoc]
theorem Qo(r:Aw):nil.un r=r:=by apply ext<;>intros<;>simp [un,nil]
theorem pY(r:Aw):r.un nil=r:=by apply ext<;>intros<;>simp [un,nil]
theorem Ta(r:Aw):nil.dj r:=⟨fun _ _=>.inl rfl,fun _=>.inl rfl⟩
theorem LR{r s t:Aw}:r.dj (s.un t)↔r.dj s∧r.dj t:=by
 constructor
 ·intro h;refine⟨⟨fun b i=>?_,fun b=>?_⟩,⟨fun b i=>?_,fun b=>?_⟩⟩
  ·rcases h.1 b i with e|e;exact .inl e;simp [un]at e;exact .inr e.1
  ·rcases h.2 b with e|e;exact .inl e;simp [un]at e;exact .inr e.1
  ·rcases h.1 b i with e|e;exact .inl e;simp [un]at e;exact .inr e.2
  ·rcases h.2 b with e|e;exact .inl e;simp [un]at e;exact .inr e.2
 ·rintro⟨h1,h2⟩;refine⟨fun b i=>?_,fun b=>?_⟩
  ·rcases h1.1 b i with e|e;exact .inl e;rcases h2.1 b i with e'|e';exact .inl e';exact .inr (by simp [un,e,e'])
  ·rcases h1.2 b with e|e;exact .inl e;rcases h2.2 b with e'|e';exact .inl e';exact .inr (by simp [un,e,e'])
theorem WR{r s t:Aw}:(r.un s).dj t↔r.dj t∧s.dj t:=
 ⟨fun h=>let⟨a,b⟩:=LR.1 h.symm;⟨a.symm,b.symm⟩,fun⟨a,b⟩=>(LR.2 ⟨a.symm,b.symm⟩).symm⟩
end Aw
def HP:Type:=Aw→Prop
namespace HP
theorem ext{A B:HP}(h:∀r,A r↔B r):A=B:=funext fun r=>propext (h r)
def BN:HP:=fun r=>r=Aw.nil
def sep(A B:HP):HP:=fun r=>∃x y,Aw.dj x y∧r=x.un y∧A x∧B y
def ex{α:Type}(P:α→HP):HP:=fun r=>∃x,P x r
def pr(p:Prop):HP:=fun r=>p∧r=Aw.nil
end HP
instance:Mul HP:=⟨HP.sep⟩
namespace HP
theorem comm(A B:HP):A*B=B*A:=by
 apply ext;intro r;constructor
 ·rintro⟨x,y,h,rfl,a,b⟩;exact⟨y,x,h.symm,Aw.Wf h,b,a⟩
 ·rintro⟨x,y,h,rfl,a,b⟩;exact⟨y,x,h.symm,Aw.Wf h,b,a⟩
theorem assoc(A B C:HP):A*B*C=A*(B*C):=by
 apply ext;intro r;constructor
 ·rintro⟨_,z,h,rfl,⟨x,y,h2,rfl,a,b⟩,c⟩;obtain⟨h3,h4⟩:=Aw.WR.1 h;exact⟨x,y.un z,Aw.LR.2 ⟨h2,h3⟩,Aw.OP ..,a,y,z,h4,rfl,b,c⟩
 ·rintro⟨x,_,h,rfl,a,y,z,h2,rfl,b,c⟩;obtain⟨h3,h4⟩:=Aw.LR.1 h;exact⟨x.un y,z,Aw.WR.2 ⟨h4,h2⟩,(Aw.OP ..).symm,⟨x,y,h3,rfl,a,b⟩,c⟩
theorem CV(A B C:HP):A*(B*C)=B*(A*C):=by
 rw [←assoc,comm A B,assoc]
instance:Std.Commutative (α:=HP) (·*·):=⟨comm⟩
instance:Std.Associative (α:=HP) (·*·):=⟨assoc⟩
@[simp] theorem BR(A:HP):BN*A=A:=by
 apply ext;intro r;constructor
 ·rintro⟨_,y,_,rfl,rfl,b⟩;rw [Aw.Qo];exact b
 ·intro h;exact⟨Aw.nil,r,Aw.Ta r,(Aw.Qo r).symm,rfl,h⟩
@[simp] theorem Ge(A:HP):A*BN=A:=by rw [comm,BR]
theorem HG{α:Type}(P:α→HP)(B:HP):ex P*B=ex fun x=>P x*B:=by
 apply ext;intro r;constructor
 ·rintro⟨x,y,h,rfl,⟨z,a⟩,b⟩;exact⟨z,x,y,h,rfl,a,b⟩
 ·rintro⟨z,x,y,h,rfl,a,b⟩;exact⟨x,y,h,rfl,⟨z,a⟩,b⟩
theorem XM{p:Prop}{A:HP}{r:Aw}:(pr p*A) r↔p∧A r:=by
 constructor
 ·rintro⟨x,y,h,rfl,⟨hp,rfl⟩,a⟩;rw [Aw.Qo];exact⟨hp,a⟩
 ·rintro⟨hp,a⟩;exact⟨Aw.nil,r,Aw.Ta r,(Aw.Qo r).symm,⟨hp,rfl⟩,a⟩
def AA(b o:Nat)(l:List Value):HP:=fun r=>r=⟨fun b' i=>if b'=b∧o≤i then l[i-o]? else none,fun _=>none⟩
def obj(b:Nat)(x:Obj):HP:=fun r=>r=⟨fun _ _=>none,fun b'=>if b'=b then some x else none⟩
theorem aD(b o:Nat):AA b o []=BN:=by
 apply ext;intro r;simp [AA,BN,Aw.nil]
theorem Fa(b o:Nat)(l m:List Value):AA b o (l++m)=AA b o l*AA b (o+l.length) m:=by
 apply ext;intro r;constructor
 ·intro h;refine⟨_,_,⟨fun b' i=>?_,fun _=>.inl rfl⟩,?_,rfl,rfl⟩
  ·by_cases h1:b'=b∧o≤i
   ·by_cases h2:i-o<l.length
    ·refine .inr ?_;simp only [];rw [if_neg];omega
    ·refine .inl ?_;simp only [];rw [if_pos h1];exact ly (by omega)
   ·exact .inl (if_neg h1)
  ·rw [h];apply Aw.ext
   ·intro b' i;simp only [Aw.un];by_cases h1:b'=b∧o≤i
    ·rw [if_pos h1,if_pos h1];by_cases h2:i-o<l.length
     ·rw [km h2,kq h2];rfl
     ·rw [ld (by omega),if_pos ⟨h1.1,by omega⟩,ly (l:=l) (by omega)];simp only [oc];congr 1;omega
    ·rw [if_neg h1,if_neg h1,if_neg (by omega)];rfl
   ·intro b';rfl
 ·rintro⟨x,y,_,rfl,rfl,rfl⟩;apply Aw.ext
  ·intro b' i;simp only [Aw.un];by_cases h1:b'=b∧o≤i
   ·rw [if_pos h1,if_pos h1];by_cases h2:i-o<l.length
    ·rw [km h2,kq h2];rfl
    ·rw [ld (by omega),if_pos ⟨h1.1,by omega⟩,ly (l:=l) (by omega)];simp only [oc];congr 1;omega
   ·rw [if_neg h1,if_neg h1,if_neg (by omega)];rfl
  ·intro b';rfl
end HP
def Lg(w:World)(b:Nat):Obj→Prop
 | .cells _ _ _=>∃c t lo,w.heap[b]?=some (.cells c t (lo,0))
 |x=>w.heap[b]?=some x
theorem UV{w:World}{b:Nat}{x:Obj}(hx:∀c t f,x≠ .cells c t f):Lg w b x↔w.heap[b]?=some x:=by
 cases x<;>first|exact Iff.rfl|exact absurd rfl (hx _ _ _)
theorem Lg.lt{w:World}{b:Nat}{x:Obj}(h:Lg w b x):b<w.heap.size:=by
 have:∃y,w.heap[b]?=some y:=by
  cases x with
  |cells _ _ _=>obtain⟨c,t,lo,e⟩:=h;exact⟨_,e⟩
  |_=>exact⟨_,h⟩
 obtain⟨y,e⟩:=this;exact(ki.1 e).1
theorem Lg.same{w w':World}{b:Nat}{x:Obj}(h:Lg w b x)(e:w'.heap[b]?=w.heap[b]?):Lg w' b x:=by
 cases x with
 |cells _ _ _=>obtain⟨c,t,lo,h⟩:=h;exact⟨c,t,lo,e.trans h⟩
 |_=>exact e.trans h
structure Aw.Qu(n:Nat)(r:Aw)(w:World):Prop where
 cell:∀b i v,r.c b i=some v→w.cell? ⟨b,i,none⟩=some v
 free:∀b i v,r.c b i=some v→w.frozen? ⟨b,i,none⟩=false
 obj:∀b x,r.o b=some x→Lg w b x
 other:∀b x,r.o b=some x→True
 JA:∀b i v,r.c b i=some v→n≤b
 KN:∀b x,r.o b=some x→n≤b
def Sat(B:World)(H:HP)(w:World):Prop:=Below B.heap.size B w∧∃r,H r∧r.Qu B.heap.size w
theorem Aw.Qu.left{n:Nat}{r s:Aw}{w:World}(h:(r.un s).Qu n w):r.Qu n w:=by
 refine⟨fun b i v e=>h.cell b i v ?_,fun b i v e=>h.free b i v ?_,fun b x e=>h.obj b x ?_,fun b x e=>h.other b x ?_,fun b i v e=>h.JA b i v ?_,fun b x e=>h.KN b x ?_⟩<;>simp [Aw.un,e]
theorem Sat.left{B:World}{A C:HP}{w:World}(h:Sat B (A*C) w):Sat B A w:=by
 obtain⟨h1,r,⟨x,y,hd,rfl,a,c⟩,h2⟩:=h;exact⟨h1,x,a,h2.left⟩
theorem Sat.right{B:World}{A C:HP}{w:World}(h:Sat B (A*C) w):Sat B C w:=by
 rw [HP.comm]at h;exact h.left
theorem Sat.start(B:World):Sat B HP.BN B:=
 ⟨Below.refl _ _,Aw.nil,rfl,⟨(fun _ _ _ h=>by cases h),(fun _ _ _ h=>by cases h),(fun _ _ h=>by cases h),(fun _ _ h=>by cases h),(fun _ _ _ h=>by cases h),(fun _ _ h=>by cases h)⟩⟩
theorem Sat.BN{B:World}{A:HP}{w:World}(h:Sat B A w):Sat B HP.BN w:=by
 refine Sat.left (C:=A) ?_;rw [HP.BR];exact h
theorem Sat.Il{B:World}{A:HP}{w:World}(h:Sat B A w):Sat B A {w with drawn:=w.drawn+1}:=by
 obtain⟨⟨a,b,c,d,e⟩,r,hr,h2⟩:=h;exact⟨⟨a,b,c,d,e⟩,r,hr,⟨h2.cell,h2.free,h2.obj,h2.other,h2.JA,h2.KN⟩⟩
theorem Sat.ex{B:World}{α:Type}{P:α→HP}{w:World}:Sat B (HP.ex P) w↔∃x,Sat B (P x) w:=
 ⟨fun⟨h1,r,⟨x,hx⟩,h2⟩=>⟨x,h1,r,hx,h2⟩,fun⟨x,h1,r,hx,h2⟩=>⟨h1,r,⟨x,hx⟩,h2⟩⟩
theorem Sat.pr{B:World}{p:Prop}{A:HP}{w:World}:Sat B (HP.pr p*A) w↔p∧Sat B A w:=
 ⟨fun⟨h1,r,hr,h2⟩=>let⟨hp,ha⟩:=HP.XM.1 hr;⟨hp,h1,r,ha,h2⟩,fun⟨hp,h1,r,hr,h2⟩=>⟨h1,r,HP.XM.2 ⟨hp,hr⟩,h2⟩⟩
abbrev A5:=List (Nat×Value)
def lk:A5→Nat→Option Value
 |[],_=>none
 |(u,v)::E,t=>bif mg u t then some v else lk E t
def ev(E:A5):Operand→Option Value
 | .tmp t=>lk E t
 | .const v=>some v
 | .global g=>some (.pointer (some ⟨g,0,none⟩))
 | .func f=>some (.func (.func f) #[] #[])
def DA(n:Nat)(E:A5)(a:Act):Prop:=a.tmps.size=n∧∀t v,lk E t=some v→a.tmps[t]?=some v
theorem DA.ev{n:Nat}{E:A5}{a:Act}(h:DA n E a){x:Operand}{v:Value}(e:ev E x=some v):a.eval x=v:=by
 cases x with
 |tmp t=>have:=h.2 t v e;simp [Act.eval,this]
 |const u=>simpa [Proofs.YtgfdlpcdjklcoaaGreatDoor.ev,Act.eval]using e
 |global g=>simpa [Proofs.YtgfdlpcdjklcoaaGreatDoor.ev,Act.eval]using e
 |func f=>simpa [Proofs.YtgfdlpcdjklcoaaGreatDoor.ev,Act.eval]using e
theorem DA.put{n:Nat}{E:A5}{a:Act}(h:DA n E a){t:Nat}(ht:t<n)(v:Value):DA n ((t,v)::E) (a.put (some t) v):=by
 refine⟨by simp [Act.put,h.1],fun u w e=>?_⟩;simp only [lk]at e;cases hb:mg t u
 ·rw [hb]at e
  have hne:t≠u:=fun h=>by subst h;simp at hb
  simp only [Act.put,lx hne];exact h.2 u w e
 ·rw [hb]at e;obtain rfl:=kj hb;simp only [cond_true,lf.injEq]at e;subst e;simp [Act.put,h.1,ht]
def Sub(E F:A5):Prop:=∀t v,lk F t=some v→lk E t=some v
theorem DA.sub{n:Nat}{E F:A5}{a:Act}(h:DA n E a)(s:Sub E F):DA n F a:=⟨h.1,fun t v e=>h.2 t v (s t v e)⟩
theorem Sub.nil{E:A5}:Sub E []:=fun _ _ h=>by cases h
theorem Sub.cons{E F:A5}{t:Nat}{v:Value}(h:lk E t=some v)(s:Sub E F):Sub E ((t,v)::F):=by
 intro u w e;simp only [lk]at e;cases hb:mg t u
 ·rw [hb]at e;exact s u w e
 ·rw [hb]at e;obtain rfl:=kj hb;simp only [cond_true,lf.injEq]at e;subst e;exact h
class Mm(l:List Value)(k:Nat)(v:outParam Value):Prop where
 get:l[k]?=some v
instance(priority:=1100)(v:Value)(l:List Value):Mm (v::l) 0 v:=⟨rfl⟩
instance(u v:Value)(l:List Value)(k:Nat)[h:Mm l k v]:Mm (u::l) (k+1) v:=⟨by simpa using h.get⟩
class MM(l:List Value)(k:Nat)(v:Value)(l':outParam (List Value)):Prop where
 lt:k<l.length
 eq:l'=l.set k v
instance(u v:Value)(l:List Value):MM (u::l) 0 v (v::l):=⟨by simp,rfl⟩
instance(u v:Value)(l l':List Value)(k:Nat)[h:MM l k v l']:MM (u::l) (k+1) v (u::l'):=⟨by have:=h.lt;simp;omega,by rw [h.eq];rfl⟩
class Cell(H:HP)(b i:Nat)(v:outParam Value)(s:outParam Prop):Prop where
 get:∀r,H r→s→r.c b i=some v
instance(b o k:Nat)(l:List Value)(v:Value)[h:Mm l k v]:Cell (HP.AA b o l) b (o+k) v True:=
 ⟨fun r hr _=>by rw [show r=_ from hr];simp [h.get]⟩
instance(priority:=900)(b o:Nat)(l:List Value)(v:Value):Cell (HP.AA b o (v::l)) b o v True:=
 ⟨fun r hr _=>by rw [show r=_ from hr];simp⟩
instance(A C:HP)(b i:Nat)(v:Value)(s:Prop)[h:Cell A b i v s]:Cell (A*C) b i v s:=
 ⟨fun r ⟨x,y,_,e,a,_⟩ hs=>by rw [e];simp [Aw.un,h.get x a hs]⟩
instance(A C:HP)(b i:Nat)(v:Value)(s:Prop)[h:Cell C b i v s]:Cell (A*C) b i v s:=
 ⟨fun r ⟨x,y,d,e,_,c⟩ hs=>by
  have:=h.get y c hs
  rw [e];rcases d.1 b i with h1|h1
  ·simp [Aw.un,this,h1]
  ·rw [this]at h1;cases h1⟩
class Rd(B:World)(H:HP)(b i:Nat)(v:outParam Value)(s:outParam Prop):Prop where
 get:∀w,Sat B H w→s→w.cell? ⟨b,i,none⟩=some v
instance(priority:=500)(B:World)(H:HP)(b i:Nat)(v:Value)(s:Prop)[h:Cell H b i v s]:Rd B H b i v s:=
 ⟨fun _ ⟨_,r,hr,hl⟩ hs=>hl.cell b i v (h.get r hr hs)⟩
instance(priority:=400)(B:World)(A C:HP)(b i:Nat)(v:Value)(s:Prop)[h:Rd B A b i v s]:Rd B (A*C) b i v s:=⟨fun w hw hs=>h.get w hw.left hs⟩
instance(priority:=400)(B:World)(A C:HP)(b i:Nat)(v:Value)(s:Prop)[h:Rd B C b i v s]:Rd B (A*C) b i v s:=⟨fun w hw hs=>h.get w hw.right hs⟩
def Aw.set(b i:Nat)(v:Value)(r:Aw):Aw:=⟨fun b' i'=>if b'=b∧i'=i then some v else r.c b' i',r.o⟩
class C3(H:HP)(b i:Nat)(v:Value)(H':outParam HP)(s:outParam Prop):Prop where
 upd:∀r,H r→s→r.c b i≠none∧H' (r.set b i v)
instance(b o k:Nat)(l l':List Value)(v:Value)[h:MM l k v l']:C3 (HP.AA b o l) b (o+k) v (HP.AA b o l') True:=
 ⟨fun r hr _=>by
  have hlt:=h.lt
  rw [show r=_ from hr]
  refine⟨by simp [hlt],?_⟩
  show Aw.set _ _ _ _=_
  apply Aw.ext
  ·intro b' i'
   rw [h.eq]
   simp only [Aw.set,List.getElem?_set]
   by_cases h1:b'=b∧i'=o+k
   ·obtain⟨rfl,rfl⟩:=h1;simp [hlt]
   ·by_cases h2:b'=b∧o≤i'
    ·rw [if_neg h1,if_pos h2,if_pos h2,if_neg (by omega)]
    ·rw [if_neg h1,if_neg h2,if_neg h2]
  ·intro b';rfl⟩
instance(priority:=900)(b o:Nat)(l:List Value)(u v:Value):C3 (HP.AA b o (u::l)) b o v (HP.AA b o (v::l)) True:=by
 have h:C3 (HP.AA b o (u::l)) b (o+0) v (HP.AA b o (v::l)) True:=inferInstance;exact h
theorem Aw.aq{b i:Nat}{v:Value}{x y:Aw}(d:x.dj y)(h:x.c b i≠none):(x.set b i v).dj y∧(x.un y).set b i v=(x.set b i v).un y:=by
 have hy:y.c b i=none:=(d.1 b i).resolve_left h;refine⟨⟨fun b' i'=>?_,d.2⟩,?_⟩
 ·by_cases e:b'=b∧i'=i
  ·obtain⟨rfl,rfl⟩:=e;exact .inr hy
  ·rcases d.1 b' i' with h1|h1
   ·left;simp only [Aw.set,if_neg e];exact h1
   ·exact .inr h1
 ·apply Aw.ext
  ·intro b' i';simp only [Aw.set,Aw.un];by_cases e:b'=b∧i'=i
   ·simp [e]
   ·simp [e]
  ·intro b';rfl
instance(A A' C:HP)(b i:Nat)(v:Value)(s:Prop)[h:C3 A b i v A' s]:C3 (A*C) b i v (A'*C) s:=
 ⟨fun r ⟨x,y,d,e,a,c⟩ hs=>by
  obtain⟨h1,h2⟩:=h.upd x a hs
  obtain⟨h3,h4⟩:=Aw.aq (v:=v) d h1
  subst e
  refine⟨?_,_,y,h3,h4,h2,c⟩
  simp only [Aw.un]
  cases hx:x.c b i with
  |none=>exact absurd hx h1
  |some _=>simp⟩
instance(A C C':HP)(b i:Nat)(v:Value)(s:Prop)[h:C3 C b i v C' s]:C3 (A*C) b i v (A*C') s:=
 ⟨by rw [HP.comm A C,HP.comm A C'];exact(inferInstance:C3 (C*A) b i v (C'*A) s).upd⟩
theorem Sat.store{B:World}{H H':HP}{b i:Nat}{v:Value}{s:Prop}{w:World}(h:C3 H b i v H' s)(hw:Sat B H w)(hs:s):
  (∃u,w.cell? ⟨b,i,none⟩=some u)∧w.frozen? ⟨b,i,none⟩=false∧Sat B H' (w.setCell ⟨b,i,none⟩ v):=by
 obtain⟨h1,r,hr,hl⟩:=hw;obtain⟨h2,h3⟩:=h.upd r hr hs;obtain⟨u,hu⟩:=Option.ne_none_iff_exists'.1 h2;have hc:=hl.cell b i u hu
 have hne:∀k,k<B.heap.size→(w.setCell ⟨b,i,none⟩ v).heap[k]?=w.heap[k]?:=fun k hk=>by
  have:=hl.JA b i u hu
  simp only [World.setCell];rw [ky,if_neg (by omega)]
 refine⟨⟨u,hc⟩,hl.free b i u hu,⟨h1.os,h1.tape,h1.output,by simpa [World.setCell]using h1.size,fun k hk=>(hne k hk).trans (h1.block k hk)⟩,_,h3,?_⟩;refine⟨fun b' i' v' e=>?_,fun b' i' v' e=>?_,fun b' x e=>?_,fun _ _ _=>trivial,fun b' i' v' e=>?_,fun b' x e=>hl.KN b' x e⟩
 ·simp only [Aw.set]at e;by_cases he:b'=b∧i'=i
  ·obtain⟨rfl,rfl⟩:=he;simp at e;subst e;exact World.cell?_setCell_same _ _ _ hc
  ·rw [if_neg he]at e;rw [World.cell?_setCell_other _ _ _ _ (fun h=>he (by cases h;exact⟨rfl,rfl⟩))];exact hl.cell b' i' v' e
 ·rw [World.frozen?_setCell];simp only [Aw.set]at e;by_cases he:b'=b∧i'=i
  ·obtain⟨rfl,rfl⟩:=he;exact hl.free _ _ u hu
  ·rw [if_neg he]at e;exact hl.free b' i' v' e
 ·have hx:=hl.obj b' x e;by_cases hbb:b=b'
  ·subst hbb
   cases x with
   |cells _ _ _=>obtain⟨c,t,lo,h⟩:=hx;exact⟨_,t,lo,by simp only [World.setCell];rw [ky,if_pos rfl,h];rfl⟩
   |_=>show(w.setCell ⟨b,i,none⟩ v).heap[b]?=_;simp only [World.setCell];rw [ky,if_pos rfl,show w.heap[b]?=_ from hx];rfl
  ·refine hx.same ?_;simp only [World.setCell];rw [ky,if_neg hbb]
 ·simp only [Aw.set]at e;by_cases he:b'=b∧i'=i
  ·obtain⟨rfl,rfl⟩:=he;exact hl.JA _ _ u hu
  ·rw [if_neg he]at e;exact hl.JA b' i' v' e
theorem World.Ox(w:World)(o:Obj):(w.alloc o).heap.size=w.heap.size+1:=Array.size_push ..
theorem Sat.gH{B:World}{H:HP}{w:World}(hw:Sat B H w)(c:Array Value)(t:TypeId)(lo hi:Nat)(hfr:hi=0∨c.size≤lo):
  Sat B (HP.AA w.heap.size 0 c.toList*H) (w.alloc (.cells c t (lo,hi))):=by
 obtain⟨h1,r,hr,hl⟩:=hw;have hsz:B.heap.size≤w.heap.size:=h1.size
 have hlt:∀b i v,r.c b i=some v→b<w.heap.size:=fun b i v e=>by
  rcases lh b w.heap.size with h|h
  ·exact h
  ·have:=hl.cell b i v e;simp [World.cell?,kr h]at this
 have hltO:∀b x,r.o b=some x→b<w.heap.size:=fun b x e=>(hl.obj b x e).lt;refine⟨⟨h1.os,h1.tape,h1.output,(by rw [World.Ox];omega),fun k hk=>?_⟩,_,⟨_,r,?_,rfl,rfl,hr⟩,?_⟩
 ·rw [←h1.block k hk];simp only [World.alloc];rw [ml (by omega)];exact(mf (by omega)).symm
 ·refine⟨fun b i=>?_,fun b=>.inl rfl⟩
  cases e:r.c b i with
  |none=>exact .inr rfl
  |some v=>left;simp only [];rw [if_neg];intro h;have:=hlt b i v e;omega
 ·refine⟨fun b i v e=>?_,fun b i v e=>?_,fun b x e=>?_,fun b x e=>?_,fun b i v e=>?_,fun b x e=>?_⟩
  ·simp only [Aw.un]at e;by_cases h:b=w.heap.size∧0≤i
   ·obtain⟨rfl,_⟩:=h;rw [World.cell?_alloc_mark]
    cases h2:r.c w.heap.size i with
    |none=>simpa [h2]using e
    |some u=>have:=hlt _ _ _ h2;omega
   ·rw [if_neg h]at e;simp at e;rw [World.cell?_alloc_lt _ _ _ (hlt b i v e)];exact hl.cell b i v e
  ·simp only [Aw.un]at e;by_cases h:b=w.heap.size∧0≤i
   ·obtain⟨rfl,_⟩:=h;rw [World.frozen?_alloc_mark]
    have hlt2:i<c.size:=by
     cases h2:r.c w.heap.size i with
     |none=>
      have e2:c[i]?=some v:=by simpa [h2]using e
      exact(ki.1 e2).1
     |some u=>have:=hlt _ _ _ h2;omega
    rcases hfr with h3|h3<;>simp<;>omega
   ·rw [if_neg h]at e;simp at e;rw [World.frozen?_alloc_old _ _ _ (by have:=hlt b i v e;simp;omega)];exact hl.free b i v e
  ·simp only [Aw.un]at e
   have e':r.o b=some x:=by simpa using e
   refine(hl.obj b x e').same ?_;simp only [World.alloc];rw [ml (hltO b x e'),←mf]
  ·trivial
  ·simp only [Aw.un]at e;by_cases h:b=w.heap.size∧0≤i
   ·omega
   ·rw [if_neg h]at e;simp at e;exact hl.JA b i v e
  ·exact hl.KN b x (by simpa [Aw.un]using e)
theorem Sat.alloc{B:World}{H:HP}{w:World}(hw:Sat B H w)(c:Array Value)(t:TypeId):
  Sat B (HP.AA w.heap.size 0 c.toList*H) (w.alloc (.cells c t)):=hw.gH c t 0 0 (.inl rfl)
abbrev HP.fresh(b:Nat):HP:=HP.obj b (.cells #[] 0 (0,0))
theorem Sat.fresh{B:World}{b:Nat}{R:HP}{w:World}(h:Sat B (HP.fresh b*R) w):∃c t lo,w.heap[b]?=some (.cells c t (lo,0)):=by
 obtain⟨_,r,hr,hl⟩:=h.left;obtain rfl:r=_:=hr;have h2:=hl.obj b (.cells #[] 0 (0,0)) (by simp);exact h2
theorem Sat.sQ{B:World}{H:HP}{w:World}(hw:Sat B H w)(c:Array Value)(t:TypeId):
  Sat B (HP.fresh w.heap.size*(HP.AA w.heap.size 0 c.toList*H)) (w.alloc (.cells c t)):=by
 obtain⟨h1,r,hr,hl⟩:=hw
 have hw0:Sat B (fun r'=>r'=r) w:=⟨h1,r,rfl,hl⟩
 obtain⟨k1,q,⟨x,y,d,rfl,hx,rfl⟩,kl⟩:=hw0.alloc c t;have hx':x=_:=hx
 have hno:(x.un y).o w.heap.size=none:=by
  cases e:y.o w.heap.size with
  |none=>rw [hx'];simp [Aw.un,e]
  |some z=>have:=(hl.obj _ z e).lt;omega
 have hal:(w.alloc (.cells c t)).heap[w.heap.size]?=some (.cells c t (0,0)):=by show(w.heap.push _)[w.heap.size]?=_;exact Array.getElem?_push_size
 refine⟨k1,_,⟨⟨fun _ _=>none,fun b'=>if b'=w.heap.size then some (.cells #[] 0 (0,0))else none⟩,x.un y,⟨fun _ _=>.inl rfl,fun b=>?_⟩,rfl,rfl,x,y,d,rfl,hx,hr⟩,?_⟩
 ·by_cases h:b=w.heap.size
  ·subst h;exact .inr hno
  ·exact .inl (if_neg h)
 ·refine⟨fun b i v e=>kl.cell b i v (by simpa [Aw.un]using e),fun b i v e=>kl.free b i v (by simpa [Aw.un]using e),fun b z e=>?_,fun _ _ _=>trivial,fun b i v e=>kl.JA b i v (by simpa [Aw.un]using e),fun b z e=>?_⟩
  ·by_cases h:b=w.heap.size
   ·subst h
    have e':some (Obj.cells #[] 0 (0,0))=some z:=by simpa [Aw.un]using e
    cases e';exact⟨c,t,0,hal⟩
   ·exact kl.obj b z (by simpa [Aw.un,h]using e)
  ·by_cases h:b=w.heap.size
   ·subst h;exact h1.size
   ·exact kl.KN b z (by simpa [Aw.un,h]using e)
section
def Af(P:Program)(B:World)(n:Nat)(o:Oper)(E:A5)(H:HP)(v:Value):Prop:=
 ∀a w,DA n E a→Sat B H w→(execOp a.eval o).run P w=.ok (.value v) w
class Az(P:Program)(t:TypeId)(d:outParam TypeDesc):Prop where
 get:P.underlying t=some d
class Bp(P:Program)(t:TypeId)(k:outParam Nat):Prop where
 get:∀w,(sizeOf t).run P w=.ok k w
class Bb(P:Program)(t:TypeId)(v:outParam Value):Prop where
 get:∀w,(zeroValue t).run P w=.ok v w
class FP(P:Program)(t:TypeId)(bytes:outParam Nat):Prop where
 get:∃i,(∀w,(typeInfo t).run P w=.ok i w)∧i.bytes=bytes
class CP(P:Program)(t:TypeId):Prop where
 get:∀w,(isAgg t).run P w=.ok false w
 size:∀w,(sizeOf t).run P w=.ok 1 w
class Ep(P:Program)(t:TypeId)(k:outParam Nat):Prop where
 get:∀w,(isAgg t).run P w=.ok true w
 size:∀w,(sizeOf t).run P w=.ok k w
class A1(P:Program)(t:TypeId)(f:Nat)(k:outParam Nat):Prop where
 get:∃fs,P.underlying t=some (.struct fs)∧∃g,fs[f]?=some g∧g.offset=k∧∃m,(∀w,(sizeOf g.type).run P w=.ok m w)∧m≠0
theorem Br{P:Program}{t:TypeId}{d:TypeDesc}(h:P.underlying t=some d)(w:World):(underlying t).run P w=.ok d w:=by
 simp [underlying,h]
section
variable{P:Program}{B:World}{n:Nat}{E:A5}{H:HP}{d:Option Tmp}{T T' ty:TypeId}{pos:String}{af:Array Edge}{g:Option (Nat×Bool)}{x y:Operand}
theorem Si{v:Value}(h:ev E x=some v):Af P B n ⟨d,.move x,ty,pos,af,g⟩ E H v:=by
 intro a w he _;simp [execOp,he.ev h]
theorem Fx{v:Value}(h:ev E x=some v):Af P B n ⟨d,.assign x,ty,pos,af,g⟩ E H v:=by
 intro a w he _;simp [execOp,he.ev h]
theorem W! {c:Operand}{b:Bool}{u v:Value}(hc:ev E c=some (.bool b))(hx:ev E x=some u)(hy:ev E y=some v):
  Af P B n ⟨d,.pick c x y,ty,pos,af,g⟩ E H (bif b then u else v):=by
 intro a w he _;cases b<;>simp [execOp,he.ev hc,he.ev hx,he.ev hy,asBool]
theorem et{c:Operand}{u:Value}(hc:ev E c=some (.bool true))(hx:ev E x=some u):
  Af P B n ⟨d,.pick c x y,ty,pos,af,g⟩ E H u:=by
 intro a w he _;simp [execOp,he.ev hc,he.ev hx,asBool]
theorem X_{c:Operand}{v:Value}(hc:ev E c=some (.bool false))(hy:ev E y=some v):
  Af P B n ⟨d,.pick c x y,ty,pos,af,g⟩ E H v:=by
 intro a w he _;simp [execOp,he.ev hc,he.ev hy,asBool]
theorem Yw{i:Nat}{vs:Array Value}{v:Value}(h:ev E x=some (.tuple vs))(hv:vs[i]?=some v):
  Af P B n ⟨d,.extract x i,ty,pos,af,g⟩ E H v:=by
 intro a w he _;simp [execOp,he.ev h,Instr.extract,hv]
theorem WS{p:Addr}(h:ev E x=some (.pointer (some p))):Af P B n ⟨d,.nilCheck x,ty,pos,af,g⟩ E H (.pointer (some p)):=by
 intro a w he _;simp [execOp,he.ev h]
theorem Li{v:Value}(hT:P.concrete T=true)(h:ev E x=some v):
  Af P B n ⟨d,.makeInterface T x,ty,pos,af,g⟩ E H (.iface T v):=by
 intro a w he _;simp only [execOp,he.ev h,b_,run_makeInterface w T v hT,a_,c_]
theorem VH{b:Bool}(h:ev E x=some (.bool b)):Af P B n ⟨d,.unOp .not T x,ty,pos,af,g⟩ E H (.bool (!b)):=by
 intro a w he _;simp [execOp,he.ev h,Op.unary]
theorem EJ{op:BinOp}{k:IntKind}{i j:Int}{v:Value}(hx:ev E x=some (.int k i))(hy:ev E y=some (.int k j))
  (hv:∀w,(binOp op T (.int k i) (.int k j)).run P w=.ok v w):Af P B n ⟨d,.binOp op T x y T',ty,pos,af,g⟩ E H v:=by
 intro a w he _;simp only [execOp,he.ev hx,he.ev hy,b_,hv];cases op<;>rfl
theorem Ff{i j:Nat}(hx:ev E x=some (.int .i64 i))(hy:ev E y=some (.int .i64 j))(h:i+j<9223372036854775808):
  Af P B n ⟨d,.binOp .add T x y T',ty,pos,af,g⟩ E H (.int .i64 (i+j:Nat)):=
 EJ hx hy fun w=>by simp [binOp,Op.intArith];exact IntWalk.i64_in _ (by omega)
theorem Jq{i j:Nat}(hx:ev E x=some (.int .u64 i))(hy:ev E y=some (.int .u64 j))(h:i+j<18446744073709551616):
  Af P B n ⟨d,.binOp .add T x y T',ty,pos,af,g⟩ E H (.int .u64 (i+j:Nat)):=
 EJ hx hy fun w=>by simp [binOp,Op.intArith];exact IntWalk.u64_in _ (by omega)
theorem Z? {i j:Nat}(hx:ev E x=some (.int .u64 i))(hy:ev E y=some (.int .u64 j)):
  Af P B n ⟨d,.binOp .add T x y T',ty,pos,af,g⟩ E H (.int .u64 ((i+j)%18446744073709551616:Nat)):=
 EJ hx hy fun w=>by simp [binOp,Op.intArith,IntKind.wrap,IntKind.bits,IntKind.signed]
theorem xG{i j:Int}(hx:ev E x=some (.int .i64 i))(hy:ev E y=some (.int .i64 j))(h: -9223372036854775808≤i+j∧i+j<9223372036854775808):
  Af P B n ⟨d,.binOp .add T x y T',ty,pos,af,g⟩ E H (.int .i64 (i+j)):=
 EJ hx hy fun w=>by simp [binOp,Op.intArith];exact IntWalk.i64_in _ (by omega)
theorem Iy{i j:Nat}(hx:ev E x=some (.int .i64 i))(hy:ev E y=some (.int .i64 j))(h:j≤i∧i<9223372036854775808):
  Af P B n ⟨d,.binOp .sub T x y T',ty,pos,af,g⟩ E H (.int .i64 (i-j:Nat)):=
 EJ hx hy fun w=>by
  simp only [binOp,Op.intArith];rw [show((i-j:Nat):Int)=(i:Int)-j by omega,IntWalk.i64_in _ (by omega)];rfl
theorem K3{i j:Nat}(hx:ev E x=some (.int .u64 i))(hy:ev E y=some (.int .u64 j))(h:j≤i∧i<18446744073709551616):
  Af P B n ⟨d,.binOp .sub T x y T',ty,pos,af,g⟩ E H (.int .u64 (i-j:Nat)):=
 EJ hx hy fun w=>by
  simp only [binOp,Op.intArith];rw [show((i-j:Nat):Int)=(i:Int)-j by omega,IntWalk.u64_in _ (by omega)];rfl
theorem P0{i j:Int}(hx:ev E x=some (.int .i64 i))(hy:ev E y=some (.int .i64 j))(h: -9223372036854775808≤i-j∧i-j<9223372036854775808):
  Af P B n ⟨d,.binOp .sub T x y T',ty,pos,af,g⟩ E H (.int .i64 (i-j)):=
 EJ hx hy fun w=>by simp [binOp,Op.intArith];exact IntWalk.i64_in _ (by omega)
theorem hB{i j:Nat}(hx:ev E x=some (.int .i64 i))(hy:ev E y=some (.int .i64 j))(h:i*j<9223372036854775808):
  Af P B n ⟨d,.binOp .mul T x y T',ty,pos,af,g⟩ E H (.int .i64 (i*j:Nat)):=
 EJ hx hy fun w=>by simp [binOp,Op.intArith];exact IntWalk.i64_in _ (by rw [←Int.natCast_mul];omega)
theorem dw{k:IntKind}{i j:Nat}(hx:ev E x=some (.int k i))(hy:ev E y=some (.int k j))(h:j≠0∧k.wrap (i/j:Nat)=(i/j:Nat)):
  Af P B n ⟨d,.binOp .quo T x y T',ty,pos,af,g⟩ E H (.int k (i/j:Nat)):=
 EJ hx hy fun w=>by
  have h0:¬(j:Int)=0:=by omega
  have h1:(i:Int).tdiv j=(i/j:Nat):=rfl;simp only [binOp,Op.intDiv,ne_eq,not_true_eq_false,h0,h1,if_false,h.2];rfl
theorem bh{k:IntKind}{i j:Nat}(hx:ev E x=some (.int k i))(hy:ev E y=some (.int k j))(h:j≠0):
  Af P B n ⟨d,.binOp .rem T x y T',ty,pos,af,g⟩ E H (.int k (i%j:Nat)):=
 EJ hx hy fun w=>by
  have h0:¬(j:Int)=0:=by omega
  have h1:(i:Int).tmod j=(i%j:Nat):=rfl;simp only [binOp,Op.intDiv,ne_eq,not_true_eq_false,h0,h1,if_false];rfl
theorem Xd{k k':IntKind}{i j:Nat}(hx:ev E x=some (.int k i))(hy:ev E y=some (.int k' j)):
  Af P B n ⟨d,.binOp .shr T x y T',ty,pos,af,g⟩ E H (.int k (i/2^(min j k.bits):Nat)):=by
 intro a w he _
 have h0:¬(j:Int)<0:=by omega
 have h1:(i:Int).fdiv (2^(min j k.bits))=(i/2^(min j k.bits):Nat):=by
  rw [Int.fdiv_eq_ediv_of_nonneg _ (by exact Int.pow_nonneg (by omega))];simp
 simp only [execOp,he.ev hx,he.ev hy,b_];simp [eqGuard,binOp,Op.shift,h0,h1]
theorem rZ{k k':IntKind}{i j:Nat}(hx:ev E x=some (.int k i))(hy:ev E y=some (.int k' j))(hk:k.signed=false):
  Af P B n ⟨d,.binOp .shl T x y T',ty,pos,af,g⟩ E H (.int k (i*2^(min j k.bits)%2^k.bits:Nat)):=by
 intro a w he _
 have h0:¬(j:Int)<0:=by omega
 simp only [execOp,he.ev hx,he.ev hy,b_];simp [eqGuard,binOp,Op.shift,h0,IntKind.wrap,hk]
theorem Vu{k:IntKind}{m:Nat}(hk:k.signed=false)(h:m<2^k.bits):k.wrap (m:Int)=m:=by
 simp only [IntKind.wrap,hk,Bool.false_and,Bool.false_eq_true,if_false]
 have e:((2:Int)^k.bits)=((2^k.bits:Nat):Int):=by simp
 rw [e,←Int.natCast_emod,kh h]
theorem YC{k:IntKind}{i j:Nat}(hx:ev E x=some (.int k i))(hy:ev E y=some (.int k j))(hk:k.signed=false)(h:i<2^k.bits∧j<2^k.bits):
  Af P B n ⟨d,.binOp .xor T x y T',ty,pos,af,g⟩ E H (.int k (i ^^^j:Nat)):=
 EJ hx hy fun w=>by
  have e:(BitVec.ofInt k.bits (i:Int) ^^^BitVec.ofInt k.bits (j:Int)).toNat=i ^^^j:=by
   rw [BitVec.toNat_xor,BitVec.ofInt_natCast,BitVec.ofInt_natCast,BitVec.toNat_ofNat,BitVec.toNat_ofNat,kh h.1,kh h.2]
  simp only [binOp,Op.intBits,ne_eq,not_true_eq_false,if_false,e,Vu hk (Nat.xor_lt_two_pow h.1 h.2)];rfl
theorem ZV{k:IntKind}{i j:Nat}(hx:ev E x=some (.int k i))(hy:ev E y=some (.int k j))(hk:k.signed=false)(h:i<2^k.bits∧j<2^k.bits):
  Af P B n ⟨d,.binOp .or T x y T',ty,pos,af,g⟩ E H (.int k (i|||j:Nat)):=
 EJ hx hy fun w=>by
  have e:(BitVec.ofInt k.bits (i:Int)|||BitVec.ofInt k.bits (j:Int)).toNat=i|||j:=by
   rw [BitVec.toNat_or,BitVec.ofInt_natCast,BitVec.ofInt_natCast,BitVec.toNat_ofNat,BitVec.toNat_ofNat,kh h.1,kh h.2]
  simp only [binOp,Op.intBits,ne_eq,not_true_eq_false,if_false,e,Vu hk (Nat.or_lt_two_pow h.1 h.2)];rfl
theorem Y4{k:IntKind}{i j:Nat}(hx:ev E x=some (.int k i))(hy:ev E y=some (.int k j))(hk:k.signed=false)(h:i<2^k.bits∧j<2^k.bits):
  Af P B n ⟨d,.binOp .and T x y T',ty,pos,af,g⟩ E H (.int k (i&&&j:Nat)):=
 EJ hx hy fun w=>by
  have e:(BitVec.ofInt k.bits (i:Int)&&&BitVec.ofInt k.bits (j:Int)).toNat=i&&&j:=by
   rw [BitVec.toNat_and,BitVec.ofInt_natCast,BitVec.ofInt_natCast,BitVec.toNat_ofNat,BitVec.toNat_ofNat,kh h.1,kh h.2]
  simp only [binOp,Op.intBits,ne_eq,not_true_eq_false,if_false,e,Vu hk (Nat.and_lt_two_pow _ h.2)];rfl
theorem ES{k:IntKind}{i j:Nat}(hx:ev E x=some (.int k i))(hy:ev E y=some (.int k j)):
  Af P B n ⟨d,.binOp .lss T x y T',ty,pos,af,g⟩ E H (.bool (decide (i<j))):=EJ hx hy fun w=>by simp [binOp,Op.intCmp]
theorem gI{k:IntKind}{i j:Nat}(hx:ev E x=some (.int k i))(hy:ev E y=some (.int k j)):
  Af P B n ⟨d,.binOp .leq T x y T',ty,pos,af,g⟩ E H (.bool (decide (i≤j))):=EJ hx hy fun w=>by simp [binOp,Op.intCmp]
theorem Gj{k:IntKind}{i j:Nat}(hx:ev E x=some (.int k i))(hy:ev E y=some (.int k j)):
  Af P B n ⟨d,.binOp .gtr T x y T',ty,pos,af,g⟩ E H (.bool (decide (j<i))):=EJ hx hy fun w=>by simp [binOp,Op.intCmp]
theorem Vn{k:IntKind}{i j:Nat}(hx:ev E x=some (.int k i))(hy:ev E y=some (.int k j)):
  Af P B n ⟨d,.binOp .geq T x y T',ty,pos,af,g⟩ E H (.bool (decide (j≤i))):=EJ hx hy fun w=>by simp [binOp,Op.intCmp]
theorem CN{k:IntKind}{i j:Nat}(hx:ev E x=some (.int k i))(hy:ev E y=some (.int k j)):
  Af P B n ⟨d,.binOp .eql T x y T',ty,pos,af,g⟩ E H (.bool (decide (i=j))):=
 EJ hx hy fun w=>by
  have:((i:Int)==(j:Int))=decide (i=j):=by by_cases h:i=j<;>simp [h];omega
  simp [binOp,Op.intCmp,this]
theorem FB{k:IntKind}{i j:Nat}(hx:ev E x=some (.int k i))(hy:ev E y=some (.int k j)):
  Af P B n ⟨d,.binOp .neq T x y T',ty,pos,af,g⟩ E H (.bool (decide (i≠j))):=
 EJ hx hy fun w=>by
  have:((i:Int) !=(j:Int))=decide (i≠j):=by by_cases h:i=j<;>simp [h];omega
  simp [binOp,Op.intCmp,this]
theorem L9{k:IntKind}{i j:Int}(hx:ev E x=some (.int k i))(hy:ev E y=some (.int k j)):
  Af P B n ⟨d,.binOp .lss T x y T',ty,pos,af,g⟩ E H (.bool (decide (i<j))):=EJ hx hy fun w=>by simp [binOp,Op.intCmp]
theorem eD{k:IntKind}{i j:Int}(hx:ev E x=some (.int k i))(hy:ev E y=some (.int k j)):
  Af P B n ⟨d,.binOp .gtr T x y T',ty,pos,af,g⟩ E H (.bool (decide (j<i))):=EJ hx hy fun w=>by simp [binOp,Op.intCmp]
theorem Pr{k:IntKind}{i j:Int}(hx:ev E x=some (.int k i))(hy:ev E y=some (.int k j)):
  Af P B n ⟨d,.binOp .geq T x y T',ty,pos,af,g⟩ E H (.bool (decide (j≤i))):=EJ hx hy fun w=>by simp [binOp,Op.intCmp]
theorem DI{k:IntKind}{i j:Int}(hx:ev E x=some (.int k i))(hy:ev E y=some (.int k j)):
  Af P B n ⟨d,.binOp .eql T x y T',ty,pos,af,g⟩ E H (.bool (decide (i=j))):=
 EJ hx hy fun w=>by
  have:(i==j)=decide (i=j):=by by_cases h:i=j<;>simp [h]
  simp [binOp,Op.intCmp,this]
theorem WF{k:IntKind}{i j:Int}(hx:ev E x=some (.int k i))(hy:ev E y=some (.int k j)):
  Af P B n ⟨d,.binOp .neq T x y T',ty,pos,af,g⟩ E H (.bool (decide (i≠j))):=
 EJ hx hy fun w=>by
  have:(i !=j)=decide (i≠j):=by by_cases h:i=j<;>simp [h]
  simp [binOp,Op.intCmp,this]
theorem Mv{i:Nat}(h:i<18446744073709551616):IntKind.u64.wrap (i:Int)=i:=IntWalk.u64_in _ (by omega)
theorem PY{i:Nat}(h:i<9223372036854775808):IntKind.i64.wrap (i:Int)=i:=IntWalk.i64_in _ (by omega)
theorem rF{i j:Nat}(hx:ev E x=some (.int .u64 i))(hy:ev E y=some (.int .u64 j))(h:i<18446744073709551616∧j<18446744073709551616):
  Af P B n ⟨d,.binOp .xor T x y T',ty,pos,af,g⟩ E H (.int .u64 (i ^^^j:Nat)):=YC hx hy rfl h
theorem Yt{i j:Nat}(hx:ev E x=some (.int .u64 i))(hy:ev E y=some (.int .u64 j))(h:i<18446744073709551616∧j<18446744073709551616):
  Af P B n ⟨d,.binOp .or T x y T',ty,pos,af,g⟩ E H (.int .u64 (i|||j:Nat)):=ZV hx hy rfl h
theorem tK{i j:Nat}(hx:ev E x=some (.int .u64 i))(hy:ev E y=some (.int .u64 j))(h:i<18446744073709551616∧j<18446744073709551616):
  Af P B n ⟨d,.binOp .and T x y T',ty,pos,af,g⟩ E H (.int .u64 (i&&&j:Nat)):=Y4 hx hy rfl h
theorem wU{i j:Nat}(hx:ev E x=some (.int .u8 i))(hy:ev E y=some (.int .u8 j))(h:i<256∧j<256):
  Af P B n ⟨d,.binOp .xor T x y T',ty,pos,af,g⟩ E H (.int .u8 (i ^^^j:Nat)):=YC hx hy rfl h
theorem TS{i j:Nat}(hx:ev E x=some (.int .u8 i))(hy:ev E y=some (.int .u8 j))(h:i<256∧j<256):
  Af P B n ⟨d,.binOp .or T x y T',ty,pos,af,g⟩ E H (.int .u8 (i|||j:Nat)):=ZV hx hy rfl h
theorem rS{i j:Nat}(hx:ev E x=some (.int .u8 i))(hy:ev E y=some (.int .u8 j))(h:i<256∧j<256):
  Af P B n ⟨d,.binOp .and T x y T',ty,pos,af,g⟩ E H (.int .u8 (i&&&j:Nat)):=Y4 hx hy rfl h
theorem Je{k:IntKind}{i j:Nat}(hx:ev E x=some (.int .u64 i))(hy:ev E y=some (.int k j))(h:j≤64):
  Af P B n ⟨d,.binOp .shr T x y T',ty,pos,af,g⟩ E H (.int .u64 (i/2^j:Nat)):=by
 have:=Xd (P:=P) (B:=B) (n:=n) (H:=H) (d:=d) (T:=T) (T':=T') (ty:=ty) (pos:=pos) (af:=af) (g:=g) hx hy
 rwa [show min j IntKind.u64.bits=j from mq h]at this
theorem RK{k:IntKind}{i j:Nat}(hx:ev E x=some (.int .u64 i))(hy:ev E y=some (.int k j))(h:j≤64):
  Af P B n ⟨d,.binOp .shl T x y T',ty,pos,af,g⟩ E H (.int .u64 (i*2^j%18446744073709551616:Nat)):=by
 have:=rZ (P:=P) (B:=B) (n:=n) (H:=H) (d:=d) (T:=T) (T':=T') (ty:=ty) (pos:=pos) (af:=af) (g:=g) hx hy rfl
 rwa [show min j IntKind.u64.bits=j from mq h]at this
theorem vG{k:IntKind}{i j:Nat}(hx:ev E x=some (.int .u8 i))(hy:ev E y=some (.int k j))(h:j≤8):
  Af P B n ⟨d,.binOp .shr T x y T',ty,pos,af,g⟩ E H (.int .u8 (i/2^j:Nat)):=by
 have:=Xd (P:=P) (B:=B) (n:=n) (H:=H) (d:=d) (T:=T) (T':=T') (ty:=ty) (pos:=pos) (af:=af) (g:=g) hx hy
 rwa [show min j IntKind.u8.bits=j from mq h]at this
theorem kH{i j:Nat}(hx:ev E x=some (.int .i64 i))(hy:ev E y=some (.int .i64 j))(h:j≠0∧i<9223372036854775808):
  Af P B n ⟨d,.binOp .quo T x y T',ty,pos,af,g⟩ E H (.int .i64 (i/j:Nat)):=dw hx hy ⟨h.1,PY (Nat.lt_of_le_of_lt (Nat.div_le_self _ _) h.2)⟩
theorem KP{k k':IntKind}{i:Nat}[h1:Az P T (.int k)][h2:Az P T' (.int k')](hx:ev E x=some (.int k i))(h:k'.wrap (i:Int)=i):
  Af P B n ⟨d,.convert T T' x,ty,pos,af,g⟩ E H (.int k' i):=by
 intro a w he _;simp [execOp,he.ev hx,convert,Br h1.get,Br h2.get,Conv.intToInt,h]
theorem T! {k k':IntKind}{i:Nat}[h1:Az P T (.int k)][h2:Az P T' (.int k')](hx:ev E x=some (.int k i))(hk:k'.signed=false):
  Af P B n ⟨d,.convert T T' x,ty,pos,af,g⟩ E H (.int k' (i%2^k'.bits:Nat)):=by
 intro a w he _;simp [execOp,he.ev hx,convert,Br h1.get,Br h2.get,Conv.intToInt,IntKind.wrap,hk]
theorem VS{k:IntKind}{i:Nat}[h1:Az P T (.int k)][h2:Az P T' (.int .u8)](hx:ev E x=some (.int k i)):
  Af P B n ⟨d,.convert T T' x,ty,pos,af,g⟩ E H (.int .u8 (i%256:Nat)):=T! hx rfl
theorem U9{f k b o:Nat}[hf:A1 P T f k](hx:ev E x=some (.pointer (some ⟨b,o,none⟩))):
  Af P B n ⟨d,.fieldAddr T x f,ty,pos,af,g⟩ E H (.pointer (some ⟨b,o+k,none⟩)):=by
 intro a w he _;obtain⟨fs,h1,gd,h2,h3,m,h4,h5⟩:=hf.get;simp only [execOp,he.ev hx,Instr.fieldAt,b_,Br h1,a_,h2,j_,c_,fieldPlace,h4,h5,if_false,h3];by_cases hk:k=0<;>simp [kf,hk]
theorem Gx{b i:Nat}{v:Value}{s:Prop}[hT:CP P T](hx:ev E x=some (.pointer (some ⟨b,i,none⟩)))[hr:Rd B H b i v s](hs:s):
  Af P B n ⟨d,.load T x,ty,pos,af,g⟩ E H v:=by
 intro a w he hw;simp [execOp,he.ev hx,ot,j_,loadVar,hT.get,hr.get w hw hs]
theorem hM{p:Option Addr}{k c:Nat}{e:TypeId}[hT:Az P T (.slice e)](hx:ev E x=some (.slice p k c)):
  Af P B n ⟨d,.call ⟨.builtin .len,#[x],#[T]⟩,ty,pos,af,g⟩ E H (.int .i64 k):=by
 intro a w he _;simp [execOp,he.ev hx,resolve,invoke,builtin,ov,Br hT.get,goInt]
theorem Z1{s:ByteArray}[hT:Az P T .string](hx:ev E x=some (.string s)):
  Af P B n ⟨d,.call ⟨.builtin .len,#[x],#[T]⟩,ty,pos,af,g⟩ E H (.int .i64 s.size):=by
 intro a w he _;simp [execOp,he.ev hx,resolve,invoke,builtin,ov,Br hT.get,goInt]
theorem oW{p:Option Addr}{k c:Nat}{e:TypeId}[hT:Az P T (.slice e)](hx:ev E x=some (.slice p k c)):
  Af P B n ⟨d,.call ⟨.builtin .cap,#[x],#[T]⟩,ty,pos,af,g⟩ E H (.int .i64 c):=by
 intro a w he _;simp [execOp,he.ev hx,resolve,invoke,builtin,Builtin.cap_,Br hT.get,goInt]
theorem Wg{b o k c i sz:Nat}{e:TypeId}{ik:IntKind}[hT:Az P T (.slice e)][hz:Bp P e sz](hx:ev E x=some (.slice (some ⟨b,o,none⟩) k c))
  (hy:ev E y=some (.int ik i))(h:i<k):Af P B n ⟨d,.indexAddr T x y,ty,pos,af,g⟩ E H (.pointer (some ⟨b,o+i*sz,none⟩)):=by
 intro a w he _;simp only [execOp,he.ev hx,he.ev hy,og,asIntOf,b_,c_,a_,Br hT.get]
 have h0:(0:Int)≤i∧(i:Int)<k:=by omega
 simp only [h0,and_self,if_true,b_,hz.get,a_,c_,Int.toNat_natCast];by_cases hk:i*sz=0<;>simp [kf,hk]
theorem Nw{b o len i sz:Nat}{e:TypeId}{ik:IntKind}[hT:Az P T (.array len e)][hz:Bp P e sz](hx:ev E x=some (.pointer (some ⟨b,o,none⟩)))
  (hy:ev E y=some (.int ik i))(h:i<len):Af P B n ⟨d,.indexAddr T x y,ty,pos,af,g⟩ E H (.pointer (some ⟨b,o+i*sz,none⟩)):=by
 intro a w he _;simp only [execOp,he.ev hx,he.ev hy,og,asIntOf,b_,c_,a_,Br hT.get,j_]
 have h0:(0:Int)≤i∧(i:Int)<len:=by omega
 simp only [h0,and_self,if_true,b_,hz.get,a_,c_,Int.toNat_natCast];by_cases hk:i*sz=0<;>simp [kf,hk]
theorem RR{b o len i sz q:Nat}{e:TypeId}{ik:IntKind}[hT:Az P T (.array len e)][hz:Bp P e sz](hx:ev E x=some (.pointer (some ⟨b,o,none⟩)))
  (hy:ev E y=some (.int ik i))(h:i<len)(hq:i*sz=q):Af P B n ⟨d,.indexAddr T x y,ty,pos,af,g⟩ E H (.pointer (some ⟨b,o+q,none⟩)):=hq▸Nw hx hy h
end
end
section
structure B6 where
 ds:List Deferred
 r:Option Nat:=none
def fr(r:Option Nat):Fence:={Fence.wide with round:=r}
theorem Re{r:Option Nat}{n:Nat}{P:Program}{f:FuncId}{args:Array Value}{w:World}{R:Ending→World→Prop}(h:Calls P f args w R):CallsIn (fr r) n P f args w R:=
 callsIn_wide (n:=n).2 h
theorem dv{r:Option Nat}{n:Nat}{P:Program}{row:String}{args:Array Value}{w:World}{R:Value→World→Prop}(h:Rows P row args w R):RowsIn (fr r) n P row args w R:=
 fun c cs _=>let⟨v,w',hr,hs⟩:=h c cs;⟨v,w',hr,stepsIn_wide.2 hs⟩
theorem OJ{r:Option Nat}{n:Nat}{P:Program}{o:Oper}{a:Act}{w:World}{K:Act→World→Prop}{Q:Exit→Act→World→Prop}(ho:∀c,o.op≠ .defer c)(h:o.wp P a w K Q):o.wpIn (fr r) n P a w K Q:=by
 refine⟨fun _ _=>trivial,?_⟩;rw [Oper.semAt_eq _ _ _ ho];unfold kt at h;generalize(execOp a.eval o).run P w=z at h⊢
 cases z with
 |ok x w'=>
  cases x<;>simp only [h_]at h<;>first
   |exact h
   |exact h.elim
   |exact⟨fun h0=>by simp [fr,Fence.wide]at h0,Re h⟩
   |exact⟨fun h0=>by simp [fr,Fence.wide]at h0,dv h⟩
 |halt x w'=>cases x<;>simp only [h_]at h<;>first|exact h|exact h.elim
theorem aQ{P:Program}{a:Act}{o:Oper}{c:Call}(ho:o.op=.defer c)(w:World):(∃d w',(execOp a.eval o).run P w=.ok (.defer d) w')∨∃x w',(execOp a.eval o).run P w=.halt x w':=by
 unfold execOp;rw [ho];simp only [b_]
 cases h:(resolve a.eval c o.type).run P w with
 |ok d w'=>exact .inl ⟨d,w',by simp [Result.andThen]⟩
 |halt x w'=>exact .inr ⟨x,w',rfl⟩
def BI(B:World)(Q:Exit→Act→World→Prop)(e:Exit)(n:Nat)(E:A5)(D:B6)(H:HP):Prop:=
 ∀a w,DA n E a→a.defers=D.ds→Sat B H w→Q e a w
def WP(P:Program)(B:World)(c:Code)(Q:Exit→Act→World→Prop)(n:Nat)(E:A5)(D:B6)(H:HP):Prop:=
 ∀a w,DA n E a→a.defers=D.ds→Sat B H w→c.wpIn (fr D.r) 0 P Q a w
def WL(P:Program)(B:World)(ops:Array Oper)(Q:Exit→Act→World→Prop)(l:List Oper)(n:Nat)(E:A5)(D:B6)(H:HP):Prop:=
 ∀a w,DA n E a→a.defers=D.ds→Sat B H w→wpListIn (fr D.r) 0 P ops Q l a w
def CU(P:Program)(B:World)(n:Nat)(o:Oper)(E:A5)(D:B6)(H:HP)(Post:Value→HP→Prop):Prop:=
 ∀a w,DA n E a→a.defers=D.ds→Sat B H w→∀(K:Act→World→Prop) (Q:Exit→Act→World→Prop),
  (∀v H' w',Post v H'→Sat B H' w'→K (a.put o.dst v) w')→o.wp P a w K Q
def Fn(P:Program)(B:World)(f:FuncId)(args:List Value)(H:HP)(Post:Value→HP→Prop):Prop:=
 ∀w,Sat B H w→Calls P f args.toArray w fun e w'=>∃v H',e=.returned v∧Post v H'∧Sat B H' w'
theorem Fn.mono{P:Program}{B:World}{f:FuncId}{args:List Value}{H:HP}{A C:Value→HP→Prop}(h:Fn P B f args H A)(hc:∀v H',A v H'→C v H'):Fn P B f args H C:=
 fun w hw=>(h w hw).mono fun _ _ ⟨v,H',e,a,s⟩=>⟨v,H',e,hc v H' a,s⟩
class Ah(P:Program)(f:FuncId):Prop where
 get:∀args w,(callFunc f args).run P w=.ok (.enter f args) w
def DW(E:A5):List Operand→Option (List Value)
 |[]=>some []
 |x::r=>match ev E x with
  |some v=>match DW E r with
   |some vs=>some (v::vs)
   |none=>none
  |none=>none
theorem H4{n:Nat}{E:A5}{a:Act}(h:DA n E a):∀{xs:List Operand} {vs:List Value},DW E xs=some vs→xs.map a.eval=vs:=by
 intro xs
 induction xs with
 |nil=>intro vs e;simpa [DW]using e
 |cons x r ih=>
  intro vs e;simp only [DW]at e
  cases hx:ev E x with
  |none=>simp [hx]at e
  |some v=>
   cases hr:DW E r with
   |none=>simp [hx,hr]at e
   |some us=>
    simp only [hx,hr,lf.injEq]at e;subst e;simp [h.ev hx,ih hr]
section
variable{P:Program}{B:World}{n:Nat}{E:A5}{D:B6}{H:HP}{ops:Array Oper}{Q:Exit→Act→World→Prop}{rest:List Oper}
 {op:Op} {ty:TypeId} {pos:String} {af:Array Edge}
def Ow(P:Program)(B:World)(n:Nat)(o:Oper)(E:A5)(D:B6)(H:HP)(Post:Value→HP→Prop):Prop:=
 ∀a w,DA n E a→a.defers=D.ds→Sat B H w→∀(K:Act→World→Prop) (Q:Exit→Act→World→Prop),
  (∀v H' w',Post v H'→Sat B H' w'→K (a.put o.dst v) w')→o.wpIn (fr D.r) 0 P a w K Q
theorem CU.Js{o:Oper}{Post:Value→HP→Prop}(he:CU P B n o E D H Post){a:Act}{w:World}(h1:DA n E a)(h2:a.defers=D.ds)(h3:Sat B H w):∀c,o.op≠ .defer c:=by
 intro c hc;have h:=he a w h1 h2 h3 (fun a' _=>a'.defers=a.defers) (fun _ _ _=>False) (fun v H' w' _ _=>by simp [Act.put];cases o.dst<;>rfl);unfold kt at h;rcases aQ (a:=a) (P:=P) hc w with⟨d,w',e⟩|⟨x,w',e⟩
 ·rw [e]at h;have h4:({a with defers:=d::a.defers}.put o.dst undef).defers=a.defers:=h
  have h5:({a with defers:=d::a.defers}.put o.dst undef).defers=d::a.defers:=by cases o.dst<;>rfl
  rw [h5]at h4;exact absurd (congrArg List.length h4) (by simp)
 ·rw [e]at h;cases x<;>exact h.elim
theorem CU.Rn{o:Oper}{Post:Value→HP→Prop}(he:CU P B n o E D H Post):Ow P B n o E D H Post:=
 fun a w h1 h2 h3 K Q hk=>OJ (he.Js h1 h2 h3) (he a w h1 h2 h3 K Q hk)
theorem Af.Rn{o:Oper}{v:Value}(hv:Af P B n o E H v):Ow P B n o E D H (fun v' H'=>v'=v∧H'=H):=by
 intro a w h1 h2 h3 K Q hk;refine OJ (fun c hc=>?_) ?_
 ·rcases aQ (a:=a) (P:=P) hc w with⟨d,w',e⟩|⟨x,w',e⟩<;>rw [hv a w h1 h3]at e<;>cases e
 ·simp only [kt,hv a w h1 h3,h_];exact hk _ _ _ ⟨rfl,rfl⟩ h3
theorem zI(h:BI B Q .normal n E D H):WL P B ops Q [] n E D H:=fun a w h1 h2 h3=>wpListIn_nil (h a w h1 h2 h3)
theorem Nk{t:Nat}{Post:Value→HP→Prop}(he:Ow P B n ⟨some t,op,ty,pos,af,none⟩ E D H Post)(ht:ku t n=true)
  (next:∀v H',Post v H'→WL P B ops Q rest n ((t,v)::E) D H'):WL P B ops Q (⟨some t,op,ty,pos,af,none⟩::rest) n E D H:=by
 intro a w h1 h2 h3;unfold wpListIn;rw [if_pos (by simp [e_])];exact he a w h1 h2 h3 _ _ fun v H' w' hp hs=>next v H' hp _ w' (h1.put (by simpa using ht) v) (by simp [Act.put,h2]) hs
theorem yV{Post:Value→HP→Prop}(he:Ow P B n ⟨none,op,ty,pos,af,none⟩ E D H Post)
  (next:∀v H',Post v H'→WL P B ops Q rest n E D H'):WL P B ops Q (⟨none,op,ty,pos,af,none⟩::rest) n E D H:=by
 intro a w h1 h2 h3;unfold wpListIn;rw [if_pos (by simp [e_])];exact he a w h1 h2 h3 _ _ fun v H' w' hp hs=>next v H' hp _ w' h1 h2 hs
theorem GB{t:Nat}{v:Value}(hv:Af P B n ⟨some t,op,ty,pos,af,none⟩ E H v)(ht:ku t n=true)
  (next:WL P B ops Q rest n ((t,v)::E) D H):WL P B ops Q (⟨some t,op,ty,pos,af,none⟩::rest) n E D H:=
 Nk hv.Rn ht (by rintro _ _ ⟨rfl,rfl⟩;exact next)
theorem Am{t:Nat}{Post:Value→HP→Prop}(he:CU P B n ⟨some t,op,ty,pos,af,none⟩ E D H Post)(ht:ku t n=true)
  (next:∀v H',Post v H'→WL P B ops Q rest n ((t,v)::E) D H'):WL P B ops Q (⟨some t,op,ty,pos,af,none⟩::rest) n E D H:=Nk he.Rn ht next
theorem Bv{Post:Value→HP→Prop}(he:CU P B n ⟨none,op,ty,pos,af,none⟩ E D H Post)
  (next:∀v H',Post v H'→WL P B ops Q rest n E D H'):WL P B ops Q (⟨none,op,ty,pos,af,none⟩::rest) n E D H:=yV he.Rn next
theorem lD{t j tj:Nat}{b want:Bool}(hj:(ops[j]?).bind (·.dst)=some tj)(hb:lk E tj=some (.bool b))(ht:ku t n=true)
  (yes:b=want→WL P B ops Q (⟨some t,op,ty,pos,af,none⟩::rest) n E D H)
  (no:b= !want→WL P B ops Q rest n ((t,undef)::E) D H):WL P B ops Q (⟨some t,op,ty,pos,af,some (j,want)⟩::rest) n E D H:=by
 intro a w h1 h2 h3
 have hy:yielded ops a.tmps j=some b:=by
  have:=h1.2 _ _ hb
  simp [yielded,hj,this]
 unfold wpListIn;by_cases h:b=want
 ·have:=yes h a w h1 h2 h3
  unfold wpListIn at this;rw [if_pos (by simp [e_])]at this;rw [if_pos (by simp [e_,hy,h])];exact this
 ·rw [if_neg (by simp [e_,hy,h])];exact⟨fun _ _=>trivial,no (by cases b<;>cases want<;>simp_all) _ w (h1.put (by simpa using ht) undef) (by simp [Act.put,h2]) h3⟩
variable{c x y:Code}{id:Nat}
theorem oV(h:WP P B x (Exit.then (y.wpIn (fr D.r) 0 P Q) Q) n E D H):WP P B (.seq x y) Q n E D H:=fun a w h1 h2 h3=>wpIn_seq (h a w h1 h2 h3)
theorem uO{l:List Oper}(hl:ops.toList=l)(h:WL P B ops Q l n E D H):WP P B (.region id ops false) Q n E D H:=
 fun a w h1 h2 h3=>wpIn_region_list (by rw [hl];exact h a w h1 h2 h3)
theorem P6{t:Operand}{b:Bool}(hb:ev E t=some (.bool b))(h1:b=true→WP P B x Q n E D H)(h2:b=false→WP P B y Q n E D H):
  WP P B (.cond t x y) Q n E D H:=by
 intro a w e1 e2 e3;refine wpIn_cond (e1.ev hb) ?_;cases b
 ·exact h2 rfl a w e1 e2 e3
 ·exact h1 rfl a w e1 e2 e3
theorem gk{t:Operand}{p:Prop}[Decidable p](hb:ev E t=some (.bool (decide p)))(h1:p→WP P B x Q n E D H)(h2:¬p→WP P B y Q n E D H):
  WP P B (.cond t x y) Q n E D H:=
 P6 hb (fun h=>h1 (by simpa using h)) (fun h=>h2 (by simpa using h))
theorem v9(h:WP P B c (Exit.inBlock id Q) n E D H):WP P B (.block id c) Q n E D H:=fun a w h1 h2 h3=>wpIn_block (h a w h1 h2 h3)
theorem uC(h:BI B Q .normal n E D H):WP P B .skip Q n E D H:=fun a w h1 h2 h3=>wpIn_skip (h a w h1 h2 h3)
theorem xR(h:BI B Q (.exit id) n E D H):WP P B (.exit id) Q n E D H:=fun a w h1 h2 h3=>wpIn_exit (h a w h1 h2 h3)
theorem A! (h:BI B Q .ret n E D H):WP P B .ret Q n E D H:=fun a w h1 h2 h3=>wpIn_ret (h a w h1 h2 h3)
def bV(B:World)(n:Nat)(D:B6){α:Type}(EE:α→A5)(HH:α→HP)(φ:α→Prop)(μ:α→Nat)(m:Nat):Act→World→Prop:=
 fun a w=>∃y,φ y∧μ y<m∧DA n (EE y) a∧a.defers=D.ds∧Sat B (HH y) w
theorem Bj{α:Type}(EE:α→A5)(HH:α→HP)(φ:α→Prop)(μ:α→Nat)(x0:α)(h0:φ x0)(s0:Sub E (EE x0))(e0:H=HH x0)
  (round:∀x,φ x→WP P B c (Exit.then (bV B n D EE HH φ μ (μ x)) Q) n (EE x) D (HH x)):WP P B (.loop c) Q n E D H:=by
 intro a w h1 h2 h3;refine wpIn_loop_ghost (fun m a w=>∃y,φ y∧μ y=m∧DA n (EE y) a∧a.defers=D.ds∧Sat B (HH y) w) (μ x0) ⟨x0,h0,rfl,h1.sub s0,h2,e0▸h3⟩ ?_;rintro m a w ⟨y,hy,rfl,g1,g2,g3⟩;refine wpIn_mono (round y hy a w g1 g2 g3) ?_;intro e a' w' hq
 cases e with
 |normal=>obtain⟨z,k1,k2,k3,k4,k5⟩:=hq;exact⟨μ z,k2,z,k1,rfl,k3,k4,k5⟩
 |exit id=>exact hq
 |goto l=>exact hq
 |ret=>exact hq
 |panic ch=>exact hq
 |outgrown=>exact hq
theorem bY(h:WP P B y Q n E D H):BI B (Exit.then (y.wpIn (fr D.r) 0 P Q) Q) .normal n E D H:=h
theorem eE{K:Act→World→Prop}(h:BI B Q .ret n E D H):BI B (Exit.then K Q) .ret n E D H:=h
theorem ZN{K:Act→World→Prop}(h:BI B Q (.exit id) n E D H):BI B (Exit.then K Q) (.exit id) n E D H:=h
theorem Xc(h:BI B Q .ret n E D H):BI B (Exit.inBlock id Q) .ret n E D H:=h
theorem YQ(h:BI B Q .normal n E D H):BI B (Exit.inBlock id Q) .normal n E D H:=h
theorem eB(h:BI B Q .normal n E D H):BI B (Exit.inBlock id Q) (.exit id) n E D H:=by
 intro a w h1 h2 h3;simp only [Exit.inBlock,if_true];exact h a w h1 h2 h3
theorem X? {i:Nat}(hi:mg i id=false)(h:BI B Q (.exit i) n E D H):BI B (Exit.inBlock id Q) (.exit i) n E D H:=by
 intro a w h1 h2 h3
 have:i≠id:=fun e=>by subst e;simp at hi
 simp only [Exit.inBlock,this,if_false];exact h a w h1 h2 h3
theorem Ba{α:Type}{EE:α→A5}{HH:α→HP}{φ:α→Prop}{μ:α→Nat}{m:Nat}(z:α)(h0:φ z)(hm:μ z<m)(s0:Sub E (EE z))(e0:H=HH z):
  BI B (Exit.then (bV B n D EE HH φ μ m) Q) .normal n E D H:=
 fun _ _ h1 h2 h3=>⟨z,h0,hm,h1.sub s0,h2,e0▸h3⟩
def O3(B:World)(n:Nat)(D:B6){α:Type}(EE:α→A5)(HH:α→HP)(φ:α→Prop)(Q:Exit→Act→World→Prop):Exit→Act→World→Prop
 | .normal,a,w=>∃y,φ y∧DA n (EE y) a∧a.defers=D.ds∧Sat B (HH y) w
 |e,a,w=>Q e a w
theorem DF{α:Type}(EE:α→A5)(HH:α→HP)(φ:α→Prop)(h1:WP P B c (O3 B n D EE HH φ Q) n E D H)
  (h2:∀z,φ z→BI B Q .normal n (EE z) D (HH z)):WP P B c Q n E D H:=by
 intro a w e1 e2 e3;refine wpIn_mono (h1 a w e1 e2 e3) ?_;intro e a' w' hq
 cases e with
 |normal=>obtain⟨z,k1,k3,k4,k5⟩:=hq;exact h2 z k1 a' w' k3 k4 k5
 |exit id=>exact hq
 |goto l=>exact hq
 |ret=>exact hq
 |panic ch=>exact hq
 |outgrown=>exact hq
theorem BJ{α:Type}{EE:α→A5}{HH:α→HP}{φ:α→Prop}(z:α)(h0:φ z)(s0:Sub E (EE z))(e0:H=HH z):
  BI B (O3 B n D EE HH φ Q) .normal n E D H:=fun _ _ h1 h2 h3=>⟨z,h0,h1.sub s0,h2,e0▸h3⟩
theorem Xq{α:Type}{EE:α→A5}{HH:α→HP}{φ:α→Prop}(h:BI B Q .ret n E D H):BI B (O3 B n D EE HH φ Q) .ret n E D H:=h
theorem gN{α:Type}{EE:α→A5}{HH:α→HP}{φ:α→Prop}(h:BI B Q (.exit id) n E D H):BI B (O3 B n D EE HH φ Q) (.exit id) n E D H:=h
theorem Au{H':HP}(e:H=H')(h:WP P B c Q n E D H'):WP P B c Q n E D H:=e▸h
theorem BQ{H':HP}{l:List Oper}(e:H=H')(h:WL P B ops Q l n E D H'):WL P B ops Q l n E D H:=e▸h
theorem dh{α:Type}{A:α→HP}{R:HP}(h:∀z,WP P B c Q n E D (A z*R)):WP P B c Q n E D (HP.ex A*R):=by
 intro a w h1 h2 h3;rw [HP.HG]at h3;obtain⟨z,h4⟩:=Sat.ex.1 h3;exact h z a w h1 h2 h4
theorem fj{p:Prop}{R:HP}(h:p→WP P B c Q n E D R):WP P B c Q n E D (HP.pr p*R):=by
 intro a w h1 h2 h3;obtain⟨hp,h4⟩:=Sat.pr.1 h3;exact h hp a w h1 h2 h4
theorem Rj{E':A5}(s:Sub E E')(h:WP P B c Q n E' D H):WP P B c Q n E D H:=fun a w h1 h2 h3=>h a w (h1.sub s) h2 h3
def I0:Nat→List Value→A5
 |_,[]=>[]
 |k,v::r=>(k,v)::I0 (k+1) r
theorem MH:∀(vs:List Value) (k t:Nat) (v:Value),lk (I0 k vs) t=some v→k≤t∧vs[t-k]?=some v
 |[],_,_,_,h=>by cases h
 |u::r,k,t,v,h=>by
  simp only [I0,lk]at h;cases hb:mg k t
  ·rw [hb]at h;obtain⟨h1,h2⟩:=MH r (k+1) t v h;refine⟨by omega,?_⟩;rw [show t-k=(t-(k+1))+1 by omega];simpa using h2
  ·rw [hb]at h;obtain rfl:=kj hb;exact⟨nk _,by simpa using h⟩
def IB(P:Program)(B:World)(fn:Func)(Post:Value→HP→Prop):Exit→Act→World→Prop:=
 bodyPost P fn fun e w'=>∃v H',e=.returned v∧Post v H'∧Sat B H' w'
theorem lX{f:FuncId}{fn:Func}{args:List Value}{Post:Value→HP→Prop}(hf:P.funcs[f]?=some fn)(hb:fn.body=some c)(hn:fn.ntmps=n)
  (ha:oz args.length n=true)(h:WP P B c (IB P B fn Post) n (I0 0 args) ⟨[],none⟩ H):Fn P B f args H Post:=by
 intro w hw;refine calls_of_wp hf hb (wpIn_wide.1 (h _ w ⟨?_,?_⟩ rfl hw))
 ·have:args.length≤n:=by simpa using ha
  simp [hn];omega
 ·intro t v e;obtain⟨_,h2⟩:=MH args 0 t v e;simp only [Nat.sub_zero]at h2;have hlt:t<args.length:=(kn.1 h2).1;simp only [];rw [Array.getElem?_append_left (by simpa using hlt)];simpa using h2
def FU:List Value→Value
 |[v]=>v
 |vs=>.tuple vs.toArray
theorem Ju{fn:Func}{a:Act}{ts:List Nat}{vs:List Value}(hr:fn.results=(ts.map kx).toArray)(he:DA n E a)
  (hv:DW E (ts.map Operand.tmp)=some vs)(w:World):(results fn a.tmps).run P w=.ok (FU vs) w:=by
 have h1:=H4 he hv
 have h2:∀f:ResultVar→Sem Value,(∀t,f (.tmp t)=Pure.pure (a.tmps.getD t undef))→fn.results.mapM f=Pure.pure vs.toArray:=by
  intro f hf
  have h3:List.mapM (f ∘ kx) ts=Pure.pure (ts.map fun t=>a.tmps.getD t undef):=by
   rw [show f ∘ kx=fun t=>Pure.pure (a.tmps.getD t undef)from funext hf];exact List.mapM_pure ..
  rw [hr,List.mapM_toArray,List.mapM_map,h3,map_pure,←h1,ow];rfl
 unfold results;rw [h2 _ (fun _=>rfl)];simp only [pure_bind,c_];congr 1
 match vs with
 |[]=>rfl
 |[v]=>rfl
 |u::v::r=>
  rw [dif_neg (by simp)];rfl
theorem eJ{r:Option Nat}{fn:Func}{Post:Value→HP→Prop}{ts:List Nat}{vs:List Value}(hr:fn.results=(ts.map kx).toArray)(hv:DW E (ts.map Operand.tmp)=some vs)
  (hp:Post (FU vs) H):BI B (IB P B fn Post) .ret n E ⟨[],r⟩ H:=
 fun _ w h1 h2 h3=>⟨h2,_,Ju hr h1 hv w,_,_,rfl,hp,h3⟩
theorem Pd{r:Option Nat}{fn:Func}{Post:Value→HP→Prop}{ts:List Nat}{vs:List Value}(hr:fn.results=(ts.map kx).toArray)(hv:DW E (ts.map Operand.tmp)=some vs)
  (hp:Post (FU vs) H):BI B (IB P B fn Post) .normal n E ⟨[],r⟩ H:=
 fun _ w h1 h2 h3=>⟨h2,_,Ju hr h1 hv w,_,_,rfl,hp,h3⟩
end
end
section
class H6(H:HP)(b o:Nat)(l:outParam (List Value))(R:outParam HP):Prop where
 eq:H=HP.AA b o l*R
instance(b o:Nat)(l:List Value):H6 (HP.AA b o l) b o l HP.BN:=⟨(HP.Ge _).symm⟩
instance(priority:=2000)(C:HP)(b o:Nat)(l:List Value):H6 (HP.AA b o l*C) b o l C:=⟨rfl⟩
instance(A C R:HP)(b o:Nat)(l:List Value)[h:H6 A b o l R]:H6 (A*C) b o l (R*C):=⟨by rw [h.eq,HP.assoc]⟩
instance(A C R:HP)(b o:Nat)(l:List Value)[h:H6 C b o l R]:H6 (A*C) b o l (A*R):=⟨by rw [h.eq,HP.CV]⟩
theorem Sat.cells{B:World}{b o:Nat}{l:List Value}{R:HP}{w:World}(h:Sat B (HP.AA b o l*R) w)(j:Nat)(v:Value)(e:l[j]?=some v):
  w.cell? ⟨b,o+j,none⟩=some v:=by
 obtain⟨_,r,hr,hl⟩:=h.left;refine hl.cell b (o+j) v ?_;rw [show r=_ from hr];simp [e]
theorem Sat.Jw{P:Program}{B:World}{b:Nat}:∀(vs:List Value) (o i:Nat) (l:List Value) (R:HP) (w:World),vs.length≤l.length→(∀v∈vs,v.oneCell'=true)→
  Sat B (HP.AA b (o+i) l*R) w→
  ∃w',(storeCells ⟨b,o,none⟩ vs i).run P w=.ok () w'∧Sat B (HP.AA b (o+i) (vs++l.drop vs.length)*R) w'
 |[],o,i,l,R,w,_,_,h=>⟨w,rfl,by simpa using h⟩
 |v::vs,o,i,[],R,w,hl,_,h=>by simp at hl
 |v::vs,o,i,u::l,R,w,hl,hv,h=>by
  have hU:C3 (HP.AA b (o+i) (u::l)*R) b (o+i+0) v (HP.AA b (o+i) (v::l)*R) True:=inferInstance;obtain⟨⟨u',hc⟩,hf,hs⟩:=Sat.store hU h trivial;simp only [lu]at hc hf hs
  have ha:kf ⟨b,o,none⟩ i=⟨b,o+i,none⟩:=by by_cases hi:i=0<;>simp [kf,hi]
  have hs':Sat B (HP.AA b (o+(i+1)) l*(HP.AA b (o+i) [v]*R)) (w.setCell ⟨b,o+i,none⟩ v):=by
   rw [show(v::l)=[v]++l from rfl,HP.Fa]at hs;rw [HP.CV,←HP.assoc];exact hs
  obtain⟨w',h1,h2⟩:=Sat.Jw vs o (i+1) l _ _ (by simpa using hl) (fun x hx=>hv x (by simp [hx])) hs';refine⟨w',?_,?_⟩
  ·simp only [storeCells,b_,ha];rw [run_store P w _ v _ (hv v (by simp))];simp only [hc,hf];exact h1
  ·rw [show(v::vs)++List.drop (v::vs).length (u::l)=[v]++(vs++l.drop vs.length)from rfl,HP.Fa,HP.assoc,HP.CV];exact h2
section
variable{P:Program}{B:World}{n:Nat}{E:A5}{D:B6}{H:HP}{d:Option Tmp}{T T' ty:TypeId}{pos:String}{af:Array Edge}{g:Option (Nat×Bool)}{x y:Operand}
theorem Ez{b i:Nat}{v:Value}{H':HP}{s:Prop}[hT:CP P T](hx:ev E x=some (.pointer (some ⟨b,i,none⟩)))(hy:ev E y=some v)(hv:v.oneCell'=true)
  [hU:C3 H b i v H' s](hs:s):CU P B n ⟨d,.store T x y,ty,pos,af,g⟩ E D H (fun v H''=>v=undef∧H''=H'):=by
 intro a w h1 _ h3 K Q hk;obtain⟨⟨u,hc⟩,hf,hs'⟩:=Sat.store hU h3 hs
 have hcs:v.cells= #[v]:=by cases v<;>first|rfl|cases hv
 have hrun:(execOp a.eval ⟨d,.store T x y,ty,pos,af,g⟩).run P w=.ok .skip (w.setCell ⟨b,i,none⟩ v):=by
  simp only [execOp,h1.ev hx,h1.ev hy,oh,j_,b_,c_,a_,storeVar,hT.size,hcs];simp [storeCells,kf,run_store P w ⟨b,i,none⟩ v _ hv,hc,hf]
 simp only [kt,hrun,h_];exact hk undef H' _ ⟨rfl,rfl⟩ hs'
theorem EO{b i k:Nat}{cs l:List Value}{R:HP}[hT:Ep P T k](hx:ev E x=some (.pointer (some ⟨b,i,none⟩)))(hy:ev E y=some (.agg cs.toArray))
  (hl:cs.length=k∧l.length=k)(hv:∀v∈cs,v.oneCell'=true)
  [hU:H6 H b i l R]:CU P B n ⟨d,.store T x y,ty,pos,af,g⟩ E D H (fun v H''=>v=undef∧H''=HP.AA b i cs*R):=by
 intro a w h1 _ h3 K Q hk;rw [hU.eq]at h3;obtain⟨w',hw1,hw2⟩:=Sat.Jw (P:=P) cs i 0 l R w (by omega) hv h3
 have hrun:(execOp a.eval ⟨d,.store T x y,ty,pos,af,g⟩).run P w=.ok .skip w':=by
  simp only [execOp,h1.ev hx,h1.ev hy,oh,j_,b_,c_,a_,storeVar,hT.size,Value.cells];simp [hl.1,hw1]
 simp only [kt,hrun,h_];refine hk undef _ _ ⟨rfl,rfl⟩ ?_;rw [List.drop_eq_nil_of_le (by omega)]at hw2;simpa using hw2
theorem Fj{z:Value}{l:List Value}[hz:Bb P T z](hl:z.cells.toList=l):
  CU P B n ⟨d,.alloc T,ty,pos,af,g⟩ E D H (fun v H'=>∃b,v=.pointer (some ⟨b,0,none⟩)∧H'=HP.AA b 0 l*H):=by
 intro a w _ _ h3 K Q hk
 have hrun:(execOp a.eval ⟨d,.alloc T,ty,pos,af,g⟩).run P w=.ok (.value (.pointer (some ⟨w.heap.size,0,none⟩))) (w.alloc (.cells z.cells T)):=by
  simp [execOp,Instr.alloc,hz.get,newVar,newRow]
 simp only [kt,hrun,h_];exact hk _ _ _ ⟨w.heap.size,rfl,rfl⟩ (hl▸h3.alloc z.cells T)
theorem Dn{v:Value}{l:List Value}(hx:ev E x=some v)(hl:v.cells.toList=l):
  CU P B n ⟨d,.box T x,ty,pos,af,g⟩ E D H (fun v H'=>∃b,v=.pointer (some ⟨b,0,none⟩)∧H'=HP.AA b 0 l*H):=by
 intro a w h1 _ h3 K Q hk
 have hrun:(execOp a.eval ⟨d,.box T x,ty,pos,af,g⟩).run P w=.ok (.value (.pointer (some ⟨w.heap.size,0,none⟩))) (w.alloc (.cells v.cells T)):=by
  simp [execOp,h1.ev hx,Instr.box,newVar,newRow]
 simp only [kt,hrun,h_];exact hk _ _ _ ⟨w.heap.size,rfl,rfl⟩ (hl▸h3.alloc v.cells T)
theorem BS{f:FuncId}{xs:List Operand}{vs:List Value}{ats:Array TypeId}{Post:Value→HP→Prop}[hf:Ah P f](hx:DW E xs=some vs)(hs:Fn P B f vs H Post):
  CU P B n ⟨d,.call ⟨.value (.func f),xs.toArray,ats⟩,ty,pos,af,g⟩ E D H Post:=by
 intro a w h1 _ h3 K Q hk
 have hrun:(execOp a.eval ⟨d,.call ⟨.value (.func f),xs.toArray,ats⟩,ty,pos,af,g⟩).run P w=.ok (.enter f vs.toArray) w:=by
  simp only [execOp,resolve,g_,H4 h1 hx,Act.eval,Deferred.ofValue,b_,c_,a_,invoke];simp [hf.get]
 simp only [kt,hrun,h_];refine(hs w h3).mono ?_;rintro e w' ⟨v,H',rfl,hp,hs'⟩;exact hk v H' w' hp hs'
theorem IJ{f:FuncId}{t:Operand}{xs:List Operand}{vs us:List Value}{ats:Array TypeId}{Post:Value→HP→Prop}[hf:Ah P f]
  (ht:ev E t=some (.func (.func f) #[] us.toArray))(hx:DW E xs=some vs)(hs:Fn P B f (vs++us) H Post):
  CU P B n ⟨d,.call ⟨.value t,xs.toArray,ats⟩,ty,pos,af,g⟩ E D H Post:=by
 intro a w h1 _ h3 K Q hk
 have hrun:(execOp a.eval ⟨d,.call ⟨.value t,xs.toArray,ats⟩,ty,pos,af,g⟩).run P w=.ok (.enter f (vs++us).toArray) w:=by
  simp only [execOp,resolve,g_,H4 h1 hx,h1.ev ht,Deferred.ofValue,b_,c_,a_,invoke];simp [hf.get]
 simp only [kt,hrun,h_];refine(hs w h3).mono ?_;rintro e w' ⟨v,H',rfl,hp,hs'⟩;exact hk v H' w' hp hs'
theorem D6{b i k:Nat}{l:List Value}{R:HP}[hT:Ep P T k](hx:ev E x=some (.pointer (some ⟨b,i,none⟩)))[hr:H6 H b i l R](hl:l.length=k):
  Af P B n ⟨d,.load T x,ty,pos,af,g⟩ E H (.agg l.toArray):=by
 intro a w he hw;rw [hr.eq]at hw
 have h1:(loadCells ⟨b,i,none⟩ k).run P w=.ok l.toArray w:=by
  rw [←hl];refine run_loadCells_list w ⟨b,i,none⟩ l fun j v e=>?_
  have:=hw.cells j v e
  by_cases hj:j=0
  ·subst hj;simpa [kf]using this
  ·simpa [kf,hj]using this
 simp [execOp,he.ev hx,ot,j_,loadVar,hT.get,hT.size,h1]
end
end
section
class PQ(Q:Exit→Act→World→Prop):Prop where
 get:∀c a w d v,Q (.panic c) (Act.put a d v) w→Q (.panic c) a w
 out:∀a w,¬Q .outgrown a w
instance{K:Act→World→Prop}{Q:Exit→Act→World→Prop}[h:PQ Q]:PQ (Exit.then K Q):=⟨h.get,h.out⟩
instance{id:Nat}{Q:Exit→Act→World→Prop}[h:PQ Q]:PQ (Exit.inBlock id Q):=⟨h.get,h.out⟩
instance{B:World}{n:Nat}{D:B6}{α:Type}{EE:α→A5}{HH:α→HP}{φ:α→Prop}{Q:Exit→Act→World→Prop}[h:PQ Q]:PQ (O3 B n D EE HH φ Q):=⟨h.get,h.out⟩
instance{P:Program}{B:World}{fn:Func}{Post:Value→HP→Prop}:PQ (IB P B fn Post):=⟨by
 intro c a w d v h
 cases d<;>exact h,by rintro a w ⟨v,H',h,_⟩;cases h⟩
def Js(ops:Array Oper):Bool:=ops.all fun o=>match o.op with| .defer _=>false|_=>true
theorem T? {ops:Array Oper}(h:Js ops=true){i:Nat}{o:Oper}(ho:ops[i]?=some o)(c:Call):o.op≠ .defer c:=by
 simp only [Js,lw]at h
 have:=h o (Array.mem_of_getElem? ho)
 intro e;rw [e]at this;cases this
theorem fg{P:Program}{ops:Array Oper}{Q:Exit→Act→World→Prop}{r:Option Nat}{i:Nat}{K:Act→World→Prop}{a:Act}{w:World}(hd:Js ops=true)(hq:∀a w,¬Q .outgrown a w)
  (h:wpOp P ops Q i K a w):wpOpIn (fr r) 0 P ops Q i K a w:=by
 unfold wpOp at h;unfold wpOpIn
 cases ho:ops[i]? with
 |none=>simpa [ho]using h
 |some o=>
  simp only [ho]at h⊢;split
  ·rename_i hw;simp only [hw,if_true]at h;exact OJ (T? hd ho) (h.resolve_right fun⟨_,a,w,h1⟩=>hq a w h1)
  ·rename_i hw;simp only [hw]at h;exact⟨fun _ _=>trivial,h⟩
theorem kK{P:Program}{ops:Array Oper}{Q:Exit→Act→World→Prop}{r:Option Nat}(hd:Js ops=true)(hq:∀a w,¬Q .outgrown a w):∀(fuel:Nat) (ls:Array Bool) (a:Act) (w:World),
  wpAny P .any ops Q fuel ls a w→wpAnyIn (fr r) 0 P .any ops Q fuel ls a w
 |0,_,_,_,h=>h
 |fuel+1,_,_,_,⟨h1,h2⟩=>⟨h1,fun i hi=>wpOpIn_mono (fun a w h=>kK hd hq fuel _ a w h) (fg hd hq (h2 i hi))⟩
def Ng(P:Program)(ops:Array Oper)(Q:Exit→Act→World→Prop)(S:World→Prop)(last:Nat):Nat→Array Bool→Act→World→Prop
 |0,ls,a,w=>i_ .any ops ls=[]∧Q .normal a w
 |fuel+1,ls,a,w=>(i_ .any ops ls=[]→Q .normal a w)∧
   ∀i∈i_ .any ops ls,wpOp P ops Q i (fun a' w'=>(last≤i∨S w')∧Ng P ops Q S last fuel (ls.setIfInBounds i true) a' w') a w
theorem eM{P:Program}{ops:Array Oper}{Q:Exit→Act→World→Prop}{S:World→Prop}{last:Nat}:∀(fuel:Nat) (ls:Array Bool) (a:Act) (w:World),
  Ng P ops Q S last fuel ls a w→wpAny P .any ops Q fuel ls a w
 |0,_,_,_,h=>h
 |fuel+1,_,_,_,⟨h1,h2⟩=>⟨h1,fun i hi=>wpOp_mono (fun a' w' h=>eM fuel _ a' w' h.2) (h2 i hi)⟩
def MC(ops:Array Oper)(i:Nat):Nat→Nat→Bool
 |0,_=>false
 |f+1,k=>match ops[k]? with
  |none=>false
  |some o=>o.after.any (fun e=>li .any e&&e.on==i)||o.after.any (fun e=>li .any e&&MC ops i f e.on)
def waits(ops:Array Oper)(last i:Nat):Bool:=(od ops.size).all fun j=>ku j last||MC ops i 8 j
def PA(ops:Array Oper)(ls:Array Bool):Prop:=∀k o,ops[k]?=some o→ls.getD k false=true→∀e∈o.after,li .any e=true→ls.getD e.on false=true
def VB(ops:Array Oper)(ls:Array Bool):Bool:=
 (od ops.size).all fun k=> !ls.getD k false||((ops[k]?).all fun o=>o.after.all fun e=> !li .any e||ls.getD e.on false)
theorem SG{ops:Array Oper}{ls:Array Bool}(h:VB ops ls=true):PA ops ls:=by
 intro k o ho hl e he hb;simp only [VB,mh,oe]at h;have h1:=h k (ki.1 ho).1;rw [ho,hl]at h1;simp only [Bool.not_true,Bool.false_or,Option.all_some,lw]at h1;have h2:=h1 e he;rw [hb]at h2;simpa using h2
theorem az{ops:Array Oper}{ls:Array Bool}{j:Nat}(h:PA ops ls)(hj:j∈i_ .any ops ls):PA ops (ls.setIfInBounds j true):=by
 obtain⟨_,p,hp,hall⟩:=mem_ready.1 hj
 have up:∀m,ls.getD m false=true→(ls.setIfInBounds j true).getD m false=true:=fun m hm=>by
  by_cases e:j=m
  ·subst e;rcases lh j ls.size with h1|h1
   ·simp [h1]
   ·simp [kr h1]at hm
  ·rwa [getD_set_ne false e]
 intro k o ho hl e he hb;by_cases ek:j=k
 ·subst ek;rw [hp]at ho;obtain rfl:=lf.inj ho;exact up _ (hall e he hb)
 ·rw [getD_set_ne false ek]at hl;exact up _ (h k o ho hl e he hb)
theorem Yc{ops:Array Oper}{ls:Array Bool}{i:Nat}(h:PA ops ls):∀(f k:Nat) (o:Oper),ops[k]?=some o→(∀e∈o.after,li .any e=true→ls.getD e.on false=true)→
  MC ops i f k=true→ls.getD i false=true
 |0,_,_,_,_,hw=>by cases hw
 |f+1,k,o,ho,hall,hw=>by
  simp only [MC,ho,ns,Array.any_eq_true,lj,beq_iff_eq]at hw;rcases hw with⟨m,hm,hb,he⟩|⟨m,hm,hb,he⟩
  ·have:=hall _ (na hm) hb
   rwa [he]at this
  ·have h1:=hall _ (na hm) hb
   cases h2:ops[o.after[m].on]? with
   |none=>
    cases f with
    |zero=>cases he
    |succ f=>simp [MC,h2]at he
   |some q=>exact Yc h f _ q h2 (h _ q h2 h1) he
theorem Ry{P:Program}{ops:Array Oper}{Q:Exit→Act→World→Prop}{S:World→Prop}{last i:Nat}{o:Oper}{v:Value}(hi:ops[i]?=some o)
  (hsel:nt ops=true)(hw:waits ops last i=true)(hQ:∀c a w,Q (.panic c) (a.put o.dst v) w→Q (.panic c) a w):
  ∀(fuel:Nat) (ls:Array Bool) (a:Act) (w:World),PA ops ls→
   (∀j p,ops[j]?=some p→j≠i→ls.getD j true=false→(∀e∈p.after,li .any e=true→e.on≠i)→o.apart ops p=true)→
   i∈i_ .any ops ls→YieldsIf P ops S o v a→S w→
   Ng P ops Q S last fuel (ls.setIfInBounds i true) (a.put o.dst v) w→Ng P ops Q S last (fuel+1) ls a w:=by
 have hsel':=Region.noSelect_spec hsel;intro fuel
 induction fuel with
 |zero=>
  intro ls a w _ _ hr hy hS h;refine⟨fun e=>by rw [e]at hr;exact absurd hr (by simp),fun j hj=>?_⟩;by_cases e:j=i
  ·subst e;exact hy.wpOp hi hS ⟨.inr hS,h⟩
  ·have:=ready_mono hj e
   rw [h.1]at this;exact absurd this (by simp)
 |succ fuel ih=>
  intro ls a w hcl hf hr hy hS h;refine⟨fun e=>by rw [e]at hr;exact absurd hr (by simp),fun j hj=>?_⟩;by_cases e:j=i
  ·subst e;exact hy.wpOp hi hS ⟨.inr hS,h⟩
  ·have h1:=h.2 j (ready_mono hj e);obtain⟨hun,p,hp,hall⟩:=mem_ready.1 hj;have hnl:ls.getD i true=false:=(mem_ready.1 hr).1
   have hnot:∀e∈p.after,li .any e=true→e.on≠i:=fun e he hb heq=>by
    have h2:=hall e he hb;rw [heq]at h2;rcases lh i ls.size with hlt|hge
    ·simp [hlt]at h2 hnl;rw [hnl]at h2;cases h2
    ·simp [kr hge]at h2
   have hjl:¬last≤j:=fun e2=>by
    have hlt:=(ki.1 hp).1
    have hw2:(ku j last||MC ops i 8 j)=true:=by
     simp only [waits,mh,oe]at hw;exact hw j hlt
    simp only [ns,Nat.blt_eq]at hw2;have h3:=Yc hcl 8 j p hp hall (hw2.resolve_left (by omega));rcases lh i ls.size with h4|h4
    ·simp [h4]at h3 hnl;rw [hnl]at h3;cases h3
    ·simp [kr h4]at h3
   have h2:=wpOp_putIf hp (hf j p hp e hun hnot) (fun cs b=>hsel' i o cs b hi) (fun cs b=>hsel' j p cs b hp) hQ hy h1;refine wpOp_mono (fun a' w' h3=>?_) h2;have hS':S w':=h3.2.1.resolve_left hjl;refine⟨.inr hS',ih _ a' w' (az hcl hj) ?_ (ready_mono hr (Ne.symm e)) h3.1 hS' ?_⟩
   ·intro k q hq hki hun2 hno;refine hf k q hq hki ?_ hno;by_cases hjk:j=k
    ·subst hjk;exact hun
    ·rwa [getD_set_ne true hjk]at hun2
   ·rw [Array.setIfInBounds_comm _ _ e];exact h3.2.2
def WA(P:Program)(B:World)(ops:Array Oper)(Q:Exit→Act→World→Prop)(R:HP)(last:Nat)(fuel:Nat)(listed:Array Bool)(n:Nat)(E:A5)(D:B6)(H:HP):Prop:=
 ∀a w,DA n E a→a.defers=D.ds→Sat B H w→Ng P ops Q (Sat B R) last fuel listed a w
class If(H R:HP):Prop where
 get:∀r,H r→∃x y,Aw.dj x y∧r=x.un y∧R x
instance(priority:=2000)(H:HP):If H H:=⟨fun r h=>⟨r,Aw.nil,(Aw.Ta r).symm,(Aw.pY r).symm,h⟩⟩
instance(priority:=1800)(A C:HP):If (A*C) A:=⟨fun r ⟨x,y,d,e,a,_⟩=>⟨x,y,d,e,a⟩⟩
instance(priority:=1500)(A C D R:HP)[h:If (A*(C*D)) R]:If (A*C*D) R:=by rw [HP.assoc];exact h
instance(priority:=1400)(A C D H:HP)[h:If H (A*(C*D))]:If H (A*C*D):=by rw [HP.assoc];exact h
instance(priority:=900)(A C R:HP)[h:If C R]:If (A*C) R:=⟨fun r ⟨x,y,d,e,_,c⟩=>by
 obtain⟨u,v,d2,e2,hr⟩:=h.get y c
 subst e2
 obtain⟨d3,d4⟩:=Aw.LR.1 d
 refine⟨u,x.un v,Aw.LR.2 ⟨d3.symm,d2⟩,?_,hr⟩
 rw [e,←Aw.OP,←Aw.OP,Aw.Wf d3]⟩
instance(priority:=1000)(A C R:HP)[h:If C R]:If (A*C) (A*R):=⟨fun r ⟨x,y,d,e,a,c⟩=>by
 obtain⟨u,v,d2,e2,hr⟩:=h.get y c
 subst e2
 obtain⟨d3,d4⟩:=Aw.LR.1 d
 refine⟨x.un u,v,Aw.WR.2 ⟨d4,d2⟩,?_,x,u,d3,rfl,a,hr⟩
 rw [e,Aw.OP]⟩
class Bz(B:World)(H R:HP):Prop where
 get:∀w,Sat B H w→Sat B R w
instance(B:World)(H R:HP)[h:If H R]:Bz B H R:=⟨fun _ ⟨h1,r,hr,hl⟩=>by
 obtain⟨x,y,_,e,hx⟩:=h.get r hr
 exact⟨h1,x,hx,(e▸hl).left⟩⟩
theorem Bz.BN(B:World)(H:HP):Bz B H HP.BN:=⟨fun _ h=>h.BN⟩
theorem Bz.of{B:World}{A H R:HP}(h:H=A*R):Bz B H R:=⟨fun _ hw=>(h▸hw).right⟩
def BO(ops:Array Oper)(ls:Array Bool)(last i:Nat):Bool:=
 nt ops&&Region.free .any ops ls i&&(i_ .any ops ls).contains i&&waits ops last i&&VB ops ls
section
variable{P:Program}{B:World}{n:Nat}{E:A5}{D:B6}{H R:HP}{ops:Array Oper}{Q:Exit→Act→World→Prop}{fuel last:Nat}{ls:Array Bool}
 {op:Op} {ty:TypeId} {pos:String} {af:Array Edge}
theorem ET{id:Nat}(R:HP)(last k:Nat)(hm:P.follows .mixedOrders=true)(hk:ops.size=k)[hq:PQ Q](hd:Js ops=true)(h:WA P B ops Q R last k (nu k false) n E D H):WP P B (.region id ops true) Q n E D H:=
 fun a _ h1 h2 h3=>wpIn_region_any hm (by rw [hk];exact kK hd hq.out _ _ _ _ (eM _ _ _ _ (h a _ h1 h2 h3.Il)))
theorem V! {id:Nat}(last k:Nat)(hm:P.follows .mixedOrders=true)(hk:ops.size=k)[hq:PQ Q](hd:Js ops=true)(h:WA P B ops Q H last k (nu k false) n E D H):WP P B (.region id ops true) Q n E D H:=
 ET H last k hm hk hd h
theorem KO(i:Nat){t:Nat}{v:Value}(hi:ops[i]?=some ⟨some t,op,ty,pos,af,none⟩)(hk:BO ops ls last i=true)[hq:PQ Q][hE:Bz B H R](ht:ku t n=true)
  (hv:Af P B n ⟨some t,op,ty,pos,af,none⟩ E R v)(next:WA P B ops Q R last fuel (ls.setIfInBounds i true) n ((t,v)::E) D H):
  WA P B ops Q R last (fuel+1) ls n E D H:=by
 intro a w h1 h2 h3;simp only [BO,lj]at hk;obtain⟨⟨⟨⟨hs,hf⟩,hr⟩,hl⟩,hcl⟩:=hk;refine Ry hi hs hl (fun c a w=>hq.get c a w _ _) fuel ls a w (SG hcl) (mj hi hf) (by simpa using hr) (.inl ⟨by simp [e_],fun w' hw'=>hv a w' h1 hw'⟩) (hE.get w h3) ?_;exact next _ w (h1.put (by simpa using ht) v) (by simp [Act.put,h2]) h3
theorem qR(i:Nat){t j tj:Nat}{v:Value}{b:Bool}(hi:ops[i]?=some ⟨some t,op,ty,pos,af,some (j,b)⟩)(hk:BO ops ls last i=true)[hq:PQ Q][hE:Bz B H R](ht:ku t n=true)
  (hj:(ops[j]?).bind (·.dst)=some tj)(hb:lk E tj=some (.bool b))
  (hv:Af P B n ⟨some t,op,ty,pos,af,none⟩ E R v)(next:WA P B ops Q R last fuel (ls.setIfInBounds i true) n ((t,v)::E) D H):
  WA P B ops Q R last (fuel+1) ls n E D H:=by
 intro a w h1 h2 h3
 have hy:yielded ops a.tmps j=some b:=by
  have:=h1.2 _ _ hb
  simp [yielded,hj,this]
 simp only [BO,lj]at hk;obtain⟨⟨⟨⟨hs,hf⟩,hr⟩,hl⟩,hcl⟩:=hk;refine Ry hi hs hl (fun c a w=>hq.get c a w _ _) fuel ls a w (SG hcl) (mj hi hf) (by simpa using hr) (.inl ⟨by simp [e_,hy],fun w' hw'=>hv a w' h1 hw'⟩) (hE.get w h3) ?_;exact next _ w (h1.put (by simpa using ht) v) (by simp [Act.put,h2]) h3
theorem uR(i:Nat){t j tj:Nat}{b want:Bool}(hi:ops[i]?=some ⟨some t,op,ty,pos,af,some (j,want)⟩)(hk:BO ops ls last i=true)[hq:PQ Q][hE:Bz B H R](ht:ku t n=true)
  (hj:(ops[j]?).bind (·.dst)=some tj)(hb:lk E tj=some (.bool b))(hne:b= !want)
  (next:WA P B ops Q R last fuel (ls.setIfInBounds i true) n ((t,undef)::E) D H):
  WA P B ops Q R last (fuel+1) ls n E D H:=by
 intro a w h1 h2 h3
 have hy:yielded ops a.tmps j=some b:=by
  have:=h1.2 _ _ hb
  simp [yielded,hj,this]
 simp only [BO,lj]at hk;obtain⟨⟨⟨⟨hs,hf⟩,hr⟩,hl⟩,hcl⟩:=hk;refine Ry hi hs hl (fun c a w=>hq.get c a w _ _) fuel ls a w (SG hcl) (mj hi hf) (by simpa using hr) (.inr ⟨by rw [hne]at hy;cases want<;>simp [e_,hy],rfl⟩) (hE.get w h3) ?_;exact next _ w (h1.put (by simpa using ht) undef) (by simp [Act.put,h2]) h3
theorem Av(i:Nat){t:Nat}{Post:Value→HP→Prop}(hr:i_ .any ops ls=[i])(hi:ops[i]?=some ⟨some t,op,ty,pos,af,none⟩)(ht:ku t n=true)
  (he:CU P B n ⟨some t,op,ty,pos,af,none⟩ E D H Post)
  (next:∀v H',Post v H'→(last≤i∨Bz B H' R)∧WA P B ops Q R last fuel (ls.setIfInBounds i true) n ((t,v)::E) D H'):
  WA P B ops Q R last (fuel+1) ls n E D H:=by
 intro a w h1 h2 h3;refine⟨(fun h0=>by rw [hr]at h0;cases h0),fun j hj=>?_⟩;rw [hr]at hj;obtain rfl:=kv.1 hj;unfold wpOp;rw [hi];simp only [e_,if_true];refine .inl (he a w h1 h2 h3 _ _ fun v H' w' hp hs=>?_);obtain⟨n1,n2⟩:=next v H' hp;exact⟨n1.imp id (fun h=>h.get w' hs),n2 _ w' (h1.put (by simpa using ht) v) (by simp [Act.put,h2]) hs⟩
theorem Dx(i:Nat){Post:Value→HP→Prop}(hr:i_ .any ops ls=[i])(hi:ops[i]?=some ⟨none,op,ty,pos,af,none⟩)
  (he:CU P B n ⟨none,op,ty,pos,af,none⟩ E D H Post)
  (next:∀v H',Post v H'→(last≤i∨Bz B H' R)∧WA P B ops Q R last fuel (ls.setIfInBounds i true) n E D H'):
  WA P B ops Q R last (fuel+1) ls n E D H:=by
 intro a w h1 h2 h3;refine⟨(fun h0=>by rw [hr]at h0;cases h0),fun j hj=>?_⟩;rw [hr]at hj;obtain rfl:=kv.1 hj;unfold wpOp;rw [hi];simp only [e_,if_true];refine .inl (he a w h1 h2 h3 _ _ fun v H' w' hp hs=>?_);obtain⟨n1,n2⟩:=next v H' hp;exact⟨n1.imp id (fun h=>h.get w' hs),n2 _ w' h1 h2 hs⟩
theorem Ei(i:Nat){t:Nat}{v:Value}(hr:i_ .any ops ls=[i])(hi:ops[i]?=some ⟨some t,op,ty,pos,af,none⟩)(ht:ku t n=true)
  (hv:Af P B n ⟨some t,op,ty,pos,af,none⟩ E H v)(hR:last≤i∨Bz B H R)(next:WA P B ops Q R last fuel (ls.setIfInBounds i true) n ((t,v)::E) D H):
  WA P B ops Q R last (fuel+1) ls n E D H:=
 Av i hr hi ht (Post:=fun v' H'=>v'=v∧H'=H) (fun a w h1 _ h3 K Q hk=>by simp only [kt,hv a w h1 h3,h_];exact hk _ _ _ ⟨rfl,rfl⟩ h3) (by rintro _ _ ⟨rfl,rfl⟩;exact⟨hR,next⟩)
theorem E5{H':HP}(e:H=H')(h:WA P B ops Q R last fuel ls n E D H'):WA P B ops Q R last fuel ls n E D H:=e▸h
theorem j1(hr:i_ .any ops ls=[])(h:BI B Q .normal n E D H):WA P B ops Q R last fuel ls n E D H:=
 fun a w h1 h2 h3=>by
  cases fuel with
  |zero=>exact⟨hr,h a w h1 h2 h3⟩
  |succ fuel=>exact⟨fun _=>h a w h1 h2 h3,fun i hi=>by rw [hr]at hi;cases hi⟩
theorem gt(i j:Nat)(hr:i_ .any ops ls=[i,j]){oi oj:Oper}{Pi Pj:Value→HP→Prop}{ti tj:Nat}(hi:ops[i]?=some oi)(hj:ops[j]?=some oj)
  (di:oi.dst=some ti)(dj:oj.dst=some tj)(gi:oi.guard=none)(gj:oj.guard=none)(hti:ku ti n=true)(htj:ku tj n=true)
  (ei:CU P B n oi E D H Pi)(ej:CU P B n oj E D H Pj)
  (ni:∀v H',Pi v H'→(last≤i∨Bz B H' R)∧WA P B ops Q R last fuel (ls.setIfInBounds i true) n ((ti,v)::E) D H')
  (nj:∀v H',Pj v H'→(last≤j∨Bz B H' R)∧WA P B ops Q R last fuel (ls.setIfInBounds j true) n ((tj,v)::E) D H'):
  WA P B ops Q R last (fuel+1) ls n E D H:=by
 intro a w h1 h2 h3;refine⟨(fun h0=>by rw [hr]at h0;cases h0),fun k hk=>?_⟩;rw [hr]at hk;rcases ol.1 hk with rfl|hk
 ·unfold wpOp;rw [hi];simp only [e_,gi,if_true];refine .inl (ei a w h1 h2 h3 _ _ fun v H' w' hp hs=>?_);obtain⟨n1,n2⟩:=ni v H' hp;exact⟨n1.imp id (fun h=>h.get w' hs),n2 _ w' (by rw [di];exact h1.put (by simpa using hti) v) (by rw [di];simp [Act.put,h2]) hs⟩
 ·obtain rfl:=kv.1 hk;unfold wpOp;rw [hj];simp only [e_,gj,if_true];refine .inl (ej a w h1 h2 h3 _ _ fun v H' w' hp hs=>?_);obtain⟨n1,n2⟩:=nj v H' hp;exact⟨n1.imp id (fun h=>h.get w' hs),n2 _ w' (by rw [dj];exact h1.put (by simpa using htj) v) (by rw [dj];simp [Act.put,h2]) hs⟩
end
end
section
class AC(α:Type) where
 sz:Nat
 At:α→List Value
 AK:α
 len:∀x,(At x).length=sz
 one:∀x,∀v∈At x,v.oneCell'=true
abbrev u8(b:UInt8):Value:=.int .u8 (b.toNat:Nat)
@[reducible] instance:AC UInt8:=⟨1,fun b=>[u8 b],0,fun _=>rfl,fun _ v h=>by rw [kv.1 h];rfl⟩
@[simp] theorem Rw:AC.sz UInt8=1:=rfl
@[simp] theorem nG(b:UInt8):AC.At b=[u8 b]:=rfl
@[simp] theorem ix:(AC.AK:UInt8)=0:=rfl
def AG{α:Type}[AC α](xs:List α):List Value:=xs.flatMap AC.At
theorem By{α:Type}[AC α](xs:List α):(AG xs).length=xs.length*AC.sz α:=by
 induction xs with
 |nil=>simp [AG]
 |cons x xs ih=>simp only [AG,k_,f_,AC.len,List.length_cons]at*;rw [ih,nc,Nat.add_comm]
theorem E7{α:Type}[AC α](xs ys:List α):AG (xs++ys)=AG xs++AG ys:=by simp [AG]
theorem KS{α:Type}[AC α](xs:List α):∀v∈AG xs,v.oneCell'=true:=by
 intro v h;obtain⟨x,_,h2⟩:=List.mem_flatMap.1 h;exact AC.one x v h2
theorem Vf{α:Type}[AC α]:∀(xs:List α) (i f:Nat) (v:Value),i<xs.length→(AC.At (xs.getD i AC.AK))[f]?=some v→(AG xs)[i*AC.sz α+f]?=some v
 |[],i,f,v,h,_=>by simp at h
 |x::xs,0,f,v,_,h=>by
  simp only [List.getD_cons_zero]at h;have hlt:f<(AC.At x).length:=(kn.1 h).1;simp only [AG,k_,Nat.zero_mul,nd];rw [km hlt];exact h
 |x::xs,i+1,f,v,hi,h=>by
  simp only [List.getD_cons_succ]at h
  have:=Vf xs i f v (by simpa using hi) h
  simp only [AG,k_]at*;rw [ld (by rw [AC.len,nc];omega),AC.len,show(i+1)*AC.sz α+f-AC.sz α=i*AC.sz α+f by rw [nc];omega];exact this
def AB{α:Type}[AC α](b o:Nat)(xs:List α)(s:List Value):HP:=HP.AA b o (AG xs++s)
theorem G7{α:Type}[AC α](b o:Nat):AB b o ([]:List α) []=HP.BN:=by simp [AB,AG,HP.aD]
theorem QB{α:Type}[AC α]{b o i f:Nat}{xs:List α}{s:List Value}{v:Value}(h:(AC.At (xs.getD i AC.AK))[f]?=some v)(r:Aw)(hr:AB b o xs s r)(hi:i<xs.length):
  r.c b (o+i*AC.sz α+f)=some v:=by
 have h1:=Vf xs i f v hi h;have hlt:i*AC.sz α+f<(AG xs).length:=(kn.1 h1).1;rw [show r=_ from hr];simp only [];rw [if_pos (And.intro trivial (by omega)),show o+i*AC.sz α+f-o=i*AC.sz α+f by omega,km hlt,h1]
instance{α:Type}[AC α](b o i f:Nat)(xs:List α)(s:List Value)(v:Value)[h:Mm (AC.At (xs.getD i AC.AK)) f v]:
  Cell (AB b o xs s) b (o+i*AC.sz α+f) v (i<xs.length):=⟨QB h.get⟩
instance{α:Type}[AC α](b o i:Nat)(xs:List α)(s:List Value)(v:Value)[h:Mm (AC.At (xs.getD i AC.AK)) 0 v]:
  Cell (AB b o xs s) b (o+i*AC.sz α) v (i<xs.length):=⟨QB (f:=0) h.get⟩
instance(b o i:Nat)(xs:List UInt8)(s:List Value):Cell (AB b o xs s) b (o+i*1) (u8 (xs.getD i 0)) (i<xs.length):=⟨QB (f:=0) rfl⟩
def Sl(p:Option Addr)(b o k c:Nat):Prop:=(c=0∨p=some ⟨b,o,none⟩)∧k≤c
class Ai{α:Type}[AC α](B:World)(H:HP)(b o:Nat)(xs:List α):Prop where
 get:∀i f v,(AC.At (xs.getD i AC.AK))[f]?=some v→i<xs.length→∀w,Sat B H w→w.cell? ⟨b,o+i*AC.sz α+f,none⟩=some v
instance{α:Type}[AC α](B:World)(b o:Nat)(xs:List α)(s:List Value):Ai B (AB b o xs s) b o xs:=
 ⟨fun _ _ v h hi _ ⟨_,r,hr,hl⟩=>hl.cell _ _ v (QB h r hr hi)⟩
instance{α:Type}[AC α](B:World)(A C:HP)(b o:Nat)(xs:List α)[h:Ai B A b o xs]:Ai B (A*C) b o xs:=⟨fun i f v e hi w hw=>h.get i f v e hi w hw.left⟩
instance{α:Type}[AC α](B:World)(A C:HP)(b o:Nat)(xs:List α)[h:Ai B C b o xs]:Ai B (A*C) b o xs:=⟨fun i f v e hi w hw=>h.get i f v e hi w hw.right⟩
theorem WO{B:World}{H:HP}{b o:Nat}{xs:List UInt8}(h:Ai B H b o xs)(i:Nat):
  Rd B H b (o+i*1) (u8 (xs.getD i 0)) (i<xs.length):=⟨fun w hw hi=>h.get i 0 _ rfl hi w hw⟩
def sp(p:Option Addr)(c l sz:Nat):Option Addr:=if c=l then p else p.map (·.add (l*sz))
theorem Ln{p:Option Addr}{b o k c l h sz:Nat}(hs:Sl p b o k c)(hl:l≤h)(hh:h≤c):Sl (sp p c l sz) b (o+l*sz) (h-l) (c-l):=by
 refine⟨?_,by omega⟩;by_cases e:c=l
 ·left;omega
 ·rcases hs.1 with h1|h1
  ·omega
  ·right;rw [sp,if_neg e,h1];by_cases e2:l*sz=0<;>simp [kf,e2]
theorem Ai.sub{α:Type}[AC α]{B:World}{H:HP}{b o:Nat}{xs:List α}(hr:Ai B H b o xs)(l h:Nat)(hh:h≤xs.length):Ai B H b (o+l*AC.sz α) ((xs.take h).drop l):=by
 refine⟨fun i f v e hi w hw=>?_⟩
 have hi':l+i<h:=by simp at hi;omega
 have h1:((xs.take h).drop l).getD i AC.AK=xs.getD (l+i) AC.AK:=by
  simp [o_,List.getElem?_drop,hi']
 rw [h1]at e
 have:=hr.get (l+i) f v e (by omega) w hw
 rw [show o+l*AC.sz α+i*AC.sz α+f=o+(l+i)*AC.sz α+f by rw [np];omega];exact this
def CB{α:Type}[AC α](R:HP)(xs:List α)(v:Value)(H':HP):Prop:=
 ∃p b o c s,v=.slice p xs.length c∧Sl p b o xs.length c∧xs.length*AC.sz α+s.length=c*AC.sz α∧H'=AB b o xs s*R
section
variable{P:Program}{B:World}{n:Nat}{E:A5}{D:B6}{H:HP}{d:Option Tmp}{T T' ty:TypeId}{pos:String}{af:Array Edge}{g:Option (Nat×Bool)}{x y z:Operand}
theorem DT{p:Option Addr}{b o k c i sz:Nat}{e:TypeId}{ik:IntKind}[hT:Az P T (.slice e)][hz:Bp P e sz](hx:ev E x=some (.slice p k c))
  (hy:ev E y=some (.int ik i))(hs:Sl p b o k c)(h:i<k):Af P B n ⟨d,.indexAddr T x y,ty,pos,af,g⟩ E H (.pointer (some ⟨b,o+i*sz,none⟩)):=by
 obtain⟨h1,h2⟩:=hs;obtain rfl:=h1.resolve_left (by omega);exact Wg hx hy h
theorem GQ{ik:IntKind}{i m:Nat}{c:BoundsCode}(h:i≤m)(w:World):(ng (.int ik i) m c).run P w=.ok i w:=by
 have h0:(0:Int)≤i∧(i:Int)≤m:=by omega
 simp [ng,asIntOf,h0]
theorem LK{p:Option Addr}{k c sz l:Nat}{e:TypeId}{ik:IntKind}[hT:Az P T (.slice e)][hz:Bp P e sz](hx:ev E x=some (.slice p k c))(hy:ev E y=some (.int ik l))
  (h:l≤k):Af P B n ⟨d,.slice T x (some y) none none,ty,pos,af,g⟩ E H (.slice (sp p c l sz) (k-l) (c-l)):=by
 intro a w he _;simp only [execOp,he.ev hx,lq,kw,he.ev hy,lm,nq,kp,b_,Br hT.get,a_,c_,GQ h,hz.get,lr];rfl
theorem Sf{p:Option Addr}{k c sz h:Nat}{e:TypeId}{ik:IntKind}[hT:Az P T (.slice e)][hz:Bp P e sz](hx:ev E x=some (.slice p k c))(hy:ev E y=some (.int ik h))
  (hc:h≤c):Af P B n ⟨d,.slice T x none (some y) none,ty,pos,af,g⟩ E H (.slice p h c):=by
 intro a w he _;simp only [execOp,he.ev hx,lq,kw,he.ev hy,lm,nq,kp,b_,Br hT.get,a_,c_,GQ hc,hz.get,lr];cases p<;>simp [kf]
theorem OK{p:Option Addr}{k c sz l h:Nat}{e:TypeId}{ik jk:IntKind}[hT:Az P T (.slice e)][hz:Bp P e sz](hx:ev E x=some (.slice p k c))(hy:ev E y=some (.int ik l))(hz':ev E z=some (.int jk h))
  (hc:l≤h∧h≤c):Af P B n ⟨d,.slice T x (some y) (some z) none,ty,pos,af,g⟩ E H (.slice (sp p c l sz) (h-l) (c-l)):=by
 intro a w he _;simp only [execOp,he.ev hx,lq,kw,he.ev hy,he.ev hz',lm,nq,kp,b_,Br hT.get,a_,c_,GQ hc.1,GQ hc.2,hz.get,lr];rfl
theorem gw{b o len:Nat}{e sz:Nat}[hT:Az P T (.array len e)][hz:Bp P e sz](hx:ev E x=some (.pointer (some ⟨b,o,none⟩))):
  Af P B n ⟨d,.slice T x none none none,ty,pos,af,g⟩ E H (.slice (some ⟨b,o,none⟩) len len):=by
 intro a w he _;simp only [execOp,he.ev hx,kw,lm,kp,b_,Br hT.get,j_,a_,c_,hz.get];simp [kf]
theorem j4{b o len l:Nat}{e sz:Nat}{ik:IntKind}[hT:Az P T (.array len e)][hz:Bp P e sz](hx:ev E x=some (.pointer (some ⟨b,o,none⟩)))(hy:ev E y=some (.int ik l))(h:l≤len):
  Af P B n ⟨d,.slice T x (some y) none none,ty,pos,af,g⟩ E H (.slice (sp (some ⟨b,o,none⟩) len l sz) (len-l) (len-l)):=by
 intro a w he _;simp only [execOp,he.ev hx,lq,kw,he.ev hy,lm,kp,b_,Br hT.get,j_,a_,c_,hz.get,GQ h,lr];by_cases e:len=l<;>simp [sp,e]
theorem nO{b o len h:Nat}{e sz:Nat}{ik:IntKind}[hT:Az P T (.array len e)][hz:Bp P e sz](hx:ev E x=some (.pointer (some ⟨b,o,none⟩)))(hy:ev E y=some (.int ik h))(hh:h≤len):
  Af P B n ⟨d,.slice T x none (some y) none,ty,pos,af,g⟩ E H (.slice (some ⟨b,o,none⟩) h len):=by
 intro a w he _;simp only [execOp,he.ev hx,lq,kw,he.ev hy,lm,kp,b_,Br hT.get,j_,a_,c_,hz.get,GQ hh];simp [kf]
end
section
variable{P:Program}{B:World}{α:Type}[AC α]
theorem Ai.run{H:HP}{b o:Nat}{xs:List α}(h:Ai B H b o xs){w:World}(hw:Sat B H w):(loadCells ⟨b,o,none⟩ (xs.length*AC.sz α)).run P w=.ok (AG xs).toArray w:=by
 rw [←By];refine run_loadCells_list w ⟨b,o,none⟩ (AG xs) fun j v e=>?_
 have hj:j<xs.length*AC.sz α:=by rw [←By];exact(kn.1 e).1
 have hpos:0<AC.sz α:=by rcases Nat.eq_zero_or_pos (AC.sz α)with h0|h0;rw [h0]at hj;omega;exact h0
 have hi:j/AC.sz α<xs.length:=(Nat.div_lt_iff_lt_mul hpos).2 hj;have hsplit:j/AC.sz α*AC.sz α+j%AC.sz α=j:=Nat.div_add_mod' ..;have hm:j%AC.sz α<AC.sz α:=Nat.mod_lt _ hpos
 have he:(AC.At (xs.getD (j/AC.sz α) AC.AK))[j%AC.sz α]?=some v:=by
  obtain⟨u,hu⟩:∃u,(AC.At (xs.getD (j/AC.sz α) AC.AK))[j%AC.sz α]?=some u:=by
   rw [kq (by rw [AC.len];exact hm)];exact⟨_,rfl⟩
  have:=Vf xs _ _ u hi hu
  rw [hsplit,e]at this;rw [hu,this]
 have:=h.get _ _ v he hi w hw
 rw [Nat.add_assoc,hsplit]at this;by_cases hj0:j=0
 ·subst hj0;simpa [kf]using this
 ·simpa [kf,hj0]using this
theorem Zc{R:HP}{b o:Nat}{p:Option Addr}{c:Nat}{xs ys:List α}{s:List Value}{sT xT:TypeId}{ats:Array TypeId}{e by_:Nat}{ty:TypeId}{x:Value}{w:World}{z:Value}
  (hT:P.underlying sT=some (.slice e))(ha0:ats[0]?=some sT)(ha1:ats[1]?=some xT)(hxT:∀k,P.underlying xT≠some (.int k))(hxT':∃d,P.underlying xT=some d)
  (hz:∀w,(sizeOf e).run P w=.ok (AC.sz α) w)(hi:∃i,(∀w,(typeInfo e).run P w=.ok i w)∧i.bytes=by_)(h0:∀w,(zeroValue e).run P w=.ok z w)(hzc:z.cells.size=AC.sz α)
  (hs:Sl p b o xs.length c)(hc:xs.length*AC.sz α+s.length=c*AC.sz α)
  (hlen:(om x).run P w=.ok ys.length w)
  (hx':∀w',Sat B (AB b o xs s*R) w'→(d_ (AC.sz α) ys.length x).run P w'=.ok (AG ys).toArray w')
  (hb:(xs.length+ys.length)*by_≤140737488355328)(hby:0<by_)(hw:Sat B (AB b o xs s*R) w):
  ∃v w',(ko ats ty #[.slice p xs.length c,x]).run P w=.ok v w'∧∃H',CB R (xs++ys) v H'∧Sat B H' w':=by
 have hcells:=hx' w hw;obtain⟨dx,hdx⟩:=hxT';obtain⟨inf,hinf,rfl⟩:=hi;have hdx':∀k,dx≠ .int k:=fun k h=>hxT k (by rw [hdx,h])
 have hzero:(match dx with| .int _=>true|_=>false)=false:=by cases dx<;>first|rfl|exact absurd rfl (hdx' _)
 by_cases hn:xs.length+ys.length≤c
 ·
  by_cases hc0:c=0
  ·have hx0:xs=[]:=g'.1 (by omega);have hy0:ys=[]:=g'.1 (by omega);subst hx0 hy0 hc0
   have hrun:(ko ats ty #[.slice p ([]:List α).length 0,x]).run P w=.ok (.slice p 0 0) w:=by
    simp only [ko,ha0,ha1];simp only [List.length_nil,lu]at*;simp [Br hT,Br hdx,hz,hlen,hcells,AG];cases p<;>simp [storeCells]
   exact⟨_,w,hrun,_,⟨p,b,o,0,s,rfl,hs,hc,rfl⟩,hw⟩
  ·obtain rfl:=hs.1.resolve_left hc0;have hcm:=l_ (AC.sz α) hn;rw [np]at hcm
   have hw2:Sat B (HP.AA b (o+xs.length*AC.sz α+0) s*(HP.AA b o (AG xs)*R)) w:=by
    rw [HP.CV,←HP.assoc,lu,←By,←HP.Fa];exact hw
   obtain⟨w',h1,h2⟩:=Sat.Jw (P:=P) (AG ys) (o+xs.length*AC.sz α) 0 s _ w (by rw [By];omega) (KS ys) hw2
   have ha:kf ⟨b,o,none⟩ (xs.length*AC.sz α)=⟨b,o+xs.length*AC.sz α,none⟩:=by
    by_cases e2:xs.length*AC.sz α=0<;>simp [kf,e2]
   have hrun:(ko ats ty #[.slice (some ⟨b,o,none⟩) xs.length c,x]).run P w=.ok (.slice (some ⟨b,o,none⟩) (xs.length+ys.length) c) w':=by
    simp only [ko,ha0,ha1];simp [Br hT,Br hdx,hz,hlen,hn,hcells,ha,h1]
   refine⟨_,w',hrun,_,⟨some ⟨b,o,none⟩,b,o,c,s.drop (AG ys).length,by rw [f_],⟨.inr rfl,by rw [f_];exact hn⟩,?_,rfl⟩,?_⟩
   ·rw [f_,List.length_drop,By,np];omega
   ·unfold AB;rw [E7,nf,HP.Fa,HP.assoc,HP.CV,By xs,←lu (o+xs.length*AC.sz α)];exact h2
 ·
  have hby0:¬inf.bytes=0:=by omega
  have hg:¬281474976710656<Builtin.nextslicecap (xs.length+ys.length) c*inf.bytes:=by
   have:=growslice_fits (old:=c) (by omega) hb;omega
  have hfo:(md (xs.length+ys.length) c e).forced=false:=rfl
  have hold:(d_ (AC.sz α) xs.length (.slice p xs.length c)).run P w.drew=.ok (AG xs).toArray w.drew:=by
   have hwd:Sat B (AB b o xs s*R) w.drew:=hw.Il;rcases hs.1 with h1|rfl
   ·have hx0:xs=[]:=g'.1 (by have:=hs.2;omega);subst hx0;cases p<;>simp [d_,AG,loadCells,loadCellsFrom]
   ·simp only [d_];exact Ai.run (H:=AB b o xs s*R) inferInstance hwd
  have hnew:=hx' w.drew hw.Il
  obtain⟨N,hN⟩:∃N,N=(md (xs.length+ys.length) c e).cut (w.tape w.drawn (md (xs.length+ys.length) c e)):=⟨_,rfl⟩
  have hle:xs.length+ys.length≤N:=by rw [hN];simp [ox]
  have hrun:(ko ats ty #[.slice p xs.length c,x]).run P w=.ok (.slice (some ⟨w.heap.size,0,none⟩) (xs.length+ys.length) N)
    (w.drew.alloc (.cells ((AG xs).toArray++((AG ys).toArray++kg z.cells (N-(xs.length+ys.length)))) e)):=by
   simp only [ko,ha0,ha1];simp [Br hT,Br hdx,hz,hlen,hn,hinf,hby0,hg,hfo,hold,hnew,h0,newRow,←hN]
  have hcm:=l_ (AC.sz α) hle;have hall:=(show Sat B (AB b o xs s*R) w.drew from hw.Il).alloc ((AG xs).toArray++((AG ys).toArray++kg z.cells (N-(xs.length+ys.length)))) e;refine⟨_,_,hrun,_,⟨some ⟨w.heap.size,0,none⟩,w.heap.size,0,N,(kg z.cells (N-(xs.length+ys.length))).toList,by rw [f_],⟨.inr rfl,by rw [f_];exact hle⟩,?_,rfl⟩,?_⟩
  ·have e1:(kg z.cells (N-(xs.length+ys.length))).toList.length=(N-(xs.length+ys.length))*AC.sz α:=by rw [←hzc];simp [kg]
   rw [f_,e1,Nat.sub_mul];omega
  ·have e2:((AG xs).toArray++((AG ys).toArray++kg z.cells (N-(xs.length+ys.length)))).toList=AG xs++(AG ys++(kg z.cells (N-(xs.length+ys.length))).toList):=by simp
   rw [e2,HP.CV]at hall;unfold AB;rw [E7,nf];exact hall.right
theorem DG{n:Nat}{E:A5}{D:B6}{R:HP}{d:Option Tmp}{sT xT ty e by_:Nat}{pos:String}{af:Array Edge}{g:Option (Nat×Bool)}{x y:Operand}{b o bb oo cc c:Nat}{p pp:Option Addr}
  {xs ys:List α}{s:List Value}{z:Value}[hT:Az P sT (.slice e)][hT2:Az P xT (.slice e)][hz:Bp P e (AC.sz α)][hi:FP P e by_][h0:Bb P e z]
  (hx:ev E x=some (.slice p xs.length c))(hs:Sl p b o xs.length c)(hc:xs.length*AC.sz α+s.length=c*AC.sz α)
  (hy:ev E y=some (.slice pp ys.length cc))(hs2:Sl pp bb oo ys.length cc)(hr:Ai B (AB b o xs s*R) bb oo ys)(hzc:z.cells.size=AC.sz α)
  (hb:(xs.length+ys.length)*by_≤140737488355328)(hby:0<by_):
  CU P B n ⟨d,.call ⟨.builtin .append,#[x,y],#[sT,xT]⟩,ty,pos,af,g⟩ E D (AB b o xs s*R) (fun v H'=>CB R (xs++ys) v H'):=by
 intro a w h1 _ h3 K Q hk
 have hf:∀w',Sat B (AB b o xs s*R) w'→(d_ (AC.sz α) ys.length (.slice pp ys.length cc)).run P w'=.ok (AG ys).toArray w':=by
  intro w' hw';rcases hs2.1 with h4|rfl
  ·have hx0:ys=[]:=g'.1 (by have:=hs2.2;omega);subst hx0;cases pp<;>simp [d_,AG,loadCells,loadCellsFrom]
  ·simp only [d_];exact hr.run hw'
 obtain⟨v,w',hrun,H',hH,hw'⟩:=Zc (P:=P) (B:=B) (R:=R) (b:=b) (o:=o) (p:=p) (c:=c) (xs:=xs) (ys:=ys) (s:=s) (sT:=sT) (xT:=xT) (ats:= #[sT,xT]) (e:=e) (by_:=by_) (ty:=ty)
  (x:=.slice pp ys.length cc) (w:=w) (z:=z) hT.get rfl rfl (fun k h=>by rw [hT2.get]at h;cases h) ⟨_,hT2.get⟩ hz.get hi.get h0.get hzc hs hc rfl
  (fun w2 hw2=>hf w2 hw2) hb hby h3
 have hrun2:(execOp a.eval ⟨d,.call ⟨.builtin .append,#[x,y],#[sT,xT]⟩,ty,pos,af,g⟩).run P w=.ok (.value v) w':=by
  simp [execOp,resolve,h1.ev hx,h1.ev hy,invoke,builtin,hrun]
 simp only [kt,hrun2,h_];exact hk v H' w' hH hw'
end
end
section
def Jv(E:A5):List (Nat×Operand)→Option (List (Nat×Value))
 |[]=>some []
 |(i,x)::r=>match ev E x with
  |some v=>match Jv E r with
   |some vs=>some ((i,v)::vs)
   |none=>none
  |none=>none
theorem UD{n:Nat}{E:A5}{a:Act}(h:DA n E a):∀{xs:List (Nat×Operand)} {vs:List (Nat×Value)},Jv E xs=some vs→xs.map (fun(i,x)=>(i,a.eval x))=vs:=by
 intro xs
 induction xs with
 |nil=>intro vs e;simpa [Jv]using e
 |cons x r ih=>
  obtain⟨i,x⟩:=x;intro vs e;simp only [Jv]at e
  cases hx:ev E x with
  |none=>simp [hx]at e
  |some v=>
   cases hr:Jv E r with
   |none=>simp [hx,hr]at e
   |some us=>
    simp only [hx,hr,lf.injEq]at e;subst e;simp [h.ev hx,ih hr]
def AW(xs:List UInt8):ByteArray:=⟨xs.toArray⟩
@[simp] theorem EI(xs:List UInt8):(AW xs).size=xs.length:=by simp [AW,ByteArray.size]
theorem Q? (s t:ByteArray):(s.toList==t.toList)=decide (s=t):=by
 rw [ByteArray.toList_eq,ByteArray.toList_eq];by_cases h:s=t
 ·subst h;simp
 ·have:¬s.data=t.data:=fun e=>h (by cases s;cases t;simp_all)
  simp [h,this]
section
variable{P:Program}{B:World}{n:Nat}{E:A5}{D:B6}{H R:HP}{d:Option Tmp}{T T' ty:TypeId}{pos:String}{af:Array Edge}{g:Option (Nat×Bool)}{x y z:Operand}{α:Type}[AC α]
theorem HD{len sz e:Nat}{ps:List (Nat×Operand)}{vs:List (Nat×Value)}{zv:Value}{cs:List Value}[hT:Az P T (.slice e)][hz:Bp P e sz][h0:Bb P e zv]
  (hx:Jv E ps=some vs)(hf:mn (fun i=>some (i*sz,sz)) ((mx (len*sz)).map fun i=>zv.cells[i%zv.cells.size]!) vs=some cs.toArray)(hb:oz (len*sz) 16777216=true)(hp:ku 0 (len*sz)=true):
  CU P B n ⟨d,.buildSlice T len ps.toArray,ty,pos,af,g⟩ E D H (fun v H'=>∃b,v=.slice (some ⟨b,0,none⟩) len len∧H'=HP.AA b 0 cs*H):=by
 intro a w h1 _ h3 K Q hk
 have hb':¬len*sz> 2^24:=by have:=mv hb;omega
 have hp':¬len*sz=0:=by
  have:0<len*sz:=by simpa using hp
  omega
 have hm:(ps.toArray.map fun(i,x)=>(i,a.eval x)).toList=vs:=by
  rw [g_];exact UD h1 hx
 have hrun:(execOp a.eval ⟨d,.buildSlice T len ps.toArray,ty,pos,af,g⟩).run P w=.ok (.value (.slice (some ⟨w.heap.size,0,none⟩) len len)) (w.alloc (.cells cs.toArray e)):=by
  simp only [execOp,nh,b_,Br hT.get,a_,hz.get,hb',if_false,hp',h0.get,c_,hm,hf,newRow];rfl
 simp only [kt,hrun,h_];exact hk _ _ _ ⟨w.heap.size,rfl,rfl⟩ (h3.alloc cs.toArray e)
theorem tL{e by_ c:Nat}{zv:Value}{ik jk:IntKind}[hT:Az P T (.slice e)][hz:Bp P e (AC.sz α)][hi:FP P e by_][h0:Bb P e zv]
  (hx:ev E x=some (.int ik (0:Nat)))(hy:ev E y=some (.int jk c))(hb:c*by_≤140737488355328∧c<9223372036854775808):
  CU P B n ⟨d,.makeSlice T x y,ty,pos,af,g⟩ E D H (fun v H'=>CB (α:=α) H [] v H'):=by
 intro a w h1 _ h3 K Q hk;obtain⟨inf,hinf,rfl⟩:=hi.get;have w0:IntKind.i64.wrap ((0:Nat):Int)=0:=rfl;have w1:IntKind.i64.wrap (c:Int)=c:=PY hb.2
 have hc0:¬(c:Int)<0:=by omega
 have hc1:¬(281474976710656:Int)<inf.bytes*c:=by
  rw [←Int.natCast_mul,Nat.mul_comm];omega
 let zs:=(mx (c*AC.sz α)).map fun i=>zv.cells[i%zv.cells.size]!
 have hrun:∃cs:Array Value,cs.size=c*AC.sz α∧(execOp a.eval ⟨d,.makeSlice T x y,ty,pos,af,g⟩).run P w=.ok (.value (.slice (some ⟨w.heap.size,0,none⟩) 0 c)) (w.alloc (.cells cs e)):=by
  by_cases hn:c*AC.sz α=0
  ·refine⟨#[],by simp [hn],?_⟩;simp only [execOp,h1.ev hx,h1.ev hy,nv,b_,Br hT.get,a_,asInt,asIntOf,c_,hinf,w0,w1,newRow];simp [hc0,hc1,hn,hz.get]
   have:Array.map (fun _=>(default:Value)) (mx 0)= #[]:=by simp
   rw [this]
  ·refine⟨zs,by simp [zs],?_⟩;simp only [execOp,h1.ev hx,h1.ev hy,nv,b_,Br hT.get,a_,asInt,asIntOf,c_,hinf,w0,w1,newRow];simp [hc0,hc1,hn,h0.get,zs,hz.get]
 obtain⟨cs,hcs,hrun⟩:=hrun;simp only [kt,hrun,h_];refine hk _ _ _ ⟨some ⟨w.heap.size,0,none⟩,w.heap.size,0,c,cs.toList,rfl,⟨.inr rfl,Nat.zero_le _⟩,by simp [hcs],rfl⟩ ?_
 have:=h3.alloc cs e
 simpa [AB,AG]using this
theorem Vw{e:TypeId}{s:ByteArray}[hT:Az P T .string][hT2:Az P T' (.slice e)][hE:Az P e (.int .u8)](hx:ev E x=some (.string s)):
  CU P B n ⟨d,.convert T T' x,ty,pos,af,g⟩ E D H (fun v H'=>CB H s.data.toList v H'):=by
 intro a w h1 _ h3 K Q hk
 have hrun:(execOp a.eval ⟨d,.convert T T' x,ty,pos,af,g⟩).run P w=.ok (.value (.slice (some ⟨w.heap.size,0,none⟩) s.size (grownCap w s.size 0 e)))
   (w.drew.alloc (.cells (bytesRow s (grownCap w s.size 0 e)) e ((bytesRow s (grownCap w s.size 0 e)).size,(bytesRow s (grownCap w s.size 0 e)).size+1))):=by
  simp only [execOp,h1.ev hx,b_,run_bytes_of_string w T T' e s hT.get hT2.get hE.get,a_,c_]
 have hle:s.size≤grownCap w s.size 0 e:=by simp [grownCap,ox]
 have hsz:s.data.toList.length=s.size:=by rw [Array.length_toList];rfl
 simp only [kt,hrun,h_];refine hk _ _ _ ⟨some ⟨w.heap.size,0,none⟩,w.heap.size,0,grownCap w s.size 0 e,me (grownCap w s.size 0 e-s.size) (.int .u8 0),by rw [hsz],⟨.inr rfl,by rw [hsz];exact hle⟩,?_,rfl⟩ ?_
 ·rw [hsz,List.length_replicate,Rw];omega
 ·have:=(show Sat B H w.drew from h3.Il).gH (bytesRow s (grownCap w s.size 0 e)) e (bytesRow s (grownCap w s.size 0 e)).size ((bytesRow s (grownCap w s.size 0 e)).size+1) (.inr (nk _))
  have e1:(bytesRow s (grownCap w s.size 0 e)).toList=AG s.data.toList++me (grownCap w s.size 0 e-s.size) (.int .u8 0):=by
   simp only [bytesRow,Array.toList_append,Array.toList_map,Array.toList_replicate,AG];congr 1
   induction s.data.toList with
   |nil=>rfl
   |cons b l ih=>simp only [lz,k_,ih];rfl
  rw [e1]at this;exact this
theorem My{e b o c:Nat}{p:Option Addr}{xs:List UInt8}[hT:Az P T (.slice e)][hT2:Az P T' .string][hE:Az P e (.int .u8)](hx:ev E x=some (.slice p xs.length c))
  (hs:Sl p b o xs.length c)(hr:Ai B H b o xs):Af P B n ⟨d,.convert T T' x,ty,pos,af,g⟩ E H (.string (AW xs)):=by
 intro a w he hw;simp only [execOp,he.ev hx,b_];rcases hs.1 with h1|rfl
 ·have hx0:xs=[]:=g'.1 (by have:=hs.2;omega);subst hx0
  cases p with
  |none=>
   rw [run_convert_bytes_string w T T' e none _ c hT.get hE.get hT2.get];rfl
  |some q=>
   rw [run_convert_bytes_back w T T' e q c [] hT.get hE.get hT2.get (fun j hj=>by simp at hj)];rfl
 ·rw [run_convert_bytes_back w T T' e ⟨b,o,none⟩ c xs hT.get hE.get hT2.get (fun j hj=>?_)]
  ·rfl
  ·have:=hr.get j 0 (u8 xs[j]) (by simp [o_,kq hj]) hj w hw
   simp only [Rw,ma,lu]at this;by_cases hj0:j=0
   ·subst hj0;simpa [kf]using this
   ·simpa [kf,hj0]using this
theorem jM{sT xT e b o bb oo dl dc cc:Nat}{p pp:Option Addr}{ys:List α}{l:List Value}[hT:Az P sT (.slice e)][hz:Bp P e (AC.sz α)]
  (hx:ev E x=some (.slice p dl dc))(hs:Sl p b o dl dc)(hy:ev E y=some (.slice pp ys.length cc))(hs2:Sl pp bb oo ys.length cc)(hr:Ai B (HP.AA b o l*R) bb oo ys)
  (hl:dl*AC.sz α≤l.length):
  CU P B n ⟨d,.call ⟨.builtin .copy,#[x,y],#[sT,xT]⟩,ty,pos,af,g⟩ E D (HP.AA b o l*R)
   (fun v H'=>v=.int .i64 (min ys.length dl:Nat)∧H'=HP.AA b o (AG (ys.take (min ys.length dl))++l.drop (min ys.length dl*AC.sz α))*R):=by
 intro a w h1 _ h3 K Q hk;have hm:Nat.min ys.length dl=min ys.length dl:=rfl
 have hlen:(ys.take (min ys.length dl)).length=min ys.length dl:=by simp
 have hr':Ai B (HP.AA b o l*R) bb oo (ys.take (min ys.length dl)):=by
  have:=hr.sub 0 (min ys.length dl) (Nat.min_le_left ..)
  simpa using this
 have hf:(d_ (AC.sz α) (min ys.length dl) (.slice pp ys.length cc)).run P w=.ok (AG (ys.take (min ys.length dl))).toArray w:=by
  rcases hs2.1 with h4|rfl
  ·have hx0:ys=[]:=g'.1 (by have:=hs2.2;omega);subst hx0;cases pp<;>simp [d_,AG,loadCells,loadCellsFrom]
  ·simp only [d_]
   have:=hr'.run (P:=P) h3
   rwa [hlen]at this
 have hw2:∃w',((match p with|some q=>storeCells q (AG (ys.take (min ys.length dl)))|none=>pure ()).run P w)=.ok () w'∧
   Sat B (HP.AA b o (AG (ys.take (min ys.length dl))++l.drop (min ys.length dl*AC.sz α))*R) w':=by
  rcases hs.1 with h4|rfl
  ·have hd0:min ys.length dl=0:=by have:=hs.2;omega
   rw [hd0];refine⟨w,?_,by simpa [AG]using h3⟩;cases p<;>simp [AG,storeCells]
  ·have hcm:=l_ (AC.sz α) (Nat.min_le_right ys.length dl);obtain⟨w',k1,k2⟩:=Sat.Jw (P:=P) (AG (ys.take (min ys.length dl))) o 0 l R w (by rw [By,hlen];omega) (KS _) h3;rw [By,hlen]at k2;exact⟨w',k1,k2⟩
 obtain⟨w',k1,k2⟩:=hw2
 have hrun:(execOp a.eval ⟨d,.call ⟨.builtin .copy,#[x,y],#[sT,xT]⟩,ty,pos,af,g⟩).run P w=.ok (.value (.int .i64 (min ys.length dl:Nat))) w':=by
  simp only [execOp,resolve,g_,lz,List.map_nil,h1.ev hx,h1.ev hy,b_,c_,a_,invoke,builtin];simp only [Builtin.copy_];simp [Br hT.get,om,hm,hz.get,hf];cases p<;>simp_all [goInt]
 simp only [kt,hrun,h_];exact hk _ _ _ ⟨rfl,rfl⟩ k2
theorem Tn{s t:ByteArray}(hx:ev E x=some (.string s))(hy:ev E y=some (.string t)):
  Af P B n ⟨d,.binOp .neq T x y T',ty,pos,af,g⟩ E H (.bool (decide (s≠t))):=by
 intro a w he _;simp only [execOp,he.ev hx,he.ev hy,b_,binOp_string_neq,Q?]
 have:(!decide (s=t))=decide (s≠t):=by simp
 rw [this];rfl
end
end
section
abbrev u64(x:UInt64):Value:=.int .u64 (x.toNat:Nat)
@[reducible] instance:AC UInt64:=⟨1,fun b=>[u64 b],0,fun _=>rfl,fun _ v h=>by rw [kv.1 h];rfl⟩
theorem Z7(j:Nat)(h:j<64):(ll j).toNat%64=j:=by
 rw [UInt64.toNat_ofNat'];omega
section
variable{P:Program}{B:World}{n:Nat}{E:A5}{H:HP}{d:Option Tmp}{T T' ty:TypeId}{pos:String}{af:Array Edge}{g:Option (Nat×Bool)}{x y:Operand}
theorem wC{a b:UInt64}(hx:ev E x=some (u64 a))(hy:ev E y=some (u64 b)):Af P B n ⟨d,.binOp .add T x y T',ty,pos,af,g⟩ E H (u64 (a+b)):=by
 have:=Z? (P:=P) (B:=B) (n:=n) (H:=H) (d:=d) (T:=T) (T':=T') (ty:=ty) (pos:=pos) (af:=af) (g:=g) hx hy
 rw [show u64 (a+b)=.int .u64 ((a.toNat+b.toNat)%18446744073709551616:Nat) by rw [u64,UInt64.toNat_add]];exact this
theorem M7{a b:UInt64}(hx:ev E x=some (u64 a))(hy:ev E y=some (u64 b)):Af P B n ⟨d,.binOp .xor T x y T',ty,pos,af,g⟩ E H (u64 (a ^^^b)):=by
 have:=rF (P:=P) (B:=B) (n:=n) (H:=H) (d:=d) (T:=T) (T':=T') (ty:=ty) (pos:=pos) (af:=af) (g:=g) hx hy ⟨a.toNat_lt,b.toNat_lt⟩
 rw [show u64 (a ^^^b)=.int .u64 (a.toNat ^^^b.toNat:Nat) by rw [u64,UInt64.toNat_xor]];exact this
theorem Va{a b:UInt64}(hx:ev E x=some (u64 a))(hy:ev E y=some (u64 b)):Af P B n ⟨d,.binOp .or T x y T',ty,pos,af,g⟩ E H (u64 (a|||b)):=by
 have:=Yt (P:=P) (B:=B) (n:=n) (H:=H) (d:=d) (T:=T) (T':=T') (ty:=ty) (pos:=pos) (af:=af) (g:=g) hx hy ⟨a.toNat_lt,b.toNat_lt⟩
 rw [show u64 (a|||b)=.int .u64 (a.toNat|||b.toNat:Nat) by rw [u64,UInt64.toNat_or]];exact this
theorem UT{a:UInt64}{k:IntKind}{j:Nat}(hx:ev E x=some (u64 a))(hy:ev E y=some (.int k j))(h:j<64):
  Af P B n ⟨d,.binOp .shl T x y T',ty,pos,af,g⟩ E H (u64 (a<<< ll j)):=by
 have:=RK (P:=P) (B:=B) (n:=n) (H:=H) (d:=d) (T:=T) (T':=T') (ty:=ty) (pos:=pos) (af:=af) (g:=g) hx hy (by omega)
 rw [show u64 (a<<< ll j)=.int .u64 (a.toNat*2^j%18446744073709551616:Nat) by
  rw [u64,UInt64.toNat_shiftLeft,Z7 j h,Nat.shiftLeft_eq]];exact this
theorem KK{a:UInt64}{k:IntKind}{j:Nat}(hx:ev E x=some (u64 a))(hy:ev E y=some (.int k j))(h:j<64):
  Af P B n ⟨d,.binOp .shr T x y T',ty,pos,af,g⟩ E H (u64 (a>>> ll j)):=by
 have:=Je (P:=P) (B:=B) (n:=n) (H:=H) (d:=d) (T:=T) (T':=T') (ty:=ty) (pos:=pos) (af:=af) (g:=g) hx hy (by omega)
 rw [show u64 (a>>> ll j)=.int .u64 (a.toNat/2^j:Nat) by
  rw [u64,UInt64.toNat_shiftRight,Z7 j h,Nat.shiftRight_eq_div_pow]];exact this
theorem Ym{a b:UInt8}(hx:ev E x=some (u8 a))(hy:ev E y=some (u8 b)):Af P B n ⟨d,.binOp .xor T x y T',ty,pos,af,g⟩ E H (u8 (a ^^^b)):=by
 have:=wU (P:=P) (B:=B) (n:=n) (H:=H) (d:=d) (T:=T) (T':=T') (ty:=ty) (pos:=pos) (af:=af) (g:=g) hx hy ⟨a.toNat_lt,b.toNat_lt⟩
 rw [show u8 (a ^^^b)=.int .u8 (a.toNat ^^^b.toNat:Nat) by rw [u8,UInt8.toNat_xor]];exact this
theorem Z2{a:UInt8}[h1:Az P T (.int .u8)][h2:Az P T' (.int .u64)](hx:ev E x=some (u8 a)):Af P B n ⟨d,.convert T T' x,ty,pos,af,g⟩ E H (u64 a.toUInt64):=by
 have:=KP (P:=P) (B:=B) (n:=n) (H:=H) (d:=d) (T:=T) (T':=T') (ty:=ty) (pos:=pos) (af:=af) (g:=g) hx (Mv (by have:=a.toNat_lt;omega))
 rw [show u64 a.toUInt64=.int .u64 (a.toNat:Nat) by rw [u64,UInt8.toNat_toUInt64]];exact this
theorem lW{a:UInt64}[h1:Az P T (.int .u64)][h2:Az P T' (.int .u8)](hx:ev E x=some (u64 a)):Af P B n ⟨d,.convert T T' x,ty,pos,af,g⟩ E H (u8 a.toUInt8):=by
 have:=VS (P:=P) (B:=B) (n:=n) (H:=H) (d:=d) (T:=T) (T':=T') (ty:=ty) (pos:=pos) (af:=af) (g:=g) hx
 rw [show u8 a.toUInt8=.int .u8 (a.toNat%256:Nat) by rw [u8,UInt64.toNat_toUInt8]];exact this
theorem dU{i:Nat}[h1:Az P T (.int .i64)][h2:Az P T' (.int .u8)](hx:ev E x=some (.int .i64 i)):Af P B n ⟨d,.convert T T' x,ty,pos,af,g⟩ E H (u8 (UInt8.ofNat i)):=by
 have:=VS (P:=P) (B:=B) (n:=n) (H:=H) (d:=d) (T:=T) (T':=T') (ty:=ty) (pos:=pos) (af:=af) (g:=g) hx
 rw [show u8 (UInt8.ofNat i)=.int .u8 (i%256:Nat) by rw [u8,UInt8.toNat_ofNat']];exact this
end
def MB(x:UInt64)(k:Nat):UInt64:=(x<<< ll k)|||(x>>> ll (64-k))
structure S4 where
 a:UInt64
 b:UInt64
 c:UInt64
 d:UInt64
@[reducible] def s4(v:S4):List Value:=[u64 v.a,u64 v.b,u64 v.c,u64 v.d]
def iL(v:S4):S4:=
 let a:=v.a+v.b
 let b:=MB v.b 13 ^^^a
 let a:=MB a 32
 let c:=v.c+v.d
 let d:=MB v.d 16 ^^^c
 let a:=a+d
 let d:=MB d 21 ^^^a
 let c:=c+b
 let b:=MB b 17 ^^^c
 ⟨a,b,MB c 32,d⟩
def KT:Nat→S4→S4
 |0,v=>v
 |n+1,v=>KT n (iL v)
theorem r5(n:Nat)(v:S4):KT (n+1) v=iL (KT n v):=by
 induction n generalizing v with
 |zero=>rfl
 |succ n ih=>rw [KT,ih];rfl
end
section
abbrev ptr(b o:Nat):Value:=.pointer (some ⟨b,o,none⟩)
abbrev iN(n:Nat):Value:=.int .i64 (n:Nat)
class Ex(P:Program)(t:TypeId)(pl:outParam (Array (Nat×Nat))):Prop where
 get:∃fs,P.underlying t=some (.struct fs)∧∀w,(fs.mapM fun f=>do pure (f.offset,←sizeOf f.type):Sem (Array (Nat×Nat))).run P w=.ok pl w
instance{α:Type}[AC α](B:World)(b o:Nat)(xs:List α):Ai B (HP.AA b o (AG xs)) b o xs:=
 ⟨fun i f v h hi w hw=>(inferInstance:Ai B (AB b o xs []) b o xs).get i f v h hi w (by unfold AB;rw [List.append_nil];exact hw)⟩
theorem Ai.Ke{α:Type}[AC α]{B:World}{H:HP}{b o:Nat}{xs:List α}(h:Ai B H b o xs)(l:Nat):Ai B H b (o+l*AC.sz α) (xs.drop l):=by
 have:=h.sub l xs.length (nk _)
 rwa [List.take_length]at this
instance(B:World)(H:HP)(b o l:Nat)(xs:List UInt8)[h:Ai B H b o xs]:Ai B H b (o+l*1) (xs.drop l):=h.Ke l
theorem Ai.bd{B:World}{H:HP}{b o:Nat}{xs:List UInt8}(h:Ai B H b o xs)(l:Nat):Ai B H b (o+l) (xs.drop l):=by
 have:Ai B H b (o+l*1) (xs.drop l):=inferInstance
 rwa [ma]at this
instance{α:Type}[AC α](B:World)(H:HP)(b o l:Nat)(xs:List α)[h:Ai B H b o xs]:Ai B H b o (xs.take l):=by
 rcases lh xs.length l with h1|h1
 ·rw [List.take_of_length_le (by omega)];exact h
 ·have:=h.sub 0 l h1
  simpa using this
theorem bU:∀(xs:List UInt8) (i:Nat) (v:UInt8),AG (xs.set i v)=(AG xs).set i (u8 v)
 |[],_,_=>rfl
 |x::xs,0,v=>rfl
 |x::xs,i+1,v=>by
  have:=bU xs i v
  simp only [my];simp only [AG,k_,nG,List.singleton_append,my]at*;rw [this]
instance(b o i:Nat)(xs:List UInt8)(s:List Value)(v:UInt8):C3 (AB b o xs s) b (o+i*1) (u8 v) (AB b o (xs.set i v) s) (i<xs.length):=
 ⟨fun r hr hi=>by
  have hfl:(AG xs).length=xs.length:=by rw [By];simp
  have h:MM (AG xs++s) i (u8 v) ((AG xs++s).set i (u8 v)):=⟨by rw [f_];omega,rfl⟩
  have h2:=(inferInstance:C3 (HP.AA b o (AG xs++s)) b (o+i) (u8 v) (HP.AA b o ((AG xs++s).set i (u8 v))) True).upd r hr trivial
  rw [ma]
  refine⟨h2.1,?_⟩
  have e:AG (xs.set i v)++s=(AG xs++s).set i (u8 v):=by rw [bU,List.set_append_left _ _ (by omega)]
  unfold AB
  rw [e]
  exact h2.2⟩
section
variable{P:Program}{B:World}{n:Nat}{E:A5}{D:B6}{H:HP}{d:Option Tmp}{T T' ty:TypeId}{pos:String}{af:Array Edge}{g:Option (Nat×Bool)}{x y z:Operand}
theorem uX{pl:Array (Nat×Nat)}{z:Value}{ps:List (Nat×Operand)}{vs:List (Nat×Value)}{cs:List Value}[hT:Ex P T pl][hz:Bb P T z]
  (hx:Jv E ps=some vs)(hf:mn (pl[·]?) z.cells vs=some cs.toArray):Af P B n ⟨d,.build T ps.toArray,ty,pos,af,g⟩ E H (.agg cs.toArray):=by
 intro a w he _;obtain⟨fs,h1,h2⟩:=hT.get
 have hm:(ps.toArray.map fun(i,x)=>(i,a.eval x)).toList=vs:=by rw [g_];exact UD he hx
 simp only [execOp,nr,b_,hz.get,a_,Br h1,h2,hm,hf,c_]
theorem ec{f:Go.Fn}{xs ys:List Operand}{us vs:List Value}(h1:DW E xs=some us)(h2:DW E ys=some vs):
  Af P B n ⟨d,.makeFunc f xs.toArray ys.toArray,ty,pos,af,g⟩ E H (.func f us.toArray vs.toArray):=by
 intro a w he _;simp only [execOp,Instr.makeFunc,g_,H4 he h1,H4 he h2];rfl
theorem RU{b o len k:Nat}{e sz:Nat}[hT:Az P T (.array len e)][hz:Bp P e sz](hx:ev E x=some (.pointer (some ⟨b,o,none⟩)))(h:k=len):
  Af P B n ⟨d,.slice T x none none none,ty,pos,af,g⟩ E H (.slice (some ⟨b,o,none⟩) k len):=by subst h;exact gw hx
theorem fk{b o len l k:Nat}{e sz:Nat}{ik:IntKind}[hT:Az P T (.array len e)][hz:Bp P e sz](hx:ev E x=some (.pointer (some ⟨b,o,none⟩)))(hy:ev E y=some (.int ik l))(h:l≤len)(hk:k=len-l):
  Af P B n ⟨d,.slice T x (some y) none none,ty,pos,af,g⟩ E H (.slice (sp (some ⟨b,o,none⟩) len l sz) k (len-l)):=by subst hk;exact j4 hx hy h
theorem Ps{p:Option Addr}{k k' c sz l:Nat}{e:TypeId}{ik:IntKind}[hT:Az P T (.slice e)][hz:Bp P e sz](hx:ev E x=some (.slice p k c))(hy:ev E y=some (.int ik l))
  (h:l≤k)(hk:k'=k-l):Af P B n ⟨d,.slice T x (some y) none none,ty,pos,af,g⟩ E H (.slice (sp p c l sz) k' (c-l)):=by subst hk;exact LK hx hy h
theorem PB{p:Option Addr}{k k' c sz h:Nat}{e:TypeId}{ik:IntKind}[hT:Az P T (.slice e)][hz:Bp P e sz](hx:ev E x=some (.slice p k c))(hy:ev E y=some (.int ik h))
  (hc:h≤c)(hk:k'=h):Af P B n ⟨d,.slice T x none (some y) none,ty,pos,af,g⟩ E H (.slice p k' c):=by subst hk;exact Sf hx hy hc
theorem Qe{p:Option Addr}{k k' c sz l h:Nat}{e:TypeId}{ik jk:IntKind}[hT:Az P T (.slice e)][hz:Bp P e sz](hx:ev E x=some (.slice p k c))(hy:ev E y=some (.int ik l))(hz':ev E z=some (.int jk h))
  (hc:l≤h∧h≤c)(hk:k'=h-l):Af P B n ⟨d,.slice T x (some y) (some z) none,ty,pos,af,g⟩ E H (.slice (sp p c l sz) k' (c-l)):=by subst hk;exact OK hx hy hz' hc
theorem j9{r:Option Nat}{fn:Func}{Post:Value→HP→Prop}{ts:List Nat}{vs:List Value}(H':HP)(hr:fn.results=(ts.map kx).toArray)(hv:DW E (ts.map Operand.tmp)=some vs)
  [hE:Bz B H H'](hp:Post (FU vs) H'):BI B (IB P B fn Post) .ret n E ⟨[],r⟩ H:=
 fun _ w h1 h2 h3=>⟨h2,_,Ju hr h1 hv w,_,_,rfl,hp,hE.get w h3⟩
theorem Mq{r:Option Nat}{fn:Func}{Post:Value→HP→Prop}{ts:List Nat}{vs:List Value}(H':HP)(hr:fn.results=(ts.map kx).toArray)(hv:DW E (ts.map Operand.tmp)=some vs)
  [hE:Bz B H H'](hp:Post (FU vs) H'):BI B (IB P B fn Post) .normal n E ⟨[],r⟩ H:=
 fun _ w h1 h2 h3=>⟨h2,_,Ju hr h1 hv w,_,_,rfl,hp,hE.get w h3⟩
theorem Hy{Q:Exit→Act→World→Prop}{c:Code}(H':HP)[hE:Bz B H H'](h:WP P B c Q n E D H'):WP P B c Q n E D H:=fun a w h1 h2 h3=>h a w h1 h2 (hE.get w h3)
theorem zA{ops:Array Oper}{Q:Exit→Act→World→Prop}{l:List Oper}(H':HP)[hE:Bz B H H'](h:WL P B ops Q l n E D H'):WL P B ops Q l n E D H:=fun a w h1 h2 h3=>h a w h1 h2 (hE.get w h3)
theorem Bo{Q:Exit→Act→World→Prop}{e:Exit}(H':HP)[hE:Bz B H H'](h:BI B Q e n E D H'):BI B Q e n E D H:=fun a w h1 h2 h3=>h a w h1 h2 (hE.get w h3)
theorem D2{Q:Exit→Act→World→Prop}{e:Exit}{H':HP}(he:H=H')(h:BI B Q e n E D H'):BI B Q e n E D H:=he▸h
end
theorem Fn.drop{P:Program}{B:World}{f:FuncId}{args:List Value}{H:HP}{A C:Value→HP→Prop}(h:Fn P B f args H A)(hc:∀v H',A v H'→∃H'',C v H''∧∀w,Sat B H' w→Sat B H'' w):Fn P B f args H C:=
 fun w hw=>(h w hw).mono fun _ _ ⟨v,H',e,a,s⟩=>let⟨H'',c,i⟩:=hc v H' a;⟨v,H'',e,c,i _ s⟩
theorem Fn.pre{P:Program}{B:World}{f:FuncId}{args:List Value}{H H':HP}{A:Value→HP→Prop}(e:H=H')(h:Fn P B f args H' A):Fn P B f args H A:=e▸h
end
section
def IZ:List (Nat×Operand)→Nat→Option Operand
 |[],_=>none
 |(i,x)::r,k=>bif mg i k then some x else IZ r k
def Ik(E:A5)(ps:List (Nat×Operand)):Nat→List Value→Option (List Value)
 |_,[]=>some []
 |k,z::zs=>match IZ ps k with
  |some x=>match ev E x with
   |some v=>match Ik E ps (k+1) zs with
    |some r=>some (v::r)
    |none=>none
   |none=>none
  |none=>match Ik E ps (k+1) zs with
   |some r=>some (z::r)
   |none=>none
theorem fT{E:A5}{ps:List (Nat×Operand)}:∀{zs:List Value} {k:Nat} {cs:List Value},Ik E ps k zs=some cs→cs.length=zs.length∧∀j,j<zs.length→
  match IZ ps (k+j)with
  |some x=>∃v,ev E x=some v∧cs[j]?=some v
  |none=>cs[j]?=zs[j]?
 |[],k,cs,h=>by simp only [Ik,lf.injEq]at h;subst h;exact⟨rfl,fun j hj=>by simp at hj⟩
 |z::zs,k,cs,h=>by
  simp only [Ik]at h
  cases hr:Ik E ps (k+1) zs with
  |none=>simp only [hr]at h;split at h<;>first|(split at h<;>cases h)|cases h
  |some r=>
   obtain⟨h1,h2⟩:=fT hr;simp only [hr]at h
   cases hf:IZ ps k with
   |none=>
    simp only [hf,lf.injEq]at h;subst h;refine⟨by simp [h1],fun j hj=>?_⟩
    cases j with
    |zero=>simp [hf]
    |succ j=>
     have:=h2 j (by simpa using hj)
     rw [show k+1+j=k+(j+1) by omega]at this;simpa using this
   |some x=>
    simp only [hf]at h
    cases hx:ev E x with
    |none=>simp [hx]at h
    |some v=>
     simp only [hx,lf.injEq]at h;subst h;refine⟨by simp [h1],fun j hj=>?_⟩
     cases j with
     |zero=>simp only [lu,hf];exact⟨v,hx,rfl⟩
     |succ j=>
      have:=h2 j (by simpa using hj)
      rw [show k+1+j=k+(j+1) by omega]at this;simpa using this
theorem aJ(place:Nat→Option (Nat×Nat)):∀(vs:List (Nat×Value)) (cells:Array Value),(∀p∈vs,place p.1=some (p.1,1)∧p.1<cells.size∧p.2.oneCell'=true)→
  mn place cells vs=some (vs.foldl (fun cs p=>cs.setIfInBounds p.1 p.2) cells)
 |[],_,_=>rfl
 |(i,v)::vs,cells,h=>by
  obtain⟨h1,h2,h3⟩:=h (i,v) (by simp)
  have hc:v.cells= #[v]:=by cases v<;>first|rfl|cases h3
  simp only at h1 h2;simp only [mn,h1,hc];rw [if_neg (by simp;omega)]
  have e:(#[v].zipIdx.foldl (fun cs (c,j)=>cs.setIfInBounds (i+j) c) cells)=cells.setIfInBounds i v:=by simp
  rw [e,aJ place vs _ (fun p hp=>by
   obtain⟨a,b,c⟩:=h p (by simp [hp])
   exact⟨a,by simpa using b,c⟩)]
  rfl
theorem ff(vs:List (Nat×Value)):∀(cells:Array Value) (k:Nat),(vs.map ln).Nodup→(vs.foldl (fun cs p=>cs.setIfInBounds p.1 p.2) cells)[k]?=
  match vs.find? (fun p=>p.1==k)with
  |some p=>if k<cells.size then some p.2 else none
  |none=>cells[k]?:=by
 induction vs with
 |nil=>intro cells k _;rfl
 |cons p vs ih=>
  intro cells k hn;simp only [lz,n_]at hn;simp only [List.foldl_cons];rw [ih _ k hn.2];by_cases hk:p.1=k
  ·have hnone:vs.find? (fun q=>q.1==k)=none:=by
    rw [List.find?_eq_none];intro q hq hqk;exact hn.1 (by rw [hk];simp at hqk;rw [←hqk];exact mb hq)
   simp [hnone,hk,Array.getElem?_setIfInBounds]
  ·have:(p.1==k)=false:=by simp [hk]
   simp only [oa,this]
   cases vs.find? (fun q=>q.1==k)with
   |none=>simp [lx hk]
   |some q=>simp
theorem Uz{n:Nat}{E:A5}{a:Act}{ps:List (Nat×Operand)}{zs cs:List Value}(he:DA n E a)(place:Nat→Option (Nat×Nat))(h:Ik E ps 0 zs=some cs)
  (hn:(ps.map ln).Nodup)(hb:∀i∈ps.map ln,i<zs.length)(hp:∀i,i<zs.length→place i=some (i,1))(ho:∀v∈cs,v.oneCell'=true):
  mn place zs.toArray (ps.map fun(i,x)=>(i,a.eval x))=some cs.toArray:=by
 obtain⟨hl,hg⟩:=fT h
 have hfind:∀(ps:List (Nat×Operand)) (k:Nat),(ps.map fun(i,x)=>(i,a.eval x)).find? (fun p=>p.1==k)=(IZ ps k).map fun x=>(k,a.eval x):=by
  intro ps k
  induction ps with
  |nil=>rfl
  |cons q r ih=>
   obtain⟨i,x⟩:=q;simp only [lz,oa,IZ]
   cases hb:mg i k with
   |true=>obtain rfl:=kj hb;simp
   |false=>
    have:(i==k)=false:=by rw [beq_eq_false_iff_ne];intro h;subst h;simp at hb
    simp only [this,cond_false];exact ih
 have hfst:(ps.map fun(i,x)=>(i,a.eval x)).map ln=ps.map ln:=by rw [ow];rfl
 have hmem:∀(ps:List (Nat×Operand)) (i:Nat) (x:Operand),(ps.map ln).Nodup→(i,x)∈ps→IZ ps i=some x:=by
  intro ps i x hn hm
  induction ps with
  |nil=>simp at hm
  |cons q r ih=>
   obtain⟨j,y⟩:=q;simp only [lz,n_]at hn;rcases ol.1 hm with h1|h1
   ·cases h1;simp [IZ]
   ·have hne:mg j i=false:=by
     cases hb:mg j i with
     |false=>rfl
     |true=>
      obtain rfl:=kj hb;exact absurd (mb (f:=ln) h1) hn.1
    simp only [IZ,hne,cond_false];exact ih hn.2 h1
 rw [aJ place]
 ·congr 1;apply m_;intro k;rw [ff _ _ _ (by rw [hfst];exact hn),hfind];rcases lh k zs.length with hk|hk
  ·have:=hg k hk
   rw [nd]at this
   cases hf:IZ ps k with
   |none=>rw [hf]at this;simpa using this.symm
   |some x=>
    rw [hf]at this;obtain⟨v,h1,h2⟩:=this;simp [hk,he.ev h1,h2]
  ·have h1:cs.toArray[k]?=none:=by simp;omega
   rw [h1]
   cases hf:IZ ps k with
   |none=>simpa using hk
   |some x=>simp;omega
 ·intro p hp';obtain⟨⟨i,x⟩,hm,rfl⟩:=oy.1 hp';have hi:=hb i (mb (f:=ln) hm);refine⟨hp i hi,by simpa using hi,?_⟩
  have:=hg i hi
  rw [nd,hmem ps i x hn hm]at this;obtain⟨v,h1,h2⟩:=this;simp only [he.ev h1];exact ho v (List.mem_of_getElem? h2)
def N6(ps:List (Nat×Operand))(m:Nat):Bool:=decide ((ps.map ln).Nodup)&&ps.all fun p=>ku p.1 m
theorem Sq{ps:List (Nat×Operand)}{m:Nat}(h:N6 ps m=true):(ps.map ln).Nodup∧∀i∈ps.map ln,i<m:=by
 simp only [N6,lj,decide_eq_true_eq,mh]at h;refine⟨h.1,fun i hi=>?_⟩;obtain⟨p,hp,rfl⟩:=oy.1 hi;simpa using h.2 p hp
section
variable{P:Program}{B:World}{n:Nat}{E:A5}{D:B6}{H:HP}{d:Option Tmp}{T T' ty:TypeId}{pos:String}{af:Array Edge}{g:Option (Nat×Bool)}{x y z:Operand}
theorem YG{len e:Nat}{zs cs:List Value}{ps:List (Nat×Operand)}[hT:Az P T (.array len e)][hs:Bp P e 1][hz:Bb P T (.agg zs.toArray)]
  (hx:Ik E ps 0 zs=some cs)(hi:N6 ps zs.length=true)(ho:∀v∈cs,v.oneCell'=true):Af P B n ⟨d,.build T ps.toArray,ty,pos,af,g⟩ E H (.agg cs.toArray):=by
 intro a w he _;obtain⟨h1,h2⟩:=Sq hi;have hf:=Uz he (fun i=>some (i*1,1)) hx h1 h2 (fun i _=>by rw [ma]) ho;simp only [execOp,nr,b_,hz.get,a_,Br hT.get,hs.get,g_,Value.cells,hf,c_]
theorem FV{pl:Array (Nat×Nat)}{zs cs:List Value}{ps:List (Nat×Operand)}[hT:Ex P T pl][hz:Bb P T (.agg zs.toArray)]
  (hx:Ik E ps 0 zs=some cs)(hi:N6 ps zs.length=true)(hp:pl=((od zs.length).map fun i=>(i,1)).toArray)(ho:∀v∈cs,v.oneCell'=true):
  Af P B n ⟨d,.build T ps.toArray,ty,pos,af,g⟩ E H (.agg cs.toArray):=by
 intro a w he _;obtain⟨fs,k1,k2⟩:=hT.get;obtain⟨h1,h2⟩:=Sq hi;have hf:=Uz he (pl[·]?) hx h1 h2 (fun i hi=>by subst hp;simp [hi]) ho;simp only [execOp,nr,b_,hz.get,a_,Br k1,k2,g_,Value.cells,hf,c_]
theorem cd{len e:Nat}{zv:Value}{cs:List Value}{ps:List (Nat×Operand)}[hT:Az P T (.slice e)][hz:Bp P e 1][h0:Bb P e zv]
  (hx:Ik E ps 0 (me len zv)=some cs)(hi:N6 ps len=true)(ho:∀v∈cs,v.oneCell'=true)(hzv:zv.cells= #[zv])(hb:oz len 16777216=true)(hp:ku 0 len=true):
  CU P B n ⟨d,.buildSlice T len ps.toArray,ty,pos,af,g⟩ E D H (fun v H'=>∃b,v=.slice (some ⟨b,0,none⟩) len len∧H'=HP.AA b 0 cs*H):=by
 intro a w h1 _ h3 K Q hk
 have hb':¬len*1> 2^24:=by have:=mv hb;omega
 have hp':¬len*1=0:=by
  have:0<len:=by simpa using hp
  omega
 obtain⟨k1,k2⟩:=Sq hi
 have hz1:((mx (len*1)).map fun i=>zv.cells[i%zv.cells.size]!)=(me len zv).toArray:=by
  rw [hzv,ma];apply m_;intro i;rcases lh i len with h|h
  ·simp [h,Nat.mod_one]
  ·simp [h]
 have hf:=Uz h1 (fun i=>some (i*1,1)) hx k1 (by simpa using k2) (fun i _=>by rw [ma]) ho
 have hrun:(execOp a.eval ⟨d,.buildSlice T len ps.toArray,ty,pos,af,g⟩).run P w=.ok (.value (.slice (some ⟨w.heap.size,0,none⟩) len len)) (w.alloc (.cells cs.toArray e)):=by
  simp only [execOp,nh,b_,Br hT.get,a_,hz.get,hb',if_false,hp',h0.get,c_,g_,hz1,hf,newRow];rfl
 simp only [kt,hrun,h_];exact hk _ _ _ ⟨w.heap.size,rfl,rfl⟩ (h3.alloc cs.toArray e)
end
end
end Go.Proofs.YtgfdlpcdjklcoaaGreatDoor
