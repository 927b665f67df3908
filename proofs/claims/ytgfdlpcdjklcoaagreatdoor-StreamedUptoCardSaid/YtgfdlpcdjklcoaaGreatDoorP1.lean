/- A part of this proof: steps of the program, plain facts; no condition. -/
import Derived.WalkKit
import Derived.OrdersHeld
import Derived.Sort.LoopGhostIn
import Derived.RangeFuncOwn
import Derived.RangeFuncLeaves
import Derived.OrdersIn
namespace Go.Proofs.YtgfdlpcdjklcoaaGreatDoor
open Go Go.RowKit
open _root_.Go.Result renaming andThen_ok→a_
open _root_.Go.Sem renaming run_bind→b_,run_pure→c_
open _root_.Go.Builtin renaming firstCells→d_,zeroCells→k_,append_→q_,lenOf→Aa6,len_→Aa9
open _root_.Go.Region renaming wanted→e_,ready→i_,binds→xz,free_spec→yv,noSelect→zt
open _root_.List renaming length_append→f_,map_toArray→g_,length_eq_zero_iff→g',getElem?_append_left→o_,getElem?_eq_some_iff→p_,getElem?_eq_getElem→r_,mem_singleton→v_,flatMap_cons→xu,getElem?_append_right→xw,getElem?_eq_none→yi,map_cons→yj,mem_map_of_mem→ym,replicate→yq,all_eq_true→yu,set_cons_succ→zb,append_assoc→zh,nodup_cons→zx,find?_cons→zy,range→Aa1,mem_range→Aa2,mem_cons→Aa5,map_map→Aaa,mem_map→Aac,getD→Aaf
open _root_.Go.Oper renaming upon→h_,wp→t_
open _root_.Go.Instr renaming sureAddr→j_,sliceBounds→q',sliceAt→yb,fill→yx,sliceBound→zi,buildSlice→zj,slice→zo,build→zp,makeSlice→zw,indexAt→Aa3,storeAt→Aa4,loadAt→Aa8
open _root_.Go.Addr renaming add→j'
open _root_.Nat renaming mod_eq_of_lt→l_,eq_of_beq_eq_true→n_,blt→u_,lt_or_ge→xy,add_zero→yf,mul_le_mul_right→yk,mul_one→yl,lt_of_le_of_lt→yo,beq→yt,min_eq_left→yy,div_le_self→yz,le_of_ble_eq_true→y_,succ_mul→zf,zero_add→zg,le_refl→zm,add_mul→zn,ble→Aae
open _root_.Array renaming getElem?_eq_some_iff→m_,getElem?_eq_none→s_,getElem?_modify→xt,all_eq_true_iff_forall_mem→yg,getElem?_setIfInBounds_ne→yh,getElem?_eq_getElem→yr,getElem?_push_lt→yw,range→y',ext_getElem?→zd,getElem_mem→ze,replicate→zu
open _root_.Option renaming map_none→w_,some→xx,map_some→yd,isSome_none→ye,none_or→z_
open _root_.Go.ResultVar renaming tmp→xr
open _root_.Bool renaming and_eq_true→x_,or_eq_true→zr
open _root_.UInt64 renaming ofNat→ya
open _root_.Prod renaming fst→yc
open _root_.Go.IntKind renaming wrap→yn,u64→zk,i64→zl,signed→Aa0,bits→Aa7,u8→Aad
open _root_.Go.Question renaming appendCap→yp,cut→Aab
set_option linter.unusedVariables false
structure As where
 c:Nat→Nat→Option Value
 o:Nat→Option Obj
namespace As
@[ext] theorem ext{r s:As}(h1:∀b i,r.c b i=s.c b i)(h2:∀b,r.o b=s.o b):r=s:=by
 cases r;cases s;simp only [As.mk.injEq];exact⟨funext fun b=>funext fun i=>h1 b i,funext h2⟩
def nil:As:=⟨fun _ _=>none,fun _=>none⟩
def un(r s:As):As:=⟨fun b i=>(r.c b i).or (s.c b i),fun b=>(r.o b).or (s.o b)⟩
def dj(r s:As):Prop:=(∀b i,r.c b i=none∨s.c b i=none)∧(∀b,r.o b=none∨s.o b=none)
theorem dj.symm{r s:As}(h:r.dj s):s.dj r:=⟨fun b i=>(h.1 b i).symm,fun b=>(h.2 b).symm⟩
theorem YJ{r s:As}(h:r.dj s):r.un s=s.un r:=by
 apply ext
 ·intro b i;simp only [un];rcases h.1 b i with e|e<;>simp [e]
 ·intro b;simp only [un];rcases h.2 b with e|e<;>simp [e]
theorem Pa(r s t:As):(r.un s).un t=r.un (s.un t):=by
 apply ext<;>intros<;>simp [un,Option.or_assoc]
theorem Sr(r:As):nil.un r=r:=by apply ext<;>intros<;>simp [un,nil]
theorem yB(r:As):r.un nil=r:=by apply ext<;>intros<;>simp [un,nil]
theorem VL(r:As):nil.dj r:=⟨fun _ _=>.inl rfl,fun _=>.inl rfl⟩
theorem Ms{r s t:As}:r.dj (s.un t)↔r.dj s∧r.dj t:=by
 constructor
 ·intro h;refine⟨⟨fun b i=>?_,fun b=>?_⟩,⟨fun b i=>?_,fun b=>?_⟩⟩
  ·rcases h.1 b i with e|e;exact .inl e;simp [un]at e;exact .inr e.1
  ·rcases h.2 b with e|e;exact .inl e;simp [un]at e;exact .inr e.1
  ·rcases h.1 b i with e|e;exact .inl e;simp [un]at e;exact .inr e.2
  ·rcases h.2 b with e|e;exact .inl e;simp [un]at e;exact .inr e.2
 ·rintro⟨h1,h2⟩;refine⟨fun b i=>?_,fun b=>?_⟩
  ·rcases h1.1 b i with e|e;exact .inl e;rcases h2.1 b i with e'|e';exact .inl e';exact .inr (by simp [un,e,e'])
  ·rcases h1.2 b with e|e;exact .inl e;rcases h2.2 b with e'|e';exact .inl e';exact .inr (by simp [un,e,e'])
theorem X7{r s t:As}:(r.un s).dj t↔r.dj t∧s.dj t:=
 ⟨fun h=>let⟨a,b⟩:=Ms.1 h.symm;⟨a.symm,b.symm⟩,fun⟨a,b⟩=>(Ms.2 ⟨a.symm,b.symm⟩).symm⟩
end As
def HP:Type:=As→Prop
namespace HP
theorem ext{A B:HP}(h:∀r,A r↔B r):A=B:=funext fun r=>propext (h r)
def BQ:HP:=fun r=>r=As.nil
def sep(A B:HP):HP:=fun r=>∃x y,As.dj x y∧r=x.un y∧A x∧B y
def ex{α:Type}(P:α→HP):HP:=fun r=>∃x,P x r
def pr(p:Prop):HP:=fun r=>p∧r=As.nil
end HP
instance:Mul HP:=⟨HP.sep⟩
namespace HP
theorem comm(A B:HP):A*B=B*A:=by
 apply ext;intro r;constructor
 ·rintro⟨x,y,h,rfl,a,b⟩;exact⟨y,x,h.symm,As.YJ h,b,a⟩
 ·rintro⟨x,y,h,rfl,a,b⟩;exact⟨y,x,h.symm,As.YJ h,b,a⟩
theorem assoc(A B C:HP):A*B*C=A*(B*C):=by
 apply ext;intro r;constructor
 ·rintro⟨_,z,h,rfl,⟨x,y,h2,rfl,a,b⟩,c⟩;obtain⟨h3,h4⟩:=As.X7.1 h;exact⟨x,y.un z,As.Ms.2 ⟨h2,h3⟩,As.Pa ..,a,y,z,h4,rfl,b,c⟩
 ·rintro⟨x,_,h,rfl,a,y,z,h2,rfl,b,c⟩;obtain⟨h3,h4⟩:=As.Ms.1 h;exact⟨x.un y,z,As.X7.2 ⟨h4,h2⟩,(As.Pa ..).symm,⟨x,y,h3,rfl,a,b⟩,c⟩
theorem C8(A B C:HP):A*(B*C)=B*(A*C):=by
 rw [←assoc,comm A B,assoc]
instance:Std.Commutative (α:=HP) (·*·):=⟨comm⟩
instance:Std.Associative (α:=HP) (·*·):=⟨assoc⟩
@[simp] theorem BA(A:HP):BQ*A=A:=by
 apply ext;intro r;constructor
 ·rintro⟨_,y,_,rfl,rfl,b⟩;rw [As.Sr];exact b
 ·intro h;exact⟨As.nil,r,As.VL r,(As.Sr r).symm,rfl,h⟩
@[simp] theorem Gb(A:HP):A*BQ=A:=by rw [comm,BA]
theorem HV{α:Type}(P:α→HP)(B:HP):ex P*B=ex fun x=>P x*B:=by
 apply ext;intro r;constructor
 ·rintro⟨x,y,h,rfl,⟨z,a⟩,b⟩;exact⟨z,x,y,h,rfl,a,b⟩
 ·rintro⟨z,x,y,h,rfl,a,b⟩;exact⟨x,y,h,rfl,⟨z,a⟩,b⟩
theorem Y2{p:Prop}{A:HP}{r:As}:(pr p*A) r↔p∧A r:=by
 constructor
 ·rintro⟨x,y,h,rfl,⟨hp,rfl⟩,a⟩;rw [As.Sr];exact⟨hp,a⟩
 ·rintro⟨hp,a⟩;exact⟨As.nil,r,As.VL r,(As.Sr r).symm,⟨hp,rfl⟩,a⟩
def AA(b o:Nat)(l:List Value):HP:=fun r=>r=⟨fun b' i=>if b'=b∧o≤i then l[i-o]? else none,fun _=>none⟩
def obj(b:Nat)(x:Obj):HP:=fun r=>r=⟨fun _ _=>none,fun b'=>if b'=b then some x else none⟩
theorem eZ(b o:Nat):AA b o []=BQ:=by
 apply ext;intro r;simp [AA,BQ,As.nil]
theorem Ft(b o:Nat)(l m:List Value):AA b o (l++m)=AA b o l*AA b (o+l.length) m:=by
 apply ext;intro r;constructor
 ·intro h;refine⟨_,_,⟨fun b' i=>?_,fun _=>.inl rfl⟩,?_,rfl,rfl⟩
  ·by_cases h1:b'=b∧o≤i
   ·by_cases h2:i-o<l.length
    ·refine .inr ?_;simp only [];rw [if_neg];omega
    ·refine .inl ?_;simp only [];rw [if_pos h1];exact yi (by omega)
   ·exact .inl (if_neg h1)
  ·rw [h];apply As.ext
   ·intro b' i;simp only [As.un];by_cases h1:b'=b∧o≤i
    ·rw [if_pos h1,if_pos h1];by_cases h2:i-o<l.length
     ·rw [o_ h2,r_ h2];rfl
     ·rw [xw (by omega),if_pos ⟨h1.1,by omega⟩,yi (l:=l) (by omega)];simp only [z_];congr 1;omega
    ·rw [if_neg h1,if_neg h1,if_neg (by omega)];rfl
   ·intro b';rfl
 ·rintro⟨x,y,_,rfl,rfl,rfl⟩;apply As.ext
  ·intro b' i;simp only [As.un];by_cases h1:b'=b∧o≤i
   ·rw [if_pos h1,if_pos h1];by_cases h2:i-o<l.length
    ·rw [o_ h2,r_ h2];rfl
    ·rw [xw (by omega),if_pos ⟨h1.1,by omega⟩,yi (l:=l) (by omega)];simp only [z_];congr 1;omega
   ·rw [if_neg h1,if_neg h1,if_neg (by omega)];rfl
  ·intro b';rfl
end HP
def M1(w:World)(b:Nat):Obj→Prop
 | .cells _ _ _=>∃c t lo,w.heap[b]?=some (.cells c t (lo,0))
 |x=>w.heap[b]?=some x
theorem WG{w:World}{b:Nat}{x:Obj}(hx:∀c t f,x≠ .cells c t f):M1 w b x↔w.heap[b]?=some x:=by
 cases x<;>first|exact Iff.rfl|exact absurd rfl (hx _ _ _)
theorem M1.lt{w:World}{b:Nat}{x:Obj}(h:M1 w b x):b<w.heap.size:=by
 have:∃y,w.heap[b]?=some y:=by
  cases x with
  |cells _ _ _=>obtain⟨c,t,lo,e⟩:=h;exact⟨_,e⟩
  |_=>exact⟨_,h⟩
 obtain⟨y,e⟩:=this;exact(m_.1 e).1
theorem M1.same{w w':World}{b:Nat}{x:Obj}(h:M1 w b x)(e:w'.heap[b]?=w.heap[b]?):M1 w' b x:=by
 cases x with
 |cells _ _ _=>obtain⟨c,t,lo,h⟩:=h;exact⟨c,t,lo,e.trans h⟩
 |_=>exact e.trans h
structure As.Sv(n:Nat)(r:As)(w:World):Prop where
 cell:∀b i v,r.c b i=some v→w.cell? ⟨b,i,none⟩=some v
 free:∀b i v,r.c b i=some v→w.frozen? ⟨b,i,none⟩=false
 obj:∀b x,r.o b=some x→M1 w b x
 other:∀b x,r.o b=some x→True
 Kc:∀b i v,r.c b i=some v→n≤b
 Li:∀b x,r.o b=some x→n≤b
def Sat(B:World)(H:HP)(w:World):Prop:=Below B.heap.size B w∧∃r,H r∧r.Sv B.heap.size w
theorem As.Sv.left{n:Nat}{r s:As}{w:World}(h:(r.un s).Sv n w):r.Sv n w:=by
 refine⟨fun b i v e=>h.cell b i v ?_,fun b i v e=>h.free b i v ?_,fun b x e=>h.obj b x ?_,fun b x e=>h.other b x ?_,fun b i v e=>h.Kc b i v ?_,fun b x e=>h.Li b x ?_⟩<;>simp [As.un,e]
theorem Sat.left{B:World}{A C:HP}{w:World}(h:Sat B (A*C) w):Sat B A w:=by
 obtain⟨h1,r,⟨x,y,hd,rfl,a,c⟩,h2⟩:=h;exact⟨h1,x,a,h2.left⟩
theorem Sat.right{B:World}{A C:HP}{w:World}(h:Sat B (A*C) w):Sat B C w:=by
 rw [HP.comm]at h;exact h.left
theorem Sat.start(B:World):Sat B HP.BQ B:=
 ⟨Below.refl _ _,As.nil,rfl,⟨(fun _ _ _ h=>by cases h),(fun _ _ _ h=>by cases h),(fun _ _ h=>by cases h),(fun _ _ h=>by cases h),(fun _ _ _ h=>by cases h),(fun _ _ h=>by cases h)⟩⟩
theorem Sat.BQ{B:World}{A:HP}{w:World}(h:Sat B A w):Sat B HP.BQ w:=by
 refine Sat.left (C:=A) ?_;rw [HP.BA];exact h
theorem Sat.Jp{B:World}{A:HP}{w:World}(h:Sat B A w):Sat B A {w with drawn:=w.drawn+1}:=by
 obtain⟨⟨a,b,c,d,e⟩,r,hr,h2⟩:=h;exact⟨⟨a,b,c,d,e⟩,r,hr,⟨h2.cell,h2.free,h2.obj,h2.other,h2.Kc,h2.Li⟩⟩
theorem Sat.ex{B:World}{α:Type}{P:α→HP}{w:World}:Sat B (HP.ex P) w↔∃x,Sat B (P x) w:=
 ⟨fun⟨h1,r,⟨x,hx⟩,h2⟩=>⟨x,h1,r,hx,h2⟩,fun⟨x,h1,r,hx,h2⟩=>⟨h1,r,⟨x,hx⟩,h2⟩⟩
theorem Sat.pr{B:World}{p:Prop}{A:HP}{w:World}:Sat B (HP.pr p*A) w↔p∧Sat B A w:=
 ⟨fun⟨h1,r,hr,h2⟩=>let⟨hp,ha⟩:=HP.Y2.1 hr;⟨hp,h1,r,ha,h2⟩,fun⟨hp,h1,r,hr,h2⟩=>⟨h1,r,HP.Y2.2 ⟨hp,hr⟩,h2⟩⟩
abbrev A6:=List (Nat×Value)
def lk:A6→Nat→Option Value
 |[],_=>none
 |(u,v)::E,t=>bif yt u t then some v else lk E t
def ev(E:A6):Operand→Option Value
 | .tmp t=>lk E t
 | .const v=>some v
 | .global g=>some (.pointer (some ⟨g,0,none⟩))
 | .func f=>some (.func (.func f) #[] #[])
def DR(n:Nat)(E:A6)(a:Act):Prop:=a.tmps.size=n∧∀t v,lk E t=some v→a.tmps[t]?=some v
theorem DR.ev{n:Nat}{E:A6}{a:Act}(h:DR n E a){x:Operand}{v:Value}(e:ev E x=some v):a.eval x=v:=by
 cases x with
 |tmp t=>have:=h.2 t v e;simp [Act.eval,this]
 |const u=>simpa [Proofs.YtgfdlpcdjklcoaaGreatDoor.ev,Act.eval]using e
 |global g=>simpa [Proofs.YtgfdlpcdjklcoaaGreatDoor.ev,Act.eval]using e
 |func f=>simpa [Proofs.YtgfdlpcdjklcoaaGreatDoor.ev,Act.eval]using e
theorem DR.put{n:Nat}{E:A6}{a:Act}(h:DR n E a){t:Nat}(ht:t<n)(v:Value):DR n ((t,v)::E) (a.put (some t) v):=by
 refine⟨by simp [Act.put,h.1],fun u w e=>?_⟩;simp only [lk]at e;cases hb:yt t u
 ·rw [hb]at e
  have hne:t≠u:=fun h=>by subst h;simp at hb
  simp only [Act.put,yh hne];exact h.2 u w e
 ·rw [hb]at e;obtain rfl:=n_ hb;simp only [cond_true,xx.injEq]at e;subst e;simp [Act.put,h.1,ht]
def Sub(E F:A6):Prop:=∀t v,lk F t=some v→lk E t=some v
theorem DR.sub{n:Nat}{E F:A6}{a:Act}(h:DR n E a)(s:Sub E F):DR n F a:=⟨h.1,fun t v e=>h.2 t v (s t v e)⟩
theorem Sub.nil{E:A6}:Sub E []:=fun _ _ h=>by cases h
theorem Sub.cons{E F:A6}{t:Nat}{v:Value}(h:lk E t=some v)(s:Sub E F):Sub E ((t,v)::F):=by
 intro u w e;simp only [lk]at e;cases hb:yt t u
 ·rw [hb]at e;exact s u w e
 ·rw [hb]at e;obtain rfl:=n_ hb;simp only [cond_true,xx.injEq]at e;subst e;exact h
class Nu(l:List Value)(k:Nat)(v:outParam Value):Prop where
 get:l[k]?=some v
instance(priority:=1100)(v:Value)(l:List Value):Nu (v::l) 0 v:=⟨rfl⟩
instance(u v:Value)(l:List Value)(k:Nat)[h:Nu l k v]:Nu (u::l) (k+1) v:=⟨by simpa using h.get⟩
class NT(l:List Value)(k:Nat)(v:Value)(l':outParam (List Value)):Prop where
 lt:k<l.length
 eq:l'=l.set k v
instance(u v:Value)(l:List Value):NT (u::l) 0 v (v::l):=⟨by simp,rfl⟩
instance(u v:Value)(l l':List Value)(k:Nat)[h:NT l k v l']:NT (u::l) (k+1) v (u::l'):=⟨by have:=h.lt;simp;omega,by rw [h.eq];rfl⟩
class Cell(H:HP)(b i:Nat)(v:outParam Value)(s:outParam Prop):Prop where
 get:∀r,H r→s→r.c b i=some v
instance(b o k:Nat)(l:List Value)(v:Value)[h:Nu l k v]:Cell (HP.AA b o l) b (o+k) v True:=
 ⟨fun r hr _=>by rw [show r=_ from hr];simp [h.get]⟩
instance(priority:=900)(b o:Nat)(l:List Value)(v:Value):Cell (HP.AA b o (v::l)) b o v True:=
 ⟨fun r hr _=>by rw [show r=_ from hr];simp⟩
instance(A C:HP)(b i:Nat)(v:Value)(s:Prop)[h:Cell A b i v s]:Cell (A*C) b i v s:=
 ⟨fun r ⟨x,y,_,e,a,_⟩ hs=>by rw [e];simp [As.un,h.get x a hs]⟩
instance(A C:HP)(b i:Nat)(v:Value)(s:Prop)[h:Cell C b i v s]:Cell (A*C) b i v s:=
 ⟨fun r ⟨x,y,d,e,_,c⟩ hs=>by
  have:=h.get y c hs
  rw [e];rcases d.1 b i with h1|h1
  ·simp [As.un,this,h1]
  ·rw [this]at h1;cases h1⟩
class Rd(B:World)(H:HP)(b i:Nat)(v:outParam Value)(s:outParam Prop):Prop where
 get:∀w,Sat B H w→s→w.cell? ⟨b,i,none⟩=some v
instance(priority:=500)(B:World)(H:HP)(b i:Nat)(v:Value)(s:Prop)[h:Cell H b i v s]:Rd B H b i v s:=
 ⟨fun _ ⟨_,r,hr,hl⟩ hs=>hl.cell b i v (h.get r hr hs)⟩
instance(priority:=400)(B:World)(A C:HP)(b i:Nat)(v:Value)(s:Prop)[h:Rd B A b i v s]:Rd B (A*C) b i v s:=⟨fun w hw hs=>h.get w hw.left hs⟩
instance(priority:=400)(B:World)(A C:HP)(b i:Nat)(v:Value)(s:Prop)[h:Rd B C b i v s]:Rd B (A*C) b i v s:=⟨fun w hw hs=>h.get w hw.right hs⟩
def As.set(b i:Nat)(v:Value)(r:As):As:=⟨fun b' i'=>if b'=b∧i'=i then some v else r.c b' i',r.o⟩
class C5(H:HP)(b i:Nat)(v:Value)(H':outParam HP)(s:outParam Prop):Prop where
 upd:∀r,H r→s→r.c b i≠none∧H' (r.set b i v)
instance(b o k:Nat)(l l':List Value)(v:Value)[h:NT l k v l']:C5 (HP.AA b o l) b (o+k) v (HP.AA b o l') True:=
 ⟨fun r hr _=>by
  have hlt:=h.lt
  rw [show r=_ from hr]
  refine⟨by simp [hlt],?_⟩
  show As.set _ _ _ _=_
  apply As.ext
  ·intro b' i'
   rw [h.eq]
   simp only [As.set,List.getElem?_set]
   by_cases h1:b'=b∧i'=o+k
   ·obtain⟨rfl,rfl⟩:=h1;simp [hlt]
   ·by_cases h2:b'=b∧o≤i'
    ·rw [if_neg h1,if_pos h2,if_pos h2,if_neg (by omega)]
    ·rw [if_neg h1,if_neg h2,if_neg h2]
  ·intro b';rfl⟩
instance(priority:=900)(b o:Nat)(l:List Value)(u v:Value):C5 (HP.AA b o (u::l)) b o v (HP.AA b o (v::l)) True:=by
 have h:C5 (HP.AA b o (u::l)) b (o+0) v (HP.AA b o (v::l)) True:=inferInstance;exact h
theorem As.oe{b i:Nat}{v:Value}{x y:As}(d:x.dj y)(h:x.c b i≠none):(x.set b i v).dj y∧(x.un y).set b i v=(x.set b i v).un y:=by
 have hy:y.c b i=none:=(d.1 b i).resolve_left h;refine⟨⟨fun b' i'=>?_,d.2⟩,?_⟩
 ·by_cases e:b'=b∧i'=i
  ·obtain⟨rfl,rfl⟩:=e;exact .inr hy
  ·rcases d.1 b' i' with h1|h1
   ·left;simp only [As.set,if_neg e];exact h1
   ·exact .inr h1
 ·apply As.ext
  ·intro b' i';simp only [As.set,As.un];by_cases e:b'=b∧i'=i
   ·simp [e]
   ·simp [e]
  ·intro b';rfl
instance(A A' C:HP)(b i:Nat)(v:Value)(s:Prop)[h:C5 A b i v A' s]:C5 (A*C) b i v (A'*C) s:=
 ⟨fun r ⟨x,y,d,e,a,c⟩ hs=>by
  obtain⟨h1,h2⟩:=h.upd x a hs
  obtain⟨h3,h4⟩:=As.oe (v:=v) d h1
  subst e
  refine⟨?_,_,y,h3,h4,h2,c⟩
  simp only [As.un]
  cases hx:x.c b i with
  |none=>exact absurd hx h1
  |some _=>simp⟩
instance(A C C':HP)(b i:Nat)(v:Value)(s:Prop)[h:C5 C b i v C' s]:C5 (A*C) b i v (A*C') s:=
 ⟨by rw [HP.comm A C,HP.comm A C'];exact(inferInstance:C5 (C*A) b i v (C'*A) s).upd⟩
theorem Sat.store{B:World}{H H':HP}{b i:Nat}{v:Value}{s:Prop}{w:World}(h:C5 H b i v H' s)(hw:Sat B H w)(hs:s):
  (∃u,w.cell? ⟨b,i,none⟩=some u)∧w.frozen? ⟨b,i,none⟩=false∧Sat B H' (w.setCell ⟨b,i,none⟩ v):=by
 obtain⟨h1,r,hr,hl⟩:=hw;obtain⟨h2,h3⟩:=h.upd r hr hs;obtain⟨u,hu⟩:=Option.ne_none_iff_exists'.1 h2;have hc:=hl.cell b i u hu
 have hne:∀k,k<B.heap.size→(w.setCell ⟨b,i,none⟩ v).heap[k]?=w.heap[k]?:=fun k hk=>by
  have:=hl.Kc b i u hu
  simp only [World.setCell];rw [xt,if_neg (by omega)]
 refine⟨⟨u,hc⟩,hl.free b i u hu,⟨h1.os,h1.tape,h1.output,by simpa [World.setCell]using h1.size,fun k hk=>(hne k hk).trans (h1.block k hk)⟩,_,h3,?_⟩;refine⟨fun b' i' v' e=>?_,fun b' i' v' e=>?_,fun b' x e=>?_,fun _ _ _=>trivial,fun b' i' v' e=>?_,fun b' x e=>hl.Li b' x e⟩
 ·simp only [As.set]at e;by_cases he:b'=b∧i'=i
  ·obtain⟨rfl,rfl⟩:=he;simp at e;subst e;exact World.cell?_setCell_same _ _ _ hc
  ·rw [if_neg he]at e;rw [World.cell?_setCell_other _ _ _ _ (fun h=>he (by cases h;exact⟨rfl,rfl⟩))];exact hl.cell b' i' v' e
 ·rw [World.frozen?_setCell];simp only [As.set]at e;by_cases he:b'=b∧i'=i
  ·obtain⟨rfl,rfl⟩:=he;exact hl.free _ _ u hu
  ·rw [if_neg he]at e;exact hl.free b' i' v' e
 ·have hx:=hl.obj b' x e;by_cases hbb:b=b'
  ·subst hbb
   cases x with
   |cells _ _ _=>obtain⟨c,t,lo,h⟩:=hx;exact⟨_,t,lo,by simp only [World.setCell];rw [xt,if_pos rfl,h];rfl⟩
   |_=>show(w.setCell ⟨b,i,none⟩ v).heap[b]?=_;simp only [World.setCell];rw [xt,if_pos rfl,show w.heap[b]?=_ from hx];rfl
  ·refine hx.same ?_;simp only [World.setCell];rw [xt,if_neg hbb]
 ·simp only [As.set]at e;by_cases he:b'=b∧i'=i
  ·obtain⟨rfl,rfl⟩:=he;exact hl.Kc _ _ u hu
  ·rw [if_neg he]at e;exact hl.Kc b' i' v' e
theorem World.P9(w:World)(o:Obj):(w.alloc o).heap.size=w.heap.size+1:=Array.size_push ..
theorem Sat.nZ{B:World}{H:HP}{w:World}(hw:Sat B H w)(c:Array Value)(t:TypeId)(lo hi:Nat)(hfr:hi=0∨c.size≤lo):
  Sat B (HP.AA w.heap.size 0 c.toList*H) (w.alloc (.cells c t (lo,hi))):=by
 obtain⟨h1,r,hr,hl⟩:=hw;have hsz:B.heap.size≤w.heap.size:=h1.size
 have hlt:∀b i v,r.c b i=some v→b<w.heap.size:=fun b i v e=>by
  rcases xy b w.heap.size with h|h
  ·exact h
  ·have:=hl.cell b i v e;simp [World.cell?,s_ h]at this
 have hltO:∀b x,r.o b=some x→b<w.heap.size:=fun b x e=>(hl.obj b x e).lt;refine⟨⟨h1.os,h1.tape,h1.output,(by rw [World.P9];omega),fun k hk=>?_⟩,_,⟨_,r,?_,rfl,rfl,hr⟩,?_⟩
 ·rw [←h1.block k hk];simp only [World.alloc];rw [yw (by omega)];exact(yr (by omega)).symm
 ·refine⟨fun b i=>?_,fun b=>.inl rfl⟩
  cases e:r.c b i with
  |none=>exact .inr rfl
  |some v=>left;simp only [];rw [if_neg];intro h;have:=hlt b i v e;omega
 ·refine⟨fun b i v e=>?_,fun b i v e=>?_,fun b x e=>?_,fun b x e=>?_,fun b i v e=>?_,fun b x e=>?_⟩
  ·simp only [As.un]at e;by_cases h:b=w.heap.size∧0≤i
   ·obtain⟨rfl,_⟩:=h;rw [World.cell?_alloc_mark]
    cases h2:r.c w.heap.size i with
    |none=>simpa [h2]using e
    |some u=>have:=hlt _ _ _ h2;omega
   ·rw [if_neg h]at e;simp at e;rw [World.cell?_alloc_lt _ _ _ (hlt b i v e)];exact hl.cell b i v e
  ·simp only [As.un]at e;by_cases h:b=w.heap.size∧0≤i
   ·obtain⟨rfl,_⟩:=h;rw [World.frozen?_alloc_mark]
    have hlt2:i<c.size:=by
     cases h2:r.c w.heap.size i with
     |none=>
      have e2:c[i]?=some v:=by simpa [h2]using e
      exact(m_.1 e2).1
     |some u=>have:=hlt _ _ _ h2;omega
    rcases hfr with h3|h3<;>simp<;>omega
   ·rw [if_neg h]at e;simp at e;rw [World.frozen?_alloc_old _ _ _ (by have:=hlt b i v e;simp;omega)];exact hl.free b i v e
  ·simp only [As.un]at e
   have e':r.o b=some x:=by simpa using e
   refine(hl.obj b x e').same ?_;simp only [World.alloc];rw [yw (hltO b x e'),←yr]
  ·trivial
  ·simp only [As.un]at e;by_cases h:b=w.heap.size∧0≤i
   ·omega
   ·rw [if_neg h]at e;simp at e;exact hl.Kc b i v e
  ·exact hl.Li b x (by simpa [As.un]using e)
theorem Sat.alloc{B:World}{H:HP}{w:World}(hw:Sat B H w)(c:Array Value)(t:TypeId):
  Sat B (HP.AA w.heap.size 0 c.toList*H) (w.alloc (.cells c t)):=hw.nZ c t 0 0 (.inl rfl)
abbrev HP.fresh(b:Nat):HP:=HP.obj b (.cells #[] 0 (0,0))
theorem Sat.fresh{B:World}{b:Nat}{R:HP}{w:World}(h:Sat B (HP.fresh b*R) w):∃c t lo,w.heap[b]?=some (.cells c t (lo,0)):=by
 obtain⟨_,r,hr,hl⟩:=h.left;obtain rfl:r=_:=hr;have h2:=hl.obj b (.cells #[] 0 (0,0)) (by simp);exact h2
theorem Sat.i9{B:World}{H:HP}{w:World}(hw:Sat B H w)(c:Array Value)(t:TypeId):
  Sat B (HP.fresh w.heap.size*(HP.AA w.heap.size 0 c.toList*H)) (w.alloc (.cells c t)):=by
 obtain⟨h1,r,hr,hl⟩:=hw
 have hw0:Sat B (fun r'=>r'=r) w:=⟨h1,r,rfl,hl⟩
 obtain⟨k1,q,⟨x,y,d,rfl,hx,rfl⟩,kl⟩:=hw0.alloc c t;have hx':x=_:=hx
 have hno:(x.un y).o w.heap.size=none:=by
  cases e:y.o w.heap.size with
  |none=>rw [hx'];simp [As.un,e]
  |some z=>have:=(hl.obj _ z e).lt;omega
 have hal:(w.alloc (.cells c t)).heap[w.heap.size]?=some (.cells c t (0,0)):=by show(w.heap.push _)[w.heap.size]?=_;exact Array.getElem?_push_size
 refine⟨k1,_,⟨⟨fun _ _=>none,fun b'=>if b'=w.heap.size then some (.cells #[] 0 (0,0))else none⟩,x.un y,⟨fun _ _=>.inl rfl,fun b=>?_⟩,rfl,rfl,x,y,d,rfl,hx,hr⟩,?_⟩
 ·by_cases h:b=w.heap.size
  ·subst h;exact .inr hno
  ·exact .inl (if_neg h)
 ·refine⟨fun b i v e=>kl.cell b i v (by simpa [As.un]using e),fun b i v e=>kl.free b i v (by simpa [As.un]using e),fun b z e=>?_,fun _ _ _=>trivial,fun b i v e=>kl.Kc b i v (by simpa [As.un]using e),fun b z e=>?_⟩
  ·by_cases h:b=w.heap.size
   ·subst h
    have e':some (Obj.cells #[] 0 (0,0))=some z:=by simpa [As.un]using e
    cases e';exact⟨c,t,0,hal⟩
   ·exact kl.obj b z (by simpa [As.un,h]using e)
  ·by_cases h:b=w.heap.size
   ·subst h;exact h1.size
   ·exact kl.Li b z (by simpa [As.un,h]using e)
section
def Aa(P:Program)(B:World)(n:Nat)(o:Oper)(E:A6)(H:HP)(v:Value):Prop:=
 ∀a w,DR n E a→Sat B H w→(execOp a.eval o).run P w=.ok (.value v) w
class Ar(P:Program)(t:TypeId)(d:outParam TypeDesc):Prop where
 get:P.underlying t=some d
class Bw(P:Program)(t:TypeId)(k:outParam Nat):Prop where
 get:∀w,(sizeOf t).run P w=.ok k w
class BZ(P:Program)(t:TypeId)(v:outParam Value):Prop where
 get:∀w,(zeroValue t).run P w=.ok v w
class FH(P:Program)(t:TypeId)(bytes:outParam Nat):Prop where
 get:∃i,(∀w,(typeInfo t).run P w=.ok i w)∧i.bytes=bytes
class CQ(P:Program)(t:TypeId):Prop where
 get:∀w,(isAgg t).run P w=.ok false w
 size:∀w,(sizeOf t).run P w=.ok 1 w
class E6(P:Program)(t:TypeId)(k:outParam Nat):Prop where
 get:∀w,(isAgg t).run P w=.ok true w
 size:∀w,(sizeOf t).run P w=.ok k w
class An(P:Program)(t:TypeId)(f:Nat)(k:outParam Nat):Prop where
 get:∃fs,P.underlying t=some (.struct fs)∧∃g,fs[f]?=some g∧g.offset=k∧∃m,(∀w,(sizeOf g.type).run P w=.ok m w)∧m≠0
theorem Bx{P:Program}{t:TypeId}{d:TypeDesc}(h:P.underlying t=some d)(w:World):(underlying t).run P w=.ok d w:=by
 simp [underlying,h]
section
variable{P:Program}{B:World}{n:Nat}{E:A6}{H:HP}{d:Option Tmp}{T T' ty:TypeId}{pos:String}{af:Array Edge}{g:Option (Nat×Bool)}{x y:Operand}
theorem UP{v:Value}(h:ev E x=some v):Aa P B n ⟨d,.move x,ty,pos,af,g⟩ E H v:=by
 intro a w he _;simp [execOp,he.ev h]
theorem FK{v:Value}(h:ev E x=some v):Aa P B n ⟨d,.assign x,ty,pos,af,g⟩ E H v:=by
 intro a w he _;simp [execOp,he.ev h]
theorem mj{c:Operand}{b:Bool}{u v:Value}(hc:ev E c=some (.bool b))(hx:ev E x=some u)(hy:ev E y=some v):
  Aa P B n ⟨d,.pick c x y,ty,pos,af,g⟩ E H (bif b then u else v):=by
 intro a w he _;cases b<;>simp [execOp,he.ev hc,he.ev hx,he.ev hy,asBool]
theorem se{c:Operand}{u:Value}(hc:ev E c=some (.bool true))(hx:ev E x=some u):
  Aa P B n ⟨d,.pick c x y,ty,pos,af,g⟩ E H u:=by
 intro a w he _;simp [execOp,he.ev hc,he.ev hx,asBool]
theorem mo{c:Operand}{v:Value}(hc:ev E c=some (.bool false))(hy:ev E y=some v):
  Aa P B n ⟨d,.pick c x y,ty,pos,af,g⟩ E H v:=by
 intro a w he _;simp [execOp,he.ev hc,he.ev hy,asBool]
theorem bD{i:Nat}{vs:Array Value}{v:Value}(h:ev E x=some (.tuple vs))(hv:vs[i]?=some v):
  Aa P B n ⟨d,.extract x i,ty,pos,af,g⟩ E H v:=by
 intro a w he _;simp [execOp,he.ev h,Instr.extract,hv]
theorem X'{p:Addr}(h:ev E x=some (.pointer (some p))):Aa P B n ⟨d,.nilCheck x,ty,pos,af,g⟩ E H (.pointer (some p)):=by
 intro a w he _;simp [execOp,he.ev h]
theorem M2{v:Value}(hT:P.concrete T=true)(h:ev E x=some v):
  Aa P B n ⟨d,.makeInterface T x,ty,pos,af,g⟩ E H (.iface T v):=by
 intro a w he _;simp only [execOp,he.ev h,b_,run_makeInterface w T v hT,a_,c_]
theorem kT{b:Bool}(h:ev E x=some (.bool b)):Aa P B n ⟨d,.unOp .not T x,ty,pos,af,g⟩ E H (.bool (!b)):=by
 intro a w he _;simp [execOp,he.ev h,Op.unary]
theorem uv(m:Nat){T:TypeId}(b c:Bool)(w:World)(hT:P.underlying T=some .bool):(Op.equalIn (m+1) T (.bool b) (.bool c)).run P w=.ok (b==c) w:=by
 simp only [Op.equalIn,b_,Bx hT,a_];rfl
theorem WU{b c:Bool}[hT:Ar P T .bool](hx:ev E x=some (.bool b))(hy:ev E y=some (.bool c)):
  Aa P B n ⟨d,.binOp .neq T x y T',ty,pos,af,g⟩ E H (.bool (!(b==c))):=by
 intro a w he _;have h1:=fun w=>uv (P:=P) 9999 b c w hT.get;have h2:(eqGuard .neq T x y (.bool b) (.bool c)).run P w=.ok () w:=rfl;simp only [execOp,he.ev hx,he.ev hy,b_,h2,a_,binOp,Op.equal,show Op.maxDepth=9999+1 from rfl,h1,c_]
theorem Dx{op:BinOp}{k:IntKind}{i j:Int}{v:Value}(hx:ev E x=some (.int k i))(hy:ev E y=some (.int k j))
  (hv:∀w,(binOp op T (.int k i) (.int k j)).run P w=.ok v w):Aa P B n ⟨d,.binOp op T x y T',ty,pos,af,g⟩ E H v:=by
 intro a w he _;simp only [execOp,he.ev hx,he.ev hy,b_,hv];cases op<;>rfl
theorem Kb{i j:Nat}(hx:ev E x=some (.int .i64 i))(hy:ev E y=some (.int .i64 j))(h:i+j<9223372036854775808):
  Aa P B n ⟨d,.binOp .add T x y T',ty,pos,af,g⟩ E H (.int .i64 (i+j:Nat)):=
 Dx hx hy fun w=>by simp [binOp,Op.intArith];exact IntWalk.i64_in _ (by omega)
theorem KM{i j:Nat}(hx:ev E x=some (.int .u64 i))(hy:ev E y=some (.int .u64 j))(h:i+j<18446744073709551616):
  Aa P B n ⟨d,.binOp .add T x y T',ty,pos,af,g⟩ E H (.int .u64 (i+j:Nat)):=
 Dx hx hy fun w=>by simp [binOp,Op.intArith];exact IntWalk.u64_in _ (by omega)
theorem ne{i j:Nat}(hx:ev E x=some (.int .u64 i))(hy:ev E y=some (.int .u64 j)):
  Aa P B n ⟨d,.binOp .add T x y T',ty,pos,af,g⟩ E H (.int .u64 ((i+j)%18446744073709551616:Nat)):=
 Dx hx hy fun w=>by simp [binOp,Op.intArith,yn,Aa7,Aa0]
theorem R? {i j:Int}(hx:ev E x=some (.int .i64 i))(hy:ev E y=some (.int .i64 j))(h: -9223372036854775808≤i+j∧i+j<9223372036854775808):
  Aa P B n ⟨d,.binOp .add T x y T',ty,pos,af,g⟩ E H (.int .i64 (i+j)):=
 Dx hx hy fun w=>by simp [binOp,Op.intArith];exact IntWalk.i64_in _ (by omega)
theorem Ia{i j:Nat}(hx:ev E x=some (.int .i64 i))(hy:ev E y=some (.int .i64 j))(h:j≤i∧i<9223372036854775808):
  Aa P B n ⟨d,.binOp .sub T x y T',ty,pos,af,g⟩ E H (.int .i64 (i-j:Nat)):=
 Dx hx hy fun w=>by
  simp only [binOp,Op.intArith];rw [show((i-j:Nat):Int)=(i:Int)-j by omega,IntWalk.i64_in _ (by omega)];rfl
theorem LT{i j:Nat}(hx:ev E x=some (.int .u64 i))(hy:ev E y=some (.int .u64 j))(h:j≤i∧i<18446744073709551616):
  Aa P B n ⟨d,.binOp .sub T x y T',ty,pos,af,g⟩ E H (.int .u64 (i-j:Nat)):=
 Dx hx hy fun w=>by
  simp only [binOp,Op.intArith];rw [show((i-j:Nat):Int)=(i:Int)-j by omega,IntWalk.u64_in _ (by omega)];rfl
theorem LW{i j:Int}(hx:ev E x=some (.int .i64 i))(hy:ev E y=some (.int .i64 j))(h: -9223372036854775808≤i-j∧i-j<9223372036854775808):
  Aa P B n ⟨d,.binOp .sub T x y T',ty,pos,af,g⟩ E H (.int .i64 (i-j)):=
 Dx hx hy fun w=>by simp [binOp,Op.intArith];exact IntWalk.i64_in _ (by omega)
theorem oS{i j:Nat}(hx:ev E x=some (.int .i64 i))(hy:ev E y=some (.int .i64 j))(h:i*j<9223372036854775808):
  Aa P B n ⟨d,.binOp .mul T x y T',ty,pos,af,g⟩ E H (.int .i64 (i*j:Nat)):=
 Dx hx hy fun w=>by simp [binOp,Op.intArith];exact IntWalk.i64_in _ (by rw [←Int.natCast_mul];omega)
theorem nB{i j:Nat}(hx:ev E x=some (.int .u64 i))(hy:ev E y=some (.int .u64 j)):
  Aa P B n ⟨d,.binOp .mul T x y T',ty,pos,af,g⟩ E H (.int .u64 ((i*j)%18446744073709551616:Nat)):=
 Dx hx hy fun w=>by simp [binOp,Op.intArith,yn,Aa7,Aa0]
theorem X9{k:IntKind}{i j:Nat}(hx:ev E x=some (.int k i))(hy:ev E y=some (.int k j))(h:j≠0∧k.wrap (i/j:Nat)=(i/j:Nat)):
  Aa P B n ⟨d,.binOp .quo T x y T',ty,pos,af,g⟩ E H (.int k (i/j:Nat)):=
 Dx hx hy fun w=>by
  have h0:¬(j:Int)=0:=by omega
  have h1:(i:Int).tdiv j=(i/j:Nat):=rfl;simp only [binOp,Op.intDiv,ne_eq,not_true_eq_false,h0,h1,if_false,h.2];rfl
theorem QT{k:IntKind}{i j:Nat}(hx:ev E x=some (.int k i))(hy:ev E y=some (.int k j))(h:j≠0):
  Aa P B n ⟨d,.binOp .rem T x y T',ty,pos,af,g⟩ E H (.int k (i%j:Nat)):=
 Dx hx hy fun w=>by
  have h0:¬(j:Int)=0:=by omega
  have h1:(i:Int).tmod j=(i%j:Nat):=rfl;simp only [binOp,Op.intDiv,ne_eq,not_true_eq_false,h0,h1,if_false];rfl
theorem ZR{k k':IntKind}{i j:Nat}(hx:ev E x=some (.int k i))(hy:ev E y=some (.int k' j)):
  Aa P B n ⟨d,.binOp .shr T x y T',ty,pos,af,g⟩ E H (.int k (i/2^(min j k.bits):Nat)):=by
 intro a w he _
 have h0:¬(j:Int)<0:=by omega
 have h1:(i:Int).fdiv (2^(min j k.bits))=(i/2^(min j k.bits):Nat):=by
  rw [Int.fdiv_eq_ediv_of_nonneg _ (by exact Int.pow_nonneg (by omega))];simp
 simp only [execOp,he.ev hx,he.ev hy,b_];simp [eqGuard,binOp,Op.shift,h0,h1]
theorem d9{k k':IntKind}{i j:Nat}(hx:ev E x=some (.int k i))(hy:ev E y=some (.int k' j))(hk:k.signed=false):
  Aa P B n ⟨d,.binOp .shl T x y T',ty,pos,af,g⟩ E H (.int k (i*2^(min j k.bits)%2^k.bits:Nat)):=by
 intro a w he _
 have h0:¬(j:Int)<0:=by omega
 simp only [execOp,he.ev hx,he.ev hy,b_];simp [eqGuard,binOp,Op.shift,h0,yn,hk]
theorem Xq{k:IntKind}{m:Nat}(hk:k.signed=false)(h:m<2^k.bits):k.wrap (m:Int)=m:=by
 simp only [yn,hk,Bool.false_and,Bool.false_eq_true,if_false]
 have e:((2:Int)^k.bits)=((2^k.bits:Nat):Int):=by simp
 rw [e,←Int.natCast_emod,l_ h]
theorem Z7{k:IntKind}{i j:Nat}(hx:ev E x=some (.int k i))(hy:ev E y=some (.int k j))(hk:k.signed=false)(h:i<2^k.bits∧j<2^k.bits):
  Aa P B n ⟨d,.binOp .xor T x y T',ty,pos,af,g⟩ E H (.int k (i ^^^j:Nat)):=
 Dx hx hy fun w=>by
  have e:(BitVec.ofInt k.bits (i:Int) ^^^BitVec.ofInt k.bits (j:Int)).toNat=i ^^^j:=by
   rw [BitVec.toNat_xor,BitVec.ofInt_natCast,BitVec.ofInt_natCast,BitVec.toNat_ofNat,BitVec.toNat_ofNat,l_ h.1,l_ h.2]
  simp only [binOp,Op.intBits,ne_eq,not_true_eq_false,if_false,e,Xq hk (Nat.xor_lt_two_pow h.1 h.2)];rfl
theorem cP{k:IntKind}{i j:Nat}(hx:ev E x=some (.int k i))(hy:ev E y=some (.int k j))(hk:k.signed=false)(h:i<2^k.bits∧j<2^k.bits):
  Aa P B n ⟨d,.binOp .or T x y T',ty,pos,af,g⟩ E H (.int k (i|||j:Nat)):=
 Dx hx hy fun w=>by
  have e:(BitVec.ofInt k.bits (i:Int)|||BitVec.ofInt k.bits (j:Int)).toNat=i|||j:=by
   rw [BitVec.toNat_or,BitVec.ofInt_natCast,BitVec.ofInt_natCast,BitVec.toNat_ofNat,BitVec.toNat_ofNat,l_ h.1,l_ h.2]
  simp only [binOp,Op.intBits,ne_eq,not_true_eq_false,if_false,e,Xq hk (Nat.or_lt_two_pow h.1 h.2)];rfl
theorem bI{k:IntKind}{i j:Nat}(hx:ev E x=some (.int k i))(hy:ev E y=some (.int k j))(hk:k.signed=false)(h:i<2^k.bits∧j<2^k.bits):
  Aa P B n ⟨d,.binOp .and T x y T',ty,pos,af,g⟩ E H (.int k (i&&&j:Nat)):=
 Dx hx hy fun w=>by
  have e:(BitVec.ofInt k.bits (i:Int)&&&BitVec.ofInt k.bits (j:Int)).toNat=i&&&j:=by
   rw [BitVec.toNat_and,BitVec.ofInt_natCast,BitVec.ofInt_natCast,BitVec.toNat_ofNat,BitVec.toNat_ofNat,l_ h.1,l_ h.2]
  simp only [binOp,Op.intBits,ne_eq,not_true_eq_false,if_false,e,Xq hk (Nat.and_lt_two_pow _ h.2)];rfl
theorem GH{k:IntKind}{i j:Nat}(hx:ev E x=some (.int k i))(hy:ev E y=some (.int k j)):
  Aa P B n ⟨d,.binOp .lss T x y T',ty,pos,af,g⟩ E H (.bool (decide (i<j))):=Dx hx hy fun w=>by simp [binOp,Op.intCmp]
theorem Xi{k:IntKind}{i j:Nat}(hx:ev E x=some (.int k i))(hy:ev E y=some (.int k j)):
  Aa P B n ⟨d,.binOp .leq T x y T',ty,pos,af,g⟩ E H (.bool (decide (i≤j))):=Dx hx hy fun w=>by simp [binOp,Op.intCmp]
theorem I'{k:IntKind}{i j:Nat}(hx:ev E x=some (.int k i))(hy:ev E y=some (.int k j)):
  Aa P B n ⟨d,.binOp .gtr T x y T',ty,pos,af,g⟩ E H (.bool (decide (j<i))):=Dx hx hy fun w=>by simp [binOp,Op.intCmp]
theorem L9{k:IntKind}{i j:Nat}(hx:ev E x=some (.int k i))(hy:ev E y=some (.int k j)):
  Aa P B n ⟨d,.binOp .geq T x y T',ty,pos,af,g⟩ E H (.bool (decide (j≤i))):=Dx hx hy fun w=>by simp [binOp,Op.intCmp]
theorem CV{k:IntKind}{i j:Nat}(hx:ev E x=some (.int k i))(hy:ev E y=some (.int k j)):
  Aa P B n ⟨d,.binOp .eql T x y T',ty,pos,af,g⟩ E H (.bool (decide (i=j))):=
 Dx hx hy fun w=>by
  have:((i:Int)==(j:Int))=decide (i=j):=by by_cases h:i=j<;>simp [h];omega
  simp [binOp,Op.intCmp,this]
theorem GP{k:IntKind}{i j:Nat}(hx:ev E x=some (.int k i))(hy:ev E y=some (.int k j)):
  Aa P B n ⟨d,.binOp .neq T x y T',ty,pos,af,g⟩ E H (.bool (decide (i≠j))):=
 Dx hx hy fun w=>by
  have:((i:Int) !=(j:Int))=decide (i≠j):=by by_cases h:i=j<;>simp [h];omega
  simp [binOp,Op.intCmp,this]
theorem JQ{k:IntKind}{i j:Int}(hx:ev E x=some (.int k i))(hy:ev E y=some (.int k j)):
  Aa P B n ⟨d,.binOp .lss T x y T',ty,pos,af,g⟩ E H (.bool (decide (i<j))):=Dx hx hy fun w=>by simp [binOp,Op.intCmp]
theorem S_{k:IntKind}{i j:Int}(hx:ev E x=some (.int k i))(hy:ev E y=some (.int k j)):
  Aa P B n ⟨d,.binOp .leq T x y T',ty,pos,af,g⟩ E H (.bool (decide (i≤j))):=Dx hx hy fun w=>by simp [binOp,Op.intCmp]
theorem lI{k:IntKind}{i j:Int}(hx:ev E x=some (.int k i))(hy:ev E y=some (.int k j)):
  Aa P B n ⟨d,.binOp .gtr T x y T',ty,pos,af,g⟩ E H (.bool (decide (j<i))):=Dx hx hy fun w=>by simp [binOp,Op.intCmp]
theorem Jb{k:IntKind}{i j:Int}(hx:ev E x=some (.int k i))(hy:ev E y=some (.int k j)):
  Aa P B n ⟨d,.binOp .geq T x y T',ty,pos,af,g⟩ E H (.bool (decide (j≤i))):=Dx hx hy fun w=>by simp [binOp,Op.intCmp]
theorem CI{k:IntKind}{i j:Int}(hx:ev E x=some (.int k i))(hy:ev E y=some (.int k j)):
  Aa P B n ⟨d,.binOp .eql T x y T',ty,pos,af,g⟩ E H (.bool (decide (i=j))):=
 Dx hx hy fun w=>by
  have:(i==j)=decide (i=j):=by by_cases h:i=j<;>simp [h]
  simp [binOp,Op.intCmp,this]
theorem LJ{k:IntKind}{i j:Int}(hx:ev E x=some (.int k i))(hy:ev E y=some (.int k j)):
  Aa P B n ⟨d,.binOp .neq T x y T',ty,pos,af,g⟩ E H (.bool (decide (i≠j))):=
 Dx hx hy fun w=>by
  have:(i !=j)=decide (i≠j):=by by_cases h:i=j<;>simp [h]
  simp [binOp,Op.intCmp,this]
theorem HK{i:Nat}(h:i<18446744073709551616):zk.wrap (i:Int)=i:=IntWalk.u64_in _ (by omega)
theorem Q8{i:Nat}(h:i<9223372036854775808):zl.wrap (i:Int)=i:=IntWalk.i64_in _ (by omega)
theorem cu{i:Nat}(h:i<256):Aad.wrap (i:Int)=i:=IntWalk.u8_in _ (by omega)
theorem zJ{i j:Nat}(hx:ev E x=some (.int .u64 i))(hy:ev E y=some (.int .u64 j))(h:i<18446744073709551616∧j<18446744073709551616):
  Aa P B n ⟨d,.binOp .xor T x y T',ty,pos,af,g⟩ E H (.int .u64 (i ^^^j:Nat)):=Z7 hx hy rfl h
theorem bC{i j:Nat}(hx:ev E x=some (.int .u64 i))(hy:ev E y=some (.int .u64 j))(h:i<18446744073709551616∧j<18446744073709551616):
  Aa P B n ⟨d,.binOp .or T x y T',ty,pos,af,g⟩ E H (.int .u64 (i|||j:Nat)):=cP hx hy rfl h
theorem m7{i j:Nat}(hx:ev E x=some (.int .u64 i))(hy:ev E y=some (.int .u64 j))(h:i<18446744073709551616∧j<18446744073709551616):
  Aa P B n ⟨d,.binOp .and T x y T',ty,pos,af,g⟩ E H (.int .u64 (i&&&j:Nat)):=bI hx hy rfl h
theorem M? {i j:Nat}(hx:ev E x=some (.int .u8 i))(hy:ev E y=some (.int .u8 j))(h:i<256∧j<256):
  Aa P B n ⟨d,.binOp .xor T x y T',ty,pos,af,g⟩ E H (.int .u8 (i ^^^j:Nat)):=Z7 hx hy rfl h
theorem VA{i j:Nat}(hx:ev E x=some (.int .u8 i))(hy:ev E y=some (.int .u8 j))(h:i<256∧j<256):
  Aa P B n ⟨d,.binOp .or T x y T',ty,pos,af,g⟩ E H (.int .u8 (i|||j:Nat)):=cP hx hy rfl h
theorem a7{i j:Nat}(hx:ev E x=some (.int .u8 i))(hy:ev E y=some (.int .u8 j))(h:i<256∧j<256):
  Aa P B n ⟨d,.binOp .and T x y T',ty,pos,af,g⟩ E H (.int .u8 (i&&&j:Nat)):=bI hx hy rfl h
theorem LA{k:IntKind}{i j:Nat}(hx:ev E x=some (.int .u64 i))(hy:ev E y=some (.int k j))(h:j≤64):
  Aa P B n ⟨d,.binOp .shr T x y T',ty,pos,af,g⟩ E H (.int .u64 (i/2^j:Nat)):=by
 have:=ZR (P:=P) (B:=B) (n:=n) (H:=H) (d:=d) (T:=T) (T':=T') (ty:=ty) (pos:=pos) (af:=af) (g:=g) hx hy
 rwa [show min j zk.bits=j from yy h]at this
theorem TB{k:IntKind}{i j:Nat}(hx:ev E x=some (.int .u64 i))(hy:ev E y=some (.int k j))(h:j≤64):
  Aa P B n ⟨d,.binOp .shl T x y T',ty,pos,af,g⟩ E H (.int .u64 (i*2^j%18446744073709551616:Nat)):=by
 have:=d9 (P:=P) (B:=B) (n:=n) (H:=H) (d:=d) (T:=T) (T':=T') (ty:=ty) (pos:=pos) (af:=af) (g:=g) hx hy rfl
 rwa [show min j zk.bits=j from yy h]at this
theorem y7{k:IntKind}{i j:Nat}(hx:ev E x=some (.int .u8 i))(hy:ev E y=some (.int k j))(h:j≤8):
  Aa P B n ⟨d,.binOp .shr T x y T',ty,pos,af,g⟩ E H (.int .u8 (i/2^j:Nat)):=by
 have:=ZR (P:=P) (B:=B) (n:=n) (H:=H) (d:=d) (T:=T) (T':=T') (ty:=ty) (pos:=pos) (af:=af) (g:=g) hx hy
 rwa [show min j Aad.bits=j from yy h]at this
theorem dP{i j:Nat}(hx:ev E x=some (.int .i64 i))(hy:ev E y=some (.int .i64 j))(h:j≠0):
  Aa P B n ⟨d,.binOp .rem T x y T',ty,pos,af,g⟩ E H (.int .i64 (i%j:Nat)):=QT hx hy h
theorem tt{i j:Nat}(hx:ev E x=some (.int .i64 i))(hy:ev E y=some (.int .i64 j))(h:j≠0∧i<9223372036854775808):
  Aa P B n ⟨d,.binOp .quo T x y T',ty,pos,af,g⟩ E H (.int .i64 (i/j:Nat)):=X9 hx hy ⟨h.1,Q8 (yo (yz _ _) h.2)⟩
theorem ll{i j:Nat}(hx:ev E x=some (.int .u64 i))(hy:ev E y=some (.int .u64 j))(h:j≠0∧i<18446744073709551616):
  Aa P B n ⟨d,.binOp .quo T x y T',ty,pos,af,g⟩ E H (.int .u64 (i/j:Nat)):=X9 hx hy ⟨h.1,HK (yo (yz _ _) h.2)⟩
theorem uT{i j:Nat}(hx:ev E x=some (.int .u8 i))(hy:ev E y=some (.int .u8 j))(h:j≠0∧i<256):
  Aa P B n ⟨d,.binOp .quo T x y T',ty,pos,af,g⟩ E H (.int .u8 (i/j:Nat)):=X9 hx hy ⟨h.1,cu (yo (yz _ _) h.2)⟩
theorem Gt{k k':IntKind}{i:Nat}[h1:Ar P T (.int k)][h2:Ar P T' (.int k')](hx:ev E x=some (.int k i))(h:k'.wrap (i:Int)=i):
  Aa P B n ⟨d,.convert T T' x,ty,pos,af,g⟩ E H (.int k' i):=by
 intro a w he _;simp [execOp,he.ev hx,convert,Bx h1.get,Bx h2.get,Conv.intToInt,h]
theorem lx{k k':IntKind}{i:Nat}[h1:Ar P T (.int k)][h2:Ar P T' (.int k')](hx:ev E x=some (.int k i))(hk:k'.signed=false):
  Aa P B n ⟨d,.convert T T' x,ty,pos,af,g⟩ E H (.int k' (i%2^k'.bits:Nat)):=by
 intro a w he _;simp [execOp,he.ev hx,convert,Bx h1.get,Bx h2.get,Conv.intToInt,yn,hk]
theorem wE{k k':IntKind}{i j:Int}[h1:Ar P T (.int k)][h2:Ar P T' (.int k')](hx:ev E x=some (.int k i))(h:k'.wrap i=j):
  Aa P B n ⟨d,.convert T T' x,ty,pos,af,g⟩ E H (.int k' j):=by
 intro a w he _;simp [execOp,he.ev hx,convert,Bx h1.get,Bx h2.get,Conv.intToInt,h]
theorem TF{k:IntKind}{i:Nat}[h1:Ar P T (.int k)][h2:Ar P T' (.int .u8)](hx:ev E x=some (.int k i)):
  Aa P B n ⟨d,.convert T T' x,ty,pos,af,g⟩ E H (.int .u8 (i%256:Nat)):=lx hx rfl
theorem Ww{f k b o:Nat}[hf:An P T f k](hx:ev E x=some (.pointer (some ⟨b,o,none⟩))):
  Aa P B n ⟨d,.fieldAddr T x f,ty,pos,af,g⟩ E H (.pointer (some ⟨b,o+k,none⟩)):=by
 intro a w he _;obtain⟨fs,h1,gd,h2,h3,m,h4,h5⟩:=hf.get;simp only [execOp,he.ev hx,Instr.fieldAt,b_,Bx h1,a_,h2,j_,c_,fieldPlace,h4,h5,if_false,h3];by_cases hk:k=0<;>simp [j',hk]
theorem Fo{b i:Nat}{v:Value}{s:Prop}[hT:CQ P T](hx:ev E x=some (.pointer (some ⟨b,i,none⟩)))[hr:Rd B H b i v s](hs:s):
  Aa P B n ⟨d,.load T x,ty,pos,af,g⟩ E H v:=by
 intro a w he hw;simp [execOp,he.ev hx,Aa8,j_,loadVar,hT.get,hr.get w hw hs]
theorem pC{p:Option Addr}{k c:Nat}{e:TypeId}[hT:Ar P T (.slice e)](hx:ev E x=some (.slice p k c)):
  Aa P B n ⟨d,.call ⟨.builtin .len,#[x],#[T]⟩,ty,pos,af,g⟩ E H (.int .i64 k):=by
 intro a w he _;simp [execOp,he.ev hx,resolve,invoke,builtin,Aa9,Bx hT.get,goInt]
theorem V9{s:ByteArray}[hT:Ar P T .string](hx:ev E x=some (.string s)):
  Aa P B n ⟨d,.call ⟨.builtin .len,#[x],#[T]⟩,ty,pos,af,g⟩ E H (.int .i64 s.size):=by
 intro a w he _;simp [execOp,he.ev hx,resolve,invoke,builtin,Aa9,Bx hT.get,goInt]
theorem xA{p:Option Addr}{k c:Nat}{e:TypeId}[hT:Ar P T (.slice e)](hx:ev E x=some (.slice p k c)):
  Aa P B n ⟨d,.call ⟨.builtin .cap,#[x],#[T]⟩,ty,pos,af,g⟩ E H (.int .i64 c):=by
 intro a w he _;simp [execOp,he.ev hx,resolve,invoke,builtin,Builtin.cap_,Bx hT.get,goInt]
theorem YL{b o k c i sz:Nat}{e:TypeId}{ik:IntKind}[hT:Ar P T (.slice e)][hz:Bw P e sz](hx:ev E x=some (.slice (some ⟨b,o,none⟩) k c))
  (hy:ev E y=some (.int ik i))(h:i<k):Aa P B n ⟨d,.indexAddr T x y,ty,pos,af,g⟩ E H (.pointer (some ⟨b,o+i*sz,none⟩)):=by
 intro a w he _;simp only [execOp,he.ev hx,he.ev hy,Aa3,asIntOf,b_,c_,a_,Bx hT.get]
 have h0:(0:Int)≤i∧(i:Int)<k:=by omega
 simp only [h0,and_self,if_true,b_,hz.get,a_,c_,Int.toNat_natCast];by_cases hk:i*sz=0<;>simp [j',hk]
theorem O1{b o len i sz:Nat}{e:TypeId}{ik:IntKind}[hT:Ar P T (.array len e)][hz:Bw P e sz](hx:ev E x=some (.pointer (some ⟨b,o,none⟩)))
  (hy:ev E y=some (.int ik i))(h:i<len):Aa P B n ⟨d,.indexAddr T x y,ty,pos,af,g⟩ E H (.pointer (some ⟨b,o+i*sz,none⟩)):=by
 intro a w he _;simp only [execOp,he.ev hx,he.ev hy,Aa3,asIntOf,b_,c_,a_,Bx hT.get,j_]
 have h0:(0:Int)≤i∧(i:Int)<len:=by omega
 simp only [h0,and_self,if_true,b_,hz.get,a_,c_,Int.toNat_natCast];by_cases hk:i*sz=0<;>simp [j',hk]
theorem TJ{b o len i sz q:Nat}{e:TypeId}{ik:IntKind}[hT:Ar P T (.array len e)][hz:Bw P e sz](hx:ev E x=some (.pointer (some ⟨b,o,none⟩)))
  (hy:ev E y=some (.int ik i))(h:i<len)(hq:i*sz=q):Aa P B n ⟨d,.indexAddr T x y,ty,pos,af,g⟩ E H (.pointer (some ⟨b,o+q,none⟩)):=hq▸O1 hx hy h
end
end
section
structure CK where
 ds:List Deferred
 r:Option Nat:=none
def fr(r:Option Nat):Fence:={Fence.wide with round:=r}
theorem TR{r:Option Nat}{n:Nat}{P:Program}{f:FuncId}{args:Array Value}{w:World}{R:Ending→World→Prop}(h:Calls P f args w R):CallsIn (fr r) n P f args w R:=
 callsIn_wide (n:=n).2 h
theorem re{r:Option Nat}{n:Nat}{P:Program}{row:String}{args:Array Value}{w:World}{R:Value→World→Prop}(h:Rows P row args w R):RowsIn (fr r) n P row args w R:=
 fun c cs _=>let⟨v,w',hr,hs⟩:=h c cs;⟨v,w',hr,stepsIn_wide.2 hs⟩
theorem PR{r:Option Nat}{n:Nat}{P:Program}{o:Oper}{a:Act}{w:World}{K:Act→World→Prop}{Q:Exit→Act→World→Prop}(ho:∀c,o.op≠ .defer c)(h:o.wp P a w K Q):o.wpIn (fr r) n P a w K Q:=by
 refine⟨fun _ _=>trivial,?_⟩;rw [Oper.semAt_eq _ _ _ ho];unfold t_ at h;generalize(execOp a.eval o).run P w=z at h⊢
 cases z with
 |ok x w'=>
  cases x<;>simp only [h_]at h<;>first
   |exact h
   |exact h.elim
   |exact⟨fun h0=>by simp [fr,Fence.wide]at h0,TR h⟩
   |exact⟨fun h0=>by simp [fr,Fence.wide]at h0,re h⟩
 |halt x w'=>cases x<;>simp only [h_]at h<;>first|exact h|exact h.elim
theorem fY{P:Program}{a:Act}{o:Oper}{c:Call}(ho:o.op=.defer c)(w:World):(∃d w',(execOp a.eval o).run P w=.ok (.defer d) w')∨∃x w',(execOp a.eval o).run P w=.halt x w':=by
 unfold execOp;rw [ho];simp only [b_]
 cases h:(resolve a.eval c o.type).run P w with
 |ok d w'=>exact .inl ⟨d,w',by simp [Result.andThen]⟩
 |halt x w'=>exact .inr ⟨x,w',rfl⟩
def BT(B:World)(Q:Exit→Act→World→Prop)(e:Exit)(n:Nat)(E:A6)(D:CK)(H:HP):Prop:=
 ∀a w,DR n E a→a.defers=D.ds→Sat B H w→Q e a w
def WP(P:Program)(B:World)(c:Code)(Q:Exit→Act→World→Prop)(n:Nat)(E:A6)(D:CK)(H:HP):Prop:=
 ∀a w,DR n E a→a.defers=D.ds→Sat B H w→c.wpIn (fr D.r) 0 P Q a w
def WL(P:Program)(B:World)(ops:Array Oper)(Q:Exit→Act→World→Prop)(l:List Oper)(n:Nat)(E:A6)(D:CK)(H:HP):Prop:=
 ∀a w,DR n E a→a.defers=D.ds→Sat B H w→wpListIn (fr D.r) 0 P ops Q l a w
def C7(P:Program)(B:World)(n:Nat)(o:Oper)(E:A6)(D:CK)(H:HP)(Post:Value→HP→Prop):Prop:=
 ∀a w,DR n E a→a.defers=D.ds→Sat B H w→∀(K:Act→World→Prop) (Q:Exit→Act→World→Prop),
  (∀v H' w',Post v H'→Sat B H' w'→K (a.put o.dst v) w')→o.wp P a w K Q
def Fn(P:Program)(B:World)(f:FuncId)(args:List Value)(H:HP)(Post:Value→HP→Prop):Prop:=
 ∀w,Sat B H w→Calls P f args.toArray w fun e w'=>∃v H',e=.returned v∧Post v H'∧Sat B H' w'
theorem Fn.mono{P:Program}{B:World}{f:FuncId}{args:List Value}{H:HP}{A C:Value→HP→Prop}(h:Fn P B f args H A)(hc:∀v H',A v H'→C v H'):Fn P B f args H C:=
 fun w hw=>(h w hw).mono fun _ _ ⟨v,H',e,a,s⟩=>⟨v,H',e,hc v H' a,s⟩
class AX(P:Program)(f:FuncId):Prop where
 get:∀args w,(callFunc f args).run P w=.ok (.enter f args) w
def Dk(E:A6):List Operand→Option (List Value)
 |[]=>some []
 |x::r=>match ev E x with
  |some v=>match Dk E r with
   |some vs=>some (v::vs)
   |none=>none
  |none=>none
theorem Ih{n:Nat}{E:A6}{a:Act}(h:DR n E a):∀{xs:List Operand} {vs:List Value},Dk E xs=some vs→xs.map a.eval=vs:=by
 intro xs
 induction xs with
 |nil=>intro vs e;simpa [Dk]using e
 |cons x r ih=>
  intro vs e;simp only [Dk]at e
  cases hx:ev E x with
  |none=>simp [hx]at e
  |some v=>
   cases hr:Dk E r with
   |none=>simp [hx,hr]at e
   |some us=>
    simp only [hx,hr,xx.injEq]at e;subst e;simp [h.ev hx,ih hr]
section
variable{P:Program}{B:World}{n:Nat}{E:A6}{D:CK}{H:HP}{ops:Array Oper}{Q:Exit→Act→World→Prop}{rest:List Oper}
 {op:Op} {ty:TypeId} {pos:String} {af:Array Edge}
def P6(P:Program)(B:World)(n:Nat)(o:Oper)(E:A6)(D:CK)(H:HP)(Post:Value→HP→Prop):Prop:=
 ∀a w,DR n E a→a.defers=D.ds→Sat B H w→∀(K:Act→World→Prop) (Q:Exit→Act→World→Prop),
  (∀v H' w',Post v H'→Sat B H' w'→K (a.put o.dst v) w')→o.wpIn (fr D.r) 0 P a w K Q
theorem C7.LI{o:Oper}{Post:Value→HP→Prop}(he:C7 P B n o E D H Post){a:Act}{w:World}(h1:DR n E a)(h2:a.defers=D.ds)(h3:Sat B H w):∀c,o.op≠ .defer c:=by
 intro c hc;have h:=he a w h1 h2 h3 (fun a' _=>a'.defers=a.defers) (fun _ _ _=>False) (fun v H' w' _ _=>by simp [Act.put];cases o.dst<;>rfl);unfold t_ at h;rcases fY (a:=a) (P:=P) hc w with⟨d,w',e⟩|⟨x,w',e⟩
 ·rw [e]at h;have h4:({a with defers:=d::a.defers}.put o.dst undef).defers=a.defers:=h
  have h5:({a with defers:=d::a.defers}.put o.dst undef).defers=d::a.defers:=by cases o.dst<;>rfl
  rw [h5]at h4;exact absurd (congrArg List.length h4) (by simp)
 ·rw [e]at h;cases x<;>exact h.elim
theorem C7.TZ{o:Oper}{Post:Value→HP→Prop}(he:C7 P B n o E D H Post):P6 P B n o E D H Post:=
 fun a w h1 h2 h3 K Q hk=>PR (he.LI h1 h2 h3) (he a w h1 h2 h3 K Q hk)
theorem Aa.TZ{o:Oper}{v:Value}(hv:Aa P B n o E H v):P6 P B n o E D H (fun v' H'=>v'=v∧H'=H):=by
 intro a w h1 h2 h3 K Q hk;refine PR (fun c hc=>?_) ?_
 ·rcases fY (a:=a) (P:=P) hc w with⟨d,w',e⟩|⟨x,w',e⟩<;>rw [hv a w h1 h3]at e<;>cases e
 ·simp only [t_,hv a w h1 h3,h_];exact hk _ _ _ ⟨rfl,rfl⟩ h3
theorem cp(h:BT B Q .normal n E D H):WL P B ops Q [] n E D H:=fun a w h1 h2 h3=>wpListIn_nil (h a w h1 h2 h3)
theorem Ow{t:Nat}{Post:Value→HP→Prop}(he:P6 P B n ⟨some t,op,ty,pos,af,none⟩ E D H Post)(ht:u_ t n=true)
  (next:∀v H',Post v H'→WL P B ops Q rest n ((t,v)::E) D H'):WL P B ops Q (⟨some t,op,ty,pos,af,none⟩::rest) n E D H:=by
 intro a w h1 h2 h3;unfold wpListIn;rw [if_pos (by simp [e_])];exact he a w h1 h2 h3 _ _ fun v H' w' hp hs=>next v H' hp _ w' (h1.put (by simpa using ht) v) (by simp [Act.put,h2]) hs
theorem bi{Post:Value→HP→Prop}(he:P6 P B n ⟨none,op,ty,pos,af,none⟩ E D H Post)
  (next:∀v H',Post v H'→WL P B ops Q rest n E D H'):WL P B ops Q (⟨none,op,ty,pos,af,none⟩::rest) n E D H:=by
 intro a w h1 h2 h3;unfold wpListIn;rw [if_pos (by simp [e_])];exact he a w h1 h2 h3 _ _ fun v H' w' hp hs=>next v H' hp _ w' h1 h2 hs
theorem GZ{t:Nat}{v:Value}(hv:Aa P B n ⟨some t,op,ty,pos,af,none⟩ E H v)(ht:u_ t n=true)
  (next:WL P B ops Q rest n ((t,v)::E) D H):WL P B ops Q (⟨some t,op,ty,pos,af,none⟩::rest) n E D H:=
 Ow hv.TZ ht (by rintro _ _ ⟨rfl,rfl⟩;exact next)
theorem AV{t:Nat}{Post:Value→HP→Prop}(he:C7 P B n ⟨some t,op,ty,pos,af,none⟩ E D H Post)(ht:u_ t n=true)
  (next:∀v H',Post v H'→WL P B ops Q rest n ((t,v)::E) D H'):WL P B ops Q (⟨some t,op,ty,pos,af,none⟩::rest) n E D H:=Ow he.TZ ht next
theorem Bv{Post:Value→HP→Prop}(he:C7 P B n ⟨none,op,ty,pos,af,none⟩ E D H Post)
  (next:∀v H',Post v H'→WL P B ops Q rest n E D H'):WL P B ops Q (⟨none,op,ty,pos,af,none⟩::rest) n E D H:=bi he.TZ next
theorem tF{t j tj:Nat}{b want:Bool}(hj:(ops[j]?).bind (·.dst)=some tj)(hb:lk E tj=some (.bool b))(ht:u_ t n=true)
  (yes:b=want→WL P B ops Q (⟨some t,op,ty,pos,af,none⟩::rest) n E D H)
  (no:b= !want→WL P B ops Q rest n ((t,undef)::E) D H):WL P B ops Q (⟨some t,op,ty,pos,af,some (j,want)⟩::rest) n E D H:=by
 intro a w h1 h2 h3
 have hy:yielded ops a.tmps j=some b:=by
  have:=h1.2 _ _ hb
  simp [yielded,hj,this]
 unfold wpListIn;by_cases h:b=want
 ·have:=yes h a w h1 h2 h3
  unfold wpListIn at this;rw [if_pos (by simp [e_])]at this;rw [if_pos (by simp [e_,hy,h])];exact this
 ·rw [if_neg (by simp [e_,hy,h])];exact⟨fun _ _=>trivial,no (by cases b<;>cases want<;>simp_all) _ w (h1.put (by simpa using ht) undef) (by simp [Act.put,h2]) h3⟩
variable{c x y:Code}{id:Nat}
theorem wY(h:WP P B x (Exit.then (y.wpIn (fr D.r) 0 P Q) Q) n E D H):WP P B (.seq x y) Q n E D H:=fun a w h1 h2 h3=>wpIn_seq (h a w h1 h2 h3)
theorem u6{l:List Oper}(hl:ops.toList=l)(h:WL P B ops Q l n E D H):WP P B (.region id ops false) Q n E D H:=
 fun a w h1 h2 h3=>wpIn_region_list (by rw [hl];exact h a w h1 h2 h3)
theorem Rs{t:Operand}{b:Bool}(hb:ev E t=some (.bool b))(h1:b=true→WP P B x Q n E D H)(h2:b=false→WP P B y Q n E D H):
  WP P B (.cond t x y) Q n E D H:=by
 intro a w e1 e2 e3;refine wpIn_cond (e1.ev hb) ?_;cases b
 ·exact h2 rfl a w e1 e2 e3
 ·exact h1 rfl a w e1 e2 e3
theorem uk{t:Operand}{p:Prop}[Decidable p](hb:ev E t=some (.bool (decide p)))(h1:p→WP P B x Q n E D H)(h2:¬p→WP P B y Q n E D H):
  WP P B (.cond t x y) Q n E D H:=
 Rs hb (fun h=>h1 (by simpa using h)) (fun h=>h2 (by simpa using h))
theorem gu(h:WP P B c (Exit.inBlock id Q) n E D H):WP P B (.block id c) Q n E D H:=fun a w h1 h2 h3=>wpIn_block (h a w h1 h2 h3)
theorem t0(h:BT B Q .normal n E D H):WP P B .skip Q n E D H:=fun a w h1 h2 h3=>wpIn_skip (h a w h1 h2 h3)
theorem W_(h:BT B Q (.exit id) n E D H):WP P B (.exit id) Q n E D H:=fun a w h1 h2 h3=>wpIn_exit (h a w h1 h2 h3)
theorem ii(h:BT B Q .ret n E D H):WP P B .ret Q n E D H:=fun a w h1 h2 h3=>wpIn_ret (h a w h1 h2 h3)
def iH(B:World)(n:Nat)(D:CK){α:Type}(EE:α→A6)(HH:α→HP)(φ:α→Prop)(μ:α→Nat)(m:Nat):Act→World→Prop:=
 fun a w=>∃y,φ y∧μ y<m∧DR n (EE y) a∧a.defers=D.ds∧Sat B (HH y) w
theorem BL{α:Type}(EE:α→A6)(HH:α→HP)(φ:α→Prop)(μ:α→Nat)(x0:α)(h0:φ x0)(s0:Sub E (EE x0))(e0:H=HH x0)
  (round:∀x,φ x→WP P B c (Exit.then (iH B n D EE HH φ μ (μ x)) Q) n (EE x) D (HH x)):WP P B (.loop c) Q n E D H:=by
 intro a w h1 h2 h3;refine wpIn_loop_ghost (fun m a w=>∃y,φ y∧μ y=m∧DR n (EE y) a∧a.defers=D.ds∧Sat B (HH y) w) (μ x0) ⟨x0,h0,rfl,h1.sub s0,h2,e0▸h3⟩ ?_;rintro m a w ⟨y,hy,rfl,g1,g2,g3⟩;refine wpIn_mono (round y hy a w g1 g2 g3) ?_;intro e a' w' hq
 cases e with
 |normal=>obtain⟨z,k1,k2,k3,k4,k5⟩:=hq;exact⟨μ z,k2,z,k1,rfl,k3,k4,k5⟩
 |exit id=>exact hq
 |goto l=>exact hq
 |ret=>exact hq
 |panic ch=>exact hq
 |outgrown=>exact hq
theorem iJ(h:WP P B y Q n E D H):BT B (Exit.then (y.wpIn (fr D.r) 0 P Q) Q) .normal n E D H:=h
theorem lK{K:Act→World→Prop}(h:BT B Q .ret n E D H):BT B (Exit.then K Q) .ret n E D H:=h
theorem cJ{K:Act→World→Prop}(h:BT B Q (.exit id) n E D H):BT B (Exit.then K Q) (.exit id) n E D H:=h
theorem ZP(h:BT B Q .ret n E D H):BT B (Exit.inBlock id Q) .ret n E D H:=h
theorem aF(h:BT B Q .normal n E D H):BT B (Exit.inBlock id Q) .normal n E D H:=h
theorem lG(h:BT B Q .normal n E D H):BT B (Exit.inBlock id Q) (.exit id) n E D H:=by
 intro a w h1 h2 h3;simp only [Exit.inBlock,if_true];exact h a w h1 h2 h3
theorem my{i:Nat}(hi:yt i id=false)(h:BT B Q (.exit i) n E D H):BT B (Exit.inBlock id Q) (.exit i) n E D H:=by
 intro a w h1 h2 h3
 have:i≠id:=fun e=>by subst e;simp at hi
 simp only [Exit.inBlock,this,if_false];exact h a w h1 h2 h3
theorem At{α:Type}{EE:α→A6}{HH:α→HP}{φ:α→Prop}{μ:α→Nat}{m:Nat}(z:α)(h0:φ z)(hm:μ z<m)(s0:Sub E (EE z))(e0:H=HH z):
  BT B (Exit.then (iH B n D EE HH φ μ m) Q) .normal n E D H:=
 fun _ _ h1 h2 h3=>⟨z,h0,hm,h1.sub s0,h2,e0▸h3⟩
def QG(B:World)(n:Nat)(D:CK){α:Type}(EE:α→A6)(HH:α→HP)(φ:α→Prop)(Q:Exit→Act→World→Prop):Exit→Act→World→Prop
 | .normal,a,w=>∃y,φ y∧DR n (EE y) a∧a.defers=D.ds∧Sat B (HH y) w
 |e,a,w=>Q e a w
theorem BO{α:Type}(EE:α→A6)(HH:α→HP)(φ:α→Prop)(h1:WP P B c (QG B n D EE HH φ Q) n E D H)
  (h2:∀z,φ z→BT B Q .normal n (EE z) D (HH z)):WP P B c Q n E D H:=by
 intro a w e1 e2 e3;refine wpIn_mono (h1 a w e1 e2 e3) ?_;intro e a' w' hq
 cases e with
 |normal=>obtain⟨z,k1,k3,k4,k5⟩:=hq;exact h2 z k1 a' w' k3 k4 k5
 |exit id=>exact hq
 |goto l=>exact hq
 |ret=>exact hq
 |panic ch=>exact hq
 |outgrown=>exact hq
theorem AU{α:Type}{EE:α→A6}{HH:α→HP}{φ:α→Prop}(z:α)(h0:φ z)(s0:Sub E (EE z))(e0:H=HH z):
  BT B (QG B n D EE HH φ Q) .normal n E D H:=fun _ _ h1 h2 h3=>⟨z,h0,h1.sub s0,h2,e0▸h3⟩
theorem Zg{α:Type}{EE:α→A6}{HH:α→HP}{φ:α→Prop}(h:BT B Q .ret n E D H):BT B (QG B n D EE HH φ Q) .ret n E D H:=h
theorem oB{α:Type}{EE:α→A6}{HH:α→HP}{φ:α→Prop}(h:BT B Q (.exit id) n E D H):BT B (QG B n D EE HH φ Q) (.exit id) n E D H:=h
theorem Ap{H':HP}(e:H=H')(h:WP P B c Q n E D H'):WP P B c Q n E D H:=e▸h
theorem Aw{H':HP}{l:List Oper}(e:H=H')(h:WL P B ops Q l n E D H'):WL P B ops Q l n E D H:=e▸h
theorem qr{α:Type}{A:α→HP}{R:HP}(h:∀z,WP P B c Q n E D (A z*R)):WP P B c Q n E D (HP.ex A*R):=by
 intro a w h1 h2 h3;rw [HP.HV]at h3;obtain⟨z,h4⟩:=Sat.ex.1 h3;exact h z a w h1 h2 h4
theorem tu{p:Prop}{R:HP}(h:p→WP P B c Q n E D R):WP P B c Q n E D (HP.pr p*R):=by
 intro a w h1 h2 h3;obtain⟨hp,h4⟩:=Sat.pr.1 h3;exact h hp a w h1 h2 h4
theorem OI{E':A6}(s:Sub E E')(h:WP P B c Q n E' D H):WP P B c Q n E D H:=fun a w h1 h2 h3=>h a w (h1.sub s) h2 h3
def KN:Nat→List Value→A6
 |_,[]=>[]
 |k,v::r=>(k,v)::KN (k+1) r
theorem NQ:∀(vs:List Value) (k t:Nat) (v:Value),lk (KN k vs) t=some v→k≤t∧vs[t-k]?=some v
 |[],_,_,_,h=>by cases h
 |u::r,k,t,v,h=>by
  simp only [KN,lk]at h;cases hb:yt k t
  ·rw [hb]at h;obtain⟨h1,h2⟩:=NQ r (k+1) t v h;refine⟨by omega,?_⟩;rw [show t-k=(t-(k+1))+1 by omega];simpa using h2
  ·rw [hb]at h;obtain rfl:=n_ hb;exact⟨zm _,by simpa using h⟩
def Ip(P:Program)(B:World)(fn:Func)(Post:Value→HP→Prop):Exit→Act→World→Prop:=
 bodyPost P fn fun e w'=>∃v H',e=.returned v∧Post v H'∧Sat B H' w'
theorem tY{f:FuncId}{fn:Func}{args:List Value}{Post:Value→HP→Prop}(hf:P.funcs[f]?=some fn)(hb:fn.body=some c)(hn:fn.ntmps=n)
  (ha:Aae args.length n=true)(h:WP P B c (Ip P B fn Post) n (KN 0 args) ⟨[],none⟩ H):Fn P B f args H Post:=by
 intro w hw;refine calls_of_wp hf hb (wpIn_wide.1 (h _ w ⟨?_,?_⟩ rfl hw))
 ·have:args.length≤n:=by simpa using ha
  simp [hn];omega
 ·intro t v e;obtain⟨_,h2⟩:=NQ args 0 t v e;simp only [Nat.sub_zero]at h2;have hlt:t<args.length:=(p_.1 h2).1;simp only [];rw [Array.getElem?_append_left (by simpa using hlt)];simpa using h2
def Fk:List Value→Value
 |[v]=>v
 |vs=>.tuple vs.toArray
theorem LK{fn:Func}{a:Act}{ts:List Nat}{vs:List Value}(hr:fn.results=(ts.map xr).toArray)(he:DR n E a)
  (hv:Dk E (ts.map Operand.tmp)=some vs)(w:World):(results fn a.tmps).run P w=.ok (Fk vs) w:=by
 have h1:=Ih he hv
 have h2:∀f:ResultVar→Sem Value,(∀t,f (.tmp t)=Pure.pure (a.tmps.getD t undef))→fn.results.mapM f=Pure.pure vs.toArray:=by
  intro f hf
  have h3:List.mapM (f ∘ xr) ts=Pure.pure (ts.map fun t=>a.tmps.getD t undef):=by
   rw [show f ∘ xr=fun t=>Pure.pure (a.tmps.getD t undef)from funext hf];exact List.mapM_pure ..
  rw [hr,List.mapM_toArray,List.mapM_map,h3,map_pure,←h1,Aaa];rfl
 unfold results;rw [h2 _ (fun _=>rfl)];simp only [pure_bind,c_];congr 1
 match vs with
 |[]=>rfl
 |[v]=>rfl
 |u::v::r=>
  rw [dif_neg (by simp)];rfl
theorem lQ{r:Option Nat}{fn:Func}{Post:Value→HP→Prop}{ts:List Nat}{vs:List Value}(hr:fn.results=(ts.map xr).toArray)(hv:Dk E (ts.map Operand.tmp)=some vs)
  (hp:Post (Fk vs) H):BT B (Ip P B fn Post) .ret n E ⟨[],r⟩ H:=
 fun _ w h1 h2 h3=>⟨h2,_,LK hr h1 hv w,_,_,rfl,hp,h3⟩
theorem RD{r:Option Nat}{fn:Func}{Post:Value→HP→Prop}{ts:List Nat}{vs:List Value}(hr:fn.results=(ts.map xr).toArray)(hv:Dk E (ts.map Operand.tmp)=some vs)
  (hp:Post (Fk vs) H):BT B (Ip P B fn Post) .normal n E ⟨[],r⟩ H:=
 fun _ w h1 h2 h3=>⟨h2,_,LK hr h1 hv w,_,_,rfl,hp,h3⟩
end
end
section
class Row(H:HP)(b o:Nat)(l:outParam (List Value))(R:outParam HP):Prop where
 eq:H=HP.AA b o l*R
instance(b o:Nat)(l:List Value):Row (HP.AA b o l) b o l HP.BQ:=⟨(HP.Gb _).symm⟩
instance(priority:=2000)(C:HP)(b o:Nat)(l:List Value):Row (HP.AA b o l*C) b o l C:=⟨rfl⟩
instance(A C R:HP)(b o:Nat)(l:List Value)[h:Row A b o l R]:Row (A*C) b o l (R*C):=⟨by rw [h.eq,HP.assoc]⟩
instance(A C R:HP)(b o:Nat)(l:List Value)[h:Row C b o l R]:Row (A*C) b o l (A*R):=⟨by rw [h.eq,HP.C8]⟩
theorem Sat.cells{B:World}{b o:Nat}{l:List Value}{R:HP}{w:World}(h:Sat B (HP.AA b o l*R) w)(j:Nat)(v:Value)(e:l[j]?=some v):
  w.cell? ⟨b,o+j,none⟩=some v:=by
 obtain⟨_,r,hr,hl⟩:=h.left;refine hl.cell b (o+j) v ?_;rw [show r=_ from hr];simp [e]
theorem Sat.LM{P:Program}{B:World}{b:Nat}:∀(vs:List Value) (o i:Nat) (l:List Value) (R:HP) (w:World),vs.length≤l.length→(∀v∈vs,v.oneCell'=true)→
  Sat B (HP.AA b (o+i) l*R) w→
  ∃w',(storeCells ⟨b,o,none⟩ vs i).run P w=.ok () w'∧Sat B (HP.AA b (o+i) (vs++l.drop vs.length)*R) w'
 |[],o,i,l,R,w,_,_,h=>⟨w,rfl,by simpa using h⟩
 |v::vs,o,i,[],R,w,hl,_,h=>by simp at hl
 |v::vs,o,i,u::l,R,w,hl,hv,h=>by
  have hU:C5 (HP.AA b (o+i) (u::l)*R) b (o+i+0) v (HP.AA b (o+i) (v::l)*R) True:=inferInstance;obtain⟨⟨u',hc⟩,hf,hs⟩:=Sat.store hU h trivial;simp only [yf]at hc hf hs
  have ha:j' ⟨b,o,none⟩ i=⟨b,o+i,none⟩:=by by_cases hi:i=0<;>simp [j',hi]
  have hs':Sat B (HP.AA b (o+(i+1)) l*(HP.AA b (o+i) [v]*R)) (w.setCell ⟨b,o+i,none⟩ v):=by
   rw [show(v::l)=[v]++l from rfl,HP.Ft]at hs;rw [HP.C8,←HP.assoc];exact hs
  obtain⟨w',h1,h2⟩:=Sat.LM vs o (i+1) l _ _ (by simpa using hl) (fun x hx=>hv x (by simp [hx])) hs';refine⟨w',?_,?_⟩
  ·simp only [storeCells,b_,ha];rw [run_store P w _ v _ (hv v (by simp))];simp only [hc,hf];exact h1
  ·rw [show(v::vs)++List.drop (v::vs).length (u::l)=[v]++(vs++l.drop vs.length)from rfl,HP.Ft,HP.assoc,HP.C8];exact h2
section
variable{P:Program}{B:World}{n:Nat}{E:A6}{D:CK}{H:HP}{d:Option Tmp}{T T' ty:TypeId}{pos:String}{af:Array Edge}{g:Option (Nat×Bool)}{x y:Operand}
theorem EG{b i:Nat}{v:Value}{H':HP}{s:Prop}[hT:CQ P T](hx:ev E x=some (.pointer (some ⟨b,i,none⟩)))(hy:ev E y=some v)(hv:v.oneCell'=true)
  [hU:C5 H b i v H' s](hs:s):C7 P B n ⟨d,.store T x y,ty,pos,af,g⟩ E D H (fun v H''=>v=undef∧H''=H'):=by
 intro a w h1 _ h3 K Q hk;obtain⟨⟨u,hc⟩,hf,hs'⟩:=Sat.store hU h3 hs
 have hcs:v.cells= #[v]:=by cases v<;>first|rfl|cases hv
 have hrun:(execOp a.eval ⟨d,.store T x y,ty,pos,af,g⟩).run P w=.ok .skip (w.setCell ⟨b,i,none⟩ v):=by
  simp only [execOp,h1.ev hx,h1.ev hy,Aa4,j_,b_,c_,a_,storeVar,hT.size,hcs];simp [storeCells,j',run_store P w ⟨b,i,none⟩ v _ hv,hc,hf]
 simp only [t_,hrun,h_];exact hk undef H' _ ⟨rfl,rfl⟩ hs'
theorem GS{b i k:Nat}{cs l:List Value}{R:HP}[hT:E6 P T k](hx:ev E x=some (.pointer (some ⟨b,i,none⟩)))(hy:ev E y=some (.agg cs.toArray))
  (hl:cs.length=k∧l.length=k)(hv:∀v∈cs,v.oneCell'=true)
  [hU:Row H b i l R]:C7 P B n ⟨d,.store T x y,ty,pos,af,g⟩ E D H (fun v H''=>v=undef∧H''=HP.AA b i cs*R):=by
 intro a w h1 _ h3 K Q hk;rw [hU.eq]at h3;obtain⟨w',hw1,hw2⟩:=Sat.LM (P:=P) cs i 0 l R w (by omega) hv h3
 have hrun:(execOp a.eval ⟨d,.store T x y,ty,pos,af,g⟩).run P w=.ok .skip w':=by
  simp only [execOp,h1.ev hx,h1.ev hy,Aa4,j_,b_,c_,a_,storeVar,hT.size,Value.cells];simp [hl.1,hw1]
 simp only [t_,hrun,h_];refine hk undef _ _ ⟨rfl,rfl⟩ ?_;rw [List.drop_eq_nil_of_le (by omega)]at hw2;simpa using hw2
theorem GX{z:Value}{l:List Value}[hz:BZ P T z](hl:z.cells.toList=l):
  C7 P B n ⟨d,.alloc T,ty,pos,af,g⟩ E D H (fun v H'=>∃b,v=.pointer (some ⟨b,0,none⟩)∧H'=HP.AA b 0 l*H):=by
 intro a w _ _ h3 K Q hk
 have hrun:(execOp a.eval ⟨d,.alloc T,ty,pos,af,g⟩).run P w=.ok (.value (.pointer (some ⟨w.heap.size,0,none⟩))) (w.alloc (.cells z.cells T)):=by
  simp [execOp,Instr.alloc,hz.get,newVar,newRow]
 simp only [t_,hrun,h_];exact hk _ _ _ ⟨w.heap.size,rfl,rfl⟩ (hl▸h3.alloc z.cells T)
theorem DP{v:Value}{l:List Value}(hx:ev E x=some v)(hl:v.cells.toList=l):
  C7 P B n ⟨d,.box T x,ty,pos,af,g⟩ E D H (fun v H'=>∃b,v=.pointer (some ⟨b,0,none⟩)∧H'=HP.AA b 0 l*H):=by
 intro a w h1 _ h3 K Q hk
 have hrun:(execOp a.eval ⟨d,.box T x,ty,pos,af,g⟩).run P w=.ok (.value (.pointer (some ⟨w.heap.size,0,none⟩))) (w.alloc (.cells v.cells T)):=by
  simp [execOp,h1.ev hx,Instr.box,newVar,newRow]
 simp only [t_,hrun,h_];exact hk _ _ _ ⟨w.heap.size,rfl,rfl⟩ (hl▸h3.alloc v.cells T)
theorem BK{f:FuncId}{xs:List Operand}{vs:List Value}{ats:Array TypeId}{Post:Value→HP→Prop}[hf:AX P f](hx:Dk E xs=some vs)(hs:Fn P B f vs H Post):
  C7 P B n ⟨d,.call ⟨.value (.func f),xs.toArray,ats⟩,ty,pos,af,g⟩ E D H Post:=by
 intro a w h1 _ h3 K Q hk
 have hrun:(execOp a.eval ⟨d,.call ⟨.value (.func f),xs.toArray,ats⟩,ty,pos,af,g⟩).run P w=.ok (.enter f vs.toArray) w:=by
  simp only [execOp,resolve,g_,Ih h1 hx,Act.eval,Deferred.ofValue,b_,c_,a_,invoke];simp [hf.get]
 simp only [t_,hrun,h_];refine(hs w h3).mono ?_;rintro e w' ⟨v,H',rfl,hp,hs'⟩;exact hk v H' w' hp hs'
theorem Iz{f:FuncId}{t:Operand}{xs:List Operand}{vs us:List Value}{ats:Array TypeId}{Post:Value→HP→Prop}[hf:AX P f]
  (ht:ev E t=some (.func (.func f) #[] us.toArray))(hx:Dk E xs=some vs)(hs:Fn P B f (vs++us) H Post):
  C7 P B n ⟨d,.call ⟨.value t,xs.toArray,ats⟩,ty,pos,af,g⟩ E D H Post:=by
 intro a w h1 _ h3 K Q hk
 have hrun:(execOp a.eval ⟨d,.call ⟨.value t,xs.toArray,ats⟩,ty,pos,af,g⟩).run P w=.ok (.enter f (vs++us).toArray) w:=by
  simp only [execOp,resolve,g_,Ih h1 hx,h1.ev ht,Deferred.ofValue,b_,c_,a_,invoke];simp [hf.get]
 simp only [t_,hrun,h_];refine(hs w h3).mono ?_;rintro e w' ⟨v,H',rfl,hp,hs'⟩;exact hk v H' w' hp hs'
theorem Dp{b i k:Nat}{l:List Value}{R:HP}[hT:E6 P T k](hx:ev E x=some (.pointer (some ⟨b,i,none⟩)))[hr:Row H b i l R](hl:l.length=k):
  Aa P B n ⟨d,.load T x,ty,pos,af,g⟩ E H (.agg l.toArray):=by
 intro a w he hw;rw [hr.eq]at hw
 have h1:(loadCells ⟨b,i,none⟩ k).run P w=.ok l.toArray w:=by
  rw [←hl];refine run_loadCells_list w ⟨b,i,none⟩ l fun j v e=>?_
  have:=hw.cells j v e
  by_cases hj:j=0
  ·subst hj;simpa [j']using this
  ·simpa [j',hj]using this
 simp [execOp,he.ev hx,Aa8,j_,loadVar,hT.get,hT.size,h1]
end
end
section
class PQ(Q:Exit→Act→World→Prop):Prop where
 get:∀c a w d v,Q (.panic c) (Act.put a d v) w→Q (.panic c) a w
 out:∀a w,¬Q .outgrown a w
instance{K:Act→World→Prop}{Q:Exit→Act→World→Prop}[h:PQ Q]:PQ (Exit.then K Q):=⟨h.get,h.out⟩
instance{id:Nat}{Q:Exit→Act→World→Prop}[h:PQ Q]:PQ (Exit.inBlock id Q):=⟨h.get,h.out⟩
instance{B:World}{n:Nat}{D:CK}{α:Type}{EE:α→A6}{HH:α→HP}{φ:α→Prop}{Q:Exit→Act→World→Prop}[h:PQ Q]:PQ (QG B n D EE HH φ Q):=⟨h.get,h.out⟩
instance{P:Program}{B:World}{fn:Func}{Post:Value→HP→Prop}:PQ (Ip P B fn Post):=⟨by
 intro c a w d v h
 cases d<;>exact h,by rintro a w ⟨v,H',h,_⟩;cases h⟩
def LI(ops:Array Oper):Bool:=ops.all fun o=>match o.op with| .defer _=>false|_=>true
theorem ly{ops:Array Oper}(h:LI ops=true){i:Nat}{o:Oper}(ho:ops[i]?=some o)(c:Call):o.op≠ .defer c:=by
 simp only [LI,yg]at h
 have:=h o (Array.mem_of_getElem? ho)
 intro e;rw [e]at this;cases this
theorem tm{P:Program}{ops:Array Oper}{Q:Exit→Act→World→Prop}{r:Option Nat}{i:Nat}{K:Act→World→Prop}{a:Act}{w:World}(hd:LI ops=true)(hq:∀a w,¬Q .outgrown a w)
  (h:wpOp P ops Q i K a w):wpOpIn (fr r) 0 P ops Q i K a w:=by
 unfold wpOp at h;unfold wpOpIn
 cases ho:ops[i]? with
 |none=>simpa [ho]using h
 |some o=>
  simp only [ho]at h⊢;split
  ·rename_i hw;simp only [hw,if_true]at h;exact PR (ly hd ho) (h.resolve_right fun⟨_,a,w,h1⟩=>hq a w h1)
  ·rename_i hw;simp only [hw]at h;exact⟨fun _ _=>trivial,h⟩
theorem sD{P:Program}{ops:Array Oper}{Q:Exit→Act→World→Prop}{r:Option Nat}(hd:LI ops=true)(hq:∀a w,¬Q .outgrown a w):∀(fuel:Nat) (ls:Array Bool) (a:Act) (w:World),
  wpAny P .any ops Q fuel ls a w→wpAnyIn (fr r) 0 P .any ops Q fuel ls a w
 |0,_,_,_,h=>h
 |fuel+1,_,_,_,⟨h1,h2⟩=>⟨h1,fun i hi=>wpOpIn_mono (fun a w h=>sD hd hq fuel _ a w h) (tm hd hq (h2 i hi))⟩
def Oq(P:Program)(ops:Array Oper)(Q:Exit→Act→World→Prop)(S:World→Prop)(last:Nat):Nat→Array Bool→Act→World→Prop
 |0,ls,a,w=>i_ .any ops ls=[]∧Q .normal a w
 |fuel+1,ls,a,w=>(i_ .any ops ls=[]→Q .normal a w)∧
   ∀i∈i_ .any ops ls,wpOp P ops Q i (fun a' w'=>(last≤i∨S w')∧Oq P ops Q S last fuel (ls.setIfInBounds i true) a' w') a w
theorem lS{P:Program}{ops:Array Oper}{Q:Exit→Act→World→Prop}{S:World→Prop}{last:Nat}:∀(fuel:Nat) (ls:Array Bool) (a:Act) (w:World),
  Oq P ops Q S last fuel ls a w→wpAny P .any ops Q fuel ls a w
 |0,_,_,_,h=>h
 |fuel+1,_,_,_,⟨h1,h2⟩=>⟨h1,fun i hi=>wpOp_mono (fun a' w' h=>lS fuel _ a' w' h.2) (h2 i hi)⟩
def NL(ops:Array Oper)(i:Nat):Nat→Nat→Bool
 |0,_=>false
 |f+1,k=>match ops[k]? with
  |none=>false
  |some o=>o.after.any (fun e=>xz .any e&&e.on==i)||o.after.any (fun e=>xz .any e&&NL ops i f e.on)
def waits(ops:Array Oper)(last i:Nat):Bool:=(Aa1 ops.size).all fun j=>u_ j last||NL ops i 8 j
def Qg(ops:Array Oper)(ls:Array Bool):Prop:=∀k o,ops[k]?=some o→ls.getD k false=true→∀e∈o.after,xz .any e=true→ls.getD e.on false=true
def W4(ops:Array Oper)(ls:Array Bool):Bool:=
 (Aa1 ops.size).all fun k=> !ls.getD k false||((ops[k]?).all fun o=>o.after.all fun e=> !xz .any e||ls.getD e.on false)
theorem Tt{ops:Array Oper}{ls:Array Bool}(h:W4 ops ls=true):Qg ops ls:=by
 intro k o ho hl e he hb;simp only [W4,yu,Aa2]at h;have h1:=h k (m_.1 ho).1;rw [ho,hl]at h1;simp only [Bool.not_true,Bool.false_or,Option.all_some,yg]at h1;have h2:=h1 e he;rw [hb]at h2;simpa using h2
theorem ox{ops:Array Oper}{ls:Array Bool}{j:Nat}(h:Qg ops ls)(hj:j∈i_ .any ops ls):Qg ops (ls.setIfInBounds j true):=by
 obtain⟨_,p,hp,hall⟩:=mem_ready.1 hj
 have up:∀m,ls.getD m false=true→(ls.setIfInBounds j true).getD m false=true:=fun m hm=>by
  by_cases e:j=m
  ·subst e;rcases xy j ls.size with h1|h1
   ·simp [h1]
   ·simp [s_ h1]at hm
  ·rwa [getD_set_ne false e]
 intro k o ho hl e he hb;by_cases ek:j=k
 ·subst ek;rw [hp]at ho;obtain rfl:=xx.inj ho;exact up _ (hall e he hb)
 ·rw [getD_set_ne false ek]at hl;exact up _ (h k o ho hl e he hb)
theorem aO{ops:Array Oper}{ls:Array Bool}{i:Nat}(h:Qg ops ls):∀(f k:Nat) (o:Oper),ops[k]?=some o→(∀e∈o.after,xz .any e=true→ls.getD e.on false=true)→
  NL ops i f k=true→ls.getD i false=true
 |0,_,_,_,_,hw=>by cases hw
 |f+1,k,o,ho,hall,hw=>by
  simp only [NL,ho,zr,Array.any_eq_true,x_,beq_iff_eq]at hw;rcases hw with⟨m,hm,hb,he⟩|⟨m,hm,hb,he⟩
  ·have:=hall _ (ze hm) hb
   rwa [he]at this
  ·have h1:=hall _ (ze hm) hb
   cases h2:ops[o.after[m].on]? with
   |none=>
    cases f with
    |zero=>cases he
    |succ f=>simp [NL,h2]at he
   |some q=>exact aO h f _ q h2 (h _ q h2 h1) he
theorem Ti{P:Program}{ops:Array Oper}{Q:Exit→Act→World→Prop}{S:World→Prop}{last i:Nat}{o:Oper}{v:Value}(hi:ops[i]?=some o)
  (hsel:zt ops=true)(hw:waits ops last i=true)(hQ:∀c a w,Q (.panic c) (a.put o.dst v) w→Q (.panic c) a w):
  ∀(fuel:Nat) (ls:Array Bool) (a:Act) (w:World),Qg ops ls→
   (∀j p,ops[j]?=some p→j≠i→ls.getD j true=false→(∀e∈p.after,xz .any e=true→e.on≠i)→o.apart ops p=true)→
   i∈i_ .any ops ls→YieldsIf P ops S o v a→S w→
   Oq P ops Q S last fuel (ls.setIfInBounds i true) (a.put o.dst v) w→Oq P ops Q S last (fuel+1) ls a w:=by
 have hsel':=Region.noSelect_spec hsel;intro fuel
 induction fuel with
 |zero=>
  intro ls a w _ _ hr hy hS h;refine⟨fun e=>by rw [e]at hr;exact absurd hr (by simp),fun j hj=>?_⟩;by_cases e:j=i
  ·subst e;exact hy.wpOp hi hS ⟨.inr hS,h⟩
  ·have:=ready_mono hj e
   rw [h.1]at this;exact absurd this (by simp)
 |succ fuel ih=>
  intro ls a w hcl hf hr hy hS h;refine⟨fun e=>by rw [e]at hr;exact absurd hr (by simp),fun j hj=>?_⟩;by_cases e:j=i
  ·subst e;exact hy.wpOp hi hS ⟨.inr hS,h⟩
  ·have h1:=h.2 j (ready_mono hj e);obtain⟨hun,p,hp,hall⟩:=mem_ready.1 hj;have hnl:ls.getD i true=false:=(mem_ready.1 hr).1
   have hnot:∀e∈p.after,xz .any e=true→e.on≠i:=fun e he hb heq=>by
    have h2:=hall e he hb;rw [heq]at h2;rcases xy i ls.size with hlt|hge
    ·simp [hlt]at h2 hnl;rw [hnl]at h2;cases h2
    ·simp [s_ hge]at h2
   have hjl:¬last≤j:=fun e2=>by
    have hlt:=(m_.1 hp).1
    have hw2:(u_ j last||NL ops i 8 j)=true:=by
     simp only [waits,yu,Aa2]at hw;exact hw j hlt
    simp only [zr,Nat.blt_eq]at hw2;have h3:=aO hcl 8 j p hp hall (hw2.resolve_left (by omega));rcases xy i ls.size with h4|h4
    ·simp [h4]at h3 hnl;rw [hnl]at h3;cases h3
    ·simp [s_ h4]at h3
   have h2:=wpOp_putIf hp (hf j p hp e hun hnot) (fun cs b=>hsel' i o cs b hi) (fun cs b=>hsel' j p cs b hp) hQ hy h1;refine wpOp_mono (fun a' w' h3=>?_) h2;have hS':S w':=h3.2.1.resolve_left hjl;refine⟨.inr hS',ih _ a' w' (ox hcl hj) ?_ (ready_mono hr (Ne.symm e)) h3.1 hS' ?_⟩
   ·intro k q hq hki hun2 hno;refine hf k q hq hki ?_ hno;by_cases hjk:j=k
    ·subst hjk;exact hun
    ·rwa [getD_set_ne true hjk]at hun2
   ·rw [Array.setIfInBounds_comm _ _ e];exact h3.2.2
def WA(P:Program)(B:World)(ops:Array Oper)(Q:Exit→Act→World→Prop)(R:HP)(last:Nat)(fuel:Nat)(listed:Array Bool)(n:Nat)(E:A6)(D:CK)(H:HP):Prop:=
 ∀a w,DR n E a→a.defers=D.ds→Sat B H w→Oq P ops Q (Sat B R) last fuel listed a w
class JO(H R:HP):Prop where
 get:∀r,H r→∃x y,As.dj x y∧r=x.un y∧R x
instance(priority:=2000)(H:HP):JO H H:=⟨fun r h=>⟨r,As.nil,(As.VL r).symm,(As.yB r).symm,h⟩⟩
instance(priority:=1800)(A C:HP):JO (A*C) A:=⟨fun r ⟨x,y,d,e,a,_⟩=>⟨x,y,d,e,a⟩⟩
instance(priority:=1500)(A C D R:HP)[h:JO (A*(C*D)) R]:JO (A*C*D) R:=by rw [HP.assoc];exact h
instance(priority:=1400)(A C D H:HP)[h:JO H (A*(C*D))]:JO H (A*C*D):=by rw [HP.assoc];exact h
instance(priority:=900)(A C R:HP)[h:JO C R]:JO (A*C) R:=⟨fun r ⟨x,y,d,e,_,c⟩=>by
 obtain⟨u,v,d2,e2,hr⟩:=h.get y c
 subst e2
 obtain⟨d3,d4⟩:=As.Ms.1 d
 refine⟨u,x.un v,As.Ms.2 ⟨d3.symm,d2⟩,?_,hr⟩
 rw [e,←As.Pa,←As.Pa,As.YJ d3]⟩
instance(priority:=1000)(A C R:HP)[h:JO C R]:JO (A*C) (A*R):=⟨fun r ⟨x,y,d,e,a,c⟩=>by
 obtain⟨u,v,d2,e2,hr⟩:=h.get y c
 subst e2
 obtain⟨d3,d4⟩:=As.Ms.1 d
 refine⟨x.un u,v,As.X7.2 ⟨d4,d2⟩,?_,x,u,d3,rfl,a,hr⟩
 rw [e,As.Pa]⟩
class CE(B:World)(H R:HP):Prop where
 get:∀w,Sat B H w→Sat B R w
instance(B:World)(H R:HP)[h:JO H R]:CE B H R:=⟨fun _ ⟨h1,r,hr,hl⟩=>by
 obtain⟨x,y,_,e,hx⟩:=h.get r hr
 exact⟨h1,x,hx,(e▸hl).left⟩⟩
theorem CE.BQ(B:World)(H:HP):CE B H HP.BQ:=⟨fun _ h=>h.BQ⟩
theorem CE.of{B:World}{A H R:HP}(h:H=A*R):CE B H R:=⟨fun _ hw=>(h▸hw).right⟩
def Bt(ops:Array Oper)(ls:Array Bool)(last i:Nat):Bool:=
 zt ops&&Region.free .any ops ls i&&(i_ .any ops ls).contains i&&waits ops last i&&W4 ops ls
section
variable{P:Program}{B:World}{n:Nat}{E:A6}{D:CK}{H R:HP}{ops:Array Oper}{Q:Exit→Act→World→Prop}{fuel last:Nat}{ls:Array Bool}
 {op:Op} {ty:TypeId} {pos:String} {af:Array Edge}
theorem Dc{id:Nat}(R:HP)(last k:Nat)(hm:P.follows .mixedOrders=true)(hk:ops.size=k)[hq:PQ Q](hd:LI ops=true)(h:WA P B ops Q R last k (zu k false) n E D H):WP P B (.region id ops true) Q n E D H:=
 fun a _ h1 h2 h3=>wpIn_region_any hm (by rw [hk];exact sD hd hq.out _ _ _ _ (lS _ _ _ _ (h a _ h1 h2 h3.Jp)))
theorem mf{id:Nat}(last k:Nat)(hm:P.follows .mixedOrders=true)(hk:ops.size=k)[hq:PQ Q](hd:LI ops=true)(h:WA P B ops Q H last k (zu k false) n E D H):WP P B (.region id ops true) Q n E D H:=
 Dc H last k hm hk hd h
theorem Ln(i:Nat){t:Nat}{v:Value}(hi:ops[i]?=some ⟨some t,op,ty,pos,af,none⟩)(hk:Bt ops ls last i=true)[hq:PQ Q][hE:CE B H R](ht:u_ t n=true)
  (hv:Aa P B n ⟨some t,op,ty,pos,af,none⟩ E R v)(next:WA P B ops Q R last fuel (ls.setIfInBounds i true) n ((t,v)::E) D H):
  WA P B ops Q R last (fuel+1) ls n E D H:=by
 intro a w h1 h2 h3;simp only [Bt,x_]at hk;obtain⟨⟨⟨⟨hs,hf⟩,hr⟩,hl⟩,hcl⟩:=hk;refine Ti hi hs hl (fun c a w=>hq.get c a w _ _) fuel ls a w (Tt hcl) (yv hi hf) (by simpa using hr) (.inl ⟨by simp [e_],fun w' hw'=>hv a w' h1 hw'⟩) (hE.get w h3) ?_;exact next _ w (h1.put (by simpa using ht) v) (by simp [Act.put,h2]) h3
theorem yV(i:Nat){t j tj:Nat}{v:Value}{b:Bool}(hi:ops[i]?=some ⟨some t,op,ty,pos,af,some (j,b)⟩)(hk:Bt ops ls last i=true)[hq:PQ Q][hE:CE B H R](ht:u_ t n=true)
  (hj:(ops[j]?).bind (·.dst)=some tj)(hb:lk E tj=some (.bool b))
  (hv:Aa P B n ⟨some t,op,ty,pos,af,none⟩ E R v)(next:WA P B ops Q R last fuel (ls.setIfInBounds i true) n ((t,v)::E) D H):
  WA P B ops Q R last (fuel+1) ls n E D H:=by
 intro a w h1 h2 h3
 have hy:yielded ops a.tmps j=some b:=by
  have:=h1.2 _ _ hb
  simp [yielded,hj,this]
 simp only [Bt,x_]at hk;obtain⟨⟨⟨⟨hs,hf⟩,hr⟩,hl⟩,hcl⟩:=hk;refine Ti hi hs hl (fun c a w=>hq.get c a w _ _) fuel ls a w (Tt hcl) (yv hi hf) (by simpa using hr) (.inl ⟨by simp [e_,hy],fun w' hw'=>hv a w' h1 hw'⟩) (hE.get w h3) ?_;exact next _ w (h1.put (by simpa using ht) v) (by simp [Act.put,h2]) h3
theorem u9(i:Nat){t j tj:Nat}{b want:Bool}(hi:ops[i]?=some ⟨some t,op,ty,pos,af,some (j,want)⟩)(hk:Bt ops ls last i=true)[hq:PQ Q][hE:CE B H R](ht:u_ t n=true)
  (hj:(ops[j]?).bind (·.dst)=some tj)(hb:lk E tj=some (.bool b))(hne:b= !want)
  (next:WA P B ops Q R last fuel (ls.setIfInBounds i true) n ((t,undef)::E) D H):
  WA P B ops Q R last (fuel+1) ls n E D H:=by
 intro a w h1 h2 h3
 have hy:yielded ops a.tmps j=some b:=by
  have:=h1.2 _ _ hb
  simp [yielded,hj,this]
 simp only [Bt,x_]at hk;obtain⟨⟨⟨⟨hs,hf⟩,hr⟩,hl⟩,hcl⟩:=hk;refine Ti hi hs hl (fun c a w=>hq.get c a w _ _) fuel ls a w (Tt hcl) (yv hi hf) (by simpa using hr) (.inr ⟨by rw [hne]at hy;cases want<;>simp [e_,hy],rfl⟩) (hE.get w h3) ?_;exact next _ w (h1.put (by simpa using ht) undef) (by simp [Act.put,h2]) h3
theorem Al(i:Nat){t:Nat}{Post:Value→HP→Prop}(hr:i_ .any ops ls=[i])(hi:ops[i]?=some ⟨some t,op,ty,pos,af,none⟩)(ht:u_ t n=true)
  (he:C7 P B n ⟨some t,op,ty,pos,af,none⟩ E D H Post)
  (next:∀v H',Post v H'→(last≤i∨CE B H' R)∧WA P B ops Q R last fuel (ls.setIfInBounds i true) n ((t,v)::E) D H'):
  WA P B ops Q R last (fuel+1) ls n E D H:=by
 intro a w h1 h2 h3;refine⟨(fun h0=>by rw [hr]at h0;cases h0),fun j hj=>?_⟩;rw [hr]at hj;obtain rfl:=v_.1 hj;unfold wpOp;rw [hi];simp only [e_,if_true];refine .inl (he a w h1 h2 h3 _ _ fun v H' w' hp hs=>?_);obtain⟨n1,n2⟩:=next v H' hp;exact⟨n1.imp id (fun h=>h.get w' hs),n2 _ w' (h1.put (by simpa using ht) v) (by simp [Act.put,h2]) hs⟩
theorem D9(i:Nat){Post:Value→HP→Prop}(hr:i_ .any ops ls=[i])(hi:ops[i]?=some ⟨none,op,ty,pos,af,none⟩)
  (he:C7 P B n ⟨none,op,ty,pos,af,none⟩ E D H Post)
  (next:∀v H',Post v H'→(last≤i∨CE B H' R)∧WA P B ops Q R last fuel (ls.setIfInBounds i true) n E D H'):
  WA P B ops Q R last (fuel+1) ls n E D H:=by
 intro a w h1 h2 h3;refine⟨(fun h0=>by rw [hr]at h0;cases h0),fun j hj=>?_⟩;rw [hr]at hj;obtain rfl:=v_.1 hj;unfold wpOp;rw [hi];simp only [e_,if_true];refine .inl (he a w h1 h2 h3 _ _ fun v H' w' hp hs=>?_);obtain⟨n1,n2⟩:=next v H' hp;exact⟨n1.imp id (fun h=>h.get w' hs),n2 _ w' h1 h2 hs⟩
theorem Ec(i:Nat){t:Nat}{v:Value}(hr:i_ .any ops ls=[i])(hi:ops[i]?=some ⟨some t,op,ty,pos,af,none⟩)(ht:u_ t n=true)
  (hv:Aa P B n ⟨some t,op,ty,pos,af,none⟩ E H v)(hR:last≤i∨CE B H R)(next:WA P B ops Q R last fuel (ls.setIfInBounds i true) n ((t,v)::E) D H):
  WA P B ops Q R last (fuel+1) ls n E D H:=
 Al i hr hi ht (Post:=fun v' H'=>v'=v∧H'=H) (fun a w h1 _ h3 K Q hk=>by simp only [t_,hv a w h1 h3,h_];exact hk _ _ _ ⟨rfl,rfl⟩ h3) (by rintro _ _ ⟨rfl,rfl⟩;exact⟨hR,next⟩)
theorem FB{H':HP}(e:H=H')(h:WA P B ops Q R last fuel ls n E D H'):WA P B ops Q R last fuel ls n E D H:=e▸h
theorem eu(hr:i_ .any ops ls=[])(h:BT B Q .normal n E D H):WA P B ops Q R last fuel ls n E D H:=
 fun a w h1 h2 h3=>by
  cases fuel with
  |zero=>exact⟨hr,h a w h1 h2 h3⟩
  |succ fuel=>exact⟨fun _=>h a w h1 h2 h3,fun i hi=>by rw [hr]at hi;cases hi⟩
theorem tD(i j:Nat)(hr:i_ .any ops ls=[i,j]){oi oj:Oper}{Pi Pj:Value→HP→Prop}{ti tj:Nat}(hi:ops[i]?=some oi)(hj:ops[j]?=some oj)
  (di:oi.dst=some ti)(dj:oj.dst=some tj)(gi:oi.guard=none)(gj:oj.guard=none)(hti:u_ ti n=true)(htj:u_ tj n=true)
  (ei:C7 P B n oi E D H Pi)(ej:C7 P B n oj E D H Pj)
  (ni:∀v H',Pi v H'→(last≤i∨CE B H' R)∧WA P B ops Q R last fuel (ls.setIfInBounds i true) n ((ti,v)::E) D H')
  (nj:∀v H',Pj v H'→(last≤j∨CE B H' R)∧WA P B ops Q R last fuel (ls.setIfInBounds j true) n ((tj,v)::E) D H'):
  WA P B ops Q R last (fuel+1) ls n E D H:=by
 intro a w h1 h2 h3;refine⟨(fun h0=>by rw [hr]at h0;cases h0),fun k hk=>?_⟩;rw [hr]at hk;rcases Aa5.1 hk with rfl|hk
 ·unfold wpOp;rw [hi];simp only [e_,gi,if_true];refine .inl (ei a w h1 h2 h3 _ _ fun v H' w' hp hs=>?_);obtain⟨n1,n2⟩:=ni v H' hp;exact⟨n1.imp id (fun h=>h.get w' hs),n2 _ w' (by rw [di];exact h1.put (by simpa using hti) v) (by rw [di];simp [Act.put,h2]) hs⟩
 ·obtain rfl:=v_.1 hk;unfold wpOp;rw [hj];simp only [e_,gj,if_true];refine .inl (ej a w h1 h2 h3 _ _ fun v H' w' hp hs=>?_);obtain⟨n1,n2⟩:=nj v H' hp;exact⟨n1.imp id (fun h=>h.get w' hs),n2 _ w' (by rw [dj];exact h1.put (by simpa using htj) v) (by rw [dj];simp [Act.put,h2]) hs⟩
end
end
section
class AB(α:Type) where
 sz:Nat
 Am:α→List Value
 AC:α
 len:∀x,(Am x).length=sz
 one:∀x,∀v∈Am x,v.oneCell'=true
abbrev u8(b:UInt8):Value:=.int .u8 (b.toNat:Nat)
@[reducible] instance:AB UInt8:=⟨1,fun b=>[u8 b],0,fun _=>rfl,fun _ v h=>by rw [v_.1 h];rfl⟩
@[simp] theorem Tf:AB.sz UInt8=1:=rfl
@[simp] theorem vC(b:UInt8):AB.Am b=[u8 b]:=rfl
@[simp] theorem vp:(AB.AC:UInt8)=0:=rfl
def AE{α:Type}[AB α](xs:List α):List Value:=xs.flatMap AB.Am
theorem CD{α:Type}[AB α](xs:List α):(AE xs).length=xs.length*AB.sz α:=by
 induction xs with
 |nil=>simp [AE]
 |cons x xs ih=>simp only [AE,xu,f_,AB.len,List.length_cons]at*;rw [ih,zf,Nat.add_comm]
theorem E0{α:Type}[AB α](xs ys:List α):AE (xs++ys)=AE xs++AE ys:=by simp [AE]
theorem Lw{α:Type}[AB α](xs:List α):∀v∈AE xs,v.oneCell'=true:=by
 intro v h;obtain⟨x,_,h2⟩:=List.mem_flatMap.1 h;exact AB.one x v h2
theorem Xd{α:Type}[AB α]:∀(xs:List α) (i f:Nat) (v:Value),i<xs.length→(AB.Am (xs.getD i AB.AC))[f]?=some v→(AE xs)[i*AB.sz α+f]?=some v
 |[],i,f,v,h,_=>by simp at h
 |x::xs,0,f,v,_,h=>by
  simp only [List.getD_cons_zero]at h;have hlt:f<(AB.Am x).length:=(p_.1 h).1;simp only [AE,xu,Nat.zero_mul,zg];rw [o_ hlt];exact h
 |x::xs,i+1,f,v,hi,h=>by
  simp only [List.getD_cons_succ]at h
  have:=Xd xs i f v (by simpa using hi) h
  simp only [AE,xu]at*;rw [xw (by rw [AB.len,zf];omega),AB.len,show(i+1)*AB.sz α+f-AB.sz α=i*AB.sz α+f by rw [zf];omega];exact this
def AD{α:Type}[AB α](b o:Nat)(xs:List α)(s:List Value):HP:=HP.AA b o (AE xs++s)
theorem FI{α:Type}[AB α](b o:Nat):AD b o ([]:List α) []=HP.BQ:=by simp [AD,AE,HP.eZ]
theorem R6{α:Type}[AB α]{b o i f:Nat}{xs:List α}{s:List Value}{v:Value}(h:(AB.Am (xs.getD i AB.AC))[f]?=some v)(r:As)(hr:AD b o xs s r)(hi:i<xs.length):
  r.c b (o+i*AB.sz α+f)=some v:=by
 have h1:=Xd xs i f v hi h;have hlt:i*AB.sz α+f<(AE xs).length:=(p_.1 h1).1;rw [show r=_ from hr];simp only [];rw [if_pos (And.intro trivial (by omega)),show o+i*AB.sz α+f-o=i*AB.sz α+f by omega,o_ hlt,h1]
instance{α:Type}[AB α](b o i f:Nat)(xs:List α)(s:List Value)(v:Value)[h:Nu (AB.Am (xs.getD i AB.AC)) f v]:
  Cell (AD b o xs s) b (o+i*AB.sz α+f) v (i<xs.length):=⟨R6 h.get⟩
instance{α:Type}[AB α](b o i:Nat)(xs:List α)(s:List Value)(v:Value)[h:Nu (AB.Am (xs.getD i AB.AC)) 0 v]:
  Cell (AD b o xs s) b (o+i*AB.sz α) v (i<xs.length):=⟨R6 (f:=0) h.get⟩
instance(b o i:Nat)(xs:List UInt8)(s:List Value):Cell (AD b o xs s) b (o+i*1) (u8 (xs.getD i 0)) (i<xs.length):=⟨R6 (f:=0) rfl⟩
def Sl(p:Option Addr)(b o k c:Nat):Prop:=(c=0∨p=some ⟨b,o,none⟩)∧k≤c
class AW{α:Type}[AB α](B:World)(H:HP)(b o:Nat)(xs:List α):Prop where
 get:∀i f v,(AB.Am (xs.getD i AB.AC))[f]?=some v→i<xs.length→∀w,Sat B H w→w.cell? ⟨b,o+i*AB.sz α+f,none⟩=some v
instance{α:Type}[AB α](B:World)(b o:Nat)(xs:List α)(s:List Value):AW B (AD b o xs s) b o xs:=
 ⟨fun _ _ v h hi _ ⟨_,r,hr,hl⟩=>hl.cell _ _ v (R6 h r hr hi)⟩
instance{α:Type}[AB α](B:World)(A C:HP)(b o:Nat)(xs:List α)[h:AW B A b o xs]:AW B (A*C) b o xs:=⟨fun i f v e hi w hw=>h.get i f v e hi w hw.left⟩
instance{α:Type}[AB α](B:World)(A C:HP)(b o:Nat)(xs:List α)[h:AW B C b o xs]:AW B (A*C) b o xs:=⟨fun i f v e hi w hw=>h.get i f v e hi w hw.right⟩
theorem OS{B:World}{H:HP}{b o:Nat}{xs:List UInt8}(h:AW B H b o xs)(i:Nat):
  Rd B H b (o+i*1) (u8 (xs.getD i 0)) (i<xs.length):=⟨fun w hw hi=>h.get i 0 _ rfl hi w hw⟩
def sp(p:Option Addr)(c l sz:Nat):Option Addr:=if c=l then p else p.map (·.add (l*sz))
theorem I9{p:Option Addr}{b o k c l h sz:Nat}(hs:Sl p b o k c)(hl:l≤h)(hh:h≤c):Sl (sp p c l sz) b (o+l*sz) (h-l) (c-l):=by
 refine⟨?_,by omega⟩;by_cases e:c=l
 ·left;omega
 ·rcases hs.1 with h1|h1
  ·omega
  ·right;rw [sp,if_neg e,h1];by_cases e2:l*sz=0<;>simp [j',e2]
theorem AW.sub{α:Type}[AB α]{B:World}{H:HP}{b o:Nat}{xs:List α}(hr:AW B H b o xs)(l h:Nat)(hh:h≤xs.length):AW B H b (o+l*AB.sz α) ((xs.take h).drop l):=by
 refine⟨fun i f v e hi w hw=>?_⟩
 have hi':l+i<h:=by simp at hi;omega
 have h1:((xs.take h).drop l).getD i AB.AC=xs.getD (l+i) AB.AC:=by
  simp [Aaf,List.getElem?_drop,hi']
 rw [h1]at e
 have:=hr.get (l+i) f v e (by omega) w hw
 rw [show o+l*AB.sz α+i*AB.sz α+f=o+(l+i)*AB.sz α+f by rw [zn];omega];exact this
def CH{α:Type}[AB α](R:HP)(xs:List α)(v:Value)(H':HP):Prop:=
 ∃p b o c s,v=.slice p xs.length c∧Sl p b o xs.length c∧xs.length*AB.sz α+s.length=c*AB.sz α∧H'=AD b o xs s*R
section
variable{P:Program}{B:World}{n:Nat}{E:A6}{D:CK}{H:HP}{d:Option Tmp}{T T' ty:TypeId}{pos:String}{af:Array Edge}{g:Option (Nat×Bool)}{x y z:Operand}
theorem Bm{p:Option Addr}{b o k c i sz:Nat}{e:TypeId}{ik:IntKind}[hT:Ar P T (.slice e)][hz:Bw P e sz](hx:ev E x=some (.slice p k c))
  (hy:ev E y=some (.int ik i))(hs:Sl p b o k c)(h:i<k):Aa P B n ⟨d,.indexAddr T x y,ty,pos,af,g⟩ E H (.pointer (some ⟨b,o+i*sz,none⟩)):=by
 obtain⟨h1,h2⟩:=hs;obtain rfl:=h1.resolve_left (by omega);exact YL hx hy h
theorem G7{ik:IntKind}{i m:Nat}{c:BoundsCode}(h:i≤m)(w:World):(zi (.int ik i) m c).run P w=.ok i w:=by
 have h0:(0:Int)≤i∧(i:Int)≤m:=by omega
 simp [zi,asIntOf,h0]
theorem Kt{p:Option Addr}{k c sz l:Nat}{e:TypeId}{ik:IntKind}[hT:Ar P T (.slice e)][hz:Bw P e sz](hx:ev E x=some (.slice p k c))(hy:ev E y=some (.int ik l))
  (h:l≤k):Aa P B n ⟨d,.slice T x (some y) none none,ty,pos,af,g⟩ E H (.slice (sp p c l sz) (k-l) (c-l)):=by
 intro a w he _;simp only [execOp,he.ev hx,yd,w_,he.ev hy,yb,zo,q',b_,Bx hT.get,a_,c_,G7 h,hz.get,ye];rfl
theorem UO{p:Option Addr}{k c sz h:Nat}{e:TypeId}{ik:IntKind}[hT:Ar P T (.slice e)][hz:Bw P e sz](hx:ev E x=some (.slice p k c))(hy:ev E y=some (.int ik h))
  (hc:h≤c):Aa P B n ⟨d,.slice T x none (some y) none,ty,pos,af,g⟩ E H (.slice p h c):=by
 intro a w he _;simp only [execOp,he.ev hx,yd,w_,he.ev hy,yb,zo,q',b_,Bx hT.get,a_,c_,G7 hc,hz.get,ye];cases p<;>simp [j']
theorem PS{p:Option Addr}{k c sz l h:Nat}{e:TypeId}{ik jk:IntKind}[hT:Ar P T (.slice e)][hz:Bw P e sz](hx:ev E x=some (.slice p k c))(hy:ev E y=some (.int ik l))(hz':ev E z=some (.int jk h))
  (hc:l≤h∧h≤c):Aa P B n ⟨d,.slice T x (some y) (some z) none,ty,pos,af,g⟩ E H (.slice (sp p c l sz) (h-l) (c-l)):=by
 intro a w he _;simp only [execOp,he.ev hx,yd,w_,he.ev hy,he.ev hz',yb,zo,q',b_,Bx hT.get,a_,c_,G7 hc.1,G7 hc.2,hz.get,ye];rfl
theorem ut{b o len:Nat}{e sz:Nat}[hT:Ar P T (.array len e)][hz:Bw P e sz](hx:ev E x=some (.pointer (some ⟨b,o,none⟩))):
  Aa P B n ⟨d,.slice T x none none none,ty,pos,af,g⟩ E H (.slice (some ⟨b,o,none⟩) len len):=by
 intro a w he _;simp only [execOp,he.ev hx,w_,yb,q',b_,Bx hT.get,j_,a_,c_,hz.get];simp [j']
theorem kI{b o len l:Nat}{e sz:Nat}{ik:IntKind}[hT:Ar P T (.array len e)][hz:Bw P e sz](hx:ev E x=some (.pointer (some ⟨b,o,none⟩)))(hy:ev E y=some (.int ik l))(h:l≤len):
  Aa P B n ⟨d,.slice T x (some y) none none,ty,pos,af,g⟩ E H (.slice (sp (some ⟨b,o,none⟩) len l sz) (len-l) (len-l)):=by
 intro a w he _;simp only [execOp,he.ev hx,yd,w_,he.ev hy,yb,q',b_,Bx hT.get,j_,a_,c_,hz.get,G7 h,ye];by_cases e:len=l<;>simp [sp,e]
theorem ZC{b o len h:Nat}{e sz:Nat}{ik:IntKind}[hT:Ar P T (.array len e)][hz:Bw P e sz](hx:ev E x=some (.pointer (some ⟨b,o,none⟩)))(hy:ev E y=some (.int ik h))(hh:h≤len):
  Aa P B n ⟨d,.slice T x none (some y) none,ty,pos,af,g⟩ E H (.slice (some ⟨b,o,none⟩) h len):=by
 intro a w he _;simp only [execOp,he.ev hx,yd,w_,he.ev hy,yb,q',b_,Bx hT.get,j_,a_,c_,hz.get,G7 hh];simp [j']
end
section
variable{P:Program}{B:World}{α:Type}[AB α]
theorem AW.run{H:HP}{b o:Nat}{xs:List α}(h:AW B H b o xs){w:World}(hw:Sat B H w):(loadCells ⟨b,o,none⟩ (xs.length*AB.sz α)).run P w=.ok (AE xs).toArray w:=by
 rw [←CD];refine run_loadCells_list w ⟨b,o,none⟩ (AE xs) fun j v e=>?_
 have hj:j<xs.length*AB.sz α:=by rw [←CD];exact(p_.1 e).1
 have hpos:0<AB.sz α:=by rcases Nat.eq_zero_or_pos (AB.sz α)with h0|h0;rw [h0]at hj;omega;exact h0
 have hi:j/AB.sz α<xs.length:=(Nat.div_lt_iff_lt_mul hpos).2 hj;have hsplit:j/AB.sz α*AB.sz α+j%AB.sz α=j:=Nat.div_add_mod' ..;have hm:j%AB.sz α<AB.sz α:=Nat.mod_lt _ hpos
 have he:(AB.Am (xs.getD (j/AB.sz α) AB.AC))[j%AB.sz α]?=some v:=by
  obtain⟨u,hu⟩:∃u,(AB.Am (xs.getD (j/AB.sz α) AB.AC))[j%AB.sz α]?=some u:=by
   rw [r_ (by rw [AB.len];exact hm)];exact⟨_,rfl⟩
  have:=Xd xs _ _ u hi hu
  rw [hsplit,e]at this;rw [hu,this]
 have:=h.get _ _ v he hi w hw
 rw [Nat.add_assoc,hsplit]at this;by_cases hj0:j=0
 ·subst hj0;simpa [j']using this
 ·simpa [j',hj0]using this
theorem cZ{R:HP}{b o:Nat}{p:Option Addr}{c:Nat}{xs ys:List α}{s:List Value}{sT xT:TypeId}{ats:Array TypeId}{e by_:Nat}{ty:TypeId}{x:Value}{w:World}{z:Value}
  (hT:P.underlying sT=some (.slice e))(ha0:ats[0]?=some sT)(ha1:ats[1]?=some xT)(hxT:∀k,P.underlying xT≠some (.int k))(hxT':∃d,P.underlying xT=some d)
  (hz:∀w,(sizeOf e).run P w=.ok (AB.sz α) w)(hi:∃i,(∀w,(typeInfo e).run P w=.ok i w)∧i.bytes=by_)(h0:∀w,(zeroValue e).run P w=.ok z w)(hzc:z.cells.size=AB.sz α)
  (hs:Sl p b o xs.length c)(hc:xs.length*AB.sz α+s.length=c*AB.sz α)
  (hlen:(Aa6 x).run P w=.ok ys.length w)
  (hx':∀w',Sat B (AD b o xs s*R) w'→(d_ (AB.sz α) ys.length x).run P w'=.ok (AE ys).toArray w')
  (hb:(xs.length+ys.length)*by_≤140737488355328)(hby:0<by_)(hw:Sat B (AD b o xs s*R) w):
  ∃v w',(q_ ats ty #[.slice p xs.length c,x]).run P w=.ok v w'∧∃H',CH R (xs++ys) v H'∧Sat B H' w':=by
 have hcells:=hx' w hw;obtain⟨dx,hdx⟩:=hxT';obtain⟨inf,hinf,rfl⟩:=hi;have hdx':∀k,dx≠ .int k:=fun k h=>hxT k (by rw [hdx,h])
 have hzero:(match dx with| .int _=>true|_=>false)=false:=by cases dx<;>first|rfl|exact absurd rfl (hdx' _)
 by_cases hn:xs.length+ys.length≤c
 ·
  by_cases hc0:c=0
  ·have hx0:xs=[]:=g'.1 (by omega);have hy0:ys=[]:=g'.1 (by omega);subst hx0 hy0 hc0
   have hrun:(q_ ats ty #[.slice p ([]:List α).length 0,x]).run P w=.ok (.slice p 0 0) w:=by
    simp only [q_,ha0,ha1];simp only [List.length_nil,yf]at*;simp [Bx hT,Bx hdx,hz,hlen,hcells,AE];cases p<;>simp [storeCells]
   exact⟨_,w,hrun,_,⟨p,b,o,0,s,rfl,hs,hc,rfl⟩,hw⟩
  ·obtain rfl:=hs.1.resolve_left hc0;have hcm:=yk (AB.sz α) hn;rw [zn]at hcm
   have hw2:Sat B (HP.AA b (o+xs.length*AB.sz α+0) s*(HP.AA b o (AE xs)*R)) w:=by
    rw [HP.C8,←HP.assoc,yf,←CD,←HP.Ft];exact hw
   obtain⟨w',h1,h2⟩:=Sat.LM (P:=P) (AE ys) (o+xs.length*AB.sz α) 0 s _ w (by rw [CD];omega) (Lw ys) hw2
   have ha:j' ⟨b,o,none⟩ (xs.length*AB.sz α)=⟨b,o+xs.length*AB.sz α,none⟩:=by
    by_cases e2:xs.length*AB.sz α=0<;>simp [j',e2]
   have hrun:(q_ ats ty #[.slice (some ⟨b,o,none⟩) xs.length c,x]).run P w=.ok (.slice (some ⟨b,o,none⟩) (xs.length+ys.length) c) w':=by
    simp only [q_,ha0,ha1];simp [Bx hT,Bx hdx,hz,hlen,hn,hcells,ha,h1]
   refine⟨_,w',hrun,_,⟨some ⟨b,o,none⟩,b,o,c,s.drop (AE ys).length,by rw [f_],⟨.inr rfl,by rw [f_];exact hn⟩,?_,rfl⟩,?_⟩
   ·rw [f_,List.length_drop,CD,zn];omega
   ·unfold AD;rw [E0,zh,HP.Ft,HP.assoc,HP.C8,CD xs,←yf (o+xs.length*AB.sz α)];exact h2
 ·
  have hby0:¬inf.bytes=0:=by omega
  have hg:¬281474976710656<Builtin.nextslicecap (xs.length+ys.length) c*inf.bytes:=by
   have:=growslice_fits (old:=c) (by omega) hb;omega
  have hfo:(yp (xs.length+ys.length) c e).forced=false:=rfl
  have hold:(d_ (AB.sz α) xs.length (.slice p xs.length c)).run P w.drew=.ok (AE xs).toArray w.drew:=by
   have hwd:Sat B (AD b o xs s*R) w.drew:=hw.Jp;rcases hs.1 with h1|rfl
   ·have hx0:xs=[]:=g'.1 (by have:=hs.2;omega);subst hx0;cases p<;>simp [d_,AE,loadCells,loadCellsFrom]
   ·simp only [d_];exact AW.run (H:=AD b o xs s*R) inferInstance hwd
  have hnew:=hx' w.drew hw.Jp
  obtain⟨N,hN⟩:∃N,N=(yp (xs.length+ys.length) c e).cut (w.tape w.drawn (yp (xs.length+ys.length) c e)):=⟨_,rfl⟩
  have hle:xs.length+ys.length≤N:=by rw [hN];simp [Aab]
  have hrun:(q_ ats ty #[.slice p xs.length c,x]).run P w=.ok (.slice (some ⟨w.heap.size,0,none⟩) (xs.length+ys.length) N)
    (w.drew.alloc (.cells ((AE xs).toArray++((AE ys).toArray++k_ z.cells (N-(xs.length+ys.length)))) e)):=by
   simp only [q_,ha0,ha1];simp [Bx hT,Bx hdx,hz,hlen,hn,hinf,hby0,hg,hfo,hold,hnew,h0,newRow,←hN]
  have hcm:=yk (AB.sz α) hle;have hall:=(show Sat B (AD b o xs s*R) w.drew from hw.Jp).alloc ((AE xs).toArray++((AE ys).toArray++k_ z.cells (N-(xs.length+ys.length)))) e;refine⟨_,_,hrun,_,⟨some ⟨w.heap.size,0,none⟩,w.heap.size,0,N,(k_ z.cells (N-(xs.length+ys.length))).toList,by rw [f_],⟨.inr rfl,by rw [f_];exact hle⟩,?_,rfl⟩,?_⟩
  ·have e1:(k_ z.cells (N-(xs.length+ys.length))).toList.length=(N-(xs.length+ys.length))*AB.sz α:=by rw [←hzc];simp [k_]
   rw [f_,e1,Nat.sub_mul];omega
  ·have e2:((AE xs).toArray++((AE ys).toArray++k_ z.cells (N-(xs.length+ys.length)))).toList=AE xs++(AE ys++(k_ z.cells (N-(xs.length+ys.length))).toList):=by simp
   rw [e2,HP.C8]at hall;unfold AD;rw [E0,zh];exact hall.right
theorem Bf{n:Nat}{E:A6}{D:CK}{R:HP}{d:Option Tmp}{sT xT ty e by_:Nat}{pos:String}{af:Array Edge}{g:Option (Nat×Bool)}{x y:Operand}{b o bb oo cc c:Nat}{p pp:Option Addr}
  {xs ys:List α}{s:List Value}{z:Value}[hT:Ar P sT (.slice e)][hT2:Ar P xT (.slice e)][hz:Bw P e (AB.sz α)][hi:FH P e by_][h0:BZ P e z]
  (hx:ev E x=some (.slice p xs.length c))(hs:Sl p b o xs.length c)(hc:xs.length*AB.sz α+s.length=c*AB.sz α)
  (hy:ev E y=some (.slice pp ys.length cc))(hs2:Sl pp bb oo ys.length cc)(hr:AW B (AD b o xs s*R) bb oo ys)(hzc:z.cells.size=AB.sz α)
  (hb:(xs.length+ys.length)*by_≤140737488355328)(hby:0<by_):
  C7 P B n ⟨d,.call ⟨.builtin .append,#[x,y],#[sT,xT]⟩,ty,pos,af,g⟩ E D (AD b o xs s*R) (fun v H'=>CH R (xs++ys) v H'):=by
 intro a w h1 _ h3 K Q hk
 have hf:∀w',Sat B (AD b o xs s*R) w'→(d_ (AB.sz α) ys.length (.slice pp ys.length cc)).run P w'=.ok (AE ys).toArray w':=by
  intro w' hw';rcases hs2.1 with h4|rfl
  ·have hx0:ys=[]:=g'.1 (by have:=hs2.2;omega);subst hx0;cases pp<;>simp [d_,AE,loadCells,loadCellsFrom]
  ·simp only [d_];exact hr.run hw'
 obtain⟨v,w',hrun,H',hH,hw'⟩:=cZ (P:=P) (B:=B) (R:=R) (b:=b) (o:=o) (p:=p) (c:=c) (xs:=xs) (ys:=ys) (s:=s) (sT:=sT) (xT:=xT) (ats:= #[sT,xT]) (e:=e) (by_:=by_) (ty:=ty)
  (x:=.slice pp ys.length cc) (w:=w) (z:=z) hT.get rfl rfl (fun k h=>by rw [hT2.get]at h;cases h) ⟨_,hT2.get⟩ hz.get hi.get h0.get hzc hs hc rfl
  (fun w2 hw2=>hf w2 hw2) hb hby h3
 have hrun2:(execOp a.eval ⟨d,.call ⟨.builtin .append,#[x,y],#[sT,xT]⟩,ty,pos,af,g⟩).run P w=.ok (.value v) w':=by
  simp [execOp,resolve,h1.ev hx,h1.ev hy,invoke,builtin,hrun]
 simp only [t_,hrun2,h_];exact hk v H' w' hH hw'
end
end
section
def LL(E:A6):List (Nat×Operand)→Option (List (Nat×Value))
 |[]=>some []
 |(i,x)::r=>match ev E x with
  |some v=>match LL E r with
   |some vs=>some ((i,v)::vs)
   |none=>none
  |none=>none
theorem Vy{n:Nat}{E:A6}{a:Act}(h:DR n E a):∀{xs:List (Nat×Operand)} {vs:List (Nat×Value)},LL E xs=some vs→xs.map (fun(i,x)=>(i,a.eval x))=vs:=by
 intro xs
 induction xs with
 |nil=>intro vs e;simpa [LL]using e
 |cons x r ih=>
  obtain⟨i,x⟩:=x;intro vs e;simp only [LL]at e
  cases hx:ev E x with
  |none=>simp [hx]at e
  |some v=>
   cases hr:LL E r with
   |none=>simp [hx,hr]at e
   |some us=>
    simp only [hx,hr,xx.injEq]at e;subst e;simp [h.ev hx,ih hr]
def BI(xs:List UInt8):ByteArray:=⟨xs.toArray⟩
theorem Ry(s:ByteArray):BI s.data.toList=s:=by cases s;simp [BI]
@[simp] theorem K4(xs:List UInt8):(BI xs).size=xs.length:=by simp [BI,ByteArray.size]
theorem nN(s t:ByteArray):(s.toList==t.toList)=decide (s=t):=by
 rw [ByteArray.toList_eq,ByteArray.toList_eq];by_cases h:s=t
 ·subst h;simp
 ·have:¬s.data=t.data:=fun e=>h (by cases s;cases t;simp_all)
  simp [h,this]
section
variable{P:Program}{B:World}{n:Nat}{E:A6}{D:CK}{H R:HP}{d:Option Tmp}{T T' ty:TypeId}{pos:String}{af:Array Edge}{g:Option (Nat×Bool)}{x y z:Operand}{α:Type}[AB α]
theorem E4{len sz e:Nat}{ps:List (Nat×Operand)}{vs:List (Nat×Value)}{zv:Value}{cs:List Value}[hT:Ar P T (.slice e)][hz:Bw P e sz][h0:BZ P e zv]
  (hx:LL E ps=some vs)(hf:yx (fun i=>some (i*sz,sz)) ((y' (len*sz)).map fun i=>zv.cells[i%zv.cells.size]!) vs=some cs.toArray)(hb:Aae (len*sz) 16777216=true)(hp:u_ 0 (len*sz)=true):
  C7 P B n ⟨d,.buildSlice T len ps.toArray,ty,pos,af,g⟩ E D H (fun v H'=>∃b,v=.slice (some ⟨b,0,none⟩) len len∧H'=HP.AA b 0 cs*H):=by
 intro a w h1 _ h3 K Q hk
 have hb':¬len*sz> 2^24:=by have:=y_ hb;omega
 have hp':¬len*sz=0:=by
  have:0<len*sz:=by simpa using hp
  omega
 have hm:(ps.toArray.map fun(i,x)=>(i,a.eval x)).toList=vs:=by
  rw [g_];exact Vy h1 hx
 have hrun:(execOp a.eval ⟨d,.buildSlice T len ps.toArray,ty,pos,af,g⟩).run P w=.ok (.value (.slice (some ⟨w.heap.size,0,none⟩) len len)) (w.alloc (.cells cs.toArray e)):=by
  simp only [execOp,zj,b_,Bx hT.get,a_,hz.get,hb',if_false,hp',h0.get,c_,hm,hf,newRow];rfl
 simp only [t_,hrun,h_];exact hk _ _ _ ⟨w.heap.size,rfl,rfl⟩ (h3.alloc cs.toArray e)
theorem m9{e by_ c:Nat}{zv:Value}{ik jk:IntKind}[hT:Ar P T (.slice e)][hz:Bw P e (AB.sz α)][hi:FH P e by_][h0:BZ P e zv]
  (hx:ev E x=some (.int ik (0:Nat)))(hy:ev E y=some (.int jk c))(hb:c*by_≤140737488355328∧c<9223372036854775808):
  C7 P B n ⟨d,.makeSlice T x y,ty,pos,af,g⟩ E D H (fun v H'=>CH (α:=α) H [] v H'):=by
 intro a w h1 _ h3 K Q hk;obtain⟨inf,hinf,rfl⟩:=hi.get;have w0:zl.wrap ((0:Nat):Int)=0:=rfl;have w1:zl.wrap (c:Int)=c:=Q8 hb.2
 have hc0:¬(c:Int)<0:=by omega
 have hc1:¬(281474976710656:Int)<inf.bytes*c:=by
  rw [←Int.natCast_mul,Nat.mul_comm];omega
 let zs:=(y' (c*AB.sz α)).map fun i=>zv.cells[i%zv.cells.size]!
 have hrun:∃cs:Array Value,cs.size=c*AB.sz α∧(execOp a.eval ⟨d,.makeSlice T x y,ty,pos,af,g⟩).run P w=.ok (.value (.slice (some ⟨w.heap.size,0,none⟩) 0 c)) (w.alloc (.cells cs e)):=by
  by_cases hn:c*AB.sz α=0
  ·refine⟨#[],by simp [hn],?_⟩;simp only [execOp,h1.ev hx,h1.ev hy,zw,b_,Bx hT.get,a_,asInt,asIntOf,c_,hinf,w0,w1,newRow];simp [hc0,hc1,hn,hz.get]
   have:Array.map (fun _=>(default:Value)) (y' 0)= #[]:=by simp
   rw [this]
  ·refine⟨zs,by simp [zs],?_⟩;simp only [execOp,h1.ev hx,h1.ev hy,zw,b_,Bx hT.get,a_,asInt,asIntOf,c_,hinf,w0,w1,newRow];simp [hc0,hc1,hn,h0.get,zs,hz.get]
 obtain⟨cs,hcs,hrun⟩:=hrun;simp only [t_,hrun,h_];refine hk _ _ _ ⟨some ⟨w.heap.size,0,none⟩,w.heap.size,0,c,cs.toList,rfl,⟨.inr rfl,Nat.zero_le _⟩,by simp [hcs],rfl⟩ ?_
 have:=h3.alloc cs e
 simpa [AD,AE]using this
theorem nr{e:TypeId}{s:ByteArray}[hT:Ar P T .string][hT2:Ar P T' (.slice e)][hE:Ar P e (.int .u8)](hx:ev E x=some (.string s)):
  C7 P B n ⟨d,.convert T T' x,ty,pos,af,g⟩ E D H (fun v H'=>CH H s.data.toList v H'):=by
 intro a w h1 _ h3 K Q hk
 have hrun:(execOp a.eval ⟨d,.convert T T' x,ty,pos,af,g⟩).run P w=.ok (.value (.slice (some ⟨w.heap.size,0,none⟩) s.size (grownCap w s.size 0 e)))
   (w.drew.alloc (.cells (bytesRow s (grownCap w s.size 0 e)) e ((bytesRow s (grownCap w s.size 0 e)).size,(bytesRow s (grownCap w s.size 0 e)).size+1))):=by
  simp only [execOp,h1.ev hx,b_,run_bytes_of_string w T T' e s hT.get hT2.get hE.get,a_,c_]
 have hle:s.size≤grownCap w s.size 0 e:=by simp [grownCap,Aab]
 have hsz:s.data.toList.length=s.size:=by rw [Array.length_toList];rfl
 simp only [t_,hrun,h_];refine hk _ _ _ ⟨some ⟨w.heap.size,0,none⟩,w.heap.size,0,grownCap w s.size 0 e,yq (grownCap w s.size 0 e-s.size) (.int .u8 0),by rw [hsz],⟨.inr rfl,by rw [hsz];exact hle⟩,?_,rfl⟩ ?_
 ·rw [hsz,List.length_replicate,Tf];omega
 ·have:=(show Sat B H w.drew from h3.Jp).nZ (bytesRow s (grownCap w s.size 0 e)) e (bytesRow s (grownCap w s.size 0 e)).size ((bytesRow s (grownCap w s.size 0 e)).size+1) (.inr (zm _))
  have e1:(bytesRow s (grownCap w s.size 0 e)).toList=AE s.data.toList++yq (grownCap w s.size 0 e-s.size) (.int .u8 0):=by
   simp only [bytesRow,Array.toList_append,Array.toList_map,Array.toList_replicate,AE];congr 1
   induction s.data.toList with
   |nil=>rfl
   |cons b l ih=>simp only [yj,xu,ih];rfl
  rw [e1]at this;exact this
theorem Hq{e b o c:Nat}{p:Option Addr}{xs:List UInt8}[hT:Ar P T (.slice e)][hT2:Ar P T' .string][hE:Ar P e (.int .u8)](hx:ev E x=some (.slice p xs.length c))
  (hs:Sl p b o xs.length c)(hr:AW B H b o xs):Aa P B n ⟨d,.convert T T' x,ty,pos,af,g⟩ E H (.string (BI xs)):=by
 intro a w he hw;simp only [execOp,he.ev hx,b_];rcases hs.1 with h1|rfl
 ·have hx0:xs=[]:=g'.1 (by have:=hs.2;omega);subst hx0
  cases p with
  |none=>
   rw [run_convert_bytes_string w T T' e none _ c hT.get hE.get hT2.get];rfl
  |some q=>
   rw [run_convert_bytes_back w T T' e q c [] hT.get hE.get hT2.get (fun j hj=>by simp at hj)];rfl
 ·rw [run_convert_bytes_back w T T' e ⟨b,o,none⟩ c xs hT.get hE.get hT2.get (fun j hj=>?_)]
  ·rfl
  ·have:=hr.get j 0 (u8 xs[j]) (by simp [Aaf,r_ hj]) hj w hw
   simp only [Tf,yl,yf]at this;by_cases hj0:j=0
   ·subst hj0;simpa [j']using this
   ·simpa [j',hj0]using this
theorem rB{sT xT e b o bb oo dl dc cc:Nat}{p pp:Option Addr}{ys:List α}{l:List Value}[hT:Ar P sT (.slice e)][hz:Bw P e (AB.sz α)]
  (hx:ev E x=some (.slice p dl dc))(hs:Sl p b o dl dc)(hy:ev E y=some (.slice pp ys.length cc))(hs2:Sl pp bb oo ys.length cc)(hr:AW B (HP.AA b o l*R) bb oo ys)
  (hl:dl*AB.sz α≤l.length):
  C7 P B n ⟨d,.call ⟨.builtin .copy,#[x,y],#[sT,xT]⟩,ty,pos,af,g⟩ E D (HP.AA b o l*R)
   (fun v H'=>v=.int .i64 (min ys.length dl:Nat)∧H'=HP.AA b o (AE (ys.take (min ys.length dl))++l.drop (min ys.length dl*AB.sz α))*R):=by
 intro a w h1 _ h3 K Q hk;have hm:Nat.min ys.length dl=min ys.length dl:=rfl
 have hlen:(ys.take (min ys.length dl)).length=min ys.length dl:=by simp
 have hr':AW B (HP.AA b o l*R) bb oo (ys.take (min ys.length dl)):=by
  have:=hr.sub 0 (min ys.length dl) (Nat.min_le_left ..)
  simpa using this
 have hf:(d_ (AB.sz α) (min ys.length dl) (.slice pp ys.length cc)).run P w=.ok (AE (ys.take (min ys.length dl))).toArray w:=by
  rcases hs2.1 with h4|rfl
  ·have hx0:ys=[]:=g'.1 (by have:=hs2.2;omega);subst hx0;cases pp<;>simp [d_,AE,loadCells,loadCellsFrom]
  ·simp only [d_]
   have:=hr'.run (P:=P) h3
   rwa [hlen]at this
 have hw2:∃w',((match p with|some q=>storeCells q (AE (ys.take (min ys.length dl)))|none=>pure ()).run P w)=.ok () w'∧
   Sat B (HP.AA b o (AE (ys.take (min ys.length dl))++l.drop (min ys.length dl*AB.sz α))*R) w':=by
  rcases hs.1 with h4|rfl
  ·have hd0:min ys.length dl=0:=by have:=hs.2;omega
   rw [hd0];refine⟨w,?_,by simpa [AE]using h3⟩;cases p<;>simp [AE,storeCells]
  ·have hcm:=yk (AB.sz α) (Nat.min_le_right ys.length dl);obtain⟨w',k1,k2⟩:=Sat.LM (P:=P) (AE (ys.take (min ys.length dl))) o 0 l R w (by rw [CD,hlen];omega) (Lw _) h3;rw [CD,hlen]at k2;exact⟨w',k1,k2⟩
 obtain⟨w',k1,k2⟩:=hw2
 have hrun:(execOp a.eval ⟨d,.call ⟨.builtin .copy,#[x,y],#[sT,xT]⟩,ty,pos,af,g⟩).run P w=.ok (.value (.int .i64 (min ys.length dl:Nat))) w':=by
  simp only [execOp,resolve,g_,yj,List.map_nil,h1.ev hx,h1.ev hy,b_,c_,a_,invoke,builtin];simp only [Builtin.copy_];simp [Bx hT.get,Aa6,hm,hz.get,hf];cases p<;>simp_all [goInt]
 simp only [t_,hrun,h_];exact hk _ _ _ ⟨rfl,rfl⟩ k2
theorem jK{s t:ByteArray}(hx:ev E x=some (.string s))(hy:ev E y=some (.string t)):
  Aa P B n ⟨d,.binOp .eql T x y T',ty,pos,af,g⟩ E H (.bool (decide (s=t))):=by
 intro a w he _;simp only [execOp,he.ev hx,he.ev hy,b_,binOp_string_eql,nN];rfl
theorem Va{s t:ByteArray}(hx:ev E x=some (.string s))(hy:ev E y=some (.string t)):
  Aa P B n ⟨d,.binOp .neq T x y T',ty,pos,af,g⟩ E H (.bool (decide (s≠t))):=by
 intro a w he _;simp only [execOp,he.ev hx,he.ev hy,b_,binOp_string_neq,nN]
 have:(!decide (s=t))=decide (s≠t):=by simp
 rw [this];rfl
end
end
section
abbrev u64(x:UInt64):Value:=.int .u64 (x.toNat:Nat)
@[reducible] instance:AB UInt64:=⟨1,fun b=>[u64 b],0,fun _=>rfl,fun _ v h=>by rw [v_.1 h];rfl⟩
theorem Nq(j:Nat)(h:j<64):(ya j).toNat%64=j:=by
 rw [UInt64.toNat_ofNat'];omega
section
variable{P:Program}{B:World}{n:Nat}{E:A6}{H:HP}{d:Option Tmp}{T T' ty:TypeId}{pos:String}{af:Array Edge}{g:Option (Nat×Bool)}{x y:Operand}
theorem F! {a b:UInt64}(hx:ev E x=some (u64 a))(hy:ev E y=some (u64 b)):Aa P B n ⟨d,.binOp .add T x y T',ty,pos,af,g⟩ E H (u64 (a+b)):=by
 have:=ne (P:=P) (B:=B) (n:=n) (H:=H) (d:=d) (T:=T) (T':=T') (ty:=ty) (pos:=pos) (af:=af) (g:=g) hx hy
 rw [show u64 (a+b)=.int .u64 ((a.toNat+b.toNat)%18446744073709551616:Nat) by rw [u64,UInt64.toNat_add]];exact this
theorem YI{a b:UInt64}(hx:ev E x=some (u64 a))(hy:ev E y=some (u64 b)):Aa P B n ⟨d,.binOp .mul T x y T',ty,pos,af,g⟩ E H (u64 (a*b)):=by
 have:=nB (P:=P) (B:=B) (n:=n) (H:=H) (d:=d) (T:=T) (T':=T') (ty:=ty) (pos:=pos) (af:=af) (g:=g) hx hy
 rw [show u64 (a*b)=.int .u64 ((a.toNat*b.toNat)%18446744073709551616:Nat) by rw [u64,UInt64.toNat_mul]];exact this
theorem M7{a b:UInt64}(hx:ev E x=some (u64 a))(hy:ev E y=some (u64 b)):Aa P B n ⟨d,.binOp .xor T x y T',ty,pos,af,g⟩ E H (u64 (a ^^^b)):=by
 have:=zJ (P:=P) (B:=B) (n:=n) (H:=H) (d:=d) (T:=T) (T':=T') (ty:=ty) (pos:=pos) (af:=af) (g:=g) hx hy ⟨a.toNat_lt,b.toNat_lt⟩
 rw [show u64 (a ^^^b)=.int .u64 (a.toNat ^^^b.toNat:Nat) by rw [u64,UInt64.toNat_xor]];exact this
theorem XZ{a b:UInt64}(hx:ev E x=some (u64 a))(hy:ev E y=some (u64 b)):Aa P B n ⟨d,.binOp .or T x y T',ty,pos,af,g⟩ E H (u64 (a|||b)):=by
 have:=bC (P:=P) (B:=B) (n:=n) (H:=H) (d:=d) (T:=T) (T':=T') (ty:=ty) (pos:=pos) (af:=af) (g:=g) hx hy ⟨a.toNat_lt,b.toNat_lt⟩
 rw [show u64 (a|||b)=.int .u64 (a.toNat|||b.toNat:Nat) by rw [u64,UInt64.toNat_or]];exact this
theorem WF{a:UInt64}{k:IntKind}{j:Nat}(hx:ev E x=some (u64 a))(hy:ev E y=some (.int k j))(h:j<64):
  Aa P B n ⟨d,.binOp .shl T x y T',ty,pos,af,g⟩ E H (u64 (a<<< ya j)):=by
 have:=TB (P:=P) (B:=B) (n:=n) (H:=H) (d:=d) (T:=T) (T':=T') (ty:=ty) (pos:=pos) (af:=af) (g:=g) hx hy (by omega)
 rw [show u64 (a<<< ya j)=.int .u64 (a.toNat*2^j%18446744073709551616:Nat) by
  rw [u64,UInt64.toNat_shiftLeft,Nq j h,Nat.shiftLeft_eq]];exact this
theorem Jk{a:UInt64}{k:IntKind}{j:Nat}(hx:ev E x=some (u64 a))(hy:ev E y=some (.int k j))(h:j<64):
  Aa P B n ⟨d,.binOp .shr T x y T',ty,pos,af,g⟩ E H (u64 (a>>> ya j)):=by
 have:=LA (P:=P) (B:=B) (n:=n) (H:=H) (d:=d) (T:=T) (T':=T') (ty:=ty) (pos:=pos) (af:=af) (g:=g) hx hy (by omega)
 rw [show u64 (a>>> ya j)=.int .u64 (a.toNat/2^j:Nat) by
  rw [u64,UInt64.toNat_shiftRight,Nq j h,Nat.shiftRight_eq_div_pow]];exact this
theorem aT{a b:UInt8}(hx:ev E x=some (u8 a))(hy:ev E y=some (u8 b)):Aa P B n ⟨d,.binOp .xor T x y T',ty,pos,af,g⟩ E H (u8 (a ^^^b)):=by
 have:=M? (P:=P) (B:=B) (n:=n) (H:=H) (d:=d) (T:=T) (T':=T') (ty:=ty) (pos:=pos) (af:=af) (g:=g) hx hy ⟨a.toNat_lt,b.toNat_lt⟩
 rw [show u8 (a ^^^b)=.int .u8 (a.toNat ^^^b.toNat:Nat) by rw [u8,UInt8.toNat_xor]];exact this
theorem SP{a:UInt8}[h1:Ar P T (.int .u8)][h2:Ar P T' (.int .u64)](hx:ev E x=some (u8 a)):Aa P B n ⟨d,.convert T T' x,ty,pos,af,g⟩ E H (u64 a.toUInt64):=by
 have:=Gt (P:=P) (B:=B) (n:=n) (H:=H) (d:=d) (T:=T) (T':=T') (ty:=ty) (pos:=pos) (af:=af) (g:=g) hx (HK (by have:=a.toNat_lt;omega))
 rw [show u64 a.toUInt64=.int .u64 (a.toNat:Nat) by rw [u64,UInt8.toNat_toUInt64]];exact this
theorem tX{a:UInt64}[h1:Ar P T (.int .u64)][h2:Ar P T' (.int .u8)](hx:ev E x=some (u64 a)):Aa P B n ⟨d,.convert T T' x,ty,pos,af,g⟩ E H (u8 a.toUInt8):=by
 have:=TF (P:=P) (B:=B) (n:=n) (H:=H) (d:=d) (T:=T) (T':=T') (ty:=ty) (pos:=pos) (af:=af) (g:=g) hx
 rw [show u8 a.toUInt8=.int .u8 (a.toNat%256:Nat) by rw [u8,UInt64.toNat_toUInt8]];exact this
theorem fx{i:Nat}[h1:Ar P T (.int .i64)][h2:Ar P T' (.int .u8)](hx:ev E x=some (.int .i64 i)):Aa P B n ⟨d,.convert T T' x,ty,pos,af,g⟩ E H (u8 (UInt8.ofNat i)):=by
 have:=TF (P:=P) (B:=B) (n:=n) (H:=H) (d:=d) (T:=T) (T':=T') (ty:=ty) (pos:=pos) (af:=af) (g:=g) hx
 rw [show u8 (UInt8.ofNat i)=.int .u8 (i%256:Nat) by rw [u8,UInt8.toNat_ofNat']];exact this
end
def KT(x:UInt64)(k:Nat):UInt64:=(x<<< ya k)|||(x>>> ya (64-k))
structure S4 where
 a:UInt64
 b:UInt64
 c:UInt64
 d:UInt64
@[reducible] def s4(v:S4):List Value:=[u64 v.a,u64 v.b,u64 v.c,u64 v.d]
def Tr(v:S4):S4:=
 let a:=v.a+v.b
 let b:=KT v.b 13 ^^^a
 let a:=KT a 32
 let c:=v.c+v.d
 let d:=KT v.d 16 ^^^c
 let a:=a+d
 let d:=KT d 21 ^^^a
 let c:=c+b
 let b:=KT b 17 ^^^c
 ⟨a,b,KT c 32,d⟩
def I6:Nat→S4→S4
 |0,v=>v
 |n+1,v=>I6 n (Tr v)
theorem kX(n:Nat)(v:S4):I6 (n+1) v=Tr (I6 n v):=by
 induction n generalizing v with
 |zero=>rfl
 |succ n ih=>rw [I6,ih];rfl
end
section
abbrev ptr(b o:Nat):Value:=.pointer (some ⟨b,o,none⟩)
abbrev iN(n:Nat):Value:=.int .i64 (n:Nat)
class EW(P:Program)(t:TypeId)(pl:outParam (Array (Nat×Nat))):Prop where
 get:∃fs,P.underlying t=some (.struct fs)∧∀w,(fs.mapM fun f=>do pure (f.offset,←sizeOf f.type):Sem (Array (Nat×Nat))).run P w=.ok pl w
instance{α:Type}[AB α](B:World)(b o:Nat)(xs:List α):AW B (HP.AA b o (AE xs)) b o xs:=
 ⟨fun i f v h hi w hw=>(inferInstance:AW B (AD b o xs []) b o xs).get i f v h hi w (by unfold AD;rw [List.append_nil];exact hw)⟩
theorem AW.LB{α:Type}[AB α]{B:World}{H:HP}{b o:Nat}{xs:List α}(h:AW B H b o xs)(l:Nat):AW B H b (o+l*AB.sz α) (xs.drop l):=by
 have:=h.sub l xs.length (zm _)
 rwa [List.take_length]at this
instance(B:World)(H:HP)(b o l:Nat)(xs:List UInt8)[h:AW B H b o xs]:AW B H b (o+l*1) (xs.drop l):=h.LB l
theorem AW.oy{B:World}{H:HP}{b o:Nat}{xs:List UInt8}(h:AW B H b o xs)(l:Nat):AW B H b (o+l) (xs.drop l):=by
 have:AW B H b (o+l*1) (xs.drop l):=inferInstance
 rwa [yl]at this
instance{α:Type}[AB α](B:World)(H:HP)(b o l:Nat)(xs:List α)[h:AW B H b o xs]:AW B H b o (xs.take l):=by
 rcases xy xs.length l with h1|h1
 ·rw [List.take_of_length_le (by omega)];exact h
 ·have:=h.sub 0 l h1
  simpa using this
theorem iG:∀(xs:List UInt8) (i:Nat) (v:UInt8),AE (xs.set i v)=(AE xs).set i (u8 v)
 |[],_,_=>rfl
 |x::xs,0,v=>rfl
 |x::xs,i+1,v=>by
  have:=iG xs i v
  simp only [zb];simp only [AE,xu,vC,List.singleton_append,zb]at*;rw [this]
instance(b o i:Nat)(xs:List UInt8)(s:List Value)(v:UInt8):C5 (AD b o xs s) b (o+i*1) (u8 v) (AD b o (xs.set i v) s) (i<xs.length):=
 ⟨fun r hr hi=>by
  have hfl:(AE xs).length=xs.length:=by rw [CD];simp
  have h:NT (AE xs++s) i (u8 v) ((AE xs++s).set i (u8 v)):=⟨by rw [f_];omega,rfl⟩
  have h2:=(inferInstance:C5 (HP.AA b o (AE xs++s)) b (o+i) (u8 v) (HP.AA b o ((AE xs++s).set i (u8 v))) True).upd r hr trivial
  rw [yl]
  refine⟨h2.1,?_⟩
  have e:AE (xs.set i v)++s=(AE xs++s).set i (u8 v):=by rw [iG,List.set_append_left _ _ (by omega)]
  unfold AD
  rw [e]
  exact h2.2⟩
section
variable{P:Program}{B:World}{n:Nat}{E:A6}{D:CK}{H:HP}{d:Option Tmp}{T T' ty:TypeId}{pos:String}{af:Array Edge}{g:Option (Nat×Bool)}{x y z:Operand}
theorem w7{pl:Array (Nat×Nat)}{z:Value}{ps:List (Nat×Operand)}{vs:List (Nat×Value)}{cs:List Value}[hT:EW P T pl][hz:BZ P T z]
  (hx:LL E ps=some vs)(hf:yx (pl[·]?) z.cells vs=some cs.toArray):Aa P B n ⟨d,.build T ps.toArray,ty,pos,af,g⟩ E H (.agg cs.toArray):=by
 intro a w he _;obtain⟨fs,h1,h2⟩:=hT.get
 have hm:(ps.toArray.map fun(i,x)=>(i,a.eval x)).toList=vs:=by rw [g_];exact Vy he hx
 simp only [execOp,zp,b_,hz.get,a_,Bx h1,h2,hm,hf,c_]
theorem rk{f:Go.Fn}{xs ys:List Operand}{us vs:List Value}(h1:Dk E xs=some us)(h2:Dk E ys=some vs):
  Aa P B n ⟨d,.makeFunc f xs.toArray ys.toArray,ty,pos,af,g⟩ E H (.func f us.toArray vs.toArray):=by
 intro a w he _;simp only [execOp,Instr.makeFunc,g_,Ih he h1,Ih he h2];rfl
theorem TL{b o len k:Nat}{e sz:Nat}[hT:Ar P T (.array len e)][hz:Bw P e sz](hx:ev E x=some (.pointer (some ⟨b,o,none⟩)))(h:k=len):
  Aa P B n ⟨d,.slice T x none none none,ty,pos,af,g⟩ E H (.slice (some ⟨b,o,none⟩) k len):=by subst h;exact ut hx
theorem tw{b o len l k:Nat}{e sz:Nat}{ik:IntKind}[hT:Ar P T (.array len e)][hz:Bw P e sz](hx:ev E x=some (.pointer (some ⟨b,o,none⟩)))(hy:ev E y=some (.int ik l))(h:l≤len)(hk:k=len-l):
  Aa P B n ⟨d,.slice T x (some y) none none,ty,pos,af,g⟩ E H (.slice (sp (some ⟨b,o,none⟩) len l sz) k (len-l)):=by subst hk;exact kI hx hy h
theorem RT{p:Option Addr}{k k' c sz l:Nat}{e:TypeId}{ik:IntKind}[hT:Ar P T (.slice e)][hz:Bw P e sz](hx:ev E x=some (.slice p k c))(hy:ev E y=some (.int ik l))
  (h:l≤k)(hk:k'=k-l):Aa P B n ⟨d,.slice T x (some y) none none,ty,pos,af,g⟩ E H (.slice (sp p c l sz) k' (c-l)):=by subst hk;exact Kt hx hy h
theorem Qi{p:Option Addr}{k k' c sz h:Nat}{e:TypeId}{ik:IntKind}[hT:Ar P T (.slice e)][hz:Bw P e sz](hx:ev E x=some (.slice p k c))(hy:ev E y=some (.int ik h))
  (hc:h≤c)(hk:k'=h):Aa P B n ⟨d,.slice T x none (some y) none,ty,pos,af,g⟩ E H (.slice p k' c):=by subst hk;exact UO hx hy hc
theorem Nx{p:Option Addr}{k k' c sz l h:Nat}{e:TypeId}{ik jk:IntKind}[hT:Ar P T (.slice e)][hz:Bw P e sz](hx:ev E x=some (.slice p k c))(hy:ev E y=some (.int ik l))(hz':ev E z=some (.int jk h))
  (hc:l≤h∧h≤c)(hk:k'=h-l):Aa P B n ⟨d,.slice T x (some y) (some z) none,ty,pos,af,g⟩ E H (.slice (sp p c l sz) k' (c-l)):=by subst hk;exact PS hx hy hz' hc
theorem fc{r:Option Nat}{fn:Func}{Post:Value→HP→Prop}{ts:List Nat}{vs:List Value}(H':HP)(hr:fn.results=(ts.map xr).toArray)(hv:Dk E (ts.map Operand.tmp)=some vs)
  [hE:CE B H H'](hp:Post (Fk vs) H'):BT B (Ip P B fn Post) .ret n E ⟨[],r⟩ H:=
 fun _ w h1 h2 h3=>⟨h2,_,LK hr h1 hv w,_,_,rfl,hp,hE.get w h3⟩
theorem Kw{r:Option Nat}{fn:Func}{Post:Value→HP→Prop}{ts:List Nat}{vs:List Value}(H':HP)(hr:fn.results=(ts.map xr).toArray)(hv:Dk E (ts.map Operand.tmp)=some vs)
  [hE:CE B H H'](hp:Post (Fk vs) H'):BT B (Ip P B fn Post) .normal n E ⟨[],r⟩ H:=
 fun _ w h1 h2 h3=>⟨h2,_,LK hr h1 hv w,_,_,rfl,hp,hE.get w h3⟩
theorem Hs{Q:Exit→Act→World→Prop}{c:Code}(H':HP)[hE:CE B H H'](h:WP P B c Q n E D H'):WP P B c Q n E D H:=fun a w h1 h2 h3=>h a w h1 h2 (hE.get w h3)
theorem jL{ops:Array Oper}{Q:Exit→Act→World→Prop}{l:List Oper}(H':HP)[hE:CE B H H'](h:WL P B ops Q l n E D H'):WL P B ops Q l n E D H:=fun a w h1 h2 h3=>h a w h1 h2 (hE.get w h3)
theorem Au{Q:Exit→Act→World→Prop}{e:Exit}(H':HP)[hE:CE B H H'](h:BT B Q e n E D H'):BT B Q e n E D H:=fun a w h1 h2 h3=>h a w h1 h2 (hE.get w h3)
theorem EC{Q:Exit→Act→World→Prop}{e:Exit}{H':HP}(he:H=H')(h:BT B Q e n E D H'):BT B Q e n E D H:=he▸h
end
theorem Fn.drop{P:Program}{B:World}{f:FuncId}{args:List Value}{H:HP}{A C:Value→HP→Prop}(h:Fn P B f args H A)(hc:∀v H',A v H'→∃H'',C v H''∧∀w,Sat B H' w→Sat B H'' w):Fn P B f args H C:=
 fun w hw=>(h w hw).mono fun _ _ ⟨v,H',e,a,s⟩=>let⟨H'',c,i⟩:=hc v H' a;⟨v,H'',e,c,i _ s⟩
theorem Fn.pre{P:Program}{B:World}{f:FuncId}{args:List Value}{H H':HP}{A:Value→HP→Prop}(e:H=H')(h:Fn P B f args H' A):Fn P B f args H A:=e▸h
end
section
def JB:List (Nat×Operand)→Nat→Option Operand
 |[],_=>none
 |(i,x)::r,k=>bif yt i k then some x else JB r k
def Jo(E:A6)(ps:List (Nat×Operand)):Nat→List Value→Option (List Value)
 |_,[]=>some []
 |k,z::zs=>match JB ps k with
  |some x=>match ev E x with
   |some v=>match Jo E ps (k+1) zs with
    |some r=>some (v::r)
    |none=>none
   |none=>none
  |none=>match Jo E ps (k+1) zs with
   |some r=>some (z::r)
   |none=>none
theorem nE{E:A6}{ps:List (Nat×Operand)}:∀{zs:List Value} {k:Nat} {cs:List Value},Jo E ps k zs=some cs→cs.length=zs.length∧∀j,j<zs.length→
  match JB ps (k+j)with
  |some x=>∃v,ev E x=some v∧cs[j]?=some v
  |none=>cs[j]?=zs[j]?
 |[],k,cs,h=>by simp only [Jo,xx.injEq]at h;subst h;exact⟨rfl,fun j hj=>by simp at hj⟩
 |z::zs,k,cs,h=>by
  simp only [Jo]at h
  cases hr:Jo E ps (k+1) zs with
  |none=>simp only [hr]at h;split at h<;>first|(split at h<;>cases h)|cases h
  |some r=>
   obtain⟨h1,h2⟩:=nE hr;simp only [hr]at h
   cases hf:JB ps k with
   |none=>
    simp only [hf,xx.injEq]at h;subst h;refine⟨by simp [h1],fun j hj=>?_⟩
    cases j with
    |zero=>simp [hf]
    |succ j=>
     have:=h2 j (by simpa using hj)
     rw [show k+1+j=k+(j+1) by omega]at this;simpa using this
   |some x=>
    simp only [hf]at h
    cases hx:ev E x with
    |none=>simp [hx]at h
    |some v=>
     simp only [hx,xx.injEq]at h;subst h;refine⟨by simp [h1],fun j hj=>?_⟩
     cases j with
     |zero=>simp only [yf,hf];exact⟨v,hx,rfl⟩
     |succ j=>
      have:=h2 j (by simpa using hj)
      rw [show k+1+j=k+(j+1) by omega]at this;simpa using this
theorem fL(place:Nat→Option (Nat×Nat)):∀(vs:List (Nat×Value)) (cells:Array Value),(∀p∈vs,place p.1=some (p.1,1)∧p.1<cells.size∧p.2.oneCell'=true)→
  yx place cells vs=some (vs.foldl (fun cs p=>cs.setIfInBounds p.1 p.2) cells)
 |[],_,_=>rfl
 |(i,v)::vs,cells,h=>by
  obtain⟨h1,h2,h3⟩:=h (i,v) (by simp)
  have hc:v.cells= #[v]:=by cases v<;>first|rfl|cases h3
  simp only at h1 h2;simp only [yx,h1,hc];rw [if_neg (by simp;omega)]
  have e:(#[v].zipIdx.foldl (fun cs (c,j)=>cs.setIfInBounds (i+j) c) cells)=cells.setIfInBounds i v:=by simp
  rw [e,fL place vs _ (fun p hp=>by
   obtain⟨a,b,c⟩:=h p (by simp [hp])
   exact⟨a,by simpa using b,c⟩)]
  rfl
theorem tk(vs:List (Nat×Value)):∀(cells:Array Value) (k:Nat),(vs.map yc).Nodup→(vs.foldl (fun cs p=>cs.setIfInBounds p.1 p.2) cells)[k]?=
  match vs.find? (fun p=>p.1==k)with
  |some p=>if k<cells.size then some p.2 else none
  |none=>cells[k]?:=by
 induction vs with
 |nil=>intro cells k _;rfl
 |cons p vs ih=>
  intro cells k hn;simp only [yj,zx]at hn;simp only [List.foldl_cons];rw [ih _ k hn.2];by_cases hk:p.1=k
  ·have hnone:vs.find? (fun q=>q.1==k)=none:=by
    rw [List.find?_eq_none];intro q hq hqk;exact hn.1 (by rw [hk];simp at hqk;rw [←hqk];exact ym hq)
   simp [hnone,hk,Array.getElem?_setIfInBounds]
  ·have:(p.1==k)=false:=by simp [hk]
   simp only [zy,this]
   cases vs.find? (fun q=>q.1==k)with
   |none=>simp [yh hk]
   |some q=>simp
theorem Wh{n:Nat}{E:A6}{a:Act}{ps:List (Nat×Operand)}{zs cs:List Value}(he:DR n E a)(place:Nat→Option (Nat×Nat))(h:Jo E ps 0 zs=some cs)
  (hn:(ps.map yc).Nodup)(hb:∀i∈ps.map yc,i<zs.length)(hp:∀i,i<zs.length→place i=some (i,1))(ho:∀v∈cs,v.oneCell'=true):
  yx place zs.toArray (ps.map fun(i,x)=>(i,a.eval x))=some cs.toArray:=by
 obtain⟨hl,hg⟩:=nE h
 have hfind:∀(ps:List (Nat×Operand)) (k:Nat),(ps.map fun(i,x)=>(i,a.eval x)).find? (fun p=>p.1==k)=(JB ps k).map fun x=>(k,a.eval x):=by
  intro ps k
  induction ps with
  |nil=>rfl
  |cons q r ih=>
   obtain⟨i,x⟩:=q;simp only [yj,zy,JB]
   cases hb:yt i k with
   |true=>obtain rfl:=n_ hb;simp
   |false=>
    have:(i==k)=false:=by rw [beq_eq_false_iff_ne];intro h;subst h;simp at hb
    simp only [this,cond_false];exact ih
 have hfst:(ps.map fun(i,x)=>(i,a.eval x)).map yc=ps.map yc:=by rw [Aaa];rfl
 have hmem:∀(ps:List (Nat×Operand)) (i:Nat) (x:Operand),(ps.map yc).Nodup→(i,x)∈ps→JB ps i=some x:=by
  intro ps i x hn hm
  induction ps with
  |nil=>simp at hm
  |cons q r ih=>
   obtain⟨j,y⟩:=q;simp only [yj,zx]at hn;rcases Aa5.1 hm with h1|h1
   ·cases h1;simp [JB]
   ·have hne:yt j i=false:=by
     cases hb:yt j i with
     |false=>rfl
     |true=>
      obtain rfl:=n_ hb;exact absurd (ym (f:=yc) h1) hn.1
    simp only [JB,hne,cond_false];exact ih hn.2 h1
 rw [fL place]
 ·congr 1;apply zd;intro k;rw [tk _ _ _ (by rw [hfst];exact hn),hfind];rcases xy k zs.length with hk|hk
  ·have:=hg k hk
   rw [zg]at this
   cases hf:JB ps k with
   |none=>rw [hf]at this;simpa using this.symm
   |some x=>
    rw [hf]at this;obtain⟨v,h1,h2⟩:=this;simp [hk,he.ev h1,h2]
  ·have h1:cs.toArray[k]?=none:=by simp;omega
   rw [h1]
   cases hf:JB ps k with
   |none=>simpa using hk
   |some x=>simp;omega
 ·intro p hp';obtain⟨⟨i,x⟩,hm,rfl⟩:=Aac.1 hp';have hi:=hb i (ym (f:=yc) hm);refine⟨hp i hi,by simpa using hi,?_⟩
  have:=hg i hi
  rw [zg,hmem ps i x hn hm]at this;obtain⟨v,h1,h2⟩:=this;simp only [he.ev h1];exact ho v (List.mem_of_getElem? h2)
def PF(ps:List (Nat×Operand))(m:Nat):Bool:=decide ((ps.map yc).Nodup)&&ps.all fun p=>u_ p.1 m
theorem Ud{ps:List (Nat×Operand)}{m:Nat}(h:PF ps m=true):(ps.map yc).Nodup∧∀i∈ps.map yc,i<m:=by
 simp only [PF,x_,decide_eq_true_eq,yu]at h;refine⟨h.1,fun i hi=>?_⟩;obtain⟨p,hp,rfl⟩:=Aac.1 hi;simpa using h.2 p hp
section
variable{P:Program}{B:World}{n:Nat}{E:A6}{D:CK}{H:HP}{d:Option Tmp}{T T' ty:TypeId}{pos:String}{af:Array Edge}{g:Option (Nat×Bool)}{x y z:Operand}
theorem yD{len e:Nat}{zs cs:List Value}{ps:List (Nat×Operand)}[hT:Ar P T (.array len e)][hs:Bw P e 1][hz:BZ P T (.agg zs.toArray)]
  (hx:Jo E ps 0 zs=some cs)(hi:PF ps zs.length=true)(ho:∀v∈cs,v.oneCell'=true):Aa P B n ⟨d,.build T ps.toArray,ty,pos,af,g⟩ E H (.agg cs.toArray):=by
 intro a w he _;obtain⟨h1,h2⟩:=Ud hi;have hf:=Wh he (fun i=>some (i*1,1)) hx h1 h2 (fun i _=>by rw [yl]) ho;simp only [execOp,zp,b_,hz.get,a_,Bx hT.get,hs.get,g_,Value.cells,hf,c_]
theorem E7{pl:Array (Nat×Nat)}{zs cs:List Value}{ps:List (Nat×Operand)}[hT:EW P T pl][hz:BZ P T (.agg zs.toArray)]
  (hx:Jo E ps 0 zs=some cs)(hi:PF ps zs.length=true)(hp:pl=((Aa1 zs.length).map fun i=>(i,1)).toArray)(ho:∀v∈cs,v.oneCell'=true):
  Aa P B n ⟨d,.build T ps.toArray,ty,pos,af,g⟩ E H (.agg cs.toArray):=by
 intro a w he _;obtain⟨fs,k1,k2⟩:=hT.get;obtain⟨h1,h2⟩:=Ud hi;have hf:=Wh he (pl[·]?) hx h1 h2 (fun i hi=>by subst hp;simp [hi]) ho;simp only [execOp,zp,b_,hz.get,a_,Bx k1,k2,g_,Value.cells,hf,c_]
theorem qf{len e:Nat}{zv:Value}{cs:List Value}{ps:List (Nat×Operand)}[hT:Ar P T (.slice e)][hz:Bw P e 1][h0:BZ P e zv]
  (hx:Jo E ps 0 (yq len zv)=some cs)(hi:PF ps len=true)(ho:∀v∈cs,v.oneCell'=true)(hzv:zv.cells= #[zv])(hb:Aae len 16777216=true)(hp:u_ 0 len=true):
  C7 P B n ⟨d,.buildSlice T len ps.toArray,ty,pos,af,g⟩ E D H (fun v H'=>∃b,v=.slice (some ⟨b,0,none⟩) len len∧H'=HP.AA b 0 cs*H):=by
 intro a w h1 _ h3 K Q hk
 have hb':¬len*1> 2^24:=by have:=y_ hb;omega
 have hp':¬len*1=0:=by
  have:0<len:=by simpa using hp
  omega
 obtain⟨k1,k2⟩:=Ud hi
 have hz1:((y' (len*1)).map fun i=>zv.cells[i%zv.cells.size]!)=(yq len zv).toArray:=by
  rw [hzv,yl];apply zd;intro i;rcases xy i len with h|h
  ·simp [h,Nat.mod_one]
  ·simp [h]
 have hf:=Wh h1 (fun i=>some (i*1,1)) hx k1 (by simpa using k2) (fun i _=>by rw [yl]) ho
 have hrun:(execOp a.eval ⟨d,.buildSlice T len ps.toArray,ty,pos,af,g⟩).run P w=.ok (.value (.slice (some ⟨w.heap.size,0,none⟩) len len)) (w.alloc (.cells cs.toArray e)):=by
  simp only [execOp,zj,b_,Bx hT.get,a_,hz.get,hb',if_false,hp',h0.get,c_,g_,hz1,hf,newRow];rfl
 simp only [t_,hrun,h_];exact hk _ _ _ ⟨w.heap.size,rfl,rfl⟩ (h3.alloc cs.toArray e)
end
end
end Go.Proofs.YtgfdlpcdjklcoaaGreatDoor
