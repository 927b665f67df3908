/- Steps of this proof; no condition. -/
import Derived.WalkKit
import Derived.Conc.Events
import Derived.OrdersHeld
import Derived.Conc.Own
import Derived.Conc.Listed
import Derived.Orders
import Derived.Defers
import Derived.Recover
namespace Go.Proofs.YtgfdlpcdjklcoaaGreatDoor
open Go Go.RowKit
open _root_.List renaming length→aa
set_option linter.all false
variable{i j b n r last:Nat}{k k' ik:IntKind}{α:Type}{a:Addr}{v u:Value}{P:Program}{o:Obj}{t e:TypeId}{g:Goroutine}{c:Code}{f:FuncId}{p:Nat→Prop}{args:Array Value}{fr:Frame}{fn:Func}{es:Array Event}{rest:List Nat}
open _root_.Option renaming some→ad
open _root_.Go.Sem renaming run→a9,bind→hO,runT→kl,runT_eq→n9,store→v5,pure→Anr,runT_bind'→Ant,runT_fst→Anw,getObj→Any,setObj→Anz
open _root_.Go.Region renaming wanted→cx,ready→c6,linearise→Kt,schedule→Anq
open _root_.Go.Instr renaming beginRound→eo,endRound→m5,enterLoop→sy,sureAddr→py,makeInterface→Anl,endLoop→Anm,takeDeferred→Ann,indexAt→Anu,yield→Q1
open _root_.Array renaming replicate→hB
open _root_.Go.IntKind renaming wrap→ti,u64→Anp,signed→Ans,bits→Anv,u8→Ao0
def I.{u}{α:Sort u}{a:α}:a=a:=rfl
def a5:=@_root_.List.length_append
def b0:=@_root_.Go.Result.andThen_ok
def c8:=@_root_.List.getElem?_eq_getElem
def ek:=@_root_.List.getD_eq_getElem?_getD
def bk:=@_root_.Nat.zero_le
def bn:=@_root_.Go.Sem.run_bind
def bp:=@_root_.Go.Sem.run_pure
def c5:=@_root_.List.append_assoc
def dz:=@_root_.Int.toNat_natCast
def di:=@_root_.List.length_drop
def g5:=@_root_.List.mem_singleton
def hU:=@_root_.List.length_eq_zero_iff
def eh:=@_root_.List.length_map
def f':=@_root_.List.length_cons
def hZ:=@_root_.List.length_take
def g8:=@_root_.List.append_nil
def hI:=@_root_.List.map_toArray
def mi:=@_root_.Array.getElem?_eq_getElem
def ff:=@_root_.Nat.lt_or_ge
def er:=@_root_.Nat.le_refl
def s5:=@_root_.Array.getElem?_setIfInBounds_ne
def kz:=@_root_.List.length_pos_iff
def g9:=@_root_.List.mem_map
def i':=@_root_.Option.map_some
def mz:=@_root_.List.length_singleton
def n3:=@_root_.Array.getElem?_eq_none
def hP:=@_root_.List.map_cons
def j2:=@_root_.List.mem_append
def ny:=@_root_.Nat.lt_of_lt_of_le
def pc:=@_root_.Array.getElem?_modify
def Kk:=@_root_.List.take_succ_eq_append_getElem
def j1:=@_root_.List.mem_cons
def l0:=@_root_.List.nil_append
def pv:=@_root_.Array.getElem?_mapIdx
def px:=@_root_.List.take_append_drop
def zv:=@_root_.List.drop_eq_getElem_cons
def s8:=@_root_.List.length_replicate
def HX:=@_root_.Array.getElem?_eq_some_iff
def kv:=@_root_.Nat.add_zero
def n6:=@_root_.Nat.min_eq_left
def ta:=@_root_.Nat.mul_le_mul_right
def n5:=@_root_.List.length_set
def k9:=@_root_.Nat.le_trans
def E2:=@_root_.List.getElem?_append_left
def Lk:=@_root_.List.getElem?_eq_some_iff
def pg:=@_root_.Nat.mod_eq_of_lt
def pq:=@_root_.List.take_length
def oi:=@_root_.List.mem_toArray
def n8:=@_root_.List.map_append
def A':=@_root_.List.drop_eq_nil_of_le
def R':=@_root_.List.getElem?_append_right
def n':=@_root_.List.foldl_cons
def o4:=@_root_.List.mem_filter
def x3:=@_root_.Int.toNat_of_nonneg
def rv:=@_root_.List.getElem_mem
def tg:=@_root_.List.foldl_append
def v8:=@_root_.Bool.false_eq_true
def Aif:=@_root_.Array.getElem?_append_left
def Ax:=@_root_.List.getElem_of_mem
def Aih:=@_root_.List.set_eq_take_append_cons_drop
def Aii:=@_root_.Array.getElem?_setIfInBounds_self_of_lt
def ss:=@_root_.List.length_nil
def Pj:=@_root_.Array.getElem?_push_lt
def Gp:=@_root_.List.mem_of_mem_take
def x0:=@_root_.List.getElem?_map
def Cx:=@_root_.List.getElem?_drop
def C':=@_root_.List.filter_append
def x4:=@_root_.Array.empty_append
def Aiq:=@_root_.Array.getElem?_append_right
def v7:=@_root_.Array.mem_append
def Ais:=@_root_.List.filter_cons_of_neg
def oq:=@_root_.List.map_nil
def Jx:=@_root_.Nat.add_sub_cancel
def tS:=@_root_.List.take_zero
def Ap:=@_root_.List.cons_append
def Aix:=@_root_.List.filter_cons_of_pos
def Aiy:=@_root_.Option.ne_none_iff_exists'
def R0:=@_root_.Bool.false_ne_true
def HA:=@_root_.Nat.le_of_not_lt
def F':=@_root_.List.not_mem_nil
def N2:=@_root_.List.flatMap_cons
def Aj3:=@_root_.Array.getElem?_setIfInBounds
def L':=@_root_.Bool.eq_iff_iff
def DD:=@_root_.List.take_left'
def Aj6:=@_root_.Array.ext_getElem?
def s6:=@_root_.Nat.mul_one
def Aj8:=@_root_.List.drop_length
def Aj9:=@_root_.Nat.two_pow_add_eq_or_of_lt
def D1:=@_root_.Option.none_or
def Ajb:=@_root_.List.take_of_length_le
def Ajc:=@_root_.List.replicate_zero
def Ajd:=@_root_.Option.map_none
def Aje:=@_root_.Nat.not_lt_zero
def Ajf:=@_root_.Option.isSome_none
def EA:=@_root_.Array.mem_map
def u2:=@_root_.Nat.add_mul
def Q':=@_root_.List.drop_drop
def Ajj:=@_root_.UInt8.toNat_inj
def Ajk:=@_root_.Array.length_toList
def H0:=@_root_.Nat.sub_zero
def Ajm:=@_root_.UInt64.toNat_shiftLeft
def D':=@_root_.List.map_set
def Q2:=@_root_.Bool.false_or
def za:=@_root_.Nat.pow_add
def Ajq:=@_root_.List.all_eq_true
def Ajr:=@_root_.Bool.and_eq_true
def Ajs:=@_root_.Array.toList_map
def Ajt:=@_root_.List.getElem?_eq_none
def Aju:=@_root_.Nat.eq_of_beq_eq_true
def Ajv:=@_root_.Nat.shiftRight_eq_div_pow
def Ajw:=@_root_.Nat.min_le_left
def Ajx:=@_root_.List.getElem?_set
def Pl:=@_root_.Nat.zero_add
def Ajz:=@_root_.UInt8.toNat_toUInt64
def Ak0:=@_root_.Array.getElem?_push_size
def Ak1:=@_root_.Nat.lt_succ_iff_lt_or_eq
def Ak2:=@_root_.Array.toList_append
def Ak3:=@_root_.List.mem_range
def Ak4:=@_root_.UInt64.toNat_shiftRight
def Ak5:=@_root_.UInt8.toNat_ofNat'
def Ak6:=@_root_.Array.append_empty
def Ak7:=@_root_.Array.mem_of_getElem?
def Ak8:=@_root_.Nat.mul_mod_mul_right
def Ak9:=@_root_.List.length_filter_le
def Aka:=@_root_.Array.mem_push
def Akb:=@_root_.List.mem_of_getElem?
def Akc:=@_root_.Nat.pow_le_pow_right
def Akd:=@_root_.List.foldl_nil
def Ake:=@_root_.List.replicate_succ'
def Akf:=@_root_.Nat.shiftLeft_eq
def Akg:=@_root_.Array.toList_inj
def Akh:=@_root_.Nat.zero_lt_succ
def Aki:=@_root_.List.getElem_map
def Akj:=@_root_.List.drop_append
def Akk:=@_root_.Nat.min_eq_right
def Akl:=@_root_.Nat.max_eq_right
def Akm:=@_root_.Nat.le_of_lt
def Akn:=@_root_.List.take_succ_cons
def Ako:=@_root_.List.map_congr_left
def Akp:=@_root_.Nat.div_le_self
def Akq:=@_root_.UInt64.toNat_or
def Akr:=@_root_.List.drop_left'
def Aks:=@_root_.Nat.max_eq_left
def Akt:=@_root_.List.filter_nil
def Aku:=@_root_.Nat.lt_of_le_of_lt
def Akv:=@_root_.Nat.eq_zero_or_pos
def Akw:=@_root_.Nat.eq_or_lt_of_le
def Akx:=@_root_.Array.getElem?_map
def Aky:=@_root_.List.getElem?_replicate
def Akz:=@_root_.Bool.false_and
def Al0:=@_root_.Bool.true_or
def Al1:=@_root_.List.map_map
def Al2:=@_root_.Array.all_eq_true_iff_forall_mem
def Al3:=@_root_.Nat.succ_mul
def Al4:=@_root_.Nat.mul_comm
def Al5:=@_root_.Nat.pow_zero
def Al6:=@_root_.Nat.sub_self
def Al7:=@_root_.Nat.le_succ_of_le
def Al8:=@_root_.Nat.lt_succ_of_lt
def Al9:=@_root_.List.singleton_append
def Ala:=@_root_.Nat.div_lt_iff_lt_mul
def Alb:=@_root_.Nat.le_of_ble_eq_true
def Alc:=@_root_.List.eq_replicate_iff
def Ald:=@_root_.Go.Region.free_spec
def Ale:=@_root_.Nat.min_le_right
def Alf:=@_root_.UInt64.toNat_add
def Alg:=@_root_.UInt64.toNat_mul
def Alh:=@_root_.UInt64.toNat_inj
def Ali:=@_root_.Nat.and_two_pow_sub_one_eq_mod
def Alj:=@_root_.List.ext_getElem
def Alk:=@_root_.Nat.le_add_right
def All:=@_root_.UInt64.toNat_toUInt8
def Alm:=@_root_.Nat.div_one
def Sp:=@_root_.Eq.trans
def Alo:=@_root_.Bool.or_eq_true
def Alp:=@_root_.Nat.two_pow_pos
def Alq:=@_root_.UInt64.toNat_ofNat'
def Alr:=@_root_.List.mem_map_of_mem
def Als:=@_root_.List.drop_succ_cons
def Alt:=@_root_.Nat.pow_succ
def Alu:=@_root_.Nat.mod_lt
def Alv:=@_root_.Nat.not_lt
def Alw:=@_root_.List.extract_eq_take_drop
def Alx:=@_root_.List.ext_getElem?
def Aly:=@_root_.List.mapM_toArray
def Alz:=@_root_.List.length_range
def Am0:=@_root_.Nat.add_assoc
def Am1:=@_root_.List.getElem?_take_of_lt
def Am2:=@_root_.Bool.or_false
def Am3:=@_root_.Option.isSome_iff_exists
def Am4:=@_root_.Bool.true_and
def Am5:=@_root_.Nat.le_max_right
def Am6:=@_root_.List.mem_reverse
def Am7:=@_root_.Nat.le_mul_of_pos_right
def Am8:=@_root_.List.foldlM_cons
def Am9:=@_root_.List.any_eq_true
def Ama:=@_root_.List.getElem?_cons_zero
def Amb:=@_root_.List.getElem?_cons_succ
def Amc:=@_root_.Nat.add_sub_cancel_left
def Amd:=@_root_.Array.toList_replicate
def Ame:=@_root_.Nat.div_div_eq_div_mul
def Amf:=@_root_.List.range_succ_eq_map
def Amg:=@_root_.Int.natCast_mul
def Amh:=@_root_.List.headD_cons
def Ami:=@_root_.Nat.le_max_left
def Amj:=@_root_.List.foldlM_nil
def Amk:=@_root_.Nat.one_ne_zero
def Aml:=@_root_.List.getElem?_toArray
def Amm:=@_root_.Array.mem_toList_iff
def Amn:=@_root_.List.set_append_left
def Amo:=@_root_.List.mapM_cons
def Amp:=@_root_.List.mem_cons_of_mem
def Amq:=@_root_.List.drop_zero
def Amr:=@_root_.List.mem_of_mem_drop
def Ams:=@_root_.Array.toList_extract
def Amt:=@_root_.List.drop_take
def Amu:=@_root_.Array.getElem?_range
def Amv:=@_root_.List.getD_cons_zero
def Amw:=@_root_.List.getD_cons_succ
def Amx:=@_root_.List.replicate_succ
def Amy:=@_root_.List.zipWith_append
def Amz:=@_root_.List.length_reverse
def An0:=@_root_.List.flatMap_append
def An1:=@_root_.Bool.or_assoc
def An2:=@_root_.Nat.add_comm
def An3:=@_root_.Nat.zero_mul
def An4:=@_root_.Bool.true_eq
def An5:=@_root_.Nat.le_succ
abbrev Wld:=World
abbrev Vle:=Value
abbrev AH := @inferInstance
def AF := @if_neg
def AJ := @if_pos
abbrev AT :Vle :=.int .u8 0
section
def dead:Obj:=.cells #[] 0 (0,1)
def Nk:Value:=.agg #[]
def live:Value→Bool
 | .agg _=>false
 |_=>true
def sR(h:live u=true):u≠Nk:=λe=>by subst e;cases h
def Qp(h:u.oneCell'=true):live u=true:=by cases u<;>first|rfl|cases h
structure CO where
 dead:Nat→Prop
 cell:Nat→Nat→Prop
 top:Nat
def Al(n:Nat)(D:CO)(P:Program):Sem α→World→Prop
 | .pure _,_=>True
 | .load m a k,v=>m=.plain∧∃u,v.cell? a=some u∧live u=true∧Al n D P (k u) v
 | .store m a u k,v=>m=.plain∧(∃y,v.cell? a=some y∧live y=true)∧v.frozen? a=false∧u.oneCell'=true∧Al n D P k (v.setCell a u)
 | .new o k,v=>Al n D P (k v.heap.size) {v with heap:=v.heap.push o}
 | .shape r k,v=>(n≤r∧¬D.dead r)∧Al n D P (k (v.shape? r)) v
 | .freeze a j k,v=>D.top≤a.block∧Al n D P k (v.freeze a j)
 | .frozen a k,v=>(n≤a.block∧¬D.dead a.block)∧Al n D P (k (v.frozen? a)) v
 | .getObj r k,v=>∃o,v.heap[r]?=some o∧(∀c t f,o≠ .cells c t f)∧Al n D P (k o) v
 | .setObj r o k,v=>(∃y,v.heap[r]?=some y∧∀c t f,y≠ .cells c t f)∧Al n D P k {v with heap:=v.heap.setIfInBounds r o}
 | .choose q k,v=>if q.forced then Al n D P (k 0) v else Al n D P (k (q.cut (v.tape v.drawn q))) {v with drawn:=v.drawn+1}
 | .sys _ _,_=>False
 | .program k,v=>Al n D P (k P) v
 | .mark m k,v=>((∃f,m=.extern f)∨m=.noRoom)∧Al n D P k v
 | .halt _,_=>True
def Ya{v:World}{m y}{k:Sem α}(W:v.cell? a=some y)(hf:v.frozen? a=false)(q:u.oneCell'=true):
  (v5 m a u k).run P v=k.run P (v.setCell a u):=by
 have :(v5 m a u k).run P v =match v.cell? a with
    |some _ =>if v.frozen? a then .halt (.unsupported (.unsafePointer "a write to bytes that a string shares")) v else k.run P (v.setCell a u)
    |none=>match v.farStore P a u (m==.atomic)with
     | .ok (w,_)=>k.run P w
     | .error h=>.halt h v:=by
  cases u<;>first|rfl|cases q
 rw[this,W,hf];rfl
def TD{v:World}{k:Obj→Sem α}(h:v.heap[r]?=some o)(l:∀c t f,o≠ .cells c t f):(Any r k).run P v=(k o).run P v:=by
 cases o<;>first|exact absurd I (l _ _ _)|simp only[a9,h]
def Rq{v:World}{y}{k:Sem α}(h:v.heap[r]?=some y)(G:∀c t f,y≠ .cells c t f):(Anz r o k).run P v=k.run P {v with heap:=v.heap.setIfInBounds r o}:=by
 cases y<;>first|exact absurd I (G _ _ _)|simp only[a9,h]
def NK(r:Result α)(K:α→World→Prop):Prop:=match r with| .ok x v=>K x v| .halt _ _=>True
@[simp] theorem BX(x:α)(v)(K:α→World→Prop):NK (Result.ok x v) K=K x v:=rfl
@[simp] theorem Agf(h v)(K:α→World→Prop):NK (Result.halt h v:Result α) K=True:=rfl
def gJ{D}{β:Type}{f:α→Sem β}(s:Sem α):∀v:World,Al n D P (s.bind f) v↔Al n D P s v∧NK (s.run P v) λx L=>Al n D P (f x) L:=by
 induction s with
 |pure a=>intro v;exact⟨λh=>⟨trivial,h⟩,λh=>h.2⟩
 |load m a k Z=>
  intro v;simp only[hO,Al,a9];cases W:v.cell? a with
  |none=>simp
  |some u=>simp[Z,and_assoc]
 |store m a u k Z=>
  intro v;simp only[hO,Al,Z];constructor
  ·rintro⟨O,⟨y,W,G⟩,V,z,U,M⟩;exact⟨⟨O,⟨y,W,G⟩,V,z,U⟩,by rw[Ya W V z];exact M⟩
  rintro⟨⟨O,⟨y,W,G⟩,V,z,U⟩,M⟩;rw[Ya W V z]at M;exact⟨O,⟨y,W,G⟩,V,z,U,M⟩
 |new o k Z=>intro v;simp only[hO,Al,Z,a9,and_assoc]
 |shape r k Z=>intro v;simp only[hO,Al,Z,a9,and_assoc]
 |freeze a j k Z=>intro v;simp only[hO,Al,Z,a9,and_assoc]
 |frozen a k Z=>intro v;simp only[hO,Al,Z,a9,and_assoc]
 |getObj r k Z=>
  intro v;simp only[hO,Al,Z];constructor
  ·rintro⟨o,O,U,M,l⟩;exact⟨⟨o,O,U,M⟩,by rw[TD O U];exact l⟩
  rintro⟨⟨o,O,U,M⟩,l⟩;rw[TD O U]at l;exact⟨o,O,U,M,l⟩
 |setObj r o k Z=>
  intro v;simp only[hO,Al,Z];constructor
  ·rintro⟨⟨y,O,U⟩,M,l⟩;exact⟨⟨⟨y,O,U⟩,M⟩,by rw[Rq O U];exact l⟩
  rintro⟨⟨⟨y,O,U⟩,M⟩,l⟩;rw[Rq O U]at l;exact⟨⟨y,O,U⟩,M,l⟩
 |choose q k Z=>
  intro v;simp only[hO,Al,a9];by_cases N:q.forced=true<;>simp[N,Z]
 |sys c k Z=>intro v;simp only[hO,Al,false_and]
 |program k Z=>intro v;simp only[hO,Al,Z,a9]
 |mark m k Z=>intro v;simp only[hO,Al,Z,a9,and_assoc]
 |halt h=>intro v;simp[hO,Al,a9]
section
variable{n:Nat}{D:CO}{P:Program}{v:World}{α β:Type}
@[simp] theorem BL{f:α→Sem β}{s:Sem α}:Al n D P (s>>=f) v=(Al n D P s v∧NK (s.run P v) λx L=>Al n D P (f x) L):=propext (gJ s v)
@[simp] theorem Dp{f:α→β}{s:Sem α}:Al n D P (Functor.map f s) v=Al n D P s v:=by
 show Al n D P (s.bind (Anr ∘ f)) v=_;rw[propext (gJ s v)];cases s.run P v<;>simp[Al]
@[simp] theorem B3(a:α):Al n D P (Pure.pure a:Sem α) v=True:=rfl
@[simp] theorem Agl(a:α):Al n D P (Anr a) v=True:=rfl
@[simp] theorem Agr(h):Al n D P (Sem.halt h:Sem α) v=True:=rfl
@[simp] theorem Agj(s):Al n D P (stuck s:Sem α) v=True:=rfl
@[simp] theorem Agn(u):Al n D P (unsupported u:Sem α) v=True:=rfl
@[simp] theorem Agg(u):Al n D P (goPanic u:Sem α) v=True:=rfl
@[simp] theorem Xe{c:Prop}[Decidable c]{s t:Sem α}:Al n D P (if c then s else t) v=if c then Al n D P s v else Al n D P t v:=by split<;>rfl
@[simp] theorem Qj:Al n D P program v=True:=rfl
@[simp] theorem N! :Al n D P (load a) v=∃u,v.cell? a=some u∧live u=true:=by simp[load,Al]
@[simp] theorem jm:Al n D P (store a u) v=((∃y,v.cell? a=some y∧live y=true)∧v.frozen? a=false∧u.oneCell'=true):=by simp[store,Al]
@[simp] theorem Ej:Al n D P (newObj o) v=True:=by simp[newObj,Al]
@[simp] theorem Agk:Al n D P (getObj r) v=∃o,v.heap[r]?=some o∧∀c t f,o≠ .cells c t f:=by simp[getObj,Al]
@[simp] theorem Agp:Al n D P (setObj r o) v=∃y,v.heap[r]?=some y∧∀c t f,y≠ .cells c t f:=by simp[setObj,Al]
@[simp] theorem xb:Al n D P (shape r) v=(n≤r∧¬D.dead r):=by simp[shape,Al]
@[simp] theorem Agt:Al n D P (frozen a) v=(n≤a.block∧¬D.dead a.block):=by simp[frozen,Al]
@[simp] theorem ow:Al n D P (freeze a j) v=(D.top≤a.block):=by simp[freeze,Al]
@[simp] theorem Agi{q}:Al n D P (choose q) v=True:=by simp[choose,Al]
@[simp] theorem Agq{m}:Al n D P (mark m) v=((∃f,m=.extern f)∨m=.noRoom):=by simp[mark,Al]
@[simp] theorem EP:Al n D P (typeInfo t) v=True:=by
 unfold typeInfo;simp only[BL,Qj,true_and,eq_iff_iff,iff_true];show Al n D P _ v;cases P.info? t<;>trivial
@[simp] theorem CT:Al n D P (underlying t) v=True:=by
 unfold underlying;simp only[BL,Qj,true_and,eq_iff_iff,iff_true];show Al n D P _ v;cases P.underlying t<;>trivial
@[simp] theorem DQ:Al n D P (sizeOf t) v=True:=by
 unfold sizeOf;simp only[BL,EP,true_and,B3,eq_iff_iff,iff_true];cases(typeInfo t).run P v<;>trivial
@[simp] theorem EX:Al n D P (zeroValue t) v=True:=by
 unfold zeroValue;simp only[BL,EP,true_and,eq_iff_iff,iff_true];cases(typeInfo t).run P v with
 |ok i w=>simp only[BX];cases i.zero<;>trivial
 |halt h w=>trivial
@[simp] theorem Ago:Al n D P (isAgg t) v=True:=by
 unfold isAgg;simp only[BL,CT,true_and,eq_iff_iff,iff_true];cases(underlying t).run P v with
 |ok i w=>simp only[BX];cases i<;>trivial
 |halt h w=>trivial
end
def Ec(v:World):CO:=⟨λb=>v.heap[b]?=some dead,λb i=>∃c t fr,v.heap[b]?=some (.cells c t fr)∧∀u,c[i]?=some u→u=Nk,v.heap.size⟩
abbrev A9(n:Nat)(P:Program)(s:Sem α)(v:World):Prop:=Al n (Ec v) P s v
open Classical in
noncomputable def GT (p:Nat→Prop):Obj→Obj
 | .cells c t fr=>.cells (c.mapIdx λi x=>if p i then Nk else x) t fr
 |o=>o
def KJ(v w:World)(b:Nat):Prop:=∃c t fr,w.heap[b]?=some (.cells c t fr)∧v.heap[b]?=some (.cells c t (0,c.size))
structure E3(n:Nat)(D:CO)(v w:World):Prop where
 size:v.heap.size=w.heap.size
 low:n≤v.heap.size
 drawn:v.drawn=w.drawn
 tape:v.tape=w.tape
 os:v.os=w.os
 output:v.output=w.output
 gone:∀b:Nat,D.dead b→b<v.heap.size→v.heap[b]?=some dead
 ro:∀b:Nat,b<n→v.heap[b]?=some dead∨KJ v w b
 own:∀b:Nat,n≤b→¬D.dead b→v.heap[b]?=(w.heap[b]?).map (GT (D.cell b))
structure CO.ok(D:CO)(n:Nat)(v:World):Prop where
 le:D.top≤v.heap.size
 low:n≤D.top
 new:∀b:Nat,D.top≤b→¬D.dead b
 YJ:∀b i:Nat,D.top≤b→¬D.cell b i
structure Gm(n:Nat)(D:CO)(v w v' w':World):Prop where
 size:w.heap.size≤w'.heap.size
 gone:∀b:Nat,b<D.top→(b<n∨D.dead b)→w'.heap[b]?=w.heap[b]?∧v'.heap[b]?=v.heap[b]?
 cell:∀b:Nat,b<D.top→∀c t fr,w.heap[b]?=some (.cells c t fr)→∃c':Array Value,w'.heap[b]?=some (.cells c' t fr)∧c'.size=c.size∧∀i,D.cell b i→c'[i]?=c[i]?
 calm:w'.tape=w.tape∧w'.os=w.os∧w'.output=w.output
def TX(n:Nat)(D:CO)(N:Nat)(e:Event):Prop:=
 (∃a,e.loc=.cell a∧e.sync=false∧a.block<N∧(n≤a.block∧¬D.dead a.block∧¬D.cell a.block a.off∨a.block<n∧e.write=false))∨
 (∃r,e.loc=.obj r∧r<N∧n≤r∧¬D.dead r∧∀i,¬D.cell r i)∨(∃f,e.loc=.mark (.extern f))∨e.loc=.mark .noRoom
def TX.more{D N M e}(h:TX n D N e)(J:N≤M):TX n D M e:=by
 obtain⟨a,O,U,l,Z⟩|⟨r,O,U,l⟩|h|h:=h
 ·exact .inl ⟨a,O,U,ny l J,Z⟩
 ·exact .inr (.inl ⟨r,O,ny U J,l⟩)
 ·exact .inr (.inr (.inl h))
 exact .inr (.inr (.inr h))
def TT{v:World}(h:v.heap[a.block]?=some dead):v.cell? a=none:=by
 simp[World.cell?,h,dead]
def K9{v:World}(h:v.cell? a=some u):a.block<v.heap.size:=by
 unfold World.cell? at h;split at h
 ·rename_i e;exact(HX.1 e).1
 cases h
def I9{v:World}(h:v.heap[b]?=some o):b<v.heap.size:=(HX.1 h).1
def Zr(h:∀i,¬p i)(o):GT p o=o:=by
 cases o with
 |cells c t fr=>
  simp only[GT,Obj.cells.injEq,and_true];apply Array.ext
  ·simp
  intro i O U;simp[h i]
 |_=>rfl
def sU{c:Array Value}{fr:Nat×Nat}(h:GT p o=.cells c t fr):∃G,o=.cells G t fr∧G.size=c.size∧∀i,¬p i→G[i]?=c[i]?:=by
 cases o with
 |cells G q l=>
  simp only[GT,Obj.cells.injEq]at h;obtain⟨rfl,rfl,rfl⟩:=h;exact⟨G,I,by simp,λi M=>by simp[M]⟩
 |_=>cases h
def eB{x}(h:GT p o=x)(F:∀c t f,x≠ .cells c t f):o=x:=by
 cases o with
 |cells c t fr=>exact absurd h.symm (F _ _ _)
 |_=>exact h
section
variable{n:Nat}{D:CO}{v w:World}
def E3.cell(h:E3 n D v w)(W:v.cell? a=some u)(s:u≠Nk):
  w.cell? a=some u∧¬(D.dead a.block)∧(n≤a.block→¬D.cell a.block a.off):=by
 have L:=K9 W;have m:v.heap[a.block]?≠some dead:=λe=>by rw[TT e]at W;cases W
 have l:¬D.dead a.block:=λl=>m (h.gone _ l L);obtain q|q:=ff a.block n
 ·obtain⟨c,t,fr,z,M⟩:=(h.ro _ q).resolve_left m;exact⟨by simpa[World.cell?,z,M]using W,l,λA=>by omega⟩
 have e:=h.own _ q l;unfold World.cell? at W;cases X:w.heap[a.block]? with
 |none=>rw[X]at e;rw[e]at W;cases W
 |some o=>
  rw[X]at e;rw[e]at W;cases o with
  |cells c t fr=>
   simp only[i',GT]at W;by_cases C:a.spot.isSome=true
   ·rw[AJ C]at W;cases W
   rw[AF C]at W;simp only[pv]at W;cases F:c[a.off]? with
   |none=>rw[F]at W;cases W
   |some x=>
    rw[F]at W;simp only[i',ad.injEq]at W;by_cases J:D.cell a.block a.off
    ·rw[AJ J]at W;exact absurd W.symm s
    rw[AF J]at W;subst W;exact⟨by simp[World.cell?,X,C,F],l,λ_=>J⟩
  |_=>cases W
def E3.frozen(h:E3 n D v w)(hb:n≤a.block)(l:¬D.dead a.block):w.frozen? a=v.frozen? a:=by
 unfold World.frozen?;rw[h.own _ hb l];cases w.heap[a.block]? with
 |none=>rfl
 |some o=>cases o<;>rfl
def E3.yy(h:E3 n D v w)(W:v.cell? a=some u)(m:u≠Nk)(hf:v.frozen? a=false):n≤a.block∧¬D.dead a.block∧¬D.cell a.block a.off∧w.frozen? a=false:=by
 obtain⟨_,l,N⟩:=h.cell W m;have F:v.heap[a.block]?≠some dead:=λe=>by rw[TT e]at W;cases W
 have q:n≤a.block:=HA λq=>by
  obtain⟨c,t,fr,C,M⟩:=(h.ro _ q).resolve_left F;unfold World.cell? at W;rw[M]at W;simp only at W;split at W
  ·cases W
  have:=(HX.1 W).1;simp[World.frozen?,M,this]at hf
 exact⟨q,l,N q,(h.frozen q l).trans hf⟩
def E3.set(h:E3 n D v w)(hb:n≤a.block)(l:¬D.dead a.block)(N:¬D.cell a.block a.off):E3 n D (v.setCell a u) (w.setCell a u):=by
 refine⟨by simp[World.setCell,h.size],by simpa[World.setCell]using h.low,h.drawn,h.tape,h.os,h.output,λb C J=>?_,λb C=>?_,λb C m=>?_⟩
 ·have Y:a.block≠b:=λe=>l (e▸C);simp only[World.setCell,pc,AF Y];exact h.gone b C (by simpa[World.setCell]using J)
 ·have Y:a.block≠b:=λe=>by omega
  simp only[KJ,World.setCell,pc,AF Y];exact h.ro b C
 simp only[World.setCell,pc];rw[h.own b C m];by_cases Y:a.block=b
 ·subst Y;simp only[if_true];cases w.heap[a.block]? with
  |none=>rfl
  |some o=>
   cases o with
   |cells c t fr=>
    simp only[i',GT,ad.injEq,Obj.cells.injEq,and_true];split
    ·rfl
    apply Aj6;intro i;rw[Aj3,pv,pv,Aj3,Array.size_mapIdx];by_cases M:a.off=i
    ·subst M;rw[AJ I,AJ rfl];split
     ·simp[N]
     rfl
    rw[AF M,AF M]
   |_=>rfl
 rw[AF Y,AF Y]
def Gm.refl:Gm n D v w v w:=⟨er _,λ_ _ _=>⟨I,I⟩,λ_ _ c _ _ e=>⟨c,e,I,λ_ _=>rfl⟩,I,I,I⟩
def Gm.trans{X w1 l w2}(h:Gm n D v w X w1)(V:Gm n D X w1 l w2):Gm n D v w l w2:=
 ⟨k9 h.size V.size,λb q F=>by
  obtain⟨U,L⟩:=h.gone b q F;obtain⟨C,Y⟩:=V.gone b q F;exact⟨C.trans U,Y.trans L⟩,λb q c t fr e=>by
  obtain⟨Z,s,A,m⟩:=h.cell b q c t fr e;obtain⟨z,G,J,N⟩:=V.cell b q Z t fr s;exact⟨z,G,J.trans A,λi M=>(N i M).trans (m i M)⟩,V.calm.1.trans h.calm.1,V.calm.2.1.trans h.calm.2.1,V.calm.2.2.trans h.calm.2.2⟩
def Gm.set(hb:n≤a.block)(l:¬D.dead a.block)(N:¬D.cell a.block a.off):Gm n D v w (v.setCell a u) (w.setCell a u):=by
 refine⟨by simp[World.setCell],λb _ F=>?_,λb _ c t fr e=>?_,I,I,I⟩
 ·have Y:a.block≠b:=λe=>by subst e;obtain h|h:=F;omega;exact l h
  simp[World.setCell,pc,Y]
 simp only[World.setCell,pc];by_cases Y:a.block=b
 ·subst Y;rw[AJ I,e];refine⟨_,I,by split<;>simp,λi M=>?_⟩;have q:a.off≠i:=λh=>N (h▸M);split
  ·rfl
  exact s5 q
 simp only[AF Y];exact⟨c,e,I,λ_ _=>rfl⟩
def E3.push(h:E3 n D v w)(o)(l:D.ok n v):E3 n D {v with heap:=v.heap.push o} {w with heap:=w.heap.push o}:=by
 have F:∀b:Nat,b<v.heap.size→(v.heap.push o)[b]?=v.heap[b]?∧(w.heap.push o)[b]?=w.heap[b]?:=λb q=>by
  rw[Pj q,Pj (h.size▸q),←mi,←mi];exact⟨I,I⟩
 have s:=h.low;refine⟨by simp[h.size],by simp;omega,h.drawn,h.tape,h.os,h.output,λb q J=>?_,λb q=>?_,λb q m=>?_⟩
 ·have Y:b<v.heap.size:=by
   have:b≠v.heap.size:=λe=>l.new _ (e▸l.le) q;simp at J;omega
  show(v.heap.push o)[b]?=_;rw[(F b Y).1];exact h.gone b q Y
 ·obtain⟨C,M⟩:=F b (by omega);show(v.heap.push o)[b]?=_∨∃c t fr,(w.heap.push o)[b]?=_∧(v.heap.push o)[b]?=_;rw[C,M];exact h.ro b q
 show(v.heap.push o)[b]?=((w.heap.push o)[b]?).map _;obtain J|J|J:=Nat.lt_trichotomy b v.heap.size
 ·rw[(F b J).1,(F b J).2];exact h.own b q m
 ·subst J;rw[Ak0,h.size,Ak0,i',Zr];exactλi=>l.YJ _ i (h.size▸l.le)
 rw[n3 (by simp;omega),n3 (by simp;have:=h.size;omega)];rfl
def Gm.push(h:E3 n D v w)(o)(l:D.ok n v):Gm n D v w {v with heap:=v.heap.push o} {w with heap:=w.heap.push o}:=by
 have Y:=l.le;have L:=h.size;have F:∀b:Nat,b<D.top→(w.heap.push o)[b]?=w.heap[b]?∧(v.heap.push o)[b]?=v.heap[b]?:=λb q=>by
  rw[Pj (by omega),Pj (by omega),←mi,←mi];exact⟨I,I⟩
 exact⟨by simp,λb q _=>F b q,λb q c t fr e=>⟨c,(F b q).1.trans e,I,λ_ _=>rfl⟩,I,I,I⟩
def E3.obj(h:E3 n D v w)(hr:v.heap[r]?=some o)(m:∀c t fr,o≠ .cells c t fr):w.heap[r]?=some o∧n≤r∧¬D.dead r:=by
 have q:n≤r:=HA λq=>by
  obtain e|⟨c,t,fr,_,e⟩:=h.ro r q
  ·rw[e]at hr;exact m _ _ _ (ad.inj hr).symm
  rw[e]at hr;exact m _ _ _ (ad.inj hr).symm
 have l:¬D.dead r:=λl=>by
  rw[h.gone r l (I9 hr)]at hr;exact m _ _ _ (ad.inj hr).symm
 have e:=h.own r q l;rw[hr]at e;cases X:w.heap[r]? with
 |none=>rw[X]at e;cases e
 |some x=>
  rw[X]at e;have:=eB (ad.inj e).symm m;exact⟨by rw[this],q,l⟩
def E3.put(h:E3 n D v w){x}(o)(hr:v.heap[r]?=some x)(F:∀c t fr,x≠ .cells c t fr)(s:∀i,¬D.cell r i):E3 n D {v with heap:=v.heap.setIfInBounds r o} {w with heap:=w.heap.setIfInBounds r o}:=by
 obtain⟨X,q,l⟩:=h.obj hr F;refine⟨by simp[h.size],by simpa using h.low,h.drawn,h.tape,h.os,h.output,λb C J=>?_,λb C=>?_,λb C m=>?_⟩
 ·have Y:r≠b:=λe=>l (e▸C);show(v.heap.setIfInBounds r o)[b]?=_;rw[s5 Y];exact h.gone b C (by simpa using J)
 ·have Y:r≠b:=λe=>by omega
  show(v.heap.setIfInBounds r o)[b]?=_∨∃c t fr,(w.heap.setIfInBounds r o)[b]?=_∧(v.heap.setIfInBounds r o)[b]?=_;rw[s5 Y,s5 Y];exact h.ro b C
 show(v.heap.setIfInBounds r o)[b]?=((w.heap.setIfInBounds r o)[b]?).map _;by_cases Y:r=b
 ·subst Y;rw[Aii (I9 hr),Aii (I9 X),i',Zr s]
 rw[s5 Y,s5 Y];exact h.own b C m
def Gm.put{x}(o)(hr:w.heap[r]?=some x)(F:∀c t fr,x≠ .cells c t fr)(hb:n≤r)(l:¬D.dead r):Gm n D v w {v with heap:=v.heap.setIfInBounds r o} {w with heap:=w.heap.setIfInBounds r o}:=by
 refine⟨by simp,λb _ m=>?_,λb _ c t fr e=>?_,I,I,I⟩
 ·have Y:r≠b:=λe=>by subst e;obtain h|h:=m;omega;exact l h
  show(w.heap.setIfInBounds r o)[b]?=_∧(v.heap.setIfInBounds r o)[b]?=_;rw[s5 Y,s5 Y];exact⟨I,I⟩
 have Y:r≠b:=λh=>by subst h;rw[hr]at e;exact F _ _ _ (ad.inj e)
 refine⟨c,?_,I,λ_ _=>rfl⟩;show(w.heap.setIfInBounds r o)[b]?=_;rw[s5 Y];exact e
def E3.freeze(h:E3 n D v w){k}(l:D.ok n v)(hb:D.top≤a.block):E3 n D (v.freeze a k) (w.freeze a k)∧Gm n D v w (v.freeze a k) (w.freeze a k):=by
 have G:n≤a.block:=k9 l.low hb;unfold World.freeze;split
 ·exact⟨h,Gm.refl⟩
 refine⟨⟨by simp[h.size],by simpa using h.low,h.drawn,h.tape,h.os,h.output,λb C J=>?_,λb C=>?_,λb C m=>?_⟩,by simp,λb J F=>?_,λb J c t fr e=>?_,I,I,I⟩
 ·have Y:a.block≠b:=λe=>l.new _ hb (e▸C);simp only[pc,AF Y];exact h.gone b C (by simpa using J)
 ·have Y:a.block≠b:=λe=>by omega
  simp only[KJ,pc,AF Y];exact h.ro b C
 ·simp only[pc,h.own b C m];split
  ·cases w.heap[b]? with
   |none=>rfl
   |some o=>cases o<;>rfl
  rfl
 ·have Y:a.block≠b:=λe=>by omega
  simp only[pc,AF Y,and_self]
 have Y:a.block≠b:=λe=>by omega
 simp only[pc,AF Y];exact⟨c,e,I,λ_ _=>rfl⟩
end
inductive My {α:Type}:Result α→World→Prop
 |ok (x:α) (w:World):My (.ok x w) w
 |panic (p:Value) (w:World):My (.halt (.panic p) w) w
def Result.at(r:Result α)(w:World):Result α:=match r with| .ok x _=>.ok x w| .halt h _=>.halt h w
def CO.ok.mono{D:CO}{v v':World}(h:D.ok n v)(C:v.heap.size≤v'.heap.size):D.ok n v':=⟨k9 h.le C,h.low,h.new,h.YJ⟩
def Sem.lr{D:CO}(s:Sem α):∀(v w:World) (es:Array Event),E3 n D v w→D.ok n v→(∀r,(∃x,v.heap[r]?=some x∧∀c t f,x≠ .cells c t f)→∀i,¬D.cell r i)→Al n D P s v→
  ∀L:World,My (s.run P v) L→
  ∃V es',s.runT P w es=(Result.at (s.run P v) V,es')∧E3 n D L V∧Gm n D v w L V∧∀e∈es',e∈es∨TX n D L.heap.size e:=by
 induction s with
 |pure a=>
  intro v w es h _ _ _ L Y;cases Y;exact⟨w,es,I,h,Gm.refl,λe N=>.inl N⟩
 |load m a k Z=>
  intro v w es h l ho A L Y;obtain⟨rfl,u,W,hlv,A⟩:=A;have hu:=sR hlv;simp only[a9]at Y⊢;cases hc':v.cell? a with
  |none=>
   rw[hc']at W;cases W
  |some u'=>
   have hu':u=u':=ad.inj (W.symm.trans hc');subst hu';simp only[hc']at Y⊢;obtain⟨hw,hd,hC⟩:=h.cell W hu;obtain⟨V,es',C,M,R,X⟩:=Z u v w (es.push ⟨.cell a,false,false⟩) h l ho A L Y;refine⟨V,es',?_,M,R,λe N=>?_⟩
   ·simp only[kl,hw];exact C
   obtain O|O:=X e N
   ·obtain U|rfl:=Aka.1 O
    ·exact .inl U
    have hlt:=K9 W;refine .inr (.inl ⟨a,I,I,ny hlt (by rw[h.size,M.size];exact R.size),?_⟩);obtain hb|hb:=ff a.block n
    ·exact .inr ⟨hb,I⟩
    exact .inl ⟨hb,hd,hC hb⟩
   exact .inr O
 |store m a u k Z=>
  intro v w es h l ho A L Y;obtain⟨rfl,⟨y,W,hlv⟩,hf,hu,A⟩:=A;have G:=sR hlv;have e0:=Ya (P:=P) (k:=k) (m:=.plain) W hf hu;rw[e0]at Y;obtain⟨hb,hDa,hCa,hfw⟩:=h.yy W G hf;obtain⟨hw,_⟩:=h.cell W G;have hrw:(v5 .plain a u k).runT P w es=k.runT P (w.setCell a u) (es.push ⟨.cell a,true,false⟩):=by
   have:(v5 .plain a u k).runT P w es=match w.cell? a with
    |some _ =>if w.frozen? a then(.halt (.unsupported (.unsafePointer "a write to bytes that a string shares")) w,es)else k.runT P (w.setCell a u) (es.push ⟨.cell a,true,Mode.plain ==.atomic⟩)
    |none=>match w.farStore P a u (Mode.plain==.atomic)with
     | .ok (w,touched)=>k.runT P w (es++touched.toArray.map (⟨.cell ·,true,Mode.plain==.atomic⟩))
     | .error h=>(.halt h w,es):=by
    cases u<;>first|rfl|cases hu
   rw[this,hw,hfw];rfl
  have ho':∀r,(∃x,(v.setCell a u).heap[r]?=some x∧∀c t f,x≠ .cells c t f)→∀i,¬D.cell r i:=λr ⟨x,F,hxc⟩=>by
   refine ho r ?_;simp only[World.setCell,pc]at F;split at F
   ·cases hv:v.heap[r]? with
    |none=>rw[hv]at F;cases F
    |some z=>
     rw[hv]at F;refine⟨z,I,?_⟩;cases z with
     |cells c t f=>exact absurd (ad.inj F).symm (hxc _ _ _)
     |_=>intros;simp
   exact⟨x,F,hxc⟩
  obtain⟨V,es',C,M,R,X⟩:=Z (v.setCell a u) (w.setCell a u) (es.push ⟨.cell a,true,false⟩) (h.set hb hDa hCa) (l.mono (by simp[World.setCell])) ho' A L Y;refine⟨V,es',by rw[hrw,e0];exact C,M,(Gm.set hb hDa hCa).trans R,λe N=>?_⟩;obtain O|O:=X e N
  ·obtain U|rfl:=Aka.1 O
   ·exact .inl U
   exact .inr (.inl ⟨a,I,I,ny (K9 W) (by have:=R.size;simp only[World.setCell,Array.size_modify]at this;rw[h.size,M.size];exact this),.inl ⟨hb,hDa,hCa⟩⟩)
  exact .inr O
 |new o k Z=>
  intro v w es h l ho A L Y;simp only[a9]at Y⊢;have ho':∀r,(∃x,(v.heap.push o)[r]?=some x∧∀c t f,x≠ .cells c t f)→∀i,¬D.cell r i:=λr ⟨x,F,hxc⟩ i=>by
   obtain J|J:=ff r v.heap.size
   ·rw[Pj J,←mi]at F;exact ho r ⟨x,F,hxc⟩ i
   exact l.YJ r i (k9 l.le J)
  obtain⟨V,es',C,M,R,X⟩:=Z v.heap.size {v with heap:=v.heap.push o} {w with heap:=w.heap.push o} es (h.push o l) (l.mono (by simp)) ho' A L Y;refine⟨V,es',?_,M,(Gm.push h o l).trans R,X⟩;simp only[kl,←h.size];exact C
 |shape r k Z=>
  intro v w es h l ho A L Y;obtain⟨hr0,A⟩:=A;have e0:w.shape? r=v.shape? r:=by
   unfold World.shape?;rw[h.own r hr0.1 hr0.2];cases w.heap[r]? with
   |none=>rfl
   |some o=>cases o<;>simp[GT]
  simp only[a9]at Y⊢;obtain⟨V,es',C,M⟩:=Z _ v w es h l ho A L Y;exact⟨V,es',by simp only[kl,e0];exact C,M⟩
 |freeze a k0 k Z=>
  intro v w es h l ho A L Y;obtain⟨hb,A⟩:=A;obtain⟨O,U⟩:=h.freeze (k:=k0) l hb;simp only[a9]at Y⊢;have ho':∀r,(∃x,(v.freeze a k0).heap[r]?=some x∧∀c t f,x≠ .cells c t f)→∀i,¬D.cell r i:=λr ⟨x,F,hxc⟩=>by
   refine ho r ?_;unfold World.freeze at F;split at F
   ·exact⟨x,F,hxc⟩
   simp only[pc]at F;split at F
   ·cases hv:v.heap[r]? with
    |none=>rw[hv]at F;cases F
    |some z=>
     rw[hv]at F;refine⟨z,I,?_⟩;cases z with
     |cells c t f=>exact absurd (ad.inj F).symm (hxc _ _ _)
     |_=>intros;simp
   exact⟨x,F,hxc⟩
  obtain⟨V,es',C,M,R,X⟩:=Z _ _ es O (l.mono (by unfold World.freeze;split<;>simp)) ho' A L Y;exact⟨V,es',by simp only[kl];exact C,M,U.trans R,X⟩
 |frozen a k Z=>
  intro v w es h l ho A L Y;obtain⟨hr0,A⟩:=A;have e0:=h.frozen hr0.1 hr0.2;simp only[a9]at Y⊢;obtain⟨V,es',C,M⟩:=Z _ v w es h l ho A L Y;exact⟨V,es',by simp only[kl,e0];exact C,M⟩
 |getObj r k Z=>
  intro v w es h l ho A L Y;obtain⟨x,F,hxc,A⟩:=A;obtain⟨hw,hb,hDr⟩:=h.obj F hxc;have a1:=TD (P:=P) (k:=k) F hxc;have a2:(Any r k).runT P w es=(k x).runT P w (es.push ⟨.obj r,false,x.isChan⟩):=by
   cases x<;>first|exact absurd I (hxc _ _ _)|simp only[kl,hw]
  rw[a1]at Y;obtain⟨V,es',C,M,R,X⟩:=Z x v w (es.push ⟨.obj r,false,x.isChan⟩) h l ho A L Y;refine⟨V,es',by rw[a1,a2];exact C,M,R,λe N=>?_⟩;obtain O|O:=X e N
  ·obtain U|rfl:=Aka.1 O
   ·exact .inl U
   exact .inr (.inr (.inl ⟨r,I,ny (I9 F) (by rw[h.size,M.size];exact R.size),hb,hDr,ho r ⟨x,F,hxc⟩⟩))
  exact .inr O
 |setObj r o k Z=>
  intro v w es h l ho A L Y;obtain⟨⟨x,F,hxc⟩,A⟩:=A;obtain⟨hw,hb,hDr⟩:=h.obj F hxc;have a1:=Rq (P:=P) (k:=k) (o:=o) F hxc;have a2:(Anz r o k).runT P w es=k.runT P {w with heap:=w.heap.setIfInBounds r o} (es.push ⟨.obj r,true,o.isChan⟩):=by
   cases x<;>first|exact absurd I (hxc _ _ _)|simp only[kl,hw]
  have hnc:=ho r ⟨x,F,hxc⟩;have ho':∀r',(∃z,(v.heap.setIfInBounds r o)[r']?=some z∧∀c t f,z≠ .cells c t f)→∀i,¬D.cell r' i:=λr' ⟨z,hz,hzc⟩=>by
   by_cases hne:r=r'
   ·exact hne▸hnc
   rw[s5 hne]at hz;exact ho r' ⟨z,hz,hzc⟩
  rw[a1]at Y;obtain⟨V,es',C,M,R,X⟩:=Z _ _ (es.push ⟨.obj r,true,o.isChan⟩) (h.put o F hxc hnc) (l.mono (by simp)) ho' A L Y;refine⟨V,es',by rw[a1,a2];exact C,M,(Gm.put o hw hxc hb hDr).trans R,λe N=>?_⟩;obtain O|O:=X e N
  ·obtain U|rfl:=Aka.1 O
   ·exact .inl U
   exact .inr (.inr (.inl ⟨r,I,ny (I9 F) (by have:=R.size;simp only[Array.size_setIfInBounds]at this;rw[h.size,M.size];exact this),hb,hDr,hnc⟩))
  exact .inr O
 |choose q k Z=>
  intro v w es h l ho A L Y;simp only[a9]at Y⊢;simp only[Al]at A;by_cases hq:q.forced=true
  ·simp only[hq,if_true]at Y A⊢;obtain⟨V,es',C,M⟩:=Z _ v w es h l ho A L Y;exact⟨V,es',by simp only[kl,hq,if_true];exact C,M⟩
  simp only[hq,v8,if_false]at Y A⊢;have h':E3 n D {v with drawn:=v.drawn+1} {w with drawn:=w.drawn+1}:=⟨h.size,h.low,by simp[h.drawn],h.tape,h.os,h.output,h.gone,h.ro,h.own⟩
  obtain⟨V,es',C,M,R,X⟩:=Z _ _ _ es h' (l.mono (er _)) ho A L Y;have e5:(Sem.choose q k).runT P w es=(k (q.cut (v.tape v.drawn q))).runT P {w with drawn:=w.drawn+1} es:=by
   simp only[kl,hq,v8,if_false];rw[h.tape,h.drawn]
  exact⟨V,es',e5.trans C,M,⟨R.size,R.gone,R.cell,R.calm⟩,X⟩
 |sys c k Z=>intro v w es h l ho A;exact A.elim
 |program k Z=>
  intro v w es h l ho A L Y;simp only[a9]at Y⊢;obtain⟨V,es',C,M⟩:=Z P v w es h l ho A L Y;exact⟨V,es',by simp only[kl];exact C,M⟩
 |mark m k Z=>
  intro v w es h l ho A L Y;simp only[a9]at Y⊢;obtain⟨V,es',C,M,R,X⟩:=Z v w (es.push ⟨.mark m,false,true⟩) h l ho A.2 L Y;refine⟨V,es',by simp only[kl];exact C,M,R,λe N=>?_⟩;obtain O|O:=X e N
  ·obtain U|rfl:=Aka.1 O
   ·exact .inl U
   obtain⟨f,rfl⟩|rfl:=A.1
   ·exact .inr (.inr (.inr (.inl ⟨f,I⟩)))
   exact .inr (.inr (.inr (.inr I)))
  exact .inr O
 |halt x=>
  intro v w es h _ _ _ L Y;simp only[a9]at Y⊢;cases Y;exact⟨w,es,I,h,Gm.refl,λe N=>.inl N⟩
end
structure Ai where
 c:Nat→Nat→Option Value
 o:Nat→Option Obj
namespace Ai
@[ext] theorem ext{r s:Ai}(h1:∀b i,r.c b i=s.c b i)(h2:∀b,r.o b=s.o b):r=s:=by
 cases r;cases s;simp only[Ai.mk.injEq];exact⟨funext λb=>funext λi=>h1 b i,funext h2⟩
def nil:Ai:=⟨λ_ _=>none,λ_=>none⟩
def un(r s:Ai):Ai:=⟨λb i=>(r.c b i).or (s.c b i),λb=>(r.o b).or (s.o b)⟩
def dj(r s:Ai):Prop:=(∀b i,r.c b i=none∨s.c b i=none)∧(∀b,r.o b=none∨s.o b=none)
def dj.symm{r s:Ai}(h:r.dj s):s.dj r:=⟨λb i=>(h.1 b i).symm,λb=>(h.2 b).symm⟩
def MF{r s:Ai}(h:r.dj s):r.un s=s.un r:=by
 apply ext
 ·intro b i;simp only[un];rcases h.1 b i with e|e<;>simp[e]
 intro b;simp only[un];rcases h.2 b with e|e<;>simp[e]
def QO(r s t:Ai):(r.un s).un t=r.un (s.un t):=by
 apply ext<;>intros<;>simp[un,Option.or_assoc]
def Ta(r):nil.un r=r:=by apply ext<;>intros<;>simp[un,nil]
def dL(r:Ai):r.un nil=r:=by apply ext<;>intros<;>simp[un,nil]
def SP(r):nil.dj r:=⟨λ_ _=>.inl I,λ_=>.inl I⟩
def Ng{r s t:Ai}:r.dj (s.un t)↔r.dj s∧r.dj t:=by
 constructor
 ·intro h;refine⟨⟨λb i=>?_,λb=>?_⟩,⟨λb i=>?_,λb=>?_⟩⟩
  ·obtain e|e:=h.1 b i;exact .inl e;simp[un]at e;exact .inr e.1
  ·obtain e|e:=h.2 b;exact .inl e;simp[un]at e;exact .inr e.1
  ·obtain e|e:=h.1 b i;exact .inl e;simp[un]at e;exact .inr e.2
  obtain e|e:=h.2 b;exact .inl e;simp[un]at e;exact .inr e.2
 rintro⟨O,U⟩;refine⟨λb i=>?_,λb=>?_⟩
 ·obtain e|e:=O.1 b i;exact .inl e;obtain A|A:=U.1 b i;exact .inl A;exact .inr (by simp[un,e,A])
 obtain e|e:=O.2 b;exact .inl e;obtain A|A:=U.2 b;exact .inl A;exact .inr (by simp[un,e,A])
def Ug{r s t:Ai}:(r.un s).dj t↔r.dj t∧s.dj t:=
 ⟨λh=>let⟨a,b⟩:=Ng.1 h.symm;⟨a.symm,b.symm⟩,λ⟨a,b⟩=>(Ng.2 ⟨a.symm,b.symm⟩).symm⟩
end Ai
def HP:Type:=Ai→Prop
namespace HP
def ext{A B:HP}(h:∀r,A r↔B r):A=B:=funext λr=>propext (h r)
def Bs:HP:=λr=>r=Ai.nil
def sep(A B:HP):HP:=λr=>∃x y,Ai.dj x y∧r=x.un y∧A x∧B y
def ex(P:α→HP):HP:=λr=>∃x,P x r
def pr(p:Prop):HP:=λr=>p∧r=Ai.nil
end HP
instance:Mul HP:=⟨HP.sep⟩
namespace HP
def comm(A B:HP):A*B=B*A:=by
 apply ext;intro r;constructor
 ·rintro⟨x,y,h,rfl,a,b⟩;exact⟨y,x,h.symm,Ai.MF h,b,a⟩
 rintro⟨x,y,h,rfl,a,b⟩;exact⟨y,x,h.symm,Ai.MF h,b,a⟩
def assoc(A B C:HP):A*B*C=A*(B*C):=by
 apply ext;intro r;constructor
 ·rintro⟨_,z,h,rfl,⟨x,y,U,rfl,a,b⟩,c⟩;obtain⟨M,Z⟩:=Ai.Ug.1 h;exact⟨x,y.un z,Ai.Ng.2 ⟨U,M⟩,Ai.QO ..,a,y,z,Z,I,b,c⟩
 rintro⟨x,_,h,rfl,a,y,z,U,rfl,b,c⟩;obtain⟨M,Z⟩:=Ai.Ng.1 h;exact⟨x.un y,z,Ai.Ug.2 ⟨Z,U⟩,(Ai.QO ..).symm,⟨x,y,M,I,a,b⟩,c⟩
def EM(A B C:HP):A*(B*C)=B*(A*C):=by
 rw[←assoc,comm A B,assoc]
instance:Std.Commutative (α:=HP) (·*·):=⟨comm⟩
instance:Std.Associative (α:=HP) (·*·):=⟨assoc⟩
@[simp] theorem BS(A):Bs*A=A:=by
 apply ext;intro r;constructor
 ·rintro⟨_,y,_,rfl,rfl,b⟩;rw[Ai.Ta];exact b
 intro h;exact⟨Ai.nil,r,Ai.SP r,(Ai.Ta r).symm,rfl,h⟩
@[simp] theorem Hr(A:HP):A*Bs=A:=by rw[comm,BS]
def LH(P:α→HP)(B):ex P*B=ex λx=>P x*B:=by
 apply ext;intro r;constructor
 ·rintro⟨x,y,h,rfl,⟨z,a⟩,b⟩;exact⟨z,x,y,h,I,a,b⟩
 rintro⟨z,x,y,h,rfl,a,b⟩;exact⟨x,y,h,I,⟨z,a⟩,b⟩
def aQ{p:Prop}{A r}:(pr p*A) r↔p∧A r:=by
 constructor
 ·rintro⟨x,y,h,rfl,⟨J,rfl⟩,a⟩;rw[Ai.Ta];exact⟨J,a⟩
 rintro⟨J,a⟩;exact⟨Ai.nil,r,Ai.SP r,(Ai.Ta r).symm,⟨J,I⟩,a⟩
def AA(b o:Nat)(l:List Value):HP:=λr=>r=⟨λV i=>if V=b∧o≤i then l[i-o]? else none,λ_=>none⟩
def obj(b:Nat)(x:Obj):HP:=λr=>r=⟨λ_ _=>none,λV=>if V=b then some x else none⟩
def lB(b o):AA b o []=Bs:=by
 apply ext;intro r;simp[AA,Bs,Ai.nil]
def HF(b o l m):AA b o (l++m)=AA b o l*AA b (o+aa l) m:=by
 apply ext;intro r;constructor
 ·intro h;refine⟨_,_,⟨λV i=>?_,λ_=>.inl I⟩,?_,I,I⟩
  ·by_cases O:V=b∧o≤i
   ·by_cases U:i-o<aa l
    ·refine .inr ?_;simp only[];rw[AF];omega
    refine .inl ?_;simp only[];rw[AJ O];exact Ajt (by omega)
   exact .inl (AF O)
  rw[h];apply Ai.ext
  ·intro V i;simp only[Ai.un];by_cases O:V=b∧o≤i
   ·rw[AJ O,AJ O];by_cases U:i-o<aa l
    ·rw[E2 U,c8 U];rfl
    rw[R' (by omega),AJ ⟨O.1,by omega⟩,Ajt (l:=l) (by omega)];simp only[D1];congr 1;omega
   rw[AF O,AF O,AF (by omega)];rfl
  intro V;rfl
 rintro⟨x,y,_,rfl,rfl,rfl⟩;apply Ai.ext
 ·intro V i;simp only[Ai.un];by_cases O:V=b∧o≤i
  ·rw[AJ O,AJ O];by_cases U:i-o<aa l
   ·rw[E2 U,c8 U];rfl
   rw[R' (by omega),AJ ⟨O.1,by omega⟩,Ajt (l:=l) (by omega)];simp only[D1];congr 1;omega
  rw[AF O,AF O,AF (by omega)];rfl
 intro V;rfl
end HP
def Nw(w:World)(b:Nat):Obj→Prop
 | .cells _ _ _=>∃c t C,w.heap[b]?=some (.cells c t (C,0))
 |x=>w.heap[b]?=some x
def Mb{w:World}{x:Obj}(F:∀c t f,x≠ .cells c t f):Nw w b x↔w.heap[b]?=some x:=by
 cases x<;>first|exact Iff.rfl|exact absurd I (F _ _ _)
def Nw.lt{w:World}{x:Obj}(h:Nw w b x):b<w.heap.size:=by
 have:∃y,w.heap[b]?=some y:=by
  cases x with
  |cells _ _ _=>obtain⟨c,t,C,e⟩:=h;exact⟨_,e⟩
  |_=>exact⟨_,h⟩
 obtain⟨y,e⟩:=this;exact(HX.1 e).1
def Nw.same{w w':World}{x:Obj}(h:Nw w b x)(e:w'.heap[b]?=w.heap[b]?):Nw w' b x:=by
 cases x with
 |cells _ _ _=>obtain⟨c,t,C,h⟩:=h;exact⟨c,t,C,e.trans h⟩
 |_=>exact e.trans h
structure Ai.Ea(n:Nat)(r:Ai)(w:World):Prop where
 cell:∀b i v,r.c b i=some v→w.cell? ⟨b,i,none⟩=some v
 free:∀b i v,r.c b i=some v→w.frozen? ⟨b,i,none⟩=false
 obj:∀b x,r.o b=some x→Nw w b x
 live:∀b i v,r.c b i=some v→live v=true
 FV:∀b i v,r.c b i=some v→n≤b
 GC:∀b x,r.o b=some x→n≤b
def Sat(B:World)(H:HP)(w:World):Prop:=Below B.heap.size B w∧∃r,H r∧r.Ea B.heap.size w
def Ai.Ea.left{r s:Ai}{w:World}(h:(r.un s).Ea n w):r.Ea n w:=by
 refine⟨λb i v e=>h.cell b i v ?_,λb i v e=>h.free b i v ?_,λb x e=>h.obj b x ?_,λb i v e=>h.live b i v ?_,λb i v e=>h.FV b i v ?_,λb x e=>h.GC b x ?_⟩<;>simp[Ai.un,e]
def Sat.left{B A C w}(h:Sat B (A*C) w):Sat B A w:=by
 obtain⟨O,r,⟨x,y,F,rfl,a,c⟩,U⟩:=h;exact⟨O,x,a,U.left⟩
def Sat.right{B:World}{A C:HP}{w:World}(h:Sat B (A*C) w):Sat B C w:=by
 rw[HP.comm]at h;exact h.left
def Sat.start(B):Sat B HP.Bs B:=
 ⟨Below.refl _ _,Ai.nil,I,⟨(λ_ _ _ h=>by cases h),(λ_ _ _ h=>by cases h),(λ_ _ h=>by cases h),(λ_ _ _ h=>absurd h (by simp[Ai.nil])),(λ_ _ _ h=>by cases h),(λ_ _ h=>by cases h)⟩⟩
def Sat.Bs{B A w}(h:Sat B A w):Sat B HP.Bs w:=by
 refine Sat.left (C:=A) ?_;rw[HP.BS];exact h
def Sat.IS{B A}{w:World}(h:Sat B A w):Sat B A {w with drawn:=w.drawn+1}:=by
 obtain⟨⟨a,b,c,d,e⟩,r,Y,U⟩:=h;exact⟨⟨a,b,c,d,e⟩,r,Y,⟨U.cell,U.free,U.obj,U.live,U.FV,U.GC⟩⟩
def Sat.ex{B}{P:α→HP}{w}:Sat B (HP.ex P) w↔∃x,Sat B (P x) w:=
 ⟨λ⟨O,r,⟨x,F⟩,U⟩=>⟨x,O,r,F,U⟩,λ⟨x,O,r,F,U⟩=>⟨O,r,⟨x,F⟩,U⟩⟩
def Sat.pr{B}{p:Prop}{A w}:Sat B (HP.pr p*A) w↔p∧Sat B A w:=
 ⟨λ⟨O,r,Y,U⟩=>let⟨J,ha⟩:=HP.aQ.1 Y;⟨J,O,r,ha,U⟩,λ⟨J,O,r,Y,U⟩=>⟨O,r,HP.aQ.2 ⟨J,Y⟩,U⟩⟩
abbrev A8:=List (Nat×Value)
def lk:A8→Nat→Option Value
 |[],_=>none
 |(u,v)::E,t=>bif Nat.beq u t then some v else lk E t
def ev(E:A8):Operand→Option Value
 | .tmp t=>lk E t
 | .const v=>some v
 | .global g=>some (.pointer (some ⟨g,0,none⟩))
 | .func f=>some (.func (.func f) #[] #[])
def DZ(n:Nat)(E:A8)(a:Act):Prop:=a.tmps.size=n∧∀t v,lk E t=some v→a.tmps[t]?=some v
def DZ.ev{E}{a:Act}(h:DZ n E a){x}(e:ev E x=some v):a.eval x=v:=by
 cases x with
 |tmp t=>have:=h.2 t v e;simp[Act.eval,this]
 |const u=>simpa[Proofs.YtgfdlpcdjklcoaaGreatDoor.ev,Act.eval]using e
 |global g=>simpa[Proofs.YtgfdlpcdjklcoaaGreatDoor.ev,Act.eval]using e
 |func f=>simpa[Proofs.YtgfdlpcdjklcoaaGreatDoor.ev,Act.eval]using e
def DZ.put{E}{a:Act}(h:DZ n E a){t}(ht:t<n)(v):DZ n ((t,v)::E) (a.put (some t) v):=by
 refine⟨by simp[Act.put,h.1],λu w e=>?_⟩;simp only[lk]at e;cases q:Nat.beq t u
 ·rw[q]at e;have Y:t≠u:=λh=>by subst h;simp at q
  simp only[Act.put,s5 Y];exact h.2 u w e
 rw[q]at e;obtain rfl:=Aju q;simp only[cond_true,ad.injEq]at e;subst e;simp[Act.put,h.1,ht]
def Sub(E F:A8):Prop:=∀t v,lk F t=some v→lk E t=some v
def DZ.sub{E F a}(h:DZ n E a)(s:Sub E F):DZ n F a:=⟨h.1,λt v e=>h.2 t v (s t v e)⟩
def Sub.nil{E}:Sub E []:=λ_ _ h=>by cases h
def Sub.cons{E F t}(h:lk E t=some v)(s:Sub E F):Sub E ((t,v)::F):=by
 intro u w e;simp only[lk]at e;cases q:Nat.beq t u
 ·rw[q]at e;exact s u w e
 rw[q]at e;obtain rfl:=Aju q;simp only[cond_true,ad.injEq]at e;subst e;exact h
class Ob(l:List Value)(k:Nat)(v:outParam Value):Prop where
 get:l[k]?=some v
instance(priority:=1100)(v:Value)(l:List Value):Ob (v::l) 0 v:=⟨I⟩
instance(u v:Value)(l:List Value)(k:Nat)[h:Ob l k v]:Ob (u::l) (k+1) v:=⟨by simpa using h.get⟩
class OH(l:List Value)(k:Nat)(v:Value)(l':outParam (List Value)):Prop where
 lt:k<l.length
 eq:l'=l.set k v
instance(u v:Value)(l:List Value):OH (u::l) 0 v (v::l):=⟨by simp,I⟩
instance(u v:Value)(l W:List Value)(k:Nat)[h:OH l k v W]:OH (u::l) (k+1) v (u::W):=⟨by have:=h.lt;simp;omega,by rw[h.eq];rfl⟩
class Cell(H:HP)(b i:Nat)(v:outParam Value)(s:outParam Prop):Prop where
 get:∀r,H r→s→r.c b i=some v
instance(b o k:Nat)(l:List Value)(v:Value)[h:Ob l k v]:Cell (HP.AA b o l) b (o+k) v True:=
 ⟨λr Y _=>by rw[show r=_ from Y];simp[h.get]⟩
instance(priority:=900)(b o:Nat)(l:List Value)(v:Value):Cell (HP.AA b o (v::l)) b o v True:=
 ⟨λr Y _=>by rw[show r=_ from Y];simp⟩
instance(A C:HP)(b i:Nat)(v:Value)(s:Prop)[h:Cell A b i v s]:Cell (A*C) b i v s:=
 ⟨λr ⟨x,y,_,e,a,_⟩ l=>by rw[e];simp[Ai.un,h.get x a l]⟩
instance(A C:HP)(b i:Nat)(v:Value)(s:Prop)[h:Cell C b i v s]:Cell (A*C) b i v s:=
 ⟨λr ⟨x,y,d,e,_,c⟩ l=>by
  have:=h.get y c l;rw[e];obtain O|O:=d.1 b i
  ·simp[Ai.un,this,O]
  rw[this]at O;cases O⟩
class Rd(B:World)(H:HP)(b i:Nat)(v:outParam Value)(s:outParam Prop):Prop where
 get:∀w,Sat B H w→s→w.cell? ⟨b,i,none⟩=some v
 live:∀w,Sat B H w→s→live v=true
instance(priority:=500)(B:World)(H:HP)(b i:Nat)(v:Value)(s:Prop)[h:Cell H b i v s]:Rd B H b i v s:=
 ⟨λ_ ⟨_,r,Y,J⟩ C=>J.cell b i v (h.get r Y C),λ_ ⟨_,r,Y,J⟩ C=>J.live b i v (h.get r Y C)⟩
instance(priority:=400)(B:World)(A C:HP)(b i:Nat)(v:Value)(s:Prop)[h:Rd B A b i v s]:Rd B (A*C) b i v s:=⟨λw X l=>h.get w X.left l,λw X l=>h.live w X.left l⟩
instance(priority:=400)(B:World)(A C:HP)(b i:Nat)(v:Value)(s:Prop)[h:Rd B C b i v s]:Rd B (A*C) b i v s:=⟨λw X l=>h.get w X.right l,λw X l=>h.live w X.right l⟩
def Ai.set(b i:Nat)(v:Value)(r:Ai):Ai:=⟨λV m=>if V=b∧m=i then some v else r.c V m,r.o⟩
class D8(H:HP)(b i:Nat)(v:Value)(H':outParam HP)(s:outParam Prop):Prop where
 upd:∀r,H r→s→r.c b i≠none∧H' (r.set b i v)
instance(b o k:Nat)(l W:List Value)(v:Value)[h:OH l k v W]:D8 (HP.AA b o l) b (o+k) v (HP.AA b o W) True:=
 ⟨λr Y _=>by
  have L:=h.lt;rw[show r=_ from Y];refine⟨by simp[L],?_⟩;show Ai.set _ _ _ _=_;apply Ai.ext
  ·intro V m;rw[h.eq];simp only[Ai.set,Ajx];by_cases O:V=b∧m=o+k
   ·obtain⟨rfl,rfl⟩:=O;simp[L]
   by_cases U:V=b∧o≤m
   ·rw[AF O,AJ U,AJ U,AF (by omega)]
   rw[AF O,AF U,AF U]
  intro V;rfl⟩
instance(priority:=900)(b o:Nat)(l:List Value)(u v:Value):D8 (HP.AA b o (u::l)) b o v (HP.AA b o (v::l)) True:=by
 have h:D8 (HP.AA b o (u::l)) b (o+0) v (HP.AA b o (v::l)) True:=AH;exact h
def Ai.Ad5{x y:Ai}(d:x.dj y)(h:x.c b i≠none):(x.set b i v).dj y∧(x.un y).set b i v=(x.set b i v).un y:=by
 have G:y.c b i=none:=(d.1 b i).resolve_left h;refine⟨⟨λV m=>?_,d.2⟩,?_⟩
 ·by_cases e:V=b∧m=i
  ·obtain⟨rfl,rfl⟩:=e;exact .inr G
  obtain O|O:=d.1 V m
  ·left;simp only[Ai.set,AF e];exact O
  exact .inr O
 apply Ai.ext
 ·intro V m;simp only[Ai.set,Ai.un];by_cases e:V=b∧m=i
  ·simp[e]
  simp[e]
 intro V;rfl
instance(A l C:HP)(b i:Nat)(v:Value)(s:Prop)[h:D8 A b i v l s]:D8 (A*C) b i v (l*C) s:=
 ⟨λr ⟨x,y,d,e,a,c⟩ m=>by
  obtain⟨O,U⟩:=h.upd x a m;obtain⟨M,Z⟩:=Ai.Ad5 (v:=v) d O;subst e;refine⟨?_,_,y,M,Z,U,c⟩;simp only[Ai.un];cases F:x.c b i with
  |none=>exact absurd F O
  |some _=>simp⟩
instance(A C l:HP)(b i:Nat)(v:Value)(s:Prop)[h:D8 C b i v l s]:D8 (A*C) b i v (A*l) s:=
 ⟨by rw[HP.comm A C,HP.comm A l];exact(AH:D8 (C*A) b i v (l*A) s).upd⟩
def Sat.store{B:World}{H H':HP}{s:Prop}{w:World}(h:D8 H b i v H' s)(hw:Sat B H w)(C:s)(l:v.oneCell'=true):
  (∃u,w.cell? ⟨b,i,none⟩=some u∧live u=true)∧w.frozen? ⟨b,i,none⟩=false∧Sat B H' (w.setCell ⟨b,i,none⟩ v):=by
 obtain⟨O,r,z,J⟩:=hw;obtain⟨U,M⟩:=h.upd r z C;obtain⟨u,q⟩:=Aiy.1 U;have W:=J.cell b i u q;have Y:∀k,k<B.heap.size→(w.setCell ⟨b,i,none⟩ v).heap[k]?=w.heap[k]?:=λk Z=>by
  have:=J.FV b i u q;simp only[World.setCell];rw[pc,AF (by omega)]
 refine⟨⟨u,W,J.live b i u q⟩,J.free b i u q,⟨O.os,O.tape,O.output,by simpa[World.setCell]using O.size,λk Z=>(Y k Z).trans (O.block k Z)⟩,_,M,?_⟩;refine⟨λV m L e=>?_,λV m L e=>?_,λV x e=>?_,λV m L e=>?_,λV m L e=>?_,λV x e=>J.GC V x e⟩
 ·simp only[Ai.set]at e;by_cases N:V=b∧m=i
  ·obtain⟨rfl,rfl⟩:=N;simp at e;subst e;exact World.cell?_setCell_same _ _ _ W
  rw[AF N]at e;rw[World.cell?_setCell_other _ _ _ _ (λh=>N (by cases h;exact⟨I,I⟩))];exact J.cell V m L e
 ·rw[World.frozen?_setCell];simp only[Ai.set]at e;by_cases N:V=b∧m=i
  ·obtain⟨rfl,rfl⟩:=N;exact J.free _ _ u q
  rw[AF N]at e;exact J.free V m L e
 ·have F:=J.obj V x e;by_cases X:b=V
  ·subst X;cases x with
   |cells _ _ _=>obtain⟨c,t,A,h⟩:=F;exact⟨_,t,A,by simp only[World.setCell];rw[pc,AJ I,h];rfl⟩
   |_=>show(w.setCell ⟨b,i,none⟩ v).heap[b]?=_;simp only[World.setCell];rw[pc,AJ I,show w.heap[b]?=_ from F];rfl
  refine F.same ?_;simp only[World.setCell];rw[pc,AF X]
 ·simp only[Ai.set]at e;by_cases N:V=b∧m=i
  ·obtain⟨rfl,rfl⟩:=N;simp at e;subst e;exact Qp l
  rw[AF N]at e;exact J.live V m L e
 simp only[Ai.set]at e;by_cases N:V=b∧m=i
 ·obtain⟨rfl,rfl⟩:=N;exact J.FV _ _ u q
 rw[AF N]at e;exact J.FV V m L e
def World.Yi(w:World)(o):(w.alloc o).heap.size=w.heap.size+1:=Array.size_push ..
def Sat.uL{B:World}{H:HP}{w:World}(hw:Sat B H w)(c:Array Value)(t:TypeId)(lo hi:Nat)(N:hi=0∨c.size≤lo)(m:∀v∈c.toList,live v=true):
  Sat B (HP.AA w.heap.size 0 c.toList*H) (w.alloc (.cells c t (lo,hi))):=by
 obtain⟨O,r,Y,J⟩:=hw;have q:B.heap.size≤w.heap.size:=O.size;have L:∀b i v,r.c b i=some v→b<w.heap.size:=λb i v e=>by
  obtain h|h:=ff b w.heap.size
  ·exact h
  have:=J.cell b i v e;simp[World.cell?,n3 h]at this
 have C:∀b x,r.o b=some x→b<w.heap.size:=λb x e=>(J.obj b x e).lt;refine⟨⟨O.os,O.tape,O.output,(by rw[World.Yi];omega),λk Z=>?_⟩,_,⟨_,r,?_,I,I,Y⟩,?_⟩
 ·rw[←O.block k Z];simp only[World.alloc];rw[Pj (by omega)];exact(mi (by omega)).symm
 ·refine⟨λb i=>?_,λb=>.inl I⟩;cases e:r.c b i with
  |none=>exact .inr I
  |some v=>left;simp only[];rw[AF];intro h;have:=L b i v e;omega
 refine⟨λb i v e=>?_,λb i v e=>?_,λb x e=>?_,λb i x e=>?_,λb i v e=>?_,λb x e=>?_⟩
 ·simp only[Ai.un]at e;by_cases h:b=w.heap.size∧0≤i
  ·obtain⟨rfl,_⟩:=h;rw[World.cell?_alloc_mark];cases U:r.c w.heap.size i with
   |none=>simpa[U]using e
   |some u=>have:=L _ _ _ U;omega
  rw[AF h]at e;simp at e;rw[World.cell?_alloc_lt _ _ _ (L b i v e)];exact J.cell b i v e
 ·simp only[Ai.un]at e;by_cases h:b=w.heap.size∧0≤i
  ·obtain⟨rfl,_⟩:=h;rw[World.frozen?_alloc_mark];have l:i<c.size:=by
    cases U:r.c w.heap.size i with
    |none=>
     have M:c[i]?=some v:=by simpa[U]using e
     exact(HX.1 M).1
    |some u=>have:=L _ _ _ U;omega
   rcases N with s|s<;>simp<;>omega
  rw[AF h]at e;simp at e;rw[World.frozen?_alloc_old _ _ _ (by have:=L b i v e;simp;omega)];exact J.free b i v e
 ·simp only[Ai.un]at e;have A:r.o b=some x:=by simpa using e
  refine(J.obj b x A).same ?_;simp only[World.alloc];rw[Pj (C b x A),←mi]
 ·simp only[Ai.un]at e;by_cases h:b=w.heap.size∧0≤i
  ·obtain⟨rfl,_⟩:=h;cases U:r.c w.heap.size i with
   |none=>
    have M:c[i]?=some x:=by simpa[U]using e
    exact m x (by rw[Amm];exact Ak7 M)
   |some u=>have:=L _ _ _ U;omega
  rw[AF h]at e;simp at e;exact J.live b i x e
 ·simp only[Ai.un]at e;by_cases h:b=w.heap.size∧0≤i
  ·omega
  rw[AF h]at e;simp at e;exact J.FV b i v e
 exact J.GC b x (by simpa[Ai.un]using e)
def Sat.alloc{B H}{w:World}(hw:Sat B H w)(c:Array Value)(t)(J:∀v∈c.toList,live v=true):
  Sat B (HP.AA w.heap.size 0 c.toList*H) (w.alloc (.cells c t)):=hw.uL c t 0 0 (.inl I) J
abbrev HP.fresh(b:Nat):HP:=HP.obj b (.cells #[] 0 (0,0))
def Sat.fresh{B:World}{R:HP}{w:World}(h:Sat B (HP.fresh b*R) w):∃c t C,w.heap[b]?=some (.cells c t (C,0)):=by
 obtain⟨_,r,Y,J⟩:=h.left;obtain rfl:r=_:=Y;have U:=J.obj b (.cells #[] 0 (0,0)) (by simp);exact U
def Sat.jn{B:World}{H:HP}{w:World}(hw:Sat B H w)(c:Array Value)(t:TypeId)(G:∀v∈c.toList,live v=true):
  Sat B (HP.fresh w.heap.size*(HP.AA w.heap.size 0 c.toList*H)) (w.alloc (.cells c t)):=by
 obtain⟨O,r,Y,J⟩:=hw;have C:Sat B (λU=>U=r) w:=⟨O,r,I,J⟩
 obtain⟨m,q,⟨x,y,d,rfl,F,rfl⟩,l⟩:=C.alloc c t G;have s:x=_:=F;have W:(x.un y).o w.heap.size=none:=by
  cases e:y.o w.heap.size with
  |none=>rw[s];simp[Ai.un,e]
  |some z=>have:=(J.obj _ z e).lt;omega
 have Z:(w.alloc (.cells c t)).heap[w.heap.size]?=some (.cells c t (0,0)):=by show(w.heap.push _)[w.heap.size]?=_;exact Ak0
 refine⟨m,_,⟨⟨λ_ _=>none,λV=>if V=w.heap.size then some (.cells #[] 0 (0,0))else none⟩,x.un y,⟨λ_ _=>.inl I,λb=>?_⟩,I,I,x,y,d,I,F,Y⟩,?_⟩
 ·by_cases h:b=w.heap.size
  ·subst h;exact .inr W
  exact .inl (AF h)
 refine⟨λb i v e=>l.cell b i v (by simpa[Ai.un]using e),λb i v e=>l.free b i v (by simpa[Ai.un]using e),λb z e=>?_,λb i v e=>l.live b i v (by simpa[Ai.un]using e),λb i v e=>l.FV b i v (by simpa[Ai.un]using e),λb z e=>?_⟩
 ·by_cases h:b=w.heap.size
  ·subst h;have A:some (Obj.cells #[] 0 (0,0))=some z:=by simpa[Ai.un]using e
   cases A;exact⟨c,t,0,Z⟩
  exact l.obj b z (by simpa[Ai.un,h]using e)
 by_cases h:b=w.heap.size
 ·subst h;exact O.size
 exact l.GC b z (by simpa[Ai.un,h]using e)
section
def AY(P:Program)(B:World)(n:Nat)(o:Oper)(E:A8)(H:HP)(v:Value):Prop:=
 ∀a w,DZ n E a→Sat B H w→A9 B.heap.size P (execOp a.eval o) w∧(execOp a.eval o).run P w=.ok (.value v) w
class Aw(P:Program)(t:TypeId)(d:outParam TypeDesc):Prop where
 get:P.underlying t=some d
class CG(P:Program)(t:TypeId)(k:outParam Nat):Prop where
 get:∀w,(sizeOf t).run P w=.ok k w
class Bh(P:Program)(t:TypeId)(v:outParam Value):Prop where
 get:∀w,(zeroValue t).run P w=.ok v w
 live:v.cells.toList.all live=true
def KA{l:List Value}(h:l.all live=true):∀v∈l,live v=true:=Ajq.1 h
class Ft(P:Program)(t:TypeId)(bytes:outParam Nat):Prop where
 get:∃i,(∀w,(typeInfo t).run P w=.ok i w)∧i.bytes=bytes
class DC(P:Program)(t:TypeId):Prop where
 get:∀w,(isAgg t).run P w=.ok false w
 size:∀w,(sizeOf t).run P w=.ok 1 w
class GN(P:Program)(t:TypeId)(k:outParam Nat):Prop where
 get:∀w,(isAgg t).run P w=.ok true w
 size:∀w,(sizeOf t).run P w=.ok k w
class Ay(P:Program)(t:TypeId)(f:Nat)(k:outParam Nat):Prop where
 get:∃fs,P.underlying t=some (.struct fs)∧∃g,fs[f]?=some g∧g.offset=k∧∃m,(∀w,(sizeOf g.type).run P w=.ok m w)∧m≠0
def A6{d}(h:P.underlying t=some d)(w):(underlying t).run P w=.ok d w:=by
 simp[underlying,h]
section
variable{P:Program}{B:World}{n:Nat}{E:A8}{H:HP}{d:Option Tmp}{T T' ty:TypeId}{pos:String}{af:Array Edge}{g:Option (Nat×Bool)}{x y:Operand}
def NB(h:ev E x=some v):AY P B n ⟨d,.move x,ty,pos,af,g⟩ E H v:=by
 intro a w N _;constructor<;>simp[execOp,N.ev h]
def Fw(h:ev E x=some v):AY P B n ⟨d,.assign x,ty,pos,af,g⟩ E H v:=by
 intro a w N _;constructor<;>simp[execOp,N.ev h]
def uV{c b}(W:ev E c=some (.bool b))(F:ev E x=some u)(G:ev E y=some v):
  AY P B n ⟨d,.pick c x y,ty,pos,af,g⟩ E H (bif b then u else v):=by
 intro a w N _;constructor<;>cases b<;>simp[execOp,N.ev W,N.ev F,N.ev G,asBool]
def Aeu{c}(W:ev E c=some (.bool true))(F:ev E x=some u):
  AY P B n ⟨d,.pick c x y,ty,pos,af,g⟩ E H u:=by
 intro a w N _;constructor<;>simp[execOp,N.ev W,N.ev F,asBool]
def Aci{c}(W:ev E c=some (.bool false))(G:ev E y=some v):
  AY P B n ⟨d,.pick c x y,ty,pos,af,g⟩ E H v:=by
 intro a w N _;constructor<;>simp[execOp,N.ev W,N.ev G,asBool]
def Sc{vs}(h:ev E x=some (.tuple vs))(l:vs[i]?=some v):
  AY P B n ⟨d,.extract x i,ty,pos,af,g⟩ E H v:=by
 intro a w N _;constructor<;>simp[execOp,N.ev h,Instr.extract,l]
def Uh{p}(h:ev E x=some (.pointer (some p))):AY P B n ⟨d,.nilCheck x,ty,pos,af,g⟩ E H (.pointer (some p)):=by
 intro a w N _;constructor<;>simp[execOp,N.ev h]
def Nx(hT:P.concrete T=true)(h:ev E x=some v):
  AY P B n ⟨d,.makeInterface T x,ty,pos,af,g⟩ E H (.iface T v):=by
 intro a w N _;have A:A9 B.heap.size P (Anl T v) w:=by
  unfold Anl;simp only[A9,BL,CT,true_and];cases(underlying T).run P w with
  |ok i w=>simp only[BX];cases i<;>trivial
  |halt h w=>trivial
 simp only[execOp,N.ev h,bn,run_makeInterface w T v hT,b0,bp,BL,A,true_and,BX,B3,and_self]
def Tn{b}(h:ev E x=some (.bool b)):AY P B n ⟨d,.unOp .not T x,ty,pos,af,g⟩ E H (.bool (!b)):=by
 intro a w N _;constructor<;>simp[execOp,N.ev h,Op.unary]
def Aga(m){T}(b c w)(hT:P.underlying T=some .bool):(Op.equalIn (m+1) T (.bool b) (.bool c)).run P w=.ok (b==c) w:=by
 simp only[Op.equalIn,bn,A6 hT,b0];rfl
def Acz{D}(m k){T}(b c w)(hT:P.underlying T=some .bool):Al k D P (Op.equalIn (m+1) T (.bool b) (.bool c)) w:=by
 simp only[Op.equalIn,BL,A6 hT,BX,CT,true_and];trivial
def XL{b c}[hT:Aw P T .bool](F:ev E x=some (.bool b))(G:ev E y=some (.bool c)):
  AY P B n ⟨d,.binOp .neq T x y T',ty,pos,af,g⟩ E H (.bool (!(b==c))):=by
 intro a w N _;have O:=λw=>Aga (P:=P) 9999 b c w hT.get;have U:(eqGuard .neq T x y (.bool b) (.bool c)).run P w=.ok () w:=rfl;have M:A9 B.heap.size P (eqGuard .neq T x y (.bool b) (.bool c)) w:=trivial;have Z:=Acz (P:=P) (D:=Ec w) 9999 B.heap.size b c w hT.get;simp only[BL,M,Z,BX,B3,true_and,and_self,execOp,N.ev F,N.ev G,bn,U,b0,binOp,Op.equal,show Op.maxDepth=9999+1 from I,O,bp]
def aw{D m}(op T)(k k':IntKind)(i j:Int)(w):Al m D P (binOp op T (.int k i) (.int k' j)) w:=by
 have J:∀(e:RuntimeError) (hc:(∃s,e=.error s)),Al m D P (runtimePanic e:Sem Value) w:=by rintro e ⟨s,rfl⟩;trivial
 have h:∀o,Al m D P (Op.shift o k i k' j) w:=λo=>by
  unfold Op.shift;split
  ·exact J _ ⟨_,I⟩
  cases o<;>trivial
 have l:∀o,Al m D P (Op.intDiv o k i j) w:=λo=>by
  unfold Op.intDiv;split
  ·exact J _ ⟨_,I⟩
  cases o<;>trivial
 cases op<;>simp only[binOp]<;>first
  |exact h _
  |(split<;>first|trivial|exact l _)
def Ag4{D m}(op T x y)(k k':IntKind)(i j:Int)(w):Al m D P (eqGuard op T x y (.int k i) (.int k' j)) w:=by
 cases op<;>trivial
def E4{op}{i j:Int}(F:ev E x=some (.int k i))(G:ev E y=some (.int k j))(h:∀w,(binOp op T (.int k i) (.int k j)).run P w=.ok v w):AY P B n ⟨d,.binOp op T x y T',ty,pos,af,g⟩ E H v:=by
 intro a w N _;have l:(eqGuard op T x y (.int k i) (.int k j)).run P w=.ok () w:=by cases op<;>rfl
 simp only[A9,BL,Ag4,aw,l,execOp,N.ev F,N.ev G,bn,h,b0,BX,bp,B3,and_self]
def LT(F:ev E x=some (.int .i64 i))(G:ev E y=some (.int .i64 j))(h:i+j<9223372036854775808):
  AY P B n ⟨d,.binOp .add T x y T',ty,pos,af,g⟩ E H (.int .i64 (i+j:Nat)):=
 E4 F G λw=>by simp[binOp,Op.intArith];exact IntWalk.i64_in _ (by omega)
def LF(F:ev E x=some (.int .u64 i))(G:ev E y=some (.int .u64 j))(h:i+j<18446744073709551616):
  AY P B n ⟨d,.binOp .add T x y T',ty,pos,af,g⟩ E H (.int .u64 (i+j:Nat)):=
 E4 F G λw=>by simp[binOp,Op.intArith];exact IntWalk.u64_in _ (by omega)
def Acp(F:ev E x=some (.int .u64 i))(G:ev E y=some (.int .u64 j)):
  AY P B n ⟨d,.binOp .add T x y T',ty,pos,af,g⟩ E H (.int .u64 ((i+j)%18446744073709551616:Nat)):=
 E4 F G λw=>by simp[binOp,Op.intArith,ti,Anv,Ans]
def uj{i j:Int}(F:ev E x=some (.int .i64 i))(G:ev E y=some (.int .i64 j))(h: -9223372036854775808≤i+j∧i+j<9223372036854775808):
  AY P B n ⟨d,.binOp .add T x y T',ty,pos,af,g⟩ E H (.int .i64 (i+j)):=
 E4 F G λw=>by simp[binOp,Op.intArith];exact IntWalk.i64_in _ (by omega)
def Ji(F:ev E x=some (.int .i64 i))(G:ev E y=some (.int .i64 j))(h:j≤i∧i<9223372036854775808):
  AY P B n ⟨d,.binOp .sub T x y T',ty,pos,af,g⟩ E H (.int .i64 (i-j:Nat)):=
 E4 F G λw=>by
  simp only[binOp,Op.intArith];rw[show((i-j:Nat):Int)=(i:Int)-j by omega,IntWalk.i64_in _ (by omega)];rfl
def MR(F:ev E x=some (.int .u64 i))(G:ev E y=some (.int .u64 j))(h:j≤i∧i<18446744073709551616):
  AY P B n ⟨d,.binOp .sub T x y T',ty,pos,af,g⟩ E H (.int .u64 (i-j:Nat)):=
 E4 F G λw=>by
  simp only[binOp,Op.intArith];rw[show((i-j:Nat):Int)=(i:Int)-j by omega,IntWalk.u64_in _ (by omega)];rfl
def MT{i j:Int}(F:ev E x=some (.int .i64 i))(G:ev E y=some (.int .i64 j))(h: -9223372036854775808≤i-j∧i-j<9223372036854775808):
  AY P B n ⟨d,.binOp .sub T x y T',ty,pos,af,g⟩ E H (.int .i64 (i-j)):=
 E4 F G λw=>by simp[binOp,Op.intArith];exact IntWalk.i64_in _ (by omega)
def vO(F:ev E x=some (.int .i64 i))(G:ev E y=some (.int .i64 j))(h:i*j<9223372036854775808):
  AY P B n ⟨d,.binOp .mul T x y T',ty,pos,af,g⟩ E H (.int .i64 (i*j:Nat)):=
 E4 F G λw=>by simp[binOp,Op.intArith];exact IntWalk.i64_in _ (by rw[←Amg];omega)
def tO(F:ev E x=some (.int .u64 i))(G:ev E y=some (.int .u64 j)):
  AY P B n ⟨d,.binOp .mul T x y T',ty,pos,af,g⟩ E H (.int .u64 ((i*j)%18446744073709551616:Nat)):=
 E4 F G λw=>by simp[binOp,Op.intArith,ti,Anv,Ans]
def ZT(F:ev E x=some (.int k i))(G:ev E y=some (.int k j))(h:j≠0∧k.wrap (i/j:Nat)=(i/j:Nat)):
  AY P B n ⟨d,.binOp .quo T x y T',ty,pos,af,g⟩ E H (.int k (i/j:Nat)):=
 E4 F G λw=>by
  have A:¬(j:Int)=0:=by omega
  have O:(i:Int).tdiv j=(i/j:Nat):=rfl;simp only[binOp,Op.intDiv,ne_eq,not_true_eq_false,A,O,if_false,h.2];rfl
def RL(F:ev E x=some (.int k i))(G:ev E y=some (.int k j))(h:j≠0):
  AY P B n ⟨d,.binOp .rem T x y T',ty,pos,af,g⟩ E H (.int k (i%j:Nat)):=
 E4 F G λw=>by
  have A:¬(j:Int)=0:=by omega
  have O:(i:Int).tmod j=(i%j:Nat):=rfl;simp only[binOp,Op.intDiv,ne_eq,not_true_eq_false,A,O,if_false];rfl
def bP(F:ev E x=some (.int k i))(G:ev E y=some (.int k' j)):
  AY P B n ⟨d,.binOp .shr T x y T',ty,pos,af,g⟩ E H (.int k (i/2^(min j k.bits):Nat)):=by
 intro a w N _;have A:¬(j:Int)<0:=by omega
 have O:(i:Int).fdiv (2^(min j k.bits))=(i/2^(min j k.bits):Nat):=by
  rw[Int.fdiv_eq_ediv_of_nonneg _ (by exact Int.pow_nonneg (by omega))];simp
 simp only[execOp,N.ev F,N.ev G,bn];simp[eqGuard,binOp,Op.shift,A,O]
def ii(F:ev E x=some (.int k i))(G:ev E y=some (.int k' j))(Z:k.signed=false):
  AY P B n ⟨d,.binOp .shl T x y T',ty,pos,af,g⟩ E H (.int k (i*2^(min j k.bits)%2^k.bits:Nat)):=by
 intro a w N _;have A:¬(j:Int)<0:=by omega
 simp only[execOp,N.ev F,N.ev G,bn];simp[eqGuard,binOp,Op.shift,A,ti,Z]
def Y5{m:Nat}(Z:k.signed=false)(h:m<2^k.bits):k.wrap (m:Int)=m:=by
 simp only[ti,Z,Akz,v8,if_false];have e:((2:Int)^k.bits)=((2^k.bits:Nat):Int):=by simp
 rw[e,←Int.natCast_emod,pg h]
def dJ(F:ev E x=some (.int k i))(G:ev E y=some (.int k j))(Z:k.signed=false)(h:i<2^k.bits∧j<2^k.bits):
  AY P B n ⟨d,.binOp .xor T x y T',ty,pos,af,g⟩ E H (.int k (i ^^^j:Nat)):=
 E4 F G λw=>by
  have e:(BitVec.ofInt k.bits (i:Int) ^^^BitVec.ofInt k.bits (j:Int)).toNat=i ^^^j:=by
   rw[BitVec.toNat_xor,BitVec.ofInt_natCast,BitVec.ofInt_natCast,BitVec.toNat_ofNat,BitVec.toNat_ofNat,pg h.1,pg h.2]
  simp only[binOp,Op.intBits,ne_eq,not_true_eq_false,if_false,e,Y5 Z (Nat.xor_lt_two_pow h.1 h.2)];rfl
def iF(F:ev E x=some (.int k i))(G:ev E y=some (.int k j))(Z:k.signed=false)(h:i<2^k.bits∧j<2^k.bits):
  AY P B n ⟨d,.binOp .or T x y T',ty,pos,af,g⟩ E H (.int k (i|||j:Nat)):=
 E4 F G λw=>by
  have e:(BitVec.ofInt k.bits (i:Int)|||BitVec.ofInt k.bits (j:Int)).toNat=i|||j:=by
   rw[BitVec.toNat_or,BitVec.ofInt_natCast,BitVec.ofInt_natCast,BitVec.toNat_ofNat,BitVec.toNat_ofNat,pg h.1,pg h.2]
  simp only[binOp,Op.intBits,ne_eq,not_true_eq_false,if_false,e,Y5 Z (Nat.or_lt_two_pow h.1 h.2)];rfl
def fV(F:ev E x=some (.int k i))(G:ev E y=some (.int k j))(Z:k.signed=false)(h:i<2^k.bits∧j<2^k.bits):
  AY P B n ⟨d,.binOp .and T x y T',ty,pos,af,g⟩ E H (.int k (i&&&j:Nat)):=
 E4 F G λw=>by
  have e:(BitVec.ofInt k.bits (i:Int)&&&BitVec.ofInt k.bits (j:Int)).toNat=i&&&j:=by
   rw[BitVec.toNat_and,BitVec.ofInt_natCast,BitVec.ofInt_natCast,BitVec.toNat_ofNat,BitVec.toNat_ofNat,pg h.1,pg h.2]
  simp only[binOp,Op.intBits,ne_eq,not_true_eq_false,if_false,e,Y5 Z (Nat.and_lt_two_pow _ h.2)];rfl
def ID(F:ev E x=some (.int k i))(G:ev E y=some (.int k j)):
  AY P B n ⟨d,.binOp .lss T x y T',ty,pos,af,g⟩ E H (.bool (decide (i<j))):=E4 F G λw=>by simp[binOp,Op.intCmp]
def uO(F:ev E x=some (.int k i))(G:ev E y=some (.int k j)):
  AY P B n ⟨d,.binOp .leq T x y T',ty,pos,af,g⟩ E H (.bool (decide (i≤j))):=E4 F G λw=>by simp[binOp,Op.intCmp]
def Ih(F:ev E x=some (.int k i))(G:ev E y=some (.int k j)):
  AY P B n ⟨d,.binOp .gtr T x y T',ty,pos,af,g⟩ E H (.bool (decide (j<i))):=E4 F G λw=>by simp[binOp,Op.intCmp]
def M0(F:ev E x=some (.int k i))(G:ev E y=some (.int k j)):
  AY P B n ⟨d,.binOp .geq T x y T',ty,pos,af,g⟩ E H (.bool (decide (j≤i))):=E4 F G λw=>by simp[binOp,Op.intCmp]
def Dy(F:ev E x=some (.int k i))(G:ev E y=some (.int k j)):
  AY P B n ⟨d,.binOp .eql T x y T',ty,pos,af,g⟩ E H (.bool (decide (i=j))):=
 E4 F G λw=>by
  have:((i:Int)==(j:Int))=decide (i=j):=by by_cases h:i=j<;>simp[h];omega
  simp[binOp,Op.intCmp,this]
def H4(F:ev E x=some (.int k i))(G:ev E y=some (.int k j)):
  AY P B n ⟨d,.binOp .neq T x y T',ty,pos,af,g⟩ E H (.bool (decide (i≠j))):=
 E4 F G λw=>by
  have:((i:Int) !=(j:Int))=decide (i≠j):=by by_cases h:i=j<;>simp[h];omega
  simp[binOp,Op.intCmp,this]
def Jr{i j:Int}(F:ev E x=some (.int k i))(G:ev E y=some (.int k j)):
  AY P B n ⟨d,.binOp .lss T x y T',ty,pos,af,g⟩ E H (.bool (decide (i<j))):=E4 F G λw=>by simp[binOp,Op.intCmp]
def uo{i j:Int}(F:ev E x=some (.int k i))(G:ev E y=some (.int k j)):
  AY P B n ⟨d,.binOp .leq T x y T',ty,pos,af,g⟩ E H (.bool (decide (i≤j))):=E4 F G λw=>by simp[binOp,Op.intCmp]
def YI{i j:Int}(F:ev E x=some (.int k i))(G:ev E y=some (.int k j)):
  AY P B n ⟨d,.binOp .gtr T x y T',ty,pos,af,g⟩ E H (.bool (decide (j<i))):=E4 F G λw=>by simp[binOp,Op.intCmp]
def Kl{i j:Int}(F:ev E x=some (.int k i))(G:ev E y=some (.int k j)):
  AY P B n ⟨d,.binOp .geq T x y T',ty,pos,af,g⟩ E H (.bool (decide (j≤i))):=E4 F G λw=>by simp[binOp,Op.intCmp]
def Eo{i j:Int}(F:ev E x=some (.int k i))(G:ev E y=some (.int k j)):
  AY P B n ⟨d,.binOp .eql T x y T',ty,pos,af,g⟩ E H (.bool (decide (i=j))):=
 E4 F G λw=>by
  have:(i==j)=decide (i=j):=by by_cases h:i=j<;>simp[h]
  simp[binOp,Op.intCmp,this]
def PC{i j:Int}(F:ev E x=some (.int k i))(G:ev E y=some (.int k j)):
  AY P B n ⟨d,.binOp .neq T x y T',ty,pos,af,g⟩ E H (.bool (decide (i≠j))):=
 E4 F G λw=>by
  have:(i !=j)=decide (i≠j):=by by_cases h:i=j<;>simp[h]
  simp[binOp,Op.intCmp,this]
def Ia(h:i<18446744073709551616):Anp.wrap (i:Int)=i:=IntWalk.u64_in _ (by omega)
def R4(h:i<9223372036854775808):IntKind.i64.wrap (i:Int)=i:=IntWalk.i64_in _ (by omega)
def zd(h:i<256):Ao0.wrap (i:Int)=i:=IntWalk.u8_in _ (by omega)
def fu(F:ev E x=some (.int .u64 i))(G:ev E y=some (.int .u64 j))(h:i<18446744073709551616∧j<18446744073709551616):
  AY P B n ⟨d,.binOp .xor T x y T',ty,pos,af,g⟩ E H (.int .u64 (i ^^^j:Nat)):=dJ F G I h
def fJ(F:ev E x=some (.int .u64 i))(G:ev E y=some (.int .u64 j))(h:i<18446744073709551616∧j<18446744073709551616):
  AY P B n ⟨d,.binOp .or T x y T',ty,pos,af,g⟩ E H (.int .u64 (i|||j:Nat)):=iF F G I h
def ll(F:ev E x=some (.int .u64 i))(G:ev E y=some (.int .u64 j))(h:i<18446744073709551616∧j<18446744073709551616):
  AY P B n ⟨d,.binOp .and T x y T',ty,pos,af,g⟩ E H (.int .u64 (i&&&j:Nat)):=fV F G I h
def sj(F:ev E x=some (.int .u8 i))(G:ev E y=some (.int .u8 j))(h:i<256∧j<256):
  AY P B n ⟨d,.binOp .xor T x y T',ty,pos,af,g⟩ E H (.int .u8 (i ^^^j:Nat)):=dJ F G I h
def Vt(F:ev E x=some (.int .u8 i))(G:ev E y=some (.int .u8 j))(h:i<256∧j<256):
  AY P B n ⟨d,.binOp .or T x y T',ty,pos,af,g⟩ E H (.int .u8 (i|||j:Nat)):=iF F G I h
def gy(F:ev E x=some (.int .u8 i))(G:ev E y=some (.int .u8 j))(h:i<256∧j<256):
  AY P B n ⟨d,.binOp .and T x y T',ty,pos,af,g⟩ E H (.int .u8 (i&&&j:Nat)):=fV F G I h
def L7(F:ev E x=some (.int .u64 i))(G:ev E y=some (.int k j))(h:j≤64):
  AY P B n ⟨d,.binOp .shr T x y T',ty,pos,af,g⟩ E H (.int .u64 (i/2^j:Nat)):=by
 have:=bP (P:=P) (B:=B) (n:=n) (H:=H) (d:=d) (T:=T) (T':=T') (ty:=ty) (pos:=pos) (af:=af) (g:=g) F G;rwa[show min j Anp.bits=j from n6 h]at this
def Tt(F:ev E x=some (.int .u64 i))(G:ev E y=some (.int k j))(h:j≤64):
  AY P B n ⟨d,.binOp .shl T x y T',ty,pos,af,g⟩ E H (.int .u64 (i*2^j%18446744073709551616:Nat)):=by
 have:=ii (P:=P) (B:=B) (n:=n) (H:=H) (d:=d) (T:=T) (T':=T') (ty:=ty) (pos:=pos) (af:=af) (g:=g) F G I;rwa[show min j Anp.bits=j from n6 h]at this
def pa(F:ev E x=some (.int .u8 i))(G:ev E y=some (.int k j))(h:j≤8):
  AY P B n ⟨d,.binOp .shr T x y T',ty,pos,af,g⟩ E H (.int .u8 (i/2^j:Nat)):=by
 have:=bP (P:=P) (B:=B) (n:=n) (H:=H) (d:=d) (T:=T) (T':=T') (ty:=ty) (pos:=pos) (af:=af) (g:=g) F G;rwa[show min j Ao0.bits=j from n6 h]at this
def jG(F:ev E x=some (.int .i64 i))(G:ev E y=some (.int .i64 j))(h:j≠0):
  AY P B n ⟨d,.binOp .rem T x y T',ty,pos,af,g⟩ E H (.int .i64 (i%j:Nat)):=RL F G h
def Afc(F:ev E x=some (.int .i64 i))(G:ev E y=some (.int .i64 j))(h:j≠0∧i<9223372036854775808):
  AY P B n ⟨d,.binOp .quo T x y T',ty,pos,af,g⟩ E H (.int .i64 (i/j:Nat)):=ZT F G ⟨h.1,R4 (Aku (Akp _ _) h.2)⟩
def Ac3(F:ev E x=some (.int .u64 i))(G:ev E y=some (.int .u64 j))(h:j≠0∧i<18446744073709551616):
  AY P B n ⟨d,.binOp .quo T x y T',ty,pos,af,g⟩ E H (.int .u64 (i/j:Nat)):=ZT F G ⟨h.1,Ia (Aku (Akp _ _) h.2)⟩
def C_(F:ev E x=some (.int .u8 i))(G:ev E y=some (.int .u8 j))(h:j≠0∧i<256):
  AY P B n ⟨d,.binOp .quo T x y T',ty,pos,af,g⟩ E H (.int .u8 (i/j:Nat)):=ZT F G ⟨h.1,zd (Aku (Akp _ _) h.2)⟩
def IF[h1:Aw P T (.int k)][h2:Aw P T' (.int k')](F:ev E x=some (.int k i))(h:k'.wrap (i:Int)=i):
  AY P B n ⟨d,.convert T T' x,ty,pos,af,g⟩ E H (.int k' i):=by
 intro a w N _;constructor<;>simp[execOp,N.ev F,convert,A6 h1.get,A6 h2.get,Conv.intToInt,h]
def Aca[h1:Aw P T (.int k)][h2:Aw P T' (.int k')](F:ev E x=some (.int k i))(Z:k'.signed=false):
  AY P B n ⟨d,.convert T T' x,ty,pos,af,g⟩ E H (.int k' (i%2^k'.bits:Nat)):=by
 intro a w N _;constructor<;>simp[execOp,N.ev F,convert,A6 h1.get,A6 h2.get,Conv.intToInt,ti,Z]
def Tw[h1:Aw P T (.int k)][h2:Aw P T' (.int .u8)](F:ev E x=some (.int k i)):
  AY P B n ⟨d,.convert T T' x,ty,pos,af,g⟩ E H (.int .u8 (i%256:Nat)):=Aca F I
def Xs{f k o}[hf:Ay P T f k](F:ev E x=some (.pointer (some ⟨b,o,none⟩))):
  AY P B n ⟨d,.fieldAddr T x f,ty,pos,af,g⟩ E H (.pointer (some ⟨b,o+k,none⟩)):=by
 intro a w N _;obtain⟨l,O,s,U,M,m,Z,X⟩:=hf.get;simp only[A9,BL,CT,DQ,B3,BX,true_and,execOp,N.ev F,Instr.fieldAt,bn,A6 O,b0,U,py,bp,fieldPlace,Z,X,if_false,M];by_cases h:k=0<;>simp[Addr.add,h]
def Hp{s:Prop}[hT:DC P T](F:ev E x=some (.pointer (some ⟨b,i,none⟩)))[hr:Rd B H b i v s](C:s):
  AY P B n ⟨d,.load T x,ty,pos,af,g⟩ E H v:=by
 intro a w N X;constructor<;>simp[execOp,N.ev F,Instr.loadAt,py,loadVar,hT.get,hr.get w X C,hr.live w X C]
def UO{p k c}[hT:Aw P T (.slice e)](F:ev E x=some (.slice p k c)):
  AY P B n ⟨d,.call ⟨.builtin .len,#[x],#[T]⟩,ty,pos,af,g⟩ E H (.int .i64 k):=by
 intro a w N _;constructor<;>simp[execOp,N.ev F,resolve,invoke,builtin,Builtin.len_,A6 hT.get,goInt]
def TA{s:ByteArray}[hT:Aw P T .string](F:ev E x=some (.string s)):
  AY P B n ⟨d,.call ⟨.builtin .len,#[x],#[T]⟩,ty,pos,af,g⟩ E H (.int .i64 s.size):=by
 intro a w N _;constructor<;>simp[execOp,N.ev F,resolve,invoke,builtin,Builtin.len_,A6 hT.get,goInt]
def cJ{p k c}[hT:Aw P T (.slice e)](F:ev E x=some (.slice p k c)):
  AY P B n ⟨d,.call ⟨.builtin .cap,#[x],#[T]⟩,ty,pos,af,g⟩ E H (.int .i64 c):=by
 intro a w N _;constructor<;>simp[execOp,N.ev F,resolve,invoke,builtin,Builtin.cap_,A6 hT.get,goInt]
def Uk{o k c sz}[hT:Aw P T (.slice e)][hz:CG P e sz](F:ev E x=some (.slice (some ⟨b,o,none⟩) k c))(G:ev E y=some (.int ik i))(h:i<k):AY P B n ⟨d,.indexAddr T x y,ty,pos,af,g⟩ E H (.pointer (some ⟨b,o+i*sz,none⟩)):=by
 intro a w N _;simp only[A9,BL,CT,DQ,B3,BX,true_and,execOp,N.ev F,N.ev G,Anu,asIntOf,bn,bp,b0,A6 hT.get];have A:(0:Int)≤i∧(i:Int)<k:=by omega
 simp only[A9,BL,CT,DQ,B3,BX,true_and,A,and_self,if_true,bn,hz.get,b0,bp,dz];by_cases Z:i*sz=0<;>simp[Addr.add,Z]
def Py{o len sz}[hT:Aw P T (.array len e)][hz:CG P e sz](F:ev E x=some (.pointer (some ⟨b,o,none⟩)))(G:ev E y=some (.int ik i))(h:i<len):AY P B n ⟨d,.indexAddr T x y,ty,pos,af,g⟩ E H (.pointer (some ⟨b,o+i*sz,none⟩)):=by
 intro a w N _;simp only[A9,BL,CT,DQ,B3,BX,true_and,execOp,N.ev F,N.ev G,Anu,asIntOf,bn,bp,b0,A6 hT.get,py];have A:(0:Int)≤i∧(i:Int)<len:=by omega
 simp only[A9,BL,CT,DQ,B3,BX,true_and,A,and_self,if_true,bn,hz.get,b0,bp,dz];by_cases Z:i*sz=0<;>simp[Addr.add,Z]
def Ms{o len sz q}[hT:Aw P T (.array len e)][hz:CG P e sz](F:ev E x=some (.pointer (some ⟨b,o,none⟩)))(G:ev E y=some (.int ik i))(h:i<len)(N:i*sz=q):AY P B n ⟨d,.indexAddr T x y,ty,pos,af,g⟩ E H (.pointer (some ⟨b,o+q,none⟩)):=N▸Py F G h
end
end
section
open Go Go.RowKit Go.Conc
structure B5(n:Nat)(v w:World):Prop where
 size:v.heap.size≤w.heap.size
 low:n≤v.heap.size
 tape:v.tape=w.tape
 os:v.os=w.os
 output:v.output=w.output
 ro:∀b:Nat,b<n→v.heap[b]?=some dead∨KJ v w b
 own:∀b:Nat,n≤b→b<v.heap.size→v.heap[b]?=some dead∨v.heap[b]?=(w.heap[b]?).map (GT ((Ec v).cell b))
def pad(v w:World):World:={v with heap:=v.heap++hB (w.heap.size-v.heap.size) dead,drawn:=w.drawn}
def Bm(n:Nat)(v:World)(b i:Nat):Prop:=n≤b∧b<v.heap.size∧¬(Ec v).cell b i
def Ol(v:World)(b:Nat):Prop:=v.heap[b]?=some dead∨v.heap.size≤b
def RK{v w:World}(h:v.heap.size≤w.heap.size):(pad v w).heap.size=w.heap.size:=by simp[pad];omega
def O8{v:World}(w)(h:b<v.heap.size):(pad v w).heap[b]?=v.heap[b]?:=by
 simp only[pad];rw[Aif h]
def Yf{v w:World}(h:v.heap.size≤b)(hb:b<w.heap.size):(pad v w).heap[b]?=some dead:=by
 simp only[pad];rw[Aiq h,Array.getElem?_replicate,AJ (by omega)]
def Qc{v:World}(h:v.heap[b]?=some dead)(i):(Ec v).cell b i:=⟨_,_,_,h,λu e=>by simp at e⟩
def Bm.Af5{v}(h:Bm n v b i):¬Ol v b:=λl=>l.elim (λe=>h.2.2 (Qc e i)) λJ=>by have:=h.2.1;omega
def kK{v v':World}(h:v'.heap[b]?=v.heap[b]?):(Ec v').cell b=(Ec v).cell b:=by
 funext i;simp only[Ec,h]
def O1{v:World}(h:∃x,v.heap[r]?=some x∧∀c t f,x≠ .cells c t f)(i):¬(Ec v).cell r i:=by
 obtain⟨x,F,W⟩:=h;rintro⟨c,t,f,e,_⟩;rw[F]at e;exact W c t f (ad.inj e)
def B5.rel{v w}(h:B5 n v w):E3 n (Ec (pad v w)) (pad v w) w:=by
 refine⟨RK h.size,by rw[RK h.size];exact k9 h.low h.size,I,h.tape,h.os,h.output,λb q J=>q,λb q=>?_,λb q l=>?_⟩
 ·have O:b<v.heap.size:=ny q h.low;unfold KJ;rw[O8 w O];exact h.ro b q
 obtain O|O:=ff b v.heap.size
 ·rw[kK (O8 w O),O8 w O];exact(h.own b q O).resolve_left λe=>l ((O8 w O).trans e)
 obtain U|U:=ff b w.heap.size
 ·exact absurd (Yf O U) l
 rw[n3 (by rw[RK h.size];exact U),n3 U];rfl
open Classical in
def nG{v w:World}(h:v.heap[b]?=(w.heap[b]?).map (GT p)):v.heap[b]?=(w.heap[b]?).map (GT ((Ec v).cell b)):=by
 cases X:w.heap[b]? with
 |none=>rw[h,X];rfl
 |some o=>
  rw[X]at h;rw[h];cases o with
  |cells c t fr=>
   simp only[i',GT,ad.injEq,Obj.cells.injEq,and_true];apply Aj6;intro i;rw[pv,pv];cases W:c[i]? with
   |none=>rfl
   |some x=>
    simp only[i',ad.injEq];have m:v.heap[b]?=some (.cells (c.mapIdx λi x=>if p i then Nk else x) t fr):=h;by_cases G:(Ec v).cell b i
    ·rw[AJ G];obtain⟨s,z,l,e,q⟩:=G;rw[m]at e;obtain⟨rfl,rfl,rfl⟩:=Obj.cells.inj (ad.inj e);exact q _ (by rw[pv,W];rfl)
    rw[AF G];by_cases J:p i
    ·refine absurd ⟨_,_,_,m,λu e=>?_⟩ G;rw[pv,W]at e;simp only[i',ad.injEq,AJ J]at e;exact e.symm
    rw[AF J]
  |_=>rfl
def E3.CD{D v w}(h:E3 n D v w):B5 n v w:=by
 refine⟨Nat.le_of_eq h.size,h.low,h.tape,h.os,h.output,h.ro,λb q J=>?_⟩;by_cases l:D.dead b
 ·exact .inl (h.gone b l J)
 exact .inr (nG (h.own b q l))
def Ym(n:Nat)(v w:World)(N:Nat)(e:Event):Prop:=
 (∃a,e.loc=.cell a∧e.sync=false∧a.block<N∧(w.heap.size≤a.block∨Bm n v a.block a.off∨a.block<n∧e.write=false))∨
 (∃r,e.loc=.obj r∧r<N∧(w.heap.size≤r∨Bm n v r 0))∨e.loc=.mark .noRoom
structure HC(n:Nat)(v w w' v':World)(es:Array Event):Prop where
 CD:B5 n v' w'
 grow:w.heap.size≤w'.heap.size
 kept:∀b:Nat,b<w.heap.size→(b<n∨Ol v b)→w'.heap[b]?=w.heap[b]?
 cell:∀b:Nat,b<w.heap.size→∀c t fr,w.heap[b]?=some (.cells c t fr)→∃c':Array Value,w'.heap[b]?=some (.cells c' t fr)∧c'.size=c.size∧∀i,¬Bm n v b i→c'[i]?=c[i]?
 mine:∀b i:Nat,b<w.heap.size→Bm n v' b i→Bm n v b i
 ev:∀e∈es,Ym n v w w'.heap.size e
 calm:w'.tape=w.tape∧w'.os=w.os∧w'.output=w.output
def HC.still{v w}(h:B5 n v w):HC n v w w v #[]:=
 ⟨h,er _,λ_ _ _=>rfl,λ_ _ c _ _ e=>⟨c,e,I,λ_ _=>rfl⟩,λ_ _ _ h=>h,λe N=>by simp at N,I,I,I⟩
def We{fn}:∀e∈seen P fn es,∀f,e.loc≠ .mark (.extern f):=by
 rw[seen_def];have:∀(q:FuncId→Bool) (l:List Event) (s:Bool×Array Event),(∀e∈s.2,∀f,e.loc≠ .mark (.extern f))→∀e∈(l.foldl (seenStep q) s).2,∀f,e.loc≠ .mark (.extern f):=by
  intro q l
  induction l with
  |nil=>intro s h;exact h
  |cons x l Z=>
   intro s h;refine Z _ ?_;simp only[seenStep];split
   ·exact h
   rename_i F;intro e N;split at N
   ·exact h e N
   obtain O|rfl:=Aka.1 N
   ·exact h e O
   exactλf V=>F f V
 exact this _ _ _ λe N=>by simp at N
def IE{fn}:∀e∈seen P fn es,e∈es∧∀f,e.loc≠ .mark (.extern f):=λe N=>⟨mem_seen N,We e N⟩
def tI{s:Sem α}{v w v'}(h:B5 n v w)(ht:A9 n P s (pad v w))(hr:My (s.run P (pad v w)) v'):
  ∃V es,s.runT P w #[]=(Result.at (s.run P (pad v w)) V,es)∧∀m,(∀e∈m,e∈es∧∀f,e.loc≠ .mark (.extern f))→HC n v w V v' m:=by
 have hok:(Ec (pad v w)).ok n (pad v w):=by
  refine⟨er _,by show n≤(pad v w).heap.size;rw[RK h.size];exact k9 h.low h.size,λb q F=>?_,λb i q F=>?_⟩
  ·have:b<(pad v w).heap.size:=I9 F;have q:(pad v w).heap.size≤b:=q;omega
  obtain⟨c,t,fr,e,_⟩:=F;have:=I9 e;have q:(pad v w).heap.size≤b:=q;omega
 have htop:(Ec (pad v w)).top=w.heap.size:=RK h.size;obtain⟨V,es,O,U,M,Z⟩:=Sem.lr s (pad v w) w #[] h.rel hok (λr hx=>O1 hx) ht v' hr;have hgone:∀b,b<w.heap.size→Ol v b→(Ec (pad v w)).dead b:=λb q hg=>by
  obtain X|X:=ff b v.heap.size
  ·exact(O8 w X).trans (hg.resolve_right (by omega))
  exact Yf X q
 have z:∀b i,b<w.heap.size→n≤b→¬(Ec (pad v w)).cell b i→Bm n v b i:=λb i q G W=>by
  obtain X|X:=ff b v.heap.size
  ·exact⟨G,X,by rwa[kK (O8 w X)]at W⟩
  exact absurd (Qc (Yf X q) i) W
 refine⟨V,es,O,λm hes'=>⟨U.CD,M.size,λb q F=>(M.gone b (by rw[htop];exact q) (F.imp id (hgone b q))).1,λb q c t fr e=>?_,λb i q hm=>?_,λe N=>?_,M.calm⟩⟩
 ·obtain⟨c',A,s',k'⟩:=M.cell b (by rw[htop];exact q) c t fr e;refine⟨c',A,s',λi hm=>?_⟩;obtain G|G:=ff b n
  ·have:=(M.gone b (by rw[htop];exact q) (.inl G)).1;rw[e,A]at this;obtain⟨rfl,_,_⟩:=Obj.cells.inj (ad.inj this);rfl
  exact k' i (Classical.byContradiction λW=>hm (z b i q G W))
 ·obtain⟨G,C,W⟩:=hm;refine z b i q G λl=>W ?_;by_cases F:(Ec (pad v w)).dead b
  ·exact Qc (U.gone b F C) i
  obtain⟨c,t,fr,e,hu⟩:=l;have ho:=h.rel.own b G F;rw[e]at ho;cases hw:w.heap[b]? with
  |none=>rw[hw]at ho;cases ho
  |some o=>
   rw[hw]at ho;obtain⟨c0,rfl,s0,k0⟩:=sU (ad.inj ho).symm;obtain⟨c',A,s',k'⟩:=M.cell b (by rw[htop];exact q) c0 t fr hw;have ho':=U.own b G F;rw[A]at ho';refine⟨_,_,_,ho',λu N=>?_⟩;rw[pv]at N;cases hx:c'[i]? with
   |none=>rw[hx]at N;cases N
   |some x=>
    rw[hx]at N;simp only[i',ad.injEq]at N;rw[AJ ⟨c,t,fr,e,hu⟩]at N;exact N.symm
 obtain⟨N,Y⟩:=hes' e N;obtain X|X:=Z e N
 ·simp at X
 rw[U.size]at X;obtain⟨a,a1,L,a3,R⟩|⟨r,r1,r2,r3,_,r5⟩|X|X:=X
 ·refine .inl ⟨a,a1,L,a3,?_⟩;obtain J|J:=ff a.block w.heap.size
  ·obtain⟨R,_,a6⟩|R:=R
   ·exact .inr (.inl (z _ _ J R a6))
   exact .inr (.inr R)
  exact .inl J
 ·refine .inr (.inl ⟨r,r1,r2,?_⟩);obtain J|J:=ff r w.heap.size
  ·exact .inr (z _ _ J r3 (r5 0))
  exact .inl J
 ·obtain⟨f,X⟩:=X;exact absurd X (Y f)
 exact .inr (.inr X)
def HC.sub{v w w' v' m}(h:HC n v w w' v' es)(C:∀e∈m,e∈es):HC n v w w' v' m:=
 ⟨h.CD,h.grow,h.kept,h.cell,h.mine,λe N=>h.ev e (C e N),h.calm⟩
def NW(P:Program)(main:Bool)(n:Nat)(X:Goroutine→World→Prop)(g:Goroutine)(v:World):Prop:=
 g.status=.running∧∀w,B5 n v w→∃h V L es,stepG P main g w=.go h V es∧HC n v w V L es∧X h L
def Co(P:Program)(main:Bool)(n:Nat)(K:Goroutine→World→Prop)(g:Goroutine)(v:World):Prop:=
 ∀X:Goroutine→World→Prop,(∀g v,K g v→X g v)→(∀g v,NW P main n X g v→X g v)→X g v
def NW.mono{main}{X Y:Goroutine→World→Prop}{v}(h:NW P main n X g v)(l:∀g v,X g v→Y g v):NW P main n Y g v:=
 ⟨h.1,λw m=>let⟨g',w',v',es,h1,h2,h3⟩:=h.2 w m;⟨g',w',v',es,h1,h2,l _ _ h3⟩⟩
section
variable{P:Program}{main:Bool}{n:Nat}{K:Goroutine→World→Prop}
def Co.stop{v}(h:K g v):Co P main n K g v:=λ_ O _=>O _ _ h
def Co.step{v}(h:NW P main n (Co P main n K) g v):Co P main n K g v:=λX O U=>U _ _ (h.mono λ_ _ W=>W X O U)
def Co.ind{Z:Goroutine→World→Prop}(h1:∀g v,K g v→Z g v)(h2:∀g v,NW P main n (λg v=>Co P main n K g v∧Z g v) g v→Z g v){v}(h:Co P main n K g v):Z g v:=
 (h (λg v=>Co P main n K g v∧Z g v) (λg v l=>⟨.stop l,h1 g v l⟩) λg v V=>⟨.step (V.mono λ_ _ h=>h.1),h2 g v V⟩).2
def Co.mono{N:Goroutine→World→Prop}(Z:∀g v,K g v→N g v){v}(h:Co P main n K g v):Co P main n N g v:=
 h.ind (λg v l=>.stop (Z g v l)) λ_ _ V=>.step (V.mono λ_ _ h=>h.2)
def Co.bind{N:Goroutine→World→Prop}(Z:∀g v,K g v→Co P main n N g v){v}(h:Co P main n K g v):Co P main n N g v:=
 h.ind Z λ_ _ V=>.step (V.mono λ_ _ h=>h.2)
def Co.move{g' v}(C:g.status=.running)(h:∀w,stepG P main g w=.go g' w #[])(W:Co P main n K g' v):Co P main n K g v:=
 .step ⟨C,λw X=>⟨g',w,v,#[],h w,.still X,W⟩⟩
def Ac(fn:FuncId)(kd:CallKind)(r:Option Nat)(a:Act)(todo:List Item):Frame:={fn,tmps:=a.tmps,todo,defers:=a.defers,mode:=.run,kind:=kd,roundOf:=r}
variable{fn:FuncId}{kd:CallKind}{r:Option Nat}{a:Act}{k:List Item}{cs:List Frame}{v w:World}
def Zl(x q):(Ac fn kd r a q).eval x=a.eval x:=by cases x<;>rfl
def Su(q):(Ac fn kd r a q).eval=a.eval:=funext λx=>Zl x q
def Mc{ops}{o:Oper}(l:ops[i]?=some o)(u):(Ac fn kd r a (.inRegion ops (i::rest)::k)).finish u=Ac fn kd r (a.put o.dst u) (.inRegion ops rest::k):=by
 cases h:o.dst<;>simp[Frame.finish,Ac,Act.put,l,h]
def LQ(P:Program)(main:Bool)(n:Nat)(K:Goroutine→World→Prop)(fn:FuncId)(kd:CallKind)(r:Option Nat)(k:List Item)(cs:List Frame):Exit→Act→World→Prop
 | .normal,a,v=>Co P main n K (G (Ac fn kd r a k) cs) v
 | .exit id,a,v=>∀k',exitTo id k'=exitTo id k→Co P main n K (G (Ac fn kd r a (.code (.exit id)::k')) cs) v
 | .ret,a,v=>∀k',Co P main n K (G (Ac fn kd r a (.code .ret::k')) cs) v
 | .panic s,a,v=>∀k',Co P main n K (G {Ac fn kd r a k' with mode:=.panicking s} cs) v
 | .goto _,_,_=>True
 | .outgrown,_,_=>True
def ER(P:Program)(n:Nat)(r:Option Nat)(c:Code)(Q:Exit→Act→World→Prop)(a:Act)(v:World):Prop:=
 ∀(main:Bool) (K:Goroutine→World→Prop) (fn:FuncId) (kd:CallKind) (k:List Item) (cs:List Frame),kd≠ .early→
  (∀e A L,Q e A L→LQ P main n K fn kd r k cs e A L)→Co P main n K (G (Ac fn kd r a (.code c::k)) cs) v
def IT(P:Program)(n:Nat)(f:FuncId)(args:Array Value)(v:World)(R:Ending→World→Prop):Prop:=
 ∀(main:Bool) (K:Goroutine→World→Prop) (fr:Frame) (cs:List Frame),
  (∀x L,R (.returned x) L→Co P main n K (G (fr.finish x) cs) L)→(∀s L,R (.panicked s) L→Co P main n K (G (fr.raise s) cs) L)→
  Co P main n K (G (Frame.enter P f args .normal) (fr::cs)) v
def ZY(P:Program)(n:Nat)(l:Nat)(f:FuncId)(tmps:Array Value)(X Z:Code)(v:World)(R:Ending→World→Prop):Prop:=
 ∀(main:Bool) (K:Goroutine→World→Prop) (fr:Frame) (cs:List Frame),
  (∀x L,R (.returned x) L→Co P main n K (G (fr.finish x) cs) L)→(∀s L,R (.panicked s) L→Co P main n K (G (fr.raise s) cs) L)→
  Co P main n K (G (Frame.round l f tmps X Z .normal) (fr::cs)) v
def IT.mono{R J:Ending→World→Prop}(h:IT P n f args v R)(hr:∀e L,R e L→J e L):IT P n f args v J:=
 λmain K fr cs O U=>h main K fr cs (λx L F=>O x L (hr _ _ F)) λs L F=>U s L (hr _ _ F)
def ER.mono{Q l:Exit→Act→World→Prop}(h:ER P n r c Q a v)(N:∀e a v,Q e a v→l e a v):ER P n r c l a v:=
 λmain K fn kd k cs Z J=>h main K fn kd k cs Z λe A L F=>J e A L (N _ _ _ F)
def Nr(P:Program)(n:Nat)(a:Act)(o:Oper)(K:Act→World→Prop)(Q:Exit→Act→World→Prop):Result Next→Prop
 | .ok (.value x) L=>K (a.put o.dst x) L
 | .ok .skip L=>K (a.put o.dst undef) L
 | .ok (.defer d) L=>K ({a with defers:=d::a.defers}.put o.dst undef) L
 | .ok (.enter f args) L=>IT P n f args L fun
   | .returned x,m=>K (a.put o.dst x) m
   | .panicked s,m=>Q (.panic s) a m
   | .outgrown,_=>False
 | .ok (.round l f Y X Z) L=>ZY P n l f Y X Z L fun
   | .returned x,m=>K (a.put o.dst x) m
   | .panicked s,m=>Q (.panic s) a m
   | .outgrown,_=>False
 | .halt (.panic x) L=>Q (.panic [{v:=x,recovered:=false}]) a L
 |_=>False
def Oper.co(P:Program)(n:Nat)(o:Oper)(a:Act)(v:World)(K:Act→World→Prop)(Q:Exit→Act→World→Prop):Prop:=
 A9 n P (execOp a.eval o) v∧Nr P n a o K Q ((execOp a.eval o).run P v)
def My.V? {o}{K:Act→World→Prop}{Q:Exit→Act→World→Prop}{z:Result Next}(h:Nr P n a o K Q z):∃L,My z L:=by
 cases z with
 |ok x w=>exact⟨w,.ok x w⟩
 |halt x w=>cases x<;>first|exact⟨w,.panic _ w⟩|exact h.elim
def Co.oper{ops}{o:Oper}{KK:Act→World→Prop}{Q:Exit→Act→World→Prop}(ho:ops[i]?=some o)(hw:cx o (yielded ops a.tmps)=true)(U:kd≠ .early)(hd:∀c,r≠none→o.op≠ .defer c)(h:∀w,B5 n v w→Oper.co P n o a (pad v w) KK Q)(hK:∀a' L,KK a' L→Co P main n K (G (Ac fn kd r a' (.inRegion ops rest::k)) cs) L)(hQ:∀s a' L,Q (.panic s) a' L→∀k',Co P main n K (G {Ac fn kd r a' k' with mode:=.panicking s} cs) L):
  Co P main n K (G (Ac fn kd r a (.inRegion ops (i::rest)::k)) cs) v:=by
 refine .step ⟨I,λw hs=>?_⟩;obtain⟨A,q⟩:=h w hs;obtain⟨L,O⟩:=My.V? q;obtain⟨V,es,C,M⟩:=tI hs A O;have hop:stepG P main (G (Ac fn kd r a (.inRegion ops (i::rest)::k)) cs) w=stepG.apply P true (Ac fn kd r a (.inRegion ops (i::rest)::k)) cs none (execOp a.eval o) w:=by
  have N:=Su (fn:=fn) (kd:=kd) (r:=r) (a:=a) (.inRegion ops (i::rest)::k);cases r with
  |none=>
   simp only[Ac]at N;simp[G,stepG,stepG.exec,stepG.oper,Frame.oper?,Ac,ho,hw,N]
  |some l=>
   simp only[Ac]at N;have hd':=λc=>hd c (by simp);cases hop:o.op<;>first|exact absurd hop (hd' _)|simp[G,stepG,stepG.exec,stepG.oper,Frame.oper?,Ac,ho,hw,N,hop]
 have W:(kd==CallKind.early)=false:=by simpa using U
 have J:=λu=>Mc (fn:=fn) (kd:=kd) (r:=r) (a:=a) (k:=k) (rest:=rest) ho u;generalize hz:(execOp a.eval o).run P (pad v w)=z at q O C;cases O with
 |ok x _=>
  have R:(execOp a.eval o).runT P w #[]=(.ok x V,es):=C;cases x with
  |value u=>
   refine⟨_,V,L,seen P fn es,?_,M _ IE,hK _ _ q⟩;rw[hop,←J];simp[stepG.apply,R,Ac,W,GStep.after,G,-n9]
  |skip=>
   refine⟨_,V,L,seen P fn es,?_,M _ IE,hK _ _ q⟩;rw[hop,←J];simp[stepG.apply,R,Ac,W,GStep.after,G,-n9]
  |defer d=>
   have q:KK ({a with defers:=d::a.defers}.put o.dst undef) L:=q;refine⟨_,V,L,seen P fn es,?_,M _ IE,hK _ _ q⟩;rw[hop,←Mc (fn:=fn) (kd:=kd) (r:=r) (a:={a with defers:=d::a.defers}) (k:=k) (rest:=rest) ho undef];simp[stepG.apply,R,Ac,W,GStep.after,G,-n9]
  |enter f args=>
   refine⟨_,V,L,seen P fn es,?_,M _ IE,q main K (Ac fn kd r a (.inRegion ops (i::rest)::k)) cs (λx m F=>?_) (λs m F=>?_)⟩
   ·rw[hop];simp[stepG.apply,R,Ac,W,GStep.after,G,-n9]
   ·rw[J];exact hK _ _ F
   exact hQ s a m F _
  |round l f Y X Z=>
   refine⟨_,V,L,seen P fn es,?_,M _ IE,q main K (Ac fn kd r a (.inRegion ops (i::rest)::k)) cs (λx m F=>?_) (λs m F=>?_)⟩
   ·rw[hop];simp[stepG.apply,R,Ac,W,GStep.after,G,-n9]
   ·rw[J];exact hK _ _ F
   exact hQ s a m F _
  |_=>exact q.elim
 |panic p _=>
  have R:(execOp a.eval o).runT P w #[]=(.halt (.panic p) V,es):=C;refine⟨_,V,L,seen P fn es,?_,M _ IE,hQ _ _ _ q (.inRegion ops (i::rest)::k)⟩;rw[hop];simp[stepG.apply,R,Ac,W,GStep.after,G,Frame.raise,-n9]
def Co.XE{ops}{o:Oper}(l:ops[i]?=some o)(hw:cx o (yielded ops a.tmps)=false)(h:Co P main n K (G (Ac fn kd r (a.put o.dst undef) (.inRegion ops rest::k)) cs) v):Co P main n K (G (Ac fn kd r a (.inRegion ops (i::rest)::k)) cs) v:=by
 refine .move I (λw=>?_) h;rw[←Mc l undef];simp[G,stepG,stepG.exec,Ac,l,hw]
end
end
section
open Go Go.RowKit Go.Conc
section
variable{P:Program}{main:Bool}{n:Nat}{K:Goroutine→World→Prop}{fn:FuncId}{kd:CallKind}{r:Option Nat}{a:Act}{k:List Item}{cs:List Frame}{v w:World}{Q:Exit→Act→World→Prop}
def xh(h:Q .normal a v):ER P n r .skip Q a v:=
 λ_ _ _ _ _ _ _ J=>.move I (λw=>by simp[G,stepG,stepG.exec,Ac]) (J _ _ _ h)
def cX{id}(h:Q (.exit id) a v):ER P n r (.exit id) Q a v:=λ_ _ _ _ k _ _ J=>J _ _ _ h k I
def iJ(h:Q .ret a v):ER P n r .ret Q a v:=λ_ _ _ _ k _ _ J=>J _ _ _ h k
def LQ.under{x e}(F:∀id,exitTo id (x::k)=exitTo id k)(G:e≠ .normal)(h:LQ P main n K fn kd r k cs e a v):LQ P main n K fn kd r (x::k) cs e a v:=by
 cases e with
 |normal=>exact absurd I G
 |exit id=>exactλk' Z=>h k' (Z.trans (F id))
 |ret=>exact h
 |panic s=>exact h
 |goto l=>trivial
 |outgrown=>trivial
def Abv{x y}(h:ER P n r x (Exit.then (ER P n r y Q) Q) a v):ER P n r (.seq x y) Q a v:=by
 intro main K fn kd k cs Z J;refine .move (g':=G (Ac fn kd r a (.code x:: .code y::k)) cs) I (λw=>by simp[G,stepG,stepG.exec,Ac]) (h main K fn kd (.code y::k) cs Z λe A L F=>?_);cases e with
 |normal=>exact F main K fn kd k cs Z J
 |_=>exact LQ.under (λid=>rfl) (by simp) (J _ _ _ F)
def T_{c x y t}(W:a.eval c=.bool t)(h:ER P n r (if t then x else y) Q a v):ER P n r (.cond c x y) Q a v:=by
 intro main K fn kd k cs Z J;refine .move (g':=G (Ac fn kd r a (.code (if t then x else y)::k)) cs) I (λw=>?_) (h main K fn kd k cs Z J);have:=Zl (fn:=fn) (kd:=kd) (r:=r) (a:=a) c (.code (.cond c x y)::k);simp only[Ac]at this;simp[G,stepG,stepG.exec,Ac,this,W]
def Ae8{id}(h:ER P n r c (Exit.inBlock id Q) a v):ER P n r (.block id c) Q a v:=by
 intro main K fn kd k cs Z J;refine .move (g':=G (Ac fn kd r a (.code c:: .inBlock id::k)) cs) I (λw=>by simp[G,stepG,stepG.exec,Ac]) (h main K fn kd (.inBlock id::k) cs Z λe A L F=>?_);cases e with
 |normal=>exact .move (g':=G (Ac fn kd r A k) cs) I (λw=>by simp[G,stepG,stepG.exec,Ac]) (J _ _ _ F)
 |exit i=>
  intro k' W;by_cases M:i=id
  ·subst M;simp only[Exit.inBlock,if_true]at F;have N:exitTo i k'=some k:=W.trans (by simp[exitTo]);exact .move (g':=G (Ac fn kd r A k) cs) I (λw=>by simp[G,stepG,stepG.exec,Ac,N]) (J _ _ _ F)
  simp only[Exit.inBlock,AF M]at F;have m:(id==i)=false:=by simpa using λe=>M e.symm
  exact J _ _ _ F k' (W.trans (by simp[exitTo,m]))
 |ret=>exact J _ _ _ F
 |panic s=>exact J _ _ _ F
 |goto l=>trivial
 |outgrown=>trivial
def Ab0(l:Nat→Act→World→Prop)(m)(h0:l m a v)(h:∀m a v,l m a v→ER P n r c (Exit.then (λA L=>∃N,N<m∧l N A L) Q) a v):
  ER P n r (.loop c) Q a v:=by
 intro main K fn kd k cs Z J;refine .move (g':=G (Ac fn kd r a (.code c:: .inLoop c::k)) cs) I (λw=>by simp[G,stepG,stepG.exec,Ac]) ?_
 induction m using Nat.strongRecOn generalizing a v with
 |_ m q=>
  refine h m a v h0 main K fn kd (.inLoop c::k) cs Z λe A L F=>?_;cases e with
  |normal=>
   obtain⟨N,W,C⟩:=F;exact .move (g':=G (Ac fn kd r A (.code c:: .inLoop c::k)) cs) I (λw=>by simp[G,stepG,stepG.exec,Ac]) (q N W C)
  |_=>exact LQ.under (λid=>rfl) (by simp) (J _ _ _ F)
def Hw(P:Program)(n:Nat)(r:Option Nat)(ops:Array Oper)(Q:Exit→Act→World→Prop):List Oper→Act→World→Prop
 |[],a,v=>Q .normal a v
 |o::l,a,v=>
  if cx o (yielded ops a.tmps)=true then(∀c,r≠none→o.op≠ .defer c)∧∀w,B5 n v w→Oper.co P n o a (pad v w) (Hw P n r ops Q l) Q
  else Hw P n r ops Q l (a.put o.dst undef) v
def Co.ops{ops}(Z:kd≠ .early)(J:∀e A L,Q e A L→LQ P main n K fn kd r k cs e A L):∀(is:List Nat) (l:List Oper) (a:Act) (v:World),is.map (ops[·]?)=l.map some→
  Hw P n r ops Q l a v→Co P main n K (G (Ac fn kd r a (.inRegion ops is::k)) cs) v
 |[],[],a,v,_,h=>.move (g':=G (Ac fn kd r a k) cs) I (λw=>by simp[G,stepG,stepG.exec,Ac]) (J _ _ _ h)
 |i::is,o::l,a,v,N,h=>by
  simp only[hP,List.cons.injEq]at N;unfold Hw at h;by_cases X:cx o (yielded ops a.tmps)=true
  ·rw[AJ X]at h;exact Co.oper N.1 X Z h.1 h.2 (λA L V=>Co.ops Z J is l A L N.2 V) λs A L m=>J _ _ _ m
  rw[AF X]at h;exact Co.XE N.1 (by simpa using X) (Co.ops Z J is l _ v N.2 h)
 |[],_::_,_,_,N,_=>by simp at N
 |_::_,[],_,_,N,_=>by simp at N
def np{id:Nat}{ops:Array Oper}{l:List Oper}(N:ops.toList=l)(h:Hw P n r ops Q l a v):ER P n r (.region id ops false) Q a v:=by
 intro main K fn kd k cs Z J;refine .move (g':=G (Ac fn kd r a (.inRegion ops (List.range ops.size)::k)) cs) I (λw=>by simp[G,stepG,stepG.exec,Ac]) (Co.ops Z J _ l a v ?_ h);subst N;apply Alx;intro i;by_cases M:i<ops.size
 ·simp[M]
 have:ops.size≤i:=by omega
 simp[this]
def RS(P:Program)(n:Nat)(fn:Func)(R:Ending→World→Prop):Exit→Act→World→Prop
 | .normal,a,v| .ret,a,v=>a.defers=[]∧∀w,B5 n v w→A9 n P (results fn a.tmps) (pad v w)∧∃x L,(results fn a.tmps).run P (pad v w)=.ok x L∧R (.returned x) L
 | .panic s,a,v=>a.defers=[]∧R (.panicked s) v
 |_,_,_=>False
def LN{s:Sem α}{x:α}{v'}(h:B5 n v w)(ht:A9 n P s (pad v w))(hr:s.run P (pad v w)=.ok x v'):
  ∃V es,s.runT P w #[]=(.ok x V,es)∧∀m,(∀e∈m,e∈es∧∀f,e.loc≠ .mark (.extern f))→HC n v w V v' m:=by
 obtain⟨V,es,O,U⟩:=tI h ht (v':=v') (by rw[hr];exact .ok x v');rw[hr]at O;exact⟨V,es,O,U⟩
def Co.returns{f}{g:Frame}(hf:P.funcs[g.fn]?=some f)(hm:g.mode=.returning)(F:g.defers=[])(Z:g.kind=.normal)(h:∀w,B5 n v w→A9 n P (results f g.tmps) (pad v w)∧∃x L,(results f g.tmps).run P (pad v w)=.ok x L∧Co P main n K (G (fr.finish x) cs) L):
  Co P main n K (G g (fr::cs)) v:=by
 refine .step ⟨I,λw C=>?_⟩;obtain⟨A,x,L,Y,W⟩:=h w C;obtain⟨V,es,O,U⟩:=LN C A Y;refine⟨_,V,L,seen P g.fn es,?_,U _ IE,W⟩;simp[G,stepG,unwind,hm,F,hf,O,doReturn,Z,GStep.after,-n9]
def Co.mW{f}{g:Frame}{ch}(hf:P.funcs[g.fn]?=some f)(hm:g.mode=.panicking ch)(F:g.defers=[])(W:Co P main n K (G (fr.raise ch) cs) v):Co P main n K (G g (fr::cs)) v:=by
 refine .move I (λw=>?_) W;simp[G,stepG,unwind,hm,F,hf,Frame.catches]
def Co.body{fn}{R:Ending→World→Prop}(hf:P.funcs[f]?=some fn)(h:ER P n none c (RS P n fn R) a v)(h1:∀x L,R (.returned x) L→Co P main n K (G (fr.finish x) cs) L)(h2:∀s L,R (.panicked s) L→Co P main n K (G (fr.raise s) cs) L):
  Co P main n K (G (Ac f .normal none a [.code c]) (fr::cs)) v:=by
 refine h main K f .normal [] (fr::cs) (by simp) λe A L F=>?_;have ret:∀(g:Frame),g.fn=f→g.mode=.returning→g.kind=.normal→g.defers=A.defers→g.tmps=A.tmps→RS P n fn R .ret A L→Co P main n K (G g (fr::cs)) L:=by
  intro g q z N J O ⟨M,X⟩;refine Co.returns (f:=fn) (by rw[q];exact hf) z (J.trans M) N λw C=>?_;rw[O];obtain⟨U,x,m,Y,V⟩:=X w C;exact⟨U,x,m,Y,h1 x m V⟩
 cases e with
 |normal=>exact .move (g':=G {Ac f .normal none A []with mode:=.returning} (fr::cs)) I (λw=>by simp[G,stepG,stepG.exec,Ac]) (ret _ I I I I I F)
 |ret=>exactλk'=>.move (g':=G {Ac f .normal none A (.code .ret::k')with mode:=.returning} (fr::cs)) I (λw=>by simp[G,stepG,stepG.exec,Ac]) (ret _ I I I I I F)
 |panic s=>exactλk'=>Co.mW (f:=fn) hf I F.1 (h2 s L F.2)
 |exit id=>exact F.elim
 |goto l=>trivial
 |outgrown=>trivial
def OX{fn:Func}(kd)(hf:P.funcs[f]?=some fn)(hb:fn.body=some c):
  Frame.enter P f args kd=Ac f kd none {tmps:=args++hB (fn.ntmps-args.size) undef,defers:=[]} [.code c]:=by
 simp[Frame.enter,Ac,hf,hb]
def cS{fn:Func}{R:Ending→World→Prop}(hf:P.funcs[f]?=some fn)(hb:fn.body=some c)(h:ER P n none c (RS P n fn R) {tmps:=args++hB (fn.ntmps-args.size) undef,defers:=[]} v):IT P n f args v R:=by
 intro main K fr cs O U;rw[OX .normal hf hb];exact Co.body hf h O U
def Di:Sem α→Prop
 | .pure _=>True
 | .new _ k=>∀r,Di (k r)
 | .getObj _ k=>∀o,Di (k o)
 | .setObj _ _ k=>Di k
 | .program k=>∀p,Di (k p)
 | .halt _=>True
 |_=>False
def Di.Ez{D}{s:Sem α}:∀{v v':World},Di s→My (s.run P v) v'→Al n D P s v:=by
 induction s with
 |pure a=>intros;trivial
 |new o k Z=>intro v v' h Y;exact Z _ (h _) Y
 |getObj r k Z=>
  intro v v' h Y;cases F:v.heap[r]? with
  |none=>simp only[a9,F]at Y;cases Y
  |some x=>
   by_cases W:∀c t f,x≠ .cells c t f
   ·exact⟨x,F,W,Z x (h x) (by rwa[TD F W]at Y)⟩
   have:∃c t f,x=.cells c t f:=by cases x<;>first|exact⟨_,_,_,I⟩|exact absurd (by simp) W
   obtain⟨c,t,f,rfl⟩:=this;simp only[a9,F]at Y;cases Y
 |setObj r o k Z=>
  intro v v' h Y;cases F:v.heap[r]? with
  |none=>simp only[a9,F]at Y;cases Y
  |some x=>
   by_cases W:∀c t f,x≠ .cells c t f
   ·exact⟨⟨x,F,W⟩,Z h (by rwa[Rq F W]at Y)⟩
   have:∃c t f,x=.cells c t f:=by cases x<;>first|exact⟨_,_,_,I⟩|exact absurd (by simp) W
   obtain⟨c,t,f,rfl⟩:=this;simp only[a9,F]at Y;cases Y
 |program k Z=>intro v v' h Y;exact Z _ (h _) Y
 |halt x=>intros;trivial
 |_=>intro v v' h;exact h.elim
def Di.Oa{D}{s:Sem α}{v v'}{x:α}(h:Di s)(hr:s.run P v=.ok x v'):Al n D P s v:=h.Ez (v':=v') (by rw[hr];exact .ok x v')
def Di.bind{β:Type}{s:Sem α}{f:α→Sem β}(h:Di s)(hf:∀a,Di (f a)):Di (s>>=f):=by
 show Di (s.bind f)
 induction s with
 |pure a=>exact hf a
 |new o k Z=>exactλr=>Z r (h r)
 |getObj r k Z=>exactλo=>Z o (h o)
 |setObj r o k Z=>exact Z h
 |program k Z=>exactλp=>Z p (h p)
 |halt x=>trivial
 |_=>exact h.elim
def S9(l):Di (Instr.getLoop l):=by
 refine Di.bind (s:=getObj l) (λo=>trivial) λo=>?_;cases o<;>trivial
def UB:Di (setObj b o):=trivial
def P? (f tmps ps x y):Di (sy f tmps ps x y none):=by
 show Di (Sem.new _ λr=>Sem.new _ λl=>Anr _);exactλ_ _=>trivial
def yg(l):Di (eo l):=by
 refine Di.bind (S9 l) λo=>Di.bind UB λ_=>?_;cases o.state<;>first|trivial|exactλ_=>trivial
def Afq(l j):Di (m5 l j):=
 Di.bind (S9 l) λo=>Di.bind UB λ_=>trivial
def vn(l):Di (Anm l):=by
 unfold Anm;refine Di.bind (S9 l) λo=>?_;have h:Di (do setObj l (.loop {o with state:=.exhausted});pure o.pending:Sem (Option Code)):=Di.bind UB λ_=>(trivial:Di (.pure _))
 split
 ·exact Di.bind (s:=runtimePanic _) (λ_=>trivial) λ_=>h
 exact h
def Ab9(b):Di (Ann b):=by
 refine Di.bind (s:=getObj b) (λo=>trivial) λo=>?_;cases o with
 |deferred z=>cases z<;>first|trivial|exact Di.bind UB λ_=>trivial
 |_=>trivial
def b_(l args):Di (Q1 l args):=by
 unfold Q1;refine Di.bind (S9 l) λo=>?_;split<;>trivial
def Aew(P:Program)(n l:Nat)(R:Ending→World→Prop):Exit→Act→World→Prop
 | .normal,_,v=>∀w,B5 n v w→∃x L,(m5 l none).run P (pad v w)=.ok x L∧R (.returned x) L
 | .exit id,_,v=>∀w,B5 n v w→∃x L,(m5 l (some (.exit id))).run P (pad v w)=.ok x L∧R (.returned x) L
 | .ret,_,v=>∀w,B5 n v w→∃x L,(m5 l (some .ret)).run P (pad v w)=.ok x L∧R (.returned x) L
 |_,_,_=>False
def Ae9{l tmps X Z}{R:Ending→World→Prop}(h:ER P n (some l) X (λe A L=>e=.normal∧∀w,B5 n L w→∃v2,(eo l).run P (pad L w)=.ok () v2∧ER P n (some l) Z (Aew P n l R) A v2) {tmps,defers:=[]} v):
  ZY P n l f tmps X Z v R:=by
 intro main K fr cs O U;show Co P main n K (G (Ac f .normal (some l) {tmps,defers:=[]} [.code X,.beginRound,.code Z]) (fr::cs)) v;refine h main K f .normal [.beginRound,.code Z] (fr::cs) (by simp) λe A L ⟨he,F⟩=>?_;subst he;refine .step ⟨I,λw C=>?_⟩;obtain⟨v2,Y,hc⟩:=F w C;have M :(do(some l).elim (stuck "beginRound: no round") eo; pure Next.skip :Sem Next).run P (pad L w) =.ok .skip v2 :=by
  simp only[Option.elim_some,bn,Y];rfl
 obtain⟨V,es,k1,k2⟩ :=LN (P :=P) (s :=(do(some l).elim (stuck "beginRound: no round") eo; pure Next.skip :Sem Next)) C ((Di.bind (yg l) λ_ =>trivial :Di (do(some l).elim (stuck "beginRound: no round") eo; pure Next.skip :Sem Next)).Oa M) M;refine⟨G (Ac f .normal (some l) A [.code Z]) (fr::cs),V,v2,seen P f es,?_,k2 _ IE,?_⟩
 ·have k1' :(do(some l).elim (stuck "beginRound: no round") eo; pure Next.skip :Sem Next).runT P w #[] =(.ok .skip V,es) :=k1;simp only[G,stepG,stepG.exec,Ac,stepG.apply,Frame.finish,GStep.after,if_true,k1']
  simp
 refine hc main K f .normal [] (fr::cs) (by simp) λe a2 J N=>?_;have z:∀(q:List Item) (j:Option Code),(∀w,stepG P main (G (Ac f .normal (some l) a2 q) (fr::cs)) w=(let(r,es):=(m5 l j).runT P w #[]
   GStep.after (seen P f es)<|match r with
   | .ok v w=>doReturn P main (Ac f .normal (some l) a2 q) (fr::cs) none v w
   | .halt _ w =>.ended (.stuck "range over a function: no such loop" ((Ac f .normal (some l) a2 q).pos P)) w)) →
   (∀w,B5 n J w→∃x L,(m5 l j).run P (pad J w)=.ok x L∧R (.returned x) L)→Co P main n K (G (Ac f .normal (some l) a2 q) (fr::cs)) J:=by
  intro q j hstep m;refine .step ⟨I,λw C=>?_⟩;obtain⟨x,v4,Y,hR⟩:=m w C;obtain⟨V,es,k1,k2⟩:=LN C ((Afq l j).Oa Y) Y;refine⟨_,V,v4,seen P f es,?_,k2 _ IE,O x v4 hR⟩;rw[hstep w];simp only[k1,doReturn,Ac,GStep.after];simp[G]
 cases e with
 |normal=>exact z [] none (λw=>by simp only[G,stepG,stepG.exec,Ac];rfl) N
 |exit id=>
  intro k' W;have hk2:exitTo id k'=none:=W.trans I;exact z _ (some (.exit id)) (λw=>by simp only[G,stepG,stepG.exec,Ac,hk2,Option.elim_none];rfl) N
 |ret=>exactλk'=>z _ (some .ret) (λw=>by simp only[G,stepG,stepG.exec,Ac];rfl) N
 |panic ch=>exact N.elim
 |goto t=>trivial
 |outgrown=>trivial
def Adn(P:Program)(n l:Nat)(mk:List Deferred)(a:Act)(Q:Exit→Act→World→Prop):Ending→World→Prop
 | .returned _,v=>∀w,B5 n v w→∃j L,(Anm l).run P (pad v w)=.ok j L∧
   match j with|none=>Q .normal {a with defers:=mk++a.defers} L|some c=>ER P n none c Q {a with defers:=mk++a.defers} L
 |_,_=>False
def Afp{g ps ca cb}(h:∀fn w,B5 n v w→∃l mk X W args v2,(sy fn a.tmps ps ca cb none).run P (pad v w)=.ok (l,mk) X∧
   (do let d ←resolve a.eval {callee:=.value g,args:= #[.const (.func (.yield l) #[] #[])],argTypes:= #[]} 0;invoke d.target d.args:Sem Next).run P X=.ok (.enter W args) v2∧
   Al n (Ec (pad v w)) P (do let d ←resolve a.eval {callee:=.value g,args:= #[.const (.func (.yield l) #[] #[])],argTypes:= #[]} 0;invoke d.target d.args:Sem Next) X∧
   IT P n W args v2 (Adn P n l mk a Q)):ER P n none (.rangeFunc g ps ca cb) Q a v:=by
 intro main K fn kd k cs Z J;refine .step ⟨I,λw C=>?_⟩;obtain⟨l,mk,X,W,args,v2,e1,M,R,e4⟩:=h fn w C;let A:Sem (Nat×List Deferred):=sy fn a.tmps ps ca cb none;let q:Nat→Sem Next:=λl=>do let d ←resolve a.eval {callee:=.value g,args:= #[.const (.func (.yield l) #[] #[])],argTypes:= #[]} 0;invoke d.target d.args
 have r3:(A>>=λz=>q z.1>>=λy=>(Pure.pure (z,y):Sem ((Nat×List Deferred)×Next))).run P (pad v w)=.ok ((l,mk),.enter W args) v2:=by
  simp only[bn,show A.run P (pad v w)=_ from e1,b0,show(q l).run P X=_ from M];rfl
 obtain⟨w2,es,m,k2⟩:=LN (s:=A>>=λz=>q z.1>>=λy=>(Pure.pure (z,y):Sem ((Nat×List Deferred)×Next))) C (by rw[A9,BL,show A.run P (pad v w)=_ from e1];exact⟨Di.Oa (s:=A) (P? fn a.tmps ps ca cb) e1,by rw[BX,BL,show(q l).run P X=_ from M];exact⟨R,trivial⟩⟩) r3;have m:(A.bind λz=>(q z.1).bind λy=>(Anr (z,y):Sem ((Nat×List Deferred)×Next))).runT P w #[]=(.ok ((l,mk),.enter W args) w2,es):=m;rw[Ant]at m;cases O:A.runT P w #[]with
 |mk z1 es1=>
  rw[O]at m;cases z1 with
  |halt x Y=>simp at m
  |ok z Y=>
   dsimp only at m;rw[Ant]at m;cases U:(q z.1).runT P Y es1 with
   |mk z2 es2=>
    rw[U]at m;cases z2 with
    |halt x w3=>simp at m
    |ok y w3=>
     simp only[kl,Prod.mk.injEq,Result.ok.injEq]at m;obtain⟨⟨⟨rfl,rfl⟩,rfl⟩,rfl⟩:=m;have h2e:((q l).runT P Y #[]).1=.ok (.enter W args) w3:=by rw[Anw,←Anw (es:=es1),U]
     have h2s:es2=es1++((q l).runT P Y #[]).2:=by
      have:=Sem.events_acc P (q l) Y es1;simp only[Sem.events,U]at this;exact this
     refine⟨_,w3,v2,seen P fn es1++seen P fn ((q l).runT P Y #[]).2,?_,k2 _ λe N=>?_,
      e4 main K (Ac fn kd none {a with defers:=mk++a.defers} (.inRangeFunc l::k)) cs (λx L F=>?_) λ_ _ F=>F.elim⟩
     ·have N:=Su (fn:=fn) (kd:=kd) (r:=none) (a:={a with defers:=mk++a.defers}) (.inRangeFunc l::k);have h1':(sy fn a.tmps ps ca cb none).runT P w #[]=(.ok (l,mk) Y,es1):=O;have h2':((do let d ←resolve (Ac fn kd none {a with defers:=mk++a.defers} (.inRangeFunc l::k)).eval {callee:=.value g,args:= #[.const (.func (.yield l) #[] #[])],argTypes:= #[]} 0;invoke d.target d.args:Sem Next)).runT P Y #[]=(.ok (.enter W args) w3,((q l).runT P Y #[]).2):=by
       rw[N,show Act.eval {a with defers:=mk++a.defers}=a.eval from funext λx=>by cases x<;>rfl,←h2e]
      have hkd:(kd==CallKind.early)=false:=by simpa using Z
      simp only[Ac]at h2';simp only[G,stepG,stepG.exec,Ac,h1',stepG.apply,if_true,h2',GStep.after,hkd];simp
     ·rw[h2s];obtain h|h:=v7.1 N
      ·exact⟨v7.2 (.inl (mem_seen h)),We e h⟩
      exact⟨v7.2 (.inr (mem_seen h)),We e h⟩
     refine .step ⟨I,λw C=>?_⟩;obtain⟨j,L,hr,hj⟩:=F w C;obtain⟨V,es,q1,q2⟩:=LN C ((vn l).Oa hr) hr;refine⟨G (Ac fn kd none {a with defers:=mk++a.defers} ((j.map Item.code).toList++k)) cs,V,L,seen P fn es,?_,q2 _ IE,?_⟩
     ·simp only[G,Frame.finish,Ac,stepG,stepG.exec,q1,GStep.after];simp
     cases j with
     |none=>exact J _ _ _ hj
     |some c=>exact hj main K fn kd k cs Z J
end
end
section
open Go Go.RowKit Go.Conc
def Iq(v v':World):Prop:=∃m d,v'={v with heap:=v.heap++hB m dead,drawn:=d}
def Iq.refl(v):Iq v v:=⟨0,v.drawn,by simp⟩
def Iq.trans{v X l}(h:Iq v X)(V:Iq X l):Iq v l:=by
 obtain⟨m,d,rfl⟩:=h;obtain⟨N,q,rfl⟩:=V;exact⟨m+N,q,by simp[Array.append_assoc,←Array.replicate_append_replicate]⟩
def Iq.pad(v w):Iq v (pad v w):=⟨_,w.drawn,I⟩
section
variable{P:Program}{main:Bool}{n:Nat}{K:Goroutine→World→Prop}{fn:FuncId}{kd:CallKind}{r:Option Nat}{a:Act}{k:List Item}{cs:List Frame}{v w:World}{Q:Exit→Act→World→Prop}
 {ops:Array Oper} {S:World→Prop}
def F5z(P:Program)(n:Nat)(r:Option Nat)(ops:Array Oper)(Q:Exit→Act→World→Prop)(i:Nat)(KK:Act→World→Prop)(a:Act)(v:World):Prop:=
 match ops[i]? with
 |none=>False
 |some o=>if cx o (yielded ops a.tmps)=true then(∀c,r≠none→o.op≠ .defer c)∧Oper.co P n o a v KK Q else KK (a.put o.dst undef) v
def Oper.cy{o}{KK l:Act→World→Prop}(h:∀a v,KK a v→l a v)(Y:Oper.co P n o a v KK Q):Oper.co P n o a v l Q:=by
 refine⟨Y.1,?_⟩;have Y:=Y.2;generalize(execOp a.eval o).run P v=z at Y⊢;cases z with
 |ok x V=>
  cases x<;>simp only[Nr]at Y⊢<;>first
   |exact h _ _ Y
   |exact IT.mono Y λe L N=>by cases e<;>first|exact h _ _ N|exact N
   |exactλmain K fr cs O U=>Y main K fr cs (λx L F=>O x L (h _ _ F)) λs L F=>U s L F
 |halt x V=>cases x<;>exact Y
def F5z.mono{KK l:Act→World→Prop}(h:∀a v,KK a v→l a v)(Y:F5z P n r ops Q i KK a v):F5z P n r ops Q i l a v:=by
 unfold F5z at Y⊢;cases m:ops[i]? with
 |none=>simp only[m]at Y
 |some o=>
  simp only[m]at Y⊢;split
  ·rename_i X;rw[AJ X]at Y;exact⟨Y.1,Oper.cy h Y.2⟩
  rename_i X;rw[AF X]at Y;exact h _ _ Y
def IH(P:Program)(n:Nat)(r:Option Nat)(ops:Array Oper)(Q:Exit→Act→World→Prop)(S:World→Prop)(last:Nat):Nat→Array Bool→Act→World→Prop
 |0,m,a,v=>∀X,Iq v X→c6 .any ops m=[]∧Q .normal a X
 |fuel+1,m,a,v=>∀X,Iq v X→(c6 .any ops m=[]→Q .normal a X)∧
   ∀i∈c6 .any ops m,F5z P n r ops Q i (λA L=>(last≤i∨S L)∧IH P n r ops Q S last fuel (m.setIfInBounds i true) A L) a X
def IH.EU{F m X}(h:IH P n r ops Q S last F m a v)(J:Iq v X):IH P n r ops Q S last F m a X:=by
 cases F with
 |zero=>exactλl U=>h l (J.trans U)
 |succ F=>exactλl U=>h l (J.trans U)
def Co.any(hk:kd≠ .early)(J:∀e A L,Q e A L→LQ P main n K fn kd r k cs e A L):∀(F t:Nat) (m:Array Bool) (a:Act) (v:World),IH P n r ops Q S last F m a v→
  Co P main n K (G (Ac fn kd r a (.inRegion ops (Kt.go .any ops F t m [])::k)) cs) v:=by
 have z:∀(a:Act) (v:World),Q .normal a v→Co P main n K (G (Ac fn kd r a (.inRegion ops []::k)) cs) v:=λa v h=>.move I (λw=>by simp[G,stepG,stepG.exec,Ac]) (J _ _ _ h);intro F
 induction F with
 |zero=>intro t m a v h;exact z a v (h v (.refl v)).2
 |succ F Z=>
  intro t m a v h;simp only[Kt.go];change Co P main n K (G (Ac fn kd r a (.inRegion ops (match(c6 .any ops m)[t%(aa (c6 .any ops m))]? with
   |some i=>Kt.go .any ops F (t/(aa (c6 .any ops m))) (m.setIfInBounds i true) [i]
   |none=>[].reverse)::k)) cs) v
  cases M:(c6 .any ops m)[t%(aa (c6 .any ops m))]? with
  |none=>
   have q:c6 .any ops m=[]:=by
    cases Y:c6 .any ops m with
    |nil=>rfl
    |cons x W=>
     rw[Y]at M;have hlt:t%(aa (x::W))<aa (x::W):=Alu _ (by simp);have:=List.getElem?_eq_none_iff.1 M;omega
   exact z a v ((h v (.refl v)).1 q)
  |some i=>
   simp only[];rw[linearise_go_acc,List.reverse_singleton,Al9];have O:=Akb M;have l:∀w,B5 n v w→F5z P n r ops Q i _ a (pad v w):=λw _=>(h _ (.pad v w)).2 i O;cases U:ops[i]? with
   |none=>
    have:=(h v (.refl v)).2 i O;unfold F5z at this;rw[U]at this;exact this.elim
   |some o=>
    by_cases X:cx o (yielded ops a.tmps)=true
    ·have R:=(h v (.refl v)).2 i O;unfold F5z at R;simp only[U,AJ X]at R;refine Co.oper (KK:=λA L=>(last≤i∨S L)∧IH P n r ops Q S last F (m.setIfInBounds i true) A L) U X hk R.1 (λw C=>?_) (λA L V=>Z _ _ A L V.2) λs A L N=>J _ _ _ N;have:=l w C;unfold F5z at this;simp only[U,AJ X]at this;exact this.2
    have R:=(h v (.refl v)).2 i O;unfold F5z at R;simp only[U,AF X]at R;exact Co.XE U (by simpa using X) (Z _ _ _ v R.2)
def Aaa{id}(hm:P.follows .mixedOrders=true)(h:IH P n r ops Q S last ops.size (hB ops.size false) a v):ER P n r (.region id ops true) Q a v:=by
 intro main K fn kd k cs Z J;refine .step ⟨I,λw C=>?_⟩;refine⟨G (Ac fn kd r a (.inRegion ops (Anq (P.follows .mixedOrders) ops (w.tape w.drawn (.order fn id)))::k)) cs,{w with drawn:=w.drawn+1},v,#[],?_,?_,?_⟩
 ·simp only[G,stepG,stepG.exec,Ac,Bool.not_true,v8,if_false];rfl
 ·exact⟨⟨C.size,C.low,C.tape,C.os,C.output,C.ro,C.own⟩,er _,λ_ _ _=>rfl,λ_ _ c _ _ e=>⟨c,e,I,λ_ _=>rfl⟩,λ_ _ _ h=>h,λe N=>by simp at N,I,I,I⟩
 simp only[Anq,hm,Al0,if_true];exact Co.any Z J ops.size _ _ a v h
def Jq(P:Program)(n:Nat)(r:Option Nat)(ops:Array Oper)(S:World→Prop)(o:Oper)(x:Value)(a:Act):Prop:=
 (cx o (yielded ops a.tmps)=true∧(∀c,r≠none→o.op≠ .defer c)∧∀v,S v→A9 n P (execOp a.eval o) v∧(execOp a.eval o).run P v=.ok (.value x) v)∨
 (cx o (yielded ops a.tmps)=false∧x=undef)
def Jq.at{o:Oper}{x}(hi:ops[i]?=some o)(G:Jq P n r ops S o x a){KK:Act→World→Prop}(l:S v)(h:KK (a.put o.dst x) v):F5z P n r ops Q i KK a v:=by
 unfold F5z;simp only[hi];obtain⟨X,F,m⟩|⟨X,rfl⟩:=G
 ·rw[AJ X];refine⟨F,(m v l).1,?_⟩;rw[(m v l).2];exact h
 rw[AF (by simp[X])];exact h
def Jq.of_same{o x}{a':Act}(G:Jq P n r ops S o x a)(N:execOp a'.eval o=execOp a.eval o)(hw:cx o (yielded ops a'.tmps)=cx o (yielded ops a.tmps)):Jq P n r ops S o x a':=by
 unfold Jq at*;rw[N,hw];exact G
def F5z.Ag8{Z C:Oper}{x}(W:ops[j]?=some C)(hap:Z.apart ops C=true)(J:∀cs b,Z.op≠ .select cs b)(M:∀cs b,C.op≠ .select cs b)(R:∀c a v,Q (.panic c) (a.put Z.dst x) v→Q (.panic c) a v){KK:Act→World→Prop}(G:Jq P n r ops S Z x a)(h:F5z P n r ops Q j KK (a.put Z.dst x) v):
  F5z P n r ops Q j (λA L=>Jq P n r ops S Z x A∧KK (A.put Z.dst x) L) a v:=by
 obtain⟨O,U,h3⟩:=Oper.apart_spec hap;have Y:∀(a:Act),Jq P n r ops S Z x a→∀u,Jq P n r ops S Z x (a.put C.dst u):=λa G u=>
  G.of_same (execOp_put Z J a C.dst u h3) (wanted_put Z a C.dst u h3)
 unfold F5z at*;simp only[W]at*;rw[wanted_put C a Z.dst x O]at h;split
 ·rename_i X;rw[AJ X]at h;unfold Oper.co at*;rw[execOp_put C M a Z.dst x O]at h;obtain⟨g1,g2,h⟩:=h;refine⟨g1,g2,?_⟩;clear g1 g2;generalize(execOp a.eval C).run P v=z at*;have kd:∀d,Jq P n r ops S Z x {a with defers:=d::a.defers}:=λd=>G.of_same I I;cases z with
  |ok y V=>
   cases y<;>simp only[Nr]at h⊢
   case value u=>exact⟨Y a G u,by rw[←Act.put_comm a x u U];exact h⟩
   case skip=>exact⟨Y a G _,by rw[←Act.put_comm a x undef U];exact h⟩
   case defer d=>
    refine⟨Y _ (kd d) _,?_⟩;rw[←Act.put_comm _ x undef U,←Act.put_defers];exact h
   case enter f args=>
    refine IT.mono h λe w'' N=>?_;cases e with
    |returned u=>exact⟨Y a G u,by rw[←Act.put_comm a x u U];exact N⟩
    |panicked c=>exact R _ _ _ N
    |outgrown=>exact N
   case round l f tmps as bd=>
    intro main K fr cs m k2;refine h main K fr cs (λu L q=>m u L ⟨Y a G u,by rw[←Act.put_comm a x u U];exact q⟩) λs L F=>k2 s L (R _ _ _ F)
  |halt y V=>
   cases y<;>simp only[Nr]at h⊢
   case panic u=>exact R _ _ _ h
 rename_i X;rw[AF X]at h;exact⟨Y a G _,by rw[←Act.put_comm a x undef U];exact h⟩
def wO(P:Program)(n:Nat)(f:FuncId)(args:Array Value)(u:FrameMode)(v:World)(R:FrameMode→World→Prop):Prop:=
 ∀(main:Bool) (K:Goroutine→World→Prop) (fr:Frame) (cs:List Frame),fr.mode=u→
  (∀X l,R X l→Co P main n K (G {fr with mode:=settle X} cs) l)→Co P main n K (G (Frame.enter P f args .deferred) (fr::cs)) v
def If(P:Program)(n:Nat)(fn:Func)(tmps:Array Value)(R:Ending→World→Prop):List Deferred→FrameMode→World→Prop
 |[],.returning,v=>∀w,B5 n v w→A9 n P (results fn tmps) (pad v w)∧∃x L,(results fn tmps).run P (pad v w)=.ok x L∧R (.returned x) L
 |[],.panicking s,v=>R (.panicked s) v
 |[],.run,_=>False
 |d::z,u,v=>u≠ .run∧match d.target with
  | .collected b=>∀w,B5 n v w→∃L,(Ann b).run P (pad v w)=.ok [] L∧If P n fn tmps R z u L
  | .fn (.func g) us=>∀w,B5 n v w→A9 n P (invoke d.target d.args) (pad v w)∧
    (invoke d.target d.args).run P (pad v w)=.ok (.enter g (d.args++us)) (pad v w)∧wO P n g (d.args++us) u (pad v w) λX l=>If P n fn tmps R z (settle X) l
  |_=>False
def Co.leaves{f}{R:Ending→World→Prop}(J:∀x L,R (.returned x) L→Co P main n K (G (fr.finish x) cs) L)(M:∀s L,R (.panicked s) L→Co P main n K (G (fr.raise s) cs) L):
  ∀(z:List Deferred) (g:Frame) (v:World),P.funcs[g.fn]?=some f→g.kind=.normal→g.defers=z→If P n f g.tmps R z g.mode v→Co P main n K (G g (fr::cs)) v
 |[],g,v,V,Z,F,h=>by
  cases W:g.mode with
  |returning=>
   rw[W]at h;refine Co.returns V W F Z λw C=>?_;obtain⟨A,x,L,Y,hx⟩:=h w C;exact⟨A,x,L,Y,J x L hx⟩
  |panicking s=>rw[W]at h;exact Co.mW V W F (M s v h)
  |run=>rw[W]at h;exact h.elim
 |d::z,g,v,V,Z,F,h=>by
  unfold If at h;obtain⟨q,h⟩:=h;obtain⟨t,args⟩:=d;have next:∀(L:World),If P n f g.tmps R z g.mode L→Co P main n K (G {g with defers:=z} (fr::cs)) L:=λL h'=>Co.leaves J M z {g with defers:=z} L V Z I h'
  have N:∀w,stepG P main (G g (fr::cs)) w=unwind P main g (fr::cs) none w:=λw=>by
   cases W:g.mode<;>first|exact absurd W q|simp[G,stepG,W]
  cases t with
  |collected b=>
   refine .step ⟨I,λw C=>?_⟩;obtain⟨L,Y,hx⟩:=h w C;obtain⟨w',es,m,k2⟩:=LN C ((Ab9 b).Oa Y) Y;refine⟨_,w',L,seen P g.fn es,?_,k2 _ IE,next L hx⟩;rw[N];simp only[unwind,F,m,GStep.after];simp[G]
  |fn O us=>
   cases O with
   |func gid=>
    refine .step ⟨I,λw C=>?_⟩;obtain⟨A,Y,hx⟩:=h w C;obtain⟨w',es,m,k2⟩:=LN C A Y;refine⟨_,w',_,seen P g.fn es,?_,k2 _ IE,hx main K {g with defers:=z} (fr::cs) I λX l U=>?_⟩
    ·rw[N];simp only[unwind,F,callDeferred,m,GStep.after];simp[G]
    exact Co.leaves J M z {g with mode:=settle X,defers:=z} l V Z I U
   |_=>exact h.elim
  |_=>exact h.elim
def lE(P:Program)(n:Nat)(fn:Func)(R:Ending→World→Prop):Exit→Act→World→Prop
 | .normal,a,v| .ret,a,v=>If P n fn a.tmps R a.defers .returning v
 | .panic s,a,v=>If P n fn a.tmps R a.defers (.panicking s) v
 |_,_,_=>False
def aO{fn:Func}{R:Ending→World→Prop}(hf:P.funcs[f]?=some fn)(hb:fn.body=some c)(h:ER P n none c (lE P n fn R) {tmps:=args++hB (fn.ntmps-args.size) undef,defers:=[]} v):IT P n f args v R:=by
 intro main K fr cs O U;rw[OX .normal hf hb];refine h main K f .normal [] (fr::cs) (by simp) λe A L F=>?_;cases e with
 |normal=>exact .move (g':=G {Ac f .normal none A []with mode:=.returning} (fr::cs)) I (λw=>by simp[G,stepG,stepG.exec,Ac]) (Co.leaves O U A.defers _ L hf I I F)
 |ret=>exactλk'=>.move (g':=G {Ac f .normal none A (.code .ret::k')with mode:=.returning} (fr::cs)) I (λw=>by simp[G,stepG,stepG.exec,Ac]) (Co.leaves O U A.defers _ L hf I I F)
 |panic s=>exactλk'=>Co.leaves O U A.defers _ L hf I I F
 |exit id=>exact F.elim
 |goto l=>trivial
 |outgrown=>trivial
end
end
end Go.Proofs.YtgfdlpcdjklcoaaGreatDoor
