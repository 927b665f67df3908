/- A part of this proof: steps of the program, plain facts; no condition. -/
import Derived.Test.YtgfdlpcdjklcoaaGreatDoorLW
import Derived.Test.YtgfdlpcdjklcoaaGreatDoorCards
import Derived.Test.YtgfdlpcdjklcoaaGreatDoorTie
import Derived.ProofKit
import Derived.OpenShut
import Derived.Carry
import Derived.ChangeArms
import Derived.LaidLaws
import Derived.LaidHandle
import Derived.Deep.DeepHandedRow
import Derived.Deep.Slices
namespace Go.Proofs.YtgfdlpcdjklcoaaGreatDoor
open Go Go.RowKit
open _root_.UInt8 renaming ofNat→J!
open _root_.List renaming replicate→J?,mem_cons→K!,getD_eq_getElem?_getD→K?,length_append→L_,foldl_cons→L!,length_drop→M?,range→N_,mem_singleton→N!,getElem?_append_right→N?,getElem?_append_left→O_,append_assoc→O!,map_cons→O?,getElem?_eq_getElem→P_,getElem?_take_of_lt→P!,length_cons→P?,map_nil→Q_,length_replicate→Q!,take_append_drop→Q?,zipWith_append→R_,getElem?_drop→R!,length_take→R?,length_map→S!,append_nil→S?,headD_cons→T_
open _root_.Option renaming some→K_
open _root_.Nat renaming zero_le→L?,lt_or_ge→M!,le_max_right→S_,le_trans→T!
open _root_.Prod renaming mk→M_
set_option linter.unusedVariables false
set_option maxRecDepth 20000
section
open Go Go.ChangeShapes Go.WideShapes Go.ChangeAt Go.RowKit
set_option linter.unusedVariables false
theorem own:ownKnob Tryz.prog.godebug=none:=by kernel_rfl
theorem eH:laidOutB Tryz.prog=true:=by kernel_rfl
theorem vS :Tryz.prog.globalNamed "errors.errorType" =some 0 :=by kernel_rfl
theorem vL :(Tryz.prog.cutTypes.find? (·.1 == "internal/reflectlite.rtype")).map (·.2) =some 282 :=by kernel_rfl
theorem fM:((N_ Tryz.prog.types.size).filter fun t=>Tryz.prog.rowNamed t [101,114,114,111,114])=[106]:=by kernel_rfl
theorem wH{W :World}(h :laidMetH Tryz.prog [("errors.errorType",Rows.laid_errors_errorType)] W) :W.cell? ⟨0,0,none⟩ =some (.iface 282 (.agg #[.pointer (some ⟨1,106,none⟩)])) :=by
 have h' :laidMet Tryz.prog [] W ∧ handlesMet Tryz.prog [("errors.errorType",Rows.laid_errors_errorType)] W :=h;obtain⟨name,u,ty,e1,e2,e3,e4,e5⟩:=h'.2 _ (N!.2 rfl);have en:name=[101,114,114,111,114]:=(K_.inj e1).symm;subst en;obtain rfl:=K_.inj (vL.symm.trans e2);have hm:ty∈(N_ Tryz.prog.types.size).filter fun t=>Tryz.prog.rowNamed t [101,114,114,111,114]:=List.mem_filter.2 ⟨List.mem_range.2 e3,e4⟩;rw [fM]at hm;obtain rfl:=N!.1 hm
 have hh:typeHandle Tryz.prog 106=.pointer (some ⟨1,106,none⟩):=by kernel_rfl
 rw [hh]at e5;simpa using World.var?_cell vS e5 0
noncomputable def RB (os:Os):World:=
 let w0:=World.holding Tryz.prog os ⟨#[],#[],[]⟩
 {w0 with heap:=w0.heap.modify 0 fun
   | .cells _ t frozen=>.cells #[.iface 282 (.agg #[.pointer (some ⟨1,106,none⟩)])] t frozen
   |o=>o}
theorem lY(os :Os)(args :Array Value) :laidMetH Tryz.prog [("errors.errorType",Rows.laid_errors_errorType)] ((RB os).forCall (fun _ _ =>0) ⟨#[],args,[]⟩).memory :=
 laidMetH_of_parts (laidMet_nil _ _) Cb
section
variable{H:Type}{An:TypeId×Value→H}{P:Program}
theorem dN(hl:laidOutB P=true){W W':World}(hb:Below W.heap.size W W'):∀(ts:List TypeId) (vs:List Value) (ds:List (DataW H)) (ps:List MemPlace),
  (∀t∈ts,P.readableRec t=true∧t<P.types.size)→DataW.TrodAll An P W 0 (fun _=>true) true ts vs ds ps→(∀x∈ps,x.block<W.heap.size)→∀sp:Nat→Bool,(∀p∈ps,sp p.block=true)→DataW.TrodAll An P W' 0 sp true ts vs ds ps
 |[],[],[],ps,_,h,_,_,_=>h
 |t::ts,v::vs,d::ds,ps,hr,h,hlt,sp,hsp=>by
  obtain⟨p,q,h1,h2,rfl⟩:=h;refine⟨p,q,WideElems.Trod_stays hl (hr t Cg).1 (hr t Cg).2 h1 (fun x hx=>hb.same (hlt x PL)) (fun x hx=>hsp x PL),?_,rfl⟩;exact dN hl hb ts vs ds q (fun t ht=>hr t (by simp [ht])) h2 (fun x hx=>hlt x PL) sp (fun x hx=>hsp x PL)
 |[],v::vs,ds,ps,_,h,_,_,_=>by cases ds<;>exact h.elim
 |[],[],d::ds,ps,_,h,_,_,_=>h.elim
 |t::ts,[],ds,ps,_,h,_,_,_=>by cases ds<;>exact h.elim
 |t::ts,v::vs,[],ps,_,h,_,_,_=>h.elim
theorem sG{f:Func}{s:ChangeSpec}{apart fresh handsOn again:Bool}{W W':World}{args:Array Value}{v:Value}{ds gs:List (DataW H)}{before:List MemPlace}
  (hl:laidOutB P=true)(hr:∀t∈f.params.toList,P.readableRec t=true∧t<P.types.size)(hvn:s.vars=[])
  (hW:DataW.Whole An P f.params.toList s.vars apart W args.toList ds gs before)(hb:Below W.heap.size W W')(ha:(s.fn H (ds++gs)).args=ds)(hv0:(s.fn H (ds++gs)).vars=[])
  (hres:∀(b:Nat) (sp:Nat→Bool) (hd:Bool),DataW.TrodAll An P W' b sp hd f.resultTypes.toList (v.resultList f.resultTypes.size) (s.fn H (ds++gs)).results [])
  (hok:∀(j:Nat) (t:TypeId) (r:Value),f.resultTypes[j]?=some t→(v.resultList f.resultTypes.size)[j]?=some r→Value.okWide P W' .any 0 t r):
  s.post An P f apart fresh handsOn again W args v W':=by
 have hlt:∀p∈before,p.block<W.heap.size:=fun p hp=>hW.lt p hp;have hW2:=hW;obtain⟨p,q,hA,hV,e,hz,hn⟩:=hW2;rw [hvn]at hV;obtain⟨rfl,rfl⟩:=trodVars_none hV
 obtain rfl:before=p:=by simpa using e
 have hargs:∀sp:Nat→Bool,(∀x∈before,sp x.block=true)→DataW.TrodAll An P W' 0 sp true f.params.toList args.toList (s.fn H (ds++[])).args before:=fun sp hsp=>by
  rw [ha];exact dN hl hb _ _ _ _ hr hA hlt sp hsp
 have hvars:∀sp:Nat→Bool,DataW.TrodVars An P W' sp s.vars (s.fn H (ds++[])).vars []:=fun sp=>by rw [hvn,hv0];rfl
 refine⟨ds,[],before,[],before,[],hW,hres _ _ _,hargs _ (fun x hx=>by simpa using hlt x hx),hvars _,World.keptBut_mono (fun x hx=>⟨hx,.inr (by simpa using hx)⟩) (hb.frame (·∈before)),fun _=>?_⟩;refine⟨hok,_,_,([]++before)++[],⟨[]++before,[],trodAll_append (hargs _ (fun _ _=>rfl)) (hres _ _ _),hvars _,rfl,?_,?_⟩,?_⟩
 ·intro b off hp
  have hp':MemPlace.cell b off∈before:=by simpa using hp
  rw [←hz b off (by simpa using hp')];unfold World.frozen?;rw [hb.block b (hlt _ hp')]
 ·intro hap
  have:=hn hap
  simpa using this
 ·intro x hx _;simpa using hx
theorem Fn.jO{B:World}{f:FuncId}{args:List Value}{Post:Value→HP→Prop}(h:Fn P B f args HP.BD Post):Calls P f args.toArray B fun e W'=>∃v H',e=.returned v∧Post v H'∧Below B.heap.size B W':=
 (h B (Sat.start B)).mono fun e W' ⟨v,H',e1,e2,e3⟩=>⟨v,H',e1,e2,e3.1⟩
variable{w:World}{base:Nat}{spare:Nat→Bool}{held:Bool}{fuel:Nat}{cs:List Value}{x:DataW H×List MemPlace}
end
end
abbrev uN(n:Nat):Value:=.int .u64 (n:Nat)
structure AW where
 lo:Nat
 hi:Nat
 deriving DecidableEq
@[reducible] instance:AC AW:=⟨2,fun r=>[uN r.lo,uN r.hi],⟨0,0⟩,fun _=>rfl,fun _ v h=>by simp at h;rcases h with rfl|rfl<;>rfl⟩
structure AU where
 kind:Int
 stream:Int
 offset:Nat
 code:Nat
 fin:Bool
 data:ByteArray
 ranges:List AW
def rg(rs:List AW)(i:Nat):AW:=rs.getD i ⟨0,0⟩
def AV(n:Nat):List UInt8:=
 if n<64 then [J! n]
 else if n<16384 then [J! (n/256+64),J! n]
 else if n<1073741824 then [J! (n/16777216+128),J! (n/65536),J! (n/256),J! n]
 else [J! (n/72057594037927936+192),J! (n/281474976710656),J! (n/1099511627776),J! (n/4294967296),
  J! (n/16777216),J! (n/65536),J! (n/256),J! n]
theorem CS(n:Nat):(AV n).length≤8:=by
 unfold AV;split
 ·simp
 split
 ·simp
 split<;>simp
def Fr(rs:List AW)(i:Nat):Prop:=(rg rs i).lo≤(rg rs i).hi∧(rg rs i).hi≤4611686018427387903∧(i=0∨(2≤(rg rs (i-1)).lo∧(rg rs i).hi+2≤(rg rs (i-1)).lo))
instance(rs:List AW)(i:Nat):Decidable (Fr rs i):=by unfold Fr;infer_instance
def GW(rs:List AW):Prop:=rs≠ []∧∀i,i<rs.length→Fr rs i
instance(rs:List AW):Decidable (GW rs):=by unfold GW;infer_instance
def Hb(f:AU):Prop:=(f.kind=3→GW f.ranges)∧(f.kind=5→f.data.size+f.offset≤4611686018427387903)
instance(f:AU):Decidable (Hb f):=by unfold Hb;infer_instance
def Dd(k:Int):Prop:=1≤k∧k≤6
instance(k:Int):Decidable (Dd k):=by unfold Dd;infer_instance
def B4(f:AU):Prop:=f.offset≤4611686018427387903∧f.code≤4611686018427387903∧0≤f.stream∧f.stream<4∧Hb f∧Dd f.kind
instance(f:AU):Decidable (B4 f):=by unfold B4;infer_instance
def B3(rs:List AW):Nat→List UInt8
 |0=>[]
 |k+1=>B3 rs k++AV ((rg rs k).lo-(rg rs (k+1)).hi-2)++AV ((rg rs (k+1)).hi-(rg rs (k+1)).lo)
def KT(rs:List AW):List UInt8:=[2]++AV (rg rs 0).hi++AV (rs.length-1)++AV ((rg rs 0).hi-(rg rs 0).lo)++B3 rs (rs.length-1)
def Ah(f:AU):List UInt8:=
 if f.kind=1 then [0]else if f.kind=2 then [1]else if f.kind=3 then KT f.ranges
 else if f.kind=4 then [4]++AV f.stream.toNat++AV f.code++AV f.offset
 else if f.kind=5 then [bif f.fin then 9 else 8]++AV f.stream.toNat++AV f.offset++AV f.data.size++f.data.data.toList
 else [28]++AV f.code
def Ap(fs:List AU):List UInt8:=fs.flatMap Ah
def GN(fs:List AU):Option (List UInt8):=if fs≠ []∧∀f∈fs,B4 f then some (Ap fs)else none
def Gr(xs:List UInt8)(a:Nat):Nat:=(xs.getD a 0).toNat
def IA(xs:List UInt8)(a:Nat):Nat→Nat
 |0=>Gr xs a%64
 |k+1=>IA xs a k*256+Gr xs (a+k+1)
theorem Rx(xs:List UInt8)(a:Nat):Gr xs a<256:=(xs.getD a 0).toNat_lt
theorem Ui(xs:List UInt8)(a:Nat):∀k,IA xs a k<64*256^k
 |0=>by simp [IA];omega
 |k+1=>by
  have h1:=Ui xs a k;have h2:=Rx xs (a+k+1);rw [IA,Nat.pow_succ];omega
def C5(xs:List UInt8)(a:Nat):Nat:=2^(Gr xs a/64)
theorem S0(xs:List UInt8)(a:Nat):C5 xs a=1∨C5 xs a=2∨C5 xs a=4∨C5 xs a=8:=by
 have h:=Rx xs a;unfold C5;rcases(by omega:Gr xs a/64=0∨Gr xs a/64=1∨Gr xs a/64=2∨Gr xs a/64=3)with e|e|e|e<;>rw [e]<;>simp
def DG(xs:List UInt8)(a:Nat):Option (Nat×Nat):=
 if a<xs.length∧a+C5 xs a≤xs.length then some (IA xs a (C5 xs a-1),a+C5 xs a)else none
theorem D7{xs:List UInt8}{a n a':Nat}(h:DG xs a=some (n,a')):n≤4611686018427387903∧a<a'∧a'≤xs.length:=by
 unfold DG at h;split at h
 ·rename_i hc;simp only [K_.injEq,M_.injEq]at h;obtain⟨rfl,rfl⟩:=h;have h1:=Ui xs a (C5 xs a-1);rcases S0 xs a with e|e|e|e<;>rw [e]at h1 hc⊢<;>simp only [Nat.reduceSub]at h1⊢<;>refine⟨?_,?_,?_⟩<;>omega
 ·cases h
def Ho(xs:List UInt8)(a:Nat):Option (Nat×Nat):=match DG xs a with
 |some (n,a')=>if n<4 then some (n,a')else none
 |none=>none
def Ig(xs:List UInt8)(a:Nat):Option (List UInt8×Nat):=match DG xs a with
 |some (n,a')=>if n≤xs.length-a' then some ((xs.drop a').take n,a'+n)else none
 |none=>none
def GF(xs:List UInt8):Nat→Nat→Nat→Option (List AW×Nat)
 |0,_,a=>some ([],a)
 |n+1,lo,a=>match DG xs a with
  |some (gap,a1)=>match DG xs a1 with
   |some (size,a2)=>if 2≤lo∧gap+2≤lo∧size+gap+2≤lo then
     match GF xs n (lo-2-gap-size) a2 with
     |some (rs,a3)=>some (⟨lo-2-gap-size,lo-2-gap⟩::rs,a3)
     |none=>none
    else none
   |none=>none
  |none=>none
def Fy(xs:List UInt8)(a:Nat):Option (List AW×Nat):=match DG xs a with
 |some (hi,a1)=>match DG xs a1 with
  |some (n,a2)=>match DG xs a2 with
   |some (size,a3)=>if size≤hi then
     match GF xs n (hi-size) a3 with
     |some (rs,a4)=>some (⟨hi-size,hi⟩::rs,a4)
     |none=>none
    else none
   |none=>none
  |none=>none
 |none=>none
def Et(t:UInt8):Nat:=if t=0 then 1 else if t=1 then 2 else if t=2 then 3 else if t=4 then 4 else if t=8∨t=9 then 5 else if t=28 then 6 else 0
def CF(xs:List UInt8)(k:Nat)(fin:Bool)(a:Nat):Option (AU×Nat):=
 if k=1 then some (⟨1,0,0,0,fin,⟨#[]⟩,[]⟩,a)
 else if k=2 then some (⟨2,0,0,0,fin,⟨#[]⟩,[]⟩,a)
 else if k=3 then match Fy xs a with
  |some (rs,a1)=>some (⟨3,0,0,0,fin,⟨#[]⟩,rs⟩,a1)
  |none=>none
 else if k=4 then match Ho xs a with
  |some (s,a1)=>match DG xs a1 with
   |some (c,a2)=>match DG xs a2 with
    |some (o,a3)=>some (⟨4,s,o,c,fin,⟨#[]⟩,[]⟩,a3)
    |none=>none
   |none=>none
  |none=>none
 else if k=5 then match Ho xs a with
  |some (s,a1)=>match DG xs a1 with
   |some (o,a2)=>match Ig xs a2 with
    |some (d,a3)=>some (⟨5,s,o,0,fin,AX d,[]⟩,a3)
    |none=>none
   |none=>none
  |none=>none
 else if k=6 then match DG xs a with
  |some (c,a1)=>some (⟨6,0,0,c,fin,⟨#[]⟩,[]⟩,a1)
  |none=>none
 else none
def GB(xs:List UInt8)(a:Nat):Option (AU×Nat):=
 match CF xs (Et (xs.getD a 0)) (decide (xs.getD a 0=9)) (a+1)with
 |some (f,a')=>if B4 f then some (f,a')else none
 |none=>none
def Fa(xs:List UInt8)(a:Nat):Except Nat (List AU):=
 if a<xs.length then
  match GB xs a with
  |some (f,a')=>if h:a<a'∧a<xs.length then match Fa xs a' with
    | .ok l=>.ok (f::l)
    | .error e=>.error e
   else .error a
  |none=>.error a
 else .ok []
 termination_by xs.length-a
 decreasing_by omega
def FL(xs:List UInt8):Except Nat (List AU):=if xs=[]then .error 0 else Fa xs 0
theorem QQ{xs:List UInt8}{a n a':Nat}(h:Ho xs a=some (n,a')):n<4∧a<a'∧a'≤xs.length:=by
 unfold Ho at h;split at h
 ·rename_i n' a'' e;split at h
  ·simp only [K_.injEq,M_.injEq]at h;obtain⟨rfl,rfl⟩:=h
   have:=D7 e
   exact⟨by assumption,this.2⟩
  ·cases h
 ·cases h
theorem SR{xs:List UInt8}{a a':Nat}{d:List UInt8}(h:Ig xs a=some (d,a')):a<a'∧a'≤xs.length∧d.length≤xs.length:=by
 unfold Ig at h;split at h
 ·rename_i n' a'' e;split at h
  ·simp only [K_.injEq,M_.injEq]at h;obtain⟨rfl,rfl⟩:=h
   have:=D7 e
   refine⟨Ca,Ca,?_⟩
   simp;omega
  ·cases h
 ·cases h
theorem V4{xs:List UInt8}:∀{n lo a a':Nat} {rs:List AW},GF xs n lo a=some (rs,a')→a≤xs.length→a≤a'∧a'≤xs.length∧rs.length=n∧2*n≤a'-a:=by
 intro n
 induction n with
 |zero=>intro lo a a' rs h ha;simp only [GF,K_.injEq,M_.injEq]at h;obtain⟨rfl,rfl⟩:=h;simp;omega
 |succ n ih=>
  intro lo a a' rs h ha;simp only [GF]at h;split at h
  ·rename_i gap a1 e1;split at h
   ·rename_i size a2 e2;split at h
    ·split at h
     ·rename_i rs' a3 e3;simp only [K_.injEq,M_.injEq]at h;obtain⟨rfl,rfl⟩:=h;have h1:=D7 e1;have h2:=D7 e2;have h3:=ih e3 Ca;simp only [P?];omega
     ·cases h
    ·cases h
   ·cases h
  ·cases h
theorem XV{xs:List UInt8}{a a':Nat}{rs:List AW}(h:Fy xs a=some (rs,a')):a<a'∧a'≤xs.length∧rs≠ []∧rs.length≤xs.length:=by
 unfold Fy at h;split at h
 ·rename_i hi a1 e1;split at h
  ·rename_i n a2 e2;split at h
   ·rename_i size a3 e3;split at h
    ·split at h
     ·rename_i rs' a4 e4;simp only [K_.injEq,M_.injEq]at h;obtain⟨rfl,rfl⟩:=h;have h1:=D7 e1;have h2:=D7 e2;have h3:=D7 e3;have h4:=V4 e4 h3.2.2;refine⟨Ca,Ca,Cg,?_⟩;simp only [P?];omega
     ·cases h
    ·cases h
   ·cases h
  ·cases h
 ·cases h
theorem yN{xs:List UInt8}{k a a':Nat}{fin:Bool}{f:AU}(h:CF xs k fin a=some (f,a'))(ha:a≤xs.length):a≤a'∧a'≤xs.length:=by
 unfold CF at h;split at h
 ·simp only [K_.injEq,M_.injEq]at h;obtain⟨-,rfl⟩:=h;omega
 split at h
 ·simp only [K_.injEq,M_.injEq]at h;obtain⟨-,rfl⟩:=h;omega
 split at h
 ·split at h
  ·rename_i e;simp only [K_.injEq,M_.injEq]at h;obtain⟨-,rfl⟩:=h
   have:=XV e;omega
  ·cases h
 split at h
 ·split at h
  ·rename_i e1;split at h
   ·rename_i e2;split at h
    ·rename_i e3;simp only [K_.injEq,M_.injEq]at h;obtain⟨-,rfl⟩:=h
     have:=QQ e1;have:=D7 e2;have:=D7 e3;omega
    ·cases h
   ·cases h
  ·cases h
 split at h
 ·split at h
  ·rename_i e1;split at h
   ·rename_i e2;split at h
    ·rename_i e3;simp only [K_.injEq,M_.injEq]at h;obtain⟨-,rfl⟩:=h
     have:=QQ e1;have:=D7 e2;have:=SR e3;omega
    ·cases h
   ·cases h
  ·cases h
 split at h
 ·split at h
  ·rename_i e;simp only [K_.injEq,M_.injEq]at h;obtain⟨-,rfl⟩:=h
   have:=D7 e;omega
  ·cases h
 ·cases h
theorem U1{xs:List UInt8}{a a':Nat}{f:AU}(h:GB xs a=some (f,a'))(ha:a<xs.length):a<a'∧a'≤xs.length∧B4 f:=by
 unfold GB at h;split at h
 ·rename_i e;split at h
  ·simp only [K_.injEq,M_.injEq]at h;obtain⟨rfl,rfl⟩:=h
   have:=yN e Ca
   exact⟨Ca,Ca,by assumption⟩
  ·cases h
 ·cases h
theorem Vk{xs:List UInt8}{a:Nat}(h:¬a<xs.length):Fa xs a=.ok []:=by rw [Fa,if_neg h]
theorem Rv{xs:List UInt8}{a:Nat}(h:a<xs.length)(e:GB xs a=none):Fa xs a=.error a:=by rw [Fa,if_pos h,e]
theorem Z0{xs:List UInt8}{a a':Nat}{f:AU}(h:a<xs.length)(e:GB xs a=some (f,a')):Fa xs a=match Fa xs a' with
  | .ok l=>.ok (f::l)
  | .error e=>.error e:=by
 conv=>lhs;rw [Fa]
 rw [if_pos h,e];simp only [];rw [dif_pos ⟨(U1 e h).1,h⟩]
structure RF where
 f:AU
 p:Option Addr
 b:Nat
 o:Nat
 c:Nat
 s:List Value
@[reducible] def AM(r:RF):List Value:=[.int .i64 r.f.kind,.int .i64 r.f.stream,uN r.f.offset,uN r.f.code,.bool r.f.fin,.string r.f.data,.slice r.p r.f.ranges.length r.c]
@[reducible] instance:AC RF:=⟨7,AM,⟨⟨0,0,0,0,false,⟨#[]⟩,[]⟩,none,0,0,0,[]⟩,fun _=>rfl,fun _ v h=>by
 simp at h;rcases h with rfl|rfl|rfl|rfl|rfl|rfl|rfl<;>rfl⟩
def RF.ok(r:RF):Prop:=Sl r.p r.b r.o r.f.ranges.length r.c
def RF.own(r:RF):Prop:=r.f.ranges.length*2+r.s.length=r.c*2
def Fs(r:RF):HP:=AB r.b r.o r.f.ranges r.s
def B8(rs:List RF):HP:=rs.foldr (fun r H=>Fs r*H) HP.BD
theorem Qw:B8 []=HP.BD:=rfl
theorem Ov(r:RF)(rs:List RF):B8 (r::rs)=Fs r*B8 rs:=rfl
theorem iB(rs ts:List RF):B8 (rs++ts)=B8 rs*B8 ts:=by
 induction rs with
 |nil=>rw [List.nil_append,Qw,HP.BI]
 |cons r rs ih=>rw [List.cons_append,Ov,Ov,ih,HP.assoc]
theorem rV{r:RF}{rs:List RF}(h:r∈rs):∃X,B8 rs=Fs r*X:=by
 induction rs with
 |nil=>cases h
 |cons t rs ih=>
  rcases K!.1 h with rfl|h
  ·exact Bh
  ·obtain⟨X,e⟩:=ih h;exact⟨Fs t*X,by rw [Ov,e,HP.CI]⟩
theorem XD{B:World}{r:RF}{rs:List RF}(h:r∈rs):Ad B (B8 rs) r.b r.o r.f.ranges:=by
 obtain⟨X,e⟩:=rV h;rw [e];show Ad B (AB r.b r.o r.f.ranges r.s*X) r.b r.o r.f.ranges;infer_instance
structure Hq(B:World)(H:HP)(p:Option Addr)(c:Nat)(fs:List AU)(b o:Nat)(rs:List RF):Prop where
 sl:Sl p b o fs.length c
 rd:Ad B H b o rs
 map:rs.map (·.f)=fs
 ok:∀r∈rs,r.ok
 UV:∀r∈rs,Ad B H r.b r.o r.f.ranges
theorem Hq.len{B:World}{H:HP}{p:Option Addr}{c:Nat}{fs:List AU}{b o:Nat}{rs:List RF}(h:Hq B H p c fs b o rs):rs.length=fs.length:=by rw [←h.map,S!]
theorem Hq.right{B:World}{A C:HP}{p:Option Addr}{c:Nat}{fs:List AU}{b o:Nat}{rs:List RF}(h:Hq B C p c fs b o rs):Hq B (A*C) p c fs b o rs:=
 ⟨h.sl,(let _:=h.rd;inferInstance),h.map,h.ok,fun r hr=>(let _:=h.UV r hr;inferInstance)⟩
theorem Hq.left{B:World}{A C:HP}{p:Option Addr}{c:Nat}{fs:List AU}{b o:Nat}{rs:List RF}(h:Hq B A p c fs b o rs):Hq B (A*C) p c fs b o rs:=
 ⟨h.sl,(let _:=h.rd;inferInstance),h.map,h.ok,fun r hr=>(let _:=h.UV r hr;inferInstance)⟩
def Nf(R:HP)(fs:List AU)(v:Value)(H':HP):Prop:=
 ∃p b o c s rs,v=.slice p fs.length c∧Sl p b o fs.length c∧fs.length*7+s.length=c*7∧rs.map RF.f=fs∧(∀r∈rs,r.ok∧r.own)∧H'=AB b o rs s*(B8 rs*R)
theorem Nf.rd{B:World}{R:HP}{p:Option Addr}{b o c:Nat}{s:List Value}{fs:List AU}{rs:List RF}(h1:Sl p b o fs.length c)(h2:rs.map RF.f=fs)(h3:∀r∈rs,r.ok∧r.own):
  Hq B (AB b o rs s*(B8 rs*R)) p c fs b o rs:=
 ⟨h1,inferInstance,h2,fun r hr=>(h3 r hr).1,fun r hr=>by
  have:=XD (B:=B) hr
  infer_instance⟩
theorem Nf.nil(R:HP):Nf R [] (.slice none 0 0) R:=⟨none,0,0,0,[],[],rfl,Fx,rfl,rfl,(fun _ h=>by simp at h),by rw [Gk,Qw,HP.BI,HP.BI]⟩
section
theorem tN:∀a,a<64→a|||64=a+64:=by decide
theorem uF:∀a,a<64→a|||128=a+128:=by decide
theorem f0:∀a,a<64→a|||192=a+192:=by decide
theorem Pq(k:Nat):u8 (J! k)=.int .u8 (k%256:Nat):=by rw [u8,UInt8.toNat_ofNat']
theorem Lp(xs:List UInt8):AD xs=xs.map u8:=by
 induction xs with
 |nil=>rfl
 |cons x xs ih=>show [u8 x]++AD xs=_;rw [ih];rfl
theorem nH{n:Nat}(h:n<64):AD (AV n)=[.int .u8 (n%256:Nat)]:=by
 rw [AV,if_pos h,Lp];simp only [O?,Q_,Pq]
theorem xW{n:Nat}(h:¬n<64)(h2:n<16384):AD (AV n)=[.int .u8 ((n/2^8%256|||64:Nat)),.int .u8 (n%256:Nat)]:=by
 rw [AV,if_neg h,if_pos h2,Lp];simp only [O?,Q_,Pq];rw [show n/2^8%256=n/256 by omega,tN _ Ca,show(n/256+64)%256=n/256+64 by omega]
theorem iA{n:Nat}(h:¬n<64)(h2:¬n<16384)(h3:n<1073741824):AD (AV n)=[.int .u8 ((n/2^24%256|||128:Nat)),.int .u8 (n/2^16%256:Nat),.int .u8 (n/2^8%256:Nat),.int .u8 (n%256:Nat)]:=by
 rw [AV,if_neg h,if_neg h2,if_pos h3,Lp];simp only [O?,Q_,Pq];rw [show n/2^24%256=n/16777216 by omega,uF _ Ca,show(n/16777216+128)%256=n/16777216+128 by omega]
theorem s6{n:Nat}(h:¬n<64)(h2:¬n<16384)(h3:¬n<1073741824)(h4:n≤4611686018427387903):AD (AV n)=[.int .u8 ((n/2^56%256|||192:Nat)),.int .u8 (n/2^48%256:Nat),.int .u8 (n/2^40%256:Nat),.int .u8 (n/2^32%256:Nat),
  .int .u8 (n/2^24%256:Nat),.int .u8 (n/2^16%256:Nat),.int .u8 (n/2^8%256:Nat),.int .u8 (n%256:Nat)]:=by
 rw [AV,if_neg h,if_neg h2,if_neg h3,Lp];simp only [O?,Q_,Pq];rw [show n/2^56%256=n/72057594037927936 by omega,f0 _ Ca,show(n/72057594037927936+192)%256=n/72057594037927936+192 by omega]
structure EQ where
 n:Nat
@[reducible] instance:AC EQ:=⟨1,fun x=>[uN x.n],⟨0⟩,fun _=>rfl,fun _ v h=>by rw [N!.1 h];rfl⟩
section
variable{P:Program}{B:World}{n:Nat}{E:A2}{D:Bu}{H:HP}{d:Option Tmp}{T T' ty:TypeId}{pos:String}{af:Array Edge}{g:Option (Nat×Bool)}{x y z:Operand}
theorem IX{α:Type}[AC α]{b o i:Nat}{xs:List α}[hT:Ea P T (AC.sz α)](hx:ev E x=some (.pointer (some ⟨b,o+i*AC.sz α,none⟩)))(hr:Ad B H b o xs)(hi:i<xs.length):
  Aa P B n ⟨d,.load T x,ty,pos,af,g⟩ E H (.agg (AC.An (xs.getD i AC.AH)).toArray):=by
 intro a w he hw
 have h1:(loadCells ⟨b,o+i*AC.sz α,none⟩ (AC.An (xs.getD i AC.AH)).length).run P w=.ok (AC.An (xs.getD i AC.AH)).toArray w:=by
  refine run_loadCells_list w ⟨b,o+i*AC.sz α,none⟩ _ fun j v e=>?_
  have:=hr.get i j v e hi w hw
  by_cases hj:j=0
  ·subst hj;simpa [Addr.add]using this
  ·simpa [Addr.add,hj]using this
 rw [AC.len]at h1;simp [execOp,he.ev hx,Instr.loadAt,Instr.sureAddr,loadVar,hT.get,hT.size,h1]
theorem D8{α:Type}[AC α]{b o i f:Nat}{xs:List α}{v:Value}[hT:CD P T](hx:ev E x=some (.pointer (some ⟨b,o+i*AC.sz α+f,none⟩)))(hr:Ad B H b o xs)(hv:(AC.An (xs.getD i AC.AH))[f]?=some v)(hi:i<xs.length):
  Aa P B n ⟨d,.load T x,ty,pos,af,g⟩ E H v:=by
 intro a w he hw;simp [execOp,he.ev hx,Instr.loadAt,Instr.sureAddr,loadVar,hT.get,hr.get i f v hv hi w hw]
theorem Ad.one{α:Type}[AC α]{b o:Nat}(a:α):Ad B (HP.AA b o (AC.An a)) b o [a]:=by
 have h:Ad B (AB b o [a] []) b o [a]:=inferInstance
 have e:AB b o [a] []=HP.AA b o (AC.An a):=by simp [AB,AD]
 rwa [e]at h
theorem tU{R:HP}{sT xT e by_:Nat}{b o c:Nat}{p:Option Addr}{xs:List UInt8}{s:List Value}{zv:Value}{str:ByteArray}
  [hT:Au P sT (.slice e)][hT2:Au P xT .string][hz:Bj P e 1][hi:FA P e by_][h0:BQ P e zv]
  (hx:ev E x=some (.slice p xs.length c))(hs:Sl p b o xs.length c)(hc:xs.length*1+s.length=c*1)
  (hy:ev E y=some (.string str))(hzc:zv.cells.size=1)
  (hb:(xs.length+str.size)*by_≤140737488355328)(hby:0<by_):
  CH P B n ⟨d,.call ⟨.builtin .append,#[x,y],#[sT,xT]⟩,ty,pos,af,g⟩ E D (AB b o xs s*R) (fun v H'=>B5 R (xs++str.data.toList) v H'):=by
 intro a w h1 _ h3 K Q hk
 have hl:str.data.toList.length=str.size:=by rw [Array.length_toList];rfl
 have hf:∀w',Sat B (AB b o xs s*R) w'→(Builtin.firstCells (AC.sz UInt8) str.data.toList.length (.string str)).run P w'=.ok (AD str.data.toList).toArray w':=by
  intro w' _
  have e1:(str.extract 0 str.data.toList.length).data=str.data:=by
   rw [hl]
   have:str.extract 0 str.size=str:=ByteArray.extract_zero_size
   rw [this]
  simp only [Builtin.firstCells,e1,Lp,Sem.run_pure];congr 1;apply Array.toList_inj.1;rw [Array.toList_map]
 obtain⟨v,w',hrun,H',hH,hw'⟩:=XN (P:=P) (B:=B) (R:=R) (b:=b) (o:=o) (p:=p) (c:=c) (xs:=xs) (ys:=str.data.toList) (s:=s) (sT:=sT) (xT:=xT) (ats:= #[sT,xT]) (e:=e) (by_:=by_) (ty:=ty) (x:=.string str) (w:=w) (z:=zv) hT.get rfl rfl (fun k h=>by rw [hT2.get]at h;cases h) ⟨_,hT2.get⟩ hz.get hi.get h0.get hzc hs hc Cz (fun w2 hw2=>hf w2 hw2) (by rw [hl];exact hb) hby h3
 have hrun2:(execOp a.eval ⟨d,.call ⟨.builtin .append,#[x,y],#[sT,xT]⟩,ty,pos,af,g⟩).run P w=.ok (.value v) w':=by
  simp [execOp,resolve,h1.ev hx,h1.ev hy,invoke,builtin,hrun]
 simp only [Oper.wp,hrun2,Oper.upon];exact hk v H' w' hH hw'
theorem Nl{b o i:Nat}{xs:List AW}[hT:Ea P T 2](hx:ev E x=some (.pointer (some ⟨b,o+i*2,none⟩)))(hr:Ad B H b o xs)(hi:i<xs.length):
  Aa P B n ⟨d,.load T x,ty,pos,af,g⟩ E H (.agg #[uN (rg xs i).lo,uN (rg xs i).hi]):=IX (hT:=hT) hx hr hi
theorem Qz{b o i:Nat}{xs:List AW}[hT:CD P T](hx:ev E x=some (.pointer (some ⟨b,o+i*2+0,none⟩)))(hr:Ad B H b o xs)(hi:i<xs.length):
  Aa P B n ⟨d,.load T x,ty,pos,af,g⟩ E H (uN (rg xs i).lo):=D8 (f:=0) hx hr rfl hi
theorem P5{b o i:Nat}{xs:List AW}[hT:CD P T](hx:ev E x=some (.pointer (some ⟨b,o+i*2+1,none⟩)))(hr:Ad B H b o xs)(hi:i<xs.length):
  Aa P B n ⟨d,.load T x,ty,pos,af,g⟩ E H (uN (rg xs i).hi):=D8 (f:=1) hx hr rfl hi
theorem HG{p:Option Addr}{b o k c i sz q:Nat}{e:TypeId}{ik:IntKind}[hT:Au P T (.slice e)][hz:Bj P e sz](hx:ev E x=some (.slice p k c))
  (hy:ev E y=some (.int ik i))(hs:Sl p b o k c)(h:i<k)(hq:o+i*sz=q):Aa P B n ⟨d,.indexAddr T x y,ty,pos,af,g⟩ E H (.pointer (some ⟨b,q,none⟩)):=hq▸CU hx hy hs h
theorem Yp(pre:List UInt8)(rs:List AW)(i:Nat):pre++B3 rs i++AV ((rg rs i).lo-(rg rs (i+1)).hi-2)++AV ((rg rs (i+1)).hi-(rg rs (i+1)).lo)=pre++B3 rs (i+1):=by
 simp only [B3,O!]
theorem PK(rs:List AW):∀i,(B3 rs i).length≤16*i
 |0=>by simp [B3]
 |i+1=>by
  have:=PK rs i
  have h1:=CS ((rg rs i).lo-(rg rs (i+1)).hi-2);have h2:=CS ((rg rs (i+1)).hi-(rg rs (i+1)).lo);simp only [B3,L_];omega
theorem xC{b o i:Nat}{xs:List EQ}[hT:CD P T](hx:ev E x=some (.pointer (some ⟨b,o+i*1,none⟩)))(hr:Ad B H b o xs)(hi:i<xs.length):
  Aa P B n ⟨d,.load T x,ty,pos,af,g⟩ E H (uN (xs.getD i ⟨0⟩).n):=D8 (f:=0) hx hr rfl hi
end
end
section
section
variable{H:Type}{An:TypeId×Value→H}
theorem oA(d:DataW H):1≤Rows.uptoBulk d:=by
 cases d with
 |lit l=>cases l<;>simp [Rows.uptoBulk]
 |nil=>simp [Rows.uptoBulk]
 |ptr d=>simp [Rows.uptoBulk]
 |slice elems spare=>simp [Rows.uptoBulk]
 |agg parts=>simp [Rows.uptoBulk]
 |iface t d=>simp [Rows.uptoBulk]
 |map entries=>simp [Rows.uptoBulk]
 |held h=>simp [Rows.uptoBulk]
theorem gS(l:List (DataW H)):l.length≤Rows.uptoBulkAll l:=by
 induction l with
 |nil=>simp [Rows.uptoBulkAll]
 |cons x r ih=>have:=oA x;simp only [Rows.uptoBulkAll,P?];omega
theorem Ye{d:DataW H}{l:List (DataW H)}(h:d∈l):Rows.uptoBulk d≤Rows.uptoBulkAll l:=by
 induction l with
 |nil=>cases h
 |cons x r ih=>
  simp only [Rows.uptoBulkAll];rcases K!.1 h with rfl|e
  ·omega
  ·have:=ih e;omega
theorem cE{α:Type}[AC α]{W:World}{H':HP}{b o:Nat}{xs:List α}(h:∀i f v,(AC.An (xs.getD i AC.AH))[f]?=some v→i<xs.length→W.cell? ⟨b,o+i*AC.sz α+f,none⟩=some v):Ad W H' b o xs:=
 ⟨fun i f v e hi w hw=>(Vo (h i f v e hi)).get w hw trivial⟩
instance:Inhabited RF:=⟨AC.AH⟩
instance:Inhabited AW:=⟨⟨0,0⟩⟩
theorem u0{α:Type}[AC α](X:Nat→α){len i:Nat}(hi:i<len):((N_ len).map X).getD i AC.AH=X i:=by
 simp [List.getD,List.getElem?_map,List.getElem?_range hi]
theorem jT{P:Program}{W:World}{α:Type}[AC α][Inhabited α]{t e fuel:Nat}{cs:List Value}{x:DataW H×List MemPlace}(Q:α→DataW H→Prop)(ht:P.underlying t=some (.slice e))(hc:P.cellsOf e=AC.sz α)(hsz:0<AC.sz α)
  (hopen:∀n cs' y,DataW.trod An P W 0 (fun _=>true) true n e cs'=some y→∃a:α,cs'=AC.An a∧Q a y.1)(h:DataW.trod An P W 0 (fun _=>true) true fuel t cs=some x):
  ∃(p:Option Addr) (b o c len:Nat) (X:Nat→α),cs=[.slice p len c]∧Sl p b o len c∧(∀H',Ad W H' b o ((N_ len).map X))∧
   ((len=0∧x.1=.nil)∨∃(D:Nat→DataW H) (sp:List (DataW H)),x.1=.slice ((N_ len).map D) sp∧∀i,i<len→Q (X i) (D i)):=by
 rcases Go.Deep.open_slice ht h with⟨rfl,rfl⟩|⟨a,len,cap,m,n,D,Pl,rfl,hb,hl,hm,hmm,rfl,hx⟩
 ·exact⟨none,0,0,0,0,fun _=>default,rfl,Fx,fun H'=>cE (fun i f v _ hi=>by simp at hi),.inl BW⟩
 ·obtain rfl:m=cap:=by simpa using hmm
  obtain⟨X,hX⟩:=Go.Deep.choose_lt (α:=α) (n:=m) (p:=fun i a'=>W.cells? 0 (a.add (i*AC.sz α)) (AC.sz α)=some (AC.An a')∧Q a' (D i)) (fun i hi=>by
   obtain⟨cs',h1,h2⟩:=hx i hi
   obtain⟨a',e1,e2⟩:=hopen n cs' _ h2
   rw [hc]at h1
   exact⟨a',by rw [h1,e1],e2⟩)
  have hcell:∀i f v,i<m→(AC.An (X i))[f]?=some v→W.cell? (a.add (i*AC.sz α+f))=some v:=by
   intro i f v hi hv;obtain⟨_,_,h3⟩:=World.cells?_some (hX i hi).1
   have hf:f<AC.sz α:=by
    have:=(List.getElem?_eq_some_iff.1 hv).1
    rwa [AC.len]at this
   rw [←Go.Deep.add_add,h3 f hf,hv]
  have hspot:0<m→a.spot=none:=by
   intro h0
   have h1:0<(AC.An (X 0)).length:=by rw [AC.len];exact hsz
   have h2:=hcell 0 0 ((AC.An (X 0))[0]) h0 (P_ h1);simp only [Nat.zero_mul,Nat.zero_add,Addr.add,if_true]at h2;unfold World.cell? at h2;split at h2
   ·split at h2
    ·cases h2
    ·rename_i hs
     cases hsp:a.spot with
     |none=>rfl
     |some z=>rw [hsp]at hs;exact absurd rfl hs
   ·cases h2
  refine⟨some a,a.block,a.off,m,len,X,rfl,⟨?_,hl⟩,fun H'=>cE fun i f v hv hi=>?_,.inr ⟨D,_,rfl,fun i hi=>(hX i Ca).2⟩⟩
  ·rcases Nat.eq_zero_or_pos m with h0|h0
   ·exact .inl h0
   ·refine .inr ?_
    have:=hspot h0
    obtain⟨bk,of,sp⟩:=a;obtain rfl:sp=none:=this;rfl
  ·rw [S!,List.length_range]at hi;rw [u0 X hi]at hv
   have:=hcell i f v Ca hv
   have hs:=hspot Ca;obtain⟨bk,of,sp⟩:=a;obtain rfl:sp=none:=hs
   have e:(⟨bk,of,none⟩:Addr).add (i*AC.sz α+f)=⟨bk,of+i*AC.sz α+f,none⟩:=by
    unfold Addr.add;split
    ·congr 1;omega
    ·show(⟨bk,of+(i*AC.sz α+f),none⟩:Addr)=_;congr 1;omega
   rwa [e]at this
theorem qC{P:Program}{W:World}{r:Reach}{base:Nat}{t e:TypeId}{v:Value}(ht:P.underlying t=some (.slice e))(h:Value.okWide P W r base t v):∃p k c,v=.slice p k c:=by
 simp only [Value.okWide,ht,Cell.okWide]at h;cases v<;>simp [Cell.ok,ht]at h;exact⟨_,_,_,rfl⟩
end
end
section
variable{B:World}
theorem Nb(x:UInt64)(k:Nat)(hk:0<k∧k<64)(H:HP):Fn Tryz.prog B 227 [u64 x,iN k] H (fun v H'=>v=u64 (LL x k)∧H'=H):=by
 refine mI Tryz.func227 ?_
 have h63:k&&&63=k:=by rw [Nat.and_two_pow_sub_one_eq_mod k 6];omega
 refine J2 ?_;refine Gu ?_;refine J5 ?_;refine JL FD ?_;refine JL (mW (j:=63) rfl rfl (by constructor<;>first|omega|exact Nat.lt_of_le_of_lt (Nat.div_le_self ..) Ca)) ?_;refine J7 ?_;refine JL (Se rfl rfl Ca) ?_;refine J2 ?_;refine JL (KY (i:=64) rfl rfl Ca) ?_;refine JL (Jl rfl rfl Ca) ?_;refine JL (Tb rfl rfl) ?_;refine J4 ?_;exact mr [4] rfl rfl ⟨by simp only [h63];rfl,rfl⟩
set_option maxHeartbeats 1000000 in
theorem cO(b k:Nat)(hk:k<1000)(v:S4)(R:HP):Fn Tryz.prog B 224 [ptr b 0,iN k] (HP.AA b 0 (s4 v)*R) (fun r H'=>r=.tuple #[]∧H'=HP.AA b 0 (s4 (KB k v))*R):=by
 refine mI Tryz.func224 ?_;refine J3 ?_;refine G3 ?_;refine Bm (fun j:Nat=>[(0,ptr b 0),(4,iN k),(5,iN j)]) (fun j=>HP.AA b 0 (s4 (KB j v))*R) (fun j=>j≤k) (fun j=>k-j) 0 Ff EG rfl ?_;intro j hj;refine J6 ?_;refine mC (fun hc=>?_) (fun hc=>?_)
 ·refine J5 ?_;refine PI ?_;refine JT 2 rfl Hm ?_;refine Ql ?_;refine JT 6 rfl K9 ?_;refine PB ?_;refine JT 10 rfl Hm ?_;refine Ob ?_;refine JT 3 rfl K9 ?_;refine HM ?_;refine Kp ?_;refine JT 8 rfl Hm ?_;refine Jd 9 ?_;refine Jn 11 ?_;refine Am 5 Cb rfl rfl (BJ rfl (Nb _ 13 Cc _)) ?_;refine OZ ?_;refine JT 12 rfl K9 ?_;refine OE ?_;refine KO ?_;refine mA 8 9 ?_;refine EX ?_;refine N9 ?_;refine JT 3 rfl Hm ?_
  refine Zq ?_;refine JT 7 rfl Hm ?_;refine DV 8 Cb rfl Eu ?_;refine KO ?_;refine PI ?_;refine JT 2 rfl Hv ?_;refine Ql ?_;refine JT 6 rfl I2 ?_;refine PB ?_;refine JT 10 rfl Hv ?_;refine Ob ?_;refine JT 3 rfl I2 ?_;refine HM ?_;refine Kp ?_;refine JT 8 rfl Hv ?_;refine Jd 9 ?_;refine Jn 11 ?_;refine Am 5 Cb rfl rfl (BJ rfl (Nb _ 16 Cc _)) ?_;refine OZ ?_
  refine JT 12 rfl I2 ?_;refine OE ?_;refine KO ?_;refine PI ?_;refine JT 2 rfl Hm ?_;refine Ql ?_;refine JT 6 rfl I2 ?_;refine PB ?_;refine JT 10 rfl Hm ?_;refine Ob ?_;refine JT 3 rfl I2 ?_;refine HM ?_;refine Kp ?_;refine JT 8 rfl Hm ?_;refine Jd 9 ?_;refine Jn 11 ?_;refine Am 5 Cb rfl rfl (BJ rfl (Nb _ 21 Cc _)) ?_;refine OZ ?_;refine JT 12 rfl I2 ?_;refine OE ?_;refine JR ?_
  refine DW ?_;refine Da ?_;refine PI ?_;refine JT 2 rfl Hv ?_;refine Ql ?_;refine JT 6 rfl K9 ?_;refine PB ?_;refine JT 10 rfl Hv ?_;refine Ob ?_;refine JT 3 rfl K9 ?_;refine HM ?_;refine Kp ?_;refine JT 8 rfl Hv ?_;refine Jd 9 ?_;refine Jn 11 ?_;refine Am 5 Cb rfl rfl (BJ rfl (Nb _ 17 Cc _)) ?_;refine OZ ?_;refine JT 12 rfl K9 ?_;refine OE ?_;refine DB ?_;refine J1 ?_;refine mA 8 9 ?_;refine EX ?_;refine N9 ?_
  refine JT 3 rfl Hv ?_;refine Zq ?_;refine JT 7 rfl Hv ?_;refine DV 8 Cb rfl Eu ?_;refine DB ?_;refine J3 ?_;refine E7 ?_;exact Ba (j+1) Ca Ca EG (by rw [tW];rfl)
 obtain rfl:j=k:=by omega
 refine J4 ?_;exact OY (ts:=[]) rfl rfl BW
theorem Pt(p:Option Addr)(b o c:Nat)(xs:List UInt8)(H:HP)(hs:Sl p b o xs.length c)(hr:Ad B H b o xs)(h8:8≤xs.length):
  Fn Tryz.prog B 222 [.slice p xs.length c] H (fun v H'=>v=u64 (le xs 8)∧H'=H):=by
 refine mI Tryz.func222 ?_;have ir:=UM (B:=B) hr;have hlen:=hs.2;refine Nm ?_;refine JL (Q4 (h:=8) rfl rfl Ca) ?_;refine Je ?_;refine Bm (fun j:Nat=>[(2,u64 (le xs j)),(6,.slice p 8 c),(7,iN 8),(8,iN j)]) (fun _=>H) (fun j=>j≤8) (fun j=>8-j) 0 Ff C9 rfl ?_;intro j hj;refine J6 ?_;refine mC (fun hc=>?_) (fun hc=>?_)
 ·refine J7 ?_;refine JL (CU rfl rfl (b:=b) (o:=o) ⟨hs.1,Ca⟩ Ca) ?_;refine J8 ?_;refine JL (Xg rfl) ?_;refine J1 ?_;refine JL (xY (i:=8) rfl rfl Ca) ?_;refine JL (Se rfl rfl Ca) ?_;refine JL (Tb rfl rfl) ?_;refine Kv ?_;exact Ba (j+1) Ca Ca C9 rfl
 obtain rfl:j=8:=by omega
 refine DP ?_;exact Kd
def Nc(m:UInt64)(v:S4):S4:=
 let v:=KB 2 {v with d:=v.d ^^^m}
 {v with a:=v.a ^^^m}
theorem sZ(b:Nat)(v:S4)(m:UInt64)(R:HP):Fn Tryz.prog B 223 [u64 m,ptr b 0] (HP.AA b 0 (s4 v)*R) (fun r H'=>r=.tuple #[]∧H'=HP.AA b 0 (s4 (Nc m v))*R):=by
 refine mI Tryz.func223 ?_;refine J2 ?_;refine JL I2 ?_;refine J2 ?_;refine JL Lh ?_;refine JL I2 ?_;refine J5 ?_;refine mE rfl (cO b 2 Cc ⟨v.a,v.b,v.c,v.d ^^^m⟩ R) ?_;refine Ep ?_;refine JL Hm ?_;refine J2 ?_;refine JL Lh ?_;refine JL Hm ?_;refine J2 ?_;exact OY (ts:=[]) rfl rfl BW
def Ms(ks:List UInt8):S4:=⟨le ks 8 ^^^8317987319222330741,le (ks.drop 8) 8 ^^^7237128888997146477,le ks 8 ^^^7816392313619706465,le (ks.drop 8) 8 ^^^8387220255154660723⟩
def L8(xs:List UInt8):Nat→S4→S4
 |0,v=>v
 |k+1,v=>Nc (le (xs.drop (8*k)) 8) (L8 xs k v)
def LW(ys:List UInt8):List UInt8:=ys++J? (8-ys.length) 0
def KM(xs:List UInt8):List UInt8:=(LW (xs.drop (8*(xs.length/8)))).set 7 (J! xs.length)
def OH(ks xs:List UInt8):UInt64:=
 let v:=Nc (le (KM xs) 8) (L8 xs (xs.length/8) (Ms ks))
 let v:=KB 4 {v with c:=v.c ^^^255}
 v.a ^^^v.b ^^^v.c ^^^v.d
theorem fC(ys:List UInt8)(h:ys.length<8):AD (ys.take (min ys.length 7))++([.int .u8 0,.int .u8 0,.int .u8 0,.int .u8 0,.int .u8 0,.int .u8 0,.int .u8 0,.int .u8 0]:List Value).drop (min ys.length 7*1)=AD (LW ys):=by
 rw [show min ys.length 7=ys.length by omega,List.take_length,LW,Er];congr 1;rw [Nat.mul_one]
 have:ys.length=0∨ys.length=1∨ys.length=2∨ys.length=3∨ys.length=4∨ys.length=5∨ys.length=6∨ys.length=7:=by omega
 rcases this with h|h|h|h|h|h|h|h<;>rw [h]<;>rfl
set_option maxHeartbeats 1000000 in
theorem W3(ks xs:List UInt8)(p:Option Addr)(b o c:Nat)(H:HP)(hk:ks.length=16)(hs:Sl p b o xs.length c)(hr:Ad B H b o xs)(hx:xs.length<100000000):
  Fn Tryz.prog B 207 [.agg (AD ks).toArray,.slice p xs.length c] H (fun v H'=>v=u64 (OH ks xs)∧H'=H):=by
 refine mI Tryz.func207 ?_;refine J2 ?_;refine KR ?_;rintro _ _ ⟨b2,rfl,rfl⟩;refine Gu ?_;refine J3 ?_
 have hs8:Sl (sp (some ⟨b2,0,none⟩) 16 8 1) b2 (0+8*1) (ks.drop 8).length (16-8):=by
  rw [show(ks.drop 8).length=16-8 by simp;omega];exact K1 (k:=16) ⟨.inr rfl,Ca⟩ Ca Ca
 refine mA 3 6 ?_;refine JT 0 rfl (QD (k:=ks.length) rfl hk) ?_;refine JT 2 rfl (j7 (l:=8) (k:=(ks.drop 8).length) rfl rfl Ca Ck) ?_;refine Am 1 Cb rfl rfl (BJ rfl (Pt _ b2 0 16 ks _ ⟨.inr rfl,Ca⟩ inferInstance Ca)) ?_;refine Ev ?_;refine Am 3 Cb rfl rfl (BJ rfl (Pt _ b2 (0+8*1) (16-8) (ks.drop 8) _ hs8 inferInstance Ck)) ?_;refine JR ?_;refine DW ?_;refine EV 4 Cb rfl rfl Fg ED ?_;refine EV 5 Cb rfl rfl Fg ED ?_;refine K4 ?_;refine JL (MR (b:=8317987319222330741) rfl rfl) ?_;refine J1 ?_;refine JL (MR (b:=7237128888997146477) rfl rfl) ?_;refine J1 ?_;refine JL (MR (b:=7816392313619706465) rfl rfl) ?_;refine J1 ?_;refine JL (MR (b:=8387220255154660723) rfl rfl) ?_;refine JL (V5 rfl rfl Ce) ?_;refine Ag (FV (l:=[_,_,_,_]) rfl) rfl ?_;rintro _ _ ⟨b7,rfl,rfl⟩;refine ML ?_;refine FB ?_;refine JL GT ?_;refine DP ?_
 refine Bm (α:=Nat×Option Addr×Nat) (fun z=>[(1,.slice z.2.1 (xs.drop (8*z.1)).length z.2.2),(7,ptr b7 0),(8,.func (.func 223) #[] #[ptr b7 0]),(9,iN xs.length)]) (fun z=>HP.AA b7 0 (s4 (L8 xs z.1 (Ms ks)))*(HP.AA b2 0 (AD ks)*H)) (fun z=>8*z.1≤xs.length∧Sl z.2.1 b (o+8*z.1) (xs.drop (8*z.1)).length z.2.2) (fun z=>xs.length-8*z.1) (0,p,c) ⟨L? _,hs⟩
  C9 rfl ?_
 rintro⟨k,q,c'⟩ ⟨hk8,hz⟩;dsimp only at hk8 hz⊢;have hrk:=hr.yM (8*k)
 have hlk:(xs.drop (8*k)).length=xs.length-8*k:=by simp
 refine J5 ?_;refine JL (Tm (j:=8) rfl rfl) ?_;refine J2 ?_;refine mC (fun hc=>?_) (fun hc=>?_)
 ·refine J7 ?_;refine mE rfl (Pt _ b (o+8*k) c' (xs.drop (8*k)) _ hz inferInstance Ca) ?_;refine JR ?_;refine Ag Xv rfl ?_;refine Il ?_;refine JL (Ol (l:=8) (k':=(xs.drop (8*(k+1))).length) rfl rfl Ca Ck) ?_;refine J2 ?_;have h1:=K1 (sz:=1) (l:=8) (h:=(xs.drop (8*k)).length) hz Ca hz.2
  exact Ba (k+1,sp q c' 8 1,c'-8) ⟨Ca,by
   rw [show o+8*(k+1)=o+8*k+8*1 by omega,show(xs.drop (8*(k+1))).length=(xs.drop (8*k)).length-8 by simp;omega];exact h1⟩ (by show xs.length-8*(k+1)<xs.length-8*k;omega) C9 rfl
 obtain rfl:k=xs.length/8:=by omega
 have hlt:(xs.drop (8*(xs.length/8))).length<8:=by omega
 refine J7 ?_;refine Ag Q0 rfl ?_;rintro _ _ ⟨b10,rfl,rfl⟩;refine J4 ?_;refine JL (gG (h:=7) rfl rfl Ca) ?_;refine J1 ?_;refine Ag (cT (b:=b10) (o:=0) (bb:=b) (oo:=o+8*(xs.length/8)) (ys:=xs.drop (8*(xs.length/8))) rfl ⟨.inr rfl,Ca⟩ rfl hz inferInstance Cc) rfl ?_;refine JR ?_;refine A9 (H':=AB b10 0 (LW (xs.drop (8*(xs.length/8)))) []*(HP.AA b7 0 (s4 (L8 xs (xs.length/8) (Ms ks)))*(HP.AA b2 0 (AD ks)*H))) (by unfold AB;rw [S?,←fC _ hlt];rfl) ?_
 have hp8:(LW (xs.drop (8*(xs.length/8)))).length=8:=by simp only [LW,L_,Q!];omega
 refine J5 ?_;refine JL (ZS rfl) ?_;refine JL (M4 (i:=7) rfl rfl Ca) ?_;refine Bi (Eh rfl rfl rfl Ca) ?_;refine Il ?_;refine JL (QD (k:=(KM xs).length) rfl SD) ?_;refine mE rfl (Pt _ b10 0 8 (KM xs) _ ⟨.inr rfl,SD⟩ (inferInstance:Ad B (AB b10 0 (KM xs) []*_) b10 0 (KM xs)) SD) ?_;refine JR ?_;refine O6 ?_;refine Ag Xv rfl ?_;refine FB ?_;refine JL Hv ?_;refine J1 ?_;refine JL (MR (b:=255) rfl rfl) ?_;refine JL Hv ?_;refine J5 ?_;refine mE rfl (cO b7 4 Cc {Nc (le (KM xs) 8) (L8 xs (xs.length/8) (Ms ks))with c:=(Nc (le (KM xs) 8) (L8 xs (xs.length/8) (Ms ks))).c ^^^255} _) ?_;refine FB ?_;refine JL Hm ?_;refine J1 ?_;refine JL K9 ?_;refine J1 ?_;refine JL Lh ?_;refine JL Hv ?_;refine J1 ?_;refine JL Lh ?_;refine JL I2 ?_;refine J1 ?_
 refine JL Lh ?_;refine J4 ?_;exact mR [4] H rfl rfl BW
end
section
variable{B:World}
def D9(n:UInt64):List UInt8:=[(n>>> 56).toUInt8,(n>>> 48).toUInt8,(n>>> 40).toUInt8,(n>>> 32).toUInt8,(n>>> 24).toUInt8,(n>>> 16).toUInt8,(n>>> 8).toUInt8,n.toUInt8]
theorem US(n:UInt64)(p:Option Addr)(b o c:Nat)(xs:List UInt8)(s:List Value)(R:HP)(hs:Sl p b o xs.length c)(hc:xs.length*1+s.length=c*1)(hx:xs.length<100000000):
  Fn Tryz.prog B 172 [.slice p xs.length c,u64 n] (AB b o xs s*R) (fun v H'=>B5 R (xs++D9 n) v H'):=by
 refine mI Tryz.func172 ?_;refine J9 ?_;refine JL (Jl (j:=56) rfl rfl Ca) ?_;refine LB ?_;refine JL (Jl (j:=48) rfl rfl Ca) ?_;refine LB ?_;refine JL (Jl (j:=40) rfl rfl Ca) ?_;refine LB ?_;refine JL (Jl (j:=32) rfl rfl Ca) ?_;refine LB ?_;refine JL (Jl (j:=24) rfl rfl Ca) ?_;refine LB ?_;refine JL (Jl (j:=16) rfl rfl Ca) ?_;refine LB ?_;refine JL (Jl (j:=8) rfl rfl Ca) ?_;refine LB ?_;refine JL VE ?_;refine LE ?_;rintro _ _ ⟨b29,rfl,rfl⟩;refine A9 (H':=AB b o xs s*(HP.AA b29 0 (AD (D9 n))*R)) MN ?_;refine Ag (CX (ys:=D9 n) (bb:=b29) (oo:=0) rfl hs hc rfl CG inferInstance rfl Tk Ca) rfl ?_;rintro _ _ ⟨q,b',o',c',s',rfl,h1,h2,rfl⟩;refine J4 ?_;exact mR [4] (AB b' o' (xs++D9 n) s'*R) rfl rfl ⟨q,b',o',c',s',rfl,h1,h2,rfl⟩
theorem Q'(n:UInt64)(R:HP):Fn Tryz.prog B 172 [.slice none 0 0,u64 n] R (fun v H'=>B5 R (D9 n) v H'):=by
 have h:=US (B:=B) n none 0 0 0 [] [] R Fx rfl Cg;rw [Gk,HP.BI]at h;exact h
def Af(first:Bool):UInt8:=bif first then 0 else 1
theorem GO{ks:List UInt8}(hk:ks.length=16):(AD ks).length=16:=by rw [Bp,hk];rfl
theorem Sj(ks:List UInt8)(hk:ks.length=16)(first:Bool)(H:HP):
  Fn Tryz.prog B 75 [.agg (AD ks).toArray,.bool first] H (fun v H'=>v=.agg (AD ks++[u8 (Af first)]).toArray∧H'=H):=by
 refine mI Tryz.func75 ?_;refine J2 ?_;refine KR ?_;rintro _ _ ⟨b2,rfl,rfl⟩;refine Ag (FV (l:=[_,_,_,_,_,_,_,_,_,_,_,_,_,_,_,_,_]) rfl) rfl ?_;rintro _ _ ⟨b4,rfl,rfl⟩;refine J8 ?_;refine mc (fun hc=>?_) (fun hc=>?_)
 ·subst hc;refine J2 ?_;refine JL N3 ?_;refine JL (Pu (cs:=AD ks++[u8 0]) rfl (Iz [] (J? 16 (u8 0)) [u8 0] (AD ks) NY rfl NY rfl Pz)) ?_;refine Bi (De rfl rfl Wu cI) ?_;refine FB ?_;exact MU H rfl (IM (Mg rfl (by simp [GO hk])) Jc) BW
 subst hc;refine J4 ?_;refine JL N3 ?_;refine JL (Pu (cs:=AD ks++[u8 1]) rfl (Iz [] (J? 16 (u8 0)) [u8 0] (AD ks) NY rfl NY rfl (Iz (AD ks) [u8 0] [] [u8 1] NY Cg rfl rfl (by simp only [S?];exact Pz)))) ?_;refine Bi (De rfl rfl Wu cI) ?_;refine Ep ?_;exact MU H rfl (IM (Mg rfl (by simp [GO hk])) Jc) BW
theorem t3(ks:List UInt8)(side:UInt8)(number:UInt64)(H:HP):
  Fn Tryz.prog B 206 [.agg (AD ks++[u8 side]).toArray,u64 number] H (fun v H'=>∃b2 b3,v=.func (.func 221) #[] #[ptr b2 0,ptr b3 0]∧H'=HP.AA b3 0 [u64 number]*(HP.AA b2 0 (AD ks++[u8 side])*H)):=by
 refine mI Tryz.func206 ?_;refine NF ?_;rintro _ _ ⟨b2,rfl,rfl⟩;refine Ag (Db (l:=[u64 number]) rfl rfl) rfl ?_;rintro _ _ ⟨b3,rfl,rfl⟩;refine J5 ?_;refine JL GT ?_;refine J4 ?_;exact mr [4] rfl rfl ⟨b2,b3,rfl,rfl⟩
def GJ(side kind:UInt8)(n:UInt64):List UInt8:=[side,kind]++D9 n
def KJ(ks:List UInt8)(side:UInt8)(n:UInt64)(k:Nat):List UInt8:=D9 (OH ks (GJ side 1 n++[J! k]))
def Qp(ks:List UInt8)(side:UInt8)(n:UInt64)(i:Nat):UInt8:=(KJ ks side n (i/8)).getD (i%8) 0
def ER(ks:List UInt8)(side:UInt8)(n:UInt64)(m:Nat):List UInt8:=(N_ m).map (Qp ks side n)
theorem nD(ks:List UInt8)(side:UInt8)(n:UInt64)(k j:Nat)(h:j<8):Qp ks side n (8*k+j)=(KJ ks side n k).getD j 0:=by
 rw [Qp,show(8*k+j)/8=k by omega,show(8*k+j)%8=j by omega]
theorem MY(ks:List UInt8)(side:UInt8)(n:UInt64)(m:Nat):(ER ks side n m).length=m:=by simp [ER]
theorem xU(ks:List UInt8)(side:UInt8)(n:UInt64)(m:Nat):ER ks side n m++[Qp ks side n m]=ER ks side n (m+1):=by simp [ER,List.range_succ]
theorem TF(n:UInt64):(D9 n).length=8:=rfl
set_option maxHeartbeats 1000000 in
theorem tV(ks:List UInt8)(hk:ks.length=16)(side:UInt8)(number:UInt64)(N:Nat)(hN:0<N∧N<100000000)(b2 b3:Nat)(R:HP):
  Mk Tryz.prog B 221 [ptr b2 0,ptr b3 0] u8 (fun _=>False) (fun pre=>pre=ER ks side number pre.length∧pre.length≤N) (fun pre=>pre.length<N)
   (HP.AA b2 0 (AD ks)*(HP.AA b2 (0+16) [u8 side]*(HP.AA b3 0 [u64 number]*R))) (HP.AA b2 0 (AD ks)*(HP.AA b2 (0+16) [u8 side]*(HP.AA b3 0 [u64 number]*R))):=by
 intro l J Jx hy;refine mI Tryz.func221 ?_;refine J2 ?_;refine JL RS ?_;refine J3 ?_
 refine Bm (fun k:Nat=>[(0,.func (.yield l) #[] #[]),(1,ptr b2 0),(2,ptr b3 0),(4,iN k)]) (fun k=>J (ER ks side number (8*k))*(HP.AA b2 0 (AD ks)*(HP.AA b2 (0+16) [u8 side]*(HP.AA b3 0 [u64 number]*R)))) (fun k=>8*k<N) (fun k=>N-8*k) 0 Ca
  C9 rfl ?_
 intro k hkN;refine J6 ?_;refine Ag Hn rfl ?_;rintro _ _ ⟨b12,rfl,rfl⟩;refine A9 (H':=AB b12 0 [side,1] []*(J (ER ks side number (8*k))*(HP.AA b2 0 (AD ks)*(HP.AA b2 (0+16) [u8 side]*(HP.AA b3 0 [u64 number]*R))))) rfl ?_;refine J1 ?_;refine mE rfl (US number (some ⟨b12,0,none⟩) b12 0 2 [side,1] [] _ CG rfl Cg) ?_;rintro _ _ ⟨p14,b14,o14,c14,s14,rfl,hs14,hc14,rfl⟩;refine J1 ?_;refine JL (ZS rfl) ?_;refine Ag Hn rfl ?_;rintro _ _ ⟨b17,rfl,rfl⟩;refine A9 (H':=AB b14 o14 ([side,1]++D9 number) s14*(HP.AA b17 0 (AD [J! k])*(J (ER ks side number (8*k))*(HP.AA b2 0 (AD ks)*(HP.AA b2 (0+16) [u8 side]*(HP.AA b3 0 [u64 number]*R)))))) MN ?_;refine Ag (CX (ys:=[J! k]) (bb:=b17) (oo:=0) rfl hs14 hc14 rfl CG inferInstance rfl (by simp [D9]) Ca) rfl ?_;rintro _ _ ⟨p18,b18,o18,c18,s18,rfl,hs18,hc18,rfl⟩;refine J6 ?_;refine JL V6 ?_;refine J1 ?_;refine mE rfl (W3 ks ([side,1]++D9 number++[J! k]) p18 b18 o18 c18 _ hk hs18 inferInstance (by simp [D9])) ?_;refine JR ?_;refine mE rfl (Q' _ _) ?_;rintro _ _ ⟨p23,b23,o23,c23,s23,rfl,hs23,hc23,rfl⟩;refine J1 ?_
 refine G3 ?_;refine HW (AB b23 o23 (D9 (OH ks ([side,1]++D9 number++[J! k]))) s23*(J (ER ks side number (8*k))*(HP.AA b2 0 (AD ks)*(HP.AA b2 (0+16) [u8 side]*(HP.AA b3 0 [u64 number]*R))))) ?_
 refine Bm (fun j:Nat=>[(0,.func (.yield l) #[] #[]),(1,ptr b2 0),(2,ptr b3 0),(4,iN k),(23,.slice p23 8 c23),(24,iN 8),(25,iN j)]) (fun j=>J (ER ks side number (8*k+j))*(AB b23 o23 (KJ ks side number k) s23*(HP.AA b2 0 (AD ks)*(HP.AA b2 (0+16) [u8 side]*(HP.AA b3 0 [u64 number]*R))))) (fun j=>j≤8∧8*k+j<N) (fun j=>8-j) 0 Ca
  Mj (HP.CI _ _ _) ?_
 intro j hj;refine J6 ?_;refine mC (fun hc=>?_) (fun hc=>?_)
 ·refine J6 ?_;refine JL (CU rfl rfl (b:=b23) (o:=o23) hs23 (by show j<8;omega)) ?_;refine JL (Fk rfl (by show j<8;omega)) ?_;refine J7 ?_
  have hsp:ER ks side number (8*k+j)++[(KJ ks side number k).getD j 0]=ER ks side number (8*k+(j+1)):=by rw [←nD ks side number k j hc,xU];rfl
  refine Mu (SA rfl rfl (hy (ER ks side number (8*k+j)) ((KJ ks side number k).getD j 0) _ Vm)) rfl ?_;rintro _ _ ⟨g,rfl,hg,rfl⟩;refine I1 ?_;refine mc (fun hc=>?_) (fun hc=>?_)
  ·skip
   obtain rfl:g=false:=by simpa using hc
   refine J9 ?_;refine Dg (H':=Jx (ER ks side number (8*k+j)++[(KJ ks side number k).getD j 0])*(AB b23 o23 (KJ ks side number k) s23*(HP.AA b2 0 (AD ks)*(HP.AA b2 (0+16) [u8 side]*(HP.AA b3 0 [u64 number]*R))))) rfl ?_;exact mR [] (Jx (ER ks side number (8*k+j)++[(KJ ks side number k).getD j 0])*(HP.AA b2 0 (AD ks)*(HP.AA b2 (0+16) [u8 side]*(HP.AA b3 0 [u64 number]*R)))) rfl rfl (.inr ⟨_,Vm,rfl⟩)
  obtain rfl:g=true:=by simpa using hc
  refine Hp ?_;exact Ba (j+1) ⟨Ca,by have:=hg rfl;rw [hsp,MY]at this;omega⟩ Ca Mj (by show J _*_=J _*_;rw [hsp])
 obtain rfl:j=8:=by omega
 refine J8 ?_;refine E7 ?_;refine Bd (J (ER ks side number (8*k+8))*(HP.AA b2 0 (AD ks)*(HP.AA b2 (0+16) [u8 side]*(HP.AA b3 0 [u64 number]*R)))) ?_;exact Ba (k+1) Ca Ca C9 rfl
def DA(xs ms:List UInt8):List UInt8:=List.zipWith (·^^^ ·) xs ms
def DI(ks:List UInt8)(side:UInt8)(n:UInt64)(xs:List UInt8):List UInt8:=DA xs (ER ks side n xs.length)
theorem KI(xs ms:List UInt8)(h:ms.length≤xs.length):(DA xs ms).length=ms.length:=by simp [DA];omega
theorem jL(xs ms:List UInt8)(m:UInt8)(h:ms.length<xs.length):DA xs (ms++[m])=DA xs ms++[xs.getD ms.length 0 ^^^m]:=by
 have e:xs=xs.take ms.length++(xs.getD ms.length 0::xs.drop (ms.length+1)):=by
  rw [K?,P_ h,Option.getD_some,List.getElem_cons_drop,Q?]
 have e2:DA xs ms=DA (xs.take ms.length) ms:=by
  rw [DA,DA]
  conv=>lhs;rw [←Q? ms.length xs]
  rw [show ms=ms++[] by simp,R_ Ck]
  simp
 rw [e2]
 conv=>lhs;rw [e]
 rw [DA,DA,R_ Ck]
 simp
theorem uK(xs ms:List UInt8)(m:UInt8)(h:ms.length<xs.length):DA xs (ms++[m])=DA xs ms++[xs.getD (DA xs ms).length 0 ^^^m]:=by
 rw [jL xs ms m h,KI xs ms Ca]
abbrev Iv:=Option Addr×Nat×Nat×Nat×List Value
def Iv.ok(z:Iv)(k:Nat):Prop:=Sl z.1 z.2.1 z.2.2.1 k z.2.2.2.1∧k*1+z.2.2.2.2.length=z.2.2.2.1*1
abbrev Iv.at(z:Iv)(b7:Nat)(xs:List UInt8)(R:HP):HP:=HP.AA b7 0 [.slice z.1 xs.length z.2.2.2.1]*(AB z.2.1 z.2.2.1 xs z.2.2.2.2*R)
set_option maxHeartbeats 1000000 in
theorem Ux(ks:List UInt8)(hk:ks.length=16)(side:UInt8)(number:UInt64)(xs:List UInt8)(p:Option Addr)(b o c:Nat)(H:HP)(hs:Sl p b o xs.length c)(hr:Ad B H b o xs)(hx:xs.length<100000000):
  Fn Tryz.prog B 170 [.agg (AD ks++[u8 side]).toArray,u64 number,.slice p xs.length c] H (fun v H'=>B5 H (DI ks side number xs) v H'):=by
 refine P6 Tryz.func170 rfl rfl rfl ?_;refine NF ?_;rintro _ _ ⟨b3,rfl,rfl⟩;refine Ky ?_;rintro _ _ ⟨b5,rfl,rfl⟩;refine J7 ?_;refine Ag (mX (α:=UInt8) rfl rfl ⟨Ca,Ca⟩) rfl ?_;rintro _ _ ⟨p11,b11,o11,c11,s11,rfl,hs11,hc11,rfl⟩;refine N1 ?_;rintro _ _ ⟨b7,rfl,rfl⟩;refine J8 ?_;refine Iu ?_;refine mC (fun hc=>?_) (fun hc=>?_)
 ·obtain rfl:xs=[]:=List.length_eq_zero_iff.1 hc;refine J8 ?_;refine Bd (AB b11 o11 ([]:List UInt8) s11*H) ?_;exact O8 (ts:=[6]) [] _ rfl rfl ⟨p11,b11,o11,c11,s11,rfl,hs11,hc11,rfl⟩ rfl
 refine J5 ?_;refine JL Mr ?_;refine J1 ?_;refine mE rfl (t3 ks side number _) ?_;rintro _ _ ⟨b2',b3',rfl,rfl⟩;refine J3 ?_
 refine lR (α:=UInt8) u8 (fun _=>False) (fun pre=>pre=ER ks side number pre.length∧pre.length≤xs.length) (fun pre=>pre.length<xs.length) (fun pre=>HP.ex fun z:Iv=>HP.pr (z.ok (DA xs pre).length)*z.at b7 (DA xs pre) (HP.AA b5 0 [.slice p xs.length c]*H)) (fun id pre=>HP.ex fun z:Iv=>HP.pr (id=0∧pre.length=xs.length∧z.ok (DA xs pre).length)*z.at b7 (DA xs pre) (HP.AA b5 0 [.slice p xs.length c]*H)) (HP.AA b2' 0 (AD ks)*(HP.AA b2' (0+16) [u8 side]*(HP.AA b3' 0 [u64 number]*HP.AA b3 0 (AD ks++[u8 side])))) (HP.AA b2' 0 (AD ks)*(HP.AA b2' (0+16) [u8 side]*(HP.AA b3' 0 [u64 number]*HP.AA b3 0 (AD ks++[u8 side])))) (fun x=>[(8,u8 x),(7,ptr b7 0),(5,ptr b5 0)]) rfl rfl rfl ?_ (tV ks hk side number xs.length ⟨Ca,hx⟩ b2' b3' _) ?_ ?_ ?_ ?_
 ·have hx0:DA xs []=[]:=by simp [DA]
  refine Hy (p11,b11,o11,c11,s11) (by rw [hx0];exact⟨hs11,hc11⟩) ?_;rw [HP.FM b2' 0 (AD ks) [u8 side],GO hk];rw [hx0];show _=HP.AA b7 0 [.slice p11 ([]:List UInt8).length c11]*(AB b11 o11 [] s11*(HP.AA b5 0 [.slice p xs.length c]*H))*_;ac_rfl
 ·intro pre x l R;refine J3 ?_;exact r9 EG rfl
 ·intro pre x l R hsp;refine Ld ?_;rintro⟨q,bq,oq,cq,sq⟩ ⟨hq1,hq2⟩;dsimp only [Iv.at]at hq1 hq2⊢;obtain⟨hp1,hp2⟩:=hsp;rw [L_,List.length_singleton]at hp2;have hxl:=KI xs pre Ca;have hrr:Ad B (HP.AA b7 0 [.slice q (DA xs pre).length cq]*(AB bq oq (DA xs pre) sq*(HP.AA b5 0 [.slice p xs.length c]*H))*R) b o xs:=inferInstance;have ir:=UM hrr;have hsn:=uK xs pre x Ca;refine J2 ?_;refine mA 9 11 ?_;refine Jd 0 ?_;refine Jd 1 ?_;refine Jd 2 ?_;refine JT 3 rfl FT ?_;refine JT 4 rfl (CU rfl rfl (b:=b) (o:=o) hs Ca) ?_;refine JT 5 rfl (Fk rfl Ca) ?_;refine Jm 6 ?_;refine JT 7 rfl (Wa rfl rfl) ?_;refine Am 8 Cb rfl rfl Hn ?_;rintro _ _ ⟨b28,rfl,rfl⟩;refine⟨.inr inferInstance,?_⟩;refine EI (H':=AB bq oq (DA xs pre) sq*(HP.AA b28 0 (AD [xs.getD (DA xs pre).length 0 ^^^x])*(HP.AA b7 0 [.slice q (DA xs pre).length cq]*(HP.AA b5 0 [.slice p xs.length c]*H)*R))) (by show HP.AA b28 0 _*_=_;ac_rfl) ?_;refine Am 9 Cb rfl rfl (CX (ys:=[xs.getD (DA xs pre).length 0 ^^^x]) (bb:=b28) (oo:=0) rfl hq1 hq2 rfl CG inferInstance rfl Ck Ca) ?_;rintro _ _ ⟨q2,b2,o2,c2,s2,rfl,h2,h3,rfl⟩;refine⟨.inl Cc,?_⟩;refine DV 10 Cb rfl Eu ?_
  refine DB ?_;refine QJ ?_;refine mC (fun hc=>?_) (fun hc=>?_)
  ·refine J2 ?_;refine Uy ?_;exact j1 (Hy (q2,b2,o2,c2,s2) ⟨rfl,Vg,by rw [hsn];exact h2,by rw [hsn];exact h3⟩ dU)
  refine J2 ?_;refine Uy ?_;exact rO Vg (Hy (q2,b2,o2,c2,s2) ⟨by rw [hsn];exact h2,by rw [hsn];exact h3⟩ dU)
 ·intro d xs hS;exact hS.elim
 intro d pre id hS;refine QO ?_;rintro⟨q,bq,oq,cq,sq⟩ ⟨rfl,hlen,hq1,hq2⟩;dsimp only [Iv.at]at hq1 hq2⊢
 have hpre:DA xs pre=DI ks side number xs:=by rw [DI,←hlen,←hS.1]
 rw [hpre]at hq1 hq2⊢;refine J9 ?_;refine Bd (AB bq oq (DI ks side number xs) sq*(H*HP.obj d (.deferred (some [])))) ?_;refine Dg (H':=HP.obj d (.deferred (some []))*(AB bq oq (DI ks side number xs) sq*H)) Cf ?_;exact O8 (ts:=[6]) [d] _ rfl rfl ⟨q,bq,oq,cq,sq,rfl,hq1,hq2,rfl⟩ rfl
def Gn(ks:List UInt8)(side:UInt8)(n:UInt64)(xs:List UInt8):List UInt8:=D9 (OH ks (GJ side 2 n++xs))
theorem Yl(ks:List UInt8)(side:UInt8)(n:UInt64)(xs:List UInt8):(Gn ks side n xs).length=8:=rfl
set_option maxHeartbeats 1000000 in
theorem Wr(ks:List UInt8)(hk:ks.length=16)(side:UInt8)(number:UInt64)(xs:List UInt8)(p:Option Addr)(b o c:Nat)(H:HP)(hs:Sl p b o xs.length c)(hr:Ad B H b o xs)(hx:xs.length<90000000):
  Fn Tryz.prog B 171 [.agg (AD ks++[u8 side]).toArray,u64 number,.slice p xs.length c] H (fun v H'=>v=.agg (AD (Gn ks side number xs)).toArray∧H'=H):=by
 refine mI Tryz.func171 ?_;refine NF ?_;rintro _ _ ⟨b3,rfl,rfl⟩;refine A9 (H':=HP.AA b3 0 (AD ks)*(HP.AA b3 (0+16) [u8 side]*H)) (by rw [HP.FM,GO hk,HP.assoc]) ?_;refine Ag Q0 rfl ?_;rintro _ _ ⟨b6,rfl,rfl⟩;refine J4 ?_;refine Ag Q0 rfl ?_;rintro _ _ ⟨b7,rfl,rfl⟩;refine J3 ?_;refine Ai (H':=HP.AA b7 0 [u8 0,u8 0,u8 0,u8 0,u8 0,u8 0,u8 0,u8 0]*(HP.AA b6 0 [u8 0,u8 0,u8 0,u8 0,u8 0,u8 0,u8 0,u8 0]*(HP.AA b3 0 (AD ks)*(HP.AA b3 (0+16) [u8 side]*H)))) rfl ?_;have hrr:Ad B (HP.AA b7 0 [u8 0,u8 0,u8 0,u8 0,u8 0,u8 0,u8 0,u8 0]*(HP.AA b6 0 [u8 0,u8 0,u8 0,u8 0,u8 0,u8 0,u8 0,u8 0]*(HP.AA b3 0 (AD ks)*(HP.AA b3 (0+16) [u8 side]*H)))) b o xs:=inferInstance;refine mA 12 13 ?_;refine JT 0 rfl (QD (k:=8) rfl rfl) ?_;refine Jf 1 ?_;refine JT 2 rfl V6 ?_;refine My ?_;refine HM ?_;refine Jm 6 ?_;refine Jm 8 ?_;refine Am 5 Cb rfl rfl Hn ?_;rintro _ _ ⟨b13,rfl,rfl⟩;refine A6 ?_;refine EI (H':=AB b13 0 [side,2] []*(HP.AA b7 0 [u8 0,u8 0,u8 0,u8 0,u8 0,u8 0,u8 0,u8 0]*(HP.AA b6 0 [u8 0,u8 0,u8 0,u8 0,u8 0,u8 0,u8 0,u8 0]*(HP.AA b3 0 (AD ks)*(HP.AA b3 (0+16) [u8 side]*H))))) rfl ?_
 refine Am 7 Cb rfl rfl (BJ rfl (US number (some ⟨b13,0,none⟩) b13 0 2 [side,2] [] _ CG rfl Cg)) ?_;rintro _ _ ⟨p15,b15,o15,c15,s15,rfl,hs15,hc15,rfl⟩;refine A6 ?_;refine Am 9 Cb rfl rfl (CX (ys:=xs) (bb:=b) (oo:=o) rfl hs15 hc15 rfl hs inferInstance rfl Tk Ca) ?_;rintro _ _ ⟨p17,b17,o17,c17,s17,rfl,hs17,hc17,rfl⟩;refine A6 ?_;refine Am 10 Cb rfl rfl (BJ rfl (W3 ks ([side,2]++D9 number++xs) p17 b17 o17 c17 _ hk hs17 inferInstance Tk)) ?_;refine Ev ?_;refine Am 11 Cb rfl rfl (BJ rfl (Q' _ _)) ?_;rintro _ _ ⟨p19,b19,o19,c19,s19,rfl,hs19,hc19,rfl⟩;refine A6 ?_;refine EI (H':=HP.AA b7 0 [u8 0,u8 0,u8 0,u8 0,u8 0,u8 0,u8 0,u8 0]*(AB b19 o19 (Gn ks side number xs) s19*(AB b17 o17 ([side,2]++D9 number++xs) s17*(HP.AA b6 0 [u8 0,u8 0,u8 0,u8 0,u8 0,u8 0,u8 0,u8 0]*(HP.AA b3 0 (AD ks)*(HP.AA b3 (0+16) [u8 side]*H)))))) (by show AB b19 o19 (Gn ks side number xs) s19*_=_;ac_rfl) ?_;refine Am 12 Cb rfl rfl (cT (b:=b7) (o:=0) (bb:=b19) (oo:=o19) (ys:=Gn ks side number xs) rfl CG rfl hs19 inferInstance Cc) ?_;refine DB ?_;refine J3 ?_;refine JL (Ds (l:=AD (Gn ks side number xs)) rfl rfl) ?_
 refine Bi (De rfl rfl Ch (KA _)) ?_;refine Ep ?_;exact MU H rfl (IM (Mg rfl rfl) Jc) BW
theorem TN(ks:List UInt8)(side:UInt8)(n:UInt64)(xs:List UInt8):(DI ks side n xs).length=xs.length:=by
 rw [DI,KI _ _ YJ,MY]
def Bc(ks:List UInt8)(side:UInt8)(n:UInt64)(xs:List UInt8):List UInt8:=D9 n++DI ks side n xs++Gn ks side n (DI ks side n xs)
theorem W7(ks:List UInt8)(hk:ks.length=16)(side:UInt8)(number:UInt64)(xs:List UInt8)(p:Option Addr)(b o c:Nat)(H:HP)(hs:Sl p b o xs.length c)(hr:Ad B H b o xs)(hx:xs.length<90000000):
  Fn Tryz.prog B 141 [.agg (AD ks++[u8 side]).toArray,u64 number,.slice p xs.length c] H (fun v H'=>B5 H (Bc ks side number xs) v H'):=by
 refine mI Tryz.func141 ?_;have hml:=TN ks side number xs;refine NF ?_;rintro _ _ ⟨b3,rfl,rfl⟩;refine J5 ?_;refine JL Mr ?_;refine J2 ?_;refine mE rfl (Ux ks hk side number xs p b o c _ hs inferInstance Ca) ?_;rintro _ _ ⟨p12,b12,o12,c12,s12,rfl,hs12,hc12,rfl⟩;refine J5 ?_;refine JL Mr ?_;refine J2 ?_;refine mE rfl (Wr ks hk side number (DI ks side number xs) p12 b12 o12 c12 _ hs12 inferInstance Ca) ?_;refine JR ?_;refine Ag Q0 rfl ?_;rintro _ _ ⟨b8,rfl,rfl⟩;refine Bi (De rfl rfl Ch (KA _)) ?_;refine Ep ?_;refine mA 5 7 ?_;refine FX ?_;refine Jm 2 ?_;refine JT 4 rfl (QD (k:=8) rfl rfl) ?_;refine Am 1 Cb rfl rfl (BJ rfl (Q' _ _)) ?_;rintro _ _ ⟨p18,b18,o18,c18,s18,rfl,hs18,hc18,rfl⟩;refine A6 ?_;refine Am 3 Cb rfl rfl (CX (ys:=DI ks side number xs) (bb:=b12) (oo:=o12) rfl hs18 hc18 rfl hs12 inferInstance rfl (by rw [TF];omega) Ca) ?_;rintro _ _ ⟨p20,b20,o20,c20,s20,rfl,hs20,hc20,rfl⟩;refine A6 ?_
 refine Am 5 Cb rfl rfl (CX (ys:=Gn ks side number (DI ks side number xs)) (bb:=b8) (oo:=0) rfl hs20 hc20 rfl CG inferInstance rfl (by rw [L_,TF,Yl];omega) Ca) ?_;rintro _ _ ⟨p22,b22,o22,c22,s22,rfl,hs22,hc22,rfl⟩;refine DW ?_;refine EV 6 Cb rfl rfl Fg ED ?_;refine Da ?_;exact mR [6] (AB b22 o22 (D9 number++DI ks side number xs++Gn ks side number (DI ks side number xs)) s22*H) rfl rfl ⟨p22,b22,o22,c22,s22,rfl,hs22,hc22,rfl⟩
def be(xs:List UInt8):Nat→UInt64
 |0=>0
 |i+1=>(be xs i<<< 8)|||(xs.getD i 0).toUInt64
def FZ(xs:List UInt8):List UInt8:=(xs.take (xs.length-8)).drop 8
def Bz(ks:List UInt8)(side:UInt8)(xs:List UInt8):Option (UInt64×List UInt8):=
 if xs.length<16∨300<xs.length then none
 else if 4611686018427387903<(be xs 8).toNat∨Gn ks side (be xs 8) (FZ xs)≠xs.drop (xs.length-8)then none
 else some (be xs 8,DI ks side (be xs 8) (FZ xs))
set_option maxHeartbeats 1000000 in
theorem Vz(ks:List UInt8)(hk:ks.length=16)(side:UInt8)(xs:List UInt8)(p:Option Addr)(b o c:Nat)(H:HP)(hs:Sl p b o xs.length c)(hr:Ad B H b o xs)(hx:xs.length<90000000):
  Fn Tryz.prog B 142 [.agg (AD ks++[u8 side]).toArray,.slice p xs.length c] H (fun v H'=>match Bz ks side xs with
   |none=>v=.tuple #[u64 0,.slice none 0 0,.bool false]∧H'=H
   |some (n,ys)=>∃sv,v=.tuple #[u64 n,sv,.bool true]∧B5 H ys sv H'):=by
 refine mI Tryz.func142 ?_;refine NF ?_;rintro _ _ ⟨b2,rfl,rfl⟩;refine Gu ?_;refine J8 ?_;refine JL (Ow (i:=(xs.length:Int)) (j:=8) rfl rfl Ca) ?_;refine J7 ?_;refine JL (LJ (j:=8) rfl rfl) ?_;refine J1 ?_;refine EL 15 rfl (fun hg1=>?_) (fun hg1=>?_)
 ·refine MI ?_;refine JH T1 ?_;refine JL Fu ?_;refine J2 ?_;refine GZ ?_;refine Nm ?_;exact mR [4,5,6] H rfl rfl VR
 refine PX ?_;refine JL (GM (j:=300) rfl rfl) ?_;refine JL Eo ?_;refine J2 ?_;refine mC (fun hc=>?_) (fun hc=>?_)
 ·refine Nm ?_;exact mR [4,5,6] H rfl rfl VR
 have e8:((xs.length:Int)-8)=((xs.length-8:Nat):Int):=by omega
 rw [e8]
 have h16:16≤xs.length:=by omega
 have h300:xs.length≤300:=by omega
 have hbl:(FZ xs).length=xs.length-16:=by simp [FZ];omega
 have hop:¬(xs.length<16∨300<xs.length):=by omega
 have ir:=UM (B:=B) hr
 have hsB:Sl (sp p c 8 1) b (o+8*1) (FZ xs).length (c-8):=by
  have:=K1 (sz:=1) (l:=8) (h:=xs.length-8) hs Ca Ci
  rw [hbl,show xs.length-16=xs.length-8-8 by omega];exact this
 have hrB:Ad B H b (o+8*1) (FZ xs):=hr.sub 8 (xs.length-8) Ca
 have hsT:Sl (sp p c (xs.length-8) 1) b (o+(xs.length-8)*1) (xs.drop (xs.length-8)).length (c-(xs.length-8)):=by
  have:=K1 (sz:=1) (l:=xs.length-8) (h:=xs.length) hs Ca hs.2
  rw [M?];exact this
 have hrT:Ad B H b (o+(xs.length-8)*1) (xs.drop (xs.length-8)):=hr.KH (xs.length-8)
 have hT8:(xs.drop (xs.length-8)).length=8:=by rw [M?];omega
 refine J6 ?_;refine JL (Q4 (h:=8) rfl rfl Ci) ?_;refine Je ?_
 refine Bm (fun j:Nat=>[(1,.slice p xs.length c),(2,ptr b2 0),(7,iN (xs.length-8)),(21,.slice p 8 c),(22,iN 8),(23,iN j),(4,u64 (be xs j))]) (fun _=>HP.AA b2 0 (AD ks++[u8 side])*H) (fun j=>j≤8) (fun j=>8-j) 0 Ff
  Mj rfl ?_
 intro j hj;refine J6 ?_;refine mC (fun hc=>?_) (fun hc=>?_)
 ·refine J6 ?_;refine JL (CU rfl rfl (b:=b) (o:=o) ⟨hs.1,Ci⟩ Ca) ?_;refine JL (Fk rfl Ca) ?_;refine J5 ?_;refine JL (Se (j:=8) rfl rfl Ca) ?_;refine J1 ?_;refine JL (Xg rfl) ?_;refine JL (Tb rfl rfl) ?_;refine Kv ?_;exact Ba (j+1) Ca Ca Mj rfl
 obtain rfl:j=8:=by omega
 refine J7 ?_;refine mA 16 16 ?_;refine FX ?_;refine JT 1 rfl (GM (i:=(be xs 8).toNat) (j:=4611686018427387903) rfl rfl) ?_;refine Jm 2 ?_;refine Gb 35 rfl (fun hg2=>?_) (fun hg2=>?_)
 ·refine JN 3 rfl T2 ?_;refine JN 4 rfl T2 ?_;refine JN 5 rfl T2 ?_;refine JN 6 rfl T2 ?_;refine JN 7 rfl T2 ?_;refine JN 9 rfl T2 ?_;refine JN 10 rfl T2 ?_;refine JN 11 rfl T2 ?_;refine JN 12 rfl T2 ?_;refine JN 13 rfl T2 ?_;refine JN 8 rfl T2 ?_;refine JN 14 rfl T2 ?_;refine JT 15 rfl Hr ?_;refine FC ?_;refine GZ ?_;refine Nm ?_;exact mR [4,5,6] H rfl rfl (by rw [show Bz ks side xs=none from by rw [Bz,if_neg hop,if_pos (.inl hg2)]];exact BW)
 refine JY 3 rfl F2 Mr ?_;refine JY 4 rfl F2 Be ?_;refine JY 5 rfl F2 Be ?_;refine JY 6 rfl F2 Be ?_;refine JY 7 rfl F2 eE ?_;refine JY 9 rfl F2 Be ?_;refine JY 10 rfl F2 Be ?_;refine JY 11 rfl F2 (Ol (l:=xs.length-8) (k':=(xs.drop (xs.length-8)).length) rfl rfl Ca (by rw [M?])) ?_;refine JY 12 rfl F2 (gC rfl hsT Ca Ca) ?_;refine JY 13 rfl F2 (cF (xs:=xs.drop (xs.length-8)) (o:=o+(xs.length-8)*1) rfl inferInstance (by rw [hT8];rfl)) ?_;refine PC 8 Cb rfl rfl rfl rfl F2 (BJ rfl (Wr ks hk side (be xs 8) (FZ xs) (sp p c 8 1) b (o+8*1) (c-8) _ hsB inferInstance Ca)) ?_;refine Ev ?_;refine JY 14 rfl F2 (yD (xs:=Gn ks side (be xs 8) (FZ xs)) (ys:=xs.drop (xs.length-8)) Cb rfl rfl rfl hT8) ?_;refine JT 15 rfl HZ ?_;refine FC ?_;refine mC (fun hc=>?_) (fun hc=>?_)
 ·refine Nm ?_;exact mR [4,5,6] H rfl rfl (by rw [show Bz ks side xs=none from by rw [Bz,if_neg hop,if_pos (.inr hc)]];exact BW)
 refine J3 ?_;refine mA 10 10 ?_;refine FX ?_;refine JT 1 rfl Mr ?_;refine Jm 2 ?_;refine Jm 3 ?_;refine Jm 4 ?_;refine JT 5 rfl eE ?_;refine Am 6 Cb rfl rfl (BJ rfl (Ux ks hk side (be xs 8) (FZ xs) (sp p c 8 1) b (o+8*1) (c-8) _ hsB inferInstance Ca)) ?_;rintro _ _ ⟨p55,b55,o55,c55,s55,rfl,hs55,hc55,rfl⟩;refine A6 ?_;refine Ja 7 ?_;refine Ja 8 ?_;refine Ja 9 ?_;refine Da ?_;exact mR [4,5,6] (AB b55 o55 (DI ks side (be xs 8) (FZ xs)) s55*H) rfl rfl (by rw [show Bz ks side xs=some (be xs 8,DI ks side (be xs 8) (FZ xs)) by rw [Bz,if_neg hop,if_neg (fun h=>h.elim hg2 hc)]];exact⟨_,rfl,p55,b55,o55,c55,s55,rfl,hs55,hc55,rfl⟩)
end
structure BH where
 l:List AW
 floor:Nat
 AL:Nat
def B1(lo hi:Nat):List AW→List AW
 |[]=>[⟨lo,hi⟩]
 |r::rs=>if r.hi+1<lo then r::B1 lo hi rs else if hi+1<r.lo then⟨lo,hi⟩::r::rs else B1 (min lo r.lo) (max hi r.hi) rs
def BH.add(s:BH)(lo hi:Nat):BH:=
 if hi<max lo s.floor then s
 else if s.AL<(B1 (max lo s.floor) hi s.l).length then⟨(B1 (max lo s.floor) hi s.l).tail,((B1 (max lo s.floor) hi s.l).headD ⟨0,0⟩).hi+1,s.AL⟩
 else⟨B1 (max lo s.floor) hi s.l,s.floor,s.AL⟩
def BE(n:Nat)(l:List AW):Prop:=∃r∈l,r.lo≤n∧n≤r.hi
instance(n:Nat)(l:List AW):Decidable (BE n l):=by unfold BE;infer_instance
def BH.has(s:BH)(n:Nat):Prop:=n<s.floor∨BE n s.l
instance(s:BH)(n:Nat):Decidable (s.has n):=by unfold BH.has;infer_instance
def AR(lo hi:Nat):List AW→Nat×Nat
 |[]=>(lo,hi)
 |r::rs=>if r.hi<lo then AR lo hi rs else if lo<r.lo then(lo,min hi r.lo)else AR (r.hi+1) hi rs
def BH.of(AL:Nat):BH:=⟨[],0,AL⟩
structure AY where
 b:List UInt8
 Ae:BH
 AE:BH
 high:Nat
 finished:Bool
 ending:Bool
 ended:Bool
 given:Bool
 code:Nat
 DE:Bool
def AY.BA(w:AY):Nat:=(AR 0 w.b.length w.AE.l).1
structure Bf where
 b:List UInt8
 AE:BH
 high:Nat
 end_:Nat
 ended:Bool
 given:Bool
 code:Nat
 read:Nat
 state:Nat
structure Dl where
 number:Nat
 at_:Nat
 Aw:List AU
structure AF where
 AI:Nat
 AG:Nat
 ks:List UInt8
 first:Bool
 now:Nat
 closed:Nat
 code:Nat
 said:Bool
 next:Nat
 AP:BH
 answer:Bool
 ws:List AY
 rs:List Bf
 BK:List Dl
 lost:List Dl
 BZ:Nat
 waits:Nat
def As:AY:=⟨[],.of 4096,.of 4096,0,false,false,false,false,0,false⟩
def FQ:Bf:=⟨[],.of 4096,0,0,false,false,0,0,0⟩
def Ic(AI AG:Int):Prop:=64≤AI∧AI≤300∧16≤AG∧AG≤1024
instance(AI AG:Int):Decidable (Ic AI AG):=by unfold Ic;infer_instance
def AF.new(AI AG:Nat)(ks:List UInt8)(first:Bool):AF:=
 ⟨AI,AG,ks,first,0,0,0,false,0,.of 8,false,J? 4 As,J? 4 FQ,[],[],0,0⟩
def AF.w(c:AF)(k:Nat):AY:=c.ws.getD k As
def AF.r(c:AF)(k:Nat):Bf:=c.rs.getD k FQ
def AF.Bs(c:AF)(k:Nat)(w:AY):AF:={c with ws:=c.ws.set k w}
def AF.BS(c:AF)(k:Nat)(r:Bf):AF:={c with rs:=c.rs.set k r}
def AF.stream(c:AF)(k:Int):Nat:=if c.closed≠0 then 9 else if k<0∨4≤k then 2 else 0
def AF.Dt(c:AF)(k:Int):Nat:=
 if c.stream k≠0 then c.stream k else if(c.w k.toNat).finished∨(c.w k.toNat).given then 3 else 0
def AF.Gj(c:AF)(k:Nat)(len:Nat):Nat:=
 min (min (c.AG-((c.w k).b.length-(c.w k).BA)) (4096-(c.w k).b.length)) len
def AF.write(c:AF)(k:Int)(xs:List UInt8):(Nat×Nat)×AF:=
 if c.Dt k≠0 then((0,c.Dt k),c)
 else((c.Gj k.toNat xs.length,0),c.Bs k.toNat {c.w k.toNat with b:=(c.w k.toNat).b++xs.take (c.Gj k.toNat xs.length)})
def AF.finish(c:AF)(k:Int):Nat×AF:=
 if c.Dt k≠0 then(c.Dt k,c)else(0,c.Bs k.toNat {c.w k.toNat with finished:=true})
def AF.giveUp(c:AF)(k:Int)(code:Nat):Nat×AF:=
 if c.stream k≠0 then(c.stream k,c)
 else if(c.w k.toNat).given∨4611686018427387903<code then(3,c)
 else(0,c.Bs k.toNat {c.w k.toNat with given:=true,code:=code})
def AF.AE(c:AF)(k:Int):Nat×Nat:=
 if c.stream k≠0 then(0,c.stream k)else((c.w k.toNat).BA,0)
def AF.close(c:AF)(code:Nat):Nat×AF:=
 if c.closed≠0 then(9,c)else if 4611686018427387903<code then(3,c)else(0,{c with closed:=9,code:=code})
def Dp(lo hi:Nat)(s:BH)(r:AW):BH:=
 let s1:=if r.lo<lo then s.add r.lo (min r.hi (lo-1))else s
 if hi≤r.hi then s1.add (max r.lo hi) r.hi else s1
def AY.again(w:AY)(f:AU):AY:=
 if f.kind=5 then
  {w with Ae:=w.AE.l.reverse.foldl (fun s r=>s.add r.lo r.hi) (w.Ae.l.reverse.foldl (Dp f.offset (f.offset+f.data.size)) (BH.of 4096)),ending:=w.ending&& !f.fin}
 else if f.kind=4 then {w with DE:=false}else w
def HR(ws:List AY)(f:AU):List AY:=ws.set f.stream.toNat ((ws.getD f.stream.toNat As).again f)
def MS(ws:List AY)(p:Dl):List AY:=p.Aw.foldl HR ws
def AF.GC(c:AF)(lost:Dl→Bool):AF:=
 {c with BK:=c.BK.filter (fun p=> !lost p),lost:=c.lost++c.BK.filter lost,ws:=(c.BK.filter lost).foldl MS c.ws}
def MG(waits:Nat):Nat:=min (4*2^waits) 32
def AF.tick(c:AF):AF:=
 if c.BK.any (fun p=>decide (p.at_+MG c.waits≤c.now+1))then
  {({c with now:=c.now+1}:AF).GC (fun _=>true)with waits:=min (c.waits+1) 8}
 else {c with now:=c.now+1}
def AY.named(w:AY)(inn:Bool)(f:AU):AY:=
 let w1:=if inn=true∧f.kind=5∧f.data.size≠0 then
  {w with AE:=w.AE.add f.offset (f.offset+f.data.size-1),Ae:=w.Ae.add f.offset (f.offset+f.data.size-1)}else w
 {w1 with ended:=w1.ended||(inn&&decide (f.kind=5)&&f.fin)}
def BL(l:List AW)(n:Nat):Bool:=l.any (fun r=>decide (r.lo≤n)&&decide (n≤r.hi))
def HF(inn:Bool)(ws:List AY)(f:AU):List AY:=ws.set f.stream.toNat ((ws.getD f.stream.toNat As).named inn f)
def IV(l:List AW)(ws:List AY)(p:Dl):List AY:=p.Aw.foldl (HF (BL l p.number)) ws
def AF.Ek(c:AF)(l:List AW):AF:=
 {c with BZ:=max c.BZ (rg l 0).hi,lost:=c.lost.filter (fun p=> !BL l p.number),BK:=c.BK.filter (fun p=> !BL l p.number),ws:=c.BK.foldl (IV l) (c.lost.foldl (IV l) c.ws),waits:=if(c.BK.filter (fun p=> !BL l p.number)).length<c.BK.length then 0 else c.waits}
def AF.B0(c:AF)(l:List AW):Nat×AF:=
 if c.next≤(rg l 0).hi then(8,c)
 else(0,(c.Ek l).GC (fun p=>decide (p.number+3≤(c.Ek l).BZ)))
def GU(b:List UInt8)(o:Nat)(ds:List UInt8):List UInt8:=b.take o++ds++b.drop (o+ds.length)
def F9(fuel:Nat)(off e:Nat)(ds:List UInt8)(read lo:Nat)(b:List UInt8)(AE:BH):List UInt8×BH:=
 match fuel with
 |0=>(b,AE)
 |n+1=>
  if lo<e then
   let g:=AR lo e AE.l
   if e≤g.1 then(b,AE)
   else F9 n off e ds read g.2 (GU b (g.1-read) ((ds.drop (g.1-off)).take (g.2-g.1))) (AE.add g.1 (g.2-1))
  else(b,AE)
def Lf(ended:Bool)(end_ high:Nat)(f:AU):Prop:=
 (ended=true∧(end_<f.offset+f.data.size∨f.fin=true∧f.offset+f.data.size≠end_))∨(f.fin=true∧f.offset+f.data.size<high)
instance(ended:Bool)(end_ high:Nat)(f:AU):Decidable (Lf ended end_ high f):=by unfold Lf;infer_instance
def Bf.filled(r:Bf)(f:AU):List UInt8×BH:=
 F9 (f.offset+f.data.size+1) f.offset (f.offset+f.data.size) f.data.data.toList r.read (max f.offset r.read)
  (r.b++J? (max r.high (f.offset+f.data.size)-(r.read+r.b.length)) 0) r.AE
def Bf.Hu(r:Bf)(f:AU):Bf:=
 {r with high:=max r.high (f.offset+f.data.size),ended:=r.ended||f.fin,end_:=if f.fin then f.offset+f.data.size else r.end_,b:=(r.filled f).1,AE:=(r.filled f).2}
def Bf.data(r:Bf)(f:AU):Nat×Bf:=
 if Lf r.ended r.end_ r.high f then(7,r)else if r.given then(0,r)else(0,r.Hu f)
def AF.take(c:AF)(f:AU):Nat×AF:=
 if f.kind=3 then c.B0 f.ranges
 else if f.kind=4 then
  if(c.r f.stream.toNat).ended=true∧(c.r f.stream.toNat).end_≠f.offset∨f.offset<(c.r f.stream.toNat).high then(7,c)
  else(0,c.BS f.stream.toNat {c.r f.stream.toNat with code:=if(c.r f.stream.toNat).given then(c.r f.stream.toNat).code else f.code,given:=true,ended:=true,end_:=f.offset})
 else if f.kind=5 then(((c.r f.stream.toNat).data f).1,c.BS f.stream.toNat ((c.r f.stream.toNat).data f).2)
 else if f.kind=6 then(10,c)else(0,c)
def AF.shut(c:AF)(e:Nat):AF:={c with closed:=e,code:=e,said:=decide (e=10)}
def AF.BT(c:AF):List AU→Nat×AF
 |[]=>(0,c)
 |f::fs=>if(c.take f).1≠0 then((c.take f).1,(c.take f).2.shut (c.take f).1)
  else({(c.take f).2 with answer:=(c.take f).2.answer||(decide (f.kind≠3)&&decide (f.kind≠1))}:AF).BT fs
def AF.busy(c:AF)(f:AU):Prop:=f.kind=5∧(c.r f.stream.toNat).given=false∧(c.r f.stream.toNat).read+c.AG<f.offset+f.data.size
instance(c:AF)(f:AU):Decidable (c.busy f):=by unfold AF.busy;infer_instance
def AF.A5(c:AF)(p:List UInt8):(Nat×Int)×AF:=
 if c.closed≠0 then((9,-1),c)
 else match Bz c.ks (Af (!c.first)) p with
  |none=>((4,-1),c)
  |some (number,b)=>
   if c.AP.has number.toNat then((0,-1),c)
   else match FL b with
    | .error at_=>((5,at_),{c with closed:=5,code:=5})
    | .ok fs=>
     if ∃f∈fs,c.busy f then((6,-1),c)
     else((((({c with AP:=c.AP.add number.toNat number.toNat}:AF).BT fs).1,-1)),(({c with AP:=c.AP.add number.toNat number.toNat}:AF).BT fs).2)
def AF.Eg(c:AF)(k:Nat):Bf:=if(c.r k).given=true∧(c.r k).state=0 then {c.r k with state:=2,b:=[]}else c.r k
def AF.HO(r:Bf)(AL:Int):Nat:=min ((AR r.read r.high r.AE.l).1-r.read) AL.toNat
def AF.read(c:AF)(k:Int)(AL:Int):(List UInt8×Nat×Nat×Nat)×AF:=
 if c.stream k≠0 then(([],0,0,c.stream k),c)
 else
  let r:=c.Eg k.toNat
  if r.state=0 then
   let n:=AF.HO r AL
   let r2:={r with b:=r.b.drop n,read:=r.read+n}
   let r3:=if r2.ended=true∧r2.read=r2.end_ then {r2 with state:=1}else r2
   ((r.b.take n,r3.state,0,0),c.BS k.toNat r3)
  else(([],r.state,(if r.state=2 then r.code else 0),0),c.BS k.toNat r)
structure BV where
 Aw:List AU
 room:Nat
def BV.b(d:BV):List UInt8:=Ap d.Aw
def BV.add(d:BV)(f:AU):Option BV:=if d.room<(d.b++Ah f).length then none else some {d with Aw:=d.Aw++[f]}
def Bx(k off:Nat)(fin:Bool)(ds:List UInt8):AU:=⟨5,k,off,0,fin,AX ds,[]⟩
def IJ(k code off:Nat):AU:=⟨4,k,off,code,false,⟨#[]⟩,[]⟩
def EY(rs:List AW):AU:=⟨3,0,0,0,false,⟨#[]⟩,rs⟩
def Bn(code:Nat):AU:=⟨6,0,0,code,false,⟨#[]⟩,[]⟩
def cut(b:List UInt8)(lo hi:Nat):List UInt8:=(b.take hi).drop lo
def AY.KU(w:AY)(d:BV)(k lo hi:Nat):Option (AY×BV):=
 let head:=(Ah (Bx k lo false (cut w.b lo hi))).length-(hi-lo)
 if lo<hi∧d.room<d.b.length+head+1 then none
 else
  let hi2:=min hi (lo+(d.room-d.b.length-head))
  let f:=Bx k lo (w.finished&&decide (hi2=w.b.length)) (cut w.b lo hi2)
  match d.add f with
  |none=>none
  |some d2=>some ({w with Ae:=if lo<hi2 then w.Ae.add lo (hi2-1)else w.Ae,ending:=w.ending||f.fin,high:=max w.high hi2},d2)
def AY.fill(w:AY)(d:BV)(k:Nat):Option (AY×BV):=
 if w.given then
  if w.DE then none
  else match d.add (IJ k w.code w.high)with
   |none=>none
   |some d2=>some ({w with DE:=true},d2)
 else if(AR 0 w.b.length w.Ae.l).2≤(AR 0 w.b.length w.Ae.l).1 then
  if w.finished=false∨w.ending=true∨w.ended=true then none else w.KU d k w.b.length w.b.length
 else w.KU d k (AR 0 w.b.length w.Ae.l).1 (AR 0 w.b.length w.Ae.l).2
def FR(k:Nat):Nat→AY→BV→AY×BV
 |0,w,d=>(w,d)
 |n+1,w,d=>match w.fill d k with
  |none=>(w,d)
  |some (w2,d2)=>FR k n w2 d2
def Ed(d:BV)(ws:List AY)(k:Nat):Nat→List AY×BV
 |0=>(ws,d)
 |n+1=>Ed (FR k (d.room+1) (ws.getD k As) d).2 (ws.set k (FR k (d.room+1) (ws.getD k As) d).1) (k+1) n
def Es(told:List AW)(room:Nat):Nat→Nat
 |0=>0
 |1=>1
 |n+2=>if room<(Ah (EY (told.take (n+2)))).length then Es told room (n+1)else n+2
structure BP where
 c:AF
 told:List AW
 out:List (List UInt8)
def AF.Dj(c:AF)(told:List AW):BV:=
 ⟨if told=[]then []else [EY (told.take (Es told (c.AI-16) told.length))],c.AI-16⟩
def BP.JB(z:BP):List AW:=z.told.drop (Es z.told (z.c.AI-16) z.told.length)
def BP.filled(z:BP):List AY×BV:=if z.c.BK.length<10 then Ed (z.c.Dj z.told) z.c.ws 0 4 else(z.c.ws,z.c.Dj z.told)
def EC(fs:List AU):Bool:=fs.any (fun f=>decide (f.kind≠3))
def BP.step(z:BP):BP:=
 ⟨{z.c with ws:=z.filled.1,next:=z.c.next+1,BK:=if EC z.filled.2.Aw then z.c.BK++[⟨z.c.next,z.c.now,z.filled.2.Aw⟩]else z.c.BK},z.JB,z.out++[Bc z.c.ks (Af z.c.first) (UInt64.ofNat z.c.next) z.filled.2.b]⟩
def DM:Nat→BP→BP
 |0,z=>z
 |n+1,z=>if z.filled.2.Aw=[]then {z with c:={z.c with ws:=z.filled.1}}else DM n z.step
def AF.Fm(c:AF):List (List UInt8)×AF:=
 if c.said then([],c)
 else([Bc c.ks (Af c.first) (UInt64.ofNat c.next) (Ah (Bn c.code))],{c with said:=true,next:=c.next+1})
def AF.A3(c:AF):List (List UInt8)×AF:=
 if c.closed≠0 then c.Fm
 else
  let z:=DM 40 ⟨{c with answer:=false},if c.answer then c.AP.l.reverse else [],[]⟩
  (z.out,z.c)
structure IY where
 data:List UInt8
 AE:BH
 finished:Bool
 given:Bool
 code:Nat
 end_:Nat
 high:Nat
structure HN where
 data:List UInt8
 there:List Bool
 high:Nat
 end_:Nat
 ended:Bool
 given:Bool
 code:Nat
 read:Nat
 state:Nat
structure XO where
 number:Nat
 Aw:List AU
structure BF where
 AI:Nat
 AG:Nat
 ks:List UInt8
 first:Bool
 closed:Nat
 code:Nat
 said:Bool
 next:Nat
 AP:BH
 Nt:BH
 due:List Nat
 outs:List IY
 ins:List HN
 Ae:List XO
def Oo:IY:=⟨[],.of 1073741824,false,false,0,0,0⟩
def Wz:HN:=⟨[],[],0,0,false,false,0,0,0⟩
def BF.new(AI AG:Nat)(ks:List UInt8)(first:Bool):BF:=
 ⟨AI,AG,ks,first,0,0,false,0,.of 8,.of 1073741824,[],J? 4 Oo,J? 4 Wz,[]⟩
def BF.o(s:BF)(k:Nat):IY:=s.outs.getD k Oo
def BF.i(s:BF)(k:Nat):HN:=s.ins.getD k Wz
def BF.P1(s:BF)(k:Nat)(o:IY):BF:={s with outs:=s.outs.set k o}
def BF.UK(s:BF)(k:Nat)(x:HN):BF:={s with ins:=s.ins.set k x}
def BF.of(s:BF)(k:Int):Nat:=if s.closed≠0 then 9 else if k<0∨4≤k then 2 else 0
def IY.BA(o:IY):Nat:=if o.AE.l=[]∨0<(rg o.AE.l 0).lo then 0 else(rg o.AE.l 0).hi+1
def BF.Gj(s:BF)(k:Nat)(len:Nat):Nat:=
 min (min (s.AG-((s.o k).data.length-(s.o k).BA)) (4096-(s.o k).data.length)) len
def BF.write(s:BF)(k:Int)(xs:List UInt8):(Nat×Nat)×BF:=
 if s.of k≠0 then((0,s.of k),s)
 else if(s.o k.toNat).finished∨(s.o k.toNat).given then((0,3),s)
 else((s.Gj k.toNat xs.length,0),s.P1 k.toNat {s.o k.toNat with data:=(s.o k.toNat).data++xs.take (s.Gj k.toNat xs.length)})
def BF.finish(s:BF)(k:Int):Nat×BF:=
 if s.of k≠0 then(s.of k,s)
 else if(s.o k.toNat).finished∨(s.o k.toNat).given then(3,s)
 else(0,s.P1 k.toNat {s.o k.toNat with finished:=true})
def BF.giveUp(s:BF)(k:Int)(code:Nat):Nat×BF:=
 if s.of k≠0 then(s.of k,s)
 else if(s.o k.toNat).given∨4611686018427387903<code then(3,s)
 else(0,s.P1 k.toNat {s.o k.toNat with given:=true,code:=code,end_:=(s.o k.toNat).high})
def BF.AE(s:BF)(k:Int):Nat×Nat:=if s.of k≠0 then(0,s.of k)else((s.o k.toNat).BA,0)
def BF.close(s:BF)(code:Nat):Nat×BF:=
 if s.closed≠0 then(9,s)else if 4611686018427387903<code then(3,s)else(0,{s with closed:=9,code:=code})
def iR(outs:List IY)(f:AU):List IY:=
 if f.kind=5∧0<f.data.size then
  outs.set f.stream.toNat {outs.getD f.stream.toNat Oo with AE:=(outs.getD f.stream.toNat Oo).AE.add f.offset (f.offset+f.data.size-1)}
 else outs
def iY(l:List AW)(outs:List IY)(p:XO):List IY:=if BL l p.number then p.Aw.foldl iR outs else outs
def BF.B0(s:BF)(l:List AW):BF:={s with outs:=s.Ae.foldl (iY l) s.outs}
def RJ(ds:List UInt8)(off:Nat)(data:List UInt8)(there:List Bool):List UInt8×List Bool:=
 match ds with
 |[]=>(data,there)
 |d::ds=>if there.getD off false then RJ ds (off+1) data there else RJ ds (off+1) (data.set off d) (there.set off true)
def HN.put(x:HN)(f:AU):List UInt8×List Bool:=
 RJ f.data.data.toList f.offset (x.data++J? (max x.high (f.offset+f.data.size)-x.data.length) 0) (x.there++J? (max x.high (f.offset+f.data.size)-x.data.length) false)
def HN.kV(x:HN)(f:AU):HN:=
 {x with high:=max x.high (f.offset+f.data.size),ended:=x.ended||f.fin,end_:=if f.fin then f.offset+f.data.size else x.end_,data:=(x.put f).1,there:=(x.put f).2}
def HN.bytes(x:HN)(f:AU):Nat×HN:=
 if Lf x.ended x.end_ x.high f then(7,x)else if x.given then(0,x)else(0,x.kV f)
def BF.take(s:BF)(f:AU):Nat×BF:=
 if f.kind=3 then if s.next≤(rg f.ranges 0).hi then(8,s)else(0,s.B0 f.ranges)
 else if f.kind=4 then
  if(s.i f.stream.toNat).ended=true∧(s.i f.stream.toNat).end_≠f.offset∨f.offset<(s.i f.stream.toNat).high then(7,s)
  else(0,s.UK f.stream.toNat {s.i f.stream.toNat with code:=if(s.i f.stream.toNat).given then(s.i f.stream.toNat).code else f.code,given:=true,ended:=true,end_:=f.offset})
 else if f.kind=5 then(((s.i f.stream.toNat).bytes f).1,s.UK f.stream.toNat ((s.i f.stream.toNat).bytes f).2)
 else if f.kind=6 then(10,s)else(0,s)
def BF.shut(s:BF)(e:Nat):BF:={s with closed:=e,code:=e,said:=decide (e=10)}
def j2(number:Nat)(due:List Nat)(f:AU):List Nat:=
 if f.kind≠3∧f.kind≠1∧(due=[]∨due.getD (due.length-1) 0≠number)then due++[number]else due
def BF.BT(s:BF)(number:Nat):List AU→Nat×BF
 |[]=>(0,s)
 |f::fs=>if(s.take f).1≠0 then((s.take f).1,(s.take f).2.shut (s.take f).1)
  else({(s.take f).2 with due:=j2 number (s.take f).2.due f}:BF).BT number fs
def BF.busy(s:BF)(f:AU):Prop:=f.kind=5∧(s.i f.stream.toNat).state≠2∧(s.i f.stream.toNat).given=false∧(s.i f.stream.toNat).read+s.AG<f.offset+f.data.size
instance(s:BF)(f:AU):Decidable (s.busy f):=by unfold BF.busy;infer_instance
def BF.A5(s:BF)(p:List UInt8):(Nat×Int)×BF:=
 if s.closed≠0 then((9,-1),s)
 else match Bz s.ks (Af (!s.first)) p with
  |none=>((4,-1),s)
  |some (number,b)=>
   if s.AP.has number.toNat then((0,-1),s)
   else match FL b with
    | .error at_=>((5,at_),{s with closed:=5,code:=5})
    | .ok fs=>
     if ∃f∈fs,s.busy f then((6,-1),s)
     else((((({s with AP:=s.AP.add number.toNat number.toNat,Nt:=s.Nt.add number.toNat number.toNat}:BF).BT number.toNat fs).1,-1)),
      (({s with AP:=s.AP.add number.toNat number.toNat,Nt:=s.Nt.add number.toNat number.toNat}:BF).BT number.toNat fs).2)
def eJ(there:List Bool)(high:Nat):Nat→Nat→Nat
 |0,_=>0
 |n+1,read=>if read<high∧there.getD read false=true then eJ there high n (read+1)+1 else 0
def BF.read(s:BF)(k:Int)(AL:Int):(List UInt8×Nat×Nat×Nat)×BF:=
 if s.of k≠0 then(([],0,0,s.of k),s)
 else
  let x:=s.i k.toNat
  let x1:=if x.given=true∧x.state=0 then {x with state:=2}else x
  let n:=if x1.state=0 then eJ x1.there x1.high AL.toNat x1.read else 0
  let x2:={x1 with read:=x1.read+n}
  let x3:=if x2.ended=true∧x2.read=x2.end_∧x2.state=0 then {x2 with state:=1}else x2
  (((x1.data.drop x1.read).take n,x3.state,(if x3.state=2 then x3.code else 0),0),s.UK k.toNat x3)
def BF.opened(s:BF)(b:List UInt8):Option (List AU)×BF:=
 match Bz s.ks (Af s.first) b with
 |none=>(none,s)
 |some (number,p)=>
  if s.AI<b.length∨number.toNat≠s.next then(none,s)
  else match FL p with
   | .error _=>(none,{s with next:=s.next+1})
   | .ok l=>(if GN l=some p then some l else none,{s with next:=s.next+1})
def BF.Fm(s:BF)(l:List (List UInt8)):Bool×BF:=
 if s.said then(decide (l.length=0),s)
 else if l.length≠1 then(false,{s with said:=true})
 else match(({s with said:=true}:BF).opened (l.getD 0 []))with
  |(none,s2)=>(false,s2)
  |(some fs,s2)=>(decide (fs.length=1∧(fs.getD 0 (Bn 0)).kind=6∧(fs.getD 0 (Bn 0)).code=s2.code),s2)
def BF.SE(s:BF)(f:AU):Bool×BF:=
 if ∀r∈f.ranges,∃e∈s.Nt.l,e.lo≤r.lo∧r.hi≤e.hi then
  (true,{s with due:=s.due.filter (fun n=> !(decide (n<s.AP.floor)||BL f.ranges n))})
 else(false,s)
def BF.sends(s:BF)(f:AU):Bool×BF:=
 let o:=s.o f.stream.toNat
 let e:=f.offset+f.data.size
 if o.given=true∨o.data.length<e∨(o.data.take e).drop f.offset≠f.data.data.toList then(false,s)
 else if(f.fin≠(o.finished&&decide (e=o.data.length)))∨(f.data.size=0∧f.fin=false)then(false,s)
 else(true,s.P1 f.stream.toNat {o with high:=max o.high e})
def BF.may(s:BF)(f:AU):Bool×BF:=
 if f.kind=3 then s.SE f
 else if f.kind=4 then(decide ((s.o f.stream.toNat).given=true∧f.offset=(s.o f.stream.toNat).end_∧f.code=(s.o f.stream.toNat).code),s)
 else if f.kind=5 then s.sends f else(false,s)
def El:List AW→Prop
 |[]=>True
 |r::rs=>r.lo≤r.hi∧(∀s∈rs,r.hi+1<s.lo)∧El rs
theorem Qt(n:Nat):¬BE n []:=by rintro⟨r,h,_⟩;cases h
theorem FW(n:Nat)(r:AW)(rs:List AW):BE n (r::rs)↔(r.lo≤n∧n≤r.hi)∨BE n rs:=by
 simp [BE,K!]
theorem Lr:∀(l:List AW) (lo hi n:Nat),lo≤hi→(BE n (B1 lo hi l)↔(lo≤n∧n≤hi)∨BE n l)
 |[],lo,hi,n,h=>by simp [B1,BE]
 |r::rs,lo,hi,n,h=>by
  rw [B1];split
  ·rw [FW,Lr rs lo hi n h,FW];constructor<;>rintro(h|h|h)<;>simp_all
  split
  ·rw [FW,FW]
  ·rw [Lr rs _ _ n Ca,FW];constructor
   ·rintro(h1|h1)
    ·by_cases h2:lo≤n∧n≤hi
     ·exact .inl h2
     ·refine .inr (.inl ?_);omega
    ·exact .inr (.inr h1)
   ·rintro(h1|h1|h1)
    ·left;omega
    ·left;omega
    ·exact .inr h1
theorem Qi:∀(l:List AW) (lo hi m:Nat),m≤lo→(∀s∈l,m≤s.lo)→∀s∈B1 lo hi l,m≤s.lo
 |[],lo,hi,m,h,_=>by simp [B1];exact h
 |r::rs,lo,hi,m,h,h2=>by
  have hr:=h2 r Cg;have h3:∀s∈rs,m≤s.lo:=fun s hs=>h2 s Lt;rw [B1];split
  ·intro s hs;rcases K!.1 hs with rfl|hs
   ·exact hr
   ·exact Qi rs lo hi m h h3 s hs
  split
  ·intro s hs;rcases K!.1 hs with rfl|hs
   ·exact h
   ·exact h2 s hs
  ·exact Qi rs _ _ m Ca h3
theorem KW:∀(l:List AW) (lo hi m:Nat),hi≤m→(∀s∈l,s.hi≤m)→∀s∈B1 lo hi l,s.hi≤m
 |[],lo,hi,m,h,_=>by simp [B1];exact h
 |r::rs,lo,hi,m,h,h2=>by
  have hr:=h2 r Cg;have h3:∀s∈rs,s.hi≤m:=fun s hs=>h2 s Lt;rw [B1];split
  ·intro s hs;rcases K!.1 hs with rfl|hs
   ·exact hr
   ·exact KW rs lo hi m h h3 s hs
  split
  ·intro s hs;rcases K!.1 hs with rfl|hs
   ·exact h
   ·exact h2 s hs
  ·exact KW rs _ _ m Ca h3
theorem Lb:∀(l:List AW) (lo hi:Nat),lo≤hi→El l→El (B1 lo hi l)
 |[],lo,hi,h,_=>by simp [B1,El];exact h
 |r::rs,lo,hi,h,⟨h1,h2,h3⟩=>by
  rw [B1];split
  ·refine⟨h1,?_,Lb rs lo hi h h3⟩;intro s hs
   have:=Qi rs lo hi (r.hi+2) Ca (fun s hs=>by have:=h2 s hs;omega) s hs
   omega
  split
  ·refine⟨h,?_,h1,h2,h3⟩;intro s hs;rcases K!.1 hs with rfl|hs
   ·omega
   ·have:=h2 s hs;simp only [];omega
  ·exact Lb rs _ _ Ca h3
theorem Pc:∀(l:List AW) (lo hi:Nat),(B1 lo hi l).length≤l.length+1
 |[],lo,hi=>by simp [B1]
 |r::rs,lo,hi=>by
  rw [B1];split
  ·have:=Pc rs lo hi;simp;omega
  split
  ·simp
  ·have:=Pc rs (min lo r.lo) (max hi r.hi);simp;omega
theorem Ng(l:List AW)(lo hi:Nat):B1 lo hi l≠ []:=by
 cases l with
 |nil=>simp [B1]
 |cons r rs=>
  rw [B1];split
  ·simp
  split
  ·simp
  ·exact Ng rs _ _
theorem Tv:∀(l:List AW) (a m:Nat),El l→(∀s∈l,a≤s.lo)→(∀s∈l,s.hi<m)→a+2*l.length≤m+1∨l=[]
 |[],a,m,_,_,_=>.inr rfl
 |r::rs,a,m,⟨h1,h2,h3⟩,ha,hm=>by
  left;have h4:=ha r Cg;have h5:=hm r Cg;rcases Tv rs (r.hi+2) m h3 (fun s hs=>by have:=h2 s hs;omega) (fun s hs=>hm s Lt)with h6|rfl
  ·simp;omega
  ·simp;omega
structure DF(s:BH)(m:Nat):Prop where
 inc:El s.l
 lo:∀r∈s.l,s.floor≤r.lo
 hi:∀r∈s.l,r.hi<m
 len:s.l.length≤s.AL
 fl:s.floor≤m
theorem DF.of{AL m:Nat}:DF (.of AL) m:=⟨trivial,(fun _ h=>nomatch h),(fun _ h=>nomatch h),L? _,L? _⟩
theorem nM{r:AW}{l:List AW}(h:El (r::l)):El l:=h.2.2
theorem DF.add{s:BH}{m:Nat}(h:DF s m)(lo hi:Nat)(hm:hi<m)(h0:1≤s.AL):DF (s.add lo hi) m∧(s.add lo hi).AL=s.AL:=by
 unfold BH.add;split
 ·exact⟨h,rfl⟩
 ·rename_i hc;have hi1:=Lb s.l _ hi (by omega:max lo s.floor≤hi) h.inc;have hlo:=Qi s.l (max lo s.floor) hi s.floor Ca h.lo;have hhi:=KW s.l (max lo s.floor) hi (m-1) Ca (fun r hr=>by have:=h.hi r hr;omega);have hlen:=Pc s.l (max lo s.floor) hi;split
  ·refine⟨?_,rfl⟩
   cases e:B1 (max lo s.floor) hi s.l with
   |nil=>exact absurd e (Ng _ _ _)
   |cons r rs=>
    rw [e]at hi1 hlo hhi hlen;refine⟨nM hi1,fun t ht=>?_,fun t ht=>?_,?_,?_⟩
    ·have:=hi1.2.1 t ht;simp only [T_]at*;omega
    ·have:=hhi t (by simp;exact .inr ht);omega
    ·simp only [List.tail_cons];have:=h.len;simp at hlen;omega
    ·have:=hhi r Cg;simp only [T_];omega
  ·refine⟨⟨hi1,hlo,fun t ht=>?_,by show(B1 (max lo s.floor) hi s.l).length≤s.AL;omega,h.fl⟩,rfl⟩
   have:=hhi t ht;omega
theorem BH.rM{s:BH}{lo hi n:Nat}(h:BE n (s.add lo hi).l):BE n s.l∨(lo≤n∧n≤hi):=by
 unfold BH.add at h;split at h
 ·exact .inl h
 ·rename_i hc;have hin:=Lr s.l (max lo s.floor) hi n Ca
  have hk:BE n (B1 (max lo s.floor) hi s.l):=by
   split at h
   ·cases e:B1 (max lo s.floor) hi s.l with
    |nil=>exact absurd e (Ng _ _ _)
    |cons r rs=>rw [e]at h;rw [FW];exact .inr h
   ·exact h
  rcases hin.1 hk with h1|h1
  ·exact .inr Ca
  ·exact .inl h1
theorem BH.Y8{s:BH}{lo hi:Nat}(hf:s.floor=0)(hl:lo≤hi)(hlen:(B1 lo hi s.l).length≤s.AL):s.add lo hi=⟨B1 lo hi s.l,0,s.AL⟩:=by
 unfold BH.add;rw [hf,Nat.max_zero,if_neg Ca,if_neg Ca]
theorem IW:∀(l:List AW) (lo hi:Nat),El l→lo≤hi→
  lo≤(AR lo hi l).1∧(∀n,lo≤n→n<(AR lo hi l).1→BE n l)∧(AR lo hi l).2≤hi∧
  ((AR lo hi l).1<(AR lo hi l).2→∀n,(AR lo hi l).1≤n→n<(AR lo hi l).2→¬BE n l)∧((AR lo hi l).2≤(AR lo hi l).1→hi≤(AR lo hi l).1):=by
 intro l
 induction l with
 |nil=>intro lo hi _ h;simp only [AR];exact⟨Ca,fun n _ _=>by omega,Ca,fun _ n _ _=>Qt n,fun _=>by omega⟩
 |cons r rs ih=>
  intro lo hi ⟨h1,h2,h3⟩ h;rw [AR];split
  ·rename_i hc;obtain⟨a,b,c,d,e⟩:=ih lo hi h3 h;refine⟨a,fun n h4 h5=>(FW n r rs).2 (.inr (b n h4 h5)),c,fun h4 n h5 h6 h7=>?_,e⟩;rcases(FW n r rs).1 h7 with h8|h8
   ·omega
   ·exact d h4 n h5 h6 h8
  split
  ·rename_i hc hd;refine⟨Cg,fun n h4 h5=>by simp at h5;omega,Ck,fun h4 n h5 h6 h7=>?_,fun h4=>by simp at h4⊢;omega⟩;simp at h5 h6;rcases(FW n r rs).1 h7 with h8|⟨s,hs,h8⟩
   ·omega
   ·have:=h2 s hs;omega
  ·rename_i hc hd;by_cases hh:r.hi+1≤hi
   ·obtain⟨a,b,c,d,e⟩:=ih (r.hi+1) hi h3 hh;refine⟨Ca,fun n h4 h5=>?_,c,fun h4 n h5 h6 h7=>?_,e⟩
    ·by_cases h6:n≤r.hi
     ·exact(FW n r rs).2 (.inl Ca)
     ·exact ZB
    ·rcases(FW n r rs).1 h7 with h8|h8
     ·omega
     ·exact d h4 n h5 h6 h8
   ·have hbig:∀(l:List AW) (lo hi:Nat),hi≤lo→El l→lo≤(AR lo hi l).1∧(∀n,lo≤n→n<(AR lo hi l).1→BE n l)∧(AR lo hi l).2≤hi:=by
     intro l
     induction l with
     |nil=>intro lo hi h _;simp only [AR];exact⟨Ca,fun n _ _=>by omega,Ca⟩
     |cons t ts ih2=>
      intro lo hi h ⟨g1,g2,g3⟩;rw [AR];split
      ·obtain⟨a,b,c⟩:=ih2 lo hi h g3;exact⟨a,fun n h4 h5=>(FW n t ts).2 (.inr (b n h4 h5)),c⟩
      split
      ·exact⟨Cg,fun n h4 h5=>by simp at h5;omega,Ck⟩
      ·obtain⟨a,b,c⟩:=ih2 (t.hi+1) hi Ca g3;refine⟨Ca,fun n h4 h5=>?_,c⟩;by_cases h6:n≤t.hi
       ·exact(FW n t ts).2 (.inl Ca)
       ·exact(FW n t ts).2 (.inr (b n Ca h5))
    obtain⟨a,b,c⟩:=hbig rs (r.hi+1) hi Ca h3;refine⟨Ca,fun n h4 h5=>?_,c,fun h4=>by omega,fun _=>by omega⟩;by_cases h6:n≤r.hi
    ·exact(FW n r rs).2 (.inl Ca)
    ·exact ZB
theorem NR{l:List AW}{lo hi:Nat}(hI:El l)(h:lo≤hi)(hb:∀r∈l,r.hi<hi):(AR lo hi l).1≤hi∧¬BE (AR lo hi l).1 l:=by
 obtain⟨a,b,c,d,e⟩:=IW l lo hi hI h
 have hle:(AR lo hi l).1≤hi:=by
  rcases M! hi (AR lo hi l).1 with h1|h1
  ·obtain⟨r,hr,h2⟩:=b hi h h1
   have:=hb r hr;omega
  ·exact h1
 refine⟨hle,fun hin=>?_⟩;rcases M! (AR lo hi l).1 (AR lo hi l).2 with h1|h1
 ·exact d h1 _ DH h1 hin
 ·have:=e h1
  obtain⟨r,hr,h2⟩:=hin
  have:=hb r hr;omega
theorem CY{α:Type}(l:List α)(i k:Nat)(x d:α):(l.set i x).getD k d=if i=k∧i<l.length then x else l.getD k d:=by
 simp only [K?,List.getElem?_set];by_cases h:i=k
 ·subst h;by_cases h2:i<l.length
  ·simp [h2]
  ·simp [h2]
 ·simp [h]
theorem DF.mono{s:BH}{m m':Nat}(h:DF s m)(hm:m≤m'):DF s m':=
 ⟨h.inc,h.lo,fun r hr=>by have:=h.hi r hr;omega,h.len,by have:=h.fl;omega⟩
structure C7(AG:Nat)(w:AY):Prop where
 len:w.b.length≤4096
 so:DF w.Ae w.b.length
 sf:w.Ae.floor=0
 sm:w.Ae.AL=4096
 co:DF w.AE w.b.length
 cf:w.AE.floor=0
 cm:w.AE.AL=4096
 room:w.b.length≤w.BA+AG
 high:w.high≤w.b.length
 code:w.code≤4611686018427387903
theorem Jz{s:BH}{m lo hi:Nat}(h:DF s m)(hf:s.floor=0)(hm:s.AL=4096)(hm4:m≤4096)(hhi:hi<m):
  DF (s.add lo hi) m∧(s.add lo hi).floor=0∧(s.add lo hi).AL=4096∧(lo≤hi→(s.add lo hi).l=B1 lo hi s.l)∧∀n,BE n (s.add lo hi).l↔(lo≤n∧n≤hi)∨BE n s.l:=by
 by_cases hl:lo≤hi
 ·have h1:=Lb s.l lo hi hl h.inc;have h2:=KW s.l lo hi (m-1) Ca (fun r hr=>by have:=h.hi r hr;omega);have h3:=Tv _ 0 m h1 (fun _ _=>L? _) (fun r hr=>by have:=h2 r hr;omega)
  have h4:(B1 lo hi s.l).length≤s.AL:=by
   rcases h3 with h3|h3
   ·omega
   ·exact absurd h3 (Ng _ _ _)
  have e:=BH.Y8 hf hl h4;rw [e];exact⟨⟨h1,fun _ _=>L? _,fun r hr=>by have:=h2 r hr;omega,h4,L? _⟩,rfl,hm,fun _=>rfl,fun n=>Lr s.l lo hi n hl⟩
 ·have e:s.add lo hi=s:=by unfold BH.add;rw [if_pos Ca]
  rw [e];exact⟨h,hf,hm,fun h=>absurd h hl,fun n=>⟨.inr,fun h=>by rcases h with h|h;omega;exact h⟩⟩
theorem C7.OF{AG:Nat}{w:AY}(h:C7 AG w):w.BA≤w.b.length:=(NR h.co.inc Ff h.co.hi).1
theorem C7.dH{AG:Nat}{w:AY}(h:C7 AG w){n:Nat}(hn:n<w.BA):BE n w.AE.l:=
 (IW w.AE.l 0 w.b.length h.co.inc Ff).2.1 n Ff hn
theorem QK{w w':AY}(hI:El w.AE.l)(hI':El w'.AE.l)(hb:∀r∈w'.AE.l,r.hi<w'.b.length)(h:∀n,BE n w.AE.l→BE n w'.AE.l):w.BA≤w'.BA:=by
 rcases M! w'.BA w.BA with h1|h1
 ·exfalso;exact(NR hI' Ff hb).2 (h _ ((IW w.AE.l 0 w.b.length hI Ff).2.1 _ Ff h1))
 ·exact h1
structure Gh(w w':AY):Prop where
 b:w'.b=w.b
 high:w'.high=w.high
 finished:w'.finished=w.finished
 given:w'.given=w.given
 code:w'.code=w.code
theorem Gh.refl(w:AY):Gh w w:=If
theorem Gh.trans{a b c:AY}(h:Gh a b)(g:Gh b c):Gh a c:=⟨g.b.trans h.b,g.high.trans h.high,g.finished.trans h.finished,g.given.trans h.given,g.code.trans h.code⟩
def EU(ws:List AY)(f:AU):Prop:=0≤f.stream∧f.stream<4∧(f.kind=5→f.offset+f.data.size≤(ws.getD f.stream.toNat As).b.length)
structure Dm(AG:Nat)(ws:List AY):Prop where
 len:ws.length=4
 ok:∀k,k<4→C7 AG (ws.getD k As)
theorem QM{m lo hi:Nat}(hm4:m≤4096):∀(l:List AW) (s:BH),DF s m→s.floor=0→s.AL=4096→(∀r∈l,r.hi<m)→
  DF (l.foldl (Dp lo hi) s) m∧(l.foldl (Dp lo hi) s).floor=0∧(l.foldl (Dp lo hi) s).AL=4096
 |[],s,h,hf,hm,_=>⟨h,hf,hm⟩
 |r::l,s,h,hf,hm,hr=>by
  have h1:=hr r Cg;rw [L!]
  have h2:DF (Dp lo hi s r) m∧(Dp lo hi s r).floor=0∧(Dp lo hi s r).AL=4096:=by
   unfold Dp;by_cases ha:r.lo<lo
   ·obtain⟨a,b,c,_⟩:=Jz (lo:=r.lo) (hi:=min r.hi (lo-1)) h hf hm hm4 Ca;simp only [ha,if_true];split
    ·obtain⟨a',b',c',_⟩:=Jz (lo:=max r.lo hi) (hi:=r.hi) a b c hm4 h1;exact⟨a',b',c'⟩
    ·exact⟨a,b,c⟩
   ·simp only [ha,if_false];split
    ·obtain⟨a',b',c',_⟩:=Jz (lo:=max r.lo hi) (hi:=r.hi) h hf hm hm4 h1;exact⟨a',b',c'⟩
    ·exact⟨h,hf,hm⟩
  exact QM hm4 l _ h2.1 h2.2.1 h2.2.2 (fun t ht=>hr t (by simp [ht]))
theorem S9{m:Nat}(hm4:m≤4096):∀(l:List AW) (s:BH),DF s m→s.floor=0→s.AL=4096→(∀r∈l,r.hi<m)→
  DF (l.foldl (fun s r=>s.add r.lo r.hi) s) m∧(l.foldl (fun s r=>s.add r.lo r.hi) s).floor=0∧(l.foldl (fun s r=>s.add r.lo r.hi) s).AL=4096
 |[],s,h,hf,hm,_=>⟨h,hf,hm⟩
 |r::l,s,h,hf,hm,hr=>by
  rw [L!];obtain⟨a,b,c,_⟩:=Jz (lo:=r.lo) (hi:=r.hi) h hf hm hm4 (hr r Cg);exact S9 hm4 l _ a b c (fun t ht=>hr t (by simp [ht]))
theorem C7.again{AG:Nat}{w:AY}(h:C7 AG w)(f:AU):C7 AG (w.again f)∧Gh w (w.again f)∧(w.again f).AE=w.AE:=by
 unfold AY.again;split
 ·obtain⟨a,b,c⟩:=QM (lo:=f.offset) (hi:=f.offset+f.data.size) h.len w.Ae.l.reverse (.of 4096) .of rfl rfl (fun r hr=>h.so.hi r Rh);obtain⟨a',b',c'⟩:=S9 h.len w.AE.l.reverse _ a b c (fun r hr=>h.co.hi r Rh);exact⟨⟨h.len,a',b',c',h.co,h.cf,h.cm,h.room,h.high,h.code⟩,If,rfl⟩
 split
 ·exact⟨⟨h.len,h.so,h.sf,h.sm,h.co,h.cf,h.cm,h.room,h.high,h.code⟩,If,rfl⟩
 ·exact⟨h,.refl _,rfl⟩
theorem Dm.set{AG:Nat}{ws:List AY}(h:Dm AG ws){k:Nat}{w:AY}(hw:C7 AG w):Dm AG (ws.set k w):=by
 refine⟨by rw [List.length_set];exact h.len,fun j hj=>?_⟩;rw [CY];split
 ·exact hw
 ·exact h.ok j hj
structure Fp(ws ws':List AY):Prop where
 same:∀k,Gh (ws.getD k As) (ws'.getD k As)
theorem Fp.refl(ws:List AY):Fp ws ws:=⟨fun _=>.refl _⟩
theorem Fp.trans{a b c:List AY}(h:Fp a b)(g:Fp b c):Fp a c:=⟨fun k=>(h.same k).trans (g.same k)⟩
theorem Fp.set{ws:List AY}{k:Nat}{w:AY}(h:Gh (ws.getD k As) w):Fp ws (ws.set k w):=⟨fun j=>by
 rw [CY];split
 ·rename_i e;rw [←e.1];exact h
 ·exact .refl _⟩
theorem EU.same{ws ws':List AY}{f:AU}(h:EU ws f)(g:Fp ws ws'):EU ws' f:=⟨h.1,h.2.1,fun hk=>by rw [(g.same _).b];exact h.2.2 hk⟩
theorem TI{AG:Nat}:∀(fs:List AU) (ws:List AY),Dm AG ws→(∀f∈fs,EU ws f)→Dm AG (fs.foldl HR ws)∧Fp ws (fs.foldl HR ws)∧∀k,((fs.foldl HR ws).getD k As).AE=(ws.getD k As).AE
 |[],ws,h,_=>⟨h,.refl _,fun _=>rfl⟩
 |f::fs,ws,h,hf=>by
  rw [L!];have hf1:=hf f Cg;have h1:=(h.ok f.stream.toNat (by have:=hf1.1;have:=hf1.2.1;omega)).again f;have h2:Dm AG (HR ws f):=h.set h1.1;have h3:Fp ws (HR ws f):=.set h1.2.1;obtain⟨a,b,c⟩:=TI fs (HR ws f) h2 (fun g hg=>(hf g Cx).same h3);refine⟨a,h3.trans b,fun k=>?_⟩;rw [c k];unfold HR;rw [CY];split
  ·rename_i e;rw [h1.2.2,e.1]
  ·rfl
theorem Mh{AG:Nat}:∀(ps:List Dl) (ws:List AY),Dm AG ws→(∀p∈ps,∀f∈p.Aw,EU ws f)→Dm AG (ps.foldl MS ws)∧Fp ws (ps.foldl MS ws)∧∀k,((ps.foldl MS ws).getD k As).AE=(ws.getD k As).AE
 |[],ws,h,_=>⟨h,.refl _,fun _=>rfl⟩
 |p::ps,ws,h,hf=>by
  rw [L!];obtain⟨a,b,c⟩:=TI p.Aw ws h (hf p Cg);obtain⟨a',b',c'⟩:=Mh ps (MS ws p) a (fun q hq f hfq=>(hf q (by simp [hq]) f hfq).same b);exact⟨a',b.trans b',fun k=>(c' k).trans (c k)⟩
def K6(fs:List AU)(k n:Nat):Prop:=∃f∈fs,f.kind=5∧0<f.data.size∧f.stream.toNat=k∧f.offset≤n∧n<f.offset+f.data.size
theorem mQ(k n:Nat):¬K6 [] k n:=by rintro⟨f,h,_⟩;cases h
theorem iO(f:AU)(fs:List AU)(k n:Nat):K6 (f::fs) k n↔(f.kind=5∧0<f.data.size∧f.stream.toNat=k∧f.offset≤n∧n<f.offset+f.data.size)∨K6 fs k n:=by
 simp [K6,K!]
theorem C7.named{AG:Nat}{w:AY}(h:C7 AG w)(inn:Bool)(f:AU)(hf:f.kind=5→f.offset+f.data.size≤w.b.length):
  C7 AG (w.named inn f)∧Gh w (w.named inn f)∧∀n,BE n (w.named inn f).AE.l↔BE n w.AE.l∨(inn=true∧f.kind=5∧0<f.data.size∧f.offset≤n∧n<f.offset+f.data.size):=by
 unfold AY.named;by_cases hc:inn=true∧f.kind=5∧f.data.size≠0
 ·simp only [hc,ne_eq,not_false_eq_true,and_self,if_true];have hb:=hf hc.2.1
  have hpos:0<f.data.size:=by omega
  obtain⟨a,b,c,_,e⟩:=Jz (lo:=f.offset) (hi:=f.offset+f.data.size-1) h.co h.cf h.cm h.len Ca;obtain⟨a',b',c',_⟩:=Jz (lo:=f.offset) (hi:=f.offset+f.data.size-1) h.so h.sf h.sm h.len Ca;refine⟨⟨h.len,a',b',c',a,b,c,?_,h.high,h.code⟩,If,fun n=>?_⟩
  ·refine T! h.room (Nat.add_le_add_right (QK h.co.inc a.inc a.hi fun n hn=>?_) _);exact(e n).2 (.inr hn)
  ·rw [e n];constructor
   ·rintro(g|g)
    ·exact .inr ⟨trivial,trivial,hpos,g.1,Ca⟩
    ·exact .inl g
   ·rintro(g|g)
    ·exact .inr g
    ·exact .inl ⟨g.2.2.2.1,Ca⟩
 ·rw [if_neg hc];refine⟨⟨h.len,h.so,h.sf,h.sm,h.co,h.cf,h.cm,h.room,h.high,h.code⟩,If,fun n=>⟨.inl,?_⟩⟩;rintro(g|⟨g1,g2,g3,g4,g5⟩)
  ·exact g
  ·exact absurd ⟨g1,g2,Ca⟩ hc
theorem S5{AG:Nat}{inn:Bool}:∀(fs:List AU) (ws:List AY),Dm AG ws→(∀f∈fs,EU ws f)→
  Dm AG (fs.foldl (HF inn) ws)∧Fp ws (fs.foldl (HF inn) ws)∧∀k n,BE n ((fs.foldl (HF inn) ws).getD k As).AE.l↔BE n (ws.getD k As).AE.l∨(inn=true∧K6 fs k n)
 |[],ws,h,_=>⟨h,.refl _,fun k n=>⟨.inl,fun h=>by rcases h with h|h;exact h;exact absurd h.2 (mQ _ _)⟩⟩
 |f::fs,ws,h,hf=>by
  rw [L!];have hf1:=hf f Cg
  have hk4:f.stream.toNat<4:=by have:=hf1.1;have:=hf1.2.1;omega
  have h1:=(h.ok f.stream.toNat hk4).named inn f hf1.2.2;have h2:Dm AG (HF inn ws f):=h.set h1.1;have h3:Fp ws (HF inn ws f):=.set h1.2.1;obtain⟨a,b,c⟩:=S5 fs (HF inn ws f) h2 (fun g hg=>(hf g Cx).same h3);refine⟨a,h3.trans b,fun k n=>?_⟩;rw [c k n,iO]
  have h5:BE n ((HF inn ws f).getD k As).AE.l↔BE n (ws.getD k As).AE.l∨(inn=true∧f.kind=5∧0<f.data.size∧f.stream.toNat=k∧f.offset≤n∧n<f.offset+f.data.size):=by
   unfold HF;rw [CY];by_cases e:f.stream.toNat=k
   ·subst e;rw [if_pos ⟨rfl,by rw [h.len];exact hk4⟩,h1.2.2 n]
    simp
   ·rw [if_neg (fun h=>e h.1)];exact⟨.inl,fun h=>by rcases h with h|h;exact h;exact absurd h.2.2.2.1 e⟩
  rw [h5];constructor
  ·rintro((g|⟨g1,g2⟩)|⟨g1,g2⟩)
   ·exact .inl g
   ·exact .inr ⟨g1,.inl g2⟩
   ·exact .inr ⟨g1,.inr g2⟩
  ·rintro(g|⟨g1,g2|g2⟩)
   ·exact .inl (.inl g)
   ·exact .inl (.inr ⟨g1,g2⟩)
   ·exact .inr ⟨g1,g2⟩
theorem M'{AG:Nat}{l:List AW}:∀(ps:List Dl) (ws:List AY),Dm AG ws→(∀p∈ps,∀f∈p.Aw,EU ws f)→
  Dm AG (ps.foldl (IV l) ws)∧Fp ws (ps.foldl (IV l) ws)∧∀k n,BE n ((ps.foldl (IV l) ws).getD k As).AE.l↔BE n (ws.getD k As).AE.l∨∃p∈ps,BL l p.number=true∧K6 p.Aw k n
 |[],ws,h,_=>⟨h,.refl _,fun k n=>⟨.inl,fun h=>by rcases h with h|⟨p,h,_⟩;exact h;cases h⟩⟩
 |p::ps,ws,h,hf=>by
  rw [L!];obtain⟨a,b,c⟩:=S5 (inn:=BL l p.number) p.Aw ws h (hf p Cg);obtain⟨a',b',c'⟩:=M' (l:=l) ps (IV l ws p) a (fun q hq f hfq=>(hf q (by simp [hq]) f hfq).same b);refine⟨a',b.trans b',fun k n=>?_⟩;rw [c' k n,show BE n ((IV l ws p).getD k As).AE.l↔_ from c k n];constructor
  ·rintro((g|g)|⟨q,hq,g⟩)
   ·exact .inl g
   ·exact .inr ⟨p,Cg,g⟩
   ·exact .inr ⟨q,by simp [hq],g⟩
  ·rintro(g|⟨q,hq,g⟩)
   ·exact .inl (.inl g)
   ·rcases K!.1 hq with rfl|hq
    ·exact .inl (.inr g)
    ·exact .inr ⟨q,hq,g⟩
theorem RY{l:List AW}{read high:Nat}(hI:El l)(hp:∀n,n<read→BE n l)(hh:∀r∈l,r.hi<high)(hw:high≤read+1024):l.length≤514:=by
 cases l with
 |nil=>simp
 |cons r rs=>
  obtain⟨h1,h2,h3⟩:=hI
  have h4:read≤r.hi+1:=by
   rcases M! (r.hi+1) read with h|h
   ·rcases(FW (r.hi+1) r rs).1 (hp _ h)with h5|⟨s,hs,h5⟩
    ·omega
    ·have:=h2 s hs;omega
   ·exact h
  rcases Tv rs (r.hi+2) high h3 (fun s hs=>by have:=h2 s hs;omega) (fun s hs=>hh s Lt)with h5|rfl
  ·simp;omega
  ·simp
theorem Wb{s:BH}{m lo hi:Nat}(h:DF s m)(hf:s.floor=0)(hm:s.AL=4096)(hl:s.l.length≤600)(hlo:lo≤hi)(hhi:hi<m):
  DF (s.add lo hi) m∧(s.add lo hi).floor=0∧(s.add lo hi).AL=4096∧∀n,BE n (s.add lo hi).l↔(lo≤n∧n≤hi)∨BE n s.l:=by
 have h1:=Lb s.l lo hi hlo h.inc;have h2:=KW s.l lo hi (m-1) Ca (fun r hr=>by have:=h.hi r hr;omega);have h3:=Pc s.l lo hi;have e:=BH.Y8 hf hlo (by omega:(B1 lo hi s.l).length≤s.AL);rw [e];exact⟨⟨h1,fun _ _=>L? _,fun r hr=>by have:=h2 r hr;omega,by show(B1 lo hi s.l).length≤s.AL;omega,L? _⟩,rfl,hm,fun n=>Lr s.l lo hi n hlo⟩
theorem ZM{b ds:List UInt8}{o:Nat}(h:o+ds.length≤b.length):(GU b o ds).length=b.length:=by
 unfold GU;simp;omega
theorem kK{b ds:List UInt8}{o i:Nat}(h:o+ds.length≤b.length):(GU b o ds).getD i 0=if o≤i∧i<o+ds.length then ds.getD (i-o) 0 else b.getD i 0:=by
 unfold GU;simp only [K?]
 have hl:(b.take o).length=o:=by rw [R?];omega
 split
 ·rename_i hc;rw [O!,N? Ca,hl,O_ Ca]
 ·rename_i hc;rcases M! i o with h1|h1
  ·rw [O!,O_ Ca,P! h1]
  ·rw [N? Ck,R!];congr 2;simp;omega
theorem qL{off e:Nat}{ds:List UInt8}{read high:Nat}(he:e=off+ds.length)(heh:e≤high)(hw:high≤read+1024):
  ∀(fuel lo:Nat) (b:List UInt8) (AE:BH),DF AE high→AE.floor=0→AE.AL=4096→(∀n,n<read→BE n AE.l)→b.length=high-read→off≤lo→read≤lo→e-lo<fuel→
   DF (F9 fuel off e ds read lo b AE).2 high∧(F9 fuel off e ds read lo b AE).2.floor=0∧(F9 fuel off e ds read lo b AE).2.AL=4096∧
   (F9 fuel off e ds read lo b AE).1.length=b.length∧(∀n,BE n (F9 fuel off e ds read lo b AE).2.l↔BE n AE.l∨(lo≤n∧n<e))∧
   (∀n,read≤n→n<high→(F9 fuel off e ds read lo b AE).1.getD (n-read) 0=if lo≤n∧n<e∧¬BE n AE.l then ds.getD (n-off) 0 else b.getD (n-read) 0):=by
 intro fuel
 induction fuel with
 |zero=>intro lo b AE _ _ _ _ _ _ _ h;omega
 |succ fuel ih=>
  intro lo b AE ho hf hm hp hb hol hrl hfu;rw [F9];by_cases hlo:lo<e
  ·simp only [hlo,if_true];obtain⟨ga,gb,gc,gd,ge⟩:=IW AE.l lo e ho.inc Ca;by_cases hg:e≤(AR lo e AE.l).1
   ·simp only [hg,if_true];refine⟨ho,hf,hm,trivial,fun n=>⟨.inl,fun h=>?_⟩,fun n h1 h2=>?_⟩
    ·rcases h with h|h
     ·exact h
     ·exact gb n h.1 Ca
    ·rw [if_neg];rintro⟨h3,h4,h5⟩;exact h5 (gb n h3 Ca)
   ·simp only [hg,if_false]
    have hlt:(AR lo e AE.l).1<(AR lo e AE.l).2:=by
     rcases M! (AR lo e AE.l).1 (AR lo e AE.l).2 with h|h
     ·exact h
     ·exact absurd (ge h) hg
    have hds:((ds.drop ((AR lo e AE.l).1-off)).take ((AR lo e AE.l).2-(AR lo e AE.l).1)).length=(AR lo e AE.l).2-(AR lo e AE.l).1:=by
     rw [R?,M?];omega
    have hpl:(GU b ((AR lo e AE.l).1-read) ((ds.drop ((AR lo e AE.l).1-off)).take ((AR lo e AE.l).2-(AR lo e AE.l).1))).length=b.length:=ZM (by rw [hds];omega);have hcl:=RY ho.inc hp ho.hi hw;obtain⟨a1,a2,a3,a4⟩:=Wb (lo:=(AR lo e AE.l).1) (hi:=(AR lo e AE.l).2-1) ho hf hm Ca Ca Ca
    obtain⟨b1,b2,b3,b4,b5,b6⟩:=ih (AR lo e AE.l).2 (GU b ((AR lo e AE.l).1-read) ((ds.drop ((AR lo e AE.l).1-off)).take ((AR lo e AE.l).2-(AR lo e AE.l).1))) (AE.add (AR lo e AE.l).1 ((AR lo e AE.l).2-1)) a1 a2 a3 (fun n hn=>(a4 n).2 (.inr (hp n hn))) (by rw [hpl];exact hb) Ca Ca Ca
    refine⟨b1,b2,b3,b4.trans hpl,fun n=>?_,fun n h1 h2=>?_⟩
    ·rw [b5 n,a4 n];constructor
     ·rintro((h|h)|h)
      ·exact .inr Ca
      ·exact .inl h
      ·exact .inr Ca
     ·rintro(h|h)
      ·exact .inl (.inr h)
      ·by_cases h3:n<(AR lo e AE.l).1
       ·exact .inl (.inr (gb n h.1 h3))
       ·by_cases h4:n<(AR lo e AE.l).2
        ·exact .inl (.inl Ca)
        ·exact .inr Ca
    ·rw [b6 n h1 h2,kK (by rw [hds];omega),hds];by_cases h3:n<(AR lo e AE.l).1
     ·rw [if_neg Ca,if_neg Ca];rw [if_neg];rintro⟨h5,h6,h7⟩;exact h7 (gb n h5 h3)
     ·by_cases h4:n<(AR lo e AE.l).2
      ·have h5:¬BE n AE.l:=gd hlt n Ca h4;rw [if_neg Ca,if_pos Ca,if_pos ⟨Ca,Ca,h5⟩];simp only [K?];rw [P! Ca,R!];congr 2;omega
      ·have h6:BE n (AE.add (AR lo e AE.l).1 ((AR lo e AE.l).2-1)).l↔BE n AE.l:=by
        rw [a4 n];constructor
        ·rintro(h|h)
         ·omega
         ·exact h
        ·exact .inr
       by_cases h7:(AR lo e AE.l).2≤n∧n<e∧¬BE n AE.l
       ·rw [if_pos ⟨h7.1,h7.2.1,fun h=>h7.2.2 (h6.1 h)⟩,if_pos ⟨Ca,h7.2.1,h7.2.2⟩]
       ·rw [if_neg (fun h=>h7 ⟨h.1,h.2.1,fun g=>h.2.2 (h6.2 g)⟩),if_neg Ca,if_neg];rintro⟨h8,h9,h10⟩;exact h7 ⟨Ca,h9,h10⟩
  ·simp only [hlo,if_false];refine⟨ho,hf,hm,trivial,fun n=>⟨.inl,fun h=>?_⟩,fun n h1 h2=>?_⟩
   ·rcases h with h|h
    ·exact h
    ·omega
   ·rw [if_neg Ca]
structure FY(AG t:Nat)(r:Bf):Prop where
 co:DF r.AE r.high
 cf:r.AE.floor=0
 cm:r.AE.AL=4096
 rh:r.read≤r.high
 hw:r.high≤r.read+AG
 pre:∀n,n<r.read→BE n r.AE.l
 len:r.given=false→r.b.length=r.high-r.read
 rt:r.read≤1024*t
 en:r.end_≤4611686018427387903
 code:r.code≤4611686018427387903
 st:r.state≤2
 On:r.state=2→r.given=true
theorem FY.mono{AG t t':Nat}{r:Bf}(h:FY AG t r)(ht:t≤t'):FY AG t' r:=
 ⟨h.co,h.cf,h.cm,h.rh,h.hw,h.pre,h.len,by have:=h.rt;omega,h.en,h.code,h.st,h.On⟩
def JI(f:AU):Prop:=0≤f.stream∧f.stream<4∧f.code≤4611686018427387903∧f.offset≤4611686018427387903∧(f.kind=5→f.offset+f.data.size≤4611686018427387903)∧(f.kind=3→GW f.ranges)
theorem JI.of{f:AU}(h:B4 f):JI f:=⟨h.2.2.1,h.2.2.2.1,h.2.1,h.1,fun hk=>by have:=h.2.2.2.2.1.2 hk;omega,h.2.2.2.2.1.1⟩
structure GG(r r':Bf):Prop where
 read:r'.read=r.read
 state:r'.state=r.state
 given:r.given=true→r'.given=true
theorem TH(f:AU):f.data.data.toList.length=f.data.size:=rfl
theorem Bf.Uc{AG t:Nat}(r:Bf)(h:FY AG t r)(hwi:AG≤1024)(f:AU)(hg:r.given=false)(hb:f.offset+f.data.size≤r.read+AG):
  DF (r.filled f).2 (max r.high (f.offset+f.data.size))∧(r.filled f).2.floor=0∧(r.filled f).2.AL=4096∧(r.filled f).1.length=max r.high (f.offset+f.data.size)-r.read∧
  (∀n,BE n (r.filled f).2.l↔BE n r.AE.l∨(max f.offset r.read≤n∧n<f.offset+f.data.size))∧
  (∀n,r.read≤n→n<max r.high (f.offset+f.data.size)→(r.filled f).1.getD (n-r.read) 0=if max f.offset r.read≤n∧n<f.offset+f.data.size∧¬BE n r.AE.l then f.data.data.toList.getD (n-f.offset) 0
   else(r.b++J? (max r.high (f.offset+f.data.size)-(r.read+r.b.length)) 0).getD (n-r.read) 0):=by
 have hl:=h.len hg;have hh:=h.hw;have hrh:=h.rh
 have hb0:(r.b++J? (max r.high (f.offset+f.data.size)-(r.read+r.b.length)) 0).length=max r.high (f.offset+f.data.size)-r.read:=by rw [L_,Q!];omega
 obtain⟨a1,a2,a3,a4,a5,a6⟩:=qL (off:=f.offset) (e:=f.offset+f.data.size) (ds:=f.data.data.toList) (read:=r.read) (high:=max r.high (f.offset+f.data.size)) (by rw [TH]) (S_ _ _) Ca (f.offset+f.data.size+1) (max f.offset r.read) _ r.AE (h.co.mono PO) h.cf h.cm h.pre hb0 PO (S_ _ _) Ca
 exact⟨a1,a2,a3,a4.trans hb0,a5,a6⟩
theorem FY.data{AG t:Nat}{r:Bf}(h:FY AG t r)(hwi:AG≤1024)(f:AU)(hf:JI f)(hk:f.kind=5)(hb:r.given=false→f.offset+f.data.size≤r.read+AG):
  FY AG t (r.data f).2∧GG r (r.data f).2:=by
 unfold Bf.data;split
 ·exact⟨h,rfl,rfl,id⟩
 split
 ·exact⟨h,rfl,rfl,id⟩
 ·rename_i hc hg
  have hg':r.given=false:=by simpa using hg
  have hb:=hb hg';have hl:=h.len hg';have hh:=h.hw;have hrh:=h.rh;have hco:DF r.AE (max r.high (f.offset+f.data.size)):=h.co.mono Ca;obtain⟨a1,a2,a3,a4,a5,a6⟩:=r.Uc h hwi f hg' hb;refine⟨⟨a1,a2,a3,T! hrh PO,by show max r.high _≤r.read+AG;omega,fun n hn=>(a5 n).2 (.inl (h.pre n hn)),fun _=>a4,h.rt,?_,h.code,h.st,h.On⟩,rfl,rfl,id⟩;show(if f.fin then f.offset+f.data.size else r.end_)≤_;split
  ·exact hf.2.2.2.2.1 hk
  ·exact h.en
end Go.Proofs.YtgfdlpcdjklcoaaGreatDoor
