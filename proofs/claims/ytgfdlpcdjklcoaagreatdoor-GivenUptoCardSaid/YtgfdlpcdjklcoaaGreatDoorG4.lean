/- A part of this proof: steps of the program, plain facts; no condition. -/
import Derived.Test.YtgfdlpcdjklcoaaGreatDoorGW
import Derived.Test.YtgfdlpcdjklcoaaGreatDoorCards
import Derived.Test.YtgfdlpcdjklcoaaGreatDoorTie
import Derived.ProofKit
import Derived.OpenShut
import Derived.Carry
import Derived.ChangeArms
import Derived.LaidLaws
import Derived.LaidHandle
import Derived.Deep.DeepHandedRow
import Derived.Deep.Slices
namespace Go.Proofs.YtgfdlpcdjklcoaaGreatDoor
open Go Go.RowKit
open _root_.UInt8 renaming ofNat→a_
open _root_.List renaming replicate→b_,mem_cons→d_,getD_eq_getElem?_getD→e_,length_append→f_,foldl_cons→g_,length_drop→j_,range→kf,getElem?_append_right→kg,getElem?_append_left→kh,append_assoc→ki,map_cons→kj,getElem?_eq_getElem→km,getElem?_take_of_lt→kn,length_cons→ko,map_nil→kp,length_replicate→kq,take_append_drop→kr,zipWith_append→kt,mem_singleton→ku,getElem?_drop→kv,length_take→kw,length_map→ky,append_nil→k_,headD_cons→ld
open _root_.Option renaming some→c_
open _root_.Nat renaming zero_le→g',lt_or_ge→i_,le_max_right→kx,le_trans→lf
open _root_.Prod renaming mk→h_
set_option linter.unusedVariables false
set_option maxRecDepth 20000
section
open Go Go.ChangeShapes Go.WideShapes Go.ChangeAt Go.RowKit
set_option linter.unusedVariables false
theorem own:ownKnob Tryz.prog.godebug=none:=by kernel_rfl
theorem lF:laidOutB Tryz.prog=true:=by kernel_rfl
theorem I! :Tryz.prog.globalNamed "errors.errorType" =some 0 :=by kernel_rfl
theorem F? :(Tryz.prog.cutTypes.find? (·.1 == "internal/reflectlite.rtype")).map (·.2) =some 282 :=by kernel_rfl
theorem mP:((kf Tryz.prog.types.size).filter fun t=>Tryz.prog.rowNamed t [101,114,114,111,114])=[106]:=by kernel_rfl
theorem O_{W :World}(h :laidMetH Tryz.prog [("errors.errorType",Rows.laid_errors_errorType)] W) :W.cell? ⟨0,0,none⟩ =some (.iface 282 (.agg #[.pointer (some ⟨1,106,none⟩)])) :=by
 have h' :laidMet Tryz.prog [] W ∧ handlesMet Tryz.prog [("errors.errorType",Rows.laid_errors_errorType)] W :=h;obtain⟨name,u,ty,e1,e2,e3,e4,e5⟩:=h'.2 _ QV;have en:name=[101,114,114,111,114]:=(c_.inj e1).symm;subst en;obtain rfl:=c_.inj (F?.symm.trans e2);have hm:ty∈(kf Tryz.prog.types.size).filter fun t=>Tryz.prog.rowNamed t [101,114,114,111,114]:=List.mem_filter.2 ⟨List.mem_range.2 e3,e4⟩;rw [mP]at hm;obtain rfl:=ku.1 hm
 have hh:typeHandle Tryz.prog 106=.pointer (some ⟨1,106,none⟩):=by kernel_rfl
 rw [hh]at e5;simpa using World.var?_cell I! e5 0
noncomputable def So (os:Os):World:=
 let w0:=World.holding Tryz.prog os ⟨#[],#[],[]⟩
 {w0 with heap:=w0.heap.modify 0 fun
   | .cells _ t frozen=>.cells #[.iface 282 (.agg #[.pointer (some ⟨1,106,none⟩)])] t frozen
   |o=>o}
theorem sU(os :Os)(args :Array Value) :laidMetH Tryz.prog [("errors.errorType",Rows.laid_errors_errorType)] ((So os).forCall (fun _ _ =>0) ⟨#[],args,[]⟩).memory :=
 laidMetH_of_parts (laidMet_nil _ _) Cb
section
variable{H:Type}{At:TypeId×Value→H}{P:Program}
theorem kF(hl:laidOutB P=true){W W':World}(hb:Below W.heap.size W W'):∀(ts:List TypeId) (vs:List Value) (ds:List (DataW H)) (ps:List MemPlace),
  (∀t∈ts,P.readableRec t=true∧t<P.types.size)→DataW.TrodAll At P W 0 (fun _=>true) true ts vs ds ps→(∀x∈ps,x.block<W.heap.size)→∀sp:Nat→Bool,(∀p∈ps,sp p.block=true)→DataW.TrodAll At P W' 0 sp true ts vs ds ps
 |[],[],[],ps,_,h,_,_,_=>h
 |t::ts,v::vs,d::ds,ps,hr,h,hlt,sp,hsp=>by
  obtain⟨p,q,h1,h2,rfl⟩:=h;refine⟨p,q,WideElems.Trod_stays hl (hr t Ce).1 (hr t Ce).2 h1 (fun x hx=>hb.same (hlt x PU)) (fun x hx=>hsp x PU),?_,rfl⟩;exact kF hl hb ts vs ds q (fun t ht=>hr t (by simp [ht])) h2 (fun x hx=>hlt x PU) sp (fun x hx=>hsp x PU)
 |[],v::vs,ds,ps,_,h,_,_,_=>by cases ds<;>exact h.elim
 |[],[],d::ds,ps,_,h,_,_,_=>h.elim
 |t::ts,[],ds,ps,_,h,_,_,_=>by cases ds<;>exact h.elim
 |t::ts,v::vs,[],ps,_,h,_,_,_=>h.elim
theorem zJ{f:Func}{s:ChangeSpec}{apart fresh handsOn again:Bool}{W W':World}{args:Array Value}{v:Value}{ds gs:List (DataW H)}{before:List MemPlace}
  (hl:laidOutB P=true)(hr:∀t∈f.params.toList,P.readableRec t=true∧t<P.types.size)(hvn:s.vars=[])
  (hW:DataW.Whole At P f.params.toList s.vars apart W args.toList ds gs before)(hb:Below W.heap.size W W')(ha:(s.fn H (ds++gs)).args=ds)(hv0:(s.fn H (ds++gs)).vars=[])
  (hres:∀(b:Nat) (sp:Nat→Bool) (hd:Bool),DataW.TrodAll At P W' b sp hd f.resultTypes.toList (v.resultList f.resultTypes.size) (s.fn H (ds++gs)).results [])
  (hok:∀(j:Nat) (t:TypeId) (r:Value),f.resultTypes[j]?=some t→(v.resultList f.resultTypes.size)[j]?=some r→Value.okWide P W' .any 0 t r):
  s.post At P f apart fresh handsOn again W args v W':=by
 have hlt:∀p∈before,p.block<W.heap.size:=fun p hp=>hW.lt p hp;have hW2:=hW;obtain⟨p,q,hA,hV,e,hz,hn⟩:=hW2;rw [hvn]at hV;obtain⟨rfl,rfl⟩:=trodVars_none hV
 obtain rfl:before=p:=by simpa using e
 have hargs:∀sp:Nat→Bool,(∀x∈before,sp x.block=true)→DataW.TrodAll At P W' 0 sp true f.params.toList args.toList (s.fn H (ds++[])).args before:=fun sp hsp=>by
  rw [ha];exact kF hl hb _ _ _ _ hr hA hlt sp hsp
 have hvars:∀sp:Nat→Bool,DataW.TrodVars At P W' sp s.vars (s.fn H (ds++[])).vars []:=fun sp=>by rw [hvn,hv0];rfl
 refine⟨ds,[],before,[],before,[],hW,hres _ _ _,hargs _ (fun x hx=>by simpa using hlt x hx),hvars _,World.keptBut_mono (fun x hx=>⟨hx,.inr (by simpa using hx)⟩) (hb.frame (·∈before)),fun _=>?_⟩;refine⟨hok,_,_,([]++before)++[],⟨[]++before,[],trodAll_append (hargs _ (fun _ _=>rfl)) (hres _ _ _),hvars _,rfl,?_,?_⟩,?_⟩
 ·intro b off hp
  have hp':MemPlace.cell b off∈before:=by simpa using hp
  rw [←hz b off (by simpa using hp')];unfold World.frozen?;rw [hb.block b (hlt _ hp')]
 ·intro hap
  have:=hn hap
  simpa using this
 ·intro x hx _;simpa using hx
theorem Fn.qC{B:World}{f:FuncId}{args:List Value}{Post:Value→HP→Prop}(h:Fn P B f args HP.BN Post):Calls P f args.toArray B fun e W'=>∃v H',e=.returned v∧Post v H'∧Below B.heap.size B W':=
 (h B (Sat.start B)).mono fun e W' ⟨v,H',e1,e2,e3⟩=>⟨v,H',e1,e2,e3.1⟩
variable{w:World}{base:Nat}{spare:Nat→Bool}{held:Bool}{fuel:Nat}{cs:List Value}{x:DataW H×List MemPlace}
end
end
abbrev uN(n:Nat):Value:=.int .u64 (n:Nat)
structure AT where
 lo:Nat
 hi:Nat
 deriving DecidableEq
@[reducible] instance:AC AT:=⟨2,fun r=>[uN r.lo,uN r.hi],⟨0,0⟩,fun _=>rfl,fun _ v h=>by simp at h;rcases h with rfl|rfl<;>rfl⟩
structure AM where
 kind:Int
 stream:Int
 offset:Nat
 code:Nat
 fin:Bool
 data:ByteArray
 ranges:List AT
def rg(rs:List AT)(i:Nat):AT:=rs.getD i ⟨0,0⟩
def AS(n:Nat):List UInt8:=
 if n<64 then [a_ n]
 else if n<16384 then [a_ (n/256+64),a_ n]
 else if n<1073741824 then [a_ (n/16777216+128),a_ (n/65536),a_ (n/256),a_ n]
 else [a_ (n/72057594037927936+192),a_ (n/281474976710656),a_ (n/1099511627776),a_ (n/4294967296),
  a_ (n/16777216),a_ (n/65536),a_ (n/256),a_ n]
theorem C5(n:Nat):(AS n).length≤8:=by
 unfold AS;split
 ·simp
 split
 ·simp
 split<;>simp
def GH(rs:List AT)(i:Nat):Prop:=(rg rs i).lo≤(rg rs i).hi∧(rg rs i).hi≤4611686018427387903∧(i=0∨(2≤(rg rs (i-1)).lo∧(rg rs i).hi+2≤(rg rs (i-1)).lo))
instance(rs:List AT)(i:Nat):Decidable (GH rs i):=by unfold GH;infer_instance
def F8(rs:List AT):Prop:=rs≠ []∧∀i,i<rs.length→GH rs i
instance(rs:List AT):Decidable (F8 rs):=by unfold F8;infer_instance
def H1(f:AM):Prop:=(f.kind=3→F8 f.ranges)∧(f.kind=5→f.data.size+f.offset≤4611686018427387903)
instance(f:AM):Decidable (H1 f):=by unfold H1;infer_instance
def Dr(k:Int):Prop:=1≤k∧k≤6
instance(k:Int):Decidable (Dr k):=by unfold Dr;infer_instance
def CA(f:AM):Prop:=f.offset≤4611686018427387903∧f.code≤4611686018427387903∧0≤f.stream∧f.stream<4∧H1 f∧Dr f.kind
instance(f:AM):Decidable (CA f):=by unfold CA;infer_instance
def B5(rs:List AT):Nat→List UInt8
 |0=>[]
 |k+1=>B5 rs k++AS ((rg rs k).lo-(rg rs (k+1)).hi-2)++AS ((rg rs (k+1)).hi-(rg rs (k+1)).lo)
def Ku(rs:List AT):List UInt8:=[2]++AS (rg rs 0).hi++AS (rs.length-1)++AS ((rg rs 0).hi-(rg rs 0).lo)++B5 rs (rs.length-1)
def Ak(f:AM):List UInt8:=
 if f.kind=1 then [0]else if f.kind=2 then [1]else if f.kind=3 then Ku f.ranges
 else if f.kind=4 then [4]++AS f.stream.toNat++AS f.code++AS f.offset
 else if f.kind=5 then [bif f.fin then 9 else 8]++AS f.stream.toNat++AS f.offset++AS f.data.size++f.data.data.toList
 else [28]++AS f.code
def Ar(fs:List AM):List UInt8:=fs.flatMap Ak
def Fu(fs:List AM):Option (List UInt8):=if fs≠ []∧∀f∈fs,CA f then some (Ar fs)else none
def HF(xs:List UInt8)(a:Nat):Nat:=(xs.getD a 0).toNat
def Ib(xs:List UInt8)(a:Nat):Nat→Nat
 |0=>HF xs a%64
 |k+1=>Ib xs a k*256+HF xs (a+k+1)
theorem Tj(xs:List UInt8)(a:Nat):HF xs a<256:=(xs.getD a 0).toNat_lt
theorem Wn(xs:List UInt8)(a:Nat):∀k,Ib xs a k<64*256^k
 |0=>by simp [Ib];omega
 |k+1=>by
  have h1:=Wn xs a k;have h2:=Tj xs (a+k+1);rw [Ib,Nat.pow_succ];omega
def DJ(xs:List UInt8)(a:Nat):Nat:=2^(HF xs a/64)
theorem Uy(xs:List UInt8)(a:Nat):DJ xs a=1∨DJ xs a=2∨DJ xs a=4∨DJ xs a=8:=by
 have h:=Tj xs a;unfold DJ;rcases(by omega:HF xs a/64=0∨HF xs a/64=1∨HF xs a/64=2∨HF xs a/64=3)with e|e|e|e<;>rw [e]<;>simp
def DP(xs:List UInt8)(a:Nat):Option (Nat×Nat):=
 if a<xs.length∧a+DJ xs a≤xs.length then some (Ib xs a (DJ xs a-1),a+DJ xs a)else none
theorem EK{xs:List UInt8}{a n a':Nat}(h:DP xs a=some (n,a')):n≤4611686018427387903∧a<a'∧a'≤xs.length:=by
 unfold DP at h;split at h
 ·rename_i hc;simp only [c_.injEq,h_.injEq]at h;obtain⟨rfl,rfl⟩:=h;have h1:=Wn xs a (DJ xs a-1);rcases Uy xs a with e|e|e|e<;>rw [e]at h1 hc⊢<;>simp only [Nat.reduceSub]at h1⊢<;>refine⟨?_,?_,?_⟩<;>omega
 ·cases h
def IC(xs:List UInt8)(a:Nat):Option (Nat×Nat):=match DP xs a with
 |some (n,a')=>if n<4 then some (n,a')else none
 |none=>none
def Iz(xs:List UInt8)(a:Nat):Option (List UInt8×Nat):=match DP xs a with
 |some (n,a')=>if n≤xs.length-a' then some ((xs.drop a').take n,a'+n)else none
 |none=>none
def GY(xs:List UInt8):Nat→Nat→Nat→Option (List AT×Nat)
 |0,_,a=>some ([],a)
 |n+1,lo,a=>match DP xs a with
  |some (FA,a1)=>match DP xs a1 with
   |some (size,a2)=>if 2≤lo∧FA+2≤lo∧size+FA+2≤lo then
     match GY xs n (lo-2-FA-size) a2 with
     |some (rs,a3)=>some (⟨lo-2-FA-size,lo-2-FA⟩::rs,a3)
     |none=>none
    else none
   |none=>none
  |none=>none
def GO(xs:List UInt8)(a:Nat):Option (List AT×Nat):=match DP xs a with
 |some (hi,a1)=>match DP xs a1 with
  |some (n,a2)=>match DP xs a2 with
   |some (size,a3)=>if size≤hi then
     match GY xs n (hi-size) a3 with
     |some (rs,a4)=>some (⟨hi-size,hi⟩::rs,a4)
     |none=>none
    else none
   |none=>none
  |none=>none
 |none=>none
def FE(t:UInt8):Nat:=if t=0 then 1 else if t=1 then 2 else if t=2 then 3 else if t=4 then 4 else if t=8∨t=9 then 5 else if t=28 then 6 else 0
def CR(xs:List UInt8)(k:Nat)(fin:Bool)(a:Nat):Option (AM×Nat):=
 if k=1 then some (⟨1,0,0,0,fin,⟨#[]⟩,[]⟩,a)
 else if k=2 then some (⟨2,0,0,0,fin,⟨#[]⟩,[]⟩,a)
 else if k=3 then match GO xs a with
  |some (rs,a1)=>some (⟨3,0,0,0,fin,⟨#[]⟩,rs⟩,a1)
  |none=>none
 else if k=4 then match IC xs a with
  |some (s,a1)=>match DP xs a1 with
   |some (c,a2)=>match DP xs a2 with
    |some (o,a3)=>some (⟨4,s,o,c,fin,⟨#[]⟩,[]⟩,a3)
    |none=>none
   |none=>none
  |none=>none
 else if k=5 then match IC xs a with
  |some (s,a1)=>match DP xs a1 with
   |some (o,a2)=>match Iz xs a2 with
    |some (d,a3)=>some (⟨5,s,o,0,fin,AW d,[]⟩,a3)
    |none=>none
   |none=>none
  |none=>none
 else if k=6 then match DP xs a with
  |some (c,a1)=>some (⟨6,0,0,c,fin,⟨#[]⟩,[]⟩,a1)
  |none=>none
 else none
def GU(xs:List UInt8)(a:Nat):Option (AM×Nat):=
 match CR xs (FE (xs.getD a 0)) (decide (xs.getD a 0=9)) (a+1)with
 |some (f,a')=>if CA f then some (f,a')else none
 |none=>none
def Fq(xs:List UInt8)(a:Nat):Except Nat (List AM):=
 if a<xs.length then
  match GU xs a with
  |some (f,a')=>if h:a<a'∧a<xs.length then match Fq xs a' with
    | .ok l=>.ok (f::l)
    | .error e=>.error e
   else .error a
  |none=>.error a
 else .ok []
 termination_by xs.length-a
 decreasing_by omega
def FN(xs:List UInt8):Except Nat (List AM):=if xs=[]then .error 0 else Fq xs 0
theorem Rk{xs:List UInt8}{a n a':Nat}(h:IC xs a=some (n,a')):n<4∧a<a'∧a'≤xs.length:=by
 unfold IC at h;split at h
 ·rename_i n' a'' e;split at h
  ·simp only [c_.injEq,h_.injEq]at h;obtain⟨rfl,rfl⟩:=h
   have:=EK e
   exact⟨by assumption,this.2⟩
  ·cases h
 ·cases h
theorem UB{xs:List UInt8}{a a':Nat}{d:List UInt8}(h:Iz xs a=some (d,a')):a<a'∧a'≤xs.length∧d.length≤xs.length:=by
 unfold Iz at h;split at h
 ·rename_i n' a'' e;split at h
  ·simp only [c_.injEq,h_.injEq]at h;obtain⟨rfl,rfl⟩:=h
   have:=EK e
   refine⟨Ca,Ca,?_⟩
   simp;omega
  ·cases h
 ·cases h
theorem YF{xs:List UInt8}:∀{n lo a a':Nat} {rs:List AT},GY xs n lo a=some (rs,a')→a≤xs.length→a≤a'∧a'≤xs.length∧rs.length=n∧2*n≤a'-a:=by
 intro n
 induction n with
 |zero=>intro lo a a' rs h ha;simp only [GY,c_.injEq,h_.injEq]at h;obtain⟨rfl,rfl⟩:=h;simp;omega
 |succ n ih=>
  intro lo a a' rs h ha;simp only [GY]at h;split at h
  ·rename_i FA a1 e1;split at h
   ·rename_i size a2 e2;split at h
    ·split at h
     ·rename_i rs' a3 e3;simp only [c_.injEq,h_.injEq]at h;obtain⟨rfl,rfl⟩:=h;have h1:=EK e1;have h2:=EK e2;have h3:=ih e3 Ca;simp only [ko];omega
     ·cases h
    ·cases h
   ·cases h
  ·cases h
theorem Zp{xs:List UInt8}{a a':Nat}{rs:List AT}(h:GO xs a=some (rs,a')):a<a'∧a'≤xs.length∧rs≠ []∧rs.length≤xs.length:=by
 unfold GO at h;split at h
 ·rename_i hi a1 e1;split at h
  ·rename_i n a2 e2;split at h
   ·rename_i size a3 e3;split at h
    ·split at h
     ·rename_i rs' a4 e4;simp only [c_.injEq,h_.injEq]at h;obtain⟨rfl,rfl⟩:=h;have h1:=EK e1;have h2:=EK e2;have h3:=EK e3;have h4:=YF e4 h3.2.2;refine⟨Ca,Ca,Ce,?_⟩;simp only [ko];omega
     ·cases h
    ·cases h
   ·cases h
  ·cases h
 ·cases h
theorem bf{xs:List UInt8}{k a a':Nat}{fin:Bool}{f:AM}(h:CR xs k fin a=some (f,a'))(ha:a≤xs.length):a≤a'∧a'≤xs.length:=by
 unfold CR at h;split at h
 ·simp only [c_.injEq,h_.injEq]at h;obtain⟨-,rfl⟩:=h;omega
 split at h
 ·simp only [c_.injEq,h_.injEq]at h;obtain⟨-,rfl⟩:=h;omega
 split at h
 ·split at h
  ·rename_i e;simp only [c_.injEq,h_.injEq]at h;obtain⟨-,rfl⟩:=h
   have:=Zp e;omega
  ·cases h
 split at h
 ·split at h
  ·rename_i e1;split at h
   ·rename_i e2;split at h
    ·rename_i e3;simp only [c_.injEq,h_.injEq]at h;obtain⟨-,rfl⟩:=h
     have:=Rk e1;have:=EK e2;have:=EK e3;omega
    ·cases h
   ·cases h
  ·cases h
 split at h
 ·split at h
  ·rename_i e1;split at h
   ·rename_i e2;split at h
    ·rename_i e3;simp only [c_.injEq,h_.injEq]at h;obtain⟨-,rfl⟩:=h
     have:=Rk e1;have:=EK e2;have:=UB e3;omega
    ·cases h
   ·cases h
  ·cases h
 split at h
 ·split at h
  ·rename_i e;simp only [c_.injEq,h_.injEq]at h;obtain⟨-,rfl⟩:=h
   have:=EK e;omega
  ·cases h
 ·cases h
theorem XA{xs:List UInt8}{a a':Nat}{f:AM}(h:GU xs a=some (f,a'))(ha:a<xs.length):a<a'∧a'≤xs.length∧CA f:=by
 unfold GU at h;split at h
 ·rename_i e;split at h
  ·simp only [c_.injEq,h_.injEq]at h;obtain⟨rfl,rfl⟩:=h
   have:=bf e Ca
   exact⟨Ca,Ca,by assumption⟩
  ·cases h
 ·cases h
theorem Xt{xs:List UInt8}{a:Nat}(h:¬a<xs.length):Fq xs a=.ok []:=by rw [Fq,if_neg h]
theorem Tf{xs:List UInt8}{a:Nat}(h:a<xs.length)(e:GU xs a=none):Fq xs a=.error a:=by rw [Fq,if_pos h,e]
theorem fD{xs:List UInt8}{a a':Nat}{f:AM}(h:a<xs.length)(e:GU xs a=some (f,a')):Fq xs a=match Fq xs a' with
  | .ok l=>.ok (f::l)
  | .error e=>.error e:=by
 conv=>lhs;rw [Fq]
 rw [if_pos h,e];simp only [];rw [dif_pos ⟨(XA e h).1,h⟩]
structure RF where
 f:AM
 p:Option Addr
 b:Nat
 o:Nat
 c:Nat
 s:List Value
@[reducible] def AQ(r:RF):List Value:=[.int .i64 r.f.kind,.int .i64 r.f.stream,uN r.f.offset,uN r.f.code,.bool r.f.fin,.string r.f.data,.slice r.p r.f.ranges.length r.c]
@[reducible] instance:AC RF:=⟨7,AQ,⟨⟨0,0,0,0,false,⟨#[]⟩,[]⟩,none,0,0,0,[]⟩,fun _=>rfl,fun _ v h=>by
 simp at h;rcases h with rfl|rfl|rfl|rfl|rfl|rfl|rfl<;>rfl⟩
def RF.ok(r:RF):Prop:=Sl r.p r.b r.o r.f.ranges.length r.c
def RF.own(r:RF):Prop:=r.f.ranges.length*2+r.s.length=r.c*2
def GJ(r:RF):HP:=AB r.b r.o r.f.ranges r.s
def CG(rs:List RF):HP:=rs.foldr (fun r H=>GJ r*H) HP.BN
theorem SV:CG []=HP.BN:=rfl
theorem Pz(r:RF)(rs:List RF):CG (r::rs)=GJ r*CG rs:=rfl
theorem oS(rs ts:List RF):CG (rs++ts)=CG rs*CG ts:=by
 induction rs with
 |nil=>rw [List.nil_append,SV,HP.BR]
 |cons r rs ih=>rw [List.cons_append,Pz,Pz,ih,HP.assoc]
theorem yX{r:RF}{rs:List RF}(h:r∈rs):∃X,CG rs=GJ r*X:=by
 induction rs with
 |nil=>cases h
 |cons t rs ih=>
  rcases d_.1 h with rfl|h
  ·exact Bl
  ·obtain⟨X,e⟩:=ih h;exact⟨GJ t*X,by rw [Pz,e,HP.CV]⟩
theorem ZM{B:World}{r:RF}{rs:List RF}(h:r∈rs):Ai B (CG rs) r.b r.o r.f.ranges:=by
 obtain⟨X,e⟩:=yX h;rw [e];show Ai B (AB r.b r.o r.f.ranges r.s*X) r.b r.o r.f.ranges;infer_instance
structure IF(B:World)(H:HP)(p:Option Addr)(c:Nat)(fs:List AM)(b o:Nat)(rs:List RF):Prop where
 sl:Sl p b o fs.length c
 rd:Ai B H b o rs
 map:rs.map (·.f)=fs
 ok:∀r∈rs,r.ok
 Wb:∀r∈rs,Ai B H r.b r.o r.f.ranges
theorem IF.len{B:World}{H:HP}{p:Option Addr}{c:Nat}{fs:List AM}{b o:Nat}{rs:List RF}(h:IF B H p c fs b o rs):rs.length=fs.length:=by rw [←h.map,ky]
theorem IF.right{B:World}{A C:HP}{p:Option Addr}{c:Nat}{fs:List AM}{b o:Nat}{rs:List RF}(h:IF B C p c fs b o rs):IF B (A*C) p c fs b o rs:=
 ⟨h.sl,(let _:=h.rd;inferInstance),h.map,h.ok,fun r hr=>(let _:=h.Wb r hr;inferInstance)⟩
theorem IF.left{B:World}{A C:HP}{p:Option Addr}{c:Nat}{fs:List AM}{b o:Nat}{rs:List RF}(h:IF B A p c fs b o rs):IF B (A*C) p c fs b o rs:=
 ⟨h.sl,(let _:=h.rd;inferInstance),h.map,h.ok,fun r hr=>(let _:=h.Wb r hr;inferInstance)⟩
def Of(R:HP)(fs:List AM)(v:Value)(H':HP):Prop:=
 ∃p b o c s rs,v=.slice p fs.length c∧Sl p b o fs.length c∧fs.length*7+s.length=c*7∧rs.map RF.f=fs∧(∀r∈rs,r.ok∧r.own)∧H'=AB b o rs s*(CG rs*R)
theorem Of.rd{B:World}{R:HP}{p:Option Addr}{b o c:Nat}{s:List Value}{fs:List AM}{rs:List RF}(h1:Sl p b o fs.length c)(h2:rs.map RF.f=fs)(h3:∀r∈rs,r.ok∧r.own):
  IF B (AB b o rs s*(CG rs*R)) p c fs b o rs:=
 ⟨h1,inferInstance,h2,fun r hr=>(h3 r hr).1,fun r hr=>by
  have:=ZM (B:=B) hr
  infer_instance⟩
theorem Of.nil(R:HP):Of R [] (.slice none 0 0) R:=⟨none,0,0,0,[],[],rfl,Gi,rfl,rfl,(fun _ h=>by simp at h),by rw [G7,SV,HP.BR,HP.BR]⟩
section
theorem m7:∀a,a<64→a|||64=a+64:=by decide
theorem u5:∀a,a<64→a|||128=a+128:=by decide
theorem ez:∀a,a<64→a|||192=a+192:=by decide
theorem Qy(k:Nat):u8 (a_ k)=.int .u8 (k%256:Nat):=by rw [u8,UInt8.toNat_ofNat']
theorem Mi(xs:List UInt8):AG xs=xs.map u8:=by
 induction xs with
 |nil=>rfl
 |cons x xs ih=>show [u8 x]++AG xs=_;rw [ih];rfl
theorem tW{n:Nat}(h:n<64):AG (AS n)=[.int .u8 (n%256:Nat)]:=by
 rw [AS,if_pos h,Mi];simp only [kj,kp,Qy]
theorem ah{n:Nat}(h:¬n<64)(h2:n<16384):AG (AS n)=[.int .u8 ((n/2^8%256|||64:Nat)),.int .u8 (n%256:Nat)]:=by
 rw [AS,if_neg h,if_pos h2,Mi];simp only [kj,kp,Qy];rw [show n/2^8%256=n/256 by omega,m7 _ Ca,show(n/256+64)%256=n/256+64 by omega]
theorem oR{n:Nat}(h:¬n<64)(h2:¬n<16384)(h3:n<1073741824):AG (AS n)=[.int .u8 ((n/2^24%256|||128:Nat)),.int .u8 (n/2^16%256:Nat),.int .u8 (n/2^8%256:Nat),.int .u8 (n%256:Nat)]:=by
 rw [AS,if_neg h,if_neg h2,if_pos h3,Mi];simp only [kj,kp,Qy];rw [show n/2^24%256=n/16777216 by omega,u5 _ Ca,show(n/16777216+128)%256=n/16777216+128 by omega]
theorem gv{n:Nat}(h:¬n<64)(h2:¬n<16384)(h3:¬n<1073741824)(h4:n≤4611686018427387903):AG (AS n)=[.int .u8 ((n/2^56%256|||192:Nat)),.int .u8 (n/2^48%256:Nat),.int .u8 (n/2^40%256:Nat),.int .u8 (n/2^32%256:Nat),
  .int .u8 (n/2^24%256:Nat),.int .u8 (n/2^16%256:Nat),.int .u8 (n/2^8%256:Nat),.int .u8 (n%256:Nat)]:=by
 rw [AS,if_neg h,if_neg h2,if_neg h3,Mi];simp only [kj,kp,Qy];rw [show n/2^56%256=n/72057594037927936 by omega,ez _ Ca,show(n/72057594037927936+192)%256=n/72057594037927936+192 by omega]
structure Ec where
 n:Nat
@[reducible] instance:AC Ec:=⟨1,fun x=>[uN x.n],⟨0⟩,fun _=>rfl,fun _ v h=>by rw [ku.1 h];rfl⟩
section
variable{P:Program}{B:World}{n:Nat}{E:A5}{D:B6}{H:HP}{d:Option Tmp}{T T' ty:TypeId}{pos:String}{af:Array Edge}{g:Option (Nat×Bool)}{x y z:Operand}
theorem It{α:Type}[AC α]{b o i:Nat}{xs:List α}[hT:Ep P T (AC.sz α)](hx:ev E x=some (.pointer (some ⟨b,o+i*AC.sz α,none⟩)))(hr:Ai B H b o xs)(hi:i<xs.length):
  Af P B n ⟨d,.load T x,ty,pos,af,g⟩ E H (.agg (AC.At (xs.getD i AC.AK)).toArray):=by
 intro a w he hw
 have h1:(loadCells ⟨b,o+i*AC.sz α,none⟩ (AC.At (xs.getD i AC.AK)).length).run P w=.ok (AC.At (xs.getD i AC.AK)).toArray w:=by
  refine run_loadCells_list w ⟨b,o+i*AC.sz α,none⟩ _ fun j v e=>?_
  have:=hr.get i j v e hi w hw
  by_cases hj:j=0
  ·subst hj;simpa [Addr.add]using this
  ·simpa [Addr.add,hj]using this
 rw [AC.len]at h1;simp [execOp,he.ev hx,Instr.loadAt,Instr.sureAddr,loadVar,hT.get,hT.size,h1]
theorem FQ{α:Type}[AC α]{b o i f:Nat}{xs:List α}{v:Value}[hT:CP P T](hx:ev E x=some (.pointer (some ⟨b,o+i*AC.sz α+f,none⟩)))(hr:Ai B H b o xs)(hv:(AC.At (xs.getD i AC.AK))[f]?=some v)(hi:i<xs.length):
  Af P B n ⟨d,.load T x,ty,pos,af,g⟩ E H v:=by
 intro a w he hw;simp [execOp,he.ev hx,Instr.loadAt,Instr.sureAddr,loadVar,hT.get,hr.get i f v hv hi w hw]
theorem Ai.one{α:Type}[AC α]{b o:Nat}(a:α):Ai B (HP.AA b o (AC.At a)) b o [a]:=by
 have h:Ai B (AB b o [a] []) b o [a]:=inferInstance
 have e:AB b o [a] []=HP.AA b o (AC.At a):=by simp [AB,AG]
 rwa [e]at h
theorem q9{R:HP}{sT xT e by_:Nat}{b o c:Nat}{p:Option Addr}{xs:List UInt8}{s:List Value}{zv:Value}{str:ByteArray}
  [hT:Az P sT (.slice e)][hT2:Az P xT .string][hz:Bp P e 1][hi:FP P e by_][h0:Bb P e zv]
  (hx:ev E x=some (.slice p xs.length c))(hs:Sl p b o xs.length c)(hc:xs.length*1+s.length=c*1)
  (hy:ev E y=some (.string str))(hzc:zv.cells.size=1)
  (hb:(xs.length+str.size)*by_≤140737488355328)(hby:0<by_):
  CU P B n ⟨d,.call ⟨.builtin .append,#[x,y],#[sT,xT]⟩,ty,pos,af,g⟩ E D (AB b o xs s*R) (fun v H'=>CB R (xs++str.data.toList) v H'):=by
 intro a w h1 _ h3 K Q hk
 have hl:str.data.toList.length=str.size:=by rw [Array.length_toList];rfl
 have hf:∀w',Sat B (AB b o xs s*R) w'→(Builtin.firstCells (AC.sz UInt8) str.data.toList.length (.string str)).run P w'=.ok (AG str.data.toList).toArray w':=by
  intro w' _
  have e1:(str.extract 0 str.data.toList.length).data=str.data:=by
   rw [hl]
   have:str.extract 0 str.size=str:=ByteArray.extract_zero_size
   rw [this]
  simp only [Builtin.firstCells,e1,Mi,Sem.run_pure];congr 1;apply Array.toList_inj.1;rw [Array.toList_map]
 obtain⟨v,w',hrun,H',hH,hw'⟩:=Zc (P:=P) (B:=B) (R:=R) (b:=b) (o:=o) (p:=p) (c:=c) (xs:=xs) (ys:=str.data.toList) (s:=s) (sT:=sT) (xT:=xT) (ats:= #[sT,xT]) (e:=e) (by_:=by_) (ty:=ty) (x:=.string str) (w:=w) (z:=zv) hT.get rfl rfl (fun k h=>by rw [hT2.get]at h;cases h) ⟨_,hT2.get⟩ hz.get hi.get h0.get hzc hs hc Cx (fun w2 hw2=>hf w2 hw2) (by rw [hl];exact hb) hby h3
 have hrun2:(execOp a.eval ⟨d,.call ⟨.builtin .append,#[x,y],#[sT,xT]⟩,ty,pos,af,g⟩).run P w=.ok (.value v) w':=by
  simp [execOp,resolve,h1.ev hx,h1.ev hy,invoke,builtin,hrun]
 simp only [Oper.wp,hrun2,Oper.upon];exact hk v H' w' hH hw'
theorem Oo{b o i:Nat}{xs:List AT}[hT:Ep P T 2](hx:ev E x=some (.pointer (some ⟨b,o+i*2,none⟩)))(hr:Ai B H b o xs)(hi:i<xs.length):
  Af P B n ⟨d,.load T x,ty,pos,af,g⟩ E H (.agg #[uN (rg xs i).lo,uN (rg xs i).hi]):=It (hT:=hT) hx hr hi
theorem Sd{b o i:Nat}{xs:List AT}[hT:CP P T](hx:ev E x=some (.pointer (some ⟨b,o+i*2+0,none⟩)))(hr:Ai B H b o xs)(hi:i<xs.length):
  Af P B n ⟨d,.load T x,ty,pos,af,g⟩ E H (uN (rg xs i).lo):=FQ (f:=0) hx hr rfl hi
theorem RH{b o i:Nat}{xs:List AT}[hT:CP P T](hx:ev E x=some (.pointer (some ⟨b,o+i*2+1,none⟩)))(hr:Ai B H b o xs)(hi:i<xs.length):
  Af P B n ⟨d,.load T x,ty,pos,af,g⟩ E H (uN (rg xs i).hi):=FQ (f:=1) hx hr rfl hi
theorem Hf{p:Option Addr}{b o k c i sz q:Nat}{e:TypeId}{ik:IntKind}[hT:Az P T (.slice e)][hz:Bp P e sz](hx:ev E x=some (.slice p k c))
  (hy:ev E y=some (.int ik i))(hs:Sl p b o k c)(h:i<k)(hq:o+i*sz=q):Af P B n ⟨d,.indexAddr T x y,ty,pos,af,g⟩ E H (.pointer (some ⟨b,q,none⟩)):=hq▸DT hx hy hs h
theorem cF(pre:List UInt8)(rs:List AT)(i:Nat):pre++B5 rs i++AS ((rg rs i).lo-(rg rs (i+1)).hi-2)++AS ((rg rs (i+1)).hi-(rg rs (i+1)).lo)=pre++B5 rs (i+1):=by
 simp only [B5,ki]
theorem QU(rs:List AT):∀i,(B5 rs i).length≤16*i
 |0=>by simp [B5]
 |i+1=>by
  have:=QU rs i
  have h1:=C5 ((rg rs i).lo-(rg rs (i+1)).hi-2);have h2:=C5 ((rg rs (i+1)).hi-(rg rs (i+1)).lo);simp only [B5,f_];omega
theorem U? {b o i:Nat}{xs:List Ec}[hT:CP P T](hx:ev E x=some (.pointer (some ⟨b,o+i*1,none⟩)))(hr:Ai B H b o xs)(hi:i<xs.length):
  Af P B n ⟨d,.load T x,ty,pos,af,g⟩ E H (uN (xs.getD i ⟨0⟩).n):=FQ (f:=0) hx hr rfl hi
end
end
section
section
variable{H:Type}{At:TypeId×Value→H}
theorem uU(d:DataW H):1≤Rows.uptoBulk d:=by
 cases d with
 |lit l=>cases l<;>simp [Rows.uptoBulk]
 |nil=>simp [Rows.uptoBulk]
 |ptr d=>simp [Rows.uptoBulk]
 |slice elems spare=>simp [Rows.uptoBulk]
 |agg parts=>simp [Rows.uptoBulk]
 |iface t d=>simp [Rows.uptoBulk]
 |map entries=>simp [Rows.uptoBulk]
 |held h=>simp [Rows.uptoBulk]
theorem oG(l:List (DataW H)):l.length≤Rows.uptoBulkAll l:=by
 induction l with
 |nil=>simp [Rows.uptoBulkAll]
 |cons x r ih=>have:=uU x;simp only [Rows.uptoBulkAll,ko];omega
theorem bW{d:DataW H}{l:List (DataW H)}(h:d∈l):Rows.uptoBulk d≤Rows.uptoBulkAll l:=by
 induction l with
 |nil=>cases h
 |cons x r ih=>
  simp only [Rows.uptoBulkAll];rcases d_.1 h with rfl|e
  ·omega
  ·have:=ih e;omega
theorem iX{α:Type}[AC α]{W:World}{H':HP}{b o:Nat}{xs:List α}(h:∀i f v,(AC.At (xs.getD i AC.AK))[f]?=some v→i<xs.length→W.cell? ⟨b,o+i*AC.sz α+f,none⟩=some v):Ai W H' b o xs:=
 ⟨fun i f v e hi w hw=>(Xv (h i f v e hi)).get w hw trivial⟩
instance:Inhabited RF:=⟨AC.AK⟩
instance:Inhabited AT:=⟨⟨0,0⟩⟩
theorem ig{α:Type}[AC α](X:Nat→α){len i:Nat}(hi:i<len):((kf len).map X).getD i AC.AK=X i:=by
 simp [List.getD,List.getElem?_map,List.getElem?_range hi]
theorem qJ{P:Program}{W:World}{α:Type}[AC α][Inhabited α]{t e fuel:Nat}{cs:List Value}{x:DataW H×List MemPlace}(Q:α→DataW H→Prop)(ht:P.underlying t=some (.slice e))(hc:P.cellsOf e=AC.sz α)(hsz:0<AC.sz α)
  (hopen:∀n cs' y,DataW.trod At P W 0 (fun _=>true) true n e cs'=some y→∃a:α,cs'=AC.At a∧Q a y.1)(h:DataW.trod At P W 0 (fun _=>true) true fuel t cs=some x):
  ∃(p:Option Addr) (b o c len:Nat) (X:Nat→α),cs=[.slice p len c]∧Sl p b o len c∧(∀H',Ai W H' b o ((kf len).map X))∧
   ((len=0∧x.1=.nil)∨∃(D:Nat→DataW H) (sp:List (DataW H)),x.1=.slice ((kf len).map D) sp∧∀i,i<len→Q (X i) (D i)):=by
 rcases Go.Deep.open_slice ht h with⟨rfl,rfl⟩|⟨a,len,cap,m,n,D,Pl,rfl,hb,hl,hm,hmm,rfl,hx⟩
 ·exact⟨none,0,0,0,0,fun _=>default,rfl,Gi,fun H'=>iX (fun i f v _ hi=>by simp at hi),.inl BY⟩
 ·obtain rfl:m=cap:=by simpa using hmm
  obtain⟨X,hX⟩:=Go.Deep.choose_lt (α:=α) (n:=m) (p:=fun i a'=>W.cells? 0 (a.add (i*AC.sz α)) (AC.sz α)=some (AC.At a')∧Q a' (D i)) (fun i hi=>by
   obtain⟨cs',h1,h2⟩:=hx i hi
   obtain⟨a',e1,e2⟩:=hopen n cs' _ h2
   rw [hc]at h1
   exact⟨a',by rw [h1,e1],e2⟩)
  have hcell:∀i f v,i<m→(AC.At (X i))[f]?=some v→W.cell? (a.add (i*AC.sz α+f))=some v:=by
   intro i f v hi hv;obtain⟨_,_,h3⟩:=World.cells?_some (hX i hi).1
   have hf:f<AC.sz α:=by
    have:=(List.getElem?_eq_some_iff.1 hv).1
    rwa [AC.len]at this
   rw [←Go.Deep.add_add,h3 f hf,hv]
  have hspot:0<m→a.spot=none:=by
   intro h0
   have h1:0<(AC.At (X 0)).length:=by rw [AC.len];exact hsz
   have h2:=hcell 0 0 ((AC.At (X 0))[0]) h0 (km h1);simp only [Nat.zero_mul,Nat.zero_add,Addr.add,if_true]at h2;unfold World.cell? at h2;split at h2
   ·split at h2
    ·cases h2
    ·rename_i hs
     cases hsp:a.spot with
     |none=>rfl
     |some z=>rw [hsp]at hs;exact absurd rfl hs
   ·cases h2
  refine⟨some a,a.block,a.off,m,len,X,rfl,⟨?_,hl⟩,fun H'=>iX fun i f v hv hi=>?_,.inr ⟨D,_,rfl,fun i hi=>(hX i Ca).2⟩⟩
  ·rcases Nat.eq_zero_or_pos m with h0|h0
   ·exact .inl h0
   ·refine .inr ?_
    have:=hspot h0
    obtain⟨bk,of,sp⟩:=a;obtain rfl:sp=none:=this;rfl
  ·rw [ky,List.length_range]at hi;rw [ig X hi]at hv
   have:=hcell i f v Ca hv
   have hs:=hspot Ca;obtain⟨bk,of,sp⟩:=a;obtain rfl:sp=none:=hs
   have e:(⟨bk,of,none⟩:Addr).add (i*AC.sz α+f)=⟨bk,of+i*AC.sz α+f,none⟩:=by
    unfold Addr.add;split
    ·congr 1;omega
    ·show(⟨bk,of+(i*AC.sz α+f),none⟩:Addr)=_;congr 1;omega
   rwa [e]at this
theorem xD{P:Program}{W:World}{r:Reach}{base:Nat}{t e:TypeId}{v:Value}(ht:P.underlying t=some (.slice e))(h:Value.okWide P W r base t v):∃p k c,v=.slice p k c:=by
 simp only [Value.okWide,ht,Cell.okWide]at h;cases v<;>simp [Cell.ok,ht]at h;exact⟨_,_,_,rfl⟩
end
end
section
variable{B:World}
theorem Oc(x:UInt64)(k:Nat)(hk:0<k∧k<64)(H:HP):Fn Tryz.prog B 227 [u64 x,iN k] H (fun v H'=>v=u64 (MB x k)∧H'=H):=by
 refine mI Tryz.func227 ?_
 have h63:k&&&63=k:=by rw [Nat.and_two_pow_sub_one_eq_mod k 6];omega
 refine J2 ?_;refine HE ?_;refine J5 ?_;refine JL Fy ?_;refine JL (tK (j:=63) rfl rfl (by constructor<;>first|omega|exact Nat.lt_of_le_of_lt (Nat.div_le_self ..) Ca)) ?_;refine J7 ?_;refine JL (UT rfl rfl Ca) ?_;refine J2 ?_;refine JL (K3 (i:=64) rfl rfl Ca) ?_;refine JL (KK rfl rfl Ca) ?_;refine JL (Va rfl rfl) ?_;refine J4 ?_;exact mr [4] rfl rfl ⟨by simp only [h63];rfl,rfl⟩
set_option maxHeartbeats 1000000 in
theorem jI(b k:Nat)(hk:k<1000)(v:S4)(R:HP):Fn Tryz.prog B 224 [ptr b 0,iN k] (HP.AA b 0 (s4 v)*R) (fun r H'=>r=.tuple #[]∧H'=HP.AA b 0 (s4 (KT k v))*R):=by
 refine mI Tryz.func224 ?_;refine J3 ?_;refine HQ ?_;refine Bj (fun j:Nat=>[(0,ptr b 0),(4,iN k),(5,iN j)]) (fun j=>HP.AA b 0 (s4 (KT j v))*R) (fun j=>j≤k) (fun j=>k-j) 0 EX Ea rfl ?_;intro j hj;refine J6 ?_;refine mC (fun hc=>?_) (fun hc=>?_)
 ·refine J5 ?_;refine SL ?_;refine JT 2 rfl II ?_;refine QO ?_;refine JT 6 rfl Le ?_;refine Rt ?_;refine JT 10 rfl II ?_;refine RT ?_;refine JT 3 rfl Le ?_;refine Rs ?_;refine JT 8 rfl II ?_;refine Jd 9 ?_;refine Jn 11 ?_;refine Av 5 Cb rfl rfl (BS rfl (Oc _ 13 Cc _)) ?_;refine Pk ?_;refine JT 12 rfl Le ?_;refine O6 ?_;refine Kf ?_;refine mA 8 9 ?_;refine El ?_;refine Ob ?_;refine JT 3 rfl II ?_
  refine eS ?_;refine JT 7 rfl II ?_;refine Dx 8 Cb rfl FL ?_;refine Kf ?_;refine SL ?_;refine JT 2 rfl IM ?_;refine QO ?_;refine JT 6 rfl I9 ?_;refine Rt ?_;refine JT 10 rfl IM ?_;refine RT ?_;refine JT 3 rfl I9 ?_;refine Rs ?_;refine JT 8 rfl IM ?_;refine Jd 9 ?_;refine Jn 11 ?_;refine Av 5 Cb rfl rfl (BS rfl (Oc _ 16 Cc _)) ?_;refine Pk ?_
  refine JT 12 rfl I9 ?_;refine O6 ?_;refine Kf ?_;refine SL ?_;refine JT 2 rfl II ?_;refine QO ?_;refine JT 6 rfl I9 ?_;refine Rt ?_;refine JT 10 rfl II ?_;refine RT ?_;refine JT 3 rfl I9 ?_;refine Rs ?_;refine JT 8 rfl II ?_;refine Jd 9 ?_;refine Jn 11 ?_;refine Av 5 Cb rfl rfl (BS rfl (Oc _ 21 Cc _)) ?_;refine Pk ?_;refine JT 12 rfl I9 ?_;refine O6 ?_;refine JR ?_
  refine Dc ?_;refine Dm ?_;refine SL ?_;refine JT 2 rfl IM ?_;refine QO ?_;refine JT 6 rfl Le ?_;refine Rt ?_;refine JT 10 rfl IM ?_;refine RT ?_;refine JT 3 rfl Le ?_;refine Rs ?_;refine JT 8 rfl IM ?_;refine Jd 9 ?_;refine Jn 11 ?_;refine Av 5 Cb rfl rfl (BS rfl (Oc _ 17 Cc _)) ?_;refine Pk ?_;refine JT 12 rfl Le ?_;refine O6 ?_;refine Dh ?_;refine J1 ?_;refine mA 8 9 ?_;refine El ?_;refine Ob ?_
  refine JT 3 rfl IM ?_;refine eS ?_;refine JT 7 rfl IM ?_;refine Dx 8 Cb rfl FL ?_;refine Dh ?_;refine J3 ?_;refine D7 ?_;exact Ba (j+1) Ca Ca Ea (by rw [r5];rfl)
 obtain rfl:j=k:=by omega
 refine J4 ?_;exact Pd (ts:=[]) rfl rfl BY
theorem Q4(p:Option Addr)(b o c:Nat)(xs:List UInt8)(H:HP)(hs:Sl p b o xs.length c)(hr:Ai B H b o xs)(h8:8≤xs.length):
  Fn Tryz.prog B 222 [.slice p xs.length c] H (fun v H'=>v=u64 (le xs 8)∧H'=H):=by
 refine mI Tryz.func222 ?_;have ir:=WO (B:=B) hr;have hlen:=hs.2;refine OU ?_;refine JL (Sf (h:=8) rfl rfl Ca) ?_;refine Kg ?_;refine Bj (fun j:Nat=>[(2,u64 (le xs j)),(6,.slice p 8 c),(7,iN 8),(8,iN j)]) (fun _=>H) (fun j=>j≤8) (fun j=>8-j) 0 EX DN rfl ?_;intro j hj;refine J6 ?_;refine mC (fun hc=>?_) (fun hc=>?_)
 ·refine J7 ?_;refine JL (DT rfl rfl (b:=b) (o:=o) ⟨hs.1,Ca⟩ Ca) ?_;refine J8 ?_;refine JL (Z2 rfl) ?_;refine J1 ?_;refine JL (hB (i:=8) rfl rfl Ca) ?_;refine JL (UT rfl rfl Ca) ?_;refine JL (Va rfl rfl) ?_;refine J5 ?_;refine D7 ?_;exact Ba (j+1) Ca Ca DN rfl
 obtain rfl:j=8:=by omega
 refine DV ?_;exact Lo
def Od(m:UInt64)(v:S4):S4:=
 let v:=KT 2 {v with d:=v.d ^^^m}
 {v with a:=v.a ^^^m}
theorem f0(b:Nat)(v:S4)(m:UInt64)(R:HP):Fn Tryz.prog B 223 [u64 m,ptr b 0] (HP.AA b 0 (s4 v)*R) (fun r H'=>r=.tuple #[]∧H'=HP.AA b 0 (s4 (Od m v))*R):=by
 refine mI Tryz.func223 ?_;refine J2 ?_;refine JL I9 ?_;refine J2 ?_;refine JL NE ?_;refine JL I9 ?_;refine J5 ?_;refine mE rfl (jI b 2 Cc ⟨v.a,v.b,v.c,v.d ^^^m⟩ R) ?_;refine Gr ?_;refine JL II ?_;refine J2 ?_;refine JL NE ?_;refine JL II ?_;refine J2 ?_;exact Pd (ts:=[]) rfl rfl BY
def Nj(ks:List UInt8):S4:=⟨le ks 8 ^^^8317987319222330741,le (ks.drop 8) 8 ^^^7237128888997146477,le ks 8 ^^^7816392313619706465,le (ks.drop 8) 8 ^^^8387220255154660723⟩
def Mt(xs:List UInt8):Nat→S4→S4
 |0,v=>v
 |k+1,v=>Od (le (xs.drop (8*k)) 8) (Mt xs k v)
def MJ(ys:List UInt8):List UInt8:=ys++b_ (8-ys.length) 0
def Kn(xs:List UInt8):List UInt8:=(MJ (xs.drop (8*(xs.length/8)))).set 7 (a_ xs.length)
def PL(ks xs:List UInt8):UInt64:=
 let v:=Od (le (Kn xs) 8) (Mt xs (xs.length/8) (Nj ks))
 let v:=KT 4 {v with c:=v.c ^^^255}
 v.a ^^^v.b ^^^v.c ^^^v.d
theorem lZ(ys:List UInt8)(h:ys.length<8):AG (ys.take (min ys.length 7))++([.int .u8 0,.int .u8 0,.int .u8 0,.int .u8 0,.int .u8 0,.int .u8 0,.int .u8 0,.int .u8 0]:List Value).drop (min ys.length 7*1)=AG (MJ ys):=by
 rw [show min ys.length 7=ys.length by omega,List.take_length,MJ,E7];congr 1;rw [Nat.mul_one]
 have:ys.length=0∨ys.length=1∨ys.length=2∨ys.length=3∨ys.length=4∨ys.length=5∨ys.length=6∨ys.length=7:=by omega
 rcases this with h|h|h|h|h|h|h|h<;>rw [h]<;>rfl
set_option maxHeartbeats 1000000 in
theorem ZD(ks xs:List UInt8)(p:Option Addr)(b o c:Nat)(H:HP)(hk:ks.length=16)(hs:Sl p b o xs.length c)(hr:Ai B H b o xs)(hx:xs.length<100000000):
  Fn Tryz.prog B 207 [.agg (AG ks).toArray,.slice p xs.length c] H (fun v H'=>v=u64 (PL ks xs)∧H'=H):=by
 refine mI Tryz.func207 ?_;refine J2 ?_;refine KQ ?_;rintro _ _ ⟨b2,rfl,rfl⟩;refine HE ?_;refine J3 ?_
 have hs8:Sl (sp (some ⟨b2,0,none⟩) 16 8 1) b2 (0+8*1) (ks.drop 8).length (16-8):=by
  rw [show(ks.drop 8).length=16-8 by simp;omega];exact Ln (k:=16) ⟨.inr rfl,Ca⟩ Ca Ca
 refine mA 3 6 ?_;refine JT 0 rfl (RU (k:=ks.length) rfl hk) ?_;refine JT 2 rfl (fk (l:=8) (k:=(ks.drop 8).length) rfl rfl Ca Cl) ?_;refine Av 1 Cb rfl rfl (BS rfl (Q4 _ b2 0 16 ks _ ⟨.inr rfl,Ca⟩ inferInstance Ca)) ?_;refine Fm ?_;refine Av 3 Cb rfl rfl (BS rfl (Q4 _ b2 (0+8*1) (16-8) (ks.drop 8) _ hs8 inferInstance Cl)) ?_;refine JR ?_;refine Dc ?_;refine Ei 4 Cb rfl rfl F7 EY ?_;refine Ei 5 Cb rfl rfl F7 EY ?_;refine K8 ?_;refine JL (M7 (b:=8317987319222330741) rfl rfl) ?_;refine J1 ?_;refine JL (M7 (b:=7237128888997146477) rfl rfl) ?_;refine J1 ?_;refine JL (M7 (b:=7816392313619706465) rfl rfl) ?_;refine J1 ?_;refine JL (M7 (b:=8387220255154660723) rfl rfl) ?_;refine JL (YG rfl rfl Cf) ?_;refine Am (Fj (l:=[_,_,_,_]) rfl) rfl ?_;rintro _ _ ⟨b7,rfl,rfl⟩;refine Gc ?_;refine J4 ?_;refine JL GW ?_;refine DV ?_
 refine Bj (α:=Nat×Option Addr×Nat) (fun z=>[(1,.slice z.2.1 (xs.drop (8*z.1)).length z.2.2),(7,ptr b7 0),(8,.func (.func 223) #[] #[ptr b7 0]),(9,iN xs.length)]) (fun z=>HP.AA b7 0 (s4 (Mt xs z.1 (Nj ks)))*(HP.AA b2 0 (AG ks)*H)) (fun z=>8*z.1≤xs.length∧Sl z.2.1 b (o+8*z.1) (xs.drop (8*z.1)).length z.2.2) (fun z=>xs.length-8*z.1) (0,p,c) ⟨g' _,hs⟩
  DN rfl ?_
 rintro⟨k,q,c'⟩ ⟨hk8,hz⟩;dsimp only at hk8 hz⊢;have hrk:=hr.bd (8*k)
 have hlk:(xs.drop (8*k)).length=xs.length-8*k:=by simp
 refine J5 ?_;refine JL (Vn (j:=8) rfl rfl) ?_;refine J2 ?_;refine mC (fun hc=>?_) (fun hc=>?_)
 ·refine J7 ?_;refine mE rfl (Q4 _ b (o+8*k) c' (xs.drop (8*k)) _ hz inferInstance Ca) ?_;refine JR ?_;refine Am Yd rfl ?_;refine Kc ?_;refine JL (Ps (l:=8) (k':=(xs.drop (8*(k+1))).length) rfl rfl Ca Cl) ?_;refine J2 ?_;have h1:=Ln (sz:=1) (l:=8) (h:=(xs.drop (8*k)).length) hz Ca hz.2
  exact Ba (k+1,sp q c' 8 1,c'-8) ⟨Ca,by
   rw [show o+8*(k+1)=o+8*k+8*1 by omega,show(xs.drop (8*(k+1))).length=(xs.drop (8*k)).length-8 by simp;omega];exact h1⟩ (by show xs.length-8*(k+1)<xs.length-8*k;omega) DN rfl
 obtain rfl:k=xs.length/8:=by omega
 have hlt:(xs.drop (8*(xs.length/8))).length<8:=by omega
 refine J7 ?_;refine Am Ri rfl ?_;rintro _ _ ⟨b10,rfl,rfl⟩;refine J4 ?_;refine JL (nO (h:=7) rfl rfl Ca) ?_;refine J1 ?_;refine Am (jM (b:=b10) (o:=0) (bb:=b) (oo:=o+8*(xs.length/8)) (ys:=xs.drop (8*(xs.length/8))) rfl ⟨.inr rfl,Ca⟩ rfl hz inferInstance Cc) rfl ?_;refine JR ?_;refine BQ (H':=AB b10 0 (MJ (xs.drop (8*(xs.length/8)))) []*(HP.AA b7 0 (s4 (Mt xs (xs.length/8) (Nj ks)))*(HP.AA b2 0 (AG ks)*H))) (by unfold AB;rw [k_,←lZ _ hlt];rfl) ?_
 have hp8:(MJ (xs.drop (8*(xs.length/8)))).length=8:=by simp only [MJ,f_,kq];omega
 refine J5 ?_;refine JL (dU rfl) ?_;refine JL (Nw (i:=7) rfl rfl Ca) ?_;refine Bv (Ez rfl rfl rfl Ca) ?_;refine Kc ?_;refine JL (RU (k:=(Kn xs).length) rfl Uh) ?_;refine mE rfl (Q4 _ b10 0 8 (Kn xs) _ ⟨.inr rfl,Uh⟩ (inferInstance:Ai B (AB b10 0 (Kn xs) []*_) b10 0 (Kn xs)) Uh) ?_;refine JR ?_;refine Qx ?_;refine Am Yd rfl ?_;refine Fg ?_;refine JL IM ?_;refine J1 ?_;refine JL (M7 (b:=255) rfl rfl) ?_;refine JL IM ?_;refine J5 ?_;refine mE rfl (jI b7 4 Cc {Od (le (Kn xs) 8) (Mt xs (xs.length/8) (Nj ks))with c:=(Od (le (Kn xs) 8) (Mt xs (xs.length/8) (Nj ks))).c ^^^255} _) ?_;refine Fg ?_;refine JL II ?_;refine J1 ?_;refine JL Le ?_;refine J1 ?_;refine JL NE ?_;refine JL IM ?_;refine J1 ?_;refine JL NE ?_;refine JL I9 ?_;refine J1 ?_
 refine JL NE ?_;refine J4 ?_;exact mR [4] H rfl rfl BY
end
section
variable{B:World}
def EL(n:UInt64):List UInt8:=[(n>>> 56).toUInt8,(n>>> 48).toUInt8,(n>>> 40).toUInt8,(n>>> 32).toUInt8,(n>>> 24).toUInt8,(n>>> 16).toUInt8,(n>>> 8).toUInt8,n.toUInt8]
theorem WX(n:UInt64)(p:Option Addr)(b o c:Nat)(xs:List UInt8)(s:List Value)(R:HP)(hs:Sl p b o xs.length c)(hc:xs.length*1+s.length=c*1)(hx:xs.length<100000000):
  Fn Tryz.prog B 172 [.slice p xs.length c,u64 n] (AB b o xs s*R) (fun v H'=>CB R (xs++EL n) v H'):=by
 refine mI Tryz.func172 ?_;refine J9 ?_;refine JL (KK (j:=56) rfl rfl Ca) ?_;refine L8 ?_;refine JL (KK (j:=48) rfl rfl Ca) ?_;refine L8 ?_;refine JL (KK (j:=40) rfl rfl Ca) ?_;refine L8 ?_;refine JL (KK (j:=32) rfl rfl Ca) ?_;refine L8 ?_;refine JL (KK (j:=24) rfl rfl Ca) ?_;refine L8 ?_;refine JL (KK (j:=16) rfl rfl Ca) ?_;refine L8 ?_;refine JL (KK (j:=8) rfl rfl Ca) ?_;refine L8 ?_;refine JL lA ?_;refine LF ?_;rintro _ _ ⟨b29,rfl,rfl⟩;refine BQ (H':=AB b o xs s*(HP.AA b29 0 (AG (EL n))*R)) MP ?_;refine Am (DG (ys:=EL n) (bb:=b29) (oo:=0) rfl hs hc rfl CS inferInstance rfl TA Ca) rfl ?_;rintro _ _ ⟨q,b',o',c',s',rfl,h1,h2,rfl⟩;refine J4 ?_;exact mR [4] (AB b' o' (xs++EL n) s'*R) rfl rfl ⟨q,b',o',c',s',rfl,h1,h2,rfl⟩
theorem Sm(n:UInt64)(R:HP):Fn Tryz.prog B 172 [.slice none 0 0,u64 n] R (fun v H'=>CB R (EL n) v H'):=by
 have h:=WX (B:=B) n none 0 0 0 [] [] R Gi rfl Ce;rw [G7,HP.BR]at h;exact h
def Ae(first:Bool):UInt8:=bif first then 0 else 1
theorem Gk{ks:List UInt8}(hk:ks.length=16):(AG ks).length=16:=by rw [By,hk];rfl
theorem Ub(ks:List UInt8)(hk:ks.length=16)(first:Bool)(H:HP):
  Fn Tryz.prog B 75 [.agg (AG ks).toArray,.bool first] H (fun v H'=>v=.agg (AG ks++[u8 (Ae first)]).toArray∧H'=H):=by
 refine mI Tryz.func75 ?_;refine J2 ?_;refine KQ ?_;rintro _ _ ⟨b2,rfl,rfl⟩;refine Am (Fj (l:=[_,_,_,_,_,_,_,_,_,_,_,_,_,_,_,_,_]) rfl) rfl ?_;rintro _ _ ⟨b4,rfl,rfl⟩;refine J8 ?_;refine mc (fun hc=>?_) (fun hc=>?_)
 ·subst hc;refine J2 ?_;refine JL Oa ?_;refine JL (Q5 (cs:=AG ks++[u8 0]) rfl (JJ [] (b_ 16 (u8 0)) [u8 0] (AG ks) Nl rfl Nl rfl RB)) ?_;refine Bv (EO rfl rfl W7 jG) ?_;refine Fg ?_;exact NA H rfl (Io (NS rfl (by simp [Gk hk])) KE) BY
 subst hc;refine J4 ?_;refine JL Oa ?_;refine JL (Q5 (cs:=AG ks++[u8 1]) rfl (JJ [] (b_ 16 (u8 0)) [u8 0] (AG ks) Nl rfl Nl rfl (JJ (AG ks) [u8 0] [] [u8 1] Nl Ce rfl rfl (by simp only [k_];exact RB)))) ?_;refine Bv (EO rfl rfl W7 jG) ?_;refine Gr ?_;exact NA H rfl (Io (NS rfl (by simp [Gk hk])) KE) BY
theorem ia(ks:List UInt8)(side:UInt8)(number:UInt64)(H:HP):
  Fn Tryz.prog B 206 [.agg (AG ks++[u8 side]).toArray,u64 number] H (fun v H'=>∃b2 b3,v=.func (.func 221) #[] #[ptr b2 0,ptr b3 0]∧H'=HP.AA b3 0 [u64 number]*(HP.AA b2 0 (AG ks++[u8 side])*H)):=by
 refine mI Tryz.func206 ?_;refine OS ?_;rintro _ _ ⟨b2,rfl,rfl⟩;refine Am (Dn (l:=[u64 number]) rfl rfl) rfl ?_;rintro _ _ ⟨b3,rfl,rfl⟩;refine J5 ?_;refine JL GW ?_;refine J4 ?_;exact mr [4] rfl rfl ⟨b2,b3,rfl,rfl⟩
def Gb(side kind:UInt8)(n:UInt64):List UInt8:=[side,kind]++EL n
def Ki(ks:List UInt8)(side:UInt8)(n:UInt64)(k:Nat):List UInt8:=EL (PL ks (Gb side 1 n++[a_ k]))
def SP(ks:List UInt8)(side:UInt8)(n:UInt64)(i:Nat):UInt8:=(Ki ks side n (i/8)).getD (i%8) 0
def Ed(ks:List UInt8)(side:UInt8)(n:UInt64)(m:Nat):List UInt8:=(kf m).map (SP ks side n)
theorem tU(ks:List UInt8)(side:UInt8)(n:UInt64)(k j:Nat)(h:j<8):SP ks side n (8*k+j)=(Ki ks side n k).getD j 0:=by
 rw [SP,show(8*k+j)/8=k by omega,show(8*k+j)%8=j by omega]
theorem NI(ks:List UInt8)(side:UInt8)(n:UInt64)(m:Nat):(Ed ks side n m).length=m:=by simp [Ed]
theorem ae(ks:List UInt8)(side:UInt8)(n:UInt64)(m:Nat):Ed ks side n m++[SP ks side n m]=Ed ks side n (m+1):=by simp [Ed,List.range_succ]
theorem VA(n:UInt64):(EL n).length=8:=rfl
set_option maxHeartbeats 1000000 in
theorem r4(ks:List UInt8)(hk:ks.length=16)(side:UInt8)(number:UInt64)(N:Nat)(hN:0<N∧N<100000000)(b2 b3:Nat)(R:HP):
  NW Tryz.prog B 221 [ptr b2 0,ptr b3 0] u8 (fun _=>False) (fun pre=>pre=Ed ks side number pre.length∧pre.length≤N) (fun pre=>pre.length<N)
   (HP.AA b2 0 (AG ks)*(HP.AA b2 (0+16) [u8 side]*(HP.AA b3 0 [u64 number]*R))) (HP.AA b2 0 (AG ks)*(HP.AA b2 (0+16) [u8 side]*(HP.AA b3 0 [u64 number]*R))):=by
 intro l J Jx hy;refine mI Tryz.func221 ?_;refine J2 ?_;refine JL Wi ?_;refine J3 ?_
 refine Bj (fun k:Nat=>[(0,.func (.yield l) #[] #[]),(1,ptr b2 0),(2,ptr b3 0),(4,iN k)]) (fun k=>J (Ed ks side number (8*k))*(HP.AA b2 0 (AG ks)*(HP.AA b2 (0+16) [u8 side]*(HP.AA b3 0 [u64 number]*R)))) (fun k=>8*k<N) (fun k=>N-8*k) 0 Ca
  DN rfl ?_
 intro k hkN;refine J6 ?_;refine Am Ig rfl ?_;rintro _ _ ⟨b12,rfl,rfl⟩;refine BQ (H':=AB b12 0 [side,1] []*(J (Ed ks side number (8*k))*(HP.AA b2 0 (AG ks)*(HP.AA b2 (0+16) [u8 side]*(HP.AA b3 0 [u64 number]*R))))) rfl ?_;refine J1 ?_;refine mE rfl (WX number (some ⟨b12,0,none⟩) b12 0 2 [side,1] [] _ CS rfl Ce) ?_;rintro _ _ ⟨p14,b14,o14,c14,s14,rfl,hs14,hc14,rfl⟩;refine J1 ?_;refine JL (dU rfl) ?_;refine Am Ig rfl ?_;rintro _ _ ⟨b17,rfl,rfl⟩;refine BQ (H':=AB b14 o14 ([side,1]++EL number) s14*(HP.AA b17 0 (AG [a_ k])*(J (Ed ks side number (8*k))*(HP.AA b2 0 (AG ks)*(HP.AA b2 (0+16) [u8 side]*(HP.AA b3 0 [u64 number]*R)))))) MP ?_;refine Am (DG (ys:=[a_ k]) (bb:=b17) (oo:=0) rfl hs14 hc14 rfl CS inferInstance rfl (by simp [EL]) Ca) rfl ?_;rintro _ _ ⟨p18,b18,o18,c18,s18,rfl,hs18,hc18,rfl⟩;refine J6 ?_;refine JL ZU ?_;refine J1 ?_;refine mE rfl (ZD ks ([side,1]++EL number++[a_ k]) p18 b18 o18 c18 _ hk hs18 inferInstance (by simp [EL])) ?_;refine JR ?_;refine mE rfl (Sm _ _) ?_;rintro _ _ ⟨p23,b23,o23,c23,s23,rfl,hs23,hc23,rfl⟩;refine J1 ?_
 refine HQ ?_;refine Hy (AB b23 o23 (EL (PL ks ([side,1]++EL number++[a_ k]))) s23*(J (Ed ks side number (8*k))*(HP.AA b2 0 (AG ks)*(HP.AA b2 (0+16) [u8 side]*(HP.AA b3 0 [u64 number]*R))))) ?_
 refine Bj (fun j:Nat=>[(0,.func (.yield l) #[] #[]),(1,ptr b2 0),(2,ptr b3 0),(4,iN k),(23,.slice p23 8 c23),(24,iN 8),(25,iN j)]) (fun j=>J (Ed ks side number (8*k+j))*(AB b23 o23 (Ki ks side number k) s23*(HP.AA b2 0 (AG ks)*(HP.AA b2 (0+16) [u8 side]*(HP.AA b3 0 [u64 number]*R))))) (fun j=>j≤8∧8*k+j<N) (fun j=>8-j) 0 Ca
  Mb (HP.CV _ _ _) ?_
 intro j hj;refine J6 ?_;refine mC (fun hc=>?_) (fun hc=>?_)
 ·refine J6 ?_;refine JL (DT rfl rfl (b:=b23) (o:=o23) hs23 (by show j<8;omega)) ?_;refine JL (Gx rfl (by show j<8;omega)) ?_;refine J7 ?_
  have hsp:Ed ks side number (8*k+j)++[(Ki ks side number k).getD j 0]=Ed ks side number (8*k+(j+1)):=by rw [←tU ks side number k j hc,ae];rfl
  refine Nk (Ts rfl rfl (hy (Ed ks side number (8*k+j)) ((Ki ks side number k).getD j 0) _ gW)) rfl ?_;rintro _ _ ⟨g,rfl,hg,rfl⟩;refine JP ?_;refine mc (fun hc=>?_) (fun hc=>?_)
  ·skip
   obtain rfl:g=false:=by simpa using hc
   refine J9 ?_;refine D2 (H':=Jx (Ed ks side number (8*k+j)++[(Ki ks side number k).getD j 0])*(AB b23 o23 (Ki ks side number k) s23*(HP.AA b2 0 (AG ks)*(HP.AA b2 (0+16) [u8 side]*(HP.AA b3 0 [u64 number]*R))))) rfl ?_;exact mR [] (Jx (Ed ks side number (8*k+j)++[(Ki ks side number k).getD j 0])*(HP.AA b2 0 (AG ks)*(HP.AA b2 (0+16) [u8 side]*(HP.AA b3 0 [u64 number]*R)))) rfl rfl (.inr ⟨_,gW,rfl⟩)
  obtain rfl:g=true:=by simpa using hc
  refine Ic ?_;exact Ba (j+1) ⟨Ca,by have:=hg rfl;rw [hsp,NI]at this;omega⟩ Ca Mb (by show J _*_=J _*_;rw [hsp])
 obtain rfl:j=8:=by omega
 refine J8 ?_;refine D7 ?_;refine Bo (J (Ed ks side number (8*k+8))*(HP.AA b2 0 (AG ks)*(HP.AA b2 (0+16) [u8 side]*(HP.AA b3 0 [u64 number]*R)))) ?_;exact Ba (k+1) Ca Ca DN rfl
def DL(xs ms:List UInt8):List UInt8:=List.zipWith (·^^^ ·) xs ms
def DQ(ks:List UInt8)(side:UInt8)(n:UInt64)(xs:List UInt8):List UInt8:=DL xs (Ed ks side n xs.length)
theorem Kh(xs ms:List UInt8)(h:ms.length≤xs.length):(DL xs ms).length=ms.length:=by simp [DL];omega
theorem pZ(xs ms:List UInt8)(m:UInt8)(h:ms.length<xs.length):DL xs (ms++[m])=DL xs ms++[xs.getD ms.length 0 ^^^m]:=by
 have e:xs=xs.take ms.length++(xs.getD ms.length 0::xs.drop (ms.length+1)):=by
  rw [e_,km h,Option.getD_some,List.getElem_cons_drop,kr]
 have e2:DL xs ms=DL (xs.take ms.length) ms:=by
  rw [DL,DL]
  conv=>lhs;rw [←kr ms.length xs]
  rw [show ms=ms++[] by simp,kt Cl]
  simp
 rw [e2]
 conv=>lhs;rw [e]
 rw [DL,DL,kt Cl]
 simp
theorem x6(xs ms:List UInt8)(m:UInt8)(h:ms.length<xs.length):DL xs (ms++[m])=DL xs ms++[xs.getD (DL xs ms).length 0 ^^^m]:=by
 rw [pZ xs ms m h,Kh xs ms Ca]
abbrev JC:=Option Addr×Nat×Nat×Nat×List Value
def JC.ok(z:JC)(k:Nat):Prop:=Sl z.1 z.2.1 z.2.2.1 k z.2.2.2.1∧k*1+z.2.2.2.2.length=z.2.2.2.1*1
abbrev JC.at(z:JC)(b7:Nat)(xs:List UInt8)(R:HP):HP:=HP.AA b7 0 [.slice z.1 xs.length z.2.2.2.1]*(AB z.2.1 z.2.2.1 xs z.2.2.2.2*R)
set_option maxHeartbeats 1000000 in
theorem W4(ks:List UInt8)(hk:ks.length=16)(side:UInt8)(number:UInt64)(xs:List UInt8)(p:Option Addr)(b o c:Nat)(H:HP)(hs:Sl p b o xs.length c)(hr:Ai B H b o xs)(hx:xs.length<100000000):
  Fn Tryz.prog B 170 [.agg (AG ks++[u8 side]).toArray,u64 number,.slice p xs.length c] H (fun v H'=>CB H (DQ ks side number xs) v H'):=by
 refine RJ Tryz.func170 rfl rfl rfl ?_;refine OS ?_;rintro _ _ ⟨b3,rfl,rfl⟩;refine K9 ?_;rintro _ _ ⟨b5,rfl,rfl⟩;refine J7 ?_;refine Am (tL (α:=UInt8) rfl rfl ⟨Ca,Ca⟩) rfl ?_;rintro _ _ ⟨p11,b11,o11,c11,s11,rfl,hs11,hc11,rfl⟩;refine OT ?_;rintro _ _ ⟨b7,rfl,rfl⟩;refine J8 ?_;refine KZ ?_;refine mC (fun hc=>?_) (fun hc=>?_)
 ·obtain rfl:xs=[]:=List.length_eq_zero_iff.1 hc;refine J8 ?_;refine Bo (AB b11 o11 ([]:List UInt8) s11*H) ?_;exact QA (ts:=[6]) [] _ rfl rfl ⟨p11,b11,o11,c11,s11,rfl,hs11,hc11,rfl⟩ rfl
 refine J5 ?_;refine JL OF ?_;refine J1 ?_;refine mE rfl (ia ks side number _) ?_;rintro _ _ ⟨b2',b3',rfl,rfl⟩;refine J3 ?_
 refine sN (α:=UInt8) u8 (fun _=>False) (fun pre=>pre=Ed ks side number pre.length∧pre.length≤xs.length) (fun pre=>pre.length<xs.length) (fun pre=>HP.ex fun z:JC=>HP.pr (z.ok (DL xs pre).length)*z.at b7 (DL xs pre) (HP.AA b5 0 [.slice p xs.length c]*H)) (fun id pre=>HP.ex fun z:JC=>HP.pr (id=0∧pre.length=xs.length∧z.ok (DL xs pre).length)*z.at b7 (DL xs pre) (HP.AA b5 0 [.slice p xs.length c]*H)) (HP.AA b2' 0 (AG ks)*(HP.AA b2' (0+16) [u8 side]*(HP.AA b3' 0 [u64 number]*HP.AA b3 0 (AG ks++[u8 side])))) (HP.AA b2' 0 (AG ks)*(HP.AA b2' (0+16) [u8 side]*(HP.AA b3' 0 [u64 number]*HP.AA b3 0 (AG ks++[u8 side])))) (fun x=>[(8,u8 x),(7,ptr b7 0),(5,ptr b5 0)]) rfl rfl rfl ?_ (r4 ks hk side number xs.length ⟨Ca,hx⟩ b2' b3' _) ?_ ?_ ?_ ?_
 ·have hx0:DL xs []=[]:=by simp [DL]
  refine IS (p11,b11,o11,c11,s11) (by rw [hx0];exact⟨hs11,hc11⟩) ?_;rw [HP.Fa b2' 0 (AG ks) [u8 side],Gk hk];rw [hx0];show _=HP.AA b7 0 [.slice p11 ([]:List UInt8).length c11]*(AB b11 o11 [] s11*(HP.AA b5 0 [.slice p xs.length c]*H))*_;ac_rfl
 ·intro pre x l R;refine J3 ?_;exact gu Ea rfl
 ·intro pre x l R hsp;refine MT ?_;rintro⟨q,bq,oq,cq,sq⟩ ⟨hq1,hq2⟩;dsimp only [JC.at]at hq1 hq2⊢;obtain⟨hp1,hp2⟩:=hsp;rw [f_,List.length_singleton]at hp2;have hxl:=Kh xs pre Ca;have hrr:Ai B (HP.AA b7 0 [.slice q (DL xs pre).length cq]*(AB bq oq (DL xs pre) sq*(HP.AA b5 0 [.slice p xs.length c]*H))*R) b o xs:=inferInstance;have ir:=WO hrr;have hsn:=x6 xs pre x Ca;refine J2 ?_;refine mA 9 11 ?_;refine Jd 0 ?_;refine Jd 1 ?_;refine Jd 2 ?_;refine JT 3 rfl Ft ?_;refine JT 4 rfl (DT rfl rfl (b:=b) (o:=o) hs Ca) ?_;refine JT 5 rfl (Gx rfl Ca) ?_;refine Jm 6 ?_;refine JT 7 rfl (Ym rfl rfl) ?_;refine Av 8 Cb rfl rfl Ig ?_;rintro _ _ ⟨b28,rfl,rfl⟩;refine⟨.inr inferInstance,?_⟩;refine E5 (H':=AB bq oq (DL xs pre) sq*(HP.AA b28 0 (AG [xs.getD (DL xs pre).length 0 ^^^x])*(HP.AA b7 0 [.slice q (DL xs pre).length cq]*(HP.AA b5 0 [.slice p xs.length c]*H)*R))) (by show HP.AA b28 0 _*_=_;ac_rfl) ?_;refine Av 9 Cb rfl rfl (DG (ys:=[xs.getD (DL xs pre).length 0 ^^^x]) (bb:=b28) (oo:=0) rfl hq1 hq2 rfl CS inferInstance rfl Cl Ca) ?_;rintro _ _ ⟨q2,b2,o2,c2,s2,rfl,h2,h3,rfl⟩;refine⟨.inl Cc,?_⟩;refine Dx 10 Cb rfl FL ?_
  refine Dh ?_;refine PM ?_;refine mC (fun hc=>?_) (fun hc=>?_)
  ·refine J2 ?_;refine dW ?_;exact fd (IS (q2,b2,o2,c2,s2) ⟨rfl,Xu,by rw [hsn];exact h2,by rw [hsn];exact h3⟩ Z8)
  refine J2 ?_;refine dW ?_;exact yQ Xu (IS (q2,b2,o2,c2,s2) ⟨by rw [hsn];exact h2,by rw [hsn];exact h3⟩ Z8)
 ·intro d xs hS;exact hS.elim
 intro d pre id hS;refine Rh ?_;rintro⟨q,bq,oq,cq,sq⟩ ⟨rfl,hlen,hq1,hq2⟩;dsimp only [JC.at]at hq1 hq2⊢
 have hpre:DL xs pre=DQ ks side number xs:=by rw [DQ,←hlen,←hS.1]
 rw [hpre]at hq1 hq2⊢;refine J9 ?_;refine Bo (AB bq oq (DQ ks side number xs) sq*(H*HP.obj d (.deferred (some [])))) ?_;refine D2 (H':=HP.obj d (.deferred (some []))*(AB bq oq (DQ ks side number xs) sq*H)) Cg ?_;exact QA (ts:=[6]) [d] _ rfl rfl ⟨q,bq,oq,cq,sq,rfl,hq1,hq2,rfl⟩ rfl
def HC(ks:List UInt8)(side:UInt8)(n:UInt64)(xs:List UInt8):List UInt8:=EL (PL ks (Gb side 2 n++xs))
theorem cD(ks:List UInt8)(side:UInt8)(n:UInt64)(xs:List UInt8):(HC ks side n xs).length=8:=rfl
set_option maxHeartbeats 1000000 in
theorem Y3(ks:List UInt8)(hk:ks.length=16)(side:UInt8)(number:UInt64)(xs:List UInt8)(p:Option Addr)(b o c:Nat)(H:HP)(hs:Sl p b o xs.length c)(hr:Ai B H b o xs)(hx:xs.length<90000000):
  Fn Tryz.prog B 171 [.agg (AG ks++[u8 side]).toArray,u64 number,.slice p xs.length c] H (fun v H'=>v=.agg (AG (HC ks side number xs)).toArray∧H'=H):=by
 refine mI Tryz.func171 ?_;refine OS ?_;rintro _ _ ⟨b3,rfl,rfl⟩;refine BQ (H':=HP.AA b3 0 (AG ks)*(HP.AA b3 (0+16) [u8 side]*H)) (by rw [HP.Fa,Gk hk,HP.assoc]) ?_;refine Am Ri rfl ?_;rintro _ _ ⟨b6,rfl,rfl⟩;refine J4 ?_;refine Am Ri rfl ?_;rintro _ _ ⟨b7,rfl,rfl⟩;refine J3 ?_;refine Au (H':=HP.AA b7 0 [u8 0,u8 0,u8 0,u8 0,u8 0,u8 0,u8 0,u8 0]*(HP.AA b6 0 [u8 0,u8 0,u8 0,u8 0,u8 0,u8 0,u8 0,u8 0]*(HP.AA b3 0 (AG ks)*(HP.AA b3 (0+16) [u8 side]*H)))) rfl ?_;have hrr:Ai B (HP.AA b7 0 [u8 0,u8 0,u8 0,u8 0,u8 0,u8 0,u8 0,u8 0]*(HP.AA b6 0 [u8 0,u8 0,u8 0,u8 0,u8 0,u8 0,u8 0,u8 0]*(HP.AA b3 0 (AG ks)*(HP.AA b3 (0+16) [u8 side]*H)))) b o xs:=inferInstance;refine mA 12 13 ?_;refine JT 0 rfl (RU (k:=8) rfl rfl) ?_;refine Jf 1 ?_;refine JT 2 rfl ZU ?_;refine PF ?_;refine JB ?_;refine Jm 6 ?_;refine Jm 8 ?_;refine Av 5 Cb rfl rfl Ig ?_;rintro _ _ ⟨b13,rfl,rfl⟩;refine BL ?_;refine E5 (H':=AB b13 0 [side,2] []*(HP.AA b7 0 [u8 0,u8 0,u8 0,u8 0,u8 0,u8 0,u8 0,u8 0]*(HP.AA b6 0 [u8 0,u8 0,u8 0,u8 0,u8 0,u8 0,u8 0,u8 0]*(HP.AA b3 0 (AG ks)*(HP.AA b3 (0+16) [u8 side]*H))))) rfl ?_
 refine Av 7 Cb rfl rfl (BS rfl (WX number (some ⟨b13,0,none⟩) b13 0 2 [side,2] [] _ CS rfl Ce)) ?_;rintro _ _ ⟨p15,b15,o15,c15,s15,rfl,hs15,hc15,rfl⟩;refine BL ?_;refine Av 9 Cb rfl rfl (DG (ys:=xs) (bb:=b) (oo:=o) rfl hs15 hc15 rfl hs inferInstance rfl TA Ca) ?_;rintro _ _ ⟨p17,b17,o17,c17,s17,rfl,hs17,hc17,rfl⟩;refine BL ?_;refine Av 10 Cb rfl rfl (BS rfl (ZD ks ([side,2]++EL number++xs) p17 b17 o17 c17 _ hk hs17 inferInstance TA)) ?_;refine Fm ?_;refine Av 11 Cb rfl rfl (BS rfl (Sm _ _)) ?_;rintro _ _ ⟨p19,b19,o19,c19,s19,rfl,hs19,hc19,rfl⟩;refine BL ?_;refine E5 (H':=HP.AA b7 0 [u8 0,u8 0,u8 0,u8 0,u8 0,u8 0,u8 0,u8 0]*(AB b19 o19 (HC ks side number xs) s19*(AB b17 o17 ([side,2]++EL number++xs) s17*(HP.AA b6 0 [u8 0,u8 0,u8 0,u8 0,u8 0,u8 0,u8 0,u8 0]*(HP.AA b3 0 (AG ks)*(HP.AA b3 (0+16) [u8 side]*H)))))) (by show AB b19 o19 (HC ks side number xs) s19*_=_;ac_rfl) ?_;refine Av 12 Cb rfl rfl (jM (b:=b7) (o:=0) (bb:=b19) (oo:=o19) (ys:=HC ks side number xs) rfl CS rfl hs19 inferInstance Cc) ?_;refine Dh ?_;refine J3 ?_;refine JL (D6 (l:=AG (HC ks side number xs)) rfl rfl) ?_
 refine Bv (EO rfl rfl Ch (KS _)) ?_;refine Gr ?_;exact NA H rfl (Io (NS rfl rfl) KE) BY
theorem VJ(ks:List UInt8)(side:UInt8)(n:UInt64)(xs:List UInt8):(DQ ks side n xs).length=xs.length:=by
 rw [DQ,Kh _ _ XT,NI]
def Bk(ks:List UInt8)(side:UInt8)(n:UInt64)(xs:List UInt8):List UInt8:=EL n++DQ ks side n xs++HC ks side n (DQ ks side n xs)
theorem ZH(ks:List UInt8)(hk:ks.length=16)(side:UInt8)(number:UInt64)(xs:List UInt8)(p:Option Addr)(b o c:Nat)(H:HP)(hs:Sl p b o xs.length c)(hr:Ai B H b o xs)(hx:xs.length<90000000):
  Fn Tryz.prog B 141 [.agg (AG ks++[u8 side]).toArray,u64 number,.slice p xs.length c] H (fun v H'=>CB H (Bk ks side number xs) v H'):=by
 refine mI Tryz.func141 ?_;have hml:=VJ ks side number xs;refine OS ?_;rintro _ _ ⟨b3,rfl,rfl⟩;refine J5 ?_;refine JL OF ?_;refine J2 ?_;refine mE rfl (W4 ks hk side number xs p b o c _ hs inferInstance Ca) ?_;rintro _ _ ⟨p12,b12,o12,c12,s12,rfl,hs12,hc12,rfl⟩;refine J5 ?_;refine JL OF ?_;refine J2 ?_;refine mE rfl (Y3 ks hk side number (DQ ks side number xs) p12 b12 o12 c12 _ hs12 inferInstance Ca) ?_;refine JR ?_;refine Am Ri rfl ?_;rintro _ _ ⟨b8,rfl,rfl⟩;refine Bv (EO rfl rfl Ch (KS _)) ?_;refine Gr ?_;refine mA 5 7 ?_;refine GZ ?_;refine Jm 2 ?_;refine JT 4 rfl (RU (k:=8) rfl rfl) ?_;refine Av 1 Cb rfl rfl (BS rfl (Sm _ _)) ?_;rintro _ _ ⟨p18,b18,o18,c18,s18,rfl,hs18,hc18,rfl⟩;refine BL ?_;refine Av 3 Cb rfl rfl (DG (ys:=DQ ks side number xs) (bb:=b12) (oo:=o12) rfl hs18 hc18 rfl hs12 inferInstance rfl (by rw [VA];omega) Ca) ?_;rintro _ _ ⟨p20,b20,o20,c20,s20,rfl,hs20,hc20,rfl⟩;refine BL ?_
 refine Av 5 Cb rfl rfl (DG (ys:=HC ks side number (DQ ks side number xs)) (bb:=b8) (oo:=0) rfl hs20 hc20 rfl CS inferInstance rfl (by rw [f_,VA,cD];omega) Ca) ?_;rintro _ _ ⟨p22,b22,o22,c22,s22,rfl,hs22,hc22,rfl⟩;refine Dc ?_;refine Ei 6 Cb rfl rfl F7 EY ?_;refine Dm ?_;exact mR [6] (AB b22 o22 (EL number++DQ ks side number xs++HC ks side number (DQ ks side number xs)) s22*H) rfl rfl ⟨p22,b22,o22,c22,s22,rfl,hs22,hc22,rfl⟩
def be(xs:List UInt8):Nat→UInt64
 |0=>0
 |i+1=>(be xs i<<< 8)|||(xs.getD i 0).toUInt64
def Fp(xs:List UInt8):List UInt8:=(xs.take (xs.length-8)).drop 8
def B3(ks:List UInt8)(side:UInt8)(xs:List UInt8):Option (UInt64×List UInt8):=
 if xs.length<16∨300<xs.length then none
 else if 4611686018427387903<(be xs 8).toNat∨HC ks side (be xs 8) (Fp xs)≠xs.drop (xs.length-8)then none
 else some (be xs 8,DQ ks side (be xs 8) (Fp xs))
set_option maxHeartbeats 1000000 in
theorem X8(ks:List UInt8)(hk:ks.length=16)(side:UInt8)(xs:List UInt8)(p:Option Addr)(b o c:Nat)(H:HP)(hs:Sl p b o xs.length c)(hr:Ai B H b o xs)(hx:xs.length<90000000):
  Fn Tryz.prog B 142 [.agg (AG ks++[u8 side]).toArray,.slice p xs.length c] H (fun v H'=>match B3 ks side xs with
   |none=>v=.tuple #[u64 0,.slice none 0 0,.bool false]∧H'=H
   |some (n,ys)=>∃sv,v=.tuple #[u64 n,sv,.bool true]∧CB H ys sv H'):=by
 refine mI Tryz.func142 ?_;refine OS ?_;rintro _ _ ⟨b2,rfl,rfl⟩;refine HE ?_;refine J8 ?_;refine JL (P0 (i:=(xs.length:Int)) (j:=8) rfl rfl Ca) ?_;refine J7 ?_;refine JL (L9 (j:=8) rfl rfl) ?_;refine J1 ?_;refine EV 15 rfl (fun hg1=>?_) (fun hg1=>?_)
 ·refine NT ?_;refine JH T1 ?_;refine JL GM ?_;refine J2 ?_;refine Gw ?_;refine OU ?_;exact mR [4,5,6] H rfl rfl aM
 refine Ph ?_;refine JL (Gj (j:=300) rfl rfl) ?_;refine JL E9 ?_;refine J2 ?_;refine mC (fun hc=>?_) (fun hc=>?_)
 ·refine OU ?_;exact mR [4,5,6] H rfl rfl aM
 have e8:((xs.length:Int)-8)=((xs.length-8:Nat):Int):=by omega
 rw [e8]
 have h16:16≤xs.length:=by omega
 have h300:xs.length≤300:=by omega
 have hbl:(Fp xs).length=xs.length-16:=by simp [Fp];omega
 have hop:¬(xs.length<16∨300<xs.length):=by omega
 have ir:=WO (B:=B) hr
 have hsB:Sl (sp p c 8 1) b (o+8*1) (Fp xs).length (c-8):=by
  have:=Ln (sz:=1) (l:=8) (h:=xs.length-8) hs Ca Cj
  rw [hbl,show xs.length-16=xs.length-8-8 by omega];exact this
 have hrB:Ai B H b (o+8*1) (Fp xs):=hr.sub 8 (xs.length-8) Ca
 have hsT:Sl (sp p c (xs.length-8) 1) b (o+(xs.length-8)*1) (xs.drop (xs.length-8)).length (c-(xs.length-8)):=by
  have:=Ln (sz:=1) (l:=xs.length-8) (h:=xs.length) hs Ca hs.2
  rw [j_];exact this
 have hrT:Ai B H b (o+(xs.length-8)*1) (xs.drop (xs.length-8)):=hr.Ke (xs.length-8)
 have hT8:(xs.drop (xs.length-8)).length=8:=by rw [j_];omega
 refine J6 ?_;refine JL (Sf (h:=8) rfl rfl Cj) ?_;refine Kg ?_
 refine Bj (fun j:Nat=>[(1,.slice p xs.length c),(2,ptr b2 0),(7,iN (xs.length-8)),(21,.slice p 8 c),(22,iN 8),(23,iN j),(4,u64 (be xs j))]) (fun _=>HP.AA b2 0 (AG ks++[u8 side])*H) (fun j=>j≤8) (fun j=>8-j) 0 EX
  Mb rfl ?_
 intro j hj;refine J6 ?_;refine mC (fun hc=>?_) (fun hc=>?_)
 ·refine J6 ?_;refine JL (DT rfl rfl (b:=b) (o:=o) ⟨hs.1,Cj⟩ Ca) ?_;refine JL (Gx rfl Ca) ?_;refine J5 ?_;refine JL (UT (j:=8) rfl rfl Ca) ?_;refine J1 ?_;refine JL (Z2 rfl) ?_;refine JL (Va rfl rfl) ?_;refine J5 ?_;refine D7 ?_;exact Ba (j+1) Ca Ca Mb rfl
 obtain rfl:j=8:=by omega
 refine J7 ?_;refine mA 16 16 ?_;refine GZ ?_;refine JT 1 rfl (Gj (i:=(be xs 8).toNat) (j:=4611686018427387903) rfl rfl) ?_;refine Jm 2 ?_;refine Gv 35 rfl (fun hg2=>?_) (fun hg2=>?_)
 ·refine JN 3 rfl T2 ?_;refine JN 4 rfl T2 ?_;refine JN 5 rfl T2 ?_;refine JN 6 rfl T2 ?_;refine JN 7 rfl T2 ?_;refine JN 9 rfl T2 ?_;refine JN 10 rfl T2 ?_;refine JN 11 rfl T2 ?_;refine JN 12 rfl T2 ?_;refine JN 13 rfl T2 ?_;refine JN 8 rfl T2 ?_;refine JN 14 rfl T2 ?_;refine JT 15 rfl IY ?_;refine FG ?_;refine Gw ?_;refine OU ?_;exact mR [4,5,6] H rfl rfl (by rw [show B3 ks side xs=none from by rw [B3,if_neg hop,if_pos (.inl hg2)]];exact BY)
 refine JY 3 rfl F2 OF ?_;refine JY 4 rfl F2 Bd ?_;refine JY 5 rfl F2 Bd ?_;refine JY 6 rfl F2 Bd ?_;refine JY 7 rfl F2 cI ?_;refine JY 9 rfl F2 Bd ?_;refine JY 10 rfl F2 Bd ?_;refine JY 11 rfl F2 (Ps (l:=xs.length-8) (k':=(xs.drop (xs.length-8)).length) rfl rfl Ca (by rw [j_])) ?_;refine JY 12 rfl F2 (nJ rfl hsT Ca Ca) ?_;refine JY 13 rfl F2 (iY (xs:=xs.drop (xs.length-8)) (o:=o+(xs.length-8)*1) rfl inferInstance (by rw [hT8];rfl)) ?_;refine QJ 8 Cb rfl rfl rfl rfl F2 (BS rfl (Y3 ks hk side (be xs 8) (Fp xs) (sp p c 8 1) b (o+8*1) (c-8) _ hsB inferInstance Ca)) ?_;refine Fm ?_;refine JY 14 rfl F2 (am (xs:=HC ks side (be xs 8) (Fp xs)) (ys:=xs.drop (xs.length-8)) Cb rfl rfl rfl hT8) ?_;refine JT 15 rfl Hr ?_;refine FG ?_;refine mC (fun hc=>?_) (fun hc=>?_)
 ·refine OU ?_;exact mR [4,5,6] H rfl rfl (by rw [show B3 ks side xs=none from by rw [B3,if_neg hop,if_pos (.inr hc)]];exact BY)
 refine J3 ?_;refine mA 10 10 ?_;refine GZ ?_;refine JT 1 rfl OF ?_;refine Jm 2 ?_;refine Jm 3 ?_;refine Jm 4 ?_;refine JT 5 rfl cI ?_;refine Av 6 Cb rfl rfl (BS rfl (W4 ks hk side (be xs 8) (Fp xs) (sp p c 8 1) b (o+8*1) (c-8) _ hsB inferInstance Ca)) ?_;rintro _ _ ⟨p55,b55,o55,c55,s55,rfl,hs55,hc55,rfl⟩;refine BL ?_;refine Ja 7 ?_;refine Ja 8 ?_;refine Ja 9 ?_;refine Dm ?_;exact mR [4,5,6] (AB b55 o55 (DQ ks side (be xs 8) (Fp xs)) s55*H) rfl rfl (by rw [show B3 ks side xs=some (be xs 8,DQ ks side (be xs 8) (Fp xs)) by rw [B3,if_neg hop,if_neg (fun h=>h.elim hg2 hc)]];exact⟨_,rfl,p55,b55,o55,c55,s55,rfl,hs55,hc55,rfl⟩)
end
structure BD where
 l:List AT
 floor:Nat
 AL:Nat
def B2(lo hi:Nat):List AT→List AT
 |[]=>[⟨lo,hi⟩]
 |r::rs=>if r.hi+1<lo then r::B2 lo hi rs else if hi+1<r.lo then⟨lo,hi⟩::r::rs else B2 (min lo r.lo) (max hi r.hi) rs
def BD.add(s:BD)(lo hi:Nat):BD:=
 if hi<max lo s.floor then s
 else if s.AL<(B2 (max lo s.floor) hi s.l).length then⟨(B2 (max lo s.floor) hi s.l).tail,((B2 (max lo s.floor) hi s.l).headD ⟨0,0⟩).hi+1,s.AL⟩
 else⟨B2 (max lo s.floor) hi s.l,s.floor,s.AL⟩
def Ao(n:Nat)(l:List AT):Prop:=∃r∈l,r.lo≤n∧n≤r.hi
instance(n:Nat)(l:List AT):Decidable (Ao n l):=by unfold Ao;infer_instance
def BD.has(s:BD)(n:Nat):Prop:=n<s.floor∨Ao n s.l
instance(s:BD)(n:Nat):Decidable (s.has n):=by unfold BD.has;infer_instance
def AV(lo hi:Nat):List AT→Nat×Nat
 |[]=>(lo,hi)
 |r::rs=>if r.hi<lo then AV lo hi rs else if lo<r.lo then(lo,min hi r.lo)else AV (r.hi+1) hi rs
def BD.of(AL:Nat):BD:=⟨[],0,AL⟩
structure AR where
 b:List UInt8
 AO:BD
 AE:BD
 high:Nat
 finished:Bool
 ending:Bool
 ended:Bool
 given:Bool
 code:Nat
 BG:Bool
def AR.A0(w:AR):Nat:=(AV 0 w.b.length w.AE.l).1
structure Bf where
 b:List UInt8
 AE:BD
 high:Nat
 end_:Nat
 ended:Bool
 given:Bool
 code:Nat
 read:Nat
 state:Nat
structure DR where
 number:Nat
 at_:Nat
 Ag:List AM
structure AD where
 AJ:Nat
 AF:Nat
 ks:List UInt8
 first:Bool
 now:Nat
 closed:Nat
 code:Nat
 said:Bool
 next:Nat
 AI:BD
 answer:Bool
 ws:List AR
 rs:List Bf
 Aa:List DR
 lost:List DR
 BF:Nat
 waits:Nat
def Ab:AR:=⟨[],.of 4096,.of 4096,0,false,false,false,false,0,false⟩
def FD:Bf:=⟨[],.of 4096,0,0,false,false,0,0,0⟩
def Ix(AJ AF:Int):Prop:=64≤AJ∧AJ≤300∧16≤AF∧AF≤1024
instance(AJ AF:Int):Decidable (Ix AJ AF):=by unfold Ix;infer_instance
def AD.new(AJ AF:Nat)(ks:List UInt8)(first:Bool):AD:=
 ⟨AJ,AF,ks,first,0,0,0,false,0,.of 8,false,b_ 4 Ab,b_ 4 FD,[],[],0,0⟩
def AD.w(c:AD)(k:Nat):AR:=c.ws.getD k Ab
def AD.r(c:AD)(k:Nat):Bf:=c.rs.getD k FD
def AD.Bm(c:AD)(k:Nat)(w:AR):AD:={c with ws:=c.ws.set k w}
def AD.BV(c:AD)(k:Nat)(r:Bf):AD:={c with rs:=c.rs.set k r}
def AD.stream(c:AD)(k:Int):Nat:=if c.closed≠0 then 9 else if k<0∨4≤k then 2 else 0
def AD.EP(c:AD)(k:Int):Nat:=
 if c.stream k≠0 then c.stream k else if(c.w k.toNat).finished∨(c.w k.toNat).given then 3 else 0
def AD.G6(c:AD)(k:Nat)(len:Nat):Nat:=
 min (min (c.AF-((c.w k).b.length-(c.w k).A0)) (4096-(c.w k).b.length)) len
def AD.write(c:AD)(k:Int)(xs:List UInt8):(Nat×Nat)×AD:=
 if c.EP k≠0 then((0,c.EP k),c)
 else((c.G6 k.toNat xs.length,0),c.Bm k.toNat {c.w k.toNat with b:=(c.w k.toNat).b++xs.take (c.G6 k.toNat xs.length)})
def AD.finish(c:AD)(k:Int):Nat×AD:=
 if c.EP k≠0 then(c.EP k,c)else(0,c.Bm k.toNat {c.w k.toNat with finished:=true})
def AD.giveUp(c:AD)(k:Int)(code:Nat):Nat×AD:=
 if c.stream k≠0 then(c.stream k,c)
 else if(c.w k.toNat).given∨4611686018427387903<code then(3,c)
 else(0,c.Bm k.toNat {c.w k.toNat with given:=true,code:=code})
def AD.AE(c:AD)(k:Int):Nat×Nat:=
 if c.stream k≠0 then(0,c.stream k)else((c.w k.toNat).A0,0)
def AD.close(c:AD)(code:Nat):Nat×AD:=
 if c.closed≠0 then(9,c)else if 4611686018427387903<code then(3,c)else(0,{c with closed:=9,code:=code})
def Dg(lo hi:Nat)(s:BD)(r:AT):BD:=
 let s1:=if r.lo<lo then s.add r.lo (min r.hi (lo-1))else s
 if hi≤r.hi then s1.add (max r.lo hi) r.hi else s1
def AR.again(w:AR)(f:AM):AR:=
 if f.kind=5 then
  {w with AO:=w.AE.l.reverse.foldl (fun s r=>s.add r.lo r.hi) (w.AO.l.reverse.foldl (Dg f.offset (f.offset+f.data.size)) (BD.of 4096)),ending:=w.ending&& !f.fin}
 else if f.kind=4 then {w with BG:=false}else w
def FZ(ws:List AR)(f:AM):List AR:=ws.set f.stream.toNat ((ws.getD f.stream.toNat Ab).again f)
def IW(ws:List AR)(p:DR):List AR:=p.Ag.foldl FZ ws
def AD.Eg(c:AD)(lost:DR→Bool):AD:=
 {c with Aa:=c.Aa.filter (fun p=> !lost p),lost:=c.lost++c.Aa.filter lost,ws:=(c.Aa.filter lost).foldl IW c.ws}
def Is(waits:Nat):Nat:=min (4*2^waits) 32
def AD.tick(c:AD):AD:=
 if c.Aa.any (fun p=>decide (p.at_+Is c.waits≤c.now+1))then
  {({c with now:=c.now+1}:AD).Eg (fun _=>true)with waits:=min (c.waits+1) 8}
 else {c with now:=c.now+1}
def AR.named(w:AR)(inn:Bool)(f:AM):AR:=
 let w1:=if inn=true∧f.kind=5∧f.data.size≠0 then
  {w with AE:=w.AE.add f.offset (f.offset+f.data.size-1),AO:=w.AO.add f.offset (f.offset+f.data.size-1)}else w
 {w1 with ended:=w1.ended||(inn&&decide (f.kind=5)&&f.fin)}
def A6(l:List AT)(n:Nat):Bool:=l.any (fun r=>decide (r.lo≤n)&&decide (n≤r.hi))
def FR(inn:Bool)(ws:List AR)(f:AM):List AR:=ws.set f.stream.toNat ((ws.getD f.stream.toNat Ab).named inn f)
def Hv(l:List AT)(ws:List AR)(p:DR):List AR:=p.Ag.foldl (FR (A6 l p.number)) ws
def AD.CE(c:AD)(l:List AT):AD:=
 {c with BF:=max c.BF (rg l 0).hi,lost:=c.lost.filter (fun p=> !A6 l p.number),Aa:=c.Aa.filter (fun p=> !A6 l p.number),ws:=c.Aa.foldl (Hv l) (c.lost.foldl (Hv l) c.ws),waits:=if(c.Aa.filter (fun p=> !A6 l p.number)).length<c.Aa.length then 0 else c.waits}
def AD.BM(c:AD)(l:List AT):Nat×AD:=
 if c.next≤(rg l 0).hi then(8,c)
 else(0,(c.CE l).Eg (fun p=>decide (p.number+3≤(c.CE l).BF)))
def Gs(b:List UInt8)(o:Nat)(ds:List UInt8):List UInt8:=b.take o++ds++b.drop (o+ds.length)
def GS(fuel:Nat)(off e:Nat)(ds:List UInt8)(read lo:Nat)(b:List UInt8)(AE:BD):List UInt8×BD:=
 match fuel with
 |0=>(b,AE)
 |n+1=>
  if lo<e then
   let g:=AV lo e AE.l
   if e≤g.1 then(b,AE)
   else GS n off e ds read g.2 (Gs b (g.1-read) ((ds.drop (g.1-off)).take (g.2-g.1))) (AE.add g.1 (g.2-1))
  else(b,AE)
def MY(ended:Bool)(end_ high:Nat)(f:AM):Prop:=
 (ended=true∧(end_<f.offset+f.data.size∨f.fin=true∧f.offset+f.data.size≠end_))∨(f.fin=true∧f.offset+f.data.size<high)
instance(ended:Bool)(end_ high:Nat)(f:AM):Decidable (MY ended end_ high f):=by unfold MY;infer_instance
def Bf.filled(r:Bf)(f:AM):List UInt8×BD:=
 GS (f.offset+f.data.size+1) f.offset (f.offset+f.data.size) f.data.data.toList r.read (max f.offset r.read)
  (r.b++b_ (max r.high (f.offset+f.data.size)-(r.read+r.b.length)) 0) r.AE
def Bf.IK(r:Bf)(f:AM):Bf:=
 {r with high:=max r.high (f.offset+f.data.size),ended:=r.ended||f.fin,end_:=if f.fin then f.offset+f.data.size else r.end_,b:=(r.filled f).1,AE:=(r.filled f).2}
def Bf.data(r:Bf)(f:AM):Nat×Bf:=
 if MY r.ended r.end_ r.high f then(7,r)else if r.given then(0,r)else(0,r.IK f)
def AD.take(c:AD)(f:AM):Nat×AD:=
 if f.kind=3 then c.BM f.ranges
 else if f.kind=4 then
  if(c.r f.stream.toNat).ended=true∧(c.r f.stream.toNat).end_≠f.offset∨f.offset<(c.r f.stream.toNat).high then(7,c)
  else(0,c.BV f.stream.toNat {c.r f.stream.toNat with code:=if(c.r f.stream.toNat).given then(c.r f.stream.toNat).code else f.code,given:=true,ended:=true,end_:=f.offset})
 else if f.kind=5 then(((c.r f.stream.toNat).data f).1,c.BV f.stream.toNat ((c.r f.stream.toNat).data f).2)
 else if f.kind=6 then(10,c)else(0,c)
def AD.shut(c:AD)(e:Nat):AD:={c with closed:=e,code:=e,said:=decide (e=10)}
def AD.BO(c:AD):List AM→Nat×AD
 |[]=>(0,c)
 |f::fs=>if(c.take f).1≠0 then((c.take f).1,(c.take f).2.shut (c.take f).1)
  else({(c.take f).2 with answer:=(c.take f).2.answer||(decide (f.kind≠3)&&decide (f.kind≠1))}:AD).BO fs
def AD.busy(c:AD)(f:AM):Prop:=f.kind=5∧(c.r f.stream.toNat).given=false∧(c.r f.stream.toNat).read+c.AF<f.offset+f.data.size
instance(c:AD)(f:AM):Decidable (c.busy f):=by unfold AD.busy;infer_instance
def AD.BA(c:AD)(p:List UInt8):(Nat×Int)×AD:=
 if c.closed≠0 then((9,-1),c)
 else match B3 c.ks (Ae (!c.first)) p with
  |none=>((4,-1),c)
  |some (number,b)=>
   if c.AI.has number.toNat then((0,-1),c)
   else match FN b with
    | .error at_=>((5,at_),{c with closed:=5,code:=5})
    | .ok fs=>
     if ∃f∈fs,c.busy f then((6,-1),c)
     else((((({c with AI:=c.AI.add number.toNat number.toNat}:AD).BO fs).1,-1)),(({c with AI:=c.AI.add number.toNat number.toNat}:AD).BO fs).2)
def AD.Dz(c:AD)(k:Nat):Bf:=if(c.r k).given=true∧(c.r k).state=0 then {c.r k with state:=2,b:=[]}else c.r k
def AD.Gy(r:Bf)(AL:Int):Nat:=min ((AV r.read r.high r.AE.l).1-r.read) AL.toNat
def AD.read(c:AD)(k:Int)(AL:Int):(List UInt8×Nat×Nat×Nat)×AD:=
 if c.stream k≠0 then(([],0,0,c.stream k),c)
 else
  let r:=c.Dz k.toNat
  if r.state=0 then
   let n:=AD.Gy r AL
   let r2:={r with b:=r.b.drop n,read:=r.read+n}
   let r3:=if r2.ended=true∧r2.read=r2.end_ then {r2 with state:=1}else r2
   ((r.b.take n,r3.state,0,0),c.BV k.toNat r3)
  else(([],r.state,(if r.state=2 then r.code else 0),0),c.BV k.toNat r)
structure BK where
 Ag:List AM
 room:Nat
def BK.b(d:BK):List UInt8:=Ar d.Ag
def BK.add(d:BK)(f:AM):Option BK:=if d.room<(d.b++Ak f).length then none else some {d with Ag:=d.Ag++[f]}
def Bw(k off:Nat)(fin:Bool)(ds:List UInt8):AM:=⟨5,k,off,0,fin,AW ds,[]⟩
def HL(k code off:Nat):AM:=⟨4,k,off,code,false,⟨#[]⟩,[]⟩
def BT(rs:List AT):AM:=⟨3,0,0,0,false,⟨#[]⟩,rs⟩
def ED(code:Nat):AM:=⟨6,0,0,code,false,⟨#[]⟩,[]⟩
def cut(b:List UInt8)(lo hi:Nat):List UInt8:=(b.take hi).drop lo
def AR.I7(w:AR)(d:BK)(k lo hi:Nat):Option (AR×BK):=
 let head:=(Ak (Bw k lo false (cut w.b lo hi))).length-(hi-lo)
 if lo<hi∧d.room<d.b.length+head+1 then none
 else
  let hi2:=min hi (lo+(d.room-d.b.length-head))
  let f:=Bw k lo (w.finished&&decide (hi2=w.b.length)) (cut w.b lo hi2)
  match d.add f with
  |none=>none
  |some d2=>some ({w with AO:=if lo<hi2 then w.AO.add lo (hi2-1)else w.AO,ending:=w.ending||f.fin,high:=max w.high hi2},d2)
def AR.fill(w:AR)(d:BK)(k:Nat):Option (AR×BK):=
 if w.given then
  if w.BG then none
  else match d.add (HL k w.code w.high)with
   |none=>none
   |some d2=>some ({w with BG:=true},d2)
 else if(AV 0 w.b.length w.AO.l).2≤(AV 0 w.b.length w.AO.l).1 then
  if w.finished=false∨w.ending=true∨w.ended=true then none else w.I7 d k w.b.length w.b.length
 else w.I7 d k (AV 0 w.b.length w.AO.l).1 (AV 0 w.b.length w.AO.l).2
def Dj(k:Nat):Nat→AR→BK→AR×BK
 |0,w,d=>(w,d)
 |n+1,w,d=>match w.fill d k with
  |none=>(w,d)
  |some (w2,d2)=>Dj k n w2 d2
def C7(d:BK)(ws:List AR)(k:Nat):Nat→List AR×BK
 |0=>(ws,d)
 |n+1=>C7 (Dj k (d.room+1) (ws.getD k Ab) d).2 (ws.set k (Dj k (d.room+1) (ws.getD k Ab) d).1) (k+1) n
def DZ(told:List AT)(room:Nat):Nat→Nat
 |0=>0
 |1=>1
 |n+2=>if room<(Ak (BT (told.take (n+2)))).length then DZ told room (n+1)else n+2
structure A4 where
 c:AD
 told:List AT
 out:List (List UInt8)
def AD.Bt(c:AD)(told:List AT):BK:=
 ⟨if told=[]then []else [BT (told.take (DZ told (c.AJ-16) told.length))],c.AJ-16⟩
def A4.Gh(z:A4):List AT:=z.told.drop (DZ z.told (z.c.AJ-16) z.told.length)
def A4.filled(z:A4):List AR×BK:=if z.c.Aa.length<10 then C7 (z.c.Bt z.told) z.c.ws 0 4 else(z.c.ws,z.c.Bt z.told)
def DE(fs:List AM):Bool:=fs.any (fun f=>decide (f.kind≠3))
def A4.step(z:A4):A4:=
 ⟨{z.c with ws:=z.filled.1,next:=z.c.next+1,Aa:=if DE z.filled.2.Ag then z.c.Aa++[⟨z.c.next,z.c.now,z.filled.2.Ag⟩]else z.c.Aa},z.Gh,z.out++[Bk z.c.ks (Ae z.c.first) (UInt64.ofNat z.c.next) z.filled.2.b]⟩
def B0:Nat→A4→A4
 |0,z=>z
 |n+1,z=>if z.filled.2.Ag=[]then {z with c:={z.c with ws:=z.filled.1}}else B0 n z.step
def AD.HR(c:AD):List (List UInt8)×AD:=
 if c.said then([],c)
 else([Bk c.ks (Ae c.first) (UInt64.ofNat c.next) (Ak (ED c.code))],{c with said:=true,next:=c.next+1})
def AD.As(c:AD):List (List UInt8)×AD:=
 if c.closed≠0 then c.HR
 else
  let z:=B0 40 ⟨{c with answer:=false},if c.answer then c.AI.l.reverse else [],[]⟩
  (z.out,z.c)
structure Iu where
 data:List UInt8
 AE:BD
 finished:Bool
 given:Bool
 code:Nat
 end_:Nat
 high:Nat
structure Hs where
 data:List UInt8
 there:List Bool
 high:Nat
 end_:Nat
 ended:Bool
 given:Bool
 code:Nat
 read:Nat
 state:Nat
structure Zd where
 number:Nat
 Ag:List AM
structure BP where
 AJ:Nat
 AF:Nat
 ks:List UInt8
 first:Bool
 closed:Nat
 code:Nat
 said:Bool
 next:Nat
 AI:BD
 O1:BD
 due:List Nat
 outs:List Iu
 ins:List Hs
 AO:List Zd
def Pu:Iu:=⟨[],.of 1073741824,false,false,0,0,0⟩
def ZB:Hs:=⟨[],[],0,0,false,false,0,0,0⟩
def BP.new(AJ AF:Nat)(ks:List UInt8)(first:Bool):BP:=
 ⟨AJ,AF,ks,first,0,0,false,0,.of 8,.of 1073741824,[],b_ 4 Pu,b_ 4 ZB,[]⟩
def BP.o(s:BP)(k:Nat):Iu:=s.outs.getD k Pu
def BP.i(s:BP)(k:Nat):Hs:=s.ins.getD k ZB
def BP.RC(s:BP)(k:Nat)(o:Iu):BP:={s with outs:=s.outs.set k o}
def BP.WJ(s:BP)(k:Nat)(x:Hs):BP:={s with ins:=s.ins.set k x}
def BP.of(s:BP)(k:Int):Nat:=if s.closed≠0 then 9 else if k<0∨4≤k then 2 else 0
def Iu.A0(o:Iu):Nat:=if o.AE.l=[]∨0<(rg o.AE.l 0).lo then 0 else(rg o.AE.l 0).hi+1
def BP.G6(s:BP)(k:Nat)(len:Nat):Nat:=
 min (min (s.AF-((s.o k).data.length-(s.o k).A0)) (4096-(s.o k).data.length)) len
def BP.write(s:BP)(k:Int)(xs:List UInt8):(Nat×Nat)×BP:=
 if s.of k≠0 then((0,s.of k),s)
 else if(s.o k.toNat).finished∨(s.o k.toNat).given then((0,3),s)
 else((s.G6 k.toNat xs.length,0),s.RC k.toNat {s.o k.toNat with data:=(s.o k.toNat).data++xs.take (s.G6 k.toNat xs.length)})
def BP.finish(s:BP)(k:Int):Nat×BP:=
 if s.of k≠0 then(s.of k,s)
 else if(s.o k.toNat).finished∨(s.o k.toNat).given then(3,s)
 else(0,s.RC k.toNat {s.o k.toNat with finished:=true})
def BP.giveUp(s:BP)(k:Int)(code:Nat):Nat×BP:=
 if s.of k≠0 then(s.of k,s)
 else if(s.o k.toNat).given∨4611686018427387903<code then(3,s)
 else(0,s.RC k.toNat {s.o k.toNat with given:=true,code:=code,end_:=(s.o k.toNat).high})
def BP.AE(s:BP)(k:Int):Nat×Nat:=if s.of k≠0 then(0,s.of k)else((s.o k.toNat).A0,0)
def BP.close(s:BP)(code:Nat):Nat×BP:=
 if s.closed≠0 then(9,s)else if 4611686018427387903<code then(3,s)else(0,{s with closed:=9,code:=code})
def pE(outs:List Iu)(f:AM):List Iu:=
 if f.kind=5∧0<f.data.size then
  outs.set f.stream.toNat {outs.getD f.stream.toNat Pu with AE:=(outs.getD f.stream.toNat Pu).AE.add f.offset (f.offset+f.data.size-1)}
 else outs
def pK(l:List AT)(outs:List Iu)(p:Zd):List Iu:=if A6 l p.number then p.Ag.foldl pE outs else outs
def BP.BM(s:BP)(l:List AT):BP:={s with outs:=s.AO.foldl (pK l) s.outs}
def Sy(ds:List UInt8)(off:Nat)(data:List UInt8)(there:List Bool):List UInt8×List Bool:=
 match ds with
 |[]=>(data,there)
 |d::ds=>if there.getD off false then Sy ds (off+1) data there else Sy ds (off+1) (data.set off d) (there.set off true)
def Hs.put(x:Hs)(f:AM):List UInt8×List Bool:=
 Sy f.data.data.toList f.offset (x.data++b_ (max x.high (f.offset+f.data.size)-x.data.length) 0) (x.there++b_ (max x.high (f.offset+f.data.size)-x.data.length) false)
def Hs.rN(x:Hs)(f:AM):Hs:=
 {x with high:=max x.high (f.offset+f.data.size),ended:=x.ended||f.fin,end_:=if f.fin then f.offset+f.data.size else x.end_,data:=(x.put f).1,there:=(x.put f).2}
def Hs.bytes(x:Hs)(f:AM):Nat×Hs:=
 if MY x.ended x.end_ x.high f then(7,x)else if x.given then(0,x)else(0,x.rN f)
def BP.take(s:BP)(f:AM):Nat×BP:=
 if f.kind=3 then if s.next≤(rg f.ranges 0).hi then(8,s)else(0,s.BM f.ranges)
 else if f.kind=4 then
  if(s.i f.stream.toNat).ended=true∧(s.i f.stream.toNat).end_≠f.offset∨f.offset<(s.i f.stream.toNat).high then(7,s)
  else(0,s.WJ f.stream.toNat {s.i f.stream.toNat with code:=if(s.i f.stream.toNat).given then(s.i f.stream.toNat).code else f.code,given:=true,ended:=true,end_:=f.offset})
 else if f.kind=5 then(((s.i f.stream.toNat).bytes f).1,s.WJ f.stream.toNat ((s.i f.stream.toNat).bytes f).2)
 else if f.kind=6 then(10,s)else(0,s)
def BP.shut(s:BP)(e:Nat):BP:={s with closed:=e,code:=e,said:=decide (e=10)}
def fe(number:Nat)(due:List Nat)(f:AM):List Nat:=
 if f.kind≠3∧f.kind≠1∧(due=[]∨due.getD (due.length-1) 0≠number)then due++[number]else due
def BP.BO(s:BP)(number:Nat):List AM→Nat×BP
 |[]=>(0,s)
 |f::fs=>if(s.take f).1≠0 then((s.take f).1,(s.take f).2.shut (s.take f).1)
  else({(s.take f).2 with due:=fe number (s.take f).2.due f}:BP).BO number fs
def BP.busy(s:BP)(f:AM):Prop:=f.kind=5∧(s.i f.stream.toNat).state≠2∧(s.i f.stream.toNat).given=false∧(s.i f.stream.toNat).read+s.AF<f.offset+f.data.size
instance(s:BP)(f:AM):Decidable (s.busy f):=by unfold BP.busy;infer_instance
def BP.BA(s:BP)(p:List UInt8):(Nat×Int)×BP:=
 if s.closed≠0 then((9,-1),s)
 else match B3 s.ks (Ae (!s.first)) p with
  |none=>((4,-1),s)
  |some (number,b)=>
   if s.AI.has number.toNat then((0,-1),s)
   else match FN b with
    | .error at_=>((5,at_),{s with closed:=5,code:=5})
    | .ok fs=>
     if ∃f∈fs,s.busy f then((6,-1),s)
     else((((({s with AI:=s.AI.add number.toNat number.toNat,O1:=s.O1.add number.toNat number.toNat}:BP).BO number.toNat fs).1,-1)),
      (({s with AI:=s.AI.add number.toNat number.toNat,O1:=s.O1.add number.toNat number.toNat}:BP).BO number.toNat fs).2)
def lI(there:List Bool)(high:Nat):Nat→Nat→Nat
 |0,_=>0
 |n+1,read=>if read<high∧there.getD read false=true then lI there high n (read+1)+1 else 0
def BP.read(s:BP)(k:Int)(AL:Int):(List UInt8×Nat×Nat×Nat)×BP:=
 if s.of k≠0 then(([],0,0,s.of k),s)
 else
  let x:=s.i k.toNat
  let x1:=if x.given=true∧x.state=0 then {x with state:=2}else x
  let n:=if x1.state=0 then lI x1.there x1.high AL.toNat x1.read else 0
  let x2:={x1 with read:=x1.read+n}
  let x3:=if x2.ended=true∧x2.read=x2.end_∧x2.state=0 then {x2 with state:=1}else x2
  (((x1.data.drop x1.read).take n,x3.state,(if x3.state=2 then x3.code else 0),0),s.WJ k.toNat x3)
def BP.opened(s:BP)(b:List UInt8):Option (List AM)×BP:=
 match B3 s.ks (Ae s.first) b with
 |none=>(none,s)
 |some (number,p)=>
  if s.AJ<b.length∨number.toNat≠s.next then(none,s)
  else match FN p with
   | .error _=>(none,{s with next:=s.next+1})
   | .ok l=>(if Fu l=some p then some l else none,{s with next:=s.next+1})
def BP.HR(s:BP)(l:List (List UInt8)):Bool×BP:=
 if s.said then(decide (l.length=0),s)
 else if l.length≠1 then(false,{s with said:=true})
 else match(({s with said:=true}:BP).opened (l.getD 0 []))with
  |(none,s2)=>(false,s2)
  |(some fs,s2)=>(decide (fs.length=1∧(fs.getD 0 (ED 0)).kind=6∧(fs.getD 0 (ED 0)).code=s2.code),s2)
def BP.Tx(s:BP)(f:AM):Bool×BP:=
 if ∀r∈f.ranges,∃e∈s.O1.l,e.lo≤r.lo∧r.hi≤e.hi then
  (true,{s with due:=s.due.filter (fun n=> !(decide (n<s.AI.floor)||A6 f.ranges n))})
 else(false,s)
def BP.sends(s:BP)(f:AM):Bool×BP:=
 let o:=s.o f.stream.toNat
 let e:=f.offset+f.data.size
 if o.given=true∨o.data.length<e∨(o.data.take e).drop f.offset≠f.data.data.toList then(false,s)
 else if(f.fin≠(o.finished&&decide (e=o.data.length)))∨(f.data.size=0∧f.fin=false)then(false,s)
 else(true,s.RC f.stream.toNat {o with high:=max o.high e})
def BP.may(s:BP)(f:AM):Bool×BP:=
 if f.kind=3 then s.Tx f
 else if f.kind=4 then(decide ((s.o f.stream.toNat).given=true∧f.offset=(s.o f.stream.toNat).end_∧f.code=(s.o f.stream.toNat).code),s)
 else if f.kind=5 then s.sends f else(false,s)
def Es:List AT→Prop
 |[]=>True
 |r::rs=>r.lo≤r.hi∧(∀s∈rs,r.hi+1<s.lo)∧Es rs
theorem L7(n:Nat):¬Ao n []:=by rintro⟨r,h,_⟩;cases h
theorem Fl(n:Nat)(r:AT)(rs:List AT):Ao n (r::rs)↔(r.lo≤n∧n≤r.hi)∨Ao n rs:=by
 simp [Ao,d_]
theorem LL:∀(l:List AT) (lo hi n:Nat),lo≤hi→(Ao n (B2 lo hi l)↔(lo≤n∧n≤hi)∨Ao n l)
 |[],lo,hi,n,h=>by simp [B2,Ao]
 |r::rs,lo,hi,n,h=>by
  rw [B2];split
  ·rw [Fl,LL rs lo hi n h,Fl];constructor<;>rintro(h|h|h)<;>simp_all
  split
  ·rw [Fl,Fl]
  ·rw [LL rs _ _ n Ca,Fl];constructor
   ·rintro(h1|h1)
    ·by_cases h2:lo≤n∧n≤hi
     ·exact .inl h2
     ·refine .inr (.inl ?_);omega
    ·exact .inr (.inr h1)
   ·rintro(h1|h1|h1)
    ·left;omega
    ·left;omega
    ·exact .inr h1
theorem SF:∀(l:List AT) (lo hi m:Nat),m≤lo→(∀s∈l,m≤s.lo)→∀s∈B2 lo hi l,m≤s.lo
 |[],lo,hi,m,h,_=>by simp [B2];exact h
 |r::rs,lo,hi,m,h,h2=>by
  have hr:=h2 r Ce;have h3:∀s∈rs,m≤s.lo:=fun s hs=>h2 s K6;rw [B2];split
  ·intro s hs;rcases d_.1 hs with rfl|hs
   ·exact hr
   ·exact SF rs lo hi m h h3 s hs
  split
  ·intro s hs;rcases d_.1 hs with rfl|hs
   ·exact h
   ·exact h2 s hs
  ·exact SF rs _ _ m Ca h3
theorem Kz:∀(l:List AT) (lo hi m:Nat),hi≤m→(∀s∈l,s.hi≤m)→∀s∈B2 lo hi l,s.hi≤m
 |[],lo,hi,m,h,_=>by simp [B2];exact h
 |r::rs,lo,hi,m,h,h2=>by
  have hr:=h2 r Ce;have h3:∀s∈rs,s.hi≤m:=fun s hs=>h2 s K6;rw [B2];split
  ·intro s hs;rcases d_.1 hs with rfl|hs
   ·exact hr
   ·exact Kz rs lo hi m h h3 s hs
  split
  ·intro s hs;rcases d_.1 hs with rfl|hs
   ·exact h
   ·exact h2 s hs
  ·exact Kz rs _ _ m Ca h3
theorem K5:∀(l:List AT) (lo hi:Nat),lo≤hi→Es l→Es (B2 lo hi l)
 |[],lo,hi,h,_=>by simp [B2,Es];exact h
 |r::rs,lo,hi,h,⟨h1,h2,h3⟩=>by
  rw [B2];split
  ·refine⟨h1,?_,K5 rs lo hi h h3⟩;intro s hs
   have:=SF rs lo hi (r.hi+2) Ca (fun s hs=>by have:=h2 s hs;omega) s hs
   omega
  split
  ·refine⟨h,?_,h1,h2,h3⟩;intro s hs;rcases d_.1 hs with rfl|hs
   ·omega
   ·have:=h2 s hs;simp only [];omega
  ·exact K5 rs _ _ Ca h3
theorem Qk:∀(l:List AT) (lo hi:Nat),(B2 lo hi l).length≤l.length+1
 |[],lo,hi=>by simp [B2]
 |r::rs,lo,hi=>by
  rw [B2];split
  ·have:=Qk rs lo hi;simp;omega
  split
  ·simp
  ·have:=Qk rs (min lo r.lo) (max hi r.hi);simp;omega
theorem Lj(l:List AT)(lo hi:Nat):B2 lo hi l≠ []:=by
 cases l with
 |nil=>simp [B2]
 |cons r rs=>
  rw [B2];split
  ·simp
  split
  ·simp
  ·exact Lj rs _ _
theorem Vv:∀(l:List AT) (a m:Nat),Es l→(∀s∈l,a≤s.lo)→(∀s∈l,s.hi<m)→a+2*l.length≤m+1∨l=[]
 |[],a,m,_,_,_=>.inr rfl
 |r::rs,a,m,⟨h1,h2,h3⟩,ha,hm=>by
  left;have h4:=ha r Ce;have h5:=hm r Ce;rcases Vv rs (r.hi+2) m h3 (fun s hs=>by have:=h2 s hs;omega) (fun s hs=>hm s K6)with h6|rfl
  ·simp;omega
  ·simp;omega
structure DK(s:BD)(m:Nat):Prop where
 inc:Es s.l
 lo:∀r∈s.l,s.floor≤r.lo
 hi:∀r∈s.l,r.hi<m
 len:s.l.length≤s.AL
 fl:s.floor≤m
theorem DK.of{AL m:Nat}:DK (.of AL) m:=⟨trivial,(fun _ h=>nomatch h),(fun _ h=>nomatch h),g' _,g' _⟩
theorem uB{r:AT}{l:List AT}(h:Es (r::l)):Es l:=h.2.2
theorem DK.add{s:BD}{m:Nat}(h:DK s m)(lo hi:Nat)(hm:hi<m)(h0:1≤s.AL):DK (s.add lo hi) m∧(s.add lo hi).AL=s.AL:=by
 unfold BD.add;split
 ·exact⟨h,rfl⟩
 ·rename_i hc;have hi1:=K5 s.l _ hi (by omega:max lo s.floor≤hi) h.inc;have hlo:=SF s.l (max lo s.floor) hi s.floor Ca h.lo;have hhi:=Kz s.l (max lo s.floor) hi (m-1) Ca (fun r hr=>by have:=h.hi r hr;omega);have hlen:=Qk s.l (max lo s.floor) hi;split
  ·refine⟨?_,rfl⟩
   cases e:B2 (max lo s.floor) hi s.l with
   |nil=>exact absurd e (Lj _ _ _)
   |cons r rs=>
    rw [e]at hi1 hlo hhi hlen;refine⟨uB hi1,fun t ht=>?_,fun t ht=>?_,?_,?_⟩
    ·have:=hi1.2.1 t ht;simp only [ld]at*;omega
    ·have:=hhi t (by simp;exact .inr ht);omega
    ·simp only [List.tail_cons];have:=h.len;simp at hlen;omega
    ·have:=hhi r Ce;simp only [ld];omega
  ·refine⟨⟨hi1,hlo,fun t ht=>?_,by show(B2 (max lo s.floor) hi s.l).length≤s.AL;omega,h.fl⟩,rfl⟩
   have:=hhi t ht;omega
theorem BD.OQ{s:BD}{lo hi n:Nat}(h:Ao n (s.add lo hi).l):Ao n s.l∨(lo≤n∧n≤hi):=by
 unfold BD.add at h;split at h
 ·exact .inl h
 ·rename_i hc;have hin:=LL s.l (max lo s.floor) hi n Ca
  have hk:Ao n (B2 (max lo s.floor) hi s.l):=by
   split at h
   ·cases e:B2 (max lo s.floor) hi s.l with
    |nil=>exact absurd e (Lj _ _ _)
    |cons r rs=>rw [e]at h;rw [Fl];exact .inr h
   ·exact h
  rcases hin.1 hk with h1|h1
  ·exact Kl
  ·exact .inl h1
theorem BD.cW{s:BD}{lo hi:Nat}(hf:s.floor=0)(hl:lo≤hi)(hlen:(B2 lo hi s.l).length≤s.AL):s.add lo hi=⟨B2 lo hi s.l,0,s.AL⟩:=by
 unfold BD.add;rw [hf,Nat.max_zero,if_neg Ca,if_neg Ca]
theorem HS:∀(l:List AT) (lo hi:Nat),Es l→lo≤hi→
  lo≤(AV lo hi l).1∧(∀n,lo≤n→n<(AV lo hi l).1→Ao n l)∧(AV lo hi l).2≤hi∧
  ((AV lo hi l).1<(AV lo hi l).2→∀n,(AV lo hi l).1≤n→n<(AV lo hi l).2→¬Ao n l)∧((AV lo hi l).2≤(AV lo hi l).1→hi≤(AV lo hi l).1):=by
 intro l
 induction l with
 |nil=>intro lo hi _ h;simp only [AV];exact⟨Ca,fun n _ _=>by omega,Ca,fun _ n _ _=>L7 n,fun _=>by omega⟩
 |cons r rs ih=>
  intro lo hi ⟨h1,h2,h3⟩ h;rw [AV];split
  ·rename_i hc;obtain⟨a,b,c,d,e⟩:=ih lo hi h3 h;refine⟨a,fun n h4 h5=>(Fl n r rs).2 (.inr (b n h4 h5)),c,fun h4 n h5 h6 h7=>?_,e⟩;rcases(Fl n r rs).1 h7 with h8|h8
   ·omega
   ·exact d h4 n h5 h6 h8
  split
  ·rename_i hc hd;refine⟨Ce,fun n h4 h5=>by simp at h5;omega,Cl,fun h4 n h5 h6 h7=>?_,fun h4=>by simp at h4⊢;omega⟩;simp at h5 h6;rcases(Fl n r rs).1 h7 with h8|⟨s,hs,h8⟩
   ·omega
   ·have:=h2 s hs;omega
  ·rename_i hc hd;by_cases hh:r.hi+1≤hi
   ·obtain⟨a,b,c,d,e⟩:=ih (r.hi+1) hi h3 hh;refine⟨Ca,fun n h4 h5=>?_,c,fun h4 n h5 h6 h7=>?_,e⟩
    ·by_cases h6:n≤r.hi
     ·exact(Fl n r rs).2 (.inl Ca)
     ·exact cQ
    ·rcases(Fl n r rs).1 h7 with h8|h8
     ·omega
     ·exact d h4 n h5 h6 h8
   ·have hbig:∀(l:List AT) (lo hi:Nat),hi≤lo→Es l→lo≤(AV lo hi l).1∧(∀n,lo≤n→n<(AV lo hi l).1→Ao n l)∧(AV lo hi l).2≤hi:=by
     intro l
     induction l with
     |nil=>intro lo hi h _;simp only [AV];exact⟨Ca,fun n _ _=>by omega,Ca⟩
     |cons t ts ih2=>
      intro lo hi h ⟨g1,g2,g3⟩;rw [AV];split
      ·obtain⟨a,b,c⟩:=ih2 lo hi h g3;exact⟨a,fun n h4 h5=>(Fl n t ts).2 (.inr (b n h4 h5)),c⟩
      split
      ·exact⟨Ce,fun n h4 h5=>by simp at h5;omega,Cl⟩
      ·obtain⟨a,b,c⟩:=ih2 (t.hi+1) hi Ca g3;refine⟨Ca,fun n h4 h5=>?_,c⟩;by_cases h6:n≤t.hi
       ·exact(Fl n t ts).2 (.inl Ca)
       ·exact(Fl n t ts).2 (.inr (b n Ca h5))
    obtain⟨a,b,c⟩:=hbig rs (r.hi+1) hi Ca h3;refine⟨Ca,fun n h4 h5=>?_,c,fun h4=>by omega,fun _=>by omega⟩;by_cases h6:n≤r.hi
    ·exact(Fl n r rs).2 (.inl Ca)
    ·exact cQ
theorem LU{l:List AT}{lo hi:Nat}(hI:Es l)(h:lo≤hi)(hb:∀r∈l,r.hi<hi):(AV lo hi l).1≤hi∧¬Ao (AV lo hi l).1 l:=by
 obtain⟨a,b,c,d,e⟩:=HS l lo hi hI h
 have hle:(AV lo hi l).1≤hi:=by
  rcases i_ hi (AV lo hi l).1 with h1|h1
  ·obtain⟨r,hr,h2⟩:=b hi h h1
   have:=hb r hr;omega
  ·exact h1
 refine⟨hle,fun hin=>?_⟩;rcases i_ (AV lo hi l).1 (AV lo hi l).2 with h1|h1
 ·exact d h1 _ CW h1 hin
 ·have:=e h1
  obtain⟨r,hr,h2⟩:=hin
  have:=hb r hr;omega
theorem Bs{α:Type}(l:List α)(i k:Nat)(x d:α):(l.set i x).getD k d=if i=k∧i<l.length then x else l.getD k d:=by
 simp only [e_,List.getElem?_set];by_cases h:i=k
 ·subst h;by_cases h2:i<l.length
  ·simp [h2]
  ·simp [h2]
 ·simp [h]
theorem DK.mono{s:BD}{m m':Nat}(h:DK s m)(hm:m≤m'):DK s m':=
 ⟨h.inc,h.lo,fun r hr=>by have:=h.hi r hr;omega,h.len,by have:=h.fl;omega⟩
structure CJ(AF:Nat)(w:AR):Prop where
 len:w.b.length≤4096
 so:DK w.AO w.b.length
 sf:w.AO.floor=0
 sm:w.AO.AL=4096
 co:DK w.AE w.b.length
 cf:w.AE.floor=0
 cm:w.AE.AL=4096
 room:w.b.length≤w.A0+AF
 high:w.high≤w.b.length
 code:w.code≤4611686018427387903
theorem IR{s:BD}{m lo hi:Nat}(h:DK s m)(hf:s.floor=0)(hm:s.AL=4096)(hm4:m≤4096)(hhi:hi<m):
  DK (s.add lo hi) m∧(s.add lo hi).floor=0∧(s.add lo hi).AL=4096∧(lo≤hi→(s.add lo hi).l=B2 lo hi s.l)∧∀n,Ao n (s.add lo hi).l↔(lo≤n∧n≤hi)∨Ao n s.l:=by
 by_cases hl:lo≤hi
 ·have h1:=K5 s.l lo hi hl h.inc;have h2:=Kz s.l lo hi (m-1) Ca (fun r hr=>by have:=h.hi r hr;omega);have h3:=Vv _ 0 m h1 (fun _ _=>g' _) (fun r hr=>by have:=h2 r hr;omega)
  have h4:(B2 lo hi s.l).length≤s.AL:=by
   rcases h3 with h3|h3
   ·omega
   ·exact absurd h3 (Lj _ _ _)
  have e:=BD.cW hf hl h4;rw [e];exact⟨⟨h1,fun _ _=>g' _,fun r hr=>by have:=h2 r hr;omega,h4,g' _⟩,rfl,hm,fun _=>rfl,fun n=>LL s.l lo hi n hl⟩
 ·have e:s.add lo hi=s:=by unfold BD.add;rw [if_pos Ca]
  rw [e];exact⟨h,hf,hm,fun h=>absurd h hl,fun n=>⟨.inr,fun h=>by rcases h with h|h;omega;exact h⟩⟩
theorem CJ.NV{AF:Nat}{w:AR}(h:CJ AF w):w.A0≤w.b.length:=(LU h.co.inc EX h.co.hi).1
theorem CJ.wG{AF:Nat}{w:AR}(h:CJ AF w):¬Ao w.A0 w.AE.l:=(LU h.co.inc EX h.co.hi).2
theorem CJ.Wd{AF:Nat}{w:AR}(h:CJ AF w){n:Nat}(hn:n<w.A0):Ao n w.AE.l:=
 (HS w.AE.l 0 w.b.length h.co.inc EX).2.1 n EX hn
theorem Rb{w w':AR}(hI:Es w.AE.l)(hI':Es w'.AE.l)(hb:∀r∈w'.AE.l,r.hi<w'.b.length)(h:∀n,Ao n w.AE.l→Ao n w'.AE.l):w.A0≤w'.A0:=by
 rcases i_ w'.A0 w.A0 with h1|h1
 ·exfalso;exact(LU hI' EX hb).2 (h _ ((HS w.AE.l 0 w.b.length hI EX).2.1 _ EX h1))
 ·exact h1
structure Gg(w w':AR):Prop where
 b:w'.b=w.b
 high:w'.high=w.high
 finished:w'.finished=w.finished
 given:w'.given=w.given
 code:w'.code=w.code
theorem Gg.refl(w:AR):Gg w w:=Gz
theorem Gg.trans{a b c:AR}(h:Gg a b)(g:Gg b c):Gg a c:=⟨g.b.trans h.b,g.high.trans h.high,g.finished.trans h.finished,g.given.trans h.given,g.code.trans h.code⟩
def EC(ws:List AR)(f:AM):Prop:=0≤f.stream∧f.stream<4∧(f.kind=5→f.offset+f.data.size≤(ws.getD f.stream.toNat Ab).b.length)
structure Dd(AF:Nat)(ws:List AR):Prop where
 len:ws.length=4
 ok:∀k,k<4→CJ AF (ws.getD k Ab)
theorem Rf{m lo hi:Nat}(hm4:m≤4096):∀(l:List AT) (s:BD),DK s m→s.floor=0→s.AL=4096→(∀r∈l,r.hi<m)→
  DK (l.foldl (Dg lo hi) s) m∧(l.foldl (Dg lo hi) s).floor=0∧(l.foldl (Dg lo hi) s).AL=4096
 |[],s,h,hf,hm,_=>⟨h,hf,hm⟩
 |r::l,s,h,hf,hm,hr=>by
  have h1:=hr r Ce;rw [g_]
  have h2:DK (Dg lo hi s r) m∧(Dg lo hi s r).floor=0∧(Dg lo hi s r).AL=4096:=by
   unfold Dg;by_cases ha:r.lo<lo
   ·obtain⟨a,b,c,_⟩:=IR (lo:=r.lo) (hi:=min r.hi (lo-1)) h hf hm hm4 Ca;simp only [ha,if_true];split
    ·obtain⟨a',b',c',_⟩:=IR (lo:=max r.lo hi) (hi:=r.hi) a b c hm4 h1;exact⟨a',b',c'⟩
    ·exact⟨a,b,c⟩
   ·simp only [ha,if_false];split
    ·obtain⟨a',b',c',_⟩:=IR (lo:=max r.lo hi) (hi:=r.hi) h hf hm hm4 h1;exact⟨a',b',c'⟩
    ·exact⟨h,hf,hm⟩
  exact Rf hm4 l _ h2.1 h2.2.1 h2.2.2 (fun t ht=>hr t (by simp [ht]))
theorem U8{m:Nat}(hm4:m≤4096):∀(l:List AT) (s:BD),DK s m→s.floor=0→s.AL=4096→(∀r∈l,r.hi<m)→
  DK (l.foldl (fun s r=>s.add r.lo r.hi) s) m∧(l.foldl (fun s r=>s.add r.lo r.hi) s).floor=0∧(l.foldl (fun s r=>s.add r.lo r.hi) s).AL=4096
 |[],s,h,hf,hm,_=>⟨h,hf,hm⟩
 |r::l,s,h,hf,hm,hr=>by
  rw [g_];obtain⟨a,b,c,_⟩:=IR (lo:=r.lo) (hi:=r.hi) h hf hm hm4 (hr r Ce);exact U8 hm4 l _ a b c (fun t ht=>hr t (by simp [ht]))
theorem CJ.again{AF:Nat}{w:AR}(h:CJ AF w)(f:AM):CJ AF (w.again f)∧Gg w (w.again f)∧(w.again f).AE=w.AE:=by
 unfold AR.again;split
 ·obtain⟨a,b,c⟩:=Rf (lo:=f.offset) (hi:=f.offset+f.data.size) h.len w.AO.l.reverse (.of 4096) .of rfl rfl (fun r hr=>h.so.hi r Nh);obtain⟨a',b',c'⟩:=U8 h.len w.AE.l.reverse _ a b c (fun r hr=>h.co.hi r Nh);exact⟨⟨h.len,a',b',c',h.co,h.cf,h.cm,h.room,h.high,h.code⟩,Gz,rfl⟩
 split
 ·exact⟨⟨h.len,h.so,h.sf,h.sm,h.co,h.cf,h.cm,h.room,h.high,h.code⟩,Gz,rfl⟩
 ·exact⟨h,.refl _,rfl⟩
theorem Dd.set{AF:Nat}{ws:List AR}(h:Dd AF ws){k:Nat}{w:AR}(hw:CJ AF w):Dd AF (ws.set k w):=by
 refine⟨by rw [List.length_set];exact h.len,fun j hj=>?_⟩;rw [Bs];split
 ·exact hw
 ·exact h.ok j hj
structure Fr(ws ws':List AR):Prop where
 same:∀k,Gg (ws.getD k Ab) (ws'.getD k Ab)
theorem Fr.refl(ws:List AR):Fr ws ws:=⟨fun _=>.refl _⟩
theorem Fr.trans{a b c:List AR}(h:Fr a b)(g:Fr b c):Fr a c:=⟨fun k=>(h.same k).trans (g.same k)⟩
theorem Fr.set{ws:List AR}{k:Nat}{w:AR}(h:Gg (ws.getD k Ab) w):Fr ws (ws.set k w):=⟨fun j=>by
 rw [Bs];split
 ·rename_i e;rw [←e.1];exact h
 ·exact .refl _⟩
theorem EC.same{ws ws':List AR}{f:AM}(h:EC ws f)(g:Fr ws ws'):EC ws' f:=⟨h.1,h.2.1,fun hk=>by rw [(g.same _).b];exact h.2.2 hk⟩
theorem VD{AF:Nat}:∀(fs:List AM) (ws:List AR),Dd AF ws→(∀f∈fs,EC ws f)→Dd AF (fs.foldl FZ ws)∧Fr ws (fs.foldl FZ ws)∧∀k,((fs.foldl FZ ws).getD k Ab).AE=(ws.getD k Ab).AE
 |[],ws,h,_=>⟨h,.refl _,fun _=>rfl⟩
 |f::fs,ws,h,hf=>by
  rw [g_];have hf1:=hf f Ce;have h1:=(h.ok f.stream.toNat (by have:=hf1.1;have:=hf1.2.1;omega)).again f;have h2:Dd AF (FZ ws f):=h.set h1.1;have h3:Fr ws (FZ ws f):=.set h1.2.1;obtain⟨a,b,c⟩:=VD fs (FZ ws f) h2 (fun g hg=>(hf g Ci).same h3);refine⟨a,h3.trans b,fun k=>?_⟩;rw [c k];unfold FZ;rw [Bs];split
  ·rename_i e;rw [h1.2.2,e.1]
  ·rfl
theorem NU{AF:Nat}:∀(ps:List DR) (ws:List AR),Dd AF ws→(∀p∈ps,∀f∈p.Ag,EC ws f)→Dd AF (ps.foldl IW ws)∧Fr ws (ps.foldl IW ws)∧∀k,((ps.foldl IW ws).getD k Ab).AE=(ws.getD k Ab).AE
 |[],ws,h,_=>⟨h,.refl _,fun _=>rfl⟩
 |p::ps,ws,h,hf=>by
  rw [g_];obtain⟨a,b,c⟩:=VD p.Ag ws h (hf p Ce);obtain⟨a',b',c'⟩:=NU ps (IW ws p) a (fun q hq f hfq=>(hf q Ji f hfq).same b);exact⟨a',b.trans b',fun k=>(c' k).trans (c k)⟩
def E8(fs:List AM)(k n:Nat):Prop:=∃f∈fs,f.kind=5∧0<f.data.size∧f.stream.toNat=k∧f.offset≤n∧n<f.offset+f.data.size
theorem Za(k n:Nat):¬E8 [] k n:=by rintro⟨f,h,_⟩;cases h
theorem Pn(f:AM)(fs:List AM)(k n:Nat):E8 (f::fs) k n↔(f.kind=5∧0<f.data.size∧f.stream.toNat=k∧f.offset≤n∧n<f.offset+f.data.size)∨E8 fs k n:=by
 simp [E8,d_]
theorem CJ.named{AF:Nat}{w:AR}(h:CJ AF w)(inn:Bool)(f:AM)(hf:f.kind=5→f.offset+f.data.size≤w.b.length):
  CJ AF (w.named inn f)∧Gg w (w.named inn f)∧∀n,Ao n (w.named inn f).AE.l↔Ao n w.AE.l∨(inn=true∧f.kind=5∧0<f.data.size∧f.offset≤n∧n<f.offset+f.data.size):=by
 unfold AR.named;by_cases hc:inn=true∧f.kind=5∧f.data.size≠0
 ·simp only [hc,ne_eq,not_false_eq_true,and_self,if_true];have hb:=hf hc.2.1
  have hpos:0<f.data.size:=by omega
  obtain⟨a,b,c,_,e⟩:=IR (lo:=f.offset) (hi:=f.offset+f.data.size-1) h.co h.cf h.cm h.len Ca;obtain⟨a',b',c',_⟩:=IR (lo:=f.offset) (hi:=f.offset+f.data.size-1) h.so h.sf h.sm h.len Ca;refine⟨⟨h.len,a',b',c',a,b,c,?_,h.high,h.code⟩,Gz,fun n=>?_⟩
  ·refine lf h.room (Nat.add_le_add_right (Rb h.co.inc a.inc a.hi fun n hn=>?_) _);exact(e n).2 (.inr hn)
  ·rw [e n];constructor
   ·rintro(g|g)
    ·exact aV
    ·exact .inl g
   ·rintro(g|g)
    ·exact .inr g
    ·exact .inl ⟨g.2.2.2.1,Ca⟩
 ·rw [if_neg hc];refine⟨⟨h.len,h.so,h.sf,h.sm,h.co,h.cf,h.cm,h.room,h.high,h.code⟩,Gz,fun n=>⟨.inl,?_⟩⟩;rintro(g|⟨g1,g2,g3,g4,g5⟩)
  ·exact g
  ·exact absurd ⟨g1,g2,Ca⟩ hc
theorem Ql{AF:Nat}{inn:Bool}:∀(fs:List AM) (ws:List AR),Dd AF ws→(∀f∈fs,EC ws f)→
  Dd AF (fs.foldl (FR inn) ws)∧Fr ws (fs.foldl (FR inn) ws)∧∀k n,Ao n ((fs.foldl (FR inn) ws).getD k Ab).AE.l↔Ao n (ws.getD k Ab).AE.l∨(inn=true∧E8 fs k n)
 |[],ws,h,_=>⟨h,.refl _,fun k n=>⟨.inl,fun h=>by rcases h with h|h;exact h;exact absurd h.2 (Za _ _)⟩⟩
 |f::fs,ws,h,hf=>by
  rw [g_];have hf1:=hf f Ce
  have hk4:f.stream.toNat<4:=by have:=hf1.1;have:=hf1.2.1;omega
  have h1:=(h.ok f.stream.toNat hk4).named inn f hf1.2.2;have h2:Dd AF (FR inn ws f):=h.set h1.1;have h3:Fr ws (FR inn ws f):=.set h1.2.1;obtain⟨a,b,c⟩:=Ql fs (FR inn ws f) h2 (fun g hg=>(hf g Ci).same h3);refine⟨a,h3.trans b,fun k n=>?_⟩;rw [c k n,Pn]
  have h5:Ao n ((FR inn ws f).getD k Ab).AE.l↔Ao n (ws.getD k Ab).AE.l∨(inn=true∧f.kind=5∧0<f.data.size∧f.stream.toNat=k∧f.offset≤n∧n<f.offset+f.data.size):=by
   unfold FR;rw [Bs];by_cases e:f.stream.toNat=k
   ·subst e;rw [if_pos ⟨rfl,by rw [h.len];exact hk4⟩,h1.2.2 n]
    simp
   ·rw [if_neg (fun h=>e h.1)];exact⟨.inl,fun h=>by rcases h with h|h;exact h;exact absurd h.2.2.2.1 e⟩
  rw [h5];constructor
  ·rintro((g|⟨g1,g2⟩)|⟨g1,g2⟩)
   ·exact .inl g
   ·exact .inr ⟨g1,.inl g2⟩
   ·exact .inr ⟨g1,.inr g2⟩
  ·rintro(g|⟨g1,g2|g2⟩)
   ·exact .inl (.inl g)
   ·exact .inl (.inr ⟨g1,g2⟩)
   ·exact .inr ⟨g1,g2⟩
theorem LI{AF:Nat}{l:List AT}:∀(ps:List DR) (ws:List AR),Dd AF ws→(∀p∈ps,∀f∈p.Ag,EC ws f)→
  Dd AF (ps.foldl (Hv l) ws)∧Fr ws (ps.foldl (Hv l) ws)∧∀k n,Ao n ((ps.foldl (Hv l) ws).getD k Ab).AE.l↔Ao n (ws.getD k Ab).AE.l∨∃p∈ps,A6 l p.number=true∧E8 p.Ag k n
 |[],ws,h,_=>⟨h,.refl _,fun k n=>⟨.inl,fun h=>by rcases h with h|⟨p,h,_⟩;exact h;cases h⟩⟩
 |p::ps,ws,h,hf=>by
  rw [g_];obtain⟨a,b,c⟩:=Ql (inn:=A6 l p.number) p.Ag ws h (hf p Ce);obtain⟨a',b',c'⟩:=LI (l:=l) ps (Hv l ws p) a (fun q hq f hfq=>(hf q Ji f hfq).same b);refine⟨a',b.trans b',fun k n=>?_⟩;rw [c' k n,show Ao n ((Hv l ws p).getD k Ab).AE.l↔_ from c k n];constructor
  ·rintro((g|g)|⟨q,hq,g⟩)
   ·exact .inl g
   ·exact .inr ⟨p,Ce,g⟩
   ·exact .inr ⟨q,Ji,g⟩
  ·rintro(g|⟨q,hq,g⟩)
   ·exact .inl (.inl g)
   ·rcases d_.1 hq with rfl|hq
    ·exact .inl (.inr g)
    ·exact .inr ⟨q,hq,g⟩
theorem TM{l:List AT}{read high:Nat}(hI:Es l)(hp:∀n,n<read→Ao n l)(hh:∀r∈l,r.hi<high)(hw:high≤read+1024):l.length≤514:=by
 cases l with
 |nil=>simp
 |cons r rs=>
  obtain⟨h1,h2,h3⟩:=hI
  have h4:read≤r.hi+1:=by
   rcases i_ (r.hi+1) read with h|h
   ·rcases(Fl (r.hi+1) r rs).1 (hp _ h)with h5|⟨s,hs,h5⟩
    ·omega
    ·have:=h2 s hs;omega
   ·exact h
  rcases Vv rs (r.hi+2) high h3 (fun s hs=>by have:=h2 s hs;omega) (fun s hs=>hh s K6)with h5|rfl
  ·simp;omega
  ·simp
theorem Yo{s:BD}{m lo hi:Nat}(h:DK s m)(hf:s.floor=0)(hm:s.AL=4096)(hl:s.l.length≤600)(hlo:lo≤hi)(hhi:hi<m):
  DK (s.add lo hi) m∧(s.add lo hi).floor=0∧(s.add lo hi).AL=4096∧∀n,Ao n (s.add lo hi).l↔(lo≤n∧n≤hi)∨Ao n s.l:=by
 have h1:=K5 s.l lo hi hlo h.inc;have h2:=Kz s.l lo hi (m-1) Ca (fun r hr=>by have:=h.hi r hr;omega);have h3:=Qk s.l lo hi;have e:=BD.cW hf hlo (by omega:(B2 lo hi s.l).length≤s.AL);rw [e];exact⟨⟨h1,fun _ _=>g' _,fun r hr=>by have:=h2 r hr;omega,by show(B2 lo hi s.l).length≤s.AL;omega,g' _⟩,rfl,hm,fun n=>LL s.l lo hi n hlo⟩
theorem dN{b ds:List UInt8}{o:Nat}(h:o+ds.length≤b.length):(Gs b o ds).length=b.length:=by
 unfold Gs;simp;omega
theorem rC{b ds:List UInt8}{o i:Nat}(h:o+ds.length≤b.length):(Gs b o ds).getD i 0=if o≤i∧i<o+ds.length then ds.getD (i-o) 0 else b.getD i 0:=by
 unfold Gs;simp only [e_]
 have hl:(b.take o).length=o:=by rw [kw];omega
 split
 ·rename_i hc;rw [ki,kg Ca,hl,kh Ca]
 ·rename_i hc;rcases i_ i o with h1|h1
  ·rw [ki,kh Ca,kn h1]
  ·rw [kg Cl,kv];congr 2;simp;omega
theorem xK{off e:Nat}{ds:List UInt8}{read high:Nat}(he:e=off+ds.length)(heh:e≤high)(hw:high≤read+1024):
  ∀(fuel lo:Nat) (b:List UInt8) (AE:BD),DK AE high→AE.floor=0→AE.AL=4096→(∀n,n<read→Ao n AE.l)→b.length=high-read→off≤lo→read≤lo→e-lo<fuel→
   DK (GS fuel off e ds read lo b AE).2 high∧(GS fuel off e ds read lo b AE).2.floor=0∧(GS fuel off e ds read lo b AE).2.AL=4096∧
   (GS fuel off e ds read lo b AE).1.length=b.length∧(∀n,Ao n (GS fuel off e ds read lo b AE).2.l↔Ao n AE.l∨(lo≤n∧n<e))∧
   (∀n,read≤n→n<high→(GS fuel off e ds read lo b AE).1.getD (n-read) 0=if lo≤n∧n<e∧¬Ao n AE.l then ds.getD (n-off) 0 else b.getD (n-read) 0):=by
 intro fuel
 induction fuel with
 |zero=>intro lo b AE _ _ _ _ _ _ _ h;omega
 |succ fuel ih=>
  intro lo b AE ho hf hm hp hb hol hrl hfu;rw [GS];by_cases hlo:lo<e
  ·simp only [hlo,if_true];obtain⟨ga,gb,gc,gd,ge⟩:=HS AE.l lo e ho.inc Ca;by_cases hg:e≤(AV lo e AE.l).1
   ·simp only [hg,if_true];refine⟨ho,hf,hm,trivial,fun n=>⟨.inl,fun h=>?_⟩,fun n h1 h2=>?_⟩
    ·rcases h with h|h
     ·exact h
     ·exact gb n h.1 Ca
    ·rw [if_neg];rintro⟨h3,h4,h5⟩;exact h5 (gb n h3 Ca)
   ·simp only [hg,if_false]
    have hlt:(AV lo e AE.l).1<(AV lo e AE.l).2:=by
     rcases i_ (AV lo e AE.l).1 (AV lo e AE.l).2 with h|h
     ·exact h
     ·exact absurd (ge h) hg
    have hds:((ds.drop ((AV lo e AE.l).1-off)).take ((AV lo e AE.l).2-(AV lo e AE.l).1)).length=(AV lo e AE.l).2-(AV lo e AE.l).1:=by
     rw [kw,j_];omega
    have hpl:(Gs b ((AV lo e AE.l).1-read) ((ds.drop ((AV lo e AE.l).1-off)).take ((AV lo e AE.l).2-(AV lo e AE.l).1))).length=b.length:=dN (by rw [hds];omega);have hcl:=TM ho.inc hp ho.hi hw;obtain⟨a1,a2,a3,a4⟩:=Yo (lo:=(AV lo e AE.l).1) (hi:=(AV lo e AE.l).2-1) ho hf hm Ca Ca Ca
    obtain⟨b1,b2,b3,b4,b5,b6⟩:=ih (AV lo e AE.l).2 (Gs b ((AV lo e AE.l).1-read) ((ds.drop ((AV lo e AE.l).1-off)).take ((AV lo e AE.l).2-(AV lo e AE.l).1))) (AE.add (AV lo e AE.l).1 ((AV lo e AE.l).2-1)) a1 a2 a3 (fun n hn=>(a4 n).2 (.inr (hp n hn))) (by rw [hpl];exact hb) Ca Ca Ca
    refine⟨b1,b2,b3,b4.trans hpl,fun n=>?_,fun n h1 h2=>?_⟩
    ·rw [b5 n,a4 n];constructor
     ·rintro((h|h)|h)
      ·exact Kl
      ·exact .inl h
      ·exact Kl
     ·rintro(h|h)
      ·exact .inl (.inr h)
      ·by_cases h3:n<(AV lo e AE.l).1
       ·exact .inl (.inr (gb n h.1 h3))
       ·by_cases h4:n<(AV lo e AE.l).2
        ·exact .inl (.inl Ca)
        ·exact Kl
    ·rw [b6 n h1 h2,rC (by rw [hds];omega),hds];by_cases h3:n<(AV lo e AE.l).1
     ·rw [if_neg Ca,if_neg Ca];rw [if_neg];rintro⟨h5,h6,h7⟩;exact h7 (gb n h5 h3)
     ·by_cases h4:n<(AV lo e AE.l).2
      ·have h5:¬Ao n AE.l:=gd hlt n Ca h4;rw [if_neg Ca,if_pos Ca,if_pos ⟨Ca,Ca,h5⟩];simp only [e_];rw [kn Ca,kv];congr 2;omega
      ·have h6:Ao n (AE.add (AV lo e AE.l).1 ((AV lo e AE.l).2-1)).l↔Ao n AE.l:=by
        rw [a4 n];constructor
        ·rintro(h|h)
         ·omega
         ·exact h
        ·exact .inr
       by_cases h7:(AV lo e AE.l).2≤n∧n<e∧¬Ao n AE.l
       ·rw [if_pos ⟨h7.1,h7.2.1,fun h=>h7.2.2 (h6.1 h)⟩,if_pos ⟨Ca,h7.2.1,h7.2.2⟩]
       ·rw [if_neg (fun h=>h7 ⟨h.1,h.2.1,fun g=>h.2.2 (h6.2 g)⟩),if_neg Ca,if_neg];rintro⟨h8,h9,h10⟩;exact h7 ⟨Ca,h9,h10⟩
  ·simp only [hlo,if_false];refine⟨ho,hf,hm,trivial,fun n=>⟨.inl,fun h=>?_⟩,fun n h1 h2=>?_⟩
   ·rcases h with h|h
    ·exact h
    ·omega
   ·rw [if_neg Ca]
structure Fo(AF t:Nat)(r:Bf):Prop where
 co:DK r.AE r.high
 cf:r.AE.floor=0
 cm:r.AE.AL=4096
 rh:r.read≤r.high
 hw:r.high≤r.read+AF
 pre:∀n,n<r.read→Ao n r.AE.l
 len:r.given=false→r.b.length=r.high-r.read
 rt:r.read≤1024*t
 en:r.end_≤4611686018427387903
 code:r.code≤4611686018427387903
 st:r.state≤2
 MW:r.state=2→r.given=true
theorem Fo.mono{AF t t':Nat}{r:Bf}(h:Fo AF t r)(ht:t≤t'):Fo AF t' r:=
 ⟨h.co,h.cf,h.cm,h.rh,h.hw,h.pre,h.len,by have:=h.rt;omega,h.en,h.code,h.st,h.MW⟩
def Jj(f:AM):Prop:=0≤f.stream∧f.stream<4∧f.code≤4611686018427387903∧f.offset≤4611686018427387903∧(f.kind=5→f.offset+f.data.size≤4611686018427387903)∧(f.kind=3→F8 f.ranges)
theorem Jj.of{f:AM}(h:CA f):Jj f:=⟨h.2.2.1,h.2.2.2.1,h.2.1,h.1,fun hk=>by have:=h.2.2.2.2.1.2 hk;omega,h.2.2.2.2.1.1⟩
structure Fk(r r':Bf):Prop where
 read:r'.read=r.read
 state:r'.state=r.state
 given:r.given=true→r'.given=true
theorem VC(f:AM):f.data.data.toList.length=f.data.size:=rfl
theorem Bf.Wh{AF t:Nat}(r:Bf)(h:Fo AF t r)(hwi:AF≤1024)(f:AM)(hg:r.given=false)(hb:f.offset+f.data.size≤r.read+AF):
  DK (r.filled f).2 (max r.high (f.offset+f.data.size))∧(r.filled f).2.floor=0∧(r.filled f).2.AL=4096∧(r.filled f).1.length=max r.high (f.offset+f.data.size)-r.read∧
  (∀n,Ao n (r.filled f).2.l↔Ao n r.AE.l∨(max f.offset r.read≤n∧n<f.offset+f.data.size))∧
  (∀n,r.read≤n→n<max r.high (f.offset+f.data.size)→(r.filled f).1.getD (n-r.read) 0=if max f.offset r.read≤n∧n<f.offset+f.data.size∧¬Ao n r.AE.l then f.data.data.toList.getD (n-f.offset) 0
   else(r.b++b_ (max r.high (f.offset+f.data.size)-(r.read+r.b.length)) 0).getD (n-r.read) 0):=by
 have hl:=h.len hg;have hh:=h.hw;have hrh:=h.rh
 have hb0:(r.b++b_ (max r.high (f.offset+f.data.size)-(r.read+r.b.length)) 0).length=max r.high (f.offset+f.data.size)-r.read:=by rw [f_,kq];omega
 obtain⟨a1,a2,a3,a4,a5,a6⟩:=xK (off:=f.offset) (e:=f.offset+f.data.size) (ds:=f.data.data.toList) (read:=r.read) (high:=max r.high (f.offset+f.data.size)) (by rw [VC]) (kx _ _) Ca (f.offset+f.data.size+1) (max f.offset r.read) _ r.AE (h.co.mono Rz) h.cf h.cm h.pre hb0 Rz (kx _ _) Ca
 exact⟨a1,a2,a3,a4.trans hb0,a5,a6⟩
theorem Fo.data{AF t:Nat}{r:Bf}(h:Fo AF t r)(hwi:AF≤1024)(f:AM)(hf:Jj f)(hk:f.kind=5)(hb:r.given=false→f.offset+f.data.size≤r.read+AF):
  Fo AF t (r.data f).2∧Fk r (r.data f).2:=by
 unfold Bf.data;split
 ·exact⟨h,rfl,rfl,id⟩
 split
 ·exact⟨h,rfl,rfl,id⟩
 ·rename_i hc hg
  have hg':r.given=false:=by simpa using hg
  have hb:=hb hg';have hl:=h.len hg';have hh:=h.hw;have hrh:=h.rh;have hco:DK r.AE (max r.high (f.offset+f.data.size)):=h.co.mono Ca;obtain⟨a1,a2,a3,a4,a5,a6⟩:=r.Wh h hwi f hg' hb;refine⟨⟨a1,a2,a3,lf hrh Rz,by show max r.high _≤r.read+AF;omega,fun n hn=>(a5 n).2 (.inl (h.pre n hn)),fun _=>a4,h.rt,?_,h.code,h.st,h.MW⟩,rfl,rfl,id⟩;show(if f.fin then f.offset+f.data.size else r.end_)≤_;split
  ·exact hf.2.2.2.2.1 hk
  ·exact h.en
end Go.Proofs.YtgfdlpcdjklcoaaGreatDoor
