/- A part of this proof: steps of the program, plain facts; no condition. -/
import Derived.Test.YtgfdlpcdjklcoaaGreatDoorCW
import Derived.Test.YtgfdlpcdjklcoaaGreatDoorCards
import Derived.Test.YtgfdlpcdjklcoaaGreatDoorTie
import Derived.ProofKit
import Derived.OpenShut
import Derived.Carry
import Derived.ChangeArms
import Derived.LaidLaws
import Derived.LaidHandle
import Derived.Deep.DeepHandedRow
import Derived.Deep.Slices
namespace Go.Proofs.YtgfdlpcdjklcoaaGreatDoor
open Go Go.RowKit
open _root_.UInt8 renaming ofNat→A_
open _root_.List renaming replicate→A!,mem_cons→B_,getD_eq_getElem?_getD→B!,length_append→B?,foldl_cons→C_,length_drop→D!,range→D?,mem_singleton→E_,getElem?_append_right→E!,getElem?_append_left→E?,append_assoc→F_,map_cons→F!,getElem?_eq_getElem→F?,getElem?_take_of_lt→G_,length_cons→G!,map_nil→G?,length_replicate→H_,take_append_drop→H!,zipWith_append→H?,getElem?_drop→I_,length_take→I!,length_map→J_,append_nil→J!,headD_cons→J?
open _root_.Option renaming some→A?
open _root_.Nat renaming zero_le→C!,lt_or_ge→D_,le_max_right→I?,le_trans→K_
open _root_.Prod renaming mk→C?
set_option linter.unusedVariables false
set_option maxRecDepth 20000
section
open Go Go.ChangeShapes Go.WideShapes Go.ChangeAt Go.RowKit
set_option linter.unusedVariables false
theorem own:ownKnob Tryz.prog.godebug=none:=by kernel_rfl
theorem cO:laidOutB Tryz.prog=true:=by kernel_rfl
theorem tI :Tryz.prog.globalNamed "errors.errorType" =some 0 :=by kernel_rfl
theorem tB :(Tryz.prog.cutTypes.find? (·.1 == "internal/reflectlite.rtype")).map (·.2) =some 282 :=by kernel_rfl
theorem dT:((D? Tryz.prog.types.size).filter fun t=>Tryz.prog.rowNamed t [101,114,114,111,114])=[106]:=by kernel_rfl
theorem tY{W :World}(h :laidMetH Tryz.prog [("errors.errorType",Rows.laid_errors_errorType)] W) :W.cell? ⟨0,0,none⟩ =some (.iface 282 (.agg #[.pointer (some ⟨1,106,none⟩)])) :=by
 have h' :laidMet Tryz.prog [] W ∧ handlesMet Tryz.prog [("errors.errorType",Rows.laid_errors_errorType)] W :=h;obtain⟨name,u,ty,e1,e2,e3,e4,e5⟩:=h'.2 _ (E_.2 rfl);have en:name=[101,114,114,111,114]:=(A?.inj e1).symm;subst en;obtain rfl:=A?.inj (tB.symm.trans e2);have hm:ty∈(D? Tryz.prog.types.size).filter fun t=>Tryz.prog.rowNamed t [101,114,114,111,114]:=List.mem_filter.2 ⟨List.mem_range.2 e3,e4⟩;rw [dT]at hm;obtain rfl:=E_.1 hm
 have hh:typeHandle Tryz.prog 106=.pointer (some ⟨1,106,none⟩):=by kernel_rfl
 rw [hh]at e5;simpa using World.var?_cell tI e5 0
noncomputable def Qm (os:Os):World:=
 let w0:=World.holding Tryz.prog os ⟨#[],#[],[]⟩
 {w0 with heap:=w0.heap.modify 0 fun
   | .cells _ t frozen=>.cells #[.iface 282 (.agg #[.pointer (some ⟨1,106,none⟩)])] t frozen
   |o=>o}
theorem kI(os :Os)(args :Array Value) :laidMetH Tryz.prog [("errors.errorType",Rows.laid_errors_errorType)] ((Qm os).forCall (fun _ _ =>0) ⟨#[],args,[]⟩).memory :=
 laidMetH_of_parts (laidMet_nil _ _) Cb
section
variable{H:Type}{Al:TypeId×Value→H}{P:Program}
theorem bP(hl:laidOutB P=true){W W':World}(hb:Below W.heap.size W W'):∀(ts:List TypeId) (vs:List Value) (ds:List (DataW H)) (ps:List MemPlace),
  (∀t∈ts,P.readableRec t=true∧t<P.types.size)→DataW.TrodAll Al P W 0 (fun _=>true) true ts vs ds ps→(∀x∈ps,x.block<W.heap.size)→∀sp:Nat→Bool,(∀p∈ps,sp p.block=true)→DataW.TrodAll Al P W' 0 sp true ts vs ds ps
 |[],[],[],ps,_,h,_,_,_=>h
 |t::ts,v::vs,d::ds,ps,hr,h,hlt,sp,hsp=>by
  obtain⟨p,q,h1,h2,rfl⟩:=h;refine⟨p,q,WideElems.Trod_stays hl (hr t Cg).1 (hr t Cg).2 h1 (fun x hx=>hb.same (hlt x PA)) (fun x hx=>hsp x PA),?_,rfl⟩;exact bP hl hb ts vs ds q (fun t ht=>hr t (by simp [ht])) h2 (fun x hx=>hlt x PA) sp (fun x hx=>hsp x PA)
 |[],v::vs,ds,ps,_,h,_,_,_=>by cases ds<;>exact h.elim
 |[],[],d::ds,ps,_,h,_,_,_=>h.elim
 |t::ts,[],ds,ps,_,h,_,_,_=>by cases ds<;>exact h.elim
 |t::ts,v::vs,[],ps,_,h,_,_,_=>h.elim
theorem qI{f:Func}{s:ChangeSpec}{apart fresh handsOn again:Bool}{W W':World}{args:Array Value}{v:Value}{ds gs:List (DataW H)}{before:List MemPlace}
  (hl:laidOutB P=true)(hr:∀t∈f.params.toList,P.readableRec t=true∧t<P.types.size)(hvn:s.vars=[])
  (hW:DataW.Whole Al P f.params.toList s.vars apart W args.toList ds gs before)(hb:Below W.heap.size W W')(ha:(s.fn H (ds++gs)).args=ds)(hv0:(s.fn H (ds++gs)).vars=[])
  (hres:∀(b:Nat) (sp:Nat→Bool) (hd:Bool),DataW.TrodAll Al P W' b sp hd f.resultTypes.toList (v.resultList f.resultTypes.size) (s.fn H (ds++gs)).results [])
  (hok:∀(j:Nat) (t:TypeId) (r:Value),f.resultTypes[j]?=some t→(v.resultList f.resultTypes.size)[j]?=some r→Value.okWide P W' .any 0 t r):
  s.post Al P f apart fresh handsOn again W args v W':=by
 have hlt:∀p∈before,p.block<W.heap.size:=fun p hp=>hW.lt p hp;have hW2:=hW;obtain⟨p,q,hA,hV,e,hz,hn⟩:=hW2;rw [hvn]at hV;obtain⟨rfl,rfl⟩:=trodVars_none hV
 obtain rfl:before=p:=by simpa using e
 have hargs:∀sp:Nat→Bool,(∀x∈before,sp x.block=true)→DataW.TrodAll Al P W' 0 sp true f.params.toList args.toList (s.fn H (ds++[])).args before:=fun sp hsp=>by
  rw [ha];exact bP hl hb _ _ _ _ hr hA hlt sp hsp
 have hvars:∀sp:Nat→Bool,DataW.TrodVars Al P W' sp s.vars (s.fn H (ds++[])).vars []:=fun sp=>by rw [hvn,hv0];rfl
 refine⟨ds,[],before,[],before,[],hW,hres _ _ _,hargs _ (fun x hx=>by simpa using hlt x hx),hvars _,World.keptBut_mono (fun x hx=>⟨hx,.inr (by simpa using hx)⟩) (hb.frame (·∈before)),fun _=>?_⟩;refine⟨hok,_,_,([]++before)++[],⟨[]++before,[],trodAll_append (hargs _ (fun _ _=>rfl)) (hres _ _ _),hvars _,rfl,?_,?_⟩,?_⟩
 ·intro b off hp
  have hp':MemPlace.cell b off∈before:=by simpa using hp
  rw [←hz b off (by simpa using hp')];unfold World.frozen?;rw [hb.block b (hlt _ hp')]
 ·intro hap
  have:=hn hap
  simpa using this
 ·intro x hx _;simpa using hx
theorem Fn.hK{B:World}{f:FuncId}{args:List Value}{Post:Value→HP→Prop}(h:Fn P B f args HP.BC Post):Calls P f args.toArray B fun e W'=>∃v H',e=.returned v∧Post v H'∧Below B.heap.size B W':=
 (h B (Sat.start B)).mono fun e W' ⟨v,H',e1,e2,e3⟩=>⟨v,H',e1,e2,e3.1⟩
variable{w:World}{base:Nat}{spare:Nat→Bool}{held:Bool}{fuel:Nat}{cs:List Value}{x:DataW H×List MemPlace}
end
end
abbrev uN(n:Nat):Value:=.int .u64 (n:Nat)
structure AV where
 lo:Nat
 hi:Nat
 deriving DecidableEq
@[reducible] instance:AC AV:=⟨2,fun r=>[uN r.lo,uN r.hi],⟨0,0⟩,fun _=>rfl,fun _ v h=>by simp at h;rcases h with rfl|rfl<;>rfl⟩
structure AT where
 kind:Int
 stream:Int
 offset:Nat
 code:Nat
 fin:Bool
 data:ByteArray
 ranges:List AV
def rg(rs:List AV)(i:Nat):AV:=rs.getD i ⟨0,0⟩
def AU(n:Nat):List UInt8:=
 if n<64 then [A_ n]
 else if n<16384 then [A_ (n/256+64),A_ n]
 else if n<1073741824 then [A_ (n/16777216+128),A_ (n/65536),A_ (n/256),A_ n]
 else [A_ (n/72057594037927936+192),A_ (n/281474976710656),A_ (n/1099511627776),A_ (n/4294967296),
  A_ (n/16777216),A_ (n/65536),A_ (n/256),A_ n]
theorem CO(n:Nat):(AU n).length≤8:=by
 unfold AU;split
 ·simp
 split
 ·simp
 split<;>simp
def FZ(rs:List AV)(i:Nat):Prop:=(rg rs i).lo≤(rg rs i).hi∧(rg rs i).hi≤4611686018427387903∧(i=0∨(2≤(rg rs (i-1)).lo∧(rg rs i).hi+2≤(rg rs (i-1)).lo))
instance(rs:List AV)(i:Nat):Decidable (FZ rs i):=by unfold FZ;infer_instance
def GH(rs:List AV):Prop:=rs≠ []∧∀i,i<rs.length→FZ rs i
instance(rs:List AV):Decidable (GH rs):=by unfold GH;infer_instance
def HL(f:AT):Prop:=(f.kind=3→GH f.ranges)∧(f.kind=5→f.data.size+f.offset≤4611686018427387903)
instance(f:AT):Decidable (HL f):=by unfold HL;infer_instance
def DU(k:Int):Prop:=1≤k∧k≤6
instance(k:Int):Decidable (DU k):=by unfold DU;infer_instance
def B0(f:AT):Prop:=f.offset≤4611686018427387903∧f.code≤4611686018427387903∧0≤f.stream∧f.stream<4∧HL f∧DU f.kind
instance(f:AT):Decidable (B0 f):=by unfold B0;infer_instance
def Bz(rs:List AV):Nat→List UInt8
 |0=>[]
 |k+1=>Bz rs k++AU ((rg rs k).lo-(rg rs (k+1)).hi-2)++AU ((rg rs (k+1)).hi-(rg rs (k+1)).lo)
def KD(rs:List AV):List UInt8:=[2]++AU (rg rs 0).hi++AU (rs.length-1)++AU ((rg rs 0).hi-(rg rs 0).lo)++Bz rs (rs.length-1)
def Ai(f:AT):List UInt8:=
 if f.kind=1 then [0]else if f.kind=2 then [1]else if f.kind=3 then KD f.ranges
 else if f.kind=4 then [4]++AU f.stream.toNat++AU f.code++AU f.offset
 else if f.kind=5 then [bif f.fin then 9 else 8]++AU f.stream.toNat++AU f.offset++AU f.data.size++f.data.data.toList
 else [28]++AU f.code
def Av(fs:List AT):List UInt8:=fs.flatMap Ai
def Gt(fs:List AT):Option (List UInt8):=if fs≠ []∧∀f∈fs,B0 f then some (Av fs)else none
def Ga(xs:List UInt8)(a:Nat):Nat:=(xs.getD a 0).toNat
def Hs(xs:List UInt8)(a:Nat):Nat→Nat
 |0=>Ga xs a%64
 |k+1=>Hs xs a k*256+Ga xs (a+k+1)
theorem Rc(xs:List UInt8)(a:Nat):Ga xs a<256:=(xs.getD a 0).toNat_lt
theorem UM(xs:List UInt8)(a:Nat):∀k,Hs xs a k<64*256^k
 |0=>by simp [Hs];omega
 |k+1=>by
  have h1:=UM xs a k;have h2:=Rc xs (a+k+1);rw [Hs,Nat.pow_succ];omega
def CV(xs:List UInt8)(a:Nat):Nat:=2^(Ga xs a/64)
theorem Se(xs:List UInt8)(a:Nat):CV xs a=1∨CV xs a=2∨CV xs a=4∨CV xs a=8:=by
 have h:=Rc xs a;unfold CV;rcases(by omega:Ga xs a/64=0∨Ga xs a/64=1∨Ga xs a/64=2∨Ga xs a/64=3)with e|e|e|e<;>rw [e]<;>simp
def C6(xs:List UInt8)(a:Nat):Option (Nat×Nat):=
 if a<xs.length∧a+CV xs a≤xs.length then some (Hs xs a (CV xs a-1),a+CV xs a)else none
theorem Dt{xs:List UInt8}{a n a':Nat}(h:C6 xs a=some (n,a')):n≤4611686018427387903∧a<a'∧a'≤xs.length:=by
 unfold C6 at h;split at h
 ·rename_i hc;simp only [A?.injEq,C?.injEq]at h;obtain⟨rfl,rfl⟩:=h;have h1:=UM xs a (CV xs a-1);rcases Se xs a with e|e|e|e<;>rw [e]at h1 hc⊢<;>simp only [Nat.reduceSub]at h1⊢<;>refine⟨?_,?_,?_⟩<;>omega
 ·cases h
def HY(xs:List UInt8)(a:Nat):Option (Nat×Nat):=match C6 xs a with
 |some (n,a')=>if n<4 then some (n,a')else none
 |none=>none
def IJ(xs:List UInt8)(a:Nat):Option (List UInt8×Nat):=match C6 xs a with
 |some (n,a')=>if n≤xs.length-a' then some ((xs.drop a').take n,a'+n)else none
 |none=>none
def Fr(xs:List UInt8):Nat→Nat→Nat→Option (List AV×Nat)
 |0,_,a=>some ([],a)
 |n+1,lo,a=>match C6 xs a with
  |some (gap,a1)=>match C6 xs a1 with
   |some (size,a2)=>if 2≤lo∧gap+2≤lo∧size+gap+2≤lo then
     match Fr xs n (lo-2-gap-size) a2 with
     |some (rs,a3)=>some (⟨lo-2-gap-size,lo-2-gap⟩::rs,a3)
     |none=>none
    else none
   |none=>none
  |none=>none
def Fe(xs:List UInt8)(a:Nat):Option (List AV×Nat):=match C6 xs a with
 |some (hi,a1)=>match C6 xs a1 with
  |some (n,a2)=>match C6 xs a2 with
   |some (size,a3)=>if size≤hi then
     match Fr xs n (hi-size) a3 with
     |some (rs,a4)=>some (⟨hi-size,hi⟩::rs,a4)
     |none=>none
    else none
   |none=>none
  |none=>none
 |none=>none
def Eh(t:UInt8):Nat:=if t=0 then 1 else if t=1 then 2 else if t=2 then 3 else if t=4 then 4 else if t=8∨t=9 then 5 else if t=28 then 6 else 0
def CA(xs:List UInt8)(k:Nat)(fin:Bool)(a:Nat):Option (AT×Nat):=
 if k=1 then some (⟨1,0,0,0,fin,⟨#[]⟩,[]⟩,a)
 else if k=2 then some (⟨2,0,0,0,fin,⟨#[]⟩,[]⟩,a)
 else if k=3 then match Fe xs a with
  |some (rs,a1)=>some (⟨3,0,0,0,fin,⟨#[]⟩,rs⟩,a1)
  |none=>none
 else if k=4 then match HY xs a with
  |some (s,a1)=>match C6 xs a1 with
   |some (c,a2)=>match C6 xs a2 with
    |some (o,a3)=>some (⟨4,s,o,c,fin,⟨#[]⟩,[]⟩,a3)
    |none=>none
   |none=>none
  |none=>none
 else if k=5 then match HY xs a with
  |some (s,a1)=>match C6 xs a1 with
   |some (o,a2)=>match IJ xs a2 with
    |some (d,a3)=>some (⟨5,s,o,0,fin,AW d,[]⟩,a3)
    |none=>none
   |none=>none
  |none=>none
 else if k=6 then match C6 xs a with
  |some (c,a1)=>some (⟨6,0,0,c,fin,⟨#[]⟩,[]⟩,a1)
  |none=>none
 else none
def Fl(xs:List UInt8)(a:Nat):Option (AT×Nat):=
 match CA xs (Eh (xs.getD a 0)) (decide (xs.getD a 0=9)) (a+1)with
 |some (f,a')=>if B0 f then some (f,a')else none
 |none=>none
def FJ(xs:List UInt8)(a:Nat):Except Nat (List AT):=
 if a<xs.length then
  match Fl xs a with
  |some (f,a')=>if h:a<a'∧a<xs.length then match FJ xs a' with
    | .ok l=>.ok (f::l)
    | .error e=>.error e
   else .error a
  |none=>.error a
 else .ok []
 termination_by xs.length-a
 decreasing_by omega
def FI(xs:List UInt8):Except Nat (List AT):=if xs=[]then .error 0 else FJ xs 0
theorem P1{xs:List UInt8}{a n a':Nat}(h:HY xs a=some (n,a')):n<4∧a<a'∧a'≤xs.length:=by
 unfold HY at h;split at h
 ·rename_i n' a'' e;split at h
  ·simp only [A?.injEq,C?.injEq]at h;obtain⟨rfl,rfl⟩:=h
   have:=Dt e
   exact⟨by assumption,this.2⟩
  ·cases h
 ·cases h
theorem R8{xs:List UInt8}{a a':Nat}{d:List UInt8}(h:IJ xs a=some (d,a')):a<a'∧a'≤xs.length∧d.length≤xs.length:=by
 unfold IJ at h;split at h
 ·rename_i n' a'' e;split at h
  ·simp only [A?.injEq,C?.injEq]at h;obtain⟨rfl,rfl⟩:=h
   have:=Dt e
   refine⟨Ca,Ca,?_⟩
   simp;omega
  ·cases h
 ·cases h
theorem Vb{xs:List UInt8}:∀{n lo a a':Nat} {rs:List AV},Fr xs n lo a=some (rs,a')→a≤xs.length→a≤a'∧a'≤xs.length∧rs.length=n∧2*n≤a'-a:=by
 intro n
 induction n with
 |zero=>intro lo a a' rs h ha;simp only [Fr,A?.injEq,C?.injEq]at h;obtain⟨rfl,rfl⟩:=h;simp;omega
 |succ n ih=>
  intro lo a a' rs h ha;simp only [Fr]at h;split at h
  ·rename_i gap a1 e1;split at h
   ·rename_i size a2 e2;split at h
    ·split at h
     ·rename_i rs' a3 e3;simp only [A?.injEq,C?.injEq]at h;obtain⟨rfl,rfl⟩:=h;have h1:=Dt e1;have h2:=Dt e2;have h3:=ih e3 Ca;simp only [G!];omega
     ·cases h
    ·cases h
   ·cases h
  ·cases h
theorem Wz{xs:List UInt8}{a a':Nat}{rs:List AV}(h:Fe xs a=some (rs,a')):a<a'∧a'≤xs.length∧rs≠ []∧rs.length≤xs.length:=by
 unfold Fe at h;split at h
 ·rename_i hi a1 e1;split at h
  ·rename_i n a2 e2;split at h
   ·rename_i size a3 e3;split at h
    ·split at h
     ·rename_i rs' a4 e4;simp only [A?.injEq,C?.injEq]at h;obtain⟨rfl,rfl⟩:=h;have h1:=Dt e1;have h2:=Dt e2;have h3:=Dt e3;have h4:=Vb e4 h3.2.2;refine⟨Ca,Ca,Cg,?_⟩;simp only [G!];omega
     ·cases h
    ·cases h
   ·cases h
  ·cases h
 ·cases h
theorem wF{xs:List UInt8}{k a a':Nat}{fin:Bool}{f:AT}(h:CA xs k fin a=some (f,a'))(ha:a≤xs.length):a≤a'∧a'≤xs.length:=by
 unfold CA at h;split at h
 ·simp only [A?.injEq,C?.injEq]at h;obtain⟨-,rfl⟩:=h;omega
 split at h
 ·simp only [A?.injEq,C?.injEq]at h;obtain⟨-,rfl⟩:=h;omega
 split at h
 ·split at h
  ·rename_i e;simp only [A?.injEq,C?.injEq]at h;obtain⟨-,rfl⟩:=h
   have:=Wz e;omega
  ·cases h
 split at h
 ·split at h
  ·rename_i e1;split at h
   ·rename_i e2;split at h
    ·rename_i e3;simp only [A?.injEq,C?.injEq]at h;obtain⟨-,rfl⟩:=h
     have:=P1 e1;have:=Dt e2;have:=Dt e3;omega
    ·cases h
   ·cases h
  ·cases h
 split at h
 ·split at h
  ·rename_i e1;split at h
   ·rename_i e2;split at h
    ·rename_i e3;simp only [A?.injEq,C?.injEq]at h;obtain⟨-,rfl⟩:=h
     have:=P1 e1;have:=Dt e2;have:=R8 e3;omega
    ·cases h
   ·cases h
  ·cases h
 split at h
 ·split at h
  ·rename_i e;simp only [A?.injEq,C?.injEq]at h;obtain⟨-,rfl⟩:=h
   have:=Dt e;omega
  ·cases h
 ·cases h
theorem Ua{xs:List UInt8}{a a':Nat}{f:AT}(h:Fl xs a=some (f,a'))(ha:a<xs.length):a<a'∧a'≤xs.length∧B0 f:=by
 unfold Fl at h;split at h
 ·rename_i e;split at h
  ·simp only [A?.injEq,C?.injEq]at h;obtain⟨rfl,rfl⟩:=h
   have:=wF e Ca
   exact⟨Ca,Ca,by assumption⟩
  ·cases h
 ·cases h
theorem VG{xs:List UInt8}{a:Nat}(h:¬a<xs.length):FJ xs a=.ok []:=by rw [FJ,if_neg h]
theorem RZ{xs:List UInt8}{a:Nat}(h:a<xs.length)(e:Fl xs a=none):FJ xs a=.error a:=by rw [FJ,if_pos h,e]
theorem ZS{xs:List UInt8}{a a':Nat}{f:AT}(h:a<xs.length)(e:Fl xs a=some (f,a')):FJ xs a=match FJ xs a' with
  | .ok l=>.ok (f::l)
  | .error e=>.error e:=by
 conv=>lhs;rw [FJ]
 rw [if_pos h,e];simp only [];rw [dif_pos ⟨(Ua e h).1,h⟩]
structure RF where
 f:AT
 p:Option Addr
 b:Nat
 o:Nat
 c:Nat
 s:List Value
@[reducible] def AJ(r:RF):List Value:=[.int .i64 r.f.kind,.int .i64 r.f.stream,uN r.f.offset,uN r.f.code,.bool r.f.fin,.string r.f.data,.slice r.p r.f.ranges.length r.c]
@[reducible] instance:AC RF:=⟨7,AJ,⟨⟨0,0,0,0,false,⟨#[]⟩,[]⟩,none,0,0,0,[]⟩,fun _=>rfl,fun _ v h=>by
 simp at h;rcases h with rfl|rfl|rfl|rfl|rfl|rfl|rfl<;>rfl⟩
def RF.ok(r:RF):Prop:=Sl r.p r.b r.o r.f.ranges.length r.c
def RF.own(r:RF):Prop:=r.f.ranges.length*2+r.s.length=r.c*2
def Fa(r:RF):HP:=AB r.b r.o r.f.ranges r.s
def B4(rs:List RF):HP:=rs.foldr (fun r H=>Fa r*H) HP.BC
theorem QX:B4 []=HP.BC:=rfl
theorem Oa(r:RF)(rs:List RF):B4 (r::rs)=Fa r*B4 rs:=rfl
theorem fO(rs ts:List RF):B4 (rs++ts)=B4 rs*B4 ts:=by
 induction rs with
 |nil=>rw [List.nil_append,QX,HP.BH]
 |cons r rs ih=>rw [List.cons_append,Oa,Oa,ih,HP.assoc]
theorem pX{r:RF}{rs:List RF}(h:r∈rs):∃X,B4 rs=Fa r*X:=by
 induction rs with
 |nil=>cases h
 |cons t rs ih=>
  rcases B_.1 h with rfl|h
  ·exact Be
  ·obtain⟨X,e⟩:=ih h;exact⟨Fa t*X,by rw [Oa,e,HP.CF]⟩
theorem WZ{B:World}{r:RF}{rs:List RF}(h:r∈rs):Ab B (B4 rs) r.b r.o r.f.ranges:=by
 obtain⟨X,e⟩:=pX h;rw [e];show Ab B (AB r.b r.o r.f.ranges r.s*X) r.b r.o r.f.ranges;infer_instance
structure Hd(B:World)(H:HP)(p:Option Addr)(c:Nat)(fs:List AT)(b o:Nat)(rs:List RF):Prop where
 sl:Sl p b o fs.length c
 rd:Ab B H b o rs
 map:rs.map (·.f)=fs
 ok:∀r∈rs,r.ok
 UB:∀r∈rs,Ab B H r.b r.o r.f.ranges
theorem Hd.len{B:World}{H:HP}{p:Option Addr}{c:Nat}{fs:List AT}{b o:Nat}{rs:List RF}(h:Hd B H p c fs b o rs):rs.length=fs.length:=by rw [←h.map,J_]
theorem Hd.right{B:World}{A C:HP}{p:Option Addr}{c:Nat}{fs:List AT}{b o:Nat}{rs:List RF}(h:Hd B C p c fs b o rs):Hd B (A*C) p c fs b o rs:=
 ⟨h.sl,(let _:=h.rd;inferInstance),h.map,h.ok,fun r hr=>(let _:=h.UB r hr;inferInstance)⟩
theorem Hd.left{B:World}{A C:HP}{p:Option Addr}{c:Nat}{fs:List AT}{b o:Nat}{rs:List RF}(h:Hd B A p c fs b o rs):Hd B (A*C) p c fs b o rs:=
 ⟨h.sl,(let _:=h.rd;inferInstance),h.map,h.ok,fun r hr=>(let _:=h.UB r hr;inferInstance)⟩
def NK(R:HP)(fs:List AT)(v:Value)(H':HP):Prop:=
 ∃p b o c s rs,v=.slice p fs.length c∧Sl p b o fs.length c∧fs.length*7+s.length=c*7∧rs.map RF.f=fs∧(∀r∈rs,r.ok∧r.own)∧H'=AB b o rs s*(B4 rs*R)
theorem NK.rd{B:World}{R:HP}{p:Option Addr}{b o c:Nat}{s:List Value}{fs:List AT}{rs:List RF}(h1:Sl p b o fs.length c)(h2:rs.map RF.f=fs)(h3:∀r∈rs,r.ok∧r.own):
  Hd B (AB b o rs s*(B4 rs*R)) p c fs b o rs:=
 ⟨h1,inferInstance,h2,fun r hr=>(h3 r hr).1,fun r hr=>by
  have:=WZ (B:=B) hr
  infer_instance⟩
theorem NK.nil(R:HP):NK R [] (.slice none 0 0) R:=⟨none,0,0,0,[],[],rfl,F8,rfl,rfl,(fun _ h=>by simp at h),by rw [GU,QX,HP.BH,HP.BH]⟩
section
theorem rN:∀a,a<64→a|||64=a+64:=by decide
theorem sC:∀a,a<64→a|||128=a+128:=by decide
theorem yD:∀a,a<64→a|||192=a+192:=by decide
theorem PJ(k:Nat):u8 (A_ k)=.int .u8 (k%256:Nat):=by rw [u8,UInt8.toNat_ofNat']
theorem LV(xs:List UInt8):AD xs=xs.map u8:=by
 induction xs with
 |nil=>rfl
 |cons x xs ih=>show [u8 x]++AD xs=_;rw [ih];rfl
theorem lF{n:Nat}(h:n<64):AD (AU n)=[.int .u8 (n%256:Nat)]:=by
 rw [AU,if_pos h,LV];simp only [F!,G?,PJ]
theorem vO{n:Nat}(h:¬n<64)(h2:n<16384):AD (AU n)=[.int .u8 ((n/2^8%256|||64:Nat)),.int .u8 (n%256:Nat)]:=by
 rw [AU,if_neg h,if_pos h2,LV];simp only [F!,G?,PJ];rw [show n/2^8%256=n/256 by omega,rN _ Ca,show(n/256+64)%256=n/256+64 by omega]
theorem fN{n:Nat}(h:¬n<64)(h2:¬n<16384)(h3:n<1073741824):AD (AU n)=[.int .u8 ((n/2^24%256|||128:Nat)),.int .u8 (n/2^16%256:Nat),.int .u8 (n/2^8%256:Nat),.int .u8 (n%256:Nat)]:=by
 rw [AU,if_neg h,if_neg h2,if_pos h3,LV];simp only [F!,G?,PJ];rw [show n/2^24%256=n/16777216 by omega,sC _ Ca,show(n/16777216+128)%256=n/16777216+128 by omega]
theorem zG{n:Nat}(h:¬n<64)(h2:¬n<16384)(h3:¬n<1073741824)(h4:n≤4611686018427387903):AD (AU n)=[.int .u8 ((n/2^56%256|||192:Nat)),.int .u8 (n/2^48%256:Nat),.int .u8 (n/2^40%256:Nat),.int .u8 (n/2^32%256:Nat),
  .int .u8 (n/2^24%256:Nat),.int .u8 (n/2^16%256:Nat),.int .u8 (n/2^8%256:Nat),.int .u8 (n%256:Nat)]:=by
 rw [AU,if_neg h,if_neg h2,if_neg h3,LV];simp only [F!,G?,PJ];rw [show n/2^56%256=n/72057594037927936 by omega,yD _ Ca,show(n/72057594037927936+192)%256=n/72057594037927936+192 by omega]
structure ED where
 n:Nat
@[reducible] instance:AC ED:=⟨1,fun x=>[uN x.n],⟨0⟩,fun _=>rfl,fun _ v h=>by rw [E_.1 h];rfl⟩
section
variable{P:Program}{B:World}{n:Nat}{E:Ay}{D:Br}{H:HP}{d:Option Tmp}{T T' ty:TypeId}{pos:String}{af:Array Edge}{g:Option (Nat×Bool)}{x y z:Operand}
theorem IA{α:Type}[AC α]{b o i:Nat}{xs:List α}[hT:EQ P T (AC.sz α)](hx:ev E x=some (.pointer (some ⟨b,o+i*AC.sz α,none⟩)))(hr:Ab B H b o xs)(hi:i<xs.length):
  Aa P B n ⟨d,.load T x,ty,pos,af,g⟩ E H (.agg (AC.Al (xs.getD i AC.AH)).toArray):=by
 intro a w he hw
 have h1:(loadCells ⟨b,o+i*AC.sz α,none⟩ (AC.Al (xs.getD i AC.AH)).length).run P w=.ok (AC.Al (xs.getD i AC.AH)).toArray w:=by
  refine run_loadCells_list w ⟨b,o+i*AC.sz α,none⟩ _ fun j v e=>?_
  have:=hr.get i j v e hi w hw
  by_cases hj:j=0
  ·subst hj;simpa [Addr.add]using this
  ·simpa [Addr.add,hj]using this
 rw [AC.len]at h1;simp [execOp,he.ev hx,Instr.loadAt,Instr.sureAddr,loadVar,hT.get,hT.size,h1]
theorem Ep{α:Type}[AC α]{b o i f:Nat}{xs:List α}{v:Value}[hT:B9 P T](hx:ev E x=some (.pointer (some ⟨b,o+i*AC.sz α+f,none⟩)))(hr:Ab B H b o xs)(hv:(AC.Al (xs.getD i AC.AH))[f]?=some v)(hi:i<xs.length):
  Aa P B n ⟨d,.load T x,ty,pos,af,g⟩ E H v:=by
 intro a w he hw;simp [execOp,he.ev hx,Instr.loadAt,Instr.sureAddr,loadVar,hT.get,hr.get i f v hv hi w hw]
theorem Ab.one{α:Type}[AC α]{b o:Nat}(a:α):Ab B (HP.AA b o (AC.Al a)) b o [a]:=by
 have h:Ab B (AB b o [a] []) b o [a]:=inferInstance
 have e:AB b o [a] []=HP.AA b o (AC.Al a):=by simp [AB,AD]
 rwa [e]at h
theorem rT{R:HP}{sT xT e by_:Nat}{b o c:Nat}{p:Option Addr}{xs:List UInt8}{s:List Value}{zv:Value}{str:ByteArray}
  [hT:Ar P sT (.slice e)][hT2:Ar P xT .string][hz:Bg P e 1][hi:Eo P e by_][h0:BO P e zv]
  (hx:ev E x=some (.slice p xs.length c))(hs:Sl p b o xs.length c)(hc:xs.length*1+s.length=c*1)
  (hy:ev E y=some (.string str))(hzc:zv.cells.size=1)
  (hb:(xs.length+str.size)*by_≤140737488355328)(hby:0<by_):
  CE P B n ⟨d,.call ⟨.builtin .append,#[x,y],#[sT,xT]⟩,ty,pos,af,g⟩ E D (AB b o xs s*R) (fun v H'=>B1 R (xs++str.data.toList) v H'):=by
 intro a w h1 _ h3 K Q hk
 have hl:str.data.toList.length=str.size:=by rw [Array.length_toList];rfl
 have hf:∀w',Sat B (AB b o xs s*R) w'→(Builtin.firstCells (AC.sz UInt8) str.data.toList.length (.string str)).run P w'=.ok (AD str.data.toList).toArray w':=by
  intro w' _
  have e1:(str.extract 0 str.data.toList.length).data=str.data:=by
   rw [hl]
   have:str.extract 0 str.size=str:=ByteArray.extract_zero_size
   rw [this]
  simp only [Builtin.firstCells,e1,LV,Sem.run_pure];congr 1;apply Array.toList_inj.1;rw [Array.toList_map]
 obtain⟨v,w',hrun,H',hH,hw'⟩:=Wo (P:=P) (B:=B) (R:=R) (b:=b) (o:=o) (p:=p) (c:=c) (xs:=xs) (ys:=str.data.toList) (s:=s) (sT:=sT) (xT:=xT) (ats:= #[sT,xT]) (e:=e) (by_:=by_) (ty:=ty) (x:=.string str) (w:=w) (z:=zv) hT.get rfl rfl (fun k h=>by rw [hT2.get]at h;cases h) ⟨_,hT2.get⟩ hz.get hi.get h0.get hzc hs hc Cx (fun w2 hw2=>hf w2 hw2) (by rw [hl];exact hb) hby h3
 have hrun2:(execOp a.eval ⟨d,.call ⟨.builtin .append,#[x,y],#[sT,xT]⟩,ty,pos,af,g⟩).run P w=.ok (.value v) w':=by
  simp [execOp,resolve,h1.ev hx,h1.ev hy,invoke,builtin,hrun]
 simp only [Oper.wp,hrun2,Oper.upon];exact hk v H' w' hH hw'
theorem NS{b o i:Nat}{xs:List AV}[hT:EQ P T 2](hx:ev E x=some (.pointer (some ⟨b,o+i*2,none⟩)))(hr:Ab B H b o xs)(hi:i<xs.length):
  Aa P B n ⟨d,.load T x,ty,pos,af,g⟩ E H (.agg #[uN (rg xs i).lo,uN (rg xs i).hi]):=IA (hT:=hT) hx hr hi
theorem QZ{b o i:Nat}{xs:List AV}[hT:B9 P T](hx:ev E x=some (.pointer (some ⟨b,o+i*2+0,none⟩)))(hr:Ab B H b o xs)(hi:i<xs.length):
  Aa P B n ⟨d,.load T x,ty,pos,af,g⟩ E H (uN (rg xs i).lo):=Ep (f:=0) hx hr rfl hi
theorem Pa{b o i:Nat}{xs:List AV}[hT:B9 P T](hx:ev E x=some (.pointer (some ⟨b,o+i*2+1,none⟩)))(hr:Ab B H b o xs)(hi:i<xs.length):
  Aa P B n ⟨d,.load T x,ty,pos,af,g⟩ E H (uN (rg xs i).hi):=Ep (f:=1) hx hr rfl hi
theorem Gz{p:Option Addr}{b o k c i sz q:Nat}{e:TypeId}{ik:IntKind}[hT:Ar P T (.slice e)][hz:Bg P e sz](hx:ev E x=some (.slice p k c))
  (hy:ev E y=some (.int ik i))(hs:Sl p b o k c)(h:i<k)(hq:o+i*sz=q):Aa P B n ⟨d,.indexAddr T x y,ty,pos,af,g⟩ E H (.pointer (some ⟨b,q,none⟩)):=hq▸DG hx hy hs h
theorem YG(pre:List UInt8)(rs:List AV)(i:Nat):pre++Bz rs i++AU ((rg rs i).lo-(rg rs (i+1)).hi-2)++AU ((rg rs (i+1)).hi-(rg rs (i+1)).lo)=pre++Bz rs (i+1):=by
 simp only [Bz,F_]
theorem Ow(rs:List AV):∀i,(Bz rs i).length≤16*i
 |0=>by simp [Bz]
 |i+1=>by
  have:=Ow rs i
  have h1:=CO ((rg rs i).lo-(rg rs (i+1)).hi-2);have h2:=CO ((rg rs (i+1)).hi-(rg rs (i+1)).lo);simp only [Bz,B?];omega
theorem uT{b o i:Nat}{xs:List ED}[hT:B9 P T](hx:ev E x=some (.pointer (some ⟨b,o+i*1,none⟩)))(hr:Ab B H b o xs)(hi:i<xs.length):
  Aa P B n ⟨d,.load T x,ty,pos,af,g⟩ E H (uN (xs.getD i ⟨0⟩).n):=Ep (f:=0) hx hr rfl hi
end
end
section
section
variable{H:Type}{Al:TypeId×Value→H}
theorem lX(d:DataW H):1≤Rows.uptoBulk d:=by
 cases d with
 |lit l=>cases l<;>simp [Rows.uptoBulk]
 |nil=>simp [Rows.uptoBulk]
 |ptr d=>simp [Rows.uptoBulk]
 |slice elems spare=>simp [Rows.uptoBulk]
 |agg parts=>simp [Rows.uptoBulk]
 |iface t d=>simp [Rows.uptoBulk]
 |map entries=>simp [Rows.uptoBulk]
 |held h=>simp [Rows.uptoBulk]
theorem fC(l:List (DataW H)):l.length≤Rows.uptoBulkAll l:=by
 induction l with
 |nil=>simp [Rows.uptoBulkAll]
 |cons x r ih=>have:=lX x;simp only [Rows.uptoBulkAll,G!];omega
theorem X8{d:DataW H}{l:List (DataW H)}(h:d∈l):Rows.uptoBulk d≤Rows.uptoBulkAll l:=by
 induction l with
 |nil=>cases h
 |cons x r ih=>
  simp only [Rows.uptoBulkAll];rcases B_.1 h with rfl|e
  ·omega
  ·have:=ih e;omega
theorem aE{α:Type}[AC α]{W:World}{H':HP}{b o:Nat}{xs:List α}(h:∀i f v,(AC.Al (xs.getD i AC.AH))[f]?=some v→i<xs.length→W.cell? ⟨b,o+i*AC.sz α+f,none⟩=some v):Ab W H' b o xs:=
 ⟨fun i f v e hi w hw=>(VK (h i f v e hi)).get w hw trivial⟩
instance:Inhabited RF:=⟨AC.AH⟩
instance:Inhabited AV:=⟨⟨0,0⟩⟩
theorem zN{α:Type}[AC α](X:Nat→α){len i:Nat}(hi:i<len):((D? len).map X).getD i AC.AH=X i:=by
 simp [List.getD,List.getElem?_map,List.getElem?_range hi]
theorem iC{P:Program}{W:World}{α:Type}[AC α][Inhabited α]{t e fuel:Nat}{cs:List Value}{x:DataW H×List MemPlace}(Q:α→DataW H→Prop)(ht:P.underlying t=some (.slice e))(hc:P.cellsOf e=AC.sz α)(hsz:0<AC.sz α)
  (hopen:∀n cs' y,DataW.trod Al P W 0 (fun _=>true) true n e cs'=some y→∃a:α,cs'=AC.Al a∧Q a y.1)(h:DataW.trod Al P W 0 (fun _=>true) true fuel t cs=some x):
  ∃(p:Option Addr) (b o c len:Nat) (X:Nat→α),cs=[.slice p len c]∧Sl p b o len c∧(∀H',Ab W H' b o ((D? len).map X))∧
   ((len=0∧x.1=.nil)∨∃(D:Nat→DataW H) (sp:List (DataW H)),x.1=.slice ((D? len).map D) sp∧∀i,i<len→Q (X i) (D i)):=by
 rcases Go.Deep.open_slice ht h with⟨rfl,rfl⟩|⟨a,len,cap,m,n,D,Pl,rfl,hb,hl,hm,hmm,rfl,hx⟩
 ·exact⟨none,0,0,0,0,fun _=>default,rfl,F8,fun H'=>aE (fun i f v _ hi=>by simp at hi),.inl Ba⟩
 ·obtain rfl:m=cap:=by simpa using hmm
  obtain⟨X,hX⟩:=Go.Deep.choose_lt (α:=α) (n:=m) (p:=fun i a'=>W.cells? 0 (a.add (i*AC.sz α)) (AC.sz α)=some (AC.Al a')∧Q a' (D i)) (fun i hi=>by
   obtain⟨cs',h1,h2⟩:=hx i hi
   obtain⟨a',e1,e2⟩:=hopen n cs' _ h2
   rw [hc]at h1
   exact⟨a',by rw [h1,e1],e2⟩)
  have hcell:∀i f v,i<m→(AC.Al (X i))[f]?=some v→W.cell? (a.add (i*AC.sz α+f))=some v:=by
   intro i f v hi hv;obtain⟨_,_,h3⟩:=World.cells?_some (hX i hi).1
   have hf:f<AC.sz α:=by
    have:=(List.getElem?_eq_some_iff.1 hv).1
    rwa [AC.len]at this
   rw [←Go.Deep.add_add,h3 f hf,hv]
  have hspot:0<m→a.spot=none:=by
   intro h0
   have h1:0<(AC.Al (X 0)).length:=by rw [AC.len];exact hsz
   have h2:=hcell 0 0 ((AC.Al (X 0))[0]) h0 (F? h1);simp only [Nat.zero_mul,Nat.zero_add,Addr.add,if_true]at h2;unfold World.cell? at h2;split at h2
   ·split at h2
    ·cases h2
    ·rename_i hs
     cases hsp:a.spot with
     |none=>rfl
     |some z=>rw [hsp]at hs;exact absurd rfl hs
   ·cases h2
  refine⟨some a,a.block,a.off,m,len,X,rfl,⟨?_,hl⟩,fun H'=>aE fun i f v hv hi=>?_,.inr ⟨D,_,rfl,fun i hi=>(hX i Ca).2⟩⟩
  ·rcases Nat.eq_zero_or_pos m with h0|h0
   ·exact .inl h0
   ·refine .inr ?_
    have:=hspot h0
    obtain⟨bk,of,sp⟩:=a;obtain rfl:sp=none:=this;rfl
  ·rw [J_,List.length_range]at hi;rw [zN X hi]at hv
   have:=hcell i f v Ca hv
   have hs:=hspot Ca;obtain⟨bk,of,sp⟩:=a;obtain rfl:sp=none:=hs
   have e:(⟨bk,of,none⟩:Addr).add (i*AC.sz α+f)=⟨bk,of+i*AC.sz α+f,none⟩:=by
    unfold Addr.add;split
    ·congr 1;omega
    ·show(⟨bk,of+(i*AC.sz α+f),none⟩:Addr)=_;congr 1;omega
   rwa [e]at this
theorem oH{P:Program}{W:World}{r:Reach}{base:Nat}{t e:TypeId}{v:Value}(ht:P.underlying t=some (.slice e))(h:Value.okWide P W r base t v):∃p k c,v=.slice p k c:=by
 simp only [Value.okWide,ht,Cell.okWide]at h;cases v<;>simp [Cell.ok,ht]at h;exact⟨_,_,_,rfl⟩
end
end
section
variable{B:World}
theorem NH(x:UInt64)(k:Nat)(hk:0<k∧k<64)(H:HP):Fn Tryz.prog B 227 [u64 x,iN k] H (fun v H'=>v=u64 (K5 x k)∧H'=H):=by
 refine mI Tryz.func227 ?_
 have h63:k&&&63=k:=by rw [Nat.and_two_pow_sub_one_eq_mod k 6];omega
 refine J2 ?_;refine GR ?_;refine J5 ?_;refine JL FC ?_;refine JL (kV (j:=63) rfl rfl (by constructor<;>first|omega|exact Nat.lt_of_le_of_lt (Nat.div_le_self ..) Ca)) ?_;refine J7 ?_;refine JL (SK rfl rfl Ca) ?_;refine J2 ?_;refine JL (KI (i:=64) rfl rfl Ca) ?_;refine JL (JI rfl rfl Ca) ?_;refine JL (TI rfl rfl) ?_;refine J4 ?_;exact mr [4] rfl rfl ⟨by simp only [h63];rfl,rfl⟩
set_option maxHeartbeats 1000000 in
theorem aQ(b k:Nat)(hk:k<1000)(v:S4)(R:HP):Fn Tryz.prog B 224 [ptr b 0,iN k] (HP.AA b 0 (s4 v)*R) (fun r H'=>r=.tuple #[]∧H'=HP.AA b 0 (s4 (Jj k v))*R):=by
 refine mI Tryz.func224 ?_;refine J3 ?_;refine Gi ?_;refine Bk (fun j:Nat=>[(0,ptr b 0),(4,iN k),(5,iN j)]) (fun j=>HP.AA b 0 (s4 (Jj j v))*R) (fun j=>j≤k) (fun j=>k-j) 0 FL EB rfl ?_;intro j hj;refine J6 ?_;refine mC (fun hc=>?_) (fun hc=>?_)
 ·refine J5 ?_;refine QA ?_;refine JT 2 rfl HU ?_;refine QP ?_;refine JT 6 rfl KM ?_;refine QN ?_;refine JT 10 rfl HU ?_;refine O0 ?_;refine JT 3 rfl KM ?_;refine Ny ?_;refine JT 8 rfl HU ?_;refine Jd 9 ?_;refine Jn 11 ?_;refine An 5 Cb rfl rfl (BJ rfl (NH _ 13 Cc _)) ?_;refine PN ?_;refine JT 12 rfl KM ?_;refine M0 ?_;refine Jy ?_;refine mA 8 9 ?_;refine EK ?_;refine Mr ?_;refine JT 3 rfl HU ?_
  refine Zk ?_;refine JT 7 rfl HU ?_;refine Db 8 Cb rfl Er ?_;refine Jy ?_;refine QA ?_;refine JT 2 rfl Hx ?_;refine QP ?_;refine JT 6 rfl I8 ?_;refine QN ?_;refine JT 10 rfl Hx ?_;refine O0 ?_;refine JT 3 rfl I8 ?_;refine Ny ?_;refine JT 8 rfl Hx ?_;refine Jd 9 ?_;refine Jn 11 ?_;refine An 5 Cb rfl rfl (BJ rfl (NH _ 16 Cc _)) ?_;refine PN ?_
  refine JT 12 rfl I8 ?_;refine M0 ?_;refine Jy ?_;refine QA ?_;refine JT 2 rfl HU ?_;refine QP ?_;refine JT 6 rfl I8 ?_;refine QN ?_;refine JT 10 rfl HU ?_;refine O0 ?_;refine JT 3 rfl I8 ?_;refine Ny ?_;refine JT 8 rfl HU ?_;refine Jd 9 ?_;refine Jn 11 ?_;refine An 5 Cb rfl rfl (BJ rfl (NH _ 21 Cc _)) ?_;refine PN ?_;refine JT 12 rfl I8 ?_;refine M0 ?_;refine JR ?_
  refine DK ?_;refine DO ?_;refine QA ?_;refine JT 2 rfl Hx ?_;refine QP ?_;refine JT 6 rfl KM ?_;refine QN ?_;refine JT 10 rfl Hx ?_;refine O0 ?_;refine JT 3 rfl KM ?_;refine Ny ?_;refine JT 8 rfl Hx ?_;refine Jd 9 ?_;refine Jn 11 ?_;refine An 5 Cb rfl rfl (BJ rfl (NH _ 17 Cc _)) ?_;refine PN ?_;refine JT 12 rfl KM ?_;refine M0 ?_;refine DF ?_;refine J1 ?_;refine mA 8 9 ?_;refine EK ?_;refine Mr ?_
  refine JT 3 rfl Hx ?_;refine Zk ?_;refine JT 7 rfl Hx ?_;refine Db 8 Cb rfl Er ?_;refine DF ?_;refine J3 ?_;refine Es ?_;exact BW (j+1) Ca Ca EB (by rw [rV];rfl)
 obtain rfl:j=k:=by omega
 refine J4 ?_;exact OD (ts:=[]) rfl rfl Ba
theorem PM(p:Option Addr)(b o c:Nat)(xs:List UInt8)(H:HP)(hs:Sl p b o xs.length c)(hr:Ab B H b o xs)(h8:8≤xs.length):
  Fn Tryz.prog B 222 [.slice p xs.length c] H (fun v H'=>v=u64 (le xs 8)∧H'=H):=by
 refine mI Tryz.func222 ?_;have ir:=Tx (B:=B) hr;have hlen:=hs.2;refine Mh ?_;refine JL (Qd (h:=8) rfl rfl Ca) ?_;refine Jb ?_;refine Bk (fun j:Nat=>[(2,u64 (le xs j)),(6,.slice p 8 c),(7,iN 8),(8,iN j)]) (fun _=>H) (fun j=>j≤8) (fun j=>8-j) 0 FL CY rfl ?_;intro j hj;refine J6 ?_;refine mC (fun hc=>?_) (fun hc=>?_)
 ·refine J7 ?_;refine JL (DG rfl rfl (b:=b) (o:=o) ⟨hs.1,Ca⟩ Ca) ?_;refine J8 ?_;refine JL (XF rfl) ?_;refine J1 ?_;refine JL (vR (i:=8) rfl rfl Ca) ?_;refine JL (SK rfl rfl Ca) ?_;refine JL (TI rfl rfl) ?_;refine KT ?_;exact BW (j+1) Ca Ca CY rfl
 obtain rfl:j=8:=by omega
 refine DH ?_;exact K4
def NI(m:UInt64)(v:S4):S4:=
 let v:=Jj 2 {v with d:=v.d ^^^m}
 {v with a:=v.a ^^^m}
theorem qZ(b:Nat)(v:S4)(m:UInt64)(R:HP):Fn Tryz.prog B 223 [u64 m,ptr b 0] (HP.AA b 0 (s4 v)*R) (fun r H'=>r=.tuple #[]∧H'=HP.AA b 0 (s4 (NI m v))*R):=by
 refine mI Tryz.func223 ?_;refine J2 ?_;refine JL I8 ?_;refine J2 ?_;refine JL Lv ?_;refine JL I8 ?_;refine J5 ?_;refine mE rfl (aQ b 2 Cc ⟨v.a,v.b,v.c,v.d ^^^m⟩ R) ?_;refine Fs ?_;refine JL HU ?_;refine J2 ?_;refine JL Lv ?_;refine JL HU ?_;refine J2 ?_;exact OD (ts:=[]) rfl rfl Ba
def Mc(ks:List UInt8):S4:=⟨le ks 8 ^^^8317987319222330741,le (ks.drop 8) 8 ^^^7237128888997146477,le ks 8 ^^^7816392313619706465,le (ks.drop 8) 8 ^^^8387220255154660723⟩
def Li(xs:List UInt8):Nat→S4→S4
 |0,v=>v
 |k+1,v=>NI (le (xs.drop (8*k)) 8) (Li xs k v)
def LC(ys:List UInt8):List UInt8:=ys++A! (8-ys.length) 0
def Jw(xs:List UInt8):List UInt8:=(LC (xs.drop (8*(xs.length/8)))).set 7 (A_ xs.length)
def Nz(ks xs:List UInt8):UInt64:=
 let v:=NI (le (Jw xs) 8) (Li xs (xs.length/8) (Mc ks))
 let v:=Jj 4 {v with c:=v.c ^^^255}
 v.a ^^^v.b ^^^v.c ^^^v.d
theorem dJ(ys:List UInt8)(h:ys.length<8):AD (ys.take (min ys.length 7))++([.int .u8 0,.int .u8 0,.int .u8 0,.int .u8 0,.int .u8 0,.int .u8 0,.int .u8 0,.int .u8 0]:List Value).drop (min ys.length 7*1)=AD (LC ys):=by
 rw [show min ys.length 7=ys.length by omega,List.take_length,LC,Ef];congr 1;rw [Nat.mul_one]
 have:ys.length=0∨ys.length=1∨ys.length=2∨ys.length=3∨ys.length=4∨ys.length=5∨ys.length=6∨ys.length=7:=by omega
 rcases this with h|h|h|h|h|h|h|h<;>rw [h]<;>rfl
set_option maxHeartbeats 1000000 in
theorem WO(ks xs:List UInt8)(p:Option Addr)(b o c:Nat)(H:HP)(hk:ks.length=16)(hs:Sl p b o xs.length c)(hr:Ab B H b o xs)(hx:xs.length<100000000):
  Fn Tryz.prog B 207 [.agg (AD ks).toArray,.slice p xs.length c] H (fun v H'=>v=u64 (Nz ks xs)∧H'=H):=by
 refine mI Tryz.func207 ?_;refine J2 ?_;refine KA ?_;rintro _ _ ⟨b2,rfl,rfl⟩;refine GR ?_;refine J3 ?_
 have hs8:Sl (sp (some ⟨b2,0,none⟩) 16 8 1) b2 (0+8*1) (ks.drop 8).length (16-8):=by
  rw [show(ks.drop 8).length=16-8 by simp;omega];exact Kr (k:=16) ⟨.inr rfl,Ca⟩ Ca Ca
 refine mA 3 6 ?_;refine JT 0 rfl (Po (k:=ks.length) rfl hk) ?_;refine JT 2 rfl (yN (l:=8) (k:=(ks.drop 8).length) rfl rfl Ca Ck) ?_;refine An 1 Cb rfl rfl (BJ rfl (PM _ b2 0 16 ks _ ⟨.inr rfl,Ca⟩ inferInstance Ca)) ?_;refine FB ?_;refine An 3 Cb rfl rfl (BJ rfl (PM _ b2 (0+8*1) (16-8) (ks.drop 8) _ hs8 inferInstance Ck)) ?_;refine JR ?_;refine DK ?_;refine EL 4 Cb rfl rfl FQ D2 ?_;refine EL 5 Cb rfl rfl FQ D2 ?_;refine Kf ?_;refine JL (Ly (b:=8317987319222330741) rfl rfl) ?_;refine J1 ?_;refine JL (Ly (b:=7237128888997146477) rfl rfl) ?_;refine J1 ?_;refine JL (Ly (b:=7816392313619706465) rfl rfl) ?_;refine J1 ?_;refine JL (Ly (b:=8387220255154660723) rfl rfl) ?_;refine JL (Vc rfl rfl Ce) ?_;refine Af (FD (l:=[_,_,_,_]) rfl) rfl ?_;rintro _ _ ⟨b7,rfl,rfl⟩;refine GA ?_;refine J4 ?_;refine JL F0 ?_;refine DH ?_
 refine Bk (α:=Nat×Option Addr×Nat) (fun z=>[(1,.slice z.2.1 (xs.drop (8*z.1)).length z.2.2),(7,ptr b7 0),(8,.func (.func 223) #[] #[ptr b7 0]),(9,iN xs.length)]) (fun z=>HP.AA b7 0 (s4 (Li xs z.1 (Mc ks)))*(HP.AA b2 0 (AD ks)*H)) (fun z=>8*z.1≤xs.length∧Sl z.2.1 b (o+8*z.1) (xs.drop (8*z.1)).length z.2.2) (fun z=>xs.length-8*z.1) (0,p,c) ⟨C! _,hs⟩
  CY rfl ?_
 rintro⟨k,q,c'⟩ ⟨hk8,hz⟩;dsimp only at hk8 hz⊢;have hrk:=hr.wE (8*k)
 have hlk:(xs.drop (8*k)).length=xs.length-8*k:=by simp
 refine J5 ?_;refine JL (TU (j:=8) rfl rfl) ?_;refine J2 ?_;refine mC (fun hc=>?_) (fun hc=>?_)
 ·refine J7 ?_;refine mE rfl (PM _ b (o+8*k) c' (xs.drop (8*k)) _ hz inferInstance Ca) ?_;refine JR ?_;refine Af Xx rfl ?_;refine J0 ?_;refine JL (OP (l:=8) (k':=(xs.drop (8*(k+1))).length) rfl rfl Ca Ck) ?_;refine J2 ?_;have h1:=Kr (sz:=1) (l:=8) (h:=(xs.drop (8*k)).length) hz Ca hz.2
  exact BW (k+1,sp q c' 8 1,c'-8) ⟨Ca,by
   rw [show o+8*(k+1)=o+8*k+8*1 by omega,show(xs.drop (8*(k+1))).length=(xs.drop (8*k)).length-8 by simp;omega];exact h1⟩ (by show xs.length-8*(k+1)<xs.length-8*k;omega) CY rfl
 obtain rfl:k=xs.length/8:=by omega
 have hlt:(xs.drop (8*(xs.length/8))).length<8:=by omega
 refine J7 ?_;refine Af O3 rfl ?_;rintro _ _ ⟨b10,rfl,rfl⟩;refine J4 ?_;refine JL (eQ (h:=7) rfl rfl Ca) ?_;refine J1 ?_;refine Af (aY (b:=b10) (o:=0) (bb:=b) (oo:=o+8*(xs.length/8)) (ys:=xs.drop (8*(xs.length/8))) rfl ⟨.inr rfl,Ca⟩ rfl hz inferInstance Cc) rfl ?_;refine JR ?_;refine BF (H':=AB b10 0 (LC (xs.drop (8*(xs.length/8)))) []*(HP.AA b7 0 (s4 (Li xs (xs.length/8) (Mc ks)))*(HP.AA b2 0 (AD ks)*H))) (by unfold AB;rw [J!,←dJ _ hlt];rfl) ?_
 have hp8:(LC (xs.drop (8*(xs.length/8)))).length=8:=by simp only [LC,B?,H_];omega
 refine J5 ?_;refine JL (Yr rfl) ?_;refine JL (Mm (i:=7) rfl rfl Ca) ?_;refine Bj (EY rfl rfl rfl Ca) ?_;refine J0 ?_;refine JL (Po (k:=(Jw xs).length) rfl Q0) ?_;refine mE rfl (PM _ b10 0 8 (Jw xs) _ ⟨.inr rfl,Q0⟩ (inferInstance:Ab B (AB b10 0 (Jw xs) []*_) b10 0 (Jw xs)) Q0) ?_;refine JR ?_;refine OO ?_;refine Af Xx rfl ?_;refine E9 ?_;refine JL Hx ?_;refine J1 ?_;refine JL (Ly (b:=255) rfl rfl) ?_;refine JL Hx ?_;refine J5 ?_;refine mE rfl (aQ b7 4 Cc {NI (le (Jw xs) 8) (Li xs (xs.length/8) (Mc ks))with c:=(NI (le (Jw xs) 8) (Li xs (xs.length/8) (Mc ks))).c ^^^255} _) ?_;refine E9 ?_;refine JL HU ?_;refine J1 ?_;refine JL KM ?_;refine J1 ?_;refine JL Lv ?_;refine JL Hx ?_;refine J1 ?_;refine JL Lv ?_;refine JL I8 ?_;refine J1 ?_
 refine JL Lv ?_;refine J4 ?_;exact mR [4] H rfl rfl Ba
end
section
variable{B:World}
def Dv(n:UInt64):List UInt8:=[(n>>> 56).toUInt8,(n>>> 48).toUInt8,(n>>> 40).toUInt8,(n>>> 32).toUInt8,(n>>> 24).toUInt8,(n>>> 16).toUInt8,(n>>> 8).toUInt8,n.toUInt8]
theorem T9(n:UInt64)(p:Option Addr)(b o c:Nat)(xs:List UInt8)(s:List Value)(R:HP)(hs:Sl p b o xs.length c)(hc:xs.length*1+s.length=c*1)(hx:xs.length<100000000):
  Fn Tryz.prog B 172 [.slice p xs.length c,u64 n] (AB b o xs s*R) (fun v H'=>B1 R (xs++Dv n) v H'):=by
 refine mI Tryz.func172 ?_;refine J9 ?_;refine JL (JI (j:=56) rfl rfl Ca) ?_;refine K2 ?_;refine JL (JI (j:=48) rfl rfl Ca) ?_;refine K2 ?_;refine JL (JI (j:=40) rfl rfl Ca) ?_;refine K2 ?_;refine JL (JI (j:=32) rfl rfl Ca) ?_;refine K2 ?_;refine JL (JI (j:=24) rfl rfl Ca) ?_;refine K2 ?_;refine JL (JI (j:=16) rfl rfl Ca) ?_;refine K2 ?_;refine JL (JI (j:=8) rfl rfl Ca) ?_;refine K2 ?_;refine JL Xd ?_;refine KX ?_;rintro _ _ ⟨b29,rfl,rfl⟩;refine BF (H':=AB b o xs s*(HP.AA b29 0 (AD (Dv n))*R)) Lj ?_;refine Af (CS (ys:=Dv n) (bb:=b29) (oo:=0) rfl hs hc rfl CB inferInstance rfl TZ Ca) rfl ?_;rintro _ _ ⟨q,b',o',c',s',rfl,h1,h2,rfl⟩;refine J4 ?_;exact mR [4] (AB b' o' (xs++Dv n) s'*R) rfl rfl ⟨q,b',o',c',s',rfl,h1,h2,rfl⟩
theorem Qh(n:UInt64)(R:HP):Fn Tryz.prog B 172 [.slice none 0 0,u64 n] R (fun v H'=>B1 R (Dv n) v H'):=by
 have h:=T9 (B:=B) n none 0 0 0 [] [] R F8 rfl Cg;rw [GU,HP.BH]at h;exact h
def Ag(first:Bool):UInt8:=bif first then 0 else 1
theorem F7{ks:List UInt8}(hk:ks.length=16):(AD ks).length=16:=by rw [Bl,hk];rfl
theorem SP(ks:List UInt8)(hk:ks.length=16)(first:Bool)(H:HP):
  Fn Tryz.prog B 75 [.agg (AD ks).toArray,.bool first] H (fun v H'=>v=.agg (AD ks++[u8 (Ag first)]).toArray∧H'=H):=by
 refine mI Tryz.func75 ?_;refine J2 ?_;refine KA ?_;rintro _ _ ⟨b2,rfl,rfl⟩;refine Af (FD (l:=[_,_,_,_,_,_,_,_,_,_,_,_,_,_,_,_,_]) rfl) rfl ?_;rintro _ _ ⟨b4,rfl,rfl⟩;refine J8 ?_;refine mc (fun hc=>?_) (fun hc=>?_)
 ·subst hc;refine J2 ?_;refine JL Nt ?_;refine JL (PO (cs:=AD ks++[u8 0]) rfl (Ie [] (A! 16 (u8 0)) [u8 0] (AD ks) ND rfl ND rfl PU)) ?_;refine Bj (Dz rfl rfl XZ Uk) ?_;refine E9 ?_;exact L8 H rfl (H4 (MM rfl (by simp [F7 hk])) JA) Ba
 subst hc;refine J4 ?_;refine JL Nt ?_;refine JL (PO (cs:=AD ks++[u8 1]) rfl (Ie [] (A! 16 (u8 0)) [u8 0] (AD ks) ND rfl ND rfl (Ie (AD ks) [u8 0] [] [u8 1] ND Cg rfl rfl (by simp only [J!];exact PU)))) ?_;refine Bj (Dz rfl rfl XZ Uk) ?_;refine Fs ?_;exact L8 H rfl (H4 (MM rfl (by simp [F7 hk])) JA) Ba
theorem zJ(ks:List UInt8)(side:UInt8)(number:UInt64)(H:HP):
  Fn Tryz.prog B 206 [.agg (AD ks++[u8 side]).toArray,u64 number] H (fun v H'=>∃b2 b3,v=.func (.func 221) #[] #[ptr b2 0,ptr b3 0]∧H'=HP.AA b3 0 [u64 number]*(HP.AA b2 0 (AD ks++[u8 side])*H)):=by
 refine mI Tryz.func206 ?_;refine M5 ?_;rintro _ _ ⟨b2,rfl,rfl⟩;refine Af (DP (l:=[u64 number]) rfl rfl) rfl ?_;rintro _ _ ⟨b3,rfl,rfl⟩;refine J5 ?_;refine JL F0 ?_;refine J4 ?_;exact mr [4] rfl rfl ⟨b2,b3,rfl,rfl⟩
def Fx(side kind:UInt8)(n:UInt64):List UInt8:=[side,kind]++Dv n
def Jv(ks:List UInt8)(side:UInt8)(n:UInt64)(k:Nat):List UInt8:=Dv (Nz ks (Fx side 1 n++[A_ k]))
def QR(ks:List UInt8)(side:UInt8)(n:UInt64)(i:Nat):UInt8:=(Jv ks side n (i/8)).getD (i%8) 0
def EF(ks:List UInt8)(side:UInt8)(n:UInt64)(m:Nat):List UInt8:=(D? m).map (QR ks side n)
theorem lC(ks:List UInt8)(side:UInt8)(n:UInt64)(k j:Nat)(h:j<8):QR ks side n (8*k+j)=(Jv ks side n k).getD j 0:=by
 rw [QR,show(8*k+j)/8=k by omega,show(8*k+j)%8=j by omega]
theorem ME(ks:List UInt8)(side:UInt8)(n:UInt64)(m:Nat):(EF ks side n m).length=m:=by simp [EF]
theorem vM(ks:List UInt8)(side:UInt8)(n:UInt64)(m:Nat):EF ks side n m++[QR ks side n m]=EF ks side n (m+1):=by simp [EF,List.range_succ]
theorem Sx(n:UInt64):(Dv n).length=8:=rfl
set_option maxHeartbeats 1000000 in
theorem rU(ks:List UInt8)(hk:ks.length=16)(side:UInt8)(number:UInt64)(N:Nat)(hN:0<N∧N<100000000)(b2 b3:Nat)(R:HP):
  MQ Tryz.prog B 221 [ptr b2 0,ptr b3 0] u8 (fun _=>False) (fun pre=>pre=EF ks side number pre.length∧pre.length≤N) (fun pre=>pre.length<N)
   (HP.AA b2 0 (AD ks)*(HP.AA b2 (0+16) [u8 side]*(HP.AA b3 0 [u64 number]*R))) (HP.AA b2 0 (AD ks)*(HP.AA b2 (0+16) [u8 side]*(HP.AA b3 0 [u64 number]*R))):=by
 intro l J Jx hy;refine mI Tryz.func221 ?_;refine J2 ?_;refine JL RT ?_;refine J3 ?_
 refine Bk (fun k:Nat=>[(0,.func (.yield l) #[] #[]),(1,ptr b2 0),(2,ptr b3 0),(4,iN k)]) (fun k=>J (EF ks side number (8*k))*(HP.AA b2 0 (AD ks)*(HP.AA b2 (0+16) [u8 side]*(HP.AA b3 0 [u64 number]*R)))) (fun k=>8*k<N) (fun k=>N-8*k) 0 Ca
  CY rfl ?_
 intro k hkN;refine J6 ?_;refine Af Hb rfl ?_;rintro _ _ ⟨b12,rfl,rfl⟩;refine BF (H':=AB b12 0 [side,1] []*(J (EF ks side number (8*k))*(HP.AA b2 0 (AD ks)*(HP.AA b2 (0+16) [u8 side]*(HP.AA b3 0 [u64 number]*R))))) rfl ?_;refine J1 ?_;refine mE rfl (T9 number (some ⟨b12,0,none⟩) b12 0 2 [side,1] [] _ CB rfl Cg) ?_;rintro _ _ ⟨p14,b14,o14,c14,s14,rfl,hs14,hc14,rfl⟩;refine J1 ?_;refine JL (Yr rfl) ?_;refine Af Hb rfl ?_;rintro _ _ ⟨b17,rfl,rfl⟩;refine BF (H':=AB b14 o14 ([side,1]++Dv number) s14*(HP.AA b17 0 (AD [A_ k])*(J (EF ks side number (8*k))*(HP.AA b2 0 (AD ks)*(HP.AA b2 (0+16) [u8 side]*(HP.AA b3 0 [u64 number]*R)))))) Lj ?_;refine Af (CS (ys:=[A_ k]) (bb:=b17) (oo:=0) rfl hs14 hc14 rfl CB inferInstance rfl (by simp [Dv]) Ca) rfl ?_;rintro _ _ ⟨p18,b18,o18,c18,s18,rfl,hs18,hc18,rfl⟩;refine J6 ?_;refine JL WK ?_;refine J1 ?_;refine mE rfl (WO ks ([side,1]++Dv number++[A_ k]) p18 b18 o18 c18 _ hk hs18 inferInstance (by simp [Dv])) ?_;refine JR ?_;refine mE rfl (Qh _ _) ?_;rintro _ _ ⟨p23,b23,o23,c23,s23,rfl,hs23,hc23,rfl⟩;refine J1 ?_
 refine Gi ?_;refine HI (AB b23 o23 (Dv (Nz ks ([side,1]++Dv number++[A_ k]))) s23*(J (EF ks side number (8*k))*(HP.AA b2 0 (AD ks)*(HP.AA b2 (0+16) [u8 side]*(HP.AA b3 0 [u64 number]*R))))) ?_
 refine Bk (fun j:Nat=>[(0,.func (.yield l) #[] #[]),(1,ptr b2 0),(2,ptr b3 0),(4,iN k),(23,.slice p23 8 c23),(24,iN 8),(25,iN j)]) (fun j=>J (EF ks side number (8*k+j))*(AB b23 o23 (Jv ks side number k) s23*(HP.AA b2 0 (AD ks)*(HP.AA b2 (0+16) [u8 side]*(HP.AA b3 0 [u64 number]*R))))) (fun j=>j≤8∧8*k+j<N) (fun j=>8-j) 0 Ca
  LX (HP.CF _ _ _) ?_
 intro j hj;refine J6 ?_;refine mC (fun hc=>?_) (fun hc=>?_)
 ·refine J6 ?_;refine JL (DG rfl rfl (b:=b23) (o:=o23) hs23 (by show j<8;omega)) ?_;refine JL (GL rfl (by show j<8;omega)) ?_;refine J7 ?_
  have hsp:EF ks side number (8*k+j)++[(Jv ks side number k).getD j 0]=EF ks side number (8*k+(j+1)):=by rw [←lC ks side number k j hc,vM];rfl
  refine Me (Rk rfl rfl (hy (EF ks side number (8*k+j)) ((Jv ks side number k).getD j 0) _ ZX)) rfl ?_;rintro _ _ ⟨g,rfl,hg,rfl⟩;refine Ij ?_;refine mc (fun hc=>?_) (fun hc=>?_)
  ·skip
   obtain rfl:g=false:=by simpa using hc
   refine J9 ?_;refine Dl (H':=Jx (EF ks side number (8*k+j)++[(Jv ks side number k).getD j 0])*(AB b23 o23 (Jv ks side number k) s23*(HP.AA b2 0 (AD ks)*(HP.AA b2 (0+16) [u8 side]*(HP.AA b3 0 [u64 number]*R))))) rfl ?_;exact mR [] (Jx (EF ks side number (8*k+j)++[(Jv ks side number k).getD j 0])*(HP.AA b2 0 (AD ks)*(HP.AA b2 (0+16) [u8 side]*(HP.AA b3 0 [u64 number]*R)))) rfl rfl (.inr ⟨_,ZX,rfl⟩)
  obtain rfl:g=true:=by simpa using hc
  refine HZ ?_;exact BW (j+1) ⟨Ca,by have:=hg rfl;rw [hsp,ME]at this;omega⟩ Ca LX (by show J _*_=J _*_;rw [hsp])
 obtain rfl:j=8:=by omega
 refine J8 ?_;refine Es ?_;refine Bf (J (EF ks side number (8*k+8))*(HP.AA b2 0 (AD ks)*(HP.AA b2 (0+16) [u8 side]*(HP.AA b3 0 [u64 number]*R)))) ?_;exact BW (k+1) Ca Ca CY rfl
def CX(xs ms:List UInt8):List UInt8:=List.zipWith (·^^^ ·) xs ms
def C7(ks:List UInt8)(side:UInt8)(n:UInt64)(xs:List UInt8):List UInt8:=CX xs (EF ks side n xs.length)
theorem Ju(xs ms:List UInt8)(h:ms.length≤xs.length):(CX xs ms).length=ms.length:=by simp [CX];omega
theorem gX(xs ms:List UInt8)(m:UInt8)(h:ms.length<xs.length):CX xs (ms++[m])=CX xs ms++[xs.getD ms.length 0 ^^^m]:=by
 have e:xs=xs.take ms.length++(xs.getD ms.length 0::xs.drop (ms.length+1)):=by
  rw [B!,F? h,Option.getD_some,List.getElem_cons_drop,H!]
 have e2:CX xs ms=CX (xs.take ms.length) ms:=by
  rw [CX,CX]
  conv=>lhs;rw [←H! ms.length xs]
  rw [show ms=ms++[] by simp,H? Ck]
  simp
 rw [e2]
 conv=>lhs;rw [e]
 rw [CX,CX,H? Ck]
 simp
theorem sH(xs ms:List UInt8)(m:UInt8)(h:ms.length<xs.length):CX xs (ms++[m])=CX xs ms++[xs.getD (CX xs ms).length 0 ^^^m]:=by
 rw [gX xs ms m h,Ju xs ms Ca]
abbrev Ia:=Option Addr×Nat×Nat×Nat×List Value
def Ia.ok(z:Ia)(k:Nat):Prop:=Sl z.1 z.2.1 z.2.2.1 k z.2.2.2.1∧k*1+z.2.2.2.2.length=z.2.2.2.1*1
abbrev Ia.at(z:Ia)(b7:Nat)(xs:List UInt8)(R:HP):HP:=HP.AA b7 0 [.slice z.1 xs.length z.2.2.2.1]*(AB z.2.1 z.2.2.1 xs z.2.2.2.2*R)
set_option maxHeartbeats 1000000 in
theorem UX(ks:List UInt8)(hk:ks.length=16)(side:UInt8)(number:UInt64)(xs:List UInt8)(p:Option Addr)(b o c:Nat)(H:HP)(hs:Sl p b o xs.length c)(hr:Ab B H b o xs)(hx:xs.length<100000000):
  Fn Tryz.prog B 170 [.agg (AD ks++[u8 side]).toArray,u64 number,.slice p xs.length c] H (fun v H'=>B1 H (C7 ks side number xs) v H'):=by
 refine Pb Tryz.func170 rfl rfl rfl ?_;refine M5 ?_;rintro _ _ ⟨b3,rfl,rfl⟩;refine KL ?_;rintro _ _ ⟨b5,rfl,rfl⟩;refine J7 ?_;refine Af (kW (α:=UInt8) rfl rfl ⟨Ca,Ca⟩) rfl ?_;rintro _ _ ⟨p11,b11,o11,c11,s11,rfl,hs11,hc11,rfl⟩;refine M7 ?_;rintro _ _ ⟨b7,rfl,rfl⟩;refine J8 ?_;refine I' ?_;refine mC (fun hc=>?_) (fun hc=>?_)
 ·obtain rfl:xs=[]:=List.length_eq_zero_iff.1 hc;refine J8 ?_;refine Bf (AB b11 o11 ([]:List UInt8) s11*H) ?_;exact Oi (ts:=[6]) [] _ rfl rfl ⟨p11,b11,o11,c11,s11,rfl,hs11,hc11,rfl⟩ rfl
 refine J5 ?_;refine JL Nc ?_;refine J1 ?_;refine mE rfl (zJ ks side number _) ?_;rintro _ _ ⟨b2',b3',rfl,rfl⟩;refine J3 ?_
 refine kC (α:=UInt8) u8 (fun _=>False) (fun pre=>pre=EF ks side number pre.length∧pre.length≤xs.length) (fun pre=>pre.length<xs.length) (fun pre=>HP.ex fun z:Ia=>HP.pr (z.ok (CX xs pre).length)*z.at b7 (CX xs pre) (HP.AA b5 0 [.slice p xs.length c]*H)) (fun id pre=>HP.ex fun z:Ia=>HP.pr (id=0∧pre.length=xs.length∧z.ok (CX xs pre).length)*z.at b7 (CX xs pre) (HP.AA b5 0 [.slice p xs.length c]*H)) (HP.AA b2' 0 (AD ks)*(HP.AA b2' (0+16) [u8 side]*(HP.AA b3' 0 [u64 number]*HP.AA b3 0 (AD ks++[u8 side])))) (HP.AA b2' 0 (AD ks)*(HP.AA b2' (0+16) [u8 side]*(HP.AA b3' 0 [u64 number]*HP.AA b3 0 (AD ks++[u8 side])))) (fun x=>[(8,u8 x),(7,ptr b7 0),(5,ptr b5 0)]) rfl rfl rfl ?_ (rU ks hk side number xs.length ⟨Ca,hx⟩ b2' b3' _) ?_ ?_ ?_ ?_
 ·have hx0:CX xs []=[]:=by simp [CX]
  refine Hk (p11,b11,o11,c11,s11) (by rw [hx0];exact⟨hs11,hc11⟩) ?_;rw [HP.E3 b2' 0 (AD ks) [u8 side],F7 hk];rw [hx0];show _=HP.AA b7 0 [.slice p11 ([]:List UInt8).length c11]*(AB b11 o11 [] s11*(HP.AA b5 0 [.slice p xs.length c]*H))*_;ac_rfl
 ·intro pre x l R;refine J3 ?_;exact zF EB rfl
 ·intro pre x l R hsp;refine LK ?_;rintro⟨q,bq,oq,cq,sq⟩ ⟨hq1,hq2⟩;dsimp only [Ia.at]at hq1 hq2⊢;obtain⟨hp1,hp2⟩:=hsp;rw [B?,List.length_singleton]at hp2;have hxl:=Ju xs pre Ca;have hrr:Ab B (HP.AA b7 0 [.slice q (CX xs pre).length cq]*(AB bq oq (CX xs pre) sq*(HP.AA b5 0 [.slice p xs.length c]*H))*R) b o xs:=inferInstance;have ir:=Tx hrr;have hsn:=sH xs pre x Ca;refine J2 ?_;refine mA 9 11 ?_;refine Jd 0 ?_;refine Jd 1 ?_;refine Jd 2 ?_;refine JT 3 rfl FF ?_;refine JT 4 rfl (DG rfl rfl (b:=b) (o:=o) hs Ca) ?_;refine JT 5 rfl (GL rfl Ca) ?_;refine Jm 6 ?_;refine JT 7 rfl (Vz rfl rfl) ?_;refine An 8 Cb rfl rfl Hb ?_;rintro _ _ ⟨b28,rfl,rfl⟩;refine⟨.inr inferInstance,?_⟩;refine Ea (H':=AB bq oq (CX xs pre) sq*(HP.AA b28 0 (AD [xs.getD (CX xs pre).length 0 ^^^x])*(HP.AA b7 0 [.slice q (CX xs pre).length cq]*(HP.AA b5 0 [.slice p xs.length c]*H)*R))) (by show HP.AA b28 0 _*_=_;ac_rfl) ?_;refine An 9 Cb rfl rfl (CS (ys:=[xs.getD (CX xs pre).length 0 ^^^x]) (bb:=b28) (oo:=0) rfl hq1 hq2 rfl CB inferInstance rfl Ck Ca) ?_;rintro _ _ ⟨q2,b2,o2,c2,s2,rfl,h2,h3,rfl⟩;refine⟨.inl Cc,?_⟩;refine Db 10 Cb rfl Er ?_
  refine DF ?_;refine P0 ?_;refine mC (fun hc=>?_) (fun hc=>?_)
  ·refine J2 ?_;refine cM ?_;exact yH (Hk (q2,b2,o2,c2,s2) ⟨rfl,Xj,by rw [hsn];exact h2,by rw [hsn];exact h3⟩ UR)
  refine J2 ?_;refine cM ?_;exact pR Xj (Hk (q2,b2,o2,c2,s2) ⟨by rw [hsn];exact h2,by rw [hsn];exact h3⟩ UR)
 ·intro d xs hS;exact hS.elim
 intro d pre id hS;refine Pw ?_;rintro⟨q,bq,oq,cq,sq⟩ ⟨rfl,hlen,hq1,hq2⟩;dsimp only [Ia.at]at hq1 hq2⊢
 have hpre:CX xs pre=C7 ks side number xs:=by rw [C7,←hlen,←hS.1]
 rw [hpre]at hq1 hq2⊢;refine J9 ?_;refine Bf (AB bq oq (C7 ks side number xs) sq*(H*HP.obj d (.deferred (some [])))) ?_;refine Dl (H':=HP.obj d (.deferred (some []))*(AB bq oq (C7 ks side number xs) sq*H)) Cf ?_;exact Oi (ts:=[6]) [d] _ rfl rfl ⟨q,bq,oq,cq,sq,rfl,hq1,hq2,rfl⟩ rfl
def GY(ks:List UInt8)(side:UInt8)(n:UInt64)(xs:List UInt8):List UInt8:=Dv (Nz ks (Fx side 2 n++xs))
theorem YD(ks:List UInt8)(side:UInt8)(n:UInt64)(xs:List UInt8):(GY ks side n xs).length=8:=rfl
set_option maxHeartbeats 1000000 in
theorem WC(ks:List UInt8)(hk:ks.length=16)(side:UInt8)(number:UInt64)(xs:List UInt8)(p:Option Addr)(b o c:Nat)(H:HP)(hs:Sl p b o xs.length c)(hr:Ab B H b o xs)(hx:xs.length<90000000):
  Fn Tryz.prog B 171 [.agg (AD ks++[u8 side]).toArray,u64 number,.slice p xs.length c] H (fun v H'=>v=.agg (AD (GY ks side number xs)).toArray∧H'=H):=by
 refine mI Tryz.func171 ?_;refine M5 ?_;rintro _ _ ⟨b3,rfl,rfl⟩;refine BF (H':=HP.AA b3 0 (AD ks)*(HP.AA b3 (0+16) [u8 side]*H)) (by rw [HP.E3,F7 hk,HP.assoc]) ?_;refine Af O3 rfl ?_;rintro _ _ ⟨b6,rfl,rfl⟩;refine J4 ?_;refine Af O3 rfl ?_;rintro _ _ ⟨b7,rfl,rfl⟩;refine J3 ?_;refine Ao (H':=HP.AA b7 0 [u8 0,u8 0,u8 0,u8 0,u8 0,u8 0,u8 0,u8 0]*(HP.AA b6 0 [u8 0,u8 0,u8 0,u8 0,u8 0,u8 0,u8 0,u8 0]*(HP.AA b3 0 (AD ks)*(HP.AA b3 (0+16) [u8 side]*H)))) rfl ?_;have hrr:Ab B (HP.AA b7 0 [u8 0,u8 0,u8 0,u8 0,u8 0,u8 0,u8 0,u8 0]*(HP.AA b6 0 [u8 0,u8 0,u8 0,u8 0,u8 0,u8 0,u8 0,u8 0]*(HP.AA b3 0 (AD ks)*(HP.AA b3 (0+16) [u8 side]*H)))) b o xs:=inferInstance;refine mA 12 13 ?_;refine JT 0 rfl (Po (k:=8) rfl rfl) ?_;refine Jf 1 ?_;refine JT 2 rfl WK ?_;refine Np ?_;refine I1 ?_;refine Jm 6 ?_;refine Jm 8 ?_;refine An 5 Cb rfl rfl Hb ?_;rintro _ _ ⟨b13,rfl,rfl⟩;refine BA ?_;refine Ea (H':=AB b13 0 [side,2] []*(HP.AA b7 0 [u8 0,u8 0,u8 0,u8 0,u8 0,u8 0,u8 0,u8 0]*(HP.AA b6 0 [u8 0,u8 0,u8 0,u8 0,u8 0,u8 0,u8 0,u8 0]*(HP.AA b3 0 (AD ks)*(HP.AA b3 (0+16) [u8 side]*H))))) rfl ?_
 refine An 7 Cb rfl rfl (BJ rfl (T9 number (some ⟨b13,0,none⟩) b13 0 2 [side,2] [] _ CB rfl Cg)) ?_;rintro _ _ ⟨p15,b15,o15,c15,s15,rfl,hs15,hc15,rfl⟩;refine BA ?_;refine An 9 Cb rfl rfl (CS (ys:=xs) (bb:=b) (oo:=o) rfl hs15 hc15 rfl hs inferInstance rfl TZ Ca) ?_;rintro _ _ ⟨p17,b17,o17,c17,s17,rfl,hs17,hc17,rfl⟩;refine BA ?_;refine An 10 Cb rfl rfl (BJ rfl (WO ks ([side,2]++Dv number++xs) p17 b17 o17 c17 _ hk hs17 inferInstance TZ)) ?_;refine FB ?_;refine An 11 Cb rfl rfl (BJ rfl (Qh _ _)) ?_;rintro _ _ ⟨p19,b19,o19,c19,s19,rfl,hs19,hc19,rfl⟩;refine BA ?_;refine Ea (H':=HP.AA b7 0 [u8 0,u8 0,u8 0,u8 0,u8 0,u8 0,u8 0,u8 0]*(AB b19 o19 (GY ks side number xs) s19*(AB b17 o17 ([side,2]++Dv number++xs) s17*(HP.AA b6 0 [u8 0,u8 0,u8 0,u8 0,u8 0,u8 0,u8 0,u8 0]*(HP.AA b3 0 (AD ks)*(HP.AA b3 (0+16) [u8 side]*H)))))) (by show AB b19 o19 (GY ks side number xs) s19*_=_;ac_rfl) ?_;refine An 12 Cb rfl rfl (aY (b:=b7) (o:=0) (bb:=b19) (oo:=o19) (ys:=GY ks side number xs) rfl CB rfl hs19 inferInstance Cc) ?_;refine DF ?_;refine J3 ?_;refine JL (Di (l:=AD (GY ks side number xs)) rfl rfl) ?_
 refine Bj (Dz rfl rfl Ch (Jh _)) ?_;refine Fs ?_;exact L8 H rfl (H4 (MM rfl rfl) JA) Ba
theorem S7(ks:List UInt8)(side:UInt8)(n:UInt64)(xs:List UInt8):(C7 ks side n xs).length=xs.length:=by
 rw [C7,Ju _ _ Vo,ME]
def Bv(ks:List UInt8)(side:UInt8)(n:UInt64)(xs:List UInt8):List UInt8:=Dv n++C7 ks side n xs++GY ks side n (C7 ks side n xs)
theorem WT(ks:List UInt8)(hk:ks.length=16)(side:UInt8)(number:UInt64)(xs:List UInt8)(p:Option Addr)(b o c:Nat)(H:HP)(hs:Sl p b o xs.length c)(hr:Ab B H b o xs)(hx:xs.length<90000000):
  Fn Tryz.prog B 141 [.agg (AD ks++[u8 side]).toArray,u64 number,.slice p xs.length c] H (fun v H'=>B1 H (Bv ks side number xs) v H'):=by
 refine mI Tryz.func141 ?_;have hml:=S7 ks side number xs;refine M5 ?_;rintro _ _ ⟨b3,rfl,rfl⟩;refine J5 ?_;refine JL Nc ?_;refine J2 ?_;refine mE rfl (UX ks hk side number xs p b o c _ hs inferInstance Ca) ?_;rintro _ _ ⟨p12,b12,o12,c12,s12,rfl,hs12,hc12,rfl⟩;refine J5 ?_;refine JL Nc ?_;refine J2 ?_;refine mE rfl (WC ks hk side number (C7 ks side number xs) p12 b12 o12 c12 _ hs12 inferInstance Ca) ?_;refine JR ?_;refine Af O3 rfl ?_;rintro _ _ ⟨b8,rfl,rfl⟩;refine Bj (Dz rfl rfl Ch (Jh _)) ?_;refine Fs ?_;refine mA 5 7 ?_;refine GF ?_;refine Jm 2 ?_;refine JT 4 rfl (Po (k:=8) rfl rfl) ?_;refine An 1 Cb rfl rfl (BJ rfl (Qh _ _)) ?_;rintro _ _ ⟨p18,b18,o18,c18,s18,rfl,hs18,hc18,rfl⟩;refine BA ?_;refine An 3 Cb rfl rfl (CS (ys:=C7 ks side number xs) (bb:=b12) (oo:=o12) rfl hs18 hc18 rfl hs12 inferInstance rfl (by rw [Sx];omega) Ca) ?_;rintro _ _ ⟨p20,b20,o20,c20,s20,rfl,hs20,hc20,rfl⟩;refine BA ?_
 refine An 5 Cb rfl rfl (CS (ys:=GY ks side number (C7 ks side number xs)) (bb:=b8) (oo:=0) rfl hs20 hc20 rfl CB inferInstance rfl (by rw [B?,Sx,YD];omega) Ca) ?_;rintro _ _ ⟨p22,b22,o22,c22,s22,rfl,hs22,hc22,rfl⟩;refine DK ?_;refine EL 6 Cb rfl rfl FQ D2 ?_;refine DO ?_;exact mR [6] (AB b22 o22 (Dv number++C7 ks side number xs++GY ks side number (C7 ks side number xs)) s22*H) rfl rfl ⟨p22,b22,o22,c22,s22,rfl,hs22,hc22,rfl⟩
def be(xs:List UInt8):Nat→UInt64
 |0=>0
 |i+1=>(be xs i<<< 8)|||(xs.getD i 0).toUInt64
def FH(xs:List UInt8):List UInt8:=(xs.take (xs.length-8)).drop 8
def Bx(ks:List UInt8)(side:UInt8)(xs:List UInt8):Option (UInt64×List UInt8):=
 if xs.length<16∨300<xs.length then none
 else if 4611686018427387903<(be xs 8).toNat∨GY ks side (be xs 8) (FH xs)≠xs.drop (xs.length-8)then none
 else some (be xs 8,C7 ks side (be xs 8) (FH xs))
set_option maxHeartbeats 1000000 in
theorem VU(ks:List UInt8)(hk:ks.length=16)(side:UInt8)(xs:List UInt8)(p:Option Addr)(b o c:Nat)(H:HP)(hs:Sl p b o xs.length c)(hr:Ab B H b o xs)(hx:xs.length<90000000):
  Fn Tryz.prog B 142 [.agg (AD ks++[u8 side]).toArray,.slice p xs.length c] H (fun v H'=>match Bx ks side xs with
   |none=>v=.tuple #[u64 0,.slice none 0 0,.bool false]∧H'=H
   |some (n,ys)=>∃sv,v=.tuple #[u64 n,sv,.bool true]∧B1 H ys sv H'):=by
 refine mI Tryz.func142 ?_;refine M5 ?_;rintro _ _ ⟨b2,rfl,rfl⟩;refine GR ?_;refine J8 ?_;refine JL (Ob (i:=(xs.length:Int)) (j:=8) rfl rfl Ca) ?_;refine J7 ?_;refine JL (K3 (j:=8) rfl rfl) ?_;refine J1 ?_;refine D8 15 rfl (fun hg1=>?_) (fun hg1=>?_)
 ·refine LL ?_;refine JH T1 ?_;refine JL Fd ?_;refine J2 ?_;refine GJ ?_;refine Mh ?_;exact mR [4,5,6] H rfl rfl Vq
 refine N3 ?_;refine JL (F6 (j:=300) rfl rfl) ?_;refine JL Ec ?_;refine J2 ?_;refine mC (fun hc=>?_) (fun hc=>?_)
 ·refine Mh ?_;exact mR [4,5,6] H rfl rfl Vq
 have e8:((xs.length:Int)-8)=((xs.length-8:Nat):Int):=by omega
 rw [e8]
 have h16:16≤xs.length:=by omega
 have h300:xs.length≤300:=by omega
 have hbl:(FH xs).length=xs.length-16:=by simp [FH];omega
 have hop:¬(xs.length<16∨300<xs.length):=by omega
 have ir:=Tx (B:=B) hr
 have hsB:Sl (sp p c 8 1) b (o+8*1) (FH xs).length (c-8):=by
  have:=Kr (sz:=1) (l:=8) (h:=xs.length-8) hs Ca Ci
  rw [hbl,show xs.length-16=xs.length-8-8 by omega];exact this
 have hrB:Ab B H b (o+8*1) (FH xs):=hr.sub 8 (xs.length-8) Ca
 have hsT:Sl (sp p c (xs.length-8) 1) b (o+(xs.length-8)*1) (xs.drop (xs.length-8)).length (c-(xs.length-8)):=by
  have:=Kr (sz:=1) (l:=xs.length-8) (h:=xs.length) hs Ca hs.2
  rw [D!];exact this
 have hrT:Ab B H b (o+(xs.length-8)*1) (xs.drop (xs.length-8)):=hr.Jr (xs.length-8)
 have hT8:(xs.drop (xs.length-8)).length=8:=by rw [D!];omega
 refine J6 ?_;refine JL (Qd (h:=8) rfl rfl Ci) ?_;refine Jb ?_
 refine Bk (fun j:Nat=>[(1,.slice p xs.length c),(2,ptr b2 0),(7,iN (xs.length-8)),(21,.slice p 8 c),(22,iN 8),(23,iN j),(4,u64 (be xs j))]) (fun _=>HP.AA b2 0 (AD ks++[u8 side])*H) (fun j=>j≤8) (fun j=>8-j) 0 FL
  LX rfl ?_
 intro j hj;refine J6 ?_;refine mC (fun hc=>?_) (fun hc=>?_)
 ·refine J6 ?_;refine JL (DG rfl rfl (b:=b) (o:=o) ⟨hs.1,Ci⟩ Ca) ?_;refine JL (GL rfl Ca) ?_;refine J5 ?_;refine JL (SK (j:=8) rfl rfl Ca) ?_;refine J1 ?_;refine JL (XF rfl) ?_;refine JL (TI rfl rfl) ?_;refine KT ?_;exact BW (j+1) Ca Ca LX rfl
 obtain rfl:j=8:=by omega
 refine J7 ?_;refine mA 16 16 ?_;refine GF ?_;refine JT 1 rfl (F6 (i:=(be xs 8).toNat) (j:=4611686018427387903) rfl rfl) ?_;refine Jm 2 ?_;refine GK 35 rfl (fun hg2=>?_) (fun hg2=>?_)
 ·refine JN 3 rfl T2 ?_;refine JN 4 rfl T2 ?_;refine JN 5 rfl T2 ?_;refine JN 6 rfl T2 ?_;refine JN 7 rfl T2 ?_;refine JN 9 rfl T2 ?_;refine JN 10 rfl T2 ?_;refine JN 11 rfl T2 ?_;refine JN 12 rfl T2 ?_;refine JN 13 rfl T2 ?_;refine JN 8 rfl T2 ?_;refine JN 14 rfl T2 ?_;refine JT 15 rfl Ht ?_;refine Ei ?_;refine GJ ?_;refine Mh ?_;exact mR [4,5,6] H rfl rfl (by rw [show Bx ks side xs=none from by rw [Bx,if_neg hop,if_pos (.inl hg2)]];exact Ba)
 refine JY 3 rfl F2 Nc ?_;refine JY 4 rfl F2 BZ ?_;refine JY 5 rfl F2 BZ ?_;refine JY 6 rfl F2 BZ ?_;refine JY 7 rfl F2 Ys ?_;refine JY 9 rfl F2 BZ ?_;refine JY 10 rfl F2 BZ ?_;refine JY 11 rfl F2 (OP (l:=xs.length-8) (k':=(xs.drop (xs.length-8)).length) rfl rfl Ca (by rw [D!])) ?_;refine JY 12 rfl F2 (eM rfl hsT Ca Ca) ?_;refine JY 13 rfl F2 (aF (xs:=xs.drop (xs.length-8)) (o:=o+(xs.length-8)*1) rfl inferInstance (by rw [hT8];rfl)) ?_;refine Oo 8 Cb rfl rfl rfl rfl F2 (BJ rfl (WC ks hk side (be xs 8) (FH xs) (sp p c 8 1) b (o+8*1) (c-8) _ hsB inferInstance Ca)) ?_;refine FB ?_;refine JY 14 rfl F2 (vU (xs:=GY ks side (be xs 8) (FH xs)) (ys:=xs.drop (xs.length-8)) Cb rfl rfl rfl hT8) ?_;refine JT 15 rfl HK ?_;refine Ei ?_;refine mC (fun hc=>?_) (fun hc=>?_)
 ·refine Mh ?_;exact mR [4,5,6] H rfl rfl (by rw [show Bx ks side xs=none from by rw [Bx,if_neg hop,if_pos (.inr hc)]];exact Ba)
 refine J3 ?_;refine mA 10 10 ?_;refine GF ?_;refine JT 1 rfl Nc ?_;refine Jm 2 ?_;refine Jm 3 ?_;refine Jm 4 ?_;refine JT 5 rfl Ys ?_;refine An 6 Cb rfl rfl (BJ rfl (UX ks hk side (be xs 8) (FH xs) (sp p c 8 1) b (o+8*1) (c-8) _ hsB inferInstance Ca)) ?_;rintro _ _ ⟨p55,b55,o55,c55,s55,rfl,hs55,hc55,rfl⟩;refine BA ?_;refine Ja 7 ?_;refine Ja 8 ?_;refine Ja 9 ?_;refine DO ?_;exact mR [4,5,6] (AB b55 o55 (C7 ks side (be xs 8) (FH xs)) s55*H) rfl rfl (by rw [show Bx ks side xs=some (be xs 8,C7 ks side (be xs 8) (FH xs)) by rw [Bx,if_neg hop,if_neg (fun h=>h.elim hg2 hc)]];exact⟨_,rfl,p55,b55,o55,c55,s55,rfl,hs55,hc55,rfl⟩)
end
structure BE where
 l:List AV
 floor:Nat
 AL:Nat
def Bw(lo hi:Nat):List AV→List AV
 |[]=>[⟨lo,hi⟩]
 |r::rs=>if r.hi+1<lo then r::Bw lo hi rs else if hi+1<r.lo then⟨lo,hi⟩::r::rs else Bw (min lo r.lo) (max hi r.hi) rs
def BE.add(s:BE)(lo hi:Nat):BE:=
 if hi<max lo s.floor then s
 else if s.AL<(Bw (max lo s.floor) hi s.l).length then⟨(Bw (max lo s.floor) hi s.l).tail,((Bw (max lo s.floor) hi s.l).headD ⟨0,0⟩).hi+1,s.AL⟩
 else⟨Bw (max lo s.floor) hi s.l,s.floor,s.AL⟩
def BB(n:Nat)(l:List AV):Prop:=∃r∈l,r.lo≤n∧n≤r.hi
instance(n:Nat)(l:List AV):Decidable (BB n l):=by unfold BB;infer_instance
def BE.has(s:BE)(n:Nat):Prop:=n<s.floor∨BB n s.l
instance(s:BE)(n:Nat):Decidable (s.has n):=by unfold BE.has;infer_instance
def AQ(lo hi:Nat):List AV→Nat×Nat
 |[]=>(lo,hi)
 |r::rs=>if r.hi<lo then AQ lo hi rs else if lo<r.lo then(lo,min hi r.lo)else AQ (r.hi+1) hi rs
def BE.of(AL:Nat):BE:=⟨[],0,AL⟩
structure AX where
 b:List UInt8
 Ae:BE
 AE:BE
 high:Nat
 finished:Bool
 ending:Bool
 ended:Bool
 given:Bool
 code:Nat
 C4:Bool
def AX.A4(w:AX):Nat:=(AQ 0 w.b.length w.AE.l).1
structure Bb where
 b:List UInt8
 AE:BE
 high:Nat
 end_:Nat
 ended:Bool
 given:Bool
 code:Nat
 read:Nat
 state:Nat
structure Da where
 number:Nat
 at_:Nat
 As:List AT
structure AG where
 AI:Nat
 AF:Nat
 ks:List UInt8
 first:Bool
 now:Nat
 closed:Nat
 code:Nat
 said:Bool
 next:Nat
 AR:BE
 answer:Bool
 ws:List AX
 rs:List Bb
 BG:List Da
 lost:List Da
 BV:Nat
 waits:Nat
def Aq:AX:=⟨[],.of 4096,.of 4096,0,false,false,false,false,0,false⟩
def E6:Bb:=⟨[],.of 4096,0,0,false,false,0,0,0⟩
def IH(AI AF:Int):Prop:=64≤AI∧AI≤300∧16≤AF∧AF≤1024
instance(AI AF:Int):Decidable (IH AI AF):=by unfold IH;infer_instance
def AG.new(AI AF:Nat)(ks:List UInt8)(first:Bool):AG:=
 ⟨AI,AF,ks,first,0,0,0,false,0,.of 8,false,A! 4 Aq,A! 4 E6,[],[],0,0⟩
def AG.w(c:AG)(k:Nat):AX:=c.ws.getD k Aq
def AG.r(c:AG)(k:Nat):Bb:=c.rs.getD k E6
def AG.Bp(c:AG)(k:Nat)(w:AX):AG:={c with ws:=c.ws.set k w}
def AG.BQ(c:AG)(k:Nat)(r:Bb):AG:={c with rs:=c.rs.set k r}
def AG.stream(c:AG)(k:Int):Nat:=if c.closed≠0 then 9 else if k<0∨4≤k then 2 else 0
def AG.D3(c:AG)(k:Int):Nat:=
 if c.stream k≠0 then c.stream k else if(c.w k.toNat).finished∨(c.w k.toNat).given then 3 else 0
def AG.GT(c:AG)(k:Nat)(len:Nat):Nat:=
 min (min (c.AF-((c.w k).b.length-(c.w k).A4)) (4096-(c.w k).b.length)) len
def AG.write(c:AG)(k:Int)(xs:List UInt8):(Nat×Nat)×AG:=
 if c.D3 k≠0 then((0,c.D3 k),c)
 else((c.GT k.toNat xs.length,0),c.Bp k.toNat {c.w k.toNat with b:=(c.w k.toNat).b++xs.take (c.GT k.toNat xs.length)})
def AG.finish(c:AG)(k:Int):Nat×AG:=
 if c.D3 k≠0 then(c.D3 k,c)else(0,c.Bp k.toNat {c.w k.toNat with finished:=true})
def AG.giveUp(c:AG)(k:Int)(code:Nat):Nat×AG:=
 if c.stream k≠0 then(c.stream k,c)
 else if(c.w k.toNat).given∨4611686018427387903<code then(3,c)
 else(0,c.Bp k.toNat {c.w k.toNat with given:=true,code:=code})
def AG.AE(c:AG)(k:Int):Nat×Nat:=
 if c.stream k≠0 then(0,c.stream k)else((c.w k.toNat).A4,0)
def AG.close(c:AG)(code:Nat):Nat×AG:=
 if c.closed≠0 then(9,c)else if 4611686018427387903<code then(3,c)else(0,{c with closed:=9,code:=code})
def Dd(lo hi:Nat)(s:BE)(r:AV):BE:=
 let s1:=if r.lo<lo then s.add r.lo (min r.hi (lo-1))else s
 if hi≤r.hi then s1.add (max r.lo hi) r.hi else s1
def AX.again(w:AX)(f:AT):AX:=
 if f.kind=5 then
  {w with Ae:=w.AE.l.reverse.foldl (fun s r=>s.add r.lo r.hi) (w.Ae.l.reverse.foldl (Dd f.offset (f.offset+f.data.size)) (BE.of 4096)),ending:=w.ending&& !f.fin}
 else if f.kind=4 then {w with C4:=false}else w
def HD(ws:List AX)(f:AT):List AX:=ws.set f.stream.toNat ((ws.getD f.stream.toNat Aq).again f)
def Lz(ws:List AX)(p:Da):List AX:=p.As.foldl HD ws
def AG.Fm(c:AG)(lost:Da→Bool):AG:=
 {c with BG:=c.BG.filter (fun p=> !lost p),lost:=c.lost++c.BG.filter lost,ws:=(c.BG.filter lost).foldl Lz c.ws}
def Lq(waits:Nat):Nat:=min (4*2^waits) 32
def AG.tick(c:AG):AG:=
 if c.BG.any (fun p=>decide (p.at_+Lq c.waits≤c.now+1))then
  {({c with now:=c.now+1}:AG).Fm (fun _=>true)with waits:=min (c.waits+1) 8}
 else {c with now:=c.now+1}
def AX.named(w:AX)(inn:Bool)(f:AT):AX:=
 let w1:=if inn=true∧f.kind=5∧f.data.size≠0 then
  {w with AE:=w.AE.add f.offset (f.offset+f.data.size-1),Ae:=w.Ae.add f.offset (f.offset+f.data.size-1)}else w
 {w1 with ended:=w1.ended||(inn&&decide (f.kind=5)&&f.fin)}
def BI(l:List AV)(n:Nat):Bool:=l.any (fun r=>decide (r.lo≤n)&&decide (n≤r.hi))
def Gy(inn:Bool)(ws:List AX)(f:AT):List AX:=ws.set f.stream.toNat ((ws.getD f.stream.toNat Aq).named inn f)
def H8(l:List AV)(ws:List AX)(p:Da):List AX:=p.As.foldl (Gy (BI l p.number)) ws
def AG.Eb(c:AG)(l:List AV):AG:=
 {c with BV:=max c.BV (rg l 0).hi,lost:=c.lost.filter (fun p=> !BI l p.number),BG:=c.BG.filter (fun p=> !BI l p.number),ws:=c.BG.foldl (H8 l) (c.lost.foldl (H8 l) c.ws),waits:=if(c.BG.filter (fun p=> !BI l p.number)).length<c.BG.length then 0 else c.waits}
def AG.By(c:AG)(l:List AV):Nat×AG:=
 if c.next≤(rg l 0).hi then(8,c)
 else(0,(c.Eb l).Fm (fun p=>decide (p.number+3≤(c.Eb l).BV)))
def GG(b:List UInt8)(o:Nat)(ds:List UInt8):List UInt8:=b.take o++ds++b.drop (o+ds.length)
def Fj(fuel:Nat)(off e:Nat)(ds:List UInt8)(read lo:Nat)(b:List UInt8)(AE:BE):List UInt8×BE:=
 match fuel with
 |0=>(b,AE)
 |n+1=>
  if lo<e then
   let g:=AQ lo e AE.l
   if e≤g.1 then(b,AE)
   else Fj n off e ds read g.2 (GG b (g.1-read) ((ds.drop (g.1-off)).take (g.2-g.1))) (AE.add g.1 (g.2-1))
  else(b,AE)
def LO(ended:Bool)(end_ high:Nat)(f:AT):Prop:=
 (ended=true∧(end_<f.offset+f.data.size∨f.fin=true∧f.offset+f.data.size≠end_))∨(f.fin=true∧f.offset+f.data.size<high)
instance(ended:Bool)(end_ high:Nat)(f:AT):Decidable (LO ended end_ high f):=by unfold LO;infer_instance
def Bb.filled(r:Bb)(f:AT):List UInt8×BE:=
 Fj (f.offset+f.data.size+1) f.offset (f.offset+f.data.size) f.data.data.toList r.read (max f.offset r.read)
  (r.b++A! (max r.high (f.offset+f.data.size)-(r.read+r.b.length)) 0) r.AE
def Bb.Hh(r:Bb)(f:AT):Bb:=
 {r with high:=max r.high (f.offset+f.data.size),ended:=r.ended||f.fin,end_:=if f.fin then f.offset+f.data.size else r.end_,b:=(r.filled f).1,AE:=(r.filled f).2}
def Bb.data(r:Bb)(f:AT):Nat×Bb:=
 if LO r.ended r.end_ r.high f then(7,r)else if r.given then(0,r)else(0,r.Hh f)
def AG.take(c:AG)(f:AT):Nat×AG:=
 if f.kind=3 then c.By f.ranges
 else if f.kind=4 then
  if(c.r f.stream.toNat).ended=true∧(c.r f.stream.toNat).end_≠f.offset∨f.offset<(c.r f.stream.toNat).high then(7,c)
  else(0,c.BQ f.stream.toNat {c.r f.stream.toNat with code:=if(c.r f.stream.toNat).given then(c.r f.stream.toNat).code else f.code,given:=true,ended:=true,end_:=f.offset})
 else if f.kind=5 then(((c.r f.stream.toNat).data f).1,c.BQ f.stream.toNat ((c.r f.stream.toNat).data f).2)
 else if f.kind=6 then(10,c)else(0,c)
def AG.shut(c:AG)(e:Nat):AG:={c with closed:=e,code:=e,said:=decide (e=10)}
def AG.Bc(c:AG):List AT→Nat×AG
 |[]=>(0,c)
 |f::fs=>if(c.take f).1≠0 then((c.take f).1,(c.take f).2.shut (c.take f).1)
  else({(c.take f).2 with answer:=(c.take f).2.answer||(decide (f.kind≠3)&&decide (f.kind≠1))}:AG).Bc fs
def AG.busy(c:AG)(f:AT):Prop:=f.kind=5∧(c.r f.stream.toNat).given=false∧(c.r f.stream.toNat).read+c.AF<f.offset+f.data.size
instance(c:AG)(f:AT):Decidable (c.busy f):=by unfold AG.busy;infer_instance
def AG.A9(c:AG)(p:List UInt8):(Nat×Int)×AG:=
 if c.closed≠0 then((9,-1),c)
 else match Bx c.ks (Ag (!c.first)) p with
  |none=>((4,-1),c)
  |some (number,b)=>
   if c.AR.has number.toNat then((0,-1),c)
   else match FI b with
    | .error at_=>((5,at_),{c with closed:=5,code:=5})
    | .ok fs=>
     if ∃f∈fs,c.busy f then((6,-1),c)
     else((((({c with AR:=c.AR.add number.toNat number.toNat}:AG).Bc fs).1,-1)),(({c with AR:=c.AR.add number.toNat number.toNat}:AG).Bc fs).2)
def AG.EX(c:AG)(k:Nat):Bb:=if(c.r k).given=true∧(c.r k).state=0 then {c.r k with state:=2,b:=[]}else c.r k
def AG.HB(r:Bb)(AL:Int):Nat:=min ((AQ r.read r.high r.AE.l).1-r.read) AL.toNat
def AG.read(c:AG)(k:Int)(AL:Int):(List UInt8×Nat×Nat×Nat)×AG:=
 if c.stream k≠0 then(([],0,0,c.stream k),c)
 else
  let r:=c.EX k.toNat
  if r.state=0 then
   let n:=AG.HB r AL
   let r2:={r with b:=r.b.drop n,read:=r.read+n}
   let r3:=if r2.ended=true∧r2.read=r2.end_ then {r2 with state:=1}else r2
   ((r.b.take n,r3.state,0,0),c.BQ k.toNat r3)
  else(([],r.state,(if r.state=2 then r.code else 0),0),c.BQ k.toNat r)
structure BT where
 As:List AT
 room:Nat
def BT.b(d:BT):List UInt8:=Av d.As
def BT.add(d:BT)(f:AT):Option BT:=if d.room<(d.b++Ai f).length then none else some {d with As:=d.As++[f]}
def Bt(k off:Nat)(fin:Bool)(ds:List UInt8):AT:=⟨5,k,off,0,fin,AW ds,[]⟩
def H2(k code off:Nat):AT:=⟨4,k,off,code,false,⟨#[]⟩,[]⟩
def EN(rs:List AV):AT:=⟨3,0,0,0,false,⟨#[]⟩,rs⟩
def Do(code:Nat):AT:=⟨6,0,0,code,false,⟨#[]⟩,[]⟩
def cut(b:List UInt8)(lo hi:Nat):List UInt8:=(b.take hi).drop lo
def AX.KE(w:AX)(d:BT)(k lo hi:Nat):Option (AX×BT):=
 let head:=(Ai (Bt k lo false (cut w.b lo hi))).length-(hi-lo)
 if lo<hi∧d.room<d.b.length+head+1 then none
 else
  let hi2:=min hi (lo+(d.room-d.b.length-head))
  let f:=Bt k lo (w.finished&&decide (hi2=w.b.length)) (cut w.b lo hi2)
  match d.add f with
  |none=>none
  |some d2=>some ({w with Ae:=if lo<hi2 then w.Ae.add lo (hi2-1)else w.Ae,ending:=w.ending||f.fin,high:=max w.high hi2},d2)
def AX.fill(w:AX)(d:BT)(k:Nat):Option (AX×BT):=
 if w.given then
  if w.C4 then none
  else match d.add (H2 k w.code w.high)with
   |none=>none
   |some d2=>some ({w with C4:=true},d2)
 else if(AQ 0 w.b.length w.Ae.l).2≤(AQ 0 w.b.length w.Ae.l).1 then
  if w.finished=false∨w.ending=true∨w.ended=true then none else w.KE d k w.b.length w.b.length
 else w.KE d k (AQ 0 w.b.length w.Ae.l).1 (AQ 0 w.b.length w.Ae.l).2
def E8(k:Nat):Nat→AX→BT→AX×BT
 |0,w,d=>(w,d)
 |n+1,w,d=>match w.fill d k with
  |none=>(w,d)
  |some (w2,d2)=>E8 k n w2 d2
def EV(d:BT)(ws:List AX)(k:Nat):Nat→List AX×BT
 |0=>(ws,d)
 |n+1=>EV (E8 k (d.room+1) (ws.getD k Aq) d).2 (ws.set k (E8 k (d.room+1) (ws.getD k Aq) d).1) (k+1) n
def Eg(told:List AV)(room:Nat):Nat→Nat
 |0=>0
 |1=>1
 |n+2=>if room<(Ai (EN (told.take (n+2)))).length then Eg told room (n+1)else n+2
structure BR where
 c:AG
 told:List AV
 out:List (List UInt8)
def AG.DY(c:AG)(told:List AV):BT:=
 ⟨if told=[]then []else [EN (told.take (Eg told (c.AI-16) told.length))],c.AI-16⟩
def BR.Io(z:BR):List AV:=z.told.drop (Eg z.told (z.c.AI-16) z.told.length)
def BR.filled(z:BR):List AX×BT:=if z.c.BG.length<10 then EV (z.c.DY z.told) z.c.ws 0 4 else(z.c.ws,z.c.DY z.told)
def Dy(fs:List AT):Bool:=fs.any (fun f=>decide (f.kind≠3))
def BR.step(z:BR):BR:=
 ⟨{z.c with ws:=z.filled.1,next:=z.c.next+1,BG:=if Dy z.filled.2.As then z.c.BG++[⟨z.c.next,z.c.now,z.filled.2.As⟩]else z.c.BG},z.Io,z.out++[Bv z.c.ks (Ag z.c.first) (UInt64.ofNat z.c.next) z.filled.2.b]⟩
def DT:Nat→BR→BR
 |0,z=>z
 |n+1,z=>if z.filled.2.As=[]then {z with c:={z.c with ws:=z.filled.1}}else DT n z.step
def AG.Gm(c:AG):List (List UInt8)×AG:=
 if c.said then([],c)
 else([Bv c.ks (Ag c.first) (UInt64.ofNat c.next) (Ai (Do c.code))],{c with said:=true,next:=c.next+1})
def AG.A6(c:AG):List (List UInt8)×AG:=
 if c.closed≠0 then c.Gm
 else
  let z:=DT 40 ⟨{c with answer:=false},if c.answer then c.AR.l.reverse else [],[]⟩
  (z.out,z.c)
structure IB where
 data:List UInt8
 AE:BE
 finished:Bool
 given:Bool
 code:Nat
 end_:Nat
 high:Nat
structure G9 where
 data:List UInt8
 there:List Bool
 high:Nat
 end_:Nat
 ended:Bool
 given:Bool
 code:Nat
 read:Nat
 state:Nat
structure Wq where
 number:Nat
 As:List AT
structure BD where
 AI:Nat
 AF:Nat
 ks:List UInt8
 first:Bool
 closed:Nat
 code:Nat
 said:Bool
 next:Nat
 AR:BE
 NY:BE
 due:List Nat
 outs:List IB
 ins:List G9
 Ae:List Wq
def OU:IB:=⟨[],.of 1073741824,false,false,0,0,0⟩
def WM:G9:=⟨[],[],0,0,false,false,0,0,0⟩
def BD.new(AI AF:Nat)(ks:List UInt8)(first:Bool):BD:=
 ⟨AI,AF,ks,first,0,0,false,0,.of 8,.of 1073741824,[],A! 4 OU,A! 4 WM,[]⟩
def BD.o(s:BD)(k:Nat):IB:=s.outs.getD k OU
def BD.i(s:BD)(k:Nat):G9:=s.ins.getD k WM
def BD.PX(s:BD)(k:Nat)(o:IB):BD:={s with outs:=s.outs.set k o}
def BD.Tu(s:BD)(k:Nat)(x:G9):BD:={s with ins:=s.ins.set k x}
def BD.of(s:BD)(k:Int):Nat:=if s.closed≠0 then 9 else if k<0∨4≤k then 2 else 0
def IB.A4(o:IB):Nat:=if o.AE.l=[]∨0<(rg o.AE.l 0).lo then 0 else(rg o.AE.l 0).hi+1
def BD.GT(s:BD)(k:Nat)(len:Nat):Nat:=
 min (min (s.AF-((s.o k).data.length-(s.o k).A4)) (4096-(s.o k).data.length)) len
def BD.write(s:BD)(k:Int)(xs:List UInt8):(Nat×Nat)×BD:=
 if s.of k≠0 then((0,s.of k),s)
 else if(s.o k.toNat).finished∨(s.o k.toNat).given then((0,3),s)
 else((s.GT k.toNat xs.length,0),s.PX k.toNat {s.o k.toNat with data:=(s.o k.toNat).data++xs.take (s.GT k.toNat xs.length)})
def BD.finish(s:BD)(k:Int):Nat×BD:=
 if s.of k≠0 then(s.of k,s)
 else if(s.o k.toNat).finished∨(s.o k.toNat).given then(3,s)
 else(0,s.PX k.toNat {s.o k.toNat with finished:=true})
def BD.giveUp(s:BD)(k:Int)(code:Nat):Nat×BD:=
 if s.of k≠0 then(s.of k,s)
 else if(s.o k.toNat).given∨4611686018427387903<code then(3,s)
 else(0,s.PX k.toNat {s.o k.toNat with given:=true,code:=code,end_:=(s.o k.toNat).high})
def BD.AE(s:BD)(k:Int):Nat×Nat:=if s.of k≠0 then(0,s.of k)else((s.o k.toNat).A4,0)
def BD.close(s:BD)(code:Nat):Nat×BD:=
 if s.closed≠0 then(9,s)else if 4611686018427387903<code then(3,s)else(0,{s with closed:=9,code:=code})
def gC(outs:List IB)(f:AT):List IB:=
 if f.kind=5∧0<f.data.size then
  outs.set f.stream.toNat {outs.getD f.stream.toNat OU with AE:=(outs.getD f.stream.toNat OU).AE.add f.offset (f.offset+f.data.size-1)}
 else outs
def gJ(l:List AV)(outs:List IB)(p:Wq):List IB:=if BI l p.number then p.As.foldl gC outs else outs
def BD.By(s:BD)(l:List AV):BD:={s with outs:=s.Ae.foldl (gJ l) s.outs}
def Qs(ds:List UInt8)(off:Nat)(data:List UInt8)(there:List Bool):List UInt8×List Bool:=
 match ds with
 |[]=>(data,there)
 |d::ds=>if there.getD off false then Qs ds (off+1) data there else Qs ds (off+1) (data.set off d) (there.set off true)
def G9.put(x:G9)(f:AT):List UInt8×List Bool:=
 Qs f.data.data.toList f.offset (x.data++A! (max x.high (f.offset+f.data.size)-x.data.length) 0) (x.there++A! (max x.high (f.offset+f.data.size)-x.data.length) false)
def G9.jE(x:G9)(f:AT):G9:=
 {x with high:=max x.high (f.offset+f.data.size),ended:=x.ended||f.fin,end_:=if f.fin then f.offset+f.data.size else x.end_,data:=(x.put f).1,there:=(x.put f).2}
def G9.bytes(x:G9)(f:AT):Nat×G9:=
 if LO x.ended x.end_ x.high f then(7,x)else if x.given then(0,x)else(0,x.jE f)
def BD.take(s:BD)(f:AT):Nat×BD:=
 if f.kind=3 then if s.next≤(rg f.ranges 0).hi then(8,s)else(0,s.By f.ranges)
 else if f.kind=4 then
  if(s.i f.stream.toNat).ended=true∧(s.i f.stream.toNat).end_≠f.offset∨f.offset<(s.i f.stream.toNat).high then(7,s)
  else(0,s.Tu f.stream.toNat {s.i f.stream.toNat with code:=if(s.i f.stream.toNat).given then(s.i f.stream.toNat).code else f.code,given:=true,ended:=true,end_:=f.offset})
 else if f.kind=5 then(((s.i f.stream.toNat).bytes f).1,s.Tu f.stream.toNat ((s.i f.stream.toNat).bytes f).2)
 else if f.kind=6 then(10,s)else(0,s)
def BD.shut(s:BD)(e:Nat):BD:={s with closed:=e,code:=e,said:=decide (e=10)}
def yI(number:Nat)(due:List Nat)(f:AT):List Nat:=
 if f.kind≠3∧f.kind≠1∧(due=[]∨due.getD (due.length-1) 0≠number)then due++[number]else due
def BD.Bc(s:BD)(number:Nat):List AT→Nat×BD
 |[]=>(0,s)
 |f::fs=>if(s.take f).1≠0 then((s.take f).1,(s.take f).2.shut (s.take f).1)
  else({(s.take f).2 with due:=yI number (s.take f).2.due f}:BD).Bc number fs
def BD.busy(s:BD)(f:AT):Prop:=f.kind=5∧(s.i f.stream.toNat).state≠2∧(s.i f.stream.toNat).given=false∧(s.i f.stream.toNat).read+s.AF<f.offset+f.data.size
instance(s:BD)(f:AT):Decidable (s.busy f):=by unfold BD.busy;infer_instance
def BD.A9(s:BD)(p:List UInt8):(Nat×Int)×BD:=
 if s.closed≠0 then((9,-1),s)
 else match Bx s.ks (Ag (!s.first)) p with
  |none=>((4,-1),s)
  |some (number,b)=>
   if s.AR.has number.toNat then((0,-1),s)
   else match FI b with
    | .error at_=>((5,at_),{s with closed:=5,code:=5})
    | .ok fs=>
     if ∃f∈fs,s.busy f then((6,-1),s)
     else((((({s with AR:=s.AR.add number.toNat number.toNat,NY:=s.NY.add number.toNat number.toNat}:BD).Bc number.toNat fs).1,-1)),
      (({s with AR:=s.AR.add number.toNat number.toNat,NY:=s.NY.add number.toNat number.toNat}:BD).Bc number.toNat fs).2)
def cQ(there:List Bool)(high:Nat):Nat→Nat→Nat
 |0,_=>0
 |n+1,read=>if read<high∧there.getD read false=true then cQ there high n (read+1)+1 else 0
def BD.read(s:BD)(k:Int)(AL:Int):(List UInt8×Nat×Nat×Nat)×BD:=
 if s.of k≠0 then(([],0,0,s.of k),s)
 else
  let x:=s.i k.toNat
  let x1:=if x.given=true∧x.state=0 then {x with state:=2}else x
  let n:=if x1.state=0 then cQ x1.there x1.high AL.toNat x1.read else 0
  let x2:={x1 with read:=x1.read+n}
  let x3:=if x2.ended=true∧x2.read=x2.end_∧x2.state=0 then {x2 with state:=1}else x2
  (((x1.data.drop x1.read).take n,x3.state,(if x3.state=2 then x3.code else 0),0),s.Tu k.toNat x3)
def BD.opened(s:BD)(b:List UInt8):Option (List AT)×BD:=
 match Bx s.ks (Ag s.first) b with
 |none=>(none,s)
 |some (number,p)=>
  if s.AI<b.length∨number.toNat≠s.next then(none,s)
  else match FI p with
   | .error _=>(none,{s with next:=s.next+1})
   | .ok l=>(if Gt l=some p then some l else none,{s with next:=s.next+1})
def BD.Gm(s:BD)(l:List (List UInt8)):Bool×BD:=
 if s.said then(decide (l.length=0),s)
 else if l.length≠1 then(false,{s with said:=true})
 else match(({s with said:=true}:BD).opened (l.getD 0 []))with
  |(none,s2)=>(false,s2)
  |(some fs,s2)=>(decide (fs.length=1∧(fs.getD 0 (Do 0)).kind=6∧(fs.getD 0 (Do 0)).code=s2.code),s2)
def BD.Rn(s:BD)(f:AT):Bool×BD:=
 if ∀r∈f.ranges,∃e∈s.NY.l,e.lo≤r.lo∧r.hi≤e.hi then
  (true,{s with due:=s.due.filter (fun n=> !(decide (n<s.AR.floor)||BI f.ranges n))})
 else(false,s)
def BD.sends(s:BD)(f:AT):Bool×BD:=
 let o:=s.o f.stream.toNat
 let e:=f.offset+f.data.size
 if o.given=true∨o.data.length<e∨(o.data.take e).drop f.offset≠f.data.data.toList then(false,s)
 else if(f.fin≠(o.finished&&decide (e=o.data.length)))∨(f.data.size=0∧f.fin=false)then(false,s)
 else(true,s.PX f.stream.toNat {o with high:=max o.high e})
def BD.may(s:BD)(f:AT):Bool×BD:=
 if f.kind=3 then s.Rn f
 else if f.kind=4 then(decide ((s.o f.stream.toNat).given=true∧f.offset=(s.o f.stream.toNat).end_∧f.code=(s.o f.stream.toNat).code),s)
 else if f.kind=5 then s.sends f else(false,s)
def Ed:List AV→Prop
 |[]=>True
 |r::rs=>r.lo≤r.hi∧(∀s∈rs,r.hi+1<s.lo)∧Ed rs
theorem QU(n:Nat):¬BB n []:=by rintro⟨r,h,_⟩;cases h
theorem FE(n:Nat)(r:AV)(rs:List AV):BB n (r::rs)↔(r.lo≤n∧n≤r.hi)∨BB n rs:=by
 simp [BB,B_]
theorem LZ:∀(l:List AV) (lo hi n:Nat),lo≤hi→(BB n (Bw lo hi l)↔(lo≤n∧n≤hi)∨BB n l)
 |[],lo,hi,n,h=>by simp [Bw,BB]
 |r::rs,lo,hi,n,h=>by
  rw [Bw];split
  ·rw [FE,LZ rs lo hi n h,FE];constructor<;>rintro(h|h|h)<;>simp_all
  split
  ·rw [FE,FE]
  ·rw [LZ rs _ _ n Ca,FE];constructor
   ·rintro(h1|h1)
    ·by_cases h2:lo≤n∧n≤hi
     ·exact .inl h2
     ·refine .inr (.inl ?_);omega
    ·exact .inr (.inr h1)
   ·rintro(h1|h1|h1)
    ·left;omega
    ·left;omega
    ·exact .inr h1
theorem QL:∀(l:List AV) (lo hi m:Nat),m≤lo→(∀s∈l,m≤s.lo)→∀s∈Bw lo hi l,m≤s.lo
 |[],lo,hi,m,h,_=>by simp [Bw];exact h
 |r::rs,lo,hi,m,h,h2=>by
  have hr:=h2 r Cg;have h3:∀s∈rs,m≤s.lo:=fun s hs=>h2 s La;rw [Bw];split
  ·intro s hs;rcases B_.1 hs with rfl|hs
   ·exact hr
   ·exact QL rs lo hi m h h3 s hs
  split
  ·intro s hs;rcases B_.1 hs with rfl|hs
   ·exact h
   ·exact h2 s hs
  ·exact QL rs _ _ m Ca h3
theorem KG:∀(l:List AV) (lo hi m:Nat),hi≤m→(∀s∈l,s.hi≤m)→∀s∈Bw lo hi l,s.hi≤m
 |[],lo,hi,m,h,_=>by simp [Bw];exact h
 |r::rs,lo,hi,m,h,h2=>by
  have hr:=h2 r Cg;have h3:∀s∈rs,s.hi≤m:=fun s hs=>h2 s La;rw [Bw];split
  ·intro s hs;rcases B_.1 hs with rfl|hs
   ·exact hr
   ·exact KG rs lo hi m h h3 s hs
  split
  ·intro s hs;rcases B_.1 hs with rfl|hs
   ·exact h
   ·exact h2 s hs
  ·exact KG rs _ _ m Ca h3
theorem LI:∀(l:List AV) (lo hi:Nat),lo≤hi→Ed l→Ed (Bw lo hi l)
 |[],lo,hi,h,_=>by simp [Bw,Ed];exact h
 |r::rs,lo,hi,h,⟨h1,h2,h3⟩=>by
  rw [Bw];split
  ·refine⟨h1,?_,LI rs lo hi h h3⟩;intro s hs
   have:=QL rs lo hi (r.hi+2) Ca (fun s hs=>by have:=h2 s hs;omega) s hs
   omega
  split
  ·refine⟨h,?_,h1,h2,h3⟩;intro s hs;rcases B_.1 hs with rfl|hs
   ·omega
   ·have:=h2 s hs;simp only [];omega
  ·exact LI rs _ _ Ca h3
theorem PB:∀(l:List AV) (lo hi:Nat),(Bw lo hi l).length≤l.length+1
 |[],lo,hi=>by simp [Bw]
 |r::rs,lo,hi=>by
  rw [Bw];split
  ·have:=PB rs lo hi;simp;omega
  split
  ·simp
  ·have:=PB rs (min lo r.lo) (max hi r.hi);simp;omega
theorem NL(l:List AV)(lo hi:Nat):Bw lo hi l≠ []:=by
 cases l with
 |nil=>simp [Bw]
 |cons r rs=>
  rw [Bw];split
  ·simp
  split
  ·simp
  ·exact NL rs _ _
theorem Tc:∀(l:List AV) (a m:Nat),Ed l→(∀s∈l,a≤s.lo)→(∀s∈l,s.hi<m)→a+2*l.length≤m+1∨l=[]
 |[],a,m,_,_,_=>.inr rfl
 |r::rs,a,m,⟨h1,h2,h3⟩,ha,hm=>by
  left;have h4:=ha r Cg;have h5:=hm r Cg;rcases Tc rs (r.hi+2) m h3 (fun s hs=>by have:=h2 s hs;omega) (fun s hs=>hm s La)with h6|rfl
  ·simp;omega
  ·simp;omega
structure C5(s:BE)(m:Nat):Prop where
 inc:Ed s.l
 lo:∀r∈s.l,s.floor≤r.lo
 hi:∀r∈s.l,r.hi<m
 len:s.l.length≤s.AL
 fl:s.floor≤m
theorem C5.of{AL m:Nat}:C5 (.of AL) m:=⟨trivial,(fun _ h=>nomatch h),(fun _ h=>nomatch h),C! _,C! _⟩
theorem lK{r:AV}{l:List AV}(h:Ed (r::l)):Ed l:=h.2.2
theorem C5.add{s:BE}{m:Nat}(h:C5 s m)(lo hi:Nat)(hm:hi<m)(h0:1≤s.AL):C5 (s.add lo hi) m∧(s.add lo hi).AL=s.AL:=by
 unfold BE.add;split
 ·exact⟨h,rfl⟩
 ·rename_i hc;have hi1:=LI s.l _ hi (by omega:max lo s.floor≤hi) h.inc;have hlo:=QL s.l (max lo s.floor) hi s.floor Ca h.lo;have hhi:=KG s.l (max lo s.floor) hi (m-1) Ca (fun r hr=>by have:=h.hi r hr;omega);have hlen:=PB s.l (max lo s.floor) hi;split
  ·refine⟨?_,rfl⟩
   cases e:Bw (max lo s.floor) hi s.l with
   |nil=>exact absurd e (NL _ _ _)
   |cons r rs=>
    rw [e]at hi1 hlo hhi hlen;refine⟨lK hi1,fun t ht=>?_,fun t ht=>?_,?_,?_⟩
    ·have:=hi1.2.1 t ht;simp only [J?]at*;omega
    ·have:=hhi t (by simp;exact .inr ht);omega
    ·simp only [List.tail_cons];have:=h.len;simp at hlen;omega
    ·have:=hhi r Cg;simp only [J?];omega
  ·refine⟨⟨hi1,hlo,fun t ht=>?_,by show(Bw (max lo s.floor) hi s.l).length≤s.AL;omega,h.fl⟩,rfl⟩
   have:=hhi t ht;omega
theorem BE.pP{s:BE}{lo hi n:Nat}(h:BB n (s.add lo hi).l):BB n s.l∨(lo≤n∧n≤hi):=by
 unfold BE.add at h;split at h
 ·exact .inl h
 ·rename_i hc;have hin:=LZ s.l (max lo s.floor) hi n Ca
  have hk:BB n (Bw (max lo s.floor) hi s.l):=by
   split at h
   ·cases e:Bw (max lo s.floor) hi s.l with
    |nil=>exact absurd e (NL _ _ _)
    |cons r rs=>rw [e]at h;rw [FE];exact .inr h
   ·exact h
  rcases hin.1 hk with h1|h1
  ·exact .inr Ca
  ·exact .inl h1
theorem BE.YZ{s:BE}{lo hi:Nat}(hf:s.floor=0)(hl:lo≤hi)(hlen:(Bw lo hi s.l).length≤s.AL):s.add lo hi=⟨Bw lo hi s.l,0,s.AL⟩:=by
 unfold BE.add;rw [hf,Nat.max_zero,if_neg Ca,if_neg Ca]
theorem H9:∀(l:List AV) (lo hi:Nat),Ed l→lo≤hi→
  lo≤(AQ lo hi l).1∧(∀n,lo≤n→n<(AQ lo hi l).1→BB n l)∧(AQ lo hi l).2≤hi∧
  ((AQ lo hi l).1<(AQ lo hi l).2→∀n,(AQ lo hi l).1≤n→n<(AQ lo hi l).2→¬BB n l)∧((AQ lo hi l).2≤(AQ lo hi l).1→hi≤(AQ lo hi l).1):=by
 intro l
 induction l with
 |nil=>intro lo hi _ h;simp only [AQ];exact⟨Ca,fun n _ _=>by omega,Ca,fun _ n _ _=>QU n,fun _=>by omega⟩
 |cons r rs ih=>
  intro lo hi ⟨h1,h2,h3⟩ h;rw [AQ];split
  ·rename_i hc;obtain⟨a,b,c,d,e⟩:=ih lo hi h3 h;refine⟨a,fun n h4 h5=>(FE n r rs).2 (.inr (b n h4 h5)),c,fun h4 n h5 h6 h7=>?_,e⟩;rcases(FE n r rs).1 h7 with h8|h8
   ·omega
   ·exact d h4 n h5 h6 h8
  split
  ·rename_i hc hd;refine⟨Cg,fun n h4 h5=>by simp at h5;omega,Ck,fun h4 n h5 h6 h7=>?_,fun h4=>by simp at h4⊢;omega⟩;simp at h5 h6;rcases(FE n r rs).1 h7 with h8|⟨s,hs,h8⟩
   ·omega
   ·have:=h2 s hs;omega
  ·rename_i hc hd;by_cases hh:r.hi+1≤hi
   ·obtain⟨a,b,c,d,e⟩:=ih (r.hi+1) hi h3 hh;refine⟨Ca,fun n h4 h5=>?_,c,fun h4 n h5 h6 h7=>?_,e⟩
    ·by_cases h6:n≤r.hi
     ·exact(FE n r rs).2 (.inl Ca)
     ·exact Vs
    ·rcases(FE n r rs).1 h7 with h8|h8
     ·omega
     ·exact d h4 n h5 h6 h8
   ·have hbig:∀(l:List AV) (lo hi:Nat),hi≤lo→Ed l→lo≤(AQ lo hi l).1∧(∀n,lo≤n→n<(AQ lo hi l).1→BB n l)∧(AQ lo hi l).2≤hi:=by
     intro l
     induction l with
     |nil=>intro lo hi h _;simp only [AQ];exact⟨Ca,fun n _ _=>by omega,Ca⟩
     |cons t ts ih2=>
      intro lo hi h ⟨g1,g2,g3⟩;rw [AQ];split
      ·obtain⟨a,b,c⟩:=ih2 lo hi h g3;exact⟨a,fun n h4 h5=>(FE n t ts).2 (.inr (b n h4 h5)),c⟩
      split
      ·exact⟨Cg,fun n h4 h5=>by simp at h5;omega,Ck⟩
      ·obtain⟨a,b,c⟩:=ih2 (t.hi+1) hi Ca g3;refine⟨Ca,fun n h4 h5=>?_,c⟩;by_cases h6:n≤t.hi
       ·exact(FE n t ts).2 (.inl Ca)
       ·exact(FE n t ts).2 (.inr (b n Ca h5))
    obtain⟨a,b,c⟩:=hbig rs (r.hi+1) hi Ca h3;refine⟨Ca,fun n h4 h5=>?_,c,fun h4=>by omega,fun _=>by omega⟩;by_cases h6:n≤r.hi
    ·exact(FE n r rs).2 (.inl Ca)
    ·exact Vs
theorem M8{l:List AV}{lo hi:Nat}(hI:Ed l)(h:lo≤hi)(hb:∀r∈l,r.hi<hi):(AQ lo hi l).1≤hi∧¬BB (AQ lo hi l).1 l:=by
 obtain⟨a,b,c,d,e⟩:=H9 l lo hi hI h
 have hle:(AQ lo hi l).1≤hi:=by
  rcases D_ hi (AQ lo hi l).1 with h1|h1
  ·obtain⟨r,hr,h2⟩:=b hi h h1
   have:=hb r hr;omega
  ·exact h1
 refine⟨hle,fun hin=>?_⟩;rcases D_ (AQ lo hi l).1 (AQ lo hi l).2 with h1|h1
 ·exact d h1 _ C8 h1 hin
 ·have:=e h1
  obtain⟨r,hr,h2⟩:=hin
  have:=hb r hr;omega
theorem DN{α:Type}(l:List α)(i k:Nat)(x d:α):(l.set i x).getD k d=if i=k∧i<l.length then x else l.getD k d:=by
 simp only [B!,List.getElem?_set];by_cases h:i=k
 ·subst h;by_cases h2:i<l.length
  ·simp [h2]
  ·simp [h2]
 ·simp [h]
theorem C5.mono{s:BE}{m m':Nat}(h:C5 s m)(hm:m≤m'):C5 s m':=
 ⟨h.inc,h.lo,fun r hr=>by have:=h.hi r hr;omega,h.len,by have:=h.fl;omega⟩
structure CW(AF:Nat)(w:AX):Prop where
 len:w.b.length≤4096
 so:C5 w.Ae w.b.length
 sf:w.Ae.floor=0
 sm:w.Ae.AL=4096
 co:C5 w.AE w.b.length
 cf:w.AE.floor=0
 cm:w.AE.AL=4096
 room:w.b.length≤w.A4+AF
 high:w.high≤w.b.length
 code:w.code≤4611686018427387903
theorem Je{s:BE}{m lo hi:Nat}(h:C5 s m)(hf:s.floor=0)(hm:s.AL=4096)(hm4:m≤4096)(hhi:hi<m):
  C5 (s.add lo hi) m∧(s.add lo hi).floor=0∧(s.add lo hi).AL=4096∧(lo≤hi→(s.add lo hi).l=Bw lo hi s.l)∧∀n,BB n (s.add lo hi).l↔(lo≤n∧n≤hi)∨BB n s.l:=by
 by_cases hl:lo≤hi
 ·have h1:=LI s.l lo hi hl h.inc;have h2:=KG s.l lo hi (m-1) Ca (fun r hr=>by have:=h.hi r hr;omega);have h3:=Tc _ 0 m h1 (fun _ _=>C! _) (fun r hr=>by have:=h2 r hr;omega)
  have h4:(Bw lo hi s.l).length≤s.AL:=by
   rcases h3 with h3|h3
   ·omega
   ·exact absurd h3 (NL _ _ _)
  have e:=BE.YZ hf hl h4;rw [e];exact⟨⟨h1,fun _ _=>C! _,fun r hr=>by have:=h2 r hr;omega,h4,C! _⟩,rfl,hm,fun _=>rfl,fun n=>LZ s.l lo hi n hl⟩
 ·have e:s.add lo hi=s:=by unfold BE.add;rw [if_pos Ca]
  rw [e];exact⟨h,hf,hm,fun h=>absurd h hl,fun n=>⟨.inr,fun h=>by rcases h with h|h;omega;exact h⟩⟩
theorem CW.Nw{AF:Nat}{w:AX}(h:CW AF w):w.A4≤w.b.length:=(M8 h.co.inc FL h.co.hi).1
theorem CW.bI{AF:Nat}{w:AX}(h:CW AF w){n:Nat}(hn:n<w.A4):BB n w.AE.l:=
 (H9 w.AE.l 0 w.b.length h.co.inc FL).2.1 n FL hn
theorem Pt{w w':AX}(hI:Ed w.AE.l)(hI':Ed w'.AE.l)(hb:∀r∈w'.AE.l,r.hi<w'.b.length)(h:∀n,BB n w.AE.l→BB n w'.AE.l):w.A4≤w'.A4:=by
 rcases D_ w'.A4 w.A4 with h1|h1
 ·exfalso;exact(M8 hI' FL hb).2 (h _ ((H9 w.AE.l 0 w.b.length hI FL).2.1 _ FL h1))
 ·exact h1
structure GS(w w':AX):Prop where
 b:w'.b=w.b
 high:w'.high=w.high
 finished:w'.finished=w.finished
 given:w'.given=w.given
 code:w'.code=w.code
theorem GS.refl(w:AX):GS w w:=IM
theorem GS.trans{a b c:AX}(h:GS a b)(g:GS b c):GS a c:=⟨g.b.trans h.b,g.high.trans h.high,g.finished.trans h.finished,g.given.trans h.given,g.code.trans h.code⟩
def EJ(ws:List AX)(f:AT):Prop:=0≤f.stream∧f.stream<4∧(f.kind=5→f.offset+f.data.size≤(ws.getD f.stream.toNat Aq).b.length)
structure Dc(AF:Nat)(ws:List AX):Prop where
 len:ws.length=4
 ok:∀k,k<4→CW AF (ws.getD k Aq)
theorem Pv{m lo hi:Nat}(hm4:m≤4096):∀(l:List AV) (s:BE),C5 s m→s.floor=0→s.AL=4096→(∀r∈l,r.hi<m)→
  C5 (l.foldl (Dd lo hi) s) m∧(l.foldl (Dd lo hi) s).floor=0∧(l.foldl (Dd lo hi) s).AL=4096
 |[],s,h,hf,hm,_=>⟨h,hf,hm⟩
 |r::l,s,h,hf,hm,hr=>by
  have h1:=hr r Cg;rw [C_]
  have h2:C5 (Dd lo hi s r) m∧(Dd lo hi s r).floor=0∧(Dd lo hi s r).AL=4096:=by
   unfold Dd;by_cases ha:r.lo<lo
   ·obtain⟨a,b,c,_⟩:=Je (lo:=r.lo) (hi:=min r.hi (lo-1)) h hf hm hm4 Ca;simp only [ha,if_true];split
    ·obtain⟨a',b',c',_⟩:=Je (lo:=max r.lo hi) (hi:=r.hi) a b c hm4 h1;exact⟨a',b',c'⟩
    ·exact⟨a,b,c⟩
   ·simp only [ha,if_false];split
    ·obtain⟨a',b',c',_⟩:=Je (lo:=max r.lo hi) (hi:=r.hi) h hf hm hm4 h1;exact⟨a',b',c'⟩
    ·exact⟨h,hf,hm⟩
  exact Pv hm4 l _ h2.1 h2.2.1 h2.2.2 (fun t ht=>hr t (by simp [ht]))
theorem Sq{m:Nat}(hm4:m≤4096):∀(l:List AV) (s:BE),C5 s m→s.floor=0→s.AL=4096→(∀r∈l,r.hi<m)→
  C5 (l.foldl (fun s r=>s.add r.lo r.hi) s) m∧(l.foldl (fun s r=>s.add r.lo r.hi) s).floor=0∧(l.foldl (fun s r=>s.add r.lo r.hi) s).AL=4096
 |[],s,h,hf,hm,_=>⟨h,hf,hm⟩
 |r::l,s,h,hf,hm,hr=>by
  rw [C_];obtain⟨a,b,c,_⟩:=Je (lo:=r.lo) (hi:=r.hi) h hf hm hm4 (hr r Cg);exact Sq hm4 l _ a b c (fun t ht=>hr t (by simp [ht]))
theorem CW.again{AF:Nat}{w:AX}(h:CW AF w)(f:AT):CW AF (w.again f)∧GS w (w.again f)∧(w.again f).AE=w.AE:=by
 unfold AX.again;split
 ·obtain⟨a,b,c⟩:=Pv (lo:=f.offset) (hi:=f.offset+f.data.size) h.len w.Ae.l.reverse (.of 4096) .of rfl rfl (fun r hr=>h.so.hi r TS);obtain⟨a',b',c'⟩:=Sq h.len w.AE.l.reverse _ a b c (fun r hr=>h.co.hi r TS);exact⟨⟨h.len,a',b',c',h.co,h.cf,h.cm,h.room,h.high,h.code⟩,IM,rfl⟩
 split
 ·exact⟨⟨h.len,h.so,h.sf,h.sm,h.co,h.cf,h.cm,h.room,h.high,h.code⟩,IM,rfl⟩
 ·exact⟨h,.refl _,rfl⟩
theorem Dc.set{AF:Nat}{ws:List AX}(h:Dc AF ws){k:Nat}{w:AX}(hw:CW AF w):Dc AF (ws.set k w):=by
 refine⟨by rw [List.length_set];exact h.len,fun j hj=>?_⟩;rw [DN];split
 ·exact hw
 ·exact h.ok j hj
structure FX(ws ws':List AX):Prop where
 same:∀k,GS (ws.getD k Aq) (ws'.getD k Aq)
theorem FX.refl(ws:List AX):FX ws ws:=⟨fun _=>.refl _⟩
theorem FX.trans{a b c:List AX}(h:FX a b)(g:FX b c):FX a c:=⟨fun k=>(h.same k).trans (g.same k)⟩
theorem FX.set{ws:List AX}{k:Nat}{w:AX}(h:GS (ws.getD k Aq) w):FX ws (ws.set k w):=⟨fun j=>by
 rw [DN];split
 ·rename_i e;rw [←e.1];exact h
 ·exact .refl _⟩
theorem EJ.same{ws ws':List AX}{f:AT}(h:EJ ws f)(g:FX ws ws'):EJ ws' f:=⟨h.1,h.2.1,fun hk=>by rw [(g.same _).b];exact h.2.2 hk⟩
theorem S0{AF:Nat}:∀(fs:List AT) (ws:List AX),Dc AF ws→(∀f∈fs,EJ ws f)→Dc AF (fs.foldl HD ws)∧FX ws (fs.foldl HD ws)∧∀k,((fs.foldl HD ws).getD k Aq).AE=(ws.getD k Aq).AE
 |[],ws,h,_=>⟨h,.refl _,fun _=>rfl⟩
 |f::fs,ws,h,hf=>by
  rw [C_];have hf1:=hf f Cg;have h1:=(h.ok f.stream.toNat (by have:=hf1.1;have:=hf1.2.1;omega)).again f;have h2:Dc AF (HD ws f):=h.set h1.1;have h3:FX ws (HD ws f):=.set h1.2.1;obtain⟨a,b,c⟩:=S0 fs (HD ws f) h2 (fun g hg=>(hf g Cv).same h3);refine⟨a,h3.trans b,fun k=>?_⟩;rw [c k];unfold HD;rw [DN];split
  ·rename_i e;rw [h1.2.2,e.1]
  ·rfl
theorem MN{AF:Nat}:∀(ps:List Da) (ws:List AX),Dc AF ws→(∀p∈ps,∀f∈p.As,EJ ws f)→Dc AF (ps.foldl Lz ws)∧FX ws (ps.foldl Lz ws)∧∀k,((ps.foldl Lz ws).getD k Aq).AE=(ws.getD k Aq).AE
 |[],ws,h,_=>⟨h,.refl _,fun _=>rfl⟩
 |p::ps,ws,h,hf=>by
  rw [C_];obtain⟨a,b,c⟩:=S0 p.As ws h (hf p Cg);obtain⟨a',b',c'⟩:=MN ps (Lz ws p) a (fun q hq f hfq=>(hf q (by simp [hq]) f hfq).same b);exact⟨a',b.trans b',fun k=>(c' k).trans (c k)⟩
def Kw(fs:List AT)(k n:Nat):Prop:=∃f∈fs,f.kind=5∧0<f.data.size∧f.stream.toNat=k∧f.offset≤n∧n<f.offset+f.data.size
theorem kS(k n:Nat):¬Kw [] k n:=by rintro⟨f,h,_⟩;cases h
theorem fZ(f:AT)(fs:List AT)(k n:Nat):Kw (f::fs) k n↔(f.kind=5∧0<f.data.size∧f.stream.toNat=k∧f.offset≤n∧n<f.offset+f.data.size)∨Kw fs k n:=by
 simp [Kw,B_]
theorem CW.named{AF:Nat}{w:AX}(h:CW AF w)(inn:Bool)(f:AT)(hf:f.kind=5→f.offset+f.data.size≤w.b.length):
  CW AF (w.named inn f)∧GS w (w.named inn f)∧∀n,BB n (w.named inn f).AE.l↔BB n w.AE.l∨(inn=true∧f.kind=5∧0<f.data.size∧f.offset≤n∧n<f.offset+f.data.size):=by
 unfold AX.named;by_cases hc:inn=true∧f.kind=5∧f.data.size≠0
 ·simp only [hc,ne_eq,not_false_eq_true,and_self,if_true];have hb:=hf hc.2.1
  have hpos:0<f.data.size:=by omega
  obtain⟨a,b,c,_,e⟩:=Je (lo:=f.offset) (hi:=f.offset+f.data.size-1) h.co h.cf h.cm h.len Ca;obtain⟨a',b',c',_⟩:=Je (lo:=f.offset) (hi:=f.offset+f.data.size-1) h.so h.sf h.sm h.len Ca;refine⟨⟨h.len,a',b',c',a,b,c,?_,h.high,h.code⟩,IM,fun n=>?_⟩
  ·refine K_ h.room (Nat.add_le_add_right (Pt h.co.inc a.inc a.hi fun n hn=>?_) _);exact(e n).2 (.inr hn)
  ·rw [e n];constructor
   ·rintro(g|g)
    ·exact .inr ⟨trivial,trivial,hpos,g.1,Ca⟩
    ·exact .inl g
   ·rintro(g|g)
    ·exact .inr g
    ·exact .inl ⟨g.2.2.2.1,Ca⟩
 ·rw [if_neg hc];refine⟨⟨h.len,h.so,h.sf,h.sm,h.co,h.cf,h.cm,h.room,h.high,h.code⟩,IM,fun n=>⟨.inl,?_⟩⟩;rintro(g|⟨g1,g2,g3,g4,g5⟩)
  ·exact g
  ·exact absurd ⟨g1,g2,Ca⟩ hc
theorem Si{AF:Nat}{inn:Bool}:∀(fs:List AT) (ws:List AX),Dc AF ws→(∀f∈fs,EJ ws f)→
  Dc AF (fs.foldl (Gy inn) ws)∧FX ws (fs.foldl (Gy inn) ws)∧∀k n,BB n ((fs.foldl (Gy inn) ws).getD k Aq).AE.l↔BB n (ws.getD k Aq).AE.l∨(inn=true∧Kw fs k n)
 |[],ws,h,_=>⟨h,.refl _,fun k n=>⟨.inl,fun h=>by rcases h with h|h;exact h;exact absurd h.2 (kS _ _)⟩⟩
 |f::fs,ws,h,hf=>by
  rw [C_];have hf1:=hf f Cg
  have hk4:f.stream.toNat<4:=by have:=hf1.1;have:=hf1.2.1;omega
  have h1:=(h.ok f.stream.toNat hk4).named inn f hf1.2.2;have h2:Dc AF (Gy inn ws f):=h.set h1.1;have h3:FX ws (Gy inn ws f):=.set h1.2.1;obtain⟨a,b,c⟩:=Si fs (Gy inn ws f) h2 (fun g hg=>(hf g Cv).same h3);refine⟨a,h3.trans b,fun k n=>?_⟩;rw [c k n,fZ]
  have h5:BB n ((Gy inn ws f).getD k Aq).AE.l↔BB n (ws.getD k Aq).AE.l∨(inn=true∧f.kind=5∧0<f.data.size∧f.stream.toNat=k∧f.offset≤n∧n<f.offset+f.data.size):=by
   unfold Gy;rw [DN];by_cases e:f.stream.toNat=k
   ·subst e;rw [if_pos ⟨rfl,by rw [h.len];exact hk4⟩,h1.2.2 n]
    simp
   ·rw [if_neg (fun h=>e h.1)];exact⟨.inl,fun h=>by rcases h with h|h;exact h;exact absurd h.2.2.2.1 e⟩
  rw [h5];constructor
  ·rintro((g|⟨g1,g2⟩)|⟨g1,g2⟩)
   ·exact .inl g
   ·exact .inr ⟨g1,.inl g2⟩
   ·exact .inr ⟨g1,.inr g2⟩
  ·rintro(g|⟨g1,g2|g2⟩)
   ·exact .inl (.inl g)
   ·exact .inl (.inr ⟨g1,g2⟩)
   ·exact .inr ⟨g1,g2⟩
theorem Mv{AF:Nat}{l:List AV}:∀(ps:List Da) (ws:List AX),Dc AF ws→(∀p∈ps,∀f∈p.As,EJ ws f)→
  Dc AF (ps.foldl (H8 l) ws)∧FX ws (ps.foldl (H8 l) ws)∧∀k n,BB n ((ps.foldl (H8 l) ws).getD k Aq).AE.l↔BB n (ws.getD k Aq).AE.l∨∃p∈ps,BI l p.number=true∧Kw p.As k n
 |[],ws,h,_=>⟨h,.refl _,fun k n=>⟨.inl,fun h=>by rcases h with h|⟨p,h,_⟩;exact h;cases h⟩⟩
 |p::ps,ws,h,hf=>by
  rw [C_];obtain⟨a,b,c⟩:=Si (inn:=BI l p.number) p.As ws h (hf p Cg);obtain⟨a',b',c'⟩:=Mv (l:=l) ps (H8 l ws p) a (fun q hq f hfq=>(hf q (by simp [hq]) f hfq).same b);refine⟨a',b.trans b',fun k n=>?_⟩;rw [c' k n,show BB n ((H8 l ws p).getD k Aq).AE.l↔_ from c k n];constructor
  ·rintro((g|g)|⟨q,hq,g⟩)
   ·exact .inl g
   ·exact .inr ⟨p,Cg,g⟩
   ·exact .inr ⟨q,by simp [hq],g⟩
  ·rintro(g|⟨q,hq,g⟩)
   ·exact .inl (.inl g)
   ·rcases B_.1 hq with rfl|hq
    ·exact .inl (.inr g)
    ·exact .inr ⟨q,hq,g⟩
theorem RA{l:List AV}{read high:Nat}(hI:Ed l)(hp:∀n,n<read→BB n l)(hh:∀r∈l,r.hi<high)(hw:high≤read+1024):l.length≤514:=by
 cases l with
 |nil=>simp
 |cons r rs=>
  obtain⟨h1,h2,h3⟩:=hI
  have h4:read≤r.hi+1:=by
   rcases D_ (r.hi+1) read with h|h
   ·rcases(FE (r.hi+1) r rs).1 (hp _ h)with h5|⟨s,hs,h5⟩
    ·omega
    ·have:=h2 s hs;omega
   ·exact h
  rcases Tc rs (r.hi+2) high h3 (fun s hs=>by have:=h2 s hs;omega) (fun s hs=>hh s La)with h5|rfl
  ·simp;omega
  ·simp
theorem V0{s:BE}{m lo hi:Nat}(h:C5 s m)(hf:s.floor=0)(hm:s.AL=4096)(hl:s.l.length≤600)(hlo:lo≤hi)(hhi:hi<m):
  C5 (s.add lo hi) m∧(s.add lo hi).floor=0∧(s.add lo hi).AL=4096∧∀n,BB n (s.add lo hi).l↔(lo≤n∧n≤hi)∨BB n s.l:=by
 have h1:=LI s.l lo hi hlo h.inc;have h2:=KG s.l lo hi (m-1) Ca (fun r hr=>by have:=h.hi r hr;omega);have h3:=PB s.l lo hi;have e:=BE.YZ hf hlo (by omega:(Bw lo hi s.l).length≤s.AL);rw [e];exact⟨⟨h1,fun _ _=>C! _,fun r hr=>by have:=h2 r hr;omega,by show(Bw lo hi s.l).length≤s.AL;omega,C! _⟩,rfl,hm,fun n=>LZ s.l lo hi n hlo⟩
theorem Ym{b ds:List UInt8}{o:Nat}(h:o+ds.length≤b.length):(GG b o ds).length=b.length:=by
 unfold GG;simp;omega
theorem iR{b ds:List UInt8}{o i:Nat}(h:o+ds.length≤b.length):(GG b o ds).getD i 0=if o≤i∧i<o+ds.length then ds.getD (i-o) 0 else b.getD i 0:=by
 unfold GG;simp only [B!]
 have hl:(b.take o).length=o:=by rw [I!];omega
 split
 ·rename_i hc;rw [F_,E! Ca,hl,E? Ca]
 ·rename_i hc;rcases D_ i o with h1|h1
  ·rw [F_,E? Ca,G_ h1]
  ·rw [E! Ck,I_];congr 2;simp;omega
theorem oQ{off e:Nat}{ds:List UInt8}{read high:Nat}(he:e=off+ds.length)(heh:e≤high)(hw:high≤read+1024):
  ∀(fuel lo:Nat) (b:List UInt8) (AE:BE),C5 AE high→AE.floor=0→AE.AL=4096→(∀n,n<read→BB n AE.l)→b.length=high-read→off≤lo→read≤lo→e-lo<fuel→
   C5 (Fj fuel off e ds read lo b AE).2 high∧(Fj fuel off e ds read lo b AE).2.floor=0∧(Fj fuel off e ds read lo b AE).2.AL=4096∧
   (Fj fuel off e ds read lo b AE).1.length=b.length∧(∀n,BB n (Fj fuel off e ds read lo b AE).2.l↔BB n AE.l∨(lo≤n∧n<e))∧
   (∀n,read≤n→n<high→(Fj fuel off e ds read lo b AE).1.getD (n-read) 0=if lo≤n∧n<e∧¬BB n AE.l then ds.getD (n-off) 0 else b.getD (n-read) 0):=by
 intro fuel
 induction fuel with
 |zero=>intro lo b AE _ _ _ _ _ _ _ h;omega
 |succ fuel ih=>
  intro lo b AE ho hf hm hp hb hol hrl hfu;rw [Fj];by_cases hlo:lo<e
  ·simp only [hlo,if_true];obtain⟨ga,gb,gc,gd,ge⟩:=H9 AE.l lo e ho.inc Ca;by_cases hg:e≤(AQ lo e AE.l).1
   ·simp only [hg,if_true];refine⟨ho,hf,hm,trivial,fun n=>⟨.inl,fun h=>?_⟩,fun n h1 h2=>?_⟩
    ·rcases h with h|h
     ·exact h
     ·exact gb n h.1 Ca
    ·rw [if_neg];rintro⟨h3,h4,h5⟩;exact h5 (gb n h3 Ca)
   ·simp only [hg,if_false]
    have hlt:(AQ lo e AE.l).1<(AQ lo e AE.l).2:=by
     rcases D_ (AQ lo e AE.l).1 (AQ lo e AE.l).2 with h|h
     ·exact h
     ·exact absurd (ge h) hg
    have hds:((ds.drop ((AQ lo e AE.l).1-off)).take ((AQ lo e AE.l).2-(AQ lo e AE.l).1)).length=(AQ lo e AE.l).2-(AQ lo e AE.l).1:=by
     rw [I!,D!];omega
    have hpl:(GG b ((AQ lo e AE.l).1-read) ((ds.drop ((AQ lo e AE.l).1-off)).take ((AQ lo e AE.l).2-(AQ lo e AE.l).1))).length=b.length:=Ym (by rw [hds];omega);have hcl:=RA ho.inc hp ho.hi hw;obtain⟨a1,a2,a3,a4⟩:=V0 (lo:=(AQ lo e AE.l).1) (hi:=(AQ lo e AE.l).2-1) ho hf hm Ca Ca Ca
    obtain⟨b1,b2,b3,b4,b5,b6⟩:=ih (AQ lo e AE.l).2 (GG b ((AQ lo e AE.l).1-read) ((ds.drop ((AQ lo e AE.l).1-off)).take ((AQ lo e AE.l).2-(AQ lo e AE.l).1))) (AE.add (AQ lo e AE.l).1 ((AQ lo e AE.l).2-1)) a1 a2 a3 (fun n hn=>(a4 n).2 (.inr (hp n hn))) (by rw [hpl];exact hb) Ca Ca Ca
    refine⟨b1,b2,b3,b4.trans hpl,fun n=>?_,fun n h1 h2=>?_⟩
    ·rw [b5 n,a4 n];constructor
     ·rintro((h|h)|h)
      ·exact .inr Ca
      ·exact .inl h
      ·exact .inr Ca
     ·rintro(h|h)
      ·exact .inl (.inr h)
      ·by_cases h3:n<(AQ lo e AE.l).1
       ·exact .inl (.inr (gb n h.1 h3))
       ·by_cases h4:n<(AQ lo e AE.l).2
        ·exact .inl (.inl Ca)
        ·exact .inr Ca
    ·rw [b6 n h1 h2,iR (by rw [hds];omega),hds];by_cases h3:n<(AQ lo e AE.l).1
     ·rw [if_neg Ca,if_neg Ca];rw [if_neg];rintro⟨h5,h6,h7⟩;exact h7 (gb n h5 h3)
     ·by_cases h4:n<(AQ lo e AE.l).2
      ·have h5:¬BB n AE.l:=gd hlt n Ca h4;rw [if_neg Ca,if_pos Ca,if_pos ⟨Ca,Ca,h5⟩];simp only [B!];rw [G_ Ca,I_];congr 2;omega
      ·have h6:BB n (AE.add (AQ lo e AE.l).1 ((AQ lo e AE.l).2-1)).l↔BB n AE.l:=by
        rw [a4 n];constructor
        ·rintro(h|h)
         ·omega
         ·exact h
        ·exact .inr
       by_cases h7:(AQ lo e AE.l).2≤n∧n<e∧¬BB n AE.l
       ·rw [if_pos ⟨h7.1,h7.2.1,fun h=>h7.2.2 (h6.1 h)⟩,if_pos ⟨Ca,h7.2.1,h7.2.2⟩]
       ·rw [if_neg (fun h=>h7 ⟨h.1,h.2.1,fun g=>h.2.2 (h6.2 g)⟩),if_neg Ca,if_neg];rintro⟨h8,h9,h10⟩;exact h7 ⟨Ca,h9,h10⟩
  ·simp only [hlo,if_false];refine⟨ho,hf,hm,trivial,fun n=>⟨.inl,fun h=>?_⟩,fun n h1 h2=>?_⟩
   ·rcases h with h|h
    ·exact h
    ·omega
   ·rw [if_neg Ca]
structure FG(AF t:Nat)(r:Bb):Prop where
 co:C5 r.AE r.high
 cf:r.AE.floor=0
 cm:r.AE.AL=4096
 rh:r.read≤r.high
 hw:r.high≤r.read+AF
 pre:∀n,n<r.read→BB n r.AE.l
 len:r.given=false→r.b.length=r.high-r.read
 rt:r.read≤1024*t
 en:r.end_≤4611686018427387903
 code:r.code≤4611686018427387903
 st:r.state≤2
 OS:r.state=2→r.given=true
theorem FG.mono{AF t t':Nat}{r:Bb}(h:FG AF t r)(ht:t≤t'):FG AF t' r:=
 ⟨h.co,h.cf,h.cm,h.rh,h.hw,h.pre,h.len,by have:=h.rt;omega,h.en,h.code,h.st,h.OS⟩
def Ir(f:AT):Prop:=0≤f.stream∧f.stream<4∧f.code≤4611686018427387903∧f.offset≤4611686018427387903∧(f.kind=5→f.offset+f.data.size≤4611686018427387903)∧(f.kind=3→GH f.ranges)
theorem Ir.of{f:AT}(h:B0 f):Ir f:=⟨h.2.2.1,h.2.2.2.1,h.2.1,h.1,fun hk=>by have:=h.2.2.2.2.1.2 hk;omega,h.2.2.2.2.1.1⟩
structure Ft(r r':Bb):Prop where
 read:r'.read=r.read
 state:r'.state=r.state
 given:r.given=true→r'.given=true
theorem Sz(f:AT):f.data.data.toList.length=f.data.size:=rfl
theorem Bb.UG{AF t:Nat}(r:Bb)(h:FG AF t r)(hwi:AF≤1024)(f:AT)(hg:r.given=false)(hb:f.offset+f.data.size≤r.read+AF):
  C5 (r.filled f).2 (max r.high (f.offset+f.data.size))∧(r.filled f).2.floor=0∧(r.filled f).2.AL=4096∧(r.filled f).1.length=max r.high (f.offset+f.data.size)-r.read∧
  (∀n,BB n (r.filled f).2.l↔BB n r.AE.l∨(max f.offset r.read≤n∧n<f.offset+f.data.size))∧
  (∀n,r.read≤n→n<max r.high (f.offset+f.data.size)→(r.filled f).1.getD (n-r.read) 0=if max f.offset r.read≤n∧n<f.offset+f.data.size∧¬BB n r.AE.l then f.data.data.toList.getD (n-f.offset) 0
   else(r.b++A! (max r.high (f.offset+f.data.size)-(r.read+r.b.length)) 0).getD (n-r.read) 0):=by
 have hl:=h.len hg;have hh:=h.hw;have hrh:=h.rh
 have hb0:(r.b++A! (max r.high (f.offset+f.data.size)-(r.read+r.b.length)) 0).length=max r.high (f.offset+f.data.size)-r.read:=by rw [B?,H_];omega
 obtain⟨a1,a2,a3,a4,a5,a6⟩:=oQ (off:=f.offset) (e:=f.offset+f.data.size) (ds:=f.data.data.toList) (read:=r.read) (high:=max r.high (f.offset+f.data.size)) (by rw [Sz]) (I? _ _) Ca (f.offset+f.data.size+1) (max f.offset r.read) _ r.AE (h.co.mono OT) h.cf h.cm h.pre hb0 OT (I? _ _) Ca
 exact⟨a1,a2,a3,a4.trans hb0,a5,a6⟩
theorem FG.data{AF t:Nat}{r:Bb}(h:FG AF t r)(hwi:AF≤1024)(f:AT)(hf:Ir f)(hk:f.kind=5)(hb:r.given=false→f.offset+f.data.size≤r.read+AF):
  FG AF t (r.data f).2∧Ft r (r.data f).2:=by
 unfold Bb.data;split
 ·exact⟨h,rfl,rfl,id⟩
 split
 ·exact⟨h,rfl,rfl,id⟩
 ·rename_i hc hg
  have hg':r.given=false:=by simpa using hg
  have hb:=hb hg';have hl:=h.len hg';have hh:=h.hw;have hrh:=h.rh;have hco:C5 r.AE (max r.high (f.offset+f.data.size)):=h.co.mono Ca;obtain⟨a1,a2,a3,a4,a5,a6⟩:=r.UG h hwi f hg' hb;refine⟨⟨a1,a2,a3,K_ hrh OT,by show max r.high _≤r.read+AF;omega,fun n hn=>(a5 n).2 (.inl (h.pre n hn)),fun _=>a4,h.rt,?_,h.code,h.st,h.OS⟩,rfl,rfl,id⟩;show(if f.fin then f.offset+f.data.size else r.end_)≤_;split
  ·exact hf.2.2.2.2.1 hk
  ·exact h.en
end Go.Proofs.YtgfdlpcdjklcoaaGreatDoor
