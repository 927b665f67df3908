/- Steps of this proof; no condition. -/
import Derived.Test.YtgfdlpcdjklcoaaGreatDoorW
import Derived.Test.YtgfdlpcdjklcoaaGreatDoorCards
import Derived.Test.YtgfdlpcdjklcoaaGreatDoorTie
import Derived.ProofKit
import Derived.OpenShut
import Derived.Carry
import Derived.ChangeArms
import Derived.LaidLaws
import Derived.LaidHandle
import Derived.Deep.DeepHandedRow
import Derived.JoinedCond
import Derived.Leaving
import Derived.Deep.Slices
namespace Go.Proofs.YtgfdlpcdjklcoaaGreatDoor
open Go Go.RowKit Go.Proofs.Tryz HP AB
open _root_.List renaming length→aa
set_option linter.all false
variable{xs:List UInt8}{α:Type}{n a a':Nat}{W B:World}{p:Option Addr}{gf:FuncId}{lb:List Value}{g:Operand}{assign body:Code}
open _root_.UInt8 renaming ofNat→ad
open _root_.List renaming replicate→a9,range→hO,cons→hB
open _root_.Option renaming some→cx
open _root_.Prod renaming mk→c6
open _root_.Go.Value renaming okWide→eo
set_option maxRecDepth 20000
section
open Go Go.ChangeShapes Go.WideShapes Go.ChangeAt Go.RowKit
def own:ownKnob prog.godebug=none:=by kernel_rfl
def n7:laidOutB prog=true:=by kernel_rfl
def jet :prog.globalNamed "errors.errorType" =some 0 :=by kernel_rfl
def jrt :(prog.cutTypes.find? (·.1 == "internal/reflectlite.rtype")).map (·.2) =some 282 :=by kernel_rfl
def y5:((hO prog.types.size).filter λt=>prog.rowNamed t [101,114,114,111,114])=[106]:=by kernel_rfl
def Aby(h :laidMetH prog [("errors.errorType",Rows.laid_errors_errorType)] W):W.cell? ⟨0,0,none⟩ =some (.iface 282 (.agg #[.pointer (some ⟨1,106,none⟩)])) :=by
 have f :laidMet prog [] W ∧ handlesMet prog [("errors.errorType",Rows.laid_errors_errorType)] W :=h;obtain⟨e,u,ty,C,M,R,X,V⟩:=f.2 _ (g5.2 I);have b:e=[101,114,114,111,114]:=(cx.inj C).symm;subst b;obtain rfl:=cx.inj (jrt.symm.trans M);have c:ty∈(hO prog.types.size).filter λt=>prog.rowNamed t [101,114,114,111,114]:=o4.2 ⟨Ak3.2 R,X⟩;rw[y5]at c;obtain rfl:=g5.1 c
 have Y:typeHandle prog 106=.pointer (some ⟨1,106,none⟩):=C1;rw[Y]at V;simpa using World.var?_cell jet V 0
noncomputable def U6 (os:Os):World:=
 let w0:=World.holding prog os ⟨#[],#[],[]⟩
 {w0 with heap:=w0.heap.modify 0 fun
   | .cells _ t frozen=>.cells #[.iface 282 (.agg #[.pointer (some ⟨1,106,none⟩)])] t frozen
   |o=>o}
def jp(os args):laidMetH prog [("errors.errorType",Rows.laid_errors_errorType)] ((U6 os).forCall (λ_ _ =>0) ⟨#[],args,[]⟩).memory :=
 laidMetH_of_parts (laidMet_nil _ _) C1
section
variable{H:Type}{enc:TypeId×Value→H}{P:Program}
def zW(J:laidOutB P=true){i}(hb:Below W.heap.size W i):∀(ts:List TypeId) (vs:List Value) (ds:List (DataW H)) (ps:List MemPlace),
  (∀t∈ts,P.readableRec t=true∧t<P.types.size)→DataW.TrodAll enc P W 0 (λ_=>true) true ts vs ds ps→(∀x∈ps,x.block<W.heap.size)→∀sp:Nat→Bool,(∀p∈ps,sp p.block=true)→DataW.TrodAll enc P i 0 sp true ts vs ds ps
 |[],[],[],ps,_,h,_,_,_=>h
 |t::ts,v::vs,d::ds,ps,Y,h,L,sp,A=>by
  obtain⟨p,q,O,U,rfl⟩:=h;refine⟨p,q,WideElems.Trod_stays J (Y t C3).1 (Y t C3).2 O (λx hx=>hb.same (L x SV)) (λx hx=>A x SV),?_,I⟩;exact zW J hb ts vs ds q (λt b=>Y t (by simp[b])) U (λx hx=>L x SV) sp (λx hx=>A x SV)
 |[],v::vs,ds,ps,_,h,_,_,_=>by cases ds<;>exact h.elim
 |[],[],d::ds,ps,_,h,_,_,_=>h.elim
 |t::ts,[],ds,ps,_,h,_,_,_=>by cases ds<;>exact h.elim
 |t::ts,v::vs,[],ps,_,h,_,_,_=>h.elim
def zb{f:Func}{s:ChangeSpec}{apart S m again i}{args:Array Value}{v:Value}{ds gs:List (DataW H)}{h}(M:laidOutB P=true)(hr:∀t∈f.params.toList,P.readableRec t=true∧t<P.types.size)(l:s.vars=[])(u:DataW.Whole enc P f.params.toList s.vars apart W args.toList ds gs h)(hb:Below W.heap.size W i)(U:(s.fn H (ds++gs)).args=ds)(O:(s.fn H (ds++gs)).vars=[])(Y:∀(b:Nat) (sp:Nat→Bool) (R:Bool),DataW.TrodAll enc P i b sp R f.resultTypes.toList (v.resultList f.resultTypes.size) (s.fn H (ds++gs)).results [])(N:∀(j:Nat) (t:TypeId) (r:Value),f.resultTypes[j]?=some t→(v.resultList f.resultTypes.size)[j]?=some r→eo P i .any 0 t r):
  s.post enc P f apart S m again W args v i:=by
 have L:∀p∈h,p.block<W.heap.size:=λp J=>u.lt p J;have K:=u;obtain⟨p,q,X,V,e,hz,G⟩:=K;rw[l]at V;obtain⟨rfl,rfl⟩:=trodVars_none V;obtain rfl:h=p:=TZ;have c:∀sp:Nat→Bool,(∀x∈h,sp x.block=true)→DataW.TrodAll enc P i 0 sp true f.params.toList args.toList (s.fn H (ds++[])).args h:=λsp A=>by
  rw[U];exact zW M hb _ _ _ _ hr X L sp A
 have k:∀sp:Nat→Bool,DataW.TrodVars enc P i sp s.vars (s.fn H (ds++[])).vars []:=λsp=>by rw[l,O];rfl
 refine⟨ds,[],h,[],h,[],u,Y _ _ _,c _ (λx F=>by simpa using L x F),k _,World.keptBut_mono (λx F=>⟨F,.inr (by simpa using F)⟩) (hb.frame (·∈h)),λ_=>?_⟩;refine⟨N,_,_,([]++h)++[],⟨[]++h,[],trodAll_append (c _ (λ_ _=>rfl)) (Y _ _ _),k _,I,?_,?_⟩,?_⟩
 ·intro b o J;have C:MemPlace.cell b o∈h:=by simpa using J
  rw[←hz b o (by simpa using C)];unfold World.frozen?;rw[hb.block b (L _ C)]
 ·intro Z;have:=G Z;simpa using this
 intro x F _;simpa using F
variable{w:World}{base:Nat}{spare:Nat→Bool}{held:Bool}{fuel:Nat}{cs:List Value}{x:DataW H×List MemPlace}
def Ad6{t e}(ht:P.underlying t=some (.array n e))(h:DataW.trod enc P w base spare held fuel t cs=some x):
  (aa cs)=P.cellsOf t∧∃m,∀i,i<n→∃y,DataW.trod enc P w base spare held m e ((cs.drop (i*P.cellsOf e)).take (P.cellsOf e))=some y:=by
 cases fuel with
 |zero=>simp[DataW.trod]at h
 |succ m=>
  unfold DataW.trod at h;rw[ht]at h;simp only at h;split at h
  ·rename_i J;refine⟨J,m,λi M=>?_⟩;obtain⟨xs,o,_⟩:=Option.map_eq_some_iff.1 h;have O:=mapM_some_get o i i (by simp[M]);have U:=mapM_some_length o;rw[O];exact⟨xs[i]'(by simp at U;omega),C3⟩
  cases h
def wU{e m}(N:P.underlying e=some (.int .u8)):∀(n:Nat) (cs:List Value),aa cs=n→(∀i,i<n→∃y,DataW.trod enc P w base spare held m e ((cs.drop i).take 1)=some y)→∃k:List UInt8,aa k=n∧cs=AE k
 |0,cs,J,_=>⟨[],I,by simpa[AE]using J⟩
 |n+1,[],J,_=>by simp at J
 |n+1,c::cs,J,h=>by
  obtain⟨y,G⟩:=h 0 C0;simp only[Amq,Akn,tS]at G;obtain⟨z,b,_,X⟩:=DataW.trod_int N G;obtain⟨k,O,U⟩:=wU N n cs (by simpa using J) λi M=>by
   obtain⟨y,G⟩:=h (i+1) C0;exact⟨y,by simpa using G⟩
  simp only[hB.injEq,and_true]at b;refine⟨ad z.toNat::k,by simp[O],?_⟩;have q:0≤z∧z≤255:=by simpa[Lit.wf,IntKind.min,IntKind.max,IntKind.bits,IntKind.signed]using X
  rw[U,b];show _=[u8 (ad z.toNat)]++AE k;simp only[Al9,hB.injEq,and_true,u8,Ak5];congr 1;omega
def Ab5{t e r j v}{d:DataW H}{ps}(ht:P.underlying t=some (.array n e))(N:P.underlying e=some (.int .u8))(b:P.cellsOf e=1)(G:P.cellsOf t=n)(R:eo P w r j t v)(F:DataW.Trod enc P w base spare held t v d ps):∃k:List UInt8,aa k=n∧v=.agg (AE k).toArray:=by
 obtain⟨cs,rfl,L,_⟩:∃cs,v=.agg cs∧cs.size=P.cellsOf t∧Row.okWide P w r j t cs:=by simpa[eo,ht]using R
 obtain⟨fuel,V⟩:=F;obtain⟨O,m,U⟩:=Ad6 ht V;rw[b]at U;obtain⟨k,M,Z⟩:=wU N n cs.toList (by simpa[G]using L) (λi c=>by simpa[Value.cells]using U i c);exact⟨k,M,by rw[←Z]⟩
end
end
def Aas(k){p:Pinned}{s}{c:OpenClaim}(kinds b)(e:Bool×String)(lk)(m:c.holds p s)(hw:c.wfByText s=true)(i:c.laidByTextAt k p kinds b)(X:c.start=.entering)(F:c.noBlocks=false∧c.again=false)(hm:p.checked.prog.mainIs=some (e.1,e.2.toList))(G:(!e.1&&e.2.isEmpty&& !lk)=false)(J:∀f fn,p.checked.prog.funcNamed c.func=some f→p.checked.prog.funcs[f]?=some fn→lk=p.checked.prog.looks []∧∀(j:Nat) t,fn.params[j]?=some t→p.checked.prog.wantsStandIn t=false)(S:true=c.goesBy p.checked.prog):
  Claim7.holds p (.plain s) {stood:={row:=c,standIns:=[],harness:=e,looks:=lk},kinds:=[],alts:=[],goes:=true,laidByText:=true,laidKinds:=kinds,laidTests:=b,laidLooks:=k}:=by
 have o:∀r:OpenClaim,Claim7.isSixth {stood:={row:=r,standIns:=[],harness:=e,looks:=lk},kinds:=[]}=false:=λr=>by simpa[Claim7.isSixth]using G
 exact⟨Claim7.tied_new_at k kinds b (Claim7.new_of_sixth m e lk X F hm (o c) J) hw,(λD l=>by cases l),i,(λh=>by cases h),S⟩
abbrev uN(n:Nat):Value:=.int .u64 (n:Nat)
structure AS where
 lo:Nat
 hi:Nat
 deriving DecidableEq
@[reducible] instance:AB AS:=⟨2,λr=>[uN r.lo,uN r.hi],⟨0,0⟩,λ_=>rfl,λ_ v h=>by simp at h;rcases h with rfl|rfl<;>rfl⟩
structure Af where
 kind:Int
 stream:Int
 offset:Nat
 code:Nat
 fin:Bool
 data:ByteArray
 ranges:List AS
def rg(rs:List AS)(i:Nat):AS:=rs.getD i ⟨0,0⟩
def AU(n:Nat):List UInt8:=
 if n<64 then [ad n]
 else if n<16384 then [ad (n/256+64),ad n]
 else if n<1073741824 then [ad (n/16777216+128),ad (n/65536),ad (n/256),ad n]
 else [ad (n/72057594037927936+192),ad (n/281474976710656),ad (n/1099511627776),ad (n/4294967296),
  ad (n/16777216),ad (n/65536),ad (n/256),ad n]
def DS(n):aa (AU n)≤8:=by
 unfold AU;split
 ·simp
 split
 ·simp
 split<;>simp
def Gc(rs:List AS)(i:Nat):Prop:=(rg rs i).lo≤(rg rs i).hi∧(rg rs i).hi≤4611686018427387903∧(i=0∨(2≤(rg rs (i-1)).lo∧(rg rs i).hi+2≤(rg rs (i-1)).lo))
instance(rs:List AS)(i:Nat):Decidable (Gc rs i):=by unfold Gc;exact AH
def Io(rs:List AS):Prop:=rs≠ []∧∀i,i<aa rs→Gc rs i
instance(rs:List AS):Decidable (Io rs):=by unfold Io;exact AH
def Jk(f:Af):Prop:=(f.kind=3→Io f.ranges)∧(f.kind=5→f.data.size+f.offset≤4611686018427387903)
instance(f:Af):Decidable (Jk f):=by unfold Jk;exact AH
def EV(k:Int):Prop:=1≤k∧k≤6
instance(k:Int):Decidable (EV k):=by unfold EV;exact AH
def B4(f:Af):Prop:=f.offset≤4611686018427387903∧f.code≤4611686018427387903∧0≤f.stream∧f.stream<4∧Jk f∧EV f.kind
instance(f:Af):Decidable (B4 f):=by unfold B4;exact AH
def CF(rs:List AS):Nat→List UInt8
 |0=>[]
 |k+1=>CF rs k++AU ((rg rs k).lo-(rg rs (k+1)).hi-2)++AU ((rg rs (k+1)).hi-(rg rs (k+1)).lo)
def MI(rs:List AS):List UInt8:=[2]++AU (rg rs 0).hi++AU (aa rs-1)++AU ((rg rs 0).hi-(rg rs 0).lo)++CF rs (aa rs-1)
def Av(f:Af):List UInt8:=
 if f.kind=1 then [0]else if f.kind=2 then [1]else if f.kind=3 then MI f.ranges
 else if f.kind=4 then [4]++AU f.stream.toNat++AU f.code++AU f.offset
 else if f.kind=5 then [bif f.fin then 9 else 8]++AU f.stream.toNat++AU f.offset++AU f.data.size++f.data.data.toList
 else [28]++AU f.code
def Bk(fs:List Af):List UInt8:=fs.flatMap Av
def G4(fs:List Af):Option (List UInt8):=if fs≠ []∧∀f∈fs,B4 f then some (Bk fs)else none
def Ik(xs:List UInt8)(a:Nat):Nat:=(xs.getD a 0).toNat
def IK(xs:List UInt8)(a:Nat):Nat→Nat
 |0=>Ik xs a%64
 |k+1=>IK xs a k*256+Ik xs (a+k+1)
def Sa(xs:List UInt8)(a):Ik xs a<256:=(xs.getD a 0).toNat_lt
def Ur(xs:List UInt8)(a):∀k,IK xs a k<64*256^k
 |0=>by simp[IK];omega
 |k+1=>by
  have O:=Ur xs a k;have U:=Sa xs (a+k+1);rw[IK,Alt];omega
def DV(xs:List UInt8)(a:Nat):Nat:=2^(Ik xs a/64)
def TW(xs:List UInt8)(a):DV xs a=1∨DV xs a=2∨DV xs a=4∨DV xs a=8:=by
 have h:=Sa xs a;unfold DV;rcases(by omega:Ik xs a/64=0∨Ik xs a/64=1∨Ik xs a/64=2∨Ik xs a/64=3)with e|e|e|e<;>rw[e]<;>simp
def CP(xs:List UInt8)(a:Nat):Option (Nat×Nat):=
 if a<aa xs∧a+DV xs a≤(aa xs) then some (IK xs a (DV xs a-1),a+DV xs a)else none
def Ep(h:CP xs a=some (n,a')):n≤4611686018427387903∧a<a'∧a'≤aa xs:=by
 unfold CP at h;split at h
 ·rename_i b;simp only[cx.injEq,c6.injEq]at h;obtain⟨rfl,rfl⟩:=h;have O:=Ur xs a (DV xs a-1);rcases TW xs a with e|e|e|e<;>rw[e]at O b⊢<;>simp only[Nat.reduceSub]at O⊢<;>refine⟨?_,?_,?_⟩<;>omega
 cases h
def Hm(xs:List UInt8)(a:Nat):Option (Nat×Nat):=match CP xs a with
 |some (n,a')=>if n<4 then some (n,a')else none
 |none=>none
def Hv(xs:List UInt8)(a:Nat):Option (List UInt8×Nat):=match CP xs a with
 |some (n,a')=>if n≤aa xs-a' then some ((xs.drop a').take n,a'+n)else none
 |none=>none
def Fl(xs:List UInt8):Nat→Nat→Nat→Option (List AS×Nat)
 |0,_,a=>some ([],a)
 |n+1,C,a=>match CP xs a with
  |some (i,U)=>match CP xs U with
   |some (s,L)=>if 2≤C∧i+2≤C∧s+i+2≤C then
     match Fl xs n (C-2-i-s) L with
     |some (u,O)=>some (⟨C-2-i-s,C-2-i⟩::u,O)
     |none=>none
    else none
   |none=>none
  |none=>none
def EQ(xs:List UInt8)(a:Nat):Option (List AS×Nat):=match CP xs a with
 |some (M,U)=>match CP xs U with
  |some (n,L)=>match CP xs L with
   |some (s,O)=>if s≤M then
     match Fl xs n (M-s) O with
     |some (u,R)=>some (⟨M-s,M⟩::u,R)
     |none=>none
    else none
   |none=>none
  |none=>none
 |none=>none
def Ef(t:UInt8):Nat:=if t=0 then 1 else if t=1 then 2 else if t=2 then 3 else if t=4 then 4 else if t=8∨t=9 then 5 else if t=28 then 6 else 0
def DG(xs:List UInt8)(k:Nat)(fin:Bool)(a:Nat):Option (Af×Nat):=
 if k=1 then some (⟨1,0,0,0,fin,⟨#[]⟩,[]⟩,a)
 else if k=2 then some (⟨2,0,0,0,fin,⟨#[]⟩,[]⟩,a)
 else if k=3 then match EQ xs a with
  |some (u,U)=>some (⟨3,0,0,0,fin,⟨#[]⟩,u⟩,U)
  |none=>none
 else if k=4 then match Hm xs a with
  |some (s,U)=>match CP xs U with
   |some (c,L)=>match CP xs L with
    |some (o,O)=>some (⟨4,s,o,c,fin,⟨#[]⟩,[]⟩,O)
    |none=>none
   |none=>none
  |none=>none
 else if k=5 then match Hm xs a with
  |some (s,U)=>match CP xs U with
   |some (o,L)=>match Hv xs L with
    |some (d,O)=>some (⟨5,s,o,0,fin,BR d,[]⟩,O)
    |none=>none
   |none=>none
  |none=>none
 else if k=6 then match CP xs a with
  |some (c,U)=>some (⟨6,0,0,c,fin,⟨#[]⟩,[]⟩,U)
  |none=>none
 else none
def FK(xs:List UInt8)(a:Nat):Option (Af×Nat):=
 match DG xs (Ef (xs.getD a 0)) (decide (xs.getD a 0=9)) (a+1)with
 |some (f,a')=>if B4 f then some (f,a')else none
 |none=>none
def GF(xs:List UInt8)(a:Nat):Except Nat (List Af):=
 if a<(aa xs) then
  match FK xs a with
  |some (f,a')=>if h:a<a'∧a<(aa xs) then match GF xs a' with
    | .ok l=>.ok (f::l)
    | .error e=>.error e
   else .error a
  |none=>.error a
 else .ok []
 termination_by xs.length-a
 decreasing_by omega
def Eb(xs:List UInt8):Except Nat (List Af):=if xs=[]then .error 0 else GF xs 0
def O4(h:Hm xs a=some (n,a')):n<4∧a<a'∧a'≤aa xs:=by
 unfold Hm at h;split at h
 ·rename_i c b e;split at h
  ·simp only[cx.injEq,c6.injEq]at h;obtain⟨rfl,rfl⟩:=h;have:=Ep e;exact⟨by assumption,this.2⟩
  cases h
 cases h
def Wn{d:List UInt8}(h:Hv xs a=some (d,a')):a<a'∧a'≤aa xs∧aa d≤aa xs:=by
 unfold Hv at h;split at h
 ·rename_i c b e;split at h
  ·simp only[cx.injEq,c6.injEq]at h;obtain⟨rfl,rfl⟩:=h;have:=Ep e;refine⟨C0,C0,?_⟩;simp;omega
  cases h
 cases h
def dO:∀{n lo a a':Nat} {rs:List AS},Fl xs n lo a=some (rs,a')→a≤aa xs→a≤a'∧a'≤aa xs∧aa rs=n∧2*n≤a'-a:=by
 intro n
 induction n with
 |zero=>intro lo a a' rs h U;simp only[Fl,cx.injEq,c6.injEq]at h;obtain⟨rfl,rfl⟩:=h;simp;omega
 |succ n Z=>
  intro lo a a' rs h U;simp only[Fl]at h;split at h
  ·rename_i i b C;split at h
   ·rename_i s L M;split at h
    ·split at h
     ·rename_i q O R;simp only[cx.injEq,c6.injEq]at h;obtain⟨rfl,rfl⟩:=h;have c:=Ep C;have e:=Ep M;have f:=Z R C0;simp only[f'];omega
     cases h
    cases h
   cases h
  cases h
def Ws{rs}(h:EQ xs a=some (rs,a')):a<a'∧a'≤aa xs∧rs≠ []∧aa rs≤aa xs:=by
 unfold EQ at h;split at h
 ·rename_i c U C;split at h
  ·rename_i n L M;split at h
   ·rename_i s O R;split at h
    ·split at h
     ·rename_i q e X;simp only[cx.injEq,c6.injEq]at h;obtain⟨rfl,rfl⟩:=h;have f:=Ep C;have i:=Ep M;have b:=Ep R;have Z:=dO X b.2.2;refine⟨C0,C0,C3,?_⟩;simp only[f'];omega
     cases h
    cases h
   cases h
  cases h
 cases h
def Adg{k fin f}(h:DG xs k fin a=some (f,a'))(U:a≤aa xs):a≤a'∧a'≤aa xs:=by
 unfold DG at h;split at h
 ·exact fE
 split at h
 ·exact fE
 split at h
 ·split at h
  ·rename_i e;simp only[cx.injEq,c6.injEq]at h;obtain⟨-,rfl⟩:=h;have:=Ws e;omega
  cases h
 split at h
 ·split at h
  ·rename_i C;split at h
   ·rename_i M;split at h
    ·rename_i R;simp only[cx.injEq,c6.injEq]at h;obtain⟨-,rfl⟩:=h;have:=O4 C;have:=Ep M;have:=Ep R;omega
    cases h
   cases h
  cases h
 split at h
 ·split at h
  ·rename_i C;split at h
   ·rename_i M;split at h
    ·rename_i R;simp only[cx.injEq,c6.injEq]at h;obtain⟨-,rfl⟩:=h;have:=O4 C;have:=Ep M;have:=Wn R;omega
    cases h
   cases h
  cases h
 split at h
 ·split at h
  ·rename_i e;simp only[cx.injEq,c6.injEq]at h;obtain⟨-,rfl⟩:=h;have:=Ep e;omega
  cases h
 cases h
def U3{f}(h:FK xs a=some (f,a'))(U:a<aa xs):a<a'∧a'≤aa xs∧B4 f:=by
 unfold FK at h;split at h
 ·rename_i e;split at h
  ·simp only[cx.injEq,c6.injEq]at h;obtain⟨rfl,rfl⟩:=h;have:=Adg e C0;exact⟨C0,C0,by assumption⟩
  cases h
 cases h
def VW(h:¬a<aa xs):GF xs a=.ok []:=by rw[GF,AF h]
def SX(h:a<aa xs)(e:FK xs a=none):GF xs a=.error a:=by rw[GF,AJ h,e]
def YZ{f}(h:a<aa xs)(e:FK xs a=some (f,a')):GF xs a=match GF xs a' with
  | .ok l=>.ok (f::l)
  | .error e=>.error e:=by
 conv=>lhs;rw[GF]
 rw[AJ h,e];simp only[];rw[dif_pos ⟨(U3 e h).1,h⟩]
structure RF where
 f:Af
 p:Option Addr
 b:Nat
 o:Nat
 c:Nat
 s:List Value
@[reducible] def AN(r:RF):List Value:=[.int .i64 r.f.kind,.int .i64 r.f.stream,uN r.f.offset,uN r.f.code,.bool r.f.fin,.string r.f.data,.slice r.p (aa r.f.ranges) r.c]
@[reducible] instance:AB RF:=⟨7,AN,⟨⟨0,0,0,0,false,⟨#[]⟩,[]⟩,none,0,0,0,[]⟩,λ_=>rfl,λ_ v h=>by
 simp at h;rcases h with rfl|rfl|rfl|rfl|rfl|rfl|rfl<;>rfl⟩
def RF.ok(r:RF):Prop:=Sl r.p r.b r.o (aa r.f.ranges) r.c
def RF.own(r:RF):Prop:=aa r.f.ranges*2+aa r.s=r.c*2
def Ed(r:RF):HP:=AC r.b r.o r.f.ranges r.s
def BM(rs:List RF):HP:=rs.foldr (λr H=>Ed r*H) Bs
def Re:BM []=Bs:=rfl
def SR(r rs):BM (r::rs)=Ed r*BM rs:=rfl
def U? (rs ts):BM (rs++ts)=BM rs*BM ts:=by
 induction rs with
 |nil=>rw[l0,Re,BS]
 |cons r rs Z=>rw[Ap,SR,SR,Z,HP.assoc]
def yk{r rs}(h:r∈rs):∃X,BM rs=Ed r*X:=by
 induction rs with
 |nil=>cases h
 |cons t rs Z=>
  obtain rfl|h:=j1.1 h
  ·exact DF
  obtain⟨X,e⟩:=Z h;exact⟨Ed t*X,by rw[SR,e,EM]⟩
theorem P1{r:RF}{rs}(h:r∈rs):AZ B (BM rs) r.b r.o r.f.ranges:=by
 obtain⟨X,e⟩:=yk h;rw[e];show AZ B (AC r.b r.o r.f.ranges r.s*X) r.b r.o r.f.ranges;exact AH
structure JM(B:World)(H:HP)(p:Option Addr)(c:Nat)(fs:List Af)(b o:Nat)(rs:List RF):Prop where
 sl:Sl p b o fs.length c
 rd:AZ B H b o rs
 map:rs.map (·.f)=fs
 ok:∀r∈rs,r.ok
 RY:∀r∈rs,AZ B H r.b r.o r.f.ranges
def JM.len{H c fs b o rs}(h:JM B H p c fs b o rs):aa rs=aa fs:=by rw[←h.map,eh]
def JM.right{A C c fs b o rs}(h:JM B C p c fs b o rs):JM B (A*C) p c fs b o rs:=
 ⟨h.sl,(let _:=h.rd;AH),h.map,h.ok,λr Y=>(let _:=h.RY r Y;AH)⟩
def JM.left{A C c fs b o rs}(h:JM B A p c fs b o rs):JM B (A*C) p c fs b o rs:=
 ⟨h.sl,(let _:=h.rd;AH),h.map,h.ok,λr Y=>(let _:=h.RY r Y;AH)⟩
def Qk(R:HP)(fs:List Af)(v:Value)(H':HP):Prop:=
 ∃p b o c s u,v=.slice p (aa fs) c∧Sl p b o (aa fs) c∧aa fs*7+aa s=c*7∧u.map RF.f=fs∧(∀r∈u,r.ok∧r.own)∧H'=AC b o u s*(BM u*R)
def Qk.rd{R b o c s fs}{rs:List RF}(h1:Sl p b o (aa fs) c)(h2:rs.map RF.f=fs)(M:∀r∈rs,r.ok∧r.own):
  JM B (AC b o rs s*(BM rs*R)) p c fs b o rs:=
 ⟨h1,AH,h2,λr Y=>(M r Y).1,λr Y=>by
  have:=P1 (B:=B) Y;exact AH⟩
def Qk.nil(R):Qk R [] (.slice none 0 0) R:=⟨none,0,0,0,[],[],I,E7,I,I,(λ_ h=>by simp at h),VV⟩
section
def x_:∀a,a<64→a|||64=a+64:=by decide
def Aad:∀a,a<64→a|||128=a+128:=by decide
def Af1:∀a,a<64→a|||192=a+192:=by decide
def Td(k):u8 (ad k)=.int .u8 (k%256:Nat):=by rw[u8,Ak5]
def P5(xs:List UInt8):AE xs=xs.map u8:=by
 induction xs with
 |nil=>rfl
 |cons x xs Z=>show [u8 x]++AE xs=_;rw[Z];rfl
def ma(h:n<64):AE (AU n)=[.int .u8 (n%256:Nat)]:=by
 rw[AU,AJ h,P5];simp only[hP,oq,Td]
def Acs(h:¬n<64)(h2:n<16384):AE (AU n)=[.int .u8 ((n/2^8%256|||64:Nat)),.int .u8 (n%256:Nat)]:=by
 rw[AU,AF h,AJ h2,P5];simp only[hP,oq,Td];rw[show n/2^8%256=n/256 by omega,x_ _ C0,show(n/256+64)%256=n/256+64 by omega]
def T? (h:¬n<64)(h2:¬n<16384)(M:n<1073741824):AE (AU n)=[.int .u8 ((n/2^24%256|||128:Nat)),.int .u8 (n/2^16%256:Nat),.int .u8 (n/2^8%256:Nat),.int .u8 (n%256:Nat)]:=by
 rw[AU,AF h,AF h2,AJ M,P5];simp only[hP,oq,Td];rw[show n/2^24%256=n/16777216 by omega,Aad _ C0,show(n/16777216+128)%256=n/16777216+128 by omega]
def Ag6(h:¬n<64)(h2:¬n<16384)(M:¬n<1073741824)(Z:n≤4611686018427387903):AE (AU n)=[.int .u8 ((n/2^56%256|||192:Nat)),.int .u8 (n/2^48%256:Nat),.int .u8 (n/2^40%256:Nat),.int .u8 (n/2^32%256:Nat),
  .int .u8 (n/2^24%256:Nat),.int .u8 (n/2^16%256:Nat),.int .u8 (n/2^8%256:Nat),.int .u8 (n%256:Nat)]:=by
 rw[AU,AF h,AF h2,AF M,P5];simp only[hP,oq,Td];rw[show n/2^56%256=n/72057594037927936 by omega,Af1 _ C0,show(n/72057594037927936+192)%256=n/72057594037927936+192 by omega]
structure BG where
 n:Nat
@[reducible] instance:AB BG:=⟨1,λx=>[uN x.n],⟨0⟩,λ_=>rfl,λ_ v h=>by rw[g5.1 h];rfl⟩
section
variable{P:Program}{B:World}{n:Nat}{E:A8}{D:CW}{H:HP}{d:Option Tmp}{T T' ty:TypeId}{pos:String}{af:Array Edge}{g:Option (Nat×Bool)}{x y z:Operand}
def I2[AB α]{b o i}{xs:List α}[hT:GN P T (AB.sz α)](F:ev E x=some (.pointer (some ⟨b,o+i*AB.sz α,none⟩)))(hr:AZ B H b o xs)(hi:i<aa xs):
  AY P B n ⟨d,.load T x,ty,pos,af,g⟩ E H (.agg (AB.enc (xs.getD i AD)).toArray):=by
 intro a w N hw;have O:(loadCells ⟨b,o+i*AB.sz α,none⟩ (aa (AB.enc (xs.getD i AD)))).run P w=.ok (AB.enc (xs.getD i AD)).toArray w:=by
  refine run_loadCells_list w ⟨b,o+i*AB.sz α,none⟩ _ λj v e=>?_;exact dW
 have U:A9 B.heap.size P (loadCells ⟨b,o+i*AB.sz α,none⟩ (aa (AB.enc (xs.getD i AD)))) w:=by
  refine QZ _ 0 #[] () (λj v e=>?_) (λv S=>Qp (AB.one _ v S));rw[Pl];exact dW
 rw[AB.len]at O U;constructor<;>simp[U,execOp,N.ev F,Instr.loadAt,Instr.sureAddr,loadVar,hT.get,hT.size,O]
def Fa[AB α]{b o i f}{xs:List α}{v}[hT:DC P T](F:ev E x=some (.pointer (some ⟨b,o+i*AB.sz α+f,none⟩)))(hr:AZ B H b o xs)(S:(AB.enc (xs.getD i AD))[f]?=some v)(hi:i<aa xs):
  AY P B n ⟨d,.load T x,ty,pos,af,g⟩ E H v:=by
 intro a w N X;constructor<;>simp[execOp,N.ev F,Instr.loadAt,Instr.sureAddr,loadVar,hT.get,hr.get i f v S hi w X,Qp (AB.one _ v (Akb S))]
theorem AZ.one[AB α]{b o}(a:α):AZ B (AA b o (AB.enc a)) b o [a]:=by
 have h:AZ B (AC b o [a] []) b o [a]:=AH;have e:AC b o [a] []=AA b o (AB.enc a):=by simp[AC,AE]
 rwa[e]at h
def qY{R sT xT e by_ b o c s}{G:Value}{str:ByteArray}[hT:Aw P sT (.slice e)][hT2:Aw P xT .string][hz:CG P e 1][hi:Ft P e by_][h0:Bh P e G](hx:ev E x=some (.slice p (aa xs) c))(C:Sl p b o (aa xs) c)(f:aa xs*1+aa s=c*1)(hy:ev E y=some (.string str))(N:G.cells.size=1)(hb:(aa xs+str.size)*by_≤140737488355328)(q:0<by_):
  DT P B n ⟨d,.call ⟨.builtin .append,#[x,y],#[sT,xT]⟩,ty,pos,af,g⟩ E D (AC b o xs s*R) (λv S=>DI R (xs++str.data.toList) v S):=by
 intro a w h1 _ M K Q Z;have hl:aa str.data.toList=str.size:=by rw[Ajk];rfl
 have V:∀w',Sat B (AC b o xs s*R) w'→(Builtin.firstCells (AB.sz UInt8) (aa str.data.toList) (.string str)).run P w'=.ok (AE str.data.toList).toArray w':=by
  exact jJ
 have u:∀w',Sat B (AC b o xs s*R) w'→∀m D,Al m D P (Builtin.firstCells (AB.sz UInt8) (aa str.data.toList) (.string str)) w':=λw' _ m D=>by simp[Builtin.firstCells]
 obtain⟨v,w',hrun,⟨S,j,L⟩,A⟩:=iR (P:=P) (B:=B) (R:=R) (b:=b) (o:=o) (p:=p) (c:=c) (xs:=xs) (ys:=str.data.toList) (s:=s) (sT:=sT) (xT:=xT) (ats:= #[sT,xT]) (e:=e) (by_:=by_) (ty:=ty) (x:=.string str) (w:=w) (z:=G) hT.get I I (λk h=>by rw[hT2.get]at h;cases h) ⟨_,hT2.get⟩ hz.get hi.get h0.get N h0.live C f Cy (λY U=>V Y U) u (by rw[hl];exact hb) q M;have i:(execOp a.eval ⟨d,.call ⟨.builtin .append,#[x,y],#[sT,xT]⟩,ty,pos,af,g⟩).run P w=.ok (.value v) w':=by
  exact YT
 refine Oper.Gg ?_ i (Z v S w' j L);simp[execOp,resolve,h1.ev hx,h1.ev hy,invoke,builtin,A]
def N3{b o i xs}[hT:GN P T 2](F:ev E x=some (.pointer (some ⟨b,o+i*2,none⟩)))(hr:AZ B H b o xs)(hi:i<aa xs):
  AY P B n ⟨d,.load T x,ty,pos,af,g⟩ E H (.agg #[uN (rg xs i).lo,uN (rg xs i).hi]):=I2 (hT:=hT) F hr hi
def JC{b o i xs}[hT:DC P T](F:ev E x=some (.pointer (some ⟨b,o+i*2+0,none⟩)))(hr:AZ B H b o xs)(hi:i<aa xs):
  AY P B n ⟨d,.load T x,ty,pos,af,g⟩ E H (uN (rg xs i).lo):=Fa (f:=0) F hr I hi
def Ig{b o i xs}[hT:DC P T](F:ev E x=some (.pointer (some ⟨b,o+i*2+1,none⟩)))(hr:AZ B H b o xs)(hi:i<aa xs):
  AY P B n ⟨d,.load T x,ty,pos,af,g⟩ E H (uN (rg xs i).hi):=Fa (f:=1) F hr I hi
def HQ{b o k c i sz q:Nat}{e:TypeId}{J:IntKind}[hT:Aw P T (.slice e)][hz:CG P e sz](F:ev E x=some (.slice p k c))
  (G:ev E y=some (.int J i))(C:Sl p b o k c)(h:i<k)(N:o+i*sz=q):AY P B n ⟨d,.indexAddr T x y,ty,pos,af,g⟩ E H (.pointer (some ⟨b,q,none⟩)):=N▸CJ F G C h
def Xi(pre:List UInt8)(rs i):pre++CF rs i++AU ((rg rs i).lo-(rg rs (i+1)).hi-2)++AU ((rg rs (i+1)).hi-(rg rs (i+1)).lo)=pre++CF rs (i+1):=by
 simp only[CF,c5]
def P'(rs):∀i,aa (CF rs i)≤16*i
 |0=>by simp[CF]
 |i+1=>by
  have:=P' rs i;have O:=DS ((rg rs i).lo-(rg rs (i+1)).hi-2);have U:=DS ((rg rs (i+1)).hi-(rg rs (i+1)).lo);simp only[CF,a5];omega
def Acc{b o i}{xs:List BG}[hT:DC P T](F:ev E x=some (.pointer (some ⟨b,o+i*1,none⟩)))(hr:AZ B H b o xs)(hi:i<aa xs):
  AY P B n ⟨d,.load T x,ty,pos,af,g⟩ E H (uN (xs.getD i ⟨0⟩).n):=Fa (f:=0) F hr I hi
end
end
section
section
variable{H:Type}{enc:TypeId×Value→H}
def nq(d:DataW H):1≤Rows.uptoBulk d:=by
 cases d with
 |lit l=>cases l<;>simp[Rows.uptoBulk]
 |nil=>simp[Rows.uptoBulk]
 |ptr d=>simp[Rows.uptoBulk]
 |slice s spare=>simp[Rows.uptoBulk]
 |agg parts=>simp[Rows.uptoBulk]
 |iface t d=>simp[Rows.uptoBulk]
 |map e=>simp[Rows.uptoBulk]
 |held h=>simp[Rows.uptoBulk]
def O_(l:List (DataW H)):aa l≤Rows.uptoBulkAll l:=by
 induction l with
 |nil=>simp[Rows.uptoBulkAll]
 |cons x r Z=>have:=nq x;simp only[Rows.uptoBulkAll,f'];omega
def nY{d:DataW H}{l:List (DataW H)}(h:d∈l):Rows.uptoBulk d≤Rows.uptoBulkAll l:=by
 induction l with
 |nil=>cases h
 |cons x r Z=>
  simp only[Rows.uptoBulkAll];obtain rfl|e:=j1.1 h
  ·omega
  have:=Z e;omega
theorem ZJ[AB α]{H' b o}{xs:List α}(h:∀i f v,(AB.enc (xs.getD i AD))[f]?=some v→i<aa xs→W.cell? ⟨b,o+i*AB.sz α+f,none⟩=some v):AZ W H' b o xs:=
 ⟨λi f v e M w X=>(cP (h i f v e M) (Qp (AB.one _ v (Akb e)))).get w X trivial⟩
instance:Inhabited RF:=⟨AD⟩
instance:Inhabited AS:=⟨⟨0,0⟩⟩
def Age[AB α](X:Nat→α){len i}(hi:i<len):((hO len).map X).getD i AD=X i:=by
 simp[List.getD,x0,List.getElem?_range hi]
def cv{P:Program}[AB α][Inhabited α]{t e fuel cs}{x:DataW H×List MemPlace}(Q:α→DataW H→Prop)(ht:P.underlying t=some (.slice e))(Y:P.cellsOf e=AB.sz α)(L:0<AB.sz α)(k:∀n r y,DataW.trod enc P W 0 (λ_=>true) true n e r=some y→∃a:α,r=AB.enc a∧Q a y.1)(h:DataW.trod enc P W 0 (λ_=>true) true fuel t cs=some x):
  ∃(p:Option Addr) (b o c len:Nat) (X:Nat→α),cs=[.slice p len c]∧Sl p b o len c∧(∀G,AZ W G b o ((hO len).map X))∧
   ((len=0∧x.1=.nil)∨∃(D:Nat→DataW H) (sp:List (DataW H)),x.1=.slice ((hO len).map D) sp∧∀i,i<len→Q (X i) (D i)):=by
 obtain⟨rfl,rfl⟩|⟨a,len,R,m,n,D,u,rfl,q,J,hm,K,rfl,F⟩:=Go.Deep.open_slice ht h
 ·exact⟨none,0,0,0,0,λ_=>default,I,E7,λG=>ZJ (λi f v _ M=>by simp at M),.inl Dj⟩
 obtain rfl:m=R:=by simpa using K
 obtain⟨X,Z⟩:=Go.Deep.choose_lt (α:=α) (n:=m) (p:=λi a'=>W.cells? 0 (a.add (i*AB.sz α)) (AB.sz α)=some (AB.enc a')∧Q a' (D i)) (λi M=>by
  obtain⟨r,O,U⟩:=F i M;obtain⟨a',e1,e2⟩:=k n r _ U;rw[Y]at O;exact⟨a',by rw[O,e1],e2⟩)
 have l:∀i f v,i<m→(AB.enc (X i))[f]?=some v→W.cell? (a.add (i*AB.sz α+f))=some v:=by
  intro i f v M S;obtain⟨_,_,h3⟩:=World.cells?_some (Z i M).1;have V:f<AB.sz α:=by
   have:=(Lk.1 S).1;rwa[AB.len]at this
  rw[←Go.Deep.add_add,h3 f V,S]
 have j:0<m→a.spot=none:=by
  intro A;have O:0<aa (AB.enc (X 0)):=by rw[AB.len];exact L
  have U:=l 0 0 ((AB.enc (X 0))[0]) A (c8 O);simp only[An3,Pl,Addr.add,if_true]at U;unfold World.cell? at U;split at U
  ·split at U
   ·cases U
   rename_i C;cases N:a.spot with
   |none=>rfl
   |some z=>rw[N]at C;exact absurd I C
  cases U
 refine⟨some a,a.block,a.off,m,len,X,I,⟨?_,J⟩,λG=>ZJ λi f v S M=>?_,.inr ⟨D,_,I,λi M=>(Z i C0).2⟩⟩
 ·obtain A|A:=Akv m
  ·exact .inl A
  refine .inr ?_;have:=j A;obtain⟨s,of,sp⟩:=a;obtain rfl:sp=none:=this;rfl
 rw[eh,Alz]at M;rw[Age X M]at S;have:=l i f v C0 S;have C:=j C0;obtain⟨s,of,sp⟩:=a;obtain rfl:sp=none:=C;have e:(⟨s,of,none⟩:Addr).add (i*AB.sz α+f)=⟨s,of+i*AB.sz α+f,none⟩:=by
  unfold Addr.add;split
  ·congr 1;omega
  show(⟨s,of+(i*AB.sz α+f),none⟩:Addr)=_;congr 1;omega
 rwa[e]at this
def Acn{i:Int}(h:0≤i):uN i.toNat=.int .u64 i:=by show Value.int .u64 ((i.toNat:Nat):Int)=_;rw[x3 h]
def tw{P:Program}{r base t e v}(ht:P.underlying t=some (.slice e))(h:eo P W r base t v):∃p k c,v=.slice p k c:=by
 simp only[eo,ht,Cell.okWide]at h;cases v<;>simp[Cell.ok,ht]at h;exact⟨_,_,_,I⟩
end
end
section
variable{B:World}
def Qf(x:UInt64)(k)(b:0<k∧k<64)(H):Fn prog B 227 [u64 x,iN k] H (λv S=>v=u64 (LM x k)∧S=H):=by
 refine mI func227 ?_;have c:k&&&63=k:=by rw[Ali k 6];omega
 refine BQ ?_;refine JL (ll (j:=63) I I (by constructor<;>first|omega|exact Aku (Akp ..) C0))<|J7 ?_;refine JL (XB I I C0)<|J2 ?_;refine JL (MR (i:=64) I I C0)<|JL (Kr I I C0)<|JL (Ye I I)<|J4 ?_;exact mr [4] I I ⟨by simp only[c];rfl,I⟩
set_option maxHeartbeats 1000000 in
def xZ(b k:Nat)(e:k<1000)(v:S4)(R:HP):Fn prog B 224 [ptr b 0,iN k] (AA b 0 (s4 v)*R) (λr S=>r=.tuple #[]∧S=AA b 0 (s4 (KQ k v))*R):=by
 refine mI func224 ?_;refine Bt ?_;refine Bf (λj:Nat=>[(0,ptr b 0),(4,iN k),(5,iN j)]) (λj=>AA b 0 (s4 (KQ j v))*R) (λj=>j≤k) (λj=>k-j) 0 Du DW I ?_;intro j f;refine J6 ?_;refine mC (λc=>?_) (λc=>?_)
 ·refine J5 ?_;refine SW ?_;refine Au 5 C1 I I (Bd I (Qf _ 13 C2 _))<|TN ?_;refine JT 12 I fR<|Bn ?_;refine mA 8 9 ?_;refine Bn ?_;refine A4 ?_;refine uS ?_;refine JT 7 I (Ms (i:=0) (q:=0) I I C0 I)<|Bn ?_;refine SW ?_;refine Au 5 C1 I I (Bd I (Qf _ 16 C2 _))<|TN ?_;refine JT 12 I oH<|GO 13 C1 I Lc<|FZ ?_;refine A5 ?_;refine SW ?_;refine Au 5 C1 I I (Bd I (Qf _ 21 C2 _))<|TN ?_;refine JT 12 I oH<|GO 13 C1 I Lc<|JR<|FF ?_;refine A5 ?_;refine SW ?_;refine Au 5 C1 I I (Bd I (Qf _ 17 C2 _))<|TN ?_;refine JT 12 I fR<|A5 ?_;refine mA 8 9 ?_;refine A5 ?_;refine BE ?_;refine uS ?_;refine JT 7 I (Ms (i:=2) (q:=2) I I C0 I)<|Be ?_;exact BV (j+1) C0 C0 DW (by rw[rB];rfl)
 obtain rfl:j=k:=C0;refine J4 ?_;exact VP (ts:=[]) I I Dj
def Tf(p b o c)(xs:List UInt8)(H)(C:Sl p b o (aa xs) c)(hr:AZ B H b o xs)(G:8≤aa xs):
  Fn prog B 222 [.slice p (aa xs) c] H (λv S=>v=u64 (le xs 8)∧S=H):=by
 refine mI func222 ?_;have r:=PF (B:=B) hr;have L:=C.2;refine BQ ?_;refine JL (Uo (h:=8) I I C0)<|BB ?_;refine Bf (λj:Nat=>[(2,u64 (le xs j)),(6,.slice p 8 c),(7,iN 8),(8,iN j)]) (λ_=>H) (λj=>j≤8) (λj=>8-j) 0 Du DJ I ?_;intro j f;refine J6 ?_;refine mC (λe=>?_) (λe=>?_)
 ·refine J7 ?_;refine JL (CJ I I (b:=b) (o:=o) ⟨C.1,C0⟩ C0)<|J8 ?_;refine JL (TB I)<|J1 ?_;refine JL (vO (i:=8) I I C0)<|JL (XB I I C0)<|JL (Ye I I)<|Be ?_;exact BV (j+1) C0 C0 DJ I
 obtain rfl:j=8:=C0;refine Fi ?_;exact Nq
def Qh(m:UInt64)(v:S4):S4:=
 let v:=KQ 2 {v with d:=v.d ^^^m}
 {v with a:=v.a ^^^m}
def g_(b:Nat)(v:S4)(m:UInt64)(R:HP):Fn prog B 223 [u64 m,ptr b 0] (AA b 0 (s4 v)*R) (λr S=>r=.tuple #[]∧S=AA b 0 (s4 (Qh m v))*R):=by
 refine mI func223 ?_;refine DY ?_;refine mE I (xZ b 2 C2 ⟨v.a,v.b,v.c,v.d ^^^m⟩ R)<|JR<|CY ?_;exact VP (ts:=[]) I I Dj
def Fg(ks:List UInt8):S4:=⟨le ks 8 ^^^8317987319222330741,le (ks.drop 8) 8 ^^^7237128888997146477,le ks 8 ^^^7816392313619706465,le (ks.drop 8) 8 ^^^8387220255154660723⟩
def Gj(xs:List UInt8):Nat→S4→S4
 |0,v=>v
 |k+1,v=>Qh (le (xs.drop (8*k)) 8) (Gj xs k v)
def NJ(ys:List UInt8):List UInt8:=ys++a9 (8-aa ys) 0
def LJ(xs:List UInt8):List UInt8:=(NJ (xs.drop (8*(aa xs/8)))).set 7 (ad (aa xs))
def IP(ks xs:List UInt8):UInt64:=
 let v:=Qh (le (LJ xs) 8) (Gj xs (aa xs/8) (Fg ks))
 let v:=KQ 4 {v with c:=v.c ^^^255}
 v.a ^^^v.b ^^^v.c ^^^v.d
def w6(ys:List UInt8)(h:aa ys<8):AE (ys.take (min (aa ys) 7))++([AT,AT,AT,AT,AT,AT,AT,AT]:List Value).drop (min (aa ys) 7*1)=AE (NJ ys):=by
 rw[show min (aa ys) 7=(aa ys) by omega,pq,NJ,GH];congr 1;rw[s6];have:aa ys=0∨aa ys=1∨aa ys=2∨aa ys=3∨aa ys=4∨aa ys=5∨aa ys=6∨aa ys=7:=C0;rcases this with h|h|h|h|h|h|h|h<;>rw[h]<;>rfl
set_option maxHeartbeats 1000000 in
def gG(ks xs:List UInt8)(p:Option Addr)(b o c:Nat)(H:HP)(t:aa ks=16)(C:Sl p b o (aa xs) c)(hr:AZ B H b o xs)(F:aa xs<100000000):
  Fn prog B 207 [.agg (AE ks).toArray,.slice p (aa xs) c] H (λv S=>v=u64 (IP ks xs)∧S=H):=by
 refine mI func207 ?_;refine J2 ?_;refine LG ?_;rintro _ _ ⟨Y,rfl,rfl⟩;refine Bn ?_;have f:Sl (sp (some ⟨Y,0,none⟩) 16 8 1) Y (0+8*1) (aa (ks.drop 8)) (16-8):=by
  rw[show(ks.drop 8).length=16-8 by simp;omega];exact Lz (k:=16) Rc C0 C0
 refine mA 3 6 ?_;refine JT 0 I (Ty (k:=aa ks) I t)<|JT 2 I (Aff (l:=8) (k:=aa (ks.drop 8)) I I C0 C9)<|Au 1 C1 I I (Bd I (Tf _ Y 0 16 ks _ Rc AH C0))<|Hh ?_;refine Au 3 C1 I I (Bd I (Tf _ Y (0+8*1) (16-8) (ks.drop 8) _ f AH C9))<|FZ ?_;refine GU 4 C1 I I HG Fk<|GU 5 C1 I I HG Fk<|BB ?_;refine cZ ?_;rintro _ _ ⟨b7,rfl,rfl⟩;refine HE ?_;refine Bf (α:=Nat×Option Addr×Nat) (λz=>[(1,.slice z.2.1 (aa (xs.drop (8*z.1))) z.2.2),(7,ptr b7 0),(8,.func (.func 223) #[] #[ptr b7 0]),(9,iN (aa xs))]) (λz=>AA b7 0 (s4 (Gj xs z.1 (Fg ks)))*(AA Y 0 (AE ks)*H)) (λz=>8*z.1≤aa xs∧Sl z.2.1 b (o+8*z.1) (aa (xs.drop (8*z.1))) z.2.2) (λz=>aa xs-8*z.1) (0,p,c) ⟨bk _,C⟩
  DJ I ?_
 rintro⟨k,q,G⟩ ⟨m,J⟩;dsimp only at m J⊢;have A:=hr.Add (8*k);have r:aa (xs.drop (8*k))=aa xs-8*k:=C3;refine J5 ?_;refine JL (M0 (j:=8) I I)<|J2 ?_;refine mC (λu=>?_) (λu=>?_)
 ·refine J7 ?_;refine mE I (Tf _ b (o+8*k) G (xs.drop (8*k)) _ J AH C0)<|JR<|Ae wX I<|KW ?_;refine JL (SI (l:=8) (k':=aa (xs.drop (8*(k+1)))) I I C0 C9)<|J2 ?_;have O:=Lz (sz:=1) (l:=8) (h:=aa (xs.drop (8*k))) J C0 J.2;exact BV (k+1,sp q G 8 1,G-8) ⟨C0,by
   rw[show o+8*(k+1)=o+8*k+8*1 by omega,show(xs.drop (8*(k+1))).length=aa (xs.drop (8*k))-8 by simp;omega];exact O⟩ (by show (aa xs)-8*(k+1)<aa xs-8*k;omega) DJ I
 obtain rfl:k=aa xs/8:=C0;have L:aa (xs.drop (8*(aa xs/8)))<8:=C0;refine J7 ?_;refine Ae TI I ?_;rintro _ _ ⟨e,rfl,rfl⟩;refine J4 ?_;refine JL (aX (h:=7) I I C0)<|J1 ?_;refine Ae (yJ (b:=e) (o:=0) (bb:=b) (oo:=o+8*(aa xs/8)) (ys:=xs.drop (8*(aa xs/8))) I Rc I J AH C2) I<|JR<|BH (H':=AC e 0 (NJ (xs.drop (8*(aa xs/8)))) []*(AA b7 0 (s4 (Gj xs (aa xs/8) (Fg ks)))*(AA Y 0 (AE ks)*H))) (by unfold AC;rw[g8,←w6 _ L];rfl) ?_;have s:aa (NJ (xs.drop (8*(aa xs/8))))=8:=by simp only[NJ,a5,s8];omega
 refine J5 ?_;refine JL Oh<|JL (Py (i:=7) I I C0) ?_;refine Bl (Eu I I I C0)<|KW ?_;refine JL (Ty (k:=aa (LJ xs)) I V4)<|mE I (Tf _ e 0 8 (LJ xs) _ ⟨.inr I,V4⟩ (AH:AZ B (AC e 0 (LJ xs) []*_) e 0 (LJ xs)) V4)<|JR<|TE ?_;refine Ae wX I<|JR<|DE ?_;refine JL (Mv (b:=255) I I)<|DE ?_;refine mE I (xZ b7 4 C2 {Qh (le (LJ xs) 8) (Gj xs (aa xs/8) (Fg ks))with c:=(Qh (le (LJ xs) 8) (Gj xs (aa xs/8) (Fg ks))).c ^^^255} _)<|JR<|FM ?_;refine BB ?_;exact mR [4] H I I Dj
end
section
def vM(P:Program)(B:World)(gf:FuncId)(lb:List Value)(enc e:α→Value)(S K G:List α→Prop)(F Z:HP):Prop:=
 ∀(l:Nat) (J f:List α→HP),(∀u x R,K (u++[x])→Yn P B l [enc x,e x] (J u*R) (λv b=>∃g:Bool,v=.bool g∧(g=true→G (u++[x]))∧b=(bif g then J (u++[x])else f (u++[x]))*R))→
  Fn P B gf (.func (.yield l) #[] #[]::lb) (J []*F) (λ_ b=>(∃xs,S xs∧b=J xs*Z)∨∃u,K u∧b=f u*Z)
def XV:Option Nat→Exit
 |some id=>.exit id
 |none=>.ret
def Ix:Option Nat→Code
 |some id=>.exit id
 |none=>.ret
def RT(B:World)(n:Nat)(E:Nat→A8)(H:Nat→HP):Exit→Act→World→Prop
 | .normal,a,w=>∃y,DZ n (E y) a∧a.defers=[]∧Sat B (H y) w
 |_,_,_=>False
instance{B:World}{n:Nat}{E:Nat→A8}{H:Nat→HP}:PQ (RT B n E H):=⟨λ_ _ _ _ _ h=>h,λ_ _ h=>h⟩
def Ox(B:World)(G:Prop)(H:HP)(X:Option Nat→HP):Exit→Act→World→Prop
 | .normal,_,w=>G∧Sat B H w
 | .exit id,_,w=>Sat B (X (some id)) w
 | .ret,_,w=>Sat B (X none) w
 |_,_,_=>False
instance{B:World}{G:Prop}{H:HP}{X:Option Nat→HP}:PQ (Ox B G H X):=⟨λ_ _ _ _ _ h=>h,λ_ _ h=>h⟩
section
variable{P:Program}{B:World}{n:Nat}{E:A8}{D:CW}{H:HP}{Q:Exit→Act→World→Prop}
def UA{E':Nat→A8}{r}{H':Nat→HP}(y)(s:Sub E (E' y))(e:H=H' y):BZ B (RT B n E' H') .normal n E ⟨[],r⟩ H:=λ_ _ O U M=>⟨y,O.sub s,U,e▸M⟩
def Wt{r}{fn:Func}{Post:Value→HP→Prop}{ts:List Nat}{vs}(u:List Nat)(H')(hr:fn.results=(ts.map ResultVar.tmp).toArray)(S:Dw E (ts.map Operand.tmp)=some vs)(J:Post (FH vs) H')(e:H=u.foldr (λd H=>HP.obj d (.deferred (some []))*H) H'):BZ B (Rx P B fn Post) .normal n E ⟨u.map mark,r⟩ H:=by
 intro a w O U M;show If _ _ _ _ _ _ _ _;rw[U];exact W7 u w H' (e▸M) λV L=>K8 (R:=RP B Post) hr O S L λv C=>⟨_,_,I,J,C⟩
def LW{G:Prop}{H'}{X:Option Nat→HP}(g:G)(e:∀w,Sat B H w→Sat B H' w):BZ B (Ox B G H' X) .normal n E D H:=λ_ w _ _ M=>⟨g,e w M⟩
def p_{G:Prop}{H'}{X:Option Nat→HP}(e:∀w,Sat B H w→Sat B (X none) w):BZ B (Ox B G H' X) .ret n E D H:=λa w _ _ M=>e w M
def YR{ps:Array Nat}[hok:Aa P gf](vs:α→List Value)(Ev:α→A8)(S K G:List α→Prop)(J:List α→HP)(f:Option Nat→List α→HP)(F Z)(EA:Nat→α→A8)(A:Nat→α→HP)(hg:ev E g=some (.func (.func gf) #[] lb.toArray))(hv:∀x (a:Act),DZ n E a→DZ n (Ev x) {tmps:=(ps.zip (vs x).toArray).foldl (λt (p,v)=>t.setIfInBounds p v) a.tmps,defers:=[]})(hl:∀x,(vs x).toArray.size=ps.size)(hr:D.r=none)(hH:∀w,Sat B H w→Sat B (J []*F) w)(L:∀(l:Nat) (J f:List α→HP),(∀u x R,K (u++[x])→Yn P B l (vs x) (J u*R) (λv H'=>∃g:Bool,v=.bool g∧(g=true→G (u++[x]))∧H'=(bif g then J (u++[x])else f (u++[x]))*R))→
   Fn P B gf (.func (.yield l) #[] #[]::lb) (J []*F) (λ_ H'=>(∃xs,S xs∧H'=J xs*Z)∨∃u,K u∧H'=f u*Z))(k:∀u x l R,WP P B assign (RT B n (λy=>EA y x) (λy=>A y x*(J u*R))) n (Ev x) ⟨[],some l⟩ (J u*R))(q:∀y u x l R,K (u++[x])→WP P B body (Ox B (G (u++[x])) (J (u++[x])*R) (λid=>f id (u++[x])*R)) n (EA y x) ⟨[],some l⟩ (A y x*(J u*R)))(j:∀d xs,S xs→BZ B Q .normal n E ⟨mark d::D.ds,none⟩ (J xs*(HP.obj d (.deferred (some []))*Z)))(b:∀d u id,K u→BZ B Q (XV id) n E ⟨mark d::D.ds,none⟩ (f id u*(HP.obj d (.deferred (some []))*Z))):
  WP P B (.rangeFunc g ps assign body) Q n E D H:=by
 intro a w0 O h2 M;rw[hr];refine Afp λfn W hW=>?_;have M:=hH _ (M.EU (.pad w0 W));generalize pad w0 W=w at M⊢;let rec_:LoopState→Option Code→Obj:=λs pe=>.loop {state:=s,pending:=pe,fn,tmps:=a.tmps,params:=ps,assign,body,defers:=w.heap.size};let l:=w.heap.size+1;have V:Sat B (HP.obj l (rec_ .ready none)*(HP.obj w.heap.size (.deferred (some []))*(J []*F))) ((w.alloc (.deferred (some []))).alloc (rec_ .ready none)):=by
  have:=(M.eX (.deferred (some [])) C3).eX (rec_ .ready none) NT;rwa[World.Yi]at this
 let J':List α→HP:=λu=>J u*(HP.obj w.heap.size (.deferred (some []))*HP.obj l (rec_ .ready none));let Jx':List α→HP:=λu=>HP.ex λid=>f id u*(HP.obj w.heap.size (.deferred (some []))*HP.obj l (rec_ .done (some (Ix id))));have hY:∀u x R,K (u++[x])→Yn P B l (vs x) (J' u*R) (λv H'=>∃g:Bool,v=.bool g∧(g=true→G (u++[x]))∧H'=(bif g then J' (u++[x])else Jx' (u++[x]))*R):=by
  intro u x R hsp W hW;have C:J' u*R=HP.obj l (rec_ .ready none)*(J u*(HP.obj w.heap.size (.deferred (some []))*R)):=by
   show J u*(_*_)*R=_;ac_rfl
  rw[C]at hW;obtain⟨hW1,_,_⟩:=hW.Lp;refine⟨fn,_,assign,body,run_yield hW1 (hl x),?_⟩;refine Ae9 ?_;have hE:=hv x a O;have e2:HP.obj l (rec_ .ready none)*(J u*(HP.obj w.heap.size (.deferred (some []))*R))=J u*(HP.obj l (rec_ .ready none)*(HP.obj w.heap.size (.deferred (some []))*R)):=C4;refine ER.mono (k u x l (HP.obj l (rec_ .ready none)*(HP.obj w.heap.size (.deferred (some []))*R)) _ W hE I (e2▸hW)) ?_;intro e U w1 N;cases e with
  |normal=>
   obtain⟨y,m,k2,k3⟩:=N;refine⟨I,λW2 _=>?_⟩;have k3:=k3.EU (.pad w1 W2);dsimp only at m k3;rw[show A y x*(J u*(HP.obj l (rec_ .ready none)*(HP.obj w.heap.size (.deferred (some []))*R)))=HP.obj l (rec_ .ready none)*(A y x*(J u*(HP.obj w.heap.size (.deferred (some []))*R))) by ac_rfl]at k3;obtain⟨hb1,_,_⟩:=k3.Lp;refine⟨_,run_beginRound hb1 I,?_⟩;have k4:=k3.NL (y:=rec_ .busy none) NT;have e3:HP.obj l (rec_ .busy none)*(A y x*(J u*(HP.obj w.heap.size (.deferred (some []))*R)))=A y x*(J u*(HP.obj l (rec_ .busy none)*(HP.obj w.heap.size (.deferred (some []))*R))):=C4;rw[e3]at k4;refine ER.mono (q y u x l _ hsp U _ m k2 k4) ?_;intro e a2 Y N;cases e with
   |normal=>
    obtain⟨hG,N⟩:=N;intro W3 _;have i:Sat B (J (u++[x])*(HP.obj l (rec_ .busy none)*(HP.obj w.heap.size (.deferred (some []))*R))) (pad Y W3):=Sat.EU N (.pad Y W3);rw[EM]at i;obtain⟨c,_,_⟩:=i.Lp;refine⟨_,_,run_endRound none c,.bool true,_,I,⟨true,I,λ_=>hG,I⟩,?_⟩;have:=i.NL (y:=rec_ .ready none) NT;show Sat B (J (u++[x])*(_*_)*R) _;have X:J (u++[x])*(HP.obj w.heap.size (.deferred (some []))*HP.obj l (rec_ .ready none))*R=HP.obj l (rec_ .ready none)*(J (u++[x])*(HP.obj w.heap.size (.deferred (some []))*R)):=C4;rw[X];exact this
   |exit o=>
    obtain⟨id,hid⟩:∃id:Option Nat,id=some o:=DF;intro W3 _;have i:Sat B (f (some o) (u++[x])*(HP.obj l (rec_ .busy none)*(HP.obj w.heap.size (.deferred (some []))*R))) (pad Y W3):=Sat.EU N (.pad Y W3);rw[EM]at i;obtain⟨c,_,_⟩:=i.Lp;refine⟨_,_,run_endRound (some (Ix (some o))) c,.bool false,_,I,⟨false,I,λh=>(by cases h),I⟩,?_⟩;have:=i.NL (y:=rec_ .done (some (Ix (some o)))) NT;show Sat B (HP.ex _*R) _;rw[LH];refine Sat.ex.2 ⟨some o,?_⟩;have X:f (some o) (u++[x])*(HP.obj w.heap.size (.deferred (some []))*HP.obj l (rec_ .done (some (Ix (some o)))))*R=HP.obj l (rec_ .done (some (Ix (some o))))*(f (some o) (u++[x])*(HP.obj w.heap.size (.deferred (some []))*R)):=C4;rw[X];exact this
   |ret=>
    intro W3 _;have i:Sat B (f none (u++[x])*(HP.obj l (rec_ .busy none)*(HP.obj w.heap.size (.deferred (some []))*R))) (pad Y W3):=Sat.EU N (.pad Y W3);rw[EM]at i;obtain⟨c,_,_⟩:=i.Lp;refine⟨_,_,run_endRound (some (Ix none)) c,.bool false,_,I,⟨false,I,λh=>(by cases h),I⟩,?_⟩;have:=i.NL (y:=rec_ .done (some (Ix none))) NT;show Sat B (HP.ex _*R) _;rw[LH];refine Sat.ex.2 ⟨none,?_⟩;have X:f none (u++[x])*(HP.obj w.heap.size (.deferred (some []))*HP.obj l (rec_ .done (some (Ix none))))*R=HP.obj l (rec_ .done (some (Ix none)))*(f none (u++[x])*(HP.obj w.heap.size (.deferred (some []))*R)):=C4;rw[X];exact this
   |goto t=>exact N.elim
   |panic ch=>exact N.elim
   |outgrown=>exact N.elim
  |exit id=>exact N.elim
  |goto t=>exact N.elim
  |ret=>exact N.elim
  |panic ch=>exact N.elim
  |outgrown=>exact N.elim
 have hcall:=L l J' Jx' hY _ (by
  have e5:J' []*F=HP.obj l (rec_ .ready none)*(HP.obj w.heap.size (.deferred (some []))*(J []*F)):=by
   show J []*(_*_)*F=_;ac_rfl
  rw[e5];exact V)
 let W1:World:=(w.alloc (.deferred (some []))).alloc (rec_ .ready none);refine⟨l,[mark w.heap.size],W1,gf,(.func (.yield l) #[] #[]::lb).toArray,W1,run_enterLoop_outer _ _ _ _ _,?_,?_,?_⟩
 ·have C:(resolve a.eval {callee:=.value g,args:= #[.const (.func (.yield l) #[] #[])],argTypes:= #[]} 0).run P W1=.ok {target:=.fn (.func gf) lb.toArray,args:= #[.func (.yield l) #[] #[]]} W1:=by
   simp only[resolve,O.ev hg];simp[go_sem]
  simp only[bn,C,b0];have:=hok.get (.func (.yield l) #[] #[]::lb).toArray W1;simpa[invoke]using this
 ·have C:resolve a.eval {callee:=.value g,args:= #[.const (.func (.yield l) #[] #[])],argTypes:= #[]} 0=pure {target:=.fn (.func gf) lb.toArray,args:= #[.func (.yield l) #[] #[]]}:=by
   simp only[resolve,O.ev hg];simp[Deferred.ofValue,Act.eval]
  rw[C,pure_bind];simpa[invoke]using hok.Ez _ _ (.func (.yield l) #[] #[]::lb).toArray W1
 refine IT.mono hcall ?_;rintro e w3 ⟨v,H',rfl,hp3,hs3⟩;intro W4 _;have hs3:=hs3.EU (.pad w3 W4);obtain⟨xs,hS,rfl⟩|⟨u,hS,rfl⟩:=hp3
 ·have e6:J' xs*Z=HP.obj l (rec_ .ready none)*(J xs*(HP.obj w.heap.size (.deferred (some []))*Z)):=by
   show J xs*(_*_)*Z=_;ac_rfl
  rw[e6]at hs3;obtain⟨hb3,_,_⟩:=hs3.Lp;refine⟨_,_,run_endLoop hb3 C3,?_⟩;have:=(hs3.NL (y:=rec_ .exhausted none) NT).right;exact j _ xs hS _ _ O Pz this
 have hs4:Sat B (HP.ex (λid=>f id u*(HP.obj w.heap.size (.deferred (some []))*HP.obj l (rec_ .done (some (Ix id)))))*Z) (pad w3 W4):=hs3;rw[LH]at hs4;obtain⟨id,hs5⟩:=Sat.ex.1 hs4;have e6:f id u*(HP.obj w.heap.size (.deferred (some []))*HP.obj l (rec_ .done (some (Ix id))))*Z=HP.obj l (rec_ .done (some (Ix id)))*(f id u*(HP.obj w.heap.size (.deferred (some []))*Z)):=C4;rw[e6]at hs5;obtain⟨hb3,_,_⟩:=hs5.Lp;refine⟨_,_,run_endLoop hb3 C3,?_⟩;have:=(hs5.NL (y:=rec_ .exhausted (some (Ix id))) NT).right;cases id with
 |none=>exact iJ (b _ u none hS _ _ O Pz this)
 |some id=>exact cX (b _ u (some id) hS _ _ O Pz this)
def iq{p v}[N:Aa P gf](enc e:α→Value)(S K G:List α→Prop)(J:List α→HP)(f:Option Nat→List α→HP)(F Z)(c:Nat→α→A8)(A:Nat→α→HP)(h:ev E g=some (.func (.func gf) #[] lb.toArray))(hp:Nat.blt p n=true)(s:Nat.blt v n=true)(hr:D.r=none)(m:∀w,Sat B H w→Sat B (J []*F) w)(L:vM P B gf lb enc e S K G F Z)(k:∀u x l R,WP P B assign (RT B n (λy=>c y x) (λy=>A y x*(J u*R))) n ((v,e x)::(p,enc x)::E) ⟨[],some l⟩ (J u*R))(q:∀y u x l R,K (u++[x])→WP P B body (Ox B (G (u++[x])) (J (u++[x])*R) (λid=>f id (u++[x])*R)) n (c y x) ⟨[],some l⟩ (A y x*(J u*R)))(j:∀d xs,S xs→BZ B Q .normal n E ⟨mark d::D.ds,none⟩ (J xs*(HP.obj d (.deferred (some []))*Z)))(b:∀d u id,K u→BZ B Q (XV id) n E ⟨mark d::D.ds,none⟩ (f id u*(HP.obj d (.deferred (some []))*Z))):
  WP P B (.rangeFunc g #[p,v] assign body) Q n E D H:=
 YR (λx=>[enc x,e x]) (λx=>(v,e x)::(p,enc x)::E) S K G J f F Z c A h (λx a O=>by
  have X:=(O.put (t:=p) WG (enc x)).put (t:=v) (by simpa using s) (e x);have U:(#[p,v]:Array Nat).zip [enc x,e x].toArray= #[(p,enc x),(v,e x)]:=by simp[Array.zip]
  rw[U];exact X) (λ_=>rfl) hr m L k q j b
def XP{p}[N:Aa P gf](enc:α→Value)(S K G:List α→Prop)(J:List α→HP)(f:Option Nat→List α→HP)(F Z)(c:Nat→α→A8)(A:Nat→α→HP)(e:ev E g=some (.func (.func gf) #[] lb.toArray))(hp:Nat.blt p n=true)(hr:D.r=none)(m:∀w,Sat B H w→Sat B (J []*F) w)(L:PP P B gf lb enc S K G F Z)(k:∀u x l R,WP P B assign (RT B n (λy=>c y x) (λy=>A y x*(J u*R))) n ((p,enc x)::E) ⟨[],some l⟩ (J u*R))(q:∀y u x l R,K (u++[x])→WP P B body (Ox B (G (u++[x])) (J (u++[x])*R) (λid=>f id (u++[x])*R)) n (c y x) ⟨[],some l⟩ (A y x*(J u*R)))(j:∀d xs,S xs→BZ B Q .normal n E ⟨mark d::D.ds,none⟩ (J xs*(HP.obj d (.deferred (some []))*Z)))(b:∀d u id,K u→BZ B Q (XV id) n E ⟨mark d::D.ds,none⟩ (f id u*(HP.obj d (.deferred (some []))*Z))):
  WP P B (.rangeFunc g #[p] assign body) Q n E D H:=
 YR (λx=>[enc x]) (λx=>(p,enc x)::E) S K G J f F Z c A e (λx a O=>by
  have X:=O.put (t:=p) WG (enc x);have U:(#[p]:Array Nat).zip [enc x].toArray= #[(p,enc x)]:=by simp[Array.zip]
  rw[U];exact X) (λ_=>rfl) hr m L k q j b
def ji{p}[N:Aa P gf](enc:α→Value)(S K G:List α→Prop)(J:List α→HP)(f:Nat→List α→HP)(F Z)(c:α→A8)(i:ev E g=some (.func (.func gf) #[] lb.toArray))(hp:Nat.blt p n=true)(hr:D.r=none)(m:∀w,Sat B H w→Sat B (J []*F) w)(L:PP P B gf lb enc S K G F Z)(k:∀u x l R,WP P B assign (ZR B n (c x) (J u*R)) n ((p,enc x)::E) ⟨[],some l⟩ (J u*R))(q:∀u x l R,K (u++[x])→WP P B body (TC B (G (u++[x])) (J (u++[x])*R) (λid=>f id (u++[x])*R)) n (c x) ⟨[],some l⟩ (J u*R))(j:∀d xs,S xs→BZ B Q .normal n E ⟨mark d::D.ds,none⟩ (J xs*(HP.obj d (.deferred (some []))*Z)))(b:∀d u id,K u→BZ B Q (.exit id) n E ⟨mark d::D.ds,none⟩ (f id u*(HP.obj d (.deferred (some []))*Z))):
  WP P B (.rangeFunc g #[p] assign body) Q n E D H:=
 YR (λx=>[enc x]) (λx=>(p,enc x)::E) S K G J (λo u=>match o with|some id=>f id u|none=>HP.ex λ_:Empty=>Bs) F Z (λ_=>c) (λ_ _=>Bs) i (λx a O=>by
  have X:=O.put (t:=p) WG (enc x);have s:(#[p]:Array Nat).zip [enc x].toArray= #[(p,enc x)]:=by simp[Array.zip]
  rw[s];exact X) (λ_=>rfl) hr m L (λu x l R a w O U M=>(k u x l R a w O U M).mono λe a w h=>by
   cases e<;>first|exact⟨0,h.1,h.2.1,by rw[BS];exact h.2.2⟩|exact h.elim) (λy u x l R C a w O U M=>(q u x l R C a w O U (by rw[BS]at M;exact M)).mono λe a w h=>by
   cases e<;>first|exact h|exact h.elim) j λd u id C=>by
   cases id with
   |some id=>exact b d u id C
   |none=>intro a w O U M;rw[LH]at M;obtain⟨x,_⟩:=Sat.ex.1 M;exact x.elim
end
end
section
variable{B:World}
def CS(n:UInt64):List UInt8:=[(n>>> 56).toUInt8,(n>>> 48).toUInt8,(n>>> 40).toUInt8,(n>>> 32).toUInt8,(n>>> 24).toUInt8,(n>>> 16).toUInt8,(n>>> 8).toUInt8,n.toUInt8]
def ZX(n:UInt64)(p:Option Addr)(b o c:Nat)(xs:List UInt8)(s:List Value)(R:HP)(C:Sl p b o (aa xs) c)(e:aa xs*1+aa s=c*1)(F:aa xs<100000000):
  Fn prog B 172 [.slice p (aa xs) c,u64 n] (AC b o xs s*R) (λv S=>DI R (xs++CS n) v S):=by
 refine mI func172 ?_;refine J9 ?_;refine JL (Kr (j:=56) I I C0)<|BE ?_;refine JL (Kr (j:=48) I I C0)<|BE ?_;refine JL (Kr (j:=40) I I C0)<|BE ?_;refine JL (Kr (j:=32) I I C0)<|BE ?_;refine JL (Kr (j:=24) I I C0)<|BE ?_;refine JL (Kr (j:=16) I I C0)<|BE ?_;refine JL (Kr (j:=8) I I C0)<|A5 ?_;refine Ga ?_;rintro _ _ ⟨h,rfl,rfl⟩;refine BH (H':=AC b o xs s*(AA h 0 (AE (CS n))*R)) Cn<|Ae (CA (ys:=CS n) (bb:=h) (oo:=0) I C e I Bz AH I SE C0) I ?_;rintro _ _ ⟨q,V,A,G,K,rfl,O,U,rfl⟩;refine J4 ?_;exact mR [4] (AC V A (xs++CS n) K*R) I I ⟨q,V,A,G,K,I,O,U,I⟩
def Ux(n:UInt64)(R):Fn prog B 172 [.slice none 0 0,u64 n] R (λv S=>DI R (CS n) v S):=by
 have h:=ZX (B:=B) n none 0 0 0 [] [] R E7 I C3;rw[GY,BS]at h;exact h
def Bb(first:Bool):UInt8:=bif first then 0 else 1
def II{ks:List UInt8}(Z:aa ks=16):aa (AE ks)=16:=by rw[CV,Z];rfl
def lJ(ks:List UInt8)(hk:aa ks=16)(first:Bool)(H:HP):
  Fn prog B 75 [.agg (AE ks).toArray,.bool first] H (λv S=>v=.agg (AE ks++[u8 (Bb first)]).toArray∧S=H):=by
 refine mI func75 ?_;refine J2 ?_;refine LG ?_;rintro _ _ ⟨Y,rfl,rfl⟩;refine Ae (GS (l:=[_,_,_,_,_,_,_,_,_,_,_,_,_,_,_,_,_]) I) I ?_;rintro _ _ ⟨J,rfl,rfl⟩;refine J8 ?_;refine mc (λb=>?_) (λb=>?_)
 ·subst b;refine J2 ?_;refine JL OF<|JL (Th (cs:=AE ks++[u8 0]) I (KF [] (a9 16 (u8 0)) [u8 0] (AE ks) PY I PY I Tm))<|Bl (Ek I I nZ eF)<|JJ ?_;exact oQ
 subst b;refine J4 ?_;refine JL OF<|JL (Th (cs:=AE ks++[u8 1]) I (KF [] (a9 16 (u8 0)) [u8 0] (AE ks) PY I PY I (KF (AE ks) [u8 0] [] [u8 1] PY C3 I I (by simp only[g8];exact Tm))))<|Bl (Ek I I nZ eF)<|Hb ?_;exact oQ
def Ag9(ks:List UInt8)(side:UInt8)(number:UInt64)(H:HP):
  Fn prog B 206 [.agg (AE ks++[u8 side]).toArray,u64 number] H (λv S=>∃Y K,v=.func (.func 221) #[] #[ptr Y 0,ptr K 0]∧S=AA K 0 [u64 number]*(AA Y 0 (AE ks++[u8 side])*H)):=by
 refine mI func206 ?_;refine Pe ?_;rintro _ _ ⟨Y,rfl,rfl⟩;refine Ae (EB (l:=[u64 number]) I I) I ?_;rintro _ _ ⟨K,rfl,rfl⟩;refine CY ?_;exact mr [4] I I ⟨Y,K,I,I⟩
def GW(e kind:UInt8)(n:UInt64):List UInt8:=[e,kind]++CS n
def ND(ks:List UInt8)(e:UInt8)(n:UInt64)(k:Nat):List UInt8:=CS (IP ks (GW e 1 n++[ad k]))
def RU(ks:List UInt8)(e:UInt8)(n:UInt64)(i:Nat):UInt8:=(ND ks e n (i/8)).getD (i%8) 0
def Dm(ks:List UInt8)(e:UInt8)(n:UInt64)(m:Nat):List UInt8:=(hO m).map (RU ks e n)
def lx(ks:List UInt8)(e:UInt8)(n:UInt64)(k j)(h:j<8):RU ks e n (8*k+j)=(ND ks e n k).getD j 0:=by
 rw[RU,show(8*k+j)/8=k by omega,show(8*k+j)%8=j by omega]
def LE(ks:List UInt8)(e:UInt8)(n:UInt64)(m):aa (Dm ks e n m)=m:=by simp[Dm]
def vD(ks:List UInt8)(e:UInt8)(n:UInt64)(m):Dm ks e n m++[RU ks e n m]=Dm ks e n (m+1):=by simp[Dm,List.range_succ]
def Xz(n:UInt64):aa (CS n)=8:=rfl
set_option maxHeartbeats 1000000 in
def Aa2(ks:List UInt8)(hk:aa ks=16)(e:UInt8)(number:UInt64)(N:Nat)(C:0<N∧N<100000000)(Y K:Nat)(R:HP):
  PP prog B 221 [ptr Y 0,ptr K 0] u8 (λ_=>False) (λu=>u=Dm ks e number (aa u)∧aa u≤N) (λu=>aa u<N)
   (AA Y 0 (AE ks)*(AA Y (0+16) [u8 e]*(AA K 0 [u64 number]*R))) (AA Y 0 (AE ks)*(AA Y (0+16) [u8 e]*(AA K 0 [u64 number]*R))):=by
 intro l J f hy;refine mI func221 ?_;refine DE ?_;refine Bf (λk:Nat=>[(0,.func (.yield l) #[] #[]),(1,ptr Y 0),(2,ptr K 0),(4,iN k)]) (λk=>J (Dm ks e number (8*k))*(AA Y 0 (AE ks)*(AA Y (0+16) [u8 e]*(AA K 0 [u64 number]*R)))) (λk=>8*k<N) (λk=>N-8*k) 0 C0
  DJ I ?_
 intro k hkN;refine J6 ?_;refine Ae It I ?_;rintro _ _ ⟨r,rfl,rfl⟩;refine BH (H':=AC r 0 [e,1] []*(J (Dm ks e number (8*k))*(AA Y 0 (AE ks)*(AA Y (0+16) [u8 e]*(AA K 0 [u64 number]*R))))) I<|J1 ?_;refine mE I (ZX number (some ⟨r,0,none⟩) r 0 2 [e,1] [] _ Bz I C3) ?_;rintro _ _ ⟨p14,M,F,c14,s14,rfl,hs14,c,rfl⟩;refine J1 ?_;refine JL Oh<|Ae It I ?_;rintro _ _ ⟨b17,rfl,rfl⟩;refine BH (H':=AC M F ([e,1]++CS number) s14*(AA b17 0 (AE [ad k])*(J (Dm ks e number (8*k))*(AA Y 0 (AE ks)*(AA Y (0+16) [u8 e]*(AA K 0 [u64 number]*R)))))) Cn<|Ae (CA (ys:=[ad k]) (bb:=b17) (oo:=0) I hs14 c I Bz AH I Tz C0) I ?_;rintro _ _ ⟨m,G,V,t,s18,rfl,O,U,rfl⟩;refine J6 ?_;refine JL rI<|J1 ?_;refine mE I (gG ks ([e,1]++CS number++[ad k]) m G V t _ hk O AH Tz)<|JR<|mE I (Ux _ _) ?_;rintro _ _ ⟨s,h,A,L,X,rfl,hs23,hc23,rfl⟩;refine J1 ?_;refine Bn ?_;refine I4 (AC h A (CS (IP ks ([e,1]++CS number++[ad k]))) X*(J (Dm ks e number (8*k))*(AA Y 0 (AE ks)*(AA Y (0+16) [u8 e]*(AA K 0 [u64 number]*R)))))<|Bf (λj:Nat=>[(0,.func (.yield l) #[] #[]),(1,ptr Y 0),(2,ptr K 0),(4,iN k),(23,.slice s 8 L),(24,iN 8),(25,iN j)]) (λj=>J (Dm ks e number (8*k+j))*(AC h A (ND ks e number k) X*(AA Y 0 (AE ks)*(AA Y (0+16) [u8 e]*(AA K 0 [u64 number]*R))))) (λj=>j≤8∧8*k+j<N) (λj=>8-j) 0 C0
  Od (EM _ _ _) ?_
 intro j hj;refine J6 ?_;refine mC (λhc=>?_) (λhc=>?_)
 ·refine J6 ?_;refine JL (CJ I I (b:=h) (o:=A) hs23 (by show j<8;omega))<|JL (Hp I (by show j<8;omega))<|J7 ?_;have hsp:Dm ks e number (8*k+j)++[(ND ks e number k).getD j 0]=Dm ks e number (8*k+(j+1)):=by rw[←lx ks e number k j hc,vD];rfl
  refine Po (WR I I (hy (Dm ks e number (8*k+j)) ((ND ks e number k).getD j 0) _ kQ)) I ?_;rintro _ _ ⟨g,rfl,S,rfl⟩;refine A5 ?_;refine mc (λhc=>?_) (λhc=>?_)
  ·skip;obtain rfl:g=false:=by simpa using hc
   refine J9 ?_;exact GE (H':=f (Dm ks e number (8*k+j)++[(ND ks e number k).getD j 0])*(AC h A (ND ks e number k) X*(AA Y 0 (AE ks)*(AA Y (0+16) [u8 e]*(AA K 0 [u64 number]*R))))) I<|mR [] (f (Dm ks e number (8*k+j)++[(ND ks e number k).getD j 0])*(AA Y 0 (AE ks)*(AA Y (0+16) [u8 e]*(AA K 0 [u64 number]*R)))) I I (.inr ⟨_,kQ,I⟩)
  obtain rfl:g=true:=by simpa using hc
  refine Bt ?_;exact BV (j+1) ⟨C0,by have:=S I;rw[hsp,LE]at this;omega⟩ C0 Od (by show J _*_=J _*_;rw[hsp])
 obtain rfl:j=8:=C0;refine CK ?_;exact Bg (J (Dm ks e number (8*k+8))*(AA Y 0 (AE ks)*(AA Y (0+16) [u8 e]*(AA K 0 [u64 number]*R))))<|BV (k+1) C0 C0 DJ I
def DH(xs u:List UInt8):List UInt8:=List.zipWith (·^^^ ·) xs u
def EF(ks:List UInt8)(e:UInt8)(n:UInt64)(xs:List UInt8):List UInt8:=DH xs (Dm ks e n (aa xs))
def L9(xs u:List UInt8)(h:aa u≤aa xs):aa (DH xs u)=aa u:=by simp[DH];omega
def dP(xs u:List UInt8)(m:UInt8)(h:aa u<aa xs):DH xs (u++[m])=DH xs u++[xs.getD (aa u) 0 ^^^m]:=by
 have e:xs=xs.take (aa u)++(xs.getD (aa u) 0::xs.drop (aa u+1)):=by
  rw[ek,c8 h,Option.getD_some,List.getElem_cons_drop,px]
 have M:DH xs u=DH (xs.take (aa u)) u:=by
  rw[DH,DH]
  conv=>lhs;rw[←px (aa u) xs]
  rw[show u=u++[] by simp,Amy C9];simp
 rw[M]
 conv=>lhs;rw[e]
 rw[DH,DH,Amy C9];simp
def Aah(xs u:List UInt8)(m:UInt8)(h:aa u<aa xs):DH xs (u++[m])=DH xs u++[xs.getD (aa (DH xs u)) 0 ^^^m]:=by
 rw[dP xs u m h,L9 xs u C0]
abbrev KE:=Option Addr×Nat×Nat×Nat×List Value
def KE.ok(z:KE)(k:Nat):Prop:=Sl z.1 z.2.1 z.2.2.1 k z.2.2.2.1∧k*1+aa z.2.2.2.2=z.2.2.2.1*1
abbrev KE.at(z:KE)(s:Nat)(xs:List UInt8)(R:HP):HP:=AA s 0 [.slice z.1 (aa xs) z.2.2.2.1]*(AC z.2.1 z.2.2.1 xs z.2.2.2.2*R)
set_option maxHeartbeats 1000000 in
def Z'(ks:List UInt8)(hk:aa ks=16)(side:UInt8)(number:UInt64)(xs:List UInt8)(p b o c H)(hs:Sl p b o (aa xs) c)(hr:AZ B H b o xs)(F:aa xs<100000000):
  Fn prog B 170 [.agg (AE ks++[u8 side]).toArray,u64 number,.slice p (aa xs) c] H (λv S=>DI H (EF ks side number xs) v S):=by
 refine Ts func170 I I I<|Pe ?_;rintro _ _ ⟨K,rfl,rfl⟩;refine Nf ?_;rintro _ _ ⟨b5,rfl,rfl⟩;refine J7 ?_;refine Ae (ln (α:=UInt8) I I ⟨C0,C0⟩) I ?_;rintro _ _ ⟨M,N,f,U,r,rfl,h,C,rfl⟩;refine Ra ?_;rintro _ _ ⟨b7,rfl,rfl⟩;refine CK ?_;refine mC (λhc=>?_) (λhc=>?_)
 ·obtain rfl:xs=[]:=hU.1 hc;refine J8 ?_;exact Bg (AC N f ([]:List UInt8) r*H)<|Sn (ts:=[6]) [] _ I I ⟨M,N,f,U,r,I,h,C,I⟩ I
 refine J5 ?_;refine JL QD<|J1 ?_;refine mE I (Ag9 ks side number _) ?_;rintro _ _ ⟨u,t,rfl,rfl⟩;refine J3 ?_;refine ji (α:=UInt8) u8 (λ_=>False) (λpre=>pre=Dm ks side number (aa pre)∧aa pre≤aa xs) (λpre=>aa pre<aa xs) (λpre=>HP.ex λz:KE=>HP.pr (z.ok (aa (DH xs pre)))*z.at b7 (DH xs pre) (AA b5 0 [.slice p (aa xs) c]*H)) (λid pre=>HP.ex λz:KE=>HP.pr (id=0∧aa pre=aa xs∧z.ok (aa (DH xs pre)))*z.at b7 (DH xs pre) (AA b5 0 [.slice p (aa xs) c]*H)) (AA u 0 (AE ks)*(AA u (0+16) [u8 side]*(AA t 0 [u64 number]*AA K 0 (AE ks++[u8 side])))) (AA u 0 (AE ks)*(AA u (0+16) [u8 side]*(AA t 0 [u64 number]*AA K 0 (AE ks++[u8 side])))) (λx=>[(8,u8 x),(7,ptr b7 0),(5,ptr b5 0)]) I I I ?_ (Aa2 ks hk side number (aa xs) ⟨C0,F⟩ u t _) ?_ ?_ ?_ ?_
 ·have J:DH xs []=[]:=by simp[DH]
  refine KP (M,N,f,U,r) (by rw[J];exact⟨h,C⟩) ?_;rw[HF u 0 (AE ks) [u8 side],II hk];rw[J];show _=AA b7 0 [.slice M (aa ([]:List UInt8)) U]*(AC N f [] r*(AA b5 0 [.slice p (aa xs) c]*H))*_;ac_rfl
 ·intro pre x l R;refine J3 ?_;exact Ag5 DW I
 ·intro pre x l R A;refine OL ?_;rintro⟨q,G,Y,X,sq⟩ ⟨O,m⟩;dsimp only[KE.at]at O m⊢;obtain⟨hp1,s⟩:=A;rw[a5,mz]at s;have hxl:=L9 xs pre C0;have hrr:AZ B (AA b7 0 [.slice q (aa (DH xs pre)) X]*(AC G Y (DH xs pre) sq*(AA b5 0 [.slice p (aa xs) c]*H))*R) b o xs:=AH;have ir:=PF hrr;have hsn:=Aah xs pre x C0;refine J2 ?_;refine mA 9 11 ?_;refine P9 ?_;refine JT 4 I m7<|JT 5 I Sj<|FJ ?_;refine JT 7 I (eZ I I)<|Au 8 C1 I I It ?_;rintro _ _ ⟨e,rfl,rfl⟩;refine⟨.inr AH,?_⟩;refine F9 (H':=AC G Y (DH xs pre) sq*(AA e 0 (AE [xs.getD (aa (DH xs pre)) 0 ^^^x])*(AA b7 0 [.slice q (aa (DH xs pre)) X]*(AA b5 0 [.slice p (aa xs) c]*H)*R))) (by show AA e 0 _*_=_;ac_rfl)<|Au 9 C1 I I (CA (ys:=[xs.getD (aa (DH xs pre)) 0 ^^^x]) (bb:=e) (oo:=0) I O m I Bz AH I C9 C0) ?_;rintro _ _ ⟨q2,b2,o2,c2,s2,rfl,h2,h3,rfl⟩;refine⟨.inl C2,?_⟩;refine GO 10 C1 I Lc<|FZ ?_;refine CK ?_;refine mC (λhc=>?_) (λhc=>?_)
  ·refine J2 ?_;refine fL ?_;exact Af7 (KP (q2,b2,o2,c2,s2) ⟨I,fB,by rw[hsn];exact h2,by rw[hsn];exact h3⟩ dS)
  refine J2 ?_;refine fL ?_;exact xy fB (KP (q2,b2,o2,c2,s2) ⟨by rw[hsn];exact h2,by rw[hsn];exact h3⟩ dS)
 ·intro d xs hS;exact hS.elim
 intro d pre id hS;refine UD ?_;rintro⟨q,G,Y,X,sq⟩ ⟨rfl,L,O,m⟩;dsimp only[KE.at]at O m⊢;have V:DH xs pre=EF ks side number xs:=by rw[EF,←L,←hS.1]
 rw[V]at O m⊢;refine J9 ?_;exact Bg (AC G Y (EF ks side number xs) sq*(H*HP.obj d (.deferred (some []))))<|GE (H':=HP.obj d (.deferred (some []))*(AC G Y (EF ks side number xs) sq*H)) C4<|Sn (ts:=[6]) [d] _ I I ⟨q,G,Y,X,sq,I,O,m,I⟩ I
def Ij(ks:List UInt8)(e:UInt8)(n:UInt64)(xs:List UInt8):List UInt8:=CS (IP ks (GW e 2 n++xs))
def oE(ks:List UInt8)(e:UInt8)(n:UInt64)(xs:List UInt8):aa (Ij ks e n xs)=8:=rfl
set_option maxHeartbeats 1000000 in
def fT(ks:List UInt8)(hk:aa ks=16)(side:UInt8)(number:UInt64)(xs:List UInt8)(p:Option Addr)(b o c:Nat)(H:HP)(hs:Sl p b o (aa xs) c)(hr:AZ B H b o xs)(F:aa xs<90000000):
  Fn prog B 171 [.agg (AE ks++[u8 side]).toArray,u64 number,.slice p (aa xs) c] H (λv S=>v=.agg (AE (Ij ks side number xs)).toArray∧S=H):=by
 refine mI func171 ?_;refine Pe ?_;rintro _ _ ⟨K,rfl,rfl⟩;refine BH (H':=AA K 0 (AE ks)*(AA K (0+16) [u8 side]*H)) (by rw[HF,II hk,HP.assoc])<|Ae TI I ?_;rintro _ _ ⟨r,rfl,rfl⟩;refine J4 ?_;refine Ae TI I ?_;rintro _ _ ⟨s,rfl,rfl⟩;refine J3 ?_;refine A3 (H':=AA s 0 [u8 0,u8 0,u8 0,u8 0,u8 0,u8 0,u8 0,u8 0]*(AA r 0 [u8 0,u8 0,u8 0,u8 0,u8 0,u8 0,u8 0,u8 0]*(AA K 0 (AE ks)*(AA K (0+16) [u8 side]*H)))) I ?_;have X:AZ B (AA s 0 [u8 0,u8 0,u8 0,u8 0,u8 0,u8 0,u8 0,u8 0]*(AA r 0 [u8 0,u8 0,u8 0,u8 0,u8 0,u8 0,u8 0,u8 0]*(AA K 0 (AE ks)*(AA K (0+16) [u8 side]*H)))) b o xs:=AH;refine mA 12 13 ?_;refine JT 0 I (Ty (k:=8) I I)<|A4 ?_;refine JT 2 I rI<|BE ?_;refine Jm 6 ?_;refine Jm 8 ?_;refine Au 5 C1 I I It ?_;rintro _ _ ⟨Y,rfl,rfl⟩;refine BT ?_;refine F9 (H':=AC Y 0 [side,2] []*(AA s 0 [u8 0,u8 0,u8 0,u8 0,u8 0,u8 0,u8 0,u8 0]*(AA r 0 [u8 0,u8 0,u8 0,u8 0,u8 0,u8 0,u8 0,u8 0]*(AA K 0 (AE ks)*(AA K (0+16) [u8 side]*H))))) I<|Au 7 C1 I I (Bd I (ZX number (some ⟨Y,0,none⟩) Y 0 2 [side,2] [] _ Bz I C3)) ?_;rintro _ _ ⟨M,N,U,c15,s15,rfl,hs15,hc15,rfl⟩;refine BT ?_;refine Au 9 C1 I I zP ?_;rintro _ _ ⟨u,R,f,A,C,rfl,h,J,rfl⟩;refine BT ?_;refine Au 10 C1 I I (Bd I (gG ks ([side,2]++CS number++xs) u R f A _ hk h AH SE))<|Hh ?_;refine Au 11 C1 I I (Bd I (Ux _ _)) ?_;rintro _ _ ⟨V,G,e,m,L,rfl,t,O,rfl⟩;refine BT ?_;refine F9 (H':=AA s 0 [u8 0,u8 0,u8 0,u8 0,u8 0,u8 0,u8 0,u8 0]*(AC G e (Ij ks side number xs) L*(AC R f ([side,2]++CS number++xs) C*(AA r 0 [u8 0,u8 0,u8 0,u8 0,u8 0,u8 0,u8 0,u8 0]*(AA K 0 (AE ks)*(AA K (0+16) [u8 side]*H)))))) (by show AC G e (Ij ks side number xs) L*_=_;ac_rfl)<|Au 12 C1 I I (yJ (b:=s) (o:=0) (bb:=G) (oo:=e) (ys:=Ij ks side number xs) I Bz I t AH C2)<|FZ ?_;refine Bn ?_;refine JL (Et (l:=AE (Ij ks side number xs)) I I)<|Bl (Ek I I Ca (Lr _))<|Hb ?_;exact Wo
def rA(ks:List UInt8)(e:UInt8)(n:UInt64)(xs:List UInt8):aa (EF ks e n xs)=aa xs:=by
 rw[EF,L9 _ _ nM,LE]
def E5(ks:List UInt8)(e:UInt8)(n:UInt64)(xs:List UInt8):List UInt8:=CS n++EF ks e n xs++Ij ks e n (EF ks e n xs)
def gQ(ks:List UInt8)(hk:aa ks=16)(side:UInt8)(number:UInt64)(xs:List UInt8)(p b o c H)(C:Sl p b o (aa xs) c)(hr:AZ B H b o xs)(F:aa xs<90000000):
  Fn prog B 141 [.agg (AE ks++[u8 side]).toArray,u64 number,.slice p (aa xs) c] H (λv S=>DI H (E5 ks side number xs) v S):=by
 refine mI func141 ?_;have hml:=rA ks side number xs;refine Pe ?_;rintro _ _ ⟨K,rfl,rfl⟩;refine J5 ?_;refine JL QD<|J2 ?_;refine mE I (Z' ks hk side number xs p b o c _ C AH C0) ?_;rintro _ _ ⟨p12,r,A,c12,s12,rfl,e,h,rfl⟩;refine J5 ?_;refine JL QD<|J2 ?_;refine mE I (fT ks hk side number (EF ks side number xs) p12 r A c12 _ e AH C0)<|JR<|Ae TI I ?_;rintro _ _ ⟨b8,rfl,rfl⟩;refine Bl (Ek I I Ca (Lr _))<|Hb ?_;refine mA 5 7 ?_;refine A4 ?_;refine Jm 2 ?_;refine JT 4 I (Ty (k:=8) I I)<|Au 1 C1 I I (Bd I (Ux _ _)) ?_;rintro _ _ ⟨m,G,V,t,N,rfl,O,U,rfl⟩;refine BT ?_;refine Au 3 C1 I I (CA (ys:=EF ks side number xs) (bb:=r) (oo:=A) I O U I e AH I WK C0) ?_;rintro _ _ ⟨p20,f,o20,c20,u,rfl,Y,s,rfl⟩;refine BT ?_;refine Au 5 C1 I I (CA (ys:=Ij ks side number (EF ks side number xs)) (bb:=b8) (oo:=0) I Y s I Bz AH I (by rw[a5,Xz,oE];omega) C0) ?_;rintro _ _ ⟨p22,L,J,c22,M,rfl,R,X,rfl⟩;refine FF ?_;refine GU 6 C1 I I HG Fk ?_;refine A5 ?_;exact mR [6] (AC L J (CS number++EF ks side number xs++Ij ks side number (EF ks side number xs)) M*H) I I ⟨p22,L,J,c22,M,I,R,X,I⟩
def be(xs:List UInt8):Nat→UInt64
 |0=>0
 |i+1=>(be xs i<<< 8)|||(xs.getD i 0).toUInt64
def FO(xs:List UInt8):List UInt8:=(xs.take (aa xs-8)).drop 8
def B6(ks:List UInt8)(e:UInt8)(xs:List UInt8):Option (UInt64×List UInt8):=
 if (aa xs)<16∨300<(aa xs) then none
 else if 4611686018427387903<(be xs 8).toNat∨Ij ks e (be xs 8) (FO xs)≠xs.drop (aa xs-8)then none
 else some (be xs 8,EF ks e (be xs 8) (FO xs))
set_option maxHeartbeats 1000000 in
def dD(ks:List UInt8)(hk:aa ks=16)(side:UInt8)(xs:List UInt8)(p:Option Addr)(b o c:Nat)(H:HP)(hs:Sl p b o (aa xs) c)(hr:AZ B H b o xs)(F:aa xs<90000000):
  Fn prog B 142 [.agg (AE ks++[u8 side]).toArray,.slice p (aa xs) c] H (λv H'=>match B6 ks side xs with
   |none=>v=.tuple #[u64 0,.slice none 0 0,.bool false]∧H'=H
   |some (n,t)=>∃M,v=.tuple #[u64 n,M,.bool true]∧DI H t M H'):=by
 refine mI func142 ?_;refine Pe ?_;rintro _ _ ⟨Y,rfl,rfl⟩;refine BQ ?_;refine JL (MT (i:=(aa xs:Int)) (j:=8) I I C0)<|J7 ?_;refine JL (Jr (j:=8) I I)<|J1 ?_;refine DU 15 I (λK=>?_) (λK=>?_)
 ·refine E6 ?_;exact mR [4,5,6] H I I bL
 refine BB ?_;refine JL (Ih (j:=300) I I)<|A5 ?_;refine mC (λX=>?_) (λX=>?_)
 ·refine BQ ?_;exact mR [4,5,6] H I I bL
 have U:((aa xs:Int)-8)=((aa xs-8:Nat):Int):=C0;rw[U];have u:16≤aa xs:=C0;have L:aa xs≤300:=C0;have hbl:aa (FO xs)=aa xs-16:=by simp[FO];omega
 have S:¬(aa xs<16∨300<aa xs):=C0;have r:=PF (B:=B) hr;have e:Sl (sp p c 8 1) b (o+8*1) (aa (FO xs)) (c-8):=by
  exact oU
 have R:AZ B H b (o+8*1) (FO xs):=hr.sub 8 (aa xs-8) C0;have m:Sl (sp p c (aa xs-8) 1) b (o+(aa xs-8)*1) (aa (xs.drop (aa xs-8))) (c-(aa xs-8)):=by
  exact dU
 have V:AZ B H b (o+(aa xs-8)*1) (xs.drop (aa xs-8)):=hr.L8 (aa xs-8);have f:aa (xs.drop (aa xs-8))=8:=So;refine J6 ?_;refine JL (Uo (h:=8) I I C8)<|BB ?_;refine Bf (λj:Nat=>[(1,.slice p (aa xs) c),(2,ptr Y 0),(7,iN (aa xs-8)),(21,.slice p 8 c),(22,iN 8),(23,iN j),(4,u64 (be xs j))]) (λ_=>AA Y 0 (AE ks++[u8 side])*H) (λj=>j≤8) (λj=>8-j) 0 Du
  Od I ?_
 intro j hj;refine J6 ?_;refine mC (λX=>?_) (λX=>?_)
 ·refine J6 ?_;refine JL (CJ I I (b:=b) (o:=o) ⟨hs.1,C8⟩ C0)<|JL Sj<|J5 ?_;refine JL (XB (j:=8) I I C0)<|J1 ?_;refine JL (TB I)<|JL (Ye I I)<|Be ?_;exact BV (j+1) C0 C0 Od I
 obtain rfl:j=8:=C0;refine J7 ?_;refine mA 16 16 ?_;refine A4 ?_;refine JT 1 I qZ<|A4 ?_;refine D4 35 I (λhg2=>?_) (λhg2=>?_)
 ·refine BB ?_;refine JN 9 I T2<|Bn ?_;refine JN 8 I T2<|JN 14 I T2<|FC ?_;exact mR [4,5,6] H I I (by rw[show B6 ks side xs=none from by rw[B6,AF S,AJ (.inl hg2)]];exact Dj)
 refine JY 3 I F2 QD<|A5 ?_;refine JY 7 I F2 Xj<|JY 9 I F2 (NB I)<|A4 ?_;refine JY 11 I F2 mL<|JY 12 I F2 (G? I m C0 C0)<|JY 13 I F2 (xH (xs:=xs.drop (aa xs-8)) (o:=o+(aa xs-8)*1) I AH (by rw[f];rfl))<|S3 8 C1 I I I I F2 (Bd I (fT ks hk side (be xs 8) (FO xs) (sp p c 8 1) b (o+8*1) (c-8) _ e AH C0))<|Hh ?_;refine JY 14 I F2 (Ad0 (xs:=Ij ks side (be xs 8) (FO xs)) (ys:=xs.drop (aa xs-8)) C1 I I I f)<|A5 ?_;refine mC (λX=>?_) (λX=>?_)
 ·refine BQ ?_;exact mR [4,5,6] H I I (by rw[show B6 ks side xs=none from by rw[B6,AF S,AJ (.inr X)]];exact Dj)
 refine J3 ?_;refine mA 10 10 ?_;refine A4 ?_;refine JT 1 I QD<|A5 ?_;refine JT 5 I Xj<|Au 6 C1 I I (Bd I (Z' ks hk side (be xs 8) (FO xs) (sp p c 8 1) b (o+8*1) (c-8) _ e AH C0)) ?_;rintro _ _ ⟨N,s,A,O,C,rfl,G,J,rfl⟩;refine BT ?_;refine DE ?_;exact mR [4,5,6] (AC s A (EF ks side (be xs 8) (FO xs)) C*H) I I (by rw[show B6 ks side xs=some (be xs 8,EF ks side (be xs 8) (FO xs)) by rw[B6,AF S,AF (λh=>h.elim hg2 X)]];exact⟨_,I,N,s,A,O,C,I,G,J,I⟩)
end
structure Ba where
 l:List AS
 floor:Nat
 AQ:Nat
def Bo(lo hi:Nat):List AS→List AS
 |[]=>[⟨lo,hi⟩]
 |r::u=>if r.hi+1<lo then r::Bo lo hi u else if hi+1<r.lo then⟨lo,hi⟩::r::u else Bo (min lo r.lo) (max hi r.hi) u
def Ba.add(s:Ba)(lo hi:Nat):Ba:=
 if hi<max lo s.floor then s
 else if s.AQ<(aa (Bo (max lo s.floor) hi s.l)) then⟨(Bo (max lo s.floor) hi s.l).tail,((Bo (max lo s.floor) hi s.l).headD ⟨0,0⟩).hi+1,s.AQ⟩
 else⟨Bo (max lo s.floor) hi s.l,s.floor,s.AQ⟩
def BD(n:Nat)(l:List AS):Prop:=∃r∈l,r.lo≤n∧n≤r.hi
instance(n:Nat)(l:List AS):Decidable (BD n l):=by unfold BD;exact AH
def Ba.has(s:Ba)(n:Nat):Prop:=n<s.floor∨BD n s.l
instance(s:Ba)(n:Nat):Decidable (s.has n):=by unfold Ba.has;exact AH
def AW(lo hi:Nat):List AS→Nat×Nat
 |[]=>(lo,hi)
 |r::u=>if r.hi<lo then AW lo hi u else if lo<r.lo then(lo,min hi r.lo)else AW (r.hi+1) hi u
def Ba.of(AQ:Nat):Ba:=⟨[],0,AQ⟩
structure At where
 b:List UInt8
 AM:Ba
 AG:Ba
 high:Nat
 finished:Bool
 ending:Bool
 ended:Bool
 given:Bool
 code:Nat
 ES:Bool
def At.CQ(w:At):Nat:=(AW 0 (aa w.b) w.AG.l).1
structure Dk where
 b:List UInt8
 AG:Ba
 high:Nat
 end_:Nat
 ended:Bool
 given:Bool
 code:Nat
 read:Nat
 state:Nat
structure FQ where
 number:Nat
 at_:Nat
 A7:List Af
structure AO where
 AV:Nat
 AI:Nat
 ks:List UInt8
 first:Bool
 now:Nat
 closed:Nat
 code:Nat
 said:Bool
 next:Nat
 AR:Ba
 answer:Bool
 ws:List At
 rs:List Dk
 Bp:List FQ
 lost:List FQ
 CB:Nat
 waits:Nat
def BO:At:=⟨[],.of 4096,.of 4096,0,false,false,false,false,0,false⟩
def LK:Dk:=⟨[],.of 4096,0,0,false,false,0,0,0⟩
def Gb(AV AI:Int):Prop:=64≤AV∧AV≤300∧16≤AI∧AI≤1024
instance(AV AI:Int):Decidable (Gb AV AI):=by unfold Gb;exact AH
def AO.new(AV AI:Nat)(ks:List UInt8)(first:Bool):AO:=
 ⟨AV,AI,ks,first,0,0,0,false,0,.of 8,false,a9 4 BO,a9 4 LK,[],[],0,0⟩
def AO.w(c:AO)(k:Nat):At:=c.ws.getD k BO
def AO.r(c:AO)(k:Nat):Dk:=c.rs.getD k LK
def AO.Dh(c:AO)(k:Nat)(w:At):AO:={c with ws:=c.ws.set k w}
def AO.CE(c:AO)(k:Nat)(r:Dk):AO:={c with rs:=c.rs.set k r}
def AO.stream(c:AO)(k:Int):Nat:=if c.closed≠0 then 9 else if k<0∨4≤k then 2 else 0
def AO.GQ(c:AO)(k:Int):Nat:=
 if c.stream k≠0 then c.stream k else if(c.w k.toNat).finished∨(c.w k.toNat).given then 3 else 0
def AO.Hf(c:AO)(k:Nat)(len:Nat):Nat:=
 min (min (c.AI-((c.w k).b.length-(c.w k).CQ)) (4096-(c.w k).b.length)) len
def AO.write(c:AO)(k:Int)(xs:List UInt8):(Nat×Nat)×AO:=
 if c.GQ k≠0 then((0,c.GQ k),c)
 else((c.Hf k.toNat (aa xs),0),c.Dh k.toNat {c.w k.toNat with b:=(c.w k.toNat).b++xs.take (c.Hf k.toNat (aa xs))})
def AO.finish(c:AO)(k:Int):Nat×AO:=
 if c.GQ k≠0 then(c.GQ k,c)else(0,c.Dh k.toNat {c.w k.toNat with finished:=true})
def AO.giveUp(c:AO)(k:Int)(code:Nat):Nat×AO:=
 if c.stream k≠0 then(c.stream k,c)
 else if(c.w k.toNat).given∨4611686018427387903<code then(3,c)
 else(0,c.Dh k.toNat {c.w k.toNat with given:=true,code:=code})
def AO.AG(c:AO)(k:Int):Nat×Nat:=
 if c.stream k≠0 then(0,c.stream k)else((c.w k.toNat).CQ,0)
def AO.close(c:AO)(code:Nat):Nat×AO:=
 if c.closed≠0 then(9,c)else if 4611686018427387903<code then(3,c)else(0,{c with closed:=9,code:=code})
def FD(lo hi:Nat)(s:Ba)(r:AS):Ba:=
 let A:=if r.lo<lo then s.add r.lo (min r.hi (lo-1))else s
 if hi≤r.hi then A.add (max r.lo hi) r.hi else A
def At.again(w:At)(f:Af):At:=
 if f.kind=5 then
  {w with AM:=w.AG.l.reverse.foldl (λs r=>s.add r.lo r.hi) (w.AM.l.reverse.foldl (FD f.offset (f.offset+f.data.size)) (Ba.of 4096)),ending:=w.ending&& !f.fin}
 else if f.kind=4 then {w with ES:=false}else w
def JQ(ws:List At)(f:Af):List At:=ws.set f.stream.toNat ((ws.getD f.stream.toNat BO).again f)
def N4(ws:List At)(p:FQ):List At:=p.A7.foldl JQ ws
def AO.Ho(c:AO)(lost:FQ→Bool):AO:=
 {c with Bp:=c.Bp.filter (λp=> !lost p),lost:=c.lost++c.Bp.filter lost,ws:=(c.Bp.filter lost).foldl N4 c.ws}
def Oi(waits:Nat):Nat:=min (4*2^waits) 32
def AO.tick(c:AO):AO:=
 if c.Bp.any (λp=>decide (p.at_+Oi c.waits≤c.now+1))then
  {({c with now:=c.now+1}:AO).Ho (λ_=>true)with waits:=min (c.waits+1) 8}
 else {c with now:=c.now+1}
def At.named(w:At)(inn:Bool)(f:Af):At:=
 let w1:=if inn=true∧f.kind=5∧f.data.size≠0 then
  {w with AG:=w.AG.add f.offset (f.offset+f.data.size-1),AM:=w.AM.add f.offset (f.offset+f.data.size-1)}else w
 {w1 with ended:=w1.ended||(inn&&decide (f.kind=5)&&f.fin)}
def BJ(l:List AS)(n:Nat):Bool:=l.any (λr=>decide (r.lo≤n)&&decide (n≤r.hi))
def JB(inn:Bool)(ws:List At)(f:Af):List At:=ws.set f.stream.toNat ((ws.getD f.stream.toNat BO).named inn f)
def K3(l:List AS)(ws:List At)(p:FQ):List At:=p.A7.foldl (JB (BJ l p.number)) ws
def AO.IW(c:AO)(l:List AS):AO:=
 {c with CB:=max c.CB (rg l 0).hi,lost:=c.lost.filter (λp=> !BJ l p.number),Bp:=c.Bp.filter (λp=> !BJ l p.number),ws:=c.Bp.foldl (K3 l) (c.lost.foldl (K3 l) c.ws),waits:=if(c.Bp.filter (λp=> !BJ l p.number)).length<(aa c.Bp) then 0 else c.waits}
def AO.EY(c:AO)(l:List AS):Nat×AO:=
 if c.next≤(rg l 0).hi then(8,c)
 else(0,(c.IW l).Ho (λp=>decide (p.number+3≤(c.IW l).CB)))
def IN(b:List UInt8)(o:Nat)(ds:List UInt8):List UInt8:=b.take o++ds++b.drop (o+aa ds)
def IA(fuel:Nat)(off e:Nat)(ds:List UInt8)(read lo:Nat)(b:List UInt8)(AG:Ba):List UInt8×Ba:=
 match fuel with
 |0=>(b,AG)
 |n+1=>
  if lo<e then
   let g:=AW lo e AG.l
   if e≤g.1 then(b,AG)
   else IA n off e ds read g.2 (IN b (g.1-read) ((ds.drop (g.1-off)).take (g.2-g.1))) (AG.add g.1 (g.2-1))
  else(b,AG)
def NP(ended:Bool)(end_ high:Nat)(f:Af):Prop:=
 (ended=true∧(end_<f.offset+f.data.size∨f.fin=true∧f.offset+f.data.size≠end_))∨(f.fin=true∧f.offset+f.data.size<high)
instance(ended:Bool)(end_ high:Nat)(f:Af):Decidable (NP ended end_ high f):=by unfold NP;exact AH
def Dk.filled(r:Dk)(f:Af):List UInt8×Ba:=
 IA (f.offset+f.data.size+1) f.offset (f.offset+f.data.size) f.data.data.toList r.read (max f.offset r.read)
  (r.b++a9 (max r.high (f.offset+f.data.size)-(r.read+aa r.b)) 0) r.AG
def Dk.QE(r:Dk)(f:Af):Dk:=
 {r with high:=max r.high (f.offset+f.data.size),ended:=r.ended||f.fin,end_:=if f.fin then f.offset+f.data.size else r.end_,b:=(r.filled f).1,AG:=(r.filled f).2}
def Dk.data(r:Dk)(f:Af):Nat×Dk:=
 if NP r.ended r.end_ r.high f then(7,r)else if r.given then(0,r)else(0,r.QE f)
def AO.take(c:AO)(f:Af):Nat×AO:=
 if f.kind=3 then c.EY f.ranges
 else if f.kind=4 then
  if(c.r f.stream.toNat).ended=true∧(c.r f.stream.toNat).end_≠f.offset∨f.offset<(c.r f.stream.toNat).high then(7,c)
  else(0,c.CE f.stream.toNat {c.r f.stream.toNat with code:=if(c.r f.stream.toNat).given then(c.r f.stream.toNat).code else f.code,given:=true,ended:=true,end_:=f.offset})
 else if f.kind=5 then(((c.r f.stream.toNat).data f).1,c.CE f.stream.toNat ((c.r f.stream.toNat).data f).2)
 else if f.kind=6 then(10,c)else(0,c)
def AO.shut(c:AO)(e:Nat):AO:={c with closed:=e,code:=e,said:=decide (e=10)}
def AO.B1(c:AO):List Af→Nat×AO
 |[]=>(0,c)
 |f::X=>if(c.take f).1≠0 then((c.take f).1,(c.take f).2.shut (c.take f).1)
  else({(c.take f).2 with answer:=(c.take f).2.answer||(decide (f.kind≠3)&&decide (f.kind≠1))}:AO).B1 X
def AO.busy(c:AO)(f:Af):Prop:=f.kind=5∧(c.r f.stream.toNat).given=false∧(c.r f.stream.toNat).read+c.AI<f.offset+f.data.size
instance(c:AO)(f:Af):Decidable (c.busy f):=by unfold AO.busy;exact AH
def AO.BY(c:AO)(p:List UInt8):(Nat×Int)×AO:=
 if c.closed≠0 then((9,-1),c)
 else match B6 c.ks (Bb (!c.first)) p with
  |none=>((4,-1),c)
  |some (i,b)=>
   if c.AR.has i.toNat then((0,-1),c)
   else match Eb b with
    | .error o=>((5,o),{c with closed:=5,code:=5})
    | .ok X=>
     if ∃f∈X,c.busy f then((6,-1),c)
     else((((({c with AR:=c.AR.add i.toNat i.toNat}:AO).B1 X).1,-1)),(({c with AR:=c.AR.add i.toNat i.toNat}:AO).B1 X).2)
def AO.HV(c:AO)(k:Nat):Dk:=if(c.r k).given=true∧(c.r k).state=0 then {c.r k with state:=2,b:=[]}else c.r k
def AO.JO(r:Dk)(AQ:Int):Nat:=min ((AW r.read r.high r.AG.l).1-r.read) AQ.toNat
def AO.read(c:AO)(k:Int)(AQ:Int):(List UInt8×Nat×Nat×Nat)×AO:=
 if c.stream k≠0 then(([],0,0,c.stream k),c)
 else
  let r:=c.HV k.toNat
  if r.state=0 then
   let n:=AO.JO r AQ;let r2:={r with b:=r.b.drop n,read:=r.read+n}
   let e:=if r2.ended=true∧r2.read=r2.end_ then {r2 with state:=1}else r2
   ((r.b.take n,e.state,0,0),c.CE k.toNat e)
  else(([],r.state,(if r.state=2 then r.code else 0),0),c.CE k.toNat r)
structure B9 where
 A7:List Af
 room:Nat
def B9.b(d:B9):List UInt8:=Bk d.A7
def B9.add(d:B9)(f:Af):Option B9:=if d.room<(aa (d.b++Av f)) then none else some {d with A7:=d.A7++[f]}
def CU(k off:Nat)(fin:Bool)(ds:List UInt8):Af:=⟨5,k,off,0,fin,BR ds,[]⟩
def Iv(k code off:Nat):Af:=⟨4,k,off,code,false,⟨#[]⟩,[]⟩
def Fo(rs:List AS):Af:=⟨3,0,0,0,false,⟨#[]⟩,rs⟩
def DX(code:Nat):Af:=⟨6,0,0,code,false,⟨#[]⟩,[]⟩
def cut(b:List UInt8)(lo hi:Nat):List UInt8:=(b.take hi).drop lo
def At.NG(w:At)(d:B9)(k lo hi:Nat):Option (At×B9):=
 let h:=aa (Av (CU k lo false (cut w.b lo hi)))-(hi-lo)
 if lo<hi∧d.room<aa d.b+h+1 then none
 else
  let e:=min hi (lo+(d.room-aa d.b-h));let f:=CU k lo (w.finished&&decide (e=aa w.b)) (cut w.b lo e)
  match d.add f with
  |none=>none
  |some d2=>some ({w with AM:=if lo<e then w.AM.add lo (e-1)else w.AM,ending:=w.ending||f.fin,high:=max w.high e},d2)
def At.fill(w:At)(d:B9)(k:Nat):Option (At×B9):=
 if w.given then
  if w.ES then none
  else match d.add (Iv k w.code w.high)with
   |none=>none
   |some d2=>some ({w with ES:=true},d2)
 else if(AW 0 (aa w.b) w.AM.l).2≤(AW 0 (aa w.b) w.AM.l).1 then
  if w.finished=false∨w.ending=true∨w.ended=true then none else w.NG d k (aa w.b) (aa w.b)
 else w.NG d k (AW 0 (aa w.b) w.AM.l).1 (AW 0 (aa w.b) w.AM.l).2
def HR(k:Nat):Nat→At→B9→At×B9
 |0,w,d=>(w,d)
 |n+1,w,d=>match w.fill d k with
  |none=>(w,d)
  |some (Y,d2)=>HR k n Y d2
def Fv(d:B9)(ws:List At)(k:Nat):Nat→List At×B9
 |0=>(ws,d)
 |n+1=>Fv (HR k (d.room+1) (ws.getD k BO) d).2 (ws.set k (HR k (d.room+1) (ws.getD k BO) d).1) (k+1) n
def GK(told:List AS)(room:Nat):Nat→Nat
 |0=>0
 |1=>1
 |n+2=>if room<(aa (Av (Fo (told.take (n+2))))) then GK told room (n+1)else n+2
structure By where
 c:AO
 told:List AS
 out:List (List UInt8)
def AO.Fs(c:AO)(told:List AS):B9:=
 ⟨if told=[]then []else [Fo (told.take (GK told (c.AV-16) (aa told)))],c.AV-16⟩
def By.Jh(z:By):List AS:=z.told.drop (GK z.told (z.c.AV-16) (aa z.told))
def By.filled(z:By):List At×B9:=if (aa z.c.Bp)<10 then Fv (z.c.Fs z.told) z.c.ws 0 4 else(z.c.ws,z.c.Fs z.told)
def E9(fs:List Af):Bool:=fs.any (λf=>decide (f.kind≠3))
def By.step(z:By):By:=
 ⟨{z.c with ws:=z.filled.1,next:=z.c.next+1,Bp:=if E9 z.filled.2.A7 then z.c.Bp++[⟨z.c.next,z.c.now,z.filled.2.A7⟩]else z.c.Bp},z.Jh,z.out++[E5 z.c.ks (Bb z.c.first) (UInt64.ofNat z.c.next) z.filled.2.b]⟩
def EN:Nat→By→By
 |0,z=>z
 |n+1,z=>if z.filled.2.A7=[]then {z with c:={z.c with ws:=z.filled.1}}else EN n z.step
def AO.Df(c:AO):List (List UInt8)×AO:=
 if c.said then([],c)
 else([E5 c.ks (Bb c.first) (UInt64.ofNat c.next) (Av (DX c.code))],{c with said:=true,next:=c.next+1})
def AO.BA(c:AO):List (List UInt8)×AO:=
 if c.closed≠0 then c.Df
 else
  let z:=EN 40 ⟨{c with answer:=false},if c.answer then c.AR.l.reverse else [],[]⟩
  (z.out,z.c)
structure CZ where
 data:List UInt8
 AG:Ba
 finished:Bool
 given:Bool
 code:Nat
 end_:Nat
 high:Nat
structure Dv where
 data:List UInt8
 there:List Bool
 high:Nat
 end_:Nat
 ended:Bool
 given:Bool
 code:Nat
 read:Nat
 state:Nat
structure Le where
 number:Nat
 A7:List Af
structure AL where
 AV:Nat
 AI:Nat
 ks:List UInt8
 first:Bool
 closed:Nat
 code:Nat
 said:Bool
 next:Nat
 AR:Ba
 Az:Ba
 due:List Nat
 outs:List CZ
 ins:List Dv
 AM:List Le
def CX:CZ:=⟨[],.of 1073741824,false,false,0,0,0⟩
def KD:Dv:=⟨[],[],0,0,false,false,0,0,0⟩
def AL.new(AV AI:Nat)(ks:List UInt8)(first:Bool):AL:=
 ⟨AV,AI,ks,first,0,0,false,0,.of 8,.of 1073741824,[],a9 4 CX,a9 4 KD,[]⟩
def AL.o(s:AL)(k:Nat):CZ:=s.outs.getD k CX
def AL.i(s:AL)(k:Nat):Dv:=s.ins.getD k KD
def AL.Da(s:AL)(k:Nat)(o:CZ):AL:={s with outs:=s.outs.set k o}
def AL.Dd(s:AL)(k:Nat)(x:Dv):AL:={s with ins:=s.ins.set k x}
def AL.of(s:AL)(k:Int):Nat:=if s.closed≠0 then 9 else if k<0∨4≤k then 2 else 0
def CZ.CQ(o:CZ):Nat:=if o.AG.l=[]∨0<(rg o.AG.l 0).lo then 0 else(rg o.AG.l 0).hi+1
def AL.Hf(s:AL)(k:Nat)(len:Nat):Nat:=
 min (min (s.AI-((s.o k).data.length-(s.o k).CQ)) (4096-(s.o k).data.length)) len
def AL.write(s:AL)(k:Int)(xs:List UInt8):(Nat×Nat)×AL:=
 if s.of k≠0 then((0,s.of k),s)
 else if(s.o k.toNat).finished∨(s.o k.toNat).given then((0,3),s)
 else((s.Hf k.toNat (aa xs),0),s.Da k.toNat {s.o k.toNat with data:=(s.o k.toNat).data++xs.take (s.Hf k.toNat (aa xs))})
def AL.finish(s:AL)(k:Int):Nat×AL:=
 if s.of k≠0 then(s.of k,s)
 else if(s.o k.toNat).finished∨(s.o k.toNat).given then(3,s)
 else(0,s.Da k.toNat {s.o k.toNat with finished:=true})
def AL.giveUp(s:AL)(k:Int)(code:Nat):Nat×AL:=
 if s.of k≠0 then(s.of k,s)
 else if(s.o k.toNat).given∨4611686018427387903<code then(3,s)
 else(0,s.Da k.toNat {s.o k.toNat with given:=true,code:=code,end_:=(s.o k.toNat).high})
def AL.AG(s:AL)(k:Int):Nat×Nat:=if s.of k≠0 then(0,s.of k)else((s.o k.toNat).CQ,0)
def AL.close(s:AL)(code:Nat):Nat×AL:=
 if s.closed≠0 then(9,s)else if 4611686018427387903<code then(3,s)else(0,{s with closed:=9,code:=code})
def JI(outs:List CZ)(f:Af):List CZ:=
 if f.kind=5∧0<f.data.size then
  outs.set f.stream.toNat {outs.getD f.stream.toNat CX with AG:=(outs.getD f.stream.toNat CX).AG.add f.offset (f.offset+f.data.size-1)}
 else outs
def H8(l:List AS)(outs:List CZ)(p:Le):List CZ:=if BJ l p.number then p.A7.foldl JI outs else outs
def AL.EY(s:AL)(l:List AS):AL:={s with outs:=s.AM.foldl (H8 l) s.outs}
def Hi(ds:List UInt8)(off:Nat)(data:List UInt8)(there:List Bool):List UInt8×List Bool:=
 match ds with
 |[]=>(data,there)
 |d::ds=>if there.getD off false then Hi ds (off+1) data there else Hi ds (off+1) (data.set off d) (there.set off true)
def Dv.put(x:Dv)(f:Af):List UInt8×List Bool:=
 Hi f.data.data.toList f.offset (x.data++a9 (max x.high (f.offset+f.data.size)-aa x.data) 0) (x.there++a9 (max x.high (f.offset+f.data.size)-aa x.data) false)
def Dv.Sd(x:Dv)(f:Af):Dv:=
 {x with high:=max x.high (f.offset+f.data.size),ended:=x.ended||f.fin,end_:=if f.fin then f.offset+f.data.size else x.end_,data:=(x.put f).1,there:=(x.put f).2}
def Dv.bytes(x:Dv)(f:Af):Nat×Dv:=
 if NP x.ended x.end_ x.high f then(7,x)else if x.given then(0,x)else(0,x.Sd f)
def AL.take(s:AL)(f:Af):Nat×AL:=
 if f.kind=3 then if s.next≤(rg f.ranges 0).hi then(8,s)else(0,s.EY f.ranges)
 else if f.kind=4 then
  if(s.i f.stream.toNat).ended=true∧(s.i f.stream.toNat).end_≠f.offset∨f.offset<(s.i f.stream.toNat).high then(7,s)
  else(0,s.Dd f.stream.toNat {s.i f.stream.toNat with code:=if(s.i f.stream.toNat).given then(s.i f.stream.toNat).code else f.code,given:=true,ended:=true,end_:=f.offset})
 else if f.kind=5 then(((s.i f.stream.toNat).bytes f).1,s.Dd f.stream.toNat ((s.i f.stream.toNat).bytes f).2)
 else if f.kind=6 then(10,s)else(0,s)
def AL.shut(s:AL)(e:Nat):AL:={s with closed:=e,code:=e,said:=decide (e=10)}
def Fc(number:Nat)(due:List Nat)(f:Af):List Nat:=
 if f.kind≠3∧f.kind≠1∧(due=[]∨due.getD (aa due-1) 0≠number)then due++[number]else due
def AL.B1(s:AL)(number:Nat):List Af→Nat×AL
 |[]=>(0,s)
 |f::X=>if(s.take f).1≠0 then((s.take f).1,(s.take f).2.shut (s.take f).1)
  else({(s.take f).2 with due:=Fc number (s.take f).2.due f}:AL).B1 number X
def AL.busy(s:AL)(f:Af):Prop:=f.kind=5∧(s.i f.stream.toNat).state≠2∧(s.i f.stream.toNat).given=false∧(s.i f.stream.toNat).read+s.AI<f.offset+f.data.size
instance(s:AL)(f:Af):Decidable (s.busy f):=by unfold AL.busy;exact AH
def AL.BY(s:AL)(p:List UInt8):(Nat×Int)×AL:=
 if s.closed≠0 then((9,-1),s)
 else match B6 s.ks (Bb (!s.first)) p with
  |none=>((4,-1),s)
  |some (i,b)=>
   if s.AR.has i.toNat then((0,-1),s)
   else match Eb b with
    | .error o=>((5,o),{s with closed:=5,code:=5})
    | .ok X=>
     if ∃f∈X,s.busy f then((6,-1),s)
     else((((({s with AR:=s.AR.add i.toNat i.toNat,Az:=s.Az.add i.toNat i.toNat}:AL).B1 i.toNat X).1,-1)),
      (({s with AR:=s.AR.add i.toNat i.toNat,Az:=s.Az.add i.toNat i.toNat}:AL).B1 i.toNat X).2)
def runN(there:List Bool)(high:Nat):Nat→Nat→Nat
 |0,_=>0
 |n+1,read=>if read<high∧there.getD read false=true then runN there high n (read+1)+1 else 0
def AL.read(s:AL)(k:Int)(AQ:Int):(List UInt8×Nat×Nat×Nat)×AL:=
 if s.of k≠0 then(([],0,0,s.of k),s)
 else
  let x:=s.i k.toNat;let x1:=if x.given=true∧x.state=0 then {x with state:=2}else x
  let n:=if x1.state=0 then runN x1.there x1.high AQ.toNat x1.read else 0
  let x2:={x1 with read:=x1.read+n}
  let j:=if x2.ended=true∧x2.read=x2.end_∧x2.state=0 then {x2 with state:=1}else x2
  (((x1.data.drop x1.read).take n,j.state,(if j.state=2 then j.code else 0),0),s.Dd k.toNat j)
def AL.opened(s:AL)(b:List UInt8):Option (List Af)×AL:=
 match B6 s.ks (Bb s.first) b with
 |none=>(none,s)
 |some (i,p)=>
  if s.AV<aa b∨i.toNat≠s.next then(none,s)
  else match Eb p with
   | .error _=>(none,{s with next:=s.next+1})
   | .ok l=>(if G4 l=some p then some l else none,{s with next:=s.next+1})
def AL.Df(s:AL)(l:List (List UInt8)):Bool×AL:=
 if s.said then(decide (aa l=0),s)
 else if (aa l)≠1 then(false,{s with said:=true})
 else match(({s with said:=true}:AL).opened (l.getD 0 []))with
  |(none,q)=>(false,q)
  |(some X,q)=>(decide (aa X=1∧(X.getD 0 (DX 0)).kind=6∧(X.getD 0 (DX 0)).code=q.code),q)
def AL.IR(s:AL)(f:Af):Bool×AL:=
 if ∀r∈f.ranges,∃e∈s.Az.l,e.lo≤r.lo∧r.hi≤e.hi then
  (true,{s with due:=s.due.filter (λn=> !(decide (n<s.AR.floor)||BJ f.ranges n))})
 else(false,s)
def AL.sends(s:AL)(f:Af):Bool×AL:=
 let o:=s.o f.stream.toNat
 let e:=f.offset+f.data.size
 if o.given=true∨aa o.data<e∨(o.data.take e).drop f.offset≠f.data.data.toList then(false,s)
 else if(f.fin≠(o.finished&&decide (e=aa o.data)))∨(f.data.size=0∧f.fin=false)then(false,s)
 else(true,s.Da f.stream.toNat {o with high:=max o.high e})
def AL.may(s:AL)(f:Af):Bool×AL:=
 if f.kind=3 then s.IR f
 else if f.kind=4 then(decide ((s.o f.stream.toNat).given=true∧f.offset=(s.o f.stream.toNat).end_∧f.code=(s.o f.stream.toNat).code),s)
 else if f.kind=5 then s.sends f else(false,s)
def AL.De(s:AL):List Af→Bool×AL
 |[]=>(true,s)
 |f::X=>if(s.may f).1 then(s.may f).2.De X else(false,(s.may f).2)
def AL.emit(s:AL)(b:List UInt8):Bool×AL:=
 match s.opened b with
 |(none,q)=>(false,q)
 |(some l,q)=>if(q.De l).1 then(true,{(q.De l).2 with AM:=(q.De l).2.AM++[⟨s.next,l⟩]})else(false,(q.De l).2)
def AL.ET(s:AL):List (List UInt8)→Bool×AL
 |[]=>(true,s)
 |b::F=>if(s.emit b).1 then(s.emit b).2.ET F else(false,(s.emit b).2)
def AL.GL(s:AL)(l:List (List UInt8)):Bool×AL:=
 if s.closed≠0 then s.Df l
 else if(s.ET l).1 then
  if ∃n∈(s.ET l).2.due,(s.ET l).2.AR.floor≤n then(false,(s.ET l).2)else(true,{(s.ET l).2 with due:=[]})
 else(false,(s.ET l).2)
def EC:List AS→Prop
 |[]=>True
 |r::u=>r.lo≤r.hi∧(∀s∈u,r.hi+1<s.lo)∧EC u
def RW(n):¬BD n []:=by rintro⟨r,h,_⟩;cases h
def Gz(n)(r:AS)(rs):BD n (r::rs)↔(r.lo≤n∧n≤r.hi)∨BD n rs:=by
 simp[BD,j1]
def Na:∀(l:List AS) (lo hi n:Nat),lo≤hi→(BD n (Bo lo hi l)↔(lo≤n∧n≤hi)∨BD n l)
 |[],lo,hi,n,h=>by simp[Bo,BD]
 |r::u,lo,hi,n,h=>by
  rw[Bo];split
  ·rw[Gz,Na u lo hi n h,Gz];constructor<;>rintro(h|h|h)<;>simp_all
  split
  ·rw[Gz,Gz]
  rw[Na u _ _ n C0,Gz];constructor
  ·rintro(O|O)
   ·by_cases U:lo≤n∧n≤hi
    ·exact .inl U
    refine .inr (.inl ?_);omega
   exact .inr (.inr O)
  rintro(O|O|O)
  ·left;omega
  ·left;omega
  exact .inr O
def RM:∀(l:List AS) (lo hi m:Nat),m≤lo→(∀s∈l,m≤s.lo)→∀s∈Bo lo hi l,m≤s.lo
 |[],lo,hi,m,h,_=>by simp[Bo];exact h
 |r::u,lo,hi,m,h,h2=>by
  have Y:=h2 r C3;have M:∀s∈u,m≤s.lo:=λs hs=>h2 s PB;rw[Bo];split
  ·intro s hs;obtain rfl|hs:=j1.1 hs
   ·exact Y
   exact RM u lo hi m h M s hs
  split
  ·exact zF
  exact RM u _ _ m C0 M
def LR:∀(l:List AS) (lo hi m:Nat),hi≤m→(∀s∈l,s.hi≤m)→∀s∈Bo lo hi l,s.hi≤m
 |[],lo,hi,m,h,_=>by simp[Bo];exact h
 |r::u,lo,hi,m,h,h2=>by
  have Y:=h2 r C3;have M:∀s∈u,s.hi≤m:=λs hs=>h2 s PB;rw[Bo];split
  ·intro s hs;obtain rfl|hs:=j1.1 hs
   ·exact Y
   exact LR u lo hi m h M s hs
  split
  ·exact zF
  exact LR u _ _ m C0 M
def NM:∀(l:List AS) (lo hi:Nat),lo≤hi→EC l→EC (Bo lo hi l)
 |[],lo,hi,h,_=>by simp[Bo,EC];exact h
 |r::u,lo,hi,h,⟨O,U,M⟩=>by
  rw[Bo];split
  ·refine⟨O,?_,NM u lo hi h M⟩;intro s C;have:=RM u lo hi (r.hi+2) C0 (λs C=>by have:=U s C;omega) s C;omega
  split
  ·refine⟨h,?_,O,U,M⟩;intro s C;obtain rfl|C:=j1.1 C
   ·omega
   have:=U s C;simp only[];omega
  exact NM u _ _ C0 M
def Nm:∀(l:List AS) (lo hi:Nat),aa (Bo lo hi l)≤aa l+1
 |[],lo,hi=>by simp[Bo]
 |r::u,lo,hi=>by
  rw[Bo];split
  ·have:=Nm u lo hi;simp;omega
  split
  ·simp
  have:=Nm u (min lo r.lo) (max hi r.hi);simp;omega
def Ow(l lo hi):Bo lo hi l≠ []:=by
 cases l with
 |nil=>simp[Bo]
 |cons r u=>
  rw[Bo];split
  ·simp
  split
  ·simp
  exact Ow u _ _
def UN:∀(l:List AS) (a m:Nat),EC l→(∀s∈l,a≤s.lo)→(∀s∈l,s.hi<m)→a+2*aa l≤m+1∨l=[]
 |[],a,m,_,_,_=>.inr I
 |r::u,a,m,⟨O,U,M⟩,c,b=>by
  left;have Z:=c r C3;have X:=b r C3;rcases UN u (r.hi+2) m M (λs hs=>by have:=U s hs;omega) (λs hs=>b s PB)with J|rfl
  ·simp;omega
  simp;omega
structure Dg(s:Ba)(m:Nat):Prop where
 inc:EC s.l
 lo:∀r∈s.l,s.floor≤r.lo
 hi:∀r∈s.l,r.hi<m
 len:s.l.length≤s.AQ
 fl:s.floor≤m
def Dg.of{AQ m}:Dg (.of AQ) m:=⟨trivial,(λ_ h=>nomatch h),(λ_ h=>nomatch h),bk _,bk _⟩
def mj{r l}(h:EC (r::l)):EC l:=h.2.2
def Dg.add{s:Ba}{m}(h:Dg s m)(lo hi)(hm:hi<m)(h0:1≤s.AQ):Dg (s.add lo hi) m∧(s.add lo hi).AQ=s.AQ:=by
 unfold Ba.add;split
 ·exact⟨h,I⟩
 rename_i b;have X:=NM s.l _ hi (by omega:max lo s.floor≤hi) h.inc;have j:=RM s.l (max lo s.floor) hi s.floor C0 h.lo;have V:=LR s.l (max lo s.floor) hi (m-1) C0 (λr Y=>by have:=h.hi r Y;omega);have L:=Nm s.l (max lo s.floor) hi;split
 ·refine⟨?_,I⟩;cases e:Bo (max lo s.floor) hi s.l with
  |nil=>exact absurd e (Ow _ _ _)
  |cons r u=>
   rw[e]at X j V L;refine⟨mj X,λt A=>?_,λt A=>?_,?_,?_⟩
   ·have:=X.2.1 t A;simp only[Amh]at*;omega
   ·have:=V t (by simp;exact .inr A);omega
   ·simp only[List.tail_cons];have:=h.len;simp at L;omega
   have:=V r C3;simp only[Amh];omega
 refine⟨⟨X,j,λt A=>?_,by show(Bo (max lo s.floor) hi s.l).length≤s.AQ;omega,h.fl⟩,I⟩;have:=V t A;omega
def Ba.has_add{s:Ba}{lo hi m}(b:Dg s m)(h:s.has n∨(lo≤n∧n≤hi)):(s.add lo hi).has n:=by
 unfold Ba.add;split
 ·rename_i c;obtain h|h:=h
  ·exact h
  exact .inl C0
 rename_i c;have j:=Na s.l (max lo s.floor) hi n C0;have Z:n<s.floor∨BD n (Bo (max lo s.floor) hi s.l):=by
  obtain(h|h)|h:=h
  ·exact .inl h
  ·exact .inr (j.2 (.inr h))
  by_cases O:n<s.floor
  ·exact .inl O
  exact .inr (j.2 (.inl C0))
 split
 ·cases e:Bo (max lo s.floor) hi s.l with
  |nil=>exact absurd e (Ow _ _ _)
  |cons r u=>
   have O:=RM s.l (max lo s.floor) hi s.floor C0 b.lo r UH;have U:=(NM s.l _ hi (by omega:max lo s.floor≤hi) b.inc)
   rw[e]at Z U;have M:=U.1;obtain Z|Z:=Z
   ·exact .inl jP
   rw[Gz]at Z;obtain Z|Z:=Z
   ·exact .inl jP
   exact .inr Z
 exact Z
def Ba.xu{s:Ba}{lo hi}(h:BD n (s.add lo hi).l):BD n s.l∨(lo≤n∧n≤hi):=by
 unfold Ba.add at h;split at h
 ·exact .inl h
 rename_i b;have j:=Na s.l (max lo s.floor) hi n C0;have Z:BD n (Bo (max lo s.floor) hi s.l):=by
  split at h
  ·cases e:Bo (max lo s.floor) hi s.l with
   |nil=>exact absurd e (Ow _ _ _)
   |cons r u=>rw[e]at h;rw[Gz];exact .inr h
  exact h
 obtain O|O:=j.1 Z
 ·exact .inr C0
 exact .inl O
def Ba.Xw{s:Ba}{lo hi}(hf:s.floor=0)(J:lo≤hi)(L:aa (Bo lo hi s.l)≤s.AQ):s.add lo hi=⟨Bo lo hi s.l,0,s.AQ⟩:=by
 unfold Ba.add;rw[hf,Nat.max_zero,AF C0,AF C0]
def kb{l}(hi:EC l){b}(h:a≤b)(c:∀n,a≤n→n≤b→BD n l):∃e∈l,e.lo≤a∧b≤e.hi:=by
 induction l with
 |nil=>exact absurd (c a C0 h) (RW _)
 |cons r u f=>
  obtain⟨O,U,M⟩:=hi;have i:=(Gz a r u).1 (c a C0 h);by_cases Y:r.lo≤a∧a≤r.hi
  ·by_cases q:b≤r.hi
   ·exact⟨r,C3,C0,q⟩
   exfalso;have:=(Gz (r.hi+1) r u).1 (c (r.hi+1) C0 C0);obtain Z|⟨s,C,Z⟩:=this
   ·omega
   have:=U s C;omega
  have X:r.hi<a:=by
   obtain Z|⟨s,C,Z⟩:=i
   ·exact absurd Z Y
   have:=U s C;omega
  obtain⟨e,N,j⟩:=f M (λn J V=>by
   obtain G|G:=(Gz n r u).1 (c n J V)
   ·omega
   exact G)
  exact⟨e,by simp[N],j⟩
def Ic:∀(l:List AS) (lo hi:Nat),EC l→lo≤hi→
  lo≤(AW lo hi l).1∧(∀n,lo≤n→n<(AW lo hi l).1→BD n l)∧(AW lo hi l).2≤hi∧
  ((AW lo hi l).1<(AW lo hi l).2→∀n,(AW lo hi l).1≤n→n<(AW lo hi l).2→¬BD n l)∧((AW lo hi l).2≤(AW lo hi l).1→hi≤(AW lo hi l).1):=by
 intro l
 induction l with
 |nil=>intro lo hi _ h;simp only[AW];exact⟨C0,λn _ _=>by omega,C0,λ_ n _ _=>RW n,λ_=>by omega⟩
 |cons r rs Z=>
  intro lo hi ⟨O,U,M⟩ h;rw[AW];split
  ·rename_i j;obtain⟨a,b,c,d,e⟩:=Z lo hi M h;refine⟨a,λn h4 h5=>(Gz n r rs).2 (.inr (b n h4 h5)),c,λh4 n h5 h6 h7=>?_,e⟩;exact j6
  split
  ·rename_i j F;refine⟨C3,λn h4 h5=>by simp at h5;omega,C9,λh4 n h5 h6 h7=>?_,λh4=>by simp at h4⊢;omega⟩;simp at h5 h6;obtain h8|⟨s,C,h8⟩:=(Gz n r rs).1 h7
   ·omega
   have:=U s C;omega
  rename_i j F;by_cases Y:r.hi+1≤hi
  ·obtain⟨a,b,c,d,e⟩:=Z (r.hi+1) hi M Y;refine⟨C0,λn h4 h5=>?_,c,λh4 n h5 h6 h7=>?_,e⟩
   ·exact yB
   exact j6
  have u:∀(l:List AS) (lo hi:Nat),hi≤lo→EC l→lo≤(AW lo hi l).1∧(∀n,lo≤n→n<(AW lo hi l).1→BD n l)∧(AW lo hi l).2≤hi:=by
   intro l
   induction l with
   |nil=>intro lo hi h _;simp only[AW];exact⟨C0,λn _ _=>by omega,C0⟩
   |cons t f i=>
    intro lo hi h ⟨k,S,N⟩;rw[AW];split
    ·obtain⟨a,b,c⟩:=i lo hi h N;exact⟨a,λn h4 h5=>(Gz n t f).2 (.inr (b n h4 h5)),c⟩
    split
    ·exact⟨C3,λn h4 h5=>by simp at h5;omega,C9⟩
    obtain⟨a,b,c⟩:=i (t.hi+1) hi C0 N;refine⟨C0,λn h4 h5=>?_,c⟩;by_cases h6:n≤t.hi
    ·exact(Gz n t f).2 (.inl C0)
    exact(Gz n t f).2 (.inr (b n C0 h5))
  obtain⟨a,b,c⟩:=u rs (r.hi+1) hi C0 M;refine⟨C0,λn h4 h5=>?_,c,λh4=>by omega,λ_=>by omega⟩;exact yB
def K0{l lo hi}(C:EC l)(h:lo≤hi)(hb:∀r∈l,r.hi<hi):(AW lo hi l).1≤hi∧¬BD (AW lo hi l).1 l:=by
 obtain⟨a,b,c,d,e⟩:=Ic l lo hi C h;have Y:(AW lo hi l).1≤hi:=by
  obtain O|O:=ff hi (AW lo hi l).1
  ·obtain⟨r,f,U⟩:=b hi h O;have:=hb r f;omega
  exact O
 refine⟨Y,λj=>?_⟩;obtain O|O:=ff (AW lo hi l).1 (AW lo hi l).2
 ·exact d O _ Dz O j
 have:=e O;obtain⟨r,f,U⟩:=j;have:=hb r f;omega
end Go.Proofs.YtgfdlpcdjklcoaaGreatDoor
