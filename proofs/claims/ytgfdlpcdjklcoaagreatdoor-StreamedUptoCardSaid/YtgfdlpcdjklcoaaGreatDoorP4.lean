/- A part of this proof: steps of the program, plain facts; no condition. -/
import Derived.Test.YtgfdlpcdjklcoaaGreatDoorW
import Derived.Test.YtgfdlpcdjklcoaaGreatDoorCards
import Derived.Test.YtgfdlpcdjklcoaaGreatDoorTie
import Derived.ProofKit
import Derived.OpenShut
import Derived.Carry
import Derived.ChangeArms
import Derived.LaidLaws
import Derived.LaidHandle
import Derived.Deep.DeepHandedRow
import Derived.Deep.Slices
namespace Go.Proofs.YtgfdlpcdjklcoaaGreatDoor
open Go Go.RowKit
open _root_.UInt8 renaming ofNat→a_,toNat_ofNat'→v_
open _root_.Option renaming some→b_
open _root_.List renaming replicate→c_,mem_cons→d_,range→e_,foldl_cons→f_,length_map→i_,mem_singleton→k_,length_append→l_,getD_eq_getElem?_getD→m_,length_range→p_,map_cons→q_,getElem?_eq_getElem→q',length_cons→r_,map_nil→s_,take_append_drop→t_,zipWith_append→u_,cons→xr,length_drop→xt,append_nil→xu,headD_cons→xw
open _root_.Prod renaming mk→g_
open _root_.Go.IntKind renaming signed→g',bits→j',min→n_,max→o_
open _root_.Nat renaming zero_le→h_,lt_or_ge→w_
open _root_.Go.Value renaming okWide→j_
set_option linter.unusedVariables false
set_option maxRecDepth 20000
section
open Go Go.ChangeShapes Go.WideShapes Go.ChangeAt Go.RowKit
set_option linter.unusedVariables false
theorem own:ownKnob Tryz.prog.godebug=none:=by kernel_rfl
theorem tJ:laidOutB Tryz.prog=true:=by kernel_rfl
theorem jw :Tryz.prog.globalNamed "errors.errorType" =some 0 :=by kernel_rfl
theorem jq :(Tryz.prog.cutTypes.find? (·.1 == "internal/reflectlite.rtype")).map (·.2) =some 282 :=by kernel_rfl
theorem uJ:((e_ Tryz.prog.types.size).filter fun t=>Tryz.prog.rowNamed t [101,114,114,111,114])=[106]:=by kernel_rfl
theorem kt{W :World}(h :laidMetH Tryz.prog [("errors.errorType",Rows.laid_errors_errorType)] W) :W.cell? ⟨0,0,none⟩ =some (.iface 282 (.agg #[.pointer (some ⟨1,106,none⟩)])) :=by
 have h' :laidMet Tryz.prog [] W ∧ handlesMet Tryz.prog [("errors.errorType",Rows.laid_errors_errorType)] W :=h;obtain⟨name,u,ty,e1,e2,e3,e4,e5⟩:=h'.2 _ (k_.2 rfl);have en:name=[101,114,114,111,114]:=(b_.inj e1).symm;subst en;obtain rfl:=b_.inj (jq.symm.trans e2);have hm:ty∈(e_ Tryz.prog.types.size).filter fun t=>Tryz.prog.rowNamed t [101,114,114,111,114]:=List.mem_filter.2 ⟨List.mem_range.2 e3,e4⟩;rw [uJ]at hm;obtain rfl:=k_.1 hm
 have hh:typeHandle Tryz.prog 106=.pointer (some ⟨1,106,none⟩):=by kernel_rfl
 rw [hh]at e5;simpa using World.var?_cell jw e5 0
noncomputable def Ue (os:Os):World:=
 let w0:=World.holding Tryz.prog os ⟨#[],#[],[]⟩
 {w0 with heap:=w0.heap.modify 0 fun
   | .cells _ t frozen=>.cells #[.iface 282 (.agg #[.pointer (some ⟨1,106,none⟩)])] t frozen
   |o=>o}
theorem j2(os :Os)(args :Array Value) :laidMetH Tryz.prog [("errors.errorType",Rows.laid_errors_errorType)] ((Ue os).forCall (fun _ _ =>0) ⟨#[],args,[]⟩).memory :=
 laidMetH_of_parts (laidMet_nil _ _) Ch
section
variable{H:Type}{Am:TypeId×Value→H}{P:Program}
theorem rW(hl:laidOutB P=true){W W':World}(hb:Below W.heap.size W W'):∀(ts:List TypeId) (vs:List Value) (ds:List (DataW H)) (ps:List MemPlace),
  (∀t∈ts,P.readableRec t=true∧t<P.types.size)→DataW.TrodAll Am P W 0 (fun _=>true) true ts vs ds ps→(∀x∈ps,x.block<W.heap.size)→∀sp:Nat→Bool,(∀p∈ps,sp p.block=true)→DataW.TrodAll Am P W' 0 sp true ts vs ds ps
 |[],[],[],ps,_,h,_,_,_=>h
 |t::ts,v::vs,d::ds,ps,hr,h,hlt,sp,hsp=>by
  obtain⟨p,q,h1,h2,rfl⟩:=h;refine⟨p,q,WideElems.Trod_stays hl (hr t Cl).1 (hr t Cl).2 h1 (fun x hx=>hb.same (hlt x RK)) (fun x hx=>hsp x RK),?_,rfl⟩;exact rW hl hb ts vs ds q (fun t ht=>hr t (by simp [ht])) h2 (fun x hx=>hlt x RK) sp (fun x hx=>hsp x RK)
 |[],v::vs,ds,ps,_,h,_,_,_=>by cases ds<;>exact h.elim
 |[],[],d::ds,ps,_,h,_,_,_=>h.elim
 |t::ts,[],ds,ps,_,h,_,_,_=>by cases ds<;>exact h.elim
 |t::ts,v::vs,[],ps,_,h,_,_,_=>h.elim
theorem cr{f:Func}{s:ChangeSpec}{apart fresh handsOn again:Bool}{W W':World}{args:Array Value}{v:Value}{ds gs:List (DataW H)}{before:List MemPlace}
  (hl:laidOutB P=true)(hr:∀t∈f.params.toList,P.readableRec t=true∧t<P.types.size)(hvn:s.vars=[])
  (hW:DataW.Whole Am P f.params.toList s.vars apart W args.toList ds gs before)(hb:Below W.heap.size W W')(ha:(s.fn H (ds++gs)).args=ds)(hv0:(s.fn H (ds++gs)).vars=[])
  (hres:∀(b:Nat) (sp:Nat→Bool) (hd:Bool),DataW.TrodAll Am P W' b sp hd f.resultTypes.toList (v.resultList f.resultTypes.size) (s.fn H (ds++gs)).results [])
  (hok:∀(j:Nat) (t:TypeId) (r:Value),f.resultTypes[j]?=some t→(v.resultList f.resultTypes.size)[j]?=some r→j_ P W' .any 0 t r):
  s.post Am P f apart fresh handsOn again W args v W':=by
 have hlt:∀p∈before,p.block<W.heap.size:=fun p hp=>hW.lt p hp;have hW2:=hW;obtain⟨p,q,hA,hV,e,hz,hn⟩:=hW2;rw [hvn]at hV;obtain⟨rfl,rfl⟩:=trodVars_none hV
 obtain rfl:before=p:=by simpa using e
 have hargs:∀sp:Nat→Bool,(∀x∈before,sp x.block=true)→DataW.TrodAll Am P W' 0 sp true f.params.toList args.toList (s.fn H (ds++[])).args before:=fun sp hsp=>by
  rw [ha];exact rW hl hb _ _ _ _ hr hA hlt sp hsp
 have hvars:∀sp:Nat→Bool,DataW.TrodVars Am P W' sp s.vars (s.fn H (ds++[])).vars []:=fun sp=>by rw [hvn,hv0];rfl
 refine⟨ds,[],before,[],before,[],hW,hres _ _ _,hargs _ (fun x hx=>by simpa using hlt x hx),hvars _,World.keptBut_mono (fun x hx=>⟨hx,.inr (by simpa using hx)⟩) (hb.frame (·∈before)),fun _=>?_⟩;refine⟨hok,_,_,([]++before)++[],⟨[]++before,[],trodAll_append (hargs _ (fun _ _=>rfl)) (hres _ _ _),hvars _,rfl,?_,?_⟩,?_⟩
 ·intro b off hp
  have hp':MemPlace.cell b off∈before:=by simpa using hp
  rw [←hz b off (by simpa using hp')];unfold World.frozen?;rw [hb.block b (hlt _ hp')]
 ·intro hap
  have:=hn hap
  simpa using this
 ·intro x hx _;simpa using hx
theorem Fn.yH{B:World}{f:FuncId}{args:List Value}{Post:Value→HP→Prop}(h:Fn P B f args HP.BQ Post):Calls P f args.toArray B fun e W'=>∃v H',e=.returned v∧Post v H'∧Below B.heap.size B W':=
 (h B (Sat.start B)).mono fun e W' ⟨v,H',e1,e2,e3⟩=>⟨v,H',e1,e2,e3.1⟩
variable{w:World}{base:Nat}{spare:Nat→Bool}{held:Bool}{fuel:Nat}{cs:List Value}{x:DataW H×List MemPlace}
theorem og{t e n:Nat}(ht:P.underlying t=some (.array n e))(h:DataW.trod Am P w base spare held fuel t cs=some x):
  cs.length=P.cellsOf t∧∃m,∀i,i<n→∃y,DataW.trod Am P w base spare held m e ((cs.drop (i*P.cellsOf e)).take (P.cellsOf e))=some y:=by
 cases fuel with
 |zero=>simp [DataW.trod]at h
 |succ m=>
  unfold DataW.trod at h;rw [ht]at h;simp only at h;split at h
  ·rename_i hl;refine⟨hl,m,fun i hi=>?_⟩;obtain⟨xs,hxs,_⟩:=Option.map_eq_some_iff.1 h;have h1:=mapM_some_get hxs i i (by simp [hi]);have h2:=mapM_some_length hxs;rw [h1];exact⟨xs[i]'(by simp at h2;omega),Cl⟩
  ·cases h
theorem pW{e m:Nat}(he:P.underlying e=some (.int .u8)):∀(n:Nat) (cs:List Value),cs.length=n→(∀i,i<n→∃y,DataW.trod Am P w base spare held m e ((cs.drop i).take 1)=some y)→∃ks:List UInt8,ks.length=n∧cs=AE ks
 |0,cs,hl,_=>⟨[],rfl,by simpa [AE]using hl⟩
 |n+1,[],hl,_=>by simp at hl
 |n+1,c::cs,hl,h=>by
  obtain⟨y,hy⟩:=h 0 Cg;simp only [List.drop_zero,List.take_succ_cons,List.take_zero]at hy;obtain⟨z,hz,_,hw⟩:=DataW.trod_int he hy
  obtain⟨ks,h1,h2⟩:=pW he n cs (by simpa using hl) fun i hi=>by
   obtain⟨y,hy⟩:=h (i+1) Cg;exact⟨y,by simpa using hy⟩
  simp only [xr.injEq,and_true]at hz;refine⟨a_ z.toNat::ks,by simp [h1],?_⟩
  have hb:0≤z∧z≤255:=by simpa [Lit.wf,n_,o_,j',g']using hw
  rw [h2,hz];show _=[u8 (a_ z.toNat)]++AE ks;simp only [List.singleton_append,xr.injEq,and_true,u8,v_];congr 1;omega
theorem jl{t e n:Nat}{r:Reach}{b0:Nat}{v:Value}{d:DataW H}{ps:List MemPlace}(ht:P.underlying t=some (.array n e))(he:P.underlying e=some (.int .u8))(hc:P.cellsOf e=1)(hn:P.cellsOf t=n)
  (hval:j_ P w r b0 t v)(hd:DataW.Trod Am P w base spare held t v d ps):∃ks:List UInt8,ks.length=n∧v=.agg (AE ks).toArray:=by
 obtain⟨cs,rfl,hsz,_⟩:∃cs,v=.agg cs∧cs.size=P.cellsOf t∧Row.okWide P w r b0 t cs:=by simpa [j_,ht]using hval
 obtain⟨fuel,hf⟩:=hd;obtain⟨h1,m,h2⟩:=og ht hf;rw [hc]at h2;obtain⟨ks,h3,h4⟩:=pW he n cs.toList (by simpa [hn]using hsz) (fun i hi=>by simpa [Value.cells]using h2 i hi);exact⟨ks,h3,by rw [←h4]⟩
end
end
abbrev uN(n:Nat):Value:=.int .u64 (n:Nat)
structure AP where
 lo:Nat
 hi:Nat
 deriving DecidableEq
@[reducible] instance:AB AP:=⟨2,fun r=>[uN r.lo,uN r.hi],⟨0,0⟩,fun _=>rfl,fun _ v h=>by simp at h;rcases h with rfl|rfl<;>rfl⟩
structure AZ where
 kind:Int
 stream:Int
 offset:Nat
 code:Nat
 fin:Bool
 data:ByteArray
 ranges:List AP
def rg(rs:List AP)(i:Nat):AP:=rs.getD i ⟨0,0⟩
def AQ(n:Nat):List UInt8:=
 if n<64 then [a_ n]
 else if n<16384 then [a_ (n/256+64),a_ n]
 else if n<1073741824 then [a_ (n/16777216+128),a_ (n/65536),a_ (n/256),a_ n]
 else [a_ (n/72057594037927936+192),a_ (n/281474976710656),a_ (n/1099511627776),a_ (n/4294967296),
  a_ (n/16777216),a_ (n/65536),a_ (n/256),a_ n]
theorem B8(n:Nat):(AQ n).length≤8:=by
 unfold AQ;split
 ·simp
 split
 ·simp
 split<;>simp
def Em(rs:List AP)(i:Nat):Prop:=(rg rs i).lo≤(rg rs i).hi∧(rg rs i).hi≤4611686018427387903∧(i=0∨(2≤(rg rs (i-1)).lo∧(rg rs i).hi+2≤(rg rs (i-1)).lo))
instance(rs:List AP)(i:Nat):Decidable (Em rs i):=by unfold Em;infer_instance
def HY(rs:List AP):Prop:=rs≠ []∧∀i,i<rs.length→Em rs i
instance(rs:List AP):Decidable (HY rs):=by unfold HY;infer_instance
def Ib(f:AZ):Prop:=(f.kind=3→HY f.ranges)∧(f.kind=5→f.data.size+f.offset≤4611686018427387903)
instance(f:AZ):Decidable (Ib f):=by unfold Ib;infer_instance
def Dh(k:Int):Prop:=1≤k∧k≤6
instance(k:Int):Decidable (Dh k):=by unfold Dh;infer_instance
def Bh(f:AZ):Prop:=f.offset≤4611686018427387903∧f.code≤4611686018427387903∧0≤f.stream∧f.stream<4∧Ib f∧Dh f.kind
instance(f:AZ):Decidable (Bh f):=by unfold Bh;infer_instance
def Bu(rs:List AP):Nat→List UInt8
 |0=>[]
 |k+1=>Bu rs k++AQ ((rg rs k).lo-(rg rs (k+1)).hi-2)++AQ ((rg rs (k+1)).hi-(rg rs (k+1)).lo)
def KU(rs:List AP):List UInt8:=[2]++AQ (rg rs 0).hi++AQ (rs.length-1)++AQ ((rg rs 0).hi-(rg rs 0).lo)++Bu rs (rs.length-1)
def Aj(f:AZ):List UInt8:=
 if f.kind=1 then [0]else if f.kind=2 then [1]else if f.kind=3 then KU f.ranges
 else if f.kind=4 then [4]++AQ f.stream.toNat++AQ f.code++AQ f.offset
 else if f.kind=5 then [bif f.fin then 9 else 8]++AQ f.stream.toNat++AQ f.offset++AQ f.data.size++f.data.data.toList
 else [28]++AQ f.code
def BN(fs:List AZ):List UInt8:=fs.flatMap Aj
def EV(fs:List AZ):Option (List UInt8):=if fs≠ []∧∀f∈fs,Bh f then some (BN fs)else none
def HT(xs:List UInt8)(a:Nat):Nat:=(xs.getD a 0).toNat
def Gy(xs:List UInt8)(a:Nat):Nat→Nat
 |0=>HT xs a%64
 |k+1=>Gy xs a k*256+HT xs (a+k+1)
theorem Rp(xs:List UInt8)(a:Nat):HT xs a<256:=(xs.getD a 0).toNat_lt
theorem UQ(xs:List UInt8)(a:Nat):∀k,Gy xs a k<64*256^k
 |0=>by simp [Gy];omega
 |k+1=>by
  have h1:=UQ xs a k;have h2:=Rp xs (a+k+1);rw [Gy,Nat.pow_succ];omega
def CW(xs:List UInt8)(a:Nat):Nat:=2^(HT xs a/64)
theorem Sj(xs:List UInt8)(a:Nat):CW xs a=1∨CW xs a=2∨CW xs a=4∨CW xs a=8:=by
 have h:=Rp xs a;unfold CW;rcases(by omega:HT xs a/64=0∨HT xs a/64=1∨HT xs a/64=2∨HT xs a/64=3)with e|e|e|e<;>rw [e]<;>simp
def B1(xs:List UInt8)(a:Nat):Option (Nat×Nat):=
 if a<xs.length∧a+CW xs a≤xs.length then some (Gy xs a (CW xs a-1),a+CW xs a)else none
theorem Dy{xs:List UInt8}{a n a':Nat}(h:B1 xs a=some (n,a')):n≤4611686018427387903∧a<a'∧a'≤xs.length:=by
 unfold B1 at h;split at h
 ·rename_i hc;simp only [b_.injEq,g_.injEq]at h;obtain⟨rfl,rfl⟩:=h;have h1:=UQ xs a (CW xs a-1);rcases Sj xs a with e|e|e|e<;>rw [e]at h1 hc⊢<;>simp only [Nat.reduceSub]at h1⊢<;>refine⟨?_,?_,?_⟩<;>omega
 ·cases h
def GW(xs:List UInt8)(a:Nat):Option (Nat×Nat):=match B1 xs a with
 |some (n,a')=>if n<4 then some (n,a')else none
 |none=>none
def Gf(xs:List UInt8)(a:Nat):Option (List UInt8×Nat):=match B1 xs a with
 |some (n,a')=>if n≤xs.length-a' then some ((xs.drop a').take n,a'+n)else none
 |none=>none
def Ee(xs:List UInt8):Nat→Nat→Nat→Option (List AP×Nat)
 |0,_,a=>some ([],a)
 |n+1,lo,a=>match B1 xs a with
  |some (gap,a1)=>match B1 xs a1 with
   |some (size,a2)=>if 2≤lo∧gap+2≤lo∧size+gap+2≤lo then
     match Ee xs n (lo-2-gap-size) a2 with
     |some (rs,a3)=>some (⟨lo-2-gap-size,lo-2-gap⟩::rs,a3)
     |none=>none
    else none
   |none=>none
  |none=>none
def CG(xs:List UInt8)(a:Nat):Option (List AP×Nat):=match B1 xs a with
 |some (hi,a1)=>match B1 xs a1 with
  |some (n,a2)=>match B1 xs a2 with
   |some (size,a3)=>if size≤hi then
     match Ee xs n (hi-size) a3 with
     |some (rs,a4)=>some (⟨hi-size,hi⟩::rs,a4)
     |none=>none
    else none
   |none=>none
  |none=>none
 |none=>none
def Db(t:UInt8):Nat:=if t=0 then 1 else if t=1 then 2 else if t=2 then 3 else if t=4 then 4 else if t=8∨t=9 then 5 else if t=28 then 6 else 0
def B5(xs:List UInt8)(k:Nat)(fin:Bool)(a:Nat):Option (AZ×Nat):=
 if k=1 then some (⟨1,0,0,0,fin,⟨#[]⟩,[]⟩,a)
 else if k=2 then some (⟨2,0,0,0,fin,⟨#[]⟩,[]⟩,a)
 else if k=3 then match CG xs a with
  |some (rs,a1)=>some (⟨3,0,0,0,fin,⟨#[]⟩,rs⟩,a1)
  |none=>none
 else if k=4 then match GW xs a with
  |some (s,a1)=>match B1 xs a1 with
   |some (c,a2)=>match B1 xs a2 with
    |some (o,a3)=>some (⟨4,s,o,c,fin,⟨#[]⟩,[]⟩,a3)
    |none=>none
   |none=>none
  |none=>none
 else if k=5 then match GW xs a with
  |some (s,a1)=>match B1 xs a1 with
   |some (o,a2)=>match Gf xs a2 with
    |some (d,a3)=>some (⟨5,s,o,0,fin,BI d,[]⟩,a3)
    |none=>none
   |none=>none
  |none=>none
 else if k=6 then match B1 xs a with
  |some (c,a1)=>some (⟨6,0,0,c,fin,⟨#[]⟩,[]⟩,a1)
  |none=>none
 else none
def EJ(xs:List UInt8)(a:Nat):Option (AZ×Nat):=
 match B5 xs (Db (xs.getD a 0)) (decide (xs.getD a 0=9)) (a+1)with
 |some (f,a')=>if Bh f then some (f,a')else none
 |none=>none
def Ew(xs:List UInt8)(a:Nat):Except Nat (List AZ):=
 if a<xs.length then
  match EJ xs a with
  |some (f,a')=>if h:a<a'∧a<xs.length then match Ew xs a' with
    | .ok l=>.ok (f::l)
    | .error e=>.error e
   else .error a
  |none=>.error a
 else .ok []
 termination_by xs.length-a
 decreasing_by omega
def DZ(xs:List UInt8):Except Nat (List AZ):=if xs=[]then .error 0 else Ew xs 0
theorem NB{xs:List UInt8}{a n a':Nat}(h:GW xs a=some (n,a')):n<4∧a<a'∧a'≤xs.length:=by
 unfold GW at h;split at h
 ·rename_i n' a'' e;split at h
  ·simp only [b_.injEq,g_.injEq]at h;obtain⟨rfl,rfl⟩:=h
   have:=Dy e
   exact⟨by assumption,this.2⟩
  ·cases h
 ·cases h
theorem Vx{xs:List UInt8}{a a':Nat}{d:List UInt8}(h:Gf xs a=some (d,a')):a<a'∧a'≤xs.length∧d.length≤xs.length:=by
 unfold Gf at h;split at h
 ·rename_i n' a'' e;split at h
  ·simp only [b_.injEq,g_.injEq]at h;obtain⟨rfl,rfl⟩:=h
   have:=Dy e
   refine⟨Cg,Cg,?_⟩
   simp;omega
  ·cases h
 ·cases h
theorem Z9{xs:List UInt8}:∀{n lo a a':Nat} {rs:List AP},Ee xs n lo a=some (rs,a')→a≤xs.length→a≤a'∧a'≤xs.length∧rs.length=n∧2*n≤a'-a:=by
 intro n
 induction n with
 |zero=>intro lo a a' rs h ha;simp only [Ee,b_.injEq,g_.injEq]at h;obtain⟨rfl,rfl⟩:=h;simp;omega
 |succ n ih=>
  intro lo a a' rs h ha;simp only [Ee]at h;split at h
  ·rename_i gap a1 e1;split at h
   ·rename_i size a2 e2;split at h
    ·split at h
     ·rename_i rs' a3 e3;simp only [b_.injEq,g_.injEq]at h;obtain⟨rfl,rfl⟩:=h;have h1:=Dy e1;have h2:=Dy e2;have h3:=ih e3 Cg;simp only [r_];omega
     ·cases h
    ·cases h
   ·cases h
  ·cases h
theorem V0{xs:List UInt8}{a a':Nat}{rs:List AP}(h:CG xs a=some (rs,a')):a<a'∧a'≤xs.length∧rs≠ []∧rs.length≤xs.length:=by
 unfold CG at h;split at h
 ·rename_i hi a1 e1;split at h
  ·rename_i n a2 e2;split at h
   ·rename_i size a3 e3;split at h
    ·split at h
     ·rename_i rs' a4 e4;simp only [b_.injEq,g_.injEq]at h;obtain⟨rfl,rfl⟩:=h;have h1:=Dy e1;have h2:=Dy e2;have h3:=Dy e3;have h4:=Z9 e4 h3.2.2;refine⟨Cg,Cg,Cl,?_⟩;simp only [r_];omega
     ·cases h
    ·cases h
   ·cases h
  ·cases h
 ·cases h
theorem pb{xs:List UInt8}{k a a':Nat}{fin:Bool}{f:AZ}(h:B5 xs k fin a=some (f,a'))(ha:a≤xs.length):a≤a'∧a'≤xs.length:=by
 unfold B5 at h;split at h
 ·simp only [b_.injEq,g_.injEq]at h;obtain⟨-,rfl⟩:=h;omega
 split at h
 ·simp only [b_.injEq,g_.injEq]at h;obtain⟨-,rfl⟩:=h;omega
 split at h
 ·split at h
  ·rename_i e;simp only [b_.injEq,g_.injEq]at h;obtain⟨-,rfl⟩:=h
   have:=V0 e;omega
  ·cases h
 split at h
 ·split at h
  ·rename_i e1;split at h
   ·rename_i e2;split at h
    ·rename_i e3;simp only [b_.injEq,g_.injEq]at h;obtain⟨-,rfl⟩:=h
     have:=NB e1;have:=Dy e2;have:=Dy e3;omega
    ·cases h
   ·cases h
  ·cases h
 split at h
 ·split at h
  ·rename_i e1;split at h
   ·rename_i e2;split at h
    ·rename_i e3;simp only [b_.injEq,g_.injEq]at h;obtain⟨-,rfl⟩:=h
     have:=NB e1;have:=Dy e2;have:=Vx e3;omega
    ·cases h
   ·cases h
  ·cases h
 split at h
 ·split at h
  ·rename_i e;simp only [b_.injEq,g_.injEq]at h;obtain⟨-,rfl⟩:=h
   have:=Dy e;omega
  ·cases h
 ·cases h
theorem Uc{xs:List UInt8}{a a':Nat}{f:AZ}(h:EJ xs a=some (f,a'))(ha:a<xs.length):a<a'∧a'≤xs.length∧Bh f:=by
 unfold EJ at h;split at h
 ·rename_i e;split at h
  ·simp only [b_.injEq,g_.injEq]at h;obtain⟨rfl,rfl⟩:=h
   have:=pb e Cg
   exact⟨Cg,Cg,by assumption⟩
  ·cases h
 ·cases h
theorem Uw{xs:List UInt8}{a:Nat}(h:¬a<xs.length):Ew xs a=.ok []:=by rw [Ew,if_neg h]
theorem Rm{xs:List UInt8}{a:Nat}(h:a<xs.length)(e:EJ xs a=none):Ew xs a=.error a:=by rw [Ew,if_pos h,e]
theorem XV{xs:List UInt8}{a a':Nat}{f:AZ}(h:a<xs.length)(e:EJ xs a=some (f,a')):Ew xs a=match Ew xs a' with
  | .ok l=>.ok (f::l)
  | .error e=>.error e:=by
 conv=>lhs;rw [Ew]
 rw [if_pos h,e];simp only [];rw [dif_pos ⟨(Uc e h).1,h⟩]
structure RF where
 f:AZ
 p:Option Addr
 b:Nat
 o:Nat
 c:Nat
 s:List Value
@[reducible] def AI(r:RF):List Value:=[.int .i64 r.f.kind,.int .i64 r.f.stream,uN r.f.offset,uN r.f.code,.bool r.f.fin,.string r.f.data,.slice r.p r.f.ranges.length r.c]
@[reducible] instance:AB RF:=⟨7,AI,⟨⟨0,0,0,0,false,⟨#[]⟩,[]⟩,none,0,0,0,[]⟩,fun _=>rfl,fun _ v h=>by
 simp at h;rcases h with rfl|rfl|rfl|rfl|rfl|rfl|rfl<;>rfl⟩
def RF.ok(r:RF):Prop:=Sl r.p r.b r.o r.f.ranges.length r.c
def RF.own(r:RF):Prop:=r.f.ranges.length*2+r.s.length=r.c*2
def Dn(r:RF):HP:=AD r.b r.o r.f.ranges r.s
def A0(rs:List RF):HP:=rs.foldr (fun r H=>Dn r*H) HP.BQ
theorem Qj:A0 []=HP.BQ:=rfl
theorem Rh(r:RF)(rs:List RF):A0 (r::rs)=Dn r*A0 rs:=rfl
theorem wV(rs ts:List RF):A0 (rs++ts)=A0 rs*A0 ts:=by
 induction rs with
 |nil=>rw [List.nil_append,Qj,HP.BA]
 |cons r rs ih=>rw [List.cons_append,Rh,Rh,ih,HP.assoc]
theorem br{r:RF}{rs:List RF}(h:r∈rs):∃X,A0 rs=Dn r*X:=by
 induction rs with
 |nil=>cases h
 |cons t rs ih=>
  rcases d_.1 h with rfl|h
  ·exact Bg
  ·obtain⟨X,e⟩:=ih h;exact⟨Dn t*X,by rw [Rh,e,HP.C8]⟩
theorem O7{B:World}{r:RF}{rs:List RF}(h:r∈rs):AW B (A0 rs) r.b r.o r.f.ranges:=by
 obtain⟨X,e⟩:=br h;rw [e];show AW B (AD r.b r.o r.f.ranges r.s*X) r.b r.o r.f.ranges;infer_instance
structure Hi(B:World)(H:HP)(p:Option Addr)(c:Nat)(fs:List AZ)(b o:Nat)(rs:List RF):Prop where
 sl:Sl p b o fs.length c
 rd:AW B H b o rs
 map:rs.map (·.f)=fs
 ok:∀r∈rs,r.ok
 MG:∀r∈rs,AW B H r.b r.o r.f.ranges
theorem Hi.len{B:World}{H:HP}{p:Option Addr}{c:Nat}{fs:List AZ}{b o:Nat}{rs:List RF}(h:Hi B H p c fs b o rs):rs.length=fs.length:=by rw [←h.map,i_]
theorem Hi.right{B:World}{A C:HP}{p:Option Addr}{c:Nat}{fs:List AZ}{b o:Nat}{rs:List RF}(h:Hi B C p c fs b o rs):Hi B (A*C) p c fs b o rs:=
 ⟨h.sl,(let _:=h.rd;inferInstance),h.map,h.ok,fun r hr=>(let _:=h.MG r hr;inferInstance)⟩
theorem Hi.left{B:World}{A C:HP}{p:Option Addr}{c:Nat}{fs:List AZ}{b o:Nat}{rs:List RF}(h:Hi B A p c fs b o rs):Hi B (A*C) p c fs b o rs:=
 ⟨h.sl,(let _:=h.rd;inferInstance),h.map,h.ok,fun r hr=>(let _:=h.MG r hr;inferInstance)⟩
def Pr(R:HP)(fs:List AZ)(v:Value)(H':HP):Prop:=
 ∃p b o c s rs,v=.slice p fs.length c∧Sl p b o fs.length c∧fs.length*7+s.length=c*7∧rs.map RF.f=fs∧(∀r∈rs,r.ok∧r.own)∧H'=AD b o rs s*(A0 rs*R)
theorem Pr.rd{B:World}{R:HP}{p:Option Addr}{b o c:Nat}{s:List Value}{fs:List AZ}{rs:List RF}(h1:Sl p b o fs.length c)(h2:rs.map RF.f=fs)(h3:∀r∈rs,r.ok∧r.own):
  Hi B (AD b o rs s*(A0 rs*R)) p c fs b o rs:=
 ⟨h1,inferInstance,h2,fun r hr=>(h3 r hr).1,fun r hr=>by
  have:=O7 (B:=B) hr
  infer_instance⟩
theorem Pr.nil(R:HP):Pr R [] (.slice none 0 0) R:=⟨none,0,0,0,[],[],rfl,DG,rfl,rfl,(fun _ h=>by simp at h),XO⟩
section
theorem fj:∀a,a<64→a|||64=a+64:=by decide
theorem gp:∀a,a<64→a|||128=a+128:=by decide
theorem sn:∀a,a<64→a|||192=a+192:=by decide
theorem Sy(k:Nat):u8 (a_ k)=.int .u8 (k%256:Nat):=by rw [u8,v_]
theorem No(xs:List UInt8):AE xs=xs.map u8:=by
 induction xs with
 |nil=>rfl
 |cons x xs ih=>show [u8 x]++AE xs=_;rw [ih];rfl
theorem p8{n:Nat}(h:n<64):AE (AQ n)=[.int .u8 (n%256:Nat)]:=by
 rw [AQ,if_pos h,No];simp only [q_,s_,Sy]
theorem ng{n:Nat}(h:¬n<64)(h2:n<16384):AE (AQ n)=[.int .u8 ((n/2^8%256|||64:Nat)),.int .u8 (n%256:Nat)]:=by
 rw [AQ,if_neg h,if_pos h2,No];simp only [q_,s_,Sy];rw [show n/2^8%256=n/256 by omega,fj _ Cg,show(n/256+64)%256=n/256+64 by omega]
theorem wU{n:Nat}(h:¬n<64)(h2:¬n<16384)(h3:n<1073741824):AE (AQ n)=[.int .u8 ((n/2^24%256|||128:Nat)),.int .u8 (n/2^16%256:Nat),.int .u8 (n/2^8%256:Nat),.int .u8 (n%256:Nat)]:=by
 rw [AQ,if_neg h,if_neg h2,if_pos h3,No];simp only [q_,s_,Sy];rw [show n/2^24%256=n/16777216 by omega,gp _ Cg,show(n/16777216+128)%256=n/16777216+128 by omega]
theorem ur{n:Nat}(h:¬n<64)(h2:¬n<16384)(h3:¬n<1073741824)(h4:n≤4611686018427387903):AE (AQ n)=[.int .u8 ((n/2^56%256|||192:Nat)),.int .u8 (n/2^48%256:Nat),.int .u8 (n/2^40%256:Nat),.int .u8 (n/2^32%256:Nat),
  .int .u8 (n/2^24%256:Nat),.int .u8 (n/2^16%256:Nat),.int .u8 (n/2^8%256:Nat),.int .u8 (n%256:Nat)]:=by
 rw [AQ,if_neg h,if_neg h2,if_neg h3,No];simp only [q_,s_,Sy];rw [show n/2^56%256=n/72057594037927936 by omega,sn _ Cg,show(n/72057594037927936+192)%256=n/72057594037927936+192 by omega]
structure Ay where
 n:Nat
@[reducible] instance:AB Ay:=⟨1,fun x=>[uN x.n],⟨0⟩,fun _=>rfl,fun _ v h=>by rw [k_.1 h];rfl⟩
section
variable{P:Program}{B:World}{n:Nat}{E:A6}{D:CK}{H:HP}{d:Option Tmp}{T T' ty:TypeId}{pos:String}{af:Array Edge}{g:Option (Nat×Bool)}{x y z:Operand}
theorem I5{α:Type}[AB α]{b o i:Nat}{xs:List α}[hT:E6 P T (AB.sz α)](hx:ev E x=some (.pointer (some ⟨b,o+i*AB.sz α,none⟩)))(hr:AW B H b o xs)(hi:i<xs.length):
  Aa P B n ⟨d,.load T x,ty,pos,af,g⟩ E H (.agg (AB.Am (xs.getD i AB.AC)).toArray):=by
 intro a w he hw
 have h1:(loadCells ⟨b,o+i*AB.sz α,none⟩ (AB.Am (xs.getD i AB.AC)).length).run P w=.ok (AB.Am (xs.getD i AB.AC)).toArray w:=by
  refine run_loadCells_list w ⟨b,o+i*AB.sz α,none⟩ _ fun j v e=>?_
  have:=hr.get i j v e hi w hw
  by_cases hj:j=0
  ·subst hj;simpa [Addr.add]using this
  ·simpa [Addr.add,hj]using this
 rw [AB.len]at h1;simp [execOp,he.ev hx,Instr.loadAt,Instr.sureAddr,loadVar,hT.get,hT.size,h1]
theorem DT{α:Type}[AB α]{b o i f:Nat}{xs:List α}{v:Value}[hT:CQ P T](hx:ev E x=some (.pointer (some ⟨b,o+i*AB.sz α+f,none⟩)))(hr:AW B H b o xs)(hv:(AB.Am (xs.getD i AB.AC))[f]?=some v)(hi:i<xs.length):
  Aa P B n ⟨d,.load T x,ty,pos,af,g⟩ E H v:=by
 intro a w he hw;simp [execOp,he.ev hx,Instr.loadAt,Instr.sureAddr,loadVar,hT.get,hr.get i f v hv hi w hw]
theorem AW.one{α:Type}[AB α]{b o:Nat}(a:α):AW B (HP.AA b o (AB.Am a)) b o [a]:=by
 have h:AW B (AD b o [a] []) b o [a]:=inferInstance
 have e:AD b o [a] []=HP.AA b o (AB.Am a):=by simp [AD,AE]
 rwa [e]at h
theorem kW{R:HP}{sT xT e by_:Nat}{b o c:Nat}{p:Option Addr}{xs:List UInt8}{s:List Value}{zv:Value}{str:ByteArray}
  [hT:Ar P sT (.slice e)][hT2:Ar P xT .string][hz:Bw P e 1][hi:FH P e by_][h0:BZ P e zv]
  (hx:ev E x=some (.slice p xs.length c))(hs:Sl p b o xs.length c)(hc:xs.length*1+s.length=c*1)
  (hy:ev E y=some (.string str))(hzc:zv.cells.size=1)
  (hb:(xs.length+str.size)*by_≤140737488355328)(hby:0<by_):
  C7 P B n ⟨d,.call ⟨.builtin .append,#[x,y],#[sT,xT]⟩,ty,pos,af,g⟩ E D (AD b o xs s*R) (fun v H'=>CH R (xs++str.data.toList) v H'):=by
 intro a w h1 _ h3 K Q hk
 have hl:str.data.toList.length=str.size:=by rw [Array.length_toList];rfl
 have hf:∀w',Sat B (AD b o xs s*R) w'→(Builtin.firstCells (AB.sz UInt8) str.data.toList.length (.string str)).run P w'=.ok (AE str.data.toList).toArray w':=by
  intro w' _
  have e1:(str.extract 0 str.data.toList.length).data=str.data:=by
   rw [hl]
   have:str.extract 0 str.size=str:=ByteArray.extract_zero_size
   rw [this]
  simp only [Builtin.firstCells,e1,No,Sem.run_pure];congr 1;apply Array.toList_inj.1;rw [Array.toList_map]
 obtain⟨v,w',hrun,H',hH,hw'⟩:=cZ (P:=P) (B:=B) (R:=R) (b:=b) (o:=o) (p:=p) (c:=c) (xs:=xs) (ys:=str.data.toList) (s:=s) (sT:=sT) (xT:=xT) (ats:= #[sT,xT]) (e:=e) (by_:=by_) (ty:=ty) (x:=.string str) (w:=w) (z:=zv) hT.get rfl rfl (fun k h=>by rw [hT2.get]at h;cases h) ⟨_,hT2.get⟩ hz.get hi.get h0.get hzc hs hc KR (fun w2 hw2=>hf w2 hw2) (by rw [hl];exact hb) hby h3
 have hrun2:(execOp a.eval ⟨d,.call ⟨.builtin .append,#[x,y],#[sT,xT]⟩,ty,pos,af,g⟩).run P w=.ok (.value v) w':=by
  simp [execOp,resolve,h1.ev hx,h1.ev hy,invoke,builtin,hrun]
 simp only [Oper.wp,hrun2,Oper.upon];exact hk v H' w' hH hw'
theorem OD{b o i:Nat}{xs:List AP}[hT:E6 P T 2](hx:ev E x=some (.pointer (some ⟨b,o+i*2,none⟩)))(hr:AW B H b o xs)(hi:i<xs.length):
  Aa P B n ⟨d,.load T x,ty,pos,af,g⟩ E H (.agg #[uN (rg xs i).lo,uN (rg xs i).hi]):=I5 (hT:=hT) hx hr hi
theorem H6{b o i:Nat}{xs:List AP}[hT:CQ P T](hx:ev E x=some (.pointer (some ⟨b,o+i*2+0,none⟩)))(hr:AW B H b o xs)(hi:i<xs.length):
  Aa P B n ⟨d,.load T x,ty,pos,af,g⟩ E H (uN (rg xs i).lo):=DT (f:=0) hx hr rfl hi
theorem HO{b o i:Nat}{xs:List AP}[hT:CQ P T](hx:ev E x=some (.pointer (some ⟨b,o+i*2+1,none⟩)))(hr:AW B H b o xs)(hi:i<xs.length):
  Aa P B n ⟨d,.load T x,ty,pos,af,g⟩ E H (uN (rg xs i).hi):=DT (f:=1) hx hr rfl hi
theorem FT{p:Option Addr}{b o k c i sz q:Nat}{e:TypeId}{ik:IntKind}[hT:Ar P T (.slice e)][hz:Bw P e sz](hx:ev E x=some (.slice p k c))
  (hy:ev E y=some (.int ik i))(hs:Sl p b o k c)(h:i<k)(hq:o+i*sz=q):Aa P B n ⟨d,.indexAddr T x y,ty,pos,af,g⟩ E H (.pointer (some ⟨b,q,none⟩)):=hq▸Bm hx hy hs h
theorem Wp(pre:List UInt8)(rs:List AP)(i:Nat):pre++Bu rs i++AQ ((rg rs i).lo-(rg rs (i+1)).hi-2)++AQ ((rg rs (i+1)).hi-(rg rs (i+1)).lo)=pre++Bu rs (i+1):=by
 simp only [Bu,List.append_assoc]
theorem Nr(rs:List AP):∀i,(Bu rs i).length≤16*i
 |0=>by simp [Bu]
 |i+1=>by
  have:=Nr rs i
  have h1:=B8 ((rg rs i).lo-(rg rs (i+1)).hi-2);have h2:=B8 ((rg rs (i+1)).hi-(rg rs (i+1)).lo);simp only [Bu,l_];omega
theorem mb{b o i:Nat}{xs:List Ay}[hT:CQ P T](hx:ev E x=some (.pointer (some ⟨b,o+i*1,none⟩)))(hr:AW B H b o xs)(hi:i<xs.length):
  Aa P B n ⟨d,.load T x,ty,pos,af,g⟩ E H (uN (xs.getD i ⟨0⟩).n):=DT (f:=0) hx hr rfl hi
end
end
section
section
variable{H:Type}{Am:TypeId×Value→H}
theorem Lg(d:DataW H):1≤Rows.uptoBulk d:=by
 cases d with
 |lit l=>cases l<;>simp [Rows.uptoBulk]
 |nil=>simp [Rows.uptoBulk]
 |ptr d=>simp [Rows.uptoBulk]
 |slice elems spare=>simp [Rows.uptoBulk]
 |agg parts=>simp [Rows.uptoBulk]
 |iface t d=>simp [Rows.uptoBulk]
 |map entries=>simp [Rows.uptoBulk]
 |held h=>simp [Rows.uptoBulk]
theorem Uo(l:List (DataW H)):l.length≤Rows.uptoBulkAll l:=by
 induction l with
 |nil=>simp [Rows.uptoBulkAll]
 |cons x r ih=>have:=Lg x;simp only [Rows.uptoBulkAll,r_];omega
theorem Wj{d:DataW H}{l:List (DataW H)}(h:d∈l):Rows.uptoBulk d≤Rows.uptoBulkAll l:=by
 induction l with
 |nil=>cases h
 |cons x r ih=>
  simp only [Rows.uptoBulkAll];rcases d_.1 h with rfl|e
  ·omega
  ·have:=ih e;omega
theorem qF{α:Type}[AB α]{W:World}{H':HP}{b o:Nat}{xs:List α}(h:∀i f v,(AB.Am (xs.getD i AB.AC))[f]?=some v→i<xs.length→W.cell? ⟨b,o+i*AB.sz α+f,none⟩=some v):AW W H' b o xs:=
 ⟨fun i f v e hi w hw=>(Zn (h i f v e hi)).get w hw trivial⟩
instance:Inhabited RF:=⟨AB.AC⟩
instance:Inhabited AP:=⟨⟨0,0⟩⟩
theorem uz{α:Type}[AB α](X:Nat→α){len i:Nat}(hi:i<len):((e_ len).map X).getD i AB.AC=X i:=by
 simp [List.getD,List.getElem?_map,List.getElem?_range hi]
theorem VD{P:Program}{W:World}{α:Type}[AB α][Inhabited α]{t e fuel:Nat}{cs:List Value}{x:DataW H×List MemPlace}(Q:α→DataW H→Prop)(ht:P.underlying t=some (.slice e))(hc:P.cellsOf e=AB.sz α)(hsz:0<AB.sz α)
  (hopen:∀n cs' y,DataW.trod Am P W 0 (fun _=>true) true n e cs'=some y→∃a:α,cs'=AB.Am a∧Q a y.1)(h:DataW.trod Am P W 0 (fun _=>true) true fuel t cs=some x):
  ∃(p:Option Addr) (b o c len:Nat) (X:Nat→α),cs=[.slice p len c]∧Sl p b o len c∧(∀H',AW W H' b o ((e_ len).map X))∧
   ((len=0∧x.1=.nil)∨∃(D:Nat→DataW H) (sp:List (DataW H)),x.1=.slice ((e_ len).map D) sp∧∀i,i<len→Q (X i) (D i)):=by
 rcases Go.Deep.open_slice ht h with⟨rfl,rfl⟩|⟨a,len,cap,m,n,D,Pl,rfl,hb,hl,hm,hmm,rfl,hx⟩
 ·exact⟨none,0,0,0,0,fun _=>default,rfl,DG,fun H'=>qF (fun i f v _ hi=>by simp at hi),.inl CO⟩
 ·obtain rfl:m=cap:=by simpa using hmm
  obtain⟨X,hX⟩:=Go.Deep.choose_lt (α:=α) (n:=m) (p:=fun i a'=>W.cells? 0 (a.add (i*AB.sz α)) (AB.sz α)=some (AB.Am a')∧Q a' (D i)) (fun i hi=>by
   obtain⟨cs',h1,h2⟩:=hx i hi
   obtain⟨a',e1,e2⟩:=hopen n cs' _ h2
   rw [hc]at h1
   exact⟨a',by rw [h1,e1],e2⟩)
  have hcell:∀i f v,i<m→(AB.Am (X i))[f]?=some v→W.cell? (a.add (i*AB.sz α+f))=some v:=by
   intro i f v hi hv;obtain⟨_,_,h3⟩:=World.cells?_some (hX i hi).1
   have hf:f<AB.sz α:=by
    have:=(List.getElem?_eq_some_iff.1 hv).1
    rwa [AB.len]at this
   rw [←Go.Deep.add_add,h3 f hf,hv]
  have hspot:0<m→a.spot=none:=by
   intro h0
   have h1:0<(AB.Am (X 0)).length:=by rw [AB.len];exact hsz
   have h2:=hcell 0 0 ((AB.Am (X 0))[0]) h0 (q' h1);simp only [Nat.zero_mul,Nat.zero_add,Addr.add,if_true]at h2;unfold World.cell? at h2;split at h2
   ·split at h2
    ·cases h2
    ·rename_i hs
     cases hsp:a.spot with
     |none=>rfl
     |some z=>rw [hsp]at hs;exact absurd rfl hs
   ·cases h2
  refine⟨some a,a.block,a.off,m,len,X,rfl,⟨?_,hl⟩,fun H'=>qF fun i f v hv hi=>?_,.inr ⟨D,_,rfl,fun i hi=>(hX i Cg).2⟩⟩
  ·rcases Nat.eq_zero_or_pos m with h0|h0
   ·exact .inl h0
   ·refine .inr ?_
    have:=hspot h0
    obtain⟨bk,of,sp⟩:=a;obtain rfl:sp=none:=this;rfl
  ·rw [i_,p_]at hi;rw [uz X hi]at hv
   have:=hcell i f v Cg hv
   have hs:=hspot Cg;obtain⟨bk,of,sp⟩:=a;obtain rfl:sp=none:=hs
   have e:(⟨bk,of,none⟩:Addr).add (i*AB.sz α+f)=⟨bk,of+i*AB.sz α+f,none⟩:=by
    unfold Addr.add;split
    ·congr 1;omega
    ·show(⟨bk,of+(i*AB.sz α+f),none⟩:Addr)=_;congr 1;omega
   rwa [e]at this
theorem QI{i:Int}(h:0≤i):uN i.toNat=.int .u64 i:=by show Value.int .u64 ((i.toNat:Nat):Int)=_;rw [Int.toNat_of_nonneg h]
theorem ac{W:World}{n:Nat}{cs:List Value}{y:DataW H×List MemPlace}(h:DataW.trod Am Tryz.prog W 0 (fun _=>true) true n 227 cs=some y):∃a:AP,cs=AB.Am a∧True:=by
 obtain⟨xs,k,rfl,rfl,hcl,hxl,hf⟩:=DataW.trod_struct Tryz.underlying227 h
 have c64:Tryz.prog.cellsOf 37=1:=by kernel_rfl
 have ct:Tryz.prog.cellsOf 227=2:=by kernel_rfl
 rw [ct]at hcl
 match xs,hxl,cs,hcl with
 |[y0,y1],_,[v0,v1],_=>
  have g0:=hf 0 _ rfl;have g1:=hf 1 _ rfl;simp [c64]at g0 g1;obtain⟨i0,e0,_,w0⟩:=DataW.trod_int Tryz.underlying37 g0;obtain⟨i1,e1,_,w1⟩:=DataW.trod_int Tryz.underlying37 g1
  have b0:0≤i0∧i0≤18446744073709551615:=by simpa [Lit.wf,n_,o_,j',g']using w0
  have b1:0≤i1∧i1≤18446744073709551615:=by simpa [Lit.wf,n_,o_,j',g']using w1
  refine⟨⟨i0.toNat,i1.toNat⟩,?_,trivial⟩;simp only [xr.injEq,and_true]at e0 e1;rw [e0,e1];show _=[uN i0.toNat,uN i1.toNat];rw [QI b0.1,QI b1.1]
def ZN(W:World)(r:RF)(d:DataW H):Prop:=r.ok∧(∀H',AW W H' r.b r.o r.f.ranges)∧r.f.ranges.length+r.f.data.size+8≤Rows.uptoBulk d
theorem xI{W:World}{n:Nat}{cs:List Value}{y:DataW H×List MemPlace}(h:DataW.trod Am Tryz.prog W 0 (fun _=>true) true n 158 cs=some y):∃r:RF,cs=AB.Am r∧ZN W r y.1:=by
 obtain⟨xs,k,rfl,rfl,hcl,hxl,hf⟩:=DataW.trod_struct Tryz.underlying158 h
 have c1:Tryz.prog.cellsOf 37=1:=by kernel_rfl
 have c2:Tryz.prog.cellsOf 3=1:=by kernel_rfl
 have c3:Tryz.prog.cellsOf 4=1:=by kernel_rfl
 have c4:Tryz.prog.cellsOf 9=1:=by kernel_rfl
 have c5:Tryz.prog.cellsOf 142=1:=by kernel_rfl
 have ct:Tryz.prog.cellsOf 158=7:=by kernel_rfl
 rw [ct]at hcl
 match xs,hxl,cs,hcl with
 |[y0,y1,y2,y3,y4,y5,y6],_,[v0,v1,v2,v3,v4,v5,v6],_=>
  have g0:=hf 0 _ rfl;have g1:=hf 1 _ rfl;have g2:=hf 2 _ rfl;have g3:=hf 3 _ rfl;have g4:=hf 4 _ rfl;have g5:=hf 5 _ rfl;have g6:=hf 6 _ rfl;simp [c1,c2,c3,c4,c5]at g0 g1 g2 g3 g4 g5 g6;obtain⟨i0,e0,z0,w0⟩:=DataW.trod_int Tryz.underlying3 g0;obtain⟨i1,e1,z1,w1⟩:=DataW.trod_int Tryz.underlying3 g1;obtain⟨i2,e2,z2,w2⟩:=DataW.trod_int Tryz.underlying37 g2;obtain⟨i3,e3,z3,w3⟩:=DataW.trod_int Tryz.underlying37 g3;obtain⟨f4,e4,z4⟩:=DataW.trod_bool Tryz.underlying4 g4;obtain⟨s5,e5,z5,w5⟩:=DataW.trod_string Tryz.underlying9 g5;obtain⟨p,b,o,c,len,X,e6,hsl,hrd,hq⟩:=VD (α:=AP) (fun _ _=>True) Tryz.underlying142 Ch (by show 0<2;decide) (fun n cs' y hy=>ac hy) g6
  have b2:0≤i2∧i2≤18446744073709551615:=by simpa [Lit.wf,n_,o_,j',g']using w2
  have b3:0≤i3∧i3≤18446744073709551615:=by simpa [Lit.wf,n_,o_,j',g']using w3
  simp only [xr.injEq,and_true]at e0 e1 e2 e3 e4 e5 e6
  have hl:((e_ len).map X).length=len:=by rw [i_,p_]
  refine⟨⟨⟨i0,i1,i2.toNat,i3.toNat,f4,s5,(e_ len).map X⟩,p,b,o,c,[]⟩,?_,?_,hrd,?_⟩
  ·rw [e0,e1,e2,e3,e4,e5,e6];show _=[.int .i64 i0,.int .i64 i1,uN i2.toNat,uN i3.toNat,.bool f4,.string s5,.slice p ((e_ len).map X).length c];rw [hl,QI b2.1,QI b3.1]
  ·show Sl p b o ((e_ len).map X).length c;rw [hl];exact hsl
  ·show((e_ len).map X).length+s5.size+8≤Rows.uptoBulk (DataW.agg [y0.1,y1.1,y2.1,y3.1,y4.1,y5.1,y6.1]);rw [hl];have h0:=Lg y0.1;have h1:=Lg y1.1;have h2:=Lg y2.1;have h3:=Lg y3.1;have h4:=Lg y4.1
   have h5:Rows.uptoBulk y5.1=s5.size+1:=by
    rw [z5];show Rows.uptoBulk (DataW.lit (H:=H) (.string s5.data.toList))=_;simp [Rows.uptoBulk]
   have h6:len+1≤Rows.uptoBulk y6.1:=by
    rcases hq with⟨rfl,e⟩|⟨D,sp,e,_⟩
    ·exact Lg _
    ·rw [e]
     have:=Uo ((e_ len).map D)
     rw [i_,p_]at this;simp only [Rows.uptoBulk];omega
   simp only [Rows.uptoBulk,Rows.uptoBulkAll];omega
theorem P! {P:Program}{W:World}{r:Reach}{base:Nat}{t e:TypeId}{v:Value}(ht:P.underlying t=some (.slice e))(h:j_ P W r base t v):∃p k c,v=.slice p k c:=by
 simp only [j_,ht,Cell.okWide]at h;cases v<;>simp [Cell.ok,ht]at h;exact⟨_,_,_,rfl⟩
end
end
section
variable{B:World}
theorem Pp(x:UInt64)(k:Nat)(hk:0<k∧k<64)(H:HP):Fn Tryz.prog B 227 [u64 x,iN k] H (fun v H'=>v=u64 (KT x k)∧H'=H):=by
 refine mI Tryz.func227 ?_
 have h63:k&&&63=k:=by rw [Nat.and_two_pow_sub_one_eq_mod k 6];omega
 refine Jc ?_;refine J5 ?_;refine JL EM ?_;refine JL (m7 (j:=63) rfl rfl (by constructor<;>first|omega|exact Nat.lt_of_le_of_lt (Nat.div_le_self ..) Cg)) ?_;refine J7 ?_;refine JL (WF rfl rfl Cg) ?_;refine J2 ?_;refine JL (LT (i:=64) rfl rfl Cg) ?_;refine JL (Jk rfl rfl Cg) ?_;refine JL (XZ rfl rfl) ?_;refine J4 ?_;exact mr [4] rfl rfl ⟨by simp only [h63];rfl,rfl⟩
set_option maxHeartbeats 1000000 in
theorem qP(b k:Nat)(hk:k<1000)(v:S4)(R:HP):Fn Tryz.prog B 224 [ptr b 0,iN k] (HP.AA b 0 (s4 v)*R) (fun r H'=>r=.tuple #[]∧H'=HP.AA b 0 (s4 (I6 k v))*R):=by
 refine mI Tryz.func224 ?_;refine J3 ?_;refine Hy ?_;refine BL (fun j:Nat=>[(0,ptr b 0),(4,iN k),(5,iN j)]) (fun j=>HP.AA b 0 (s4 (I6 j v))*R) (fun j=>j≤k) (fun j=>k-j) 0 C9 CS rfl ?_;intro j hj;refine J6 ?_;refine mC (fun hc=>?_) (fun hc=>?_)
 ·refine J5 ?_;refine TC ?_;refine JT 2 rfl E8 ?_;refine Rg ?_;refine JT 6 rfl HS ?_;refine TX ?_;refine JT 10 rfl E8 ?_;refine S6 ?_;refine JT 3 rfl HS ?_;refine RI ?_;refine JT 8 rfl E8 ?_;refine Jd 9 ?_;refine Jn 11 ?_;refine Al 5 Ch rfl rfl (BK rfl (Pp _ 13 Ci _)) ?_;refine To ?_;refine JT 12 rfl HS ?_;refine On ?_;refine Lr ?_;refine mA 8 9 ?_;refine EQ ?_;refine P8 ?_;refine JT 3 rfl E8 ?_
  refine dS ?_;refine JT 7 rfl E8 ?_;refine D9 8 Ch rfl Fm ?_;refine Lr ?_;refine TC ?_;refine JT 2 rfl HG ?_;refine Rg ?_;refine JT 6 rfl Fy ?_;refine TX ?_;refine JT 10 rfl HG ?_;refine S6 ?_;refine JT 3 rfl Fy ?_;refine RI ?_;refine JT 8 rfl HG ?_;refine Jd 9 ?_;refine Jn 11 ?_;refine Al 5 Ch rfl rfl (BK rfl (Pp _ 16 Ci _)) ?_;refine To ?_
  refine JT 12 rfl Fy ?_;refine On ?_;refine Lr ?_;refine TC ?_;refine JT 2 rfl E8 ?_;refine Rg ?_;refine JT 6 rfl Fy ?_;refine TX ?_;refine JT 10 rfl E8 ?_;refine S6 ?_;refine JT 3 rfl Fy ?_;refine RI ?_;refine JT 8 rfl E8 ?_;refine Jd 9 ?_;refine Jn 11 ?_;refine Al 5 Ch rfl rfl (BK rfl (Pp _ 21 Ci _)) ?_;refine To ?_;refine JT 12 rfl Fy ?_;refine On ?_;refine JR ?_
  refine DS ?_;refine C3 ?_;refine TC ?_;refine JT 2 rfl HG ?_;refine Rg ?_;refine JT 6 rfl HS ?_;refine TX ?_;refine JT 10 rfl HG ?_;refine S6 ?_;refine JT 3 rfl HS ?_;refine RI ?_;refine JT 8 rfl HG ?_;refine Jd 9 ?_;refine Jn 11 ?_;refine Al 5 Ch rfl rfl (BK rfl (Pp _ 17 Ci _)) ?_;refine To ?_;refine JT 12 rfl HS ?_;refine On ?_;refine Dw ?_;refine J1 ?_;refine mA 8 9 ?_;refine EQ ?_;refine P8 ?_
  refine JT 3 rfl HG ?_;refine dS ?_;refine JT 7 rfl HG ?_;refine D9 8 Ch rfl Fm ?_;refine Dw ?_;refine J3 ?_;refine FO ?_;exact At (j+1) Cg Cg CS (by rw [kX];rfl)
 obtain rfl:j=k:=by omega
 refine J4 ?_;exact RD (ts:=[]) rfl rfl CO
theorem S3(p:Option Addr)(b o c:Nat)(xs:List UInt8)(H:HP)(hs:Sl p b o xs.length c)(hr:AW B H b o xs)(h8:8≤xs.length):
  Fn Tryz.prog B 222 [.slice p xs.length c] H (fun v H'=>v=u64 (le xs 8)∧H'=H):=by
 refine mI Tryz.func222 ?_;have ir:=OS (B:=B) hr;have hlen:=hs.2;refine K6 ?_;refine JL (UO (h:=8) rfl rfl Cg) ?_;refine Lm ?_;refine BL (fun j:Nat=>[(2,u64 (le xs j)),(6,.slice p 8 c),(7,iN 8),(8,iN j)]) (fun _=>H) (fun j=>j≤8) (fun j=>8-j) 0 C9 B4 rfl ?_;intro j hj;refine J6 ?_;refine mC (fun hc=>?_) (fun hc=>?_)
 ·refine J7 ?_;refine JL (Bm rfl rfl (b:=b) (o:=o) ⟨hs.1,Cg⟩ Cg) ?_;refine J8 ?_;refine JL (SP rfl) ?_;refine J1 ?_;refine JL (oS (i:=8) rfl rfl Cg) ?_;refine JL (WF rfl rfl Cg) ?_;refine JL (XZ rfl rfl) ?_;refine Fu ?_;exact At (j+1) Cg Cg B4 rfl
 obtain rfl:j=8:=by omega
 refine CR ?_;exact NJ
def Pq(m:UInt64)(v:S4):S4:=
 let v:=I6 2 {v with d:=v.d ^^^m}
 {v with a:=v.a ^^^m}
theorem ed(b:Nat)(v:S4)(m:UInt64)(R:HP):Fn Tryz.prog B 223 [u64 m,ptr b 0] (HP.AA b 0 (s4 v)*R) (fun r H'=>r=.tuple #[]∧H'=HP.AA b 0 (s4 (Pq m v))*R):=by
 refine mI Tryz.func223 ?_;refine J2 ?_;refine JL Fy ?_;refine J2 ?_;refine JL He ?_;refine JL Fy ?_;refine J5 ?_;refine mE rfl (qP b 2 Ci ⟨v.a,v.b,v.c,v.d ^^^m⟩ R) ?_;refine G6 ?_;refine JL E8 ?_;refine J2 ?_;refine JL He ?_;refine JL E8 ?_;refine J2 ?_;exact RD (ts:=[]) rfl rfl CO
def EZ(ks:List UInt8):S4:=⟨le ks 8 ^^^8317987319222330741,le (ks.drop 8) 8 ^^^7237128888997146477,le ks 8 ^^^7816392313619706465,le (ks.drop 8) 8 ^^^8387220255154660723⟩
def FP(xs:List UInt8):Nat→S4→S4
 |0,v=>v
 |k+1,v=>Pq (le (xs.drop (8*k)) 8) (FP xs k v)
def MQ(ys:List UInt8):List UInt8:=ys++c_ (8-ys.length) 0
def KP(xs:List UInt8):List UInt8:=(MQ (xs.drop (8*(xs.length/8)))).set 7 (a_ xs.length)
def G4(ks xs:List UInt8):UInt64:=
 let v:=Pq (le (KP xs) 8) (FP xs (xs.length/8) (EZ ks))
 let v:=I6 4 {v with c:=v.c ^^^255}
 v.a ^^^v.b ^^^v.c ^^^v.d
theorem tZ(ys:List UInt8)(h:ys.length<8):AE (ys.take (min ys.length 7))++([.int .u8 0,.int .u8 0,.int .u8 0,.int .u8 0,.int .u8 0,.int .u8 0,.int .u8 0,.int .u8 0]:List Value).drop (min ys.length 7*1)=AE (MQ ys):=by
 rw [show min ys.length 7=ys.length by omega,List.take_length,MQ,E0];congr 1;rw [Nat.mul_one]
 have:ys.length=0∨ys.length=1∨ys.length=2∨ys.length=3∨ys.length=4∨ys.length=5∨ys.length=6∨ys.length=7:=by omega
 rcases this with h|h|h|h|h|h|h|h<;>rw [h]<;>rfl
set_option maxHeartbeats 1000000 in
theorem bS(ks xs:List UInt8)(p:Option Addr)(b o c:Nat)(H:HP)(hk:ks.length=16)(hs:Sl p b o xs.length c)(hr:AW B H b o xs)(hx:xs.length<100000000):
  Fn Tryz.prog B 207 [.agg (AE ks).toArray,.slice p xs.length c] H (fun v H'=>v=u64 (G4 ks xs)∧H'=H):=by
 refine mI Tryz.func207 ?_;refine K2 ?_;rintro _ _ ⟨b2,rfl,rfl⟩;refine Fz ?_;refine J3 ?_
 have hs8:Sl (sp (some ⟨b2,0,none⟩) 16 8 1) b2 (0+8*1) (ks.drop 8).length (16-8):=by
  rw [show(ks.drop 8).length=16-8 by simp;omega];exact I9 (k:=16) PG Cg Cg
 refine mA 3 6 ?_;refine JT 0 rfl (TL (k:=ks.length) rfl hk) ?_;refine JT 2 rfl (tw (l:=8) (k:=(ks.drop 8).length) rfl rfl Cg Cq) ?_;refine Al 1 Ch rfl rfl (BK rfl (S3 _ b2 0 16 ks _ PG inferInstance Cg)) ?_;refine Gj ?_;refine Al 3 Ch rfl rfl (BK rfl (S3 _ b2 (0+8*1) (16-8) (ks.drop 8) _ hs8 inferInstance Cq)) ?_;refine JR ?_;refine DS ?_;refine Ec 4 Ch rfl rfl Fl EO ?_;refine Ec 5 Ch rfl rfl Fl EO ?_;refine M6 ?_;refine qD ?_;rintro _ _ ⟨b7,rfl,rfl⟩;refine Fi ?_;refine J4 ?_;refine JL Gs ?_;refine CR ?_
 refine BL (α:=Nat×Option Addr×Nat) (fun z=>[(1,.slice z.2.1 (xs.drop (8*z.1)).length z.2.2),(7,ptr b7 0),(8,.func (.func 223) #[] #[ptr b7 0]),(9,iN xs.length)]) (fun z=>HP.AA b7 0 (s4 (FP xs z.1 (EZ ks)))*(HP.AA b2 0 (AE ks)*H)) (fun z=>8*z.1≤xs.length∧Sl z.2.1 b (o+8*z.1) (xs.drop (8*z.1)).length z.2.2) (fun z=>xs.length-8*z.1) (0,p,c) ⟨h_ _,hs⟩
  B4 rfl ?_
 rintro⟨k,q,c'⟩ ⟨hk8,hz⟩;dsimp only at hk8 hz⊢;have hrk:=hr.oy (8*k)
 have hlk:(xs.drop (8*k)).length=xs.length-8*k:=by simp
 refine J5 ?_;refine JL (L9 (j:=8) rfl rfl) ?_;refine J2 ?_;refine mC (fun hc=>?_) (fun hc=>?_)
 ·refine J7 ?_;refine mE rfl (S3 _ b (o+8*k) c' (xs.drop (8*k)) _ hz inferInstance Cg) ?_;refine JR ?_;refine AV mT rfl ?_;refine JE ?_;refine JL (RT (l:=8) (k':=(xs.drop (8*(k+1))).length) rfl rfl Cg Cq) ?_;refine J2 ?_;have h1:=I9 (sz:=1) (l:=8) (h:=(xs.drop (8*k)).length) hz Cg hz.2
  exact At (k+1,sp q c' 8 1,c'-8) ⟨Cg,by
   rw [show o+8*(k+1)=o+8*k+8*1 by omega,show(xs.drop (8*(k+1))).length=(xs.drop (8*k)).length-8 by simp;omega];exact h1⟩ (by show xs.length-8*(k+1)<xs.length-8*k;omega) B4 rfl
 obtain rfl:k=xs.length/8:=by omega
 have hlt:(xs.drop (8*(xs.length/8))).length<8:=by omega
 refine J7 ?_;refine AV Rz rfl ?_;rintro _ _ ⟨b10,rfl,rfl⟩;refine J4 ?_;refine JL (ZC (h:=7) rfl rfl Cg) ?_;refine J1 ?_;refine AV (rB (b:=b10) (o:=0) (bb:=b) (oo:=o+8*(xs.length/8)) (ys:=xs.drop (8*(xs.length/8))) rfl PG rfl hz inferInstance Ci) rfl ?_;refine JR ?_;refine Aw (H':=AD b10 0 (MQ (xs.drop (8*(xs.length/8)))) []*(HP.AA b7 0 (s4 (FP xs (xs.length/8) (EZ ks)))*(HP.AA b2 0 (AE ks)*H))) (by unfold AD;rw [xu,←tZ _ hlt];rfl) ?_
 have hp8:(MQ (xs.drop (8*(xs.length/8)))).length=8:=by simp only [MQ,l_,List.length_replicate];omega
 refine J5 ?_;refine JL OM ?_;refine JL (O1 (i:=7) rfl rfl Cg) ?_;refine Bv (EG rfl rfl rfl Cg) ?_;refine JE ?_;refine JL (TL (k:=(KP xs).length) rfl Uz) ?_;refine mE rfl (S3 _ b10 0 8 (KP xs) _ ⟨.inr rfl,Uz⟩ (inferInstance:AW B (AD b10 0 (KP xs) []*_) b10 0 (KP xs)) Uz) ?_;refine JR ?_;refine Nk ?_;refine AV mT rfl ?_;refine E5 ?_;refine MB ?_;refine JL (M7 (b:=255) rfl rfl) ?_;refine JL HG ?_;refine J5 ?_;refine mE rfl (qP b7 4 Ci {Pq (le (KP xs) 8) (FP xs (xs.length/8) (EZ ks))with c:=(Pq (le (KP xs) 8) (FP xs (xs.length/8) (EZ ks))).c ^^^255} _) ?_;refine E5 ?_;refine dG ?_
 refine JL He ?_;refine J4 ?_;exact mR [4] H rfl rfl CO
end
section
variable{B:World}
def B0(n:UInt64):List UInt8:=[(n>>> 56).toUInt8,(n>>> 48).toUInt8,(n>>> 40).toUInt8,(n>>> 32).toUInt8,(n>>> 24).toUInt8,(n>>> 16).toUInt8,(n>>> 8).toUInt8,n.toUInt8]
theorem YC(n:UInt64)(p:Option Addr)(b o c:Nat)(xs:List UInt8)(s:List Value)(R:HP)(hs:Sl p b o xs.length c)(hc:xs.length*1+s.length=c*1)(hx:xs.length<100000000):
  Fn Tryz.prog B 172 [.slice p xs.length c,u64 n] (AD b o xs s*R) (fun v H'=>CH R (xs++B0 n) v H'):=by
 refine mI Tryz.func172 ?_;refine J9 ?_;refine JL (Jk (j:=56) rfl rfl Cg) ?_;refine MS ?_;refine JL (Jk (j:=48) rfl rfl Cg) ?_;refine MS ?_;refine JL (Jk (j:=40) rfl rfl Cg) ?_;refine MS ?_;refine JL (Jk (j:=32) rfl rfl Cg) ?_;refine MS ?_;refine JL (Jk (j:=24) rfl rfl Cg) ?_;refine MS ?_;refine JL (Jk (j:=16) rfl rfl Cg) ?_;refine MS ?_;refine JL (Jk (j:=8) rfl rfl Cg) ?_;refine MS ?_;refine JL WS ?_;refine FM ?_;rintro _ _ ⟨b29,rfl,rfl⟩;refine Aw (H':=AD b o xs s*(HP.AA b29 0 (AE (B0 n))*R)) I0 ?_;refine AV (Bf (ys:=B0 n) (bb:=b29) (oo:=0) rfl hs hc rfl Bc inferInstance rfl TE Cg) rfl ?_;rintro _ _ ⟨q,b',o',c',s',rfl,h1,h2,rfl⟩;refine J4 ?_;exact mR [4] (AD b' o' (xs++B0 n) s'*R) rfl rfl ⟨q,b',o',c',s',rfl,h1,h2,rfl⟩
theorem UV(n:UInt64)(R:HP):Fn Tryz.prog B 172 [.slice none 0 0,u64 n] R (fun v H'=>CH R (B0 n) v H'):=by
 have h:=YC (B:=B) n none 0 0 0 [] [] R DG rfl Cl;rw [FI,HP.BA]at h;exact h
def BM(first:Bool):UInt8:=bif first then 0 else 1
theorem Ff{ks:List UInt8}(hk:ks.length=16):(AE ks).length=16:=by rw [CD,hk];rfl
theorem fE(ks:List UInt8)(hk:ks.length=16)(first:Bool)(H:HP):
  Fn Tryz.prog B 75 [.agg (AE ks).toArray,.bool first] H (fun v H'=>v=.agg (AE ks++[u8 (BM first)]).toArray∧H'=H):=by
 refine mI Tryz.func75 ?_;refine K2 ?_;rintro _ _ ⟨b2,rfl,rfl⟩;refine AV (GX (l:=[_,_,_,_,_,_,_,_,_,_,_,_,_,_,_,_,_]) rfl) rfl ?_;rintro _ _ ⟨b4,rfl,rfl⟩;refine J8 ?_;refine mc (fun hc=>?_) (fun hc=>?_)
 ·subst hc;refine J2 ?_;refine JL Lh ?_;refine JL (Ph (cs:=AE ks++[u8 0]) rfl (Hf [] (c_ 16 (u8 0)) [u8 0] (AE ks) Po rfl Po rfl Pn)) ?_;refine Bv (GS rfl rfl iY Ye) ?_;refine E5 ?_;exact NA H rfl (Iv (NI rfl (by simp [Ff hk])) KX) CO
 subst hc;refine J4 ?_;refine JL Lh ?_;refine JL (Ph (cs:=AE ks++[u8 1]) rfl (Hf [] (c_ 16 (u8 0)) [u8 0] (AE ks) Po rfl Po rfl (Hf (AE ks) [u8 0] [] [u8 1] Po Cl rfl rfl (by simp only [xu];exact Pn)))) ?_;refine Bv (GS rfl rfl iY Ye) ?_;refine G6 ?_;exact NA H rfl (Iv (NI rfl (by simp [Ff hk])) KX) CO
theorem uu(ks:List UInt8)(side:UInt8)(number:UInt64)(H:HP):
  Fn Tryz.prog B 206 [.agg (AE ks++[u8 side]).toArray,u64 number] H (fun v H'=>∃b2 b3,v=.func (.func 221) #[] #[ptr b2 0,ptr b3 0]∧H'=HP.AA b3 0 [u64 number]*(HP.AA b2 0 (AE ks++[u8 side])*H)):=by
 refine mI Tryz.func206 ?_;refine Qc ?_;rintro _ _ ⟨b2,rfl,rfl⟩;refine AV (DP (l:=[u64 number]) rfl rfl) rfl ?_;rintro _ _ ⟨b3,rfl,rfl⟩;refine J5 ?_;refine JL Gs ?_;refine J4 ?_;exact mr [4] rfl rfl ⟨b2,b3,rfl,rfl⟩
def FF(side kind:UInt8)(n:UInt64):List UInt8:=[side,kind]++B0 n
def MA(ks:List UInt8)(side:UInt8)(n:UInt64)(k:Nat):List UInt8:=B0 (G4 ks (FF side 1 n++[a_ k]))
def Qd(ks:List UInt8)(side:UInt8)(n:UInt64)(i:Nat):UInt8:=(MA ks side n (i/8)).getD (i%8) 0
def DA(ks:List UInt8)(side:UInt8)(n:UInt64)(m:Nat):List UInt8:=(e_ m).map (Qd ks side n)
theorem o6(ks:List UInt8)(side:UInt8)(n:UInt64)(k j:Nat)(h:j<8):Qd ks side n (8*k+j)=(MA ks side n k).getD j 0:=by
 rw [Qd,show(8*k+j)/8=k by omega,show(8*k+j)%8=j by omega]
theorem KL(ks:List UInt8)(side:UInt8)(n:UInt64)(m:Nat):(DA ks side n m).length=m:=by simp [DA]
theorem oK(ks:List UInt8)(side:UInt8)(n:UInt64)(m:Nat):DA ks side n m++[Qd ks side n m]=DA ks side n (m+1):=by simp [DA,List.range_succ]
theorem W2(n:UInt64):(B0 n).length=8:=rfl
set_option maxHeartbeats 1000000 in
theorem fw(ks:List UInt8)(hk:ks.length=16)(side:UInt8)(number:UInt64)(N:Nat)(hN:0<N∧N<100000000)(b2 b3:Nat)(R:HP):
  Of Tryz.prog B 221 [ptr b2 0,ptr b3 0] u8 (fun _=>False) (fun pre=>pre=DA ks side number pre.length∧pre.length≤N) (fun pre=>pre.length<N)
   (HP.AA b2 0 (AE ks)*(HP.AA b2 (0+16) [u8 side]*(HP.AA b3 0 [u64 number]*R))) (HP.AA b2 0 (AE ks)*(HP.AA b2 (0+16) [u8 side]*(HP.AA b3 0 [u64 number]*R))):=by
 intro l J Jx hy;refine mI Tryz.func221 ?_;refine J2 ?_;refine JL MX ?_;refine J3 ?_
 refine BL (fun k:Nat=>[(0,.func (.yield l) #[] #[]),(1,ptr b2 0),(2,ptr b3 0),(4,iN k)]) (fun k=>J (DA ks side number (8*k))*(HP.AA b2 0 (AE ks)*(HP.AA b2 (0+16) [u8 side]*(HP.AA b3 0 [u64 number]*R)))) (fun k=>8*k<N) (fun k=>N-8*k) 0 Cg
  B4 rfl ?_
 intro k hkN;refine J6 ?_;refine AV I3 rfl ?_;rintro _ _ ⟨b12,rfl,rfl⟩;refine Aw (H':=AD b12 0 [side,1] []*(J (DA ks side number (8*k))*(HP.AA b2 0 (AE ks)*(HP.AA b2 (0+16) [u8 side]*(HP.AA b3 0 [u64 number]*R))))) rfl ?_;refine J1 ?_;refine mE rfl (YC number (some ⟨b12,0,none⟩) b12 0 2 [side,1] [] _ Bc rfl Cl) ?_;rintro _ _ ⟨p14,b14,o14,c14,s14,rfl,hs14,hc14,rfl⟩;refine J1 ?_;refine JL OM ?_;refine AV I3 rfl ?_;rintro _ _ ⟨b17,rfl,rfl⟩;refine Aw (H':=AD b14 o14 ([side,1]++B0 number) s14*(HP.AA b17 0 (AE [a_ k])*(J (DA ks side number (8*k))*(HP.AA b2 0 (AE ks)*(HP.AA b2 (0+16) [u8 side]*(HP.AA b3 0 [u64 number]*R)))))) I0 ?_;refine AV (Bf (ys:=[a_ k]) (bb:=b17) (oo:=0) rfl hs14 hc14 rfl Bc inferInstance rfl So Cg) rfl ?_;rintro _ _ ⟨p18,b18,o18,c18,s18,rfl,hs18,hc18,rfl⟩;refine J6 ?_;refine JL Z8 ?_;refine J1 ?_;refine mE rfl (bS ks ([side,1]++B0 number++[a_ k]) p18 b18 o18 c18 _ hk hs18 inferInstance So) ?_;refine JR ?_;refine mE rfl (UV _ _) ?_;rintro _ _ ⟨p23,b23,o23,c23,s23,rfl,hs23,hc23,rfl⟩;refine J1 ?_
 refine Hy ?_;refine Hs (AD b23 o23 (B0 (G4 ks ([side,1]++B0 number++[a_ k]))) s23*(J (DA ks side number (8*k))*(HP.AA b2 0 (AE ks)*(HP.AA b2 (0+16) [u8 side]*(HP.AA b3 0 [u64 number]*R))))) ?_
 refine BL (fun j:Nat=>[(0,.func (.yield l) #[] #[]),(1,ptr b2 0),(2,ptr b3 0),(4,iN k),(23,.slice p23 8 c23),(24,iN 8),(25,iN j)]) (fun j=>J (DA ks side number (8*k+j))*(AD b23 o23 (MA ks side number k) s23*(HP.AA b2 0 (AE ks)*(HP.AA b2 (0+16) [u8 side]*(HP.AA b3 0 [u64 number]*R))))) (fun j=>j≤8∧8*k+j<N) (fun j=>8-j) 0 Cg
  NX (HP.C8 _ _ _) ?_
 intro j hj;refine J6 ?_;refine mC (fun hc=>?_) (fun hc=>?_)
 ·refine J6 ?_;refine JL (Bm rfl rfl (b:=b23) (o:=o23) hs23 (by show j<8;omega)) ?_;refine JL (Fo rfl (by show j<8;omega)) ?_;refine J7 ?_
  have hsp:DA ks side number (8*k+j)++[(MA ks side number k).getD j 0]=DA ks side number (8*k+(j+1)):=by rw [←o6 ks side number k j hc,oK];rfl
  refine Ow (Vg rfl rfl (hy (DA ks side number (8*k+j)) ((MA ks side number k).getD j 0) _ bJ)) rfl ?_;rintro _ _ ⟨g,rfl,hg,rfl⟩;refine Eb ?_;refine mc (fun hc=>?_) (fun hc=>?_)
  ·skip
   obtain rfl:g=false:=by simpa using hc
   refine J9 ?_;refine EC (H':=Jx (DA ks side number (8*k+j)++[(MA ks side number k).getD j 0])*(AD b23 o23 (MA ks side number k) s23*(HP.AA b2 0 (AE ks)*(HP.AA b2 (0+16) [u8 side]*(HP.AA b3 0 [u64 number]*R))))) rfl ?_;exact mR [] (Jx (DA ks side number (8*k+j)++[(MA ks side number k).getD j 0])*(HP.AA b2 0 (AE ks)*(HP.AA b2 (0+16) [u8 side]*(HP.AA b3 0 [u64 number]*R)))) rfl rfl (.inr ⟨_,bJ,rfl⟩)
  obtain rfl:g=true:=by simpa using hc
  refine Fb ?_;exact At (j+1) ⟨Cg,by have:=hg rfl;rw [hsp,KL]at this;omega⟩ Cg NX (by show J _*_=J _*_;rw [hsp])
 obtain rfl:j=8:=by omega
 refine J8 ?_;refine FO ?_;refine Au (J (DA ks side number (8*k+8))*(HP.AA b2 0 (AE ks)*(HP.AA b2 (0+16) [u8 side]*(HP.AA b3 0 [u64 number]*R)))) ?_;exact At (k+1) Cg Cg B4 rfl
def CL(xs ms:List UInt8):List UInt8:=List.zipWith (·^^^ ·) xs ms
def C6(ks:List UInt8)(side:UInt8)(n:UInt64)(xs:List UInt8):List UInt8:=CL xs (DA ks side n xs.length)
theorem LE(xs ms:List UInt8)(h:ms.length≤xs.length):(CL xs ms).length=ms.length:=by simp [CL];omega
theorem Z'(xs ms:List UInt8)(m:UInt8)(h:ms.length<xs.length):CL xs (ms++[m])=CL xs ms++[xs.getD ms.length 0 ^^^m]:=by
 have e:xs=xs.take ms.length++(xs.getD ms.length 0::xs.drop (ms.length+1)):=by
  rw [m_,q' h,Option.getD_some,List.getElem_cons_drop,t_]
 have e2:CL xs ms=CL (xs.take ms.length) ms:=by
  rw [CL,CL]
  conv=>lhs;rw [←t_ ms.length xs]
  rw [show ms=ms++[] by simp,u_ Cq]
  simp
 rw [e2]
 conv=>lhs;rw [e]
 rw [CL,CL,u_ Cq]
 simp
theorem gx(xs ms:List UInt8)(m:UInt8)(h:ms.length<xs.length):CL xs (ms++[m])=CL xs ms++[xs.getD (CL xs ms).length 0 ^^^m]:=by
 rw [Z' xs ms m h,LE xs ms Cg]
abbrev It:=Option Addr×Nat×Nat×Nat×List Value
def It.ok(z:It)(k:Nat):Prop:=Sl z.1 z.2.1 z.2.2.1 k z.2.2.2.1∧k*1+z.2.2.2.2.length=z.2.2.2.1*1
abbrev It.at(z:It)(b7:Nat)(xs:List UInt8)(R:HP):HP:=HP.AA b7 0 [.slice z.1 xs.length z.2.2.2.1]*(AD z.2.1 z.2.2.1 xs z.2.2.2.2*R)
set_option maxHeartbeats 1000000 in
theorem Yp(ks:List UInt8)(hk:ks.length=16)(side:UInt8)(number:UInt64)(xs:List UInt8)(p:Option Addr)(b o c:Nat)(H:HP)(hs:Sl p b o xs.length c)(hr:AW B H b o xs)(hx:xs.length<100000000):
  Fn Tryz.prog B 170 [.agg (AE ks++[u8 side]).toArray,u64 number,.slice p xs.length c] H (fun v H'=>CH H (C6 ks side number xs) v H'):=by
 refine TA Tryz.func170 rfl rfl rfl ?_;refine Qc ?_;rintro _ _ ⟨b3,rfl,rfl⟩;refine Mx ?_;rintro _ _ ⟨b5,rfl,rfl⟩;refine J7 ?_;refine AV (m9 (α:=UInt8) rfl rfl ⟨Cg,Cg⟩) rfl ?_;rintro _ _ ⟨p11,b11,o11,c11,s11,rfl,hs11,hc11,rfl⟩;refine P7 ?_;rintro _ _ ⟨b7,rfl,rfl⟩;refine J8 ?_;refine Kr ?_;refine mC (fun hc=>?_) (fun hc=>?_)
 ·obtain rfl:xs=[]:=List.length_eq_zero_iff.1 hc;refine J8 ?_;refine Au (AD b11 o11 ([]:List UInt8) s11*H) ?_;exact R3 (ts:=[6]) [] _ rfl rfl ⟨p11,b11,o11,c11,s11,rfl,hs11,hc11,rfl⟩ rfl
 refine J5 ?_;refine JL PJ ?_;refine J1 ?_;refine mE rfl (uu ks side number _) ?_;rintro _ _ ⟨b2',b3',rfl,rfl⟩;refine J3 ?_
 refine i7 (α:=UInt8) u8 (fun _=>False) (fun pre=>pre=DA ks side number pre.length∧pre.length≤xs.length) (fun pre=>pre.length<xs.length) (fun pre=>HP.ex fun z:It=>HP.pr (z.ok (CL xs pre).length)*z.at b7 (CL xs pre) (HP.AA b5 0 [.slice p xs.length c]*H)) (fun id pre=>HP.ex fun z:It=>HP.pr (id=0∧pre.length=xs.length∧z.ok (CL xs pre).length)*z.at b7 (CL xs pre) (HP.AA b5 0 [.slice p xs.length c]*H)) (HP.AA b2' 0 (AE ks)*(HP.AA b2' (0+16) [u8 side]*(HP.AA b3' 0 [u64 number]*HP.AA b3 0 (AE ks++[u8 side])))) (HP.AA b2' 0 (AE ks)*(HP.AA b2' (0+16) [u8 side]*(HP.AA b3' 0 [u64 number]*HP.AA b3 0 (AE ks++[u8 side])))) (fun x=>[(8,u8 x),(7,ptr b7 0),(5,ptr b5 0)]) rfl rfl rfl ?_ (fw ks hk side number xs.length ⟨Cg,hx⟩ b2' b3' _) ?_ ?_ ?_ ?_
 ·have hx0:CL xs []=[]:=by simp [CL]
  refine I4 (p11,b11,o11,c11,s11) (by rw [hx0];exact⟨hs11,hc11⟩) ?_;rw [HP.Ft b2' 0 (AE ks) [u8 side],Ff hk];rw [hx0];show _=HP.AA b7 0 [.slice p11 ([]:List UInt8).length c11]*(AD b11 o11 [] s11*(HP.AA b5 0 [.slice p xs.length c]*H))*_;ac_rfl
 ·intro pre x l R;refine J3 ?_;exact uq CS rfl
 ·intro pre x l R hsp;refine Nc ?_;rintro⟨q,bq,oq,cq,sq⟩ ⟨hq1,hq2⟩;dsimp only [It.at]at hq1 hq2⊢;obtain⟨hp1,hp2⟩:=hsp;rw [l_,List.length_singleton]at hp2;have hxl:=LE xs pre Cg;have hrr:AW B (HP.AA b7 0 [.slice q (CL xs pre).length cq]*(AD bq oq (CL xs pre) sq*(HP.AA b5 0 [.slice p xs.length c]*H))*R) b o xs:=inferInstance;have ir:=OS hrr;have hsn:=gx xs pre x Cg;refine J2 ?_;refine mA 9 11 ?_;refine Jd 0 ?_;refine Jd 1 ?_;refine Jd 2 ?_;refine JT 3 rfl Dm ?_;refine JT 4 rfl Yx ?_;refine JT 5 rfl UA ?_;refine Jm 6 ?_;refine JT 7 rfl (aT rfl rfl) ?_;refine Al 8 Ch rfl rfl I3 ?_;rintro _ _ ⟨b28,rfl,rfl⟩;refine⟨.inr inferInstance,?_⟩;refine FB (H':=AD bq oq (CL xs pre) sq*(HP.AA b28 0 (AE [xs.getD (CL xs pre).length 0 ^^^x])*(HP.AA b7 0 [.slice q (CL xs pre).length cq]*(HP.AA b5 0 [.slice p xs.length c]*H)*R))) (by show HP.AA b28 0 _*_=_;ac_rfl) ?_;refine Al 9 Ch rfl rfl (Bf (ys:=[xs.getD (CL xs pre).length 0 ^^^x]) (bb:=b28) (oo:=0) rfl hq1 hq2 rfl Bc inferInstance rfl Cq Cg) ?_;rintro _ _ ⟨q2,b2,o2,c2,s2,rfl,h2,h3,rfl⟩;refine⟨.inl Ci,?_⟩;refine D9 10 Ch rfl Fm ?_
  refine Dw ?_;refine J7 ?_;refine Mj ?_;refine mC (fun hc=>?_) (fun hc=>?_)
  ·refine J2 ?_;refine nJ ?_;exact te (I4 (q2,b2,o2,c2,s2) ⟨rfl,gR,by rw [hsn];exact h2,by rw [hsn];exact h3⟩ bZ)
  refine J2 ?_;refine nJ ?_;exact ay gR (I4 (q2,b2,o2,c2,s2) ⟨by rw [hsn];exact h2,by rw [hsn];exact h3⟩ bZ)
 ·intro d xs hS;exact hS.elim
 intro d pre id hS;refine TT ?_;rintro⟨q,bq,oq,cq,sq⟩ ⟨rfl,hlen,hq1,hq2⟩;dsimp only [It.at]at hq1 hq2⊢
 have hpre:CL xs pre=C6 ks side number xs:=by rw [C6,←hlen,←hS.1]
 rw [hpre]at hq1 hq2⊢;refine J9 ?_;refine Au (AD bq oq (C6 ks side number xs) sq*(H*HP.obj d (.deferred (some [])))) ?_;refine EC (H':=HP.obj d (.deferred (some []))*(AD bq oq (C6 ks side number xs) sq*H)) Cm ?_;exact R3 (ts:=[6]) [d] _ rfl rfl ⟨q,bq,oq,cq,sq,rfl,hq1,hq2,rfl⟩ rfl
def Gg(ks:List UInt8)(side:UInt8)(n:UInt64)(xs:List UInt8):List UInt8:=B0 (G4 ks (FF side 2 n++xs))
theorem iO(ks:List UInt8)(side:UInt8)(n:UInt64)(xs:List UInt8):(Gg ks side n xs).length=8:=rfl
set_option maxHeartbeats 1000000 in
theorem bH(ks:List UInt8)(hk:ks.length=16)(side:UInt8)(number:UInt64)(xs:List UInt8)(p:Option Addr)(b o c:Nat)(H:HP)(hs:Sl p b o xs.length c)(hr:AW B H b o xs)(hx:xs.length<90000000):
  Fn Tryz.prog B 171 [.agg (AE ks++[u8 side]).toArray,u64 number,.slice p xs.length c] H (fun v H'=>v=.agg (AE (Gg ks side number xs)).toArray∧H'=H):=by
 refine mI Tryz.func171 ?_;refine Qc ?_;rintro _ _ ⟨b3,rfl,rfl⟩;refine Aw (H':=HP.AA b3 0 (AE ks)*(HP.AA b3 (0+16) [u8 side]*H)) (by rw [HP.Ft,Ff hk,HP.assoc]) ?_;refine AV Rz rfl ?_;rintro _ _ ⟨b6,rfl,rfl⟩;refine J4 ?_;refine AV Rz rfl ?_;rintro _ _ ⟨b7,rfl,rfl⟩;refine J3 ?_;refine Ap (H':=HP.AA b7 0 [u8 0,u8 0,u8 0,u8 0,u8 0,u8 0,u8 0,u8 0]*(HP.AA b6 0 [u8 0,u8 0,u8 0,u8 0,u8 0,u8 0,u8 0,u8 0]*(HP.AA b3 0 (AE ks)*(HP.AA b3 (0+16) [u8 side]*H)))) rfl ?_;have hrr:AW B (HP.AA b7 0 [u8 0,u8 0,u8 0,u8 0,u8 0,u8 0,u8 0,u8 0]*(HP.AA b6 0 [u8 0,u8 0,u8 0,u8 0,u8 0,u8 0,u8 0,u8 0]*(HP.AA b3 0 (AE ks)*(HP.AA b3 (0+16) [u8 side]*H)))) b o xs:=inferInstance;refine mA 12 13 ?_;refine JT 0 rfl (TL (k:=8) rfl rfl) ?_;refine Jf 1 ?_;refine JT 2 rfl Z8 ?_;refine Lb ?_;refine JW ?_;refine Jm 6 ?_;refine Jm 8 ?_;refine Al 5 Ch rfl rfl I3 ?_;rintro _ _ ⟨b13,rfl,rfl⟩;refine BF ?_;refine FB (H':=AD b13 0 [side,2] []*(HP.AA b7 0 [u8 0,u8 0,u8 0,u8 0,u8 0,u8 0,u8 0,u8 0]*(HP.AA b6 0 [u8 0,u8 0,u8 0,u8 0,u8 0,u8 0,u8 0,u8 0]*(HP.AA b3 0 (AE ks)*(HP.AA b3 (0+16) [u8 side]*H))))) rfl ?_
 refine Al 7 Ch rfl rfl (BK rfl (YC number (some ⟨b13,0,none⟩) b13 0 2 [side,2] [] _ Bc rfl Cl)) ?_;rintro _ _ ⟨p15,b15,o15,c15,s15,rfl,hs15,hc15,rfl⟩;refine BF ?_;refine Al 9 Ch rfl rfl jV ?_;rintro _ _ ⟨p17,b17,o17,c17,s17,rfl,hs17,hc17,rfl⟩;refine BF ?_;refine Al 10 Ch rfl rfl (BK rfl (bS ks ([side,2]++B0 number++xs) p17 b17 o17 c17 _ hk hs17 inferInstance TE)) ?_;refine Gj ?_;refine Al 11 Ch rfl rfl (BK rfl (UV _ _)) ?_;rintro _ _ ⟨p19,b19,o19,c19,s19,rfl,hs19,hc19,rfl⟩;refine BF ?_;refine FB (H':=HP.AA b7 0 [u8 0,u8 0,u8 0,u8 0,u8 0,u8 0,u8 0,u8 0]*(AD b19 o19 (Gg ks side number xs) s19*(AD b17 o17 ([side,2]++B0 number++xs) s17*(HP.AA b6 0 [u8 0,u8 0,u8 0,u8 0,u8 0,u8 0,u8 0,u8 0]*(HP.AA b3 0 (AE ks)*(HP.AA b3 (0+16) [u8 side]*H)))))) (by show AD b19 o19 (Gg ks side number xs) s19*_=_;ac_rfl) ?_;refine Al 12 Ch rfl rfl (rB (b:=b7) (o:=0) (bb:=b19) (oo:=o19) (ys:=Gg ks side number xs) rfl Bc rfl hs19 inferInstance Ci) ?_;refine Dw ?_;refine J3 ?_;refine JL (Dp (l:=AE (Gg ks side number xs)) rfl rfl) ?_
 refine Bv (GS rfl rfl Cn (Lw _)) ?_;refine G6 ?_;exact nR
theorem XH(ks:List UInt8)(side:UInt8)(n:UInt64)(xs:List UInt8):(C6 ks side n xs).length=xs.length:=by
 rw [C6,LE _ _ qT,KL]
def DK(ks:List UInt8)(side:UInt8)(n:UInt64)(xs:List UInt8):List UInt8:=B0 n++C6 ks side n xs++Gg ks side n (C6 ks side n xs)
theorem cC(ks:List UInt8)(hk:ks.length=16)(side:UInt8)(number:UInt64)(xs:List UInt8)(p:Option Addr)(b o c:Nat)(H:HP)(hs:Sl p b o xs.length c)(hr:AW B H b o xs)(hx:xs.length<90000000):
  Fn Tryz.prog B 141 [.agg (AE ks++[u8 side]).toArray,u64 number,.slice p xs.length c] H (fun v H'=>CH H (DK ks side number xs) v H'):=by
 refine mI Tryz.func141 ?_;have hml:=XH ks side number xs;refine Qc ?_;rintro _ _ ⟨b3,rfl,rfl⟩;refine J5 ?_;refine JL PJ ?_;refine J2 ?_;refine mE rfl (Yp ks hk side number xs p b o c _ hs inferInstance Cg) ?_;rintro _ _ ⟨p12,b12,o12,c12,s12,rfl,hs12,hc12,rfl⟩;refine J5 ?_;refine JL PJ ?_;refine J2 ?_;refine mE rfl (bH ks hk side number (C6 ks side number xs) p12 b12 o12 c12 _ hs12 inferInstance Cg) ?_;refine JR ?_;refine AV Rz rfl ?_;rintro _ _ ⟨b8,rfl,rfl⟩;refine Bv (GS rfl rfl Cn (Lw _)) ?_;refine G6 ?_;refine mA 5 7 ?_;refine Fr ?_;refine Jm 2 ?_;refine JT 4 rfl (TL (k:=8) rfl rfl) ?_;refine Al 1 Ch rfl rfl (BK rfl (UV _ _)) ?_;rintro _ _ ⟨p18,b18,o18,c18,s18,rfl,hs18,hc18,rfl⟩;refine BF ?_;refine Al 3 Ch rfl rfl (Bf (ys:=C6 ks side number xs) (bb:=b12) (oo:=o12) rfl hs18 hc18 rfl hs12 inferInstance rfl TW Cg) ?_;rintro _ _ ⟨p20,b20,o20,c20,s20,rfl,hs20,hc20,rfl⟩;refine BF ?_
 refine Al 5 Ch rfl rfl (Bf (ys:=Gg ks side number (C6 ks side number xs)) (bb:=b8) (oo:=0) rfl hs20 hc20 rfl Bc inferInstance rfl aX Cg) ?_;rintro _ _ ⟨p22,b22,o22,c22,s22,rfl,hs22,hc22,rfl⟩;refine DS ?_;refine Sk ?_;refine C3 ?_;exact mR [6] (AD b22 o22 (B0 number++C6 ks side number xs++Gg ks side number (C6 ks side number xs)) s22*H) rfl rfl ⟨p22,b22,o22,c22,s22,rfl,hs22,hc22,rfl⟩
def be(xs:List UInt8):Nat→UInt64
 |0=>0
 |i+1=>(be xs i<<< 8)|||(xs.getD i 0).toUInt64
def EL(xs:List UInt8):List UInt8:=(xs.take (xs.length-8)).drop 8
def Bj(ks:List UInt8)(side:UInt8)(xs:List UInt8):Option (UInt64×List UInt8):=
 if xs.length<16∨300<xs.length then none
 else if 4611686018427387903<(be xs 8).toNat∨Gg ks side (be xs 8) (EL xs)≠xs.drop (xs.length-8)then none
 else some (be xs 8,C6 ks side (be xs 8) (EL xs))
set_option maxHeartbeats 1000000 in
theorem Z2(ks:List UInt8)(hk:ks.length=16)(side:UInt8)(xs:List UInt8)(p:Option Addr)(b o c:Nat)(H:HP)(hs:Sl p b o xs.length c)(hr:AW B H b o xs)(hx:xs.length<90000000):
  Fn Tryz.prog B 142 [.agg (AE ks++[u8 side]).toArray,.slice p xs.length c] H (fun v H'=>match Bj ks side xs with
   |none=>v=.tuple #[u64 0,.slice none 0 0,.bool false]∧H'=H
   |some (n,ys)=>∃sv,v=.tuple #[u64 n,sv,.bool true]∧CH H ys sv H'):=by
 refine mI Tryz.func142 ?_;refine Qc ?_;rintro _ _ ⟨b2,rfl,rfl⟩;refine Fz ?_;refine J8 ?_;refine JL (LW (i:=(xs.length:Int)) (j:=8) rfl rfl Cg) ?_;refine J7 ?_;refine JL (JQ (j:=8) rfl rfl) ?_;refine J1 ?_;refine CJ 15 rfl (fun hg1=>?_) (fun hg1=>?_)
 ·refine I8 ?_;refine OC ?_;refine K6 ?_;exact mR [4,5,6] H rfl rfl dE
 refine KO ?_;refine Ir ?_;refine JL (I' (j:=300) rfl rfl) ?_;refine Iq ?_;refine mC (fun hc=>?_) (fun hc=>?_)
 ·refine K6 ?_;exact mR [4,5,6] H rfl rfl dE
 have e8:((xs.length:Int)-8)=((xs.length-8:Nat):Int):=by omega
 rw [e8]
 have h16:16≤xs.length:=by omega
 have h300:xs.length≤300:=by omega
 have hbl:(EL xs).length=xs.length-16:=by simp [EL];omega
 have hop:¬(xs.length<16∨300<xs.length):=by omega
 have ir:=OS (B:=B) hr
 have hsB:Sl (sp p c 8 1) b (o+8*1) (EL xs).length (c-8):=by
  have:=I9 (sz:=1) (l:=8) (h:=xs.length-8) hs Cg Cp
  rw [hbl,show xs.length-16=xs.length-8-8 by omega];exact this
 have hrB:AW B H b (o+8*1) (EL xs):=hr.sub 8 (xs.length-8) Cg
 have hsT:Sl (sp p c (xs.length-8) 1) b (o+(xs.length-8)*1) (xs.drop (xs.length-8)).length (c-(xs.length-8)):=by
  have:=I9 (sz:=1) (l:=xs.length-8) (h:=xs.length) hs Cg hs.2
  rw [xt];exact this
 have hrT:AW B H b (o+(xs.length-8)*1) (xs.drop (xs.length-8)):=hr.LB (xs.length-8)
 have hT8:(xs.drop (xs.length-8)).length=8:=by rw [xt];omega
 refine J6 ?_;refine JL (UO (h:=8) rfl rfl Cp) ?_;refine Lm ?_
 refine BL (fun j:Nat=>[(1,.slice p xs.length c),(2,ptr b2 0),(7,iN (xs.length-8)),(21,.slice p 8 c),(22,iN 8),(23,iN j),(4,u64 (be xs j))]) (fun _=>HP.AA b2 0 (AE ks++[u8 side])*H) (fun j=>j≤8) (fun j=>8-j) 0 C9
  NX rfl ?_
 intro j hj;refine J6 ?_;refine mC (fun hc=>?_) (fun hc=>?_)
 ·refine J6 ?_;refine JL (Bm rfl rfl (b:=b) (o:=o) ⟨hs.1,Cp⟩ Cg) ?_;refine JL UA ?_;refine J5 ?_;refine JL (WF (j:=8) rfl rfl Cg) ?_;refine J1 ?_;refine JL (SP rfl) ?_;refine JL (XZ rfl rfl) ?_;refine Fu ?_;exact At (j+1) Cg Cg NX rfl
 obtain rfl:j=8:=by omega
 refine J7 ?_;refine mA 16 16 ?_;refine Fr ?_;refine JT 1 rfl fP ?_;refine Jm 2 ?_;refine DM 35 rfl (fun hg2=>?_) (fun hg2=>?_)
 ·refine JN 3 rfl T2 ?_;refine JN 4 rfl T2 ?_;refine JN 5 rfl T2 ?_;refine JN 6 rfl T2 ?_;refine JN 7 rfl T2 ?_;refine JN 9 rfl T2 ?_;refine JN 10 rfl T2 ?_;refine JN 11 rfl T2 ?_;refine JN 12 rfl T2 ?_;refine JN 13 rfl T2 ?_;refine JN 8 rfl T2 ?_;refine JN 14 rfl T2 ?_;refine JT 15 rfl FR ?_;refine Jw ?_;refine K6 ?_;exact mR [4,5,6] H rfl rfl (by rw [show Bj ks side xs=none from by rw [Bj,if_neg hop,if_pos (.inl hg2)]];exact CO)
 refine JY 3 rfl F2 PJ ?_;refine JY 4 rfl F2 A4 ?_;refine JY 5 rfl F2 A4 ?_;refine JY 6 rfl F2 A4 ?_;refine JY 7 rfl F2 Wo ?_;refine JY 9 rfl F2 A4 ?_;refine JY 10 rfl F2 A4 ?_;refine JY 11 rfl F2 jZ ?_;refine JY 12 rfl F2 (vG rfl hsT Cg Cg) ?_;refine JY 13 rfl F2 (qG (xs:=xs.drop (xs.length-8)) (o:=o+(xs.length-8)*1) rfl inferInstance (by rw [hT8];rfl)) ?_;refine SF 8 Ch rfl rfl rfl rfl F2 (BK rfl (bH ks hk side (be xs 8) (EL xs) (sp p c 8 1) b (o+8*1) (c-8) _ hsB inferInstance Cg)) ?_;refine Gj ?_;refine JY 14 rfl F2 (nu (xs:=Gg ks side (be xs 8) (EL xs)) (ys:=xs.drop (xs.length-8)) Ch rfl rfl rfl hT8) ?_;refine JT 15 rfl FQ ?_;refine EU ?_;refine mC (fun hc=>?_) (fun hc=>?_)
 ·refine K6 ?_;exact mR [4,5,6] H rfl rfl (by rw [show Bj ks side xs=none from by rw [Bj,if_neg hop,if_pos (.inr hc)]];exact CO)
 refine J3 ?_;refine mA 10 10 ?_;refine Fr ?_;refine JT 1 rfl PJ ?_;refine Jm 2 ?_;refine Jm 3 ?_;refine HD ?_;refine JT 5 rfl Wo ?_;refine Al 6 Ch rfl rfl (BK rfl (Yp ks hk side (be xs 8) (EL xs) (sp p c 8 1) b (o+8*1) (c-8) _ hsB inferInstance Cg)) ?_;rintro _ _ ⟨p55,b55,o55,c55,s55,rfl,hs55,hc55,rfl⟩;refine BF ?_;refine Ja 7 ?_;refine Ja 8 ?_;refine Ja 9 ?_;refine C3 ?_;exact mR [4,5,6] (AD b55 o55 (C6 ks side (be xs 8) (EL xs)) s55*H) rfl rfl (by rw [show Bj ks side xs=some (be xs 8,C6 ks side (be xs 8) (EL xs)) by rw [Bj,if_neg hop,if_neg (fun h=>h.elim hg2 hc)]];exact⟨_,rfl,p55,b55,o55,c55,s55,rfl,hs55,hc55,rfl⟩)
end
structure BH where
 l:List AP
 floor:Nat
 AN:Nat
def BW(lo hi:Nat):List AP→List AP
 |[]=>[⟨lo,hi⟩]
 |r::rs=>if r.hi+1<lo then r::BW lo hi rs else if hi+1<r.lo then⟨lo,hi⟩::r::rs else BW (min lo r.lo) (max hi r.hi) rs
def BH.add(s:BH)(lo hi:Nat):BH:=
 if hi<max lo s.floor then s
 else if s.AN<(BW (max lo s.floor) hi s.l).length then⟨(BW (max lo s.floor) hi s.l).tail,((BW (max lo s.floor) hi s.l).headD ⟨0,0⟩).hi+1,s.AN⟩
 else⟨BW (max lo s.floor) hi s.l,s.floor,s.AN⟩
def A3(n:Nat)(l:List AP):Prop:=∃r∈l,r.lo≤n∧n≤r.hi
instance(n:Nat)(l:List AP):Decidable (A3 n l):=by unfold A3;infer_instance
def BH.has(s:BH)(n:Nat):Prop:=n<s.floor∨A3 n s.l
instance(s:BH)(n:Nat):Decidable (s.has n):=by unfold BH.has;infer_instance
def AR(lo hi:Nat):List AP→Nat×Nat
 |[]=>(lo,hi)
 |r::rs=>if r.hi<lo then AR lo hi rs else if lo<r.lo then(lo,min hi r.lo)else AR (r.hi+1) hi rs
def BH.of(AN:Nat):BH:=⟨[],0,AN⟩
structure Ai where
 b:List UInt8
 AJ:BH
 AF:BH
 high:Nat
 finished:Bool
 ending:Bool
 ended:Bool
 given:Bool
 code:Nat
 Da:Bool
def Ai.B2(w:Ai):Nat:=(AR 0 w.b.length w.AF.l).1
structure Ce where
 b:List UInt8
 AF:BH
 high:Nat
 end_:Nat
 ended:Bool
 given:Bool
 code:Nat
 read:Nat
 state:Nat
structure EN where
 number:Nat
 at_:Nat
 Aq:List AZ
structure AL where
 AY:Nat
 AG:Nat
 ks:List UInt8
 first:Bool
 now:Nat
 closed:Nat
 code:Nat
 said:Bool
 next:Nat
 AO:BH
 answer:Bool
 ws:List Ai
 rs:List Ce
 BY:List EN
 lost:List EN
 Bq:Nat
 waits:Nat
def BD:Ai:=⟨[],.of 4096,.of 4096,0,false,false,false,false,0,false⟩
def KQ:Ce:=⟨[],.of 4096,0,0,false,false,0,0,0⟩
def Fw(AY AG:Int):Prop:=64≤AY∧AY≤300∧16≤AG∧AG≤1024
instance(AY AG:Int):Decidable (Fw AY AG):=by unfold Fw;infer_instance
def AL.new(AY AG:Nat)(ks:List UInt8)(first:Bool):AL:=
 ⟨AY,AG,ks,first,0,0,0,false,0,.of 8,false,c_ 4 BD,c_ 4 KQ,[],[],0,0⟩
def AL.w(c:AL)(k:Nat):Ai:=c.ws.getD k BD
def AL.r(c:AL)(k:Nat):Ce:=c.rs.getD k KQ
def AL.C4(c:AL)(k:Nat)(w:Ai):AL:={c with ws:=c.ws.set k w}
def AL.Bs(c:AL)(k:Nat)(r:Ce):AL:={c with rs:=c.rs.set k r}
def AL.stream(c:AL)(k:Int):Nat:=if c.closed≠0 then 9 else if k<0∨4≤k then 2 else 0
def AL.E9(c:AL)(k:Int):Nat:=
 if c.stream k≠0 then c.stream k else if(c.w k.toNat).finished∨(c.w k.toNat).given then 3 else 0
def AL.GL(c:AL)(k:Nat)(len:Nat):Nat:=
 min (min (c.AG-((c.w k).b.length-(c.w k).B2)) (4096-(c.w k).b.length)) len
def AL.write(c:AL)(k:Int)(xs:List UInt8):(Nat×Nat)×AL:=
 if c.E9 k≠0 then((0,c.E9 k),c)
 else((c.GL k.toNat xs.length,0),c.C4 k.toNat {c.w k.toNat with b:=(c.w k.toNat).b++xs.take (c.GL k.toNat xs.length)})
def AL.finish(c:AL)(k:Int):Nat×AL:=
 if c.E9 k≠0 then(c.E9 k,c)else(0,c.C4 k.toNat {c.w k.toNat with finished:=true})
def AL.giveUp(c:AL)(k:Int)(code:Nat):Nat×AL:=
 if c.stream k≠0 then(c.stream k,c)
 else if(c.w k.toNat).given∨4611686018427387903<code then(3,c)
 else(0,c.C4 k.toNat {c.w k.toNat with given:=true,code:=code})
def AL.AF(c:AL)(k:Int):Nat×Nat:=
 if c.stream k≠0 then(0,c.stream k)else((c.w k.toNat).B2,0)
def AL.close(c:AL)(code:Nat):Nat×AL:=
 if c.closed≠0 then(9,c)else if 4611686018427387903<code then(3,c)else(0,{c with closed:=9,code:=code})
def ED(lo hi:Nat)(s:BH)(r:AP):BH:=
 let s1:=if r.lo<lo then s.add r.lo (min r.hi (lo-1))else s
 if hi≤r.hi then s1.add (max r.lo hi) r.hi else s1
def Ai.again(w:Ai)(f:AZ):Ai:=
 if f.kind=5 then
  {w with AJ:=w.AF.l.reverse.foldl (fun s r=>s.add r.lo r.hi) (w.AJ.l.reverse.foldl (ED f.offset (f.offset+f.data.size)) (BH.of 4096)),ending:=w.ending&& !f.fin}
 else if f.kind=4 then {w with Da:=false}else w
def IJ(ws:List Ai)(f:AZ):List Ai:=ws.set f.stream.toNat ((ws.getD f.stream.toNat BD).again f)
def M9(ws:List Ai)(p:EN):List Ai:=p.Aq.foldl IJ ws
def AL.GY(c:AL)(lost:EN→Bool):AL:=
 {c with BY:=c.BY.filter (fun p=> !lost p),lost:=c.lost++c.BY.filter lost,ws:=(c.BY.filter lost).foldl M9 c.ws}
def N4(waits:Nat):Nat:=min (4*2^waits) 32
def AL.tick(c:AL):AL:=
 if c.BY.any (fun p=>decide (p.at_+N4 c.waits≤c.now+1))then
  {({c with now:=c.now+1}:AL).GY (fun _=>true)with waits:=min (c.waits+1) 8}
 else {c with now:=c.now+1}
def Ai.named(w:Ai)(inn:Bool)(f:AZ):Ai:=
 let w1:=if inn=true∧f.kind=5∧f.data.size≠0 then
  {w with AF:=w.AF.add f.offset (f.offset+f.data.size-1),AJ:=w.AJ.add f.offset (f.offset+f.data.size-1)}else w
 {w1 with ended:=w1.ended||(inn&&decide (f.kind=5)&&f.fin)}
def A8(l:List AP)(n:Nat):Bool:=l.any (fun r=>decide (r.lo≤n)&&decide (n≤r.hi))
def H5(inn:Bool)(ws:List Ai)(f:AZ):List Ai:=ws.set f.stream.toNat ((ws.getD f.stream.toNat BD).named inn f)
def Jy(l:List AP)(ws:List Ai)(p:EN):List Ai:=p.Aq.foldl (H5 (A8 l p.number)) ws
def AL.HF(c:AL)(l:List AP):AL:=
 {c with Bq:=max c.Bq (rg l 0).hi,lost:=c.lost.filter (fun p=> !A8 l p.number),BY:=c.BY.filter (fun p=> !A8 l p.number),ws:=c.BY.foldl (Jy l) (c.lost.foldl (Jy l) c.ws),waits:=if(c.BY.filter (fun p=> !A8 l p.number)).length<c.BY.length then 0 else c.waits}
def AL.Dj(c:AL)(l:List AP):Nat×AL:=
 if c.next≤(rg l 0).hi then(8,c)
 else(0,(c.HF l).GY (fun p=>decide (p.number+3≤(c.HF l).Bq)))
def G3(b:List UInt8)(o:Nat)(ds:List UInt8):List UInt8:=b.take o++ds++b.drop (o+ds.length)
def Gn(fuel:Nat)(off e:Nat)(ds:List UInt8)(read lo:Nat)(b:List UInt8)(AF:BH):List UInt8×BH:=
 match fuel with
 |0=>(b,AF)
 |n+1=>
  if lo<e then
   let g:=AR lo e AF.l
   if e≤g.1 then(b,AF)
   else Gn n off e ds read g.2 (G3 b (g.1-read) ((ds.drop (g.1-off)).take (g.2-g.1))) (AF.add g.1 (g.2-1))
  else(b,AF)
def Ma(ended:Bool)(end_ high:Nat)(f:AZ):Prop:=
 (ended=true∧(end_<f.offset+f.data.size∨f.fin=true∧f.offset+f.data.size≠end_))∨(f.fin=true∧f.offset+f.data.size<high)
instance(ended:Bool)(end_ high:Nat)(f:AZ):Decidable (Ma ended end_ high f):=by unfold Ma;infer_instance
def Ce.filled(r:Ce)(f:AZ):List UInt8×BH:=
 Gn (f.offset+f.data.size+1) f.offset (f.offset+f.data.size) f.data.data.toList r.read (max f.offset r.read)
  (r.b++c_ (max r.high (f.offset+f.data.size)-(r.read+r.b.length)) 0) r.AF
def Ce.Kx(r:Ce)(f:AZ):Ce:=
 {r with high:=max r.high (f.offset+f.data.size),ended:=r.ended||f.fin,end_:=if f.fin then f.offset+f.data.size else r.end_,b:=(r.filled f).1,AF:=(r.filled f).2}
def Ce.data(r:Ce)(f:AZ):Nat×Ce:=
 if Ma r.ended r.end_ r.high f then(7,r)else if r.given then(0,r)else(0,r.Kx f)
def AL.take(c:AL)(f:AZ):Nat×AL:=
 if f.kind=3 then c.Dj f.ranges
 else if f.kind=4 then
  if(c.r f.stream.toNat).ended=true∧(c.r f.stream.toNat).end_≠f.offset∨f.offset<(c.r f.stream.toNat).high then(7,c)
  else(0,c.Bs f.stream.toNat {c.r f.stream.toNat with code:=if(c.r f.stream.toNat).given then(c.r f.stream.toNat).code else f.code,given:=true,ended:=true,end_:=f.offset})
 else if f.kind=5 then(((c.r f.stream.toNat).data f).1,c.Bs f.stream.toNat ((c.r f.stream.toNat).data f).2)
 else if f.kind=6 then(10,c)else(0,c)
def AL.shut(c:AL)(e:Nat):AL:={c with closed:=e,code:=e,said:=decide (e=10)}
def AL.Bt(c:AL):List AZ→Nat×AL
 |[]=>(0,c)
 |f::fs=>if(c.take f).1≠0 then((c.take f).1,(c.take f).2.shut (c.take f).1)
  else({(c.take f).2 with answer:=(c.take f).2.answer||(decide (f.kind≠3)&&decide (f.kind≠1))}:AL).Bt fs
def AL.busy(c:AL)(f:AZ):Prop:=f.kind=5∧(c.r f.stream.toNat).given=false∧(c.r f.stream.toNat).read+c.AG<f.offset+f.data.size
instance(c:AL)(f:AZ):Decidable (c.busy f):=by unfold AL.busy;infer_instance
def AL.BB(c:AL)(p:List UInt8):(Nat×Int)×AL:=
 if c.closed≠0 then((9,-1),c)
 else match Bj c.ks (BM (!c.first)) p with
  |none=>((4,-1),c)
  |some (number,b)=>
   if c.AO.has number.toNat then((0,-1),c)
   else match DZ b with
    | .error at_=>((5,at_),{c with closed:=5,code:=5})
    | .ok fs=>
     if ∃f∈fs,c.busy f then((6,-1),c)
     else((((({c with AO:=c.AO.add number.toNat number.toNat}:AL).Bt fs).1,-1)),(({c with AO:=c.AO.add number.toNat number.toNat}:AL).Bt fs).2)
def AL.GC(c:AL)(k:Nat):Ce:=if(c.r k).given=true∧(c.r k).state=0 then {c.r k with state:=2,b:=[]}else c.r k
def AL.Hl(r:Ce)(AN:Int):Nat:=min ((AR r.read r.high r.AF.l).1-r.read) AN.toNat
def AL.read(c:AL)(k:Int)(AN:Int):(List UInt8×Nat×Nat×Nat)×AL:=
 if c.stream k≠0 then(([],0,0,c.stream k),c)
 else
  let r:=c.GC k.toNat
  if r.state=0 then
   let n:=AL.Hl r AN
   let r2:={r with b:=r.b.drop n,read:=r.read+n}
   let r3:=if r2.ended=true∧r2.read=r2.end_ then {r2 with state:=1}else r2
   ((r.b.take n,r3.state,0,0),c.Bs k.toNat r3)
  else(([],r.state,(if r.state=2 then r.code else 0),0),c.Bs k.toNat r)
structure Bn where
 Aq:List AZ
 room:Nat
def Bn.b(d:Bn):List UInt8:=BN d.Aq
def Bn.add(d:Bn)(f:AZ):Option Bn:=if d.room<(d.b++Aj f).length then none else some {d with Aq:=d.Aq++[f]}
def B7(k off:Nat)(fin:Bool)(ds:List UInt8):AZ:=⟨5,k,off,0,fin,BI ds,[]⟩
def Hd(k code off:Nat):AZ:=⟨4,k,off,code,false,⟨#[]⟩,[]⟩
def Eh(rs:List AP):AZ:=⟨3,0,0,0,false,⟨#[]⟩,rs⟩
def CY(code:Nat):AZ:=⟨6,0,0,code,false,⟨#[]⟩,[]⟩
def cut(b:List UInt8)(lo hi:Nat):List UInt8:=(b.take hi).drop lo
def Ai.MP(w:Ai)(d:Bn)(k lo hi:Nat):Option (Ai×Bn):=
 let head:=(Aj (B7 k lo false (cut w.b lo hi))).length-(hi-lo)
 if lo<hi∧d.room<d.b.length+head+1 then none
 else
  let hi2:=min hi (lo+(d.room-d.b.length-head))
  let f:=B7 k lo (w.finished&&decide (hi2=w.b.length)) (cut w.b lo hi2)
  match d.add f with
  |none=>none
  |some d2=>some ({w with AJ:=if lo<hi2 then w.AJ.add lo (hi2-1)else w.AJ,ending:=w.ending||f.fin,high:=max w.high hi2},d2)
def Ai.fill(w:Ai)(d:Bn)(k:Nat):Option (Ai×Bn):=
 if w.given then
  if w.Da then none
  else match d.add (Hd k w.code w.high)with
   |none=>none
   |some d2=>some ({w with Da:=true},d2)
 else if(AR 0 w.b.length w.AJ.l).2≤(AR 0 w.b.length w.AJ.l).1 then
  if w.finished=false∨w.ending=true∨w.ended=true then none else w.MP d k w.b.length w.b.length
 else w.MP d k (AR 0 w.b.length w.AJ.l).1 (AR 0 w.b.length w.AJ.l).2
def F9(k:Nat):Nat→Ai→Bn→Ai×Bn
 |0,w,d=>(w,d)
 |n+1,w,d=>match w.fill d k with
  |none=>(w,d)
  |some (w2,d2)=>F9 k n w2 d2
def En(d:Bn)(ws:List Ai)(k:Nat):Nat→List Ai×Bn
 |0=>(ws,d)
 |n+1=>En (F9 k (d.room+1) (ws.getD k BD) d).2 (ws.set k (F9 k (d.room+1) (ws.getD k BD) d).1) (k+1) n
def E2(told:List AP)(room:Nat):Nat→Nat
 |0=>0
 |1=>1
 |n+2=>if room<(Aj (Eh (told.take (n+2)))).length then E2 told room (n+1)else n+2
structure Be where
 c:AL
 told:List AP
 out:List (List UInt8)
def AL.El(c:AL)(told:List AP):Bn:=
 ⟨if told=[]then []else [Eh (told.take (E2 told (c.AY-16) told.length))],c.AY-16⟩
def Be.IX(z:Be):List AP:=z.told.drop (E2 z.told (z.c.AY-16) z.told.length)
def Be.filled(z:Be):List Ai×Bn:=if z.c.BY.length<10 then En (z.c.El z.told) z.c.ws 0 4 else(z.c.ws,z.c.El z.told)
def D2(fs:List AZ):Bool:=fs.any (fun f=>decide (f.kind≠3))
def Be.step(z:Be):Be:=
 ⟨{z.c with ws:=z.filled.1,next:=z.c.next+1,BY:=if D2 z.filled.2.Aq then z.c.BY++[⟨z.c.next,z.c.now,z.filled.2.Aq⟩]else z.c.BY},z.IX,z.out++[DK z.c.ks (BM z.c.first) (UInt64.ofNat z.c.next) z.filled.2.b]⟩
def DW:Nat→Be→Be
 |0,z=>z
 |n+1,z=>if z.filled.2.Aq=[]then {z with c:={z.c with ws:=z.filled.1}}else DW n z.step
def AL.CT(c:AL):List (List UInt8)×AL:=
 if c.said then([],c)
 else([DK c.ks (BM c.first) (UInt64.ofNat c.next) (Aj (CY c.code))],{c with said:=true,next:=c.next+1})
def AL.BE(c:AL):List (List UInt8)×AL:=
 if c.closed≠0 then c.CT
 else
  let z:=DW 40 ⟨{c with answer:=false},if c.answer then c.AO.l.reverse else [],[]⟩
  (z.out,z.c)
structure CA where
 data:List UInt8
 AF:BH
 finished:Bool
 given:Bool
 code:Nat
 end_:Nat
 high:Nat
structure DI where
 data:List UInt8
 there:List Bool
 high:Nat
 end_:Nat
 ended:Bool
 given:Bool
 code:Nat
 read:Nat
 state:Nat
structure Kn where
 number:Nat
 Aq:List AZ
structure AK where
 AY:Nat
 AG:Nat
 ks:List UInt8
 first:Bool
 closed:Nat
 code:Nat
 said:Bool
 next:Nat
 AO:BH
 Ao:BH
 due:List Nat
 outs:List CA
 ins:List DI
 AJ:List Kn
def B':CA:=⟨[],.of 1073741824,false,false,0,0,0⟩
def IF:DI:=⟨[],[],0,0,false,false,0,0,0⟩
def AK.new(AY AG:Nat)(ks:List UInt8)(first:Bool):AK:=
 ⟨AY,AG,ks,first,0,0,false,0,.of 8,.of 1073741824,[],c_ 4 B',c_ 4 IF,[]⟩
def AK.o(s:AK)(k:Nat):CA:=s.outs.getD k B'
def AK.i(s:AK)(k:Nat):DI:=s.ins.getD k IF
def AK.C0(s:AK)(k:Nat)(o:CA):AK:={s with outs:=s.outs.set k o}
def AK.Cb(s:AK)(k:Nat)(x:DI):AK:={s with ins:=s.ins.set k x}
def AK.of(s:AK)(k:Int):Nat:=if s.closed≠0 then 9 else if k<0∨4≤k then 2 else 0
def CA.B2(o:CA):Nat:=if o.AF.l=[]∨0<(rg o.AF.l 0).lo then 0 else(rg o.AF.l 0).hi+1
def AK.GL(s:AK)(k:Nat)(len:Nat):Nat:=
 min (min (s.AG-((s.o k).data.length-(s.o k).B2)) (4096-(s.o k).data.length)) len
def AK.write(s:AK)(k:Int)(xs:List UInt8):(Nat×Nat)×AK:=
 if s.of k≠0 then((0,s.of k),s)
 else if(s.o k.toNat).finished∨(s.o k.toNat).given then((0,3),s)
 else((s.GL k.toNat xs.length,0),s.C0 k.toNat {s.o k.toNat with data:=(s.o k.toNat).data++xs.take (s.GL k.toNat xs.length)})
def AK.finish(s:AK)(k:Int):Nat×AK:=
 if s.of k≠0 then(s.of k,s)
 else if(s.o k.toNat).finished∨(s.o k.toNat).given then(3,s)
 else(0,s.C0 k.toNat {s.o k.toNat with finished:=true})
def AK.giveUp(s:AK)(k:Int)(code:Nat):Nat×AK:=
 if s.of k≠0 then(s.of k,s)
 else if(s.o k.toNat).given∨4611686018427387903<code then(3,s)
 else(0,s.C0 k.toNat {s.o k.toNat with given:=true,code:=code,end_:=(s.o k.toNat).high})
def AK.AF(s:AK)(k:Int):Nat×Nat:=if s.of k≠0 then(0,s.of k)else((s.o k.toNat).B2,0)
def AK.close(s:AK)(code:Nat):Nat×AK:=
 if s.closed≠0 then(9,s)else if 4611686018427387903<code then(3,s)else(0,{s with closed:=9,code:=code})
def G5(outs:List CA)(f:AZ):List CA:=
 if f.kind=5∧0<f.data.size then
  outs.set f.stream.toNat {outs.getD f.stream.toNat B' with AF:=(outs.getD f.stream.toNat B').AF.add f.offset (f.offset+f.data.size-1)}
 else outs
def Gl(l:List AP)(outs:List CA)(p:Kn):List CA:=if A8 l p.number then p.Aq.foldl G5 outs else outs
def AK.Dj(s:AK)(l:List AP):AK:={s with outs:=s.AJ.foldl (Gl l) s.outs}
def GR(ds:List UInt8)(off:Nat)(data:List UInt8)(there:List Bool):List UInt8×List Bool:=
 match ds with
 |[]=>(data,there)
 |d::ds=>if there.getD off false then GR ds (off+1) data there else GR ds (off+1) (data.set off d) (there.set off true)
def DI.put(x:DI)(f:AZ):List UInt8×List Bool:=
 GR f.data.data.toList f.offset (x.data++c_ (max x.high (f.offset+f.data.size)-x.data.length) 0) (x.there++c_ (max x.high (f.offset+f.data.size)-x.data.length) false)
def DI.Rq(x:DI)(f:AZ):DI:=
 {x with high:=max x.high (f.offset+f.data.size),ended:=x.ended||f.fin,end_:=if f.fin then f.offset+f.data.size else x.end_,data:=(x.put f).1,there:=(x.put f).2}
def DI.bytes(x:DI)(f:AZ):Nat×DI:=
 if Ma x.ended x.end_ x.high f then(7,x)else if x.given then(0,x)else(0,x.Rq f)
def AK.take(s:AK)(f:AZ):Nat×AK:=
 if f.kind=3 then if s.next≤(rg f.ranges 0).hi then(8,s)else(0,s.Dj f.ranges)
 else if f.kind=4 then
  if(s.i f.stream.toNat).ended=true∧(s.i f.stream.toNat).end_≠f.offset∨f.offset<(s.i f.stream.toNat).high then(7,s)
  else(0,s.Cb f.stream.toNat {s.i f.stream.toNat with code:=if(s.i f.stream.toNat).given then(s.i f.stream.toNat).code else f.code,given:=true,ended:=true,end_:=f.offset})
 else if f.kind=5 then(((s.i f.stream.toNat).bytes f).1,s.Cb f.stream.toNat ((s.i f.stream.toNat).bytes f).2)
 else if f.kind=6 then(10,s)else(0,s)
def AK.shut(s:AK)(e:Nat):AK:={s with closed:=e,code:=e,said:=decide (e=10)}
def EX(number:Nat)(due:List Nat)(f:AZ):List Nat:=
 if f.kind≠3∧f.kind≠1∧(due=[]∨due.getD (due.length-1) 0≠number)then due++[number]else due
def AK.Bt(s:AK)(number:Nat):List AZ→Nat×AK
 |[]=>(0,s)
 |f::fs=>if(s.take f).1≠0 then((s.take f).1,(s.take f).2.shut (s.take f).1)
  else({(s.take f).2 with due:=EX number (s.take f).2.due f}:AK).Bt number fs
def AK.busy(s:AK)(f:AZ):Prop:=f.kind=5∧(s.i f.stream.toNat).state≠2∧(s.i f.stream.toNat).given=false∧(s.i f.stream.toNat).read+s.AG<f.offset+f.data.size
instance(s:AK)(f:AZ):Decidable (s.busy f):=by unfold AK.busy;infer_instance
def AK.BB(s:AK)(p:List UInt8):(Nat×Int)×AK:=
 if s.closed≠0 then((9,-1),s)
 else match Bj s.ks (BM (!s.first)) p with
  |none=>((4,-1),s)
  |some (number,b)=>
   if s.AO.has number.toNat then((0,-1),s)
   else match DZ b with
    | .error at_=>((5,at_),{s with closed:=5,code:=5})
    | .ok fs=>
     if ∃f∈fs,s.busy f then((6,-1),s)
     else((((({s with AO:=s.AO.add number.toNat number.toNat,Ao:=s.Ao.add number.toNat number.toNat}:AK).Bt number.toNat fs).1,-1)),
      (({s with AO:=s.AO.add number.toNat number.toNat,Ao:=s.Ao.add number.toNat number.toNat}:AK).Bt number.toNat fs).2)
def GQ(there:List Bool)(high:Nat):Nat→Nat→Nat
 |0,_=>0
 |n+1,read=>if read<high∧there.getD read false=true then GQ there high n (read+1)+1 else 0
def AK.read(s:AK)(k:Int)(AN:Int):(List UInt8×Nat×Nat×Nat)×AK:=
 if s.of k≠0 then(([],0,0,s.of k),s)
 else
  let x:=s.i k.toNat
  let x1:=if x.given=true∧x.state=0 then {x with state:=2}else x
  let n:=if x1.state=0 then GQ x1.there x1.high AN.toNat x1.read else 0
  let x2:={x1 with read:=x1.read+n}
  let x3:=if x2.ended=true∧x2.read=x2.end_∧x2.state=0 then {x2 with state:=1}else x2
  (((x1.data.drop x1.read).take n,x3.state,(if x3.state=2 then x3.code else 0),0),s.Cb k.toNat x3)
def AK.opened(s:AK)(b:List UInt8):Option (List AZ)×AK:=
 match Bj s.ks (BM s.first) b with
 |none=>(none,s)
 |some (number,p)=>
  if s.AY<b.length∨number.toNat≠s.next then(none,s)
  else match DZ p with
   | .error _=>(none,{s with next:=s.next+1})
   | .ok l=>(if EV l=some p then some l else none,{s with next:=s.next+1})
def AK.CT(s:AK)(l:List (List UInt8)):Bool×AK:=
 if s.said then(decide (l.length=0),s)
 else if l.length≠1 then(false,{s with said:=true})
 else match(({s with said:=true}:AK).opened (l.getD 0 []))with
  |(none,s2)=>(false,s2)
  |(some fs,s2)=>(decide (fs.length=1∧(fs.getD 0 (CY 0)).kind=6∧(fs.getD 0 (CY 0)).code=s2.code),s2)
def AK.HC(s:AK)(f:AZ):Bool×AK:=
 if ∀r∈f.ranges,∃e∈s.Ao.l,e.lo≤r.lo∧r.hi≤e.hi then
  (true,{s with due:=s.due.filter (fun n=> !(decide (n<s.AO.floor)||A8 f.ranges n))})
 else(false,s)
def AK.sends(s:AK)(f:AZ):Bool×AK:=
 let o:=s.o f.stream.toNat
 let e:=f.offset+f.data.size
 if o.given=true∨o.data.length<e∨(o.data.take e).drop f.offset≠f.data.data.toList then(false,s)
 else if(f.fin≠(o.finished&&decide (e=o.data.length)))∨(f.data.size=0∧f.fin=false)then(false,s)
 else(true,s.C0 f.stream.toNat {o with high:=max o.high e})
def AK.may(s:AK)(f:AZ):Bool×AK:=
 if f.kind=3 then s.HC f
 else if f.kind=4 then(decide ((s.o f.stream.toNat).given=true∧f.offset=(s.o f.stream.toNat).end_∧f.code=(s.o f.stream.toNat).code),s)
 else if f.kind=5 then s.sends f else(false,s)
def AK.Cf(s:AK):List AZ→Bool×AK
 |[]=>(true,s)
 |f::fs=>if(s.may f).1 then(s.may f).2.Cf fs else(false,(s.may f).2)
def AK.emit(s:AK)(b:List UInt8):Bool×AK:=
 match s.opened b with
 |(none,s2)=>(false,s2)
 |(some l,s2)=>if(s2.Cf l).1 then(true,{(s2.Cf l).2 with AJ:=(s2.Cf l).2.AJ++[⟨s.next,l⟩]})else(false,(s2.Cf l).2)
def AK.Df(s:AK):List (List UInt8)→Bool×AK
 |[]=>(true,s)
 |b::bs=>if(s.emit b).1 then(s.emit b).2.Df bs else(false,(s.emit b).2)
def AK.E3(s:AK)(l:List (List UInt8)):Bool×AK:=
 if s.closed≠0 then s.CT l
 else if(s.Df l).1 then
  if ∃n∈(s.Df l).2.due,(s.Df l).2.AO.floor≤n then(false,(s.Df l).2)else(true,{(s.Df l).2 with due:=[]})
 else(false,(s.Df l).2)
def DQ:List AP→Prop
 |[]=>True
 |r::rs=>r.lo≤r.hi∧(∀s∈rs,r.hi+1<s.lo)∧DQ rs
theorem Qe(n:Nat):¬A3 n []:=by rintro⟨r,h,_⟩;cases h
theorem FD(n:Nat)(r:AP)(rs:List AP):A3 n (r::rs)↔(r.lo≤n∧n≤r.hi)∨A3 n rs:=by
 simp [A3,d_]
theorem Mp:∀(l:List AP) (lo hi n:Nat),lo≤hi→(A3 n (BW lo hi l)↔(lo≤n∧n≤hi)∨A3 n l)
 |[],lo,hi,n,h=>by simp [BW,A3]
 |r::rs,lo,hi,n,h=>by
  rw [BW];split
  ·rw [FD,Mp rs lo hi n h,FD];constructor<;>rintro(h|h|h)<;>simp_all
  split
  ·rw [FD,FD]
  ·rw [Mp rs _ _ n Cg,FD];constructor
   ·rintro(h1|h1)
    ·by_cases h2:lo≤n∧n≤hi
     ·exact .inl h2
     ·refine .inr (.inl ?_);omega
    ·exact .inr (.inr h1)
   ·rintro(h1|h1|h1)
    ·left;omega
    ·left;omega
    ·exact .inr h1
theorem QU:∀(l:List AP) (lo hi m:Nat),m≤lo→(∀s∈l,m≤s.lo)→∀s∈BW lo hi l,m≤s.lo
 |[],lo,hi,m,h,_=>by simp [BW];exact h
 |r::rs,lo,hi,m,h,h2=>by
  have hr:=h2 r Cl;have h3:∀s∈rs,m≤s.lo:=fun s hs=>h2 s NP;rw [BW];split
  ·intro s hs;rcases d_.1 hs with rfl|hs
   ·exact hr
   ·exact QU rs lo hi m h h3 s hs
  split
  ·intro s hs;rcases d_.1 hs with rfl|hs
   ·exact h
   ·exact h2 s hs
  ·exact QU rs _ _ m Cg h3
theorem KZ:∀(l:List AP) (lo hi m:Nat),hi≤m→(∀s∈l,s.hi≤m)→∀s∈BW lo hi l,s.hi≤m
 |[],lo,hi,m,h,_=>by simp [BW];exact h
 |r::rs,lo,hi,m,h,h2=>by
  have hr:=h2 r Cl;have h3:∀s∈rs,s.hi≤m:=fun s hs=>h2 s NP;rw [BW];split
  ·intro s hs;rcases d_.1 hs with rfl|hs
   ·exact hr
   ·exact KZ rs lo hi m h h3 s hs
  split
  ·intro s hs;rcases d_.1 hs with rfl|hs
   ·exact h
   ·exact h2 s hs
  ·exact KZ rs _ _ m Cg h3
theorem MU:∀(l:List AP) (lo hi:Nat),lo≤hi→DQ l→DQ (BW lo hi l)
 |[],lo,hi,h,_=>by simp [BW,DQ];exact h
 |r::rs,lo,hi,h,⟨h1,h2,h3⟩=>by
  rw [BW];split
  ·refine⟨h1,?_,MU rs lo hi h h3⟩;intro s hs
   have:=QU rs lo hi (r.hi+2) Cg (fun s hs=>by have:=h2 s hs;omega) s hs
   omega
  split
  ·refine⟨h,?_,h1,h2,h3⟩;intro s hs;rcases d_.1 hs with rfl|hs
   ·omega
   ·have:=h2 s hs;simp only [];omega
  ·exact MU rs _ _ Cg h3
theorem Mu:∀(l:List AP) (lo hi:Nat),(BW lo hi l).length≤l.length+1
 |[],lo,hi=>by simp [BW]
 |r::rs,lo,hi=>by
  rw [BW];split
  ·have:=Mu rs lo hi;simp;omega
  split
  ·simp
  ·have:=Mu rs (min lo r.lo) (max hi r.hi);simp;omega
theorem N'(l:List AP)(lo hi:Nat):BW lo hi l≠ []:=by
 cases l with
 |nil=>simp [BW]
 |cons r rs=>
  rw [BW];split
  ·simp
  split
  ·simp
  ·exact N' rs _ _
theorem Tj:∀(l:List AP) (a m:Nat),DQ l→(∀s∈l,a≤s.lo)→(∀s∈l,s.hi<m)→a+2*l.length≤m+1∨l=[]
 |[],a,m,_,_,_=>.inr rfl
 |r::rs,a,m,⟨h1,h2,h3⟩,ha,hm=>by
  left;have h4:=ha r Cl;have h5:=hm r Cl;rcases Tj rs (r.hi+2) m h3 (fun s hs=>by have:=h2 s hs;omega) (fun s hs=>hm s NP)with h6|rfl
  ·simp;omega
  ·simp;omega
structure C2(s:BH)(m:Nat):Prop where
 inc:DQ s.l
 lo:∀r∈s.l,s.floor≤r.lo
 hi:∀r∈s.l,r.hi<m
 len:s.l.length≤s.AN
 fl:s.floor≤m
theorem C2.of{AN m:Nat}:C2 (.of AN) m:=⟨trivial,(fun _ h=>nomatch h),(fun _ h=>nomatch h),h_ _,h_ _⟩
theorem r8{r:AP}{l:List AP}(h:DQ (r::l)):DQ l:=h.2.2
theorem C2.add{s:BH}{m:Nat}(h:C2 s m)(lo hi:Nat)(hm:hi<m)(h0:1≤s.AN):C2 (s.add lo hi) m∧(s.add lo hi).AN=s.AN:=by
 unfold BH.add;split
 ·exact⟨h,rfl⟩
 ·rename_i hc;have hi1:=MU s.l _ hi (by omega:max lo s.floor≤hi) h.inc;have hlo:=QU s.l (max lo s.floor) hi s.floor Cg h.lo;have hhi:=KZ s.l (max lo s.floor) hi (m-1) Cg (fun r hr=>by have:=h.hi r hr;omega);have hlen:=Mu s.l (max lo s.floor) hi;split
  ·refine⟨?_,rfl⟩
   cases e:BW (max lo s.floor) hi s.l with
   |nil=>exact absurd e (N' _ _ _)
   |cons r rs=>
    rw [e]at hi1 hlo hhi hlen;refine⟨r8 hi1,fun t ht=>?_,fun t ht=>?_,?_,?_⟩
    ·have:=hi1.2.1 t ht;simp only [xw]at*;omega
    ·have:=hhi t (by simp;exact .inr ht);omega
    ·simp only [List.tail_cons];have:=h.len;simp at hlen;omega
    ·have:=hhi r Cl;simp only [xw];omega
  ·refine⟨⟨hi1,hlo,fun t ht=>?_,by show(BW (max lo s.floor) hi s.l).length≤s.AN;omega,h.fl⟩,rfl⟩
   have:=hhi t ht;omega
theorem BH.has_add{s:BH}{lo hi n m:Nat}(ho:C2 s m)(h:s.has n∨(lo≤n∧n≤hi)):(s.add lo hi).has n:=by
 unfold BH.add;split
 ·rename_i hc;rcases h with h|h
  ·exact h
  ·exact .inl Cg
 ·rename_i hc;have hin:=Mp s.l (max lo s.floor) hi n Cg
  have hk:n<s.floor∨A3 n (BW (max lo s.floor) hi s.l):=by
   rcases h with(h|h)|h
   ·exact .inl h
   ·exact .inr (hin.2 (.inr h))
   ·by_cases h1:n<s.floor
    ·exact .inl h1
    ·exact .inr (hin.2 (.inl Cg))
  split
  ·cases e:BW (max lo s.floor) hi s.l with
   |nil=>exact absurd e (N' _ _ _)
   |cons r rs=>
    have h1:=QU s.l (max lo s.floor) hi s.floor Cg ho.lo r (by rw [e];simp)
    have h2:=(MU s.l _ hi (by omega:max lo s.floor≤hi) ho.inc)
    rw [e]at hk h2;have h3:=h2.1;rcases hk with hk|hk
    ·exact .inl tE
    ·rw [FD]at hk;rcases hk with hk|hk
     ·exact .inl tE
     ·exact .inr hk
  ·exact hk
theorem BH.au{s:BH}{lo hi n:Nat}(h:A3 n (s.add lo hi).l):A3 n s.l∨(lo≤n∧n≤hi):=by
 unfold BH.add at h;split at h
 ·exact .inl h
 ·rename_i hc;have hin:=Mp s.l (max lo s.floor) hi n Cg
  have hk:A3 n (BW (max lo s.floor) hi s.l):=by
   split at h
   ·cases e:BW (max lo s.floor) hi s.l with
    |nil=>exact absurd e (N' _ _ _)
    |cons r rs=>rw [e]at h;rw [FD];exact .inr h
   ·exact h
  rcases hin.1 hk with h1|h1
  ·exact .inr Cg
  ·exact .inl h1
theorem BH.Wz{s:BH}{lo hi:Nat}(hf:s.floor=0)(hl:lo≤hi)(hlen:(BW lo hi s.l).length≤s.AN):s.add lo hi=⟨BW lo hi s.l,0,s.AN⟩:=by
 unfold BH.add;rw [hf,Nat.max_zero,if_neg Cg,if_neg Cg]
theorem j8{l:List AP}(hi:DQ l){a b:Nat}(h:a≤b)(hc:∀n,a≤n→n≤b→A3 n l):∃e∈l,e.lo≤a∧b≤e.hi:=by
 induction l with
 |nil=>exact absurd (hc a Cg h) (Qe _)
 |cons r rs ih=>
  obtain⟨h1,h2,h3⟩:=hi;have ha:=(FD a r rs).1 (hc a Cg h);by_cases hr:r.lo≤a∧a≤r.hi
  ·by_cases hb:b≤r.hi
   ·exact⟨r,Cl,Cg,hb⟩
   ·exfalso
    have:=(FD (r.hi+1) r rs).1 (hc (r.hi+1) Cg Cg)
    rcases this with h4|⟨s,hs,h4⟩
    ·omega
    ·have:=h2 s hs;omega
  ·have hrs:r.hi<a:=by
    rcases ha with h4|⟨s,hs,h4⟩
    ·exact absurd h4 hr
    ·have:=h2 s hs;omega
   obtain⟨e,he,h5⟩:=ih h3 (fun n h6 h7=>by
    rcases(FD n r rs).1 (hc n h6 h7)with h8|h8
    ·omega
    ·exact h8)
   exact⟨e,by simp [he],h5⟩
theorem HM:∀(l:List AP) (lo hi:Nat),DQ l→lo≤hi→
  lo≤(AR lo hi l).1∧(∀n,lo≤n→n<(AR lo hi l).1→A3 n l)∧(AR lo hi l).2≤hi∧
  ((AR lo hi l).1<(AR lo hi l).2→∀n,(AR lo hi l).1≤n→n<(AR lo hi l).2→¬A3 n l)∧((AR lo hi l).2≤(AR lo hi l).1→hi≤(AR lo hi l).1):=by
 intro l
 induction l with
 |nil=>intro lo hi _ h;simp only [AR];exact⟨Cg,fun n _ _=>by omega,Cg,fun _ n _ _=>Qe n,fun _=>by omega⟩
 |cons r rs ih=>
  intro lo hi ⟨h1,h2,h3⟩ h;rw [AR];split
  ·rename_i hc;obtain⟨a,b,c,d,e⟩:=ih lo hi h3 h;refine⟨a,fun n h4 h5=>(FD n r rs).2 (.inr (b n h4 h5)),c,fun h4 n h5 h6 h7=>?_,e⟩;rcases(FD n r rs).1 h7 with h8|h8
   ·omega
   ·exact d h4 n h5 h6 h8
  split
  ·rename_i hc hd;refine⟨Cl,fun n h4 h5=>by simp at h5;omega,Cq,fun h4 n h5 h6 h7=>?_,fun h4=>by simp at h4⊢;omega⟩;simp at h5 h6;rcases(FD n r rs).1 h7 with h8|⟨s,hs,h8⟩
   ·omega
   ·have:=h2 s hs;omega
  ·rename_i hc hd;by_cases hh:r.hi+1≤hi
   ·obtain⟨a,b,c,d,e⟩:=ih (r.hi+1) hi h3 hh;refine⟨Cg,fun n h4 h5=>?_,c,fun h4 n h5 h6 h7=>?_,e⟩
    ·by_cases h6:n≤r.hi
     ·exact(FD n r rs).2 (.inl Cg)
     ·exact rR
    ·rcases(FD n r rs).1 h7 with h8|h8
     ·omega
     ·exact d h4 n h5 h6 h8
   ·have hbig:∀(l:List AP) (lo hi:Nat),hi≤lo→DQ l→lo≤(AR lo hi l).1∧(∀n,lo≤n→n<(AR lo hi l).1→A3 n l)∧(AR lo hi l).2≤hi:=by
     intro l
     induction l with
     |nil=>intro lo hi h _;simp only [AR];exact⟨Cg,fun n _ _=>by omega,Cg⟩
     |cons t ts ih2=>
      intro lo hi h ⟨g1,g2,g3⟩;rw [AR];split
      ·obtain⟨a,b,c⟩:=ih2 lo hi h g3;exact⟨a,fun n h4 h5=>(FD n t ts).2 (.inr (b n h4 h5)),c⟩
      split
      ·exact⟨Cl,fun n h4 h5=>by simp at h5;omega,Cq⟩
      ·obtain⟨a,b,c⟩:=ih2 (t.hi+1) hi Cg g3;refine⟨Cg,fun n h4 h5=>?_,c⟩;by_cases h6:n≤t.hi
       ·exact(FD n t ts).2 (.inl Cg)
       ·exact(FD n t ts).2 (.inr (b n Cg h5))
    obtain⟨a,b,c⟩:=hbig rs (r.hi+1) hi Cg h3;refine⟨Cg,fun n h4 h5=>?_,c,fun h4=>by omega,fun _=>by omega⟩;by_cases h6:n≤r.hi
    ·exact(FD n r rs).2 (.inl Cg)
    ·exact rR
theorem Jv{l:List AP}{lo hi:Nat}(hI:DQ l)(h:lo≤hi)(hb:∀r∈l,r.hi<hi):(AR lo hi l).1≤hi∧¬A3 (AR lo hi l).1 l:=by
 obtain⟨a,b,c,d,e⟩:=HM l lo hi hI h
 have hle:(AR lo hi l).1≤hi:=by
  rcases w_ hi (AR lo hi l).1 with h1|h1
  ·obtain⟨r,hr,h2⟩:=b hi h h1
   have:=hb r hr;omega
  ·exact h1
 refine⟨hle,fun hin=>?_⟩;rcases w_ (AR lo hi l).1 (AR lo hi l).2 with h1|h1
 ·exact d h1 _ D3 h1 hin
 ·have:=e h1
  obtain⟨r,hr,h2⟩:=hin
  have:=hb r hr;omega
theorem Ed{α:Type}(l:List α)(i k:Nat)(x d:α):(l.set i x).getD k d=if i=k∧i<l.length then x else l.getD k d:=by
 simp only [m_,List.getElem?_set];by_cases h:i=k
 ·subst h;by_cases h2:i<l.length
  ·simp [h2]
  ·simp [h2]
 ·simp [h]
theorem C2.mono{s:BH}{m m':Nat}(h:C2 s m)(hm:m≤m'):C2 s m':=
 ⟨h.inc,h.lo,fun r hr=>by have:=h.hi r hr;omega,h.len,by have:=h.fl;omega⟩
structure EY(AG:Nat)(w:Ai):Prop where
 len:w.b.length≤4096
 so:C2 w.AJ w.b.length
 sf:w.AJ.floor=0
 sm:w.AJ.AN=4096
 co:C2 w.AF w.b.length
 cf:w.AF.floor=0
 cm:w.AF.AN=4096
 room:w.b.length≤w.B2+AG
 high:w.high≤w.b.length
 code:w.code≤4611686018427387903
theorem Ls{s:BH}{m lo hi:Nat}(h:C2 s m)(hf:s.floor=0)(hm:s.AN=4096)(hm4:m≤4096)(hhi:hi<m):
  C2 (s.add lo hi) m∧(s.add lo hi).floor=0∧(s.add lo hi).AN=4096∧(lo≤hi→(s.add lo hi).l=BW lo hi s.l)∧∀n,A3 n (s.add lo hi).l↔(lo≤n∧n≤hi)∨A3 n s.l:=by
 by_cases hl:lo≤hi
 ·have h1:=MU s.l lo hi hl h.inc;have h2:=KZ s.l lo hi (m-1) Cg (fun r hr=>by have:=h.hi r hr;omega);have h3:=Tj _ 0 m h1 (fun _ _=>h_ _) (fun r hr=>by have:=h2 r hr;omega)
  have h4:(BW lo hi s.l).length≤s.AN:=by
   rcases h3 with h3|h3
   ·omega
   ·exact absurd h3 (N' _ _ _)
  have e:=BH.Wz hf hl h4;rw [e];exact⟨⟨h1,fun _ _=>h_ _,fun r hr=>by have:=h2 r hr;omega,h4,h_ _⟩,rfl,hm,fun _=>rfl,fun n=>Mp s.l lo hi n hl⟩
 ·have e:s.add lo hi=s:=by unfold BH.add;rw [if_pos Cg]
  rw [e];exact⟨h,hf,hm,fun h=>absurd h hl,fun n=>⟨.inr,fun h=>by rcases h with h|h;omega;exact h⟩⟩
theorem EY.NK{AG:Nat}{w:Ai}(h:EY AG w):w.B2≤w.b.length:=(Jv h.co.inc C9 h.co.hi).1
theorem mP{w w':Ai}(hI:DQ w.AF.l)(hI':DQ w'.AF.l)(hb:∀r∈w'.AF.l,r.hi<w'.b.length)(h:∀n,A3 n w.AF.l→A3 n w'.AF.l):w.B2≤w'.B2:=by
 rcases w_ w'.B2 w.B2 with h1|h1
 ·exfalso;exact(Jv hI' C9 hb).2 (h _ ((HM w.AF.l 0 w.b.length hI C9).2.1 _ C9 h1))
 ·exact h1
structure KC(w w':Ai):Prop where
 b:w'.b=w.b
 high:w'.high=w.high
 finished:w'.finished=w.finished
 given:w'.given=w.given
 code:w'.code=w.code
theorem KC.refl(w:Ai):KC w w:=QP
theorem KC.trans{a b c:Ai}(h:KC a b)(g:KC b c):KC a c:=⟨g.b.trans h.b,g.high.trans h.high,g.finished.trans h.finished,g.given.trans h.given,g.code.trans h.code⟩
def Es(ws:List Ai)(f:AZ):Prop:=0≤f.stream∧f.stream<4∧(f.kind=5→f.offset+f.data.size≤(ws.getD f.stream.toNat BD).b.length)
structure Du(AG:Nat)(ws:List Ai):Prop where
 len:ws.length=4
 ok:∀k,k<4→EY AG (ws.getD k BD)
theorem TS{m lo hi:Nat}(hm4:m≤4096):∀(l:List AP) (s:BH),C2 s m→s.floor=0→s.AN=4096→(∀r∈l,r.hi<m)→
  C2 (l.foldl (ED lo hi) s) m∧(l.foldl (ED lo hi) s).floor=0∧(l.foldl (ED lo hi) s).AN=4096
 |[],s,h,hf,hm,_=>⟨h,hf,hm⟩
 |r::l,s,h,hf,hm,hr=>by
  have h1:=hr r Cl;rw [f_]
  have h2:C2 (ED lo hi s r) m∧(ED lo hi s r).floor=0∧(ED lo hi s r).AN=4096:=by
   unfold ED;by_cases ha:r.lo<lo
   ·obtain⟨a,b,c,_⟩:=Ls (lo:=r.lo) (hi:=min r.hi (lo-1)) h hf hm hm4 Cg;simp only [ha,if_true];split
    ·obtain⟨a',b',c',_⟩:=Ls (lo:=max r.lo hi) (hi:=r.hi) a b c hm4 h1;exact⟨a',b',c'⟩
    ·exact⟨a,b,c⟩
   ·simp only [ha,if_false];split
    ·obtain⟨a',b',c',_⟩:=Ls (lo:=max r.lo hi) (hi:=r.hi) h hf hm hm4 h1;exact⟨a',b',c'⟩
    ·exact⟨h,hf,hm⟩
  exact TS hm4 l _ h2.1 h2.2.1 h2.2.2 (fun t ht=>hr t (by simp [ht]))
theorem Wv{m:Nat}(hm4:m≤4096):∀(l:List AP) (s:BH),C2 s m→s.floor=0→s.AN=4096→(∀r∈l,r.hi<m)→
  C2 (l.foldl (fun s r=>s.add r.lo r.hi) s) m∧(l.foldl (fun s r=>s.add r.lo r.hi) s).floor=0∧(l.foldl (fun s r=>s.add r.lo r.hi) s).AN=4096
 |[],s,h,hf,hm,_=>⟨h,hf,hm⟩
 |r::l,s,h,hf,hm,hr=>by
  rw [f_];obtain⟨a,b,c,_⟩:=Ls (lo:=r.lo) (hi:=r.hi) h hf hm hm4 (hr r Cl);exact Wv hm4 l _ a b c (fun t ht=>hr t (by simp [ht]))
theorem EY.again{AG:Nat}{w:Ai}(h:EY AG w)(f:AZ):EY AG (w.again f)∧KC w (w.again f)∧(w.again f).AF=w.AF:=by
 unfold Ai.again;split
 ·obtain⟨a,b,c⟩:=TS (lo:=f.offset) (hi:=f.offset+f.data.size) h.len w.AJ.l.reverse (.of 4096) .of rfl rfl (fun r hr=>h.so.hi r (by simpa using hr));obtain⟨a',b',c'⟩:=Wv h.len w.AF.l.reverse _ a b c (fun r hr=>h.co.hi r (by simpa using hr));exact⟨⟨h.len,a',b',c',h.co,h.cf,h.cm,h.room,h.high,h.code⟩,QP,rfl⟩
 split
 ·exact⟨⟨h.len,h.so,h.sf,h.sm,h.co,h.cf,h.cm,h.room,h.high,h.code⟩,QP,rfl⟩
 ·exact⟨h,.refl _,rfl⟩
theorem Du.set{AG:Nat}{ws:List Ai}(h:Du AG ws){k:Nat}{w:Ai}(hw:EY AG w):Du AG (ws.set k w):=by
 refine⟨oU,fun j hj=>?_⟩;rw [Ed];split
 ·exact hw
 ·exact h.ok j hj
structure Gc(ws ws':List Ai):Prop where
 same:∀k,KC (ws.getD k BD) (ws'.getD k BD)
theorem Gc.refl(ws:List Ai):Gc ws ws:=⟨fun _=>.refl _⟩
theorem Gc.trans{a b c:List Ai}(h:Gc a b)(g:Gc b c):Gc a c:=⟨fun k=>(h.same k).trans (g.same k)⟩
theorem Gc.set{ws:List Ai}{k:Nat}{w:Ai}(h:KC (ws.getD k BD) w):Gc ws (ws.set k w):=⟨fun j=>by
 rw [Ed];split
 ·rename_i e;rw [←e.1];exact h
 ·exact .refl _⟩
theorem Es.same{ws ws':List Ai}{f:AZ}(h:Es ws f)(g:Gc ws ws'):Es ws' f:=⟨h.1,h.2.1,fun hk=>by rw [(g.same _).b];exact h.2.2 hk⟩
theorem W7{AG:Nat}:∀(fs:List AZ) (ws:List Ai),Du AG ws→(∀f∈fs,Es ws f)→Du AG (fs.foldl IJ ws)∧Gc ws (fs.foldl IJ ws)∧∀k,((fs.foldl IJ ws).getD k BD).AF=(ws.getD k BD).AF
 |[],ws,h,_=>⟨h,.refl _,fun _=>rfl⟩
 |f::fs,ws,h,hf=>by
  rw [f_];have hf1:=hf f Cl;have h1:=(h.ok f.stream.toNat (by have:=hf1.1;have:=hf1.2.1;omega)).again f;have h2:Du AG (IJ ws f):=h.set h1.1;have h3:Gc ws (IJ ws f):=.set h1.2.1;obtain⟨a,b,c⟩:=W7 fs (IJ ws f) h2 (fun g hg=>(hf g IP).same h3);refine⟨a,h3.trans b,fun k=>?_⟩;rw [c k];unfold IJ;rw [Ed];split
  ·rename_i e;rw [h1.2.2,e.1]
  ·rfl
theorem UL{AG:Nat}:∀(ps:List EN) (ws:List Ai),Du AG ws→(∀p∈ps,∀f∈p.Aq,Es ws f)→Du AG (ps.foldl M9 ws)∧Gc ws (ps.foldl M9 ws)∧∀k,((ps.foldl M9 ws).getD k BD).AF=(ws.getD k BD).AF
 |[],ws,h,_=>⟨h,.refl _,fun _=>rfl⟩
 |p::ps,ws,h,hf=>by
  rw [f_];obtain⟨a,b,c⟩:=W7 p.Aq ws h (hf p Cl);obtain⟨a',b',c'⟩:=UL ps (M9 ws p) a (fun q hq f hfq=>(hf q NO f hfq).same b);exact⟨a',b.trans b',fun k=>(c' k).trans (c k)⟩
def Ic(fs:List AZ)(k n:Nat):Prop:=∃f∈fs,f.kind=5∧0<f.data.size∧f.stream.toNat=k∧f.offset≤n∧n<f.offset+f.data.size
theorem cV(k n:Nat):¬Ic [] k n:=by rintro⟨f,h,_⟩;cases h
theorem Zl(f:AZ)(fs:List AZ)(k n:Nat):Ic (f::fs) k n↔(f.kind=5∧0<f.data.size∧f.stream.toNat=k∧f.offset≤n∧n<f.offset+f.data.size)∨Ic fs k n:=by
 simp [Ic,d_]
theorem EY.named{AG:Nat}{w:Ai}(h:EY AG w)(inn:Bool)(f:AZ)(hf:f.kind=5→f.offset+f.data.size≤w.b.length):
  EY AG (w.named inn f)∧KC w (w.named inn f)∧∀n,A3 n (w.named inn f).AF.l↔A3 n w.AF.l∨(inn=true∧f.kind=5∧0<f.data.size∧f.offset≤n∧n<f.offset+f.data.size):=by
 unfold Ai.named;by_cases hc:inn=true∧f.kind=5∧f.data.size≠0
 ·simp only [hc,ne_eq,not_false_eq_true,and_self,if_true];have hb:=hf hc.2.1
  have hpos:0<f.data.size:=by omega
  obtain⟨a,b,c,_,e⟩:=Ls (lo:=f.offset) (hi:=f.offset+f.data.size-1) h.co h.cf h.cm h.len Cg;obtain⟨a',b',c',_⟩:=Ls (lo:=f.offset) (hi:=f.offset+f.data.size-1) h.so h.sf h.sm h.len Cg;refine⟨⟨h.len,a',b',c',a,b,c,?_,h.high,h.code⟩,QP,fun n=>?_⟩
  ·refine Nat.le_trans h.room (Nat.add_le_add_right (mP h.co.inc a.inc a.hi fun n hn=>?_) _);exact(e n).2 (.inr hn)
  ·rw [e n];constructor
   ·rintro(g|g)
    ·exact .inr ⟨trivial,trivial,hpos,g.1,Cg⟩
    ·exact .inl g
   ·rintro(g|g)
    ·exact .inr g
    ·exact .inl ⟨g.2.2.2.1,Cg⟩
 ·rw [if_neg hc];refine⟨⟨h.len,h.so,h.sf,h.sm,h.co,h.cf,h.cm,h.room,h.high,h.code⟩,QP,fun n=>⟨.inl,?_⟩⟩;rintro(g|⟨g1,g2,g3,g4,g5⟩)
  ·exact g
  ·exact absurd ⟨g1,g2,Cg⟩ hc
theorem Wk{AG:Nat}{inn:Bool}:∀(fs:List AZ) (ws:List Ai),Du AG ws→(∀f∈fs,Es ws f)→
  Du AG (fs.foldl (H5 inn) ws)∧Gc ws (fs.foldl (H5 inn) ws)∧∀k n,A3 n ((fs.foldl (H5 inn) ws).getD k BD).AF.l↔A3 n (ws.getD k BD).AF.l∨(inn=true∧Ic fs k n)
 |[],ws,h,_=>⟨h,.refl _,fun k n=>⟨.inl,fun h=>by rcases h with h|h;exact h;exact absurd h.2 (cV _ _)⟩⟩
 |f::fs,ws,h,hf=>by
  rw [f_];have hf1:=hf f Cl
  have hk4:f.stream.toNat<4:=by have:=hf1.1;have:=hf1.2.1;omega
  have h1:=(h.ok f.stream.toNat hk4).named inn f hf1.2.2;have h2:Du AG (H5 inn ws f):=h.set h1.1;have h3:Gc ws (H5 inn ws f):=.set h1.2.1;obtain⟨a,b,c⟩:=Wk fs (H5 inn ws f) h2 (fun g hg=>(hf g IP).same h3);refine⟨a,h3.trans b,fun k n=>?_⟩;rw [c k n,Zl]
  have h5:A3 n ((H5 inn ws f).getD k BD).AF.l↔A3 n (ws.getD k BD).AF.l∨(inn=true∧f.kind=5∧0<f.data.size∧f.stream.toNat=k∧f.offset≤n∧n<f.offset+f.data.size):=by
   unfold H5;rw [Ed];by_cases e:f.stream.toNat=k
   ·subst e;rw [if_pos ⟨rfl,by rw [h.len];exact hk4⟩,h1.2.2 n]
    simp
   ·rw [if_neg (fun h=>e h.1)];exact⟨.inl,fun h=>by rcases h with h|h;exact h;exact absurd h.2.2.2.1 e⟩
  rw [h5];constructor
  ·rintro((g|⟨g1,g2⟩)|⟨g1,g2⟩)
   ·exact .inl g
   ·exact .inr ⟨g1,.inl g2⟩
   ·exact .inr ⟨g1,.inr g2⟩
  ·rintro(g|⟨g1,g2|g2⟩)
   ·exact .inl (.inl g)
   ·exact .inl (.inr ⟨g1,g2⟩)
   ·exact .inr ⟨g1,g2⟩
theorem PB{AG:Nat}{l:List AP}:∀(ps:List EN) (ws:List Ai),Du AG ws→(∀p∈ps,∀f∈p.Aq,Es ws f)→
  Du AG (ps.foldl (Jy l) ws)∧Gc ws (ps.foldl (Jy l) ws)∧∀k n,A3 n ((ps.foldl (Jy l) ws).getD k BD).AF.l↔A3 n (ws.getD k BD).AF.l∨∃p∈ps,A8 l p.number=true∧Ic p.Aq k n
 |[],ws,h,_=>⟨h,.refl _,fun k n=>⟨.inl,fun h=>by rcases h with h|⟨p,h,_⟩;exact h;cases h⟩⟩
 |p::ps,ws,h,hf=>by
  rw [f_];obtain⟨a,b,c⟩:=Wk (inn:=A8 l p.number) p.Aq ws h (hf p Cl);obtain⟨a',b',c'⟩:=PB (l:=l) ps (Jy l ws p) a (fun q hq f hfq=>(hf q NO f hfq).same b);refine⟨a',b.trans b',fun k n=>?_⟩;rw [c' k n,show A3 n ((Jy l ws p).getD k BD).AF.l↔_ from c k n];constructor
  ·rintro((g|g)|⟨q,hq,g⟩)
   ·exact .inl g
   ·exact .inr ⟨p,Cl,g⟩
   ·exact .inr ⟨q,NO,g⟩
  ·rintro(g|⟨q,hq,g⟩)
   ·exact .inl (.inl g)
   ·rcases d_.1 hq with rfl|hq
    ·exact .inl (.inr g)
    ·exact .inr ⟨q,hq,g⟩
end Go.Proofs.YtgfdlpcdjklcoaaGreatDoor
