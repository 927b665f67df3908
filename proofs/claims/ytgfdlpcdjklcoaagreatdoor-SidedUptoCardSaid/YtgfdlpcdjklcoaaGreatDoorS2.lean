/- A part of this proof: steps of the program, plain facts; no condition. -/
import Derived.Test.YtgfdlpcdjklcoaaGreatDoorS1
import Derived.Stop.BytesEq
namespace Go.Proofs.YtgfdlpcdjklcoaaGreatDoor
open Go Go.RowKit
open _root_.Nat renaming pow_add→a_,mul_mod_mul_right→e_,two_pow_pos→f_,two_pow_add_eq_or_of_lt→g_,shiftRight_eq_div_pow→g',mod_eq_of_lt→h_,div_lt_iff_lt_mul→j_,mul_le_mul_right→j',pow_le_pow_right→k_,blt→l_,mul_comm→m_,shiftLeft_eq→n_,div_eq_of_lt→o_,mul_assoc→p_,sub_zero→q_,pow_succ→q',add_mul→r_
open _root_.Go.Result renaming andThen_ok→b_
open _root_.Option renaming none_or→c_
open _root_.Go.Sem renaming run_bind→d_,run_pure→i_
set_option linter.unusedVariables false
section
theorem rn{w:World}{b b' i:Nat}{y:Obj}(h:b'≠b):(w.putObj b y).cell? ⟨b',i,none⟩=w.cell? ⟨b',i,none⟩:=by
 simp [World.cell?,World.putObj_heap_other h]
theorem lx{w:World}{b b' i:Nat}{y:Obj}(h:b'≠b):(w.putObj b y).frozen? ⟨b',i,none⟩=w.frozen? ⟨b',i,none⟩:=by
 simp [World.frozen?,World.putObj_heap_other h]
theorem Sat.Ev{B:World}{b:Nat}{x:Obj}{R:HP}{w:World}(h:Sat B (HP.obj b x*R) w)(hx:∀c t f,x≠ .cells c t f:=by first|simp|simp [rec_]):w.heap[b]?=some x∧B.heap.size≤b∧∀c t f,x≠ .cells c t f:=by
 obtain⟨_,r,hr,hl⟩:=h.left;obtain rfl:r=_:=hr;exact⟨(WG hx).1 (hl.obj b x (by simp)),hl.Li b x (by simp),hx⟩
theorem Sat.Fj{B:World}{b:Nat}{x y:Obj}{R:HP}{w:World}(h:Sat B (HP.obj b x*R) w)(hy:∀c t f,y≠ .cells c t f)(hx0:∀c t f,x≠ .cells c t f:=by first|simp|simp [rec_]):Sat B (HP.obj b y*R) (w.putObj b y):=by
 obtain⟨hx,hb,hxc⟩:=h.Ev hx0;have hlt:b<w.heap.size:=(Array.getElem?_eq_some_iff.1 hx).1;obtain⟨h1,r,⟨r1,r2,hd,rfl,e1,e2⟩,hl⟩:=h;obtain rfl:r1=_:=e1;have hno:r2.o b=none:=(hd.2 b).resolve_left (by simp)
 have hne:∀b' i v,r2.c b' i=some v→b'≠b:=fun b' i v e hbb=>by
  subst hbb
  have:=hl.cell b' i v (by simp [As.un,e])
  unfold World.cell? at this;rw [hx]at this
  cases x<;>first|cases this|exact absurd rfl (hxc _ _ _)
 have hneq:∀k,k≠b→(w.putObj b y).heap[k]?=w.heap[k]?:=fun k hk=>World.putObj_heap_other hk;refine⟨⟨h1.os,h1.tape,h1.output,by simpa using h1.size,fun k hk=>(hneq k (by omega)).trans (h1.block k hk)⟩,_,⟨_,r2,⟨fun _ _=>.inl rfl,fun b'=>?_⟩,rfl,rfl,e2⟩,?_⟩
 ·by_cases h:b'=b
  ·subst h;exact .inr hno
  ·exact .inl (by simp [h])
 ·refine⟨fun b' i v e=>?_,fun b' i v e=>?_,fun b' z e=>?_,fun b' z e=>?_,fun b' i v e=>?_,fun b' z e=>?_⟩
  ·simp only [As.un,c_]at e;rw [rn (hne b' i v e)];exact hl.cell b' i v (by simp [As.un,e])
  ·simp only [As.un,c_]at e;rw [lx (hne b' i v e)];exact hl.free b' i v (by simp [As.un,e])
  ·simp only [As.un]at e;by_cases h:b'=b
   ·subst h;simp at e;subst e;exact(WG hy).2 (World.putObj_heap_same hlt)
   ·simp [h]at e;exact(hl.obj b' z (by simp [As.un,h,e])).same (hneq b' h)
  ·trivial
  ·simp only [As.un,c_]at e;exact hl.Kc b' i v (by simp [As.un,e])
  ·simp only [As.un]at e;by_cases h:b'=b
   ·subst h;exact hb
   ·simp [h]at e;exact hl.Li b' z (by simp [As.un,h,e])
theorem Sat.Nj{B:World}{H:HP}{w:World}(hw:Sat B H w)(y:Obj)(hy:∀c t f,y≠ .cells c t f):Sat B (HP.obj w.heap.size y*H) (w.alloc y):=by
 obtain⟨h1,r,hr,hl⟩:=hw
 have hlt:∀b i v,r.c b i=some v→b<w.heap.size:=fun b i v e=>by
  have:=hl.cell b i v e
  unfold World.cell? at this
  cases h:w.heap[b]? with
  |none=>rw [h]at this;cases this
  |some o=>exact(Array.getElem?_eq_some_iff.1 h).1
 have hltO:∀b z,r.o b=some z→b<w.heap.size:=fun b z e=>(hl.obj b z e).lt
 have hold:∀k,k<w.heap.size→(w.alloc y).heap[k]?=w.heap[k]?:=fun k hk=>by
  show(w.heap.push y)[k]?=_;rw [Array.getElem?_push_lt hk,←Array.getElem?_eq_getElem]
 refine⟨⟨h1.os,h1.tape,h1.output,by have:=h1.size;simp only [World.P9];omega,fun k hk=>(hold k (by have:=h1.size;omega)).trans (h1.block k hk)⟩,_,⟨_,r,⟨fun _ _=>.inl rfl,fun b=>?_⟩,rfl,rfl,hr⟩,?_⟩
 ·cases h:r.o b with
  |none=>exact .inr rfl
  |some z=>exact .inl (by have:=hltO b z h;simp;omega)
 ·refine⟨fun b i v e=>?_,fun b i v e=>?_,fun b z e=>?_,fun b z e=>?_,fun b i v e=>?_,fun b z e=>?_⟩
  ·simp only [As.un,c_]at e
   have:=hl.cell b i v e
   unfold World.cell? at this⊢;rw [hold b (hlt b i v e)];exact this
  ·simp only [As.un,c_]at e
   have:=hl.free b i v e
   unfold World.frozen? at this⊢;rw [hold b (hlt b i v e)];exact this
  ·simp only [As.un]at e;by_cases h:b=w.heap.size
   ·subst h;simp at e;subst e;exact(WG hy).2 (World.alloc_heap_new _ _)
   ·simp [h]at e;exact(hl.obj b z e).same (hold b (hltO b z e))
  ·trivial
  ·simp only [As.un,c_]at e;exact hl.Kc b i v e
  ·simp only [As.un]at e;by_cases h:b=w.heap.size
   ·subst h;exact h1.size
   ·simp [h]at e;exact hl.Li b z e
def Yn(P:Program)(B:World)(l:Nat)(args:List Value)(H:HP)(Post:Value→HP→Prop):Prop:=
 ∀w,Sat B H w→YieldAt (fr none) 0 P l args.toArray w fun e w'=>∃v H',e=.returned v∧Post v H'∧Sat B H' w'
def Of(P:Program)(B:World){α:Type}(gf:FuncId)(lb:List Value)(Am:α→Value)(S Sp G:List α→Prop)(F F':HP):Prop:=
 ∀(l:Nat) (J Jx:List α→HP),(∀pre x R,Sp (pre++[x])→Yn P B l [Am x] (J pre*R) (fun v H'=>∃g:Bool,v=.bool g∧(g=true→G (pre++[x]))∧H'=(bif g then J (pre++[x])else Jx (pre++[x]))*R))→
  Fn P B gf (.func (.yield l) #[] #[]::lb) (J []*F) (fun _ H'=>(∃xs,S xs∧H'=J xs*F')∨∃pre,Sp pre∧H'=Jx pre*F')
def X6(B:World)(n:Nat)(E:A6)(H:HP):Exit→Act→World→Prop
 | .normal,a,w=>DR n E a∧a.defers=[]∧Sat B H w
 |_,_,_=>False
def SQ(B:World)(Gp:Prop)(H:HP)(HX:Nat→HP):Exit→Act→World→Prop
 | .normal,_,w=>Gp∧Sat B H w
 | .exit id,_,w=>Sat B (HX id) w
 |_,_,_=>False
instance{B:World}{n:Nat}{E:A6}{H:HP}:PQ (X6 B n E H):=⟨fun _ _ _ _ _ h=>h,fun _ _ h=>h⟩
instance{B:World}{Gp:Prop}{H:HP}{HX:Nat→HP}:PQ (SQ B Gp H HX):=⟨fun _ _ _ _ _ h=>h,fun _ _ h=>h⟩
abbrev Ii(d:Nat):Deferred:={target:=.collected d,args:= #[]}
section
variable{P:Program}{B:World}{n:Nat}{E:A6}{D:CK}{H:HP}{d:Option Tmp}{T T' ty:TypeId}{pos:String}{af:Array Edge}{g:Option (Nat×Bool)}{x y z:Operand}{Q:Exit→Act→World→Prop}
theorem uq{E':A6}{r:Option Nat}{H':HP}(s:Sub E E')(e:H=H'):BT B (X6 B n E' H') .normal n E ⟨[],r⟩ H:=fun _ _ h1 h2 h3=>⟨h1.sub s,h2,e▸h3⟩
theorem az{Gp:Prop}{H':HP}{HX:Nat→HP}(g:Gp)(e:∀w,Sat B H w→Sat B H' w):BT B (SQ B Gp H' HX) .normal n E D H:=fun _ w _ _ h3=>⟨g,e w h3⟩
theorem te{Gp:Prop}{H':HP}{HX:Nat→HP}{id:Nat}(e:∀w,Sat B H w→Sat B (HX id) w):BT B (SQ B Gp H' HX) (.exit id) n E D H:=fun a w _ _ h3=>e w h3
theorem Nc{c:Code}{α:Type}{p:α→Prop}{A:α→HP}{R:HP}(h:∀z,p z→WP P B c Q n E D (A z*R)):WP P B c Q n E D ((HP.ex fun z=>HP.pr (p z)*A z)*R):=
 qr fun z=>by rw [HP.assoc];exact tu fun hp=>h z hp
theorem TT{e:Exit}{α:Type}{p:α→Prop}{A:α→HP}{R:HP}(h:∀z,p z→BT B Q e n E D (A z*R)):BT B Q e n E D ((HP.ex fun z=>HP.pr (p z)*A z)*R):=by
 intro a w h1 h2 h3;rw [HP.HV]at h3;obtain⟨z,h4⟩:=Sat.ex.1 h3;rw [HP.assoc]at h4;obtain⟨hp,h5⟩:=Sat.pr.1 h4;exact h z hp a w h1 h2 h5
theorem I4{α:Type}{p:α→Prop}{A:α→HP}{R:HP}(z:α)(hp:p z)(e:H=A z*R)(w:World)(hw:Sat B H w):Sat B ((HP.ex fun z=>HP.pr (p z)*A z)*R) w:=by
 rw [HP.HV];exact Sat.ex.2 ⟨z,by rw [HP.assoc];exact Sat.pr.2 ⟨hp,e▸hw⟩⟩
theorem Vg{l:Nat}{t:Operand}{xs:List Operand}{vs:List Value}{ats:Array TypeId}{Post:Value→HP→Prop}
  (ht:ev E t=some (.func (.yield l) #[] #[]))(hx:Dk E xs=some vs)(hs:Yn P B l vs H Post):P6 P B n ⟨d,.call ⟨.value t,xs.toArray,ats⟩,ty,pos,af,g⟩ E D H Post:=by
 intro a w h1 h2 h3 K Q hk;obtain⟨fn,tmps,assign,body,hy,hR⟩:=hs w h3;refine⟨fun _ _=>trivial,?_⟩;rw [Oper.semAt_eq _ _ _ (fun c=>by simp)]
 have hrun:(execOp a.eval ⟨d,.call ⟨.value t,xs.toArray,ats⟩,ty,pos,af,g⟩).run P w=.ok (.round l fn tmps assign body) w:=by
  simp only [execOp,resolve,List.map_toArray,Ih h1 hx,h1.ev ht,Deferred.ofValue,d_,i_,b_,invoke];simpa using hy
 rw [hrun];refine⟨fun h0=>by simp [fr,Fence.wide]at h0,RoundIn.mono (F:=fr none) (n:=0) hR ?_⟩;rintro e w' ⟨v,H',rfl,hp,hs'⟩;exact hk v H' w' hp hs'
theorem i7{α:Type}{gf:FuncId}{lb:List Value}{p:Nat}{g:Operand}{assign body:Code}[hok:AX P gf]
  (Am:α→Value)(S Sp G:List α→Prop)(J:List α→HP)(Jx:Nat→List α→HP)(F F':HP)(EA:α→A6)
  (hg:ev E g=some (.func (.func gf) #[] lb.toArray))(hp:l_ p n=true)(hr:D.r=none)(hH:∀w,Sat B H w→Sat B (J []*F) w)(hit:Of P B gf lb Am S Sp G F F')
  (hasg:∀pre x l R,WP P B assign (X6 B n (EA x) (J pre*R)) n ((p,Am x)::E) ⟨[],some l⟩ (J pre*R))
  (hbody:∀pre x l R,Sp (pre++[x])→WP P B body (SQ B (G (pre++[x])) (J (pre++[x])*R) (fun id=>Jx id (pre++[x])*R)) n (EA x) ⟨[],some l⟩ (J pre*R))
  (hdone:∀d xs,S xs→BT B Q .normal n E ⟨Ii d::D.ds,none⟩ (J xs*(HP.obj d (.deferred (some []))*F')))
  (hstop:∀d pre id,Sp pre→BT B Q (.exit id) n E ⟨Ii d::D.ds,none⟩ (Jx id pre*(HP.obj d (.deferred (some []))*F'))):
  WP P B (.rangeFunc g #[p] assign body) Q n E D H:=by
 intro a w h1 h2 h3;rw [hr];refine wpIn_rangeFunc fun fn _=>?_;have h3:=hH w h3
 let rec_:LoopState→Option Code→Obj:=fun st pe=>.loop {state:=st,pending:=pe,fn,tmps:=a.tmps,params:= #[p],assign,body,defers:=w.heap.size}
 let l:=w.heap.size+1
 have hl1:Sat B (HP.obj l (rec_ .ready none)*(HP.obj w.heap.size (.deferred (some []))*(J []*F))) ((w.alloc (.deferred (some []))).alloc (rec_ .ready none)):=by
  have:=(h3.Nj (.deferred (some [])) (by simp)).Nj (rec_ .ready none) (by simp [rec_])
  rwa [World.P9]at this
 let J':List α→HP:=fun pre=>J pre*(HP.obj w.heap.size (.deferred (some []))*HP.obj l (rec_ .ready none))
 let Jx':List α→HP:=fun pre=>HP.ex fun id=>Jx id pre*(HP.obj w.heap.size (.deferred (some []))*HP.obj l (rec_ .done (some (.exit id))))
 have hY:∀pre x R,Sp (pre++[x])→Yn P B l [Am x] (J' pre*R) (fun v H'=>∃g:Bool,v=.bool g∧(g=true→G (pre++[x]))∧H'=(bif g then J' (pre++[x])else Jx' (pre++[x]))*R):=by
  intro pre x R hsp W hW
  have e1:J' pre*R=HP.obj l (rec_ .ready none)*(J pre*(HP.obj w.heap.size (.deferred (some []))*R)):=by
   show J pre*(_*_)*R=_;ac_rfl
  rw [e1]at hW;obtain⟨hW1,_,_⟩:=hW.Ev;refine⟨fn,_,assign,body,run_yield hW1 rfl,?_⟩;refine roundIn_of_wpIn trivial ?_
  have hE:DR n ((p,Am x)::E) {tmps:=((#[p]:Array Nat).zip [Am x].toArray).foldl (fun t (p,v)=>t.setIfInBounds p v) a.tmps,defers:=[]}:=by
   have h5:=h1.put (t:=p) (by simpa using hp) (Am x)
   have e:((#[p]:Array Nat).zip [Am x].toArray).foldl (fun t (p,v)=>t.setIfInBounds p v) a.tmps=a.tmps.setIfInBounds p (Am x):=by
    have e0:(#[p]:Array Nat).zip [Am x].toArray= #[(p,Am x)]:=by simp [Array.zip]
    rw [e0];simp
   rw [e];exact h5
  have e2:HP.obj l (rec_ .ready none)*(J pre*(HP.obj w.heap.size (.deferred (some []))*R))=J pre*(HP.obj l (rec_ .ready none)*(HP.obj w.heap.size (.deferred (some []))*R)):=by ac_rfl
  refine wpIn_mono (hasg pre x l (HP.obj l (rec_ .ready none)*(HP.obj w.heap.size (.deferred (some []))*R)) _ W hE rfl (e2▸hW)) ?_;intro e a1 w1 hq
  cases e with
  |normal=>
   obtain⟨k1,k2,k3⟩:=hq;rw [←e2]at k3;obtain⟨hb1,_,_⟩:=k3.Ev;refine⟨_,run_beginRound hb1 rfl,?_⟩;have k4:=k3.Fj (y:=rec_ .busy none) (by simp [rec_])
   have e3:HP.obj l (rec_ .busy none)*(J pre*(HP.obj w.heap.size (.deferred (some []))*R))=J pre*(HP.obj l (rec_ .busy none)*(HP.obj w.heap.size (.deferred (some []))*R)):=by ac_rfl
   rw [e3]at k4;refine wpIn_mono (hbody pre x l _ hsp a1 _ k1 k2 k4) ?_;intro e a2 w2 hq
   cases e with
   |normal=>
    obtain⟨hG,hq⟩:=hq;have hq':Sat B (J (pre++[x])*(HP.obj l (rec_ .busy none)*(HP.obj w.heap.size (.deferred (some []))*R))) w2:=hq;rw [HP.C8]at hq';obtain⟨hb2,_,_⟩:=hq'.Ev;refine⟨_,_,run_endRound none hb2,.bool true,_,rfl,⟨true,rfl,fun _=>hG,rfl⟩,?_⟩
    have:=hq'.Fj (y:=rec_ .ready none) (by simp [rec_])
    show Sat B (J (pre++[x])*(_*_)*R) _
    have e4:J (pre++[x])*(HP.obj w.heap.size (.deferred (some []))*HP.obj l (rec_ .ready none))*R=HP.obj l (rec_ .ready none)*(J (pre++[x])*(HP.obj w.heap.size (.deferred (some []))*R)):=by ac_rfl
    rw [e4];exact this
   |exit id=>
    have hq':Sat B (Jx id (pre++[x])*(HP.obj l (rec_ .busy none)*(HP.obj w.heap.size (.deferred (some []))*R))) w2:=hq;rw [HP.C8]at hq';obtain⟨hb2,_,_⟩:=hq'.Ev;refine⟨_,_,run_endRound (some (.exit id)) hb2,.bool false,_,rfl,⟨false,rfl,fun h=>(by cases h),rfl⟩,?_⟩
    have:=hq'.Fj (y:=rec_ .done (some (.exit id))) (by simp [rec_])
    show Sat B (HP.ex _*R) _;rw [HP.HV];refine Sat.ex.2 ⟨id,?_⟩
    have e4:Jx id (pre++[x])*(HP.obj w.heap.size (.deferred (some []))*HP.obj l (rec_ .done (some (.exit id))))*R=HP.obj l (rec_ .done (some (.exit id)))*(Jx id (pre++[x])*(HP.obj w.heap.size (.deferred (some []))*R)):=by ac_rfl
    rw [e4];exact this
   |goto t=>exact hq.elim
   |ret=>exact hq.elim
   |panic ch=>exact hq.elim
   |outgrown=>exact hq.elim
  |exit id=>exact hq.elim
  |goto t=>exact hq.elim
  |ret=>exact hq.elim
  |panic ch=>exact hq.elim
  |outgrown=>exact hq.elim
 have hcall:=hit l J' Jx' hY _ (by
  have e5:J' []*F=HP.obj l (rec_ .ready none)*(HP.obj w.heap.size (.deferred (some []))*(J []*F)):=by
   show J []*(_*_)*F=_
   ac_rfl
  rw [e5];exact hl1)
 let W1:World:=(w.alloc (.deferred (some []))).alloc (rec_ .ready none)
 refine⟨l,[Ii w.heap.size],W1,{target:=.fn (.func gf) lb.toArray,args:= #[.func (.yield l) #[] #[]]},W1,gf,(.func (.yield l) #[] #[]::lb).toArray,W1,run_enterLoop_outer _ _ _ _ _,?_,fun f' _=>(show(fr none).fn f' from trivial),?_,fun h0=>by simp [fr,Fence.wide]at h0,?_⟩
 ·simp only [resolve,h1.ev hg];simp [go_sem]
 ·have:=hok.get (.func (.yield l) #[] #[]::lb).toArray W1
  simpa [invoke]using this
 ·refine CallsIn.mono (TR (r:=none) (n:=0-1) hcall) ?_;rintro e w3 ⟨v,H',rfl,hp3,hs3⟩;rcases hp3 with⟨xs,hS,rfl⟩|⟨pre,hS,rfl⟩
  ·have e6:J' xs*F'=HP.obj l (rec_ .ready none)*(J xs*(HP.obj w.heap.size (.deferred (some []))*F')):=by
    show J xs*(_*_)*F'=_;ac_rfl
   rw [e6]at hs3;obtain⟨hb3,_,_⟩:=hs3.Ev;refine⟨_,_,run_endLoop hb3 (by simp),?_⟩
   have:=(hs3.Fj (y:=rec_ .exhausted none) (by simp [rec_])).right
   exact hdone _ xs hS _ _ h1 (by simp [h2]) this
  ·have hs4:Sat B (HP.ex (fun id=>Jx id pre*(HP.obj w.heap.size (.deferred (some []))*HP.obj l (rec_ .done (some (.exit id)))))*F') w3:=hs3;rw [HP.HV]at hs4;obtain⟨id,hs5⟩:=Sat.ex.1 hs4
   have e6:Jx id pre*(HP.obj w.heap.size (.deferred (some []))*HP.obj l (rec_ .done (some (.exit id))))*F'=HP.obj l (rec_ .done (some (.exit id)))*(Jx id pre*(HP.obj w.heap.size (.deferred (some []))*F')):=by ac_rfl
   rw [e6]at hs5;obtain⟨hb3,_,_⟩:=hs5.Ev;refine⟨_,_,run_endLoop hb3 (by simp),?_⟩
   have:=(hs5.Fj (y:=rec_ .exhausted (some (.exit id))) (by simp [rec_])).right
   exact wpIn_exit (hstop _ pre id hS _ _ h1 (by simp [h2]) this)
def Qy(P:Program)(B:World)(fn:Func)(Post:Value→HP→Prop):Exit→Act→World→Prop
 | .normal,a,w| .ret,a,w=>LeavesInM (fr none) 0 P fn a.tmps (fun e w'=>∃v H',e=.returned v∧Post v H'∧Sat B H' w') a.defers .returning w
 |_,_,_=>False
instance{P:Program}{B:World}{fn:Func}{Post:Value→HP→Prop}:PQ (Qy P B fn Post):=⟨fun _ _ _ _ _ h=>h,fun _ _ h=>h⟩
theorem TA{c:Code}{f:FuncId}{fn:Func}{args:List Value}{Post:Value→HP→Prop}(hf:P.funcs[f]?=some fn)(hb:fn.body=some c)(hn:fn.ntmps=n)
  (ha:Nat.ble args.length n=true)(h:WP P B c (Qy P B fn Post) n (KN 0 args) ⟨[],none⟩ H):Fn P B f args H Post:=by
 intro w hw;refine(callsIn_wide (n:=0)).1 (callsIn_of_wp_marks (F:=fr none) (n:=0) hf hb trivial (wpIn_mono (h _ w ⟨?_,?_⟩ rfl hw) ?_))
 ·have:args.length≤n:=by simpa using ha
  simp [hn];omega
 ·intro t v e;obtain⟨_,h2⟩:=NQ args 0 t v e;simp only [q_]at h2;have hlt:t<args.length:=(List.getElem?_eq_some_iff.1 h2).1;simp only [];rw [Array.getElem?_append_left (by simpa using hlt)];simpa using h2
 ·intro e a w hq
  cases e<;>first|exact hq|exact hq.elim
theorem WB{fn:Func}{tmps:Array Value}{R:Ending→World→Prop}:∀(ms:List Nat) (w:World) (H:HP),Sat B (ms.foldr (fun d H=>HP.obj d (.deferred (some []))*H) H) w→
  (∀w',Sat B H w'→∃v,(results fn tmps).run P w'=.ok v w'∧R (.returned v) w')→LeavesInM (fr none) 0 P fn tmps R (ms.map Ii) .returning w
 |[],w,H,hs,hk=>hk w hs
 |m::ms,w,H,hs,hk=>by
  obtain⟨hb,_,_⟩:=Sat.Ev hs;refine⟨by simp,.inl ⟨m,_,rfl,run_takeDeferred hb,?_⟩⟩;exact WB ms _ H (Sat.right (Sat.Fj hs (y:=.deferred none) (by simp))) hk
theorem R3{r:Option Nat}{fn:Func}{Post:Value→HP→Prop}{ts:List Nat}{vs:List Value}(ms:List Nat)(H':HP)(hr:fn.results=(ts.map ResultVar.tmp).toArray)(hv:Dk E (ts.map Operand.tmp)=some vs)
  (hp:Post (Fk vs) H')(e:H=ms.foldr (fun d H=>HP.obj d (.deferred (some []))*H) H'):BT B (Qy P B fn Post) .ret n E ⟨ms.map Ii,r⟩ H:=by
 intro a w h1 h2 h3;show LeavesInM _ _ _ _ _ _ _ _ _;rw [h2]
 exact WB ms w H' (e▸h3) fun w' hw'=>⟨_,LK hr h1 hv w',_,_,rfl,hp,hw'⟩
end
end
section
section
variable{P:Program}{B:World}{n:Nat}{E:A6}{D:CK}{H R:HP}{ops:Array Oper}{Q:Exit→Act→World→Prop}{rest:List Oper}{fuel last:Nat}{ls:Array Bool}
 {op:Op} {T ty:TypeId} {pos:String} {af:Array Edge} {d:Option Tmp} {g:Option (Nat×Bool)} {x y:Operand}
theorem Qt{t j tj:Nat}{b want:Bool}(hj:(ops[j]?).bind (·.dst)=some tj)(hb:lk E tj=some (.bool b))(ht:l_ t n=true)(hw:b=want)
  (yes:WL P B ops Q (⟨some t,op,ty,pos,af,none⟩::rest) n E D H):WL P B ops Q (⟨some t,op,ty,pos,af,some (j,want)⟩::rest) n E D H:=
 tF hj hb ht (fun _=>yes) (fun h=>by subst hw;cases b<;>cases h)
theorem oQ{t j tj:Nat}{b want:Bool}(hj:(ops[j]?).bind (·.dst)=some tj)(hb:lk E tj=some (.bool b))(ht:l_ t n=true)(hw:b= !want)
  (no:WL P B ops Q rest n ((t,undef)::E) D H):WL P B ops Q (⟨some t,op,ty,pos,af,some (j,want)⟩::rest) n E D H:=
 tF hj hb ht (fun h=>by subst h;cases b<;>cases hw) (fun _=>no)
theorem CJ{p:Prop}[Decidable p]{l:List Oper}(tj:Nat)(hb:lk E tj=some (.bool (decide p)))(h1:p→WL P B ops Q l n E D H)(h2:¬p→WL P B ops Q l n E D H):WL P B ops Q l n E D H:=
 if h:p then h1 h else h2 h
theorem CU{b:Bool}{l:List Oper}(tj:Nat)(hb:lk E tj=some (.bool b))(h1:b=true→WL P B ops Q l n E D H)(h2:b=false→WL P B ops Q l n E D H):WL P B ops Q l n E D H:=by
 cases b
 ·exact h2 rfl
 ·exact h1 rfl
theorem DM{p:Prop}[Decidable p](tj:Nat)(hb:lk E tj=some (.bool (decide p)))(h1:p→WA P B ops Q R last fuel ls n E D H)(h2:¬p→WA P B ops Q R last fuel ls n E D H):WA P B ops Q R last fuel ls n E D H:=
 if h:p then h1 h else h2 h
theorem GF{b:Bool}(tj:Nat)(hb:lk E tj=some (.bool b))(h1:b=true→WA P B ops Q R last fuel ls n E D H)(h2:b=false→WA P B ops Q R last fuel ls n E D H):WA P B ops Q R last fuel ls n E D H:=by
 cases b
 ·exact h2 rfl
 ·exact h1 rfl
theorem Is(i:Nat){t j tj:Nat}{v:Value}{b want:Bool}(hi:ops[i]?=some ⟨some t,op,ty,pos,af,some (j,want)⟩)(hk:Bt ops ls last i=true)[hq:PQ Q][hE:CE B H R](ht:l_ t n=true)
  (hj:(ops[j]?).bind (·.dst)=some tj)(hb:lk E tj=some (.bool b))(hw:b=want)
  (hv:Aa P B n ⟨some t,op,ty,pos,af,none⟩ E R v)(next:WA P B ops Q R last fuel (ls.setIfInBounds i true) n ((t,v)::E) D H):
  WA P B ops Q R last (fuel+1) ls n E D H:=by
 subst hw;exact yV i hi hk ht hj hb hv next
theorem DU(i:Nat){t j tj:Nat}{b want:Bool}(hi:ops[i]?=some ⟨some t,op,ty,pos,af,some (j,want)⟩)(hk:Bt ops ls last i=true)[hq:PQ Q][hE:CE B H R](ht:l_ t n=true)
  (hj:(ops[j]?).bind (·.dst)=some tj)(hb:lk E tj=some (.bool b))(hw:b= !want)
  (next:WA P B ops Q R last fuel (ls.setIfInBounds i true) n ((t,undef)::E) D H):
  WA P B ops Q R last (fuel+1) ls n E D H:=u9 i hi hk ht hj hb hw next
theorem SF(i:Nat){t j tj:Nat}{b want:Bool}{Post:Value→HP→Prop}(hr:Region.ready .any ops ls=[i])(hi:ops[i]?=some ⟨some t,op,ty,pos,af,some (j,want)⟩)(ht:l_ t n=true)
  (hj:(ops[j]?).bind (·.dst)=some tj)(hb:lk E tj=some (.bool b))(hw:b=want)
  (he:C7 P B n ⟨some t,op,ty,pos,af,some (j,want)⟩ E D H Post)
  (next:∀v H',Post v H'→(last≤i∨CE B H' R)∧WA P B ops Q R last fuel (ls.setIfInBounds i true) n ((t,v)::E) D H'):
  WA P B ops Q R last (fuel+1) ls n E D H:=by
 intro a w h1 h2 h3
 have hy:yielded ops a.tmps j=some b:=by
  have:=h1.2 _ _ hb
  simp [yielded,hj,this]
 refine⟨(fun h0=>by rw [hr]at h0;cases h0),fun k hk=>?_⟩;rw [hr]at hk;obtain rfl:=List.mem_singleton.1 hk;unfold wpOp;rw [hi];simp only [Region.wanted,hy,hw,beq_self_eq_true,if_true];refine .inl (he a w h1 h2 h3 _ _ fun v H' w' hp hs=>?_);obtain⟨n1,n2⟩:=next v H' hp;exact⟨n1.imp id (fun h=>h.get w' hs),n2 _ w' (h1.put (by simpa using ht) v) (by simp [Act.put,h2]) hs⟩
theorem Fs{c:Operand}{b:Bool}{u:Value}(hw:b=true)(hc:ev E c=some (.bool b))(hx:ev E x=some u):
  Aa P B n ⟨d,.pick c x y,ty,pos,af,g⟩ E H u:=by subst hw;exact se hc hx
theorem Fe{c:Operand}{b:Bool}{u:Value}(hw:b=false)(hc:ev E c=some (.bool b))(hy:ev E y=some u):
  Aa P B n ⟨d,.pick c x y,ty,pos,af,g⟩ E H u:=by subst hw;exact mq hc hy
theorem wD{p:Prop}[Decidable p](h:ev E x=some (.bool (decide p))):Aa P B n ⟨d,.unOp .not T x,ty,pos,af,g⟩ E H (.bool (decide (¬p))):=by
 have:=kT (P:=P) (B:=B) (n:=n) (H:=H) (d:=d) (T:=T) (ty:=ty) (pos:=pos) (af:=af) (g:=g) h
 rwa [show(!decide p)=decide (¬p) by simp]at this
theorem B! {t:Operand}{u v:Code}{b:Bool}(hb:ev E t=some (.bool b))(hw:b=true)(h:WP P B u Q n E D H):WP P B (.cond t u v) Q n E D H:=by subst hw;exact Rs hb (fun _=>h) (fun h=>by cases h)
theorem sF{t:Operand}{u v:Code}{b:Bool}(hb:ev E t=some (.bool b))(hw:b=false)(h:WP P B v Q n E D H):WP P B (.cond t u v) Q n E D H:=by subst hw;exact Rs hb (fun h=>by cases h) (fun _=>h)
end
section
variable{P:Program}{B:World}{n:Nat}{E:A6}{H:HP}
def Pm(P:Program)(B:World)(n:Nat)(E:A6)(H:HP)(rv:ResultVar)(v:Value):Prop:=
 ∀a w,DR n E a→Sat B H w→(match rv with
  | .tmp t=>(pure (a.tmps.getD t undef):Sem Value)
  | .cell c t=>do loadVar t (←asAddr (a.tmps.getD c undef))).run P w=.ok v w
theorem NI{c t b k:Nat}{l:List Value}{R:HP}[hT:E6 P t k](h:ev E (.tmp c)=some (.pointer (some ⟨b,0,none⟩)))[hr:Row H b 0 l R](hl:l.length=k):Pm P B n E H (.cell c t) (.agg l.toArray):=by
 intro a w h1 hw;have e:=h1.ev h;have e2:a.tmps.getD c undef=.pointer (some ⟨b,0,none⟩):=e;rw [hr.eq]at hw
 have h1:(loadCells ⟨b,0,none⟩ k).run P w=.ok l.toArray w:=by
  rw [←hl];refine run_loadCells_list w ⟨b,0,none⟩ l fun j v e=>?_
  have:=hw.cells j v e
  by_cases hj:j=0
  ·subst hj;simpa [Addr.add]using this
  ·simpa [Addr.add,hj]using this
 simp [e2,asAddr,loadVar,hT.get,hT.size,h1]
theorem RP{c t b:Nat}{v:Value}{s:Prop}[hT:CQ P t](h:ev E (.tmp c)=some (.pointer (some ⟨b,0,none⟩)))[hr:Rd B H b 0 v s](hs:s):Pm P B n E H (.cell c t) v:=by
 intro a w h1 hw;have e:=h1.ev h;have e2:a.tmps.getD c undef=.pointer (some ⟨b,0,none⟩):=e;have h3:=hr.get w hw hs;simp [e2,asAddr,loadVar,hT.get,h3]
def LF(P:Program)(B:World)(n:Nat)(E:A6)(H:HP):List ResultVar→List Value→Prop
 |[],vs=>vs=[]
 |r::rs,vs=>∃v us,vs=v::us∧Pm P B n E H r v∧LF P B n E H rs us
theorem KX:LF P B n E H [] []:=rfl
theorem Iv{r:ResultVar}{rs:List ResultVar}{v:Value}{vs:List Value}(h:Pm P B n E H r v)(hs:LF P B n E H rs vs):LF P B n E H (r::rs) (v::vs):=⟨v,vs,rfl,h,hs⟩
theorem rH{fn:Func}{a:Act}{rs:List ResultVar}{vs:List Value}(hr:fn.results=rs.toArray)(he:DR n E a)(hv:LF P B n E H rs vs){w:World}(hw:Sat B H w):
  (results fn a.tmps).run P w=.ok (Fk vs) w:=by
 have h2:∀f:ResultVar→Sem Value,(∀r v,r∈rs→Pm P B n E H r v→(f r).run P w=.ok v w)→(List.mapM f rs).run P w=.ok vs w:=by
  clear hr;intro f hf
  induction rs generalizing vs with
  |nil=>obtain rfl:vs=[]:=hv;rfl
  |cons r rs ih=>
   obtain⟨v,us,rfl,h3,h4⟩:=hv;simp only [List.mapM_cons,d_,hf r v (by simp) h3,b_,ih h4 (fun r v hm=>hf r v (by simp [hm])),i_]
 unfold results;rw [hr,List.mapM_toArray];simp only [d_,Sem.run_map]
 rw [h2 _ (fun r v _ h=>by
  have:=h a w he hw
  cases r<;>exact this)]
 simp only [b_,i_]
 match vs with
 |[]=>rfl
 |[v]=>rfl
 |u::v::r=>simp [Fk]
theorem NA{r:Option Nat}{fn:Func}{Post:Value→HP→Prop}{rs:List ResultVar}{vs:List Value}(H':HP)[hE:CE B H H'](hr:fn.results=rs.toArray)(hv:LF P B n E H rs vs)
  (hp:Post (Fk vs) H'):BT B (Ip P B fn Post) .ret n E ⟨[],r⟩ H:=
 fun _ w h1 h2 h3=>⟨h2,_,rH hr h1 hv h3,_,_,rfl,hp,hE.get w h3⟩
end
end
section
theorem kE(xs:List UInt8):AE xs=xs.map Extern.Stop.cell:=by
 induction xs with
 |nil=>rfl
 |cons x xs ih=>show _::AE xs=_;rw [ih];rfl
theorem B_:∀(c:List Value) (a b d:List Value) (k:Nat),b.length=c.length→k=0→(c.toArray.zipIdx.foldl (fun cs (c,j)=>cs.setIfInBounds (a.length+j) c) (a++b++d).toArray)=(a++c++d).toArray:=by
 intro c a b d k h _
 have h2:∀(c a b d:List Value) (k m:Nat),b.length=c.length→a.length=m+k→((c.zipIdx k).foldl (fun(cs:Array Value) (p:Value×Nat)=>cs.setIfInBounds (m+p.2) p.1) (a++b++d).toArray)=(a++c++d).toArray:=by
  intro c
  induction c with
  |nil=>intro a b d k m h _;have:b=[]:=List.length_eq_zero_iff.1 (by simpa using h);simp [this]
  |cons x c ih=>
   intro a b d k m h hm
   cases b with
   |nil=>simp at h
   |cons y b=>
    simp only [List.zipIdx_cons,List.foldl_cons]
    have e:((a++y::b++d).toArray.setIfInBounds (m+k) x)=((a++[x])++b++d).toArray:=by
     rw [←hm];apply Array.toList_inj.1
     simp
    rw [e,ih (a++[x]) b d (k+1) m (by simpa using h) (by simp;omega)]
    simp
 have:=h2 c a b d 0 a.length h rfl
 rw [←this]
 simp
def Iu(pl:Array (Nat×Nat)):List Value→List (Nat×Value)→List Value→Prop
 |zs,[],cs=>cs=zs
 |zs,(i,v)::r,cs=>∃a b d c,pl[i]?=some (a.length,c.length)∧zs=a++b++d∧b.length=c.length∧v.cells=c.toArray∧Iu pl (a++c++d) r cs
theorem Pn{pl:Array (Nat×Nat)}{zs:List Value}:Iu pl zs [] zs:=rfl
theorem Hf{pl:Array (Nat×Nat)}{zs cs:List Value}{i:Nat}{v:Value}{r:List (Nat×Value)}(a b d c:List Value)(h1:pl[i]?=some (a.length,c.length))(h2:zs=a++b++d)(h3:b.length=c.length)
  (h4:v.cells=c.toArray)(h:Iu pl (a++c++d) r cs):Iu pl zs ((i,v)::r) cs:=⟨a,b,d,c,h1,h2,h3,h4,h⟩
theorem Iu.run{pl:Array (Nat×Nat)}:∀{vs:List (Nat×Value)} {zs cs:List Value},Iu pl zs vs cs→Instr.fill (pl[·]?) zs.toArray vs=some cs.toArray
 |[],zs,cs,h=>by obtain rfl:cs=zs:=h;rfl
 |(i,v)::r,zs,cs,⟨a,b,d,c,h1,h2,h3,h4,h⟩=>by
  subst h2;simp only [Instr.fill,h1,h4];rw [if_neg (by simp;omega)];rw [B_ c a b d 0 h3 rfl];exact Iu.run h
section
variable{P:Program}{B:World}{n:Nat}{E:A6}{D:CK}{H:HP}{d:Option Tmp}{T T' ty:TypeId}{pos:String}{af:Array Edge}{g:Option (Nat×Bool)}{x y z:Operand}
theorem Ph{pl:Array (Nat×Nat)}{zs cs:List Value}{ps:List (Nat×Operand)}{vs:List (Nat×Value)}[hT:EW P T pl][hz:BZ P T (.agg zs.toArray)]
  (hx:LL E ps=some vs)(hf:Iu pl zs vs cs):Aa P B n ⟨d,.build T ps.toArray,ty,pos,af,g⟩ E H (.agg cs.toArray):=w7 hx hf.run
theorem nv{len e:Nat}{xs ys:List UInt8}[hT:Ar P T (.array len e)][hE:Ar P e (.int .u8)][hz:Bw P e 1](hG:P.eqGuardType P.depth T=false)
  (hx:ev E x=some (.agg (AE xs).toArray))(hy:ev E y=some (.agg (AE ys).toArray))(h1:xs.length=len)(h2:ys.length=len):
  Aa P B n ⟨d,.binOp .neq T x y T',ty,pos,af,g⟩ E H (.bool (decide (xs≠ys))):=by
 intro a w he _;rw [kE]at hx hy;have h3:=run_equalIn_bytes (P:=P) w 9998 T e len hT.get hE.get hz.get xs ys h1 h2
 have h4:(eqGuard .neq T x y (.agg (xs.map Extern.Stop.cell).toArray) (.agg (ys.map Extern.Stop.cell).toArray)).run P w=.ok () w:=by
  simp [eqGuard,d_,run_program,hG]
 simp only [execOp,he.ev hx,he.ev hy,d_,h4,b_,binOp,Op.equal,show Op.maxDepth=9998+2 from rfl,h3,i_];congr 3;by_cases h:xs=ys<;>simp [h]
theorem vG{p:Option Addr}{b o k c len e:Nat}[hT:Ar P T (.array len e)](hx:ev E x=some (.slice p k c))(hs:Sl p b o k c)(h0:0<k)(hk:len≤k):
  Aa P B n ⟨d,.sliceToArrayPointer T x,ty,pos,af,g⟩ E H (.pointer (some ⟨b,o,none⟩)):=by
 intro a w he _;obtain rfl:=hs.1.resolve_left (by have:=hs.2;omega);simp only [execOp,he.ev hx,Instr.arrayAt,d_,Bx hT.get,b_];simp [show ¬k<len by omega]
theorem qG{α:Type}[AB α]{b o k:Nat}{xs:List α}[hT:E6 P T k](hx:ev E x=some (.pointer (some ⟨b,o,none⟩)))(hr:AW B H b o xs)(hl:xs.length*AB.sz α=k):
  Aa P B n ⟨d,.load T x,ty,pos,af,g⟩ E H (.agg (AE xs).toArray):=by
 intro a w he hw;have h1:=hr.run (P:=P) hw;rw [hl]at h1;simp [execOp,he.ev hx,Instr.loadAt,Instr.sureAddr,loadVar,hT.get,hT.size,h1]
end
end
def le(xs:List UInt8):Nat→UInt64
 |0=>0
 |i+1=>le xs i|||((xs.getD i 0).toUInt64<<< UInt64.ofNat (8*i))
def Ji(xs:List UInt8):Nat→Nat
 |0=>0
 |i+1=>Ji xs i+(xs.getD i 0).toNat*2^(8*i)
theorem pO(xs:List UInt8):∀i,Ji xs i<2^(8*i)
 |0=>by simp [Ji]
 |i+1=>by
  have h1:=pO xs i;have h2:=(xs.getD i 0).toNat_lt;simp only [Ji];rw [show 8*(i+1)=8*i+8 by omega,a_]
  have:(xs.getD i 0).toNat*2^(8*i)≤255*2^(8*i):=j' _ (by omega)
  omega
theorem tI(xs:List UInt8):∀i,i≤8→(le xs i).toNat=Ji xs i
 |0,_=>rfl
 |i+1,h=>by
  have ih:=tI xs i (by omega);have h1:=pO xs i;have h2:=(xs.getD i 0).toNat_lt
  have h3:(xs.getD i 0).toNat*2^(8*i)<18446744073709551616:=by
   have h4:(xs.getD i 0).toNat*2^(8*i)<2^8*2^(8*i):=Nat.mul_lt_mul_of_pos_right (by omega) (f_ _);rw [←a_]at h4;have h5:2^(8+8*i)≤2^64:=k_ (by omega) (by omega);omega
  simp only [le,Ji,UInt64.toNat_or,ih,UInt64.toNat_shiftLeft,Nq (8*i) (by omega),UInt8.toNat_toUInt64,n_];rw [show(2:Nat)^64=18446744073709551616 by decide,h_ h3,Nat.or_comm,m_,←g_ h1];omega
def Qo(xs:List UInt8)(m:Nat):Nat→UInt64
 |0=>0
 |j+1=>Qo xs m j*256+(xs.getD (m-1-j) 0).toUInt64
def Jh(xs:List UInt8)(m:Nat):Nat→Nat
 |0=>0
 |j+1=>Jh xs m j*256+(xs.getD (m-1-j) 0).toNat
theorem ZE(xs:List UInt8)(m:Nat):∀j,Jh xs m j<2^(8*j)
 |0=>by simp [Jh]
 |j+1=>by
  have h1:=ZE xs m j;have h2:=(xs.getD (m-1-j) 0).toNat_lt;simp only [Jh];rw [show 8*(j+1)=8*j+8 by omega,a_,show(2:Nat)^8=256 by decide];omega
theorem hO(xs:List UInt8)(m:Nat):∀j,j≤8→(Qo xs m j).toNat=Jh xs m j
 |0,_=>rfl
 |j+1,h=>by
  have ih:=hO xs m j (by omega);have h1:=ZE xs m (j+1);have h5:2^(8*(j+1))≤2^64:=k_ (by omega) (by omega);have h2:=(xs.getD (m-1-j) 0).toNat_lt;simp only [Jh]at h1⊢;simp only [Qo,UInt64.toNat_add,UInt64.toNat_mul,ih,UInt8.toNat_toUInt64];rw [show(256:UInt64).toNat=256 from rfl];rw [show(2:Nat)^64=18446744073709551616 by decide]at*;omega
theorem hZ(xs:List UInt8)(m:Nat):∀j,j≤m→Ji xs m=Jh xs m j*2^(8*(m-j))+Ji xs (m-j)
 |0,_=>by simp [Jh]
 |j+1,h=>by
  rw [hZ xs m j (by omega),show m-j=(m-(j+1))+1 by omega];simp only [Ji,Jh];rw [show m-1-j=m-(j+1) by omega,show 8*(m-(j+1)+1)=8*(m-(j+1))+8 by omega,a_,show(2:Nat)^8=256 by decide,r_,p_ (Jh xs m j) 256,m_ 256];omega
theorem cd(xs:List UInt8):Qo xs 8 8=le xs 8:=by
 apply UInt64.toNat_inj.1;rw [hO xs 8 8 (by omega),tI xs 8 (by omega),hZ xs 8 8 (by omega)];simp [Ji]
theorem XC{xs ys:List UInt8}:∀i,(∀j,j<i→xs.getD j 0=ys.getD j 0)→le xs i=le ys i
 |0,_=>rfl
 |i+1,h=>by simp only [le];rw [XC i (fun j hj=>h j (by omega)),h i (by omega)]
def iR(x:UInt64):UInt64:=x*2+(x>>> UInt64.ofNat 63)
def Oi:Nat→UInt64→UInt64
 |0,x=>x
 |n+1,x=>iR (Oi n x)
theorem rN(x:UInt64):∀k,k≤63→(Oi k x).toNat=x.toNat*2^k%2^64+x.toNat/2^(64-k)
 |0,_=>by
  have:=x.toNat_lt
  simp only [Oi,Nat.pow_zero,Nat.mul_one,q_];rw [h_ this,o_ this];rfl
 |k+1,h=>by
  have ih:=rN x k (by omega);have hx:=x.toNat_lt;simp only [Oi,iR,UInt64.toNat_add,UInt64.toNat_mul,UInt64.toNat_shiftRight,Nq 63 (by omega),ih,g'];rw [show(2:UInt64).toNat=2 from rfl];generalize x.toNat=N at hx⊢
  -- N=q*2^(64-k)+r,q<2^k,r<2^(64-k)
  obtain⟨m,hm⟩:∃m,64-k=m+1:=⟨63-k,by omega⟩
  have hkm:k=63-m:=by omega
  have hq:N/2^(m+1)<2^k:=by
   rw [j_ (f_ _),←a_,show k+(m+1)=64 by omega];exact hx
  have e1:N*2^k%2^64=N%2^(m+1)*2^k:=by
   rw [show(2:Nat)^64=2^(m+1)*2^k by rw [←a_];congr 1;omega,e_]
  have e2:N*2^(k+1)%2^64=N%2^m*2^(k+1):=by
   rw [show(2:Nat)^64=2^m*2^(k+1) by rw [←a_];congr 1;omega,e_]
  rw [hm,show 64-(k+1)=m by omega,e1,e2];have e3:N%2^(m+1)=N%2^m+2^m*(N/2^m%2):=Nat.mod_pow_succ
  have e4:N/2^(m+1)=N/2^m/2:=by rw [q',Nat.div_div_eq_div_mul]
  have e5:2^m*2^k=2^63:=by rw [←a_];congr 1;omega
  have hr:N%2^m<2^m:=Nat.mod_lt _ (f_ _);rw [e4]at hq;rw [e3,e4];clear e1 e2 e3 e4 ih;generalize N%2^m=A at*;generalize N/2^m=C at*
  have e6:(A+2^m*(C%2))*2^k=A*2^k+2^63*(C%2):=by
   rw [r_,Nat.mul_right_comm,e5]
  have e7:A*2^k+2^k≤2^63:=by
   rw [←e5,←Nat.succ_mul];exact j' _ hr
  rw [e6,show A*2^(k+1)=A*2^k*2 by rw [q',p_]];clear e6 e5;generalize A*2^k=U at*;generalize 2^k=K at*;rw [show(2:Nat)^63=9223372036854775808 by decide,show(2:Nat)^64=18446744073709551616 by decide]at*;rcases(show C%2=0∨C%2=1 by omega)with h0|h0
  ·rw [h0]
   have hV:U+9223372036854775808*0+C/2<9223372036854775808:=by omega
   rw [o_ hV,h_ (a:=(U+9223372036854775808*0+C/2)*2) (by omega)];omega
  ·rw [h0]
   have hV:U+C/2<9223372036854775808:=by omega
   have h1:(U+9223372036854775808*1+C/2)/9223372036854775808=1:=by omega
   have h2:(U+9223372036854775808*1+C/2)*2%18446744073709551616=(U+C/2)*2:=by omega
   rw [h1,h2];omega
theorem ke(x:UInt64)(k:Nat)(h0:0<k)(h:k≤63):Oi k x=KT x k:=by
 apply UInt64.toNat_inj.1;rw [rN x k h,KT,UInt64.toNat_or,UInt64.toNat_shiftLeft,UInt64.toNat_shiftRight,Nq k (by omega),Nq (64-k) (by omega),n_,g'];have hx:=x.toNat_lt
 have hq:x.toNat/2^(64-k)<2^k:=by
  rw [j_ (f_ _),←a_,show k+(64-k)=64 by omega];exact hx
 have e1:x.toNat*2^k%2^64=2^k*(x.toNat%2^(64-k)):=by
  rw [show(2:Nat)^64=2^(64-k)*2^k by rw [←a_];congr 1;omega,e_,m_]
 rw [e1,g_ hq]
end Go.Proofs.YtgfdlpcdjklcoaaGreatDoor
