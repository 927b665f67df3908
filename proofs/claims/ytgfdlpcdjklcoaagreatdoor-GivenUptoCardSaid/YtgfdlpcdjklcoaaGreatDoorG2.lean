/- A part of this proof: steps of the program, plain facts; no condition. -/
import Derived.Test.YtgfdlpcdjklcoaaGreatDoorG1
import Derived.Stop.BytesEq
namespace Go.Proofs.YtgfdlpcdjklcoaaGreatDoor
open Go Go.RowKit
open _root_.Go.Result renaming andThen_ok→a_
open _root_.Option renaming none_or→b_
open _root_.Go.Sem renaming run_bind→c_,run_pure→d_
set_option linter.unusedVariables false
section
theorem ed{w:World}{b b' i:Nat}{y:Obj}(h:b'≠b):(w.putObj b y).cell? ⟨b',i,none⟩=w.cell? ⟨b',i,none⟩:=by
 simp [World.cell?,World.putObj_heap_other h]
theorem S? {w:World}{b b' i:Nat}{y:Obj}(h:b'≠b):(w.putObj b y).frozen? ⟨b',i,none⟩=w.frozen? ⟨b',i,none⟩:=by
 simp [World.frozen?,World.putObj_heap_other h]
theorem Sat.Em{B:World}{b:Nat}{x:Obj}{R:HP}{w:World}(h:Sat B (HP.obj b x*R) w)(hx:∀c t f,x≠ .cells c t f:=by first|simp|simp [rec_]):w.heap[b]?=some x∧B.heap.size≤b∧∀c t f,x≠ .cells c t f:=by
 obtain⟨_,r,hr,hl⟩:=h.left;obtain rfl:r=_:=hr;exact⟨(UV hx).1 (hl.obj b x (by simp)),hl.KN b x (by simp),hx⟩
theorem Sat.F5z{B:World}{b:Nat}{x y:Obj}{R:HP}{w:World}(h:Sat B (HP.obj b x*R) w)(hy:∀c t f,y≠ .cells c t f)(hx0:∀c t f,x≠ .cells c t f:=by first|simp|simp [rec_]):Sat B (HP.obj b y*R) (w.putObj b y):=by
 obtain⟨hx,hb,hxc⟩:=h.Em hx0;have hlt:b<w.heap.size:=(Array.getElem?_eq_some_iff.1 hx).1;obtain⟨h1,r,⟨r1,r2,hd,rfl,e1,e2⟩,hl⟩:=h;obtain rfl:r1=_:=e1;have hno:r2.o b=none:=(hd.2 b).resolve_left (by simp)
 have hne:∀b' i v,r2.c b' i=some v→b'≠b:=fun b' i v e hbb=>by
  subst hbb
  have:=hl.cell b' i v (by simp [Aw.un,e])
  unfold World.cell? at this;rw [hx]at this
  cases x<;>first|cases this|exact absurd rfl (hxc _ _ _)
 have hneq:∀k,k≠b→(w.putObj b y).heap[k]?=w.heap[k]?:=fun k hk=>World.putObj_heap_other hk;refine⟨⟨h1.os,h1.tape,h1.output,by simpa using h1.size,fun k hk=>(hneq k (by omega)).trans (h1.block k hk)⟩,_,⟨_,r2,⟨fun _ _=>.inl rfl,fun b'=>?_⟩,rfl,rfl,e2⟩,?_⟩
 ·by_cases h:b'=b
  ·subst h;exact .inr hno
  ·exact .inl (by simp [h])
 ·refine⟨fun b' i v e=>?_,fun b' i v e=>?_,fun b' z e=>?_,fun b' z e=>?_,fun b' i v e=>?_,fun b' z e=>?_⟩
  ·simp only [Aw.un,b_]at e;rw [ed (hne b' i v e)];exact hl.cell b' i v (by simp [Aw.un,e])
  ·simp only [Aw.un,b_]at e;rw [S? (hne b' i v e)];exact hl.free b' i v (by simp [Aw.un,e])
  ·simp only [Aw.un]at e;by_cases h:b'=b
   ·subst h;simp at e;subst e;exact(UV hy).2 (World.putObj_heap_same hlt)
   ·simp [h]at e;exact(hl.obj b' z (by simp [Aw.un,h,e])).same (hneq b' h)
  ·trivial
  ·simp only [Aw.un,b_]at e;exact hl.JA b' i v (by simp [Aw.un,e])
  ·simp only [Aw.un]at e;by_cases h:b'=b
   ·subst h;exact hb
   ·simp [h]at e;exact hl.KN b' z (by simp [Aw.un,h,e])
theorem Sat.MZ{B:World}{H:HP}{w:World}(hw:Sat B H w)(y:Obj)(hy:∀c t f,y≠ .cells c t f):Sat B (HP.obj w.heap.size y*H) (w.alloc y):=by
 obtain⟨h1,r,hr,hl⟩:=hw
 have hlt:∀b i v,r.c b i=some v→b<w.heap.size:=fun b i v e=>by
  have:=hl.cell b i v e
  unfold World.cell? at this
  cases h:w.heap[b]? with
  |none=>rw [h]at this;cases this
  |some o=>exact(Array.getElem?_eq_some_iff.1 h).1
 have hltO:∀b z,r.o b=some z→b<w.heap.size:=fun b z e=>(hl.obj b z e).lt
 have hold:∀k,k<w.heap.size→(w.alloc y).heap[k]?=w.heap[k]?:=fun k hk=>by
  show(w.heap.push y)[k]?=_;rw [Array.getElem?_push_lt hk,←Array.getElem?_eq_getElem]
 refine⟨⟨h1.os,h1.tape,h1.output,by have:=h1.size;simp only [World.Ox];omega,fun k hk=>(hold k (by have:=h1.size;omega)).trans (h1.block k hk)⟩,_,⟨_,r,⟨fun _ _=>.inl rfl,fun b=>?_⟩,rfl,rfl,hr⟩,?_⟩
 ·cases h:r.o b with
  |none=>exact .inr rfl
  |some z=>exact .inl (by have:=hltO b z h;simp;omega)
 ·refine⟨fun b i v e=>?_,fun b i v e=>?_,fun b z e=>?_,fun b z e=>?_,fun b i v e=>?_,fun b z e=>?_⟩
  ·simp only [Aw.un,b_]at e
   have:=hl.cell b i v e
   unfold World.cell? at this⊢;rw [hold b (hlt b i v e)];exact this
  ·simp only [Aw.un,b_]at e
   have:=hl.free b i v e
   unfold World.frozen? at this⊢;rw [hold b (hlt b i v e)];exact this
  ·simp only [Aw.un]at e;by_cases h:b=w.heap.size
   ·subst h;simp at e;subst e;exact(UV hy).2 (World.alloc_heap_new _ _)
   ·simp [h]at e;exact(hl.obj b z e).same (hold b (hltO b z e))
  ·trivial
  ·simp only [Aw.un,b_]at e;exact hl.JA b i v e
  ·simp only [Aw.un]at e;by_cases h:b=w.heap.size
   ·subst h;exact h1.size
   ·simp [h]at e;exact hl.KN b z e
def Yn(P:Program)(B:World)(l:Nat)(args:List Value)(H:HP)(Post:Value→HP→Prop):Prop:=
 ∀w,Sat B H w→YieldAt (fr none) 0 P l args.toArray w fun e w'=>∃v H',e=.returned v∧Post v H'∧Sat B H' w'
def NW(P:Program)(B:World){α:Type}(gf:FuncId)(lb:List Value)(At:α→Value)(S Sp G:List α→Prop)(F F':HP):Prop:=
 ∀(l:Nat) (J Jx:List α→HP),(∀pre x R,Sp (pre++[x])→Yn P B l [At x] (J pre*R) (fun v H'=>∃g:Bool,v=.bool g∧(g=true→G (pre++[x]))∧H'=(bif g then J (pre++[x])else Jx (pre++[x]))*R))→
  Fn P B gf (.func (.yield l) #[] #[]::lb) (J []*F) (fun _ H'=>(∃xs,S xs∧H'=J xs*F')∨∃pre,Sp pre∧H'=Jx pre*F')
def WQ(B:World)(n:Nat)(E:A5)(H:HP):Exit→Act→World→Prop
 | .normal,a,w=>DA n E a∧a.defers=[]∧Sat B H w
 |_,_,_=>False
def QT(B:World)(Gp:Prop)(H:HP)(HX:Nat→HP):Exit→Act→World→Prop
 | .normal,_,w=>Gp∧Sat B H w
 | .exit id,_,w=>Sat B (HX id) w
 |_,_,_=>False
instance{B:World}{n:Nat}{E:A5}{H:HP}:PQ (WQ B n E H):=⟨fun _ _ _ _ _ h=>h,fun _ _ h=>h⟩
instance{B:World}{Gp:Prop}{H:HP}{HX:Nat→HP}:PQ (QT B Gp H HX):=⟨fun _ _ _ _ _ h=>h,fun _ _ h=>h⟩
abbrev H5(d:Nat):Deferred:={target:=.collected d,args:= #[]}
section
variable{P:Program}{B:World}{n:Nat}{E:A5}{D:B6}{H:HP}{d:Option Tmp}{T T' ty:TypeId}{pos:String}{af:Array Edge}{g:Option (Nat×Bool)}{x y z:Operand}{Q:Exit→Act→World→Prop}
theorem gu{E':A5}{r:Option Nat}{H':HP}(s:Sub E E')(e:H=H'):BI B (WQ B n E' H') .normal n E ⟨[],r⟩ H:=fun _ _ h1 h2 h3=>⟨h1.sub s,h2,e▸h3⟩
theorem yQ{Gp:Prop}{H':HP}{HX:Nat→HP}(g:Gp)(e:∀w,Sat B H w→Sat B H' w):BI B (QT B Gp H' HX) .normal n E D H:=fun _ w _ _ h3=>⟨g,e w h3⟩
theorem fd{Gp:Prop}{H':HP}{HX:Nat→HP}{id:Nat}(e:∀w,Sat B H w→Sat B (HX id) w):BI B (QT B Gp H' HX) (.exit id) n E D H:=fun a w _ _ h3=>e w h3
theorem MT{c:Code}{α:Type}{p:α→Prop}{A:α→HP}{R:HP}(h:∀z,p z→WP P B c Q n E D (A z*R)):WP P B c Q n E D ((HP.ex fun z=>HP.pr (p z)*A z)*R):=
 dh fun z=>by rw [HP.assoc];exact fj fun hp=>h z hp
theorem Rh{e:Exit}{α:Type}{p:α→Prop}{A:α→HP}{R:HP}(h:∀z,p z→BI B Q e n E D (A z*R)):BI B Q e n E D ((HP.ex fun z=>HP.pr (p z)*A z)*R):=by
 intro a w h1 h2 h3;rw [HP.HG]at h3;obtain⟨z,h4⟩:=Sat.ex.1 h3;rw [HP.assoc]at h4;obtain⟨hp,h5⟩:=Sat.pr.1 h4;exact h z hp a w h1 h2 h5
theorem IS{α:Type}{p:α→Prop}{A:α→HP}{R:HP}(z:α)(hp:p z)(e:H=A z*R)(w:World)(hw:Sat B H w):Sat B ((HP.ex fun z=>HP.pr (p z)*A z)*R) w:=by
 rw [HP.HG];exact Sat.ex.2 ⟨z,by rw [HP.assoc];exact Sat.pr.2 ⟨hp,e▸hw⟩⟩
theorem Ts{l:Nat}{t:Operand}{xs:List Operand}{vs:List Value}{ats:Array TypeId}{Post:Value→HP→Prop}
  (ht:ev E t=some (.func (.yield l) #[] #[]))(hx:DW E xs=some vs)(hs:Yn P B l vs H Post):Ow P B n ⟨d,.call ⟨.value t,xs.toArray,ats⟩,ty,pos,af,g⟩ E D H Post:=by
 intro a w h1 h2 h3 K Q hk;obtain⟨fn,tmps,assign,body,hy,hR⟩:=hs w h3;refine⟨fun _ _=>trivial,?_⟩;rw [Oper.semAt_eq _ _ _ (fun c=>by simp)]
 have hrun:(execOp a.eval ⟨d,.call ⟨.value t,xs.toArray,ats⟩,ty,pos,af,g⟩).run P w=.ok (.round l fn tmps assign body) w:=by
  simp only [execOp,resolve,List.map_toArray,H4 h1 hx,h1.ev ht,Deferred.ofValue,c_,d_,a_,invoke];simpa using hy
 rw [hrun];refine⟨fun h0=>by simp [fr,Fence.wide]at h0,RoundIn.mono (F:=fr none) (n:=0) hR ?_⟩;rintro e w' ⟨v,H',rfl,hp,hs'⟩;exact hk v H' w' hp hs'
theorem sN{α:Type}{gf:FuncId}{lb:List Value}{p:Nat}{g:Operand}{assign body:Code}[hok:Ah P gf]
  (At:α→Value)(S Sp G:List α→Prop)(J:List α→HP)(Jx:Nat→List α→HP)(F F':HP)(EA:α→A5)
  (hg:ev E g=some (.func (.func gf) #[] lb.toArray))(hp:Nat.blt p n=true)(hr:D.r=none)(hH:∀w,Sat B H w→Sat B (J []*F) w)(hit:NW P B gf lb At S Sp G F F')
  (hasg:∀pre x l R,WP P B assign (WQ B n (EA x) (J pre*R)) n ((p,At x)::E) ⟨[],some l⟩ (J pre*R))
  (hbody:∀pre x l R,Sp (pre++[x])→WP P B body (QT B (G (pre++[x])) (J (pre++[x])*R) (fun id=>Jx id (pre++[x])*R)) n (EA x) ⟨[],some l⟩ (J pre*R))
  (hdone:∀d xs,S xs→BI B Q .normal n E ⟨H5 d::D.ds,none⟩ (J xs*(HP.obj d (.deferred (some []))*F')))
  (hstop:∀d pre id,Sp pre→BI B Q (.exit id) n E ⟨H5 d::D.ds,none⟩ (Jx id pre*(HP.obj d (.deferred (some []))*F'))):
  WP P B (.rangeFunc g #[p] assign body) Q n E D H:=by
 intro a w h1 h2 h3;rw [hr];refine wpIn_rangeFunc fun fn _=>?_;have h3:=hH w h3
 let rec_:LoopState→Option Code→Obj:=fun st pe=>.loop {state:=st,pending:=pe,fn,tmps:=a.tmps,params:= #[p],assign,body,defers:=w.heap.size}
 let l:=w.heap.size+1
 have hl1:Sat B (HP.obj l (rec_ .ready none)*(HP.obj w.heap.size (.deferred (some []))*(J []*F))) ((w.alloc (.deferred (some []))).alloc (rec_ .ready none)):=by
  have:=(h3.MZ (.deferred (some [])) (by simp)).MZ (rec_ .ready none) (by simp [rec_])
  rwa [World.Ox]at this
 let J':List α→HP:=fun pre=>J pre*(HP.obj w.heap.size (.deferred (some []))*HP.obj l (rec_ .ready none))
 let Jx':List α→HP:=fun pre=>HP.ex fun id=>Jx id pre*(HP.obj w.heap.size (.deferred (some []))*HP.obj l (rec_ .done (some (.exit id))))
 have hY:∀pre x R,Sp (pre++[x])→Yn P B l [At x] (J' pre*R) (fun v H'=>∃g:Bool,v=.bool g∧(g=true→G (pre++[x]))∧H'=(bif g then J' (pre++[x])else Jx' (pre++[x]))*R):=by
  intro pre x R hsp W hW
  have e1:J' pre*R=HP.obj l (rec_ .ready none)*(J pre*(HP.obj w.heap.size (.deferred (some []))*R)):=by
   show J pre*(_*_)*R=_;ac_rfl
  rw [e1]at hW;obtain⟨hW1,_,_⟩:=hW.Em;refine⟨fn,_,assign,body,run_yield hW1 rfl,?_⟩;refine roundIn_of_wpIn trivial ?_
  have hE:DA n ((p,At x)::E) {tmps:=((#[p]:Array Nat).zip [At x].toArray).foldl (fun t (p,v)=>t.setIfInBounds p v) a.tmps,defers:=[]}:=by
   have h5:=h1.put (t:=p) (by simpa using hp) (At x)
   have e:((#[p]:Array Nat).zip [At x].toArray).foldl (fun t (p,v)=>t.setIfInBounds p v) a.tmps=a.tmps.setIfInBounds p (At x):=by
    have e0:(#[p]:Array Nat).zip [At x].toArray= #[(p,At x)]:=by simp [Array.zip]
    rw [e0];simp
   rw [e];exact h5
  have e2:HP.obj l (rec_ .ready none)*(J pre*(HP.obj w.heap.size (.deferred (some []))*R))=J pre*(HP.obj l (rec_ .ready none)*(HP.obj w.heap.size (.deferred (some []))*R)):=by ac_rfl
  refine wpIn_mono (hasg pre x l (HP.obj l (rec_ .ready none)*(HP.obj w.heap.size (.deferred (some []))*R)) _ W hE rfl (e2▸hW)) ?_;intro e a1 w1 hq
  cases e with
  |normal=>
   obtain⟨k1,k2,k3⟩:=hq;rw [←e2]at k3;obtain⟨hb1,_,_⟩:=k3.Em;refine⟨_,run_beginRound hb1 rfl,?_⟩;have k4:=k3.F5z (y:=rec_ .busy none) (by simp [rec_])
   have e3:HP.obj l (rec_ .busy none)*(J pre*(HP.obj w.heap.size (.deferred (some []))*R))=J pre*(HP.obj l (rec_ .busy none)*(HP.obj w.heap.size (.deferred (some []))*R)):=by ac_rfl
   rw [e3]at k4;refine wpIn_mono (hbody pre x l _ hsp a1 _ k1 k2 k4) ?_;intro e a2 w2 hq
   cases e with
   |normal=>
    obtain⟨hG,hq⟩:=hq;have hq':Sat B (J (pre++[x])*(HP.obj l (rec_ .busy none)*(HP.obj w.heap.size (.deferred (some []))*R))) w2:=hq;rw [HP.CV]at hq';obtain⟨hb2,_,_⟩:=hq'.Em;refine⟨_,_,run_endRound none hb2,.bool true,_,rfl,⟨true,rfl,fun _=>hG,rfl⟩,?_⟩
    have:=hq'.F5z (y:=rec_ .ready none) (by simp [rec_])
    show Sat B (J (pre++[x])*(_*_)*R) _
    have e4:J (pre++[x])*(HP.obj w.heap.size (.deferred (some []))*HP.obj l (rec_ .ready none))*R=HP.obj l (rec_ .ready none)*(J (pre++[x])*(HP.obj w.heap.size (.deferred (some []))*R)):=by ac_rfl
    rw [e4];exact this
   |exit id=>
    have hq':Sat B (Jx id (pre++[x])*(HP.obj l (rec_ .busy none)*(HP.obj w.heap.size (.deferred (some []))*R))) w2:=hq;rw [HP.CV]at hq';obtain⟨hb2,_,_⟩:=hq'.Em;refine⟨_,_,run_endRound (some (.exit id)) hb2,.bool false,_,rfl,⟨false,rfl,fun h=>(by cases h),rfl⟩,?_⟩
    have:=hq'.F5z (y:=rec_ .done (some (.exit id))) (by simp [rec_])
    show Sat B (HP.ex _*R) _;rw [HP.HG];refine Sat.ex.2 ⟨id,?_⟩
    have e4:Jx id (pre++[x])*(HP.obj w.heap.size (.deferred (some []))*HP.obj l (rec_ .done (some (.exit id))))*R=HP.obj l (rec_ .done (some (.exit id)))*(Jx id (pre++[x])*(HP.obj w.heap.size (.deferred (some []))*R)):=by ac_rfl
    rw [e4];exact this
   |goto t=>exact hq.elim
   |ret=>exact hq.elim
   |panic ch=>exact hq.elim
   |outgrown=>exact hq.elim
  |exit id=>exact hq.elim
  |goto t=>exact hq.elim
  |ret=>exact hq.elim
  |panic ch=>exact hq.elim
  |outgrown=>exact hq.elim
 have hcall:=hit l J' Jx' hY _ (by
  have e5:J' []*F=HP.obj l (rec_ .ready none)*(HP.obj w.heap.size (.deferred (some []))*(J []*F)):=by
   show J []*(_*_)*F=_
   ac_rfl
  rw [e5];exact hl1)
 let W1:World:=(w.alloc (.deferred (some []))).alloc (rec_ .ready none)
 refine⟨l,[H5 w.heap.size],W1,{target:=.fn (.func gf) lb.toArray,args:= #[.func (.yield l) #[] #[]]},W1,gf,(.func (.yield l) #[] #[]::lb).toArray,W1,run_enterLoop_outer _ _ _ _ _,?_,fun f' _=>(show(fr none).fn f' from trivial),?_,fun h0=>by simp [fr,Fence.wide]at h0,?_⟩
 ·simp only [resolve,h1.ev hg];simp [go_sem]
 ·have:=hok.get (.func (.yield l) #[] #[]::lb).toArray W1
  simpa [invoke]using this
 ·refine CallsIn.mono (Re (r:=none) (n:=0-1) hcall) ?_;rintro e w3 ⟨v,H',rfl,hp3,hs3⟩;rcases hp3 with⟨xs,hS,rfl⟩|⟨pre,hS,rfl⟩
  ·have e6:J' xs*F'=HP.obj l (rec_ .ready none)*(J xs*(HP.obj w.heap.size (.deferred (some []))*F')):=by
    show J xs*(_*_)*F'=_;ac_rfl
   rw [e6]at hs3;obtain⟨hb3,_,_⟩:=hs3.Em;refine⟨_,_,run_endLoop hb3 (by simp),?_⟩
   have:=(hs3.F5z (y:=rec_ .exhausted none) (by simp [rec_])).right
   exact hdone _ xs hS _ _ h1 (by simp [h2]) this
  ·have hs4:Sat B (HP.ex (fun id=>Jx id pre*(HP.obj w.heap.size (.deferred (some []))*HP.obj l (rec_ .done (some (.exit id)))))*F') w3:=hs3;rw [HP.HG]at hs4;obtain⟨id,hs5⟩:=Sat.ex.1 hs4
   have e6:Jx id pre*(HP.obj w.heap.size (.deferred (some []))*HP.obj l (rec_ .done (some (.exit id))))*F'=HP.obj l (rec_ .done (some (.exit id)))*(Jx id pre*(HP.obj w.heap.size (.deferred (some []))*F')):=by ac_rfl
   rw [e6]at hs5;obtain⟨hb3,_,_⟩:=hs5.Em;refine⟨_,_,run_endLoop hb3 (by simp),?_⟩
   have:=(hs5.F5z (y:=rec_ .exhausted (some (.exit id))) (by simp [rec_])).right
   exact wpIn_exit (hstop _ pre id hS _ _ h1 (by simp [h2]) this)
def PV(P:Program)(B:World)(fn:Func)(Post:Value→HP→Prop):Exit→Act→World→Prop
 | .normal,a,w| .ret,a,w=>LeavesInM (fr none) 0 P fn a.tmps (fun e w'=>∃v H',e=.returned v∧Post v H'∧Sat B H' w') a.defers .returning w
 |_,_,_=>False
instance{P:Program}{B:World}{fn:Func}{Post:Value→HP→Prop}:PQ (PV P B fn Post):=⟨fun _ _ _ _ _ h=>h,fun _ _ h=>h⟩
theorem RJ{c:Code}{f:FuncId}{fn:Func}{args:List Value}{Post:Value→HP→Prop}(hf:P.funcs[f]?=some fn)(hb:fn.body=some c)(hn:fn.ntmps=n)
  (ha:Nat.ble args.length n=true)(h:WP P B c (PV P B fn Post) n (I0 0 args) ⟨[],none⟩ H):Fn P B f args H Post:=by
 intro w hw;refine(callsIn_wide (n:=0)).1 (callsIn_of_wp_marks (F:=fr none) (n:=0) hf hb trivial (wpIn_mono (h _ w ⟨?_,?_⟩ rfl hw) ?_))
 ·have:args.length≤n:=by simpa using ha
  simp [hn];omega
 ·intro t v e;obtain⟨_,h2⟩:=MH args 0 t v e;simp only [Nat.sub_zero]at h2;have hlt:t<args.length:=(List.getElem?_eq_some_iff.1 h2).1;simp only [];rw [Array.getElem?_append_left (by simpa using hlt)];simpa using h2
 ·intro e a w hq
  cases e<;>first|exact hq|exact hq.elim
theorem UP{fn:Func}{tmps:Array Value}{R:Ending→World→Prop}:∀(ms:List Nat) (w:World) (H:HP),Sat B (ms.foldr (fun d H=>HP.obj d (.deferred (some []))*H) H) w→
  (∀w',Sat B H w'→∃v,(results fn tmps).run P w'=.ok v w'∧R (.returned v) w')→LeavesInM (fr none) 0 P fn tmps R (ms.map H5) .returning w
 |[],w,H,hs,hk=>hk w hs
 |m::ms,w,H,hs,hk=>by
  obtain⟨hb,_,_⟩:=Sat.Em hs;refine⟨by simp,.inl ⟨m,_,rfl,run_takeDeferred hb,?_⟩⟩;exact UP ms _ H (Sat.right (Sat.F5z hs (y:=.deferred none) (by simp))) hk
theorem QA{r:Option Nat}{fn:Func}{Post:Value→HP→Prop}{ts:List Nat}{vs:List Value}(ms:List Nat)(H':HP)(hr:fn.results=(ts.map ResultVar.tmp).toArray)(hv:DW E (ts.map Operand.tmp)=some vs)
  (hp:Post (FU vs) H')(e:H=ms.foldr (fun d H=>HP.obj d (.deferred (some []))*H) H'):BI B (PV P B fn Post) .ret n E ⟨ms.map H5,r⟩ H:=by
 intro a w h1 h2 h3;show LeavesInM _ _ _ _ _ _ _ _ _;rw [h2]
 exact UP ms w H' (e▸h3) fun w' hw'=>⟨_,Ju hr h1 hv w',_,_,rfl,hp,hw'⟩
end
end
section
section
variable{P:Program}{B:World}{n:Nat}{E:A5}{D:B6}{H R:HP}{ops:Array Oper}{Q:Exit→Act→World→Prop}{rest:List Oper}{fuel last:Nat}{ls:Array Bool}
 {op:Op} {T ty:TypeId} {pos:String} {af:Array Edge} {d:Option Tmp} {g:Option (Nat×Bool)} {x y:Operand}
theorem W6{t j tj:Nat}{b want:Bool}(hj:(ops[j]?).bind (·.dst)=some tj)(hb:lk E tj=some (.bool b))(ht:Nat.blt t n=true)(hw:b=want)
  (yes:WL P B ops Q (⟨some t,op,ty,pos,af,none⟩::rest) n E D H):WL P B ops Q (⟨some t,op,ty,pos,af,some (j,want)⟩::rest) n E D H:=
 lD hj hb ht (fun _=>yes) (fun h=>by subst hw;cases b<;>cases h)
theorem gY{t j tj:Nat}{b want:Bool}(hj:(ops[j]?).bind (·.dst)=some tj)(hb:lk E tj=some (.bool b))(ht:Nat.blt t n=true)(hw:b= !want)
  (no:WL P B ops Q rest n ((t,undef)::E) D H):WL P B ops Q (⟨some t,op,ty,pos,af,some (j,want)⟩::rest) n E D H:=
 lD hj hb ht (fun h=>by subst h;cases b<;>cases hw) (fun _=>no)
theorem EV{p:Prop}[Decidable p]{l:List Oper}(tj:Nat)(hb:lk E tj=some (.bool (decide p)))(h1:p→WL P B ops Q l n E D H)(h2:¬p→WL P B ops Q l n E D H):WL P B ops Q l n E D H:=
 if h:p then h1 h else h2 h
theorem DU{b:Bool}{l:List Oper}(tj:Nat)(hb:lk E tj=some (.bool b))(h1:b=true→WL P B ops Q l n E D H)(h2:b=false→WL P B ops Q l n E D H):WL P B ops Q l n E D H:=by
 cases b
 ·exact h2 rfl
 ·exact h1 rfl
theorem Gv{p:Prop}[Decidable p](tj:Nat)(hb:lk E tj=some (.bool (decide p)))(h1:p→WA P B ops Q R last fuel ls n E D H)(h2:¬p→WA P B ops Q R last fuel ls n E D H):WA P B ops Q R last fuel ls n E D H:=
 if h:p then h1 h else h2 h
theorem LO{b:Bool}(tj:Nat)(hb:lk E tj=some (.bool b))(h1:b=true→WA P B ops Q R last fuel ls n E D H)(h2:b=false→WA P B ops Q R last fuel ls n E D H):WA P B ops Q R last fuel ls n E D H:=by
 cases b
 ·exact h2 rfl
 ·exact h1 rfl
theorem Al(i:Nat){t j tj:Nat}{v:Value}{b want:Bool}(hi:ops[i]?=some ⟨some t,op,ty,pos,af,some (j,want)⟩)(hk:BO ops ls last i=true)[hq:PQ Q][hE:Bz B H R](ht:Nat.blt t n=true)
  (hj:(ops[j]?).bind (·.dst)=some tj)(hb:lk E tj=some (.bool b))(hw:b=want)
  (hv:Af P B n ⟨some t,op,ty,pos,af,none⟩ E R v)(next:WA P B ops Q R last fuel (ls.setIfInBounds i true) n ((t,v)::E) D H):
  WA P B ops Q R last (fuel+1) ls n E D H:=by
 subst hw;exact qR i hi hk ht hj hb hv next
theorem Ek(i:Nat){t j tj:Nat}{b want:Bool}(hi:ops[i]?=some ⟨some t,op,ty,pos,af,some (j,want)⟩)(hk:BO ops ls last i=true)[hq:PQ Q][hE:Bz B H R](ht:Nat.blt t n=true)
  (hj:(ops[j]?).bind (·.dst)=some tj)(hb:lk E tj=some (.bool b))(hw:b= !want)
  (next:WA P B ops Q R last fuel (ls.setIfInBounds i true) n ((t,undef)::E) D H):
  WA P B ops Q R last (fuel+1) ls n E D H:=uR i hi hk ht hj hb hw next
theorem QJ(i:Nat){t j tj:Nat}{b want:Bool}{Post:Value→HP→Prop}(hr:Region.ready .any ops ls=[i])(hi:ops[i]?=some ⟨some t,op,ty,pos,af,some (j,want)⟩)(ht:Nat.blt t n=true)
  (hj:(ops[j]?).bind (·.dst)=some tj)(hb:lk E tj=some (.bool b))(hw:b=want)
  (he:CU P B n ⟨some t,op,ty,pos,af,some (j,want)⟩ E D H Post)
  (next:∀v H',Post v H'→(last≤i∨Bz B H' R)∧WA P B ops Q R last fuel (ls.setIfInBounds i true) n ((t,v)::E) D H'):
  WA P B ops Q R last (fuel+1) ls n E D H:=by
 intro a w h1 h2 h3
 have hy:yielded ops a.tmps j=some b:=by
  have:=h1.2 _ _ hb
  simp [yielded,hj,this]
 refine⟨(fun h0=>by rw [hr]at h0;cases h0),fun k hk=>?_⟩;rw [hr]at hk;obtain rfl:=List.mem_singleton.1 hk;unfold wpOp;rw [hi];simp only [Region.wanted,hy,hw,beq_self_eq_true,if_true];refine .inl (he a w h1 h2 h3 _ _ fun v H' w' hp hs=>?_);obtain⟨n1,n2⟩:=next v H' hp;exact⟨n1.imp id (fun h=>h.get w' hs),n2 _ w' (h1.put (by simpa using ht) v) (by simp [Act.put,h2]) hs⟩
theorem Gd{c:Operand}{b:Bool}{u:Value}(hw:b=true)(hc:ev E c=some (.bool b))(hx:ev E x=some u):
  Af P B n ⟨d,.pick c x y,ty,pos,af,g⟩ E H u:=by subst hw;exact et hc hx
theorem G9{c:Operand}{b:Bool}{u:Value}(hw:b=false)(hc:ev E c=some (.bool b))(hy:ev E y=some u):
  Af P B n ⟨d,.pick c x y,ty,pos,af,g⟩ E H u:=by subst hw;exact X_ hc hy
theorem oH{p:Prop}[Decidable p](h:ev E x=some (.bool (decide p))):Af P B n ⟨d,.unOp .not T x,ty,pos,af,g⟩ E H (.bool (decide (¬p))):=by
 have:=VH (P:=P) (B:=B) (n:=n) (H:=H) (d:=d) (T:=T) (ty:=ty) (pos:=pos) (af:=af) (g:=g) h
 rwa [show(!decide p)=decide (¬p) by simp]at this
theorem vN{t:Operand}{u v:Code}{b:Bool}(hb:ev E t=some (.bool b))(hw:b=true)(h:WP P B u Q n E D H):WP P B (.cond t u v) Q n E D H:=by subst hw;exact P6 hb (fun _=>h) (fun h=>by cases h)
theorem fq{t:Operand}{u v:Code}{b:Bool}(hb:ev E t=some (.bool b))(hw:b=false)(h:WP P B v Q n E D H):WP P B (.cond t u v) Q n E D H:=by subst hw;exact P6 hb (fun h=>by cases h) (fun _=>h)
end
section
variable{P:Program}{B:World}{n:Nat}{E:A5}{H:HP}
def OZ(P:Program)(B:World)(n:Nat)(E:A5)(H:HP)(rv:ResultVar)(v:Value):Prop:=
 ∀a w,DA n E a→Sat B H w→(match rv with
  | .tmp t=>(pure (a.tmps.getD t undef):Sem Value)
  | .cell c t=>do loadVar t (←asAddr (a.tmps.getD c undef))).run P w=.ok v w
theorem NS{c t b k:Nat}{l:List Value}{R:HP}[hT:Ep P t k](h:ev E (.tmp c)=some (.pointer (some ⟨b,0,none⟩)))[hr:H6 H b 0 l R](hl:l.length=k):OZ P B n E H (.cell c t) (.agg l.toArray):=by
 intro a w h1 hw;have e:=h1.ev h;have e2:a.tmps.getD c undef=.pointer (some ⟨b,0,none⟩):=e;rw [hr.eq]at hw
 have h1:(loadCells ⟨b,0,none⟩ k).run P w=.ok l.toArray w:=by
  rw [←hl];refine run_loadCells_list w ⟨b,0,none⟩ l fun j v e=>?_
  have:=hw.cells j v e
  by_cases hj:j=0
  ·subst hj;simpa [Addr.add]using this
  ·simpa [Addr.add,hj]using this
 simp [e2,asAddr,loadVar,hT.get,hT.size,h1]
theorem Pp{c t b:Nat}{v:Value}{s:Prop}[hT:CP P t](h:ev E (.tmp c)=some (.pointer (some ⟨b,0,none⟩)))[hr:Rd B H b 0 v s](hs:s):OZ P B n E H (.cell c t) v:=by
 intro a w h1 hw;have e:=h1.ev h;have e2:a.tmps.getD c undef=.pointer (some ⟨b,0,none⟩):=e;have h3:=hr.get w hw hs;simp [e2,asAddr,loadVar,hT.get,h3]
def Jo(P:Program)(B:World)(n:Nat)(E:A5)(H:HP):List ResultVar→List Value→Prop
 |[],vs=>vs=[]
 |r::rs,vs=>∃v us,vs=v::us∧OZ P B n E H r v∧Jo P B n E H rs us
theorem KE:Jo P B n E H [] []:=rfl
theorem Io{r:ResultVar}{rs:List ResultVar}{v:Value}{vs:List Value}(h:OZ P B n E H r v)(hs:Jo P B n E H rs vs):Jo P B n E H (r::rs) (v::vs):=⟨v,vs,rfl,h,hs⟩
theorem jT{fn:Func}{a:Act}{rs:List ResultVar}{vs:List Value}(hr:fn.results=rs.toArray)(he:DA n E a)(hv:Jo P B n E H rs vs){w:World}(hw:Sat B H w):
  (results fn a.tmps).run P w=.ok (FU vs) w:=by
 have h2:∀f:ResultVar→Sem Value,(∀r v,r∈rs→OZ P B n E H r v→(f r).run P w=.ok v w)→(List.mapM f rs).run P w=.ok vs w:=by
  clear hr;intro f hf
  induction rs generalizing vs with
  |nil=>obtain rfl:vs=[]:=hv;rfl
  |cons r rs ih=>
   obtain⟨v,us,rfl,h3,h4⟩:=hv;simp only [List.mapM_cons,c_,hf r v (by simp) h3,a_,ih h4 (fun r v hm=>hf r v (by simp [hm])),d_]
 unfold results;rw [hr,List.mapM_toArray];simp only [c_,Sem.run_map]
 rw [h2 _ (fun r v _ h=>by
  have:=h a w he hw
  cases r<;>exact this)]
 simp only [a_,d_]
 match vs with
 |[]=>rfl
 |[v]=>rfl
 |u::v::r=>simp [FU]
theorem NA{r:Option Nat}{fn:Func}{Post:Value→HP→Prop}{rs:List ResultVar}{vs:List Value}(H':HP)[hE:Bz B H H'](hr:fn.results=rs.toArray)(hv:Jo P B n E H rs vs)
  (hp:Post (FU vs) H'):BI B (IB P B fn Post) .ret n E ⟨[],r⟩ H:=
 fun _ w h1 h2 h3=>⟨h2,_,jT hr h1 hv h3,_,_,rfl,hp,hE.get w h3⟩
end
end
section
theorem dJ(xs:List UInt8):AG xs=xs.map Extern.Stop.cell:=by
 induction xs with
 |nil=>rfl
 |cons x xs ih=>show _::AG xs=_;rw [ih];rfl
theorem vM:∀(c:List Value) (a b d:List Value) (k:Nat),b.length=c.length→k=0→(c.toArray.zipIdx.foldl (fun cs (c,j)=>cs.setIfInBounds (a.length+j) c) (a++b++d).toArray)=(a++c++d).toArray:=by
 intro c a b d k h _
 have h2:∀(c a b d:List Value) (k m:Nat),b.length=c.length→a.length=m+k→((c.zipIdx k).foldl (fun(cs:Array Value) (p:Value×Nat)=>cs.setIfInBounds (m+p.2) p.1) (a++b++d).toArray)=(a++c++d).toArray:=by
  intro c
  induction c with
  |nil=>intro a b d k m h _;have:b=[]:=List.length_eq_zero_iff.1 (by simpa using h);simp [this]
  |cons x c ih=>
   intro a b d k m h hm
   cases b with
   |nil=>simp at h
   |cons y b=>
    simp only [List.zipIdx_cons,List.foldl_cons]
    have e:((a++y::b++d).toArray.setIfInBounds (m+k) x)=((a++[x])++b++d).toArray:=by
     rw [←hm];apply Array.toList_inj.1
     simp
    rw [e,ih (a++[x]) b d (k+1) m (by simpa using h) (by simp;omega)]
    simp
 have:=h2 c a b d 0 a.length h rfl
 rw [←this]
 simp
def Im(pl:Array (Nat×Nat)):List Value→List (Nat×Value)→List Value→Prop
 |zs,[],cs=>cs=zs
 |zs,(i,v)::r,cs=>∃a b d c,pl[i]?=some (a.length,c.length)∧zs=a++b++d∧b.length=c.length∧v.cells=c.toArray∧Im pl (a++c++d) r cs
theorem RB{pl:Array (Nat×Nat)}{zs:List Value}:Im pl zs [] zs:=rfl
theorem JJ{pl:Array (Nat×Nat)}{zs cs:List Value}{i:Nat}{v:Value}{r:List (Nat×Value)}(a b d c:List Value)(h1:pl[i]?=some (a.length,c.length))(h2:zs=a++b++d)(h3:b.length=c.length)
  (h4:v.cells=c.toArray)(h:Im pl (a++c++d) r cs):Im pl zs ((i,v)::r) cs:=⟨a,b,d,c,h1,h2,h3,h4,h⟩
theorem Im.run{pl:Array (Nat×Nat)}:∀{vs:List (Nat×Value)} {zs cs:List Value},Im pl zs vs cs→Instr.fill (pl[·]?) zs.toArray vs=some cs.toArray
 |[],zs,cs,h=>by obtain rfl:cs=zs:=h;rfl
 |(i,v)::r,zs,cs,⟨a,b,d,c,h1,h2,h3,h4,h⟩=>by
  subst h2;simp only [Instr.fill,h1,h4];rw [if_neg (by simp;omega)];rw [vM c a b d 0 h3 rfl];exact Im.run h
section
variable{P:Program}{B:World}{n:Nat}{E:A5}{D:B6}{H:HP}{d:Option Tmp}{T T' ty:TypeId}{pos:String}{af:Array Edge}{g:Option (Nat×Bool)}{x y z:Operand}
theorem Q5{pl:Array (Nat×Nat)}{zs cs:List Value}{ps:List (Nat×Operand)}{vs:List (Nat×Value)}[hT:Ex P T pl][hz:Bb P T (.agg zs.toArray)]
  (hx:Jv E ps=some vs)(hf:Im pl zs vs cs):Af P B n ⟨d,.build T ps.toArray,ty,pos,af,g⟩ E H (.agg cs.toArray):=uX hx hf.run
theorem am{len e:Nat}{xs ys:List UInt8}[hT:Az P T (.array len e)][hE:Az P e (.int .u8)][hz:Bp P e 1](hG:P.eqGuardType P.depth T=false)
  (hx:ev E x=some (.agg (AG xs).toArray))(hy:ev E y=some (.agg (AG ys).toArray))(h1:xs.length=len)(h2:ys.length=len):
  Af P B n ⟨d,.binOp .neq T x y T',ty,pos,af,g⟩ E H (.bool (decide (xs≠ys))):=by
 intro a w he _;rw [dJ]at hx hy;have h3:=run_equalIn_bytes (P:=P) w 9998 T e len hT.get hE.get hz.get xs ys h1 h2
 have h4:(eqGuard .neq T x y (.agg (xs.map Extern.Stop.cell).toArray) (.agg (ys.map Extern.Stop.cell).toArray)).run P w=.ok () w:=by
  simp [eqGuard,c_,run_program,hG]
 simp only [execOp,he.ev hx,he.ev hy,c_,h4,a_,binOp,Op.equal,show Op.maxDepth=9998+2 from rfl,h3,d_];congr 3;by_cases h:xs=ys<;>simp [h]
theorem nJ{p:Option Addr}{b o k c len e:Nat}[hT:Az P T (.array len e)](hx:ev E x=some (.slice p k c))(hs:Sl p b o k c)(h0:0<k)(hk:len≤k):
  Af P B n ⟨d,.sliceToArrayPointer T x,ty,pos,af,g⟩ E H (.pointer (some ⟨b,o,none⟩)):=by
 intro a w he _;obtain rfl:=hs.1.resolve_left (by have:=hs.2;omega);simp only [execOp,he.ev hx,Instr.arrayAt,c_,Br hT.get,a_];simp [show ¬k<len by omega]
theorem iY{α:Type}[AC α]{b o k:Nat}{xs:List α}[hT:Ep P T k](hx:ev E x=some (.pointer (some ⟨b,o,none⟩)))(hr:Ai B H b o xs)(hl:xs.length*AC.sz α=k):
  Af P B n ⟨d,.load T x,ty,pos,af,g⟩ E H (.agg (AG xs).toArray):=by
 intro a w he hw;have h1:=hr.run (P:=P) hw;rw [hl]at h1;simp [execOp,he.ev hx,Instr.loadAt,Instr.sureAddr,loadVar,hT.get,hT.size,h1]
end
end
def le(xs:List UInt8):Nat→UInt64
 |0=>0
 |i+1=>le xs i|||((xs.getD i 0).toUInt64<<< UInt64.ofNat (8*i))
end Go.Proofs.YtgfdlpcdjklcoaaGreatDoor
