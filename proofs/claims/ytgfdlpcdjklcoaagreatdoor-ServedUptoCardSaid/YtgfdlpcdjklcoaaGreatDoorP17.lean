/- Steps of this proof; no condition. -/
import Derived.Test.YtgfdlpcdjklcoaaGreatDoorP16
import Derived.Conc.Own2
import Derived.Conc.EventLaws
import Derived.Conc.Holds
import Derived.Conc.LeavingOf
namespace Go.Proofs.YtgfdlpcdjklcoaaGreatDoor
open Go Go.RowKit Go.Proofs.Tryz HP AB AO
open _root_.List renaming length→aa
set_option linter.all false
variable{cs:List Frame}{kd:CallKind}{ats:Array TypeId}{W:World}{us:Array Value}{A:Value→HP→Prop}{vs:List Value}{ks:List UInt8}{first:Bool}
set_option maxRecDepth 20000
section
open Go Go.RowKit Go.Conc
section
variable{P:Program}{B:World}{K:Goroutine→World→Prop}{main:Bool}{fn:FuncId}{kd:CallKind}{a:Act}{k:List Go.Item}{cs:List Frame}{n:Nat}{ops:Array Oper}{is:List Nat}{i c:Nat}{v:World}{d t:Option Tmp}{T ty e:TypeId}{pos:String}{af:Array Edge}{x y:Operand}{z:Value}
def qz{dir}[hT:Aw P T (.chan dir e)][m:Bh P e z](ho:ops[i]?=some ⟨d,.recv T x true,ty,pos,af,none⟩)(hk:kd≠ .early)(F:a.eval x=.chan (some c)){j:Bool→Value→Goroutine→World→Prop}(h:∀q y,j q y (G (Ac fn kd none (a.put d (.tuple #[y,.bool q])) (.inRegion ops is::k)) cs) v):D6 P main n false c z j (G (Ac fn kd none a (.inRegion ops (i::is)::k)) cs) v:=by
 refine⟨G (Ac fn kd none a (.inRegion ops (i::is)::k)) cs,I,(λe=>by cases e),RV,λw N=>?_,λq y=>?_⟩
 ·have hr:(execOp a.eval ⟨d,.recv T x true,ty,pos,af,none⟩).run P w=.ok (.comm #[rcase c z] true (.recv true)) w:=by
   simp[execOp,A6 hT.get,m.get,F,rcase]
  have he:(execOp a.eval ⟨d,.recv T x true,ty,pos,af,none⟩).events P w #[]= #[]:=by
   simp[execOp,A6 hT.get,m.get,F]
  exact aL
 have:=Mc (fn:=fn) (kd:=kd) (r:=none) (a:=a) (k:=k) (rest:=is) ho (.tuple #[y,.bool q]);unfold Conc.served Conc.recvd;simp only[if_true];rw[show(G (Ac fn kd none a (.inRegion ops (i::is)::k)) cs).frame=Ac fn kd none a (.inRegion ops (i::is)::k)from I,this];exact h q y
def pC(ho:ops[i]?=some ⟨d,.send x y,ty,pos,af,none⟩)(hk:kd≠ .early)(F:a.eval x=.chan (some c)){j:Value→Goroutine→World→Prop}(h:j (a.eval y) (G (Ac fn kd none (a.put d undef) (.inRegion ops is::k)) cs) v):Gl P main n false c j (G (Ac fn kd none a (.inRegion ops (i::is)::k)) cs) v:=by
 refine⟨G (Ac fn kd none a (.inRegion ops (i::is)::k)) cs,a.eval y,.tuple #[],I,(λe=>by cases e),RV,λw N=>?_,?_⟩
 ·have hr:(execOp a.eval ⟨d,.send x y,ty,pos,af,none⟩).run P w=.ok (.comm #[scase c (a.eval y) (.tuple #[])] true .send) w:=by
   simp[execOp,F,scase]
  have he:(execOp a.eval ⟨d,.send x y,ty,pos,af,none⟩).events P w #[]= #[]:=by simp[execOp]
  exact aL
 have:=Mc (fn:=fn) (kd:=kd) (r:=none) (a:=a) (k:=k) (rest:=is) ho undef;unfold Conc.served;rw[show(G (Ac fn kd none a (.inRegion ops (i::is)::k)) cs).frame=Ac fn kd none a (.inRegion ops (i::is)::k)from I,this];exact h
def Af4{sb co}[hT:DC P T](Q:ops[i]?=some ⟨d,.load T x,ty,pos,af,none⟩)(Z:kd≠ .early)(F:a.eval x=.pointer (some ⟨sb,0,none⟩))(N:(P.funcs[fn]?).any (·.norace)=false){j:Goroutine→World→Prop}(h:j (G (Ac fn kd none (a.put d (.chan (some co))) (.inRegion ops is::k)) cs) v):KG P main n sb co j (G (Ac fn kd none a (.inRegion ops (i::is)::k)) cs) v:=by
 refine⟨I,λw q m=>?_⟩;have X:(execOp a.eval ⟨d,.load T x,ty,pos,af,none⟩).run P w=.ok (.value (.chan (some co))) w:=by
  simp[execOp,F,Instr.loadAt,Instr.sureAddr,loadVar,hT.get,m]
 have J:(execOp a.eval ⟨d,.load T x,ty,pos,af,none⟩).events P w #[]= #[⟨.cell ⟨sb,0,none⟩,false,false⟩]:=by
  simp[execOp,F,Instr.loadAt,Instr.sureAddr,loadVar,hT.get,m]
 have:=stepG_value (P:=P) (main:=main) (b:=Ac fn kd none a []) (a:=a) (k:=k) (cs:=cs) (w:=w) (rest:=is) Q Ni Z X;refine⟨_,_,this,λe C=>?_,h⟩;unfold listed at C;rw[J]at C;have:=IE e C;simpa using this.1
def mX{f}(Q:ops[i]?=some ⟨d,.go ⟨.value x,#[],ats⟩,ty,pos,af,none⟩)(Z:kd≠ .early)(F:a.eval x=.func (.func f) #[] us){j:Goroutine→Goroutine→World→Prop}(h:j (G (Ac fn kd none (a.put d undef) (.inRegion ops is::k)) cs) (born P ⟨.fn (.func f) us,#[]⟩) v):Yu P main n j (G (Ac fn kd none a (.inRegion ops (i::is)::k)) cs) v:=by
 refine⟨I,_,_,λw N=>?_,h⟩;have X:(execOp a.eval ⟨d,.go ⟨.value x,#[],ats⟩,ty,pos,af,none⟩).run P w=.ok (.spawn ⟨.fn (.func f) us,#[]⟩) w:=by
  simp[execOp,resolve,F,Deferred.ofValue]
 have J:(execOp a.eval ⟨d,.go ⟨.value x,#[],ats⟩,ty,pos,af,none⟩).events P w #[]= #[]:=by simp[execOp,resolve,F,Deferred.ofValue]
 have:=stepG_spawn (P:=P) (main:=main) (b:=Ac fn kd none a []) (a:=a) (k:=k) (cs:=cs) (w:=w) (rest:=is) Q Ni Z X I;unfold listed at this;rw[J,seen_none]at this;exact this
def Co.born{H f}{fn:Func}{c}{us:List Value}[hf:Aa P f](r:P.funcs[f]?=some fn)(hb:fn.body=some c)(hm:Nat.ble (aa us) fn.ntmps=true)(S:Sat B H v)(h:XT P B K ⟨false,f,.deferred,[{(default:Frame)with fn:=P.funcs.size,mode:=.panicking [goexitEntry]}]⟩ [.code c] fn.ntmps (IL 0 us) [] H):
  Co P false B.heap.size K (Conc.born P ⟨.fn (.func f) us.toArray,#[]⟩) v:=by
 refine .step ⟨I,λw C=>?_⟩;have q:(invoke (.fn (.func f) us.toArray) #[]).run P (pad v w)=.ok (.enter f us.toArray) (pad v w):=by simp[invoke,hf.get]
 have R:A9 B.heap.size P (invoke (.fn (.func f) us.toArray) #[]) (pad v w):=by
  simp only[A9,invoke,x4];exact hf.Ez _ _ _ _
 obtain⟨j,Y,m,M⟩:=LN C R q;have O:(invoke (.fn (.func f) us.toArray) #[]).runT P w #[]=(.ok (.enter f us.toArray) j,Y):=m;refine⟨_,j,_,seen P P.funcs.size Y,?_,M _ IE,h {tmps:=us.toArray++Array.replicate (fn.ntmps-us.toArray.size) undef,defers:=[]} (pad v w) ⟨?_,?_⟩ I (S.EU (.pad v w))⟩
 ·have J:=OX (args:=us.toArray) .deferred r hb;simp[Conc.born,stepG,unwind,callDeferred,O,GStep.after,J,G,-Sem.runT_eq];rfl
 ·have:aa us≤fn.ntmps:=by simpa using hm
  simp;omega
 intro u x e;obtain⟨_,F⟩:=NI us 0 u x e;simp only[H0]at F;have hlt:u<aa us:=(Lk.1 F).1;simp only[];rw[Aif Yd];simpa using F
abbrev H6(P:Program):Frame:={(default:Frame)with fn:=P.funcs.size,mode:=.panicking [goexitEntry]}
def jc:QuitsIn P 1 (G (H6 P) []):=.inr ⟨I,{frame:=H6 P,callers:=[],status:=.finished,dying:=none},λw=>by
 have h:(H6 P).defers=[]:=rfl;have M:(default:Frame).todo=[]:=rfl;have U:(H6 P).catches P=false:=by simp[Frame.catches,M]
 simp[G,stepG,unwind,h,U,goexitEntry],I⟩
variable{f:FuncId}{fo:Func}{b:List Deferred}
def Z5{fr:Frame}(r:fr.fn=f)(hm:fr.mode=.returning)(Z:fr.defers=[])(h:fr.kind=.deferred)(hf:P.funcs[f]?=some fo)(hr:fo.results= #[]):QuitsIn P 2 (G fr [H6 P]):=.inr ⟨I,G (H6 P) [],λw=>by
 have O:=λw=>results_none hr fr.tmps P w;have U:=λw=>events_results_none (P:=P) (w:=w) hr fr.tmps #[];simp[G,stepG,unwind,hm,Z,r,hf,doReturn,h,O,U,GStep.after,seen_none,goexitEntry],jc⟩
def wa(Q:ops[i]?=some ⟨d,.call ⟨.builtin .close,#[x],ats⟩,ty,pos,af,none⟩)(F:a.eval x=.chan (some c))(N:(P.funcs[f]?).any (·.norace)=false)(Z:a.defers=[])(hf:P.funcs[f]?=some fo)(hr:fo.results= #[]):
  KX P false n c (G (Ac f .deferred none a (.inRegion ops [i]:: [])) [H6 P]) v:=by
 refine⟨I,by simp[mayWake,G,Ac,Q],λw R h s r m C j=>?_⟩;have q:(execOp a.eval ⟨d,.call ⟨.builtin .close,#[x],ats⟩,ty,pos,af,none⟩).run P w=.ok (.value (.tuple #[])) (w.setChan c R h true s r m):=by
  simp[execOp,resolve,invoke,builtin,F,run_close_open _ _ j,World.setChan]
 have he:(execOp a.eval ⟨d,.call ⟨.builtin .close,#[x],ats⟩,ty,pos,af,none⟩).events P w #[]= #[⟨.obj c,false,true⟩,⟨.obj c,true,true⟩]:=by
  simp[execOp,resolve,invoke,builtin,F,events_close_open _ _ j]
 have O:=stepG_value (P:=P) (main:=false) (b:=Ac f .deferred none a []) (a:=a) (k:=[]) (cs:=[H6 P]) (w:=w) (rest:=[]) Q Ni (by simp[Ac]) q;unfold listed at O;rw[he,show(Ac f .deferred none a []).fn=f from I,seen_eq N uD]at O;refine⟨_,O,I,4,?_⟩;refine .inr ⟨I,G (Ac f .deferred none (a.put d (.tuple #[])) []) [H6 P],λw=>by simp[G,stepG,stepG.exec,Ac,Frame.at],?_⟩;refine .inr ⟨I,G {Ac f .deferred none (a.put d (.tuple #[])) []with mode:=.returning} [H6 P],λw=>by simp[G,stepG,stepG.exec,Ac],?_⟩;exact Z5 I I (by show(a.put d _).defers=[];cases d<;>exact Z) I hf hr
def K_{cc}(Z:a.defers=[⟨.builtin .close ats ty cc,#[.chan (some c)]⟩])(N:(P.funcs[f]?).any (·.norace)=false)(hf:P.funcs[f]?=some fo)(hr:fo.results= #[]):
  KX P false n c (G {Ac f .deferred none a k with mode:=.returning} [H6 P]) v:=by
 refine⟨I,by simp[mayWake,G,Ac],λw R h s r m F j=>?_⟩;have q:(invoke (.builtin .close ats ty cc) #[.chan (some c)]).run P w=.ok (.value (.tuple #[])) (w.setChan c R h true s r m):=by
  simp[invoke,builtin,run_close_open _ _ j,World.setChan]
 have he:(invoke (.builtin .close ats ty cc) #[.chan (some c)]).events P w #[]= #[⟨.obj c,false,true⟩,⟨.obj c,true,true⟩]:=by
  simp[invoke,builtin,events_close_open _ _ j]
 refine⟨G {Ac f .deferred none {a with defers:=[]} k with mode:=.returning} [H6 P],?_,I,2,Z5 I I I I hf hr⟩;have C:=seen_eq (P:=P) N (es:= #[⟨.obj c,false,true⟩,⟨.obj c,true,true⟩]) uD;simp[G,stepG,unwind,callDeferred,Ac,Z,q,he,C,GStep.after]
end
end
section
open Go Go.RowKit Go.Conc
section
variable{P:Program}{B:World}{K K':Goroutine→World→Prop}{c:M8}{k k':List Go.Item}{n:Nat}{E:A8}{ds:List Deferred}{H H':HP}{ops:Array Oper}{is:List Nat}{i t:Nat}{d:Option Tmp}{T ty e:TypeId}{pos:String}{af:Array Edge}{x y:Operand}{z zi zo:Value}{sb ci co ch:Nat}
 {Post:Value→World→Prop} {l:List Item} {dir:ChanDir}
def ZC [hT:DC P T](Q:ops[i]?=some ⟨some t,.load T x,ty,pos,af,none⟩)(Z:c.kd≠ .early)(F:ev E x=some (.pointer (some ⟨sb,0,none⟩)))(N:(P.funcs[c.fn]?).any (·.norace)=false)(ht:Nat.blt t n=true)(h:XT P B K' c (.inRegion ops is::k) n ((t,.chan (some co))::E) ds H):XT P B (KG P c.main B.heap.size sb co λg v=>Co P c.main B.heap.size K' g v) c (.inRegion ops (i::is)::k) n E ds H:=
 NS λa v O h2 M=>Af4 Q Z (O.ev F) N (h _ v (O.put Mf _) SY M)
def Uf{j:Bool→Value→Goroutine→World→Prop}[hT:Aw P T (.chan dir e)][m:Bh P e z](Q:ops[i]?=some ⟨some t,.recv T x true,ty,pos,af,none⟩)(Z:c.kd≠ .early)(F:ev E x=some (.chan (some ch)))(ht:Nat.blt t n=true)(h:∀q u a v,DZ n ((t,.tuple #[u,.bool q])::E) a→a.defers=ds→Sat B H v→j q u (G (Ac c.fn c.kd none a (.inRegion ops is::k)) c.cs) v):XT P B (D6 P c.main B.heap.size false ch z j) c (.inRegion ops (i::is)::k) n E ds H:=
 NS λa v O h2 M=>qz Q Z (O.ev F) λq u=>h q u _ v (O.put Mf _) SY M
def ce{main fn j}(hm:main=false)[hT:Aw P T (.chan dir e)][m:Bh P e zi](Q:ops[i]?=some ⟨some t,.recv T x true,ty,pos,af,none⟩)(Z:kd≠ .early)(F:ev E x=some (.chan (some ci)))(ht:Nat.blt t n=true)(h:XT P B (KG P false B.heap.size sb co λg v=>Co P false B.heap.size (KZ P B sb ci co zi false A l) g v) ⟨main,fn,kd,cs⟩ (.inRegion ops is::k) n ((t,.tuple #[j,.bool true])::E) ds H):XT P B (Eg P B sb ci co zi false ((j,A)::l)) ⟨main,fn,kd,cs⟩ (.inRegion ops (i::is)::k) n E ds H:=by
 subst hm;refine Uf (z:=zi) (ch:=ci) Q Z F ht λq u a v O U M C r=>?_;subst C r;exact h a v O U M
def om{main fn}(hm:main=false)[hT:Aw P T (.chan dir e)][m:Bh P e zi](Q:ops[i]?=some ⟨some t,.recv T x true,ty,pos,af,none⟩)(Z:kd≠ .early)(F:ev E x=some (.chan (some ci)))(ht:Nat.blt t n=true)(h:∀u,XT P B (KX P false B.heap.size co) ⟨main,fn,kd,cs⟩ (.inRegion ops is::k) n ((t,.tuple #[u,.bool false])::E) ds H):XT P B (Eg P B sb ci co zi false []) ⟨main,fn,kd,cs⟩ (.inRegion ops (i::is)::k) n E ds H:=by
 subst hm;refine Uf (z:=zi) (ch:=ci) Q Z F ht λq u a v O U M C=>?_;subst C;exact h u a v O U M
def jr{main fn u S}(hm:main=false)(Q:ops[i]?=some ⟨none,.send x y,ty,pos,af,none⟩)(Z:kd≠ .early)(F:ev E x=some (.chan (some co)))(j:ev E y=some u)(R:A u S)(X:∀r,S r→∀b,r.o b=none)(e:H=H'*S)(h:XT P B (Eg P B sb ci co zi false l) ⟨main,fn,kd,cs⟩ (.inRegion ops is::k) n E ds H'):XT P B (KZ P B sb ci co zi false A l) ⟨main,fn,kd,cs⟩ (.inRegion ops (i::is)::k) n E ds H:=by
 subst hm e;exact NS λa v O U M=>pC Q Z (O.ev F) ⟨H',S,by rw[O.ev j];exact R,X,M,λm C=>h a m O U C⟩
def zf{main fn u us}(hm:main=false)(Q:ops[i]?=some ⟨none,.send x y,ty,pos,af,none⟩)(Z:kd≠ .early)(F:ev E x=some (.chan (some ci)))(j:ev E y=some u)(h:XT P B (He P B ci false us) ⟨main,fn,kd,cs⟩ (.inRegion ops is::k) n E ds H):XT P B (He P B ci false (u::us)) ⟨main,fn,kd,cs⟩ (.inRegion ops (i::is)::k) n E ds H:=by
 subst hm;exact NS λa v O U M=>pC Q Z (O.ev F) ⟨O.ev j,h a v O U M⟩
def lj{main fn}{s:List (Value→HP→Prop)}(hm:main=true)[hT:Aw P T (.chan dir e)][m:Bh P e zo](Q:ops[i]?=some ⟨some t,.recv T x true,ty,pos,af,none⟩)(Z:kd≠ .early)(F:ev E x=some (.chan (some co)))(ht:Nat.blt t n=true)(h:∀u S,A u S→XT P B (Gt P B co zo Post false s) ⟨main,fn,kd,cs⟩ (.inRegion ops is::k) n ((t,.tuple #[u,.bool true])::E) ds (H*S)):XT P B (Gt P B co zo Post false (A::s)) ⟨main,fn,kd,cs⟩ (.inRegion ops (i::is)::k) n E ds H:=by
 subst hm;refine Uf (z:=zo) (ch:=co) Q Z F ht λq u a v O U M C=>?_;subst C;exact⟨H,M,λS j R r=>h u S R a j O U r⟩
def F? {main fn}(hm:main=true)[hT:Aw P T (.chan dir e)][m:Bh P e zo](ho:ops[i]?=some ⟨some t,.recv T x true,ty,pos,af,none⟩)(hk:kd≠ .early)(hx:ev E x=some (.chan (some co)))(ht:Nat.blt t n=true)(h:XT P B (G9 P B co zo Post .more) ⟨main,fn,kd,cs⟩ (.inRegion ops is::k) n ((t,.tuple #[zo,.bool false])::E) ds H):XT P B (Gt P B co zo Post false []) ⟨main,fn,kd,cs⟩ (.inRegion ops (i::is)::k) n E ds H:=by
 subst hm;exact mT
def ye{main fn}(hm:main=true)[hT:Aw P T (.chan dir e)][m:Bh P e zo](ho:ops[i]?=some ⟨some t,.recv T x true,ty,pos,af,none⟩)(hk:kd≠ .early)(hx:ev E x=some (.chan (some co)))(ht:Nat.blt t n=true)(h:XT P B (H7 P B.heap.size Post) ⟨main,fn,kd,cs⟩ (.inRegion ops is::k) n ((t,.tuple #[zo,.bool false])::E) ds H):XT P B (G9 P B co zo Post .more) ⟨main,fn,kd,cs⟩ (.inRegion ops (i::is)::k) n E ds H:=by
 subst hm;show XT P B (D6 P true B.heap.size false co zo λok x g v=>ok=false→x=zo→Co P true B.heap.size (H7 P B.heap.size Post) g v) _ _ _ _ _ _;exact mT
def nR{f}{fo:Func}{ts:List Nat}{main}(hm:main=true)(hf:P.funcs[f]?=some fo)(hr:fo.results=(ts.map ResultVar.tmp).toArray)(S:Dw E (ts.map Operand.tmp)=some vs)(hi:P.inits.idxOf? f=none)(J:∀w,Post (FH vs) w):XR P B (H7 P B.heap.size Post) ⟨main,f,.normal,[]⟩ n E [] H:=by
 subst hm;intro a v k O U M;refine .stop ⟨I,λw C=>⟨FH vs,#[],?_,λe h=>by simp at h,J w⟩⟩;have N:=yZ (fn:=fo) hr O S;have F:(results fo a.tmps).run P w=.ok (FH vs) w:=by rw[N];rfl
 have Y:(results fo a.tmps).events P w #[]= #[]:=by rw[N];rfl
 simp[G,stepG,unwind,Ac,U,hf,F,Y,doReturn,hi,GStep.after,seen_none]
def am{t0 u bb}(Q:ops[i]?=some ⟨none,.defer ⟨.builtin bb,#[.tmp t0],ats⟩,ty,pos,af,none⟩)(Z:c.kd≠ .early)(F:ev E (.tmp t0)=some u)(h:XT P B K c (.inRegion ops is::k) n E (⟨.builtin bb ats ty #[false],#[u]⟩::ds) H):XT P B K c (.inRegion ops (i::is)::k) n E ds H:=by
 intro a v O h2 M;have m:=O.ev F;have X:∀w,(execOp a.eval ⟨none,.defer ⟨.builtin bb,#[.tmp t0],ats⟩,ty,pos,af,none⟩).run P w=.ok (.defer ⟨.builtin bb ats ty #[false],#[u]⟩) w:=λw=>by
  simp[execOp,resolve,m]
 have J:∀w,(execOp a.eval ⟨none,.defer ⟨.builtin bb,#[.tmp t0],ats⟩,ty,pos,af,none⟩).events P w #[]= #[]:=λw=>by simp[execOp,resolve]
 have j:(c.kd==CallKind.early)=false:=by simpa using Z
 refine .move (g':=G (Ac c.fn c.kd none {a with defers:=⟨.builtin bb ats ty #[false],#[u]⟩::a.defers} (.inRegion ops is::k)) c.cs) I (λw=>?_) (h _ v O Pz M);have S:=stepG_oper (P:=P) (main:=c.main) (b:=Ac c.fn c.kd none a []) (a:=a) (k:=k) (cs:=c.cs) (w:=w) (rest:=is) Q Ni;refine S.trans ?_;simp[stepG.apply,X,J,Frame.at,Ac,j,GStep.after,seen_none,G,Frame.finish,Q]
def se{main f}{fo:Func}{cc}(hm:main=false)(N:(P.funcs[f]?).any (·.norace)=false)(hf:P.funcs[f]?=some fo)(hr:fo.results= #[]):XR P B (KX P false B.heap.size ch) ⟨main,f,.deferred,[H6 P]⟩ n E [⟨.builtin .close ats ty cc,#[.chan (some ch)]⟩] H:=by
 subst hm;exactλa v k O U M=>.stop (K_ U N hf hr)
def Ab6{main f}{fo:Func}(hm:main=false)(Q:ops[i]?=some ⟨d,.call ⟨.builtin .close,#[x],ats⟩,ty,pos,af,none⟩)(F:ev E x=some (.chan (some ch)))(N:(P.funcs[f]?).any (·.norace)=false)(hf:P.funcs[f]?=some fo)(hr:fo.results= #[]):
  XT P B (KX P false B.heap.size ch) ⟨main,f,.deferred,[H6 P]⟩ (.inRegion ops [i]:: []) n E [] H:=by
 subst hm;exact NS λa v O U M=>wa Q (O.ev F) N U hf hr
def sr{main fn f H1 H2}(hm:main=true)(Q:ops[i]?=some ⟨none,.go ⟨.value x,#[],ats⟩,ty,pos,af,none⟩)(Z:kd≠ .early)(F:ev E x=some (.func (.func f) #[] us))(e:H=H1*H2)(h1:XT P B (Gt P B co zo Post false (l.map (·.2))) ⟨main,fn,kd,cs⟩ (.inRegion ops is::k) n E ds H1)(h2:∀v,Sat B H2 v→Co P false B.heap.size (He P B ci false (l.map (·.1))) (Conc.born P ⟨.fn (.func f) us,#[]⟩) v):
  XT P B (UI P B ci co zo Post l) ⟨main,fn,kd,cs⟩ (.inRegion ops (i::is)::k) n E ds H:=by
 subst hm e;exact NS λa v U h R=>mX Q Z (U.ev F) ⟨H1,H2,R,λj C=>h1 a j U h C,h2⟩
def js{main fn f HM HS room s r s' tm tm'}(hm:main=true)(Q:ops[i]?=some ⟨none,.go ⟨.value x,#[],ats⟩,ty,pos,af,none⟩)(Z:kd≠ .early)(F:ev E x=some (.func (.func f) #[] us))(X:ci≠co)(e:H=HM*HS*(HP.obj ci (.chan room #[] false s r tm)*HP.obj co (.chan 0 #[] false s' s' tm')*AA sb 0 [.chan (some co)]))(h1:XT P B (Um P B sb ci co zo Post l true) ⟨main,fn,kd,cs⟩ (.inRegion ops is::k) n E ds HM)(h2:∀v,Sat B HS v→Co P false B.heap.size (FP P B sb ci co zi (.start l)) (Conc.born P ⟨.fn (.func f) us,#[]⟩) v):
  XT P B (Ot P B Post) ⟨main,fn,kd,cs⟩ (.inRegion ops (i::is)::k) n E ds H:=by
 subst hm e;exact NS λa v U h R=>mX Q Z (U.ev F) ⟨HM,HS,ci,co,sb,room,s,r,s',tm,tm',zi,zo,l,X,R,λj C=>h1 a j U h C,h2⟩
def xg{f:Func}{ts:List Nat}{g fn}{a:Act}{main Y q j}{o:Oper}(hf:P.funcs[g]?=some f)(hr:f.results=(ts.map ResultVar.tmp).toArray)(S:Dw E (ts.map Operand.tmp)=some vs)(r:DZ Y q a)(Z:a.defers=j)(Q:ops[i]?=some o)(m:o.dst=some t)(ht:Nat.blt t Y=true)(h:XT P B K ⟨main,fn,kd,cs⟩ (.inRegion ops is::k) Y ((t,FH vs)::q) j H):
  XR P B K ⟨main,g,.normal,Ac fn kd none a (.inRegion ops (i::is)::k)::cs⟩ n E [] H:=
 aJ hf hr S λv U=>zJ Q (by rw[m];exact h _ v (r.put Mf _) (by simp[Act.put,Z]) U)
def vd{C X j m R v}(h:Sat B (HP.obj C j*(HP.obj X m*R)) v):C≠X:=by
 rintro rfl;obtain⟨_,r,⟨x,y,Z,rfl,F,q,M,s,rfl,N,_⟩,_⟩:=h;obtain rfl:x=_:=F;obtain rfl:q=_:=N;obtain h|h:=Z.2 C
 ·simp at h
 simp[Ai.un]at h
def td(h:∀v,Sat B H v→XT P B K c k n E ds H):XT P B K c k n E ds H:=λa v O U M=>h v M a v O U M
end
end
section
open Go Go.RowKit Go.Conc
set_option maxRecDepth 20000
variable{B:World}
noncomputable section Defs
@[reducible] def Ld(q:B'):Value:=.agg (Bx q).toArray
def Rt(B:World)(a:B7)(x:Value)(S:HP):Prop:=∃(ev:Value) (M:HP) (ps:Am),Kp B ev M a.e a.at_∧ev.oneCell'=true∧ps.ok a.BA∧x=kB ev a ps∧S=M*ps.h a.BA
def Kg(B:World):AO→List B'→List Item
 |_,[]=>[]
 |c,q::l=>(Ld q,Rt B (c.Bj q).1)::Kg B (c.Bj q).2 l
structure TO(q:B'):Prop where
 data:q.data.size<90000000
 AQ:q.AQ<9223372036854775808
def J_(ps:Am)(xs:List ByteArray):Ip (ps.h xs):=by
 unfold Am.h;exact .AA _ _ _
def B! (C:B.cell? ⟨0,0,none⟩=some (D5 106))(cb t)(m:Ak)(q:B')(bs bc R)(hm:m.ok)(hi:Aq t m.s)(ht:t<900000)(Z:TO q){i u}(h:NY q.kind bs bc=some (i,u)):
  ∃f us,u=BI f us∧Aa prog f∧Fn prog B f (Ld q::us) (Ao cb m*(AA bs 0 [HY]*(AA bc 0 [ptr cb 0]*R))) (HB B cb m q (AA bs 0 [HY]*(AA bc 0 [ptr cb 0]*R))):=by
 unfold NY at h
 repeat' split at h
 all_goals first|cases h|skip
 all_goals rename_i N
 ·exact⟨_,_,I,AH,v9 C cb t m q bs bc R hm hi ht Z.1 Z.2 N⟩
 ·exact⟨_,_,I,AH,we C cb t m q bs bc R hm hi ht Z.1 Z.2 N⟩
 ·exact⟨_,_,I,AH,pj C cb t m q bs bc R hm hi ht Z.1 Z.2 N⟩
 ·exact⟨_,_,I,AH,yn C cb t m q bs bc R hm hi ht Z.1 Z.2 N⟩
 ·exact⟨_,_,I,AH,u3 C cb t m q bs bc R hm hi ht Z.1 Z.2 N⟩
 ·exact⟨_,_,I,AH,y6 C cb t m q bs bc R hm hi ht Z.1 Z.2 N⟩
 ·exact⟨_,_,I,AH,kh C cb t m q bs bc R hm hi ht Z.1 Z.2 N⟩
 ·exact⟨_,_,I,AH,Afx C cb t m q bs bc R hm hi ht Z.1 Z.2 N⟩
 exact⟨_,_,I,AH,zw C cb t m q bs bc R hm hi ht Z.1 Z.2 N⟩
def wo(m:AO)(q:B')(bs bc)(h:NY q.kind bs bc=none):m.Bj q=(⟨0,-1,0,0,⟨#[]⟩,[]⟩,m):=by
 unfold NY at h;unfold Bj
 repeat' split at h
 all_goals first|(cases h;done)|skip
 rename_i O U M F Y N j S X;simp only[O,U,M,F,Y,N,j,S,X,if_false]
def MY:Code:=match f78.body with
 |some (.seq _ (.seq _ (.block _ (.loop c))))=>c
 |_=>.skip
def Adp:Code:=match MY with
 | .seq _ (.seq _ (.block _ (.seq _ (.seq _ (.seq _ c)))))=>c
 |_=>.skip
abbrev N8:M8:=⟨false,78,.deferred,[H6 prog]⟩
abbrev Jp(cb bin bca bm bs bc ci:Nat)(m:Ak):HP:=AA bin 0 [.chan (some ci)]*(AA bca 0 [.map (some bm)]*(HP.obj bm (.map (Mm bs bc) 9)*(AA bs 0 [HY]*(AA bc 0 [ptr cb 0]*Ao cb m))))
abbrev ST(sb bin bca ci co:Nat):A8:=[(8,.chan (some ci)),(7,.chan (some co)),(0,ptr sb 0),(1,ptr bin 0),(2,ptr bca 0)]
abbrev Tq(co:Nat):List Deferred:=[⟨.builtin .close #[186] 0 #[false],#[.chan (some co)]⟩]
end Defs
section
variable{sb bin bca bm bs bc ci co cb:Nat}{zi:Value}{l:List Item}
def pT(m)(ev:Value)(M G)(ps:Am)(a:B7)(O){E}(s:lk E 0=some (ptr sb 0))(q:lk E 4=some (ptr O 0))(hT:Kp B ev M a.e a.at_)(X:Ip M)(r:ev.oneCell'=true)(j:ps.ok a.BA)(F:Sub ((24,.agg [ev,iN a.n,uN a.code,.string a.data,.slice ps.p (aa a.BA) ps.c].toArray)::(23,.chan (some co))::E) (ST sb bin bca ci co))(h:XT prog B (Eg prog B sb ci co zi false l) N8 (.code MY:: .inLoop MY:: .inBlock 0:: []) 25 (ST sb bin bca ci co) (Tq co) (Jp cb bin bca bm bs bc ci m)):
  XT prog B (KG prog false B.heap.size sb co λg v=>Co prog false B.heap.size (KZ prog B sb ci co zi false (Rt B a) l) g v) N8 (.code Adp:: .inBlock 1:: .inLoop MY:: .inBlock 0:: []) 25 E (Tq co)
   (AA O 0 [ev,iN a.n,uN a.code,.string a.data,.slice ps.p (aa a.BA) ps.c]*(M*(ps.h a.BA*(Jp cb bin bca bm bs bc ci m*G)))):=by
 refine Zq ?_;refine ZC I C2 s XQ I<|Hq [1] C2 I I<|D9 (Et (l:=[ev,iN a.n,uN a.code,.string a.data,.slice ps.p (aa a.BA) ps.c]) q I) I<|JK ?_;refine Xh (H':=Jp cb bin bca bm bs bc ci m*(M*ps.h a.BA)) (λv S=>?_) ?_
 ·exact Sat.left (C:=AA O 0 [ev,iN a.n,uN a.code,.string a.data,.slice ps.p (aa a.BA) ps.c]*G)<|Eq.mp Cp S
 refine jr I I C2 I I ⟨ev,M,ps,hT,r,j,I,I⟩ (X.mul (J_ _ _)) I<|OP ?_;exact Xy<|XC<|Lj F h
def jI(C:B.cell? ⟨0,0,none⟩=some (D5 106))(hz:zi=.agg [.int .i64 0,.int .i64 0,.int .i64 0,.int .u64 0,.string ⟨#[]⟩].toArray):∀(qs:List B') (t:Nat) (m:Ak),m.ok→Aq t m.s→t+aa qs<900000→(∀q∈qs,TO q)→
  XT prog B (Eg prog B sb ci co zi false (Kg B m.s qs)) N8 (.code MY:: .inLoop MY:: .inBlock 0:: []) 25 (ST sb bin bca ci co) (Tq co) (Jp cb bin bca bm bs bc ci m)
 |[],t,m,hm,M,ht,N=>by
  subst hz;refine H9<|PA I<|om I I C2 I I λu=>?_;refine Hq [1] C2 I I<|D9 Jy I<|JK ?_;exact T8<|H9<|Mz (b:=false) I<|Yr I<|nt<|se I XQ func78 I
 |q::qs,t,m,hm,M,ht,N=>by
  have Y:=N q C3;have hd:=M.Bj q;simp only[f']at ht;have J:∀Q:Ak,Q.ok→Q.s=(m.s.Bj q).2→XT prog B (Eg prog B sb ci co zi false (Kg B (m.s.Bj q).2 qs)) N8 (.code MY:: .inLoop MY:: .inBlock 0:: []) 25 (ST sb bin bca ci co) (Tq co) (Jp cb bin bca bm bs bc ci Q):=λQ h1 U=>by
   rw[←U]at hd⊢;exact jI C hz qs (t+1) Q h1 hd C0 λq hq'=>N q (by simp[hq'])
  subst hz;unfold Kg;refine H9<|PA I<|ce I I C2 I I<|Hq [1] C2 I I<|jY ?_;refine JV C2<|NX I<|JL (Sc (v:=Ld q) I I)<|Ae qR I ?_;rintro _ _ ⟨b3,rfl,rfl⟩;refine Bl (Ek (cs:=Bx q) I I Ca (AB.one q))<|GZ ?_;refine Ir<|Oj ?_;refine J1 ?_;refine Ae Yv I ?_;rintro _ _ ⟨O,rfl,rfl⟩;refine J1 ?_;refine Ir<|H9<|Oj ?_;refine UY ?_;refine JL Gr<|JL (yl (clock:=9) (R:=AA O 0 [.nilIface,.int .i64 (0:Nat),uN 0,.string ⟨#[]⟩,.slice none 0 0]*(AA b3 0 (Bx q)*(AA bin 0 [.chan (some ci)]*(AA bca 0 [.map (some bm)]*(AA bs 0 [HY]*(AA bc 0 [ptr cb 0]*Ao cb m)))))) I I (E? q.kind bs bc) Wx)<|J6 ?_;refine Ir<|Oj ?_;refine J3 ?_;refine Ir ?_;cases hc:NY q.kind bs bc with
  |none=>
   refine Mz (b:=false) I<|UQ ?_;have hno:=wo m.s q bs bc hc;have U:=J m hm (by rw[hno]);rw[hno]at U⊢;exact Q3 (H':=AA O 0 [.nilIface,iN 0,uN 0,.string ⟨#[]⟩,.slice Bw.p (aa ([]:List ByteArray)) Bw.c]*(Bs*(Bw.h ([]:List ByteArray)*(Jp cb bin bca bm bs bc ci m*AA b3 0 (Bx q))))) (by rw[HJ,BS,BS];show AA O 0 [.nilIface,.int .i64 (0:Nat),uN 0,.string ⟨#[]⟩,.slice none 0 0]*_=AA O 0 [.nilIface,.int .i64 (0:Nat),uN 0,.string ⟨#[]⟩,.slice none 0 0]*_;ac_rfl)<|pT m .nilIface Bs (AA b3 0 (Bx q)) Bw ⟨0,-1,0,0,⟨#[]⟩,[]⟩ O I I (.of C 0) .Bs I Fe Gx U
  |some iu=>
   obtain⟨i,u⟩:=iu;obtain⟨f,us,rfl,hok,r⟩:=B! C cb t m q bs bc (AA O 0 [.nilIface,.int .i64 (0:Nat),uN 0,.string ⟨#[]⟩,.slice none 0 0]*(AA b3 0 (Bx q)*(AA bin 0 [.chan (some ci)]*(AA bca 0 [.map (some bm)]*HP.obj bm (.map (Mm bs bc) 9))))) hm M C0 Y hc
   haveI:=hok
   refine Mz (b:=true) I<|JV C2<|NX I<|J1 ?_;refine JL (Et (l:=Bx q) I I)<|BH (H':=Ao cb m*(AA bs 0 [HY]*(AA bc 0 [ptr cb 0]*(AA O 0 [.nilIface,.int .i64 (0:Nat),uN 0,.string ⟨#[]⟩,.slice none 0 0]*(AA b3 0 (Bx q)*(AA bin 0 [.chan (some ci)]*(AA bca 0 [.map (some bm)]*HP.obj bm (.map (Mm bs bc) 9)))))))) Wx<|Ae (HD I I r) I ?_;rintro _ _ ⟨Q,ev,EH,F,hmo,hms,S,X,hev,j,rfl,rfl⟩;refine Bl (Ek (cs:=[ev,iN (m.s.Bj q).1.n,uN (m.s.Bj q).1.code,.string (m.s.Bj q).1.data,.slice F.p (m.s.Bj q).1.BA.length F.c]) I I Ca PW)<|GZ ?_;refine Ir ?_;exact Q3 (H':=AA O 0 [ev,iN (m.s.Bj q).1.n,uN (m.s.Bj q).1.code,.string (m.s.Bj q).1.data,.slice F.p (m.s.Bj q).1.BA.length F.c]*(EH*(F.h (m.s.Bj q).1.BA*(Jp cb bin bca bm bs bc ci Q*AA b3 0 (Bx q))))) Wx<|pT Q ev EH (AA b3 0 (Bx q)) F (m.s.Bj q).1 O I I S X hev j Gx (J Q hmo hms)
end
end
section
open Go Go.RowKit Go.Conc
set_option maxRecDepth 20000
variable{B:World}{sb bin bca bm bs bc ci co cb:Nat}{zi:Value}
def Af0(C:B.cell? ⟨0,0,none⟩=some (D5 106))(hz:zi=.agg [.int .i64 0,.int .i64 0,.int .i64 0,.int .u64 0,.string ⟨#[]⟩].toArray)(qs t)(m:Ak)(hm:m.ok)(hi:Aq t m.s)(ht:t+aa qs<900000)(N:∀q∈qs,TO q)(v)(S:Sat B (Jp cb bin bca bm bs bc ci m) v):
  Co prog false B.heap.size (FP prog B sb ci co zi (.start (Kg B m.s qs))) (Conc.born prog ⟨.fn (.func 78) [ptr sb 0,ptr bin 0,ptr bca 0].toArray,#[]⟩) v:=by
 refine Co.born func78 I I S ?_;show XT prog B (KG prog N8.main B.heap.size sb co λg v=>Co prog N8.main B.heap.size (Eg prog B sb ci co zi false (Kg B m.s qs)) g v) N8 _ _ _ _ _;refine MZ ?_;refine ZC I C2 I XQ I<|am I C2 I<|OP ?_;refine M4 ?_;refine JV C2<|UY ?_;refine Ir ?_;exact Pk<|ZV<|jI C hz qs t m hm hi ht N
noncomputable def tA:Code:=match f43.body with
 |some (.seq (.seq _ (.block _ (.loop c))) _)=>c
 |_=>.skip
noncomputable def Ae6:Code:=match f43.body with
 |some (.seq _ c)=>c
 |_=>.skip
noncomputable abbrev FCv:M8:=⟨false,43,.deferred,[H6 prog]⟩
variable{bl bi b o c:Nat}{p:Option Addr}{qs:List B'}
abbrev NR(bl bi ci:Nat)(p:Option Addr)(c:Nat)(qs:List B'):HP:=AA bl 0 [.slice p (aa qs) c]*AA bi 0 [.chan (some ci)]
abbrev rk(bl bi:Nat)(p:Option Addr)(c:Nat)(qs:List B')(i:Nat):A8:=[(6,iN i),(5,iN (aa qs)),(4,.slice p (aa qs) c),(0,ptr bl 0),(1,ptr bi 0)]
def oL(C:Sl p b o (aa qs) c)(hr:∀H,AZ B H b o qs)(h:aa qs<900000):∀(k i:Nat),i+k=aa qs→
  XT prog B (He prog B ci false ((qs.drop i).map Ld)) FCv (.code tA:: .inLoop tA:: .inBlock 0:: .code Ae6:: []) 14 (rk bl bi p c qs i) [] (NR bl bi ci p c qs)
 |0,i,m=>by
  rw[A' C0];show XT prog B (KX prog false B.heap.size ci) _ _ _ _ _ _;refine Oj ?_;refine J3 ?_;refine Ir<|H9<|Mz (b:=decide (i<aa qs)) I ?_;rw[show decide (i<aa qs)=false by simp;omega];refine Yr I<|PA I<|Hq [0] C2 I I<|D9 Gr I<|JK ?_;exact Ab6 I I I (by rw[func43];rfl) func43 I
 |k+1,i,m=>by
  have M:i<aa qs:=C0;have q:(qs.drop i).map Ld=Ld (qs.getD i AD)::(qs.drop (i+1)).map Ld:=by
   rw[zv M,hP,ek,c8 M];rfl
  rw[q];refine Oj ?_;refine NX I<|J2 ?_;refine Ir<|H9<|Mz (b:=decide (i<aa qs)) I ?_;rw[show decide (i<aa qs)=true by simpa using M];refine UQ<|H9<|Pk<|Oj ?_;refine NX I<|JL (CJ I I C M)<|JL (I2 I (hr _) M)<|Ae qR I ?_;rintro _ _ ⟨r,rfl,rfl⟩;refine Bl (Ek (cs:=Bx (qs.getD i AD)) I I Ca (AB.one (qs.getD i AD)))<|GZ ?_;refine Ir<|PA I<|Hq [0,1] C2 I I<|D9 Gr I<|D9 (Et (l:=Bx (qs.getD i AD)) I I) I<|JK ?_;refine zf I I C2 I I<|T8<|Xy<|JV C2<|J1 ?_;refine JL Qd<|J2 ?_;exact Ir<|XC<|Xh (H':=NR bl bi ci p c qs) (λv S=>S.right)<|Lj Gx (oL C hr h k (i+1) C0)
def w7(C:Sl p b o (aa qs) c)(hr:∀H,AZ B H b o qs)(h:aa qs<900000)(v)(S:Sat B (NR bl bi ci p c qs) v):
  Co prog false B.heap.size (He prog B ci false (qs.map Ld)) (Conc.born prog ⟨.fn (.func 43) [ptr bl 0,ptr bi 0].toArray,#[]⟩) v:=by
 refine Co.born func43 I I S<|M4 ?_;refine M4 ?_;refine JV C2<|UY ?_;refine JL (NB (v:=iN 0) I)<|J1 ?_;refine Ir ?_;exact Pk<|ZV<|Lj Gx (oL C hr h (aa qs) 0 C0)
end
section
open Go Go.RowKit Go.Conc
set_option maxRecDepth 20000
variable{B:World}
structure Hd where
 a:B7
 ps:Am
@[reducible] def S7(r:Hd):List Value:=[iN r.a.e,.int .i64 r.a.at_,iN r.a.n,uN r.a.code,.string r.a.data,.slice r.ps.p (aa r.a.BA) r.ps.c]
@[reducible] instance:AB Hd:=⟨6,S7,⟨⟨0,0,0,0,⟨#[]⟩,[]⟩,Bw⟩,λ_=>rfl,λ_ v h=>by
 simp at h;rcases h with rfl|rfl|rfl|rfl|rfl|rfl<;>rfl⟩
def Ge(r:Hd):HP:=r.ps.h r.a.BA
def Kf:AO→List B'→List B7
 |_,[]=>[]
 |c,q::l=>(c.Bj q).1::Kf (c.Bj q).2 l
def qM:∀(c:AO) (qs:List B'),(Kg B c qs).map (·.2)=(Kf c qs).map (Rt B)
 |_,[]=>rfl
 |c,q::l=>by simp only[Kg,Kf,hP,qM]
def fD:∀(c:AO) (qs:List B'),(Kg B c qs).map (·.1)=qs.map Ld
 |_,[]=>rfl
 |c,q::l=>by simp only[Kg,hP,fD]
def XS:∀(c:AO) (qs:List B'),aa (Kf c qs)=aa qs
 |_,[]=>rfl
 |c,q::l=>by simp only[Kf,f',XS]
noncomputable def aM:Code:=match f18.body with
 |some (.seq _ (.seq _ (.seq _ (.seq _ (.seq _ (.seq _ (.seq (.seq _ (.block _ (.loop c))) _)))))))=>c
 |_=>.skip
noncomputable def rQ:Code:=match f18.body with
 |some (.seq _ (.seq _ (.seq _ (.seq _ (.seq _ (.seq _ (.seq _ c)))))))=>c
 |_=>.skip
abbrev ZG:Value:=.agg [.nilIface,.int .i64 (0:Nat),uN 0,.string ⟨#[]⟩,.slice none 0 0].toArray
variable{co:Nat}{Post:Value→World→Prop}{cs:List Frame}
abbrev VK(co:Nat)(a:Am)(rs:List Hd):A8:=[(10,.slice a.p (aa rs) a.c),(24,.chan (some co)),(9,.chan (some co))]
def iI(R):∀(C:List B7) (rs:List Hd) (a:Am),a.ok rs→(∀r∈rs,r.ps.ok r.a.BA)→aa rs+aa C<900000→
  (∀(q:List Hd) (a':Am),a'.ok q→(∀r∈q,r.ps.ok r.a.BA)→q.map (·.a)=rs.map (·.a)++C→
   XT prog B (G9 prog B co ZG Post .more) ⟨true,18,.normal,cs⟩ (.code rQ:: []) 56 (VK co a' q) [] (a'.h q*(AP Ge q*R)))→
  XT prog B (Gt prog B co ZG Post false (C.map (Rt B))) ⟨true,18,.normal,cs⟩ (.code aM:: .inLoop aM:: .inBlock 0:: .code rQ:: []) 56 (VK co a rs) [] (a.h rs*(AP Ge rs*R))
 |[],rs,a,U,Y,hl,j=>by
  have j:=j rs a U Y C3;refine MZ ?_;refine F? I I C7 I I<|Hq [1] C7 I I<|D9 Jy I<|JK ?_;refine OP ?_;refine M4 ?_;exact Mz (b:=false) I<|Yr I<|Lj DW j
 |an::C,rs,a,U,Y,hl,j=>by
  simp only[f']at hl;rw[hP];refine H9<|PA I<|lj I I C7 I I ?_;rintro u S ⟨ev,M,F,hT,hev,hps,rfl,rfl⟩;refine Hq [1] C7 I I<|jY ?_;refine JV C7<|NX I<|J1 ?_;refine Ae Yv I ?_;rintro _ _ ⟨b11,rfl,rfl⟩;refine Bl (Ek (cs:=[ev,iN an.n,uN an.code,.string an.data,.slice F.p (aa an.BA) F.c]) I I Ca PW)<|GZ ?_;refine Ir<|H9<|JV C7<|J2 ?_;refine JL Gr<|BH (H':=M*(AA b11 0 [ev,iN an.n,uN an.code,.string an.data,.slice F.p (aa an.BA) F.c]*(a.h rs*(F.h an.BA*(AP Ge rs*R))))) C4<|mE I (hT.told _)<|Lx ?_;refine Ir<|JV C7<|J5 ?_;refine JL Gr<|UY ?_;refine JL Gr<|J1 ?_;refine JL Gr<|JL (FW (cs:=S7 ⟨an,F⟩) I I I (AB.one (⟨an,F⟩:Hd)))<|Ae (Gn (cs:=S7 ⟨an,F⟩) I Cc I I) I ?_;rintro _ _ ⟨m,rfl,rfl⟩;refine BH (H':=AC a.b a.o rs a.s*(AA m 0 (S7 ⟨an,F⟩)*(M*(AA b11 0 [ev,iN an.n,uN an.code,.string an.data,.slice F.p (aa an.BA) F.c]*(F.h an.BA*(AP Ge rs*R)))))) (by show _*(_*(_*(AC a.b a.o rs a.s*_)))=_;ac_rfl)<|BH (H':=AC a.b a.o rs a.s*(AC m 0 [(⟨an,F⟩:Hd)] []*(M*(AA b11 0 [ev,iN an.n,uN an.code,.string an.data,.slice F.p (aa an.BA) F.c]*(F.h an.BA*(AP Ge rs*R)))))) I<|Ae (CA (ys:=[(⟨an,F⟩:Hd)]) (bb:=m) (oo:=0) (cc:=1) I U.1 U.2 I Bz AH I Cd C0) I ?_;rintro _ _ ⟨p47,Q,o47,c47,s47,rfl,N,hc47,rfl⟩;refine J2 ?_;refine Ir ?_;refine Xy<|XC ?_;have J:aa (rs++[(⟨an,F⟩:Hd)])=aa rs+1:=C3;refine Xh (H':=Am.h ⟨p47,Q,o47,c47,s47⟩ (rs++[(⟨an,F⟩:Hd)])*(AP Ge (rs++[(⟨an,F⟩:Hd)])*R)) (λv hv=>?_) ?_
  ·refine Sat.right (A:=AC m 0 [(⟨an,F⟩:Hd)] []*(M*AA b11 0 [ev,iN an.n,uN an.code,.string an.data,.slice F.p (aa an.BA) F.c])) (Eq.mp (congrArg (λh=>Sat B h v) ?_) hv);rw[LY,HK,GX,Hr];show _=_*(AC Q o47 (rs++[(⟨an,F⟩:Hd)]) s47*(AP Ge rs*F.h an.BA*R));ac_rfl
  refine Lj DW (iI R C (rs++[⟨an,F⟩]) ⟨p47,Q,o47,c47,s47⟩ ⟨N,hc47⟩ (λr X=>?_) (by rw[J];omega) λq a' O h2 h3=>j q a' O h2 (by rw[h3];simp));obtain X|X:=j2.1 X
  ·exact Y r X
  rw[g5.1 X];exact hps
end
section
open Go Go.RowKit Go.Conc
set_option maxRecDepth 20000
variable{B:World}{Post:Value→World→Prop}
def i_(C:B.cell? ⟨0,0,none⟩=some (D5 106))(qs t cb room)(m:Ak)(hm:m.ok)(hi:Aq t m.s)(ht:t+aa qs<900000)(N:∀q∈qs,TO q)(p b o c)(hs:Sl p b o (aa qs) c)(hr:∀H,AZ B H b o qs)(j:room≤1000){fr:Frame}{F}(hb:f18.body=some F)(R)(J:∀(rs:List Hd) (a:Am),a.ok rs→(∀r∈rs,r.ps.ok r.a.BA)→rs.map (·.a)=Kf m.s qs→∀v,Sat B (a.h rs*(AP Ge rs*R)) v→
   Co prog true B.heap.size (H7 prog B.heap.size Post) (G (fr.finish (.tuple #[.slice a.p (aa rs) a.c,.bool true])) cs) v):
  XT prog B (Ot prog B Post) ⟨true,18,.normal,fr::cs⟩ [.code F] 56 (IL 0 [ptr cb 0,.slice p (aa qs) c,iN room]) [] (Ao cb m*R):=by
 obtain rfl:=Option.some.inj hb;refine Jj ?_;refine J1 ?_;refine Ae (EB (l:=[.slice p (aa qs) c]) I I) I ?_;rintro _ _ ⟨bl,rfl,rfl⟩;refine J3 ?_;refine M1 ?_;refine J2 ?_;refine Ae (nQ I j C2) I ?_;rintro _ _ ⟨ci,rfl,rfl⟩;refine Ae (GS (l:=[.chan none]) I) I ?_;rintro _ _ ⟨bi,rfl,rfl⟩;refine Bl Wv<|GZ ?_;refine Ir ?_;refine MZ ?_;refine Hq [0,1] C7 I I<|Nv ?_;refine D9 Gr I<|JK ?_;refine cW I C7 I func42 I I λa18 Y Q=>?_
 -- Serve
 refine Jj ?_;refine J1 ?_;refine Ae (EB (l:=[.chan (some ci)]) I I) I ?_;rintro _ _ ⟨bin,rfl,rfl⟩;refine J2 ?_;refine M1 ?_;refine J1 ?_;refine Ae (nQ (m:=0) I C0 C2) I ?_;rintro _ _ ⟨co,rfl,rfl⟩;refine Ae (GS (l:=[.chan none]) I) I ?_;rintro _ _ ⟨sb,rfl,rfl⟩;refine Bl Wv<|GZ ?_;refine M1 ?_;refine J2 ?_;refine mE I (cp cb _) ?_;rintro _ _ ⟨bc,bs,bm,rfl,rfl⟩;refine Ae (GS (l:=[.map none]) I) I ?_;rintro _ _ ⟨bca,rfl,rfl⟩;refine Bl Wv<|GZ ?_;refine Ir ?_;refine MZ ?_;refine Hq [0] C7 I I<|D9 RD I<|JK ?_;refine Q3 (H':=HP.obj ci (.chan room #[] false 0 0 false)*(HP.obj co (.chan 0 #[] false 0 0 false)*(AA sb 0 [.chan (some co)]*(NR bl bi ci p c qs*(Jp cb bin bca bm bs bc ci m*R))))) (by unfold NR Jp;ac_rfl)<|td λv0 O=>?_;have X:ci≠co:=vd O;refine js (zi:=.agg [.int .i64 0,.int .i64 0,.int .i64 0,.int .u64 0,.string ⟨#[]⟩].toArray) (zo:=ZG) (l:=Kg B m.s qs) (HM:=NR bl bi ci p c qs*R) (HS:=Jp cb bin bca bm bs bc ci m) (sb:=sb) I I C7 I X C4 ?_ (λv S=>Af0 C I qs t m hm hi ht N v S);refine OP ?_;refine MZ ?_;refine ZC I C7 I (by rw[func42];rfl) I<|Hq [1] C7 I I<|Sh ?_;refine Y7<|xg (ts:=[4]) func42 I I Y Q I I I ?_
 -- plain.Served again
 refine Hq [3] C7 I I<|Sh ?_;refine M4 ?_;refine Jj ?_;refine J2 ?_;refine JL (wv I I)<|J1 ?_;refine Ir ?_;refine Mz (b:=false) I<|UQ<|MZ ?_;refine Hq [0] C7 I I<|D9 RD I<|JK ?_;refine sr (H1:=R) (H2:=NR bl bi ci p c qs) I I C7 I C4 ?_ (λv S=>by rw[fD];exact w7 hs hr C0 v S);rw[qM];refine OP ?_;refine Jj ?_;refine NX I<|J2 ?_;refine Ir ?_;refine M4 ?_;refine Jj ?_;refine J3 ?_;refine Ir ?_;refine Pk<|ZV<|Q3 (H':=Bw.h ([]:List Hd)*(AP Ge []*R)) (by rw[HJ,GX,BS,BS])<|Lj (E':=VK co Bw []) DW (iI R (Kf m.s qs) [] Bw Fe (λr hr=>by cases hr) (by rw[XS];simp;omega) λrs a U hrs hmap=>?_);refine MZ ?_;refine Hq [0] C7 I I<|Nv ?_;refine JK ?_;refine ye I I C7 I I<|Hq [2,3,4,5,6,7] C7 I I<|Nv ?_;refine D9 Jy I<|D9 Jy I<|KM ?_;rintro _ _ ⟨M,rfl,rfl⟩;refine Bl (Ek (cs:=[.nilIface,.int .i64 (0:Nat),uN 0,.string ⟨#[]⟩,.slice none 0 0]) I I Ca (by intro v S;simp at S;rcases S with rfl|rfl|rfl|rfl|rfl<;>rfl))<|JR<|Sh ?_;refine Jj ?_;refine J3 ?_;refine JL (Pd (p:=False) I)<|J3 ?_;refine Ir ?_;refine Y7<|aJ (ts:=[6,7]) func18 I I λv S=>?_;exact J rs a U hrs (by simpa using hmap) v S.right
end
section
section
variable{P:Program}{B:World}{n:Nat}{E:A8}{D:CW}{H:HP}{d:Option Tmp}{T T' ty:TypeId}{pos:String}{af:Array Edge}{g:Option (Nat×Bool)}{x y z u:Operand}
def tu(m){T e}(p w)(hT:P.underlying T=some (.pointer e)):(Op.equalIn (m+1) T (.pointer p) (.pointer none)).run P w=.ok (decide (p=none)) w:=by
 simp only[Op.equalIn,bn,A6 hT,b0];cases p<;>rfl
def uy{k D}(m){T e}(p w)(hT:P.underlying T=some (.pointer e)):Al k D P (Op.equalIn (m+1) T (.pointer p) (.pointer none)) w:=by
 simp only[Op.equalIn,BL,A6 hT,BX,CT,true_and];cases p<;>trivial
def X6(e){p}[hT:Aw P T (.pointer e)](F:ev E x=some (.pointer p))(h:ev E y=some (.pointer none)):
  AY P B n ⟨d,.binOp .eql T x y T',ty,pos,af,g⟩ E H (.bool (decide (p=none))):=by
 intro a w J _;have O:=λw=>tu (P:=P) 9999 p w hT.get;have U:(eqGuard .eql T x y (.pointer p) (.pointer none)).run P w=.ok () w:=rfl;have M:A9 B.heap.size P (eqGuard .eql T x y (.pointer p) (.pointer none)) w:=trivial;have j:=uy (P:=P) (k:=B.heap.size) (D:=Ec w) 9999 p w hT.get;simp only[M,j,A9,BL,Dp,CT,DQ,EP,EX,Ej,B3,BX,true_and,and_true,and_self,execOp,J.ev F,J.ev h,bn,U,b0,binOp,Op.equal,show Op.maxDepth=9999+1 from I,O,bp]
end
variable{B:World}
def TV(AV AI:Int)(ks:List UInt8)(first:Bool)(N:Option Addr)(A:HP):Prop:=
 (¬Gb AV AI∧N=none∧A=Bs)∨(Gb AV AI∧∃cb m,m.ok∧m.s=AO.new AV.toNat AI.toNat ks first∧N=some ⟨cb,0,none⟩∧A=Ao cb m)
def XX(AV AI:Int)(ks:List UInt8)(first:Bool)(N:Option Addr)(A:HP):Prop:=
 (¬Gb AV AI∧N=none∧A=Bs)∨(Gb AV AI∧∃sb m,m.ok∧m.s=AL.new AV.toNat AI.toNat ks first∧N=some ⟨sb,0,none⟩∧A=Ad sb m)
def O0(AV AI:Int):Nat:=if Gb AV AI then 0 else 1
def S_(C:B.cell? ⟨0,0,none⟩=some (D5 106))(AV AI:Int)(ks:List UInt8)(Z:aa ks=16)(first H):
  Fn prog B 16 [.agg [.int .i64 AV,.int .i64 AI].toArray,.agg (AE ks).toArray,.bool first] H (λv H'=>∃(N:Option Addr) (A:HP),v=.tuple #[.pointer N,iN (O0 AV AI)]∧TV AV AI ks first N A∧H'=A*H):=by
 exact(bx C AV AI ks Z first H).mono pB
def yd(AV AI:Int)(ks:List UInt8)(Z:aa ks=16)(first H):
  Fn prog B 17 [.agg [.int .i64 AV,.int .i64 AI].toArray,.agg (AE ks).toArray,.bool first] H (λv H'=>∃(N:Option Addr) (A:HP),v=.tuple #[.pointer N,iN (O0 AV AI)]∧XX AV AI ks first N A∧H'=A*H):=by
 exact(Adq AV AI ks Z first H).mono pB
def jw{AV AI:Int}{p q A C}(h:TV AV AI ks first p A)(g:XX AV AI ks first q C):(!(decide (p=none)==decide (q=none)))=false:=by
 rcases h with⟨O,rfl,_⟩|⟨O,cb,m,_,_,rfl,_⟩<;>rcases g with⟨Q,rfl,_⟩|⟨Q,sb,s,_,_,rfl,_⟩
 ·rfl
 ·exact absurd Q O
 ·exact absurd O Q
 rfl
def ep(c:Int){n}(h:0<n):Y0 c n<n:=Alu _ h
end
section
open Go Go.RowKit Go.Conc
set_option maxRecDepth 20000
variable{B:World}
def Ey(qs:List B'):Nat:=(qs.map λq=>q.data.size).sum
def wp(qs)(q:B'):Ey (qs++[q])=Ey qs+q.data.size:=by simp[Ey]
def bu(qs:List B')(i):Ey (qs.take i)≤Ey qs:=by
 have:Ey qs=Ey (qs.take i)+Ey (qs.drop i):=by
  unfold Ey;rw[←List.sum_append,←n8,px]
 omega
def oM:∀{qs:List B'} {q:B'},q∈qs→q.data.size≤Ey qs
 |q0::l,q,h=>by
  have e:Ey (q0::l)=q0.data.size+Ey l:=by simp[Ey]
  obtain rfl|h:=j1.1 h
  ·omega
  have:=oM h;omega
noncomputable def Wd:Code:=match f8.body with
 |some (.seq _ (.seq _ (.seq _ (.seq _ (.seq _ (.seq _ (.seq _ (.seq _ c))))))))=>c
 |_=>.skip
noncomputable def Ad8:Code:=match f8.body with
 |some (.seq _ (.seq _ (.seq _ c)))=>c
 |_=>.skip
noncomputable abbrev Ku:M8:=⟨true,8,.normal,[]⟩
def io{AV AI:Int}{N X A C}(h:TV AV AI ks first N A)(g:XX AV AI ks first X C)(J:¬N=none):
  Gb AV AI∧∃cb m sb O,m.ok∧m.s=AO.new AV.toNat AI.toNat ks first∧N=some ⟨cb,0,none⟩∧A=Ao cb m∧Ah.ok O∧O.s=AL.new AV.toNat AI.toNat ks first∧X=some ⟨sb,0,none⟩∧C=Ad sb O:=by
 obtain⟨_,rfl,_⟩|⟨j,cb,m,U,M,F,Y⟩:=h
 ·exact absurd I J
 obtain⟨Q,_,_⟩|⟨_,sb,O,S,q,Z,r⟩:=g
 ·exact absurd j Q
 exact⟨j,cb,m,sb,O,U,M,F,Y,S,q,Z,r⟩
def Acx{AV AI:Int}{N A}(h:TV AV AI ks first N A)(J:N=none):¬Gb AV AI:=by
 obtain⟨h,_,_⟩|⟨_,cb,m,_,_,rfl,_⟩:=h
 ·exact h
 cases J
def aB{K:Goroutine→World→Prop}(C:B.cell? ⟨0,0,none⟩=some (D5 106))(qs p b o c)(hs:Sl p b o (aa qs) c)(hr:∀H,AZ B H b o qs)(hl:aa qs≤1048576)(hz:∀q∈qs,q.data.size≤1048576)(AV AI:Int)(ks:List UInt8)(hk:aa ks=16)(first)(room:Int)(H){bod}(hb:f8.body=some bod)(hbig:∀E' H',16384<aa qs+Ey qs→lk E' 10=some (.bool true)→XR prog B K Ku 132 E' [] H')(U:∀E' H',¬Gb AV AI→lk E' 10=some (.bool true)→XR prog B K Ku 132 E' [] H')(hgo:aa qs+Ey qs≤16384→Gb AV AI→∀cb m sb O F r,m.ok→m.s=AO.new AV.toNat AI.toNat ks first→Ah.ok O→O.s=AL.new AV.toNat AI.toNat ks first→
   XT prog B K Ku [.code Wd] 132 [(13,ptr cb 0),(15,ptr sb 0),(3,.slice p (aa qs) c),(4,.int .i64 room)] [] (Ao cb m*(Ad sb O*(AA r 0 (AE ks)*(AA F 0 [.int .i64 AV,.int .i64 AI]*H))))):
  XT prog B K Ku [.code bod] 132 (IL 0 [.agg [.int .i64 AV,.int .i64 AI].toArray,.agg (AE ks).toArray,.bool first,.slice p (aa qs) c,.int .i64 room]) [] H:=by
 obtain rfl:=Option.some.inj hb;refine Jj ?_;refine J1 ?_;refine Ae S6 I ?_;rintro _ _ ⟨F,rfl,rfl⟩;refine LG ?_;rintro _ _ ⟨r,rfl,rfl⟩;refine J2 ?_;refine M1 ?_;refine J5 ?_;refine Ir ?_;have hafter:∀i,i≤aa qs→((aa qs+Ey (qs.take i))≤16384→i=aa qs)→XT prog B K Ku [.code Ad8] 132 [(12,iN i),(11,iN (aa qs+Ey (qs.take i))),(0,.agg [.int .i64 AV,.int .i64 AI].toArray),(1,.agg (AE ks).toArray),(2,.bool first),(3,.slice p (aa qs) c),(4,.int .i64 room),(5,ptr F 0),(6,ptr r 0)] [] (AA r 0 (AE ks)*(AA F 0 [.int .i64 AV,.int .i64 AI]*H)):=by
  intro i hi htot;refine H9<|H9<|JV C7<|J2 ?_;refine JL (Ih (i:=(aa qs+Ey (qs.take i))) (j:=16384) I I)<|J1 ?_;refine Ir<|JV C7<|mC (λJ=>?_) (λJ=>?_)
  ·refine J6 ?_;exact nN (hbig _ _ (by have h7:16384<(aa qs+Ey (qs.take i)):=J;have:=bu qs i;omega) I)
  refine J1 ?_;refine Ir ?_;have J:¬16384<(aa qs+Ey (qs.take i)):=J;obtain rfl:=htot C0;rw[pq]at J;refine Jj ?_;refine J1 ?_;refine JL YD<|JL OM<|J1 ?_;refine mE I (S_ C AV AI ks hk first _) ?_;rintro _ _ ⟨N,A1,rfl,hC,rfl⟩;refine J6 ?_;refine M1 ?_;refine J1 ?_;refine JL YD<|JL OM<|J1 ?_;refine mE I (yd AV AI ks hk first _) ?_;rintro _ _ ⟨qo,A2,rfl,hD,rfl⟩;refine J6 ?_;refine M1 ?_;refine J4 ?_;refine JL (H4 (i:=O0 AV AI) (j:=O0 AV AI) I I)<|J1 ?_;refine P4 ?_;refine J1 ?_;refine P4 ?_;refine JL (X6 184 I I)<|P4 ?_;refine J1 ?_;refine P4 ?_;refine JL (X6 116 I I)<|P4 ?_;refine JL (XL I I)<|JL (N5 iT I I)<|J2 ?_;refine PM I (jw hC hD)<|J1 ?_;refine M1 ?_;refine J3 ?_;refine JL (X6 184 I I)<|J2 ?_;refine mC (λh70=>?_) (λh70=>?_)
  ·refine J6 ?_;exact nN (U _ _ (Acx hC h70) I)
  refine J1 ?_;refine Ir ?_;obtain⟨R,cb,m,sb,O,hm,M,rfl,rfl,X,S,rfl,rfl⟩:=io hC hD h70;exact Lj (E':=[(13,ptr cb 0),(15,ptr sb 0),(3,.slice p (aa qs) c),(4,.int .i64 room)]) DJ<|Q3 (H':=Ao cb m*(Ad sb O*(AA r 0 (AE ks)*(AA F 0 [.int .i64 AV,.int .i64 AI]*H)))) C4<|hgo C0 R cb m sb O F r hm M X S
 refine Jj ?_;refine J2 ?_;refine JL gY<|J3 ?_;refine Bf (α:=Nat) (λi=>[(12,iN i),(11,iN (aa qs+Ey (qs.take i))),(0,.agg [.int .i64 AV,.int .i64 AI].toArray),(1,.agg (AE ks).toArray),(2,.bool first),(3,.slice p (aa qs) c),(4,.int .i64 room),(5,ptr F 0),(6,ptr r 0)]) (λ_=>AA r 0 (AE ks)*(AA F 0 [.int .i64 AV,.int .i64 AI]*H)) (λi=>i≤aa qs) (λi=>aa qs-i) 0 Du Pq I ?_;rintro i hi;dsimp only at hi⊢;refine J6 ?_;refine JL i8<|J1 ?_;refine DU 29 I (λhg1=>?_) (λhg1=>?_)
 ·have Y:i<aa qs:=hg1;have gz:=hz _ (Gk (d:=AD) Y);refine JG T1<|J1 ?_;refine JG T1<|JL (uO (i:=(aa qs+Ey (qs.take i))) (j:=16384) I I)<|JL (Om T1 I I)<|J2 ?_;refine mC (λh32=>?_) (λh32=>?_)
  ·refine J8 ?_;refine JL (CJ (i:=i) I I hs Y)<|J1 ?_;refine JL (Fa (f:=4) (xs:=qs) I (hr _) I Y)<|J8 ?_;refine JL Qd<|J2 ?_;have Q:Ey (qs.take (i+1))=Ey (qs.take i)+(qs.getD i AD).data.size:=by rw[jO Y,wp]
   exact BV (i+1) Y uX (.cons I (.cons (by rw[Q,←Am0];rfl) UK)) I
  have htot:(aa qs+Ey (qs.take i))≤16384→i=aa qs:=(by intro h;exact absurd h h32)
  refine J4 ?_;exact jS
 have htot:(aa qs+Ey (qs.take i))≤16384→i=aa qs:=(by have h7:¬i<aa qs:=hg1;omega)
 refine JH F1<|JH F1<|JL (N5 F1 I I)<|J2 ?_;refine PM I I<|J4 ?_;exact jS
end
section
open Go Go.RowKit Go.Conc
set_option maxRecDepth 20000
variable{B:World}
def ez{t}{c:AO}{s:AL}(h:Aq t c)(C:Ar t s)(hr:Rel c s)(ht:t<500000)(q:B'):
  EJ (s.asks q).1=EJ (c.Bj q).1∧Aq (t+1) (c.Bj q).2∧
  (q.kind≠5→(c.Bj q).1.BA=[]∧Ar (t+1) (s.asks q).2∧Rel (c.Bj q).2 (s.asks q).2)∧
  (q.kind=5→(s.asks q).2=s∧(s.GL (EG (c.Bj q).1.BA)).1=true∧Ar (t+1) (s.GL (EG (c.Bj q).1.BA)).2∧Rel (c.Bj q).2 (s.GL (EG (c.Bj q).1.BA)).2∧
   (c.Bj q).1.BA.length≤20∧∀d∈(c.Bj q).1.BA,d.size≤300):=by
 obtain⟨r,M,N,R,Y,O,U⟩:=f_ h C C0 hr q;refine⟨?_,h.Bj q,λZ=>⟨(O Z).1,C.asks C0 q,(O Z).2⟩,λZ=>?_⟩
 ·unfold EJ;rw[r,M,N,R,Y]
 obtain⟨Q,S,F⟩:=U Z;have J:(c.Bj q).1.BA=c.BA.1.map BR:=by
  unfold Bj;rw[AF C0,AF C0,AF C0,AF C0,AJ Z]
 have j:(c.Bj q).1.BA.length≤20:=by rw[J,eh];exact pN h
 refine⟨Q,S,C.GL _ (by unfold EG;rw[eh];exact j),F,j,λd m=>?_⟩;rw[J]at m;obtain⟨x,X,rfl⟩:=g9.1 m;have:=tY h x X;rw[Mo];exact this
def LX(c:AO)(qs:List B')(i:Nat):AO:=(qs.take i).foldl (λc q=>(c.Bj q).2) c
def rE(c){qs:List B'}{i}(h:i<aa qs):LX c qs (i+1)=((LX c qs i).Bj (qs.getD i AD)).2:=by
 unfold LX;rw[jO h,tg];rfl
def Zt:∀(c:AO) (qs:List B') (i:Nat),i<aa qs→(Kf c qs)[i]?=some ((LX c qs i).Bj (qs.getD i AD)).1
 |c,[],i,h=>by cases h
 |c,q::l,0,h=>rfl
 |c,q::l,i+1,h=>by
  simp only[f']at h;have:=Zt (c.Bj q).2 l i C0;simpa[Kf,LX]using this
def Ade(a:B7)(p:Option Addr)(k c:Nat)(H:HP):Fn prog B 21 [.agg [iN a.e,.int .i64 a.at_,iN a.n,uN a.code,.string a.data,.slice p k c].toArray,.agg (EJ a).toArray] H (λv H'=>v=.bool true∧H'=H):=by
 refine mI func21 ?_;refine J2 ?_;refine Ae (EB (l:=[iN a.e,.int .i64 a.at_,iN a.n,uN a.code,.string a.data,.slice p k c]) I I) I ?_;rintro _ _ ⟨X,rfl,rfl⟩;refine Ae (EB (l:=EJ a) I I) I ?_;rintro _ _ ⟨h,rfl,rfl⟩;refine J9 ?_;refine JL (Dy (i:=a.e) (j:=a.e) I I)<|SK ?_;refine JL (Eo (i:=a.at_) (j:=a.at_) I I)<|JL S'<|SK ?_;refine JL (Dy (i:=a.n) (j:=a.n) I I)<|JL S'<|SK ?_;refine JL (Dy (i:=a.code) (j:=a.code) I I)<|JL S'<|SK ?_;refine JL (pD I I)<|JL S'<|J4 ?_;exact mR [4] H I I ⟨by show Value.bool (decide (a.data=a.data))=_;rw[decide_eq_true rfl],I⟩
noncomputable def j9:Code:=match Wd with
 | .seq _ c=>c
 |_=>.skip
set_option maxHeartbeats 4000000 in
def z_(qs p b o c)(C:Sl p b o (aa qs) c)(hr:∀H,AZ B H b o qs)(J:aa qs≤16384)(hz:∀q∈qs,q.data.size≤16384)(m:Ak)(hC:Aq 0 m.s)(sb)(sm:Ah)(X:sm.ok)(hS:Ar 0 sm.s)(M:Rel m.s sm.s)(rs:List Hd)(a:Am)(ha:a.ok rs)(Y:∀r∈rs,r.ps.ok r.a.BA)(hmap:rs.map (·.a)=Kf m.s qs)(R):
  XT prog B (H7 prog B.heap.size λv _=>v=.bool true) Ku [.code j9] 132 [(18,.bool true),(17,.slice a.p (aa rs) a.c),(15,ptr sb 0),(3,.slice p (aa qs) c)] [] (a.h rs*(AP Ge rs*(Ad sb sm*R))):=by
 have hrl:aa rs=aa qs:=by rw[←XS m.s qs,←hmap,eh]
 refine Jj ?_;refine J3 ?_;refine JL (Pd (p:=True) I)<|Kll ?_;refine J1 ?_;refine QG ?_;refine J1 ?_;refine QG ?_;refine JL (H4 (i:=aa rs) (j:=aa qs) I I)<|JL (N5 I I I)<|J2 ?_;refine PM I (decide_eq_false (λh=>h hrl))<|J1 ?_;refine M1 ?_;refine A3 (H':=Ad sb sm*(a.h rs*(AP Ge rs*R))) C4<|J2 ?_;refine JL gY<|J3 ?_;refine Bf (α:=Nat×Ah) (λz=>[(19,iN z.1),(17,.slice a.p (aa rs) a.c),(15,ptr sb 0),(3,.slice p (aa qs) c)]) (λz=>Ad sb z.2*(a.h rs*(AP Ge rs*R))) (λz=>z.1≤aa qs∧z.2.ok∧Aq z.1 (LX m.s qs z.1)∧Ar z.1 z.2.s∧Rel (LX m.s qs z.1) z.2.s) (λz=>aa qs-z.1) (0,sm) ⟨bk _,X,hC,hS,M⟩ Bu I ?_;rintro⟨i,s0⟩ ⟨hi,hs0,DN,hsi,hri⟩;dsimp only at hi hs0 DN hsi hri⊢;refine J6 ?_;refine JL i8<|J2 ?_;refine mC (λh91=>?_) (λh91=>?_)
 ·have gz:=hz _ (Gk (d:=AD) h91);have hir:i<aa rs:=by rw[hrl];exact h91
  obtain⟨q1,k1,q3,q4⟩:=ez DN hsi hri C0 (qs.getD i AD);have hra:(rs.getD i AD).a=((LX m.s qs i).Bj (qs.getD i AD)).1:=by
   have h7:=Zt m.s qs i h91;rw[←hmap,x0,c8 hir]at h7;rw[ek,c8 hir];exact Option.some.inj h7
  have hrok:=Y _ (Gk (d:=AD) hir);refine J9 ?_;refine JL (CJ (i:=i) I I C h91)<|JL (I2 (xs:=qs) I (hr _) h91)<|mE I (dy sb i s0 (qs.getD i AD) _ hs0 hsi C0 C0) ?_;rintro _ _ ⟨s1,hs1,hss1,rfl,rfl⟩;refine Ae W8 I ?_;rintro _ _ ⟨U,rfl,rfl⟩;refine Bl (Ek (cs:=EJ (s0.s.asks (qs.getD i AD)).1) I I Ca (by intro v hv;simp at hv;rcases hv with rfl|rfl|rfl|rfl|rfl|rfl<;>rfl))<|JR<|BH (H':=AA U 0 (EJ (rs.getD i AD).a)*(Ad sb s1*(a.h rs*(AP Ge rs*R)))) (by rw[q1,hra])<|J3 ?_;refine EI (AA U 0 (EJ (rs.getD i AD).a)*a.h rs) 5 7 EO I C1<|Jm 0 ?_;refine Jm 1 ?_;refine JT 2 I Wb<|JT 3 I (I2 (xs:=rs) I (by show AZ B (_*AC a.b a.o rs a.s) _ _ _;exact AH) hir)<|JT 4 I (Et (l:=EJ (rs.getD i AD).a) I I)<|Au 5 C1 I I (Bd I (Ade (rs.getD i AD).a (rs.getD i AD).ps.p (rs.getD i AD).a.BA.length (rs.getD i AD).ps.c _))<|FZ ?_;refine GU 6 C1 I I HG Fk ?_;refine JD<|J6 ?_;refine JL (CJ (i:=i) I I C h91)<|J1 ?_;refine JL (Fa (f:=0) (xs:=qs) I (hr _) I h91)<|JL (Eo (i:=(qs.getD i AD).kind) (j:=5) I I)<|J2 ?_;refine Bq (α:=Ah) (λz=>[(21,.bool true),(19,iN i),(17,.slice a.p (aa rs) a.c),(15,ptr sb 0),(3,.slice p (aa qs) c)]) (λz=>Ad sb z*(a.h rs*(AP Ge rs*R))) (λz=>z.ok∧Ar (i+1) z.s∧Rel ((LX m.s qs i).Bj (qs.getD i AD)).2 z.s) ?_ ?_
  ·refine mC (λh5=>?_) (λh5=>?_)
   ·obtain⟨Q,S,F,g4,g5,g6⟩:=q4 h5;rw[Q]at hss1;rw[←hra]at S F g4 g5 g6;refine J5 ?_;refine JL Wb<|J1 ?_;refine JL vG<|BH (H':=Ad sb s1*(Am.h (rs.getD i AD).ps (rs.getD i AD).a.BA*(AA U 0 (EJ (rs.getD i AD).a)*(a.h rs*(CI Ge rs i*R))))) (by rw[MO Ge rs i AD hir];show _*(_*(_*(Am.h (rs.getD i AD).ps (rs.getD i AD).a.BA*CI Ge rs i*R)))=_;ac_rfl)<|mE I (Adr sb i s1 (rs.getD i AD).a.BA (rs.getD i AD).ps.p (rs.getD i AD).ps.b (rs.getD i AD).ps.o (rs.getD i AD).ps.c _ hs1 (by rw[hss1];exact hsi) C0 g5 hrok.1 (by show AZ B (AC (rs.getD i AD).ps.b (rs.getD i AD).ps.o (rs.getD i AD).a.BA (rs.getD i AD).ps.s*_) _ _ _;exact AH) (λd hd=>by have:=g6 d hd;omega)) ?_;rintro _ _ ⟨s2,N,hss2,rfl,rfl⟩;have hem:(s1.s.GL (EG (rs.getD i AD).a.BA)).1=true:=by rw[hss1];exact S
    rw[hem];refine J6 ?_;refine OC I I I I<|J1 ?_;refine JL (Om I I I)<|J2 ?_;exact Bg (Ad sb s2*(a.h rs*(AP Ge rs*R))) (hE:=⟨λww hw=>Sat.right (A:=AA U 0 (EJ (rs.getD i AD).a)) (Eq.mp (by congr 1;rw[MO Ge rs i AD hir];show _=_*(_*(_*(Am.h (rs.getD i AD).ps (rs.getD i AD).a.BA*CI Ge rs i*R)));ac_rfl) hw)⟩) (An s2 ⟨N,by rw[hss2,hss1];exact F,by rw[hss2,hss1];exact g4⟩ Fr I)
   obtain⟨Q,S,F⟩:=q3 h5;rw[←hra]at Q;refine J4 ?_;refine JL Wb<|J1 ?_;refine JL vG<|J1 ?_;refine JL (Ih (i:=(rs.getD i AD).a.BA.length) (j:=0) I I)<|J2 ?_;refine PM I (decide_eq_false (by rw[Q];decide))<|J1 ?_;exact Bg (Ad sb s1*(a.h rs*(AP Ge rs*R))) (hE:=⟨λww hw=>hw.right⟩) (An s1 ⟨hs1,by rw[hss1];exact S,by rw[hss1];exact F⟩ Fr I)
  rintro s2 ⟨N,k2,O⟩;refine J4 ?_;refine JL (Pd (p:=True) I)<|J2 ?_;refine PM I I<|J5 ?_;refine JL Qd<|J2 ?_;exact BV (i+1,s2) ⟨h91,N,by rw[rE m.s h91];exact k1,k2,by rw[rE m.s h91];exact O⟩ uX Bu I
 refine J4 ?_;refine Ir (c:=Ku)<|Jj ?_;refine J3 ?_;refine Ir ?_;exact Y7<|nR (ts:=[10]) I func8 I I C1 λw=>rfl
def Aan(hG:B.cell? ⟨0,0,none⟩=some (D5 106))(qs:List B')(p:Option Addr)(b o c:Nat)(C:Sl p b o (aa qs) c)(hr:∀H,AZ B H b o qs)(J:aa qs≤16384)(hz:∀q∈qs,q.data.size≤16384)(U:∀q∈qs,q.AQ<9223372036854775808)(cb sb:Nat)(m:Ak)(hm:m.ok)(Q:Aq 0 m.s)(sm:Ah)(X:sm.ok)(hS:Ar 0 sm.s)(M:Rel m.s sm.s)(room:Int)(j: -9223372036854775808≤room∧room<9223372036854775808)(R:HP):
  XT prog B (Ot prog B λv _=>v=.bool true) Ku [.code Wd] 132 [(13,ptr cb 0),(15,ptr sb 0),(3,.slice p (aa qs) c),(4,.int .i64 room)] [] (Ao cb m*(Ad sb sm*R)):=by
 have F:=ep room (n:=20) C0;refine MZ ?_;refine Hq [0,1,2,3] C7 I I<|Nv ?_;refine Nv ?_;refine Nv ?_;refine Ae (Bd (vs:=[.int .i64 room,iN 20]) I (Adm room j 20 C0 _)) I<|JR<|JK ?_;refine cW I C7 I func18 I I λr S h=>?_;refine i_ hG qs 0 cb (Y0 room 20) m hm Q C0 (λq N=>⟨by have:=hz q N;omega,U q N⟩) p b o c C hr C0 I (Ad sb sm*R) λrs a ha Y O v hv=>?_;refine zJ I<|(?_:XT prog B (H7 prog B.heap.size λv _=>v=.bool true) Ku (.inRegion _ [5,6,7,8,9]:: [.code j9]) 132 ((76,.tuple #[.slice a.p (aa rs) a.c,.bool true])::_) [] _) _ v (S.put C2 _) (by simp[Act.put,h]) hv;refine Hq [5,6,7,8,9] C7 I I<|Nv ?_;refine D9 Jy I<|D9 Jy I<|D9 HG I<|Sh ?_;exact Lj DJ (z_ qs p b o c C hr J hz m Q sb sm X hS M rs a ha Y O R)
end
section
open Go Go.RowKit Go.Conc
section
variable{P:Program}{L:Nat→Option Obj}{B:World}{Post:Value→World→Prop}{G:Nat→Goroutine}{V:Nat→World}{w v:World}{t:Trace}{sl:Option (Nat×Nat)}{g:Goroutine}
def jy(hS:Br L B 0 (λ_ _=>False) (λ_=>False) 1 V w t)(hJ:∀op∈t,op.g<1)(J:H7 P B.heap.size Post (G 0) (V 0)):
  ∃o Z ops,runT P (crowd (CN G 1) w sl) 0=(.ended o Z,ops)∧∀Y s,Conc.Good P (D3 L B Post) (crowd (CN G 1) Y s) o Z (t++ops):=by
 obtain⟨hr,J⟩:=J;obtain⟨y,es,h1,h2,M⟩:=J w (hS.CD 0 C0);have q:=Go.ConcN.runT_crowd_ended (sl:=sl) (Dt (G:=G) (N:=1) (i:=0) C0) h1;have S:∀op∈MemOp.ofEvents 0 (G 0).frame.fn (G 0).frame.place es,op.g=0:=λop hop=>by
  exact Uy
 have R:Tr (Rz B.heap.size 1 V (λ_ _=>False)) (UX B.heap.size 0 (λ_=>False)) (t++MemOp.ofEvents 0 (G 0).frame.fn (G 0).frame.place es):=by
  exact pY
 refine⟨_,_,_,q,λY s=>⟨y,I,⟨M,hS.base⟩,R.race,?_,⟨?_,I⟩,?_⟩⟩
 ·intro i gi j X F;obtain⟨b,hb,_,_⟩:=F;obtain⟨Q,O,U⟩:=touch_of hb;have C:Q.g=gi:=by simpa[Trace.g?,O]using j
  exfalso;obtain h|h:=v7.1 (Ak7 O)
  ·have:=hJ Q h;omega
  have:=S Q h;omega
 ·intro g S;have e:(CN G 1).toList=[G 0]:=by
   simp only[CN];rw[show Array.range 1= #[0] by decide];simp
  rw[show(crowd (CN G 1) Y s).gs=CN G 1 from I,e]at S;cases S
 intro i g j X;obtain⟨hi,rfl⟩:=I1 j;omega
def kj(hb:JS L B w)(hv:B5 B.heap.size v w)(hm:∀b i,¬Bm B.heap.size v b i)(m:Co P true B.heap.size (H7 P B.heap.size Post) g v):
  ∃n r o q X,runNT P (n+1) (solo g w) #[]=(.ended o q,X)∧Go.runN P n (solo g w)=.next r∧step P r=.ended o q∧Conc.Good P (D3 L B Post) r o q X:=by
 have hE:KH P (D3 L B Post) L B 0 (λ_ _=>False) (λ_=>False) 1 (λ_ t=>∀op∈t,op.g<1) (λ_=>g) (λ_=>v):=by
  refine L4.ends (Stop:=λ_=>H7 P B.heap.size Post) (Done:=λ_=>False) ⟨λw t d h=>h,λV w t i J q Y fn pos C hJ hi _ Z op hop=>?_,λj g v h t e=>(by rw[h.1]at e;cases e),λj g v w t hJ h=>again_running _ SJ,
   λG V w t _ _ m=>⟨0,C0,(m 0 C0).1.runs λg v h=>h.1⟩,λG V w t sl i C hJ m hi hr s=>?_⟩ λj F=>⟨?_,λe=>e.elim⟩
  ·exact xV
  ·obtain rfl:i=0:=by omega
   exact .inr (jy C hJ s)
  obtain rfl:j=0:=by omega
  exact m
 exact tH
end
def eT:Obj→Obj
 | .cells c t _=>.cells c t (0,c.size)
 |_=>dead
def GP(W:World):World:={W with heap:=W.heap.map eT}
def Sv(W:World):(GP W).heap.size=W.heap.size:=by simp[GP]
def dA(W:World)(b:Nat):(GP W).heap[b]?=(W.heap[b]?).map eT:=by simp[GP]
def gE(W:World)(b:Nat)(h:b<W.heap.size):(GP W).heap[b]?=some dead∨KJ (GP W) W b:=by
 have O:=dA W b;rw[mi h]at O;cases q:W.heap[b]with
 |cells c t f=>
  right;rw[q]at O;exact⟨c,t,f,by rw[mi h,q],O⟩
 |_=>left;rw[q]at O;exact O
def dH(W:World):JS (λb=>W.heap[b]?) (GP W) W:=
 ⟨bX,I,I,I,λb q=>gE W b (by rwa[Sv]at q),λ_ _=>rfl⟩
def rF(W):B5 (GP W).heap.size (GP W) W:=
 ⟨bX,er _,I,I,I,λb q=>gE W b (by rwa[Sv]at q),λb O U=>by omega⟩
def aA(W b i):¬Bm (GP W).heap.size (GP W) b i:=λh=>by have:=h.1;have:=h.2.1;omega
def eV{b i:Nat}{v:Value}(h:W.cell? ⟨b,i,none⟩=some v):(GP W).cell? ⟨b,i,none⟩=some v:=by
 unfold World.cell? at h⊢;rw[dA];cases N:W.heap[b]? with
 |none=>rw[N]at h;cases h
 |some o=>
  rw[N]at h;cases o<;>first|exact h|cases h
def kc{w n}(h:JS (λb=>W.heap[b]?) (GP W) w)(j:n=W.heap.size):Below n W w:=by
 subst j;have e:=Sv W;exact⟨h.os.symm,h.tape.symm,h.output.symm,by have:=h.le;omega,λk Z=>h.kept k C0⟩
end
section
open Go Go.RowKit Go.Conc
def u7{p:Pinned}{s:OpenSpec}{c:OpenClaim}(f)(fn:Func)(hn:c.program=p.name)(C:c.sum=p.sum)(hsp:c.spec=s.name)(m:c.start=.entering)(R:c.outside=[])(hin:c.inits=[])(J:c.under=none)(hi4:c.initsInPlace=[]∧c.initsUnfollowed=false∧c.initsRecurse=false∧c.initsNamed=[]∧c.initsPassed=[])(Y:c.noBlocks=false)(X:c.leaving=true)(Q:c.followed=none)(hnar:c.narrowed=s.cond.isSome)(U:c.still=false)(r:p.checked.prog.funcNamed c.func=some f)(hf:p.checked.prog.funcs[f]?=some fn)(closed:joinedFacts p.checked.prog f fn s.bare c=true)(hinst:fn.isInstance p.checked.prog c.origin c.targs)(hwrap:fn.isWrapper p.checked.prog c.wrapper c.mainSum)(h:∀j:Os,j.Started→∀(H:Type) (enc:TypeId×Value→H),(∀a b,enc a=enc b→a=b)→∀F:Stop.Interp,
   ReturnsInLeavingWide c.assume p.checked j f .any (c.pre enc p.checked.prog fn s) ((s.at F).post enc p.checked.prog fn c.apart c.fresh c.handsOn c.again)):c.holds p s:=by
 simp only[joinedFacts,Ajr,beq_iff_eq,Al2,Ajq,decide_eq_true_eq]at closed;obtain⟨⟨⟨⟨⟨⟨⟨⟨⟨⟨⟨⟨⟨⟨⟨⟨⟨⟨⟨⟨⟨⟨⟨⟨⟨⟨⟨⟨⟨⟨⟨k1,k2⟩,O⟩,k4⟩,M⟩,S⟩,k7⟩,k8⟩,k9⟩,k10⟩,k11⟩,k12⟩,k13⟩,k14⟩,k15⟩,k16⟩,k17⟩,k17b⟩,k18⟩,k19⟩,k20⟩,k21⟩,k22⟩,k23⟩,k23b⟩,k24⟩,k24b⟩,k24c⟩,k25⟩,k26⟩,k27⟩,k28⟩:=closed;have N:∀j:Os,Stop.quiet p.checked.prog j:=λj k Z=>by rw[k9]at Z;cases Z
 refine⟨k1,hn,C,hsp,k2,O,by unfold OpenClaim.startFits;rw[m];exact k24,by unfold OpenClaim.startTold;rw[m];exact⟨hin,J,hi4⟩,f,fn,r,hf,⟨k4,k19⟩,(λq=>by rw[Y]at q;cases q),by unfold OpenClaim.namedList;rw[Q];exact M,hinst,hwrap,
  S.trans k7.symm,⟨k8.trans k9.symm,by unfold Program.envWorded;rw[k9];rfl,k23b⟩,k10,k11,k12,k13,k14,⟨k15,k27,k28⟩,⟨k16,k20⟩,⟨k17,k21,k25,k26⟩,⟨k22,k24b,k24c,k17b⟩,(by rw[R,hnar];cases hsh:c.shortTexts with|none=>simp|some _=>rw[hsh]at k23;cases k23),λn hn'=>varReadable_some (k18 n hn'),
  ⟨_,by unfold OpenClaim.world;rw[R,m];exact WideRow.started_initial,N _⟩,[],by unfold OpenClaim.lists;rw[Q],λj st _ H enc inj=>?_⟩
 have st':j.Started:=by unfold OpenClaim.world at st;rw[R,m]at st;exact st
 rw[OpenClaim.post_not_still U];unfold OpenClaim.form;rw[m,S];intro F;have e1:c.okInput=Input.okWide:=by unfold OpenClaim.okInput;rw[Y]
 have e2:c.atReturn p.checked.prog=leavingAtReturn p.checked.prog:=by unfold OpenClaim.atReturn;rw[X]
 have e3:c.always p.checked.prog []=nothingAlways:=by unfold OpenClaim.always;rw[Q]
 have e4:s.post enc p.checked.prog fn F c.outside c.apart c.fresh c.handsOn c.again=(s.at F).post enc p.checked.prog fn c.apart c.fresh c.handsOn c.again:=by rw[R];rfl
 rw[e1,e2,e3];show ReturnsInOpen _ _ _ _ _ _ _ _ (s.post enc p.checked.prog fn F c.outside c.apart c.fresh c.handsOn c.again) _ _;rw[e4];exact h j st' H enc inj F k24
section
variable{H:Type}{enc:TypeId×Value→H}
def vt{a:Assume}{C:Checked}{os:Os}{f}{fn:Func}{s:OpenSpec}{F:Stop.Interp}{conds apart Q m again}{laid:List (String×DataW Unit)}(own:ownKnob C.prog.godebug=none)(started:os.Started)(hfn:C.prog.funcs[f]?=some fn)(witness:∃(w:World) (tape:Tape) (i:Input),w.os=os∧(w.forCall tape i).Shaped C.prog∧i.vars=[]∧Input.okWide C.prog (w.forCall tape i) .any w.heap.size f i∧
   s.preRow enc C.prog fn conds apart laid (w.forCall tape i).memory i.args∧a.holds C.prog (lone (Frame.enter C.prog f i.args .normal) [] (w.forCall tape i)))(runs:∀(W:World) (base:Nat) (args:Array Value) (ds gs:List (DataW H)) (h:List MemPlace),
   (∀(j:Nat) t v,fn.params[j]?=some t→args[j]?=some v→Value.okWide C.prog W .any base t v)→
   DataW.Whole enc C.prog fn.params.toList s.vars apart W args.toList ds gs h→
   (∀k,s.cond=some k→k H (ds++gs)=true)→
   laidMetH C.prog laid W→
   ∃M r o w' X,runNT C.prog (M+1) (solo (G (Frame.enter C.prog f args .normal) []) W) #[]=(.ended o w',X)∧Go.runN C.prog M (solo (G (Frame.enter C.prog f args .normal) []) W)=.next r∧
    step C.prog r=.ended o w'∧Conc.Good C.prog (λv W'=>(s.at F).post enc C.prog fn apart Q m again W args v W') r o w' X):
  ReturnsInLeavingWide a C os f .any (s.preRow enc C.prog fn conds apart laid) ((s.at F).post enc C.prog fn apart Q m again):=by
 refine returnsInLeavingWide_of_good own started witness ?_;intro w tape i _ hsh _ hok Y hholds;obtain⟨_,_,_,S,hfn',_,_,_,_,R⟩:=hok;have e:S=fn:=Option.some.inj (hfn'.symm.trans hfn);subst e;obtain⟨⟨J,hl⟩,hz⟩:=Y;obtain⟨ds,gs,h,N,hc,Z⟩:=OpenSpec.pre_parts J;have q:=DataW.Whole.of_heap (w':=w.forCall tape i) (by rfl) N;obtain⟨M,r,o,w',X,O,U,h3,h4⟩:=runs (w.forCall tape i) w.heap.size i.args ds gs h R q Z (hl.of_heap (by rfl));exact⟨M,r,o,w',X,O,U,h3,h4.mono λv J=>ChangeSpec.post_blind J⟩
end
def pQ{P:Program}{B:World}{K:Goroutine→World→Prop}{f}{fn:Func}{c}(hf:P.funcs[f]?=some fn)(hb:fn.body=some c)(hm:Nat.ble (aa vs) fn.ntmps=true)(h:XT P B K ⟨true,f,.normal,[]⟩ [.code c] fn.ntmps (IL 0 vs) [] Bs):
  Co P true B.heap.size K (G (Frame.enter P f vs.toArray .normal) []) B:=by
 rw[OX .normal hf hb];refine h _ B ⟨?_,?_⟩ I (Sat.start B)
 ·have:aa vs≤fn.ntmps:=by simpa using hm
  simp;omega
 exact rD
theorem J! {α:Type}[AB α]{b o}{xs:List α}(h:∀H',AZ W H' b o xs)(H):AZ (GP W) H b o xs:=
 ZJ λi f v e M=>eV ((h Bs).get i f v e M W (Sat.start W))
end
def ic:laidOutB Tryz.pinned.checked.prog=true:=n7
def q9:mapsRowed Tryz.pinned.checked.prog=true:=by kernel_rfl
def Afr:Tryz.pinned.checked.prog.plainKeys=Rows.streamedUptoRow.plainKeys:=by kernel_rfl
def lz:Tryz.pinned.checked.prog.stopsHeard=true:=by kernel_rfl
def Aek:Tryz.pinned.checked.prog.mayEnter=true:=by kernel_rfl
def Afm:Tryz.pinned.checked.prog.liftsFinal=Rows.streamedUptoRow.lifted:=by kernel_rfl
section
open Go Go.ChangeShapes Go.WideShapes Go.ChangeAt Go.RowKit Go.Conc
section
variable{H:Type}{enc:TypeId×Value→H}
set_option maxRecDepth 20000 in
def oe{r j v}{d:DataW H}{ps}(R:Value.okWide prog W r j 35 v)(Z:DataW.Trod enc prog W 0 (λ_=>true) true 35 v d ps):
  ∃O S,v=.agg [.int .i64 O,.int .i64 S].toArray:=by
 obtain⟨M,rfl,hsz,_⟩:∃cs,v=.agg cs∧cs.size=prog.cellsOf 35∧Row.okWide prog W r j 35 cs:=by simpa[Value.okWide,underlying35]using R
 obtain⟨s,h⟩:=Z;have N:prog.cellsOf 35=2:=C1;have c2:prog.cellsOf 3=1:=C1;obtain⟨cs,rfl⟩:∃l:List Value,M=l.toArray:=⟨M.toList,C3⟩
 have h:DataW.trod enc prog W 0 (λ_=>true) true s 35 cs=some (d,ps):=by simpa[Value.cells]using h
 obtain⟨U,k,rfl,e,hcl,hxl,Y⟩:=DataW.trod_struct underlying35 h;rw[N]at hcl
 match U,hxl,cs,hcl with
 |[X,y1],_,[F,v1],_=>
  have m:=Y 0 _ I;have Q:=Y 1 _ I;simp[c2]at m Q;obtain⟨i0,J,_,_⟩:=DataW.trod_int underlying3 m;obtain⟨q,C,_,_⟩:=DataW.trod_int underlying3 Q;simp only[List.cons.injEq,and_true]at J C;exact⟨i0,q,by rw[J,C]⟩
def Adx(q:B')(d:DataW H):Prop:=q.AQ<9223372036854775808∧q.data.size≤Rows.uptoBulk d
instance:Inhabited B':=⟨AD⟩
set_option maxRecDepth 20000 in
def nu{v}{d:DataW H}{ps}(h:DataW.Trod enc prog W 0 (λ_=>true) true 36 v d ps)(S:∃p k c,v=.slice p k c)(hb:Rows.uptoBulk d≤1048576):
  ∃(p:Option Addr) (b o c:Nat) (l:List B'),v=.slice p (aa l) c∧Sl p b o (aa l) c∧(∀H',AZ W H' b o l)∧aa l≤1048576∧∀q∈l,q.AQ<9223372036854775808∧q.data.size≤1048576:=by
 obtain⟨fuel,Y⟩:=h;obtain⟨J,k0,m,rfl⟩:=S;obtain⟨p,b,o,c,j,X,e,Q,Z,N⟩:=cv (α:=B') Adx underlying36 C1 (by show 0<5;decide) (λn r y hy=>F! hy) Y;have F:Value.slice J k0 m=.slice p j c:=by simpa[Value.cells]using e
 have hl:aa ((List.range j).map X)=j:=by rw[eh,Alz]
 refine⟨p,b,o,c,(List.range j).map X,by rw[hl];exact F,by rw[hl];exact Q,Z,?_,λs C=>?_⟩
 ·rw[hl];obtain⟨rfl,e⟩|⟨D,sp,e,R⟩:=N
  ·omega
  have:=O_ ((List.range j).map D);rw[eh,Alz]at this;rw[show d=_ from e]at hb;simp only[Rows.uptoBulk]at hb;omega
 obtain⟨i,M,rfl⟩:=g9.1 C;have M:=Ak3.1 M;obtain⟨rfl,_⟩|⟨D,sp,e,R⟩:=N
 ·omega
 have O:=R i M;have U:Rows.uptoBulk (D i)≤Rows.uptoBulkAll ((List.range j).map D):=nY (g9.2 ⟨i,Ak3.2 M,I⟩);have h3:Rows.uptoBulkAll ((List.range j).map D)≤Rows.uptoBulk d:=by
  rw[show d=_ from e];simp only[Rows.uptoBulk];omega
 exact⟨O.1,by have:=O.2;omega⟩
end
def ax(W:World)(hG:W.cell? ⟨0,0,none⟩=some (D5 106))(qs:List B')(p:Option Addr)(b o c:Nat)(C:Sl p b o (aa qs) c)(hr:∀H,AZ W H b o qs)(hl:aa qs≤1048576)(hz:∀q∈qs,q.AQ<9223372036854775808∧q.data.size≤1048576)
  (AV AI:Int)(ks:List UInt8)(Z:aa ks=16)(first:Bool)(room:Int)(hroom: -9223372036854775808≤room∧room<9223372036854775808):
  ∃n r o w' t',runNT prog (n+1) (solo (G (Frame.enter prog 8 [.agg [.int .i64 AV,.int .i64 AI].toArray,.agg (AE ks).toArray,.bool first,.slice p (aa qs) c,.int .i64 room].toArray .normal) []) W) #[]=(.ended o w',t')∧
   Go.runN prog n (solo (G (Frame.enter prog 8 [.agg [.int .i64 AV,.int .i64 AI].toArray,.agg (AE ks).toArray,.bool first,.slice p (aa qs) c,.int .i64 room].toArray .normal) []) W)=.next r∧step prog r=.ended o w'∧
   Conc.Good prog (D3 (λb=>W.heap[b]?) (GP W) λv _=>v=.bool true) r o w' t':=by
 have Y:∀H,AZ (GP W) H b o qs:=λH=>J! hr H;have hG':(GP W).cell? ⟨0,0,none⟩=some (D5 106):=eV hG;have hinit:prog.inits.idxOf? 8=none:=C1;have j:∀J H',lk J 10=some (.bool true)→XR prog (GP W) (H7 prog (GP W).heap.size λv _=>v=.bool true) Ku 132 J [] H':=λJ H' e=>
  nR (ts:=[10]) (vs:=[.bool true]) I func8 I (by simp[Dw,ev,e]) hinit λw=>rfl
 by_cases s:aa qs+Ey qs≤16384∧Gb AV AI
 ·obtain⟨O,U⟩:=s;refine vm (dH W) (rF W) (aA W) (pQ (B:=GP W) func8 I I (aB hG' qs p b o c C Y hl (λq N=>(hz q N).2) AV AI ks Z first room Bs I (λJ H' h=>by omega) (λJ H' h=>absurd U h) λ_ R cb m sb sm F b6 hm M X S=>?_));obtain⟨m1,Q,m3,m4⟩:=R;refine Aan hG' qs p b o c C Y C0 (λq N=>by have:=oM N;omega) (λq N=>(hz q N).1) cb sb m hm ?_ sm X ?_ ?_ room hroom _
  ·rw[M];exact Aq.new C0 C0 C0 C0 Z
  ·rw[S];exact Ar.new C0 C0 C0 C0 Z
  rw[M,S];exact Rel.new _ _ _ _
 refine kj (dH W) (rF W) (aA W) (pQ (B:=GP W) func8 I I (aB hG' qs p b o c C Y hl (λq N=>(hz q N).2) AV AI ks Z first room Bs I (λJ H' _ e=>j J H' e) (λJ H' _ e=>j J H' e) λO U=>absurd ⟨O,U⟩ s))
set_option maxRecDepth 100000 in
def Afl(H:Type)(enc:TypeId×Value→H)(W base)(args:Array Value)(ds gs:List (DataW H))(h)(R:∀(j:Nat) t v,f8.params[j]?=some t→args[j]?=some v→Value.okWide prog W .any base t v)(hW:DataW.Whole enc prog f8.params.toList Rows.servedSpec.vars false W args.toList ds gs h)(Z:Rows.uptoBulkAll (ds++gs)≤1048576)(hL:laidMetH prog Rows.servedRow.laid W):
  ∃M r o w' X,runNT prog (M+1) (solo (G (Frame.enter prog 8 args .normal) []) W) #[]=(.ended o w',X)∧Go.runN prog M (solo (G (Frame.enter prog 8 args .normal) []) W)=.next r∧
   step prog r=.ended o w'∧Conc.Good prog (λv W'=>Rows.servedSpec.post enc prog f8 false true false false W args v W') r o w' X:=by
 have hW':=hW;obtain⟨p,q,hA0,S,rfl,hfz,hnd⟩:=hW;have hA:DataW.TrodAll enc prog W 0 (λ_=>true) true f8.params.toList args.toList ds p:=hA0;rw[params8]at hA R;obtain⟨F,vs0,d0,ds0,p0,q0,hargs,rfl,rfl,N,r0⟩:=trodAll_cons hA;obtain⟨C,vs1,d1,ds1,p1,q1,rfl,rfl,rfl,O,J⟩:=trodAll_cons r0;obtain⟨v2,vs2,d2,ds2,p2,q2,rfl,rfl,rfl,U,r2⟩:=trodAll_cons J;obtain⟨v3,vs3,d3,ds3,p3,q3,rfl,rfl,rfl,h3,r3⟩:=trodAll_cons r2;obtain⟨v4,vs4,d4,ds4,p4,q4,rfl,rfl,rfl,h4,r4⟩:=trodAll_cons r3;obtain⟨rfl,rfl,rfl⟩:=trodAll_nil r4;obtain rfl:args= #[F,C,v2,v3,v4]:=by cases args;simp_all
 have s:Rows.uptoBulk d3≤1048576:=k9 (nY C3) Z;obtain⟨AV,AI,rfl⟩:=oe (R 0 _ F I I) N;obtain⟨ks,hks,rfl⟩:=Ab5 underlying24 underlying5 C1 C1 (R 1 _ C I I) O;obtain⟨first,rfl,rfl,rfl⟩:=open_bool underlying4 (R 2 _ v2 I I) U;obtain⟨pp,b,o,c,l,rfl,Q,hrd,hl,hok⟩:=nu h3 (tw underlying36 (R 3 _ v3 I I)) s;obtain⟨m,rfl,rfl,rfl,hwr⟩:=open_int underlying3 (R 4 _ v4 I I) h4;obtain⟨rfl,rfl⟩:=trodVars_none S;have hroom: -9223372036854775808≤m∧m≤9223372036854775807:=by simpa[Lit.wf,IntKind.min,IntKind.max,IntKind.bits,IntKind.signed]using hwr
 obtain⟨n,r,oo,w',X,g1,g2,g3,g4⟩:=ax W (Aby hL) l pp b o c Q hrd hl hok AV AI ks hks first m ⟨hroom.1,C0⟩;refine⟨n,r,oo,w',X,g1,g2,g3,g4.mono λv hv=>?_⟩;obtain⟨rfl,hb⟩:=hv;refine zb n7 ?_ I hW' (kc hb I) I I (λ_ _ _=>trodAll_cons_mk (shut_bool underlying4 _) trodAll_mk0) (ok_one C1 I (okWide_bool_mk underlying4 _));rw[params8];intro t ht
 have Y:([35,24,4,36,3].all λt=>prog.readableRec t&&decide (t<prog.types.size))=true:=C1;have:=Ajq.1 Y t Mf;simpa using this
end
end Go.Proofs.YtgfdlpcdjklcoaaGreatDoor
