/- Steps of this proof; no condition. -/
import Derived.Test.YtgfdlpcdjklcoaaGreatDoorP15
import Derived.Conc.CrowdStepC
import Derived.Conc.EntryLaws
import Derived.Conc.Own4
namespace Go.Proofs.YtgfdlpcdjklcoaaGreatDoor
open Go Go.RowKit Ai
open _root_.List renaming length→aa
set_option linter.all false
variable{l:List Item}{c k s j i:Nat}{pk tm cl:Bool}{z:Value}{u:Trace}{g2 g':Goroutine}{Q:Bool→Value→Goroutine→World→Prop}{V:Nat→World}{cs:List Frame}{is2:List Nat}
section
open Go Go.RowKit Go.Conc
abbrev Fz:=Value→HP→Prop
inductive G5|ask (pk:Bool) (l:List Fz)|more|ret
inductive Dc|start (l:List Item)|recv (pk:Bool) (l:List Item)|between (A:Fz) (l:List Item)|says (pk:Bool) (A:Fz) (l:List Item)|close|gone (k:Nat)
inductive FN|feed (pk:Bool) (l:List Value)|gone (k:Nat)
structure St where
 m:G5
 s:Dc
 f:FN
 BK:List Value
def Dc.left:Dc→List Item
 | .start l| .recv _ l| .between _ l| .says _ _ l=>l
 |_=>[]
def Dc.MV:Dc→List Fz
 | .start l| .recv _ l=>l.map (·.2)
 | .between A l| .says _ A l=>A::l.map (·.2)
 |_=>[]
def Dc.BW:Dc→Bool| .gone _=>true|_=>false
def FN.left:FN→List Value| .feed _ l=>l| .gone _=>[]
def FN.BW:FN→Bool| .gone _=>true|_=>false
def Hu(b:Bool):Nat:=if b then 0 else 1
def G5.size:G5→Nat| .ask pk l=>10*aa l+6+Hu pk| .more=>4| .ret=>0
def Dc.size:Dc→Nat
 | .start l=>10*aa l+9
 | .recv pk l=>10*aa l+5+Hu pk
 | .between _ l=>10*aa l+9
 | .says pk _ l=>10*aa l+7+Hu pk
 | .close=>3
 | .gone _=>0
def FN.size:FN→Nat| .feed pk l=>10*aa l+5+Hu pk| .gone _=>0
def St.size(x:St):Nat:=x.m.size+x.s.size+x.f.size
def St.tail(x:St):Nat:=(match x.s with| .gone k=>k|_=>0)+(match x.f with| .gone k=>k|_=>0)
structure St.Fit(room:Nat)(x:St):Prop where
 IG:x.s.left.map (·.1)=x.BK++x.f.left
 full:x.BK.length≤room
 asks:∀pk l,x.m=.ask pk l→l=x.s.MV
 last:(∀pk l,x.m≠ .ask pk l)→x.s.BW=true
 MM:∀l,x.m=.ask true l→x.s.BW=false∧∀A l',x.s≠ .says true A l'
 N6:∀l,x.s=.recv true l→x.BK=[]∧x.f.BW=false∧∀l',x.f≠ .feed true l'
 Iu:∀l,x.f=.feed true l→x.BK.length=room∧l≠ []
 Ke:x.s=.close∨x.s.BW=true→x.f.BW=true
 XH:∀A l,x.s=.says true A l→∀pk l',x.m=.ask pk l'→pk=false
section
variable(P:Program)(B:World)(sb ci co:Nat)(zi zo:Value)(room:Nat)(Post:Value→World→Prop)
def G9:G5→Goroutine→World→Prop
 | .ask pk l=>Gt P B co zo Post pk l
 | .more=>D6 P true B.heap.size false co zo λq x g v=>q=false→x=zo→Co P true B.heap.size (H7 P B.heap.size Post) g v
 | .ret=>H7 P B.heap.size Post
def FP:Dc→Goroutine→World→Prop
 | .start l=>KG P false B.heap.size sb co λg v=>Co P false B.heap.size (Eg P B sb ci co zi false l) g v
 | .recv pk l=>Eg P B sb ci co zi pk l
 | .between A l=>KG P false B.heap.size sb co λg v=>Co P false B.heap.size (KZ P B sb ci co zi false A l) g v
 | .says pk A l=>KZ P B sb ci co zi pk A l
 | .close=>KX P false B.heap.size co
 | .gone k=>λg _=>QuitsIn P k g
def KI:FN→Goroutine→World→Prop
 | .feed pk l=>He P B ci pk l
 | .gone k=>λg _=>QuitsIn P k g
def BN(x:St):Nat→Goroutine→World→Prop
 |0=>G9 P B co zo Post x.m
 |1=>FP P B sb ci co zi x.s
 |_=>KI P B ci x.f
structure G8(x:St)(w:World):Prop where
 DN:∃s r tm,w.heap[ci]?=some (.chan room x.BK.toArray x.f.BW s r tm)
 GG:∃s tm,w.heap[co]?=some (.chan 0 #[] x.s.BW s s tm)
 Hn:w.cell? ⟨sb,0,none⟩=some (.chan (some co))
def K1(t:Trace)(g g':Nat):Prop:=∀i (op:MemOp),t[i]?=some op→op.g=g→op.act.touch?≠none→Knows t g' i
def J0(t:Trace)(g c:Nat):Prop:=∃(C:Nat) (op:MemOp),t[C]?=some op∧op.g=g∧op.act=.close c∧∀(i:Nat) (o:MemOp),t[i]?=some o→o.g=g→i≤C
structure Kw(x:St)(t:Trace):Prop where
 f:x.f.BW=true→J0 t 2 ci
 s:x.s.BW=true→J0 t 1 co
 fs:x.s=.close∨x.s.BW=true→K1 t 2 1
 m:(∀pk l,x.m≠ .ask pk l)→K1 t 1 0∧K1 t 2 0
 three:∀op∈t,op.g<3
end
end
section
open Go Go.RowKit Go.Conc
def X3(ci co:Nat)(g b:Nat):Prop:=(g=2∧b=ci)∨(g=1∧b=co)
def Y3(g:Nat):Prop:=g=0∨g=1
def G5.fixed:G5→Bool| .ask pk _=>pk|_=>false
def Dc.fixed:Dc→Bool| .recv pk _=>pk| .says pk _ _=>pk| .gone _=>true|_=>false
def FN.fixed:FN→Bool| .feed pk _=>pk| .gone _=>true
def Dc.O9{s:Dc}(h:s.BW=true):s.fixed=true:=by cases s<;>first|rfl|cases h
def FN.O9{s:FN}(h:s.BW=true):s.fixed=true:=by cases s<;>first|rfl|cases h
def DR(x:St)(j:Nat):Prop:=(j=0∧x.m.fixed=true)∨(j=1∧x.s.fixed=true)∨(j=2∧x.f.fixed=true)
def J0.app{t g}(h:J0 t g c)(q:∀op∈u,op.g≠g):J0 (t++u) g c:=by
 obtain⟨C,op,O,U,M,F⟩:=h;refine⟨C,op,by rw[getElem?_append_old (lt_size_of_getElem? O)];exact O,U,M,λi o d S=>?_⟩;obtain⟨_,b⟩|⟨_,b⟩:=getElem?_append_cases d
 ·exact F i o b S
 exact absurd S (q o b)
def K1.app{t g g'}(h:K1 t g g')(q:∀op∈u,op.g=g→op.act.touch?=none):K1 (t++u) g g':=by
 intro i op M S R;obtain⟨_,b⟩|⟨_,b⟩:=getElem?_append_cases M
 ·exact(h i op b S R).app u
 exact absurd (q op b S) R
section
variable{L:Nat→Option Obj}{B:World}{sb ci co room:Nat}{x:St}{vs:Nat→World}{w w' v':World}{t:Trace}{i:Nat}{es:Array Event}
def G8.own(h:G8 sb ci co room x w)(D:Br L B sb (X3 ci co) Y3 3 vs w t)(hi:i<3)(Z:HC B.heap.size (vs i) w w' v' es):G8 sb ci co room x w':=by
 obtain⟨⟨r,r1,S,C⟩,⟨q,b,M⟩,O⟩:=h;obtain⟨d,_,e⟩:=D.chan 2 ci OQ;obtain⟨o,_,p⟩:=D.chan 1 co Nj;exact⟨⟨r,r1,S,Z.object (D.CD i hi) d C C3 (e i 0 hi)⟩,⟨q,b,Z.object (D.CD i hi) o M C3 (p i 0 hi)⟩,Z.boxed O ((D.box 0 (.inl I)).2 i hi)⟩
def Kw.app(h:Kw ci co x t)(hf:x.Fit room)(hi:i<3)(q:∀op∈u,op.g=i)(p:¬DR x i):Kw ci co x (t++u):=by
 have r:x.s.BW=true→i≠1:=λe C=>p (.inr (.inl ⟨C,Dc.O9 e⟩));have o:x.f.BW=true→i≠2:=λe C=>p (.inr (.inr ⟨C,FN.O9 e⟩));refine⟨λe=>(h.f e).app λop S d=>o e ((q op S).symm.trans d),λe=>(h.s e).app λop S d=>r e ((q op S).symm.trans d),λe=>(h.fs e).app λop S d=>?_,λe=>?_,λop S=>?_⟩
 ·exact absurd ((q op S).symm.trans d) (o (hf.Ke e))
 ·obtain⟨a,b⟩:=h.m e;have D:x.s.BW=true:=hf.last e;exact⟨a.app λop S d=>absurd ((q op S).symm.trans d) (r D),b.app λop S d=>absurd ((q op S).symm.trans d) (o (hf.Ke (.inr D)))⟩
 obtain O|O:=v7.1 S
 ·exact h.three op O
 rw[q op O];exact hi
def Kw.OT(h:Kw ci co x t)(q:∀op∈u,op.act.touch?=none∧op.g<3∧(x.f.BW=true→op.g≠2)∧(x.s.BW=true→op.g≠1)):Kw ci co x (t++u):=
 ⟨λe=>(h.f e).app λop S=>(q op S).2.2.1 e,λe=>(h.s e).app λop S=>(q op S).2.2.2 e,λe=>(h.fs e).app λop S _=>(q op S).1,λe=>⟨(h.m e).1.app λop S _=>(q op S).1,(h.m e).2.app λop S _=>(q op S).1⟩,
  λop S=>(v7.1 S).elim (h.three op) λO=>(q op O).2.1⟩
end
end
section
open Go Go.RowKit Go.Conc
section
variable{P:Program}{main:Bool}{n:Nat}{K K':Goroutine→World→Prop}{g:Goroutine}{v w:World}
def Co.status(h:Co P main n K g v):(∃v',K g v')∨g.status=.running:=
 h.ind (Z:=λg v=>(∃v',K g v')∨g.status=.running) (λg v b=>.inl ⟨v,b⟩) λg v d=>.inr d.1
def Co.runs(Z:∀g v,K g v→g.status=.running)(h:Co P main n K g v):g.status=.running:=h.status.elim (λ⟨v',h⟩=>Z g v' h) id
def D6.status(h:D6 P main n pk c z Q g v):g.status=if pk then .blocked else .running:=let⟨_,h,_⟩:=h;h
def Gl.status{Q:Value→Goroutine→World→Prop}(h:Gl P main n pk c Q g v):g.status=if pk then .blocked else .running:=let⟨_,_,_,h,_⟩:=h;h
def D6.again{cap r BK}(h:D6 P main n pk c z Q g v)(hw:w.heap[c]?=some (.chan cap BK cl s r tm))(b:pk=true→cl=false):g.again w=g:=by
 obtain⟨g2,O,U,_⟩:=h;cases pk with
 |true=>
  rw[U rfl];have:=b I;subst this;exact again_recv_open hw
 |false=>exact again_running _ (.inl O)
def Gl.again{cap r BK}{Q:Value→Goroutine→World→Prop}(h:Gl P main n pk c Q g v)(hw:w.heap[c]?=some (.chan cap BK cl s r tm))(b:pk=true→cl=false):g.again w=g:=by
 obtain⟨g2,x,z,O,U,_⟩:=h;cases pk with
 |true=>
  rw[U rfl];have:=b I;subst this;exact again_send_open hw
 |false=>exact again_running _ (.inl O)
end
section
variable{P:Program}{L:Nat→Option Obj}{B:World}{sb ci co:Nat}{zi zo:Value}{room:Nat}{Post:Value→World→Prop}{x:St}{g:Goroutine}{v w:World}
def Eg.recv(h:Eg P B sb ci co zi pk l g v):∃Q,D6 P false B.heap.size pk ci zi Q g v:=by
 cases l with
 |nil=>exact⟨_,h⟩
 |cons a l=>obtain⟨c,A⟩:=a;exact⟨_,h⟩
def Gt.recv{l}(h:Gt P B co zo Post pk l g v):∃Q,D6 P true B.heap.size pk co zo Q g v:=by
 cases l<;>exact⟨_,h⟩
def xY(h:QuitsIn P k g):Conc.awake g:=λt e=>by rcases h.status with h|h<;>rw[h]at e<;>cases e
def Y4{main n}(h:D6 P main n pk c z Q g v):Conc.awake g:=λt e=>by
 rw[h.status]at e;cases pk<;>cases e
def iD{main n}{Q:Value→Goroutine→World→Prop}(h:Gl P main n pk c Q g v):Conc.awake g:=λt e=>by
 rw[h.status]at e;cases pk<;>cases e
def QV(h:g.status=.running):Conc.awake g:=λt e=>by rw[h]at e;cases e
def Ag3(h:BN P B sb ci co zi zo Post x j g v):Conc.awake g:=by
 match j,h with
 |0,h=>
  cases W:x.m<;>simp only[BN,W,G9]at h
  ·exact Y4 h.recv.choose_spec
  ·exact Y4 h
  exact QV h.1
 |1,h=>
  cases C:x.s<;>simp only[BN,C,FP]at h
  ·exact QV h.1
  ·exact Y4 h.recv.choose_spec
  ·exact QV h.1
  ·exact iD h
  ·exact QV h.1
  exact xY h
 |j+2,h=>
  cases b:x.f<;>simp only[BN,b,KI]at h
  ·rename_i pk l;cases l with
   |nil=>exact QV h.1
   |cons c l=>exact iD h
  exact xY h
def lL(hf:x.Fit room)(U:G8 sb ci co room x w)(h:BN P B sb ci co zi zo Post x j g v):g.again w=g:=by
 obtain⟨⟨r,r1,S,b⟩,⟨q,d,M⟩,_⟩:=U
 match j,h with
 |0,h=>
  cases W:x.m<;>simp only[BN,W,G9]at h
  ·rename_i pk l;exact h.recv.choose_spec.again M λe=>by subst e;exact(hf.MM l W).1
  ·exact D6.again h M λe=>by cases e
  exact Tx
 |1,h=>
  cases C:x.s<;>simp only[BN,C,FP]at h
  ·exact Tx
  ·rename_i pk l;exact h.recv.choose_spec.again b λe=>by subst e;exact(hf.N6 l C).2.1
  ·exact Tx
  ·rename_i pk A l;exact Gl.again h M λ_=>by rw[C];rfl
  ·exact Tx
  exact again_running _ h.status
 |j+2,h=>
  cases T:x.f<;>simp only[BN,T,KI]at h
  ·rename_i pk l;cases l with
   |nil=>exact again_running _ SJ
   |cons c l=>exact Gl.again h b λ_=>by rw[T];rfl
  exact again_running _ h.status
def Ads{G:Nat→Goroutine}(hf:x.Fit room)(hc:∀j,j<3→CR P B (BN P B sb ci co zi zo Post x) (DR x) j (G j) (V j)):∃i,i<3∧(G i).status=.running:=by
 by_cases W:∃l,x.m=.ask true l
 ·obtain⟨l,W⟩:=W;obtain⟨d,o⟩:=hf.MM l W;by_cases C:∃R,x.s=.recv true R
  ·obtain⟨R,C⟩:=C;obtain⟨O,e,M⟩:=hf.N6 R C;refine⟨2,C0,(hc 2 C0).1.runs λg v h=>?_⟩;cases T:x.f with
   |feed pk b=>
    simp only[BN,T,KI]at h;cases b with
    |nil=>exact h.1
    |cons c b=>
     have:pk=false:=by cases pk with|false=>rfl|true=>exact absurd T (M _)
     subst this;exact Gl.status h
   |gone k=>rw[T]at e;cases e
  refine⟨1,C0,(hc 1 C0).1.runs λg v h=>?_⟩;cases S:x.s with
  |start l=>simp only[BN,S,FP]at h;exact h.1
  |recv pk l=>
   simp only[BN,S,FP]at h;have:pk=false:=by cases pk with|false=>rfl|true=>exact absurd ⟨l,S⟩ C
   subst this;exact h.recv.choose_spec.status
  |between A l=>simp only[BN,S,FP]at h;exact h.1
  |says pk A l=>
   simp only[BN,S,FP]at h;have:pk=false:=by cases pk with|false=>rfl|true=>exact absurd S (o A l)
   subst this;exact Gl.status h
  |close=>simp only[BN,S,FP]at h;exact h.1
  |gone k=>rw[S]at d;cases d
 refine⟨0,C0,(hc 0 C0).1.runs λg v h=>?_⟩;cases J:x.m with
 |ask pk l=>
  simp only[BN,J,G9]at h;have:pk=false:=by cases pk with|false=>rfl|true=>exact absurd ⟨l,J⟩ W
  subst this;exact h.recv.choose_spec.status
 |more=>simp only[BN,J,G9]at h;exact D6.status h
 |ret=>simp only[BN,J,G9]at h;exact h.1
end
end
section
open Go Go.RowKit Go.Conc
section
variable(P:Program)(L:Nat→Option Obj)(B:World)(sb ci co:Nat)(zi zo:Value)(room:Nat)(Post:Value→World→Prop)
def FG(x:St)(w:World)(t:Trace):Prop:=G8 sb ci co room x w∧Kw ci co x t
def D3:Value→World→Prop:=λy w=>Post y w∧JS L B w
def Fb(x:St):Prop:=∀(G:Nat→Goroutine) (V:Nat→World),(∀j,j<3→CR P B (BN P B sb ci co zi zo Post x) (DR x) j (G j) (V j))→KH P (D3 L B Post) L B sb (X3 ci co) Y3 3 (FG sb ci co room x) G V
def Fu(G:Nat→Goroutine)(w:World)(t:Trace)(sl:Option (Nat×Nat))(i:Nat):Prop:=
 ∃W ops,runT P (crowd (CN G 3) w sl) i=(.next W,ops)∧Ends P Post W (t++ops)
end
section
variable{P:Program}{L:Nat→Option Obj}{B:World}{sb ci co:Nat}{zi zo:Value}{room:Nat}{Post:Value→World→Prop}{x x':St}{G G':Nat→Goroutine}{V V':Nat→World}{w w':World}{t:Trace}{sl:Option (Nat×Nat)}{i:Nat}{ops:Array MemOp}
def LL(h:Fb P L B sb ci co zi zo room Post x')(hr:runT P (crowd (CN G 3) w sl) i=(.next (crowd (CN G' 3) w' sl),ops))(hc:∀j,j<3→CR P B (BN P B sb ci co zi zo Post x') (DR x') j (G' j) (V' j))(D:Br L B sb (X3 ci co) Y3 3 V' w' (t++ops))(p:FG sb ci co room x' w' (t++ops)):Fu P (D3 L B Post) G w t sl i:=
 ⟨_,ops,hr,h G' V' hc w' _ sl D p⟩
def FB(G:Nat→Goroutine)(i g):Gh G i g i=g:=AJ I
def Dr(G:Nat→Goroutine){i}(g)(h:j≠i):Gh G i g j=G j:=AF h
def i4{s'}(h:j≠1):BN P B sb ci co zi zo Post {x with s:=s'} j=BN P B sb ci co zi zo Post x j:=by
 match j,h with
 |0,_=>rfl
 |1,h=>exact absurd I h
 |j+2,_=>rfl
def l5{o:Goroutine→World→Prop}{s':Dc}(D:Br L B sb (X3 ci co) Y3 3 V w t)(hJ:FG sb ci co room x w t)(hf:x.Fit room)(hc:∀j,j<3→CR P B (BN P B sb ci co zi zo Post x) (DR x) j (G j) (V j))(J:KG P false B.heap.size sb co o (G 1) (V 1))(r:x.s.BW=false)(d:x.s.fixed=false)(T:s'.BW=false)(b:s'.fixed=false)(p:s'≠ .close)(Z:∀g v,o g v→Co P false B.heap.size (FP P B sb ci co zi s') g v)(h:Fb P L B sb ci co zi zo room Post {x with s:=s'}):Fu P (D3 L B Post) G w t sl 1:=by
 obtain⟨g',es,O,U,M⟩:=J.2 w (D.CD 1 C0) hJ.1.Hn;have q:=runT_crowd_go (sl:=sl) (Dt (G:=G) (N:=3) (i:=1) C0) O;rw[OD λj hj hne=>?_]at q
 ·refine LL (V':=V) h q (λj hj=>?_) (D.xA (.inr I) U _ _) ⟨⟨hJ.1.DN,?_,hJ.1.Hn⟩,?_⟩
  ·by_cases e:j=1
   ·subst e;rw[FB];refine⟨Z _ _ M,λhd=>?_⟩;obtain⟨hd,_⟩|⟨_,hd⟩|⟨hd,_⟩:=hd
    ·cases hd
    ·rw[b]at hd;cases hd
    cases hd
   rw[Dr G g' e];exact lM
  ·obtain⟨s,m,e⟩:=hJ.1.GG;exact⟨s,m,by rw[e,r];simp only[T]⟩
  have R:=hJ.2.app (room:=room) (i:=1) (u:=MemOp.ofEvents 1 (G 1).frame.fn (G 1).frame.place es) hf C0 (λop S=>by rw[ofEvents_eq]at S;obtain⟨e,_,rfl⟩:=EA.1 S;rfl) (λhd=>by
   obtain⟨hd,_⟩|⟨_,hd⟩|⟨hd,_⟩:=hd
   ·cases hd
   ·rw[d]at hd;cases hd
   cases hd)
  exact⟨R.f,(λe=>by rw[T]at e;cases e),(λe=>e.elim (λe=>absurd e p) λe=>by rw[T]at e;cases e),R.m,R.three⟩
 exact YU
def J0.new{g}{op:MemOp}(h:∀o∈u,o.g=g)(q:u.size=2)(h1:u[1]?=some op)(h2:op.act=.close c):J0 (t++u) g c:=by
 refine⟨t.size+1,op,?_,h op (Ak7 h1),h2,λi o M _=>?_⟩
 ·rw[Aiq C0];simpa using h1
 have:=lt_size_of_getElem? M;rw[Array.size_append,q]at this;omega
def W9{n main g v}(h:D6 P main n pk c z Q g v):D6 P main n false c z Q {g with status:=.running} v:=by
 obtain⟨g2,_,_,C,M,F⟩:=h;exact⟨g2,I,(λe=>by cases e),C,M,F⟩
def Adv(hS:Br L B sb (X3 ci co) Y3 3 V w t)(hJ:FG sb ci co room x w t)(hf:x.Fit room)(hx:x.s=.gone k)(hc:∀j,j<3→CR P B (BN P B sb ci co zi zo Post x) (DR x) j (G j) (V j))(hr:(G 1).status=.running)(h:∀k',k=k'+1→Fb P L B sb ci co zi zo room Post {x with s:=.gone k'}):Fu P (D3 L B Post) G w t sl 1:=by
 have b:QuitsIn P k (G 1):=by
  have:=(hc 1 C0).2 (.inr (.inl ⟨I,Cm⟩));simpa only[BN,hx,FP]using this
 cases k with
 |zero=>rw[show(G 1).status=.finished from b]at hr;cases hr
 |succ k=>
  obtain b|⟨_,d,o,b⟩:=b
  ·rw[b]at hr;cases hr
  have q:=runT_crowd_go (sl:=sl) (Dt (G:=G) (N:=3) (i:=1) C0) (o w);rw[OD λj hj hne=>?_]at q
  ·refine LL (V':=V) (h k I) q (λj hj=>?_) dT ⟨⟨hJ.1.DN,?_,hJ.1.Hn⟩,?_⟩
   ·by_cases e:j=1
    ·subst e;rw[FB];exact⟨.stop b,λ_=>b⟩
    rw[Dr G d e];exact lM
   ·obtain⟨s,m,e⟩:=hJ.1.GG;exact⟨s,m,by rw[e,hx];rfl⟩
   rw[ofEvents_none,Ak6];have R:=hJ.2;exact⟨R.f,(λ_=>R.s Cm),(λ_=>R.fs (.inr Cm)),R.m,R.three⟩
  exact YU
def qO{d}(h:j≤1):BN P B sb ci co zi zo Post {x with f:=d} j=BN P B sb ci co zi zo Post x j:=by
 match j,h with
 |0,_=>rfl
 |1,_=>rfl
 |j+2,h=>omega
def xp(hS:Br L B sb (X3 ci co) Y3 3 V w t)(hJ:FG sb ci co room x w t)(hf:x.Fit room)(hx:x.f=.gone k)(hc:∀j,j<3→CR P B (BN P B sb ci co zi zo Post x) (DR x) j (G j) (V j))(hr:(G 2).status=.running)(h:∀k',k=k'+1→Fb P L B sb ci co zi zo room Post {x with f:=.gone k'}):Fu P (D3 L B Post) G w t sl 2:=by
 have b:QuitsIn P k (G 2):=by
  have:=(hc 2 C0).2 (.inr (.inr ⟨I,Cm⟩));simpa only[BN,hx,KI]using this
 cases k with
 |zero=>rw[show(G 2).status=.finished from b]at hr;cases hr
 |succ k=>
  obtain b|⟨_,d,o,b⟩:=b
  ·rw[b]at hr;cases hr
  have q:=runT_crowd_go (sl:=sl) (Dt (G:=G) (N:=3) (i:=2) C0) (o w);rw[OD λj hj hne=>?_]at q
  ·refine LL (V':=V) (h k I) q (λj hj=>?_) dT ⟨⟨?_,hJ.1.GG,hJ.1.Hn⟩,?_⟩
   ·by_cases e:j=2
    ·subst e;rw[FB];exact⟨.stop b,λ_=>b⟩
    rw[Dr G d e];have:=hc j hj;refine⟨by rw[qO C0];exact this.1,λZ=>?_⟩;rw[qO C0];refine this.2 ?_;obtain Z|Z|⟨Z,_⟩:=Z
    ·exact .inl Z
    ·exact .inr (.inl Z)
    exact absurd Z e
   ·obtain⟨s,r,m,e⟩:=hJ.1.DN;exact⟨s,r,m,by rw[e,hx];rfl⟩
   rw[ofEvents_none,Ak6];have R:=hJ.2;exact⟨(λ_=>R.f Cm),R.s,R.fs,R.m,R.three⟩
  exact YU
def xS{N}{f:Goroutine→Goroutine}:((CN G N).map f).setIfInBounds i g'=CN (λj=>if j=i then g' else f (G j)) N:=by
 apply Aj6;intro j;rw[Aj3];by_cases F:j<N
 ·rw[Dt F];by_cases e:i=j
  ·subst e;simp[MP,F]
  rw[AF e,Akx,Dt F,AF (Ne.symm e)];rfl
 have h1:(CN (λj=>if j=i then g' else f (G j)) N)[j]?=none:=n3 SF;exact bJ
def Dc.Gf:Dc→Dc| .recv _ l=>.recv false l|s=>s
def kw(s:Dc):s.Gf.left=s.left:=by cases s<;>rfl
def og(s:Dc):s.Gf.MV=s.MV:=by cases s<;>rfl
def Ps(s:Dc):s.Gf.BW=s.BW:=by cases s<;>rfl
end
end
section
open Go Go.RowKit Go.Conc
section
variable{P:Program}{L:Nat→Option Obj}{B:World}{sb ci co:Nat}{zi zo:Value}{room:Nat}{Post:Value→World→Prop}{x:St}{G:Nat→Goroutine}{V:Nat→World}{w:World}{t:Trace}{sl:Option (Nat×Nat)}
def pb{g v}(h:Eg P B sb ci co zi pk l g v):Eg P B sb ci co zi false l {g with status:=.running} v:=by
 cases l with
 |nil=>exact W9 h
 |cons a l=>obtain⟨c,A⟩:=a;exact W9 h
def uq(hne:ci≠co)(D:Br L B sb (X3 ci co) Y3 3 V w t)(p:FG sb ci co room x w t)(hf:x.Fit room)(hx:x.f=.feed false [])(hc:∀j,j<3→CR P B (BN P B sb ci co zi zo Post x) (DR x) j (G j) (V j))(J:KX P false B.heap.size ci (G 2) (V 2))(h:∀k,Fb P L B sb ci co zi zo room Post {x with f:=.gone k,s:=x.s.Gf}):Fu P (D3 L B Post) G w t sl 2:=by
 obtain⟨hr,hmw,J⟩:=J;obtain⟨s,r,tm,e1⟩:=p.1.DN;rw[hx]at e1;obtain⟨g',O,U,k,M⟩:=J w room x.BK.toArray s r tm (D.CD 2 C0) e1;have q:=runT_crowd_go (sl:=sl) (Dt (G:=G) (N:=3) (i:=2) C0) O;rw[xS]at q;have W:E8 ci w (w.setChan ci room x.BK.toArray true s r tm):=E8.set e1;have T:(w.setChan ci room x.BK.toArray true s r tm).heap[ci]?=some (.chan room x.BK.toArray true s r tm):=by
  exact tZ
 obtain⟨s2,R,e2⟩:=p.1.GG;have b:(w.setChan ci room x.BK.toArray true s r tm).heap[co]?=some (.chan 0 #[] x.s.BW s2 s2 R):=(W.other co (Ne.symm hne)).trans e2;have Z:∀o,woken P (G 2) g' (w.setChan ci room x.BK.toArray true s r tm) o=o.again (w.setChan ci room x.BK.toArray true s r tm):=λo=>by
  unfold woken;rw[AJ (by rw[hmw,U];rfl)]
 have e0:(G 0).again (w.setChan ci room x.BK.toArray true s r tm)=G 0:=by
  obtain⟨v',h5⟩|h5:=(hc 0 C0).1.status
  ·cases hm:x.m with
   |ask pk l=>
    simp only[BN,hm,G9]at h5;exact h5.recv.choose_spec.again b λe=>by subst e;exact(hf.MM l hm).1
   |more=>simp only[BN,hm,G9]at h5;exact D6.again h5 b λe=>by cases e
   |ret=>simp only[BN,hm,G9]at h5;exact again_running _ (.inl h5.1)
  exact OE
 have eS:CR P B (BN P B sb ci co zi zo Post {x with f:=.gone k,s:=x.s.Gf}) (DR {x with f:=.gone k,s:=x.s.Gf}) 1 ((G 1).again (w.setChan ci room x.BK.toArray true s r tm)) (V 1):=by
  have S:=hc 1 C0;by_cases F:∃l,x.s=.recv true l
  ·obtain⟨l,hs⟩:=F;have h5:=S.2 (.inr (.inl ⟨I,Ct⟩));simp only[BN,hs,FP]at h5;obtain⟨g2,q1,d,_⟩:=h5.recv.choose_spec;have hag:(G 1).again (w.setChan ci room x.BK.toArray true s r tm)={G 1 with status:=.running}:=by
    rw[d rfl];exact again_recv_closed T
   rw[hag];have h6:=pb h5;refine⟨.stop (by simp only[BN,hs,Dc.Gf,FP];exact h6),λhd=>by simp only[BN,hs,Dc.Gf,FP];exact h6⟩
  have hwo:x.s.Gf=x.s:=by
   cases hs:x.s with
   |recv pk l=>cases pk with|false=>rfl|true=>exact absurd ⟨l,hs⟩ F
   |_=>rfl
  have hag:(G 1).again (w.setChan ci room x.BK.toArray true s r tm)=G 1:=by
   obtain⟨v',h5⟩|h5:=S.1.status
   ·cases hs:x.s<;>simp only[BN,hs,FP]at h5
    ·exact Sb
    ·rename_i pk l;refine h5.recv.choose_spec.again T λe=>?_;subst e;exact absurd ⟨l,hs⟩ F
    ·exact Sb
    ·exact Gl.again h5 b λ_=>by rw[hs];rfl
    ·exact Sb
    exact again_running _ h5.status
   exact OE
  rw[hag,hwo];exact⟨S.1,λhd=>S.2 (by rcases hd with⟨hd,_⟩|hd|⟨hd,_⟩;cases hd;exact .inr (.inl hd);cases hd)⟩
 refine LL (V':=V) (h k) q (λj hj=>?_) (D.close OQ W _ _) ⟨⟨⟨s,r,tm,T⟩,⟨s2,R,by rw[b];simp only[Ps]⟩,?_⟩,?_⟩
 ·match j,hj with
  |0,_=>
   simp only[show ¬(0:Nat)=2 by omega,if_false,Z,e0];have C:=hc 0 C0;exact⟨C.1,λhd=>C.2 gI⟩
  |1,_=>simp only[show ¬(1:Nat)=2 by omega,if_false,Z];exact eS
  |2,_=>simp only[if_true];exact⟨.stop M,λ_=>M⟩
 ·have hb:=p.1.Hn;have hsb:sb≠ci:=λe=>by
   exact wS
  unfold World.cell? at hb⊢;rw[W.other _ hsb];exact hb
 have hT:=p.2;have hops:∀op∈MemOp.ofEvents 2 (G 2).frame.fn (G 2).frame.place #[⟨.obj ci,false,true⟩,⟨.obj ci,true,true⟩],op.g=2:=λop hop=>by
  exact Uy
 have hng:¬(x.s=.close∨x.s.BW=true):=λe=>by have:=hf.Ke e;rw[hx]at this;cases this
 refine⟨λ_=>J0.new (op:={g:=2,fn:=(G 2).frame.fn,pos:=(G 2).frame.place,act:=.close ci}) hops (by rw[ofEvents_eq];simp) gN I,λe=>?_,λe=>?_,λe=>?_,λop hop=>?_⟩
 ·exact(hng (.inr (by rw[←Ps];exact e))).elim
 ·refine(hng ?_).elim;obtain e|e:=e
  ·left;cases hs:x.s<;>rw[hs]at e<;>first|rfl|cases e
  right;rw[←Ps];exact e
 ·exact(hng (.inr (hf.last e))).elim
 exact yA
def G5.Gf:G5→G5| .ask _ l=>.ask false l|s=>s
def gp{l g v}(h:Gt P B co zo Post pk l g v):Gt P B co zo Post false l {g with status:=.running} v:=by
 cases l<;>exact W9 h
def Y! (hne:ci≠co)(D:Br L B sb (X3 ci co) Y3 3 V w t)(p:FG sb ci co room x w t)(hf:x.Fit room)(hx:x.s=.close)(hc:∀j,j<3→CR P B (BN P B sb ci co zi zo Post x) (DR x) j (G j) (V j))(J:KX P false B.heap.size co (G 1) (V 1))(h:∀k,Fb P L B sb ci co zi zo room Post {x with s:=.gone k,m:=x.m.Gf}):Fu P (D3 L B Post) G w t sl 1:=by
 obtain⟨hr,hmw,J⟩:=J;obtain⟨s,tm,e1⟩:=p.1.GG;rw[hx]at e1;obtain⟨g',O,U,k,M⟩:=J w 0 #[] s s tm (D.CD 1 C0) e1;have q:=runT_crowd_go (sl:=sl) (Dt (G:=G) (N:=3) (i:=1) C0) O;rw[xS]at q;have hcs:E8 co w (w.setChan co 0 #[] true s s tm):=E8.set e1;have b:(w.setChan co 0 #[] true s s tm).heap[co]?=some (.chan 0 #[] true s s tm):=by
  exact tZ
 obtain⟨s2,r2,R,e2⟩:=p.1.DN;have T:(w.setChan co 0 #[] true s s tm).heap[ci]?=some (.chan room x.BK.toArray x.f.BW s2 r2 R):=(hcs.other ci hne).trans e2;have r:x.f.BW=true:=hf.Ke (.inl hx);have Z:∀o,woken P (G 1) g' (w.setChan co 0 #[] true s s tm) o=o.again (w.setChan co 0 #[] true s s tm):=λo=>by
  unfold woken;rw[AJ (by rw[hmw,U];rfl)]
 have e0:(G 2).again (w.setChan co 0 #[] true s s tm)=G 2:=by
  have h5:=(hc 2 C0).2 (.inr (.inr ⟨I,FN.O9 r⟩));cases hff:x.f with
  |feed pk l=>rw[hff]at r;cases r
  |gone k=>simp only[BN,hff,KI]at h5;exact again_running _ h5.status
 have eM:CR P B (BN P B sb ci co zi zo Post {x with s:=.gone k,m:=x.m.Gf}) (DR {x with s:=.gone k,m:=x.m.Gf}) 0 ((G 0).again (w.setChan co 0 #[] true s s tm)) (V 0):=by
  have C:=hc 0 C0;by_cases F:∃l,x.m=.ask true l
  ·obtain⟨l,W⟩:=F;have h5:=C.2 (.inl ⟨I,by rw[W];rfl⟩);simp only[BN,W,G9]at h5;obtain⟨g2,q1,d,_⟩:=h5.recv.choose_spec;have hag:(G 0).again (w.setChan co 0 #[] true s s tm)={G 0 with status:=.running}:=by
    rw[d rfl];exact again_recv_closed b
   rw[hag];have h6:=gp h5;refine⟨.stop (by simp only[BN,W,G5.Gf,G9];exact h6),λhd=>by simp only[BN,W,G5.Gf,G9];exact h6⟩
  have hwo:x.m.Gf=x.m:=by
   cases W:x.m with
   |ask pk l=>cases pk with|false=>rfl|true=>exact absurd ⟨l,W⟩ F
   |_=>rfl
  have hag:(G 0).again (w.setChan co 0 #[] true s s tm)=G 0:=by
   obtain⟨v',h5⟩|h5:=C.1.status
   ·cases W:x.m<;>simp only[BN,W,G9]at h5
    ·rename_i pk l;refine h5.recv.choose_spec.again b λe=>?_;subst e;exact absurd ⟨l,W⟩ F
    ·exact D6.again h5 b λe=>by cases e
    exact Sb
   exact OE
  rw[hag,hwo];exact⟨C.1,λhd=>C.2 gI⟩
 refine LL (V':=V) (h k) q (λj hj=>?_) (D.close Nj hcs _ _) ⟨⟨⟨s2,r2,R,T⟩,⟨s,tm,b⟩,?_⟩,?_⟩
 ·match j,hj with
  |0,_=>simp only[show ¬(0:Nat)=1 by omega,if_false,Z];exact eM
  |1,_=>simp only[if_true];exact⟨.stop M,λ_=>M⟩
  |2,_=>
   simp only[show ¬(2:Nat)=1 by omega,if_false,Z,e0];have hc2:=hc 2 C0;exact⟨hc2.1,λhd=>hc2.2 (by rcases hd with⟨hd,_⟩|⟨hd,_⟩|hd;cases hd;cases hd;exact .inr (.inr hd))⟩
 ·have hb:=p.1.Hn;have hsb:sb≠co:=λe=>by
   exact wS
  unfold World.cell? at hb⊢;rw[hcs.other _ hsb];exact hb
 have hT:=p.2;have hops:∀op∈MemOp.ofEvents 1 (G 1).frame.fn (G 1).frame.place #[⟨.obj co,false,true⟩,⟨.obj co,true,true⟩],op.g=1:=λop hop=>by
  exact Uy
 refine⟨λe=>(hT.f e).app λop hop=>by rw[hops op hop];omega,λ_=>J0.new (op:={g:=1,fn:=(G 1).frame.fn,pos:=(G 1).frame.place,act:=.close co}) hops (by rw[ofEvents_eq];simp) gN I,λ_=>(hT.fs (.inl hx)).app λop hop S=>(by rw[hops op hop]at S;omega),λe=>?_,λop hop=>?_⟩
 ·have:x.s.BW=true:=hf.last λpk l W=>e false l (by simp only[W,G5.Gf]);rw[hx]at this;cases this
 exact yA
end
end
section
open Go Go.RowKit Go.Conc
def Hj{G:Nat→Goroutine}{N g}:(CN G N).setIfInBounds i g=CN (Gh G i g) N:=by
 have:=OD (G:=G) (N:=N) (i:=i) (g:=g) (f:=id) λ_ _ _=>rfl;rwa[Array.map_id]at this
section
variable{P:Program}{L:Nat→Option Obj}{B:World}{sb ci co:Nat}{zi zo:Value}{room:Nat}{Post:Value→World→Prop}{x x':St}{G G':Nat→Goroutine}{V V':Nat→World}{w w' v:World}{t u:Trace}{sl:Option (Nat×Nat)}{i j:Nat}{ops:Array MemOp}{g:Goroutine}
def Me:DR x 0↔x.m.fixed=true:=by simp[DR]
def Ko:DR x 1↔x.s.fixed=true:=by simp[DR]
def Mi:DR x 2↔x.f.fixed=true:=by simp[DR]
def Nl(h:CR P B (BN P B sb ci co zi zo Post x) (DR x) 0 g v)(e:x'.m=x.m):CR P B (BN P B sb ci co zi zo Post x') (DR x') 0 g v:=by
 have e1:BN P B sb ci co zi zo Post x' 0=BN P B sb ci co zi zo Post x 0:=by simp only[BN,e]
 exact⟨Zk,λZ=>by rw[e1];exact h.2 (Me.2 (e▸Me.1 Z))⟩
def Q4(h:CR P B (BN P B sb ci co zi zo Post x) (DR x) 1 g v)(e:x'.s=x.s):CR P B (BN P B sb ci co zi zo Post x') (DR x') 1 g v:=by
 have e1:BN P B sb ci co zi zo Post x' 1=BN P B sb ci co zi zo Post x 1:=by simp only[BN,e]
 exact⟨Zk,λZ=>by rw[e1];exact h.2 (Ko.2 (e▸Ko.1 Z))⟩
def Mh(h:CR P B (BN P B sb ci co zi zo Post x) (DR x) 2 g v)(e:x'.f=x.f):CR P B (BN P B sb ci co zi zo Post x') (DR x') 2 g v:=by
 have e1:BN P B sb ci co zi zo Post x' 2=BN P B sb ci co zi zo Post x 2:=by simp only[BN,e]
 exact⟨Zk,λZ=>by rw[e1];exact h.2 (Mi.2 (e▸Mi.1 Z))⟩
def three{p:Nat→Prop}(h0:p 0)(h1:p 1)(h2:p 2):∀j,j<3→p j:=λj F=>match j,F with|0,_=>h0|1,_=>h1|2,_=>h2
def Kw.to(h:Kw ci co x t)(hf:x'.f.BW=x.f.BW)(C:x'.s.BW=x.s.BW)(J:x'.s=.close∨x'.s.BW=true→K1 t 2 1)(hm:(∀pk l,x'.m≠ .ask pk l)→K1 t 1 0∧K1 t 2 0):Kw ci co x' t:=
 ⟨λe=>h.f (hf▸e),λe=>h.s (C▸e),J,hm,h.three⟩
def G8.Mw{d r s' U}(hne:ci≠co)(h:G8 sb ci co room x w)(e:w.heap[ci]?=some (.chan room d cl s r tm))(C:x'.s.BW=x.s.BW):
  G8 sb ci co room x' (w.setChan ci room x'.BK.toArray x'.f.BW s' U tm):=by
 have hc:E8 ci w (w.setChan ci room x'.BK.toArray x'.f.BW s' U tm):=E8.set e;obtain⟨q,R,M⟩:=h.GG;refine⟨⟨s',U,tm,?_⟩,⟨q,R,by rw[hc.other co (Ne.symm hne),M,C]⟩,?_⟩
 ·exact aE
 have hb:=h.Hn;have b:sb≠ci:=λe'=>by
  exact vS
 unfold World.cell? at hb⊢;rw[hc.other _ b];exact hb
def G8.xE{s'}(hne:ci≠co)(h:G8 sb ci co room x w)(e:w.heap[co]?=some (.chan 0 #[] cl s s tm))(hb:x'.BK=x.BK)(hf:x'.f.BW=x.f.BW):
  G8 sb ci co room x' (w.setChan co 0 #[] x'.s.BW s' s' tm):=by
 have hc:E8 co w (w.setChan co 0 #[] x'.s.BW s' s' tm):=E8.set e;obtain⟨q,r2,R,M⟩:=h.DN;refine⟨⟨q,r2,R,by rw[hc.other ci hne,M,hb,hf]⟩,⟨s',tm,?_⟩,?_⟩
 ·exact aE
 have hb:=h.Hn;have b:sb≠co:=λe'=>by
  exact vS
 unfold World.cell? at hb⊢;rw[hc.other _ b];exact hb
def G8.to(h:G8 sb ci co room x w)(hb:x'.BK=x.BK)(hf:x'.f.BW=x.f.BW)(C:x'.s.BW=x.s.BW):G8 sb ci co room x' w:=
 ⟨by rw[hb,hf];exact h.DN,by rw[C];exact h.GG,h.Hn⟩
def M7(h:CR P B (BN P B sb ci co zi zo Post x) (DR x) j g v):g.status≠ .blocked∨(j=0∧∃g2 l,x.m=.ask true l∧g=parked g2 #[rcase co zo] (.recv true))∨(j=1∧∃g2 l,x.s=.recv true l∧g=parked g2 #[rcase ci zi] (.recv true))∨
  (j=1∧∃g2 y z A l,x.s=.says true A l∧g=parked g2 #[scase co y z] .send)∨(2≤j∧∃g2 y z l,x.f=.feed true l∧g=parked g2 #[scase ci y z] .send):=by
 obtain⟨v',h⟩|h:=h.1.status
 ·match j,h with
  |0,h=>
   cases W:x.m<;>simp only[BN,W,G9]at h
   ·rename_i pk l;obtain⟨g2,C,M,_⟩:=h.recv.choose_spec;cases pk with
    |true=>exact .inr (.inl ⟨I,g2,l,I,M I⟩)
    |false=>left;rw[C];simp
   ·obtain⟨g2,C,_⟩:=h;left;rw[C];simp
   left;rw[h.1];simp
  |1,h=>
   cases b:x.s<;>simp only[BN,b,FP]at h
   ·left;rw[h.1];simp
   ·rename_i pk l;obtain⟨g2,C,M,_⟩:=h.recv.choose_spec;cases pk with
    |true=>exact .inr (.inr (.inl ⟨I,g2,l,I,M I⟩))
    |false=>left;rw[C];simp
   ·left;rw[h.1];simp
   ·rename_i pk A l;obtain⟨g2,y,z,C,M,_⟩:=h;cases pk with
    |true=>exact .inr (.inr (.inr (.inl ⟨I,g2,y,z,A,l,I,M I⟩)))
    |false=>left;rw[C];simp
   ·left;rw[h.1];simp
   left;rcases h.status with h|h<;>rw[h]<;>simp
  |j+2,h=>
   cases d:x.f<;>simp only[BN,d,KI]at h
   ·rename_i pk l;cases l with
    |nil=>left;rw[h.1];simp
    |cons c l=>
     obtain⟨g2,y,z,C,M,_⟩:=h;cases pk with
     |true=>exact .inr (.inr (.inr (.inr ⟨C0,g2,y,z,_,I,M I⟩)))
     |false=>left;rw[C];simp
   left;rcases h.status with h|h<;>rw[h]<;>simp
 left;rw[h];simp
section
variable(hne:ci≠co)(hc:∀j,j<3→CR P B (BN P B sb ci co zi zo Post x) (DR x) j (G j) (V j))
 include hne hc
def WV(i)(h:∀A l,x.s≠ .says true A l):partners ((CN G 3).setIfInBounds i ph) co true=[]:=by
 refine partners_nil λj g F=>?_;obtain⟨_,rfl⟩|⟨_,F⟩:=getElem?_stand _ _ _ _ F
 ·rfl
 obtain⟨b,rfl⟩:=I1 F;obtain h1|⟨_,g2,l,_,e⟩|⟨_,g2,l,_,e⟩|⟨_,g2,y,z,A,l,C,e⟩|⟨_,g2,y,z,l,_,e⟩:=M7 (hc j b)
 ·exact NA
 ·rw[e,offersAt_parked_recv']
 ·rw[e,offersAt_parked_recv']
 ·exact absurd C (h A l)
 rw[e,offersAt_parked_send,AF hne]
def Acg(i)(h:∀l,x.m≠ .ask true l):partners ((CN G 3).setIfInBounds i ph) co false=[]:=by
 refine partners_nil λj g F=>?_;obtain⟨_,rfl⟩|⟨_,F⟩:=getElem?_stand _ _ _ _ F
 ·rfl
 obtain⟨b,rfl⟩:=I1 F;obtain h1|⟨_,g2,l,C,e⟩|⟨_,g2,l,_,e⟩|⟨_,g2,y,z,A,l,C,e⟩|⟨_,g2,y,z,l,_,e⟩:=M7 (hc j b)
 ·exact NA
 ·exact absurd C (h l)
 ·rw[e,offersAt_parked_recv,AF hne]
 ·rw[e,offersAt_parked_send']
 rw[e,offersAt_parked_send']
def ZL(i)(h:∀l,x.f≠ .feed true l):partners ((CN G 3).setIfInBounds i ph) ci true=[]:=by
 refine partners_nil λj g F=>?_;obtain⟨_,rfl⟩|⟨_,F⟩:=getElem?_stand _ _ _ _ F
 ·rfl
 obtain⟨b,rfl⟩:=I1 F;obtain h1|⟨_,g2,l,C,e⟩|⟨_,g2,l,_,e⟩|⟨_,g2,y,z,A,l,C,e⟩|⟨_,g2,y,z,l,C,e⟩:=M7 (hc j b)
 ·exact NA
 ·rw[e,offersAt_parked_recv']
 ·rw[e,offersAt_parked_recv']
 ·rw[e,offersAt_parked_send,AF (Ne.symm hne)]
 exact absurd C (h l)
def d8(i)(h:∀l,x.s≠ .recv true l):partners ((CN G 3).setIfInBounds i ph) ci false=[]:=by
 refine partners_nil λj g F=>?_;obtain⟨_,rfl⟩|⟨_,F⟩:=getElem?_stand _ _ _ _ F
 ·rfl
 obtain⟨b,rfl⟩:=I1 F;obtain h1|⟨_,g2,l,C,e⟩|⟨_,g2,l,C,e⟩|⟨_,g2,y,z,A,l,C,e⟩|⟨_,g2,y,z,l,C,e⟩:=M7 (hc j b)
 ·exact NA
 ·rw[e,offersAt_parked_recv,AF (Ne.symm hne)]
 ·exact absurd C (h l)
 ·rw[e,offersAt_parked_send']
 rw[e,offersAt_parked_send']
def mv{y i}(hi:i≠1)(e:G 1=parked g2 #[scase co y z] .send):partners ((CN G 3).setIfInBounds i ph) co true=[(1,0)]:=by
 rw[partners_one (j:=1) (g:=G 1) (stand_get (Ne.symm hi) (Dt C0)) λk g Z S=>?_,e,offersAt_parked_send,AJ rfl];rfl;obtain⟨_,rfl⟩|⟨_,F⟩:=getElem?_stand _ _ _ _ S
 ·rfl
 obtain⟨b,rfl⟩:=I1 F;obtain h1|⟨_,g2,l,C,e⟩|⟨_,g2,l,C,e⟩|⟨J,g2,y,z,A,l,C,e⟩|⟨_,g2,y,z,l,C,e⟩:=M7 (hc k b)
 ·exact NA
 ·rw[e,offersAt_parked_recv']
 ·rw[e,offersAt_parked_recv']
 ·exact absurd J Z
 rw[e,offersAt_parked_send,AF hne]
def Afu{i}(hi:i≠0)(e:G 0=parked g2 #[rcase co z] (.recv true)):partners ((CN G 3).setIfInBounds i ph) co false=[(0,0)]:=by
 rw[partners_one (j:=0) (g:=G 0) (stand_get (Ne.symm hi) (Dt C0)) λk g Z S=>?_,e,offersAt_parked_recv,AJ rfl];rfl;obtain⟨_,rfl⟩|⟨_,F⟩:=getElem?_stand _ _ _ _ S
 ·rfl
 obtain⟨b,rfl⟩:=I1 F;obtain h1|⟨J,g2,l,C,e⟩|⟨_,g2,l,C,e⟩|⟨_,g2,y,z,A,l,C,e⟩|⟨_,g2,y,z,l,C,e⟩:=M7 (hc k b)
 ·exact NA
 ·exact absurd J Z
 ·rw[e,offersAt_parked_recv,AF hne]
 ·rw[e,offersAt_parked_send']
 rw[e,offersAt_parked_send']
def sQ{y i}(hi:i≠2)(e:G 2=parked g2 #[scase ci y z] .send):partners ((CN G 3).setIfInBounds i ph) ci true=[(2,0)]:=by
 rw[partners_one (j:=2) (g:=G 2) (stand_get (Ne.symm hi) (Dt C0)) λk g Z S=>?_,e,offersAt_parked_send,AJ rfl];rfl;obtain⟨_,rfl⟩|⟨_,F⟩:=getElem?_stand _ _ _ _ S
 ·rfl
 obtain⟨b,rfl⟩:=I1 F;obtain h1|⟨_,g2,l,C,e⟩|⟨_,g2,l,C,e⟩|⟨_,g2,y,z,A,l,C,e⟩|⟨J,g2,y,z,l,C,e⟩:=M7 (hc k b)
 ·exact NA
 ·rw[e,offersAt_parked_recv']
 ·rw[e,offersAt_parked_recv']
 ·rw[e,offersAt_parked_send,AF (Ne.symm hne)]
 omega
def al{i}(hi:i≠1)(e:G 1=parked g2 #[rcase ci z] (.recv true)):partners ((CN G 3).setIfInBounds i ph) ci false=[(1,0)]:=by
 rw[partners_one (j:=1) (g:=G 1) (stand_get (Ne.symm hi) (Dt C0)) λk g Z S=>?_,e,offersAt_parked_recv,AJ rfl];rfl;obtain⟨_,rfl⟩|⟨_,F⟩:=getElem?_stand _ _ _ _ S
 ·rfl
 obtain⟨b,rfl⟩:=I1 F;obtain h1|⟨_,g2,l,C,e⟩|⟨J,g2,l,C,e⟩|⟨_,g2,y,z,A,l,C,e⟩|⟨_,g2,y,z,l,C,e⟩:=M7 (hc k b)
 ·exact NA
 ·rw[e,offersAt_parked_recv,AF (Ne.symm hne)]
 ·exact absurd J Z
 ·rw[e,offersAt_parked_send']
 rw[e,offersAt_parked_send']
end
end
end
section
open Go Go.RowKit Go.Conc
def tU{g:Goroutine}(h:g.status=.running):{g with status:=.running}=g:=by
 obtain⟨f,c,s,d,o⟩:=g;simp only at h;subst h;rfl
section
variable{P:Program}{main:Bool}{n:Nat}{g g2:Goroutine}{v w:World}{c:Nat}{z x:Value}
def D6.Jc{K:Bool→Value→Goroutine→World→Prop}(h:D6 P main n false c z K g v):∃g2,g.status=.running∧(∀w,B5 n v w→stepG P main g w=.comm g2 #[rcase c z] true (.recv true) w #[])∧
  (∀q x,K q x (Conc.served g2 (Conc.recvd true x q)) v)∧D6 P main n true c z K (parked g2 #[rcase c z] (.recv true)) v:=by
 obtain⟨g2,O,_,⟨U,d,R⟩,M,F⟩:=h;refine⟨g2,O,λw b=>by have:=M w b;rwa[tU O]at this,F,g2,I,λ_=>rfl,RV,λw b=>?_,F⟩;rw[←M w b];exact stepG_same U.symm d.symm R.symm w
def Gl.Jc{K:Value→Goroutine→World→Prop}(h:Gl P main n false c K g v):∃g2 x z,g.status=.running∧(∀w,B5 n v w→stepG P main g w=.comm g2 #[scase c x z] true .send w #[])∧
  K x (Conc.served g2 undef) v∧Gl P main n true c K (parked g2 #[scase c x z] .send) v:=by
 obtain⟨g2,x,z,O,_,⟨U,d,R⟩,M,F⟩:=h;refine⟨g2,x,z,O,λw b=>by have:=M w b;rwa[tU O]at this,F,g2,x,z,I,λ_=>rfl,RV,λw b=>?_,F⟩;rw[←M w b];exact stepG_same U.symm d.symm R.symm w
end
section
variable{P:Program}{L:Nat→Option Obj}{B:World}{sb ci co:Nat}{zi zo:Value}{room:Nat}{Post:Value→World→Prop}{x x':St}{G G':Nat→Goroutine}{V V':Nat→World}{w w' v:World}{t u:Trace}{sl:Option (Nat×Nat)}{i j:Nat}{ops:Array MemOp}{g:Goroutine}
def Ag2{l}(h:Gt P B co zo Post false l g v):∃g2,g.status=.running∧(∀w,B5 B.heap.size v w→stepG P true g w=.comm g2 #[rcase co zo] true (.recv true) w #[])∧Gt P B co zo Post true l (parked g2 #[rcase co zo] (.recv true)) v:=by
 cases l with
 |nil=>obtain⟨g2,O,U,_,F⟩:=D6.Jc h;exact⟨g2,O,U,F⟩
 |cons A l=>obtain⟨g2,O,U,_,F⟩:=D6.Jc h;exact⟨g2,O,U,F⟩
def sE(h:Eg P B sb ci co zi false l g v):∃g2,g.status=.running∧(∀w,B5 B.heap.size v w→stepG P false g w=.comm g2 #[rcase ci zi] true (.recv true) w #[])∧Eg P B sb ci co zi true l (parked g2 #[rcase ci zi] (.recv true)) v:=by
 cases l with
 |nil=>obtain⟨g2,O,U,_,F⟩:=D6.Jc h;exact⟨g2,O,U,F⟩
 |cons A l=>obtain⟨c,A⟩:=A;obtain⟨g2,O,U,_,F⟩:=D6.Jc h;exact⟨g2,O,U,F⟩
def Un(hf:x.Fit room)(D:Br L B sb (X3 ci co) Y3 3 V w t)(p:FG sb ci co room x w t){cases shape}(hi:i<3)(h:stepG P (i==0) (G i) w=.comm g2 cases true shape w #[])(hw:∀o∈cases,NoWays w ((CN G 3).setIfInBounds i ph) o)(C:∀j,j<3→CR P B (BN P B sb ci co zi zo Post x') (DR x') j (Gh G i (parked g2 cases shape) j) (V j))(hb:x'.BK=x.BK)(h1:x'.f.BW=x.f.BW)(h2:x'.s.BW=x.s.BW)(M:x'.s=.close∨x'.s.BW=true→x.s=.close∨x.s.BW=true)(F:(∀pk l,x'.m≠ .ask pk l)→∀pk l,x.m≠ .ask pk l)(hE:Fb P L B sb ci co zi zo room Post x'):Fu P (D3 L B Post) G w t sl i:=by
 have q:=crowd_waits (sl:=sl) (Dt (G:=G) hi) h hw;rw[Hj,ofEvents_none]at q;exact LL hE q C D.nil ⟨p.1.to hb h1 h2,by rw[Ak6];exact p.2.to h1 h2 (λe=>p.2.fs (M e)) λe=>p.2.m (F e)⟩
def Aep(hne:ci≠co)(D:Br L B sb (X3 ci co) Y3 3 V w t)(p:FG sb ci co room x w t)(hf:x.Fit room){l}(F:x.m=.ask false l)(hc:∀j,j<3→CR P B (BN P B sb ci co zi zo Post x) (DR x) j (G j) (V j))(J:Gt P B co zo Post false l (G 0) (V 0))(S:x.s.BW=false)(C:∀A R,x.s≠ .says true A R)(h:Fb P L B sb ci co zi zo room Post {x with m:=.ask true l}):Fu P (D3 L B Post) G w t sl 0:=by
 obtain⟨g2,O,U,M⟩:=Ag2 J;obtain⟨s,tm,e⟩:=p.1.GG;rw[S]at e;refine Un (x':={x with m:=.ask true l}) hf D p C0 (U w (D.CD 0 C0)) (λo b=>?_) (three ?_ ?_ ?_) I I I id (λe=>absurd I (e true l)) h
 ·simp only[oi,g5]at b;subst b;exact ways_recv_none e (WV hne hc 0 C)
 ·rw[FB];exact⟨.stop M,λ_=>M⟩
 ·rw[Dr _ _ C0];exact Q4 (hc 1 C0) I
 rw[Dr _ _ C0];exact Mh (hc 2 C0) I
def J0.known{a}{y:MemOp}(h:J0 t a c)(hw:Wordless (t++ #[y]))(D:y.act=.recvClosed c):
  (∀(i:Nat) (op:MemOp),t[i]?=some op→op.g=a→Knows (t++ #[y]) y.g i)∧∀i,Knows t a i→Knows (t++ #[y]) y.g i:=by
 obtain⟨C,op,O,U,Z,F⟩:=h;have J:∀(i:Nat) (op:MemOp),t[i]?=some op→(t++ #[y])[i]?=some op:=λi op e=>by rw[getElem?_append_old (lt_size_of_getElem? e)];exact e
 have R:(t++ #[y])[t.size]?=some y:=by rw[Aiq Dz];simp
 have W:HappensBefore (t++ #[y]) C t.size:=.single (.inr ⟨.closed (c:=c) (by rw[act?_of (J _ _ O),Z]) (by rw[act?_of R,D]),hw.heard (J _ _ O),hw.heard R⟩);have p:∀(i:Nat) (o:MemOp),t[i]?=some o→o.g=a→HappensBefore (t++ #[y]) i t.size:=λi o M S=>by
  obtain T|T:=Nat.lt_or_eq_of_le (F i o M S)
  ·exact(hb_po T (J _ _ M) (J _ _ O) (S.trans U.symm)).trans W
  subst T;exact W
 exact⟨λi o M S=>⟨_,y,R,I,.inr (p i o M S)⟩,λi ⟨q,r,hq,d,b⟩=>⟨_,y,R,I,.inr ((b.app _).hb (p q r hq d))⟩⟩
def YP{a b}{y:MemOp}(h:∀(i:Nat) (op:MemOp),t[i]?=some op→op.g=a→op.act.touch?≠none→Knows (t++ #[y]) b i)(e:y.act.touch?=none):K1 (t++ #[y]) a b:=by
 intro i op M S R;obtain⟨_,d⟩|⟨_,d⟩:=getElem?_append_cases M
 ·exact h i op d S R
 simp only[oi,g5]at d;subst d;exact absurd e R
def Zf(hf:x.Fit room)(T:Br L B sb (X3 ci co) Y3 3 V w' (t++u))(q:runT P (crowd (CN G 3) w sl) i=(.next (crowd ((CN G 3).setIfInBounds i g') w' sl),u))(C:∀j,j<3→CR P B (BN P B sb ci co zi zo Post x') (DR x') j (Gh G i g' j) (V j))(b:FG sb ci co room x' w' (t++u))(hE:Fb P L B sb ci co zi zo room Post x'):Fu P (D3 L B Post) G w t sl i:=by
 rw[Hj]at q;exact LL hE q C T b
def tq(hne:ci≠co)(hS:Br L B sb (X3 ci co) Y3 3 V w t)(p:FG sb ci co room x w t)(hf:x.Fit room)(r:x.m=.ask false [])(hc:∀j,j<3→CR P B (BN P B sb ci co zi zo Post x) (DR x) j (G j) (V j))(J:Gt P B co zo Post false [] (G 0) (V 0))(hg:x.s.BW=true)(h:Fb P L B sb ci co zi zo room Post {x with m:=.more}):Fu P (D3 L B Post) G w t sl 0:=by
 obtain⟨g2,O,U,h3,_⟩:=D6.Jc J;obtain⟨s,tm,e⟩:=p.1.GG;rw[hg]at e;have q:=crowd_recv_closed (sl:=sl) (Dt (G:=G) (N:=3) (i:=0) C0) (U w (hS.CD 0 C0)) e (WV hne hc 0 λA l C=>by rw[C]at hg;cases hg);rw[ofEvents_none,x4,finishComm_recv]at q;have hu:∀op∈(#[{g:=0,fn:=g2.frame.fn,pos:=g2.frame.place,act:=.recvClosed co}]:Trace),op={g:=0,fn:=g2.frame.fn,pos:=g2.frame.place,act:=.recvClosed co}:=λop hop=>by simpa using hop
 have d:Wordless (t++ #[{g:=0,fn:=g2.frame.fn,pos:=g2.frame.place,act:=.recvClosed co}]):=hS.tr.word.append λop hop m e=>by rw[hu op hop]at e;cases e
 have hk:=(p.2.s hg).known d I;have T:Br L B sb (X3 ci co) Y3 3 V w (t++ #[{g:=0,fn:=g2.frame.fn,pos:=g2.frame.place,act:=.recvClosed co}]):=by
  exact ZA
 refine Zf (x':={x with m:=.more}) hf T q (three ?_ ?_ ?_) ⟨p.1.to I I I,?_⟩ h
 ·exact zR
 ·rw[Dr _ _ C0];exact Q4 (hc 1 C0) I
 ·rw[Dr _ _ C0];exact Mh (hc 2 C0) I
 have R:=p.2.OT (u:= #[{g:=0,fn:=g2.frame.fn,pos:=g2.frame.place,act:=.recvClosed co}]) λop hop=>by rw[hu op hop];exact j0
 exact R.to I I R.fs λ_=>⟨YP (λi op M hg _=>hk.1 i op M hg) I,YP (λi op M F o=>hk.2 i (p.2.fs (.inr hg) i op M F o)) I⟩
def yr(hne:ci≠co)(hS:Br L B sb (X3 ci co) Y3 3 V w t)(p:FG sb ci co room x w t)(hf:x.Fit room)(F:x.m=.more)(hc:∀j,j<3→CR P B (BN P B sb ci co zi zo Post x) (DR x) j (G j) (V j))(J:D6 P true B.heap.size false co zo (λd x g v=>d=false→x=zo→Co P true B.heap.size (H7 P B.heap.size Post) g v) (G 0) (V 0))(h:Fb P L B sb ci co zi zo room Post {x with m:=.ret}):Fu P (D3 L B Post) G w t sl 0:=by
 have hg:x.s.BW=true:=hf.last λpk l e=>by rw[F]at e;cases e
 obtain⟨g2,O,U,h3,_⟩:=D6.Jc J;obtain⟨s,tm,e⟩:=p.1.GG;rw[hg]at e;have q:=crowd_recv_closed (sl:=sl) (Dt (G:=G) (N:=3) (i:=0) C0) (U w (hS.CD 0 C0)) e (WV hne hc 0 λA l C=>by rw[C]at hg;cases hg);rw[ofEvents_none,x4,finishComm_recv]at q;have hu:∀op∈(#[{g:=0,fn:=g2.frame.fn,pos:=g2.frame.place,act:=.recvClosed co}]:Trace),op={g:=0,fn:=g2.frame.fn,pos:=g2.frame.place,act:=.recvClosed co}:=λop hop=>by simpa using hop
 have T:Br L B sb (X3 ci co) Y3 3 V w (t++ #[{g:=0,fn:=g2.frame.fn,pos:=g2.frame.place,act:=.recvClosed co}]):=by
  exact ZA
 refine Zf (x':={x with m:=.ret}) hf T q (three ?_ ?_ ?_) ⟨p.1.to I I I,?_⟩ h
 ·exact zR
 ·rw[Dr _ _ C0];exact Q4 (hc 1 C0) I
 ·rw[Dr _ _ C0];exact Mh (hc 2 C0) I
 have R:=p.2.OT (u:= #[{g:=0,fn:=g2.frame.fn,pos:=g2.frame.place,act:=.recvClosed co}]) λop hop=>by rw[hu op hop];exact j0
 exact R.to I I R.fs λ_=>R.m λpk l e=>by rw[F]at e;cases e
def oR{cap:Nat}{t}{U d R b:MemOp}(hw:Wordless (t++ #[U,d,R,b]))(h1:U.act=.send c s)(F:b.act=.recvDone c s):Pass t #[U,d,R,b] U.g b.g:=by
 have C:(t++ #[U,d,R,b])[t.size]?=some U:=by rw[Aiq Dz];simp
 have Z:(t++ #[U,d,R,b])[t.size+3]?=some b:=by rw[Aiq C0];simp
 exact Pass.yU Dz C I Z I (.single (.inr ⟨.handOver (c:=c) (k:=s) (by rw[act?_of C,h1]) (by rw[act?_of Z,F]),hw.heard C,hw.heard Z⟩))
def um(hne:ci≠co)(hS:Br L B sb (X3 ci co) Y3 3 V w t)(p:FG sb ci co room x w t)(hf:x.Fit room){A}{l':List Item}(hx:x.m=.ask false (A::l'.map (·.2)))(hs:x.s=.says true A l')(hc:∀j,j<3→CR P B (BN P B sb ci co zi zo Post x) (DR x) j (G j) (V j))(J:Gt P B co zo Post false (A::l'.map (·.2)) (G 0) (V 0))(h:Fb P L B sb ci co zi zo room Post {x with m:=.ask false (l'.map (·.2)),s:=.recv false l'}):Fu P (D3 L B Post) G w t sl 0:=by
 obtain⟨g2,O,U,M,_⟩:=D6.Jc J;obtain⟨s,tm,e⟩:=p.1.GG;have hsay:KZ P B sb ci co zi true A l' (G 1) (V 1):=by
  exact wP
 obtain⟨gj,y,z,C,e2,_,_,H1,S,R,hno,b,r⟩:=hsay;obtain⟨H2,T,o⟩:=M true y I;have q:=crowd_recv_meets (sl:=sl) (Dt (G:=G) (N:=3) (i:=0) C0) (U w (hS.CD 0 C0)) e (j:=1) C0 xP (mv hne hc C0 (e2 I));rw[ofEvents_none,x4,finishComm_recv,finishComm_send,Hj,Hj]at q;generalize hu0:(#[{g:=1,fn:=gj.frame.fn,pos:=gj.frame.place,act:=.send co s},{g:=0,fn:=g2.frame.fn,pos:=g2.frame.place,act:=.recv co s 0},{g:=1,fn:=gj.frame.fn,pos:=gj.frame.place,act:=.sendDone co s},{g:=0,fn:=g2.frame.fn,pos:=g2.frame.place,act:=.recvDone co s}]:Trace)=u at q;have hu:∀op∈u,op.act.touch?=none∧op.g<2∧∀m,op.act≠ .mark m:=λop hop=>by
  exact kU
 have hwu:Wordless u:=λop hop m e=>absurd e ((hu op hop).2.2 m);have F:Pass t u 1 0:=by
  rw[←hu0];exact oR (cap:=0) jQ I I
 obtain⟨k1,_,k2⟩:=hS.chan 1 co Nj;have W:E8 co w (w.setChan co 0 #[] x.s.BW (s+1) (s+1) tm):=E8.set e;obtain⟨vi,vj,q1,d,D⟩:=hS.hand (i:=1) (j:=0) C0 C0 C0 b T hno W k1 (λg hg=>k2 g 0 hg) (λop hop=>(hu op hop).1) hwu F;have hat:G8 sb ci co room {x with m:=.ask false (l'.map (·.2)),s:=.recv false l'} (w.setChan co 0 #[] x.s.BW (s+1) (s+1) tm):=by
  have:=G8.xE (x':={x with m:=.ask false (l'.map (·.2)),s:=.recv false l'}) (s':=s+1) hne p.1 e I I;rw[hs];exact this
 refine LL h q (three ?_ ?_ ?_) D ⟨hat,?_⟩
 ·rw[FB,IX];exact⟨o S vj R d,λZ=>by cases Me.1 Z⟩
 ·rw[Dr _ _ C0,FB,HZ _ _ C0,IX];exact⟨r vi q1,λZ=>by cases Ko.1 Z⟩
 ·exact bF
 have hT:=p.2.OT (u:=u) λop hop=>⟨(hu op hop).1,zO,λ_=>by have:=(hu op hop).2.1;omega,λe=>by rw[hs]at e;cases e⟩
 exact hT.to I Ct (λe=>by rcases e with e|e<;>cases e) λe=>absurd I (e _ _)
end
end
section
open Go Go.RowKit Go.Conc
section
variable{P:Program}{L:Nat→Option Obj}{B:World}{sb ci co:Nat}{zi zo:Value}{room:Nat}{Post:Value→World→Prop}{x x':St}{G G':Nat→Goroutine}{V V':Nat→World}{w w' v:World}{t u:Trace}{sl:Option (Nat×Nat)}{i j:Nat}{ops:Array MemOp}{g:Goroutine}
def Quiet(u:Trace):Prop:=∀op∈u,op.act.touch?=none∧op.g<3∧∀m,op.act≠ .mark m
def Quiet.word(h:Quiet u):Wordless u:=λop S m e=>absurd e ((h op S).2.2 m)
def Rg(hne:ci≠co)(D:Br L B sb (X3 ci co) Y3 3 V w t)(p:FG sb ci co room x w t)(d:Quiet u)(h:x.f.BW=true→∀op∈u,op.g≠2)(O:x.s.BW=true→∀op∈u,op.g≠1){o r s' U}(e:w.heap[ci]?=some (.chan room o cl s r tm)){bb b}(hb:bb=x'.BK.toArray)(T:b=x'.f.BW)(q:runT P (crowd (CN G 3) w sl) i=(.next (crowd (CN G' 3) (w.setChan ci room bb b s' U tm) sl),u))(C:∀j,j<3→CR P B (BN P B sb ci co zi zo Post x') (DR x') j (G' j) (V j))(h1:x'.f.BW=x.f.BW)(h2:x'.s.BW=x.s.BW)(M:x'.s=.close∨x'.s.BW=true→x.s=.close∨x.s.BW=true)(F:(∀pk l,x'.m≠ .ask pk l)→∀pk l,x.m≠ .ask pk l)(hE:Fb P L B sb ci co zi zo room Post x'):Fu P (D3 L B Post) G w t sl i:=by
 subst hb T;have W:E8 ci w (w.setChan ci room x'.BK.toArray x'.f.BW s' U tm):=E8.set e;obtain⟨J,_,Z⟩:=D.chan 2 ci OQ;have R:=p.2.OT (u:=u) λop S=>⟨(d op S).1,(d op S).2.1,λe=>h e op S,λe=>O e op S⟩
 exact LL hE q C (D.comm W J (λg hg=>Z g 0 hg) (λop S=>(d op S).1) d.word) ⟨p.1.Mw hne e h2,R.to h1 h2 (λe=>R.fs (M e)) λe=>R.m (F e)⟩
def Aa7(hne:ci≠co)(D:Br L B sb (X3 ci co) Y3 3 V w t)(p:FG sb ci co room x w t)(hf:x.Fit room)(hx:x.s=.recv false l)(hc:∀j,j<3→CR P B (BN P B sb ci co zi zo Post x) (DR x) j (G j) (V j))(J:Eg P B sb ci co zi false l (G 1) (V 1))(hb:x.BK=[])(S:x.f.BW=false)(C:∀R,x.f≠ .feed true R)(h:Fb P L B sb ci co zi zo room Post {x with s:=.recv true l}):Fu P (D3 L B Post) G w t sl 1:=by
 obtain⟨g2,O,U,M⟩:=sE J;obtain⟨s,r,tm,e⟩:=p.1.DN;rw[S,hb]at e;refine Un (x':={x with s:=.recv true l}) hf D p C0 (U w (D.CD 1 C0)) (λo b=>?_) (three ?_ ?_ ?_) I I Cm (λe=>by rcases e with e|e<;>cases e) id h
 ·simp only[oi,g5]at b;subst b;exact ways_recv_none e (ZL hne hc 1 C)
 ·rw[Dr _ _ C0];exact Nl (hc 0 C0) I
 ·rw[FB];exact⟨.stop M,λ_=>M⟩
 rw[Dr _ _ C0];exact Mh (hc 2 C0) I
def Ad3(hne:ci≠co)(hS:Br L B sb (X3 ci co) Y3 3 V w t)(p:FG sb ci co room x w t)(hf:x.Fit room)(hx:x.s=.recv false [])(hc:∀j,j<3→CR P B (BN P B sb ci co zi zo Post x) (DR x) j (G j) (V j))(J:Eg P B sb ci co zi false [] (G 1) (V 1))(hb:x.BK=[])(hg:x.f.BW=true)(h:Fb P L B sb ci co zi zo room Post {x with s:=.close}):Fu P (D3 L B Post) G w t sl 1:=by
 obtain⟨g2,O,U,M,_⟩:=D6.Jc J;obtain⟨s,r,tm,e⟩:=p.1.DN;rw[hg,hb]at e;have q:=crowd_recv_closed (sl:=sl) (Dt (G:=G) (N:=3) (i:=1) C0) (U w (hS.CD 1 C0)) e (ZL hne hc 1 λl C=>by rw[C]at hg;cases hg);rw[ofEvents_none,x4,finishComm_recv]at q;have hu:∀op∈(#[{g:=1,fn:=g2.frame.fn,pos:=g2.frame.place,act:=.recvClosed ci}]:Trace),op={g:=1,fn:=g2.frame.fn,pos:=g2.frame.place,act:=.recvClosed ci}:=λop hop=>by simpa using hop
 have d:Wordless (t++ #[{g:=1,fn:=g2.frame.fn,pos:=g2.frame.place,act:=.recvClosed ci}]):=hS.tr.word.append λop hop m e=>by rw[hu op hop]at e;cases e
 have hk:=(p.2.f hg).known d I;have T:Br L B sb (X3 ci co) Y3 3 V w (t++ #[{g:=1,fn:=g2.frame.fn,pos:=g2.frame.place,act:=.recvClosed ci}]):=by
  exact ZA
 refine Zf (x':={x with s:=.close}) hf T q (three ?_ ?_ ?_) ⟨p.1.to I I Cm,?_⟩ h
 ·rw[Dr _ _ C0];exact Nl (hc 0 C0) I
 ·rw[FB];exact⟨M false zi I,λZ=>by cases Ko.1 Z⟩
 ·rw[Dr _ _ C0];exact Mh (hc 2 C0) I
 have R:=p.2.OT (u:= #[{g:=1,fn:=g2.frame.fn,pos:=g2.frame.place,act:=.recvClosed ci}]) λop hop=>by rw[hu op hop];exact⟨I,by show(1:Nat)<3;omega,λ_=>by show(1:Nat)≠2;omega,λe=>by rw[hx]at e;cases e⟩
 exact R.to I Cm (λ_=>YP (λi op o F _=>hk.1 i op o F) I) λe=>(by have:=hf.last e;rw[hx]at this;cases this)
def X7{c A}(h:Eg P B sb ci co zi false ((c,A)::l) g v):∃g2,g.status=.running∧(∀w,B5 B.heap.size v w→stepG P false g w=.comm g2 #[rcase ci zi] true (.recv true) w #[])∧
  Co P false B.heap.size (FP P B sb ci co zi (.between A l)) (Conc.served g2 (Conc.recvd true c true)) v:=by
 obtain⟨g2,O,U,M,_⟩:=D6.Jc h;exact⟨g2,O,U,M true c I I⟩
def u4{c A}(h:Eg P B sb ci co zi true ((c,A)::l) g v):∃g2,g=parked g2 #[rcase ci zi] (.recv true)∧
  Co P false B.heap.size (FP P B sb ci co zi (.between A l)) (Conc.served g2 (Conc.recvd true c true)) v:=by
 obtain⟨g2,O,U,_,_,M⟩:=h;exact⟨g2,U I,M true c I I⟩
def gZ{c l}(h:He P B ci true (c::l) g v):∃g2 z,g=parked g2 #[scase ci c z] .send∧Co P false B.heap.size (KI P B ci (.feed false l)) (Conc.served g2 undef) v:=by
 obtain⟨g2,y,z,O,U,_,_,rfl,M⟩:=h;exact⟨g2,z,U I,M⟩
def Vs{c l}(h:He P B ci false (c::l) g v):∃g2 z,g.status=.running∧(∀w,B5 B.heap.size v w→stepG P false g w=.comm g2 #[scase ci c z] true .send w #[])∧
  Co P false B.heap.size (KI P B ci (.feed false l)) (Conc.served g2 undef) v∧He P B ci true (c::l) (parked g2 #[scase ci c z] .send) v:=by
 obtain⟨g2,y,z,O,U,⟨rfl,M⟩,F⟩:=Gl.Jc h;exact⟨g2,z,O,U,M,F⟩
def jE{A}(h:KZ P B sb ci co zi false A l g v):∃g2 y z,g.status=.running∧(∀w,B5 B.heap.size v w→stepG P false g w=.comm g2 #[scase co y z] true .send w #[])∧
  (∃H S,A y S∧(∀r,S r→∀b,r.o b=none)∧Sat B (H*S) v∧∀v',Sat B H v'→Co P false B.heap.size (FP P B sb ci co zi (.recv false l)) (Conc.served g2 undef) v')∧KZ P B sb ci co zi true A l (parked g2 #[scase co y z] .send) v:=by
 obtain⟨g2,y,z,O,U,M,F⟩:=Gl.Jc h;exact⟨g2,y,z,O,U,M,F⟩
def cK(c)(l:List Value):((c::l).toArray).extract 1 ((c::l).toArray).size=l.toArray:=by
 apply Array.ext';simp
def Ae3(hne:ci≠co)(D:Br L B sb (X3 ci co) Y3 3 V w t)(p:FG sb ci co room x w t)(hf:x.Fit room){c A bs}(hx:x.s=.recv false ((c,A)::l))(hc:∀j,j<3→CR P B (BN P B sb ci co zi zo Post x) (DR x) j (G j) (V j))(J:Eg P B sb ci co zi false ((c,A)::l) (G 1) (V 1))(hb:x.BK=c::bs)(C:∀R,x.f≠ .feed true R)(h:Fb P L B sb ci co zi zo room Post {x with s:=.between A l,BK:=bs}):Fu P (D3 L B Post) G w t sl 1:=by
 obtain⟨g2,O,U,h3⟩:=X7 J;obtain⟨s,r,tm,e⟩:=p.1.DN;rw[hb]at e;have q:=crowd_recv_buf (sl:=sl) (Dt (G:=G) (N:=3) (i:=1) C0) (U w (D.CD 1 C0)) e C3 (ZL hne hc 1 C);rw[ofEvents_none,x4,finishComm_recv,Hj,cK]at q;refine Rg (x':={x with s:=.between A l,BK:=bs}) hne D p (λop S=>?_) (λ_ op S=>?_) (λe=>by rw[hx]at e;cases e) e I I q (three ?_ ?_ ?_) I Cm (λe=>by rcases e with e|e<;>cases e) id h
 ·simp only[oi,j1,F',or_false]at S;rcases S with rfl|rfl<;>exact⟨I,(by show(1:Nat)<3;omega),λm e=>by cases e⟩
 ·simp only[oi,j1,F',or_false]at S;rcases S with rfl|rfl<;>exact(by show(1:Nat)≠2;omega)
 ·rw[Dr _ _ C0];exact Nl (hc 0 C0) I
 ·exact ZS
 rw[Dr _ _ C0];exact Mh (hc 2 C0) I
def o_(hne:ci≠co)(D:Br L B sb (X3 ci co) Y3 3 V w t)(p:FG sb ci co room x w t)(hf:x.Fit room){c c' A bs lf}(hx:x.s=.recv false ((c,A)::l))(hc:∀j,j<3→CR P B (BN P B sb ci co zi zo Post x) (DR x) j (G j) (V j))(J:Eg P B sb ci co zi false ((c,A)::l) (G 1) (V 1))(hb:x.BK=c::bs)(hs:x.f=.feed true (c'::lf))(h:Fb P L B sb ci co zi zo room Post {x with s:=.between A l,BK:=bs++[c'],f:=.feed false lf}):Fu P (D3 L B Post) G w t sl 1:=by
 obtain⟨g2,O,U,h3⟩:=X7 J;obtain⟨s,r,tm,e⟩:=p.1.DN;rw[hb]at e;have d:He P B ci true (c'::lf) (G 2) (V 2):=by
  exact yS
 obtain⟨b,z,e2,h5⟩:=gZ d;have q:=jz (sl:=sl) (Dt (G:=G) (N:=3) (i:=1) C0) (U w (D.CD 1 C0)) e C3 (j:=2) C0 VE (sQ hne hc C0 e2);rw[ofEvents_none,x4,finishComm_recv,finishComm_send,Hj,Hj,cK]at q;refine Rg (x':={x with s:=.between A l,BK:=bs++[c'],f:=.feed false lf}) hne D p (λop hop=>?_) (λe=>by rw[hs]at e;cases e) (λe=>by rw[hx]at e;cases e) e C3 Ct q (three ?_ ?_ ?_) Ct Cm (λe=>by rcases e with e|e<;>cases e) id h
 ·exact U8
 ·exact WF
 ·exact ZS
 exact zG
def ky(hne:ci≠co)(D:Br L B sb (X3 ci co) Y3 3 V w t)(p:FG sb ci co room x w t)(hf:x.Fit room){c A lf}(hx:x.s=.recv false ((c,A)::l))(hc:∀j,j<3→CR P B (BN P B sb ci co zi zo Post x) (DR x) j (G j) (V j))(J:Eg P B sb ci co zi false ((c,A)::l) (G 1) (V 1))(hb:x.BK=[])(hs:x.f=.feed true (c::lf))(h:Fb P L B sb ci co zi zo room Post {x with s:=.between A l,f:=.feed false lf}):Fu P (D3 L B Post) G w t sl 1:=by
 obtain⟨g2,O,U,h3⟩:=X7 J;obtain⟨s,r,tm,e⟩:=p.1.DN;rw[hb]at e;have d:He P B ci true (c::lf) (G 2) (V 2):=by
  exact yS
 obtain⟨b,z,e2,h5⟩:=gZ d;have q:=crowd_recv_meets (sl:=sl) (Dt (G:=G) (N:=3) (i:=1) C0) (U w (D.CD 1 C0)) e (j:=2) C0 VE (sQ hne hc C0 e2);rw[ofEvents_none,x4,finishComm_recv,finishComm_send,Hj,Hj]at q;refine Rg (x':={x with s:=.between A l,f:=.feed false lf}) hne D p (λop hop=>?_) (λe=>by rw[hs]at e;cases e) (λe=>by rw[hx]at e;cases e) e (by simp[hb]) Ct q (three ?_ ?_ ?_) Ct Cm (λe=>by rcases e with e|e<;>cases e) id h
 ·exact U8
 ·exact WF
 ·exact ZS
 exact zG
def az(hne:ci≠co)(D:Br L B sb (X3 ci co) Y3 3 V w t)(p:FG sb ci co room x w t)(hf:x.Fit room){A}(hx:x.s=.says false A l)(hc:∀j,j<3→CR P B (BN P B sb ci co zi zo Post x) (DR x) j (G j) (V j))(J:KZ P B sb ci co zi false A l (G 1) (V 1))(C:∀R,x.m≠ .ask true R)(h:Fb P L B sb ci co zi zo room Post {x with s:=.says true A l}):Fu P (D3 L B Post) G w t sl 1:=by
 obtain⟨g2,y,z,O,U,_,M⟩:=jE J;obtain⟨s,tm,e⟩:=p.1.GG;rw[hx]at e;refine Un (x':={x with s:=.says true A l}) hf D p C0 (U w (D.CD 1 C0)) (λo b=>?_) (three ?_ ?_ ?_) I I Cm (λe=>by rcases e with e|e<;>cases e) id h
 ·simp only[oi,g5]at b;subst b;exact ways_send_none e Dz (Acg hne hc 1 C)
 ·rw[Dr _ _ C0];exact Nl (hc 0 C0) I
 ·rw[FB];exact⟨.stop M,λ_=>M⟩
 rw[Dr _ _ C0];exact Mh (hc 2 C0) I
def yu(hne:ci≠co)(hS:Br L B sb (X3 ci co) Y3 3 V w t)(p:FG sb ci co room x w t)(hf:x.Fit room){A}(hx:x.s=.says false A l)(hm:x.m=.ask true (A::l.map (·.2)))(hc:∀j,j<3→CR P B (BN P B sb ci co zi zo Post x) (DR x) j (G j) (V j))(J:KZ P B sb ci co zi false A l (G 1) (V 1))(h:Fb P L B sb ci co zi zo room Post {x with m:=.ask false (l.map (·.2)),s:=.recv false l}):Fu P (D3 L B Post) G w t sl 1:=by
 obtain⟨g2,y,z,O,U,⟨H1,S,R,hno,b,r⟩,_⟩:=jE J;obtain⟨s,tm,e⟩:=p.1.GG;have hask:Gt P B co zo Post true (A::l.map (·.2)) (G 0) (V 0):=by
  have:=(hc 0 C0).2 (Me.2 (by rw[hm];rfl));simpa only[BN,hm,G9]using this
 obtain⟨gj,C,e2,_,_,M⟩:=hask;obtain⟨H2,T,o⟩:=M true y I;rw[hx]at e;have q:=crowd_send_meets (sl:=sl) (Dt (G:=G) (N:=3) (i:=1) C0) (U w (hS.CD 1 C0)) e (j:=0) C0 xP (Afu hne hc C0 (e2 I));rw[ofEvents_none,x4,finishComm_recv,finishComm_send,Hj,Hj]at q;generalize hu0:(#[{g:=1,fn:=g2.frame.fn,pos:=g2.frame.place,act:=.send co s},{g:=0,fn:=gj.frame.fn,pos:=gj.frame.place,act:=.recv co s 0},{g:=1,fn:=g2.frame.fn,pos:=g2.frame.place,act:=.sendDone co s},{g:=0,fn:=gj.frame.fn,pos:=gj.frame.place,act:=.recvDone co s}]:Trace)=u at q;have hu:∀op∈u,op.act.touch?=none∧op.g<2∧∀m,op.act≠ .mark m:=λop hop=>by
  exact kU
 have hwu:Wordless u:=λop hop m e=>absurd e ((hu op hop).2.2 m);have F:Pass t u 1 0:=by
  rw[←hu0];exact oR (cap:=0) jQ I I
 obtain⟨k1,_,k2⟩:=hS.chan 1 co Nj;have W:E8 co w (w.setChan co 0 #[] false (s+1) (s+1) tm):=E8.set e;obtain⟨vi,vj,q1,d,D⟩:=hS.hand (i:=1) (j:=0) C0 C0 C0 b T hno W k1 (λg hg=>k2 g 0 hg) (λop hop=>(hu op hop).1) hwu F;have hat:G8 sb ci co room {x with m:=.ask false (l.map (·.2)),s:=.recv false l} (w.setChan co 0 #[] false (s+1) (s+1) tm):=G8.xE (x':={x with m:=.ask false (l.map (·.2)),s:=.recv false l}) (s':=s+1) hne p.1 e I I;refine LL h q (three ?_ ?_ ?_) D ⟨hat,?_⟩
 ·rw[Dr _ _ C0,FB,IX];exact⟨o S vj R d,λZ=>by cases Me.1 Z⟩
 ·rw[FB,HZ _ _ C0,IX];exact⟨r vi q1,λZ=>by cases Ko.1 Z⟩
 ·exact bF
 have hT:=p.2.OT (u:=u) λop hop=>⟨(hu op hop).1,zO,λ_=>by have:=(hu op hop).2.1;omega,λe=>by rw[hx]at e;cases e⟩
 exact hT.to I Cm (λe=>by rcases e with e|e<;>cases e) λe=>absurd I (e _ _)
def qf(hne:ci≠co)(D:Br L B sb (X3 ci co) Y3 3 V w t)(p:FG sb ci co room x w t)(hf:x.Fit room){c l}(hx:x.f=.feed false (c::l))(hc:∀j,j<3→CR P B (BN P B sb ci co zi zo Post x) (DR x) j (G j) (V j))(J:He P B ci false (c::l) (G 2) (V 2))(hb:aa x.BK=room)(C:∀R,x.s≠ .recv true R)(h:Fb P L B sb ci co zi zo room Post {x with f:=.feed true (c::l)}):Fu P (D3 L B Post) G w t sl 2:=by
 obtain⟨g2,z,O,U,_,M⟩:=Vs J;obtain⟨s,r,tm,e⟩:=p.1.DN;rw[hx]at e;refine Un (x':={x with f:=.feed true (c::l)}) hf D p C0 (U w (D.CD 2 C0)) (λo b=>?_) (three ?_ ?_ ?_) I Cm I id id h
 ·simp only[oi,g5]at b;subst b;exact ways_send_none e (by simp[hb]) (d8 hne hc 2 C)
 ·rw[Dr _ _ C0];exact Nl (hc 0 C0) I
 ·rw[Dr _ _ C0];exact Q4 (hc 1 C0) I
 rw[FB];exact⟨.stop M,λ_=>M⟩
def pm(hne:ci≠co)(D:Br L B sb (X3 ci co) Y3 3 V w t)(p:FG sb ci co room x w t)(hf:x.Fit room){c l}(hx:x.f=.feed false (c::l))(hc:∀j,j<3→CR P B (BN P B sb ci co zi zo Post x) (DR x) j (G j) (V j))(J:He P B ci false (c::l) (G 2) (V 2))(hb:aa x.BK<room)(C:∀R,x.s≠ .recv true R)(h:Fb P L B sb ci co zi zo room Post {x with f:=.feed false l,BK:=x.BK++[c]}):Fu P (D3 L B Post) G w t sl 2:=by
 obtain⟨g2,z,O,U,M,_⟩:=Vs J;obtain⟨s,r,tm,e⟩:=p.1.DN;rw[hx]at e;have q:=crowd_send_room (sl:=sl) (Dt (G:=G) (N:=3) (i:=2) C0) (U w (D.CD 2 C0)) e (by simpa using hb) (d8 hne hc 2 C);rw[ofEvents_none,x4,finishComm_send,Hj]at q;refine Rg (x':={x with f:=.feed false l,BK:=x.BK++[c]}) hne D p (λop S=>?_) (λe=>by rw[hx]at e;cases e) (λ_ op S=>?_) e C3 I q (three ?_ ?_ ?_) Cm I id id h
 ·simp only[oi,j1,F',or_false]at S;rcases S with rfl|rfl<;>exact⟨I,(by show(2:Nat)<3;omega),λm e=>by cases e⟩
 ·simp only[oi,j1,F',or_false]at S;rcases S with rfl|rfl<;>exact(by show(2:Nat)≠1;omega)
 ·rw[Dr _ _ C0];exact Nl (hc 0 C0) I
 ·rw[Dr _ _ C0];exact Q4 (hc 1 C0) I
 rw[FB];exact⟨M,λZ=>by cases Mi.1 Z⟩
def Abn(hne:ci≠co)(D:Br L B sb (X3 ci co) Y3 3 V w t)(p:FG sb ci co room x w t)(hf:x.Fit room){c A ls l}(hx:x.f=.feed false (c::l))(hs:x.s=.recv true ((c,A)::ls))(hc:∀j,j<3→CR P B (BN P B sb ci co zi zo Post x) (DR x) j (G j) (V j))(J:He P B ci false (c::l) (G 2) (V 2))(h:Fb P L B sb ci co zi zo room Post {x with f:=.feed false l,s:=.between A ls}):Fu P (D3 L B Post) G w t sl 2:=by
 obtain⟨g2,z,O,U,M,_⟩:=Vs J;obtain⟨s,r,tm,e⟩:=p.1.DN;rw[hx]at e;have o:Eg P B sb ci co zi true ((c,A)::ls) (G 1) (V 1):=by
  exact wP
 obtain⟨b,e2,d⟩:=u4 o;have q:=crowd_send_meets (sl:=sl) (Dt (G:=G) (N:=3) (i:=2) C0) (U w (D.CD 2 C0)) e (j:=1) C0 VE (al hne hc C0 e2);rw[ofEvents_none,x4,finishComm_recv,finishComm_send,Hj,Hj]at q;refine Rg (x':={x with f:=.feed false l,s:=.between A ls}) hne D p (λop hop=>?_) (λe=>by rw[hx]at e;cases e) (λe=>by rw[hs]at e;cases e) e I I q (three ?_ ?_ ?_) Cm Ct (λe=>by rcases e with e|e<;>cases e) id h
 ·exact U8
 ·exact WF
 ·rw[Dr _ _ C0,FB];exact⟨d,λZ=>by cases Ko.1 Z⟩
 rw[FB];exact⟨M,λZ=>by cases Mi.1 Z⟩
end
end
section
open Go Go.RowKit Go.Conc
abbrev St.less:WellFoundedRelation St:=invImage (λx:St=>(x.size,x.tail)) (Prod.lex Nat.lt_wfRel Nat.lt_wfRel)
def HN{x y:St}(h:y.size<x.size):St.less.rel y x:=Prod.Lex.left _ _ h
def fW{x y:St}(h:y.size=x.size)(h2:y.tail<x.tail):St.less.rel y x:=by
 show Prod.Lex _ _ (y.size,y.tail) (x.size,x.tail);rw[h];exact Prod.Lex.right _ h2
section
variable{room:Nat}{m:G5}{s:Dc}{f:FN}{BK:List Value}{l:List Item}{A:Fz}{c:Value}
def xr{l}(h:St.Fit room ⟨.ask false l,s,f,BK⟩)(h1:s.BW=false)(h2:∀A R,s≠ .says true A R):St.Fit room ⟨.ask true l,s,f,BK⟩:=
 ⟨h.IG,h.full,λpk R e=>by cases e;exact h.asks _ _ I,λe=>absurd I (e _ _),λR e=>⟨h1,h2⟩,h.N6,h.Iu,h.Ke,λA R e=>absurd e (h2 _ _)⟩
def Aej{b}(h:St.Fit room ⟨.ask false b,.says true A l,f,BK⟩):St.Fit room ⟨.ask false (l.map (·.2)),.recv false l,f,BK⟩:=
 ⟨h.IG,h.full,λpk R e=>by cases e;rfl,λe=>absurd I (e _ _),λR e=>Ch,λR e=>by(cases e),h.Iu,λe=>vC,λA R e=>Ch⟩
def vx{l}(h:St.Fit room ⟨.ask false l,.gone k,f,BK⟩):St.Fit room ⟨.more,.gone k,f,BK⟩:=
 ⟨h.IG,h.full,λpk R e=>Ch,λ_=>rfl,λR e=>Ch,h.N6,h.Iu,h.Ke,λA R e=>Ch⟩
def Acr(h:St.Fit room ⟨.more,s,f,BK⟩):St.Fit room ⟨.ret,s,f,BK⟩:=
 ⟨h.IG,h.full,λpk R e=>Ch,λ_=>h.last λpk l e=>Ch,λR e=>Ch,h.N6,h.Iu,h.Ke,λA R _ pk l e=>Ch⟩
def l8(h:St.Fit room ⟨m,s,f,BK⟩)(C:s.BW=false):∃pk,m=.ask pk s.MV:=by
 cases m with
 |ask pk l=>exact⟨pk,by rw[h.asks pk l rfl]⟩
 |more=>rw[show s.BW=true from h.last λpk l e=>by cases e]at C;cases C
 |ret=>rw[show s.BW=true from h.last λpk l e=>by cases e]at C;cases C
def N1{s':Dc}{o}{d:FN}(h:St.Fit room ⟨m,s,f,BK⟩)(S:s.BW=false)(h1:s'.left.map (·.1)=o++d.left)(b:aa o≤room)(h2:s'.MV=s.MV)(T:s'.BW=false)(M:∀l,m=.ask true l→∀A R,s'≠ .says true A R)(F:∀l,s'=.recv true l→o=[]∧d.BW=false∧∀R,d≠ .feed true R)(q:∀l,d=.feed true l→aa o=room∧l≠ [])(r:s'=.close→d.BW=true):St.Fit room ⟨m,s',d,o⟩:=by
 obtain⟨pk,rfl⟩:=l8 h S;refine⟨h1,b,λp R e=>by cases e;exact h2.symm,λe=>absurd I (e _ _),λR e=>⟨T,M R e⟩,F,q,λe=>?_,λA R e p U C=>?_⟩
 ·obtain e|e:=e
  ·exact r e
  rw[show s'.BW=true from e]at T;cases T
 cases p with
 |false=>rfl
 |true=>cases C;exact absurd e (M _ I A R)
def jb{b}(h:St.Fit room ⟨.ask true b,.says false A l,f,BK⟩):St.Fit room ⟨.ask false (l.map (·.2)),.recv false l,f,BK⟩:=
 ⟨h.IG,h.full,λpk R e=>by cases e;rfl,λe=>absurd I (e _ _),λR e=>Ch,λR e=>by(cases e),h.Iu,λe=>vC,λA R e=>Ch⟩
def Afi(h:St.Fit room ⟨m,.close,f,BK⟩):St.Fit room ⟨m.Gf,.gone k,f,BK⟩:=by
 obtain⟨pk,rfl⟩:=l8 h I;exact⟨h.IG,h.full,λp R e=>by cases e;rfl,λ_=>rfl,λR e=>Ch,λR e=>Ch,h.Iu,λ_=>h.Ke (.inl I),λA R e=>Ch⟩
def Ac9{k'}(h:St.Fit room ⟨m,.gone k,f,BK⟩):St.Fit room ⟨m,.gone k',f,BK⟩:=
 ⟨h.IG,h.full,λp R e=>by rw[h.asks p R e];rfl,λ_=>rfl,λR e=>(by cases(h.MM R e).1),λR e=>Ch,h.Iu,λ_=>h.Ke (.inr I),λA R e=>Ch⟩
def wb{k'}(h:St.Fit room ⟨m,s,.gone k,BK⟩):St.Fit room ⟨m,s,.gone k',BK⟩:=
 ⟨h.IG,h.full,h.asks,h.last,h.MM,λl e=>(by cases(h.N6 l e).2.1),λl e=>Ch,λ_=>rfl,h.XH⟩
def n_(h:St.Fit room ⟨m,s,.feed false [],BK⟩):St.Fit room ⟨m,s.Gf,.gone k,BK⟩:=
 ⟨by rw[kw];exact h.IG,h.full,λpk l e=>by rw[og];exact h.asks pk l e,λe=>by rw[Ps];exact h.last e,λl e=>by rw[Ps];exact⟨(h.MM l e).1,λA R F=>(h.MM l e).2 A R (by cases s<;>first|exact F|cases F)⟩,
  λl e=>WX,λl e=>Ch,λ_=>rfl,λA R e=>h.XH A R (by cases s<;>first|exact e|cases e)⟩
def wD{d:FN}{o}(h:St.Fit room ⟨m,s,f,BK⟩)(h1:o++d.left=BK++f.left)(b:aa o≤room)(C:∀l,s≠ .recv true l)(S:f.BW=true→d.BW=true)(p:∀l,d=.feed true l→aa o=room∧l≠ []):St.Fit room ⟨m,s,d,o⟩:=
 ⟨h.IG.trans h1.symm,b,h.asks,h.last,h.MM,λl e=>absurd e (C l),p,λe=>S (h.Ke e),h.XH⟩
end
section
variable{P:Program}{L:Nat→Option Obj}{B:World}{sb ci co:Nat}{zi zo:Value}{room:Nat}{Post:Value→World→Prop}{x x':St}{G G':Nat→Goroutine}{V V':Nat→World}{w w' v:World}{t u:Trace}{sl:Option (Nat×Nat)}{i j:Nat}{ops:Array MemOp}{g:Goroutine}
def Agb(hS:Br L B sb (X3 ci co) Y3 3 V w t)(p:FG sb ci co room x w t)(hf:x.Fit room)(F:x.m=.ret)(hc:∀j,j<3→CR P B (BN P B sb ci co zi zo Post x) (DR x) j (G j) (V j))(J:H7 P B.heap.size Post (G 0) (V 0)):
  ∃o w' ops,runT P (crowd (CN G 3) w sl) 0=(.ended o w',ops)∧∀w0 sl0,Conc.Good P (D3 L B Post) (crowd (CN G 3) w0 sl0) o w' (t++ops):=by
 obtain⟨hr,J⟩:=J;obtain⟨y,es,h1,h2,M⟩:=J w (hS.CD 0 C0);have S:x.s.BW=true:=hf.last λpk l e=>by rw[F]at e;cases e
 have hrun:=Go.ConcN.runT_crowd_ended (sl:=sl) (Dt (G:=G) (N:=3) (i:=0) C0) h1;have O:∃k,QuitsIn P k (G 1):=by
  have:=(hc 1 C0).2 (Ko.2 (Dc.O9 S));cases C:x.s<;>rw[C]at S<;>first|(cases S;done)|skip
  simp only[BN,C,FP]at this;exact⟨_,this⟩
 have hgf:x.f.BW=true:=hf.Ke (.inr S);have hq2:∃k,QuitsIn P k (G 2):=by
  have:=(hc 2 C0).2 (Mi.2 (FN.O9 hgf));cases C:x.f<;>rw[C]at hgf<;>first|(cases hgf;done)|skip
  simp only[BN,C,KI]at this;exact⟨_,this⟩
 have R:Tr (Rz B.heap.size 3 V (X3 ci co)) (UX B.heap.size sb Y3) (t++MemOp.ofEvents 0 (G 0).frame.fn (G 0).frame.place es):=by
  exact pY
 refine⟨_,_,_,hrun,λw0 sl0=>⟨y,I,⟨M,hS.base⟩,R.race,?_,⟨?_,I⟩,?_⟩⟩
 ·have hT3:=p.2.app (room:=room) (i:=0) (u:=MemOp.ofEvents 0 (G 0).frame.fn (G 0).frame.place es) hf C0 (λop hop=>by rw[ofEvents_eq]at hop;obtain⟨e,_,rfl⟩:=EA.1 hop;rfl) (λZ=>by have:=Me.1 Z;rw[F]at this;cases this);obtain⟨k1,k2⟩:=hT3.m λpk l e=>by rw[F]at e;cases e
  intro i gi hgi hne d;obtain⟨b,hb,_,_⟩:=d;obtain⟨W,D,U⟩:=touch_of hb;have hgi':W.g=gi:=by simpa[Trace.g?,D]using hgi
  have hlt:=hT3.three W (Ak7 D);have hkn:Knows (t++MemOp.ofEvents 0 (G 0).frame.fn (G 0).frame.place es) 0 i:=by
   obtain h|h:=(by omega:W.g=1∨W.g=2)
   ·exact k1 i W D h (by rw[U];simp)
   exact k2 i W D h (by rw[U];simp)
  obtain⟨q,z,hq,hqg,hbq⟩:=hkn;obtain rfl|hbq:=hbq
  ·rw[D]at hq;cases hq;exact absurd (hgi'.symm.trans hqg) hne
  exact⟨q,by simp[Trace.g?,hq,hqg],hbq⟩
 ·intro g S;have:g=G 1∨g=G 2:=by
   simp only[crowd,CN]at S;have e:(Array.map G (Array.range 3)).toList=[G 0,G 1,G 2]:=by rw[show Array.range 3= #[0,1,2] by decide];simp
   rw[e]at S;simpa using S
  obtain rfl|rfl:=this
  ·exact⟨_,O.choose_spec.leaves⟩
  exact⟨_,hq2.choose_spec.leaves⟩
 intro i g hgi hne;obtain⟨T,rfl⟩:=I1 hgi;rw[R.word.deaf]
 match i,T,hne with
 |1,_,_=>exact⟨_,O.choose_spec.hears _ 0⟩
 |2,_,_=>exact⟨_,hq2.choose_spec.hears _ 0⟩
def Aa6(hne:ci≠co):∀x:St,x.Fit room→Fb P L B sb ci co zi zo room Post x:=by
 intro x
 induction x using St.less.wf.induction with
 |_ x J=>
 intro hf G V hc;refine L4.ends (Stop:=BN P B sb ci co zi zo Post x) (Done:=DR x) ⟨λw t d h=>⟨⟨h.1.DN,h.1.GG,h.1.Hn⟩,h.2⟩,λV w t i v' w' es fn pos D p M r Z=>⟨p.1.own D M Z,p.2.app hf M (λop o=>by rw[ofEvents_eq]at o;obtain⟨e,_,rfl⟩:=EA.1 o;rfl) r⟩,
  λj g v h=>Ag3 h,λj g v w t p h=>lL hf p.1 h,λG V w t _ _ hc=>Ads hf hc,?_⟩ hc
 intro G V w t sl i D p hc M hr hst;obtain⟨m,s,f,BK⟩:=x
 match i,M,hst with
 |0,_,hst=>
  cases m with
  |ask pk l=>
   left;have hst:Gt P B co zo Post pk l (G 0) (V 0):=hst;obtain rfl:pk=false:=by
    exact Va
   have O:l=s.MV:=hf.asks _ _ I;cases S:s.BW with
   |true=>
    cases s<;>first|(cases S;done)|skip
    subst O;exact tq hne D p hf I hc hst I (J _ (HN cY) (vx hf))
   |false=>
    by_cases U:∃A l',s=.says true A l'
    ·obtain⟨A,l',rfl⟩:=U;subst O;exact um hne D p hf I I hc hst (J _ (HN (by simp[St.size,G5.size,Dc.size,Hu,Dc.MV];omega)) (Aej hf))
    have U:∀A l',s≠ .says true A l':=λA l' e=>U ⟨A,l',e⟩;exact Aep hne D p hf I hc hst S U (J _ (HN cY) (xr hf S U))
  |more=>exact .inl (yr hne D p hf I hc hst (J _ (HN (by simp[St.size,G5.size])) (Acr hf)))
  |ret=>exact .inr (Agb D p hf I hc hst)
 |1,_,hst=>
  left;cases s with
  |start l=>
   refine l5 (s':=.recv false l) D p hf hc hst I I I I C3 (λg v h=>h) (J _ (HN RE) ?_);exact jF
  |recv pk l=>
   have hst:Eg P B sb ci co zi pk l (G 1) (V 1):=hst;obtain rfl:pk=false:=by
    exact Va
   have hcm:l.map (·.1)=BK++f.left:=hf.IG;cases BK with
   |nil=>
    by_cases F:∃l',f=.feed true l'
    ·obtain⟨l',rfl⟩:=F;cases l' with
     |nil=>exact absurd I (hf.Iu _ I).2
     |cons c lf=>
      cases l with
      |nil=>cases hcm
      |cons a l=>
       obtain⟨c',A⟩:=a;simp only[hP,l0,FN.left,List.cons.injEq]at hcm;obtain⟨rfl,hcm⟩:=hcm;refine ky hne D p hf I hc hst I I (J _ (HN VD) ?_);exact dE
    have F:∀l',f≠ .feed true l':=λl' e=>F ⟨l',e⟩;cases S:f.BW with
    |true=>
     cases f<;>first|(cases S;done)|skip
     cases l with
     |cons a l=>cases hcm
     |nil=>
      refine Ad3 hne D p hf I hc hst I I (J _ (HN RE) ?_);exact N1 hf I I hf.full I I (λl' _ A l2 e=>by cases e) (λl' e=>by cases e) (λl' e=>by cases e) (λe=>rfl)
    |false=>
     refine Aa7 hne D p hf I hc hst I S F (J _ (HN RE) ?_);exact N1 hf I hf.IG hf.full I I (λl' _ A l2 e=>by cases e) (λl' e=>⟨I,S,F⟩) hf.Iu (λe=>by cases e)
   |cons c bs=>
    cases l with
    |nil=>cases hcm
    |cons a l=>
     obtain⟨c',A⟩:=a;simp only[hP,Ap,List.cons.injEq]at hcm;obtain⟨rfl,hcm⟩:=hcm;by_cases F:∃l',f=.feed true l'
     ·obtain⟨l',rfl⟩:=F;have b:=hf.Iu _ I;cases l' with
      |nil=>exact absurd I b.2
      |cons R lf=>
       refine o_ hne D p hf I hc hst I I (J _ (HN VD) ?_);exact N1 hf I xM (by have:=b.1;simp at this⊢;omega) I I (λl' _ A l2 e=>by cases e) (λl' e=>by cases e) (λl' e=>by cases e) (λe=>by cases e)
     have F:∀l',f≠ .feed true l':=λl' e=>F ⟨l',e⟩;refine Ae3 hne D p hf I hc hst I F (J _ (HN (by simp[St.size,Dc.size,Hu];omega)) ?_);exact N1 hf I (by simpa[Dc.left]using hcm) (by have:=hf.full;simp at this⊢;omega) I I (λl' _ A l2 e=>by cases e) (λl' e=>by cases e) (λl' e=>absurd e (F _)) (λe=>by cases e)
  |between A l=>
   refine l5 (s':=.says false A l) D p hf hc hst I I I I C3 (λg v h=>h) (J _ (HN RE) ?_);exact jF
  |says pk A l=>
   have hst:KZ P B sb ci co zi pk A l (G 1) (V 1):=hst;obtain rfl:pk=false:=by
    exact cA
   by_cases W:∃l',m=.ask true l'
   ·obtain⟨l',rfl⟩:=W;have:l'=A::l.map (·.2):=hf.asks _ _ I;subst this;exact yu hne D p hf I I hc hst (J _ (HN (by simp[St.size,Dc.size,G5.size,Hu];omega)) (jb hf))
   have W:∀l',m≠ .ask true l':=λl' e=>W ⟨l',e⟩;refine az hne D p hf I hc hst W (J _ (HN RE) ?_);exact N1 hf I hf.IG hf.full I I (λl' e=>absurd e (W _)) (λl' e=>by cases e) hf.Iu (λe=>by cases e)
  |close=>exact Y! hne D p hf I hc hst λk=>J _ (HN (by cases m<;>simp[St.size,Dc.size,G5.size,G5.Gf,Hu]<;>split<;>omega)) (Afi hf)
  |gone k=>exact Adv D p hf I hc hr λk' e=>J _ (fW I (by subst e;simp[St.tail])) (Ac9 hf)
 |2,_,hst=>
  left;cases f with
  |feed pk l=>
   have hst:He P B ci pk l (G 2) (V 2):=hst;cases l with
   |nil=>
    obtain rfl:pk=false:=by
     cases pk with
     |false=>rfl
     |true=>exact absurd I (hf.Iu _ I).2
    exact uq hne D p hf I hc hst λk=>J _ (HN (by cases s<;>simp[St.size,Dc.size,FN.size,Dc.Gf,Hu]<;>try(split<;>omega))) (n_ hf)
   |cons c l=>
    obtain rfl:pk=false:=by
     exact cA
    by_cases C:∃l',s=.recv true l'
    ·obtain⟨l',rfl⟩:=C;obtain⟨q,_,_⟩:=hf.N6 _ I;have q:BK=[]:=q;subst q;have hcm:l'.map (·.1)=c::l:=hf.IG;cases l' with
     |nil=>cases hcm
     |cons a ls=>
      obtain⟨c',A⟩:=a;simp only[hP,List.cons.injEq]at hcm;obtain⟨rfl,hcm⟩:=hcm;refine Abn hne D p hf I I hc hst (J _ (HN VD) ?_);exact dE
    have C:∀l',s≠ .recv true l':=λl' e=>C ⟨l',e⟩;by_cases q:aa BK<room
    ·refine pm hne D p hf I hc hst q C (J _ (HN uM) ?_);exact wD hf (by simp[FN.left]) C9 C (λe=>by cases e) (λl' e=>by cases e)
    have q:aa BK=room:=Nat.le_antisymm hf.full (Alv.1 q);refine qf hne D p hf I hc hst q C (J _ (HN uM) ?_);exact wD hf I hf.full C (λe=>by cases e) (λl' e=>⟨q,by cases e;simp⟩)
  |gone k=>exact xp D p hf I hc hr λk' e=>J _ (fW I (by subst e;cases s<;>simp[St.tail])) (wb hf)
end
end
section
open Go Go.RowKit Go.Conc
def YA{B w:World}{r s:Ai}(Z:r.dj s)(hr:r.Ea B.heap.size w)(C:s.Ea B.heap.size w){b}(h1:Bm B.heap.size (En B r w) b k)(h2:s.c b k≠none∨s.o b≠none∧∃x,w.heap[b]?=some x∧∀c t f,x≠ .cells c t f):False:=by
 have cell:∀{q:Ai},q.Ea B.heap.size w→q.c b k≠none→∀x,w.heap[b]?=some x→(∀c t f,x≠ .cells c t f)→False:=λh hne x d S=>by
  obtain⟨y,e⟩:=Aiy.1 hne;have:=h.cell b k y e;unfold World.cell? at this;rw[d]at this;cases x<;>first|exact absurd I (S _ _ _)|cases this
 rcases UJ h1 with M|⟨M,x,d,S⟩<;>rcases h2 with F|⟨F,y,e,p⟩
 ·exact(Z.1 b k).elim M F
 ·exact cell hr M y e p
 ·exact cell C F x d S
 exact(Z.2 b).elim M F
section
variable{L:Nat→Option Obj}{B:World}{sb sb2:Nat}{X X2:Nat→Nat→Prop}{Y Y2:Nat→Prop}{N:Nat}{vs:Nat→World}{w:World}{t u:Trace}{i:Nat}{r1 r2 r3:Ai}
def Br.split(h:Br L B sb X Y N vs w t)(hi:i<N)(hd:r1.dj r2)(hd3:(r1.un r2).dj r3)(hl:((r1.un r2).un r3).Ea B.heap.size (vs i))(hu:∀op∈u,op.act.touch?=none)(hw:Wordless u)(hp:Pass t u i N)(hX:∀g b,X2 g b→∃g0,Pass t u g0 g∧(X g0 b∨g0=i∧∃x,r3.o b=some x∧∀c t f,x≠ .cells c t f))(hY:∀g,Y2 g→∃g0,Pass t u g0 g∧(Y g0∧sb=sb2∨g0=i∧r3.c sb2 0≠none))(one:∀g g' b,X2 g b→X2 g' b→g=g'):
  Br L B sb2 X2 Y2 (N+1) (G1 (G1 vs i (En B r1 w)) N (En B r2 w)) w (t++u):=by
 have hl12:(r1.un r2).Ea B.heap.size (vs i):=hl.left;have l1:r1.Ea B.heap.size (vs i):=hl12.left;have U:r2.Ea B.heap.size (vs i):=by rw[MF hd]at hl12;exact hl12.left
 have l3:r3.Ea B.heap.size (vs i):=by rw[MF hd3]at hl;exact hl.left
 obtain⟨d13,d23⟩:=Ug.1 hd3;have hs:=h.CD i hi;have L1:=K2 hs l1;have L2:=K2 hs U;have L3:=K2 hs l3;let V:=G1 (G1 vs i (En B r1 w)) N (En B r2 w);have VN:V N=En B r2 w:=IX _ _ _;have Vi:V i=En B r1 w:=by show G1 _ _ _ i=_;rw[HZ _ _ C0,IX]
 have Vo:∀g,g≠i→g≠N→V g=vs g:=λg O h2=>by show G1 _ _ _ g=_;rw[HZ _ _ h2,HZ _ _ O]
 have own:∀{r:Ai},r.Ea B.heap.size (vs i)→∀b k,Bm B.heap.size (En B r w) b k→Bm B.heap.size (vs i) b k:=λhr b k Z=>Xn hs hr (λb x F hxc _=>⟨x,F,hxc⟩) Z;have p:∀g b k,g<N+1→Bm B.heap.size (V g) b k→∃g0,g0<N∧Bm B.heap.size (vs g0) b k∧Pass t u g0 g:=λg b k S Z=>by
  by_cases C:g=N
  ·subst C;rw[VN]at Z;exact⟨i,hi,own U b k Z,hp⟩
  by_cases M:g=i
  ·subst M;rw[Vi]at Z;exact⟨g,hi,own l1 b k Z,Pass.refl _ _ _⟩
  rw[Vo g M C]at Z;exact⟨g,C0,Z,Pass.refl _ _ _⟩
 -- whose it is of what was QR
 have out:∀g b k,g<N+1→Bm B.heap.size (V g) b k→(r3.c b k≠none∨r3.o b≠none∧∃x,w.heap[b]?=some x∧∀c t f,x≠ .cells c t f)→Bm B.heap.size (vs i) b k→False:=λg b k S Z h3 W=>by
  by_cases C:g=N
  ·subst C;rw[VN]at Z;exact YA d23 L2 L3 Z h3
  by_cases M:g=i
  ·subst M;rw[Vi]at Z;exact YA d13 L1 L3 Z h3
  rw[Vo g M C]at Z;exact M (h.apart g i b k C0 hi Z W)
 refine h.move (vs2:=V) h.base Dz hu hw (λg S=>?_) (λg g' b k S T m1 m2=>?_) p (λg S=>?_) (λg b S=>?_) one
 ·by_cases C:g=N
  ·subst C;rw[VN];exact TP h.base
  by_cases M:g=i
  ·subst M;rw[Vi];exact TP h.base
  rw[Vo g M C];exact h.CD g C0
 ·have cross:∀g,g<N+1→g≠N→Bm B.heap.size (V N) b k→Bm B.heap.size (V g) b k→False:=λg S hne mN mg=>by
   rw[VN]at mN;by_cases M:g=i
   ·subst M;rw[Vi]at mg;exact YA hd L1 L2 mg (UJ mN)
   rw[Vo g M hne]at mg;exact M (h.apart g i b k C0 hi mg (own U b k mN))
  by_cases C:g=N
  ·by_cases M:g'=N
   ·rw[C,M]
   subst C;exact(cross g' T M m1 m2).elim
  by_cases M:g'=N
  ·subst M;exact(cross g S C m2 m1).elim
  have R:∀g,g<N+1→g≠N→Bm B.heap.size (V g) b k→Bm B.heap.size (vs g) b k:=λg S hne mg=>by
   by_cases e:g=i
   ·subst e;rw[Vi]at mg;exact own l1 b k mg
   rwa[Vo g e hne]at mg
  exact h.apart g g' b k C0 C0 (R g S C m1) (R g' T M m2)
 ·obtain⟨g0,k1,k2⟩:=hY g S;obtain⟨k2,rfl⟩|⟨rfl,k2⟩:=k2
  ·obtain⟨J,d⟩:=h.box g0 k2;exact⟨J,λg' T W=>let⟨g1,a1,a2,_⟩:=p g' sb 0 T W;d g1 a1 a2,g0,.inl ⟨k2,I⟩,k1⟩
  have W:=M3 l3 k2;obtain⟨x,F⟩:=Aiy.1 k2;exact⟨K9 (L3.cell _ _ _ F),λg' T hm'=>out g' sb2 0 T hm' (.inl k2) W,g0,.inr ⟨hi,W⟩,k1⟩
 obtain⟨g0,k1,k2⟩:=hX g b S;obtain k2|⟨rfl,x,k2,F⟩:=k2
 ·obtain⟨J,d,D⟩:=h.chan g0 b k2;exact⟨J,d,λg' k T W=>let⟨g1,a1,a2,_⟩:=p g' b k T W;D g1 k a1 a2,g0,.inl k2,k1⟩
 have q:=(Mb F).1 (L3.obj b x k2);exact⟨l3.GC b x k2,I9 q,λg' k T hm'=>out g' b k T hm' (.inr ⟨by rw[k2];simp,x,q,F⟩) (Vq l3 k2 F k),g0,.inr ⟨hi,Vq l3 k2 F 0⟩,k1⟩
def Zw{fn fn' pos pos' t}(hw:Wordless t):Pass t #[{g:=i,fn,pos,act:=.go N},{g:=N,fn:=fn',pos:=pos',act:=.start}] i N:=by
 have C:(t++ #[{g:=i,fn,pos,act:=.go N},{g:=N,fn:=fn',pos:=pos',act:=.start}])[t.size]?=some {g:=i,fn,pos,act:=.go N}:=by rw[Aiq Dz];simp
 have Z:(t++ #[{g:=i,fn,pos,act:=.go N},{g:=N,fn:=fn',pos:=pos',act:=.start}])[t.size+1]?=some {g:=N,fn:=fn',pos:=pos',act:=.start}:=by rw[Aiq C0];simp
 have b:Wordless (t++ #[{g:=i,fn,pos,act:=.go N},{g:=N,fn:=fn',pos:=pos',act:=.start}]):=hw.append λop S m e=>by
  simp only[oi,j1,F',or_false]at S;rcases S with rfl|rfl<;>cases e
 exact Pass.yU Dz C I Z I (.single (.inr ⟨.spawn (child:=N) (by rw[act?_of C]) (by rw[act?_of Z]) (by simp[Trace.g?,Z]),b.heard C,b.heard Z⟩))
end
def Yu(P:Program)(main:Bool)(n:Nat)(K:Goroutine→Goroutine→World→Prop)(g:Goroutine)(v:World):Prop:=
 g.status=.running∧∃g' o,(∀w,B5 n v w→stepG P main g w=.spawn g' o w #[])∧K g' o v
def Aar{G:Nat→Goroutine}{N c}:(CN G N).push c=CN (Gh G N c) (N+1):=by
 apply Aj6;intro j;rw[Array.getElem?_push,MP];by_cases e:j=N
 ·subst e;rw[AJ I,Dt C0,FB]
 rw[AF e];by_cases h:j<N
 ·rw[Dt h,Dt C0,Dr _ _ e]
 rw[n3 SF,n3 SF]
def qU{P:Program}{G:Nat→Goroutine}{N w}{sl:Option (Nat×Nat)}{child}(hi:i<N)(h:stepG P (i==0) (G i) w=.spawn g' child w #[]):
  ∃fn S pos R,runT P (crowd (CN G N) w sl) i=(.next (crowd (CN (Gh (Gh G i g') N child) (N+1)) w sl),#[{g:=i,fn,pos,act:=.go N},{g:=N,fn:=S,pos:=R,act:=.start}]):=by
 have q:=runT_crowd_spawn (sl:=sl) (Dt (G:=G) hi) h;rw[Hj,Aar,MP,ofEvents_none]at q;exact⟨_,_,_,_,q⟩
def eY{i N fn fn' pos pos'}:∀op∈(#[{g:=i,fn,pos,act:=.go N},{g:=N,fn:=fn',pos:=pos',act:=.start}]:Trace),op.act.touch?=none∧(op.g=i∨op.g=N)∧∀m,op.act≠ .mark m:=λop S=>by
 simp only[oi,j1,F',or_false]at S;obtain rfl|rfl:=S
 ·exact⟨I,.inl I,λm e=>by cases e⟩
 exact⟨I,.inr I,λm e=>by cases e⟩
end
section
open Go Go.RowKit Go.Conc
inductive S2|start|recv (pk:Bool)
def S2.to(l:List Item):S2→Dc| .start=>.start l| .recv pk=>.recv pk l
def S2.size:S2→Nat| .start=>2| .recv pk=>Hu pk
def X2(ci co:Nat)(g b:Nat):Prop:=(g=0∧b=ci)∨(g=1∧b=co)
section
variable(P:Program)(L:Nat→Option Obj)(B:World)(sb ci co:Nat)(zi zo:Value)(room:Nat)(Post:Value→World→Prop)(l:List Item)
def UI:Goroutine→World→Prop:=Yu P true B.heap.size λg' o v=>∃b d,Sat B (b*d) v∧(∀v',Sat B b v'→Co P true B.heap.size (Gt P B co zo Post false (l.map (·.2))) g' v')∧∀v',Sat B d v'→Co P false B.heap.size (He P B ci false (l.map (·.1))) o v'
def Um:Bool→Goroutine→World→Prop
 |true=>KG P true B.heap.size sb co λg v=>Co P true B.heap.size (UI P B ci co zo Post l) g v
 |false=>UI P B ci co zo Post l
def LC(a:Bool)(s:S2):Nat→Goroutine→World→Prop
 |0=>Um P B sb ci co zo Post l a
 |_=>FP P B sb ci co zi (s.to l)
def Ma(s:S2)(j:Nat):Prop:=j=1∧s=.recv true
structure Mn(w:World)(t:Trace):Prop where
 DN:∃s r tm,w.heap[ci]?=some (.chan room #[] false s r tm)
 GG:∃s tm,w.heap[co]?=some (.chan 0 #[] false s s tm)
 Hn:w.cell? ⟨sb,0,none⟩=some (.chan (some co))
 two:∀op∈t,op.g<2
def qW(a:Bool)(s:S2):Prop:=∀(G:Nat→Goroutine) (V:Nat→World),(∀j,j<2→CR P B (LC P B sb ci co zi zo Post l a s) (Ma s) j (G j) (V j))→KH P (D3 L B Post) L B sb (X2 ci co) Y3 2 (Mn sb ci co room) G V
end
section
variable{P:Program}{L:Nat→Option Obj}{B:World}{sb ci co:Nat}{zi zo:Value}{room:Nat}{Post:Value→World→Prop}{l:List Item}{a:Bool}{s:S2}{G:Nat→Goroutine}{V:Nat→World}{w w' v v':World}{t u:Trace}{sl:Option (Nat×Nat)}{i j:Nat}{g:Goroutine}{es:Array Event}
def two{p:Nat→Prop}(h0:p 0)(h1:p 1):∀j,j<2→p j:=λj F=>match j,F with|0,_=>h0|1,_=>h1
def yQ{j}(h:LC P B sb ci co zi zo Post l a s j g v):g.status=.running∨g.status=.blocked∧1≤j∧s=.recv true∧∃g2,g=parked g2 #[rcase ci zi] (.recv true):=by
 match j,h with
 |0,h=>
  cases a
  ·exact .inl h.1
  exact .inl h.1
 |j+1,h=>
  cases s with
  |start=>exact .inl h.1
  |recv pk=>
   have h:Eg P B sb ci co zi pk l g v:=h;obtain⟨g2,C,M,_⟩:=h.recv.choose_spec;cases pk with
   |false=>exact .inl C
   |true=>exact .inr ⟨C,C0,I,g2,M I⟩
def Xc{j}(p:Mn sb ci co room w t)(h:LC P B sb ci co zi zo Post l a s j g v):g.again w=g:=by
 obtain h|⟨_,_,_,g2,rfl⟩:=yQ h
 ·exact again_running _ (.inl h)
 obtain⟨s,r,tm,e⟩:=p.DN;exact again_recv_open e
def Mn.own(h:Mn sb ci co room w t)(D:Br L B sb (X2 ci co) Y3 2 V w t)(hi:i<2)(Z:HC B.heap.size (V i) w w' v' es)(fn pos):Mn sb ci co room w' (t++MemOp.ofEvents i fn pos es):=by
 obtain⟨⟨r,r1,b,C⟩,⟨q,d,M⟩,O,o⟩:=h;obtain⟨p,_,F⟩:=D.chan 0 ci OQ;obtain⟨J,_,R⟩:=D.chan 1 co Nj;refine⟨⟨r,r1,b,Z.object (D.CD i hi) p C C3 (F i 0 hi)⟩,⟨q,d,Z.object (D.CD i hi) J M C3 (R i 0 hi)⟩,Z.boxed O ((D.box 0 (.inl I)).2 i hi),λop S=>?_⟩;obtain h|h:=v7.1 S
 ·exact o op h
 exact a7
def ui{b a a'}(p:Mn sb ci co room w t)(h:CR P B (LC P B sb ci co zi zo Post l b s) (Ma s) j g v):woken P a a' w g=g:=by
 unfold woken;split
 ·obtain⟨v',h5⟩|h5:=h.1.status
  ·exact Xc p h5
  exact OE
 rfl
def pX{K:Goroutine→World→Prop}{a' s'}(hi:i<2)(D:Br L B sb (X2 ci co) Y3 2 V w t)(p:Mn sb ci co room w t)(hc:∀j,j<2→CR P B (LC P B sb ci co zi zo Post l a s) (Ma s) j (G j) (V j))(J:KG P (i==0) B.heap.size sb co K (G i) (V i))(C:∀g',K g' (V i)→∀j,j<2→CR P B (LC P B sb ci co zi zo Post l a' s') (Ma s') j (Gh G i g' j) (V j))(hE:qW P L B sb ci co zi zo room Post l a' s'):
  ∃W ops,runT P (crowd (CN G 2) w sl) i=(.next W,ops)∧Ends P (D3 L B Post) W (t++ops):=by
 obtain⟨g',es,O,U,M⟩:=J.2 w (D.CD i hi) p.Hn;have q:=runT_crowd_go (sl:=sl) (Dt (G:=G) hi) O;rw[OD λj F hne=>ui p (hc j F)]at q;refine⟨_,_,q,hE _ V (C g' M) w _ sl (D.xA (by unfold Y3;omega) U _ _) ⟨p.DN,p.GG,p.Hn,λop S=>?_⟩⟩;obtain h|h:=v7.1 S
 ·exact p.two op h
 exact a7
def wZ(hne:ci≠co)(D:Br L B sb (X2 ci co) Y3 2 V w t)(p:Mn sb ci co room w t)(hc:∀j,j<2→CR P B (LC P B sb ci co zi zo Post l a s) (Ma s) j (G j) (V j))(J:UI P B ci co zo Post l (G 0) (V 0)):
  ∃m' ops,runT P (crowd (CN G 2) w sl) 0=(.next m',ops)∧Ends P (D3 L B Post) m' (t++ops):=by
 obtain⟨_,g',o,O,H1,H2,hsat,hm,hf⟩:=J;obtain⟨fn,fn',pos,R,q⟩:=qU (sl:=sl) (i:=0) (N:=2) C0 (O w (D.CD 0 C0));obtain⟨_,_,⟨r1,r2,Z,rfl,q1,d⟩,W⟩:=hsat;have hq:= @eY 0 2 fn fn' pos R;have F:=Zw (i:=0) (N:=2) (fn:=fn) (fn':=fn') (pos:=pos) (pos':=R) D.tr.word;generalize hu:(#[{g:=0,fn,pos,act:=.go 2},{g:=2,fn:=fn',pos:=R,act:=.start}]:Trace)=u at q hq F;have T:=D.split (i:=0) (X2:=X3 ci co) (Y2:=Y3) (sb2:=sb) (r3:=Ai.nil) C0 Z (SP _).symm (by rw[dL];exact W) (λop S=>(hq op S).1) (λop S m e=>absurd e ((hq op S).2.2 m)) F (λg b hg=>by
   obtain⟨rfl,rfl⟩|⟨rfl,rfl⟩:=hg
   ·exact⟨0,F,.inl OQ⟩
   exact⟨1,Pass.refl _ _ _,.inl Nj⟩)
  (λg hg=>⟨g,Pass.refl _ _ _,.inl ⟨hg,I⟩⟩) (λg g' b O U=>by
   rcases O with⟨rfl,O⟩|⟨rfl,O⟩<;>rcases U with⟨rfl,U⟩|⟨rfl,U⟩<;>first|rfl|exact absurd (O.symm.trans U) hne|exact absurd (U.symm.trans O) hne)
 have C:=D.CD 0 C0;have L1:=K2 C W.left;have L2:=K2 C (by rw[MF Z]at W;exact W.left);have hfit:St.Fit room ⟨.ask false (l.map (·.2)),s.to l,.feed false (l.map (·.1)),[]⟩:=by
  refine⟨by cases s<;>rfl,bk _,λpk l' e=>by cases e;cases s<;>rfl,λe=>absurd I (e _ _),λl' e=>Ch,λl' e=>⟨I,I,λl2 M=>by cases M⟩,λl' e=>Ch,λe=>?_,λA l' e pk l2 M=>WX⟩;cases s<;>rcases e with e|e<;>cases e
 obtain⟨s1,r,m1,e1⟩:=p.DN;obtain⟨s2,m2,M⟩:=p.GG;refine⟨_,_,q,Aa6 (zi:=zi) (zo:=zo) (sb:=sb) (P:=P) (B:=B) (Post:=Post) hne _ hfit (Gh (Gh G 0 g') 2 o) _ (three ?_ ?_ ?_) w _ sl T ⟨⟨⟨s1,r,m1,e1⟩,⟨s2,m2,by rw[M];cases s<;>rfl⟩,p.Hn⟩,⟨λe=>Ch,λe=>WX,λe=>(by cases s<;>rcases e with e|e<;>cases e),λe=>absurd I (e _ _),λop S=>?_⟩⟩⟩
 ·rw[Dr _ _ C0,FB,HZ _ _ C0,IX];exact⟨hm _ (Oo D.base L1 q1),λZ=>by cases Me.1 Z⟩
 ·rw[Dr _ _ C0,Dr _ _ C0,HZ _ _ C0,HZ _ _ C0];have:=hc 1 C0;refine⟨this.1,λZ=>this.2 ⟨I,?_⟩⟩;have:=Ko.1 Z;cases s with
  |start=>cases this
  |recv pk=>cases pk<;>first|rfl|cases this
 ·rw[FB,IX];exact⟨hf _ (Oo D.base L2 d),λZ=>by cases Mi.1 Z⟩
 obtain h|h:=v7.1 S
 ·have:=p.two op h;omega
 rcases(hq op h).2.1 with h|h<;>rw[h]<;>omega
def nk(hne:ci≠co):∀(k:Nat) (a:Bool) (s:S2),s.size+(if a then 1 else 0)≤k→qW P L B sb ci co zi zo room Post l a s:=by
 intro k
 induction k with
 |zero=>
  intro a s hk;cases a with
  |true=>simp at hk
  |false=>
  cases s with
  |start=>simp[S2.size]at hk
  |recv pk=>
  cases pk with
  |false=>simp[S2.size,Hu]at hk
  |true=>
  intro G V hc;refine L4.ends (Stop:=LC P B sb ci co zi zo Post l false (.recv true)) (Done:=Ma (.recv true)) ⟨λw t d h=>⟨h.DN,h.GG,h.Hn,h.two⟩,λV w t i v' w' es fn pos D p M _ Z=>p.own D M Z fn pos,λj g v h t e=>tK,λj g v w t p h=>Xc p h,
   λG V w t _ _ hc=>⟨0,C0,(hc 0 C0).1.runs λg v h=>h.1⟩,λG V w t sl i D p hc M hr hst=>?_⟩ hc
  match i,M,hst with
  |0,_,hst=>exact .inl (wZ hne D p hc hst)
  |1,_,hst=>
   have hst:Eg P B sb ci co zi true l (G 1) (V 1):=hst;have:=hst.recv.choose_spec.status;rw[hr]at this;cases this
 |succ k J=>
  intro a s hk;by_cases W:s.size+(if a then 1 else 0)≤k
  ·exact J a s W
  intro G V hc;refine L4.ends (Stop:=LC P B sb ci co zi zo Post l a s) (Done:=Ma s) ⟨λw t d h=>⟨h.DN,h.GG,h.Hn,h.two⟩,λV w t i v' w' es fn pos D p M _ Z=>p.own D M Z fn pos,λj g v h t e=>tK,λj g v w t p h=>Xc p h,
   λG V w t _ _ hc=>⟨0,C0,(hc 0 C0).1.runs λg v h=>(by cases a<;>exact h.1)⟩,λG V w t sl i D p hc M hr hst=>?_⟩ hc
  match i,M,hst with
  |0,_,hst=>
   left;cases a with
   |false=>exact wZ hne D p hc hst
   |true=>
    refine pX (i:=0) (a':=false) (s':=s) C0 D p hc hst (λg' T=>two ?_ ?_) (J false s (by simp at hk⊢;omega))
    ·rw[FB];exact⟨T,λZ=>by have:=Z.1;omega⟩
    rw[Dr _ _ C0];exact hc 1 C0
  |1,_,hst=>
   left;have h0:∀s':S2,CR P B (LC P B sb ci co zi zo Post l a s') (Ma s') 0 (G 0) (V 0):=λs'=>⟨(hc 0 C0).1,λZ=>by have:=Z.1;omega⟩
   cases s with
   |start=>
    refine pX (i:=1) (a':=a) (s':=.recv false) C0 D p hc hst (λg' T=>two ?_ ?_) (J a (.recv false) aZ)
    ·rw[Dr _ _ C0];exact h0 _
    rw[FB];exact⟨T,λZ=>by cases Z.2⟩
   |recv pk=>
    have hst:Eg P B sb ci co zi pk l (G 1) (V 1):=hst;obtain rfl:pk=false:=by
     exact Va
    obtain⟨g2,O,U,h3⟩:=sE hst;obtain⟨r,r1,S,C⟩:=p.DN;have q:=crowd_waits (sl:=sl) (Dt (G:=G) (N:=2) (i:=1) C0) (U w (D.CD 1 C0)) λo b=>by
     simp only[oi,g5]at b;subst b;refine ways_recv_none C (partners_nil λj g F=>?_);obtain⟨_,rfl⟩|⟨R,F⟩:=getElem?_stand _ _ _ _ F
     ·rfl
     obtain⟨hj2,rfl⟩:=I1 F;obtain rfl:j=0:=C0;refine offersAt_of_not_blocked ?_ _ _;rw[(hc 0 C0).1.runs λg v h=>by cases a<;>exact h.1];simp
    rw[Hj,ofEvents_none]at q;refine⟨_,_,q,J a (.recv true) aZ (Gh G 1 (parked g2 #[rcase ci zi] (.recv true))) V (two ?_ ?_) w _ sl D.nil (by rw[Ak6];exact p)⟩
    ·rw[Dr _ _ C0];exact h0 _
    rw[FB];exact⟨.stop h3,λ_=>h3⟩
variable(P B Post)in
def Ot:Goroutine→World→Prop:=Yu P true B.heap.size λg' o v=>∃(HM HS:HP) (ci co sb room s r s':Nat) (tm tm':Bool) (zi zo:Value) (l:List Item),ci≠co∧
 Sat B (HM*HS*(HP.obj ci (.chan room #[] false s r tm)*HP.obj co (.chan 0 #[] false s' s' tm')*HP.AA sb 0 [.chan (some co)])) v∧
 (∀v',Sat B HM v'→Co P true B.heap.size (Um P B sb ci co zo Post l true) g' v')∧∀v',Sat B HS v'→Co P false B.heap.size (FP P B sb ci co zi (.start l)) o v'
def k_{G:Nat→Goroutine}{V:Nat→World}{child HM HS H3 s r s' tm'}(D:Br L B 0 (λ_ _=>False) (λ_=>False) 1 V w t)(p:∀op∈t,op.g<1)(h1:∀w,B5 B.heap.size (V 0) w→stepG P true (G 0) w=.spawn g' child w #[])(hne:ci≠co)(hsat:Sat B (HM*HS*H3) (V 0))(M:∀r3,H3 r3→r3.o ci=some (.chan room #[] false s r tm)∧r3.o co=some (.chan 0 #[] false s' s' tm')∧r3.c sb 0=some (.chan (some co)))(hm:∀v',Sat B HM v'→Co P true B.heap.size (Um P B sb ci co zo Post l true) g' v')(hf:∀v',Sat B HS v'→Co P false B.heap.size (FP P B sb ci co zi (.start l)) child v'):
  ∃m' ops,runT P (crowd (CN G 1) w sl) 0=(.next m',ops)∧Ends P (D3 L B Post) m' (t++ops):=by
 obtain⟨fn,fn',pos,R,q⟩:=qU (sl:=sl) (i:=0) (N:=1) C0 (h1 w (D.CD 0 C0));obtain⟨_,_,⟨r12,r3,hd3,rfl,⟨r1,r2,Z,rfl,J,d⟩,q3⟩,W⟩:=hsat;have hq:= @eY 0 1 fn fn' pos R;have F:=Zw (i:=0) (N:=1) (fn:=fn) (fn':=fn') (pos:=pos) (pos':=R) D.tr.word;generalize hu:(#[{g:=0,fn,pos,act:=.go 1},{g:=1,fn:=fn',pos:=R,act:=.start}]:Trace)=u at q hq F;obtain⟨o1,o2,o3⟩:=M r3 q3;have C:=D.CD 0 C0;have l3:r3.Ea B.heap.size (V 0):=by
  have h:=W;rw[MF hd3]at h;exact h.left
 have L3:=K2 C l3;have T:=D.split (i:=0) (X2:=X2 ci co) (Y2:=Y3) (sb2:=sb) C0 Z hd3 W (λop S=>(hq op S).1) (λop S m e=>absurd e ((hq op S).2.2 m)) F (λg b hg=>by
   obtain⟨rfl,rfl⟩|⟨rfl,rfl⟩:=hg
   ·exact⟨0,Pass.refl _ _ _,.inr ⟨I,_,o1,C3⟩⟩
   exact⟨0,F,.inr ⟨I,_,o2,C3⟩⟩)
  (λg hg=>by
   obtain rfl|rfl:=hg
   ·exact⟨0,Pass.refl _ _ _,.inr ⟨I,by rw[o3];simp⟩⟩
   ·exact⟨0,F,.inr ⟨I,by rw[o3];simp⟩⟩) (λg g' b h1 U=>by
   rcases h1 with⟨rfl,h1⟩|⟨rfl,h1⟩<;>rcases U with⟨rfl,U⟩|⟨rfl,U⟩<;>first|rfl|exact absurd (h1.symm.trans U) hne|exact absurd (U.symm.trans h1) hne)
 have l12:(r1.un r2).Ea B.heap.size (V 0):=W.left;have L1:=K2 C l12.left;have l2:r2.Ea B.heap.size (V 0):=by
  have h:=l12;rw[MF Z]at h;exact h.left
 have L2:=K2 C l2;have e1:w.heap[ci]?=_:=L3.obj ci _ o1;have e2:w.heap[co]?=_:=L3.obj co _ o2;have O:=L3.cell sb 0 _ o3;refine⟨_,_,q,nk (l:=l) (zi:=zi) (zo:=zo) hne 3 true .start (by simp[S2.size]) (Gh (Gh G 0 g') 1 child) _ (two ?_ ?_) w _ sl T ⟨⟨s,r,tm,e1⟩,⟨s',tm',e2⟩,O,λop S=>?_⟩⟩
 ·rw[Dr _ _ C0,FB,HZ _ _ C0,IX];exact⟨hm _ (Oo D.base L1 J),λZ=>by cases Z.2⟩
 ·rw[FB,IX];exact⟨hf _ (Oo D.base L2 d),λZ=>by cases Z.2⟩
 obtain h|h:=v7.1 S
 ·have:=p op h;omega
 rcases(hq op h).2.1 with h|h<;>rw[h]<;>omega
def ly{G:Nat→Goroutine}{V:Nat→World}(D:Br L B 0 (λ_ _=>False) (λ_=>False) 1 V w t)(p:∀op∈t,op.g<1)(h:Ot P B Post (G 0) (V 0)):
  ∃W ops,runT P (crowd (CN G 1) w sl) 0=(.next W,ops)∧Ends P (D3 L B Post) W (t++ops):=by
 obtain⟨_,g',o,O,M,S,ci,co,sb,room,s,r,e,tm,d,zi,zo,l,hne,b,q,C⟩:=h;refine k_ (s:=s) (r:=r) (s':=e) (tm:=tm) (tm':=d) (room:=room) (ci:=ci) (co:=co) (sb:=sb) D p O hne b (λr3 F=>?_) q C;obtain⟨_,_,_,rfl,⟨_,_,_,rfl,rfl,rfl⟩,rfl⟩:=F;exact⟨XM,by simp[Ai.un,Ne.symm hne],XM⟩
def vm{v}(hb:JS L B w)(hv:B5 B.heap.size v w)(hm:∀b i,¬Bm B.heap.size v b i)(hc:Co P true B.heap.size (Ot P B Post) g v):
  ∃n r o w' q,runNT P (n+1) (solo g w) #[]=(.ended o w',q)∧Go.runN P n (solo g w)=.next r∧step P r=.ended o w'∧Conc.Good P (D3 L B Post) r o w' q:=by
 have hE:KH P (D3 L B Post) L B 0 (λ_ _=>False) (λ_=>False) 1 (λ_ t=>∀op∈t,op.g<1) (λ_=>g) (λ_=>v):=by
  refine L4.ends (Stop:=λ_=>Ot P B Post) (Done:=λ_=>False) ⟨λw t d h=>h,λV w t i v' w' es fn pos D hJ hi _ Z op hop=>?_,λj g v h t e=>(by rw[h.1]at e;cases e),λj g v w t hJ h=>again_running _ SJ,
   λG V w t _ _ hc=>⟨0,C0,(hc 0 C0).1.runs λg v h=>h.1⟩,λG V w t sl i D hJ hc hi hr p=>?_⟩ λj F=>⟨?_,λe=>e.elim⟩
  ·exact xV
  ·obtain rfl:i=0:=by omega
   exact .inl (ly D hJ p)
  obtain rfl:j=0:=by omega
  exact hc
 exact tH
end
end
section
open Go Go.RowKit Go.Conc
structure M8 where
 main:Bool
 fn:FuncId
 kd:CallKind
 cs:List Frame
def XT(P:Program)(B:World)(K:Goroutine→World→Prop)(c:M8)(k:List Go.Item)(n:Nat)(E:A8)(ds:List Deferred)(H:HP):Prop:=
 ∀a v,DZ n E a→a.defers=ds→Sat B H v→Co P c.main B.heap.size K (G (Ac c.fn c.kd none a k) c.cs) v
def XR(P:Program)(B:World)(K:Goroutine→World→Prop)(c:M8)(n:Nat)(E:A8)(ds:List Deferred)(H:HP):Prop:=
 ∀a v k,DZ n E a→a.defers=ds→Sat B H v→Co P c.main B.heap.size K (G {Ac c.fn c.kd none a k with mode:=.returning} c.cs) v
def Y8(P:Program)(B:World)(K:Goroutine→World→Prop)(c:M8)(k:List Go.Item)(ops:Array Oper)(is:List Nat):Exit→Act→World→Prop
 | .normal,a,v=>Co P c.main B.heap.size K (G (Ac c.fn c.kd none a (.inRegion ops is::k)) c.cs) v
 |_,_,_=>False
def TH(P:Program)(main:Bool)(n:Nat)(K:Goroutine→World→Prop)(fn:FuncId)(kd:CallKind)(r:Option Nat)(k:List Go.Item)(cs:List Frame):Exit→Act→World→Prop
 | .panic _,_,_| .outgrown,_,_=>False
 |e,a,v=>LQ P main n K fn kd r k cs e a v
instance{P:Program}{main:Bool}{n:Nat}{K:Goroutine→World→Prop}{fn:FuncId}{kd:CallKind}{r:Option Nat}{k:List Go.Item}{cs:List Frame}:PQ (TH P main n K fn kd r k cs):=⟨λ_ _ _ _ _ h=>h.elim,λ_ _ h=>h⟩
section
variable{P:Program}{B:World}{K:Goroutine→World→Prop}{c:M8}{k k':List Go.Item}{n:Nat}{E:A8}{ds:List Deferred}{H:HP}{x y cd:Code}{id:Nat}{ops:Array Oper}{is:List Nat}{i:Nat}
def JV(Z:c.kd≠ .early)(h:WP P B cd (TH P c.main B.heap.size K c.fn c.kd none k c.cs) n E ⟨ds,none⟩ H):XT P B K c (.code cd::k) n E ds H:=
 λa v O U M=>h a v O U M c.main K c.fn c.kd k c.cs Z λe _ _ F=>(by cases e<;>first|exact F|exact F.elim)
def Ir(h:XT P B K c k n E ds H):BZ B (TH P c.main B.heap.size K c.fn c.kd none k c.cs) .normal n E ⟨ds,none⟩ H:=h
def nN(h:XR P B K c n E ds H):BZ B (TH P c.main B.heap.size K c.fn c.kd none k c.cs) .ret n E ⟨ds,none⟩ H:=λa v O U M k'=>
 .move (g':=G {Ac c.fn c.kd none a (.code .ret::k')with mode:=.returning} c.cs) I (λw=>by simp[G,stepG,stepG.exec,Ac]) (h a v _ O U M)
def Y7(h:XR P B K c n E ds H):XT P B K c (.code .ret::k) n E ds H:=λa v O U M=>
 .move (g':=G {Ac c.fn c.kd none a (.code .ret::k)with mode:=.returning} c.cs) I (λw=>by simp[G,stepG,stepG.exec,Ac]) (h a v _ O U M)
def nt(h:XR P B K c n E ds H):XT P B K c [] n E ds H:=λa v O U M=>
 .move (g':=G {Ac c.fn c.kd none a []with mode:=.returning} c.cs) I (λw=>by simp[G,stepG,stepG.exec,Ac]) (h a v _ O U M)
def Yr(F:exitTo id k=some k')(h:XT P B K c k' n E ds H):XT P B K c (.code (.exit id)::k) n E ds H:=λa v O U M=>
 .move (g':=G (Ac c.fn c.kd none a k') c.cs) I (λw=>by simp[G,stepG,stepG.exec,Ac,F]) (h a v O U M)
def UQ(h:XT P B K c k n E ds H):XT P B K c (.code .skip::k) n E ds H:=λa v O U M=>
 .move (g':=G (Ac c.fn c.kd none a k) c.cs) I (λw=>by simp[G,stepG,stepG.exec,Ac]) (h a v O U M)
def H9(h:XT P B K c (.code x:: .code y::k) n E ds H):XT P B K c (.code (.seq x y)::k) n E ds H:=λa v O U M=>
 .move (g':=G (Ac c.fn c.kd none a (.code x:: .code y::k)) c.cs) I (λw=>by simp[G,stepG,stepG.exec,Ac]) (h a v O U M)
def Pk(h:XT P B K c (.code x:: .inBlock id::k) n E ds H):XT P B K c (.code (.block id x)::k) n E ds H:=λa v O U M=>
 .move (g':=G (Ac c.fn c.kd none a (.code x:: .inBlock id::k)) c.cs) I (λw=>by simp[G,stepG,stepG.exec,Ac]) (h a v O U M)
def Xy(h:XT P B K c k n E ds H):XT P B K c (.inBlock id::k) n E ds H:=λa v O U M=>
 .move (g':=G (Ac c.fn c.kd none a k) c.cs) I (λw=>by simp[G,stepG,stepG.exec,Ac]) (h a v O U M)
def ZV(h:XT P B K c (.code x:: .inLoop x::k) n E ds H):XT P B K c (.code (.loop x)::k) n E ds H:=λa v O U M=>
 .move (g':=G (Ac c.fn c.kd none a (.code x:: .inLoop x::k)) c.cs) I (λw=>by simp[G,stepG,stepG.exec,Ac]) (h a v O U M)
def XC(h:XT P B K c (.code x:: .inLoop x::k) n E ds H):XT P B K c (.inLoop x::k) n E ds H:=λa v O U M=>
 .move (g':=G (Ac c.fn c.kd none a (.code x:: .inLoop x::k)) c.cs) I (λw=>by simp[G,stepG,stepG.exec,Ac]) (h a v O U M)
def Mz{t b}(hb:ev E t=some (.bool b))(h:XT P B K c (.code (if b then x else y)::k) n E ds H):XT P B K c (.code (.cond t x y)::k) n E ds H:=λa v O U M=>by
 refine .move (g':=G (Ac c.fn c.kd none a (.code (if b then x else y)::k)) c.cs) I (λw=>?_) (h a v O U M);have:=Zl (fn:=c.fn) (kd:=c.kd) (r:=none) (a:=a) t (.code (.cond t x y)::k);simp only[Ac]at this;simp[G,stepG,stepG.exec,Ac,this,O.ev hb]
def PA(hi:List.range ops.size=is)(h:XT P B K c (.inRegion ops is::k) n E ds H):XT P B K c (.code (.region id ops false)::k) n E ds H:=λa v O U M=>
 .move (g':=G (Ac c.fn c.kd none a (.inRegion ops (List.range ops.size)::k)) c.cs) I (λw=>by simp[G,stepG,stepG.exec,Ac]) (by rw[hi];exact h a v O U M)
def T8(h:XT P B K c k n E ds H):XT P B K c (.inRegion ops []::k) n E ds H:=λa v O U M=>
 .move (g':=G (Ac c.fn c.kd none a k) c.cs) I (λw=>by simp[G,stepG,stepG.exec,Ac]) (h a v O U M)
def Q3{H'}(e:H=H')(h:XT P B K c k n E ds H'):XT P B K c k n E ds H:=e▸h
def Lj{E'}(s:Sub E E')(h:XT P B K c k n E' ds H):XT P B K c k n E ds H:=λa v O U M=>h a v (O.sub s) U M
def Xh{H'}(e:∀v,Sat B H v→Sat B H' v)(h:XT P B K c k n E ds H'):XT P B K c k n E ds H:=λa v O U M=>h a v O U (e v M)
def NS(h:∀a v,DZ n E a→a.defers=ds→Sat B H v→K (G (Ac c.fn c.kd none a k) c.cs) v):XT P B K c k n E ds H:=λa v O U M=>.stop (h a v O U M)
def Co.part{Q:Exit→Act→World→Prop}{main m fn kd}(Z:kd≠ .early)(R:∀e a v,¬Q (.panic e) a v)(d:∀a v,Q .normal a v→Co P main m K (G (Ac fn kd none a (.inRegion ops is2::k)) cs) v):∀(is:List Nat) (l:List Oper) (a:Act) (v:World),is.map (ops[·]?)=l.map some→
  Hw P m none ops Q l a v→Co P main m K (G (Ac fn kd none a (.inRegion ops (is++is2)::k)) cs) v
 |[],[],a,v,_,h=>d a v h
 |i::is,o::l,a,v,J,h=>by
  simp only[hP,List.cons.injEq]at J;unfold Hw at h;by_cases b:Region.wanted o (yielded ops a.tmps)=true
  ·rw[AJ b]at h;exact Co.oper J.1 b Z h.1 h.2 (λp v' F=>Co.part Z R d is l p v' J.2 F) λe p v' q=>absurd q (R _ _ _)
  rw[AF b]at h;exact Co.XE J.1 (by simpa using b) (Co.part Z R d is l _ v J.2 h)
 |[],_::_,_,_,J,_=>by simp at J
 |_::_,[],_,_,J,_=>by simp at J
def Acq{is b:List Nat}{l:List Oper}(Z:c.kd≠ .early)(J:is=b++is2)(W:b.map (ops[·]?)=l.map some)(h:WL P B ops (Y8 P B K c k ops is2) l n E ⟨ds,none⟩ H):XT P B K c (.inRegion ops is::k) n E ds H:=λa v O U M=>by
 rw[J];exact Co.part Z (λ_ _ _ h=>h) (λa v h=>h) b l a v W (h a v O U M)
def Hq{is}(b:List Nat)(Z:c.kd≠ .early)(J:is=b++is2)(W:b.map (ops[·]?)=(b.filterMap (ops[·]?)).map some)(h:WL P B ops (Y8 P B K c k ops is2) (b.filterMap (ops[·]?)) n E ⟨ds,none⟩ H):XT P B K c (.inRegion ops is::k) n E ds H:=Acq Z J W h
def Aei(h:XT P B K c (.inRegion ops is::k) n E ds H):BZ B (Y8 P B K c k ops is) .normal n E ⟨ds,none⟩ H:=h
def cW{f}{fn:Func}{t}{xs:List Operand}{vs ats ty pos af}[hf:Aa P f](o:ops[i]?=some ⟨t,.call ⟨.value (.func f),xs.toArray,ats⟩,ty,pos,af,none⟩)(Z:c.kd≠ .early)(F:Dw E xs=some vs)(r:P.funcs[f]?=some fn)(hb:fn.body=some cd)(hm:Nat.ble (aa vs) fn.ntmps=true)(h:∀a,DZ n E a→a.defers=ds→XT P B K ⟨c.main,f,.normal,Ac c.fn c.kd none a (.inRegion ops (i::is)::k)::c.cs⟩ [.code cd] fn.ntmps (IL 0 vs) [] H):XT P B K c (.inRegion ops (i::is)::k) n E ds H:=by
 intro a v O U M;refine .step ⟨I,λw C=>?_⟩;have d:=M.EU (.pad v w);have q:(execOp a.eval ⟨t,.call ⟨.value (.func f),xs.toArray,ats⟩,ty,pos,af,none⟩).run P (pad v w)=.ok (.enter f vs.toArray) (pad v w):=by
  simp only[execOp,resolve,hI,Fy O F,Act.eval,Deferred.ofValue,bn,bp,b0,invoke];simp[hf.get]
 have R:A9 B.heap.size P (execOp a.eval ⟨t,.call ⟨.value (.func f),xs.toArray,ats⟩,ty,pos,af,none⟩) (pad v w):=by
  simp only[A9,BL,execOp,resolve,hI,Fy O F,Act.eval,Deferred.ofValue,bp,B3,BX,invoke,true_and];exact hf.Ez _ _ _ _
 obtain⟨w',es,p,D⟩:=LN C R q;have S:=stepG_oper (P:=P) (main:=c.main) (b:=Ac c.fn c.kd none a []) (a:=a) (k:=k) (cs:=c.cs) (w:=w) (rest:=is) o Ni;refine⟨_,w',_,seen P c.fn es,S.trans ?_,D _ IE,h a O U {tmps:=vs.toArray++Array.replicate (fn.ntmps-vs.toArray.size) undef,defers:=[]} _ ⟨?_,?_⟩ I d⟩
 ·have J:(execOp a.eval ⟨t,.call ⟨.value (.func f),xs.toArray,ats⟩,ty,pos,af,none⟩).runT P w #[]=(.ok (.enter f vs.toArray) w',es):=p;have W:(c.kd==CallKind.early)=false:=by simpa using Z
  have:=OX (args:=vs.toArray) .normal r hb;simp only[stepG.apply,J,Frame.at,Ac,W,if_true];simp only[GStep.after,this,G,Ac];simp[W]
 ·have:aa vs≤fn.ntmps:=by simpa using hm
  simp;omega
 exact rD
def aJ{f:Func}{ts:List Nat}{vs}{fr:Frame}{main g}(hf:P.funcs[g]?=some f)(hr:f.results=(ts.map ResultVar.tmp).toArray)(S:Dw E (ts.map Operand.tmp)=some vs)(h:∀v,Sat B H v→Co P main B.heap.size K (G (fr.finish (FH vs)) cs) v):XR P B K ⟨main,g,.normal,fr::cs⟩ n E [] H:=by
 intro a v k O U M;refine Co.returns (f:=f) hf I U I λw C=>?_;obtain⟨J,x,v',d,D⟩:=K8 (P:=P) (R:=λe v=>∀y,e=.returned y→Co P main B.heap.size K (G (fr.finish y) cs) v) hr O S M (λv S y e=>by cases e;exact h v S) w C;exact⟨J,x,v',d,D x I⟩
def zJ{main fn kd}{a:Act}{o:Oper}{u v m}(b:ops[i]?=some o)(h:Co P main m K (G (Ac fn kd none (a.put o.dst u) (.inRegion ops is::k)) cs) v):
  Co P main m K (G ((Ac fn kd none a (.inRegion ops (i::is)::k)).finish u) cs) v:=by rw[Mc b];exact h
end
end
end Go.Proofs.YtgfdlpcdjklcoaaGreatDoor
