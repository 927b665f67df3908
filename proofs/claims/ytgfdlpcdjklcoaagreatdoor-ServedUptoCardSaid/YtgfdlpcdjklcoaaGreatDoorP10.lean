/- Steps of this proof; no condition. -/
import Derived.Test.YtgfdlpcdjklcoaaGreatDoorP9
namespace Go.Proofs.YtgfdlpcdjklcoaaGreatDoor
open Go Go.RowKit Go.Proofs.Tryz HP AB AO
open _root_.List renaming length→aa
set_option linter.all false
variable{xs ys:List UInt8}{s:List Value}{p:Option Addr}
open _root_.UInt64 renaming ofNat→ad
open _root_.List renaming replicate→a9,length→cx
set_option maxRecDepth 20000
section
variable{B:World}
def Kept(b o:Nat)(xs:List UInt8)(n:Nat)(V o':Nat)(ys:List UInt8)(c:Nat)(Q:HP):Prop:=
 ∀A:List Value,aa A=c→∃q D,aa q=n∧AC V o' ys A*Q=D*AC b o xs q
def Kept.refl(b o)(xs:List UInt8)(n):Kept b o xs n b o xs n Bs:=λA h=>⟨A,Bs,h,C4⟩
def Kept.trans{b o n C j S h V F}{c:List UInt8}{a e}(h1:Kept b o xs n C j ys S a)(h2:Kept C j ys S h V c F e):Kept b o xs n h V c F (e*a):=by
 intro q Y;obtain⟨A,f,i,M⟩:=h2 q Y;obtain⟨L,D0,k,X⟩:=h1 A i;refine⟨L,f*D0,k,?_⟩;rw[←HP.assoc,M,HP.assoc,X,HP.assoc]
def FL(b o:Nat)(xs:List UInt8)(s:List Value)(R:HP)(ys:List UInt8)(v:Value)(H':HP):Prop:=
 ∃e V A G K Q,v=.slice e (aa ys) G∧Sl e V A (aa ys) G∧aa ys*1+aa K=G*1∧H'=AC V A ys K*(Q*R)∧Kept b o xs (aa s) V A ys (aa K) Q
def FL.after{b o n C j:Nat}{c:List UInt8}{A a R H' v}(h1:Kept b o xs (aa s) C j ys (aa A) a)(h:FL C j ys A (a*R) c v H'):FL b o xs s R c v H':=by
 obtain⟨e,V,f,G,K,Q,rfl,U,M,rfl,Z⟩:=h;exact⟨e,V,f,G,K,Q*a,I,U,M,by rw[HP.assoc],h1.trans Z⟩
def Ss.mQ{b o c R H' v}(C:Sl p b o (aa xs) c)(W:aa xs*1+aa s=c*1)(h:Ss p b o c xs s R ys v H'):FL b o xs s R (xs++ys) v H':=by
 obtain⟨O,rfl,rfl⟩|⟨O,V,G,K,rfl,U,M,rfl⟩:=h
 ·refine⟨p,b,o,c,s.drop (aa ys*AB.sz UInt8),Bs,by rw[a5],⟨?_,by rw[a5];exact O⟩,?_,Ce,?_⟩
  ·exact C.1
  ·have:AB.sz UInt8=1:=rfl;rw[a5,di,this];omega
  intro A S;refine⟨AE ys++A,Bs,?_,?_⟩
  ·have:AB.sz UInt8=1:=rfl;rw[di,this]at S;rw[a5,CV,this];omega
  unfold AC;rw[GH,c5];ac_rfl
 refine⟨_,V,0,G,K,AC b o xs s,by rw[a5],⟨.inr I,by rw[a5];exact U⟩,?_,I,?_⟩
 ·rw[a5];exact M
 intro A S;exact⟨s,AC V 0 (xs++ys) A,I,I⟩
section
variable{P:Program}{n:Nat}{E:A8}{D:CW}{d:Option Tmp}{ty:TypeId}{pos:String}{af:Array Edge}{g:Option (Nat×Bool)}{x y:Operand}
def Nt{R sT xT e by_ b o bb oo cc c pp}{z:Value}[hT:Aw P sT (.slice e)][hT2:Aw P xT (.slice e)][hz:CG P e 1][hi:Ft P e by_][h0:Bh P e z](F:ev E x=some (.slice p (aa xs) c))(C:Sl p b o (aa xs) c)(W:aa xs*1+aa s=c*1)(G:ev E y=some (.slice pp (aa ys) cc))(Y:Sl pp bb oo (aa ys) cc)(hr:AZ B (AC b o xs s*R) bb oo ys)(N:z.cells.size=1)(hb:(aa xs+aa ys)*by_≤140737488355328)(q:0<by_):
  DT P B n ⟨d,.call ⟨.builtin .append,#[x,y],#[sT,xT]⟩,ty,pos,af,g⟩ E D (AC b o xs s*R) (λv S=>FL b o xs s R (xs++ys) v S):=by
 intro a w O U M K Q Z;exact lN (α:=UInt8) (hT:=hT) (hT2:=hT2) (hz:=hz) (hi:=hi) (h0:=h0) F C W G Y hr N hb q a w O U M K Q (λv S V h=>Z v S V (h.mQ C W))
def t8{R sT xT e by_ b o c}{G:Value}{str:ByteArray}[hT:Aw P sT (.slice e)][hT2:Aw P xT .string][hz:CG P e 1][hi:Ft P e by_][h0:Bh P e G](hx:ev E x=some (.slice p (aa xs) c))(C:Sl p b o (aa xs) c)(W:aa xs*1+aa s=c*1)(hy:ev E y=some (.string str))(N:G.cells.size=1)(hb:(aa xs+str.size)*by_≤140737488355328)(q:0<by_):
  DT P B n ⟨d,.call ⟨.builtin .append,#[x,y],#[sT,xT]⟩,ty,pos,af,g⟩ E D (AC b o xs s*R) (λv S=>FL b o xs s R (xs++str.data.toList) v S):=by
 intro a w h1 _ M K Q Z;have hl:aa str.data.toList=str.size:=by rw[Ajk];rfl
 have V:∀w',Sat B (AC b o xs s*R) w'→(Builtin.firstCells (AB.sz UInt8) (aa str.data.toList) (.string str)).run P w'=.ok (AE str.data.toList).toArray w':=by
  exact jJ
 have f:∀w',Sat B (AC b o xs s*R) w'→∀m D,Al m D P (Builtin.firstCells (AB.sz UInt8) (aa str.data.toList) (.string str)) w':=λw' _ m D=>by simp[Builtin.firstCells]
 obtain⟨v,w',hrun,⟨S,j,L⟩,A⟩:=dI (P:=P) (B:=B) (R:=R) (b:=b) (o:=o) (p:=p) (c:=c) (xs:=xs) (ys:=str.data.toList) (s:=s) (sT:=sT) (xT:=xT) (ats:= #[sT,xT]) (e:=e) (by_:=by_) (ty:=ty) (x:=.string str) (w:=w) (z:=G) hT.get I I (λk h=>by rw[hT2.get]at h;cases h) ⟨_,hT2.get⟩ hz.get hi.get h0.get N h0.live C W Cy (λY U=>V Y U) f (by rw[hl];exact hb) q M;have i:(execOp a.eval ⟨d,.call ⟨.builtin .append,#[x,y],#[sT,xT]⟩,ty,pos,af,g⟩).run P w=.ok (.value v) w':=by
  exact YT
 refine Oper.Gg ?_ i (Z v S w' (j.mQ C W) L);simp[execOp,resolve,h1.ev hx,h1.ev hy,invoke,builtin,A]
end
def Js(n)(hn:n≤4611686018427387903)(p b o c)(xs:List UInt8)(s R)(C:Sl p b o (aa xs) c)(W:aa xs*1+aa s=c*1)(F:aa xs<1000000000000):
  Fn prog B 194 [.slice p (aa xs) c,uN n] (AC b o xs s*R) (λv S=>FL b o xs s R (xs++AU n) v S):=by
 refine jR ?_;refine mC (λhc0=>?_) (λhc0=>?_)
 ·refine BB ?_;refine Ga ?_;rintro _ _ ⟨N,rfl,rfl⟩;refine BH (H':=AC b o xs s*(AA N 0 (AE (AU n))*R)) lF ?_;have hl:aa (AU n)=1:=by simp[AU, *]
  exact Ae (Nt (ys:=AU n) (bb:=N) (oo:=0) (cc:=1) I C W Cy Cz AH I Mg C0) I YW
 refine J3 ?_;refine JL (ID (j:=16384) I I)<|J3 ?_;refine mC (λhc1=>?_) (λhc1=>?_)
 ·refine tW ?_;rintro _ _ ⟨h,rfl,rfl⟩;refine BH (H':=AC b o xs s*(AA h 0 (AE (AU n))*R)) bC ?_;have hl:aa (AU n)=2:=by simp[AU, *]
  exact Ae (Nt (ys:=AU n) (bb:=h) (oo:=0) (cc:=2) I C W Cy Cz AH I Mg C0) I YW
 refine J3 ?_;refine JL (ID (j:=1073741824) I I)<|J3 ?_;refine mC (λhc2=>?_) (λhc2=>?_)
 ·refine pP ?_;rintro _ _ ⟨a,rfl,rfl⟩;refine BH (H':=AC b o xs s*(AA a 0 (AE (AU n))*R)) Z7 ?_;have hl:aa (AU n)=4:=by simp[AU, *]
  exact Ae (Nt (ys:=AU n) (bb:=a) (oo:=0) (cc:=4) I C W Cy Cz AH I Mg C0) I YW
 refine cM ?_;rintro _ _ ⟨e,rfl,rfl⟩;refine BH (H':=AC b o xs s*(AA e 0 (AE (AU n))*R)) Zs ?_;have hl:aa (AU n)=8:=by simp[AU, *]
 refine Ae (Nt (ys:=AU n) (bb:=e) (oo:=0) (cc:=8) I C W Cy Cz AH I Mg C0) I ?_;rintro _ _ ⟨q,b',o',c',s',Q,rfl,h1,h2,rfl,hk⟩;refine J4 ?_;exact kL
def zt(d:ByteArray)(F:d.size<1000000000000)(p:Option Addr)(b o c:Nat)(xs:List UInt8)(s:List Value)(R:HP)(J:Sl p b o (aa xs) c)(W:aa xs*1+aa s=c*1)(V:aa xs<1000000000000):
  Fn prog B 200 [.slice p (aa xs) c,.string d] (AC b o xs s*R) (λv S=>FL b o xs s R (xs++AU d.size++d.data.toList) v S):=by
 refine mI func200 ?_;refine CK ?_;refine mE I (Js d.size C0 p b o c xs s R J W C0) ?_;rintro _ _ ⟨O,K,L,w,Y,G,rfl,e,X,rfl,a⟩;refine J1 ?_;refine Ae (t8 (str:=d) I e X I I sH C0) I ?_;rintro _ _ l;obtain⟨M,N,f,U,r,A,rfl,h,C,rfl,t⟩:=FL.after (n:=0) a l;refine J4 ?_;exact mR [4] (AC N f (xs++AU d.size++d.data.toList) r*(A*R)) I I ⟨M,N,f,U,r,A,I,h,C,I,t⟩
def yz(r:RF)(fb p b o c)(xs:List UInt8)(s R)(C:Sl p b o (aa xs) c)(W:aa xs*1+aa s=c*1)(F:aa xs<100000000000)(st)(hst:r.f.stream=(st:Nat))(hst4:st<4)(J:r.f.code≤4611686018427387903)(w:r.f.offset≤4611686018427387903):
  Fn prog B 193 [.slice p (aa xs) c,ptr fb 0] (AC b o xs s*(AA fb 0 (AN r)*R)) (λv H'=>FL b o xs s (AA fb 0 (AN r)*R) (xs++[4]++AU st++AU r.f.code++AU r.f.offset) v H'):=by
 refine mI func193 ?_;have q1:=DS st;have q2:=DS r.f.code;have M:=DS r.f.offset;refine J6 ?_;refine Zx ?_;refine Au 1 C1 I I It ?_;rintro _ _ ⟨b6,rfl,rfl⟩;refine BT ?_;refine wF ?_;refine Au 2 C1 I I (Nt (ys:=[4]) (bb:=b6) (oo:=0) (cc:=1) I C W I Bz AH I C9 C0) ?_;rintro _ _ ⟨p7,b7,o7,c7,s7,Q7,rfl,S,hc7,rfl,hk7⟩;refine BT ?_;refine Au 8 C1 I I (Bd I (Js (st) C0 p7 b7 o7 c7 (xs++[4]) s7 _ S hc7 Ck)) ?_;rintro _ _ h;obtain⟨N,Y,o13,c13,a,Q13,rfl,K,L,rfl,hk13⟩:=FL.after (n:=0) hk7 h;refine BT ?_;refine Au 13 C1 I I (Bd I (Js (r.f.code) J N Y o13 c13 (xs++[4]++AU st) a _ K L Ck)) ?_;rintro _ _ hG18;obtain⟨p18,G,V,t,s18,Q18,rfl,O,U,rfl,hk18⟩:=FL.after (n:=0) hk13 hG18;refine BT ?_;refine Au 18 C1 I I (Bd I (Js (r.f.offset) w p18 G V t (xs++[4]++AU st++AU r.f.code) s18 _ O U Ck)) ?_;rintro _ _ hG23;obtain⟨p23,b23,A,c23,X,Q23,rfl,e,l,rfl,hk23⟩:=FL.after (n:=0) hk18 hG23;refine FF ?_;refine GU 19 C1 I I HG Fk<|A5 ?_;exact mR [4] (AC b23 A (xs++[4]++AU st++AU r.f.code++AU r.f.offset) X*(Q23*(AA fb 0 (AN r)*R))) I I ⟨p23,b23,A,c23,X,Q23,I,e,l,I,hk23⟩
def Abg(r:RF)(fb p b o c)(xs:List UInt8)(s R)(C:Sl p b o (aa xs) c)(W:aa xs*1+aa s=c*1)(F:aa xs<100000000000)(st)(hst:r.f.stream=(st:Nat))(hst4:st<4)(w:r.f.offset≤4611686018427387903)(X:r.f.data.size<1000000000000):
  Fn prog B 199 [.slice p (aa xs) c,ptr fb 0] (AC b o xs s*(AA fb 0 (AN r)*R)) (λv H'=>FL b o xs s (AA fb 0 (AN r)*R) (xs++[bif r.f.fin then 9 else 8]++AU st++AU r.f.offset++AU r.f.data.size++r.f.data.data.toList) v H'):=by
 refine mI func199 ?_;have q1:=DS st;have q2:=DS r.f.code;have M:=DS r.f.offset;refine J7 ?_;refine JL U9<|CK ?_;refine Bq (α:=Unit) (λ_=>[(0,.slice p (aa xs) c),(1,ptr fb 0),(5,u8 (bif r.f.fin then 9 else 8))]) (λ_=>AC b o xs s*(AA fb 0 (AN r)*R)) (λ_=>True) ?_ ?_
 ·exact Vu
 rintro z J;refine J2 ?_;refine bT ?_;refine Au 2 C1 I I It ?_;rintro _ _ ⟨b12,rfl,rfl⟩;refine BT ?_;refine gA ?_;refine Au 3 C1 I I (Nt (ys:=[(bif r.f.fin then(9:UInt8)else 8)]) (bb:=b12) (oo:=0) (cc:=1) I C W I Bz AH I C9 C0) ?_;rintro _ _ ⟨N,Y,l,c13,a,Q13,rfl,K,L,rfl,h⟩;refine BT ?_;refine Au 9 C1 I I (Bd I (Js (st) C0 N Y l c13 (xs++[bif r.f.fin then 9 else 8]) a _ K L Ck)) ?_;rintro _ _ hG19;obtain⟨V,G,e,c19,S,Q19,rfl,t,O,rfl,hk19⟩:=FL.after (n:=0) h hG19;refine BT ?_;refine Au 14 C1 I I (Bd I (Js (r.f.offset) w V G e c19 (xs++[bif r.f.fin then 9 else 8]++AU st) S _ t O Ck)) ?_;rintro _ _ hG24;obtain⟨p24,b24,o24,c24,s24,Q24,rfl,A,U,rfl,hk24⟩:=FL.after (n:=0) hk19 hG24;refine BT ?_;refine Au 19 C1 I I (Bd I (zt r.f.data X p24 b24 o24 c24 (xs++[bif r.f.fin then 9 else 8]++AU st++AU r.f.offset) s24 _ A U C9)) ?_;rintro _ _ hG29;obtain⟨p29,b29,o29,c29,s29,Q29,rfl,hs29,hc29,rfl,hk29⟩:=FL.after (n:=0) hk24 hG29;refine FF ?_;refine Sz ?_;refine A5 ?_;exact mR [4] (AC b29 o29 (xs++[bif r.f.fin then 9 else 8]++AU st++AU r.f.offset++AU r.f.data.size++r.f.data.data.toList) s29*(Q29*(AA fb 0 (AN r)*R))) I I ⟨p29,b29,o29,c29,s29,Q29,I,hs29,hc29,I,hk29⟩
def Abf(r:RF)(fb p b o c)(xs:List UInt8)(s R)(C:Sl p b o (aa xs) c)(W:aa xs*1+aa s=c*1)(F:aa xs<100000000000)(hrok:r.ok)(hrd:AZ B R r.b r.o r.f.ranges)(N:Io r.f.ranges)(hrl:aa r.f.ranges<10000000000):
  Fn prog B 190 [.slice p (aa xs) c,ptr fb 0] (AC b o xs s*(AA fb 0 (AN r)*R)) (λv H'=>FL b o xs s (AA fb 0 (AN r)*R) (xs++[2]++AU (rg r.f.ranges 0).hi++AU (aa r.f.ranges-1)++AU ((rg r.f.ranges 0).hi-(rg r.f.ranges 0).lo)++CF r.f.ranges (aa r.f.ranges-1)) v H'):=by
 refine mI func190 ?_;have hne:0<aa r.f.ranges:=kz.2 N.1;have A:=N.2 0 hne;unfold Gc at A;have q1:=DS (rg r.f.ranges 0).hi;have q2:=DS (aa r.f.ranges-1);have q3:=DS ((rg r.f.ranges 0).hi-(rg r.f.ranges 0).lo);refine CK ?_;refine JL wC<|JL eJ<|LV ?_;rintro _ _ ⟨b5,rfl,rfl⟩;refine Bn ?_;refine bK ?_;rintro _ _ ⟨b15,rfl,rfl⟩;refine BT ?_;refine j7 ?_;refine Au 2 C1 I I (Nt (ys:=[2]) (bb:=b15) (oo:=0) (cc:=1) I C W I Bz AH I C9 C0) ?_;rintro _ _ ⟨p16,b16,o16,c16,M,Q16,rfl,hs16,t,rfl,hk16⟩;refine BT ?_;refine Au 5 C1 I I (Bd I (Js ((rg r.f.ranges 0).hi) A.2.1 p16 b16 o16 c16 (xs++[2]) M _ hs16 t Ck)) ?_;rintro _ _ hG19;obtain⟨p19,G,o19,c19,S,Q19,rfl,hs19,O,rfl,hk19⟩:=FL.after (n:=0) hk16 hG19;refine BT ?_;refine Au 13 C1 I I (Bd I (Js (aa r.f.ranges-1) C0 p19 G o19 c19 (xs++[2]++AU (rg r.f.ranges 0).hi) S _ hs19 O Ck)) ?_;rintro _ _ hG27;obtain⟨p27,b27,o27,c27,s27,Q27,rfl,hs27,hc27,rfl,hk27⟩:=FL.after (n:=0) hk19 hG27;refine BT ?_;refine Au 19 C1 I I (Bd I (Js ((rg r.f.ranges 0).hi-(rg r.f.ranges 0).lo) C0 p27 b27 o27 c27 (xs++[2]++AU (rg r.f.ranges 0).hi++AU (aa r.f.ranges-1)) s27 _ hs27 hc27 Ck)) ?_;rintro _ _ hG33;obtain⟨p33,U,o33,c33,s33,Q33,rfl,hs33,hc33,rfl,hk33⟩:=FL.after (n:=0) hk27 hG33;refine FF ?_;refine Sz ?_;refine Bn ?_;refine I4 (AC U o33 (xs++[2]++AU (rg r.f.ranges 0).hi++AU (aa r.f.ranges-1)++AU ((rg r.f.ranges 0).hi-(rg r.f.ranges 0).lo)) s33*(Q33*(AA fb 0 (AN r)*R)))<|BB ?_;refine JL iG<|BB ?_;generalize V:(xs++[2]++AU (rg r.f.ranges 0).hi++AU (aa r.f.ranges-1)++AU ((rg r.f.ranges 0).hi-(rg r.f.ranges 0).lo))=pre at*;have hpl:aa pre<200000000000:=by rw[←V];simp only[a5,f',ss];omega
 refine Bf (α:=Nat×Option Addr×Nat×Nat×Nat×List Value×HP) (λz=>[(0,.slice z.2.1 (aa (pre++CF r.f.ranges z.1)) z.2.2.2.2.1),(1,ptr fb 0),(38,.slice (sp r.p r.c 1 2) (aa r.f.ranges-1) (r.c-1)),(39,iN (aa r.f.ranges-1)),(40,iN z.1)]) (λz=>AC z.2.2.1 z.2.2.2.1 (pre++CF r.f.ranges z.1) z.2.2.2.2.2.1*(z.2.2.2.2.2.2*(AA fb 0 (AN r)*R))) (λz=>z.1≤aa r.f.ranges-1∧Sl z.2.1 z.2.2.1 z.2.2.2.1 (aa (pre++CF r.f.ranges z.1)) z.2.2.2.2.1∧aa (pre++CF r.f.ranges z.1)*1+aa z.2.2.2.2.2.1=z.2.2.2.2.1*1∧Kept b o xs (aa s) z.2.2.1 z.2.2.2.1 (pre++CF r.f.ranges z.1) (aa z.2.2.2.2.2.1) z.2.2.2.2.2.2) (λz=>aa r.f.ranges-1-z.1) (0,p33,U,o33,c33,s33,Q33) ⟨bk _,by simpa[CF]using hs33,by simpa[CF]using hc33,by simpa only[CF,g8]using hk33⟩ jH Yg ?_;rintro⟨i,p9,K,L,w,s9,Q9⟩ ⟨hi,e,X,a⟩;dsimp only at hi e X a⊢;have hel:=P' r.f.ranges i;have hyl:aa (pre++CF r.f.ranges i)<900000000000:=C9;generalize hys:pre++CF r.f.ranges i=ys at*;refine J6 ?_;refine mC (λhlt=>?_) (λhlt=>?_)
 ·have hk:=N.2 (i+1) C0;have Y:=N.2 i C0;unfold Gc at hk Y;simp only[Jx]at hk;refine J7 ?_;refine JL jM<|JL qG<|LV ?_;rintro _ _ ⟨b7,rfl,rfl⟩;refine Bn ?_;refine A3 (H':=AC K L ys s9*(Q9*(AA b7 0 [uN (rg r.f.ranges (i+1)).lo,uN (rg r.f.ranges (i+1)).hi]*(AA fb 0 (AN r)*R)))) C4 ?_;have v1:=DS ((rg r.f.ranges i).lo-(rg r.f.ranges (i+1)).hi-2);refine fO ?_;refine Au 13 C1 I I (Bd I (Js ((rg r.f.ranges i).lo-(rg r.f.ranges (i+1)).hi-2) C0 p9 K L w (ys) s9 _ e X Ck)) ?_;rintro _ _ hG58;obtain⟨p58,b58,o58,c58,s58,Q58,rfl,hs58,hc58,rfl,hk58⟩:=FL.after (n:=0) a hG58;refine BT ?_;refine Au 19 C1 I I (Bd I (Js ((rg r.f.ranges (i+1)).hi-(rg r.f.ranges (i+1)).lo) C0 p58 b58 o58 c58 (ys++AU ((rg r.f.ranges i).lo-(rg r.f.ranges (i+1)).hi-2)) s58 _ hs58 hc58 C9)) ?_;rintro _ _ hG64;obtain⟨p64,b64,o64,c64,s64,Q64,rfl,h,J,rfl,hk64⟩:=FL.after (n:=0) hk58 hG64;rw[←hys,Xi]at h J hk64⊢;refine BT ?_;refine Be ?_;exact Bg (AC b64 o64 (pre++CF r.f.ranges (i+1)) s64*(Q64*(AA fb 0 (AN r)*R))) (BV (i+1,p64,b64,o64,c64,s64,Q64) ⟨C0,h,J,hk64⟩ ZF Gx I)
 have hie:i=aa r.f.ranges-1:=C0;refine Fi ?_;subst hie;rw[←hys]at e X a⊢;exact mR [4] (AC K L (pre++CF r.f.ranges (aa r.f.ranges-1)) s9*(Q9*(AA fb 0 (AN r)*R))) I I (by rw[←V]at e X a⊢;exact⟨p9,K,L,w,s9,Q9,I,e,X,I,a⟩)
def Gw.zp{k:Int}{f1 f2 f3 w V a C}(h:Gw k f1 w f2 V f3 a C)(j:3≤k∧k≤5)(r:RF)(l p b o c)(xs:List UInt8)(s R)(hm:G6 r)(A:r.f.kind=k)(N:B4 r.f)(hr:AZ B R r.b r.o r.f.ranges)(i:Sl p b o (aa xs) c)(W:aa xs*1+aa s=c*1)(F:aa xs<100000000000):
  Fn prog B f1 ([.slice p (aa xs) c,ptr l 0]++w) (AC b o xs s*(AA l 0 (AN r)*(C*R))) (λv S=>FL b o xs s (AA l 0 (AN r)*(C*R)) (xs++Av r.f) v S):=by
 cases h
 ·omega
 ·omega
 ·have e:xs++Av r.f=xs++[2]++AU (rg r.f.ranges 0).hi++AU (aa r.f.ranges-1)++AU ((rg r.f.ranges 0).hi-(rg r.f.ranges 0).lo)++CF r.f.ranges (aa r.f.ranges-1):=by
   simp[Av,A,MI]
  rw[e,BS];exact Abf r l p b o c xs s R i W F hm.ok hr (N.2.2.2.2.1.1 A) hm.len
 ·obtain⟨O,U,M,Z,X,J⟩:=N;have e:xs++Av r.f=xs++[4]++AU r.f.stream.toNat++AU r.f.code++AU r.f.offset:=by simp[Av,A]
  rw[e,BS];exact yz r l p b o c xs s R i W F r.f.stream.toNat C0 C0 U O
 ·obtain⟨O,U,M,Z,X,J⟩:=N;have e:xs++Av r.f=xs++[bif r.f.fin then 9 else 8]++AU r.f.stream.toNat++AU r.f.offset++AU r.f.data.size++r.f.data.data.toList:=by simp[Av,A]
  rw[e,BS];exact Abg r l p b o c xs s R i W F r.f.stream.toNat C0 C0 O PJ
 omega
def ZO(r:RF)(p:Option Addr)(b o c:Nat)(xs:List UInt8)(s:List Value)(R:HP)(hm:G6 r)(hr:AZ B R r.b r.o r.f.ranges)(a:Sl p b o (aa xs) c)(W:aa xs*1+aa s=c*1)(F:aa xs<100000000000)(e:EV r.f.kind)(h:3≤r.f.kind∧r.f.kind≤5)(hok:B4 r.f):
  Fn prog B 138 [.slice p (aa xs) c,.agg (AN r).toArray] (AC b o xs s*R) (λv H'=>FL b o xs s R (xs++Av r.f) v H'):=by
 refine mI func138 ?_;refine I8 ?_;rintro _ _ ⟨b3,rfl,rfl⟩;refine Bt ?_;refine mE I (MX r.f.kind e _) ?_;rintro _ _ ⟨bc,f1,us1,f2,us2,f3,us3,C,hF,rfl,rfl⟩;have hw:=hF.Xo (B:=B);have O:=hw.gH;refine J7 ?_;refine La ?_;refine J1 ?_;refine Do 11 I (λK=>?_) (λK=>?_)
 ·cases K
 refine BE ?_;refine yW ?_;refine A4 ?_;refine pZ ?_;refine JR<|BB ?_;refine mC (λhcc=>?_) (λhcc=>?_)
 ·refine J7 ?_;exact iX
 refine BQ ?_;refine kF ?_;refine Ae (HD I I (hF.zp h r b3 p b o c xs s _ hm I hok AH a W F)) I ?_;rintro _ _ ⟨p21,b21,o21,c21,s21,Q21,rfl,hs21,hc21,rfl,hk21⟩;refine J4 ?_;exact iX
end
section
variable{B:World}
structure Em where
 d:B9
 a:Am
 rs:List RF
 f:Am
@[reducible] def JW(m:Em):List Value:=[.slice m.a.p (aa m.d.b) m.a.c,.slice m.f.p (aa m.rs) m.f.c,iN m.d.room,.bool (E9 m.d.A7)]
def Bv(db:Nat)(m:Em):HP:=AA db 0 (JW m)*(m.a.h m.d.b*m.f.h m.rs)
structure Em.ok(m:Em):Prop where
 a:m.a.ok m.d.b
 f:m.f.ok m.rs
 map:m.rs.map (·.f)=m.d.A7
 room:m.d.room≤284
 len:m.d.b.length≤m.d.room
def Em.ok.rl{m:Em}(h:m.ok):aa m.rs≤284:=by
 have O:=gM m.d.A7;have U:=h.len;have M:=h.room;have Z:aa m.rs=aa m.d.A7:=by rw[←h.map,eh]
 have X:aa m.d.b=aa (Bk m.d.A7):=rfl;omega
def wn(fs)(f:Af):E9 (fs++[f])=(E9 fs||decide (f.kind≠3)):=by simp[E9]
def Afk(d:B9)(f):({d with A7:=d.A7++[f]}:B9).b=d.b++Av f:=by
 show Bk (d.A7++[f])=_;rw[Wj,Mt];rfl
set_option maxHeartbeats 2000000 in
def V3(db)(m:Em)(r:RF)(R)(hok:m.ok)(hf:B4 r.f)(h:3≤r.f.kind∧r.f.kind≤5)(C:G6 r)[hr:AZ B R r.b r.o r.f.ranges]:
  Fn prog B 139 [ptr db 0,.agg (AN r).toArray] (Bv db m*R) (λv H'=>∃N:Em,N.ok∧N.d=(m.d.add r.f).getD m.d∧v=.bool (m.d.add r.f).isSome∧H'=Bv db N*R):=by
 refine mI func139<|A3 (H':=AA db 0 (JW m)*(AC m.a.b m.a.o m.d.b m.a.s*(AC m.f.b m.f.o m.rs m.f.s*R))) (by unfold Bv;ac_rfl) ?_;have e:=hok.len;have hrm:=hok.room;have w:=hok.rl;refine I8 ?_;rintro _ _ ⟨b3,rfl,rfl⟩;refine J4 ?_;refine EI (AA b3 0 (AN r)*(AA db 0 (JW m)*(AC m.a.b m.a.o m.d.b m.a.s*(AC m.f.b m.f.o m.rs m.f.s*R)))) 5 7 EO I C1<|Bn ?_;refine JT 4 I OU<|F9 (H':=AC m.a.b m.a.o m.d.b m.a.s*(AA b3 0 (AN r)*(AA db 0 (JW m)*(AC m.f.b m.f.o m.rs m.f.s*R)))) C4<|Au 5 C1 I I (Bd I (ZO r m.a.p m.a.b m.a.o m.a.c m.d.b m.a.s _ C AH hok.a.1 hok.a.2 C0 C6 h hf)) ?_;rintro _ _ ⟨p11,b11,o11,c11,s11,Q11,rfl,hs11,hc11,rfl,t⟩;refine FF ?_;refine GU 6 C1 I I HG Fk ?_;refine FM ?_;refine mC (λh18=>?_) (λh18=>?_)
 ·refine J7 ?_;have hnone:m.d.add r.f=none:=by unfold B9.add;rw[AJ h18]
  obtain⟨J,G,Y,F⟩:=t s11 I;refine GE (H':=G*(AA b3 0 (AN r)*(AA db 0 (JW m)*(AC m.a.b m.a.o m.d.b J*(AC m.f.b m.f.o m.rs m.f.s*R))))) ?_ ?_
  ·have L:AC b11 o11 (m.d.b++Av r.f) s11*(Q11*(AA b3 0 (AN r)*(AA db 0 (JW m)*(AC m.f.b m.f.o m.rs m.f.s*R))))=(AC b11 o11 (m.d.b++Av r.f) s11*Q11)*(AA b3 0 (AN r)*(AA db 0 (JW m)*(AC m.f.b m.f.o m.rs m.f.s*R))):=by ac_rfl
   first
    |(rw[L,F];ac_rfl)
    |(refine Sp C4 (Sp L ?_);rw[F];ac_rfl)
  exact mR [4] (Bv db {m with a:={m.a with s:=J}}*R) (hE:=⟨λO X=>Sat.right (A:=G*AA b3 0 (AN r)) (Eq.mp (by congr 1;unfold Bv;show _=G*AA b3 0 (AN r)*(AA db 0 (JW m)*(AC m.a.b m.a.o m.d.b J*AC m.f.b m.f.o m.rs m.f.s)*R);ac_rfl) X)⟩) I I ⟨{m with a:={m.a with s:=J}},⟨⟨hok.a.1,by have:=hok.a.2;show _+aa J=_;rw[Y];exact this⟩,hok.f,hok.map,hok.room,hok.len⟩,X1,X1,I⟩
 refine Fi ?_;refine A3 (H':=AA db 0 [.slice p11 (aa (m.d.b++Av r.f)) c11,.slice m.f.p (aa m.rs) m.f.c,iN m.d.room,.bool (E9 m.d.A7)]*(AC b11 o11 (m.d.b++Av r.f) s11*(AA b3 0 (AN r)*(AC m.f.b m.f.o m.rs m.f.s*(Q11*R))))) C4<|EI (AA db 0 [.slice p11 (aa (m.d.b++Av r.f)) c11,.slice m.f.p (aa m.rs) m.f.c,iN m.d.room,.bool (E9 m.d.A7)]*(AC b11 o11 (m.d.b++Av r.f) s11*(AA b3 0 (AN r)*(Q11*R)))) 10 11 EO I C1<|BB ?_;refine JT 5 I OU<|Au 6 C1 I I U7 ?_;rintro _ _ ⟨b29,rfl,rfl⟩;refine BT ?_;refine F9 (H':=AC m.f.b m.f.o m.rs m.f.s*(AA b29 0 (AE [r])*(AA db 0 [.slice p11 (aa (m.d.b++Av r.f)) c11,.slice m.f.p (aa m.rs) m.f.c,iN m.d.room,.bool (E9 m.d.A7)]*(AC b11 o11 (m.d.b++Av r.f) s11*(AA b3 0 (AN r)*(Q11*R)))))) (by show AA b29 0 _*_=_;rw[show AE [r]=AN r from g8 _];ac_rfl)<|Au 7 C1 I I (CA (ys:=[r]) (bb:=b29) (oo:=0) (cc:=1) I hok.f.1 hok.f.2 I Bz AH I Cd C0) ?_;rintro _ _ ⟨p30,b30,o30,c30,s30,rfl,hs30,hc30,rfl⟩;refine BT ?_;refine A4 ?_;refine DY ?_;refine Do 38 I (λK=>?_) (λK=>?_)
 ·have hwn:E9 m.d.A7=true:=K;refine Eh ?_;exact kX
 have hwn:E9 m.d.A7=false:=K;refine BB ?_;refine JL (PC (j:=3) I I)<|DY ?_;exact kX
end
section
variable{B:World}
section
variable(db:Nat)(m:Em)
instance:Cell (Bv db m) db (0+0) (.slice m.a.p (aa m.d.b) m.a.c) True:=by unfold Bv;exact AH
instance:Cell (Bv db m) db (0+1) (.slice m.f.p (aa m.rs) m.f.c) True:=by unfold Bv;exact AH
instance:Cell (Bv db m) db (0+2) (iN m.d.room) True:=by unfold Bv;exact AH
instance:Cell (Bv db m) db (0+3) (.bool (E9 m.d.A7)) True:=by unfold Bv;exact AH
end
section
variable{P:Program}{n:Nat}{E:A8}{D:CW}{H R:HP}{ops:Array Oper}{Q:Exit→Act→World→Prop}{fuel last:Nat}{ls:Array Bool}{op:Op}{ty:TypeId}{pos:String}{af:Array Edge}
def V8(i){t j e b c}(hr:Region.ready .any ops ls=[i])(hi:ops[i]?=some ⟨some t,op,ty,pos,af,some (j,c)⟩)(ht:Nat.blt t n=true)(W:(ops[j]?).bind (·.dst)=some e)(hb:lk E e=some (.bool b))(hw:b= !c)(F:last≤i∨CM B H R)(next:WA P B ops Q R last fuel (ls.setIfInBounds i true) n ((t,undef)::E) D H):
  WA P B ops Q R last (fuel+1) ls n E D H:=by
 intro a w O h2 M;have G:yielded ops a.tmps j=some b:=by
  have:=O.2 _ _ hb;simp[yielded,W,this]
 have f:(some b==some c)=false:=by rw[hw];cases c<;>rfl
 intro Y X;have M:=M.EU X;refine⟨(λA=>by rw[hr]at A;cases A),λk Z=>?_⟩;rw[hr]at Z;obtain rfl:=g5.1 Z;unfold F5z;rw[hi];have S:=next _ Y (O.put Mf undef) SY M;simp only[Region.wanted,G,f,v8,if_false];exact⟨F.imp id (λh=>h.get Y M),S⟩
def re(i){t j e b c v}(hr:Region.ready .any ops ls=[i])(hi:ops[i]?=some ⟨some t,op,ty,pos,af,some (j,c)⟩)(ht:Nat.blt t n=true)(W:(ops[j]?).bind (·.dst)=some e)(hb:lk E e=some (.bool b))(hw:b=c)(S:AY P B n ⟨some t,op,ty,pos,af,some (j,c)⟩ E H v)(F:last≤i∨CM B H R)(next:WA P B ops Q R last fuel (ls.setIfInBounds i true) n ((t,v)::E) D H):
  WA P B ops Q R last (fuel+1) ls n E D H:=
 S3 i hr hi ht W hb hw (Post:=λL a=>L=v∧a=H) S.Mw (by refine JR ?_;exact⟨F,next⟩)
end
def D2(f:Af):RF:=⟨f,none,0,0,0,[]⟩
def Qa{f:Af}(h1:f.ranges=[])(h2:f.data.size<100000000000):G6 (D2 f):=⟨⟨.inl I,by show (aa f.ranges)≤0;rw[h1];exact er _⟩,by show (aa f.ranges)<_;rw[h1];decide,h2⟩
theorem UG{f:Af}(h1:f.ranges=[])(H):AZ B H (D2 f).b (D2 f).o (D2 f).f.ranges:=by
 show AZ B H 0 0 f.ranges;rw[h1];exact⟨λi f v e M=>absurd M (Aje i)⟩
def gF(o:Option (At×B9))(w:At)(d:B9)(v:Value)(w':At)(q:B9):Prop:=
 match o with
 |none=>v=.bool false∧w'=w∧q=d
 |some z=>v=.bool true∧w'=z.1∧q=z.2
def Aaj(k lo fin)(ds:List UInt8):aa ds≤aa (Av (CU k lo fin ds)):=by
 have h:(BR ds).size=aa ds:=C3;have U:aa (Av (CU k lo fin ds))=aa ([if fin then(9:UInt8)else 8]++AU k++AU lo++AU (BR ds).size++(BR ds).data.toList):=by
  cases fin<;>rfl
 rw[U];simp only[a5];have:(BR ds).data.toList.length=aa ds:=h;omega
def Afy(l hi):∀C,C≤hi→(AW C hi l).2≤hi:=by
 induction l with
 |nil=>intro C h;exact er _
 |cons r b Z=>
  intro C h;unfold AW;split
  ·exact Z C h
  split
  ·exact Ajw _ _
  by_cases M:r.hi+1≤hi
  ·exact Z _ M
  rename_i O U;have:∀(l:List AS) (a:Nat),(AW a hi l).2≤hi:=by
   intro l
   induction l with
   |nil=>intro a;exact er _
   |cons r b i=>
    intro a;unfold AW;split
    ·exact i a
    split
    ·exact Ajw _ _
    exact i _
  exact this b _
def kV{f:Af}:aa (Av f)≤64+16*aa f.ranges+f.data.size:=by
 have F:aa f.data.data.toList=f.data.size:=by rw[Ajk];rfl
 have X:=DS f.stream.toNat;have l:=DS f.code;have J:=DS f.offset;have v:=DS f.data.size;have a:=P' f.ranges (aa f.ranges-1);have b:=DS (rg f.ranges 0).hi;have c:=DS (aa f.ranges-1);have e:=DS ((rg f.ranges 0).hi-(rg f.ranges 0).lo);unfold Av MI
 repeat' split
 all_goals (simp only[a5,f',ss,F];omega)
set_option maxHeartbeats 4000000 in
def Acy(cb db j AI)(ws:List CH)(dm:Em)(R)(hl:aa ws=4)(W:j<4)(N:∀w∈ws,w.ok)(hw:Fd AI (ws.getD j AD).w)(hd:dm.ok):
  Fn prog B 140 [ptr cb 0,ptr db 0,iN j] (BU cb ws*(Bv db dm*R)) (λv H'=>∃(wm':CH) (dm':Em),wm'.ok∧dm'.ok∧gF ((ws.getD j AD).w.fill dm.d j) (ws.getD j AD).w dm.d v wm'.w dm'.d∧H'=BU cb (ws.set j wm')*(Bv db dm'*R)):=by
 refine mI func140 ?_;have hjl:j<aa ws:=C0;have hwm:=N _ HU;refine A3 (H':=AA cb (0+43+j*10) (DA (ws.getD j AD))*(DK (ws.getD j AD)*(Dl cb ws j*(Bv db dm*R)))) (by rw[Lw cb ws j hjl];ac_rfl) ?_;generalize hwx:ws.getD j AD=wm at hw hwm⊢;refine A3 (H':=AA cb (0+43+j*10) (DA wm)*(AC wm.a.b wm.a.o wm.w.b wm.a.s*(AK wm.sq wm.sa wm.w.AM*(AK wm.cq wm.ca wm.w.AG*(Dl cb ws j*(Bv db dm*R)))))) PX ?_;have hbl:=hw.len;have hwh:=hw.high;have hwc:=hw.code;have J:=hd.room;have hdl:=hd.len;refine DL ?_;refine JL Qg<|Fi ?_;refine mc (λhgv=>?_) (λhgv=>?_)
 ·refine J2 ?_;refine EI (AA cb (0+43+j*10) (DA wm)*(AC wm.a.b wm.a.o wm.w.b wm.a.s*(AK wm.sq wm.sa wm.w.AM*(AK wm.cq wm.ca wm.w.AG*(Dl cb ws j*R))))) 16 19 EO I C1<|BB ?_;refine Ha 27 I (λK=>?_) (λK=>?_)
  ·have U:wm.w.ES=true:=K;refine CK ?_;refine kD ?_;refine V8 16 C1 I I I I K Fk<|V8 17 C1 I I I I K Fk<|GU 18 C1 I I (Om K I I) Fk<|CK ?_;have hfill:wm.w.fill dm.d j=none:=by
    unfold At.fill;rw[AJ hgv,AJ U]
   exact PU
  have U:wm.w.ES=false:=K;refine CY ?_;refine JY 15 I K (FW (cs:=AN (D2 (Iv j wm.w.code wm.w.high))) I I I (AB.one (D2 (Iv j wm.w.code wm.w.high))))<|kD ?_;refine S3 16 C1 I I I I K (Bd I (V3 db dm (D2 (Iv j wm.w.code wm.w.high)) _ hd (rY W hwc C0) ⟨by show(3:Int)≤4;decide,by show(4:Int)≤5;decide⟩ (Qa I Pc) (hr:=UG I _))) ?_;rintro _ _ ⟨dm2,t,hde2,rfl,rfl⟩;refine FF ?_;refine re 17 C1 I I I I K (Tn I) Fk<|GU 18 C1 I I (N5 K I I) Fk<|BE ?_;refine mc (λh41=>?_) (λh41=>?_)
  ·refine J8 ?_;have S:dm.d.add (Iv j wm.w.code wm.w.high)=none:=by simpa[D2]using h41
   have hde3:dm2.d=dm.d:=by rw[hde2];show(dm.d.add (Iv j wm.w.code wm.w.high)).getD dm.d=_;rw[S];rfl
   have hfill:wm.w.fill dm.d j=none:=by
    unfold At.fill;rw[AJ hgv,AF (by rw[U];simp),S]
   exact mR [6] (BU cb (ws.set j wm)*(Bv db dm2*R)) (hE:=wM) I I ⟨wm,dm2,hwm,t,cV,I⟩
  refine Gu ?_;refine J2 ?_;obtain⟨d2,S⟩:∃d2,dm.d.add (Iv j wm.w.code wm.w.high)=some d2:=Am3.1 (by simpa[D2]using h41);have hde3:dm2.d=d2:=by rw[hde2];show(dm.d.add (Iv j wm.w.code wm.w.high)).getD dm.d=_;rw[S];rfl
  have hfill:wm.w.fill dm.d j=some ({wm.w with ES:=true},d2):=by
   unfold At.fill;rw[AJ hgv,AF (by rw[U];simp),S]
  obtain⟨Y,hw2⟩:∃Y:CH,Y={wm with w:={wm.w with ES:=true}}:=DF;have G:Y.ok:=by rw[hw2];exact hwm
  exact mR [6] (BU cb (ws.set j Y)*(Bv db dm2*R)) (hE:=⟨λww hw=>Eq.mp (by
   congr 1;rw[Nb cb ws j Y hjl,hw2];unfold DK;show _=AA cb (0+43+j*10) [.slice wm.a.p (aa wm.w.b) wm.a.c,ptr wm.sq 0,ptr wm.cq 0,uN wm.w.high,.bool wm.w.finished,.bool wm.w.ending,.bool wm.w.ended,.bool wm.w.given,uN wm.w.code,.bool true]*(AC wm.a.b wm.a.o wm.w.b wm.a.s*(AK wm.sq wm.sa wm.w.AM*AK wm.cq wm.ca wm.w.AG)*Dl cb ws j)*(Bv db dm2*R);ac_rfl) hw⟩) I I ⟨Y,dm2,G,t,by rw[hfill];exact⟨I,Vl,hde3⟩,I⟩
 refine FM ?_;obtain⟨ga,gb,gc,gd,ge⟩:=Ic wm.w.AM.l 0 (aa wm.w.b) hw.so.inc Du;have gle:=Afy wm.w.AM.l (aa wm.w.b) 0 Du;refine J6 ?_;refine mE I (SN wm.sq 0 (aa wm.w.b) (aa wm.w.b) wm.sa wm.w.AM _ hwm.2.1 hw.so C0 (by have V:=hw.so.len;rw[hw.sm]at V;omega))<|JR<|Eh ?_;refine Bq (α:=Nat×Nat) (λz=>[(9,uN z.1),(10,uN z.2),(7,ptr cb (0+43+j*10)),(8,uN (aa wm.w.b)),(0,ptr cb 0),(1,ptr db 0),(2,iN j)]) (λ_=>AA cb (0+43+j*10) (DA wm)*(AC wm.a.b wm.a.o wm.w.b wm.a.s*(AK wm.sq wm.sa wm.w.AM*(AK wm.cq wm.ca wm.w.AG*(Dl cb ws j*(Bv db dm*R)))))) (λz=>wm.w.fill dm.d j=wm.w.NG dm.d j z.1 z.2∧z.1≤z.2∧z.2≤aa wm.w.b) ?_ ?_
 ·refine mC (λh62=>?_) (λh62=>?_)
  ·refine BQ ?_;refine Do 68 I (λe=>?_) (λe=>?_)
   ·skip;have h66:wm.w.finished=false:=TZ;refine Ff ?_;refine A4 ?_;have hfill:wm.w.fill dm.d j=none:=by
     unfold At.fill;rw[AF Qm,AJ h62,AJ (.inl h66)]
    exact PU
   have h66:wm.w.finished=true:=TZ;refine CY ?_;refine Do 74 I (λO=>?_) (λO=>?_)
   ·have h72:wm.w.ending=true:=O;refine Fj ?_;have hfill:wm.w.fill dm.d j=none:=by
     unfold At.fill;rw[AF Qm,AJ h62,AJ (.inr (.inl h72))]
    exact PU
   have h72:wm.w.ending=false:=O;refine CK ?_;refine mc (λh78=>?_) (λh78=>?_)
   ·refine J9 ?_;have hfill:wm.w.fill dm.d j=none:=by
     unfold At.fill;rw[AF Qm,AJ h62,AJ (.inr (.inr h78))]
    exact PU
   refine J8 ?_;exact An (aa wm.w.b,aa wm.w.b) ⟨by unfold At.fill;rw[AF Qm,AJ h62,AF (by rw[h66,h72,h78];simp)],er _,er _⟩ Od I
  refine J1 ?_;exact An ((AW 0 (aa wm.w.b) wm.w.AM.l).1,(AW 0 (aa wm.w.b) wm.w.AM.l).2) ⟨by unfold At.fill;rw[AF Qm,AF h62],by dsimp only;omega,gle⟩ Od I
 rintro⟨lo,M⟩ ⟨X,hlh,hhb⟩;dsimp only at X hlh hhb⊢;refine DL ?_;refine JL (Oe (k':=aa (cut wm.w.b lo M)) I I I iY (PI hhb))<|JL (KO (xs:=cut wm.w.b lo M) (b:=wm.a.b) (o:=wm.a.o+lo*1) I (by have:=hwm.1.1;exact F0 this hlh (by have:=this.2;omega) (PI hhb)) (AZ.sub (xs:=wm.w.b) AH lo M hhb))<|JL (FW (cs:=AN (D2 (CU j lo false (cut wm.w.b lo M)))) I I I (AB.one (D2 (CU j lo false (cut wm.w.b lo M)))))<|BH (H':=AC 0 0 ([]:List UInt8) []*(AA cb (0+43+j*10) (DA wm)*(AC wm.a.b wm.a.o wm.w.b wm.a.s*(AK wm.sq wm.sa wm.w.AM*(AK wm.cq wm.ca wm.w.AG*(Dl cb ws j*(Bv db dm*R))))))) Ci ?_;have L:=PI (lo:=lo) hhb;refine mE I (ZO (D2 (CU j lo false (cut wm.w.b lo M))) none 0 0 0 [] [] _ (Qa I (by rw[On];omega)) (UG I _) E7 I C2 (by show EV 5;unfold EV;decide) ⟨Rw,by show(5:Int)≤5;decide⟩ (Y1 W C0)) ?_;rintro _ _ ⟨p93,b93,o93,c93,s93,Q93,rfl,hs93,hc93,rfl,hk93⟩;have hhg:=Aaj j lo false (cut wm.w.b lo M);have hel:aa (Av (CU j lo false (cut wm.w.b lo M)))<100000:=by have:=kV (f:=CU j lo false (cut wm.w.b lo M));rw[On]at this;have h9:(CU j lo false (cut wm.w.b lo M)).ranges.length=0:=rfl;omega
 rw[l0]at*;refine WB ?_;refine JL (Ji (i:=aa (Av (CU j lo false (cut wm.w.b lo M)))) (j:=M-lo) I I C0)<|J4 ?_;refine I4 (AA cb (0+43+j*10) (DA wm)*(AC wm.a.b wm.a.o wm.w.b wm.a.s*(AK wm.sq wm.sa wm.w.AM*(AK wm.cq wm.ca wm.w.AG*(Dl cb ws j*(Bv db dm*R))))))<|mA 13 13 ?_;refine O6 ?_;refine JT 11 I (MT (i:=((dm.d.room-aa dm.d.b:Nat):Int)) (j:=((aa (Av (CU j lo false (cut wm.w.b lo M)))-(M-lo)):Nat)) I I C0)<|WB ?_;refine Bq (α:=Unit) (λ_=>[(118,.bool (decide (lo<M∧((dm.d.room-aa dm.d.b:Nat):Int)-((aa (Av (CU j lo false (cut wm.w.b lo M)))-(M-lo):Nat):Int)<1))),(12,.int .i64 (((dm.d.room-aa dm.d.b:Nat):Int)-((aa (Av (CU j lo false (cut wm.w.b lo M)))-(M-lo):Nat):Int))),(9,uN lo),(10,uN M),(7,ptr cb (0+43+j*10)),(8,uN (aa wm.w.b)),(0,ptr cb 0),(1,ptr db 0),(2,iN j)]) (λ_=>AA cb (0+43+j*10) (DA wm)*(AC wm.a.b wm.a.o wm.w.b wm.a.s*(AK wm.sq wm.sa wm.w.AM*(AK wm.cq wm.ca wm.w.AG*(Dl cb ws j*(Bv db dm*R)))))) (λ_=>True) ?_ ?_
 ·refine BB ?_;refine DU 115 I (λC=>?_) (λC=>?_)
  ·have h115:lo<M:=C;refine A5 ?_;refine JL (Jr (i:=((dm.d.room-aa dm.d.b:Nat):Int)-((aa (Av (CU j lo false (cut wm.w.b lo M)))-(M-lo)):Nat)) (j:=1) I I)<|BE ?_;exact An () trivial (.cons (congrArg (λbb=>some (Value.bool bb)) (decide_eq_decide.2 ⟨λh=>⟨h115,h⟩,λh=>h.2⟩)) OW) I
  have h115:¬lo<M:=C;refine Bn ?_;exact An () trivial (.cons (congrArg (λbb=>some (Value.bool bb)) (decide_eq_false (λh=>h115 h.1)).symm) OW) I
 rintro _ _;refine J1 ?_;refine mC (λh118=>?_) (λh118=>?_)
 ·refine J7 ?_;have hfill:wm.w.fill dm.d j=none:=by
   rw[X];unfold At.NG;dsimp only;rw[AJ C0]
  exact PU
 refine J3 ?_;have F:¬(lo<M∧dm.d.room<aa dm.d.b+(aa (Av (CU j lo false (cut wm.w.b lo M)))-(M-lo))+1):=C0;have hfe2:wm.w.fill dm.d j=match dm.d.add (D2 (CU j lo (wm.w.finished&&decide ((min M (lo+(dm.d.room-aa dm.d.b-(aa (Av (CU j lo false (cut wm.w.b lo M)))-(M-lo)))))=aa wm.w.b)) (cut wm.w.b lo (min M (lo+(dm.d.room-aa dm.d.b-(aa (Av (CU j lo false (cut wm.w.b lo M)))-(M-lo)))))))).f with
   |none=>none
   |some d2=>some ({wm.w with AM:=if lo<(min M (lo+(dm.d.room-aa dm.d.b-(aa (Av (CU j lo false (cut wm.w.b lo M)))-(M-lo)))))then wm.w.AM.add lo ((min M (lo+(dm.d.room-aa dm.d.b-(aa (Av (CU j lo false (cut wm.w.b lo M)))-(M-lo)))))-1)else wm.w.AM,ending:=wm.w.ending||(wm.w.finished&&decide ((min M (lo+(dm.d.room-aa dm.d.b-(aa (Av (CU j lo false (cut wm.w.b lo M)))-(M-lo)))))=aa wm.w.b)),high:=max wm.w.high (min M (lo+(dm.d.room-aa dm.d.b-(aa (Av (CU j lo false (cut wm.w.b lo M)))-(M-lo)))))},d2):=by
  rw[X];unfold At.NG;dsimp only;rw[AF F];rfl
 have hh2:lo≤(min M (lo+(dm.d.room-aa dm.d.b-(aa (Av (CU j lo false (cut wm.w.b lo M)))-(M-lo)))))∧(min M (lo+(dm.d.room-aa dm.d.b-(aa (Av (CU j lo false (cut wm.w.b lo M)))-(M-lo)))))≤M:=⟨C0,Ajw _ _⟩
 have hcl2:=PI (lo:=lo) (show(min M (lo+(dm.d.room-aa dm.d.b-(aa (Av (CU j lo false (cut wm.w.b lo M)))-(M-lo)))))≤(aa wm.w.b) by omega);refine J4 ?_;refine JL (Dx (v':=iN (dm.d.room-aa dm.d.b-(aa (Av (CU j lo false (cut wm.w.b lo M)))-(M-lo)))) (vU (i:=((dm.d.room-aa dm.d.b:Nat):Int)-((aa (Av (CU j lo false (cut wm.w.b lo M)))-(M-lo)):Nat)) (j:=0) I I) (by congr 1;split<;>omega))<|BE ?_;refine JL QK ?_;generalize hhi2:(min M (lo+(dm.d.room-aa dm.d.b-(aa (Av (CU j lo false (cut wm.w.b lo M)))-(M-lo)))))=hi2 at*;refine J4 ?_;refine Bq (α:=Nat) (λb13=>[(13,ptr b13 0),(9,uN lo),(10,uN hi2),(7,ptr cb (0+43+j*10)),(8,uN (aa wm.w.b)),(0,ptr cb 0),(1,ptr db 0),(2,iN j)]) (λb13=>Bv db dm*(AA b13 0 (AN (D2 (CU j lo (wm.w.finished&&decide (hi2=aa wm.w.b)) (cut wm.w.b lo hi2))))*(AA cb (0+43+j*10) (DA wm)*(AC wm.a.b wm.a.o wm.w.b wm.a.s*(AK wm.sq wm.sa wm.w.AM*(AK wm.cq wm.ca wm.w.AG*(Dl cb ws j*R))))))) (λ_=>True) ?_ ?_
 ·refine mA 21 22 ?_;refine Bt ?_;refine Ha 132 I (λr=>?_) (λr=>?_)
  ·have h132:wm.w.finished=true:=r;refine aD ?_;rintro _ _ ⟨b13,rfl,rfl⟩;refine mY ?_;exact An b13 trivial OW (by rw[show(wm.w.finished&&decide (hi2=aa wm.w.b))=decide (hi2=aa wm.w.b) by rw[h132,Am4]];ac_rfl)
  have h132:wm.w.finished=false:=r;refine aD ?_;rintro _ _ ⟨b13,rfl,rfl⟩;refine mY ?_;exact An b13 trivial OW (by rw[show(wm.w.finished&&decide (hi2=aa wm.w.b))=false by rw[h132,Akz]];ac_rfl)
 rintro b13 _;refine J5 ?_;refine JL (Et (l:=AN (D2 (CU j lo (wm.w.finished&&decide (hi2=aa wm.w.b)) (cut wm.w.b lo hi2)))) I I)<|mE I (V3 db dm (D2 (CU j lo (wm.w.finished&&decide (hi2=aa wm.w.b)) (cut wm.w.b lo hi2))) _ hd (Y1 W C0) ⟨Rw,by show(5:Int)≤5;decide⟩ (Qa I (by rw[On];omega)) (hr:=UG I _)) ?_;rintro _ _ ⟨dm2,t,hde2,rfl,rfl⟩;refine A5 ?_;refine mc (λh149=>?_) (λh149=>?_)
 ·refine J7 ?_;have S:dm.d.add (D2 (CU j lo (wm.w.finished&&decide (hi2=aa wm.w.b)) (cut wm.w.b lo hi2))).f=none:=by simpa using h149
  have hde3:dm2.d=dm.d:=by rw[hde2,S];rfl
  have hfill:wm.w.fill dm.d j=none:=by
   rw[hfe2,S]
  exact mR [6] (BU cb (ws.set j wm)*(Bv db dm2*R)) (hE:=⟨λww hw=>Sat.right (A:=AA b13 0 (AN (D2 (CU j lo (wm.w.finished&&decide (hi2=aa wm.w.b)) (cut wm.w.b lo hi2))))) (Eq.mp nT hw)⟩) I I ⟨wm,dm2,hwm,t,cV,I⟩
 refine J4 ?_;obtain⟨d2,hd2e⟩:∃d2,dm.d.add (D2 (CU j lo (wm.w.finished&&decide (hi2=aa wm.w.b)) (cut wm.w.b lo hi2))).f=some d2:=Am3.1 (by simpa using h149);rw[hd2e]at hfe2 hde2;dsimp only[Option.getD_some]at hfe2 hde2;refine A3 (H':=AK wm.sq wm.sa wm.w.AM*(AA cb (0+43+j*10) (DA wm)*(AC wm.a.b wm.a.o wm.w.b wm.a.s*(AK wm.cq wm.ca wm.w.AG*(Dl cb ws j*(Bv db dm2*(AA b13 0 (AN (D2 (CU j lo (wm.w.finished&&decide (hi2=aa wm.w.b)) (cut wm.w.b lo hi2))))*R))))))) C4<|DE ?_;refine Bq (α:=DO) (λ_=>[(13,ptr b13 0),(9,uN lo),(10,uN hi2),(7,ptr cb (0+43+j*10)),(8,uN (aa wm.w.b)),(0,ptr cb 0),(1,ptr db 0),(2,iN j)]) (λa=>AK wm.sq a (if lo<hi2 then wm.w.AM.add lo (hi2-1)else wm.w.AM)*(AA cb (0+43+j*10) (DA wm)*(AC wm.a.b wm.a.o wm.w.b wm.a.s*(AK wm.cq wm.ca wm.w.AG*(Dl cb ws j*(Bv db dm2*(AA b13 0 (AN (D2 (CU j lo (wm.w.finished&&decide (hi2=aa wm.w.b)) (cut wm.w.b lo hi2))))*R))))))) (λa=>a.ok (if lo<hi2 then wm.w.AM.add lo (hi2-1)else wm.w.AM)) ?_ ?_
 ·refine mC (λh152=>?_) (λh152=>?_)
  ·refine Be ?_;refine mE I (Mr wm.sq lo (hi2-1) (aa wm.w.b) wm.sa wm.w.AM _ hwm.2.1 hw.so C0 C0 (by rw[hw.sm];decide) (by rw[hw.sm];decide)) ?_;rintro _ _ ⟨a160,hs160,rfl⟩;refine J1 ?_;exact An a160 (by rw[AJ h152];exact hs160) OW (by rw[AJ h152])
  refine J1 ?_;exact An wm.sa (by rw[AF h152];exact hwm.2.1) OW (by rw[AF h152])
 rintro sa2 hsa2;refine J9 ?_;refine Do 166 I (λhg6=>?_) (λhg6=>?_)
 ·have h166:wm.w.ending=true:=hg6;refine E6 ?_;refine JL MK<|DL ?_;obtain⟨Y,hw2⟩:∃Y:CH,Y={wm with w:={wm.w with AM:=(if lo<hi2 then wm.w.AM.add lo (hi2-1)else wm.w.AM),ending:=wm.w.ending||(wm.w.finished&&decide (hi2=aa wm.w.b)),high:=max wm.w.high hi2},sa:=sa2}:=DF;have G:Y.ok:=by rw[hw2];exact⟨hwm.1,hsa2,hwm.2.2⟩
  exact mR [6] (BU cb (ws.set j Y)*(Bv db dm2*R)) (hE:=⟨λww hw=>Sat.right (A:=AA b13 0 (AN (D2 (CU j lo (wm.w.finished&&decide (hi2=aa wm.w.b)) (cut wm.w.b lo hi2))))) (Eq.mp (by
   congr 1;rw[Nb cb ws j Y hjl,hw2];unfold DK;refine zX ?_;rw[h166];simp only[Al0];ac_rfl) hw)⟩) I I ⟨Y,dm2,G,t,eI,I⟩
 have h166:wm.w.ending=false:=hg6;refine HE ?_;refine JL MK<|DL ?_;obtain⟨Y,hw2⟩:∃Y:CH,Y={wm with w:={wm.w with AM:=(if lo<hi2 then wm.w.AM.add lo (hi2-1)else wm.w.AM),ending:=wm.w.ending||(wm.w.finished&&decide (hi2=aa wm.w.b)),high:=max wm.w.high hi2},sa:=sa2}:=DF;have G:Y.ok:=by rw[hw2];exact⟨hwm.1,hsa2,hwm.2.2⟩
 exact mR [6] (BU cb (ws.set j Y)*(Bv db dm2*R)) (hE:=⟨λww hw=>Sat.right (A:=AA b13 0 (AN (D2 (CU j lo (wm.w.finished&&decide (hi2=aa wm.w.b)) (cut wm.w.b lo hi2))))) (Eq.mp (by
  congr 1;rw[Nb cb ws j Y hjl,hw2];unfold DK;refine zX ?_;rw[h166];simp only[Q2];ac_rfl) hw)⟩) I I ⟨Y,dm2,G,t,eI,I⟩
end
section
variable{B:World}
structure IB where
 ys:List UInt8
 a:Am
@[reducible] def Z? (m:IB):List Value:=[.slice m.a.p (aa m.ys) m.a.c]
@[reducible] instance:AB IB:=⟨1,Z?,⟨[],⟨none,0,0,0,[]⟩⟩,λ_=>rfl,λ_ v h=>by
 simp at h;obtain rfl:=h;rfl⟩
def IB.ok(m:IB):Prop:=m.a.ok m.ys
def Iw(m:IB):HP:=AC m.a.b m.a.o m.ys m.a.s
structure MG where
 l:List IB
 a:Am
structure MG.ok(m:MG)(xs:List (List UInt8)):Prop where
 a:m.a.ok m.l
 l:∀p∈m.l,p.ok
 map:m.l.map (·.ys)=xs
def EZ(m:MG):HP:=m.a.h m.l*AP Iw m.l
def MG.v(m:MG):Value:=.slice m.a.p (aa m.l) m.a.c
def R9(H:HP)(xs:List (List UInt8))(v:Value)(H':HP):Prop:=∃m:MG,m.ok xs∧v=m.v∧H'=EZ m*H
def Bw:Am:=⟨none,0,0,0,[]⟩
def Fe{α:Type}[AB α]:Bw.ok ([]:List α):=⟨E7,by show 0*_+0=0*_;omega⟩
def HJ{α:Type}[AB α]:Bw.h ([]:List α)=Bs:=GY ..
def R9.nil(H):R9 H [] (.slice none 0 0) H:=
 ⟨⟨[],Bw⟩,⟨Fe,(λ_ h=>nomatch h),I⟩,I,by unfold EZ;rw[HJ,GX];show H=Bs*Bs*H;rw[BS,BS]⟩
def Aa9{n}(h:n<18446744073709551616):uN n=u64 (ad n):=by
 show Value.int .u64 (n:Nat)=Value.int .u64 ((ad n).toNat:Nat);rw[Alq,pg Ub]
def ou(H b)(f:Af)(hf:f.ranges=[])[hr:AZ B H b 0 [D2 f]]:JM B H (some ⟨b,0,none⟩) 1 [f] b 0 [D2 f]:=
 ⟨Bz,hr,I,(λr h=>by rw[g5.1 h];exact(Qa (f:={f with data:=⟨#[]⟩}) hf Pc).ok),(λr h=>by rw[g5.1 h];exact UG hf H)⟩
def N? {code}(h:code≤4611686018427387903):G4 [DX code]=some (Av (DX code)):=by
 unfold G4;rw[AJ ⟨C3,λf V=>by rw[g5.1 V];exact bH h⟩,Mt]
def Vw(code):aa (Av (DX code))≤9:=by
 have:=DS code;have e:Av (DX code)=[28]++AU code:=rfl;rw[e,a5];simp only[mz];omega
set_option maxHeartbeats 2000000 in
def A? (cb t)(m:Ak)(R)(hm:m.ok)(hi:Aq t m.s)(ht:t<1000000):
  Fn prog B 135 [ptr cb 0] (Ao cb m*R) (λv H'=>∃N:Ak,N.ok∧N.s=m.s.Df.2∧R9 (Ao cb N*R) m.s.Df.1 v H'):=by
 refine mI func135<|A3 P2 ?_;have hks:aa m.x.ks=16:=hi.ks;have J:m.x.code≤4611686018427387903:=hi.code;have o:m.x.next≤20*t:=hi.nx;refine Kb ?_;refine mc (λF=>?_) (λF=>?_)
 ·refine J7 ?_;exact mR [2] (Ao cb m*R) (hE:=by rw[E1];exact AH) I I (by unfold AO.Df;rw[AJ (show m.s.said=true from F)];exact⟨m,hm,I,.nil _⟩)
 refine Gu ?_;refine J1 ?_;refine JL (FW (cs:=AN (D2 (DX m.x.code))) I I I (AB.one (D2 (DX m.x.code))))<|Ae (Gn (cs:=AN (D2 (DX m.x.code))) I Cc I I) I ?_;rintro _ _ ⟨G,rfl,rfl⟩;refine BH (H':=AC G 0 [D2 (DX m.x.code)] []*(Ab cb {m.x with said:=true}*(AK m.x.gq m.ga m.AR*(BU cb m.ws*(B2 cb m.rs*(EW m*R)))))) (by unfold AC;rw[g8,show AE [D2 (DX m.x.code)]=AN (D2 (DX m.x.code))from g8 _])<|mE I (R? [DX m.x.code] (some ⟨G,0,none⟩) 1 G 0 [D2 (DX m.x.code)] _ (ou _ G _ I) (λr h=>by rw[g5.1 h];exact Qa I Pc) (by show(1:Nat)<_;decide) (by rw[Mt];have:=Vw m.x.code;omega)) ?_;intro v20 H20 h20;rw[N? J]at h20;obtain⟨_,rfl,U,f,S,V,s20,rfl,Y,hc20,rfl⟩:=h20;have L:=Vw m.x.code;refine J8 ?_;refine mA 9 11 ?_;refine A5 ?_;refine JT 3 I (Et (l:=AE m.x.ks++[u8 (Bb m.x.first)]) I l4)<|BB ?_;refine Au 9 C1 I I (Bd (vs:=[.agg (AE m.x.ks++[u8 (Bb m.x.first)]).toArray,u64 (ad m.x.next),.slice U (aa (Av (DX m.x.code))) V]) xF (gQ m.x.ks hks (Bb m.x.first) (ad m.x.next) (Av (DX m.x.code)) U f S V _ Y AH C0)) ?_;rintro _ _ ⟨e,w,C,c32,M,rfl,c,K,rfl⟩;refine FF ?_;refine GU 10 C1 I I HG Fk<|Be ?_;refine JL vP<|J8 ?_;refine Ga ?_;rintro _ _ ⟨a,rfl,rfl⟩;refine J4 ?_;have efw:m.s.Df=([E5 m.x.ks (Bb m.x.first) (ad m.x.next) (Av (DX m.x.code))],{m.s with said:=true,next:=m.s.next+1}):=by
  unfold AO.Df;rw[AF (by rw[show m.s.said=false from F];simp)];rfl
 generalize W:E5 m.x.ks (Bb m.x.first) (ad m.x.next) (Av (DX m.x.code))=zs at*;obtain⟨pk,b⟩:∃pk:MG,pk=⟨[⟨zs,⟨e,w,C,c32,M⟩⟩],⟨some ⟨a,0,none⟩,a,0,1,[]⟩⟩:=DF;have hpok:pk.ok [zs]:=by
  rw[b];exact⟨⟨Bz,I⟩,(λp hp=>by rw[g5.1 hp];exact⟨c,K⟩),I⟩
 exact mR [2] (EZ pk*(Ao cb (m.DM {m.x with said:=true,next:=m.x.next+1})*R)) (hE:=⟨λO X=>Sat.right (A:=AC f S (Av (DX m.x.code)) s20*AC G 0 [D2 (DX m.x.code)] []) (Eq.mp (by
  congr 1;rw[E1,b];unfold EZ;rw[HK,GX];show _=AC f S (Av (DX m.x.code)) s20*AC G 0 [D2 (DX m.x.code)] []*(HP.AA a 0 [.slice e (aa zs) c32]*(AC w C zs M*HP.Bs)*(Ab cb {m.x with said:=true,next:=m.x.next+1}*(AK m.x.gq m.ga m.AR*(BU cb m.ws*(B2 cb m.rs*(EW m*R))))));rw[HP.Hr];ac_rfl) X)⟩) I I
  (by rw[efw];exact⟨m.DM {m.x with said:=true,next:=m.x.next+1},⟨hm.g,hm.ws,hm.rs,hm.fl,hm.lo,hm.fa,hm.la,hm.fv,hm.lv⟩,I,pk,hpok,by rw[b];rfl,I⟩)
end
section
variable{B:World}
section
variable{P:Program}{n:Nat}{E:A8}{D:CW}{H:HP}{d:Option Tmp}{T T' ty:TypeId}{pos:String}{af:Array Edge}{g:Option (Nat×Bool)}{x y z u:Operand}
def Abc{k c sz h m:Nat}{e:TypeId}{o mk:IntKind}[hT:Aw P T (.slice e)][hz:CG P e sz](F:ev E x=some (.slice p k c))(C:ev E z=some (.int o h))(q:ev E u=some (.int mk m))
  (W:h≤m∧m≤c):AY P B n ⟨d,.slice T x none (some z) (some u),ty,pos,af,g⟩ E H (.slice p h m):=by
 intro a w N _;simp only[A9,BL,Dp,CT,DQ,EP,EX,Ej,B3,BX,true_and,and_true,and_self,IY W.1,IY W.2,execOp,N.ev F,i',Ajd,N.ev C,N.ev q,Instr.sliceAt,Instr.slice,Instr.sliceBounds,bn,A6 hT.get,b0,bp,IQ W.1,IQ W.2,hz.get,Option.isSome_some,Ajf];cases p<;>simp[Addr.add]
end
instance drh_body(db:Nat)(m:Em):AZ B (Bv db m) m.a.b m.a.o m.d.b:=by unfold Bv;exact AH
def Tb{ws:List CH}{k}(hk:k<aa ws):(ws.map (·.w)).getD k BO=(ws.getD k AD).w:=by
 exact Ri
def YE(d:B9)(ws:List At){k}(Z:k<4):Fv d ws k (4-k)=Fv (HR k (d.room+1) (ws.getD k BO) d).2 (ws.set k (HR k (d.room+1) (ws.getD k BO) d).1) (k+1) (4-(k+1)):=by
 rw[show 4-k=4-(k+1)+1 by omega,Fv]
def qe{k AI}(hk:k<4){ws:List At}{d w2 d2}(hw:El AI ws)(F:LP ws d)(e:(ws.getD k BO).fill d k=some (w2,d2)):
  Fv d ws k (4-k)=Fv d2 (ws.set k w2) k (4-k):=by
 rw[YE d ws hk,YE d2 _ hk,Aa4 hk hw F e,m8];rw[Gi,AJ ⟨I,TJ⟩]
def wd{k}(Z:k<4){ws:List At}{d}(e:(ws.getD k BO).fill d k=none):Fv d ws k (4-k)=Fv d ws (k+1) (4-(k+1)):=by
 rw[YE d ws Z,ie e,Xu]
structure Rk(AI:Nat)(ws0:List At)(d0:B9)(ws:List CH)(dm:Em):Prop where
 QJ:∀w∈ws,w.ok
 kH:dm.ok
 f:LZ AI ws0 d0 (ws.map (·.w)) dm.d
def Rk.len{AI e d0 ws a}(h:Rk AI e d0 ws a):aa ws=4:=by
 have:=h.f.PN.len;simpa using this
def Ak.Rp(m:Ak)(ws:List CH):Ak:={m with ws:=ws}
def rj(cb)(m:Ak)(ws R):Ao cb (m.Rp ws)*R=Ab cb m.x*(BU cb ws*(Hg m cb*R)):=Je cb (m.Rp ws) R
set_option maxHeartbeats 8000000 in
def Ae7(cb t)(m0:Ak)(R)(hm:m0.ok)(hi:Aq t m0.s)(ht:t<1000000):
  Fn prog B 92 [ptr cb 0] (Ao cb m0*R) (λv H'=>∃m':Ak,m'.ok∧m'.s=m0.s.BA.2∧R9 (Ao cb m'*R) m0.s.BA.1 v H'):=by
 refine mI func92 ?_;have hks:aa m0.x.ks=16:=hi.ks;refine A3 (E1 cb m0 R)<|Eh ?_;refine mC (λh12=>?_) (λh12=>?_)
 ·refine J1 ?_;refine A3 (E1 cb m0 R).symm<|J2 ?_;refine mE I (A? cb t m0 R hm hi ht) ?_;rintro v14 H14 h14;refine J5 ?_;exact mR [2] H14 I I (by obtain⟨m',h1,h2,h3⟩:=h14;unfold BA;rw[AJ (show m0.s.closed≠0 from h12)];exact⟨m',h1,h2,h3⟩)
 refine Gu ?_;refine J6 ?_;refine Bq (α:=List AS×Am) (λz=>[(0,ptr cb 0),(3,.slice none 0 0),(4,z.2.v (aa z.1))]) (λz=>Ao cb (m0.DM {m0.x with answer:=false})*(z.2.h z.1*R)) (λz=>z.2.ok z.1∧z.1=if m0.s.answer then m0.s.AR.l.reverse else []) ?_ ?_
 ·refine mc (λF=>?_) (λF=>?_)
  ·refine Ki ?_;refine mE I (Yo m0.x.gq _) ?_;rintro _ _ ⟨b26,rfl,rfl⟩;refine mE I (W? 166 [ptr b26 0] m0.AR.l.reverse _ _ (by rintro ys ⟨mm,hmm,rfl⟩;have V:=hi.AR.len;rw[hi.gm]at V;have G:aa m0.AR.l≤8:=V;unfold IJ;simp;omega) (Wa m0.x.gq b26 m0.ga m0.AR _ hm.g (by have V:=hi.AR.len;rw[hi.gm]at V;have G:aa m0.AR.l≤8:=V;omega))) ?_;rintro _ _ ⟨p27,b27,o27,c27,s27,rfl,hs27,hc27,rfl⟩;refine J2 ?_;refine GE (H':=AA b26 0 [ptr m0.x.gq 0]*(Ao cb (m0.DM {m0.x with answer:=false})*(AC b27 o27 m0.AR.l.reverse s27*R))) ?_ ?_
   ·rw[E1];show _=AA b26 0 [ptr m0.x.gq 0]*(Ab cb {m0.x with answer:=false}*(AK m0.x.gq m0.ga m0.AR*(BU cb m0.ws*(B2 cb m0.rs*(EW m0*(AC b27 o27 m0.AR.l.reverse s27*R))))));ac_rfl
   exact Bg _ (An (m0.AR.l.reverse,⟨p27,b27,o27,c27,s27⟩) ⟨⟨hs27,hc27⟩,by rw[AJ (show m0.s.answer=true from F)];rfl⟩ DW I)
  refine J1 ?_;refine GE (H':=Ao cb (m0.DM {m0.x with answer:=false})*(Bw.h ([]:List AS)*R)) ?_ ?_
  ·rw[E1,HJ,BS];show _=Ab cb {m0.x with answer:=false}*(AK m0.x.gq m0.ga m0.AR*(BU cb m0.ws*(B2 cb m0.rs*(EW m0*R))));rw[←F]
  exact An ([],Bw) ⟨Fe,by rw[AF (by rw[show m0.s.answer=false from F];simp)]⟩ DW I
 rintro⟨tf,⟨tp,tb,ob,tc,ts⟩⟩ ⟨hta,htf⟩;dsimp only at hta htf⊢;obtain⟨z0,N⟩:∃z0:By,z0=⟨{m0.s with answer:=false},tf,[]⟩:=DF;have hz0k:Es (t+1) z0:=by rw[N,htf];exact Es.begin hi
 have hmu0:0+z0.mu≤18:=(by have V:=hz0k.tl;unfold By.mu;omega)
 rw[N]at hmu0;have hep:m0.s.BA=((EN 40 z0).out,(EN 40 z0).c):=by
  unfold BA;rw[AF (show ¬m0.s.closed≠0 from h12),N,htf]
 refine J2 ?_;refine Bf (α:=Ak×MG×List (List UInt8)×List AS×Option Addr×Nat×Nat) (λz=>[(0,ptr cb 0),(3,z.2.1.v),(4,.slice z.2.2.2.2.1 (aa z.2.2.2.1) z.2.2.2.2.2.2)]) (λz=>Ao cb z.1*(EZ z.2.1*(AC tb ob tf ts*R))) (λz=>z.1.ok∧z.2.1.ok z.2.2.1∧Es (t+1) ⟨z.1.s,z.2.2.2.1,z.2.2.1⟩∧EN 40 ⟨z.1.s,z.2.2.2.1,z.2.2.1⟩=EN 40 z0∧Sl z.2.2.2.2.1 tb z.2.2.2.2.2.1 (aa z.2.2.2.1) z.2.2.2.2.2.2∧AZ B (AC tb ob tf ts) tb z.2.2.2.2.2.1 z.2.2.2.1∧aa z.2.2.1+(⟨z.1.s,z.2.2.2.1,z.2.2.1⟩:By).mu≤18) (λz=>(⟨z.1.s,z.2.2.2.1,z.2.2.1⟩:By).mu) (m0.DM {m0.x with answer:=false},⟨[],Bw⟩,[],tf,tp,ob,tc) ⟨⟨hm.g,hm.ws,hm.rs,hm.fl,hm.lo,hm.fa,hm.la,hm.fv,hm.lv⟩,⟨Fe,(λ_ h=>nomatch h),I⟩,by rw[N]at hz0k;exact hz0k,by rw[N];rfl,hta.1,AH,hmu0⟩ DW (by unfold EZ;rw[HJ,GX,BS,BS]) ?_;rintro⟨m,pk,K,told,q,to,cc⟩ ⟨hmk,hpk,hz,hzp,hqs,hqr,hmu⟩;dsimp only at hmk hpk hz hzp hqs hqr hmu⊢;have Y:=hz.c;have hks2:aa m.x.ks=16:=Y.ks;have hm1:64≤m.x.AV:=Y.m1;have hm2:m.x.AV≤300:=Y.m2;have hnx:m.x.next≤20*(t+1):=Y.nx;have htl:aa told≤8:=hz.tl;have htd:Told told:=hz.told;have hfil:=hz.filled;have GW:=WJ Y htd htl;refine A3 (E1 cb m _)<|J8 ?_;refine JL (Ji (j:=16) I I C0)<|JL (FW (cs:=[.slice none 0 0,.slice none 0 0,iN (m.x.AV-16),.bool false]) I I I C5)<|Ae (EB (l:=[.slice none 0 0,.slice none 0 0,iN (m.x.AV-16),.bool false]) I I) I ?_;rintro _ _ ⟨b35,rfl,rfl⟩;refine J5 ?_;refine A3 (H':=Bv b35 (⟨⟨[],m.x.AV-16⟩,Bw,[],Bw⟩:Em)*(Ao cb m*(EZ pk*(AC tb ob tf ts*R)))) (by rw[E1];unfold Bv;show _=AA b35 0 [.slice none 0 0,.slice none 0 0,iN (m.x.AV-16),.bool false]*(Bw.h ([]:List UInt8)*Bw.h ([]:List RF))*_;rw[HJ,HJ,BS,Hr]) ?_
 have hd0:Em.ok (⟨⟨[],m.x.AV-16⟩,Bw,[],Bw⟩:Em):=⟨Fe,Fe,I,by show m.x.AV-16≤284;omega,bk _⟩
 refine DY ?_;refine Bq (α:=Em×List AS×Option Addr×Nat×Nat) (λz=>[(5,ptr b35 0),(0,ptr cb 0),(3,pk.v),(4,.slice z.2.2.1 (aa z.2.1) z.2.2.2.2)]) (λz=>Bv b35 z.1*(Ao cb m*(EZ pk*(AC tb ob tf ts*R)))) (λz=>z.1.ok∧z.1.d=m.s.Fs told∧z.2.1=(⟨m.s,told,K⟩:By).Jh∧Sl z.2.2.1 tb z.2.2.2.1 (aa z.2.1) z.2.2.2.2∧AZ B (AC tb ob tf ts) tb z.2.2.2.1 z.2.1) ?_ ?_
 ·refine mC (λh39=>?_) (λh39=>?_)
  ·refine J2 ?_;have hne0:told≠ []:=kz.1 h39;refine Bf (α:=Nat) (λn=>[(6,iN n),(5,ptr b35 0),(0,ptr cb 0),(3,pk.v),(4,.slice q (aa told) cc)]) (λ_=>Bv b35 (⟨⟨[],m.x.AV-16⟩,Bw,[],Bw⟩:Em)*(Ao cb m*(EZ pk*(AC tb ob tf ts*R)))) (λn=>(1≤n∧n≤aa told)∧GK told (m.x.AV-16) n=GK told (m.x.AV-16) (aa told)) (λn=>n) (aa told) ⟨⟨h39,er _⟩,I⟩ Fr I ?_;rintro n ⟨hnl,hnA0⟩;dsimp only at hnl hnA0⊢;have htn:aa (told.take n)=n:=Qt;have htne:told.take n≠ []:=λh=>by rw[h]at htn;simp at htn;omega
   have hokA:B4 (Fo (told.take n)):=vB ((htd.take n).Io htne);have hrdT:AZ B (AC tb ob tf ts) tb to (told.take n):=AH;refine J2 ?_;refine Bq (α:=Unit) (λ_=>[(54,.bool (decide (1<n∧(m.x.AV-16)<aa (Av (Fo (told.take n)))))),(6,iN n),(5,ptr b35 0),(0,ptr cb 0),(3,pk.v),(4,.slice q (aa told) cc)]) (λ_=>Bv b35 (⟨⟨[],m.x.AV-16⟩,Bw,[],Bw⟩:Em)*(Ao cb m*(EZ pk*(AC tb ob tf ts*R)))) (λ_=>True) ?_ ?_
   ·refine mA 15 15 ?_;refine A4 ?_;refine JT 1 I YK<|A4 ?_;refine D4 42 I (λhg1=>?_) (λhg1=>?_)
    ·have h42:1<n:=hg1;refine BE ?_;refine JY 5 I T1 (Rb (k':=aa (told.take n)) I I WT htn)<|JY 6 I T1 (FW (cs:=AN (⟨Fo (told.take n),q,tb,to,cc,[]⟩:RF)) I I I (AB.one (⟨Fo (told.take n),q,tb,to,cc,[]⟩:RF)))<|JY 9 I T1 (NB I)<|A5 ?_;refine bV ?_;refine S3 7 C1 I I I I T1 (Bd I (ZO (⟨Fo (told.take n),q,tb,to,cc,[]⟩:RF) none 0 0 0 [] [] _ ⟨⟨hqs.1,by show(told.take n).length≤cc;have:=hqs.2;omega⟩,vQ,Pc⟩ (show AZ B _ tb to (told.take n)from(let _:=hrdT;AH)) E7 I C2 (by show EV 3;unfold EV;decide) ⟨by show(3:Int)≤3;decide,Rw⟩ hokA)) ?_;rintro _ _ ⟨p47,b47,o47,c47,s47,Q47,rfl,hs47,hc47,rfl,hk47⟩;rw[l0]at*;refine BT ?_;refine A4 ?_;refine JY 13 I T1 (Ih I I)<|JT 14 I (Om T1 I I)<|A4 ?_;exact Bg (Bv b35 (⟨⟨[],m.x.AV-16⟩,Bw,[],Bw⟩:Em)*(Ao cb m*(EZ pk*(AC tb ob tf ts*R)))) (An () trivial (.cons (congrArg (λbb=>some (Value.bool bb)) (decide_eq_decide.2 ⟨λh=>⟨h42,h⟩,λh=>h.2⟩)) Fr) I)
    have h42:¬1<n:=hg1;refine Bn ?_;refine JN 9 I F1<|A5 ?_;refine bV ?_;refine V8 7 C1 I I I I F1 (.inr AH)<|A4 ?_;refine JN 13 I F1<|BE ?_;exact An () trivial (.cons (congrArg (λbb=>some (Value.bool bb)) (decide_eq_false (λh=>h42 h.1)).symm) Fr) Ci
   rintro _ _;refine J1 ?_;refine mC (λh54=>?_) (λh54=>?_)
   ·refine BQ ?_;exact BV (n-1) ⟨⟨C0,C0⟩,by rw[←hnA0];obtain⟨n2,rfl⟩:∃n2,n=n2+2:=⟨n-2,C0⟩;rw[GK,AJ h54.2];rfl⟩ (by show n-1<n;omega) Fr I
   have hnA:GK told (m.x.AV-16) (aa told)=n:=by
    rw[←hnA0]
    match n,hnl.1 with
    |1,_=>rfl
    |n2+2,_=>rw[GK,AF (λh=>h54 ⟨C0,h⟩)]
   refine DL ?_;refine JL (Dx (v':=.slice q (aa (told.take n)) n) (Abc I I I ⟨er _,WT⟩) (by rw[htn])) ?_;refine JL (FW (cs:=AN (⟨Fo (told.take n),q,tb,to,n,[]⟩:RF)) I I I (AB.one (⟨Fo (told.take n),q,tb,to,n,[]⟩:RF)))<|mE I (V3 b35 (⟨⟨[],m.x.AV-16⟩,Bw,[],Bw⟩:Em) (⟨Fo (told.take n),q,tb,to,n,[]⟩:RF) _ hd0 hokA ⟨by show(3:Int)≤3;decide,Rw⟩ ⟨⟨.inr (hqs.1.resolve_left WT),by show(told.take n).length≤n;omega⟩,vQ,Pc⟩ (hr:=show AZ B _ tb to (told.take n)from(let _:=hrdT;AH))) ?_;rintro _ _ ⟨dm2,hd2,hde2,rfl,rfl⟩;refine J5 ?_;refine JL (Lh I I hnl.2)<|J2 ?_;refine An (dm2,told.drop n,sp q cc n 2,to+n*2,cc-n) ⟨hd2,?_,?_,F0 hqs hnl.2 hqs.2 (by rw[di]),hqr.L8 n⟩ (.cons I (.cons I (.cons I (.cons ?_ .nil)))) I
   ·rw[hde2];have hadd:(⟨[],m.x.AV-16⟩:B9).add (Fo (told.take n))=some ⟨[]++[Fo (told.take n)],m.x.AV-16⟩:=by
     unfold B9.add;rw[AF (by
      have V:=kI Y hne0;have G:(GK told (m.s.AV-16) (aa told))=n:=hnA;rw[G]at V;have h9:m.s.AV=m.x.AV:=rfl;rw[h9]at V;show ¬m.x.AV-16<aa (([]:List UInt8)++Av (Fo (told.take n)));rw[l0];omega)]
    show((⟨[],m.x.AV-16⟩:B9).add (Fo (told.take n))).getD _=_;rw[hadd];unfold Fs;rw[AF hne0];have G:(GK told (m.s.AV-16) (aa told))=n:=hnA;rw[G];rfl
   ·show _=told.drop (GK told (m.s.AV-16) (aa told));have G:(GK told (m.s.AV-16) (aa told))=n:=hnA;rw[G]
   show some (Value.slice _ _ _)=some (Value.slice _ _ _);rw[di]
  refine J1 ?_;obtain rfl:told=[]:=hU.1 C0;exact An ((⟨⟨[],m.x.AV-16⟩,Bw,[],Bw⟩:Em),[],q,to,cc) ⟨hd0,I,I,hqs,hqr⟩ Bu I
 rintro⟨dm,Jh,q2,to2,cc2⟩ ⟨hdm,hdd,htold2,hqs2,hqr2⟩;dsimp only at hdm hdd htold2 hqs2 hqr2⊢;refine J3 ?_;refine A3 (H':=Ab cb m.x*(Bv b35 dm*(AK m.x.gq m.ga m.AR*(BU cb m.ws*(B2 cb m.rs*(EW m*(EZ pk*(AC tb ob tf ts*R)))))))) (by rw[E1];ac_rfl) ?_;have hfl10:aa m.fl≤10:=by have:=Y.fl;simpa[Ak.s]using this
 refine J4 ?_;refine JL (Dx Gr hmk.fv)<|J1 ?_;refine JL (ID (i:=aa m.fl) (j:=10) I I)<|J2 ?_;refine Bq (α:=List CH×Em) (λz=>[(5,ptr b35 0),(0,ptr cb 0),(3,pk.v),(4,.slice q2 (aa Jh) cc2)]) (λz=>BU cb z.1*(Bv b35 z.2*(Ab cb m.x*(Hg m cb*(EZ pk*(AC tb ob tf ts*R)))))) (λz=>(∀w∈z.1,w.ok)∧z.2.ok∧z.1.map (·.w)=(⟨m.s,told,K⟩:By).filled.1∧z.2.d=(⟨m.s,told,K⟩:By).filled.2) ?_ ?_
 ·refine mC (λh72=>?_) (λh72=>?_)
  ·refine DE ?_;have hff:(⟨m.s,told,K⟩:By).filled=Fv (m.s.Fs told) m.s.ws 0 4:=by
    unfold By.filled;rw[AJ (by show(m.fl.map (·.BF)).length<10;rw[eh];exact h72)]
   refine Bf (α:=Nat×List CH×Em) (λz=>[(73,iN z.1),(5,ptr b35 0),(0,ptr cb 0),(3,pk.v),(4,.slice q2 (aa Jh) cc2)]) (λz=>BU cb z.2.1*(Bv b35 z.2.2*(Ab cb m.x*(Hg m cb*(EZ pk*(AC tb ob tf ts*R)))))) (λz=>z.1≤4∧Rk m.s.AI m.s.ws (m.s.Fs told) z.2.1 z.2.2∧Fv z.2.2.d (z.2.1.map (·.w)) z.1 (4-z.1)=Fv (m.s.Fs told) m.s.ws 0 4) (λz=>4-z.1) (0,m.ws,dm) ⟨bk _,⟨hmk.ws,hdm,by rw[hdd];exact .refl Y.ws GW⟩,by rw[hdd];rfl⟩ Fr W6 ?_;rintro⟨k,wz,L⟩ ⟨hk4,hF,hT⟩;dsimp only at hk4 hF hT⊢;refine J2 ?_;refine JL TY<|J3 ?_;refine mC (λh74=>?_) (λh74=>?_)
   ·refine DL ?_;refine Bf (α:=List CH×Em) (λz=>[(7,iN k),(73,iN k),(5,ptr b35 0),(0,ptr cb 0),(3,pk.v),(4,.slice q2 (aa Jh) cc2)]) (λz=>BU cb z.1*(Bv b35 z.2*(Ab cb m.x*(Hg m cb*(EZ pk*(AC tb ob tf ts*R)))))) (λz=>Rk m.s.AI m.s.ws (m.s.Fs told) z.1 z.2∧Fv z.2.d (z.1.map (·.w)) k (4-k)=Fv (m.s.Fs told) m.s.ws 0 4) (λz=>z.2.d.room-aa z.2.d.b) (wz,L) ⟨hF,hT⟩ KS I ?_;rintro⟨wz1,dz1⟩ ⟨hF1,hT1⟩;dsimp only at hF1 hT1⊢;have hl1:=hF1.len;have hwk:=hF1.f.PN.ok k h74;rw[Tb C0]at hwk;refine J6 ?_;refine mE I (Acy cb b35 k m.s.AI wz1 dz1 _ hl1 h74 hF1.QJ hwk hF1.kH) ?_;rintro v79 _ ⟨wm',dm',hwm',hdm',hfi,rfl⟩;obtain⟨b79,rfl⟩:∃b79:Bool,v79=.bool b79:=by
     unfold gF at hfi;split at hfi
     ·exact⟨_,hfi.1⟩
     exact⟨_,hfi.1⟩
    refine J2 ?_;refine mc (λh79=>?_) (λh79=>?_)
    ·subst h79;refine J5 ?_;obtain⟨z79,hz79⟩:∃zz,(wz1.getD k AD).w.fill dz1.d k=some zz:=by
      cases e:(wz1.getD k AD).w.fill dz1.d k with
      |none=>rw[e]at hfi;obtain⟨C,_,_⟩:=hfi;cases C
      |some zz=>exact⟨zz,I⟩
     obtain⟨w2,d2⟩:=z79;rw[hz79]at hfi;obtain⟨_,hfi1,hfi2⟩:=hfi;dsimp only at hfi1 hfi2;have e9:((wz1.map (·.w)).getD k BO).fill dz1.d k=some (w2,d2):=by rw[Tb C0];exact hz79
     obtain⟨hst1,hst2⟩:=hF1.f.step h74 e9;have hms:(wz1.set k wm').map (·.w)=(wz1.map (·.w)).set k w2:=by rw[D',hfi1]
     exact BV (wz1.set k wm',dm') ⟨⟨λa ha=>NF (P:=CH.ok) hF1.QJ hwm' ha,hdm',by rw[hms,hfi2];exact hst1⟩,by rw[hms,hfi2,←hT1];exact(qe h74 hF1.f.PN hF1.f.LA e9).symm⟩ (by show dm'.d.room-aa dm'.d.b<dz1.d.room-aa dz1.d.b;rw[hfi2];have V:=hst1.room;have G:=hF1.f.room;have h9:=hst1.LA.len;omega) KS I
    subst h79;have h79n:(wz1.getD k AD).w.fill dz1.d k=none:=by
     cases e:(wz1.getD k AD).w.fill dz1.d k with
     |none=>rfl
     |some zz=>rw[e]at hfi;obtain⟨C,_,_⟩:=hfi;cases C
    rw[h79n]at hfi;obtain⟨_,hfi1,hfi2⟩:=hfi;have e9:((wz1.map (·.w)).getD k BO).fill dz1.d k=none:=by rw[Tb C0];exact h79n
    have hms:(wz1.set k wm').map (·.w)=wz1.map (·.w):=by rw[D',hfi1,←Tb C0,Xu]
    have hF2:Rk m.s.AI m.s.ws (m.s.Fs told) (wz1.set k wm') dm':=⟨λa ha=>NF (P:=CH.ok) hF1.QJ hwm' ha,hdm',by rw[hms,hfi2];exact hF1.f⟩
    have hT3:Fv dm'.d ((wz1.set k wm').map (·.w)) (k+1) (4-(k+1))=Fv (m.s.Fs told) m.s.ws 0 4:=by rw[hms,hfi2,←hT1];exact(wd h74 e9).symm
    refine CY ?_;exact BV (k+1,wz1.set k wm',dm') ⟨C0,hF2,hT3⟩ (by show 4-(k+1)<4-k;omega) Fr I
   obtain rfl:k=4:=C0;have hT:wz.map (·.w)=(⟨m.s,told,K⟩:By).filled.1∧L.d=(⟨m.s,told,K⟩:By).filled.2:=by
    rw[hff,←hT];exact Dj
   refine J4 ?_;exact An (wz,L) ⟨hF.QJ,hF.kH,hT.1,hT.2⟩ Bu I
  refine J1 ?_;have hff:(⟨m.s,told,K⟩:By).filled=(m.s.ws,m.s.Fs told):=by
   unfold By.filled;rw[AF (by show ¬aa (m.fl.map (·.BF))<10;rw[eh];exact h72)]
  exact An (m.ws,dm) ⟨hmk.ws,hdm,by rw[hff];rfl,by rw[hff];exact hdd⟩ Bu W6
 rintro⟨wz,L⟩ ⟨hwz,hdz,hwf,hdf⟩;dsimp only at hwz hdz hwf hdf⊢;refine A3 (H':=Bv b35 L*(Ab cb m.x*(AK m.x.gq m.ga m.AR*(BU cb wz*(B2 cb m.rs*(EW m*(EZ pk*(AC tb ob tf ts*R)))))))) W6<|J8 ?_;refine JL (Dy (i:=aa L.rs) (j:=0) I I)<|J2 ?_;refine mC (λM=>?_) (λM=>?_)
 ·refine DL ?_;have hfr:(⟨m.s,told,K⟩:By).filled.2.A7=[]:=by
   rw[←hdf,←hdz.map,hU.1 M];rfl
  have hfin:m0.s.BA=(K,{m.s with ws:=wz.map (·.w)}):=by
   rw[hep,←hzp,Afv hfr,hwf]
  exact mR [2] (EZ pk*(Ao cb (m.Rp wz)*R)) (hE:=⟨λO X=>Sat.right (A:=Bv b35 L*AC tb ob tf ts) (Eq.mp (by
   congr 1;rw[rj];unfold Hg;ac_rfl) X)⟩) I I (by rw[hfin];exact⟨m.Rp wz,⟨hmk.g,hwz,hmk.rs,hmk.fl,hmk.lo,hmk.fa,hmk.la,hmk.fv,hmk.lv⟩,I,pk,hpk,I,I⟩)
 have hne:(⟨m.s,told,K⟩:By).filled.2.A7≠ []:=by
  rw[←hdf,←hdz.map];intro h;exact M (by have:=congrArg cx h;simpa using this)
 have hbl:=hdz.len;have hbr:=hdz.room;refine J3 ?_;refine A3 (H':=Bv b35 L*(Ab cb m.x*(AK m.x.gq m.ga m.AR*(BU cb wz*(B2 cb m.rs*(EW m*(AC pk.a.b pk.a.o pk.l pk.a.s*(AP Iw pk.l*(AC tb ob tf ts*R))))))))) (by unfold EZ Am.h;ac_rfl)<|EI (Bv b35 L*(Ab cb m.x*(AK m.x.gq m.ga m.AR*(BU cb wz*(B2 cb m.rs*(EW m*(AP Iw pk.l*(AC tb ob tf ts*R)))))))) 15 17 EO I C1<|Bn ?_;refine JT 4 I (Et (l:=AE m.x.ks++[u8 (Bb m.x.first)]) I (by rw[a5,II hks2];rfl))<|Be ?_;refine Au 13 C1 I I (Bd (vs:=[.agg (AE m.x.ks++[u8 (Bb m.x.first)]).toArray,u64 (ad m.x.next),.slice L.a.p (aa L.d.b) L.a.c]) xF (gQ m.x.ks hks2 (Bb m.x.first) (ad m.x.next) L.d.b L.a.p L.a.b L.a.o L.a.c _ hdz.a.1 AH C0)) ?_;rintro _ _ ⟨p101,b101,o101,c101,s101,rfl,hs101,hc101,rfl⟩;generalize W:E5 m.x.ks (Bb m.x.first) (ad m.x.next) L.d.b=zs at*;refine BT ?_;refine Au 14 C1 I I (Gn (cs:=[.slice p101 (aa zs) c101]) I Cc I I) ?_;rintro _ _ ⟨b102,rfl,rfl⟩;refine BT ?_;refine F9 (H':=AC pk.a.b pk.a.o pk.l pk.a.s*(AA b102 0 (AE [(⟨zs,⟨p101,b101,o101,c101,s101⟩⟩:IB)])*(AC b101 o101 zs s101*(Bv b35 L*(Ab cb m.x*(AK m.x.gq m.ga m.AR*(BU cb wz*(B2 cb m.rs*(EW m*(AP Iw pk.l*(AC tb ob tf ts*R))))))))))) (by show AA b102 0 [.slice p101 (aa zs) c101]*_=_;rw[show AE [(⟨zs,⟨p101,b101,o101,c101,s101⟩⟩:IB)]=[.slice p101 (aa zs) c101]from rfl];ac_rfl) ?_;have hpl:aa pk.l≤18:=(by have V:=congrArg cx hpk.map;rw[eh]at V;omega)
 refine Au 15 C1 I I (CA (ys:=[(⟨zs,⟨p101,b101,o101,c101,s101⟩⟩:IB)]) (bb:=b102) (oo:=0) (cc:=1) I hpk.a.1 hpk.a.2 I Bz AH I Cd C0) ?_;rintro _ _ ⟨p103,b103,o103,c103,s103,rfl,hs103,hc103,rfl⟩;refine FF ?_;refine GU 16 C1 I I HG Fk<|Bn ?_;obtain⟨pk2,hpk2e⟩:∃pk2:MG,pk2=⟨pk.l++[(⟨zs,⟨p101,b101,o101,c101,s101⟩⟩:IB)],⟨p103,b103,o103,c103,s103⟩⟩:=DF;have hpk2:pk2.ok (K++[zs]):=by
  rw[hpk2e];refine⟨⟨hs103,hc103⟩,λp J=>?_,?_⟩
  ·obtain J|J:=j2.1 J
   ·exact hpk.l p J
   rw[g5.1 J];exact⟨hs101,hc101⟩
  show(pk.l++[_]).map IB.ys=_;rw[n8,hpk.map];rfl
 have hpv:(Value.slice p103 (aa (pk.l++[(⟨zs,⟨p101,b101,o101,c101,s101⟩⟩:IB)])) c103)=pk2.v:=by rw[hpk2e];rfl
 rw[hpv];refine I4 (EZ pk2*(Bv b35 L*(Ab cb m.x*(AK m.x.gq m.ga m.AR*(BU cb wz*(B2 cb m.rs*(EW m*(AC tb ob tf ts*R)))))))) (hE:=⟨λO X=>Sat.right (A:=AA b102 0 (AE [(⟨zs,⟨p101,b101,o101,c101,s101⟩⟩:IB)])) (Eq.mp (by
  congr 1;rw[hpk2e];unfold EZ;rw[LY,HK,GX];show _=AA b102 0 (AE [(⟨zs,⟨p101,b101,o101,c101,s101⟩⟩:IB)])*(AC b103 o103 (pk.l++[(⟨zs,⟨p101,b101,o101,c101,s101⟩⟩:IB)]) s103*(AP Iw pk.l*(AC b101 o101 zs s101*Bs))*_);rw[Hr];ac_rfl) X)⟩) ?_
 refine J7 ?_;refine Bq (α:=CC×List Bi×Am) (λz=>[(0,ptr cb 0),(3,pk2.v),(4,.slice q2 (aa Jh) cc2)]) (λz=>Ab cb z.1*(AK m.x.gq m.ga m.AR*(BU cb wz*(B2 cb m.rs*(z.2.2.h z.2.1*(m.la.h m.lo*(AP BC z.2.1*(AP BC m.lo*(EZ pk2*(AC tb ob tf ts*R)))))))))) (λz=>z.2.2.ok z.2.1∧(∀p∈z.2.1,p.ok)∧z.1={m.x with fv:=z.2.2.v (aa z.2.1)}∧z.2.1.map (·.BF)=if E9 (⟨m.s,told,K⟩:By).filled.2.A7 then m.s.Bp++[⟨m.s.next,m.s.now,(⟨m.s,told,K⟩:By).filled.2.A7⟩]else m.s.Bp) ?_ ?_
 ·refine mc (λU=>?_) (λU=>?_)
  ·refine A3 (H':=AC m.fa.b m.fa.o m.fl m.fa.s*(Ab cb m.x*(Bv b35 L*(AK m.x.gq m.ga m.AR*(BU cb wz*(B2 cb m.rs*(m.la.h m.lo*(AP BC m.fl*(AP BC m.lo*(EZ pk2*(AC tb ob tf ts*R))))))))))) (by unfold EW Am.h;ac_rfl)<|EI (Ab cb m.x*(Bv b35 L*(AK m.x.gq m.ga m.AR*(BU cb wz*(B2 cb m.rs*(m.la.h m.lo*(AP BC m.fl*(AP BC m.lo*(EZ pk2*(AC tb ob tf ts*R)))))))))) 22 23 EO I C1<|Bn ?_;refine JT 4 I (Dx Gr hmk.fv)<|DY ?_;refine JT 17 I (FW (cs:=DP (⟨m.x.next,m.x.now,L.rs,L.f⟩:Bi)) I I I (AB.one (⟨m.x.next,m.x.now,L.rs,L.f⟩:Bi)))<|Au 18 C1 I I (Gn (cs:=DP (⟨m.x.next,m.x.now,L.rs,L.f⟩:Bi)) I Cc I I) ?_;rintro _ _ ⟨b126,rfl,rfl⟩;refine BT ?_;refine F9 (H':=AC m.fa.b m.fa.o m.fl m.fa.s*(AA b126 0 (AE [(⟨m.x.next,m.x.now,L.rs,L.f⟩:Bi)])*(Ab cb m.x*(Bv b35 L*(AK m.x.gq m.ga m.AR*(BU cb wz*(B2 cb m.rs*(m.la.h m.lo*(AP BC m.fl*(AP BC m.lo*(EZ pk2*(AC tb ob tf ts*R)))))))))))) (by show AA b126 0 _*_=_;rw[show AE [(⟨m.x.next,m.x.now,L.rs,L.f⟩:Bi)]=DP (⟨m.x.next,m.x.now,L.rs,L.f⟩:Bi)from g8 _];ac_rfl)<|Au 19 C1 I I (CA (ys:=[(⟨m.x.next,m.x.now,L.rs,L.f⟩:Bi)]) (bb:=b126) (oo:=0) (cc:=1) I hmk.fa.1 hmk.fa.2 I Bz AH I Cd C0) ?_;rintro _ _ ⟨p127,b127,o127,c127,s127,rfl,hs127,hc127,rfl⟩;refine BT ?_;refine Bn ?_;refine Bg _ (An ({m.x with fv:=.slice p127 (aa (m.fl++[(⟨m.x.next,m.x.now,L.rs,L.f⟩:Bi)])) c127},m.fl++[(⟨m.x.next,m.x.now,L.rs,L.f⟩:Bi)],⟨p127,b127,o127,c127,s127⟩) ⟨⟨hs127,hc127⟩,λp J=>?_,I,?_⟩ ED I) (hE:=?_)
   ·exact⟨λO X=>Sat.right (A:=AA b126 0 (AE [(⟨m.x.next,m.x.now,L.rs,L.f⟩:Bi)])*(AA b35 0 (JW L)*L.a.h L.d.b)) (Eq.mp (by
     congr 1;rw[LY,HK,GX];show _=AA b126 0 (AE [(⟨m.x.next,m.x.now,L.rs,L.f⟩:Bi)])*(AA b35 0 (JW L)*L.a.h L.d.b)*(Ab cb {m.x with fv:=.slice p127 (aa (m.fl++[(⟨m.x.next,m.x.now,L.rs,L.f⟩:Bi)])) c127}*(AK m.x.gq m.ga m.AR*(BU cb wz*(B2 cb m.rs*(AC b127 o127 (m.fl++[(⟨m.x.next,m.x.now,L.rs,L.f⟩:Bi)]) s127*(m.la.h m.lo*(AP BC m.fl*(L.f.h L.rs*Bs)*(AP BC m.lo*(EZ pk2*(AC tb ob tf ts*R))))))))));rw[Hr];unfold Bv;ac_rfl) X)⟩
   ·obtain J|J:=j2.1 J
    ·exact hmk.fl p J
    rw[g5.1 J];exact hdz.f
   rw[←hdf,AJ U,n8];show _++[(⟨m.x.next,m.x.now,L.rs.map (·.f)⟩:FQ)]=_;rw[hdz.map];rfl
  refine J1 ?_;refine Bg _ (An (m.x,m.fl,m.fa) ⟨hmk.fa,hmk.fl,?_,?_⟩ ED I) (hE:=?_)
  ·exact⟨λO X=>Sat.right (A:=Bv b35 L) (Eq.mp (by
    congr 1;show _=Bv b35 L*(Ab cb m.x*(AK m.x.gq m.ga m.AR*(BU cb wz*(B2 cb m.rs*(m.fa.h m.fl*(m.la.h m.lo*(AP BC m.fl*(AP BC m.lo*(EZ pk2*(AC tb ob tf ts*R))))))))));unfold EW;ac_rfl) X)⟩
  ·show m.x={m.x with fv:=m.fa.v (aa m.fl)};rw[←hmk.fv]
  rw[←hdf,AF (by rw[U];simp)];rfl
 rintro⟨x2,fl2,fa2⟩ ⟨hfa2,hfl2,S,hfm2⟩;dsimp only at hfa2 hfl2 S hfm2⊢;refine J1 ?_;obtain⟨m3,hm3⟩:∃m3:Ak,m3={m with x:={x2 with next:=x2.next+1},ws:=wz,fl:=fl2,fa:=fa2}:=DF;have hok3:m3.ok:=by rw[hm3];exact⟨hmk.g,hwz,hmk.rs,hfl2,hmk.lo,hfa2,hmk.la,by rw[S],by rw[S];exact hmk.lv⟩
 have hs3:m3.s=((⟨m.s,told,K⟩:By).step).c:=by
  rw[hm3];show(⟨x2.AV,x2.AI,x2.ks,x2.first,x2.now,x2.closed,x2.code,x2.said,x2.next+1,m.AR,x2.answer,wz.map (·.w),m.rs.map (·.r),fl2.map (·.BF),m.lo.map (·.BF),x2.CB,x2.waits⟩:AO)=_;rw[hfm2,hwf,S];rfl
 have W:zs=E5 m.s.ks (Bb m.s.first) (ad m.s.next) (⟨m.s,told,K⟩:By).filled.2.b:=by rw[←W,←hdf];rfl
 refine J5 ?_;refine JL (LF (i:=x2.next) (j:=1) I I (by rw[S];show m.x.next+1<_;omega))<|J5 ?_;have eps:(⟨m3.s,Jh,K++[zs]⟩:By)=By.step ⟨m.s,told,K⟩:=by
  rw[hs3,htold2,W];rfl
 obtain⟨hst1,hst2⟩:=hz.step hne;refine Bg (Ao cb m3*(EZ pk2*(AC tb ob tf ts*R))) (hE:=?_) ?_
 ·have hgq:x2.gq=m.x.gq:=by rw[S]
  rw[E1,hm3];exact⟨λO X=>Eq.mp (by
   congr 1;show _=Ab cb {x2 with next:=x2.next+1}*(AK x2.gq m.ga m.AR*(BU cb wz*(B2 cb m.rs*((fa2.h fl2*(m.la.h m.lo*(AP BC fl2*AP BC m.lo)))*(EZ pk2*(AC tb ob tf ts*R))))));rw[hgq];ac_rfl) X⟩
 exact BV (m3,pk2,K++[zs],Jh,q2,to2,cc2) ⟨hok3,hpk2,by rw[eps];exact hst1,by rw[eps,←Z_ hz hne];exact hzp,hqs2,hqr2,by rw[eps,a5];simp only[mz];omega⟩ (by rw[eps];exact hst2) DW I
end
section
variable{B:World}
structure Pw where
 sq:Value
 cq:Value
 h1:sq.oneCell'=true
 h2:cq.oneCell'=true
def Zd:Pw:=⟨.pointer none,.pointer none,I,I⟩
def V9(s c:Nat):Pw:=⟨ptr s 0,ptr c 0,I,I⟩
@[reducible] def pK(m:Pw):List Value:=[.slice none 0 0,m.sq,m.cq,uN 0,.bool false,.bool false,.bool false,.bool false,uN 0,.bool false]
@[reducible] instance:AB Pw:=⟨10,pK,Zd,λ_=>rfl,λm v h=>by
 simp at h;rcases h with rfl|rfl|rfl|rfl|rfl|rfl|rfl|rfl|rfl|rfl<;>first|rfl|exact m.h1|exact m.h2⟩
structure QN where
 cq:Value
 h1:cq.oneCell'=true
def XF:QN:=⟨.pointer none,I⟩
def ZK(c:Nat):QN:=⟨ptr c 0,I⟩
@[reducible] def i9(m:QN):List Value:=[.slice none 0 0,m.cq,uN 0,uN 0,.bool false,.bool false,uN 0,uN 0,iN 0]
@[reducible] instance:AB QN:=⟨9,i9,XF,λ_=>rfl,λm v h=>by
 simp at h;rcases h with rfl|rfl|rfl|rfl|rfl|rfl|rfl|rfl|rfl<;>first|rfl|exact m.h1⟩
structure Gv where
 s:Nat
 c:Nat
 r:Nat
def Fm(l:List Gv):List Pw:=l.map (λz=>V9 z.s z.c)++a9 (4-aa l) Zd
def Fh(l:List Gv):List QN:=l.map (λz=>ZK z.r)++a9 (4-aa l) XF
def Np(z:Gv):HP:=AK z.s B0 (.of 4096)*(AK z.c B0 (.of 4096)*AK z.r B0 (.of 4096))
def mn(l)(h:aa l≤4):aa (Fm l)=4:=by unfold Fm;simp;omega
def B? (l)(h:aa l≤4):aa (Fh l)=4:=by unfold Fh;simp;omega
def y8(l)(z:Gv)(h:aa l<4):Fm (l++[z])=(Fm l).set (aa l) (V9 z.s z.c):=by
 unfold Fm;exact cN
def Ae2(l)(z:Gv)(h:aa l<4):Fh (l++[z])=(Fh l).set (aa l) (ZK z.r):=by
 unfold Fh;exact cN
def fq(l)(h:aa l<4):(Fm l).getD (aa l) AD=Zd:=by
 unfold Fm;exact Zz
def q'(l)(h:aa l<4):(Fh l).getD (aa l) AD=XF:=by
 unfold Fh;exact Zz
def Li(z:Gv):CH:=⟨BO,Bw,z.s,B0,z.c,B0⟩
def Ls(z:Gv):FA:=⟨LK,Bw,z.r,B0⟩
def rx(l:List Gv)(h:aa l=4):AE (Fm l)=AE (l.map Li):=by
 unfold Fm;rw[h,Al6,Ajc,g8];have:∀l:List Gv,AE (l.map λz=>V9 z.s z.c)=AE (l.map Li):=by
  intro l
  induction l with
  |nil=>rfl
  |cons z l Z=>show pK _++AE (l.map _)=DA _++AE (l.map Li);rw[Z];rfl
 exact this l
def xx(l:List Gv)(h:aa l=4):AE (Fh l)=AE (l.map Ls):=by
 unfold Fh;rw[h,Al6,Ajc,g8];have:∀l:List Gv,AE (l.map λz=>ZK z.r)=AE (l.map Ls):=by
  intro l
  induction l with
  |nil=>rfl
  |cons z l Z=>show i9 _++AE (l.map _)=Er _++AE (l.map Ls);rw[Z];rfl
 exact this l
def fw(l:List Gv):AP Np l=AP DK (l.map Li)*AP Dq (l.map Ls):=by
 induction l with
 |nil=>rw[oq,oq,GX,GX,GX,BS]
 |cons z l Z=>
  rw[hP,hP,HK,HK,HK,Z];have C:DK (Li z)=AK z.s B0 (.of 4096)*AK z.c B0 (.of 4096):=by
   show AC 0 0 ([]:List UInt8) []*(AK z.s B0 (.of 4096)*AK z.c B0 (.of 4096))=_;rw[GY,BS]
  have M:Dq (Ls z)=AK z.r B0 (.of 4096):=by
   show AC 0 0 ([]:List UInt8) []*AK z.r B0 (.of 4096)=_;rw[GY,BS]
  rw[C,M];unfold Np;ac_rfl
def Ew{b o o'}(l m)(h:o+aa l=o'):AA b o (l++m)=AA b o l*AA b o' m:=by
 rw[HF,h]
def MA(AV AI:Nat)(ks:List UInt8)(first:Bool)(gq:Nat):CC:=⟨AV,AI,ks,first,0,0,0,false,0,gq,false,.slice none 0 0,.slice none 0 0,0,0⟩
def Lf(AV AI:Nat)(ks:List UInt8)(first:Bool)(gq:Nat):List Value:=
 [iN AV,iN AI]++((AE ks++[u8 (Bb first)])++((AE ks++[u8 (Bb (!first))])++([uN 0]++([iN 0]++([uN 0]++([.bool false]++([uN 0]++([ptr gq 0]++([.bool false]++(AE (Fm [])++(AE (Fh [])++([.slice none 0 0]++([.slice none 0 0]++([uN 0]++[uN 0]))))))))))))))
def wj(AV AI)(ks:List UInt8)(first gq):(Lf AV AI ks first gq).all live=true:=by
 unfold Lf;simp only[List.all_append,Kx];rfl
def Adt(b AV AI)(ks:List UInt8)(Z:aa ks=16)(first gq):
  AA b 0 (Lf AV AI ks first gq)=Ab b (MA AV AI ks first gq)*(AC b (0+43) (Fm []) []*AC b (0+83) (Fh []) []):=by
 have O:∀s:Value,aa (AE ks++[s])=17:=λs=>by rw[a5,II Z];rfl
 unfold Lf;rw[Ew _ _ (rfl:0+2=0+2),Ew (o:=0+2) (o':=0+19) _ _ (by rw[O]),Ew (o:=0+19) (o':=0+36) _ _ (by rw[O]),
  Ew (o:=0+36) (o':=0+37) _ _ I,Ew (o:=0+37) (o':=0+38) _ _ I,Ew (o:=0+38) (o':=0+39) _ _ I,Ew (o:=0+39) (o':=0+40) _ _ I,Ew (o:=0+40) (o':=0+41) _ _ I,Ew (o:=0+41) (o':=0+42) _ _ I,
  Ew (o:=0+42) (o':=0+43) _ _ I,Ew (o:=0+43) (o':=0+83) _ _ I,Ew (o:=0+83) (o':=0+119) _ _ I,Ew (o:=0+119) (o':=0+120) _ _ I,Ew (o:=0+120) (o':=0+121) _ _ I,Ew (o:=0+121) (o':=0+122) _ _ rfl]
 unfold Ab AC MA;rw[g8,g8];ac_rfl
def WD:List Value:=[.int .i64 0,.int .i64 0]++([AT,AT,AT,AT,AT,AT,AT,AT,AT,AT,AT,AT,AT,AT,AT,AT,AT]++([AT,AT,AT,AT,AT,AT,AT,AT,AT,AT,AT,AT,AT,AT,AT,AT,AT]++([uN 0]++([iN 0]++([uN 0]++([.bool false]++([uN 0]++([.pointer none]++([.bool false]++(AE (Fm [])++(AE (Fh [])++([.slice none 0 0]++([.slice none 0 0]++([uN 0]++[uN 0]))))))))))))))
theorem jf:Bh prog 184 (.agg WD.toArray):=by
 have h:Bh prog 184 _:=AH;refine Eq.mp (congrArg (Bh prog 184) ?_) h;kernel_rfl
def Ru{ks:List UInt8}(Z:aa ks=16)(s):aa (AE ks++[s])=17:=by
 rw[a5,II Z];rfl
def Afh(mt a)(ks:List UInt8)(Z:aa ks=16)(first c):
  Kv #[(0,2),(2,17),(19,17),(36,1),(37,1),(38,1),(39,1),(40,1),(41,1),(42,1),(43,40),(83,36),(119,1),(120,1),(121,1),(122,1)] WD
   [(0,.agg [iN mt,iN a].toArray),(1,.agg (AE ks++[u8 (Bb first)]).toArray),(2,.agg (AE ks++[u8 (Bb (!first))]).toArray),(8,ptr c 0)] (Lf mt a ks first c):=by
 have hl1:=Ru Z (u8 (Bb first));have Y:=Ru Z (u8 (Bb (!first)));unfold WD;exact(KF [] [.int .i64 0,.int .i64 0] ([AT,AT,AT,AT,AT,AT,AT,AT,AT,AT,AT,AT,AT,AT,AT,AT,AT]++([AT,AT,AT,AT,AT,AT,AT,AT,AT,AT,AT,AT,AT,AT,AT,AT,AT]++([uN 0]++([iN 0]++([uN 0]++([.bool false]++([uN 0]++([.pointer none]++([.bool false]++(AE (Fm [])++(AE (Fh [])++([.slice none 0 0]++([.slice none 0 0]++([uN 0]++[uN 0])))))))))))))) [iN mt,iN a] I I I I
 (KF [iN mt,iN a] [AT,AT,AT,AT,AT,AT,AT,AT,AT,AT,AT,AT,AT,AT,AT,AT,AT] ([AT,AT,AT,AT,AT,AT,AT,AT,AT,AT,AT,AT,AT,AT,AT,AT,AT]++([uN 0]++([iN 0]++([uN 0]++([.bool false]++([uN 0]++([.pointer none]++([.bool false]++(AE (Fm [])++(AE (Fh [])++([.slice none 0 0]++([.slice none 0 0]++([uN 0]++[uN 0]))))))))))))) (AE ks++[u8 (Bb first)]) SO I SO I
 (KF ([iN mt,iN a]++(AE ks++[u8 (Bb first)])) [AT,AT,AT,AT,AT,AT,AT,AT,AT,AT,AT,AT,AT,AT,AT,AT,AT] ([uN 0]++([iN 0]++([uN 0]++([.bool false]++([uN 0]++([.pointer none]++([.bool false]++(AE (Fm [])++(AE (Fh [])++([.slice none 0 0]++([.slice none 0 0]++([uN 0]++[uN 0])))))))))))) (AE ks++[u8 (Bb (!first))]) (by rw[a5,hl1,Y];rfl) (by simp only[c5]) (by rw[Y];rfl) I
 (KF ([iN mt,iN a]++((AE ks++[u8 (Bb first)])++((AE ks++[u8 (Bb (!first))])++[uN 0,iN 0,uN 0,.bool false,uN 0]))) [.pointer none] ([.bool false]++(AE (Fm [])++(AE (Fh [])++[.slice none 0 0,.slice none 0 0,uN 0,uN 0]))) [ptr c 0] (by simp only[a5,hl1,Y];rfl) VI I I
 (by unfold Lf;simp only[c5];exact Tm)))))
set_option maxHeartbeats 4000000 in
def Afn(AV AI:Int)(ks:List UInt8)(hk:aa ks=16)(first:Bool)(H:HP):
  Fn prog B 39 [.agg [.int .i64 AV,.int .i64 AI].toArray,.agg (AE ks).toArray,.bool first] H (λv S=>
   (¬Gb AV AI∧v=.tuple #[.pointer none,FU 1]∧S=H)∨
   (Gb AV AI∧∃t m,m.ok∧m.s=AO.new AV.toNat AI.toNat ks first∧v=.tuple #[ptr t 0,.nilIface]∧S=Ao t m*H)):=by
 refine mI func39 ?_;refine J2 ?_;refine Ae S6 I ?_;rintro _ _ ⟨b3,rfl,rfl⟩;refine LG ?_;rintro _ _ ⟨J,rfl,rfl⟩;refine J9 ?_;refine JL (Jr (i:=AV) (j:=64) I I)<|J1 ?_;refine DU 13 I (λK=>?_) (λK=>?_)
 ·have U:=K;refine Ff ?_;refine Bn ?_;exact Md
 have U:=K;refine BB ?_;refine JL (YI (i:=AV) (j:=300) I I)<|BE ?_;refine DU 18 I (λe=>?_) (λe=>?_)
 ·have g2:=e;refine KC ?_;exact Md
 have g2:=e;refine BB ?_;refine JL (Jr (i:=AI) (j:=16) I I)<|BE ?_;refine DU 23 I (λO=>?_) (λO=>?_)
 ·have N:=O;refine E6 ?_;exact Md
 have N:=O;refine BB ?_;refine JL qI<|A5 ?_;refine mC (λF=>?_) (λF=>?_)
 ·refine BQ ?_;exact Md
 obtain⟨mt,rfl⟩:∃mt:Nat,AV=mt:=⟨AV.toNat,C0⟩
 obtain⟨wi,rfl⟩:∃wi:Nat,AI=wi:=⟨AI.toNat,C0⟩
 have V:=Ru hk (u8 (Bb first));have Y:=Ru hk (u8 (Bb (!first)));refine J3 ?_;refine mA 10 12 ?_;refine JT 0 I yG<|JT 1 I OM<|A4 ?_;refine JT 4 I OM<|BE ?_;refine Au 3 C1 I I (Bd I (lJ ks hk first _))<|Hh ?_;refine Au 7 C1 I I (Bd I (lJ ks hk (!first) _))<|Hh ?_;refine Au 8 C1 I I (Bd I (uH 8 _ C0)) ?_;rintro _ _ ⟨c,rfl,rfl⟩;refine BT ?_;refine JT 9 I (Th (hz:=jf) (cs:=Lf mt wi ks first c) I (Afh mt wi ks hk first c))<|Au 10 C1 I I (EB (l:=Lf mt wi ks first c) I I (wj mt wi ks first c)) ?_;rintro _ _ ⟨A,rfl,rfl⟩;refine FF ?_;refine GU 11 C1 I I HG Fk<|Bn ?_;refine I4 (AA A 0 (Lf mt wi ks first c)*(AK c B0 (.of 8)*H))<|A3 (H':=Ab A (MA mt wi ks first c)*(AC A (0+43) (Fm []) []*(AC A (0+83) (Fh []) []*(AP Np []*(AK c B0 (.of 8)*H))))) (by rw[Adt A mt wi ks hk,GX,BS];ac_rfl)<|BB ?_;refine Bf (α:=List Gv) (λl=>[(40,iN (aa l)),(8,ptr A 0)]) (λl=>Ab A (MA mt wi ks first c)*(AC A (0+43) (Fm l) []*(AC A (0+83) (Fh l) []*(AP Np l*(AK c B0 (.of 8)*H))))) (λl=>aa l≤4) (λl=>4-aa l) [] Du H5 I ?_;rintro l hl;dsimp only at hl⊢;refine J2 ?_;refine JL TY<|J3 ?_;refine mC (λh41=>?_) (λh41=>?_)
 ·refine A3 (H':=Ab A (MA mt wi ks first c)*(AA A (0+43+aa l*10) [.slice none 0 0,.pointer none,.pointer none,uN 0,.bool false,.bool false,.bool false,.bool false,uN 0,.bool false]*(Lb A (0+43) (Fm l) [] (aa l)*(AA A (0+83+aa l*9) [.slice none 0 0,.pointer none,uN 0,uN 0,.bool false,.bool false,uN 0,uN 0,iN 0]*(Lb A (0+83) (Fh l) [] (aa l)*(AP Np l*(AK c B0 (.of 8)*H))))))) (by rw[TQ A (0+43) (Fm l) [] (aa l) AD eU,TQ A (0+83) (Fh l) [] (aa l) AD wE,fq l h41,q' l h41];show Ab A _*(AA A (0+43+aa l*10) _*_*(AA A (0+83+aa l*9) _*_*_))=_;ac_rfl)<|DL ?_;refine EI (AK c B0 (.of 8)*H) 15 16 EO I C1<|Bn ?_;refine Jn 6 ?_;refine A4 ?_;refine Jn 11 ?_;refine A4 ?_;refine Au 4 C1 I I Up ?_;rintro _ _ ⟨f,rfl,rfl⟩;refine BT ?_;refine Au 5 C1 I I Up ?_;rintro _ _ ⟨a,rfl,rfl⟩;refine BT ?_;refine JT 8 I ZW<|A4 ?_;refine GO 10 C1 I Lc<|Hh ?_;refine JT 13 I ZW<|Bn ?_;refine mA 7 8 ?_;refine BE ?_;refine Jn 3 ?_;refine A4 ?_;refine Au 2 C1 I I Up ?_;rintro _ _ ⟨o,rfl,rfl⟩;refine BT ?_;refine JT 5 I ZW<|BQ ?_;refine Bg (Ab A (MA mt wi ks first c)*(AC A (0+43) (Fm (l++[⟨f,a,o⟩])) []*(AC A (0+83) (Fh (l++[⟨f,a,o⟩])) []*(AP Np (l++[⟨f,a,o⟩])*(AK c B0 (.of 8)*H))))) (hE:=?_) ?_
  ·rw[y8 l _ h41,Ae2 l _ h41,LY,HK,GX,Qq A (0+43) (Fm l) [] (aa l) _ eU,Qq A (0+83) (Fh l) [] (aa l) _ wE];exact⟨λww X=>Eq.mp (by
    congr 1;show _=Ab A (MA mt wi ks first c)*(AA A (0+43+aa l*10) [.slice none 0 0,ptr f 0,ptr a 0,uN 0,.bool false,.bool false,.bool false,.bool false,uN 0,.bool false]*Lb A (0+43) (Fm l) [] (aa l)*(AA A (0+83+aa l*9) [.slice none 0 0,ptr o 0,uN 0,uN 0,.bool false,.bool false,uN 0,uN 0,iN 0]*Lb A (0+83) (Fh l) [] (aa l)*(AP Np l*((AK f B0 (.of 4096)*(AK a B0 (.of 4096)*AK o B0 (.of 4096)))*Bs)*(AK c B0 (.of 8)*H))));rw[Hr];ac_rfl) X⟩
  exact BV (l++[⟨f,a,o⟩]) (by rw[a5];exact h41) (by rw[a5];show 4-(aa l+1)<4-aa l;have:aa l<4:=h41;omega) (.cons VY Jz) I
 have hl4:aa l=4:=by have:¬aa l<4:=h41;omega
 refine Ki ?_;obtain⟨m,W⟩:∃m:Ak,m=⟨(MA mt wi ks first c),.of 8,B0,l.map Li,l.map Ls,[],[],Bw,Bw⟩:=DF;have G:m.ok:=by
  rw[W];exact⟨Mq 8,(λw X=>by obtain⟨z,_,rfl⟩:=g9.1 X;exact⟨Fe,Mq 4096,Mq 4096⟩),(λr hr=>by obtain⟨z,_,rfl⟩:=g9.1 hr;exact⟨Fe,Mq 4096⟩),
   (λ_ h=>nomatch h),(λ_ h=>nomatch h),Fe,Fe,I,I⟩
 have L:m.s=AO.new mt wi ks first:=by
  rw[W];unfold Ak.s AO.new;dsimp only;have C:(l.map Li).map (·.w)=a9 4 BO:=by
   exact yM
  have M:(l.map Ls).map (·.r)=a9 4 LK:=by
   exact yM
  rw[C,M];rfl
 exact mR [6,7] (Ao A m*H) (hE:=⟨λww X=>Eq.mp (by
  congr 1;rw[E1,W,fw];unfold AC BU B2 EW;rw[rx l hl4,xx l hl4];show _=Ab A (MA mt wi ks first c)*(AK c B0 (.of 8)*(AC A (0+43) (l.map Li) []*AP DK (l.map Li)*(AC A (0+83) (l.map Ls) []*AP Dq (l.map Ls)*(Bw.h ([]:List Bi)*(Bw.h ([]:List Bi)*(AP BC []*AP BC []))*H))));rw[HJ,GX,BS,BS,BS,BS];unfold AC;ac_rfl) X⟩) I I (.inr ⟨⟨C0,C0,C0,C0⟩,A,m,G,by rw[L];rfl,I,I⟩)
end
section
variable{B:World}
structure B' where
 kind:Int
 stream:Int
 AQ:Int
 code:Nat
 data:ByteArray
structure B7 where
 e:Nat
 at_:Int
 n:Nat
 code:Nat
 data:ByteArray
 BA:List ByteArray
def AO.Bj(c:AO)(q:B'):B7×AO:=
 if q.kind=1 then(⟨(c.write q.stream q.data.data.toList).1.2,-1,(c.write q.stream q.data.data.toList).1.1,0,⟨#[]⟩,[]⟩,(c.write q.stream q.data.data.toList).2)
 else if q.kind=2 then(⟨(c.finish q.stream).1,-1,0,0,⟨#[]⟩,[]⟩,(c.finish q.stream).2)
 else if q.kind=3 then(⟨(c.giveUp q.stream q.code).1,-1,0,0,⟨#[]⟩,[]⟩,(c.giveUp q.stream q.code).2)
 else if q.kind=4 then(⟨0,-1,0,0,⟨#[]⟩,[]⟩,c.tick)
 else if q.kind=5 then(⟨0,-1,0,0,⟨#[]⟩,c.BA.1.map BR⟩,c.BA.2)
 else if q.kind=6 then(⟨(c.BY q.data.data.toList).1.1,(c.BY q.data.data.toList).1.2,0,0,⟨#[]⟩,[]⟩,(c.BY q.data.data.toList).2)
 else if q.kind=7 then(⟨(c.read q.stream q.AQ).1.2.2.2,-1,(c.read q.stream q.AQ).1.2.1,(c.read q.stream q.AQ).1.2.2.1,BR (c.read q.stream q.AQ).1.1,[]⟩,(c.read q.stream q.AQ).2)
 else if q.kind=8 then(⟨(c.close q.code).1,-1,0,0,⟨#[]⟩,[]⟩,(c.close q.code).2)
 else if q.kind=9 then(⟨(c.AG q.stream).2,-1,(c.AG q.stream).1,0,⟨#[]⟩,[]⟩,c)
 else(⟨0,-1,0,0,⟨#[]⟩,[]⟩,c)
def Aq.Bj{t}{c:AO}(h:Aq t c)(q):Aq (t+1) (c.Bj q).2:=by
 unfold AO.Bj;split
 ·exact(h.write _ _).mono FT
 split
 ·exact(h.finish _).mono FT
 split
 ·exact(h.giveUp _ _).mono FT
 split
 ·exact h.tick
 split
 ·exact h.BA
 split
 ·exact(h.BY _ (λn b e=>by have:=(Lm e).2.2;omega)).mono FT
 exact nA
@[reducible] def Bx(q:B'):List Value:=[.int .i64 q.kind,.int .i64 q.stream,.int .i64 q.AQ,uN q.code,.string q.data]
@[reducible] instance:AB B':=⟨5,Bx,⟨0,0,0,0,⟨#[]⟩⟩,λ_=>rfl,λ_ v h=>by
 simp at h;rcases h with rfl|rfl|rfl|rfl|rfl<;>rfl⟩
@[reducible] instance layStr:AB ByteArray:=⟨1,λs=>[.string s],⟨#[]⟩,λ_=>rfl,λ_ v h=>by
 simp at h;obtain rfl:=h;rfl⟩
structure Kp(B:World)(v:Value)(EH:HP)(e:Nat)(at_:Int):Prop where
 told:∀R,Fn prog B 44 [v] (EH*R) (λv' H'=>v'=.tuple #[iN e,.int .i64 at_]∧H'=EH*R)
 num:∀R,Fn prog B 40 [v] (EH*R) (λv' H'=>v'=iN e∧H'=EH*R)
def Kp.of(M:B.cell? ⟨0,0,none⟩=some (D5 106))(k):Kp B (FU k) Bs k (-1):=by
 by_cases h:k=0
 ·subst h;exact⟨λR=>by rw[BS];exact bU R,λR=>by rw[BS];exact vu R⟩
 rw[ZU h];exact⟨λR=>by rw[BS];exact uK M k R,λR=>by rw[BS];exact x6 M k R⟩
def MJ.t(M:B.cell? ⟨0,0,none⟩=some (D5 106)){e}{at_:Int}{H H' v}(h:MJ e at_ H v H'):∃F,H'=F*H∧Kp B v F e at_:=by
 obtain⟨rfl,rfl,rfl⟩|⟨q,a,rfl,rfl,rfl,rfl⟩:=h
 ·exact⟨Bs,Ce,.of M e⟩
 exact⟨GJ q 5 (iN a),I,λR=>Ww M q 5 (iN a) R,λR=>fI M q 5 (iN a) R⟩
def X_{R H' sv}(h:(xs=[]∧sv=.slice none 0 0∧H'=R)∨(xs≠ []∧DI R xs sv H')):DI R xs sv H':=by
 obtain⟨rfl,rfl,rfl⟩|⟨_,h⟩:=h
 ·exact .nil _
 exact h
def bx(M:B.cell? ⟨0,0,none⟩=some (D5 106))(AV AI:Int)(ks:List UInt8)(hk:aa ks=16)(first:Bool)(H:HP):
  Fn prog B 16 [.agg [.int .i64 AV,.int .i64 AI].toArray,.agg (AE ks).toArray,.bool first] H (λv S=>
   (¬Gb AV AI∧v=.tuple #[.pointer none,iN 1]∧S=H)∨
   (Gb AV AI∧∃t m,m.ok∧m.s=AO.new AV.toNat AI.toNat ks first∧v=.tuple #[ptr t 0,iN 0]∧S=Ao t m*H)):=by
 refine mI func16 ?_;refine J2 ?_;refine Ae S6 I ?_;rintro _ _ ⟨K,rfl,rfl⟩;refine LG ?_;rintro _ _ ⟨J,rfl,rfl⟩;refine DE ?_;refine JL YD<|JL OM<|J1 ?_;refine mE I (Afn AV AI ks hk first _) ?_;intro b a h;obtain⟨e,ev,rfl,N⟩:∃e ev,b=.tuple #[e,ev]∧((¬Gb AV AI∧e=.pointer none∧ev=FU 1∧a=AA J 0 (AE ks)*(AA K 0 [.int .i64 AV,.int .i64 AI]*H))∨
   (Gb AV AI∧ev=FU 0∧∃t m,m.ok∧m.s=AO.new AV.toNat AI.toNat ks first∧e=ptr t 0∧a=Ao t m*(AA J 0 (AE ks)*(AA K 0 [.int .i64 AV,.int .i64 AI]*H)))):=by
  obtain⟨U,rfl,L⟩|⟨U,t,m,L,O,rfl,f⟩:=h
  ·exact⟨_,_,I,.inl ⟨U,I,I,L⟩⟩
  exact⟨_,_,I,.inr ⟨U,I,t,m,L,O,I,f⟩⟩
 obtain⟨C,c⟩:∃C,Kp B ev Bs C (-1)∧C=if Gb AV AI then 0 else 1:=by
  obtain⟨U,_,rfl,_⟩|⟨U,rfl,_⟩:=N
  ·exact⟨1,.of M 1,by rw[AF U]⟩
  exact⟨0,.of M 0,by rw[AJ U]⟩
 refine DL ?_;refine BH (H':=Bs*a) Ce<|mE I (c.1.num _)<|KW ?_;rw[c.2];obtain⟨U,rfl,rfl,rfl⟩|⟨U,rfl,t,m,L,O,rfl,rfl⟩:=N
 ·exact mR [6,7] H I I (.inl ⟨U,by rw[AF U];rfl,I⟩)
 exact mR [6,7] (Ao t m*H) I I (.inr ⟨U,t,m,L,O,by rw[AJ U];rfl,I⟩)
def jB{t}:∀(n:Nat) (z:By),Es t z→(EN n z).out.length≤aa z.out+z.mu
 |0,z,h=>Alk _ _
 |n+1,z,h=>by
  rw[EN];split
  ·exact Alk _ _
  rename_i Y;obtain⟨O,U⟩:=h.step Y;have M:=jB n _ O;have Z:aa z.step.out=aa z.out+1:=by show(z.out++[_]).length=_;rw[a5];rfl
  omega
def ZN(ks:List UInt8)(e:UInt8)(n:UInt64)(xs:List UInt8):aa (E5 ks e n xs)=aa xs+16:=by
 unfold E5;rw[a5,a5,rA,Xz,oE];omega
def oG{t}:∀(n:Nat) (z:By),Es t z→(∀p∈z.out,aa p≤300)→∀p∈(EN n z).out,aa p≤300
 |0,z,h,a=>a
 |n+1,z,h,a=>by
  rw[EN];split
  ·exact a
  rename_i Y;obtain⟨O,U⟩:=h.step Y;refine oG n _ O λp J=>?_;have C:p∈z.out++[E5 z.c.ks (Bb z.c.first) (ad z.c.next) z.filled.2.b]:=J;obtain J|J:=j2.1 C
  ·exact a p J
  rw[g5.1 J,ZN];have M:=h.filled.LA.len;have Z:=h.filled.LA.room;omega
def tY{t}{c:AO}(h:Aq t c):∀p∈c.BA.1,aa p≤300:=by
 unfold BA;split
 ·unfold Df;split
  ·intro p J;cases J
  intro p J;rw[g5.1 J,ZN];have:=Vw c.code;omega
 exact oG 40 _ (Es.begin h) (λp J=>nomatch J)
def Aay{t}{c:AO}(h:Aq t c)(k AQ:Int):(c.read k AQ).1.1.length≤1000000:=by
 unfold AO.read;split
 ·exact bk _
 rename_i C;dsimp only;split
 ·show((c.HV k.toNat).b.take _).length≤_;rw[hZ];rename_i X;have Z:k.toNat<4:=by
   unfold AO.stream at C;split at C
   ·omega
   split at C
   ·omega
   omega
  have Y:=h.rs _ Z;have U:=h.w2;have q:(c.HV k.toNat).b.length≤1024:=by
   unfold HV at X⊢;by_cases hg:(c.r k.toNat).given=true
   ·by_cases A:(c.r k.toNat).state=0
    ·rw[AJ ⟨hg,A⟩];exact bk _
    rw[AF (λh=>A h.2)]at X;exact absurd X A
   rw[AF (λh=>hg h.1)];have O:=Y.len R1;have a:=Y.hw;omega
  omega
 exact bk _
def pN{t}{c:AO}(h:Aq t c):aa c.BA.1≤20:=by
 unfold BA;split
 ·unfold Df;split<;>simp
 have q:=Es.begin h;have G:=jB 40 _ q;have F:=q.tl;have K:(⟨{c with answer:=false},if c.answer then c.AR.l.reverse else [],[]⟩:By).mu≤18:=by unfold By.mu;omega
 have o:(⟨{c with answer:=false},if c.answer then c.AR.l.reverse else [],[]⟩:By).out.length=0:=rfl;dsimp only;omega
end
end Go.Proofs.YtgfdlpcdjklcoaaGreatDoor
