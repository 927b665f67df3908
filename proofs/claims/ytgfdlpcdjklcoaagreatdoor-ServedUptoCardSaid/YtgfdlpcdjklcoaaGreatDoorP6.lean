/- Steps of this proof; no condition. -/
import Derived.Test.YtgfdlpcdjklcoaaGreatDoorP5
import Derived.LaidEql
import Derived.Stop.Asserts
namespace Go.Proofs.YtgfdlpcdjklcoaaGreatDoor
open Go Go.RowKit Go.Proofs.Tryz HP AB AO
open _root_.List renaming length→aa
set_option linter.all false
variable{α:Type}{k:Nat}
open _root_.Go.Result renaming andThen→ad
open _root_.Prod renaming snd→a9
set_option maxRecDepth 20000
section
variable{B:World}
def Jg(r rs i):rg (r::rs) (i+1)=rg rs i:=by simp[rg]
def L6(r rs):rg (r::rs) 0=r:=by simp[rg]
def RA:∀(l:List AS),EC l→∀i j,i<j→j<aa l→(rg l i).hi+1<(rg l j).lo
 |[],_,i,j,_,h=>by simp at h
 |r::u,⟨O,U,M⟩,i,j,F,W=>by
  obtain⟨j,rfl⟩:∃k,j=k+1:=⟨j-1,C0⟩
  rw[Jg];have a:j<aa u:=by simpa using W
  cases i with
  |zero=>rw[L6];exact JX (P:=λs=>r.hi+1<s.lo) U j a
  |succ i=>rw[Jg];exact RA u M i j C0 a
def Nz:∀(l:List AS),EC l→∀i,i<aa l→(rg l i).lo≤(rg l i).hi
 |[],_,i,h=>by simp at h
 |r::u,⟨O,U,M⟩,i,a=>by
  cases i with
  |zero=>rw[L6];exact O
  |succ i=>rw[Jg];exact Nz u M i (by simpa using a)
def X? (l n):BD n l↔∃i,i<aa l∧(rg l i).lo≤n∧n≤(rg l i).hi:=by
 constructor
 ·rintro⟨r,Y,h⟩;obtain⟨i,M,rfl⟩:=Ax Y;refine⟨i,M,?_⟩;unfold rg;rw[ek,c8 M];exact h
 rintro⟨i,M,h⟩;refine⟨rg l i,?_,h⟩;unfold rg;rw[ek,c8 M];exact rv M
def ab{l n}(C:EC l)(c:k≤aa l)(h1:∀i,i<k→¬n≤(rg l i).hi)(h2:∀i,k≤i→i<aa l→n≤(rg l i).hi):BD n l↔k<aa l∧(rg l k).lo≤n:=by
 rw[X?];constructor
 ·rintro⟨i,b,M,Z⟩;have a:k≤i:=by
   obtain h|h:=ff i k
   ·exact absurd Z (h1 i h)
   exact h
  obtain rfl|X:=Akw a
  ·exact⟨b,M⟩
  have:=RA l C k i X b;have:=h2 k Dz C0;omega
 rintro⟨M,Z⟩;exact⟨k,M,Z,h2 k Dz M⟩
def Wi:∀(l:List AS) (lo hi fr to:Nat),EC l→lo≤hi→fr≤aa l→to≤aa l→(∀i,i<fr→¬lo≤(rg l i).hi+1)→(∀i,fr≤i→i<aa l→lo≤(rg l i).hi+1)→
  (∀i,i<to→¬hi+1<(rg l i).lo)→(∀i,to≤i→i<aa l→hi+1<(rg l i).lo)→
  fr≤to∧Bo lo hi l=l.take fr++⟨if fr<to then min lo (rg l fr).lo else lo,if fr<to then max hi (rg l (to-1)).hi else hi⟩::l.drop to
 |[],lo,hi,fr,to,_,_,V,A,_,_,_,_=>by
  obtain rfl:fr=0:=by simpa using V
  obtain rfl:to=0:=by simpa using A
  simp[Bo]
 |r::u,lo,hi,fr,to,⟨Q,S,N⟩,J,V,A,f1,f2,t1,t2=>by
  cases fr with
  |zero=>
   have U:=f2 0 Dz C3;rw[L6]at U;cases to with
   |zero=>
    have L:=t2 0 Dz C3;rw[L6]at L;refine⟨er _,?_⟩;rw[Bo,AF C0,AJ L];simp
   |succ t=>
    have L:=t1 0 C0;rw[L6]at L;have j:t≤aa u:=by simpa using A
    obtain⟨_,e⟩:=Wi u (min lo r.lo) (max hi r.hi) 0 t N C0 Du j (λi h=>by omega) (λi _ h=>by have X:r.hi+1<(rg u i).lo:=JX (P:=λs=>r.hi+1<s.lo) S i h;have:=Nz u N i h;omega) (λi h X=>by have:=t1 (i+1) C0;rw[Jg]at this;omega) (λi O h=>by have X:r.hi+1<(rg u i).lo:=JX (P:=λs=>r.hi+1<s.lo) S i h;have:=t2 (i+1) C0 Ub;rw[Jg]at this;omega);refine⟨bk _,?_⟩;rw[Bo,AF C0,AF L,e];simp only[tS,l0,Als,Akh,if_true,Jx,L6];congr 2
    ·split
     ·rename_i a;have X:r.hi+1<(rg u 0).lo:=JX (P:=λs=>r.hi+1<s.lo) S 0 C0;omega
     rfl
    cases t with
    |zero=>simp[L6]
    |succ t=>
     rw[Jg];simp only[Akh,if_true,Jx];have X:r.hi+1<(rg u t).lo:=JX (P:=λs=>r.hi+1<s.lo) S t C0;have:=Nz u N t C0;omega
  |succ f=>
   have U:=f1 0 C0;rw[L6]at U;have m:f≤aa u:=by simpa using V
   cases to with
   |zero=>
    have L:=t2 0 Dz C3;rw[L6]at L;omega
   |succ t=>
    have j:t≤aa u:=by simpa using A
    obtain⟨b,e⟩:=Wi u lo hi f t N J m j (λi h=>by have:=f1 (i+1) C0;rwa[Jg]at this) (λi O h=>by have:=f2 (i+1) C0 Ub;rwa[Jg]at this) (λi h=>by have:=t1 (i+1) C0;rwa[Jg]at this) (λi O h=>by have:=t2 (i+1) C0 Ub;rwa[Jg]at this);refine⟨C0,?_⟩;rw[Bo,AJ C0,e];simp only[Akn,Ap,Als,Jg,Nat.add_lt_add_iff_right,Jx];congr 3;split
    ·obtain⟨q,rfl⟩:∃k,t=k+1:=⟨t-1,C0⟩
     rw[Jg];simp
    rfl
abbrev B0:DO:=⟨none,0,0,0,[]⟩
def Mq(AQ):B0.ok (.of AQ):=⟨E7,I⟩
def uH(AQ:Nat)(H:HP)(hm:1≤AQ):
  Fn prog B 76 [iN AQ] H (λv S=>∃q,v=ptr q 0∧S=AK q B0 (.of AQ)*H):=by
 refine mI func76 ?_;refine J8 ?_;refine JL (yR (j:=1) I I)<|JL (FW (cs:=[.slice none 0 0,uN 0,iN (max AQ 1)]) I I I C5)<|Ae (EB (l:=[.slice none 0 0,uN 0,iN (max AQ 1)]) I I) I ?_;rintro _ _ ⟨r,rfl,rfl⟩;refine J4 ?_;exact mr [2] I I ⟨r,I,by unfold AK;rw[show max AQ 1=AQ by omega];show _=AA r 0 _*AC 0 0 ([]:List AS) []*H;rw[GY,Hr];rfl⟩
def SN(q lo hi m:Nat)(a:DO)(z:Ba)(H:HP)[hz:Gy B H q a z](C:a.ok z)(Q:Dg z m)(hm:m≤4611686018427387904)(L:aa z.l<100000):
  Fn prog B 147 [ptr q 0,uN lo,uN hi] H (λv S=>v=.tuple #[uN (AW lo hi z.l).1,uN (AW lo hi z.l).2]∧S=H):=by
 have:=hz.l;have:=hz.r;have:=hz.f;have hsl:=C.1;refine mI func147 ?_;refine HE ?_;refine Bf (α:=Nat×Nat) (λz'=>[(1,uN z'.1),(2,uN hi),(13,.slice a.p (aa z.l) a.c),(14,iN (aa z.l)),(15,iN z'.2)]) (λ_=>H) (λz'=>z'.2≤aa z.l∧AW lo hi z.l=AW z'.1 hi (z.l.drop z'.2)) (λz'=>aa z.l-z'.2) (lo,0) ⟨bk _,I⟩ Gx I ?_;rintro z' ⟨X,hinv⟩;refine J6 ?_;refine mC (λu=>?_) (λu=>?_)
 ·skip;have GW:z.l.drop z'.2=rg z.l z'.2::z.l.drop (z'.2+1):=by
   unfold rg;rw[ek,c8 u];exact zv u
  have h:(rg z.l z'.2).hi<m:=JX (P:=λr=>r.hi<m) Q.hi z'.2 u;refine J6 ?_;refine JL N'<|JL (N3 I AH C0)<|LV ?_;rintro _ _ ⟨K,rfl,rfl⟩;refine DY ?_;refine mC (λh22=>?_) (λh22=>?_)
  ·refine Be ?_;exact cF
  refine CK ?_;refine mC (λh26=>?_) (λh26=>?_)
  ·refine J1 ?_;refine mA 7 7 ?_;refine Bn ?_;refine JT 4 I QK<|CK ?_;exact mR [6,7] H I I ⟨by rw[hinv,GW,AW,AF h22,AJ h26];rfl,I⟩
  refine J5 ?_;refine JL PE<|J5 ?_;refine JL Qd<|J2 ?_;exact cF
 refine Kb ?_;exact mR [6,7] H I I ⟨by rw[hinv,A' C0,AW];rfl,I⟩
def t7(q n m:Nat)(a:DO)(z:Ba)(H:HP)[hz:Gy B H q a z](C:a.ok z)(Q:Dg z m)(c:aa z.l<100000):
  Fn prog B 143 [ptr q 0,uN n] H (λv S=>v=.bool (decide (z.has n))∧S=H):=by
 have:=hz.l;have:=hz.r;have:=hz.f;have hsl:=C.1;refine mI func143 ?_;refine NZ ?_;rintro _ _ ⟨Y,rfl,rfl⟩;refine Nf ?_;rintro _ _ ⟨e,rfl,rfl⟩;refine CK ?_;refine mE I (Xx (aa z.l) _ [ptr Y 0,ptr e 0] (λi=>n≤(rg z.l i).hi) _ C0 (λi j F W h=>by rcases Akw F with rfl|L;exact h;have X:=RA z.l Q.inc i j L W;have J:=Nz z.l Q.inc j W;show n≤(rg z.l j).hi;have V:n≤(rg z.l i).hi:=h;omega) (λi M=>E! Y e q n i a z _ C M)) ?_;rintro _ _ ⟨k,rfl,b,N,u,rfl⟩;have hhas:=ab Q.inc b N u;refine J4 ?_;refine mA 28 28 ?_;refine Bt ?_;refine D4 19 I (λK=>?_) (λK=>?_)
 ·refine Ff ?_;refine BE ?_;exact Yw
 refine Be ?_;refine D4 27 I (λhg2=>?_) (λhg2=>?_)
 ·refine BB ?_;refine JY 20 I T2 N'<|A4 ?_;refine JY 22 I T2 WN<|Be ?_;exact Yw
 refine E6 ?_;exact Yw
instance rd_setL{B:World}{H:HP}(q:Nat)(a:DO)(z:Ba)[h:Gy B H q a z]:Rd B H q 0 (.slice a.p (aa z.l) a.c) True:=h.l
instance rd_setL0{B:World}{H:HP}(q:Nat)(a:DO)(z:Ba)[h:Gy B H q a z]:Rd B H q (0+0) (.slice a.p (aa z.l) a.c) True:=h.l
instance rd_setF{B:World}{H:HP}(q:Nat)(a:DO)(z:Ba)[h:Gy B H q a z]:Rd B H q (0+1) (uN z.floor) True:=h.f
def Mr(q lo hi m:Nat)(a:DO)(z:Ba)(R:HP)(hs:a.ok z)(Q:Dg z m)(hm:m≤4611686018427387904)(V:hi<m)(h1:1≤z.AQ)(t:z.AQ<50000):
  Fn prog B 145 [ptr q 0,uN lo,uN hi] (AK q a z*R) (λ_ H'=>∃a':DO,a'.ok (z.add lo hi)∧H'=AK q a' (z.add lo hi)*R):=by
 have hsl:=hs.1;have O:=Q.len;refine mI func145 ?_;refine NZ ?_;rintro _ _ ⟨b3,rfl,rfl⟩;refine Nf ?_;rintro _ _ ⟨b4,rfl,rfl⟩;refine Nf ?_;rintro _ _ ⟨b5,rfl,rfl⟩;refine J3 ?_;refine mA 6 7 ?_;refine BB ?_;refine JT 5 I MK<|CK ?_;refine mC (λf=>?_) (λf=>?_)
 ·refine J2 ?_;exact mR [] (AK q a z*R) I I ⟨a,by unfold Ba.add;rw[AJ f];exact hs,by unfold Ba.add;rw[AJ f]⟩
 refine CY ?_;refine mE I (Xx (aa z.l) _ [ptr b3 0,ptr b4 0] (λi=>max lo z.floor≤(rg z.l i).hi+1) _ C0 (λi j F W h=>by rcases Akw F with rfl|L;exact h;have X:=RA z.l Q.inc i j L W;have J:=Nz z.l Q.inc j W;show max lo z.floor≤(rg z.l j).hi+1;have h7:max lo z.floor≤(rg z.l i).hi+1:=h;omega) (λi hi=>kq b3 b4 q (max lo z.floor) i a z _ hs hi C0)) ?_;rintro _ _ ⟨fr,rfl,N,w,K,rfl⟩;refine CK ?_;refine mE I (Xx (aa z.l) _ [ptr b3 0,ptr b5 0] (λi=>hi+1<(rg z.l i).lo) _ C0 (λi j F W h=>by rcases Akw F with rfl|L;exact h;have X:=RA z.l Q.inc i j L W;have J:=Nz z.l Q.inc i C0;show hi+1<(rg z.l j).lo;have h7:hi+1<(rg z.l i).lo:=h;omega) (λi e=>Aer b3 b5 q hi i a z _ hs e (by have X:(rg z.l i).hi<m:=JX (P:=λs=>s.hi<m) Q.hi i e;have:=Nz z.l Q.inc i e;omega))) ?_;rintro _ _ ⟨to,rfl,ht1,A,D,rfl⟩;obtain⟨hft,hadd⟩:=Wi z.l (max lo z.floor) hi fr to Q.inc C0 N ht1 w K A D;obtain⟨r,hr⟩:∃r:AS,r=⟨if fr<to then min (max lo z.floor) (rg z.l fr).lo else max lo z.floor,if fr<to then max hi (rg z.l (to-1)).hi else hi⟩:=DF;rw[←hr]at hadd;have u:aa (z.l.take fr++r::z.l.drop to)≤aa z.l+1:=by rw[a5,hZ,f',di];omega
 have G:=Q.add lo hi V h1;refine J7 ?_;refine JL (FW (cs:=[uN (max lo z.floor),uN hi]) I I I C5)<|LV ?_;rintro _ _ ⟨b8,rfl,rfl⟩;refine CK ?_;refine mC (λh37=>?_) (λh37=>?_)
 ·refine A3 (H':=AA b8 0 [uN (max lo z.floor),uN hi]*(AA q 0 [.slice a.p (aa z.l) a.c,uN z.floor,iN z.AQ]*(AC a.b a.o z.l a.s*(AA b5 0 [uN hi]*(AA b4 0 [uN (max lo z.floor)]*(AA b3 0 [ptr q 0]*R)))))) (by unfold AK;ac_rfl)<|EI (AA q 0 [.slice a.p (aa z.l) a.c,uN z.floor,iN z.AQ]*(AC a.b a.o z.l a.s*(AA b5 0 [uN hi]*(AA b4 0 [uN (max lo z.floor)]*(AA b3 0 [ptr q 0]*R))))) 24 25 EO I C1<|DE ?_;refine JT 6 I N'<|A4 ?_;refine JT 8 I (JC (xs:=z.l) I AH C0)<|JT 9 I QK<|Bt ?_;refine JT 17 I N'<|A4 ?_;refine JT 19 I (Ig (xs:=z.l) I AH C0)<|JT 20 I MK<|A4 ?_;refine GO 22 C1 I Lc<|Hh ?_;refine BB ?_;refine uE ?_;refine vA ?_;refine Be ?_;refine Au 8 C1 I I lC ?_;rintro _ _ ⟨b69,rfl,hne,rfl⟩;refine BT ?_;refine Au 9 C1 I I lS ?_;rintro _ _ ⟨p70,b70,o70,c70,s70,rfl,hs70,hc70,rfl⟩;refine BT ?_;refine DE ?_;refine zM ?_;refine mA 10 10 ?_;refine CK ?_;refine J1 ?_;refine mC (λh82=>?_) (λh82=>?_)
  ·skip;have C:0<aa (z.l.take fr++r::z.l.drop to):=by rw[a5,f'];omega
   refine fY ?_;refine Ll 8 I C1 I (LF (j:=1) I I (by
  have X:∀s∈Bo (max lo z.floor) hi z.l,s.hi≤m:=LR z.l _ hi m C0 (λs hs=>by have:=Q.hi s hs;omega);rw[hadd]at X;have J:(rg (z.l.take fr++r::z.l.drop to) 0).hi≤m:=JX (P:=λs=>s.hi≤m) X 0 C;omega)) ?_
   exact fQ
  exact qH
 refine J3 ?_;refine uE ?_;refine vA ?_;refine Be ?_;refine Au 8 C1 I I lC ?_;rintro _ _ ⟨b69,rfl,hne,rfl⟩;refine BT ?_;refine Au 9 C1 I I lS ?_;rintro _ _ ⟨p70,b70,o70,c70,s70,rfl,hs70,hc70,rfl⟩;refine BT ?_;refine DE ?_;refine zM ?_;refine mA 10 10 ?_;refine CK ?_;refine J1 ?_;refine mC (λh82=>?_) (λh82=>?_)
 ·skip;have C:0<aa (z.l.take fr++r::z.l.drop to):=by rw[a5,f'];omega
  refine fY ?_;refine Ll 8 I C1 I (LF (j:=1) I I (by
  have X:∀s∈Bo (max lo z.floor) hi z.l,s.hi≤m:=LR z.l _ hi m C0 (λs hs=>by have:=Q.hi s hs;omega);rw[hadd]at X;have J:(rg (z.l.take fr++r::z.l.drop to) 0).hi≤m:=JX (P:=λs=>s.hi≤m) X 0 C;omega)) ?_
  exact fQ
 exact qH
end
section
variable{B:World}
abbrev KL(r:AS):Value:=.agg #[uN r.lo,uN r.hi]
def oc{n E}{D:CW}{H}{Q:Exit→Act→World→Prop}{e}{P:Act}{O}(h1:DZ n E P)(h2:P.defers=D.ds)(Z:Sat B H O)(h:BZ B Q e n E D H):Q e P O:=h P O h1 h2 Z
def dn(l:List AS)(j:Nat):AS:=rg l (aa l-1-j)
def IJ(l:List AS)(m:Nat):List AS:=(List.range m).map (dn l)
def I'(l:List AS)(m:Nat):List (Nat×AS):=(List.range m).map (λj=>(aa l-1-j,dn l j))
def VX(l m):(I' l m).map a9=IJ l m:=by simp[I',IJ,Function.comp_def]
def qr(l m):I' l (m+1)=I' l m++[(aa l-1-m,dn l m)]:=by simp[I',List.range_succ]
def Ab7(l:List AS):IJ l (aa l)=l.reverse:=by
 apply Alj
 ·simp[IJ]
 intro i O U;simp only[IJ,Aki,List.getElem_range,List.getElem_reverse,dn,rg];have M:i<aa l:=by simpa[IJ]using O
 rw[ek,c8 C0];rfl
def bj(p:Option Addr)(k c:Nat)(H:HP):
  Fn prog B 167 [.slice p k c] H (λv S=>∃b1,v=BI 188 [ptr b1 0]∧S=AA b1 0 [.slice p k c]*H):=by
 refine mI func167 ?_;exact tL
def mf(l:List AS)(p:Option Addr)(b o c C:Nat)(F:HP)(hs:Sl p b o (aa l) c)(u:aa l<100000)[h1:Rd B F C 0 (.slice p (aa l) c) True][h2:AZ B F b o l]:
  vM prog B 188 [ptr C 0] (λx:Nat×AS=>iN x.1) (λx=>KL x.2) (λh=>h=I' l (aa l)) (λt=>∃m,m≤aa l∧I' l m=t) (λ_=>True) F F:=by
 intro L J f G;refine mI func188 ?_;refine J4 ?_;refine JL (MT (i:=(aa l:Nat)) (j:=1) I I C0)<|J4 ?_;refine Bf (α:=Nat) (λk=>[(0,.func (.yield L) #[] #[]),(1,ptr C 0),(3,.int .i64 ((k:Int)-1))]) (λk=>J (I' l (aa l-k))*F) (λk=>k≤aa l) (λk=>k) (aa l) Dz DW (by rw[Al6];rfl) ?_;intro k w;refine J4 ?_;refine JL (Kl (j:=0) I I)<|J2 ?_;refine mC (λs=>?_) (λs=>?_)
 ·skip;obtain⟨U,rfl⟩:∃U,k=U+1:=⟨k-1,C0⟩
  refine O3 (E':=[(0,.func (.yield L) #[] #[]),(1,ptr C 0),(3,iN U)]) (.cons I (.cons I (.cons (by show some (Value.int .i64 (((U+1:Nat):Int)-1))=some (.int .i64 (U:Nat));congr 2;omega) .nil))) ?_;have e:aa l-1-(aa l-(U+1))=U:=C0;have a:I' l (aa l-(U+1)+1)=I' l (aa l-(U+1))++[(U,rg l U)]:=by rw[qr,dn,e]
  refine Ei ?_;refine JL RC<|JL (N3 (xs:=l) I AH C0)<|Po (WR I I (G (I' l (aa l-(U+1))) (U,rg l U) _ ⟨aa l-(U+1)+1,C0,by rw[a]⟩)) I ?_;rintro _ _ ⟨g,rfl,S,rfl⟩;refine A5 ?_;refine mc (λr=>?_) (λr=>?_)
  ·skip;obtain rfl:g=false:=by simpa using r
   refine J5 ?_;exact mr [] I I (.inr ⟨_,⟨aa l-(U+1)+1,C0,a⟩,I⟩)
  refine J5 ?_;refine JL (MT (i:=(U:Nat)) (j:=1) I I C0)<|J2 ?_;obtain rfl:g=true:=by simpa using r
  exact BV U C0 C0 DW (by rw[show (aa l)-U=(aa l-(U+1))+1 by omega,a];rfl)
 obtain rfl:k=0:=C0;refine J4 ?_;exact VP (ts:=[]) I I (.inl ⟨_,I,by rw[H0]⟩)
def Yo(q:Nat)(H:HP):
  Fn prog B 137 [ptr q 0] H (λv S=>∃b1,v=BI 166 [ptr b1 0]∧S=AA b1 0 [ptr q 0]*H):=by
 refine mI func137 ?_;exact tL
set_option maxHeartbeats 1000000 in
def Wa(q C)(a:DO)(z:Ba)(F)(N:a.ok z)(T:aa z.l<100000)[h1:Rd B F C 0 (ptr q 0) True][hz:Gy B F q a z]:
  PP prog B 166 [ptr C 0] KL (λh=>h=z.l.reverse) (λt=>∃m,m≤aa z.l∧IJ z.l m=t) (λ_=>True) F F:=by
 intro L J f G;have:=hz.l;have:=hz.r;refine Ts func166 I I I<|NZ ?_;rintro _ _ ⟨Y,rfl,rfl⟩;refine J8 ?_;refine mE I (bj _ _ _ _) ?_;rintro _ _ ⟨K,rfl,rfl⟩;refine J3 ?_;refine iq (α:=Nat×AS) (λx=>iN x.1) (λx=>KL x.2) (λh=>h=I' z.l (aa z.l)) (λt=>∃m,m≤aa z.l∧I' z.l m=t) (λ_=>True) (λu=>J (u.map a9)*AA Y 0 [.func (.yield L) #[] #[]]) (λQ u=>HP.pr (Q=none)*(f (u.map a9)*AA Y 0 [.func (.yield L) #[] #[]])) (AA K 0 [.slice a.p (aa z.l) a.c]*F) (AA K 0 [.slice a.p (aa z.l) a.c]*F) (λy x=>[(2,ptr Y 0),(4,ptr y 0)]) (λy x=>AA y 0 [uN x.2.lo,uN x.2.hi]) I I I I ?_ (mf z.l a.p a.b a.o a.c K _ N.1 T) ?_ ?_ ?_ ?_
 ·intro w X;show Sat B (J ([]:List AS)*AA Y 0 _*(AA K 0 _*F)) w;rw[show J ([]:List AS)*AA Y 0 [.func (.yield L) #[] #[]]*(AA K 0 [.slice a.p (aa z.l) a.c]*F)=AA K 0 [.slice a.p (aa z.l) a.c]*(AA Y 0 [.func (.yield L) #[] #[]]*(J []*F)) by ac_rfl];exact X
 ·intro u x l R;refine J1 ?_;refine Ae Pg I ?_;rintro _ _ ⟨b4,rfl,rfl⟩;refine M' ?_;exact UA b4 H5 I
 ·intro y u x l R A;obtain⟨m,W,S⟩:=A;have V:u.map a9++[x.2]=(u++[x]).map a9:=C3;rw[show AA y 0 [uN x.2.lo,uN x.2.hi]*(J (u.map a9)*AA Y 0 [.func (.yield L) #[] #[]]*R)=J (u.map a9)*(AA y 0 [uN x.2.lo,uN x.2.hi]*(AA Y 0 [.func (.yield L) #[] #[]]*R)) by ac_rfl];refine J4 ?_;refine JL (Et (l:=[uN x.2.lo,uN x.2.hi]) I I)<|Po (WR I I (G (u.map a9) x.2 _ ⟨m,W,by rw[V,←S,VX]⟩)) I ?_;rintro _ _ ⟨g,rfl,hg,rfl⟩;refine QS ?_;refine mc (λe=>?_) (λe=>?_)
  ·skip;obtain rfl:g=false:=TZ;refine J2 ?_;refine p_ ?_;intro w X;show Sat B (HP.pr (none=none)*(f ((u++[x]).map a9)*AA Y 0 [.func (.yield L) #[] #[]])*R) w;rw[HP.assoc,Sat.pr];refine⟨I,?_⟩;refine CM.get (B:=B) (H:=f ((u++[x]).map a9)*(AA Y 0 [.func (.yield L) #[] #[]]*(AA y 0 [uN x.2.lo,uN x.2.hi]*R))) w ?_;rw[←V,show f (u.map a9++[x.2])*(AA Y 0 [.func (.yield L) #[] #[]]*(AA y 0 [uN x.2.lo,uN x.2.hi]*R))=f (u.map a9++[x.2])*(AA y 0 [uN x.2.lo,uN x.2.hi]*(AA Y 0 [.func (.yield L) #[] #[]]*R)) by ac_rfl];exact X
  refine J2 ?_;obtain rfl:g=true:=TZ;refine LW trivial ?_;intro w X;refine CM.get (B:=B) (H:=J ((u++[x]).map a9)*(AA Y 0 [.func (.yield L) #[] #[]]*(AA y 0 [uN x.2.lo,uN x.2.hi]*R))) w ?_;rw[←V,show J (u.map a9++[x.2])*(AA Y 0 [.func (.yield L) #[] #[]]*(AA y 0 [uN x.2.lo,uN x.2.hi]*R))=J (u.map a9++[x.2])*(AA y 0 [uN x.2.lo,uN x.2.hi]*(AA Y 0 [.func (.yield L) #[] #[]]*R)) by ac_rfl];exact X
 ·intro d h D;subst D;refine J1 ?_;rw[VX,Ab7];refine Bg (HP.obj d (.deferred (some []))*(J z.l.reverse*F)) (hE:=⟨λw X=>?_⟩) ?_
  ·refine CM.get (B:=B) (H:=HP.obj d (.deferred (some []))*(J z.l.reverse*(F*(AA K 0 [.slice a.p (aa z.l) a.c]*AA Y 0 [.func (.yield L) #[] #[]])))) w ?_;rw[show HP.obj d (.deferred (some []))*(J z.l.reverse*(F*(AA K 0 [.slice a.p (aa z.l) a.c]*AA Y 0 [.func (.yield L) #[] #[]])))=J z.l.reverse*AA Y 0 [.func (.yield L) #[] #[]]*(HP.obj d (.deferred (some []))*(AA K 0 [.slice a.p (aa z.l) a.c]*F)) by ac_rfl];exact X
  exact Wt (ts:=[]) [d] _ I I (.inl N9) I
 rintro d u (_|id) ⟨m,W,rfl⟩;rotate_left
 ·intro P O _ _ M;rw[HP.assoc]at M;exact absurd (Sat.pr.1 M).1 C3
 intro P O h1 U M;rw[HP.assoc]at M;have s:=(Sat.pr.1 M).2;rw[VX]at s;refine oc h1 U s<|Bg (HP.obj d (.deferred (some []))*(f (IJ z.l m)*F)) (hE:=⟨λw X=>?_⟩) ?_
 ·refine CM.get (B:=B) (H:=HP.obj d (.deferred (some []))*(f (IJ z.l m)*(F*(AA K 0 [.slice a.p (aa z.l) a.c]*AA Y 0 [.func (.yield L) #[] #[]])))) w ?_;rw[show HP.obj d (.deferred (some []))*(f (IJ z.l m)*(F*(AA K 0 [.slice a.p (aa z.l) a.c]*AA Y 0 [.func (.yield L) #[] #[]])))=f (IJ z.l m)*AA Y 0 [.func (.yield L) #[] #[]]*(HP.obj d (.deferred (some []))*(AA K 0 [.slice a.p (aa z.l) a.c]*F)) by ac_rfl];exact X
 exact Sn (ts:=[]) [d] _ I I (.inr ⟨_,⟨m,W,I⟩,I⟩) I
set_option maxHeartbeats 1000000 in
def x9(V lb l)(K:List AS→Prop)(F)[Aa prog V](a:∀t,K t→aa t≤100000)(L:PP prog B V lb KL (λh=>h=l) K (λ_=>True) F F):
  Fn prog B 165 [.slice none 0 0,BI V lb] F (λv S=>DI F l v S):=by
 refine Ts func165 I I I<|NZ ?_;rintro _ _ ⟨Y,rfl,rfl⟩;refine Ei ?_;refine XP (α:=AS) KL (λh=>h=l) K (λ_=>True) (λu=>HP.ex λz:DO=>HP.pr (Sl z.p z.b z.o (aa u) z.c∧aa u*2+aa z.s=z.c*2)*(AA Y 0 [.slice z.p (aa u) z.c]*AC z.b z.o u z.s)) (λQ u=>HP.pr False) F F (λy x=>[(2,ptr Y 0),(5,ptr y 0)]) (λy x=>AA y 0 [uN x.lo,uN x.hi]) I I I ?_ L ?_ ?_ ?_ ?_
 ·refine KP ⟨none,0,0,0,[]⟩ ⟨E7,I⟩ ?_;rw[GY,Hr];rfl
 ·intro u x l R;refine J1 ?_;refine Ae Pg I ?_;rintro _ _ ⟨b5,rfl,rfl⟩;refine M' ?_;exact UA b5 H5 I
 ·intro y u x l R A;refine A3 (H':=(HP.ex λz:DO=>HP.pr (Sl z.p z.b z.o (aa u) z.c∧aa u*2+aa z.s=z.c*2)*(AA Y 0 [.slice z.p (aa u) z.c]*AC z.b z.o u z.s))*(AA y 0 [uN x.lo,uN x.hi]*R)) C4<|OL ?_;rintro⟨J,G,T,X,w⟩ ⟨O,m⟩;dsimp only at O m⊢;have hpl:aa (u++[x])≤100000:=a _ A;rw[a5,mz]at hpl;refine J3 ?_;refine JL (Et (l:=[uN x.lo,uN x.hi]) I I)<|Ae (Gn (cs:=[uN x.lo,uN x.hi]) I Cc I I) I ?_;rintro _ _ ⟨e,rfl,rfl⟩;refine BH (H':=AC G T u w*(AA e 0 (AE [x])*(AA Y 0 [.slice J (aa u) X]*(AA y 0 [uN x.lo,uN x.hi]*R)))) (by show AA e 0 _*_=_;ac_rfl)<|Ae (CA (ys:=[x]) (bb:=e) (oo:=0) (cc:=1) I O m I Bz AH I Cd C0) I ?_;rintro _ _ ⟨M,N,f,U,r,rfl,W,C,rfl⟩;refine J3 ?_;exact Bg (AC N f (u++[x]) r*(AA Y 0 [.slice M (aa (u++[x])) U]*R))<|LW trivial (KP (⟨M,N,f,U,r⟩:DO) ⟨W,C⟩ C4)
 ·intro d h D;subst D;refine UD ?_;rintro⟨J,G,T,X,w⟩ ⟨O,m⟩;dsimp only at O m⊢;refine J9 ?_;exact GE (H':=AA Y 0 [.slice J (aa h) X]*(HP.obj d (.deferred (some []))*(AC G T h w*F))) C4<|Bg (HP.obj d (.deferred (some []))*(AC G T h w*F))<|Sn (ts:=[4]) [d] _ I I ⟨J,G,T,X,w,I,O,m,I⟩ I
 rintro d u id _ P ww _ _ h3;exact V6
 -- no other way
def W? (V:FuncId)(lb:List Value)(l:List AS)(K:List AS→Prop)(F:HP)[Aa prog V](a:∀t,K t→aa t≤100000)(L:PP prog B V lb KL (λh=>h=l) K (λ_=>True) F F):
  Fn prog B 136 [BI V lb] F (λv S=>DI F l v S):=by
 refine mI func136 ?_;refine J8 ?_;refine mE I (x9 V lb l K F a L) ?_;rintro _ _ ⟨p,J,o,e,s4,rfl,c,b,rfl⟩;refine J4 ?_;exact mr [2] I I ⟨p,J,o,e,s4,I,c,b,I⟩
def Aes(l:List AS)(p:Option Addr)(b o c:Nat)(f:FuncId)(us:List Value)(P:AS→Prop)[DecidablePred P](H:HP)[Aa prog f](hs:Sl p b o (aa l) c)[hr:AZ B H b o l](a:aa l<4611686018427387904)
  (hf:∀r,r∈l→Fn prog B f (KL r::us) H (λv H'=>v=.bool (decide (P r))∧H'=H)):
  Fn prog B 226 [.slice p (aa l) c,BI f us] H (λv H'=>∃k:Int,v=.int .i64 k∧ -1≤k∧k<4611686018427387904∧(0≤k↔∃r∈l,P r)∧H'=H):=by
 refine mI func226 ?_;refine FM ?_;refine Bf (α:=Nat) (λi=>[(0,.slice p (aa l) c),(1,BI f us),(7,iN (aa l)),(8,iN i)]) (λ_=>H) (λi=>i≤aa l∧∀j,j<i→¬P (rg l j)) (λi=>aa l-i) 0 ⟨bk _,(λj h=>absurd h (Aje j))⟩ DJ I ?_;rintro i ⟨X,e⟩;refine J6 ?_;refine mC (λF=>?_) (λF=>?_)
 ·refine Gu ?_;refine JL RC<|JL (N3 (xs:=l) I AH C0)<|Ae (HD I I (hf (rg l i) (JX (P:=λr=>r∈l) (λr h=>h) i C0))) I<|JR<|J2 ?_;refine mC (λu=>?_) (λu=>?_)
  ·refine Fi ?_;exact mr [4] I I ⟨(i:Nat),I,C0,C0,⟨λ_=>⟨rg l i,JX (P:=λr=>r∈l) (λr h=>h) i C0,by simpa using u⟩,λ_=>by omega⟩,I⟩
  refine Bt ?_;exact BV (i+1) ⟨C0,λj W=>by rcases ff j i with h|h;exact e j h;obtain rfl:j=i:=C0;simpa using u⟩ C0 DJ I
 refine DL ?_;exact mr [4] I I ⟨-1,I,C0,C0,⟨λh=>by omega,λ⟨r,hr,J⟩=>by obtain⟨j,W,rfl⟩:=Ax hr;have V:=e j C0;unfold rg at V;rw[ek,c8 W]at V;exact absurd J V⟩,I⟩
def yv(l:List AS)(p:Option Addr)(b o c:Nat)(f:FuncId)(us:List Value)(P:AS→Prop)[DecidablePred P](H:HP)[Aa prog f](C:Sl p b o (aa l) c)[hr:AZ B H b o l](J:aa l<4611686018427387904)
  (hf:∀r,r∈l→Fn prog B f (KL r::us) H (λv S=>v=.bool (decide (P r))∧S=H)):
  Fn prog B 213 [.slice p (aa l) c,BI f us] H (λv S=>v=.bool (decide (∃r∈l,P r))∧S=H):=by
 refine mI func213 ?_;refine J9 ?_;refine mE I (Aes l p b o c f us P H C J hf) ?_;rintro _ _ ⟨k,rfl,a,N,u,rfl⟩;refine JL (Kl (j:=0) I I)<|J4 ?_;refine mr [4] I I ⟨?_,I⟩;refine Vp ?_;congr 1;exact L'.2 (by simp only[decide_eq_true_eq];exact u)
end
section
open Go Go.RowKit Go.Extern.Stop Go.Stop Go.Extern
set_option maxRecDepth 20000
instance:Hz prog 120 (λa=>ReflectliteValue.unpack (a.getD 0 (.tuple #[]))):= @Jo prog 120 _ _ func120 C1 C1 C1 C1
instance :Hz prog 121 (ReflectliteValue.methodAny (ReflectliteValue.valueError "reflectlite.Value.Type" 0) (λt _ _ _ =>ReflectliteType.toType t)) := @Jo prog 121 _ _ func121 C1 C1 C1 C1
instance :Hz prog 122 (ReflectliteValue.method (ReflectliteValue.valueError "reflectlite.Value.IsNil" 0) ReflectliteValue.isNil) := @Jo prog 122 _ _ func122 C1 C1 C1 C1
instance:Hz prog 243 (ReflectliteType.abiMethod λt=>do pure (.int .u8 (←Rtype.kind t))):= @Jo prog 243 _ _ func243 C1 C1 C1 C1
instance:Hz prog 256 (ReflectliteType.method ReflectliteType.elem):= @Jo prog 256 _ _ func256 C1 C1 C1 C1
instance :Hz prog 257 (ReflectliteType.relation "Implements" ReflectliteType.implements_) := @Jo prog 257 _ _ func257 C1 C1 C1 C1
instance:Hz prog 124 ReflectliteType.typeOf:= @Jo prog 124 _ _ func124 C1 C1 C1 C1
instance :Hz prog 254 (ReflectliteType.relation "AssignableTo" ReflectliteType.assignableTo) := @Jo prog 254 _ _ func254 C1 C1 C1 C1
instance :Hz prog 159 (ReflectliteValue.method (ReflectliteValue.valueError "reflectlite.Value.Elem" 0) ReflectliteValue.elem) := @Jo prog 159 _ _ func159 C1 C1 C1 C1
instance:Hz prog 160 ReflectliteValue.set:= @Jo prog 160 _ _ func160 C1 C1 C1 C1
instance(h :Value) :K5 prog 282 (.agg #[h]) "Kind" 243 h :=⟨λw =>by kernel_rfl,λn D w =>of_eq_true C1⟩
instance(h :Value) :K5 prog 282 (.agg #[h]) "Elem" 256 (.agg #[h]) :=⟨λw =>by kernel_rfl,λn D w =>of_eq_true C1⟩
instance(h :Value) :K5 prog 282 (.agg #[h]) "Implements" 257 (.agg #[h]) :=⟨λw =>by kernel_rfl,λn D w =>of_eq_true C1⟩
instance(h :Value) :K5 prog 282 (.agg #[h]) "AssignableTo" 254 (.agg #[h]) :=⟨λw =>by kernel_rfl,λn D w =>of_eq_true C1⟩
instance(h :Value) :K5 prog 282 (.agg #[h]) "Comparable" 255 (.agg #[h]) :=⟨λw =>by kernel_rfl,λn D w =>of_eq_true C1⟩
instance(h :Value) :K5 prog 191 h "Unwrap" 249 h :=⟨λw =>by kernel_rfl,λn D w =>of_eq_true C1⟩
end
section
open Go Go.RowKit Go.Extern.Stop Go.Stop Go.Extern
def mb(t)(w:World):(ReflectliteValue.unpack (.iface 193 (.pointer (some t)))).run prog w
  = .ok (.agg #[.pointer (some ⟨1,193,none⟩),.pointer (some ⟨w.heap.size,0,none⟩),.int .u64 150]) (w.alloc (.cells #[.pointer (some t)] 193)):=C1
def tk(t)(w:World):(ReflectliteValue.unpack (.iface 197 (.pointer (some t)))).run prog w
  = .ok (.agg #[.pointer (some ⟨1,197,none⟩),.pointer (some ⟨w.heap.size,0,none⟩),.int .u64 150]) (w.alloc (.cells #[.pointer (some t)] 197)):=C1
def ag(k:Int)(w:World):(ReflectliteValue.unpack (.iface 41 (.int .i64 k))).run prog w
  = .ok (.agg #[.pointer (some ⟨1,41,none⟩),.pointer (some ⟨w.heap.size,0,none⟩),.int .u64 130]) (w.alloc (.cells #[.int .i64 k] 41)):=C1
def Aet(v w):(ReflectliteType.typeOf #[.iface 41 v]).run prog w=.ok (.iface 282 (.agg #[.pointer (some ⟨1,41,none⟩)])) w:=by kernel_rfl
def X! (w):(ReflectliteType.relation "AssignableTo" ReflectliteType.assignableTo #[.agg #[.pointer (some ⟨1,41,none⟩)],.iface 282 (.agg #[.pointer (some ⟨1,191,none⟩)])]).run prog w =.ok (.bool false) w :=by kernel_rfl
def qq(w):(ReflectliteType.relation "AssignableTo" ReflectliteType.assignableTo #[.agg #[.pointer (some ⟨1,41,none⟩)],.iface 282 (.agg #[.pointer (some ⟨1,41,none⟩)])]).run prog w =.ok (.bool true) w :=by kernel_rfl
def Mu(z:Sem Value)(f:TypeId→Addr→Nat→Nat→Sem Value)(v):
  ReflectliteValue.method z f #[v]=(do match ←ReflectliteValue.parts v with|none=>z|some (t,a,fl)=>f t a fl (fl%32)):=rfl
def Uq(a w):(ReflectliteValue.parts (.agg #[.pointer (some ⟨1,197,none⟩),.pointer (some a),.int .u64 150])).run prog w=.ok (some (197,a,150)) w:=by kernel_rfl
def iH(w):(Rtype.elem? 197).run prog w=.ok (some 41) w:=by kernel_rfl
def dp(p w):(ReflectliteValue.mk 41 p ReflectliteValue.flagAddr).run prog w=.ok (.agg #[.pointer (some ⟨1,41,none⟩),.pointer (some p),.int .u64 386]) w:=by kernel_rfl
def lw(a p)(W:World)(U:W.cell? a=some (.pointer (some p))):
  (ReflectliteValue.method (ReflectliteValue.valueError "reflectlite.Value.Elem" 0) ReflectliteValue.elem #[.agg #[.pointer (some ⟨1,197,none⟩),.pointer (some a),.int .u64 150]]).run prog W
   = .ok (.agg #[.pointer (some ⟨1,41,none⟩),.pointer (some p),.int .u64 386]) W:=by
 rw[Mu];simp only[bn,Uq,ad];simp[ReflectliteValue.elem,loadVar,isAgg,underlying,underlying197,U,ad,iH,dp]
def Sy(v x):ReflectliteValue.set #[v,x]=(do
  let(some (dst,a,fl),some (src,b,_)):=(←ReflectliteValue.parts v,←ReflectliteValue.parts x)
   |unsupported (.noEntry "extern/(internal/reflectlite.Value).Set.zeroValue")
  if fl/ReflectliteValue.flagAddr%2 ==0 then unsupported (.noEntry "extern/(internal/reflectlite.Value).Set.unaddressable")
  let l ←loadVar src b
  if ←Rtype.directlyAssignable dst src then storeVar dst a l
  else if ←Rtype.implements dst src then
   if(←Rtype.kind src)==20 then
    match l with
    | .nilIface =>unsupported (.noEntry "extern/reflectlite: a nil value of one interface type handed on as a value of another")
    |_=>storeVar dst a l
   else storeVar dst a (.iface src l)
  else panicString ("reflectlite.Set: value of type " ++ (← Rtype.spelt src) ++ " is not assignable to type " ++ (← Rtype.spelt dst))
  pure (.tuple #[])):=rfl
def jX(a w):(ReflectliteValue.parts (.agg #[.pointer (some ⟨1,41,none⟩),.pointer (some a),.int .u64 386])).run prog w=.ok (some (41,a,386)) w:=by kernel_rfl
def gX(a w):(ReflectliteValue.parts (.agg #[.pointer (some ⟨1,41,none⟩),.pointer (some a),.int .u64 130])).run prog w=.ok (some (41,a,130)) w:=by kernel_rfl
def nP(w):(Rtype.directlyAssignable 41 41).run prog w=.ok true w:=by kernel_rfl
def m_(a b)(k:Int)(old)(W:World)(hb:W.cell? b=some (.int .i64 k))(ht:W.cell? a=some old)(hf:W.frozen? a=false):
  (ReflectliteValue.set #[.agg #[.pointer (some ⟨1,41,none⟩),.pointer (some a),.int .u64 386],.agg #[.pointer (some ⟨1,41,none⟩),.pointer (some b),.int .u64 130]]).run prog W
   = .ok (.tuple #[]) (W.setCell a (.int .i64 k)):=by
 rw[Sy];simp only[bn,jX,gX,ad];simp[ReflectliteValue.flagAddr,loadVar,isAgg,underlying,underlying41,hb,ad,nP,storeVar,Value.cells,storeCells,Addr.add];rw[run_store prog W a _ _ (by rfl)];simp[ht,hf]
def ip(a w):(ReflectliteValue.methodAny (ReflectliteValue.valueError "reflectlite.Value.Type" 0) (λt _ _ _ =>ReflectliteType.toType t) #[.agg #[.pointer (some ⟨1,197,none⟩),.pointer (some a),.int .u64 150]]).run prog w
  = .ok (.iface 282 (.agg #[.pointer (some ⟨1,197,none⟩)])) w:=C1
def Ado(w):((ReflectliteType.abiMethod λt=>do pure (.int .u8 (←Rtype.kind t))) #[.pointer (some ⟨1,197,none⟩)]).run prog w=.ok (.int .u8 22) w:=by kernel_rfl
def y9(w):(ReflectliteType.method ReflectliteType.elem #[.agg #[.pointer (some ⟨1,197,none⟩)]]).run prog w=.ok (.iface 282 (.agg #[.pointer (some ⟨1,41,none⟩)])) w:=by kernel_rfl
def Af2(w):(ReflectliteType.relation "Implements" ReflectliteType.implements_ #[.agg #[.pointer (some ⟨1,41,none⟩)],.iface 282 (.agg #[.pointer (some ⟨1,106,none⟩)])]).run prog w =.ok (.bool true) w :=by kernel_rfl
def my(a w):(ReflectliteValue.methodAny (ReflectliteValue.valueError "reflectlite.Value.Type" 0) (λt _ _ _ =>ReflectliteType.toType t) #[.agg #[.pointer (some ⟨1,193,none⟩),.pointer (some a),.int .u64 150]]).run prog w
  = .ok (.iface 282 (.agg #[.pointer (some ⟨1,193,none⟩)])) w:=C1
def wy(w):((ReflectliteType.abiMethod λt=>do pure (.int .u8 (←Rtype.kind t))) #[.pointer (some ⟨1,193,none⟩)]).run prog w=.ok (.int .u8 22) w:=by kernel_rfl
def o8(w):(ReflectliteType.method ReflectliteType.elem #[.agg #[.pointer (some ⟨1,193,none⟩)]]).run prog w=.ok (.iface 282 (.agg #[.pointer (some ⟨1,191,none⟩)])) w:=by kernel_rfl
def bg(w):(ReflectliteType.relation "Implements" ReflectliteType.implements_ #[.agg #[.pointer (some ⟨1,191,none⟩)],.iface 282 (.agg #[.pointer (some ⟨1,106,none⟩)])]).run prog w =.ok (.bool true) w :=by kernel_rfl
def D! (w):((ReflectliteType.abiMethod λt=>do pure (.int .u8 (←Rtype.kind t))) #[.pointer (some ⟨1,41,none⟩)]).run prog w=.ok (.int .u8 2) w:=by kernel_rfl
def dq(w):((ReflectliteType.abiMethod λt=>do pure (.int .u8 (←Rtype.kind t))) #[.pointer (some ⟨1,191,none⟩)]).run prog w=.ok (.int .u8 22) w:=by kernel_rfl
def T9(a w):(ReflectliteValue.parts (.agg #[.pointer (some ⟨1,193,none⟩),.pointer (some a),.int .u64 150])).run prog w=.ok (some (193,a,150)) w:=by kernel_rfl
def Ad9(a p)(W:World)(U:W.cell? a=some (.pointer (some p))):
  (ReflectliteValue.method (ReflectliteValue.valueError "reflectlite.Value.IsNil" 0) ReflectliteValue.isNil #[.agg #[.pointer (some ⟨1,197,none⟩),.pointer (some a),.int .u64 150]]).run prog W =.ok (.bool false) W :=by
 rw[Mu];simp only[bn,Uq,ad];simp[ReflectliteValue.isNil,loadVar,isAgg,underlying,underlying197,U,ad]
def w8(a p)(W:World)(U:W.cell? a=some (.pointer (some p))):
  (ReflectliteValue.method (ReflectliteValue.valueError "reflectlite.Value.IsNil" 0) ReflectliteValue.isNil #[.agg #[.pointer (some ⟨1,193,none⟩),.pointer (some a),.int .u64 150]]).run prog W =.ok (.bool false) W :=by
 rw[Mu];simp only[bn,T9,ad];simp[ReflectliteValue.isNil,loadVar,isAgg,underlying,underlying193,U,ad]
instance :Hz prog 255 (ReflectliteType.method λt =>do Rtype.noPackHeld "Comparable" t; pure (.bool (← typeInfo t).comparable)) := @Jo prog 255 _ _ func255 C1 C1 C1 C1
def xc(w):((ReflectliteType.method λt =>do Rtype.noPackHeld "Comparable" t; pure (.bool (← typeInfo t).comparable)) #[.agg #[.pointer (some ⟨1,41,none⟩)]]).run prog w =.ok (.bool true) w :=by kernel_rfl
set_option maxRecDepth 100000
def fG(m D a w):Al m D prog (ReflectliteValue.parts (.agg #[.pointer (some ⟨1,197,none⟩),.pointer (some a),.int .u64 150])) w:=of_eq_true C1
def eu(m D w):Al m D prog (Rtype.elem? 197) w:=of_eq_true C1
def ld(m D p w):Al m D prog (ReflectliteValue.mk 41 p ReflectliteValue.flagAddr) w:=of_eq_true C1
def Ab8(m D a p)(W:World)(U:W.cell? a=some (.pointer (some p))):
  Al m D prog (ReflectliteValue.method (ReflectliteValue.valueError "reflectlite.Value.Elem" 0) ReflectliteValue.elem #[(.agg #[.pointer (some ⟨1,197,none⟩),.pointer (some a),.int .u64 150])]) W :=by
 rw[Mu];simp only[BL,Uq,fG,BX,true_and];simp[ReflectliteValue.elem,loadVar,A6,underlying197,U,live,iH,eu,ld]
def sw(m D a w):Al m D prog (ReflectliteValue.parts (.agg #[.pointer (some ⟨1,41,none⟩),.pointer (some a),.int .u64 386])) w:=of_eq_true C1
def Adk(m D a w):Al m D prog (ReflectliteValue.parts (.agg #[.pointer (some ⟨1,41,none⟩),.pointer (some a),.int .u64 130])) w:=of_eq_true C1
def Abr(m D w):Al m D prog (Rtype.directlyAssignable 41 41) w:=of_eq_true C1
def Abk(m D a b)(k:Int)(old)(W:World)(hb:W.cell? b=some (.int .i64 k))(ht:W.cell? a=some old)(J:live old=true)(hf:W.frozen? a=false):
  Al m D prog (ReflectliteValue.set #[(.agg #[.pointer (some ⟨1,41,none⟩),.pointer (some a),.int .u64 386]),(.agg #[.pointer (some ⟨1,41,none⟩),.pointer (some b),.int .u64 130])]) W:=by
 rw[Sy];simp only[BL,bn,bp,B3,jX,gX,sw,Adk,BX,true_and,ad];simp[ReflectliteValue.flagAddr,loadVar,A6,isAgg,underlying41,hb,live,nP,Abr,storeVar,Value.cells,storeCells,Addr.add,ht,hf,Value.oneCell'];exact J
def Ac5(m D a p)(W:World)(U:W.cell? a=some (.pointer (some p))):
  Al m D prog (ReflectliteValue.method (ReflectliteValue.valueError "reflectlite.Value.IsNil" 0) ReflectliteValue.isNil #[(.agg #[.pointer (some ⟨1,197,none⟩),.pointer (some a),.int .u64 150])]) W :=by
 rw[Mu];simp only[BL,Uq,fG,BX,true_and];simp[ReflectliteValue.isNil,loadVar,A6,underlying197,U,live]
def vK(m D a w):Al m D prog (ReflectliteValue.parts (.agg #[.pointer (some ⟨1,193,none⟩),.pointer (some a),.int .u64 150])) w:=of_eq_true C1
def nh(m D a p)(W:World)(U:W.cell? a=some (.pointer (some p))):
  Al m D prog (ReflectliteValue.method (ReflectliteValue.valueError "reflectlite.Value.IsNil" 0) ReflectliteValue.isNil #[(.agg #[.pointer (some ⟨1,193,none⟩),.pointer (some a),.int .u64 150])]) W :=by
 rw[Mu];simp only[BL,T9,vK,BX,true_and];simp[ReflectliteValue.isNil,loadVar,A6,underlying193,U,live]
end
section
open Go Go.RowKit Go.Extern.Stop Go.Stop Go.Extern
set_option maxRecDepth 20000
set_option maxHeartbeats 800000
variable{B:World}
abbrev Fq(k:Nat):Value:=.iface 41 (.int .i64 k)
abbrev D5(t:TypeId):Value:=.iface 282 (.agg #[.pointer (some ⟨1,t,none⟩)])
def vk(k:Nat)(a U L O:Value)(H:HP)(J: [U,L,O].all live=true:=by rfl):Fn prog B 123 [Fq k,a,.agg #[U,L,O],D5 191] H (λv S=>v=.bool false∧S=H):=by
 refine mI func123 ?_;refine J2 ?_;refine Ae (EB (l:=[U,L,O]) I I J) I ?_;rintro _ _ ⟨r,rfl,rfl⟩;refine J4 ?_;refine Bf (λ_:Unit=>[(0,Fq k),(1,a),(3,D5 191),(6,ptr r 0)]) (λ_=>HP.AA r 0 [U,L,O]*H) (λ_=>True) (λ_=>0) () trivial DJ I ?_;intro _ _;refine J5 ?_;refine JL SA<|J1 ?_;refine JL (JF I I (λw _=>X! w))<|J2 ?_;refine mc (λW=>?_) (λW=>?_)
 ·cases W
 refine J6 ?_;refine JL TG<|DL ?_;refine Do 31 I (λK=>?_) (λK=>?_)
 ·cases K
 refine Fj ?_;refine JL TG<|J4 ?_;refine mc (λW=>?_) (λW=>?_)
 ·cases W
 refine J2 ?_;refine JL TG<|J4 ?_;refine mc (λW=>?_) (λW=>?_)
 ·cases W
 refine Gu ?_;exact mR [8] H I I Dj
def s_(k:Nat)(a old:Value)(F M:Nat)(R:HP):Fn prog B 123 [Fq k,a,.agg #[.pointer (some ⟨1,197,none⟩),ptr M 0,.int .u64 150],D5 41] (AA F 0 [old]*(AA M 0 [ptr F 0]*R))
  (λv S=>v=.bool true∧S=AA F 0 [.int .i64 k]*(AA M 0 [ptr F 0]*R)):=by
 refine mI func123 ?_;refine J2 ?_;refine Ae (EB (l:=[.pointer (some ⟨1,197,none⟩),ptr M 0,.int .u64 150]) I I) I ?_;rintro _ _ ⟨r,rfl,rfl⟩;refine J4 ?_;refine Bf (λ_:Unit=>[(0,Fq k),(1,a),(3,D5 41),(6,ptr r 0)]) (λ_=>AA r 0 [.pointer (some ⟨1,197,none⟩),ptr M 0,.int .u64 150]*(AA F 0 [old]*(AA M 0 [ptr F 0]*R))) (λ_=>True) (λ_=>0) () trivial DJ I ?_;intro _ _;refine J5 ?_;refine JL SA<|J1 ?_;refine JL (JF I I (λw _=>qq w))<|J2 ?_;refine mc (λW=>?_) (λW=>?_);rotate_left
 ·cases W
 refine J3 ?_;refine JL (LO (v:=.agg #[.pointer (some ⟨1,41,none⟩),ptr F 0,.int .u64 386]) I (λw X=>lw ⟨M,0,none⟩ ⟨F,0,none⟩ w ((AH:Rd B (AA r 0 [.pointer (some ⟨1,197,none⟩),ptr M 0,.int .u64 150]*(AA F 0 [old]*(AA M 0 [ptr F 0]*R))) M 0 (ptr F 0) True).get w X trivial)) (ht:=λw X=>Ab8 _ _ ⟨M,0,none⟩ ⟨F,0,none⟩ w ((AH:Rd B (AA r 0 [.pointer (some ⟨1,197,none⟩),ptr M 0,.int .u64 150]*(AA F 0 [old]*(AA M 0 [ptr F 0]*R))) M 0 (ptr F 0) True).get w X trivial)))<|J1 ?_;refine Ae (OG (Post:=λv S=>∃b,v=.agg #[.pointer (some ⟨1,41,none⟩),ptr b 0,.int .u64 130]∧S=AA b 0 [.int .i64 k]*(AA r 0 [.pointer (some ⟨1,197,none⟩),ptr M 0,.int .u64 150]*(AA F 0 [old]*(AA M 0 [ptr F 0]*R)))) I (λw X=>⟨_,_,_,ag _ w,⟨w.heap.size,I,I⟩,X.alloc _ _ (KA I)⟩)) I ?_;rintro _ _ ⟨h,rfl,rfl⟩;refine Ae (OG (Post:=λv S=>S=AA h 0 [.int .i64 k]*(AA r 0 [.pointer (some ⟨1,197,none⟩),ptr M 0,.int .u64 150]*(AA F 0 [.int .i64 k]*(AA M 0 [ptr F 0]*R)))) I (λw X=>by
 have q:=(AH:Rd B (AA h 0 [.int .i64 k]*(AA r 0 [.pointer (some ⟨1,197,none⟩),ptr M 0,.int .u64 150]*(AA F 0 [old]*(AA M 0 [ptr F 0]*R)))) h 0 (.int .i64 k) True).get w X trivial;obtain⟨⟨u,c,J⟩,V,C⟩:=Sat.store (v:=.int .i64 k) (H':=AA h 0 [.int .i64 k]*(AA r 0 [.pointer (some ⟨1,197,none⟩),ptr M 0,.int .u64 150]*(AA F 0 [.int .i64 k]*(AA M 0 [ptr F 0]*R)))) (s:=True) (b:=F) (i:=0) AH X trivial I;exact⟨_,_,_,m_ ⟨F,0,none⟩ ⟨h,0,none⟩ k u w q c V,I,C⟩) (ht:=λw X=>by
 have q:=(AH:Rd B (AA h 0 [.int .i64 k]*(AA r 0 [.pointer (some ⟨1,197,none⟩),ptr M 0,.int .u64 150]*(AA F 0 [old]*(AA M 0 [ptr F 0]*R)))) h 0 (.int .i64 k) True).get w X trivial;obtain⟨⟨u,c,J⟩,V,C⟩:=Sat.store (v:=.int .i64 k) (H':=AA h 0 [.int .i64 k]*(AA r 0 [.pointer (some ⟨1,197,none⟩),ptr M 0,.int .u64 150]*(AA F 0 [.int .i64 k]*(AA M 0 [ptr F 0]*R)))) (s:=True) (b:=F) (i:=0) AH X trivial I;exact Abk _ _ ⟨F,0,none⟩ ⟨h,0,none⟩ k u w q c J V)) I ?_
 rintro _ _ rfl;refine Fi ?_;exact mR [8] (AA F 0 [.int .i64 k]*(AA M 0 [ptr F 0]*R)) I I Dj
def Q_(hG:B.cell? ⟨0,0,none⟩=some (D5 106))(k old b4 R):Fn prog B 79 [Fq k,.iface 193 (ptr b4 0)] (AA b4 0 [old]*R) (λv H'=>v=.bool false∧H'=AA b4 0 [old]*R):=by
 refine XU ?_;refine mc (λW=>?_) (λW=>?_)
 ·cases W
 refine J6 ?_;refine M5 ?_;refine mc (λW=>?_) (λW=>?_)
 ·cases W
 refine J5 ?_;refine Ae jV I ?_;rintro _ _ ⟨b14,rfl,rfl⟩;refine NN ?_;rintro _ _ ⟨F,rfl,rfl⟩;refine cB ?_;refine DU 20 I (λK=>?_) (λK=>?_)
 ·exact absurd I K
 refine A5 ?_;refine JL gB<|A5 ?_;refine mc (λW=>?_) (λW=>?_)
 ·cases W
 refine bM ?_;refine DU 30 I (λe=>?_) (λe=>?_)
 ·refine A5 ?_;refine JL Xl<|A4 ?_;refine JL Z0<|BB ?_;refine mc (λW=>?_) (λW=>?_)
  ·cases W
  refine J8 ?_;refine mE I (vk k _ _ _ _ _)<|JJ ?_;exact mR [4] (AA b4 0 [old]*R) I I Dj
 exact absurd C2 e
def ko(hG:B.cell? ⟨0,0,none⟩=some (D5 106))(k old J R):Fn prog B 79 [Fq k,.iface 197 (ptr J 0)] (AA J 0 [old]*R) (λv S=>v=.bool true∧S=AA J 0 [.int .i64 k]*R):=by
 refine XU ?_;refine mc (λW=>?_) (λW=>?_)
 ·cases W
 refine J6 ?_;refine M5 ?_;refine mc (λW=>?_) (λW=>?_)
 ·cases W
 refine J5 ?_;refine Ae (OG (Post:=λv S=>∃b,v=.agg #[.pointer (some ⟨1,197,none⟩),ptr b 0,.int .u64 150]∧S=AA b 0 [ptr J 0]*(AA J 0 [old]*R)) I (λw X=>⟨_,_,_,tk _ w,⟨w.heap.size,I,I⟩,X.alloc _ _ (KA I)⟩)) I ?_;rintro _ _ ⟨M,rfl,rfl⟩;refine NN ?_;rintro _ _ ⟨F,rfl,rfl⟩;refine DE ?_;refine JL (LO I (λw _=>ip _ w))<|J7 ?_;refine JL (JF I I (λw _=>Ado w))<|JL l7<|J1 ?_;refine DU 20 I (λK=>?_) (λK=>?_)
 ·exact absurd I K
 refine A5 ?_;refine JL (LO I (λw X=>Ad9 ⟨M,0,none⟩ ⟨J,0,none⟩ w ((AH:Rd B _ M 0 (ptr J 0) True).get w X trivial)) (ht:=λw X=>Ac5 _ _ ⟨M,0,none⟩ ⟨J,0,none⟩ w ((AH:Rd B _ M 0 (ptr J 0) True).get w X trivial)))<|A5 ?_;refine mc (λW=>?_) (λW=>?_)
 ·cases W
 refine J5 ?_;refine JL (JF I I (λw _=>y9 w))<|J7 ?_;refine JL (JF I I (λw _=>D! w))<|JL (H4 (i:=2) (j:=20) I I)<|J1 ?_;refine DU 30 I (λe=>?_) (λe=>?_)
 ·refine A5 ?_;refine JL Xl<|A4 ?_;refine JL (JF I I (λw _=>Af2 w))<|BB ?_;refine mc (λW=>?_) (λW=>?_)
  ·cases W
  refine J8 ?_;refine BH (H':=AA J 0 [old]*(AA M 0 [ptr J 0]*(AA F 0 [.pointer (some ⟨1,197,none⟩),ptr M 0,.int .u64 150]*R))) C4<|mE I (s_ k _ old J M (AA F 0 [.pointer (some ⟨1,197,none⟩),ptr M 0,.int .u64 150]*R))<|JJ ?_;exact mR [4] (AA J 0 [.int .i64 k]*R) I I Dj
 exact absurd C2 e
def Aft(j k:Int)(w):(binOp .eql 106 (.iface 41 (.int .i64 j)) (.iface 41 (.int .i64 k))).run prog w=.ok (.bool (j==k)) w:=by kernel_rfl
def Y_(k:Nat)(H:HP):Fn prog B 125 [Fq k,Fq k,.bool true] H (λv S=>v=.bool true∧S=H):=by
 refine mI func125 ?_;refine J6 ?_;refine Bf (λ_:Unit=>[(0,Fq k),(1,Fq k),(2,.bool true)]) (λ_=>H) (λ_=>True) (λ_=>0) () trivial DW I ?_;intro _ _;exact gD
def zn(k:Nat)(H:HP):Fn prog B 80 [Fq k,Fq k] H (λv S=>v=.bool true∧S=H):=by
 refine mI func80 ?_;refine J9 ?_;refine La ?_;refine J1 ?_;refine Do 8 I (λK=>?_) (λK=>?_)
 ·cases K
 refine A5 ?_;refine La ?_;refine A5 ?_;refine mc (λW=>?_) (λW=>?_)
 ·cases W
 refine J5 ?_;refine JL SA<|JL pI<|J8 ?_;refine mE I (Y_ k _)<|JJ ?_;exact Pt
end
section
def AP(f:α→HP)(l:List α):HP:=l.foldr (λa H=>f a*H) Bs
def GX(f:α→HP):AP f []=Bs:=rfl
def HK(f:α→HP)(a:α)(l:List α):AP f (a::l)=f a*AP f l:=rfl
def LY(f:α→HP)(l m:List α):AP f (l++m)=AP f l*AP f m:=by
 induction l with
 |nil=>rw[l0,GX,BS]
 |cons a l Z=>rw[Ap,HK,HK,Z,HP.assoc]
def CI(f:α→HP)(l:List α)(k:Nat):HP:=AP f (l.take k)*AP f (l.drop (k+1))
def Pv(f:α→HP)(l:List α)(k)(y:α)(Z:k<aa l):AP f (l.set k y)=f y*CI f l k:=by
 rw[Aih,AJ Z,LY,HK,CI,EM]
def Sq(l:List α)(k)(d:α)(Z:k<aa l):l.set k (l.getD k d)=l:=by
 rw[ek,c8 Z,Option.getD_some,List.set_getElem_self]
def MO(f:α→HP)(l:List α)(k)(d:α)(Z:k<aa l):AP f l=f (l.getD k d)*CI f l k:=by
 conv=>lhs;rw[←Sq l k d Z]
 exact Pv f l k _ Z
def Lb[AB α](b o:Nat)(xs:List α)(s:List Value)(k:Nat):HP:=AA b o (AE (xs.take k))*AA b (o+(k+1)*AB.sz α) (AE (xs.drop (k+1))++s)
def Qq[AB α](b o)(xs:List α)(s k)(y:α)(Z:k<aa xs):AC b o (xs.set k y) s=AA b (o+k*AB.sz α) (AB.enc y)*Lb b o xs s k:=by
 unfold AC Lb;rw[Aih,AJ Z,GH,c5,HF];have C:aa (AE (xs.take k))=k*AB.sz α:=by rw[CV,hZ,n6 C0]
 have M:AE (y::xs.drop (k+1))++s=AB.enc y++(AE (xs.drop (k+1))++s):=by simp[AE]
 rw[M,HF,C,AB.len,EM,Am0 o,←Al3]
def TQ[AB α](b o)(xs:List α)(s k)(d:α)(Z:k<aa xs):AC b o xs s=AA b (o+k*AB.sz α) (AB.enc (xs.getD k d))*Lb b o xs s k:=by
 conv=>lhs;rw[←Sq xs k d Z]
 exact Qq b o xs s k _ Z
def FU(n:Nat):Value:=if n=0 then .nilIface else Fq n
def ZU{n}(h:n≠0):FU n=Fq n:=by unfold FU;rw[AF h]
section
variable{B:World}{n:Nat}{E:A8}{H:HP}{d:Option Tmp}{T' ty:TypeId}{pos:String}{af:Array Edge}{g:Option (Nat×Bool)}{x y:Operand}
def Aeb{t}(F:ev E (.tmp t)=some (FU k)):AY prog B n ⟨d,.binOp .neq 106 (.tmp t) (.const .nilIface) T',ty,pos,af,g⟩ E H (.bool (decide (k≠0))):=by
 by_cases h:k=0
 ·subst h;exact Mk (u:=.nilIface) (v:=.nilIface) (r:=.bool false) F I (λw=>by kernel_rfl) (λw=>by kernel_rfl)
 rw[ZU h]at F;rw[show decide (k≠0)=true by simpa using h];exact Mk (u:=Fq k) (v:=.nilIface) (r:=.bool true) F I (λw=>by kernel_rfl) (λw=>by kernel_rfl)
end
structure Am where
 p:Option Addr
 b:Nat
 o:Nat
 c:Nat
 s:List Value
def Am.ok[AB α](a:Am)(xs:List α):Prop:=Sl a.p a.b a.o (aa xs) a.c∧aa xs*AB.sz α+aa a.s=a.c*AB.sz α
abbrev Am.v(a:Am)(k:Nat):Value:=.slice a.p k a.c
abbrev Am.h[AB α](a:Am)(xs:List α):HP:=AC a.b a.o xs a.s
structure CH where
 w:At
 a:Am
 sq:Nat
 sa:DO
 cq:Nat
 ca:DO
@[reducible] def DA(m:CH):List Value:=[.slice m.a.p (aa m.w.b) m.a.c,ptr m.sq 0,ptr m.cq 0,uN m.w.high,.bool m.w.finished,.bool m.w.ending,.bool m.w.ended,.bool m.w.given,uN m.w.code,.bool m.w.ES]
@[reducible] instance:AB CH:=⟨10,DA,⟨BO,⟨none,0,0,0,[]⟩,0,B0,0,B0⟩,λ_=>rfl,λ_ v h=>by
 simp at h;rcases h with rfl|rfl|rfl|rfl|rfl|rfl|rfl|rfl|rfl|rfl<;>rfl⟩
def DK(m:CH):HP:=AC m.a.b m.a.o m.w.b m.a.s*(AK m.sq m.sa m.w.AM*AK m.cq m.ca m.w.AG)
def CH.ok(m:CH):Prop:=m.a.ok m.w.b∧m.sa.ok m.w.AM∧m.ca.ok m.w.AG
def BU(cb:Nat)(ws:List CH):HP:=AC cb (0+43) ws []*AP DK ws
def Dl(cb:Nat)(ws:List CH)(k:Nat):HP:=Lb cb (0+43) ws [] k*CI DK ws k
def Lw(cb)(ws:List CH)(k)(Z:k<aa ws):BU cb ws=AA cb (0+43+k*10) (DA (ws.getD k AD))*(DK (ws.getD k AD)*Dl cb ws k):=by
 unfold BU Dl;rw[TQ cb (0+43) ws [] k AD Z,MO DK ws k AD Z];show AA cb (0+43+k*10) (DA (ws.getD k AD))*_*_=_;ac_rfl
def Nb(cb)(ws:List CH)(k y)(Z:k<aa ws):BU cb (ws.set k y)=AA cb (0+43+k*10) (DA y)*(DK y*Dl cb ws k):=by
 unfold BU Dl;rw[Qq cb (0+43) ws [] k y Z,Pv DK ws k y Z];show AA cb (0+43+k*10) (DA y)*_*_=_;ac_rfl
structure FA where
 r:Dk
 a:Am
 cq:Nat
 ca:DO
@[reducible] def Er(m:FA):List Value:=[.slice m.a.p (aa m.r.b) m.a.c,ptr m.cq 0,uN m.r.high,uN m.r.end_,.bool m.r.ended,.bool m.r.given,uN m.r.code,uN m.r.read,iN m.r.state]
@[reducible] instance:AB FA:=⟨9,Er,⟨LK,⟨none,0,0,0,[]⟩,0,B0⟩,λ_=>rfl,λ_ v h=>by
 simp at h;rcases h with rfl|rfl|rfl|rfl|rfl|rfl|rfl|rfl|rfl<;>rfl⟩
def Dq(m:FA):HP:=AC m.a.b m.a.o m.r.b m.a.s*AK m.cq m.ca m.r.AG
def FA.ok(m:FA):Prop:=m.a.ok m.r.b∧m.ca.ok m.r.AG
def B2(cb:Nat)(rs:List FA):HP:=AC cb (0+83) rs []*AP Dq rs
def Fx(cb:Nat)(rs:List FA)(k:Nat):HP:=Lb cb (0+83) rs [] k*CI Dq rs k
def C? (cb)(rs:List FA)(k)(Z:k<aa rs):B2 cb rs=AA cb (0+83+k*9) (Er (rs.getD k AD))*(Dq (rs.getD k AD)*Fx cb rs k):=by
 unfold B2 Fx;rw[TQ cb (0+83) rs [] k AD Z,MO Dq rs k AD Z];show AA cb (0+83+k*9) (Er (rs.getD k AD))*_*_=_;ac_rfl
def ja(cb)(rs:List FA)(k y)(Z:k<aa rs):B2 cb (rs.set k y)=AA cb (0+83+k*9) (Er y)*(Dq y*Fx cb rs k):=by
 unfold B2 Fx;rw[Qq cb (0+83) rs [] k y Z,Pv Dq rs k y Z];show AA cb (0+83+k*9) (Er y)*_*_=_;ac_rfl
structure Bi where
 number:Nat
 at_:Nat
 fs:List RF
 a:Am
@[reducible] def DP(m:Bi):List Value:=[uN m.number,uN m.at_,.slice m.a.p (aa m.fs) m.a.c]
@[reducible] instance:AB Bi:=⟨3,DP,⟨0,0,[],⟨none,0,0,0,[]⟩⟩,λ_=>rfl,λ_ v h=>by
 simp at h;rcases h with rfl|rfl|rfl<;>rfl⟩
def Bi.BF(m:Bi):FQ:=⟨m.number,m.at_,m.fs.map (·.f)⟩
def BC(m:Bi):HP:=AC m.a.b m.a.o m.fs m.a.s
def Bi.ok(m:Bi):Prop:=m.a.ok m.fs
structure CC where
 AV:Nat
 AI:Nat
 ks:List UInt8
 first:Bool
 now:Nat
 closed:Nat
 code:Nat
 said:Bool
 next:Nat
 gq:Nat
 answer:Bool
 fv:Value
 lv:Value
 CB:Nat
 waits:Nat
def Ab(cb:Nat)(x:CC):HP:=
 AA cb (0+0) [iN x.AV,iN x.AI]*(AA cb (0+2) (AE x.ks++[u8 (Bb x.first)])*(AA cb (0+19) (AE x.ks++[u8 (Bb (!x.first))])*(AA cb (0+36) [uN x.now]*
 (AA cb (0+37) [iN x.closed]*(AA cb (0+38) [uN x.code]*(AA cb (0+39) [.bool x.said]*(AA cb (0+40) [uN x.next]*(AA cb (0+41) [ptr x.gq 0]*(AA cb (0+42) [.bool x.answer]*
 (AA cb (0+119) [x.fv]*(AA cb (0+120) [x.lv]*(AA cb (0+121) [uN x.CB]*AA cb (0+122) [uN x.waits]))))))))))))
section
variable(cb:Nat)(x:CC)
instance:Cell (Ab cb x) cb (0+0+0) (iN x.AV) True:=by unfold Ab;exact AH
instance:Cell (Ab cb x) cb (0+0+1) (iN x.AI) True:=by unfold Ab;exact AH
instance:Cell (Ab cb x) cb (0+36) (uN x.now) True:=by unfold Ab;exact AH
instance:Cell (Ab cb x) cb (0+37) (iN x.closed) True:=by unfold Ab;exact AH
instance:Cell (Ab cb x) cb (0+38) (uN x.code) True:=by unfold Ab;exact AH
instance:Cell (Ab cb x) cb (0+39) (.bool x.said) True:=by unfold Ab;exact AH
instance:Cell (Ab cb x) cb (0+40) (uN x.next) True:=by unfold Ab;exact AH
instance:Cell (Ab cb x) cb (0+41) (ptr x.gq 0) True:=by unfold Ab;exact AH
instance:Cell (Ab cb x) cb (0+42) (.bool x.answer) True:=by unfold Ab;exact AH
instance:Cell (Ab cb x) cb (0+119) x.fv True:=by unfold Ab;exact AH
instance:Cell (Ab cb x) cb (0+120) x.lv True:=by unfold Ab;exact AH
instance:Cell (Ab cb x) cb (0+121) (uN x.CB) True:=by unfold Ab;exact AH
instance:Cell (Ab cb x) cb (0+122) (uN x.waits) True:=by unfold Ab;exact AH
instance(v:Nat):D8 (Ab cb x) cb (0+36) (uN v) (Ab cb {x with now:=v}) True:=by unfold Ab;exact AH
instance(v:Nat):D8 (Ab cb x) cb (0+37) (iN v) (Ab cb {x with closed:=v}) True:=by unfold Ab;exact AH
instance(v:Nat):D8 (Ab cb x) cb (0+38) (uN v) (Ab cb {x with code:=v}) True:=by unfold Ab;exact AH
instance(v:Bool):D8 (Ab cb x) cb (0+39) (.bool v) (Ab cb {x with said:=v}) True:=by unfold Ab;exact AH
instance(v:Nat):D8 (Ab cb x) cb (0+40) (uN v) (Ab cb {x with next:=v}) True:=by unfold Ab;exact AH
instance(v:Bool):D8 (Ab cb x) cb (0+42) (.bool v) (Ab cb {x with answer:=v}) True:=by unfold Ab;exact AH
instance(v:Value):D8 (Ab cb x) cb (0+119) v (Ab cb {x with fv:=v}) True:=by unfold Ab;exact AH
instance(v:Value):D8 (Ab cb x) cb (0+120) v (Ab cb {x with lv:=v}) True:=by unfold Ab;exact AH
instance(v:Nat):D8 (Ab cb x) cb (0+121) (uN v) (Ab cb {x with CB:=v}) True:=by unfold Ab;exact AH
instance(v:Nat):D8 (Ab cb x) cb (0+122) (uN v) (Ab cb {x with waits:=v}) True:=by unfold Ab;exact AH
end
structure Ak where
 x:CC
 AR:Ba
 ga:DO
 ws:List CH
 rs:List FA
 fl:List Bi
 lo:List Bi
 fa:Am
 la:Am
def Ak.s(m:Ak):AO:=
 ⟨m.x.AV,m.x.AI,m.x.ks,m.x.first,m.x.now,m.x.closed,m.x.code,m.x.said,m.x.next,m.AR,m.x.answer,m.ws.map (·.w),m.rs.map (·.r),m.fl.map (·.BF),m.lo.map (·.BF),m.x.CB,m.x.waits⟩
structure Ak.ok(m:Ak):Prop where
 g:m.ga.ok m.AR
 ws:∀w∈m.ws,w.ok
 rs:∀r∈m.rs,r.ok
 fl:∀p∈m.fl,p.ok
 lo:∀p∈m.lo,p.ok
 fa:m.fa.ok m.fl
 la:m.la.ok m.lo
 fv:m.x.fv=m.fa.v m.fl.length
 lv:m.x.lv=m.la.v m.lo.length
def EW(m:Ak):HP:=m.fa.h m.fl*(m.la.h m.lo*(AP BC m.fl*AP BC m.lo))
def Ao(cb:Nat)(m:Ak):HP:=Ab cb m.x*(AK m.x.gq m.ga m.AR*(BU cb m.ws*(B2 cb m.rs*EW m)))
def Ak.ON(m:Ak)(k)(hk:k<aa m.ws):m.s.w k=(m.ws.getD k AD).w:=by
 unfold AO.w Ak.s;exact Ri
def Ak.TR(m:Ak)(k)(hk:k<aa m.rs):m.s.r k=(m.rs.getD k AD).r:=by
 unfold AO.r Ak.s;exact Ri
def Gk{l:List α}{d:α}(Z:k<aa l):l.getD k d∈l:=by
 rw[ek,c8 Z];exact rv Z
def NF{l:List α}{y a:α}{P:α→Prop}(h:∀a∈l,P a)(G:P y)(U:a∈l.set k y):P a:=by
 obtain O|rfl:=List.mem_or_eq_of_mem_set U
 ·exact h a O
 exact G
end
section
variable{B:World}
def FI(closed:Nat)(k:Int):Nat:=if closed≠0 then 9 else if k<0∨4≤k then 2 else 0
def KN{closed}{k:Int}(h:FI closed k=0):closed=0∧∃j:Nat,k=j∧j<4:=by
 unfold FI at h;split at h
 ·cases h
 split at h
 ·cases h
 exact⟨C0,k.toNat,C0,C0⟩
def I6(m:Ak)(k:Int):m.s.stream k=FI m.x.closed k:=rfl
def iw(cb closed:Nat)(k:Int)(H:HP)[W:Rd B H cb (0+37) (iN closed) True]:
  Fn prog B 132 [ptr cb 0,.int .i64 k] H (λv S=>v=FU (FI closed k)∧S=H):=by
 refine mI func132 ?_;refine Fj ?_;refine mC (λh5=>?_) (λh5=>?_)
 ·refine BQ ?_;exact uT
 refine J3 ?_;refine JL (Jr (i:=k) (j:=0) I I)<|J1 ?_;refine DU 15 I (λK=>?_) (λK=>?_)
 ·refine E6 ?_;exact UM
 refine A5 ?_;refine JL (Kl (i:=k) (j:=4) I I)<|Bn ?_;refine mC (λF=>?_) (λF=>?_)
 ·refine BQ ?_;exact UM
 refine J9 ?_;exact mr [4] I I ⟨d5,I⟩
def zB(b o AI:Nat)(m:CH)(R:HP)(N:m.ok)(hw:Fd AI m.w):
  Fn prog B 131 [ptr b o] (HP.AA b o (DA m)*(DK m*R)) (λv S=>v=iN m.w.CQ∧S=HP.AA b o (DA m)*(DK m*R)):=by
 refine mI func131 ?_;refine DE ?_;refine A3 (H':=HP.AA b o (DA m)*(AC m.a.b m.a.o m.w.b m.a.s*(AK m.sq m.sa m.w.AM*(AK m.cq m.ca m.w.AG*R)))) PX ?_;have J:=hw.len;have A:=hw.OA;refine mA 16 16 ?_;refine CY ?_;refine Au 10 C1 I I (Bd I (SN m.cq 0 (aa m.w.b) (aa m.w.b) m.ca m.w.AG _ N.2.2 hw.co C0 (by have V:=hw.co.len;rw[hw.cm]at V;omega)))<|Hh ?_;refine CY ?_;refine JL (IF I (R4 (by show(AW 0 (aa m.w.b) m.w.AG.l).1<_;have G:(AW 0 (aa m.w.b) m.w.AG.l).1≤aa m.w.b:=A;omega)))<|J4 ?_;exact mR [2] (HP.AA b o (DA m)*(DK m*R)) (hE:=by unfold DK;exact AH) I I Dj
def Ov(cb e:Nat)(k:Int):Value:=if e=0 then ptr cb (0+43+k.toNat*10)else .pointer none
def ym(m:Ak)(k:Int)(j:Nat)(J:aa m.ws=4)(C:FI m.x.closed k=0)(Z:k=j)(W:j<4):
  m.s.GQ k=if(m.ws.getD j AD).w.finished=true∨(m.ws.getD j AD).w.given=true then 3 else 0:=by
 subst Z;unfold GQ;rw[I6,AF C0,dz,m.ON j C0]
def mP(m:Ak)(k:Int)(C:FI m.x.closed k≠0):m.s.GQ k=FI m.x.closed k:=by
 unfold GQ;rw[I6,AJ C]
def L? (cb:Nat)(m:Ak)(k:Int)(R:HP)(J:aa m.ws=4):
  Fn prog B 130 [ptr cb 0,.int .i64 k] (Ab cb m.x*(BU cb m.ws*R)) (λv S=>v=.tuple #[Ov cb (m.s.GQ k) k,FU (m.s.GQ k)]∧S=Ab cb m.x*(BU cb m.ws*R)):=by
 refine mI func130 ?_;refine DL ?_;refine Ry ?_;refine mC (λF=>?_) (λF=>?_)
 ·refine J9 ?_;exact mr [4,5] I I ⟨by rw[mP m k F];unfold Ov;rw[AF F];rfl,I⟩
 obtain⟨L,j,rfl,W⟩:=KN (by simpa using F:FI m.x.closed k=0);have h:j<aa m.ws:=C0;refine J3 ?_;refine A3 (H':=Ab cb m.x*(HP.AA cb (0+43+j*10) (DA (m.ws.getD j AB.AD))*(DK (m.ws.getD j AB.AD)*(Dl cb m.ws j*R)))) (by rw[Lw cb m.ws j h];ac_rfl) ?_;have D:=ym m (j:Int) j J (by simpa using F) I W;refine J5 ?_;refine JL Qg<|DL ?_;refine Do 23 I (λK=>?_) (λK=>?_)
 ·refine Fj ?_;exact mR [4,5] (Ab cb m.x*(BU cb m.ws*R)) (hE:=by rw[Lw cb m.ws j h];exact AH) I I ⟨by rw[D,AJ (.inl K)];rfl,I⟩
 refine CK ?_;refine mc (λC=>?_) (λC=>?_)
 ·refine BQ ?_;exact mR [4,5] (Ab cb m.x*(BU cb m.ws*R)) (hE:=by rw[Lw cb m.ws j h];exact AH) I I ⟨by rw[D,AJ (.inr C)];rfl,I⟩
 refine Ei ?_;exact mR [4,5] (Ab cb m.x*(BU cb m.ws*R)) (hE:=by rw[Lw cb m.ws j h];exact AH) I I ⟨by rw[D,AF (by rw[K,C];simp)];rfl,I⟩
def Ak.Oz{t}{m:Ak}(h:Aq t m.s):aa m.ws=4:=by have:=h.ws.len;simpa[Ak.s]using this
def Ak.R5{t}{m:Ak}(h:Aq t m.s):aa m.rs=4:=by have:=h.rl;simpa[Ak.s]using this
def Ak.Uj{t}{m:Ak}(h:Aq t m.s)(Z:k<4):Fd m.x.AI (m.ws.getD k AD).w:=by
 have:=h.ws.ok k Z;have e:m.s.ws.getD k BO=(m.ws.getD k AD).w:=m.ON k (by rw[Ak.Oz h];exact Z);rw[e]at this;exact this
def Ak.Vx{t}{m:Ak}(h:Aq t m.s)(Z:k<4):Hc m.x.AI t (m.rs.getD k AD).r:=by
 have:=h.rs k Z;rw[m.TR k (by rw[Ak.R5 h];exact Z)]at this;exact this
def Ak.Dh(m:Ak)(k:Nat)(w:CH):Ak:={m with ws:=m.ws.set k w}
def Ak.Wy(m:Ak)(k)(w:CH):(m.Dh k w).s=m.s.Dh k w.w:=by
 unfold Ak.Dh Ak.s AO.Dh;simp only[D']
def Ak.ok.Dh{m:Ak}(h:m.ok){w:CH}(hw:w.ok):(m.Dh k w).ok:=
 ⟨h.g,λa U=>NF (P:=CH.ok) h.ws hw U,h.rs,h.fl,h.lo,h.fa,h.la,h.fv,h.lv⟩
def Ak.CE(m:Ak)(k:Nat)(r:FA):Ak:={m with rs:=m.rs.set k r}
def Ak.Tk(m:Ak)(k)(r:FA):(m.CE k r).s=m.s.CE k r.r:=by
 unfold Ak.CE Ak.s AO.CE;simp only[D']
def Ak.ok.CE{m:Ak}(h:m.ok){r:FA}(hr:r.ok):(m.CE k r).ok:=
 ⟨h.g,h.ws,λa U=>NF (P:=FA.ok) h.rs hr U,h.fl,h.lo,h.fa,h.la,h.fv,h.lv⟩
def i6{m:Ak}{k:Int}(h:m.s.GQ k=0):FI m.x.closed k=0:=by
 by_cases C:FI m.x.closed k=0
 ·exact C
 rw[mP m k C]at h;exact absurd h C
def Hg(m:Ak)(cb:Nat):HP:=AK m.x.gq m.ga m.AR*(B2 cb m.rs*EW m)
def Je(cb)(m:Ak)(R):Ao cb m*R=Ab cb m.x*(BU cb m.ws*(Hg m cb*R)):=by
 unfold Ao Hg;ac_rfl
def Q0(cb)(m:Ak)(R j)(W:j<aa m.ws):Ao cb m*R=Ab cb m.x*(AA cb (0+43+j*10) (DA (m.ws.getD j AD))*(DK (m.ws.getD j AD)*(Dl cb m.ws j*(Hg m cb*R)))):=by
 rw[Je,Lw cb m.ws j W];ac_rfl
def U'(cb)(m:Ak)(R j)(W:j<aa m.ws)(y):Ao cb (m.Dh j y)*R=Ab cb m.x*(AA cb (0+43+j*10) (DA y)*(DK y*(Dl cb m.ws j*(Hg m cb*R)))):=by
 rw[Je];show Ab cb m.x*(BU cb (m.ws.set j y)*(Hg (m.Dh j y) cb*R))=_;rw[Nb cb m.ws j y W];show Ab cb m.x*(AA cb (0+43+j*10) (DA y)*(DK y*Dl cb m.ws j)*(Hg m cb*R))=_;ac_rfl
def gn(cb t:Nat)(m:Ak)(k:Int)(xs:List UInt8)(p:Option Addr)(b o c:Nat)(R:HP)(hm:m.ok)(hi:Aq t m.s)(hs:Sl p b o (aa xs) c)(hr:AZ B R b o xs):
  Fn prog B 88 [ptr cb 0,.int .i64 k,.slice p (aa xs) c] (Ao cb m*R)
   (λv H'=>∃N:Ak,N.ok∧N.s=(m.s.write k xs).2∧v=.tuple #[iN (m.s.write k xs).1.1,FU (m.s.write k xs).1.2]∧H'=Ao cb N*R):=by
 refine mI func88<|A3 P6 ?_;refine CY ?_;refine eQ ?_;refine mC (λF=>?_) (λF=>?_)
 ·refine BQ ?_;refine mR [6,7] (Ao cb m*R) (hE:=by rw[Je];exact AH) I I ⟨m,hm,?_,?_,I⟩
  ·unfold AO.write;rw[AJ F]
  unfold AO.write;rw[AJ F];rfl
 have F:m.s.GQ k=0:=by simpa using F
 obtain⟨L,j,rfl,W⟩:=KN (i6 F);have hjl:j<aa m.ws:=by rw[Ak.Oz hi];exact W
 have C:=Ak.Uj hi W;have h:=hm.ws _ HU;have f:=m.ON j hjl;have D:Ov cb (m.s.GQ (j:Int)) (j:Int)=ptr cb (0+43+j*10):=by unfold Ov;rw[AJ F,dz]
 generalize hwx:m.ws.getD j AB.AD=wm at C h f;have e:=C.len;have hpr:=C.OA;have J:=C.room;have U:=hi.w2;have T:m.x.AI≤1024:=U;refine O3 (E':=[(8,ptr cb (0+43+j*10)),(0,ptr cb 0),(2,.slice p (aa xs) c)]) (.cons (by rw[←D];rfl) H5)<|A3 (H':=HP.AA cb (0+43+j*10) (DA wm)*(DK wm*(Ab cb m.x*(Dl cb m.ws j*(Hg m cb*R))))) YG<|J3 ?_;refine mA 24 24 ?_;refine O6 ?_;refine Jm 14 ?_;refine P9 ?_;refine JT 19 I YS<|M' ?_;refine Au 11 C1 I I (Bd I (zB cb (0+43+j*10) m.x.AI wm _ h C))<|JR ⟨.inr AH,?_⟩;refine M' ?_;refine JT 22 I (Aag I I I)<|P9 ?_;have A:(min (min (m.x.AI-(aa wm.w.b-wm.w.CQ)) (4096-aa wm.w.b)) (aa xs))≤aa xs:=Ale _ _;refine A3 (H':=AC wm.a.b wm.a.o wm.w.b wm.a.s*(HP.AA cb (0+43+j*10) (DA wm)*(Ab cb m.x*((AK wm.sq wm.sa wm.w.AM*AK wm.cq wm.ca wm.w.AG)*(Dl cb m.ws j*(Hg m cb*R)))))) PX ?_;have V:aa (xs.take (min (min (m.x.AI-(aa wm.w.b-wm.w.CQ)) (4096-aa wm.w.b)) (aa xs)))=(min (min (m.x.AI-(aa wm.w.b-wm.w.CQ)) (4096-aa wm.w.b)) (aa xs)):=Qt;refine EI (HP.AA cb (0+43+j*10) (DA wm)*(Ab cb m.x*((AK wm.sq wm.sa wm.w.AM*AK wm.cq wm.ca wm.w.AG)*(Dl cb m.ws j*(Hg m cb*R))))) 11 12 EO I C1<|Bt ?_;refine JT 7 I (Rb (k':=aa (xs.take (min (min (m.x.AI-(aa wm.w.b-wm.w.CQ)) (4096-aa wm.w.b)) (aa xs)))) I I C8 V)<|Au 8 C1 I I (CA (ys:=xs.take (min (min (m.x.AI-(aa wm.w.b-wm.w.CQ)) (4096-aa wm.w.b)) (aa xs))) (bb:=b) (oo:=o) I h.1.1 h.1.2 I ⟨hs.1,C8⟩ (let _:=hr;AH) I C0 C0) ?_;rintro _ _ ⟨K,l,u,M,z,rfl,P,Q,rfl⟩;refine BT ?_;refine FC ?_;have S:m.s.write (j:Int) xs=(((min (min (m.x.AI-(aa wm.w.b-wm.w.CQ)) (4096-aa wm.w.b)) (aa xs)),0),m.s.Dh j {wm.w with b:=wm.w.b++xs.take (min (min (m.x.AI-(aa wm.w.b-wm.w.CQ)) (4096-aa wm.w.b)) (aa xs))}):=by
  unfold AO.write;rw[AF C0,dz];unfold AO.Hf;rw[f];rfl
 obtain⟨Y,U⟩:∃Y:CH,Y={wm with w:={wm.w with b:=wm.w.b++xs.take (min (min (m.x.AI-(aa wm.w.b-wm.w.CQ)) (4096-aa wm.w.b)) (aa xs))},a:=⟨K,l,u,M,z⟩}:=DF;have G:Y.ok:=by rw[U];exact⟨⟨P,Q⟩,h.2⟩
 have r:Y.w={wm.w with b:=wm.w.b++xs.take (min (min (m.x.AI-(aa wm.w.b-wm.w.CQ)) (4096-aa wm.w.b)) (aa xs))}:=by rw[U]
 refine mR [6,7] (Ao cb (m.Dh j Y)*R) (hE:=?_) I I ⟨m.Dh j Y,hm.Dh G,?_,?_,I⟩
 ·rw[U' cb m R j hjl,U];refine⟨λO X=>?_⟩;unfold DK;refine Eq.mp ?_ X;congr 1;show AC l u _ z*_=Ab cb m.x*(HP.AA cb (0+43+j*10) [.slice K (aa (wm.w.b++xs.take (min (min (m.x.AI-(aa wm.w.b-wm.w.CQ)) (4096-aa wm.w.b)) (aa xs)))) M,ptr wm.sq 0,ptr wm.cq 0,uN wm.w.high,.bool wm.w.finished,.bool wm.w.ending,.bool wm.w.ended,.bool wm.w.given,uN wm.w.code,.bool wm.w.ES]*(AC l u (wm.w.b++xs.take (min (min (m.x.AI-(aa wm.w.b-wm.w.CQ)) (4096-aa wm.w.b)) (aa xs))) z*(AK wm.sq wm.sa wm.w.AM*AK wm.cq wm.ca wm.w.AG)*_));ac_rfl
 ·rw[Ak.Wy,S,r]
 rw[S];rfl
def Aef(cb t:Nat)(m:Ak)(k:Int)(R:HP)(hm:m.ok)(hi:Aq t m.s):
  Fn prog B 89 [ptr cb 0,.int .i64 k] (Ao cb m*R)
   (λv H'=>∃N:Ak,N.ok∧N.s=(m.s.finish k).2∧v=FU (m.s.finish k).1∧H'=Ao cb N*R):=by
 refine mI func89<|A3 P6 ?_;refine J9 ?_;refine eQ ?_;refine mC (λF=>?_) (λF=>?_)
 ·refine J8 ?_;refine mR [4] (Ao cb m*R) (hE:=by first|(rw[Je];exact AH)|(rw[Q0 cb m R j hjl,hwx];exact⟨λO X=>by refine Eq.mp ?_ X;congr 1;ac_rfl⟩)) I I ⟨m,hm,?_,?_,I⟩
  ·unfold AO.finish;rw[AJ F]
  unfold AO.finish;rw[AJ F];rfl
 have F:m.s.GQ k=0:=by simpa using F
 obtain⟨L,j,rfl,W⟩:=KN (i6 F);have hjl:j<aa m.ws:=by rw[Ak.Oz hi];exact W
 have C:=Ak.Uj hi W;have h:=hm.ws _ HU;have f:=m.ON j hjl;have D:Ov cb (m.s.GQ (j:Int)) (j:Int)=ptr cb (0+43+j*10):=by unfold Ov;rw[AJ F,dz]
 generalize hwx:m.ws.getD j AB.AD=wm at C h f;refine O3 (E':=[(5,ptr cb (0+43+j*10)),(0,ptr cb 0)]) (.cons (by rw[←D];rfl) U4)<|A3 (H':=HP.AA cb (0+43+j*10) (DA wm)*(DK wm*(Ab cb m.x*(Dl cb m.ws j*(Hg m cb*R))))) YG<|Gu ?_;refine J1 ?_;obtain⟨Y,U⟩:∃Y:CH,Y={wm with w:={wm.w with finished:=true}}:=DF;have G:Y.ok:=by rw[U];exact h
 have r:Y.w={wm.w with finished:=true}:=by rw[U]
 have ewr:m.s.finish (j:Int)=(0,m.s.Dh j {wm.w with finished:=true}):=by
  unfold AO.finish;rw[AF C0,dz,f]
 refine mR [4] (Ao cb (m.Dh j Y)*R) (hE:=?_) I I ⟨m.Dh j Y,hm.Dh G,by rw[Ak.Wy,ewr,r],Cb,I⟩;rw[U' cb m R j hjl,U];refine⟨λO X=>?_⟩;refine Eq.mp ?_ X;congr 1;show _=Ab cb m.x*(HP.AA cb (0+43+j*10) [.slice wm.a.p (aa wm.w.b) wm.a.c,ptr wm.sq 0,ptr wm.cq 0,uN wm.w.high,.bool true,.bool wm.w.ending,.bool wm.w.ended,.bool wm.w.given,uN wm.w.code,.bool wm.w.ES]*(DK wm*_));ac_rfl
def ze(cb t:Nat)(m:Ak)(k:Int)(code:Nat)(R:HP)(hm:m.ok)(hi:Aq t m.s):
  Fn prog B 90 [ptr cb 0,.int .i64 k,uN code] (Ao cb m*R)
   (λv H'=>∃N:Ak,N.ok∧N.s=(m.s.giveUp k code).2∧v=FU (m.s.giveUp k code).1∧H'=Ao cb N*R):=by
 refine mI func90<|A3 P6 ?_;refine Ei ?_;refine Ry ?_;refine mC (λe=>?_) (λe=>?_)
 ·refine J8 ?_;refine mR [6] (Ao cb m*R) (hE:=by first|(rw[Je];exact AH)|(rw[Q0 cb m R j hjl,hwx];exact⟨λO X=>by refine Eq.mp ?_ X;congr 1;ac_rfl⟩)) I I ⟨m,hm,?_,?_,I⟩
  ·unfold AO.giveUp;rw[I6,AJ e]
  unfold AO.giveUp;rw[I6,AJ e];rfl
 obtain⟨L,j,rfl,W⟩:=KN (by simpa using e:FI m.x.closed k=0);have e:FI m.x.closed (j:Int)=0:=TZ;have hjl:j<aa m.ws:=by rw[Ak.Oz hi];exact W
 have C:=Ak.Uj hi W;have h:=hm.ws _ HU;have f:=m.ON j hjl;generalize hwx:m.ws.getD j AB.AD=wm at C h f;refine d7 ?_;refine J8 ?_;refine JL Qg<|DL ?_;refine Do 24 I (λK=>?_) (λK=>?_)
 ·refine FM ?_;refine mR [6] (Ao cb m*R) (hE:=by first|(rw[Je];exact AH)|(rw[Q0 cb m R j hjl,hwx];exact⟨λO X=>by refine Eq.mp ?_ X;congr 1;ac_rfl⟩)) I I ⟨m,hm,?_,?_,I⟩
  ·unfold AO.giveUp;rw[I6,AF C0,dz,f,AJ (.inl K)]
  unfold AO.giveUp;rw[I6,AF C0,dz,f,AJ (.inl K)];rfl
 refine A5 ?_;refine JL Ny<|A5 ?_;refine mC (λl=>?_) (λl=>?_)
 ·refine Be ?_;refine mR [6] (Ao cb m*R) (hE:=by first|(rw[Je];exact AH)|(rw[Q0 cb m R j hjl,hwx];exact⟨λO X=>by refine Eq.mp ?_ X;congr 1;ac_rfl⟩)) I I ⟨m,hm,?_,?_,I⟩
  ·unfold AO.giveUp;rw[I6,AF C0,dz,f,AJ (.inr l)]
  unfold AO.giveUp;rw[I6,AF C0,dz,f,AJ (.inr l)];rfl
 refine Gu ?_;refine J6 ?_;obtain⟨Y,U⟩:∃Y:CH,Y={wm with w:={wm.w with given:=true,code:=code}}:=DF;have G:Y.ok:=by rw[U];exact h
 have r:Y.w={wm.w with given:=true,code:=code}:=by rw[U]
 have ewr:m.s.giveUp (j:Int) code=(0,m.s.Dh j {wm.w with given:=true,code:=code}):=by
  unfold AO.giveUp;rw[I6,AF C0,dz,f,AF (by rw[K];simpa using l)]
 refine mR [6] (Ao cb (m.Dh j Y)*R) (hE:=?_) I I ⟨m.Dh j Y,hm.Dh G,by rw[Ak.Wy,ewr,r],Cb,I⟩;rw[U' cb m R j hjl,U];refine⟨λO X=>?_⟩;refine Eq.mp ?_ X;congr 1;show _=Ab cb m.x*(HP.AA cb (0+43+j*10) [.slice wm.a.p (aa wm.w.b) wm.a.c,ptr wm.sq 0,ptr wm.cq 0,uN wm.w.high,.bool wm.w.finished,.bool wm.w.ending,.bool wm.w.ended,.bool true,uN code,.bool wm.w.ES]*(DK wm*_));ac_rfl
def df(cb t:Nat)(m:Ak)(k:Int)(R:HP)(hm:m.ok)(hi:Aq t m.s):
  Fn prog B 97 [ptr cb 0,.int .i64 k] (Ao cb m*R)
   (λv H'=>v=.tuple #[iN (m.s.AG k).1,FU (m.s.AG k).2]∧H'=Ao cb m*R):=by
 refine mI func97<|A3 P6 ?_;refine CK ?_;refine Ry ?_;refine mC (λe=>?_) (λe=>?_)
 ·refine BQ ?_;exact mR [4,5] (Ao cb m*R) (hE:=by rw[Je];exact AH) I I ⟨by unfold AO.AG;rw[I6,AJ e];rfl,I⟩
 obtain⟨L,j,rfl,W⟩:=KN (by simpa using e:FI m.x.closed k=0);have e:FI m.x.closed (j:Int)=0:=TZ;have hjl:j<aa m.ws:=by rw[Ak.Oz hi];exact W
 have C:=Ak.Uj hi W;have h:=hm.ws _ HU;have f:=m.ON j hjl;generalize hwx:m.ws.getD j AB.AD=wm at C h f;refine d7 ?_;refine J8 ?_;refine JL Qg<|mE I (zB cb (0+43+j*10) m.x.AI wm _ h C)<|KW ?_;exact mR [4,5] (Ao cb m*R) (hE:=by rw[Q0 cb m R j hjl,hwx];exact⟨λO X=>by refine Eq.mp ?_ X;congr 1;ac_rfl⟩) I I ⟨by unfold AO.AG;rw[I6,AF C0,dz,f];rfl,I⟩
def Ak.DM(m:Ak)(x:CC):Ak:={m with x:=x}
def E1(cb)(m:Ak)(R):Ao cb m*R=Ab cb m.x*(AK m.x.gq m.ga m.AR*(BU cb m.ws*(B2 cb m.rs*(EW m*R)))):=by
 unfold Ao;ac_rfl
def j'(cb:Nat)(m:Ak)(code:Nat)(R:HP)(hm:m.ok):
  Fn prog B 96 [ptr cb 0,uN code] (Ao cb m*R)
   (λv H'=>∃N:Ak,N.ok∧N.s=(m.s.close code).2∧v=FU (m.s.close code).1∧H'=Ao cb N*R):=by
 refine mI func96<|A3 P2 ?_;refine Fj ?_;refine mC (λX=>?_) (λX=>?_)
 ·have X:m.s.closed≠0:=X;refine BQ ?_;exact mR [4] (Ao cb m*R) (hE:=by rw[E1];exact AH) I I ⟨m,hm,by unfold AO.close;rw[AJ X],by unfold AO.close;rw[AJ X];rfl,I⟩
 have X:¬m.s.closed≠0:=X;refine J3 ?_;refine JL Ny<|J3 ?_;refine mC (λF=>?_) (λF=>?_)
 ·refine BQ ?_;exact mR [4] (Ao cb m*R) (hE:=by rw[E1];exact AH) I I ⟨m,hm,by unfold AO.close;rw[AF X,AJ F],by unfold AO.close;rw[AF X,AJ F];rfl,I⟩
 refine Ei ?_;refine Bl aF<|JR<|DL ?_;have ewr:m.s.close code=(0,{m.s with closed:=9,code:=code}):=by unfold AO.close;rw[AF X,AF F]
 exact mR [4] (Ao cb (m.DM {m.x with closed:=9,code:=code})*R) (hE:=by rw[E1];exact ML) I I ⟨m.DM {m.x with closed:=9,code:=code},⟨hm.g,hm.ws,hm.rs,hm.fl,hm.lo,hm.fa,hm.la,hm.fv,hm.lv⟩,Cb,Cb,I⟩
end
section
variable{B:World}
def LI{p:α→Prop}{A:α→HP}{R H G}(z:α)(J:p z)(e:H=G*(A z*R))(w)(hw:Sat B H w):Sat B ((HP.ex λz=>HP.pr (p z)*A z)*R) w:=
 KP z J I w (Sat.right (e▸hw))
def qL(lo hi)(s:Ba)(r:AS):FD lo hi s r=if hi≤r.hi then(if r.lo<lo then s.add r.lo (min r.hi (lo-1))else s).add (max r.lo hi) r.hi else if r.lo<lo then s.add r.lo (min r.hi (lo-1))else s:=rfl
def sA{l m}(hm:m≤aa l):∀r∈IJ l m,r∈l:=by
 intro r Y;obtain⟨j,W,rfl⟩:=g9.1 Y;have a:j<m:=Ak3.1 W;exact JX (P:=λr=>r∈l) (λr h=>h) _ C0
set_option maxHeartbeats 1000000 in
def Ae0(cb j AI:Nat)(wm:CH)(r:RF)(R:HP)(hst:r.f.stream=(j:Int))(W:j<4)(hok:wm.ok)(hw:Fd AI wm.w)(hf:r.f.kind=5→r.f.offset+r.f.data.size≤aa wm.w.b):
  Fn prog B 163 [ptr cb 0,.agg (AN r).toArray] (AA cb (0+43+j*10) (DA wm)*(DK wm*R))
   (λ_ H'=>∃w2:CH,w2.ok∧w2.w=wm.w.again r.f∧H'=AA cb (0+43+j*10) (DA w2)*(DK w2*R)):=by
 refine Ts func163 I I I<|A3 (H':=AA cb (0+43+j*10) (DA wm)*(AC wm.a.b wm.a.o wm.w.b wm.a.s*(AK wm.sq wm.sa wm.w.AM*(AK wm.cq wm.ca wm.w.AG*R)))) PX ?_;have e:=hw.len;refine I8 ?_;rintro _ _ ⟨K,rfl,rfl⟩;refine J3 ?_;refine mA 7 8 ?_;refine BB ?_;refine JT 5 I dQ<|Au 6 C1 I I OO ?_;rintro _ _ ⟨J,rfl,rfl⟩;refine BT ?_;refine DY ?_;refine JL o6<|J3 ?_;refine mC (λV=>?_) (λV=>?_)
 ·refine J1 ?_;refine Bq (α:=Nat×Nat) (λz=>[(3,ptr K 0),(4,ptr J 0),(5,ptr z.1 0),(6,ptr z.2 0)]) (λz=>AA z.1 0 [uN r.f.offset]*(AA z.2 0 [uN (r.f.offset+r.f.data.size)]*(AA J 0 [ptr cb (0+43+j*10)]*(AA K 0 (AN r)*(AA cb (0+43+j*10) (DA wm)*(AC wm.a.b wm.a.o wm.w.b wm.a.s*(AK wm.sq wm.sa wm.w.AM*(AK wm.cq wm.ca wm.w.AG*R)))))))) (λ_=>True) ?_ ?_
  ·refine mA 12 13 ?_;refine Bt ?_;refine JT 7 I (IF I (Ia (by have:=hf V;omega)))<|JT 8 I (LF I I (by have:=hf V;omega))<|Ag1 9 10 C1 I I I I I I I I OO OO ?_ ?_
   ·rintro _ _ ⟨b5,rfl,rfl⟩;refine BT ?_;refine Au 10 C1 I I OO ?_;rintro _ _ ⟨b6,rfl,rfl⟩;exact iM
   rintro _ _ ⟨b6,rfl,rfl⟩;refine BT ?_;refine Au 9 C1 I I OO ?_;rintro _ _ ⟨b5,rfl,rfl⟩;exact iM
  rintro⟨b5,b6⟩ _;dsimp only;refine DL ?_;refine mA 4 5 ?_;refine A4 ?_;refine Au 1 C1 I I Up ?_;rintro _ _ ⟨q34,rfl,rfl⟩;refine BT ?_;refine BQ ?_;refine mE I (Yo wm.sq _) ?_;rintro _ _ ⟨M,rfl,rfl⟩;refine J3 ?_;refine XP (α:=AS) KL (λh=>h=wm.w.AM.l.reverse) (λt=>∃L,L≤aa wm.w.AM.l∧IJ wm.w.AM.l L=t) (λ_=>True) (λu=>HP.ex λN:DO=>HP.pr (N.ok (u.foldl (FD r.f.offset (r.f.offset+r.f.data.size)) (.of 4096)))*(AK q34 N (u.foldl (FD r.f.offset (r.f.offset+r.f.data.size)) (.of 4096))*(AA J 0 [ptr cb (0+43+j*10)]*(AA b5 0 [uN r.f.offset]*(AA b6 0 [uN (r.f.offset+r.f.data.size)]*AA cb (0+43+j*10) [.slice wm.a.p (aa wm.w.b) wm.a.c,ptr q34 0,ptr wm.cq 0,uN wm.w.high,.bool wm.w.finished,.bool wm.w.ending,.bool wm.w.ended,.bool wm.w.given,uN wm.w.code,.bool wm.w.ES]))))) (λcx u=>HP.pr False) ((AK wm.sq wm.sa wm.w.AM*AA M 0 [ptr wm.sq 0])*(AC wm.a.b wm.a.o wm.w.b wm.a.s*(AK wm.cq wm.ca wm.w.AG*(AA K 0 (AN r)*R)))) ((AK wm.sq wm.sa wm.w.AM*AA M 0 [ptr wm.sq 0])*(AC wm.a.b wm.a.o wm.w.b wm.a.s*(AK wm.cq wm.ca wm.w.AG*(AA K 0 (AN r)*R)))) (λy x=>[(3,ptr K 0),(4,ptr J 0),(5,ptr b5 0),(6,ptr b6 0),(8,ptr y 0)]) (λy x=>AA y 0 [uN x.lo,uN x.hi]) I I I ?_ (Wa wm.sq M wm.sa wm.w.AM _ hok.2.1 (by have:=hw.so.len;rw[hw.sm]at this;omega)) ?_ ?_ ?_ ?_
  ·refine KP B0 (Mq 4096) ?_;show _=AK q34 B0 (.of 4096)*(AA J 0 [ptr cb (0+43+j*10)]*(AA b5 0 [uN r.f.offset]*(AA b6 0 [uN (r.f.offset+r.f.data.size)]*AA cb (0+43+j*10) [.slice wm.a.p (aa wm.w.b) wm.a.c,ptr q34 0,ptr wm.cq 0,uN wm.w.high,.bool wm.w.finished,.bool wm.w.ending,.bool wm.w.ended,.bool wm.w.given,uN wm.w.code,.bool wm.w.ES])))*((AK wm.sq wm.sa wm.w.AM*AA M 0 [ptr wm.sq 0])*(AC wm.a.b wm.a.o wm.w.b wm.a.s*(AK wm.cq wm.ca wm.w.AG*(AA K 0 (AN r)*R))));ac_rfl
  ·intro u x l R;refine J1 ?_;refine Ae Pg I ?_;rintro _ _ ⟨b8,rfl,rfl⟩;refine M' ?_;exact UA b8 Gx I
  ·intro y u x l Y A;refine A3 (H':=(HP.ex λN:DO=>HP.pr (N.ok (u.foldl (FD r.f.offset (r.f.offset+r.f.data.size)) (.of 4096)))*(AK q34 N (u.foldl (FD r.f.offset (r.f.offset+r.f.data.size)) (.of 4096))*(AA J 0 [ptr cb (0+43+j*10)]*(AA b5 0 [uN r.f.offset]*(AA b6 0 [uN (r.f.offset+r.f.data.size)]*AA cb (0+43+j*10) [.slice wm.a.p (aa wm.w.b) wm.a.c,ptr q34 0,ptr wm.cq 0,uN wm.w.high,.bool wm.w.finished,.bool wm.w.ending,.bool wm.w.ended,.bool wm.w.given,uN wm.w.code,.bool wm.w.ES])))))*(AA y 0 [uN x.lo,uN x.hi]*Y)) C4<|OL ?_;rintro zq hzq;obtain⟨L,S,X⟩:=A;have F:=sA S;rw[X]at F;have m:x∈wm.w.AM.l:=F x C3;have Q:=hw.so.hi x m;obtain⟨cd1,cd2,cd3⟩:=UC (lo:=r.f.offset) (hi:=(r.f.offset+r.f.data.size)) hw.len u (.of 4096) .of I I (λs hs=>hw.so.hi s (F s PB));refine A3 (H':=AK q34 zq (u.foldl (FD r.f.offset (r.f.offset+r.f.data.size)) (.of 4096))*((AA J 0 [ptr cb (0+43+j*10)]*(AA b5 0 [uN r.f.offset]*(AA b6 0 [uN (r.f.offset+r.f.data.size)]*AA cb (0+43+j*10) [.slice wm.a.p (aa wm.w.b) wm.a.c,ptr q34 0,ptr wm.cq 0,uN wm.w.high,.bool wm.w.finished,.bool wm.w.ending,.bool wm.w.ended,.bool wm.w.given,uN wm.w.code,.bool wm.w.ES])))*(AA y 0 [uN x.lo,uN x.hi]*Y))) C4<|Ei ?_;refine mC (λh43=>?_) (λh43=>?_)
   ·refine mA 11 12 ?_;refine CY ?_;refine JT 10 I QK<|Au 11 C1 I I (Bd I (Mr q34 x.lo _ (aa wm.w.b) zq _ _ hzq cd1 C0 C0 (by rw[cd3];omega) (by rw[cd3];omega))) ?_;rintro _ _ ⟨a55,hs55,rfl⟩;obtain⟨e1,e2,e3,_⟩:=Mj (lo:=x.lo) (hi:=min x.hi (r.f.offset-1)) cd1 cd2 cd3 hw.len C0;refine FF ?_;refine A5 ?_;exact yK
   refine J3 ?_;exact yK
  ·intro d h D;subst D;refine UD ?_;rintro zq hzq;obtain⟨cd1,cd2,cd3⟩:=UC (lo:=r.f.offset) (hi:=(r.f.offset+r.f.data.size)) hw.len wm.w.AM.l.reverse (.of 4096) .of I I (λs hs=>hw.so.hi s (by simpa using hs));refine GE (H':=(AA J 0 [ptr cb (0+43+j*10)]*(AA b5 0 [uN r.f.offset]*(AA b6 0 [uN (r.f.offset+r.f.data.size)]*AA cb (0+43+j*10) [.slice wm.a.p (aa wm.w.b) wm.a.c,ptr q34 0,ptr wm.cq 0,uN wm.w.high,.bool wm.w.finished,.bool wm.w.ending,.bool wm.w.ended,.bool wm.w.given,uN wm.w.code,.bool wm.w.ES])))*(AK q34 zq (wm.w.AM.l.reverse.foldl (FD r.f.offset (r.f.offset+r.f.data.size)) (.of 4096))*(AK wm.cq wm.ca wm.w.AG*(AC wm.a.b wm.a.o wm.w.b wm.a.s*(AK wm.sq wm.sa wm.w.AM*(AA M 0 [ptr wm.sq 0]*(HP.obj d (.deferred (some []))*(AA K 0 (AN r)*R)))))))) C4<|J9 ?_;refine mE I (Yo wm.cq _) ?_;rintro _ _ ⟨C,rfl,rfl⟩;refine J3 ?_;refine XP (α:=AS) KL (λh=>h=wm.w.AG.l.reverse) (λt=>∃L,L≤aa wm.w.AG.l∧IJ wm.w.AG.l L=t) (λ_=>True) (λu=>HP.ex λN:DO=>HP.pr (N.ok (u.foldl (λs r=>s.add r.lo r.hi) (wm.w.AM.l.reverse.foldl (FD r.f.offset (r.f.offset+r.f.data.size)) (.of 4096))))*(AK q34 N (u.foldl (λs r=>s.add r.lo r.hi) (wm.w.AM.l.reverse.foldl (FD r.f.offset (r.f.offset+r.f.data.size)) (.of 4096)))*(AA J 0 [ptr cb (0+43+j*10)]*(AA b5 0 [uN r.f.offset]*(AA b6 0 [uN (r.f.offset+r.f.data.size)]*AA cb (0+43+j*10) [.slice wm.a.p (aa wm.w.b) wm.a.c,ptr q34 0,ptr wm.cq 0,uN wm.w.high,.bool wm.w.finished,.bool wm.w.ending,.bool wm.w.ended,.bool wm.w.given,uN wm.w.code,.bool wm.w.ES]))))) (λcx u=>HP.pr False) ((AK wm.cq wm.ca wm.w.AG*AA C 0 [ptr wm.cq 0])*(AC wm.a.b wm.a.o wm.w.b wm.a.s*(AK wm.sq wm.sa wm.w.AM*(AA M 0 [ptr wm.sq 0]*(HP.obj d (.deferred (some []))*(AA K 0 (AN r)*R)))))) ((AK wm.cq wm.ca wm.w.AG*AA C 0 [ptr wm.cq 0])*(AC wm.a.b wm.a.o wm.w.b wm.a.s*(AK wm.sq wm.sa wm.w.AM*(AA M 0 [ptr wm.sq 0]*(HP.obj d (.deferred (some []))*(AA K 0 (AN r)*R)))))) (λy x=>[(3,ptr K 0),(4,ptr J 0),(9,ptr y 0)]) (λy x=>AA y 0 [uN x.lo,uN x.hi]) I I I ?_ (Wa wm.cq C wm.ca wm.w.AG _ hok.2.2 (by have:=hw.co.len;rw[hw.cm]at this;omega)) ?_ ?_ ?_ ?_
   ·refine KP zq hzq ?_;show _=AK q34 zq (wm.w.AM.l.reverse.foldl (FD r.f.offset (r.f.offset+r.f.data.size)) (.of 4096))*(AA J 0 [ptr cb (0+43+j*10)]*(AA b5 0 [uN r.f.offset]*(AA b6 0 [uN (r.f.offset+r.f.data.size)]*AA cb (0+43+j*10) [.slice wm.a.p (aa wm.w.b) wm.a.c,ptr q34 0,ptr wm.cq 0,uN wm.w.high,.bool wm.w.finished,.bool wm.w.ending,.bool wm.w.ended,.bool wm.w.given,uN wm.w.code,.bool wm.w.ES])))*((AK wm.cq wm.ca wm.w.AG*AA C 0 [ptr wm.cq 0])*(AC wm.a.b wm.a.o wm.w.b wm.a.s*(AK wm.sq wm.sa wm.w.AM*(AA M 0 [ptr wm.sq 0]*(HP.obj d (.deferred (some []))*(AA K 0 (AN r)*R))))));ac_rfl
   ·intro u x l R;refine J1 ?_;refine Ae Pg I ?_;rintro _ _ ⟨b9,rfl,rfl⟩;refine M' ?_;exact UA b9 DW I
   ·intro y u x l Y A;refine A3 (H':=(HP.ex λN:DO=>HP.pr (N.ok (u.foldl (λs r=>s.add r.lo r.hi) (wm.w.AM.l.reverse.foldl (FD r.f.offset (r.f.offset+r.f.data.size)) (.of 4096))))*(AK q34 N (u.foldl (λs r=>s.add r.lo r.hi) (wm.w.AM.l.reverse.foldl (FD r.f.offset (r.f.offset+r.f.data.size)) (.of 4096)))*(AA J 0 [ptr cb (0+43+j*10)]*(AA b5 0 [uN r.f.offset]*(AA b6 0 [uN (r.f.offset+r.f.data.size)]*AA cb (0+43+j*10) [.slice wm.a.p (aa wm.w.b) wm.a.c,ptr q34 0,ptr wm.cq 0,uN wm.w.high,.bool wm.w.finished,.bool wm.w.ending,.bool wm.w.ended,.bool wm.w.given,uN wm.w.code,.bool wm.w.ES])))))*(AA y 0 [uN x.lo,uN x.hi]*Y)) C4<|OL ?_;rintro zq hzq;obtain⟨L,S,X⟩:=A;have F:=sA S;rw[X]at F;have m:x∈wm.w.AG.l:=F x C3;have Q:=hw.co.hi x m;obtain⟨ad1,ad2,T⟩:=Xq hw.len u (wm.w.AM.l.reverse.foldl (FD r.f.offset (r.f.offset+r.f.data.size)) (.of 4096)) cd1 cd2 cd3 (λs hs=>hw.co.hi s (F s PB));refine A3 (H':=AK q34 zq (u.foldl (λs r=>s.add r.lo r.hi) (wm.w.AM.l.reverse.foldl (FD r.f.offset (r.f.offset+r.f.data.size)) (.of 4096)))*((AA J 0 [ptr cb (0+43+j*10)]*(AA b5 0 [uN r.f.offset]*(AA b6 0 [uN (r.f.offset+r.f.data.size)]*AA cb (0+43+j*10) [.slice wm.a.p (aa wm.w.b) wm.a.c,ptr q34 0,ptr wm.cq 0,uN wm.w.high,.bool wm.w.finished,.bool wm.w.ending,.bool wm.w.ended,.bool wm.w.given,uN wm.w.code,.bool wm.w.ES])))*(AA y 0 [uN x.lo,uN x.hi]*Y))) C4<|J1 ?_;refine mA 8 9 ?_;refine Be ?_;refine Au 8 C1 I I (Bd I (Mr q34 x.lo x.hi (aa wm.w.b) zq _ _ hzq ad1 C0 C0 (by rw[T];omega) (by rw[T];omega))) ?_;rintro _ _ ⟨a85,hs85,rfl⟩;refine FF ?_;refine BE ?_;exact LW trivial (LI (G:=AA y 0 [uN x.lo,uN x.hi]) (a85:DO) (by rw[tg,n',Akd];exact hs85) (by rw[tg,n',Akd];ac_rfl))
   ·intro d2 h D;subst D;refine UD ?_;rintro zq hzq;refine GE (H':=(AA J 0 [ptr cb (0+43+j*10)]*(AA b5 0 [uN r.f.offset]*(AA b6 0 [uN (r.f.offset+r.f.data.size)]*AA cb (0+43+j*10) [.slice wm.a.p (aa wm.w.b) wm.a.c,ptr q34 0,ptr wm.cq 0,uN wm.w.high,.bool wm.w.finished,.bool wm.w.ending,.bool wm.w.ended,.bool wm.w.given,uN wm.w.code,.bool wm.w.ES])))*(AK q34 zq (wm.w.AG.l.reverse.foldl (λs r=>s.add r.lo r.hi) (wm.w.AM.l.reverse.foldl (FD r.f.offset (r.f.offset+r.f.data.size)) (.of 4096)))*(HP.obj d2 (.deferred (some []))*(AK wm.cq wm.ca wm.w.AG*(AA C 0 [ptr wm.cq 0]*(AC wm.a.b wm.a.o wm.w.b wm.a.s*(AK wm.sq wm.sa wm.w.AM*(AA M 0 [ptr wm.sq 0]*(HP.obj d (.deferred (some []))*(AA K 0 (AN r)*R)))))))))) C4 ?_;have eag:wm.w.again r.f={wm.w with AM:=wm.w.AG.l.reverse.foldl (λs r=>s.add r.lo r.hi) (wm.w.AM.l.reverse.foldl (FD r.f.offset (r.f.offset+r.f.data.size)) (.of 4096)),ending:=wm.w.ending&& !r.f.fin}:=by unfold At.again;rw[AJ V]
    refine J8 ?_;refine mc (λh87=>?_) (λh87=>?_)
    ·refine J7 ?_;exact GE (H':=HP.obj d2 (.deferred (some []))*(HP.obj d (.deferred (some []))*(AA cb (0+43+j*10) [.slice wm.a.p (aa wm.w.b) wm.a.c,ptr q34 0,ptr wm.cq 0,uN wm.w.high,.bool wm.w.finished,.bool false,.bool wm.w.ended,.bool wm.w.given,uN wm.w.code,.bool wm.w.ES]*(AC wm.a.b wm.a.o wm.w.b wm.a.s*(AK q34 zq (wm.w.AG.l.reverse.foldl (λs r=>s.add r.lo r.hi) (wm.w.AM.l.reverse.foldl (FD r.f.offset (r.f.offset+r.f.data.size)) (.of 4096)))*(AK wm.cq wm.ca wm.w.AG*(R*(AA J 0 [ptr cb (0+43+j*10)]*(AA b5 0 [uN r.f.offset]*(AA b6 0 [uN (r.f.offset+r.f.data.size)]*(AA C 0 [ptr wm.cq 0]*(AK wm.sq wm.sa wm.w.AM*(AA M 0 [ptr wm.sq 0]*AA K 0 (AN r)))))))))))))) C4 kO
    refine J2 ?_;exact GE (H':=HP.obj d2 (.deferred (some []))*(HP.obj d (.deferred (some []))*(AA cb (0+43+j*10) [.slice wm.a.p (aa wm.w.b) wm.a.c,ptr q34 0,ptr wm.cq 0,uN wm.w.high,.bool wm.w.finished,.bool wm.w.ending,.bool wm.w.ended,.bool wm.w.given,uN wm.w.code,.bool wm.w.ES]*(AC wm.a.b wm.a.o wm.w.b wm.a.s*(AK q34 zq (wm.w.AG.l.reverse.foldl (λs r=>s.add r.lo r.hi) (wm.w.AM.l.reverse.foldl (FD r.f.offset (r.f.offset+r.f.data.size)) (.of 4096)))*(AK wm.cq wm.ca wm.w.AG*(R*(AA J 0 [ptr cb (0+43+j*10)]*(AA b5 0 [uN r.f.offset]*(AA b6 0 [uN (r.f.offset+r.f.data.size)]*(AA C 0 [ptr wm.cq 0]*(AK wm.sq wm.sa wm.w.AM*(AA M 0 [ptr wm.sq 0]*AA K 0 (AN r)))))))))))))) C4 kO
   rintro d2 u id _ P O _ _ h3;exact V6
   -- no other way
  rintro d u id _ P O _ _ h3;exact V6
  -- no other way
 refine S0 ?_;refine mC (λU=>?_) (λU=>?_)
 ·refine J7 ?_;obtain⟨w2,hw2⟩:∃w2:CH,w2={wm with w:=wm.w.again r.f}:=DF;have eag:wm.w.again r.f={wm.w with ES:=false}:=by unfold At.again;rw[AF V,AJ U]
  have hok2:w2.ok:=by rw[hw2];unfold CH.ok;dsimp only;rw[eag];exact hok
  refine GE (H':=AA cb (0+43+j*10) (DA {wm with w:={wm.w with ES:=false}})*(AC wm.a.b wm.a.o wm.w.b wm.a.s*(AK wm.sq wm.sa wm.w.AM*(AK wm.cq wm.ca wm.w.AG*(R*(AA J 0 [ptr cb (0+43+j*10)]*AA K 0 (AN r))))))) (by show _=AA cb (0+43+j*10) [.slice wm.a.p (aa wm.w.b) wm.a.c,ptr wm.sq 0,ptr wm.cq 0,uN wm.w.high,.bool wm.w.finished,.bool wm.w.ending,.bool wm.w.ended,.bool wm.w.given,uN wm.w.code,.bool false]*_;ac_rfl)<|f6 ?_;exact iV
 refine J2 ?_;obtain⟨w2,hw2⟩:∃w2:CH,w2={wm with w:=wm.w.again r.f}:=DF;have eag:wm.w.again r.f=wm.w:=by unfold At.again;rw[AF V,AF U]
 have hok2:w2.ok:=by rw[hw2];unfold CH.ok;dsimp only;rw[eag];exact hok
 refine GE (H':=AA cb (0+43+j*10) (DA {wm with w:=wm.w})*(AC wm.a.b wm.a.o wm.w.b wm.a.s*(AK wm.sq wm.sa wm.w.AM*(AK wm.cq wm.ca wm.w.AG*(R*(AA J 0 [ptr cb (0+43+j*10)]*AA K 0 (AN r))))))) (by show _=AA cb (0+43+j*10) [.slice wm.a.p (aa wm.w.b) wm.a.c,ptr wm.sq 0,ptr wm.cq 0,uN wm.w.high,.bool wm.w.finished,.bool wm.w.ending,.bool wm.w.ended,.bool wm.w.given,uN wm.w.code,.bool wm.w.ES]*_;ac_rfl)<|f6 ?_;exact iV
end
end Go.Proofs.YtgfdlpcdjklcoaaGreatDoor
