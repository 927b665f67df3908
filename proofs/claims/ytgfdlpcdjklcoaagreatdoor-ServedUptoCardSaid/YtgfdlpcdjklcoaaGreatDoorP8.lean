/- Steps of this proof; no condition. -/
import Derived.Test.YtgfdlpcdjklcoaaGreatDoorP7
namespace Go.Proofs.YtgfdlpcdjklcoaaGreatDoor
open Go Go.RowKit Go.Proofs.Tryz HP
open _root_.List renaming length→aa
set_option linter.all false
variable{xs:List UInt8}{fn:Func}{f f1 f2 f3:FuncId}{us1 us2 us3 us:List Value}{Post:Value→HP→Prop}{u':FrameMode}{p:Option Addr}{ats:Array TypeId}{rs:List ResultVar}{PD:HP→Prop}{size:Nat}
set_option maxRecDepth 20000
section
variable{B:World}
def DI.of{α:Type}[AB α]{R}{xs:List α}{b o c s}(h:Sl p b o (aa xs) c)(h2:aa xs*AB.sz α+aa s=c*AB.sz α):DI R xs (.slice p (aa xs) c) (AC b o xs s*R):=⟨p,b,o,c,s,I,h,h2,I⟩
def DI.nil(R):DI R ([]:List UInt8) (.slice none 0 0) R:=⟨none,0,0,0,[],I,E7,I,Ci⟩
def Aac(xs:List UInt8)(b o c:Nat)(H:HP)(C:Sl none b o (aa xs) c)(hr:AZ B H b o xs)(F:aa xs<100000000000):
  Fn prog B 148 [.slice none (aa xs) c] H (λv S=>DI H xs v S):=by
 refine mI func148 ?_;refine J9 ?_;refine JL Pr<|J2 ?_;refine mc (λW=>?_) (λW=>?_);rotate_left
 ·cases W
 refine J7 ?_;have F:xs=[]:=hU.1 (by have O:=C.1;have U:=C.2;obtain O|O:=O;omega;cases O);exact mr [2] I I (by rw[F];exact DI.nil H)
def qm(a:Addr)(xs:List UInt8)(b o c:Nat)(H:HP)(C:Sl (some a) b o (aa xs) c)(hr:AZ B H b o xs)(t:aa xs<100000000000):
  Fn prog B 148 [.slice (some a) (aa xs) c] H (λv m=>DI H xs v m):=by
 refine mI func148 ?_;refine J9 ?_;refine M5 ?_;refine mc (λW=>?_) (λW=>?_)
 ·cases W
 refine J4 ?_;refine Ae (bw) I ?_;rintro _ _ ⟨F,rfl,rfl⟩;refine J1 ?_;refine Ae (CA (α:=UInt8) (xs:=[]) (ys:=xs) (b:=F) (o:=0) (c:=0) (s:=[]) (bb:=b) (oo:=o) I Bz I I C AH I (by simp only[ss];omega) C0) I ?_;rintro _ _ ⟨e,q,l,i,j,rfl,S,h,rfl⟩;refine J4 ?_;exact mr [2] I I ⟨e,q,l,i,j,I,S,h,I⟩
def uz(xs:List UInt8)(p b o c H)(C:Sl p b o (aa xs) c)(hr:AZ B H b o xs)(F:aa xs<100000000000):
  Fn prog B 148 [.slice p (aa xs) c] H (λv S=>DI H xs v S):=by
 cases p with
 |none=>exact Aac xs b o c H C hr F
 |some a=>exact qm a xs b o c H C hr F
set_option maxHeartbeats 4000000 in
def ux(cb t)(m:Ak)(k AQ:Int)(R)(hm:m.ok)(hi:Aq t m.s)(ht:t<1000000)(hmo:AQ<9223372036854775808):
  Fn prog B 95 [ptr cb 0,.int .i64 k,.int .i64 AQ] (Ao cb m*R)
   (λv H'=>∃N:Ak,N.ok∧∃sv,N.s=(m.s.read k AQ).2∧v=.tuple #[sv,iN (m.s.read k AQ).1.2.1,uN (m.s.read k AQ).1.2.2.1,FU (m.s.read k AQ).1.2.2.2]∧
    (((m.s.read k AQ).1.1=[]∧sv=.slice none 0 0∧H'=Ao cb N*R)∨((m.s.read k AQ).1.1≠ []∧DI (Ao cb N*R) (m.s.read k AQ).1.1 sv H'))):=by
 refine mI func95 ?_;have U:m.x.AI≤1024:=hi.w2;refine A3 P6<|FC ?_;refine Ry ?_;refine mC (λh20=>?_) (λh20=>?_)
 ·refine CK ?_;refine mR [6,7,8,9] (Ao cb m*R) (hE:=by rw[Je];exact AH) I I ⟨m,hm,.slice none 0 0,?_,?_,.inl ⟨?_,I,I⟩⟩
  ·unfold AO.read;rw[AJ Zb]
  ·unfold AO.read;rw[AJ Zb];rfl
  unfold AO.read;rw[AJ Zb]
 have h20:FI m.x.closed k=0:=by simpa using h20
 obtain⟨L,j,rfl,W⟩:=KN h20;have hjl:j<aa m.rs:=by rw[Ak.R5 hi];exact W
 have J:=Ak.Vx hi W;have M:=hm.rs _ HU;have G:=m.TR j hjl;refine A3 (H':=HP.AA cb (0+83+j*9) (Er (m.rs.getD j AB.AD))*(Dq (m.rs.getD j AB.AD)*(Ab cb m.x*(Fx cb m.rs j*(GV m cb*R))))) (by rw[←Je,OK cb m R j hjl];ac_rfl) ?_;generalize hrm:m.rs.getD j AB.AD=rm at*;refine J8 ?_;refine JL Qg<|J5 ?_;refine Bq (α:=Unit) (λ_=>[(37,.bool (decide (rm.r.given=true∧rm.r.state=0))),(11,ptr cb (0+83+j*9)),(2,.int .i64 AQ)]) (λ_=>HP.AA cb (0+83+j*9) (Er rm)*(Dq rm*(Ab cb m.x*(Fx cb m.rs j*(GV m cb*R))))) (λ_=>True) ?_ ?_
 ·refine J6 ?_;refine Do 31 I (λK=>?_) (λK=>?_)
  ·have hgv:rm.r.given=true:=K;refine DY ?_;exact pW
  have hgv:rm.r.given=false:=K;refine Bt ?_;exact pW
 rintro _ _;refine J1 ?_;refine Bq (α:=FA) (λ_=>[(11,ptr cb (0+83+j*9)),(2,.int .i64 AQ)]) (λz=>HP.AA cb (0+83+j*9) (Er z)*(Dq z*(Ab cb m.x*(Fx cb m.rs j*(GV m cb*R))))) (λz=>z.ok∧z.r=m.s.HV j) ?_ ?_
 ·refine mC (λh37=>?_) (λh37=>?_)
  ·refine J5 ?_;refine Bl kN<|JJ ?_;refine Bg (HP.AA cb (0+83+j*9) (Er ⟨{rm.r with state:=2,b:=[]},⟨none,0,0,0,[]⟩,rm.cq,rm.ca⟩)*(Dq ⟨{rm.r with state:=2,b:=[]},⟨none,0,0,0,[]⟩,rm.cq,rm.ca⟩*(Ab cb m.x*(Fx cb m.rs j*(GV m cb*R))))) (hE:=⟨λO X=>Sat.right (A:=AC rm.a.b rm.a.o rm.r.b rm.a.s) (Eq.mp (by
    congr 1;unfold Dq;show _=AC rm.a.b rm.a.o rm.r.b rm.a.s*(HP.AA cb (0+83+j*9) [.slice none 0 0,ptr rm.cq 0,uN rm.r.high,uN rm.r.end_,.bool rm.r.ended,.bool rm.r.given,uN rm.r.code,uN rm.r.read,iN 2]*(AC 0 0 ([]:List UInt8) []*AK rm.cq rm.ca rm.r.AG*(Ab cb m.x*(Fx cb m.rs j*(GV m cb*R)))));rw[GY,HP.BS];ac_rfl) X)⟩) ?_
   exact An (⟨{rm.r with state:=2,b:=[]},⟨none,0,0,0,[]⟩,rm.cq,rm.ca⟩:FA) ⟨⟨⟨E7,I⟩,M.2⟩,by unfold AO.HV;rw[G,AJ h37]⟩ H5 I
  refine J1 ?_;exact An rm ⟨M,by unfold AO.HV;rw[G,AF h37]⟩ H5 I
 rintro rm1 ⟨w,hrm1⟩;refine J2 ?_;have u:Hc m.x.AI t rm1.r:=by
  rw[hrm1];unfold AO.HV;rw[G];split
  ·rename_i hc;exact⟨J.co,J.cf,J.cm,J.rh,J.hw,J.pre,(λh=>by rw[hc.1]at h;cases h),J.rt,J.en,J.code,er _,λ_=>hc.1⟩
  exact J
 have hgv0:rm1.r.state=0→rm1.r.given=false:=by
  intro h0;rw[hrm1]at h0⊢;unfold AO.HV at h0⊢;rw[G]at h0⊢;split at h0
  ·cases h0
  rename_i hc;rw[AF hc];cases S:rm.r.given
  ·rfl
  exact absurd ⟨S,h0⟩ hc
 refine FM ?_;refine mC (λh48=>?_) (λh48=>?_)
 ·have hlen1:=u.len (hgv0 h48);have hrh1:=u.rh;have hhw1:=u.hw;have hrt1:=u.rt;have hgf:=K0 u.co.inc u.rh u.co.hi;have hgs:=(Ic rm1.r.AG.l rm1.r.read rm1.r.high u.co.inc u.rh).1;have L:=Vg u.co.inc u.pre u.co.hi (by omega:rm1.r.high≤rm1.r.read+1024);have hNle:(min ((AW rm1.r.read rm1.r.high rm1.r.AG.l).1-rm1.r.read) AQ.toNat)≤aa rm1.r.b:=C0;refine A3 (H':=HP.AA cb (0+83+j*9) (Er rm1)*(AC rm1.a.b rm1.a.o rm1.r.b rm1.a.s*(AK rm1.cq rm1.ca rm1.r.AG*(Ab cb m.x*(Fx cb m.rs j*(GV m cb*R)))))) (by unfold Dq;ac_rfl)<|J1 ?_;refine mA 18 18 ?_;refine DY ?_;refine Au 12 C1 I I (Bd I (SN rm1.cq rm1.r.read rm1.r.high rm1.r.high rm1.ca rm1.r.AG _ w.2 u.co C0 C0))<|Hh ?_;refine E6 ?_;refine JL (Dx (v':=iN AQ.toNat) (vU (i:=AQ) (j:=0) I I) (by congr 1;split<;>omega))<|A4 ?_;refine JL QK<|Ei ?_;refine JL (Rb (k':=aa (rm1.r.b.take (min ((AW rm1.r.read rm1.r.high rm1.r.AG.l).1-rm1.r.read) AQ.toNat))) I I (by have V:aa rm1.r.b≤rm1.a.c:=w.1.1.2;omega) Qt)<|mE I (uz (rm1.r.b.take (min ((AW rm1.r.read rm1.r.high rm1.r.AG.l).1-rm1.r.read) AQ.toNat)) rm1.a.p rm1.a.b rm1.a.o rm1.a.c _ ⟨w.1.1.1,by have V:aa rm1.r.b≤rm1.a.c:=w.1.1.2;rw[hZ];omega⟩ AH Qt) ?_;rintro _ _ ⟨p81,b81,o81,c81,s81,rfl,hs81,hc81,rfl⟩;refine DY ?_;refine BH (H':=AC rm1.a.b rm1.a.o rm1.r.b rm1.a.s*(AC b81 o81 (rm1.r.b.take (min ((AW rm1.r.read rm1.r.high rm1.r.AG.l).1-rm1.r.read) AQ.toNat)) s81*(HP.AA cb (0+83+j*9) (Er rm1)*(AK rm1.cq rm1.ca rm1.r.AG*(Ab cb m.x*(Fx cb m.rs j*(GV m cb*R))))))) C4<|mE I (xz rm1.r.b 0 (min ((AW rm1.r.read rm1.r.high rm1.r.AG.l).1-rm1.r.read) AQ.toNat) rm1.a.p rm1.a.b rm1.a.o rm1.a.c rm1.a.s _ w.1.1 w.1.2 Du hNle C0) ?_;rintro _ _ ⟨p89,b89,o89,c89,s89,rfl,hs89,hc89,rfl⟩;rw[tS,l0]at hs89 hc89⊢;refine IU ?_;refine Bq (α:=Unit) (λ_=>[(114,.bool (decide (rm1.r.ended=true∧rm1.r.read+(min ((AW rm1.r.read rm1.r.high rm1.r.AG.l).1-rm1.r.read) AQ.toNat)=rm1.r.end_))),(11,ptr cb (0+83+j*9)),(12,.slice p81 (aa (rm1.r.b.take (min ((AW rm1.r.read rm1.r.high rm1.r.AG.l).1-rm1.r.read) AQ.toNat))) c81)]) (λ_=>HP.AA cb (0+83+j*9) [.slice p89 (aa (rm1.r.b.drop (min ((AW rm1.r.read rm1.r.high rm1.r.AG.l).1-rm1.r.read) AQ.toNat))) c89,ptr rm1.cq 0,uN rm1.r.high,uN rm1.r.end_,.bool rm1.r.ended,.bool rm1.r.given,uN rm1.r.code,uN (rm1.r.read+(min ((AW rm1.r.read rm1.r.high rm1.r.AG.l).1-rm1.r.read) AQ.toNat)),iN rm1.r.state]*(AC b81 o81 (rm1.r.b.take (min ((AW rm1.r.read rm1.r.high rm1.r.AG.l).1-rm1.r.read) AQ.toNat)) s81*(AC b89 o89 (rm1.r.b.drop (min ((AW rm1.r.read rm1.r.high rm1.r.AG.l).1-rm1.r.read) AQ.toNat)) s89*(AK rm1.cq rm1.ca rm1.r.AG*(Ab cb m.x*(Fx cb m.rs j*(GV m cb*R))))))) (λ_=>True) ?_ ?_
  ·refine mA 15 15 ?_;refine BB ?_;refine Ha 104 I (λe=>?_) (λe=>?_)
   ·have hed:rm1.r.ended=true:=e;exact xL
   have hed:rm1.r.ended=false:=e;exact xL
  rintro _ _;refine J1 ?_;refine Bq (α:=Unit) (λ_=>[(11,ptr cb (0+83+j*9)),(12,.slice p81 (aa (rm1.r.b.take (min ((AW rm1.r.read rm1.r.high rm1.r.AG.l).1-rm1.r.read) AQ.toNat))) c81)]) (λ_=>AC b81 o81 (rm1.r.b.take (min ((AW rm1.r.read rm1.r.high rm1.r.AG.l).1-rm1.r.read) AQ.toNat)) s81*(HP.AA cb (0+83+j*9) [.slice p89 (aa (rm1.r.b.drop (min ((AW rm1.r.read rm1.r.high rm1.r.AG.l).1-rm1.r.read) AQ.toNat))) c89,ptr rm1.cq 0,uN rm1.r.high,uN rm1.r.end_,.bool rm1.r.ended,.bool rm1.r.given,uN rm1.r.code,uN (rm1.r.read+(min ((AW rm1.r.read rm1.r.high rm1.r.AG.l).1-rm1.r.read) AQ.toNat)),iN (if rm1.r.ended=true∧rm1.r.read+(min ((AW rm1.r.read rm1.r.high rm1.r.AG.l).1-rm1.r.read) AQ.toNat)=rm1.r.end_ then 1 else rm1.r.state)]*(AC b89 o89 (rm1.r.b.drop (min ((AW rm1.r.read rm1.r.high rm1.r.AG.l).1-rm1.r.read) AQ.toNat)) s89*(AK rm1.cq rm1.ca rm1.r.AG*(Ab cb m.x*(Fx cb m.rs j*(GV m cb*R))))))) (λ_=>True) ?_ ?_
  ·refine mC (λh114=>?_) (λh114=>?_)
   ·refine J4 ?_;refine Bl Wl<|GZ ?_;exact An () trivial H5 (by rw[AJ h114];ac_rfl)
   refine J1 ?_;exact An () trivial H5 (by rw[AF h114];ac_rfl)
  rintro _ _;refine BQ ?_;refine mC (λY=>?_) (λY=>?_)
  ·refine DL ?_;refine JL Vr<|J2 ?_;refine mC (λF=>?_) (λF=>?_)
   ·exfalso;split at F<;>omega
   refine J3 ?_;refine mA 9 9 ?_;refine DY ?_;have ewr:m.s.read (j:Int) AQ=((rm1.r.b.take (min ((AW rm1.r.read rm1.r.high rm1.r.AG.l).1-rm1.r.read) AQ.toNat),(if rm1.r.ended=true∧rm1.r.read+(min ((AW rm1.r.read rm1.r.high rm1.r.AG.l).1-rm1.r.read) AQ.toNat)=rm1.r.end_ then 1 else rm1.r.state),0,0),m.s.CE j {rm1.r with b:=rm1.r.b.drop (min ((AW rm1.r.read rm1.r.high rm1.r.AG.l).1-rm1.r.read) AQ.toNat),read:=rm1.r.read+(min ((AW rm1.r.read rm1.r.high rm1.r.AG.l).1-rm1.r.read) AQ.toNat),state:=(if rm1.r.ended=true∧rm1.r.read+(min ((AW rm1.r.read rm1.r.high rm1.r.AG.l).1-rm1.r.read) AQ.toNat)=rm1.r.end_ then 1 else rm1.r.state)}):=by
    exact n4
   obtain⟨C,hrd2⟩:∃C:FA,C=⟨{rm1.r with b:=rm1.r.b.drop (min ((AW rm1.r.read rm1.r.high rm1.r.AG.l).1-rm1.r.read) AQ.toNat),read:=rm1.r.read+(min ((AW rm1.r.read rm1.r.high rm1.r.AG.l).1-rm1.r.read) AQ.toNat),state:=(if rm1.r.ended=true∧rm1.r.read+(min ((AW rm1.r.read rm1.r.high rm1.r.AG.l).1-rm1.r.read) AQ.toNat)=rm1.r.end_ then 1 else rm1.r.state)},⟨p89,b89,o89,c89,s89⟩,rm1.cq,rm1.ca⟩:=DF;have hrk2:C.ok:=by rw[hrd2];exact⟨⟨hs89,hc89⟩,w.2⟩
   have hnil:rm1.r.b.take (min ((AW rm1.r.read rm1.r.high rm1.r.AG.l).1-rm1.r.read) AQ.toNat)=[]:=hU.1 Y;exact mR [6,7,8,9] (Ao cb (m.CE j C)*R) (hE:=⟨λO X=>Sat.right (A:=AC b81 o81 (rm1.r.b.take (min ((AW rm1.r.read rm1.r.high rm1.r.AG.l).1-rm1.r.read) AQ.toNat)) s81) (Eq.mp (by
    congr 1;rw[R3 cb m R j hjl,hrd2];unfold Dq;refine jT ?_;ac_rfl) X)⟩) I I ⟨m.CE j C,hm.CE hrk2,.slice none 0 0,Xg,Cb,.inl ⟨by rw[ewr];exact hnil,I,I⟩⟩
  refine J9 ?_;refine JL Vr<|J2 ?_;refine mC (λF=>?_) (λF=>?_)
  ·exfalso;split at F<;>omega
  refine J3 ?_;refine mA 9 9 ?_;refine DY ?_;have ewr:m.s.read (j:Int) AQ=((rm1.r.b.take (min ((AW rm1.r.read rm1.r.high rm1.r.AG.l).1-rm1.r.read) AQ.toNat),(if rm1.r.ended=true∧rm1.r.read+(min ((AW rm1.r.read rm1.r.high rm1.r.AG.l).1-rm1.r.read) AQ.toNat)=rm1.r.end_ then 1 else rm1.r.state),0,0),m.s.CE j {rm1.r with b:=rm1.r.b.drop (min ((AW rm1.r.read rm1.r.high rm1.r.AG.l).1-rm1.r.read) AQ.toNat),read:=rm1.r.read+(min ((AW rm1.r.read rm1.r.high rm1.r.AG.l).1-rm1.r.read) AQ.toNat),state:=(if rm1.r.ended=true∧rm1.r.read+(min ((AW rm1.r.read rm1.r.high rm1.r.AG.l).1-rm1.r.read) AQ.toNat)=rm1.r.end_ then 1 else rm1.r.state)}):=by
   exact n4
  obtain⟨C,hrd2⟩:∃C:FA,C=⟨{rm1.r with b:=rm1.r.b.drop (min ((AW rm1.r.read rm1.r.high rm1.r.AG.l).1-rm1.r.read) AQ.toNat),read:=rm1.r.read+(min ((AW rm1.r.read rm1.r.high rm1.r.AG.l).1-rm1.r.read) AQ.toNat),state:=(if rm1.r.ended=true∧rm1.r.read+(min ((AW rm1.r.read rm1.r.high rm1.r.AG.l).1-rm1.r.read) AQ.toNat)=rm1.r.end_ then 1 else rm1.r.state)},⟨p89,b89,o89,c89,s89⟩,rm1.cq,rm1.ca⟩:=DF;have hrk2:C.ok:=by rw[hrd2];exact⟨⟨hs89,hc89⟩,w.2⟩
  exact mR [6,7,8,9] (AC b81 o81 (rm1.r.b.take (min ((AW rm1.r.read rm1.r.high rm1.r.AG.l).1-rm1.r.read) AQ.toNat)) s81*(Ao cb (m.CE j C)*R)) (hE:=⟨λO X=>(Eq.mp (by
   congr 1;rw[R3 cb m R j hjl,hrd2];unfold Dq;refine jT ?_;ac_rfl) X)⟩) I I ⟨m.CE j C,hm.CE hrk2,.slice p81 (aa (rm1.r.b.take (min ((AW rm1.r.read rm1.r.high rm1.r.AG.l).1-rm1.r.read) AQ.toNat))) c81,Xg,Cb,.inr ⟨by rw[ewr];exactλh=>Y (congrArg List.length h),by rw[ewr];exact⟨p81,b81,o81,c81,s81,I,hs81,hc81,I⟩⟩⟩
 refine CY ?_;refine mC (λY=>?_) (λY=>?_);rotate_left
 ·exact absurd I Y
 refine DL ?_;refine JL Vr<|J2 ?_;refine mC (λF=>?_) (λF=>?_)
 ·refine J1 ?_;refine mA 13 13 ?_;refine Fj ?_;have ewr:m.s.read (j:Int) AQ=(([],rm1.r.state,(if rm1.r.state=2 then rm1.r.code else 0),0),m.s.CE j rm1.r):=by
   exact dK
  exact mR [6,7,8,9] (Ao cb (m.CE j rm1)*R) (hE:=⟨λO X=>Eq.mp Ys X⟩) I I ⟨m.CE j rm1,hm.CE w,.slice none 0 0,by rw[Ak.Tk,ewr],by rw[ewr,AJ F];rfl,.inl ⟨Cj,I,I⟩⟩
 refine J3 ?_;refine mA 9 9 ?_;refine DY ?_;have ewr:m.s.read (j:Int) AQ=(([],rm1.r.state,(if rm1.r.state=2 then rm1.r.code else 0),0),m.s.CE j rm1.r):=by
  exact dK
 exact mR [6,7,8,9] (Ao cb (m.CE j rm1)*R) (hE:=⟨λO X=>Eq.mp Ys X⟩) I I ⟨m.CE j rm1,hm.CE w,.slice none 0 0,by rw[Ak.Tk,ewr],by rw[ewr,AF F];rfl,.inl ⟨Cj,I,I⟩⟩
end
section
variable{B:World}
def JP(n)(hn:n≤4611686018427387903)(p b o c)(xs:List UInt8)(s R)(C:Sl p b o (aa xs) c)(W:aa xs*1+aa s=c*1)(F:aa xs<1000000000000):
  Fn prog B 194 [.slice p (aa xs) c,uN n] (AC b o xs s*R) (λv S=>DI R (xs++AU n) v S):=by
 refine jR ?_;refine mC (λhc0=>?_) (λhc0=>?_)
 ·refine BB ?_;refine Ga ?_;rintro _ _ ⟨N,rfl,rfl⟩;refine BH (H':=AC b o xs s*(AA N 0 (AE (AU n))*R)) lF ?_;have hl:aa (AU n)=1:=by simp[AU, *]
  exact Ae (CA (ys:=AU n) (bb:=N) (oo:=0) (cc:=1) I C W Cy Cz AH I Mg C0) I XZ
 refine J3 ?_;refine JL (ID (j:=16384) I I)<|J3 ?_;refine mC (λhc1=>?_) (λhc1=>?_)
 ·refine tW ?_;rintro _ _ ⟨h,rfl,rfl⟩;refine BH (H':=AC b o xs s*(AA h 0 (AE (AU n))*R)) bC ?_;have hl:aa (AU n)=2:=by simp[AU, *]
  exact Ae (CA (ys:=AU n) (bb:=h) (oo:=0) (cc:=2) I C W Cy Cz AH I Mg C0) I XZ
 refine J3 ?_;refine JL (ID (j:=1073741824) I I)<|J3 ?_;refine mC (λhc2=>?_) (λhc2=>?_)
 ·refine pP ?_;rintro _ _ ⟨a,rfl,rfl⟩;refine BH (H':=AC b o xs s*(AA a 0 (AE (AU n))*R)) Z7 ?_;have hl:aa (AU n)=4:=by simp[AU, *]
  exact Ae (CA (ys:=AU n) (bb:=a) (oo:=0) (cc:=4) I C W Cy Cz AH I Mg C0) I XZ
 refine cM ?_;rintro _ _ ⟨e,rfl,rfl⟩;refine BH (H':=AC b o xs s*(AA e 0 (AE (AU n))*R)) Zs ?_;have hl:aa (AU n)=8:=by simp[AU, *]
 refine Ae (CA (ys:=AU n) (bb:=e) (oo:=0) (cc:=8) I C W Cy Cz AH I Mg C0) I ?_;rintro _ _ ⟨q,b',o',c',s',rfl,h1,h2,rfl⟩;refine J4 ?_;exact oK
def dg(d:ByteArray)(F:d.size<1000000000000)(p:Option Addr)(b o c:Nat)(xs:List UInt8)(s:List Value)(R:HP)(C:Sl p b o (aa xs) c)(W:aa xs*1+aa s=c*1)(a:aa xs<1000000000000):
  Fn prog B 200 [.slice p (aa xs) c,.string d] (AC b o xs s*R) (λv S=>DI R (xs++AU d.size++d.data.toList) v S):=by
 refine mI func200 ?_;refine CK ?_;refine mE I (JP d.size C0 p b o c xs s R C W C0) ?_;rintro _ _ ⟨h,l,L,w,u,rfl,e,X,rfl⟩;refine J1 ?_;refine Ae (qY (str:=d) I e X I I sH C0) I ?_;rintro _ _ ⟨q,V,A,G,K,rfl,O,U,rfl⟩;refine J4 ?_;exact mR [4] (AC V A (xs++AU d.size++d.data.toList) K*R) I I ⟨q,V,A,G,K,I,O,U,I⟩
def Aev(t:UInt8)(m:Nat)(r:RF)(l:Nat)(p:Option Addr)(b o c:Nat)(xs:List UInt8)(s:List Value)(R:HP)(C:Sl p b o (aa xs) c)(W:aa xs*1+aa s=c*1)(F:aa xs<100000000000):
  Fn prog B 217 [.slice p (aa xs) c,ptr l 0,ptr m 0] (AC b o xs s*(AA l 0 (AN r)*(AA m 0 [u8 t]*R))) (λv S=>DI (AA l 0 (AN r)*(AA m 0 [u8 t]*R)) (xs++[t]) v S):=by
 refine mI func217 ?_;refine BQ ?_;refine Ga ?_;rintro _ _ ⟨U,rfl,rfl⟩;refine BH (H':=AC b o xs s*(AA U 0 (AE [t])*(AA l 0 (AN r)*(AA m 0 [u8 t]*R)))) Cn<|Ae (CA (ys:=[t]) (bb:=U) (oo:=0) (cc:=1) I C W I Bz AH I C9 C0) I ?_;rintro _ _ ⟨O,K,L,w,u,rfl,e,X,rfl⟩;refine J4 ?_;exact mR [5] (AC K L (xs++[t]) u*(AA l 0 (AN r)*(AA m 0 [u8 t]*R))) I I ⟨O,K,L,w,u,I,e,X,I⟩
def zD(l:Nat)(H:HP):Fn prog B 205 [ptr l 0] H (λv S=>v=ptr l (0+3)∧S=H):=by
 refine mI func205 ?_;refine Kb ?_;exact Nq
def yp(m G:Nat)(r:RF)(l:Nat)(p:Option Addr)(b o c:Nat)(xs:List UInt8)(s:List Value)(R:HP)(C:Sl p b o (aa xs) c)(W:aa xs*1+aa s=c*1)(F:aa xs<100000000000)(J:r.f.code≤4611686018427387903):
  Fn prog B 219 [.slice p (aa xs) c,ptr l 0,ptr m 0,ptr G 0] (AC b o xs s*(AA l 0 (AN r)*(AA m 0 [u8 28]*(AA G 0 [.func (.func 205) #[] #[]]*R)))) (λv X=>DI (AA l 0 (AN r)*(AA m 0 [u8 28]*(AA G 0 [.func (.func 205) #[] #[]]*R))) (xs++[28]++AU r.f.code) v X):=by
 refine mI func219 ?_;refine J6 ?_;refine EI (AA l 0 (AN r)*(AA m 0 [u8 28]*(AA G 0 [.func (.func 205) #[] #[]]*R))) 6 11 EO I C1<|BE ?_;refine Jd 4 ?_;refine A4 ?_;refine Au 2 C1 I I It ?_;rintro _ _ ⟨K,rfl,rfl⟩;refine BT ?_;refine F9 (H':=AC b o xs s*(AA K 0 (AE [(28:UInt8)])*(AA l 0 (AN r)*(AA m 0 [u8 28]*(AA G 0 [.func (.func 205) #[] #[]]*R))))) Cn<|Au 3 C1 I I (CA (ys:=[28]) (bb:=K) (oo:=0) (cc:=1) I C W I Bz AH I C9 C0) ?_;rintro _ _ ⟨S,e,u,w,A,rfl,N,O,rfl⟩;refine BT ?_;refine Au 6 C1 I I (HD I I (zD l _))<|FZ ?_;refine GU 7 C1 I I (Uh I) Fk<|GU 8 C1 I I Gr Fk<|Au 9 C1 I I (Bd I (JP r.f.code J S e u w (xs++[28]) A _ N O C9)) ?_;rintro _ _ ⟨U,a,L,V,M,rfl,h,t,rfl⟩;refine FF ?_;refine GU 10 C1 I I HG Fk<|A5 ?_;exact mR [6] (AC a L (xs++[28]++AU r.f.code) M*(AA l 0 (AN r)*(AA m 0 [u8 28]*(AA G 0 [.func (.func 205) #[] #[]]*R)))) I I ⟨U,a,L,V,M,I,h,t,I⟩
def Aai(r:RF)(fb p b o c)(xs:List UInt8)(s R)(C:Sl p b o (aa xs) c)(W:aa xs*1+aa s=c*1)(F:aa xs<100000000000)(st)(hst:r.f.stream=(st:Nat))(hst4:st<4)(J:r.f.code≤4611686018427387903)(w:r.f.offset≤4611686018427387903):
  Fn prog B 193 [.slice p (aa xs) c,ptr fb 0] (AC b o xs s*(AA fb 0 (AN r)*R)) (λv H'=>DI (AA fb 0 (AN r)*R) (xs++[4]++AU st++AU r.f.code++AU r.f.offset) v H'):=by
 refine mI func193 ?_;have q1:=DS st;have q2:=DS r.f.code;have M:=DS r.f.offset;refine J6 ?_;refine Zx ?_;refine Au 1 C1 I I It ?_;rintro _ _ ⟨b6,rfl,rfl⟩;refine BT ?_;refine wF ?_;refine Au 2 C1 I I (CA (ys:=[4]) (bb:=b6) (oo:=0) (cc:=1) I C W I Bz AH I C9 C0) ?_;rintro _ _ ⟨p7,b7,o7,c7,s7,rfl,S,hc7,rfl⟩;refine BT ?_;refine Au 8 C1 I I (Bd I (JP (st) C0 p7 b7 o7 c7 (xs++[4]) s7 _ S hc7 Ck)) ?_;rintro _ _ ⟨N,Y,o13,u,a,rfl,K,L,rfl⟩;refine BT ?_;refine Au 13 C1 I I (Bd I (JP (r.f.code) J N Y o13 u (xs++[4]++AU st) a _ K L Ck)) ?_;rintro _ _ ⟨m,G,V,t,s18,rfl,O,U,rfl⟩;refine BT ?_;refine Au 18 C1 I I (Bd I (JP (r.f.offset) w m G V t (xs++[4]++AU st++AU r.f.code) s18 _ O U Ck)) ?_;rintro _ _ ⟨p23,h,A,c23,X,rfl,e,l,rfl⟩;refine FF ?_;refine GU 19 C1 I I HG Fk<|A5 ?_;exact mR [4] (AC h A (xs++[4]++AU st++AU r.f.code++AU r.f.offset) X*(AA fb 0 (AN r)*R)) I I ⟨p23,h,A,c23,X,I,e,l,I⟩
def jl(r:RF)(fb p b o c)(xs:List UInt8)(s R)(C:Sl p b o (aa xs) c)(W:aa xs*1+aa s=c*1)(F:aa xs<100000000000)(st)(hst:r.f.stream=(st:Nat))(hst4:st<4)(w:r.f.offset≤4611686018427387903)(X:r.f.data.size<1000000000000):
  Fn prog B 199 [.slice p (aa xs) c,ptr fb 0] (AC b o xs s*(AA fb 0 (AN r)*R)) (λv H'=>DI (AA fb 0 (AN r)*R) (xs++[bif r.f.fin then 9 else 8]++AU st++AU r.f.offset++AU r.f.data.size++r.f.data.data.toList) v H'):=by
 refine mI func199 ?_;have q1:=DS st;have q2:=DS r.f.code;have M:=DS r.f.offset;refine J7 ?_;refine JL U9<|CK ?_;refine Bq (α:=Unit) (λ_=>[(0,.slice p (aa xs) c),(1,ptr fb 0),(5,u8 (bif r.f.fin then 9 else 8))]) (λ_=>AC b o xs s*(AA fb 0 (AN r)*R)) (λ_=>True) ?_ ?_
 ·exact Vu
 rintro z J;refine J2 ?_;refine bT ?_;refine Au 2 C1 I I It ?_;rintro _ _ ⟨b12,rfl,rfl⟩;refine BT ?_;refine gA ?_;refine Au 3 C1 I I (CA (ys:=[(bif r.f.fin then(9:UInt8)else 8)]) (bb:=b12) (oo:=0) (cc:=1) I C W I Bz AH I C9 C0) ?_;rintro _ _ ⟨N,Y,l,u,a,rfl,K,L,rfl⟩;refine BT ?_;refine Au 9 C1 I I (Bd I (JP (st) C0 N Y l u (xs++[bif r.f.fin then 9 else 8]) a _ K L Ck)) ?_;rintro _ _ ⟨V,G,e,m,S,rfl,t,O,rfl⟩;refine BT ?_;refine Au 14 C1 I I (Bd I (JP (r.f.offset) w V G e m (xs++[bif r.f.fin then 9 else 8]++AU st) S _ t O Ck)) ?_;rintro _ _ ⟨p24,b24,o24,c24,s24,rfl,A,U,rfl⟩;refine BT ?_;refine Au 19 C1 I I (Bd I (dg r.f.data X p24 b24 o24 c24 (xs++[bif r.f.fin then 9 else 8]++AU st++AU r.f.offset) s24 _ A U C9)) ?_;rintro _ _ ⟨p29,h,o29,c29,s29,rfl,hs29,hc29,rfl⟩;refine FF ?_;refine Sz ?_;refine A5 ?_;exact mR [4] (AC h o29 (xs++[bif r.f.fin then 9 else 8]++AU st++AU r.f.offset++AU r.f.data.size++r.f.data.data.toList) s29*(AA fb 0 (AN r)*R)) I I ⟨p29,h,o29,c29,s29,I,hs29,hc29,I⟩
def qd(l:Nat)(H:HP):Fn prog B 198 [ptr l 0] H (λv S=>v=.bool true∧S=H):=by
 refine mI func198 ?_;refine DL ?_;exact Nq
def tz(r:RF)(l:Nat)(R:HP)(w:r.f.offset≤4611686018427387903)(X:r.f.data.size<1000000000000):
  Fn prog B 203 [ptr l 0] (AA l 0 (AN r)*R) (λv S=>v=.bool (decide (r.f.data.size+r.f.offset≤4611686018427387903))∧S=AA l 0 (AN r)*R):=by
 refine mI func203 ?_;refine J6 ?_;refine mA 13 13 ?_;refine CY ?_;refine JT 10 I bO<|BB ?_;exact mR [2] (AA l 0 (AN r)*R) I I ⟨congrArg Value.bool (decide_eq_decide.2 C0),I⟩
def Aau(r:RF)(fb p b o c)(xs:List UInt8)(s R)(C:Sl p b o (aa xs) c)(W:aa xs*1+aa s=c*1)(F:aa xs<100000000000)(hrok:r.ok)(hrd:AZ B R r.b r.o r.f.ranges)(N:Io r.f.ranges)(hrl:aa r.f.ranges<10000000000):
  Fn prog B 190 [.slice p (aa xs) c,ptr fb 0] (AC b o xs s*(AA fb 0 (AN r)*R)) (λv H'=>DI (AA fb 0 (AN r)*R) (xs++[2]++AU (rg r.f.ranges 0).hi++AU (aa r.f.ranges-1)++AU ((rg r.f.ranges 0).hi-(rg r.f.ranges 0).lo)++CF r.f.ranges (aa r.f.ranges-1)) v H'):=by
 refine mI func190 ?_;have hne:0<aa r.f.ranges:=kz.2 N.1;have A:=N.2 0 hne;unfold Gc at A;have q1:=DS (rg r.f.ranges 0).hi;have q2:=DS (aa r.f.ranges-1);have q3:=DS ((rg r.f.ranges 0).hi-(rg r.f.ranges 0).lo);refine CK ?_;refine JL wC<|JL eJ<|LV ?_;rintro _ _ ⟨b5,rfl,rfl⟩;refine Bn ?_;refine bK ?_;rintro _ _ ⟨b15,rfl,rfl⟩;refine BT ?_;refine j7 ?_;refine Au 2 C1 I I (CA (ys:=[2]) (bb:=b15) (oo:=0) (cc:=1) I C W I Bz AH I C9 C0) ?_;rintro _ _ ⟨p16,a,o16,c16,M,rfl,hs16,t,rfl⟩;refine BT ?_;refine Au 5 C1 I I (Bd I (JP ((rg r.f.ranges 0).hi) A.2.1 p16 a o16 c16 (xs++[2]) M _ hs16 t Ck)) ?_;rintro _ _ ⟨p19,G,o19,m,S,rfl,hs19,O,rfl⟩;refine BT ?_;refine Au 13 C1 I I (Bd I (JP (aa r.f.ranges-1) C0 p19 G o19 m (xs++[2]++AU (rg r.f.ranges 0).hi) S _ hs19 O Ck)) ?_;rintro _ _ ⟨p27,b27,o27,c27,s27,rfl,hs27,hc27,rfl⟩;refine BT ?_;refine Au 19 C1 I I (Bd I (JP ((rg r.f.ranges 0).hi-(rg r.f.ranges 0).lo) C0 p27 b27 o27 c27 (xs++[2]++AU (rg r.f.ranges 0).hi++AU (aa r.f.ranges-1)) s27 _ hs27 hc27 Ck)) ?_;rintro _ _ ⟨p33,U,o33,c33,s33,rfl,hs33,hc33,rfl⟩;refine FF ?_;refine Sz ?_;refine Bn ?_;refine I4 (AC U o33 (xs++[2]++AU (rg r.f.ranges 0).hi++AU (aa r.f.ranges-1)++AU ((rg r.f.ranges 0).hi-(rg r.f.ranges 0).lo)) s33*(AA fb 0 (AN r)*R))<|BB ?_;refine JL iG<|BB ?_;generalize V:(xs++[2]++AU (rg r.f.ranges 0).hi++AU (aa r.f.ranges-1)++AU ((rg r.f.ranges 0).hi-(rg r.f.ranges 0).lo))=pre at*;have hpl:aa pre<200000000000:=by rw[←V];simp only[a5,f',ss];omega
 refine Bf (α:=Nat×Option Addr×Nat×Nat×Nat×List Value) (λz=>[(0,.slice z.2.1 (aa (pre++CF r.f.ranges z.1)) z.2.2.2.2.1),(1,ptr fb 0),(38,.slice (sp r.p r.c 1 2) (aa r.f.ranges-1) (r.c-1)),(39,iN (aa r.f.ranges-1)),(40,iN z.1)]) (λz=>AC z.2.2.1 z.2.2.2.1 (pre++CF r.f.ranges z.1) z.2.2.2.2.2*(AA fb 0 (AN r)*R)) (λz=>z.1≤aa r.f.ranges-1∧Sl z.2.1 z.2.2.1 z.2.2.2.1 (aa (pre++CF r.f.ranges z.1)) z.2.2.2.2.1∧aa (pre++CF r.f.ranges z.1)*1+aa z.2.2.2.2.2=z.2.2.2.2.1*1) (λz=>aa r.f.ranges-1-z.1) (0,p33,U,o33,c33,s33) ⟨bk _,by simpa[CF]using hs33,by simpa[CF]using hc33⟩ jH Yg ?_;rintro⟨i,p9,K,L,w,s9⟩ ⟨hi,e,X⟩;dsimp only at hi e X⊢;have hel:=P' r.f.ranges i;have hyl:aa (pre++CF r.f.ranges i)<900000000000:=C9;generalize hys:pre++CF r.f.ranges i=ys at*;refine J6 ?_;refine mC (λhlt=>?_) (λhlt=>?_)
 ·have hk:=N.2 (i+1) C0;have Y:=N.2 i C0;unfold Gc at hk Y;simp only[Jx]at hk;refine J7 ?_;refine JL jM<|JL qG<|LV ?_;rintro _ _ ⟨b7,rfl,rfl⟩;refine Bn ?_;refine A3 (H':=AC K L ys s9*(AA b7 0 [uN (rg r.f.ranges (i+1)).lo,uN (rg r.f.ranges (i+1)).hi]*(AA fb 0 (AN r)*R))) (EM _ _ _) ?_;have v1:=DS ((rg r.f.ranges i).lo-(rg r.f.ranges (i+1)).hi-2);refine fO ?_;refine Au 13 C1 I I (Bd I (JP ((rg r.f.ranges i).lo-(rg r.f.ranges (i+1)).hi-2) C0 p9 K L w (ys) s9 _ e X Ck)) ?_;rintro _ _ ⟨p58,b58,o58,c58,s58,rfl,hs58,hc58,rfl⟩;refine BT ?_;refine Au 19 C1 I I (Bd I (JP ((rg r.f.ranges (i+1)).hi-(rg r.f.ranges (i+1)).lo) C0 p58 b58 o58 c58 (ys++AU ((rg r.f.ranges i).lo-(rg r.f.ranges (i+1)).hi-2)) s58 _ hs58 hc58 C9)) ?_;rintro _ _ ⟨p64,u,o64,c64,s64,rfl,h,J,rfl⟩;rw[←hys,Xi]at h J⊢;refine BT ?_;refine Be ?_;exact Bg (AC u o64 (pre++CF r.f.ranges (i+1)) s64*(AA fb 0 (AN r)*R)) (BV (i+1,p64,u,o64,c64,s64) ⟨C0,h,J⟩ ZF Gx I)
 have hie:i=aa r.f.ranges-1:=C0;refine Fi ?_;subst hie;rw[←hys]at e X⊢;exact mR [4] (AC K L (pre++CF r.f.ranges (aa r.f.ranges-1)) s9*(AA fb 0 (AN r)*R)) I I (by rw[←V]at e X⊢;exact⟨p9,K,L,w,s9,I,e,X,I⟩)
def iz(r:RF)(fb:Nat)(R:HP)(hrok:r.ok)(m:AZ B R r.b r.o r.f.ranges)(w:aa r.f.ranges<10000000000):
  Fn prog B 192 [ptr fb 0] (AA fb 0 (AN r)*R) (λv S=>v=.bool (decide (Io r.f.ranges))∧S=AA fb 0 (AN r)*R):=by
 refine mI func192 ?_;refine Fj ?_;refine Bf (λi:Nat=>[(0,ptr fb 0),(8,.slice r.p (aa r.f.ranges) r.c),(9,iN (aa r.f.ranges)),(10,iN i)]) (λ_=>(AA fb 0 (AN r)*R)) (λi=>i≤aa r.f.ranges∧∀j,j<i→Gc r.f.ranges j) (λi=>aa r.f.ranges-i) 0 ⟨bk _,λj hj=>by omega⟩ DJ I ?_;rintro i ⟨M,hall⟩;dsimp only at M hall⊢;refine J6 ?_;refine mC (λhlt=>?_) (λhlt=>?_)
 ·refine J7 ?_;refine JL (CJ (b:=r.b) (o:=r.o) I I hrok hlt)<|JL rJ<|LV ?_;rintro _ _ ⟨J,rfl,rfl⟩;refine BB ?_;refine mA 41 41 ?_;refine DE ?_;refine D4 20 I (λhg1=>?_) (λhg1=>?_)
  ·refine HL ?_;refine IU ?_;exact P0
  refine BE ?_;refine JY 8 I F1 Ny<|BE ?_;refine D4 25 I (λe=>?_) (λe=>?_)
  ·refine HL ?_;refine FM ?_;exact P0
  refine A5 ?_;refine D4 28 I (λhg3=>?_) (λhg3=>?_)
  ·refine DE ?_;refine JY 20 I T3 ZD<|A4 ?_;refine JY 22 I T3 UF<|JY 23 I T3 RH<|A4 ?_;refine D4 39 I (λhg4=>?_) (λhg4=>?_)
   ·refine HL ?_;exact P0
   refine Be ?_;refine JY 33 I F4 ZD<|A4 ?_;refine JY 35 I F4 UF<|JY 36 I F4 (MR (j:=2) I I xN)<|DE ?_;refine mC (λu=>?_) (λu=>?_)
   ·refine DL ?_;exact P0
   exact xU
  refine HL ?_;exact xU
 have s:i=aa r.f.ranges:=C0;have hdone:∀j,j<aa r.f.ranges→Gc r.f.ranges j:=s▸hall;refine Fj ?_;exact P0
end
section
variable{B:World}
abbrev Hl(f:FuncId)(us:List Value):Value:=.func (.func f) #[] us.toArray
structure G6(r:RF):Prop where
 ok:r.ok
 len:r.f.ranges.length<10000000000
 size:r.f.data.size<100000000000
structure Nu(B:World)(k:Int)(f1:FuncId)(us1:List Value)(f3:FuncId)(us3:List Value)(C:HP):Prop where
 gH:Aa prog f1
 call3:Aa prog f3
 write:∀(r:RF) (fb:Nat) (p:Option Addr) (b o c:Nat) (xs:List UInt8) (s:List Value) (R:HP),G6 r→r.f.kind=k→B4 r.f→AZ B R r.b r.o r.f.ranges→Sl p b o xs.length c→xs.length*1+s.length=c*1→xs.length<100000000000→
  Fn prog B f1 ([.slice p xs.length c,ptr fb 0]++us1) (AC b o xs s*(AA fb 0 (AN r)*(C*R))) (λv H'=>DI (AA fb 0 (AN r)*(C*R)) (xs++Av r.f) v H')
 sound:∀(r:RF) (fb:Nat) (R:HP),G6 r→r.f.kind=k→r.f.offset≤4611686018427387903→AZ B R r.b r.o r.f.ranges→
  Fn prog B f3 ([ptr fb 0]++us3) (AA fb 0 (AN r)*(C*R)) (λv H'=>v=.bool (decide (Jk r.f))∧H'=AA fb 0 (AN r)*(C*R))
def Ab2{f:Af}(M:f.kind≠3)(X:f.kind≠5):Jk f:=⟨λh=>absurd h M,λh=>absurd h X⟩
def Uz(k:Int)(M:k≠3)(X:k≠5)(C)(r:RF)(l R)(Z:r.f.kind=k):
  Fn prog B 198 ([ptr l 0]++[]) (AA l 0 (AN r)*(C*R)) (λv S=>v=.bool (decide (Jk r.f))∧S=AA l 0 (AN r)*(C*R)):=by
 refine(qd l _).mono ?_;rintro v S ⟨rfl,rfl⟩;exact⟨congrArg Value.bool (decide_eq_true (Ab2 (Z▸M) (Z▸X))).symm,I⟩
def f0(k:Int)(t:UInt8)(m)(hk:(k=1∧t=0)∨(k=2∧t=1)):Nu B k 217 [ptr m 0] 198 [] (AA m 0 [u8 t]):=by
 refine⟨AH,AH,?_,?_⟩
 ·intro r l p b o c xs s R W A N Y C a F;have e:Av r.f=[t]:=by
   rcases hk with⟨rfl,rfl⟩|⟨rfl,rfl⟩<;>simp[Av,A]
  rw[e];have h:=Aev t m r l p b o c xs s R C a F (B:=B);exact h
 intro r l R W A _ _;exact Uz k Zo Zo _ r l R A
def nb(m G):Nu B 6 219 [ptr m 0,ptr G 0] 198 [] (AA m 0 [u8 28]*AA G 0 [Hl 205 []]):=by
 refine⟨AH,AH,?_,?_⟩
 ·intro r l p b o c xs s R W A N Y C a F;have e:Av r.f=[28]++AU r.f.code:=by simp[Av,A]
  rw[e,←c5,HP.assoc];exact yp m G r l p b o c xs s R C a F N.2.1
 intro r l R W A _ _;exact Uz 6 C2 C2 _ r l R A
def oh:Nu B 3 190 [] 192 [] Bs:=by
 refine⟨AH,AH,?_,?_⟩
 ·intro r l p b o c xs s R W A N Y C a F;have e:xs++Av r.f=xs++[2]++AU (rg r.f.ranges 0).hi++AU (aa r.f.ranges-1)++AU ((rg r.f.ranges 0).hi-(rg r.f.ranges 0).lo)++CF r.f.ranges (aa r.f.ranges-1):=by
   simp[Av,A,MI]
  rw[e,BS];exact Aau r l p b o c xs s R C a F W.ok Y (N.2.2.2.2.1.1 A) W.len
 intro r l R W A _ Y;rw[BS];refine(iz r l R W.ok Y W.len).mono ?_;rintro v S ⟨rfl,rfl⟩;exact⟨congrArg Value.bool (decide_eq_decide.2 ⟨λh=>⟨λ_=>h,λX=>by rw[A]at X;cases X⟩,λh=>h.1 A⟩),I⟩
def Adz:Nu B 4 193 [] 198 [] Bs:=by
 refine⟨AH,AH,?_,?_⟩
 ·intro r l p b o c xs s R W A N Y C a F;obtain⟨O,U,M,Z,X,J⟩:=N;have e:xs++Av r.f=xs++[4]++AU r.f.stream.toNat++AU r.f.code++AU r.f.offset:=by simp[Av,A]
  rw[e,BS];exact Aai r l p b o c xs s R C a F r.f.stream.toNat C0 C0 U O
 intro r l R W A _ _;rw[BS];have:=Uz (B:=B) 4 C2 C2 Bs r l R A;rwa[BS]at this
def Abo:Nu B 5 199 [] 203 [] Bs:=by
 refine⟨AH,AH,?_,?_⟩
 ·intro r l p b o c xs s R hm A N Y C W F;obtain⟨O,U,M,Z,X,J⟩:=N;have e:xs++Av r.f=xs++[bif r.f.fin then 9 else 8]++AU r.f.stream.toNat++AU r.f.offset++AU r.f.data.size++r.f.data.data.toList:=by simp[Av,A]
  rw[e,BS];exact jl r l p b o c xs s R C W F r.f.stream.toNat C0 C0 O PJ
 intro r l R hm A w _;rw[BS];refine(tz r l R w PJ).mono ?_;rintro v S ⟨rfl,rfl⟩;exact⟨congrArg Value.bool (decide_eq_decide.2 ⟨λh=>⟨λM=>(by rw[A]at M;cases M),λ_=>h⟩,λh=>h.2 A⟩),I⟩
def f9(t:UInt8)(H:HP):Fn prog B 189 [u8 t] H (λv S=>∃m,v=.agg [Hl 217 [ptr m 0],Hl 218 [],Hl 198 []].toArray∧S=AA m 0 [u8 t]*H):=by
 refine mI func189 ?_;refine J2 ?_;refine Ae (EB (l:=[u8 t]) I I) I ?_;rintro _ _ ⟨C,rfl,rfl⟩;refine NN ?_;rintro _ _ ⟨Y,rfl,rfl⟩;refine BB ?_;refine JL LS<|Bn ?_;exact KT (AA C 0 [u8 t]*H) I (IC (Kd I I) Im) ⟨C,I,I⟩
def Aem(H:HP):Fn prog B 204 [u8 28,Hl 205 []] H (λv S=>∃m G,v=.agg [Hl 219 [ptr m 0,ptr G 0],Hl 220 [ptr G 0],Hl 198 []].toArray∧S=AA m 0 [u8 28]*(AA G 0 [Hl 205 []]*H)):=by
 refine mI func204 ?_;refine J2 ?_;refine Ae (EB (l:=[u8 28]) I I) I ?_;rintro _ _ ⟨Y,rfl,rfl⟩;refine Ae (EB (l:=[Hl 205 []]) I I) I ?_;rintro _ _ ⟨K,rfl,rfl⟩;refine NN ?_;rintro _ _ ⟨J,rfl,rfl⟩;refine DE ?_;refine JL LS<|Bn ?_;exact KT (AA K 0 [Hl 205 []]*(AA Y 0 [u8 28]*H)) I (IC (Kd I I) Im) ⟨Y,K,I,EM _ _ _⟩
inductive Gw:Int→FuncId→List Value→FuncId→List Value→FuncId→List Value→HP→Prop
 |pad (bt:Nat):Gw 1 217 [ptr bt 0] 218 [] 198 [] (AA bt 0 [u8 0])
 |ping (bt:Nat):Gw 2 217 [ptr bt 0] 218 [] 198 [] (AA bt 0 [u8 1])
 |ack:Gw 3 190 [] 191 [] 192 [] Bs
 |reset:Gw 4 193 [] 195 [] 198 [] Bs
 |data:Gw 5 199 [] 201 [] 203 [] Bs
 |bye (bt bq:Nat):Gw 6 219 [ptr bt 0,ptr bq 0] 220 [ptr bq 0] 198 [] (AA bt 0 [u8 28]*AA bq 0 [Hl 205 []])
def Gw.Xo{k:Int}{C}(h:Gw k f1 us1 f2 us2 f3 us3 C):Nu B k f1 us1 f3 us3 C:=by
 cases h
 ·exact f0 1 0 _ OQ
 ·exact f0 2 1 _ Nj
 ·exact oh
 ·exact Adz
 ·exact Abo
 exact nb _ _
def Gw.kind{k:Int}{C}(h:Gw k f1 us1 f2 us2 f3 us3 C):EV k:=by cases h<;>(unfold EV;decide)
abbrev GA(bc:Nat)(f1 f2 f3:FuncId)(us1 us2 us3:List Value):HP:=AA bc 0 [Hl f1 us1,Hl f2 us2,Hl f3 us3]
def HO{P:Program}{n E H r}{k:Int}{bc C a}(hr:fn.results=([2].map ResultVar.tmp).toArray)(b:Dw E ([2].map Operand.tmp)=some [ptr bc 0])(h:Gw k f1 us1 f2 us2 f3 us3 C)(e:H=GA bc f1 f2 f3 us1 us2 us3*(C*a)):BZ B (Ju P B fn (λv S=>(¬EV k∧v=.pointer none∧S=a)∨(∃bc f1 us1 f2 us2 f3 us3 C,Gw k f1 us1 f2 us2 f3 us3 C∧v=ptr bc 0∧S=GA bc f1 f2 f3 us1 us2 us3*(C*a)))) .ret n E ⟨[],r⟩ H:=
 rV hr b (.inr ⟨bc,f1,us1,f2,us2,f3,us3,C,h,I,e⟩)
def aW(k:Int)(H:HP):Fn prog B 168 [.int .i64 k] H (λv S=>(¬EV k∧v=.pointer none∧S=H)∨(∃bc f1 us1 f2 us2 f3 us3 C,Gw k f1 us1 f2 us2 f3 us3 C∧v=ptr bc 0∧S=GA bc f1 f2 f3 us1 us2 us3*(C*H))):=by
 refine mI func168 ?_;refine J7 ?_;refine Ae (GS (l:=[.nilFunc,.nilFunc,.nilFunc]) I) I ?_;rintro _ _ ⟨b3,rfl,rfl⟩;refine DL ?_;refine JL (Eo (i:=k) (j:=1) I I)<|J3 ?_;refine mC (λhc=>?_) (λe=>?_)
 ·refine J1 ?_;exact mE I (f9 0 _) lP
 refine J2 ?_;refine JL (Eo (i:=k) (j:=2) I I)<|J3 ?_;refine mC (λhc=>?_) (λm=>?_)
 ·refine J1 ?_;exact mE I (f9 1 _) lP
 refine J2 ?_;refine JL (Eo (i:=k) (j:=3) I I)<|J3 ?_;refine mC (λhc=>?_) (λh=>?_)
 ·exact X0
 refine J2 ?_;refine JL (Eo (i:=k) (j:=4) I I)<|J3 ?_;refine mC (λhc=>?_) (λa=>?_)
 ·exact X0
 refine J2 ?_;refine JL (Eo (i:=k) (j:=5) I I)<|J3 ?_;refine mC (λhc=>?_) (λb=>?_)
 ·exact X0
 refine J2 ?_;refine JL (Eo (i:=k) (j:=6) I I)<|J3 ?_;refine mC (λhc=>?_) (λc=>?_)
 ·refine J1 ?_;refine mE I (Aem _) ?_;rintro _ _ ⟨bt,bq,rfl,rfl⟩;refine CY ?_;exact jD
 refine J8 ?_;exact jD
def rZ(r:RF)(fb bc:Nat)(f1 f2 f3:FuncId)(us1 us2 us3:List Value)(C R:HP)(hF:Gw r.f.kind f1 us1 f2 us2 f3 us3 C)(hw:Nu B r.f.kind f1 us1 f3 us3 C)(A:r.f.kind=r.f.kind)(hm:G6 r)(hr:AZ B R r.b r.o r.f.ranges):
  Fn prog B 169 [ptr fb 0,ptr bc 0] (AA fb 0 (AN r)*(C*(GA bc f1 f2 f3 us1 us2 us3*R))) (λv S=>v=.bool (decide (B4 r.f))∧S=AA fb 0 (AN r)*(C*(GA bc f1 f2 f3 us1 us2 us3*R))):=by
 refine mI func169 ?_;refine J7 ?_;refine EI (AA fb 0 (AN r)*(C*(GA bc f1 f2 f3 us1 us2 us3*R))) 11 11 EO I C1<|Be ?_;refine JT 10 I (NB (v:=.int .i64 (0:Nat)) I)<|Au 8 C1 I I It ?_;rintro _ _ ⟨a,rfl,rfl⟩;refine BT ?_;refine JT 9 I (UO I)<|JD<|J2 ?_;refine A3 (H':=AC a 0 [BG.mk r.f.offset,BG.mk r.f.code] []*(AA fb 0 (AN r)*(C*(GA bc f1 f2 f3 us1 us2 us3*R)))) I<|Bf (λi:Nat=>[(0,ptr fb 0),(1,ptr bc 0),(15,.slice (some ⟨a,0,none⟩) 2 2),(16,iN 2),(17,iN i)]) (λ_=>AC a 0 [BG.mk r.f.offset,BG.mk r.f.code] []*(AA fb 0 (AN r)*(C*(GA bc f1 f2 f3 us1 us2 us3*R)))) (λi=>i≤2∧(1≤i→r.f.offset≤4611686018427387903)∧(2≤i→r.f.code≤4611686018427387903)) (λi=>2-i) 0 ⟨C0,C0,C0⟩ Gx I ?_;rintro i ⟨M,c,u⟩;dsimp only at M c u⊢;refine J2 ?_;refine JL RH<|J3 ?_;refine mC (λL=>?_) (λL=>?_)
 ·refine J6 ?_;refine JL (Uk I I L)<|JL (Acc (xs:=[BG.mk r.f.offset,BG.mk r.f.code]) I AH L)<|J6 ?_;refine JL Ny<|J2 ?_;refine mC (λhbig=>?_) (λhbig=>?_)
  ·refine DL ?_;exact S1
  refine Bt ?_;refine BV (i+1) ⟨C0,λh=>?_,λh=>?_⟩ C0 Gx I
  ·obtain rfl|h1:=(by omega:i=0∨1≤i)
   ·simpa using hbig
   exact c h1
  obtain rfl:i=1:=by omega
  simpa using hbig
 have hof:=c C0;have hcd:=u C0;refine J6 ?_;refine I4 (AA fb 0 (AN r)*(C*(GA bc f1 f2 f3 us1 us2 us3*R)))<|BB ?_;refine JL (Kl (i:=r.f.stream) (j:=0) I I)<|J1 ?_;refine DU 29 I (λhg1=>?_) (λhg1=>?_)
 ·refine BQ ?_;refine JL (Jr (i:=r.f.stream) (j:=4) I I)<|BE ?_;refine DU 36 I (λhg2=>?_) (λhg2=>?_)
  ·refine CK ?_;refine Ae (HD (hf:=hw.call3) I I (hw.sound r fb _ hm A hof AH)) I<|JR<|BB ?_;exact S1
  refine CK ?_;exact S1
 refine HE ?_;exact S1
end
section
variable{B:World}
def MX(k:Int)(Z:EV k)(H):Fn prog B 168 [.int .i64 k] H (λv S=>∃a f1 us1 f2 us2 f3 us3 C,Gw k f1 us1 f2 us2 f3 us3 C∧v=ptr a 0∧S=GA a f1 f2 f3 us1 us2 us3*(C*H)):=
 (aW k H).mono λ_ _ h=>h.resolve_left λh=>h.1 Z
def l_(k:Int)(Z:¬EV k)(H):Fn prog B 168 [.int .i64 k] H (λv S=>v=.pointer none∧S=H):=
 (aW k H).mono λ_ _ h=>(h.resolve_right λ⟨_,_,_,_,_,_,_,_,h,_⟩=>Z h.kind).2
def xo(f):Av f≠ []:=by
 unfold Av
 repeat' split
 all_goals first|exactλh=>by cases h|(unfold MI;simp)|simp
section
variable{P:Program}{n:Nat}{E:A8}{D:CW}{H:HP}{d:Option Tmp}{T T' ty:TypeId}{pos:String}{af:Array Edge}{g:Option (Nat×Bool)}{x y z:Operand}
def a_{k c}(F:ev E x=some (.slice p k c))(G:ev E y=some (.slice none 0 0)):
  AY prog B n ⟨d,.binOp .eql 121 x y 121,ty,pos,af,g⟩ E H (.bool p.isNone):=by
 cases p with
 |none=>exact Mk F G (λw=>by kernel_rfl) (λw=>by kernel_rfl)
 |some a=>exact Mk F G (λw=>by kernel_rfl) (λw=>by kernel_rfl)
end
def Aav(r:RF)(p:Option Addr)(b o c:Nat)(xs:List UInt8)(s:List Value)(R:HP)(hm:G6 r)(hr:AZ B R r.b r.o r.f.ranges)(C:Sl p b o (aa xs) c)(W:aa xs*1+aa s=c*1)(F:aa xs<100000000000)(a:¬EV r.f.kind):
  Fn prog B 138 [.slice p (aa xs) c,.agg (AN r).toArray] (AC b o xs s*R) (λv S=>v=.slice none 0 0∧S=AC b o xs s*R):=by
 refine mI func138 ?_;refine I8 ?_;rintro _ _ ⟨e,rfl,rfl⟩;refine Bt ?_;refine mE I (l_ r.f.kind a _)<|JR<|J7 ?_;refine JL Pr<|J1 ?_;refine Do 11 I (λK=>?_) (λK=>?_)
 ·refine FM ?_;exact mR [4] (AC b o xs s*R) I I Dj
 cases K
def Aey(r:RF)(p:Option Addr)(b o c:Nat)(xs:List UInt8)(s:List Value)(R:HP)(hm:G6 r)(hr:AZ B R r.b r.o r.f.ranges)(a:Sl p b o (aa xs) c)(W:aa xs*1+aa s=c*1)(F:aa xs<100000000000)(e:EV r.f.kind):
  Fn prog B 138 [.slice p (aa xs) c,.agg (AN r).toArray] (AC b o xs s*R) (λv H'=>(B4 r.f∧DI R (xs++Av r.f) v H')∨(¬B4 r.f∧v=.slice none 0 0∧H'=AC b o xs s*R)):=by
 refine mI func138 ?_;refine I8 ?_;rintro _ _ ⟨b3,rfl,rfl⟩;refine Bt ?_;refine mE I (MX r.f.kind e _) ?_;rintro _ _ ⟨bc,f1,us1,f2,us2,f3,us3,C,hF,rfl,rfl⟩;have hw:=hF.Xo (B:=B);have O:=hw.gH;refine J7 ?_;refine La ?_;refine J1 ?_;refine Do 11 I (λK=>?_) (λK=>?_)
 ·cases K
 refine BE ?_;refine yW ?_;refine A4 ?_;refine pZ ?_;refine JR<|BB ?_;refine mC (λhcc=>?_) (λhcc=>?_)
 ·refine J7 ?_;exact j4
 have hok:B4 r.f:=Classical.not_not.1 hcc;refine BQ ?_;refine kF ?_;refine Ae (HD I I (hw.write r b3 p b o c xs s _ hm I hok AH a W F)) I ?_;rintro _ _ ⟨p21,b21,o21,c21,s21,rfl,hs21,hc21,rfl⟩;refine J4 ?_;exact j4
def M_(r:RF)(p b o c)(xs:List UInt8)(s R)(hm:G6 r)(hr:AZ B R r.b r.o r.f.ranges)(C:Sl p b o (aa xs) c)(W:aa xs*1+aa s=c*1)(F:aa xs<100000000000):
  Fn prog B 138 [.slice p (aa xs) c,.agg (AN r).toArray] (AC b o xs s*R) (λv S=>(B4 r.f∧DI R (xs++Av r.f) v S)∨(¬B4 r.f∧v=.slice none 0 0∧S=AC b o xs s*R)):=by
 by_cases Z:EV r.f.kind
 ·exact Aey r p b o c xs s R hm hr C W F Z
 exact(Aav r p b o c xs s R hm hr C W F Z).mono λv S h=>.inr ⟨λa=>Z a.2.2.2.2.2,h⟩
def Afa(r:RF)(p b o c)(xs:List UInt8)(s R)(hm:G6 r)(hr:AZ B R r.b r.o r.f.ranges)(C:Sl p b o (aa xs) c)(W:aa xs*1+aa s=c*1)(F:aa xs<100000000000):
  Fn prog B 138 [.slice p (aa xs) c,.agg (AN r).toArray] (AC b o xs s*R) (λv S=>∃e V A G K t,v=.slice e (aa t) G∧Sl e V A (aa t) G∧aa t*1+aa K=G*1∧S=AC V A t K*R∧
   ((B4 r.f∧t=xs++Av r.f∧e.isNone=false)∨(¬B4 r.f∧e.isNone=true))):=by
 refine(M_ r p b o c xs s R hm hr C W F).drop ?_;rintro v S (⟨N,e,V,A,G,K,rfl,O,U,rfl⟩|⟨N,rfl,rfl⟩)
 ·refine⟨_,⟨e,V,A,G,K,_,I,O,U,I,.inl ⟨N,I,?_⟩⟩,λ_ h=>h⟩;have Y:0<aa (xs++Av r.f):=by have:=kz.2 (xo r.f);simp only[a5];omega
  rw[O.1.resolve_left (by have:=O.2;omega)];rfl
 exact⟨R,⟨none,0,0,0,[],[],I,E7,I,Ci,.inr ⟨N,I⟩⟩,λ_ h=>h.right⟩
def oC(fs:List Af)(i)(h:i<aa fs):Bk (fs.take i)++Av (fs[i])=Bk (fs.take (i+1)):=by
 unfold Bk;rw[Kk h,An0];simp
def m6(fs:List Af)(i):aa (Bk (fs.take i))≤aa (Bk fs):=by
 have h:Bk fs=Bk (fs.take i)++Bk (fs.drop i):=by unfold Bk;rw[←An0,px]
 rw[h,a5];omega
def MC{α:Type}(xs:List α)(i)(d:α)(h:i<aa xs):xs.getD i d=xs[i]:=by simp[List.getD,h]
def R? (fs p c b o rs H)(hfs:JM B H p c fs b o rs)(hmd:∀r∈rs,G6 r)(hn:aa fs<100000000000)(m:aa (Bk fs)<100000000000):
  Fn prog B 164 [.slice p (aa fs) c] H (λv S=>match G4 fs with
   |none=>v=.tuple #[.slice none 0 0,.iface 41 (.int .i64 5)]∧S=H
   |some t=>∃M,v=.tuple #[M,.nilIface]∧DI H t M S):=by
 refine mI func164 ?_;have w:=hfs.len;refine FM ?_;refine mC (λh0=>?_) (λh0=>?_)
 ·refine BQ ?_;exact mR [2,3] H I I (by
    rw[G4,AF (λh=>h.1 (hU.1 h0))];exact Dj)
 refine E6 ?_;refine Bf (α:=Nat×Option Addr×Nat×Nat×Nat×List Value) (λz=>[(4,.slice z.2.1 (aa (Bk (fs.take z.1))) z.2.2.2.2.1),(11,.slice p (aa fs) c),(12,iN (aa fs)),(13,iN z.1)]) (λz=>AC z.2.2.1 z.2.2.2.1 (Bk (fs.take z.1)) z.2.2.2.2.2*H) (λz=>z.1≤aa fs∧(∀j,j<z.1→B4 (rs.getD j AB.AD).f)∧Sl z.2.1 z.2.2.1 z.2.2.2.1 (aa (Bk (fs.take z.1))) z.2.2.2.2.1∧aa (Bk (fs.take z.1))*1+aa z.2.2.2.2.2=z.2.2.2.2.1*1) (λz=>aa fs-z.1) (0,none,0,0,0,[]) ⟨bk _,λj W=>absurd W (Aje j),E7,I⟩ DJ jW ?_;rintro⟨i,q,qb,qo,qc,qs⟩ ⟨hi,F,hqs,hqc⟩;dsimp only at hi F hqs hqc⊢;have O:=m6 fs i;refine J6 ?_;refine mC (λhlt=>?_) (λhlt=>?_)
 ·skip;have hmem:rs.getD i AB.AD∈rs:=by rw[MC _ _ _ C0];exact rv _
  have J:(rs.getD i AB.AD).f=fs[i]:=by
   have:=hfs.map;subst this;rw[MC _ _ _ C0,Aki]
  have X:=hfs.RY _ hmem;refine J6 ?_;refine JL Y6<|JL XO<|Ae RI I ?_;rintro _ _ ⟨b6,rfl,rfl⟩;refine Bl (Ek (cs:=AN (rs.getD i AB.AD)) I I Ca (AB.one (rs.getD i AB.AD)))<|Lx ?_;refine BH (H':=AC qb qo (Bk (fs.take i)) qs*(AA b6 0 (AN (rs.getD i AB.AD))*H)) (EM _ _ _)<|mE I (Afa (rs.getD i AB.AD) q qb qo qc (Bk (fs.take i)) qs _ (hmd _ hmem) AH hqs hqc C0) ?_;rintro _ _ ⟨e,V,A,G,K,t,rfl,U,C,rfl,s⟩;refine J6 ?_;refine JL (a_ I I)<|J2 ?_;refine mc (λa=>?_) (λa=>?_)
  ·skip;have u:¬B4 (rs.getD i AB.AD).f:=by
    obtain h|h:=s
    ·rw[h.2.2]at a;cases a
    exact h.1
   refine FC ?_;exact mR [2,3] H I I (by
     rw[G4,AF (λh=>u (by rw[J];exact h.2 _ (rv _)))];exact Dj)
  obtain⟨N,rfl,_⟩:B4 (rs.getD i AB.AD).f∧t=Bk (fs.take i)++Av (rs.getD i AB.AD).f∧e.isNone=false:=by
   obtain h|h:=s
   ·exact h
   rw[h.2]at a;cases a
  rw[J,oC fs i hlt]at U C⊢;refine Vb ?_;refine Bg (AC V A (Bk (fs.take (i+1))) K*H) (BV (i+1,e,V,A,G,K) ⟨C0,λj W=>?_,U,C⟩ Cw DJ I);obtain h|rfl:=Ak1.1 W
  ·exact F j h
  exact N
 refine Ki ?_;exact mR [2,3] (AC qb qo (Bk (fs.take i)) qs*H) I I (by
   obtain rfl:i=aa fs:=C0;rw[pq]at hqs hqc⊢;have L:fs≠ []∧∀f∈fs,B4 f:=⟨λh=>h0 QL,λf hf=>by
    have hm2:=hfs.map;subst hm2;obtain⟨r,Y,rfl⟩:=g9.1 hf;obtain⟨j,W,rfl⟩:=Ax Y;have:=F j C0;rwa[MC _ _ _ W]at this⟩
   rw[G4,AJ L];exact bS)
end
section
variable{B:World}
abbrev Db(e:Nat)(p:Option Addr)(c:Nat)(xs:List UInt8)(a:Nat):HP:=AA e 0 [.slice p (aa xs) c,iN a]
abbrev Ib:List PanicEntry:=pn (.iface 320 (.agg #[]))
def SL{b o k c a n}(hs:Sl p b o k c)(h:a+n≤k):Sl (sp p c a 1) b (o+a*1) n (c-a):=by
 have:=Lz (sz:=1) hs (l:=a) (h:=a+n) C0 C8;rwa[Amc]at this
def oP(x):x&&&63=x%64:=Ali x 6
def Aa0(n x)(G:n<72057594037927936)(F:x<256):(n*2^8%18446744073709551616)|||x=n*256+x:=by
 have h:n*2^8%18446744073709551616=2^8*n:=C0;rw[h,←Aj9 (by omega:x<2^8)];omega
def L_(xs:List UInt8)(a):1*2^((xs.getD a 0).toNat/2^6)%18446744073709551616=DV xs a:=by
 have h:=TW xs a;have e:1*2^((xs.getD a 0).toNat/2^6)=DV xs a:=by rw[Nat.one_mul];rfl
 rw[e];omega
section
variable{P:Program}{n:Nat}{E:A8}{D:CW}{H:HP}{d:Option Tmp}{T T' ty:TypeId}{pos:String}{af:Array Edge}{g:Option (Nat×Bool)}{x y z:Operand}
def Qu{b o i}[hT:DC P T](F:ev E x=some (.pointer (some ⟨b,o+i*1,none⟩)))(hr:AZ B H b o xs)(hi:i<aa xs):
  AY P B n ⟨d,.load T x,ty,pos,af,g⟩ E H (u8 (xs.getD i 0)):=Fa (f:=0) F hr I hi
end
def dC(e H):HI prog B 176 [ptr e 0] H (λ_ _=>False) (λc S=>c=Ib∧S=H):=by
 refine Jt func176 I I I<|J1 ?_;refine JL (FW (cs:=[]) I I I C3)<|A4 ?_;refine Acd (sc (Post:=λ_ _=>False) I) ?_ ?_;rotate_left
 ·exact JR<|OV Dj
 exact MU
def Tu(n)(G:n<9223372036854775808)(rb p b o c)(xs:List UInt8)(a R)(hs:Sl p b o (aa xs) c)(hr:AZ B R b o xs)(F:aa xs<100000000000)(U:a≤aa xs):
  HI prog B 177 [ptr rb 0,uN n] (Db rb p c xs a*R) (λv S=>n≤aa xs-a∧v=.slice (sp p c a 1) n (c-a)∧S=Db rb p c xs (a+n)*R) (λs S=>aa xs-a<n∧s=Ib∧S=R):=by
 refine Jt func177 I I I<|J7 ?_;refine mA 13 13 ?_;refine Eh ?_;refine mC (λu=>?_) (λN=>?_)
 ·refine J2 ?_;refine FE Uc I ?_ ?_;rotate_left
  ·refine JR<|G7 ?_;exact Hy R ⟨C0,I,I⟩
  exact MU
 refine Fj ?_;refine mA 17 17 ?_;refine Eh ?_;refine JT 15 I (Oe (l:=a+n-n) (h:=a+n) (k':=n) I I I C8 C0)<|Bn ?_;refine UU (ts:=[4]) I I ⟨C0,?_,I⟩;rw[Jx];rfl
def Oc(e p b o c)(xs:List UInt8)(a R)(C:Sl p b o (aa xs) c)(hr:AZ B R b o xs)(F:aa xs<100000000000)(U:a≤aa xs):
  HI prog B 197 [ptr e 0] (Db e p c xs a*R) (λv S=>∃n A,CP xs a=some (n,A)∧v=uN n∧S=Db e p c xs A*R) (λs S=>CP xs a=none∧s=Ib∧S=R):=by
 refine Jt func197 I I I ?_;have J:=L_ xs a;have N:=TW xs a;have t:=(xs.getD a 0).toNat_lt;refine Be ?_;refine FE (IZ I (Tu 1 C0 e p b o c xs a R C hr F U)) I ?_ ?_;rotate_left
 ·rintro _ _ ⟨O,rfl,rfl⟩;refine G7 ?_;exact OV ⟨rT,I,I⟩
 rintro _ _ ⟨O,rfl,rfl⟩;refine JL (HQ (i:=0) (b:=b) (o:=o+a*1) (q:=o+a*1) I I (SL C C0) C0 C0)<|JL YL<|J6 ?_;refine JL (gy (j:=63) I I ⟨C0,C0⟩)<|JL (IF I (Ia (by rw[oP];omega)))<|J8 ?_;refine JL (pa (j:=6) I I C0)<|JL (Tt (i:=1) I I C0)<|JL (MR (j:=1) I I (by rw[J];omega))<|FE (IZ (vs:=[ptr e 0,uN (DV xs a-1)]) (by rw[←J];rfl) (Tu (DV xs a-1) C0 e p b o c xs (a+1) R C hr F C0)) I ?_ ?_;rotate_left
 ·rintro _ _ ⟨m,rfl,rfl⟩;refine G7 ?_;refine G7 ?_;exact OV ⟨rT,I,I⟩
 rintro _ _ ⟨m,rfl,rfl⟩;refine BB ?_;refine Bf (λi:Nat=>[(4,uN (IK xs a i)),(19,.slice (sp p c (a+1) 1) (DV xs a-1) (c-(a+1))),(20,iN (DV xs a-1)),(21,iN i)]) (λ_=>Db e p c xs (a+1+(DV xs a-1))*R) (λi=>i≤DV xs a-1) (λi=>DV xs a-1-i) 0 Du (.cons (congrArg (λz=>some (uN z)) (oP _)) DW) I ?_;rintro i M;dsimp only at M⊢;have u:=Ur xs a i;have r:IK xs a i<72057594037927936∨DV xs a-1≤i:=by
  obtain h|rfl|rfl|rfl|rfl|rfl|rfl|rfl:=(by omega:DV xs a-1≤i∨i=0∨i=1∨i=2∨i=3∨i=4∨i=5∨i=6)
  ·exact .inr h
  all_goals (left;simp only[Nat.reducePow,Nat.reduceMul]at u;omega)
 have l:=Sa xs (a+i+1);refine J6 ?_;refine mC (λL=>?_) (λL=>?_)
 ·refine J6 ?_;refine JL (HQ (b:=b) (o:=o+(a+1)*1) (q:=o+(a+i+1)*1) I I (SL C C0) L C0)<|JL (Qu (i:=a+i+1) (xs:=xs) I AH C0)<|J5 ?_;refine JL (Tt (j:=8) I I C0)<|J1 ?_;refine JL (IF I (Ia tN))<|JL (fJ I I ⟨C0,tN⟩)<|Be ?_;exact BV (i+1) (by show i+1≤_;omega) (by show DV xs a-1-(i+1)<DV xs a-1-i;omega) (.cons (congrArg (λz=>some (uN z)) (Aa0 _ _ C0 l)) DW) I
 obtain rfl:i=DV xs a-1:=C0;refine Fi ?_;refine UU (ts:=[2]) I I ⟨_,_,by unfold CP;rw[AJ C0],I,?_⟩;rw[show a+1+(DV xs a-1)=a+DV xs a by omega]
def xd(rb p b o c)(xs:List UInt8)(a R)(hs:Sl p b o (aa xs) c)(hr:AZ B R b o xs)(hx:aa xs<100000000000)(U:a≤aa xs):
  HI prog B 196 [ptr rb 0] (Db rb p c xs a*R) (λv S=>∃n A,Hm xs a=some (n,A)∧v=iN n∧S=Db rb p c xs A*R) (λs S=>Hm xs a=none∧s=Ib∧S=R):=by
 refine Jt func196 I I I<|Be ?_;refine FE Ud I ?_ ?_;rotate_left
 ·rintro _ _ ⟨V,rfl,rfl⟩;refine G7 ?_;exact OV ⟨by unfold Hm;rw[V],I,I⟩
 rintro _ _ ⟨l,K,V,rfl,rfl⟩;have O:=Ep V;refine J7 ?_;refine JL (M0 (j:=4) I I)<|J2 ?_;refine mC (λu=>?_) (λu=>?_)
 ·refine J2 ?_;refine FE Uc I ?_ ?_;rotate_left
  ·refine JR<|G7 ?_;exact Hy R ⟨by unfold Hm;rw[V];exact AF C0,I,I⟩
  exact MU
 refine CY ?_;exact UU (ts:=[2]) I I ⟨l,K,by unfold Hm;rw[V];exact AJ C0,I,I⟩
def Abp(rb p b o c)(xs:List UInt8)(a R)(hs:Sl p b o (aa xs) c)(hr:AZ B R b o xs)(hx:aa xs<100000000000)(U:a≤aa xs):
  HI prog B 202 [ptr rb 0] (Db rb p c xs a*R) (λv S=>∃d A,Hv xs a=some (d,A)∧v=.string (BR d)∧S=Db rb p c xs A*R) (λs S=>Hv xs a=none∧s=Ib∧S=R):=by
 refine Jt func202 I I I<|J9 ?_;refine FE Ud I ?_ ?_;rotate_left
 ·rintro _ _ ⟨V,rfl,rfl⟩;refine G7 ?_;exact OV ⟨by unfold Hv;rw[V],I,I⟩
 rintro _ _ ⟨l,K,V,rfl,rfl⟩;have O:=Ep V;refine FE (IZ I (Tu l C0 rb p b o c xs K R hs hr hx C0)) I ?_ ?_;rotate_left
 ·rintro _ _ ⟨J,rfl,rfl⟩;refine G7 ?_;exact OV ⟨by unfold Hv;rw[V];exact AF C0,I,I⟩
 rintro _ _ ⟨J,rfl,rfl⟩;have hl6:aa ((xs.drop K).take l)=l:=C9;refine JL (KO (xs:=(xs.drop K).take l) (b:=b) (o:=o+K*1) (by rw[hl6];rfl) sO AH)<|J4 ?_;exact UU (ts:=[2]) I I ⟨_,_,by unfold Hv;rw[V];exact AJ C0,I,I⟩
end
section
section
variable{P:Program}{B:World}{n:Nat}{E:A8}{D:CW}{H R:HP}{d:Option Tmp}{T T' ty:TypeId}{pos:String}{af:Array Edge}{g:Option (Nat×Bool)}{x y z:Operand}
 {ops:Array Oper} {Q:Exit→Act→World→Prop} {rest:List Oper} {op:Op}
def Ag0{ds t}(ht:ev E t=some (.func (.func f) #[] us.toArray))(next:WL P B ops Q rest n E ⟨{target:=.fn (.func f) us.toArray,args:= #[]}::ds,none⟩ H):WL P B ops Q (⟨none,.defer ⟨.value t,#[],ats⟩,ty,pos,af,none⟩::rest) n E ⟨ds,none⟩ H:=by
 intro a w O h2 M;unfold Hw;rw[AJ Ni];refine⟨λc b=>absurd I b,λW _=>?_⟩;have q:(execOp a.eval ⟨none,.defer ⟨.value t,#[],ats⟩,ty,pos,af,none⟩).run P (pad w W)=.ok (.defer {target:=.fn (.func f) us.toArray,args:= #[]}) (pad w W):=by
  simp[execOp,resolve,O.ev ht,Deferred.ofValue]
 refine⟨by simp[execOp,resolve,O.ev ht,Deferred.ofValue],?_⟩;rw[q];exact next _ _ O SY (M.EU (.pad w W))
def Rf(P:Program)(B:World)(fn:Func)(Post:Value→HP→Prop):Exit→Act→World→Prop:=
 lE P B.heap.size fn (RP B Post)
def Aco{c args}(hf:P.funcs[f]?=some fn)(hb:fn.body=some c)(G:fn.ntmps=n)(U:Nat.ble (aa args) n=true)(h:WP P B c (Rf P B fn Post) n (IL 0 args) ⟨[],none⟩ H):Fn P B f args H Post:=by
 intro w X;refine aO (R:=RP B Post) hf hb (h _ w ⟨?_,?_⟩ I X)
 ·have:aa args≤n:=by simpa using U
  simp[G];omega
 exact zI
def PG(P:Program)(B:World)(f:FuncId)(args:List Value)(u u':FrameMode)(H:HP)(Post:HP→Prop):Prop:=
 ∀w,Sat B H w→wO P B.heap.size f args.toArray u w λX V=>X=u'∧∃S,Post S∧Sat B S V
def gv{u}[N:Aa P f](q:u≠ .run)(F:PG P B f us u u' H PD)(G:settle u'=.returning)(hr:fn.results=rs.toArray)(j:∀S,PD S→∃i Y,LB P B n E S rs i∧Post (FH i) Y∧CM B S Y):
  ∀a w,DZ n E a→Sat B H w→If P B.heap.size fn a.tmps (RP B Post) [{target:=.fn (.func f) us.toArray,args:= #[]}] u w:=by
 intro a w O M;refine⟨q,λW _=>?_⟩;have M:=M.EU (.pad w W);refine⟨?_,?_,?_⟩
 ·have:=N.Ez B.heap.size (Ec (pad w W)) us.toArray (pad w W);simpa[invoke]using this
 ·have:=N.get us.toArray (pad w W);simpa[invoke]using this
 have k:=F _ M;rw[show(#[]:Array Value)++us.toArray=us.toArray by simp];intro m K o c r Z;refine k m K o c r ?_;rintro X l ⟨rfl,S,J,C⟩;refine Z X l ?_;show If P B.heap.size fn a.tmps (RP B Post) [] (settle X) l;rw[G];obtain⟨i,Y,h,b,e⟩:=j S J;exact tJ (R:=RP B Post) hr O h C λv C=>⟨_,_,I,b,e.get v C⟩
def Aak[N:Aa P f](hd:PG P B f us .returning u' H PD)(hset:settle u'=.returning)(hr:fn.results=rs.toArray)(hv:∀S,PD S→∃i Y,LB P B n E S rs i∧Post (FH i) Y∧CM B S Y):
  BZ B (Rf P B fn Post) .ret n E ⟨[{target:=.fn (.func f) us.toArray,args:= #[]}],none⟩ H:=by
 exact xK
def L! {c}[N:Aa P f](hd:PG P B f us (.panicking c) u' H PD)(hset:settle u'=.returning)(hr:fn.results=rs.toArray)(hv:∀S,PD S→∃i Y,LB P B n E S rs i∧Post (FH i) Y∧CM B S Y):
  BZ B (Rf P B fn Post) (.panic c) n E ⟨[{target:=.fn (.func f) us.toArray,args:= #[]}],none⟩ H:=by
 exact xK
def ry{e:Operand→Value}(w):(execOp e ⟨d,.call ⟨.builtin .recover,#[],ats⟩,ty,pos,af,g⟩).runT P w #[]=(.ok .recover w,#[]):=by
 simp only[execOp,resolve,invoke,builtin];rfl
def Co.lm{main m}{K:Goroutine→World→Prop}{f:Func}{fr:Frame}{caller:Frame}{cs v}(hf:P.funcs[fr.fn]?=some f)(hm:fr.mode=.returning)(F:fr.defers=[])(Z:fr.kind=.deferred)(Y:f.results= #[])(h:Co P main m K (Conc.G {caller with mode:=settle caller.mode} cs) v):Co P main m K (Conc.G fr (caller::cs)) v:=by
 refine .move I (λw=>?_) h;have C:results f fr.tmps=pure (.tuple #[]):=by simp[results,Y]
 have M:doReturn P main fr (caller::cs) none (.tuple #[]) w=.go (Conc.G {caller with mode:=settle caller.mode} cs) w:=by
  simp only[doReturn,Z,Conc.G];cases a:caller.mode with
  |run=>simp[settle,←a]
  |returning=>simp[settle,←a]
  |panicking c=>
   cases c with
   |nil=>simp[settle,←a]
   |cons p b=>
    obtain⟨e,pr,i⟩:=p;cases pr with
    |false=>simp[settle,←a]
    |true=>simp only[settle];split<;>simp_all
 have j:(results f fr.tmps).runT P w #[]=(.ok (.tuple #[]) w,#[]):=by rw[C];rfl
 have X:stepG P main (Conc.G fr (caller::cs)) w=unwind P main fr (caller::cs) none w:=by simp[Conc.G,stepG,hm]
 rw[X];simp only[unwind,F,hm,hf,j,M];rfl
def bR{args u id t t2 pos2 af2 l v}{Post:HP→Prop}(hf:P.funcs[f]?=some fn)(hb:fn.body=some (.seq (.region id #[⟨some t,.call ⟨.builtin .recover,#[],ats⟩,ty,pos,af,none⟩,⟨some t2,.assign (.tmp t),T,pos2,af2,none⟩] false) l))(hn:fn.ntmps=n)(U:Nat.ble (aa args) n=true)(ht:Nat.blt t n=true)(A:Nat.blt t2 n=true)(Y:fn.results= #[])(hv:(u=.returning∧u'=.returning∧v=.nilIface)∨(∃b,u=.panicking ({v:=v,recovered:=false,goexit:=false}::b)∧u'=.panicking ({v:=v,recovered:=true}::b)))(h:∀Q:Exit→Act→World→Prop,(∀E S,Post S→BZ B Q .normal n E ⟨[],none⟩ S)→WP P B l Q n ((t2,v)::(t,v)::IL 0 args) ⟨[],none⟩ H):PG P B f args u u' H Post:=by
 intro w X m K c₀ c q hK;have hE0:DZ n (IL 0 args) {tmps:=args.toArray++Array.replicate (fn.ntmps-args.toArray.size) undef,defers:=[]}:=by
  refine⟨?_,?_⟩
  ·have:aa args≤n:=by simpa using U
   simp[hn];omega
  exact zI
 have hE1:=(hE0.put Mf v).put (t:=t2) (by simpa using A) v;rw[OX .deferred hf hb];generalize ha0:({tmps:=args.toArray++Array.replicate (fn.ntmps-args.toArray.size) undef,defers:=[]}:Act)=a0 at hE0 hE1;let j:Oper:=⟨some t,.call ⟨.builtin .recover,#[],ats⟩,ty,pos,af,none⟩
 let V:Oper:=⟨some t2,.assign (.tmp t),T,pos2,af2,none⟩
 have hd0:a0.defers=[]:=by rw[←ha0]
 have C:({c₀ with mode:=u'}:Frame)={c₀ with mode:=u'}:=rfl;have hrec:tryRecover (Ac f .deferred none a0 [.inRegion #[j,V] [0,1],.code l]) (c₀::c)=some (v,{c₀ with mode:=u'}::c)∨(tryRecover (Ac f .deferred none a0 [.inRegion #[j,V] [0,1],.code l]) (c₀::c)=none∧v=.nilIface∧({c₀ with mode:=u'}::c)=c₀::c):=by
  obtain⟨O,h2,M⟩|⟨b,O,h2⟩:=hv
  ·right;refine⟨by simp[tryRecover,Ac,q,O],M,?_⟩;rw[h2,←O,←q]
  left;simp[tryRecover,Ac,q,O,h2]
 refine .move (g':=Conc.G (Ac f .deferred none a0 [.code (.region id #[j,V] false),.code l]) (c₀::c)) I (λw=>by simp[Conc.G,stepG,stepG.exec,Ac,j,V])<|.move (g':=Conc.G (Ac f .deferred none a0 [.inRegion #[j,V] [0,1],.code l]) (c₀::c)) I (λw=>by simp[Conc.G,stepG,stepG.exec,Ac];rfl)<|.move (g':=Conc.G (Ac f .deferred none (a0.put (some t) v) [.inRegion #[j,V] [1],.code l]) ({c₀ with mode:=u'}::c)) I (λw=>?_) ?_
 ·have J:=λx=>Mc (fn:=f) (kd:=.deferred) (r:=none) (a:=a0) (k:=[.code l]) (ops:= #[j,V]) (i:=0) (rest:=[1]) (o:=j) I x;have Z:stepG P m (Conc.G (Ac f .deferred none a0 [.inRegion #[j,V] [0,1],.code l]) (c₀::c)) w=stepG.apply P true (Ac f .deferred none a0 [.inRegion #[j,V] [0,1],.code l]) (c₀::c) none (execOp a0.eval j) w:=by
   have N:=Su (fn:=f) (kd:=.deferred) (r:=none) (a:=a0) [.inRegion #[j,V] [0,1],.code l];simp only[Ac]at N;simp[Conc.G,stepG,stepG.exec,stepG.oper,Frame.oper?,Ac,N,Region.wanted,j]
  have s:(execOp a0.eval j).runT P w #[]=(.ok .recover w,#[]):=ry w;have W:(Ac f .deferred none a0 [.inRegion #[j,V] [0,1],.code l]).roundOf=none:=rfl;rw[Z];obtain h0|⟨h0,rfl,O⟩:=hrec
  ·simp only[stepG.apply,if_true,s,W,h0,J];rfl
  rw[O];simp only[stepG.apply,if_true,s,W,h0,J];rfl
 have hput:(a0.put (some t) v).eval (.tmp t)=v:=by
  have:=hE0.put (t:=t) Mf v;exact this.ev (by simp[ev,lk])
 refine .move (g':=Conc.G (Ac f .deferred none ((a0.put (some t) v).put (some t2) v) [.inRegion #[j,V] [],.code l]) ({c₀ with mode:=u'}::c)) I (λw=>?_) ?_
 ·have J:=Mc (fn:=f) (kd:=.deferred) (r:=none) (a:=a0.put (some t) v) (k:=[.code l]) (ops:= #[j,V]) (i:=1) (rest:=[]) (o:=V) I v;have N:=Su (fn:=f) (kd:=.deferred) (r:=none) (a:=a0.put (some t) v) [.inRegion #[j,V] [1],.code l];have Z:stepG P m (Conc.G (Ac f .deferred none (a0.put (some t) v) [.inRegion #[j,V] [1],.code l]) ({c₀ with mode:=u'}::c)) w=stepG.apply P true (Ac f .deferred none (a0.put (some t) v) [.inRegion #[j,V] [1],.code l]) ({c₀ with mode:=u'}::c) none (execOp (a0.put (some t) v).eval V) w:=by
   simp only[Ac]at N;simp[Conc.G,stepG,stepG.exec,stepG.oper,Frame.oper?,Ac,N,Region.wanted,V]
  have s:(execOp (a0.put (some t) v).eval V).runT P w #[]=(.ok (.value v) w,#[]):=by
   show(Sem.pure (Next.value ((a0.put (some t) v).eval (.tmp t)))).runT P w #[]=_;rw[hput];rfl
  rw[Z];simp only[stepG.apply,if_true,s,J];rfl
 refine .move (g':=Conc.G (Ac f .deferred none ((a0.put (some t) v).put (some t2) v) [.code l]) ({c₀ with mode:=u'}::c)) I (λw=>by simp[Conc.G,stepG,stepG.exec,Ac]) ?_;let QQ:Exit→Act→World→Prop:=λe a w=>e=.normal∧a.defers=[]∧∃S,Post S∧Sat B S w;refine h QQ (λE S hp a w O h2 M=>⟨I,h2,S,hp,M⟩) _ w hE1 (by simp[Act.put,hd0]) X m K f .deferred [] ({c₀ with mode:=u'}::c) C3 λe a' L F=>?_;obtain⟨rfl,hd,S,hp,hs⟩:=F;exact .move (g':=Conc.G {Ac f .deferred none a' []with mode:=.returning} ({c₀ with mode:=u'}::c)) I (λw=>by simp[Conc.G,stepG,stepG.exec,Ac])<|Co.lm (f:=fn) hf I hd I Y (hK u' L ⟨I,S,hp,hs⟩)
end
end
section
variable{B:World}
abbrev r0(k:Int)(fin:Bool):RF:=⟨⟨k,0,0,0,fin,⟨#[]⟩,[]⟩,none,0,0,0,[]⟩
def Lv(t:UInt8):Ef t=if t.toNat=0 then 1 else if t.toNat=1 then 2 else if t.toNat=2 then 3 else if t.toNat=4 then 4 else if t.toNat=8∨t.toNat=9 then 5 else if t.toNat=28 then 6 else 0:=by
 unfold Ef;simp only[←Ajj];rfl
def zx(t:UInt8)(h:Ef t≠0):EV (Ef t):=by
 rw[Lv]at*;unfold EV
 repeat' split
 all_goals first|omega|(exfalso;simp_all)
def yt(t:UInt8)(H:HP):Fn prog B 178 [u8 t] H (λv S=>v=.tuple #[iN (Ef t),.bool (decide (Ef t≠0))]∧S=H):=by
 refine mI func178 ?_;refine Eh ?_;refine JL (Dy (i:=t.toNat) (j:=0) I I)<|J3 ?_;refine mC (λc=>?_) (λe=>?_)
 ·exact UE
 refine J2 ?_;refine JL (Dy (i:=t.toNat) (j:=1) I I)<|J3 ?_;refine mC (λh=>?_) (λl=>?_)
 ·exact UE
 refine J2 ?_;refine JL (Dy (i:=t.toNat) (j:=2) I I)<|J3 ?_;refine mC (λm=>?_) (λo=>?_)
 ·exact UE
 refine J2 ?_;refine JL (Dy (i:=t.toNat) (j:=4) I I)<|J3 ?_;refine mC (λa=>?_) (λb=>?_)
 ·exact UE
 refine J3 ?_;refine JL (Dy (i:=t.toNat) (j:=8) I I)<|J3 ?_;refine mC (λyt13=>?_) (λnt13=>?_)
 ·refine J2 ?_;exact vE
 refine J1 ?_;refine JL (Dy (i:=t.toNat) (j:=9) I I)<|J3 ?_;exact vE
def Fp{r:RF}(h:r.f.ranges=[])(W:r.c=0)(C:r.s=[]):r.ok∧r.own∧Ed r=Bs:=by
 refine⟨?_,?_,?_⟩
 ·unfold RF.ok;rw[h,W];exact E7
 ·unfold RF.own;rw[h,W,C];rfl
 unfold Ed;rw[h,C,GY]
def Abl(e l fin p b o c)(xs:List UInt8)(a R)(C:Sl p b o (aa xs) c)(hr:AZ B R b o xs)(F:aa xs<100000000000)(U:a≤aa xs):
  HI prog B 218 [ptr e 0,ptr l 0] (Db e p c xs a*(AA l 0 (AN (r0 1 fin))*R)) (λ_ S=>∃r A,DG xs 1 fin a=some (r.f,A)∧r.ok∧r.own∧S=Db e p c xs A*(AA l 0 (AN r)*(Ed r*R))) (λs S=>DG xs 1 fin a=none∧s=Ib∧S=R):=by
 refine Jt func218 I I I<|J1 ?_;exact Qo (ts:=[]) I I ⟨r0 1 fin,_,I,(Fp I I I).1,(Fp I I I).2.1,by rw[(Fp (r:=r0 1 fin) I I I).2.2,BS]⟩
def gh(e l fin p b o c)(xs:List UInt8)(a R)(C:Sl p b o (aa xs) c)(hr:AZ B R b o xs)(F:aa xs<100000000000)(U:a≤aa xs):
  HI prog B 218 [ptr e 0,ptr l 0] (Db e p c xs a*(AA l 0 (AN (r0 2 fin))*R)) (λ_ S=>∃r A,DG xs 2 fin a=some (r.f,A)∧r.ok∧r.own∧S=Db e p c xs A*(AA l 0 (AN r)*(Ed r*R))) (λs S=>DG xs 2 fin a=none∧s=Ib∧S=R):=by
 refine Jt func218 I I I<|J1 ?_;exact Qo (ts:=[]) I I ⟨r0 2 fin,_,I,(Fp I I I).1,(Fp I I I).2.1,by rw[(Fp (r:=r0 2 fin) I I I).2.2,BS]⟩
def Abd(rb l fin p b o c)(xs:List UInt8)(a R)(hs:Sl p b o (aa xs) c)(hr:AZ B R b o xs)(hx:aa xs<100000000000)(U:a≤aa xs):
  HI prog B 195 [ptr rb 0,ptr l 0] (Db rb p c xs a*(AA l 0 (AN (r0 4 fin))*R)) (λ_ S=>∃r A,DG xs 4 fin a=some (r.f,A)∧r.ok∧r.own∧S=Db rb p c xs A*(AA l 0 (AN r)*(Ed r*R))) (λs S=>DG xs 4 fin a=none∧s=Ib∧S=R):=by
 refine Jt func195 I I I<|J5 ?_;refine FE uR I ?_ ?_;rotate_left
 ·rintro _ _ ⟨e8,rfl,rfl⟩;exact Hy R ⟨tQ,I,I⟩
 rintro _ _ ⟨j,a8,e8,rfl,rfl⟩;have q:=O4 e8;refine J1 ?_;refine FE Z4 I ?_ ?_;rotate_left
 ·rintro _ _ ⟨e10,rfl,rfl⟩;exact Hy R ⟨vV,I,I⟩
 rintro _ _ ⟨F,a10,e10,rfl,rfl⟩;have h:=Ep e10;refine J1 ?_;refine FE iQ I ?_ ?_;rotate_left
 ·rintro _ _ ⟨e12,rfl,rfl⟩;exact Hy R ⟨Ti,I,I⟩
 rintro _ _ ⟨X,e,e12,rfl,rfl⟩;have i:=Ep e12;refine Ei ?_;exact Qo (ts:=[]) I I ⟨⟨⟨4,(j:Nat),X,F,fin,⟨#[]⟩,[]⟩,none,0,0,0,[]⟩,e,Ti,(Fp I I I).1,(Fp I I I).2.1,by rw[(Fp (r:=⟨⟨4,(j:Nat),X,F,fin,⟨#[]⟩,[]⟩,none,0,0,0,[]⟩) I I I).2.2,BS]⟩
def xa(rb l fin p b o c)(xs:List UInt8)(a R)(hs:Sl p b o (aa xs) c)(hr:AZ B R b o xs)(hx:aa xs<100000000000)(U:a≤aa xs):
  HI prog B 201 [ptr rb 0,ptr l 0] (Db rb p c xs a*(AA l 0 (AN (r0 5 fin))*R)) (λ_ S=>∃r A,DG xs 5 fin a=some (r.f,A)∧r.ok∧r.own∧S=Db rb p c xs A*(AA l 0 (AN r)*(Ed r*R))) (λs S=>DG xs 5 fin a=none∧s=Ib∧S=R):=by
 refine Jt func201 I I I<|J5 ?_;refine FE uR I ?_ ?_;rotate_left
 ·rintro _ _ ⟨e8,rfl,rfl⟩;exact Hy R ⟨tQ,I,I⟩
 rintro _ _ ⟨j,a8,e8,rfl,rfl⟩;have q:=O4 e8;refine J1 ?_;refine FE Z4 I ?_ ?_;rotate_left
 ·rintro _ _ ⟨e10,rfl,rfl⟩;exact Hy R ⟨vV,I,I⟩
 rintro _ _ ⟨F,m,e10,rfl,rfl⟩;have h:=Ep e10;refine J1 ?_;refine FE (IZ I (Abp rb p b o c xs m _ hs AH hx C0)) I ?_ ?_;rotate_left
 ·rintro _ _ ⟨e12,rfl,rfl⟩;exact Hy R ⟨Ti,I,I⟩
 rintro _ _ ⟨X,e,e12,rfl,rfl⟩;have i:=Wn e12;refine Ei ?_;exact Qo (ts:=[]) I I ⟨⟨⟨5,(j:Nat),F,0,fin,BR X,[]⟩,none,0,0,0,[]⟩,e,Ti,(Fp I I I).1,(Fp I I I).2.1,by rw[(Fp (r:=⟨⟨5,(j:Nat),F,0,fin,BR X,[]⟩,none,0,0,0,[]⟩) I I I).2.2,BS]⟩
def wc(G rb l fin p b o c)(xs:List UInt8)(a R)(hs:Sl p b o (aa xs) c)(hr:AZ B R b o xs)(hx:aa xs<100000000000)(U:a≤aa xs)[N:Rd B R G 0 (Hl 205 []) True]:
  HI prog B 220 [ptr rb 0,ptr l 0,ptr G 0] (Db rb p c xs a*(AA l 0 (AN (r0 6 fin))*R)) (λ_ S=>∃r A,DG xs 6 fin a=some (r.f,A)∧r.ok∧r.own∧S=Db rb p c xs A*(AA l 0 (AN r)*(Ed r*R))) (λs S=>DG xs 6 fin a=none∧s=Ib∧S=R):=by
 refine Jt func220 I I I<|A5 ?_;refine Ae (HD I I (zD l _)) I<|GZ ?_;refine FE Ud I ?_ ?_;rotate_left
 ·rintro _ _ ⟨e9,rfl,rfl⟩;exact Hy R ⟨oV,I,I⟩
 rintro _ _ ⟨e,h,e9,rfl,rfl⟩;have m:=Ep e9;refine J3 ?_;exact Qo (ts:=[]) I I ⟨⟨⟨6,0,0,e,fin,⟨#[]⟩,[]⟩,none,0,0,0,[]⟩,h,oV,(Fp I I I).1,(Fp I I I).2.1,by rw[(Fp (r:=⟨⟨6,0,0,e,fin,⟨#[]⟩,[]⟩,none,0,0,0,[]⟩) I I I).2.2,BS]⟩
structure IM where
 rs:List AS
 hi:Nat
 n:Nat
 size:Nat
 a:Nat
 p:Option Addr
 b:Nat
 o:Nat
 c:Nat
 s:List Value
abbrev IM.rf(z:IM)(fin:Bool):RF:=⟨⟨3,0,0,0,fin,⟨#[]⟩,z.rs⟩,z.p,z.b,z.o,z.c,z.s⟩
def HW(xs:List UInt8)(z:IM):Option (List AS×Nat):=
 if z.size≤z.hi then match Fl xs z.n (z.hi-z.size) z.a with
  |some (q,b)=>some (z.rs++⟨z.hi-z.size,z.hi⟩::q,b)
  |none=>none
 else none
def Abz{a hi U n L O}(C:CP xs a=some (hi,U))(M:CP xs U=some (n,L))(b:CP xs L=some (size,O)):
  EQ xs a=HW xs ⟨[],hi,n,size,O,none,0,0,0,[]⟩:=by
 simp only[EQ,C,M,b,HW,l0];split
 ·cases Fl xs n (hi-size) O<;>rfl
 rfl
def Aea{z:IM}(h:¬z.size≤z.hi):HW xs z=none:=by rw[HW,AF h]
def T! {z:IM}(h:z.size≤z.hi)(G:z.n=0):HW xs z=some (z.rs++[(⟨z.hi-z.size,z.hi⟩:AS)],z.a):=by
 rw[HW,AJ h,G];rfl
def Abm{z:IM}{m}(G:z.n=m+1)(e:CP xs z.a=none):HW xs z=none:=by
 rw[HW];split
 ·simp only[G,Fl,e]
 rfl
def p8{z:IM}{m i U}(G:z.n=m+1)(e:CP xs z.a=some (i,U))(M:CP xs U=none):HW xs z=none:=by
 rw[HW];split
 ·simp only[G,Fl,e,M]
 rfl
def Acu{z:IM}{m i U L}(G:z.n=m+1)(e:CP xs z.a=some (i,U))(M:CP xs U=some (size,L))(h:z.hi-z.size<2∨z.hi-z.size-2<i):HW xs z=none:=by
 rw[HW];split
 ·simp only[G,Fl,e,M];rw[AF C0]
 rfl
def Abb{z:IM}{m i U L}(Y:z.size≤z.hi)(G:z.n=m+1)(e:CP xs z.a=some (i,U))(M:CP xs U=some (size,L))(h:2≤z.hi-z.size)(S:i≤z.hi-z.size-2)(p b o c s):
  HW xs z=HW xs ⟨z.rs++[(⟨z.hi-z.size,z.hi⟩:AS)],z.hi-z.size-2-i,m,size,L,p,b,o,c,s⟩:=by
 rw[HW,AJ Y,HW];simp only[G,Fl,e,M];by_cases j:size≤z.hi-z.size-2-i
 ·rw[AJ C0,AJ j];cases Fl xs m (z.hi-z.size-2-i-size) L with
  |none=>rfl
  |some w=>obtain⟨q,k⟩:=w;simp
 rw[AF C0,AF j]
def qS{fin a rs a'}(h:EQ xs a=some (rs,a')):DG xs 3 fin a=some (⟨3,0,0,0,fin,⟨#[]⟩,rs⟩,a'):=by
 unfold DG;simp only[Nat.reduceEqDiff,if_false,if_true,h]
def M2{fin a}(h:EQ xs a=none):DG xs 3 fin a=none:=by
 unfold DG;simp only[Nat.reduceEqDiff,if_false,if_true,h]
def u_(rb l fin p b o c)(xs:List UInt8)(a R)(hs:Sl p b o (aa xs) c)(hr:AZ B R b o xs)(hx:aa xs<100000000000)(U:a≤aa xs):
  HI prog B 191 [ptr rb 0,ptr l 0] (Db rb p c xs a*(AA l 0 (AN (r0 3 fin))*R)) (λ_ S=>∃r A,DG xs 3 fin a=some (r.f,A)∧r.ok∧r.own∧S=Db rb p c xs A*(AA l 0 (AN r)*(Ed r*R))) (λch S=>DG xs 3 fin a=none∧ch=Ib∧S=R):=by
 refine Jt func191 I I I<|J3 ?_;refine FE Ud I ?_ ?_;rotate_left
 ·rintro _ _ ⟨e,rfl,rfl⟩;refine G7 ?_;exact Hy R ⟨M2 (by simp only[EQ,e]),I,I⟩
 rintro _ _ ⟨F,a10,e,rfl,rfl⟩;have g10:=Ep e;refine J1 ?_;refine FE iQ I ?_ ?_;rotate_left
 ·rintro _ _ ⟨e12,rfl,rfl⟩;refine G7 ?_;exact Hy R ⟨M2 (by simp only[EQ,e,e12]),I,I⟩
 rintro _ _ ⟨X,a12,e12,rfl,rfl⟩;have g12:=Ep e12;refine J1 ?_;refine FE (IZ I (Oc rb p b o c xs a12 _ hs AH hx C0)) I ?_ ?_;rotate_left
 ·rintro _ _ ⟨e14,rfl,rfl⟩;refine G7 ?_;exact Hy R ⟨M2 (by simp only[EQ,e,e12,e14]),I,I⟩
 rintro _ _ ⟨n14,a14,e14,rfl,rfl⟩;have g14:=Ep e14;refine J6 ?_;refine Bf (α:=IM) (λz=>[(0,ptr rb 0),(1,ptr l 0),(4,uN z.hi),(5,uN z.n),(6,uN z.size)]) (λz=>Db rb p c xs z.a*(AA l 0 (AN (z.rf fin))*(AC z.b z.o z.rs z.s*R))) (λz=>z.hi≤4611686018427387903∧z.n≤4611686018427387903∧z.size≤4611686018427387903∧z.a≤aa xs∧aa z.rs≤z.a∧Sl z.p z.b z.o (aa z.rs) z.c∧aa z.rs*2+aa z.s=z.c*2∧EQ xs a=HW xs z) (λz=>z.n) ⟨[],F,X,n14,a14,none,0,0,0,[]⟩ ⟨g10.1,g12.1,g14.1,g14.2.2,bk _,E7,I,Abz e e12 e14⟩ Gx (by show _=Db rb p c xs a14*(AA l 0 (AN (r0 3 fin))*(AC 0 0 ([]:List AS) []*R));rw[GY,BS]) ?_;rintro z ⟨V,G,L,hza,O,W,N,hinv⟩;refine BQ ?_;refine mC (λu=>?_) (λY=>?_)
 ·refine J2 ?_;refine FE Uc I ?_ ?_;rotate_left
  ·refine JR<|MQ ?_;exact Hy R ⟨M2 (by rw[hinv];exact Aea C0),I,I⟩
  exact MU
 refine IU ?_;refine JL (FW (cs:=[uN (z.hi-z.size),uN z.hi]) I I I C5)<|Ae (Gn (cs:=[uN (z.hi-z.size),uN z.hi]) I Cc I I) I ?_;rintro _ _ ⟨b31,rfl,rfl⟩;refine BH (H':=AC z.b z.o z.rs z.s*(AA b31 0 (AE [(⟨z.hi-z.size,z.hi⟩:AS)])*(Db rb p c xs z.a*(AA l 0 (AN (z.rf fin))*R)))) (by show AA b31 0 (AE [(⟨z.hi-z.size,z.hi⟩:AS)])*_=_;ac_rfl)<|Ae (CA (ys:=[(⟨z.hi-z.size,z.hi⟩:AS)]) (bb:=b31) (oo:=0) (cc:=1) I W N I Bz AH I Cd C0) I ?_;rintro _ _ ⟨p32,w,C,t,M,rfl,hs32,K,rfl⟩;refine J7 ?_;refine A3 (H':=Db rb p c xs z.a*(AA l 0 (AN (IM.rf ⟨z.rs++[(⟨z.hi-z.size,z.hi⟩:AS)],0,0,0,0,p32,w,C,t,M⟩ fin))*(AC w C (z.rs++[(⟨z.hi-z.size,z.hi⟩:AS)]) M*(AA b31 0 (AE [(⟨z.hi-z.size,z.hi⟩:AS)])*R)))) (by show _=_;ac_rfl)<|BB ?_;refine mC (λJ=>?_) (λJ=>?_)
 ·refine J5 ?_;exact x8 (ts:=[]) (Db rb p c xs z.a*(AA l 0 (AN (IM.rf ⟨z.rs++[(⟨z.hi-z.size,z.hi⟩:AS)],0,0,0,0,p32,w,C,t,M⟩ fin))*(AC w C (z.rs++[(⟨z.hi-z.size,z.hi⟩:AS)]) M*R))) I I ⟨IM.rf ⟨z.rs++[(⟨z.hi-z.size,z.hi⟩:AS)],0,0,0,0,p32,w,C,t,M⟩ fin,z.a,qS (by rw[hinv];exact T! C0 J),hs32,K,I⟩
 obtain⟨m,hm⟩:∃m,z.n=m+1:=⟨z.n-1,C0⟩
 refine DY ?_;refine FE (IZ I (Oc rb p b o c xs z.a _ hs AH hx C0)) I ?_ ?_;rotate_left
 ·rintro _ _ ⟨e40,rfl,rfl⟩;refine MQ ?_;exact Hy R ⟨M2 (by rw[hinv];exact Abm hm e40),I,I⟩
 rintro _ _ ⟨n40,a40,e40,rfl,rfl⟩;have g40:=Ep e40;refine J6 ?_;refine FE (IZ I (Oc rb p b o c xs a40 _ hs AH hx C0)) I ?_ ?_;rotate_left
 ·rintro _ _ ⟨e42,rfl,rfl⟩;refine MQ ?_;exact Hy R ⟨M2 (by rw[hinv];exact p8 hm e40 e42),I,I⟩
 rintro _ _ ⟨n42,a42,e42,rfl,rfl⟩;have g42:=Ep e42;refine J7 ?_;refine JL RH<|J1 ?_;refine DU 45 I (λhg1=>?_) (λhg1=>?_)
 ·refine CY ?_;exact jK
 refine CK ?_;refine mC (λhb5=>?_) (λhb5=>?_)
 ·refine J2 ?_;exact jK
 refine CY ?_;exact Bg (Db rb p c xs a42*(AA l 0 (AN (IM.rf ⟨z.rs++[(⟨z.hi-z.size,z.hi⟩:AS)],z.hi-z.size-2-n40,m,n42,a42,p32,w,C,t,M⟩ fin))*(AC w C (z.rs++[(⟨z.hi-z.size,z.hi⟩:AS)]) M*R)))<|BV (⟨z.rs++[(⟨z.hi-z.size,z.hi⟩:AS)],z.hi-z.size-2-n40,m,n42,a42,p32,w,C,t,M⟩:IM) ⟨by show z.hi-z.size-2-n40≤_;omega,by show m≤_;omega,g42.1,g42.2.2,by show(z.rs++[_]).length≤a42;rw[a5,mz];omega,hs32,K,by rw[hinv];exact Abb C0 hm e40 e42 C0 C0 _ _ _ _ _⟩ (by show m<z.n;omega) (.cons I (.cons I (.cons I (.cons (by rw[hm];rfl) Jz)))) I
def tn{k:Nat}{C:HP}(h:Gw k f1 us1 f2 us2 f3 us3 C)(e l:Nat)(fin:Bool)(p:Option Addr)(b o c:Nat)(xs:List UInt8)(a:Nat)(R:HP)(i:Sl p b o (aa xs) c)(hr:AZ B R b o xs)(F:aa xs<100000000000)(U:a≤aa xs):
  Aa prog f2∧HI prog B f2 ([ptr e 0,ptr l 0]++us2) (Db e p c xs a*(AA l 0 (AN (r0 k fin))*(C*R))) (λ_ S=>∃r A,DG xs k fin a=some (r.f,A)∧r.ok∧r.own∧S=Db e p c xs A*(AA l 0 (AN r)*(Ed r*(C*R)))) (λs S=>DG xs k fin a=none∧s=Ib∧S=C*R):=by
 generalize Z:(k:Int)=kk at h;cases h with
 |pad m=>
  obtain rfl:k=1:=C0;exact⟨AH,Abl e l fin p b o c xs a _ i AH F U⟩
 |ping m=>
  obtain rfl:k=2:=C0;exact⟨AH,gh e l fin p b o c xs a _ i AH F U⟩
 |ack=>
  obtain rfl:k=3:=C0;exact⟨AH,u_ e l fin p b o c xs a _ i AH F U⟩
 |reset=>
  obtain rfl:k=4:=C0;exact⟨AH,Abd e l fin p b o c xs a _ i AH F U⟩
 |data=>
  obtain rfl:k=5:=C0;exact⟨AH,xa e l fin p b o c xs a _ i AH F U⟩
 |bye m G=>
  obtain rfl:k=6:=C0;exact⟨AH,wc G e l fin p b o c xs a _ i AH F U⟩
end
end Go.Proofs.YtgfdlpcdjklcoaaGreatDoor
