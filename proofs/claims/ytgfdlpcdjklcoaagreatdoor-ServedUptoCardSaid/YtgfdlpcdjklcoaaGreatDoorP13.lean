/- Steps of this proof; no condition. -/
import Derived.Test.YtgfdlpcdjklcoaaGreatDoorP12
namespace Go.Proofs.YtgfdlpcdjklcoaaGreatDoor
open Go Go.RowKit Go.Proofs.Tryz HP
open _root_.List renaming length→aa
set_option linter.all false
variable{xs:List UInt8}{a size:Nat}{rs:List AS}
set_option maxRecDepth 20000
section
variable{B:World}
def kS(r:RF)(H:HP)(hm:G6 r)(hr:AZ B H r.b r.o r.f.ranges):
  Fn prog B 107 [.agg (AN r).toArray] H (λv S=>v=.bool (decide (B4 r.f))∧S=H):=by
 refine mI func107 ?_;refine I8 ?_;rintro _ _ ⟨b1,rfl,rfl⟩;refine Be ?_;refine JL Ny<|J1 ?_;refine DU 8 I (λK=>?_) (λK=>?_)
 ·refine Ff ?_;refine BE ?_;exact Ky
 refine BB ?_;refine JL Ny<|BE ?_;refine DU 13 I (λe=>?_) (λe=>?_)
 ·refine IU ?_;exact Ky
 refine BB ?_;refine JL (Jr (i:=r.f.stream) (j:=0) I I)<|BE ?_;refine DU 18 I (λO=>?_) (λO=>?_)
 ·refine FM ?_;exact Ky
 refine BB ?_;refine JL (Kl (i:=r.f.stream) (j:=4) I I)<|A5 ?_;refine mC (λc=>?_) (λc=>?_)
 ·refine J7 ?_;exact Ky
 refine DY ?_;refine JL Rn<|J3 ?_;refine mC (λhk3=>?_) (λhk3=>?_)
 ·refine Bt ?_;refine Bf (λi:Nat=>[(1,ptr b1 0),(3,iN i)]) (λ_=>AA b1 0 (AN r)*H) (λi=>i≤aa r.f.ranges∧∀j,j<i→Gc r.f.ranges j) (λi=>aa r.f.ranges-i) 0 ⟨bk _,λj hj=>by omega⟩ H5 I ?_;rintro i ⟨M,hall⟩;dsimp only at M hall⊢;refine CY ?_;refine mC (λhlt=>?_) (λhlt=>?_)
  ·refine BQ ?_;refine JL (CJ (b:=r.b) (o:=r.o) I I hm.ok hlt)<|JL rJ<|LV ?_;rintro _ _ ⟨J,rfl,rfl⟩;refine Bn ?_;refine mA 37 37 ?_;refine DE ?_;refine D4 44 I (λhg4=>?_) (λhg4=>?_)
   ·refine HL ?_;exact pE
   refine BE ?_;refine JY 8 I F4 Ny<|BE ?_;refine D4 49 I (λp=>?_) (λp=>?_)
   ·refine HL ?_;refine DY ?_;exact Ky
   refine A5 ?_;refine D4 52 I (λhg6=>?_) (λhg6=>?_)
   ·refine A5 ?_;refine JY 17 I T6 (Ji (j:=1) I I W0)<|JY 18 I T6 dN<|A4 ?_;refine JY 20 I T6 UF<|JY 21 I T6 RH<|A4 ?_;refine D4 61 I (λhg7=>?_) (λhg7=>?_)
    ·refine HL ?_;exact Ky
    refine BB ?_;refine JY 28 I F7 (Ji (j:=1) I I W0)<|JY 29 I F7 dN<|A4 ?_;refine JY 31 I F7 UF<|JY 32 I F7 (MR (j:=2) I I xN)<|DE ?_;refine mC (λu=>?_) (λu=>?_)
    ·refine Ki ?_;exact Ky
    refine J5 ?_;exact gW
   refine HL ?_;refine A4 ?_;exact gW
  have s:i=aa r.f.ranges:=C0;have hdone:∀j,j<aa r.f.ranges→Gc r.f.ranges j:=s▸hall;exact pE
 refine Tg ?_;refine mC (λhk5=>?_) (λhk5=>?_)
 ·refine BB ?_;refine JL (IF I (Ia PJ))<|BE ?_;refine JL bO<|Bt ?_;exact Ky
 refine Bt ?_;refine JL (Kl (i:=r.f.kind) (j:=1) I I)<|J1 ?_;refine DU 93 I (λm=>?_) (λm=>?_)
 ·refine BB ?_;refine JL (uo (i:=r.f.kind) (j:=6) I I)<|BB ?_;exact Ky
 refine Be ?_;exact Ky
def qy(r:RF)(p b o c)(xs:List UInt8)(s H)(hm:G6 r)(hokf:B4 r.f)(hr:AZ B H r.b r.o r.f.ranges)(C:Sl p b o (aa xs) c)(W:aa xs*1+aa s=c*1)(F:aa xs<100000000000):
  Fn prog B 108 [.slice p (aa xs) c,.agg (AN r).toArray] (AC b o xs s*H) (λv S=>DI H (xs++Av r.f) v S):=by
 refine mI func108 ?_;obtain⟨w,J,hs0,hs4,hok,hkk⟩:=hokf;have hst:r.f.stream=((r.f.stream.toNat:Nat):Int):=C0;have q1:=DS r.f.stream.toNat;have q2:=DS r.f.code;have q3:=DS r.f.offset;have q4:=DS r.f.data.size;refine I8 ?_;rintro _ _ ⟨K,rfl,rfl⟩;refine FC ?_;refine JL (Eo (i:=r.f.kind) (j:=1) I I)<|J3 ?_;refine mC (λhk1=>?_) (λhk1=>?_)
 ·refine J3 ?_;refine Ga ?_;rintro _ _ ⟨b12,rfl,rfl⟩;refine BH (H':=AC b o xs s*(AA b12 0 (AE [(0:UInt8)])*(AA K 0 (AN r)*H))) (by show AA b12 0 (AE [(0:UInt8)])*_=_;ac_rfl)<|Ae (CA (ys:=[(0:UInt8)]) (bb:=b12) (oo:=0) (cc:=1) I C W I Bz AH I Cd C0) I ?_;rintro _ _ ⟨p13,Y,o13,c13,s13,rfl,hs13,hc13,rfl⟩;refine J6 ?_;exact mR [4] (AC Y o13 (xs++[0]) s13*H) I I (by rw[show Av r.f=[0] by simp[Av,hk1]];exact⟨p13,Y,o13,c13,s13,I,hs13,hc13,I⟩)
 refine J2 ?_;refine JL (Eo (i:=r.f.kind) (j:=2) I I)<|J3 ?_;refine mC (λN=>?_) (λN=>?_)
 ·refine J3 ?_;refine Ga ?_;rintro _ _ ⟨R,rfl,rfl⟩;refine BH (H':=AC b o xs s*(AA R 0 (AE [(1:UInt8)])*(AA K 0 (AN r)*H))) (by show AA R 0 (AE [(1:UInt8)])*_=_;ac_rfl)<|Ae (CA (ys:=[(1:UInt8)]) (bb:=R) (oo:=0) (cc:=1) I C W I Bz AH I Cd C0) I ?_;rintro _ _ ⟨m,G,o18,t,s18,rfl,O,hc18,rfl⟩;refine J6 ?_;exact mR [4] (AC G o18 (xs++[1]) s18*H) I I (by rw[show Av r.f=[1] by simp[Av,N]];exact⟨m,G,o18,t,s18,I,O,hc18,I⟩)
 refine J2 ?_;refine JL Rn<|J3 ?_;refine mC (λu=>?_) (λu=>?_)
 ·have hra:=hok.1 u;have hne:0<aa r.f.ranges:=kz.2 hra.1;have h0:=hra.2 0 hne;unfold Gc at h0;have q5:=DS (rg r.f.ranges 0).hi;have q6:=DS (aa r.f.ranges-1);have q7:=DS ((rg r.f.ranges 0).hi-(rg r.f.ranges 0).lo);have hml:=hm.len;refine J3 ?_;refine Ga ?_;rintro _ _ ⟨L,rfl,rfl⟩;refine BH (H':=AC b o xs s*(AA L 0 (AE [(2:UInt8)])*(AA K 0 (AN r)*H))) (by show AA L 0 (AE [(2:UInt8)])*_=_;ac_rfl)<|Ae (CA (ys:=[(2:UInt8)]) (bb:=L) (oo:=0) (cc:=1) I C W I Bz AH I Cd C0) I ?_;rintro _ _ ⟨p23,b23,A,c23,s23,rfl,hs23,hc23,rfl⟩;refine Be ?_;refine JL Vf<|J1 ?_;refine JL tD<|mE I (JE ((rg r.f.ranges 0).hi) h0.2.1 p23 b23 A c23 (xs++[2]) s23 _ hs23 hc23 Cu) ?_;rintro _ _ ⟨p30,b30,o30,c30,s30,rfl,hs30,hc30,rfl⟩;refine CK ?_;refine mE I (JE (aa r.f.ranges-1) C0 p30 b30 o30 c30 (xs++[2]++AU (rg r.f.ranges 0).hi) s30 _ hs30 hc30 Cu) ?_;rintro _ _ ⟨p37,b37,o37,c37,s37,rfl,hs37,hc37,rfl⟩;refine J4 ?_;refine I4 (AC b37 o37 (xs++[2]++AU (rg r.f.ranges 0).hi++AU (aa r.f.ranges-1)) s37*(AA K 0 (AN r)*H))<|EI (AA K 0 (AN r)*H) 12 14 EO I C1<|A5 ?_;refine JT 3 I Vf<|A4 ?_;refine JT 5 I tD<|BE ?_;refine JT 8 I Vf<|A4 ?_;refine JT 10 I (JC (i:=0) (xs:=r.f.ranges) I AH hne)<|A4 ?_;refine Au 12 C1 I I (Bd I (JE ((rg r.f.ranges 0).hi-(rg r.f.ranges 0).lo) C0 p37 b37 o37 c37 (xs++[2]++AU (rg r.f.ranges 0).hi++AU (aa r.f.ranges-1)) s37 _ hs37 hc37 Cu)) ?_;rintro _ _ ⟨p50,b50,o50,c50,s50,rfl,hs50,hc50,rfl⟩;refine FF ?_;refine GU 13 C1 I I HG Fk<|DE ?_;refine J3 ?_;generalize V:xs++[2]++AU (rg r.f.ranges 0).hi++AU (aa r.f.ranges-1)++AU ((rg r.f.ranges 0).hi-(rg r.f.ranges 0).lo)=pre at*;have hpl:aa pre<200000000000:=by rw[←V];simp only[a5,f',ss];omega
  refine Bf (α:=Nat×Option Addr×Nat×Nat×Nat×List Value) (λz=>[(0,.slice z.2.1 (aa (pre++CF r.f.ranges z.1)) z.2.2.2.2.1),(3,ptr K 0),(5,iN (z.1+1))]) (λz=>AC z.2.2.1 z.2.2.2.1 (pre++CF r.f.ranges z.1) z.2.2.2.2.2*(AA K 0 (AN r)*H)) (λz=>z.1≤aa r.f.ranges-1∧Sl z.2.1 z.2.2.1 z.2.2.2.1 (aa (pre++CF r.f.ranges z.1)) z.2.2.2.2.1∧aa (pre++CF r.f.ranges z.1)*1+aa z.2.2.2.2.2=z.2.2.2.2.1*1) (λz=>aa r.f.ranges-1-z.1) (0,p50,b50,o50,c50,s50) ⟨bk _,by simpa[CF]using hs50,by simpa[CF]using hc50⟩ (by simp only[CF,g8];exact .cons I H5) Yg ?_;rintro⟨i,p9,b9,o9,c9,s9⟩ ⟨M,e,X⟩;dsimp only at M e X⊢;have hel:=P' r.f.ranges i;have hyl:aa (pre++CF r.f.ranges i)<900000000000:=by simp only[a5];omega
  generalize hys:pre++CF r.f.ranges i=ys at*;refine fC ?_;refine mC (λhlt=>?_) (λhlt=>?_)
  ·have hk:=hra.2 (i+1) C0;have hk0:=hra.2 i C0;unfold Gc at hk hk0;simp only[Jx]at hk;have v1:=DS ((rg r.f.ranges i).lo-(rg r.f.ranges (i+1)).hi-2);refine J5 ?_;refine EI (AA K 0 (AN r)*H) 16 18 EO I C1<|Bn ?_;refine JT 4 I (Ji (i:=i+1) (j:=1) I I C0)<|JT 5 I (HQ (i:=i+1-1) (b:=r.b) (o:=r.o) (q:=r.o+i*2) I I hm.ok C0 C0)<|A4 ?_;refine JT 7 I rS<|A5 ?_;refine JT 11 I VJ<|A4 ?_;refine JT 13 I qX<|BE ?_;refine Au 16 C1 I I (Bd I (JE ((rg r.f.ranges i).lo-(rg r.f.ranges (i+1)).hi-2) C0 p9 b9 o9 c9 ys s9 _ e X C0)) ?_;rintro _ _ ⟨p74,b74,o74,c74,s74,rfl,hs74,hc74,rfl⟩;refine FF ?_;refine GU 17 C1 I I HG Fk<|BE ?_;refine EI (AA K 0 (AN r)*H) 14 16 EO I C1<|Bn ?_;refine JT 4 I VJ<|A4 ?_;refine JT 6 I qX<|A5 ?_;refine JT 10 I VJ<|A4 ?_;refine JT 12 I (JC (i:=i+1) (xs:=r.f.ranges) I AH C0)<|A4 ?_;refine Au 14 C1 I I (Bd I (JE ((rg r.f.ranges (i+1)).hi-(rg r.f.ranges (i+1)).lo) C0 p74 b74 o74 c74 (ys++AU ((rg r.f.ranges i).lo-(rg r.f.ranges (i+1)).hi-2)) s74 _ hs74 hc74 (by simp only[a5];omega))) ?_;rintro _ _ ⟨p89,b89,o89,c89,s89,rfl,h,hc89,rfl⟩;rw[←hys,Xi]at h hc89⊢;refine FF ?_;refine GU 15 C1 I I HG Fk<|BB ?_;refine JL (LT (i:=i+1) (j:=1) I I C0)<|J2 ?_;exact Bg (AC b89 o89 (pre++CF r.f.ranges (i+1)) s89*(AA K 0 (AN r)*H)) (BV (i+1,p89,b89,o89,c89,s89) ⟨C0,h,hc89⟩ ZF DW I)
  have hie:i=aa r.f.ranges-1:=C0;refine Kb ?_;subst hie;rw[←hys]at e X⊢;rw[←V]at e X⊢;exact mR [4] (AC b9 o9 (xs++[2]++AU (rg r.f.ranges 0).hi++AU (aa r.f.ranges-1)++AU ((rg r.f.ranges 0).hi-(rg r.f.ranges 0).lo)++CF r.f.ranges (aa r.f.ranges-1)) s9*H) I I (by rw[show xs++Av r.f=xs++[2]++AU (rg r.f.ranges 0).hi++AU (aa r.f.ranges-1)++AU ((rg r.f.ranges 0).hi-(rg r.f.ranges 0).lo)++CF r.f.ranges (aa r.f.ranges-1) by simp[Av,u,MI]];exact⟨p9,b9,o9,c9,s9,I,e,X,I⟩)
 refine S0 ?_;refine mC (λU=>?_) (λU=>?_)
 ·refine J3 ?_;refine Ga ?_;rintro _ _ ⟨b94,rfl,rfl⟩;refine BH (H':=AC b o xs s*(AA b94 0 (AE [(4:UInt8)])*(AA K 0 (AN r)*H))) (by show AA b94 0 (AE [(4:UInt8)])*_=_;ac_rfl)<|Ae (CA (ys:=[(4:UInt8)]) (bb:=b94) (oo:=0) (cc:=1) I C W I Bz AH I Cd C0) I ?_;rintro _ _ ⟨p95,b95,o95,c95,s95,rfl,D,hc95,rfl⟩;refine Be ?_;refine JL kJ<|mE I (JE (r.f.stream.toNat) C0 p95 b95 o95 c95 (xs++[4]) s95 _ D hc95 Cu) ?_;rintro _ _ ⟨p100,Q,o100,c100,s100,rfl,hs100,hc100,rfl⟩;refine Be ?_;refine mE I (JE (r.f.code) J p100 Q o100 c100 (xs++[4]++AU r.f.stream.toNat) s100 _ hs100 hc100 Cu) ?_;rintro _ _ ⟨p104,b104,o104,c104,s104,rfl,hs104,hc104,rfl⟩;refine Be ?_;refine mE I (JE (r.f.offset) w p104 b104 o104 c104 (xs++[4]++AU r.f.stream.toNat++AU r.f.code) s104 _ hs104 hc104 Cu) ?_;rintro _ _ ⟨p108,b108,o108,c108,s108,rfl,hs108,hc108,rfl⟩;refine J6 ?_;exact mR [4] (AC b108 o108 (xs++[4]++AU r.f.stream.toNat++AU r.f.code++AU r.f.offset) s108*H) I I (by rw[show xs++Av r.f=xs++[4]++AU r.f.stream.toNat++AU r.f.code++AU r.f.offset by simp[Av,U]];exact⟨p108,b108,o108,c108,s108,I,hs108,hc108,I⟩)
 refine Tg ?_;refine mC (λhk5=>?_) (λhk5=>?_)
 ·refine J2 ?_;refine JL U9<|BQ ?_;refine Bq (α:=Unit) (λ_=>[(0,.slice p (aa xs) c),(3,ptr K 0),(6,u8 (bif r.f.fin then 9 else 8))]) (λ_=>AA K 0 (AN r)*(AC b o xs s*H)) (λ_=>True) ?_ ?_
  ·exact Vu
  rintro z hz;refine J5 ?_;refine Ga ?_;rintro _ _ ⟨b115,rfl,rfl⟩;refine BH (H':=AC b o xs s*(AA b115 0 (AE [(bif r.f.fin then(9:UInt8)else 8)])*(AA K 0 (AN r)*H))) (by show AA b115 0 (AE [(bif r.f.fin then(9:UInt8)else 8)])*_=_;ac_rfl)<|Ae (CA (ys:=[(bif r.f.fin then(9:UInt8)else 8)]) (bb:=b115) (oo:=0) (cc:=1) I C W I Bz AH I Cd C0) I ?_;rintro _ _ ⟨p116,b116,o116,c116,s116,rfl,hs116,hc116,rfl⟩;refine Be ?_;refine JL kJ<|mE I (JE (r.f.stream.toNat) C0 p116 b116 o116 c116 (xs++[bif r.f.fin then 9 else 8]) s116 _ hs116 hc116 Cu) ?_;rintro _ _ ⟨p121,b121,o121,c121,s121,rfl,hs121,hc121,rfl⟩;refine Be ?_;refine mE I (JE (r.f.offset) w p121 b121 o121 c121 (xs++[bif r.f.fin then 9 else 8]++AU r.f.stream.toNat) s121 _ hs121 hc121 Cu) ?_;rintro _ _ ⟨p125,b125,o125,c125,s125,rfl,hs125,hc125,rfl⟩;refine BQ ?_;refine JL (IF I (Ia PJ))<|mE I (JE (r.f.data.size) PJ p125 b125 o125 c125 (xs++[bif r.f.fin then 9 else 8]++AU r.f.stream.toNat++AU r.f.offset) s125 _ hs125 hc125 Cu) ?_;rintro _ _ ⟨p131,b131,o131,c131,s131,rfl,hs131,hc131,rfl⟩;refine Be ?_;refine Ae (qY (str:=r.f.data) I hs131 hc131 I I (by have:=hm.size;simp only[a5,f',ss];omega) C0) I ?_;rintro _ _ ⟨p135,b135,o135,c135,s135,rfl,hs135,hc135,rfl⟩;refine J6 ?_;exact mR [4] (AC b135 o135 (xs++[bif r.f.fin then 9 else 8]++AU r.f.stream.toNat++AU r.f.offset++AU r.f.data.size++r.f.data.data.toList) s135*H) I I (by rw[show xs++Av r.f=xs++[bif r.f.fin then 9 else 8]++AU r.f.stream.toNat++AU r.f.offset++AU r.f.data.size++r.f.data.data.toList by simp[Av,hk5]];exact⟨p135,b135,o135,c135,s135,I,hs135,hc135,I⟩)
 refine J6 ?_;refine Ga ?_;rintro _ _ ⟨b137,rfl,rfl⟩;refine BH (H':=AC b o xs s*(AA b137 0 (AE [(28:UInt8)])*(AA K 0 (AN r)*H))) (by show AA b137 0 (AE [(28:UInt8)])*_=_;ac_rfl)<|Ae (CA (ys:=[(28:UInt8)]) (bb:=b137) (oo:=0) (cc:=1) I C W I Bz AH I Cd C0) I ?_;rintro _ _ ⟨p138,b138,o138,c138,s138,rfl,hs138,hc138,rfl⟩;refine Be ?_;refine mE I (JE (r.f.code) J p138 b138 o138 c138 (xs++[28]) s138 _ hs138 hc138 Cu) ?_;rintro _ _ ⟨p142,b142,o142,c142,s142,rfl,hs142,hc142,rfl⟩;refine J4 ?_;exact mR [4] (AC b142 o142 (xs++[28]++AU r.f.code) s142*H) I I (by rw[show xs++Av r.f=xs++[28]++AU r.f.code by simp[Av,hk1,N,u,U,hk5]];exact⟨p142,b142,o142,c142,s142,I,hs142,hc142,I⟩)
def nc(fs p c b o rs H)(hfs:JM B H p c fs b o rs)(hmd:∀r∈rs,G6 r)(G:aa fs<10000000000)(m:aa (Bk fs)<100000000000):
  Fn prog B 67 [.slice p (aa fs) c] H (λv S=>match G4 fs with
   |none=>v=.tuple #[.slice none 0 0,.int .i64 5]∧S=H
   |some t=>∃M,v=.tuple #[M,.int .i64 0]∧DI H t M S):=by
 refine mI func67 ?_;have w:=hfs.len;refine KC ?_;refine Bf (α:=Nat×Bool) (λz=>[(0,.slice p (aa fs) c),(4,.bool z.2),(5,iN z.1)]) (λ_=>H) (λz=>z.1≤aa fs∧(z.2=true↔(0<aa fs∧∀j,j<z.1→B4 (rs.getD j AB.AD).f))) (λz=>aa fs-z.1) (0,decide (0<aa fs)) ⟨bk _,C3⟩ DW I ?_;rintro⟨i,ok⟩ ⟨hi,hokk⟩;dsimp only at hi hokk⊢;refine J8 ?_;refine DU 15 I (λK=>?_) (λK=>?_)
 ·have hlt:=K;refine BB ?_;refine mc (λe=>?_) (λe=>?_)
  ·skip;have hmem:(rs.getD i AB.AD)∈rs:=by rw[MC _ _ _ C0];exact rv _
   have hri:(rs.getD i AB.AD).f=fs[i]:=by
    have:=hfs.map;subst this;rw[MC _ _ _ C0,Aki]
   have hrr:=hfs.RY _ hmem;refine J7 ?_;refine JL Y6<|JL XO<|mE I (kS (rs.getD i AB.AD) H (hmd _ hmem) hrr)<|JR<|BQ ?_;refine BV (i+1,decide (B4 (rs.getD i AB.AD).f)) ⟨C0,?_⟩ Cw DW I;rw[decide_eq_true_iff];constructor
   ·intro h;refine⟨C0,λj hj=>?_⟩;obtain U|rfl:=Ak1.1 hj
    ·exact(hokk.1 e).2 j U
    exact h
   intro h;exact h.2 i C0
  skip;refine UL ?_;refine mc (λhno=>?_) (λhno=>?_)
  ·skip;exact wR
  exact kG
 have hlt:=K;refine Fj ?_;refine mc (λhno=>?_) (λhno=>?_)
 ·skip;exact wR
 exact kG
end
section
variable{B:World}
abbrev rr(e:Nat)(p:Option Addr)(c:Nat)(xs:List UInt8)(a:Nat)(f:Bool):HP:=AA e 0 [.slice p (aa xs) c,iN a,.bool f]
section
variable{P:Program}{n:Nat}{E:A8}{H:HP}{d:Option Tmp}{T T' ty:TypeId}{pos:String}{af:Array Edge}{g:Option (Nat×Bool)}{x y:Operand}
def yx{i j:Nat}(F:ev E x=some (.int .u8 i))(G:ev E y=some (.int .u8 j))(h:j≤i∧i<256):
  AY P B n ⟨d,.binOp .sub T x y T',ty,pos,af,g⟩ E H (.int .u8 (i-j:Nat)):=
 E4 F G λw=>by
  simp only[binOp,Op.intArith];rw[show((i-j:Nat):Int)=(i:Int)-j by omega,IntWalk.u8_in _ C0];rfl
end
def KB(e:Nat)(p:Option Addr)(b o c:Nat)(xs:List UInt8)(a:Nat)(f:Bool)(R:HP)(hs:Sl p b o (aa xs) c)(hr:AZ B R b o xs)(F:aa xs<10000000000)(U:a≤aa xs):
  Fn prog B 155 [ptr e 0] (rr e p c xs a f*R) (λv S=>∃n A m,v=uN n∧S=rr e p c xs A m*R∧((CP xs a=some (n,A)∧m=f)∨(CP xs a=none∧n=0∧A=a∧m=true))):=by
 refine mI func155 ?_;have N:=TW xs a;have K:=(xs.getD a 0).toNat_lt;refine Bt ?_;refine mA 10 10 ?_;refine DY ?_;refine mC (λC=>?_) (λL=>?_)
 ·refine J5 ?_;refine N0 ?_;refine BQ ?_;exact nJ
 refine J3 ?_;refine mA 13 13 ?_;refine Be ?_;refine JT 8 I cE<|JT 9 I YL<|JT 10 I (RL (k:=.u8) (i:=(xs.getD a 0).toNat) (j:=64) I I C0)<|JT 11 I (IF (i:=(xs.getD a 0).toNat%64) I (Ia C0))<|CY ?_;refine mA 12 12 ?_;refine Be ?_;refine JT 8 I cE<|JT 9 I YL<|JT 10 I (C_ (i:=(xs.getD a 0).toNat) (j:=64) I I ⟨C0,C0⟩)<|Bn ?_;refine Bf (λj:Nat=>[(0,ptr e 0),(3,uN (IK xs a 0)),(4,iN (2^j)),(5,.int .u8 ((xs.getD a 0).toNat/64-j:Nat))]) (λ_=>rr e p c xs a f*R) (λj=>j≤(xs.getD a 0).toNat/64) (λj=>(xs.getD a 0).toNat/64-j) 0 Du DJ I ?_;rintro j W;dsimp only at W⊢;have s:2^j≤8:=by
  rcases(by omega:j=0∨j=1∨j=2∨j=3)with rfl|rfl|rfl|rfl<;>simp
 refine Bt ?_;refine mC (λJ=>?_) (λJ=>?_)
 ·refine J6 ?_;refine JL (vO (j:=2) I I C0)<|J6 ?_;refine JL (yx (j:=1) I I ⟨C0,C0⟩)<|J2 ?_;exact BV (j+1) Wh (by show(xs.getD a 0).toNat/64-(j+1)<(xs.getD a 0).toNat/64-j;omega) (.cons I (.cons I (.cons (congrArg (λz=>some (iN z)) (by rw[Alt])) (.cons (congrArg (λz=>some (Value.int .u8 ((z:Nat):Int))) C0) .nil)))) I
 obtain rfl:j=(xs.getD a 0).toNat/64:=C0;refine O3 (E':=[(0,ptr e 0),(3,uN (IK xs a 0)),(4,iN (DV xs a))]) DW<|J7 ?_;refine mA 12 12 ?_;refine FM ?_;refine mC (λG=>?_) (λt=>?_)
 ·refine J5 ?_;refine N0 ?_;refine BQ ?_;exact nJ
 refine BQ ?_;refine Bf (λj:Nat=>[(0,ptr e 0),(3,uN (IK xs a j)),(4,iN (DV xs a)),(6,iN (j+1))]) (λ_=>rr e p c xs a f*R) (λj=>j≤DV xs a-1) (λj=>DV xs a-1-j) 0 Du DJ I ?_;rintro j W;dsimp only at W⊢;have u:=Ur xs a j;have r:IK xs a j<72057594037927936∨DV xs a-1≤j:=by
  obtain h|rfl|rfl|rfl|rfl|rfl|rfl|rfl:=(by omega:DV xs a-1≤j∨j=0∨j=1∨j=2∨j=3∨j=4∨j=5∨j=6)
  ·exact .inr h
  all_goals (left;simp only[Nat.reducePow,Nat.reduceMul]at u;omega)
 have D:=Sa xs (a+j+1);have l:(xs.getD (a+j+1) 0).toNat<256:=D;refine J8 ?_;refine mC (λw=>?_) (λw=>?_)
 ·refine J4 ?_;refine mA 17 17 ?_;refine A4 ?_;refine JT 1 I (dF (j:=256) I I C0)<|CY ?_;refine JT 12 I (HQ (i:=a+(j+1)) (b:=b) (o:=o) (q:=o+(a+j+1)*1) I I hs C0 C0)<|JT 13 I (Qu (i:=a+j+1) (xs:=xs) I AH C0)<|JT 14 I (IF (i:=(xs.getD (a+j+1) 0).toNat) I (Ia C0))<|Bt ?_;refine JL (LT (i:=j+1) (j:=1) I I C0)<|J2 ?_;exact BV (j+1) Wh (by show DV xs a-1-(j+1)<DV xs a-1-j;omega) DJ I
 obtain rfl:j=DV xs a-1:=C0;refine Ff ?_;refine Bn ?_;exact mr [2] I I ⟨_,_,f,I,I,.inl ⟨by unfold CP;exact AJ C0,I⟩⟩
def JZ{n a' f m}(U:a≤aa xs)(h:(CP xs a=some (n,a')∧m=f)∨(CP xs a=none∧n=0∧a'=a∧m=true)):n≤4611686018427387903∧a'≤aa xs∧a≤a':=by
 obtain⟨h,_⟩|⟨_,rfl,rfl,_⟩:=h
 ·have:=Ep h;omega
 omega
def pt(e:Nat)(p:Option Addr)(b o c:Nat)(xs:List UInt8)(a:Nat)(f:Bool)(R:HP)(C:Sl p b o (aa xs) c)(hr:AZ B R b o xs)(F:aa xs<10000000000)(U:a≤aa xs):
  Fn prog B 154 [ptr e 0] (rr e p c xs a f*R) (λv S=>∃n A m,v=iN n∧S=rr e p c xs A m*R∧((Hm xs a=some (n,A)∧m=f)∨(Hm xs a=none∧m=true∧A≤aa xs))):=by
 refine mI func154 ?_;refine Be ?_;refine mE I (KB e p b o c xs a f _ C AH F C0) ?_;rintro _ _ ⟨l,K,r,rfl,rfl,X⟩;have O:=JZ C0 X;refine J7 ?_;refine JL (M0 (j:=4) I I)<|J2 ?_;refine mC (λu=>?_) (λu=>?_)
 ·refine J5 ?_;refine N0 ?_;refine BQ ?_;exact mr [2] I I ⟨0,K,true,I,I,.inr ⟨by
    obtain⟨h,_⟩|⟨h,rfl,_,_⟩:=X
    ·unfold Hm;rw[h];exact AF C0
    omega,I,C0⟩⟩
 refine CY ?_;exact mr [2] I I ⟨l,K,r,I,I,by
   obtain⟨h,rfl⟩|⟨h,rfl,rfl,rfl⟩:=X
   ·exact .inl ⟨by unfold Hm;rw[h];exact AJ C0,I⟩
   exact .inr ⟨by unfold Hm;rw[h],I,C0⟩⟩
def Afg(e:Nat)(p:Option Addr)(b o c:Nat)(xs:List UInt8)(a:Nat)(f:Bool)(R:HP)(hs:Sl p b o (aa xs) c)(hr:AZ B R b o xs)(F:aa xs<10000000000)(U:a≤aa xs):
  Fn prog B 156 [ptr e 0] (rr e p c xs a f*R) (λv S=>∃d A m,v=.string d∧S=rr e p c xs A m*R∧A≤aa xs∧((f=false∧∃l,Hv xs a=some (l,A)∧d=BR l∧m=false)∨(m=true∧(f=true∨Hv xs a=none)))∧d.size<100000000000):=by
 refine mI func156 ?_;refine J8 ?_;refine mE I (KB e p b o c xs a f _ hs AH F C0) ?_;rintro _ _ ⟨r,s,t,rfl,rfl,J⟩;have V:=JZ C0 J;refine J5 ?_;refine mA 19 19 ?_;refine BB ?_;refine Ha 11 I (λK=>?_) (λK=>?_)
 ·refine Ff ?_;refine N0 ?_;refine J9 ?_;exact mr [2] I I ⟨⟨#[]⟩,s,true,I,I,C0,.inr ⟨I,by
    obtain⟨h,rfl⟩|⟨h,rfl,rfl,rfl⟩:=J
    ·exact .inl K
    exact .inr (by unfold Hv;rw[h])⟩,(by decide:0<100000000000)⟩
 refine E6 ?_;refine mC (λu=>?_) (λu=>?_)
 ·refine J5 ?_;refine N0 ?_;refine J9 ?_;exact mr [2] I I ⟨⟨#[]⟩,s,true,I,I,C0,.inr ⟨I,by
    obtain⟨h,rfl⟩|⟨h,rfl,rfl,rfl⟩:=J
    ·exact .inr (by unfold Hv;rw[h];exact AF C0)
    exact .inr (by unfold Hv;rw[h])⟩,(by decide:0<100000000000)⟩
 refine J3 ?_;have hl6:aa ((xs.drop s).take r)=r:=C9;refine mA 18 18 ?_;refine Eh ?_;refine JT 15 I (Oe (l:=s) (h:=s+r) (k':=r) I I I C8 C0)<|JT 16 I (KO (xs:=(xs.drop s).take r) (b:=b) (o:=o+s*1) (by rw[hl6];rfl) sO AH)<|Ff ?_;refine A5 ?_;exact mr [2] I I ⟨_,s+r,t,I,I,C0,(by
   obtain⟨h,rfl⟩|⟨h,rfl,rfl,rfl⟩:=J
   ·exact .inl ⟨K,_,by unfold Hv;rw[h];exact AJ C0,I,K⟩
   cases K),by rw[Mo,hl6];omega⟩
def Ii(xs:List UInt8)(rs:List AS)(m a:Nat):Option (List AS×Nat):=match Fl xs m (rg rs (aa rs-1)).lo a with
 |some (q,R)=>some (rs++q,R)
 |none=>none
def ah{hi U n L O}(C:CP xs a=some (hi,U))(M:CP xs U=some (n,L))(R:CP xs L=some (size,O))(Y:size≤hi):
  EQ xs a=Ii xs [⟨hi-size,hi⟩] n O:=by
 simp only[EQ,C,M,R,Ii];have J:(rg [(⟨hi-size,hi⟩:AS)] ([(⟨hi-size,hi⟩:AS)].length-1)).lo=hi-size:=rfl;rw[AJ Y,J];cases Fl xs n (hi-size) O<;>rfl
def R_:Ii xs rs 0 a=some (rs,a):=by simp[Ii,Fl]
def YF{m}(e:CP xs a=none):Ii xs rs (m+1) a=none:=by simp only[Ii,Fl,e]
def uu{m i U}(e:CP xs a=some (i,U))(M:CP xs U=none):Ii xs rs (m+1) a=none:=by simp only[Ii,Fl,e,M]
def Ut{m i U L lo}(j:(rg rs (aa rs-1)).lo=lo)(e:CP xs a=some (i,U))(M:CP xs U=some (size,L))(h:¬(2≤lo∧i+2≤lo∧size+i+2≤lo)):Ii xs rs (m+1) a=none:=by
 simp only[Ii,Fl,e,M,j];rw[AF h]
def Aen{m i U L lo}(j:(rg rs (aa rs-1)).lo=lo)(e:CP xs a=some (i,U))(M:CP xs U=some (size,L))(h:2≤lo∧i+2≤lo∧size+i+2≤lo):
  Ii xs rs (m+1) a=Ii xs (rs++[(⟨lo-2-i-size,lo-2-i⟩:AS)]) m L:=by
 have J:(rg (rs++[(⟨lo-2-i-size,lo-2-i⟩:AS)]) (aa (rs++[(⟨lo-2-i-size,lo-2-i⟩:AS)])-1))=⟨lo-2-i-size,lo-2-i⟩:=by
  simp[rg,List.getD]
 simp only[Ii,Fl,e,M,j,J];rw[AJ h];cases Fl xs m (lo-2-i-size) L with
 |none=>rfl
 |some w=>obtain⟨q,R⟩:=w;simp
def e_(rb:Nat)(p:Option Addr)(b o c:Nat)(xs:List UInt8)(a:Nat)(R:HP)(hs:Sl p b o (aa xs) c)(hr:AZ B R b o xs)(F:aa xs<10000000000)(ha:a≤aa xs):
  Fn prog B 153 [ptr rb 0] (rr rb p c xs a false*R) (λv S=>∃(q:Option Addr) (V o' G:Nat) (s':List Value) (rs:List AS) (a':Nat) (m:Bool),v=.slice q (aa rs) G∧Sl q V o' (aa rs) G∧aa rs*2+aa s'=G*2∧S=AC V o' rs s'*(rr rb p c xs a' m*R)∧a'≤aa xs∧((EQ xs a=some (rs,a')∧m=false)∨(EQ xs a=none∧m=true))∧aa rs<10000000000):=by
 refine mI func153 ?_;refine J8 ?_;refine mE I (KB rb p b o c xs a false _ hs AH F C0) ?_;rintro _ _ ⟨l,a11,Q,rfl,rfl,h11⟩;have g11:=JZ C0 h11;refine J6 ?_;refine mE I (KB rb p b o c xs a11 Q _ hs AH F C0) ?_;rintro _ _ ⟨n13,a13,bad13,rfl,rfl,h13⟩;have g13:=JZ C0 h13;refine J6 ?_;refine mE I (KB rb p b o c xs a13 bad13 _ hs AH F C0) ?_;rintro _ _ ⟨M,a15,bad15,rfl,rfl,h15⟩;have g15:=JZ C0 h15;refine CK ?_;refine Do 20 I (λK=>?_) (λK=>?_)
 ·have hbd:=K;refine DY ?_;exact qK
 have hbd:=K;refine BQ ?_;refine mC (λu=>?_) (λu=>?_)
 ·refine J5 ?_;exact qK
 obtain⟨e11,rfl⟩:CP xs a=some (l,a11)∧Q=false:=by
  obtain h|h:=h11
  ·exact h
  obtain⟨_,_,_,rfl⟩:=h;rcases h13 with⟨_,rfl⟩|⟨_,_,_,rfl⟩<;>rcases h15 with⟨_,rfl⟩|⟨_,_,_,rfl⟩<;>cases hbd
 obtain⟨e13,rfl⟩:CP xs a11=some (n13,a13)∧bad13=false:=by
  obtain h|h:=h13
  ·exact h
  obtain⟨_,_,_,rfl⟩:=h;rcases h15 with⟨_,rfl⟩|⟨_,_,_,rfl⟩<;>cases hbd
 obtain⟨e15,rfl⟩:CP xs a13=some (M,a15)∧bad15=false:=by
  obtain h|h:=h15
  ·exact h
  obtain⟨_,_,_,rfl⟩:=h;cases hbd
 have f15:=Ep e15;refine Be ?_;refine JL (FW (cs:=[uN (l-M),uN l]) I I I C5)<|Ae (Gn (cs:=[uN (l-M),uN l]) I Cc I I) I ?_;rintro _ _ ⟨U,rfl,rfl⟩;refine CY ?_;refine A3 (H':=AC U 0 [(⟨l-M,l⟩:AS)] []*(rr rb p c xs a15 false*R)) (by show _=AA U 0 (AE [(⟨l-M,l⟩:AS)]++[])*_;rw[g8];rfl)<|Bf (α:=List AS×Nat×Nat×Option Addr×Nat×Nat×Nat×List Value) (λz=>[(0,ptr rb 0),(4,uN n13),(6,.slice z.2.2.2.1 (aa z.1) z.2.2.2.2.2.2.1),(7,uN z.2.1)]) (λz=>AC z.2.2.2.2.1 z.2.2.2.2.2.1 z.1 z.2.2.2.2.2.2.2*(rr rb p c xs z.2.2.1 false*R)) (λz=>z.2.1≤n13∧z.2.2.1≤aa xs∧0<aa z.1∧aa z.1≤z.2.2.1∧Sl z.2.2.2.1 z.2.2.2.2.1 z.2.2.2.2.2.1 (aa z.1) z.2.2.2.2.2.2.1∧aa z.1*2+aa z.2.2.2.2.2.2.2=z.2.2.2.2.2.2.1*2∧(rg z.1 (aa z.1-1)).lo≤4611686018427387903∧EQ xs a=Ii xs z.1 (n13-z.2.1) z.2.2.1) (λz=>n13-z.2.1) ([(⟨l-M,l⟩:AS)],0,a15,some ⟨U,0,none⟩,U,0,1,[]) ⟨bk _,by show a15≤_;omega,C3,by show 1≤a15;omega,Bz,I,by show l-M≤_;omega,ah e11 e13 e15 C0⟩ DJ I ?_;rintro z ⟨hin,hza,N,hzl,hzs,hzc,hlo,hinv⟩;dsimp only;refine J7 ?_;refine DU 37 I (λe=>?_) (λe=>?_)
 ·have L:=e;refine FC ?_;refine mc (λhc=>?_) (λhc=>?_);rotate_left
  ·cases hc
  refine J7 ?_;refine BH (H':=rr rb p c xs z.2.2.1 false*(AC z.2.2.2.2.1 z.2.2.2.2.2.1 z.1 z.2.2.2.2.2.2.2*R)) (EM _ _ _)<|mE I (KB rb p b o c xs z.2.2.1 false _ hs AH F C0) ?_;rintro _ _ ⟨t,Y,A,rfl,rfl,h47⟩;have g47:=JZ C0 h47;refine J6 ?_;refine mE I (KB rb p b o c xs Y A _ hs AH F C0) ?_;rintro _ _ ⟨s,a49,bad49,rfl,rfl,h49⟩;have g49:=JZ C0 h49;refine BQ ?_;refine JL (CJ (b:=z.2.2.2.2.1) (o:=z.2.2.2.2.2.1) I I hzs C0)<|J1 ?_;refine JL (JC (i:=aa z.1-1) (xs:=z.1) I AH C0)<|CK ?_;refine Do 61 I (λO=>?_) (λO=>?_)
  ·have hb2:=O;refine Ff ?_;refine A5 ?_;exact R7
  have hb2:=O;refine A5 ?_;refine JL RH<|BE ?_;refine DU 65 I (λC=>?_) (λC=>?_)
  ·have hl2:=C;refine KC ?_;exact R7
  have hl2:=C;refine CY ?_;refine DU 71 I (λr=>?_) (λr=>?_)
  ·have O:=r;refine Eh ?_;exact R7
  have O:=r;refine Eh ?_;refine mC (λhb78=>?_) (λhb78=>?_)
  ·refine J5 ?_;exact R7
  obtain⟨e47,rfl⟩:CP xs z.2.2.1=some (t,Y)∧A=false:=by
   obtain h|h:=h47
   ·exact h
   obtain⟨_,_,_,rfl⟩:=h;rcases h49 with⟨_,rfl⟩|⟨_,_,_,rfl⟩<;>cases hb2
  obtain⟨e49,rfl⟩:CP xs Y=some (s,a49)∧bad49=false:=by
   obtain h|h:=h49
   ·exact h
   obtain⟨_,_,_,rfl⟩:=h;cases hb2
  have f49:=Ep e49;have f47:=Ep e47;refine FM ?_;refine JL (FW (cs:=AB.enc (⟨(rg z.1 (aa z.1-1)).lo-2-t-s,(rg z.1 (aa z.1-1)).lo-2-t⟩:AS)) I I I (AB.one (⟨(rg z.1 (aa z.1-1)).lo-2-t-s,(rg z.1 (aa z.1-1)).lo-2-t⟩:AS)))<|Ae (Gn (cs:=AB.enc (⟨(rg z.1 (aa z.1-1)).lo-2-t-s,(rg z.1 (aa z.1-1)).lo-2-t⟩:AS)) I Cc I I) I ?_;rintro _ _ ⟨f,rfl,rfl⟩;refine BH (H':=AC z.2.2.2.2.1 z.2.2.2.2.2.1 z.1 z.2.2.2.2.2.2.2*(AA f 0 (AE [(⟨(rg z.1 (aa z.1-1)).lo-2-t-s,(rg z.1 (aa z.1-1)).lo-2-t⟩:AS)])*(rr rb p c xs a49 false*R))) (by show AA f 0 (AE [(⟨(rg z.1 (aa z.1-1)).lo-2-t-s,(rg z.1 (aa z.1-1)).lo-2-t⟩:AS)])*_=_;ac_rfl)<|Ae (CA (ys:=[(⟨(rg z.1 (aa z.1-1)).lo-2-t-s,(rg z.1 (aa z.1-1)).lo-2-t⟩:AS)]) (bb:=f) (oo:=0) (cc:=1) I hzs hzc I Bz AH I Cd C0) I ?_;rintro _ _ ⟨p95,W,w,c95,X,rfl,D,J,rfl⟩;refine J6 ?_;refine JL PE<|J2 ?_;refine Bg (AC W w (z.1++[(⟨(rg z.1 (aa z.1-1)).lo-2-t-s,(rg z.1 (aa z.1-1)).lo-2-t⟩:AS)]) X*(rr rb p c xs a49 false*R)) (BV (z.1++[(⟨(rg z.1 (aa z.1-1)).lo-2-t-s,(rg z.1 (aa z.1-1)).lo-2-t⟩:AS)],z.2.1+1,a49,p95,W,w,c95,X) ⟨by show z.2.1+1≤n13;omega,by show a49≤_;omega,by show 0<aa (z.1++[_]);simp,by show(z.1++[_]).length≤a49;rw[a5,mz];omega,D,J,by show(rg (z.1++[(⟨(rg z.1 (aa z.1-1)).lo-2-t-s,(rg z.1 (aa z.1-1)).lo-2-t⟩:AS)]) (aa (z.1++[(⟨(rg z.1 (aa z.1-1)).lo-2-t-s,(rg z.1 (aa z.1-1)).lo-2-t⟩:AS)])-1)).lo≤_;simp[rg,List.getD];simp[rg,List.getD]at hlo;omega,by rw[hinv,show n13-z.2.1=(n13-(z.2.1+1))+1 by omega];exact Aen I e47 e49 C0⟩ (by show n13-(z.2.1+1)<n13-z.2.1;omega) DJ I)
 have L:=e;refine KC ?_
 first
 |(exact mR [2] (AC z.2.2.2.2.1 z.2.2.2.2.2.1 z.1 z.2.2.2.2.2.2.2*(rr rb p c xs z.2.2.1 false*R)) I I ⟨z.2.2.2.1,z.2.2.2.2.1,z.2.2.2.2.2.1,z.2.2.2.2.2.2.1,z.2.2.2.2.2.2.2,z.1,z.2.2.1,false,I,hzs,hzc,I,hza,.inl ⟨Zj,I⟩,C0⟩)
 |exact mR [2] (rr rb p c xs a49 true*R) I I ⟨none,0,0,0,[],[],a49,true,I,E7,I,Ci,C0,.inr ⟨by
   rw[hinv,show n13-z.2.1=(n13-(z.2.1+1))+1 by omega];obtain⟨e47,rfl⟩|⟨e47,_,_,rfl⟩:=h47
   ·obtain⟨e49,rfl⟩|⟨e49,_,_,rfl⟩:=h49
    ·first|exact Ut I e47 e49 C0|cases hb2
    exact VG
   exact YF e47,I⟩,(by decide:0<10000000000)⟩
 |exact mR [2] (rr rb p c xs a15 true*R) I I ⟨none,0,0,0,[],[],a15,true,I,E7,I,Ci,C0,.inr ⟨by
   obtain⟨e11,rfl⟩|⟨e11,_,_,rfl⟩:=h11
   ·obtain⟨e13,rfl⟩|⟨e13,_,_,rfl⟩:=h13
    ·obtain⟨e15,rfl⟩|⟨e15,_,_,rfl⟩:=h15
     ·simp only[EQ,e11,e13,e15]
      first|(exact AF C0)|cases hbd
     simp only[EQ,e11,e13,e15]
    simp only[EQ,e11,e13]
   simp only[EQ,e11],I⟩,(by decide:0<10000000000)⟩
def pH(xs:List UInt8)(a:Nat)(r:RF)(a':Nat)(m:Bool):Prop:=
 r.ok∧r.own∧aa r.f.ranges<10000000000∧r.f.data.size<100000000000∧a'≤aa xs∧a+1≤aa xs∧((DG xs (Ef (xs.getD a 0)) (decide (xs.getD a 0=9)) (a+1)=some (r.f,a')∧m=false)∨(DG xs (Ef (xs.getD a 0)) (decide (xs.getD a 0=9)) (a+1)=none∧m=true))
def Oy{r:RF}{a' m}(h1:r.f.ranges=[])(h2:r.c=0)(M:r.s=[])(Z:r.f.data.size<100000000000)(X:a'≤aa xs)(J:a+1≤aa xs)(h:(DG xs (Ef (xs.getD a 0)) (decide (xs.getD a 0=9)) (a+1)=some (r.f,a')∧m=false)∨(DG xs (Ef (xs.getD a 0)) (decide (xs.getD a 0=9)) (a+1)=none∧m=true)):pH xs a r a' m:=
 ⟨(Fp h1 h2 M).1,(Fp h1 h2 M).2.1,by rw[h1];exact(by decide:0<10000000000),Z,X,J,h⟩
def t9(h:(xs.getD a 0).toNat=9):decide (xs.getD a 0=9)=true:=decide_eq_true (Ajj.1 h)
def QW(h:(xs.getD a 0).toNat≠9):decide (xs.getD a 0=9)=false:=decide_eq_false (λe=>h O')
def Aa1(rb:Nat)(p:Option Addr)(b o c:Nat)(xs:List UInt8)(a:Nat)(R:HP)(hs:Sl p b o (aa xs) c)(hr:AZ B R b o xs)(hx:aa xs<10000000000)(L:a<aa xs):
  Fn prog B 104 [ptr rb 0] (rr rb p c xs a false*R) (λv S=>∃r a' m,v=.agg (AN r).toArray∧r.ok∧r.own∧G6 r∧a'≤aa xs∧S=rr rb p c xs a' m*(Ed r*R)∧((FK xs a=some (r.f,a')∧m=false)∨(FK xs a=none∧m=true))):=by
 refine mI func104 ?_;refine J2 ?_;refine Ae RI I ?_;rintro _ _ ⟨b2,rfl,rfl⟩;refine J3 ?_;refine mA 11 11 ?_;refine Be ?_;refine JT 8 I (CJ (i:=a) (b:=b) (o:=o) I I hs L)<|JT 9 I (Qu (i:=a) (xs:=xs) I AH L)<|Fj ?_;refine JL (FW (cs:=AN (r0 0 false)) I I I (AB.one (r0 0 false)))<|Ae RI I ?_;rintro _ _ ⟨b4,rfl,rfl⟩;refine Bl (Ek (cs:=AN (r0 0 false)) I I Ca (AB.one (r0 0 false)))<|JJ ?_;refine A3 (H':=rr rb p c xs (a+1) false*(AA b4 0 (AN (r0 0 false))*(AA b2 0 [.int .i64 0,.int .i64 0,.int .u64 0,.int .u64 0,.bool false,.string ⟨#[]⟩,.slice none 0 0]*R))) (by unfold rr;ac_rfl)<|J7 ?_;refine JL (Dy (i:=(xs.getD a 0).toNat) (j:=0) I I)<|J3 ?_;refine Bq (α:=RF×Nat×Bool) (λz=>[(0,ptr rb 0),(2,ptr b2 0),(3,u8 (xs.getD a 0)),(4,ptr b4 0)]) (λz=>rr rb p c xs z.2.1 z.2.2*(AA b4 0 (AN z.1)*(Ed z.1*(AA b2 0 [.int .i64 0,.int .i64 0,.int .u64 0,.int .u64 0,.bool false,.string ⟨#[]⟩,.slice none 0 0]*R)))) (λz=>pH xs a z.1 z.2.1 z.2.2) ?_ ?_
 ·refine mC (λh0=>?_) (λh0=>?_)
  ·refine J2 ?_;refine Bl (Eu (v:=.int .i64 1) I I I trivial)<|GZ ?_;have hkd:Ef (xs.getD a 0)=1:=by rw[Lv];rw[AJ h0]
   have h9:=QW (xs:=xs) (a:=a) C0;exact An (r0 1 false,a+1,false) (Oy I I I Pf U0 C0 (.inl ⟨by rw[hkd,h9];rfl,I⟩)) DJ (by show _=rr rb p c xs _ _*(AA b4 0 (AN (r0 1 false))*(Ed (r0 1 false)*(AA b2 0 [.int .i64 0,.int .i64 0,.int .u64 0,.int .u64 0,.bool false,.string ⟨#[]⟩,.slice none 0 0]*R)));rw[(Fp (r:=(r0 1 false)) I I I).2.2,BS])
  refine J2 ?_;refine JL (Dy (i:=(xs.getD a 0).toNat) (j:=1) I I)<|J3 ?_;refine mC (λh1=>?_) (λh1=>?_)
  ·refine J2 ?_;refine Bl (Eu (v:=.int .i64 2) I I I trivial)<|GZ ?_;have hkd:Ef (xs.getD a 0)=2:=by rw[Lv];rw[AF h0,AJ h1]
   have h9:=QW (xs:=xs) (a:=a) C0;exact An (r0 2 false,a+1,false) (Oy I I I Pf U0 C0 (.inl ⟨by rw[hkd,h9];rfl,I⟩)) DJ (by show _=rr rb p c xs _ _*(AA b4 0 (AN (r0 2 false))*(Ed (r0 2 false)*(AA b2 0 [.int .i64 0,.int .i64 0,.int .u64 0,.int .u64 0,.bool false,.string ⟨#[]⟩,.slice none 0 0]*R)));rw[(Fp (r:=(r0 2 false)) I I I).2.2,BS])
  refine J2 ?_;refine JL (Dy (i:=(xs.getD a 0).toNat) (j:=2) I I)<|J3 ?_;refine mC (λh2=>?_) (λh2=>?_)
  ·refine J3 ?_;refine Bl (Eu (v:=.int .i64 3) I I I trivial)<|JJ ?_;refine mE I (e_ rb p b o c xs (a+1) _ hs AH hx C0) ?_;rintro _ _ ⟨q38,M,o38,c38,s38,rs38,a38,bad38,rfl,hs38,hc38,rfl,ha38,K,hl38⟩;refine J3 ?_;have hkd:Ef (xs.getD a 0)=3:=by rw[Lv];rw[AF h0,AF h1,AJ h2]
   have h9:=QW (xs:=xs) (a:=a) C0;have hlen:aa rs38<10000000000:=by
    obtain⟨e,_⟩|⟨_,_⟩:=K
    ·have:=Ws e;omega
    exact hl38
   exact An (⟨⟨3,0,0,0,false,⟨#[]⟩,rs38⟩,q38,M,o38,c38,s38⟩,a38,bad38) ⟨hs38,hc38,hlen,(by decide:0<100000000000),ha38,C0,by
    rw[hkd,h9];obtain⟨e,rfl⟩|⟨e,rfl⟩:=K
    ·exact .inl ⟨qS e,I⟩
    exact .inr ⟨M2 e,I⟩⟩ DJ (by show _=rr rb p c xs a38 bad38*(AA b4 0 _*(AC M o38 rs38 s38*(AA b2 0 [.int .i64 0,.int .i64 0,.int .u64 0,.int .u64 0,.bool false,.string ⟨#[]⟩,.slice none 0 0]*R)));ac_rfl)
  refine J2 ?_;refine JL (Dy (i:=(xs.getD a 0).toNat) (j:=4) I I)<|J3 ?_;refine mC (λh4=>?_) (λh4=>?_)
  ·refine J3 ?_;refine Bl (Eu (v:=.int .i64 4) I I I trivial)<|KW ?_;refine oA ?_;rintro _ _ ⟨n44,a44,bad44,rfl,rfl,h44⟩;have g44:a44≤aa xs:=by
    obtain⟨h,_⟩|⟨_,_,h⟩:=h44
    ·exact(O4 h).2.2
    exact h
   refine J7 ?_;refine mE I (KB rb p b o c xs a44 bad44 _ hs AH hx C0) ?_;rintro _ _ ⟨t,Y,A,rfl,rfl,V⟩;have g47:=JZ C0 V;refine J6 ?_;refine mE I (KB rb p b o c xs Y A _ hs AH hx C0) ?_;rintro _ _ ⟨n50,O,bad50,rfl,rfl,h50⟩;have g50:=JZ C0 h50;refine J3 ?_;have hkd:Ef (xs.getD a 0)=4:=by rw[Lv];rw[AF h0,AF h1,AF h2,AJ h4]
   have h9:=QW (xs:=xs) (a:=a) C0;exact An ((⟨⟨4,(n44:Nat),n50,t,false,⟨#[]⟩,[]⟩,none,0,0,0,[]⟩:RF),O,bad50) (Oy I I I Pf (by show O≤_;omega) C0 (by
    rw[hkd,h9];obtain⟨e1,rfl⟩|⟨e1,rfl,_⟩:=h44
    ·obtain⟨e2,rfl⟩|⟨e2,_,_,rfl⟩:=V
     ·obtain⟨e3,rfl⟩|⟨e3,_,_,rfl⟩:=h50
      ·exact .inl ⟨Za,I⟩
      exact .inr ⟨Za,I⟩
     rcases h50 with⟨e3,rfl⟩|⟨e3,_,_,rfl⟩<;>exact .inr ⟨by simp only[DG,Nat.reduceEqDiff,if_false,if_true,e1,e2],I⟩
    rcases V with⟨e2,rfl⟩|⟨e2,_,_,rfl⟩<;>rcases h50 with⟨e3,rfl⟩|⟨e3,_,_,rfl⟩<;>exact .inr ⟨Uw,I⟩)) DJ (by show _=rr rb p c xs _ _*(AA b4 0 (AN (⟨⟨4,(n44:Nat),n50,t,false,⟨#[]⟩,[]⟩,none,0,0,0,[]⟩:RF))*(Ed (⟨⟨4,(n44:Nat),n50,t,false,⟨#[]⟩,[]⟩,none,0,0,0,[]⟩:RF)*(AA b2 0 [.int .i64 0,.int .i64 0,.int .u64 0,.int .u64 0,.bool false,.string ⟨#[]⟩,.slice none 0 0]*R)));rw[(Fp (r:=(⟨⟨4,(n44:Nat),n50,t,false,⟨#[]⟩,[]⟩,none,0,0,0,[]⟩:RF)) I I I).2.2,BS])
  refine J3 ?_;refine JL (Dy (i:=(xs.getD a 0).toNat) (j:=8) I I)<|J3 ?_;refine mC (λG=>?_) (λG=>?_)
  ·refine J2 ?_;refine mC (λG=>?_) (λG=>?_)
   ·exact jN
   refine J2 ?_;refine JL bI<|J3 ?_;refine mC (λC=>?_) (λC=>?_)
   ·refine aR ?_;rintro _ _ ⟨n72,a72,bad72,rfl,rfl,u⟩;have g72:=JZ C0 u;refine J3 ?_;exfalso;omega
   refine J4 ?_;refine VU ?_;refine GZ ?_;exfalso;omega
  refine J1 ?_;refine JL sZ<|J3 ?_;refine mC (λG=>?_) (λG=>?_)
  ·exact jN
  refine J2 ?_;refine JL bI<|J3 ?_;refine mC (λC=>?_) (λC=>?_)
  ·refine aR ?_;rintro _ _ ⟨n72,a72,bad72,rfl,rfl,u⟩;have g72:=JZ C0 u;refine J3 ?_;have hkd:Ef (xs.getD a 0)=6:=by rw[Lv];rw[AF h0,AF h1,AF h2,AF h4,AF C0,AJ C]
   have h9:=QW (xs:=xs) (a:=a) C0;exact An ((⟨⟨6,0,0,n72,false,⟨#[]⟩,[]⟩,none,0,0,0,[]⟩:RF),a72,bad72) (Oy I I I Pf (by show a72≤_;omega) C0 (by
    rw[hkd,h9];obtain⟨e1,rfl⟩|⟨e1,_,_,rfl⟩:=u
    ·exact .inl ⟨Uw,I⟩
    exact .inr ⟨Uw,I⟩)) DJ (by show _=rr rb p c xs _ _*(AA b4 0 (AN (⟨⟨6,0,0,n72,false,⟨#[]⟩,[]⟩,none,0,0,0,[]⟩:RF))*(Ed (⟨⟨6,0,0,n72,false,⟨#[]⟩,[]⟩,none,0,0,0,[]⟩:RF)*(AA b2 0 [.int .i64 0,.int .i64 0,.int .u64 0,.int .u64 0,.bool false,.string ⟨#[]⟩,.slice none 0 0]*R)));rw[(Fp (r:=(⟨⟨6,0,0,n72,false,⟨#[]⟩,[]⟩,none,0,0,0,[]⟩:RF)) I I I).2.2,BS])
  refine J4 ?_;refine VU ?_;refine GZ ?_;have hkd:Ef (xs.getD a 0)=0:=by rw[Lv];rw[AF h0,AF h1,AF h2,AF h4,AF C0,AF C]
  exact An (r0 0 false,a+1,true) (Oy I I I Pf U0 C0 (.inr ⟨by rw[hkd];rfl,I⟩)) DJ (by show _=rr rb p c xs _ _*(AA b4 0 (AN (r0 0 false))*(Ed (r0 0 false)*(AA b2 0 [.int .i64 0,.int .i64 0,.int .u64 0,.int .u64 0,.bool false,.string ⟨#[]⟩,.slice none 0 0]*R)));rw[(Fp (r:=(r0 0 false)) I I I).2.2,BS])
 rintro⟨r,U,bad1⟩ ⟨N,hown,w,X,ha1,ha2,hfr⟩;dsimp only at N hown w X ha1 hfr⊢;have D:G6 r:=⟨N,w,X⟩
 have W:AZ B (Ed r) r.b r.o r.f.ranges:=(AH:AZ B (AC r.b r.o r.f.ranges r.s) r.b r.o r.f.ranges)
 refine DY ?_;refine Bq (α:=Bool) (λz=>[(0,ptr rb 0),(2,ptr b2 0),(3,u8 (xs.getD a 0)),(4,ptr b4 0)]) (λz=>rr rb p c xs U z*(AA b4 0 (AN r)*(Ed r*(AA b2 0 [.int .i64 0,.int .i64 0,.int .u64 0,.int .u64 0,.bool false,.string ⟨#[]⟩,.slice none 0 0]*R)))) (λz=>(FK xs a=some (r.f,U)∧z=false)∨(FK xs a=none∧z=true)) ?_ ?_
 ·refine mc (λF=>?_) (λF=>?_)
  ·refine J3 ?_;refine mE I (kS r _ D AH)<|Lx ?_;refine JL (Tn I)<|J2 ?_;refine Bl (Eu (v:=.bool (!decide (B4 r.f))) I I I trivial)<|GZ ?_;refine An (!decide (B4 r.f)) (by
    obtain⟨e,rfl⟩|⟨e,rfl⟩:=hfr
    ·by_cases Q:B4 r.f
     ·exact .inl ⟨by unfold FK;rw[e];exact AJ Q,by rw[decide_eq_true Q];rfl⟩
     exact .inr ⟨by unfold FK;rw[e];exact AF Q,by rw[decide_eq_false Q];rfl⟩
    cases F) DJ I
  refine J1 ?_;refine An bad1 (by
   obtain⟨e,rfl⟩|⟨e,rfl⟩:=hfr
   ·cases F
   exact .inr ⟨by unfold FK;rw[e],I⟩) DJ I
 intro z J;refine J4 ?_;refine BH (H':=AA b2 0 [.int .i64 0,.int .i64 0,.int .u64 0,.int .u64 0,.bool false,.string ⟨#[]⟩,.slice none 0 0]*(rr rb p c xs U z*(AA b4 0 (AN r)*(Ed r*R)))) C4<|Bl cC<|JR<|pF (AA b2 0 (AN r)*(rr rb p c xs U z*(Ed r*R)))<|J3 ?_;exact KT (rr rb p c xs U z*(Ed r*R)) I (IC (Kd I I) Im) ⟨r,U,z,I,N,hown,D,ha1,I,J⟩
end
section
variable{B:World}
def Ad4{rs}{r:RF}(h:∀r∈rs,r.ok∧r.own)(h1:r.ok)(h2:r.own):∀U∈rs++[r],U.ok∧U.own:=by
 intro U X;obtain V|V:=j2.1 X
 ·exact h U V
 rw[g5.1 V];exact⟨h1,h2⟩
def nU(p:Option Addr)(b o c:Nat)(xs:List UInt8)(R:HP)(C:Sl p b o (aa xs) c)(hr:AZ B R b o xs)(hx:aa xs<10000000000):
  Fn prog B 63 [.slice p (aa xs) c] R (λv S=>∃(q:Option Addr) (V o' c':Nat) (s':List Value) (rs:List RF) (fs:List Af) (k:Nat) (at_:Value),v=.tuple #[.slice q (aa fs) c',.int .i64 k,at_]∧Sl q V o' (aa fs) c'∧aa fs*7+aa s'=c'*7∧rs.map RF.f=fs∧(∀r∈rs,r.ok∧r.own)∧S=AC V o' rs s'*(BM rs*R)∧((∃e,Eb xs=.error e∧fs=[]∧q=none∧c'=0∧k=5∧at_=iN e)∨(Eb xs=.ok fs∧k=0∧at_=.int .i64 (-1)))):=by
 refine mI func63 ?_;refine CY ?_;refine JL (FW (cs:=[.slice p (aa xs) c,iN 0,.bool false]) I I I C5)<|Ae (EB (l:=[.slice p (aa xs) c,iN 0,.bool false]) I I) I ?_;rintro _ _ ⟨N,rfl,rfl⟩;refine CK ?_;refine mC (λh0=>?_) (λh0=>?_)
 ·refine BQ ?_;exact mR [2,3,4] R I I ⟨none,0,0,0,[],[],[],5,iN 0,I,E7,I,I,(λr h=>by simp at h),VV,.inl ⟨_,(by rw[Eb,AJ (hU.1 h0)]),I,I,I,I,I⟩⟩
 refine J9 ?_;refine Bf (α:=SM) (λz=>[(0,.slice p (aa xs) c),(5,ptr N 0),(6,.slice z.p (aa z.rs) z.c)]) (λz=>rr N p c xs z.a false*(AC z.b z.o z.rs z.s*(BM z.rs*R))) (λz=>z.a≤aa xs∧aa z.rs≤z.a∧Sl z.p z.b z.o (aa z.rs) z.c∧aa z.rs*7+aa z.s=z.c*7∧(∀r∈z.rs,r.ok∧r.own)∧Eb xs=MN (z.rs.map (·.f)) (GF xs z.a)) (λz=>aa xs-z.a) ⟨0,0,none,0,0,0,[],[]⟩ ⟨bk _,bk _,E7,I,(λr h=>by simp at h),l6⟩ DW (by show _=rr N p c xs 0 false*(AC 0 0 ([]:List RF) []*(BM []*R));rw[GY,Re,BS,BS]) ?_;rintro z ⟨w,O,hzs,hzc,u,G⟩;refine J2 ?_;refine mA 10 10 ?_;refine DY ?_;refine mC (λL=>?_) (λL=>?_)
 ·refine Eh ?_;refine mE I (Aa1 N p b o c xs z.a _ C AH hx L) ?_;rintro _ _ ⟨r,t,Q,rfl,J,m,D,ha30,rfl,hfr⟩;refine Ae RI I ?_;rintro _ _ ⟨U,rfl,rfl⟩;refine Bl cC<|JR<|CK ?_;refine mc (λhb=>?_) (λhb=>?_)
  ·skip;have Y:FK xs z.a=none:=by
    obtain⟨_,h⟩|⟨h,_⟩:=hfr
    ·rw[h]at hb;cases hb
    exact h
   refine FM ?_;exact mR [2,3,4] R I I ⟨none,0,0,0,[],[],[],5,iN z.a,I,E7,I,I,(λr h=>by simp at h),VV,.inl ⟨_,(by have F:=G;rw[SX L Y]at F;exact F),I,I,I,I,I⟩⟩
  have W:FK xs z.a=some (r.f,t):=by
   obtain⟨h,_⟩|⟨_,h⟩:=hfr
   ·exact h
   rw[h]at hb;cases hb
  obtain rfl:Q=false:=hb;have K:=U3 W L;refine J5 ?_;refine Ae U7 I ?_;rintro _ _ ⟨M,rfl,rfl⟩;refine BH (H':=AC z.b z.o z.rs z.s*(AA M 0 (AE [r])*(AA U 0 (AN r)*(Ed r*(rr N p c xs t false*(BM z.rs*R)))))) (by show AA M 0 (AE [r])*_=_;ac_rfl)<|Ae (CA (ys:=[r]) (bb:=M) (oo:=0) (cc:=1) I hzs hzc I Bz AH I Cd C0) I ?_;rintro _ _ ⟨p39,A,X,c39,s39,rfl,hs39,hc39,rfl⟩;refine BH (H':=rr N p c xs t false*(AC A X (z.rs++[r]) s39*(BM (z.rs++[r])*R))*(AA M 0 (AE [r])*AA U 0 (AN r))) vY<|J3 ?_;exact Bg (rr N p c xs t false*(AC A X (z.rs++[r]) s39*(BM (z.rs++[r])*R)))<|BV (⟨t,0,p39,A,X,c39,s39,z.rs++[r]⟩:SM) ⟨K.2.1,by show(z.rs++[r]).length≤t;rw[a5,mz];omega,hs39,hc39,Ad4 u J m,by rw[G,YZ L W];show _=MN ((z.rs++[r]).map (·.f)) _;rw[n8];exact lQ _ _ _⟩ (by show (aa xs)-t<aa xs-z.a;omega) DW I
 refine FM ?_;exact mR [2,3,4] (AC z.b z.o z.rs z.s*(BM z.rs*R)) I I ⟨z.p,z.b,z.o,z.c,z.s,z.rs,z.rs.map (·.f),0,.int .i64 (-1),V1,cU,nF,I,u,I,.inr ⟨by have F:=G;rw[VW L]at F;rw[F];show Except.ok (_++[])=_;rw[g8],I,I⟩⟩
end
end Go.Proofs.YtgfdlpcdjklcoaaGreatDoor
