/- Steps of this proof; no condition. -/
import Derived.Test.YtgfdlpcdjklcoaaGreatDoorP13
namespace Go.Proofs.YtgfdlpcdjklcoaaGreatDoor
open Go Go.RowKit Go.Proofs.Tryz HP AB AL Ah
open _root_.List renaming length→aa
set_option linter.all false
variable{xs:List UInt8}{due:List Nat}{fs:List Af}
open _root_.Go.Value renaming bool→ad,slice→a9,agg→cx
set_option maxRecDepth 20000
section
variable{B:World}
def yY(b):NQ b≤1:=by cases b<;>decide
def nV(b):UInt8.ofNat (1-NQ b)=Bb (!b):=by cases b<;>rfl
def rC(b):UInt8.ofNat (NQ b)=Bb b:=by cases b<;>rfl
def Acj(h:due≠ []):((due.map BG.mk).getD (aa due-1) AD).n=due.getD (aa due-1) 0:=by
 have O:=kz.2 h;simp only[ek,x0,c8 (show (aa due)-1<(aa due) by omega)];rfl
def fZ{ks:List UInt8}(Z:aa ks=16){d}(p b o c H)(C:Sl p b o (aa xs) c)(hr:AZ B H b o xs)(F:aa xs<90000000)(S:B6 ks (UInt8.ofNat d) xs=none):
  Fn prog B 65 [.agg (AE ks).toArray,iN d,.slice p (aa xs) c] H (λv a=>v=.tuple #[u64 0,.slice none 0 0,.bool false]∧a=H):=by
 have h:=aN ks Z d xs p b o c H C hr F;rw[S]at h;exact h
def bW{ks:List UInt8}(Z:aa ks=16){d}{n:UInt64}{ys:List UInt8}(p b o c H)(C:Sl p b o (aa xs) c)(hr:AZ B H b o xs)(F:aa xs<90000000)(S:B6 ks (UInt8.ofNat d) xs=some (n,ys)):
  Fn prog B 65 [.agg (AE ks).toArray,iN d,.slice p (aa xs) c] H (λv a=>∃q V A G K,v=.tuple #[u64 n,.slice q (aa ys) G,.bool true]∧Sl q V A (aa ys) G∧aa ys*1+aa K=G*1∧a=AC V A ys K*H):=by
 have h:=aN ks Z d xs p b o c H C hr F;rw[S]at h;refine h.mono ?_;rintro v a ⟨M,rfl,q,V,A,G,K,rfl,O,U,rfl⟩;exact⟨q,V,A,G,K,I,O,U,I⟩
set_option maxHeartbeats 8000000 in
def Aeg(sb t:Nat)(m:Ah)(xs:List UInt8)(p:Option Addr)(b o c:Nat)(R:HP)(hm:m.ok)(hi:Ar t m.s)(ht:t<900000)(C:Sl p b o (aa xs) c)(hr:AZ B R b o xs)(F:aa xs<90000000)(S:B6 m.x.ks (Bb (!m.x.first)) xs=none):
  Fn prog B 48 [ptr sb 0,.slice p (aa xs) c] (Ad sb m*R) (λv H'=>∃N:Ah,N.ok∧N.s=(m.s.BY xs).2∧v=.tuple #[iN (m.s.BY xs).1.1,.int .i64 (m.s.BY xs).1.2]∧H'=Ad sb N*R):=by
 refine mI func48 ?_;refine Mx ?_;have hks:aa m.x.ks=16:=hi.ks;have f:=yY m.x.first
 refine E6 ?_;refine mC (λh21=>?_) (λh21=>?_)
 ·exact jZ
 have h21:¬m.s.closed≠0:=h21;refine sS ?_;refine Au 10 C1 I I (Bd I (fZ hks p b o c _ C AH F (by rw[nV];exact S)))<|Hh ?_;refine E6 ?_;refine mc (λW=>?_) (λW=>?_);rotate_left
 ·cases W
 refine Be ?_;have ewr:m.s.BY xs=((4,-1),m.s):=by unfold BY;rw[AF h21];rw[show B6 m.s.ks (Bb (!m.s.first)) xs=none from S]
 exact Y'
set_option maxHeartbeats 8000000 in
def q8(sb t:Nat)(m:Ah)(xs:List UInt8)(p:Option Addr)(b o c:Nat)(R:HP)(hm:m.ok)(hi:Ar t m.s)(ht:t<900000)(hs:Sl p b o (aa xs) c)(hr:AZ B R b o xs)(hx:aa xs<90000000)(n:UInt64)(ys:List UInt8)(S:B6 m.x.ks (Bb (!m.x.first)) xs=some (n,ys)):
  Fn prog B 48 [ptr sb 0,.slice p (aa xs) c] (Ad sb m*R) (λv H'=>∃m':Ah,m'.ok∧m'.s=(m.s.BY xs).2∧v=.tuple #[iN (m.s.BY xs).1.1,.int .i64 (m.s.BY xs).1.2]∧H'=Ad sb m'*R):=by
 refine mI func48 ?_;refine Mx ?_;have hks:aa m.x.ks=16:=hi.ks;have hnf:=yY m.x.first
 refine E6 ?_;refine mC (λh21=>?_) (λh21=>?_)
 ·exact jZ
 have h21:¬m.s.closed≠0:=h21;refine sS ?_;refine Au 10 C1 I I (Bd I (bW hks p b o c _ hs AH hx (by rw[nV];exact S))) ?_;rintro _ _ ⟨q33,b33,o33,c33,s33,rfl,hq33,hc33,rfl⟩;obtain⟨hyl,hx300,hn62⟩:=Lm S;refine BT ?_;refine E6 ?_;refine mc (λhc=>?_) (λhc=>?_)
 ·cases hc
 refine J9 ?_;refine mE I (Abs m.x.gq n.toNat m.ga m.AR _ hm.g (by have V:=hi.AR.len;rw[hi.gm]at V;have h8:aa m.AR.l≤8:=V;omega))<|JR<|J9 ?_;refine mC (λE=>?_) (λE=>?_)
 ·have E:m.s.AR.has n.toNat:=E;refine Be ?_;have ewr:m.s.BY xs=((0,-1),m.s):=by
   unfold BY;rw[AF h21];rw[show B6 m.s.ks (Bb (!m.s.first)) xs=some (n,ys)from S];dsimp only;rw[AJ E]
  exact Y'
 have E:¬m.s.AR.has n.toNat:=E;refine J5 ?_;refine mE I (nU q33 b33 o33 c33 ys _ hq33 AH C0) ?_;rintro _ _ ⟨p48,b48,o48,c48,s48,rs,fs,dk,dat,rfl,hs48,hc48,hmap,W,rfl,hdd⟩;have hrl:aa rs=aa fs:=by rw[←hmap,eh]
 refine Ki ?_;refine JL (H4 (i:=dk) (j:=0) I I)<|J2 ?_;refine mC (λh53=>?_) (λh53=>?_)
 ·skip;obtain⟨e,G,rfl,rfl,rfl,rfl,rfl⟩:∃e,Eb ys=.error e∧fs=[]∧p48=none∧c48=0∧dk=5∧dat=iN e:=by
   obtain h|⟨O,h2,h3⟩:=hdd
   ·exact h
   exact absurd h2 h53
  refine J6 ?_;refine Bl (Eu (v:=iN 5) I I I Cf)<|Lx ?_;refine JL (IF (i:=5) I (Ia C0))<|Gu ?_;have ewr:m.s.BY xs=((5,(e:Int)),{m.s with closed:=5,code:=5}):=by
   unfold BY;rw[AF h21];rw[show B6 m.s.ks (Bb (!m.s.first)) xs=some (n,ys)from S];dsimp only;rw[AF E,G]
  exact mR [4,5] (Ad sb (m.DM {m.x with closed:=5,code:=5})*R) (hE:=⟨λww hw=>Sat.right (A:=AC b48 o48 rs s48*(BM rs*AC b33 o33 ys s33)) (Eq.mp (by congr 1;rw[EK];show _=AC b48 o48 rs s48*(BM rs*AC b33 o33 ys s33)*(Ag sb {m.x with closed:=5,code:=5}*(AK m.x.gq m.ga m.AR*(AK m.x.eq m.ea m.Az*(m.da.h (m.due.map BG.mk)*(m.oa.h m.outs*(AP Bc m.outs*(m.ia.h m.ins*(AP BP m.ins*(m.sa.h m.AM*(AP DB m.AM*R))))))))));ac_rfl) hw)⟩) I I ⟨m.DM {m.x with closed:=5,code:=5},{hm with},Cb,Cb,I⟩
 obtain⟨G,rfl,rfl⟩:Eb ys=.ok fs∧dk=0∧dat=.int .i64 (-1):=by
  obtain⟨e,O,h2,h3,h4,h5,h6⟩|h:=hdd
  ·exact absurd (h5▸h53:¬(5:Nat)≠0) C2
  exact h
 obtain⟨hdl1,hdl2⟩:=QM G;refine BQ ?_;refine Bf (α:=Nat) (λi=>[(13,iN i),(0,ptr sb 0),(6,u64 n),(10,.slice p48 (aa fs) c48)]) (λi=>AC b48 o48 rs s48*(BM rs*(AC b33 o33 ys s33*(Ad sb m*R)))) (λi=>i≤aa fs∧∀k,k<i→¬m.s.busy (rs.getD k AD).f) (λi=>aa fs-i) 0 ⟨bk _,(λk h=>absurd h (Aje k))⟩ Bu Qe ?_;rintro i ⟨X,hi2⟩;dsimp only at X hi2⊢;refine J9 ?_;refine mC (λC=>?_) (λC=>?_)
 ·have C:i<aa fs:=C;have hgd:rs.getD i AD∈rs:=Gk C0;have T:(rs.getD i AD).f∈fs:=by rw[←hmap];exact Rj
  have J:=GI.of (Lg G _ T);refine J8 ?_;refine JL (HQ I I hs48 C I)<|JL TS<|Ae Qz I ?_;rintro _ _ ⟨b14,rfl,rfl⟩;refine Bl Ze<|JR<|J7 ?_;refine JL (PC (i:=(rs.getD i AD).f.kind) (j:=5) I I)<|J2 ?_;refine mC (λh77=>?_) (λh77=>?_)
  ·have h77:¬(rs.getD i AD).f.kind=5:=h77;refine BQ ?_;exact gP
  have hk5:(rs.getD i AD).f.kind=5:=Classical.not_not.1 h77;obtain⟨j,hst⟩:∃j:Nat,(rs.getD i AD).f.stream=(j:Int):=⟨_,(x3 J.1).symm⟩
  have hj:j<4:=(by have:=J.2.1;omega)
  have hjl:j<aa m.ins:=by rw[RR hi];exact hj
  have hxo:=XY hi hj;have exj:=m.QC j hjl;have hrt:=hxo.rt;have hst2:=hxo.st;have hw2:m.x.AI≤1024:=hi.w2;have hfo:=J.2.2.2.1;have hfe:=J.2.2.2.2.1 hk5;have hbd:m.s.busy (rs.getD i AD).f↔((rs.getD i AD).f.kind=5∧(m.zj j).x.state≠2∧(m.zj j).x.given=false∧(m.zj j).x.read+m.x.AI<(rs.getD i AD).f.offset+(rs.getD i AD).f.data.size):=by unfold AL.busy;rw[hst,dz,exj];exact Iff.rfl
  refine A3 (H':=AA b14 0 (AN (rs.getD i AD))*(AC b48 o48 rs s48*(BM rs*(AC b33 o33 ys s33*(Ag sb m.x*(AC m.ia.b m.ia.o m.ins m.ia.s*(AA (m.zj j).q 0 (I7 (m.zj j))*(AC (m.zj j).a.b (m.zj j).a.o (m.zj j).x.data (m.zj j).a.s*(AC (m.zj j).b.b (m.zj j).b.o (m.zj j).x.there (m.zj j).b.s*(CI BP m.ins j*(Ee m sb*R))))))))))) (by rw[PV sb m R j hjl];first|done|(unfold Am.h;ac_rfl))<|J3 ?_;refine rL ?_;refine Bn ?_;refine Bq (α:=Unit) (λ_=>[(118,.bool (decide (((rs.getD i AD).f.kind=5∧(m.zj j).x.state≠2∧(m.zj j).x.given=false∧(m.zj j).x.read+m.x.AI<(rs.getD i AD).f.offset+(rs.getD i AD).f.data.size)))),(13,iN i),(0,ptr sb 0),(6,u64 n),(10,.slice p48 (aa fs) c48)]) (λ_=>AA b14 0 (AN (rs.getD i AD))*(AC b48 o48 rs s48*(BM rs*(AC b33 o33 ys s33*(Ag sb m.x*(AC m.ia.b m.ia.o m.ins m.ia.s*(AA (m.zj j).q 0 (I7 (m.zj j))*(AC (m.zj j).a.b (m.zj j).a.o (m.zj j).x.data (m.zj j).a.s*(AC (m.zj j).b.b (m.zj j).b.o (m.zj j).x.there (m.zj j).b.s*(CI BP m.ins j*(Ee m sb*R))))))))))) (λ_=>True) ?_ ?_
  ·refine mA 33 33 ?_;refine Bn ?_;refine JT 4 I (H4 (i:=(m.zj j).x.state) (j:=2) I I)<|A4 ?_;refine D4 91 I (λK=>?_) (λK=>?_)
   ·have g1:=K;refine Bt ?_;refine Ha 98 I (λhg2=>?_) (λhg2=>?_)
    ·skip;have g2:(m.zj j).x.given=false:=by simpa using hg2
     refine KC ?_;exact An () trivial (.cons (congrArg (λbb=>some (ad bb)) (decide_eq_decide.2 ⟨λh=>⟨hk5,g1,g2,h⟩,λh=>h.2.2.2⟩)) Bu) I
    have g2:(m.zj j).x.given=true:=by simpa using hg2
    refine KC ?_;exact An () trivial (.cons (congrArg (λbb=>some (ad bb)) (decide_eq_false (λh=>by rw[g2]at h;cases h.2.2.1)).symm) Bu) I
   have g1:=K;refine Ff ?_;refine DE ?_;exact An () trivial (.cons (congrArg (λbb=>some (ad bb)) (decide_eq_false (λh=>g1 h.2.1)).symm) Bu) I
  rintro _ _;refine J1 ?_;refine mC (λh118=>?_) (λh118=>?_)
  ·refine DY ?_;have ewr:m.s.BY xs=((6,-1),m.s):=by
    unfold BY;rw[AF h21];rw[show B6 m.s.ks (Bb (!m.s.first)) xs=some (n,ys)from S];dsimp only;rw[AF E,G];dsimp only;rw[AJ ⟨_,T,hbd.2 h118⟩]
   exact mR [4,5] (Ad sb m*R) (hE:=⟨λww hw=>Sat.right (A:=AA b14 0 (AN (rs.getD i AD))*(AC b48 o48 rs s48*(BM rs*AC b33 o33 ys s33))) (Eq.mp kP hw)⟩) I I ⟨m,hm,Cj,Cb,I⟩
  refine Be ?_;exact gP
 obtain rfl:i=aa fs:=by have V:¬i<aa fs:=C;omega
 refine J6 ?_;have F:∀f∈fs,¬m.s.busy f:=by
  exact wG
 refine A3 (H':=AK m.x.gq m.ga m.AR*(Ag sb m.x*(AK m.x.eq m.ea m.Az*(m.da.h (m.due.map BG.mk)*(m.oa.h m.outs*(AP Bc m.outs*(m.ia.h m.ins*(AP BP m.ins*(m.sa.h m.AM*(AP DB m.AM*(AC b48 o48 rs s48*(BM rs*(AC b33 o33 ys s33*(R)))))))))))))) (by rw[EK];ac_rfl)<|J7 ?_;refine mE I (VC m.x.gq n.toNat n.toNat 4611686018427387904 m.ga m.AR _ hm.g hi.AR C0 C0 (by have V:m.AR.AQ=8:=hi.gm;omega)) ?_;rintro _ _ ⟨a125,hs125,rfl⟩;refine Ei ?_;refine BH (H':=AK m.x.eq m.ea m.Az*(AK m.x.gq a125 (m.AR.add n.toNat n.toNat)*(Ag sb m.x*(m.da.h (m.due.map BG.mk)*(m.oa.h m.outs*(AP Bc m.outs*(m.ia.h m.ins*(AP BP m.ins*(m.sa.h m.AM*(AP DB m.AM*(AC b48 o48 rs s48*(BM rs*(AC b33 o33 ys s33*(R)))))))))))))) C4<|mE I (VC m.x.eq n.toNat n.toNat 4611686018427387904 m.ea m.Az _ hm.e hi.Az C0 C0 (by have V:m.Az.AQ=Pb:=hi.em;rw[V];exact er _)) ?_;rintro _ _ ⟨a132,hs132,rfl⟩;refine J4 ?_;obtain⟨L,hm1⟩:∃L:Ah,L={m with AR:=m.AR.add n.toNat n.toNat,ga:=a125,Az:=m.Az.add n.toNat n.toNat,ea:=a132}:=DF;have w:L.ok:=by rw[hm1];exact {hm with g:=hs125,e:=hs132}
 have hs1:L.s={m.s with AR:=m.s.AR.add n.toNat n.toNat,Az:=m.s.Az.add n.toNat n.toNat}:=by rw[hm1];rfl
 have hi1':Ar (t+1) L.s:=by rw[hs1];exact hi.Qy hn62 C0
 have hd1:Iy t n.toNat L.s.due:=by rw[hs1];exact .inl hi.due
 have hnb1:∀f∈fs,¬L.s.busy f:=by rw[hs1];exact F
 have hnbx:¬∃f∈fs,m.s.busy f:=λ⟨f,hf,hb⟩=>F f hf hb;have erc:m.s.BY xs=(((L.s.B1 n.toNat fs).1,-1),(L.s.B1 n.toNat fs).2):=by
  unfold BY;rw[AF h21];rw[show B6 m.s.ks (Bb (!m.s.first)) xs=some (n,ys)from S];dsimp only;rw[AF E,G];dsimp only;rw[AF hnbx,hs1]
 refine A3 (H':=AC b48 o48 rs s48*(BM rs*(AC b33 o33 ys s33*(Ad sb L*R)))) (by rw[EK,hm1];show _=AC b48 o48 rs s48*(BM rs*(AC b33 o33 ys s33*(Ag sb m.x*(AK m.x.gq a125 (m.AR.add n.toNat n.toNat)*(AK m.x.eq a132 (m.Az.add n.toNat n.toNat)*(m.da.h (m.due.map BG.mk)*(m.oa.h m.outs*(AP Bc m.outs*(m.ia.h m.ins*(AP BP m.ins*(m.sa.h m.AM*(AP DB m.AM*R))))))))))));ac_rfl) ?_;refine BB ?_;refine Bf (α:=Nat×Ah) (λz=>[(16,iN z.1),(0,ptr sb 0),(6,u64 n),(10,.slice p48 (aa fs) c48)]) (λz=>AC b48 o48 rs s48*(BM rs*(AC b33 o33 ys s33*(Ad sb z.2*R)))) (λz=>z.1≤aa fs∧z.2.ok∧Ar (t+1) z.2.s∧Iy t n.toNat z.2.s.due∧z.2.s.B1 n.toNat (fs.drop z.1)=L.s.B1 n.toNat fs∧∀f∈fs.drop z.1,¬z.2.s.busy f) (λz=>aa fs-z.1) (0,L) ⟨bk _,w,hi1',hd1,I,hnb1⟩ Bu I ?_;rintro⟨i,u⟩ ⟨D,q2,M,q6,q4,q5⟩;dsimp only at D q2 M q4 q5 q6⊢;refine J9 ?_;refine mC (λh136=>?_) (λh136=>?_)
 ·have h136:i<aa fs:=h136;have hgd:rs.getD i AD∈rs:=Gk C0;have T:(rs.getD i AD).f∈fs:=by rw[←hmap];exact Rj
  have J:=GI.of (Lg G _ T);have GW:fs.drop i=(rs.getD i AD).f::fs.drop (i+1):=by
   rw[zv h136];congr 1;have h8:fs[i]?=(rs.map RF.f)[i]?:=by rw[hmap]
   rw[c8 h136,x0,c8 C0]at h8;exact Wc
  have U:=q5 (rs.getD i AD).f (by rw[GW];simp);have DN:=M.take (rs.getD i AD).f J U;have howr:=P1 (B:=B) hgd;have hrl2:=hdl2 _ T;refine J9 ?_;refine JL Wk<|JL TS<|BH (H':=Ad sb u*(AC b48 o48 rs s48*(BM rs*(AC b33 o33 ys s33*(R))))) C4<|mE I (W! sb (t+1) u (rs.getD i AD) _ q2 M C0 J U (W _ hgd).1 AH C0) ?_;rintro _ _ ⟨m2,hm2,Y,rfl,rfl⟩;have hte:=Uv (s:=u.s) (rs.getD i AD).f;refine CY ?_;refine mC (λh146=>?_) (λh146=>?_)
  ·refine J1 ?_;refine A3 (EK sb m2 _)<|Ff ?_;refine JL (Dy (j:=10) I I)<|Gu ?_;refine J4 ?_;have ewr:m.s.BY xs=(((u.s.take (rs.getD i AD).f).1,-1),(u.s.take (rs.getD i AD).f).2.shut (u.s.take (rs.getD i AD).f).1):=by
    rw[erc,←q4,GW,AL.B1,AJ h146]
   exact mR [4,5] (Ad sb (m2.DM {m2.x with closed:=(u.s.take (rs.getD i AD).f).1,code:=(u.s.take (rs.getD i AD).f).1,said:=decide ((u.s.take (rs.getD i AD).f).1=10)})*R) (hE:=⟨λww hw=>Sat.right (A:=AC b48 o48 rs s48*(BM rs*AC b33 o33 ys s33)) (Eq.mp (by
     congr 1;rw[EK];show _=AC b48 o48 rs s48*(BM rs*AC b33 o33 ys s33)*(Ag sb {m2.x with closed:=(u.s.take (rs.getD i AD).f).1,code:=(u.s.take (rs.getD i AD).f).1,said:=decide ((u.s.take (rs.getD i AD).f).1=10)}*(AK m2.x.gq m2.ga m2.AR*(AK m2.x.eq m2.ea m2.Az*(m2.da.h (m2.due.map BG.mk)*(m2.oa.h m2.outs*(AP Bc m2.outs*(m2.ia.h m2.ins*(AP BP m2.ins*(m2.sa.h m2.AM*(AP DB m2.AM*R))))))))));ac_rfl) hw)⟩) I I
    ⟨m2.DM {m2.x with closed:=(u.s.take (rs.getD i AD).f).1,code:=(u.s.take (rs.getD i AD).f).1,said:=decide ((u.s.take (rs.getD i AD).f).1=10)},{hm2 with},by rw[ewr,←Y];rfl,Cb,I⟩
  refine J3 ?_;have hdu2:m2.due=(u.s.take (rs.getD i AD).f).2.due:=by rw[←Y];rfl
  have Q:aa m2.due≤t+1:=(by rw[hdu2];exact DN.1.due)
  have hdu3:Iy t n.toNat (Fc n.toNat (u.s.take (rs.getD i AD).f).2.due (rs.getD i AD).f):=kC;refine sJ ?_;refine Bq (α:=Unit) (λ_=>[(199,.bool (decide (((rs.getD i AD).f.kind≠3∧(rs.getD i AD).f.kind≠1∧(m2.due=[]∨m2.due.getD (aa m2.due-1) 0≠n.toNat))))),(16,iN i),(0,ptr sb 0),(6,u64 n),(10,.slice p48 (aa fs) c48)]) (λ_=>AC b48 o48 rs s48*(BM rs*(AC b33 o33 ys s33*(Ag sb m2.x*(AK m2.x.gq m2.ga m2.AR*(AK m2.x.eq m2.ea m2.Az*(AC m2.da.b m2.da.o (m2.due.map BG.mk) m2.da.s*(m2.oa.h m2.outs*(AP Bc m2.outs*(m2.ia.h m2.ins*(AP BP m2.ins*(m2.sa.h m2.AM*(AP DB m2.AM*R))))))))))))) (λ_=>True) ?_ ?_
  ·skip;have hdu2:m2.due=(u.s.take (rs.getD i AD).f).2.due:=by rw[←Y];rfl
   have Q:aa m2.due≤t+1:=(by rw[hdu2];exact DN.1.due)
   have hdu3:Iy t n.toNat (Fc n.toNat (u.s.take (rs.getD i AD).f).2.due (rs.getD i AD).f):=kC;refine sJ ?_;refine mA 38 38 ?_;refine BE ?_;refine JT 2 I Wk<|A4 ?_;refine JT 4 I oX<|JT 5 I (PC (i:=(rs.getD i AD).f.kind) (j:=3) I I)<|A4 ?_;refine D4 168 I (λhg3=>?_) (λhg3=>?_)
   ·have g1:=hg3;refine BE ?_;refine JY 9 I T3 Wk<|A4 ?_;refine JY 11 I T3 oX<|JY 12 I T3 (PC (i:=(rs.getD i AD).f.kind) (j:=1) I I)<|BE ?_;refine D4 176 I (λhg4=>?_) (λhg4=>?_)
    ·have g2:=hg4;refine A5 ?_;refine JY 18 I T4 Ue<|A4 ?_;refine JY 20 I T4 (Dy (i:=aa m2.due) (j:=0) I I)<|A4 ?_;refine D4 183 I (λhg5=>?_) (λhg5=>?_)
     ·have N:=hg5;refine Fj ?_;exact An () trivial (.cons (congrArg (λbb=>some (ad bb)) ((decide_eq_true ⟨g1,g2,.inl (hU.1 N)⟩).symm)) Bu) I
     have N:=hg5;refine A5 ?_;refine JY 25 I F5 Ue<|A5 ?_;refine JY 29 I F5 Ue<|A4 ?_;refine JY 31 I F5 (Ji (i:=aa m2.due) (j:=1) I I C0)<|JY 32 I F5 (CJ (i:=aa m2.due-1) I I (show Sl m2.da.p m2.da.b m2.da.o (aa m2.due) m2.da.c from by have V:=hm2.d.1;rw[eh]at V;exact V) C0)<|JY 33 I F5 (Dx (v':=uN (m2.due.getD (aa m2.due-1) 0)) (Fa (f:=0) (xs:=m2.due.map BG.mk) I AH I (by rw[eh];omega)) (by rw[←Acj (λh=>N QL)]))<|A4 ?_;refine JY 35 I F5 (H4 (i:=m2.due.getD (aa m2.due-1) 0) (j:=n.toNat) I I)<|A5 ?_;exact An () trivial (.cons (congrArg (λbb=>some (ad bb)) (decide_eq_decide.2 ⟨λh=>⟨g1,g2,.inr h⟩,λh=>by rcases h.2.2 with h|h;exact absurd QL N;exact h⟩)) Bu) I
    have g2:=hg4;refine Ff ?_;refine BE ?_;exact An () trivial zS I
   have g1:=hg3;refine HL ?_;refine BE ?_;exact An () trivial iK I
  rintro _ _;refine J1 ?_;refine Bq (α:=Ah) (λP=>[(16,iN i),(0,ptr sb 0),(6,u64 n),(10,.slice p48 (aa fs) c48)]) (λP=>AC b48 o48 rs s48*(BM rs*(AC b33 o33 ys s33*(Ad sb P*R)))) (λP=>P.ok∧P.s={(u.s.take (rs.getD i AD).f).2 with due:=Fc n.toNat (u.s.take (rs.getD i AD).f).2.due (rs.getD i AD).f}) ?_ ?_
  ·refine mC (λh199=>?_) (λh199=>?_)
   ·refine J5 ?_;refine JL Ue<|J1 ?_;refine Ae (Gn (cs:=[uN n.toNat]) I Cc I I) I ?_;rintro _ _ ⟨b206,rfl,rfl⟩;refine BH (H':=AC m2.da.b m2.da.o (m2.due.map BG.mk) m2.da.s*(AA b206 0 (AE [BG.mk n.toNat])*(AC b48 o48 rs s48*(BM rs*(AC b33 o33 ys s33*(Ag sb m2.x*(AK m2.x.gq m2.ga m2.AR*(AK m2.x.eq m2.ea m2.Az*(m2.oa.h m2.outs*(AP Bc m2.outs*(m2.ia.h m2.ins*(AP BP m2.ins*(m2.sa.h m2.AM*(AP DB m2.AM*R)))))))))))))) (by show AA b206 0 _*_=_;rw[show AE [BG.mk n.toNat]=[uN n.toNat]from rfl];ac_rfl)<|Ae (CA (xs:=m2.due.map BG.mk) (ys:=[BG.mk n.toNat]) (bb:=b206) (oo:=0) (cc:=1) V1 hm2.d.1 hm2.d.2 I Bz AH I kE C0) I ?_;rintro _ _ ⟨p207,b207,o207,c207,s207,rfl,hs207,hc207,rfl⟩;refine J4 ?_;have hdo:Fc n.toNat m2.due (rs.getD i AD).f=m2.due++[n.toNat]:=by unfold Fc;rw[AJ h199]
    have hmp:(m2.due++[n.toNat]).map BG.mk=m2.due.map BG.mk++[BG.mk n.toNat]:=by rw[n8];rfl
    obtain⟨P,hm3⟩:∃P:Ah,P={m2 with x:={m2.x with dv:=.slice p207 (aa (m2.due.map BG.mk++[BG.mk n.toNat])) c207},due:=m2.due++[n.toNat],da:=⟨p207,b207,o207,c207,s207⟩}:=DF;refine Bg (AC b48 o48 rs s48*(BM rs*(AC b33 o33 ys s33*(Ad sb P*R)))) (hE:=⟨λww hw=>Sat.right (A:=AA b206 0 (AE [BG.mk n.toNat])) (Eq.mp (by
     congr 1;rw[EK,hm3];unfold Am.h;dsimp only;rw[hmp];ac_rfl) hw)⟩) ?_
    exact An P ⟨by rw[hm3];exact {hm2 with d:=by show(⟨p207,b207,o207,c207,s207⟩:Am).ok ((m2.due++[n.toNat]).map BG.mk);rw[hmp];exact⟨hs207,hc207⟩,dv:=by show a9 p207 _ c207=a9 p207 (aa (m2.due++[n.toNat])) c207;rw[a5,a5,eh];rfl},by rw[hm3];show({m2.s with due:=m2.due++[n.toNat]}:AL)=_;rw[←hdo,Y,←hdu2]⟩ Bu I
   refine J1 ?_;have hdo:Fc n.toNat m2.due (rs.getD i AD).f=m2.due:=by unfold Fc;rw[AF h199]
   exact GE (H':=AC b48 o48 rs s48*(BM rs*(AC b33 o33 ys s33*(Ad sb m2*R)))) Qe<|An m2 ⟨hm2,by rw[Y,←hdu2,hdo,hdu2]⟩ Bu I
  rintro P ⟨hok3,y⟩;have hm3h:(AC b48 o48 rs s48*(BM rs*(AC b33 o33 ys s33*(Ad sb P*R))))=AC b48 o48 rs s48*(BM rs*(AC b33 o33 ys s33*(Ad sb P*R))):=rfl;refine Bt ?_;refine Bg (AC b48 o48 rs s48*(BM rs*(AC b33 o33 ys s33*(Ad sb P*R)))) (hE:=ML) ?_;exact BV (i+1,P) ⟨C0,hok3,by rw[y];exact {DN.1 with due:=hdu3.le},by rw[y];exact hdu3,by
   rw[←q4,GW,AL.B1,AF C0,y],λf hf=>by
   rw[y];exact uG (s:=u.s) DN.2.1 DN.2.2 (q5 f cI)⟩ Cw Bu I
 obtain rfl:i=aa fs:=by have V:¬i<aa fs:=h136;omega
 refine DY ?_;have ewr:m.s.BY xs=((0,-1),u.s):=by
  rw[erc,←q4,A' Dz];rfl
 exact mR [4,5] (Ad sb u*R) (hE:=⟨λww hw=>Sat.right (A:=AC b48 o48 rs s48*(BM rs*AC b33 o33 ys s33)) (Eq.mp bQ hw)⟩) I I ⟨u,q2,Cj,Cb,I⟩
def Adw(sb t)(m:Ah)(xs:List UInt8)(p b o c R)(hm:m.ok)(hi:Ar t m.s)(ht:t<900000)(C:Sl p b o (aa xs) c)(hr:AZ B R b o xs)(F:aa xs<90000000):
  Fn prog B 48 [ptr sb 0,.slice p (aa xs) c] (Ad sb m*R) (λv H'=>∃N:Ah,N.ok∧N.s=(m.s.BY xs).2∧v=.tuple #[iN (m.s.BY xs).1.1,.int .i64 (m.s.BY xs).1.2]∧H'=Ad sb N*R):=by
 cases S:B6 m.x.ks (Bb (!m.x.first)) xs with
 |none=>exact Aeg sb t m xs p b o c R hm hi ht C hr F S
 |some y=>exact q8 sb t m xs p b o c R hm hi ht C hr F y.1 y.2 S
end
section
variable{B:World}
def Afo(xs:List UInt8):∀(F a:Nat) (fs:List Af),aa xs-a≤F→GF xs a=.ok fs→∀f∈fs,f.data.size≤aa xs:=by
 intro F
 induction F with
 |zero=>
  intro a fs J h;rw[GF,AF C0]at h;cases h;exactλf V=>nomatch V
 |succ n Z=>
  intro a fs J h;rw[GF]at h;split at h
  ·split at h
   ·rename_i f A e;split at h
    ·rename_i b;split at h
     ·rename_i l M;cases h;intro g S;obtain rfl|S:=j1.1 S
      ·unfold FK at e;split at e
       ·rename_i f2 L R;split at e
        ·cases e;exact(Zu R).2
        cases e
       cases e
      exact Z A l C0 M g S
     cases h
    cases h
   cases h
  cases h;exactλf V=>nomatch V
def G! (h:Eb xs=.ok fs):∀f∈fs,f.data.size≤aa xs:=by
 unfold Eb at h;split at h
 ·cases h
 exact Afo xs _ 0 fs Dz h
def qw(h:Eb xs=.ok fs):fs≠ []:=by
 unfold Eb at h;split at h
 ·cases h
 rename_i Y;have J:=kz.2 Y;rw[GF,AJ J]at h;split at h
 ·split at h
  ·split at h
   ·cases h;simp
   cases h
  cases h
 cases h
def WQ(h:Eb xs=.ok fs):G4 fs=some (Bk fs):=by
 unfold G4;rw[AJ ⟨qw h,Lg h⟩]
def aV(N):∀(fs:List Af),(∀f∈fs,aa f.ranges≤N∧f.data.size≤N)→aa (Bk fs)≤aa fs*(64+17*N)
 |[],_=>bk _
 |f::fs,h=>by
  have O:=aV N fs (λg hg=>h g Cs);have U:=kV (f:=f);obtain⟨M,Z⟩:=h f C3;simp only[Bk,N2,a5,f']at*;rw[Al3];omega
def Wm(o:Option (List Af))(sb:Nat)(N:Ah)(R:HP)(v:Value)(H':HP):Prop:=
 match o with
 |none=>(∃x,v=.tuple #[x,.bool false])∧H'=Ad sb N*R
 |some l=>(∃(q:Option Addr) (V A G:Nat) (K:List Value) (u:List RF),v=.tuple #[.slice q (aa l) G,.bool true]∧Sl q V A (aa l) G∧aa l*7+aa K=G*7∧u.map RF.f=l∧(∀r∈u,r.ok∧r.own)∧H'=AC V A u K*(BM u*(Ad sb N*R)))
set_option maxHeartbeats 4000000 in
def ri(sb t:Nat)(m:Ah)(d:ByteArray)(R:HP)(hm:m.ok)(hi:Ar t m.s)(ht:t<900000)(F:d.size<90000000)(S:B6 m.x.ks (Bb m.x.first) d.data.toList=none):
  Fn prog B 86 [ptr sb 0,.string d] (Ad sb m*R) (λv H'=>∃N:Ah,N.ok∧N.s=(m.s.opened d.data.toList).2∧Wm (m.s.opened d.data.toList).1 sb N R v H'):=by
 refine mI func86 ?_;refine Mx ?_;have hks:aa m.x.ks=16:=hi.ks;have o:m.x.next≤20*t:=hi.nx;have Q:aa d.data.toList=d.size:=rfl;refine dV ?_;rintro _ _ ⟨T,y,D,E,P,rfl,A,U,rfl⟩;refine BT ?_;refine Au 10 C1 I I (Bd I (fZ hks T y D E _ A AH C0 (by rw[rC];exact S)))<|Hh ?_;refine HL ?_
 refine FC ?_;have eop:m.s.opened d.data.toList=(none,m.s):=by unfold AL.opened;rw[show B6 m.s.ks (Bb m.s.first) d.data.toList=none from S]
 exact YN
set_option maxHeartbeats 4000000 in
def Aeo(sb t:Nat)(m:Ah)(d:ByteArray)(R:HP)(hm:m.ok)(hi:Ar t m.s)(ht:t<900000)(F:d.size<90000000)(n:UInt64)(ys:List UInt8)(S:B6 m.x.ks (Bb m.x.first) d.data.toList=some (n,ys)):
  Fn prog B 86 [ptr sb 0,.string d] (Ad sb m*R) (λv H'=>∃m':Ah,m'.ok∧m'.s=(m.s.opened d.data.toList).2∧Wm (m.s.opened d.data.toList).1 sb m' R v H'):=by
 refine mI func86 ?_;refine Mx ?_;have hks:aa m.x.ks=16:=hi.ks;have hnx:m.x.next≤20*t:=hi.nx;have hdl:aa d.data.toList=d.size:=rfl;refine dV ?_;rintro _ _ ⟨T,y,D,E,P,rfl,hs24,U,rfl⟩;refine BT ?_;refine Au 10 C1 I I (Bd I (bW hks T y D E _ hs24 AH C0 (by rw[rC];exact S))) ?_;rintro _ _ ⟨q25,b,o25,c25,s25,rfl,hq25,hc25,rfl⟩;obtain⟨hyl,hx300,hn62⟩:=Lm S;refine BT ?_;refine HL ?_;refine JL (Ih (i:=d.size) (j:=m.x.AV) I I) ?_
 refine BE ?_;refine DU 41 I (λK=>?_) (λK=>?_)
 ·have Q:=K;refine HE ?_;have eop:m.s.opened d.data.toList=(none,m.s):=by unfold AL.opened;rw[show B6 m.s.ks (Bb m.s.first) d.data.toList=some (n,ys)from S];dsimp only;rw[AJ (.inl (show m.s.AV<(aa d.data.toList) from Q))]
  exact YN
 have Q:=K;refine CK ?_;refine JL (H4 (i:=n.toNat) (j:=m.x.next) I I)<|A5 ?_;refine mC (λL=>?_) (λL=>?_)
 ·refine J8 ?_;have eop:m.s.opened d.data.toList=(none,m.s):=by unfold AL.opened;rw[show B6 m.s.ks (Bb m.s.first) d.data.toList=some (n,ys)from S];dsimp only;rw[AJ (.inr (show n.toNat≠m.s.next from L))]
  exact YN
 refine J8 ?_;refine JL vP<|J8 ?_;refine mE I (nU q25 b o25 c25 ys _ hq25 AH C0) ?_;rintro _ _ ⟨p,a,o,c,s58,u,fs,dk,dat,rfl,z,hc58,g,W,rfl,hdd⟩;have w:aa u=aa fs:=by rw[←g,eh]
 refine Ki ?_;refine JL (H4 (i:=dk) (j:=0) I I)<|J2 ?_;refine mC (λh63=>?_) (λh63=>?_)
 ·skip;obtain⟨e,G,rfl,rfl,rfl,rfl,rfl⟩:∃e,Eb ys=.error e∧fs=[]∧p=none∧c=0∧dk=5∧dat=iN e:=by
   obtain h|⟨h1,h2,M⟩:=hdd
   ·exact h
   exact absurd h2 h63
  refine J8 ?_;have N:¬(m.s.AV<aa d.data.toList∨n.toNat≠m.s.next):=λh=>by rcases h with h|h;exact Q h;exact L h
  have eop:m.s.opened d.data.toList=(none,{m.s with next:=m.s.next+1}):=by unfold AL.opened;rw[show B6 m.s.ks (Bb m.s.first) d.data.toList=some (n,ys)from S];dsimp only;rw[AF N,G]
  exact mR [4,5] (Ad sb (m.DM {m.x with next:=m.x.next+1})*R) (hE:=⟨λO X=>Sat.right (A:=AC a o u s58*(BM u*(AC b o25 ys s25*AC y D d.data.toList P))) (Eq.mp (by congr 1;rw[EK];show _=AC a o u s58*(BM u*(AC b o25 ys s25*AC y D d.data.toList P))*(Ag sb {m.x with next:=m.x.next+1}*(AK m.x.gq m.ga m.AR*(AK m.x.eq m.ea m.Az*(m.da.h (m.due.map BG.mk)*(m.oa.h m.outs*(AP Bc m.outs*(m.ia.h m.ins*(AP BP m.ins*(m.sa.h m.AM*(AP DB m.AM*R))))))))));ac_rfl) X)⟩) I I ⟨m.DM {m.x with next:=m.x.next+1},{hm with},by rw[eop];rfl,Xp⟩
 obtain⟨G,rfl,rfl⟩:Eb ys=.ok fs∧dk=0∧dat=.int .i64 (-1):=by
  obtain⟨e,h1,h2,M,h4,h5,J⟩|h:=hdd
  ·exact absurd (h5▸h63:¬(5:Nat)≠0) C2
  exact h
 obtain⟨hdl1,C⟩:=QM G;have hdsz:=G! G;have henc:=aV 300 fs (λf hf=>⟨by have:=C f hf;omega,by have:=hdsz f hf;omega⟩);have henc2:aa (Bk fs)<10000000:=by
  have V:aa fs*(64+17*300)≤300*(64+17*300):=ta _ C0;omega
 have hmod:∀r∈u,G6 r:=λr Y=>by
  have V:r.f∈fs:=by rw[←g];exact g9.2 ⟨r,Y,I⟩
  exact⟨(W r Y).1,by have:=C _ V;omega,by have:=hdsz _ V;omega⟩
 refine J5 ?_;refine mE I (nc fs p c a o u _ ⟨z,AH,g,λr Y=>(W r Y).1,λr Y=>by have V:=P1 (B:=B) Y;exact AH⟩ hmod C0 C0) ?_;intro v66 H66 h66;rw[WQ G]at h66;obtain⟨_,rfl,p66,b66,o66,c66,s66,rfl,hs66,hc66,rfl⟩:=h66;refine J8 ?_;refine mA 8 8 ?_;refine BE ?_;refine JT 2 I (KO (xs:=Bk fs) I hs66 AH)<|A4 ?_;refine JT 4 I (KO (xs:=ys) I hq25 AH)<|JT 5 I (pD I I)<|BB ?_;have N:¬(m.s.AV<aa d.data.toList∨n.toNat≠m.s.next):=λh=>by rcases h with h|h;exact Q h;exact L h
 by_cases hee:Bk fs=ys
 ·have eop:m.s.opened d.data.toList=(some fs,{m.s with next:=m.s.next+1}):=by unfold AL.opened;rw[show B6 m.s.ks (Bb m.s.first) d.data.toList=some (n,ys)from S];dsimp only;rw[AF N,G];dsimp only;rw[WQ G,AJ (by rw[hee])]
  rw[decide_eq_true (Rr.2 hee)];exact mR [4,5] (AC a o u s58*(BM u*(Ad sb (m.DM {m.x with next:=m.x.next+1})*R))) (hE:=⟨λO X=>Sat.right (A:=AC b66 o66 (Bk fs) s66*(AC b o25 ys s25*AC y D d.data.toList P)) (Eq.mp (by congr 1;rw[EK];show _=AC b66 o66 (Bk fs) s66*(AC b o25 ys s25*AC y D d.data.toList P)*(AC a o u s58*(BM u*(Ag sb {m.x with next:=m.x.next+1}*(AK m.x.gq m.ga m.AR*(AK m.x.eq m.ea m.Az*(m.da.h (m.due.map BG.mk)*(m.oa.h m.outs*(AP Bc m.outs*(m.ia.h m.ins*(AP BP m.ins*(m.sa.h m.AM*(AP DB m.AM*R))))))))))));ac_rfl) X)⟩) I I ⟨m.DM {m.x with next:=m.x.next+1},{hm with},by rw[eop];rfl,by rw[eop];exact⟨p,a,o,c,s58,u,I,z,hc58,g,W,I⟩⟩
 have eop:m.s.opened d.data.toList=(none,{m.s with next:=m.s.next+1}):=by unfold AL.opened;rw[show B6 m.s.ks (Bb m.s.first) d.data.toList=some (n,ys)from S];dsimp only;rw[AF N,G];dsimp only;rw[WQ G,AF (λh=>hee (Option.some.inj h))]
 rw[decide_eq_false (λh=>hee (Rr.1 h))];exact mR [4,5] (Ad sb (m.DM {m.x with next:=m.x.next+1})*R) (hE:=⟨λO X=>Sat.right (A:=AC b66 o66 (Bk fs) s66*(AC a o u s58*(BM u*(AC b o25 ys s25*AC y D d.data.toList P)))) (Eq.mp (by congr 1;rw[EK];show _=AC b66 o66 (Bk fs) s66*(AC a o u s58*(BM u*(AC b o25 ys s25*AC y D d.data.toList P)))*(Ag sb {m.x with next:=m.x.next+1}*(AK m.x.gq m.ga m.AR*(AK m.x.eq m.ea m.Az*(m.da.h (m.due.map BG.mk)*(m.oa.h m.outs*(AP Bc m.outs*(m.ia.h m.ins*(AP BP m.ins*(m.sa.h m.AM*(AP DB m.AM*R))))))))));ac_rfl) X)⟩) I I ⟨m.DM {m.x with next:=m.x.next+1},{hm with},by rw[eop];rfl,Xp⟩
def bB(sb t)(m:Ah)(d:ByteArray)(R)(hm:m.ok)(hi:Ar t m.s)(ht:t<900000)(F:d.size<90000000):
  Fn prog B 86 [ptr sb 0,.string d] (Ad sb m*R) (λv H'=>∃N:Ah,N.ok∧N.s=(m.s.opened d.data.toList).2∧Wm (m.s.opened d.data.toList).1 sb N R v H'):=by
 cases S:B6 m.x.ks (Bb m.x.first) d.data.toList with
 |none=>exact ri sb t m d R hm hi ht F S
 |some y=>exact Aeo sb t m d R hm hi ht F y.1 y.2 S
def KY(l:List AS)(r:AS):Bool:=l.any (λe=>decide (e.lo≤r.lo)&&decide (r.hi≤e.hi))
def YO(l:List AS)(k)(r:AS)(Z:k<aa l):KY (l.take (k+1)) r=(KY (l.take k) r||(decide ((rg l k).lo≤r.lo)&&decide (r.hi≤(rg l k).hi))):=by
 rw[Kk Z,KY,List.any_append,←I3 Z];simp[KY]
def zT(l)(r:AS):KY l r=true↔∃e∈l,e.lo≤r.lo∧r.hi≤e.hi:=by simp[KY]
def Is(fl:Nat)(rs:List AS)(n:Nat):Bool:= !(decide (n<fl)||BJ rs n)
def NH{i}(h:i<aa due):due.take (i+1)=due.take i++[due.getD i 0]:=by
 exact sD
def f7{i}(h:i<aa due):((due.map BG.mk).getD i AD).n=due.getD i 0:=by
 simp only[ek,x0,c8 h];rfl
set_option maxHeartbeats 4000000 in
def Adf(sb t:Nat)(m:Ah)(r:RF)(R:HP)(hm:m.ok)(hi:Ar t m.s)(ht:t<1000000)(J:r.ok)(hr:AZ B R r.b r.o r.f.ranges)(w:aa r.f.ranges<1000000000000):
  Fn prog B 128 [ptr sb 0,.agg (AN r).toArray] (Ad sb m*R)
   (λv H'=>∃N:Ah,N.ok∧N.s=(m.s.IR r.f).2∧v=.bool (m.s.IR r.f).1∧H'=Ad sb N*R):=by
 refine mI func128 ?_;refine I8 ?_;rintro _ _ ⟨b3,rfl,rfl⟩;refine J5 ?_;refine A3 (H':=AA b3 0 (AN r)*(Ag sb m.x*(AK m.x.gq m.ga m.AR*(AK m.x.eq m.ea m.Az*(AC m.da.b m.da.o (m.due.map BG.mk) m.da.s*(m.oa.h m.outs*(AP Bc m.outs*(m.ia.h m.ins*(AP BP m.ins*(m.sa.h m.AM*(AP DB m.AM*R))))))))))) Qe ?_;have E:Gy B (AA b3 0 (AN r)*(Ag sb m.x*(AK m.x.gq m.ga m.AR*(AK m.x.eq m.ea m.Az*(AC m.da.b m.da.o (m.due.map BG.mk) m.da.s*(m.oa.h m.outs*(AP Bc m.outs*(m.ia.h m.ins*(AP BP m.ins*(m.sa.h m.AM*(AP DB m.AM*R))))))))))) m.x.eq m.ea m.Az:=AH;have P:=E.l;have T:=E.r;have L:Gy B (AA b3 0 (AN r)*(Ag sb m.x*(AK m.x.gq m.ga m.AR*(AK m.x.eq m.ea m.Az*(AC m.da.b m.da.o (m.due.map BG.mk) m.da.s*(m.oa.h m.outs*(AP Bc m.outs*(m.ia.h m.ins*(AP BP m.ins*(m.sa.h m.AM*(AP DB m.AM*R))))))))))) m.x.gq m.ga m.AR:=AH;have U:=L.f;have D:=hm.e.1;have hel:aa m.Az.l≤t:=hi.el;have hdl:aa m.due≤t:=hi.due;refine BB ?_;refine Bf (α:=Nat) (λi=>[(5,iN i),(3,ptr b3 0),(0,ptr sb 0)]) (λ_=>AA b3 0 (AN r)*(Ag sb m.x*(AK m.x.gq m.ga m.AR*(AK m.x.eq m.ea m.Az*(AC m.da.b m.da.o (m.due.map BG.mk) m.da.s*(m.oa.h m.outs*(AP Bc m.outs*(m.ia.h m.ins*(AP BP m.ins*(m.sa.h m.AM*(AP DB m.AM*R))))))))))) (λi=>i≤aa r.f.ranges∧∀k,k<i→KY m.Az.l (rg r.f.ranges k)=true) (λi=>aa r.f.ranges-i) 0 ⟨bk _,λk h=>absurd h (Aje k)⟩ ED I ?_;rintro i ⟨X,V⟩;dsimp only at X V⊢;refine Ei ?_;refine mC (λu=>?_) (λu=>?_)
 ·have u:i<aa r.f.ranges:=u;refine E6 ?_;refine Bf (α:=Nat) (λk=>[(6,.bool (KY (m.Az.l.take k) (rg r.f.ranges i))),(7,iN k),(5,iN i),(3,ptr b3 0),(0,ptr sb 0)]) (λ_=>AA b3 0 (AN r)*(Ag sb m.x*(AK m.x.gq m.ga m.AR*(AK m.x.eq m.ea m.Az*(AC m.da.b m.da.o (m.due.map BG.mk) m.da.s*(m.oa.h m.outs*(AP Bc m.outs*(m.ia.h m.ins*(AP BP m.ins*(m.sa.h m.AM*(AP DB m.AM*R))))))))))) (λk=>k≤aa m.Az.l) (λk=>aa m.Az.l-k) 0 Du Fr I ?_;rintro k a;dsimp only at a⊢;refine Gu ?_;refine mC (λC=>?_) (λC=>?_)
  ·have C:k<aa m.Az.l:=C;refine J4 ?_;refine Bq (α:=Unit) (λ_=>[(6,.bool (KY (m.Az.l.take (k+1)) (rg r.f.ranges i))),(7,iN k),(5,iN i),(3,ptr b3 0),(0,ptr sb 0)]) (λ_=>AA b3 0 (AN r)*(Ag sb m.x*(AK m.x.gq m.ga m.AR*(AK m.x.eq m.ea m.Az*(AC m.da.b m.da.o (m.due.map BG.mk) m.da.s*(m.oa.h m.outs*(AP Bc m.outs*(m.ia.h m.ins*(AP BP m.ins*(m.sa.h m.AM*(AP DB m.AM*R))))))))))) (λ_=>True) ?_ ?_
   ·refine mA 42 42 ?_;refine BE ?_;refine Ha 32 I (λK=>?_) (λK=>?_)
    ·have Q:=K;refine HL ?_;refine CK ?_;exact An () trivial (.cons (congrArg (λM=>some (ad M)) (by rw[YO _ k _ C,Q,Al0])) Bu) I
    have Q:=K;refine Be ?_;refine JY 10 I K (CJ I I D C)<|A4 ?_;refine JY 12 I K (JC (i:=k) (xs:=m.Az.l) I AH C)<|A5 ?_;refine JY 16 I K (CJ I I J u)<|A4 ?_;refine JY 18 I K (JC (i:=i) (xs:=r.f.ranges) I AH u)<|BE ?_;refine D4 51 I (λhg2=>?_) (λhg2=>?_)
    ·have S:=hg2;refine A5 ?_;refine JY 24 I T2 (CJ I I J u)<|A4 ?_;refine JY 26 I T2 (Ig (i:=i) (xs:=r.f.ranges) I AH u)<|Be ?_;refine JY 35 I T2 (CJ I I D C)<|A4 ?_;refine JY 37 I T2 (Ig (i:=k) (xs:=m.Az.l) I AH C)<|BB ?_;exact An () trivial (.cons (congrArg (λM=>some (ad M)) (by rw[YO _ k _ C,Q,decide_eq_true S,Q2,Am4])) Bu) I
    have S:=hg2;refine Ff ?_;exact An () trivial (.cons (congrArg (λM=>some (ad M)) (by rw[YO _ k _ C,Q,decide_eq_false S,Q2,Akz])) Bu) I
   rintro _ _;refine Bt ?_;exact BV (k+1) (by show k+1≤aa m.Az.l;omega) (by show (aa m.Az.l)-(k+1)<aa m.Az.l-k;omega) Fr I
  obtain rfl:k=aa m.Az.l:=by have h7:¬k<aa m.Az.l:=C;omega
  rw[pq];refine O6 ?_;refine mc (λn=>?_) (λn=>?_)
  ·skip;have n:KY m.Az.l (rg r.f.ranges i)=false:=by simpa using n
   refine DL ?_;have y:m.s.IR r.f=(false,m.s):=by
    unfold IR;rw[AF (λh=>by have G:=(zT m.Az.l (rg r.f.ranges i)).2 (h (rg r.f.ranges i) (by rw[I3 u];exact rv u));rw[n]at G;cases G)]
   exact mR [4] (Ad sb m*R) (hE:=⟨λww hw=>Sat.right (A:=AA b3 0 (AN r)) (Eq.mp (by congr 1;rw[EK]) hw)⟩) I I ⟨m,hm,by rw[y],by rw[y];rfl,I⟩
  have n:KY m.Az.l (rg r.f.ranges i)=true:=by simpa using n
  refine Be ?_;exact BV (i+1) ⟨u,λk hk=>by rcases ff k i with h|h;exact V k h;obtain rfl:k=i:=C0;exact n⟩ (by show (aa r.f.ranges)-(i+1)<aa r.f.ranges-i;omega) ED I
 obtain rfl:i=aa r.f.ranges:=by have h7:¬i<aa r.f.ranges:=u;omega
 have F:(∀x∈r.f.ranges,∃e∈m.s.Az.l,e.lo≤x.lo∧x.hi≤e.hi):=by
  intro x hx;obtain⟨k,hk,rfl⟩:=Ax hx;have G:=V k hk;rw[I3 hk]at G;exact(zT _ _).1 G
 refine Fj ?_;refine Bf (α:=Nat×Am) (λz=>[(8,z.2.v (aa ((m.due.take z.1).filter (Is m.AR.floor r.f.ranges)))),(9,iN z.1),(3,ptr b3 0),(0,ptr sb 0)]) (λz=>AC z.2.b z.2.o (((m.due.take z.1).filter (Is m.AR.floor r.f.ranges)).map BG.mk) z.2.s*(AA b3 0 (AN r)*(Ag sb m.x*(AK m.x.gq m.ga m.AR*(AK m.x.eq m.ea m.Az*(AC m.da.b m.da.o (m.due.map BG.mk) m.da.s*(m.oa.h m.outs*(AP Bc m.outs*(m.ia.h m.ins*(AP BP m.ins*(m.sa.h m.AM*(AP DB m.AM*R)))))))))))) (λz=>z.1≤aa m.due∧z.2.ok (((m.due.take z.1).filter (Is m.AR.floor r.f.ranges)).map BG.mk)) (λz=>aa m.due-z.1) (0,Bw) ⟨bk _,Fe⟩ Bu (by show AA b3 0 (AN r)*(Ag sb m.x*(AK m.x.gq m.ga m.AR*(AK m.x.eq m.ea m.Az*(AC m.da.b m.da.o (m.due.map BG.mk) m.da.s*(m.oa.h m.outs*(AP Bc m.outs*(m.ia.h m.ins*(AP BP m.ins*(m.sa.h m.AM*(AP DB m.AM*R))))))))))=AC 0 0 ([]:List BG) []*(AA b3 0 (AN r)*(Ag sb m.x*(AK m.x.gq m.ga m.AR*(AK m.x.eq m.ea m.Az*(AC m.da.b m.da.o (m.due.map BG.mk) m.da.s*(m.oa.h m.outs*(AP Bc m.outs*(m.ia.h m.ins*(AP BP m.ins*(m.sa.h m.AM*(AP DB m.AM*R)))))))))));rw[GY,BS]) ?_;rintro⟨i,la⟩ ⟨X,hla⟩;dsimp only at X hla⊢;have hll:aa ((m.due.take i).filter (Is m.AR.floor r.f.ranges))≤i:=k9 (Ak9 _ _) Qt;generalize hLF:(m.due.take i).filter (Is m.AR.floor r.f.ranges)=lf at*;refine J7 ?_;refine JL Pp<|J4 ?_;refine mC (λh80=>?_) (λh80=>?_)
 ·have h80:i<aa m.due:=h80;refine J5 ?_;refine mA 16 16 ?_;refine A5 ?_;refine JT 3 I Pp<|A4 ?_;refine JT 5 I SS<|JT 6 I Tv<|Bt ?_;refine JT 14 I (ID (i:=(m.due.getD i 0)) (j:=m.AR.floor) I I)<|CY ?_;refine Bf (α:=Nat) (λk=>[(10,.bool (decide ((m.due.getD i 0)<m.AR.floor)||BJ (r.f.ranges.take k) (m.due.getD i 0))),(11,iN k),(8,la.v (aa lf)),(9,iN i),(3,ptr b3 0),(0,ptr sb 0)]) (λ_=>AC la.b la.o (lf.map BG.mk) la.s*(AA b3 0 (AN r)*(Ag sb m.x*(AK m.x.gq m.ga m.AR*(AK m.x.eq m.ea m.Az*(AC m.da.b m.da.o (m.due.map BG.mk) m.da.s*(m.oa.h m.outs*(AP Bc m.outs*(m.ia.h m.ins*(AP BP m.ins*(m.sa.h m.AM*(AP DB m.AM*R)))))))))))) (λk=>k≤aa r.f.ranges) (λk=>aa r.f.ranges-k) 0 Du (.cons (congrArg (λM=>some (ad M)) (by rw[tS];show decide _=(decide _||false);rw[Am2])) Fr) I ?_;rintro k a;dsimp only at a⊢;refine Ei ?_;refine mC (λg=>?_) (λg=>?_)
  ·have g:k<aa r.f.ranges:=g;refine J4 ?_;refine Bq (α:=Unit) (λ_=>[(10,.bool (decide ((m.due.getD i 0)<m.AR.floor)||BJ (r.f.ranges.take (k+1)) (m.due.getD i 0))),(11,iN k),(8,la.v (aa lf)),(9,iN i),(3,ptr b3 0),(0,ptr sb 0)]) (λ_=>AC la.b la.o (lf.map BG.mk) la.s*(AA b3 0 (AN r)*(Ag sb m.x*(AK m.x.gq m.ga m.AR*(AK m.x.eq m.ea m.Az*(AC m.da.b m.da.o (m.due.map BG.mk) m.da.s*(m.oa.h m.outs*(AP Bc m.outs*(m.ia.h m.ins*(AP BP m.ins*(m.sa.h m.AM*(AP DB m.AM*R)))))))))))) (λ_=>True) ?_ ?_
   ·refine mA 34 34 ?_;refine BE ?_;refine Ha 106 I (λO=>?_) (λO=>?_)
    ·have Q:=O;refine HL ?_;refine A5 ?_;exact An () trivial (.cons (congrArg (λM=>some (ad M)) (by rw[OJ _ k _ g,←An1,Q,Al0])) Fr) I
    have Q:=O;refine A5 ?_;refine JY 5 I O (CJ I I J g)<|A4 ?_;refine JY 7 I O (JC (i:=k) (xs:=r.f.ranges) I AH g)<|A5 ?_;refine JY 11 I O Pp<|A4 ?_;refine JY 13 I O SS<|JY 14 I O Tv<|BE ?_;refine D4 121 I (λhg4=>?_) (λhg4=>?_)
    ·have S:=hg4;refine A5 ?_;refine JY 20 I T4 Pp<|A4 ?_;refine JY 22 I T4 SS<|JY 23 I T4 Tv<|A5 ?_;refine JY 27 I T4 (CJ I I J g)<|A4 ?_;refine JY 29 I T4 (Ig (i:=k) (xs:=r.f.ranges) I AH g)<|BB ?_;exact An () trivial (.cons (congrArg (λM=>some (ad M)) (by rw[OJ _ k _ g,←An1,Q,decide_eq_true S,Q2,Am4])) Fr) I
    have S:=hg4;refine HE ?_;exact An () trivial (.cons (congrArg (λM=>some (ad M)) (by rw[OJ _ k _ g,←An1,Q,decide_eq_false S,Q2,Akz])) Fr) I
   rintro _ _;refine Bt ?_;exact BV (k+1) (by show k+1≤aa r.f.ranges;omega) (by show (aa r.f.ranges)-(k+1)<aa r.f.ranges-k;omega) KS I
  obtain rfl:k=aa r.f.ranges:=by have h7:¬k<aa r.f.ranges:=g;omega
  rw[pq];refine O6 ?_;refine mc (λh139=>?_) (λh139=>?_)
  ·skip;have h139:(decide ((m.due.getD i 0)<m.AR.floor)||BJ r.f.ranges (m.due.getD i 0))=false:=by simpa using h139
   refine J5 ?_;refine JL Pp<|J1 ?_;refine JL SS<|JL Tv<|Ae (Gn (cs:=[uN (m.due.getD i 0)]) I Cc I I) I ?_;rintro _ _ ⟨b148,rfl,rfl⟩;refine BH (H':=AC la.b la.o (lf.map BG.mk) la.s*(AA b148 0 (AE [BG.mk (m.due.getD i 0)])*(AA b3 0 (AN r)*(Ag sb m.x*(AK m.x.gq m.ga m.AR*(AK m.x.eq m.ea m.Az*(AC m.da.b m.da.o (m.due.map BG.mk) m.da.s*(m.oa.h m.outs*(AP Bc m.outs*(m.ia.h m.ins*(AP BP m.ins*(m.sa.h m.AM*(AP DB m.AM*R))))))))))))) (by show AA b148 0 _*_=_;rw[show AE [BG.mk (m.due.getD i 0)]=[uN (m.due.getD i 0)]from rfl];ac_rfl)<|Ae (CA (xs:=lf.map BG.mk) (ys:=[BG.mk (m.due.getD i 0)]) (bb:=b148) (oo:=0) (cc:=1) V1 hla.1 hla.2 I Bz AH I kE C0) I ?_;rintro _ _ ⟨p149,b149,o149,c149,s149,rfl,hs149,hc149,rfl⟩;refine BQ ?_;exact Zv
  have h139:(!(decide ((m.due.getD i 0)<m.AR.floor)||BJ r.f.ranges (m.due.getD i 0)))=false:=h139;have h139:(decide ((m.due.getD i 0)<m.AR.floor)||BJ r.f.ranges (m.due.getD i 0))=true:=(by generalize(decide ((m.due.getD i 0)<m.AR.floor)||BJ r.f.ranges (m.due.getD i 0))=M at h139⊢;cases M;cases h139;rfl)
  refine Be ?_;exact Zv
 obtain rfl:i=aa m.due:=by have h7:¬i<aa m.due:=h80;omega
 rw[pq]at hLF;refine Gu ?_;refine J5 ?_;have y:m.s.IR r.f=(true,{m.s with due:=lf}):=by
  unfold IR;rw[AJ F,←hLF];rfl
 obtain⟨Y,W⟩:∃Y:Ah,Y={m with x:={m.x with dv:=.slice la.p (aa lf) la.c},due:=lf,da:=la}:=DF;exact mR [4] (Ad sb Y*R) (hE:=⟨λww hw=>Sat.right (A:=AA b3 0 (AN r)*AC m.da.b m.da.o (m.due.map BG.mk) m.da.s) (Eq.mp (by
  congr 1;rw[EK,W];unfold Am.h;show _=AA b3 0 (AN r)*AC m.da.b m.da.o (m.due.map BG.mk) m.da.s*(Ag sb {m.x with dv:=.slice la.p (aa lf) la.c}*(AK m.x.gq m.ga m.AR*(AK m.x.eq m.ea m.Az*(AC la.b la.o (lf.map BG.mk) la.s*(AC m.oa.b m.oa.o m.outs m.oa.s*(AP Bc m.outs*(AC m.ia.b m.ia.o m.ins m.ia.s*(AP BP m.ins*(AC m.sa.b m.sa.o m.AM m.sa.s*(AP DB m.AM*R))))))))));ac_rfl) hw)⟩) I I ⟨Y,by rw[W];exact {hm with d:=hla,dv:=rfl},by rw[y,W];rfl,by rw[y];rfl,I⟩
end
section
variable{B:World}
set_option maxHeartbeats 8000000 in
def Afj(sb t:Nat)(m:Ah)(r:RF)(R:HP)(hm:m.ok)(hi:Ar t m.s)(hf:B4 r.f)(X:r.f.kind=5):
  Fn prog B 129 [ptr sb 0,.agg (AN r).toArray] (Ad sb m*R)
   (λv H'=>∃N:Ah,N.ok∧N.s=(m.s.sends r.f).2∧v=.bool (m.s.sends r.f).1∧H'=Ad sb N*R):=by
 refine mI func129 ?_;refine I8 ?_;rintro _ _ ⟨b3,rfl,rfl⟩;refine J4 ?_;obtain⟨j,hst⟩:∃j:Nat,r.f.stream=(j:Int):=⟨_,(x3 hf.2.2.1).symm⟩
 have W:j<4:=(by have:=hf.2.2.2.1;omega)
 have hjl:j<aa m.outs:=by rw[No hi];exact W
 have w:=OI hi W;have p:=hm.outs _ HU;have a:=m.NO j hjl;have Y:r.f.stream.toNat=j:=by rw[hst,dz]
 have e:=w.len;have J:=hf.1;have g:aa r.f.data.data.toList=r.f.data.size:=rfl;have D:=hf.2.2.2.2.1.2 X;refine oZ ?_;refine aC ?_;refine Fj ?_;refine Bq (α:=Unit) (λ_=>[(48,.bool (decide (((m.outs.getD j AD).o.given=true∨(m.outs.getD j AD).o.data.length<(r.f.offset+r.f.data.size)∨((m.outs.getD j AD).o.data.take (r.f.offset+r.f.data.size)).drop r.f.offset≠r.f.data.data.toList)))),(5,ptr (m.outs.getD j AD).q 0),(6,uN (r.f.offset+r.f.data.size)),(3,ptr b3 0),(0,ptr sb 0)]) (λ_=>Ag sb m.x*(AC m.oa.b m.oa.o m.outs m.oa.s*(AA (m.outs.getD j AD).q 0 (Gq (m.outs.getD j AD))*(AK (m.outs.getD j AD).cq (m.outs.getD j AD).ca (m.outs.getD j AD).o.AG*(CI Bc m.outs j*(AA b3 0 (AN r)*(GB m sb*R))))))) (λ_=>True) ?_ ?_
 ·refine mA 27 27 ?_;refine BB ?_;refine Ha 26 I (λK=>?_) (λK=>?_)
  ·have Q:=K;refine Ff ?_;refine A4 ?_;exact An () trivial (.cons (congrArg (λbb=>some (ad bb)) ((decide_eq_true (.inl Q)).symm)) Bu) I
  have Q:=K;refine BB ?_;refine JY 10 I K Qn<|Bn ?_;refine D4 36 I (λhg2=>?_) (λhg2=>?_)
  ·have S:=hg2;refine FC ?_;exact An () trivial (.cons (congrArg (λbb=>some (ad bb)) ((decide_eq_true (.inr (.inl S))).symm)) Bu) I
  have S:=hg2;refine Bt ?_;refine JY 22 I F2 (rO I I I (by rw[Mo];omega))<|BE ?_;refine JY 25 I F2 (WH I I)<|BE ?_;exact An () trivial (.cons (congrArg (λbb=>some (ad bb)) (decide_eq_decide.2 ⟨λh=>.inr (.inr (λE=>h (by rw[Yk,E,Sk]))),λh=>by rcases h with h|h|h;rw[Q]at h;cases h;exact absurd h S;exactλE=>h (by have F:=congrArg (λz=>z.data.toList) E;rw[Yk]at F;simpa[BR]using F)⟩)) Bu) I
 rintro _ _;refine J1 ?_;refine mC (λL=>?_) (λL=>?_)
 ·refine J7 ?_;have ese:m.s.sends r.f=(false,m.s):=by
   unfold AL.sends;dsimp only;rw[Y,a];rw[AJ L]
  exact wB
 refine J4 ?_;refine Bq (α:=Unit) (λ_=>[(76,.bool (decide ((r.f.fin≠((m.outs.getD j AD).o.finished&&decide ((r.f.offset+r.f.data.size)=(m.outs.getD j AD).o.data.length))∨(r.f.data.size=0∧r.f.fin=false))))),(5,ptr (m.outs.getD j AD).q 0),(6,uN (r.f.offset+r.f.data.size)),(3,ptr b3 0),(0,ptr sb 0)]) (λ_=>Ag sb m.x*(AC m.oa.b m.oa.o m.outs m.oa.s*(AA (m.outs.getD j AD).q 0 (Gq (m.outs.getD j AD))*(AK (m.outs.getD j AD).cq (m.outs.getD j AD).ca (m.outs.getD j AD).o.AG*(CI Bc m.outs j*(AA b3 0 (AN r)*(GB m sb*R))))))) (λ_=>True) ?_ ?_
 ·refine mA 28 28 ?_;refine Bt ?_;refine Ha 55 I (λO=>?_) (λO=>?_)
  ·have e1:=O;refine BB ?_;refine JY 12 I O Qn<|A5 ?_;refine JT 16 I (XL I I)<|A4 ?_;refine Ha 66 I (λC=>?_) (λC=>?_)
   ·have e2:=C;exact uB
   have e2:=C;refine A5 ?_;refine JY 21 I C dG<|A4 ?_;refine D4 71 I (λhg5=>?_) (λhg5=>?_)
   ·exact uJ
   exact uJ
  have e1:=O;refine BQ ?_;refine JT 16 I (XL I I)<|A4 ?_;refine Ha 66 I (λc=>?_) (λc=>?_)
  ·have e2:=c;exact uB
  have e2:=c;refine A5 ?_;refine JY 21 I c dG<|A4 ?_;refine D4 71 I (λhg7=>?_) (λhg7=>?_)
  ·exact Z2
  exact Z2
 rintro _ _;refine J1 ?_;refine mC (λn=>?_) (λn=>?_)
 ·refine J7 ?_;have ese:m.s.sends r.f=(false,m.s):=by
   unfold AL.sends;dsimp only;rw[Y,a];rw[AF L,AJ n]
  exact wB
 refine FC ?_;refine Bq (α:=Unit) (λ_=>[(5,ptr (m.outs.getD j AD).q 0),(6,uN (r.f.offset+r.f.data.size)),(3,ptr b3 0),(0,ptr sb 0)]) (λ_=>Ag sb m.x*(AC m.oa.b m.oa.o m.outs m.oa.s*(AA (m.outs.getD j AD).q 0 [.string (BR (m.outs.getD j AD).o.data),ptr (m.outs.getD j AD).cq 0,.bool (m.outs.getD j AD).o.finished,.bool (m.outs.getD j AD).o.given,uN (m.outs.getD j AD).o.code,uN (m.outs.getD j AD).o.end_,uN (max (m.outs.getD j AD).o.high (r.f.offset+r.f.data.size))]*(AK (m.outs.getD j AD).cq (m.outs.getD j AD).ca (m.outs.getD j AD).o.AG*(CI Bc m.outs j*(AA b3 0 (AN r)*(GB m sb*R))))))) (λ_=>True) ?_ ?_
 ·refine mC (λy=>?_) (λy=>?_)
  ·refine J7 ?_;exact An () trivial Bu (by rw[Akl (Akm y)])
  refine J1 ?_;exact An () trivial Bu (by rw[Aks (HA y)])
 rintro _ _;refine J7 ?_;have ese:m.s.sends r.f=(true,m.s.Da j {(m.outs.getD j AD).o with high:=max (m.outs.getD j AD).o.high (r.f.offset+r.f.data.size)}):=by
  unfold AL.sends;dsimp only;rw[Y,a];rw[AF L,AF n]
 obtain⟨V,u⟩:∃V:Ds,V={(m.outs.getD j AD)with o:={(m.outs.getD j AD).o with high:=max (m.outs.getD j AD).o.high (r.f.offset+r.f.data.size)}}:=DF;have G:V.ok:=by rw[u];exact p
 exact mR [4] (Ad sb (m.Da j V)*R) (hE:=⟨λww hw=>Sat.right (A:=AA b3 0 (AN r)) (Eq.mp (by
  congr 1;rw[RZ sb m R j hjl V (by rw[u]),u];show _=AA b3 0 (AN r)*(Ag sb m.x*(AC m.oa.b m.oa.o m.outs m.oa.s*(AA (m.outs.getD j AD).q 0 [.string (BR (m.outs.getD j AD).o.data),ptr (m.outs.getD j AD).cq 0,.bool (m.outs.getD j AD).o.finished,.bool (m.outs.getD j AD).o.given,uN (m.outs.getD j AD).o.code,uN (m.outs.getD j AD).o.end_,uN (max (m.outs.getD j AD).o.high (r.f.offset+r.f.data.size))]*(AK (m.outs.getD j AD).cq (m.outs.getD j AD).ca (m.outs.getD j AD).o.AG*(CI Bc m.outs j*(GB m sb*R))))));ac_rfl) hw)⟩) I I ⟨m.Da j V,hm.Da G,by rw[ese,pR,u],by rw[ese];rfl,I⟩
set_option maxHeartbeats 4000000 in
def A_(sb t:Nat)(m:Ah)(r:RF)(R:HP)(hm:m.ok)(hi:Ar t m.s)(ht:t<1000000)(hf:B4 r.f)(J:r.ok)(hr:AZ B R r.b r.o r.f.ranges)(w:aa r.f.ranges<1000000000000):
  Fn prog B 87 [ptr sb 0,.agg (AN r).toArray] (Ad sb m*R)
   (λv H'=>∃N:Ah,N.ok∧N.s=(m.s.may r.f).2∧v=.bool (m.s.may r.f).1∧H'=Ad sb N*R):=by
 refine mI func87 ?_;refine I8 ?_;rintro _ _ ⟨b3,rfl,rfl⟩;refine Ki ?_;refine JL Rn<|J3 ?_;refine mC (λO=>?_) (λO=>?_)
 ·refine J3 ?_;refine JL OU<|ZZ ?_;refine mE I (Adf sb t m r _ hm hi C0 J AH w) ?_;rintro _ _ ⟨m2,hm2,hs2,rfl,rfl⟩;refine J6 ?_;have em:m.s.may r.f=m.s.IR r.f:=by unfold AL.may;rw[AJ O]
  exact cD
 refine S0 ?_;refine mC (λF=>?_) (λF=>?_)
 ·skip;obtain⟨j,hst⟩:∃j:Nat,r.f.stream=(j:Int):=⟨_,(x3 hf.2.2.1).symm⟩
  have W:j<4:=(by have:=hf.2.2.2.1;omega)
  have hjl:j<aa m.outs:=by rw[No hi];exact W
  have c:=OI hi W;have p:=hm.outs _ HU;have a:=m.NO j hjl;have Y:r.f.stream.toNat=j:=by rw[hst,dz]
  have n:=c.len;have u:=hf.1;have g:aa r.f.data.data.toList=r.f.data.size:=rfl;refine oZ ?_;refine J1 ?_;refine aC ?_;refine Bn ?_;refine Bq (α:=Unit) (λ_=>[(4,.bool (decide (((m.outs.getD j AD).o.given=true∧r.f.offset=(m.outs.getD j AD).o.end_∧r.f.code=(m.outs.getD j AD).o.code))))]) (λ_=>Ag sb m.x*(AC m.oa.b m.oa.o m.outs m.oa.s*(AA (m.outs.getD j AD).q 0 (Gq (m.outs.getD j AD))*(AK (m.outs.getD j AD).cq (m.outs.getD j AD).ca (m.outs.getD j AD).o.AG*(CI Bc m.outs j*(AA b3 0 (AN r)*(GB m sb*R))))))) (λ_=>True) ?_ ?_
  ·refine mA 23 23 ?_;refine BB ?_;refine Ha 27 I (λK=>?_) (λK=>?_)
   ·have Q:=K;refine BQ ?_;refine D4 36 I (λe=>?_) (λe=>?_)
    ·have g2:=e;refine CY ?_;exact An () trivial (.cons (congrArg (λbb=>some (ad bb)) (decide_eq_decide.2 ⟨λh=>⟨Q,g2,h⟩,λh=>h.2.2⟩)) (.nil)) I
    have g2:=e;refine CY ?_;exact An () trivial (.cons (congrArg (λbb=>some (Value.bool bb)) ((decide_eq_false (λh=>g2 h.2.1)).symm)) (.nil)) I
   have Q:=K;refine IU ?_;exact An () trivial (.cons (congrArg (λbb=>some (ad bb)) ((decide_eq_false (λh=>by rw[Q]at h;cases h.1)).symm)) (.nil)) I
  rintro _ _;refine J4 ?_;have em:m.s.may r.f=(decide (((m.outs.getD j AD).o.given=true∧r.f.offset=(m.outs.getD j AD).o.end_∧r.f.code=(m.outs.getD j AD).o.code)),m.s):=by unfold AL.may;rw[AF O,AJ F,Y,a]
  exact mR [4] (Ad sb m*R) (hE:=qN) I I ⟨m,hm,by rw[em],Xb,I⟩
 refine Tg ?_;refine mC (λX=>?_) (λX=>?_)
 ·refine J3 ?_;refine JL OU<|ZZ ?_;refine mE I (Afj sb t m r _ hm hi hf X) ?_;rintro _ _ ⟨m2,hm2,hs2,rfl,rfl⟩;refine J6 ?_;have em:m.s.may r.f=m.s.sends r.f:=by unfold AL.may;rw[AF O,AF F,AJ X]
  exact cD
 refine J9 ?_;have em:m.s.may r.f=(false,m.s):=by unfold AL.may;rw[AF O,AF F,AF X]
 exact mR [4] (Ad sb m*R) I I ⟨m,hm,by rw[em],Xb,I⟩
def i7(sb t)(m:Ah)(d:ByteArray)(R)(hm:m.ok)(hi:Ar t m.s)(ht:t<900000)(F:d.size<90000000)(Q:(m.s.opened d.data.toList).1=none):
  Fn prog B 86 [ptr sb 0,.string d] (Ad sb m*R) (λv S=>∃(N:Ah) (x:Value),v=.tuple #[x,.bool false]∧N.ok∧N.s=(m.s.opened d.data.toList).2∧S=Ad sb N*R):=by
 refine(bB sb t m d R hm hi ht F).mono ?_;rintro v S ⟨N,O,U,M⟩;rw[Q]at M;obtain⟨⟨x,rfl⟩,rfl⟩:=M;exact⟨N,x,I,O,U,I⟩
def oF(sb t)(m:Ah)(d:ByteArray)(R)(hm:m.ok)(hi:Ar t m.s)(ht:t<900000)(F:d.size<90000000)(l)(Q:(m.s.opened d.data.toList).1=some l):
  Fn prog B 86 [ptr sb 0,.string d] (Ad sb m*R) (λv S=>∃(N:Ah) (q:Option Addr) (V o' G:Nat) (s':List Value) (rs:List RF),v=.tuple #[.slice q (aa l) G,.bool true]∧N.ok∧N.s=(m.s.opened d.data.toList).2∧
   Sl q V o' (aa l) G∧aa l*7+aa s'=G*7∧rs.map RF.f=l∧(∀r∈rs,r.ok∧r.own)∧S=AC V o' rs s'*(BM rs*(Ad sb N*R))):=by
 refine(bB sb t m d R hm hi ht F).mono ?_;rintro v S ⟨N,O,U,M⟩;rw[Q]at M;obtain⟨q,V,o',G,s',rs,rfl,Z,X,J,a,rfl⟩:=M;exact⟨N,q,V,o',G,s',rs,I,O,U,Z,X,J,a,I⟩
def Abe{s:AL}{b:List UInt8}{l}(h:(s.opened b).1=some l):∀f∈l,aa f.ranges≤300:=by
 unfold AL.opened at h;split at h
 ·cases h
 rename_i i p S;split at h
 ·cases h
 split at h
 ·cases h
 rename_i fs G;dsimp only at h;split at h
 ·cases h;intro f V;have O:=(QM G).2 f V;have U:=Lm S;omega
 cases h
set_option maxHeartbeats 4000000 in
def lu(sb t)(m:Ah)(d:ByteArray)(R)(hm:m.ok)(hi:Ar t m.s)(ht:t<800000)(F:d.size<90000000)(G:m.s.next+1≤20*t)(ho:(m.s.opened d.data.toList).1=none):
  Fn prog B 53 [ptr sb 0,.string d] (Ad sb m*R)
   (λv H'=>∃N:Ah,N.ok∧N.s=(m.s.emit d.data.toList).2∧v=.bool (m.s.emit d.data.toList).1∧H'=Ad sb N*R):=by
 refine eO ?_;refine mE I (i7 sb t m d R hm hi C0 F ho) ?_;rintro _ _ ⟨Q,g,rfl,W,Y,rfl⟩;refine Ff ?_;have a:m.s.emit d.data.toList=(false,(m.s.opened d.data.toList).2):=by
  unfold AL.emit;exact gK
 exact mR [4] (Ad sb Q*R) I I ⟨Q,W,by rw[a];exact Y,by rw[a];rfl,I⟩
set_option maxHeartbeats 4000000 in
def uf(sb t)(m:Ah)(d:ByteArray)(R)(hm:m.ok)(hi:Ar t m.s)(ht:t<800000)(F:d.size<90000000)(G:m.s.next+1≤20*t)(l)(ho:(m.s.opened d.data.toList).1=some l):
  Fn prog B 53 [ptr sb 0,.string d] (Ad sb m*R)
   (λv H'=>∃N:Ah,N.ok∧N.s=(m.s.emit d.data.toList).2∧v=.bool (m.s.emit d.data.toList).1∧H'=Ad sb N*R):=by
 refine eO ?_;refine mE I (oF sb t m d R hm hi C0 F l ho) ?_;rintro _ _ ⟨Q,n,b13,o13,c13,a,rs,rfl,W,Y,K,L,g,hro,rfl⟩;have hi2:=(hi.opened d.data.toList G).1;rw[←Y]at hi2;have hnx2:=(hi.opened d.data.toList G).2;obtain⟨hos,hl300,hokl⟩:=wA ho;have hrng:=Abe ho;have hrl:aa rs=aa l:=by rw[←g,eh]
 have eem:m.s.emit d.data.toList=if(Q.s.De l).1 then(true,{(Q.s.De l).2 with AM:=(Q.s.De l).2.AM++[⟨m.s.next,l⟩]})else(false,(Q.s.De l).2):=by
  unfold AL.emit;rw[Y];exact gK
 refine Ff ?_;refine BE ?_;refine Bf (α:=Nat×Ah) (λz=>[(8,iN z.1),(5,uN m.x.next),(6,.slice n (aa l) c13),(0,ptr sb 0)]) (λz=>AC b13 o13 rs a*(BM rs*(Ad sb z.2*R))) (λz=>z.1≤aa l∧z.2.ok∧Ar t z.2.s∧z.2.s.De (l.drop z.1)=Q.s.De l) (λz=>aa l-z.1) (0,Q) ⟨bk _,W,hi2,I⟩ Bu I ?_;rintro⟨i,u⟩ ⟨D,q2,M,U⟩;dsimp only at D q2 M U⊢;refine J9 ?_;refine mC (λS=>?_) (λS=>?_)
 ·have S:i<aa l:=S;have hgd:rs.getD i AD∈rs:=Gk C0;have T:(rs.getD i AD).f∈l:=by rw[←g];exact Rj
  have howr:=P1 (B:=B) hgd;have r:=hokl _ T;have hrg:=hrng _ T;have GW:l.drop i=(rs.getD i AD).f::l.drop (i+1):=by
   rw[zv S];congr 1;have h8:l[i]?=(rs.map RF.f)[i]?:=by rw[g]
   rw[c8 S,x0,c8 C0]at h8;exact Wc
  refine J9 ?_;refine JL (HQ I I K S I)<|JL TS<|BH (H':=Ad sb u*(AC b13 o13 rs a*(BM rs*(R)))) C4<|mE I (A_ sb t u (rs.getD i AD) _ q2 M C0 r (hro _ hgd).1 AH C0) ?_;rintro _ _ ⟨P,E,y,rfl,rfl⟩;have hi3:Ar t P.s:=by rw[y];exact M.may _ (by have V:=r.2.2.1;have h8:=r.2.2.2.1;omega)
  refine BQ ?_;refine mc (λc=>?_) (λc=>?_)
  ·have c:(!(u.s.may (rs.getD i AD).f).1)=true:=c;have c:(u.s.may (rs.getD i AD).f).1=false:=(by generalize(u.s.may (rs.getD i AD).f).1=bb at c⊢;cases bb;rfl;cases c)
   refine DL ?_;have hml:Q.s.De l=(false,(u.s.may (rs.getD i AD).f).2):=by rw[←U,GW,De,AF (by rw[c];simp)]
   exact mR [4] (Ad sb P*R) (hE:=⟨λO X=>Sat.right (A:=AC b13 o13 rs a*BM rs) (Eq.mp Cp X)⟩) I I ⟨P,E,by rw[eem,hml];exact y,by rw[eem,hml];rfl,I⟩
  have c:(!(u.s.may (rs.getD i AD).f).1)=false:=c;have c:(u.s.may (rs.getD i AD).f).1=true:=(by generalize(u.s.may (rs.getD i AD).f).1=bb at c⊢;cases bb;cases c;rfl)
  refine Be ?_;exact Bg (AC b13 o13 rs a*(BM rs*(Ad sb P*R))) (hE:=⟨λO X=>Eq.mp Cp X⟩) (BV (i+1,P) ⟨S,E,hi3,by rw[←U,GW,De,AJ c,y]⟩ gO Bu I)
 obtain rfl:i=aa l:=by have V:¬i<aa l:=S;omega
 rw[Aj8]at U;refine J6 ?_;have hml:Q.s.De l=(true,u.s):=by rw[←U];rfl
 refine A3 (H':=AC b13 o13 rs a*(BM rs*(Ag sb u.x*(AK u.x.gq u.ga u.AR*(AK u.x.eq u.ea u.Az*(u.da.h (u.due.map BG.mk)*(u.oa.h u.outs*(AP Bc u.outs*(u.ia.h u.ins*(AP BP u.ins*(AC u.sa.b u.sa.o u.AM u.sa.s*(AP DB u.AM*R)))))))))))) Qe ?_;have hsl:aa u.AM≤20000000:=(by have V:=M.sl;have h8:=M.nx;have h9:aa u.s.AM=aa u.AM:=eh ..;omega)
 refine J5 ?_;refine JL (Dx Gr q2.sv)<|J2 ?_;refine JL (Dx (v':=.agg (SU (⟨m.x.next,rs,⟨n,b13,o13,c13,a⟩⟩:EL)).toArray) LS (by show cx _=cx [uN m.x.next,.slice n (aa rs) c13].toArray;rw[hrl]))<|Ae (Gn (cs:=SU (⟨m.x.next,rs,⟨n,b13,o13,c13,a⟩⟩:EL)) I Cc I I) I ?_;rintro _ _ ⟨b43,rfl,rfl⟩;refine BH (H':=AC u.sa.b u.sa.o u.AM u.sa.s*(AA b43 0 (AE [(⟨m.x.next,rs,⟨n,b13,o13,c13,a⟩⟩:EL)])*(AC b13 o13 rs a*(BM rs*(Ag sb u.x*(AK u.x.gq u.ga u.AR*(AK u.x.eq u.ea u.Az*(u.da.h (u.due.map BG.mk)*(u.oa.h u.outs*(AP Bc u.outs*(u.ia.h u.ins*(AP BP u.ins*(AP DB u.AM*R))))))))))))) (by show AA b43 0 _*_=_;rw[show AE [(⟨m.x.next,rs,⟨n,b13,o13,c13,a⟩⟩:EL)]=SU (⟨m.x.next,rs,⟨n,b13,o13,c13,a⟩⟩:EL)from g8 _];ac_rfl)<|Ae (CA (ys:=[(⟨m.x.next,rs,⟨n,b13,o13,c13,a⟩⟩:EL)]) (bb:=b43) (oo:=0) (cc:=1) I q2.sa.1 q2.sa.2 I Bz AH I Cd C0) I ?_;rintro _ _ ⟨p44,b44,o44,c44,s44,rfl,hs44,hc44,rfl⟩;refine DL ?_;obtain⟨w,C⟩:∃w:Ah,w={u with x:={u.x with sv:=.slice p44 (aa (u.AM++[(⟨m.x.next,rs,⟨n,b13,o13,c13,a⟩⟩:EL)])) c44},AM:=u.AM++[(⟨m.x.next,rs,⟨n,b13,o13,c13,a⟩⟩:EL)],sa:=⟨p44,b44,o44,c44,s44⟩}:=DF;have hok4:w.ok:=by
  rw[C];refine {q2 with sa:=⟨hs44,hc44⟩,AM:=λp J=>?_,sv:=rfl};obtain J|J:=j2.1 J
  ·exact q2.AM p J
  rw[g5.1 J];show(⟨n,b13,o13,c13,a⟩:Am).ok rs;unfold Am.ok;rw[hrl];exact⟨K,L⟩
 have hs4:w.s={u.s with AM:=u.s.AM++[⟨m.s.next,l⟩]}:=by
  rw[C];show(⟨u.x.AV,u.x.AI,u.x.ks,u.x.first,u.x.closed,u.x.code,u.x.said,u.x.next,u.AR,u.Az,u.due,u.outs.map (·.o),u.ins.map (·.x),(u.AM++[(⟨m.x.next,rs,⟨n,b13,o13,c13,a⟩⟩:EL)]).map EL.s⟩:AL)=⟨u.x.AV,u.x.AI,u.x.ks,u.x.first,u.x.closed,u.x.code,u.x.said,u.x.next,u.AR,u.Az,u.due,u.outs.map (·.o),u.ins.map (·.x),u.AM.map EL.s++[⟨m.x.next,l⟩]⟩;rw[n8];show(⟨_,_,_,_,_,_,_,_,_,_,_,_,_,u.AM.map EL.s++[⟨m.x.next,rs.map RF.f⟩]⟩:AL)=_;rw[g]
 exact mR [4] (Ad sb w*R) (hE:=⟨λO X=>Sat.right (A:=AA b43 0 (AE [(⟨m.x.next,rs,⟨n,b13,o13,c13,a⟩⟩:EL)])*BM rs) (Eq.mp (by
  congr 1;rw[EK,C];dsimp only;rw[LY,HK,GX];show _=AA b43 0 (AE [(⟨m.x.next,rs,⟨n,b13,o13,c13,a⟩⟩:EL)])*BM rs*(Ag sb {u.x with sv:=.slice p44 (aa (u.AM++[(⟨m.x.next,rs,⟨n,b13,o13,c13,a⟩⟩:EL)])) c44}*(AK u.x.gq u.ga u.AR*(AK u.x.eq u.ea u.Az*(u.da.h (u.due.map BG.mk)*(u.oa.h u.outs*(AP Bc u.outs*(u.ia.h u.ins*(AP BP u.ins*(AC b44 o44 (u.AM++[(⟨m.x.next,rs,⟨n,b13,o13,c13,a⟩⟩:EL)]) s44*(AP DB u.AM*(AC b13 o13 rs a*Bs)*R))))))))));rw[Hr];ac_rfl) X)⟩) I I ⟨w,hok4,by rw[eem,hml];exact hs4,by rw[eem,hml];rfl,I⟩
def Adu(sb t)(m:Ah)(d:ByteArray)(R)(hm:m.ok)(hi:Ar t m.s)(ht:t<800000)(F:d.size<90000000)(G:m.s.next+1≤20*t):
  Fn prog B 53 [ptr sb 0,.string d] (Ad sb m*R)
   (λv H'=>∃N:Ah,N.ok∧N.s=(m.s.emit d.data.toList).2∧v=.bool (m.s.emit d.data.toList).1∧H'=Ad sb N*R):=by
 cases Q:(m.s.opened d.data.toList).1 with
 |none=>exact lu sb t m d R hm hi ht F G Q
 |some l=>exact uf sb t m d R hm hi ht F G l Q
end
section
variable{B:World}
def EG(l:List ByteArray):List (List UInt8):=l.map λb=>b.data.toList
def X8{l:List ByteArray}{i}(h:i<aa l):(EG l).drop i=(l.getD i AD).data.toList::(EG l).drop (i+1):=by
 unfold EG;rw[←List.map_drop,←List.map_drop,zv h,hP,ek,c8 h];rfl
set_option maxHeartbeats 4000000 in
def ig(sb t:Nat)(m:Ah)(l:List ByteArray)(p:Option Addr)(b o c:Nat)(R:HP)(hm:m.ok)(hi:Ar t m.s)(ht:t<900000)(hs:Sl p b o (aa l) c)(hr:AZ B R b o l)(F:(l.getD 0 AD).size<90000000)(G:m.s.next+1≤20*t)(Q:((m.DM {m.x with said:=true}).s.opened (l.getD 0 AD).data.toList).1=none):
  Fn prog B 52 [ptr sb 0,.slice p (aa l) c] (Ad sb m*R)
   (λv H'=>∃N:Ah,N.ok∧N.s=(m.s.Df (EG l)).2∧v=.bool (m.s.Df (EG l)).1∧H'=Ad sb N*R):=by
 refine mI func52 ?_;refine Mx ?_;have X:Ar t (m.DM {m.x with said:=true}).s:={hi with}
 refine Kb ?_;refine mc (λh10=>?_) (λh10=>?_)
 ·exact pG
 refine Gu ?_;refine JL (H4 (i:=aa l) (j:=1) I I)<|J2 ?_;refine mC (λh19=>?_) (λh19=>?_)
 ·exact bD
 have V:aa l=1:=C0;refine mO ?_;refine mE I (i7 sb t (m.DM {m.x with said:=true}) (l.getD 0 AD) R {hm with} X ht F Q) ?_;rintro _ _ ⟨a,g,rfl,W,Y,rfl⟩;refine J8 ?_;refine mA 25 25 ?_;refine Ff ?_;refine DE ?_;have efa:m.s.Df (EG l)=(false,((m.DM {m.x with said:=true}).s.opened (l.getD 0 AD).data.toList).2):=by
  unfold Df;rw[AF Vm,AF XA];have U:({m.s with said:=true}:AL).opened ((EG l).getD 0 [])=(m.DM {m.x with said:=true}).s.opened (l.getD 0 AD).data.toList:=by
   exact xO
  rw[U];rcases e:((m.DM {m.x with said:=true}).s.opened (l.getD 0 AD).data.toList)with⟨o,d⟩
  rw[e]at Q;dsimp only at Q;subst Q;rfl
 exact mR [4] (Ad sb a*R) I I ⟨a,W,by rw[efa];exact Y,Xk,I⟩
set_option maxHeartbeats 4000000 in
def M! (sb t:Nat)(m:Ah)(l:List ByteArray)(p:Option Addr)(b o c:Nat)(R:HP)(hm:m.ok)(hi:Ar t m.s)(ht:t<900000)(hs:Sl p b o (aa l) c)(hr:AZ B R b o l)(F:(l.getD 0 AD).size<90000000)(G:m.s.next+1≤20*t)(fs:List Af)(Q:((m.DM {m.x with said:=true}).s.opened (l.getD 0 AD).data.toList).1=some fs):
  Fn prog B 52 [ptr sb 0,.slice p (aa l) c] (Ad sb m*R)
   (λv H'=>∃N:Ah,N.ok∧N.s=(m.s.Df (EG l)).2∧v=.bool (m.s.Df (EG l)).1∧H'=Ad sb N*R):=by
 refine mI func52 ?_;refine Mx ?_;have X:Ar t (m.DM {m.x with said:=true}).s:={hi with}
 refine Kb ?_;refine mc (λh10=>?_) (λh10=>?_)
 ·exact pG
 refine Gu ?_;refine JL (H4 (i:=aa l) (j:=1) I I)<|J2 ?_;refine mC (λh19=>?_) (λh19=>?_)
 ·exact bD
 have V:aa l=1:=C0;refine mO ?_;refine mE I (oF sb t (m.DM {m.x with said:=true}) (l.getD 0 AD) R {hm with} X ht F fs Q) ?_;rintro _ _ ⟨m2,n,b13,o13,u,s13,rs,rfl,hm2,Y,hs13,L,g,W,rfl⟩;have w:aa rs=aa fs:=by rw[←g,eh]
 have d:∀h:0<aa fs,fs.getD 0 (DX 0)=(rs.getD 0 AD).f:=by
  intro h;rw[←g];simp only[ek,x0,c8 Yp];rfl
 refine J8 ?_;refine A3 (H':=AC b13 o13 rs s13*(BM rs*(Ag sb m2.x*(AK m2.x.gq m2.ga m2.AR*(AK m2.x.eq m2.ea m2.Az*(m2.da.h (m2.due.map BG.mk)*(m2.oa.h m2.outs*(AP Bc m2.outs*(m2.ia.h m2.ins*(AP BP m2.ins*(m2.sa.h m2.AM*(AP DB m2.AM*R)))))))))))) Qe ?_;have efa:m.s.Df (EG l)=(decide (aa fs=1∧(fs.getD 0 (DX 0)).kind=6∧(fs.getD 0 (DX 0)).code=m2.x.code),m2.s):=by
  unfold Df;rw[AF Vm,AF XA];have U:({m.s with said:=true}:AL).opened ((EG l).getD 0 [])=(m.DM {m.x with said:=true}).s.opened (l.getD 0 AD).data.toList:=by
   exact xO
  rw[U];rcases e:((m.DM {m.x with said:=true}).s.opened (l.getD 0 AD).data.toList)with⟨o,r⟩
  rw[e]at Q Y;dsimp only at Q Y;subst Q;dsimp only;rw[←Y];rfl
 refine mA 25 25 ?_;refine Bn ?_;refine WI 4 I C1 I I I I (Dy (i:=aa fs) (j:=1) I I)<|BE ?_;refine D4 34 I (λhg1=>?_) (λhg1=>?_)
 ·have a:=hg1;refine A4 ?_;refine JY 8 I T1 oW<|A4 ?_;refine JY 10 I T1 (Fa (f:=0) (xs:=rs) I AH I Yp)<|JY 11 I T1 (Eo (i:=(rs.getD 0 AD).f.kind) (j:=6) I I)<|BE ?_;refine D4 41 I (λhg2=>?_) (λhg2=>?_)
  ·have S:=hg2;refine A4 ?_;refine JY 15 I T2 oW<|A4 ?_;refine JY 17 I T2 (Fa (f:=3) (xs:=rs) I AH I Yp)<|Bn ?_;refine JY 22 I T2 (Dy (i:=(rs.getD 0 AD).f.code) (j:=m2.x.code) I I)<|BB ?_;have ebb:=(decide_eq_decide.2 ⟨λh=>⟨a,by rw[d C0];exact S,by rw[d C0];exact h⟩,λh=>by have h7:=h.2.2;rw[d C0]at h7;exact h7⟩:decide ((rs.getD 0 AD).f.code=m2.x.code)=decide (aa fs=1∧(fs.getD 0 (DX 0)).kind=6∧(fs.getD 0 (DX 0)).code=m2.x.code))
   exact Wg
  have S:=hg2;refine FM ?_;have ebb:=(decide_eq_false (λh=>S (by have h7:=h.2.1;rw[d C0]at h7;exact h7)):decide (aa fs=1∧(fs.getD 0 (DX 0)).kind=6∧(fs.getD 0 (DX 0)).code=m2.x.code)=false).symm;exact Wg
 have a:=hg1;refine KC ?_;have ebb:=(decide_eq_false (λh=>a h.1):decide (aa fs=1∧(fs.getD 0 (DX 0)).kind=6∧(fs.getD 0 (DX 0)).code=m2.x.code)=false).symm;exact Wg
def gt(sb t)(m:Ah)(l:List ByteArray)(p b o c R)(hm:m.ok)(hi:Ar t m.s)(ht:t<900000)(C:Sl p b o (aa l) c)(hr:AZ B R b o l)(F:(l.getD 0 AD).size<90000000)(G:m.s.next+1≤20*t):
  Fn prog B 52 [ptr sb 0,.slice p (aa l) c] (Ad sb m*R)
   (λv H'=>∃N:Ah,N.ok∧N.s=(m.s.Df (EG l)).2∧v=.bool (m.s.Df (EG l)).1∧H'=Ad sb N*R):=by
 cases Q:((m.DM {m.x with said:=true}).s.opened (l.getD 0 AD).data.toList).1 with
 |none=>exact ig sb t m l p b o c R hm hi ht C hr F G Q
 |some fs=>exact M! sb t m l p b o c R hm hi ht C hr F G fs Q
set_option maxHeartbeats 8000000 in
def Adr(sb t:Nat)(m:Ah)(l:List ByteArray)(p:Option Addr)(b o c:Nat)(R:HP)(hm:m.ok)(hi:Ar t m.s)(ht:t<700000)(J:aa l≤20)(hs:Sl p b o (aa l) c)(hr:AZ B R b o l)(hd:∀d∈l,d.size<90000000):
  Fn prog B 22 [ptr sb 0,.slice p (aa l) c] (Ad sb m*R)
   (λv H'=>∃N:Ah,N.ok∧N.s=(m.s.GL (EG l)).2∧v=.bool (m.s.GL (EG l)).1∧H'=Ad sb N*R):=by
 refine mI func22 ?_;refine Mx ?_;have him:Ar (t+1) m.s:=hi.mono FT;have hnx:=hi.nx;refine Fi ?_;refine JL (H4 (i:=m.x.closed) (j:=0) I I)<|J2 ?_;refine mC (λe=>?_) (λe=>?_)
 ·refine J4 ?_;refine BH (EK sb m R).symm<|mE I (gt sb (t+1) m l p b o c R hm him C0 hs hr (by by_cases h0:0<aa l;exact hd _ (Gk h0);rw[ek,Ajt C0];show(0:Nat)<_;omega) C0) ?_;rintro _ _ ⟨Q,W,Y,rfl,rfl⟩;refine DL ?_;have hem:m.s.GL (EG l)=m.s.Df (EG l):=by unfold AL.GL;rw[AJ (show m.s.closed≠0 from e)]
  exact mR [4] (Ad sb Q*R) I I ⟨Q,W,by rw[hem];exact Y,SB,I⟩
 refine J4 ?_;refine A3 (EK sb m R).symm<|BB ?_;refine Bf (α:=Nat×Ah) (λz=>[(6,iN z.1),(0,ptr sb 0),(1,.slice p (aa l) c)]) (λz=>Ad sb z.2*R) (λz=>z.1≤aa l∧z.2.ok∧Ar (t+1) z.2.s∧z.2.s.next+(aa l-z.1)≤20*(t+1)∧z.2.s.ET ((EG l).drop z.1)=m.s.ET (EG l)) (λz=>aa l-z.1) (0,m) ⟨bk _,hm,him,by show m.s.next+(aa l-0)≤_;omega,I⟩ ED I ?_;rintro⟨i,u⟩ ⟨D,q2,M,U,g⟩;dsimp only at D q2 M U g⊢;refine J9 ?_;refine mC (λr=>?_) (λr=>?_)
 ·have r:i<aa l:=r;have hdi:=hd _ (Gk (d:=AB.AD) r);refine J9 ?_;refine JL (CJ (i:=i) I I hs r)<|JL (Fa (f:=0) (xs:=l) I AH I r)<|mE I (Adu sb (t+1) u (l.getD i AB.AD) R q2 M C0 hdi C0) ?_;rintro _ _ ⟨P,E,y,rfl,rfl⟩;have T:=M.emit (l.getD i AB.AD).data.toList C0;refine BQ ?_;refine mc (λa=>?_) (λa=>?_)
  ·have a:(!(u.s.emit (l.getD i AB.AD).data.toList).1)=true:=a;have a:(u.s.emit (l.getD i AB.AD).data.toList).1=false:=(by generalize(u.s.emit (l.getD i AB.AD).data.toList).1=bb at a⊢;cases bb;rfl;cases a)
   refine DL ?_;have F:m.s.ET (EG l)=(false,(u.s.emit (l.getD i AB.AD).data.toList).2):=by rw[←g,X8 r,AL.ET,AF (by rw[a];decide)]
   have hem:m.s.GL (EG l)=(false,(u.s.emit (l.getD i AB.AD).data.toList).2):=by unfold AL.GL;rw[AF (show ¬m.s.closed≠0 from e),F];rfl
   exact mR [4] (Ad sb P*R) I I ⟨P,E,by rw[hem];exact y,SB,I⟩
  have a:(!(u.s.emit (l.getD i AB.AD).data.toList).1)=false:=a;have a:(u.s.emit (l.getD i AB.AD).data.toList).1=true:=(by generalize(u.s.emit (l.getD i AB.AD).data.toList).1=bb at a⊢;cases bb;cases a;rfl)
  refine Be ?_;exact BV (i+1,P) ⟨r,E,by rw[y];exact T.1,by show P.s.next+(aa l-(i+1))≤_;rw[y];have:=T.2;omega,by rw[←g,X8 r,AL.ET,AJ a,y]⟩ gO ED I
 obtain rfl:i=aa l:=by have V:¬i<aa l:=r;omega
 rw[List.drop_of_length_le (by unfold EG;rw[eh];exact er _)]at g;refine J7 ?_;have F:m.s.ET (EG l)=(true,u.s):=by rw[←g];rfl
 have hdl:aa u.due≤t+1:=M.due;have hem:m.s.GL (EG l)=if ∃n∈u.due,u.AR.floor≤n then(false,u.s)else(true,{u.s with due:=[]}):=by
  unfold AL.GL;rw[AF (show ¬m.s.closed≠0 from e),F,AJ rfl];rfl
 refine A3 (H':=Ag sb u.x*(AK u.x.gq u.ga u.AR*(AK u.x.eq u.ea u.Az*(AC u.da.b u.da.o (u.due.map BG.mk) u.da.s*(u.oa.h u.outs*(AP Bc u.outs*(u.ia.h u.ins*(AP BP u.ins*(u.sa.h u.AM*(AP DB u.AM*R)))))))))) oD<|BB ?_;refine Bf (α:=Nat) (λk=>[(8,iN k),(0,ptr sb 0)]) (λk=>Ag sb u.x*(AK u.x.gq u.ga u.AR*(AK u.x.eq u.ea u.Az*(AC u.da.b u.da.o (u.due.map BG.mk) u.da.s*(u.oa.h u.outs*(AP Bc u.outs*(u.ia.h u.ins*(AP BP u.ins*(u.sa.h u.AM*(AP DB u.AM*R)))))))))) (λk=>k≤aa u.due∧∀n∈u.due.take k,n<u.AR.floor) (λk=>aa u.due-k) 0 ⟨bk _,λn G=>by rw[tS]at G;cases G⟩ WS I ?_;rintro k ⟨q6,q7⟩;dsimp only at q6 q7⊢;refine J7 ?_;refine JL (Dx Gr q2.dv)<|J4 ?_;refine mC (λK=>?_) (λK=>?_)
 ·have K:k<aa u.due:=K;refine J5 ?_;refine mA 15 15 ?_;refine A5 ?_;refine JT 3 I (Dx Gr q2.dv)<|A4 ?_;refine JT 5 I (CJ (i:=k) I I (show Sl u.da.p u.da.b u.da.o (aa u.due) u.da.c from by have V:=q2.d.1;rw[eh]at V;exact V) K)<|JT 6 I (Dx (v':=uN (u.due.getD k 0)) (Fa (f:=0) (xs:=u.due.map BG.mk) I AH I (by rw[eh];exact K)) (by rw[←f7 K]))<|Bt ?_;refine JT 14 I (M0 (i:=(u.due.getD k 0)) (j:=u.AR.floor) I I)<|BE ?_;refine mC (λL=>?_) (λL=>?_)
  ·refine DL ?_;rw[AJ ⟨(u.due.getD k 0),Gk K,L⟩]at hem;exact mR [4] (Ad sb u*R) (hE:=by rw[EK];exact AH) I I ⟨u,q2,by rw[hem],SB,I⟩
  refine Be ?_;exact BV (k+1) ⟨K,λn G=>by
   rw[NH K]at G;obtain G|G:=j2.1 G
   ·exact q7 n G
   rw[g5.1 G];omega⟩ (by show (aa u.due)-(k+1)<aa u.due-k;omega) WS I
 obtain rfl:k=aa u.due:=by have V:¬k<aa u.due:=K;omega
 rw[pq]at q7;refine Gu ?_;refine J4 ?_;rw[AF (by rintro⟨n,G,h2⟩;have:=q7 n G;omega)]at hem;obtain⟨w,C⟩:∃w:Ah,w={u with x:={u.x with dv:=.slice none 0 0},due:=[],da:=Bw}:=DF;have S:w.ok:=by rw[C];exact {q2 with d:=Fe,dv:=rfl}
 exact mR [4] (Ad sb w*R) (hE:=⟨λO X=>Sat.right (A:=AC u.da.b u.da.o (u.due.map BG.mk) u.da.s) (Eq.mp (by
  congr 1;rw[EK,C];show _=AC u.da.b u.da.o (u.due.map BG.mk) u.da.s*(Ag sb {u.x with dv:=.slice none 0 0}*(AK u.x.gq u.ga u.AR*(AK u.x.eq u.ea u.Az*(Bw.h ([]:List BG)*(u.oa.h u.outs*(AP Bc u.outs*(u.ia.h u.ins*(AP BP u.ins*(u.sa.h u.AM*(AP DB u.AM*R))))))))));rw[HJ,HP.BS];ac_rfl) X)⟩) I I ⟨w,S,by rw[hem,C];rfl,SB,I⟩
end
end Go.Proofs.YtgfdlpcdjklcoaaGreatDoor
