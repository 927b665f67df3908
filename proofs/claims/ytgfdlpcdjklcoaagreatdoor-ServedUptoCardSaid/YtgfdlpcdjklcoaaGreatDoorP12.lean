/- Steps of this proof; no condition. -/
import Derived.Test.YtgfdlpcdjklcoaaGreatDoorP11
namespace Go.Proofs.YtgfdlpcdjklcoaaGreatDoor
open Go Go.RowKit Go.Proofs.Tryz HP AB
open _root_.List renaming length→aa
set_option linter.all false
open _root_.List renaming replicate→ad
open _root_.Go.Value renaming bool→a9
open _root_.UInt8 renaming ofNat→cx
set_option maxRecDepth 20000
section
variable{B:World}
def kZ(xs:List Bool):AE xs=xs.map a9:=by
 induction xs with
 |nil=>rfl
 |cons x xs Z=>show [a9 x]++AE xs=_;rw[Z];rfl
instance updBool(b o i:Nat)(xs:List Bool)(s:List Value)(v:Bool):D8 (AC b o xs s) b (o+i*1) (.bool v) (AC b o (xs.set i v) s) (i<aa xs):=
 ⟨λr Y M=>by
  have F:aa (AE xs)=aa xs:=by rw[CV];show (aa xs)*1=_;omega
  have h:OH (AE xs++s) i (.bool v) ((AE xs++s).set i (.bool v)):=⟨lX,I⟩
  have U:=(AH:D8 (AA b o (AE xs++s)) b (o+i) (.bool v) (AA b o ((AE xs++s).set i (.bool v))) True).upd r Y trivial;rw[s6];refine⟨U.1,?_⟩;have e:AE (xs.set i v)++s=(AE xs++s).set i (.bool v):=by rw[Amn _ _ C0];congr 1;rw[kZ,kZ,D']
  unfold AC;rw[e];exact U.2⟩
section
variable{P:Program}{n:Nat}{E:A8}{D:CW}{H:HP}{d:Option Tmp}{T T' ty:TypeId}{pos:String}{af:Array Edge}{g:Option (Nat×Bool)}{x y z u:Operand}
def bf{s:ByteArray}{i:Nat}{J:IntKind}[hT:Aw P T .string](F:ev E x=some (.string s))(G:ev E y=some (.int J i))(hi:i<s.size):
  AY P B n ⟨d,.index T x y,ty,pos,af,g⟩ E H (u8 (s.data.toList.getD i 0)):=by
 intro a w N _;have A:(0:Int)≤(i:Nat):=C0;have O:s[i]?=some s[i]:=by simp[hi]
 simp only[A9,BL,Dp,CT,DQ,EP,EX,Ej,B3,BX,true_and,and_true,and_self,execOp,N.ev F,N.ev G,Instr.index,asIntOf,bn,bp,b0,A6 hT.get,A,if_true,dz,O];have U:s.data.toList.getD i 0=s[i]:=by
  rw[ek,Array.getElem?_toList];have:s.data[i]?=some s[i]:=by
   have M:i<s.data.size:=hi;rw[mi M];rfl
  rw[this];rfl
 rw[U]
end
def dY(ds:List UInt8)(off)(data:List UInt8)(there:List Bool)(i)(hi:i<aa ds):
  Hi (ds.drop i) (off+i) data there=if there.getD (off+i) false then Hi (ds.drop (i+1)) (off+(i+1)) data there else Hi (ds.drop (i+1)) (off+(i+1)) (data.set (off+i) (ds.getD i 0)) (there.set (off+i) true):=by
 have e:ds.getD i 0=ds[i]:=by rw[ek,c8 hi];rfl
 rw[zv hi,Hi,e];rfl
set_option maxHeartbeats 4000000 in
def va(sb t:Nat)(m:Ah)(r:RF)(R:HP)(hm:m.ok)(hi:Ar t m.s)(ht:t<1000000)(hf:GI r.f)(h5:r.f.kind=5)(hb:(m.s.i r.f.stream.toNat).given=false→r.f.offset+r.f.data.size≤(m.s.i r.f.stream.toNat).read+m.s.AI):
  Fn prog B 127 [ptr sb 0,.agg (AN r).toArray] (Ad sb m*R)
   (λv H'=>∃N:Ah,N.ok∧N.s=m.s.Dd r.f.stream.toNat ((m.s.i r.f.stream.toNat).bytes r.f).2∧v=iN ((m.s.i r.f.stream.toNat).bytes r.f).1∧H'=Ad sb N*R):=by
 refine mI func127<|A3 (H':=Ad sb m*R) I ?_;obtain⟨j,hst⟩:∃j:Nat,r.f.stream=(j:Int):=⟨_,(x3 hf.1).symm⟩
 have hj:j<4:=(by have:=hf.2.1;omega)
 have hjl:j<aa m.ins:=by rw[Ah.RR hi];exact hj
 have J:=Ah.XY hi hj;have hxm:=hm.ins _ HU;have exj:=m.QC j hjl;have w:=hf.2.2.2.1;have hoe:=hf.2.2.2.2.1 h5;have hdsz:aa r.f.data.data.toList=r.f.data.size:=rfl;have hrt:=J.rt;have hhw:=J.hw;have hw2:m.x.AI≤1024:=hi.w2;have hdl:=J.dl;have htl:=J.tl;have hen:=J.en;have eby:m.s.i r.f.stream.toNat=(m.zj j).x:=by rw[hst,dz,exj]
 rw[eby]at hb⊢;rw[show r.f.stream.toNat=j by rw[hst,dz]];have hb:(m.zj j).x.given=false→(r.f.offset+r.f.data.size)≤(m.zj j).x.read+m.x.AI:=hb;refine J2 ?_;refine Ae (EB (l:=AN r) I I) I ?_;rintro _ _ ⟨b3,rfl,rfl⟩;refine P9 ?_;refine A3 (H':=Ag sb m.x*(AC m.ia.b m.ia.o m.ins m.ia.s*(AA (m.zj j).q 0 (I7 (m.zj j))*(AC (m.zj j).a.b (m.zj j).a.o (m.zj j).x.data (m.zj j).a.s*(AC (m.zj j).b.b (m.zj j).b.o (m.zj j).x.there (m.zj j).b.s*(CI BP m.ins j*(AA b3 0 (AN r)*(Ee m sb*R)))))))) eP<|mA 9 9 ?_;refine QS ?_;refine JT 3 I Zh<|M' ?_;refine JT 6 I Yz<|JT 7 I Xr<|Fj ?_;refine Bq (α:=Unit) (λ_=>[(59,.bool (decide (NP (m.zj j).x.ended (m.zj j).x.end_ (m.zj j).x.high r.f))),(5,ptr (m.zj j).q 0),(6,uN (r.f.offset+r.f.data.size)),(3,ptr b3 0),(0,ptr sb 0)]) (λ_=>Ag sb m.x*(AC m.ia.b m.ia.o m.ins m.ia.s*(AA (m.zj j).q 0 (I7 (m.zj j))*(AC (m.zj j).a.b (m.zj j).a.o (m.zj j).x.data (m.zj j).a.s*(AC (m.zj j).b.b (m.zj j).b.o (m.zj j).x.there (m.zj j).b.s*(CI BP m.ins j*(AA b3 0 (AN r)*(Ee m sb*R)))))))) (λ_=>True) ?_ ?_
 ·refine J6 ?_;refine Do 28 I (λK=>?_) (λK=>?_)
  ·have hed:=K;refine FM ?_;refine DU 35 I (λe=>?_) (λe=>?_)
   ·have F:=e;refine Ff ?_;refine Bn ?_;exact An () trivial (.cons (congrArg (λbb=>some (a9 bb)) ((decide_eq_true (.inl ⟨hed,.inl F⟩)).symm)) Bu) I
   have F:=e;refine DE ?_;refine Do 38 I (λO=>?_) (λO=>?_)
   ·have hfi:=O;refine HE ?_;refine DU 48 I (λhg4=>?_) (λhg4=>?_)
    ·have L:=hg4;refine DY ?_;exact An () trivial (.cons (congrArg (λbb=>some (a9 bb)) ((decide_eq_true (.inl ⟨hed,.inr ⟨hfi,L⟩⟩)).symm)) Bu) I
    have L:=hg4;refine DE ?_;refine Do 51 I (λhg5=>?_) (λhg5=>?_)
    ·have hf2:=hg5;refine E6 ?_;exact An () trivial (.cons (congrArg (λbb=>some (a9 bb)) (decide_eq_decide.2 ⟨λh=>.inr ⟨hfi,h⟩,λh=>by rcases h with⟨_,h|h⟩|h;exact absurd h F;exact absurd h.2 L;exact h.2⟩)) Bu) I
    have hf2:=hg5;refine JH hg5 ?_;refine JH hg5 ?_;refine JH hg5 ?_;refine JH hg5 ?_;refine JH hg5 ?_;refine JH hg5 ?_;refine JG F4<|JL (N5 hg5 I I)<|JL (N5 F4 I I)<|J1 ?_;exact An () trivial pO I
   have hfi:=O;refine HE ?_;refine Do 51 I (λhg6=>?_) (λhg6=>?_)
   ·have hf2:=hg6;refine E6 ?_;exact An () trivial pO I
   have hf2:=hg6;refine CY ?_;exact An () trivial (.cons (congrArg (λbb=>some (a9 bb)) ((decide_eq_false (λh=>by rcases h with⟨_,h|h⟩|h;exact F h;rw[hfi]at h;cases h.1;rw[hfi]at h;cases h.1)).symm)) Bu) I
  have hed:=K;refine Ff ?_;refine Bn ?_;refine Do 51 I (λhg7=>?_) (λhg7=>?_)
  ·have hf2:=hg7;refine E6 ?_;exact An () trivial (.cons (congrArg (λbb=>some (a9 bb)) (decide_eq_decide.2 ⟨λh=>.inr ⟨hf2,h⟩,λh=>by rcases h with⟨h,_⟩|h;rw[hed]at h;cases h;exact h.2⟩)) Bu) I
  have hf2:=hg7;refine CY ?_;exact An () trivial (.cons (congrArg (λbb=>some (a9 bb)) ((decide_eq_false (λh=>by rcases h with⟨h,_⟩|h;rw[hed]at h;cases h;rw[hf2]at h;cases h.1)).symm)) Bu) I
 rintro _ _;refine J1 ?_;refine mC (λh59=>?_) (λh59=>?_)
 ·refine Bt ?_;have hsame:m.s.Dd j (m.zj j).x=m.s:=by
   exact vJ
  have ebt:(m.zj j).x.bytes r.f=(7,(m.zj j).x):=by unfold Dv.bytes;rw[AJ h59]
  exact lH
 refine DL ?_;refine mc (λh63=>?_) (λh63=>?_)
 ·refine Bt ?_;have hsame:m.s.Dd j (m.zj j).x=m.s:=by
   exact vJ
  have ebt:(m.zj j).x.bytes r.f=(0,(m.zj j).x):=by unfold Dv.bytes;rw[AF h59,AJ h63]
  exact lH
 have hble:=hb h63;refine FC ?_;refine Bq (α:=Unit) (λ_=>[(5,ptr (m.zj j).q 0),(6,uN (r.f.offset+r.f.data.size)),(3,ptr b3 0),(0,ptr sb 0)]) (λ_=>Ag sb m.x*(AC m.ia.b m.ia.o m.ins m.ia.s*(AA (m.zj j).q 0 [.slice (m.zj j).a.p (m.zj j).x.data.length (m.zj j).a.c,.slice (m.zj j).b.p (m.zj j).x.there.length (m.zj j).b.c,uN (max (m.zj j).x.high (r.f.offset+r.f.data.size)),uN (m.zj j).x.end_,.bool (m.zj j).x.ended,.bool (m.zj j).x.given,uN (m.zj j).x.code,uN (m.zj j).x.read,iN (m.zj j).x.state]*(AC (m.zj j).a.b (m.zj j).a.o (m.zj j).x.data (m.zj j).a.s*(AC (m.zj j).b.b (m.zj j).b.o (m.zj j).x.there (m.zj j).b.s*(CI BP m.ins j*(AA b3 0 (AN r)*(Ee m sb*R)))))))) (λ_=>True) ?_ ?_
 ·refine mC (λh69=>?_) (λh69=>?_)
  ·refine J7 ?_;exact An () trivial Bu (by rw[Akl (Akm h69)])
  refine J1 ?_;exact An () trivial Bu (by rw[Aks (HA h69)])
 rintro _ _;refine J8 ?_;refine Bq (α:=Unit) (λ_=>[(5,ptr (m.zj j).q 0),(6,uN (r.f.offset+r.f.data.size)),(3,ptr b3 0),(0,ptr sb 0)]) (λ_=>Ag sb m.x*(AC m.ia.b m.ia.o m.ins m.ia.s*(AA (m.zj j).q 0 [.slice (m.zj j).a.p (m.zj j).x.data.length (m.zj j).a.c,.slice (m.zj j).b.p (m.zj j).x.there.length (m.zj j).b.c,uN (max (m.zj j).x.high (r.f.offset+r.f.data.size)),uN (if r.f.fin then(r.f.offset+r.f.data.size)else(m.zj j).x.end_),.bool ((m.zj j).x.ended||r.f.fin),.bool (m.zj j).x.given,uN (m.zj j).x.code,uN (m.zj j).x.read,iN (m.zj j).x.state]*(AC (m.zj j).a.b (m.zj j).a.o (m.zj j).x.data (m.zj j).a.s*(AC (m.zj j).b.b (m.zj j).b.o (m.zj j).x.there (m.zj j).b.s*(CI BP m.ins j*(AA b3 0 (AN r)*(Ee m sb*R)))))))) (λ_=>True) ?_ ?_
 ·refine mc (λh75=>?_) (λh75=>?_)
  ·refine Gu ?_;exact An () trivial Bu (by rw[h75,Bool.or_true];rfl)
  refine J1 ?_;exact An () trivial Bu (by rw[h75,Am2];rfl)
 rintro _ _;refine J3 ?_;refine Bf (α:=Nat×Am×Am) (λz=>[(5,ptr (m.zj j).q 0),(6,uN (r.f.offset+r.f.data.size)),(3,ptr b3 0),(0,ptr sb 0)]) (λz=>Ag sb m.x*(AC m.ia.b m.ia.o m.ins m.ia.s*(AA (m.zj j).q 0 [.slice z.2.1.p (aa ((m.zj j).x.data++ad z.1 (0:UInt8))) z.2.1.c,.slice z.2.2.p (aa ((m.zj j).x.there++ad z.1 false)) z.2.2.c,uN (max (m.zj j).x.high (r.f.offset+r.f.data.size)),uN (if r.f.fin then(r.f.offset+r.f.data.size)else(m.zj j).x.end_),.bool ((m.zj j).x.ended||r.f.fin),.bool (m.zj j).x.given,uN (m.zj j).x.code,uN (m.zj j).x.read,iN (m.zj j).x.state]*(AC z.2.1.b z.2.1.o ((m.zj j).x.data++ad z.1 (0:UInt8)) z.2.1.s*(AC z.2.2.b z.2.2.o ((m.zj j).x.there++ad z.1 false) z.2.2.s*(CI BP m.ins j*(AA b3 0 (AN r)*(Ee m sb*R)))))))) (λz=>(m.zj j).x.data.length+z.1≤(max (m.zj j).x.high (r.f.offset+r.f.data.size))∧z.2.1.ok ((m.zj j).x.data++ad z.1 (0:UInt8))∧z.2.2.ok ((m.zj j).x.there++ad z.1 false)) (λz=>(max (m.zj j).x.high (r.f.offset+r.f.data.size))-((m.zj j).x.data.length+z.1)) (0,(m.zj j).a,(m.zj j).b) ⟨by show(m.zj j).x.data.length+0≤(max (m.zj j).x.high (r.f.offset+r.f.data.size));omega,by simpa using hxm.1,by simpa using hxm.2⟩ Bu (by simp only[Ajc,g8]) ?_;rintro⟨k,U,b1⟩ ⟨hk1,ha1,hb1⟩;dsimp only at hk1 ha1 hb1⊢;have V:aa ((m.zj j).x.data++ad k (0:UInt8))=(m.zj j).x.data.length+k:=by rw[a5,s8]
 have Y:aa ((m.zj j).x.there++ad k false)=(m.zj j).x.there.length+k:=by rw[a5,s8]
 refine J2 ?_;refine mA 11 11 ?_;refine Bn ?_;refine JT 4 I (Dx (UO I) (by rw[V]))<|Be ?_;refine mC (λh93=>?_) (λh93=>?_)
 ·have h93:(m.zj j).x.data.length+k<(max (m.zj j).x.high (r.f.offset+r.f.data.size)):=h93;refine Ei ?_;refine Ae iC I ?_;rintro _ _ ⟨b99,rfl,rfl⟩;refine BH (H':=AC U.b U.o ((m.zj j).x.data++ad k (0:UInt8)) U.s*(AA b99 0 (AE [(0:UInt8)])*(Ag sb m.x*(AC m.ia.b m.ia.o m.ins m.ia.s*(AA (m.zj j).q 0 [.slice U.p (aa ((m.zj j).x.data++ad k (0:UInt8))) U.c,.slice b1.p (aa ((m.zj j).x.there++ad k false)) b1.c,uN (max (m.zj j).x.high (r.f.offset+r.f.data.size)),uN (if r.f.fin then(r.f.offset+r.f.data.size)else(m.zj j).x.end_),.bool ((m.zj j).x.ended||r.f.fin),.bool (m.zj j).x.given,uN (m.zj j).x.code,uN (m.zj j).x.read,iN (m.zj j).x.state]*(AC b1.b b1.o ((m.zj j).x.there++ad k false) b1.s*(CI BP m.ins j*(AA b3 0 (AN r)*(Ee m sb*R))))))))) (by show AA b99 0 _*_=_;ac_rfl)<|Ae (CA (ys:=[(0:UInt8)]) (bb:=b99) (oo:=0) (cc:=1) I ha1.1 ha1.2 I Bz AH I Cd C0) I ?_;rintro _ _ ⟨W,Q,o100,c100,s100,rfl,hs100,hc100,rfl⟩;refine DL ?_;refine Ae (Gn (cs:=[.bool false]) I Cc I I) I ?_;rintro _ _ ⟨b108,rfl,rfl⟩;refine BH (H':=AC b1.b b1.o ((m.zj j).x.there++ad k false) b1.s*(AA b108 0 (AE [false])*(AC Q o100 (((m.zj j).x.data++ad k (0:UInt8))++[0]) s100*(AA b99 0 (AE [(0:UInt8)])*(Ag sb m.x*(AC m.ia.b m.ia.o m.ins m.ia.s*(AA (m.zj j).q 0 [.slice W (aa (((m.zj j).x.data++ad k (0:UInt8))++[0])) c100,.slice b1.p (aa ((m.zj j).x.there++ad k false)) b1.c,uN (max (m.zj j).x.high (r.f.offset+r.f.data.size)),uN (if r.f.fin then(r.f.offset+r.f.data.size)else(m.zj j).x.end_),.bool ((m.zj j).x.ended||r.f.fin),.bool (m.zj j).x.given,uN (m.zj j).x.code,uN (m.zj j).x.read,iN (m.zj j).x.state]*(CI BP m.ins j*(AA b3 0 (AN r)*(Ee m sb*R)))))))))) (by show AA b108 0 _*_=_;ac_rfl)<|Ae (CA (ys:=[false]) (bb:=b108) (oo:=0) (cc:=1) I hb1.1 hb1.2 I Bz AH I Cd C0) I ?_;rintro _ _ ⟨p109,b109,o109,c109,s109,rfl,hs109,hc109,rfl⟩;refine J5 ?_;have C:((m.zj j).x.data++ad k (0:UInt8))++[0]=((m.zj j).x.data++ad (k+1) (0:UInt8)):=by rw[c5,Ake]
  have M:((m.zj j).x.there++ad k false)++[false]=((m.zj j).x.there++ad (k+1) false):=by rw[c5,Ake]
  rw[C]at hs100 hc100;rw[M]at hs109 hc109;exact Bg (Ag sb m.x*(AC m.ia.b m.ia.o m.ins m.ia.s*(AA (m.zj j).q 0 [.slice (⟨W,Q,o100,c100,s100⟩:Am).p (aa ((m.zj j).x.data++ad (k+1) (0:UInt8))) (⟨W,Q,o100,c100,s100⟩:Am).c,.slice (⟨p109,b109,o109,c109,s109⟩:Am).p (aa ((m.zj j).x.there++ad (k+1) false)) (⟨p109,b109,o109,c109,s109⟩:Am).c,uN (max (m.zj j).x.high (r.f.offset+r.f.data.size)),uN (if r.f.fin then(r.f.offset+r.f.data.size)else(m.zj j).x.end_),.bool ((m.zj j).x.ended||r.f.fin),.bool (m.zj j).x.given,uN (m.zj j).x.code,uN (m.zj j).x.read,iN (m.zj j).x.state]*(AC (⟨W,Q,o100,c100,s100⟩:Am).b (⟨W,Q,o100,c100,s100⟩:Am).o ((m.zj j).x.data++ad (k+1) (0:UInt8)) (⟨W,Q,o100,c100,s100⟩:Am).s*(AC (⟨p109,b109,o109,c109,s109⟩:Am).b (⟨p109,b109,o109,c109,s109⟩:Am).o ((m.zj j).x.there++ad (k+1) false) (⟨p109,b109,o109,c109,s109⟩:Am).s*(CI BP m.ins j*(AA b3 0 (AN r)*(Ee m sb*R)))))))) (hE:=⟨λww hw=>Sat.right (A:=AA b99 0 (AE [(0:UInt8)])*AA b108 0 (AE [false])) (Eq.mp (by congr 1;rw[C,M];ac_rfl) hw)⟩)<|BV (k+1,⟨W,Q,o100,c100,s100⟩,⟨p109,b109,o109,c109,s109⟩) ⟨by show(m.zj j).x.data.length+(k+1)≤(max (m.zj j).x.high (r.f.offset+r.f.data.size));omega,⟨hs100,hc100⟩,⟨hs109,hc109⟩⟩ (by show(max (m.zj j).x.high (r.f.offset+r.f.data.size))-((m.zj j).x.data.length+(k+1))<(max (m.zj j).x.high (r.f.offset+r.f.data.size))-((m.zj j).x.data.length+k);omega) Bu I
 have h93:¬(m.zj j).x.data.length+k<(max (m.zj j).x.high (r.f.offset+r.f.data.size)):=h93;obtain rfl:k=(max (m.zj j).x.high (r.f.offset+r.f.data.size))-(m.zj j).x.data.length:=C0;have V:aa ((m.zj j).x.data++ad ((max (m.zj j).x.high (r.f.offset+r.f.data.size))-(m.zj j).x.data.length) (0:UInt8))=(max (m.zj j).x.high (r.f.offset+r.f.data.size)):=by rw[V];omega
 have Y:aa ((m.zj j).x.there++ad ((max (m.zj j).x.high (r.f.offset+r.f.data.size))-(m.zj j).x.data.length) false)=(max (m.zj j).x.high (r.f.offset+r.f.data.size)):=by rw[Y];omega
 generalize hD0:((m.zj j).x.data++ad ((max (m.zj j).x.high (r.f.offset+r.f.data.size))-(m.zj j).x.data.length) (0:UInt8))=D0 at*;generalize hT0:((m.zj j).x.there++ad ((max (m.zj j).x.high (r.f.offset+r.f.data.size))-(m.zj j).x.data.length) false)=T0 at*;refine UL ?_;refine Bf (α:=Nat×List UInt8×List Bool) (λz=>[(7,iN z.1),(5,ptr (m.zj j).q 0),(6,uN (r.f.offset+r.f.data.size)),(3,ptr b3 0),(0,ptr sb 0)]) (λz=>Ag sb m.x*(AC m.ia.b m.ia.o m.ins m.ia.s*(AA (m.zj j).q 0 [.slice U.p (aa D0) U.c,.slice b1.p (aa T0) b1.c,uN (max (m.zj j).x.high (r.f.offset+r.f.data.size)),uN (if r.f.fin then(r.f.offset+r.f.data.size)else(m.zj j).x.end_),.bool ((m.zj j).x.ended||r.f.fin),.bool (m.zj j).x.given,uN (m.zj j).x.code,uN (m.zj j).x.read,iN (m.zj j).x.state]*(AC U.b U.o z.2.1 U.s*(AC b1.b b1.o z.2.2 b1.s*(CI BP m.ins j*(AA b3 0 (AN r)*(Ee m sb*R)))))))) (λz=>z.1≤r.f.data.size∧aa z.2.1=(max (m.zj j).x.high (r.f.offset+r.f.data.size))∧aa z.2.2=(max (m.zj j).x.high (r.f.offset+r.f.data.size))∧Hi (r.f.data.data.toList.drop z.1) (r.f.offset+z.1) z.2.1 z.2.2=Hi r.f.data.data.toList r.f.offset D0 T0) (λz=>r.f.data.size-z.1) (0,D0,T0) ⟨bk _,V,Y,I⟩ Fr I ?_;rintro⟨i,d1,t1⟩ ⟨X,hd1,ht1,hpu⟩;dsimp only at X hd1 ht1 hpu⊢;refine Ei ?_;refine mC (λh116=>?_) (λh116=>?_)
 ·have h116:i<r.f.data.size:=h116;refine KC ?_;refine JL pS<|JL (Fa (f:=0) (xs:=t1) I AH I C0)<|A5 ?_;refine mc (λh131=>?_) (λh131=>?_)
  ·skip;have h131:¬t1.getD (r.f.offset+i) false=true:=(by intro h7;have h8:(!t1.getD (r.f.offset+i) false)=true:=h131;rw[h7]at h8;cases h8)
   refine J1 ?_;refine EI (Ag sb m.x*(AC m.ia.b m.ia.o m.ins m.ia.s*(AA (m.zj j).q 0 [.slice U.p (aa D0) U.c,.slice b1.p (aa T0) b1.c,uN (max (m.zj j).x.high (r.f.offset+r.f.data.size)),uN (if r.f.fin then(r.f.offset+r.f.data.size)else(m.zj j).x.end_),.bool ((m.zj j).x.ended||r.f.fin),.bool (m.zj j).x.given,uN (m.zj j).x.code,uN (m.zj j).x.read,iN (m.zj j).x.state]*(AC b1.b b1.o t1 b1.s*(CI BP m.ins j*(AA b3 0 (AN r)*(Ee m sb*R))))))) 10 11 EO I C1 ?_;refine Be ?_;refine JT 8 I (bf I I h116)<|JT 9 I (CJ (i:=r.f.offset+i) I I (show Sl U.p U.b U.o (aa D0) U.c from ha1.1) C0)<|GO 10 C1 I (Eu (v:=u8 (r.f.data.data.toList.getD i 0)) I I I C0)<|FZ ?_;refine Be ?_;refine JL pS ?_;exact Bl (Eu (v:=.bool true) I I I C0)<|JR fP
  have h131:t1.getD (r.f.offset+i) false=true:=(by have h8:(!t1.getD (r.f.offset+i) false)=false:=h131;simpa using h8)
  exact fP
 obtain rfl:i=r.f.data.size:=by have h7:¬i<r.f.data.size:=h116;omega
 refine CK ?_;rw[show r.f.data.data.toList.drop r.f.data.size=[]from A' Dz]at hpu;have hpu2:(m.zj j).x.put r.f=(d1,t1):=by
  unfold Dv.put;have e7:(m.zj j).x.there.length=(m.zj j).x.data.length:=by rw[htl,hdl]
  rw[hD0,hT0,←hpu];rfl
 have ebt:(m.zj j).x.bytes r.f=(0,(m.zj j).x.Sd r.f):=by unfold Dv.bytes;rw[AF h59,AF (by rw[h63];simp)]
 obtain⟨x2,S⟩:∃x2:E0,x2={(m.zj j)with x:=(m.zj j).x.Sd r.f,a:=U,b:=b1}:=DF;have G:x2.ok:=by
  rw[S];refine⟨?_,?_⟩
  ·show U.ok ((m.zj j).x.put r.f).1;rw[hpu2];unfold Am.ok at ha1⊢;rw[V]at ha1;rw[hd1];exact ha1
  show b1.ok ((m.zj j).x.put r.f).2;rw[hpu2];unfold Am.ok at hb1⊢;rw[Y]at hb1;rw[ht1];exact hb1
 exact mR [4] (Ad sb (m.Dd j x2)*R) (hE:=⟨λww hw=>Sat.right (A:=AA b3 0 (AN r)) (Eq.mp (by
  congr 1;rw[Zi sb m R j hjl x2 (by rw[S]),S];unfold I7 Dv.Sd;dsimp only;rw[hpu2,V,Y];dsimp only;rw[hd1,ht1];unfold Am.h;ac_rfl) hw)⟩) I I ⟨m.Dd j x2,hm.Dd G,by rw[ebt,Ah.YB,S],by rw[ebt];rfl,I⟩
end
section
variable{B:World}
def Ah.G3(m:Ah)(outs:List Ds):Ah:={m with outs:=outs}
theorem Af6{p:EL}{l}(h:p∈l):AZ B (AP DB l) p.a.b p.a.o p.fs:=by
 obtain⟨i,M,rfl⟩:=Ax h;have e:=MO DB l i AD M;rw[ek,c8 M]at e;rw[e];show AZ B (AC l[i].a.b l[i].a.o l[i].fs l[i].a.s*_) _ _ _;exact AH
def OJ(l:List AS)(k n)(Z:k<aa l):BJ (l.take (k+1)) n=(BJ (l.take k) n||(decide ((rg l k).lo≤n)&&decide (n≤(rg l k).hi))):=by
 rw[Kk Z,BJ,List.any_append,←I3 Z];simp[BJ]
def d6{l:List EL}{i}(h:i<aa l):(l.map EL.s).take (i+1)=(l.map EL.s).take i++[(l.getD i AD).s]:=by
 exact pJ
def cH{l:List RF}{i}(h:i<aa l):(l.map RF.f).take (i+1)=(l.map RF.f).take i++[(l.getD i AD).f]:=by
 exact pJ
structure mB(m:Ah)(l:List AS)(i:Nat)(outs:List Ds):Prop where
 ok:(m.G3 outs).ok
 e:outs.map (·.o)=((m.AM.map EL.s).take i).foldl (H8 l) (m.outs.map (·.o))
structure gl(m:Ah)(outs0:List Ds)(fs:List RF)(k:Nat)(outs:List Ds):Prop where
 ok:(m.G3 outs).ok
 e:outs.map (·.o)=((fs.map RF.f).take k).foldl JI (outs0.map (·.o))
def VF{outs:List Ds}{j}(W:j<aa outs):(outs.map (·.o)).getD j CX=(outs.getD j AD).o:=by
 simp only[ek,x0,c8 W];rfl
set_option maxHeartbeats 8000000 in
def Af3(sb t:Nat)(m:Ah)(l:List AS)(p:Option Addr)(b o c:Nat)(R:HP)(hm:m.ok)(hi:Ar t m.s)(ht:t<1000000)(C:Sl p b o (aa l) c)(hr:AZ B R b o l)(hll:aa l<1000000000000):
  Fn prog B 126 [ptr sb 0,.slice p (aa l) c] (Ad sb m*R)
   (λ_ H'=>∃N:Ah,N.ok∧N.s=m.s.EY l∧H'=Ad sb N*R):=by
 refine mI func126 ?_;refine DE ?_;have hsl:aa m.AM≤20000000:=(by have h7:=hi.sl;have G:=hi.nx;have h9:aa m.s.AM=aa m.AM:=eh ..;omega)
 refine Bf (α:=Nat×List Ds) (λz=>[(0,ptr sb 0),(1,.slice p (aa l) c),(4,iN z.1)]) (λz=>Ad sb (m.G3 z.2)*R) (λz=>z.1≤aa m.AM∧mB m l z.1 z.2) (λz=>aa m.AM-z.1) (0,m.outs) ⟨bk _,⟨hm,I⟩⟩ ED I ?_;rintro⟨i,outs⟩ ⟨X,hA⟩;dsimp only at X hA⊢;refine A3 (H':=Ag sb m.x*(AK m.x.gq m.ga m.AR*(AK m.x.eq m.ea m.Az*(m.da.h (m.due.map BG.mk)*(m.oa.h outs*(AP Bc outs*(m.ia.h m.ins*(AP BP m.ins*(AC m.sa.b m.sa.o m.AM m.sa.s*(AP DB m.AM*R)))))))))) (by rw[EK];rfl)<|J7 ?_;refine JL QU<|J4 ?_;refine mC (λh15=>?_) (λh15=>?_)
 ·have h15:i<aa m.AM:=h15;have O:=Gk (d:=AB.AD) h15;have hsn:=Af6 (B:=B) O;have hsok:=hm.AM _ O;have hsO:=hi.AM (m.AM.getD i AB.AD).s (g9.2 ⟨_,O,I⟩);have F:(m.AM.getD i AB.AD).fs.length≤300:=(by have h7:=hsO.len;have G:(m.AM.getD i AB.AD).s.A7.length=(m.AM.getD i AB.AD).fs.length:=eh ..;omega)
  refine E6 ?_;refine Bf (α:=Nat) (λk=>[(5,.bool (BJ (l.take k) (m.AM.getD i AB.AD).number)),(6,iN k),(0,ptr sb 0),(1,.slice p (aa l) c),(4,iN i)]) (λ_=>Ag sb m.x*(AK m.x.gq m.ga m.AR*(AK m.x.eq m.ea m.Az*(m.da.h (m.due.map BG.mk)*(m.oa.h outs*(AP Bc outs*(m.ia.h m.ins*(AP BP m.ins*(AC m.sa.b m.sa.o m.AM m.sa.s*(AP DB m.AM*R)))))))))) (λk=>k≤aa l) (λk=>aa l-k) 0 Du Fr I ?_;rintro k a;dsimp only at a⊢;refine J9 ?_;refine mC (λr=>?_) (λr=>?_)
  ·have r:k<aa l:=r;refine J4 ?_;refine Bq (α:=Unit) (λ_=>[(5,.bool (BJ (l.take (k+1)) (m.AM.getD i AB.AD).number)),(6,iN k),(0,ptr sb 0),(1,.slice p (aa l) c),(4,iN i)]) (λ_=>Ag sb m.x*(AK m.x.gq m.ga m.AR*(AK m.x.eq m.ea m.Az*(m.da.h (m.due.map BG.mk)*(m.oa.h outs*(AP Bc outs*(m.ia.h m.ins*(AP BP m.ins*(AC m.sa.b m.sa.o m.AM m.sa.s*(AP DB m.AM*R)))))))))) (λ_=>True) ?_ ?_
   ·refine mA 34 34 ?_;refine BE ?_;refine Ha 25 I (λK=>?_) (λK=>?_)
    ·have S:=K;refine HL ?_;refine A5 ?_;exact An () trivial (.cons (congrArg (λM=>some (a9 M)) (by rw[OJ l k _ r,S,Al0])) DJ) I
    have S:=K;refine BE ?_;refine JY 4 I K (CJ I I C r)<|A4 ?_;refine JY 6 I K (JC (i:=k) (xs:=l) I AH r)<|A5 ?_;refine JY 10 I K QU<|A4 ?_;refine JY 12 I K Si<|A4 ?_;refine JY 14 I K sM<|BE ?_;refine D4 40 I (λhg2=>?_) (λhg2=>?_)
    ·have h40:=hg2;refine A5 ?_;refine JY 20 I T2 QU<|A4 ?_;refine JY 22 I T2 Si<|A4 ?_;refine JY 24 I T2 sM<|BE ?_;refine JY 27 I T2 (CJ I I C r)<|A4 ?_;refine JY 29 I T2 (Ig (i:=k) (xs:=l) I AH r)<|BB ?_;exact An () trivial (.cons (congrArg (λM=>some (a9 M)) (by rw[OJ l k _ r,S,decide_eq_true h40,Q2,Am4])) DJ) I
    have h40:=hg2;refine HE ?_;exact An () trivial (.cons (congrArg (λM=>some (a9 M)) (by rw[OJ l k _ r,S,decide_eq_false h40,Q2,Akz])) DJ) I
   rintro _ _;refine Bt ?_;exact BV (k+1) (by show k+1≤aa l;omega) (by show (aa l)-(k+1)<aa l-k;omega) Fr I
  obtain rfl:k=aa l:=by have h7:¬k<aa l:=r;omega
  rw[pq];refine UL ?_;refine mc (λh57=>?_) (λh57=>?_)
  ·skip;have h57:BJ l (m.AM.getD i AB.AD).number=false:=by simpa using h57
   refine BQ ?_;exact wY
  have h57:BJ l (m.AM.getD i AB.AD).number=true:=by simpa using h57
  refine Be ?_;refine Bf (α:=Nat×List Ds) (λz=>[(7,iN z.1),(0,ptr sb 0),(1,.slice p (aa l) c),(4,iN i)]) (λz=>Ag sb m.x*(AK m.x.gq m.ga m.AR*(AK m.x.eq m.ea m.Az*(m.da.h (m.due.map BG.mk)*(m.oa.h z.2*(AP Bc z.2*(m.ia.h m.ins*(AP BP m.ins*(AC m.sa.b m.sa.o m.AM m.sa.s*(AP DB m.AM*R)))))))))) (λz=>z.1≤(m.AM.getD i AB.AD).fs.length∧gl m outs (m.AM.getD i AB.AD).fs z.1 z.2) (λz=>(m.AM.getD i AB.AD).fs.length-z.1) (0,outs) ⟨bk _,⟨hA.ok,I⟩⟩ Bu I ?_;rintro⟨k,outs3⟩ ⟨a,hF⟩;dsimp only at a hF⊢;refine J7 ?_;refine JL QU<|J1 ?_;refine JL Si<|J1 ?_;refine JL lZ<|J4 ?_;refine mC (λh69=>?_) (λh69=>?_)
  ·have h69:k<(m.AM.getD i AB.AD).fs.length:=h69;refine J9 ?_;refine JL QU<|J1 ?_;refine JL Si<|J1 ?_;refine JL lZ<|J1 ?_;refine JL (HQ I I hsok.1 h69 I)<|JL (Dx (v':=.agg (AN ((m.AM.getD i AB.AD).fs.getD k AB.AD)).toArray) (I2 (xs:=(m.AM.getD i AB.AD).fs) I AH h69) I)<|Ae Qz I ?_;rintro _ _ ⟨b8,rfl,rfl⟩;refine Bl (Ek I I Ca (AB.one ((m.AM.getD i AB.AD).fs.getD k AB.AD)))<|Hb ?_;refine Bq (α:=Unit) (λ_=>[(91,.bool (decide (((m.AM.getD i AB.AD).fs.getD k AB.AD).f.kind=5∧0<((m.AM.getD i AB.AD).fs.getD k AB.AD).f.data.size))),(8,ptr b8 0),(7,iN k),(0,ptr sb 0),(1,.slice p (aa l) c),(4,iN i)]) (λ_=>HP.AA b8 0 (AN ((m.AM.getD i AB.AD).fs.getD k AB.AD))*(Ag sb m.x*(AK m.x.gq m.ga m.AR*(AK m.x.eq m.ea m.Az*(m.da.h (m.due.map BG.mk)*(m.oa.h outs3*(AP Bc outs3*(m.ia.h m.ins*(AP BP m.ins*(AC m.sa.b m.sa.o m.AM m.sa.s*(AP DB m.AM*R))))))))))) (λ_=>True) ?_ ?_
   ·refine J3 ?_;refine JL (Eo (i:=((m.AM.getD i AB.AD).fs.getD k AB.AD).f.kind) (j:=5) I I)<|J1 ?_;refine DU 86 I (λhg3=>?_) (λhg3=>?_)
    ·have h86:=hg3;refine Bt ?_;refine JL (Ih (i:=((m.AM.getD i AB.AD).fs.getD k AB.AD).f.data.size) (j:=0) I I)<|BE ?_;exact An () trivial (.cons (congrArg (λM=>some (a9 M)) (decide_eq_decide.2 ⟨λh=>⟨h86,h⟩,λh=>h.2⟩)) Fr) I
    have h86:=hg3;refine DE ?_;exact An () trivial (.cons (congrArg (λM=>some (a9 M)) (decide_eq_false (λh=>h86 h.1)).symm) Fr) I
   rintro _ _;refine J1 ?_;refine mC (λh91=>?_) (λh91=>?_)
   ·skip;obtain⟨eOs,eSame⟩:HT m.s.AI (outs3.map (·.o))∧∀k,Jb (m.s.outs.getD k CX) ((outs3.map (·.o)).getD k CX):=by
     obtain⟨U,L⟩:=TK (l:=l) ((m.AM.map EL.s).take i) m.s.outs hi.outs (λp J f V=>(hi.AM p (Gp J)).fr f V);rw[show((m.AM.map EL.s).take i).foldl (H8 l) m.s.outs=outs.map (·.o)from hA.e.symm]at U L;obtain⟨b1,Y⟩:=V7 (((m.AM.getD i AB.AD).fs.map RF.f).take k) (outs.map (·.o)) U (λf V=>(hsO.fr f (Gp V)).same L);rw[←hF.e]at b1 Y;exact⟨b1,λk=>(L k).trans (Y k)⟩
    have Q:Gs (outs3.map (·.o)) ((m.AM.getD i AB.AD).fs.getD k AB.AD).f:=(hsO.fr ((m.AM.getD i AB.AD).fs.getD k AB.AD).f (g9.2 ⟨_,Gk h69,I⟩)).same eSame;obtain⟨j,hst⟩:∃j:Nat,((m.AM.getD i AB.AD).fs.getD k AB.AD).f.stream=(j:Int):=⟨_,(x3 Q.1).symm⟩
    have W:j<4:=(by have:=Q.2.1;omega)
    have hjl:j<aa outs3:=(by have h7:=eOs.len;rw[eh]at h7;omega)
    have w:=eOs.ok j W;rw[VF hjl]at w;have hfe:=Q.2.2 h91.1;rw[hst,dz,VF hjl]at hfe;have hom:=hF.ok.outs _ HU;have hbl:=w.len;have hclen:=w.VT;have hoa3:m.oa.ok outs3:=hF.ok.oa;have hov3:m.x.ov=m.oa.v (aa outs3):=hF.ok.ov;obtain⟨e1,e2,e3⟩:=RG (lo:=((m.AM.getD i AB.AD).fs.getD k AB.AD).f.offset) (hi:=((m.AM.getD i AB.AD).fs.getD k AB.AD).f.offset+((m.AM.getD i AB.AD).fs.getD k AB.AD).f.data.size-1) w.co w.cf C0 C0 (by rw[w.cm];show _<1073741824;omega);refine A3 (H':=AK (outs3.getD j AB.AD).cq (outs3.getD j AB.AD).ca (outs3.getD j AB.AD).o.AG*(HP.AA (outs3.getD j AB.AD).q 0 (Gq (outs3.getD j AB.AD))*(Ag sb m.x*(AC m.oa.b m.oa.o outs3 m.oa.s*(HP.AA b8 0 (AN ((m.AM.getD i AB.AD).fs.getD k AB.AD))*(CI Bc outs3 j*(GB (m.G3 outs3) sb*R))))))) (by
     have h7:=K4 sb (m.G3 outs3) R j hjl;rw[EK]at h7;refine Sp (congrArg (λhh=>HP.AA b8 0 (AN ((m.AM.getD i AB.AD).fs.getD k AB.AD))*hh) (show Ag sb m.x*(AK m.x.gq m.ga m.AR*(AK m.x.eq m.ea m.Az*(m.da.h (m.due.map BG.mk)*(m.oa.h outs3*(AP Bc outs3*(m.ia.h m.ins*(AP BP m.ins*(AC m.sa.b m.sa.o m.AM m.sa.s*(AP DB m.AM*R)))))))))=_ from h7)) ?_;show HP.AA b8 0 (AN ((m.AM.getD i AB.AD).fs.getD k AB.AD))*(Ag sb m.x*(AC m.oa.b m.oa.o outs3 m.oa.s*(HP.AA (outs3.getD j AB.AD).q 0 (Gq (outs3.getD j AB.AD))*(AK (outs3.getD j AB.AD).cq (outs3.getD j AB.AD).ca (outs3.getD j AB.AD).o.AG*(CI Bc outs3 j*(GB (m.G3 outs3) sb*R))))))=_;ac_rfl) ?_
    refine EI (HP.AA (outs3.getD j AB.AD).q 0 (Gq (outs3.getD j AB.AD))*(Ag sb m.x*(AC m.oa.b m.oa.o outs3 m.oa.s*(HP.AA b8 0 (AN ((m.AM.getD i AB.AD).fs.getD k AB.AD))*(CI Bc outs3 j*(GB (m.G3 outs3) sb*R)))))) 22 22 EO I C1<|A5 ?_;refine JT 3 I (Dx Gr hov3)<|BE ?_;refine JT 6 I (CJ (i:=j) I (congrArg (λz=>some (Value.int .i64 z)) hst) hoa3.1 hjl)<|JT 7 I (Fa (f:=0) (xs:=outs3) I AH I hjl)<|FC ?_;refine Au 21 C1 I I (Bd I (VC (outs3.getD j AB.AD).cq ((m.AM.getD i AB.AD).fs.getD k AB.AD).f.offset (((m.AM.getD i AB.AD).fs.getD k AB.AD).f.offset+((m.AM.getD i AB.AD).fs.getD k AB.AD).f.data.size-1) (outs3.getD j AB.AD).o.data.length (outs3.getD j AB.AD).ca (outs3.getD j AB.AD).o.AG _ hom w.co C0 C0 (by rw[w.cm];exact er _))) ?_;rintro _ _ ⟨a113,hs113,rfl⟩;obtain⟨o2,ho2⟩:∃o2:Ds,o2={(outs3.getD j AB.AD)with o:={(outs3.getD j AB.AD).o with AG:=(outs3.getD j AB.AD).o.AG.add ((m.AM.getD i AB.AD).fs.getD k AB.AD).f.offset (((m.AM.getD i AB.AD).fs.getD k AB.AD).f.offset+((m.AM.getD i AB.AD).fs.getD k AB.AD).f.data.size-1)},ca:=a113}:=DF;have hok2:(m.G3 (outs3.set j o2)).ok:=Ah.ok.Da (m:=m.G3 outs3) hF.ok (k:=j) (o:=o2) (by rw[ho2];exact hs113);refine BT ?_;exact j3
   exact j3
  obtain rfl:k=(m.AM.getD i AB.AD).fs.length:=by have h7:¬k<(m.AM.getD i AB.AD).fs.length:=h69;omega
  obtain⟨outs4,ho4⟩:∃o,o=outs3:=DF;have hF4:mB m l (i+1) outs4:=by
   rw[ho4];refine⟨hF.ok,?_⟩;rw[hF.e,d6 h15,tg,←hA.e,Ajb iS];show _=H8 l _ _;unfold H8;rw[AJ (by show BJ l (m.AM.getD i AB.AD).number=true;exact h57)];rfl
  rw[←ho4];refine O6 ?_;exact wY
 obtain rfl:i=aa m.AM:=by have h7:¬i<aa m.AM:=h15;omega
 refine J4 ?_;exact Nd (ts:=[]) (Ad sb (m.G3 outs)*R) (hE:=by rw[EK];exact ML) I I ⟨m.G3 outs,hA.ok,by
  have h7:=hA.e;rw[Ajb iS]at h7;unfold AL.EY Ah.G3 Ah.s;dsimp only;rw[h7],I⟩
end
section
variable{B:World}
set_option maxHeartbeats 4000000 in
def W! (sb t:Nat)(m:Ah)(r:RF)(R:HP)(hm:m.ok)(hi:Ar t m.s)(ht:t<1000000)(hf:GI r.f)(hb:¬m.s.busy r.f)(J:r.ok)(hr:AZ B R r.b r.o r.f.ranges)(w:aa r.f.ranges<1000000000000):
  Fn prog B 85 [ptr sb 0,.agg (AN r).toArray] (Ad sb m*R)
   (λv H'=>∃N:Ah,N.ok∧N.s=(m.s.take r.f).2∧v=iN (m.s.take r.f).1∧H'=Ad sb N*R):=by
 refine mI func85 ?_;refine I8 ?_;rintro _ _ ⟨b3,rfl,rfl⟩;refine FC ?_;refine JL Rn<|J3 ?_;refine mC (λO=>?_) (λO=>?_)
 ·have hokr:=hf.2.2.2.2.2 O;have hrp:=kz.2 hokr.1;refine A3 (H':=Ag sb m.x*(HP.AA b3 0 (AN r)*(AC m.oa.b m.oa.o m.outs m.oa.s*(AP Bc m.outs*(GB m sb*R))))) (by rw[Ie];ac_rfl)<|J2 ?_;refine mA 10 10 ?_;refine BE ?_;refine JT 2 I (CJ (i:=0) I I J hrp)<|A4 ?_;refine JT 4 I (Ig (i:=0) (xs:=r.f.ranges) I AH hrp)<|Bt ?_;refine mC (λh19=>?_) (λh19=>?_)
  ·refine BQ ?_;have etk:m.s.take r.f=(8,m.s):=by unfold AL.take;rw[AJ O,AJ (show m.s.next≤(rg r.f.ranges 0).hi from h19)]
   exact mR [4] (Ad sb m*R) (hE:=by rw[Ie];exact AH) I I ⟨m,hm,by rw[etk],Pn,I⟩
  refine J2 ?_;refine A3 (H':=Ad sb m*(HP.AA b3 0 (AN r)*R)) (by rw[Ie];ac_rfl)<|J4 ?_;refine mE I (Af3 sb t m r.f.ranges r.p r.b r.o r.c _ hm hi ht J AH w) ?_;rintro _ _ ⟨m2,hm2,hs2,rfl⟩;refine BQ ?_;have etk:m.s.take r.f=(0,m.s.EY r.f.ranges):=by unfold AL.take;rw[AJ O,AF (show ¬m.s.next≤(rg r.f.ranges 0).hi from h19)]
  exact sP
 refine S0 ?_;refine mC (λF=>?_) (λF=>?_)
 ·skip;obtain⟨j,hst⟩:∃j:Nat,r.f.stream=(j:Int):=⟨_,(x3 hf.1).symm⟩
  have W:j<4:=(by have:=hf.2.1;omega)
  have hjl:j<aa m.ins:=by rw[Ah.RR hi];exact W
  have hxm:=hm.ins _ HU;have exj:=m.QC j hjl;have Y:r.f.stream.toNat=j:=by rw[hst,dz]
  refine A3 (H':=Ag sb m.x*(AC m.ia.b m.ia.o m.ins m.ia.s*(HP.AA (m.zj j).q 0 (I7 (m.zj j))*(AC (m.zj j).a.b (m.zj j).a.o (m.zj j).x.data (m.zj j).a.s*(AC (m.zj j).b.b (m.zj j).b.o (m.zj j).x.there (m.zj j).b.s*(CI BP m.ins j*(HP.AA b3 0 (AN r)*(Ee m sb*R)))))))) eP<|J1 ?_;refine rL ?_;refine BB ?_;refine Bq (α:=Unit) (λ_=>[(55,.bool (decide ((((m.zj j).x.ended=true∧(m.zj j).x.end_≠r.f.offset)∨r.f.offset<(m.zj j).x.high)))),(5,ptr (m.zj j).q 0),(3,ptr b3 0),(0,ptr sb 0)]) (λ_=>Ag sb m.x*(AC m.ia.b m.ia.o m.ins m.ia.s*(HP.AA (m.zj j).q 0 (I7 (m.zj j))*(AC (m.zj j).a.b (m.zj j).a.o (m.zj j).x.data (m.zj j).a.s*(AC (m.zj j).b.b (m.zj j).b.o (m.zj j).x.there (m.zj j).b.s*(CI BP m.ins j*(HP.AA b3 0 (AN r)*(Ee m sb*R)))))))) (λ_=>True) ?_ ?_
  ·refine mA 22 22 ?_;refine BB ?_;refine Ha 38 I (λK=>?_) (λK=>?_)
   ·have hed:=K;refine BQ ?_;refine D4 47 I (λe=>?_) (λe=>?_)
    ·have V:=e;refine BQ ?_;exact An () trivial (.cons (congrArg (λM=>some (a9 M)) ((decide_eq_true (.inl ⟨hed,V⟩)).symm)) ED) I
    have V:=e;refine BQ ?_;exact An () trivial (.cons (congrArg (λM=>some (a9 M)) (decide_eq_decide.2 ⟨λh=>.inr h,λh=>by rcases h with h|h;exact absurd h.2 V;exact h⟩)) ED) I
   have hed:=K;refine HE ?_;exact An () trivial (.cons (congrArg (λM=>some (a9 M)) (decide_eq_decide.2 ⟨λh=>.inr h,λh=>by rcases h with h|h;rw[hed]at h;cases h.1;exact h⟩)) ED) I
  rintro _ _;refine J1 ?_;refine mC (λL=>?_) (λL=>?_)
  ·refine BQ ?_;have etk:m.s.take r.f=(7,m.s):=by unfold AL.take;rw[AF O,AJ F,Y,exj,AJ L]
   exact mR [4] (Ad sb m*R) (hE:=mU) I I ⟨m,hm,by rw[etk],Pn,I⟩
  refine HL ?_;refine Bq (α:=Unit) (λ_=>[(5,ptr (m.zj j).q 0),(3,ptr b3 0),(0,ptr sb 0)]) (λ_=>Ag sb m.x*(AC m.ia.b m.ia.o m.ins m.ia.s*(HP.AA (m.zj j).q 0 [.slice (m.zj j).a.p (m.zj j).x.data.length (m.zj j).a.c,.slice (m.zj j).b.p (m.zj j).x.there.length (m.zj j).b.c,uN (m.zj j).x.high,uN r.f.offset,.bool true,.bool (m.zj j).x.given,uN (if(m.zj j).x.given then(m.zj j).x.code else r.f.code),uN (m.zj j).x.read,iN (m.zj j).x.state]*(AC (m.zj j).a.b (m.zj j).a.o (m.zj j).x.data (m.zj j).a.s*(AC (m.zj j).b.b (m.zj j).b.o (m.zj j).x.there (m.zj j).b.s*(CI BP m.ins j*(HP.AA b3 0 (AN r)*(Ee m sb*R)))))))) (λ_=>True) ?_ ?_
  ·refine mc (λC=>?_) (λC=>?_)
   ·refine J8 ?_;exact An () trivial ED (by rw[AF (by have h7:(!(m.zj j).x.given)=true:=C;intro h8;rw[h8]at h7;cases h7)])
   refine J1 ?_;exact An () trivial ED (by rw[AJ (by have h7:(!(m.zj j).x.given)=false:=C;simpa using h7)])
  rintro _ _;refine Eh ?_;have etk:m.s.take r.f=(0,m.s.Dd j {(m.zj j).x with code:=if(m.zj j).x.given then(m.zj j).x.code else r.f.code,given:=true,ended:=true,end_:=r.f.offset}):=by unfold AL.take;rw[AF O,AJ F,Y,exj,AF L]
  obtain⟨Q,S⟩:∃Q:E0,Q={(m.zj j)with x:={(m.zj j).x with code:=if(m.zj j).x.given then(m.zj j).x.code else r.f.code,given:=true,ended:=true,end_:=r.f.offset}}:=DF;have G:Q.ok:=by rw[S];exact hxm
  exact mR [4] (Ad sb (m.Dd j Q)*R) (hE:=⟨λww hw=>Sat.right (A:=HP.AA b3 0 (AN r)) (Eq.mp (by
   congr 1;rw[Zi sb m R j hjl Q (by rw[S]),S];unfold Am.h;show _=HP.AA b3 0 (AN r)*(Ag sb m.x*(AC m.ia.b m.ia.o m.ins m.ia.s*(HP.AA (m.zj j).q 0 [.slice (m.zj j).a.p (m.zj j).x.data.length (m.zj j).a.c,.slice (m.zj j).b.p (m.zj j).x.there.length (m.zj j).b.c,uN (m.zj j).x.high,uN r.f.offset,.bool true,.bool true,uN (if(m.zj j).x.given then(m.zj j).x.code else r.f.code),uN (m.zj j).x.read,iN (m.zj j).x.state]*(AC (m.zj j).a.b (m.zj j).a.o (m.zj j).x.data (m.zj j).a.s*(AC (m.zj j).b.b (m.zj j).b.o (m.zj j).x.there (m.zj j).b.s*(CI BP m.ins j*(Ee m sb*R)))))));ac_rfl) hw)⟩) I I ⟨m.Dd j Q,hm.Dd G,by rw[etk,Ah.YB,S],Pn,I⟩
 refine Tg ?_;refine mC (λX=>?_) (λX=>?_)
 ·refine J1 ?_;have hb5:(m.s.i r.f.stream.toNat).given=false→r.f.offset+r.f.data.size≤(m.s.i r.f.stream.toNat).read+m.s.AI:=λhg=>by
   have U:r.f.stream.toNat<4:=by have:=hf.1;have:=hf.2.1;omega
   have g:=hi.ins _ U;obtain hlt|hge:=ff ((m.s.i r.f.stream.toNat).read+m.s.AI) (r.f.offset+r.f.data.size)
   ·exact absurd ⟨X,λh2=>xW,hg,hlt⟩ hb
   exact hge
  refine J2 ?_;refine JL OU<|ZZ ?_;refine mE I (va sb t m r _ hm hi ht hf X hb5) ?_;rintro _ _ ⟨m2,hm2,hs2,rfl,rfl⟩;refine J6 ?_;have etk:m.s.take r.f=(((m.s.i r.f.stream.toNat).bytes r.f).1,m.s.Dd r.f.stream.toNat ((m.s.i r.f.stream.toNat).bytes r.f).2):=by unfold AL.take;rw[AF O,AF F,AJ X]
  exact sP
 refine J2 ?_;refine JL (Eo (i:=r.f.kind) (j:=6) I I)<|J3 ?_;refine mC (λk6=>?_) (λk6=>?_)
 ·refine Be ?_;have etk:m.s.take r.f=(10,m.s):=by unfold AL.take;rw[AF O,AF F,AF X,AJ k6]
  exact cO
 refine BQ ?_;have etk:m.s.take r.f=(0,m.s):=by unfold AL.take;rw[AF O,AF F,AF X,AF k6]
 exact cO
set_option maxHeartbeats 4000000 in
def Ae1(sb t:Nat)(m:Ah)(k AQ:Int)(R:HP)(hm:m.ok)(hi:Ar t m.s)(ht:t<1000000):
  Fn prog B 49 [ptr sb 0,.int .i64 k,.int .i64 AQ] (Ad sb m*R)
   (λv H'=>∃N:Ah,N.ok∧N.s=(m.s.read k AQ).2∧v=.tuple #[.string (BR (m.s.read k AQ).1.1),iN (m.s.read k AQ).1.2.1,uN (m.s.read k AQ).1.2.2.1,iN (m.s.read k AQ).1.2.2.2]∧H'=Ad sb N*R):=by
 refine mI func49<|A3 (RO sb m R) ?_;refine DY ?_;refine RB ?_;refine mC (λF=>?_) (λF=>?_)
 ·refine CK ?_;exact mR [6,7,8,9] (Ad sb m*R) (hE:=by rw[RO];exact AH) I I ⟨m,hm,by unfold AL.read;rw[AJ (show m.s.of k≠0 from F)],by unfold AL.read;rw[AJ (show m.s.of k≠0 from F)];rfl,I⟩
 obtain⟨L,j,rfl,W⟩:=KN (by simpa using F:FI m.x.closed k=0);have hst:(j:Int)=(j:Int):=rfl;have hjl:j<aa m.ins:=by rw[Ah.RR hi];exact W
 have J:=Ah.XY hi W;have hxm:=hm.ins _ HU;have exj:=m.QC j hjl;have w:¬m.s.of (j:Int)≠0:=by rw[Qw];simpa using F
 have hdl:=J.dl;have U:=J.tl;have hrh:=J.rh;have hhw:=J.hw;have hrt:=J.rt;have hst2:=J.st;have hw2:m.x.AI≤1024:=hi.w2;refine A3 (H':=Ag sb m.x*(AC m.ia.b m.ia.o m.ins m.ia.s*(HP.AA (m.zj j).q 0 (I7 (m.zj j))*(AC (m.zj j).a.b (m.zj j).a.o (m.zj j).x.data (m.zj j).a.s*(AC (m.zj j).b.b (m.zj j).b.o (m.zj j).x.there (m.zj j).b.s*(CI BP m.ins j*(Ee m sb*R))))))) (by rw[←RO,PV sb m R j hjl])<|J7 ?_;refine JL Zh<|J1 ?_;refine JL Yz<|JL Xr<|J5 ?_;refine Bq (α:=Unit) (λ_=>[(37,.bool (decide ((m.zj j).x.given=true∧(m.zj j).x.state=0))),(11,ptr (m.zj j).q 0),(2,.int .i64 AQ),(0,ptr sb 0)]) (λ_=>Ag sb m.x*(AC m.ia.b m.ia.o m.ins m.ia.s*(HP.AA (m.zj j).q 0 (I7 (m.zj j))*(AC (m.zj j).a.b (m.zj j).a.o (m.zj j).x.data (m.zj j).a.s*(AC (m.zj j).b.b (m.zj j).b.o (m.zj j).x.there (m.zj j).b.s*(CI BP m.ins j*(Ee m sb*R))))))) (λ_=>True) ?_ ?_
 ·refine J6 ?_;refine Do 31 I (λK=>?_) (λK=>?_)
  ·have h31:=K;refine BQ ?_;refine JL (Dy (i:=(m.zj j).x.state) (j:=0) I I)<|BE ?_;exact An () trivial sL I
  have h31:=K;refine Bt ?_;exact An () trivial (.cons (congrArg (λbb=>some (a9 bb)) (decide_eq_false (λh=>by rw[h31]at h;cases h.1)).symm) ED) I
 rintro _ _;refine J1 ?_;refine Bq (α:=Unit) (λ_=>[(11,ptr (m.zj j).q 0),(2,.int .i64 AQ),(0,ptr sb 0)]) (λ_=>Ag sb m.x*(AC m.ia.b m.ia.o m.ins m.ia.s*(HP.AA (m.zj j).q 0 [.slice (m.zj j).a.p (m.zj j).x.data.length (m.zj j).a.c,.slice (m.zj j).b.p (m.zj j).x.there.length (m.zj j).b.c,uN (m.zj j).x.high,uN (m.zj j).x.end_,.bool (m.zj j).x.ended,.bool (m.zj j).x.given,uN (m.zj j).x.code,uN (m.zj j).x.read,iN (if(m.zj j).x.given=true∧(m.zj j).x.state=0 then 2 else(m.zj j).x.state)]*(AC (m.zj j).a.b (m.zj j).a.o (m.zj j).x.data (m.zj j).a.s*(AC (m.zj j).b.b (m.zj j).b.o (m.zj j).x.there (m.zj j).b.s*(CI BP m.ins j*(Ee m sb*R))))))) (λ_=>True) ?_ ?_
 ·refine mC (λh37=>?_) (λh37=>?_)
  ·refine J4 ?_;refine Bl kN<|GZ ?_;exact An () trivial ED (by rw[AJ h37])
  refine J1 ?_;exact An () trivial ED (by rw[AF h37])
 rintro _ _;have hs1:(if(m.zj j).x.given=true∧(m.zj j).x.state=0 then 2 else(m.zj j).x.state)≤2:=by split;exact er _;exact hst2
 obtain⟨A,es1⟩:∃A,A=(if(m.zj j).x.given=true∧(m.zj j).x.state=0 then 2 else(m.zj j).x.state):=DF;rw[←es1]at hs1⊢;refine J8 ?_;refine Bf (α:=Nat) (λi=>[(12,.string (BR (((m.zj j).x.data.drop (m.zj j).x.read).take i))),(11,ptr (m.zj j).q 0),(2,.int .i64 AQ),(0,ptr sb 0)]) (λi=>Ag sb m.x*(AC m.ia.b m.ia.o m.ins m.ia.s*(HP.AA (m.zj j).q 0 [.slice (m.zj j).a.p (m.zj j).x.data.length (m.zj j).a.c,.slice (m.zj j).b.p (m.zj j).x.there.length (m.zj j).b.c,uN (m.zj j).x.high,uN (m.zj j).x.end_,.bool (m.zj j).x.ended,.bool (m.zj j).x.given,uN (m.zj j).x.code,uN ((m.zj j).x.read+i),iN A]*(AC (m.zj j).a.b (m.zj j).a.o (m.zj j).x.data (m.zj j).a.s*(AC (m.zj j).b.b (m.zj j).b.o (m.zj j).x.there (m.zj j).b.s*(CI BP m.ins j*(Ee m sb*R))))))) (λi=>(m.zj j).x.read+i≤(m.zj j).x.high∧(if A=0 then runN (m.zj j).x.there (m.zj j).x.high AQ.toNat (m.zj j).x.read else 0)=i+(if A=0 then runN (m.zj j).x.there (m.zj j).x.high (AQ.toNat-i) ((m.zj j).x.read+i)else 0)∧(i:Int)≤max AQ 0) (λi=>(m.zj j).x.high-((m.zj j).x.read+i)) 0 ⟨by show(m.zj j).x.read+0≤(m.zj j).x.high;omega,C3,by show(0:Int)≤max AQ 0;omega⟩ (.cons (by rw[tS];rfl) ED) (by rw[kv]) ?_;rintro i ⟨X,hi2,hi3⟩;dsimp only at X hi2 hi3⊢;have hln:aa (((m.zj j).x.data.drop (m.zj j).x.read).take i)=i:=by rw[hZ,di];omega
 refine J2 ?_;refine Bq (α:=Unit) (λ_=>[(74,.bool (decide ((i:Int)<AQ∧A=0∧(m.zj j).x.read+i<(m.zj j).x.high∧(m.zj j).x.there.getD ((m.zj j).x.read+i) false=true))),(12,.string (BR (((m.zj j).x.data.drop (m.zj j).x.read).take i))),(11,ptr (m.zj j).q 0),(2,.int .i64 AQ),(0,ptr sb 0)]) (λ_=>Ag sb m.x*(AC m.ia.b m.ia.o m.ins m.ia.s*(HP.AA (m.zj j).q 0 [.slice (m.zj j).a.p (m.zj j).x.data.length (m.zj j).a.c,.slice (m.zj j).b.p (m.zj j).x.there.length (m.zj j).b.c,uN (m.zj j).x.high,uN (m.zj j).x.end_,.bool (m.zj j).x.ended,.bool (m.zj j).x.given,uN (m.zj j).x.code,uN ((m.zj j).x.read+i),iN A]*(AC (m.zj j).a.b (m.zj j).a.o (m.zj j).x.data (m.zj j).a.s*(AC (m.zj j).b.b (m.zj j).b.o (m.zj j).x.there (m.zj j).b.s*(CI BP m.ins j*(Ee m sb*R))))))) (λ_=>True) ?_ ?_
 ·refine mA 34 34 ?_;refine A4 ?_;refine JT 1 I (Dx (TA I) (by rw[Mo,hln]))<|A4 ?_;refine JT 3 I (Jr (i:=(i:Int)) (j:=AQ) I I)<|A4 ?_;refine D4 45 I (λhg2=>?_) (λhg2=>?_)
  ·have g1:=hg2;refine Bn ?_;refine JY 9 I T2 (Dy (i:=A) (j:=0) I I)<|BE ?_;refine D4 52 I (λO=>?_) (λO=>?_)
   ·have g2:=O;refine CK ?_;refine D4 63 I (λhg4=>?_) (λhg4=>?_)
    ·have g3:=hg4;refine Be ?_;refine JY 31 I T4 (CJ (i:=(m.zj j).x.read+i) I I (show Sl (m.zj j).b.p (m.zj j).b.b (m.zj j).b.o (m.zj j).x.there.length (m.zj j).b.c from hxm.2.1) C0)<|JY 32 I T4 (Fa (f:=0) (xs:=(m.zj j).x.there) I AH I C0)<|BE ?_;exact An () trivial (.cons (congrArg (λbb=>some (a9 bb)) (by apply L'.2;simp only[decide_eq_true_eq];exact⟨λh=>⟨g1,g2,g3,h⟩,λh=>h.2.2.2⟩)) Bu) I
    have g3:=hg4;refine DY ?_;exact An () trivial (.cons (congrArg (λbb=>some (a9 bb)) ((decide_eq_false (λh=>g3 h.2.2.1)).symm)) Bu) I
   have g2:=O;refine Ff ?_;refine A4 ?_;exact An () trivial zS I
  have g1:=hg2;refine HL ?_;exact An () trivial iK I
 rintro _ _;refine J1 ?_;refine mC (λh74=>?_) (λh74=>?_)
 ·skip;have hrl:(m.zj j).x.read+i+1≤(m.zj j).x.data.length:=(by have V:=h74.2.2.1;omega)
  have hcx:aa (((m.zj j).x.data.take ((m.zj j).x.read+i+1)).drop ((m.zj j).x.read+i))=1:=(by rw[di,hZ];omega)
  refine J4 ?_;refine mA 18 18 ?_;refine FC ?_;refine JT 13 I PE<|JT 14 I (Oe (k':=aa (((m.zj j).x.data.take ((m.zj j).x.read+i+1)).drop ((m.zj j).x.read+i))) I I I j5 (by rw[hcx];omega))<|JT 15 I (KO (xs:=(((m.zj j).x.data.take ((m.zj j).x.read+i+1)).drop ((m.zj j).x.read+i))) (b:=(m.zj j).a.b) (o:=(m.zj j).a.o+((m.zj j).x.read+i)*1) I (F0 (h:=(m.zj j).x.read+i+1) (show Sl (m.zj j).a.p (m.zj j).a.b (m.zj j).a.o (m.zj j).x.data.length (m.zj j).a.c from hxm.1.1) C0 j5 (by rw[hcx];omega)) (AZ.sub (xs:=(m.zj j).x.data) AH ((m.zj j).x.read+i) ((m.zj j).x.read+i+1) hrl))<|JT 16 I (Dx (v':=.string (BR (((m.zj j).x.data.drop (m.zj j).x.read).take i++(((m.zj j).x.data.take ((m.zj j).x.read+i+1)).drop ((m.zj j).x.read+i))))) (wQ I I (by rw[Mo,Mo,hln,hcx];omega)) (by rw[cR]))<|Ja 17 ?_;refine Bt ?_;refine JL PE<|J5 ?_;obtain⟨c1,l,c3,c4⟩:=h74;have hmo:0<AQ.toNat-i:=C0;obtain⟨nn,hnn⟩:∃nn,AQ.toNat-i=nn+1:=⟨AQ.toNat-i-1,C0⟩
  refine BV (i+1) ⟨c3,?_,by show((i+1:Nat):Int)≤max AQ 0;omega⟩ (by show(m.zj j).x.high-((m.zj j).x.read+(i+1))<(m.zj j).x.high-((m.zj j).x.read+i);omega) (.cons (congrArg (λz=>some (Value.string (BR z))) ?_) ED) I
  ·rw[hi2,AJ l,AJ l,hnn,runN,AJ ⟨c3,c4⟩];rw[show AQ.toNat-(i+1)=nn by omega,Am0 (m.zj j).x.read i 1];omega
  have V:i<aa ((m.zj j).x.data.drop (m.zj j).x.read):=by rw[di];omega
  rw[Kk V];rw[show((m.zj j).x.data.take ((m.zj j).x.read+i+1)).drop ((m.zj j).x.read+i)=[((m.zj j).x.data.drop (m.zj j).x.read)[i]] by
   rw[List.getElem_drop,Amt];rw[show(m.zj j).x.read+i+1-((m.zj j).x.read+i)=1 by omega,zv (show(m.zj j).x.read+i<(m.zj j).x.data.length by omega)];rfl]
 have hfin:(if A=0 then runN (m.zj j).x.there (m.zj j).x.high AQ.toNat (m.zj j).x.read else 0)=i:=by
  rw[hi2];by_cases l:A=0
  ·rw[AJ l];cases hmo:AQ.toNat-i with
   |zero=>rfl
   |succ nn=>
    rw[runN,AF (λh=>h74 ⟨C0,l,h.1,h.2⟩),kv]
  rw[AF l,kv]
 refine J7 ?_;refine Bq (α:=Unit) (λ_=>[(120,.bool (decide ((m.zj j).x.ended=true∧(m.zj j).x.read+i=(m.zj j).x.end_∧A=0))),(12,.string (BR (((m.zj j).x.data.drop (m.zj j).x.read).take i))),(11,ptr (m.zj j).q 0),(2,.int .i64 AQ),(0,ptr sb 0)]) (λ_=>Ag sb m.x*(AC m.ia.b m.ia.o m.ins m.ia.s*(HP.AA (m.zj j).q 0 [.slice (m.zj j).a.p (m.zj j).x.data.length (m.zj j).a.c,.slice (m.zj j).b.p (m.zj j).x.there.length (m.zj j).b.c,uN (m.zj j).x.high,uN (m.zj j).x.end_,.bool (m.zj j).x.ended,.bool (m.zj j).x.given,uN (m.zj j).x.code,uN ((m.zj j).x.read+i),iN A]*(AC (m.zj j).a.b (m.zj j).a.o (m.zj j).x.data (m.zj j).a.s*(AC (m.zj j).b.b (m.zj j).b.o (m.zj j).x.there (m.zj j).b.s*(CI BP m.ins j*(Ee m sb*R))))))) (λ_=>True) ?_ ?_
 ·refine mA 22 22 ?_;refine BB ?_;refine Ha 103 I (λr=>?_) (λr=>?_)
  ·have C:=r;refine CK ?_;refine D4 114 I (λhg6=>?_) (λhg6=>?_)
   ·have M:=hg6;refine Bn ?_;refine JY 20 I T6 (Dy (i:=A) (j:=0) I I)<|BE ?_;exact An () trivial (.cons (congrArg (λbb=>some (a9 bb)) (decide_eq_decide.2 ⟨λh=>⟨C,M,h⟩,λh=>h.2.2⟩)) Bu) I
   have M:=hg6;refine Bt ?_;exact An () trivial (.cons (congrArg (λbb=>some (a9 bb)) ((decide_eq_false (λh=>M h.2.1)).symm)) Bu) I
  have C:=r;refine HE ?_;exact An () trivial (.cons (congrArg (λbb=>some (a9 bb)) ((decide_eq_false (λh=>by rw[C]at h;cases h.1)).symm)) Bu) I
 rintro _ _;refine J1 ?_;refine Bq (α:=Unit) (λ_=>[(12,.string (BR (((m.zj j).x.data.drop (m.zj j).x.read).take i))),(11,ptr (m.zj j).q 0),(2,.int .i64 AQ),(0,ptr sb 0)]) (λ_=>Ag sb m.x*(AC m.ia.b m.ia.o m.ins m.ia.s*(HP.AA (m.zj j).q 0 [.slice (m.zj j).a.p (m.zj j).x.data.length (m.zj j).a.c,.slice (m.zj j).b.p (m.zj j).x.there.length (m.zj j).b.c,uN (m.zj j).x.high,uN (m.zj j).x.end_,.bool (m.zj j).x.ended,.bool (m.zj j).x.given,uN (m.zj j).x.code,uN ((m.zj j).x.read+i),iN (if(m.zj j).x.ended=true∧(m.zj j).x.read+i=(m.zj j).x.end_∧A=0 then 1 else A)]*(AC (m.zj j).a.b (m.zj j).a.o (m.zj j).x.data (m.zj j).a.s*(AC (m.zj j).b.b (m.zj j).b.o (m.zj j).x.there (m.zj j).b.s*(CI BP m.ins j*(Ee m sb*R))))))) (λ_=>True) ?_ ?_
 ·refine mC (λY=>?_) (λY=>?_)
  ·refine J4 ?_;refine Bl Wl<|GZ ?_;exact An () trivial Bu (by rw[AJ Y])
  refine J1 ?_;exact An () trivial Bu (by rw[AF Y])
 rintro _ _;obtain⟨s3,e⟩:∃s3,s3=(if(m.zj j).x.ended=true∧(m.zj j).x.read+i=(m.zj j).x.end_∧A=0 then 1 else A):=DF;rw[←e];refine FC ?_;refine JL (Dy (i:=s3) (j:=2) I I)<|J2 ?_;refine Bq (α:=Unit) (λ_=>[(13,uN (if s3=2 then(m.zj j).x.code else 0)),(12,.string (BR (((m.zj j).x.data.drop (m.zj j).x.read).take i))),(11,ptr (m.zj j).q 0),(2,.int .i64 AQ),(0,ptr sb 0)]) (λ_=>Ag sb m.x*(AC m.ia.b m.ia.o m.ins m.ia.s*(HP.AA (m.zj j).q 0 [.slice (m.zj j).a.p (m.zj j).x.data.length (m.zj j).a.c,.slice (m.zj j).b.p (m.zj j).x.there.length (m.zj j).b.c,uN (m.zj j).x.high,uN (m.zj j).x.end_,.bool (m.zj j).x.ended,.bool (m.zj j).x.given,uN (m.zj j).x.code,uN ((m.zj j).x.read+i),iN s3]*(AC (m.zj j).a.b (m.zj j).a.o (m.zj j).x.data (m.zj j).a.s*(AC (m.zj j).b.b (m.zj j).b.o (m.zj j).x.there (m.zj j).b.s*(CI BP m.ins j*(Ee m sb*R))))))) (λ_=>True) ?_ ?_
 ·refine mC (λh128=>?_) (λh128=>?_)
  ·refine J7 ?_;exact An () trivial (.cons (by rw[AJ h128];rfl) Bu) I
  refine J1 ?_;exact An () trivial (.cons (by rw[AF h128];rfl) Bu) I
 rintro _ _;refine J2 ?_;refine mA 10 10 ?_;refine FC ?_;have hrd:m.s.read (j:Int) AQ=((((m.zj j).x.data.drop (m.zj j).x.read).take i,s3,(if s3=2 then(m.zj j).x.code else 0),0),m.s.Dd j {(m.zj j).x with read:=(m.zj j).x.read+i,state:=s3}):=by
  unfold AL.read;rw[AF w,dz,exj];generalize(m.zj j).x=x at*;by_cases c1:x.given=true∧x.state=0
  ·rw[AJ c1]at es1;have l:¬A=0:=C0;rw[AF l]at hfin;subst hfin;simp only[AJ c1];rw[AF (λh=>l h.2.2)]at e;have c3:s3=2:=C0;subst c3;simp
  rw[AF c1]at es1;subst es1;simp only[AF c1];rw[show(if x.state=0 then runN x.there x.high AQ.toNat x.read else 0)=i from hfin];by_cases c4:x.ended=true∧x.read+i=x.end_∧x.state=0
  ·rw[AJ c4]at e;subst e;simp only[AJ c4]
   try simp
  rw[AF c4]at e;subst e;simp only[AF c4]
  try rfl
 obtain⟨Q,S⟩:∃Q:E0,Q={(m.zj j)with x:={(m.zj j).x with read:=(m.zj j).x.read+i,state:=s3}}:=DF;have G:Q.ok:=by rw[S];exact hxm
 exact mR [6,7,8,9] (Ad sb (m.Dd j Q)*R) (hE:=⟨λww hw=>Eq.mp (by
  congr 1;rw[Zi sb m R j hjl Q (by rw[S]),S]) hw⟩) I I ⟨m.Dd j Q,hm.Dd G,by rw[hrd,Ah.YB,S],by rw[hrd];rfl,I⟩
end
section
variable{B:World}
def FY(n size h:Nat):Nat→List UInt8
 |0=>[]
 |k+1=>FY n size h k++[cx (n/256^(size-1-k)%256+(if k=0 then h*64 else 0))]
def B8(n:Nat):Nat:=if n<64 then 1 else if n<16384 then 2 else if n<1073741824 then 4 else 8
def D7(n:Nat):Nat:=if n<64 then 0 else if n<16384 then 1 else if n<1073741824 then 2 else 3
def Us(a):cx (a%256)=cx a:=by
 apply Ajj.1;simp[Ak5]
def pd(n)(h:n≤4611686018427387903):FY n (B8 n) (D7 n) (B8 n)=AU n:=by
 unfold B8 D7 AU;split
 ·simp only[FY,if_true,l0,Al6,Al5,Alm,An3,kv,Us]
 split
 ·simp only[FY,if_true,if_false,l0,Ap,Nat.reduceSub,Al5,Alm,Nat.reduceMul,kv,Us,Nat.reduceEqDiff,Nat.reducePow,Amk];rw[show n/256%256+64=n/256+64 by omega]
 split
 ·simp only[FY,if_true,if_false,l0,Ap,Nat.reduceSub,Al5,Alm,Nat.reduceMul,kv,Us,Nat.reduceEqDiff,Nat.reducePow,Amk];rw[show n/16777216%256+128=n/16777216+128 by omega]
 simp only[FY,if_true,if_false,l0,Ap,Nat.reduceSub,Al5,Alm,Nat.reduceMul,kv,Us,Nat.reduceEqDiff,Nat.reducePow,Amk];rw[show n/72057594037927936%256+192=n/72057594037927936+192 by omega]
def qT(n size h):∀k,aa (FY n size h k)=k
 |0=>rfl
 |k+1=>by simp[FY,qT n size h k]
section
variable{P:Program}{n:Nat}{E:A8}{H:HP}{d:Option Tmp}{T T' ty:TypeId}{pos:String}{af:Array Edge}{g:Option (Nat×Bool)}{x y:Operand}
def dF{i j:Nat}(F:ev E x=some (.int .u64 i))(G:ev E y=some (.int .u64 j))(h:i*j<18446744073709551616):
  AY P B n ⟨d,.binOp .mul T x y T',ty,pos,af,g⟩ E H (.int .u64 (i*j:Nat)):=by
 have:=tO (P:=P) (B:=B) (n:=n) (H:=H) (d:=d) (T:=T) (T':=T') (ty:=ty) (pos:=pos) (af:=af) (g:=g) F G;rwa[pg h]at this
def Ac8{i:Nat}[h1:Aw P T (.int .u64)][h2:Aw P T' (.int .u8)](F:ev E x=some (.int .u64 i)):AY P B n ⟨d,.convert T T' x,ty,pos,af,g⟩ E H (u8 (cx i)):=by
 have:=Tw (P:=P) (B:=B) (n:=n) (H:=H) (d:=d) (T:=T) (T':=T') (ty:=ty) (pos:=pos) (af:=af) (g:=g) F;rw[show u8 (cx i)=.int .u8 (i%256:Nat) by rw[u8,Ak5]];exact this
end
def JE(n:Nat)(G:n≤4611686018427387903)(p:Option Addr)(b o c:Nat)(xs:List UInt8)(s:List Value)(R:HP)(hs:Sl p b o (aa xs) c)(W:aa xs*1+aa s=c*1)(F:aa xs<1000000000000):
  Fn prog B 158 [.slice p (aa xs) c,uN n] (AC b o xs s*R) (λv S=>DI R (xs++AU n) v S):=by
 refine mI func158 ?_;refine IU ?_;refine A4 ?_;refine JL (M0 (j:=1073741824) I I)<|J3 ?_;refine Bq (α:=Unit) (λ_=>[(0,.slice p (aa xs) c),(1,uN n),(5,iN (B8 n)),(6,uN (D7 n))]) (λ_=>AC b o xs s*R) (λ_=>True) ?_ ?_
 ·refine mC (λg30=>?_) (λg30=>?_)
  ·refine BE ?_;refine JL (Fw (v:=.int .u64 (3:Nat)) I)<|J1 ?_;exact An () trivial (by rw[show B8 n=8 by unfold B8;rw[AF C0,AF C0,AF C0],show D7 n=3 by unfold D7;rw[AF C0,AF C0,AF C0]];exact .cons I DW) I
  refine J3 ?_;refine JL (M0 (j:=16384) I I)<|J3 ?_;refine mC (λw=>?_) (λw=>?_)
  ·refine BE ?_;refine JL (Fw (v:=.int .u64 (2:Nat)) I)<|J1 ?_;exact An () trivial (by rw[show B8 n=4 by unfold B8;rw[AF C0,AF C0,AJ C0],show D7 n=2 by unfold D7;rw[AF C0,AF C0,AJ C0]];exact .cons I DW) I
  refine J3 ?_;refine JL (M0 (j:=64) I I)<|J3 ?_;refine mC (λV=>?_) (λV=>?_)
  ·refine BE ?_;refine JL (Fw (v:=.int .u64 (1:Nat)) I)<|J1 ?_;exact An () trivial (by rw[show B8 n=2 by unfold B8;rw[AF C0,AJ C0],show D7 n=1 by unfold D7;rw[AF C0,AJ C0]];exact .cons I DW) I
  refine J1 ?_;exact An () trivial (by rw[show B8 n=1 by unfold B8;rw[AJ C0],show D7 n=0 by unfold D7;rw[AJ C0]];exact .cons I DW) I
 rintro z J;have L:B8 n=1∨B8 n=2∨B8 n=4∨B8 n=8:=by
  unfold B8;repeat' split
  all_goals simp
 have hhd:D7 n≤3:=by
  unfold D7;repeat' split
  all_goals simp
 refine J6 ?_;refine JL (MT (i:=(B8 n:Nat)) (j:=1) I I C0)<|J4 ?_;refine Bf (α:=Nat×Option Addr×Nat×Nat×Nat×List Value) (λz=>[(0,.slice z.2.1 (aa (xs++FY n (B8 n) (D7 n) z.1)) z.2.2.2.2.1),(1,uN n),(5,iN (B8 n)),(6,uN (D7 n)),(7,.int .i64 ((B8 n:Nat)-1-(z.1:Nat)))]) (λz=>AC z.2.2.1 z.2.2.2.1 (xs++FY n (B8 n) (D7 n) z.1) z.2.2.2.2.2*R) (λz=>z.1≤B8 n∧Sl z.2.1 z.2.2.1 z.2.2.2.1 (aa (xs++FY n (B8 n) (D7 n) z.1)) z.2.2.2.2.1∧aa (xs++FY n (B8 n) (D7 n) z.1)*1+aa z.2.2.2.2.2=z.2.2.2.2.1*1) (λz=>B8 n-z.1) (0,p,b,o,c,s) ⟨bk _,by simpa[FY]using hs,by simpa[FY]using W⟩ (by simp only[FY,g8];exact .cons I (.cons I (.cons I (.cons I (.cons (congrArg (λz=>some (Value.int .i64 z)) C0) .nil))))) (by simp only[FY,g8]) ?_;rintro⟨k,q,N,M,U,O⟩ ⟨hk,A,K⟩;dsimp only at hk A K⊢;refine J4 ?_;refine JL (Kl (i:=(B8 n:Nat)-1-(k:Nat)) (j:=0) I I)<|J2 ?_;refine mC (λC=>?_) (λC=>?_)
 ·skip;have X:k<B8 n:=C0;refine O3 (E':=[(0,.slice q (aa (xs++FY n (B8 n) (D7 n) k)) U),(1,uN n),(5,iN (B8 n)),(6,uN (D7 n)),(7,iN (B8 n-1-k))]) oJ<|Fj ?_;refine Bf (λj:Nat=>[(0,.slice q (aa (xs++FY n (B8 n) (D7 n) k)) U),(1,uN n),(5,iN (B8 n)),(6,uN (D7 n)),(7,iN (B8 n-1-k)),(8,uN (n/256^j)),(9,iN j)]) (λ_=>AC N M (xs++FY n (B8 n) (D7 n) k) O*R) (λj=>j≤B8 n-1-k) (λj=>B8 n-1-k-j) 0 Du (.cons I (.cons I (.cons I (.cons I (.cons I (.cons (congrArg (λz=>some (uN z)) (by rw[Al5,Alm])) Jz)))))) I ?_;rintro j hj;dsimp only at hj⊢;have hjn:n/256^j≤n:=Akp _ _;refine J8 ?_;refine mC (λh=>?_) (λh=>?_)
  ·refine J6 ?_;refine JL (Ac3 (j:=256) I I ⟨C0,C0⟩)<|BQ ?_;exact BV (j+1) Wh (by show B8 n-1-k-(j+1)<B8 n-1-k-j;omega) (.cons I (.cons I (.cons I (.cons I (.cons I (.cons (congrArg (λz=>some (uN z)) (by rw[Alt,Ame])) Jz)))))) I
  obtain rfl:j=B8 n-1-k:=C0;refine J8 ?_;refine JL (RL (j:=256) I I C0)<|DY ?_;refine Bq (α:=Unit) (λ_=>[(0,.slice q (aa (xs++FY n (B8 n) (D7 n) k)) U),(1,uN n),(5,iN (B8 n)),(6,uN (D7 n)),(7,iN (B8 n-1-k)),(8,uN (n/256^(B8 n-1-k)%256+(if k=0 then D7 n*64 else 0)))]) (λ_=>AC N M (xs++FY n (B8 n) (D7 n) k) O*R) (λ_=>True) ?_ ?_
  ·refine mC (λY=>?_) (λY=>?_)
   ·refine J3 ?_;refine JL (dF (j:=64) I I C0)<|A5 ?_;exact An () trivial (by rw[AJ C0];exact .cons I Gx) I
   refine J1 ?_;exact An () trivial (by rw[AF C0];exact .cons I Gx) I
  rintro z J;refine J4 ?_;refine JL (Ac8 I)<|Ga ?_;rintro _ _ ⟨m,rfl,rfl⟩;refine BH (H':=AC N M (xs++FY n (B8 n) (D7 n) k) O*(AA m 0 (AE [cx (n/256^(B8 n-1-k)%256+(if k=0 then D7 n*64 else 0))])*R)) Cn<|Ae (CA (ys:=[cx (n/256^(B8 n-1-k)%256+(if k=0 then D7 n*64 else 0))]) (bb:=m) (oo:=0) (cc:=1) I A K I Bz AH I (by have:=qT n (B8 n) (D7 n) k;simp only[a5,mz];omega) C0) I ?_;rintro _ _ ⟨r,Q,f,t,l,rfl,a,e,rfl⟩;rw[c5]at a e⊢;refine BH (H':=AC Q f (xs++FY n (B8 n) (D7 n) (k+1)) l*(AA m 0 (AE [cx (n/256^(B8 n-1-k)%256+(if k=0 then D7 n*64 else 0))])*R)) I<|J6 ?_;refine JL (MT (i:=((B8 n-1-k:Nat):Int)) (j:=1) I I C0)<|J2 ?_;exact Bg (AC Q f (xs++FY n (B8 n) (D7 n) (k+1)) l*R) (BV (k+1,r,Q,f,t,l) ⟨C0,a,e⟩ (by show B8 n-(k+1)<B8 n-k;omega) oJ I)
 obtain rfl:k=B8 n:=C0;refine Fi ?_;rw[pd n G]at A K⊢;exact mR [4] (AC N M (xs++AU n) O*R) I I ⟨q,N,M,U,O,I,A,K,I⟩
end
end Go.Proofs.YtgfdlpcdjklcoaaGreatDoor
