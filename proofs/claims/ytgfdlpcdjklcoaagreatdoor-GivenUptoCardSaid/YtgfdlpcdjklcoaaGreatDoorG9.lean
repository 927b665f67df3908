/- A part of this proof: steps of the program, plain facts; no condition. -/
import Derived.Test.YtgfdlpcdjklcoaaGreatDoorG8
namespace Go.Proofs.YtgfdlpcdjklcoaaGreatDoor
open Go Go.RowKit
open _root_.Nat renaming lt_succ_iff_lt_or_eq→a_,zero_le→g',add_sub_cancel→kh,reduceEqDiff→kj,sub_zero→km,ble→kn,blt→ko
open _root_.Go.Value renaming bool→b_
open _root_.List renaming length_append→c_,getElem?_cons_zero→d_,getElem?_toArray→e_,getElem?_eq_some_iff→g_,length_eq_zero_iff→h_,getElem?_cons_succ→i_,nil_append→j_,length_pos_iff→kf,flatMap_append→kg,getElem_mem→ki
open _root_.Go.Result renaming andThen→f_
set_option linter.unusedVariables false
set_option maxRecDepth 20000
section
variable{B:World}
theorem Ht(n:Nat)(hn:n≤4611686018427387903)(p:Option Addr)(b o c:Nat)(xs:List UInt8)(s:List Value)(R:HP)(hs:Sl p b o xs.length c)(hc:xs.length*1+s.length=c*1)(hx:xs.length<1000000000000):
  Fn Tryz.prog B 194 [.slice p xs.length c,uN n] (AB b o xs s*R) (fun v H'=>CB R (xs++AS n) v H'):=by
 refine W8 ?_;refine mC (fun hc0=>?_) (fun hc0=>?_)
 ·refine J4 ?_;refine Hc ?_;refine LF ?_;rintro _ _ ⟨b11,rfl,rfl⟩;refine BQ (H':=AB b o xs s*(HP.AA b11 0 (AG (AS n))*R)) fQ ?_
  have hl:(AS n).length=1:=by simp [AS, *]
  refine Am (DG (ys:=AS n) (bb:=b11) (oo:=0) (cc:=1) rfl hs hc Cx KG inferInstance rfl KJ Ca) rfl ?_;rintro _ _ ⟨q,b',o',c',s',rfl,h1,h2,rfl⟩;refine J6 ?_;exact RX
 refine J3 ?_;refine JL (ES (j:=16384) rfl rfl) ?_;refine J3 ?_;refine mC (fun hc1=>?_) (fun hc1=>?_)
 ·refine bQ ?_;rintro _ _ ⟨b23,rfl,rfl⟩;refine BQ (H':=AB b o xs s*(HP.AA b23 0 (AG (AS n))*R)) bR ?_
  have hl:(AS n).length=2:=by simp [AS, *]
  refine Am (DG (ys:=AS n) (bb:=b23) (oo:=0) (cc:=2) rfl hs hc Cx KG inferInstance rfl KJ Ca) rfl ?_;rintro _ _ ⟨q,b',o',c',s',rfl,h1,h2,rfl⟩;refine J6 ?_;exact RX
 refine J3 ?_;refine JL (ES (j:=1073741824) rfl rfl) ?_;refine J3 ?_;refine mC (fun hc2=>?_) (fun hc2=>?_)
 ·refine fK ?_;rintro _ _ ⟨b41,rfl,rfl⟩;refine BQ (H':=AB b o xs s*(HP.AA b41 0 (AG (AS n))*R)) Xa ?_
  have hl:(AS n).length=4:=by simp [AS, *]
  refine Am (DG (ys:=AS n) (bb:=b41) (oo:=0) (cc:=4) rfl hs hc Cx KG inferInstance rfl KJ Ca) rfl ?_;rintro _ _ ⟨q,b',o',c',s',rfl,h1,h2,rfl⟩;refine J6 ?_;exact RX
 refine Zv ?_;rintro _ _ ⟨b68,rfl,rfl⟩;refine BQ (H':=AB b o xs s*(HP.AA b68 0 (AG (AS n))*R)) Zo ?_
 have hl:(AS n).length=8:=by simp [AS, *]
 refine Am (DG (ys:=AS n) (bb:=b68) (oo:=0) (cc:=8) rfl hs hc Cx KG inferInstance rfl KJ Ca) rfl ?_;rintro _ _ ⟨q,b',o',c',s',rfl,h1,h2,rfl⟩;refine J4 ?_;exact RX
theorem qO(d:ByteArray)(hd:d.size<1000000000000)(p:Option Addr)(b o c:Nat)(xs:List UInt8)(s:List Value)(R:HP)(hs:Sl p b o xs.length c)(hc:xs.length*1+s.length=c*1)(hx:xs.length<1000000000000):
  Fn Tryz.prog B 200 [.slice p xs.length c,.string d] (AB b o xs s*R) (fun v H'=>CB R (xs++AS d.size++d.data.toList) v H'):=by
 refine mI Tryz.func200 ?_;refine CL ?_;refine JL Fy ?_;refine mE rfl (Ht d.size Ca p b o c xs s R hs hc Ca) ?_;rintro _ _ ⟨p9,b9,o9,c9,s9,rfl,hs9,hc9,rfl⟩;refine J1 ?_;refine Am (q9 (str:=d) rfl hs9 hc9 rfl rfl fU Ca) rfl ?_;rintro _ _ ⟨q,b',o',c',s',rfl,h1,h2,rfl⟩;refine J4 ?_;exact mR [4] (AB b' o' (xs++AS d.size++d.data.toList) s'*R) rfl rfl ⟨q,b',o',c',s',rfl,h1,h2,rfl⟩
theorem eu(t:UInt8)(bt:Nat)(r:RF)(fb:Nat)(p:Option Addr)(b o c:Nat)(xs:List UInt8)(s:List Value)(R:HP)(hs:Sl p b o xs.length c)(hc:xs.length*1+s.length=c*1)(hx:xs.length<100000000000):
  Fn Tryz.prog B 217 [.slice p xs.length c,ptr fb 0,ptr bt 0] (AB b o xs s*(HP.AA fb 0 (AQ r)*(HP.AA bt 0 [u8 t]*R))) (fun v H'=>CB (HP.AA fb 0 (AQ r)*(HP.AA bt 0 [u8 t]*R)) (xs++[t]) v H'):=by
 refine mI Tryz.func217 ?_;refine J8 ?_;refine D9 ?_;refine LF ?_;rintro _ _ ⟨b8,rfl,rfl⟩;refine BQ (H':=AB b o xs s*(HP.AA b8 0 (AG [t])*(HP.AA fb 0 (AQ r)*(HP.AA bt 0 [u8 t]*R)))) MP ?_;refine Am (DG (ys:=[t]) (bb:=b8) (oo:=0) (cc:=1) rfl hs hc rfl CS inferInstance rfl Cl Ca) rfl ?_;rintro _ _ ⟨p9,b9,o9,c9,s9,rfl,hs9,hc9,rfl⟩;refine J4 ?_;exact mR [5] (AB b9 o9 (xs++[t]) s9*(HP.AA fb 0 (AQ r)*(HP.AA bt 0 [u8 t]*R))) rfl rfl ⟨p9,b9,o9,c9,s9,rfl,hs9,hc9,rfl⟩
theorem kB(fb:Nat)(H:HP):Fn Tryz.prog B 205 [ptr fb 0] H (fun v H'=>v=ptr fb (0+3)∧H'=H):=by
 refine mI Tryz.func205 ?_;refine HI ?_;exact Lo
theorem zB(bt bq:Nat)(r:RF)(fb:Nat)(p:Option Addr)(b o c:Nat)(xs:List UInt8)(s:List Value)(R:HP)(hs:Sl p b o xs.length c)(hc:xs.length*1+s.length=c*1)(hx:xs.length<100000000000)(hcd:r.f.code≤4611686018427387903):
  Fn Tryz.prog B 219 [.slice p xs.length c,ptr fb 0,ptr bt 0,ptr bq 0] (AB b o xs s*(HP.AA fb 0 (AQ r)*(HP.AA bt 0 [u8 28]*(HP.AA bq 0 [.func (.func 205) #[] #[]]*R)))) (fun v H'=>CB (HP.AA fb 0 (AQ r)*(HP.AA bt 0 [u8 28]*(HP.AA bq 0 [.func (.func 205) #[] #[]]*R))) (xs++[28]++AS r.f.code) v H'):=by
 refine mI Tryz.func219 ?_;refine J6 ?_;refine ET (HP.AA fb 0 (AQ r)*(HP.AA bt 0 [u8 28]*(HP.AA bq 0 [.func (.func 205) #[] #[]]*R))) 6 11 Ef rfl Cb ?_;refine GZ ?_;refine Jd 1 ?_;refine JB ?_;refine Jm 5 ?_;refine Av 2 Cb rfl rfl Ig ?_;rintro _ _ ⟨b9,rfl,rfl⟩;refine BL ?_;refine E5 (H':=AB b o xs s*(HP.AA b9 0 (AG [(28:UInt8)])*(HP.AA fb 0 (AQ r)*(HP.AA bt 0 [u8 28]*(HP.AA bq 0 [.func (.func 205) #[] #[]]*R))))) MP ?_;refine Av 3 Cb rfl rfl (DG (ys:=[28]) (bb:=b9) (oo:=0) (cc:=1) rfl hs hc rfl CS inferInstance rfl Cl Ca) ?_;rintro _ _ ⟨p10,b10,o10,c10,s10,rfl,hs10,hc10,rfl⟩;refine BL ?_;refine Av 6 Cb rfl rfl (IJ rfl rfl (kB fb _)) ?_;refine JR ?_;refine Dc ?_;refine Ei 7 Cb rfl rfl CT EY ?_;refine Ei 8 Cb rfl rfl ER EY ?_;refine Av 9 Cb rfl rfl (BS rfl (Ht r.f.code hcd p10 b10 o10 c10 (xs++[28]) s10 _ hs10 hc10 Cl)) ?_;rintro _ _ ⟨p16,b16,o16,c16,s16,rfl,hs16,hc16,rfl⟩;refine Dc ?_;refine Ei 10 Cb rfl rfl F7 EY ?_;refine Dm ?_
 exact mR [6] (AB b16 o16 (xs++[28]++AS r.f.code) s16*(HP.AA fb 0 (AQ r)*(HP.AA bt 0 [u8 28]*(HP.AA bq 0 [.func (.func 205) #[] #[]]*R)))) rfl rfl ⟨p16,b16,o16,c16,s16,rfl,hs16,hc16,rfl⟩
theorem x7(r:RF)(fb:Nat)(p:Option Addr)(b o c:Nat)(xs:List UInt8)(s:List Value)(R:HP)(hs:Sl p b o xs.length c)(hc:xs.length*1+s.length=c*1)(hx:xs.length<100000000000)(st:Nat)(hst:r.f.stream=(st:Nat))(hst4:st<4)(hcd:r.f.code≤4611686018427387903)(hof:r.f.offset≤4611686018427387903):
  Fn Tryz.prog B 193 [.slice p xs.length c,ptr fb 0] (AB b o xs s*(HP.AA fb 0 (AQ r)*R)) (fun v H'=>CB (HP.AA fb 0 (AQ r)*R) (xs++[4]++AS st++AS r.f.code++AS r.f.offset) v H'):=by
 refine mI Tryz.func193 ?_;have q1:=C5 st;have q2:=C5 r.f.code;have q3:=C5 r.f.offset;refine YD ?_;rintro _ _ ⟨b6,rfl,rfl⟩;refine BL ?_;refine iH ?_;refine Av 2 Cb rfl rfl (DG (ys:=[4]) (bb:=b6) (oo:=0) (cc:=1) rfl hs hc rfl CS inferInstance rfl Cl Ca) ?_;rintro _ _ ⟨p7,b7,o7,c7,s7,rfl,hs7,hc7,rfl⟩;refine BL ?_;refine Av 8 Cb rfl rfl (BS rfl (Ht (st) Ca p7 b7 o7 c7 (xs++[4]) s7 _ hs7 hc7 Cp)) ?_;rintro _ _ ⟨p13,b13,o13,c13,s13,rfl,hs13,hc13,rfl⟩;refine BL ?_;refine Av 13 Cb rfl rfl (BS rfl (Ht (r.f.code) hcd p13 b13 o13 c13 (xs++[4]++AS st) s13 _ hs13 hc13 Cp)) ?_
 rintro _ _ ⟨p18,b18,o18,c18,s18,rfl,hs18,hc18,rfl⟩;refine BL ?_;refine Av 18 Cb rfl rfl (BS rfl (Ht (r.f.offset) hof p18 b18 o18 c18 (xs++[4]++AS st++AS r.f.code) s18 _ hs18 hc18 Cp)) ?_;rintro _ _ ⟨p23,b23,o23,c23,s23,rfl,hs23,hc23,rfl⟩;refine Dc ?_;refine Ei 19 Cb rfl rfl F7 EY ?_;refine Dm ?_;exact mR [4] (AB b23 o23 (xs++[4]++AS st++AS r.f.code++AS r.f.offset) s23*(HP.AA fb 0 (AQ r)*R)) rfl rfl ⟨p23,b23,o23,c23,s23,rfl,hs23,hc23,rfl⟩
theorem sO(r:RF)(fb:Nat)(p:Option Addr)(b o c:Nat)(xs:List UInt8)(s:List Value)(R:HP)(hs:Sl p b o xs.length c)(hc:xs.length*1+s.length=c*1)(hx:xs.length<100000000000)(st:Nat)(hst:r.f.stream=(st:Nat))(hst4:st<4)(hof:r.f.offset≤4611686018427387903)(hds:r.f.data.size<1000000000000):
  Fn Tryz.prog B 199 [.slice p xs.length c,ptr fb 0] (AB b o xs s*(HP.AA fb 0 (AQ r)*R)) (fun v H'=>CB (HP.AA fb 0 (AQ r)*R) (xs++[bif r.f.fin then 9 else 8]++AS st++AS r.f.offset++AS r.f.data.size++r.f.data.data.toList) v H'):=by
 refine mI Tryz.func199 ?_;have q1:=C5 st;have q2:=C5 r.f.code;have q3:=C5 r.f.offset;refine J7 ?_;refine JL Xi ?_;refine J8 ?_;refine D9 ?_;refine J2 ?_;refine DF (α:=Unit) (fun _=>[(0,.slice p xs.length c),(1,ptr fb 0),(5,u8 (bif r.f.fin then 9 else 8))]) (fun _=>AB b o xs s*(HP.AA fb 0 (AQ r)*R)) (fun _=>True) ?_ ?_
 ·refine mc (fun hc0=>?_) (fun hc0=>?_)
  ·refine J1 ?_;refine JL jB ?_;refine J1 ?_;exact SK
  refine J1 ?_;exact SK
 ·rintro z hz;refine YL ?_;rintro _ _ ⟨b12,rfl,rfl⟩;refine BL ?_;refine eR ?_;refine Av 3 Cb rfl rfl (DG (ys:=[(bif r.f.fin then(9:UInt8)else 8)]) (bb:=b12) (oo:=0) (cc:=1) rfl hs hc rfl CS inferInstance rfl Cl Ca) ?_;rintro _ _ ⟨p13,b13,o13,c13,s13,rfl,hs13,hc13,rfl⟩;refine BL ?_;refine Av 9 Cb rfl rfl (BS rfl (Ht (st) Ca p13 b13 o13 c13 (xs++[bif r.f.fin then 9 else 8]) s13 _ hs13 hc13 Cp)) ?_;rintro _ _ ⟨p19,b19,o19,c19,s19,rfl,hs19,hc19,rfl⟩;refine BL ?_;refine Av 14 Cb rfl rfl (BS rfl (Ht (r.f.offset) hof p19 b19 o19 c19 (xs++[bif r.f.fin then 9 else 8]++AS st) s19 _ hs19 hc19 Cp)) ?_
  rintro _ _ ⟨p24,b24,o24,c24,s24,rfl,hs24,hc24,rfl⟩;refine BL ?_;refine Av 19 Cb rfl rfl (BS rfl (qO r.f.data hds p24 b24 o24 c24 (xs++[bif r.f.fin then 9 else 8]++AS st++AS r.f.offset) s24 _ hs24 hc24 Cl)) ?_;rintro _ _ ⟨p29,b29,o29,c29,s29,rfl,hs29,hc29,rfl⟩;refine Dc ?_;refine Pa ?_;refine Dm ?_;exact mR [4] (AB b29 o29 (xs++[bif r.f.fin then 9 else 8]++AS st++AS r.f.offset++AS r.f.data.size++r.f.data.data.toList) s29*(HP.AA fb 0 (AQ r)*R)) rfl rfl ⟨p29,b29,o29,c29,s29,rfl,hs29,hc29,rfl⟩
theorem vO(fb:Nat)(H:HP):Fn Tryz.prog B 198 [ptr fb 0] H (fun v H'=>v=.bool true∧H'=H):=by
 refine mI Tryz.func198 ?_;refine B1 ?_;exact Lo
theorem xE(r:RF)(fb:Nat)(R:HP)(hof:r.f.offset≤4611686018427387903)(hds:r.f.data.size<1000000000000):
  Fn Tryz.prog B 203 [ptr fb 0] (HP.AA fb 0 (AQ r)*R) (fun v H'=>v=.bool (decide (r.f.data.size+r.f.offset≤4611686018427387903))∧H'=HP.AA fb 0 (AQ r)*R):=by
 refine mI Tryz.func203 ?_;refine J6 ?_;refine mA 13 13 ?_;refine Ir ?_;refine JT 4 rfl Gf ?_;refine JT 5 rfl Fy ?_;refine Jm 6 ?_;refine Jn 7 ?_;refine Jf 8 ?_;refine Jd 9 ?_;refine JT 10 rfl (K3 (i:=4611686018427387903) rfl rfl Ca) ?_;refine JT 11 rfl Lz ?_;refine Ja 12 ?_;refine Dm ?_;exact mR [2] (HP.AA fb 0 (AQ r)*R) rfl rfl ⟨congrArg b_ (decide_eq_decide.2 Ca),rfl⟩
theorem C_(r:RF)(fb:Nat)(p:Option Addr)(b o c:Nat)(xs:List UInt8)(s:List Value)(R:HP)(hs:Sl p b o xs.length c)(hc:xs.length*1+s.length=c*1)(hx:xs.length<100000000000)(hrok:r.ok)(hrd:Ai B R r.b r.o r.f.ranges)(hok:F8 r.f.ranges)(hrl:r.f.ranges.length<10000000000):
  Fn Tryz.prog B 190 [.slice p xs.length c,ptr fb 0] (AB b o xs s*(HP.AA fb 0 (AQ r)*R)) (fun v H'=>CB (HP.AA fb 0 (AQ r)*R) (xs++[2]++AS (rg r.f.ranges 0).hi++AS (r.f.ranges.length-1)++AS ((rg r.f.ranges 0).hi-(rg r.f.ranges 0).lo)++B5 r.f.ranges (r.f.ranges.length-1)) v H'):=by
 refine mI Tryz.func190 ?_;have hne:0<r.f.ranges.length:=kf.2 hok.1;have h0:=hok.2 0 hne;unfold GH at h0;have q1:=C5 (rg r.f.ranges 0).hi;have q2:=C5 (r.f.ranges.length-1);have q3:=C5 ((rg r.f.ranges 0).hi-(rg r.f.ranges 0).lo);refine CL ?_;refine D9 ?_;refine JL Zk ?_;refine JL YM ?_;refine Ky ?_;rintro _ _ ⟨b5,rfl,rfl⟩;refine XN ?_;rintro _ _ ⟨b15,rfl,rfl⟩;refine BL ?_
 refine XI ?_;refine Av 2 Cb rfl rfl (DG (ys:=[2]) (bb:=b15) (oo:=0) (cc:=1) rfl hs hc rfl CS inferInstance rfl Cl Ca) ?_;rintro _ _ ⟨p16,b16,o16,c16,s16,rfl,hs16,hc16,rfl⟩;refine BL ?_;refine Av 5 Cb rfl rfl (BS rfl (Ht ((rg r.f.ranges 0).hi) h0.2.1 p16 b16 o16 c16 (xs++[2]) s16 _ hs16 hc16 Cp)) ?_;rintro _ _ ⟨p19,b19,o19,c19,s19,rfl,hs19,hc19,rfl⟩;refine BL ?_;refine Av 13 Cb rfl rfl (BS rfl (Ht (r.f.ranges.length-1) Ca p19 b19 o19 c19 (xs++[2]++AS (rg r.f.ranges 0).hi) s19 _ hs19 hc19 Cp)) ?_;rintro _ _ ⟨p27,b27,o27,c27,s27,rfl,hs27,hc27,rfl⟩;refine BL ?_;refine Av 19 Cb rfl rfl (BS rfl (Ht ((rg r.f.ranges 0).hi-(rg r.f.ranges 0).lo) Ca p27 b27 o27 c27 (xs++[2]++AS (rg r.f.ranges 0).hi++AS (r.f.ranges.length-1)) s27 _ hs27 hc27 Cp)) ?_;rintro _ _ ⟨p33,b33,o33,c33,s33,rfl,hs33,hc33,rfl⟩;refine Dc ?_;refine Pa ?_;refine JK ?_
 refine Hy (AB b33 o33 (xs++[2]++AS (rg r.f.ranges 0).hi++AS (r.f.ranges.length-1)++AS ((rg r.f.ranges 0).hi-(rg r.f.ranges 0).lo)) s33*(HP.AA fb 0 (AQ r)*R)) ?_;refine J4 ?_;refine D9 ?_;refine JL XG ?_;refine Kg ?_;generalize hpre:(xs++[2]++AS (rg r.f.ranges 0).hi++AS (r.f.ranges.length-1)++AS ((rg r.f.ranges 0).hi-(rg r.f.ranges 0).lo))=pre at*
 have hpl:pre.length<200000000000:=by rw [←hpre];simp only [c_,List.length_cons,List.length_nil];omega
 refine Bj (α:=Nat×Option Addr×Nat×Nat×Nat×List Value) (fun z=>[(0,.slice z.2.1 (pre++B5 r.f.ranges z.1).length z.2.2.2.2.1),(1,ptr fb 0),(38,.slice (sp r.p r.c 1 2) (r.f.ranges.length-1) (r.c-1)),(39,iN (r.f.ranges.length-1)),(40,iN z.1)]) (fun z=>AB z.2.2.1 z.2.2.2.1 (pre++B5 r.f.ranges z.1) z.2.2.2.2.2*(HP.AA fb 0 (AQ r)*R)) (fun z=>z.1≤r.f.ranges.length-1∧Sl z.2.1 z.2.2.1 z.2.2.2.1 (pre++B5 r.f.ranges z.1).length z.2.2.2.2.1∧(pre++B5 r.f.ranges z.1).length*1+z.2.2.2.2.2.length=z.2.2.2.2.1*1) (fun z=>r.f.ranges.length-1-z.1) (0,p33,b33,o33,c33,s33) ⟨g' _,by simpa [B5]using hs33,by simpa [B5]using hc33⟩ XP Yq ?_
 rintro⟨i,p9,b9,o9,c9,s9⟩ ⟨hi,hs9,hc9⟩;dsimp only at hi hs9 hc9⊢;have hel:=QU r.f.ranges i
 have hyl:(pre++B5 r.f.ranges i).length<900000000000:=by simp;omega
 generalize hys:pre++B5 r.f.ranges i=ys at*;refine J6 ?_;refine mC (fun hlt=>?_) (fun hlt=>?_)
 ·have hk:=hok.2 (i+1) Ca;have hk0:=hok.2 i Ca;unfold GH at hk hk0;simp only [kh]at hk;refine J7 ?_;refine JL cR ?_;refine JL gP ?_;refine Ky ?_;rintro _ _ ⟨b7,rfl,rfl⟩;refine J1 ?_;refine Gc ?_;refine J2 ?_;refine Au (H':=AB b9 o9 ys s9*(HP.AA b7 0 [uN (rg r.f.ranges (i+1)).lo,uN (rg r.f.ranges (i+1)).hi]*(HP.AA fb 0 (AQ r)*R))) (HP.CV _ _ _) ?_;have v1:=C5 ((rg r.f.ranges i).lo-(rg r.f.ranges (i+1)).hi-2);refine cN ?_;refine El ?_;refine Y8 ?_;refine TB ?_
  refine Av 13 Cb rfl rfl (BS rfl (Ht ((rg r.f.ranges i).lo-(rg r.f.ranges (i+1)).hi-2) Ca p9 b9 o9 c9 (ys) s9 _ hs9 hc9 Cp)) ?_;rintro _ _ ⟨p58,b58,o58,c58,s58,rfl,hs58,hc58,rfl⟩;refine BL ?_;refine Av 19 Cb rfl rfl (BS rfl (Ht ((rg r.f.ranges (i+1)).hi-(rg r.f.ranges (i+1)).lo) Ca p58 b58 o58 c58 (ys++AS ((rg r.f.ranges i).lo-(rg r.f.ranges (i+1)).hi-2)) s58 _ hs58 hc58 Cl)) ?_;rintro _ _ ⟨p64,b64,o64,c64,s64,rfl,hs64,hc64,rfl⟩;rw [←hys,cF]at hs64 hc64⊢;refine BL ?_;refine Ja 20 ?_;refine JK ?_;refine D7 ?_;exact Bo (AB b64 o64 (pre++B5 r.f.ranges (i+1)) s64*(HP.AA fb 0 (AQ r)*R)) (Ba (i+1,p64,b64,o64,c64,s64) ⟨Ca,hs64,hc64⟩ Y7 HZ rfl)
 have hie:i=r.f.ranges.length-1:=by omega
 refine DV ?_;subst hie;rw [←hys]at hs9 hc9⊢;exact mR [4] (AB b9 o9 (pre++B5 r.f.ranges (r.f.ranges.length-1)) s9*(HP.AA fb 0 (AQ r)*R)) rfl rfl (by rw [←hpre]at hs9 hc9⊢;exact⟨p9,b9,o9,c9,s9,rfl,hs9,hc9,rfl⟩)
theorem sH(r:RF)(fb:Nat)(R:HP)(hrok:r.ok)(hrd:Ai B R r.b r.o r.f.ranges)(hrl:r.f.ranges.length<10000000000):
  Fn Tryz.prog B 192 [ptr fb 0] (HP.AA fb 0 (AQ r)*R) (fun v H'=>v=.bool (decide (F8 r.f.ranges))∧H'=HP.AA fb 0 (AQ r)*R):=by
 refine mI Tryz.func192 ?_;refine B1 ?_;refine D9 ?_;refine Kg ?_;refine Bj (fun i:Nat=>[(0,ptr fb 0),(8,.slice r.p r.f.ranges.length r.c),(9,iN r.f.ranges.length),(10,iN i)]) (fun _=>(HP.AA fb 0 (AQ r)*R)) (fun i=>i≤r.f.ranges.length∧∀j,j<i→GH r.f.ranges j) (fun i=>r.f.ranges.length-i) 0 ⟨g' _,fun j hj=>by omega⟩ DN rfl ?_;rintro i ⟨hi,hall⟩;dsimp only at hi hall⊢;refine J6 ?_;refine mC (fun hlt=>?_) (fun hlt=>?_)
 ·refine J7 ?_;refine JL (DT (b:=r.b) (o:=r.o) rfl rfl hrok hlt) ?_;refine JL (Oo (i:=i) (xs:=r.f.ranges) rfl inferInstance hlt) ?_;refine Ky ?_;rintro _ _ ⟨b4,rfl,rfl⟩;refine J1 ?_;refine Gc ?_;refine J3 ?_;refine mA 41 41 ?_;refine Jy ?_;refine Lm ?_;refine K7 ?_;refine JT 4 rfl IG ?_;refine Jm 5 ?_;refine Gv 20 rfl (fun hg1=>?_) (fun hg1=>?_)
  ·refine JN 6 rfl T1 ?_;refine JN 7 rfl T1 ?_;refine JN 8 rfl T1 ?_;refine JT 9 rfl GM ?_;refine jK ?_;refine Ek 13 rfl Cb rfl rfl rfl rfl ?_;refine JU 14 ?_;refine Vy ?_;refine JU 24 ?_;refine UY ?_;refine JU 38 ?_;refine Ek 39 rfl Cb rfl rfl rfl rfl ?_;refine JT 40 rfl S8 ?_;refine FG ?_;refine Gw ?_;refine B1 ?_
   first|exact mR [2] (HP.AA fb 0 (AQ r)*R) rfl rfl PE|exact mR [2] (HP.AA fb 0 (AQ r)*R) rfl rfl Na
  refine JY 6 rfl F1 BW ?_;refine JY 7 rfl F1 ER ?_;refine JY 8 rfl F1 Qq ?_;refine JT 9 rfl E9 ?_;refine Jm 10 ?_;refine Gv 25 rfl (fun hg2=>?_) (fun hg2=>?_)
  ·refine JN 11 rfl T2 ?_;refine JN 12 rfl T2 ?_;refine JN 13 rfl T2 ?_;refine JU 14 ?_;refine Vy ?_;refine JU 24 ?_;refine UY ?_;refine JU 38 ?_;refine JN 39 rfl T2 ?_;refine JT 40 rfl IY ?_;refine FG ?_;refine Gw ?_;refine B1 ?_
   first|exact mR [2] (HP.AA fb 0 (AQ r)*R) rfl rfl PE|exact mR [2] (HP.AA fb 0 (AQ r)*R) rfl rfl Na
  refine JY 11 rfl F2 Bd ?_;refine JY 12 rfl F2 Ur ?_;refine JY 13 rfl F2 Bd ?_;refine Gv 28 rfl (fun hg3=>?_) (fun hg3=>?_)
  ·refine JY 14 rfl T3 Bd ?_;refine JY 15 rfl T3 CT ?_;refine JY 16 rfl T3 BW ?_;refine JY 17 rfl T3 ER ?_;refine JY 18 rfl T3 Bd ?_;refine JY 19 rfl T3 Oz ?_;refine JY 20 rfl T3 V3 ?_;refine JY 21 rfl T3 BW ?_;refine JY 22 rfl T3 XK ?_;refine JY 23 rfl T3 Tr ?_;refine JY 24 rfl T3 Bd ?_;refine Gv 39 rfl (fun hg4=>?_) (fun hg4=>?_)
   ·refine JN 25 rfl T4 ?_;refine JN 26 rfl T4 ?_;refine JN 27 rfl T4 ?_;refine JN 28 rfl T4 ?_;refine JN 29 rfl T4 ?_;refine JN 30 rfl T4 ?_;refine JN 31 rfl T4 ?_;refine JN 32 rfl T4 ?_;refine JN 33 rfl T4 ?_;refine JN 34 rfl T4 ?_;refine JN 35 rfl T4 ?_;refine JN 36 rfl T4 ?_;refine JN 37 rfl T4 ?_;refine JY 38 rfl T3 VK ?_;refine JY 39 rfl F2 WU ?_;refine JT 40 rfl Hr ?_;refine FG ?_;refine Gw ?_;refine B1 ?_
    first|exact mR [2] (HP.AA fb 0 (AQ r)*R) rfl rfl PE|exact mR [2] (HP.AA fb 0 (AQ r)*R) rfl rfl Na
   refine JY 25 rfl F4 BW ?_;refine JY 26 rfl F4 ER ?_;refine JY 27 rfl F4 Bd ?_;refine JY 28 rfl F4 CT ?_;refine JY 29 rfl F4 BW ?_;refine JY 30 rfl F4 ER ?_;refine JY 31 rfl F4 Bd ?_;refine JY 32 rfl F4 Oz ?_;refine JY 33 rfl F4 V3 ?_;refine JY 34 rfl F4 BW ?_;refine JY 35 rfl F4 XK ?_;refine JY 36 rfl F4 (K3 (j:=2) rfl rfl (by have hp:=hall (i-1) Ca;unfold GH at hp;omega)) ?_;refine JY 37 rfl F4 IG ?_;refine JY 38 rfl T3 Su ?_;refine JY 39 rfl F2 WU ?_;refine JT 40 rfl Hr ?_;refine FG ?_;refine mC (fun hbad=>?_) (fun hbad=>?_)
   ·refine B1 ?_
    first|exact mR [2] (HP.AA fb 0 (AQ r)*R) rfl rfl PE|exact mR [2] (HP.AA fb 0 (AQ r)*R) rfl rfl Na
   refine Ic ?_;refine Bo (HP.AA fb 0 (AQ r)*R) (Ba (i+1) ⟨hlt,fun j hj=>?_⟩ Ca DN rfl);rcases a_.1 hj with h|rfl
   ·exact hall j h
   ·unfold GH;omega
  refine JN 14 rfl F3 ?_;refine JN 15 rfl F3 ?_;refine JN 16 rfl F3 ?_;refine JN 17 rfl F3 ?_;refine JN 18 rfl F3 ?_;refine JN 19 rfl F3 ?_;refine JN 20 rfl F3 ?_;refine JN 21 rfl F3 ?_;refine JN 22 rfl F3 ?_;refine JN 23 rfl F3 ?_;refine JN 24 rfl F3 ?_;refine UY ?_;refine JN 38 rfl F3 ?_;refine JY 39 rfl F2 (G9 F3 rfl rfl) ?_;refine JT 40 rfl Hr ?_;refine FG ?_;refine Kj ?_;refine Ic ?_;refine Bo (HP.AA fb 0 (AQ r)*R) (Ba (i+1) ⟨hlt,fun j hj=>?_⟩ Ca DN rfl);rcases a_.1 hj with h|rfl
  ·exact hall j h
  ·unfold GH;omega
 have hie:i=r.f.ranges.length:=by omega
 have hdone:∀j,j<r.f.ranges.length→GH r.f.ranges j:=hie▸hall;refine CL ?_;refine Kw ?_;refine JL Ur ?_;refine J4 ?_
 first|exact mR [2] (HP.AA fb 0 (AQ r)*R) rfl rfl PE|exact mR [2] (HP.AA fb 0 (AQ r)*R) rfl rfl Na
end
section
variable{B:World}
abbrev F9(f:FuncId)(us:List Value):Value:=.func (.func f) #[] us.toArray
structure Hg(r:RF):Prop where
 ok:r.ok
 len:r.f.ranges.length<10000000000
 size:r.f.data.size<100000000000
structure LZ(B:World)(k:Int)(f1:FuncId)(us1:List Value)(f3:FuncId)(us3:List Value)(C:HP):Prop where
 ZG:Ah Tryz.prog f1
 call3:Ah Tryz.prog f3
 write:∀(r:RF) (fb:Nat) (p:Option Addr) (b o c:Nat) (xs:List UInt8) (s:List Value) (R:HP),Hg r→r.f.kind=k→CA r.f→Ai B R r.b r.o r.f.ranges→Sl p b o xs.length c→xs.length*1+s.length=c*1→xs.length<100000000000→
  Fn Tryz.prog B f1 ([.slice p xs.length c,ptr fb 0]++us1) (AB b o xs s*(HP.AA fb 0 (AQ r)*(C*R))) (fun v H'=>CB (HP.AA fb 0 (AQ r)*(C*R)) (xs++Ak r.f) v H')
 sound:∀(r:RF) (fb:Nat) (R:HP),Hg r→r.f.kind=k→r.f.offset≤4611686018427387903→Ai B R r.b r.o r.f.ranges→
  Fn Tryz.prog B f3 ([ptr fb 0]++us3) (HP.AA fb 0 (AQ r)*(C*R)) (fun v H'=>v=.bool (decide (H1 r.f))∧H'=HP.AA fb 0 (AQ r)*(C*R))
theorem E! {f:AM}(h3:f.kind≠3)(h5:f.kind≠5):H1 f:=⟨fun h=>absurd h h3,fun h=>absurd h h5⟩
theorem Sn(k:Int)(h3:k≠3)(h5:k≠5)(C:HP)(r:RF)(fb:Nat)(R:HP)(hk:r.f.kind=k):
  Fn Tryz.prog B 198 ([ptr fb 0]++[]) (HP.AA fb 0 (AQ r)*(C*R)) (fun v H'=>v=.bool (decide (H1 r.f))∧H'=HP.AA fb 0 (AQ r)*(C*R)):=by
 refine(vO fb _).mono ?_;rintro v H' ⟨rfl,rfl⟩;exact⟨congrArg b_ (decide_eq_true (E! (hk▸h3) (hk▸h5))).symm,rfl⟩
theorem kJ(k:Int)(t:UInt8)(bt:Nat)(hk:(k=1∧t=0)∨(k=2∧t=1)):LZ B k 217 [ptr bt 0] 198 [] (HP.AA bt 0 [u8 t]):=by
 refine⟨inferInstance,inferInstance,?_,?_⟩
 ·intro r fb p b o c xs s R hm hrk hok hr hs hc hx
  have e:Ak r.f=[t]:=by
   rcases hk with⟨rfl,rfl⟩|⟨rfl,rfl⟩<;>simp [Ak,hrk]
  rw [e];have h:=eu t bt r fb p b o c xs s R hs hc hx (B:=B);exact h
 ·intro r fb R hm hrk _ _;exact Sn k ZK ZK _ r fb R hrk
theorem uM(bt bq:Nat):LZ B 6 219 [ptr bt 0,ptr bq 0] 198 [] (HP.AA bt 0 [u8 28]*HP.AA bq 0 [F9 205 []]):=by
 refine⟨inferInstance,inferInstance,?_,?_⟩
 ·intro r fb p b o c xs s R hm hrk hok hr hs hc hx
  have e:Ak r.f=[28]++AS r.f.code:=by simp [Ak,hrk]
  rw [e,←List.append_assoc,HP.assoc];exact zB bt bq r fb p b o c xs s R hs hc hx hok.2.1
 ·intro r fb R hm hrk _ _;exact Sn 6 Cc Cc _ r fb R hrk
theorem vB:LZ B 3 190 [] 192 [] HP.BN:=by
 refine⟨inferInstance,inferInstance,?_,?_⟩
 ·intro r fb p b o c xs s R hm hrk hok hr hs hc hx
  have e:xs++Ak r.f=xs++[2]++AS (rg r.f.ranges 0).hi++AS (r.f.ranges.length-1)++AS ((rg r.f.ranges 0).hi-(rg r.f.ranges 0).lo)++B5 r.f.ranges (r.f.ranges.length-1):=by
   simp [Ak,hrk,Ku]
  rw [e,HP.BR];exact C_ r fb p b o c xs s R hs hc hx hm.ok hr (hok.2.2.2.2.1.1 hrk) hm.len
 ·intro r fb R hm hrk _ hr;rw [HP.BR];refine(sH r fb R hm.ok hr hm.len).mono ?_;rintro v H' ⟨rfl,rfl⟩;exact⟨congrArg b_ (decide_eq_decide.2 ⟨fun h=>⟨fun _=>h,fun h5=>by rw [hrk]at h5;cases h5⟩,fun h=>h.1 hrk⟩),rfl⟩
theorem cg:LZ B 4 193 [] 198 [] HP.BN:=by
 refine⟨inferInstance,inferInstance,?_,?_⟩
 ·intro r fb p b o c xs s R hm hrk hok hr hs hc hx;obtain⟨h1,h2,h3,h4,h5,h6⟩:=hok
  have e:xs++Ak r.f=xs++[4]++AS r.f.stream.toNat++AS r.f.code++AS r.f.offset:=by simp [Ak,hrk]
  rw [e,HP.BR];exact x7 r fb p b o c xs s R hs hc hx r.f.stream.toNat Ca Ca h2 h1
 ·intro r fb R hm hrk _ _;rw [HP.BR]
  have:=Sn (B:=B) 4 Cc Cc HP.BN r fb R hrk
  rwa [HP.BR]at this
theorem L_:LZ B 5 199 [] 203 [] HP.BN:=by
 refine⟨inferInstance,inferInstance,?_,?_⟩
 ·intro r fb p b o c xs s R hm hrk hok hr hs hc hx;obtain⟨h1,h2,h3,h4,h5,h6⟩:=hok
  have e:xs++Ak r.f=xs++[bif r.f.fin then 9 else 8]++AS r.f.stream.toNat++AS r.f.offset++AS r.f.data.size++r.f.data.data.toList:=by simp [Ak,hrk]
  rw [e,HP.BR];exact sO r fb p b o c xs s R hs hc hx r.f.stream.toNat Ca Ca h1 V7
 ·intro r fb R hm hrk hof _;rw [HP.BR];refine(xE r fb R hof V7).mono ?_;rintro v H' ⟨rfl,rfl⟩;exact⟨congrArg b_ (decide_eq_decide.2 ⟨fun h=>⟨fun h3=>(by rw [hrk]at h3;cases h3),fun _=>h⟩,fun h=>h.2 hrk⟩),rfl⟩
theorem kP(t:UInt8)(H:HP):Fn Tryz.prog B 189 [u8 t] H (fun v H'=>∃bt,v=.agg [F9 217 [ptr bt 0],F9 218 [],F9 198 []].toArray∧H'=HP.AA bt 0 [u8 t]*H):=by
 refine mI Tryz.func189 ?_;refine J2 ?_;refine Am (Dn (l:=[u8 t]) rfl rfl) rfl ?_;rintro _ _ ⟨b1,rfl,rfl⟩;refine LE ?_;rintro _ _ ⟨b2,rfl,rfl⟩;refine J4 ?_;refine JL GW ?_;refine JL GI ?_;refine Gc ?_;refine J3 ?_;exact NA (HP.AA b1 0 [u8 t]*H) rfl (Io (NS rfl rfl) KE) ⟨b1,rfl,rfl⟩
theorem ef(H:HP):Fn Tryz.prog B 204 [u8 28,F9 205 []] H (fun v H'=>∃bt bq,v=.agg [F9 219 [ptr bt 0,ptr bq 0],F9 220 [ptr bq 0],F9 198 []].toArray∧H'=HP.AA bt 0 [u8 28]*(HP.AA bq 0 [F9 205 []]*H)):=by
 refine mI Tryz.func204 ?_;refine J2 ?_;refine Am (Dn (l:=[u8 28]) rfl rfl) rfl ?_;rintro _ _ ⟨b2,rfl,rfl⟩;refine Am (Dn (l:=[F9 205 []]) rfl rfl) rfl ?_;rintro _ _ ⟨b3,rfl,rfl⟩;refine LE ?_;rintro _ _ ⟨b4,rfl,rfl⟩;refine J4 ?_;refine JL GW ?_;refine JL GW ?_;refine JL GI ?_;refine Gc ?_;refine J3 ?_;exact NA (HP.AA b3 0 [F9 205 []]*(HP.AA b2 0 [u8 28]*H)) rfl (Io (NS rfl rfl) KE) ⟨b2,b3,rfl,HP.CV _ _ _⟩
inductive FK:Int→FuncId→List Value→FuncId→List Value→FuncId→List Value→HP→Prop
 |pad (bt:Nat):FK 1 217 [ptr bt 0] 218 [] 198 [] (HP.AA bt 0 [u8 0])
 |ping (bt:Nat):FK 2 217 [ptr bt 0] 218 [] 198 [] (HP.AA bt 0 [u8 1])
 |FO:FK 3 190 [] 191 [] 192 [] HP.BN
 |reset:FK 4 193 [] 195 [] 198 [] HP.BN
 |data:FK 5 199 [] 201 [] 203 [] HP.BN
 |bye (bt bq:Nat):FK 6 219 [ptr bt 0,ptr bq 0] 220 [ptr bq 0] 198 [] (HP.AA bt 0 [u8 28]*HP.AA bq 0 [F9 205 []])
theorem FK.U7{k:Int}{f1 f2 f3:FuncId}{us1 us2 us3:List Value}{C:HP}(h:FK k f1 us1 f2 us2 f3 us3 C):LZ B k f1 us1 f3 us3 C:=by
 cases h
 ·exact kJ 1 0 _ (.inl BY)
 ·exact kJ 2 1 _ (.inr BY)
 ·exact vB
 ·exact cg
 ·exact L_
 ·exact uM _ _
theorem FK.kind{k:Int}{f1 f2 f3:FuncId}{us1 us2 us3:List Value}{C:HP}(h:FK k f1 us1 f2 us2 f3 us3 C):Dr k:=by cases h<;>(unfold Dr;decide)
abbrev C9(bc:Nat)(f1 f2 f3:FuncId)(us1 us2 us3:List Value):HP:=HP.AA bc 0 [F9 f1 us1,F9 f2 us2,F9 f3 us3]
theorem CF{P:Program}{n:Nat}{E:A5}{H:HP}{r:Option Nat}{fn:Func}{k:Int}{bc:Nat}{f1 f2 f3:FuncId}{us1 us2 us3:List Value}{C H0:HP}(hr:fn.results=([2].map ResultVar.tmp).toArray)(hv:DW E ([2].map Operand.tmp)=some [ptr bc 0])
  (h:FK k f1 us1 f2 us2 f3 us3 C)(e:H=C9 bc f1 f2 f3 us1 us2 us3*(C*H0)):BI B (IB P B fn (fun v H'=>(¬Dr k∧v=.pointer none∧H'=H0)∨(∃bc f1 us1 f2 us2 f3 us3 C,FK k f1 us1 f2 us2 f3 us3 C∧v=ptr bc 0∧H'=C9 bc f1 f2 f3 us1 us2 us3*(C*H0)))) .ret n E ⟨[],r⟩ H:=
 eJ hr hv (.inr ⟨bc,f1,us1,f2,us2,f3,us3,C,h,rfl,e⟩)
theorem XS(k:Int)(H:HP):Fn Tryz.prog B 168 [.int .i64 k] H (fun v H'=>(¬Dr k∧v=.pointer none∧H'=H)∨(∃bc f1 us1 f2 us2 f3 us3 C,FK k f1 us1 f2 us2 f3 us3 C∧v=ptr bc 0∧H'=C9 bc f1 f2 f3 us1 us2 us3*(C*H))):=by
 refine mI Tryz.func168 ?_;refine J7 ?_;refine Am (Fj (l:=[.nilFunc,.nilFunc,.nilFunc]) rfl) rfl ?_;rintro _ _ ⟨b3,rfl,rfl⟩;refine B1 ?_;refine JL (DI (i:=k) (j:=1) rfl rfl) ?_;refine J3 ?_;refine mC (fun hc=>?_) (fun hnt5=>?_)
 ·refine J1 ?_;refine mE rfl (kP 0 _) ?_;rintro _ _ ⟨bt,rfl,rfl⟩;refine Gc ?_;refine J9 ?_
  first
  |exact mR [2] H rfl rfl LT
  |(subst hc;first|exact CF (bc:=b3) rfl rfl (.pad bt) Cm|exact CF (bc:=b3) rfl rfl (.ping bt) Cm|exact CF rfl rfl .FO Ck|exact CF rfl rfl .reset Ck|exact CF rfl rfl .data Ck|exact CF (bc:=b3) rfl rfl (.bye bt bq) Cm)
 refine J2 ?_;refine JL (DI (i:=k) (j:=2) rfl rfl) ?_;refine J3 ?_;refine mC (fun hc=>?_) (fun hnt8=>?_)
 ·refine J1 ?_;refine mE rfl (kP 1 _) ?_;rintro _ _ ⟨bt,rfl,rfl⟩;refine Gc ?_;refine J9 ?_
  first
  |exact mR [2] H rfl rfl LT
  |(subst hc;first|exact CF (bc:=b3) rfl rfl (.pad bt) Cm|exact CF (bc:=b3) rfl rfl (.ping bt) Cm|exact CF rfl rfl .FO Ck|exact CF rfl rfl .reset Ck|exact CF rfl rfl .data Ck|exact CF (bc:=b3) rfl rfl (.bye bt bq) Cm)
 refine J2 ?_;refine JL (DI (i:=k) (j:=3) rfl rfl) ?_;refine J3 ?_;refine mC (fun hc=>?_) (fun hnt11=>?_)
 ·refine Tq ?_
  first
  |exact mR [2] H rfl rfl LT
  |(subst hc;first|exact CF (bc:=b3) rfl rfl (.pad bt) Cm|exact CF (bc:=b3) rfl rfl (.ping bt) Cm|exact CF rfl rfl .FO Ck|exact CF rfl rfl .reset Ck|exact CF rfl rfl .data Ck|exact CF (bc:=b3) rfl rfl (.bye bt bq) Cm)
 refine J2 ?_;refine JL (DI (i:=k) (j:=4) rfl rfl) ?_;refine J3 ?_;refine mC (fun hc=>?_) (fun hnt14=>?_)
 ·refine Tq ?_
  first
  |exact mR [2] H rfl rfl LT
  |(subst hc;first|exact CF (bc:=b3) rfl rfl (.pad bt) Cm|exact CF (bc:=b3) rfl rfl (.ping bt) Cm|exact CF rfl rfl .FO Ck|exact CF rfl rfl .reset Ck|exact CF rfl rfl .data Ck|exact CF (bc:=b3) rfl rfl (.bye bt bq) Cm)
 refine J2 ?_;refine JL (DI (i:=k) (j:=5) rfl rfl) ?_;refine J3 ?_;refine mC (fun hc=>?_) (fun hnt17=>?_)
 ·refine Tq ?_
  first
  |exact mR [2] H rfl rfl LT
  |(subst hc;first|exact CF (bc:=b3) rfl rfl (.pad bt) Cm|exact CF (bc:=b3) rfl rfl (.ping bt) Cm|exact CF rfl rfl .FO Ck|exact CF rfl rfl .reset Ck|exact CF rfl rfl .data Ck|exact CF (bc:=b3) rfl rfl (.bye bt bq) Cm)
 refine J2 ?_;refine JL (DI (i:=k) (j:=6) rfl rfl) ?_;refine J3 ?_;refine mC (fun hc=>?_) (fun hnt20=>?_)
 ·refine J1 ?_;refine mE rfl (ef _) ?_;rintro _ _ ⟨bt,bq,rfl,rfl⟩;refine Gc ?_;refine J9 ?_
  first
  |exact mR [2] H rfl rfl LT
  |(subst hc;first|exact CF (bc:=b3) rfl rfl (.pad bt) Cm|exact CF (bc:=b3) rfl rfl (.ping bt) Cm|exact CF rfl rfl .FO Ck|exact CF rfl rfl .reset Ck|exact CF rfl rfl .data Ck|exact CF (bc:=b3) rfl rfl (.bye bt bq) Cm)
 refine J8 ?_
 first
 |exact mR [2] H rfl rfl LT
 |(subst hc;first|exact CF (bc:=b3) rfl rfl (.pad bt) Cm|exact CF (bc:=b3) rfl rfl (.ping bt) Cm|exact CF rfl rfl .FO Ck|exact CF rfl rfl .reset Ck|exact CF rfl rfl .data Ck|exact CF (bc:=b3) rfl rfl (.bye bt bq) Cm)
theorem eO(r:RF)(fb bc:Nat)(f1 f2 f3:FuncId)(us1 us2 us3:List Value)(C R:HP)(hF:FK r.f.kind f1 us1 f2 us2 f3 us3 C)(hw:LZ B r.f.kind f1 us1 f3 us3 C)(hrk:r.f.kind=r.f.kind)(hm:Hg r)(hr:Ai B R r.b r.o r.f.ranges):
  Fn Tryz.prog B 169 [ptr fb 0,ptr bc 0] (HP.AA fb 0 (AQ r)*(C*(C9 bc f1 f2 f3 us1 us2 us3*R))) (fun v H'=>v=.bool (decide (CA r.f))∧H'=HP.AA fb 0 (AQ r)*(C*(C9 bc f1 f2 f3 us1 us2 us3*R))):=by
 refine mI Tryz.func169 ?_;refine J7 ?_;refine ET (HP.AA fb 0 (AQ r)*(C*(C9 bc f1 f2 f3 us1 us2 us3*R))) 11 11 Ef rfl Cb ?_;refine Ir ?_;refine Lw ?_;refine JT 10 rfl TD ?_;refine Av 8 Cb rfl rfl Ig ?_;rintro _ _ ⟨b15,rfl,rfl⟩;refine BL ?_;refine JT 9 rfl Ft ?_;refine Dm ?_;refine Au (H':=AB b15 0 [Ec.mk r.f.offset,Ec.mk r.f.code] []*(HP.AA fb 0 (AQ r)*(C*(C9 bc f1 f2 f3 us1 us2 us3*R)))) rfl ?_;refine Bj (fun i:Nat=>[(0,ptr fb 0),(1,ptr bc 0),(15,.slice (some ⟨b15,0,none⟩) 2 2),(16,iN 2),(17,iN i)]) (fun _=>AB b15 0 [Ec.mk r.f.offset,Ec.mk r.f.code] []*(HP.AA fb 0 (AQ r)*(C*(C9 bc f1 f2 f3 us1 us2 us3*R)))) (fun i=>i≤2∧(1≤i→r.f.offset≤4611686018427387903)∧(2≤i→r.f.code≤4611686018427387903)) (fun i=>2-i) 0 ⟨Ca,Ca,Ca⟩ HZ rfl ?_;rintro i ⟨hi,ho1,ho2⟩;dsimp only at hi ho1 ho2⊢;refine J2 ?_;refine JL Tr ?_;refine J3 ?_;refine mC (fun hlt=>?_) (fun hlt=>?_)
 ·refine J6 ?_;refine JL (Wg rfl rfl hlt) ?_;refine JL (U? (xs:=[Ec.mk r.f.offset,Ec.mk r.f.code]) rfl inferInstance hlt) ?_;refine J6 ?_;refine JL Qq ?_;refine J2 ?_;refine mC (fun hbig=>?_) (fun hbig=>?_)
  ·refine B1 ?_
   first
   |exact mR [4] (HP.AA fb 0 (AQ r)*(C*(C9 bc f1 f2 f3 us1 us2 us3*R))) rfl rfl Pq
   |exact mR [4] (HP.AA fb 0 (AQ r)*(C*(C9 bc f1 f2 f3 us1 us2 us3*R))) rfl rfl QW
   |exact mR [4] (HP.AA fb 0 (AQ r)*(C*(C9 bc f1 f2 f3 us1 us2 us3*R))) rfl rfl P2
   |exact mR [4] (HP.AA fb 0 (AQ r)*(C*(C9 bc f1 f2 f3 us1 us2 us3*R))) rfl rfl ⟨congrArg b_ (decide_eq_false (fun h=>by
     have h1:=h.1
     have h2:=h.2.1
     rcases(by omega:i=0∨i=1)with rfl|rfl
     ·simp at hbig;omega
     ·simp at hbig;omega)).symm,rfl⟩
  refine Ic ?_;refine Ba (i+1) ⟨Ca,fun h=>?_,fun h=>?_⟩ Ca HZ rfl
  ·rcases(by omega:i=0∨1≤i)with rfl|h1
   ·simpa using hbig
   ·exact ho1 h1
  ·obtain rfl:i=1:=by omega
   simpa using hbig
 have hof:=ho1 Ca;have hcd:=ho2 Ca;refine J6 ?_;refine Hy (HP.AA fb 0 (AQ r)*(C*(C9 bc f1 f2 f3 us1 us2 us3*R))) ?_;refine J4 ?_;refine D9 ?_;refine JL (Pr (i:=r.f.stream) (j:=0) rfl rfl) ?_;refine J1 ?_;refine EV 29 rfl (fun hg1=>?_) (fun hg1=>?_)
 ·refine T8 ?_;refine J1 ?_;refine JG T1 ?_;refine D9 ?_;refine JG T1 ?_;refine JL (L9 (i:=r.f.stream) (j:=4) rfl rfl) ?_;refine JL GM ?_;refine J1 ?_;refine EV 36 rfl (fun hg2=>?_) (fun hg2=>?_)
  ·refine NN ?_;refine J1 ?_;refine NN ?_;refine D9 ?_;refine NN ?_;refine Am (IJ (hf:=hw.call3) rfl rfl (hw.sound r fb _ hm hrk hof inferInstance)) rfl ?_;refine JR ?_;refine JL IY ?_;refine J4 ?_
   first
   |exact mR [4] (HP.AA fb 0 (AQ r)*(C*(C9 bc f1 f2 f3 us1 us2 us3*R))) rfl rfl Pq
   |exact mR [4] (HP.AA fb 0 (AQ r)*(C*(C9 bc f1 f2 f3 us1 us2 us3*R))) rfl rfl QW
   |exact mR [4] (HP.AA fb 0 (AQ r)*(C*(C9 bc f1 f2 f3 us1 us2 us3*R))) rfl rfl P2
   |exact mR [4] (HP.AA fb 0 (AQ r)*(C*(C9 bc f1 f2 f3 us1 us2 us3*R))) rfl rfl ⟨congrArg b_ (decide_eq_false (fun h=>by
     have h1:=h.1
     have h2:=h.2.1
     rcases(by omega:i=0∨i=1)with rfl|rfl
     ·simp at hbig;omega
     ·simp at hbig;omega)).symm,rfl⟩
  refine TF ?_;refine TF ?_;refine JL Hr ?_;refine J4 ?_
  first
  |exact mR [4] (HP.AA fb 0 (AQ r)*(C*(C9 bc f1 f2 f3 us1 us2 us3*R))) rfl rfl Pq
  |exact mR [4] (HP.AA fb 0 (AQ r)*(C*(C9 bc f1 f2 f3 us1 us2 us3*R))) rfl rfl QW
  |exact mR [4] (HP.AA fb 0 (AQ r)*(C*(C9 bc f1 f2 f3 us1 us2 us3*R))) rfl rfl P2
  |exact mR [4] (HP.AA fb 0 (AQ r)*(C*(C9 bc f1 f2 f3 us1 us2 us3*R))) rfl rfl ⟨congrArg b_ (decide_eq_false (fun h=>by
    have h1:=h.1
    have h2:=h.2.1
    rcases(by omega:i=0∨i=1)with rfl|rfl
    ·simp at hbig;omega
    ·simp at hbig;omega)).symm,rfl⟩
 refine WZ ?_;refine JH F1 ?_;refine JH F1 ?_;refine JL E9 ?_;refine J1 ?_;refine Kx ?_;refine Kx ?_;refine JL EB ?_;refine J4 ?_
 first
 |exact mR [4] (HP.AA fb 0 (AQ r)*(C*(C9 bc f1 f2 f3 us1 us2 us3*R))) rfl rfl Pq
 |exact mR [4] (HP.AA fb 0 (AQ r)*(C*(C9 bc f1 f2 f3 us1 us2 us3*R))) rfl rfl QW
 |exact mR [4] (HP.AA fb 0 (AQ r)*(C*(C9 bc f1 f2 f3 us1 us2 us3*R))) rfl rfl P2
 |exact mR [4] (HP.AA fb 0 (AQ r)*(C*(C9 bc f1 f2 f3 us1 us2 us3*R))) rfl rfl ⟨congrArg b_ (decide_eq_false (fun h=>by
   have h1:=h.1
   have h2:=h.2.1
   rcases(by omega:i=0∨i=1)with rfl|rfl
   ·simp at hbig;omega
   ·simp at hbig;omega)).symm,rfl⟩
end
section
variable{B:World}
theorem UC(k:Int)(hk:Dr k)(H:HP):Fn Tryz.prog B 168 [.int .i64 k] H (fun v H'=>∃bc f1 us1 f2 us2 f3 us3 C,FK k f1 us1 f2 us2 f3 us3 C∧v=ptr bc 0∧H'=C9 bc f1 f2 f3 us1 us2 us3*(C*H)):=
 (XS k H).mono fun _ _ h=>h.resolve_left fun h=>h.1 hk
theorem j5(k:Int)(hk:¬Dr k)(H:HP):Fn Tryz.prog B 168 [.int .i64 k] H (fun v H'=>v=.pointer none∧H'=H):=
 (XS k H).mono fun _ _ h=>(h.resolve_right fun⟨_,_,_,_,_,_,_,_,h,_⟩=>hk h.kind).2
theorem yM(f:AM):Ak f≠ []:=by
 unfold Ak
 repeat' split
 all_goals first|exact fun h=>by cases h|(unfold Ku;simp)|simp
section
variable{P:Program}{n:Nat}{E:A5}{D:B6}{H:HP}{d:Option Tmp}{T T' ty:TypeId}{pos:String}{af:Array Edge}{g:Option (Nat×Bool)}{x y z:Operand}
theorem zY{p:Option Addr}{k c:Nat}(hx:ev E x=some (.slice p k c))(hy:ev E y=some (.slice none 0 0)):
  Af Tryz.prog B n ⟨d,.binOp .eql 121 x y 121,ty,pos,af,g⟩ E H (.bool p.isNone):=by
 cases p with
 |none=>exact KR hx hy (fun w=>by kernel_rfl) (fun w=>by kernel_rfl)
 |some a=>exact KR hx hy (fun w=>by kernel_rfl) (fun w=>by kernel_rfl)
end
theorem C? (r:RF)(p:Option Addr)(b o c:Nat)(xs:List UInt8)(s:List Value)(R:HP)(hm:Hg r)(hr:Ai B R r.b r.o r.f.ranges)(hs:Sl p b o xs.length c)(hc:xs.length*1+s.length=c*1)(hx:xs.length<100000000000)(hk:¬Dr r.f.kind):
  Fn Tryz.prog B 138 [.slice p xs.length c,.agg (AQ r).toArray] (AB b o xs s*R) (fun v H'=>v=.slice none 0 0∧H'=AB b o xs s*R):=by
 refine mI Tryz.func138 ?_;refine Lx ?_;rintro _ _ ⟨b3,rfl,rfl⟩;refine J6 ?_;refine D9 ?_;refine mE rfl (j5 r.f.kind hk _) ?_;refine JR ?_;refine J7 ?_;refine JL OW ?_;refine J1 ?_;refine DU 11 rfl (fun hg1=>?_) (fun hg1=>?_)
 ·refine IE ?_;refine Ks ?_;refine Gw ?_;refine J7 ?_;exact mR [4] (AB b o xs s*R) rfl rfl BY
 cases hg1
theorem ew(r:RF)(p:Option Addr)(b o c:Nat)(xs:List UInt8)(s:List Value)(R:HP)(hm:Hg r)(hr:Ai B R r.b r.o r.f.ranges)(hs:Sl p b o xs.length c)(hc:xs.length*1+s.length=c*1)(hx:xs.length<100000000000)(hk:Dr r.f.kind):
  Fn Tryz.prog B 138 [.slice p xs.length c,.agg (AQ r).toArray] (AB b o xs s*R) (fun v H'=>(CA r.f∧CB R (xs++Ak r.f) v H')∨(¬CA r.f∧v=.slice none 0 0∧H'=AB b o xs s*R)):=by
 refine mI Tryz.func138 ?_;refine Lx ?_;rintro _ _ ⟨b3,rfl,rfl⟩;refine J6 ?_;refine D9 ?_;refine mE rfl (UC r.f.kind hk _) ?_;rintro _ _ ⟨bc,f1,us1,f2,us2,f3,us3,C,hF,rfl,rfl⟩;have hw:=hF.U7 (B:=B);have hq1:=hw.ZG;refine J7 ?_;refine KA ?_;refine J1 ?_;refine DU 11 rfl (fun hg1=>?_) (fun hg1=>?_)
 ·cases hg1
 refine Xb ?_;refine mC (fun hcc=>?_) (fun hcc=>?_)
 ·refine J7 ?_
  first
  |exact mR [4] (AB b o xs s*R) rfl rfl (.inr ⟨hcc,rfl,rfl⟩)
  |exact mR [4] (AB b21 o21 (xs++Ak r.f) s21*R) rfl rfl Xg
 have hok:CA r.f:=Classical.not_not.1 hcc;refine J7 ?_;refine Kw ?_;refine dO ?_;refine Am (IJ rfl rfl (hw.write r b3 p b o c xs s _ hm rfl hok inferInstance hs hc hx)) rfl ?_;rintro _ _ ⟨p21,b21,o21,c21,s21,rfl,hs21,hc21,rfl⟩;refine J4 ?_
 first
 |exact mR [4] (AB b o xs s*R) rfl rfl (.inr ⟨hcc,rfl,rfl⟩)
 |exact mR [4] (AB b21 o21 (xs++Ak r.f) s21*R) rfl rfl Xg
theorem oA(r:RF)(p:Option Addr)(b o c:Nat)(xs:List UInt8)(s:List Value)(R:HP)(hm:Hg r)(hr:Ai B R r.b r.o r.f.ranges)(hs:Sl p b o xs.length c)(hc:xs.length*1+s.length=c*1)(hx:xs.length<100000000000):
  Fn Tryz.prog B 138 [.slice p xs.length c,.agg (AQ r).toArray] (AB b o xs s*R) (fun v H'=>(CA r.f∧CB R (xs++Ak r.f) v H')∨(¬CA r.f∧v=.slice none 0 0∧H'=AB b o xs s*R)):=by
 by_cases hk:Dr r.f.kind
 ·exact ew r p b o c xs s R hm hr hs hc hx hk
 ·exact(C? r p b o c xs s R hm hr hs hc hx hk).mono fun v H' h=>.inr ⟨fun ho=>hk ho.2.2.2.2.2,h⟩
theorem fh(r:RF)(p:Option Addr)(b o c:Nat)(xs:List UInt8)(s:List Value)(R:HP)(hm:Hg r)(hr:Ai B R r.b r.o r.f.ranges)(hs:Sl p b o xs.length c)(hc:xs.length*1+s.length=c*1)(hx:xs.length<100000000000):
  Fn Tryz.prog B 138 [.slice p xs.length c,.agg (AQ r).toArray] (AB b o xs s*R) (fun v H'=>∃p' b' o' c' s' ys,v=.slice p' ys.length c'∧Sl p' b' o' ys.length c'∧ys.length*1+s'.length=c'*1∧H'=AB b' o' ys s'*R∧
   ((CA r.f∧ys=xs++Ak r.f∧p'.isNone=false)∨(¬CA r.f∧p'.isNone=true))):=by
 refine(oA r p b o c xs s R hm hr hs hc hx).drop ?_;rintro v H' (⟨hok,p',b',o',c',s',rfl,h1,h2,rfl⟩|⟨hok,rfl,rfl⟩)
 ·refine⟨_,⟨p',b',o',c',s',_,rfl,h1,h2,rfl,.inl ⟨hok,rfl,?_⟩⟩,fun _ h=>h⟩
  have hne:0<(xs++Ak r.f).length:=by have:=kf.2 (yM r.f);simp only [c_];omega
  rw [h1.1.resolve_left (by have:=h1.2;omega)];rfl
 ·exact⟨R,⟨none,0,0,0,[],[],rfl,Gi,rfl,M2,.inr ⟨hok,rfl⟩⟩,fun _ h=>h.right⟩
theorem yB(fs:List AM)(i:Nat)(h:i<fs.length):Ar (fs.take i)++Ak (fs[i])=Ar (fs.take (i+1)):=by
 unfold Ar;rw [List.take_succ_eq_append_getElem h,kg]
 simp
theorem gx(fs:List AM)(i:Nat):(Ar (fs.take i)).length≤(Ar fs).length:=by
 have h:Ar fs=Ar (fs.take i)++Ar (fs.drop i):=by unfold Ar;rw [←kg,List.take_append_drop]
 rw [h,c_];omega
theorem WV{α:Type}(xs:List α)(i:Nat)(d:α)(h:i<xs.length):xs.getD i d=xs[i]:=by simp [List.getD,h]
theorem oM(fs:List AM)(p:Option Addr)(c b o:Nat)(rs:List RF)(H:HP)(hfs:IF B H p c fs b o rs)(hmd:∀r∈rs,Hg r)(hn:fs.length<100000000000)(hel:(Ar fs).length<100000000000):
  Fn Tryz.prog B 164 [.slice p fs.length c] H (fun v H'=>match Fu fs with
   |none=>v=.tuple #[.slice none 0 0,.iface 41 (.int .i64 5)]∧H'=H
   |some ys=>∃sv,v=.tuple #[sv,.nilIface]∧CB H ys sv H'):=by
 refine mI Tryz.func164 ?_;have hrl:=hfs.len;refine B1 ?_;refine KZ ?_;refine mC (fun h0=>?_) (fun h0=>?_)
 ·refine J2 ?_;refine JL Hn ?_;refine J6 ?_
  exact mR [2,3] H rfl rfl (by
    rw [Fu,if_neg (fun h=>h.1 (h_.1 h0))];exact BY)
 refine DV ?_;refine HQ ?_
 refine Bj (α:=Nat×Option Addr×Nat×Nat×Nat×List Value) (fun z=>[(4,.slice z.2.1 (Ar (fs.take z.1)).length z.2.2.2.2.1),(11,.slice p fs.length c),(12,iN fs.length),(13,iN z.1)]) (fun z=>AB z.2.2.1 z.2.2.2.1 (Ar (fs.take z.1)) z.2.2.2.2.2*H) (fun z=>z.1≤fs.length∧(∀j,j<z.1→CA (rs.getD j AC.AK).f)∧Sl z.2.1 z.2.2.1 z.2.2.2.1 (Ar (fs.take z.1)).length z.2.2.2.2.1∧(Ar (fs.take z.1)).length*1+z.2.2.2.2.2.length=z.2.2.2.2.1*1) (fun z=>fs.length-z.1) (0,none,0,0,0,[]) ⟨g' _,fun j hj=>absurd hj Ly,Gi,rfl⟩ DN (by show H=AB 0 0 ([]:List UInt8) []*H;rw [G7,HP.BR]) ?_
 rintro⟨i,q,qb,qo,qc,qs⟩ ⟨hi,hall,hqs,hqc⟩;dsimp only at hi hall hqs hqc⊢;have hql:=gx fs i;refine J6 ?_;refine mC (fun hlt=>?_) (fun hlt=>?_)
 ·skip
  have hmem:rs.getD i AC.AK∈rs:=by rw [WV _ _ _ Ca];exact ki _
  have hri:(rs.getD i AC.AK).f=fs[i]:=by
   have:=hfs.map;subst this
   rw [WV _ _ _ Ca,List.getElem_map]
  have hrr:=hfs.Wb _ hmem;refine J6 ?_;refine JL (DT (b:=b) (o:=o) rfl rfl hfs.sl hlt) ?_;refine JL (It (i:=i) (o:=o) (xs:=rs) rfl (let _:=hfs.rd;inferInstance) Ca) ?_;refine Am eH rfl ?_;rintro _ _ ⟨b6,rfl,rfl⟩;refine Bv (EO (cs:=AQ (rs.getD i AC.AK)) rfl rfl Ch (AC.one (rs.getD i AC.AK))) ?_;refine Hp ?_;refine BQ (H':=AB qb qo (Ar (fs.take i)) qs*(HP.AA b6 0 (AQ (rs.getD i AC.AK))*H)) (HP.CV _ _ _) ?_;refine mE rfl (fh (rs.getD i AC.AK) q qb qo qc (Ar (fs.take i)) qs _ (hmd _ hmem) inferInstance hqs hqc Ca) ?_;rintro _ _ ⟨p',b',o',c',s',ys,rfl,hs',hc',rfl,hcase⟩;refine J6 ?_;refine JL (zY rfl rfl) ?_;refine J2 ?_;refine mc (fun hpn=>?_) (fun hpn=>?_)
  ·skip
   have hbad:¬CA (rs.getD i AC.AK).f:=by
    rcases hcase with h|h
    ·rw [h.2.2]at hpn;cases hpn
    ·exact h.1
   refine J2 ?_;refine JL Hn ?_;refine CL ?_
   exact mR [2,3] H rfl rfl (by
     rw [Fu,if_neg (fun h=>hbad (by rw [hri];exact h.2 _ (ki _)))];exact BY)
  obtain⟨hok,rfl,_⟩:CA (rs.getD i AC.AK).f∧ys=Ar (fs.take i)++Ak (rs.getD i AC.AK).f∧p'.isNone=false:=by
   rcases hcase with h|h
   ·exact h
   ·rw [h.2]at hpn;cases hpn
  rw [hri,yB fs i hlt]at hs' hc'⊢;refine J4 ?_;refine JL NY ?_;refine J2 ?_;refine Bo (AB b' o' (Ar (fs.take (i+1))) s'*H) (Ba (i+1,p',b',o',c',s') ⟨Ca,fun j hj=>?_,hs',hc'⟩ kX DN rfl);rcases a_.1 hj with h|rfl
  ·exact hall j h
  ·exact hok
 refine Fe ?_
 exact mR [2,3] (AB qb qo (Ar (fs.take i)) qs*H) rfl rfl (by
   obtain rfl:i=fs.length:=by omega
   rw [List.take_length]at hqs hqc⊢
   have hgood:fs≠ []∧∀f∈fs,CA f:=⟨fun h=>h0 P7,fun f hf=>by
    have hm2:=hfs.map
    subst hm2
    obtain⟨r,hr,rfl⟩:=List.mem_map.1 hf
    obtain⟨j,hj,rfl⟩:=List.getElem_of_mem hr
    have:=hall j Ca
    rwa [WV _ _ _ hj]at this⟩
   rw [Fu,if_pos hgood]
   exact⟨_,rfl,q,qb,qo,qc,qs,rfl,hqs,hqc,rfl⟩)
end
section
variable{B:World}
abbrev CK(rb:Nat)(p:Option Addr)(c:Nat)(xs:List UInt8)(a:Nat):HP:=HP.AA rb 0 [.slice p xs.length c,iN a]
abbrev G5:List PanicEntry:=pn (.iface 320 (.agg #[]))
theorem Pw{p:Option Addr}{b o k c a n:Nat}(hs:Sl p b o k c)(h:a+n≤k):Sl (sp p c a 1) b (o+a*1) n (c-a):=by
 have:=Ln (sz:=1) hs (l:=a) (h:=a+n) Ca Cj
 rwa [Nat.add_sub_cancel_left]at this
theorem cO(x:Nat):x&&&63=x%64:=Nat.and_two_pow_sub_one_eq_mod x 6
theorem p8(n x:Nat)(hn:n<72057594037927936)(hx:x<256):(n*2^8%18446744073709551616)|||x=n*256+x:=by
 have h:n*2^8%18446744073709551616=2^8*n:=by omega
 rw [h,←Nat.two_pow_add_eq_or_of_lt (by omega:x<2^8)];omega
theorem nT(xs:List UInt8)(a:Nat):1*2^((xs.getD a 0).toNat/2^6)%18446744073709551616=DJ xs a:=by
 have h:=Uy xs a
 have e:1*2^((xs.getD a 0).toNat/2^6)=DJ xs a:=by rw [Nat.one_mul];rfl
 rw [e];omega
section
variable{P:Program}{n:Nat}{E:A5}{D:B6}{H:HP}{d:Option Tmp}{T T' ty:TypeId}{pos:String}{af:Array Edge}{g:Option (Nat×Bool)}{x y z:Operand}
theorem Vb{b o i:Nat}{xs:List UInt8}[hT:CP P T](hx:ev E x=some (.pointer (some ⟨b,o+i*1,none⟩)))(hr:Ai B H b o xs)(hi:i<xs.length):
  Af P B n ⟨d,.load T x,ty,pos,af,g⟩ E H (u8 (xs.getD i 0)):=FQ (f:=0) hx hr rfl hi
end
theorem X7(rb:Nat)(H:HP):Fb Tryz.prog B 176 [ptr rb 0] H (fun _ _=>False) (fun c H'=>c=G5∧H'=H):=by
 refine H9 Tryz.func176 rfl rfl rfl ?_;refine J1 ?_;refine JL (FV (cs:=[]) rfl rfl rfl Ce) ?_;refine JL Hn ?_;refine V_ (wS (Post:=fun _ _=>False) rfl) ?_ ?_;rotate_left
 ·refine JR ?_;exact Mj BY
 exact JV
theorem RL(n:Nat)(hn:n<9223372036854775808)(rb:Nat)(p:Option Addr)(b o c:Nat)(xs:List UInt8)(a:Nat)(R:HP)(hs:Sl p b o xs.length c)(hr:Ai B R b o xs)(hx:xs.length<100000000000)(ha:a≤xs.length):
  Fb Tryz.prog B 177 [ptr rb 0,uN n] (CK rb p c xs a*R) (fun v H'=>n≤xs.length-a∧v=.slice (sp p c a 1) n (c-a)∧H'=CK rb p c xs (a+n)*R) (fun ch H'=>xs.length-a<n∧ch=G5∧H'=R):=by
 refine H9 Tryz.func177 rfl rfl rfl ?_;refine J7 ?_;refine mA 13 13 ?_;refine Me ?_;refine JT 5 rfl Ft ?_;refine Jm 6 ?_;refine Jn 7 ?_;refine Jf 8 ?_;refine Jd 9 ?_;refine JT 10 rfl MU ?_;refine JT 11 rfl Fy ?_;refine JT 12 rfl IG ?_;refine FG ?_;refine mC (fun hbad=>?_) (fun hok=>?_)
 ·refine J2 ?_;refine Dw No rfl ?_ ?_;rotate_left
  ·refine JR ?_;refine FX ?_;exact GL R ⟨Ca,rfl,rfl⟩
  exact JV
 refine J7 ?_;refine Kw ?_;refine JL ML ?_;refine J7 ?_;refine mA 17 17 ?_;refine Ir ?_;refine Lw ?_;refine Jm 8 ?_;refine JT 9 rfl ML ?_;refine JT 10 rfl MU ?_;refine QN ?_;refine JT 15 rfl (Qe (l:=a+n-n) (h:=a+n) (k':=n) rfl rfl rfl Cj Ca) ?_;refine Ja 16 ?_;refine Dm ?_;refine SC (ts:=[4]) rfl rfl ⟨Ca,?_,rfl⟩;rw [kh];rfl
theorem Mo(rb:Nat)(p:Option Addr)(b o c:Nat)(xs:List UInt8)(a:Nat)(R:HP)(hs:Sl p b o xs.length c)(hr:Ai B R b o xs)(hx:xs.length<100000000000)(ha:a≤xs.length):
  Fb Tryz.prog B 197 [ptr rb 0] (CK rb p c xs a*R) (fun v H'=>∃n a',DP xs a=some (n,a')∧v=uN n∧H'=CK rb p c xs a'*R) (fun ch H'=>DP xs a=none∧ch=G5∧H'=R):=by
 refine H9 Tryz.func197 rfl rfl rfl ?_;have hz:=nT xs a;have hzc:=Uy xs a;have hb:=(xs.getD a 0).toNat_lt;refine J2 ?_;refine HE ?_;refine J5 ?_;refine Dw (G1 rfl (RL 1 Ca rb p b o c xs a R hs hr hx ha)) rfl ?_ ?_;rotate_left
 ·rintro _ _ ⟨h1,rfl,rfl⟩;refine FX ?_;exact Mj ⟨hZ,rfl,rfl⟩
 rintro _ _ ⟨h1,rfl,rfl⟩;refine JL (Hf (i:=0) (b:=b) (o:=o+a*1) (q:=o+a*1) rfl rfl (Pw hs Ca) Ca Ca) ?_;refine JL (Vb (i:=a) (xs:=xs) rfl inferInstance Ca) ?_;refine J6 ?_;refine JL (rS (j:=63) rfl rfl ⟨Ca,Ca⟩) ?_;refine JL (KP rfl (Mv (by rw [cO];omega))) ?_;refine J8 ?_;refine JL (vG (j:=6) rfl rfl Ca) ?_;refine JL (RK (i:=1) rfl rfl Ca) ?_;refine JL (K3 (j:=1) rfl rfl (by rw [hz];omega)) ?_;refine Dw (G1 (vs:=[ptr rb 0,uN (DJ xs a-1)]) (by rw [←hz];rfl) (RL (DJ xs a-1) Ca rb p b o c xs (a+1) R hs hr hx Ca)) rfl ?_ ?_;rotate_left
 ·rintro _ _ ⟨h2,rfl,rfl⟩;refine FX ?_;refine FX ?_;exact Mj ⟨hZ,rfl,rfl⟩
 rintro _ _ ⟨h2,rfl,rfl⟩;refine Kg ?_;refine Bj (fun i:Nat=>[(4,uN (Ib xs a i)),(19,.slice (sp p c (a+1) 1) (DJ xs a-1) (c-(a+1))),(20,iN (DJ xs a-1)),(21,iN i)]) (fun _=>CK rb p c xs (a+1+(DJ xs a-1))*R) (fun i=>i≤DJ xs a-1) (fun i=>DJ xs a-1-i) 0 EX (.cons (congrArg (fun z=>some (uN z)) (cO _)) Ea) rfl ?_;rintro i hi;dsimp only at hi⊢;have hnl:=Wn xs a i
 have hnl2:Ib xs a i<72057594037927936∨DJ xs a-1≤i:=by
  rcases(by omega:DJ xs a-1≤i∨i=0∨i=1∨i=2∨i=3∨i=4∨i=5∨i=6)with h|rfl|rfl|rfl|rfl|rfl|rfl|rfl
  ·exact .inr h
  all_goals (left;simp only [Nat.reducePow,Nat.reduceMul]at hnl;omega)
 have hb2:=Tj xs (a+i+1);refine J6 ?_;refine mC (fun hlt=>?_) (fun hlt=>?_)
 ·refine J6 ?_;refine JL (Hf (b:=b) (o:=o+(a+1)*1) (q:=o+(a+i+1)*1) rfl rfl (Pw hs Ca) hlt Ca) ?_;refine JL (Vb (i:=a+i+1) (xs:=xs) rfl inferInstance Ca) ?_;refine J5 ?_;refine JL (RK (j:=8) rfl rfl Ca) ?_;refine J1 ?_;refine JL (KP rfl (Mv YP)) ?_;refine JL (Yt rfl rfl ⟨Ca,YP⟩) ?_;refine J5 ?_;refine D7 ?_;exact Ba (i+1) (by show i+1≤_;omega) (by show DJ xs a-1-(i+1)<DJ xs a-1-i;omega) (.cons (congrArg (fun z=>some (uN z)) (p8 _ _ Ca hb2)) Ea) rfl
 obtain rfl:i=DJ xs a-1:=by omega
 refine DV ?_;refine SC (ts:=[2]) rfl rfl ⟨_,_,by unfold DP;rw [if_pos Ca],rfl,?_⟩;rw [show a+1+(DJ xs a-1)=a+DJ xs a by omega]
theorem yG(rb:Nat)(p:Option Addr)(b o c:Nat)(xs:List UInt8)(a:Nat)(R:HP)(hs:Sl p b o xs.length c)(hr:Ai B R b o xs)(hx:xs.length<100000000000)(ha:a≤xs.length):
  Fb Tryz.prog B 196 [ptr rb 0] (CK rb p c xs a*R) (fun v H'=>∃n a',IC xs a=some (n,a')∧v=iN n∧H'=CK rb p c xs a'*R) (fun ch H'=>IC xs a=none∧ch=G5∧H'=R):=by
 refine H9 Tryz.func196 rfl rfl rfl ?_;refine Hb ?_;refine J5 ?_;refine Dw QH rfl ?_ ?_;rotate_left
 ·rintro _ _ ⟨e5,rfl,rfl⟩;refine FX ?_;exact Mj ⟨by unfold IC;rw [e5],rfl,rfl⟩
 rintro _ _ ⟨n5,a5,e5,rfl,rfl⟩;have g5:=EK e5;refine J7 ?_;refine JL (Vn (j:=4) rfl rfl) ?_;refine J2 ?_;refine mC (fun hbig=>?_) (fun hbig=>?_)
 ·refine J2 ?_;refine Dw No rfl ?_ ?_;rotate_left
  ·refine JR ?_;refine FX ?_;exact GL R ⟨by unfold IC;rw [e5];exact if_neg Ca,rfl,rfl⟩
  exact JV
 refine J5 ?_;refine JL ML ?_;refine J4 ?_;exact SC (ts:=[2]) rfl rfl ⟨n5,a5,by unfold IC;rw [e5];exact if_pos Ca,rfl,rfl⟩
theorem L! (rb:Nat)(p:Option Addr)(b o c:Nat)(xs:List UInt8)(a:Nat)(R:HP)(hs:Sl p b o xs.length c)(hr:Ai B R b o xs)(hx:xs.length<100000000000)(ha:a≤xs.length):
  Fb Tryz.prog B 202 [ptr rb 0] (CK rb p c xs a*R) (fun v H'=>∃d a',Iz xs a=some (d,a')∧v=.string (AW d)∧H'=CK rb p c xs a'*R) (fun ch H'=>Iz xs a=none∧ch=G5∧H'=R):=by
 refine H9 Tryz.func202 rfl rfl rfl ?_;refine J9 ?_;refine Dw QH rfl ?_ ?_;rotate_left
 ·rintro _ _ ⟨e5,rfl,rfl⟩;refine FX ?_;exact Mj ⟨by unfold Iz;rw [e5],rfl,rfl⟩
 rintro _ _ ⟨n5,a5,e5,rfl,rfl⟩;have g5:=EK e5;refine Dw (G1 rfl (RL n5 Ca rb p b o c xs a5 R hs hr hx Ca)) rfl ?_ ?_;rotate_left
 ·rintro _ _ ⟨h6,rfl,rfl⟩;refine FX ?_;exact Mj ⟨by unfold Iz;rw [e5];exact if_neg Ca,rfl,rfl⟩
 rintro _ _ ⟨h6,rfl,rfl⟩
 have hl6:((xs.drop a5).take n5).length=n5:=by simp;omega
 refine JL (My (xs:=(xs.drop a5).take n5) (b:=b) (o:=o+a5*1) (by rw [hl6];rfl) (by rw [hl6];exact Pw hs Ca) inferInstance) ?_;refine J4 ?_;exact SC (ts:=[2]) rfl rfl ⟨_,_,by unfold Iz;rw [e5];exact if_pos Ca,rfl,rfl⟩
end
section
section
variable{P:Program}{B:World}{n:Nat}{E:A5}{D:B6}{H R:HP}{d:Option Tmp}{T T' ty:TypeId}{pos:String}{af:Array Edge}{g:Option (Nat×Bool)}{x y z:Operand}
 {ops:Array Oper} {Q:Exit→Act→World→Prop} {rest:List Oper} {op:Op}
theorem gp{ds:List Deferred}{t:Operand}{f:FuncId}{us:List Value}{ats:Array TypeId}(ht:ev E t=some (.func (.func f) #[] us.toArray))
  (next:WL P B ops Q rest n E ⟨{target:=.fn (.func f) us.toArray,args:= #[]}::ds,none⟩ H):WL P B ops Q (⟨none,.defer ⟨.value t,#[],ats⟩,ty,pos,af,none⟩::rest) n E ⟨ds,none⟩ H:=by
 intro a w h1 h2 h3;unfold wpListIn;rw [if_pos Sh];refine⟨fun _ _=>trivial,?_⟩
 have hrun:(execOp a.eval ⟨none,.defer ⟨.value t,#[],ats⟩,ty,pos,af,none⟩).run P w=.ok (.defer {target:=.fn (.func f) us.toArray,args:= #[]}) w:=by
  simp [execOp,resolve,h1.ev ht,Deferred.ofValue]
 have hs:(Oper.semAt (fr none).round a.eval (⟨none,.defer ⟨.value t,#[],ats⟩,ty,pos,af,none⟩:Oper)).run P w=.ok (.defer {target:=.fn (.func f) us.toArray,args:= #[]}) w:=by
  rw [show(fr none).round=none from rfl,Oper.semAt_none];exact hrun
 rw [hs];show wpListIn (fr none) 0 P ops Q rest _ w;exact next _ w h1 (by simp [Act.put,h2]) h3
def PC(P:Program)(B:World)(fn:Func)(Post:Value→HP→Prop):Exit→Act→World→Prop:=
 bodyPostDIn (fr none) 0 P fn fun e w'=>∃v H',e=.returned v∧Post v H'∧Sat B H' w'
theorem Z_{c:Code}{f:FuncId}{fn:Func}{args:List Value}{Post:Value→HP→Prop}(hf:P.funcs[f]?=some fn)(hb:fn.body=some c)(hn:fn.ntmps=n)
  (ha:kn args.length n=true)(h:WP P B c (PC P B fn Post) n (I0 0 args) ⟨[],none⟩ H):Fn P B f args H Post:=by
 intro w hw;refine(callsIn_wide (n:=0)).1 (callsIn_of_wp_defers (F:=fr none) (n:=0) hf hb trivial (h _ w ⟨?_,?_⟩ rfl hw))
 ·have:args.length≤n:=by simpa using ha
  simp [hn];omega
 ·intro t v e;obtain⟨_,h2⟩:=MH args 0 t v e;simp only [km]at h2;have hlt:t<args.length:=(g_.1 h2).1;simp only [];rw [Array.getElem?_append_left (by simpa using hlt)];simpa using h2
def NO(P:Program)(B:World)(f:FuncId)(args:List Value)(u u':FrameMode)(H:HP)(Post:HP→Prop):Prop:=
 ∀w,Sat B H w→CallsDIn (fr none) 0 P f args.toArray u w fun e u2 w'=>∃v H',e=.returned v∧u2=u'∧Post H'∧Sat B H' w'
theorem Y1{fn:Func}{f:FuncId}{us:List Value}{u u':FrameMode}{rs:List ResultVar}{Post:Value→HP→Prop}{PD:HP→Prop}[hok:Ah P f](hu:u≠ .run)
  (hd:NO P B f us u u' H PD)(hset:settle u'=.returning)(hr:fn.results=rs.toArray)(hv:∀H',PD H'→∃vs H'',Jo P B n E H' rs vs∧Post (FU vs) H''∧Bz B H' H''):
  ∀a w,DA n E a→Sat B H w→LeavesIn (fr none) 0 P fn a.tmps (fun e w'=>∃v H',e=.returned v∧Post v H'∧Sat B H' w') [{target:=.fn (.func f) us.toArray,args:= #[]}] u w:=by
 intro a w h1 h3;refine leavesIn_cons (f:=f) (args:=us.toArray) hu (by simp [fr,Fence.wide]) ?_ (fun _ _=>trivial) ?_
 ·have:=hok.get us.toArray w
  simpa [invoke]using this
 ·refine CallsDIn.mono (F:=fr none) (n:=0) (hd w h3) ?_;rintro e u2 w' ⟨v,H',rfl,rfl,hp,hs⟩;obtain⟨vs,H'',hv1,hv2,hv3⟩:=hv H' hp;show LeavesIn _ _ _ _ _ _ [] (settle u2) w';rw [hset];exact⟨_,jT hr h1 hv1 hs,_,_,rfl,hv2,hv3.get w' hs⟩
theorem y6{fn:Func}{f:FuncId}{us:List Value}{u':FrameMode}{rs:List ResultVar}{Post:Value→HP→Prop}{PD:HP→Prop}[hok:Ah P f]
  (hd:NO P B f us .returning u' H PD)(hset:settle u'=.returning)(hr:fn.results=rs.toArray)(hv:∀H',PD H'→∃vs H'',Jo P B n E H' rs vs∧Post (FU vs) H''∧Bz B H' H''):
  BI B (PC P B fn Post) .ret n E ⟨[{target:=.fn (.func f) us.toArray,args:= #[]}],none⟩ H:=by
 intro a w h1 h2 h3;show LeavesIn _ _ _ _ _ _ _ _ _;rw [h2];exact Y1 Ce hd hset hr hv a w h1 h3
theorem nY{c:List PanicEntry}{fn:Func}{f:FuncId}{us:List Value}{u':FrameMode}{rs:List ResultVar}{Post:Value→HP→Prop}{PD:HP→Prop}[hok:Ah P f]
  (hd:NO P B f us (.panicking c) u' H PD)(hset:settle u'=.returning)(hr:fn.results=rs.toArray)(hv:∀H',PD H'→∃vs H'',Jo P B n E H' rs vs∧Post (FU vs) H''∧Bz B H' H''):
  BI B (PC P B fn Post) (.panic c) n E ⟨[{target:=.fn (.func f) us.toArray,args:= #[]}],none⟩ H:=by
 intro a w h1 h2 h3;show LeavesIn _ _ _ _ _ _ _ _ _;rw [h2];exact Y1 Ce hd hset hr hv a w h1 h3
theorem wQ{e:Operand→Value}{ats:Array TypeId}(w:World):(execOp e ⟨d,.call ⟨.builtin .recover,#[],ats⟩,ty,pos,af,g⟩).run P w=.ok .recover w:=by
 simp [execOp,resolve,invoke,builtin]
theorem qL{id t t2:Nat}{pos2:String}{af2:Array Edge}{ats:Array TypeId}{QS:Exit→Act→List Frame→World→Prop}{a:Act}{cs cs':List Frame}{w:World}{v:Value}
  (hrec:recoverD cs=some (v,cs')∨(recoverD cs=none∧v=.nilIface∧cs'=cs))(ht:t<a.tmps.size)
  (h:QS .normal ((a.put (some t) v).put (some t2) v) cs' w):
  (Code.region id #[⟨some t,.call ⟨.builtin .recover,#[],ats⟩,ty,pos,af,none⟩,⟨some t2,.assign (.tmp t),T,pos2,af2,none⟩] false).wpSIn (fr none) 0 P QS a cs w:=by
 refine wpSIn_region ?_;show wpOpsSIn (fr none) 0 P _ QS [0,1] a cs w
 have e2:∀(cs:List Frame) (v:Value),(execOp (Act.eval (a.put (some t) v)) ⟨some t2,.assign (.tmp t),T,pos2,af2,none⟩).run P w=.ok (.value v) w:=by
  intro cs v;simp [execOp,Act.eval,Act.put,ht]
 unfold wpOpsSIn;simp only [e_,d_];refine⟨fun _ _=>trivial,?_⟩;rw [if_pos Sh,wQ];rcases hrec with h0|⟨h0,rfl,rfl⟩
 ·simp only [h0];unfold wpOpsSIn;simp only [e_,i_,d_];refine⟨fun _ _=>trivial,?_⟩;rw [if_pos Sh,e2 cs'];exact h
 ·simp only [h0];unfold wpOpsSIn;simp only [e_,i_,d_];refine⟨fun _ _=>trivial,?_⟩;rw [if_pos Sh,e2 cs'];exact h
theorem Xf{f:FuncId}{fn:Func}{args:List Value}{u u':FrameMode}{id t t2:Nat}{pos2:String}{af2:Array Edge}{ats:Array TypeId}{c2:Code}{v:Value}{Post:HP→Prop}
  (hf:P.funcs[f]?=some fn)(hb:fn.body=some (.seq (.region id #[⟨some t,.call ⟨.builtin .recover,#[],ats⟩,ty,pos,af,none⟩,⟨some t2,.assign (.tmp t),T,pos2,af2,none⟩] false) c2))(hn:fn.ntmps=n)
  (ha:kn args.length n=true)(ht:ko t n=true)(ht2:ko t2 n=true)(hres:fn.results= #[])
  (hv:(u=.returning∧u'=.returning∧v=.nilIface)∨(∃older,u=.panicking ({v:=v,recovered:=false,goexit:=false}::older)∧u'=.panicking ({v:=v,recovered:=true}::older)))
  (h:∀Q:Exit→Act→World→Prop,(∀E H',Post H'→BI B Q .normal n E ⟨[],none⟩ H')→WP P B c2 Q n ((t2,v)::(t,v)::I0 0 args) ⟨[],none⟩ H):NO P B f args u u' H Post:=by
 intro w hw;refine callsDIn_of_wpSIn (F:=fr none) (n:=0) hf hb trivial fun c₀ cs hu=>?_
 have hE0:DA n (I0 0 args) {tmps:=args.toArray++Array.replicate (fn.ntmps-args.toArray.size) undef,defers:=[]}:=by
  refine⟨?_,?_⟩
  ·have:args.length≤n:=by simpa using ha
   simp [hn];omega
  ·intro t v e;obtain⟨_,h2⟩:=MH args 0 t v e;simp only [km]at h2;have hlt:t<args.length:=(g_.1 h2).1;simp only [];rw [Array.getElem?_append_left (by simpa using hlt)];simpa using h2
 have hE1:=(hE0.put WC v).put (t:=t2) (by simpa using ht2) v;refine wpSIn_seq ?_
 have hrec:recoverD (c₀::cs)=some (v,{c₀ with mode:=u'}::cs)∨(recoverD (c₀::cs)=none∧v=.nilIface∧({c₀ with mode:=u'}::cs)=c₀::cs):=by
  rcases hv with⟨h1,h2,h3⟩|⟨older,h1,h2⟩
  ·right;refine⟨by simp [recoverD,hu,h1],h3,?_⟩;rw [h2,←h1,←hu]
  ·left;simp [recoverD,hu,h1,h2]
 refine qL (v:=v) (cs':={c₀ with mode:=u'}::cs) hrec (by rw [hE0.1];simpa using ht) ?_;show Code.wpSIn _ _ _ _ _ _ _ _;refine wpSIn_of_wpIn rfl ?_;refine h _ (fun E H' hp a w h1 h2 h3=>?_) _ w hE1 (by rfl) hw;refine⟨h2,u',rfl,.tuple #[],?_,.tuple #[],H',rfl,rfl,hp,h3⟩;simp [results,hres]
end
end
section
variable{B:World}
abbrev r0(k:Int)(fin:Bool):RF:=⟨⟨k,0,0,0,fin,⟨#[]⟩,[]⟩,none,0,0,0,[]⟩
theorem dV(t:UInt8):FE t=if t.toNat=0 then 1 else if t.toNat=1 then 2 else if t.toNat=2 then 3 else if t.toNat=4 then 4 else if t.toNat=8∨t.toNat=9 then 5 else if t.toNat=28 then 6 else 0:=by
 unfold FE;simp only [←UInt8.toNat_inj];rfl
theorem zU(t:UInt8)(h:FE t≠0):Dr (FE t):=by
 rw [dV]at*;unfold Dr
 repeat' split
 all_goals first|omega|(exfalso;simp_all)
theorem zC(t:UInt8)(H:HP):Fn Tryz.prog B 178 [u8 t] H (fun v H'=>v=.tuple #[iN (FE t),.bool (decide (FE t≠0))]∧H'=H):=by
 refine mI Tryz.func178 ?_;refine Hb ?_;refine DV ?_;refine JL (CN (i:=t.toNat) (j:=0) rfl rfl) ?_;refine J3 ?_;refine mC (fun yt5=>?_) (fun nt5=>?_)
 ·refine J2 ?_;refine JL (Fx (v:=.int .i64 (1:Nat)) rfl) ?_;refine J6 ?_
  first|(exfalso;omega)|exact mr [2,3] rfl rfl ⟨Cw,rfl⟩
 refine J2 ?_;refine JL (CN (i:=t.toNat) (j:=1) rfl rfl) ?_;refine J3 ?_;refine mC (fun yt7=>?_) (fun nt7=>?_)
 ·refine J2 ?_;refine JL (Fx (v:=.int .i64 (2:Nat)) rfl) ?_;refine J6 ?_
  first|(exfalso;omega)|exact mr [2,3] rfl rfl ⟨Cw,rfl⟩
 refine J2 ?_;refine JL (CN (i:=t.toNat) (j:=2) rfl rfl) ?_;refine J3 ?_;refine mC (fun yt9=>?_) (fun nt9=>?_)
 ·refine J2 ?_;refine JL (Fx (v:=.int .i64 (3:Nat)) rfl) ?_;refine J6 ?_
  first|(exfalso;omega)|exact mr [2,3] rfl rfl ⟨Cw,rfl⟩
 refine J2 ?_;refine JL (CN (i:=t.toNat) (j:=4) rfl rfl) ?_;refine J3 ?_;refine mC (fun yt11=>?_) (fun nt11=>?_)
 ·refine J2 ?_;refine JL (Fx (v:=.int .i64 (4:Nat)) rfl) ?_;refine J6 ?_
  first|(exfalso;omega)|exact mr [2,3] rfl rfl ⟨Cw,rfl⟩
 refine J3 ?_;refine JL (CN (i:=t.toNat) (j:=8) rfl rfl) ?_;refine J3 ?_;refine mC (fun yt13=>?_) (fun nt13=>?_)
 ·refine J2 ?_;refine mC (fun yt13=>?_) (fun nt13=>?_)
  ·refine J2 ?_;refine JL ZQ ?_;refine J6 ?_
   first|(exfalso;omega)|exact mr [2,3] rfl rfl ⟨Cw,rfl⟩
  refine J2 ?_;refine JL (CN (i:=t.toNat) (j:=28) rfl rfl) ?_;refine J3 ?_;refine mC (fun yt16=>?_) (fun nt16=>?_)
  ·refine J2 ?_;refine JL XC ?_;refine J6 ?_
   first|(exfalso;omega)|exact mr [2,3] rfl rfl ⟨Cw,rfl⟩
  refine J5 ?_;refine FT ?_;refine J4 ?_
  first|(exfalso;omega)|exact mr [2,3] rfl rfl ⟨Cw,rfl⟩
 refine J1 ?_;refine JL (CN (i:=t.toNat) (j:=9) rfl rfl) ?_;refine J3 ?_;refine mC (fun yt13=>?_) (fun nt13=>?_)
 ·refine J2 ?_;refine JL ZQ ?_;refine J6 ?_
  first|(exfalso;omega)|exact mr [2,3] rfl rfl ⟨Cw,rfl⟩
 refine J2 ?_;refine JL (CN (i:=t.toNat) (j:=28) rfl rfl) ?_;refine J3 ?_;refine mC (fun yt16=>?_) (fun nt16=>?_)
 ·refine J2 ?_;refine JL XC ?_;refine J6 ?_
  first|(exfalso;omega)|exact mr [2,3] rfl rfl ⟨Cw,rfl⟩
 refine J5 ?_;refine FT ?_;refine J4 ?_
 first|(exfalso;omega)|exact mr [2,3] rfl rfl ⟨Cw,rfl⟩
theorem Ga{r:RF}(h:r.f.ranges=[])(hc:r.c=0)(hs:r.s=[]):r.ok∧r.own∧GJ r=HP.BN:=by
 refine⟨?_,?_,?_⟩
 ·unfold RF.ok;rw [h,hc];exact Gi
 ·unfold RF.own;rw [h,hc,hs];rfl
 ·unfold GJ;rw [h,hs,G7]
theorem K! (rb fb:Nat)(fin:Bool)(p:Option Addr)(b o c:Nat)(xs:List UInt8)(a:Nat)(R:HP)(hs:Sl p b o xs.length c)(hr:Ai B R b o xs)(hx:xs.length<100000000000)(ha:a≤xs.length):
  Fb Tryz.prog B 218 [ptr rb 0,ptr fb 0] (CK rb p c xs a*(HP.AA fb 0 (AQ (r0 1 fin))*R)) (fun _ H'=>∃r a',CR xs 1 fin a=some (r.f,a')∧r.ok∧r.own∧H'=CK rb p c xs a'*(HP.AA fb 0 (AQ r)*(GJ r*R))) (fun ch H'=>CR xs 1 fin a=none∧ch=G5∧H'=R):=by
 refine H9 Tryz.func218 rfl rfl rfl ?_;refine J1 ?_;exact Oh (ts:=[]) rfl rfl ⟨r0 1 fin,_,rfl,(Ga rfl rfl rfl).1,(Ga rfl rfl rfl).2.1,by rw [(Ga (r:=r0 1 fin) rfl rfl rfl).2.2,HP.BR]⟩
theorem rJ(rb fb:Nat)(fin:Bool)(p:Option Addr)(b o c:Nat)(xs:List UInt8)(a:Nat)(R:HP)(hs:Sl p b o xs.length c)(hr:Ai B R b o xs)(hx:xs.length<100000000000)(ha:a≤xs.length):
  Fb Tryz.prog B 218 [ptr rb 0,ptr fb 0] (CK rb p c xs a*(HP.AA fb 0 (AQ (r0 2 fin))*R)) (fun _ H'=>∃r a',CR xs 2 fin a=some (r.f,a')∧r.ok∧r.own∧H'=CK rb p c xs a'*(HP.AA fb 0 (AQ r)*(GJ r*R))) (fun ch H'=>CR xs 2 fin a=none∧ch=G5∧H'=R):=by
 refine H9 Tryz.func218 rfl rfl rfl ?_;refine J1 ?_;exact Oh (ts:=[]) rfl rfl ⟨r0 2 fin,_,rfl,(Ga rfl rfl rfl).1,(Ga rfl rfl rfl).2.1,by rw [(Ga (r:=r0 2 fin) rfl rfl rfl).2.2,HP.BR]⟩
theorem I_(rb fb:Nat)(fin:Bool)(p:Option Addr)(b o c:Nat)(xs:List UInt8)(a:Nat)(R:HP)(hs:Sl p b o xs.length c)(hr:Ai B R b o xs)(hx:xs.length<100000000000)(ha:a≤xs.length):
  Fb Tryz.prog B 195 [ptr rb 0,ptr fb 0] (CK rb p c xs a*(HP.AA fb 0 (AQ (r0 4 fin))*R)) (fun _ H'=>∃r a',CR xs 4 fin a=some (r.f,a')∧r.ok∧r.own∧H'=CK rb p c xs a'*(HP.AA fb 0 (AQ r)*(GJ r*R))) (fun ch H'=>CR xs 4 fin a=none∧ch=G5∧H'=R):=by
 refine H9 Tryz.func195 rfl rfl rfl ?_;refine J5 ?_;refine Dw fI rfl ?_ ?_;rotate_left
 ·rintro _ _ ⟨e8,rfl,rfl⟩;exact GL R ⟨jQ,rfl,rfl⟩
 rintro _ _ ⟨n8,a8,e8,rfl,rfl⟩;have g8:=Rk e8;refine J1 ?_;refine Dw kN rfl ?_ ?_;rotate_left
 ·rintro _ _ ⟨e10,rfl,rfl⟩;exact GL R ⟨bF,rfl,rfl⟩
 rintro _ _ ⟨n10,a10,e10,rfl,rfl⟩;have g10:=EK e10;refine J1 ?_;refine Dw jP rfl ?_ ?_;rotate_left
 ·rintro _ _ ⟨e12,rfl,rfl⟩;exact GL R ⟨Po,rfl,rfl⟩
 rintro _ _ ⟨n12,a12,e12,rfl,rfl⟩;have g12:=EK e12;refine CL ?_;exact Oh (ts:=[]) rfl rfl ⟨⟨⟨4,(n8:Nat),n12,n10,fin,⟨#[]⟩,[]⟩,none,0,0,0,[]⟩,a12,Po,(Ga rfl rfl rfl).1,(Ga rfl rfl rfl).2.1,by rw [(Ga (r:=⟨⟨4,(n8:Nat),n12,n10,fin,⟨#[]⟩,[]⟩,none,0,0,0,[]⟩) rfl rfl rfl).2.2,HP.BR]⟩
theorem yD(rb fb:Nat)(fin:Bool)(p:Option Addr)(b o c:Nat)(xs:List UInt8)(a:Nat)(R:HP)(hs:Sl p b o xs.length c)(hr:Ai B R b o xs)(hx:xs.length<100000000000)(ha:a≤xs.length):
  Fb Tryz.prog B 201 [ptr rb 0,ptr fb 0] (CK rb p c xs a*(HP.AA fb 0 (AQ (r0 5 fin))*R)) (fun _ H'=>∃r a',CR xs 5 fin a=some (r.f,a')∧r.ok∧r.own∧H'=CK rb p c xs a'*(HP.AA fb 0 (AQ r)*(GJ r*R))) (fun ch H'=>CR xs 5 fin a=none∧ch=G5∧H'=R):=by
 refine H9 Tryz.func201 rfl rfl rfl ?_;refine J5 ?_;refine Dw fI rfl ?_ ?_;rotate_left
 ·rintro _ _ ⟨e8,rfl,rfl⟩;exact GL R ⟨jQ,rfl,rfl⟩
 rintro _ _ ⟨n8,a8,e8,rfl,rfl⟩;have g8:=Rk e8;refine J1 ?_;refine Dw kN rfl ?_ ?_;rotate_left
 ·rintro _ _ ⟨e10,rfl,rfl⟩;exact GL R ⟨bF,rfl,rfl⟩
 rintro _ _ ⟨n10,a10,e10,rfl,rfl⟩;have g10:=EK e10;refine J1 ?_;refine Dw (G1 rfl (L! rb p b o c xs a10 _ hs inferInstance hx Ca)) rfl ?_ ?_;rotate_left
 ·rintro _ _ ⟨e12,rfl,rfl⟩;exact GL R ⟨Po,rfl,rfl⟩
 rintro _ _ ⟨n12,a12,e12,rfl,rfl⟩;have g12:=UB e12;refine CL ?_;exact Oh (ts:=[]) rfl rfl ⟨⟨⟨5,(n8:Nat),n10,0,fin,AW n12,[]⟩,none,0,0,0,[]⟩,a12,Po,(Ga rfl rfl rfl).1,(Ga rfl rfl rfl).2.1,by rw [(Ga (r:=⟨⟨5,(n8:Nat),n10,0,fin,AW n12,[]⟩,none,0,0,0,[]⟩) rfl rfl rfl).2.2,HP.BR]⟩
theorem xY(bq:Nat)(rb fb:Nat)(fin:Bool)(p:Option Addr)(b o c:Nat)(xs:List UInt8)(a:Nat)(R:HP)(hs:Sl p b o xs.length c)(hr:Ai B R b o xs)(hx:xs.length<100000000000)(ha:a≤xs.length)[hq:Rd B R bq 0 (F9 205 []) True]:
  Fb Tryz.prog B 220 [ptr rb 0,ptr fb 0,ptr bq 0] (CK rb p c xs a*(HP.AA fb 0 (AQ (r0 6 fin))*R)) (fun _ H'=>∃r a',CR xs 6 fin a=some (r.f,a')∧r.ok∧r.own∧H'=CK rb p c xs a'*(HP.AA fb 0 (AQ r)*(GJ r*R))) (fun ch H'=>CR xs 6 fin a=none∧ch=G5∧H'=R):=by
 refine H9 Tryz.func220 rfl rfl rfl ?_;refine J1 ?_;refine Kw ?_;refine Am (IJ rfl rfl (kB fb _)) rfl ?_;refine IN ?_;refine Dw QH rfl ?_ ?_;rotate_left
 ·rintro _ _ ⟨e9,rfl,rfl⟩;exact GL R ⟨Z3,rfl,rfl⟩
 rintro _ _ ⟨n9,a9,e9,rfl,rfl⟩;have g9:=EK e9;refine J3 ?_;exact Oh (ts:=[]) rfl rfl ⟨⟨⟨6,0,0,n9,fin,⟨#[]⟩,[]⟩,none,0,0,0,[]⟩,a9,Z3,(Ga rfl rfl rfl).1,(Ga rfl rfl rfl).2.1,by rw [(Ga (r:=⟨⟨6,0,0,n9,fin,⟨#[]⟩,[]⟩,none,0,0,0,[]⟩) rfl rfl rfl).2.2,HP.BR]⟩
structure Gn where
 rs:List AT
 hi:Nat
 n:Nat
 size:Nat
 a:Nat
 p:Option Addr
 b:Nat
 o:Nat
 c:Nat
 s:List Value
abbrev Gn.rf(z:Gn)(fin:Bool):RF:=⟨⟨3,0,0,0,fin,⟨#[]⟩,z.rs⟩,z.p,z.b,z.o,z.c,z.s⟩
def Fi(xs:List UInt8)(z:Gn):Option (List AT×Nat):=
 if z.size≤z.hi then match GY xs z.n (z.hi-z.size) z.a with
  |some (rs',a4)=>some (z.rs++⟨z.hi-z.size,z.hi⟩::rs',a4)
  |none=>none
 else none
theorem P_{xs:List UInt8}{a hi a1 n a2 size a3:Nat}(e1:DP xs a=some (hi,a1))(e2:DP xs a1=some (n,a2))(e3:DP xs a2=some (size,a3)):
  GO xs a=Fi xs ⟨[],hi,n,size,a3,none,0,0,0,[]⟩:=by
 simp only [GO,e1,e2,e3,Fi,j_];split
 ·cases GY xs n (hi-size) a3<;>rfl
 ·rfl
theorem df{xs:List UInt8}{z:Gn}(h:¬z.size≤z.hi):Fi xs z=none:=by rw [Fi,if_neg h]
theorem oQ{xs:List UInt8}{z:Gn}(h:z.size≤z.hi)(hn:z.n=0):Fi xs z=some (z.rs++[(⟨z.hi-z.size,z.hi⟩:AT)],z.a):=by
 rw [Fi,if_pos h,hn];rfl
theorem K? {xs:List UInt8}{z:Gn}{m:Nat}(hn:z.n=m+1)(e:DP xs z.a=none):Fi xs z=none:=by
 rw [Fi];split
 ·simp only [hn,GY,e]
 ·rfl
theorem lK{xs:List UInt8}{z:Gn}{m FA a1:Nat}(hn:z.n=m+1)(e:DP xs z.a=some (FA,a1))(e2:DP xs a1=none):Fi xs z=none:=by
 rw [Fi];split
 ·simp only [hn,GY,e,e2]
 ·rfl
theorem ai{xs:List UInt8}{z:Gn}{m FA a1 size a2:Nat}(hn:z.n=m+1)(e:DP xs z.a=some (FA,a1))(e2:DP xs a1=some (size,a2))(h:z.hi-z.size<2∨z.hi-z.size-2<FA):Fi xs z=none:=by
 rw [Fi];split
 ·simp only [hn,GY,e,e2];rw [if_neg Ca]
 ·rfl
theorem H_{xs:List UInt8}{z:Gn}{m FA a1 size a2:Nat}(hle:z.size≤z.hi)(hn:z.n=m+1)(e:DP xs z.a=some (FA,a1))(e2:DP xs a1=some (size,a2))(h:2≤z.hi-z.size)(hg:FA≤z.hi-z.size-2)
  (p:Option Addr)(b o c:Nat)(s:List Value):
  Fi xs z=Fi xs ⟨z.rs++[(⟨z.hi-z.size,z.hi⟩:AT)],z.hi-z.size-2-FA,m,size,a2,p,b,o,c,s⟩:=by
 rw [Fi,if_pos hle,Fi];simp only [hn,GY,e,e2];by_cases h2:size≤z.hi-z.size-2-FA
 ·rw [if_pos Ca,if_pos h2]
  cases GY xs m (z.hi-z.size-2-FA-size) a2 with
  |none=>rfl
  |some w=>obtain⟨rs',a4⟩:=w;simp
 ·rw [if_neg Ca,if_neg h2]
theorem o6{xs:List UInt8}{fin:Bool}{a:Nat}{rs:List AT}{a':Nat}(h:GO xs a=some (rs,a')):CR xs 3 fin a=some (⟨3,0,0,0,fin,⟨#[]⟩,rs⟩,a'):=by
 unfold CR;simp only [kj,if_false,if_true,h]
theorem Lv{xs:List UInt8}{fin:Bool}{a:Nat}(h:GO xs a=none):CR xs 3 fin a=none:=by
 unfold CR;simp only [kj,if_false,if_true,h]
theorem m4(rb fb:Nat)(fin:Bool)(p:Option Addr)(b o c:Nat)(xs:List UInt8)(a:Nat)(R:HP)(hs:Sl p b o xs.length c)(hr:Ai B R b o xs)(hx:xs.length<100000000000)(ha:a≤xs.length):
  Fb Tryz.prog B 191 [ptr rb 0,ptr fb 0] (CK rb p c xs a*(HP.AA fb 0 (AQ (r0 3 fin))*R)) (fun _ H'=>∃r a',CR xs 3 fin a=some (r.f,a')∧r.ok∧r.own∧H'=CK rb p c xs a'*(HP.AA fb 0 (AQ r)*(GJ r*R))) (fun ch H'=>CR xs 3 fin a=none∧ch=G5∧H'=R):=by
 refine H9 Tryz.func191 rfl rfl rfl ?_;refine J3 ?_;refine Dw QH rfl ?_ ?_;rotate_left
 ·rintro _ _ ⟨e10,rfl,rfl⟩;refine FX ?_;exact GL R ⟨Lv (by simp only [GO,e10]),rfl,rfl⟩
 rintro _ _ ⟨n10,a10,e10,rfl,rfl⟩;have g10:=EK e10;refine J1 ?_;refine Dw jP rfl ?_ ?_;rotate_left
 ·rintro _ _ ⟨e12,rfl,rfl⟩;refine FX ?_;exact GL R ⟨Lv (by simp only [GO,e10,e12]),rfl,rfl⟩
 rintro _ _ ⟨n12,a12,e12,rfl,rfl⟩;have g12:=EK e12;refine J1 ?_;refine Dw (G1 rfl (Mo rb p b o c xs a12 _ hs inferInstance hx Ca)) rfl ?_ ?_;rotate_left
 ·rintro _ _ ⟨e14,rfl,rfl⟩;refine FX ?_;exact GL R ⟨Lv (by simp only [GO,e10,e12,e14]),rfl,rfl⟩
 rintro _ _ ⟨n14,a14,e14,rfl,rfl⟩;have g14:=EK e14;refine J6 ?_
 refine Bj (α:=Gn) (fun z=>[(0,ptr rb 0),(1,ptr fb 0),(4,uN z.hi),(5,uN z.n),(6,uN z.size)]) (fun z=>CK rb p c xs z.a*(HP.AA fb 0 (AQ (z.rf fin))*(AB z.b z.o z.rs z.s*R))) (fun z=>z.hi≤4611686018427387903∧z.n≤4611686018427387903∧z.size≤4611686018427387903∧z.a≤xs.length∧z.rs.length≤z.a∧Sl z.p z.b z.o z.rs.length z.c∧z.rs.length*2+z.s.length=z.c*2∧GO xs a=Fi xs z) (fun z=>z.n) ⟨[],n10,n12,n14,a14,none,0,0,0,[]⟩ ⟨g10.1,g12.1,g14.1,g14.2.2,g' _,Gi,rfl,P_ e10 e12 e14⟩ HZ (by show _=CK rb p c xs a14*(HP.AA fb 0 (AQ (r0 3 fin))*(AB 0 0 ([]:List AT) []*R));rw [G7,HP.BR]) ?_
 rintro z ⟨hhi,hn,hsz,hza,hzl,hzs,hzc,hinv⟩;refine J6 ?_;refine Lq ?_;refine mC (fun hbad=>?_) (fun hle=>?_)
 ·refine J2 ?_;refine Dw No rfl ?_ ?_;rotate_left
  ·refine JR ?_;refine Jb ?_;exact GL R ⟨Lv (by rw [hinv];exact df Ca),rfl,rfl⟩
  exact JV
 refine J6 ?_;refine JL H3 ?_;refine J9 ?_;refine D9 ?_;refine J2 ?_;refine JL (FV (cs:=[uN (z.hi-z.size),uN z.hi]) rfl rfl rfl Cf) ?_;refine Am (HD (cs:=[uN (z.hi-z.size),uN z.hi]) rfl Cq rfl rfl) rfl ?_;rintro _ _ ⟨b31,rfl,rfl⟩;refine BQ (H':=AB z.b z.o z.rs z.s*(HP.AA b31 0 (AG [(⟨z.hi-z.size,z.hi⟩:AT)])*(CK rb p c xs z.a*(HP.AA fb 0 (AQ (z.rf fin))*R)))) (by show HP.AA b31 0 (AG [(⟨z.hi-z.size,z.hi⟩:AT)])*_=_;ac_rfl) ?_;refine Am (DG (ys:=[(⟨z.hi-z.size,z.hi⟩:AT)]) (bb:=b31) (oo:=0) (cc:=1) rfl hzs hzc rfl CS inferInstance rfl Cn Ca) rfl ?_;rintro _ _ ⟨p32,b32,o32,c32,s32,rfl,hs32,hc32,rfl⟩;refine J7 ?_;refine Au (H':=CK rb p c xs z.a*(HP.AA fb 0 (AQ (Gn.rf ⟨z.rs++[(⟨z.hi-z.size,z.hi⟩:AT)],0,0,0,0,p32,b32,o32,c32,s32⟩ fin))*(AB b32 o32 (z.rs++[(⟨z.hi-z.size,z.hi⟩:AT)]) s32*(HP.AA b31 0 (AG [(⟨z.hi-z.size,z.hi⟩:AT)])*R)))) (by show _=_;ac_rfl) ?_;refine J2 ?_;refine KZ ?_;refine mC (fun hz=>?_) (fun hz=>?_)
 ·refine J5 ?_;exact mM (ts:=[]) (CK rb p c xs z.a*(HP.AA fb 0 (AQ (Gn.rf ⟨z.rs++[(⟨z.hi-z.size,z.hi⟩:AT)],0,0,0,0,p32,b32,o32,c32,s32⟩ fin))*(AB b32 o32 (z.rs++[(⟨z.hi-z.size,z.hi⟩:AT)]) s32*R))) rfl rfl ⟨Gn.rf ⟨z.rs++[(⟨z.hi-z.size,z.hi⟩:AT)],0,0,0,0,p32,b32,o32,c32,s32⟩ fin,z.a,o6 (by rw [hinv];exact oQ Ca hz),hs32,hc32,rfl⟩
 obtain⟨m,hm⟩:∃m,z.n=m+1:=⟨z.n-1,Ca⟩
 refine J5 ?_;refine JL Ny ?_;refine J6 ?_;refine Dw (G1 rfl (Mo rb p b o c xs z.a _ hs inferInstance hx Ca)) rfl ?_ ?_;rotate_left
 ·rintro _ _ ⟨e40,rfl,rfl⟩;refine Jb ?_;exact GL R ⟨Lv (by rw [hinv];exact K? hm e40),rfl,rfl⟩
 rintro _ _ ⟨n40,a40,e40,rfl,rfl⟩;have g40:=EK e40;refine J6 ?_;refine Dw (G1 rfl (Mo rb p b o c xs a40 _ hs inferInstance hx Ca)) rfl ?_ ?_;rotate_left
 ·rintro _ _ ⟨e42,rfl,rfl⟩;refine Jb ?_;exact GL R ⟨Lv (by rw [hinv];exact lK hm e40 e42),rfl,rfl⟩
 rintro _ _ ⟨n42,a42,e42,rfl,rfl⟩;have g42:=EK e42;refine J7 ?_;refine JL Tr ?_;refine J1 ?_;refine EV 45 rfl (fun hg1=>?_) (fun hg1=>?_)
 ·refine NT ?_;refine NT ?_;refine JL GM ?_;refine J2 ?_;refine Gw ?_;refine J2 ?_;refine Dw No rfl ?_ ?_;rotate_left
  ·refine JR ?_;refine Jb ?_;exact Zr
  exact JV
 refine Ph ?_;refine JL UH ?_;refine JG F1 ?_;refine JL IG ?_;refine JL E9 ?_;refine J2 ?_;refine mC (fun hb5=>?_) (fun hb5=>?_)
 ·refine J2 ?_;refine Dw No rfl ?_ ?_;rotate_left
  ·refine JR ?_;refine Jb ?_;exact Zr
  exact JV
 refine J4 ?_;refine JL UH ?_;refine J1 ?_;refine JL H3 ?_;refine J3 ?_;refine Bo (CK rb p c xs a42*(HP.AA fb 0 (AQ (Gn.rf ⟨z.rs++[(⟨z.hi-z.size,z.hi⟩:AT)],z.hi-z.size-2-n40,m,n42,a42,p32,b32,o32,c32,s32⟩ fin))*(AB b32 o32 (z.rs++[(⟨z.hi-z.size,z.hi⟩:AT)]) s32*R))) ?_;exact Ba (⟨z.rs++[(⟨z.hi-z.size,z.hi⟩:AT)],z.hi-z.size-2-n40,m,n42,a42,p32,b32,o32,c32,s32⟩:Gn) ⟨by show z.hi-z.size-2-n40≤_;omega,by show m≤_;omega,g42.1,g42.2.2,by show(z.rs++[_]).length≤a42;rw [c_,List.length_singleton];omega,hs32,hc32,by rw [hinv];exact H_ Ca hm e40 e42 Ca Ca _ _ _ _ _⟩ (by show m<z.n;omega) (.cons rfl (.cons rfl (.cons rfl (.cons (by rw [hm];rfl) PK)))) rfl
theorem xB{k:Nat}{f1 f2 f3:FuncId}{us1 us2 us3:List Value}{C:HP}(h:FK k f1 us1 f2 us2 f3 us3 C)(rb fb:Nat)(fin:Bool)(p:Option Addr)(b o c:Nat)(xs:List UInt8)(a:Nat)(R:HP)(hs:Sl p b o xs.length c)(hr:Ai B R b o xs)(hx:xs.length<100000000000)(ha:a≤xs.length):
  Ah Tryz.prog f2∧Fb Tryz.prog B f2 ([ptr rb 0,ptr fb 0]++us2) (CK rb p c xs a*(HP.AA fb 0 (AQ (r0 k fin))*(C*R))) (fun _ H'=>∃r a',CR xs k fin a=some (r.f,a')∧r.ok∧r.own∧H'=CK rb p c xs a'*(HP.AA fb 0 (AQ r)*(GJ r*(C*R)))) (fun ch H'=>CR xs k fin a=none∧ch=G5∧H'=C*R):=by
 generalize hk:(k:Int)=kk at h
 cases h with
 |pad bt=>
  obtain rfl:k=1:=by omega
  exact⟨inferInstance,K! rb fb fin p b o c xs a _ hs inferInstance hx ha⟩
 |ping bt=>
  obtain rfl:k=2:=by omega
  exact⟨inferInstance,rJ rb fb fin p b o c xs a _ hs inferInstance hx ha⟩
 |FO=>
  obtain rfl:k=3:=by omega
  exact⟨inferInstance,m4 rb fb fin p b o c xs a _ hs inferInstance hx ha⟩
 |reset=>
  obtain rfl:k=4:=by omega
  exact⟨inferInstance,I_ rb fb fin p b o c xs a _ hs inferInstance hx ha⟩
 |data=>
  obtain rfl:k=5:=by omega
  exact⟨inferInstance,yD rb fb fin p b o c xs a _ hs inferInstance hx ha⟩
 |bye bt bq=>
  obtain rfl:k=6:=by omega
  exact⟨inferInstance,xY bq rb fb fin p b o c xs a _ hs inferInstance hx ha⟩
end
section
open Go Go.RowKit Go.Extern.Stop Go.Stop Go.Extern
set_option linter.unusedVariables false
theorem pL(k:Addr)(w:World):(ReflectliteValue.unpack (.iface 191 (.pointer (some k)))).run Tryz.prog w
  = .ok (.agg #[.pointer (some ⟨1,191,none⟩),.pointer (some ⟨w.heap.size,0,none⟩),.int .u64 150]) (w.alloc (.cells #[.pointer (some k)] 191)):=by kernel_rfl
theorem uP(v:Value)(w:World):(ReflectliteType.typeOf #[.iface 191 v]).run Tryz.prog w=.ok (.iface 282 (.agg #[.pointer (some ⟨1,191,none⟩)])) w:=by kernel_rfl
theorem vR(w :World) :(ReflectliteType.relation "AssignableTo" ReflectliteType.assignableTo #[.agg #[.pointer (some ⟨1,191,none⟩)],.iface 282 (.agg #[.pointer (some ⟨1,191,none⟩)])]).run Tryz.prog w =.ok (.bool true) w :=by kernel_rfl
theorem bw(w:World):(Rtype.elem? 193).run Tryz.prog w=.ok (some 191) w:=by kernel_rfl
theorem oP(p:Addr)(w:World):(ReflectliteValue.mk 191 p ReflectliteValue.flagAddr).run Tryz.prog w=.ok (.agg #[.pointer (some ⟨1,191,none⟩),.pointer (some p),.int .u64 406]) w:=by kernel_rfl
theorem nI(a p:Addr)(W:World)(ha:W.cell? a=some (.pointer (some p))):
  (ReflectliteValue.method (ReflectliteValue.valueError "reflectlite.Value.Elem" 0) ReflectliteValue.elem #[.agg #[.pointer (some ⟨1,193,none⟩),.pointer (some a),.int .u64 150]]).run Tryz.prog W
   = .ok (.agg #[.pointer (some ⟨1,191,none⟩),.pointer (some p),.int .u64 406]) W:=by
 rw [RV];simp only [Sem.run_bind,eW,f_];simp [ReflectliteValue.elem,loadVar,isAgg,underlying,Tryz.underlying193,ha,f_,bw,oP]
theorem O? (a:Addr)(w:World):(ReflectliteValue.parts (.agg #[.pointer (some ⟨1,191,none⟩),.pointer (some a),.int .u64 406])).run Tryz.prog w=.ok (some (191,a,406)) w:=by kernel_rfl
theorem wF(a:Addr)(w:World):(ReflectliteValue.parts (.agg #[.pointer (some ⟨1,191,none⟩),.pointer (some a),.int .u64 150])).run Tryz.prog w=.ok (some (191,a,150)) w:=by kernel_rfl
theorem qB(w:World):(Rtype.directlyAssignable 191 191).run Tryz.prog w=.ok true w:=by kernel_rfl
theorem dy(ta b:Addr)(k:Addr)(old:Value)(W:World)(hb:W.cell? b=some (.pointer (some k)))(ht:W.cell? ta=some old)(hf:W.frozen? ta=false):
  (ReflectliteValue.set #[.agg #[.pointer (some ⟨1,191,none⟩),.pointer (some ta),.int .u64 406],.agg #[.pointer (some ⟨1,191,none⟩),.pointer (some b),.int .u64 150]]).run Tryz.prog W
   = .ok (.tuple #[]) (W.setCell ta (.pointer (some k))):=by
 rw [ZZ];simp only [Sem.run_bind,O?,wF,f_];simp [ReflectliteValue.flagAddr,loadVar,isAgg,underlying,Tryz.underlying191,hb,f_,qB,storeVar,Value.cells,storeCells,Addr.add];rw [run_store Tryz.prog W ta _ _ (by rfl)];simp [ht,hf]
end
section
variable{B:World}
end
section
variable{B:World}
theorem N4(p:Option Addr)(b o c k:Nat)(xs:List UInt8)(s:List Value)(R:HP)(hs:Sl p b o k c)(hx:xs.length=k)(hk:k<1000000000):
  Fn Tryz.prog B 93 [.slice p k c] (AB b o xs s*R) (fun _ H'=>∃ys:List UInt8,ys.length=k∧H'=AB b o ys s*R):=by
 refine mI Tryz.func93 ?_;refine J4 ?_;refine HQ ?_;refine Bj (α:=Nat×List UInt8) (fun z=>[(0,.slice p k c),(4,iN k),(5,iN z.1)]) (fun z=>AB b o z.2 s*R) (fun z=>z.1≤k∧z.2.length=k) (fun z=>k-z.1) (0,xs) ⟨g' _,hx⟩ Ea rfl ?_;rintro⟨j,ys⟩ ⟨hj,hy⟩;dsimp only at hj hy⊢;refine J6 ?_;refine mC (fun hc=>?_) (fun hc=>?_)
 ·refine Fe ?_;refine JL (DT rfl rfl (b:=b) (o:=o) hs hc) ?_;refine Bv (Ez (v:=u8 33) rfl rfl rfl Ca) ?_;refine Fg ?_;refine D7 ?_;exact Ba (j+1,ys.set j 33) ⟨hc,by simp [hy]⟩ dA Ea rfl
 refine J4 ?_;exact Pd (ts:=[]) rfl rfl ⟨ys,hy,rfl⟩
theorem Z4{ks:List UInt8}(hk:ks.length=16){side:UInt8}{xs:List UInt8}(p:Option Addr)(b o c:Nat)(H:HP)(hs:Sl p b o xs.length c)(hr:Ai B H b o xs)(hx:xs.length<90000000)(hop:B3 ks side xs=none):
  Fn Tryz.prog B 142 [.agg (AG ks++[u8 side]).toArray,.slice p xs.length c] H (fun v H'=>v=.tuple #[u64 0,.slice none 0 0,.bool false]∧H'=H):=by
 have h:=X8 ks hk side xs p b o c H hs hr hx;rw [hop]at h;exact h
theorem aA{ks:List UInt8}(hk:ks.length=16){side:UInt8}{xs:List UInt8}{n:UInt64}{ys:List UInt8}(p:Option Addr)(b o c:Nat)(H:HP)(hs:Sl p b o xs.length c)(hr:Ai B H b o xs)(hx:xs.length<90000000)(hop:B3 ks side xs=some (n,ys)):
  Fn Tryz.prog B 142 [.agg (AG ks++[u8 side]).toArray,.slice p xs.length c] H (fun v H'=>∃q b' o' c' s',v=.tuple #[u64 n,.slice q ys.length c',.bool true]∧Sl q b' o' ys.length c'∧ys.length*1+s'.length=c'*1∧H'=AB b' o' ys s'*H):=by
 have h:=X8 ks hk side xs p b o c H hs hr hx;rw [hop]at h;exact h.mono (by rintro v H' ⟨sv,rfl,q,b',o',c',s',rfl,h1,h2,rfl⟩;exact⟨q,b',o',c',s',rfl,h1,h2,rfl⟩)
theorem S_(ks:List UInt8)(hk:ks.length=16)(first:Bool)(xs:List UInt8)(p:Option Addr)(b o c:Nat)(H:HP)(hs:Sl p b o xs.length c)(hr:Ai B H b o xs)(hx:xs.length<90000000)(hop:B3 ks (Ae first) xs=none):
  Fn Tryz.prog B 98 [.agg (AG ks).toArray,.bool first,.slice p xs.length c] H (fun v H'=>v=.tuple #[u64 0,.slice none 0 0,.iface 41 (.int .i64 4)]∧H'=H):=by
 refine mI Tryz.func98 ?_;refine J2 ?_;refine KQ ?_;rintro _ _ ⟨b3,rfl,rfl⟩;refine iE ?_;refine mE rfl (Z4 hk p b o c _ hs inferInstance hx hop) ?_;refine JR ?_;refine Fe ?_;refine JP ?_;refine mc (fun hc=>?_) (fun hc=>?_);rotate_left
 ·cases hc
 refine J2 ?_;refine JL Hn ?_;refine HE ?_;refine J6 ?_;exact mR [6,7,8] H rfl rfl BY
theorem vA(ks:List UInt8)(hk:ks.length=16)(first:Bool)(xs:List UInt8)(n:UInt64)(ys:List UInt8)(p:Option Addr)(b o c:Nat)(H:HP)(hs:Sl p b o xs.length c)(hr:Ai B H b o xs)(hx:xs.length<90000000)(hop:B3 ks (Ae first) xs=some (n,ys)):
  Fn Tryz.prog B 98 [.agg (AG ks).toArray,.bool first,.slice p xs.length c] H (fun v H'=>∃sv,v=.tuple #[u64 n,sv,.nilIface]∧((ys=[]∧sv=.slice none 0 0∧H'=H)∨(ys≠ []∧CB H ys sv H'))):=by
 refine mI Tryz.func98 ?_;refine J2 ?_;refine KQ ?_;rintro _ _ ⟨b3,rfl,rfl⟩;refine iE ?_;refine mE rfl (aA hk p b o c _ hs inferInstance hx hop) ?_;rintro _ _ ⟨q,b',o',c',s',rfl,hq1,hq2,rfl⟩;refine Fe ?_;refine JP ?_;refine mc (fun hc=>?_) (fun hc=>?_)
 ·cases hc
 refine J7 ?_;refine KZ ?_;refine mC (fun hc=>?_) (fun hc=>?_)
 ·refine HI ?_;exact mR [6,7,8] H rfl rfl ⟨_,rfl,.inl ⟨h_.1 hc,rfl,rfl⟩⟩
 refine DV ?_;exact mR [6,7,8] (AB b' o' ys s'*H) rfl rfl ⟨_,rfl,.inr ⟨fun h=>hc P7,q,b',o',c',s',rfl,hq1,hq2,rfl⟩⟩
def gS(c:Int)(n:Nat):Nat:=(if c<0 then(-(c+1)).toNat else c.toNat)%n
theorem Xh(H:HP):Fn Tryz.prog B 44 [.nilIface] H (fun v H'=>v=.tuple #[.int .i64 0,.int .i64 (-1)]∧H'=H):=by
 refine Uo ?_;rintro _ _ ⟨b4,rfl,rfl⟩;refine J4 ?_;refine OT ?_;rintro _ _ ⟨b5,rfl,rfl⟩;refine J7 ?_;refine JL OW ?_;refine J3 ?_;refine mc (fun hc=>?_) (fun hc=>?_);rotate_left
 ·cases hc
 refine Hb ?_;refine J6 ?_;exact mR [2,3] H rfl rfl BY
theorem bO(H:HP):Fn Tryz.prog B 40 [.nilIface] H (fun v H'=>v=.int .i64 0∧H'=H):=by
 refine VM ?_;refine mE rfl (Xh _) ?_;refine JR ?_;refine HI ?_;exact Lo
end
section
open Go Go.RowKit Go.Extern.Stop Go.Stop Go.Extern
set_option linter.unusedVariables false
set_option maxRecDepth 20000
set_option maxHeartbeats 1000000
variable{B:World}
abbrev GG(q:Nat):Value:=.iface 191 (ptr q 0)
abbrev Ev(q k:Nat)(at_:Value):HP:=HP.AA q 0 [.int .i64 (k:Nat),at_]
theorem sY(q k:Nat)(at_:Value)(R:HP):Fn Tryz.prog B 249 [ptr q 0] (Ev q k at_*R) (fun v H'=>v=EW k∧H'=Ev q k at_*R):=by
 refine mI Tryz.func249 ?_;refine CL ?_;refine D9 ?_;refine JL Hn ?_;refine J4 ?_;exact Lo
theorem sV(q:Nat)(tg old:Value)(b5 b14:Nat)(R:HP):Fn Tryz.prog B 123 [GG q,tg,.agg #[.pointer (some ⟨1,193,none⟩),ptr b14 0,.int .u64 150],DH 191] (HP.AA b5 0 [old]*(HP.AA b14 0 [ptr b5 0]*R))
  (fun v H'=>v=.bool true∧H'=HP.AA b5 0 [ptr q 0]*(HP.AA b14 0 [ptr b5 0]*R)):=by
 refine mI Tryz.func123 ?_;refine J2 ?_;refine Am (Dn (l:=[.pointer (some ⟨1,193,none⟩),ptr b14 0,.int .u64 150]) rfl rfl) rfl ?_;rintro _ _ ⟨b6,rfl,rfl⟩;refine J4 ?_;refine Bj (fun _:Unit=>[(0,GG q),(1,tg),(3,DH 191),(6,ptr b6 0)]) (fun _=>(HP.AA b6 0 [.pointer (some ⟨1,193,none⟩),ptr b14 0,.int .u64 150]*(HP.AA b5 0 [old]*(HP.AA b14 0 [ptr b5 0]*R)))) (fun _=>True) (fun _=>0) () trivial DN rfl ?_;intro _ _;refine J5 ?_;refine JL (I6 rfl (fun w _=>uP _ w)) ?_;refine J1 ?_;refine JL (Hm rfl rfl (fun w _=>vR w)) ?_;refine J2 ?_;refine mc (fun hc=>?_) (fun hc=>?_);rotate_left
 ·cases hc
 refine J3 ?_;refine JL (I6 (v:=.agg #[.pointer (some ⟨1,191,none⟩),ptr b5 0,.int .u64 406]) rfl (fun w hw=>nI ⟨b14,0,none⟩ ⟨b5,0,none⟩ w ((inferInstance:Rd B (HP.AA b6 0 [.pointer (some ⟨1,193,none⟩),ptr b14 0,.int .u64 150]*(HP.AA b5 0 [old]*(HP.AA b14 0 [ptr b5 0]*R))) b14 0 (ptr b5 0) True).get w hw trivial))) ?_;refine J1 ?_;refine Am (MI (Post:=fun v H'=>∃b,v=.agg #[.pointer (some ⟨1,191,none⟩),ptr b 0,.int .u64 150]∧H'=HP.AA b 0 [ptr q 0]*(HP.AA b6 0 [.pointer (some ⟨1,193,none⟩),ptr b14 0,.int .u64 150]*(HP.AA b5 0 [old]*(HP.AA b14 0 [ptr b5 0]*R)))) rfl (fun w hw=>⟨_,_,_,pL _ w,⟨w.heap.size,rfl,rfl⟩,hw.alloc _ _⟩)) rfl ?_;rintro _ _ ⟨b23,rfl,rfl⟩
 refine Am (MI (Post:=fun v H'=>H'=HP.AA b23 0 [ptr q 0]*(HP.AA b6 0 [.pointer (some ⟨1,193,none⟩),ptr b14 0,.int .u64 150]*(HP.AA b5 0 [ptr q 0]*(HP.AA b14 0 [ptr b5 0]*R)))) rfl (fun w hw=>by
 have hb:=(inferInstance:Rd B (HP.AA b23 0 [ptr q 0]*(HP.AA b6 0 [.pointer (some ⟨1,193,none⟩),ptr b14 0,.int .u64 150]*(HP.AA b5 0 [old]*(HP.AA b14 0 [ptr b5 0]*R)))) b23 0 (ptr q 0) True).get w hw trivial
 obtain⟨⟨u,hu⟩,hf,hs⟩:=Sat.store (v:=ptr q 0) (H':=HP.AA b23 0 [ptr q 0]*(HP.AA b6 0 [.pointer (some ⟨1,193,none⟩),ptr b14 0,.int .u64 150]*(HP.AA b5 0 [ptr q 0]*(HP.AA b14 0 [ptr b5 0]*R)))) (s:=True) (b:=b5) (i:=0) inferInstance hw trivial
 exact⟨_,_,_,dy ⟨b5,0,none⟩ ⟨b23,0,none⟩ ⟨q,0,none⟩ u w hb hu hf,rfl,hs⟩)) rfl ?_
 rintro _ _ rfl;refine DV ?_;exact mR [8] (HP.AA b5 0 [ptr q 0]*(HP.AA b14 0 [ptr b5 0]*R)) rfl rfl BY
theorem tM(hG:B.cell? ⟨0,0,none⟩=some (DH 106))(q:Nat)(old:Value)(b4:Nat)(R:HP):Fn Tryz.prog B 79 [GG q,.iface 193 (ptr b4 0)] (HP.AA b4 0 [old]*R) (fun v H'=>v=.bool true∧H'=HP.AA b4 0 [ptr q 0]*R):=by
 refine Un ?_;refine mc (fun hc=>?_) (fun hc=>?_)
 ·cases hc
 refine J6 ?_;refine Km ?_;refine mc (fun hc=>?_) (fun hc=>?_)
 ·cases hc
 refine J5 ?_;refine Am Zm rfl ?_;rintro _ _ ⟨b14,rfl,rfl⟩;refine LE ?_;rintro _ _ ⟨b5,rfl,rfl⟩;refine jE ?_;refine EV 20 rfl (fun hg1=>?_) (fun hg1=>?_)
 ·exact absurd rfl hg1
 refine O7 ?_;refine JL YE ?_;refine JL E9 ?_;refine J2 ?_;refine mc (fun hc=>?_) (fun hc=>?_)
 ·cases hc
 refine jS ?_;refine EV 30 rfl (fun hg2=>?_) (fun hg2=>?_)
 ·refine fF ?_;refine mc (fun hc=>?_) (fun hc=>?_)
  ·cases hc
  refine J8 ?_;refine BQ (H':=HP.AA b4 0 [old]*(HP.AA b14 0 [ptr b4 0]*(HP.AA b5 0 [.pointer (some ⟨1,193,none⟩),ptr b14 0,.int .u64 150]*R))) Cg ?_;refine mE rfl (sV q _ old b4 b14 (HP.AA b5 0 [.pointer (some ⟨1,193,none⟩),ptr b14 0,.int .u64 150]*R)) ?_;refine Fg ?_;exact mR [4] (HP.AA b4 0 [ptr q 0]*R) rfl rfl BY
 exact absurd Cc hg2
theorem rA(q:Value)(k:Int)(w:World):(binOp .eql 106 (.iface 191 q) (.iface 41 (.int .i64 k))).run Tryz.prog w=.ok (.bool false) w:=by kernel_rfl
theorem D? (q k:Nat)(at_:Value)(R:HP):Fn Tryz.prog B 125 [GG q,EW k,.bool true] (Ev q k at_*R) (fun v H'=>v=.bool true∧H'=Ev q k at_*R):=by
 refine mI Tryz.func125 ?_;refine J6 ?_;refine Bj (fun z:Bool=>[(0,bif z then GG q else EW k),(1,EW k),(2,.bool true)]) (fun _=>Ev q k at_*R) (fun _=>True) (fun z=>bif z then 1 else 0) true trivial Ea rfl ?_;intro z _
 have hne:(bif z then GG q else EW k)=GG q∨z=false:=by cases z<;>simp
 cases z;rotate_left
 ·dsimp only [cond_true]at*;refine J6 ?_;refine DU 15 rfl (fun hg1=>?_) (fun hg1=>?_)
  ·refine Ia ?_;refine JL (KR (r:=.bool false) rfl rfl (fun w=>by kernel_rfl) (fun w=>by rw [rA])) ?_;refine Ks ?_;refine mc (fun hc=>?_) (fun hc=>?_)
   ·cases hc
   refine J6 ?_;refine JL PR ?_;refine B1 ?_;refine DU 26 rfl (fun hg2=>?_) (fun hg2=>?_)
   ·cases hg2
   refine Wa ?_;refine JL Ni ?_;refine I4 ?_;refine CL ?_;refine JL (Ty (v:=.tuple #[GG q,.bool true]) rfl (run_typeAssert_hasB Az.get Cb _ _)) ?_;refine J4 ?_;refine mc (fun hc=>?_) (fun hc=>?_);rotate_left
   ·cases hc
   refine J8 ?_;refine Am (E? rfl rfl (sY q k at_ R)) rfl ?_;refine Hp ?_;refine Km ?_;refine mc (fun hc=>?_) (fun hc=>?_)
   ·cases hc
   refine J3 ?_;exact Ba false trivial Cc Ea rfl
  cases hg1
 dsimp only [cond_false]at*;refine J6 ?_;refine DU 15 rfl (fun hg1=>?_) (fun hg1=>?_)
 ·refine Ia ?_;refine JL cG ?_;refine Ks ?_;refine mc (fun hc=>?_) (fun hc=>?_);rotate_left
  ·cases hc
  refine CL ?_;exact mr [6] rfl rfl BY
 cases hg1
theorem nL(q k:Nat)(at_:Value)(R:HP):Fn Tryz.prog B 80 [GG q,EW k] (Ev q k at_*R) (fun v H'=>v=.bool true∧H'=Ev q k at_*R):=by
 refine mI Tryz.func80 ?_;refine J9 ?_;refine KA ?_;refine J1 ?_;refine DU 8 rfl (fun hg1=>?_) (fun hg1=>?_)
 ·cases hg1
 refine MQ ?_;refine KA ?_;refine La ?_;refine mc (fun hc=>?_) (fun hc=>?_)
 ·cases hc
 refine J5 ?_;refine JL Qd ?_;refine JL X6 ?_;refine J8 ?_;refine mE rfl (D? q k at_ R) ?_;refine Fg ?_;exact mr [4] rfl rfl BY
theorem gG(hG:B.cell? ⟨0,0,none⟩=some (DH 106))(k:Nat)(H:HP):Fn Tryz.prog B 44 [EW k] H (fun v H'=>v=.tuple #[.int .i64 k,.int .i64 (-1)]∧H'=H):=by
 refine Uo ?_;rintro _ _ ⟨b4,rfl,rfl⟩;refine J4 ?_;refine OT ?_;rintro _ _ ⟨b5,rfl,rfl⟩;refine J7 ?_;refine KA ?_;refine J3 ?_;refine mc (fun hc=>?_) (fun hc=>?_)
 ·cases hc
 refine J3 ?_;refine JL Hn ?_;refine Qx ?_;refine mE rfl (oK hG k _ b4 _) ?_;refine IN ?_;refine DU 13 rfl (fun hg1=>?_) (fun hg1=>?_)
 ·cases hg1
 refine IE ?_;refine IE ?_;refine IL ?_;refine JL ID ?_;refine J3 ?_;refine Kj ?_;refine J3 ?_;refine JL Hn ?_;refine Qx ?_;refine mE rfl (tE hG k _ b5 _) ?_;refine IN ?_;refine DU 34 rfl (fun hg2=>?_) (fun hg2=>?_)
 ·refine JG hg2 ?_;refine J1 ?_;refine JG hg2 ?_;refine D9 ?_;refine JG hg2 ?_;refine JL Hn ?_;refine JG hg2 ?_;refine mE rfl (zQ k _) ?_;refine JR ?_;refine JL OC ?_;refine J3 ?_;refine mc (fun hc=>?_) (fun hc=>?_);rotate_left
  ·cases hc
  refine J2 ?_;refine D9 ?_;refine J7 ?_;exact mR [2,3] H rfl rfl BY
 cases hg2
theorem XE(hG:B.cell? ⟨0,0,none⟩=some (DH 106))(k:Nat)(H:HP):Fn Tryz.prog B 40 [EW k] H (fun v H'=>v=.int .i64 k∧H'=H):=by
 refine VM ?_;refine mE rfl (gG hG k _) ?_;refine JR ?_;refine HI ?_;exact Lo
theorem Zs(hG:B.cell? ⟨0,0,none⟩=some (DH 106))(q k:Nat)(at_:Value)(R:HP):Fn Tryz.prog B 44 [GG q] (Ev q k at_*R) (fun v H'=>v=.tuple #[.int .i64 k,at_]∧H'=Ev q k at_*R):=by
 refine Uo ?_;rintro _ _ ⟨b4,rfl,rfl⟩;refine J4 ?_;refine OT ?_;rintro _ _ ⟨b5,rfl,rfl⟩;refine J7 ?_;refine KA ?_;refine J3 ?_;refine mc (fun hc=>?_) (fun hc=>?_)
 ·cases hc
 refine J3 ?_;refine JL Hn ?_;refine Qx ?_;refine mE rfl (tM hG q _ b4 _) ?_;refine IN ?_;refine DU 13 rfl (fun hg1=>?_) (fun hg1=>?_)
 ·refine MQ ?_;refine D9 ?_;refine Ia ?_;refine D9 ?_;refine IA ?_;refine JL Hn ?_;refine BQ (H':=Ev q k at_*(HP.AA b4 0 [ptr q 0]*(HP.AA b5 0 [.int .i64 0]*R))) Cg ?_;refine IA ?_;refine mE rfl (nL q k at_ _) ?_;refine JR ?_;refine JL J0 ?_;refine J3 ?_;refine mc (fun hc=>?_) (fun hc=>?_);rotate_left
  ·cases hc
  refine J1 ?_;refine mA 10 10 ?_;refine Jd 0 ?_;refine Lr ?_;refine JB ?_;refine Jn 5 ?_;refine Jf 6 ?_;refine Jd 7 ?_;refine Ja 8 ?_;refine Ja 9 ?_;refine K8 ?_;exact mR [2,3] (Ev q k at_*R) rfl rfl BY
 cases hg1
theorem rK(hG:B.cell? ⟨0,0,none⟩=some (DH 106))(q k:Nat)(at_:Value)(R:HP):Fn Tryz.prog B 40 [GG q] (Ev q k at_*R) (fun v H'=>v=.int .i64 k∧H'=Ev q k at_*R):=by
 refine VM ?_;refine mE rfl (Zs hG q k at_ _) ?_;refine JR ?_;refine HI ?_;exact Lo
theorem wI(hG:B.cell? ⟨0,0,none⟩=some (DH 106))(ks:List UInt8)(hk:ks.length=16)(first:Bool)(xs:List UInt8)(p:Option Addr)(b o c:Nat)(H:HP)(hs:Sl p b o xs.length c)(hr:Ai B H b o xs)(hx:xs.length<90000000)(hop:B3 ks (Ae first) xs=none):
  Fn Tryz.prog B 55 [.agg (AG ks).toArray,.bool first,.slice p xs.length c] H (fun v H'=>v=.tuple #[u64 0,.slice none 0 0,.int .i64 4]∧H'=H):=by
 refine mI Tryz.func55 ?_;refine J2 ?_;refine KQ ?_;rintro _ _ ⟨b3,rfl,rfl⟩;refine eA ?_;rintro _ _ ⟨p14,b14,o14,c14,s14,rfl,hs14,hc14,rfl⟩;rw [j_]at hs14 hc14⊢;refine J5 ?_;refine JL Oa ?_;refine J2 ?_;refine mE rfl (S_ ks hk first xs p14 b14 o14 c14 _ hs14 inferInstance hx hop) ?_;refine JR ?_;refine DV ?_;refine mE rfl (N4 p14 b14 o14 c14 xs.length xs s14 _ hs14 rfl Ca) ?_;rintro _ _ ⟨ys,hys,rfl⟩;refine J7 ?_;refine mE rfl (XE hG 4 _) ?_;refine Hp ?_;exact mR [6,7,8] H rfl rfl BY
theorem gZ(ks:List UInt8)(hk:ks.length=16)(first:Bool)(xs:List UInt8)(n:UInt64)(ys:List UInt8)(p:Option Addr)(b o c:Nat)(H:HP)(hs:Sl p b o xs.length c)(hr:Ai B H b o xs)(hx:xs.length<90000000)(hop:B3 ks (Ae first) xs=some (n,ys)):
  Fn Tryz.prog B 55 [.agg (AG ks).toArray,.bool first,.slice p xs.length c] H (fun v H'=>∃sv,v=.tuple #[u64 n,sv,.int .i64 0]∧((ys=[]∧sv=.slice none 0 0∧H'=H)∨(ys≠ []∧CB H ys sv H'))):=by
 refine mI Tryz.func55 ?_;refine J2 ?_;refine KQ ?_;rintro _ _ ⟨b3,rfl,rfl⟩;refine eA ?_;rintro _ _ ⟨p14,b14,o14,c14,s14,rfl,hs14,hc14,rfl⟩;rw [j_]at hs14 hc14⊢;refine J5 ?_;refine JL Oa ?_;refine J2 ?_;refine mE rfl (vA ks hk first xs n ys p14 b14 o14 c14 _ hs14 inferInstance hx hop) ?_;rintro _ H0 ⟨sv,rfl,hsv⟩
 obtain⟨H19,hH19,hsw⟩:∃H19:HP,H0=H19*(AB b14 o14 xs s14*(HP.AA b3 0 (AG ks)*H))∧((ys=[]∧sv=.slice none 0 0∧H19=HP.BN)∨(ys≠ []∧CB HP.BN ys sv H19)):=by
  rcases hsv with⟨h1,h2,h3⟩|⟨h1,p',b',o',c',s',h2,h3,h4,h5⟩
  ·exact⟨HP.BN,(by rw [h3,HP.BR]),.inl ⟨h1,h2,rfl⟩⟩
  ·exact⟨AB b' o' ys s',h5,.inr ⟨h1,p',b',o',c',s',h2,h3,h4,(HP.Ge _).symm⟩⟩
 subst hH19;refine DV ?_;refine BQ (HP.CV _ _ _) ?_;refine mE rfl (N4 p14 b14 o14 c14 xs.length xs s14 _ hs14 rfl Ca) ?_;rintro _ _ ⟨zs,hzs,rfl⟩;refine J7 ?_;refine mE rfl (bO _) ?_;refine Hp ?_
 exact mR [6,7,8] (H19*H) rfl rfl ⟨_,rfl,by
   rcases hsw with⟨h1,h2,h3⟩|⟨h1,p',b',o',c',s',h2,h3,h4,h5⟩
   ·exact .inl ⟨h1,h2,by rw [h3,HP.BR]⟩
   ·exact .inr ⟨h1,p',b',o',c',s',h2,h3,h4,by rw [h5,HP.Ge]⟩⟩
end
end Go.Proofs.YtgfdlpcdjklcoaaGreatDoor
