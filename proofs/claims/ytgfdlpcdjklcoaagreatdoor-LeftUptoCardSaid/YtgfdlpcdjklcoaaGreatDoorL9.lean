/- A part of this proof: steps of the program, plain facts; no condition. -/
import Derived.Test.YtgfdlpcdjklcoaaGreatDoorL8
namespace Go.Proofs.YtgfdlpcdjklcoaaGreatDoor
open Go Go.RowKit
open _root_.Nat renaming lt_succ_iff_lt_or_eq→J!,zero_le→L?,add_sub_cancel→N?,reduceEqDiff→O!,sub_zero→O?,ble→P_,blt→P!
open _root_.Go.Value renaming bool→J?
open _root_.List renaming length_append→K_,getElem?_cons_zero→K!,getElem?_toArray→K?,getElem?_eq_some_iff→L!,length_eq_zero_iff→M_,getElem?_cons_succ→M!,nil_append→M?,length_pos_iff→N_,flatMap_append→N!,getElem_mem→O_
open _root_.Go.Result renaming andThen→L_
set_option linter.unusedVariables false
set_option maxRecDepth 20000
section
variable{B:World}
theorem HQ(n:Nat)(hn:n≤4611686018427387903)(p:Option Addr)(b o c:Nat)(xs:List UInt8)(s:List Value)(R:HP)(hs:Sl p b o xs.length c)(hc:xs.length*1+s.length=c*1)(hx:xs.length<1000000000000):
  Fn Tryz.prog B 194 [.slice p xs.length c,uN n] (AB b o xs s*R) (fun v H'=>B5 R (xs++AV n) v H'):=by
 refine ZK ?_;refine mC (fun hc0=>?_) (fun hc0=>?_)
 ·refine J4 ?_;refine Gy ?_;refine LE ?_;rintro _ _ ⟨b11,rfl,rfl⟩;refine A9 (H':=AB b o xs s*(HP.AA b11 0 (AD (AV n))*R)) Yv ?_
  have hl:(AV n).length=1:=by simp [AV, *]
  refine Ag (CX (ys:=AV n) (bb:=b11) (oo:=0) (cc:=1) rfl hs hc Cz Ju inferInstance rfl KP Ca) rfl ?_;rintro _ _ ⟨q,b',o',c',s',rfl,h1,h2,rfl⟩;refine J6 ?_;exact OT
 refine J3 ?_;refine JL (D4 (j:=16384) rfl rfl) ?_;refine J3 ?_;refine mC (fun hc1=>?_) (fun hc1=>?_)
 ·refine dL ?_;rintro _ _ ⟨b23,rfl,rfl⟩;refine A9 (H':=AB b o xs s*(HP.AA b23 0 (AD (AV n))*R)) Wt ?_
  have hl:(AV n).length=2:=by simp [AV, *]
  refine Ag (CX (ys:=AV n) (bb:=b23) (oo:=0) (cc:=2) rfl hs hc Cz Ju inferInstance rfl KP Ca) rfl ?_;rintro _ _ ⟨q,b',o',c',s',rfl,h1,h2,rfl⟩;refine J6 ?_;exact OT
 refine J3 ?_;refine JL (D4 (j:=1073741824) rfl rfl) ?_;refine J3 ?_;refine mC (fun hc2=>?_) (fun hc2=>?_)
 ·refine Xu ?_;rintro _ _ ⟨b41,rfl,rfl⟩;refine A9 (H':=AB b o xs s*(HP.AA b41 0 (AD (AV n))*R)) YO ?_
  have hl:(AV n).length=4:=by simp [AV, *]
  refine Ag (CX (ys:=AV n) (bb:=b41) (oo:=0) (cc:=4) rfl hs hc Cz Ju inferInstance rfl KP Ca) rfl ?_;rintro _ _ ⟨q,b',o',c',s',rfl,h1,h2,rfl⟩;refine J6 ?_;exact OT
 refine Zn ?_;rintro _ _ ⟨b68,rfl,rfl⟩;refine A9 (H':=AB b o xs s*(HP.AA b68 0 (AD (AV n))*R)) X9 ?_
 have hl:(AV n).length=8:=by simp [AV, *]
 refine Ag (CX (ys:=AV n) (bb:=b68) (oo:=0) (cc:=8) rfl hs hc Cz Ju inferInstance rfl KP Ca) rfl ?_;rintro _ _ ⟨q,b',o',c',s',rfl,h1,h2,rfl⟩;refine J4 ?_;exact OT
theorem jX(d:ByteArray)(hd:d.size<1000000000000)(p:Option Addr)(b o c:Nat)(xs:List UInt8)(s:List Value)(R:HP)(hs:Sl p b o xs.length c)(hc:xs.length*1+s.length=c*1)(hx:xs.length<1000000000000):
  Fn Tryz.prog B 200 [.slice p xs.length c,.string d] (AB b o xs s*R) (fun v H'=>B5 R (xs++AV d.size++d.data.toList) v H'):=by
 refine mI Tryz.func200 ?_;refine CB ?_;refine JL FD ?_;refine mE rfl (HQ d.size Ca p b o c xs s R hs hc Ca) ?_;rintro _ _ ⟨p9,b9,o9,c9,s9,rfl,hs9,hc9,rfl⟩;refine J1 ?_;refine Ag (tU (str:=d) rfl hs9 hc9 rfl rfl WD Ca) rfl ?_;rintro _ _ ⟨q,b',o',c',s',rfl,h1,h2,rfl⟩;refine J4 ?_;exact mR [4] (AB b' o' (xs++AV d.size++d.data.toList) s'*R) rfl rfl ⟨q,b',o',c',s',rfl,h1,h2,rfl⟩
theorem d8(t:UInt8)(bt:Nat)(r:RF)(fb:Nat)(p:Option Addr)(b o c:Nat)(xs:List UInt8)(s:List Value)(R:HP)(hs:Sl p b o xs.length c)(hc:xs.length*1+s.length=c*1)(hx:xs.length<100000000000):
  Fn Tryz.prog B 217 [.slice p xs.length c,ptr fb 0,ptr bt 0] (AB b o xs s*(HP.AA fb 0 (AM r)*(HP.AA bt 0 [u8 t]*R))) (fun v H'=>B5 (HP.AA fb 0 (AM r)*(HP.AA bt 0 [u8 t]*R)) (xs++[t]) v H'):=by
 refine mI Tryz.func217 ?_;refine J8 ?_;refine Dw ?_;refine LE ?_;rintro _ _ ⟨b8,rfl,rfl⟩;refine A9 (H':=AB b o xs s*(HP.AA b8 0 (AD [t])*(HP.AA fb 0 (AM r)*(HP.AA bt 0 [u8 t]*R)))) MN ?_;refine Ag (CX (ys:=[t]) (bb:=b8) (oo:=0) (cc:=1) rfl hs hc rfl CG inferInstance rfl Ck Ca) rfl ?_;rintro _ _ ⟨p9,b9,o9,c9,s9,rfl,hs9,hc9,rfl⟩;refine J4 ?_;exact mR [5] (AB b9 o9 (xs++[t]) s9*(HP.AA fb 0 (AM r)*(HP.AA bt 0 [u8 t]*R))) rfl rfl ⟨p9,b9,o9,c9,s9,rfl,hs9,hc9,rfl⟩
theorem dG(fb:Nat)(H:HP):Fn Tryz.prog B 205 [ptr fb 0] H (fun v H'=>v=ptr fb (0+3)∧H'=H):=by
 refine mI Tryz.func205 ?_;refine Gt ?_;exact Kd
theorem rY(bt bq:Nat)(r:RF)(fb:Nat)(p:Option Addr)(b o c:Nat)(xs:List UInt8)(s:List Value)(R:HP)(hs:Sl p b o xs.length c)(hc:xs.length*1+s.length=c*1)(hx:xs.length<100000000000)(hcd:r.f.code≤4611686018427387903):
  Fn Tryz.prog B 219 [.slice p xs.length c,ptr fb 0,ptr bt 0,ptr bq 0] (AB b o xs s*(HP.AA fb 0 (AM r)*(HP.AA bt 0 [u8 28]*(HP.AA bq 0 [.func (.func 205) #[] #[]]*R)))) (fun v H'=>B5 (HP.AA fb 0 (AM r)*(HP.AA bt 0 [u8 28]*(HP.AA bq 0 [.func (.func 205) #[] #[]]*R))) (xs++[28]++AV r.f.code) v H'):=by
 refine mI Tryz.func219 ?_;refine J6 ?_;refine Dx (HP.AA fb 0 (AM r)*(HP.AA bt 0 [u8 28]*(HP.AA bq 0 [.func (.func 205) #[] #[]]*R))) 6 11 Dy rfl Cb ?_;refine FX ?_;refine Jd 1 ?_;refine HM ?_;refine Jm 5 ?_;refine Am 2 Cb rfl rfl Hn ?_;rintro _ _ ⟨b9,rfl,rfl⟩;refine A6 ?_;refine EI (H':=AB b o xs s*(HP.AA b9 0 (AD [(28:UInt8)])*(HP.AA fb 0 (AM r)*(HP.AA bt 0 [u8 28]*(HP.AA bq 0 [.func (.func 205) #[] #[]]*R))))) MN ?_;refine Am 3 Cb rfl rfl (CX (ys:=[28]) (bb:=b9) (oo:=0) (cc:=1) rfl hs hc rfl CG inferInstance rfl Ck Ca) ?_;rintro _ _ ⟨p10,b10,o10,c10,s10,rfl,hs10,hc10,rfl⟩;refine A6 ?_;refine Am 6 Cb rfl rfl (Ht rfl rfl (dG fb _)) ?_;refine JR ?_;refine DW ?_;refine EV 7 Cb rfl rfl CT ED ?_;refine EV 8 Cb rfl rfl Dn ED ?_;refine Am 9 Cb rfl rfl (BJ rfl (HQ r.f.code hcd p10 b10 o10 c10 (xs++[28]) s10 _ hs10 hc10 Ck)) ?_;rintro _ _ ⟨p16,b16,o16,c16,s16,rfl,hs16,hc16,rfl⟩;refine DW ?_;refine EV 10 Cb rfl rfl Fg ED ?_;refine Da ?_
 exact mR [6] (AB b16 o16 (xs++[28]++AV r.f.code) s16*(HP.AA fb 0 (AM r)*(HP.AA bt 0 [u8 28]*(HP.AA bq 0 [.func (.func 205) #[] #[]]*R)))) rfl rfl ⟨p16,b16,o16,c16,s16,rfl,hs16,hc16,rfl⟩
theorem uL(r:RF)(fb:Nat)(p:Option Addr)(b o c:Nat)(xs:List UInt8)(s:List Value)(R:HP)(hs:Sl p b o xs.length c)(hc:xs.length*1+s.length=c*1)(hx:xs.length<100000000000)(st:Nat)(hst:r.f.stream=(st:Nat))(hst4:st<4)(hcd:r.f.code≤4611686018427387903)(hof:r.f.offset≤4611686018427387903):
  Fn Tryz.prog B 193 [.slice p xs.length c,ptr fb 0] (AB b o xs s*(HP.AA fb 0 (AM r)*R)) (fun v H'=>B5 (HP.AA fb 0 (AM r)*R) (xs++[4]++AV st++AV r.f.code++AV r.f.offset) v H'):=by
 refine mI Tryz.func193 ?_;have q1:=CS st;have q2:=CS r.f.code;have q3:=CS r.f.offset;refine bZ ?_;rintro _ _ ⟨b6,rfl,rfl⟩;refine A6 ?_;refine ZX ?_;refine Am 2 Cb rfl rfl (CX (ys:=[4]) (bb:=b6) (oo:=0) (cc:=1) rfl hs hc rfl CG inferInstance rfl Ck Ca) ?_;rintro _ _ ⟨p7,b7,o7,c7,s7,rfl,hs7,hc7,rfl⟩;refine A6 ?_;refine Am 8 Cb rfl rfl (BJ rfl (HQ (st) Ca p7 b7 o7 c7 (xs++[4]) s7 _ hs7 hc7 Co)) ?_;rintro _ _ ⟨p13,b13,o13,c13,s13,rfl,hs13,hc13,rfl⟩;refine A6 ?_;refine Am 13 Cb rfl rfl (BJ rfl (HQ (r.f.code) hcd p13 b13 o13 c13 (xs++[4]++AV st) s13 _ hs13 hc13 Co)) ?_
 rintro _ _ ⟨p18,b18,o18,c18,s18,rfl,hs18,hc18,rfl⟩;refine A6 ?_;refine Am 18 Cb rfl rfl (BJ rfl (HQ (r.f.offset) hof p18 b18 o18 c18 (xs++[4]++AV st++AV r.f.code) s18 _ hs18 hc18 Co)) ?_;rintro _ _ ⟨p23,b23,o23,c23,s23,rfl,hs23,hc23,rfl⟩;refine DW ?_;refine EV 19 Cb rfl rfl Fg ED ?_;refine Da ?_;exact mR [4] (AB b23 o23 (xs++[4]++AV st++AV r.f.code++AV r.f.offset) s23*(HP.AA fb 0 (AM r)*R)) rfl rfl ⟨p23,b23,o23,c23,s23,rfl,hs23,hc23,rfl⟩
theorem lT(r:RF)(fb:Nat)(p:Option Addr)(b o c:Nat)(xs:List UInt8)(s:List Value)(R:HP)(hs:Sl p b o xs.length c)(hc:xs.length*1+s.length=c*1)(hx:xs.length<100000000000)(st:Nat)(hst:r.f.stream=(st:Nat))(hst4:st<4)(hof:r.f.offset≤4611686018427387903)(hds:r.f.data.size<1000000000000):
  Fn Tryz.prog B 199 [.slice p xs.length c,ptr fb 0] (AB b o xs s*(HP.AA fb 0 (AM r)*R)) (fun v H'=>B5 (HP.AA fb 0 (AM r)*R) (xs++[bif r.f.fin then 9 else 8]++AV st++AV r.f.offset++AV r.f.data.size++r.f.data.data.toList) v H'):=by
 refine mI Tryz.func199 ?_;have q1:=CS st;have q2:=CS r.f.code;have q3:=CS r.f.offset;refine J7 ?_;refine JL cR ?_;refine J8 ?_;refine Dw ?_;refine J2 ?_;refine CO (α:=Unit) (fun _=>[(0,.slice p xs.length c),(1,ptr fb 0),(5,u8 (bif r.f.fin then 9 else 8))]) (fun _=>AB b o xs s*(HP.AA fb 0 (AM r)*R)) (fun _=>True) ?_ ?_
 ·refine mc (fun hc0=>?_) (fun hc0=>?_)
  ·refine J1 ?_;refine JL WU ?_;refine J1 ?_;exact Pe
  refine J1 ?_;exact Pe
 ·rintro z hz;refine cD ?_;rintro _ _ ⟨b12,rfl,rfl⟩;refine A6 ?_;refine XK ?_;refine Am 3 Cb rfl rfl (CX (ys:=[(bif r.f.fin then(9:UInt8)else 8)]) (bb:=b12) (oo:=0) (cc:=1) rfl hs hc rfl CG inferInstance rfl Ck Ca) ?_;rintro _ _ ⟨p13,b13,o13,c13,s13,rfl,hs13,hc13,rfl⟩;refine A6 ?_;refine Am 9 Cb rfl rfl (BJ rfl (HQ (st) Ca p13 b13 o13 c13 (xs++[bif r.f.fin then 9 else 8]) s13 _ hs13 hc13 Co)) ?_;rintro _ _ ⟨p19,b19,o19,c19,s19,rfl,hs19,hc19,rfl⟩;refine A6 ?_;refine Am 14 Cb rfl rfl (BJ rfl (HQ (r.f.offset) hof p19 b19 o19 c19 (xs++[bif r.f.fin then 9 else 8]++AV st) s19 _ hs19 hc19 Co)) ?_
  rintro _ _ ⟨p24,b24,o24,c24,s24,rfl,hs24,hc24,rfl⟩;refine A6 ?_;refine Am 19 Cb rfl rfl (BJ rfl (jX r.f.data hds p24 b24 o24 c24 (xs++[bif r.f.fin then 9 else 8]++AV st++AV r.f.offset) s24 _ hs24 hc24 Ck)) ?_;rintro _ _ ⟨p29,b29,o29,c29,s29,rfl,hs29,hc29,rfl⟩;refine DW ?_;refine O3 ?_;refine Da ?_;exact mR [4] (AB b29 o29 (xs++[bif r.f.fin then 9 else 8]++AV st++AV r.f.offset++AV r.f.data.size++r.f.data.data.toList) s29*(HP.AA fb 0 (AM r)*R)) rfl rfl ⟨p29,b29,o29,c29,s29,rfl,hs29,hc29,rfl⟩
theorem oT(fb:Nat)(H:HP):Fn Tryz.prog B 198 [ptr fb 0] H (fun v H'=>v=.bool true∧H'=H):=by
 refine mI Tryz.func198 ?_;refine Bt ?_;exact Kd
theorem qD(r:RF)(fb:Nat)(R:HP)(hof:r.f.offset≤4611686018427387903)(hds:r.f.data.size<1000000000000):
  Fn Tryz.prog B 203 [ptr fb 0] (HP.AA fb 0 (AM r)*R) (fun v H'=>v=.bool (decide (r.f.data.size+r.f.offset≤4611686018427387903))∧H'=HP.AA fb 0 (AM r)*R):=by
 refine mI Tryz.func203 ?_;refine J6 ?_;refine mA 13 13 ?_;refine IN ?_;refine JT 4 rfl G6 ?_;refine JT 5 rfl FD ?_;refine Kp ?_;refine Jf 8 ?_;refine Jd 9 ?_;refine JT 10 rfl (KY (i:=4611686018427387903) rfl rfl Ca) ?_;refine JT 11 rfl KV ?_;refine Ja 12 ?_;refine Da ?_;exact mR [2] (HP.AA fb 0 (AM r)*R) rfl rfl ⟨congrArg J? (decide_eq_decide.2 Ca),rfl⟩
theorem vB(r:RF)(fb:Nat)(p:Option Addr)(b o c:Nat)(xs:List UInt8)(s:List Value)(R:HP)(hs:Sl p b o xs.length c)(hc:xs.length*1+s.length=c*1)(hx:xs.length<100000000000)(hrok:r.ok)(hrd:Ad B R r.b r.o r.f.ranges)(hok:GW r.f.ranges)(hrl:r.f.ranges.length<10000000000):
  Fn Tryz.prog B 190 [.slice p xs.length c,ptr fb 0] (AB b o xs s*(HP.AA fb 0 (AM r)*R)) (fun v H'=>B5 (HP.AA fb 0 (AM r)*R) (xs++[2]++AV (rg r.f.ranges 0).hi++AV (r.f.ranges.length-1)++AV ((rg r.f.ranges 0).hi-(rg r.f.ranges 0).lo)++B3 r.f.ranges (r.f.ranges.length-1)) v H'):=by
 refine mI Tryz.func190 ?_;have hne:0<r.f.ranges.length:=N_.2 hok.1;have h0:=hok.2 0 hne;unfold Fr at h0;have q1:=CS (rg r.f.ranges 0).hi;have q2:=CS (r.f.ranges.length-1);have q3:=CS ((rg r.f.ranges 0).hi-(rg r.f.ranges 0).lo);refine CB ?_;refine Dw ?_;refine JL XT ?_;refine JL Zb ?_;refine K2 ?_;rintro _ _ ⟨b5,rfl,rfl⟩;refine cP ?_;rintro _ _ ⟨b15,rfl,rfl⟩;refine A6 ?_
 refine bM ?_;refine Am 2 Cb rfl rfl (CX (ys:=[2]) (bb:=b15) (oo:=0) (cc:=1) rfl hs hc rfl CG inferInstance rfl Ck Ca) ?_;rintro _ _ ⟨p16,b16,o16,c16,s16,rfl,hs16,hc16,rfl⟩;refine A6 ?_;refine Am 5 Cb rfl rfl (BJ rfl (HQ ((rg r.f.ranges 0).hi) h0.2.1 p16 b16 o16 c16 (xs++[2]) s16 _ hs16 hc16 Co)) ?_;rintro _ _ ⟨p19,b19,o19,c19,s19,rfl,hs19,hc19,rfl⟩;refine A6 ?_;refine Am 13 Cb rfl rfl (BJ rfl (HQ (r.f.ranges.length-1) Ca p19 b19 o19 c19 (xs++[2]++AV (rg r.f.ranges 0).hi) s19 _ hs19 hc19 Co)) ?_;rintro _ _ ⟨p27,b27,o27,c27,s27,rfl,hs27,hc27,rfl⟩;refine A6 ?_;refine Am 19 Cb rfl rfl (BJ rfl (HQ ((rg r.f.ranges 0).hi-(rg r.f.ranges 0).lo) Ca p27 b27 o27 c27 (xs++[2]++AV (rg r.f.ranges 0).hi++AV (r.f.ranges.length-1)) s27 _ hs27 hc27 Co)) ?_;rintro _ _ ⟨p33,b33,o33,c33,s33,rfl,hs33,hc33,rfl⟩;refine DW ?_;refine O3 ?_;refine JQ ?_
 refine HW (AB b33 o33 (xs++[2]++AV (rg r.f.ranges 0).hi++AV (r.f.ranges.length-1)++AV ((rg r.f.ranges 0).hi-(rg r.f.ranges 0).lo)) s33*(HP.AA fb 0 (AM r)*R)) ?_;refine J4 ?_;refine Dw ?_;refine JL Zv ?_;refine Je ?_;generalize hpre:(xs++[2]++AV (rg r.f.ranges 0).hi++AV (r.f.ranges.length-1)++AV ((rg r.f.ranges 0).hi-(rg r.f.ranges 0).lo))=pre at*
 have hpl:pre.length<200000000000:=by rw [←hpre];simp only [K_,List.length_cons,List.length_nil];omega
 refine Bm (α:=Nat×Option Addr×Nat×Nat×Nat×List Value) (fun z=>[(0,.slice z.2.1 (pre++B3 r.f.ranges z.1).length z.2.2.2.2.1),(1,ptr fb 0),(38,.slice (sp r.p r.c 1 2) (r.f.ranges.length-1) (r.c-1)),(39,iN (r.f.ranges.length-1)),(40,iN z.1)]) (fun z=>AB z.2.2.1 z.2.2.2.1 (pre++B3 r.f.ranges z.1) z.2.2.2.2.2*(HP.AA fb 0 (AM r)*R)) (fun z=>z.1≤r.f.ranges.length-1∧Sl z.2.1 z.2.2.1 z.2.2.2.1 (pre++B3 r.f.ranges z.1).length z.2.2.2.2.1∧(pre++B3 r.f.ranges z.1).length*1+z.2.2.2.2.2.length=z.2.2.2.2.1*1) (fun z=>r.f.ranges.length-1-z.1) (0,p33,b33,o33,c33,s33) ⟨L? _,by simpa [B3]using hs33,by simpa [B3]using hc33⟩ VF eC ?_
 rintro⟨i,p9,b9,o9,c9,s9⟩ ⟨hi,hs9,hc9⟩;dsimp only at hi hs9 hc9⊢;have hel:=PK r.f.ranges i
 have hyl:(pre++B3 r.f.ranges i).length<900000000000:=by simp;omega
 generalize hys:pre++B3 r.f.ranges i=ys at*;refine J6 ?_;refine mC (fun hlt=>?_) (fun hlt=>?_)
 ·have hk:=hok.2 (i+1) Ca;have hk0:=hok.2 i Ca;unfold Fr at hk hk0;simp only [N?]at hk;refine J7 ?_;refine JL V3 ?_;refine JL aT ?_;refine K2 ?_;rintro _ _ ⟨b7,rfl,rfl⟩;refine J1 ?_;refine IF ?_;refine J2 ?_;refine Ai (H':=AB b9 o9 ys s9*(HP.AA b7 0 [uN (rg r.f.ranges (i+1)).lo,uN (rg r.f.ranges (i+1)).hi]*(HP.AA fb 0 (AM r)*R))) (HP.CI _ _ _) ?_;have v1:=CS ((rg r.f.ranges i).lo-(rg r.f.ranges (i+1)).hi-2);refine Wn ?_;refine EX ?_;refine dF ?_;refine Sx ?_
  refine Am 13 Cb rfl rfl (BJ rfl (HQ ((rg r.f.ranges i).lo-(rg r.f.ranges (i+1)).hi-2) Ca p9 b9 o9 c9 (ys) s9 _ hs9 hc9 Co)) ?_;rintro _ _ ⟨p58,b58,o58,c58,s58,rfl,hs58,hc58,rfl⟩;refine A6 ?_;refine Am 19 Cb rfl rfl (BJ rfl (HQ ((rg r.f.ranges (i+1)).hi-(rg r.f.ranges (i+1)).lo) Ca p58 b58 o58 c58 (ys++AV ((rg r.f.ranges i).lo-(rg r.f.ranges (i+1)).hi-2)) s58 _ hs58 hc58 Ck)) ?_;rintro _ _ ⟨p64,b64,o64,c64,s64,rfl,hs64,hc64,rfl⟩;rw [←hys,Yp]at hs64 hc64⊢;refine A6 ?_;refine Ja 20 ?_;refine JQ ?_;refine E7 ?_;exact Bd (AB b64 o64 (pre++B3 r.f.ranges (i+1)) s64*(HP.AA fb 0 (AM r)*R)) (Ba (i+1,p64,b64,o64,c64,s64) ⟨Ca,hs64,hc64⟩ cK G4 rfl)
 have hie:i=r.f.ranges.length-1:=by omega
 refine DP ?_;subst hie;rw [←hys]at hs9 hc9⊢;exact mR [4] (AB b9 o9 (pre++B3 r.f.ranges (r.f.ranges.length-1)) s9*(HP.AA fb 0 (AM r)*R)) rfl rfl (by rw [←hpre]at hs9 hc9⊢;exact⟨p9,b9,o9,c9,s9,rfl,hs9,hc9,rfl⟩)
theorem lL(r:RF)(fb:Nat)(R:HP)(hrok:r.ok)(hrd:Ad B R r.b r.o r.f.ranges)(hrl:r.f.ranges.length<10000000000):
  Fn Tryz.prog B 192 [ptr fb 0] (HP.AA fb 0 (AM r)*R) (fun v H'=>v=.bool (decide (GW r.f.ranges))∧H'=HP.AA fb 0 (AM r)*R):=by
 refine mI Tryz.func192 ?_;refine Bt ?_;refine Dw ?_;refine Je ?_;refine Bm (fun i:Nat=>[(0,ptr fb 0),(8,.slice r.p r.f.ranges.length r.c),(9,iN r.f.ranges.length),(10,iN i)]) (fun _=>(HP.AA fb 0 (AM r)*R)) (fun i=>i≤r.f.ranges.length∧∀j,j<i→Fr r.f.ranges j) (fun i=>r.f.ranges.length-i) 0 ⟨L? _,fun j hj=>by omega⟩ C9 rfl ?_;rintro i ⟨hi,hall⟩;dsimp only at hi hall⊢;refine J6 ?_;refine mC (fun hlt=>?_) (fun hlt=>?_)
 ·refine J7 ?_;refine JL (CU (b:=r.b) (o:=r.o) rfl rfl hrok hlt) ?_;refine JL (Nl (i:=i) (xs:=r.f.ranges) rfl inferInstance hlt) ?_;refine K2 ?_;rintro _ _ ⟨b4,rfl,rfl⟩;refine J1 ?_;refine ML ?_;refine Ep ?_;refine mA 41 41 ?_;refine It ?_;refine I3 ?_;refine Kf ?_;refine JT 4 rfl H9 ?_;refine Jm 5 ?_;refine Gb 20 rfl (fun hg1=>?_) (fun hg1=>?_)
  ·refine JN 6 rfl T1 ?_;refine JN 7 rfl T1 ?_;refine JN 8 rfl T1 ?_;refine JT 9 rfl Fu ?_;refine cY ?_;refine EW 13 rfl Cb rfl rfl rfl rfl ?_;refine JU 14 ?_;refine UA ?_;refine JU 24 ?_;refine Q8 ?_;refine JU 38 ?_;refine EW 39 rfl Cb rfl rfl rfl rfl ?_;refine JT 40 rfl Uh ?_;refine FC ?_;refine GZ ?_;refine Bt ?_
   first|exact mR [2] (HP.AA fb 0 (AM r)*R) rfl rfl Ny|exact mR [2] (HP.AA fb 0 (AM r)*R) rfl rfl NJ
  refine JY 6 rfl F1 BO ?_;refine JY 7 rfl F1 Dn ?_;refine JY 8 rfl F1 O4 ?_;refine JT 9 rfl Eo ?_;refine Jm 10 ?_;refine Gb 25 rfl (fun hg2=>?_) (fun hg2=>?_)
  ·refine JN 11 rfl T2 ?_;refine JN 12 rfl T2 ?_;refine JN 13 rfl T2 ?_;refine JU 14 ?_;refine UA ?_;refine JU 24 ?_;refine Q8 ?_;refine JU 38 ?_;refine JN 39 rfl T2 ?_;refine JT 40 rfl Hr ?_;refine FC ?_;refine GZ ?_;refine Bt ?_
   first|exact mR [2] (HP.AA fb 0 (AM r)*R) rfl rfl Ny|exact mR [2] (HP.AA fb 0 (AM r)*R) rfl rfl NJ
  refine JY 11 rfl F2 Be ?_;refine JY 12 rfl F2 Tj ?_;refine JY 13 rfl F2 Be ?_;refine Gb 28 rfl (fun hg3=>?_) (fun hg3=>?_)
  ·refine JY 14 rfl T3 Be ?_;refine JY 15 rfl T3 CT ?_;refine JY 16 rfl T3 BO ?_;refine JY 17 rfl T3 Dn ?_;refine JY 18 rfl T3 Be ?_;refine JY 19 rfl T3 Ns ?_;refine JY 20 rfl T3 TY ?_;refine JY 21 rfl T3 BO ?_;refine JY 22 rfl T3 YV ?_;refine JY 23 rfl T3 So ?_;refine JY 24 rfl T3 Be ?_;refine Gb 39 rfl (fun hg4=>?_) (fun hg4=>?_)
   ·refine JN 25 rfl T4 ?_;refine JN 26 rfl T4 ?_;refine JN 27 rfl T4 ?_;refine JN 28 rfl T4 ?_;refine JN 29 rfl T4 ?_;refine JN 30 rfl T4 ?_;refine JN 31 rfl T4 ?_;refine JN 32 rfl T4 ?_;refine JN 33 rfl T4 ?_;refine JN 34 rfl T4 ?_;refine JN 35 rfl T4 ?_;refine JN 36 rfl T4 ?_;refine JN 37 rfl T4 ?_;refine JY 38 rfl T3 Ue ?_;refine JY 39 rfl F2 S2 ?_;refine JT 40 rfl HZ ?_;refine FC ?_;refine GZ ?_;refine Bt ?_
    first|exact mR [2] (HP.AA fb 0 (AM r)*R) rfl rfl Ny|exact mR [2] (HP.AA fb 0 (AM r)*R) rfl rfl NJ
   refine JY 25 rfl F4 BO ?_;refine JY 26 rfl F4 Dn ?_;refine JY 27 rfl F4 Be ?_;refine JY 28 rfl F4 CT ?_;refine JY 29 rfl F4 BO ?_;refine JY 30 rfl F4 Dn ?_;refine JY 31 rfl F4 Be ?_;refine JY 32 rfl F4 Ns ?_;refine JY 33 rfl F4 TY ?_;refine JY 34 rfl F4 BO ?_;refine JY 35 rfl F4 YV ?_;refine JY 36 rfl F4 (KY (j:=2) rfl rfl (by have hp:=hall (i-1) Ca;unfold Fr at hp;omega)) ?_;refine JY 37 rfl F4 H9 ?_;refine JY 38 rfl T3 TJ ?_;refine JY 39 rfl F2 S2 ?_;refine JT 40 rfl HZ ?_;refine FC ?_;refine mC (fun hbad=>?_) (fun hbad=>?_)
   ·refine Bt ?_
    first|exact mR [2] (HP.AA fb 0 (AM r)*R) rfl rfl Ny|exact mR [2] (HP.AA fb 0 (AM r)*R) rfl rfl NJ
   refine Hp ?_;refine Bd (HP.AA fb 0 (AM r)*R) (Ba (i+1) ⟨hlt,fun j hj=>?_⟩ Ca C9 rfl);rcases J!.1 hj with h|rfl
   ·exact hall j h
   ·unfold Fr;omega
  refine JN 14 rfl F3 ?_;refine JN 15 rfl F3 ?_;refine JN 16 rfl F3 ?_;refine JN 17 rfl F3 ?_;refine JN 18 rfl F3 ?_;refine JN 19 rfl F3 ?_;refine JN 20 rfl F3 ?_;refine JN 21 rfl F3 ?_;refine JN 22 rfl F3 ?_;refine JN 23 rfl F3 ?_;refine JN 24 rfl F3 ?_;refine Q8 ?_;refine JN 38 rfl F3 ?_;refine JY 39 rfl F2 (Gl F3 rfl rfl) ?_;refine JT 40 rfl HZ ?_;refine FC ?_;refine Kn ?_;refine Hp ?_;refine Bd (HP.AA fb 0 (AM r)*R) (Ba (i+1) ⟨hlt,fun j hj=>?_⟩ Ca C9 rfl);rcases J!.1 hj with h|rfl
  ·exact hall j h
  ·unfold Fr;omega
 have hie:i=r.f.ranges.length:=by omega
 have hdone:∀j,j<r.f.ranges.length→Fr r.f.ranges j:=hie▸hall;refine CB ?_;refine LF ?_;refine JL Tj ?_;refine J4 ?_
 first|exact mR [2] (HP.AA fb 0 (AM r)*R) rfl rfl Ny|exact mR [2] (HP.AA fb 0 (AM r)*R) rfl rfl NJ
end
section
variable{B:World}
abbrev Fh(f:FuncId)(us:List Value):Value:=.func (.func f) #[] us.toArray
structure HI(r:RF):Prop where
 ok:r.ok
 len:r.f.ranges.length<10000000000
 size:r.f.data.size<100000000000
structure Kt(B:World)(k:Int)(f1:FuncId)(us1:List Value)(f3:FuncId)(us3:List Value)(C:HP):Prop where
 W4:Ac Tryz.prog f1
 call3:Ac Tryz.prog f3
 write:∀(r:RF) (fb:Nat) (p:Option Addr) (b o c:Nat) (xs:List UInt8) (s:List Value) (R:HP),HI r→r.f.kind=k→B4 r.f→Ad B R r.b r.o r.f.ranges→Sl p b o xs.length c→xs.length*1+s.length=c*1→xs.length<100000000000→
  Fn Tryz.prog B f1 ([.slice p xs.length c,ptr fb 0]++us1) (AB b o xs s*(HP.AA fb 0 (AM r)*(C*R))) (fun v H'=>B5 (HP.AA fb 0 (AM r)*(C*R)) (xs++Ah r.f) v H')
 sound:∀(r:RF) (fb:Nat) (R:HP),HI r→r.f.kind=k→r.f.offset≤4611686018427387903→Ad B R r.b r.o r.f.ranges→
  Fn Tryz.prog B f3 ([ptr fb 0]++us3) (HP.AA fb 0 (AM r)*(C*R)) (fun v H'=>v=.bool (decide (Hb r.f))∧H'=HP.AA fb 0 (AM r)*(C*R))
theorem vH{f:AU}(h3:f.kind≠3)(h5:f.kind≠5):Hb f:=⟨fun h=>absurd h h3,fun h=>absurd h h5⟩
theorem RA(k:Int)(h3:k≠3)(h5:k≠5)(C:HP)(r:RF)(fb:Nat)(R:HP)(hk:r.f.kind=k):
  Fn Tryz.prog B 198 ([ptr fb 0]++[]) (HP.AA fb 0 (AM r)*(C*R)) (fun v H'=>v=.bool (decide (Hb r.f))∧H'=HP.AA fb 0 (AM r)*(C*R)):=by
 refine(oT fb _).mono ?_;rintro v H' ⟨rfl,rfl⟩;exact⟨congrArg J? (decide_eq_true (vH (hk▸h3) (hk▸h5))).symm,rfl⟩
theorem dO(k:Int)(t:UInt8)(bt:Nat)(hk:(k=1∧t=0)∨(k=2∧t=1)):Kt B k 217 [ptr bt 0] 198 [] (HP.AA bt 0 [u8 t]):=by
 refine⟨inferInstance,inferInstance,?_,?_⟩
 ·intro r fb p b o c xs s R hm hrk hok hr hs hc hx
  have e:Ah r.f=[t]:=by
   rcases hk with⟨rfl,rfl⟩|⟨rfl,rfl⟩<;>simp [Ah,hrk]
  rw [e];have h:=d8 t bt r fb p b o c xs s R hs hc hx (B:=B);exact h
 ·intro r fb R hm hrk _ _;exact RA k cW cW _ r fb R hrk
theorem nU(bt bq:Nat):Kt B 6 219 [ptr bt 0,ptr bq 0] 198 [] (HP.AA bt 0 [u8 28]*HP.AA bq 0 [Fh 205 []]):=by
 refine⟨inferInstance,inferInstance,?_,?_⟩
 ·intro r fb p b o c xs s R hm hrk hok hr hs hc hx
  have e:Ah r.f=[28]++AV r.f.code:=by simp [Ah,hrk]
  rw [e,←List.append_assoc,HP.assoc];exact rY bt bq r fb p b o c xs s R hs hc hx hok.2.1
 ·intro r fb R hm hrk _ _;exact RA 6 Cc Cc _ r fb R hrk
theorem oI:Kt B 3 190 [] 192 [] HP.BD:=by
 refine⟨inferInstance,inferInstance,?_,?_⟩
 ·intro r fb p b o c xs s R hm hrk hok hr hs hc hx
  have e:xs++Ah r.f=xs++[2]++AV (rg r.f.ranges 0).hi++AV (r.f.ranges.length-1)++AV ((rg r.f.ranges 0).hi-(rg r.f.ranges 0).lo)++B3 r.f.ranges (r.f.ranges.length-1):=by
   simp [Ah,hrk,KT]
  rw [e,HP.BI];exact vB r fb p b o c xs s R hs hc hx hm.ok hr (hok.2.2.2.2.1.1 hrk) hm.len
 ·intro r fb R hm hrk _ hr;rw [HP.BI];refine(lL r fb R hm.ok hr hm.len).mono ?_;rintro v H' ⟨rfl,rfl⟩;exact⟨congrArg J? (decide_eq_decide.2 ⟨fun h=>⟨fun _=>h,fun h5=>by rw [hrk]at h5;cases h5⟩,fun h=>h.1 hrk⟩),rfl⟩
theorem yY:Kt B 4 193 [] 198 [] HP.BD:=by
 refine⟨inferInstance,inferInstance,?_,?_⟩
 ·intro r fb p b o c xs s R hm hrk hok hr hs hc hx;obtain⟨h1,h2,h3,h4,h5,h6⟩:=hok
  have e:xs++Ah r.f=xs++[4]++AV r.f.stream.toNat++AV r.f.code++AV r.f.offset:=by simp [Ah,hrk]
  rw [e,HP.BI];exact uL r fb p b o c xs s R hs hc hx r.f.stream.toNat Ca Ca h2 h1
 ·intro r fb R hm hrk _ _;rw [HP.BI]
  have:=RA (B:=B) 4 Cc Cc HP.BD r fb R hrk
  rwa [HP.BI]at this
theorem wA:Kt B 5 199 [] 203 [] HP.BD:=by
 refine⟨inferInstance,inferInstance,?_,?_⟩
 ·intro r fb p b o c xs s R hm hrk hok hr hs hc hx;obtain⟨h1,h2,h3,h4,h5,h6⟩:=hok
  have e:xs++Ah r.f=xs++[bif r.f.fin then 9 else 8]++AV r.f.stream.toNat++AV r.f.offset++AV r.f.data.size++r.f.data.data.toList:=by simp [Ah,hrk]
  rw [e,HP.BI];exact lT r fb p b o c xs s R hs hc hx r.f.stream.toNat Ca Ca h1 S6
 ·intro r fb R hm hrk hof _;rw [HP.BI];refine(qD r fb R hof S6).mono ?_;rintro v H' ⟨rfl,rfl⟩;exact⟨congrArg J? (decide_eq_decide.2 ⟨fun h=>⟨fun h3=>(by rw [hrk]at h3;cases h3),fun _=>h⟩,fun h=>h.2 hrk⟩),rfl⟩
theorem dS(t:UInt8)(H:HP):Fn Tryz.prog B 189 [u8 t] H (fun v H'=>∃bt,v=.agg [Fh 217 [ptr bt 0],Fh 218 [],Fh 198 []].toArray∧H'=HP.AA bt 0 [u8 t]*H):=by
 refine mI Tryz.func189 ?_;refine J2 ?_;refine Ag (Db (l:=[u8 t]) rfl rfl) rfl ?_;rintro _ _ ⟨b1,rfl,rfl⟩;refine Kr ?_;rintro _ _ ⟨b2,rfl,rfl⟩;refine J4 ?_;refine JL GT ?_;refine JL Ey ?_;refine ML ?_;refine Ep ?_;exact MU (HP.AA b1 0 [u8 t]*H) rfl (IM (Mg rfl rfl) Jc) ⟨b1,rfl,rfl⟩
theorem zY(H:HP):Fn Tryz.prog B 204 [u8 28,Fh 205 []] H (fun v H'=>∃bt bq,v=.agg [Fh 219 [ptr bt 0,ptr bq 0],Fh 220 [ptr bq 0],Fh 198 []].toArray∧H'=HP.AA bt 0 [u8 28]*(HP.AA bq 0 [Fh 205 []]*H)):=by
 refine mI Tryz.func204 ?_;refine J2 ?_;refine Ag (Db (l:=[u8 28]) rfl rfl) rfl ?_;rintro _ _ ⟨b2,rfl,rfl⟩;refine Ag (Db (l:=[Fh 205 []]) rfl rfl) rfl ?_;rintro _ _ ⟨b3,rfl,rfl⟩;refine Kr ?_;rintro _ _ ⟨b4,rfl,rfl⟩;refine J4 ?_;refine JL GT ?_;refine JL GT ?_;refine JL Ey ?_;refine ML ?_;refine Ep ?_;exact MU (HP.AA b3 0 [Fh 205 []]*(HP.AA b2 0 [u8 28]*H)) rfl (IM (Mg rfl rfl) Jc) ⟨b2,b3,rfl,HP.CI _ _ _⟩
inductive E5:Int→FuncId→List Value→FuncId→List Value→FuncId→List Value→HP→Prop
 |pad (bt:Nat):E5 1 217 [ptr bt 0] 218 [] 198 [] (HP.AA bt 0 [u8 0])
 |ping (bt:Nat):E5 2 217 [ptr bt 0] 218 [] 198 [] (HP.AA bt 0 [u8 1])
 |HY:E5 3 190 [] 191 [] 192 [] HP.BD
 |reset:E5 4 193 [] 195 [] 198 [] HP.BD
 |data:E5 5 199 [] 201 [] 203 [] HP.BD
 |IS (bt bq:Nat):E5 6 219 [ptr bt 0,ptr bq 0] 220 [ptr bq 0] 198 [] (HP.AA bt 0 [u8 28]*HP.AA bq 0 [Fh 205 []])
theorem E5.S8{k:Int}{f1 f2 f3:FuncId}{us1 us2 us3:List Value}{C:HP}(h:E5 k f1 us1 f2 us2 f3 us3 C):Kt B k f1 us1 f3 us3 C:=by
 cases h
 ·exact dO 1 0 _ (.inl BW)
 ·exact dO 2 1 _ (.inr BW)
 ·exact oI
 ·exact yY
 ·exact wA
 ·exact nU _ _
theorem E5.kind{k:Int}{f1 f2 f3:FuncId}{us1 us2 us3:List Value}{C:HP}(h:E5 k f1 us1 f2 us2 f3 us3 C):Dd k:=by cases h<;>(unfold Dd;decide)
abbrev CV(bc:Nat)(f1 f2 f3:FuncId)(us1 us2 us3:List Value):HP:=HP.AA bc 0 [Fh f1 us1,Fh f2 us2,Fh f3 us3]
theorem B7{P:Program}{n:Nat}{E:A2}{H:HP}{r:Option Nat}{fn:Func}{k:Int}{bc:Nat}{f1 f2 f3:FuncId}{us1 us2 us3:List Value}{C H0:HP}(hr:fn.results=([2].map ResultVar.tmp).toArray)(hv:DR E ([2].map Operand.tmp)=some [ptr bc 0])
  (h:E5 k f1 us1 f2 us2 f3 us3 C)(e:H=CV bc f1 f2 f3 us1 us2 us3*(C*H0)):BC B (Hl P B fn (fun v H'=>(¬Dd k∧v=.pointer none∧H'=H0)∨(∃bc f1 us1 f2 us2 f3 us3 C,E5 k f1 us1 f2 us2 f3 us3 C∧v=ptr bc 0∧H'=CV bc f1 f2 f3 us1 us2 us3*(C*H0)))) .ret n E ⟨[],r⟩ H:=
 Zg hr hv (.inr ⟨bc,f1,us1,f2,us2,f3,us3,C,h,rfl,e⟩)
theorem VJ(k:Int)(H:HP):Fn Tryz.prog B 168 [.int .i64 k] H (fun v H'=>(¬Dd k∧v=.pointer none∧H'=H)∨(∃bc f1 us1 f2 us2 f3 us3 C,E5 k f1 us1 f2 us2 f3 us3 C∧v=ptr bc 0∧H'=CV bc f1 f2 f3 us1 us2 us3*(C*H))):=by
 refine mI Tryz.func168 ?_;refine J7 ?_;refine Ag (FV (l:=[.nilFunc,.nilFunc,.nilFunc]) rfl) rfl ?_;rintro _ _ ⟨b3,rfl,rfl⟩;refine Bt ?_;refine JL (C4 (i:=k) (j:=1) rfl rfl) ?_;refine J3 ?_;refine mC (fun hc=>?_) (fun hnt5=>?_)
 ·refine J1 ?_;refine mE rfl (dS 0 _) ?_;rintro _ _ ⟨bt,rfl,rfl⟩;refine IF ?_;refine J9 ?_
  first
  |exact mR [2] H rfl rfl LK
  |(subst hc;first|exact B7 (bc:=b3) rfl rfl (.pad bt) Cl|exact B7 (bc:=b3) rfl rfl (.ping bt) Cl|exact B7 rfl rfl .HY Cj|exact B7 rfl rfl .reset Cj|exact B7 rfl rfl .data Cj|exact B7 (bc:=b3) rfl rfl (.IS bt bq) Cl)
 refine J2 ?_;refine JL (C4 (i:=k) (j:=2) rfl rfl) ?_;refine J3 ?_;refine mC (fun hc=>?_) (fun hnt8=>?_)
 ·refine J1 ?_;refine mE rfl (dS 1 _) ?_;rintro _ _ ⟨bt,rfl,rfl⟩;refine IF ?_;refine J9 ?_
  first
  |exact mR [2] H rfl rfl LK
  |(subst hc;first|exact B7 (bc:=b3) rfl rfl (.pad bt) Cl|exact B7 (bc:=b3) rfl rfl (.ping bt) Cl|exact B7 rfl rfl .HY Cj|exact B7 rfl rfl .reset Cj|exact B7 rfl rfl .data Cj|exact B7 (bc:=b3) rfl rfl (.IS bt bq) Cl)
 refine J2 ?_;refine JL (C4 (i:=k) (j:=3) rfl rfl) ?_;refine J3 ?_;refine mC (fun hc=>?_) (fun hnt11=>?_)
 ·refine R7 ?_
  first
  |exact mR [2] H rfl rfl LK
  |(subst hc;first|exact B7 (bc:=b3) rfl rfl (.pad bt) Cl|exact B7 (bc:=b3) rfl rfl (.ping bt) Cl|exact B7 rfl rfl .HY Cj|exact B7 rfl rfl .reset Cj|exact B7 rfl rfl .data Cj|exact B7 (bc:=b3) rfl rfl (.IS bt bq) Cl)
 refine J2 ?_;refine JL (C4 (i:=k) (j:=4) rfl rfl) ?_;refine J3 ?_;refine mC (fun hc=>?_) (fun hnt14=>?_)
 ·refine R7 ?_
  first
  |exact mR [2] H rfl rfl LK
  |(subst hc;first|exact B7 (bc:=b3) rfl rfl (.pad bt) Cl|exact B7 (bc:=b3) rfl rfl (.ping bt) Cl|exact B7 rfl rfl .HY Cj|exact B7 rfl rfl .reset Cj|exact B7 rfl rfl .data Cj|exact B7 (bc:=b3) rfl rfl (.IS bt bq) Cl)
 refine J2 ?_;refine JL (C4 (i:=k) (j:=5) rfl rfl) ?_;refine J3 ?_;refine mC (fun hc=>?_) (fun hnt17=>?_)
 ·refine R7 ?_
  first
  |exact mR [2] H rfl rfl LK
  |(subst hc;first|exact B7 (bc:=b3) rfl rfl (.pad bt) Cl|exact B7 (bc:=b3) rfl rfl (.ping bt) Cl|exact B7 rfl rfl .HY Cj|exact B7 rfl rfl .reset Cj|exact B7 rfl rfl .data Cj|exact B7 (bc:=b3) rfl rfl (.IS bt bq) Cl)
 refine J2 ?_;refine JL (C4 (i:=k) (j:=6) rfl rfl) ?_;refine J3 ?_;refine mC (fun hc=>?_) (fun hnt20=>?_)
 ·refine J1 ?_;refine mE rfl (zY _) ?_;rintro _ _ ⟨bt,bq,rfl,rfl⟩;refine IF ?_;refine J9 ?_
  first
  |exact mR [2] H rfl rfl LK
  |(subst hc;first|exact B7 (bc:=b3) rfl rfl (.pad bt) Cl|exact B7 (bc:=b3) rfl rfl (.ping bt) Cl|exact B7 rfl rfl .HY Cj|exact B7 rfl rfl .reset Cj|exact B7 rfl rfl .data Cj|exact B7 (bc:=b3) rfl rfl (.IS bt bq) Cl)
 refine J8 ?_
 first
 |exact mR [2] H rfl rfl LK
 |(subst hc;first|exact B7 (bc:=b3) rfl rfl (.pad bt) Cl|exact B7 (bc:=b3) rfl rfl (.ping bt) Cl|exact B7 rfl rfl .HY Cj|exact B7 rfl rfl .reset Cj|exact B7 rfl rfl .data Cj|exact B7 (bc:=b3) rfl rfl (.IS bt bq) Cl)
theorem Zk(r:RF)(fb bc:Nat)(f1 f2 f3:FuncId)(us1 us2 us3:List Value)(C R:HP)(hF:E5 r.f.kind f1 us1 f2 us2 f3 us3 C)(hw:Kt B r.f.kind f1 us1 f3 us3 C)(hrk:r.f.kind=r.f.kind)(hm:HI r)(hr:Ad B R r.b r.o r.f.ranges):
  Fn Tryz.prog B 169 [ptr fb 0,ptr bc 0] (HP.AA fb 0 (AM r)*(C*(CV bc f1 f2 f3 us1 us2 us3*R))) (fun v H'=>v=.bool (decide (B4 r.f))∧H'=HP.AA fb 0 (AM r)*(C*(CV bc f1 f2 f3 us1 us2 us3*R))):=by
 refine mI Tryz.func169 ?_;refine J7 ?_;refine Dx (HP.AA fb 0 (AM r)*(C*(CV bc f1 f2 f3 us1 us2 us3*R))) 11 11 Dy rfl Cb ?_;refine IN ?_;refine LA ?_;refine JT 10 rfl TV ?_;refine Am 8 Cb rfl rfl Hn ?_;rintro _ _ ⟨b15,rfl,rfl⟩;refine A6 ?_;refine JT 9 rfl FT ?_;refine Da ?_;refine Ai (H':=AB b15 0 [EQ.mk r.f.offset,EQ.mk r.f.code] []*(HP.AA fb 0 (AM r)*(C*(CV bc f1 f2 f3 us1 us2 us3*R)))) rfl ?_;refine Bm (fun i:Nat=>[(0,ptr fb 0),(1,ptr bc 0),(15,.slice (some ⟨b15,0,none⟩) 2 2),(16,iN 2),(17,iN i)]) (fun _=>AB b15 0 [EQ.mk r.f.offset,EQ.mk r.f.code] []*(HP.AA fb 0 (AM r)*(C*(CV bc f1 f2 f3 us1 us2 us3*R)))) (fun i=>i≤2∧(1≤i→r.f.offset≤4611686018427387903)∧(2≤i→r.f.code≤4611686018427387903)) (fun i=>2-i) 0 ⟨Ca,Ca,Ca⟩ G4 rfl ?_;rintro i ⟨hi,ho1,ho2⟩;dsimp only at hi ho1 ho2⊢;refine J2 ?_;refine JL So ?_;refine J3 ?_;refine mC (fun hlt=>?_) (fun hlt=>?_)
 ·refine J6 ?_;refine JL (Ub rfl rfl hlt) ?_;refine JL (xC (xs:=[EQ.mk r.f.offset,EQ.mk r.f.code]) rfl inferInstance hlt) ?_;refine J6 ?_;refine JL O4 ?_;refine J2 ?_;refine mC (fun hbig=>?_) (fun hbig=>?_)
  ·refine Bt ?_
   first
   |exact mR [4] (HP.AA fb 0 (AM r)*(C*(CV bc f1 f2 f3 us1 us2 us3*R))) rfl rfl Qb
   |exact mR [4] (HP.AA fb 0 (AM r)*(C*(CV bc f1 f2 f3 us1 us2 us3*R))) rfl rfl Qq
   |exact mR [4] (HP.AA fb 0 (AM r)*(C*(CV bc f1 f2 f3 us1 us2 us3*R))) rfl rfl P4
   |exact mR [4] (HP.AA fb 0 (AM r)*(C*(CV bc f1 f2 f3 us1 us2 us3*R))) rfl rfl ⟨congrArg J? (decide_eq_false (fun h=>by
     have h1:=h.1
     have h2:=h.2.1
     rcases(by omega:i=0∨i=1)with rfl|rfl
     ·simp at hbig;omega
     ·simp at hbig;omega)).symm,rfl⟩
  refine Hp ?_;refine Ba (i+1) ⟨Ca,fun h=>?_,fun h=>?_⟩ Ca G4 rfl
  ·rcases(by omega:i=0∨1≤i)with rfl|h1
   ·simpa using hbig
   ·exact ho1 h1
  ·obtain rfl:i=1:=by omega
   simpa using hbig
 have hof:=ho1 Ca;have hcd:=ho2 Ca;refine J6 ?_;refine HW (HP.AA fb 0 (AM r)*(C*(CV bc f1 f2 f3 us1 us2 us3*R))) ?_;refine J4 ?_;refine Dw ?_;refine JL (Oi (i:=r.f.stream) (j:=0) rfl rfl) ?_;refine J1 ?_;refine EL 29 rfl (fun hg1=>?_) (fun hg1=>?_)
 ·refine UD ?_;refine J1 ?_;refine JG T1 ?_;refine Dw ?_;refine JG T1 ?_;refine JL (LJ (i:=r.f.stream) (j:=4) rfl rfl) ?_;refine JL Fu ?_;refine J1 ?_;refine EL 36 rfl (fun hg2=>?_) (fun hg2=>?_)
  ·refine MH ?_;refine J1 ?_;refine MH ?_;refine Dw ?_;refine MH ?_;refine Ag (Ht (hf:=hw.call3) rfl rfl (hw.sound r fb _ hm hrk hof inferInstance)) rfl ?_;refine JR ?_;refine JL Hr ?_;refine J4 ?_
   first
   |exact mR [4] (HP.AA fb 0 (AM r)*(C*(CV bc f1 f2 f3 us1 us2 us3*R))) rfl rfl Qb
   |exact mR [4] (HP.AA fb 0 (AM r)*(C*(CV bc f1 f2 f3 us1 us2 us3*R))) rfl rfl Qq
   |exact mR [4] (HP.AA fb 0 (AM r)*(C*(CV bc f1 f2 f3 us1 us2 us3*R))) rfl rfl P4
   |exact mR [4] (HP.AA fb 0 (AM r)*(C*(CV bc f1 f2 f3 us1 us2 us3*R))) rfl rfl ⟨congrArg J? (decide_eq_false (fun h=>by
     have h1:=h.1
     have h2:=h.2.1
     rcases(by omega:i=0∨i=1)with rfl|rfl
     ·simp at hbig;omega
     ·simp at hbig;omega)).symm,rfl⟩
  refine Sy ?_;refine Sy ?_;refine JL HZ ?_;refine J4 ?_
  first
  |exact mR [4] (HP.AA fb 0 (AM r)*(C*(CV bc f1 f2 f3 us1 us2 us3*R))) rfl rfl Qb
  |exact mR [4] (HP.AA fb 0 (AM r)*(C*(CV bc f1 f2 f3 us1 us2 us3*R))) rfl rfl Qq
  |exact mR [4] (HP.AA fb 0 (AM r)*(C*(CV bc f1 f2 f3 us1 us2 us3*R))) rfl rfl P4
  |exact mR [4] (HP.AA fb 0 (AM r)*(C*(CV bc f1 f2 f3 us1 us2 us3*R))) rfl rfl ⟨congrArg J? (decide_eq_false (fun h=>by
    have h1:=h.1
    have h2:=h.2.1
    rcases(by omega:i=0∨i=1)with rfl|rfl
    ·simp at hbig;omega
    ·simp at hbig;omega)).symm,rfl⟩
 refine Rl ?_;refine JH F1 ?_;refine JH F1 ?_;refine JL Eo ?_;refine J1 ?_;refine Kb ?_;refine Kb ?_;refine JL Dh ?_;refine J4 ?_
 first
 |exact mR [4] (HP.AA fb 0 (AM r)*(C*(CV bc f1 f2 f3 us1 us2 us3*R))) rfl rfl Qb
 |exact mR [4] (HP.AA fb 0 (AM r)*(C*(CV bc f1 f2 f3 us1 us2 us3*R))) rfl rfl Qq
 |exact mR [4] (HP.AA fb 0 (AM r)*(C*(CV bc f1 f2 f3 us1 us2 us3*R))) rfl rfl P4
 |exact mR [4] (HP.AA fb 0 (AM r)*(C*(CV bc f1 f2 f3 us1 us2 us3*R))) rfl rfl ⟨congrArg J? (decide_eq_false (fun h=>by
   have h1:=h.1
   have h2:=h.2.1
   rcases(by omega:i=0∨i=1)with rfl|rfl
   ·simp at hbig;omega
   ·simp at hbig;omega)).symm,rfl⟩
end
section
variable{B:World}
theorem SS(k:Int)(hk:Dd k)(H:HP):Fn Tryz.prog B 168 [.int .i64 k] H (fun v H'=>∃bc f1 us1 f2 us2 f3 us3 C,E5 k f1 us1 f2 us2 f3 us3 C∧v=ptr bc 0∧H'=CV bc f1 f2 f3 us1 us2 us3*(C*H)):=
 (VJ k H).mono fun _ _ h=>h.resolve_left fun h=>h.1 hk
theorem tE(k:Int)(hk:¬Dd k)(H:HP):Fn Tryz.prog B 168 [.int .i64 k] H (fun v H'=>v=.pointer none∧H'=H):=
 (VJ k H).mono fun _ _ h=>(h.resolve_right fun⟨_,_,_,_,_,_,_,_,h,_⟩=>hk h.kind).2
theorem rJ(f:AU):Ah f≠ []:=by
 unfold Ah
 repeat' split
 all_goals first|exact fun h=>by cases h|(unfold KT;simp)|simp
section
variable{P:Program}{n:Nat}{E:A2}{D:Bu}{H:HP}{d:Option Tmp}{T T' ty:TypeId}{pos:String}{af:Array Edge}{g:Option (Nat×Bool)}{x y z:Operand}
theorem sW{p:Option Addr}{k c:Nat}(hx:ev E x=some (.slice p k c))(hy:ev E y=some (.slice none 0 0)):
  Aa Tryz.prog B n ⟨d,.binOp .eql 121 x y 121,ty,pos,af,g⟩ E H (.bool p.isNone):=by
 cases p with
 |none=>exact J0 hx hy (fun w=>by kernel_rfl) (fun w=>by kernel_rfl)
 |some a=>exact J0 hx hy (fun w=>by kernel_rfl) (fun w=>by kernel_rfl)
end
theorem vC(r:RF)(p:Option Addr)(b o c:Nat)(xs:List UInt8)(s:List Value)(R:HP)(hm:HI r)(hr:Ad B R r.b r.o r.f.ranges)(hs:Sl p b o xs.length c)(hc:xs.length*1+s.length=c*1)(hx:xs.length<100000000000)(hk:¬Dd r.f.kind):
  Fn Tryz.prog B 138 [.slice p xs.length c,.agg (AM r).toArray] (AB b o xs s*R) (fun v H'=>v=.slice none 0 0∧H'=AB b o xs s*R):=by
 refine mI Tryz.func138 ?_;refine K' ?_;rintro _ _ ⟨b3,rfl,rfl⟩;refine J6 ?_;refine Dw ?_;refine mE rfl (tE r.f.kind hk _) ?_;refine JR ?_;refine J7 ?_;refine JL M9 ?_;refine J1 ?_;refine DO 11 rfl (fun hg1=>?_) (fun hg1=>?_)
 ·refine H3 ?_;refine Jw ?_;refine GZ ?_;refine J7 ?_;exact mR [4] (AB b o xs s*R) rfl rfl BW
 cases hg1
theorem d9(r:RF)(p:Option Addr)(b o c:Nat)(xs:List UInt8)(s:List Value)(R:HP)(hm:HI r)(hr:Ad B R r.b r.o r.f.ranges)(hs:Sl p b o xs.length c)(hc:xs.length*1+s.length=c*1)(hx:xs.length<100000000000)(hk:Dd r.f.kind):
  Fn Tryz.prog B 138 [.slice p xs.length c,.agg (AM r).toArray] (AB b o xs s*R) (fun v H'=>(B4 r.f∧B5 R (xs++Ah r.f) v H')∨(¬B4 r.f∧v=.slice none 0 0∧H'=AB b o xs s*R)):=by
 refine mI Tryz.func138 ?_;refine K' ?_;rintro _ _ ⟨b3,rfl,rfl⟩;refine J6 ?_;refine Dw ?_;refine mE rfl (SS r.f.kind hk _) ?_;rintro _ _ ⟨bc,f1,us1,f2,us2,f3,us3,C,hF,rfl,rfl⟩;have hw:=hF.S8 (B:=B);have hq1:=hw.W4;refine J7 ?_;refine JZ ?_;refine J1 ?_;refine DO 11 rfl (fun hg1=>?_) (fun hg1=>?_)
 ·cases hg1
 refine aD ?_;refine mC (fun hcc=>?_) (fun hcc=>?_)
 ·refine J7 ?_
  first
  |exact mR [4] (AB b o xs s*R) rfl rfl (.inr ⟨hcc,rfl,rfl⟩)
  |exact mR [4] (AB b21 o21 (xs++Ah r.f) s21*R) rfl rfl Yq
 have hok:B4 r.f:=Classical.not_not.1 hcc;refine J7 ?_;refine LF ?_;refine Vq ?_;refine Ag (Ht rfl rfl (hw.write r b3 p b o c xs s _ hm rfl hok inferInstance hs hc hx)) rfl ?_;rintro _ _ ⟨p21,b21,o21,c21,s21,rfl,hs21,hc21,rfl⟩;refine J4 ?_
 first
 |exact mR [4] (AB b o xs s*R) rfl rfl (.inr ⟨hcc,rfl,rfl⟩)
 |exact mR [4] (AB b21 o21 (xs++Ah r.f) s21*R) rfl rfl Yq
theorem gN(r:RF)(p:Option Addr)(b o c:Nat)(xs:List UInt8)(s:List Value)(R:HP)(hm:HI r)(hr:Ad B R r.b r.o r.f.ranges)(hs:Sl p b o xs.length c)(hc:xs.length*1+s.length=c*1)(hx:xs.length<100000000000):
  Fn Tryz.prog B 138 [.slice p xs.length c,.agg (AM r).toArray] (AB b o xs s*R) (fun v H'=>(B4 r.f∧B5 R (xs++Ah r.f) v H')∨(¬B4 r.f∧v=.slice none 0 0∧H'=AB b o xs s*R)):=by
 by_cases hk:Dd r.f.kind
 ·exact d9 r p b o c xs s R hm hr hs hc hx hk
 ·exact(vC r p b o c xs s R hm hr hs hc hx hk).mono fun v H' h=>.inr ⟨fun ho=>hk ho.2.2.2.2.2,h⟩
theorem j5(r:RF)(p:Option Addr)(b o c:Nat)(xs:List UInt8)(s:List Value)(R:HP)(hm:HI r)(hr:Ad B R r.b r.o r.f.ranges)(hs:Sl p b o xs.length c)(hc:xs.length*1+s.length=c*1)(hx:xs.length<100000000000):
  Fn Tryz.prog B 138 [.slice p xs.length c,.agg (AM r).toArray] (AB b o xs s*R) (fun v H'=>∃p' b' o' c' s' ys,v=.slice p' ys.length c'∧Sl p' b' o' ys.length c'∧ys.length*1+s'.length=c'*1∧H'=AB b' o' ys s'*R∧
   ((B4 r.f∧ys=xs++Ah r.f∧p'.isNone=false)∨(¬B4 r.f∧p'.isNone=true))):=by
 refine(gN r p b o c xs s R hm hr hs hc hx).drop ?_;rintro v H' (⟨hok,p',b',o',c',s',rfl,h1,h2,rfl⟩|⟨hok,rfl,rfl⟩)
 ·refine⟨_,⟨p',b',o',c',s',_,rfl,h1,h2,rfl,.inl ⟨hok,rfl,?_⟩⟩,fun _ h=>h⟩
  have hne:0<(xs++Ah r.f).length:=by have:=N_.2 (rJ r.f);simp only [K_];omega
  rw [h1.1.resolve_left (by have:=h1.2;omega)];rfl
 ·exact⟨R,⟨none,0,0,0,[],[],rfl,Fx,rfl,MA,.inr ⟨hok,rfl⟩⟩,fun _ h=>h.right⟩
theorem qZ(fs:List AU)(i:Nat)(h:i<fs.length):Ap (fs.take i)++Ah (fs[i])=Ap (fs.take (i+1)):=by
 unfold Ap;rw [List.take_succ_eq_append_getElem h,N!]
 simp
theorem t0(fs:List AU)(i:Nat):(Ap (fs.take i)).length≤(Ap fs).length:=by
 have h:Ap fs=Ap (fs.take i)++Ap (fs.drop i):=by unfold Ap;rw [←N!,List.take_append_drop]
 rw [h,K_];omega
theorem UR{α:Type}(xs:List α)(i:Nat)(d:α)(h:i<xs.length):xs.getD i d=xs[i]:=by simp [List.getD,h]
theorem hJ(fs:List AU)(p:Option Addr)(c b o:Nat)(rs:List RF)(H:HP)(hfs:Hq B H p c fs b o rs)(hmd:∀r∈rs,HI r)(hn:fs.length<100000000000)(hel:(Ap fs).length<100000000000):
  Fn Tryz.prog B 164 [.slice p fs.length c] H (fun v H'=>match GN fs with
   |none=>v=.tuple #[.slice none 0 0,.iface 41 (.int .i64 5)]∧H'=H
   |some ys=>∃sv,v=.tuple #[sv,.nilIface]∧B5 H ys sv H'):=by
 refine mI Tryz.func164 ?_;have hrl:=hfs.len;refine Bt ?_;refine Iu ?_;refine mC (fun h0=>?_) (fun h0=>?_)
 ·refine J2 ?_;refine JL G8 ?_;refine J6 ?_
  exact mR [2,3] H rfl rfl (by
    rw [GN,if_neg (fun h=>h.1 (M_.1 h0))];exact BW)
 refine DP ?_;refine G3 ?_
 refine Bm (α:=Nat×Option Addr×Nat×Nat×Nat×List Value) (fun z=>[(4,.slice z.2.1 (Ap (fs.take z.1)).length z.2.2.2.2.1),(11,.slice p fs.length c),(12,iN fs.length),(13,iN z.1)]) (fun z=>AB z.2.2.1 z.2.2.2.1 (Ap (fs.take z.1)) z.2.2.2.2.2*H) (fun z=>z.1≤fs.length∧(∀j,j<z.1→B4 (rs.getD j AC.AH).f)∧Sl z.2.1 z.2.2.1 z.2.2.2.1 (Ap (fs.take z.1)).length z.2.2.2.2.1∧(Ap (fs.take z.1)).length*1+z.2.2.2.2.2.length=z.2.2.2.2.1*1) (fun z=>fs.length-z.1) (0,none,0,0,0,[]) ⟨L? _,fun j hj=>absurd hj O7,Fx,rfl⟩ C9 (by show H=AB 0 0 ([]:List UInt8) []*H;rw [Gk,HP.BI]) ?_
 rintro⟨i,q,qb,qo,qc,qs⟩ ⟨hi,hall,hqs,hqc⟩;dsimp only at hi hall hqs hqc⊢;have hql:=t0 fs i;refine J6 ?_;refine mC (fun hlt=>?_) (fun hlt=>?_)
 ·skip
  have hmem:rs.getD i AC.AH∈rs:=by rw [UR _ _ _ Ca];exact O_ _
  have hri:(rs.getD i AC.AH).f=fs[i]:=by
   have:=hfs.map;subst this
   rw [UR _ _ _ Ca,List.getElem_map]
  have hrr:=hfs.UV _ hmem;refine J6 ?_;refine JL (CU (b:=b) (o:=o) rfl rfl hfs.sl hlt) ?_;refine JL (IX (i:=i) (o:=o) (xs:=rs) rfl (let _:=hfs.rd;inferInstance) Ca) ?_;refine Ag Vw rfl ?_;rintro _ _ ⟨b6,rfl,rfl⟩;refine Bi (De (cs:=AM (rs.getD i AC.AH)) rfl rfl Ch (AC.one (rs.getD i AC.AH))) ?_;refine Ik ?_;refine A9 (H':=AB qb qo (Ap (fs.take i)) qs*(HP.AA b6 0 (AM (rs.getD i AC.AH))*H)) (HP.CI _ _ _) ?_;refine mE rfl (j5 (rs.getD i AC.AH) q qb qo qc (Ap (fs.take i)) qs _ (hmd _ hmem) inferInstance hqs hqc Ca) ?_;rintro _ _ ⟨p',b',o',c',s',ys,rfl,hs',hc',rfl,hcase⟩;refine J6 ?_;refine JL (sW rfl rfl) ?_;refine J2 ?_;refine mc (fun hpn=>?_) (fun hpn=>?_)
  ·skip
   have hbad:¬B4 (rs.getD i AC.AH).f:=by
    rcases hcase with h|h
    ·rw [h.2.2]at hpn;cases hpn
    ·exact h.1
   refine J2 ?_;refine JL G8 ?_;refine CB ?_
   exact mR [2,3] H rfl rfl (by
     rw [GN,if_neg (fun h=>hbad (by rw [hri];exact h.2 _ (O_ _)))];exact BW)
  obtain⟨hok,rfl,_⟩:B4 (rs.getD i AC.AH).f∧ys=Ap (fs.take i)++Ah (rs.getD i AC.AH).f∧p'.isNone=false:=by
   rcases hcase with h|h
   ·exact h
   ·rw [h.2]at hpn;cases hpn
  rw [hri,qZ fs i hlt]at hs' hc'⊢;refine J4 ?_;refine JL NB ?_;refine J2 ?_;refine Bd (AB b' o' (Ap (fs.take (i+1))) s'*H) (Ba (i+1,p',b',o',c',s') ⟨Ca,fun j hj=>?_,hs',hc'⟩ XZ C9 rfl);rcases J!.1 hj with h|rfl
  ·exact hall j h
  ·exact hok
 refine F5z ?_
 exact mR [2,3] (AB qb qo (Ap (fs.take i)) qs*H) rfl rfl (by
   obtain rfl:i=fs.length:=by omega
   rw [List.take_length]at hqs hqc⊢
   have hgood:fs≠ []∧∀f∈fs,B4 f:=⟨fun h=>h0 PZ,fun f hf=>by
    have hm2:=hfs.map
    subst hm2
    obtain⟨r,hr,rfl⟩:=List.mem_map.1 hf
    obtain⟨j,hj,rfl⟩:=List.getElem_of_mem hr
    have:=hall j Ca
    rwa [UR _ _ _ hj]at this⟩
   rw [GN,if_pos hgood]
   exact⟨_,rfl,q,qb,qo,qc,qs,rfl,hqs,hqc,rfl⟩)
end
section
variable{B:World}
abbrev CA(rb:Nat)(p:Option Addr)(c:Nat)(xs:List UInt8)(a:Nat):HP:=HP.AA rb 0 [.slice p xs.length c,iN a]
abbrev Gg:List PanicEntry:=pn (.iface 320 (.agg #[]))
theorem Oq{p:Option Addr}{b o k c a n:Nat}(hs:Sl p b o k c)(h:a+n≤k):Sl (sp p c a 1) b (o+a*1) n (c-a):=by
 have:=K1 (sz:=1) hs (l:=a) (h:=a+n) Ca Ci
 rwa [Nat.add_sub_cancel_left]at this
theorem Yw(x:Nat):x&&&63=x%64:=Nat.and_two_pow_sub_one_eq_mod x 6
theorem tT(n x:Nat)(hn:n<72057594037927936)(hx:x<256):(n*2^8%18446744073709551616)|||x=n*256+x:=by
 have h:n*2^8%18446744073709551616=2^8*n:=by omega
 rw [h,←Nat.two_pow_add_eq_or_of_lt (by omega:x<2^8)];omega
theorem gJ(xs:List UInt8)(a:Nat):1*2^((xs.getD a 0).toNat/2^6)%18446744073709551616=C5 xs a:=by
 have h:=S0 xs a
 have e:1*2^((xs.getD a 0).toNat/2^6)=C5 xs a:=by rw [Nat.one_mul];rfl
 rw [e];omega
section
variable{P:Program}{n:Nat}{E:A2}{D:Bu}{H:HP}{d:Option Tmp}{T T' ty:TypeId}{pos:String}{af:Array Edge}{g:Option (Nat×Bool)}{x y z:Operand}
theorem Tc{b o i:Nat}{xs:List UInt8}[hT:CD P T](hx:ev E x=some (.pointer (some ⟨b,o+i*1,none⟩)))(hr:Ad B H b o xs)(hi:i<xs.length):
  Aa P B n ⟨d,.load T x,ty,pos,af,g⟩ E H (u8 (xs.getD i 0)):=D8 (f:=0) hx hr rfl hi
end
theorem Vx(rb:Nat)(H:HP):FN Tryz.prog B 176 [ptr rb 0] H (fun _ _=>False) (fun c H'=>c=Gg∧H'=H):=by
 refine Hk Tryz.func176 rfl rfl rfl ?_;refine J1 ?_;refine JL (Ex (cs:=[]) rfl rfl rfl Cg) ?_;refine JL G8 ?_;refine xD (pQ (Post:=fun _ _=>False) rfl) ?_ ?_;rotate_left
 ·refine JR ?_;exact Lq BW
 exact Ir
theorem P8(n:Nat)(hn:n<9223372036854775808)(rb:Nat)(p:Option Addr)(b o c:Nat)(xs:List UInt8)(a:Nat)(R:HP)(hs:Sl p b o xs.length c)(hr:Ad B R b o xs)(hx:xs.length<100000000000)(ha:a≤xs.length):
  FN Tryz.prog B 177 [ptr rb 0,uN n] (CA rb p c xs a*R) (fun v H'=>n≤xs.length-a∧v=.slice (sp p c a 1) n (c-a)∧H'=CA rb p c xs (a+n)*R) (fun ch H'=>xs.length-a<n∧ch=Gg∧H'=R):=by
 refine Hk Tryz.func177 rfl rfl rfl ?_;refine J7 ?_;refine mA 13 13 ?_;refine LT ?_;refine JT 5 rfl FT ?_;refine Kp ?_;refine Jf 8 ?_;refine Jd 9 ?_;refine JT 10 rfl MK ?_;refine JT 11 rfl FD ?_;refine JT 12 rfl H9 ?_;refine FC ?_;refine mC (fun hbad=>?_) (fun hok=>?_)
 ·refine J2 ?_;refine Dk NX rfl ?_ ?_;rotate_left
  ·refine JR ?_;refine FP ?_;exact Fv R ⟨Ca,rfl,rfl⟩
  exact Ir
 refine J7 ?_;refine LF ?_;refine JL Ma ?_;refine J7 ?_;refine mA 17 17 ?_;refine IN ?_;refine LA ?_;refine Jm 8 ?_;refine JT 9 rfl Ma ?_;refine JT 10 rfl MK ?_;refine QY ?_;refine JT 15 rfl (PV (l:=a+n-n) (h:=a+n) (k':=n) rfl rfl rfl Ci Ca) ?_;refine Ja 16 ?_;refine Da ?_;refine Qg (ts:=[4]) rfl rfl ⟨Ca,?_,rfl⟩;rw [N?];rfl
theorem Lx(rb:Nat)(p:Option Addr)(b o c:Nat)(xs:List UInt8)(a:Nat)(R:HP)(hs:Sl p b o xs.length c)(hr:Ad B R b o xs)(hx:xs.length<100000000000)(ha:a≤xs.length):
  FN Tryz.prog B 197 [ptr rb 0] (CA rb p c xs a*R) (fun v H'=>∃n a',DG xs a=some (n,a')∧v=uN n∧H'=CA rb p c xs a'*R) (fun ch H'=>DG xs a=none∧ch=Gg∧H'=R):=by
 refine Hk Tryz.func197 rfl rfl rfl ?_;have hz:=gJ xs a;have hzc:=S0 xs a;have hb:=(xs.getD a 0).toNat_lt;refine J2 ?_;refine Gu ?_;refine J5 ?_;refine Dk (Gc rfl (P8 1 Ca rb p b o c xs a R hs hr hx ha)) rfl ?_ ?_;rotate_left
 ·rintro _ _ ⟨h1,rfl,rfl⟩;refine FP ?_;exact Lq ⟨Xm,rfl,rfl⟩
 rintro _ _ ⟨h1,rfl,rfl⟩;refine JL (HG (i:=0) (b:=b) (o:=o+a*1) (q:=o+a*1) rfl rfl (Oq hs Ca) Ca Ca) ?_;refine JL (Tc (i:=a) (xs:=xs) rfl inferInstance Ca) ?_;refine J6 ?_;refine JL (kZ (j:=63) rfl rfl ⟨Ca,Ca⟩) ?_;refine JL (Jv rfl (MC (by rw [Yw];omega))) ?_;refine J8 ?_;refine JL (oN (j:=6) rfl rfl Ca) ?_;refine JL (P7 (i:=1) rfl rfl Ca) ?_;refine JL (KY (j:=1) rfl rfl (by rw [hz];omega)) ?_;refine Dk (Gc (vs:=[ptr rb 0,uN (C5 xs a-1)]) (by rw [←hz];rfl) (P8 (C5 xs a-1) Ca rb p b o c xs (a+1) R hs hr hx Ca)) rfl ?_ ?_;rotate_left
 ·rintro _ _ ⟨h2,rfl,rfl⟩;refine FP ?_;refine FP ?_;exact Lq ⟨Xm,rfl,rfl⟩
 rintro _ _ ⟨h2,rfl,rfl⟩;refine Je ?_;refine Bm (fun i:Nat=>[(4,uN (IA xs a i)),(19,.slice (sp p c (a+1) 1) (C5 xs a-1) (c-(a+1))),(20,iN (C5 xs a-1)),(21,iN i)]) (fun _=>CA rb p c xs (a+1+(C5 xs a-1))*R) (fun i=>i≤C5 xs a-1) (fun i=>C5 xs a-1-i) 0 Ff (.cons (congrArg (fun z=>some (uN z)) (Yw _)) EG) rfl ?_;rintro i hi;dsimp only at hi⊢;have hnl:=Ui xs a i
 have hnl2:IA xs a i<72057594037927936∨C5 xs a-1≤i:=by
  rcases(by omega:C5 xs a-1≤i∨i=0∨i=1∨i=2∨i=3∨i=4∨i=5∨i=6)with h|rfl|rfl|rfl|rfl|rfl|rfl|rfl
  ·exact .inr h
  all_goals (left;simp only [Nat.reducePow,Nat.reduceMul]at hnl;omega)
 have hb2:=Rx xs (a+i+1);refine J6 ?_;refine mC (fun hlt=>?_) (fun hlt=>?_)
 ·refine J6 ?_;refine JL (HG (b:=b) (o:=o+(a+1)*1) (q:=o+(a+i+1)*1) rfl rfl (Oq hs Ca) hlt Ca) ?_;refine JL (Tc (i:=a+i+1) (xs:=xs) rfl inferInstance Ca) ?_;refine J5 ?_;refine JL (P7 (j:=8) rfl rfl Ca) ?_;refine J1 ?_;refine JL (Jv rfl (MC VD)) ?_;refine JL (Wh rfl rfl ⟨Ca,VD⟩) ?_;refine Kv ?_;exact Ba (i+1) (by show i+1≤_;omega) (by show C5 xs a-1-(i+1)<C5 xs a-1-i;omega) (.cons (congrArg (fun z=>some (uN z)) (tT _ _ Ca hb2)) EG) rfl
 obtain rfl:i=C5 xs a-1:=by omega
 refine DP ?_;refine Qg (ts:=[2]) rfl rfl ⟨_,_,by unfold DG;rw [if_pos Ca],rfl,?_⟩;rw [show a+1+(C5 xs a-1)=a+C5 xs a by omega]
theorem rF(rb:Nat)(p:Option Addr)(b o c:Nat)(xs:List UInt8)(a:Nat)(R:HP)(hs:Sl p b o xs.length c)(hr:Ad B R b o xs)(hx:xs.length<100000000000)(ha:a≤xs.length):
  FN Tryz.prog B 196 [ptr rb 0] (CA rb p c xs a*R) (fun v H'=>∃n a',Ho xs a=some (n,a')∧v=iN n∧H'=CA rb p c xs a'*R) (fun ch H'=>Ho xs a=none∧ch=Gg∧H'=R):=by
 refine Hk Tryz.func196 rfl rfl rfl ?_;refine Kh ?_;refine Dk PU rfl ?_ ?_;rotate_left
 ·rintro _ _ ⟨e5,rfl,rfl⟩;refine FP ?_;exact Lq ⟨by unfold Ho;rw [e5],rfl,rfl⟩
 rintro _ _ ⟨n5,a5,e5,rfl,rfl⟩;have g5:=D7 e5;refine J7 ?_;refine JL (Tm (j:=4) rfl rfl) ?_;refine J2 ?_;refine mC (fun hbig=>?_) (fun hbig=>?_)
 ·refine J2 ?_;refine Dk NX rfl ?_ ?_;rotate_left
  ·refine JR ?_;refine FP ?_;exact Fv R ⟨by unfold Ho;rw [e5];exact if_neg Ca,rfl,rfl⟩
  exact Ir
 refine J5 ?_;refine JL Ma ?_;refine J4 ?_;exact Qg (ts:=[2]) rfl rfl ⟨n5,a5,by unfold Ho;rw [e5];exact if_pos Ca,rfl,rfl⟩
theorem wB(rb:Nat)(p:Option Addr)(b o c:Nat)(xs:List UInt8)(a:Nat)(R:HP)(hs:Sl p b o xs.length c)(hr:Ad B R b o xs)(hx:xs.length<100000000000)(ha:a≤xs.length):
  FN Tryz.prog B 202 [ptr rb 0] (CA rb p c xs a*R) (fun v H'=>∃d a',Ig xs a=some (d,a')∧v=.string (AX d)∧H'=CA rb p c xs a'*R) (fun ch H'=>Ig xs a=none∧ch=Gg∧H'=R):=by
 refine Hk Tryz.func202 rfl rfl rfl ?_;refine J9 ?_;refine Dk PU rfl ?_ ?_;rotate_left
 ·rintro _ _ ⟨e5,rfl,rfl⟩;refine FP ?_;exact Lq ⟨by unfold Ig;rw [e5],rfl,rfl⟩
 rintro _ _ ⟨n5,a5,e5,rfl,rfl⟩;have g5:=D7 e5;refine Dk (Gc rfl (P8 n5 Ca rb p b o c xs a5 R hs hr hx Ca)) rfl ?_ ?_;rotate_left
 ·rintro _ _ ⟨h6,rfl,rfl⟩;refine FP ?_;exact Lq ⟨by unfold Ig;rw [e5];exact if_neg Ca,rfl,rfl⟩
 rintro _ _ ⟨h6,rfl,rfl⟩
 have hl6:((xs.drop a5).take n5).length=n5:=by simp;omega
 refine JL (MF (xs:=(xs.drop a5).take n5) (b:=b) (o:=o+a5*1) (by rw [hl6];rfl) (by rw [hl6];exact Oq hs Ca) inferInstance) ?_;refine J4 ?_;exact Qg (ts:=[2]) rfl rfl ⟨_,_,by unfold Ig;rw [e5];exact if_pos Ca,rfl,rfl⟩
end
section
section
variable{P:Program}{B:World}{n:Nat}{E:A2}{D:Bu}{H R:HP}{d:Option Tmp}{T T' ty:TypeId}{pos:String}{af:Array Edge}{g:Option (Nat×Bool)}{x y z:Operand}
 {ops:Array Oper} {Q:Exit→Act→World→Prop} {rest:List Oper} {op:Op}
theorem q9{ds:List Deferred}{t:Operand}{f:FuncId}{us:List Value}{ats:Array TypeId}(ht:ev E t=some (.func (.func f) #[] us.toArray))
  (next:WL P B ops Q rest n E ⟨{target:=.fn (.func f) us.toArray,args:= #[]}::ds,none⟩ H):WL P B ops Q (⟨none,.defer ⟨.value t,#[],ats⟩,ty,pos,af,none⟩::rest) n E ⟨ds,none⟩ H:=by
 intro a w h1 h2 h3;unfold wpListIn;rw [if_pos Qf];refine⟨fun _ _=>trivial,?_⟩
 have hrun:(execOp a.eval ⟨none,.defer ⟨.value t,#[],ats⟩,ty,pos,af,none⟩).run P w=.ok (.defer {target:=.fn (.func f) us.toArray,args:= #[]}) w:=by
  simp [execOp,resolve,h1.ev ht,Deferred.ofValue]
 have hs:(Oper.semAt (fr none).round a.eval (⟨none,.defer ⟨.value t,#[],ats⟩,ty,pos,af,none⟩:Oper)).run P w=.ok (.defer {target:=.fn (.func f) us.toArray,args:= #[]}) w:=by
  rw [show(fr none).round=none from rfl,Oper.semAt_none];exact hrun
 rw [hs];show wpListIn (fr none) 0 P ops Q rest _ w;exact next _ w h1 (by simp [Act.put,h2]) h3
def OC(P:Program)(B:World)(fn:Func)(Post:Value→HP→Prop):Exit→Act→World→Prop:=
 bodyPostDIn (fr none) 0 P fn fun e w'=>∃v H',e=.returned v∧Post v H'∧Sat B H' w'
theorem xO{c:Code}{f:FuncId}{fn:Func}{args:List Value}{Post:Value→HP→Prop}(hf:P.funcs[f]?=some fn)(hb:fn.body=some c)(hn:fn.ntmps=n)
  (ha:P_ args.length n=true)(h:WP P B c (OC P B fn Post) n (Ii 0 args) ⟨[],none⟩ H):Fn P B f args H Post:=by
 intro w hw;refine(callsIn_wide (n:=0)).1 (callsIn_of_wp_defers (F:=fr none) (n:=0) hf hb trivial (h _ w ⟨?_,?_⟩ rfl hw))
 ·have:args.length≤n:=by simpa using ha
  simp [hn];omega
 ·intro t v e;obtain⟨_,h2⟩:=LU args 0 t v e;simp only [O?]at h2;have hlt:t<args.length:=(L!.1 h2).1;simp only [];rw [Array.getElem?_append_left (by simpa using hlt)];simpa using h2
def Mc(P:Program)(B:World)(f:FuncId)(args:List Value)(u u':FrameMode)(H:HP)(Post:HP→Prop):Prop:=
 ∀w,Sat B H w→CallsDIn (fr none) 0 P f args.toArray u w fun e u2 w'=>∃v H',e=.returned v∧u2=u'∧Post H'∧Sat B H' w'
theorem Wo{fn:Func}{f:FuncId}{us:List Value}{u u':FrameMode}{rs:List ResultVar}{Post:Value→HP→Prop}{PD:HP→Prop}[hok:Ac P f](hu:u≠ .run)
  (hd:Mc P B f us u u' H PD)(hset:settle u'=.returning)(hr:fn.results=rs.toArray)(hv:∀H',PD H'→∃vs H'',JK P B n E H' rs vs∧Post (FH vs) H''∧Bq B H' H''):
  ∀a w,CW n E a→Sat B H w→LeavesIn (fr none) 0 P fn a.tmps (fun e w'=>∃v H',e=.returned v∧Post v H'∧Sat B H' w') [{target:=.fn (.func f) us.toArray,args:= #[]}] u w:=by
 intro a w h1 h3;refine leavesIn_cons (f:=f) (args:=us.toArray) hu (by simp [fr,Fence.wide]) ?_ (fun _ _=>trivial) ?_
 ·have:=hok.get us.toArray w
  simpa [invoke]using this
 ·refine CallsDIn.mono (F:=fr none) (n:=0) (hd w h3) ?_;rintro e u2 w' ⟨v,H',rfl,rfl,hp,hs⟩;obtain⟨vs,H'',hv1,hv2,hv3⟩:=hv H' hp;show LeavesIn _ _ _ _ _ _ [] (settle u2) w';rw [hset];exact⟨_,cZ hr h1 hv1 hs,_,_,rfl,hv2,hv3.get w' hs⟩
theorem uP{fn:Func}{f:FuncId}{us:List Value}{u':FrameMode}{rs:List ResultVar}{Post:Value→HP→Prop}{PD:HP→Prop}[hok:Ac P f]
  (hd:Mc P B f us .returning u' H PD)(hset:settle u'=.returning)(hr:fn.results=rs.toArray)(hv:∀H',PD H'→∃vs H'',JK P B n E H' rs vs∧Post (FH vs) H''∧Bq B H' H''):
  BC B (OC P B fn Post) .ret n E ⟨[{target:=.fn (.func f) us.toArray,args:= #[]}],none⟩ H:=by
 intro a w h1 h2 h3;show LeavesIn _ _ _ _ _ _ _ _ _;rw [h2];exact Wo Cg hd hset hr hv a w h1 h3
theorem gL{c:List PanicEntry}{fn:Func}{f:FuncId}{us:List Value}{u':FrameMode}{rs:List ResultVar}{Post:Value→HP→Prop}{PD:HP→Prop}[hok:Ac P f]
  (hd:Mc P B f us (.panicking c) u' H PD)(hset:settle u'=.returning)(hr:fn.results=rs.toArray)(hv:∀H',PD H'→∃vs H'',JK P B n E H' rs vs∧Post (FH vs) H''∧Bq B H' H''):
  BC B (OC P B fn Post) (.panic c) n E ⟨[{target:=.fn (.func f) us.toArray,args:= #[]}],none⟩ H:=by
 intro a w h1 h2 h3;show LeavesIn _ _ _ _ _ _ _ _ _;rw [h2];exact Wo Cg hd hset hr hv a w h1 h3
theorem pP{e:Operand→Value}{ats:Array TypeId}(w:World):(execOp e ⟨d,.call ⟨.builtin .recover,#[],ats⟩,ty,pos,af,g⟩).run P w=.ok .recover w:=by
 simp [execOp,resolve,invoke,builtin]
theorem jU{id t t2:Nat}{pos2:String}{af2:Array Edge}{ats:Array TypeId}{QS:Exit→Act→List Frame→World→Prop}{a:Act}{cs cs':List Frame}{w:World}{v:Value}
  (hrec:recoverD cs=some (v,cs')∨(recoverD cs=none∧v=.nilIface∧cs'=cs))(ht:t<a.tmps.size)
  (h:QS .normal ((a.put (some t) v).put (some t2) v) cs' w):
  (Code.region id #[⟨some t,.call ⟨.builtin .recover,#[],ats⟩,ty,pos,af,none⟩,⟨some t2,.assign (.tmp t),T,pos2,af2,none⟩] false).wpSIn (fr none) 0 P QS a cs w:=by
 refine wpSIn_region ?_;show wpOpsSIn (fr none) 0 P _ QS [0,1] a cs w
 have e2:∀(cs:List Frame) (v:Value),(execOp (Act.eval (a.put (some t) v)) ⟨some t2,.assign (.tmp t),T,pos2,af2,none⟩).run P w=.ok (.value v) w:=by
  intro cs v;simp [execOp,Act.eval,Act.put,ht]
 unfold wpOpsSIn;simp only [K?,K!];refine⟨fun _ _=>trivial,?_⟩;rw [if_pos Qf,pP];rcases hrec with h0|⟨h0,rfl,rfl⟩
 ·simp only [h0];unfold wpOpsSIn;simp only [K?,M!,K!];refine⟨fun _ _=>trivial,?_⟩;rw [if_pos Qf,e2 cs'];exact h
 ·simp only [h0];unfold wpOpsSIn;simp only [K?,M!,K!];refine⟨fun _ _=>trivial,?_⟩;rw [if_pos Qf,e2 cs'];exact h
theorem VX{f:FuncId}{fn:Func}{args:List Value}{u u':FrameMode}{id t t2:Nat}{pos2:String}{af2:Array Edge}{ats:Array TypeId}{c2:Code}{v:Value}{Post:HP→Prop}
  (hf:P.funcs[f]?=some fn)(hb:fn.body=some (.seq (.region id #[⟨some t,.call ⟨.builtin .recover,#[],ats⟩,ty,pos,af,none⟩,⟨some t2,.assign (.tmp t),T,pos2,af2,none⟩] false) c2))(hn:fn.ntmps=n)
  (ha:P_ args.length n=true)(ht:P! t n=true)(ht2:P! t2 n=true)(hres:fn.results= #[])
  (hv:(u=.returning∧u'=.returning∧v=.nilIface)∨(∃older,u=.panicking ({v:=v,recovered:=false,goexit:=false}::older)∧u'=.panicking ({v:=v,recovered:=true}::older)))
  (h:∀Q:Exit→Act→World→Prop,(∀E H',Post H'→BC B Q .normal n E ⟨[],none⟩ H')→WP P B c2 Q n ((t2,v)::(t,v)::Ii 0 args) ⟨[],none⟩ H):Mc P B f args u u' H Post:=by
 intro w hw;refine callsDIn_of_wpSIn (F:=fr none) (n:=0) hf hb trivial fun c₀ cs hu=>?_
 have hE0:CW n (Ii 0 args) {tmps:=args.toArray++Array.replicate (fn.ntmps-args.toArray.size) undef,defers:=[]}:=by
  refine⟨?_,?_⟩
  ·have:args.length≤n:=by simpa using ha
   simp [hn];omega
  ·intro t v e;obtain⟨_,h2⟩:=LU args 0 t v e;simp only [O?]at h2;have hlt:t<args.length:=(L!.1 h2).1;simp only [];rw [Array.getElem?_append_left (by simpa using hlt)];simpa using h2
 have hE1:=(hE0.put Sd v).put (t:=t2) (by simpa using ht2) v;refine wpSIn_seq ?_
 have hrec:recoverD (c₀::cs)=some (v,{c₀ with mode:=u'}::cs)∨(recoverD (c₀::cs)=none∧v=.nilIface∧({c₀ with mode:=u'}::cs)=c₀::cs):=by
  rcases hv with⟨h1,h2,h3⟩|⟨older,h1,h2⟩
  ·right;refine⟨by simp [recoverD,hu,h1],h3,?_⟩;rw [h2,←h1,←hu]
  ·left;simp [recoverD,hu,h1,h2]
 refine jU (v:=v) (cs':={c₀ with mode:=u'}::cs) hrec (by rw [hE0.1];simpa using ht) ?_;show Code.wpSIn _ _ _ _ _ _ _ _;refine wpSIn_of_wpIn rfl ?_;refine h _ (fun E H' hp a w h1 h2 h3=>?_) _ w hE1 (by rfl) hw;refine⟨h2,u',rfl,.tuple #[],?_,.tuple #[],H',rfl,rfl,hp,h3⟩;simp [results,hres]
end
end
section
variable{B:World}
abbrev r0(k:Int)(fin:Bool):RF:=⟨⟨k,0,0,0,fin,⟨#[]⟩,[]⟩,none,0,0,0,[]⟩
theorem ZU(t:UInt8):Et t=if t.toNat=0 then 1 else if t.toNat=1 then 2 else if t.toNat=2 then 3 else if t.toNat=4 then 4 else if t.toNat=8∨t.toNat=9 then 5 else if t.toNat=28 then 6 else 0:=by
 unfold Et;simp only [←UInt8.toNat_inj];rfl
theorem sS(t:UInt8)(h:Et t≠0):Dd (Et t):=by
 rw [ZU]at*;unfold Dd
 repeat' split
 all_goals first|omega|(exfalso;simp_all)
theorem sA(t:UInt8)(H:HP):Fn Tryz.prog B 178 [u8 t] H (fun v H'=>v=.tuple #[iN (Et t),.bool (decide (Et t≠0))]∧H'=H):=by
 refine mI Tryz.func178 ?_;refine IR ?_;refine DP ?_;refine JL (B6 (i:=t.toNat) (j:=0) rfl rfl) ?_;refine J3 ?_;refine mC (fun yt5=>?_) (fun nt5=>?_)
 ·refine J2 ?_;refine JL (Fe (v:=.int .i64 (1:Nat)) rfl) ?_;refine J6 ?_
  first|(exfalso;omega)|exact mr [2,3] rfl rfl ⟨Cy,rfl⟩
 refine J2 ?_;refine JL (B6 (i:=t.toNat) (j:=1) rfl rfl) ?_;refine J3 ?_;refine mC (fun yt7=>?_) (fun nt7=>?_)
 ·refine J2 ?_;refine JL (Fe (v:=.int .i64 (2:Nat)) rfl) ?_;refine J6 ?_
  first|(exfalso;omega)|exact mr [2,3] rfl rfl ⟨Cy,rfl⟩
 refine J2 ?_;refine JL (B6 (i:=t.toNat) (j:=2) rfl rfl) ?_;refine J3 ?_;refine mC (fun yt9=>?_) (fun nt9=>?_)
 ·refine J2 ?_;refine JL (Fe (v:=.int .i64 (3:Nat)) rfl) ?_;refine J6 ?_
  first|(exfalso;omega)|exact mr [2,3] rfl rfl ⟨Cy,rfl⟩
 refine J2 ?_;refine JL (B6 (i:=t.toNat) (j:=4) rfl rfl) ?_;refine J3 ?_;refine mC (fun yt11=>?_) (fun nt11=>?_)
 ·refine J2 ?_;refine JL (Fe (v:=.int .i64 (4:Nat)) rfl) ?_;refine J6 ?_
  first|(exfalso;omega)|exact mr [2,3] rfl rfl ⟨Cy,rfl⟩
 refine J3 ?_;refine JL (B6 (i:=t.toNat) (j:=8) rfl rfl) ?_;refine J3 ?_;refine mC (fun yt13=>?_) (fun nt13=>?_)
 ·refine J2 ?_;refine mC (fun yt13=>?_) (fun nt13=>?_)
  ·refine J2 ?_;refine JL Vc ?_;refine J6 ?_
   first|(exfalso;omega)|exact mr [2,3] rfl rfl ⟨Cy,rfl⟩
  refine J2 ?_;refine JL (B6 (i:=t.toNat) (j:=28) rfl rfl) ?_;refine J3 ?_;refine mC (fun yt16=>?_) (fun nt16=>?_)
  ·refine J2 ?_;refine JL aF ?_;refine J6 ?_
   first|(exfalso;omega)|exact mr [2,3] rfl rfl ⟨Cy,rfl⟩
  refine J5 ?_;refine Fd ?_;refine J4 ?_
  first|(exfalso;omega)|exact mr [2,3] rfl rfl ⟨Cy,rfl⟩
 refine J1 ?_;refine JL (B6 (i:=t.toNat) (j:=9) rfl rfl) ?_;refine J3 ?_;refine mC (fun yt13=>?_) (fun nt13=>?_)
 ·refine J2 ?_;refine JL Vc ?_;refine J6 ?_
  first|(exfalso;omega)|exact mr [2,3] rfl rfl ⟨Cy,rfl⟩
 refine J2 ?_;refine JL (B6 (i:=t.toNat) (j:=28) rfl rfl) ?_;refine J3 ?_;refine mC (fun yt16=>?_) (fun nt16=>?_)
 ·refine J2 ?_;refine JL aF ?_;refine J6 ?_
  first|(exfalso;omega)|exact mr [2,3] rfl rfl ⟨Cy,rfl⟩
 refine J5 ?_;refine Fd ?_;refine J4 ?_
 first|(exfalso;omega)|exact mr [2,3] rfl rfl ⟨Cy,rfl⟩
theorem GH{r:RF}(h:r.f.ranges=[])(hc:r.c=0)(hs:r.s=[]):r.ok∧r.own∧Fs r=HP.BD:=by
 refine⟨?_,?_,?_⟩
 ·unfold RF.ok;rw [h,hc];exact Fx
 ·unfold RF.own;rw [h,hc,hs];rfl
 ·unfold Fs;rw [h,hs,Gk]
theorem vY(rb fb:Nat)(fin:Bool)(p:Option Addr)(b o c:Nat)(xs:List UInt8)(a:Nat)(R:HP)(hs:Sl p b o xs.length c)(hr:Ad B R b o xs)(hx:xs.length<100000000000)(ha:a≤xs.length):
  FN Tryz.prog B 218 [ptr rb 0,ptr fb 0] (CA rb p c xs a*(HP.AA fb 0 (AM (r0 1 fin))*R)) (fun _ H'=>∃r a',CF xs 1 fin a=some (r.f,a')∧r.ok∧r.own∧H'=CA rb p c xs a'*(HP.AA fb 0 (AM r)*(Fs r*R))) (fun ch H'=>CF xs 1 fin a=none∧ch=Gg∧H'=R):=by
 refine Hk Tryz.func218 rfl rfl rfl ?_;refine J1 ?_;exact Ni (ts:=[]) rfl rfl ⟨r0 1 fin,_,rfl,(GH rfl rfl rfl).1,(GH rfl rfl rfl).2.1,by rw [(GH (r:=r0 1 fin) rfl rfl rfl).2.2,HP.BI]⟩
theorem kS(rb fb:Nat)(fin:Bool)(p:Option Addr)(b o c:Nat)(xs:List UInt8)(a:Nat)(R:HP)(hs:Sl p b o xs.length c)(hr:Ad B R b o xs)(hx:xs.length<100000000000)(ha:a≤xs.length):
  FN Tryz.prog B 218 [ptr rb 0,ptr fb 0] (CA rb p c xs a*(HP.AA fb 0 (AM (r0 2 fin))*R)) (fun _ H'=>∃r a',CF xs 2 fin a=some (r.f,a')∧r.ok∧r.own∧H'=CA rb p c xs a'*(HP.AA fb 0 (AM r)*(Fs r*R))) (fun ch H'=>CF xs 2 fin a=none∧ch=Gg∧H'=R):=by
 refine Hk Tryz.func218 rfl rfl rfl ?_;refine J1 ?_;exact Ni (ts:=[]) rfl rfl ⟨r0 2 fin,_,rfl,(GH rfl rfl rfl).1,(GH rfl rfl rfl).2.1,by rw [(GH (r:=r0 2 fin) rfl rfl rfl).2.2,HP.BI]⟩
theorem vR(rb fb:Nat)(fin:Bool)(p:Option Addr)(b o c:Nat)(xs:List UInt8)(a:Nat)(R:HP)(hs:Sl p b o xs.length c)(hr:Ad B R b o xs)(hx:xs.length<100000000000)(ha:a≤xs.length):
  FN Tryz.prog B 195 [ptr rb 0,ptr fb 0] (CA rb p c xs a*(HP.AA fb 0 (AM (r0 4 fin))*R)) (fun _ H'=>∃r a',CF xs 4 fin a=some (r.f,a')∧r.ok∧r.own∧H'=CA rb p c xs a'*(HP.AA fb 0 (AM r)*(Fs r*R))) (fun ch H'=>CF xs 4 fin a=none∧ch=Gg∧H'=R):=by
 refine Hk Tryz.func195 rfl rfl rfl ?_;refine J5 ?_;refine Dk Wy rfl ?_ ?_;rotate_left
 ·rintro _ _ ⟨e8,rfl,rfl⟩;exact Fv R ⟨X4,rfl,rfl⟩
 rintro _ _ ⟨n8,a8,e8,rfl,rfl⟩;have g8:=QQ e8;refine J1 ?_;refine Dk Zy rfl ?_ ?_;rotate_left
 ·rintro _ _ ⟨e10,rfl,rfl⟩;exact Fv R ⟨Yk,rfl,rfl⟩
 rintro _ _ ⟨n10,a10,e10,rfl,rfl⟩;have g10:=D7 e10;refine J1 ?_;refine Dk eD rfl ?_ ?_;rotate_left
 ·rintro _ _ ⟨e12,rfl,rfl⟩;exact Fv R ⟨Oe,rfl,rfl⟩
 rintro _ _ ⟨n12,a12,e12,rfl,rfl⟩;have g12:=D7 e12;refine CB ?_;exact Ni (ts:=[]) rfl rfl ⟨⟨⟨4,(n8:Nat),n12,n10,fin,⟨#[]⟩,[]⟩,none,0,0,0,[]⟩,a12,Oe,(GH rfl rfl rfl).1,(GH rfl rfl rfl).2.1,by rw [(GH (r:=⟨⟨4,(n8:Nat),n12,n10,fin,⟨#[]⟩,[]⟩,none,0,0,0,[]⟩) rfl rfl rfl).2.2,HP.BI]⟩
theorem rC(rb fb:Nat)(fin:Bool)(p:Option Addr)(b o c:Nat)(xs:List UInt8)(a:Nat)(R:HP)(hs:Sl p b o xs.length c)(hr:Ad B R b o xs)(hx:xs.length<100000000000)(ha:a≤xs.length):
  FN Tryz.prog B 201 [ptr rb 0,ptr fb 0] (CA rb p c xs a*(HP.AA fb 0 (AM (r0 5 fin))*R)) (fun _ H'=>∃r a',CF xs 5 fin a=some (r.f,a')∧r.ok∧r.own∧H'=CA rb p c xs a'*(HP.AA fb 0 (AM r)*(Fs r*R))) (fun ch H'=>CF xs 5 fin a=none∧ch=Gg∧H'=R):=by
 refine Hk Tryz.func201 rfl rfl rfl ?_;refine J5 ?_;refine Dk Wy rfl ?_ ?_;rotate_left
 ·rintro _ _ ⟨e8,rfl,rfl⟩;exact Fv R ⟨X4,rfl,rfl⟩
 rintro _ _ ⟨n8,a8,e8,rfl,rfl⟩;have g8:=QQ e8;refine J1 ?_;refine Dk Zy rfl ?_ ?_;rotate_left
 ·rintro _ _ ⟨e10,rfl,rfl⟩;exact Fv R ⟨Yk,rfl,rfl⟩
 rintro _ _ ⟨n10,a10,e10,rfl,rfl⟩;have g10:=D7 e10;refine J1 ?_;refine Dk (Gc rfl (wB rb p b o c xs a10 _ hs inferInstance hx Ca)) rfl ?_ ?_;rotate_left
 ·rintro _ _ ⟨e12,rfl,rfl⟩;exact Fv R ⟨Oe,rfl,rfl⟩
 rintro _ _ ⟨n12,a12,e12,rfl,rfl⟩;have g12:=SR e12;refine CB ?_;exact Ni (ts:=[]) rfl rfl ⟨⟨⟨5,(n8:Nat),n10,0,fin,AX n12,[]⟩,none,0,0,0,[]⟩,a12,Oe,(GH rfl rfl rfl).1,(GH rfl rfl rfl).2.1,by rw [(GH (r:=⟨⟨5,(n8:Nat),n10,0,fin,AX n12,[]⟩,none,0,0,0,[]⟩) rfl rfl rfl).2.2,HP.BI]⟩
theorem qU(bq:Nat)(rb fb:Nat)(fin:Bool)(p:Option Addr)(b o c:Nat)(xs:List UInt8)(a:Nat)(R:HP)(hs:Sl p b o xs.length c)(hr:Ad B R b o xs)(hx:xs.length<100000000000)(ha:a≤xs.length)[hq:Rd B R bq 0 (Fh 205 []) True]:
  FN Tryz.prog B 220 [ptr rb 0,ptr fb 0,ptr bq 0] (CA rb p c xs a*(HP.AA fb 0 (AM (r0 6 fin))*R)) (fun _ H'=>∃r a',CF xs 6 fin a=some (r.f,a')∧r.ok∧r.own∧H'=CA rb p c xs a'*(HP.AA fb 0 (AM r)*(Fs r*R))) (fun ch H'=>CF xs 6 fin a=none∧ch=Gg∧H'=R):=by
 refine Hk Tryz.func220 rfl rfl rfl ?_;refine J1 ?_;refine LF ?_;refine Ag (Ht rfl rfl (dG fb _)) rfl ?_;refine H5 ?_;refine Dk PU rfl ?_ ?_;rotate_left
 ·rintro _ _ ⟨e9,rfl,rfl⟩;exact Fv R ⟨dI,rfl,rfl⟩
 rintro _ _ ⟨n9,a9,e9,rfl,rfl⟩;have g9:=D7 e9;refine J3 ?_;exact Ni (ts:=[]) rfl rfl ⟨⟨⟨6,0,0,n9,fin,⟨#[]⟩,[]⟩,none,0,0,0,[]⟩,a9,dI,(GH rfl rfl rfl).1,(GH rfl rfl rfl).2.1,by rw [(GH (r:=⟨⟨6,0,0,n9,fin,⟨#[]⟩,[]⟩,none,0,0,0,[]⟩) rfl rfl rfl).2.2,HP.BI]⟩
structure GQ where
 rs:List AW
 hi:Nat
 n:Nat
 size:Nat
 a:Nat
 p:Option Addr
 b:Nat
 o:Nat
 c:Nat
 s:List Value
abbrev GQ.rf(z:GQ)(fin:Bool):RF:=⟨⟨3,0,0,0,fin,⟨#[]⟩,z.rs⟩,z.p,z.b,z.o,z.c,z.s⟩
def FU(xs:List UInt8)(z:GQ):Option (List AW×Nat):=
 if z.size≤z.hi then match GF xs z.n (z.hi-z.size) z.a with
  |some (rs',a4)=>some (z.rs++⟨z.hi-z.size,z.hi⟩::rs',a4)
  |none=>none
 else none
theorem wL{xs:List UInt8}{a hi a1 n a2 size a3:Nat}(e1:DG xs a=some (hi,a1))(e2:DG xs a1=some (n,a2))(e3:DG xs a2=some (size,a3)):
  Fy xs a=FU xs ⟨[],hi,n,size,a3,none,0,0,0,[]⟩:=by
 simp only [Fy,e1,e2,e3,FU,M?];split
 ·cases GF xs n (hi-size) a3<;>rfl
 ·rfl
theorem zL{xs:List UInt8}{z:GQ}(h:¬z.size≤z.hi):FU xs z=none:=by rw [FU,if_neg h]
theorem hZ{xs:List UInt8}{z:GQ}(h:z.size≤z.hi)(hn:z.n=0):FU xs z=some (z.rs++[(⟨z.hi-z.size,z.hi⟩:AW)],z.a):=by
 rw [FU,if_pos h,hn];rfl
theorem vZ{xs:List UInt8}{z:GQ}{m:Nat}(hn:z.n=m+1)(e:DG xs z.a=none):FU xs z=none:=by
 rw [FU];split
 ·simp only [hn,GF,e]
 ·rfl
theorem eL{xs:List UInt8}{z:GQ}{m gap a1:Nat}(hn:z.n=m+1)(e:DG xs z.a=some (gap,a1))(e2:DG xs a1=none):FU xs z=none:=by
 rw [FU];split
 ·simp only [hn,GF,e,e2]
 ·rfl
theorem xX{xs:List UInt8}{z:GQ}{m gap a1 size a2:Nat}(hn:z.n=m+1)(e:DG xs z.a=some (gap,a1))(e2:DG xs a1=some (size,a2))(h:z.hi-z.size<2∨z.hi-z.size-2<gap):FU xs z=none:=by
 rw [FU];split
 ·simp only [hn,GF,e,e2];rw [if_neg Ca]
 ·rfl
theorem vO{xs:List UInt8}{z:GQ}{m gap a1 size a2:Nat}(hle:z.size≤z.hi)(hn:z.n=m+1)(e:DG xs z.a=some (gap,a1))(e2:DG xs a1=some (size,a2))(h:2≤z.hi-z.size)(hg:gap≤z.hi-z.size-2)
  (p:Option Addr)(b o c:Nat)(s:List Value):
  FU xs z=FU xs ⟨z.rs++[(⟨z.hi-z.size,z.hi⟩:AW)],z.hi-z.size-2-gap,m,size,a2,p,b,o,c,s⟩:=by
 rw [FU,if_pos hle,FU];simp only [hn,GF,e,e2];by_cases h2:size≤z.hi-z.size-2-gap
 ·rw [if_pos Ca,if_pos h2]
  cases GF xs m (z.hi-z.size-2-gap-size) a2 with
  |none=>rfl
  |some w=>obtain⟨rs',a4⟩:=w;simp
 ·rw [if_neg Ca,if_neg h2]
theorem tP{xs:List UInt8}{fin:Bool}{a:Nat}{rs:List AW}{a':Nat}(h:Fy xs a=some (rs,a')):CF xs 3 fin a=some (⟨3,0,0,0,fin,⟨#[]⟩,rs⟩,a'):=by
 unfold CF;simp only [O!,if_false,if_true,h]
theorem K8{xs:List UInt8}{fin:Bool}{a:Nat}(h:Fy xs a=none):CF xs 3 fin a=none:=by
 unfold CF;simp only [O!,if_false,if_true,h]
theorem tL(rb fb:Nat)(fin:Bool)(p:Option Addr)(b o c:Nat)(xs:List UInt8)(a:Nat)(R:HP)(hs:Sl p b o xs.length c)(hr:Ad B R b o xs)(hx:xs.length<100000000000)(ha:a≤xs.length):
  FN Tryz.prog B 191 [ptr rb 0,ptr fb 0] (CA rb p c xs a*(HP.AA fb 0 (AM (r0 3 fin))*R)) (fun _ H'=>∃r a',CF xs 3 fin a=some (r.f,a')∧r.ok∧r.own∧H'=CA rb p c xs a'*(HP.AA fb 0 (AM r)*(Fs r*R))) (fun ch H'=>CF xs 3 fin a=none∧ch=Gg∧H'=R):=by
 refine Hk Tryz.func191 rfl rfl rfl ?_;refine J3 ?_;refine Dk PU rfl ?_ ?_;rotate_left
 ·rintro _ _ ⟨e10,rfl,rfl⟩;refine FP ?_;exact Fv R ⟨K8 (by simp only [Fy,e10]),rfl,rfl⟩
 rintro _ _ ⟨n10,a10,e10,rfl,rfl⟩;have g10:=D7 e10;refine J1 ?_;refine Dk eD rfl ?_ ?_;rotate_left
 ·rintro _ _ ⟨e12,rfl,rfl⟩;refine FP ?_;exact Fv R ⟨K8 (by simp only [Fy,e10,e12]),rfl,rfl⟩
 rintro _ _ ⟨n12,a12,e12,rfl,rfl⟩;have g12:=D7 e12;refine J1 ?_;refine Dk (Gc rfl (Lx rb p b o c xs a12 _ hs inferInstance hx Ca)) rfl ?_ ?_;rotate_left
 ·rintro _ _ ⟨e14,rfl,rfl⟩;refine FP ?_;exact Fv R ⟨K8 (by simp only [Fy,e10,e12,e14]),rfl,rfl⟩
 rintro _ _ ⟨n14,a14,e14,rfl,rfl⟩;have g14:=D7 e14;refine J6 ?_
 refine Bm (α:=GQ) (fun z=>[(0,ptr rb 0),(1,ptr fb 0),(4,uN z.hi),(5,uN z.n),(6,uN z.size)]) (fun z=>CA rb p c xs z.a*(HP.AA fb 0 (AM (z.rf fin))*(AB z.b z.o z.rs z.s*R))) (fun z=>z.hi≤4611686018427387903∧z.n≤4611686018427387903∧z.size≤4611686018427387903∧z.a≤xs.length∧z.rs.length≤z.a∧Sl z.p z.b z.o z.rs.length z.c∧z.rs.length*2+z.s.length=z.c*2∧Fy xs a=FU xs z) (fun z=>z.n) ⟨[],n10,n12,n14,a14,none,0,0,0,[]⟩ ⟨g10.1,g12.1,g14.1,g14.2.2,L? _,Fx,rfl,wL e10 e12 e14⟩ G4 (by show _=CA rb p c xs a14*(HP.AA fb 0 (AM (r0 3 fin))*(AB 0 0 ([]:List AW) []*R));rw [Gk,HP.BI]) ?_
 rintro z ⟨hhi,hn,hsz,hza,hzl,hzs,hzc,hinv⟩;refine J6 ?_;refine LC ?_;refine mC (fun hbad=>?_) (fun hle=>?_)
 ·refine J2 ?_;refine Dk NX rfl ?_ ?_;rotate_left
  ·refine JR ?_;refine Io ?_;exact Fv R ⟨K8 (by rw [hinv];exact zL Ca),rfl,rfl⟩
  exact Ir
 refine J6 ?_;refine JL HJ ?_;refine J9 ?_;refine Dw ?_;refine J2 ?_;refine JL (Ex (cs:=[uN (z.hi-z.size),uN z.hi]) rfl rfl rfl Ce) ?_;refine Ag (Gq (cs:=[uN (z.hi-z.size),uN z.hi]) rfl Cp rfl rfl) rfl ?_;rintro _ _ ⟨b31,rfl,rfl⟩;refine A9 (H':=AB z.b z.o z.rs z.s*(HP.AA b31 0 (AD [(⟨z.hi-z.size,z.hi⟩:AW)])*(CA rb p c xs z.a*(HP.AA fb 0 (AM (z.rf fin))*R)))) (by show HP.AA b31 0 (AD [(⟨z.hi-z.size,z.hi⟩:AW)])*_=_;ac_rfl) ?_;refine Ag (CX (ys:=[(⟨z.hi-z.size,z.hi⟩:AW)]) (bb:=b31) (oo:=0) (cc:=1) rfl hzs hzc rfl CG inferInstance rfl Cn Ca) rfl ?_;rintro _ _ ⟨p32,b32,o32,c32,s32,rfl,hs32,hc32,rfl⟩;refine J7 ?_;refine Ai (H':=CA rb p c xs z.a*(HP.AA fb 0 (AM (GQ.rf ⟨z.rs++[(⟨z.hi-z.size,z.hi⟩:AW)],0,0,0,0,p32,b32,o32,c32,s32⟩ fin))*(AB b32 o32 (z.rs++[(⟨z.hi-z.size,z.hi⟩:AW)]) s32*(HP.AA b31 0 (AD [(⟨z.hi-z.size,z.hi⟩:AW)])*R)))) (by show _=_;ac_rfl) ?_;refine J2 ?_;refine Iu ?_;refine mC (fun hz=>?_) (fun hz=>?_)
 ·refine J5 ?_;exact fK (ts:=[]) (CA rb p c xs z.a*(HP.AA fb 0 (AM (GQ.rf ⟨z.rs++[(⟨z.hi-z.size,z.hi⟩:AW)],0,0,0,0,p32,b32,o32,c32,s32⟩ fin))*(AB b32 o32 (z.rs++[(⟨z.hi-z.size,z.hi⟩:AW)]) s32*R))) rfl rfl ⟨GQ.rf ⟨z.rs++[(⟨z.hi-z.size,z.hi⟩:AW)],0,0,0,0,p32,b32,o32,c32,s32⟩ fin,z.a,tP (by rw [hinv];exact hZ Ca hz),hs32,hc32,rfl⟩
 obtain⟨m,hm⟩:∃m,z.n=m+1:=⟨z.n-1,Ca⟩
 refine J5 ?_;refine JL NI ?_;refine J6 ?_;refine Dk (Gc rfl (Lx rb p b o c xs z.a _ hs inferInstance hx Ca)) rfl ?_ ?_;rotate_left
 ·rintro _ _ ⟨e40,rfl,rfl⟩;refine Io ?_;exact Fv R ⟨K8 (by rw [hinv];exact vZ hm e40),rfl,rfl⟩
 rintro _ _ ⟨n40,a40,e40,rfl,rfl⟩;have g40:=D7 e40;refine J6 ?_;refine Dk (Gc rfl (Lx rb p b o c xs a40 _ hs inferInstance hx Ca)) rfl ?_ ?_;rotate_left
 ·rintro _ _ ⟨e42,rfl,rfl⟩;refine Io ?_;exact Fv R ⟨K8 (by rw [hinv];exact eL hm e40 e42),rfl,rfl⟩
 rintro _ _ ⟨n42,a42,e42,rfl,rfl⟩;have g42:=D7 e42;refine J7 ?_;refine JL So ?_;refine J1 ?_;refine EL 45 rfl (fun hg1=>?_) (fun hg1=>?_)
 ·refine MI ?_;refine MI ?_;refine JL Fu ?_;refine J2 ?_;refine GZ ?_;refine J2 ?_;refine Dk NX rfl ?_ ?_;rotate_left
  ·refine JR ?_;refine Io ?_;exact V'
  exact Ir
 refine PX ?_;refine JL Te ?_;refine JG F1 ?_;refine JL H9 ?_;refine JL Eo ?_;refine J2 ?_;refine mC (fun hb5=>?_) (fun hb5=>?_)
 ·refine J2 ?_;refine Dk NX rfl ?_ ?_;rotate_left
  ·refine JR ?_;refine Io ?_;exact V'
  exact Ir
 refine J4 ?_;refine JL Te ?_;refine J1 ?_;refine JL HJ ?_;refine J3 ?_;refine Bd (CA rb p c xs a42*(HP.AA fb 0 (AM (GQ.rf ⟨z.rs++[(⟨z.hi-z.size,z.hi⟩:AW)],z.hi-z.size-2-n40,m,n42,a42,p32,b32,o32,c32,s32⟩ fin))*(AB b32 o32 (z.rs++[(⟨z.hi-z.size,z.hi⟩:AW)]) s32*R))) ?_;exact Ba (⟨z.rs++[(⟨z.hi-z.size,z.hi⟩:AW)],z.hi-z.size-2-n40,m,n42,a42,p32,b32,o32,c32,s32⟩:GQ) ⟨by show z.hi-z.size-2-n40≤_;omega,by show m≤_;omega,g42.1,g42.2.2,by show(z.rs++[_]).length≤a42;rw [K_,List.length_singleton];omega,hs32,hc32,by rw [hinv];exact vO Ca hm e40 e42 Ca Ca _ _ _ _ _⟩ (by show m<z.n;omega) (.cons rfl (.cons rfl (.cons rfl (.cons (by rw [hm];rfl) OP)))) rfl
theorem pZ{k:Nat}{f1 f2 f3:FuncId}{us1 us2 us3:List Value}{C:HP}(h:E5 k f1 us1 f2 us2 f3 us3 C)(rb fb:Nat)(fin:Bool)(p:Option Addr)(b o c:Nat)(xs:List UInt8)(a:Nat)(R:HP)(hs:Sl p b o xs.length c)(hr:Ad B R b o xs)(hx:xs.length<100000000000)(ha:a≤xs.length):
  Ac Tryz.prog f2∧FN Tryz.prog B f2 ([ptr rb 0,ptr fb 0]++us2) (CA rb p c xs a*(HP.AA fb 0 (AM (r0 k fin))*(C*R))) (fun _ H'=>∃r a',CF xs k fin a=some (r.f,a')∧r.ok∧r.own∧H'=CA rb p c xs a'*(HP.AA fb 0 (AM r)*(Fs r*(C*R)))) (fun ch H'=>CF xs k fin a=none∧ch=Gg∧H'=C*R):=by
 generalize hk:(k:Int)=kk at h
 cases h with
 |pad bt=>
  obtain rfl:k=1:=by omega
  exact⟨inferInstance,vY rb fb fin p b o c xs a _ hs inferInstance hx ha⟩
 |ping bt=>
  obtain rfl:k=2:=by omega
  exact⟨inferInstance,kS rb fb fin p b o c xs a _ hs inferInstance hx ha⟩
 |HY=>
  obtain rfl:k=3:=by omega
  exact⟨inferInstance,tL rb fb fin p b o c xs a _ hs inferInstance hx ha⟩
 |reset=>
  obtain rfl:k=4:=by omega
  exact⟨inferInstance,vR rb fb fin p b o c xs a _ hs inferInstance hx ha⟩
 |data=>
  obtain rfl:k=5:=by omega
  exact⟨inferInstance,rC rb fb fin p b o c xs a _ hs inferInstance hx ha⟩
 |IS bt bq=>
  obtain rfl:k=6:=by omega
  exact⟨inferInstance,qU bq rb fb fin p b o c xs a _ hs inferInstance hx ha⟩
end
section
open Go Go.RowKit Go.Extern.Stop Go.Stop Go.Extern
set_option linter.unusedVariables false
theorem iZ(k:Addr)(w:World):(ReflectliteValue.unpack (.iface 191 (.pointer (some k)))).run Tryz.prog w
  = .ok (.agg #[.pointer (some ⟨1,191,none⟩),.pointer (some ⟨w.heap.size,0,none⟩),.int .u64 150]) (w.alloc (.cells #[.pointer (some k)] 191)):=by kernel_rfl
theorem nW(v:Value)(w:World):(ReflectliteType.typeOf #[.iface 191 v]).run Tryz.prog w=.ok (.iface 282 (.agg #[.pointer (some ⟨1,191,none⟩)])) w:=by kernel_rfl
theorem oV(w :World) :(ReflectliteType.relation "AssignableTo" ReflectliteType.assignableTo #[.agg #[.pointer (some ⟨1,191,none⟩)],.iface 282 (.agg #[.pointer (some ⟨1,191,none⟩)])]).run Tryz.prog w =.ok (.bool true) w :=by kernel_rfl
theorem yV(w:World):(Rtype.elem? 193).run Tryz.prog w=.ok (some 191) w:=by kernel_rfl
theorem hM(p:Addr)(w:World):(ReflectliteValue.mk 191 p ReflectliteValue.flagAddr).run Tryz.prog w=.ok (.agg #[.pointer (some ⟨1,191,none⟩),.pointer (some p),.int .u64 406]) w:=by kernel_rfl
theorem gB(a p:Addr)(W:World)(ha:W.cell? a=some (.pointer (some p))):
  (ReflectliteValue.method (ReflectliteValue.valueError "reflectlite.Value.Elem" 0) ReflectliteValue.elem #[.agg #[.pointer (some ⟨1,193,none⟩),.pointer (some a),.int .u64 150]]).run Tryz.prog W
   = .ok (.agg #[.pointer (some ⟨1,191,none⟩),.pointer (some p),.int .u64 406]) W:=by
 rw [QG];simp only [Sem.run_bind,Zs,L_];simp [ReflectliteValue.elem,loadVar,isAgg,underlying,Tryz.underlying193,ha,L_,yV,hM]
theorem wJ(a:Addr)(w:World):(ReflectliteValue.parts (.agg #[.pointer (some ⟨1,191,none⟩),.pointer (some a),.int .u64 406])).run Tryz.prog w=.ok (some (191,a,406)) w:=by kernel_rfl
theorem pG(a:Addr)(w:World):(ReflectliteValue.parts (.agg #[.pointer (some ⟨1,191,none⟩),.pointer (some a),.int .u64 150])).run Tryz.prog w=.ok (some (191,a,150)) w:=by kernel_rfl
theorem jN(w:World):(Rtype.directlyAssignable 191 191).run Tryz.prog w=.ok true w:=by kernel_rfl
theorem zU(ta b:Addr)(k:Addr)(old:Value)(W:World)(hb:W.cell? b=some (.pointer (some k)))(ht:W.cell? ta=some old)(hf:W.frozen? ta=false):
  (ReflectliteValue.set #[.agg #[.pointer (some ⟨1,191,none⟩),.pointer (some ta),.int .u64 406],.agg #[.pointer (some ⟨1,191,none⟩),.pointer (some b),.int .u64 150]]).run Tryz.prog W
   = .ok (.tuple #[]) (W.setCell ta (.pointer (some k))):=by
 rw [XL];simp only [Sem.run_bind,wJ,pG,L_];simp [ReflectliteValue.flagAddr,loadVar,isAgg,underlying,Tryz.underlying191,hb,L_,jN,storeVar,Value.cells,storeCells,Addr.add];rw [run_store Tryz.prog W ta _ _ (by rfl)];simp [ht,hf]
end
section
variable{B:World}
end
section
variable{B:World}
theorem M8(p:Option Addr)(b o c k:Nat)(xs:List UInt8)(s:List Value)(R:HP)(hs:Sl p b o k c)(hx:xs.length=k)(hk:k<1000000000):
  Fn Tryz.prog B 93 [.slice p k c] (AB b o xs s*R) (fun _ H'=>∃ys:List UInt8,ys.length=k∧H'=AB b o ys s*R):=by
 refine mI Tryz.func93 ?_;refine J4 ?_;refine G3 ?_;refine Bm (α:=Nat×List UInt8) (fun z=>[(0,.slice p k c),(4,iN k),(5,iN z.1)]) (fun z=>AB b o z.2 s*R) (fun z=>z.1≤k∧z.2.length=k) (fun z=>k-z.1) (0,xs) ⟨L? _,hx⟩ EG rfl ?_;rintro⟨j,ys⟩ ⟨hj,hy⟩;dsimp only at hj hy⊢;refine J6 ?_;refine mC (fun hc=>?_) (fun hc=>?_)
 ·refine F5z ?_;refine JL (CU rfl rfl (b:=b) (o:=o) hs hc) ?_;refine Bi (Eh (v:=u8 33) rfl rfl rfl Ca) ?_;refine FB ?_;refine E7 ?_;exact Ba (j+1,ys.set j 33) ⟨hc,by simp [hy]⟩ Yh EG rfl
 refine J4 ?_;exact OY (ts:=[]) rfl rfl ⟨ys,hy,rfl⟩
theorem Xi{ks:List UInt8}(hk:ks.length=16){side:UInt8}{xs:List UInt8}(p:Option Addr)(b o c:Nat)(H:HP)(hs:Sl p b o xs.length c)(hr:Ad B H b o xs)(hx:xs.length<90000000)(hop:Bz ks side xs=none):
  Fn Tryz.prog B 142 [.agg (AD ks++[u8 side]).toArray,.slice p xs.length c] H (fun v H'=>v=.tuple #[u64 0,.slice none 0 0,.bool false]∧H'=H):=by
 have h:=Vz ks hk side xs p b o c H hs hr hx;rw [hop]at h;exact h
theorem Xo{ks:List UInt8}(hk:ks.length=16){side:UInt8}{xs:List UInt8}{n:UInt64}{ys:List UInt8}(p:Option Addr)(b o c:Nat)(H:HP)(hs:Sl p b o xs.length c)(hr:Ad B H b o xs)(hx:xs.length<90000000)(hop:Bz ks side xs=some (n,ys)):
  Fn Tryz.prog B 142 [.agg (AD ks++[u8 side]).toArray,.slice p xs.length c] H (fun v H'=>∃q b' o' c' s',v=.tuple #[u64 n,.slice q ys.length c',.bool true]∧Sl q b' o' ys.length c'∧ys.length*1+s'.length=c'*1∧H'=AB b' o' ys s'*H):=by
 have h:=Vz ks hk side xs p b o c H hs hr hx;rw [hop]at h;exact h.mono (by rintro v H' ⟨sv,rfl,q,b',o',c',s',rfl,h1,h2,rfl⟩;exact⟨q,b',o',c',s',rfl,h1,h2,rfl⟩)
theorem wV(ks:List UInt8)(hk:ks.length=16)(first:Bool)(xs:List UInt8)(p:Option Addr)(b o c:Nat)(H:HP)(hs:Sl p b o xs.length c)(hr:Ad B H b o xs)(hx:xs.length<90000000)(hop:Bz ks (Af first) xs=none):
  Fn Tryz.prog B 98 [.agg (AD ks).toArray,.bool first,.slice p xs.length c] H (fun v H'=>v=.tuple #[u64 0,.slice none 0 0,.iface 41 (.int .i64 4)]∧H'=H):=by
 refine mI Tryz.func98 ?_;refine J2 ?_;refine KR ?_;rintro _ _ ⟨b3,rfl,rfl⟩;refine ZE ?_;refine mE rfl (Xi hk p b o c _ hs inferInstance hx hop) ?_;refine JR ?_;refine F5z ?_;refine I1 ?_;refine mc (fun hc=>?_) (fun hc=>?_);rotate_left
 ·cases hc
 refine J2 ?_;refine JL G8 ?_;refine Gu ?_;refine J6 ?_;exact mR [6,7,8] H rfl rfl BW
theorem oH(ks:List UInt8)(hk:ks.length=16)(first:Bool)(xs:List UInt8)(n:UInt64)(ys:List UInt8)(p:Option Addr)(b o c:Nat)(H:HP)(hs:Sl p b o xs.length c)(hr:Ad B H b o xs)(hx:xs.length<90000000)(hop:Bz ks (Af first) xs=some (n,ys)):
  Fn Tryz.prog B 98 [.agg (AD ks).toArray,.bool first,.slice p xs.length c] H (fun v H'=>∃sv,v=.tuple #[u64 n,sv,.nilIface]∧((ys=[]∧sv=.slice none 0 0∧H'=H)∨(ys≠ []∧B5 H ys sv H'))):=by
 refine mI Tryz.func98 ?_;refine J2 ?_;refine KR ?_;rintro _ _ ⟨b3,rfl,rfl⟩;refine ZE ?_;refine mE rfl (Xo hk p b o c _ hs inferInstance hx hop) ?_;rintro _ _ ⟨q,b',o',c',s',rfl,hq1,hq2,rfl⟩;refine F5z ?_;refine I1 ?_;refine mc (fun hc=>?_) (fun hc=>?_)
 ·cases hc
 refine J7 ?_;refine Iu ?_;refine mC (fun hc=>?_) (fun hc=>?_)
 ·refine Gt ?_;exact mR [6,7,8] H rfl rfl ⟨_,rfl,.inl ⟨M_.1 hc,rfl,rfl⟩⟩
 refine DP ?_;exact mR [6,7,8] (AB b' o' ys s'*H) rfl rfl ⟨_,rfl,.inr ⟨fun h=>hc PZ,q,b',o',c',s',rfl,hq1,hq2,rfl⟩⟩
def bE(c:Int)(n:Nat):Nat:=(if c<0 then(-(c+1)).toNat else c.toNat)%n
theorem VZ(H:HP):Fn Tryz.prog B 44 [.nilIface] H (fun v H'=>v=.tuple #[.int .i64 0,.int .i64 (-1)]∧H'=H):=by
 refine UG ?_;rintro _ _ ⟨b4,rfl,rfl⟩;refine J4 ?_;refine N1 ?_;rintro _ _ ⟨b5,rfl,rfl⟩;refine J7 ?_;refine JL M9 ?_;refine J3 ?_;refine mc (fun hc=>?_) (fun hc=>?_);rotate_left
 ·cases hc
 refine IR ?_;refine J6 ?_;exact mR [2,3] H rfl rfl BW
theorem YY(H:HP):Fn Tryz.prog B 40 [.nilIface] H (fun v H'=>v=.int .i64 0∧H'=H):=by
 refine mI Tryz.func40 ?_;refine Kh ?_;refine mE rfl (VZ _) ?_;refine JR ?_;refine Gt ?_;exact Kd
end
section
open Go Go.RowKit Go.Extern.Stop Go.Stop Go.Extern
set_option linter.unusedVariables false
set_option maxRecDepth 20000
set_option maxHeartbeats 1000000
variable{B:World}
abbrev Fq(q:Nat):Value:=.iface 191 (ptr q 0)
abbrev Ec(q k:Nat)(at_:Value):HP:=HP.AA q 0 [.int .i64 (k:Nat),at_]
theorem mH(q k:Nat)(at_:Value)(R:HP):Fn Tryz.prog B 249 [ptr q 0] (Ec q k at_*R) (fun v H'=>v=EM k∧H'=Ec q k at_*R):=by
 refine mI Tryz.func249 ?_;refine CB ?_;refine Dw ?_;refine JL G8 ?_;refine J4 ?_;exact Kd
theorem lZ(q:Nat)(tg old:Value)(b5 b14:Nat)(R:HP):Fn Tryz.prog B 123 [Fq q,tg,.agg #[.pointer (some ⟨1,193,none⟩),ptr b14 0,.int .u64 150],CZ 191] (HP.AA b5 0 [old]*(HP.AA b14 0 [ptr b5 0]*R))
  (fun v H'=>v=.bool true∧H'=HP.AA b5 0 [ptr q 0]*(HP.AA b14 0 [ptr b5 0]*R)):=by
 refine mI Tryz.func123 ?_;refine J2 ?_;refine Ag (Db (l:=[.pointer (some ⟨1,193,none⟩),ptr b14 0,.int .u64 150]) rfl rfl) rfl ?_;rintro _ _ ⟨b6,rfl,rfl⟩;refine J4 ?_;refine Bm (fun _:Unit=>[(0,Fq q),(1,tg),(3,CZ 191),(6,ptr b6 0)]) (fun _=>(HP.AA b6 0 [.pointer (some ⟨1,193,none⟩),ptr b14 0,.int .u64 150]*(HP.AA b5 0 [old]*(HP.AA b14 0 [ptr b5 0]*R)))) (fun _=>True) (fun _=>0) () trivial C9 rfl ?_;intro _ _;refine J5 ?_;refine JL (Im rfl (fun w _=>nW _ w)) ?_;refine J1 ?_;refine JL (HL rfl rfl (fun w _=>oV w)) ?_;refine J2 ?_;refine mc (fun hc=>?_) (fun hc=>?_);rotate_left
 ·cases hc
 refine J3 ?_;refine JL (Im (v:=.agg #[.pointer (some ⟨1,191,none⟩),ptr b5 0,.int .u64 406]) rfl (fun w hw=>gB ⟨b14,0,none⟩ ⟨b5,0,none⟩ w ((inferInstance:Rd B (HP.AA b6 0 [.pointer (some ⟨1,193,none⟩),ptr b14 0,.int .u64 150]*(HP.AA b5 0 [old]*(HP.AA b14 0 [ptr b5 0]*R))) b14 0 (ptr b5 0) True).get w hw trivial))) ?_;refine J1 ?_;refine Ag (LV (Post:=fun v H'=>∃b,v=.agg #[.pointer (some ⟨1,191,none⟩),ptr b 0,.int .u64 150]∧H'=HP.AA b 0 [ptr q 0]*(HP.AA b6 0 [.pointer (some ⟨1,193,none⟩),ptr b14 0,.int .u64 150]*(HP.AA b5 0 [old]*(HP.AA b14 0 [ptr b5 0]*R)))) rfl (fun w hw=>⟨_,_,_,iZ _ w,⟨w.heap.size,rfl,rfl⟩,hw.alloc _ _⟩)) rfl ?_;rintro _ _ ⟨b23,rfl,rfl⟩
 refine Ag (LV (Post:=fun v H'=>H'=HP.AA b23 0 [ptr q 0]*(HP.AA b6 0 [.pointer (some ⟨1,193,none⟩),ptr b14 0,.int .u64 150]*(HP.AA b5 0 [ptr q 0]*(HP.AA b14 0 [ptr b5 0]*R)))) rfl (fun w hw=>by
 have hb:=(inferInstance:Rd B (HP.AA b23 0 [ptr q 0]*(HP.AA b6 0 [.pointer (some ⟨1,193,none⟩),ptr b14 0,.int .u64 150]*(HP.AA b5 0 [old]*(HP.AA b14 0 [ptr b5 0]*R)))) b23 0 (ptr q 0) True).get w hw trivial
 obtain⟨⟨u,hu⟩,hf,hs⟩:=Sat.store (v:=ptr q 0) (H':=HP.AA b23 0 [ptr q 0]*(HP.AA b6 0 [.pointer (some ⟨1,193,none⟩),ptr b14 0,.int .u64 150]*(HP.AA b5 0 [ptr q 0]*(HP.AA b14 0 [ptr b5 0]*R)))) (s:=True) (b:=b5) (i:=0) inferInstance hw trivial
 exact⟨_,_,_,zU ⟨b5,0,none⟩ ⟨b23,0,none⟩ ⟨q,0,none⟩ u w hb hu hf,rfl,hs⟩)) rfl ?_
 rintro _ _ rfl;refine DP ?_;exact mR [8] (HP.AA b5 0 [ptr q 0]*(HP.AA b14 0 [ptr b5 0]*R)) rfl rfl BW
theorem mY(hG:B.cell? ⟨0,0,none⟩=some (CZ 106))(q:Nat)(old:Value)(b4:Nat)(R:HP):Fn Tryz.prog B 79 [Fq q,.iface 193 (ptr b4 0)] (HP.AA b4 0 [old]*R) (fun v H'=>v=.bool true∧H'=HP.AA b4 0 [ptr q 0]*R):=by
 refine TT ?_;refine mc (fun hc=>?_) (fun hc=>?_)
 ·cases hc
 refine J6 ?_;refine KK ?_;refine mc (fun hc=>?_) (fun hc=>?_)
 ·cases hc
 refine J5 ?_;refine Ag cQ rfl ?_;rintro _ _ ⟨b14,rfl,rfl⟩;refine Kr ?_;rintro _ _ ⟨b5,rfl,rfl⟩;refine aQ ?_;refine EL 20 rfl (fun hg1=>?_) (fun hg1=>?_)
 ·exact absurd rfl hg1
 refine Mw ?_;refine JL XW ?_;refine JL Eo ?_;refine J2 ?_;refine mc (fun hc=>?_) (fun hc=>?_)
 ·cases hc
 refine eB ?_;refine EL 30 rfl (fun hg2=>?_) (fun hg2=>?_)
 ·refine bR ?_;refine mc (fun hc=>?_) (fun hc=>?_)
  ·cases hc
  refine J8 ?_;refine A9 (H':=HP.AA b4 0 [old]*(HP.AA b14 0 [ptr b4 0]*(HP.AA b5 0 [.pointer (some ⟨1,193,none⟩),ptr b14 0,.int .u64 150]*R))) Cf ?_;refine mE rfl (lZ q _ old b4 b14 (HP.AA b5 0 [.pointer (some ⟨1,193,none⟩),ptr b14 0,.int .u64 150]*R)) ?_;refine FB ?_;exact mR [4] (HP.AA b4 0 [ptr q 0]*R) rfl rfl BW
 exact absurd Cc hg2
theorem kJ(q:Value)(k:Int)(w:World):(binOp .eql 106 (.iface 191 q) (.iface 41 (.int .i64 k))).run Tryz.prog w=.ok (.bool false) w:=by kernel_rfl
theorem vG(q k:Nat)(at_:Value)(R:HP):Fn Tryz.prog B 125 [Fq q,EM k,.bool true] (Ec q k at_*R) (fun v H'=>v=.bool true∧H'=Ec q k at_*R):=by
 refine mI Tryz.func125 ?_;refine J6 ?_;refine Bm (fun z:Bool=>[(0,bif z then Fq q else EM k),(1,EM k),(2,.bool true)]) (fun _=>Ec q k at_*R) (fun _=>True) (fun z=>bif z then 1 else 0) true trivial EG rfl ?_;intro z _
 have hne:(bif z then Fq q else EM k)=Fq q∨z=false:=by cases z<;>simp
 cases z;rotate_left
 ·dsimp only [cond_true]at*;refine J6 ?_;refine DO 15 rfl (fun hg1=>?_) (fun hg1=>?_)
  ·refine Hx ?_;refine JL (J0 (r:=.bool false) rfl rfl (fun w=>by kernel_rfl) (fun w=>by rw [kJ])) ?_;refine Jw ?_;refine mc (fun hc=>?_) (fun hc=>?_)
   ·cases hc
   refine J6 ?_;refine JL OO ?_;refine Bt ?_;refine DO 26 rfl (fun hg2=>?_) (fun hg2=>?_)
   ·cases hg2
   refine UU ?_;refine JL NA ?_;refine Gi ?_;refine CB ?_;refine JL (SF (v:=.tuple #[Fq q,.bool true]) rfl (run_typeAssert_hasB Au.get Cb _ _)) ?_;refine J4 ?_;refine mc (fun hc=>?_) (fun hc=>?_);rotate_left
   ·cases hc
   refine J8 ?_;refine Ag (vI rfl rfl (mH q k at_ R)) rfl ?_;refine Ik ?_;refine KK ?_;refine mc (fun hc=>?_) (fun hc=>?_)
   ·cases hc
   refine J3 ?_;exact Ba false trivial Cc EG rfl
  cases hg1
 dsimp only [cond_false]at*;refine J6 ?_;refine DO 15 rfl (fun hg1=>?_) (fun hg1=>?_)
 ·refine Hx ?_;refine JL XI ?_;refine Jw ?_;refine mc (fun hc=>?_) (fun hc=>?_);rotate_left
  ·cases hc
  refine CB ?_;exact mr [6] rfl rfl BW
 cases hg1
theorem gE(q k:Nat)(at_:Value)(R:HP):Fn Tryz.prog B 80 [Fq q,EM k] (Ec q k at_*R) (fun v H'=>v=.bool true∧H'=Ec q k at_*R):=by
 refine mI Tryz.func80 ?_;refine J9 ?_;refine JZ ?_;refine J1 ?_;refine DO 8 rfl (fun hg1=>?_) (fun hg1=>?_)
 ·cases hg1
 refine LO ?_;refine JZ ?_;refine LI ?_;refine mc (fun hc=>?_) (fun hc=>?_)
 ·cases hc
 refine J5 ?_;refine JL OX ?_;refine JL Ys ?_;refine J8 ?_;refine mE rfl (vG q k at_ R) ?_;refine FB ?_;exact mr [4] rfl rfl BW
theorem aW(hG:B.cell? ⟨0,0,none⟩=some (CZ 106))(k:Nat)(H:HP):Fn Tryz.prog B 44 [EM k] H (fun v H'=>v=.tuple #[.int .i64 k,.int .i64 (-1)]∧H'=H):=by
 refine UG ?_;rintro _ _ ⟨b4,rfl,rfl⟩;refine J4 ?_;refine N1 ?_;rintro _ _ ⟨b5,rfl,rfl⟩;refine J7 ?_;refine JZ ?_;refine J3 ?_;refine mc (fun hc=>?_) (fun hc=>?_)
 ·cases hc
 refine J3 ?_;refine JL G8 ?_;refine O6 ?_;refine mE rfl (gX hG k _ b4 _) ?_;refine H5 ?_;refine DO 13 rfl (fun hg1=>?_) (fun hg1=>?_)
 ·cases hg1
 refine H3 ?_;refine H3 ?_;refine Hw ?_;refine JL Ia ?_;refine J3 ?_;refine Kn ?_;refine J3 ?_;refine JL G8 ?_;refine O6 ?_;refine mE rfl (mM hG k _ b5 _) ?_;refine H5 ?_;refine DO 34 rfl (fun hg2=>?_) (fun hg2=>?_)
 ·refine JG hg2 ?_;refine J1 ?_;refine JG hg2 ?_;refine Dw ?_;refine JG hg2 ?_;refine JL G8 ?_;refine JG hg2 ?_;refine mE rfl (sN k _) ?_;refine JR ?_;refine JL Mo ?_;refine J3 ?_;refine mc (fun hc=>?_) (fun hc=>?_);rotate_left
  ·cases hc
  refine J2 ?_;refine Dw ?_;refine J7 ?_;exact mR [2,3] H rfl rfl BW
 cases hg2
theorem U4(hG:B.cell? ⟨0,0,none⟩=some (CZ 106))(k:Nat)(H:HP):Fn Tryz.prog B 40 [EM k] H (fun v H'=>v=.int .i64 k∧H'=H):=by
 refine mI Tryz.func40 ?_;refine Kh ?_;refine mE rfl (aW hG k _) ?_;refine JR ?_;refine Gt ?_;exact Kd
theorem XY(hG:B.cell? ⟨0,0,none⟩=some (CZ 106))(q k:Nat)(at_:Value)(R:HP):Fn Tryz.prog B 44 [Fq q] (Ec q k at_*R) (fun v H'=>v=.tuple #[.int .i64 k,at_]∧H'=Ec q k at_*R):=by
 refine UG ?_;rintro _ _ ⟨b4,rfl,rfl⟩;refine J4 ?_;refine N1 ?_;rintro _ _ ⟨b5,rfl,rfl⟩;refine J7 ?_;refine JZ ?_;refine J3 ?_;refine mc (fun hc=>?_) (fun hc=>?_)
 ·cases hc
 refine J3 ?_;refine JL G8 ?_;refine O6 ?_;refine mE rfl (mY hG q _ b4 _) ?_;refine H5 ?_;refine DO 13 rfl (fun hg1=>?_) (fun hg1=>?_)
 ·refine LO ?_;refine Dw ?_;refine Hx ?_;refine Dw ?_;refine ID ?_;refine JL G8 ?_;refine A9 (H':=Ec q k at_*(HP.AA b4 0 [ptr q 0]*(HP.AA b5 0 [.int .i64 0]*R))) Cf ?_;refine ID ?_;refine mE rfl (gE q k at_ _) ?_;refine JR ?_;refine JL Jp ?_;refine J3 ?_;refine mc (fun hc=>?_) (fun hc=>?_);rotate_left
  ·cases hc
  refine J1 ?_;refine mA 10 10 ?_;refine Jd 0 ?_;refine K7 ?_;refine HM ?_;refine Jn 5 ?_;refine Jf 6 ?_;refine Jd 7 ?_;refine Ja 8 ?_;refine Ja 9 ?_;refine K4 ?_;exact mR [2,3] (Ec q k at_*R) rfl rfl BW
 cases hg1
theorem kT(hG:B.cell? ⟨0,0,none⟩=some (CZ 106))(q k:Nat)(at_:Value)(R:HP):Fn Tryz.prog B 40 [Fq q] (Ec q k at_*R) (fun v H'=>v=.int .i64 k∧H'=Ec q k at_*R):=by
 refine mI Tryz.func40 ?_;refine Kh ?_;refine mE rfl (XY hG q k at_ _) ?_;refine JR ?_;refine Gt ?_;exact Kd
theorem pI(hG:B.cell? ⟨0,0,none⟩=some (CZ 106))(ks:List UInt8)(hk:ks.length=16)(first:Bool)(xs:List UInt8)(p:Option Addr)(b o c:Nat)(H:HP)(hs:Sl p b o xs.length c)(hr:Ad B H b o xs)(hx:xs.length<90000000)(hop:Bz ks (Af first) xs=none):
  Fn Tryz.prog B 55 [.agg (AD ks).toArray,.bool first,.slice p xs.length c] H (fun v H'=>v=.tuple #[u64 0,.slice none 0 0,.int .i64 4]∧H'=H):=by
 refine mI Tryz.func55 ?_;refine J2 ?_;refine KR ?_;rintro _ _ ⟨b3,rfl,rfl⟩;refine Z6 ?_;rintro _ _ ⟨p14,b14,o14,c14,s14,rfl,hs14,hc14,rfl⟩;rw [M?]at hs14 hc14⊢;refine J5 ?_;refine JL N3 ?_;refine J2 ?_;refine mE rfl (wV ks hk first xs p14 b14 o14 c14 _ hs14 inferInstance hx hop) ?_;refine JR ?_;refine DP ?_;refine mE rfl (M8 p14 b14 o14 c14 xs.length xs s14 _ hs14 rfl Ca) ?_;rintro _ _ ⟨ys,hys,rfl⟩;refine J7 ?_;refine mE rfl (U4 hG 4 _) ?_;refine Ik ?_;exact mR [6,7,8] H rfl rfl BW
theorem bK(ks:List UInt8)(hk:ks.length=16)(first:Bool)(xs:List UInt8)(n:UInt64)(ys:List UInt8)(p:Option Addr)(b o c:Nat)(H:HP)(hs:Sl p b o xs.length c)(hr:Ad B H b o xs)(hx:xs.length<90000000)(hop:Bz ks (Af first) xs=some (n,ys)):
  Fn Tryz.prog B 55 [.agg (AD ks).toArray,.bool first,.slice p xs.length c] H (fun v H'=>∃sv,v=.tuple #[u64 n,sv,.int .i64 0]∧((ys=[]∧sv=.slice none 0 0∧H'=H)∨(ys≠ []∧B5 H ys sv H'))):=by
 refine mI Tryz.func55 ?_;refine J2 ?_;refine KR ?_;rintro _ _ ⟨b3,rfl,rfl⟩;refine Z6 ?_;rintro _ _ ⟨p14,b14,o14,c14,s14,rfl,hs14,hc14,rfl⟩;rw [M?]at hs14 hc14⊢;refine J5 ?_;refine JL N3 ?_;refine J2 ?_;refine mE rfl (oH ks hk first xs n ys p14 b14 o14 c14 _ hs14 inferInstance hx hop) ?_;rintro _ H0 ⟨sv,rfl,hsv⟩
 obtain⟨H19,hH19,hsw⟩:∃H19:HP,H0=H19*(AB b14 o14 xs s14*(HP.AA b3 0 (AD ks)*H))∧((ys=[]∧sv=.slice none 0 0∧H19=HP.BD)∨(ys≠ []∧B5 HP.BD ys sv H19)):=by
  rcases hsv with⟨h1,h2,h3⟩|⟨h1,p',b',o',c',s',h2,h3,h4,h5⟩
  ·exact⟨HP.BD,(by rw [h3,HP.BI]),.inl ⟨h1,h2,rfl⟩⟩
  ·exact⟨AB b' o' ys s',h5,.inr ⟨h1,p',b',o',c',s',h2,h3,h4,(HP.GL _).symm⟩⟩
 subst hH19;refine DP ?_;refine A9 (HP.CI _ _ _) ?_;refine mE rfl (M8 p14 b14 o14 c14 xs.length xs s14 _ hs14 rfl Ca) ?_;rintro _ _ ⟨zs,hzs,rfl⟩;refine J7 ?_;refine mE rfl (YY _) ?_;refine Ik ?_
 exact mR [6,7,8] (H19*H) rfl rfl ⟨_,rfl,by
   rcases hsw with⟨h1,h2,h3⟩|⟨h1,p',b',o',c',s',h2,h3,h4,h5⟩
   ·exact .inl ⟨h1,h2,by rw [h3,HP.BI]⟩
   ·exact .inr ⟨h1,p',b',o',c',s',h2,h3,h4,by rw [h5,HP.GL]⟩⟩
end
end Go.Proofs.YtgfdlpcdjklcoaaGreatDoor
