/- A part of this proof: steps of the program, plain facts; no condition. -/
import Derived.Test.YtgfdlpcdjklcoaaGreatDoorC8
namespace Go.Proofs.YtgfdlpcdjklcoaaGreatDoor
open Go Go.RowKit
open _root_.Nat renaming lt_succ_iff_lt_or_eq→A_,zero_le→C!,add_sub_cancel→E!,reduceEqDiff→F_,sub_zero→F!,ble→F?,blt→G_
open _root_.Go.Value renaming bool→A!
open _root_.List renaming length_append→A?,getElem?_cons_zero→B_,getElem?_toArray→B!,getElem?_eq_some_iff→C_,length_eq_zero_iff→C?,getElem?_cons_succ→D_,nil_append→D!,length_pos_iff→D?,flatMap_append→E_,getElem_mem→E?
open _root_.Go.Result renaming andThen→B?
set_option linter.unusedVariables false
set_option maxRecDepth 20000
section
variable{B:World}
theorem HC(n:Nat)(hn:n≤4611686018427387903)(p:Option Addr)(b o c:Nat)(xs:List UInt8)(s:List Value)(R:HP)(hs:Sl p b o xs.length c)(hc:xs.length*1+s.length=c*1)(hx:xs.length<1000000000000):
  Fn Tryz.prog B 194 [.slice p xs.length c,uN n] (AB b o xs s*R) (fun v H'=>B1 R (xs++AU n) v H'):=by
 refine W6 ?_;refine mC (fun hc0=>?_) (fun hc0=>?_)
 ·refine J4 ?_;refine Gx ?_;refine KX ?_;rintro _ _ ⟨b11,rfl,rfl⟩;refine BF (H':=AB b o xs s*(HP.AA b11 0 (AD (AU n))*R)) Um ?_
  have hl:(AU n).length=1:=by simp [AU, *]
  refine Af (CS (ys:=AU n) (bb:=b11) (oo:=0) (cc:=1) rfl hs hc Cx Js inferInstance rfl JZ Ca) rfl ?_;rintro _ _ ⟨q,b',o',c',s',rfl,h1,h2,rfl⟩;refine J6 ?_;exact N1
 refine J3 ?_;refine JL (Dr (j:=16384) rfl rfl) ?_;refine J3 ?_;refine mC (fun hc1=>?_) (fun hc1=>?_)
 ·refine VQ ?_;rintro _ _ ⟨b23,rfl,rfl⟩;refine BF (H':=AB b o xs s*(HP.AA b23 0 (AD (AU n))*R)) V1 ?_
  have hl:(AU n).length=2:=by simp [AU, *]
  refine Af (CS (ys:=AU n) (bb:=b23) (oo:=0) (cc:=2) rfl hs hc Cx Js inferInstance rfl JZ Ca) rfl ?_;rintro _ _ ⟨q,b',o',c',s',rfl,h1,h2,rfl⟩;refine J6 ?_;exact N1
 refine J3 ?_;refine JL (Dr (j:=1073741824) rfl rfl) ?_;refine J3 ?_;refine mC (fun hc2=>?_) (fun hc2=>?_)
 ·refine aG ?_;rintro _ _ ⟨b41,rfl,rfl⟩;refine BF (H':=AB b o xs s*(HP.AA b41 0 (AD (AU n))*R)) Xe ?_
  have hl:(AU n).length=4:=by simp [AU, *]
  refine Af (CS (ys:=AU n) (bb:=b41) (oo:=0) (cc:=4) rfl hs hc Cx Js inferInstance rfl JZ Ca) rfl ?_;rintro _ _ ⟨q,b',o',c',s',rfl,h1,h2,rfl⟩;refine J6 ?_;exact N1
 refine Yg ?_;rintro _ _ ⟨b68,rfl,rfl⟩;refine BF (H':=AB b o xs s*(HP.AA b68 0 (AD (AU n))*R)) Wf ?_
 have hl:(AU n).length=8:=by simp [AU, *]
 refine Af (CS (ys:=AU n) (bb:=b68) (oo:=0) (cc:=8) rfl hs hc Cx Js inferInstance rfl JZ Ca) rfl ?_;rintro _ _ ⟨q,b',o',c',s',rfl,h1,h2,rfl⟩;refine J4 ?_;exact N1
theorem iF(d:ByteArray)(hd:d.size<1000000000000)(p:Option Addr)(b o c:Nat)(xs:List UInt8)(s:List Value)(R:HP)(hs:Sl p b o xs.length c)(hc:xs.length*1+s.length=c*1)(hx:xs.length<1000000000000):
  Fn Tryz.prog B 200 [.slice p xs.length c,.string d] (AB b o xs s*R) (fun v H'=>B1 R (xs++AU d.size++d.data.toList) v H'):=by
 refine mI Tryz.func200 ?_;refine B8 ?_;refine JL FC ?_;refine mE rfl (HC d.size Ca p b o c xs s R hs hc Ca) ?_;rintro _ _ ⟨p9,b9,o9,c9,s9,rfl,hs9,hc9,rfl⟩;refine J1 ?_;refine Af (rT (str:=d) rfl hs9 hc9 rfl rfl Zj Ca) rfl ?_;rintro _ _ ⟨q,b',o',c',s',rfl,h1,h2,rfl⟩;refine J4 ?_;exact mR [4] (AB b' o' (xs++AU d.size++d.data.toList) s'*R) rfl rfl ⟨q,b',o',c',s',rfl,h1,h2,rfl⟩
theorem yA(t:UInt8)(bt:Nat)(r:RF)(fb:Nat)(p:Option Addr)(b o c:Nat)(xs:List UInt8)(s:List Value)(R:HP)(hs:Sl p b o xs.length c)(hc:xs.length*1+s.length=c*1)(hx:xs.length<100000000000):
  Fn Tryz.prog B 217 [.slice p xs.length c,ptr fb 0,ptr bt 0] (AB b o xs s*(HP.AA fb 0 (AJ r)*(HP.AA bt 0 [u8 t]*R))) (fun v H'=>B1 (HP.AA fb 0 (AJ r)*(HP.AA bt 0 [u8 t]*R)) (xs++[t]) v H'):=by
 refine mI Tryz.func217 ?_;refine J8 ?_;refine Dm ?_;refine KX ?_;rintro _ _ ⟨b8,rfl,rfl⟩;refine BF (H':=AB b o xs s*(HP.AA b8 0 (AD [t])*(HP.AA fb 0 (AJ r)*(HP.AA bt 0 [u8 t]*R)))) Lj ?_;refine Af (CS (ys:=[t]) (bb:=b8) (oo:=0) (cc:=1) rfl hs hc rfl CB inferInstance rfl Ck Ca) rfl ?_;rintro _ _ ⟨p9,b9,o9,c9,s9,rfl,hs9,hc9,rfl⟩;refine J4 ?_;exact mR [5] (AB b9 o9 (xs++[t]) s9*(HP.AA fb 0 (AJ r)*(HP.AA bt 0 [u8 t]*R))) rfl rfl ⟨p9,b9,o9,c9,s9,rfl,hs9,hc9,rfl⟩
theorem bH(fb:Nat)(H:HP):Fn Tryz.prog B 205 [ptr fb 0] H (fun v H'=>v=ptr fb (0+3)∧H'=H):=by
 refine mI Tryz.func205 ?_;refine Gc ?_;exact K4
theorem qA(bt bq:Nat)(r:RF)(fb:Nat)(p:Option Addr)(b o c:Nat)(xs:List UInt8)(s:List Value)(R:HP)(hs:Sl p b o xs.length c)(hc:xs.length*1+s.length=c*1)(hx:xs.length<100000000000)(hcd:r.f.code≤4611686018427387903):
  Fn Tryz.prog B 219 [.slice p xs.length c,ptr fb 0,ptr bt 0,ptr bq 0] (AB b o xs s*(HP.AA fb 0 (AJ r)*(HP.AA bt 0 [u8 28]*(HP.AA bq 0 [.func (.func 205) #[] #[]]*R)))) (fun v H'=>B1 (HP.AA fb 0 (AJ r)*(HP.AA bt 0 [u8 28]*(HP.AA bq 0 [.func (.func 205) #[] #[]]*R))) (xs++[28]++AU r.f.code) v H'):=by
 refine mI Tryz.func219 ?_;refine J6 ?_;refine D5 (HP.AA fb 0 (AJ r)*(HP.AA bt 0 [u8 28]*(HP.AA bq 0 [.func (.func 205) #[] #[]]*R))) 6 11 EI rfl Cb ?_;refine GF ?_;refine Jd 1 ?_;refine I1 ?_;refine Jm 5 ?_;refine An 2 Cb rfl rfl Hb ?_;rintro _ _ ⟨b9,rfl,rfl⟩;refine BA ?_;refine Ea (H':=AB b o xs s*(HP.AA b9 0 (AD [(28:UInt8)])*(HP.AA fb 0 (AJ r)*(HP.AA bt 0 [u8 28]*(HP.AA bq 0 [.func (.func 205) #[] #[]]*R))))) Lj ?_;refine An 3 Cb rfl rfl (CS (ys:=[28]) (bb:=b9) (oo:=0) (cc:=1) rfl hs hc rfl CB inferInstance rfl Ck Ca) ?_;rintro _ _ ⟨p10,b10,o10,c10,s10,rfl,hs10,hc10,rfl⟩;refine BA ?_;refine An 6 Cb rfl rfl (Hg rfl rfl (bH fb _)) ?_;refine JR ?_;refine DK ?_;refine EL 7 Cb rfl rfl CJ D2 ?_;refine EL 8 Cb rfl rfl ES D2 ?_;refine An 9 Cb rfl rfl (BJ rfl (HC r.f.code hcd p10 b10 o10 c10 (xs++[28]) s10 _ hs10 hc10 Ck)) ?_;rintro _ _ ⟨p16,b16,o16,c16,s16,rfl,hs16,hc16,rfl⟩;refine DK ?_;refine EL 10 Cb rfl rfl FQ D2 ?_;refine DO ?_
 exact mR [6] (AB b16 o16 (xs++[28]++AU r.f.code) s16*(HP.AA fb 0 (AJ r)*(HP.AA bt 0 [u8 28]*(HP.AA bq 0 [.func (.func 205) #[] #[]]*R)))) rfl rfl ⟨p16,b16,o16,c16,s16,rfl,hs16,hc16,rfl⟩
theorem sI(r:RF)(fb:Nat)(p:Option Addr)(b o c:Nat)(xs:List UInt8)(s:List Value)(R:HP)(hs:Sl p b o xs.length c)(hc:xs.length*1+s.length=c*1)(hx:xs.length<100000000000)(st:Nat)(hst:r.f.stream=(st:Nat))(hst4:st<4)(hcd:r.f.code≤4611686018427387903)(hof:r.f.offset≤4611686018427387903):
  Fn Tryz.prog B 193 [.slice p xs.length c,ptr fb 0] (AB b o xs s*(HP.AA fb 0 (AJ r)*R)) (fun v H'=>B1 (HP.AA fb 0 (AJ r)*R) (xs++[4]++AU st++AU r.f.code++AU r.f.offset) v H'):=by
 refine mI Tryz.func193 ?_;have q1:=CO st;have q2:=CO r.f.code;have q3:=CO r.f.offset;refine U' ?_;rintro _ _ ⟨b6,rfl,rfl⟩;refine BA ?_;refine WH ?_;refine An 2 Cb rfl rfl (CS (ys:=[4]) (bb:=b6) (oo:=0) (cc:=1) rfl hs hc rfl CB inferInstance rfl Ck Ca) ?_;rintro _ _ ⟨p7,b7,o7,c7,s7,rfl,hs7,hc7,rfl⟩;refine BA ?_;refine An 8 Cb rfl rfl (BJ rfl (HC (st) Ca p7 b7 o7 c7 (xs++[4]) s7 _ hs7 hc7 Co)) ?_;rintro _ _ ⟨p13,b13,o13,c13,s13,rfl,hs13,hc13,rfl⟩;refine BA ?_;refine An 13 Cb rfl rfl (BJ rfl (HC (r.f.code) hcd p13 b13 o13 c13 (xs++[4]++AU st) s13 _ hs13 hc13 Co)) ?_
 rintro _ _ ⟨p18,b18,o18,c18,s18,rfl,hs18,hc18,rfl⟩;refine BA ?_;refine An 18 Cb rfl rfl (BJ rfl (HC (r.f.offset) hof p18 b18 o18 c18 (xs++[4]++AU st++AU r.f.code) s18 _ hs18 hc18 Co)) ?_;rintro _ _ ⟨p23,b23,o23,c23,s23,rfl,hs23,hc23,rfl⟩;refine DK ?_;refine EL 19 Cb rfl rfl FQ D2 ?_;refine DO ?_;exact mR [4] (AB b23 o23 (xs++[4]++AU st++AU r.f.code++AU r.f.offset) s23*(HP.AA fb 0 (AJ r)*R)) rfl rfl ⟨p23,b23,o23,c23,s23,rfl,hs23,hc23,rfl⟩
theorem kD(r:RF)(fb:Nat)(p:Option Addr)(b o c:Nat)(xs:List UInt8)(s:List Value)(R:HP)(hs:Sl p b o xs.length c)(hc:xs.length*1+s.length=c*1)(hx:xs.length<100000000000)(st:Nat)(hst:r.f.stream=(st:Nat))(hst4:st<4)(hof:r.f.offset≤4611686018427387903)(hds:r.f.data.size<1000000000000):
  Fn Tryz.prog B 199 [.slice p xs.length c,ptr fb 0] (AB b o xs s*(HP.AA fb 0 (AJ r)*R)) (fun v H'=>B1 (HP.AA fb 0 (AJ r)*R) (xs++[bif r.f.fin then 9 else 8]++AU st++AU r.f.offset++AU r.f.data.size++r.f.data.data.toList) v H'):=by
 refine mI Tryz.func199 ?_;have q1:=CO st;have q2:=CO r.f.code;have q3:=CO r.f.offset;refine J7 ?_;refine JL YE ?_;refine J8 ?_;refine Dm ?_;refine J2 ?_;refine CR (α:=Unit) (fun _=>[(0,.slice p xs.length c),(1,ptr fb 0),(5,u8 (bif r.f.fin then 9 else 8))]) (fun _=>AB b o xs s*(HP.AA fb 0 (AJ r)*R)) (fun _=>True) ?_ ?_
 ·refine mc (fun hc0=>?_) (fun hc0=>?_)
  ·refine J1 ?_;refine JL X0 ?_;refine J1 ?_;exact OZ
  refine J1 ?_;exact OZ
 ·rintro z hz;refine V5 ?_;rintro _ _ ⟨b12,rfl,rfl⟩;refine BA ?_;refine aL ?_;refine An 3 Cb rfl rfl (CS (ys:=[(bif r.f.fin then(9:UInt8)else 8)]) (bb:=b12) (oo:=0) (cc:=1) rfl hs hc rfl CB inferInstance rfl Ck Ca) ?_;rintro _ _ ⟨p13,b13,o13,c13,s13,rfl,hs13,hc13,rfl⟩;refine BA ?_;refine An 9 Cb rfl rfl (BJ rfl (HC (st) Ca p13 b13 o13 c13 (xs++[bif r.f.fin then 9 else 8]) s13 _ hs13 hc13 Co)) ?_;rintro _ _ ⟨p19,b19,o19,c19,s19,rfl,hs19,hc19,rfl⟩;refine BA ?_;refine An 14 Cb rfl rfl (BJ rfl (HC (r.f.offset) hof p19 b19 o19 c19 (xs++[bif r.f.fin then 9 else 8]++AU st) s19 _ hs19 hc19 Co)) ?_
  rintro _ _ ⟨p24,b24,o24,c24,s24,rfl,hs24,hc24,rfl⟩;refine BA ?_;refine An 19 Cb rfl rfl (BJ rfl (iF r.f.data hds p24 b24 o24 c24 (xs++[bif r.f.fin then 9 else 8]++AU st++AU r.f.offset) s24 _ hs24 hc24 Ck)) ?_;rintro _ _ ⟨p29,b29,o29,c29,s29,rfl,hs29,hc29,rfl⟩;refine DK ?_;refine PT ?_;refine DO ?_;exact mR [4] (AB b29 o29 (xs++[bif r.f.fin then 9 else 8]++AU st++AU r.f.offset++AU r.f.data.size++r.f.data.data.toList) s29*(HP.AA fb 0 (AJ r)*R)) rfl rfl ⟨p29,b29,o29,c29,s29,rfl,hs29,hc29,rfl⟩
theorem mY(fb:Nat)(H:HP):Fn Tryz.prog B 198 [ptr fb 0] H (fun v H'=>v=.bool true∧H'=H):=by
 refine mI Tryz.func198 ?_;refine Bq ?_;exact K4
theorem oI(r:RF)(fb:Nat)(R:HP)(hof:r.f.offset≤4611686018427387903)(hds:r.f.data.size<1000000000000):
  Fn Tryz.prog B 203 [ptr fb 0] (HP.AA fb 0 (AJ r)*R) (fun v H'=>v=.bool (decide (r.f.data.size+r.f.offset≤4611686018427387903))∧H'=HP.AA fb 0 (AJ r)*R):=by
 refine mI Tryz.func203 ?_;refine J6 ?_;refine mA 13 13 ?_;refine IC ?_;refine JT 4 rfl Gg ?_;refine JT 5 rfl FC ?_;refine Jm 6 ?_;refine Jn 7 ?_;refine Jf 8 ?_;refine Jd 9 ?_;refine JT 10 rfl (KI (i:=4611686018427387903) rfl rfl Ca) ?_;refine JT 11 rfl Kc ?_;refine Ja 12 ?_;refine DO ?_;exact mR [2] (HP.AA fb 0 (AJ r)*R) rfl rfl ⟨congrArg A! (decide_eq_decide.2 Ca),rfl⟩
theorem sQ(r:RF)(fb:Nat)(p:Option Addr)(b o c:Nat)(xs:List UInt8)(s:List Value)(R:HP)(hs:Sl p b o xs.length c)(hc:xs.length*1+s.length=c*1)(hx:xs.length<100000000000)(hrok:r.ok)(hrd:Ab B R r.b r.o r.f.ranges)(hok:GH r.f.ranges)(hrl:r.f.ranges.length<10000000000):
  Fn Tryz.prog B 190 [.slice p xs.length c,ptr fb 0] (AB b o xs s*(HP.AA fb 0 (AJ r)*R)) (fun v H'=>B1 (HP.AA fb 0 (AJ r)*R) (xs++[2]++AU (rg r.f.ranges 0).hi++AU (r.f.ranges.length-1)++AU ((rg r.f.ranges 0).hi-(rg r.f.ranges 0).lo)++Bz r.f.ranges (r.f.ranges.length-1)) v H'):=by
 refine mI Tryz.func190 ?_;have hne:0<r.f.ranges.length:=D?.2 hok.1;have h0:=hok.2 0 hne;unfold FZ at h0;have q1:=CO (rg r.f.ranges 0).hi;have q2:=CO (r.f.ranges.length-1);have q3:=CO ((rg r.f.ranges 0).hi-(rg r.f.ranges 0).lo);refine B8 ?_;refine Dm ?_;refine JL W0 ?_;refine JL Z3 ?_;refine Kl ?_;rintro _ _ ⟨b5,rfl,rfl⟩;refine WG ?_;rintro _ _ ⟨b15,rfl,rfl⟩;refine BA ?_
 refine Yc ?_;refine An 2 Cb rfl rfl (CS (ys:=[2]) (bb:=b15) (oo:=0) (cc:=1) rfl hs hc rfl CB inferInstance rfl Ck Ca) ?_;rintro _ _ ⟨p16,b16,o16,c16,s16,rfl,hs16,hc16,rfl⟩;refine BA ?_;refine An 5 Cb rfl rfl (BJ rfl (HC ((rg r.f.ranges 0).hi) h0.2.1 p16 b16 o16 c16 (xs++[2]) s16 _ hs16 hc16 Co)) ?_;rintro _ _ ⟨p19,b19,o19,c19,s19,rfl,hs19,hc19,rfl⟩;refine BA ?_;refine An 13 Cb rfl rfl (BJ rfl (HC (r.f.ranges.length-1) Ca p19 b19 o19 c19 (xs++[2]++AU (rg r.f.ranges 0).hi) s19 _ hs19 hc19 Co)) ?_;rintro _ _ ⟨p27,b27,o27,c27,s27,rfl,hs27,hc27,rfl⟩;refine BA ?_;refine An 19 Cb rfl rfl (BJ rfl (HC ((rg r.f.ranges 0).hi-(rg r.f.ranges 0).lo) Ca p27 b27 o27 c27 (xs++[2]++AU (rg r.f.ranges 0).hi++AU (r.f.ranges.length-1)) s27 _ hs27 hc27 Co)) ?_;rintro _ _ ⟨p33,b33,o33,c33,s33,rfl,hs33,hc33,rfl⟩;refine DK ?_;refine PT ?_;refine IR ?_
 refine HI (AB b33 o33 (xs++[2]++AU (rg r.f.ranges 0).hi++AU (r.f.ranges.length-1)++AU ((rg r.f.ranges 0).hi-(rg r.f.ranges 0).lo)) s33*(HP.AA fb 0 (AJ r)*R)) ?_;refine J4 ?_;refine Dm ?_;refine JL cN ?_;refine Jb ?_;generalize hpre:(xs++[2]++AU (rg r.f.ranges 0).hi++AU (r.f.ranges.length-1)++AU ((rg r.f.ranges 0).hi-(rg r.f.ranges 0).lo))=pre at*
 have hpl:pre.length<200000000000:=by rw [←hpre];simp only [A?,List.length_cons,List.length_nil];omega
 refine Bk (α:=Nat×Option Addr×Nat×Nat×Nat×List Value) (fun z=>[(0,.slice z.2.1 (pre++Bz r.f.ranges z.1).length z.2.2.2.2.1),(1,ptr fb 0),(38,.slice (sp r.p r.c 1 2) (r.f.ranges.length-1) (r.c-1)),(39,iN (r.f.ranges.length-1)),(40,iN z.1)]) (fun z=>AB z.2.2.1 z.2.2.2.1 (pre++Bz r.f.ranges z.1) z.2.2.2.2.2*(HP.AA fb 0 (AJ r)*R)) (fun z=>z.1≤r.f.ranges.length-1∧Sl z.2.1 z.2.2.1 z.2.2.2.1 (pre++Bz r.f.ranges z.1).length z.2.2.2.2.1∧(pre++Bz r.f.ranges z.1).length*1+z.2.2.2.2.2.length=z.2.2.2.2.1*1) (fun z=>r.f.ranges.length-1-z.1) (0,p33,b33,o33,c33,s33) ⟨C! _,by simpa [Bz]using hs33,by simpa [Bz]using hc33⟩ X7 bZ ?_
 rintro⟨i,p9,b9,o9,c9,s9⟩ ⟨hi,hs9,hc9⟩;dsimp only at hi hs9 hc9⊢;have hel:=Ow r.f.ranges i
 have hyl:(pre++Bz r.f.ranges i).length<900000000000:=by simp;omega
 generalize hys:pre++Bz r.f.ranges i=ys at*;refine J6 ?_;refine mC (fun hlt=>?_) (fun hlt=>?_)
 ·have hk:=hok.2 (i+1) Ca;have hk0:=hok.2 i Ca;unfold FZ at hk hk0;simp only [E!]at hk;refine J7 ?_;refine JL Vv ?_;refine JL Wg ?_;refine Kl ?_;rintro _ _ ⟨b7,rfl,rfl⟩;refine J1 ?_;refine GA ?_;refine J2 ?_;refine Ao (H':=AB b9 o9 ys s9*(HP.AA b7 0 [uN (rg r.f.ranges (i+1)).lo,uN (rg r.f.ranges (i+1)).hi]*(HP.AA fb 0 (AJ r)*R))) (HP.CF _ _ _) ?_;have v1:=CO ((rg r.f.ranges i).lo-(rg r.f.ranges (i+1)).hi-2);refine U9 ?_;refine EK ?_;refine YI ?_;refine Qg ?_
  refine An 13 Cb rfl rfl (BJ rfl (HC ((rg r.f.ranges i).lo-(rg r.f.ranges (i+1)).hi-2) Ca p9 b9 o9 c9 (ys) s9 _ hs9 hc9 Co)) ?_;rintro _ _ ⟨p58,b58,o58,c58,s58,rfl,hs58,hc58,rfl⟩;refine BA ?_;refine An 19 Cb rfl rfl (BJ rfl (HC ((rg r.f.ranges (i+1)).hi-(rg r.f.ranges (i+1)).lo) Ca p58 b58 o58 c58 (ys++AU ((rg r.f.ranges i).lo-(rg r.f.ranges (i+1)).hi-2)) s58 _ hs58 hc58 Ck)) ?_;rintro _ _ ⟨p64,b64,o64,c64,s64,rfl,hs64,hc64,rfl⟩;rw [←hys,YG]at hs64 hc64⊢;refine BA ?_;refine Ja 20 ?_;refine IR ?_;refine Es ?_;exact Bf (AB b64 o64 (pre++Bz r.f.ranges (i+1)) s64*(HP.AA fb 0 (AJ r)*R)) (BW (i+1,p64,b64,o64,c64,s64) ⟨Ca,hs64,hc64⟩ aK Gh rfl)
 have hie:i=r.f.ranges.length-1:=by omega
 refine DH ?_;subst hie;rw [←hys]at hs9 hc9⊢;exact mR [4] (AB b9 o9 (pre++Bz r.f.ranges (r.f.ranges.length-1)) s9*(HP.AA fb 0 (AJ r)*R)) rfl rfl (by rw [←hpre]at hs9 hc9⊢;exact⟨p9,b9,o9,c9,s9,rfl,hs9,hc9,rfl⟩)
theorem jV(r:RF)(fb:Nat)(R:HP)(hrok:r.ok)(hrd:Ab B R r.b r.o r.f.ranges)(hrl:r.f.ranges.length<10000000000):
  Fn Tryz.prog B 192 [ptr fb 0] (HP.AA fb 0 (AJ r)*R) (fun v H'=>v=.bool (decide (GH r.f.ranges))∧H'=HP.AA fb 0 (AJ r)*R):=by
 refine mI Tryz.func192 ?_;refine Bq ?_;refine Dm ?_;refine Jb ?_;refine Bk (fun i:Nat=>[(0,ptr fb 0),(8,.slice r.p r.f.ranges.length r.c),(9,iN r.f.ranges.length),(10,iN i)]) (fun _=>(HP.AA fb 0 (AJ r)*R)) (fun i=>i≤r.f.ranges.length∧∀j,j<i→FZ r.f.ranges j) (fun i=>r.f.ranges.length-i) 0 ⟨C! _,fun j hj=>by omega⟩ CY rfl ?_;rintro i ⟨hi,hall⟩;dsimp only at hi hall⊢;refine J6 ?_;refine mC (fun hlt=>?_) (fun hlt=>?_)
 ·refine J7 ?_;refine JL (DG (b:=r.b) (o:=r.o) rfl rfl hrok hlt) ?_;refine JL (NS (i:=i) (xs:=r.f.ranges) rfl inferInstance hlt) ?_;refine Kl ?_;rintro _ _ ⟨b4,rfl,rfl⟩;refine J1 ?_;refine GA ?_;refine J3 ?_;refine mA 41 41 ?_;refine IV ?_;refine Jf 2 ?_;refine KK ?_;refine JT 4 rfl Hc ?_;refine Jm 5 ?_;refine GK 20 rfl (fun hg1=>?_) (fun hg1=>?_)
  ·refine JN 6 rfl T1 ?_;refine JN 7 rfl T1 ?_;refine JN 8 rfl T1 ?_;refine JT 9 rfl Fd ?_;refine XU ?_;refine EM 13 rfl Cb rfl rfl rfl rfl ?_;refine JU 14 ?_;refine RM ?_;refine JU 24 ?_;refine SL ?_;refine JU 38 ?_;refine EM 39 rfl Cb rfl rfl rfl rfl ?_;refine JT 40 rfl G2 ?_;refine Ei ?_;refine GJ ?_;refine Bq ?_
   first|exact mR [2] (HP.AA fb 0 (AJ r)*R) rfl rfl NP|exact mR [2] (HP.AA fb 0 (AJ r)*R) rfl rfl Ma
  refine JY 6 rfl F1 BL ?_;refine JY 7 rfl F1 ES ?_;refine JY 8 rfl F1 O2 ?_;refine JT 9 rfl Ec ?_;refine Jm 10 ?_;refine GK 25 rfl (fun hg2=>?_) (fun hg2=>?_)
  ·refine JN 11 rfl T2 ?_;refine JN 12 rfl T2 ?_;refine JN 13 rfl T2 ?_;refine JU 14 ?_;refine RM ?_;refine JU 24 ?_;refine SL ?_;refine JU 38 ?_;refine JN 39 rfl T2 ?_;refine JT 40 rfl Ht ?_;refine Ei ?_;refine GJ ?_;refine Bq ?_
   first|exact mR [2] (HP.AA fb 0 (AJ r)*R) rfl rfl NP|exact mR [2] (HP.AA fb 0 (AJ r)*R) rfl rfl Ma
  refine JY 11 rfl F2 BZ ?_;refine JY 12 rfl F2 RG ?_;refine JY 13 rfl F2 BZ ?_;refine GK 28 rfl (fun hg3=>?_) (fun hg3=>?_)
  ·refine JY 14 rfl T3 BZ ?_;refine JY 15 rfl T3 CJ ?_;refine JY 16 rfl T3 BL ?_;refine JY 17 rfl T3 ES ?_;refine JY 18 rfl T3 BZ ?_;refine JY 19 rfl T3 Nn ?_;refine JY 20 rfl T3 Qk ?_;refine JY 21 rfl T3 BL ?_;refine JY 22 rfl T3 Uo ?_;refine JY 23 rfl T3 Tg ?_;refine JY 24 rfl T3 BZ ?_;refine GK 39 rfl (fun hg4=>?_) (fun hg4=>?_)
   ·refine JN 25 rfl T4 ?_;refine JN 26 rfl T4 ?_;refine JN 27 rfl T4 ?_;refine JN 28 rfl T4 ?_;refine JN 29 rfl T4 ?_;refine JN 30 rfl T4 ?_;refine JN 31 rfl T4 ?_;refine JN 32 rfl T4 ?_;refine JN 33 rfl T4 ?_;refine JN 34 rfl T4 ?_;refine JN 35 rfl T4 ?_;refine JN 36 rfl T4 ?_;refine JN 37 rfl T4 ?_;refine JY 38 rfl T3 SC ?_;refine JY 39 rfl F2 RC ?_;refine JT 40 rfl HK ?_;refine Ei ?_;refine GJ ?_;refine Bq ?_
    first|exact mR [2] (HP.AA fb 0 (AJ r)*R) rfl rfl NP|exact mR [2] (HP.AA fb 0 (AJ r)*R) rfl rfl Ma
   refine JY 25 rfl F4 BL ?_;refine JY 26 rfl F4 ES ?_;refine JY 27 rfl F4 BZ ?_;refine JY 28 rfl F4 CJ ?_;refine JY 29 rfl F4 BL ?_;refine JY 30 rfl F4 ES ?_;refine JY 31 rfl F4 BZ ?_;refine JY 32 rfl F4 Nn ?_;refine JY 33 rfl F4 Qk ?_;refine JY 34 rfl F4 BL ?_;refine JY 35 rfl F4 Uo ?_;refine JY 36 rfl F4 (KI (j:=2) rfl rfl (by have hp:=hall (i-1) Ca;unfold FZ at hp;omega)) ?_;refine JY 37 rfl F4 Hc ?_;refine JY 38 rfl T3 SR ?_;refine JY 39 rfl F2 RC ?_;refine JT 40 rfl HK ?_;refine Ei ?_;refine mC (fun hbad=>?_) (fun hbad=>?_)
   ·refine Bq ?_
    first|exact mR [2] (HP.AA fb 0 (AJ r)*R) rfl rfl NP|exact mR [2] (HP.AA fb 0 (AJ r)*R) rfl rfl Ma
   refine HZ ?_;refine Bf (HP.AA fb 0 (AJ r)*R) (BW (i+1) ⟨hlt,fun j hj=>?_⟩ Ca CY rfl);rcases A_.1 hj with h|rfl
   ·exact hall j h
   ·unfold FZ;omega
  refine JN 14 rfl F3 ?_;refine JN 15 rfl F3 ?_;refine JN 16 rfl F3 ?_;refine JN 17 rfl F3 ?_;refine JN 18 rfl F3 ?_;refine JN 19 rfl F3 ?_;refine JN 20 rfl F3 ?_;refine JN 21 rfl F3 ?_;refine JN 22 rfl F3 ?_;refine JN 23 rfl F3 ?_;refine JN 24 rfl F3 ?_;refine SL ?_;refine JN 38 rfl F3 ?_;refine JY 39 rfl F2 (GW F3 rfl rfl) ?_;refine JT 40 rfl HK ?_;refine Ei ?_;refine IP ?_;refine HZ ?_;refine Bf (HP.AA fb 0 (AJ r)*R) (BW (i+1) ⟨hlt,fun j hj=>?_⟩ Ca CY rfl);rcases A_.1 hj with h|rfl
  ·exact hall j h
  ·unfold FZ;omega
 have hie:i=r.f.ranges.length:=by omega
 have hdone:∀j,j<r.f.ranges.length→FZ r.f.ranges j:=hie▸hall;refine B8 ?_;refine Ks ?_;refine JL RG ?_;refine J4 ?_
 first|exact mR [2] (HP.AA fb 0 (AJ r)*R) rfl rfl NP|exact mR [2] (HP.AA fb 0 (AJ r)*R) rfl rfl Ma
end
section
variable{B:World}
abbrev FR(f:FuncId)(us:List Value):Value:=.func (.func f) #[] us.toArray
structure G1(r:RF):Prop where
 ok:r.ok
 len:r.f.ranges.length<10000000000
 size:r.f.data.size<100000000000
structure Kj(B:World)(k:Int)(f1:FuncId)(us1:List Value)(f3:FuncId)(us3:List Value)(C:HP):Prop where
 WR:Ad Tryz.prog f1
 call3:Ad Tryz.prog f3
 write:∀(r:RF) (fb:Nat) (p:Option Addr) (b o c:Nat) (xs:List UInt8) (s:List Value) (R:HP),G1 r→r.f.kind=k→B0 r.f→Ab B R r.b r.o r.f.ranges→Sl p b o xs.length c→xs.length*1+s.length=c*1→xs.length<100000000000→
  Fn Tryz.prog B f1 ([.slice p xs.length c,ptr fb 0]++us1) (AB b o xs s*(HP.AA fb 0 (AJ r)*(C*R))) (fun v H'=>B1 (HP.AA fb 0 (AJ r)*(C*R)) (xs++Ai r.f) v H')
 sound:∀(r:RF) (fb:Nat) (R:HP),G1 r→r.f.kind=k→r.f.offset≤4611686018427387903→Ab B R r.b r.o r.f.ranges→
  Fn Tryz.prog B f3 ([ptr fb 0]++us3) (HP.AA fb 0 (AJ r)*(C*R)) (fun v H'=>v=.bool (decide (HL r.f))∧H'=HP.AA fb 0 (AJ r)*(C*R))
theorem sX{f:AT}(h3:f.kind≠3)(h5:f.kind≠5):HL f:=⟨fun h=>absurd h h3,fun h=>absurd h h5⟩
theorem Qi(k:Int)(h3:k≠3)(h5:k≠5)(C:HP)(r:RF)(fb:Nat)(R:HP)(hk:r.f.kind=k):
  Fn Tryz.prog B 198 ([ptr fb 0]++[]) (HP.AA fb 0 (AJ r)*(C*R)) (fun v H'=>v=.bool (decide (HL r.f))∧H'=HP.AA fb 0 (AJ r)*(C*R)):=by
 refine(mY fb _).mono ?_;rintro v H' ⟨rfl,rfl⟩;exact⟨congrArg A! (decide_eq_true (sX (hk▸h3) (hk▸h5))).symm,rfl⟩
theorem bS(k:Int)(t:UInt8)(bt:Nat)(hk:(k=1∧t=0)∨(k=2∧t=1)):Kj B k 217 [ptr bt 0] 198 [] (HP.AA bt 0 [u8 t]):=by
 refine⟨inferInstance,inferInstance,?_,?_⟩
 ·intro r fb p b o c xs s R hm hrk hok hr hs hc hx
  have e:Ai r.f=[t]:=by
   rcases hk with⟨rfl,rfl⟩|⟨rfl,rfl⟩<;>simp [Ai,hrk]
  rw [e];have h:=yA t bt r fb p b o c xs s R hs hc hx (B:=B);exact h
 ·intro r fb R hm hrk _ _;exact Qi k Xb Xb _ r fb R hrk
theorem lS(bt bq:Nat):Kj B 6 219 [ptr bt 0,ptr bq 0] 198 [] (HP.AA bt 0 [u8 28]*HP.AA bq 0 [FR 205 []]):=by
 refine⟨inferInstance,inferInstance,?_,?_⟩
 ·intro r fb p b o c xs s R hm hrk hok hr hs hc hx
  have e:Ai r.f=[28]++AU r.f.code:=by simp [Ai,hrk]
  rw [e,←List.append_assoc,HP.assoc];exact qA bt bq r fb p b o c xs s R hs hc hx hok.2.1
 ·intro r fb R hm hrk _ _;exact Qi 6 Cc Cc _ r fb R hrk
theorem mJ:Kj B 3 190 [] 192 [] HP.BC:=by
 refine⟨inferInstance,inferInstance,?_,?_⟩
 ·intro r fb p b o c xs s R hm hrk hok hr hs hc hx
  have e:xs++Ai r.f=xs++[2]++AU (rg r.f.ranges 0).hi++AU (r.f.ranges.length-1)++AU ((rg r.f.ranges 0).hi-(rg r.f.ranges 0).lo)++Bz r.f.ranges (r.f.ranges.length-1):=by
   simp [Ai,hrk,KD]
  rw [e,HP.BH];exact sQ r fb p b o c xs s R hs hc hx hm.ok hr (hok.2.2.2.2.1.1 hrk) hm.len
 ·intro r fb R hm hrk _ hr;rw [HP.BH];refine(jV r fb R hm.ok hr hm.len).mono ?_;rintro v H' ⟨rfl,rfl⟩;exact⟨congrArg A! (decide_eq_decide.2 ⟨fun h=>⟨fun _=>h,fun h5=>by rw [hrk]at h5;cases h5⟩,fun h=>h.1 hrk⟩),rfl⟩
theorem wS:Kj B 4 193 [] 198 [] HP.BC:=by
 refine⟨inferInstance,inferInstance,?_,?_⟩
 ·intro r fb p b o c xs s R hm hrk hok hr hs hc hx;obtain⟨h1,h2,h3,h4,h5,h6⟩:=hok
  have e:xs++Ai r.f=xs++[4]++AU r.f.stream.toNat++AU r.f.code++AU r.f.offset:=by simp [Ai,hrk]
  rw [e,HP.BH];exact sI r fb p b o c xs s R hs hc hx r.f.stream.toNat Ca Ca h2 h1
 ·intro r fb R hm hrk _ _;rw [HP.BH]
  have:=Qi (B:=B) 4 Cc Cc HP.BC r fb R hrk
  rwa [HP.BH]at this
theorem tQ:Kj B 5 199 [] 203 [] HP.BC:=by
 refine⟨inferInstance,inferInstance,?_,?_⟩
 ·intro r fb p b o c xs s R hm hrk hok hr hs hc hx;obtain⟨h1,h2,h3,h4,h5,h6⟩:=hok
  have e:xs++Ai r.f=xs++[bif r.f.fin then 9 else 8]++AU r.f.stream.toNat++AU r.f.offset++AU r.f.data.size++r.f.data.data.toList:=by simp [Ai,hrk]
  rw [e,HP.BH];exact kD r fb p b o c xs s R hs hc hx r.f.stream.toNat Ca Ca h1 Qt
 ·intro r fb R hm hrk hof _;rw [HP.BH];refine(oI r fb R hof Qt).mono ?_;rintro v H' ⟨rfl,rfl⟩;exact⟨congrArg A! (decide_eq_decide.2 ⟨fun h=>⟨fun h3=>(by rw [hrk]at h3;cases h3),fun _=>h⟩,fun h=>h.2 hrk⟩),rfl⟩
theorem bX(t:UInt8)(H:HP):Fn Tryz.prog B 189 [u8 t] H (fun v H'=>∃bt,v=.agg [FR 217 [ptr bt 0],FR 218 [],FR 198 []].toArray∧H'=HP.AA bt 0 [u8 t]*H):=by
 refine mI Tryz.func189 ?_;refine J2 ?_;refine Af (DP (l:=[u8 t]) rfl rfl) rfl ?_;rintro _ _ ⟨b1,rfl,rfl⟩;refine K1 ?_;rintro _ _ ⟨b2,rfl,rfl⟩;refine J4 ?_;refine JL F0 ?_;refine JL FV ?_;refine GA ?_;refine J3 ?_;exact L8 (HP.AA b1 0 [u8 t]*H) rfl (H4 (MM rfl rfl) JA) ⟨b1,rfl,rfl⟩
theorem xS(H:HP):Fn Tryz.prog B 204 [u8 28,FR 205 []] H (fun v H'=>∃bt bq,v=.agg [FR 219 [ptr bt 0,ptr bq 0],FR 220 [ptr bq 0],FR 198 []].toArray∧H'=HP.AA bt 0 [u8 28]*(HP.AA bq 0 [FR 205 []]*H)):=by
 refine mI Tryz.func204 ?_;refine J2 ?_;refine Af (DP (l:=[u8 28]) rfl rfl) rfl ?_;rintro _ _ ⟨b2,rfl,rfl⟩;refine Af (DP (l:=[FR 205 []]) rfl rfl) rfl ?_;rintro _ _ ⟨b3,rfl,rfl⟩;refine K1 ?_;rintro _ _ ⟨b4,rfl,rfl⟩;refine J4 ?_;refine JL F0 ?_;refine JL F0 ?_;refine JL FV ?_;refine GA ?_;refine J3 ?_;exact L8 (HP.AA b3 0 [FR 205 []]*(HP.AA b2 0 [u8 28]*H)) rfl (H4 (MM rfl rfl) JA) ⟨b2,b3,rfl,HP.CF _ _ _⟩
inductive El:Int→FuncId→List Value→FuncId→List Value→FuncId→List Value→HP→Prop
 |pad (bt:Nat):El 1 217 [ptr bt 0] 218 [] 198 [] (HP.AA bt 0 [u8 0])
 |ping (bt:Nat):El 2 217 [ptr bt 0] 218 [] 198 [] (HP.AA bt 0 [u8 1])
 |HJ:El 3 190 [] 191 [] 192 [] HP.BC
 |reset:El 4 193 [] 195 [] 198 [] HP.BC
 |data:El 5 199 [] 201 [] 203 [] HP.BC
 |bye (bt bq:Nat):El 6 219 [ptr bt 0,ptr bq 0] 220 [ptr bq 0] 198 [] (HP.AA bt 0 [u8 28]*HP.AA bq 0 [FR 205 []])
theorem El.So{k:Int}{f1 f2 f3:FuncId}{us1 us2 us3:List Value}{C:HP}(h:El k f1 us1 f2 us2 f3 us3 C):Kj B k f1 us1 f3 us3 C:=by
 cases h
 ·exact bS 1 0 _ (.inl Ba)
 ·exact bS 2 1 _ (.inr Ba)
 ·exact mJ
 ·exact wS
 ·exact tQ
 ·exact lS _ _
theorem El.kind{k:Int}{f1 f2 f3:FuncId}{us1 us2 us3:List Value}{C:HP}(h:El k f1 us1 f2 us2 f3 us3 C):DU k:=by cases h<;>(unfold DU;decide)
abbrev CK(bc:Nat)(f1 f2 f3:FuncId)(us1 us2 us3:List Value):HP:=HP.AA bc 0 [FR f1 us1,FR f2 us2,FR f3 us3]
theorem B3{P:Program}{n:Nat}{E:Ay}{H:HP}{r:Option Nat}{fn:Func}{k:Int}{bc:Nat}{f1 f2 f3:FuncId}{us1 us2 us3:List Value}{C H0:HP}(hr:fn.results=([2].map ResultVar.tmp).toArray)(hv:DB E ([2].map Operand.tmp)=some [ptr bc 0])
  (h:El k f1 us1 f2 us2 f3 us3 C)(e:H=CK bc f1 f2 f3 us1 us2 us3*(C*H0)):A7 B (HV P B fn (fun v H'=>(¬DU k∧v=.pointer none∧H'=H0)∨(∃bc f1 us1 f2 us2 f3 us3 C,El k f1 us1 f2 us2 f3 us3 C∧v=ptr bc 0∧H'=CK bc f1 f2 f3 us1 us2 us3*(C*H0)))) .ret n E ⟨[],r⟩ H:=
 ZA hr hv (.inr ⟨bc,f1,us1,f2,us2,f3,us3,C,h,rfl,e⟩)
theorem Ul(k:Int)(H:HP):Fn Tryz.prog B 168 [.int .i64 k] H (fun v H'=>(¬DU k∧v=.pointer none∧H'=H)∨(∃bc f1 us1 f2 us2 f3 us3 C,El k f1 us1 f2 us2 f3 us3 C∧v=ptr bc 0∧H'=CK bc f1 f2 f3 us1 us2 us3*(C*H))):=by
 refine mI Tryz.func168 ?_;refine J7 ?_;refine Af (FD (l:=[.nilFunc,.nilFunc,.nilFunc]) rfl) rfl ?_;rintro _ _ ⟨b3,rfl,rfl⟩;refine Bq ?_;refine JL (CT (i:=k) (j:=1) rfl rfl) ?_;refine J3 ?_;refine mC (fun hc=>?_) (fun hnt5=>?_)
 ·refine J1 ?_;refine mE rfl (bX 0 _) ?_;rintro _ _ ⟨bt,rfl,rfl⟩;refine GA ?_;refine J9 ?_
  first
  |exact mR [2] H rfl rfl Kz
  |(subst hc;first|exact B3 (bc:=b3) rfl rfl (.pad bt) Cl|exact B3 (bc:=b3) rfl rfl (.ping bt) Cl|exact B3 rfl rfl .HJ Cj|exact B3 rfl rfl .reset Cj|exact B3 rfl rfl .data Cj|exact B3 (bc:=b3) rfl rfl (.bye bt bq) Cl)
 refine J2 ?_;refine JL (CT (i:=k) (j:=2) rfl rfl) ?_;refine J3 ?_;refine mC (fun hc=>?_) (fun hnt8=>?_)
 ·refine J1 ?_;refine mE rfl (bX 1 _) ?_;rintro _ _ ⟨bt,rfl,rfl⟩;refine GA ?_;refine J9 ?_
  first
  |exact mR [2] H rfl rfl Kz
  |(subst hc;first|exact B3 (bc:=b3) rfl rfl (.pad bt) Cl|exact B3 (bc:=b3) rfl rfl (.ping bt) Cl|exact B3 rfl rfl .HJ Cj|exact B3 rfl rfl .reset Cj|exact B3 rfl rfl .data Cj|exact B3 (bc:=b3) rfl rfl (.bye bt bq) Cl)
 refine J2 ?_;refine JL (CT (i:=k) (j:=3) rfl rfl) ?_;refine J3 ?_;refine mC (fun hc=>?_) (fun hnt11=>?_)
 ·refine UJ ?_
  first
  |exact mR [2] H rfl rfl Kz
  |(subst hc;first|exact B3 (bc:=b3) rfl rfl (.pad bt) Cl|exact B3 (bc:=b3) rfl rfl (.ping bt) Cl|exact B3 rfl rfl .HJ Cj|exact B3 rfl rfl .reset Cj|exact B3 rfl rfl .data Cj|exact B3 (bc:=b3) rfl rfl (.bye bt bq) Cl)
 refine J2 ?_;refine JL (CT (i:=k) (j:=4) rfl rfl) ?_;refine J3 ?_;refine mC (fun hc=>?_) (fun hnt14=>?_)
 ·refine UJ ?_
  first
  |exact mR [2] H rfl rfl Kz
  |(subst hc;first|exact B3 (bc:=b3) rfl rfl (.pad bt) Cl|exact B3 (bc:=b3) rfl rfl (.ping bt) Cl|exact B3 rfl rfl .HJ Cj|exact B3 rfl rfl .reset Cj|exact B3 rfl rfl .data Cj|exact B3 (bc:=b3) rfl rfl (.bye bt bq) Cl)
 refine J2 ?_;refine JL (CT (i:=k) (j:=5) rfl rfl) ?_;refine J3 ?_;refine mC (fun hc=>?_) (fun hnt17=>?_)
 ·refine UJ ?_
  first
  |exact mR [2] H rfl rfl Kz
  |(subst hc;first|exact B3 (bc:=b3) rfl rfl (.pad bt) Cl|exact B3 (bc:=b3) rfl rfl (.ping bt) Cl|exact B3 rfl rfl .HJ Cj|exact B3 rfl rfl .reset Cj|exact B3 rfl rfl .data Cj|exact B3 (bc:=b3) rfl rfl (.bye bt bq) Cl)
 refine J2 ?_;refine JL (CT (i:=k) (j:=6) rfl rfl) ?_;refine J3 ?_;refine mC (fun hc=>?_) (fun hnt20=>?_)
 ·refine J1 ?_;refine mE rfl (xS _) ?_;rintro _ _ ⟨bt,bq,rfl,rfl⟩;refine GA ?_;refine J9 ?_
  first
  |exact mR [2] H rfl rfl Kz
  |(subst hc;first|exact B3 (bc:=b3) rfl rfl (.pad bt) Cl|exact B3 (bc:=b3) rfl rfl (.ping bt) Cl|exact B3 rfl rfl .HJ Cj|exact B3 rfl rfl .reset Cj|exact B3 rfl rfl .data Cj|exact B3 (bc:=b3) rfl rfl (.bye bt bq) Cl)
 refine J8 ?_
 first
 |exact mR [2] H rfl rfl Kz
 |(subst hc;first|exact B3 (bc:=b3) rfl rfl (.pad bt) Cl|exact B3 (bc:=b3) rfl rfl (.ping bt) Cl|exact B3 rfl rfl .HJ Cj|exact B3 rfl rfl .reset Cj|exact B3 rfl rfl .data Cj|exact B3 (bc:=b3) rfl rfl (.bye bt bq) Cl)
theorem ZG(r:RF)(fb bc:Nat)(f1 f2 f3:FuncId)(us1 us2 us3:List Value)(C R:HP)(hF:El r.f.kind f1 us1 f2 us2 f3 us3 C)(hw:Kj B r.f.kind f1 us1 f3 us3 C)(hrk:r.f.kind=r.f.kind)(hm:G1 r)(hr:Ab B R r.b r.o r.f.ranges):
  Fn Tryz.prog B 169 [ptr fb 0,ptr bc 0] (HP.AA fb 0 (AJ r)*(C*(CK bc f1 f2 f3 us1 us2 us3*R))) (fun v H'=>v=.bool (decide (B0 r.f))∧H'=HP.AA fb 0 (AJ r)*(C*(CK bc f1 f2 f3 us1 us2 us3*R))):=by
 refine mI Tryz.func169 ?_;refine J7 ?_;refine D5 (HP.AA fb 0 (AJ r)*(C*(CK bc f1 f2 f3 us1 us2 us3*R))) 11 11 EI rfl Cb ?_;refine IC ?_;refine Kq ?_;refine JT 10 rfl UH ?_;refine An 8 Cb rfl rfl Hb ?_;rintro _ _ ⟨b15,rfl,rfl⟩;refine BA ?_;refine JT 9 rfl FF ?_;refine DO ?_;refine Ao (H':=AB b15 0 [ED.mk r.f.offset,ED.mk r.f.code] []*(HP.AA fb 0 (AJ r)*(C*(CK bc f1 f2 f3 us1 us2 us3*R)))) rfl ?_;refine Bk (fun i:Nat=>[(0,ptr fb 0),(1,ptr bc 0),(15,.slice (some ⟨b15,0,none⟩) 2 2),(16,iN 2),(17,iN i)]) (fun _=>AB b15 0 [ED.mk r.f.offset,ED.mk r.f.code] []*(HP.AA fb 0 (AJ r)*(C*(CK bc f1 f2 f3 us1 us2 us3*R)))) (fun i=>i≤2∧(1≤i→r.f.offset≤4611686018427387903)∧(2≤i→r.f.code≤4611686018427387903)) (fun i=>2-i) 0 ⟨Ca,Ca,Ca⟩ Gh rfl ?_;rintro i ⟨hi,ho1,ho2⟩;dsimp only at hi ho1 ho2⊢;refine J2 ?_;refine JL Tg ?_;refine J3 ?_;refine mC (fun hlt=>?_) (fun hlt=>?_)
 ·refine J6 ?_;refine JL (UF rfl rfl hlt) ?_;refine JL (uT (xs:=[ED.mk r.f.offset,ED.mk r.f.code]) rfl inferInstance hlt) ?_;refine J6 ?_;refine JL O2 ?_;refine J2 ?_;refine mC (fun hbig=>?_) (fun hbig=>?_)
  ·refine Bq ?_
   first
   |exact mR [4] (HP.AA fb 0 (AJ r)*(C*(CK bc f1 f2 f3 us1 us2 us3*R))) rfl rfl PL
   |exact mR [4] (HP.AA fb 0 (AJ r)*(C*(CK bc f1 f2 f3 us1 us2 us3*R))) rfl rfl Oz
   |exact mR [4] (HP.AA fb 0 (AJ r)*(C*(CK bc f1 f2 f3 us1 us2 us3*R))) rfl rfl OI
   |exact mR [4] (HP.AA fb 0 (AJ r)*(C*(CK bc f1 f2 f3 us1 us2 us3*R))) rfl rfl ⟨congrArg A! (decide_eq_false (fun h=>by
     have h1:=h.1
     have h2:=h.2.1
     rcases(by omega:i=0∨i=1)with rfl|rfl
     ·simp at hbig;omega
     ·simp at hbig;omega)).symm,rfl⟩
  refine HZ ?_;refine BW (i+1) ⟨Ca,fun h=>?_,fun h=>?_⟩ Ca Gh rfl
  ·rcases(by omega:i=0∨1≤i)with rfl|h1
   ·simpa using hbig
   ·exact ho1 h1
  ·obtain rfl:i=1:=by omega
   simpa using hbig
 have hof:=ho1 Ca;have hcd:=ho2 Ca;refine J6 ?_;refine HI (HP.AA fb 0 (AJ r)*(C*(CK bc f1 f2 f3 us1 us2 us3*R))) ?_;refine J4 ?_;refine Dm ?_;refine JL (ON (i:=r.f.stream) (j:=0) rfl rfl) ?_;refine J1 ?_;refine D8 29 rfl (fun hg1=>?_) (fun hg1=>?_)
 ·refine Sn ?_;refine J1 ?_;refine JG T1 ?_;refine Dm ?_;refine JG T1 ?_;refine JL (K3 (i:=r.f.stream) (j:=4) rfl rfl) ?_;refine JL Fd ?_;refine J1 ?_;refine D8 36 rfl (fun hg2=>?_) (fun hg2=>?_)
  ·refine MD ?_;refine J1 ?_;refine MD ?_;refine Dm ?_;refine MD ?_;refine Af (Hg (hf:=hw.call3) rfl rfl (hw.sound r fb _ hm hrk hof inferInstance)) rfl ?_;refine JR ?_;refine JL Ht ?_;refine J4 ?_
   first
   |exact mR [4] (HP.AA fb 0 (AJ r)*(C*(CK bc f1 f2 f3 us1 us2 us3*R))) rfl rfl PL
   |exact mR [4] (HP.AA fb 0 (AJ r)*(C*(CK bc f1 f2 f3 us1 us2 us3*R))) rfl rfl Oz
   |exact mR [4] (HP.AA fb 0 (AJ r)*(C*(CK bc f1 f2 f3 us1 us2 us3*R))) rfl rfl OI
   |exact mR [4] (HP.AA fb 0 (AJ r)*(C*(CK bc f1 f2 f3 us1 us2 us3*R))) rfl rfl ⟨congrArg A! (decide_eq_false (fun h=>by
     have h1:=h.1
     have h2:=h.2.1
     rcases(by omega:i=0∨i=1)with rfl|rfl
     ·simp at hbig;omega
     ·simp at hbig;omega)).symm,rfl⟩
  refine SU ?_;refine SU ?_;refine JL HK ?_;refine J4 ?_
  first
  |exact mR [4] (HP.AA fb 0 (AJ r)*(C*(CK bc f1 f2 f3 us1 us2 us3*R))) rfl rfl PL
  |exact mR [4] (HP.AA fb 0 (AJ r)*(C*(CK bc f1 f2 f3 us1 us2 us3*R))) rfl rfl Oz
  |exact mR [4] (HP.AA fb 0 (AJ r)*(C*(CK bc f1 f2 f3 us1 us2 us3*R))) rfl rfl OI
  |exact mR [4] (HP.AA fb 0 (AJ r)*(C*(CK bc f1 f2 f3 us1 us2 us3*R))) rfl rfl ⟨congrArg A! (decide_eq_false (fun h=>by
    have h1:=h.1
    have h2:=h.2.1
    rcases(by omega:i=0∨i=1)with rfl|rfl
    ·simp at hbig;omega
    ·simp at hbig;omega)).symm,rfl⟩
 refine S9 ?_;refine JH F1 ?_;refine JH F1 ?_;refine JL Ec ?_;refine J1 ?_;refine KZ ?_;refine KZ ?_;refine JL EP ?_;refine J4 ?_
 first
 |exact mR [4] (HP.AA fb 0 (AJ r)*(C*(CK bc f1 f2 f3 us1 us2 us3*R))) rfl rfl PL
 |exact mR [4] (HP.AA fb 0 (AJ r)*(C*(CK bc f1 f2 f3 us1 us2 us3*R))) rfl rfl Oz
 |exact mR [4] (HP.AA fb 0 (AJ r)*(C*(CK bc f1 f2 f3 us1 us2 us3*R))) rfl rfl OI
 |exact mR [4] (HP.AA fb 0 (AJ r)*(C*(CK bc f1 f2 f3 us1 us2 us3*R))) rfl rfl ⟨congrArg A! (decide_eq_false (fun h=>by
   have h1:=h.1
   have h2:=h.2.1
   rcases(by omega:i=0∨i=1)with rfl|rfl
   ·simp at hbig;omega
   ·simp at hbig;omega)).symm,rfl⟩
end
section
variable{B:World}
theorem R9(k:Int)(hk:DU k)(H:HP):Fn Tryz.prog B 168 [.int .i64 k] H (fun v H'=>∃bc f1 us1 f2 us2 f3 us3 C,El k f1 us1 f2 us2 f3 us3 C∧v=ptr bc 0∧H'=CK bc f1 f2 f3 us1 us2 us3*(C*H)):=
 (Ul k H).mono fun _ _ h=>h.resolve_left fun h=>h.1 hk
theorem rE(k:Int)(hk:¬DU k)(H:HP):Fn Tryz.prog B 168 [.int .i64 k] H (fun v H'=>v=.pointer none∧H'=H):=
 (Ul k H).mono fun _ _ h=>(h.resolve_right fun⟨_,_,_,_,_,_,_,_,h,_⟩=>hk h.kind).2
theorem pN(f:AT):Ai f≠ []:=by
 unfold Ai
 repeat' split
 all_goals first|exact fun h=>by cases h|(unfold KD;simp)|simp
section
variable{P:Program}{n:Nat}{E:Ay}{D:Br}{H:HP}{d:Option Tmp}{T T' ty:TypeId}{pos:String}{af:Array Edge}{g:Option (Nat×Bool)}{x y z:Operand}
theorem qW{p:Option Addr}{k c:Nat}(hx:ev E x=some (.slice p k c))(hy:ev E y=some (.slice none 0 0)):
  Aa Tryz.prog B n ⟨d,.binOp .eql 121 x y 121,ty,pos,af,g⟩ E H (.bool p.isNone):=by
 cases p with
 |none=>exact Jg hx hy (fun w=>by kernel_rfl) (fun w=>by kernel_rfl)
 |some a=>exact Jg hx hy (fun w=>by kernel_rfl) (fun w=>by kernel_rfl)
end
theorem sS(r:RF)(p:Option Addr)(b o c:Nat)(xs:List UInt8)(s:List Value)(R:HP)(hm:G1 r)(hr:Ab B R r.b r.o r.f.ranges)(hs:Sl p b o xs.length c)(hc:xs.length*1+s.length=c*1)(hx:xs.length<100000000000)(hk:¬DU r.f.kind):
  Fn Tryz.prog B 138 [.slice p xs.length c,.agg (AJ r).toArray] (AB b o xs s*R) (fun v H'=>v=.slice none 0 0∧H'=AB b o xs s*R):=by
 refine mI Tryz.func138 ?_;refine Ky ?_;rintro _ _ ⟨b3,rfl,rfl⟩;refine J6 ?_;refine Dm ?_;refine mE rfl (rE r.f.kind hk _) ?_;refine JR ?_;refine J7 ?_;refine JL NR ?_;refine J1 ?_;refine DA 11 rfl (fun hg1=>?_) (fun hg1=>?_)
 ·refine Ha ?_;refine Jt ?_;refine GJ ?_;refine J7 ?_;exact mR [4] (AB b o xs s*R) rfl rfl Ba
 cases hg1
theorem yB(r:RF)(p:Option Addr)(b o c:Nat)(xs:List UInt8)(s:List Value)(R:HP)(hm:G1 r)(hr:Ab B R r.b r.o r.f.ranges)(hs:Sl p b o xs.length c)(hc:xs.length*1+s.length=c*1)(hx:xs.length<100000000000)(hk:DU r.f.kind):
  Fn Tryz.prog B 138 [.slice p xs.length c,.agg (AJ r).toArray] (AB b o xs s*R) (fun v H'=>(B0 r.f∧B1 R (xs++Ai r.f) v H')∨(¬B0 r.f∧v=.slice none 0 0∧H'=AB b o xs s*R)):=by
 refine mI Tryz.func138 ?_;refine Ky ?_;rintro _ _ ⟨b3,rfl,rfl⟩;refine J6 ?_;refine Dm ?_;refine mE rfl (R9 r.f.kind hk _) ?_;rintro _ _ ⟨bc,f1,us1,f2,us2,f3,us3,C,hF,rfl,rfl⟩;have hw:=hF.So (B:=B);have hq1:=hw.WR;refine J7 ?_;refine I7 ?_;refine J1 ?_;refine DA 11 rfl (fun hg1=>?_) (fun hg1=>?_)
 ·cases hg1
 refine cG ?_;refine mC (fun hcc=>?_) (fun hcc=>?_)
 ·refine J7 ?_
  first
  |exact mR [4] (AB b o xs s*R) rfl rfl (.inr ⟨hcc,rfl,rfl⟩)
  |exact mR [4] (AB b21 o21 (xs++Ai r.f) s21*R) rfl rfl UU
 have hok:B0 r.f:=Classical.not_not.1 hcc;refine J7 ?_;refine Ks ?_;refine Ui ?_;refine Af (Hg rfl rfl (hw.write r b3 p b o c xs s _ hm rfl hok inferInstance hs hc hx)) rfl ?_;rintro _ _ ⟨p21,b21,o21,c21,s21,rfl,hs21,hc21,rfl⟩;refine J4 ?_
 first
 |exact mR [4] (AB b o xs s*R) rfl rfl (.inr ⟨hcc,rfl,rfl⟩)
 |exact mR [4] (AB b21 o21 (xs++Ai r.f) s21*R) rfl rfl UU
theorem eX(r:RF)(p:Option Addr)(b o c:Nat)(xs:List UInt8)(s:List Value)(R:HP)(hm:G1 r)(hr:Ab B R r.b r.o r.f.ranges)(hs:Sl p b o xs.length c)(hc:xs.length*1+s.length=c*1)(hx:xs.length<100000000000):
  Fn Tryz.prog B 138 [.slice p xs.length c,.agg (AJ r).toArray] (AB b o xs s*R) (fun v H'=>(B0 r.f∧B1 R (xs++Ai r.f) v H')∨(¬B0 r.f∧v=.slice none 0 0∧H'=AB b o xs s*R)):=by
 by_cases hk:DU r.f.kind
 ·exact yB r p b o c xs s R hm hr hs hc hx hk
 ·exact(sS r p b o c xs s R hm hr hs hc hx hk).mono fun v H' h=>.inr ⟨fun ho=>hk ho.2.2.2.2.2,h⟩
theorem yL(r:RF)(p:Option Addr)(b o c:Nat)(xs:List UInt8)(s:List Value)(R:HP)(hm:G1 r)(hr:Ab B R r.b r.o r.f.ranges)(hs:Sl p b o xs.length c)(hc:xs.length*1+s.length=c*1)(hx:xs.length<100000000000):
  Fn Tryz.prog B 138 [.slice p xs.length c,.agg (AJ r).toArray] (AB b o xs s*R) (fun v H'=>∃p' b' o' c' s' ys,v=.slice p' ys.length c'∧Sl p' b' o' ys.length c'∧ys.length*1+s'.length=c'*1∧H'=AB b' o' ys s'*R∧
   ((B0 r.f∧ys=xs++Ai r.f∧p'.isNone=false)∨(¬B0 r.f∧p'.isNone=true))):=by
 refine(eX r p b o c xs s R hm hr hs hc hx).drop ?_;rintro v H' (⟨hok,p',b',o',c',s',rfl,h1,h2,rfl⟩|⟨hok,rfl,rfl⟩)
 ·refine⟨_,⟨p',b',o',c',s',_,rfl,h1,h2,rfl,.inl ⟨hok,rfl,?_⟩⟩,fun _ h=>h⟩
  have hne:0<(xs++Ai r.f).length:=by have:=D?.2 (pN r.f);simp only [A?];omega
  rw [h1.1.resolve_left (by have:=h1.2;omega)];rfl
 ·exact⟨R,⟨none,0,0,0,[],[],rfl,F8,rfl,Lh,.inr ⟨hok,rfl⟩⟩,fun _ h=>h.right⟩
theorem pC(fs:List AT)(i:Nat)(h:i<fs.length):Av (fs.take i)++Ai (fs[i])=Av (fs.take (i+1)):=by
 unfold Av;rw [List.take_succ_eq_append_getElem h,E_]
 simp
theorem zI(fs:List AT)(i:Nat):(Av (fs.take i)).length≤(Av fs).length:=by
 have h:Av fs=Av (fs.take i)++Av (fs.drop i):=by unfold Av;rw [←E_,List.take_append_drop]
 rw [h,A?];omega
theorem T7{α:Type}(xs:List α)(i:Nat)(d:α)(h:i<xs.length):xs.getD i d=xs[i]:=by simp [List.getD,h]
theorem fJ(fs:List AT)(p:Option Addr)(c b o:Nat)(rs:List RF)(H:HP)(hfs:Hd B H p c fs b o rs)(hmd:∀r∈rs,G1 r)(hn:fs.length<100000000000)(hel:(Av fs).length<100000000000):
  Fn Tryz.prog B 164 [.slice p fs.length c] H (fun v H'=>match Gt fs with
   |none=>v=.tuple #[.slice none 0 0,.iface 41 (.int .i64 5)]∧H'=H
   |some ys=>∃sv,v=.tuple #[sv,.nilIface]∧B1 H ys sv H'):=by
 refine mI Tryz.func164 ?_;have hrl:=hfs.len;refine Bq ?_;refine I' ?_;refine mC (fun h0=>?_) (fun h0=>?_)
 ·refine J2 ?_;refine JL HM ?_;refine J6 ?_
  exact mR [2,3] H rfl rfl (by
    rw [Gt,if_neg (fun h=>h.1 (C?.1 h0))];exact Ba)
 refine DH ?_;refine Gi ?_
 refine Bk (α:=Nat×Option Addr×Nat×Nat×Nat×List Value) (fun z=>[(4,.slice z.2.1 (Av (fs.take z.1)).length z.2.2.2.2.1),(11,.slice p fs.length c),(12,iN fs.length),(13,iN z.1)]) (fun z=>AB z.2.2.1 z.2.2.2.1 (Av (fs.take z.1)) z.2.2.2.2.2*H) (fun z=>z.1≤fs.length∧(∀j,j<z.1→B0 (rs.getD j AC.AH).f)∧Sl z.2.1 z.2.2.1 z.2.2.2.1 (Av (fs.take z.1)).length z.2.2.2.2.1∧(Av (fs.take z.1)).length*1+z.2.2.2.2.2.length=z.2.2.2.2.1*1) (fun z=>fs.length-z.1) (0,none,0,0,0,[]) ⟨C! _,fun j hj=>absurd hj OC,F8,rfl⟩ CY (by show H=AB 0 0 ([]:List UInt8) []*H;rw [GU,HP.BH]) ?_
 rintro⟨i,q,qb,qo,qc,qs⟩ ⟨hi,hall,hqs,hqc⟩;dsimp only at hi hall hqs hqc⊢;have hql:=zI fs i;refine J6 ?_;refine mC (fun hlt=>?_) (fun hlt=>?_)
 ·skip
  have hmem:rs.getD i AC.AH∈rs:=by rw [T7 _ _ _ Ca];exact E? _
  have hri:(rs.getD i AC.AH).f=fs[i]:=by
   have:=hfs.map;subst this
   rw [T7 _ _ _ Ca,List.getElem_map]
  have hrr:=hfs.UB _ hmem;refine J6 ?_;refine JL (DG (b:=b) (o:=o) rfl rfl hfs.sl hlt) ?_;refine JL (IA (i:=i) (o:=o) (xs:=rs) rfl (let _:=hfs.rd;inferInstance) Ca) ?_;refine Af aA rfl ?_;rintro _ _ ⟨b6,rfl,rfl⟩;refine Bj (Dz (cs:=AJ (rs.getD i AC.AH)) rfl rfl Ch (AC.one (rs.getD i AC.AH))) ?_;refine IE ?_;refine BF (H':=AB qb qo (Av (fs.take i)) qs*(HP.AA b6 0 (AJ (rs.getD i AC.AH))*H)) (HP.CF _ _ _) ?_;refine mE rfl (yL (rs.getD i AC.AH) q qb qo qc (Av (fs.take i)) qs _ (hmd _ hmem) inferInstance hqs hqc Ca) ?_;rintro _ _ ⟨p',b',o',c',s',ys,rfl,hs',hc',rfl,hcase⟩;refine J6 ?_;refine JL (qW rfl rfl) ?_;refine J2 ?_;refine mc (fun hpn=>?_) (fun hpn=>?_)
  ·skip
   have hbad:¬B0 (rs.getD i AC.AH).f:=by
    rcases hcase with h|h
    ·rw [h.2.2]at hpn;cases hpn
    ·exact h.1
   refine J2 ?_;refine JL HM ?_;refine B8 ?_
   exact mR [2,3] H rfl rfl (by
     rw [Gt,if_neg (fun h=>hbad (by rw [hri];exact h.2 _ (E? _)))];exact Ba)
  obtain⟨hok,rfl,_⟩:B0 (rs.getD i AC.AH).f∧ys=Av (fs.take i)++Ai (rs.getD i AC.AH).f∧p'.isNone=false:=by
   rcases hcase with h|h
   ·exact h
   ·rw [h.2]at hpn;cases hpn
  rw [hri,pC fs i hlt]at hs' hc'⊢;refine J4 ?_;refine JL Mj ?_;refine J2 ?_;refine Bf (AB b' o' (Av (fs.take (i+1))) s'*H) (BW (i+1,p',b',o',c',s') ⟨Ca,fun j hj=>?_,hs',hc'⟩ Wr CY rfl);rcases A_.1 hj with h|rfl
  ·exact hall j h
  ·exact hok
 refine Eu ?_
 exact mR [2,3] (AB qb qo (Av (fs.take i)) qs*H) rfl rfl (by
   obtain rfl:i=fs.length:=by omega
   rw [List.take_length]at hqs hqc⊢
   have hgood:fs≠ []∧∀f∈fs,B0 f:=⟨fun h=>h0 Pn,fun f hf=>by
    have hm2:=hfs.map
    subst hm2
    obtain⟨r,hr,rfl⟩:=List.mem_map.1 hf
    obtain⟨j,hj,rfl⟩:=List.getElem_of_mem hr
    have:=hall j Ca
    rwa [T7 _ _ _ hj]at this⟩
   rw [Gt,if_pos hgood]
   exact⟨_,rfl,q,qb,qo,qc,qs,rfl,hqs,hqc,rfl⟩)
end
section
variable{B:World}
abbrev B7(rb:Nat)(p:Option Addr)(c:Nat)(xs:List UInt8)(a:Nat):HP:=HP.AA rb 0 [.slice p xs.length c,iN a]
abbrev GQ:List PanicEntry:=pn (.iface 320 (.agg #[]))
theorem OV{p:Option Addr}{b o k c a n:Nat}(hs:Sl p b o k c)(h:a+n≤k):Sl (sp p c a 1) b (o+a*1) n (c-a):=by
 have:=Kr (sz:=1) hs (l:=a) (h:=a+n) Ca Ci
 rwa [Nat.add_sub_cancel_left]at this
theorem YP(x:Nat):x&&&63=x%64:=Nat.and_two_pow_sub_one_eq_mod x 6
theorem rS(n x:Nat)(hn:n<72057594037927936)(hx:x<256):(n*2^8%18446744073709551616)|||x=n*256+x:=by
 have h:n*2^8%18446744073709551616=2^8*n:=by omega
 rw [h,←Nat.two_pow_add_eq_or_of_lt (by omega:x<2^8)];omega
theorem eT(xs:List UInt8)(a:Nat):1*2^((xs.getD a 0).toNat/2^6)%18446744073709551616=CV xs a:=by
 have h:=Se xs a
 have e:1*2^((xs.getD a 0).toNat/2^6)=CV xs a:=by rw [Nat.one_mul];rfl
 rw [e];omega
section
variable{P:Program}{n:Nat}{E:Ay}{D:Br}{H:HP}{d:Option Tmp}{T T' ty:TypeId}{pos:String}{af:Array Edge}{g:Option (Nat×Bool)}{x y z:Operand}
theorem TJ{b o i:Nat}{xs:List UInt8}[hT:B9 P T](hx:ev E x=some (.pointer (some ⟨b,o+i*1,none⟩)))(hr:Ab B H b o xs)(hi:i<xs.length):
  Aa P B n ⟨d,.load T x,ty,pos,af,g⟩ E H (u8 (xs.getD i 0)):=Ep (f:=0) hx hr rfl hi
end
theorem VR(rb:Nat)(H:HP):E4 Tryz.prog B 176 [ptr rb 0] H (fun _ _=>False) (fun c H'=>c=GQ∧H'=H):=by
 refine HT Tryz.func176 rfl rfl rfl ?_;refine J1 ?_;refine JL (Ex (cs:=[]) rfl rfl rfl Cg) ?_;refine JL HM ?_;refine uU (nW (Post:=fun _ _=>False) rfl) ?_ ?_;rotate_left
 ·refine JR ?_;exact LW Ba
 exact Ix
theorem Pd(n:Nat)(hn:n<9223372036854775808)(rb:Nat)(p:Option Addr)(b o c:Nat)(xs:List UInt8)(a:Nat)(R:HP)(hs:Sl p b o xs.length c)(hr:Ab B R b o xs)(hx:xs.length<100000000000)(ha:a≤xs.length):
  E4 Tryz.prog B 177 [ptr rb 0,uN n] (B7 rb p c xs a*R) (fun v H'=>n≤xs.length-a∧v=.slice (sp p c a 1) n (c-a)∧H'=B7 rb p c xs (a+n)*R) (fun ch H'=>xs.length-a<n∧ch=GQ∧H'=R):=by
 refine HT Tryz.func177 rfl rfl rfl ?_;refine J7 ?_;refine mA 13 13 ?_;refine LY ?_;refine JT 5 rfl FF ?_;refine Jm 6 ?_;refine Jn 7 ?_;refine Jf 8 ?_;refine Jd 9 ?_;refine JT 10 rfl LU ?_;refine JT 11 rfl FC ?_;refine JT 12 rfl Hc ?_;refine Ei ?_;refine mC (fun hbad=>?_) (fun hok=>?_)
 ·refine J2 ?_;refine DZ MZ rfl ?_ ?_;rotate_left
  ·refine JR ?_;refine Ez ?_;exact Fc R ⟨Ca,rfl,rfl⟩
  exact Ix
 refine J7 ?_;refine Ks ?_;refine JL K9 ?_;refine J7 ?_;refine mA 17 17 ?_;refine IC ?_;refine Kq ?_;refine Jm 8 ?_;refine JT 9 rfl K9 ?_;refine JT 10 rfl LU ?_;refine P5 ?_;refine JT 15 rfl (O7 (l:=a+n-n) (h:=a+n) (k':=n) rfl rfl rfl Ci Ca) ?_;refine Ja 16 ?_;refine DO ?_;refine QI (ts:=[4]) rfl rfl ⟨Ca,?_,rfl⟩;rw [E!];rfl
theorem Lf(rb:Nat)(p:Option Addr)(b o c:Nat)(xs:List UInt8)(a:Nat)(R:HP)(hs:Sl p b o xs.length c)(hr:Ab B R b o xs)(hx:xs.length<100000000000)(ha:a≤xs.length):
  E4 Tryz.prog B 197 [ptr rb 0] (B7 rb p c xs a*R) (fun v H'=>∃n a',C6 xs a=some (n,a')∧v=uN n∧H'=B7 rb p c xs a'*R) (fun ch H'=>C6 xs a=none∧ch=GQ∧H'=R):=by
 refine HT Tryz.func197 rfl rfl rfl ?_;have hz:=eT xs a;have hzc:=Se xs a;have hb:=(xs.getD a 0).toNat_lt;refine J2 ?_;refine GR ?_;refine J5 ?_;refine DZ (GN rfl (Pd 1 Ca rb p b o c xs a R hs hr hx ha)) rfl ?_ ?_;rotate_left
 ·rintro _ _ ⟨h1,rfl,rfl⟩;refine Ez ?_;exact LW ⟨UT,rfl,rfl⟩
 rintro _ _ ⟨h1,rfl,rfl⟩;refine JL (Gz (i:=0) (b:=b) (o:=o+a*1) (q:=o+a*1) rfl rfl (OV hs Ca) Ca Ca) ?_;refine JL (TJ (i:=a) (xs:=xs) rfl inferInstance Ca) ?_;refine J6 ?_;refine JL (jI (j:=63) rfl rfl ⟨Ca,Ca⟩) ?_;refine JL (JX rfl (Lm (by rw [YP];omega))) ?_;refine J8 ?_;refine JL (mQ (j:=6) rfl rfl Ca) ?_;refine JL (Pc (i:=1) rfl rfl Ca) ?_;refine JL (KI (j:=1) rfl rfl (by rw [hz];omega)) ?_;refine DZ (GN (vs:=[ptr rb 0,uN (CV xs a-1)]) (by rw [←hz];rfl) (Pd (CV xs a-1) Ca rb p b o c xs (a+1) R hs hr hx Ca)) rfl ?_ ?_;rotate_left
 ·rintro _ _ ⟨h2,rfl,rfl⟩;refine Ez ?_;refine Ez ?_;exact LW ⟨UT,rfl,rfl⟩
 rintro _ _ ⟨h2,rfl,rfl⟩;refine Jb ?_;refine Bk (fun i:Nat=>[(4,uN (Hs xs a i)),(19,.slice (sp p c (a+1) 1) (CV xs a-1) (c-(a+1))),(20,iN (CV xs a-1)),(21,iN i)]) (fun _=>B7 rb p c xs (a+1+(CV xs a-1))*R) (fun i=>i≤CV xs a-1) (fun i=>CV xs a-1-i) 0 FL (.cons (congrArg (fun z=>some (uN z)) (YP _)) EB) rfl ?_;rintro i hi;dsimp only at hi⊢;have hnl:=UM xs a i
 have hnl2:Hs xs a i<72057594037927936∨CV xs a-1≤i:=by
  rcases(by omega:CV xs a-1≤i∨i=0∨i=1∨i=2∨i=3∨i=4∨i=5∨i=6)with h|rfl|rfl|rfl|rfl|rfl|rfl|rfl
  ·exact .inr h
  all_goals (left;simp only [Nat.reducePow,Nat.reduceMul]at hnl;omega)
 have hb2:=Rc xs (a+i+1);refine J6 ?_;refine mC (fun hlt=>?_) (fun hlt=>?_)
 ·refine J6 ?_;refine JL (Gz (b:=b) (o:=o+(a+1)*1) (q:=o+(a+i+1)*1) rfl rfl (OV hs Ca) hlt Ca) ?_;refine JL (TJ (i:=a+i+1) (xs:=xs) rfl inferInstance Ca) ?_;refine J5 ?_;refine JL (Pc (j:=8) rfl rfl Ca) ?_;refine J1 ?_;refine JL (JX rfl (Lm YO)) ?_;refine JL (V3 rfl rfl ⟨Ca,YO⟩) ?_;refine KT ?_;exact BW (i+1) (by show i+1≤_;omega) (by show CV xs a-1-(i+1)<CV xs a-1-i;omega) (.cons (congrArg (fun z=>some (uN z)) (rS _ _ Ca hb2)) EB) rfl
 obtain rfl:i=CV xs a-1:=by omega
 refine DH ?_;refine QI (ts:=[2]) rfl rfl ⟨_,_,by unfold C6;rw [if_pos Ca],rfl,?_⟩;rw [show a+1+(CV xs a-1)=a+CV xs a by omega]
theorem pG(rb:Nat)(p:Option Addr)(b o c:Nat)(xs:List UInt8)(a:Nat)(R:HP)(hs:Sl p b o xs.length c)(hr:Ab B R b o xs)(hx:xs.length<100000000000)(ha:a≤xs.length):
  E4 Tryz.prog B 196 [ptr rb 0] (B7 rb p c xs a*R) (fun v H'=>∃n a',HY xs a=some (n,a')∧v=iN n∧H'=B7 rb p c xs a'*R) (fun ch H'=>HY xs a=none∧ch=GQ∧H'=R):=by
 refine HT Tryz.func196 rfl rfl rfl ?_;refine Gv ?_;refine J5 ?_;refine DZ QY rfl ?_ ?_;rotate_left
 ·rintro _ _ ⟨e5,rfl,rfl⟩;refine Ez ?_;exact LW ⟨by unfold HY;rw [e5],rfl,rfl⟩
 rintro _ _ ⟨n5,a5,e5,rfl,rfl⟩;have g5:=Dt e5;refine J7 ?_;refine JL (TU (j:=4) rfl rfl) ?_;refine J2 ?_;refine mC (fun hbig=>?_) (fun hbig=>?_)
 ·refine J2 ?_;refine DZ MZ rfl ?_ ?_;rotate_left
  ·refine JR ?_;refine Ez ?_;exact Fc R ⟨by unfold HY;rw [e5];exact if_neg Ca,rfl,rfl⟩
  exact Ix
 refine J5 ?_;refine JL K9 ?_;refine J4 ?_;exact QI (ts:=[2]) rfl rfl ⟨n5,a5,by unfold HY;rw [e5];exact if_pos Ca,rfl,rfl⟩
theorem tT(rb:Nat)(p:Option Addr)(b o c:Nat)(xs:List UInt8)(a:Nat)(R:HP)(hs:Sl p b o xs.length c)(hr:Ab B R b o xs)(hx:xs.length<100000000000)(ha:a≤xs.length):
  E4 Tryz.prog B 202 [ptr rb 0] (B7 rb p c xs a*R) (fun v H'=>∃d a',IJ xs a=some (d,a')∧v=.string (AW d)∧H'=B7 rb p c xs a'*R) (fun ch H'=>IJ xs a=none∧ch=GQ∧H'=R):=by
 refine HT Tryz.func202 rfl rfl rfl ?_;refine J9 ?_;refine DZ QY rfl ?_ ?_;rotate_left
 ·rintro _ _ ⟨e5,rfl,rfl⟩;refine Ez ?_;exact LW ⟨by unfold IJ;rw [e5],rfl,rfl⟩
 rintro _ _ ⟨n5,a5,e5,rfl,rfl⟩;have g5:=Dt e5;refine DZ (GN rfl (Pd n5 Ca rb p b o c xs a5 R hs hr hx Ca)) rfl ?_ ?_;rotate_left
 ·rintro _ _ ⟨h6,rfl,rfl⟩;refine Ez ?_;exact LW ⟨by unfold IJ;rw [e5];exact if_neg Ca,rfl,rfl⟩
 rintro _ _ ⟨h6,rfl,rfl⟩
 have hl6:((xs.drop a5).take n5).length=n5:=by simp;omega
 refine JL (Lp (xs:=(xs.drop a5).take n5) (b:=b) (o:=o+a5*1) (by rw [hl6];rfl) (by rw [hl6];exact OV hs Ca) inferInstance) ?_;refine J4 ?_;exact QI (ts:=[2]) rfl rfl ⟨_,_,by unfold IJ;rw [e5];exact if_pos Ca,rfl,rfl⟩
end
section
section
variable{P:Program}{B:World}{n:Nat}{E:Ay}{D:Br}{H R:HP}{d:Option Tmp}{T T' ty:TypeId}{pos:String}{af:Array Edge}{g:Option (Nat×Bool)}{x y z:Operand}
 {ops:Array Oper} {Q:Exit→Act→World→Prop} {rest:List Oper} {op:Op}
theorem zB{ds:List Deferred}{t:Operand}{f:FuncId}{us:List Value}{ats:Array TypeId}(ht:ev E t=some (.func (.func f) #[] us.toArray))
  (next:WL P B ops Q rest n E ⟨{target:=.fn (.func f) us.toArray,args:= #[]}::ds,none⟩ H):WL P B ops Q (⟨none,.defer ⟨.value t,#[],ats⟩,ty,pos,af,none⟩::rest) n E ⟨ds,none⟩ H:=by
 intro a w h1 h2 h3;unfold wpListIn;rw [if_pos QG];refine⟨fun _ _=>trivial,?_⟩
 have hrun:(execOp a.eval ⟨none,.defer ⟨.value t,#[],ats⟩,ty,pos,af,none⟩).run P w=.ok (.defer {target:=.fn (.func f) us.toArray,args:= #[]}) w:=by
  simp [execOp,resolve,h1.ev ht,Deferred.ofValue]
 have hs:(Oper.semAt (fr none).round a.eval (⟨none,.defer ⟨.value t,#[],ats⟩,ty,pos,af,none⟩:Oper)).run P w=.ok (.defer {target:=.fn (.func f) us.toArray,args:= #[]}) w:=by
  rw [show(fr none).round=none from rfl,Oper.semAt_none];exact hrun
 rw [hs];show wpListIn (fr none) 0 P ops Q rest _ w;exact next _ w h1 (by simp [Act.put,h2]) h3
def Ns(P:Program)(B:World)(fn:Func)(Post:Value→HP→Prop):Exit→Act→World→Prop:=
 bodyPostDIn (fr none) 0 P fn fun e w'=>∃v H',e=.returned v∧Post v H'∧Sat B H' w'
theorem vH{c:Code}{f:FuncId}{fn:Func}{args:List Value}{Post:Value→HP→Prop}(hf:P.funcs[f]?=some fn)(hb:fn.body=some c)(hn:fn.ntmps=n)
  (ha:F? args.length n=true)(h:WP P B c (Ns P B fn Post) n (IL 0 args) ⟨[],none⟩ H):Fn P B f args H Post:=by
 intro w hw;refine(callsIn_wide (n:=0)).1 (callsIn_of_wp_defers (F:=fr none) (n:=0) hf hb trivial (h _ w ⟨?_,?_⟩ rfl hw))
 ·have:args.length≤n:=by simpa using ha
  simp [hn];omega
 ·intro t v e;obtain⟨_,h2⟩:=LA args 0 t v e;simp only [F!]at h2;have hlt:t<args.length:=(C_.1 h2).1;simp only [];rw [Array.getElem?_append_left (by simpa using hlt)];simpa using h2
def MG(P:Program)(B:World)(f:FuncId)(args:List Value)(u u':FrameMode)(H:HP)(Post:HP→Prop):Prop:=
 ∀w,Sat B H w→CallsDIn (fr none) 0 P f args.toArray u w fun e u2 w'=>∃v H',e=.returned v∧u2=u'∧Post H'∧Sat B H' w'
theorem V'{fn:Func}{f:FuncId}{us:List Value}{u u':FrameMode}{rs:List ResultVar}{Post:Value→HP→Prop}{PD:HP→Prop}[hok:Ad P f](hu:u≠ .run)
  (hd:MG P B f us u u' H PD)(hset:settle u'=.returning)(hr:fn.results=rs.toArray)(hv:∀H',PD H'→∃vs H'',Iu P B n E H' rs vs∧Post (Ew vs) H''∧Bm B H' H''):
  ∀a w,CP n E a→Sat B H w→LeavesIn (fr none) 0 P fn a.tmps (fun e w'=>∃v H',e=.returned v∧Post v H'∧Sat B H' w') [{target:=.fn (.func f) us.toArray,args:= #[]}] u w:=by
 intro a w h1 h3;refine leavesIn_cons (f:=f) (args:=us.toArray) hu (by simp [fr,Fence.wide]) ?_ (fun _ _=>trivial) ?_
 ·have:=hok.get us.toArray w
  simpa [invoke]using this
 ·refine CallsDIn.mono (F:=fr none) (n:=0) (hd w h3) ?_;rintro e u2 w' ⟨v,H',rfl,rfl,hp,hs⟩;obtain⟨vs,H'',hv1,hv2,hv3⟩:=hv H' hp;show LeavesIn _ _ _ _ _ _ [] (settle u2) w';rw [hset];exact⟨_,bC hr h1 hv1 hs,_,_,rfl,hv2,hv3.get w' hs⟩
theorem sL{fn:Func}{f:FuncId}{us:List Value}{u':FrameMode}{rs:List ResultVar}{Post:Value→HP→Prop}{PD:HP→Prop}[hok:Ad P f]
  (hd:MG P B f us .returning u' H PD)(hset:settle u'=.returning)(hr:fn.results=rs.toArray)(hv:∀H',PD H'→∃vs H'',Iu P B n E H' rs vs∧Post (Ew vs) H''∧Bm B H' H''):
  A7 B (Ns P B fn Post) .ret n E ⟨[{target:=.fn (.func f) us.toArray,args:= #[]}],none⟩ H:=by
 intro a w h1 h2 h3;show LeavesIn _ _ _ _ _ _ _ _ _;rw [h2];exact V' Cg hd hset hr hv a w h1 h3
theorem eV{c:List PanicEntry}{fn:Func}{f:FuncId}{us:List Value}{u':FrameMode}{rs:List ResultVar}{Post:Value→HP→Prop}{PD:HP→Prop}[hok:Ad P f]
  (hd:MG P B f us (.panicking c) u' H PD)(hset:settle u'=.returning)(hr:fn.results=rs.toArray)(hv:∀H',PD H'→∃vs H'',Iu P B n E H' rs vs∧Post (Ew vs) H''∧Bm B H' H''):
  A7 B (Ns P B fn Post) (.panic c) n E ⟨[{target:=.fn (.func f) us.toArray,args:= #[]}],none⟩ H:=by
 intro a w h1 h2 h3;show LeavesIn _ _ _ _ _ _ _ _ _;rw [h2];exact V' Cg hd hset hr hv a w h1 h3
theorem nU{e:Operand→Value}{ats:Array TypeId}(w:World):(execOp e ⟨d,.call ⟨.builtin .recover,#[],ats⟩,ty,pos,af,g⟩).run P w=.ok .recover w:=by
 simp [execOp,resolve,invoke,builtin]
theorem iD{id t t2:Nat}{pos2:String}{af2:Array Edge}{ats:Array TypeId}{QS:Exit→Act→List Frame→World→Prop}{a:Act}{cs cs':List Frame}{w:World}{v:Value}
  (hrec:recoverD cs=some (v,cs')∨(recoverD cs=none∧v=.nilIface∧cs'=cs))(ht:t<a.tmps.size)
  (h:QS .normal ((a.put (some t) v).put (some t2) v) cs' w):
  (Code.region id #[⟨some t,.call ⟨.builtin .recover,#[],ats⟩,ty,pos,af,none⟩,⟨some t2,.assign (.tmp t),T,pos2,af2,none⟩] false).wpSIn (fr none) 0 P QS a cs w:=by
 refine wpSIn_region ?_;show wpOpsSIn (fr none) 0 P _ QS [0,1] a cs w
 have e2:∀(cs:List Frame) (v:Value),(execOp (Act.eval (a.put (some t) v)) ⟨some t2,.assign (.tmp t),T,pos2,af2,none⟩).run P w=.ok (.value v) w:=by
  intro cs v;simp [execOp,Act.eval,Act.put,ht]
 unfold wpOpsSIn;simp only [B!,B_];refine⟨fun _ _=>trivial,?_⟩;rw [if_pos QG,nU];rcases hrec with h0|⟨h0,rfl,rfl⟩
 ·simp only [h0];unfold wpOpsSIn;simp only [B!,D_,B_];refine⟨fun _ _=>trivial,?_⟩;rw [if_pos QG,e2 cs'];exact h
 ·simp only [h0];unfold wpOpsSIn;simp only [B!,D_,B_];refine⟨fun _ _=>trivial,?_⟩;rw [if_pos QG,e2 cs'];exact h
theorem U3{f:FuncId}{fn:Func}{args:List Value}{u u':FrameMode}{id t t2:Nat}{pos2:String}{af2:Array Edge}{ats:Array TypeId}{c2:Code}{v:Value}{Post:HP→Prop}
  (hf:P.funcs[f]?=some fn)(hb:fn.body=some (.seq (.region id #[⟨some t,.call ⟨.builtin .recover,#[],ats⟩,ty,pos,af,none⟩,⟨some t2,.assign (.tmp t),T,pos2,af2,none⟩] false) c2))(hn:fn.ntmps=n)
  (ha:F? args.length n=true)(ht:G_ t n=true)(ht2:G_ t2 n=true)(hres:fn.results= #[])
  (hv:(u=.returning∧u'=.returning∧v=.nilIface)∨(∃older,u=.panicking ({v:=v,recovered:=false,goexit:=false}::older)∧u'=.panicking ({v:=v,recovered:=true}::older)))
  (h:∀Q:Exit→Act→World→Prop,(∀E H',Post H'→A7 B Q .normal n E ⟨[],none⟩ H')→WP P B c2 Q n ((t2,v)::(t,v)::IL 0 args) ⟨[],none⟩ H):MG P B f args u u' H Post:=by
 intro w hw;refine callsDIn_of_wpSIn (F:=fr none) (n:=0) hf hb trivial fun c₀ cs hu=>?_
 have hE0:CP n (IL 0 args) {tmps:=args.toArray++Array.replicate (fn.ntmps-args.toArray.size) undef,defers:=[]}:=by
  refine⟨?_,?_⟩
  ·have:args.length≤n:=by simpa using ha
   simp [hn];omega
  ·intro t v e;obtain⟨_,h2⟩:=LA args 0 t v e;simp only [F!]at h2;have hlt:t<args.length:=(C_.1 h2).1;simp only [];rw [Array.getElem?_append_left (by simpa using hlt)];simpa using h2
 have hE1:=(hE0.put Sd v).put (t:=t2) (by simpa using ht2) v;refine wpSIn_seq ?_
 have hrec:recoverD (c₀::cs)=some (v,{c₀ with mode:=u'}::cs)∨(recoverD (c₀::cs)=none∧v=.nilIface∧({c₀ with mode:=u'}::cs)=c₀::cs):=by
  rcases hv with⟨h1,h2,h3⟩|⟨older,h1,h2⟩
  ·right;refine⟨by simp [recoverD,hu,h1],h3,?_⟩;rw [h2,←h1,←hu]
  ·left;simp [recoverD,hu,h1,h2]
 refine iD (v:=v) (cs':={c₀ with mode:=u'}::cs) hrec (by rw [hE0.1];simpa using ht) ?_;show Code.wpSIn _ _ _ _ _ _ _ _;refine wpSIn_of_wpIn rfl ?_;refine h _ (fun E H' hp a w h1 h2 h3=>?_) _ w hE1 (by rfl) hw;refine⟨h2,u',rfl,.tuple #[],?_,.tuple #[],H',rfl,rfl,hp,h3⟩;simp [results,hres]
end
end
section
variable{B:World}
abbrev r0(k:Int)(fin:Bool):RF:=⟨⟨k,0,0,0,fin,⟨#[]⟩,[]⟩,none,0,0,0,[]⟩
theorem Yv(t:UInt8):Eh t=if t.toNat=0 then 1 else if t.toNat=1 then 2 else if t.toNat=2 then 3 else if t.toNat=4 then 4 else if t.toNat=8∨t.toNat=9 then 5 else if t.toNat=28 then 6 else 0:=by
 unfold Eh;simp only [←UInt8.toNat_inj];rfl
theorem qS(t:UInt8)(h:Eh t≠0):DU (Eh t):=by
 rw [Yv]at*;unfold DU
 repeat' split
 all_goals first|omega|(exfalso;simp_all)
theorem qB(t:UInt8)(H:HP):Fn Tryz.prog B 178 [u8 t] H (fun v H'=>v=.tuple #[iN (Eh t),.bool (decide (Eh t≠0))]∧H'=H):=by
 refine mI Tryz.func178 ?_;refine Gv ?_;refine DH ?_;refine JL (CD (i:=t.toNat) (j:=0) rfl rfl) ?_;refine J3 ?_;refine mC (fun yt5=>?_) (fun nt5=>?_)
 ·refine J2 ?_;refine JL (FO (v:=.int .i64 (1:Nat)) rfl) ?_;refine J6 ?_
  first|(exfalso;omega)|exact mr [2,3] rfl rfl ⟨Cw,rfl⟩
 refine J2 ?_;refine JL (CD (i:=t.toNat) (j:=1) rfl rfl) ?_;refine J3 ?_;refine mC (fun yt7=>?_) (fun nt7=>?_)
 ·refine J2 ?_;refine JL (FO (v:=.int .i64 (2:Nat)) rfl) ?_;refine J6 ?_
  first|(exfalso;omega)|exact mr [2,3] rfl rfl ⟨Cw,rfl⟩
 refine J2 ?_;refine JL (CD (i:=t.toNat) (j:=2) rfl rfl) ?_;refine J3 ?_;refine mC (fun yt9=>?_) (fun nt9=>?_)
 ·refine J2 ?_;refine JL (FO (v:=.int .i64 (3:Nat)) rfl) ?_;refine J6 ?_
  first|(exfalso;omega)|exact mr [2,3] rfl rfl ⟨Cw,rfl⟩
 refine J2 ?_;refine JL (CD (i:=t.toNat) (j:=4) rfl rfl) ?_;refine J3 ?_;refine mC (fun yt11=>?_) (fun nt11=>?_)
 ·refine J2 ?_;refine JL (FO (v:=.int .i64 (4:Nat)) rfl) ?_;refine J6 ?_
  first|(exfalso;omega)|exact mr [2,3] rfl rfl ⟨Cw,rfl⟩
 refine J3 ?_;refine JL (CD (i:=t.toNat) (j:=8) rfl rfl) ?_;refine J3 ?_;refine mC (fun yt13=>?_) (fun nt13=>?_)
 ·refine J2 ?_;refine mC (fun yt13=>?_) (fun nt13=>?_)
  ·refine J2 ?_;refine JL bY ?_;refine J6 ?_
   first|(exfalso;omega)|exact mr [2,3] rfl rfl ⟨Cw,rfl⟩
  refine J2 ?_;refine JL (CD (i:=t.toNat) (j:=28) rfl rfl) ?_;refine J3 ?_;refine mC (fun yt16=>?_) (fun nt16=>?_)
  ·refine J2 ?_;refine JL Zv ?_;refine J6 ?_
   first|(exfalso;omega)|exact mr [2,3] rfl rfl ⟨Cw,rfl⟩
  refine J5 ?_;refine FN ?_;refine J4 ?_
  first|(exfalso;omega)|exact mr [2,3] rfl rfl ⟨Cw,rfl⟩
 refine J1 ?_;refine JL (CD (i:=t.toNat) (j:=9) rfl rfl) ?_;refine J3 ?_;refine mC (fun yt13=>?_) (fun nt13=>?_)
 ·refine J2 ?_;refine JL bY ?_;refine J6 ?_
  first|(exfalso;omega)|exact mr [2,3] rfl rfl ⟨Cw,rfl⟩
 refine J2 ?_;refine JL (CD (i:=t.toNat) (j:=28) rfl rfl) ?_;refine J3 ?_;refine mC (fun yt16=>?_) (fun nt16=>?_)
 ·refine J2 ?_;refine JL Zv ?_;refine J6 ?_
  first|(exfalso;omega)|exact mr [2,3] rfl rfl ⟨Cw,rfl⟩
 refine J5 ?_;refine FN ?_;refine J4 ?_
 first|(exfalso;omega)|exact mr [2,3] rfl rfl ⟨Cw,rfl⟩
theorem Fv{r:RF}(h:r.f.ranges=[])(hc:r.c=0)(hs:r.s=[]):r.ok∧r.own∧Fa r=HP.BC:=by
 refine⟨?_,?_,?_⟩
 ·unfold RF.ok;rw [h,hc];exact F8
 ·unfold RF.own;rw [h,hc,hs];rfl
 ·unfold Fa;rw [h,hs,GU]
theorem tO(rb fb:Nat)(fin:Bool)(p:Option Addr)(b o c:Nat)(xs:List UInt8)(a:Nat)(R:HP)(hs:Sl p b o xs.length c)(hr:Ab B R b o xs)(hx:xs.length<100000000000)(ha:a≤xs.length):
  E4 Tryz.prog B 218 [ptr rb 0,ptr fb 0] (B7 rb p c xs a*(HP.AA fb 0 (AJ (r0 1 fin))*R)) (fun _ H'=>∃r a',CA xs 1 fin a=some (r.f,a')∧r.ok∧r.own∧H'=B7 rb p c xs a'*(HP.AA fb 0 (AJ r)*(Fa r*R))) (fun ch H'=>CA xs 1 fin a=none∧ch=GQ∧H'=R):=by
 refine HT Tryz.func218 rfl rfl rfl ?_;refine J1 ?_;exact NN (ts:=[]) rfl rfl ⟨r0 1 fin,_,rfl,(Fv rfl rfl rfl).1,(Fv rfl rfl rfl).2.1,by rw [(Fv (r:=r0 1 fin) rfl rfl rfl).2.2,HP.BH]⟩
theorem jB(rb fb:Nat)(fin:Bool)(p:Option Addr)(b o c:Nat)(xs:List UInt8)(a:Nat)(R:HP)(hs:Sl p b o xs.length c)(hr:Ab B R b o xs)(hx:xs.length<100000000000)(ha:a≤xs.length):
  E4 Tryz.prog B 218 [ptr rb 0,ptr fb 0] (B7 rb p c xs a*(HP.AA fb 0 (AJ (r0 2 fin))*R)) (fun _ H'=>∃r a',CA xs 2 fin a=some (r.f,a')∧r.ok∧r.own∧H'=B7 rb p c xs a'*(HP.AA fb 0 (AJ r)*(Fa r*R))) (fun ch H'=>CA xs 2 fin a=none∧ch=GQ∧H'=R):=by
 refine HT Tryz.func218 rfl rfl rfl ?_;refine J1 ?_;exact NN (ts:=[]) rfl rfl ⟨r0 2 fin,_,rfl,(Fv rfl rfl rfl).1,(Fv rfl rfl rfl).2.1,by rw [(Fv (r:=r0 2 fin) rfl rfl rfl).2.2,HP.BH]⟩
theorem tH(rb fb:Nat)(fin:Bool)(p:Option Addr)(b o c:Nat)(xs:List UInt8)(a:Nat)(R:HP)(hs:Sl p b o xs.length c)(hr:Ab B R b o xs)(hx:xs.length<100000000000)(ha:a≤xs.length):
  E4 Tryz.prog B 195 [ptr rb 0,ptr fb 0] (B7 rb p c xs a*(HP.AA fb 0 (AJ (r0 4 fin))*R)) (fun _ H'=>∃r a',CA xs 4 fin a=some (r.f,a')∧r.ok∧r.own∧H'=B7 rb p c xs a'*(HP.AA fb 0 (AJ r)*(Fa r*R))) (fun ch H'=>CA xs 4 fin a=none∧ch=GQ∧H'=R):=by
 refine HT Tryz.func195 rfl rfl rfl ?_;refine J5 ?_;refine DZ YX rfl ?_ ?_;rotate_left
 ·rintro _ _ ⟨e8,rfl,rfl⟩;exact Fc R ⟨aN,rfl,rfl⟩
 rintro _ _ ⟨n8,a8,e8,rfl,rfl⟩;have g8:=P1 e8;refine J1 ?_;refine DZ WJ rfl ?_ ?_;rotate_left
 ·rintro _ _ ⟨e10,rfl,rfl⟩;exact Fc R ⟨ZD,rfl,rfl⟩
 rintro _ _ ⟨n10,a10,e10,rfl,rfl⟩;have g10:=Dt e10;refine J1 ?_;refine DZ UP rfl ?_ ?_;rotate_left
 ·rintro _ _ ⟨e12,rfl,rfl⟩;exact Fc R ⟨OH,rfl,rfl⟩
 rintro _ _ ⟨n12,a12,e12,rfl,rfl⟩;have g12:=Dt e12;refine B8 ?_;exact NN (ts:=[]) rfl rfl ⟨⟨⟨4,(n8:Nat),n12,n10,fin,⟨#[]⟩,[]⟩,none,0,0,0,[]⟩,a12,OH,(Fv rfl rfl rfl).1,(Fv rfl rfl rfl).2.1,by rw [(Fv (r:=⟨⟨4,(n8:Nat),n12,n10,fin,⟨#[]⟩,[]⟩,none,0,0,0,[]⟩) rfl rfl rfl).2.2,HP.BH]⟩
theorem pE(rb fb:Nat)(fin:Bool)(p:Option Addr)(b o c:Nat)(xs:List UInt8)(a:Nat)(R:HP)(hs:Sl p b o xs.length c)(hr:Ab B R b o xs)(hx:xs.length<100000000000)(ha:a≤xs.length):
  E4 Tryz.prog B 201 [ptr rb 0,ptr fb 0] (B7 rb p c xs a*(HP.AA fb 0 (AJ (r0 5 fin))*R)) (fun _ H'=>∃r a',CA xs 5 fin a=some (r.f,a')∧r.ok∧r.own∧H'=B7 rb p c xs a'*(HP.AA fb 0 (AJ r)*(Fa r*R))) (fun ch H'=>CA xs 5 fin a=none∧ch=GQ∧H'=R):=by
 refine HT Tryz.func201 rfl rfl rfl ?_;refine J5 ?_;refine DZ YX rfl ?_ ?_;rotate_left
 ·rintro _ _ ⟨e8,rfl,rfl⟩;exact Fc R ⟨aN,rfl,rfl⟩
 rintro _ _ ⟨n8,a8,e8,rfl,rfl⟩;have g8:=P1 e8;refine J1 ?_;refine DZ WJ rfl ?_ ?_;rotate_left
 ·rintro _ _ ⟨e10,rfl,rfl⟩;exact Fc R ⟨ZD,rfl,rfl⟩
 rintro _ _ ⟨n10,a10,e10,rfl,rfl⟩;have g10:=Dt e10;refine J1 ?_;refine DZ (GN rfl (tT rb p b o c xs a10 _ hs inferInstance hx Ca)) rfl ?_ ?_;rotate_left
 ·rintro _ _ ⟨e12,rfl,rfl⟩;exact Fc R ⟨OH,rfl,rfl⟩
 rintro _ _ ⟨n12,a12,e12,rfl,rfl⟩;have g12:=R8 e12;refine B8 ?_;exact NN (ts:=[]) rfl rfl ⟨⟨⟨5,(n8:Nat),n10,0,fin,AW n12,[]⟩,none,0,0,0,[]⟩,a12,OH,(Fv rfl rfl rfl).1,(Fv rfl rfl rfl).2.1,by rw [(Fv (r:=⟨⟨5,(n8:Nat),n10,0,fin,AW n12,[]⟩,none,0,0,0,[]⟩) rfl rfl rfl).2.2,HP.BH]⟩
theorem oZ(bq:Nat)(rb fb:Nat)(fin:Bool)(p:Option Addr)(b o c:Nat)(xs:List UInt8)(a:Nat)(R:HP)(hs:Sl p b o xs.length c)(hr:Ab B R b o xs)(hx:xs.length<100000000000)(ha:a≤xs.length)[hq:Rd B R bq 0 (FR 205 []) True]:
  E4 Tryz.prog B 220 [ptr rb 0,ptr fb 0,ptr bq 0] (B7 rb p c xs a*(HP.AA fb 0 (AJ (r0 6 fin))*R)) (fun _ H'=>∃r a',CA xs 6 fin a=some (r.f,a')∧r.ok∧r.own∧H'=B7 rb p c xs a'*(HP.AA fb 0 (AJ r)*(Fa r*R))) (fun ch H'=>CA xs 6 fin a=none∧ch=GQ∧H'=R):=by
 refine HT Tryz.func220 rfl rfl rfl ?_;refine J1 ?_;refine Ks ?_;refine Af (Hg rfl rfl (bH fb _)) rfl ?_;refine Hw ?_;refine DZ QY rfl ?_ ?_;rotate_left
 ·rintro _ _ ⟨e9,rfl,rfl⟩;exact Fc R ⟨VI,rfl,rfl⟩
 rintro _ _ ⟨n9,a9,e9,rfl,rfl⟩;have g9:=Dt e9;refine J3 ?_;exact NN (ts:=[]) rfl rfl ⟨⟨⟨6,0,0,n9,fin,⟨#[]⟩,[]⟩,none,0,0,0,[]⟩,a9,VI,(Fv rfl rfl rfl).1,(Fv rfl rfl rfl).2.1,by rw [(Fv (r:=⟨⟨6,0,0,n9,fin,⟨#[]⟩,[]⟩,none,0,0,0,[]⟩) rfl rfl rfl).2.2,HP.BH]⟩
structure GB where
 rs:List AV
 hi:Nat
 n:Nat
 size:Nat
 a:Nat
 p:Option Addr
 b:Nat
 o:Nat
 c:Nat
 s:List Value
abbrev GB.rf(z:GB)(fin:Bool):RF:=⟨⟨3,0,0,0,fin,⟨#[]⟩,z.rs⟩,z.p,z.b,z.o,z.c,z.s⟩
def FA(xs:List UInt8)(z:GB):Option (List AV×Nat):=
 if z.size≤z.hi then match Fr xs z.n (z.hi-z.size) z.a with
  |some (rs',a4)=>some (z.rs++⟨z.hi-z.size,z.hi⟩::rs',a4)
  |none=>none
 else none
theorem uB{xs:List UInt8}{a hi a1 n a2 size a3:Nat}(e1:C6 xs a=some (hi,a1))(e2:C6 xs a1=some (n,a2))(e3:C6 xs a2=some (size,a3)):
  Fe xs a=FA xs ⟨[],hi,n,size,a3,none,0,0,0,[]⟩:=by
 simp only [Fe,e1,e2,e3,FA,D!];split
 ·cases Fr xs n (hi-size) a3<;>rfl
 ·rfl
theorem xE{xs:List UInt8}{z:GB}(h:¬z.size≤z.hi):FA xs z=none:=by rw [FA,if_neg h]
theorem fM{xs:List UInt8}{z:GB}(h:z.size≤z.hi)(hn:z.n=0):FA xs z=some (z.rs++[(⟨z.hi-z.size,z.hi⟩:AV)],z.a):=by
 rw [FA,if_pos h,hn];rfl
theorem tP{xs:List UInt8}{z:GB}{m:Nat}(hn:z.n=m+1)(e:C6 xs z.a=none):FA xs z=none:=by
 rw [FA];split
 ·simp only [hn,Fr,e]
 ·rfl
theorem cT{xs:List UInt8}{z:GB}{m gap a1:Nat}(hn:z.n=m+1)(e:C6 xs z.a=some (gap,a1))(e2:C6 xs a1=none):FA xs z=none:=by
 rw [FA];split
 ·simp only [hn,Fr,e,e2]
 ·rfl
theorem vP{xs:List UInt8}{z:GB}{m gap a1 size a2:Nat}(hn:z.n=m+1)(e:C6 xs z.a=some (gap,a1))(e2:C6 xs a1=some (size,a2))(h:z.hi-z.size<2∨z.hi-z.size-2<gap):FA xs z=none:=by
 rw [FA];split
 ·simp only [hn,Fr,e,e2];rw [if_neg Ca]
 ·rfl
theorem tE{xs:List UInt8}{z:GB}{m gap a1 size a2:Nat}(hle:z.size≤z.hi)(hn:z.n=m+1)(e:C6 xs z.a=some (gap,a1))(e2:C6 xs a1=some (size,a2))(h:2≤z.hi-z.size)(hg:gap≤z.hi-z.size-2)
  (p:Option Addr)(b o c:Nat)(s:List Value):
  FA xs z=FA xs ⟨z.rs++[(⟨z.hi-z.size,z.hi⟩:AV)],z.hi-z.size-2-gap,m,size,a2,p,b,o,c,s⟩:=by
 rw [FA,if_pos hle,FA];simp only [hn,Fr,e,e2];by_cases h2:size≤z.hi-z.size-2-gap
 ·rw [if_pos Ca,if_pos h2]
  cases Fr xs m (z.hi-z.size-2-gap-size) a2 with
  |none=>rfl
  |some w=>obtain⟨rs',a4⟩:=w;simp
 ·rw [if_neg Ca,if_neg h2]
theorem rP{xs:List UInt8}{fin:Bool}{a:Nat}{rs:List AV}{a':Nat}(h:Fe xs a=some (rs,a')):CA xs 3 fin a=some (⟨3,0,0,0,fin,⟨#[]⟩,rs⟩,a'):=by
 unfold CA;simp only [F_,if_false,if_true,h]
theorem Kx{xs:List UInt8}{fin:Bool}{a:Nat}(h:Fe xs a=none):CA xs 3 fin a=none:=by
 unfold CA;simp only [F_,if_false,if_true,h]
theorem rL(rb fb:Nat)(fin:Bool)(p:Option Addr)(b o c:Nat)(xs:List UInt8)(a:Nat)(R:HP)(hs:Sl p b o xs.length c)(hr:Ab B R b o xs)(hx:xs.length<100000000000)(ha:a≤xs.length):
  E4 Tryz.prog B 191 [ptr rb 0,ptr fb 0] (B7 rb p c xs a*(HP.AA fb 0 (AJ (r0 3 fin))*R)) (fun _ H'=>∃r a',CA xs 3 fin a=some (r.f,a')∧r.ok∧r.own∧H'=B7 rb p c xs a'*(HP.AA fb 0 (AJ r)*(Fa r*R))) (fun ch H'=>CA xs 3 fin a=none∧ch=GQ∧H'=R):=by
 refine HT Tryz.func191 rfl rfl rfl ?_;refine J3 ?_;refine DZ QY rfl ?_ ?_;rotate_left
 ·rintro _ _ ⟨e10,rfl,rfl⟩;refine Ez ?_;exact Fc R ⟨Kx (by simp only [Fe,e10]),rfl,rfl⟩
 rintro _ _ ⟨n10,a10,e10,rfl,rfl⟩;have g10:=Dt e10;refine J1 ?_;refine DZ UP rfl ?_ ?_;rotate_left
 ·rintro _ _ ⟨e12,rfl,rfl⟩;refine Ez ?_;exact Fc R ⟨Kx (by simp only [Fe,e10,e12]),rfl,rfl⟩
 rintro _ _ ⟨n12,a12,e12,rfl,rfl⟩;have g12:=Dt e12;refine J1 ?_;refine DZ (GN rfl (Lf rb p b o c xs a12 _ hs inferInstance hx Ca)) rfl ?_ ?_;rotate_left
 ·rintro _ _ ⟨e14,rfl,rfl⟩;refine Ez ?_;exact Fc R ⟨Kx (by simp only [Fe,e10,e12,e14]),rfl,rfl⟩
 rintro _ _ ⟨n14,a14,e14,rfl,rfl⟩;have g14:=Dt e14;refine J6 ?_
 refine Bk (α:=GB) (fun z=>[(0,ptr rb 0),(1,ptr fb 0),(4,uN z.hi),(5,uN z.n),(6,uN z.size)]) (fun z=>B7 rb p c xs z.a*(HP.AA fb 0 (AJ (z.rf fin))*(AB z.b z.o z.rs z.s*R))) (fun z=>z.hi≤4611686018427387903∧z.n≤4611686018427387903∧z.size≤4611686018427387903∧z.a≤xs.length∧z.rs.length≤z.a∧Sl z.p z.b z.o z.rs.length z.c∧z.rs.length*2+z.s.length=z.c*2∧Fe xs a=FA xs z) (fun z=>z.n) ⟨[],n10,n12,n14,a14,none,0,0,0,[]⟩ ⟨g10.1,g12.1,g14.1,g14.2.2,C! _,F8,rfl,uB e10 e12 e14⟩ Gh (by show _=B7 rb p c xs a14*(HP.AA fb 0 (AJ (r0 3 fin))*(AB 0 0 ([]:List AV) []*R));rw [GU,HP.BH]) ?_
 rintro z ⟨hhi,hn,hsz,hza,hzl,hzs,hzc,hinv⟩;refine J6 ?_;refine Ke ?_;refine mC (fun hbad=>?_) (fun hle=>?_)
 ·refine J2 ?_;refine DZ MZ rfl ?_ ?_;rotate_left
  ·refine JR ?_;refine IY ?_;exact Fc R ⟨Kx (by rw [hinv];exact xE Ca),rfl,rfl⟩
  exact Ix
 refine J6 ?_;refine JL G5 ?_;refine J9 ?_;refine Dm ?_;refine J2 ?_;refine JL (Ex (cs:=[uN (z.hi-z.size),uN z.hi]) rfl rfl rfl Ce) ?_;refine Af (GZ (cs:=[uN (z.hi-z.size),uN z.hi]) rfl Cp rfl rfl) rfl ?_;rintro _ _ ⟨b31,rfl,rfl⟩;refine BF (H':=AB z.b z.o z.rs z.s*(HP.AA b31 0 (AD [(⟨z.hi-z.size,z.hi⟩:AV)])*(B7 rb p c xs z.a*(HP.AA fb 0 (AJ (z.rf fin))*R)))) (by show HP.AA b31 0 (AD [(⟨z.hi-z.size,z.hi⟩:AV)])*_=_;ac_rfl) ?_;refine Af (CS (ys:=[(⟨z.hi-z.size,z.hi⟩:AV)]) (bb:=b31) (oo:=0) (cc:=1) rfl hzs hzc rfl CB inferInstance rfl Cm Ca) rfl ?_;rintro _ _ ⟨p32,b32,o32,c32,s32,rfl,hs32,hc32,rfl⟩;refine J7 ?_;refine Ao (H':=B7 rb p c xs z.a*(HP.AA fb 0 (AJ (GB.rf ⟨z.rs++[(⟨z.hi-z.size,z.hi⟩:AV)],0,0,0,0,p32,b32,o32,c32,s32⟩ fin))*(AB b32 o32 (z.rs++[(⟨z.hi-z.size,z.hi⟩:AV)]) s32*(HP.AA b31 0 (AD [(⟨z.hi-z.size,z.hi⟩:AV)])*R)))) (by show _=_;ac_rfl) ?_;refine J2 ?_;refine I' ?_;refine mC (fun hz=>?_) (fun hz=>?_)
 ·refine J5 ?_;exact dQ (ts:=[]) (B7 rb p c xs z.a*(HP.AA fb 0 (AJ (GB.rf ⟨z.rs++[(⟨z.hi-z.size,z.hi⟩:AV)],0,0,0,0,p32,b32,o32,c32,s32⟩ fin))*(AB b32 o32 (z.rs++[(⟨z.hi-z.size,z.hi⟩:AV)]) s32*R))) rfl rfl ⟨GB.rf ⟨z.rs++[(⟨z.hi-z.size,z.hi⟩:AV)],0,0,0,0,p32,b32,o32,c32,s32⟩ fin,z.a,rP (by rw [hinv];exact fM Ca hz),hs32,hc32,rfl⟩
 obtain⟨m,hm⟩:∃m,z.n=m+1:=⟨z.n-1,Ca⟩
 refine J5 ?_;refine JL Nv ?_;refine J6 ?_;refine DZ (GN rfl (Lf rb p b o c xs z.a _ hs inferInstance hx Ca)) rfl ?_ ?_;rotate_left
 ·rintro _ _ ⟨e40,rfl,rfl⟩;refine IY ?_;exact Fc R ⟨Kx (by rw [hinv];exact tP hm e40),rfl,rfl⟩
 rintro _ _ ⟨n40,a40,e40,rfl,rfl⟩;have g40:=Dt e40;refine J6 ?_;refine DZ (GN rfl (Lf rb p b o c xs a40 _ hs inferInstance hx Ca)) rfl ?_ ?_;rotate_left
 ·rintro _ _ ⟨e42,rfl,rfl⟩;refine IY ?_;exact Fc R ⟨Kx (by rw [hinv];exact cT hm e40 e42),rfl,rfl⟩
 rintro _ _ ⟨n42,a42,e42,rfl,rfl⟩;have g42:=Dt e42;refine J7 ?_;refine JL Tg ?_;refine J1 ?_;refine D8 45 rfl (fun hg1=>?_) (fun hg1=>?_)
 ·refine LL ?_;refine LL ?_;refine JL Fd ?_;refine J2 ?_;refine GJ ?_;refine J2 ?_;refine DZ MZ rfl ?_ ?_;rotate_left
  ·refine JR ?_;refine IY ?_;exact ZV
  exact Ix
 refine N3 ?_;refine JL Rj ?_;refine JG F1 ?_;refine JL Hc ?_;refine JL Ec ?_;refine J2 ?_;refine mC (fun hb5=>?_) (fun hb5=>?_)
 ·refine J2 ?_;refine DZ MZ rfl ?_ ?_;rotate_left
  ·refine JR ?_;refine IY ?_;exact ZV
  exact Ix
 refine J4 ?_;refine JL Rj ?_;refine J1 ?_;refine JL G5 ?_;refine J3 ?_;refine Bf (B7 rb p c xs a42*(HP.AA fb 0 (AJ (GB.rf ⟨z.rs++[(⟨z.hi-z.size,z.hi⟩:AV)],z.hi-z.size-2-n40,m,n42,a42,p32,b32,o32,c32,s32⟩ fin))*(AB b32 o32 (z.rs++[(⟨z.hi-z.size,z.hi⟩:AV)]) s32*R))) ?_;exact BW (⟨z.rs++[(⟨z.hi-z.size,z.hi⟩:AV)],z.hi-z.size-2-n40,m,n42,a42,p32,b32,o32,c32,s32⟩:GB) ⟨by show z.hi-z.size-2-n40≤_;omega,by show m≤_;omega,g42.1,g42.2.2,by show(z.rs++[_]).length≤a42;rw [A?,List.length_singleton];omega,hs32,hc32,by rw [hinv];exact tE Ca hm e40 e42 Ca Ca _ _ _ _ _⟩ (by show m<z.n;omega) (.cons rfl (.cons rfl (.cons rfl (.cons (by rw [hm];rfl) PG)))) rfl
theorem oG{k:Nat}{f1 f2 f3:FuncId}{us1 us2 us3:List Value}{C:HP}(h:El k f1 us1 f2 us2 f3 us3 C)(rb fb:Nat)(fin:Bool)(p:Option Addr)(b o c:Nat)(xs:List UInt8)(a:Nat)(R:HP)(hs:Sl p b o xs.length c)(hr:Ab B R b o xs)(hx:xs.length<100000000000)(ha:a≤xs.length):
  Ad Tryz.prog f2∧E4 Tryz.prog B f2 ([ptr rb 0,ptr fb 0]++us2) (B7 rb p c xs a*(HP.AA fb 0 (AJ (r0 k fin))*(C*R))) (fun _ H'=>∃r a',CA xs k fin a=some (r.f,a')∧r.ok∧r.own∧H'=B7 rb p c xs a'*(HP.AA fb 0 (AJ r)*(Fa r*(C*R)))) (fun ch H'=>CA xs k fin a=none∧ch=GQ∧H'=C*R):=by
 generalize hk:(k:Int)=kk at h
 cases h with
 |pad bt=>
  obtain rfl:k=1:=by omega
  exact⟨inferInstance,tO rb fb fin p b o c xs a _ hs inferInstance hx ha⟩
 |ping bt=>
  obtain rfl:k=2:=by omega
  exact⟨inferInstance,jB rb fb fin p b o c xs a _ hs inferInstance hx ha⟩
 |HJ=>
  obtain rfl:k=3:=by omega
  exact⟨inferInstance,rL rb fb fin p b o c xs a _ hs inferInstance hx ha⟩
 |reset=>
  obtain rfl:k=4:=by omega
  exact⟨inferInstance,tH rb fb fin p b o c xs a _ hs inferInstance hx ha⟩
 |data=>
  obtain rfl:k=5:=by omega
  exact⟨inferInstance,pE rb fb fin p b o c xs a _ hs inferInstance hx ha⟩
 |bye bt bq=>
  obtain rfl:k=6:=by omega
  exact⟨inferInstance,oZ bq rb fb fin p b o c xs a _ hs inferInstance hx ha⟩
end
section
open Go Go.RowKit Go.Extern.Stop Go.Stop Go.Extern
set_option linter.unusedVariables false
theorem gK(k:Addr)(w:World):(ReflectliteValue.unpack (.iface 191 (.pointer (some k)))).run Tryz.prog w
  = .ok (.agg #[.pointer (some ⟨1,191,none⟩),.pointer (some ⟨w.heap.size,0,none⟩),.int .u64 150]) (w.alloc (.cells #[.pointer (some k)] 191)):=by kernel_rfl
theorem lU(v:Value)(w:World):(ReflectliteType.typeOf #[.iface 191 v]).run Tryz.prog w=.ok (.iface 282 (.agg #[.pointer (some ⟨1,191,none⟩)])) w:=by kernel_rfl
theorem nA(w :World) :(ReflectliteType.relation "AssignableTo" ReflectliteType.assignableTo #[.agg #[.pointer (some ⟨1,191,none⟩)],.iface 282 (.agg #[.pointer (some ⟨1,191,none⟩)])]).run Tryz.prog w =.ok (.bool true) w :=by kernel_rfl
theorem wP(w:World):(Rtype.elem? 193).run Tryz.prog w=.ok (some 191) w:=by kernel_rfl
theorem fL(p:Addr)(w:World):(ReflectliteValue.mk 191 p ReflectliteValue.flagAddr).run Tryz.prog w=.ok (.agg #[.pointer (some ⟨1,191,none⟩),.pointer (some p),.int .u64 406]) w:=by kernel_rfl
theorem eL(a p:Addr)(W:World)(ha:W.cell? a=some (.pointer (some p))):
  (ReflectliteValue.method (ReflectliteValue.valueError "reflectlite.Value.Elem" 0) ReflectliteValue.elem #[.agg #[.pointer (some ⟨1,193,none⟩),.pointer (some a),.int .u64 150]]).run Tryz.prog W
   = .ok (.agg #[.pointer (some ⟨1,191,none⟩),.pointer (some p),.int .u64 406]) W:=by
 rw [Pp];simp only [Sem.run_bind,ZK,B?];simp [ReflectliteValue.elem,loadVar,isAgg,underlying,Tryz.underlying193,ha,B?,wP,fL]
theorem uA(a:Addr)(w:World):(ReflectliteValue.parts (.agg #[.pointer (some ⟨1,191,none⟩),.pointer (some a),.int .u64 406])).run Tryz.prog w=.ok (some (191,a,406)) w:=by kernel_rfl
theorem nM(a:Addr)(w:World):(ReflectliteValue.parts (.agg #[.pointer (some ⟨1,191,none⟩),.pointer (some a),.int .u64 150])).run Tryz.prog w=.ok (some (191,a,150)) w:=by kernel_rfl
theorem hJ(w:World):(Rtype.directlyAssignable 191 191).run Tryz.prog w=.ok true w:=by kernel_rfl
theorem xO(ta b:Addr)(k:Addr)(old:Value)(W:World)(hb:W.cell? b=some (.pointer (some k)))(ht:W.cell? ta=some old)(hf:W.frozen? ta=false):
  (ReflectliteValue.set #[.agg #[.pointer (some ⟨1,191,none⟩),.pointer (some ta),.int .u64 406],.agg #[.pointer (some ⟨1,191,none⟩),.pointer (some b),.int .u64 150]]).run Tryz.prog W
   = .ok (.tuple #[]) (W.setCell ta (.pointer (some k))):=by
 rw [Wj];simp only [Sem.run_bind,uA,nM,B?];simp [ReflectliteValue.flagAddr,loadVar,isAgg,underlying,Tryz.underlying191,hb,B?,hJ,storeVar,Value.cells,storeCells,Addr.add];rw [run_store Tryz.prog W ta _ _ (by rfl)];simp [ht,hf]
end
section
variable{B:World}
end
section
variable{B:World}
theorem Mu(p:Option Addr)(b o c k:Nat)(xs:List UInt8)(s:List Value)(R:HP)(hs:Sl p b o k c)(hx:xs.length=k)(hk:k<1000000000):
  Fn Tryz.prog B 93 [.slice p k c] (AB b o xs s*R) (fun _ H'=>∃ys:List UInt8,ys.length=k∧H'=AB b o ys s*R):=by
 refine mI Tryz.func93 ?_;refine J4 ?_;refine Gi ?_;refine Bk (α:=Nat×List UInt8) (fun z=>[(0,.slice p k c),(4,iN k),(5,iN z.1)]) (fun z=>AB b o z.2 s*R) (fun z=>z.1≤k∧z.2.length=k) (fun z=>k-z.1) (0,xs) ⟨C! _,hx⟩ EB rfl ?_;rintro⟨j,ys⟩ ⟨hj,hy⟩;dsimp only at hj hy⊢;refine J6 ?_;refine mC (fun hc=>?_) (fun hc=>?_)
 ·refine Eu ?_;refine JL (DG rfl rfl (b:=b) (o:=o) hs hc) ?_;refine Bj (EY (v:=u8 33) rfl rfl rfl Ca) ?_;refine E9 ?_;refine Es ?_;exact BW (j+1,ys.set j 33) ⟨hc,by simp [hy]⟩ Z5 EB rfl
 refine J4 ?_;exact OD (ts:=[]) rfl rfl ⟨ys,hy,rfl⟩
theorem XG{ks:List UInt8}(hk:ks.length=16){side:UInt8}{xs:List UInt8}(p:Option Addr)(b o c:Nat)(H:HP)(hs:Sl p b o xs.length c)(hr:Ab B H b o xs)(hx:xs.length<90000000)(hop:Bx ks side xs=none):
  Fn Tryz.prog B 142 [.agg (AD ks++[u8 side]).toArray,.slice p xs.length c] H (fun v H'=>v=.tuple #[u64 0,.slice none 0 0,.bool false]∧H'=H):=by
 have h:=VU ks hk side xs p b o c H hs hr hx;rw [hop]at h;exact h
theorem XL{ks:List UInt8}(hk:ks.length=16){side:UInt8}{xs:List UInt8}{n:UInt64}{ys:List UInt8}(p:Option Addr)(b o c:Nat)(H:HP)(hs:Sl p b o xs.length c)(hr:Ab B H b o xs)(hx:xs.length<90000000)(hop:Bx ks side xs=some (n,ys)):
  Fn Tryz.prog B 142 [.agg (AD ks++[u8 side]).toArray,.slice p xs.length c] H (fun v H'=>∃q b' o' c' s',v=.tuple #[u64 n,.slice q ys.length c',.bool true]∧Sl q b' o' ys.length c'∧ys.length*1+s'.length=c'*1∧H'=AB b' o' ys s'*H):=by
 have h:=VU ks hk side xs p b o c H hs hr hx;rw [hop]at h;exact h.mono (by rintro v H' ⟨sv,rfl,q,b',o',c',s',rfl,h1,h2,rfl⟩;exact⟨q,b',o',c',s',rfl,h1,h2,rfl⟩)
theorem uK(ks:List UInt8)(hk:ks.length=16)(first:Bool)(xs:List UInt8)(p:Option Addr)(b o c:Nat)(H:HP)(hs:Sl p b o xs.length c)(hr:Ab B H b o xs)(hx:xs.length<90000000)(hop:Bx ks (Ag first) xs=none):
  Fn Tryz.prog B 98 [.agg (AD ks).toArray,.bool first,.slice p xs.length c] H (fun v H'=>v=.tuple #[u64 0,.slice none 0 0,.iface 41 (.int .i64 4)]∧H'=H):=by
 refine mI Tryz.func98 ?_;refine J2 ?_;refine KA ?_;rintro _ _ ⟨b3,rfl,rfl⟩;refine aH ?_;refine mE rfl (XG hk p b o c _ hs inferInstance hx hop) ?_;refine JR ?_;refine Eu ?_;refine Ij ?_;refine mc (fun hc=>?_) (fun hc=>?_);rotate_left
 ·cases hc
 refine J2 ?_;refine JL HM ?_;refine GR ?_;refine J6 ?_;exact mR [6,7,8] H rfl rfl Ba
theorem mH(ks:List UInt8)(hk:ks.length=16)(first:Bool)(xs:List UInt8)(n:UInt64)(ys:List UInt8)(p:Option Addr)(b o c:Nat)(H:HP)(hs:Sl p b o xs.length c)(hr:Ab B H b o xs)(hx:xs.length<90000000)(hop:Bx ks (Ag first) xs=some (n,ys)):
  Fn Tryz.prog B 98 [.agg (AD ks).toArray,.bool first,.slice p xs.length c] H (fun v H'=>∃sv,v=.tuple #[u64 n,sv,.nilIface]∧((ys=[]∧sv=.slice none 0 0∧H'=H)∨(ys≠ []∧B1 H ys sv H'))):=by
 refine mI Tryz.func98 ?_;refine J2 ?_;refine KA ?_;rintro _ _ ⟨b3,rfl,rfl⟩;refine aH ?_;refine mE rfl (XL hk p b o c _ hs inferInstance hx hop) ?_;rintro _ _ ⟨q,b',o',c',s',rfl,hq1,hq2,rfl⟩;refine Eu ?_;refine Ij ?_;refine mc (fun hc=>?_) (fun hc=>?_)
 ·cases hc
 refine J7 ?_;refine I' ?_;refine mC (fun hc=>?_) (fun hc=>?_)
 ·refine Gc ?_;exact mR [6,7,8] H rfl rfl ⟨_,rfl,.inl ⟨C?.1 hc,rfl,rfl⟩⟩
 refine DH ?_;exact mR [6,7,8] (AB b' o' ys s'*H) rfl rfl ⟨_,rfl,.inr ⟨fun h=>hc Pn,q,b',o',c',s',rfl,hq1,hq2,rfl⟩⟩
def Zw(c:Int)(n:Nat):Nat:=(if c<0 then(-(c+1)).toNat else c.toNat)%n
theorem U5(H:HP):Fn Tryz.prog B 44 [.nilIface] H (fun v H'=>v=.tuple #[.int .i64 0,.int .i64 (-1)]∧H'=H):=by
 refine Sb ?_;rintro _ _ ⟨b4,rfl,rfl⟩;refine J4 ?_;refine M7 ?_;rintro _ _ ⟨b5,rfl,rfl⟩;refine J7 ?_;refine JL NR ?_;refine J3 ?_;refine mc (fun hc=>?_) (fun hc=>?_);rotate_left
 ·cases hc
 refine Gv ?_;refine J6 ?_;exact mR [2,3] H rfl rfl Ba
theorem X2(H:HP):Fn Tryz.prog B 40 [.nilIface] H (fun v H'=>v=.int .i64 0∧H'=H):=by
 refine Ts ?_;refine mE rfl (U5 _) ?_;refine JR ?_;refine Gc ?_;exact K4
end
section
open Go Go.RowKit Go.Extern.Stop Go.Stop Go.Extern
set_option linter.unusedVariables false
set_option maxRecDepth 20000
set_option maxHeartbeats 1000000
variable{B:World}
abbrev FY(q:Nat):Value:=.iface 191 (ptr q 0)
abbrev EU(q k:Nat)(at_:Value):HP:=HP.AA q 0 [.int .i64 (k:Nat),at_]
theorem kN(q k:Nat)(at_:Value)(R:HP):Fn Tryz.prog B 249 [ptr q 0] (EU q k at_*R) (fun v H'=>v=D9 k∧H'=EU q k at_*R):=by
 refine mI Tryz.func249 ?_;refine B8 ?_;refine Dm ?_;refine JL HM ?_;refine J4 ?_;exact K4
theorem kK(q:Nat)(tg old:Value)(b5 b14:Nat)(R:HP):Fn Tryz.prog B 123 [FY q,tg,.agg #[.pointer (some ⟨1,193,none⟩),ptr b14 0,.int .u64 150],C3 191] (HP.AA b5 0 [old]*(HP.AA b14 0 [ptr b5 0]*R))
  (fun v H'=>v=.bool true∧H'=HP.AA b5 0 [ptr q 0]*(HP.AA b14 0 [ptr b5 0]*R)):=by
 refine mI Tryz.func123 ?_;refine J2 ?_;refine Af (DP (l:=[.pointer (some ⟨1,193,none⟩),ptr b14 0,.int .u64 150]) rfl rfl) rfl ?_;rintro _ _ ⟨b6,rfl,rfl⟩;refine J4 ?_;refine Bk (fun _:Unit=>[(0,FY q),(1,tg),(3,C3 191),(6,ptr b6 0)]) (fun _=>(HP.AA b6 0 [.pointer (some ⟨1,193,none⟩),ptr b14 0,.int .u64 150]*(HP.AA b5 0 [old]*(HP.AA b14 0 [ptr b5 0]*R)))) (fun _=>True) (fun _=>0) () trivial CY rfl ?_;intro _ _;refine J5 ?_;refine JL (IQ rfl (fun w _=>lU _ w)) ?_;refine J1 ?_;refine JL (G6 rfl rfl (fun w _=>nA w)) ?_;refine J2 ?_;refine mc (fun hc=>?_) (fun hc=>?_);rotate_left
 ·cases hc
 refine J3 ?_;refine JL (IQ (v:=.agg #[.pointer (some ⟨1,191,none⟩),ptr b5 0,.int .u64 406]) rfl (fun w hw=>eL ⟨b14,0,none⟩ ⟨b5,0,none⟩ w ((inferInstance:Rd B (HP.AA b6 0 [.pointer (some ⟨1,193,none⟩),ptr b14 0,.int .u64 150]*(HP.AA b5 0 [old]*(HP.AA b14 0 [ptr b5 0]*R))) b14 0 (ptr b5 0) True).get w hw trivial))) ?_;refine J1 ?_;refine Af (LB (Post:=fun v H'=>∃b,v=.agg #[.pointer (some ⟨1,191,none⟩),ptr b 0,.int .u64 150]∧H'=HP.AA b 0 [ptr q 0]*(HP.AA b6 0 [.pointer (some ⟨1,193,none⟩),ptr b14 0,.int .u64 150]*(HP.AA b5 0 [old]*(HP.AA b14 0 [ptr b5 0]*R)))) rfl (fun w hw=>⟨_,_,_,gK _ w,⟨w.heap.size,rfl,rfl⟩,hw.alloc _ _⟩)) rfl ?_;rintro _ _ ⟨b23,rfl,rfl⟩
 refine Af (LB (Post:=fun v H'=>H'=HP.AA b23 0 [ptr q 0]*(HP.AA b6 0 [.pointer (some ⟨1,193,none⟩),ptr b14 0,.int .u64 150]*(HP.AA b5 0 [ptr q 0]*(HP.AA b14 0 [ptr b5 0]*R)))) rfl (fun w hw=>by
 have hb:=(inferInstance:Rd B (HP.AA b23 0 [ptr q 0]*(HP.AA b6 0 [.pointer (some ⟨1,193,none⟩),ptr b14 0,.int .u64 150]*(HP.AA b5 0 [old]*(HP.AA b14 0 [ptr b5 0]*R)))) b23 0 (ptr q 0) True).get w hw trivial
 obtain⟨⟨u,hu⟩,hf,hs⟩:=Sat.store (v:=ptr q 0) (H':=HP.AA b23 0 [ptr q 0]*(HP.AA b6 0 [.pointer (some ⟨1,193,none⟩),ptr b14 0,.int .u64 150]*(HP.AA b5 0 [ptr q 0]*(HP.AA b14 0 [ptr b5 0]*R)))) (s:=True) (b:=b5) (i:=0) inferInstance hw trivial
 exact⟨_,_,_,xO ⟨b5,0,none⟩ ⟨b23,0,none⟩ ⟨q,0,none⟩ u w hb hu hf,rfl,hs⟩)) rfl ?_
 rintro _ _ rfl;refine DH ?_;exact mR [8] (HP.AA b5 0 [ptr q 0]*(HP.AA b14 0 [ptr b5 0]*R)) rfl rfl Ba
theorem kY(hG:B.cell? ⟨0,0,none⟩=some (C3 106))(q:Nat)(old:Value)(b4:Nat)(R:HP):Fn Tryz.prog B 79 [FY q,.iface 193 (ptr b4 0)] (HP.AA b4 0 [old]*R) (fun v H'=>v=.bool true∧H'=HP.AA b4 0 [ptr q 0]*R):=by
 refine Tl ?_;refine mc (fun hc=>?_) (fun hc=>?_)
 ·cases hc
 refine J6 ?_;refine JV ?_;refine mc (fun hc=>?_) (fun hc=>?_)
 ·cases hc
 refine J5 ?_;refine Af U4 rfl ?_;rintro _ _ ⟨b14,rfl,rfl⟩;refine K1 ?_;rintro _ _ ⟨b5,rfl,rfl⟩;refine Wi ?_;refine D8 20 rfl (fun hg1=>?_) (fun hg1=>?_)
 ·exact absurd rfl hg1
 refine Mq ?_;refine JL XQ ?_;refine JL Ec ?_;refine J2 ?_;refine mc (fun hc=>?_) (fun hc=>?_)
 ·cases hc
 refine Wm ?_;refine D8 30 rfl (fun hg2=>?_) (fun hg2=>?_)
 ·refine V9 ?_;refine mc (fun hc=>?_) (fun hc=>?_)
  ·cases hc
  refine J8 ?_;refine BF (H':=HP.AA b4 0 [old]*(HP.AA b14 0 [ptr b4 0]*(HP.AA b5 0 [.pointer (some ⟨1,193,none⟩),ptr b14 0,.int .u64 150]*R))) Cf ?_;refine mE rfl (kK q _ old b4 b14 (HP.AA b5 0 [.pointer (some ⟨1,193,none⟩),ptr b14 0,.int .u64 150]*R)) ?_;refine E9 ?_;exact mR [4] (HP.AA b4 0 [ptr q 0]*R) rfl rfl Ba
 exact absurd Cc hg2
theorem iP(q:Value)(k:Int)(w:World):(binOp .eql 106 (.iface 191 q) (.iface 41 (.int .i64 k))).run Tryz.prog w=.ok (.bool false) w:=by kernel_rfl
theorem sW(q k:Nat)(at_:Value)(R:HP):Fn Tryz.prog B 125 [FY q,D9 k,.bool true] (EU q k at_*R) (fun v H'=>v=.bool true∧H'=EU q k at_*R):=by
 refine mI Tryz.func125 ?_;refine J6 ?_;refine Bk (fun z:Bool=>[(0,bif z then FY q else D9 k),(1,D9 k),(2,.bool true)]) (fun _=>EU q k at_*R) (fun _=>True) (fun z=>bif z then 1 else 0) true trivial EB rfl ?_;intro z _
 have hne:(bif z then FY q else D9 k)=FY q∨z=false:=by cases z<;>simp
 cases z;rotate_left
 ·dsimp only [cond_true]at*;refine J6 ?_;refine DA 15 rfl (fun hg1=>?_) (fun hg1=>?_)
  ·refine Ho ?_;refine JL (Jg (r:=.bool false) rfl rfl (fun w=>by kernel_rfl) (fun w=>by rw [iP])) ?_;refine Jt ?_;refine mc (fun hc=>?_) (fun hc=>?_)
   ·cases hc
   refine J6 ?_;refine JL P7 ?_;refine Bq ?_;refine DA 26 rfl (fun hg2=>?_) (fun hg2=>?_)
   ·cases hg2
   refine Sr ?_;refine JL Mo ?_;refine JK ?_;refine B8 ?_;refine JL (Rp (v:=.tuple #[FY q,.bool true]) rfl (run_typeAssert_hasB Ar.get Cb _ _)) ?_;refine J4 ?_;refine mc (fun hc=>?_) (fun hc=>?_);rotate_left
   ·cases hc
   refine J8 ?_;refine Af (sY rfl rfl (kN q k at_ R)) rfl ?_;refine IE ?_;refine JV ?_;refine mc (fun hc=>?_) (fun hc=>?_)
   ·cases hc
   refine J3 ?_;exact BW false trivial Cc EB rfl
  cases hg1
 dsimp only [cond_false]at*;refine J6 ?_;refine DA 15 rfl (fun hg1=>?_) (fun hg1=>?_)
 ·refine Ho ?_;refine JL XM ?_;refine Jt ?_;refine mc (fun hc=>?_) (fun hc=>?_);rotate_left
  ·cases hc
  refine B8 ?_;exact mr [6] rfl rfl Ba
 cases hg1
theorem eO(q k:Nat)(at_:Value)(R:HP):Fn Tryz.prog B 80 [FY q,D9 k] (EU q k at_*R) (fun v H'=>v=.bool true∧H'=EU q k at_*R):=by
 refine mI Tryz.func80 ?_;refine J9 ?_;refine I7 ?_;refine J1 ?_;refine DA 8 rfl (fun hg1=>?_) (fun hg1=>?_)
 ·cases hg1
 refine ML ?_;refine I7 ?_;refine Iz ?_;refine mc (fun hc=>?_) (fun hc=>?_)
 ·cases hc
 refine J5 ?_;refine JL On ?_;refine JL Yi ?_;refine J8 ?_;refine mE rfl (sW q k at_ R) ?_;refine E9 ?_;exact mr [4] rfl rfl Ba
theorem Zp(hG:B.cell? ⟨0,0,none⟩=some (C3 106))(k:Nat)(H:HP):Fn Tryz.prog B 44 [D9 k] H (fun v H'=>v=.tuple #[.int .i64 k,.int .i64 (-1)]∧H'=H):=by
 refine Sb ?_;rintro _ _ ⟨b4,rfl,rfl⟩;refine J4 ?_;refine M7 ?_;rintro _ _ ⟨b5,rfl,rfl⟩;refine J7 ?_;refine I7 ?_;refine J3 ?_;refine mc (fun hc=>?_) (fun hc=>?_)
 ·cases hc
 refine J3 ?_;refine JL HM ?_;refine OO ?_;refine mE rfl (fG hG k _ b4 _) ?_;refine Hw ?_;refine DA 13 rfl (fun hg1=>?_) (fun hg1=>?_)
 ·cases hg1
 refine Ha ?_;refine Ha ?_;refine HW ?_;refine JL JC ?_;refine J3 ?_;refine IP ?_;refine J3 ?_;refine JL HM ?_;refine OO ?_;refine mE rfl (kQ hG k _ b5 _) ?_;refine Hw ?_;refine DA 34 rfl (fun hg2=>?_) (fun hg2=>?_)
 ·refine JG hg2 ?_;refine J1 ?_;refine JG hg2 ?_;refine Dm ?_;refine JG hg2 ?_;refine JL HM ?_;refine JG hg2 ?_;refine mE rfl (qO k _) ?_;refine JR ?_;refine JL MX ?_;refine J3 ?_;refine mc (fun hc=>?_) (fun hc=>?_);rotate_left
  ·cases hc
  refine J2 ?_;refine Dm ?_;refine J7 ?_;exact mR [2,3] H rfl rfl Ba
 cases hg2
theorem Ud(hG:B.cell? ⟨0,0,none⟩=some (C3 106))(k:Nat)(H:HP):Fn Tryz.prog B 40 [D9 k] H (fun v H'=>v=.int .i64 k∧H'=H):=by
 refine Ts ?_;refine mE rfl (Zp hG k _) ?_;refine JR ?_;refine Gc ?_;exact K4
theorem W3(hG:B.cell? ⟨0,0,none⟩=some (C3 106))(q k:Nat)(at_:Value)(R:HP):Fn Tryz.prog B 44 [FY q] (EU q k at_*R) (fun v H'=>v=.tuple #[.int .i64 k,at_]∧H'=EU q k at_*R):=by
 refine Sb ?_;rintro _ _ ⟨b4,rfl,rfl⟩;refine J4 ?_;refine M7 ?_;rintro _ _ ⟨b5,rfl,rfl⟩;refine J7 ?_;refine I7 ?_;refine J3 ?_;refine mc (fun hc=>?_) (fun hc=>?_)
 ·cases hc
 refine J3 ?_;refine JL HM ?_;refine OO ?_;refine mE rfl (kY hG q _ b4 _) ?_;refine Hw ?_;refine DA 13 rfl (fun hg1=>?_) (fun hg1=>?_)
 ·refine ML ?_;refine Dm ?_;refine Ho ?_;refine Dm ?_;refine Hi ?_;refine JL HM ?_;refine BF (H':=EU q k at_*(HP.AA b4 0 [ptr q 0]*(HP.AA b5 0 [.int .i64 0]*R))) Cf ?_;refine Hi ?_;refine mE rfl (eO q k at_ _) ?_;refine JR ?_;refine JL JS ?_;refine J3 ?_;refine mc (fun hc=>?_) (fun hc=>?_);rotate_left
  ·cases hc
  refine J1 ?_;refine mA 10 10 ?_;refine Jd 0 ?_;refine K0 ?_;refine I1 ?_;refine Jn 5 ?_;refine Jf 6 ?_;refine Jd 7 ?_;refine Ja 8 ?_;refine Ja 9 ?_;refine Kf ?_;exact mR [2,3] (EU q k at_*R) rfl rfl Ba
 cases hg1
theorem jC(hG:B.cell? ⟨0,0,none⟩=some (C3 106))(q k:Nat)(at_:Value)(R:HP):Fn Tryz.prog B 40 [FY q] (EU q k at_*R) (fun v H'=>v=.int .i64 k∧H'=EU q k at_*R):=by
 refine Ts ?_;refine mE rfl (W3 hG q k at_ _) ?_;refine JR ?_;refine Gc ?_;exact K4
theorem nO(hG:B.cell? ⟨0,0,none⟩=some (C3 106))(ks:List UInt8)(hk:ks.length=16)(first:Bool)(xs:List UInt8)(p:Option Addr)(b o c:Nat)(H:HP)(hs:Sl p b o xs.length c)(hr:Ab B H b o xs)(hx:xs.length<90000000)(hop:Bx ks (Ag first) xs=none):
  Fn Tryz.prog B 55 [.agg (AD ks).toArray,.bool first,.slice p xs.length c] H (fun v H'=>v=.tuple #[u64 0,.slice none 0 0,.int .i64 4]∧H'=H):=by
 refine mI Tryz.func55 ?_;refine J2 ?_;refine KA ?_;rintro _ _ ⟨b3,rfl,rfl⟩;refine XA ?_;rintro _ _ ⟨p14,b14,o14,c14,s14,rfl,hs14,hc14,rfl⟩;rw [D!]at hs14 hc14⊢;refine J5 ?_;refine JL Nt ?_;refine J2 ?_;refine mE rfl (uK ks hk first xs p14 b14 o14 c14 _ hs14 inferInstance hx hop) ?_;refine JR ?_;refine DH ?_;refine mE rfl (Mu p14 b14 o14 c14 xs.length xs s14 _ hs14 rfl Ca) ?_;rintro _ _ ⟨ys,hys,rfl⟩;refine J7 ?_;refine mE rfl (Ud hG 4 _) ?_;refine IE ?_;exact mR [6,7,8] H rfl rfl Ba
theorem Z1(ks:List UInt8)(hk:ks.length=16)(first:Bool)(xs:List UInt8)(n:UInt64)(ys:List UInt8)(p:Option Addr)(b o c:Nat)(H:HP)(hs:Sl p b o xs.length c)(hr:Ab B H b o xs)(hx:xs.length<90000000)(hop:Bx ks (Ag first) xs=some (n,ys)):
  Fn Tryz.prog B 55 [.agg (AD ks).toArray,.bool first,.slice p xs.length c] H (fun v H'=>∃sv,v=.tuple #[u64 n,sv,.int .i64 0]∧((ys=[]∧sv=.slice none 0 0∧H'=H)∨(ys≠ []∧B1 H ys sv H'))):=by
 refine mI Tryz.func55 ?_;refine J2 ?_;refine KA ?_;rintro _ _ ⟨b3,rfl,rfl⟩;refine XA ?_;rintro _ _ ⟨p14,b14,o14,c14,s14,rfl,hs14,hc14,rfl⟩;rw [D!]at hs14 hc14⊢;refine J5 ?_;refine JL Nt ?_;refine J2 ?_;refine mE rfl (mH ks hk first xs n ys p14 b14 o14 c14 _ hs14 inferInstance hx hop) ?_;rintro _ H0 ⟨sv,rfl,hsv⟩
 obtain⟨H19,hH19,hsw⟩:∃H19:HP,H0=H19*(AB b14 o14 xs s14*(HP.AA b3 0 (AD ks)*H))∧((ys=[]∧sv=.slice none 0 0∧H19=HP.BC)∨(ys≠ []∧B1 HP.BC ys sv H19)):=by
  rcases hsv with⟨h1,h2,h3⟩|⟨h1,p',b',o',c',s',h2,h3,h4,h5⟩
  ·exact⟨HP.BC,(by rw [h3,HP.BH]),.inl ⟨h1,h2,rfl⟩⟩
  ·exact⟨AB b' o' ys s',h5,.inr ⟨h1,p',b',o',c',s',h2,h3,h4,(HP.Fz _).symm⟩⟩
 subst hH19;refine DH ?_;refine BF (HP.CF _ _ _) ?_;refine mE rfl (Mu p14 b14 o14 c14 xs.length xs s14 _ hs14 rfl Ca) ?_;rintro _ _ ⟨zs,hzs,rfl⟩;refine J7 ?_;refine mE rfl (X2 _) ?_;refine IE ?_
 exact mR [6,7,8] (H19*H) rfl rfl ⟨_,rfl,by
   rcases hsw with⟨h1,h2,h3⟩|⟨h1,p',b',o',c',s',h2,h3,h4,h5⟩
   ·exact .inl ⟨h1,h2,by rw [h3,HP.BH]⟩
   ·exact .inr ⟨h1,p',b',o',c',s',h2,h3,h4,by rw [h5,HP.Fz]⟩⟩
end
end Go.Proofs.YtgfdlpcdjklcoaaGreatDoor
