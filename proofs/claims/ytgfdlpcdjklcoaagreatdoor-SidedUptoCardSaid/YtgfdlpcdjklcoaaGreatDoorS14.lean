/- A part of this proof: steps of the program, plain facts; no condition. -/
import Derived.Test.YtgfdlpcdjklcoaaGreatDoorS13
namespace Go.Proofs.YtgfdlpcdjklcoaaGreatDoor
open Go Go.RowKit
open _root_.List renaming getElem?_eq_getElem→a_,getD_eq_getElem?_getD→c_,length_append→d_,length_map→e_,length_singleton→g',getElem?_map→h_,append_nil→i_,map_append→j_,getD→j'
open _root_.Nat renaming reduceEqDiff→b_,zero_le→f_
open _root_.Go.Value renaming bool→g_,slice→k_
set_option linter.unusedVariables false
set_option maxRecDepth 20000
set_option linter.unusedSimpArgs false
section
variable{B:World}
abbrev rr(rb:Nat)(p:Option Addr)(c:Nat)(xs:List UInt8)(a:Nat)(bad:Bool):HP:=HP.AA rb 0 [.slice p xs.length c,iN a,.bool bad]
section
variable{P:Program}{n:Nat}{E:A6}{H:HP}{d:Option Tmp}{T T' ty:TypeId}{pos:String}{af:Array Edge}{g:Option (Nat×Bool)}{x y:Operand}
theorem cn{i j:Nat}(hx:ev E x=some (.int .u8 i))(hy:ev E y=some (.int .u8 j))(h:j≤i∧i<256):
  Aa P B n ⟨d,.binOp .sub T x y T',ty,pos,af,g⟩ E H (.int .u8 (i-j:Nat)):=
 Dx hx hy fun w=>by
  simp only [binOp,Op.intArith];rw [show((i-j:Nat):Int)=(i:Int)-j by omega,IntWalk.u8_in _ Cg];rfl
end
theorem Kh(rb:Nat)(p:Option Addr)(b o c:Nat)(xs:List UInt8)(a:Nat)(bad:Bool)(R:HP)(hs:Sl p b o xs.length c)(hr:AW B R b o xs)(hx:xs.length<10000000000)(ha:a≤xs.length):
  Fn Tryz.prog B 155 [ptr rb 0] (rr rb p c xs a bad*R) (fun v H'=>∃n a' bad',v=uN n∧H'=rr rb p c xs a' bad'*R∧((B1 xs a=some (n,a')∧bad'=bad)∨(B1 xs a=none∧n=0∧a'=a∧bad'=true))):=by
 refine mI Tryz.func155 ?_;have hzc:=Sj xs a;have hb:=(xs.getD a 0).toNat_lt;refine Jc ?_;refine J4 ?_;refine mA 10 10 ?_;refine KA ?_;refine JT 8 rfl Dm ?_;refine JT 9 rfl MD ?_;refine EU ?_;refine mC (fun hge=>?_) (fun hlt=>?_)
 ·refine J5 ?_;refine OO ?_;refine E5 ?_;refine Fz ?_;refine J4 ?_;exact kH
 refine J3 ?_;refine mA 13 13 ?_;refine KA ?_;refine JT 8 rfl nH ?_;refine JT 9 rfl XL ?_;refine JT 10 rfl (QT (k:=.u8) (i:=(xs.getD a 0).toNat) (j:=64) rfl rfl Cg) ?_;refine JT 11 rfl (Gt (i:=(xs.getD a 0).toNat%64) rfl (HK Cg)) ?_;refine Ja 12 ?_;refine HN ?_;refine JL ND ?_;refine J4 ?_;refine mA 12 12 ?_;refine KA ?_;refine JT 8 rfl nH ?_;refine JT 9 rfl XL ?_;refine JT 10 rfl (uT (i:=(xs.getD a 0).toNat) (j:=64) rfl rfl ⟨Cg,Cg⟩) ?_;refine Ja 11 ?_;refine C3 ?_;refine BL (fun j:Nat=>[(0,ptr rb 0),(3,uN (Gy xs a 0)),(4,iN (2^j)),(5,.int .u8 ((xs.getD a 0).toNat/64-j:Nat))]) (fun _=>rr rb p c xs a bad*R) (fun j=>j≤(xs.getD a 0).toNat/64) (fun j=>(xs.getD a 0).toNat/64-j) 0 C9 B4 rfl ?_;rintro j hj;dsimp only at hj⊢
 have hp2:2^j≤8:=by
  rcases(by omega:j=0∨j=1∨j=2∨j=3)with rfl|rfl|rfl|rfl<;>simp
 refine J4 ?_;refine JL Ld ?_;refine J2 ?_;refine mC (fun hgt=>?_) (fun hgt=>?_)
 ·refine J6 ?_;refine JL (oS (j:=2) rfl rfl Cg) ?_;refine J6 ?_;refine JL (cn (j:=1) rfl rfl ⟨Cg,Cg⟩) ?_;refine J2 ?_;exact At (j+1) Wm (by show(xs.getD a 0).toNat/64-(j+1)<(xs.getD a 0).toNat/64-j;omega) (.cons rfl (.cons rfl (.cons (congrArg (fun z=>some (iN z)) (by rw [Nat.pow_succ])) (.cons (congrArg (fun z=>some (Value.int .u8 ((z:Nat):Int))) Cg) .nil)))) rfl
 obtain rfl:j=(xs.getD a 0).toNat/64:=by omega
 refine OI (E':=[(0,ptr rb 0),(3,uN (Gy xs a 0)),(4,iN (CW xs a))]) CS ?_;refine J7 ?_;refine mA 12 12 ?_;refine JF ?_;refine JT 5 rfl Kd ?_;refine OY ?_;refine JT 10 rfl Dm ?_;refine JT 11 rfl HU ?_;refine EU ?_;refine mC (fun hbig=>?_) (fun hfit=>?_)
 ·refine J5 ?_;refine OO ?_;refine E5 ?_;refine Fz ?_;refine J4 ?_;exact kH
 refine J5 ?_;refine JL ND ?_;refine J3 ?_;refine BL (fun j:Nat=>[(0,ptr rb 0),(3,uN (Gy xs a j)),(4,iN (CW xs a)),(6,iN (j+1))]) (fun _=>rr rb p c xs a bad*R) (fun j=>j≤CW xs a-1) (fun j=>CW xs a-1-j) 0 C9 B4 rfl ?_;rintro j hj;dsimp only at hj⊢;have hnl:=UQ xs a j
 have hnl2:Gy xs a j<72057594037927936∨CW xs a-1≤j:=by
  rcases(by omega:CW xs a-1≤j∨j=0∨j=1∨j=2∨j=3∨j=4∨j=5∨j=6)with h|rfl|rfl|rfl|rfl|rfl|rfl|rfl
  ·exact .inr h
  all_goals (left;simp only [Nat.reducePow,Nat.reduceMul]at hnl;omega)
 have hb2:=Rp xs (a+j+1);have hb3:(xs.getD (a+j+1) 0).toNat<256:=hb2;refine J8 ?_;refine mC (fun hl6=>?_) (fun hl6=>?_)
 ·refine J4 ?_;refine mA 17 17 ?_;refine Fr ?_;refine JT 1 rfl (Z3 (j:=256) rfl rfl Cg) ?_;refine Jm 2 ?_;refine Jn 3 ?_;refine HB ?_;refine OY ?_;refine Jm 10 ?_;refine JT 11 rfl Kd ?_;refine JT 12 rfl (FT (i:=a+(j+1)) (b:=b) (o:=o) (q:=o+(a+j+1)*1) rfl rfl hs Cg Cg) ?_;refine JT 13 rfl (P5 (i:=a+j+1) (xs:=xs) rfl inferInstance Cg) ?_;refine JT 14 rfl (Gt (i:=(xs.getD (a+j+1) 0).toNat) rfl (HK Cg)) ?_;refine JT 15 rfl IU ?_;refine Ja 16 ?_;refine M6 ?_;refine JL (Kb (i:=j+1) (j:=1) rfl rfl Cg) ?_;refine J2 ?_;exact At (j+1) Wm (by show CW xs a-1-(j+1)<CW xs a-1-j;omega) B4 rfl
 obtain rfl:j=CW xs a-1:=by omega
 refine BV ?_;refine DY ?_;refine FL ?_;exact mr [2] rfl rfl ⟨_,_,bad,rfl,rfl,.inl ⟨by unfold B1;exact if_pos Cg,rfl⟩⟩
theorem Ho{xs:List UInt8}{a n a':Nat}{bad bad':Bool}(ha:a≤xs.length)(h:(B1 xs a=some (n,a')∧bad'=bad)∨(B1 xs a=none∧n=0∧a'=a∧bad'=true)):n≤4611686018427387903∧a'≤xs.length∧a≤a':=by
 rcases h with⟨h,_⟩|⟨_,rfl,rfl,_⟩
 ·have:=Dy h;omega
 ·omega
theorem A! (rb:Nat)(p:Option Addr)(b o c:Nat)(xs:List UInt8)(a:Nat)(bad:Bool)(R:HP)(hs:Sl p b o xs.length c)(hr:AW B R b o xs)(hx:xs.length<10000000000)(ha:a≤xs.length):
  Fn Tryz.prog B 154 [ptr rb 0] (rr rb p c xs a bad*R) (fun v H'=>∃n a' bad',v=iN n∧H'=rr rb p c xs a' bad'*R∧((GW xs a=some (n,a')∧bad'=bad)∨(GW xs a=none∧bad'=true∧a'≤xs.length))):=by
 refine mI Tryz.func154 ?_;refine LH ?_;refine kU ?_;rintro _ _ ⟨n5,a5,bad5,rfl,rfl,h5⟩;have g5:=Ho Cg h5;refine J7 ?_;refine JL (L9 (j:=4) rfl rfl) ?_;refine J2 ?_;refine mC (fun hbig=>?_) (fun hbig=>?_)
 ·refine J5 ?_;refine OO ?_;refine E5 ?_;refine Kz ?_
  exact mr [2] rfl rfl ⟨0,a5,true,rfl,rfl,.inr ⟨by
    rcases h5 with⟨h,_⟩|⟨h,rfl,_,_⟩
    ·unfold GW;rw [h];exact if_neg Cg
    ·omega,rfl,Cg⟩⟩
 refine J5 ?_;refine JL I2 ?_;refine J4 ?_
 exact mr [2] rfl rfl ⟨n5,a5,bad5,rfl,rfl,by
   rcases h5 with⟨h,rfl⟩|⟨h,rfl,rfl,rfl⟩
   ·exact .inl ⟨by unfold GW;rw [h];exact if_pos Cg,rfl⟩
   ·exact .inr ⟨by unfold GW;rw [h],rfl,Cg⟩⟩
theorem tx(rb:Nat)(p:Option Addr)(b o c:Nat)(xs:List UInt8)(a:Nat)(bad:Bool)(R:HP)(hs:Sl p b o xs.length c)(hr:AW B R b o xs)(hx:xs.length<10000000000)(ha:a≤xs.length):
  Fn Tryz.prog B 156 [ptr rb 0] (rr rb p c xs a bad*R) (fun v H'=>∃d a' bad',v=.string d∧H'=rr rb p c xs a' bad'*R∧a'≤xs.length∧((bad=false∧∃l,Gf xs a=some (l,a')∧d=BI l∧bad'=false)∨(bad'=true∧(bad=true∨Gf xs a=none)))∧d.size<100000000000):=by
 refine mI Tryz.func156 ?_;refine J8 ?_;refine kU ?_;rintro _ _ ⟨n6,a6,bad6,rfl,rfl,h6⟩;have g6:=Ho Cg h6;refine J5 ?_;refine mA 19 19 ?_;refine JF ?_;refine GF 11 rfl (fun hg1=>?_) (fun hg1=>?_)
 ·refine VW ?_;refine JN 16 rfl hg1 ?_;refine JN 17 rfl hg1 ?_;refine JT 18 rfl L8 ?_;refine Jw ?_;refine Lx ?_;refine J9 ?_
  exact mr [2] rfl rfl ⟨⟨#[]⟩,a6,true,rfl,rfl,Cg,.inr ⟨rfl,by
    rcases h6 with⟨h,rfl⟩|⟨h,rfl,rfl,rfl⟩
    ·exact .inl hg1
    ·exact .inr (by unfold Gf;rw [h])⟩,(by decide:0<100000000000)⟩
 refine aZ ?_;refine JY 9 rfl hg1 D7 ?_;refine JY 10 rfl hg1 Dm ?_;refine JY 11 rfl hg1 A4 ?_;refine JY 12 rfl hg1 CP ?_;refine JY 13 rfl hg1 A7 ?_;refine JY 14 rfl hg1 D7 ?_;refine JY 15 rfl hg1 Kq ?_;refine JY 16 rfl hg1 EM ?_;refine JY 17 rfl hg1 HU ?_;refine JT 18 rfl Ju ?_;refine EU ?_;refine mC (fun hbig=>?_) (fun hbig=>?_)
 ·refine Lx ?_;refine J9 ?_
  exact mr [2] rfl rfl ⟨⟨#[]⟩,a6,true,rfl,rfl,Cg,.inr ⟨rfl,by
    rcases h6 with⟨h,rfl⟩|⟨h,rfl,rfl,rfl⟩
    ·exact .inr (by unfold Gf;rw [h];exact if_neg Cg)
    ·exact .inr (by unfold Gf;rw [h])⟩,(by decide:0<100000000000)⟩
 refine J3 ?_
 have hl6:((xs.drop a6).take n6).length=n6:=by simp;omega
 refine iU ?_;refine Jm 12 ?_;refine JT 13 rfl I2 ?_;refine JT 14 rfl Kd ?_;refine JT 15 rfl (Nx (l:=a6) (h:=a6+n6) (k':=n6) rfl rfl rfl Cp Cg) ?_;refine JT 16 rfl (Hq (xs:=(xs.drop a6).take n6) (b:=b) (o:=o+a6*1) (by rw [hl6];rfl) Zm inferInstance) ?_;refine Ja 17 ?_;refine JD ?_;refine Mc ?_;refine JL I2 ?_;refine EP ?_
 exact mr [2] rfl rfl ⟨_,a6+n6,bad6,rfl,rfl,Cg,(by
   rcases h6 with⟨h,rfl⟩|⟨h,rfl,rfl,rfl⟩
   ·exact .inl ⟨hg1,_,by unfold Gf;rw [h];exact if_pos Cg,rfl,hg1⟩
   ·cases hg1),by rw [K4,hl6];omega⟩
def HR(xs:List UInt8)(rs:List AP)(m a:Nat):Option (List AP×Nat):=match Ee xs m (rg rs (rs.length-1)).lo a with
 |some (rs',a4)=>some (rs++rs',a4)
 |none=>none
theorem xO{xs:List UInt8}{a hi a1 n a2 size a3:Nat}(e1:B1 xs a=some (hi,a1))(e2:B1 xs a1=some (n,a2))(e3:B1 xs a2=some (size,a3))(hle:size≤hi):
  CG xs a=HR xs [⟨hi-size,hi⟩] n a3:=by
 simp only [CG,e1,e2,e3,HR];have hl:(rg [(⟨hi-size,hi⟩:AP)] ([(⟨hi-size,hi⟩:AP)].length-1)).lo=hi-size:=rfl;rw [if_pos hle,hl];cases Ee xs n (hi-size) a3<;>rfl
theorem wL{xs:List UInt8}{rs:List AP}{a:Nat}:HR xs rs 0 a=some (rs,a):=by simp [HR,Ee]
theorem M3{xs:List UInt8}{rs:List AP}{m a:Nat}(e:B1 xs a=none):HR xs rs (m+1) a=none:=by simp only [HR,Ee,e]
theorem T_{xs:List UInt8}{rs:List AP}{m a gap a1:Nat}(e:B1 xs a=some (gap,a1))(e2:B1 xs a1=none):HR xs rs (m+1) a=none:=by simp only [HR,Ee,e,e2]
theorem MN{xs:List UInt8}{rs:List AP}{m a gap a1 size a2 lo:Nat}(hlo:(rg rs (rs.length-1)).lo=lo)(e:B1 xs a=some (gap,a1))(e2:B1 xs a1=some (size,a2))(h:¬(2≤lo∧gap+2≤lo∧size+gap+2≤lo)):HR xs rs (m+1) a=none:=by
 simp only [HR,Ee,e,e2,hlo];rw [if_neg h]
theorem rp{xs:List UInt8}{rs:List AP}{m a gap a1 size a2 lo:Nat}(hlo:(rg rs (rs.length-1)).lo=lo)(e:B1 xs a=some (gap,a1))(e2:B1 xs a1=some (size,a2))(h:2≤lo∧gap+2≤lo∧size+gap+2≤lo):
  HR xs rs (m+1) a=HR xs (rs++[(⟨lo-2-gap-size,lo-2-gap⟩:AP)]) m a2:=by
 have hl:(rg (rs++[(⟨lo-2-gap-size,lo-2-gap⟩:AP)]) ((rs++[(⟨lo-2-gap-size,lo-2-gap⟩:AP)]).length-1))=⟨lo-2-gap-size,lo-2-gap⟩:=by
  simp [rg,j']
 simp only [HR,Ee,e,e2,hlo,hl];rw [if_pos h]
 cases Ee xs m (lo-2-gap-size) a2 with
 |none=>rfl
 |some w=>obtain⟨rs',a4⟩:=w;simp
theorem ec(rb:Nat)(p:Option Addr)(b o c:Nat)(xs:List UInt8)(a:Nat)(R:HP)(hs:Sl p b o xs.length c)(hr:AW B R b o xs)(hx:xs.length<10000000000)(ha:a≤xs.length):
  Fn Tryz.prog B 153 [ptr rb 0] (rr rb p c xs a false*R) (fun v H'=>∃(q:Option Addr) (b' o' c':Nat) (s':List Value) (rs:List AP) (a':Nat) (bad':Bool),v=.slice q rs.length c'∧Sl q b' o' rs.length c'∧rs.length*2+s'.length=c'*2∧H'=AD b' o' rs s'*(rr rb p c xs a' bad'*R)∧a'≤xs.length∧((CG xs a=some (rs,a')∧bad'=false)∨(CG xs a=none∧bad'=true))∧rs.length<10000000000):=by
 refine mI Tryz.func153 ?_;refine J8 ?_;refine mE rfl (Kh rb p b o c xs a false _ hs inferInstance hx Cg) ?_;rintro _ _ ⟨n11,a11,bad11,rfl,rfl,h11⟩;have g11:=Ho Cg h11;refine J6 ?_;refine mE rfl (Kh rb p b o c xs a11 bad11 _ hs inferInstance hx Cg) ?_;rintro _ _ ⟨n13,a13,bad13,rfl,rfl,h13⟩;have g13:=Ho Cg h13;refine J6 ?_;refine mE rfl (Kh rb p b o c xs a13 bad13 _ hs inferInstance hx Cg) ?_;rintro _ _ ⟨n15,a15,bad15,rfl,rfl,h15⟩;have g15:=Ho Cg h15;refine J9 ?_;refine DY ?_;refine J1 ?_;refine CU 20 rfl (fun hg1=>?_) (fun hg1=>?_)
 ·have hbd:=hg1;refine Fh ?_;refine GO ?_;refine Gv ?_;refine Lx ?_;refine J9 ?_
  first
  |(exact mR [2] (AD z.2.2.2.2.1 z.2.2.2.2.2.1 z.1 z.2.2.2.2.2.2.2*(rr rb p c xs z.2.2.1 false*R)) rfl rfl ⟨z.2.2.2.1,z.2.2.2.2.1,z.2.2.2.2.2.1,z.2.2.2.2.2.2.1,z.2.2.2.2.2.2.2,z.1,z.2.2.1,false,rfl,hzs,hzc,rfl,hza,.inl ⟨MW,rfl⟩,Cg⟩)
  |exact mR [2] (rr rb p c xs a49 true*R) rfl rfl ⟨none,0,0,0,[],[],a49,true,rfl,DG,rfl,Cx,Cg,.inr ⟨by
    rw [hinv,show n13-z.2.1=(n13-(z.2.1+1))+1 by omega]
    rcases h47 with⟨e47,rfl⟩|⟨e47,_,_,rfl⟩
    ·rcases h49 with⟨e49,rfl⟩|⟨e49,_,_,rfl⟩
     ·first|exact MN rfl e47 e49 Cg|cases hb2
     ·exact Mt
    ·exact M3 e47,rfl⟩,(by decide:0<10000000000)⟩
  |exact mR [2] (rr rb p c xs a15 true*R) rfl rfl ⟨none,0,0,0,[],[],a15,true,rfl,DG,rfl,Cx,Cg,.inr ⟨by
    rcases h11 with⟨e11,rfl⟩|⟨e11,_,_,rfl⟩
    ·rcases h13 with⟨e13,rfl⟩|⟨e13,_,_,rfl⟩
     ·rcases h15 with⟨e15,rfl⟩|⟨e15,_,_,rfl⟩
      ·simp only [CG,e11,e13,e15]
       first|(exact if_neg Cg)|cases hbd
      ·simp only [CG,e11,e13,e15]
     ·simp only [CG,e11,e13]
    ·simp only [CG,e11],rfl⟩,(by decide:0<10000000000)⟩
 have hbd:=hg1;refine Im ?_;refine K1 ?_;refine JK ?_;refine mC (fun hbig=>?_) (fun hbig=>?_)
 ·refine Lx ?_;refine J9 ?_
  first
  |(exact mR [2] (AD z.2.2.2.2.1 z.2.2.2.2.2.1 z.1 z.2.2.2.2.2.2.2*(rr rb p c xs z.2.2.1 false*R)) rfl rfl ⟨z.2.2.2.1,z.2.2.2.2.1,z.2.2.2.2.2.1,z.2.2.2.2.2.2.1,z.2.2.2.2.2.2.2,z.1,z.2.2.1,false,rfl,hzs,hzc,rfl,hza,.inl ⟨MW,rfl⟩,Cg⟩)
  |exact mR [2] (rr rb p c xs a49 true*R) rfl rfl ⟨none,0,0,0,[],[],a49,true,rfl,DG,rfl,Cx,Cg,.inr ⟨by
    rw [hinv,show n13-z.2.1=(n13-(z.2.1+1))+1 by omega]
    rcases h47 with⟨e47,rfl⟩|⟨e47,_,_,rfl⟩
    ·rcases h49 with⟨e49,rfl⟩|⟨e49,_,_,rfl⟩
     ·first|exact MN rfl e47 e49 Cg|cases hb2
     ·exact Mt
    ·exact M3 e47,rfl⟩,(by decide:0<10000000000)⟩
  |exact mR [2] (rr rb p c xs a15 true*R) rfl rfl ⟨none,0,0,0,[],[],a15,true,rfl,DG,rfl,Cx,Cg,.inr ⟨by
    rcases h11 with⟨e11,rfl⟩|⟨e11,_,_,rfl⟩
    ·rcases h13 with⟨e13,rfl⟩|⟨e13,_,_,rfl⟩
     ·rcases h15 with⟨e15,rfl⟩|⟨e15,_,_,rfl⟩
      ·simp only [CG,e11,e13,e15]
       first|(exact if_neg Cg)|cases hbd
      ·simp only [CG,e11,e13,e15]
     ·simp only [CG,e11,e13]
    ·simp only [CG,e11],rfl⟩,(by decide:0<10000000000)⟩
 obtain⟨e11,rfl⟩:B1 xs a=some (n11,a11)∧bad11=false:=by
  rcases h11 with h|h
  ·exact h
  ·obtain⟨_,_,_,rfl⟩:=h;rcases h13 with⟨_,rfl⟩|⟨_,_,_,rfl⟩<;>rcases h15 with⟨_,rfl⟩|⟨_,_,_,rfl⟩<;>cases hbd
 obtain⟨e13,rfl⟩:B1 xs a11=some (n13,a13)∧bad13=false:=by
  rcases h13 with h|h
  ·exact h
  ·obtain⟨_,_,_,rfl⟩:=h;rcases h15 with⟨_,rfl⟩|⟨_,_,_,rfl⟩<;>cases hbd
 obtain⟨e15,rfl⟩:B1 xs a13=some (n15,a15)∧bad15=false:=by
  rcases h15 with h|h
  ·exact h
  ·obtain⟨_,_,_,rfl⟩:=h;cases hbd
 have f15:=Dy e15;refine J6 ?_;refine JL Ez ?_;refine J1 ?_;refine JL (E7 (cs:=[uN (n11-n15),uN n11]) rfl rfl rfl Ck) ?_;refine AV (E4 (cs:=[uN (n11-n15),uN n11]) rfl Cr rfl rfl) rfl ?_;rintro _ _ ⟨b33,rfl,rfl⟩;refine J6 ?_;refine Fz ?_;refine J3 ?_;refine Aq (H':=AD b33 0 [(⟨n11-n15,n11⟩:AP)] []*(rr rb p c xs a15 false*R)) (by show _=HP.AA b33 0 (AE [(⟨n11-n15,n11⟩:AP)]++[])*_;rw [i_];rfl) ?_
 refine BL (α:=List AP×Nat×Nat×Option Addr×Nat×Nat×Nat×List Value) (fun z=>[(0,ptr rb 0),(4,uN n13),(6,.slice z.2.2.2.1 z.1.length z.2.2.2.2.2.2.1),(7,uN z.2.1)]) (fun z=>AD z.2.2.2.2.1 z.2.2.2.2.2.1 z.1 z.2.2.2.2.2.2.2*(rr rb p c xs z.2.2.1 false*R)) (fun z=>z.2.1≤n13∧z.2.2.1≤xs.length∧0<z.1.length∧z.1.length≤z.2.2.1∧Sl z.2.2.2.1 z.2.2.2.2.1 z.2.2.2.2.2.1 z.1.length z.2.2.2.2.2.2.1∧z.1.length*2+z.2.2.2.2.2.2.2.length=z.2.2.2.2.2.2.1*2∧(rg z.1 (z.1.length-1)).lo≤4611686018427387903∧CG xs a=HR xs z.1 (n13-z.2.1) z.2.2.1) (fun z=>n13-z.2.1) ([(⟨n11-n15,n11⟩:AP)],0,a15,some ⟨b33,0,none⟩,b33,0,1,[]) ⟨f_ _,by show a15≤_;omega,Cl,by show 1≤a15;omega,Bc,rfl,by show n11-n15≤_;omega,xO e11 e13 e15 Cg⟩ B4 rfl ?_
 rintro z ⟨hin,hza,hz0,hzl,hzs,hzc,hlo,hinv⟩;dsimp only;refine J7 ?_;refine CJ 37 rfl (fun hg2=>?_) (fun hg2=>?_)
 ·have hlt:=hg2;refine SL ?_;refine DY ?_;refine UJ ?_;refine mc (fun hc=>?_) (fun hc=>?_);rotate_left
  ·cases hc
  refine J7 ?_;refine Aw (H':=rr rb p c xs z.2.2.1 false*(AD z.2.2.2.2.1 z.2.2.2.2.2.1 z.1 z.2.2.2.2.2.2.2*R)) (HP.C8 _ _ _) ?_;refine mE rfl (Kh rb p b o c xs z.2.2.1 false _ hs inferInstance hx Cg) ?_;rintro _ _ ⟨n47,a47,bad47,rfl,rfl,h47⟩;have g47:=Ho Cg h47;refine J6 ?_;refine Zk ?_;rintro _ _ ⟨n49,a49,bad49,rfl,rfl,h49⟩;have g49:=Ho Cg h49;refine J8 ?_;refine JL LZ ?_;refine JL (Bm (b:=z.2.2.2.2.1) (o:=z.2.2.2.2.2.1) rfl rfl hzs Cg) ?_;refine J1 ?_;refine JL (H6 (i:=z.1.length-1) (xs:=z.1) rfl inferInstance Cg) ?_;refine J9 ?_;refine DY ?_;refine J1 ?_;refine CU 61 rfl (fun hg3=>?_) (fun hg3=>?_)
  ·have hb2:=hg3;refine Gr ?_;refine Gr ?_;refine JL Jz ?_;refine Hc ?_;refine Ga ?_;refine Ig ?_;refine Hc ?_;refine Oa ?_;refine Ig ?_;refine Gv ?_;refine Lx ?_;refine FL ?_
   first
   |(exact mR [2] (AD z.2.2.2.2.1 z.2.2.2.2.2.1 z.1 z.2.2.2.2.2.2.2*(rr rb p c xs z.2.2.1 false*R)) rfl rfl ⟨z.2.2.2.1,z.2.2.2.2.1,z.2.2.2.2.2.1,z.2.2.2.2.2.2.1,z.2.2.2.2.2.2.2,z.1,z.2.2.1,false,rfl,hzs,hzc,rfl,hza,.inl ⟨MW,rfl⟩,Cg⟩)
   |exact mR [2] (rr rb p c xs a49 true*R) rfl rfl ⟨none,0,0,0,[],[],a49,true,rfl,DG,rfl,Cx,Cg,.inr ⟨by
     rw [hinv,show n13-z.2.1=(n13-(z.2.1+1))+1 by omega]
     rcases h47 with⟨e47,rfl⟩|⟨e47,_,_,rfl⟩
     ·rcases h49 with⟨e49,rfl⟩|⟨e49,_,_,rfl⟩
      ·first|exact MN rfl e47 e49 Cg|cases hb2
      ·exact Mt
     ·exact M3 e47,rfl⟩,(by decide:0<10000000000)⟩
   |exact mR [2] (rr rb p c xs a15 true*R) rfl rfl ⟨none,0,0,0,[],[],a15,true,rfl,DG,rfl,Cx,Cg,.inr ⟨by
     rcases h11 with⟨e11,rfl⟩|⟨e11,_,_,rfl⟩
     ·rcases h13 with⟨e13,rfl⟩|⟨e13,_,_,rfl⟩
      ·rcases h15 with⟨e15,rfl⟩|⟨e15,_,_,rfl⟩
       ·simp only [CG,e11,e13,e15]
        first|(exact if_neg Cg)|cases hbd
       ·simp only [CG,e11,e13,e15]
      ·simp only [CG,e11,e13]
     ·simp only [CG,e11],rfl⟩,(by decide:0<10000000000)⟩
  have hb2:=hg3;refine L5 ?_;refine G2 ?_;refine JL Oy ?_;refine JL IV ?_;refine J1 ?_;refine CJ 65 rfl (fun hg4=>?_) (fun hg4=>?_)
  ·have hl2:=hg4;refine XJ ?_;refine JH T4 ?_;refine JL Io ?_;refine Hc ?_;refine Oa ?_;refine Ig ?_;refine Gv ?_;refine Lx ?_;refine FL ?_
   first
   |(exact mR [2] (AD z.2.2.2.2.1 z.2.2.2.2.2.1 z.1 z.2.2.2.2.2.2.2*(rr rb p c xs z.2.2.1 false*R)) rfl rfl ⟨z.2.2.2.1,z.2.2.2.2.1,z.2.2.2.2.2.1,z.2.2.2.2.2.2.1,z.2.2.2.2.2.2.2,z.1,z.2.2.1,false,rfl,hzs,hzc,rfl,hza,.inl ⟨MW,rfl⟩,Cg⟩)
   |exact mR [2] (rr rb p c xs a49 true*R) rfl rfl ⟨none,0,0,0,[],[],a49,true,rfl,DG,rfl,Cx,Cg,.inr ⟨by
     rw [hinv,show n13-z.2.1=(n13-(z.2.1+1))+1 by omega]
     rcases h47 with⟨e47,rfl⟩|⟨e47,_,_,rfl⟩
     ·rcases h49 with⟨e49,rfl⟩|⟨e49,_,_,rfl⟩
      ·first|exact MN rfl e47 e49 Cg|cases hb2
      ·exact Mt
     ·exact M3 e47,rfl⟩,(by decide:0<10000000000)⟩
   |exact mR [2] (rr rb p c xs a15 true*R) rfl rfl ⟨none,0,0,0,[],[],a15,true,rfl,DG,rfl,Cx,Cg,.inr ⟨by
     rcases h11 with⟨e11,rfl⟩|⟨e11,_,_,rfl⟩
     ·rcases h13 with⟨e13,rfl⟩|⟨e13,_,_,rfl⟩
      ·rcases h15 with⟨e15,rfl⟩|⟨e15,_,_,rfl⟩
       ·simp only [CG,e11,e13,e15]
        first|(exact if_neg Cg)|cases hbd
       ·simp only [CG,e11,e13,e15]
      ·simp only [CG,e11,e13]
     ·simp only [CG,e11],rfl⟩,(by decide:0<10000000000)⟩
  have hl2:=hg4;refine Rv ?_;refine J1 ?_;refine JG F4 ?_;refine JL Lc ?_;refine JG F4 ?_;refine K1 ?_;refine JL IE ?_;refine J1 ?_;refine CJ 71 rfl (fun hg5=>?_) (fun hg5=>?_)
  ·have hg3:=hg5;refine lZ ?_;refine lZ ?_;refine JL OA ?_;refine Gv ?_;refine Lx ?_;refine FL ?_
   first
   |(exact mR [2] (AD z.2.2.2.2.1 z.2.2.2.2.2.1 z.1 z.2.2.2.2.2.2.2*(rr rb p c xs z.2.2.1 false*R)) rfl rfl ⟨z.2.2.2.1,z.2.2.2.2.1,z.2.2.2.2.2.1,z.2.2.2.2.2.2.1,z.2.2.2.2.2.2.2,z.1,z.2.2.1,false,rfl,hzs,hzc,rfl,hza,.inl ⟨MW,rfl⟩,Cg⟩)
   |exact mR [2] (rr rb p c xs a49 true*R) rfl rfl ⟨none,0,0,0,[],[],a49,true,rfl,DG,rfl,Cx,Cg,.inr ⟨by
     rw [hinv,show n13-z.2.1=(n13-(z.2.1+1))+1 by omega]
     rcases h47 with⟨e47,rfl⟩|⟨e47,_,_,rfl⟩
     ·rcases h49 with⟨e49,rfl⟩|⟨e49,_,_,rfl⟩
      ·first|exact MN rfl e47 e49 Cg|cases hb2
      ·exact Mt
     ·exact M3 e47,rfl⟩,(by decide:0<10000000000)⟩
   |exact mR [2] (rr rb p c xs a15 true*R) rfl rfl ⟨none,0,0,0,[],[],a15,true,rfl,DG,rfl,Cx,Cg,.inr ⟨by
     rcases h11 with⟨e11,rfl⟩|⟨e11,_,_,rfl⟩
     ·rcases h13 with⟨e13,rfl⟩|⟨e13,_,_,rfl⟩
      ·rcases h15 with⟨e15,rfl⟩|⟨e15,_,_,rfl⟩
       ·simp only [CG,e11,e13,e15]
        first|(exact if_neg Cg)|cases hbd
       ·simp only [CG,e11,e13,e15]
      ·simp only [CG,e11,e13]
     ·simp only [CG,e11],rfl⟩,(by decide:0<10000000000)⟩
  have hg3:=hg5;refine JG F5 ?_;refine J1 ?_;refine JG F5 ?_;refine J1 ?_;refine JG F5 ?_;refine JL Lc ?_;refine JG F5 ?_;refine J1 ?_;refine JG F5 ?_;refine JL Ez ?_;refine JG F5 ?_;refine K1 ?_;refine JL L6 ?_;refine J2 ?_;refine mC (fun hb78=>?_) (fun hb78=>?_)
  ·refine Lx ?_;refine FL ?_
   first
   |(exact mR [2] (AD z.2.2.2.2.1 z.2.2.2.2.2.1 z.1 z.2.2.2.2.2.2.2*(rr rb p c xs z.2.2.1 false*R)) rfl rfl ⟨z.2.2.2.1,z.2.2.2.2.1,z.2.2.2.2.2.1,z.2.2.2.2.2.2.1,z.2.2.2.2.2.2.2,z.1,z.2.2.1,false,rfl,hzs,hzc,rfl,hza,.inl ⟨MW,rfl⟩,Cg⟩)
   |exact mR [2] (rr rb p c xs a49 true*R) rfl rfl ⟨none,0,0,0,[],[],a49,true,rfl,DG,rfl,Cx,Cg,.inr ⟨by
     rw [hinv,show n13-z.2.1=(n13-(z.2.1+1))+1 by omega]
     rcases h47 with⟨e47,rfl⟩|⟨e47,_,_,rfl⟩
     ·rcases h49 with⟨e49,rfl⟩|⟨e49,_,_,rfl⟩
      ·first|exact MN rfl e47 e49 Cg|cases hb2
      ·exact Mt
     ·exact M3 e47,rfl⟩,(by decide:0<10000000000)⟩
   |exact mR [2] (rr rb p c xs a15 true*R) rfl rfl ⟨none,0,0,0,[],[],a15,true,rfl,DG,rfl,Cx,Cg,.inr ⟨by
     rcases h11 with⟨e11,rfl⟩|⟨e11,_,_,rfl⟩
     ·rcases h13 with⟨e13,rfl⟩|⟨e13,_,_,rfl⟩
      ·rcases h15 with⟨e15,rfl⟩|⟨e15,_,_,rfl⟩
       ·simp only [CG,e11,e13,e15]
        first|(exact if_neg Cg)|cases hbd
       ·simp only [CG,e11,e13,e15]
      ·simp only [CG,e11,e13]
     ·simp only [CG,e11],rfl⟩,(by decide:0<10000000000)⟩
  obtain⟨e47,rfl⟩:B1 xs z.2.2.1=some (n47,a47)∧bad47=false:=by
   rcases h47 with h|h
   ·exact h
   ·obtain⟨_,_,_,rfl⟩:=h;rcases h49 with⟨_,rfl⟩|⟨_,_,_,rfl⟩<;>cases hb2
  obtain⟨e49,rfl⟩:B1 xs a47=some (n49,a49)∧bad49=false:=by
   rcases h49 with h|h
   ·exact h
   ·obtain⟨_,_,_,rfl⟩:=h;cases hb2
  have f49:=Dy e49;have f47:=Dy e47;refine J5 ?_;refine JL Lc ?_;refine J1 ?_;refine JL Ez ?_;refine J1 ?_;refine JL Ez ?_;refine J1 ?_;refine JL Lc ?_;refine J1 ?_;refine JL Ez ?_;refine JL (E7 (cs:=AB.Am (⟨(rg z.1 (z.1.length-1)).lo-2-n47-n49,(rg z.1 (z.1.length-1)).lo-2-n47⟩:AP)) rfl rfl rfl (AB.one (⟨(rg z.1 (z.1.length-1)).lo-2-n47-n49,(rg z.1 (z.1.length-1)).lo-2-n47⟩:AP))) ?_;refine AV (E4 (cs:=AB.Am (⟨(rg z.1 (z.1.length-1)).lo-2-n47-n49,(rg z.1 (z.1.length-1)).lo-2-n47⟩:AP)) rfl Cr rfl rfl) rfl ?_;rintro _ _ ⟨b94,rfl,rfl⟩;refine Aw (H':=AD z.2.2.2.2.1 z.2.2.2.2.2.1 z.1 z.2.2.2.2.2.2.2*(HP.AA b94 0 (AE [(⟨(rg z.1 (z.1.length-1)).lo-2-n47-n49,(rg z.1 (z.1.length-1)).lo-2-n47⟩:AP)])*(rr rb p c xs a49 false*R))) (by show HP.AA b94 0 (AE [(⟨(rg z.1 (z.1.length-1)).lo-2-n47-n49,(rg z.1 (z.1.length-1)).lo-2-n47⟩:AP)])*_=_;ac_rfl) ?_;refine AV (Bf (ys:=[(⟨(rg z.1 (z.1.length-1)).lo-2-n47-n49,(rg z.1 (z.1.length-1)).lo-2-n47⟩:AP)]) (bb:=b94) (oo:=0) (cc:=1) rfl hzs hzc rfl Bc inferInstance rfl Cs Cg) rfl ?_;rintro _ _ ⟨p95,b95,o95,c95,s95,rfl,hs95,hc95,rfl⟩;refine J6 ?_
  refine JL ON ?_;refine J2 ?_;refine Au (AD b95 o95 (z.1++[(⟨(rg z.1 (z.1.length-1)).lo-2-n47-n49,(rg z.1 (z.1.length-1)).lo-2-n47⟩:AP)]) s95*(rr rb p c xs a49 false*R)) (At (z.1++[(⟨(rg z.1 (z.1.length-1)).lo-2-n47-n49,(rg z.1 (z.1.length-1)).lo-2-n47⟩:AP)],z.2.1+1,a49,p95,b95,o95,c95,s95) ⟨by show z.2.1+1≤n13;omega,by show a49≤_;omega,by show 0<(z.1++[_]).length;simp,by show(z.1++[_]).length≤a49;rw [d_,g'];omega,hs95,hc95,by show(rg (z.1++[(⟨(rg z.1 (z.1.length-1)).lo-2-n47-n49,(rg z.1 (z.1.length-1)).lo-2-n47⟩:AP)]) ((z.1++[(⟨(rg z.1 (z.1.length-1)).lo-2-n47-n49,(rg z.1 (z.1.length-1)).lo-2-n47⟩:AP)]).length-1)).lo≤_;simp [rg,j'];simp [rg,j']at hlo;omega,by rw [hinv,show n13-z.2.1=(n13-(z.2.1+1))+1 by omega];exact rp rfl e47 e49 Cg⟩ (by show n13-(z.2.1+1)<n13-z.2.1;omega) B4 rfl)
 have hlt:=hg2;refine Mg ?_;refine R7 ?_;refine J2 ?_;refine JJ ?_;refine CR ?_
 first
 |(exact mR [2] (AD z.2.2.2.2.1 z.2.2.2.2.2.1 z.1 z.2.2.2.2.2.2.2*(rr rb p c xs z.2.2.1 false*R)) rfl rfl ⟨z.2.2.2.1,z.2.2.2.2.1,z.2.2.2.2.2.1,z.2.2.2.2.2.2.1,z.2.2.2.2.2.2.2,z.1,z.2.2.1,false,rfl,hzs,hzc,rfl,hza,.inl ⟨MW,rfl⟩,Cg⟩)
 |exact mR [2] (rr rb p c xs a49 true*R) rfl rfl ⟨none,0,0,0,[],[],a49,true,rfl,DG,rfl,Cx,Cg,.inr ⟨by
   rw [hinv,show n13-z.2.1=(n13-(z.2.1+1))+1 by omega]
   rcases h47 with⟨e47,rfl⟩|⟨e47,_,_,rfl⟩
   ·rcases h49 with⟨e49,rfl⟩|⟨e49,_,_,rfl⟩
    ·first|exact MN rfl e47 e49 Cg|cases hb2
    ·exact Mt
   ·exact M3 e47,rfl⟩,(by decide:0<10000000000)⟩
 |exact mR [2] (rr rb p c xs a15 true*R) rfl rfl ⟨none,0,0,0,[],[],a15,true,rfl,DG,rfl,Cx,Cg,.inr ⟨by
   rcases h11 with⟨e11,rfl⟩|⟨e11,_,_,rfl⟩
   ·rcases h13 with⟨e13,rfl⟩|⟨e13,_,_,rfl⟩
    ·rcases h15 with⟨e15,rfl⟩|⟨e15,_,_,rfl⟩
     ·simp only [CG,e11,e13,e15]
      first|(exact if_neg Cg)|cases hbd
     ·simp only [CG,e11,e13,e15]
    ·simp only [CG,e11,e13]
   ·simp only [CG,e11],rfl⟩,(by decide:0<10000000000)⟩
def jN(xs:List UInt8)(a:Nat)(r:RF)(a':Nat)(bad':Bool):Prop:=
 r.ok∧r.own∧r.f.ranges.length<10000000000∧r.f.data.size<100000000000∧a'≤xs.length∧a+1≤xs.length∧((B5 xs (Db (xs.getD a 0)) (decide (xs.getD a 0=9)) (a+1)=some (r.f,a')∧bad'=false)∨(B5 xs (Db (xs.getD a 0)) (decide (xs.getD a 0=9)) (a+1)=none∧bad'=true))
theorem M8{xs:List UInt8}{a:Nat}{r:RF}{a':Nat}{bad':Bool}(h1:r.f.ranges=[])(h2:r.c=0)(h3:r.s=[])(h4:r.f.data.size<100000000000)(h5:a'≤xs.length)(h6:a+1≤xs.length)
  (h:(B5 xs (Db (xs.getD a 0)) (decide (xs.getD a 0=9)) (a+1)=some (r.f,a')∧bad'=false)∨(B5 xs (Db (xs.getD a 0)) (decide (xs.getD a 0=9)) (a+1)=none∧bad'=true)):jN xs a r a' bad':=
 ⟨(Ei h1 h2 h3).1,(Ei h1 h2 h3).2.1,by rw [h1];exact(by decide:0<10000000000),h4,h5,h6,h⟩
theorem t9{xs:List UInt8}{a:Nat}(h:(xs.getD a 0).toNat=9):decide (xs.getD a 0=9)=true:=decide_eq_true (UInt8.toNat_inj.1 h)
theorem Pf{xs:List UInt8}{a:Nat}(h:(xs.getD a 0).toNat≠9):decide (xs.getD a 0=9)=false:=decide_eq_false (fun e=>h TO)
theorem fw(rb:Nat)(p:Option Addr)(b o c:Nat)(xs:List UInt8)(a:Nat)(R:HP)(hs:Sl p b o xs.length c)(hr:AW B R b o xs)(hx:xs.length<10000000000)(hlt:a<xs.length):
  Fn Tryz.prog B 104 [ptr rb 0] (rr rb p c xs a false*R) (fun v H'=>∃r a' bad',v=.agg (AI r).toArray∧r.ok∧r.own∧FU r∧a'≤xs.length∧H'=rr rb p c xs a' bad'*(Dn r*R)∧((EJ xs a=some (r.f,a')∧bad'=false)∨(EJ xs a=none∧bad'=true))):=by
 refine mI Tryz.func104 ?_;refine J2 ?_;refine AV O9 rfl ?_;rintro _ _ ⟨b2,rfl,rfl⟩;refine J3 ?_;refine mA 11 11 ?_;refine KA ?_;refine JT 8 rfl (Bm (i:=a) (b:=b) (o:=o) rfl rfl hs hlt) ?_;refine JT 9 rfl (P5 (i:=a) (xs:=xs) rfl inferInstance hlt) ?_;refine Ja 10 ?_;refine JD ?_;refine LP ?_;refine Ki ?_;refine J7 ?_;refine JL (E7 (cs:=AI (r0 0 false)) rfl rfl rfl (AB.one (r0 0 false))) ?_;refine AV O9 rfl ?_;rintro _ _ ⟨b4,rfl,rfl⟩;refine Bv (GS (cs:=AI (r0 0 false)) rfl rfl Cn (AB.one (r0 0 false))) ?_;refine E5 ?_;refine Aq (H':=rr rb p c xs (a+1) false*(HP.AA b4 0 (AI (r0 0 false))*(HP.AA b2 0 [.int .i64 0,.int .i64 0,.int .u64 0,.int .u64 0,.bool false,.string ⟨#[]⟩,.slice none 0 0]*R))) (by unfold rr;ac_rfl) ?_;refine J7 ?_;refine JL (CV (i:=(xs.getD a 0).toNat) (j:=0) rfl rfl) ?_;refine J3 ?_
 refine BO (α:=RF×Nat×Bool) (fun z=>[(0,ptr rb 0),(2,ptr b2 0),(3,u8 (xs.getD a 0)),(4,ptr b4 0)]) (fun z=>rr rb p c xs z.2.1 z.2.2*(HP.AA b4 0 (AI z.1)*(Dn z.1*(HP.AA b2 0 [.int .i64 0,.int .i64 0,.int .u64 0,.int .u64 0,.bool false,.string ⟨#[]⟩,.slice none 0 0]*R)))) (fun z=>jN xs a z.1 z.2.1 z.2.2) ?_ ?_
 ·refine mC (fun h0=>?_) (fun h0=>?_)
  ·refine J2 ?_;refine Bv (EG (v:=.int .i64 1) rfl rfl rfl trivial) ?_;refine Fq ?_
   have hkd:Db (xs.getD a 0)=1:=by rw [KE];rw [if_pos h0]
   have h9:=Pf (xs:=xs) (a:=a) Cg;exact AU (r0 1 false,a+1,false) (M8 rfl rfl rfl Pu XE Cg (.inl ⟨by rw [hkd,h9];rfl,rfl⟩)) B4 (by show _=rr rb p c xs _ _*(HP.AA b4 0 (AI (r0 1 false))*(Dn (r0 1 false)*(HP.AA b2 0 [.int .i64 0,.int .i64 0,.int .u64 0,.int .u64 0,.bool false,.string ⟨#[]⟩,.slice none 0 0]*R)));rw [(Ei (r:=(r0 1 false)) rfl rfl rfl).2.2,HP.BA])
  refine J2 ?_;refine JL (CV (i:=(xs.getD a 0).toNat) (j:=1) rfl rfl) ?_;refine J3 ?_;refine mC (fun h1=>?_) (fun h1=>?_)
  ·refine J2 ?_;refine Bv (EG (v:=.int .i64 2) rfl rfl rfl trivial) ?_;refine Fq ?_
   have hkd:Db (xs.getD a 0)=2:=by rw [KE];rw [if_neg h0,if_pos h1]
   have h9:=Pf (xs:=xs) (a:=a) Cg;exact AU (r0 2 false,a+1,false) (M8 rfl rfl rfl Pu XE Cg (.inl ⟨by rw [hkd,h9];rfl,rfl⟩)) B4 (by show _=rr rb p c xs _ _*(HP.AA b4 0 (AI (r0 2 false))*(Dn (r0 2 false)*(HP.AA b2 0 [.int .i64 0,.int .i64 0,.int .u64 0,.int .u64 0,.bool false,.string ⟨#[]⟩,.slice none 0 0]*R)));rw [(Ei (r:=(r0 2 false)) rfl rfl rfl).2.2,HP.BA])
  refine J2 ?_;refine JL (CV (i:=(xs.getD a 0).toNat) (j:=2) rfl rfl) ?_;refine J3 ?_;refine mC (fun h2=>?_) (fun h2=>?_)
  ·refine J3 ?_;refine Bv (EG (v:=.int .i64 3) rfl rfl rfl trivial) ?_;refine E5 ?_;refine mE rfl (ec rb p b o c xs (a+1) _ hs inferInstance hx Cg) ?_;rintro _ _ ⟨q38,b38,o38,c38,s38,rs38,a38,bad38,rfl,hs38,hc38,rfl,ha38,h38,hl38⟩;refine J3 ?_
   have hkd:Db (xs.getD a 0)=3:=by rw [KE];rw [if_neg h0,if_neg h1,if_pos h2]
   have h9:=Pf (xs:=xs) (a:=a) Cg
   have hlen:rs38.length<10000000000:=by
    rcases h38 with⟨e,_⟩|⟨_,_⟩
    ·have:=V0 e;omega
    ·exact hl38
   exact AU (⟨⟨3,0,0,0,false,⟨#[]⟩,rs38⟩,q38,b38,o38,c38,s38⟩,a38,bad38) ⟨hs38,hc38,hlen,(by decide:0<100000000000),ha38,Cg,by
    rw [hkd,h9]
    rcases h38 with⟨e,rfl⟩|⟨e,rfl⟩
    ·exact .inl ⟨kQ e,rfl⟩
    ·exact .inr ⟨MC e,rfl⟩⟩ B4 (by show _=rr rb p c xs a38 bad38*(HP.AA b4 0 _*(AD b38 o38 rs38 s38*(HP.AA b2 0 [.int .i64 0,.int .i64 0,.int .u64 0,.int .u64 0,.bool false,.string ⟨#[]⟩,.slice none 0 0]*R)));ac_rfl)
  refine J2 ?_;refine JL (CV (i:=(xs.getD a 0).toNat) (j:=4) rfl rfl) ?_;refine J3 ?_;refine mC (fun h4=>?_) (fun h4=>?_)
  ·refine J3 ?_;refine Bv (EG (v:=.int .i64 4) rfl rfl rfl trivial) ?_;refine JE ?_;refine bL ?_;rintro _ _ ⟨n44,a44,bad44,rfl,rfl,h44⟩
   have g44:a44≤xs.length:=by
    rcases h44 with⟨h,_⟩|⟨_,_,h⟩
    ·exact(NB h).2.2
    ·exact h
   refine J7 ?_;refine mE rfl (Kh rb p b o c xs a44 bad44 _ hs inferInstance hx Cg) ?_;rintro _ _ ⟨n47,a47,bad47,rfl,rfl,h47⟩;have g47:=Ho Cg h47;refine J6 ?_;refine Zk ?_;rintro _ _ ⟨n50,a50,bad50,rfl,rfl,h50⟩;have g50:=Ho Cg h50;refine J3 ?_
   have hkd:Db (xs.getD a 0)=4:=by rw [KE];rw [if_neg h0,if_neg h1,if_neg h2,if_pos h4]
   have h9:=Pf (xs:=xs) (a:=a) Cg
   exact AU ((⟨⟨4,(n44:Nat),n50,n47,false,⟨#[]⟩,[]⟩,none,0,0,0,[]⟩:RF),a50,bad50) (M8 rfl rfl rfl Pu (by show a50≤_;omega) Cg (by
    rw [hkd,h9]
    rcases h44 with⟨e1,rfl⟩|⟨e1,rfl,_⟩
    ·rcases h47 with⟨e2,rfl⟩|⟨e2,_,_,rfl⟩
     ·rcases h50 with⟨e3,rfl⟩|⟨e3,_,_,rfl⟩
      ·exact .inl ⟨SS,rfl⟩
      ·exact .inr ⟨SS,rfl⟩
     ·rcases h50 with⟨e3,rfl⟩|⟨e3,_,_,rfl⟩<;>exact .inr ⟨by simp only [B5,b_,if_false,if_true,e1,e2],rfl⟩
    ·rcases h47 with⟨e2,rfl⟩|⟨e2,_,_,rfl⟩<;>rcases h50 with⟨e3,rfl⟩|⟨e3,_,_,rfl⟩<;>exact .inr ⟨Xc,rfl⟩)) B4 (by show _=rr rb p c xs _ _*(HP.AA b4 0 (AI (⟨⟨4,(n44:Nat),n50,n47,false,⟨#[]⟩,[]⟩,none,0,0,0,[]⟩:RF))*(Dn (⟨⟨4,(n44:Nat),n50,n47,false,⟨#[]⟩,[]⟩,none,0,0,0,[]⟩:RF)*(HP.AA b2 0 [.int .i64 0,.int .i64 0,.int .u64 0,.int .u64 0,.bool false,.string ⟨#[]⟩,.slice none 0 0]*R)));rw [(Ei (r:=(⟨⟨4,(n44:Nat),n50,n47,false,⟨#[]⟩,[]⟩,none,0,0,0,[]⟩:RF)) rfl rfl rfl).2.2,HP.BA])
  refine J3 ?_;refine JL (CV (i:=(xs.getD a 0).toNat) (j:=8) rfl rfl) ?_;refine J3 ?_;refine mC (fun h8=>?_) (fun h8=>?_)
  ·refine J2 ?_;refine mC (fun h8=>?_) (fun h8=>?_)
   ·refine cO ?_;rintro _ _ ⟨n60,a60,bad60,rfl,rfl,h60⟩
    have g60:a60≤xs.length:=by
     rcases h60 with⟨h,_⟩|⟨_,_,h⟩
     ·exact(NB h).2.2
     ·exact h
    refine J7 ?_;refine mQ ?_;rintro _ _ ⟨n63,a63,bad63,rfl,rfl,h63⟩;have g63:=Ho Cg h63;refine J6 ?_;refine nW ?_;rintro _ _ ⟨d66,a66,bad66,rfl,rfl,ha66,h66,hd66⟩;refine J3 ?_
    have hkd:Db (xs.getD a 0)=5:=by rw [KE];rw [if_neg h0,if_neg h1,if_neg h2,if_neg h4,if_pos Cg]
    have h9:decide (xs.getD a 0=9)=decide ((xs.getD a 0).toNat=9):=decide_eq_decide.2 ⟨fun h=>by rw [h];rfl,fun h=>UInt8.toNat_inj.1 h⟩
    exact AU ((⟨⟨5,(n60:Nat),n63,0,decide ((xs.getD a 0).toNat=9),d66,[]⟩,none,0,0,0,[]⟩:RF),a66,bad66) (M8 rfl rfl rfl hd66 ha66 Cg (by
     rw [hkd,h9]
     rcases h66 with⟨hb,l,e3,rfl,rfl⟩|⟨rfl,h66⟩
     ·rcases h63 with⟨e2,rfl⟩|⟨e2,_,_,rfl⟩
      ·rcases h60 with⟨e1,rfl⟩|⟨e1,rfl,_⟩
       ·exact .inl ⟨SS,rfl⟩
       ·cases hb
      ·cases hb
     ·refine .inr ⟨?_,rfl⟩
      rcases h60 with⟨e1,rfl⟩|⟨e1,rfl,_⟩
      ·rcases h63 with⟨e2,rfl⟩|⟨e2,_,_,rfl⟩
       ·rcases h66 with h|e3
        ·cases h
        ·simp only [B5,b_,if_false,if_true,e1,e2,e3]
       ·simp only [B5,b_,if_false,if_true,e1,e2]
      ·simp only [B5,b_,if_false,if_true,e1])) B4 fV
   refine J2 ?_;refine JL sQ ?_;refine J3 ?_;refine mC (fun h28=>?_) (fun h28=>?_)
   ·refine J3 ?_;refine Bv YV ?_;refine E5 ?_;refine jX ?_;rintro _ _ ⟨n72,a72,bad72,rfl,rfl,h72⟩;have g72:=Ho Cg h72;refine J3 ?_;exfalso;omega
   refine J4 ?_;refine OO ?_;refine Fq ?_;exfalso;omega
  refine J1 ?_;refine JL jA ?_;refine J3 ?_;refine mC (fun h8=>?_) (fun h8=>?_)
  ·refine cO ?_;rintro _ _ ⟨n60,a60,bad60,rfl,rfl,h60⟩
   have g60:a60≤xs.length:=by
    rcases h60 with⟨h,_⟩|⟨_,_,h⟩
    ·exact(NB h).2.2
    ·exact h
   refine J7 ?_;refine mQ ?_;rintro _ _ ⟨n63,a63,bad63,rfl,rfl,h63⟩;have g63:=Ho Cg h63;refine J6 ?_;refine nW ?_;rintro _ _ ⟨d66,a66,bad66,rfl,rfl,ha66,h66,hd66⟩;refine J3 ?_
   have hkd:Db (xs.getD a 0)=5:=by rw [KE];rw [if_neg h0,if_neg h1,if_neg h2,if_neg h4,if_pos Cg]
   have h9:decide (xs.getD a 0=9)=decide ((xs.getD a 0).toNat=9):=decide_eq_decide.2 ⟨fun h=>by rw [h];rfl,fun h=>UInt8.toNat_inj.1 h⟩
   exact AU ((⟨⟨5,(n60:Nat),n63,0,decide ((xs.getD a 0).toNat=9),d66,[]⟩,none,0,0,0,[]⟩:RF),a66,bad66) (M8 rfl rfl rfl hd66 ha66 Cg (by
    rw [hkd,h9]
    rcases h66 with⟨hb,l,e3,rfl,rfl⟩|⟨rfl,h66⟩
    ·rcases h63 with⟨e2,rfl⟩|⟨e2,_,_,rfl⟩
     ·rcases h60 with⟨e1,rfl⟩|⟨e1,rfl,_⟩
      ·exact .inl ⟨SS,rfl⟩
      ·cases hb
     ·cases hb
    ·refine .inr ⟨?_,rfl⟩
     rcases h60 with⟨e1,rfl⟩|⟨e1,rfl,_⟩
     ·rcases h63 with⟨e2,rfl⟩|⟨e2,_,_,rfl⟩
      ·rcases h66 with h|e3
       ·cases h
       ·simp only [B5,b_,if_false,if_true,e1,e2,e3]
      ·simp only [B5,b_,if_false,if_true,e1,e2]
     ·simp only [B5,b_,if_false,if_true,e1])) B4 fV
  refine J2 ?_;refine JL sQ ?_;refine J3 ?_;refine mC (fun h28=>?_) (fun h28=>?_)
  ·refine J3 ?_;refine Bv YV ?_;refine E5 ?_;refine jX ?_;rintro _ _ ⟨n72,a72,bad72,rfl,rfl,h72⟩;have g72:=Ho Cg h72;refine J3 ?_
   have hkd:Db (xs.getD a 0)=6:=by rw [KE];rw [if_neg h0,if_neg h1,if_neg h2,if_neg h4,if_neg Cg,if_pos h28]
   have h9:=Pf (xs:=xs) (a:=a) Cg
   exact AU ((⟨⟨6,0,0,n72,false,⟨#[]⟩,[]⟩,none,0,0,0,[]⟩:RF),a72,bad72) (M8 rfl rfl rfl Pu (by show a72≤_;omega) Cg (by
    rw [hkd,h9]
    rcases h72 with⟨e1,rfl⟩|⟨e1,_,_,rfl⟩
    ·exact .inl ⟨Xc,rfl⟩
    ·exact .inr ⟨Xc,rfl⟩)) B4 (by show _=rr rb p c xs _ _*(HP.AA b4 0 (AI (⟨⟨6,0,0,n72,false,⟨#[]⟩,[]⟩,none,0,0,0,[]⟩:RF))*(Dn (⟨⟨6,0,0,n72,false,⟨#[]⟩,[]⟩,none,0,0,0,[]⟩:RF)*(HP.AA b2 0 [.int .i64 0,.int .i64 0,.int .u64 0,.int .u64 0,.bool false,.string ⟨#[]⟩,.slice none 0 0]*R)));rw [(Ei (r:=(⟨⟨6,0,0,n72,false,⟨#[]⟩,[]⟩,none,0,0,0,[]⟩:RF)) rfl rfl rfl).2.2,HP.BA])
  refine J4 ?_;refine OO ?_;refine Fq ?_
  have hkd:Db (xs.getD a 0)=0:=by rw [KE];rw [if_neg h0,if_neg h1,if_neg h2,if_neg h4,if_neg Cg,if_neg h28]
  exact AU (r0 0 false,a+1,true) (M8 rfl rfl rfl Pu XE Cg (.inr ⟨by rw [hkd];rfl,rfl⟩)) B4 (by show _=rr rb p c xs _ _*(HP.AA b4 0 (AI (r0 0 false))*(Dn (r0 0 false)*(HP.AA b2 0 [.int .i64 0,.int .i64 0,.int .u64 0,.int .u64 0,.bool false,.string ⟨#[]⟩,.slice none 0 0]*R)));rw [(Ei (r:=(r0 0 false)) rfl rfl rfl).2.2,HP.BA])
 ·rintro⟨r,a1,bad1⟩ ⟨hok,hown,hrl,hds,ha1,ha2,hfr⟩;dsimp only at hok hown hrl hds ha1 hfr⊢
  have hmod:FU r:=⟨hok,hrl,hds⟩
  have hro:AW B (Dn r) r.b r.o r.f.ranges:=(inferInstance:AW B (AD r.b r.o r.f.ranges r.s) r.b r.o r.f.ranges)
  refine Ke ?_;refine Eb ?_;refine BO (α:=Bool) (fun z=>[(0,ptr rb 0),(2,ptr b2 0),(3,u8 (xs.getD a 0)),(4,ptr b4 0)]) (fun z=>rr rb p c xs a1 z*(HP.AA b4 0 (AI r)*(Dn r*(HP.AA b2 0 [.int .i64 0,.int .i64 0,.int .u64 0,.int .u64 0,.bool false,.string ⟨#[]⟩,.slice none 0 0]*R)))) (fun z=>(EJ xs a=some (r.f,a1)∧z=false)∨(EJ xs a=none∧z=true)) ?_ ?_
  ·refine mc (fun hnb=>?_) (fun hnb=>?_)
   ·refine J3 ?_;refine mE rfl (eU r _ hmod inferInstance) ?_;refine Ha ?_;refine Eb ?_;refine Bv (EG (v:=.bool (!decide (Bh r.f))) rfl rfl rfl trivial) ?_;refine Fq ?_
    refine AU (!decide (Bh r.f)) (by
     rcases hfr with⟨e,rfl⟩|⟨e,rfl⟩
     ·by_cases ho:Bh r.f
      ·exact .inl ⟨by unfold EJ;rw [e];exact if_pos ho,by rw [decide_eq_true ho];rfl⟩
      ·exact .inr ⟨by unfold EJ;rw [e];exact if_neg ho,by rw [decide_eq_false ho];rfl⟩
     ·cases hnb) B4 rfl
   refine J1 ?_
   refine AU bad1 (by
    rcases hfr with⟨e,rfl⟩|⟨e,rfl⟩
    ·cases hnb
    ·exact .inr ⟨by unfold EJ;rw [e],rfl⟩) B4 rfl
  ·intro z hz;refine J4 ?_;refine Aw (H':=HP.AA b2 0 [.int .i64 0,.int .i64 0,.int .u64 0,.int .u64 0,.bool false,.string ⟨#[]⟩,.slice none 0 0]*(rr rb p c xs a1 z*(HP.AA b4 0 (AI r)*(Dn r*R)))) Cm ?_;refine Bv gY ?_;refine JR ?_;refine jL (HP.AA b2 0 (AI r)*(rr rb p c xs a1 z*(Dn r*R))) ?_;refine J3 ?_;exact NA (rr rb p c xs a1 z*(Dn r*R)) rfl (Iv (NI rfl rfl) KX) ⟨r,a1,z,rfl,hok,hown,hmod,ha1,rfl,hz⟩
end
section
variable{B:World}
theorem oe{rs:List RF}{r:RF}(h:∀r∈rs,r.ok∧r.own)(h1:r.ok)(h2:r.own):∀r'∈rs++[r],r'.ok∧r'.own:=by
 intro r' hr';rcases List.mem_append.1 hr' with h'|h'
 ·exact h r' h'
 ·rw [List.mem_singleton.1 h'];exact⟨h1,h2⟩
theorem Sn(p:Option Addr)(b o c:Nat)(xs:List UInt8)(R:HP)(hs:Sl p b o xs.length c)(hr:AW B R b o xs)(hx:xs.length<10000000000):
  Fn Tryz.prog B 63 [.slice p xs.length c] R (fun v H'=>∃(q:Option Addr) (b' o' c':Nat) (s':List Value) (rs:List RF) (fs:List AZ) (k:Nat) (at_:Value),v=.tuple #[.slice q fs.length c',.int .i64 k,at_]∧Sl q b' o' fs.length c'∧fs.length*7+s'.length=c'*7∧rs.map RF.f=fs∧(∀r∈rs,r.ok∧r.own)∧H'=AD b' o' rs s'*(A0 rs*R)∧((∃e,DZ xs=.error e∧fs=[]∧q=none∧c'=0∧k=5∧at_=iN e)∨(DZ xs=.ok fs∧k=0∧at_=.int .i64 (-1)))):=by
 refine mI Tryz.func63 ?_;refine L1 ?_;refine FC ?_;refine J5 ?_;refine JL (E7 (cs:=[.slice p xs.length c,iN 0,.bool false]) rfl rfl rfl Ck) ?_;refine AV (DP (l:=[.slice p xs.length c,iN 0,.bool false]) rfl rfl) rfl ?_;rintro _ _ ⟨b11,rfl,rfl⟩;refine J8 ?_;refine Kr ?_;refine mC (fun h0=>?_) (fun h0=>?_)
 ·refine J3 ?_;refine JL Nt ?_;refine Kz ?_;exact mR [2,3,4] R rfl rfl ⟨none,0,0,0,[],[],[],5,iN 0,rfl,DG,rfl,rfl,(fun r h=>by simp at h),XO,.inl ⟨_,(by rw [DZ,if_pos V7]),rfl,rfl,rfl,rfl,rfl⟩⟩
 refine J9 ?_
 refine BL (α:=RZ) (fun z=>[(0,.slice p xs.length c),(5,ptr b11 0),(6,.slice z.p z.rs.length z.c)]) (fun z=>rr b11 p c xs z.a false*(AD z.b z.o z.rs z.s*(A0 z.rs*R))) (fun z=>z.a≤xs.length∧z.rs.length≤z.a∧Sl z.p z.b z.o z.rs.length z.c∧z.rs.length*7+z.s.length=z.c*7∧(∀r∈z.rs,r.ok∧r.own)∧DZ xs=LS (z.rs.map (·.f)) (Ew xs z.a)) (fun z=>xs.length-z.a) ⟨0,0,none,0,0,0,[],[]⟩ ⟨f_ _,f_ _,DG,rfl,(fun r h=>by simp at h),bU⟩ CS (by show _=rr b11 p c xs 0 false*(AD 0 0 ([]:List RF) []*(A0 []*R));rw [FI,Qj,HP.BA,HP.BA]) ?_
 rintro z ⟨hza,hzl,hzs,hzc,hzo,hdec⟩;refine J2 ?_;refine mA 10 10 ?_;refine KA ?_;refine JT 8 rfl Dm ?_;refine JT 9 rfl MI ?_;refine EU ?_;refine mC (fun hlt=>?_) (fun hlt=>?_)
 ·refine Ke ?_;refine J6 ?_;refine mE rfl (fw b11 p b o c xs z.a _ hs inferInstance hx hlt) ?_;rintro _ _ ⟨r,a30,bad30,rfl,hrok,hrown,hmod,ha30,rfl,hfr⟩;refine AV O9 rfl ?_;rintro _ _ ⟨b8,rfl,rfl⟩;refine Bv gY ?_;refine JR ?_;refine Ke ?_;refine J2 ?_;refine mc (fun hb=>?_) (fun hb=>?_)
  ·skip
   have hfn:EJ xs z.a=none:=by
    rcases hfr with⟨_,h⟩|⟨h,_⟩
    ·rw [h]at hb;cases hb
    ·exact h
   refine J4 ?_;refine JL Nt ?_;refine J9 ?_;exact mR [2,3,4] R rfl rfl ⟨none,0,0,0,[],[],[],5,iN z.a,rfl,DG,rfl,rfl,(fun r h=>by simp at h),XO,.inl ⟨_,(by have hd:=hdec;rw [Rm hlt hfn]at hd;exact hd),rfl,rfl,rfl,rfl,rfl⟩⟩
  have hfs:EJ xs z.a=some (r.f,a30):=by
   rcases hfr with⟨h,_⟩|⟨_,h⟩
   ·exact h
   ·rw [h]at hb;cases hb
  obtain rfl:bad30=false:=hb;have hf3:=Uc hfs hlt;refine J5 ?_;refine AV Wx rfl ?_;rintro _ _ ⟨b38,rfl,rfl⟩;refine Aw (H':=AD z.b z.o z.rs z.s*(HP.AA b38 0 (AE [r])*(HP.AA b8 0 (AI r)*(Dn r*(rr b11 p c xs a30 false*(A0 z.rs*R)))))) (by show HP.AA b38 0 (AE [r])*_=_;ac_rfl) ?_;refine AV (Bf (ys:=[r]) (bb:=b38) (oo:=0) (cc:=1) rfl hzs hzc rfl Bc inferInstance rfl Cs Cg) rfl ?_;rintro _ _ ⟨p39,b39,o39,c39,s39,rfl,hs39,hc39,rfl⟩;refine Aw (H':=rr b11 p c xs a30 false*(AD b39 o39 (z.rs++[r]) s39*(A0 (z.rs++[r])*R))*(HP.AA b38 0 (AE [r])*HP.AA b8 0 (AI r))) jC ?_;refine J3 ?_;refine Au (rr b11 p c xs a30 false*(AD b39 o39 (z.rs++[r]) s39*(A0 (z.rs++[r])*R))) ?_;exact At (⟨a30,0,p39,b39,o39,c39,s39,z.rs++[r]⟩:RZ) ⟨hf3.2.1,by show(z.rs++[r]).length≤a30;rw [d_,g'];omega,hs39,hc39,oe hzo hrok hrown,by rw [hdec,XV hlt hfs];show _=LS ((z.rs++[r]).map (·.f)) _;rw [j_];exact fK _ _ _⟩ (by show xs.length-a30<xs.length-z.a;omega) CS rfl
 refine J9 ?_;refine Kz ?_;exact mR [2,3,4] (AD z.b z.o z.rs z.s*(A0 z.rs*R)) rfl rfl ⟨z.p,z.b,z.o,z.c,z.s,z.rs,z.rs.map (·.f),0,.int .i64 (-1),Xp,sH,eQ,rfl,hzo,rfl,.inr ⟨by have hd:=hdec;rw [Uw hlt]at hd;rw [hd];show Except.ok (_++[])=_;rw [i_],rfl,rfl⟩⟩
end
section
variable{B:World}
theorem rK(b:Bool):Mb b≤1:=by cases b<;>decide
theorem iF(b:Bool):UInt8.ofNat (1-Mb b)=BM (!b):=by cases b<;>rfl
theorem lA(b:Bool):UInt8.ofNat (Mb b)=BM b:=by cases b<;>rfl
theorem mx{due:List Nat}(h:due≠ []):((due.map Ay.mk).getD (due.length-1) AB.AC).n=due.getD (due.length-1) 0:=by
 have h1:=List.length_pos_iff.2 h;simp only [c_,h_,a_ (show due.length-1<due.length by omega)];rfl
theorem bN{ks:List UInt8}(hk:ks.length=16){sd:Nat}{xs:List UInt8}(p:Option Addr)(b o c:Nat)(H:HP)(hs:Sl p b o xs.length c)(hr:AW B H b o xs)(hx:xs.length<90000000)(hop:Bj ks (UInt8.ofNat sd) xs=none):
  Fn Tryz.prog B 65 [.agg (AE ks).toArray,iN sd,.slice p xs.length c] H (fun v H'=>v=.tuple #[u64 0,.slice none 0 0,.bool false]∧H'=H):=by
 have h:=Uh ks hk sd xs p b o c H hs hr hx;rw [hop]at h;exact h
theorem ZW{ks:List UInt8}(hk:ks.length=16){sd:Nat}{xs:List UInt8}{n:UInt64}{ys:List UInt8}(p:Option Addr)(b o c:Nat)(H:HP)(hs:Sl p b o xs.length c)(hr:AW B H b o xs)(hx:xs.length<90000000)(hop:Bj ks (UInt8.ofNat sd) xs=some (n,ys)):
  Fn Tryz.prog B 65 [.agg (AE ks).toArray,iN sd,.slice p xs.length c] H (fun v H'=>∃q b' o' c' s',v=.tuple #[u64 n,.slice q ys.length c',.bool true]∧Sl q b' o' ys.length c'∧ys.length*1+s'.length=c'*1∧H'=AD b' o' ys s'*H):=by
 have h:=Uh ks hk sd xs p b o c H hs hr hx;rw [hop]at h;refine h.mono ?_;rintro v H' ⟨sv,rfl,q,b',o',c',s',rfl,h1,h2,rfl⟩;exact⟨q,b',o',c',s',rfl,h1,h2,rfl⟩
set_option maxHeartbeats 8000000 in
theorem rc(sb t:Nat)(m:Ad)(xs:List UInt8)(p:Option Addr)(b o c:Nat)(R:HP)(hm:m.ok)(hi:Ag t m.s)(ht:t<900000)(hs:Sl p b o xs.length c)(hr:AW B R b o xs)(hx:xs.length<90000000)(hop:Bj m.x.ks (BM (!m.x.first)) xs=none):
  Fn Tryz.prog B 48 [ptr sb 0,.slice p xs.length c] (AS sb m*R) (fun v H'=>∃m':Ad,m'.ok∧m'.s=(m.s.BB xs).2∧v=.tuple #[iN (m.s.BB xs).1.1,.int .i64 (m.s.BB xs).1.2]∧H'=AS sb m'*R):=by
 refine mI Tryz.func48 ?_;refine Lo ?_;have hks:m.x.ks.length=16:=hi.ks
 have hnf:=rK m.x.first
 refine GA ?_;refine FC ?_;refine J9 ?_;refine JZ ?_;refine mC (fun h21=>?_) (fun h21=>?_)
 ·have h21:m.s.closed≠0:=h21;refine J2 ?_;refine JL Tk ?_;refine J5 ?_
  have ewr:m.s.BB xs=((9,-1),m.s):=by unfold AK.BB;rw [if_pos h21]
  exact Rt
 have h21:¬m.s.closed≠0:=h21;refine mU ?_;refine Al 10 Ch rfl rfl (BK rfl (bN hks p b o c _ hs inferInstance hx (by rw [iF];exact hop))) ?_;refine JR ?_;refine SV ?_;refine J5 ?_;refine Eb ?_;refine mc (fun hc=>?_) (fun hc=>?_);rotate_left
 ·cases hc
 refine J2 ?_;refine JL XK ?_;refine J5 ?_
 have ewr:m.s.BB xs=((4,-1),m.s):=by unfold AK.BB;rw [if_neg h21];rw [show Bj m.s.ks (BM (!m.s.first)) xs=none from hop]
 exact Rt
set_option maxHeartbeats 8000000 in
theorem tN(sb t:Nat)(m:Ad)(xs:List UInt8)(p:Option Addr)(b o c:Nat)(R:HP)(hm:m.ok)(hi:Ag t m.s)(ht:t<900000)(hs:Sl p b o xs.length c)(hr:AW B R b o xs)(hx:xs.length<90000000)(n:UInt64)(ys:List UInt8)(hop:Bj m.x.ks (BM (!m.x.first)) xs=some (n,ys)):
  Fn Tryz.prog B 48 [ptr sb 0,.slice p xs.length c] (AS sb m*R) (fun v H'=>∃m':Ad,m'.ok∧m'.s=(m.s.BB xs).2∧v=.tuple #[iN (m.s.BB xs).1.1,.int .i64 (m.s.BB xs).1.2]∧H'=AS sb m'*R):=by
 refine mI Tryz.func48 ?_;refine Lo ?_;have hks:m.x.ks.length=16:=hi.ks
 have hnf:=rK m.x.first
 refine GA ?_;refine FC ?_;refine J9 ?_;refine JZ ?_;refine mC (fun h21=>?_) (fun h21=>?_)
 ·have h21:m.s.closed≠0:=h21;refine J2 ?_;refine JL Tk ?_;refine J5 ?_
  have ewr:m.s.BB xs=((9,-1),m.s):=by unfold AK.BB;rw [if_pos h21]
  exact Rt
 have h21:¬m.s.closed≠0:=h21;refine mU ?_;refine Al 10 Ch rfl rfl (BK rfl (ZW hks p b o c _ hs inferInstance hx (by rw [iF];exact hop))) ?_;rintro _ _ ⟨q33,b33,o33,c33,s33,rfl,hq33,hc33,rfl⟩;obtain⟨hyl,hx300,hn62⟩:=Js hop;refine SV ?_;refine J5 ?_;refine Eb ?_;refine mc (fun hc=>?_) (fun hc=>?_)
 ·cases hc
 refine J9 ?_;refine mE rfl (kn m.x.gq n.toNat m.ga m.AO _ hm.g (by have h7:=hi.AO.len;rw [hi.gm]at h7;have h8:m.AO.l.length≤8:=h7;omega)) ?_;refine JR ?_;refine J9 ?_;refine mC (fun h45=>?_) (fun h45=>?_)
 ·have h45:m.s.AO.has n.toNat:=h45;refine LH ?_
  have ewr:m.s.BB xs=((0,-1),m.s):=by
   unfold AK.BB;rw [if_neg h21];rw [show Bj m.s.ks (BM (!m.s.first)) xs=some (n,ys)from hop];dsimp only;rw [if_pos h45]
  exact Rt
 have h45:¬m.s.AO.has n.toNat:=h45;refine J5 ?_;refine mE rfl (Sn q33 b33 o33 c33 ys _ hq33 inferInstance Cg) ?_;rintro _ _ ⟨p48,b48,o48,c48,s48,rs,fs,dk,dat,rfl,hs48,hc48,hmap,hro,rfl,hdd⟩
 have hrl:rs.length=fs.length:=by rw [←hmap,e_]
 refine EP ?_;refine JL (GP (i:=dk) (j:=0) rfl rfl) ?_;refine J2 ?_;refine mC (fun h53=>?_) (fun h53=>?_)
 ·skip
  obtain⟨e,hdec,rfl,rfl,rfl,rfl,rfl⟩:∃e,DZ ys=.error e∧fs=[]∧p48=none∧c48=0∧dk=5∧dat=iN e:=by
   rcases hdd with h|⟨h1,h2,h3⟩
   ·exact h
   ·exact absurd h2 h53
  refine J6 ?_;refine Bv (EG (v:=iN 5) rfl rfl rfl Cj) ?_;refine Ha ?_;refine JL (Gt (i:=5) rfl (HK Cg)) ?_;refine Iw ?_
  have ewr:m.s.BB xs=((5,(e:Int)),{m.s with closed:=5,code:=5}):=by
   unfold AK.BB;rw [if_neg h21];rw [show Bj m.s.ks (BM (!m.s.first)) xs=some (n,ys)from hop];dsimp only;rw [if_neg h45,hdec]
  exact mR [4,5] (AS sb (m.CF {m.x with closed:=5,code:=5})*R) (hE:=⟨fun ww hw=>Sat.right (A:=AD b48 o48 rs s48*(A0 rs*AD b33 o33 ys s33)) (Eq.mp (by congr 1;rw [DJ];show _=AD b48 o48 rs s48*(A0 rs*AD b33 o33 ys s33)*(Ab sb {m.x with closed:=5,code:=5}*(AH m.x.gq m.ga m.AO*(AH m.x.eq m.ea m.Ao*(m.da.h (m.due.map Ay.mk)*(m.oa.h m.outs*(AM BJ m.outs*(m.ia.h m.ins*(AM BC m.ins*(m.sa.h m.AJ*(AM B3 m.AJ*R))))))))));ac_rfl) hw)⟩) rfl rfl ⟨m.CF {m.x with closed:=5,code:=5},{hm with},Cu,Cu,rfl⟩
 obtain⟨hdec,rfl,rfl⟩:DZ ys=.ok fs∧dk=0∧dat=.int .i64 (-1):=by
  rcases hdd with⟨e,h1,h2,h3,h4,h5,h6⟩|h
  ·exact absurd (h5▸h53:¬(5:Nat)≠0) Ci
  ·exact h
 obtain⟨hdl1,hdl2⟩:=N1 hdec;refine MH ?_;refine BL (α:=Nat) (fun i=>[(13,iN i),(0,ptr sb 0),(6,u64 n),(10,.slice p48 fs.length c48)]) (fun i=>AD b48 o48 rs s48*(A0 rs*(AD b33 o33 ys s33*(AS sb m*R)))) (fun i=>i≤fs.length∧∀k,k<i→¬m.s.busy (rs.getD k AB.AC).f) (fun i=>fs.length-i) 0 ⟨f_ _,(fun k h=>absurd h TG)⟩ BR Qh ?_;rintro i ⟨hi1,hi2⟩;dsimp only at hi1 hi2⊢;refine J9 ?_;refine mC (fun h68=>?_) (fun h68=>?_)
 ·have h68:i<fs.length:=h68;have hgd:rs.getD i AB.AC∈rs:=Ex Cg
  have hff:(rs.getD i AB.AC).f∈fs:=by rw [←hmap];exact QF
  have hfin:=E1.of (Ks hdec _ hff);refine J8 ?_;refine JL (FT rfl rfl hs48 h68 rfl) ?_;refine JL Q' ?_;refine AV O4 rfl ?_;rintro _ _ ⟨b14,rfl,rfl⟩;refine Bv Uv ?_;refine JR ?_;refine J7 ?_;refine JL (LJ (i:=(rs.getD i AB.AC).f.kind) (j:=5) rfl rfl) ?_;refine J2 ?_;refine mC (fun h77=>?_) (fun h77=>?_)
  ·have h77:¬(rs.getD i AB.AC).f.kind=5:=h77;refine KG ?_
   first
    |skip;have h00:=hbd
     exact pV
    |exact Au (AD b48 o48 rs s48*(A0 rs*(AD b33 o33 ys s33*(AS sb m*R)))) (hE:=Yy) gB
  have hk5:(rs.getD i AB.AC).f.kind=5:=Classical.not_not.1 h77
  obtain⟨j,hst⟩:∃j:Nat,(rs.getD i AB.AC).f.stream=(j:Int):=⟨_,(Int.toNat_of_nonneg hfin.1).symm⟩
  have hj:j<4:=(by have:=hfin.2.1;omega)
  have hjl:j<m.ins.length:=by rw [Ad.QZ hi];exact hj
  have hxo:=Ad.We hi hj;have exj:=m.PK j hjl;have hrt:=hxo.rt;have hst2:=hxo.st;have hw2:m.x.AG≤1024:=hi.w2;have hfo:=hfin.2.2.2.1;have hfe:=hfin.2.2.2.2.1 hk5
  have hbd:m.s.busy (rs.getD i AB.AC).f↔((rs.getD i AB.AC).f.kind=5∧(m.ins.getD j AB.AC).x.state≠2∧(m.ins.getD j AB.AC).x.given=false∧(m.ins.getD j AB.AC).x.read+m.x.AG<(rs.getD i AB.AC).f.offset+(rs.getD i AB.AC).f.data.size):=by unfold AK.busy;rw [hst,Int.toNat_natCast,exj];exact Iff.rfl
  refine Aq (H':=HP.AA b14 0 (AI (rs.getD i AB.AC))*(AD b48 o48 rs s48*(A0 rs*(AD b33 o33 ys s33*(Ab sb m.x*(AD m.ia.b m.ia.o m.ins m.ia.s*(HP.AA (m.ins.getD j AB.AC).q 0 (Hx (m.ins.getD j AB.AC))*(AD (m.ins.getD j AB.AC).a.b (m.ins.getD j AB.AC).a.o (m.ins.getD j AB.AC).x.data (m.ins.getD j AB.AC).a.s*(AD (m.ins.getD j AB.AC).b.b (m.ins.getD j AB.AC).b.o (m.ins.getD j AB.AC).x.there (m.ins.getD j AB.AC).b.s*(BX BC m.ins j*(Do m sb*R))))))))))) (by rw [Oj sb m R j hjl];first|done|(unfold Ae.h;ac_rfl)) ?_;refine J3 ?_;refine mA 9 9 ?_;refine Hu ?_;refine XQ ?_;refine C3 ?_
  refine BO (α:=Unit) (fun _=>[(118,.bool (decide (((rs.getD i AB.AC).f.kind=5∧(m.ins.getD j AB.AC).x.state≠2∧(m.ins.getD j AB.AC).x.given=false∧(m.ins.getD j AB.AC).x.read+m.x.AG<(rs.getD i AB.AC).f.offset+(rs.getD i AB.AC).f.data.size)))),(13,iN i),(0,ptr sb 0),(6,u64 n),(10,.slice p48 fs.length c48)]) (fun _=>HP.AA b14 0 (AI (rs.getD i AB.AC))*(AD b48 o48 rs s48*(A0 rs*(AD b33 o33 ys s33*(Ab sb m.x*(AD m.ia.b m.ia.o m.ins m.ia.s*(HP.AA (m.ins.getD j AB.AC).q 0 (Hx (m.ins.getD j AB.AC))*(AD (m.ins.getD j AB.AC).a.b (m.ins.getD j AB.AC).a.o (m.ins.getD j AB.AC).x.data (m.ins.getD j AB.AC).a.s*(AD (m.ins.getD j AB.AC).b.b (m.ins.getD j AB.AC).b.o (m.ins.getD j AB.AC).x.there (m.ins.getD j AB.AC).b.s*(BX BC m.ins j*(Do m sb*R))))))))))) (fun _=>True) ?_ ?_
  ·refine mA 33 33 ?_;refine MK ?_;refine JT 4 rfl (GP (i:=(m.ins.getD j AB.AC).x.state) (j:=2) rfl rfl) ?_;refine Jm 5 ?_;refine DM 91 rfl (fun hg1=>?_) (fun hg1=>?_)
   ·have g1:=hg1;refine JY 6 rfl T1 A4 ?_;refine JY 7 rfl T1 CP ?_;refine JY 8 rfl T1 A7 ?_;refine JY 9 rfl T1 Bb ?_;refine JY 10 rfl T1 LU ?_;refine JT 11 rfl LC ?_;refine Jm 12 ?_;refine GF 98 rfl (fun hg2=>?_) (fun hg2=>?_)
    ·skip
     have g2:(m.ins.getD j AB.AC).x.given=false:=by simpa using hg2
     refine JY 13 rfl hg2 A7 ?_;refine JY 14 rfl hg2 Bb ?_;refine JY 15 rfl hg2 A7 ?_;refine JY 16 rfl hg2 Bb ?_;refine JY 17 rfl hg2 IG ?_;refine JY 18 rfl hg2 EM ?_;refine JY 19 rfl hg2 IU ?_;refine JY 20 rfl hg2 A4 ?_;refine JY 21 rfl hg2 CP ?_;refine JY 22 rfl hg2 A7 ?_;refine JY 23 rfl hg2 Bb ?_;refine JY 24 rfl hg2 A4 ?_;refine JY 25 rfl hg2 CP ?_;refine JY 26 rfl hg2 A7 ?_;refine JY 27 rfl hg2 A7 ?_;refine JY 28 rfl hg2 Bb ?_;refine JY 29 rfl hg2 EM ?_;refine JY 30 rfl hg2 IU ?_;refine JY 31 rfl hg2 HU ?_;refine JT 32 rfl Nv ?_;refine JD ?_;exact AU () trivial (.cons (congrArg (fun bb=>some (g_ bb)) (decide_eq_decide.2 ⟨fun h=>⟨hk5,g1,g2,h⟩,fun h=>h.2.2.2⟩)) BR) rfl
    have g2:(m.ins.getD j AB.AC).x.given=true:=by simpa using hg2
    refine kJ ?_;refine JN 30 rfl hg2 ?_;refine JN 31 rfl hg2 ?_;refine JT 32 rfl Nd ?_;refine JD ?_;exact AU () trivial (.cons (congrArg (fun bb=>some (g_ bb)) (decide_eq_false (fun h=>by rw [g2]at h;cases h.2.2.1)).symm) BR) rfl
   have g1:=hg1;refine JN 6 rfl F1 ?_;refine cW ?_;refine JT 11 rfl Jl ?_;refine Jm 12 ?_;refine U7 ?_;refine Ro ?_;refine Ov ?_;refine kR ?_;refine JT 32 rfl GU ?_;refine JD ?_
   exact AU () trivial (.cons (congrArg (fun bb=>some (g_ bb)) (decide_eq_false (fun h=>g1 h.2.1)).symm) BR) rfl
  ·rintro _ _;refine J1 ?_;refine mC (fun h118=>?_) (fun h118=>?_)
   ·refine J2 ?_;refine JL UW ?_;refine J9 ?_
    have ewr:m.s.BB xs=((6,-1),m.s):=by
     unfold AK.BB;rw [if_neg h21];rw [show Bj m.s.ks (BM (!m.s.first)) xs=some (n,ys)from hop];dsimp only;rw [if_neg h45,hdec];dsimp only;rw [if_pos ⟨_,hff,hbd.2 h118⟩]
    exact mR [4,5] (AS sb m*R) (hE:=⟨fun ww hw=>Sat.right (A:=HP.AA b14 0 (AI (rs.getD i AB.AC))*(AD b48 o48 rs s48*(A0 rs*AD b33 o33 ys s33))) (Eq.mp nX hw)⟩) rfl rfl ⟨m,hm,Cy,Cu,rfl⟩
   refine Fu ?_
   first
    |skip;have h00:=hbd
     exact pV
    |exact Au (AD b48 o48 rs s48*(A0 rs*(AD b33 o33 ys s33*(AS sb m*R)))) (hE:=Yy) gB
 obtain rfl:i=fs.length:=by have h7:¬i<fs.length:=h68;omega
 refine J6 ?_
 have hnb:∀f∈fs,¬m.s.busy f:=by
  intro f hf;rw [←hmap]at hf;obtain⟨r,hr',rfl⟩:=List.mem_map.1 hf;obtain⟨k,hk,rfl⟩:=List.getElem_of_mem hr'
  have:=hi2 k Cg
  rw [c_,a_ hk,Option.getD_some]at this;exact this
 refine Aq (H':=AH m.x.gq m.ga m.AO*(Ab sb m.x*(AH m.x.eq m.ea m.Ao*(m.da.h (m.due.map Ay.mk)*(m.oa.h m.outs*(AM BJ m.outs*(m.ia.h m.ins*(AM BC m.ins*(m.sa.h m.AJ*(AM B3 m.AJ*(AD b48 o48 rs s48*(A0 rs*(AD b33 o33 ys s33*(R)))))))))))))) (by rw [DJ];ac_rfl) ?_;refine J7 ?_;refine mE rfl (Ui m.x.gq n.toNat n.toNat 4611686018427387904 m.ga m.AO _ hm.g hi.AO Cg Cg (by have h7:m.AO.AN=8:=hi.gm;omega)) ?_;rintro _ _ ⟨a125,hs125,rfl⟩;refine By ?_;refine Aw (H':=AH m.x.eq m.ea m.Ao*(AH m.x.gq a125 (m.AO.add n.toNat n.toNat)*(Ab sb m.x*(m.da.h (m.due.map Ay.mk)*(m.oa.h m.outs*(AM BJ m.outs*(m.ia.h m.ins*(AM BC m.ins*(m.sa.h m.AJ*(AM B3 m.AJ*(AD b48 o48 rs s48*(A0 rs*(AD b33 o33 ys s33*(R)))))))))))))) Cm ?_;refine mE rfl (Ui m.x.eq n.toNat n.toNat 4611686018427387904 m.ea m.Ao _ hm.e hi.Ao Cg Cg (by have h7:m.Ao.AN=Oo:=hi.em;rw [h7];exact Nat.le_refl _)) ?_;rintro _ _ ⟨a132,hs132,rfl⟩;refine J4 ?_
 obtain⟨m1,hm1⟩:∃m1:Ad,m1={m with AO:=m.AO.add n.toNat n.toNat,ga:=a125,Ao:=m.Ao.add n.toNat n.toNat,ea:=a132}:=Bg
 have hok1:m1.ok:=by rw [hm1];exact {hm with g:=hs125,e:=hs132}
 have hs1:m1.s={m.s with AO:=m.s.AO.add n.toNat n.toNat,Ao:=m.s.Ao.add n.toNat n.toNat}:=by rw [hm1];rfl
 have hi1':Ag (t+1) m1.s:=by rw [hs1];exact hi.QB hn62 Cg
 have hd1:Hm t n.toNat m1.s.due:=by rw [hs1];exact .inl hi.due
 have hnb1:∀f∈fs,¬m1.s.busy f:=by rw [hs1];exact hnb
 have hnbx:¬∃f∈fs,m.s.busy f:=fun⟨f,hf,hb⟩=>hnb f hf hb
 have erc:m.s.BB xs=(((m1.s.Bt n.toNat fs).1,-1),(m1.s.Bt n.toNat fs).2):=by
  unfold AK.BB;rw [if_neg h21];rw [show Bj m.s.ks (BM (!m.s.first)) xs=some (n,ys)from hop];dsimp only;rw [if_neg h45,hdec];dsimp only;rw [if_neg hnbx,hs1]
 refine Aq (H':=AD b48 o48 rs s48*(A0 rs*(AD b33 o33 ys s33*(AS sb m1*R)))) (by rw [DJ,hm1];show _=AD b48 o48 rs s48*(A0 rs*(AD b33 o33 ys s33*(Ab sb m.x*(AH m.x.gq a125 (m.AO.add n.toNat n.toNat)*(AH m.x.eq a132 (m.Ao.add n.toNat n.toNat)*(m.da.h (m.due.map Ay.mk)*(m.oa.h m.outs*(AM BJ m.outs*(m.ia.h m.ins*(AM BC m.ins*(m.sa.h m.AJ*(AM B3 m.AJ*R))))))))))));ac_rfl) ?_;refine J1 ?_;refine CZ ?_;refine BL (α:=Nat×Ad) (fun z=>[(16,iN z.1),(0,ptr sb 0),(6,u64 n),(10,.slice p48 fs.length c48)]) (fun z=>AD b48 o48 rs s48*(A0 rs*(AD b33 o33 ys s33*(AS sb z.2*R)))) (fun z=>z.1≤fs.length∧z.2.ok∧Ag (t+1) z.2.s∧Hm t n.toNat z.2.s.due∧z.2.s.Bt n.toNat (fs.drop z.1)=m1.s.Bt n.toNat fs∧∀f∈fs.drop z.1,¬z.2.s.busy f) (fun z=>fs.length-z.1) (0,m1) ⟨f_ _,hok1,hi1',hd1,rfl,hnb1⟩ BR rfl ?_;rintro⟨i,mi⟩ ⟨q1,q2,q3,q6,q4,q5⟩;dsimp only at q1 q2 q3 q4 q5 q6⊢;refine J9 ?_;refine mC (fun h136=>?_) (fun h136=>?_)
 ·have h136:i<fs.length:=h136;have hgd:rs.getD i AB.AC∈rs:=Ex Cg
  have hff:(rs.getD i AB.AC).f∈fs:=by rw [←hmap];exact QF
  have hfin:=E1.of (Ks hdec _ hff)
  have FF:fs.drop i=(rs.getD i AB.AC).f::fs.drop (i+1):=by
   rw [List.drop_eq_getElem_cons h136];congr 1
   have h8:fs[i]?=(rs.map RF.f)[i]?:=by rw [hmap]
   rw [a_ h136,h_,a_ Cg]at h8;rw [c_,a_ Cg];simpa using h8
  have hbi:=q5 (rs.getD i AB.AC).f (by rw [FF];simp);have hci:=q3.take (rs.getD i AB.AC).f hfin hbi;have howr:=O7 (B:=B) hgd;have hrl2:=hdl2 _ hff;refine J9 ?_;refine JL Wg ?_;refine JL Q' ?_;refine Aw (H':=AS sb mi*(AD b48 o48 rs s48*(A0 rs*(AD b33 o33 ys s33*(R))))) Cm ?_;refine mE rfl (wZ sb (t+1) mi (rs.getD i AB.AC) _ q2 q3 Cg hfin hbi (hro _ hgd).1 inferInstance Cg) ?_;rintro _ _ ⟨m2,hm2,hs2,rfl,rfl⟩;have hte:=UT (s:=mi.s) (rs.getD i AB.AC).f;refine J7 ?_;refine JZ ?_;refine mC (fun h146=>?_) (fun h146=>?_)
  ·refine J1 ?_;refine Aq (DJ sb m2 _) ?_;refine CR ?_;refine JL EM ?_;refine J9 ?_;refine JL (CV (j:=10) rfl rfl) ?_;refine mJ ?_
   have ewr:m.s.BB xs=(((mi.s.take (rs.getD i AB.AC).f).1,-1),(mi.s.take (rs.getD i AB.AC).f).2.shut (mi.s.take (rs.getD i AB.AC).f).1):=by
    rw [erc,←q4,FF,AK.Bt,if_pos h146]
   exact mR [4,5] (AS sb (m2.CF {m2.x with closed:=(mi.s.take (rs.getD i AB.AC).f).1,code:=(mi.s.take (rs.getD i AB.AC).f).1,said:=decide ((mi.s.take (rs.getD i AB.AC).f).1=10)})*R) (hE:=⟨fun ww hw=>Sat.right (A:=AD b48 o48 rs s48*(A0 rs*AD b33 o33 ys s33)) (Eq.mp (by
     congr 1
     rw [DJ]
     show _=AD b48 o48 rs s48*(A0 rs*AD b33 o33 ys s33)*(Ab sb {m2.x with closed:=(mi.s.take (rs.getD i AB.AC).f).1,code:=(mi.s.take (rs.getD i AB.AC).f).1,said:=decide ((mi.s.take (rs.getD i AB.AC).f).1=10)}*(AH m2.x.gq m2.ga m2.AO*(AH m2.x.eq m2.ea m2.Ao*(m2.da.h (m2.due.map Ay.mk)*(m2.oa.h m2.outs*(AM BJ m2.outs*(m2.ia.h m2.ins*(AM BC m2.ins*(m2.sa.h m2.AJ*(AM B3 m2.AJ*R))))))))))
     ac_rfl) hw)⟩) rfl rfl
    ⟨m2.CF {m2.x with closed:=(mi.s.take (rs.getD i AB.AC).f).1,code:=(mi.s.take (rs.getD i AB.AC).f).1,said:=decide ((mi.s.take (rs.getD i AB.AC).f).1=10)},{hm2 with},by rw [ewr,←hs2];rfl,Cu,rfl⟩
  refine J3 ?_
  have hdu2:m2.due=(mi.s.take (rs.getD i AB.AC).f).2.due:=by rw [←hs2];rfl
  have hdl:m2.due.length≤t+1:=(by rw [hdu2];exact hci.1.due)
  have hdu3:Hm t n.toNat (EX n.toNat (mi.s.take (rs.getD i AB.AC).f).2.due (rs.getD i AB.AC).f):=kF
  refine pF ?_;refine BO (α:=Unit) (fun _=>[(199,.bool (decide (((rs.getD i AB.AC).f.kind≠3∧(rs.getD i AB.AC).f.kind≠1∧(m2.due=[]∨m2.due.getD (m2.due.length-1) 0≠n.toNat))))),(16,iN i),(0,ptr sb 0),(6,u64 n),(10,.slice p48 fs.length c48)]) (fun _=>AD b48 o48 rs s48*(A0 rs*(AD b33 o33 ys s33*(Ab sb m2.x*(AH m2.x.gq m2.ga m2.AO*(AH m2.x.eq m2.ea m2.Ao*(AD m2.da.b m2.da.o (m2.due.map Ay.mk) m2.da.s*(m2.oa.h m2.outs*(AM BJ m2.outs*(m2.ia.h m2.ins*(AM BC m2.ins*(m2.sa.h m2.AJ*(AM B3 m2.AJ*R))))))))))))) (fun _=>True) ?_ ?_
  ·skip
   have hdu2:m2.due=(mi.s.take (rs.getD i AB.AC).f).2.due:=by rw [←hs2];rfl
   have hdl:m2.due.length≤t+1:=(by rw [hdu2];exact hci.1.due)
   have hdu3:Hm t n.toNat (EX n.toNat (mi.s.take (rs.getD i AB.AC).f).2.due (rs.getD i AB.AC).f):=kF
   refine pF ?_;refine mA 38 38 ?_;refine EQ ?_;refine JT 2 rfl Wg ?_;refine Lb ?_;refine JT 4 rfl rU ?_;refine JT 5 rfl (LJ (i:=(rs.getD i AB.AC).f.kind) (j:=3) rfl rfl) ?_;refine Jm 6 ?_;refine DM 168 rfl (fun hg3=>?_) (fun hg3=>?_)
   ·have g1:=hg3;refine JY 7 rfl T3 A4 ?_;refine JY 8 rfl T3 A4 ?_;refine JY 9 rfl T3 Wg ?_;refine JY 10 rfl T3 A7 ?_;refine JY 11 rfl T3 rU ?_;refine JY 12 rfl T3 (LJ (i:=(rs.getD i AB.AC).f.kind) (j:=1) rfl rfl) ?_;refine JT 13 rfl OZ ?_;refine Jm 14 ?_;refine DM 176 rfl (fun hg4=>?_) (fun hg4=>?_)
    ·have g2:=hg4;refine JY 15 rfl T4 A4 ?_;refine JY 16 rfl T4 CP ?_;refine JY 17 rfl T4 A7 ?_;refine JY 18 rfl T4 RH ?_;refine JY 19 rfl T4 Dm ?_;refine JY 20 rfl T4 (CV (i:=m2.due.length) (j:=0) rfl rfl) ?_;refine JY 21 rfl T4 A4 ?_;refine DM 183 rfl (fun hg5=>?_) (fun hg5=>?_)
     ·have g3:=hg5;refine JN 22 rfl T5 ?_;refine JN 23 rfl T5 ?_;refine JN 24 rfl T5 ?_;refine JN 25 rfl T5 ?_;refine JN 26 rfl T5 ?_;refine JN 27 rfl T5 ?_;refine JN 28 rfl T5 ?_;refine JN 29 rfl T5 ?_;refine JN 30 rfl T5 ?_;refine JN 31 rfl T5 ?_;refine JN 32 rfl T5 ?_;refine JN 33 rfl T5 ?_;refine JN 34 rfl T5 ?_;refine JN 35 rfl T5 ?_;refine JY 36 rfl T4 OA ?_;refine JT 37 rfl Io ?_;refine JD ?_;exact AU () trivial (.cons (congrArg (fun bb=>some (g_ bb)) ((decide_eq_true ⟨g1,g2,.inl (List.length_eq_zero_iff.1 g3)⟩).symm)) BR) rfl
     have g3:=hg5;refine JY 22 rfl F5 A4 ?_;refine JY 23 rfl F5 CP ?_;refine JY 24 rfl F5 A7 ?_;refine JY 25 rfl F5 RH ?_;refine JY 26 rfl F5 A4 ?_;refine JY 27 rfl F5 CP ?_;refine JY 28 rfl F5 A7 ?_;refine JY 29 rfl F5 RH ?_;refine JY 30 rfl F5 Dm ?_;refine JY 31 rfl F5 (Ia (i:=m2.due.length) (j:=1) rfl rfl Cg) ?_;refine JY 32 rfl F5 (Bm (i:=m2.due.length-1) rfl rfl (show Sl m2.da.p m2.da.b m2.da.o m2.due.length m2.da.c from by have h7:=hm2.d.1;rw [e_]at h7;exact h7) Cg) ?_;refine JY 33 rfl F5 (Br (v':=uN (m2.due.getD (m2.due.length-1) 0)) (DT (f:=0) (xs:=m2.due.map Ay.mk) rfl inferInstance rfl (by rw [e_];omega)) (by rw [←mx (fun h=>g3 Qa)])) ?_;refine JY 34 rfl F5 A4 ?_;refine JY 35 rfl F5 (GP (i:=m2.due.getD (m2.due.length-1) 0) (j:=n.toNat) rfl rfl) ?_;refine JY 36 rfl T4 L6 ?_;refine JT 37 rfl Io ?_;refine JD ?_
     exact AU () trivial (.cons (congrArg (fun bb=>some (g_ bb)) (decide_eq_decide.2 ⟨fun h=>⟨g1,g2,.inr h⟩,fun h=>by rcases h.2.2 with h|h;exact absurd Qa g3;exact h⟩)) BR) rfl
    have g2:=hg4;refine JN 15 rfl F4 ?_;refine JN 16 rfl F4 ?_;refine oR ?_;refine Rb ?_;refine Ox ?_;refine JU 35 ?_;refine JN 36 rfl F4 ?_;refine JT 37 rfl IE ?_;refine JD ?_;exact AU () trivial Zr rfl
   have g1:=hg3;refine JN 7 rfl F3 ?_;refine JN 8 rfl F3 ?_;refine JN 9 rfl F3 ?_;refine JN 10 rfl F3 ?_;refine JN 11 rfl F3 ?_;refine JN 12 rfl F3 ?_;refine JT 13 rfl Oh ?_;refine Jm 14 ?_;refine Pv ?_;refine Ur ?_;refine Rb ?_;refine Ox ?_;refine JU 35 ?_;refine DU 36 rfl Ch rfl rfl rfl rfl ?_;refine JT 37 rfl GU ?_;refine JD ?_;exact AU () trivial bK rfl
  ·rintro _ _;refine J1 ?_;refine BO (α:=Ad) (fun m3=>[(16,iN i),(0,ptr sb 0),(6,u64 n),(10,.slice p48 fs.length c48)]) (fun m3=>AD b48 o48 rs s48*(A0 rs*(AD b33 o33 ys s33*(AS sb m3*R)))) (fun m3=>m3.ok∧m3.s={(mi.s.take (rs.getD i AB.AC).f).2 with due:=EX n.toNat (mi.s.take (rs.getD i AB.AC).f).2.due (rs.getD i AB.AC).f}) ?_ ?_
   ·refine mC (fun h199=>?_) (fun h199=>?_)
    ·refine J5 ?_;refine JL RH ?_;refine J1 ?_;refine AV (E4 (cs:=[uN n.toNat]) rfl Cr rfl rfl) rfl ?_;rintro _ _ ⟨b206,rfl,rfl⟩;refine Aw (H':=AD m2.da.b m2.da.o (m2.due.map Ay.mk) m2.da.s*(HP.AA b206 0 (AE [Ay.mk n.toNat])*(AD b48 o48 rs s48*(A0 rs*(AD b33 o33 ys s33*(Ab sb m2.x*(AH m2.x.gq m2.ga m2.AO*(AH m2.x.eq m2.ea m2.Ao*(m2.oa.h m2.outs*(AM BJ m2.outs*(m2.ia.h m2.ins*(AM BC m2.ins*(m2.sa.h m2.AJ*(AM B3 m2.AJ*R)))))))))))))) (by show HP.AA b206 0 _*_=_;rw [show AE [Ay.mk n.toNat]=[uN n.toNat]from rfl];ac_rfl) ?_;refine AV (Bf (xs:=m2.due.map Ay.mk) (ys:=[Ay.mk n.toNat]) (bb:=b206) (oo:=0) (cc:=1) Xp hm2.d.1 hm2.d.2 rfl Bc inferInstance rfl eS Cg) rfl ?_;rintro _ _ ⟨p207,b207,o207,c207,s207,rfl,hs207,hc207,rfl⟩;refine J4 ?_
     have hdo:EX n.toNat m2.due (rs.getD i AB.AC).f=m2.due++[n.toNat]:=by unfold EX;rw [if_pos h199]
     have hmp:(m2.due++[n.toNat]).map Ay.mk=m2.due.map Ay.mk++[Ay.mk n.toNat]:=by rw [j_];rfl
     obtain⟨m3,hm3⟩:∃m3:Ad,m3={m2 with x:={m2.x with dv:=.slice p207 (m2.due.map Ay.mk++[Ay.mk n.toNat]).length c207},due:=m2.due++[n.toNat],da:=⟨p207,b207,o207,c207,s207⟩}:=Bg
     refine Au (AD b48 o48 rs s48*(A0 rs*(AD b33 o33 ys s33*(AS sb m3*R)))) (hE:=⟨fun ww hw=>Sat.right (A:=HP.AA b206 0 (AE [Ay.mk n.toNat])) (Eq.mp (by
      congr 1
      rw [DJ,hm3]
      unfold Ae.h
      dsimp only
      rw [hmp]
      ac_rfl) hw)⟩) ?_
     exact AU m3 ⟨by rw [hm3];exact {hm2 with d:=by show(⟨p207,b207,o207,c207,s207⟩:Ae).ok ((m2.due++[n.toNat]).map Ay.mk);rw [hmp];exact⟨hs207,hc207⟩,dv:=by show k_ p207 _ c207=k_ p207 (m2.due++[n.toNat]).length c207;rw [d_,d_,e_];rfl},by rw [hm3];show({m2.s with due:=m2.due++[n.toNat]}:AK)=_;rw [←hdo,hs2,←hdu2]⟩ BR rfl
    refine J1 ?_
    have hdo:EX n.toNat m2.due (rs.getD i AB.AC).f=m2.due:=by unfold EX;rw [if_neg h199]
    refine D8 (H':=AD b48 o48 rs s48*(A0 rs*(AD b33 o33 ys s33*(AS sb m2*R)))) Qh ?_;exact AU m2 ⟨hm2,by rw [hs2,←hdu2,hdo,hdu2]⟩ BR rfl
   ·rintro m3 ⟨hok3,hs3⟩;have hm3h:(AD b48 o48 rs s48*(A0 rs*(AD b33 o33 ys s33*(AS sb m3*R))))=AD b48 o48 rs s48*(A0 rs*(AD b33 o33 ys s33*(AS sb m3*R))):=rfl;refine Fb ?_;refine Au (AD b48 o48 rs s48*(A0 rs*(AD b33 o33 ys s33*(AS sb m3*R)))) (hE:=Il) ?_
    exact At (i+1,m3) ⟨Cg,hok3,by rw [hs3];exact {hci.1 with due:=hdu3.le},by rw [hs3];exact hdu3,by
     rw [←q4,FF,AK.Bt,if_neg Cg,hs3],fun f hf=>by
     rw [hs3]
     exact nT (s:=mi.s) hci.2.1 hci.2.2 (q5 f Zi)⟩ Lq BR rfl
 obtain rfl:i=fs.length:=by have h7:¬i<fs.length:=h136;omega
 refine J7 ?_;refine Kz ?_
 have ewr:m.s.BB xs=((0,-1),mi.s):=by
  rw [erc,←q4,List.drop_eq_nil_of_le D3];rfl
 exact mR [4,5] (AS sb mi*R) (hE:=⟨fun ww hw=>Sat.right (A:=AD b48 o48 rs s48*(A0 rs*AD b33 o33 ys s33)) (Eq.mp ZT hw)⟩) rfl rfl ⟨mi,q2,Cy,Cu,rfl⟩
theorem qe(sb t:Nat)(m:Ad)(xs:List UInt8)(p:Option Addr)(b o c:Nat)(R:HP)(hm:m.ok)(hi:Ag t m.s)(ht:t<900000)(hs:Sl p b o xs.length c)(hr:AW B R b o xs)(hx:xs.length<90000000):
  Fn Tryz.prog B 48 [ptr sb 0,.slice p xs.length c] (AS sb m*R) (fun v H'=>∃m':Ad,m'.ok∧m'.s=(m.s.BB xs).2∧v=.tuple #[iN (m.s.BB xs).1.1,.int .i64 (m.s.BB xs).1.2]∧H'=AS sb m'*R):=by
 cases hop:Bj m.x.ks (BM (!m.x.first)) xs with
 |none=>exact rc sb t m xs p b o c R hm hi ht hs hr hx hop
 |some ny=>exact tN sb t m xs p b o c R hm hi ht hs hr hx ny.1 ny.2 hop
end
end Go.Proofs.YtgfdlpcdjklcoaaGreatDoor
