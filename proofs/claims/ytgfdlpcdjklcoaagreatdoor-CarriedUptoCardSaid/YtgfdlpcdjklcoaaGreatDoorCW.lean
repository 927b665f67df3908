/- A part of this proof: steps of the program, plain facts; no condition. -/
import Derived.Test.YtgfdlpcdjklcoaaGreatDoorC3
namespace Go.Proofs.YtgfdlpcdjklcoaaGreatDoor
open Go Go.RowKit
set_option linter.unusedVariables false
set_option linter.defProp false
abbrev A(Y X:Prop):Prop:=B5 Y→X
section
variable{X:Prop}
def T1(h:X:=by exact decide_eq_true hg1):X:=h
def F1(h:X:=by exact decide_eq_false hg1):X:=h
def T2(h:X:=by exact decide_eq_true hg2):X:=h
def F2(h:X:=by exact decide_eq_false hg2):X:=h
def T3(h:X:=by exact decide_eq_true hg3):X:=h
def F3(h:X:=by exact decide_eq_false hg3):X:=h
def T4(h:X:=by exact decide_eq_true hg4):X:=h
def F4(h:X:=by exact decide_eq_false hg4):X:=h
def T5(h:X:=by exact decide_eq_true hg5):X:=h
def F5(h:X:=by exact decide_eq_false hg5):X:=h
def Ca(h:X:=by omega):X:=h
def Cb(h:X:=by kernel_rfl):X:=h
def Cc(h:X:=by decide):X:=h
def Cd(h:X:=by first|trivial|omega):X:=h
def Ce(h:X:=by simp [Value.oneCell']):X:=h
def Cf(h:X:=by ac_rfl):X:=h
def Cg(h:X:=by simp):X:=h
def Ch(h:X:=by constructor<;>rfl):X:=h
def Ci(h:X:=by have:=hs.2;omega):X:=h
def Cj(h:X:=by rw [HP.BH]):X:=h
def Ck(h:X:=by simp;omega):X:=h
def Cl(h:X:=by unfold CK;ac_rfl):X:=h
def Cm(h:X:=by simp only [List.length_singleton];omega):X:=h
def Cn(h:X:=by congr 1;ac_rfl):X:=h
def Co(h:X:=by first|omega|(simp;omega)):X:=h
def Cp(h:X:=by first|kernel_rfl|simp [Instr.fill,Value.cells]):X:=h
def Cq(h:X:=by rw [ewr];rfl):X:=h
def Cr(h:X:=by simp [rec_]):X:=h
def Cs(h:X:=by rw [ewr]):X:=h
def Ct(h:X:=by rw [List.foldl_append,List.foldl_cons,List.foldl_nil,Yk];simp only [h43,h59,if_true,if_false];assumption):X:=h
def Cu(h:X:=by rw [List.foldl_append,List.foldl_cons,List.foldl_nil,Yk];simp only [h43,h59,if_true,if_false];ac_rfl):X:=h
def Cv(h:X:=by simp [hg]):X:=h
def Cw(h:X:=by rw [Yv];(repeat' split)<;>first|rfl|(exfalso;omega)):X:=h
def Cx(h:X:=by rw [hl];rfl):X:=h
def Cy(h:X:=by rw [e3];rfl):X:=h
def Cz(h:X:=by show(0:Int)<_;decide):X:=h
def bW(h:X:=by congr 1;rw [GX,HP.BH,HP.BH];ac_rfl):X:=h
def Js(h:X:=by rw [hl];exact⟨.inr rfl,Nat.le_refl _⟩):X:=h
def SX(h:X:=by rw [ewr];exact .inl ⟨rfl,rfl,rfl⟩):X:=h
def MW(h:X:=by rw [List.length_take];omega):X:=h
def Lh(h:X:=by rw [GU,HP.BH]):X:=h
def Lj(h:X:=by rw [HP.CF];rfl):X:=h
def Ko(h:X:=by rw [Em];omega):X:=h
def VF(h:X:=by unfold DU;omega):X:=h
def JZ(h:X:=by rw [hl];omega):X:=h
def cD(h:X:=by congr 1;rw [KW cb ws j wm hjl];unfold Bi;ac_rfl):X:=h
def Q'(h:X:=by congr 1;rw [Kd nb w _ hC hr hE];ac_rfl):X:=h
def KO(h:X:=by show 0<_;decide):X:=h
def Sh(h:X:=by rw [hw2]):X:=h
def RE(h:X:=by rw [getD_some hr];rfl):X:=h
def vC(h:X:=by rw [getD_some hE];rfl):X:=h
def VO(h:X:=by rw [getD_some hC];rfl):X:=h
def La(h:X:=by simp [hs]):X:=h
def MA(h:X:=by simp [h2]):X:=h
def TT(h:X:=by congr 1;first|ac_rfl|(rw [FW];ac_rfl)):X:=h
def yE(h:X:=by rw [List.length_append,F7 hk];rfl):X:=h
def gG(h:X:=by rw [hfill];exact⟨rfl,rfl,rfl⟩):X:=h
def Nj(h:X:=by rw [decide_eq_false (by omega)]):X:=h
def Nm(h:X:=by show(0:Nat)<_;decide):X:=h
def ND(h:X:=by rw [F7 hk];rfl):X:=h
def MS(h:X:=by unfold Bi;ac_rfl):X:=h
def OM(h:X:=by unfold AB;ac_rfl):X:=h
def NB(h:X:=by rw [hgv];simp):X:=h
def xJ(h:X:=by show Value.bool _=Value.bool _;congr 1;apply Bool.eq_iff_iff.2;simp only [decide_eq_true_eq,Bool.true_eq,Bool.false_eq_true,iff_true,iff_false,true_iff,false_iff,eq_self];omega):X:=h
def vX(h:X:=by rw [decide_eq_decide];exact⟨fun h=>⟨hof,hcd,hg1,hg2,h,hF.kind⟩,fun h=>h.2.2.2.2.1⟩):X:=h
def OH(h:X:=by unfold CA;simp only [Nat.reduceEqDiff,if_false,if_true,e8,e10,e12]):X:=h
def eZ(h:X:=by rw [hc0];exact .cons rfl (.cons rfl (.cons rfl .nil))):X:=h
def N8(h:X:=by show z.l.length-(z'.2+1)<z.l.length-z'.2;omega):X:=h
def N2(h:X:=by show l.length-(z.j+1)<l.length-z.j;omega):X:=h
def VJ(h:X:=by congr 1;rw [LJ cb m R j hjl,hrm];ac_rfl):X:=h
def ZU(h:X:=by congr 1;rw [Kd nb w H hC hr hE];ac_rfl):X:=h
def Y1(h:X:=by rw [List.length_append,F7 hks];rfl):X:=h
def S'(h:X:=by rw [Im cb m.ws j hjl,hwx];ac_rfl):X:=h
def PE(h:X:=by rw [List.length_append];omega):X:=h
def PW(h:X:=by show(0:Int)≤(k:Int);omega):X:=h
def Og(h:X:=by rw [List.length_drop];omega):X:=h
def Pg(h:X:=by rw [List.length_append];rfl):X:=h
def xU(h:X:=by rw [vD,←hw1e,he2]):X:=h
def OR(h:X:=by show(3:Int)≤5;decide):X:=h
def Pk(h:X:=by have:=Em p;omega):X:=h
def PP(h:X:=by show(k:Int)<4;omega):X:=h
def QV(h:X:=by rw [Gr];omega):X:=h
def QG(h:X:=by simp [Region.wanted]):X:=h
def Uq(h:X:=by rw [hPSl];omega):X:=h
def O9(h:X:=by simpa using h):X:=h
def V8(h:X:=by rw [f3];omega):X:=h
def Pn(h:X:=by rw [h];rfl):X:=h
def PA(h:X:=by simp [hx]):X:=h
def mP(h:X:=by first|rfl|(show some (Value.bool (decide _))=_;rw [decide_eq_false (n3 (by simpa using hg1) hg2)])):X:=h
def wQ(h:X:=by rw [hst,e4,NM.G3 w hC hr,hs2];exact Jq hr hE _):X:=h
def To(h:X:=by rw [List.length_append,h1,h2,e31];have:=hs.2;omega):X:=h
def UL(h:X:=by congr 1;rw [N' cb m R j hjl];ac_rfl):X:=h
def Yw(h:X:=by show l.length-(i+1)<l.length-i;omega):X:=h
def Q0(h:X:=by simp only [Jw,List.length_set];omega):X:=h
def Tm(h:X:=by rw [Kd nb w _ hC hr hE];ac_rfl):X:=h
def U0(h:X:=by rw [s.finished];exact o.finished):X:=h
def Rm(h:X:=by unfold AY C9 Az.h;ac_rfl):X:=h
def WI(h:X:=by rw [hrn,NM.G3 w hC hr,hs2]):X:=h
def Qq(h:X:=by rw [GM nb w _ hC hr hE]):X:=h
def Ru(h:X:=by rw [Ac.PS,ewr,hrd2]):X:=h
def Xk(h:X:=by rw [s.given];exact o.given):X:=h
def Rl(h:X:=by rw [Gr];exact h20):X:=h
def XW(h:X:=by rw [s.code];exact o.code):X:=h
def Un(h:X:=by rw [RO b o i l s]):X:=h
def VM(h:X:=by rw [s.b];exact o.wrote):X:=h
def Xa(h:X:=by have:=hwm.1.1.2;omega):X:=h
def SF(h:X:=by rw [getD_some hF];rfl):X:=h
def Rb(h:X:=by rw [hw.len];exact hk):X:=h
def Qt(h:X:=by have:=hm.size;omega):X:=h
def xG(h:X:=by rw [←hs2,han];rfl):X:=h
def TK(h:X:=by unfold FK;ac_rfl):X:=h
def pH(h:X:=by have:=this.2;omega):X:=h
def RN(h:X:=by rw [FW];ac_rfl):X:=h
def TZ(h:X:=by simp [Dv];omega):X:=h
def Q4(h:X:=by have:=hqs.2;omega):X:=h
def j8(h:X:=by simpa using hg1):X:=h
def TS(h:X:=by simpa using hr):X:=h
def Sd(h:X:=by simpa using ht):X:=h
def RY(h:X:=by simpa using hg):X:=h
def RH(h:X:=by rw [hnone];rfl):X:=h
def mO(h:X:=by first|exact congrArg Value.bool (decide_eq_true (p:=rv.1.1=6) (by omega))|exact congrArg Value.bool (decide_eq_true (p:=rv.1.1=0) (by omega))|rfl):X:=h
def Z9(h:X:=by rw [hrm2];unfold DV.ok;dsimp only;rw [hdo];exact⟨⟨by rw [z6];exact ha1.1,by rw [z6];exact ha1.2⟩,z9⟩):X:=h
def W2(h:X:=by rw [hti,List.length_append,Bl,List.length_drop];show i*2+((l.length-i)*2+s.length)=c*2;omega):X:=h
def Xj(h:X:=by rw [List.length_append,List.length_singleton]at hc⊢;rw [Ju xs pre (by omega)]at hc;omega):X:=h
def X7(h:X:=by simp only [Bz,List.append_nil];exact .cons rfl (.cons rfl (.cons rfl (.cons rfl (.cons rfl .nil))))):X:=h
def dD(h:X:=by rw [hr];first|(rw [if_pos h37,if_pos h37];ac_rfl)|(rw [if_neg h37,if_neg h37];unfold AS;ac_rfl)):X:=h
def ZP(h:X:=by rw [hjn,List.drop_length,List.length_append,hti];simp only [List.length_singleton];have:=hs.2;omega):X:=h
def VC(h:X:=by show _=G (l.take (z.j+1))*(AB b o (z.L.set z.i (z.L.getD z.j AC.AH)) s*R);rw [ets];ac_rfl):X:=h
def Uk(h:X:=by intro v hv;rcases List.mem_append.1 hv with h|h;exact Jh _ v h;simp at h;subst h;rfl):X:=h
def uR(h:X:=by rw [hst,e4,NM.G3 w hC hr,hs2,e3];exact(Jq hr hE _).trans (Tt hC)):X:=h
def Vq(h:X:=by rw [show Bx ks side xs=none from if_pos (by omega)];exact⟨rfl,rfl⟩):X:=h
def wV(h:X:=by have:=hwm.1.1;exact EZ this (by omega) (by have:=this.2;omega) hcl2):X:=h
def aK(h:X:=by show r.f.ranges.length-1-(i+1)<r.f.ranges.length-1-i;omega):X:=h
def ZX(h:X:=by rw [hsp];exact⟨by rw [ME],by rw [ME];omega⟩):X:=h
def Uv(h:X:=by show _=List.take ((c.r k).b.take n).length _;rw [htl];exact hd2):X:=h
def ZD(h:X:=by unfold CA;simp only [Nat.reduceEqDiff,if_false,if_true,e8,e10]):X:=h
def aN(h:X:=by unfold CA;simp only [Nat.reduceEqDiff,if_false,if_true,e8]):X:=h
def VI(h:X:=by unfold CA;simp only [Nat.reduceEqDiff,if_false,if_true,e9]):X:=h
def eJ(h:X:=by first|rw [if_pos hc,←e];rfl|rw [if_neg hc,←e];rfl):X:=h
def YC(h:X:=by show((n.x i).w k).b++_=_;rw [o.wrote,List.append_nil]):X:=h
def XZ(h:X:=by rw [List.length_append,F7 hk];exact⟨rfl,rfl⟩):X:=h
def bK(h:X:=by show(c.r k).read+n=_+((c.r k).b.take n).length;omega):X:=h
def aP(h:X:=by show _=G (l.take (z.j+1))*(AB b o z.L s*R);rw [ets]):X:=h
def Vp(h:X:=by rw [Bl,List.length_take,Nat.min_eq_left h]):X:=h
def Xb(h:X:=by rcases hk with⟨rfl,_⟩|⟨rfl,_⟩<;>decide):X:=h
def Wp(h:X:=by show fm.fs.length-(i+1)<fm.fs.length-i;omega):X:=h
def WF(h:X:=by rw [List.length_append,hti,hdj];have:=hs.2;omega):X:=h
def vQ(h:X:=by show HP.AA b15 0 (AD [(2:UInt8)])*_=_;ac_rfl):X:=h
def kX(h:X:=by rw [hinv];exact vP hm e40 e42 (by omega)):X:=h
def Xr(h:X:=by rw [hinv,Fx];rw [AQ,if_neg h22,if_neg h26]):X:=h
def Xi(h:X:=by show _=HP.AA b5 0 _*(HP.AA b6 0 _*_);ac_rfl):X:=h
def xV(h:X:=by subst he;rw [List.take_append_drop];exact hs):X:=h
def mF(h:X:=by subst he;rw [List.take_append_drop];exact hc):X:=h
def aT(h:X:=by rw [Ey,if_neg h5,if_pos (by omega)];rfl):X:=h
def Wr(h:X:=by show fs.length-(i+1)<fs.length-i;omega):X:=h
def UZ(h:X:=by show _+((c.r k).b.take n).length≤_;omega):X:=h
def YB(h:X:=by rw [hfe2];exact⟨rfl,by rw [hw2],hde2⟩):X:=h
def Yo(h:X:=by rw [←RO b o i l s];infer_instance):X:=h
def Wf(h:X:=by rw [←zG hc0 hc1 hc2 hn,HP.CF]):X:=h
def WX(h:X:=by show i<n.count.length;rw [h.cl];exact hi):X:=h
def U2(h:X:=by rw [Em,decide_eq_false (by omega)]):X:=h
def cF(h:X:=by show(c.r k).read≤(c.r k).read+n;omega):X:=h
def W4(h:X:=by show((c.r k).b.take n).length≤_;omega):X:=h
def YO(h:X:=by have:=(xs.getD (a+i+1) 0).toNat_lt;omega):X:=h
def V6(h:X:=by show j-((i+j)/2^1+1)<j-i;omega):X:=h
def qT(h:X:=by subst he;rw [List.take_append_drop];rfl):X:=h
def Xe(h:X:=by rw [←fN hc0 hc1 hc2,HP.CF]):X:=h
def Vo(h:X:=by rw [ME];exact Nat.le_refl _):X:=h
def Y7(h:X:=by rw [List.length_append,hm,hbl];omega):X:=h
def UR(h:X:=by rw [hsn];dsimp only [Ia.at];ac_rfl):X:=h
def Vx(h:X:=by show(i+j)/2^1-i<j-i;omega):X:=h
def eF(h:X:=by subst he;rw [List.take_append_drop]):X:=h
def Zj(h:X:=by have:=CO d.size;simp;omega):X:=h
def cE(h:X:=by rw [hfill];exact⟨rfl,rfl,hde3⟩):X:=h
def Xt(h:X:=by rw [hjn,List.drop_length];simp;rfl):X:=h
def Xp(h:X:=by rw [hinv,Fx];rw [AQ,if_pos h22]):X:=h
def V1(h:X:=by rw [←vO hc0 hc1,HP.CF]):X:=h
def Ww(h:X:=by show(told.take n).length<_;omega):X:=h
def bZ(h:X:=by simp only [Bz,List.append_nil]):X:=h
def UT(h:X:=by unfold C6;rw [if_neg (by omega)]):X:=h
def Vn(h:X:=by rw [hst,e4,NM.G3 w hC hr,hs2]):X:=h
def Vh(h:X:=by rw [Ms h2.o hk4];simp):X:=h
def Ws(h:X:=by show(i+j)/2^1+1≤j;omega):X:=h
def WS(h:X:=by rw [RO b o i l s];ac_rfl):X:=h
def Uw(h:X:=by rw [hz1];exact⟨hs99,hc99⟩):X:=h
def WE(h:X:=by rw [hz1];exact⟨hs70,hc70⟩):X:=h
def Um(h:X:=by rw [←lF hc0,HP.CF]):X:=h
def cH(h:X:=by show i≤(i+j)/2^1;omega):X:=h
def XJ(h:X:=by show(i+j)/2^1≤n;omega):X:=h
def ZZ(h:X:=by rw [h3];rw [h3]at h5;omega):X:=h
def Z5(h:X:=by show k-(j+1)<k-j;omega):X:=h
def Zi(h:X:=by rw [←rZ (by omega)];rfl):X:=h
def W8(h:X:=by show 4-(k+1)<4-k;omega):X:=h
def Zc(h:X:=by rw [lM l hl];exact h41):X:=h
def YR(h:X:=by rw [dZ l hl];exact h41):X:=h
def X5(h:X:=by show 2-(i+1)<2-i;omega):X:=h
def PG(h:X:=by exact .cons rfl .nil):X:=h
def G8(h:X:=by exact .cons rfl (.cons rfl .nil)):X:=h
def vV(h:X:=by exact .cons rfl (.nil)):X:=h
def Du(h:X:=by exact .cons rfl (.cons rfl (.cons rfl (.nil)))):X:=h
def j2(h:X:=by exact .cons rfl (.cons rfl (.nil))):X:=h
def EB(h:X:=by exact .cons rfl (.cons rfl (.cons rfl .nil))):X:=h
def ES(h:X:=by exact GL rfl trivial):X:=h
def IK(h:X:=by exact .cons rfl (.cons rfl (.cons rfl (.cons rfl (.nil))))):X:=h
def BL(h:X:=by exact Ss rfl):X:=h
def BX(h:X:=by exact GL rfl Cd):X:=h
def Ba(h:X:=by exact⟨rfl,rfl⟩):X:=h
def CY(h:X:=by exact .cons rfl (.cons rfl (.cons rfl (.cons rfl .nil)))):X:=h
def Gd(h:X:=by exact .cons rfl (.cons rfl (.cons rfl (.cons rfl (.cons rfl (.nil)))))):X:=h
def BZ(h:X:=by exact Qf rfl):X:=h
def Be(h:X:=by exact⟨_,rfl⟩):X:=h
def RT(h:X:=by exact FO (v:=.int .i64 (0:Nat)) rfl):X:=h
def Mj(h:X:=by exact G7 (j:=1) rfl rfl Ca):X:=h
def FT(h:X:=by exact .cons rfl (.cons rfl (.cons rfl (.cons rfl (.cons rfl (.cons rfl (.nil))))))):X:=h
def Er(h:X:=by exact EY rfl rfl rfl Cd):X:=h
def CB(h:X:=by exact⟨.inr rfl,Nat.le_refl _⟩):X:=h
def CJ(h:X:=by exact T0 rfl):X:=h
def C8(h:X:=by exact Nat.le_refl _):X:=h
def xH(h:X:=by exact TA rfl):X:=h
def Gh(h:X:=by exact .cons rfl (.cons rfl (.cons rfl (.cons rfl (.cons rfl .nil))))):X:=h
def Ku(h:X:=by exact S6 rfl):X:=h
def D2(h:X:=by exact .inl Cc):X:=h
def KR(h:X:=by exact Dz rfl rfl Ch Ce):X:=h
def Hb(h:X:=by exact wR rfl rfl Ce rfl rfl rfl):X:=h
def Ug(h:X:=by exact FO (v:=.int .u64 (0:Nat)) rfl):X:=h
def FV(h:X:=by exact Ex rfl rfl rfl Ce):X:=h
def UH(h:X:=by exact Qf (v:=.int .i64 (0:Nat)) rfl):X:=h
def Ge(h:X:=by exact .cons rfl (.cons rfl (.cons rfl (.cons rfl (.cons rfl (.cons rfl (.cons rfl (.nil)))))))):X:=h
def EP(h:X:=by exact GW rfl rfl rfl):X:=h
def ER(h:X:=by exact Nat.le_succ t):X:=h
def FC(h:X:=by exact JX rfl (Lm Ca)):X:=h
def FF(h:X:=by exact Z6 rfl):X:=h
def Ec(h:X:=by exact GW F1 rfl rfl):X:=h
def FQ(h:X:=by exact FO rfl):X:=h
def Hc(h:X:=by exact F6 rfl rfl):X:=h
def hZ(h:X:=by exact Jg (r:=.bool false) rfl rfl (fun w=>by kernel_rfl) (fun w=>by kernel_rfl)):X:=h
def JS(h:X:=by exact Fy hg1 rfl rfl):X:=h
def F8(h:X:=by exact⟨.inl rfl,Nat.le_refl _⟩):X:=h
def FL(h:X:=by exact Nat.zero_le _):X:=h
def JC(h:X:=by exact GW hg1 rfl rfl):X:=h
def G2(h:X:=by exact Fy rfl rfl rfl):X:=h
def Fd(h:X:=by exact Fy T1 rfl rfl):X:=h
def G5(h:X:=by exact KI rfl rfl Ca):X:=h
def F0(h:X:=by exact xQ rfl rfl):X:=h
def Ur(h:X:=by exact .cons rfl (.cons rfl (.cons rfl (.cons rfl (.cons rfl (.cons rfl .nil)))))):X:=h
def vS(h:X:=by exact DP (l:=[_]) rfl rfl):X:=h
def Gg(h:X:=by exact XD rfl):X:=h
def LX(h:X:=by exact .cons rfl (.cons rfl (.cons rfl (.cons rfl (.cons rfl (.cons rfl (.cons rfl .nil))))))):X:=h
def LF(h:X:=by exact FD (l:=[_]) rfl):X:=h
def Ht(h:X:=by exact Fy T2 rfl rfl):X:=h
def HK(h:X:=by exact GW F2 rfl rfl):X:=h
def HM(h:X:=by exact Kn Cb rfl):X:=h
def HU(h:X:=by exact Pm (i:=0) (q:=0) rfl rfl Ca rfl):X:=h
def Hx(h:X:=by exact Pm (i:=2) (q:=2) rfl rfl Ca rfl):X:=h
def H5(h:X:=by exact KU rfl rfl Ca):X:=h
def Mf(h:X:=by exact FD (l:=[_,_]) rfl):X:=h
def IM(h:X:=by exact⟨rfl,rfl,rfl,rfl,rfl⟩):X:=h
def ID(h:X:=by exact⟨rfl,rfl,rfl⟩):X:=h
def Lv(h:X:=by exact Ly rfl rfl):X:=h
def I8(h:X:=by exact Pm (i:=3) (q:=3) rfl rfl Ca rfl):X:=h
def aU(h:X:=by exact CD (j:=0) rfl rfl):X:=h
def KY(h:X:=by exact Gz rfl rfl hsl Ca rfl):X:=h
def Jo(h:X:=by exact bB rfl rfl):X:=h
def JB(h:X:=by exact Iy rfl rfl Ca):X:=h
def M2(h:X:=by exact Nat.le_refl t):X:=h
def Iv(h:X:=by exact FD (l:=[.int .i64 0,.int .i64 0,.int .i64 0,.int .u64 0,.string ⟨#[]⟩,.slice none 0 0]) rfl):X:=h
def iT(h:X:=by exact DP (l:=AD ks) rfl rfl):X:=h
def Xd(h:X:=by exact dG rfl):X:=h
def NZ(h:X:=by exact CD rfl rfl):X:=h
def d6(h:X:=by exact congrArg (fun z=>some (Value.int .i64 z)) hst):X:=h
def KM(h:X:=by exact Pm (i:=1) (q:=1) rfl rfl Ca rfl):X:=h
def Ka(h:X:=by exact TU rfl rfl):X:=h
def Kc(h:X:=by exact Zr rfl rfl):X:=h
def gP(h:X:=by exact FD (l:=[_,_,_]) rfl):X:=h
def Ou(h:X:=by exact GE (j:=0) rfl rfl):X:=h
def KJ(h:X:=by exact Il (d:=AC.AH) hjl):X:=h
def uW(h:X:=by exact DP (l:=AJ r) rfl rfl):X:=h
def KF(h:X:=by exact GW hg3 rfl rfl):X:=h
def Kz(h:X:=by exact .inl ⟨VF,rfl,rfl⟩):X:=h
def KN(h:X:=by exact⟨fun ww hw=>Sat.right (A:=HP.AA b3 0 (De q)) (Eq.mp bW hw)⟩):X:=h
def QD(h:X:=by exact List.mem_of_getElem? hr):X:=h
def Nt(h:X:=by exact Di rfl (F7 hk)):X:=h
def K9(h:X:=by exact JX rfl (Qv Ca)):X:=h
def LU(h:X:=by exact II rfl rfl Ca):X:=h
def Nn(h:X:=by exact II (j:=1) rfl rfl Ca):X:=h
def LM(h:X:=by exact Gz rfl rfl hs Ca rfl):X:=h
def MP(h:X:=by exact V7 rfl rfl):X:=h
def VY(h:X:=by exact xF rfl):X:=h
def Nv(h:X:=by exact KI (j:=1) rfl rfl Ca):X:=h
def m6(h:X:=by exact List.mem_map.2 ⟨a,ha,rfl⟩):X:=h
def Lt(h:X:=by exact .cons rfl (.cons rfl (.cons rfl (.cons rfl (.cons rfl (.cons rfl (.cons rfl (.cons rfl (.cons rfl (.nil)))))))))):X:=h
def j5(h:X:=by exact .cons rfl (.cons rfl (.cons rfl (.cons rfl (.cons rfl (.cons rfl (.cons rfl (.cons rfl (.nil))))))))):X:=h
def Yl(h:X:=by exact Iq (j:=8) rfl rfl Ca):X:=h
def aC(h:X:=by exact⟨fun ww hw=>Eq.mp cD hw⟩):X:=h
def MF(h:X:=by exact .cons rfl (.cons rfl (.cons rfl (.cons rfl (.cons rfl (.cons rfl (.cons rfl (.cons rfl .nil)))))))):X:=h
def PR(h:X:=by exact Ep (f:=0) (xs:=r.es) (v:=ptr E.q 0) rfl inferInstance vC Ca):X:=h
def TM(h:X:=by exact A2 (GL rfl trivial) hok.xv):X:=h
def jJ(h:X:=by exact DP (l:=AD ks++[u8 side]) rfl rfl):X:=h
def Nc(h:X:=by exact Di rfl yE):X:=h
def Mn(h:X:=by exact Rv rfl rfl):X:=h
def M6(h:X:=by exact Dr rfl rfl):X:=h
def Mz(h:X:=by exact⟨_,rfl,rfl⟩):X:=h
def NG(h:X:=by exact Kn (v:=.int .i64 (9:Nat)) Cb rfl):X:=h
def MU(h:X:=by exact Mm (i:=j) rfl rfl Ca):X:=h
def Md(h:X:=by exact Kn (v:=.int .i64 (3:Nat)) Cb rfl):X:=h
def NX(h:X:=by exact HF cb m R):X:=h
def Nf(h:X:=by exact DL cb m R):X:=h
def NR(h:X:=by exact Jg (r:=.bool true) rfl rfl (fun w=>by kernel_rfl) (fun w=>by kernel_rfl)):X:=h
def MX(h:X:=by exact Fy hg2 rfl rfl):X:=h
def Mo(h:X:=by exact GW hg2 rfl rfl):X:=h
def NP(h:X:=by exact⟨congrArg Value.bool (decide_eq_false (fun h=>by have h1:=h.2 i hlt;unfold FZ at h1;omega)).symm,rfl⟩):X:=h
def Ma(h:X:=by exact⟨congrArg Value.bool (decide_eq_decide.2 ⟨fun h=>⟨List.length_pos_iff.1 h,hdone⟩,fun h=>List.length_pos_iff.2 h.1⟩),rfl⟩):X:=h
def l7(h:X:=by exact decide_eq_decide.2 ⟨fun h=>⟨List.length_pos_iff.1 h,hdone⟩,fun h=>List.length_pos_iff.2 h.1⟩):X:=h
def MZ(h:X:=by exact GN rfl (VR rb _)):X:=h
def Xl(h:X:=by exact Ep (f:=0) (xs:=w.cs) (v:=ptr C.cb 0) rfl inferInstance VO Ca):X:=h
def uZ(h:X:=by exact nJ rfl rfl):X:=h
def O3(h:X:=by exact FD (l:=[_,_,_,_,_,_,_,_]) rfl):X:=h
def OT(h:X:=by exact Nat.le_max_left _ _):X:=h
def QB(h:X:=by exact .inl (List.mem_filter.1 hp).1):X:=h
def Rt(h:X:=by exact Nr (k':=(l.take i).length) rfl rfl Ci MW):X:=h
def OC(h:X:=by exact Nat.not_lt_zero j):X:=h
def On(h:X:=by exact IQ rfl (fun w _=>xY _ w)):X:=h
def P7(h:X:=by exact Rp (v:=.tuple #[.nilIface,.bool false]) rfl (run_typeAssert_lacksB Ar.get Cb Cb _ _)):X:=h
def O2(h:X:=by exact F6 (j:=4611686018427387903) rfl rfl):X:=h
def sK(h:X:=by exact Mm (i:=j) rfl (congrArg (fun z=>some (Value.int .i64 z)) hst) Ca):X:=h
def PK(h:X:=by exact BJ rfl (Zm 4096 _ Ca)):X:=h
def TG(h:X:=by exact FD (l:=[_,_,_,_,_,_,_]) rfl):X:=h
def Qb(h:X:=by exact A2 (GL rfl trivial) hm.fv):X:=h
def O1(h:X:=by exact CT (j:=5) rfl rfl):X:=h
def OY(h:X:=by exact Fy hg3 rfl rfl):X:=h
def VT(h:X:=by exact Iq (j:=24) rfl rfl Ca):X:=h
def kJ(h:X:=by exact Iq (j:=16) rfl rfl Ca):X:=h
def Uz(h:X:=by exact JX (i:=st) (congrArg (fun z=>some (Value.int .i64 z)) hst) (Lm Ca)):X:=h
def Qk(h:X:=by exact DG (b:=r.b) (o:=r.o) rfl rfl hrok Ca):X:=h
def Rj(h:X:=by exact KI (j:=2) rfl rfl Ca):X:=h
def PL(h:X:=by exact⟨congrArg Value.bool vX,rfl⟩):X:=h
def Oz(h:X:=by exact⟨congrArg Value.bool (decide_eq_false (fun h=>hg2 h.2.2.2.1)).symm,rfl⟩):X:=h
def OI(h:X:=by exact⟨congrArg Value.bool (decide_eq_false (fun h=>hg1 h.2.2.1)).symm,rfl⟩):X:=h
def QY(h:X:=by exact GN rfl (Lf rb p b o c xs a _ hs inferInstance hx Ca)):X:=h
def N5(h:X:=by exact⟨rfl,h.SN hi (Nat.le_refl t) hc (.refl hc) (fun k=>.refl _)⟩):X:=h
def Yu(h:X:=by exact Kn (v:=.int .i64 (1:Nat)) Cb rfl):X:=h
def gQ(h:X:=by exact .inl ⟨fun h=>by have h1:=h.1;have h2:=h.2.1;have h3:=h.2.2.1;have h4:=h.2.2.2;omega,rfl,rfl⟩):X:=h
def oB(h:X:=by exact DG (i:=i) rfl rfl hok.xa.1 Ca):X:=h
def Xw(h:X:=by exact A2 (GL rfl trivial) hok.ev):X:=h
def XP(h:X:=by exact Ep (f:=0) (xs:=w.rows) (v:=.slice r.a.p r.es.length r.a.c) rfl inferInstance RE Ca):X:=h
def Pr(h:X:=by exact A2 (v':=.string (AW p)) (GL rfl trivial) (by rw [i94])):X:=h
def Py(h:X:=by exact A2 (v':=.bool false) (S6 rfl) rfl):X:=h
def Tf(h:X:=by exact Nat.min_le_left _ _):X:=h
def T6(h:X:=by exact Pa rfl inferInstance Ca):X:=h
def S8(h:X:=by exact QZ rfl inferInstance Ca):X:=h
def SY(h:X:=by exact Qd rfl rfl Ci):X:=h
def Qj(h:X:=by exact Iy (j:=1) rfl rfl Ca):X:=h
def YN(h:X:=by exact GE (i:=22) (j:=22) rfl rfl):X:=h
def VX(h:X:=by exact GL (hr:=VK hG) rfl trivial):X:=h
def Sk(h:X:=by exact show j<wz.length by omega):X:=h
def Qu(h:X:=by exact .inl (List.mem_map.2 ⟨a,ha,rfl⟩)):X:=h
def Tv(h:X:=by exact .inr (List.mem_map.2 ⟨a,ha,rfl⟩)):X:=h
def UD(h:X:=by exact .inr inferInstance):X:=h
def uG(h:X:=by exact⟨fun ww hw=>Sat.right (A:=HP.AA b3 0 (AJ r)) (Eq.mp VJ hw)⟩):X:=h
def SS(h:X:=by exact Di (l:=AJ r) rfl rfl):X:=h
def R7(h:X:=by exact CD (j:=2) rfl rfl):X:=h
def RG(h:X:=by exact F6 (j:=0) rfl rfl):X:=h
def Tg(h:X:=by exact Dr (j:=2) rfl rfl):X:=h
def SC(h:X:=by exact Fy T4 rfl rfl):X:=h
def RC(h:X:=by exact Fy T3 rfl rfl):X:=h
def SR(h:X:=by exact GW F4 rfl rfl):X:=h
def RX(h:X:=by exact GN rfl (VR b13 _)):X:=h
def Wk(h:X:=by exact Di (l:=AD m.x.ks++[u8 (Ag (!m.x.first))]) rfl Y1):X:=h
def UC(h:X:=by exact Nat.le_add_right _ _):X:=h
def SH(h:X:=by exact Di (l:=AD ks) rfl (F7 hk)):X:=h
def TC(h:X:=by exact Mm (i:=l.length) rfl rfl h41):X:=h
def TQ(h:X:=by exact A2 (v':=.bool false) (GE (i:=0) (j:=0) rfl rfl) rfl):X:=h
def zZ(h:X:=by exact GE (i:=0) (j:=0) rfl rfl):X:=h
def yC(h:X:=by exact .cons mP (.cons rfl (.cons rfl (.cons rfl (.cons rfl (.cons rfl (.nil))))))):X:=h
def TR(h:X:=by exact show 0<4 by omega):X:=h
def nV(h:X:=by exact CD (i:=rv.1.1) (j:=0) rfl rfl):X:=h
def bU(h:X:=by exact⟨fun ww hw=>Sat.right (A:=HP.AA b10 0 (CQ ⟨rv.1.2.2.2,-1,rv.1.2.1,rv.1.2.2.1,AW rv.1.1,[]⟩ (.slice ps.p 0 ps.c))*ps.h ([]:List ByteArray)) (Eq.mp ZU hw)⟩):X:=h
def Sg(h:X:=by exact DG (i:=i) rfl rfl q1.ca.1 Ca):X:=h
def S1(h:X:=by exact A2 (GL rfl trivial) hok.bv):X:=h
def Te(h:X:=by exact⟨fun ww hw=>Sat.right (A:=HP.AA b6 0 (GI F)*HP.AA b3 0 (Bs s)) (Eq.mp TT hw)⟩):X:=h
def rR(h:X:=by exact DG (i:=(AK s.side 2)) rfl rfl hok.ea.1 Ca):X:=h
def lD(h:X:=by exact DG (i:=(AK s.a 4)) rfl rfl (hok.ra r (List.mem_of_getElem? hr)).1 Ca):X:=h
def Rs(h:X:=by exact A2 (v':=.bool true) (CD (i:=rv.1) (j:=3) rfl rfl) Cy):X:=h
def m8(h:X:=by exact CD (i:=rv.1) (j:=3) rfl rfl):X:=h
def VV(h:X:=by exact⟨fun ww hw=>Sat.right (A:=HP.AA b12 0 (CQ ⟨rv.1,-1,0,0,⟨#[]⟩,[]⟩ (.slice ps.p 0 ps.c))*(ps.h ([]:List ByteArray)*HP.AA b3 0 (Bs s))) (Eq.mp Q' hw)⟩):X:=h
def aM(h:X:=by exact⟨rfl,(w.put (AK s.side 2) (AK s.side 2) (AK s.a 4) ⟨C.cb,m2⟩ r ⟨E.q,E.o⟩),hok.put hC hr hE hm2 _,wQ,rfl⟩):X:=h
def fH(h:X:=by exact⟨fun ww hw=>Sat.right (A:=HP.AA b3 0 (Bs s)) (Eq.mp Cn hw)⟩):X:=h
def jA(h:X:=by exact⟨rfl,w2,hok2,by rw [hst,hn2],rfl⟩):X:=h
def Th(h:X:=by exact A2 (GL rfl trivial) y1.bv):X:=h
def Tj(h:X:=by exact Zr (i:=m) (j:=8192) rfl rfl):X:=h
def Tw(h:X:=by exact G7 (i:=i) (j:=1) rfl rfl Ca):X:=h
def Xx(h:X:=by exact Hg rfl rfl (qZ b7 _ _ _)):X:=h
def WK(h:X:=by exact aF (xs:=ks) (o:=0) rfl inferInstance (by rw [hk];rfl)):X:=h
def Ys(h:X:=by exact O7 (l:=8) (h:=xs.length-8) (k':=(FH xs).length) rfl rfl rfl Ci Ca):X:=h
def aZ(h:X:=by exact⟨rfl,rfl,rfl,rfl,rfl,rfl,Nat.le_refl _⟩):X:=h
def Uh(h:X:=by exact⟨rfl,rfl,rfl,rfl,rfl,rfl,rfl,rfl,fun _ x=>x,h.ws.len,fun k=>⟨.refl _,rfl⟩⟩):X:=h
def Y2(h:X:=by exact⟨rfl,rfl,rfl,rfl,rfl,rfl,hz.filled.Ae⟩):X:=h
def Yb(h:X:=by exact tV rfl rfl rfl rfl ⟨hij,hj,hs.2⟩):X:=h
def nK(h:X:=by exact OP (k':=(l.drop j).length) rfl rfl hj List.length_drop):X:=h
def gL(h:X:=by exact cW (cs:=[uN r.lo,uN r.hi]) rfl Cp rfl rfl):X:=h
def bM(h:X:=by exact BJ rfl (pV z.l r fr to a.p a.b a.o a.c b69 a.s (HP.AA q 0 [.slice a.p z.l.length a.c,uN z.floor,iN z.AL]*(HP.AA b8 0 [uN r.lo,uN r.hi]*(HP.AA b5 0 [uN hi]*(HP.AA b4 0 [uN (max lo z.floor)]*(HP.AA b3 0 [ptr q 0]*R))))) hs.1 hs.2 hft ht1 Ca (fun hc=>hne a.b a.o (AD z.l++a.s) (HP.AA q 0 [.slice a.p z.l.length a.c,uN z.floor,iN z.AL]*(HP.AA b8 0 [uN r.lo,uN r.hi]*(HP.AA b5 0 [uN hi]*(HP.AA b4 0 [uN (max lo z.floor)]*(HP.AA b3 0 [ptr q 0]*R))))) (by intro h0;have h7:=congrArg List.length h0;rw [List.length_append,Bl]at h7;have h8:z.l.length*2+a.s.length=0:=h7;have:=hs.2;omega) rfl))):X:=h
def nD(h:X:=by exact Gz (i:=0) rfl rfl hs70 Ca rfl):X:=h
def kB(h:X:=by exact Pa (xs:=z.l.take fr++r::z.l.drop to) (i:=0) rfl inferInstance Ca):X:=h
def gB(h:X:=by exact BJ rfl (oE (z.l.take fr++r::z.l.drop to) 0 1 p70 b70 o70 c70 s70 (HP.AA q 0 [.slice p70 (z.l.take fr++r::z.l.drop to).length c70,uN ((rg (z.l.take fr++r::z.l.drop to) 0).hi+1),iN z.AL]*(HP.AA b8 0 [uN r.lo,uN r.hi]*(HP.AA b5 0 [uN hi]*(HP.AA b4 0 [uN (max lo z.floor)]*(HP.AA b3 0 [ptr q 0]*R))))) hs70 hc70 Ca Ca Ca)):X:=h
def Y8(h:X:=by exact NS (xs:=l) rfl inferInstance Ca):X:=h
def U4(h:X:=by exact LB (Post:=fun v H'=>∃b,v=.agg #[.pointer (some ⟨1,193,none⟩),ptr b 0,.int .u64 150]∧H'=HP.AA b 0 [ptr b4 0]*(HP.AA b4 0 [old]*R)) rfl (fun w hw=>⟨_,_,_,lG _ w,⟨w.heap.size,rfl,rfl⟩,hw.alloc _ _⟩)):X:=h
def gI(h:X:=by exact IQ rfl (fun w _=>lR _ w)):X:=h
def fQ(h:X:=by exact G6 rfl rfl (fun w _=>pD w)):X:=h
def XQ(h:X:=by exact IQ rfl (fun w hw=>dK ⟨b14,0,none⟩ ⟨b4,0,none⟩ w ((inferInstance:Rd B _ b14 0 (ptr b4 0) True).get w hw trivial))):X:=h
def gY(h:X:=by exact G6 rfl rfl (fun w _=>cS w)):X:=h
def zE(h:X:=by exact G6 rfl rfl (fun w _=>iH w)):X:=h
def vZ(h:X:=by exact G6 rfl rfl (fun w _=>gS w)):X:=h
def XM(h:X:=by exact Jg (r:=.bool true) rfl rfl (fun w=>by kernel_rfl) (fun w=>by rw [yV];simp)):X:=h
def Yi(h:X:=by exact G6 rfl rfl (fun w _=>pF w)):X:=h
def XR(h:X:=by exact Kn (v:=.int .i64 (2:Nat)) Cb rfl):X:=h
def wB(h:X:=by exact BJ rfl (Jl q34 _ x.hi wm.w.b.length _ _ _ hT f1 Ca Ca V8 V8)):X:=h
def Zd(h:X:=by exact Di (l:=Bo (z.L.getD z.j AC.AH)) rfl rfl):X:=h
def YV(h:X:=by exact List.mem_map.2 ⟨rr,List.mem_of_mem_take hrr,rfl⟩):X:=h
def Xf(h:X:=by exact List.mem_map.2 ⟨fm.fs[i],List.getElem_mem h15,rfl⟩):X:=h
def Wl(h:X:=by exact IA (xs:=fm.fs) rfl inferInstance Ca):X:=h
def Z2(h:X:=by exact Gz (i:=0) rfl rfl hls Ca rfl):X:=h
def Xg(h:X:=by exact Pa (xs:=l) (i:=0) rfl inferInstance Ca):X:=h
def aR(h:X:=by exact FO (v:=.int .i64 (7:Nat)) rfl):X:=h
def YE(h:X:=by exact FO (v:=.int .u8 (8:Nat)) rfl):X:=h
def X0(h:X:=by exact FO (v:=.int .u8 (9:Nat)) rfl):X:=h
def W0(h:X:=by exact DG (i:=0) rfl rfl hrok hne):X:=h
def Z3(h:X:=by exact NS (i:=0) (xs:=r.f.ranges) rfl inferInstance hne):X:=h
def cN(h:X:=by exact OP (l:=1) (k':=r.f.ranges.length-1) rfl rfl hne rfl):X:=h
def Vv(h:X:=by exact Gz (b:=r.b) (o:=r.o+1*2) (q:=r.o+(i+1)*2) rfl rfl (Kr hrok hne hrok.2) hlt Ca):X:=h
def Wg(h:X:=by exact NS (i:=i+1) (xs:=r.f.ranges) rfl inferInstance Ca):X:=h
def pL(h:X:=by exact QZ (i:=i) (xs:=r.f.ranges) rfl inferInstance Ca):X:=h
def Uo(h:X:=by exact QZ (i:=i-1) (xs:=r.f.ranges) rfl inferInstance Ca):X:=h
def UU(h:X:=by exact .inl ⟨hok,p21,b21,o21,c21,s21,rfl,hs21,hc21,rfl⟩):X:=h
def aA(h:X:=by exact FD (l:=[.int .i64 0,.int .i64 0,.int .u64 0,.int .u64 0,.bool false,.string ⟨#[]⟩,.slice none 0 0]) rfl):X:=h
def bY(h:X:=by exact FO (v:=.int .i64 (5:Nat)) rfl):X:=h
def Zv(h:X:=by exact FO (v:=.int .i64 (6:Nat)) rfl):X:=h
def YX(h:X:=by exact GN rfl (pG rb p b o c xs a _ hs inferInstance hx Ca)):X:=h
def WJ(h:X:=by exact GN rfl (Lf rb p b o c xs a8 _ hs inferInstance hx Ca)):X:=h
def UP(h:X:=by exact GN rfl (Lf rb p b o c xs a10 _ hs inferInstance hx Ca)):X:=h
def kE(h:X:=by exact CS (p:=none) (c:=0) (ys:=xs) (bb:=b) (oo:=o) rfl ⟨.inl rfl,Nat.le_refl _⟩ rfl rfl hs inferInstance rfl Ck Ca):X:=h
def aS(h:X:=by exact GZ (cs:=AJ r) rfl Cp rfl rfl):X:=h
def iQ(h:X:=by exact A2 (v':=.agg (AJ (rs.getD i AC.AH)).toArray) (IA (xs:=rs) rfl inferInstance Ca) rfl):X:=h
def a0(h:X:=by exact IA (xs:=rs) rfl inferInstance Ca):X:=h
def Y5(h:X:=by exact Dz rfl rfl Ch (AC.one (rs.getD i AC.AH))):X:=h
def tC(h:X:=by exact O7 (k':=(cut wm.w.b lo hi2).length) rfl rfl rfl Xa hcl2):X:=h
def gW(h:X:=by exact Lp (xs:=cut wm.w.b lo hi2) (b:=wm.a.b) (o:=wm.a.o+lo*1) rfl wV (Ab.sub (xs:=wm.w.b) inferInstance lo hi2 Ca)):X:=h
def uO(h:X:=by exact FD (l:=AJ (CI ⟨0,0,0,0,false,⟨#[]⟩,[]⟩)) rfl):X:=h
def W7(h:X:=by exact DP (l:=[.int .i64 AI,.int .i64 AF]) rfl rfl):X:=h
def Xy(h:X:=by exact wH (k:=.i64) (i:=if c<0 then(-(c+1)).toNat else c.toNat) (j:=n) eJ rfl Ca):X:=h
def YH(h:X:=by exact A2 (v':=.agg (De ⟨6,0,0,0,s⟩).toArray) (Ex rfl rfl rfl Ce) rfl):X:=h
def gM(h:X:=by exact⟨fun ww hw=>Sat.right (A:=HP.AA b7 0 (CQ ⟨rv.1.1,rv.1.2,0,0,⟨#[]⟩,[]⟩ (.slice ps.p 0 ps.c))*ps.h ([]:List ByteArray)) (Eq.mp Cn hw)⟩):X:=h
def U8(h:X:=by exact G7 (i:=E.o.read) (j:=(AW rv.1.1).size) rfl rfl Ko):X:=h
def Za(h:X:=by exact CD (i:=rv.1.2.2.1) (j:=0) rfl rfl):X:=h
def jX(h:X:=by exact⟨rfl,(w.put i (1-i) k ⟨C.cb,m2⟩ r ⟨E.q,{E.o with read:=E.o.read+rv.1.1.length,state:=rv.1.2.1}⟩),hok.put hC hr hE hm2 _,WI,rfl⟩):X:=h
def ZR(h:X:=by exact DG (i:=k) rfl rfl hps.1 Uq):X:=h
def cI(h:X:=by exact Ep (f:=0) (xs:=((outs w.n.ks (Ag (decide (i=0))) (w.n.cnt i) Ls).map AW)) (v:=.string (AW p)) rfl inferInstance (by rw [getD_some hps1];rfl) Uq):X:=h
def YM(h:X:=by exact Di (l:=AD w1.x.ks) rfl (F7 q1.ks)):X:=h
def ZN(h:X:=by exact Ep (f:=0) (xs:=w1.cnt) (v:=uN cx.n) rfl inferInstance (by rw [getD_some hcx];rfl) Ca):X:=h
def Wb(h:X:=by exact⟨rfl,w2,hok2,by rw [hn2,hcy],rfl⟩):X:=h
def iM(h:X:=by exact A2 (v':=.bool true) (CD (i:=rv.1.2) (j:=3) rfl rfl) Cy):X:=h
def fF(h:X:=by exact A2 (v':=.bool true) (CD (i:=rv.1.1) (j:=0) rfl rfl) Cy):X:=h
def wT(h:X:=by exact⟨fun ww hw=>Sat.right (A:=HP.AA b9 0 (CQ ⟨rv.1.2,-1,rv.1.1,0,⟨#[]⟩,[]⟩ (.slice ps.p 0 ps.c))*(ps.h ([]:List ByteArray)*HP.AA b3 0 (Bs s))) (Eq.mp Q' hw)⟩):X:=h
def kZ(h:X:=by exact⟨rfl,(w.put (AK s.side 2) (AK s.side 2) (AK s.a 4) ⟨C.cb,m2⟩ r ⟨E.q,E.o⟩),hok.put hC hr hE hm2 _,uR,rfl⟩):X:=h
def Ve(h:X:=by exact Dz (cs:=CQ ⟨rv.1,-1,0,0,⟨#[]⟩,[]⟩ (.slice ps.p 0 ps.c)) rfl rfl Ch Ce):X:=h
def Ue(h:X:=by exact EY (v:=.bool true) rfl rfl rfl trivial):X:=h
def YT(h:X:=by exact A2 (v':=.bool true) (CD (i:=rv.1) (j:=0) rfl rfl) Cy):X:=h
def Zu(h:X:=by exact⟨fun ww hw=>Sat.right (A:=HP.AA b15 0 (CQ ⟨rv.1,-1,0,0,⟨#[]⟩,[]⟩ (.slice ps.p 0 ps.c))*(ps.h ([]:List ByteArray)*HP.AA b3 0 (Bs s))) (Eq.mp Q' hw)⟩):X:=h
def Y9(h:X:=by exact A2 (v':=.agg (De ⟨4,0,0,0,⟨#[]⟩⟩).toArray) (Ex rfl rfl rfl Ce) rfl):X:=h
def eC(h:X:=by exact⟨fun ww hw=>Sat.right (A:=HP.AA b3 0 (Bs s)*J9) (Eq.mp Cn hw)⟩):X:=h
def fE(h:X:=by exact⟨rfl,w2,hok2,by rw [←h9,hn2],rfl⟩):X:=h
def Y'(h:X:=by exact DG (i:=m) rfl rfl y1.ba.1 Ca):X:=h
def Wc(h:X:=by exact Di (l:=[iN (64+AK AI 237),iN (16+AK AF 300)]) rfl rfl):X:=h
def Uc(h:X:=by exact A2 (v':=.bool false) (ZJ 64 rfl rfl) rfl):X:=h
def Ix(h:X:=by exact fun _ _ h=>h.elim):X:=h
def K4(h:X:=by exact mr [2] rfl rfl Ba):X:=h
def MB(h:X:=by exact .inl (List.mem_filter.1 hp).1):X:=h
def Lb(h:X:=by exact mR [4] (AY cb m*R) (hE:=by rw [DL];infer_instance) rfl rfl ⟨m,hm,Cs,SX⟩):X:=h
def Mb(h:X:=by exact Nat.zero_le _):X:=h
def Mk(h:X:=by exact mR [6] (A1 cb (ws.set j wm)*(BK db dm*R)) (hE:=aC) rfl rfl ⟨wm,dm,hwm,hd,gG,rfl⟩):X:=h
def QK(h:X:=by exact mr [4] rfl rfl ⟨xJ,rfl⟩):X:=h
def Ph(h:X:=by exact A8 ({w1 with w:={w1.w with ended:=e2}}:BU) ⟨hw1,xU⟩ Ge rfl):X:=h
def N1(h:X:=by exact mR [4] (AB b' o' (xs++AU n) s'*R) rfl rfl ⟨q,b',o',c',s',rfl,h1,h2,rfl⟩):X:=h
def OZ(h:X:=by exact A8 () trivial eZ rfl):X:=h
def N6(h:X:=by exact⟨a,L,R,up b⟩):X:=h
def OG(h:X:=by exact mR [4] (AB b' o' (xs++AU n) s'*(Q*R)) rfl rfl ⟨q,b',o',c',s',Q,rfl,h1,h2,rfl,hk⟩):X:=h
def Ox(h:X:=by exact mR [6,7] H rfl rfl gQ):X:=h
def Qe(h:X:=by exact(List.length_map ..).symm):X:=h
def Qn(h:X:=by exact(Sat.pr.1 h3).1.elim):X:=h
def Ri(h:X:=by exact mR [4] (AY cb m*R) (hE:=uG) rfl rfl ⟨m,hm,Cs,Cq,rfl⟩):X:=h
def Ro(h:X:=by exact A8 (m2.A3 {m2.x with answer:=an}) ⟨⟨hm2.g,hm2.ws,hm2.rs,hm2.fl,hm2.lo,hm2.fa,hm2.la,hm2.fv,hm2.lv⟩,xG⟩ FT rfl):X:=h
def SJ(h:X:=by exact A8 () trivial yC rfl):X:=h
def Qy(h:X:=by exact mR [4] (Aw nb w2*H) (hE:=fH) rfl rfl jA):X:=h
def Vs(h:X:=by exact(FE n r rs).2 (.inr (b n Ca h5))):X:=h
def Wy(h:X:=by exact all (fun j c=>Fp c (L' (1-j)).length (R' (1-j))) hg hg'):X:=h
def Yy(h:X:=by exact mR [6] (AB b o l s*R) rfl rfl ⟨p,b,o,c,s,qT,xV,mF,eF⟩):X:=h
def aV(h:X:=by exact SD (ts:=[]) [d2,d] _ rfl rfl ⟨w2,hok2,Sh,rfl⟩ rfl):X:=h
def ZL(h:X:=by exact SD (ts:=[]) [] _ rfl rfl ⟨w2,hok2,Sh,rfl⟩ rfl):X:=h
def ZV(h:X:=by exact Fc R ⟨Kx kX,rfl,rfl⟩):X:=h
def Xc(h:X:=by exact⟨VM,by rw [hp];exact o.pre,U0,Xk,XW,o.read,o.state,by rw [hp];exact o.AE⟩):X:=h
def ZO(h:X:=by exact⟨fun m hm=>absurd hm (QU m),Nat.le_refl _⟩):X:=h
def ZM(h:X:=by exact mR [4] (BK db m2*R) rfl rfl ⟨m2,hok2,by rw [hsome,hm2];rfl,by rw [hsome];rfl,rfl⟩):X:=h
def bL(h:X:=by exact mr [4] rfl rfl ⟨by rw [lP];rfl,rfl⟩):X:=h
def bO(h:X:=by exact mR [6] (Aw nb w2*H) (hE:=gM) rfl rfl ⟨mO,w2,hok2,hn2,rfl⟩):X:=h
def YL(h:X:=by exact mR [8] (Aw nb (w.put i (1-i) k ⟨C.cb,m2⟩ r ⟨E.q,{E.o with read:=E.o.read+rv.1.1.length,state:=rv.1.2.1}⟩)*H) (hE:=bU) rfl rfl jX):X:=h
def Va(h:X:=by exact mR [4] (Aw nb (w.put (AK s.side 2) (AK s.side 2) (AK s.a 4) ⟨C.cb,m2⟩ r ⟨E.q,E.o⟩)*H) (hE:=wT) rfl rfl kZ):X:=h
def ZT(h:X:=by exact mR [4] (Aw nb (w.put (AK s.side 2) (AK s.side 2) (AK s.a 4) ⟨C.cb,m2⟩ r ⟨E.q,E.o⟩)*H) (hE:=VV) rfl rfl aM):X:=h
def Yq(h:X:=by exact mR [4] (Aw nb w2*H) (hE:=eC) rfl rfl fE):X:=h
def XE(h:X:=by exact mR [2] H rfl rfl ⟨decide (m≤8192),rfl,fun h=>by have:=of_decide_eq_true h;omega,rfl⟩):X:=h
def VB(h:X:=by exact BW (w9,i+1) ⟨hok9,by show i+1≤l.length;omega,hk9,h9⟩ Yw IK rfl):X:=h
end
section
variable{X Y:Prop}(k:Y)
def BA(h:A Y X:=by intro Z;refine⟨.inr inferInstance,?_⟩;exact Z.1):X:=h ⟨k⟩
def DK(h:A Y X:=by intro Z;refine⟨.inl Cc,?_⟩;exact Z.1):X:=h ⟨k⟩
def GF(h:A Y X:=by intro Z;refine Jm 0 ?_;exact Z.1):X:=h ⟨k⟩
def Hi(h:A Y X:=by intro Z;refine JG hg1 ?_;exact Z.1):X:=h ⟨k⟩
def FN(h:A Y X:=by intro Z;refine JL RT ?_;exact Z.1):X:=h ⟨k⟩
def Fu(h:A Y X:=by intro Z;refine UY rfl rfl rfl rfl ?_;exact Z.1):X:=h ⟨k⟩
def HW(h:A Y X:=by intro Z;refine JH hg1 ?_;exact Z.1):X:=h ⟨k⟩
def JJ(h:A Y X:=by intro Z;refine JL Mj ?_;exact Z.1):X:=h ⟨k⟩
def Mr(h:A Y X:=by intro Z;refine Jn 2 ?_;exact Z.1):X:=h ⟨k⟩
def aI(h:A Y X:=by intro Z;refine Jm 1 ?_;exact Z.1):X:=h ⟨k⟩
def KK(h:A Y X:=by intro Z;refine Jd 3 ?_;exact Z.1):X:=h ⟨k⟩
def I1(h:A Y X:=by intro Z;refine Jd 4 ?_;exact Z.1):X:=h ⟨k⟩
def Np(h:A Y X:=by intro Z;refine Jf 3 ?_;exact Z.1):X:=h ⟨k⟩
def Ez(h:A Y X:=by intro Z;refine jU ?_;exact Z.1):X:=h ⟨k⟩
def Dm(h:A Y X:=by intro Z;refine JL ES ?_;exact Z.1):X:=h ⟨k⟩
def Gx(h:A Y X:=by intro Z;refine JL xH ?_;exact Z.1):X:=h ⟨k⟩
def F5z(h:A Y X:=by intro Z;refine JG hg3 ?_;exact Z.1):X:=h ⟨k⟩
def MC(h:A Y X:=by intro Z;refine Z0 rfl rfl rfl rfl ?_;exact Z.1):X:=h ⟨k⟩
def GV(h:A Y X:=by intro Z;refine sU rfl rfl rfl ?_;exact Z.1):X:=h ⟨k⟩
def GR(h:A Y X:=by intro Z;refine JL Ug ?_;exact Z.1):X:=h ⟨k⟩
def zA(h:A Y X:=by intro Z;refine JL UH ?_;exact Z.1):X:=h ⟨k⟩
def Hf(h:A Y X:=by intro Z;refine JH hg3 ?_;exact Z.1):X:=h ⟨k⟩
def tW(h:A Y X:=by intro Z;refine Bj KR ?_;exact Z.1):X:=h ⟨k⟩
def GJ(h:A Y X:=by intro Z;refine mX rfl rfl ?_;exact Z.1):X:=h ⟨k⟩
def Et(h:A Y X:=by intro Z;show some (Value.bool _)=some (Value.bool _);exact Z.1):X:=h ⟨k⟩
def I7(h:A Y X:=by intro Z;refine JL hZ ?_;exact Z.1):X:=h ⟨k⟩
def aW(h:A Y X:=by intro Z;refine iB ?_;exact Z.1):X:=h ⟨k⟩
def JO(h:A Y X:=by intro Z;refine JL Ku ?_;exact Z.1):X:=h ⟨k⟩
def IP(h:A Y X:=by intro Z;refine yQ rfl rfl ?_;exact Z.1):X:=h ⟨k⟩
def KL(h:A Y X:=by intro Z;refine Af vS rfl ?_;exact Z.1):X:=h ⟨k⟩
def KX(h:A Y X:=by intro Z;refine Af Hb rfl ?_;exact Z.1):X:=h ⟨k⟩
def MY(h:A Y X:=by intro Z;refine Db 11 Cb rfl Er ?_;exact Z.1):X:=h ⟨k⟩
def KA(h:A Y X:=by intro Z;refine Af iT rfl ?_;exact Z.1):X:=h ⟨k⟩
def M7(h:A Y X:=by intro Z;refine Af LF rfl ?_;exact Z.1):X:=h ⟨k⟩
def Kl(h:A Y X:=by intro Z;refine Af Mf rfl ?_;exact Z.1):X:=h ⟨k⟩
def K1(h:A Y X:=by intro Z;refine Af gP rfl ?_;exact Z.1):X:=h ⟨k⟩
def oM(h:A Y X:=by intro Z;refine Af uW rfl ?_;exact Z.1):X:=h ⟨k⟩
def LR(h:A Y X:=by intro Z;show Value.bool _=Value.bool _;exact Z.1):X:=h ⟨k⟩
def M0(h:A Y X:=by intro Z;refine Db 13 Cb rfl Er ?_;exact Z.1):X:=h ⟨k⟩
def RB(h:A Y X:=by intro Z;refine Db 12 Cb rfl Er ?_;exact Z.1):X:=h ⟨k⟩
def OO(h:A Y X:=by intro Z;refine BF (HP.CF _ _ _) ?_;exact Z.1):X:=h ⟨k⟩
def cZ(h:A Y X:=by intro Z;refine mE rfl (jS cb m.x.closed k _) ?_;exact Z.1):X:=h ⟨k⟩
def OA(h:A Y X:=by intro Z;show HP.AA cb (0+43+j*10) [.slice w1.a.p w1.w.b.length w1.a.c,ptr w1.sq 0,ptr w1.cq 0,uN w1.w.high,.bool w1.w.finished,.bool w1.w.ending,.bool _,.bool w1.w.given,uN w1.w.code,.bool w1.w.C4]*_=HP.AA cb (0+43+j*10) [.slice w1.a.p w1.w.b.length w1.a.c,ptr w1.sq 0,ptr w1.cq 0,uN w1.w.high,.bool w1.w.finished,.bool w1.w.ending,.bool e2,.bool w1.w.given,uN w1.w.code,.bool w1.w.C4]*(Bi w1*_);exact Z.1):X:=h ⟨k⟩
def Qa(h:A Y X:=by intro Z;refine congrArg (fun b:Bool=>HP.AA cb (0+43+j*10) [.slice w1.a.p w1.w.b.length w1.a.c,ptr w1.sq 0,ptr w1.cq 0,uN w1.w.high,.bool w1.w.finished,.bool w1.w.ending,.bool b,.bool w1.w.given,uN w1.w.code,.bool w1.w.C4]*(Bi w1*(B6 cb wz j*(HP.AA b7 0 (AJ (fm.fs.getD i AC.AH))*(K*(HP.AA b3 0 (Bo fm)*R)))))) ?_;exact Z.1):X:=h ⟨k⟩
def PT(h:A Y X:=by intro Z;refine EL 20 Cb rfl rfl FQ D2 ?_;exact Z.1):X:=h ⟨k⟩
def S3(h:A Y X:=by intro Z;refine Bf (HP.AA b5 0 [iN z.a]*(HP.AA b2 0 [.slice z.p z.rs.length z.c]*(HP.AA b3 0 [.nilIface]*R))) ?_;exact Z.1):X:=h ⟨k⟩
def cM(h:A Y X:=by intro Z;refine Bf (AB b2 o2 (CX xs pre++[xs.getD (CX xs pre).length 0 ^^^x]) s2*(HP.AA b7 0 [.slice q2 (CX xs pre++[xs.getD (CX xs pre).length 0 ^^^x]).length c2]*(HP.AA b5 0 [.slice p xs.length c]*H)*R)) ?_;exact Z.1):X:=h ⟨k⟩
def Z8(h:A Y X:=by intro Z;show({z.c with ws:=z.filled.1,next:=z.c.next+1,BG:=if Dy z.filled.2.As=true then _ else _}:AG)=_;exact Z.1):X:=h ⟨k⟩
def YJ(h:A Y X:=by intro Z;refine Ao (H':=HP.AA b o (AD l++s)*(HP.fresh bv*(HP.AA bv 0 (AD [r])*R))) OM ?_;exact Z.1):X:=h ⟨k⟩
def kU(h:A Y X:=by intro Z;refine Ao (H':=AB a.b a.o z.l a.s*(HP.AA q 0 [.slice a.p z.l.length a.c,uN z.floor,iN z.AL]*(HP.AA b8 0 [uN r.lo,uN r.hi]*(HP.AA b5 0 [uN hi]*(HP.AA b4 0 [uN (max lo z.floor)]*(HP.AA b3 0 [ptr q 0]*R)))))) dD ?_;exact Z.1):X:=h ⟨k⟩
def oD(h:A Y X:=by intro Z;refine D5 (HP.AA q 0 [.slice a.p z.l.length a.c,uN z.floor,iN z.AL]*(HP.AA b8 0 [uN r.lo,uN r.hi]*(HP.AA b5 0 [uN hi]*(HP.AA b4 0 [uN (max lo z.floor)]*(HP.AA b3 0 [ptr q 0]*R))))) 12 13 EI rfl Cb ?_;exact Z.1):X:=h ⟨k⟩
def sR(h:A Y X:=by intro Z;refine Ao (H':=HP.AA q 0 [.slice p70 (z.l.take fr++r::z.l.drop to).length c70,uN z.floor,iN z.AL]*(AB b70 o70 (z.l.take fr++r::z.l.drop to) s70*(HP.AA b8 0 [uN r.lo,uN r.hi]*(HP.AA b5 0 [uN hi]*(HP.AA b4 0 [uN (max lo z.floor)]*(HP.AA b3 0 [ptr q 0]*R)))))) Cf ?_;exact Z.1):X:=h ⟨k⟩
def yW(h:A Y X:=by intro Z;refine Ao (H':=AB b70 o70 (z.l.take fr++r::z.l.drop to) s70*(HP.AA q 0 [.slice p70 (z.l.take fr++r::z.l.drop to).length c70,uN ((rg (z.l.take fr++r::z.l.drop to) 0).hi+1),iN z.AL]*(HP.AA b8 0 [uN r.lo,uN r.hi]*(HP.AA b5 0 [uN hi]*(HP.AA b4 0 [uN (max lo z.floor)]*(HP.AA b3 0 [ptr q 0]*R)))))) Cf ?_;exact Z.1):X:=h ⟨k⟩
def gR(h:A Y X:=by intro Z;refine D5 (HP.AA q 0 [.slice p70 (z.l.take fr++r::z.l.drop to).length c70,uN ((rg (z.l.take fr++r::z.l.drop to) 0).hi+1),iN z.AL]*(HP.AA b8 0 [uN r.lo,uN r.hi]*(HP.AA b5 0 [uN hi]*(HP.AA b4 0 [uN (max lo z.floor)]*(HP.AA b3 0 [ptr q 0]*R))))) 8 9 EI rfl Cb ?_;exact Z.1):X:=h ⟨k⟩
def Us(h:A Y X:=by intro Z;refine wpIn_mono (hasg pre x l (HP.obj l (rec_ .ready none)*(HP.obj w.heap.size (.deferred (some []))*R)) _ W hE rfl (e2▸hW)) ?_;exact Z.1):X:=h ⟨k⟩
def Vw(h:A Y X:=by intro Z;refine⟨_,_,run_endRound none hb2,.bool true,_,rfl,⟨true,rfl,fun _=>hG,rfl⟩,?_⟩;exact Z.1):X:=h ⟨k⟩
def WW(h:A Y X:=by intro Z;refine⟨_,_,run_endRound (some (Dq (some id0))) hb2,.bool false,_,rfl,⟨false,rfl,fun h=>(by cases h),rfl⟩,?_⟩;exact Z.1):X:=h ⟨k⟩
def ZB(h:A Y X:=by intro Z;refine⟨_,_,run_endRound (some (Dq none)) hb2,.bool false,_,rfl,⟨false,rfl,fun h=>(by cases h),rfl⟩,?_⟩;exact Z.1):X:=h ⟨k⟩
def W9(h:A Y X:=by intro Z;refine Ao (H':=HP.AA cb (0+43+j*10) (Bd wm)*(Bi wm*(AP cb m.x*(B6 cb m.ws j*(FK m cb*R))))) S' ?_;exact Z.1):X:=h ⟨k⟩
def bJ(h:A Y X:=by intro Z;refine Bf (HP.AA cb (0+43+j*10) (Bd w2)*(Bi w2*R)) (hE:=by rw [hw2,eag];unfold Bi;infer_instance) ?_;exact Z.1):X:=h ⟨k⟩
def YU(h:A Y X:=by intro Z;show _=HP.AA b3 0 (AJ r)*(HP.AA b o [.slice a1.p z.b.length a1.c,ptr rm.cq 0,uN (max rm.r.high (r.f.offset+r.f.data.size)),uN (if r.f.fin then(r.f.offset+r.f.data.size)else rm.r.end_),.bool (rm.r.ended||r.f.fin),.bool rm.r.given,uN rm.r.code,uN rm.r.read,iN rm.r.state]*(HP.AA a1.b a1.o (AD z.b++a1.s)*AS rm.cq z.ca z.AE*R));exact Z.1):X:=h ⟨k⟩
def Up(h:A Y X:=by intro Z;show _=AB b81 o81 (rm1.r.b.take (min ((AQ rm1.r.read rm1.r.high rm1.r.AE.l).1-rm1.r.read) AL.toNat)) s81*(AP cb m.x*(HP.AA cb (0+83+j*9) [.slice p89 (rm1.r.b.drop (min ((AQ rm1.r.read rm1.r.high rm1.r.AE.l).1-rm1.r.read) AL.toNat)).length c89,ptr rm1.cq 0,uN rm1.r.high,uN rm1.r.end_,.bool rm1.r.ended,.bool rm1.r.given,uN rm1.r.code,uN (rm1.r.read+(min ((AQ rm1.r.read rm1.r.high rm1.r.AE.l).1-rm1.r.read) AL.toNat)),iN (if rm1.r.ended=true∧rm1.r.read+(min ((AQ rm1.r.read rm1.r.high rm1.r.AE.l).1-rm1.r.read) AL.toNat)=rm1.r.end_ then 1 else rm1.r.state)]*(AB b89 o89 (rm1.r.b.drop (min ((AQ rm1.r.read rm1.r.high rm1.r.AE.l).1-rm1.r.read) AL.toNat)) s89*AS rm1.cq rm1.ca rm1.r.AE*(EC cb m.rs j*(ET m cb*R)))));exact Z.1):X:=h ⟨k⟩
def WH(h:A Y X:=by intro Z;refine Ea (H':=AB b o xs s*(HP.AA b6 0 (AD [(4:UInt8)])*(HP.AA fb 0 (AJ r)*R))) Lj ?_;exact Z.1):X:=h ⟨k⟩
def aL(h:A Y X:=by intro Z;refine Ea (H':=AB b o xs s*(HP.AA b12 0 (AD [(bif r.f.fin then(9:UInt8)else 8)])*(HP.AA fb 0 (AJ r)*R))) Lj ?_;exact Z.1):X:=h ⟨k⟩
def oK(h:A Y X:=by intro Z;refine D5 (HP.AA b5 0 [uN (rg r.f.ranges 0).lo,uN (rg r.f.ranges 0).hi]*(HP.AA fb 0 (AJ r)*R)) 19 21 EI rfl Cb ?_;exact Z.1):X:=h ⟨k⟩
def Yc(h:A Y X:=by intro Z;refine Ea (H':=AB b o xs s*(HP.AA b15 0 (AD [(2:UInt8)])*(HP.AA b5 0 [uN (rg r.f.ranges 0).lo,uN (rg r.f.ranges 0).hi]*(HP.AA fb 0 (AJ r)*R)))) vQ ?_;exact Z.1):X:=h ⟨k⟩
def U9(h:A Y X:=by intro Z;refine D5 (HP.AA b7 0 [uN (rg r.f.ranges (i+1)).lo,uN (rg r.f.ranges (i+1)).hi]*(HP.AA fb 0 (AJ r)*R)) 21 21 EI rfl Cb ?_;exact Z.1):X:=h ⟨k⟩
def wM(h:A Y X:=by intro Z;refine BF (H':=HP.AA b3 0 (AJ r)*(C*(CK bc f1 f2 f3 us1 us2 us3*(AB b o xs s*R)))) Cf ?_;exact Z.1):X:=h ⟨k⟩
def qY(h:A Y X:=by intro Z;refine mE rfl (ZG r b3 bc f1 f2 f3 us1 us2 us3 C _ hF hw rfl hm inferInstance) ?_;exact Z.1):X:=h ⟨k⟩
def Ui(h:A Y X:=by intro Z;refine BF (H':=AB b o xs s*(HP.AA b3 0 (AJ r)*(C*(CK bc f1 f2 f3 us1 us2 us3*R)))) Cf ?_;exact Z.1):X:=h ⟨k⟩
def qC(h:A Y X:=by intro Z;refine BF (H':=AB 0 0 ([]:List UInt8) []*(HP.AA b3 0 (AD ks)*H)) Lh ?_;exact Z.1):X:=h ⟨k⟩
def Zg(h:A Y X:=by intro Z;refine mE rfl (dE m.x.gq n.toNat 4611686018427387904 m.ga m.AR _ hm.g hi.AR (by have h7:=hi.AR.len;rw [hi.gm]at h7;have h8:m.AR.l.length≤8:=h7;omega)) ?_;exact Z.1):X:=h ⟨k⟩
def Ux(h:A Y X:=by intro Z;refine Ao (H':=AP cb m2.x*(AS m2.x.gq m2.ga m2.AR*(A1 cb m2.ws*(BS cb m2.rs*(C9 m2*(HP.AA b14 0 (AJ (rs.getD i AC.AH))*(AB b45 o45 rs s45*(B4 rs*(AB b28 o28 ys s28*(R)))))))))) (by first|rw [DL] |rfl) ?_;exact Z.1):X:=h ⟨k⟩
def Yh(h:A Y X:=by intro Z;show IX i (Bv n.ks _ (UInt64.ofNat m) (Av fs)::outs n.ks _ (m+1) Ls) n=_;exact Z.1):X:=h ⟨k⟩
def XH(h:A Y X:=by intro Z;refine Ea (H':=BK db dm*(HP.AA cb (0+43+j*10) (Bd wm)*(AB wm.a.b wm.a.o wm.w.b wm.a.s*(AS wm.sq wm.sa wm.w.Ae*(AS wm.cq wm.ca wm.w.AE*(B6 cb ws j*R)))))) Cf ?_;exact Z.1):X:=h ⟨k⟩
def Uu(h:A Y X:=by intro Z;show _=HP.AA b13 0 (AJ (CI (Bt j lo (wm.w.finished&&decide (hi2=wm.w.b.length)) (cut wm.w.b lo hi2))))*(HP.AA cb (0+43+j*10) [.slice wm.a.p wm.w.b.length wm.a.c,ptr wm.sq 0,ptr wm.cq 0,uN (max wm.w.high hi2),.bool wm.w.finished,.bool (wm.w.ending||(wm.w.finished&&decide (hi2=wm.w.b.length))),.bool wm.w.ended,.bool wm.w.given,uN wm.w.code,.bool wm.w.C4]*(AB wm.a.b wm.a.o wm.w.b wm.a.s*(AS wm.sq sa2 (if lo<hi2 then wm.w.Ae.add lo (hi2-1)else wm.w.Ae)*AS wm.cq wm.ca wm.w.AE)*B6 cb ws j)*(BK db dm2*R));exact Z.1):X:=h ⟨k⟩
def cB(h:A Y X:=by intro Z;refine Ea (H':=AB 0 0 ([]:List UInt8) []*(BK b35 (⟨⟨[],m.x.AI-16⟩,BP,[],BP⟩:DI)*(AY cb m*(DC pk*(AB tb ob tf ts*R))))) Lh ?_;exact Z.1):X:=h ⟨k⟩
def Y4(h:A Y X:=by intro Z;refine Ao (H':=A0 nb w.x*(AB w.xa.b w.xa.o w.cs w.xa.s*(AB w.ea.b w.ea.o w.rows w.ea.s*(AB w.ba.b w.ba.o w.AN w.ba.s*(AB w.ca.b w.ca.o w.cnt w.ca.s*(AY C.cb C.c*(AB r.a.b r.a.o r.es r.a.s*(BN E.q E.o*(DW w i i 0 r*H))))))))) (GM nb w H hC hr hE) ?_;exact Z.1):X:=h ⟨k⟩
def Yt(h:A Y X:=by intro Z;refine Ao (H':=HP.AA b10 0 (CQ ⟨rv.1.2.2.2,-1,rv.1.2.1,rv.1.2.2.1,AW rv.1.1,[]⟩ (.slice ps.p 0 ps.c))*(ps.h ([]:List ByteArray)*(A0 nb w.x*(AB w.xa.b w.xa.o w.cs w.xa.s*(AB w.ea.b w.ea.o w.rows w.ea.s*(AB w.ba.b w.ba.o w.AN w.ba.s*(AB w.ca.b w.ca.o w.cnt w.ca.s*(AY C.cb m2*(AB r.a.b r.a.o r.es r.a.s*(BN E.q E.o*(DW w i (1-i) k r*H))))))))))) Cf ?_;exact Z.1):X:=h ⟨k⟩
def DF(h:A Y X:=by intro Z;refine JR ?_;refine DK ?_;refine JD ?_;exact Z.1):X:=h ⟨k⟩
def MO(h:A Y X:=by intro Z;refine J1 ?_;refine Fu ?_;refine J1 ?_;refine Fu ?_;refine J1 ?_;refine Fu ?_;exact Z.1):X:=h ⟨k⟩
def Ho(h:A Y X:=by intro Z;refine Hi ?_;refine J1 ?_;refine Hi ?_;refine J1 ?_;refine Hi ?_;exact Z.1):X:=h ⟨k⟩
def K0(h:A Y X:=by intro Z;refine Jn 1 ?_;refine Jf 2 ?_;refine KK ?_;exact Z.1):X:=h ⟨k⟩
def Pf(h:A Y X:=by intro Z;refine Mr ?_;refine Np ?_;refine I1 ?_;exact Z.1):X:=h ⟨k⟩
def Ha(h:A Y X:=by intro Z;refine HW ?_;refine HW ?_;refine HW ?_;exact Z.1):X:=h ⟨k⟩
def EK(h:A Y X:=by intro Z;refine GF ?_;refine aI ?_;exact Z.1):X:=h ⟨k⟩
def Es(h:A Y X:=by intro Z;refine JJ ?_;refine J2 ?_;exact Z.1):X:=h ⟨k⟩
def Rh(h:A Y X:=by intro Z;refine GV ?_;refine GV ?_;refine GV ?_;refine GV ?_;refine GV ?_;exact Z.1):X:=h ⟨k⟩
def DO(h:A Y X:=by intro Z;refine JD ?_;refine J2 ?_;exact Z.1):X:=h ⟨k⟩
def Kq(h:A Y X:=by intro Z;refine Jm 4 ?_;refine Jn 5 ?_;refine Jf 6 ?_;refine Jd 7 ?_;exact Z.1):X:=h ⟨k⟩
def gE(h:A Y X:=by intro Z;refine EM 13 rfl Cb rfl rfl rfl rfl ?_;refine EM 14 rfl Cb rfl rfl rfl rfl ?_;refine EM 15 rfl Cb rfl rfl rfl rfl ?_;refine EM 16 rfl Cb rfl rfl rfl rfl ?_;refine EM 17 rfl Cb rfl rfl rfl rfl ?_;refine EM 18 rfl Cb rfl rfl rfl rfl ?_;refine EM 19 rfl Cb rfl rfl rfl rfl ?_;refine EM 20 rfl Cb rfl rfl rfl rfl ?_;refine EM 21 rfl Cb rfl rfl rfl rfl ?_;exact Z.1):X:=h ⟨k⟩
def Mq(h:A Y X:=by intro Z;refine JG F1 ?_;refine J1 ?_;refine JG F1 ?_;exact Z.1):X:=h ⟨k⟩
def Yx(h:A Y X:=by intro Z;refine J1 ?_;refine JL kJ ?_;refine Gx ?_;refine J1 ?_;refine JL Yl ?_;refine Gx ?_;refine J1 ?_;refine Gx ?_;refine KX ?_;exact Z.1):X:=h ⟨k⟩
def eD(h:A Y X:=by intro Z;refine Ez ?_;refine aW ?_;refine Ez ?_;exact Z.1):X:=h ⟨k⟩
def OJ(h:A Y X:=by intro Z;refine F5z ?_;refine J1 ?_;refine F5z ?_;refine J1 ?_;refine F5z ?_;exact Z.1):X:=h ⟨k⟩
def Ji(h:A Y X:=by intro Z;refine Jd 0 ?_;refine Jd 1 ?_;refine Pf ?_;exact Z.1):X:=h ⟨k⟩
def Sn(h:A Y X:=by intro Z;refine JG T1 ?_;refine J1 ?_;refine JG T1 ?_;refine J1 ?_;refine JG T1 ?_;exact Z.1):X:=h ⟨k⟩
def FB(h:A Y X:=by intro Z;refine JR ?_;refine BA ?_;exact Z.1):X:=h ⟨k⟩
def Gi(h:A Y X:=by intro Z;refine zA ?_;refine J3 ?_;exact Z.1):X:=h ⟨k⟩
def RM(h:A Y X:=by intro Z;refine JU 15 ?_;refine JU 16 ?_;refine JU 17 ?_;refine JU 18 ?_;refine JU 19 ?_;refine JU 20 ?_;refine JU 21 ?_;refine JU 22 ?_;refine JU 23 ?_;exact Z.1):X:=h ⟨k⟩
def dR(h:A Y X:=by intro Z;refine JU 25 ?_;refine JU 26 ?_;refine JU 27 ?_;refine JU 28 ?_;refine JU 29 ?_;refine JU 30 ?_;refine JU 31 ?_;refine JU 32 ?_;refine JU 33 ?_;exact Z.1):X:=h ⟨k⟩
def KZ(h:A Y X:=by intro Z;refine MC ?_;refine MC ?_;refine MC ?_;exact Z.1):X:=h ⟨k⟩
def MD(h:A Y X:=by intro Z;refine JG T2 ?_;refine J1 ?_;refine JG T2 ?_;exact Z.1):X:=h ⟨k⟩
def SQ(h:A Y X:=by intro Z;refine JG hg4 ?_;refine J1 ?_;refine JG hg4 ?_;refine J1 ?_;refine JG hg4 ?_;exact Z.1):X:=h ⟨k⟩
def RW(h:A Y X:=by intro Z;refine J3 ?_;refine mA 9 9 ?_;refine EK ?_;refine Pf ?_;refine Ja 5 ?_;refine Ja 6 ?_;refine JT 7 rfl Ug ?_;refine Ja 8 ?_;refine DO ?_;exact Z.1):X:=h ⟨k⟩
def GA(h:A Y X:=by intro Z;refine tW ?_;refine JR ?_;exact Z.1):X:=h ⟨k⟩
def KV(h:A Y X:=by intro Z;refine J1 ?_;refine Fu ?_;refine J1 ?_;refine Fu ?_;exact Z.1):X:=h ⟨k⟩
def S9(h:A Y X:=by intro Z;refine JH F1 ?_;refine JH F1 ?_;refine JH F1 ?_;exact Z.1):X:=h ⟨k⟩
def OL(h:A Y X:=by intro Z;refine JG hg2 ?_;refine J1 ?_;refine JG hg2 ?_;refine J1 ?_;exact Z.1):X:=h ⟨k⟩
def Ei(h:A Y X:=by intro Z;refine JD ?_;refine J1 ?_;exact Z.1):X:=h ⟨k⟩
def wL(h:A Y X:=by intro Z;refine JL (Iq (j:=56) rfl rfl Ca) ?_;refine Gx ?_;refine JL (RI (j:=192) rfl rfl ⟨Ca,Ca⟩) ?_;refine J1 ?_;refine JL (Iq (j:=48) rfl rfl Ca) ?_;refine Gx ?_;refine J1 ?_;refine JL (Iq (j:=40) rfl rfl Ca) ?_;refine Gx ?_;exact Z.1):X:=h ⟨k⟩
def O0(h:A Y X:=by intro Z;refine MY ?_;refine DF ?_;refine J2 ?_;refine mA 13 14 ?_;refine EK ?_;refine Mr ?_;exact Z.1):X:=h ⟨k⟩
def IC(h:A Y X:=by intro Z;refine GF ?_;refine K0 ?_;exact Z.1):X:=h ⟨k⟩
def Qg(h:A Y X:=by intro Z;refine Jf 14 ?_;refine Jd 15 ?_;refine Jf 16 ?_;refine Jd 17 ?_;refine JT 18 rfl G5 ?_;exact Z.1):X:=h ⟨k⟩
def Gv(h:A Y X:=by intro Z;refine J2 ?_;refine FN ?_;exact Z.1):X:=h ⟨k⟩
def TD(h:A Y X:=by intro Z;refine J5 ?_;refine JL Xw ?_;refine J1 ?_;refine JL rR ?_;refine JL XP ?_;refine J1 ?_;refine JL lD ?_;refine JL PR ?_;exact Z.1):X:=h ⟨k⟩
def QO(h:A Y X:=by intro Z;refine Jf 1 ?_;refine Jd 2 ?_;refine Jn 3 ?_;refine Jf 4 ?_;refine JT 5 rfl sK ?_;exact Z.1):X:=h ⟨k⟩
def E9(h:A Y X:=by intro Z;refine JR ?_;refine J4 ?_;exact Z.1):X:=h ⟨k⟩
def Sm(h:A Y X:=by intro Z;refine JN 6 rfl hg1 ?_;refine JN 7 rfl hg1 ?_;refine JN 8 rfl hg1 ?_;refine JN 9 rfl hg1 ?_;refine JN 10 rfl hg1 ?_;exact Z.1):X:=h ⟨k⟩
def P5(h:A Y X:=by intro Z;refine Jm 11 ?_;refine Jn 12 ?_;refine Jf 13 ?_;refine Jd 14 ?_;exact Z.1):X:=h ⟨k⟩
def Oe(h:A Y X:=by intro Z;refine Hf ?_;refine Hf ?_;refine Hf ?_;exact Z.1):X:=h ⟨k⟩
def PV(h:A Y X:=by intro Z;refine Jm 9 ?_;refine Jn 10 ?_;refine Jf 11 ?_;refine Jd 12 ?_;exact Z.1):X:=h ⟨k⟩
def Fq(h:A Y X:=by intro Z;refine FN ?_;refine J3 ?_;exact Z.1):X:=h ⟨k⟩
def YQ(h:A Y X:=by intro Z;refine JN 15 rfl F2 ?_;refine JN 16 rfl F2 ?_;refine JN 17 rfl F2 ?_;refine JN 18 rfl F2 ?_;refine JN 19 rfl F2 ?_;refine JN 20 rfl F2 ?_;refine JN 21 rfl F2 ?_;refine JN 22 rfl F2 ?_;refine JN 23 rfl F2 ?_;exact Z.1):X:=h ⟨k⟩
def LG(h:A Y X:=by intro Z;refine Jn 6 ?_;refine Jf 7 ?_;refine Jd 8 ?_;exact Z.1):X:=h ⟨k⟩
def Fs(h:A Y X:=by intro Z;refine JR ?_;refine J3 ?_;exact Z.1):X:=h ⟨k⟩
def wN(h:A Y X:=by intro Z;refine D5 (HP.AA fb 0 (AJ r)*R) 19 21 EI rfl Cb ?_;refine EK ?_;refine Kq ?_;refine JT 8 rfl Uz ?_;refine Jm 10 ?_;refine Jn 11 ?_;refine Jf 12 ?_;refine Jd 13 ?_;refine Jm 15 ?_;exact Z.1):X:=h ⟨k⟩
def dI(h:A Y X:=by intro Z;refine D5 (HP.AA fb 0 (AJ r)*R) 18 20 EI rfl Cb ?_;refine GF ?_;refine Jm 3 ?_;refine Jn 4 ?_;refine Jf 5 ?_;refine Jd 6 ?_;refine JT 7 rfl Uz ?_;refine PV ?_;refine Jm 14 ?_;exact Z.1):X:=h ⟨k⟩
def LL(h:A Y X:=by intro Z;refine JH T1 ?_;refine JH T1 ?_;exact Z.1):X:=h ⟨k⟩
def OW(h:A Y X:=by intro Z;refine cZ ?_;refine JR ?_;refine J6 ?_;refine JL VY ?_;refine J2 ?_;exact Z.1):X:=h ⟨k⟩
def Jt(h:A Y X:=by intro Z;refine JL JS ?_;refine J2 ?_;exact Z.1):X:=h ⟨k⟩
def K6(h:A Y X:=by intro Z;refine Hi ?_;refine J1 ?_;exact Z.1):X:=h ⟨k⟩
def gZ(h:A Y X:=by intro Z;refine Jm 6 ?_;refine Jn 7 ?_;refine Jf 8 ?_;refine Jd 9 ?_;refine JT 10 rfl FF ?_;refine JT 11 rfl Nn ?_;refine JT 12 rfl FC ?_;refine Qg ?_;refine An 1 Cb rfl rfl Hb ?_;exact Z.1):X:=h ⟨k⟩
def VA(h:A Y X:=by intro Z;refine gE ?_;refine EM 22 rfl Cb rfl rfl rfl rfl ?_;refine EM 23 rfl Cb rfl rfl rfl rfl ?_;refine EM 24 rfl Cb rfl rfl rfl rfl ?_;refine EM 25 rfl Cb rfl rfl rfl rfl ?_;exact Z.1):X:=h ⟨k⟩
def aJ(h:A Y X:=by intro Z;refine Ao (H':=AB b o (l.take i) (AD (l.drop i)++s)*R) Un ?_;refine mA 6 8 ?_;refine EK ?_;refine JT 2 rfl Rt ?_;refine Jm 3 ?_;refine Jm 4 ?_;refine JT 5 rfl nK ?_;exact Z.1):X:=h ⟨k⟩
def YI(h:A Y X:=by intro Z;refine Pf ?_;refine Jm 5 ?_;refine JT 6 rfl Qk ?_;refine Jf 7 ?_;refine JT 8 rfl pL ?_;refine Jf 9 ?_;refine Jd 10 ?_;refine JT 11 rfl G5 ?_;refine JT 12 rfl Rj ?_;exact Z.1):X:=h ⟨k⟩
def Iz(h:A Y X:=by intro Z;refine JL JC ?_;refine J2 ?_;exact Z.1):X:=h ⟨k⟩
def I2(h:A Y X:=by intro Z;refine Jf 4 ?_;refine Jd 5 ?_;exact Z.1):X:=h ⟨k⟩
def OQ(h:A Y X:=by intro Z;refine JL TM ?_;refine J1 ?_;refine JL oB ?_;refine JL Xl ?_;exact Z.1):X:=h ⟨k⟩
def TB(h:A Y X:=by intro Z;refine JH hg4 ?_;refine JH hg4 ?_;refine JH hg4 ?_;exact Z.1):X:=h ⟨k⟩
def Sr(h:A Y X:=by intro Z;refine JH hg2 ?_;refine JH hg2 ?_;refine JH hg2 ?_;exact Z.1):X:=h ⟨k⟩
def Vd(h:A Y X:=by intro Z;refine mA 10 11 ?_;refine Jd 0 ?_;refine K0 ?_;refine I2 ?_;refine Jd 6 ?_;refine JT 7 rfl Jo ?_;refine Jf 8 ?_;refine Jd 9 ?_;refine An 10 Cb rfl rfl wB ?_;exact Z.1):X:=h ⟨k⟩
def Hw(h:A Y X:=by intro Z;refine JR ?_;refine J1 ?_;exact Z.1):X:=h ⟨k⟩
def Xz(h:A Y X:=by intro Z;refine Jf 6 ?_;refine Jd 7 ?_;refine Jf 8 ?_;refine Jd 9 ?_;refine JT 10 rfl Gg ?_;refine JT 11 rfl FC ?_;refine JT 12 rfl JB ?_;refine JT 13 rfl Nv ?_;exact Z.1):X:=h ⟨k⟩
def HZ(h:A Y X:=by intro Z;refine J4 ?_;refine Es ?_;exact Z.1):X:=h ⟨k⟩
def SU(h:A Y X:=by intro Z;refine JH F2 ?_;refine JH F2 ?_;refine JH F2 ?_;exact Z.1):X:=h ⟨k⟩
def Yg(h:A Y X:=by intro Z;refine J7 ?_;refine wL ?_;refine J1 ?_;refine JL (Iq (j:=32) rfl rfl Ca) ?_;refine Gx ?_;refine J1 ?_;refine JL VT ?_;refine Gx ?_;refine Yx ?_;exact Z.1):X:=h ⟨k⟩
def Zh(h:A Y X:=by intro Z;refine P5 ?_;refine Jm 15 ?_;refine Jm 16 ?_;refine JT 17 rfl tC ?_;refine JT 18 rfl gW ?_;refine JT 19 rfl FV ?_;refine An 20 Cb rfl rfl uO ?_;exact Z.1):X:=h ⟨k⟩
def TV(h:A Y X:=by intro Z;refine Jd 0 ?_;refine K0 ?_;refine Jm 4 ?_;refine JT 5 rfl KY ?_;refine Jf 6 ?_;exact Z.1):X:=h ⟨k⟩
def Zf(h:A Y X:=by intro Z;refine J2 ?_;refine sR ?_;refine mA 10 10 ?_;refine Jd 0 ?_;refine K0 ?_;refine JT 4 rfl FF ?_;refine Jd 5 ?_;refine LG ?_;refine JT 9 rfl Hc ?_;exact Z.1):X:=h ⟨k⟩
def IV(h:A Y X:=by intro Z;refine Jf 0 ?_;refine Jd 1 ?_;exact Z.1):X:=h ⟨k⟩
def Wu(h:A Y X:=by intro Z;refine Jn 9 ?_;refine Jf 10 ?_;refine MY ?_;refine DF ?_;refine J1 ?_;refine yW ?_;refine gR ?_;refine Ji ?_;refine An 5 Cb rfl rfl gB ?_;exact Z.1):X:=h ⟨k⟩
def Sb(h:A Y X:=by intro Z;refine mI Tryz.func44 ?_;refine Gv ?_;refine FN ?_;refine J4 ?_;refine M7 ?_;exact Z.1):X:=h ⟨k⟩
def SL(h:A Y X:=by intro Z;refine dR ?_;refine JU 34 ?_;refine JU 35 ?_;refine JU 36 ?_;refine JU 37 ?_;exact Z.1):X:=h ⟨k⟩
def W5(h:A Y X:=by intro Z;refine kU ?_;refine oD ?_;refine Ji ?_;refine Jm 5 ?_;refine Jm 6 ?_;refine JT 7 rfl (Di rfl rfl) ?_;refine An 8 Cb rfl rfl gL ?_;exact Z.1):X:=h ⟨k⟩
def JV(h:A Y X:=by intro Z;refine I7 ?_;refine J2 ?_;exact Z.1):X:=h ⟨k⟩
def Ng(h:A Y X:=by intro Z;refine Fu ?_;refine J1 ?_;refine JL G2 ?_;exact Z.1):X:=h ⟨k⟩
def VQ(h:A Y X:=by intro Z;refine J4 ?_;refine JL Yl ?_;refine Gx ?_;refine JL (RI (j:=64) rfl rfl ⟨Ca,Ca⟩) ?_;refine J1 ?_;refine Gx ?_;refine KX ?_;exact Z.1):X:=h ⟨k⟩
def QN(h:A Y X:=by intro Z;refine Jd 7 ?_;refine JT 8 rfl uZ ?_;refine Jn 9 ?_;exact Z.1):X:=h ⟨k⟩
def IZ(h:A Y X:=by intro Z;refine Mr ?_;refine Np ?_;exact Z.1):X:=h ⟨k⟩
def IY(h:A Y X:=by intro Z;refine eD ?_;refine aW ?_;exact Z.1):X:=h ⟨k⟩
def I'(h:A Y X:=by intro Z;refine JL aU ?_;refine J2 ?_;exact Z.1):X:=h ⟨k⟩
def IE(h:A Y X:=by intro Z;refine JR ?_;refine J6 ?_;exact Z.1):X:=h ⟨k⟩
def Rw(h:A Y X:=by intro Z;refine J2 ?_;refine GJ ?_;refine J2 ?_;refine JL Yu ?_;refine J6 ?_;exact Z.1):X:=h ⟨k⟩
def Wv(h:A Y X:=by intro Z;refine J6 ?_;refine JL (Di (l:=Bs s) rfl rfl) ?_;refine mE rfl (qD hG nb t9 s w9 L Rr _ hok9 hw9 hs ht9) ?_;exact Z.1):X:=h ⟨k⟩
def Ij(h:A Y X:=by intro Z;refine JO ?_;refine J2 ?_;exact Z.1):X:=h ⟨k⟩
def V9(h:A Y X:=by intro Z;refine MD ?_;refine JL VX ?_;refine JG T2 ?_;refine JL vZ ?_;refine JG T2 ?_;refine JO ?_;refine JL Ht ?_;refine J2 ?_;exact Z.1):X:=h ⟨k⟩
def X3(h:A Y X:=by intro Z;refine mA 8 9 ?_;refine EK ?_;refine Jm 2 ?_;refine JT 3 rfl Mj ?_;refine JT 4 rfl H5 ?_;refine Jm 5 ?_;refine Jm 6 ?_;exact Z.1):X:=h ⟨k⟩
def Mh(h:A Y X:=by intro Z;refine J2 ?_;refine GR ?_;refine J6 ?_;exact Z.1):X:=h ⟨k⟩
def QA(h:A Y X:=by intro Z;refine mA 11 12 ?_;refine GF ?_;refine Jn 1 ?_;exact Z.1):X:=h ⟨k⟩
def Wm(h:A Y X:=by intro Z;refine J5 ?_;refine JL gY ?_;refine J7 ?_;refine JL zE ?_;refine JL (GE (i:=22) (j:=20) rfl rfl) ?_;refine J1 ?_;exact Z.1):X:=h ⟨k⟩
def IR(h:A Y X:=by intro Z;refine JD ?_;refine J3 ?_;exact Z.1):X:=h ⟨k⟩
def aH(h:A Y X:=by intro Z;refine GR ?_;refine J6 ?_;refine JL Nt ?_;refine J1 ?_;refine mE rfl (SP ks hk first _) ?_;refine Hw ?_;exact Z.1):X:=h ⟨k⟩
def K2(h:A Y X:=by intro Z;refine JL Xd ?_;refine J1 ?_;exact Z.1):X:=h ⟨k⟩
def Ke(h:A Y X:=by intro Z;refine JL Hc ?_;refine J2 ?_;exact Z.1):X:=h ⟨k⟩
def YY(h:A Y X:=by intro Z;refine mE rfl (eW cb m k _ (Ac.L7 hi)) ?_;refine JR ?_;refine Bq ?_;refine JL VY ?_;refine J2 ?_;exact Z.1):X:=h ⟨k⟩
def Pe(h:A Y X:=by intro Z;refine Jf 9 ?_;refine Db 10 Cb rfl Er ?_;exact Z.1):X:=h ⟨k⟩
def Jy(h:A Y X:=by intro Z;refine DF ?_;refine J2 ?_;exact Z.1):X:=h ⟨k⟩
def Jb(h:A Y X:=by intro Z;refine J1 ?_;refine Gi ?_;exact Z.1):X:=h ⟨k⟩
def Jp(h:A Y X:=by intro Z;refine J2 ?_;refine KL ?_;exact Z.1):X:=h ⟨k⟩
def JK(h:A Y X:=by intro Z;refine J2 ?_;refine IP ?_;exact Z.1):X:=h ⟨k⟩
def V2(h:A Y X:=by intro Z;refine J7 ?_;refine JL Wk ?_;refine J1 ?_;refine mE rfl (XL hks p b o c _ hs inferInstance hx hop) ?_;exact Z.1):X:=h ⟨k⟩
def M5(h:A Y X:=by intro Z;refine J2 ?_;refine Af jJ rfl ?_;exact Z.1):X:=h ⟨k⟩
def ZI(h:A Y X:=by intro Z;refine JG F2 ?_;refine J1 ?_;refine JG F2 ?_;exact Z.1):X:=h ⟨k⟩
def VD(h:A Y X:=by intro Z;refine JY 16 rfl T2 CJ ?_;refine JY 17 rfl T2 BL ?_;refine JY 18 rfl T2 BX ?_;refine JY 19 rfl T2 BZ ?_;exact Z.1):X:=h ⟨k⟩
def aG(h:A Y X:=by intro Z;refine J4 ?_;refine JL VT ?_;refine Gx ?_;refine JL (RI (j:=128) rfl rfl ⟨Ca,Ca⟩) ?_;refine Yx ?_;exact Z.1):X:=h ⟨k⟩
def U'(h:A Y X:=by intro Z;refine J6 ?_;refine dI ?_;refine Jn 15 ?_;refine Jf 16 ?_;refine Jd 17 ?_;refine An 1 Cb rfl rfl Hb ?_;exact Z.1):X:=h ⟨k⟩
def V5(h:A Y X:=by intro Z;refine J2 ?_;refine wN ?_;refine Jn 16 ?_;refine Jf 17 ?_;refine Jd 18 ?_;refine An 2 Cb rfl rfl Hb ?_;exact Z.1):X:=h ⟨k⟩
def Q3(h:A Y X:=by intro Z;refine Jn 10 ?_;refine Jf 11 ?_;refine RB ?_;refine DF ?_;exact Z.1):X:=h ⟨k⟩
def Wx(h:A Y X:=by intro Z;refine J1 ?_;refine mA 11 12 ?_;refine Ji ?_;refine JT 5 rfl nD ?_;refine Jf 6 ?_;refine JT 7 rfl kB ?_;exact Z.1):X:=h ⟨k⟩
def QP(h:A Y X:=by intro Z;refine KK ?_;refine Jm 4 ?_;refine Jn 5 ?_;exact Z.1):X:=h ⟨k⟩
def Ny(h:A Y X:=by intro Z;refine I1 ?_;refine Jm 6 ?_;refine Jn 7 ?_;exact Z.1):X:=h ⟨k⟩
def Zk(h:A Y X:=by intro Z;refine I1 ?_;refine Jn 6 ?_;refine An 5 Cb rfl rfl (BJ rfl (NH _ 32 Cc _)) ?_;refine FB ?_;exact Z.1):X:=h ⟨k⟩
def P8(h:A Y X:=by intro Z;refine DH ?_;refine JL Ou ?_;refine J2 ?_;exact Z.1):X:=h ⟨k⟩
def J0(h:A Y X:=by intro Z;refine JR ?_;refine J5 ?_;exact Z.1):X:=h ⟨k⟩
def Wi(h:A Y X:=by intro Z;refine GA ?_;refine J5 ?_;refine JL gI ?_;refine J7 ?_;refine JL fQ ?_;refine JL YN ?_;refine J1 ?_;exact Z.1):X:=h ⟨k⟩
def P0(h:A Y X:=by intro Z;refine J7 ?_;refine JL NZ ?_;refine J2 ?_;exact Z.1):X:=h ⟨k⟩
def N3(h:A Y X:=by intro Z;refine Mq ?_;refine J1 ?_;refine JG F1 ?_;exact Z.1):X:=h ⟨k⟩
def bR(h:A Y X:=by intro Z;refine J6 ?_;refine JL (Gz rfl rfl hs45 Ca rfl) ?_;refine JL iQ ?_;refine Af TG rfl ?_;exact Z.1):X:=h ⟨k⟩
def cL(h:A Y X:=by intro Z;refine Jm 3 ?_;refine Ah 4 rfl Cb rfl rfl rfl rfl BL ?_;refine Ah 5 rfl Cb rfl rfl rfl rfl BX ?_;exact Z.1):X:=h ⟨k⟩
def UJ(h:A Y X:=by intro Z;refine J1 ?_;refine JL FV ?_;refine GA ?_;refine J9 ?_;exact Z.1):X:=h ⟨k⟩
def Oy(h:A Y X:=by intro Z;refine HW ?_;refine Jt ?_;refine GJ ?_;exact Z.1):X:=h ⟨k⟩
def XU(h:A Y X:=by intro Z;refine Jm 10 ?_;refine EM 11 rfl Cb rfl rfl rfl rfl ?_;refine EM 12 rfl Cb rfl rfl rfl rfl ?_;exact Z.1):X:=h ⟨k⟩
def KT(h:A Y X:=by intro Z;refine J5 ?_;refine Es ?_;exact Z.1):X:=h ⟨k⟩
def Ky(h:A Y X:=by intro Z;refine J2 ?_;refine oM ?_;exact Z.1):X:=h ⟨k⟩
def WG(h:A Y X:=by intro Z;refine GA ?_;refine J3 ?_;refine oK ?_;refine GF ?_;refine Np ?_;refine I1 ?_;refine gZ ?_;exact Z.1):X:=h ⟨k⟩
def Ks(h:A Y X:=by intro Z;refine Dm ?_;refine J1 ?_;exact Z.1):X:=h ⟨k⟩
def cG(h:A Y X:=by intro Z;refine K6 ?_;refine wM ?_;refine Hi ?_;refine qY ?_;refine JR ?_;refine K6 ?_;refine Iz ?_;exact Z.1):X:=h ⟨k⟩
def US(h:A Y X:=by intro Z;refine mA 16 16 ?_;refine IC ?_;refine Kq ?_;refine JT 8 rfl FF ?_;refine JT 9 rfl FC ?_;exact Z.1):X:=h ⟨k⟩
def MJ(h:A Y X:=by intro Z;refine IC ?_;refine Jm 4 ?_;exact Z.1):X:=h ⟨k⟩
def Yd(h:A Y X:=by intro Z;refine JN 11 rfl T1 ?_;refine JN 12 rfl T1 ?_;refine JN 13 rfl T1 ?_;refine JN 14 rfl T1 ?_;exact Z.1):X:=h ⟨k⟩
def XA(h:A Y X:=by intro Z;refine GR ?_;refine J1 ?_;refine FN ?_;refine J5 ?_;refine qC ?_;refine Af kE rfl ?_;exact Z.1):X:=h ⟨k⟩
def Kf(h:A Y X:=by intro Z;refine JD ?_;refine J4 ?_;exact Z.1):X:=h ⟨k⟩
def Tl(h:A Y X:=by intro Z;refine mI Tryz.func79 ?_;refine J9 ?_;refine JV ?_;exact Z.1):X:=h ⟨k⟩
def Ts(h:A Y X:=by intro Z;refine mI Tryz.func40 ?_;refine Gv ?_;refine J5 ?_;exact Z.1):X:=h ⟨k⟩
def VH(h:A Y X:=by intro Z;refine J4 ?_;refine JL iM ?_;refine MO ?_;refine JL fF ?_;refine JL G2 ?_;refine J7 ?_;exact Z.1):X:=h ⟨k⟩
def W6(h:A Y X:=by intro Z;refine mI Tryz.func194 ?_;refine B8 ?_;refine JL (Dr (j:=64) rfl rfl) ?_;refine J3 ?_;exact Z.1):X:=h ⟨k⟩
def bQ(h:A Y X:=by intro Z;refine Ah 17 rfl Cb rfl rfl rfl rfl BL ?_;refine Ah 18 rfl Cb rfl rfl rfl rfl BX ?_;exact Z.1):X:=h ⟨k⟩
def U6(h:A Y X:=by intro Z;refine Ah 37 rfl Cb rfl rfl rfl rfl BL ?_;refine Ah 38 rfl Cb rfl rfl rfl rfl BX ?_;exact Z.1):X:=h ⟨k⟩
def PN(h:A Y X:=by intro Z;refine FB ?_;refine JT 10 rfl Lv ?_;exact Z.1):X:=h ⟨k⟩
def ML(h:A Y X:=by intro Z;refine K6 ?_;refine Hi ?_;exact Z.1):X:=h ⟨k⟩
def LY(h:A Y X:=by intro Z;refine EK ?_;refine Pf ?_;exact Z.1):X:=h ⟨k⟩
def YK(h:A Y X:=by intro Z;refine Ah 8 rfl Cb rfl rfl rfl rfl BL ?_;refine Ah 9 rfl Cb rfl rfl rfl rfl BX ?_;exact Z.1):X:=h ⟨k⟩
def Xo(h:A Y X:=by intro Z;refine J6 ?_;refine mE rfl (yP q28 b28 o28 c28 ys _ hq28 inferInstance Ca) ?_;exact Z.1):X:=h ⟨k⟩
end
end Go.Proofs.YtgfdlpcdjklcoaaGreatDoor
