/- A part of this proof: steps of the program, plain facts; no condition. -/
import Derived.Test.YtgfdlpcdjklcoaaGreatDoorL3
namespace Go.Proofs.YtgfdlpcdjklcoaaGreatDoor
open Go Go.RowKit
set_option linter.unusedVariables false
set_option linter.defProp false
abbrev A(Y X:Prop):Prop:=B9 Y→X
section
variable{X:Prop}
def T1(h:X:=by exact decide_eq_true hg1):X:=h
def F1(h:X:=by exact decide_eq_false hg1):X:=h
def T2(h:X:=by exact decide_eq_true hg2):X:=h
def F2(h:X:=by exact decide_eq_false hg2):X:=h
def T3(h:X:=by exact decide_eq_true hg3):X:=h
def F3(h:X:=by exact decide_eq_false hg3):X:=h
def T4(h:X:=by exact decide_eq_true hg4):X:=h
def F4(h:X:=by exact decide_eq_false hg4):X:=h
def T5(h:X:=by exact decide_eq_true hg5):X:=h
def F5(h:X:=by exact decide_eq_false hg5):X:=h
def Ca(h:X:=by omega):X:=h
def Cb(h:X:=by kernel_rfl):X:=h
def Cc(h:X:=by decide):X:=h
def Cd(h:X:=by first|trivial|omega):X:=h
def Ce(h:X:=by simp [Value.oneCell']):X:=h
def Cf(h:X:=by ac_rfl):X:=h
def Cg(h:X:=by simp):X:=h
def Ch(h:X:=by constructor<;>rfl):X:=h
def Ci(h:X:=by have:=hs.2;omega):X:=h
def Cj(h:X:=by rw [HP.BI]):X:=h
def Ck(h:X:=by simp;omega):X:=h
def Cl(h:X:=by unfold CV;ac_rfl):X:=h
def Cm(h:X:=by congr 1;ac_rfl):X:=h
def Cn(h:X:=by simp only [List.length_singleton];omega):X:=h
def Co(h:X:=by first|omega|(simp;omega)):X:=h
def Cp(h:X:=by first|kernel_rfl|simp [Instr.fill,Value.cells]):X:=h
def Cq(h:X:=by rw [ewr];rfl):X:=h
def Cr(h:X:=by show(0:Int)<_;decide):X:=h
def Cs(h:X:=by simp [rec_]):X:=h
def Ct(h:X:=by rw [ewr]):X:=h
def Cu(h:X:=by rw [List.foldl_append,List.foldl_cons,List.foldl_nil,ZJ];simp only [h43,h59,if_true,if_false];assumption):X:=h
def Cv(h:X:=by rw [List.foldl_append,List.foldl_cons,List.foldl_nil,ZJ];simp only [h43,h59,if_true,if_false];ac_rfl):X:=h
def Cw(h:X:=by show 0<_;decide):X:=h
def Cx(h:X:=by simp [hg]):X:=h
def Cy(h:X:=by rw [ZU];(repeat' split)<;>first|rfl|(exfalso;omega)):X:=h
def Cz(h:X:=by rw [hl];rfl):X:=h
def OD(h:X:=by rw [e3];rfl):X:=h
def Z5(h:X:=by congr 1;rw [Gm,HP.BI,HP.BI];ac_rfl):X:=h
def Ju(h:X:=by rw [hl];exact⟨.inr rfl,Nat.le_refl _⟩):X:=h
def RP(h:X:=by rw [ewr];exact .inl ⟨rfl,rfl,rfl⟩):X:=h
def NQ(h:X:=by rw [List.length_take];omega):X:=h
def MA(h:X:=by rw [Gk,HP.BI]):X:=h
def MN(h:X:=by rw [HP.CI];rfl):X:=h
def KZ(h:X:=by rw [En];omega):X:=h
def Yd(h:X:=by unfold Dd;omega):X:=h
def KP(h:X:=by rw [hl];omega):X:=h
def Vt(h:X:=by congr 1;rw [Kl cb ws j wm hjl];unfold Bl;ac_rfl):X:=h
def Ru(h:X:=by congr 1;rw [IT nb w _ hC hr hE];ac_rfl):X:=h
def Yb(h:X:=by rw [getD_some hC];rfl):X:=h
def Rc(h:X:=by rw [hw2]):X:=h
def To(h:X:=by rw [getD_some hr];rfl):X:=h
def jA(h:X:=by rw [getD_some hE];rfl):X:=h
def Lt(h:X:=by simp [hs]):X:=h
def MX(h:X:=by simp [h2]):X:=h
def Tl(h:X:=by congr 1;first|ac_rfl|(rw [Em];ac_rfl)):X:=h
def g6(h:X:=by rw [List.length_append,GO hk];rfl):X:=h
def iV(h:X:=by rw [hfill];exact⟨rfl,rfl,rfl⟩):X:=h
def N5(h:X:=by rw [decide_eq_false (by omega)]):X:=h
def N8(h:X:=by show(0:Nat)<_;decide):X:=h
def NY(h:X:=by rw [GO hk];rfl):X:=h
def Mm(h:X:=by unfold Bl;ac_rfl):X:=h
def Oh(h:X:=by unfold AB;ac_rfl):X:=h
def NW(h:X:=by rw [hgv];simp):X:=h
def zP(h:X:=by show Value.bool _=Value.bool _;congr 1;apply Bool.eq_iff_iff.2;simp only [decide_eq_true_eq,Bool.true_eq,Bool.false_eq_true,iff_true,iff_false,true_iff,false_iff,eq_self];omega):X:=h
def yG(h:X:=by rw [decide_eq_decide];exact⟨fun h=>⟨hof,hcd,hg1,hg2,h,hF.kind⟩,fun h=>h.2.2.2.2.1⟩):X:=h
def Oe(h:X:=by unfold CF;simp only [Nat.reduceEqDiff,if_false,if_true,e8,e10,e12]):X:=h
def gP(h:X:=by rw [hc0];exact .cons rfl (.cons rfl (.cons rfl .nil))):X:=h
def OR(h:X:=by show z.l.length-(z'.2+1)<z.l.length-z'.2;omega):X:=h
def OK(h:X:=by show l.length-(z.j+1)<l.length-z.j;omega):X:=h
def Vn(h:X:=by congr 1;rw [Lc cb m R j hjl,hrm];ac_rfl):X:=h
def Z7(h:X:=by congr 1;rw [IT nb w H hC hr hE];ac_rfl):X:=h
def ZY(h:X:=by rw [List.length_append,GO hks];rfl):X:=h
def TQ(h:X:=by rw [JA cb m.ws j hjl,hwx];ac_rfl):X:=h
def Pg(h:X:=by rw [List.length_append];omega):X:=h
def P0(h:X:=by show(0:Int)≤(k:Int);omega):X:=h
def O2(h:X:=by rw [List.length_drop];omega):X:=h
def P'(h:X:=by rw [List.length_append];rfl):X:=h
def zZ(h:X:=by rw [xK,←hw1e,he2]):X:=h
def Om(h:X:=by show(3:Int)≤5;decide):X:=h
def QB(h:X:=by have:=En p;omega):X:=h
def Pv(h:X:=by show(k:Int)<4;omega):X:=h
def Qu(h:X:=by rw [G9];omega):X:=h
def Qf(h:X:=by simp [Region.wanted]):X:=h
def OW(h:X:=by rw [Em];ac_rfl):X:=h
def YS(h:X:=by rw [hPSl];omega):X:=h
def Ox(h:X:=by simpa using h):X:=h
def Zm(h:X:=by rw [f3];omega):X:=h
def PZ(h:X:=by rw [h];rfl):X:=h
def PL(h:X:=by simp [hx]):X:=h
def yW(h:X:=by first|rfl|(show some (Value.bool (decide _))=_;rw [decide_eq_false (n3 (by simpa using hg1) hg2)])):X:=h
def zC(h:X:=by rw [NM.Fw w hC hr2,hs2,←hx0];exact H6 hr2 hE _):X:=h
def r5(h:X:=by rw [hst,e4,NM.Fw w hC hr,hs2];exact H6 hr hE _):X:=h
def TP(h:X:=by rw [List.length_append,h1,h2,e31];have:=hs.2;omega):X:=h
def hB(h:X:=by congr 1;rw [IT nb w _ hC hr2 hE];ac_rfl):X:=h
def T9(h:X:=by congr 1;rw [OU cb m R j hjl];ac_rfl):X:=h
def VU(h:X:=by show l.length-(i+1)<l.length-i;omega):X:=h
def SD(h:X:=by simp only [KM,List.length_set];omega):X:=h
def R9(h:X:=by rw [IT nb w _ hC hr hE];ac_rfl):X:=h
def U9(h:X:=by rw [s.finished];exact o.finished):X:=h
def SI(h:X:=by unfold AT DN A1.h;ac_rfl):X:=h
def YC(h:X:=by rw [hrn,NM.Fw w hC hr,hs2]):X:=h
def SC(h:X:=by rw [Ej nb w _ hC hr hE]):X:=h
def Sm(h:X:=by rw [Ab.Py,ewr,hrd2]):X:=h
def VL(h:X:=by rw [s.given];exact o.given):X:=h
def RV(h:X:=by rw [G9];exact h20):X:=h
def X5(h:X:=by rw [s.code];exact o.code):X:=h
def Xc(h:X:=by rw [Rn b o i l s]):X:=h
def We(h:X:=by rw [s.b];exact o.wrote):X:=h
def VH(h:X:=by have:=hwm.1.1.2;omega):X:=h
def UI(h:X:=by rw [getD_some hF];rfl):X:=h
def Tf(h:X:=by rw [hw.len];exact hk):X:=h
def S6(h:X:=by have:=hm.size;omega):X:=h
def jV(h:X:=by rw [←hs2,han];rfl):X:=h
def Tr(h:X:=by unfold Fb;ac_rfl):X:=h
def iI(h:X:=by rw [d5,hcl]):X:=h
def vD(h:X:=by have:=this.2;omega):X:=h
def Tk(h:X:=by simp [D9];omega):X:=h
def Sz(h:X:=by have:=hqs.2;omega):X:=h
def y9(h:X:=by simpa using hg1):X:=h
def Rh(h:X:=by simpa using hr):X:=h
def Sd(h:X:=by simpa using ht):X:=h
def T7(h:X:=by simpa using hg):X:=h
def SX(h:X:=by rw [hnone];rfl):X:=h
def pU(h:X:=by first|rfl|(rw [show At nb w2.x*(AB w2.xa.b w2.xa.o w2.cs w2.xa.s*(AB w2.ea.b w2.ea.o w2.rows w2.ea.s*(AB w2.ba.b w2.ba.o w2.AJ w2.ba.s*(AB w2.ca.b w2.ca.o w2.cnt w2.ca.s*(AO CJ w2.cs*(AO CK w2.rows*(HP.AA b14 0 (BG ⟨0,-1,0,0,⟨#[]⟩,[]⟩ (.slice ps.p 0 ps.c))*(ps.h ([]:List ByteArray)*H))))))))=Av nb w2*(HP.AA b14 0 (BG ⟨0,-1,0,0,⟨#[]⟩,[]⟩ (.slice ps.p 0 ps.c))*(ps.h ([]:List ByteArray)*H))from(Em nb w2 _).symm,Ej nb w2 _ hC1 hr1 hE1];ac_rfl)):X:=h
def qX(h:X:=by first|exact congrArg Value.bool (decide_eq_true (p:=rv.1.1=6) (by omega))|exact congrArg Value.bool (decide_eq_true (p:=rv.1.1=0) (by omega))|rfl):X:=h
def Ur(h:X:=by rw [hrm2];unfold Df.ok;dsimp only;rw [hdo];exact⟨⟨by rw [z6];exact ha1.1,by rw [z6];exact ha1.2⟩,z9⟩):X:=h
def Zw(h:X:=by rw [hti,List.length_append,Bp,List.length_drop];show i*2+((l.length-i)*2+s.length)=c*2;omega):X:=h
def Vg(h:X:=by rw [List.length_append,List.length_singleton]at hc⊢;rw [KI xs pre (by omega)]at hc;omega):X:=h
def VF(h:X:=by simp only [B3,List.append_nil];exact .cons rfl (.cons rfl (.cons rfl (.cons rfl (.cons rfl .nil))))):X:=h
def xA(h:X:=by rw [hr];first|(rw [if_pos h37,if_pos h37];ac_rfl)|(rw [if_neg h37,if_neg h37];unfold AS;ac_rfl)):X:=h
def WO(h:X:=by rw [hjn,List.drop_length,List.length_append,hti];simp only [List.length_singleton];have:=hs.2;omega):X:=h
def cH(h:X:=by show _=G (l.take (z.j+1))*(AB b o (z.L.set z.i (z.L.getD z.j AC.AH)) s*R);rw [ets];ac_rfl):X:=h
def cI(h:X:=by intro v hv;rcases List.mem_append.1 hv with h|h;exact KA _ v h;simp at h;subst h;rfl):X:=h
def wD(h:X:=by rw [hst,e4,NM.Fw w hC hr,hs2,e3];exact(H6 hr hE _).trans (Qn hC)):X:=h
def VR(h:X:=by rw [show Bz ks side xs=none from if_pos (by omega)];exact⟨rfl,rfl⟩):X:=h
def uY(h:X:=by have:=hwm.1.1;exact Ei this (by omega) (by have:=this.2;omega) hcl2):X:=h
def cK(h:X:=by show r.f.ranges.length-1-(i+1)<r.f.ranges.length-1-i;omega):X:=h
def Vm(h:X:=by rw [hsp];exact⟨by rw [MY],by rw [MY];omega⟩):X:=h
def VG(h:X:=by show _=List.take ((c.r k).b.take n).length _;rw [htl];exact hd2):X:=h
def Yk(h:X:=by unfold CF;simp only [Nat.reduceEqDiff,if_false,if_true,e8,e10]):X:=h
def X4(h:X:=by unfold CF;simp only [Nat.reduceEqDiff,if_false,if_true,e8]):X:=h
def dI(h:X:=by unfold CF;simp only [Nat.reduceEqDiff,if_false,if_true,e9]):X:=h
def zJ(h:X:=by first|rw [if_pos hc,←e];rfl|rw [if_neg hc,←e];rfl):X:=h
def kC(h:X:=by show(AX pb).size<_;rw [En];have:=hby.pl;omega):X:=h
def X6(h:X:=by show((n.x i).w k).b++_=_;rw [o.wrote,List.append_nil]):X:=h
def mT(h:X:=by rw [NM.Fw w2 hC1 hr1,hs3];exact H6 hr1 hE1 _):X:=h
def Wu(h:X:=by rw [List.length_append,GO hk];exact⟨rfl,rfl⟩):X:=h
def bH(h:X:=by show(c.r k).read+n=_+((c.r k).b.take n).length;omega):X:=h
def XR(h:X:=by show _=G (l.take (z.j+1))*(AB b o z.L s*R);rw [ets]):X:=h
def YM(h:X:=by rw [Bp,List.length_take,Nat.min_eq_left h]):X:=h
def pT(h:X:=by first|rfl|(rw [Ej nb w _ hC hr2 hE];ac_rfl)):X:=h
def cW(h:X:=by rcases hk with⟨rfl,_⟩|⟨rfl,_⟩<;>decide):X:=h
def Xh(h:X:=by show fm.fs.length-(i+1)<fm.fs.length-i;omega):X:=h
def cS(h:X:=by rw [List.length_append,hti,hdj];have:=hs.2;omega):X:=h
def mV(h:X:=by show HP.AA b15 0 (AD [(2:UInt8)])*_=_;ac_rfl):X:=h
def fF(h:X:=by rw [hinv];exact xX hm e40 e42 (by omega)):X:=h
def rA(h:X:=by congr 1;rw [IT nb w2 _ hC1 hr1 hE1];ac_rfl):X:=h
def ZO(h:X:=by rw [hinv,GJ];rw [AR,if_neg h22,if_neg h26]):X:=h
def XH(h:X:=by show _=HP.AA b5 0 _*(HP.AA b6 0 _*_);ac_rfl):X:=h
def lU(h:X:=by subst he;rw [List.take_append_drop];exact hs):X:=h
def gU(h:X:=by subst he;rw [List.take_append_drop];exact hc):X:=h
def eA(h:X:=by rw [FI,if_neg h5,if_pos (by omega)];rfl):X:=h
def XZ(h:X:=by show fs.length-(i+1)<fs.length-i;omega):X:=h
def Yu(h:X:=by show _+((c.r k).b.take n).length≤_;omega):X:=h
def Wk(h:X:=by rw [hfe2];exact⟨rfl,by rw [hw2],hde2⟩):X:=h
def ZC(h:X:=by rw [←Rn b o i l s];infer_instance):X:=h
def X9(h:X:=by rw [←s6 hc0 hc1 hc2 hn,HP.CI]):X:=h
def WM(h:X:=by show i<n.count.length;rw [h.cl];exact hi):X:=h
def Zd(h:X:=by rw [En,decide_eq_false (by omega)]):X:=h
def Up(h:X:=by show(c.r k).read≤(c.r k).read+n;omega):X:=h
def WT(h:X:=by show((c.r k).b.take n).length≤_;omega):X:=h
def VD(h:X:=by have:=(xs.getD (a+i+1) 0).toNat_lt;omega):X:=h
def aN(h:X:=by show j-((i+j)/2^1+1)<j-i;omega):X:=h
def q7(h:X:=by subst he;rw [List.take_append_drop];rfl):X:=h
def YO(h:X:=by rw [←iA hc0 hc1 hc2,HP.CI]):X:=h
def YJ(h:X:=by rw [MY];exact Nat.le_refl _):X:=h
def Wc(h:X:=by rw [List.length_append,hm,hbl];omega):X:=h
def nE(h:X:=by rw [decide_eq_false (fun x=>x rfl)]):X:=h
def dU(h:X:=by rw [hsn];dsimp only [Iv.at];ac_rfl):X:=h
def Us(h:X:=by show(i+j)/2^1-i<j-i;omega):X:=h
def jZ(h:X:=by subst he;rw [List.take_append_drop]):X:=h
def WD(h:X:=by have:=CS d.size;simp;omega):X:=h
def XP(h:X:=by rw [hfill];exact⟨rfl,rfl,hde3⟩):X:=h
def W5(h:X:=by rw [hjn,List.drop_length];simp;rfl):X:=h
def VS(h:X:=by rw [hinv,GJ];rw [AR,if_pos h22]):X:=h
def Wt(h:X:=by rw [←xW hc0 hc1,HP.CI]):X:=h
def VK(h:X:=by show(told.take n).length<_;omega):X:=h
def eC(h:X:=by simp only [B3,List.append_nil]):X:=h
def Xm(h:X:=by unfold DG;rw [if_neg (by omega)]):X:=h
def aC(h:X:=by rw [hst,e4,NM.Fw w hC hr,hs2]):X:=h
def yB(h:X:=by rw [UO,M1,hrv]):X:=h
def aK(h:X:=by rw [M6 h2.o hk4];simp):X:=h
def Xb(h:X:=by show(i+j)/2^1+1≤j;omega):X:=h
def aH(h:X:=by rw [Rn b o i l s];ac_rfl):X:=h
def Yz(h:X:=by rw [hz1];exact⟨hs99,hc99⟩):X:=h
def Ya(h:X:=by rw [hz1];exact⟨hs70,hc70⟩):X:=h
def Yv(h:X:=by rw [←nH hc0,HP.CI]):X:=h
def Wf(h:X:=by show i≤(i+j)/2^1;omega):X:=h
def bP(h:X:=by show(i+j)/2^1≤n;omega):X:=h
def cJ(h:X:=by rw [h3];rw [h3]at h5;omega):X:=h
def Yh(h:X:=by show k-(j+1)<k-j;omega):X:=h
def bQ(h:X:=by rw [←uC (by omega)];rfl):X:=h
def Ww(h:X:=by show 4-(k+1)<4-k;omega):X:=h
def bW(h:X:=by rw [nO l hl];exact h41):X:=h
def Um(h:X:=by rw [fS l hl];exact h41):X:=h
def aE(h:X:=by show 2-(i+1)<2-i;omega):X:=h
def sX(h:X:=by exact .cons rfl (.nil)):X:=h
def OP(h:X:=by exact .cons rfl .nil):X:=h
def Ut(h:X:=by exact .cons rfl (.cons rfl (.nil))):X:=h
def D6(h:X:=by exact .cons rfl (.cons rfl (.cons rfl (.nil)))):X:=h
def Hd(h:X:=by exact .cons rfl (.cons rfl .nil)):X:=h
def Dn(h:X:=by exact Fk rfl trivial):X:=h
def EG(h:X:=by exact .cons rfl (.cons rfl (.cons rfl .nil))):X:=h
def IK(h:X:=by exact .cons rfl (.cons rfl (.cons rfl (.cons rfl (.nil))))):X:=h
def BO(h:X:=by exact TA rfl):X:=h
def BW(h:X:=by exact⟨rfl,rfl⟩):X:=h
def BX(h:X:=by exact Fk rfl Cd):X:=h
def C9(h:X:=by exact .cons rfl (.cons rfl (.cons rfl (.cons rfl .nil)))):X:=h
def HD(h:X:=by exact .cons rfl (.cons rfl (.cons rfl (.cons rfl (.cons rfl (.nil)))))):X:=h
def Be(h:X:=by exact Q6 rfl):X:=h
def Bh(h:X:=by exact⟨_,rfl⟩):X:=h
def RS(h:X:=by exact Fe (v:=.int .i64 (0:Nat)) rfl):X:=h
def NB(h:X:=by exact Gx (j:=1) rfl rfl Ca):X:=h
def Fi(h:X:=by exact .cons rfl (.cons rfl (.cons rfl (.cons rfl (.cons rfl (.cons rfl (.nil))))))):X:=h
def Eu(h:X:=by exact Eh rfl rfl rfl Cd):X:=h
def CG(h:X:=by exact⟨.inr rfl,Nat.le_refl _⟩):X:=h
def CT(h:X:=by exact UQ rfl):X:=h
def DH(h:X:=by exact Nat.le_refl _):X:=h
def LD(h:X:=by exact TM rfl):X:=h
def eP(h:X:=by exact TS rfl):X:=h
def Ey(h:X:=by exact Ex rfl rfl rfl Ce):X:=h
def G4(h:X:=by exact .cons rfl (.cons rfl (.cons rfl (.cons rfl (.cons rfl .nil))))):X:=h
def Dh(h:X:=by exact Gl rfl rfl rfl):X:=h
def ED(h:X:=by exact .inl Cc):X:=h
def Kj(h:X:=by exact De rfl rfl Ch Ce):X:=h
def Hn(h:X:=by exact yX rfl rfl Ce rfl rfl rfl):X:=h
def X'(h:X:=by exact Fe (v:=.int .u64 (0:Nat)) rfl):X:=h
def FD(h:X:=by exact Jv rfl (MC Ca)):X:=h
def TV(h:X:=by exact Q6 (v:=.int .i64 (0:Nat)) rfl):X:=h
def ET(h:X:=by exact Nat.le_succ t):X:=h
def Gv(h:X:=by exact .cons rfl (.cons rfl (.cons rfl (.cons rfl (.cons rfl (.cons rfl (.cons rfl (.nil)))))))):X:=h
def Uh(h:X:=by exact GK rfl rfl rfl):X:=h
def FT(h:X:=by exact bN rfl):X:=h
def Eo(h:X:=by exact Gl F1 rfl rfl):X:=h
def Fg(h:X:=by exact Fe rfl):X:=h
def H9(h:X:=by exact GM rfl rfl):X:=h
def iP(h:X:=by exact J0 (r:=.bool false) rfl rfl (fun w=>by kernel_rfl) (fun w=>by kernel_rfl)):X:=h
def Jp(h:X:=by exact GK hg1 rfl rfl):X:=h
def Fx(h:X:=by exact⟨.inl rfl,Nat.le_refl _⟩):X:=h
def Ff(h:X:=by exact Nat.zero_le _):X:=h
def Ia(h:X:=by exact Gl hg1 rfl rfl):X:=h
def Fu(h:X:=by exact GK T1 rfl rfl):X:=h
def HJ(h:X:=by exact KY rfl rfl Ca):X:=h
def GT(h:X:=by exact zW rfl rfl):X:=h
def GE(h:X:=by exact FV (l:=[.int .i64 0,.int .i64 0,.int .i64 0,.int .u64 0,.string ⟨#[]⟩,.slice none 0 0]) rfl):X:=h
def V9(h:X:=by exact .cons rfl (.cons rfl (.cons rfl (.cons rfl (.cons rfl (.cons rfl .nil)))))):X:=h
def zB(h:X:=by exact Db (l:=[_]) rfl rfl):X:=h
def G6(h:X:=by exact Xf rfl):X:=h
def G8(h:X:=by exact Kz Cb rfl):X:=h
def Mj(h:X:=by exact .cons rfl (.cons rfl (.cons rfl (.cons rfl (.cons rfl (.cons rfl (.cons rfl .nil))))))):X:=h
def Mb(h:X:=by exact FV (l:=[_]) rfl):X:=h
def Hr(h:X:=by exact GK T2 rfl rfl):X:=h
def HZ(h:X:=by exact Gl F2 rfl rfl):X:=h
def Hm(h:X:=by exact QC (i:=0) (q:=0) rfl rfl Ca rfl):X:=h
def Hv(h:X:=by exact QC (i:=2) (q:=2) rfl rfl Ca rfl):X:=h
def Ih(h:X:=by exact Kk rfl rfl Ca):X:=h
def M2(h:X:=by exact FV (l:=[_,_]) rfl):X:=h
def X7(h:X:=by exact B6 (j:=0) rfl rfl):X:=h
def If(h:X:=by exact⟨rfl,rfl,rfl,rfl,rfl⟩):X:=h
def IP(h:X:=by exact⟨rfl,rfl,rfl⟩):X:=h
def Lh(h:X:=by exact MR rfl rfl):X:=h
def I2(h:X:=by exact QC (i:=3) (q:=3) rfl rfl Ca rfl):X:=h
def Ko(h:X:=by exact HG rfl rfl hsl Ca rfl):X:=h
def Jg(h:X:=by exact cX rfl rfl):X:=h
def Jr(h:X:=by exact JO rfl rfl Ca):X:=h
def Mt(h:X:=by exact Nat.le_refl t):X:=h
def xF(h:X:=by exact Db (l:=AD ks) rfl rfl):X:=h
def VE(h:X:=by exact eX rfl):X:=h
def N4(h:X:=by exact B6 rfl rfl):X:=h
def y6(h:X:=by exact congrArg (fun z=>some (Value.int .i64 z)) hst):X:=h
def K9(h:X:=by exact QC (i:=1) (q:=1) rfl rfl Ca rfl):X:=h
def LH(h:X:=by exact Tm rfl rfl):X:=h
def KV(h:X:=by exact aY rfl rfl):X:=h
def lS(h:X:=by exact FV (l:=[_,_,_]) rfl):X:=h
def Qm(h:X:=by exact FE (j:=0) rfl rfl):X:=h
def Ka(h:X:=by exact I' (d:=AC.AH) hjl):X:=h
def q8(h:X:=by exact Db (l:=AM r) rfl rfl):X:=h
def Kc(h:X:=by exact Gl hg3 rfl rfl):X:=h
def LK(h:X:=by exact .inl ⟨Yd,rfl,rfl⟩):X:=h
def LG(h:X:=by exact⟨fun ww hw=>Sat.right (A:=HP.AA b3 0 (DT q)) (Eq.mp Z5 hw)⟩):X:=h
def Ps(h:X:=by exact List.mem_of_getElem? hr):X:=h
def Pm(h:X:=by exact Ay (Fk rfl trivial) hok.xv):X:=h
def Kx(h:X:=by exact Ay (v':=.bool false) (TM rfl) rfl):X:=h
def N3(h:X:=by exact Ds rfl (GO hk)):X:=h
def Ma(h:X:=by exact Jv rfl (RK Ca)):X:=h
def MK(h:X:=by exact Ie rfl rfl Ca):X:=h
def Ns(h:X:=by exact Ie (j:=1) rfl rfl Ca):X:=h
def Lm(h:X:=by exact HG rfl rfl hs Ca rfl):X:=h
def MW(h:X:=by exact Wl rfl rfl):X:=h
def Wi(h:X:=by exact zM rfl):X:=h
def L9(h:X:=by exact DJ cb m R):X:=h
def NI(h:X:=by exact KY (j:=1) rfl rfl Ca):X:=h
def F!(h:X:=by exact List.mem_map.2 ⟨a,ha,rfl⟩):X:=h
def LY(h:X:=by exact .cons rfl (.cons rfl (.cons rfl (.cons rfl (.cons rfl (.cons rfl (.cons rfl (.cons rfl (.cons rfl (.nil)))))))))):X:=h
def v9(h:X:=by exact .cons rfl (.cons rfl (.cons rfl (.cons rfl (.cons rfl (.cons rfl (.cons rfl (.cons rfl (.nil))))))))):X:=h
def aJ(h:X:=by exact JE (j:=8) rfl rfl Ca):X:=h
def bC(h:X:=by exact⟨fun ww hw=>Eq.mp Vt hw⟩):X:=h
def MQ(h:X:=by exact .cons rfl (.cons rfl (.cons rfl (.cons rfl (.cons rfl (.cons rfl (.cons rfl (.cons rfl .nil)))))))):X:=h
def Oc(h:X:=by exact D8 (f:=0) (xs:=r.es) (v:=ptr E.q 0) rfl inferInstance jA Ca):X:=h
def R8(h:X:=by exact D8 (f:=0) (xs:=w.cs) (v:=ptr C.cb 0) rfl inferInstance Yb Ca):X:=h
def vA(h:X:=by exact Db (l:=AD ks++[u8 side]) rfl rfl):X:=h
def Mr(h:X:=by exact Ds rfl g6):X:=h
def No(h:X:=by exact SL rfl rfl):X:=h
def Mq(h:X:=by exact D4 rfl rfl):X:=h
def NL(h:X:=by exact⟨_,rfl,rfl⟩):X:=h
def Nx(h:X:=by exact Kz (v:=.int .i64 (9:Nat)) Cb rfl):X:=h
def NK(h:X:=by exact M4 (i:=j) rfl rfl Ca):X:=h
def Mx(h:X:=by exact Kz (v:=.int .i64 (3:Nat)) Cb rfl):X:=h
def N0(h:X:=by exact HT cb m R):X:=h
def M9(h:X:=by exact J0 (r:=.bool true) rfl rfl (fun w=>by kernel_rfl) (fun w=>by kernel_rfl)):X:=h
def Mo(h:X:=by exact GK hg2 rfl rfl):X:=h
def NA(h:X:=by exact Gl hg2 rfl rfl):X:=h
def Ny(h:X:=by exact⟨congrArg Value.bool (decide_eq_false (fun h=>by have h1:=h.2 i hlt;unfold Fr at h1;omega)).symm,rfl⟩):X:=h
def NJ(h:X:=by exact⟨congrArg Value.bool (decide_eq_decide.2 ⟨fun h=>⟨List.length_pos_iff.1 h,hdone⟩,fun h=>List.length_pos_iff.2 h.1⟩),rfl⟩):X:=h
def G_(h:X:=by exact decide_eq_decide.2 ⟨fun h=>⟨List.length_pos_iff.1 h,hdone⟩,fun h=>List.length_pos_iff.2 h.1⟩):X:=h
def NX(h:X:=by exact Gc rfl (Vx rb _)):X:=h
def vM(h:X:=by exact pD rfl rfl):X:=h
def Q0(h:X:=by exact FV (l:=[_,_,_,_,_,_,_,_]) rfl):X:=h
def PO(h:X:=by exact Nat.le_max_left _ _):X:=h
def Ou(h:X:=by exact .inl (List.mem_filter.1 hp).1):X:=h
def RZ(h:X:=by exact OB (k':=(l.take i).length) rfl rfl Ci NQ):X:=h
def O7(h:X:=by exact Nat.not_lt_zero j):X:=h
def OX(h:X:=by exact Im rfl (fun w _=>d6 _ w)):X:=h
def OO(h:X:=by exact SF (v:=.tuple #[.nilIface,.bool false]) rfl (run_typeAssert_lacksB Au.get Cb Cb _ _)):X:=h
def O4(h:X:=by exact GM (j:=4611686018427387903) rfl rfl):X:=h
def sQ(h:X:=by exact M4 (i:=j) rfl (congrArg (fun z=>some (Value.int .i64 z)) hst) Ca):X:=h
def PN(h:X:=by exact BJ rfl (aS 4096 _ Ca)):X:=h
def RR(h:X:=by exact FV (l:=[_,_,_,_,_,_,_]) rfl):X:=h
def Qy(h:X:=by exact Ay (Fk rfl trivial) hm.fv):X:=h
def ON(h:X:=by exact C4 (j:=5) rfl rfl):X:=h
def ZT(h:X:=by exact Wm rfl rfl):X:=h
def Oj(h:X:=by exact GK hg3 rfl rfl):X:=h
def YE(h:X:=by exact JE (j:=24) rfl rfl Ca):X:=h
def qH(h:X:=by exact JE (j:=16) rfl rfl Ca):X:=h
def Xt(h:X:=by exact Jv (i:=st) (congrArg (fun z=>some (Value.int .i64 z)) hst) (MC Ca)):X:=h
def TY(h:X:=by exact CU (b:=r.b) (o:=r.o) rfl rfl hrok Ca):X:=h
def Te(h:X:=by exact KY (j:=2) rfl rfl Ca):X:=h
def Qb(h:X:=by exact⟨congrArg Value.bool yG,rfl⟩):X:=h
def Qq(h:X:=by exact⟨congrArg Value.bool (decide_eq_false (fun h=>hg2 h.2.2.2.1)).symm,rfl⟩):X:=h
def P4(h:X:=by exact⟨congrArg Value.bool (decide_eq_false (fun h=>hg1 h.2.2.1)).symm,rfl⟩):X:=h
def PU(h:X:=by exact Gc rfl (Lx rb p b o c xs a _ hs inferInstance hx Ca)):X:=h
def OL(h:X:=by exact⟨rfl,h.Sh hi (Nat.le_refl t) hc (.refl hc) (fun k=>.refl _)⟩):X:=h
def Yt(h:X:=by exact Kz (v:=.int .i64 (1:Nat)) Cb rfl):X:=h
def jH(h:X:=by exact .inl ⟨fun h=>by have h1:=h.1;have h2:=h.2.1;have h3:=h.2.2.1;have h4:=h.2.2.2;omega,rfl,rfl⟩):X:=h
def Pk(h:X:=by exact Ay (v':=.bool false) (FE (i:=0) (j:=0) rfl rfl) rfl):X:=h
def u5(h:X:=by exact FE (i:=0) (j:=0) rfl rfl):X:=h
def zO(h:X:=by exact CU (i:=i) rfl rfl hok.xa.1 Ca):X:=h
def dJ(h:X:=by exact Ay (Fk rfl trivial) hok.ev):X:=h
def aL(h:X:=by exact D8 (f:=0) (xs:=w.rows) (v:=.slice r.a.p r.es.length r.a.c) rfl inferInstance To Ca):X:=h
def PM(h:X:=by exact Ay (v':=.string (AX p)) (Fk rfl trivial) (by rw [i94])):X:=h
def SQ(h:X:=by exact Nat.min_le_left _ _):X:=h
def Rg(h:X:=by exact P5 rfl inferInstance Ca):X:=h
def Ty(h:X:=by exact Qz rfl inferInstance Ca):X:=h
def SW(h:X:=by exact Q4 rfl rfl Ci):X:=h
def Ra(h:X:=by exact JO (j:=1) rfl rfl Ca):X:=h
def X3(h:X:=by exact FE (i:=22) (j:=22) rfl rfl):X:=h
def WZ(h:X:=by exact Fk (hr:=Vo hG) rfl trivial):X:=h
def SK(h:X:=by exact show j<wz.length by omega):X:=h
def UX(h:X:=by exact .inl (List.mem_map.2 ⟨a,ha,rfl⟩)):X:=h
def Sb(h:X:=by exact .inr (List.mem_map.2 ⟨a,ha,rfl⟩)):X:=h
def TU(h:X:=by exact .inr inferInstance):X:=h
def wT(h:X:=by exact⟨fun ww hw=>Sat.right (A:=HP.AA b3 0 (AM r)) (Eq.mp Vn hw)⟩):X:=h
def SN(h:X:=by exact Ds (l:=AM r) rfl rfl):X:=h
def UW(h:X:=by exact B6 (j:=2) rfl rfl):X:=h
def Tj(h:X:=by exact GM (j:=0) rfl rfl):X:=h
def So(h:X:=by exact D4 (j:=2) rfl rfl):X:=h
def Ue(h:X:=by exact GK T4 rfl rfl):X:=h
def S2(h:X:=by exact GK T3 rfl rfl):X:=h
def TJ(h:X:=by exact Gl F4 rfl rfl):X:=h
def Tx(h:X:=by exact Gc rfl (Vx b13 _)):X:=h
def ZR(h:X:=by exact Ds (l:=AD m.x.ks++[u8 (Af (!m.x.first))]) rfl ZY):X:=h
def SV(h:X:=by exact Nat.le_add_right _ _):X:=h
def SH(h:X:=by exact Ds (l:=AD ks) rfl (GO hk)):X:=h
def Uk(h:X:=by exact M4 (i:=l.length) rfl rfl h41):X:=h
def jF(h:X:=by exact .cons yW (.cons rfl (.cons rfl (.cons rfl (.cons rfl (.cons rfl (.nil))))))):X:=h
def UE(h:X:=by exact show 0<4 by omega):X:=h
def gY(h:X:=by exact B6 (i:=rv.1.1) (j:=0) rfl rfl):X:=h
def Wg(h:X:=by exact⟨fun ww hw=>Sat.right (A:=HP.AA b10 0 (BG ⟨rv.1.2.2.2,-1,rv.1.2.1,rv.1.2.2.1,AX rv.1.1,[]⟩ (.slice ps.p 0 ps.c))*ps.h ([]:List ByteArray)) (Eq.mp Z7 hw)⟩):X:=h
def Tz(h:X:=by exact CU (i:=i) rfl rfl q1.ca.1 Ca):X:=h
def T6(h:X:=by exact Ay (Fk rfl trivial) hok.bv):X:=h
def UL(h:X:=by exact⟨fun ww hw=>Sat.right (A:=HP.AA b6 0 (GX F)*HP.AA b3 0 (Bw s)) (Eq.mp Tl hw)⟩):X:=h
def qJ(h:X:=by exact CU (i:=(AK s.side 2)) rfl rfl hok.ea.1 Ca):X:=h
def lN(h:X:=by exact CU (i:=(AK s.a 4)) rfl rfl (hok.ra r (List.mem_of_getElem? hr)).1 Ca):X:=h
def TO(h:X:=by exact Ay (v':=.bool true) (B6 (i:=rv.1) (j:=3) rfl rfl) OD):X:=h
def I!(h:X:=by exact B6 (i:=rv.1) (j:=3) rfl rfl):X:=h
def U'(h:X:=by exact⟨fun ww hw=>Sat.right (A:=HP.AA b12 0 (BG ⟨rv.1,-1,0,0,⟨#[]⟩,[]⟩ (.slice ps.p 0 ps.c))*(ps.h ([]:List ByteArray)*HP.AA b3 0 (Bw s))) (Eq.mp Ru hw)⟩):X:=h
def ZZ(h:X:=by exact⟨rfl,(w.put (AK s.side 2) (AK s.side 2) (AK s.a 4) ⟨C.cb,m2⟩ r ⟨E.q,E.o⟩),hok.put hC hr hE hm2 _,r5,rfl⟩):X:=h
def sH(h:X:=by exact List.mem_of_getElem? hC1):X:=h
def pE(h:X:=by exact⟨fun ww hw=>Sat.right (A:=HP.AA b3 0 (Bw s)) (Eq.mp Cm hw)⟩):X:=h
def jB(h:X:=by exact⟨rfl,w2,hok2,by rw [hst,hn2],rfl⟩):X:=h
def UY(h:X:=by exact Ay (Fk rfl trivial) y1.bv):X:=h
def Sk(h:X:=by exact aY (i:=m) (j:=8192) rfl rfl):X:=h
def SB(h:X:=by exact Gx (i:=i) (j:=1) rfl rfl Ca):X:=h
def RT(h:X:=by exact BJ rfl (Ge hG C.cb l.length C.c ⟨8,0,0,(AK code 1000),⟨#[]⟩⟩ ⟨0,-1,0,0,⟨#[]⟩,[]⟩ (C.c.s.gone (AK code 1000)) iI _ (hok.Ef C (List.mem_of_getElem? hC)) hc0 Ca Cw Cr)):X:=h
def G!(h:X:=by exact List.mem_of_getElem? hC):X:=h
def gV(h:X:=by exact De (cs:=BG ⟨0,-1,0,0,⟨#[]⟩,[]⟩ (.slice ps.p 0 ps.c)) rfl rfl Ch Ce):X:=h
def iX(h:X:=by exact⟨fun ww hw=>Eq.mp hB hw⟩):X:=h
def iD(h:X:=by exact A8 (b14,(w.put 0 0 0 ⟨C.cb,m2⟩ r ⟨E.q,E.o⟩),ps) ⟨hok.put hC hr2 hE hm2 _,zC⟩ (.cons rfl (.cons rfl (.cons rfl (.nil)))) rfl):X:=h
def Xv(h:X:=by exact Ht rfl rfl (sZ b7 _ _ _)):X:=h
def V6(h:X:=by exact cF (xs:=ks) (o:=0) rfl inferInstance (by rw [hk];rfl)):X:=h
def eE(h:X:=by exact PV (l:=8) (h:=xs.length-8) (k':=(FZ xs).length) rfl rfl rfl Ci Ca):X:=h
def bU(h:X:=by exact⟨rfl,rfl,rfl,rfl,rfl,rfl,Nat.le_refl _⟩):X:=h
def Xq(h:X:=by exact⟨rfl,rfl,rfl,rfl,rfl,rfl,rfl,rfl,fun _ x=>x,h.ws.len,fun k=>⟨.refl _,rfl⟩⟩):X:=h
def ZH(h:X:=by exact⟨rfl,rfl,rfl,rfl,rfl,rfl,hz.filled.Ae⟩):X:=h
def Xw(h:X:=by exact wE rfl rfl rfl rfl ⟨hij,hj,hs.2⟩):X:=h
def yJ(h:X:=by exact Ol (k':=(l.drop j).length) rfl rfl hj List.length_drop):X:=h
def wG(h:X:=by exact eO (cs:=[uN r.lo,uN r.hi]) rfl Cp rfl rfl):X:=h
def Y3(h:X:=by exact BJ rfl (rS z.l r fr to a.p a.b a.o a.c b69 a.s (HP.AA q 0 [.slice a.p z.l.length a.c,uN z.floor,iN z.AL]*(HP.AA b8 0 [uN r.lo,uN r.hi]*(HP.AA b5 0 [uN hi]*(HP.AA b4 0 [uN (max lo z.floor)]*(HP.AA b3 0 [ptr q 0]*R))))) hs.1 hs.2 hft ht1 Ca (fun hc=>hne a.b a.o (AD z.l++a.s) (HP.AA q 0 [.slice a.p z.l.length a.c,uN z.floor,iN z.AL]*(HP.AA b8 0 [uN r.lo,uN r.hi]*(HP.AA b5 0 [uN hi]*(HP.AA b4 0 [uN (max lo z.floor)]*(HP.AA b3 0 [ptr q 0]*R))))) (by intro h0;have h7:=congrArg List.length h0;rw [List.length_append,Bp]at h7;have h8:z.l.length*2+a.s.length=0:=h7;have:=hs.2;omega) rfl))):X:=h
def pN(h:X:=by exact HG (i:=0) rfl rfl hs70 Ca rfl):X:=h
def mN(h:X:=by exact P5 (xs:=z.l.take fr++r::z.l.drop to) (i:=0) rfl inferInstance Ca):X:=h
def xZ(h:X:=by exact BJ rfl (pX (z.l.take fr++r::z.l.drop to) 0 1 p70 b70 o70 c70 s70 (HP.AA q 0 [.slice p70 (z.l.take fr++r::z.l.drop to).length c70,uN ((rg (z.l.take fr++r::z.l.drop to) 0).hi+1),iN z.AL]*(HP.AA b8 0 [uN r.lo,uN r.hi]*(HP.AA b5 0 [uN hi]*(HP.AA b4 0 [uN (max lo z.floor)]*(HP.AA b3 0 [ptr q 0]*R))))) hs70 hc70 Ca Ca Ca)):X:=h
def YA(h:X:=by exact Nl (xs:=l) rfl inferInstance Ca):X:=h
def cQ(h:X:=by exact LV (Post:=fun v H'=>∃b,v=.agg #[.pointer (some ⟨1,193,none⟩),ptr b 0,.int .u64 150]∧H'=HP.AA b 0 [ptr b4 0]*(HP.AA b4 0 [old]*R)) rfl (fun w hw=>⟨_,_,_,nI _ w,⟨w.heap.size,rfl,rfl⟩,hw.alloc _ _⟩)):X:=h
def rE(h:X:=by exact Im rfl (fun w _=>nT _ w)):X:=h
def qR(h:X:=by exact HL rfl rfl (fun w _=>rB w)):X:=h
def XW(h:X:=by exact Im rfl (fun w hw=>fD ⟨b14,0,none⟩ ⟨b4,0,none⟩ w ((inferInstance:Rd B _ b14 0 (ptr b4 0) True).get w hw trivial))):X:=h
def yA(h:X:=by exact HL rfl rfl (fun w _=>eK w)):X:=h
def t4(h:X:=by exact HL rfl rfl (fun w _=>kA w)):X:=h
def kH(h:X:=by exact HL rfl rfl (fun w _=>jG w)):X:=h
def XI(h:X:=by exact J0 (r:=.bool true) rfl rfl (fun w=>by kernel_rfl) (fun w=>by rw [o8];simp)):X:=h
def Ys(h:X:=by exact HL rfl rfl (fun w _=>rD w)):X:=h
def VM(h:X:=by exact Kz (v:=.int .i64 (2:Nat)) Cb rfl):X:=h
def eZ(h:X:=by exact BJ rfl (KF q34 _ x.hi wm.w.b.length _ _ _ hT f1 Ca Ca Zm Zm)):X:=h
def bY(h:X:=by exact Ds (l:=Br (z.L.getD z.j AC.AH)) rfl rfl):X:=h
def dT(h:X:=by exact List.mem_map.2 ⟨rr,List.mem_of_mem_take hrr,rfl⟩):X:=h
def bD(h:X:=by exact List.mem_map.2 ⟨fm.fs[i],List.getElem_mem h15,rfl⟩):X:=h
def Y5(h:X:=by exact IX (xs:=fm.fs) rfl inferInstance Ca):X:=h
def Wx(h:X:=by exact HG (i:=0) rfl rfl hls Ca rfl):X:=h
def Un(h:X:=by exact P5 (xs:=l) (i:=0) rfl inferInstance Ca):X:=h
def XB(h:X:=by exact Fe (v:=.int .i64 (7:Nat)) rfl):X:=h
def cR(h:X:=by exact Fe (v:=.int .u8 (8:Nat)) rfl):X:=h
def WU(h:X:=by exact Fe (v:=.int .u8 (9:Nat)) rfl):X:=h
def XT(h:X:=by exact CU (i:=0) rfl rfl hrok hne):X:=h
def Zb(h:X:=by exact Nl (i:=0) (xs:=r.f.ranges) rfl inferInstance hne):X:=h
def Zv(h:X:=by exact Ol (l:=1) (k':=r.f.ranges.length-1) rfl rfl hne rfl):X:=h
def V3(h:X:=by exact HG (b:=r.b) (o:=r.o+1*2) (q:=r.o+(i+1)*2) rfl rfl (K1 hrok hne hrok.2) hlt Ca):X:=h
def aT(h:X:=by exact Nl (i:=i+1) (xs:=r.f.ranges) rfl inferInstance Ca):X:=h
def nY(h:X:=by exact Qz (i:=i) (xs:=r.f.ranges) rfl inferInstance Ca):X:=h
def YV(h:X:=by exact Qz (i:=i-1) (xs:=r.f.ranges) rfl inferInstance Ca):X:=h
def Yq(h:X:=by exact .inl ⟨hok,p21,b21,o21,c21,s21,rfl,hs21,hc21,rfl⟩):X:=h
def Vw(h:X:=by exact FV (l:=[.int .i64 0,.int .i64 0,.int .u64 0,.int .u64 0,.bool false,.string ⟨#[]⟩,.slice none 0 0]) rfl):X:=h
def Vc(h:X:=by exact Fe (v:=.int .i64 (5:Nat)) rfl):X:=h
def aF(h:X:=by exact Fe (v:=.int .i64 (6:Nat)) rfl):X:=h
def Wy(h:X:=by exact Gc rfl (rF rb p b o c xs a _ hs inferInstance hx Ca)):X:=h
def Zy(h:X:=by exact Gc rfl (Lx rb p b o c xs a8 _ hs inferInstance hx Ca)):X:=h
def eD(h:X:=by exact Gc rfl (Lx rb p b o c xs a10 _ hs inferInstance hx Ca)):X:=h
def rK(h:X:=by exact CX (p:=none) (c:=0) (ys:=xs) (bb:=b) (oo:=o) rfl ⟨.inl rfl,Nat.le_refl _⟩ rfl rfl hs inferInstance rfl Ck Ca):X:=h
def Zu(h:X:=by exact Gq (cs:=AM r) rfl Cp rfl rfl):X:=h
def mB(h:X:=by exact Ay (v':=.agg (AM (rs.getD i AC.AH)).toArray) (IX (xs:=rs) rfl inferInstance Ca) rfl):X:=h
def x9(h:X:=by exact IX (xs:=rs) rfl inferInstance Ca):X:=h
def Va(h:X:=by exact De rfl rfl Ch (AC.one (rs.getD i AC.AH))):X:=h
def yZ(h:X:=by exact PV (k':=(cut wm.w.b lo hi2).length) rfl rfl rfl VH hcl2):X:=h
def mZ(h:X:=by exact MF (xs:=cut wm.w.b lo hi2) (b:=wm.a.b) (o:=wm.a.o+lo*1) rfl uY (Ad.sub (xs:=wm.w.b) inferInstance lo hi2 Ca)):X:=h
def jQ(h:X:=by exact FV (l:=AM (CQ ⟨0,0,0,0,false,⟨#[]⟩,[]⟩)) rfl):X:=h
def U6(h:X:=by exact Db (l:=[.int .i64 AI,.int .i64 AG]) rfl rfl):X:=h
def Y2(h:X:=by exact yP (k:=.i64) (i:=if c<0 then(-(c+1)).toNat else c.toNat) (j:=n) zJ rfl Ca):X:=h
def bB(h:X:=by exact Ay (v':=.agg (DT ⟨6,0,0,0,s⟩).toArray) (Ex rfl rfl rfl Ce) rfl):X:=h
def uT(h:X:=by exact⟨fun ww hw=>Sat.right (A:=HP.AA b7 0 (BG ⟨rv.1.1,rv.1.2,0,0,⟨#[]⟩,[]⟩ (.slice ps.p 0 ps.c))*ps.h ([]:List ByteArray)) (Eq.mp Cm hw)⟩):X:=h
def VA(h:X:=by exact Gx (i:=E.o.read) (j:=(AX rv.1.1).size) rfl rfl KZ):X:=h
def VY(h:X:=by exact Ay (v':=.bool false) (Wm rfl rfl) nE):X:=h
def Zf(h:X:=by exact B6 (i:=rv.1.2.2.1) (j:=0) rfl rfl):X:=h
def mF(h:X:=by exact⟨rfl,(w.put i (1-i) k ⟨C.cb,m2⟩ r ⟨E.q,{E.o with read:=E.o.read+rv.1.1.length,state:=rv.1.2.1}⟩),hok.put hC hr hE hm2 _,YC,rfl⟩):X:=h
def U3(h:X:=by exact CU (i:=k) rfl rfl hps.1 YS):X:=h
def Z4(h:X:=by exact D8 (f:=0) (xs:=((outs w.n.ks (Af (decide (i=0))) (w.n.cnt i) Ls).map AX)) (v:=.string (AX p)) rfl inferInstance (by rw [getD_some hps1];rfl) YS):X:=h
def dR(h:X:=by exact Ds (l:=AD w1.x.ks) rfl (GO q1.ks)):X:=h
def cV(h:X:=by exact D8 (f:=0) (xs:=w1.cnt) (v:=uN cx.n) rfl inferInstance (by rw [getD_some hcx];rfl) Ca):X:=h
def ZP(h:X:=by exact⟨rfl,w2,hok2,by rw [hn2,hcy],rfl⟩):X:=h
def iT(h:X:=by exact Ay (v':=.bool true) (B6 (i:=rv.1.2) (j:=3) rfl rfl) OD):X:=h
def yE(h:X:=by exact Ay (v':=.bool true) (B6 (i:=rv.1.1) (j:=0) rfl rfl) OD):X:=h
def rT(h:X:=by exact⟨fun ww hw=>Sat.right (A:=HP.AA b9 0 (BG ⟨rv.1.2,-1,rv.1.1,0,⟨#[]⟩,[]⟩ (.slice ps.p 0 ps.c))*(ps.h ([]:List ByteArray)*HP.AA b3 0 (Bw s))) (Eq.mp Ru hw)⟩):X:=h
def qE(h:X:=by exact⟨rfl,(w.put (AK s.side 2) (AK s.side 2) (AK s.a 4) ⟨C.cb,m2⟩ r ⟨E.q,E.o⟩),hok.put hC hr hE hm2 _,wD,rfl⟩):X:=h
def Uu(h:X:=by exact De (cs:=BG ⟨rv.1,-1,0,0,⟨#[]⟩,[]⟩ (.slice ps.p 0 ps.c)) rfl rfl Ch Ce):X:=h
def W0(h:X:=by exact Eh (v:=.bool true) rfl rfl rfl trivial):X:=h
def YW(h:X:=by exact Ay (v':=.bool true) (B6 (i:=rv.1) (j:=0) rfl rfl) OD):X:=h
def Zr(h:X:=by exact⟨fun ww hw=>Sat.right (A:=HP.AA b15 0 (BG ⟨rv.1,-1,0,0,⟨#[]⟩,[]⟩ (.slice ps.p 0 ps.c))*(ps.h ([]:List ByteArray)*HP.AA b3 0 (Bw s))) (Eq.mp Ru hw)⟩):X:=h
def Vd(h:X:=by exact CU (i:=0) rfl rfl hok.xa.1 Ca):X:=h
def aA(h:X:=by exact Ay (v':=.agg (DT ⟨4,0,0,0,⟨#[]⟩⟩).toArray) (Ex rfl rfl rfl Ce) rfl):X:=h
def jC(h:X:=by exact⟨fun ww hw=>Sat.right (A:=HP.AA b3 0 (Bw s)*J9) (Eq.mp Cm hw)⟩):X:=h
def gK(h:X:=by exact⟨rfl,w2,hok2,by rw [←h9,hn2],rfl⟩):X:=h
def Z3(h:X:=by exact CU (i:=m) rfl rfl y1.ba.1 Ca):X:=h
def XQ(h:X:=by exact Ds (l:=[iN (64+AK AI 237),iN (16+AK AG 300)]) rfl rfl):X:=h
def ZL(h:X:=by exact Ay (v':=.bool false) (Zo 64 rfl rfl) rfl):X:=h
def aM(h:X:=by exact BJ rfl (IQ code hcode 1000 Ca _)):X:=h
def ZA(h:X:=by exact Ay (v':=.agg (DT ⟨8,0,0,(AK code 1000),⟨#[]⟩⟩).toArray) (Ex rfl rfl rfl Ce) rfl):X:=h
def Xk(h:X:=by exact Ay (Fk rfl trivial) hok2.bv):X:=h
def YL(h:X:=by exact Gx (i:=w1.AJ.length) (j:=1) rfl rfl Ca):X:=h
def YT(h:X:=by exact BJ rfl (Ge hG C1.cb (l.length+2) C1.c ⟨6,0,0,0,AX pb⟩ ⟨10,-1,0,0,⟨#[]⟩,[]⟩ (C1.c.s.left (w.n.x 0).next) yB _ (hok2.Ef C1 (List.mem_of_getElem? hC1)) hc1 Ca kC Cr)):X:=h
def XX(h:X:=by exact De (cs:=BG ⟨10,-1,0,0,⟨#[]⟩,[]⟩ (.slice pt.p 0 pt.c)) rfl rfl Ch Ce):X:=h
def mL(h:X:=by exact A8 (b16,(w2.put 1 0 0 ⟨C1.cb,m3⟩ r1 ⟨E1.q,E1.o⟩),pt) ⟨hok2.put hC1 hr1 hE1 hm3 _,mT⟩ (.cons rfl (.cons rfl (.cons rfl (.nil)))) rfl):X:=h
def Wp(h:X:=by exact Ay (Fk rfl trivial) hok8.xv):X:=h
def Yo(h:X:=by exact CU (i:=0) rfl rfl hok8.xa.1 Ca):X:=h
def VI(h:X:=by exact D8 (f:=0) (xs:=w8.cs) (v:=ptr C8.cb 0) rfl inferInstance (by rw [getD_some hC8];rfl) Ca):X:=h
def Ir(h:X:=by exact fun _ _ h=>h.elim):X:=h
def Kd(h:X:=by exact mr [2] rfl rfl BW):X:=h
def L7(h:X:=by exact .inl (List.mem_filter.1 hp).1):X:=h
def LP(h:X:=by exact mR [4] (AT cb m*R) (hE:=by rw [DJ];infer_instance) rfl rfl ⟨m,hm,Ct,RP⟩):X:=h
def Mz(h:X:=by exact Nat.zero_le _):X:=h
def NV(h:X:=by exact mR [6] (A4 cb (ws.set j wm)*(BM db dm*R)) (hE:=bC) rfl rfl ⟨wm,dm,hwm,hd,iV,rfl⟩):X:=h
def Qa(h:X:=by exact mr [4] rfl rfl ⟨zP,rfl⟩):X:=h
def QF(h:X:=by exact A8 ({w1 with w:={w1.w with ended:=e2}}:BY) ⟨hw1,zZ⟩ Gv rfl):X:=h
def OT(h:X:=by exact mR [4] (AB b' o' (xs++AV n) s'*R) rfl rfl ⟨q,b',o',c',s',rfl,h1,h2,rfl⟩):X:=h
def Pe(h:X:=by exact A8 () trivial gP rfl):X:=h
def Pd(h:X:=by exact⟨a,L,R,up b⟩):X:=h
def P9(h:X:=by exact mR [4] (AB b' o' (xs++AV n) s'*(Q*R)) rfl rfl ⟨q,b',o',c',s',Q,rfl,h1,h2,rfl,hk⟩):X:=h
def PP(h:X:=by exact mR [6,7] H rfl rfl jH):X:=h
def QE(h:X:=by exact(List.length_map ..).symm):X:=h
def Ts(h:X:=by exact(Sat.pr.1 h3).1.elim):X:=h
def TX(h:X:=by exact mR [4] (AT cb m*R) (hE:=wT) rfl rfl ⟨m,hm,Ct,Cq,rfl⟩):X:=h
def Td(h:X:=by exact A8 (m2.Aq {m2.x with answer:=an}) ⟨⟨hm2.g,hm2.ws,hm2.rs,hm2.fl,hm2.lo,hm2.fa,hm2.la,hm2.fv,hm2.lv⟩,jV⟩ Fi rfl):X:=h
def Re(h:X:=by exact A8 () trivial jF rfl):X:=h
def RE(h:X:=by exact mR [4] (Av nb w2*H) (hE:=pE) rfl rfl jB):X:=h
def TD(h:X:=by exact Bd (Av nb (w.put 0 0 0 ⟨C.cb,m2⟩ r ⟨E.q,E.o⟩)*(HP.AA b14 0 (BG ⟨0,-1,0,0,⟨#[]⟩,[]⟩ (.slice ps.p 0 ps.c))*(ps.h ([]:List ByteArray)*H))) (hE:=iX) iD):X:=h
def ZB(h:X:=by exact(FW n r rs).2 (.inr (b n Ca h5))):X:=h
def Zt(h:X:=by exact all (fun j c=>Fj c (L' (1-j)).length (R' (1-j))) hg hg'):X:=h
def Z8(h:X:=by exact mR [6] (AB b o l s*R) rfl rfl ⟨p,b,o,c,s,q7,lU,gU,jZ⟩):X:=h
def Vf(h:X:=by exact SY (ts:=[]) [d2,d] _ rfl rfl ⟨w2,hok2,Rc,rfl⟩ rfl):X:=h
def VQ(h:X:=by exact SY (ts:=[]) [] _ rfl rfl ⟨w2,hok2,Rc,rfl⟩ rfl):X:=h
def V'(h:X:=by exact Fv R ⟨K8 fF,rfl,rfl⟩):X:=h
def dZ(h:X:=by exact⟨We,by rw [hp];exact o.pre,U9,VL,X5,o.read,o.state,by rw [hp];exact o.AE⟩):X:=h
def XC(h:X:=by exact⟨fun m hm=>absurd hm (Qt m),Nat.le_refl _⟩):X:=h
def dX(h:X:=by exact mR [4] (BM db m2*R) rfl rfl ⟨m2,hok2,by rw [hsome,hm2];rfl,by rw [hsome];rfl,rfl⟩):X:=h
def VW(h:X:=by exact mr [4] rfl rfl ⟨by rw [nR];rfl,rfl⟩):X:=h
def Xa(h:X:=by exact mR [6] (Av nb w2*H) (hE:=uT) rfl rfl ⟨qX,w2,hok2,hn2,rfl⟩):X:=h
def Uz(h:X:=by exact mR [8] (Av nb (w.put i (1-i) k ⟨C.cb,m2⟩ r ⟨E.q,{E.o with read:=E.o.read+rv.1.1.length,state:=rv.1.2.1}⟩)*H) (hE:=Wg) rfl rfl mF):X:=h
def Y6(h:X:=by exact mR [4] (Av nb (w.put (AK s.side 2) (AK s.side 2) (AK s.a 4) ⟨C.cb,m2⟩ r ⟨E.q,E.o⟩)*H) (hE:=rT) rfl rfl qE):X:=h
def bS(h:X:=by exact mR [4] (Av nb (w.put (AK s.side 2) (AK s.side 2) (AK s.a 4) ⟨C.cb,m2⟩ r ⟨E.q,E.o⟩)*H) (hE:=U') rfl rfl ZZ):X:=h
def Vr(h:X:=by exact mR [4] (Av nb w2*H) (hE:=jC) rfl rfl gK):X:=h
def Y7(h:X:=by exact mR [2] H rfl rfl ⟨decide (m≤8192),rfl,fun h=>by have:=of_decide_eq_true h;omega,rfl⟩):X:=h
def dB(h:X:=by exact Ba (w9,i+1) ⟨hok9,by show i+1≤l.length;omega,hk9,h9⟩ VU IK rfl):X:=h
def bO(h:X:=by exact Bd (Av nb (w2.put 1 0 0 ⟨C1.cb,m3⟩ r1 ⟨E1.q,E1.o⟩)*(HP.AA b16 0 (BG ⟨10,-1,0,0,⟨#[]⟩,[]⟩ (.slice pt.p 0 pt.c))*(pt.h ([]:List ByteArray)*(HP.AA b14 0 (BG ⟨0,-1,0,0,⟨#[]⟩,[]⟩ (.slice ps.p 0 ps.c))*(ps.h ([]:List ByteArray)*H))))) (hE:=⟨fun ww hw=>Eq.mp rA hw⟩) mL):X:=h
end
section
variable{X Y:Prop}(k:Y)
def A6(h:A Y X:=by intro Z;refine⟨.inr inferInstance,?_⟩;exact Z.1):X:=h ⟨k⟩
def FJ(h:A Y X:=by intro Z;refine U0 rfl rfl rfl rfl ?_;exact Z.1):X:=h ⟨k⟩
def DW(h:A Y X:=by intro Z;refine⟨.inl Cc,?_⟩;exact Z.1):X:=h ⟨k⟩
def FX(h:A Y X:=by intro Z;refine Jm 0 ?_;exact Z.1):X:=h ⟨k⟩
def ID(h:A Y X:=by intro Z;refine JG hg1 ?_;exact Z.1):X:=h ⟨k⟩
def Fd(h:A Y X:=by intro Z;refine JL RS ?_;exact Z.1):X:=h ⟨k⟩
def Hw(h:A Y X:=by intro Z;refine JH hg1 ?_;exact Z.1):X:=h ⟨k⟩
def KC(h:A Y X:=by intro Z;refine JL NB ?_;exact Z.1):X:=h ⟨k⟩
def N9(h:A Y X:=by intro Z;refine Jn 2 ?_;exact Z.1):X:=h ⟨k⟩
def YR(h:A Y X:=by intro Z;refine Jm 1 ?_;exact Z.1):X:=h ⟨k⟩
def Kf(h:A Y X:=by intro Z;refine Jd 3 ?_;exact Z.1):X:=h ⟨k⟩
def HM(h:A Y X:=by intro Z;refine Jd 4 ?_;exact Z.1):X:=h ⟨k⟩
def My(h:A Y X:=by intro Z;refine Jf 3 ?_;exact Z.1):X:=h ⟨k⟩
def I3(h:A Y X:=by intro Z;refine Jf 2 ?_;exact Z.1):X:=h ⟨k⟩
def FP(h:A Y X:=by intro Z;refine lK ?_;exact Z.1):X:=h ⟨k⟩
def Mv(h:A Y X:=by intro Z;refine Jn 1 ?_;exact Z.1):X:=h ⟨k⟩
def Dw(h:A Y X:=by intro Z;refine JL Dn ?_;exact Z.1):X:=h ⟨k⟩
def Gy(h:A Y X:=by intro Z;refine JL eP ?_;exact Z.1):X:=h ⟨k⟩
def Fo(h:A Y X:=by intro Z;refine JG hg3 ?_;exact Z.1):X:=h ⟨k⟩
def LN(h:A Y X:=by intro Z;refine bJ rfl rfl rfl rfl ?_;exact Z.1):X:=h ⟨k⟩
def GV(h:A Y X:=by intro Z;refine vE rfl rfl rfl ?_;exact Z.1):X:=h ⟨k⟩
def Gu(h:A Y X:=by intro Z;refine JL X' ?_;exact Z.1):X:=h ⟨k⟩
def gW(h:A Y X:=by intro Z;refine JL TV ?_;exact Z.1):X:=h ⟨k⟩
def Kn(h:A Y X:=by intro Z;refine m4 rfl rfl ?_;exact Z.1):X:=h ⟨k⟩
def Hj(h:A Y X:=by intro Z;refine JH hg3 ?_;exact Z.1):X:=h ⟨k⟩
def ML(h:A Y X:=by intro Z;refine Bi Kj ?_;exact Z.1):X:=h ⟨k⟩
def GZ(h:A Y X:=by intro Z;refine oS rfl rfl ?_;exact Z.1):X:=h ⟨k⟩
def Ew(h:A Y X:=by intro Z;show some (Value.bool _)=some (Value.bool _);exact Z.1):X:=h ⟨k⟩
def Ga(h:A Y X:=by intro Z;refine JL Uh ?_;exact Z.1):X:=h ⟨k⟩
def JZ(h:A Y X:=by intro Z;refine JL iP ?_;exact Z.1):X:=h ⟨k⟩
def Vu(h:A Y X:=by intro Z;refine jS ?_;exact Z.1):X:=h ⟨k⟩
def KG(h:A Y X:=by intro Z;refine JL LD ?_;exact Z.1):X:=h ⟨k⟩
def Ky(h:A Y X:=by intro Z;refine Ag zB rfl ?_;exact Z.1):X:=h ⟨k⟩
def LE(h:A Y X:=by intro Z;refine Ag Hn rfl ?_;exact Z.1):X:=h ⟨k⟩
def Nh(h:A Y X:=by intro Z;refine DV 11 Cb rfl Eu ?_;exact Z.1):X:=h ⟨k⟩
def KR(h:A Y X:=by intro Z;refine Ag xF rfl ?_;exact Z.1):X:=h ⟨k⟩
def N1(h:A Y X:=by intro Z;refine Ag Mb rfl ?_;exact Z.1):X:=h ⟨k⟩
def K2(h:A Y X:=by intro Z;refine Ag M2 rfl ?_;exact Z.1):X:=h ⟨k⟩
def Kr(h:A Y X:=by intro Z;refine Ag lS rfl ?_;exact Z.1):X:=h ⟨k⟩
def uW(h:A Y X:=by intro Z;refine Ag q8 rfl ?_;exact Z.1):X:=h ⟨k⟩
def Lz(h:A Y X:=by intro Z;show Value.bool _=Value.bool _;exact Z.1):X:=h ⟨k⟩
def OE(h:A Y X:=by intro Z;refine DV 13 Cb rfl Eu ?_;exact Z.1):X:=h ⟨k⟩
def RL(h:A Y X:=by intro Z;refine DV 12 Cb rfl Eu ?_;exact Z.1):X:=h ⟨k⟩
def O6(h:A Y X:=by intro Z;refine A9 (HP.CI _ _ _) ?_;exact Z.1):X:=h ⟨k⟩
def oD(h:A Y X:=by intro Z;refine mE rfl (lI cb m.x.closed k _) ?_;exact Z.1):X:=h ⟨k⟩
def Pb(h:A Y X:=by intro Z;show HP.AA cb (0+43+j*10) [.slice w1.a.p w1.w.b.length w1.a.c,ptr w1.sq 0,ptr w1.cq 0,uN w1.w.high,.bool w1.w.finished,.bool w1.w.ending,.bool _,.bool w1.w.given,uN w1.w.code,.bool w1.w.DE]*_=HP.AA cb (0+43+j*10) [.slice w1.a.p w1.w.b.length w1.a.c,ptr w1.sq 0,ptr w1.cq 0,uN w1.w.high,.bool w1.w.finished,.bool w1.w.ending,.bool e2,.bool w1.w.given,uN w1.w.code,.bool w1.w.DE]*(Bl w1*_);exact Z.1):X:=h ⟨k⟩
def Qx(h:A Y X:=by intro Z;refine congrArg (fun b:Bool=>HP.AA cb (0+43+j*10) [.slice w1.a.p w1.w.b.length w1.a.c,ptr w1.sq 0,ptr w1.cq 0,uN w1.w.high,.bool w1.w.finished,.bool w1.w.ending,.bool b,.bool w1.w.given,uN w1.w.code,.bool w1.w.DE]*(Bl w1*(B' cb wz j*(HP.AA b7 0 (AM (fm.fs.getD i AC.AH))*(K*(HP.AA b3 0 (Br fm)*R)))))) ?_;exact Z.1):X:=h ⟨k⟩
def O3(h:A Y X:=by intro Z;refine EV 20 Cb rfl rfl Fg ED ?_;exact Z.1):X:=h ⟨k⟩
def RH(h:A Y X:=by intro Z;refine Bd (HP.AA b5 0 [iN z.a]*(HP.AA b2 0 [.slice z.p z.rs.length z.c]*(HP.AA b3 0 [.nilIface]*R))) ?_;exact Z.1):X:=h ⟨k⟩
def Uy(h:A Y X:=by intro Z;refine Bd (AB b2 o2 (DA xs pre++[xs.getD (DA xs pre).length 0 ^^^x]) s2*(HP.AA b7 0 [.slice q2 (DA xs pre++[xs.getD (DA xs pre).length 0 ^^^x]).length c2]*(HP.AA b5 0 [.slice p xs.length c]*H)*R)) ?_;exact Z.1):X:=h ⟨k⟩
def ZN(h:A Y X:=by intro Z;show({z.c with ws:=z.filled.1,next:=z.c.next+1,BK:=if EC z.filled.2.Aw=true then _ else _}:AF)=_;exact Z.1):X:=h ⟨k⟩
def Xj(h:A Y X:=by intro Z;refine Ai (H':=HP.AA b o (AD l++s)*(HP.fresh bv*(HP.AA bv 0 (AD [r])*R))) Oh ?_;exact Z.1):X:=h ⟨k⟩
def p5(h:A Y X:=by intro Z;refine Ai (H':=AB a.b a.o z.l a.s*(HP.AA q 0 [.slice a.p z.l.length a.c,uN z.floor,iN z.AL]*(HP.AA b8 0 [uN r.lo,uN r.hi]*(HP.AA b5 0 [uN hi]*(HP.AA b4 0 [uN (max lo z.floor)]*(HP.AA b3 0 [ptr q 0]*R)))))) xA ?_;exact Z.1):X:=h ⟨k⟩
def nG(h:A Y X:=by intro Z;refine Dx (HP.AA q 0 [.slice a.p z.l.length a.c,uN z.floor,iN z.AL]*(HP.AA b8 0 [uN r.lo,uN r.hi]*(HP.AA b5 0 [uN hi]*(HP.AA b4 0 [uN (max lo z.floor)]*(HP.AA b3 0 [ptr q 0]*R))))) 12 13 Dy rfl Cb ?_;exact Z.1):X:=h ⟨k⟩
def uU(h:A Y X:=by intro Z;refine Ai (H':=HP.AA q 0 [.slice p70 (z.l.take fr++r::z.l.drop to).length c70,uN z.floor,iN z.AL]*(AB b70 o70 (z.l.take fr++r::z.l.drop to) s70*(HP.AA b8 0 [uN r.lo,uN r.hi]*(HP.AA b5 0 [uN hi]*(HP.AA b4 0 [uN (max lo z.floor)]*(HP.AA b3 0 [ptr q 0]*R)))))) Cf ?_;exact Z.1):X:=h ⟨k⟩
def uM(h:A Y X:=by intro Z;refine Ai (H':=AB b70 o70 (z.l.take fr++r::z.l.drop to) s70*(HP.AA q 0 [.slice p70 (z.l.take fr++r::z.l.drop to).length c70,uN ((rg (z.l.take fr++r::z.l.drop to) 0).hi+1),iN z.AL]*(HP.AA b8 0 [uN r.lo,uN r.hi]*(HP.AA b5 0 [uN hi]*(HP.AA b4 0 [uN (max lo z.floor)]*(HP.AA b3 0 [ptr q 0]*R)))))) Cf ?_;exact Z.1):X:=h ⟨k⟩
def tZ(h:A Y X:=by intro Z;refine Dx (HP.AA q 0 [.slice p70 (z.l.take fr++r::z.l.drop to).length c70,uN ((rg (z.l.take fr++r::z.l.drop to) 0).hi+1),iN z.AL]*(HP.AA b8 0 [uN r.lo,uN r.hi]*(HP.AA b5 0 [uN hi]*(HP.AA b4 0 [uN (max lo z.floor)]*(HP.AA b3 0 [ptr q 0]*R))))) 8 9 Dy rfl Cb ?_;exact Z.1):X:=h ⟨k⟩
def Ze(h:A Y X:=by intro Z;refine wpIn_mono (hasg pre x l (HP.obj l (rec_ .ready none)*(HP.obj w.heap.size (.deferred (some []))*R)) _ W hE rfl (e2▸hW)) ?_;exact Z.1):X:=h ⟨k⟩
def bV(h:A Y X:=by intro Z;refine⟨_,_,run_endRound none hb2,.bool true,_,rfl,⟨true,rfl,fun _=>hG,rfl⟩,?_⟩;exact Z.1):X:=h ⟨k⟩
def Yx(h:A Y X:=by intro Z;refine⟨_,_,run_endRound (some (D3 (some id0))) hb2,.bool false,_,rfl,⟨false,rfl,fun h=>(by cases h),rfl⟩,?_⟩;exact Z.1):X:=h ⟨k⟩
def dW(h:A Y X:=by intro Z;refine⟨_,_,run_endRound (some (D3 none)) hb2,.bool false,_,rfl,⟨false,rfl,fun h=>(by cases h),rfl⟩,?_⟩;exact Z.1):X:=h ⟨k⟩
def Zz(h:A Y X:=by intro Z;refine Ai (H':=HP.AA cb (0+43+j*10) (Bg wm)*(Bl wm*(AQ cb m.x*(B' cb m.ws j*(Fb m cb*R))))) TQ ?_;exact Z.1):X:=h ⟨k⟩
def VN(h:A Y X:=by intro Z;refine Bd (HP.AA cb (0+43+j*10) (Bg w2)*(Bl w2*R)) (hE:=by rw [hw2,eag];unfold Bl;infer_instance) ?_;exact Z.1):X:=h ⟨k⟩
def Z1(h:A Y X:=by intro Z;show _=HP.AA b3 0 (AM r)*(HP.AA b o [.slice a1.p z.b.length a1.c,ptr rm.cq 0,uN (max rm.r.high (r.f.offset+r.f.data.size)),uN (if r.f.fin then(r.f.offset+r.f.data.size)else rm.r.end_),.bool (rm.r.ended||r.f.fin),.bool rm.r.given,uN rm.r.code,uN rm.r.read,iN rm.r.state]*(HP.AA a1.b a1.o (AD z.b++a1.s)*AS rm.cq z.ca z.AE*R));exact Z.1):X:=h ⟨k⟩
def cN(h:A Y X:=by intro Z;show _=AB b81 o81 (rm1.r.b.take (min ((AR rm1.r.read rm1.r.high rm1.r.AE.l).1-rm1.r.read) AL.toNat)) s81*(AQ cb m.x*(HP.AA cb (0+83+j*9) [.slice p89 (rm1.r.b.drop (min ((AR rm1.r.read rm1.r.high rm1.r.AE.l).1-rm1.r.read) AL.toNat)).length c89,ptr rm1.cq 0,uN rm1.r.high,uN rm1.r.end_,.bool rm1.r.ended,.bool rm1.r.given,uN rm1.r.code,uN (rm1.r.read+(min ((AR rm1.r.read rm1.r.high rm1.r.AE.l).1-rm1.r.read) AL.toNat)),iN (if rm1.r.ended=true∧rm1.r.read+(min ((AR rm1.r.read rm1.r.high rm1.r.AE.l).1-rm1.r.read) AL.toNat)=rm1.r.end_ then 1 else rm1.r.state)]*(AB b89 o89 (rm1.r.b.drop (min ((AR rm1.r.read rm1.r.high rm1.r.AE.l).1-rm1.r.read) AL.toNat)) s89*AS rm1.cq rm1.ca rm1.r.AE*(EP cb m.rs j*(Eb m cb*R)))));exact Z.1):X:=h ⟨k⟩
def ZX(h:A Y X:=by intro Z;refine EI (H':=AB b o xs s*(HP.AA b6 0 (AD [(4:UInt8)])*(HP.AA fb 0 (AM r)*R))) MN ?_;exact Z.1):X:=h ⟨k⟩
def XK(h:A Y X:=by intro Z;refine EI (H':=AB b o xs s*(HP.AA b12 0 (AD [(bif r.f.fin then(9:UInt8)else 8)])*(HP.AA fb 0 (AM r)*R))) MN ?_;exact Z.1):X:=h ⟨k⟩
def kI(h:A Y X:=by intro Z;refine Dx (HP.AA b5 0 [uN (rg r.f.ranges 0).lo,uN (rg r.f.ranges 0).hi]*(HP.AA fb 0 (AM r)*R)) 19 21 Dy rfl Cb ?_;exact Z.1):X:=h ⟨k⟩
def bM(h:A Y X:=by intro Z;refine EI (H':=AB b o xs s*(HP.AA b15 0 (AD [(2:UInt8)])*(HP.AA b5 0 [uN (rg r.f.ranges 0).lo,uN (rg r.f.ranges 0).hi]*(HP.AA fb 0 (AM r)*R)))) mV ?_;exact Z.1):X:=h ⟨k⟩
def Wn(h:A Y X:=by intro Z;refine Dx (HP.AA b7 0 [uN (rg r.f.ranges (i+1)).lo,uN (rg r.f.ranges (i+1)).hi]*(HP.AA fb 0 (AM r)*R)) 21 21 Dy rfl Cb ?_;exact Z.1):X:=h ⟨k⟩
def qA(h:A Y X:=by intro Z;refine A9 (H':=HP.AA b3 0 (AM r)*(C*(CV bc f1 f2 f3 us1 us2 us3*(AB b o xs s*R)))) Cf ?_;exact Z.1):X:=h ⟨k⟩
def uS(h:A Y X:=by intro Z;refine mE rfl (Zk r b3 bc f1 f2 f3 us1 us2 us3 C _ hF hw rfl hm inferInstance) ?_;exact Z.1):X:=h ⟨k⟩
def Vq(h:A Y X:=by intro Z;refine A9 (H':=AB b o xs s*(HP.AA b3 0 (AM r)*(C*(CV bc f1 f2 f3 us1 us2 us3*R)))) Cf ?_;exact Z.1):X:=h ⟨k⟩
def uB(h:A Y X:=by intro Z;refine A9 (H':=AB 0 0 ([]:List UInt8) []*(HP.AA b3 0 (AD ks)*H)) MA ?_;exact Z.1):X:=h ⟨k⟩
def VC(h:A Y X:=by intro Z;refine mE rfl (eV m.x.gq n.toNat 4611686018427387904 m.ga m.AP _ hm.g hi.AP (by have h7:=hi.AP.len;rw [hi.gm]at h7;have h8:m.AP.l.length≤8:=h7;omega)) ?_;exact Z.1):X:=h ⟨k⟩
def Vj(h:A Y X:=by intro Z;refine Ai (H':=AQ cb m2.x*(AS m2.x.gq m2.ga m2.AP*(A4 cb m2.ws*(BU cb m2.rs*(DN m2*(HP.AA b14 0 (AM (rs.getD i AC.AH))*(AB b45 o45 rs s45*(B8 rs*(AB b28 o28 ys s28*(R)))))))))) (by first|rw [DJ] |rfl) ?_;exact Z.1):X:=h ⟨k⟩
def Yy(h:A Y X:=by intro Z;show GY i (Bc n.ks _ (UInt64.ofNat m) (Ap fs)::outs n.ks _ (m+1) Ls) n=_;exact Z.1):X:=h ⟨k⟩
def WF(h:A Y X:=by intro Z;refine EI (H':=BM db dm*(HP.AA cb (0+43+j*10) (Bg wm)*(AB wm.a.b wm.a.o wm.w.b wm.a.s*(AS wm.sq wm.sa wm.w.Ae*(AS wm.cq wm.ca wm.w.AE*(B' cb ws j*R)))))) Cf ?_;exact Z.1):X:=h ⟨k⟩
def U5(h:A Y X:=by intro Z;show _=HP.AA b13 0 (AM (CQ (Bx j lo (wm.w.finished&&decide (hi2=wm.w.b.length)) (cut wm.w.b lo hi2))))*(HP.AA cb (0+43+j*10) [.slice wm.a.p wm.w.b.length wm.a.c,ptr wm.sq 0,ptr wm.cq 0,uN (max wm.w.high hi2),.bool wm.w.finished,.bool (wm.w.ending||(wm.w.finished&&decide (hi2=wm.w.b.length))),.bool wm.w.ended,.bool wm.w.given,uN wm.w.code,.bool wm.w.DE]*(AB wm.a.b wm.a.o wm.w.b wm.a.s*(AS wm.sq sa2 (if lo<hi2 then wm.w.Ae.add lo (hi2-1)else wm.w.Ae)*AS wm.cq wm.ca wm.w.AE)*B' cb ws j)*(BM db dm2*R));exact Z.1):X:=h ⟨k⟩
def X8(h:A Y X:=by intro Z;refine EI (H':=AB 0 0 ([]:List UInt8) []*(BM b35 (⟨⟨[],m.x.AI-16⟩,BR,[],BR⟩:DX)*(AT cb m*(DS pk*(AB tb ob tf ts*R))))) MA ?_;exact Z.1):X:=h ⟨k⟩
def WV(h:A Y X:=by intro Z;refine Ai (H':=At nb w.x*(AB w.xa.b w.xa.o w.cs w.xa.s*(AB w.ea.b w.ea.o w.rows w.ea.s*(AB w.ba.b w.ba.o w.AJ w.ba.s*(AB w.ca.b w.ca.o w.cnt w.ca.s*(AT C.cb C.c*(AB r.a.b r.a.o r.es r.a.s*(A7 E.q E.o*(B2 w i i 0 r*H))))))))) (Ej nb w H hC hr hE) ?_;exact Z.1):X:=h ⟨k⟩
def cB(h:A Y X:=by intro Z;refine Ai (H':=HP.AA b10 0 (BG ⟨rv.1.2.2.2,-1,rv.1.2.1,rv.1.2.2.1,AX rv.1.1,[]⟩ (.slice ps.p 0 ps.c))*(ps.h ([]:List ByteArray)*(At nb w.x*(AB w.xa.b w.xa.o w.cs w.xa.s*(AB w.ea.b w.ea.o w.rows w.ea.s*(AB w.ba.b w.ba.o w.AJ w.ba.s*(AB w.ca.b w.ca.o w.cnt w.ca.s*(AT C.cb m2*(AB r.a.b r.a.o r.es r.a.s*(A7 E.q E.o*(B2 w i (1-i) k r*H))))))))))) Cf ?_;exact Z.1):X:=h ⟨k⟩
def ZD(h:A Y X:=by intro Z;refine Ai (H':=AT C.cb C.c*((At nb w.x*(AB w.xa.b w.xa.o w.cs w.xa.s*(AB w.ea.b w.ea.o w.rows w.ea.s*(AB w.ba.b w.ba.o w.AJ w.ba.s*(AB w.ca.b w.ca.o w.cnt w.ca.s*(AB r.a.b r.a.o r.es r.a.s*(A7 E.q E.o*(B2 w 0 0 0 r*(H))))))))))) pT ?_;exact Z.1):X:=h ⟨k⟩
def Uq(h:A Y X:=by intro Z;refine Ai (H':=AT C1.cb C1.c*((At nb w2.x*(AB w2.xa.b w2.xa.o w2.cs w2.xa.s*(AB w2.ea.b w2.ea.o w2.rows w2.ea.s*(AB w2.ba.b w2.ba.o w2.AJ w2.ba.s*(AB w2.ca.b w2.ca.o w2.cnt w2.ca.s*(AB r1.a.b r1.a.o r1.es r1.a.s*(A7 E1.q E1.o*(B2 w2 1 0 0 r1*(HP.AA b14 0 (BG ⟨0,-1,0,0,⟨#[]⟩,[]⟩ (.slice ps.p 0 ps.c))*(ps.h ([]:List ByteArray)*H)))))))))))) pU ?_;exact Z.1):X:=h ⟨k⟩
def Zp(h:A Y X:=by intro Z;refine Ai (H':=At nb w8.x*(AB w8.xa.b w8.xa.o w8.cs w8.xa.s*(AB w8.ea.b w8.ea.o w8.rows w8.ea.s*(AB w8.ba.b w8.ba.o w8.AJ w8.ba.s*(AB w8.ca.b w8.ca.o w8.cnt w8.ca.s*(AT (⟨C8.cb,m9⟩:CM).cb (⟨C8.cb,m9⟩:CM).c*(AB r8.a.b r8.a.o r8.es r8.a.s*(A7 E8.q E8.o*(B2 w8 0 0 0 r8*(HP.AA b18 0 (BG ⟨9,-1,0,0,⟨#[]⟩,[]⟩ (.slice pw.p 0 pw.c))*(pw.h ([]:List ByteArray)*(J*H)))))))))))) Cf ?_;exact Z.1):X:=h ⟨k⟩
def FO(h:A Y X:=by intro Z;refine J1 ?_;refine FJ ?_;refine J1 ?_;refine FJ ?_;exact Z.1):X:=h ⟨k⟩
def DB(h:A Y X:=by intro Z;refine JR ?_;refine DW ?_;refine JD ?_;exact Z.1):X:=h ⟨k⟩
def Hx(h:A Y X:=by intro Z;refine ID ?_;refine J1 ?_;refine ID ?_;refine J1 ?_;refine ID ?_;exact Z.1):X:=h ⟨k⟩
def K7(h:A Y X:=by intro Z;refine Mv ?_;refine I3 ?_;refine Kf ?_;exact Z.1):X:=h ⟨k⟩
def O0(h:A Y X:=by intro Z;refine N9 ?_;refine My ?_;refine HM ?_;exact Z.1):X:=h ⟨k⟩
def H3(h:A Y X:=by intro Z;refine Hw ?_;refine Hw ?_;refine Hw ?_;exact Z.1):X:=h ⟨k⟩
def EX(h:A Y X:=by intro Z;refine FX ?_;refine YR ?_;exact Z.1):X:=h ⟨k⟩
def E7(h:A Y X:=by intro Z;refine KC ?_;refine J2 ?_;exact Z.1):X:=h ⟨k⟩
def RQ(h:A Y X:=by intro Z;refine GV ?_;refine GV ?_;refine GV ?_;refine GV ?_;refine GV ?_;exact Z.1):X:=h ⟨k⟩
def Da(h:A Y X:=by intro Z;refine JD ?_;refine J2 ?_;exact Z.1):X:=h ⟨k⟩
def LA(h:A Y X:=by intro Z;refine Jm 4 ?_;refine Jn 5 ?_;refine Jf 6 ?_;refine Jd 7 ?_;exact Z.1):X:=h ⟨k⟩
def fA(h:A Y X:=by intro Z;refine EW 13 rfl Cb rfl rfl rfl rfl ?_;refine EW 14 rfl Cb rfl rfl rfl rfl ?_;refine EW 15 rfl Cb rfl rfl rfl rfl ?_;refine EW 16 rfl Cb rfl rfl rfl rfl ?_;refine EW 17 rfl Cb rfl rfl rfl rfl ?_;refine EW 18 rfl Cb rfl rfl rfl rfl ?_;refine EW 19 rfl Cb rfl rfl rfl rfl ?_;refine EW 20 rfl Cb rfl rfl rfl rfl ?_;refine EW 21 rfl Cb rfl rfl rfl rfl ?_;exact Z.1):X:=h ⟨k⟩
def Mw(h:A Y X:=by intro Z;refine JG F1 ?_;refine J1 ?_;refine JG F1 ?_;exact Z.1):X:=h ⟨k⟩
def WC(h:A Y X:=by intro Z;refine J1 ?_;refine JL qH ?_;refine Gy ?_;refine J1 ?_;refine JL aJ ?_;refine Gy ?_;refine J1 ?_;refine Gy ?_;refine LE ?_;exact Z.1):X:=h ⟨k⟩
def wQ(h:A Y X:=by intro Z;refine FP ?_;refine Vu ?_;refine FP ?_;exact Z.1):X:=h ⟨k⟩
def OI(h:A Y X:=by intro Z;refine Fo ?_;refine J1 ?_;refine Fo ?_;refine J1 ?_;refine Fo ?_;exact Z.1):X:=h ⟨k⟩
def Jh(h:A Y X:=by intro Z;refine Jd 0 ?_;refine Jd 1 ?_;refine O0 ?_;exact Z.1):X:=h ⟨k⟩
def Ev(h:A Y X:=by intro Z;refine JR ?_;refine A6 ?_;exact Z.1):X:=h ⟨k⟩
def UD(h:A Y X:=by intro Z;refine JG T1 ?_;refine J1 ?_;refine JG T1 ?_;refine J1 ?_;refine JG T1 ?_;exact Z.1):X:=h ⟨k⟩
def G3(h:A Y X:=by intro Z;refine gW ?_;refine J3 ?_;exact Z.1):X:=h ⟨k⟩
def UA(h:A Y X:=by intro Z;refine JU 15 ?_;refine JU 16 ?_;refine JU 17 ?_;refine JU 18 ?_;refine JU 19 ?_;refine JU 20 ?_;refine JU 21 ?_;refine JU 22 ?_;refine JU 23 ?_;exact Z.1):X:=h ⟨k⟩
def e7(h:A Y X:=by intro Z;refine JU 25 ?_;refine JU 26 ?_;refine JU 27 ?_;refine JU 28 ?_;refine JU 29 ?_;refine JU 30 ?_;refine JU 31 ?_;refine JU 32 ?_;refine JU 33 ?_;exact Z.1):X:=h ⟨k⟩
def Kb(h:A Y X:=by intro Z;refine LN ?_;refine LN ?_;refine LN ?_;exact Z.1):X:=h ⟨k⟩
def Ep(h:A Y X:=by intro Z;refine JR ?_;refine J3 ?_;exact Z.1):X:=h ⟨k⟩
def MH(h:A Y X:=by intro Z;refine JG T2 ?_;refine J1 ?_;refine JG T2 ?_;exact Z.1):X:=h ⟨k⟩
def Rf(h:A Y X:=by intro Z;refine JG hg4 ?_;refine J1 ?_;refine JG hg4 ?_;refine J1 ?_;refine JG hg4 ?_;exact Z.1):X:=h ⟨k⟩
def Ua(h:A Y X:=by intro Z;refine J3 ?_;refine mA 9 9 ?_;refine EX ?_;refine O0 ?_;refine Ja 5 ?_;refine Ja 6 ?_;refine JT 7 rfl X' ?_;refine Ja 8 ?_;refine Da ?_;exact Z.1):X:=h ⟨k⟩
def I4(h:A Y X:=by intro Z;refine FO ?_;refine J1 ?_;refine FJ ?_;exact Z.1):X:=h ⟨k⟩
def Rl(h:A Y X:=by intro Z;refine JH F1 ?_;refine JH F1 ?_;refine JH F1 ?_;exact Z.1):X:=h ⟨k⟩
def IR(h:A Y X:=by intro Z;refine J2 ?_;refine Fd ?_;exact Z.1):X:=h ⟨k⟩
def Pw(h:A Y X:=by intro Z;refine JG hg2 ?_;refine J1 ?_;refine JG hg2 ?_;refine J1 ?_;exact Z.1):X:=h ⟨k⟩
def FB(h:A Y X:=by intro Z;refine JR ?_;refine J4 ?_;exact Z.1):X:=h ⟨k⟩
def FC(h:A Y X:=by intro Z;refine JD ?_;refine J1 ?_;exact Z.1):X:=h ⟨k⟩
def wK(h:A Y X:=by intro Z;refine JL (JE (j:=56) rfl rfl Ca) ?_;refine Gy ?_;refine JL (Ri (j:=192) rfl rfl ⟨Ca,Ca⟩) ?_;refine J1 ?_;refine JL (JE (j:=48) rfl rfl Ca) ?_;refine Gy ?_;refine J1 ?_;refine JL (JE (j:=40) rfl rfl Ca) ?_;refine Gy ?_;exact Z.1):X:=h ⟨k⟩
def Ob(h:A Y X:=by intro Z;refine Nh ?_;refine DB ?_;refine J2 ?_;refine mA 13 14 ?_;refine EX ?_;refine N9 ?_;exact Z.1):X:=h ⟨k⟩
def IN(h:A Y X:=by intro Z;refine FX ?_;refine K7 ?_;exact Z.1):X:=h ⟨k⟩
def Sx(h:A Y X:=by intro Z;refine Jf 14 ?_;refine Jd 15 ?_;refine Jf 16 ?_;refine Jd 17 ?_;refine JT 18 rfl HJ ?_;exact Z.1):X:=h ⟨k⟩
def Sf(h:A Y X:=by intro Z;refine J5 ?_;refine JL dJ ?_;refine J1 ?_;refine JL qJ ?_;refine JL aL ?_;refine J1 ?_;refine JL lN ?_;refine JL Oc ?_;exact Z.1):X:=h ⟨k⟩
def PG(h:A Y X:=by intro Z;refine Jf 1 ?_;refine Jd 2 ?_;refine Jn 3 ?_;refine Jf 4 ?_;refine JT 5 rfl sQ ?_;exact Z.1):X:=h ⟨k⟩
def Su(h:A Y X:=by intro Z;refine JN 6 rfl hg1 ?_;refine JN 7 rfl hg1 ?_;refine JN 8 rfl hg1 ?_;refine JN 9 rfl hg1 ?_;refine JN 10 rfl hg1 ?_;exact Z.1):X:=h ⟨k⟩
def QY(h:A Y X:=by intro Z;refine Jm 11 ?_;refine Jn 12 ?_;refine Jf 13 ?_;refine Jd 14 ?_;exact Z.1):X:=h ⟨k⟩
def Og(h:A Y X:=by intro Z;refine Hj ?_;refine Hj ?_;refine Hj ?_;exact Z.1):X:=h ⟨k⟩
def Qk(h:A Y X:=by intro Z;refine Jm 9 ?_;refine Jn 10 ?_;refine Jf 11 ?_;refine Jd 12 ?_;exact Z.1):X:=h ⟨k⟩
def F8(h:A Y X:=by intro Z;refine Fd ?_;refine J3 ?_;exact Z.1):X:=h ⟨k⟩
def WX(h:A Y X:=by intro Z;refine JN 15 rfl F2 ?_;refine JN 16 rfl F2 ?_;refine JN 17 rfl F2 ?_;refine JN 18 rfl F2 ?_;refine JN 19 rfl F2 ?_;refine JN 20 rfl F2 ?_;refine JN 21 rfl F2 ?_;refine JN 22 rfl F2 ?_;refine JN 23 rfl F2 ?_;exact Z.1):X:=h ⟨k⟩
def LQ(h:A Y X:=by intro Z;refine Jn 6 ?_;refine Jf 7 ?_;refine Jd 8 ?_;exact Z.1):X:=h ⟨k⟩
def Gi(h:A Y X:=by intro Z;refine J2 ?_;refine Kn ?_;exact Z.1):X:=h ⟨k⟩
def mU(h:A Y X:=by intro Z;refine Dx (HP.AA fb 0 (AM r)*R) 19 21 Dy rfl Cb ?_;refine EX ?_;refine LA ?_;refine JT 8 rfl Xt ?_;refine Jm 10 ?_;refine Jn 11 ?_;refine Jf 12 ?_;refine Jd 13 ?_;refine Jm 15 ?_;exact Z.1):X:=h ⟨k⟩
def nA(h:A Y X:=by intro Z;refine Dx (HP.AA fb 0 (AM r)*R) 18 20 Dy rfl Cb ?_;refine FX ?_;refine Jm 3 ?_;refine Jn 4 ?_;refine Jf 5 ?_;refine Jd 6 ?_;refine JT 7 rfl Xt ?_;refine Qk ?_;refine Jm 14 ?_;exact Z.1):X:=h ⟨k⟩
def MI(h:A Y X:=by intro Z;refine JH T1 ?_;refine JH T1 ?_;exact Z.1):X:=h ⟨k⟩
def Oz(h:A Y X:=by intro Z;refine oD ?_;refine JR ?_;refine J6 ?_;refine JL Wi ?_;refine J2 ?_;exact Z.1):X:=h ⟨k⟩
def Jw(h:A Y X:=by intro Z;refine JL Jp ?_;refine J2 ?_;exact Z.1):X:=h ⟨k⟩
def IF(h:A Y X:=by intro Z;refine ML ?_;refine JR ?_;exact Z.1):X:=h ⟨k⟩
def MZ(h:A Y X:=by intro Z;refine ID ?_;refine J1 ?_;exact Z.1):X:=h ⟨k⟩
def mO(h:A Y X:=by intro Z;refine Jm 6 ?_;refine Jn 7 ?_;refine Jf 8 ?_;refine Jd 9 ?_;refine JT 10 rfl FT ?_;refine JT 11 rfl Ns ?_;refine JT 12 rfl FD ?_;refine Sx ?_;refine Am 1 Cb rfl rfl Hn ?_;exact Z.1):X:=h ⟨k⟩
def U7(h:A Y X:=by intro Z;refine fA ?_;refine EW 22 rfl Cb rfl rfl rfl rfl ?_;refine EW 23 rfl Cb rfl rfl rfl rfl ?_;refine EW 24 rfl Cb rfl rfl rfl rfl ?_;refine EW 25 rfl Cb rfl rfl rfl rfl ?_;exact Z.1):X:=h ⟨k⟩
def cG(h:A Y X:=by intro Z;refine Ai (H':=AB b o (l.take i) (AD (l.drop i)++s)*R) Xc ?_;refine mA 6 8 ?_;refine EX ?_;refine JT 2 rfl RZ ?_;refine Jm 3 ?_;refine Jm 4 ?_;refine JT 5 rfl yJ ?_;exact Z.1):X:=h ⟨k⟩
def dF(h:A Y X:=by intro Z;refine O0 ?_;refine Jm 5 ?_;refine JT 6 rfl TY ?_;refine Jf 7 ?_;refine JT 8 rfl nY ?_;refine Jf 9 ?_;refine Jd 10 ?_;refine JT 11 rfl HJ ?_;refine JT 12 rfl Te ?_;exact Z.1):X:=h ⟨k⟩
def I5(h:A Y X:=by intro Z;refine Jf 4 ?_;refine Jd 5 ?_;exact Z.1):X:=h ⟨k⟩
def Pr(h:A Y X:=by intro Z;refine JL Pm ?_;refine J1 ?_;refine JL zO ?_;refine JL R8 ?_;exact Z.1):X:=h ⟨k⟩
def TR(h:A Y X:=by intro Z;refine JH hg4 ?_;refine JH hg4 ?_;refine JH hg4 ?_;exact Z.1):X:=h ⟨k⟩
def UU(h:A Y X:=by intro Z;refine JH hg2 ?_;refine JH hg2 ?_;refine JH hg2 ?_;exact Z.1):X:=h ⟨k⟩
def Yi(h:A Y X:=by intro Z;refine mA 10 11 ?_;refine Jd 0 ?_;refine K7 ?_;refine I5 ?_;refine Jd 6 ?_;refine JT 7 rfl Jg ?_;refine Jf 8 ?_;refine Jd 9 ?_;refine Am 10 Cb rfl rfl eZ ?_;exact Z.1):X:=h ⟨k⟩
def H5(h:A Y X:=by intro Z;refine JR ?_;refine J1 ?_;exact Z.1):X:=h ⟨k⟩
def W6(h:A Y X:=by intro Z;refine Jf 6 ?_;refine Jd 7 ?_;refine Jf 8 ?_;refine Jd 9 ?_;refine JT 10 rfl G6 ?_;refine JT 11 rfl FD ?_;refine JT 12 rfl Jr ?_;refine JT 13 rfl NI ?_;exact Z.1):X:=h ⟨k⟩
def Hp(h:A Y X:=by intro Z;refine J4 ?_;refine E7 ?_;exact Z.1):X:=h ⟨k⟩
def Sy(h:A Y X:=by intro Z;refine JH F2 ?_;refine JH F2 ?_;refine JH F2 ?_;exact Z.1):X:=h ⟨k⟩
def Zn(h:A Y X:=by intro Z;refine J7 ?_;refine wK ?_;refine J1 ?_;refine JL (JE (j:=32) rfl rfl Ca) ?_;refine Gy ?_;refine J1 ?_;refine JL YE ?_;refine Gy ?_;refine WC ?_;exact Z.1):X:=h ⟨k⟩
def Vh(h:A Y X:=by intro Z;refine QY ?_;refine Jm 15 ?_;refine Jm 16 ?_;refine JT 17 rfl yZ ?_;refine JT 18 rfl mZ ?_;refine JT 19 rfl Ey ?_;refine Am 20 Cb rfl rfl jQ ?_;exact Z.1):X:=h ⟨k⟩
def UB(h:A Y X:=by intro Z;refine Jd 0 ?_;refine K7 ?_;refine Jm 4 ?_;refine JT 5 rfl Ko ?_;refine Jf 6 ?_;exact Z.1):X:=h ⟨k⟩
def Ve(h:A Y X:=by intro Z;refine J2 ?_;refine uU ?_;refine mA 10 10 ?_;refine Jd 0 ?_;refine K7 ?_;refine JT 4 rfl FT ?_;refine Jd 5 ?_;refine LQ ?_;refine JT 9 rfl H9 ?_;exact Z.1):X:=h ⟨k⟩
def Iu(h:A Y X:=by intro Z;refine JL X7 ?_;refine J2 ?_;exact Z.1):X:=h ⟨k⟩
def It(h:A Y X:=by intro Z;refine Jf 0 ?_;refine Jd 1 ?_;exact Z.1):X:=h ⟨k⟩
def XU(h:A Y X:=by intro Z;refine Jn 9 ?_;refine Jf 10 ?_;refine Nh ?_;refine DB ?_;refine J1 ?_;refine uM ?_;refine tZ ?_;refine Jh ?_;refine Am 5 Cb rfl rfl xZ ?_;exact Z.1):X:=h ⟨k⟩
def UG(h:A Y X:=by intro Z;refine mI Tryz.func44 ?_;refine IR ?_;refine Fd ?_;refine J4 ?_;refine N1 ?_;exact Z.1):X:=h ⟨k⟩
def Q8(h:A Y X:=by intro Z;refine e7 ?_;refine JU 34 ?_;refine JU 35 ?_;refine JU 36 ?_;refine JU 37 ?_;exact Z.1):X:=h ⟨k⟩
def aO(h:A Y X:=by intro Z;refine p5 ?_;refine nG ?_;refine Jh ?_;refine Jm 5 ?_;refine Jm 6 ?_;refine JT 7 rfl (Ds rfl rfl) ?_;refine Am 8 Cb rfl rfl wG ?_;exact Z.1):X:=h ⟨k⟩
def KK(h:A Y X:=by intro Z;refine JZ ?_;refine J2 ?_;exact Z.1):X:=h ⟨k⟩
def dL(h:A Y X:=by intro Z;refine J4 ?_;refine JL aJ ?_;refine Gy ?_;refine JL (Ri (j:=64) rfl rfl ⟨Ca,Ca⟩) ?_;refine J1 ?_;refine Gy ?_;refine LE ?_;exact Z.1):X:=h ⟨k⟩
def PB(h:A Y X:=by intro Z;refine Jd 7 ?_;refine JT 8 rfl vM ?_;refine Jn 9 ?_;exact Z.1):X:=h ⟨k⟩
def JF(h:A Y X:=by intro Z;refine N9 ?_;refine My ?_;exact Z.1):X:=h ⟨k⟩
def Io(h:A Y X:=by intro Z;refine wQ ?_;refine Vu ?_;exact Z.1):X:=h ⟨k⟩
def LI(h:A Y X:=by intro Z;refine JL Ia ?_;refine J2 ?_;exact Z.1):X:=h ⟨k⟩
def Ik(h:A Y X:=by intro Z;refine JR ?_;refine J6 ?_;exact Z.1):X:=h ⟨k⟩
def Uf(h:A Y X:=by intro Z;refine J2 ?_;refine GZ ?_;refine J2 ?_;refine JL Yt ?_;refine J6 ?_;exact Z.1):X:=h ⟨k⟩
def Xx(h:A Y X:=by intro Z;refine J6 ?_;refine JL (Ds (l:=Bw s) rfl rfl) ?_;refine mE rfl (sB hG nb t9 s w9 L Rr _ hok9 hw9 hs ht9) ?_;exact Z.1):X:=h ⟨k⟩
def I1(h:A Y X:=by intro Z;refine KG ?_;refine J2 ?_;exact Z.1):X:=h ⟨k⟩
def NE(h:A Y X:=by intro Z;refine FJ ?_;refine J1 ?_;refine Ga ?_;exact Z.1):X:=h ⟨k⟩
def bR(h:A Y X:=by intro Z;refine MH ?_;refine JL WZ ?_;refine JG T2 ?_;refine JL kH ?_;refine JG T2 ?_;refine KG ?_;refine JL Hr ?_;refine J2 ?_;exact Z.1):X:=h ⟨k⟩
def Wv(h:A Y X:=by intro Z;refine mA 8 9 ?_;refine EX ?_;refine Jm 2 ?_;refine JT 3 rfl NB ?_;refine JT 4 rfl Ih ?_;refine Jm 5 ?_;refine Jm 6 ?_;exact Z.1):X:=h ⟨k⟩
def Nm(h:A Y X:=by intro Z;refine J2 ?_;refine Gu ?_;refine J6 ?_;exact Z.1):X:=h ⟨k⟩
def eB(h:A Y X:=by intro Z;refine J5 ?_;refine JL yA ?_;refine J7 ?_;refine JL t4 ?_;refine JL (FE (i:=22) (j:=20) rfl rfl) ?_;refine J1 ?_;exact Z.1):X:=h ⟨k⟩
def Il(h:A Y X:=by intro Z;refine JR ?_;refine J5 ?_;exact Z.1):X:=h ⟨k⟩
def JQ(h:A Y X:=by intro Z;refine JD ?_;refine J3 ?_;exact Z.1):X:=h ⟨k⟩
def ZE(h:A Y X:=by intro Z;refine Gu ?_;refine J6 ?_;refine JL N3 ?_;refine J1 ?_;refine mE rfl (Sj ks hk first _) ?_;refine H5 ?_;exact Z.1):X:=h ⟨k⟩
def PI(h:A Y X:=by intro Z;refine mA 11 12 ?_;refine FX ?_;refine Mv ?_;exact Z.1):X:=h ⟨k⟩
def Kp(h:A Y X:=by intro Z;refine Jm 6 ?_;refine Jn 7 ?_;exact Z.1):X:=h ⟨k⟩
def LB(h:A Y X:=by intro Z;refine JL VE ?_;refine J1 ?_;exact Z.1):X:=h ⟨k⟩
def LC(h:A Y X:=by intro Z;refine JL H9 ?_;refine J2 ?_;exact Z.1):X:=h ⟨k⟩
def Vl(h:A Y X:=by intro Z;refine mE rfl (gM cb m k _ (Ab.MT hi)) ?_;refine JR ?_;refine Bt ?_;refine JL Wi ?_;refine J2 ?_;exact Z.1):X:=h ⟨k⟩
def PH(h:A Y X:=by intro Z;refine Jf 9 ?_;refine DV 10 Cb rfl Eu ?_;exact Z.1):X:=h ⟨k⟩
def KO(h:A Y X:=by intro Z;refine DB ?_;refine J2 ?_;exact Z.1):X:=h ⟨k⟩
def Je(h:A Y X:=by intro Z;refine J1 ?_;refine G3 ?_;exact Z.1):X:=h ⟨k⟩
def KD(h:A Y X:=by intro Z;refine J2 ?_;refine Ky ?_;exact Z.1):X:=h ⟨k⟩
def dM(h:A Y X:=by intro Z;refine J7 ?_;refine JL ZR ?_;refine J1 ?_;refine mE rfl (Xo hks p b o c _ hs inferInstance hx hop) ?_;exact Z.1):X:=h ⟨k⟩
def NF(h:A Y X:=by intro Z;refine J2 ?_;refine Ag vA rfl ?_;exact Z.1):X:=h ⟨k⟩
def Yr(h:A Y X:=by intro Z;refine JG F2 ?_;refine J1 ?_;refine JG F2 ?_;exact Z.1):X:=h ⟨k⟩
def YI(h:A Y X:=by intro Z;refine JY 16 rfl T2 CT ?_;refine JY 17 rfl T2 BO ?_;refine JY 18 rfl T2 BX ?_;refine JY 19 rfl T2 Be ?_;exact Z.1):X:=h ⟨k⟩
def Xu(h:A Y X:=by intro Z;refine J4 ?_;refine JL YE ?_;refine Gy ?_;refine JL (Ri (j:=128) rfl rfl ⟨Ca,Ca⟩) ?_;refine WC ?_;exact Z.1):X:=h ⟨k⟩
def bZ(h:A Y X:=by intro Z;refine J6 ?_;refine nA ?_;refine Jn 15 ?_;refine Jf 16 ?_;refine Jd 17 ?_;refine Am 1 Cb rfl rfl Hn ?_;exact Z.1):X:=h ⟨k⟩
def cD(h:A Y X:=by intro Z;refine J2 ?_;refine mU ?_;refine Jn 16 ?_;refine Jf 17 ?_;refine Jd 18 ?_;refine Am 2 Cb rfl rfl Hn ?_;exact Z.1):X:=h ⟨k⟩
def S3(h:A Y X:=by intro Z;refine Jn 10 ?_;refine Jf 11 ?_;refine RL ?_;refine DB ?_;exact Z.1):X:=h ⟨k⟩
def aR(h:A Y X:=by intro Z;refine J1 ?_;refine mA 11 12 ?_;refine Jh ?_;refine JT 5 rfl pN ?_;refine Jf 6 ?_;refine JT 7 rfl mN ?_;exact Z.1):X:=h ⟨k⟩
def Ql(h:A Y X:=by intro Z;refine Kf ?_;refine Jm 4 ?_;refine Jn 5 ?_;exact Z.1):X:=h ⟨k⟩
def Zq(h:A Y X:=by intro Z;refine HM ?_;refine Jn 6 ?_;refine Am 5 Cb rfl rfl (BJ rfl (Nb _ 32 Cc _)) ?_;refine Ev ?_;exact Z.1):X:=h ⟨k⟩
def QA(h:A Y X:=by intro Z;refine DP ?_;refine JL Qm ?_;refine J2 ?_;exact Z.1):X:=h ⟨k⟩
def S'(h:A Y X:=by intro Z;refine A6 ?_;refine DV 12 Cb rfl gV ?_;refine DB ?_;exact Z.1):X:=h ⟨k⟩
def aQ(h:A Y X:=by intro Z;refine IF ?_;refine J5 ?_;refine JL rE ?_;refine J7 ?_;refine JL qR ?_;refine JL X3 ?_;refine J1 ?_;exact Z.1):X:=h ⟨k⟩
def QJ(h:A Y X:=by intro Z;refine J7 ?_;refine JL N4 ?_;refine J2 ?_;exact Z.1):X:=h ⟨k⟩
def PX(h:A Y X:=by intro Z;refine Mw ?_;refine J1 ?_;refine JG F1 ?_;exact Z.1):X:=h ⟨k⟩
def WN(h:A Y X:=by intro Z;refine J6 ?_;refine JL (HG rfl rfl hs45 Ca rfl) ?_;refine JL mB ?_;refine Ag RR rfl ?_;exact Z.1):X:=h ⟨k⟩
def Z2(h:A Y X:=by intro Z;refine Jm 3 ?_;refine Ak 4 rfl Cb rfl rfl rfl rfl BO ?_;refine Ak 5 rfl Cb rfl rfl rfl rfl BX ?_;exact Z.1):X:=h ⟨k⟩
def R7(h:A Y X:=by intro Z;refine J1 ?_;refine JL Ey ?_;refine IF ?_;refine J9 ?_;exact Z.1):X:=h ⟨k⟩
def Po(h:A Y X:=by intro Z;refine Hw ?_;refine Jw ?_;refine GZ ?_;exact Z.1):X:=h ⟨k⟩
def cP(h:A Y X:=by intro Z;refine ML ?_;refine Ep ?_;refine kI ?_;refine FX ?_;refine My ?_;refine HM ?_;refine mO ?_;exact Z.1):X:=h ⟨k⟩
def cY(h:A Y X:=by intro Z;refine Jm 10 ?_;refine EW 11 rfl Cb rfl rfl rfl rfl ?_;refine EW 12 rfl Cb rfl rfl rfl rfl ?_;exact Z.1):X:=h ⟨k⟩
def Kv(h:A Y X:=by intro Z;refine J5 ?_;refine E7 ?_;exact Z.1):X:=h ⟨k⟩
def Kh(h:A Y X:=by intro Z;refine IR ?_;refine J5 ?_;exact Z.1):X:=h ⟨k⟩
def K'(h:A Y X:=by intro Z;refine J2 ?_;refine uW ?_;exact Z.1):X:=h ⟨k⟩
def LF(h:A Y X:=by intro Z;refine Dw ?_;refine J1 ?_;exact Z.1):X:=h ⟨k⟩
def aD(h:A Y X:=by intro Z;refine MZ ?_;refine qA ?_;refine ID ?_;refine uS ?_;refine JR ?_;refine MZ ?_;refine LI ?_;exact Z.1):X:=h ⟨k⟩
def WY(h:A Y X:=by intro Z;refine mA 16 16 ?_;refine IN ?_;refine LA ?_;refine JT 8 rfl FT ?_;refine JT 9 rfl FD ?_;exact Z.1):X:=h ⟨k⟩
def Lo(h:A Y X:=by intro Z;refine IN ?_;refine Jm 4 ?_;exact Z.1):X:=h ⟨k⟩
def Wd(h:A Y X:=by intro Z;refine JN 11 rfl T1 ?_;refine JN 12 rfl T1 ?_;refine JN 13 rfl T1 ?_;refine JN 14 rfl T1 ?_;exact Z.1):X:=h ⟨k⟩
def Z6(h:A Y X:=by intro Z;refine Gu ?_;refine J1 ?_;refine Fd ?_;refine J5 ?_;refine uB ?_;refine Ag rK rfl ?_;exact Z.1):X:=h ⟨k⟩
def K4(h:A Y X:=by intro Z;refine JD ?_;refine J4 ?_;exact Z.1):X:=h ⟨k⟩
def TT(h:A Y X:=by intro Z;refine mI Tryz.func79 ?_;refine J9 ?_;refine KK ?_;exact Z.1):X:=h ⟨k⟩
def ZK(h:A Y X:=by intro Z;refine mI Tryz.func194 ?_;refine CB ?_;refine JL (D4 (j:=64) rfl rfl) ?_;refine J3 ?_;exact Z.1):X:=h ⟨k⟩
def Y1(h:A Y X:=by intro Z;refine Ak 17 rfl Cb rfl rfl rfl rfl BO ?_;refine Ak 18 rfl Cb rfl rfl rfl rfl BX ?_;exact Z.1):X:=h ⟨k⟩
def YF(h:A Y X:=by intro Z;refine Ak 37 rfl Cb rfl rfl rfl rfl BO ?_;refine Ak 38 rfl Cb rfl rfl rfl rfl BX ?_;exact Z.1):X:=h ⟨k⟩
def OZ(h:A Y X:=by intro Z;refine Ev ?_;refine JT 10 rfl Lh ?_;exact Z.1):X:=h ⟨k⟩
def LO(h:A Y X:=by intro Z;refine MZ ?_;refine ID ?_;exact Z.1):X:=h ⟨k⟩
def LT(h:A Y X:=by intro Z;refine EX ?_;refine O0 ?_;exact Z.1):X:=h ⟨k⟩
def Z'(h:A Y X:=by intro Z;refine Ak 8 rfl Cb rfl rfl rfl rfl BO ?_;refine Ak 9 rfl Cb rfl rfl rfl rfl BX ?_;exact Z.1):X:=h ⟨k⟩
def V2(h:A Y X:=by intro Z;refine J4 ?_;refine JL iT ?_;refine I4 ?_;refine JL yE ?_;refine Ga ?_;refine J7 ?_;exact Z.1):X:=h ⟨k⟩
def V7(h:A Y X:=by intro Z;refine J6 ?_;refine mE rfl (j9 q28 b28 o28 c28 ys _ hq28 inferInstance Ca) ?_;exact Z.1):X:=h ⟨k⟩
end
end Go.Proofs.YtgfdlpcdjklcoaaGreatDoor
