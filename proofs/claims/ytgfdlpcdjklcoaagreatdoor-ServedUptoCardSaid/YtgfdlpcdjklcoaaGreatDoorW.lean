/- Steps of this proof; no condition. -/
import Derived.Test.YtgfdlpcdjklcoaaGreatDoorP3
namespace Go.Proofs.YtgfdlpcdjklcoaaGreatDoor
open Go Go.RowKit Tryz
open _root_.List renaming length→aa
set_option linter.all false
section
variable{X:Prop}
def T1(h:X:=by exact decide_eq_true hg1):=h
def F1(h:X:=by exact decide_eq_false hg1):=h
def T2(h:X:=by exact decide_eq_true hg2):=h
def F2(h:X:=by exact decide_eq_false hg2):=h
def T3(h:X:=by exact decide_eq_true hg3):=h
def T4(h:X:=by exact decide_eq_true hg4):=h
def F4(h:X:=by exact decide_eq_false hg4):=h
def F5(h:X:=by exact decide_eq_false hg5):=h
def T6(h:X:=by exact decide_eq_true hg6):=h
def F7(h:X:=by exact decide_eq_false hg7):=h
def C0(h:X:=by omega):=h
def C1(h:X:=by kernel_rfl):=h
def C2(h:X:=by decide):=h
def C3(h:X:=by simp):=h
def C4(h:X:=by ac_rfl):=h
def C5(h:X:=by simp[Value.oneCell']):=h
def C6(h:X:=by unfold EV;omega):=h
def C7(h:X:=by nofun):=h
def C8(h:X:=by have:=hs.2;omega):=h
def C9(h:X:=by simp;omega):=h
def Ca(h:X:=by constructor<;>rfl):=h
def Cb(h:X:=by rw[ewr];rfl):=h
def Cc(h:X:=by first|kernel_rfl|simp[Instr.fill,Value.cells]):=h
def Cd(h:X:=by simp only[mz];omega):=h
def Ce(h:X:=by rw[HP.BS]):=h
def Cf(h:X:=by first|trivial|omega):=h
def Cg(h:X:=by unfold GA;ac_rfl):=h
def Ch(h:X:=by cases e):=h
def Ci(h:X:=by rw[GY,HP.BS]):=h
def Cj(h:X:=by rw[ewr]):=h
def Ck(h:X:=by first|omega|(simp;omega)):=h
def Cl(h:X:=by show (aa z.l)-(i+1)<aa z.l-i;omega):=h
def Cm(h:X:=by rw[hx];rfl):=h
def Cn(h:X:=by rw[HP.EM];rfl):=h
def Cp(h:X:=by congr 1;ac_rfl):=h
def Cq(h:X:=by rw[tg,n',Akd,qL];simp only[h43,h59,if_true,if_false];assumption):=h
def Cr(h:X:=by rw[tg,n',Akd,qL];simp only[h43,h59,if_true,if_false];ac_rfl):=h
def Cs(h:X:=by simp[hg]):=h
def Ct(h:X:=by rw[hs];rfl):=h
def Cu(h:X:=by simp only[a5,f',ss];omega):=h
def Cv(h:X:=by rw[Lv];(repeat' split)<;>first|rfl|(exfalso;omega)):=h
def Cw(h:X:=by show (aa fs)-(i+1)<aa fs-i;omega):=h
def Cy(h:X:=by rw[hl];rfl):=h
def Cz(h:X:=by rw[hl];exact⟨.inr I,er _⟩):=h
def Zg(h:X:=by rw[ewr];exact .inl ⟨I,I,I⟩):=h
def Qt(h:X:=by rw[hZ];omega):=h
def Ni(h:X:=by simp[Region.wanted]):=h
def bY(h:X:=by rw[←h66];exact hA):=h
def Mf(h:X:=by simpa using ht):=h
def Mg(h:X:=by rw[hl];omega):=h
def qV(h:X:=by intro v hv;simp at hv;rcases hv with rfl|rfl|rfl|rfl|rfl<;>first|exact Jw _|rfl):=h
def Ph(h:X:=by simp only[a5,mz];omega):=h
def nT(h:X:=by congr 1;rw[Nb cb ws j wm hjl];unfold DK;ac_rfl):=h
def Zj(h:X:=by rw[hinv,show n13-z.2.1=0 by omega];exact R_):=h
def Pn(h:X:=by rw[etk];rfl):=h
def NT(h:X:=by simp[rec_]):=h
def QL(h:X:=by rw[h];rfl):=h
def Vl(h:X:=by rw[hw2]):=h
def Yx(h:X:=by rw[efa]):=h
def Yt(h:X:=by unfold Is;rw[h139];decide):=h
def Yq(h:X:=by unfold Is;rw[h139];rfl):=h
def PJ(h:X:=by have:=hm.size;omega):=h
def Pm(h:X:=by unfold AC;ac_rfl):=h
def O'(h:X:=by rw[e];rfl):=h
def PB(h:X:=by simp[hs]):=h
def QY(h:X:=by simp[hq]):=h
def PW(h:X:=by intro v hv;simp at hv;rcases hv with rfl|rfl|rfl|rfl|rfl<;>first|exact hev|rfl):=h
def Xp(h:X:=by rw[eop];exact⟨⟨_,I⟩,I⟩):=h
def RE(h:X:=by simp[St.size,Dc.size,Hu]):=h
def Pf(h:X:=by show 0<100000000000;decide):=h
def Pc(h:X:=by show(0:Nat)<_;decide):=h
def PY(h:X:=by rw[II hk];rfl):=h
def PX(h:X:=by unfold DK;ac_rfl):=h
def SE(h:X:=by simp[CS];omega):=h
def Yd(h:X:=by simpa using hlt):=h
def Qm(h:X:=by rw[hgv];simp):=h
def Xk(h:X:=by rw[efa];rfl):=h
def Qe(h:X:=by rw[EK]):=h
def Pz(h:X:=by simp[h2]):=h
def yN(h:X:=by show HP.AA b75 0 _*_=_;rw[show AE [(rg z.l i)]=[uN (rg z.l i).lo,uN (rg z.l i).hi]from g8 _];ac_rfl):=h
def rW(h:X:=by show(m.AM.getD i AB.AD).fs.length-(k+1)<(m.AM.getD i AB.AD).fs.length-k;omega):=h
def Ti(h:X:=by unfold DG;simp only[Nat.reduceEqDiff,if_false,if_true,e8,e10,e12]):=h
def Za(h:X:=by simp only[DG,Nat.reduceEqDiff,if_false,if_true,e1,e2,e3]):=h
def wL(h:X:=by show (aa z.l)-(z'.2+1)<aa z.l-z'.2;omega):=h
def bA(h:X:=by show r.f.data.size-(i+1)<r.f.data.size-i;omega):=h
def nD(h:X:=by show (aa m.AM)-(i+1)<aa m.AM-i;omega):=h
def fM(h:X:=by show (aa m.due)-(i+1)<aa m.due-i;omega):=h
def sF(h:X:=by show (aa l)-(z.j+1)<aa l-z.j;omega):=h
def nE(h:X:=by congr 1;rw[OK cb m R j hjl,hrm];ac_rfl):=h
def XA(h:X:=by unfold EG;rw[eh];exact h19):=h
def xJ(h:X:=by congr 1;rw[K4 sb m R j hjl];ac_rfl):=h
def l4(h:X:=by rw[a5,II hks];rfl):=h
def YG(h:X:=by rw[Lw cb m.ws j hjl,hwx];ac_rfl):=h
def R8(h:X:=by show(0:Int)≤(k:Int);omega):=h
def So(h:X:=by rw[di];omega):=h
def Rw(h:X:=by show(3:Int)≤5;decide):=h
def Sx(h:X:=by simpa[Ai.un]using e):=h
def TM(h:X:=by show(k:Int)<4;omega):=h
def gU(h:X:=by rw[I6];omega):=h
def TJ(h:X:=by rw[hw.len];exact hk):=h
def SF(h:X:=by rw[MP];omega):=h
def W0(h:X:=by have:=hm.len;omega):=h
def SY(h:X:=by simp[Act.put,h2]):=h
def R1(h:X:=by simpa using hg):=h
def Ub(h:X:=by simpa using h):=h
def tM(h:X:=by rw[f3];omega):=h
def TZ(h:X:=by simpa using e):=h
def SO(h:X:=by rw[hl1];rfl):=h
def SB(h:X:=by rw[hem];rfl):=h
def Tz(h:X:=by simp[CS]):=h
def UH(h:X:=by rw[e];simp):=h
def Xb(h:X:=by rw[em];rfl):=h
def SV(h:X:=by simp[hx]):=h
def kP(h:X:=by congr 1;rw[PV sb m R j hjl];first|done|(unfold Am.h;ac_rfl)):=h
def ZF(h:X:=by show (aa r.f.ranges)-1-(i+1)<aa r.f.ranges-1-i;omega):=h
def jW(h:X:=by show H=AC 0 0 ([]:List UInt8) []*H;rw[GY,HP.BS]):=h
def Uw(h:X:=by simp only[DG,Nat.reduceEqDiff,if_false,if_true,e1]):=h
def YX(h:X:=by rw[a5,h1,h2,e31];have:=hs.2;omega):=h
def VV(h:X:=by rw[GY,Re,HP.BS,HP.BS]):=h
def VD(h:X:=by simp[St.size,Dc.size,FN.size,Hu];omega):=h
def Ys(h:X:=by congr 1;rw[R3 cb m R j hjl];ac_rfl):=h
def V4(h:X:=by simp only[LJ,n5];omega):=h
def xM(h:X:=by simpa[Dc.left,FN.left]using hcm):=h
def Yg(h:X:=by simp only[CF,g8]):=h
def VI(h:X:=by simp only[c5];rfl):=h
def YM(h:X:=by rw[Ajk];exact hd):=h
def ZM(h:X:=by unfold Ao EW Am.h;ac_rfl):=h
def VY(h:X:=by rw[a5];rfl):=h
def VE(h:X:=by rw[Dt (by omega),e2]):=h
def Xg(h:X:=by rw[Ak.Tk,ewr,hrd2]):=h
def Zb(h:X:=by rw[I6];exact h20):=h
def ZP(h:X:=by rw[ewr,Ah.pR,ho2]):=h
def V1(h:X:=by rw[eh];rfl):=h
def lV(h:X:=by rw[Vz b o i l s]):=h
def WK(h:X:=by rw[Xz];omega):=h
def iY(h:X:=by have:=hwm.1.1.2;omega):=h
def XQ(h:X:=by rw[func78];rfl):=h
def W6(h:X:=by unfold Hg;ac_rfl):=h
def Wh(h:X:=by show j+1≤_;omega):=h
def U0(h:X:=by show a+1≤_;omega):=h
def oD(h:X:=by rw[EK]<;>rfl):=h
def YC(h:X:=by rw[h4];simp[hmo]):=h
def WX(h:X:=by cases s<;>cases e):=h
def WT(h:X:=by have:=hqs.2;omega):=h
def bQ(h:X:=by congr 1<;>ac_rfl):=h
def Zk(h:X:=by rw[e1];exact h.1):=h
def Wx(h:X:=by unfold Jp;ac_rfl):=h
def Xm(h:X:=by rw[h.gm];omega):=h
def WG(h:X:=by simpa using hp):=h
def X1(h:X:=by rw[hnone];rfl):=h
def XM(h:X:=by simp[Ai.un]):=h
def uD(h:X:=by intro e he f;simp only[oi,j1,F',or_false]at he;rcases he with rfl|rfl<;>simp):=h
def j5(h:X:=by have:=(show Sl (m.zj j).a.p (m.zj j).a.b (m.zj j).a.o (m.zj j).x.data.length (m.zj j).a.c from hxm.1.1).2;omega):=h
def mV(h:X:=by rw[hti,a5,CV,di];show i*2+((aa l-i)*2+aa s)=c*2;omega):=h
def fB(h:X:=by rw[a5,mz]at hc⊢;rw[L9 xs pre (by omega)]at hc;omega):=h
def jH(h:X:=by simp only[CF,g8];exact .cons I (.cons I (.cons I (.cons I (.cons I .nil))))):=h
def i5(h:X:=by rw[hjn,Aj8,a5,hti];simp only[mz];have:=hs.2;omega):=h
def eF(h:X:=by intro v hv;obtain h|h:=j2.1 hv;exact Lr _ v h;simp at h;subst h;rfl):=h
def iU(h:X:=by rw[show B6 ks (UInt8.ofNat sd) xs=none from AJ (by omega)];exact⟨I,I⟩):=h
def gI(h:X:=by rcases hd with hd|⟨hd,_⟩|⟨hd,_⟩;exact .inl hd;cases hd;cases hd):=h
def bL(h:X:=by rw[show B6 ks side xs=none from AJ (by omega)];exact⟨I,I⟩):=h
def fX(h:X:=by unfold AL.close;rw[AF (show ¬m.s.closed≠0 from h9),AF h11];rfl):=h
def l6(h:X:=by rw[Eb,AF (λh=>h0 (by rw[h];rfl))];exact(su _).symm):=h
def kQ(h:X:=by rw[hsp];exact⟨by rw[LE],by rw[LE];omega⟩):=h
def tK(h:X:=by rcases yQ h with h|⟨h,_⟩<;>rw[h]at e<;>cases e):=h
def vV(h:X:=by unfold DG;simp only[Nat.reduceEqDiff,if_false,if_true,e8,e10]):=h
def kE(h:X:=by rw[eh];simp only[mz];omega):=h
def tQ(h:X:=by unfold DG;simp only[Nat.reduceEqDiff,if_false,if_true,e8]):=h
def oV(h:X:=by unfold DG;simp only[Nat.reduceEqDiff,if_false,if_true,e9]):=h
def vY(h:X:=by rw[U?,SR,Re,HP.Hr];ac_rfl):=h
def xN(h:X:=by have hp:=hall (i-1) (by omega);unfold Gc at hp;omega):=h
def nZ(h:X:=by rw[a5,II hk];exact⟨I,I⟩):=h
def gC(h:X:=by rw[CV,hZ,n6 h]):=h
def Zo(h:X:=by rcases hk with⟨rfl,_⟩|⟨rfl,_⟩<;>decide):=h
def tP(h:X:=by show (aa fm.fs)-(i+1)<aa fm.fs-i;omega):=h
def pV(h:X:=by rw[a5,hti,hdj];have:=hs.2;omega):=h
def eP(h:X:=by rw[PV sb m R j hjl];unfold Am.h;ac_rfl):=h
def uX(h:X:=by show (aa qs)-(i+1)<aa qs-i;omega):=h
def eI(h:X:=by rw[hfe2];exact⟨I,by rw[hw2],hde2⟩):=h
def Zn(h:X:=by rw[I3 h29];exact rv h29):=h
def Zs(h:X:=by rw[←Ag6 hc0 hc1 hc2 hn,HP.EM]):=h
def xW(h:X:=by have:=g.Km h2;rw[hg]at this;cases this):=h
def gO(h:X:=by show (aa l)-(i+1)<aa l-i;omega):=h
def tN(h:X:=by have:=(xs.getD (a+i+1) 0).toNat_lt;omega):=h
def cI(h:X:=by rw[GW];exact Amp _ hf):=h
def iS(h:X:=by rw[eh];exact er _):=h
def d5(h:X:=by rw[FI,AF h5,AF (by omega)];rfl):=h
def Z7(h:X:=by rw[←T? hc0 hc1 hc2,HP.EM]):=h
def yE(h:X:=by simp only[a5,hl1];rfl):=h
def Zp(h:X:=by rw[hd];show _=Value.agg _;rw[hp];rfl):=h
def gN(h:X:=by rw[ofEvents_eq];simp[MemAct.ofEvent]):=h
def pA(h:X:=by rw[←Vz b o i l s];exact AH):=h
def nM(h:X:=by rw[LE];exact er _):=h
def dB(h:X:=by rw[a5,hm,hbl];omega):=h
def jQ(h:X:=by rw[hu0];exact hS.tr.word.append hwu):=h
def dS(h:X:=by rw[hsn];dsimp only[KE.at];ac_rfl):=h
def sH(h:X:=by have:=DS d.size;simp;omega):=h
def cV(h:X:=by rw[hfill];exact⟨I,I,hde3⟩):=h
def Z9(h:X:=by show [ptr y.q 0]=[ptr _ 0];rw[hy]):=h
def aZ(h:X:=by simp[S2.size,Hu]at hk⊢;omega):=h
def rG(h:X:=by rw[hjn,Aj8];simp;rfl):=h
def bC(h:X:=by rw[←Acs hc0 hc1,HP.EM]):=h
def vQ(h:X:=by show(told.take n).length<_;omega):=h
def jP(h:X:=by simp only[Amh];omega):=h
def bX(h:X:=by rw[Sv];exact er _):=h
def yP(h:X:=by rw[n5];exact h.len):=h
def sO(h:X:=by rw[hl6];exact SL hs (by omega)):=h
def aU(h:X:=by rw[hc.size];exact er _):=h
def dT(h:X:=by rw[ofEvents_none];exact hS.nil):=h
def xP(h:X:=by rw[Dt (by omega),e2 rfl]):=h
def sC(h:X:=by rw[Vz b o i l s];ac_rfl):=h
def lF(h:X:=by rw[←ma hc0,HP.EM]):=h
def rT(h:X:=by unfold CP;rw[AF (by omega)]):=h
def cU(h:X:=by rw[eh];exact hzs):=h
def nF(h:X:=by rw[eh];exact hzc):=h
def vC(h:X:=by rcases e with e|e<;>cases e):=h
def lX(h:X:=by rw[a5];omega):=h
def kC(h:X:=by rw[QI];exact q6.step _):=h
def cY(h:X:=by simp[St.size,G5.size,Hu]):=h
def uM(h:X:=by simp[St.size,FN.size,Hu]):=h
def aS(h:X:=by rw[h3];rw[h3]at h5;omega):=h
def xF(h:X:=by rw[←Aa9 (by omega)];rfl):=h
def eU(h:X:=by rw[mn l hl];exact h41):=h
def wE(h:X:=by rw[B? l hl];exact h41):=h
def zO(h:X:=by have:=(hu op hop).2.1;omega):=h
def U4(h:X:=by exact .cons I (.nil)):=h
def WS(h:X:=by exact .cons I (.cons I (.nil))):=h
def ED(h:X:=by exact .cons I (.cons I (.cons I (.nil)))):=h
def Jz(h:X:=by exact .cons I .nil):=h
def H5(h:X:=by exact .cons I (.cons I .nil)):=h
def Bu(h:X:=by exact .cons I (.cons I (.cons I (.cons I (.nil))))):=h
def DW(h:X:=by exact .cons I (.cons I (.cons I .nil))):=h
def DJ(h:X:=by exact .cons I (.cons I (.cons I (.cons I .nil)))):=h
def Fr(h:X:=by exact .cons I (.cons I (.cons I (.cons I (.cons I (.nil)))))):=h
def Dj(h:X:=by exact⟨I,I⟩):=h
def Bz(h:X:=by exact⟨.inr I,er _⟩):=h
def DF(h:X:=by exact⟨_,I⟩):=h
def Gr(h:X:=by exact Hp I trivial):=h
def KS(h:X:=by exact .cons I (.cons I (.cons I (.cons I (.cons I (.cons I (.nil))))))):=h
def Dz(h:X:=by exact er _):=h
def It(h:X:=by exact Ady I I C5 I I I):=h
def E7(h:X:=by exact⟨.inl I,er _⟩):=h
def Du(h:X:=by exact bk _):=h
def Gx(h:X:=by exact .cons I (.cons I (.cons I (.cons I (.cons I .nil))))):=h
def Fk(h:X:=by exact .inl C2):=h
def HG(h:X:=by exact Fw I):=h
def FT(h:X:=by exact An5 t):=h
def Gd(h:X:=by exact⟨I,h⟩):=h
def UK(h:X:=by exact .cons I (.cons I (.cons I (.cons I (.cons I (.cons I (.cons I (.nil)))))))):=h
def HU(h:X:=by exact Gk (d:=AB.AD) hjl):=h
def sB(h:X:=by exact .cons I (.cons I (.cons I (.cons I (.cons I (.cons I .nil)))))):=h
def Pg(h:X:=by exact GS (l:=[_,_]) I):=h
def Yv(h:X:=by exact GS (l:=[.nilIface,.int .i64 (0:Nat),uN 0,.string ⟨#[]⟩,.slice none 0 0]) I):=h
def Od(h:X:=by exact .cons I (.cons I (.cons I (.cons I (.cons I (.cons I (.cons I .nil))))))):=h
def OO(h:X:=by exact GS (l:=[_]) I):=h
def RD(h:X:=by exact yL I I):=h
def LS(h:X:=by exact FW I I I C5):=h
def iP(h:X:=by exact⟨congrArg Value.bool (decide_eq_false (λh=>by have:=h.1;have:=h.2.1;have:=h.2.2.1;have:=h.2.2.2.1;omega)).symm,I⟩):=h
def uY(h:X:=by exact⟨congrArg Value.bool (decide_eq_false (λh=>by have h1:=(h.2.2.2.2.1.1 hk3).2 i hlt;unfold Gc at h1;omega)).symm,I⟩):=h
def mM(h:X:=by exact⟨congrArg Value.bool (decide_eq_decide.2 ⟨λh=>⟨C0,C0,C0,C0,⟨λ_=>⟨kz.1 h,hdone⟩,λh5=>by omega⟩,C6⟩,λh=>kz.2 (h.2.2.2.2.1.1 hk3).1⟩),I⟩):=h
def pM(h:X:=by exact⟨congrArg Value.bool (decide_eq_decide.2 ⟨λh=>⟨C0,C0,C0,C0,⟨λh3=>by omega,λ_=>by omega⟩,C6⟩,λh=>by have:=h.2.2.2.2.1.2 hk5;omega⟩),I⟩):=h
def g7(h:X:=by exact⟨congrArg Value.bool (decide_eq_decide.2 ⟨λh=>⟨C0,C0,C0,C0,⟨λh3=>by omega,λh5=>by omega⟩,C6⟩,λh=>by have:=h.2.2.2.2.2;unfold EV at this;omega⟩),I⟩):=h
def dZ(h:X:=by exact⟨congrArg Value.bool (decide_eq_false (λh=>by have:=h.2.2.2.2.2;unfold EV at this;omega)).symm,I⟩):=h
def Jy(h:X:=by exact Sc I I):=h
def Lc(h:X:=by exact Eu I I I Cf):=h
def Jv(h:X:=by exact Lh I I C0):=h
def ML(h:X:=by exact⟨λww hw=>hw⟩):=h
def LU(h:X:=by exact⟨I,I,id⟩):=h
def N'(h:X:=by exact HQ I I hsl C0 I):=h
def MK(h:X:=by exact yR I I):=h
def Pq(h:X:=by exact .cons I (.cons I (.cons I (.cons I (.cons I (.cons I (.cons I (.cons I (.cons I (.nil)))))))))):=h
def XD(h:X:=by exact Dx (Hp I trivial) hm.ov):=h
def YV(h:X:=by exact Fa (f:=0) (xs:=m.outs) I AH I hjl):=h
def N9(h:X:=by exact⟨_,I,I⟩):=h
def Ny(h:X:=by exact Ih (j:=4611686018427387903) I I):=h
def Nj(h:X:=by exact .inr ⟨I,I⟩):=h
def U2(h:X:=by exact .inl ⟨C6,I,I⟩):=h
def Ns(h:X:=by exact show m.s.of k≠0 from h16):=h
def SJ(h:X:=by exact .inl h.1):=h
def Oh(h:X:=by exact Aa3 I):=h
def OF(h:X:=by exact Et I (II hk)):=h
def PE(h:X:=by exact LF (j:=1) I I C0):=h
def Qz(h:X:=by exact GS (l:=[_,_,_,_,_,_,_]) I):=h
def OU(h:X:=by exact Et (l:=AN r) I I):=h
def OQ(h:X:=by exact .inl ⟨I,I⟩):=h
def wM(h:X:=by exact⟨λww hw=>Eq.mp nT hw⟩):=h
def OW(h:X:=by exact .cons I (.cons I (.cons I (.cons I (.cons I (.cons I (.cons I (.cons I .nil)))))))):=h
def OM(h:X:=by exact Et (l:=AE ks) I (II hk)):=h
def OS(h:X:=by exact⟨I,b⟩):=h
def iL(h:X:=by exact CJ (i:=j) I I hm.oa.1 hjl):=h
def PK(h:X:=by exact .inl h29):=h
def OY(h:X:=by exact .inr h34):=h
def O7(h:X:=by exact Ek I I Ca qV):=h
def iT(h:X:=by exact decide_eq_false (λh=>h I)):=h
def Rc(h:X:=by exact⟨.inr I,C0⟩):=h
def QD(h:X:=by exact Et I (by rw[a5,II hk];rfl)):=h
def Rh(h:X:=by exact⟨I,I,I,I,I⟩):=h
def QK(h:X:=by exact Wf I I):=h
def Qd(h:X:=by exact LT (j:=1) I I C0):=h
def RC(h:X:=by exact HQ I I hs C0 I):=h
def Qg(h:X:=by exact Py (i:=j) I I C0):=h
def P6(h:X:=by exact Je cb m R):=h
def P2(h:X:=by exact E1 cb m R):=h
def o6(h:X:=by exact Eo (i:=r.f.kind) (j:=5) I I):=h
def Pr(h:X:=by exact Mk (r:=.bool true) I I (λw=>by kernel_rfl) (λw=>by kernel_rfl)):=h
def RH(h:X:=by exact ID (j:=2) I I):=h
def RI(h:X:=by exact GS (l:=[.int .i64 0,.int .i64 0,.int .u64 0,.int .u64 0,.bool false,.string ⟨#[]⟩,.slice none 0 0]) I):=h
def Uc(h:X:=by exact IZ I (dC rb _)):=h
def TS(h:X:=by exact Dx (v':=.agg (AN (rs.getD i AB.AD)).toArray) (I2 (xs:=rs) I AH C0) I):=h
def Qi(h:X:=by exact⟨I,I,λ_=>rfl,I⟩):=h
def RV(h:X:=by exact⟨I,I,I⟩):=h
def Pa(h:X:=by exact Ie sb m R):=h
def Qn(h:X:=by exact Dx (TA I) (by rw[Mo])):=h
def QU(h:X:=by exact Dx (Hp I trivial) hm.sv):=h
def Pp(h:X:=by exact Dx (Hp I trivial) hm.dv):=h
def TI(h:X:=by exact GS (l:=[_,_,_,_,_,_,_,_]) I):=h
def Sj(h:X:=by exact Hp I C0):=h
def SD(h:X:=by exact Ami _ _):=h
def YK(h:X:=by exact Ih (j:=1) I I):=h
def VQ(h:X:=by exact Rb (k':=aa (l.take i)) I I C8 Qt):=h
def SA(h:X:=by exact LO I (λw _=>Aet _ w)):=h
def TG(h:X:=by exact WY (v:=.tuple #[.nilIface,.bool false]) I (run_typeAssert_lacksB Aw.get C1 C1 _ _)):=h
def dQ(h:X:=by exact Py (i:=j) I (congrArg (λz=>some (Value.int .i64 z)) hst) C0):=h
def Up(h:X:=by exact Bd I (uH 4096 _ C0)):=h
def TF(h:X:=by exact Dx (Hp I trivial) hm.fv):=h
def Tj(h:X:=by exact Eo (j:=5) I I):=h
def lI(h:X:=by exact IF (i:=st) (congrArg (λz=>some (Value.int .i64 z)) hst) (Ia C0)):=h
def ZD(h:X:=by exact CJ (b:=r.b) (o:=r.o) I I hrok C0):=h
def UF(h:X:=by exact JC (i:=i-1) (xs:=r.f.ranges) I AH C0):=h
def Y6(h:X:=by exact CJ (b:=b) (o:=o) I I hfs.sl hlt):=h
def XO(h:X:=by exact I2 (i:=i) (o:=o) (xs:=rs) I (let _:=hfs.rd;AH) C0):=h
def Ud(h:X:=by exact IZ I (Oc rb p b o c xs a _ hs AH hx C0)):=h
def TY(h:X:=by exact ID (j:=4) I I):=h
def S6(h:X:=by exact EB (l:=[.int .i64 AV,.int .i64 AI]) I I):=h
def vR(h:X:=by exact BV (i+1,lo1,hi1,dn,out++[(rg z.l i)],⟨p53,b53,o53,c53,s53⟩) ⟨hA.Kj ho.inc h29 h49,ho53,λh=>by rw[a5];have:=hon h;simp;omega⟩ Cl (.cons I (.cons I (.cons I (.cons I (.cons I (.cons I (.nil))))))) I):=h
def n0(h:X:=by exact BV (i+1,lo1,hi1,true,out++[⟨lo1,hi1⟩]++[(rg z.l i)],⟨p76,b76,o76,c76,s76⟩) ⟨GD.put bY ho.inc h29 h49 h64 (hon h66),ho76,λh=>by cases h⟩ Cl (.cons I (.cons I (.cons I (.cons I (.cons I (.cons I (.nil))))))) I):=h
def eN(h:X:=by exact BV (i+1,lo1,hi1,true,out++[(rg z.l i)],⟨p76,b76,o76,c76,s76⟩) ⟨GD.more bY h29,ho76,λh=>by cases h⟩ Cl (.cons I (.cons I (.cons I (.cons (by rw[h66];rfl) (.cons I (.cons I .nil)))))) I):=h
def wW(h:X:=by exact BV (i+1,min lo1 (rg z.l i).lo,max hi1 (rg z.l i).hi,dn,out,oa) ⟨hA.meet h29 h49 h64 hrb,hoa,λh=>by have:=hon h;omega⟩ Cl (.cons I (.cons I (.cons I (.cons I (.cons I (.cons I (.nil))))))) I):=h
def Zh(h:X:=by exact Dx (Hp I trivial) hm.iv):=h
def Yz(h:X:=by exact CJ (i:=j) I (congrArg (λz=>some (Value.int .i64 z)) hst) hm.ia.1 hjl):=h
def Xr(h:X:=by exact Fa (f:=0) (xs:=m.ins) I AH I hjl):=h
def Si(h:X:=by exact CJ I I hm.sa.1 h15):=h
def Rn(h:X:=by exact Eo (i:=r.f.kind) (j:=3) I I):=h
def gV(h:X:=by exact Et (l:=AE m.x.ks) I (II hks)):=h
def Ue(h:X:=by exact Dx (Hp I trivial) hm2.dv):=h
def SS(h:X:=by exact CJ (i:=i) I I (show Sl m.da.p m.da.b m.da.o (aa m.due) m.da.c from by have h7:=hm.d.1;rw[eh]at h7;exact h7) h80):=h
def Tv(h:X:=by exact Dx (v':=uN (m.due.getD i 0)) (Fa (f:=0) (xs:=m.due.map BG.mk) I AH I (by rw[eh];exact h80)) (by rw[←f7 h80])):=h
def Vm(h:X:=by exact show ¬m.s.said=true by rw[show m.s.said=m.x.said from I,h10];decide):=h
def S'(h:X:=by exact Om (decide_eq_true I) I I):=h
def Xj(h:X:=by exact Oe (l:=8) (h:=aa xs-8) (k':=aa (FO xs)) I I I C8 C0):=h
def Yh(h:X:=by exact Ig I AH C0):=h
def WN(h:X:=by exact JC I AH C0):=h
def l7(h:X:=by exact H4 (i:=22) (j:=22) I I):=h
def Xl(h:X:=by exact Hp (hr:=cP hG) I trivial):=h
def YS(h:X:=by exact Ji (i:=4096) I I C0):=h
def iB(h:X:=by exact show j<(aa wz) by omega):=h
def V5(h:X:=by exact .inl (g9.2 ⟨a,ha,I⟩)):=h
def VR(h:X:=by exact .inr (g9.2 ⟨a,ha,I⟩)):=h
def Wl(h:X:=by exact Eu (v:=.int .i64 (1:Nat)) I I I Cf):=h
def Vr(h:X:=by exact Dy (j:=2) I I):=h
def U9(h:X:=by exact Fw (v:=.int .u8 (8:Nat)) I):=h
def rS(h:X:=by exact JC (i:=i) (xs:=r.f.ranges) I AH C0):=h
def bS(h:X:=by exact⟨_,I,q,qb,qo,qc,qs,I,hqs,hqc,I⟩):=h
def YL(h:X:=by exact Qu (i:=a) (xs:=xs) I AH C0):=h
def WW(h:X:=by exact IZ I (dC b13 _)):=h
def U7(h:X:=by exact Gn (cs:=AN r) I Cc I I):=h
def tB(h:X:=by exact Et (l:=AE m.x.ks++[u8 (Bb (!m.x.first))]) I l4):=h
def Ze(h:X:=by exact Ek I I Ca (AB.one (rs.getD i AB.AD))):=h
def ZW(h:X:=by exact Py (i:=aa l) I I h41):=h
def YD(h:X:=by exact Et (l:=[.int .i64 AV,.int .i64 AI]) I I):=h
def VZ(h:X:=by exact⟨I,I,I,I,I,I,I,I⟩):=h
def vZ(h:X:=by exact Et (l:=[uN (rg z.l i).lo,uN (rg z.l i).hi]) I I):=h
def oY(h:X:=by exact Gn (cs:=[uN (rg z.l i).lo,uN (rg z.l i).hi]) I Cc I I):=h
def mU(h:X:=by exact⟨λww hw=>Sat.right (A:=HP.AA b3 0 (AN r)) (Eq.mp (by congr 1;rw[PV sb m R j hjl];unfold Am.h;ac_rfl) hw)⟩):=h
def Vf(h:X:=by exact CJ (i:=0) (b:=r.b) (o:=r.o) I I hm.ok hne):=h
def VJ(h:X:=by exact CJ (i:=i+1) (b:=r.b) (o:=r.o) I I hm.ok C0):=h
def sZ(h:X:=by exact Dy (i:=(xs.getD a 0).toNat) (j:=9) I I):=h
def Wk(h:X:=by exact HQ I I hs48 h136 I):=h
def qN(h:X:=by exact⟨λww hw=>Sat.right (A:=HP.AA b3 0 (AN r)) (Eq.mp xJ hw)⟩):=h
def Yp(h:X:=by exact show 0<(aa rs) by omega):=h
def W8(h:X:=by exact GS (l:=[.int .i64 0,.int .i64 0,.int .i64 0,.int .u64 0,.string ⟨#[]⟩,.slice none 0 0]) I):=h
def XW(h:X:=by exact⟨λww hw=>Eq.mp (by congr 1;show Ad sb m2*(HP.AA b5 0 (EJ (⟨0,-1,0,0,⟨#[]⟩,[]⟩:B7))*(HP.AA b4 0 [.int .i64 0,.int .i64 0,.int .i64 0,.int .u64 0,.string ⟨#[]⟩,.slice none 0 0]*(HP.AA b3 0 (Bx q)*R)))=(HP.AA b5 0 (EJ (⟨0,-1,0,0,⟨#[]⟩,[]⟩:B7))*(HP.AA b4 0 [.int .i64 0,.int .i64 0,.int .i64 0,.int .u64 0,.string ⟨#[]⟩,.slice none 0 0]*(HP.AA b3 0 (Bx q)*(Ad sb m2*R))));ac_rfl) hw⟩):=h
def Wv(h:X:=by exact Eu I I I trivial):=h
def Wb(h:X:=by exact CJ (i:=i) I I ha.1 hir):=h
def fR(h:X:=by exact Ms (i:=1) (q:=1) I I C0 I):=h
def oH(h:X:=by exact Ms (i:=3) (q:=3) I I C0 I):=h
def wX(h:X:=by exact HD I I (g_ b7 _ _ _)):=h
def rI(h:X:=by exact xH (xs:=ks) (o:=0) I AH (by rw[hk];rfl)):=h
def m7(h:X:=by exact CJ I I (b:=b) (o:=o) hs C0):=h
def zP(h:X:=by exact CA (ys:=xs) (bb:=b) (oo:=o) I hs15 hc15 I hs AH I SE C0):=h
def qZ(h:X:=by exact Ih (i:=(be xs 8).toNat) (j:=4611686018427387903) I I):=h
def mL(h:X:=by exact SI (l:=aa xs-8) (k':=aa (xs.drop (aa xs-8))) I I C0 (by rw[di])):=h
def uP(h:X:=by exact Abx I I I I ⟨hij,hj,hs.2⟩):=h
def lC(h:X:=by exact r6 (cs:=[uN r.lo,uN r.hi]) I Cc I I):=h
def lS(h:X:=by exact Bd I (yc z.l r fr to a.p a.b a.o a.c b69 a.s (HP.AA q 0 [.slice a.p (aa z.l) a.c,uN z.floor,iN z.AQ]*(HP.AA b8 0 [uN r.lo,uN r.hi]*(HP.AA b5 0 [uN hi]*(HP.AA b4 0 [uN (max lo z.floor)]*(HP.AA b3 0 [ptr q 0]*R))))) hs.1 hs.2 hft ht1 C0 (λhc=>hne a.b a.o (AE z.l++a.s) (HP.AA q 0 [.slice a.p (aa z.l) a.c,uN z.floor,iN z.AQ]*(HP.AA b8 0 [uN r.lo,uN r.hi]*(HP.AA b5 0 [uN hi]*(HP.AA b4 0 [uN (max lo z.floor)]*(HP.AA b3 0 [ptr q 0]*R))))) (by intro h0;have h7:=congrArg List.length h0;rw[a5,CV]at h7;have h8:aa z.l*2+aa a.s=0:=h7;have:=hs.2;omega) I))):=h
def jV(h:X:=by exact OG (Post:=λv H'=>∃b,v=.agg #[.pointer (some ⟨1,193,none⟩),ptr b 0,.int .u64 150]∧H'=HP.AA b 0 [ptr b4 0]*(HP.AA b4 0 [old]*R)) I (λw hw=>⟨_,_,_,mb _ w,⟨w.heap.size,I,I⟩,hw.alloc _ _ (KA I)⟩)):=h
def gB(h:X:=by exact LO I (λw hw=>w8 ⟨b14,0,none⟩ ⟨b4,0,none⟩ w ((AH:Rd B _ b14 0 (ptr b4 0) True).get w hw trivial)) (ht:=λw hw=>nh _ _ ⟨b14,0,none⟩ ⟨b4,0,none⟩ w ((AH:Rd B _ b14 0 (ptr b4 0) True).get w hw trivial))):=h
def Z0(h:X:=by exact JF I I (λw _=>bg w)):=h
def pI(h:X:=by exact JF I I (λw _=>xc w)):=h
def aF(h:X:=by exact Eu (v:=.int .i64 (9:Nat)) I I I Cf):=h
def lD(h:X:=by exact Et (l:=DP (z.L.getD z.j AB.AD)) I I):=h
def j8(h:X:=by exact g9.2 ⟨rr,Gp hrr,I⟩):=h
def aG(h:X:=by exact g9.2 ⟨fm.fs[i],rv h15,I⟩):=h
def fU(h:X:=by exact HQ (i:=0) I I hls C0 I):=h
def bE(h:X:=by exact Ig (xs:=l) (i:=0) I AH C0):=h
def iC(h:X:=by exact Gn (cs:=[u8 0]) I Cc I I):=h
def kN(h:X:=by exact Eu (v:=.int .i64 (2:Nat)) I I I Cf):=h
def bO(h:X:=by exact MR (i:=4611686018427387903) I I C0):=h
def wC(h:X:=by exact CJ (i:=0) I I hrok hne):=h
def eJ(h:X:=by exact N3 (i:=0) (xs:=r.f.ranges) I AH hne):=h
def iG(h:X:=by exact SI (l:=1) (k':=aa r.f.ranges-1) I I hne I):=h
def jM(h:X:=by exact HQ (b:=r.b) (o:=r.o+1*2) (q:=r.o+(i+1)*2) I I (Lz hrok hne hrok.2) hlt C0):=h
def qG(h:X:=by exact N3 (i:=i+1) (xs:=r.f.ranges) I AH C0):=h
def rJ(h:X:=by exact N3 (i:=i) (xs:=r.f.ranges) I AH hlt):=h
def uR(h:X:=by exact IZ I (xd rb p b o c xs a _ hs AH hx C0)):=h
def Z4(h:X:=by exact IZ I (Oc rb p b o c xs a8 _ hs AH hx C0)):=h
def iQ(h:X:=by exact IZ I (Oc rb p b o c xs a10 _ hs AH hx C0)):=h
def eR(h:X:=by exact RL (k:=.i64) (i:=if c<0 then(-(c+1)).toNat else c.toNat) (j:=n) (by first|rw[AJ hc,←e];rfl|rw[AF hc,←e];rfl) I C0):=h
def vP(h:X:=by exact LF (i:=m.x.next) (j:=1) I I C0):=h
def qI(h:X:=by exact YI (i:=AI) (j:=1024) I I):=h
def yG(h:X:=by exact Et (l:=[iN mt,iN wi]) I I):=h
def wJ(h:X:=by exact⟨I,⟨h.base.AV,h.base.AI,h.base.ks,h.base.first,I,I,h.base.said,h.base.next⟩,(λe=>by cases e),(λe=>by cases e)⟩):=h
def sL(h:X:=by exact .cons (congrArg (λbb=>some (Value.bool bb)) (decide_eq_decide.2 ⟨λh=>⟨h31,h⟩,λh=>h.2⟩)) (.cons I (.cons I (.cons I (.nil))))):=h
def rP(h:X:=by exact .cons (congrArg (λbb=>some (Value.bool bb)) (decide_eq_false C0).symm) (.cons I (.cons I (.cons I (.cons I (.cons I (.cons I (.cons I (.nil))))))))):=h
def sK(h:X:=by exact FW (cs:=[uN lo1,uN hi1]) I I I C5):=h
def vL(h:X:=by exact Gn (cs:=[uN lo1,uN hi1]) I Cc I I):=h
def tG(h:X:=by exact .cons I (.cons (by rw[hfin];rfl) .nil)):=h
def dM(h:X:=by exact CJ (i:=0) I I hsl hpos):=h
def aI(h:X:=by exact Ih (i:=code) (j:=4611686018427387903) I I):=h
def pO(h:X:=by exact .cons (congrArg (λbb=>some (Value.bool bb)) (absurd (hfi.symm.trans hf2) C2)) (.cons I (.cons I (.cons I (.cons I (.nil)))))):=h
def pS(h:X:=by exact CJ (i:=r.f.offset+i) I I (show Sl b1.p b1.b b1.o (aa T0) b1.c from hb1.1) C0):=h
def sM(h:X:=by exact Fa (f:=0) (xs:=m.AM) I AH I h15):=h
def lZ(h:X:=by exact Fa (f:=1) (xs:=m.AM) I AH I h15):=h
def zS(h:X:=by exact .cons (congrArg (λbb=>some (Value.bool bb)) ((decide_eq_false (λh=>g2 h.2.1)).symm)) (.cons I (.cons I (.cons I (.cons I (.nil)))))):=h
def iK(h:X:=by exact .cons (congrArg (λbb=>some (Value.bool bb)) ((decide_eq_false (λh=>g1 h.1)).symm)) (.cons I (.cons I (.cons I (.cons I (.nil)))))):=h
def oJ(h:X:=by exact .cons I (.cons I (.cons I (.cons I (.cons (congrArg (λz=>some (Value.int .i64 z)) C0) .nil))))):=h
def dN(h:X:=by exact CJ (b:=r.b) (o:=r.o) I I hm.ok C0):=h
def tD(h:X:=by exact Ig (i:=0) (xs:=r.f.ranges) I AH hne):=h
def qX(h:X:=by exact Ig (i:=i+1) (xs:=r.f.ranges) I AH C0):=h
def kJ(h:X:=by exact IF (i:=r.f.stream.toNat) (congrArg (λz=>some (Value.int .i64 z)) hst) (Ia C0)):=h
def cE(h:X:=by exact CJ (i:=a) (b:=b) (o:=o) I I hs C0):=h
def bI(h:X:=by exact Dy (i:=(xs.getD a 0).toNat) (j:=28) I I):=h
def cC(h:X:=by exact Ek (cs:=AN r) I I Ca (AB.one r)):=h
def oX(h:X:=by exact Fa (f:=0) (xs:=rs) I AH I C0):=h
def dG(h:X:=by exact Dy (i:=r.f.data.size) (j:=0) I I):=h
def oW(h:X:=by exact CJ (i:=0) I I hs13 (show 0<(aa fs) by omega)):=h
def mJ(h:X:=by exact Bd I (f5 1073741824 _ C0)):=h
def j0(h:X:=by exact⟨I,Akh 2,λ_=>Nat.ne_of_lt (Akh 1),λ_=>Nat.ne_of_lt (Akh 0)⟩):=h
def qR(h:X:=by exact GS (l:=[.int .i64 0,.int .i64 0,.int .i64 0,.int .u64 0,.string ⟨#[]⟩]) I):=h
def gY(h:X:=by exact Fw (v:=.int .i64 (0:Nat)) I):=h
def i8(h:X:=by exact ID (i:=i) (j:=aa qs) I I):=h
def vG(h:X:=by exact Fa (f:=5) (xs:=rs) I (by show AZ B (_*(_*(AC a.b a.o rs a.s*_))) _ _ _;exact AH) I hir):=h
def MU(h:X:=by exactλ_ _ h=>h.elim):=h
def Md(h:X:=by exact mR [6,7] H I I (.inl ⟨λh=>by have h1:=h.1;have h2:=h.2.1;have h3:=h.2.2.1;have h4:=h.2.2.2;omega,I,I⟩)):=h
def OE(h:X:=by exact again_running _ (.inl h5)):=h
def NA(h:X:=by exact offersAt_of_not_blocked h1 _ _):=h
def Nq(h:X:=by exact mr [2] I I Dj):=h
def VG(h:X:=by exact uu e47 e49):=h
def aP(h:X:=by exact An () trivial (by rw[hc0];exact .cons I (.cons I (.cons I .nil))) I):=h
def ZB(h:X:=by exact mR [4] (Ao cb m*R) (hE:=by rw[E1];exact AH) I I ⟨m,hm,Cj,Zg⟩):=h
def Pt(h:X:=by exact mr [4] I I Dj):=h
def Rj(h:X:=by exact g9.2 ⟨_,hgd,I⟩):=h
def PU(h:X:=by exact mR [6] (BU cb (ws.set j wm)*(Bv db dm*R)) (hE:=wM) I I ⟨wm,dm,hwm,hd,(by rw[hfill];exact⟨I,I,I⟩),I⟩):=h
def P7(h:X:=by exact KT (Ao cb m2*(HP.AA bs 0 [(.func (.func 110) #[] #[])]*(HP.AA bc 0 [ptr cb 0]*R))) I (IC (Kd I I) Im) (HB.of hdo hmo (.of hG _) (Jw _) I)):=h
def ZE(h:X:=by exact .inl (o4.1 hp).1):=h
def To(h:X:=by exact mr [4] I I ⟨(by show Value.bool _=Value.bool _;congr 1;apply L'.2;simp only[decide_eq_true_eq,An4,v8,iff_true,iff_false,true_iff,false_iff,eq_self];omega),I⟩):=h
def UM(h:X:=by exact mr [4] I I ⟨(by rw[FI,AF h5,AJ (by omega)];rfl),I⟩):=h
def oK(h:X:=by exact mR [4] (AC b' o' (xs++AU n) s'*R) I I ⟨q,b',o',c',s',I,h1,h2,I⟩):=h
def kL(h:X:=by exact mR [4] (AC b' o' (xs++AU n) s'*(Q*R)) I I ⟨q,b',o',c',s',Q,I,h1,h2,I,hk⟩):=h
def Y'(h:X:=by exact mR [4,5] (Ad sb m*R) (hE:=by rw[EK];exact AH) I I ⟨m,hm,Cj,Cb,I⟩):=h
def Tx(h:X:=by exact again_running _ SJ):=h
def Sb(h:X:=by exact again_running _ (.inl h5.1)):=h
def Wo(h:X:=by exact KT H I (IC (Kd I I) Im) Dj):=h
def V6(h:X:=by exact(Sat.pr.1 h3).1.elim):=h
def XG(h:X:=by exact mR [4] (Ao cb m*R) (hE:=⟨λww hw=>Sat.right (A:=HP.AA b3 0 (AN r)) (Eq.mp nE hw)⟩) I I ⟨m,hm,Cj,Cb,I⟩):=h
def YN(h:X:=by exact mR [4,5] (Ad sb m*R) (hE:=by rw[EK];exact AH) I I ⟨m,hm,by rw[eop],Xp⟩):=h
def Wg(h:X:=by exact mR [4] (Ad sb m2*R) (hE:=⟨λww hw=>Sat.right (A:=AC b13 o13 rs s13*BM rs) (Eq.mp (by congr 1;rw[EK];ac_rfl) hw)⟩) I I ⟨m2,hm2,Yx,(by rw[efa];exact congrArg Value.bool ebb),I⟩):=h
def Yb(h:X:=by exact h.Ua i a x k haw hal):=h
def tE(h:X:=by exact .inr (.inl ⟨(by rw[e];exact .inl k1),k2⟩)):=h
def eK(h:X:=by exact mR [6] (AC b o l s*R) I I ⟨p,b,o,c,s,(by subst he;rw[px];rfl),(by subst he;rw[px];exact hs),(by subst he;rw[px];exact hc),(by subst he;rw[px])⟩):=h
def uT(h:X:=by exact mr [4] I I ⟨by rw[FI,AJ h5];rfl,I⟩):=h
def iV(h:X:=by exact Wt (ts:=[]) [] _ I I ⟨w2,hok2,Vl,I⟩ I):=h
def lH(h:X:=by exact mR [4] (Ad sb m*R) (hE:=mU) I I ⟨m,hm,by rw[ebt];exact hsame.symm,by rw[ebt];rfl,I⟩):=h
def sP(h:X:=by exact mR [4] (Ad sb m2*R) I I ⟨m2,hm2,by rw[etk];exact hs2,Pn,I⟩):=h
def cO(h:X:=by exact mR [4] (Ad sb m*R) I I ⟨m,hm,by rw[etk],Pn,I⟩):=h
def nJ(h:X:=by exact mr [2] I I ⟨0,a,true,I,I,.inr ⟨(by unfold CP;exact AF (by omega)),I,I,I⟩⟩):=h
def wB(h:X:=by exact mR [4] (Ad sb m*R) (hE:=qN) I I ⟨m,hm,by rw[ese],by rw[ese];rfl,I⟩):=h
def cD(h:X:=by exact mR [4] (Ad sb m2*R) I I ⟨m2,hm2,by rw[em];exact hs2,Xb,I⟩):=h
def sG(h:X:=by exact h2 i (h.perm g l h1 i a (MS hs ha) hal)):=h
def jF(h:X:=by exact N1 hf I hf.IG hf.full I I (λl' _ A l2 e=>by cases e) (λl' e=>by cases e) hf.Iu (λe=>by cases e)):=h
def dE(h:X:=by exact N1 hf I xM hf.full I I (λl' _ A l2 e=>by cases e) (λl' e=>by cases e) (λl' e=>by cases e) (λe=>by cases e)):=h
def jS(h:X:=by exact Ir (Lj Pq (hafter i hi htot))):=h
def Zv(h:X:=by
 first
  |exact Bg (AC b149 o149 ((lf++[(m.due.getD i 0)]).map BG.mk) s149*(HP.AA b3 0 (AN r)*(Ag sb m.x*(AK m.x.gq m.ga m.AR*(AK m.x.eq m.ea m.Az*(AC m.da.b m.da.o (m.due.map BG.mk) m.da.s*(m.oa.h m.outs*(AP Bc m.outs*(m.ia.h m.ins*(AP BP m.ins*(m.sa.h m.AM*(AP DB m.AM*R)))))))))))) (hE:=⟨λww hw=>Sat.right (A:=HP.AA b148 0 (AE [BG.mk (m.due.getD i 0)])) (Eq.mp (by congr 1;rw[n8];show _=HP.AA b148 0 (AE [BG.mk (m.due.getD i 0)])*(AC b149 o149 (lf.map BG.mk++[BG.mk (m.due.getD i 0)]) s149*(HP.AA b3 0 (AN r)*(Ag sb m.x*(AK m.x.gq m.ga m.AR*(AK m.x.eq m.ea m.Az*(AC m.da.b m.da.o (m.due.map BG.mk) m.da.s*(m.oa.h m.outs*(AP Bc m.outs*(m.ia.h m.ins*(AP BP m.ins*(m.sa.h m.AM*(AP DB m.AM*R))))))))))));ac_rfl) hw)⟩) (BV (i+1,⟨p149,b149,o149,c149,s149⟩) ⟨h80,by
    rw[NH h80,C',hLF,show [(m.due.getD i 0)].filter (Is m.AR.floor r.f.ranges)=[(m.due.getD i 0)]from Aix Yq,n8];exact⟨hs149,hc149⟩⟩ fM (.cons (by
    rw[NH h80,C',hLF,show [(m.due.getD i 0)].filter (Is m.AR.floor r.f.ranges)=[(m.due.getD i 0)]from Aix Yq];show some (Value.slice p149 (aa (lf.map BG.mk++[BG.mk (m.due.getD i 0)])) c149)=some (Value.slice p149 (aa (lf++[(m.due.getD i 0)])) c149);refine  ?_;rw[a5,a5,eh];rfl) ED) (by
    rw[NH h80,C',hLF,show [(m.due.getD i 0)].filter (Is m.AR.floor r.f.ranges)=[(m.due.getD i 0)]from Aix Yq]))
  |exact BV (i+1,la) ⟨h80,by
    rw[NH h80,C',hLF,show [(m.due.getD i 0)].filter (Is m.AR.floor r.f.ranges)=[]from Ais Yt,g8];exact hla⟩ fM (.cons (by
    rw[NH h80,C',hLF,show [(m.due.getD i 0)].filter (Is m.AR.floor r.f.ranges)=[]from Ais Yt,g8];rfl) ED) (by
    rw[NH h80,C',hLF,show [(m.due.getD i 0)].filter (Is m.AR.floor r.f.ranges)=[]from Ais Yt,g8])):=h
def jN(h:X:=by
 refine J3 ?_;refine Bl (Eu (v:=.int .i64 5) I I I trivial) ?_;refine KW ?_;refine JL sZ ?_;refine J7 ?_;refine oA ?_;rintro _ _ ⟨n60,a60,bad60,rfl,rfl,h60⟩;have g60:a60≤aa xs:=by
  obtain⟨h,_⟩|⟨_,_,h⟩:=h60
  ·exact(O4 h).2.2
  exact h
 refine J7 ?_;refine mE I (KB rb p b o c xs a60 bad60 _ hs AH hx C0) ?_;rintro _ _ ⟨n63,a63,bad63,rfl,rfl,h63⟩;have g63:=JZ C0 h63;refine J6 ?_;refine mE I (Afg rb p b o c xs a63 bad63 _ hs AH hx C0) ?_;rintro _ _ ⟨d66,a66,bad66,rfl,rfl,ha66,h66,hd66⟩;refine J3 ?_;have hkd:Ef (xs.getD a 0)=5:=by rw[Lv];rw[AF h0,AF h1,AF h2,AF h4,AJ C0]
 have h9:decide (xs.getD a 0=9)=decide ((xs.getD a 0).toNat=9):=decide_eq_decide.2 ⟨λh=>by rw[h];rfl,λh=>Ajj.1 h⟩;exact An ((⟨⟨5,(n60:Nat),n63,0,decide ((xs.getD a 0).toNat=9),d66,[]⟩,none,0,0,0,[]⟩:RF),a66,bad66) (Oy I I I hd66 ha66 C0 (by
  rw[hkd,h9];obtain⟨hb,l,e3,rfl,rfl⟩|⟨rfl,h66⟩:=h66
  ·obtain⟨e2,rfl⟩|⟨e2,_,_,rfl⟩:=h63
   ·obtain⟨e1,rfl⟩|⟨e1,rfl,_⟩:=h60
    ·exact .inl ⟨Za,I⟩
    cases hb
   cases hb
  refine .inr ⟨?_,I⟩;obtain⟨e1,rfl⟩|⟨e1,rfl,_⟩:=h60
  ·obtain⟨e2,rfl⟩|⟨e2,_,_,rfl⟩:=h63
   ·obtain h|e3:=h66
    ·cases h
    simp only[DG,Nat.reduceEqDiff,if_false,if_true,e1,e2,e3]
   simp only[DG,Nat.reduceEqDiff,if_false,if_true,e1,e2]
  simp only[DG,Nat.reduceEqDiff,if_false,if_true,e1])) DJ (by show _=rr rb p c xs _ _*(HP.AA b4 0 (AN (⟨⟨5,(n60:Nat),n63,0,decide ((xs.getD a 0).toNat=9),d66,[]⟩,none,0,0,0,[]⟩:RF))*(Ed (⟨⟨5,(n60:Nat),n63,0,decide ((xs.getD a 0).toNat=9),d66,[]⟩,none,0,0,0,[]⟩:RF)*(HP.AA b2 0 [.int .i64 0,.int .i64 0,.int .u64 0,.int .u64 0,.bool false,.string ⟨#[]⟩,.slice none 0 0]*R)));rw[(Fp (r:=(⟨⟨5,(n60:Nat),n63,0,decide ((xs.getD a 0).toNat=9),d66,[]⟩,none,0,0,0,[]⟩:RF)) I I I).2.2,HP.BS])):=h
def kG(h:X:=by
 have hall:0<aa fs∧∀j,j<aa fs→B4 (rs.getD j AB.AD).f:=by
  have hok2:ok=true:=by cases ok<;>simp_all
  have h1:=hokk.1 hok2;refine⟨h1.1,λj hj=>h1.2 j ?_⟩
  first
  |omega
  |(exfalso;simp_all)
 clear hno hokk;refine FM ?_;refine Bf (α:=Nat×Option Addr×Nat×Nat×Nat×List Value) (λz=>[(0,.slice p (aa fs) c),(6,.slice z.2.1 (aa (Bk (fs.take z.1))) z.2.2.2.2.1),(7,iN z.1)]) (λz=>AC z.2.2.1 z.2.2.2.1 (Bk (fs.take z.1)) z.2.2.2.2.2*H) (λz=>z.1≤aa fs∧Sl z.2.1 z.2.2.1 z.2.2.2.1 (aa (Bk (fs.take z.1))) z.2.2.2.2.1∧aa (Bk (fs.take z.1))*1+aa z.2.2.2.2.2=z.2.2.2.2.1*1) (λz=>aa fs-z.1) (0,none,0,0,0,[]) ⟨bk _,E7,I⟩ DW jW ?_;rintro⟨i,q,qb,qo,qc,qs⟩ ⟨hi,hqs,hqc⟩;dsimp only at hi hqs hqc⊢;have hql:=m6 fs i;refine J9 ?_;refine mC (λhlt=>?_) (λhlt=>?_)
 ·skip;have hmem:(rs.getD i AB.AD)∈rs:=by rw[MC _ _ _ C0];exact rv _
  have hri:(rs.getD i AB.AD).f=fs[i]:=by
   have:=hfs.map;subst this;rw[MC _ _ _ C0,Aki]
  have hrr:=hfs.RY _ hmem;refine J8 ?_;refine JL Y6<|JL XO<|wg ?_;rintro _ _ ⟨p38,b38,o38,c38,s38,rfl,hs38,hc38,rfl⟩;rw[hri,oC fs i hlt]at hs38 hc38⊢;refine BQ ?_;refine BV (i+1,p38,b38,o38,c38,s38) ⟨C0,hs38,hc38⟩ Cw DW I
 refine FC ?_;exact mR [2,3] (AC qb qo (Bk (fs.take i)) qs*H) I I (by
   obtain rfl:i=aa fs:=by omega
   rw[pq]at hqs hqc⊢;have hgood:fs≠ []∧∀f∈fs,B4 f:=⟨kz.1 hall.1,λf hf=>by
    have hm2:=hfs.map;subst hm2;obtain⟨r,hr,rfl⟩:=g9.1 hf;obtain⟨j,hj,rfl⟩:=Ax hr;have:=hall.2 j C0;rwa[MC _ _ _ hj]at this⟩
   rw[G4,AJ hgood];exact bS)):=h
def j3(h:X:=by
 refine Be ?_
 first
  |exact Bg (Ag sb m.x*(AK m.x.gq m.ga m.AR*(AK m.x.eq m.ea m.Az*(m.da.h (m.due.map BG.mk)*(m.oa.h (outs3.set j o2)*(AP Bc (outs3.set j o2)*(m.ia.h m.ins*(AP BP m.ins*(AC m.sa.b m.sa.o m.AM m.sa.s*(AP DB m.AM*R)))))))))) (hE:=⟨λww hw=>Sat.right (A:=HP.AA b8 0 (AN ((m.AM.getD i AB.AD).fs.getD k AB.AD))) (Eq.mp (by
    congr 1;have h7:=RZ sb (m.G3 outs3) R j hjl o2 (by rw[ho2];rfl);rw[EK]at h7;show _=HP.AA b8 0 (AN ((m.AM.getD i AB.AD).fs.getD k AB.AD))*(Ag sb m.x*(AK m.x.gq m.ga m.AR*(AK m.x.eq m.ea m.Az*(m.da.h (m.due.map BG.mk)*(m.oa.h (outs3.set j o2)*(AP Bc (outs3.set j o2)*(m.ia.h m.ins*(AP BP m.ins*(AC m.sa.b m.sa.o m.AM m.sa.s*(AP DB m.AM*R))))))))));refine  ?_;refine Sp ?_ (congrArg (λhh=>HP.AA b8 0 (AN ((m.AM.getD i AB.AD).fs.getD k AB.AD))*hh) h7.symm);rw[ho2];show _=HP.AA b8 0 (AN ((m.AM.getD i AB.AD).fs.getD k AB.AD))*(Ag sb m.x*(AC m.oa.b m.oa.o outs3 m.oa.s*(HP.AA (outs3.getD j AB.AD).q 0 (Gq (outs3.getD j AB.AD))*(AK (outs3.getD j AB.AD).cq a113 ((outs3.getD j AB.AD).o.AG.add ((m.AM.getD i AB.AD).fs.getD k AB.AD).f.offset (((m.AM.getD i AB.AD).fs.getD k AB.AD).f.offset+((m.AM.getD i AB.AD).fs.getD k AB.AD).f.data.size-1))*(CI Bc outs3 j*(GB (m.G3 outs3) sb*R))))));refine  ?_;ac_rfl) hw)⟩) (BV (k+1,outs3.set j o2) ⟨h69,hok2,by
     rw[cH h69,tg,←hF.e,n',Akd];unfold JI;rw[AJ h91,hst,dz,VF hjl,D',ho2]⟩ rW Bu I)
  |exact Bg (Ag sb m.x * (AK m.x.gq m.ga m.AR * (AK m.x.eq m.ea m.Az * (m.da.h (m.due.map BG.mk) * (m.oa.h outs3 * (AP Bc outs3 * (m.ia.h m.ins * (AP BP m.ins * (AC m.sa.b m.sa.o m.AM m.sa.s * (AP DB m.AM * R)))))))))) (BV (k + 1,outs3) ⟨h69,hF.ok,by
     rw[cH h69,tg,←hF.e,n',Akd];unfold JI;rw[AF h91]⟩ rW Bu I)):=h
def R7(h:X:=by
 refine N0 ?_;refine Kb ?_
 first
 |(exact mR [2] (AC z.2.2.2.2.1 z.2.2.2.2.2.1 z.1 z.2.2.2.2.2.2.2*(rr rb p c xs z.2.2.1 false*R)) I I ⟨z.2.2.2.1,z.2.2.2.2.1,z.2.2.2.2.2.1,z.2.2.2.2.2.2.1,z.2.2.2.2.2.2.2,z.1,z.2.2.1,false,I,hzs,hzc,I,hza,.inl ⟨Zj,I⟩,C0⟩)
 |exact mR [2] (rr rb p c xs a49 true*R) I I ⟨none,0,0,0,[],[],a49,true,I,E7,I,Ci,C0,.inr ⟨by
   rw[hinv,show n13-z.2.1=(n13-(z.2.1+1))+1 by omega];obtain⟨e47,rfl⟩|⟨e47,_,_,rfl⟩:=h47
   ·obtain⟨e49,rfl⟩|⟨e49,_,_,rfl⟩:=h49
    ·first|exact Ut I e47 e49 C0|cases hb2
    exact VG
   exact YF e47,I⟩,(by decide:0<10000000000)⟩
 |exact mR [2] (rr rb p c xs a15 true*R) I I ⟨none,0,0,0,[],[],a15,true,I,E7,I,Ci,C0,.inr ⟨by
   obtain⟨e11,rfl⟩|⟨e11,_,_,rfl⟩:=h11
   ·obtain⟨e13,rfl⟩|⟨e13,_,_,rfl⟩:=h13
    ·obtain⟨e15,rfl⟩|⟨e15,_,_,rfl⟩:=h15
     ·simp only[EQ,e11,e13,e15]
      first|(exact AF C0)|cases hbd
     simp only[EQ,e11,e13,e15]
    simp only[EQ,e11,e13]
   simp only[EQ,e11],I⟩,(by decide:0<10000000000)⟩):=h
def qK(h:X:=by
 refine N0 ?_;refine J9 ?_
 first
 |(exact mR [2] (AC z.2.2.2.2.1 z.2.2.2.2.2.1 z.1 z.2.2.2.2.2.2.2*(rr rb p c xs z.2.2.1 false*R)) I I ⟨z.2.2.2.1,z.2.2.2.2.1,z.2.2.2.2.2.1,z.2.2.2.2.2.2.1,z.2.2.2.2.2.2.2,z.1,z.2.2.1,false,I,hzs,hzc,I,hza,.inl ⟨Zj,I⟩,C0⟩)
 |exact mR [2] (rr rb p c xs a49 true*R) I I ⟨none,0,0,0,[],[],a49,true,I,E7,I,Ci,C0,.inr ⟨by
   rw[hinv,show n13-z.2.1=(n13-(z.2.1+1))+1 by omega];obtain⟨e47,rfl⟩|⟨e47,_,_,rfl⟩:=h47
   ·obtain⟨e49,rfl⟩|⟨e49,_,_,rfl⟩:=h49
    ·first|exact Ut I e47 e49 C0|cases hb2
    exact VG
   exact YF e47,I⟩,(by decide:0<10000000000)⟩
 |exact mR [2] (rr rb p c xs a15 true*R) I I ⟨none,0,0,0,[],[],a15,true,I,E7,I,Ci,C0,.inr ⟨by
   obtain⟨e11,rfl⟩|⟨e11,_,_,rfl⟩:=h11
   ·obtain⟨e13,rfl⟩|⟨e13,_,_,rfl⟩:=h13
    ·obtain⟨e15,rfl⟩|⟨e15,_,_,rfl⟩:=h15
     ·simp only[EQ,e11,e13,e15]
      first|(exact AF C0)|cases hbd
     simp only[EQ,e11,e13,e15]
    simp only[EQ,e11,e13]
   simp only[EQ,e11],I⟩,(by decide:0<10000000000)⟩):=h
def kX(h:X:=by
 have hsome:m.d.add r.f=some {m.d with A7:=m.d.A7++[r.f]}:=by unfold B9.add;rw[AF h18]
 obtain⟨m2,hm2⟩:∃m2:Em,m2=⟨{m.d with A7:=m.d.A7++[r.f]},⟨p11,b11,o11,c11,s11⟩,m.rs++[r],⟨p30,b30,o30,c30,s30⟩⟩:=DF;have hb2:m2.d.b=m.d.b++Av r.f:=by rw[hm2];exact Afk _ _
 have hok2:m2.ok:=by
  refine⟨?_,?_,?_,?_,?_⟩
  ·rw[hb2,hm2];exact⟨hs11,hc11⟩
  ·rw[hm2];exact⟨hs30,hc30⟩
  ·rw[hm2];show(m.rs++[r]).map (·.f)=m.d.A7++[r.f];rw[n8,hok.map];rfl
  ·rw[hm2];exact hrm
  rw[hb2,hm2];show _≤m.d.room;omega
 have hE2:JW m2=[.slice p11 (aa (m.d.b++Av r.f)) c11,.slice p30 (aa (m.rs++[r])) c30,iN m.d.room,.bool (E9 m.d.A7||decide (r.f.kind≠3))]:=by
  unfold JW;rw[hb2,hm2];dsimp only;rw[wn]
 refine GE (H':=HP.AA b3 0 (AN r)*(HP.AA b29 0 (AE [r])*(Q11*(Bv db m2*R)))) ?_ ?_
 ·unfold Bv;rw[hE2,hb2];have e4:m2.a.h (m.d.b++Av r.f)=AC b11 o11 (m.d.b++Av r.f) s11:=by rw[hm2]
  have e5:m2.f.h m2.rs=AC b30 o30 (m.rs++[r]) s30:=by rw[hm2]
  rw[e4,e5,hwn]
  try simp only[Al0,Q2]
  ac_rfl
 exact mR [4] (Bv db m2*R) I I ⟨m2,hok2,by rw[hsome,hm2];rfl,by rw[hsome];rfl,I⟩):=h
def iZ(h:X:=by
 refine JL vZ<|Ae oY I ?_;rintro _ _ ⟨b75,rfl,rfl⟩
 first
  |refine BH (H':=AC b72 o72 (out++[(⟨lo1,hi1⟩:AS)]) s72*(HP.AA b75 0 (AE [(rg z.l i)])*(HP.AA b71 0 (AE [(⟨lo1,hi1⟩:AS)])*(HP.AA b9 0 [uN (rg z.l i).lo,uN (rg z.l i).hi]*(AK q a z*R))))) yN ?_
  |refine BH (H':=AC oa.b oa.o out oa.s*(HP.AA b75 0 (AE [(rg z.l i)])*(HP.AA b9 0 [uN (rg z.l i).lo,uN (rg z.l i).hi]*(AK q a z*R)))) yN ?_
 have hsel:True:=trivial
 first
  |refine Ae (CA (ys:=[(rg z.l i)]) (bb:=b75) (oo:=0) (cc:=1) I ho72.1 ho72.2 I ⟨.inr I,er _⟩ AH I Ph C0) I ?_
  |refine Ae (CA (ys:=[(rg z.l i)]) (bb:=b75) (oo:=0) (cc:=1) I hoa.1 hoa.2 I ⟨.inr I,er _⟩ AH I Ph C0) I ?_
 rintro _ _ ⟨p76,b76,o76,c76,s76,rfl,hs76,hc76,rfl⟩
 first
  |have ho76:(⟨p76,b76,o76,c76,s76⟩:Am).ok (out++[(⟨lo1,hi1⟩:AS)]++[(rg z.l i)]):=⟨hs76,hc76⟩
  |have ho76:(⟨p76,b76,o76,c76,s76⟩:Am).ok (out++[(rg z.l i)]):=⟨hs76,hc76⟩
 refine DY ?_
 first
  |exact Bg (AC b53 o53 (out++[(rg z.l i)]) s53*(AK q a z*R)) vR
  |exact Bg (AC b76 o76 (out++[⟨lo1,hi1⟩]++[(rg z.l i)]) s76*(AK q a z*R)) n0
  |exact Bg (AC b76 o76 (out++[(rg z.l i)]) s76*(AK q a z*R)) eN
  |exact Bg (AC oa.b oa.o out oa.s*(AK q a z*R)) wW):=h
def fQ(h:X:=by
 refine qa ?_;rintro _ _ ⟨p99,b99,o99,c99,s99,rfl,hs99,hc99,rfl⟩;refine BT ?_;refine BE ?_;refine GO 8 C1 I Lc<|FZ ?_;refine A4 ?_;have hz1:z.add lo hi=⟨(z.l.take fr++r::z.l.drop to).tail,(rg (z.l.take fr++r::z.l.drop to) 0).hi+1,z.AQ⟩:=by
  unfold Ba.add;rw[AF C0,hadd,AJ h82];congr 2;unfold rg;cases(z.l.take fr++r::z.l.drop to)<;>rfl
 have e99:(z.l.take fr++r::z.l.drop to).take 0++(z.l.take fr++r::z.l.drop to).drop 1=(z.l.take fr++r::z.l.drop to).tail:=by rw[tS,l0,List.drop_one]
 rw[e99]at hs99 hc99⊢;refine GE (H':=HP.AA q 0 [.slice p99 (z.l.take fr++r::z.l.drop to).tail.length c99,uN ((rg (z.l.take fr++r::z.l.drop to) 0).hi+1),iN z.AQ]*(AC b99 o99 (z.l.take fr++r::z.l.drop to).tail s99*(HP.AA b8 0 [uN r.lo,uN r.hi]*(HP.AA b5 0 [uN hi]*(HP.AA b4 0 [uN (max lo z.floor)]*(HP.AA b3 0 [ptr q 0]*R)))))) C4 ?_;refine Nd (ts:=[]) (AK q ⟨p99,b99,o99,c99,s99⟩ (z.add lo hi)*R) (hE:=?_) I I ⟨⟨p99,b99,o99,c99,s99⟩,(by rw[hz1];exact⟨hs99,hc99⟩),I⟩;rw[hz1];unfold AK;exact AH):=h
def pY(h:X:=by
 have hnew:∀op∈MemOp.ofEvents 0 (G 0).frame.fn (G 0).frame.place es,op.g=0∧(∀m,op.act=.mark m→Neutral m)∧∀b,op.act.touch?=some b→
   (∃a,b.loc=.cell a∧a.block<w.heap.size∧(w.heap.size≤a.block∨Bm B.heap.size (V 0) a.block a.off∨a.block<B.heap.size∧b.write=false))∨(∃r,b.loc=.obj r∧r<w.heap.size∧(w.heap.size≤r∨Bm B.heap.size (V 0) r 0)):=by
  intro op hop;rw[ofEvents_eq]at hop;obtain⟨e,he,rfl⟩:=EA.1 hop;obtain⟨k1,k2⟩:=yC (h2 e he);exact⟨I,k1,k2⟩
 refine hS.tr.step (g:=0) (New:=λ_=>False) hS.QR (λop hop=>(hnew op hop).1) (λop hop m hm=>(hnew op hop).2.1 m hm) (λ_ hl=>hl.elim) (λop hop b hb=>?_) (λ_ _ ho=>.inl ho) λ_ _ hr=>hr;obtain⟨x,e,h1,k|k|⟨k1,k2⟩⟩|⟨x,e,h1,k|k⟩:=(hnew op hop).2.2 b hb
 ·omega
 ·exact .inl (by rw[e];exact⟨by omega,k⟩)
 ·exact tE
 ·omega
 exact .inl (by rw[e];exact .inl ⟨by omega,k⟩)):=h
def yK(h:X:=by
 first
  |(have hT:=hs55;have f1:=e1;have f2:=e2;have f3:=e3)
  |(have hT:=hzq;have f1:=cd1;have f2:=cd2;have f3:=cd3)
 refine Bt ?_;refine mC (λh59=>?_) (λh59=>?_)
 ·refine rn ?_;rintro _ _ ⟨a70,hs70,rfl⟩;refine FF ?_;refine BE ?_
  first
   |exact LW trivial (LI (G:=HP.AA y 0 [uN x.lo,uN x.hi]) (a70:DO) Cq Cr)
   |exact LW trivial (LI (G:=HP.AA y 0 [uN x.lo,uN x.hi]) (a55:DO) Cq Cr)
   |exact LW trivial (LI (G:=HP.AA y 0 [uN x.lo,uN x.hi]) (zq:DO) Cq Cr)
 refine J2 ?_
 first
  |exact LW trivial (LI (G:=HP.AA y 0 [uN x.lo,uN x.hi]) (a70:DO) Cq Cr)
  |exact LW trivial (LI (G:=HP.AA y 0 [uN x.lo,uN x.hi]) (a55:DO) Cq Cr)
  |exact LW trivial (LI (G:=HP.AA y 0 [uN x.lo,uN x.hi]) (zq:DO) Cq Cr)):=h
def sX(h:X:=by
 have hfin:rm.r.filled r.f=(z.b,z.AG):=by rw[←z1,hstop]
 have ewr:rm.r.data r.f=(0,rm.r.QE r.f):=by unfold Dk.data;rw[AF hbad,AF (by rw[h50];simp)]
 obtain⟨rm2,hrm2⟩:∃rm2:FA,rm2=⟨rm.r.QE r.f,a1,rm.cq,z.ca⟩:=DF;have hdo:rm.r.QE r.f={rm.r with high:=(max rm.r.high (r.f.offset+r.f.data.size)),ended:=(rm.r.ended||r.f.fin),end_:=(if r.f.fin then(r.f.offset+r.f.data.size)else rm.r.end_),b:=z.b,AG:=z.AG}:=by unfold Dk.QE;rw[hfin]
 exact mR [4] (HP.AA b o (Er rm2)*(Dq rm2*R)) (hE:=⟨λww hw=>Sat.right (A:=HP.AA b3 0 (AN r)) (Eq.mp (by
  congr 1;rw[hrm2,hdo];unfold Dq AC;show _=HP.AA b3 0 (AN r)*(HP.AA b o [.slice a1.p (aa z.b) a1.c,ptr rm.cq 0,uN (max rm.r.high (r.f.offset+r.f.data.size)),uN (if r.f.fin then(r.f.offset+r.f.data.size)else rm.r.end_),.bool (rm.r.ended||r.f.fin),.bool rm.r.given,uN rm.r.code,uN rm.r.read,iN rm.r.state]*(HP.AA a1.b a1.o (AE z.b++a1.s)*AK rm.cq z.ca z.AG*R));refine  ?_;rw[z6];ac_rfl) hw)⟩) I I ⟨rm2,(by rw[hrm2];unfold FA.ok;dsimp only;rw[hdo];exact⟨⟨by rw[z6];exact ha1.1,by rw[z6];exact ha1.2⟩,z9⟩),by rw[hrm2,ewr],Cb,I⟩):=h
def tH(h:X:=by
 have e1: #[g]=CN (λ_=>g) 1:=by
  rw[show CN (λ_=>g) 1=Array.map (λ_=>g) (Array.range 1)from I,show Array.range 1= #[0] by decide];simp
 rw[solo_eq_crowd,e1];exact hE w #[] none ⟨hb,λ_ _=>hv,λg g' b i _ _ h=>absurd h (hm b i),λ_ h=>h.elim,λ_ _ h=>h.elim,λ_ _ _ h=>h.elim,λi a b h=>by simp[touchAt,Trace.act?]at h,λi a b h=>by simp[touchAt,Trace.act?]at h,
  ⟨λop hop=>by simp at hop,λsaid hr=>by obtain⟨i,j,_,⟨a,b,ha,_⟩,_⟩:=hr;simp[Trace.act?]at ha,λg l _ i a h=>by simp[touchAt,Trace.act?]at h,λg l _ i a h=>by simp[touchAt,Trace.act?]at h⟩⟩ λop hop=>by simp at hop):=h
def ZI(h:X:=by
 obtain⟨an,han⟩:∃an:Bool,an=(m2.x.answer||(decide ((rs.getD i AB.AD).f.kind≠3)&&decide ((rs.getD i AB.AD).f.kind≠1))):=DF;refine GE (H':=Ao cb (m2.DM {m2.x with answer:=an})*(HP.AA b14 0 (AN (rs.getD i AB.AD))*(AC b45 o45 rs s45*(BM rs*(AC b28 o28 ys s28*(R)))))) ?_ ?_
 ·rw[E1];show Ab cb {m2.x with answer:=_}*_=Ab cb {m2.x with answer:=an}*_;rw[han];refine congrArg (λbb:Bool=>Ab cb {m2.x with answer:=bb}*_) ?_
  first
   |(rw[ha];rfl)
   |(rw[ha,decide_eq_true hk3];rfl)
   |(rw[ha,decide_eq_false hk3];rfl)
 exact An (m2.DM {m2.x with answer:=an}) ⟨⟨hm2.g,hm2.ws,hm2.rs,hm2.fl,hm2.lo,hm2.fa,hm2.la,hm2.fv,hm2.lv⟩,(by rw[←hs2,han];rfl)⟩ KS I):=h
def S1(h:X:=by
 first
 |exact mR [4] (HP.AA fb 0 (AN r)*(C*(GA bc f1 f2 f3 us1 us2 us3*R))) I I ⟨congrArg Value.bool (by rw[decide_eq_decide];exact⟨λh=>⟨hof,hcd,hg1,hg2,h,hF.kind⟩,λh=>h.2.2.2.2.1⟩),I⟩
 |exact mR [4] (HP.AA fb 0 (AN r)*(C*(GA bc f1 f2 f3 us1 us2 us3*R))) I I ⟨congrArg Value.bool (decide_eq_false (λh=>hg2 h.2.2.2.1)).symm,I⟩
 |exact mR [4] (HP.AA fb 0 (AN r)*(C*(GA bc f1 f2 f3 us1 us2 us3*R))) I I ⟨congrArg Value.bool (decide_eq_false (λh=>hg1 h.2.2.1)).symm,I⟩
 |exact mR [4] (HP.AA fb 0 (AN r)*(C*(GA bc f1 f2 f3 us1 us2 us3*R))) rfl rfl ⟨congrArg Value.bool (decide_eq_false (λh=>by
   have h1:=h.1;have h2:=h.2.1;obtain rfl|rfl:=(by omega:i=0∨i=1)
   ·simp at hbig;omega
   simp at hbig;omega)).symm,I⟩):=h
def Rs(h:X:=by
 obtain⟨e2,he2⟩:∃e:Bool,e=(w1.w.ended||(inn&&decide ((fm.fs.getD i AB.AD).f.kind=5)&&(fm.fs.getD i AB.AD).f.fin)):=DF;refine GE (H':=HP.AA cb (0+43+j*10) (DA {w1 with w:={w1.w with ended:=e2}})*(DK {w1 with w:={w1.w with ended:=e2}}*(Dl cb wz j*(HP.AA b7 0 (AN (fm.fs.getD i AB.AD))*(K*(HP.AA b3 0 (DP fm)*R)))))) ?_ ?_
 ·show HP.AA cb (0+43+j*10) [.slice w1.a.p (aa w1.w.b) w1.a.c,ptr w1.sq 0,ptr w1.cq 0,uN w1.w.high,.bool w1.w.finished,.bool w1.w.ending,.bool _,.bool w1.w.given,uN w1.w.code,.bool w1.w.ES]*_=HP.AA cb (0+43+j*10) [.slice w1.a.p (aa w1.w.b) w1.a.c,ptr w1.sq 0,ptr w1.cq 0,uN w1.w.high,.bool w1.w.finished,.bool w1.w.ending,.bool e2,.bool w1.w.given,uN w1.w.code,.bool w1.w.ES]*(DK w1*_);refine  ?_;rw[he2];refine congrArg (λb:Bool=>HP.AA cb (0+43+j*10) [.slice w1.a.p (aa w1.w.b) w1.a.c,ptr w1.sq 0,ptr w1.cq 0,uN w1.w.high,.bool w1.w.finished,.bool w1.w.ending,.bool b,.bool w1.w.given,uN w1.w.code,.bool w1.w.ES]*(DK w1*(Dl cb wz j*(HP.AA b7 0 (AN (fm.fs.getD i AB.AD))*(K*(HP.AA b3 0 (DP fm)*R)))))) ?_
  first
   |(rw[he1];rfl)
   |(rw[he1,hi9,decide_eq_true hk9];rfl)
   |(rw[he1,hi9,decide_eq_false hk9];rfl)
   |(rw[he1,hi9];rfl)
 exact An ({w1 with w:={w1.w with ended:=e2}}:CH) ⟨hw1,(by rw[Ack,←hw1e,he2])⟩ UK I):=h
def Z3(h:X:=by
 refine KC ?_;refine An () trivial (.cons ?_ KS) I;refine Lo ?_;congr 2;have hbd:m.s.busy (rs.getD i AB.AD).f↔(rs.getD i AB.AD).f.kind=5∧rm.r.given=false∧rm.r.read+m.x.AI<(rs.getD i AB.AD).f.offset+(rs.getD i AB.AD).f.data.size:=by unfold AO.busy;rw[erj];exact Iff.rfl
 first
  |exact decide_eq_decide.2 ⟨λh=>hbd.2 ⟨hk5,hgv,h⟩,λh=>(hbd.1 h).2.2⟩
  |exact(decide_eq_false (λh=>R0 ((hbd.1 h).2.1.symm.trans hgv))).symm
  |exact(decide_eq_false (λh=>hk5 (hbd.1 h).1)).symm):=h
def kO(h:X:=by
 obtain⟨w2,hw2⟩:∃w2:CH,w2={wm with w:=wm.w.again r.f,sq:=q34,sa:=zq}:=DF;have hok2:w2.ok:=by rw[hw2];unfold CH.ok;dsimp only;rw[eag];exact⟨hok.1,hzq,hok.2.2⟩
 refine Bg (HP.obj d2 (.deferred (some []))*(HP.obj d (.deferred (some []))*(HP.AA cb (0+43+j*10) (DA w2)*(DK w2*R)))) (hE:=?_) ?_
 ·rw[hw2,eag,h87];unfold DK;dsimp only[Bool.not_true,Bool.not_false,Bool.and_false,Bool.and_true];simp only[Bool.not_true,Bool.not_false,Bool.and_false,Bool.and_true];exact AH
 exact Wt (ts:=[]) [d2,d] _ I I ⟨w2,hok2,Vl,I⟩ I):=h
def SZ(h:X:=by
 refine An () trivial (.cons ?_ ED) I;refine Lo ?_;congr 2
 first
  |exact(decide_eq_false (λh=>R0 (he.symm.trans h.1))).symm
  |exact(decide_eq_true ⟨he,.inl hgt⟩).symm
  |exact decide_eq_decide.2 ⟨λh=>⟨he,.inr ⟨hfn,h⟩⟩,λh=>h.2.elim (λh=>absurd h hgt) (λh=>h.2)⟩
  |exact(decide_eq_false (λh=>h.2.elim (λh=>absurd h hgt) (λh=>R0 (hfn.symm.trans h.1)))).symm):=h
def vE(h:X:=by
 refine mC (λyt13=>?_) (λnt13=>?_)
 ·refine BQ ?_
  first|(exfalso;omega)|exact mr [2,3] I I ⟨Cv,I⟩
 refine J2 ?_;refine JL (Dy (i:=t.toNat) (j:=28) I I)<|J3 ?_;refine mC (λyt16=>?_) (λnt16=>?_)
 ·refine BQ ?_
  first|(exfalso;omega)|exact mr [2,3] I I ⟨Cv,I⟩
 refine CY ?_
 first|(exfalso;omega)|exact mr [2,3] I I ⟨Cv,I⟩):=h
def wR(h:X:=by
 have hbad:G4 fs=none:=by
  rw[G4,AF];intro h;have hok2:ok=false:=by cases ok<;>simp_all
  rw[hok2]at hokk;have:false=true:=hokk.2 ⟨kz.2 h.1,λj hj=>by
   have hj2:j<aa rs:=by omega
   rw[MC _ _ _ hj2];exact h.2 _ (hfs.map▸g9.2 ⟨_,rv hj2,I⟩)⟩
  cases this
 refine Be ?_;exact mR [2,3] H I I (by rw[hbad];exact⟨I,I⟩)):=h
def uJ(h:X:=by
 have e3:=hg5;refine DE ?_;exact An () trivial (.cons (congrArg (λbb=>some (Value.bool bb)) (by
  apply L'.2;simp only[decide_eq_true_eq];revert e1 e2;cases r.f.fin<;>cases(m.outs.getD j AB.AD).o.finished<;>by_cases hq1:(r.f.offset+r.f.data.size)=(m.outs.getD j AB.AD).o.data.length<;>by_cases hq2:r.f.data.size=0<;>simp_all)) Bu) I):=h
def Z2(h:X:=by
 have e3:=hg7;refine DE ?_;exact An () trivial (.cons (congrArg (λbb=>some (Value.bool bb)) (by
  apply L'.2;simp only[decide_eq_true_eq];revert e1 e2;cases r.f.fin<;>cases(m.outs.getD j AB.AD).o.finished<;>by_cases hq1:(r.f.offset+r.f.data.size)=(m.outs.getD j AB.AD).o.data.length<;>by_cases hq2:r.f.data.size=0<;>simp_all)) Bu) I):=h
def uB(h:X:=by
 refine CK ?_;exact An () trivial (.cons (congrArg (λbb=>some (Value.bool bb)) (by
  apply L'.2;simp only[decide_eq_true_eq];revert e1 e2;cases r.f.fin<;>cases(m.outs.getD j AB.AD).o.finished<;>by_cases hq1:(r.f.offset+r.f.data.size)=(m.outs.getD j AB.AD).o.data.length<;>by_cases hq2:r.f.data.size=0<;>simp_all)) Bu) I):=h
def X0(h:X:=by
 refine J1 ?_;refine JL LS<|CY ?_
 first
 |exact mR [2] H I I U2
 |(subst hc;first|exact HO (bc:=b3) I I (.pad bt) Cg|exact HO (bc:=b3) I I (.ping bt) Cg|exact HO I I .ack Ce|exact HO I I .reset Ce|exact HO I I .data Ce|exact HO (bc:=b3) I I (.bye bt bq) Cg)):=h
def lP(h:X:=by
 rintro _ _ ⟨bt,rfl,rfl⟩;refine CY ?_
 first
 |exact mR [2] H I I U2
 |(subst hc;first|exact HO (bc:=b3) I I (.pad bt) Cg|exact HO (bc:=b3) I I (.ping bt) Cg|exact HO I I .ack Ce|exact HO I I .reset Ce|exact HO I I .data Ce|exact HO (bc:=b3) I I (.bye bt bq) Cg)):=h
def kW(h:X:=by
 refine BQ ?_;refine An () trivial (.cons ?_ DW) I;refine Lo ?_;congr 2
 first
  |exact(decide_eq_true (.inl ⟨he,hne⟩)).symm
  |exact decide_eq_decide.2 ⟨.inr,λh=>h.elim (λh=>absurd h.2 hne) id⟩
  |exact decide_eq_decide.2 ⟨.inr,λh=>h.elim (λh=>absurd (he.symm.trans h.1) R0) id⟩):=h
def ZA(h:X:=by
 refine hS.move (vs2:=V) hS.base Dz (λop hop=>by rw[hu op hop];rfl) (λop hop m e=>by rw[hu op hop]at e;cases e) hS.CD hS.apart (λg b k hg hk=>⟨g,hg,hk,Pass.refl _ _ _⟩) (λg hg=>?_) (λg b hg=>?_) hS.one
 ·obtain⟨k1,k2⟩:=hS.box g hg;exact⟨k1,k2,g,.inl ⟨hg,I⟩,Pass.refl _ _ _⟩
 obtain⟨k1,k2,k3⟩:=hS.chan g b hg;exact⟨k1,k2,k3,g,.inl hg,Pass.refl _ _ _⟩):=h
def jC(h:X:=by
 first
  |exact Bg (AC b53 o53 (out++[(rg z.l i)]) s53*(AK q a z*R)) vR
  |exact Bg (AC b76 o76 (out++[⟨lo1,hi1⟩]++[(rg z.l i)]) s76*(AK q a z*R)) n0
  |exact Bg (AC b76 o76 (out++[(rg z.l i)]) s76*(AK q a z*R)) eN
  |exact Bg (AC oa.b oa.o out oa.s*(AK q a z*R)) wW):=h
def jD(h:X:=by
 first
 |exact mR [2] H I I U2
 |(subst hc;first|exact HO (bc:=b3) I I (.pad bt) Cg|exact HO (bc:=b3) I I (.ping bt) Cg|exact HO I I .ack Ce|exact HO I I .reset Ce|exact HO I I .data Ce|exact HO (bc:=b3) I I (.bye bt bq) Cg)):=h
def qH(h:X:=by
 refine J1 ?_;have hz1:z.add lo hi=⟨z.l.take fr++r::z.l.drop to,z.floor,z.AQ⟩:=by
  unfold Ba.add;rw[AF C0,hadd,AF h82]
 refine Nd (ts:=[]) (AK q ⟨p70,b70,o70,c70,s70⟩ (z.add lo hi)*R) (hE:=?_) I I ⟨⟨p70,b70,o70,c70,s70⟩,(by rw[hz1];exact⟨hs70,hc70⟩),I⟩;rw[hz1];unfold AK;exact AH):=h
def WM(h:X:=by
 refine An () trivial (.cons ?_ Pq) I;refine Lo ?_;congr 2
 first
  |exact decide_eq_decide.2 ⟨λh=>⟨hb1,hg2,(fH _).1 h⟩,λh=>(fH _).2 h.2.2⟩
  |exact(decide_eq_false (λh=>hg2 h.2.1)).symm
  |exact(decide_eq_false (λh=>by rw[hb1]at h;cases h.1)).symm):=h
def xQ(h:X:=by
 constructor
 ·rintro((g|g)|⟨q,hq,g⟩)
  ·exact .inl g
  ·exact .inr ⟨p,C3,g⟩
  exact .inr ⟨q,QY,g⟩
 rintro(g|⟨q,hq,g⟩)
 ·exact .inl (.inl g)
 obtain rfl|hq:=j1.1 hq
 ·exact .inl (.inr g)
 exact .inr ⟨q,hq,g⟩):=h
def n4(h:X:=by
 unfold AO.read;rw[AF gU,dz,←hrm1];dsimp only;rw[AJ h48];unfold AO.JO;by_cases hc:rm1.r.ended=true∧rm1.r.read+(min ((AW rm1.r.read rm1.r.high rm1.r.AG.l).1-rm1.r.read) AQ.toNat)=rm1.r.end_
 ·rw[AJ hc,AJ hc]
 rw[AF hc,AF hc]):=h
def jJ(h:X:=by
 intro w' _;have e1:(str.extract 0 (aa str.data.toList)).data=str.data:=by
  rw[hl];have:str.extract 0 str.size=str:=ByteArray.extract_zero_size;rw[this]
 simp only[Builtin.firstCells,e1,P5,bp];congr 1;apply Akg.1;rw[Ajs]):=h
def tC(h:X:=by
 first
  |exact BV ((i+j)/2^1+1,j) ⟨(by show(i+j)/2^1+1≤j;omega),h2,λk hk hp=>h5 (hmono k _ (by have:k<(i+j)/2^1+1:=hk;omega) C0 hp),h4⟩ (by show j-((i+j)/2^1+1)<j-i;omega) DJ I
  |exact BV (i,(i+j)/2^1) ⟨(by show i≤(i+j)/2^1;omega),(by show(i+j)/2^1≤n;omega),h3,λk hk1 hk2=>hmono _ k hk1 hk2 (by simpa using h5)⟩ (by show(i+j)/2^1-i<j-i;omega) DJ I):=h
def pG(h:X:=by
 refine J4 ?_;refine JL (Dy (i:=aa l) (j:=0) I I)<|J5 ?_;have efa:m.s.Df (EG l)=(decide (aa l=0),m.s):=by
  unfold AL.Df;rw[AJ (show m.s.said=true from h10)];unfold EG;rw[eh]
 exact mR [4] (Ad sb m*R) (hE:=by rw[EK];exact AH) I I ⟨m,hm,Yx,Xk,I⟩):=h
def cN(h:X:=by
 rw[List.set_append_right _ _ C3];simp only[n8,a5,mz,eh,Al6,hP,oq];rw[show 4-aa l=(4-(aa l+1))+1 by omega,Amx];simp):=h
def xL(h:X:=by
 refine CK ?_;refine An () trivial (.cons ?_ H5) C4;refine Lo ?_;congr 2
 first
  |exact decide_eq_decide.2 ⟨λh=>⟨hed,h⟩,λh=>h.2⟩
  |exact(decide_eq_false (λh=>R0 (hed.symm.trans h.1))).symm):=h
def gW(h:X:=by
 refine JL (LT (j:=1) I I W0)<|J2 ?_;refine Bg (HP.AA b1 0 (AN r)*H) (BV (i+1) ⟨hlt,λj hj=>?_⟩ C0 H5 I);obtain h|rfl:=Ak1.1 hj
 ·exact hall j h
 unfold Gc;omega):=h
def wG(h:X:=by
 intro f hf;rw[←hmap]at hf;obtain⟨r,hr',rfl⟩:=g9.1 hf;obtain⟨k,hk,rfl⟩:=Ax hr';have:=hi2 k C0;rw[ek,c8 hk,Option.getD_some]at this;exact this):=h
def gD(h:X:=by
 refine J6 ?_;refine Do 15 I (λhg1=>?_) (λhg1=>?_)
 ·refine BB ?_;refine JL (Mk (r:=.bool true) I I (λw=>by kernel_rfl) (λw=>by rw[Aft];simp))<|A5 ?_;refine mc (λhc=>?_) (λhc=>?_);rotate_left
  ·cases hc
  refine Ei ?_;exact mr [6] I I Dj
 cases hg1):=h
def qJ(h:X:=by
 have h36:m.s.AR.has n.toNat:=h36;refine J8 ?_;have ewr:m.s.BY xs=((0,-1),m.s):=by unfold AO.BY;rw[AF h20];rw[show B6 m.s.ks (Bb (!m.s.first)) xs=some (n,ys)from hop];dsimp only;rw[AJ h36]
 exact ZB):=h
def rX(h:X:=by
 refine An () trivial (.cons ?_ ED) I;refine Lo ?_;congr 2
 first
  |exact decide_eq_decide.2 ⟨λh=>⟨hfn,h⟩,λh=>h.2⟩
  |exact(decide_eq_false (λh=>R0 (hfn.symm.trans h.1))).symm):=h
def pW(h:X:=by
 refine An () trivial (.cons ?_ H5) I;refine Lo ?_;congr 2
 first
  |exact decide_eq_decide.2 ⟨λh=>⟨hgv,h⟩,λh=>h.2⟩
  |exact(decide_eq_false (λh=>R0 (hgv.symm.trans h.1))).symm):=h
def fP(h:X:=by
 refine Be ?_
 first
  |exact BV (i+1,d1.set (r.f.offset+i) (r.f.data.data.toList.getD i 0),t1.set (r.f.offset+i) true) ⟨C0,(by show(d1.set _ _).length=_;rw[n5];exact hd1),(by show(t1.set _ _).length=_;rw[n5];exact ht1),(by have h7:=dY r.f.data.data.toList r.f.offset d1 t1 i (by rw[hdsz];exact h116);rw[AF h131]at h7;exact h7.symm.trans hpu)⟩ bA Fr I
  |exact BV (i+1,d1,t1) ⟨C0,hd1,ht1,(by have h7:=dY r.f.data.data.toList r.f.offset d1 t1 i (by rw[hdsz];exact h116);rw[AJ h131]at h7;exact h7.symm.trans hpu)⟩ bA Fr I):=h
def Yw(h:X:=by refine mR [4] H I I ⟨?_,I⟩;refine Vp ?_;congr 1;apply L'.2;simp only[decide_eq_true_eq,An4,v8,iff_true,iff_false,true_iff,false_iff,eq_self,Ba.has,hhas];omega):=h
def zI(h:X:=by intro t v e;obtain⟨_,h2⟩:=NI args 0 t v e;simp only[H0]at h2;have hlt:t<aa args:=(Lk.1 h2).1;simp only[];rw[Aif Yd];simpa using h2):=h
def rD(h:X:=by intro u x e;obtain⟨_,h4⟩:=NI vs 0 u x e;simp only[H0]at h4;have hlt:u<aa vs:=(Lk.1 h4).1;simp only[];rw[Aif Yd];simpa using h4):=h
def wN(h:X:=by refine mR [3] H I I ⟨?_,I⟩;refine Vp ?_;congr 1;apply L'.2;simp only[decide_eq_true_eq,An4,v8,iff_true,iff_false,true_iff,false_iff,eq_self];omega):=h
def pE(h:X:=by
 refine Fj ?_
 first
 |exact mR [2] H I I iP
 |exact mR [2] H I I uY
 |exact mR [2] H I I mM
 |exact mR [2] H I I pM
 |exact mR [2] H I I g7
 |exact mR [2] H I I dZ):=h
def xU(h:X:=by
 refine Bt ?_;refine Bg (HP.AA fb 0 (AN r)*R) (BV (i+1) ⟨hlt,λj hj=>?_⟩ C0 DJ I);obtain h|rfl:=Ak1.1 hj
 ·exact hall j h
 unfold Gc;omega):=h
def zK(h:X:=by
 first
  |exact BV ⟨z.i+1,z.j+1,z.L.set z.i (z.L.getD z.j AB.AD)⟩ (KU.Kj hz h19 h29) sF DJ (by show _=G (l.take (z.j+1))*(AC b o (z.L.set z.i (z.L.getD z.j AB.AD)) s*R);rw[ets];ac_rfl)
  |exact BV ⟨z.i,z.j+1,z.L⟩ (KU.skip hz h19 h29) sF DJ (by show _=G (l.take (z.j+1))*(AC b o z.L s*R);rw[ets])):=h
def oO(h:X:=by
 rename_i hk;split at h
 ·split at h
  ·split at h
   ·simp only[Option.some.injEq,Prod.mk.injEq]at h;obtain⟨rfl,-⟩:=h;rw[hk];rfl
   cases h
  cases h
 cases h):=h
def Ky(h:X:=by
 first
 |exact mR [2] H I I iP
 |exact mR [2] H I I uY
 |exact mR [2] H I I mM
 |exact mR [2] H I I pM
 |exact mR [2] H I I g7
 |exact mR [2] H I I dZ):=h
def kU(h:X:=by rw[←hu0]at hop;simp only[oi,j1,F',or_false]at hop;rcases hop with rfl|rfl|rfl|rfl<;>exact⟨I,C3,λm e=>by cases e⟩):=h
def lM(h:X:=by
 have:=hc j hj;refine⟨(by rw[i4 e];exact this.1),λhd=>?_⟩;rw[i4 e];refine this.2 ?_;obtain hd|⟨hd,_⟩|hd:=hd
 ·exact .inl hd
 ·exact absurd hd e
 exact .inr (.inr hd)):=h
def aL(h:X:=by
 have:=stepG_comm (P:=P) (main:=main) (b:=Ac fn kd none a []) (a:=a) (k:=k) (cs:=cs) (w:=w) (rest:=is) ho Ni hk hr;unfold listed at this;rw[he,seen_none]at this;exact this):=h
def vJ(h:X:=by
 unfold AL.Dd;have h7:m.s.ins.set j (m.zj j).x=m.s.ins:=by
  rw[←exj];show m.s.ins.set j (m.s.ins.getD j KD)=_;exact Sq _ _ _ (by rw[hi.il];exact hj)
 rw[h7]):=h
def jU(h:X:=by
 split at h
 ·split at h
  ·simp only[Option.some.injEq,Prod.mk.injEq]at h;obtain⟨rfl,-⟩:=h;exact⟨bk _,bk _⟩
  cases h
 cases h):=h
def wY(h:X:=by
 first
  |exact Bg (Ad sb (m.G3 outs4)*R) (hE:=by rw[EK];exact ML) (BV (i+1,outs4) ⟨h15,hF4⟩ nD (.cons I (.cons I (.cons I (.nil)))) I)
  |exact Bg (Ad sb (m.G3 outs)*R) (hE:=by rw[EK];exact ML) (BV (i+1,outs) ⟨h15,hA.ok,(by rw[d6 h15,tg,←hA.e];show _=H8 l _ _;unfold H8;rw[AF (by show ¬BJ l (m.AM.getD i AB.AD).number=true;rw[h57];simp)])⟩ nD (.cons I (.cons I (.cons I (.nil)))) I)):=h
def cF(h:X:=by
 refine Bg H ?_
 first
  |exact BV (z'.1,z'.2+1) ⟨C0,(by rw[hinv,GW];rw[AW,AJ h22])⟩ wL Gx I
  |exact BV ((rg z.l z'.2).hi+1,z'.2+1) ⟨C0,(by rw[hinv,GW];rw[AW,AF h22,AF h26])⟩ wL Gx I):=h
def bD(h:X:=by
 refine J7 ?_;have efa:m.s.Df (EG l)=(false,(m.DM {m.x with said:=true}).s):=by
  unfold AL.Df;rw[AF Vm,AJ XA];rfl
 exact mR [4] (Ad sb (m.DM {m.x with said:=true})*R) (hE:=by rw[EK];exact ML) I I ⟨(m.DM {m.x with said:=true}),{hm with},Yx,Xk,I⟩):=h
def iX(h:X:=by
 first
 |exact absurd hok hcc
 |exact mR [4] (AC b21 o21 (xs++Av r.f) s21*(Q21*R)) I I ⟨p21,b21,o21,c21,s21,Q21,I,hs21,hc21,I,hk21⟩):=h
def gP(h:X:=by
 first
  |skip;have h00:=hbd
   exact Bg (AC b48 o48 rs s48*(BM rs*(AC b33 o33 ys s33*(Ad sb m*R)))) (hE:=⟨λww hw=>Sat.right (A:=HP.AA b14 0 (AN (rs.getD i AB.AD))) (Eq.mp kP hw)⟩) (BV (i+1) ⟨C0,λk hk=>by rcases ff k i with h|h;exact hi2 k h;obtain rfl:k=i:=C0;exactλhbz=>h118 (hbd.1 hbz)⟩ Cw (.cons I (.cons I (.cons I (.cons I (.nil))))) I)
  |exact Bg (AC b48 o48 rs s48*(BM rs*(AC b33 o33 ys s33*(Ad sb m*R)))) (hE:=⟨λww hw=>Sat.right (A:=HP.AA b14 0 (AN (rs.getD i AB.AD))) (Eq.mp bQ hw)⟩) (BV (i+1) ⟨C0,λk hk=>by rcases ff k i with h|h;exact hi2 k h;obtain rfl:k=i:=C0;exactλhbz=>h77 hbz.1⟩ Cw (.cons I (.cons I (.cons I (.cons I (.nil))))) I)):=h
def Zz(h:X:=by
 rw[ek,R' C3];rw[show 4-aa l=(4-(aa l+1))+1 by omega,Amx];simp):=h
def oT(h:X:=by have hd0:ys=[]:=hU.1 C8;subst hd0;refine⟨w,?_,by simpa[AE]using h3,?_⟩<;>cases p<;>simp[AE,storeCells]):=h
def oS(h:X:=by
 refine⟨by simp only[e1],?_⟩;simp only[e1];split
 ·rename_i hc;have:n-off=(n-(off+1))+1:=by omega
  rw[this];rfl
 rfl):=h
def j4(h:X:=by
 first
 |exact mR [4] (AC b o xs s*R) I I (.inr ⟨hcc,I,I⟩)
 |exact mR [4] (AC b21 o21 (xs++Av r.f) s21*R) I I (.inl ⟨hok,p21,b21,o21,c21,s21,I,hs21,hc21,I⟩)):=h
def xV(h:X:=by
 obtain h|h:=v7.1 hop
 ·exact hJ op h
 rw[ofEvents_eq]at h;obtain⟨e,_,rfl⟩:=EA.1 h;exact hi):=h
def WZ(h:X:=by
 have h20:m.s.closed≠0:=h20;refine Be ?_;have ewr:m.s.BY xs=((9,-1),m.s):=by unfold AO.BY;rw[AJ h20]
 exact ZB):=h
def jZ(h:X:=by
 have h21:m.s.closed≠0:=h21;refine Be ?_;have ewr:m.s.BY xs=((9,-1),m.s):=by unfold AL.BY;rw[AJ h21]
 exact Y'):=h
def bJ(h:X:=by
 rw[h1];split
 ·split
  ·rename_i h2;rw[Array.size_map,MP]at h2;omega
  rfl
 exact n3 (by rw[Array.size_map,MP];omega)):=h
def U8(h:X:=by simp only[oi,j1,F',or_false]at hop;rcases hop with rfl|rfl|rfl|rfl<;>exact⟨I,(by first|(show(1:Nat)<3;omega)|(show(2:Nat)<3;omega)),λm e=>by cases e⟩):=h
def oU(h:X:=by
 have:=Lz (sz:=1) (l:=8) (h:=aa xs-8) hs C0 C8;rw[hbl,show (aa xs)-16=aa xs-8-8 by omega];exact this):=h
def yM(h:X:=by rw[Al1,←hl4];exact Alc.2 ⟨C3,λb hb=>by obtain⟨z,_,rfl⟩:=g9.1 hb;rfl⟩):=h
def wT(h:X:=by
 rename_i hk;split at h
 ·simp only[Option.some.injEq,Prod.mk.injEq]at h;obtain⟨rfl,-⟩:=h;rw[hk];rfl
 cases h):=h
def dW(h:X:=by
 have:=hr.get i j v e hi w hw;by_cases hj:j=0
 ·subst hj;simpa[Addr.add]using this
 simpa[Addr.add,hj]using this):=h
def Vu(h:X:=by
 refine mc (λhc0=>?_) (λhc0=>?_)
 ·refine J1 ?_;refine JL (Fw (v:=.int .u8 (9:Nat)) I)<|J1 ?_;exact aP
 refine J1 ?_;exact aP):=h
def mZ(h:X:=by rw[show({w with heap:=w.heap.setIfInBounds b o'}:World).heap[b']?=w.heap[b']? from ne b' (hcne _ _ _ e')];exact this):=h
def pJ(h:X:=by rw[Kk (by rw[eh];exact h),Aki,ek,c8 h];rfl):=h
def nC(h:X:=by
 split at h
 ·split at h
  ·split at h
   ·cases h;exact bk _
   cases h
  cases h
 cases h):=h
def P0(h:X:=by first|exact mR [2] (HP.AA fb 0 (AN r)*R) I I ⟨congrArg Value.bool (decide_eq_false (λh=>by have h1:=h.2 i hlt;unfold Gc at h1;omega)).symm,I⟩|exact mR [2] (HP.AA fb 0 (AN r)*R) I I ⟨congrArg Value.bool (decide_eq_decide.2 ⟨λh=>⟨kz.1 h,hdone⟩,λh=>kz.2 h.1⟩),I⟩):=h
def kA(h:X:=by simp only[Option.some.injEq,Prod.mk.injEq]at h;obtain⟨rfl,-⟩:=h;exact⟨bk _,bk _⟩):=h
def iM(h:X:=by refine BT ?_;refine GO 11 C1 I Lc ?_;refine Hh ?_;refine BE ?_;exact An (b5,b6) trivial DJ (by show _=HP.AA b5 0 _*(HP.AA b6 0 _*_);ac_rfl)):=h
def mT(h:X:=by refine Uf (z:=zo) (ch:=co) ho hk hx ht λok u a v h1 h2 h3 e1 e2=>?_;subst e1 e2;exact h a v h1 h2 h3):=h
def nA(h:X:=by
 split
 ·exact h.read _ _
 split
 ·exact(h.close _).mono FT
 split
 ·exact h.mono FT
 exact h.mono FT):=h
def YU(h:X:=by
 unfold woken;split
 ·obtain⟨v',h5⟩|h5:=(hc j hj).1.status
  ·exact lL hf hJ.1 h5
  exact OE
 rfl):=h
def pL(h:X:=by rw[show({w with heap:=w.heap.push o}:World).heap[b]?=w.heap[b]? from old b (hlt b i v e')];exact this):=h
def wS(h:X:=by unfold World.cell? at hb;rw[show w.heap[(⟨sb,0,none⟩:Addr).block]?=_ from e▸e1]at hb;cases hb):=h
def vS(h:X:=by unfold World.cell? at hb;rw[show w.heap[(⟨sb,0,none⟩:Addr).block]?=_ from e'▸e]at hb;cases hb):=h
def hM(h:X:=by
 by_cases e:g1=g
 ·exact .inr ⟨e,_,I,Alv.1 hb⟩
 exact absurd (hold g1 _ _ h1 e h2) hb):=h
def xK(h:X:=by intro a w h1 h2 h3;show If _ _ _ _ _ _ _ _;rw[h2];exact gv C3 hd hset hr hv a w h1 h3):=h
def UP(h:X:=by
 rw[Gi];by_cases e:k=j
 ·subst e;rw[AJ ⟨I,C0⟩,AJ rfl]
 rw[AF (λh=>e h.1),AF e];rfl):=h
def dU(h:X:=by
 have:=Lz (sz:=1) (l:=aa xs-8) (h:=aa xs) hs C0 hs.2;rw[di];exact this):=h
def sD(h:X:=by rw[Kk h,ek,c8 h];rfl):=h
def uI(h:X:=by simp only[Option.some.injEq,Prod.mk.injEq]at h;obtain⟨rfl,-⟩:=h;rename_i hk;rw[hk];rfl):=h
def tL(h:X:=by refine NZ ?_;rintro _ _ ⟨b1,rfl,rfl⟩;refine CY ?_;exact mr [2] I I ⟨b1,I,I⟩):=h
def gK(h:X:=by
 rcases e:m.s.opened d.data.toList with⟨o,s2⟩
 rw[e]at ho;dsimp only at ho;subst ho;rfl):=h
def yA(h:X:=by
 obtain h4|h4:=v7.1 hop
 ·exact hT.three op h4
 rw[hops op h4];omega):=h
def MW(h:X:=by unfold AO.Bj;simp only[hq,Int.reduceEq,if_false,if_true];exact Prod.ext I hms.symm):=h
def sI(h:X:=by simp only[ek,x0,c8 iB];rfl):=h
def jK(h:X:=by
 refine FE Uc I ?_ ?_;rotate_left
 ·refine JR<|MQ ?_;exact Hy R ⟨M2 (by rw[hinv];exact Acu hm e40 e42 (by omega)),I,I⟩
 exact MU):=h
def bF(h:X:=by rw[Dr _ _ C0,Dr _ _ C0,HZ _ _ C0,HZ _ _ C0];exact Mh (hc 2 C0) I):=h
def Ri(h:X:=by simp only[ek,x0,c8 hk];rfl):=h
def tZ(h:X:=by simp only[World.setChan];exact Aii (I9 e1)):=h
def Va(h:X:=by
 have:=hst.recv.choose_spec.status;rw[hr]at this;cases pk<;>first|rfl|cases this):=h
def pB(h:X:=by
 rintro v H' (⟨h1,rfl,rfl⟩|⟨h1,cb,m,h2,h3,rfl,rfl⟩)
 ·exact⟨none,HP.Bs,by unfold O0;rw[AF h1],.inl ⟨h1,I,I⟩,Ce⟩
 exact⟨_,_,(by unfold O0;rw[AJ h1]<;>rfl),.inr ⟨h1,cb,m,h2,h3,I,I⟩,I⟩):=h
def aE(h:X:=by simp only[World.setChan];exact Aii (I9 e)):=h
def dK(h:X:=by unfold AO.read;rw[AF gU,dz,←hrm1];dsimp only;rw[AF h48]):=h
def oQ(h:X:=by exact KT H I (IC (Kd I (by simp[II hk])) Im) Dj):=h
def zF(h:X:=by
 intro s hs;obtain rfl|hs:=j1.1 hs
 ·exact h
 exact h2 s hs):=h
def fE(h:X:=by simp only[Option.some.injEq,Prod.mk.injEq]at h;obtain⟨-,rfl⟩:=h;omega):=h
def j6(h:X:=by
 obtain h8|h8:=(Gz n r rs).1 h7
 ·omega
 exact d h4 n h5 h6 h8):=h
def vH(h:X:=by
 have:=congrArg (List.drop 1) h5;rwa[Q',Q']at this):=h
def UE(h:X:=by
 refine BQ ?_
 first|(exfalso;omega)|exact mr [2,3] I I ⟨Cv,I⟩):=h
def gR(h:X:=by refine BQ ?_;refine JL YK ?_;refine BE ?_;exact An () trivial (.cons (congrArg (λbb=>some (Value.bool bb)) (decide_eq_decide.2 C0)) (.cons I (.cons I (.cons I (.cons I (.cons I (.cons I (.cons I (.nil))))))))) I):=h
def zR(h:X:=by rw[FB];exact⟨h3 false zo I I,λhd=>by cases Me.1 hd⟩):=h
def cA(h:X:=by
 have:=Gl.status hst;rw[hr]at this;cases pk<;>first|rfl|cases this):=h
def rM(h:X:=by
 obtain hp|hp:=hp
 ·exact ZE
 exact .inr (o4.1 hp).1):=h
def Wc(h:X:=by rw[ek,c8 C0];simpa using h8):=h
def sV(h:X:=by simp[execOp,h1.ev hx,Instr.makeChan,asInt,asIntOf,A6 hT.get,hi,hbig]):=h
def zG(h:X:=by rw[Dr _ _ C0,FB];exact⟨h5,λhd=>by cases Mi.1 hd⟩):=h
def yB(h:X:=by
 by_cases h6:n≤r.hi
 ·exact(Gz n r rs).2 (.inl C0)
 exact(Gz n r rs).2 (.inr (b n C0 h5))):=h
def YW(h:X:=by rintro _ _ ⟨q,b',o',c',s',Q,rfl,h1,h2,rfl,hk⟩;refine J6 ?_;exact kL):=h
def xO(h:X:=by have h7:=X8 (l:=l) (i:=0) C0;rw[Amq]at h7;rw[h7];rfl):=h
def a7(h:X:=by rw[ofEvents_eq]at h;obtain⟨e,_,rfl⟩:=EA.1 h;exact hi):=h
def Zy(h:X:=by
 show(if _ then _ else _)≤_;split
 ·exact g.code
 exact hf.2.2.1):=h
def Uy(h:X:=by rw[ofEvents_eq]at hop;obtain⟨e,_,rfl⟩:=EA.1 hop;rfl):=h
def wP(h:X:=by
 have:=(hc 1 C0).2 (Ko.2 Ct);simpa only[BN,hs,FP]using this):=h
def yS(h:X:=by
 have:=(hc 2 C0).2 (Mi.2 Ct);simpa only[BN,hs,KI]using this):=h
def XZ(h:X:=by rintro _ _ ⟨q,b',o',c',s',rfl,h1,h2,rfl⟩;refine J6 ?_;exact oK):=h
def aK(h:X:=by rw[AJ h2,AJ h2];rw[AJ (show(3:Nat)≠0 by decide)];exact Gd):=h
def jA(h:X:=by obtain⟨t1,t2⟩:=hd _ _ ee;rw[t1,ee];simp[DG,Ef,FR,e]):=h
def YT(h:X:=by simp[execOp,resolve,h1.ev hx,h1.ev hy,invoke,builtin,hrun]):=h
def WF(h:X:=by rw[Dr _ _ C0,Dr _ _ C0];exact Nl (hc 0 C0) I):=h
def ZS(h:X:=by rw[FB];exact⟨h3,λhd=>by cases Ko.1 hd⟩):=h
end
section
variable{X Y:Prop}(k:Y)
def A5(h:AX Y X:=by intro Z;exact QS Z.1):=h ⟨k⟩
def A4(h:AX Y X:=by intro Z;exact FJ Z.1):=h ⟨k⟩
def BB(h:AX Y X:=by intro Z;exact WB Z.1):=h ⟨k⟩
def BT(h:AX Y X:=by intro Z;refine⟨.inr AH,?_⟩;exact Z.1):=h ⟨k⟩
def BE(h:AX Y X:=by intro Z;exact M' Z.1):=h ⟨k⟩
def BQ(h:AX Y X:=by intro Z;exact YS9 Z.1):=h ⟨k⟩
def Be(h:AX Y X:=by intro Z;exact gL Z.1):=h ⟨k⟩
def Bn(h:AX Y X:=by intro Z;exact P9 Z.1):=h ⟨k⟩
def Bt(h:AX Y X:=by intro Z;exact Vb Z.1):=h ⟨k⟩
def CY(h:AX Y X:=by intro Z;exact fC Z.1):=h ⟨k⟩
def FF(h:AX Y X:=by intro Z;refine⟨.inl C2,?_⟩;exact Z.1):=h ⟨k⟩
def CK(h:AX Y X:=by intro Z;exact O6 Z.1):=h ⟨k⟩
def DY(h:AX Y X:=by intro Z;exact UL Z.1):=h ⟨k⟩
def G7(h:AX Y X:=by intro Z;exact iy Z.1):=h ⟨k⟩
def M4(h:AX Y X:=by intro Z;exact H9 Z.1):=h ⟨k⟩
def Ga(h:AX Y X:=by intro Z;exact Ae It I Z.1):=h ⟨k⟩
def PZ(h:AX Y X:=by intro Z;exact OC I I I (decide_eq_true I) Z.1):=h ⟨k⟩
def Lo(h:AX Y X:=by intro Z;show some (Value.bool _)=some (Value.bool _);exact Z.1):=h ⟨k⟩
def Khg(h:AX Y X:=by intro Z;exact JV C7 Z.1):=h ⟨k⟩
def La(h:AX Y X:=by intro Z;exact JL (Mk (r:=.bool false) I I (λw=>by kernel_rfl) (λw=>by kernel_rfl)) Z.1):=h ⟨k⟩
def qQ(h:AX Y X:=by intro Z;exact cu Z.1):=h ⟨k⟩
def Nf(h:AX Y X:=by intro Z;exact Ae (EB (l:=[_]) I I) I Z.1):=h ⟨k⟩
def xt(h:AX Y X:=by intro Z;exact Ae (EB (l:=AN r) I I) I Z.1):=h ⟨k⟩
def VU(h:AX Y X:=by intro Z;exact Bl (Eu (v:=.bool true) I I I trivial) Z.1):=h ⟨k⟩
def KM(h:AX Y X:=by intro Z;exact Ae Yv I Z.1):=h ⟨k⟩
def LG(h:AX Y X:=by intro Z;exact Ae (EB (l:=AE ks) I I) I Z.1):=h ⟨k⟩
def w4(h:AX Y X:=by intro Z;exact Ae (EB (l:=Bx q) I I) I Z.1):=h ⟨k⟩
def LV(h:AX Y X:=by intro Z;exact Ae Pg I Z.1):=h ⟨k⟩
def Mx(h:AX Y X:=by intro Z;exact A3 (EK sb m R) Z.1):=h ⟨k⟩
def Zq(h:AX Y X:=by intro Z;exact PA I Z.1):=h ⟨k⟩
def OP(h:AX Y X:=by intro Z;exact T8 Z.1):=h ⟨k⟩
def Ra(h:AX Y X:=by intro Z;exact Ae OO I Z.1):=h ⟨k⟩
def NN(h:AX Y X:=by intro Z;exact Ae (GS (l:=[_,_,_]) I) I Z.1):=h ⟨k⟩
def Nv(h:AX Y X:=by intro Z;exact D9 (NB I) I Z.1):=h ⟨k⟩
def Vp(h:AX Y X:=by intro Z;show Value.bool _=Value.bool _;exact Z.1):=h ⟨k⟩
def OR(h:AX Y X:=by intro Z;exact BH (H':=Ad sb m*(HP.AA b5 0 (EJ (⟨0,-1,0,0,⟨#[]⟩,[]⟩:B7))*(HP.AA b4 0 [.int .i64 0,.int .i64 0,.int .i64 0,.int .u64 0,.string ⟨#[]⟩,.slice none 0 0]*(HP.AA b3 0 (Bx q)*R)))) (by show _=Ad sb m*(HP.AA b5 0 [.int .i64 0,.int .i64 (-1),.int .i64 0,.int .u64 0,.string ⟨#[]⟩,.slice none 0 0]*(HP.AA b4 0 [.int .i64 0,.int .i64 0,.int .i64 0,.int .u64 0,.string ⟨#[]⟩,.slice none 0 0]*(HP.AA b3 0 (Bx q)*R)));ac_rfl) Z.1):=h ⟨k⟩
def P4(h:AX Y X:=by intro Z;exact OC I I I iT Z.1):=h ⟨k⟩
def QG(h:AX Y X:=by intro Z;exact OC I I I I Z.1):=h ⟨k⟩
def TE(h:AX Y X:=by intro Z;exact BH (HP.EM _ _ _) Z.1):=h ⟨k⟩
def Sz(h:AX Y X:=by intro Z;exact GU 20 C1 I I HG Fk Z.1):=h ⟨k⟩
def Sf(h:AX Y X:=by intro Z;exact A3 (H':=Ag sb m.x*(AC m.oa.b m.oa.o m.outs m.oa.s*(HP.AA (m.outs.getD j AB.AD).q 0 (Gq (m.outs.getD j AB.AD))*(AK (m.outs.getD j AB.AD).cq (m.outs.getD j AB.AD).ca (m.outs.getD j AB.AD).o.AG*(CI Bc m.outs j*(GB m sb*R)))))) (by rw[←Ie,K4 sb m R j hjl]) Z.1):=h ⟨k⟩
def SQ(h:AX Y X:=by intro Z;exact F9 (H':=Ao cb m*(HP.AA b4 0 [.nilIface,.int .i64 (0:Nat),uN 0,.string ⟨#[]⟩,.slice none 0 0]*(HP.AA b3 0 (Bx q)*(HP.AA bs 0 [(.func (.func 110) #[] #[])]*(HP.AA bc 0 [ptr cb 0]*R))))) C4 Z.1):=h ⟨k⟩
def Xt(h:AX Y X:=by intro Z;exact Bg (HP.AA b5 0 [iN z.a]*(HP.AA b2 0 [.slice z.p (aa z.rs) z.c]*(HP.AA b3 0 [.nilIface]*R))) Z.1):=h ⟨k⟩
def ZZ(h:AX Y X:=by intro Z;exact BH (H':=Ad sb m*(HP.AA b3 0 (AN r)*R)) C4 Z.1):=h ⟨k⟩
def oA(h:AX Y X:=by intro Z;exact mE I (pt rb p b o c xs (a+1) false _ hs AH hx C0) Z.1):=h ⟨k⟩
def WE(h:AX Y X:=by intro Z;exact BH (H':=Ao cb m*(HP.AA b3 0 [.nilIface,.int .i64 (0:Nat),uN 0,.string ⟨#[]⟩,.slice none 0 0]*(HP.AA b2 0 (Bx q)*(HP.AA bs 0 [(.func (.func 110) #[] #[])]*(HP.AA bc 0 [ptr cb 0]*R))))) C4 Z.1):=h ⟨k⟩
def fL(h:AX Y X:=by intro Z;exact Bg (AC b2 o2 (DH xs pre++[xs.getD (aa (DH xs pre)) 0 ^^^x]) s2*(HP.AA b7 0 [.slice q2 (aa (DH xs pre++[xs.getD (aa (DH xs pre)) 0 ^^^x])) c2]*(HP.AA b5 0 [.slice p (aa xs) c]*H)*R)) Z.1):=h ⟨k⟩
def jL(h:AX Y X:=by intro Z;show({z.c with ws:=z.filled.1,next:=z.c.next+1,Bp:=if E9 z.filled.2.A7=true then _ else _}:AO)=_;exact Z.1):=h ⟨k⟩
def xR(h:AX Y X:=by intro Z;exact A3 (H':=HP.AA b o (AE l++s)*(HP.fresh bv*(HP.AA bv 0 (AE [r])*R))) Pm Z.1):=h ⟨k⟩
def uE(h:AX Y X:=by intro Z;exact A3 (H':=AC a.b a.o z.l a.s*(HP.AA q 0 [.slice a.p (aa z.l) a.c,uN z.floor,iN z.AQ]*(HP.AA b8 0 [uN r.lo,uN r.hi]*(HP.AA b5 0 [uN hi]*(HP.AA b4 0 [uN (max lo z.floor)]*(HP.AA b3 0 [ptr q 0]*R)))))) (by rw[hr];first|(rw[AJ h37,AJ h37];ac_rfl)|(rw[AF h37,AF h37];unfold AK;ac_rfl)) Z.1):=h ⟨k⟩
def vA(h:AX Y X:=by intro Z;exact EI (HP.AA q 0 [.slice a.p (aa z.l) a.c,uN z.floor,iN z.AQ]*(HP.AA b8 0 [uN r.lo,uN r.hi]*(HP.AA b5 0 [uN hi]*(HP.AA b4 0 [uN (max lo z.floor)]*(HP.AA b3 0 [ptr q 0]*R))))) 12 13 EO I C1 Z.1):=h ⟨k⟩
def zM(h:AX Y X:=by intro Z;exact A3 (H':=HP.AA q 0 [.slice p70 (aa (z.l.take fr++r::z.l.drop to)) c70,uN z.floor,iN z.AQ]*(AC b70 o70 (z.l.take fr++r::z.l.drop to) s70*(HP.AA b8 0 [uN r.lo,uN r.hi]*(HP.AA b5 0 [uN hi]*(HP.AA b4 0 [uN (max lo z.floor)]*(HP.AA b3 0 [ptr q 0]*R)))))) C4 Z.1):=h ⟨k⟩
def d7(h:AX Y X:=by intro Z;exact A3 (H':=HP.AA cb (0+43+j*10) (DA wm)*(DK wm*(Ab cb m.x*(Dl cb m.ws j*(Hg m cb*R))))) YG Z.1):=h ⟨k⟩
def f6(h:AX Y X:=by intro Z;exact Bg (HP.AA cb (0+43+j*10) (DA w2)*(DK w2*R)) (hE:=by rw[hw2,eag];unfold DK;exact AH) Z.1):=h ⟨k⟩
def jT(h:AX Y X:=by intro Z;show _=AC b81 o81 (rm1.r.b.take (min ((AW rm1.r.read rm1.r.high rm1.r.AG.l).1-rm1.r.read) AQ.toNat)) s81*(Ab cb m.x*(HP.AA cb (0+83+j*9) [.slice p89 (aa (rm1.r.b.drop (min ((AW rm1.r.read rm1.r.high rm1.r.AG.l).1-rm1.r.read) AQ.toNat))) c89,ptr rm1.cq 0,uN rm1.r.high,uN rm1.r.end_,.bool rm1.r.ended,.bool rm1.r.given,uN rm1.r.code,uN (rm1.r.read+(min ((AW rm1.r.read rm1.r.high rm1.r.AG.l).1-rm1.r.read) AQ.toNat)),iN (if rm1.r.ended=true∧rm1.r.read+(min ((AW rm1.r.read rm1.r.high rm1.r.AG.l).1-rm1.r.read) AQ.toNat)=rm1.r.end_ then 1 else rm1.r.state)]*(AC b89 o89 (rm1.r.b.drop (min ((AW rm1.r.read rm1.r.high rm1.r.AG.l).1-rm1.r.read) AQ.toNat)) s89*AK rm1.cq rm1.ca rm1.r.AG*(Fx cb m.rs j*(GV m cb*R)))));exact Z.1):=h ⟨k⟩
def wF(h:AX Y X:=by intro Z;exact F9 (H':=AC b o xs s*(HP.AA b6 0 (AE [(4:UInt8)])*(HP.AA fb 0 (AN r)*R))) Cn Z.1):=h ⟨k⟩
def gA(h:AX Y X:=by intro Z;exact F9 (H':=AC b o xs s*(HP.AA b12 0 (AE [(bif r.f.fin then(9:UInt8)else 8)])*(HP.AA fb 0 (AN r)*R))) Cn Z.1):=h ⟨k⟩
def j7(h:AX Y X:=by intro Z;exact F9 (H':=AC b o xs s*(HP.AA b15 0 (AE [(2:UInt8)])*(HP.AA b5 0 [uN (rg r.f.ranges 0).lo,uN (rg r.f.ranges 0).hi]*(HP.AA fb 0 (AN r)*R)))) (by show HP.AA b15 0 (AE [(2:UInt8)])*_=_;ac_rfl) Z.1):=h ⟨k⟩
def yW(h:AX Y X:=by intro Z;exact BH (H':=HP.AA b3 0 (AN r)*(C*(GA bc f1 f2 f3 us1 us2 us3*(AC b o xs s*R)))) C4 Z.1):=h ⟨k⟩
def pZ(h:AX Y X:=by intro Z;exact mE I (rZ r b3 bc f1 f2 f3 us1 us2 us3 C _ hF hw I hm AH) Z.1):=h ⟨k⟩
def kF(h:AX Y X:=by intro Z;exact BH (H':=AC b o xs s*(HP.AA b3 0 (AN r)*(C*(GA bc f1 f2 f3 us1 us2 us3*R)))) C4 Z.1):=h ⟨k⟩
def xC(h:AX Y X:=by intro Z;exact mE I (t7 m.x.gq n.toNat 4611686018427387904 m.ga m.AR _ hm.g hi.AR (by have h7:=hi.AR.len;rw[hi.gm]at h7;have h8:aa m.AR.l≤8:=h7;omega)) Z.1):=h ⟨k⟩
def xX(h:AX Y X:=by intro Z;exact A3 (H':=Ab cb m2.x*(AK m2.x.gq m2.ga m2.AR*(BU cb m2.ws*(B2 cb m2.rs*(EW m2*(HP.AA b14 0 (AN (rs.getD i AB.AD))*(AC b45 o45 rs s45*(BM rs*(AC b28 o28 ys s28*(R)))))))))) (by first|rw[E1] |rfl) Z.1):=h ⟨k⟩
def kD(h:AX Y X:=by intro Z;exact F9 (H':=Bv db dm*(HP.AA cb (0+43+j*10) (DA wm)*(AC wm.a.b wm.a.o wm.w.b wm.a.s*(AK wm.sq wm.sa wm.w.AM*(AK wm.cq wm.ca wm.w.AG*(Dl cb ws j*R)))))) C4 Z.1):=h ⟨k⟩
def zX(h:AX Y X:=by intro Z;show _=HP.AA b13 0 (AN (D2 (CU j lo (wm.w.finished&&decide (hi2=aa wm.w.b)) (cut wm.w.b lo hi2))))*(HP.AA cb (0+43+j*10) [.slice wm.a.p (aa wm.w.b) wm.a.c,ptr wm.sq 0,ptr wm.cq 0,uN (max wm.w.high hi2),.bool wm.w.finished,.bool (wm.w.ending||(wm.w.finished&&decide (hi2=aa wm.w.b))),.bool wm.w.ended,.bool wm.w.given,uN wm.w.code,.bool wm.w.ES]*(AC wm.a.b wm.a.o wm.w.b wm.a.s*(AK wm.sq sa2 (if lo<hi2 then wm.w.AM.add lo (hi2-1)else wm.w.AM)*AK wm.cq wm.ca wm.w.AG)*Dl cb ws j)*(Bv db dm2*R));exact Z.1):=h ⟨k⟩
def bV(h:AX Y X:=by intro Z;exact F9 (H':=AC 0 0 ([]:List UInt8) []*(Bv b35 (⟨⟨[],m.x.AV-16⟩,Bw,[],Bw⟩:Em)*(Ao cb m*(EZ pk*(AC tb ob tf ts*R))))) Ci Z.1):=h ⟨k⟩
def pU(h:AX Y X:=by intro Z;exact BH (H':=HP.AA (m.outs.getD j AB.AD).q 0 (Gq (m.outs.getD j AB.AD))*(AK (m.outs.getD j AB.AD).cq (m.outs.getD j AB.AD).ca (m.outs.getD j AB.AD).o.AG*(Ag sb m.x*(AC m.oa.b m.oa.o m.outs m.oa.s*(CI Bc m.outs j*(GB m sb*R)))))) C4 Z.1):=h ⟨k⟩
def zQ(h:AX Y X:=by intro Z;exact mE I (rz (m.outs.getD j AB.AD) _ hom (λr hr=>by have:=hoo.co.hi r hr;omega)) Z.1):=h ⟨k⟩
def wg(h:AX Y X:=by intro Z;exact mE I (qy (rs.getD i AB.AD) q qb qo qc (Bk (fs.take i)) qs H (hmd _ hmem) (hall.2 i hlt) hrr hqs hqc C0) Z.1):=h ⟨k⟩
def sJ(h:AX Y X:=by intro Z;exact A3 (H':=AC b48 o48 rs s48*(BM rs*(AC b33 o33 ys s33*(Ag sb m2.x*(AK m2.x.gq m2.ga m2.AR*(AK m2.x.eq m2.ea m2.Az*(AC m2.da.b m2.da.o (m2.due.map BG.mk) m2.da.s*(m2.oa.h m2.outs*(AP Bc m2.outs*(m2.ia.h m2.ins*(AP BP m2.ins*(m2.sa.h m2.AM*(AP DB m2.AM*R))))))))))))) (by first|(rw[EK];unfold Am.h;ac_rfl)|rfl) Z.1):=h ⟨k⟩
def oZ(h:AX Y X:=by intro Z;exact A3 (H':=Ag sb m.x*(AC m.oa.b m.oa.o m.outs m.oa.s*(HP.AA (m.outs.getD j AB.AD).q 0 (Gq (m.outs.getD j AB.AD))*(AK (m.outs.getD j AB.AD).cq (m.outs.getD j AB.AD).ca (m.outs.getD j AB.AD).o.AG*(CI Bc m.outs j*(HP.AA b3 0 (AN r)*(GB m sb*R))))))) (by rw[K4 sb m R j hjl];ac_rfl) Z.1):=h ⟨k⟩
def sY(h:AX Y X:=by intro Z;exact EI (HP.AA b3 0 (Bx q)*(HP.AA bs 0 [(.func (.func 110) #[] #[])]*HP.AA bc 0 [ptr cb 0])) 5 7 EO I C1 Z.1):=h ⟨k⟩
def fN(h:AX Y X:=by intro Z;exact EI (HP.AA b3 0 (Bx q)*(HP.AA bs 0 [(.func (.func 110) #[] #[])]*HP.AA bc 0 [ptr cb 0])) 7 9 EO I C1 Z.1):=h ⟨k⟩
def FZ(h:AX Y X:=by intro Z;refine JR ?_;exact FF Z.1):=h ⟨k⟩
def fg(h:AX Y X:=by intro Z;refine G7 ?_;refine qQ ?_;exact G7 Z.1):=h ⟨k⟩
def JK(h:AX Y X:=by intro Z;refine Xv ?_;exact Aei Z.1):=h ⟨k⟩
def SW(h:AX Y X:=by intro Z;refine mA 11 12 ?_;refine Eh ?_;refine mA 13 14 ?_;refine BB ?_;refine Jm 6 ?_;refine A5 ?_;exact Jn 11 Z.1):=h ⟨k⟩
def Hh(h:AX Y X:=by intro Z;refine JR ?_;exact BT Z.1):=h ⟨k⟩
def Jj(h:AX Y X:=by intro Z;refine M4 ?_;exact Khg Z.1):=h ⟨k⟩
def GZ(h:AX Y X:=by intro Z;refine JR ?_;exact J1 Z.1):=h ⟨k⟩
def Ou(h:AX Y X:=by intro Z;refine Jd 0 ?_;refine Jd 1 ?_;refine Jf 2 ?_;exact Jd 3 Z.1):=h ⟨k⟩
def Hb(h:AX Y X:=by intro Z;refine JR ?_;exact J3 Z.1):=h ⟨k⟩
def QF(h:AX Y X:=by intro Z;refine JL XD ?_;refine J1 ?_;refine JL iL ?_;exact JL YV Z.1):=h ⟨k⟩
def bT(h:AX Y X:=by intro Z;refine EI (HP.AA fb 0 (AN r)*R) 19 21 EO I C1 ?_;refine BE ?_;refine Jm 4 ?_;refine A5 ?_;refine JT 8 I lI ?_;refine Jm 10 ?_;refine A5 ?_;refine Jm 15 ?_;exact A5 Z.1):=h ⟨k⟩
def Zx(h:AX Y X:=by intro Z;refine EI (HP.AA fb 0 (AN r)*R) 18 20 EO I C1 ?_;refine A4 ?_;refine Jm 3 ?_;refine A5 ?_;refine JT 7 I lI ?_;refine Jm 9 ?_;refine A5 ?_;refine Jm 14 ?_;exact A5 Z.1):=h ⟨k⟩
def Ry(h:AX Y X:=by intro Z;refine mE I (iw cb m.x.closed k _) ?_;refine JR ?_;refine J6 ?_;refine JL (Aeb I) ?_;exact J2 Z.1):=h ⟨k⟩
def I8(h:AX Y X:=by intro Z;refine J2 ?_;exact xt Z.1):=h ⟨k⟩
def SK(h:AX Y X:=by intro Z;refine J1 ?_;refine PZ ?_;refine J1 ?_;refine PZ ?_;refine J1 ?_;refine PZ ?_;refine J1 ?_;refine PZ ?_;refine J1 ?_;exact PZ Z.1):=h ⟨k⟩
def JJ(h:AX Y X:=by intro Z;refine JR ?_;exact J4 Z.1):=h ⟨k⟩
def cZ(h:AX Y X:=by intro Z;refine JL (Mv (b:=8317987319222330741) I I) ?_;refine J1 ?_;refine JL (Mv (b:=7237128888997146477) I I) ?_;refine J1 ?_;refine JL (Mv (b:=7816392313619706465) I I) ?_;refine J1 ?_;refine JL (Mv (b:=8387220255154660723) I I) ?_;refine JL (br I I C5) ?_;exact Ae (GS (l:=[_,_,_,_]) I) I Z.1):=h ⟨k⟩
def fK(h:AX Y X:=by intro Z;refine A3 (H':=AC b o (l.take i) (AE (l.drop i)++s)*R) lV ?_;refine mA 6 8 ?_;refine BE ?_;refine JT 2 I VQ ?_;refine BE ?_;exact JT 5 I (SI (k':=aa (l.drop j)) I I hj di) Z.1):=h ⟨k⟩
def jY(h:AX Y X:=by intro Z;refine D9 Jy I ?_;refine JK ?_;refine T8 ?_;refine H9 ?_;refine Mz (b:=true) I ?_;refine UQ ?_;refine Pk ?_;exact H9 Z.1):=h ⟨k⟩
def KW(h:AX Y X:=by intro Z;refine JR ?_;exact J5 Z.1):=h ⟨k⟩
def N0(h:AX Y X:=by intro Z;refine VU ?_;exact JR Z.1):=h ⟨k⟩
def bK(h:AX Y X:=by intro Z;refine EI (HP.AA b5 0 [uN (rg r.f.ranges 0).lo,uN (rg r.f.ranges 0).hi]*(HP.AA fb 0 (AN r)*R)) 19 21 EO I C1 ?_;refine A4 ?_;refine Jf 3 ?_;refine A4 ?_;refine Jm 6 ?_;refine DE ?_;refine Jf 14 ?_;refine Bn ?_;exact Au 1 C1 I I It Z.1):=h ⟨k⟩
def Kll(h:AX Y X:=by intro Z;refine J1 ?_;refine QG ?_;refine J1 ?_;refine QG ?_;refine J1 ?_;exact QG Z.1):=h ⟨k⟩
def Of(h:AX Y X:=by intro Z;refine FZ ?_;refine JD ?_;exact J2 Z.1):=h ⟨k⟩
def sS(h:AX Y X:=by intro Z;refine J3 ?_;refine mA 18 18 ?_;refine A5 ?_;refine JT 3 I gV ?_;refine Bn ?_;refine JT 8 I (Ji (i:=1) I I C0) ?_;exact A4 Z.1):=h ⟨k⟩
def M5(h:AX Y X:=by intro Z;refine La ?_;exact J2 Z.1):=h ⟨k⟩
def Kh(h:AX Y X:=by intro Z;refine J2 ?_;exact w4 Z.1):=h ⟨k⟩
def MQ(h:AX Y X:=by intro Z;refine fg ?_;exact qQ Z.1):=h ⟨k⟩
def UY(h:AX Y X:=by intro Z;refine J1 ?_;refine JL Gr ?_;exact J1 Z.1):=h ⟨k⟩
def fO(h:AX Y X:=by intro Z;refine EI (HP.AA b7 0 [uN (rg r.f.ranges (i+1)).lo,uN (rg r.f.ranges (i+1)).hi]*(HP.AA fb 0 (AN r)*R)) 21 21 EO I C1 ?_;refine DE ?_;refine JT 6 I ZD ?_;refine A4 ?_;refine JT 8 I rS ?_;refine Bn ?_;refine Jf 14 ?_;exact Bn Z.1):=h ⟨k⟩
def M6(h:AX Y X:=by intro Z;refine JR ?_;exact JL RD Z.1):=h ⟨k⟩
def Sh(h:AX Y X:=by intro Z;refine D9 HG I ?_;refine JK ?_;exact OP Z.1):=h ⟨k⟩
def Oj(h:AX Y X:=by intro Z;refine H9 ?_;exact JV C2 Z.1):=h ⟨k⟩
def RB(h:AX Y X:=by intro Z;refine mE I (Ab1 sb m.x.closed k _) ?_;refine JR ?_;exact CY Z.1):=h ⟨k⟩
def aR(h:AX Y X:=by intro Z;refine J3 ?_;refine Bl (Eu (v:=.int .i64 6) I I I trivial) ?_;refine JJ ?_;exact mE I (KB rb p b o c xs (a+1) false _ hs AH hx C0) Z.1):=h ⟨k⟩
def aD(h:AX Y X:=by intro Z;refine CY ?_;refine JT 17 I (Oe (k':=aa (cut wm.w.b lo hi2)) I I I iY hcl2) ?_;refine JT 18 I (KO (xs:=cut wm.w.b lo hi2) (b:=wm.a.b) (o:=wm.a.o+lo*1) I (by have:=hwm.1.1;exact F0 this (by omega) (by have:=this.2;omega) hcl2) (AZ.sub (xs:=wm.w.b) AH lo hi2 C0)) ?_;refine JT 19 I LS ?_;exact Au 20 C1 I I (GS (l:=AN (D2 ⟨0,0,0,0,false,⟨#[]⟩,[]⟩)) I) Z.1):=h ⟨k⟩
def bM(h:AX Y X:=by intro Z;refine J5 ?_;refine JL (JF I I (λw _=>o8 w)) ?_;refine J7 ?_;refine JL (JF I I (λw _=>dq w)) ?_;refine JL (H4 (i:=22) (j:=20) I I) ?_;exact J1 Z.1):=h ⟨k⟩
def MZ(h:AX Y X:=by intro Z;refine M4 ?_;exact Zq Z.1):=h ⟨k⟩
def M1(h:AX Y X:=by intro Z;refine Ir ?_;exact Jj Z.1):=h ⟨k⟩
def Lx(h:AX Y X:=by intro Z;refine JR ?_;exact J6 Z.1):=h ⟨k⟩
def dV(h:AX Y X:=by intro Z;refine J7 ?_;refine mA 18 18 ?_;refine A5 ?_;refine JT 3 I gV ?_;refine BB ?_;exact Au 9 C1 I I (Acw I) Z.1):=h ⟨k⟩
def mO(h:AX Y X:=by intro Z;refine J6 ?_;refine JL (CJ (i:=0) I I hs (show 0<(aa l) by omega)) ?_;refine JL (Fa (f:=0) (xs:=l) I AH I (show 0<(aa l) by omega)) ?_;exact BH (H':=Ad sb (m.DM {m.x with said:=true})*R) oD Z.1):=h ⟨k⟩
def rL(h:AX Y X:=by intro Z;refine mA 9 9 ?_;refine A5 ?_;refine JT 3 I Zh ?_;refine BE ?_;refine JT 6 I Yz ?_;exact JT 7 I Xr Z.1):=h ⟨k⟩
def aC(h:AX Y X:=by intro Z;refine mA 9 9 ?_;refine A5 ?_;refine JT 3 I XD ?_;refine BE ?_;refine JT 6 I (CJ (i:=j) I (congrArg (λz=>some (Value.int .i64 z)) hst) hm.oa.1 hjl) ?_;exact JT 7 I YV Z.1):=h ⟨k⟩
def eQ(h:AX Y X:=by intro Z;refine mE I (L? cb m k _ (Ak.Oz hi)) ?_;refine JR ?_;refine DL ?_;refine JL (Aeb I) ?_;exact J2 Z.1):=h ⟨k⟩
def NZ(h:AX Y X:=by intro Z;refine J2 ?_;exact Nf Z.1):=h ⟨k⟩
def Pe(h:AX Y X:=by intro Z;refine J2 ?_;exact Ae (EB (l:=AE ks++[u8 side]) I I) I Z.1):=h ⟨k⟩
def cM(h:AX Y X:=by intro Z;refine BQ ?_;refine JL (Vt (j:=192) I I ⟨C0,C0⟩) ?_;refine IU ?_;refine A4 ?_;exact Ga Z.1):=h ⟨k⟩
def fY(h:AX Y X:=by intro Z;refine J1 ?_;refine mA 11 12 ?_;refine BB ?_;refine JT 5 I (HQ (i:=0) I I hs70 C0 I) ?_;refine A4 ?_;exact JT 7 I (Ig (xs:=z.l.take fr++r::z.l.drop to) (i:=0) I AH C0) Z.1):=h ⟨k⟩
def rn(h:AX Y X:=by intro Z;refine mA 10 11 ?_;refine Bt ?_;refine JT 7 I MK ?_;refine BE ?_;exact Au 10 C1 I I (Bd I (Mr q34 _ x.hi (aa wm.w.b) _ _ _ hT f1 C0 C0 tM tM)) Z.1):=h ⟨k⟩
def eO(h:AX Y X:=by intro Z;refine mI func53 ?_;refine Mx ?_;refine Gu ?_;refine J3 ?_;exact BH (EK sb m R).symm Z.1):=h ⟨k⟩
def S0(h:AX Y X:=by intro Z;refine J2 ?_;refine JL (Eo (i:=r.f.kind) (j:=4) I I) ?_;exact J3 Z.1):=h ⟨k⟩
def mD(h:AX Y X:=by intro Z;refine J6 ?_;refine JL (HQ I I hs45 C0 I) ?_;refine JL TS ?_;exact Ae Qz I Z.1):=h ⟨k⟩
def Tg(h:AX Y X:=by intro Z;refine J2 ?_;refine JL o6 ?_;exact J3 Z.1):=h ⟨k⟩
def tX(h:AX Y X:=by intro Z;refine J7 ?_;refine JL tB ?_;refine J1 ?_;exact mE I (oy hks p b o c _ hs AH hx hop) Z.1):=h ⟨k⟩
def xB(h:AX Y X:=by intro Z;refine JR ?_;refine IU ?_;refine mE I (QT _ 32 C2 C2 _) ?_;refine JR ?_;exact CK Z.1):=h ⟨k⟩
def Wu(h:AX Y X:=by intro Z;refine mA 7 7 ?_;refine BB ?_;exact JT 5 I dQ Z.1):=h ⟨k⟩
def mY(h:AX Y X:=by intro Z;refine BT ?_;refine GO 21 C1 I (Ek I I Ca C5) ?_;refine FZ ?_;exact A4 Z.1):=h ⟨k⟩
def Wp(h:AX Y X:=by intro Z;refine mI func44 ?_;refine Be ?_;exact Ra Z.1):=h ⟨k⟩
def uS(h:AX Y X:=by intro Z;refine Jn 6 ?_;refine Au 5 C1 I I (Bd I (Qf _ 32 C2 _)) ?_;exact Hh Z.1):=h ⟨k⟩
def pP(h:AX Y X:=by intro Z;refine DE ?_;refine JL (Vt (j:=128) I I ⟨C0,C0⟩) ?_;refine Be ?_;exact Ga Z.1):=h ⟨k⟩
def XU(h:AX Y X:=by intro Z;refine mI func79 ?_;refine J9 ?_;exact M5 Z.1):=h ⟨k⟩
def cB(h:AX Y X:=by intro Z;refine DE ?_;refine JL (LO I (λw _=>my _ w)) ?_;refine J7 ?_;refine JL (JF I I (λw _=>wy w)) ?_;refine JL l7 ?_;exact J1 Z.1):=h ⟨k⟩
def tW(h:AX Y X:=by intro Z;refine DE ?_;refine JL (Vt (j:=64) I I ⟨C0,C0⟩) ?_;refine BE ?_;exact Ga Z.1):=h ⟨k⟩
def jR(h:AX Y X:=by intro Z;refine mI func194 ?_;refine Ei ?_;refine JL (ID (j:=64) I I) ?_;exact J3 Z.1):=h ⟨k⟩
def Wz(h:AX Y X:=by intro Z;refine BB ?_;refine JT 5 I N' ?_;exact A4 Z.1):=h ⟨k⟩
def qa(h:AX Y X:=by intro Z;refine BB ?_;refine A3 (H':=AC b70 o70 (z.l.take fr++r::z.l.drop to) s70*(HP.AA q 0 [.slice p70 (aa (z.l.take fr++r::z.l.drop to)) c70,uN ((rg (z.l.take fr++r::z.l.drop to) 0).hi+1),iN z.AQ]*(HP.AA b8 0 [uN r.lo,uN r.hi]*(HP.AA b5 0 [uN hi]*(HP.AA b4 0 [uN (max lo z.floor)]*(HP.AA b3 0 [ptr q 0]*R)))))) C4 ?_;refine EI (HP.AA q 0 [.slice p70 (aa (z.l.take fr++r::z.l.drop to)) c70,uN ((rg (z.l.take fr++r::z.l.drop to) 0).hi+1),iN z.AQ]*(HP.AA b8 0 [uN r.lo,uN r.hi]*(HP.AA b5 0 [uN hi]*(HP.AA b4 0 [uN (max lo z.floor)]*(HP.AA b3 0 [ptr q 0]*R))))) 8 9 EO I C1 ?_;refine BB ?_;exact Au 5 C1 I I (Bd I (th (z.l.take fr++r::z.l.drop to) 0 1 p70 b70 o70 c70 s70 (HP.AA q 0 [.slice p70 (aa (z.l.take fr++r::z.l.drop to)) c70,uN ((rg (z.l.take fr++r::z.l.drop to) 0).hi+1),iN z.AQ]*(HP.AA b8 0 [uN r.lo,uN r.hi]*(HP.AA b5 0 [uN hi]*(HP.AA b4 0 [uN (max lo z.floor)]*(HP.AA b3 0 [ptr q 0]*R))))) hs70 hc70 C0 C0 C0)) Z.1):=h ⟨k⟩
def TN(h:AX Y X:=by intro Z;refine Hh ?_;exact JT 10 I (Mv I I) Z.1):=h ⟨k⟩
end
end Go.Proofs.YtgfdlpcdjklcoaaGreatDoor
