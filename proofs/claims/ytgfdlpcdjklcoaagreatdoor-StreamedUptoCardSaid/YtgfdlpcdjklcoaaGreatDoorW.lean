/- A part of this proof: steps of the program, plain facts; no condition. -/
import Derived.Test.YtgfdlpcdjklcoaaGreatDoorP3
namespace Go.Proofs.YtgfdlpcdjklcoaaGreatDoor
open Go Go.RowKit
set_option linter.unusedVariables false
set_option linter.defProp false
abbrev A(Y X:Prop):Prop:=Ca Y→X
section
variable{X:Prop}
def T1(h:X:=by exact decide_eq_true hg1):X:=h
def F1(h:X:=by exact decide_eq_false hg1):X:=h
def T2(h:X:=by exact decide_eq_true hg2):X:=h
def F2(h:X:=by exact decide_eq_false hg2):X:=h
def T3(h:X:=by exact decide_eq_true hg3):X:=h
def F3(h:X:=by exact decide_eq_false hg3):X:=h
def T4(h:X:=by exact decide_eq_true hg4):X:=h
def F4(h:X:=by exact decide_eq_false hg4):X:=h
def T5(h:X:=by exact decide_eq_true hg5):X:=h
def F5(h:X:=by exact decide_eq_false hg5):X:=h
def T6(h:X:=by exact decide_eq_true hg6):X:=h
def F6(h:X:=by exact decide_eq_false hg6):X:=h
def T7(h:X:=by exact decide_eq_true hg7):X:=h
def F7(h:X:=by exact decide_eq_false hg7):X:=h
def T8(h:X:=by exact decide_eq_true hg8):X:=h
def F8(h:X:=by exact decide_eq_false hg8):X:=h
def Cg(h:X:=by omega):X:=h
def Ch(h:X:=by kernel_rfl):X:=h
def Ci(h:X:=by decide):X:=h
def Cj(h:X:=by first|trivial|omega):X:=h
def Ck(h:X:=by simp [Value.oneCell']):X:=h
def Cl(h:X:=by simp):X:=h
def Cm(h:X:=by ac_rfl):X:=h
def Cn(h:X:=by constructor<;>rfl):X:=h
def Co(h:X:=by unfold Dh;omega):X:=h
def Cp(h:X:=by have:=hs.2;omega):X:=h
def Cq(h:X:=by simp;omega):X:=h
def Cr(h:X:=by first|kernel_rfl|simp [Instr.fill,Value.cells]):X:=h
def Cs(h:X:=by simp only [List.length_singleton];omega):X:=h
def Ct(h:X:=by rw [HP.BA]):X:=h
def Cu(h:X:=by rw [ewr];rfl):X:=h
def Cv(h:X:=by congr 1;ac_rfl):X:=h
def Cw(h:X:=by unfold DO;ac_rfl):X:=h
def Cx(h:X:=by rw [FI,HP.BA]):X:=h
def Cy(h:X:=by rw [ewr]):X:=h
def Cz(h:X:=by first|omega|(simp;omega)):X:=h
def UN(h:X:=by show z.l.length-(i+1)<z.l.length-i;omega):X:=h
def HQ(h:X:=by simp [rec_]):X:=h
def I0(h:X:=by rw [HP.C8];rfl):X:=h
def IB(h:X:=by rw [List.foldl_append,List.foldl_cons,List.foldl_nil,kN];simp only [h43,h59,if_true,if_false];assumption):X:=h
def IN(h:X:=by rw [List.foldl_append,List.foldl_cons,List.foldl_nil,kN];simp only [h43,h59,if_true,if_false];ac_rfl):X:=h
def IP(h:X:=by simp [hg]):X:=h
def KD(h:X:=by simp only [List.length_append,List.length_cons,List.length_nil];omega):X:=h
def JX(h:X:=by rw [KE];(repeat' split)<;>first|rfl|(exfalso;omega)):X:=h
def Lq(h:X:=by show fs.length-(i+1)<fs.length-i;omega):X:=h
def KR(h:X:=by rw [hl];rfl):X:=h
def Zw(h:X:=by congr 1;rw [GN,HP.BA,HP.BA];ac_rfl):X:=h
def LY(h:X:=by rw [hl];exact⟨.inr rfl,Nat.le_refl _⟩):X:=h
def Lp(h:X:=by show l.length-(i+1)<l.length-i;omega):X:=h
def U6(h:X:=by rw [ewr];exact .inl ⟨rfl,rfl,rfl⟩):X:=h
def QH(h:X:=by rw [List.length_take];omega):X:=h
def Zy(h:X:=by rw [←h66];exact hA):X:=h
def Lj(h:X:=by rw [hl];omega):X:=h
def Td(h:X:=by rw [hw2]):X:=h
def QE(h:X:=by simp only [List.length_append,List.length_singleton];omega):X:=h
def rP(h:X:=by congr 1;rw [Mq cb ws j wm hjl];unfold B6;ac_rfl):X:=h
def MW(h:X:=by rw [hinv,show n13-z.2.1=0 by omega];exact wL):X:=h
def QW(h:X:=by rw [etk];rfl):X:=h
def Qa(h:X:=by rw [h];rfl):X:=h
def M0(h:X:=by simp [h2]):X:=h
def UZ(h:X:=by rw [efa]):X:=h
def xQ(h:X:=by show _=AS sb m*(HP.AA b5 0 [.int .i64 0,.int .i64 (-1),.int .i64 0,.int .u64 0,.string ⟨#[]⟩,.slice none 0 0]*(HP.AA b4 0 [.int .i64 0,.int .i64 0,.int .i64 0,.int .u64 0,.string ⟨#[]⟩,.slice none 0 0]*(HP.AA b3 0 (BU q)*R)));ac_rfl):X:=h
def az(h:X:=by rw [hc0];exact .cons rfl (.cons rfl (.cons rfl .nil))):X:=h
def OR(h:X:=by unfold FY;rw [h139];decide):X:=h
def OL(h:X:=by unfold FY;rw [h139];rfl):X:=h
def NW(h:X:=by have:=hm.size;omega):X:=h
def NS(h:X:=by rw [hl1];rfl):X:=h
def NP(h:X:=by simp [hs]):X:=h
def NO(h:X:=by simp [hq]):X:=h
def xH(h:X:=by rw [List.length_append,Ff hk];rfl):X:=h
def XY(h:X:=by rw [eop];exact⟨⟨_,rfl⟩,rfl⟩):X:=h
def gv(h:X:=by rw [hfill];exact⟨rfl,rfl,rfl⟩):X:=h
def Pu(h:X:=by show 0<100000000000;decide):X:=h
def PZ(h:X:=by show(0:Nat)<_;decide):X:=h
def Po(h:X:=by rw [Ff hk];rfl):X:=h
def O2(h:X:=by unfold B6;ac_rfl):X:=h
def TE(h:X:=by simp [B0];omega):X:=h
def UC(h:X:=by unfold AD;ac_rfl):X:=h
def xY(h:X:=by rw [K4]):X:=h
def P0(h:X:=by rw [hgv];simp):X:=h
def W6(h:X:=by rw [efa];rfl):X:=h
def Qh(h:X:=by rw [DJ]):X:=h
def Xv(h:X:=by cases h):X:=h
def vN(h:X:=by show Value.bool _=Value.bool _;congr 1;apply Bool.eq_iff_iff.2;simp only [decide_eq_true_eq,Bool.true_eq,Bool.false_eq_true,iff_true,iff_false,true_iff,false_iff,eq_self];omega):X:=h
def Sb(h:X:=by show HP.AA b75 0 _*_=_;rw [show AE [(rg z.l i)]=[uN (rg z.l i).lo,uN (rg z.l i).hi]from List.append_nil _];ac_rfl):X:=h
def zV(h:X:=by rw [decide_eq_decide];exact⟨fun h=>⟨hof,hcd,hg1,hg2,h,hF.kind⟩,fun h=>h.2.2.2.2.1⟩):X:=h
def TK(h:X:=by show(m.AJ.getD i AB.AC).fs.length-(k+1)<(m.AJ.getD i AB.AC).fs.length-k;omega):X:=h
def Sd(h:X:=by unfold B5;simp only [Nat.reduceEqDiff,if_false,if_true,e8,e10,e12]):X:=h
def SS(h:X:=by simp only [B5,Nat.reduceEqDiff,if_false,if_true,e1,e2,e3]):X:=h
def Tu(h:X:=by show z.l.length-(z'.2+1)<z.l.length-z'.2;omega):X:=h
def Tx(h:X:=by show r.f.data.size-(i+1)<r.f.data.size-i;omega):X:=h
def tB(h:X:=by show m.AJ.length-(i+1)<m.AJ.length-i;omega):X:=h
def S'(h:X:=by show m.due.length-(i+1)<m.due.length-i;omega):X:=h
def RJ(h:X:=by show l.length-(z.j+1)<l.length-z.j;omega):X:=h
def py(h:X:=by rw [EI,if_neg h5,if_pos (by omega)];rfl):X:=h
def ZQ(h:X:=by congr 1;rw [Nb cb m R j hjl,hrm];ac_rfl):X:=h
def R4(h:X:=by unfold DH;rw [List.length_map];exact h19):X:=h
def bP(h:X:=by have h7:=hok.ma.1;rw [hml]at h7;exact h7):X:=h
def Yz(h:X:=by congr 1;rw [J0 sb m R j hjl];ac_rfl):X:=h
def cS(h:X:=by rw [List.length_append,Ff hks];rfl):X:=h
def gA(h:X:=by congr 1;rw [Jj];unfold FW;ac_rfl):X:=h
def Vh(h:X:=by rw [K8 cb m.ws j hjl,hwx];ac_rfl):X:=h
def E!(h:X:=by rw [←Gu,J0 sb m R j hjl]):X:=h
def Q6(h:X:=by simp only [List.append_assoc];rfl):X:=h
def Zp(h:X:=by rw [List.length_map];exact h80):X:=h
def SU(h:X:=by rw [Jj];unfold FW;ac_rfl):X:=h
def SO(h:X:=by show(0:Int)≤(k:Int);omega):X:=h
def Rn(h:X:=by rw [List.length_drop];omega):X:=h
def vH(h:X:=by rw [mx,←hw1e,he2]):X:=h
def Tz(h:X:=by show(3:Int)≤5;decide):X:=h
def TW(h:X:=by rw [W2];omega):X:=h
def Sq(h:X:=by show(k:Int)<4;omega):X:=h
def Rc(h:X:=by rw [Hw];omega):X:=h
def Th(h:X:=by rw [hw.len];exact hk):X:=h
def RN(h:X:=by simp [Region.wanted]):X:=h
def wy(h:X:=by rw [hdsz];exact h116):X:=h
def lm(h:X:=by rw [←sI h80]):X:=h
def Si(h:X:=by have:=hm.len;omega):X:=h
def Rl(h:X:=by simpa using hg):X:=h
def RW(h:X:=by simpa using h):X:=h
def eR(h:X:=by rw [f3];omega):X:=h
def pU(h:X:=by rw [l0 hP]):X:=h
def PE(h:X:=by rw [h66];rfl):X:=h
def SX(h:X:=by rw [hem];rfl):X:=h
def So(h:X:=by simp [B0]):X:=h
def UU(h:X:=by rw [em];rfl):X:=h
def TO(h:X:=by rw [e];rfl):X:=h
def RK(h:X:=by simp [hx]):X:=h
def uZ(h:X:=by congr 1;show AS sb m2*(HP.AA b5 0 (CB (⟨0,-1,0,0,⟨#[]⟩,[]⟩:Bd))*(HP.AA b4 0 [.int .i64 0,.int .i64 0,.int .i64 0,.int .u64 0,.string ⟨#[]⟩,.slice none 0 0]*(HP.AA b3 0 (BU q)*R)))=(HP.AA b5 0 (CB (⟨0,-1,0,0,⟨#[]⟩,[]⟩:Bd))*(HP.AA b4 0 [.int .i64 0,.int .i64 0,.int .i64 0,.int .u64 0,.string ⟨#[]⟩,.slice none 0 0]*(HP.AA b3 0 (BU q)*(AS sb m2*R))));ac_rfl):X:=h
def nX(h:X:=by congr 1;rw [Oj sb m R j hjl];first|done|(unfold Ae.h;ac_rfl)):X:=h
def VK(h:X:=by show r.f.ranges.length-1-(i+1)<r.f.ranges.length-1-i;omega):X:=h
def qJ(h:X:=by show H=AD 0 0 ([]:List UInt8) []*H;rw [FI,HP.BA]):X:=h
def qi(h:X:=by congr 1;rw [Oj sb m R j hjl];unfold Ae.h;ac_rfl):X:=h
def Xc(h:X:=by simp only [B5,Nat.reduceEqDiff,if_false,if_true,e1]):X:=h
def Un(h:X:=by rw [List.length_append,h1,h2,e31];have:=hs.2;omega):X:=h
def XO(h:X:=by rw [FI,Qj,HP.BA,HP.BA]):X:=h
def X2(h:X:=by congr 1;rw [Q4 cb m R j hjl];ac_rfl):X:=h
def Uz(h:X:=by simp only [KP,List.length_set];omega):X:=h
def vB(h:X:=by rw [efa];exact congrArg Value.bool ebb):X:=h
def Wn(h:X:=by simp only [List.length_append,hl1];rfl):X:=h
def WR(h:X:=by simp only [Bu,List.append_nil]):X:=h
def YG(h:X:=by unfold Ac Di Ae.h;ac_rfl):X:=h
def X3(h:X:=by rw [List.length_append];rfl):X:=h
def VI(h:X:=by rw [Ah.S8,ewr,hrd2]):X:=h
def H!(h:X:=by congr 1;rw [DJ];ac_rfl):X:=h
def Vr(h:X:=by rw [Hw];exact h20):X:=h
def Vd(h:X:=by rw [ewr,Ad.jY,ho2]):X:=h
def Xp(h:X:=by rw [List.length_map];rfl):X:=h
def dH(h:X:=by rw [VG b o i l s]):X:=h
def Q?(h:X:=by rw [KL];omega):X:=h
def WZ(h:X:=by show(0:Int)<_;decide):X:=h
def rE(h:X:=by rw [List.length_drop]):X:=h
def eO(h:X:=by have:=hwm.1.1.2;omega):X:=h
def qx(h:X:=by rw [←hs2,han];rfl):X:=h
def Vs(h:X:=by unfold GM;ac_rfl):X:=h
def uE(h:X:=by have:=this.2;omega):X:=h
def Wm(h:X:=by show j+1≤_;omega):X:=h
def XE(h:X:=by show a+1≤_;omega):X:=h
def cN(h:X:=by rw [DJ]<;>rfl):X:=h
def Vi(h:X:=by have:=hqs.2;omega):X:=h
def ZT(h:X:=by congr 1<;>ac_rfl):X:=h
def sZ(h:X:=by rw [hml];exact hi):X:=h
def V5(h:X:=by rw [h.gm];omega):X:=h
def Ws(h:X:=by rw [hw2]<;>rfl):X:=h
def VZ(h:X:=by simpa using ht):X:=h
def W3(h:X:=by rw [hnone];rfl):X:=h
def fV(h:X:=by show _=rr rb p c xs _ _*(HP.AA b4 0 (AI (⟨⟨5,(n60:Nat),n63,0,decide ((xs.getD a 0).toNat=9),d66,[]⟩,none,0,0,0,[]⟩:RF))*(Dn (⟨⟨5,(n60:Nat),n63,0,decide ((xs.getD a 0).toNat=9),d66,[]⟩,none,0,0,0,[]⟩:RF)*(HP.AA b2 0 [.int .i64 0,.int .i64 0,.int .u64 0,.int .u64 0,.bool false,.string ⟨#[]⟩,.slice none 0 0]*R)));rw [(Ei (r:=(⟨⟨5,(n60:Nat),n63,0,decide ((xs.getD a 0).toNat=9),d66,[]⟩,none,0,0,0,[]⟩:RF)) rfl rfl rfl).2.2,HP.BA]):X:=h
def yW(h:X:=by congr 1;rw [List.map_append];show _=HP.AA b148 0 (AE [Ay.mk (m.due.getD i 0)])*(AD b149 o149 (lf.map Ay.mk++[Ay.mk (m.due.getD i 0)]) s149*(HP.AA b3 0 (AI r)*(Ab sb m.x*(AH m.x.gq m.ga m.AO*(AH m.x.eq m.ea m.Ao*(AD m.da.b m.da.o (m.due.map Ay.mk) m.da.s*(m.oa.h m.outs*(AM BJ m.outs*(m.ia.h m.ins*(AM BC m.ins*(m.sa.h m.AJ*(AM B3 m.AJ*R))))))))))));ac_rfl):X:=h
def lL(h:X:=by have:=(show Sl (m.ins.getD j AB.AC).a.p (m.ins.getD j AB.AC).a.b (m.ins.getD j AB.AC).a.o (m.ins.getD j AB.AC).x.data.length (m.ins.getD j AB.AC).a.c from hxm.1.1).2;omega):X:=h
def tT(h:X:=by rw [sA h15,List.foldl_append,←hA.e];show _=Gl l _ _;unfold Gl;rw [if_neg (by show ¬A8 l (m.AJ.getD i AB.AC).number=true;rw [h57];simp)]):X:=h
def aQ(h:X:=by have h7:=aG r.f.data.data.toList r.f.offset d1 t1 i (by rw [hdsz];exact h116);rw [if_neg h131]at h7;exact h7.symm.trans hpu):X:=h
def Y4(h:X:=by have h7:=aG r.f.data.data.toList r.f.offset d1 t1 i (by rw [hdsz];exact h116);rw [if_pos h131]at h7;exact h7.symm.trans hpu):X:=h
def nP(h:X:=by rw [hrm2];unfold D4.ok;dsimp only;rw [hdo];exact⟨⟨by rw [z6];exact ha1.1,by rw [z6];exact ha1.2⟩,z9⟩):X:=h
def sX(h:X:=by rw [hti,List.length_append,CD,List.length_drop];show i*2+((l.length-i)*2+s.length)=c*2;omega):X:=h
def gR(h:X:=by rw [List.length_append,List.length_singleton]at hc⊢;rw [LE xs pre (by omega)]at hc;omega):X:=h
def gO(h:X:=by simp only [Bu,List.append_nil];exact .cons rfl (.cons rfl (.cons rfl (.cons rfl (.cons rfl .nil))))):X:=h
def zH(h:X:=by rw [hr];first|(rw [if_pos h37,if_pos h37];ac_rfl)|(rw [if_neg h37,if_neg h37];unfold AH;ac_rfl)):X:=h
def dQ(h:X:=by rw [hjn,List.drop_length,List.length_append,hti];simp only [List.length_singleton];have:=hs.2;omega):X:=h
def sL(h:X:=by show _=G (l.take (z.j+1))*(AD b o (z.L.set z.i (z.L.getD z.j AB.AC)) s*R);rw [ets];ac_rfl):X:=h
def Ye(h:X:=by intro v hv;rcases List.mem_append.1 hv with h|h;exact Lw _ v h;simp at h;subst h;rfl):X:=h
def aL(h:X:=by rw [show Bj ks (UInt8.ofNat sd) xs=none from if_pos (by omega)];exact⟨rfl,rfl⟩):X:=h
def aE(h:X:=by unfold AK.close;rw [if_neg (show ¬m.s.closed≠0 from h9),if_neg h11];rfl):X:=h
def dE(h:X:=by rw [show Bj ks side xs=none from if_pos (by omega)];exact⟨rfl,rfl⟩):X:=h
def bU(h:X:=by rw [DZ,if_neg (fun h=>h0 (by rw [h];rfl))];exact(N_ _).symm):X:=h
def vZ(h:X:=by have:=hwm.1.1;exact Er this (by omega) (by have:=this.2;omega) hcl2):X:=h
def bJ(h:X:=by rw [hsp];exact⟨by rw [KL],by rw [KL];omega⟩):X:=h
def ZA(h:X:=by unfold B5;simp only [Nat.reduceEqDiff,if_false,if_true,e8,e10]):X:=h
def xo(h:X:=by show ¬A8 l (m.AJ.getD i AB.AC).number=true;rw [h57];simp):X:=h
def eS(h:X:=by rw [List.length_map];simp only [List.length_singleton];omega):X:=h
def mX(h:X:=by unfold B5;simp only [Nat.reduceEqDiff,if_false,if_true,e8]):X:=h
def pA(h:X:=by unfold B5;simp only [Nat.reduceEqDiff,if_false,if_true,e9]):X:=h
def ld(h:X:=by first|rw [if_pos hc,←e];rfl|rw [if_neg hc,←e];rfl):X:=h
def eJ(h:X:=by show(d1.set _ _).length=_;rw [List.length_set];exact hd1):X:=h
def nC(h:X:=by show(t1.set _ _).length=_;rw [List.length_set];exact ht1):X:=h
def jC(h:X:=by rw [wV,Rh,Qj,HP.Gb];ac_rfl):X:=h
def iD(h:X:=by have hp:=hall (i-1) (by omega);unfold Em at hp;omega):X:=h
def iY(h:X:=by rw [List.length_append,Ff hk];exact⟨rfl,rfl⟩):X:=h
def aX(h:X:=by rw [List.length_append,W2,iO];omega):X:=h
def pE(h:X:=by show _=G (l.take (z.j+1))*(AD b o z.L s*R);rw [ets]):X:=h
def qK(h:X:=by rw [CD,List.length_take,Nat.min_eq_left h]):X:=h
def iI(h:X:=by rcases hk with⟨rfl,_⟩|⟨rfl,_⟩<;>decide):X:=h
def pH(h:X:=by show fm.fs.length-(i+1)<fm.fs.length-i;omega):X:=h
def bO(h:X:=by show(w.ps.set i _).length=_;rw [List.length_set]):X:=h
def pR(h:X:=by rw [List.length_append,hti,hdj];have:=hs.2;omega):X:=h
def tO(h:X:=by show HP.AA b15 0 (AE [(2:UInt8)])*_=_;ac_rfl):X:=h
def kr(h:X:=by rw [hinv];exact nh hm e40 e42 (by omega)):X:=h
def dw(h:X:=by first|(rw [DJ];unfold Ae.h;ac_rfl)|rfl):X:=h
def Yv(h:X:=by rw [hinv,FF];rw [AR,if_neg h22,if_neg h26]):X:=h
def Yg(h:X:=by show _=HP.AA b5 0 _*(HP.AA b6 0 _*_);ac_rfl):X:=h
def jU(h:X:=by rw [Oj sb m R j hjl];unfold Ae.h;ac_rfl):X:=h
def mg(h:X:=by subst he;rw [List.take_append_drop];exact hs):X:=h
def zC(h:X:=by subst he;rw [List.take_append_drop];exact hc):X:=h
def aS(h:X:=by rw [EI,if_neg h5,if_neg (by omega)];rfl):X:=h
def cT(h:X:=by rw [hfe2];exact⟨rfl,by rw [hw2],hde2⟩):X:=h
def oI(h:X:=by rw [Hr h29];exact List.getElem_mem h29):X:=h
def aN(h:X:=by show(BI _).size<_;rw [K4];omega):X:=h
def YU(h:X:=by rw [←VG b o i l s];infer_instance):X:=h
def Ya(h:X:=by rw [←ur hc0 hc1 hc2 hn,HP.C8]):X:=h
def qO(h:X:=by have:=g.Jg h2;rw [hg]at this;cases this):X:=h
def cA(h:X:=by have h7:=hok.xa.1;rw [hxl]at h7;exact h7):X:=h
def mZ(h:X:=by have:=(xs.getD (a+i+1) 0).toNat_lt;omega):X:=h
def Zi(h:X:=by rw [FF];exact List.mem_cons_of_mem _ hf):X:=h
def dB(h:X:=by rw [List.length_map];exact Nat.le_refl _):X:=h
def dU(h:X:=by show j-((i+j)/2^1+1)<j-i;omega):X:=h
def uP(h:X:=by subst he;rw [List.take_append_drop];rfl):X:=h
def hB(h:X:=by show Ak (t+1) m2.s;rw [hs2];exact hci):X:=h
def rZ(h:X:=by rw [←wU hc0 hc1 hc2,HP.C8]):X:=h
def uA(h:X:=by congr 1;rw [←hres,HP.BA];ac_rfl):X:=h
def qT(h:X:=by rw [KL];exact Nat.le_refl _):X:=h
def YW(h:X:=by rw [List.length_append,hm,hbl];omega):X:=h
def bZ(h:X:=by rw [hsn];dsimp only [It.at];ac_rfl):X:=h
def jI(h:X:=by show(i+j)/2^1-i<j-i;omega):X:=h
def X?(h:X:=by subst he;rw [List.take_append_drop]):X:=h
def Z0(h:X:=by have:=B8 d.size;simp;omega):X:=h
def dV(h:X:=by rw [hfill];exact⟨rfl,rfl,hde3⟩):X:=h
def aB(h:X:=by show [ptr y.q 0]=[ptr _ 0];rw [hy]):X:=h
def fX(h:X:=by rw [hjn,List.drop_length];simp;rfl):X:=h
def pM(h:X:=by rw [hinv,FF];rw [AR,if_pos h22]):X:=h
def lW(h:X:=by rw [←ng hc0 hc1,HP.C8]):X:=h
def Zx(h:X:=by show(told.take n).length<_;omega):X:=h
def uB(h:X:=by unfold B1;exact if_neg (by omega)):X:=h
def tE(h:X:=by simp only [List.headD_cons];omega):X:=h
def ZF(h:X:=by unfold B1;rw [if_neg (by omega)]):X:=h
def lC(h:X:=by rw [Array.length_toList];exact hd):X:=h
def vP(h:X:=by unfold OH;rw [if_pos h1]<;>rfl):X:=h
def oU(h:X:=by rw [List.length_set];exact h.len):X:=h
def Zm(h:X:=by rw [hl6];exact RV hs (by omega)):X:=h
def r9(h:X:=by rw [J0 sb m R j hjl];ac_rfl):X:=h
def Za(h:X:=by show(i+j)/2^1+1≤j;omega):X:=h
def rD(h:X:=by rw [VG b o i l s];ac_rfl):X:=h
def mH(h:X:=by rw [hz1];exact⟨hs99,hc99⟩):X:=h
def qI(h:X:=by rw [hz1];exact⟨hs70,hc70⟩):X:=h
def Y7(h:X:=by rw [←p8 hc0,HP.C8]):X:=h
def sH(h:X:=by rw [List.length_map];exact hzs):X:=h
def eQ(h:X:=by rw [List.length_map];exact hzc):X:=h
def aC(h:X:=by rw [List.length_append];omega):X:=h
def qL(h:X:=by rw [hbad];exact⟨rfl,rfl⟩):X:=h
def kF(h:X:=by rw [PU];exact q6.step _):X:=h
def lV(h:X:=by show i≤(i+j)/2^1;omega):X:=h
def sK(h:X:=by show(i+j)/2^1≤n;omega):X:=h
def qX(h:X:=by rw [List.length_map];exact h):X:=h
def fB(h:X:=by rw [h3];rw [h3]at h5;omega):X:=h
def lP(h:X:=by rw [←gk (by omega)];rfl):X:=h
def Zv(h:X:=by rw [t6 l hl];exact h41):X:=h
def gX(h:X:=by rw [uS l hl];exact h41):X:=h
def Tg(h:X:=by exact .cons rfl (.nil)):X:=h
def La(h:X:=by exact .cons rfl (.cons rfl (.nil))):X:=h
def CN(h:X:=by exact .cons rfl (.cons rfl (.cons rfl (.nil)))):X:=h
def BR(h:X:=by exact .cons rfl (.cons rfl (.cons rfl (.cons rfl (.nil))))):X:=h
def Ix(h:X:=by exact .cons rfl .nil):X:=h
def FX(h:X:=by exact .cons rfl (.cons rfl .nil)):X:=h
def D7(h:X:=by exact Fo rfl trivial):X:=h
def CS(h:X:=by exact .cons rfl (.cons rfl (.cons rfl .nil))):X:=h
def MX(h:X:=by exact FK (v:=.int .i64 (0:Nat)) rfl):X:=h
def A4(h:X:=by exact UP rfl):X:=h
def A7(h:X:=by exact Ww rfl):X:=h
def B4(h:X:=by exact .cons rfl (.cons rfl (.cons rfl (.cons rfl .nil)))):X:=h
def D'(h:X:=by exact .cons rfl (.cons rfl (.cons rfl (.cons rfl (.cons rfl (.nil)))))):X:=h
def OQ(h:X:=by exact Kb (j:=1) rfl rfl Cg):X:=h
def Bb(h:X:=by exact Fo rfl Cj):X:=h
def Bc(h:X:=by exact⟨.inr rfl,Nat.le_refl _⟩):X:=h
def Bg(h:X:=by exact⟨_,rfl⟩):X:=h
def CO(h:X:=by exact⟨rfl,rfl⟩):X:=h
def G9(h:X:=by exact .cons rfl (.cons rfl (.cons rfl (.cons rfl (.cons rfl (.cons rfl (.nil))))))):X:=h
def CP(h:X:=by exact X' rfl):X:=h
def LU(h:X:=by exact kT rfl):X:=h
def YP(h:X:=by exact FK (v:=.int .u64 (0:Nat)) rfl):X:=h
def Fm(h:X:=by exact EG rfl rfl rfl Cj):X:=h
def DG(h:X:=by exact⟨.inl rfl,Nat.le_refl _⟩):X:=h
def C9(h:X:=by exact Nat.zero_le _):X:=h
def K5(h:X:=by exact GS rfl rfl Cn Ck):X:=h
def I3(h:X:=by exact qf rfl rfl Ck rfl rfl rfl):X:=h
def De(h:X:=by exact Nat.le_succ t):X:=h
def HU(h:X:=by exact I' rfl rfl):X:=h
def EO(h:X:=by exact .inl Ci):X:=h
def Dm(h:X:=by exact pC rfl):X:=h
def EM(h:X:=by exact Gt rfl (HK Cg)):X:=h
def GE(h:X:=by exact .cons rfl (.cons rfl (.cons rfl (.cons rfl (.cons rfl .nil))))):X:=h
def L8(h:X:=by exact Fs hg1 rfl rfl):X:=h
def Jl(h:X:=by exact Fe F1 rfl rfl):X:=h
def Ju(h:X:=by exact Fe hg1 rfl rfl):X:=h
def F?(h:X:=by exact TF rfl):X:=h
def FQ(h:X:=by exact Fe F2 rfl rfl):X:=h
def D3(h:X:=by exact Nat.le_refl _):X:=h
def Fl(h:X:=by exact FK rfl):X:=h
def LC(h:X:=by exact Fs T1 rfl rfl):X:=h
def FR(h:X:=by exact Fs T2 rfl rfl):X:=h
def Ez(h:X:=by exact LT rfl rfl Cg):X:=h
def Gk(h:X:=by exact bD rfl rfl):X:=h
def Hb(h:X:=by exact .cons rfl (.cons rfl (.cons rfl (.cons rfl (.cons rfl (.cons rfl (.cons rfl (.nil)))))))):X:=h
def iu(h:X:=by exact decide_eq_true rfl):X:=h
def GU(h:X:=by exact Fe rfl rfl rfl):X:=h
def Xa(h:X:=by exact UP (v:=.int .i64 (0:Nat)) rfl):X:=h
def E8(h:X:=by exact TJ (i:=0) (q:=0) rfl rfl Cg rfl):X:=h
def HG(h:X:=by exact TJ (i:=2) (q:=2) rfl rfl Cg rfl):X:=h
def Fy(h:X:=by exact TJ (i:=3) (q:=3) rfl rfl Cg rfl):X:=h
def PO(h:X:=by exact Fs rfl rfl rfl):X:=h
def Ep(h:X:=by exact⟨rfl,h⟩):X:=h
def HS(h:X:=by exact TJ (i:=1) (q:=1) rfl rfl Cg rfl):X:=h
def He(h:X:=by exact M7 rfl rfl):X:=h
def vT(h:X:=by exact Lu (r:=.bool false) rfl rfl (fun w=>by kernel_rfl) (fun w=>by kernel_rfl)):X:=h
def IG(h:X:=by exact V9 rfl):X:=h
def nb(h:X:=by exact GP (j:=0) rfl rfl):X:=h
def GI(h:X:=by exact Ex (d:=AB.AC) hjl):X:=h
def ib(h:X:=by exact congrArg (fun z=>some (Value.int .i64 z)) hst):X:=h
def IU(h:X:=by exact KM rfl rfl Cg):X:=h
def Ge(h:X:=by exact Xi rfl rfl):X:=h
def H7(h:X:=by exact E7 rfl rfl rfl Ck):X:=h
def Gs(h:X:=by exact rk rfl rfl):X:=h
def aH(h:X:=by exact .cons rfl (.cons rfl (.cons rfl (.cons rfl (.cons rfl (.cons rfl .nil)))))):X:=h
def xS(h:X:=by exact DP (l:=[_]) rfl rfl):X:=h
def cI(h:X:=by exact DP (l:=AI r) rfl rfl):X:=h
def wC(h:X:=by exact DP (l:=AE ks) rfl rfl):X:=h
def MO(h:X:=by exact CV rfl rfl):X:=h
def O5(h:X:=by exact GX (l:=[_,_]) rfl):X:=h
def IV(h:X:=by exact Fe hg3 rfl rfl):X:=h
def K_(h:X:=by exact EG (v:=.bool true) rfl rfl rfl trivial):X:=h
def NX(h:X:=by exact .cons rfl (.cons rfl (.cons rfl (.cons rfl (.cons rfl (.cons rfl (.cons rfl .nil))))))):X:=h
def Ob(h:X:=by exact GX (l:=[_]) rfl):X:=h
def Il(h:X:=by exact⟨fun ww hw=>hw⟩):X:=h
def IW(h:X:=by exact M2 Ch rfl):X:=h
def IE(h:X:=by exact Fe F4 rfl rfl):X:=h
def IK(h:X:=by exact⟨congrArg Value.bool (decide_eq_false (fun h=>by have:=h.1;have:=h.2.1;have:=h.2.2.1;have:=h.2.2.2.1;omega)).symm,rfl⟩):X:=h
def IM(h:X:=by exact⟨congrArg Value.bool (decide_eq_false (fun h=>by have h1:=(h.2.2.2.2.1.1 hk3).2 i hlt;unfold Em at h1;omega)).symm,rfl⟩):X:=h
def IH(h:X:=by exact⟨congrArg Value.bool (decide_eq_decide.2 ⟨fun h=>⟨Cg,Cg,Cg,Cg,⟨fun _=>⟨List.length_pos_iff.1 h,hdone⟩,fun h5=>by omega⟩,Co⟩,fun h=>List.length_pos_iff.2 (h.2.2.2.2.1.1 hk3).1⟩),rfl⟩):X:=h
def xb(h:X:=by exact decide_eq_decide.2 ⟨fun h=>⟨Cg,Cg,Cg,Cg,⟨fun _=>⟨List.length_pos_iff.1 h,hdone⟩,fun h5=>by omega⟩,Co⟩,fun h=>List.length_pos_iff.2 (h.2.2.2.2.1.1 hk3).1⟩):X:=h
def IZ(h:X:=by exact⟨congrArg Value.bool (decide_eq_decide.2 ⟨fun h=>⟨Cg,Cg,Cg,Cg,⟨fun h3=>by omega,fun _=>by omega⟩,Co⟩,fun h=>by have:=h.2.2.2.2.1.2 hk5;omega⟩),rfl⟩):X:=h
def xi(h:X:=by exact decide_eq_decide.2 ⟨fun h=>⟨Cg,Cg,Cg,Cg,⟨fun h3=>by omega,fun _=>by omega⟩,Co⟩,fun h=>by have:=h.2.2.2.2.1.2 hk5;omega⟩):X:=h
def If(h:X:=by exact⟨congrArg Value.bool (decide_eq_decide.2 ⟨fun h=>⟨Cg,Cg,Cg,Cg,⟨fun h3=>by omega,fun h5=>by omega⟩,Co⟩,fun h=>by have:=h.2.2.2.2.2;unfold Dh at this;omega⟩),rfl⟩):X:=h
def wx(h:X:=by exact decide_eq_decide.2 ⟨fun h=>⟨Cg,Cg,Cg,Cg,⟨fun h3=>by omega,fun h5=>by omega⟩,Co⟩,fun h=>by have:=h.2.2.2.2.2;unfold Dh at this;omega⟩):X:=h
def IL(h:X:=by exact⟨congrArg Value.bool (decide_eq_false (fun h=>by have:=h.2.2.2.2.2;unfold Dh at this;omega)).symm,rfl⟩):X:=h
def LR(h:X:=by exact F! rfl rfl):X:=h
def I2(h:X:=by exact Gt rfl (Q8 Cg)):X:=h
def Je(h:X:=by exact Kt rfl rfl Cg):X:=h
def Jz(h:X:=by exact Fs hg3 rfl rfl):X:=h
def Io(h:X:=by exact Fs T4 rfl rfl):X:=h
def qS(h:X:=by exact CV (j:=0) rfl rfl):X:=h
def MI(h:X:=by exact GH rfl rfl):X:=h
def ND(h:X:=by exact FK (v:=.int .i64 (1:Nat)) rfl):X:=h
def WS(h:X:=by exact tX rfl):X:=h
def Ko(h:X:=by exact⟨rfl,rfl,id⟩):X:=h
def LV(h:X:=by exact FT rfl rfl hsl Cg rfl):X:=h
def MD(h:X:=by exact L9 rfl rfl):X:=h
def Kq(h:X:=by exact Ia rfl rfl Cg):X:=h
def Kd(h:X:=by exact Kb rfl rfl Cg):X:=h
def Ll(h:X:=by exact rF rfl rfl):X:=h
def LZ(h:X:=by exact Ia (j:=1) rfl rfl Cg):X:=h
def Lc(h:X:=by exact LT (j:=2) rfl rfl Cg):X:=h
def sx(h:X:=by exact DJ sb m R):X:=h
def Lh(h:X:=by exact Dp rfl (Ff hk)):X:=h
def L2(h:X:=by exact⟨_,rfl,rfl⟩):X:=h
def L6(h:X:=by exact Fe F5 rfl rfl):X:=h
def Ld(h:X:=by exact I' (j:=0) rfl rfl):X:=h
def OZ(h:X:=by exact Fs T3 rfl rfl):X:=h
def nO(h:X:=by exact FK (v:=.int .i64 (3:Nat)) rfl):X:=h
def L?(h:X:=by exact .inl ⟨fun h=>by have h1:=h.1;have h2:=h.2.1;have h3:=h.2.2.1;have h4:=h.2.2.2;omega,rfl,rfl⟩):X:=h
def MJ(h:X:=by exact Dp (l:=AE ks) rfl (Ff hk)):X:=h
def Wi(h:X:=by exact Br (Fo rfl trivial) hm.ov):X:=h
def W9(h:X:=by exact DT (f:=0) (xs:=m.outs) rfl inferInstance rfl hjl):X:=h
def QN(h:X:=by exact⟨fun ww hw=>Eq.mp Cv hw⟩):X:=h
def fq(h:X:=by exact GX (l:=[_,_,_]) rfl):X:=h
def Ml(h:X:=by exact I' (j:=4611686018427387903) rfl rfl):X:=h
def Nm(h:X:=by exact LT (j:=1) rfl rfl Cg):X:=h
def Oh(h:X:=by exact Fe F3 rfl rfl):X:=h
def MY(h:X:=by exact .inl ⟨Co,rfl,rfl⟩):X:=h
def NG(h:X:=by exact nr rfl):X:=h
def MT(h:X:=by exact⟨fun ww hw=>Sat.right (A:=HP.AA b3 0 (BU q)) (Eq.mp Zw hw)⟩):X:=h
def Mh(h:X:=by exact show m.s.of k≠0 from h16):X:=h
def OM(h:X:=by exact fx rfl):X:=h
def ON(h:X:=by exact KM (j:=1) rfl rfl Cg):X:=h
def qU(h:X:=by exact qq rfl):X:=h
def Ny(h:X:=by exact Dd cb m R):X:=h
def O4(h:X:=by exact GX (l:=[_,_,_,_,_,_,_]) rfl):X:=h
def wv(h:X:=by exact List.mem_map.2 ⟨a,ha,rfl⟩):X:=h
def OT(h:X:=by exact .cons rfl (.cons rfl (.cons rfl (.cons rfl (.cons rfl (.cons rfl (.cons rfl (.cons rfl (.cons rfl (.nil)))))))))):X:=h
def vd(h:X:=by exact .cons rfl (.cons rfl (.cons rfl (.cons rfl (.cons rfl (.cons rfl (.cons rfl (.cons rfl (.nil))))))))):X:=h
def OA(h:X:=by exact Fs T5 rfl rfl):X:=h
def N6(h:X:=by exact Dp (l:=AI r) rfl rfl):X:=h
def Nv(h:X:=by exact Fs hg2 rfl rfl):X:=h
def Nd(h:X:=by exact Fe hg2 rfl rfl):X:=h
def rS(h:X:=by exact LA (j:=8) rfl rfl Cg):X:=h
def Nt(h:X:=by exact FK (v:=.int .i64 (5:Nat)) rfl):X:=h
def bY(h:X:=by exact⟨fun ww hw=>Eq.mp rP hw⟩):X:=h
def Na(h:X:=by exact .cons rfl (.cons rfl (.cons rfl (.cons rfl (.cons rfl (.cons rfl (.cons rfl (.cons rfl .nil)))))))):X:=h
def OB(h:X:=by exact⟨rfl,Cg⟩):X:=h
def NU(h:X:=by exact⟨rfl,b⟩):X:=h
def Zu(h:X:=by exact Gu sb m R):X:=h
def Zh(h:X:=by exact Bm (i:=j) rfl rfl hm.oa.1 hjl):X:=h
def Ns(h:X:=by exact .inl h29):X:=h
def Nh(h:X:=by exact .inr h34):X:=h
def Od(h:X:=by exact Bm (i:=i) rfl rfl hs g12):X:=h
def pL(h:X:=by exact decide_eq_false (fun h=>h rfl)):X:=h
def PG(h:X:=by exact⟨.inr rfl,Cg⟩):X:=h
def et(h:X:=by exact DP (l:=AE ks++[u8 side]) rfl rfl):X:=h
def PJ(h:X:=by exact Dp rfl xH):X:=h
def QP(h:X:=by exact⟨rfl,rfl,rfl,rfl,rfl⟩):X:=h
def P'(h:X:=by exact Vq rfl rfl):X:=h
def Pb(h:X:=by exact FT rfl rfl hs Cg rfl):X:=h
def PL(h:X:=by exact M2 (v:=.int .i64 (9:Nat)) Ch rfl):X:=h
def PA(h:X:=by exact O1 (i:=j) rfl rfl Cg):X:=h
def QL(h:X:=by exact M2 (v:=.int .i64 (3:Nat)) Ch rfl):X:=h
def PM(h:X:=by exact IS cb m R):X:=h
def qW(h:X:=by exact CI (i:=r.f.kind) (j:=5) rfl rfl):X:=h
def PX(h:X:=by exact FK (v:=.int .i64 (7:Nat)) rfl):X:=h
def PT(h:X:=by exact Lu (r:=.bool true) rfl rfl (fun w=>by kernel_rfl) (fun w=>by kernel_rfl)):X:=h
def PC(h:X:=by exact⟨congrArg Value.bool (decide_eq_false (fun h=>by have h1:=h.2 i hlt;unfold Em at h1;omega)).symm,rfl⟩):X:=h
def QM(h:X:=by exact⟨congrArg Value.bool (decide_eq_decide.2 ⟨fun h=>⟨List.length_pos_iff.1 h,hdone⟩,fun h=>List.length_pos_iff.2 h.1⟩),rfl⟩):X:=h
def xp(h:X:=by exact decide_eq_decide.2 ⟨fun h=>⟨List.length_pos_iff.1 h,hdone⟩,fun h=>List.length_pos_iff.2 h.1⟩):X:=h
def Oy(h:X:=by exact GH (j:=2) rfl rfl):X:=h
def O9(h:X:=by exact GX (l:=[.int .i64 0,.int .i64 0,.int .u64 0,.int .u64 0,.bool false,.string ⟨#[]⟩,.slice none 0 0]) rfl):X:=h
def PY(h:X:=by exact HI rfl (Z1 rb _)):X:=h
def Q'(h:X:=by exact Br (v':=.agg (AI (rs.getD i AB.AC)).toArray) (I5 (xs:=rs) rfl inferInstance Cg) rfl):X:=h
def va(h:X:=by exact I5 (xs:=rs) rfl inferInstance Cg):X:=h
def QQ(h:X:=by exact⟨rfl,rfl,fun _=>rfl,rfl⟩):X:=h
def Ql(h:X:=by exact Br (V9 rfl) xY):X:=h
def QJ(h:X:=by exact Br (Fo rfl trivial) hm.sv):X:=h
def Pd(h:X:=by exact Br (Fo rfl trivial) hm.dv):X:=h
def O3(h:X:=by exact GX (l:=[.int .i64 0,.int .i64 0,.int .i64 0,.int .u64 0,.string ⟨#[]⟩,.slice none 0 0]) rfl):X:=h
def US(h:X:=by exact⟨rfl,w,hok,hw.mono (Nat.le_succ t),rfl,rfl⟩):X:=h
def Rz(h:X:=by exact GX (l:=[_,_,_,_,_,_,_,_]) rfl):X:=h
def UA(h:X:=by exact Fo rfl Cg):X:=h
def Ri(h:X:=by exact Nat.le_max_left _ _):X:=h
def SE(h:X:=by exact I' (j:=1) rfl rfl):X:=h
def XM(h:X:=by exact Qi (k':=(l.take i).length) rfl rfl Cp QH):X:=h
def TN(h:X:=by exact Nat.not_lt_zero j):X:=h
def RU(h:X:=by exact KW rfl (fun w _=>rz _ w)):X:=h
def Tc(h:X:=by exact Vk (v:=.tuple #[.nilIface,.bool false]) rfl (run_typeAssert_lacksB Ar.get Ch Ch _ _)):X:=h
def w4(h:X:=by exact O1 (i:=j) rfl (congrArg (fun z=>some (Value.int .i64 z)) hst) Cg):X:=h
def Sf(h:X:=by exact BK rfl (nV 4096 _ Cg)):X:=h
def ak(h:X:=by exact CI (i:=r.f.kind) (j:=4) rfl rfl):X:=h
def RQ(h:X:=by exact Br (Fo rfl trivial) hm.fv):X:=h
def RG(h:X:=by exact CI (j:=5) rfl rfl):X:=h
def TY(h:X:=by exact Fe hg4 rfl rfl):X:=h
def bQ(h:X:=by exact GP rfl rfl):X:=h
def mN(h:X:=by exact LA (j:=24) rfl rfl Cg):X:=h
def uo(h:X:=by exact LA (j:=16) rfl rfl Cg):X:=h
def iX(h:X:=by exact Gt (i:=st) (congrArg (fun z=>some (Value.int .i64 z)) hst) (HK Cg)):X:=h
def XT(h:X:=by exact Bm (b:=r.b) (o:=r.o) rfl rfl hrok Cg):X:=h
def R5(h:X:=by exact H6 (i:=i-1) (xs:=r.f.ranges) rfl inferInstance Cg):X:=h
def Rf(h:X:=by exact⟨congrArg Value.bool zV,rfl⟩):X:=h
def RE(h:X:=by exact⟨congrArg Value.bool (decide_eq_false (fun h=>hg2 h.2.2.2.1)).symm,rfl⟩):X:=h
def Tw(h:X:=by exact⟨congrArg Value.bool (decide_eq_false (fun h=>hg1 h.2.2.1)).symm,rfl⟩):X:=h
def SD(h:X:=by exact Bm (b:=b) (o:=o) rfl rfl hfs.sl hlt):X:=h
def RX(h:X:=by exact I5 (i:=i) (o:=o) (xs:=rs) rfl (let _:=hfs.rd;inferInstance) Cg):X:=h
def Qw(h:X:=by exact HI rfl (Nw rb p b o c xs a _ hs inferInstance hx Cg)):X:=h
def Su(h:X:=by exact FK (v:=.int .i64 (2:Nat)) rfl):X:=h
def Te(h:X:=by exact GH (j:=4) rfl rfl):X:=h
def TG(h:X:=by exact Nat.not_lt_zero k):X:=h
def Qz(h:X:=by exact Fe hg6 rfl rfl):X:=h
def wG(h:X:=by exact M2 (v:=.int .i64 (1:Nat)) Ch rfl):X:=h
def TH(h:X:=by exact At (i+1,lo1,hi1,dn,out++[(rg z.l i)],⟨p53,b53,o53,c53,s53⟩) ⟨hA.ID ho.inc h29 h49,ho53,fun h=>by rw [List.length_append];have:=hon h;simp;omega⟩ UN (.cons rfl (.cons rfl (.cons rfl (.cons rfl (.cons rfl (.cons rfl (.nil))))))) rfl):X:=h
def R8(h:X:=by exact At (i+1,lo1,hi1,true,out++[⟨lo1,hi1⟩]++[(rg z.l i)],⟨p76,b76,o76,c76,s76⟩) ⟨Eu.put Zy ho.inc h29 h49 h64 (hon h66),ho76,fun h=>by cases h⟩ UN (.cons rfl (.cons rfl (.cons rfl (.cons rfl (.cons rfl (.cons rfl (.nil))))))) rfl):X:=h
def Qv(h:X:=by exact At (i+1,lo1,hi1,true,out++[(rg z.l i)],⟨p76,b76,o76,c76,s76⟩) ⟨Eu.more Zy h29,ho76,fun h=>by cases h⟩ UN (.cons rfl (.cons rfl (.cons rfl (.cons PE (.cons rfl (.cons rfl .nil)))))) rfl):X:=h
def xd(h:X:=by exact .cons rfl (.cons rfl (.cons rfl (.cons PE (.cons rfl (.cons rfl .nil)))))):X:=h
def xm(h:X:=by exact .cons rfl (.cons rfl (.cons PE (.cons rfl (.cons rfl .nil))))):X:=h
def xl(h:X:=by exact .cons rfl (.cons PE (.cons rfl (.cons rfl .nil)))):X:=h
def wr(h:X:=by exact .cons PE (.cons rfl (.cons rfl .nil))):X:=h
def RO(h:X:=by exact At (i+1,min lo1 (rg z.l i).lo,max hi1 (rg z.l i).hi,dn,out,oa) ⟨hA.meet h29 h49 h64 hrb,hoa,fun h=>by have:=hon h;omega⟩ UN (.cons rfl (.cons rfl (.cons rfl (.cons rfl (.cons rfl (.cons rfl (.nil))))))) rfl):X:=h
def Tk(h:X:=by exact FK (v:=.int .i64 (9:Nat)) rfl):X:=h
def jF(h:X:=by exact Br (Fo rfl trivial) hm.iv):X:=h
def gN(h:X:=by exact Bm (i:=j) rfl (congrArg (fun z=>some (Value.int .i64 z)) hst) hm.ia.1 hjl):X:=h
def Yk(h:X:=by exact DT (f:=0) (xs:=m.ins) rfl inferInstance rfl hjl):X:=h
def Rx(h:X:=by exact Bm rfl rfl hm.sa.1 h15):X:=h
def Sh(h:X:=by exact CI (i:=r.f.kind) (j:=3) rfl rfl):X:=h
def jc(h:X:=by exact Dp (l:=AE m.x.ks) rfl (Ff hks)):X:=h
def RH(h:X:=by exact Br (Fo rfl trivial) hm2.dv):X:=h
def TU(h:X:=by exact Bm (i:=i) rfl rfl (show Sl m.da.p m.da.b m.da.o m.due.length m.da.c from by have h7:=hm.d.1;rw [List.length_map]at h7;exact h7) h80):X:=h
def vi(h:X:=by exact show Sl m.da.p m.da.b m.da.o m.due.length m.da.c from by have h7:=hm.d.1;rw [List.length_map]at h7;exact h7):X:=h
def RB(h:X:=by exact Br (v':=uN (m.due.getD i 0)) (DT (f:=0) (xs:=m.due.map Ay.mk) rfl inferInstance rfl Zp) lm):X:=h
def xc(h:X:=by exact DT (f:=0) (xs:=m.due.map Ay.mk) rfl inferInstance rfl Zp):X:=h
def SB(h:X:=by exact show ¬m.s.said=true by rw [show m.s.said=m.x.said from rfl,h10];decide):X:=h
def wq(h:X:=by exact show 0<l.length by omega):X:=h
def Tb(h:X:=by exact Fs (decide_eq_true rfl) rfl rfl):X:=h
def S2(h:X:=by exact DT (f:=8) (xs:=l) rfl inferInstance rfl g12):X:=h
def SR(h:X:=by exact Br (Fo rfl trivial) hok.mv):X:=h
def SY(h:X:=by exact Br (Fo rfl trivial) hok.xv):X:=h
def Se(h:X:=by exact Br (Fo rfl trivial) hok.kv):X:=h
def dZ(h:X:=by exact Dp (l:=AE w.x.ks) rfl (Ff hks)):X:=h
def Vn(h:X:=by exact⟨rfl,w2,hok2,hw2,hbr2,rfl⟩):X:=h
def bF(h:X:=by exact GX (l:=[_,_,_,_]) rfl):X:=h
def Wo(h:X:=by exact Nx (l:=8) (h:=xs.length-8) (k':=(EL xs).length) rfl rfl rfl Cp Cg):X:=h
def Uj(h:X:=by exact Nat.min_le_left _ _):X:=h
def Xw(h:X:=by exact List.length_filter_le _ _):X:=h
def Ze(h:X:=by exact HO rfl inferInstance Cg):X:=h
def Xy(h:X:=by exact H6 rfl inferInstance Cg):X:=h
def Xz(h:X:=by exact UO rfl rfl Cp):X:=h
def lE(h:X:=by exact GP (i:=22) (j:=22) rfl rfl):X:=h
def YS(h:X:=by exact Fo (hr:=Zn hG) rfl trivial):X:=h
def YK(h:X:=by exact Ia (i:=4096) rfl rfl Cg):X:=h
def XG(h:X:=by exact show j<wz.length by omega):X:=h
def Wc(h:X:=by exact .inl (List.mem_map.2 ⟨a,ha,rfl⟩)):X:=h
def VM(h:X:=by exact .inr (List.mem_map.2 ⟨a,ha,rfl⟩)):X:=h
def Xk(h:X:=by exact Fs hg4 rfl rfl):X:=h
def Xj(h:X:=by exact FK (v:=.int .i64 (8:Nat)) rfl):X:=h
def B!(h:X:=by exact⟨fun ww hw=>Sat.right (A:=HP.AA b3 0 (AI r)) (Eq.mp ZQ hw)⟩):X:=h
def WQ(h:X:=by exact EG (v:=.int .i64 (1:Nat)) rfl rfl rfl Cj):X:=h
def U0(h:X:=by exact CV (j:=2) rfl rfl):X:=h
def Wr(h:X:=by exact FK (v:=.int .u8 (8:Nat)) rfl):X:=h
def VV(h:X:=by exact FK (v:=.int .u8 (9:Nat)) rfl):X:=h
def u0(h:X:=by exact decide_eq_decide.2 Cg):X:=h
def qA(h:X:=by exact H6 (i:=i) (xs:=r.f.ranges) rfl inferInstance Cg):X:=h
def V7(h:X:=by exact List.length_eq_zero_iff.1 h0):X:=h
def Ve(h:X:=by exact⟨_,rfl,q,qb,qo,qc,qs,rfl,hqs,hqc,rfl⟩):X:=h
def XL(h:X:=by exact P5 (i:=a) (xs:=xs) rfl inferInstance Cg):X:=h
def XK(h:X:=by exact FK (v:=.int .i64 (4:Nat)) rfl):X:=h
def UW(h:X:=by exact FK (v:=.int .i64 (6:Nat)) rfl):X:=h
def VO(h:X:=by exact HI rfl (Z1 b13 _)):X:=h
def Wx(h:X:=by exact E4 (cs:=AI r) rfl Cr rfl rfl):X:=h
def Yu(h:X:=by exact Dp (l:=AE m.x.ks++[u8 (BM (!m.x.first))]) rfl cS):X:=h
def Uv(h:X:=by exact GS rfl rfl Cn (AB.one (rs.getD i AB.AC))):X:=h
def WI(h:X:=by exact Fs hg5 rfl rfl):X:=h
def YQ(h:X:=by exact Fe hg5 rfl rfl):X:=h
def Uf(h:X:=by exact Fs hg6 rfl rfl):X:=h
def Vb(h:X:=by exact DP (l:=[.int .i64 AY,.int .i64 AG]) rfl rfl):X:=h
def Uk(h:X:=by exact O1 (i:=l.length) rfl rfl h41):X:=h
def Vj(h:X:=by exact DP (l:=BU q) rfl rfl):X:=h
def WE(h:X:=by exact CI (i:=q.kind) (j:=5) rfl rfl):X:=h
def Up(h:X:=by exact⟨rfl,rfl,rfl,rfl,rfl,rfl,rfl,rfl⟩):X:=h
def Xt(h:X:=by exact Dp (l:=[uN (rg z.l i).lo,uN (rg z.l i).hi]) rfl rfl):X:=h
def VN(h:X:=by exact E4 (cs:=[uN (rg z.l i).lo,uN (rg z.l i).hi]) rfl Cr rfl rfl):X:=h
def cR(h:X:=by exact⟨fun ww hw=>Sat.right (A:=HP.AA b3 0 (AI r)) (Eq.mp qi hw)⟩):X:=h
def r6(h:X:=by exact congrArg (fun bb=>some (Value.bool bb)) ((decide_eq_false (fun h=>g2 h.2.1)).symm)):X:=h
def W8(h:X:=by exact Fs T6 rfl rfl):X:=h
def gn(h:X:=by exact .cons rfl (.cons rfl (.cons rfl (.cons (congrArg (fun z=>some (Value.int .i64 z)) Cg) .nil)))):X:=h
def wh(h:X:=by exact .cons rfl (.cons rfl (.cons (congrArg (fun z=>some (Value.int .i64 z)) Cg) .nil))):X:=h
def xf(h:X:=by exact .cons rfl (.cons (congrArg (fun z=>some (Value.int .i64 z)) Cg) .nil)):X:=h
def vb(h:X:=by exact .cons (congrArg (fun z=>some (Value.int .i64 z)) Cg) .nil):X:=h
def vv(h:X:=by exact congrArg (fun z=>some (Value.int .i64 z)) Cg):X:=h
def VQ(h:X:=by exact Bm (i:=0) (b:=r.b) (o:=r.o) rfl rfl hm.ok hne):X:=h
def YF(h:X:=by exact Bm (i:=i+1) (b:=r.b) (o:=r.o) rfl rfl hm.ok Cg):X:=h
def jA(h:X:=by exact CV (i:=(xs.getD a 0).toNat) (j:=9) rfl rfl):X:=h
def Wg(h:X:=by exact FT rfl rfl hs48 h136 rfl):X:=h
def oT(h:X:=by exact⟨fun ww hw=>Sat.right (A:=HP.AA b3 0 (AI r)) (Eq.mp Yz hw)⟩):X:=h
def XA(h:X:=by exact show 0<rs.length by omega):X:=h
def qy(h:X:=by exact⟨fun ww hw=>Sat.right (A:=AD b13 o13 rs s13*A0 rs) (Eq.mp H! hw)⟩):X:=h
def Xu(h:X:=by exact⟨fun ww hw=>Eq.mp uZ hw⟩):X:=h
def XS(h:X:=by exact Xi (i:=n) (j:=16384) rfl rfl):X:=h
def Y0(h:X:=by exact AU (_,_) trivial (.cons rfl (.cons rfl (.cons rfl (.cons rfl (.nil))))) rfl):X:=h
def Wq(h:X:=by exact Bm (i:=i) rfl rfl bP hi):X:=h
def VP(h:X:=by exact Br (v':=ptr P.sb 0) (DT (f:=0) (xs:=w.ms) rfl inferInstance rfl sZ) pU):X:=h
def wk(h:X:=by exact DT (f:=0) (xs:=w.ms) rfl inferInstance rfl sZ):X:=h
def gt(h:X:=by exact AU _ trivial (.cons rfl (.cons rfl (.cons rfl (.cons rfl (.nil))))) rfl):X:=h
def P_(h:X:=by exact⟨fun ww hw=>Sat.right (A:=FW b3 s) (Eq.mp gA hw)⟩):X:=h
def je(h:X:=by exact M7 (b:=8317987319222330741) rfl rfl):X:=h
def nk(h:X:=by exact M7 (b:=7237128888997146477) rfl rfl):X:=h
def jj(h:X:=by exact M7 (b:=7816392313619706465) rfl rfl):X:=h
def l9(h:X:=by exact M7 (b:=8387220255154660723) rfl rfl):X:=h
def mT(h:X:=by exact Iz rfl rfl (ed b7 _ _ _)):X:=h
def Z8(h:X:=by exact qG (xs:=ks) (o:=0) rfl inferInstance (by rw [hk];rfl)):X:=h
def Yx(h:X:=by exact Bm rfl rfl (b:=b) (o:=o) hs Cg):X:=h
def jV(h:X:=by exact Bf (ys:=xs) (bb:=b) (oo:=o) rfl hs15 hc15 rfl hs inferInstance rfl TE Cg):X:=h
def fP(h:X:=by exact I' (i:=(be xs 8).toNat) (j:=4611686018427387903) rfl rfl):X:=h
def jZ(h:X:=by exact RT (l:=xs.length-8) (k':=(xs.drop (xs.length-8)).length) rfl rfl Cg rE):X:=h
def mK(h:X:=by exact⟨rfl,rfl,rfl,rfl,rfl,rfl,Nat.le_refl _⟩):X:=h
def mF(h:X:=by exact kq rfl rfl rfl rfl ⟨hij,hj,hs.2⟩):X:=h
def qv(h:X:=by exact RT (k':=(l.drop j).length) rfl rfl hj List.length_drop):X:=h
def kj(h:X:=by exact tQ (cs:=[uN r.lo,uN r.hi]) rfl Cr rfl rfl):X:=h
def fT(h:X:=by exact BK rfl (bg z.l r fr to a.p a.b a.o a.c b69 a.s (HP.AA q 0 [.slice a.p z.l.length a.c,uN z.floor,iN z.AN]*(HP.AA b8 0 [uN r.lo,uN r.hi]*(HP.AA b5 0 [uN hi]*(HP.AA b4 0 [uN (max lo z.floor)]*(HP.AA b3 0 [ptr q 0]*R))))) hs.1 hs.2 hft ht1 Cg (fun hc=>hne a.b a.o (AE z.l++a.s) (HP.AA q 0 [.slice a.p z.l.length a.c,uN z.floor,iN z.AN]*(HP.AA b8 0 [uN r.lo,uN r.hi]*(HP.AA b5 0 [uN hi]*(HP.AA b4 0 [uN (max lo z.floor)]*(HP.AA b3 0 [ptr q 0]*R))))) (by intro h0;have h7:=congrArg List.length h0;rw [List.length_append,CD]at h7;have h8:z.l.length*2+a.s.length=0:=h7;have:=hs.2;omega) rfl))):X:=h
def sy(h:X:=by exact FT (i:=0) rfl rfl hs70 Cg rfl):X:=h
def th(h:X:=by exact HO (xs:=z.l.take fr++r::z.l.drop to) (i:=0) rfl inferInstance Cg):X:=h
def l6(h:X:=by exact BK rfl (N? (z.l.take fr++r::z.l.drop to) 0 1 p70 b70 o70 c70 s70 (HP.AA q 0 [.slice p70 (z.l.take fr++r::z.l.drop to).length c70,uN ((rg (z.l.take fr++r::z.l.drop to) 0).hi+1),iN z.AN]*(HP.AA b8 0 [uN r.lo,uN r.hi]*(HP.AA b5 0 [uN hi]*(HP.AA b4 0 [uN (max lo z.floor)]*(HP.AA b3 0 [ptr q 0]*R))))) hs70 hc70 Cg Cg Cg)):X:=h
def eN(h:X:=by exact OD (xs:=l) rfl inferInstance Cg):X:=h
def iV(h:X:=by exact NR (Post:=fun v H'=>∃b,v=.agg #[.pointer (some ⟨1,193,none⟩),ptr b 0,.int .u64 150]∧H'=HP.AA b 0 [ptr b4 0]*(HP.AA b4 0 [old]*R)) rfl (fun w hw=>⟨_,_,_,q8 _ w,⟨w.heap.size,rfl,rfl⟩,hw.alloc _ _⟩)):X:=h
def yC(h:X:=by exact KW rfl (fun w _=>u3 _ w)):X:=h
def ke(h:X:=by exact IC rfl rfl (fun w _=>ad w)):X:=h
def kV(h:X:=by exact KW rfl (fun w hw=>uD ⟨b14,0,none⟩ ⟨b4,0,none⟩ w ((inferInstance:Rd B _ b14 0 (ptr b4 0) True).get w hw trivial))):X:=h
def w9(h:X:=by exact IC rfl rfl (fun w _=>tL w)):X:=h
def wR(h:X:=by exact IC rfl rfl (fun w _=>yU w)):X:=h
def tC(h:X:=by exact IC rfl rfl (fun w _=>xX w)):X:=h
def ZL(h:X:=by exact Lu (r:=.bool true) rfl rfl (fun w=>by kernel_rfl) (fun w=>by rw [ui];simp)):X:=h
def jM(h:X:=by exact IC rfl rfl (fun w _=>ag w)):X:=h
def Zd(h:X:=by exact M2 (v:=.int .i64 (2:Nat)) Ch rfl):X:=h
def gZ(h:X:=by exact EG (v:=.int .i64 (9:Nat)) rfl rfl rfl Cj):X:=h
def aw(h:X:=by exact BK rfl (L0 q34 _ x.hi wm.w.b.length _ _ _ hT f1 Cg Cg eR eR)):X:=h
def fF(h:X:=by exact Dp (l:=CM (z.L.getD z.j AB.AC)) rfl rfl):X:=h
def lM(h:X:=by exact List.mem_map.2 ⟨rr,List.mem_of_mem_take hrr,rfl⟩):X:=h
def jE(h:X:=by exact List.mem_map.2 ⟨fm.fs[i],List.getElem_mem h15,rfl⟩):X:=h
def dA(h:X:=by exact I5 (xs:=fm.fs) rfl inferInstance Cg):X:=h
def eT(h:X:=by exact FT (i:=0) rfl rfl hls Cg rfl):X:=h
def Z4(h:X:=by exact HO (xs:=l) (i:=0) rfl inferInstance Cg):X:=h
def aD(h:X:=by exact E4 (cs:=[u8 0]) rfl Cr rfl rfl):X:=h
def gV(h:X:=by exact FK (v:=.int .i64 (10:Nat)) rfl):X:=h
def jD(h:X:=by exact EG (v:=.int .i64 (2:Nat)) rfl rfl rfl Cj):X:=h
def gF(h:X:=by exact LT (i:=4611686018427387903) rfl rfl Cg):X:=h
def sS(h:X:=by exact Bm (i:=0) rfl rfl hrok hne):X:=h
def kP(h:X:=by exact OD (i:=0) (xs:=r.f.ranges) rfl inferInstance hne):X:=h
def cG(h:X:=by exact RT (l:=1) (k':=r.f.ranges.length-1) rfl rfl hne rfl):X:=h
def sP(h:X:=by exact FT (b:=r.b) (o:=r.o+1*2) (q:=r.o+(i+1)*2) rfl rfl (I9 hrok hne hrok.2) hlt Cg):X:=h
def oN(h:X:=by exact OD (i:=i+1) (xs:=r.f.ranges) rfl inferInstance Cg):X:=h
def nF(h:X:=by exact OD (i:=i) (xs:=r.f.ranges) rfl inferInstance hlt):X:=h
def dJ(h:X:=by exact .inl ⟨hok,p21,b21,o21,c21,s21,rfl,hs21,hc21,rfl⟩):X:=h
def ZS(h:X:=by exact HI rfl (ah rb p b o c xs a _ hs inferInstance hx Cg)):X:=h
def eC(h:X:=by exact HI rfl (Nw rb p b o c xs a8 _ hs inferInstance hx Cg)):X:=h
def eH(h:X:=by exact HI rfl (Nw rb p b o c xs a10 _ hs inferInstance hx Cg)):X:=h
def fI(h:X:=by exact Bm rfl rfl (b:=b) (o:=o) hs hc):X:=h
def Yq(h:X:=by exact QT (k:=.i64) (i:=if c<0 then(-(c+1)).toNat else c.toNat) (j:=n) ld rfl Cg):X:=h
def cg(h:X:=by exact Nx (k':=(cut wm.w.b lo hi2).length) rfl rfl rfl eO hcl2):X:=h
def oh(h:X:=by exact Hq (xs:=cut wm.w.b lo hi2) (b:=wm.a.b) (o:=wm.a.o+lo*1) rfl vZ (AW.sub (xs:=wm.w.b) inferInstance lo hi2 Cg)):X:=h
def xN(h:X:=by exact GX (l:=AI (DL ⟨0,0,0,0,false,⟨#[]⟩,[]⟩)) rfl):X:=h
def jO(h:X:=by exact KM (i:=m.x.next) (j:=1) rfl rfl Cg):X:=h
def sc(h:X:=by exact lI (i:=AG) (j:=1024) rfl rfl):X:=h
def mV(h:X:=by exact Dp (l:=[iN mt,iN wi]) rfl rfl):X:=h
def Y3(h:X:=by exact⟨rfl,⟨h.base.AY,h.base.AG,h.base.ks,h.base.first,rfl,rfl,h.base.said,h.base.next⟩,(fun e=>by cases e),(fun e=>by cases e)⟩):X:=h
def pD(h:X:=by exact .cons (congrArg (fun bb=>some (Value.bool bb)) (decide_eq_decide.2 ⟨fun h=>⟨h31,h⟩,fun h=>h.2⟩)) (.cons rfl (.cons rfl (.cons rfl (.nil))))):X:=h
def wo(h:X:=by exact congrArg (fun bb=>some (Value.bool bb)) (decide_eq_decide.2 ⟨fun h=>⟨h31,h⟩,fun h=>h.2⟩)):X:=h
def wl(h:X:=by exact decide_eq_decide.2 ⟨fun h=>⟨h31,h⟩,fun h=>h.2⟩):X:=h
def rG(h:X:=by exact .cons (congrArg (fun bb=>some (Value.bool bb)) (decide_eq_decide.2 Cg)) (.cons rfl (.cons rfl (.cons rfl (.cons rfl (.cons rfl (.cons rfl (.cons rfl (.nil))))))))):X:=h
def vk(h:X:=by exact congrArg (fun bb=>some (Value.bool bb)) (decide_eq_decide.2 Cg)):X:=h
def Yl(h:X:=by exact .cons (congrArg (fun bb=>some (Value.bool bb)) (decide_eq_false Cg).symm) (.cons rfl (.cons rfl (.cons rfl (.cons rfl (.cons rfl (.cons rfl (.cons rfl (.nil))))))))):X:=h
def wd(h:X:=by exact congrArg (fun bb=>some (Value.bool bb)) (decide_eq_false Cg).symm):X:=h
def dX(h:X:=by exact E7 (cs:=[uN lo1,uN hi1]) rfl rfl rfl Ck):X:=h
def dY(h:X:=by exact E4 (cs:=[uN lo1,uN hi1]) rfl Cr rfl rfl):X:=h
def iB(h:X:=by exact Bf (ys:=[(rg z.l i)]) (bb:=b75) (oo:=0) (cc:=1) rfl ho72.1 ho72.2 rfl ⟨.inr rfl,Nat.le_refl _⟩ inferInstance rfl QE Cg):X:=h
def iS(h:X:=by exact Bf (ys:=[(rg z.l i)]) (bb:=b75) (oo:=0) (cc:=1) rfl hoa.1 hoa.2 rfl ⟨.inr rfl,Nat.le_refl _⟩ inferInstance rfl QE Cg):X:=h
def qB(h:X:=by exact .cons rfl (.cons (by rw [hfin];rfl) .nil)):X:=h
def pS(h:X:=by exact Bm (i:=0) rfl rfl hsl hpos):X:=h
def qN(h:X:=by exact I' (i:=code) (j:=4611686018427387903) rfl rfl):X:=h
def Yt(h:X:=by exact .cons (congrArg (fun bb=>some (Value.bool bb)) (absurd (hfi.symm.trans hf2) Ci)) (.cons rfl (.cons rfl (.cons rfl (.cons rfl (.nil)))))):X:=h
def vr(h:X:=by exact congrArg (fun bb=>some (Value.bool bb)) (absurd (hfi.symm.trans hf2) Ci)):X:=h
def rJ(h:X:=by exact Bm (i:=r.f.offset+i) rfl rfl (show Sl b1.p b1.b b1.o T0.length b1.c from hb1.1) Cg):X:=h
def vc(h:X:=by exact show Sl b1.p b1.b b1.o T0.length b1.c from hb1.1):X:=h
def jQ(h:X:=by exact DT (f:=0) (xs:=m.AJ) rfl inferInstance rfl h15):X:=h
def gE(h:X:=by exact At (i+1,outs4) ⟨h15,hF4⟩ tB (.cons rfl (.cons rfl (.cons rfl (.nil)))) rfl):X:=h
def Y5(h:X:=by exact At (i+1,outs) ⟨h15,hA.ok,tT⟩ tB (.cons rfl (.cons rfl (.cons rfl (.nil)))) rfl):X:=h
def sY(h:X:=by exact DT (f:=1) (xs:=m.AJ) rfl inferInstance rfl h15):X:=h
def iK(h:X:=by exact congrArg (fun hh=>HP.AA b8 0 (AI ((m.AJ.getD i AB.AC).fs.getD k AB.AC))*hh) h7.symm):X:=h
def Zr(h:X:=by exact .cons (congrArg (fun bb=>some (Value.bool bb)) ((decide_eq_false (fun h=>g2 h.2.1)).symm)) (.cons rfl (.cons rfl (.cons rfl (.cons rfl (.nil)))))):X:=h
def bK(h:X:=by exact .cons (congrArg (fun bb=>some (Value.bool bb)) ((decide_eq_false (fun h=>g1 h.1)).symm)) (.cons rfl (.cons rfl (.cons rfl (.cons rfl (.nil)))))):X:=h
def ve(h:X:=by exact congrArg (fun bb=>some (Value.bool bb)) ((decide_eq_false (fun h=>g1 h.1)).symm)):X:=h
def mM(h:X:=by exact .cons rfl (.cons rfl (.cons rfl (.cons rfl (.cons (congrArg (fun z=>some (Value.int .i64 z)) Cg) .nil))))):X:=h
def mW(h:X:=by exact Bm (b:=r.b) (o:=r.o) rfl rfl hm.ok Cg):X:=h
def Y1(h:X:=by exact HO (i:=0) (xs:=r.f.ranges) rfl inferInstance hne):X:=h
def pJ(h:X:=by exact HO (i:=i+1) (xs:=r.f.ranges) rfl inferInstance Cg):X:=h
def ZJ(h:X:=by exact Gt (i:=r.f.stream.toNat) (congrArg (fun z=>some (Value.int .i64 z)) hst) (HK Cg)):X:=h
def nH(h:X:=by exact Bm (i:=a) (b:=b) (o:=o) rfl rfl hs Cg):X:=h
def yJ(h:X:=by exact EG (v:=.int .i64 5) rfl rfl rfl trivial):X:=h
def sQ(h:X:=by exact CV (i:=(xs.getD a 0).toNat) (j:=28) rfl rfl):X:=h
def YV(h:X:=by exact EG (v:=.int .i64 6) rfl rfl rfl trivial):X:=h
def gY(h:X:=by exact GS (cs:=AI r) rfl rfl Cn (AB.one r)):X:=h
def t3(h:X:=by exact⟨fun ww hw=>Sat.right (A:=HP.AA b14 0 (AI (rs.getD i AB.AC))) (Eq.mp nX hw)⟩):X:=h
def go(h:X:=by exact At (i+1) ⟨Cg,fun k hk=>by rcases Nat.lt_or_ge k i with h|h;exact hi2 k h;obtain rfl:k=i:=Cg;exact fun hbz=>h118 (hbd.1 hbz)⟩ Lq (.cons rfl (.cons rfl (.cons rfl (.cons rfl (.nil))))) rfl):X:=h
def Yy(h:X:=by exact⟨fun ww hw=>Sat.right (A:=HP.AA b14 0 (AI (rs.getD i AB.AC))) (Eq.mp ZT hw)⟩):X:=h
def gB(h:X:=by exact At (i+1) ⟨Cg,fun k hk=>by rcases Nat.lt_or_ge k i with h|h;exact hi2 k h;obtain rfl:k=i:=Cg;exact fun hbz=>h77 hbz.1⟩ Lq (.cons rfl (.cons rfl (.cons rfl (.cons rfl (.nil))))) rfl):X:=h
def rU(h:X:=by exact DT (f:=0) (xs:=rs) rfl inferInstance rfl Cg):X:=h
def pQ(h:X:=by exact⟨fun ww hw=>Sat.right (A:=HP.AA b148 0 (AE [Ay.mk (m.due.getD i 0)])) (Eq.mp yW hw)⟩):X:=h
def fy(h:X:=by exact Bm (i:=j) rfl (congrArg (fun z=>some (Value.int .i64 z)) hst) hm.oa.1 hjl):X:=h
def oM(h:X:=by exact CV (i:=r.f.data.size) (j:=0) rfl rfl):X:=h
def vO(h:X:=by exact Bm (i:=0) rfl rfl hs (show 0<l.length by omega)):X:=h
def yN(h:X:=by exact DT (f:=0) (xs:=l) rfl inferInstance rfl (show 0<l.length by omega)):X:=h
def sB(h:X:=by exact Bm (i:=0) rfl rfl hs13 (show 0<fs.length by omega)):X:=h
def cL(h:X:=by exact BK rfl (sG 1073741824 _ Cg)):X:=h
def iW(h:X:=by exact DT (f:=0) (xs:=rs) rfl inferInstance rfl h7):X:=h
def oD(h:X:=by exact Bm (i:=k) rfl rfl g.sl g49):X:=h
def Yb(h:X:=by exact⟨_,rfl,fun h=>by have h8:n≤16384:=of_decide_eq_true h;have h7:=q4 h8;rw [hki h8,List.take_length]at h7;exact⟨Cg,h7⟩,rfl⟩):X:=h
def eM(h:X:=by exact List.mem_map.2 ⟨i,List.mem_range.2 hi,rfl⟩):X:=h
def nI(h:X:=by exact BK rfl (yY P.sb t P.s q _ hsok hsi Cg Cg)):X:=h
def oc(h:X:=by exact AU (m3,b14) ⟨hm3,hs3⟩ (.cons rfl (.cons rfl (.cons rfl (.cons rfl (.cons rfl (.cons rfl (.nil))))))) rfl):X:=h
def oO(h:X:=by exact Dp (l:=CB (P.c.s.Av q).1) rfl rfl):X:=h
def im(h:X:=by exact Dp (l:=[.int .i64 s.a,.int .i64 s.b]) rfl rfl):X:=h
def zT(h:X:=by exact⟨fun ww hw=>Sat.right (A:=FW b3 s) (Eq.mp Cv hw)⟩):X:=h
def md(h:X:=by exact wE (i:=s.b) rfl (ai s.b)):X:=h
def dM(h:X:=by exact Br (v':=.agg (Fp (l.getD i AB.AC)).toArray) (I5 (xs:=l) rfl inferInstance h22) rfl):X:=h
def vo(h:X:=by exact I5 (xs:=l) rfl inferInstance h22):X:=h
def Ku(h:X:=by exact fun _ _ h=>h.elim):X:=h
def Lf(h:X:=by exact mR [6,7] H rfl rfl L?):X:=h
def NJ(h:X:=by exact mr [2] rfl rfl CO):X:=h
def Mt(h:X:=by exact S? e47 e49):X:=h
def Nn(h:X:=by exact Nat.zero_le _):X:=h
def OP(h:X:=by exact AU () trivial az rfl):X:=h
def Nz(h:X:=by exact mR [4] (Ac cb m*R) (hE:=by rw [Dd];infer_instance) rfl rfl ⟨m,hm,Cy,U6⟩):X:=h
def Ol(h:X:=by exact mr [4] rfl rfl CO):X:=h
def QF(h:X:=by exact List.mem_map.2 ⟨_,hgd,rfl⟩):X:=h
def Om(h:X:=by exact mR [6] (BG cb (ws.set j wm)*(Ba db dm*R)) (hE:=bY) rfl rfl ⟨wm,dm,hwm,hd,gv,rfl⟩):X:=h
def SK(h:X:=by exact .inl (List.mem_filter.1 hp).1):X:=h
def Qu(h:X:=by exact mr [4] rfl rfl ⟨vN,rfl⟩):X:=h
def Rw(h:X:=by exact mr [4] rfl rfl ⟨py,rfl⟩):X:=h
def UM(h:X:=by exact AU ({w1 with w:={w1.w with ended:=e2}}:Bo) ⟨hw1,vH⟩ Hb rfl):X:=h
def S1(h:X:=by exact mR [4] (AD b' o' (xs++AQ n) s'*R) rfl rfl ⟨q,b',o',c',s',rfl,h1,h2,rfl⟩):X:=h
def Ty(h:X:=by exact List.getElem_mem _):X:=h
def S5(h:X:=by exact mR [4] (AD b' o' (xs++AQ n) s'*(Q*R)) rfl rfl ⟨q,b',o',c',s',Q,rfl,h1,h2,rfl,hk⟩):X:=h
def Rt(h:X:=by exact mR [4,5] (AS sb m*R) (hE:=by rw [DJ];infer_instance) rfl rfl ⟨m,hm,Cy,Cu,rfl⟩):X:=h
def UB(h:X:=by exact AU _ trivial Tg rfl):X:=h
def XU(h:X:=by exact(Sat.pr.1 h3).1.elim):X:=h
def U9(h:X:=by exact mR [4] (Ac cb m*R) (hE:=B!) rfl rfl ⟨m,hm,Cy,Cu,rfl⟩):X:=h
def Vz(h:X:=by exact AU (m2.CF {m2.x with answer:=an}) ⟨⟨hm2.g,hm2.ws,hm2.rs,hm2.fl,hm2.lo,hm2.fa,hm2.la,hm2.fv,hm2.lv⟩,qx⟩ G9 rfl):X:=h
def WT(h:X:=by exact mR [4,5] (AS sb m*R) (hE:=by rw [DJ];infer_instance) rfl rfl ⟨m,hm,by rw [eop],XY⟩):X:=h
def X0(h:X:=by exact mR [4] (AS sb m2*R) (hE:=qy) rfl rfl ⟨m2,hm2,UZ,vB,rfl⟩):X:=h
def WH(h:X:=by exact Au (Bk wb w.x*(AD w.xa.b w.xa.o w.xs w.xa.s*(AD w.ma.b w.ma.o w.ms w.ma.s*(AD w.ba.b w.ba.o w.bs w.ba.s*(AD w.ka.b w.ka.o w.kept w.ka.s*(Ac P.cb P.c*(AS P.sb P.s*(BX DE w.ps i*(HP.AA b5 0 (BU q)*R))))))))) (hE:=QN) gt):X:=h
def YN(h:X:=by exact mR [4] (Ds wb w*R) (hE:=P_) rfl rfl US):X:=h
def nR(h:X:=by exact NA H rfl (Iv (NI rfl rfl) KX) CO):X:=h
def rR(h:X:=by exact(FD n r rs).2 (.inr (b n Cg h5))):X:=h
def cX(h:X:=by exact mR [6] (AD b o l s*R) rfl rfl ⟨p,b,o,c,s,uP,mg,zC,X?⟩):X:=h
def mS(h:X:=by exact mr [4] rfl rfl ⟨by rw [EI,if_pos h5];rfl,rfl⟩):X:=h
def fC(h:X:=by exact V3 (ts:=[]) [d2,d] _ rfl rfl ⟨w2,hok2,Td,rfl⟩ rfl):X:=h
def iL(h:X:=by exact V3 (ts:=[]) [] _ rfl rfl ⟨w2,hok2,Td,rfl⟩ rfl):X:=h
def fQ(h:X:=by exact Gi R ⟨MC kr,rfl,rfl⟩):X:=h
def oC(h:X:=by exact mR [4] (Ba db m2*R) rfl rfl ⟨m2,hok2,by rw [hsome,hm2];rfl,by rw [hsome];rfl,rfl⟩):X:=h
def rA(h:X:=by exact mR [4] (AS sb m*R) (hE:=cR) rfl rfl ⟨m,hm,by rw [ebt];exact hsame.symm,by rw [ebt];rfl,rfl⟩):X:=h
def lO(h:X:=by exact mR [4] (AS sb m2*R) rfl rfl ⟨m2,hm2,by rw [etk];exact hs2,QW,rfl⟩):X:=h
def bB(h:X:=by exact mR [4] (AS sb m*R) rfl rfl ⟨m,hm,by rw [etk],QW,rfl⟩):X:=h
def kH(h:X:=by exact mr [2] rfl rfl ⟨0,a,true,rfl,rfl,.inr ⟨uB,rfl,rfl,rfl⟩⟩):X:=h
def pV(h:X:=by exact Au (AD b48 o48 rs s48*(A0 rs*(AD b33 o33 ys s33*(AS sb m*R)))) (hE:=t3) go):X:=h
def bV(h:X:=by exact mR [4] (AS sb m*R) (hE:=oT) rfl rfl ⟨m,hm,by rw [ese],by rw [ese];rfl,rfl⟩):X:=h
def ZB(h:X:=by exact mR [4] (AS sb m2*R) rfl rfl ⟨m2,hm2,by rw [em];exact hs2,UU,rfl⟩):X:=h
def hK(h:X:=by exact mR [4] (AS sb m*R) (hE:=by rw [DJ];infer_instance) rfl rfl ⟨m,hm,UZ,W6,rfl⟩):X:=h
def ZM(h:X:=by exact mR [4] (AS sb (m.CF {m.x with said:=true})*R) (hE:=by rw [DJ];exact Il) rfl rfl ⟨(m.CF {m.x with said:=true}),{hm with},UZ,W6,rfl⟩):X:=h
def pP(h:X:=by exact Au ((AD b54 o54 rs2 s54*(A0 rs2*(A47*(AD b46 o46 s.q.data.data.toList s46*A1))))*(HP.AA b3 0 (AE ks)*(HP.AA b2 0 (Fp s)*H))) (hE:=QN) Y0):X:=h
def cY(h:X:=by exact Au (HP.AA b14 0 (CB (P.c.s.Av q).1)*(HP.AA b13 0 (CB (P.c.s.Av q).1)*(AD ps.b ps.o (P.c.s.Av q).1.BE ps.s*(Bk wb w.x*(AD w.xa.b w.xa.o w.xs w.xa.s*(AD w.ma.b w.ma.o w.ms w.ma.s*(AD w.ba.b w.ba.o w.bs w.ba.s*(AD w.ka.b w.ka.o w.kept w.ka.s*(Ac P.cb m2*(AS P.sb m3*(BX DE w.ps i*(HP.AA b5 0 (BU q)*R)))))))))))) (hE:=⟨fun ww hw=>Eq.mp uA hw⟩) oc):X:=h
def pI(h:X:=by exact⟨none,HP.BQ,by unfold OH;rw [if_neg h1],.inl ⟨h1,rfl,rfl⟩,Ct⟩):X:=h
def jG(h:X:=by exact⟨_,_,vP,.inr ⟨h1,cb,m,h2,h3,rfl,rfl⟩,rfl⟩):X:=h
def qQ(h:X:=by exact mR [4] (Ds wb w2*R) (hE:=zT) rfl rfl Vn):X:=h
end
section
variable{X Y:Prop}(k:Y)
def FC(h:A Y X:=by intro Z;refine JL MX ?_;exact Z.1):X:=h ⟨k⟩
def Fr(h:A Y X:=by intro Z;refine Jm 0 ?_;exact Z.1):X:=h ⟨k⟩
def BF(h:A Y X:=by intro Z;refine⟨.inr inferInstance,?_⟩;exact Z.1):X:=h ⟨k⟩
def H4(h:A Y X:=by intro Z;refine JG hg1 ?_;exact Z.1):X:=h ⟨k⟩
def Ga(h:A Y X:=by intro Z;refine oQ rfl rfl rfl rfl ?_;exact Z.1):X:=h ⟨k⟩
def DS(h:A Y X:=by intro Z;refine⟨.inl Ci,?_⟩;exact Z.1):X:=h ⟨k⟩
def G8(h:A Y X:=by intro Z;refine JH hg1 ?_;exact Z.1):X:=h ⟨k⟩
def Ki(h:A Y X:=by intro Z;refine JL OQ ?_;exact Z.1):X:=h ⟨k⟩
def BV(h:A Y X:=by intro Z;refine n4 ?_;exact Z.1):X:=h ⟨k⟩
def IY(h:A Y X:=by intro Z;refine ja rfl rfl rfl ?_;exact Z.1):X:=h ⟨k⟩
def DY(h:A Y X:=by intro Z;refine JL D7 ?_;exact Z.1):X:=h ⟨k⟩
def QX(h:A Y X:=by intro Z;refine Jf 2 ?_;exact Z.1):X:=h ⟨k⟩
def Ut(h:A Y X:=by intro Z;refine Jn 1 ?_;exact Z.1):X:=h ⟨k⟩
def Ir(h:A Y X:=by intro Z;refine JG F1 ?_;exact Z.1):X:=h ⟨k⟩
def NY(h:A Y X:=by intro Z;refine Jd 3 ?_;exact Z.1):X:=h ⟨k⟩
def HD(h:A Y X:=by intro Z;refine Jm 4 ?_;exact Z.1):X:=h ⟨k⟩
def qM(h:A Y X:=by intro Z;refine Jm 1 ?_;exact Z.1):X:=h ⟨k⟩
def JV(h:A Y X:=by intro Z;refine JH T1 ?_;exact Z.1):X:=h ⟨k⟩
def JC(h:A Y X:=by intro Z;refine JG T2 ?_;exact Z.1):X:=h ⟨k⟩
def Xn(h:A Y X:=by intro Z;refine B_ rfl rfl ?_;exact Z.1):X:=h ⟨k⟩
def G2(h:A Y X:=by intro Z;refine JG hg3 ?_;exact Z.1):X:=h ⟨k⟩
def Lb(h:A Y X:=by intro Z;refine Jf 3 ?_;exact Z.1):X:=h ⟨k⟩
def P8(h:A Y X:=by intro Z;refine Jn 2 ?_;exact Z.1):X:=h ⟨k⟩
def JW(h:A Y X:=by intro Z;refine Jd 4 ?_;exact Z.1):X:=h ⟨k⟩
def Fz(h:A Y X:=by intro Z;refine JL YP ?_;exact Z.1):X:=h ⟨k⟩
def KS(h:A Y X:=by intro Z;refine JL LU ?_;exact Z.1):X:=h ⟨k⟩
def F0(h:A Y X:=by intro Z;refine g7 ?_;exact Z.1):X:=h ⟨k⟩
def Hk(h:A Y X:=by intro Z;refine Jf 6 ?_;exact Z.1):X:=h ⟨k⟩
def Gr(h:A Y X:=by intro Z;refine JH hg3 ?_;exact Z.1):X:=h ⟨k⟩
def Hh(h:A Y X:=by intro Z;refine JG T1 ?_;exact Z.1):X:=h ⟨k⟩
def Ie(h:A Y X:=by intro Z;refine JH F1 ?_;exact Z.1):X:=h ⟨k⟩
def f9(h:A Y X:=by intro Z;refine Bv K5 ?_;exact Z.1):X:=h ⟨k⟩
def OF(h:A Y X:=by intro Z;refine JH F2 ?_;exact Z.1):X:=h ⟨k⟩
def H8(h:A Y X:=by intro Z;refine JL F? ?_;exact Z.1):X:=h ⟨k⟩
def FM(h:A Y X:=by intro Z;refine AV I3 rfl ?_;exact Z.1):X:=h ⟨k⟩
def GO(h:A Y X:=by intro Z;refine JL L8 ?_;exact Z.1):X:=h ⟨k⟩
def KB(h:A Y X:=by intro Z;refine Qt rfl rfl rfl rfl ?_;exact Z.1):X:=h ⟨k⟩
def Jq(h:A Y X:=by intro Z;refine JL Jl ?_;exact Z.1):X:=h ⟨k⟩
def K1(h:A Y X:=by intro Z;refine JL HU ?_;exact Z.1):X:=h ⟨k⟩
def pu(h:A Y X:=by intro Z;refine JL Xa ?_;exact Z.1):X:=h ⟨k⟩
def NH(h:A Y X:=by intro Z;refine JL Ju ?_;exact Z.1):X:=h ⟨k⟩
def Ot(h:A Y X:=by intro Z;refine Qt rfl rfl rfl iu ?_;exact Z.1):X:=h ⟨k⟩
def FZ(h:A Y X:=by intro Z;show some (Value.bool _)=some (Value.bool _);exact Z.1):X:=h ⟨k⟩
def JP(h:A Y X:=by intro Z;refine JL LC ?_;exact Z.1):X:=h ⟨k⟩
def Ka(h:A Y X:=by intro Z;refine JL vT ?_;exact Z.1):X:=h ⟨k⟩
def kA(h:A Y X:=by intro Z;refine yM ?_;exact Z.1):X:=h ⟨k⟩
def Ig(h:A Y X:=by intro Z;refine JL PO ?_;exact Z.1):X:=h ⟨k⟩
def SM(h:A Y X:=by intro Z;refine JL nb ?_;exact Z.1):X:=h ⟨k⟩
def Mx(h:A Y X:=by intro Z;refine AV xS rfl ?_;exact Z.1):X:=h ⟨k⟩
def PP(h:A Y X:=by intro Z;refine AV wC rfl ?_;exact Z.1):X:=h ⟨k⟩
def B?(h:A Y X:=by intro Z;refine AV cI rfl ?_;exact Z.1):X:=h ⟨k⟩
def OO(h:A Y X:=by intro Z;refine Bv K_ ?_;exact Z.1):X:=h ⟨k⟩
def JJ(h:A Y X:=by intro Z;refine sF rfl rfl ?_;exact Z.1):X:=h ⟨k⟩
def Sm(h:A Y X:=by intro Z;refine D9 11 Ch rfl Fm ?_;exact Z.1):X:=h ⟨k⟩
def LD(h:A Y X:=by intro Z;refine AV O5 rfl ?_;exact Z.1):X:=h ⟨k⟩
def lY(h:A Y X:=by intro Z;refine DU 16 rfl Ch rfl rfl rfl rfl ?_;exact Z.1):X:=h ⟨k⟩
def lJ(h:A Y X:=by intro Z;refine DU 17 rfl Ch rfl rfl rfl rfl ?_;exact Z.1):X:=h ⟨k⟩
def jH(h:A Y X:=by intro Z;refine DU 18 rfl Ch rfl rfl rfl rfl ?_;exact Z.1):X:=h ⟨k⟩
def nS(h:A Y X:=by intro Z;refine DU 19 rfl Ch rfl rfl rfl rfl ?_;exact Z.1):X:=h ⟨k⟩
def mO(h:A Y X:=by intro Z;refine DU 20 rfl Ch rfl rfl rfl rfl ?_;exact Z.1):X:=h ⟨k⟩
def Lo(h:A Y X:=by intro Z;refine Ap sx ?_;exact Z.1):X:=h ⟨k⟩
def yX(h:A Y X:=by intro Z;refine JN 5 rfl hg1 ?_;exact Z.1):X:=h ⟨k⟩
def ju(h:A Y X:=by intro Z;refine JN 6 rfl hg1 ?_;exact Z.1):X:=h ⟨k⟩
def zW(h:A Y X:=by intro Z;refine JN 7 rfl hg1 ?_;exact Z.1):X:=h ⟨k⟩
def bj(h:A Y X:=by intro Z;refine JN 8 rfl hg1 ?_;exact Z.1):X:=h ⟨k⟩
def qw(h:A Y X:=by intro Z;refine JN 9 rfl hg1 ?_;exact Z.1):X:=h ⟨k⟩
def ru(h:A Y X:=by intro Z;refine JN 10 rfl hg1 ?_;exact Z.1):X:=h ⟨k⟩
def cj(h:A Y X:=by intro Z;refine JN 11 rfl hg1 ?_;exact Z.1):X:=h ⟨k⟩
def m8(h:A Y X:=by intro Z;refine DU 15 rfl Ch rfl rfl rfl rfl ?_;exact Z.1):X:=h ⟨k⟩
def P7(h:A Y X:=by intro Z;refine AV Ob rfl ?_;exact Z.1):X:=h ⟨k⟩
def Me(h:A Y X:=by intro Z;refine AV fq rfl ?_;exact Z.1):X:=h ⟨k⟩
def Nk(h:A Y X:=by intro Z;refine Aw (HP.C8 _ _ _) ?_;exact Z.1):X:=h ⟨k⟩
def OK(h:A Y X:=by intro Z;show Value.bool _=Value.bool _;exact Z.1):X:=h ⟨k⟩
def XN(h:A Y X:=by intro Z;refine D9 12 Ch rfl Fm ?_;exact Z.1):X:=h ⟨k⟩
def Wb(h:A Y X:=by intro Z;refine DU 14 rfl Ch rfl rfl rfl rfl ?_;exact Z.1):X:=h ⟨k⟩
def Ur(h:A Y X:=by intro Z;refine DU 21 rfl Ch rfl rfl rfl rfl ?_;exact Z.1):X:=h ⟨k⟩
def NM(h:A Y X:=by intro Z;refine Aw (H':=AS sb m*(HP.AA b5 0 (CB (⟨0,-1,0,0,⟨#[]⟩,[]⟩:Bd))*(HP.AA b4 0 [.int .i64 0,.int .i64 0,.int .i64 0,.int .u64 0,.string ⟨#[]⟩,.slice none 0 0]*(HP.AA b3 0 (BU q)*R)))) xQ ?_;exact Z.1):X:=h ⟨k⟩
def On(h:A Y X:=by intro Z;refine D9 13 Ch rfl Fm ?_;exact Z.1):X:=h ⟨k⟩
def U7(h:A Y X:=by intro Z;refine DU 13 rfl Ch rfl rfl rfl rfl ?_;exact Z.1):X:=h ⟨k⟩
def Ov(h:A Y X:=by intro Z;refine DU 22 rfl Ch rfl rfl rfl rfl ?_;exact Z.1):X:=h ⟨k⟩
def VY(h:A Y X:=by intro Z;refine DU 23 rfl Ch rfl rfl rfl rfl ?_;exact Z.1):X:=h ⟨k⟩
def V2(h:A Y X:=by intro Z;refine DU 24 rfl Ch rfl rfl rfl rfl ?_;exact Z.1):X:=h ⟨k⟩
def Xh(h:A Y X:=by intro Z;refine DU 25 rfl Ch rfl rfl rfl rfl ?_;exact Z.1):X:=h ⟨k⟩
def vX(h:A Y X:=by intro Z;refine mE rfl (jf sb m.x.closed k _) ?_;exact Z.1):X:=h ⟨k⟩
def Pz(h:A Y X:=by intro Z;refine Qt rfl rfl rfl pL ?_;exact Z.1):X:=h ⟨k⟩
def Sk(h:A Y X:=by intro Z;refine Ec 6 Ch rfl rfl Fl EO ?_;exact Z.1):X:=h ⟨k⟩
def wT(h:A Y X:=by intro Z;refine mE rfl (f7 cb m.x.closed k _) ?_;exact Z.1):X:=h ⟨k⟩
def Ts(h:A Y X:=by intro Z;show HP.AA cb (0+43+j*10) [.slice w1.a.p w1.w.b.length w1.a.c,ptr w1.sq 0,ptr w1.cq 0,uN w1.w.high,.bool w1.w.finished,.bool w1.w.ending,.bool _,.bool w1.w.given,uN w1.w.code,.bool w1.w.Da]*_=HP.AA cb (0+43+j*10) [.slice w1.a.p w1.w.b.length w1.a.c,ptr w1.sq 0,ptr w1.cq 0,uN w1.w.high,.bool w1.w.finished,.bool w1.w.ending,.bool e2,.bool w1.w.given,uN w1.w.code,.bool w1.w.Da]*(B6 w1*_);exact Z.1):X:=h ⟨k⟩
def Rr(h:A Y X:=by intro Z;refine congrArg (fun b:Bool=>HP.AA cb (0+43+j*10) [.slice w1.a.p w1.w.b.length w1.a.c,ptr w1.sq 0,ptr w1.cq 0,uN w1.w.high,.bool w1.w.finished,.bool w1.w.ending,.bool b,.bool w1.w.given,uN w1.w.code,.bool w1.w.Da]*(B6 w1*(Cc cb wz j*(HP.AA b7 0 (AI (fm.fs.getD i AB.AC))*(K*(HP.AA b3 0 (CM fm)*R)))))) ?_;exact Z.1):X:=h ⟨k⟩
def Sx(h:A Y X:=by intro Z;refine Ec 20 Ch rfl rfl Fl EO ?_;exact Z.1):X:=h ⟨k⟩
def qY(h:A Y X:=by intro Z;refine DU 11 rfl Ch rfl rfl rfl rfl ?_;exact Z.1):X:=h ⟨k⟩
def oZ(h:A Y X:=by intro Z;refine DU 12 rfl Ch rfl rfl rfl rfl ?_;exact Z.1):X:=h ⟨k⟩
def Ys(h:A Y X:=by intro Z;refine DU 26 rfl Ch rfl rfl rfl rfl ?_;exact Z.1):X:=h ⟨k⟩
def ZO(h:A Y X:=by intro Z;refine DU 27 rfl Ch rfl rfl rfl rfl ?_;exact Z.1):X:=h ⟨k⟩
def eD(h:A Y X:=by intro Z;refine DU 28 rfl Ch rfl rfl rfl rfl ?_;exact Z.1):X:=h ⟨k⟩
def oH(h:A Y X:=by intro Z;refine DU 29 rfl Ch rfl rfl rfl rfl ?_;exact Z.1):X:=h ⟨k⟩
def RY(h:A Y X:=by intro Z;refine Ap (H':=Ab sb m.x*(AD m.oa.b m.oa.o m.outs m.oa.s*(HP.AA (m.outs.getD j AB.AC).q 0 (F5z (m.outs.getD j AB.AC))*(AH (m.outs.getD j AB.AC).cq (m.outs.getD j AB.AC).ca (m.outs.getD j AB.AC).o.AF*(BX BJ m.outs j*(Et m sb*R)))))) E! ?_;exact Z.1):X:=h ⟨k⟩
def WD(h:A Y X:=by intro Z;refine Au (HP.AA b5 0 [iN z.a]*(HP.AA b2 0 [.slice z.p z.rs.length z.c]*(HP.AA b3 0 [.nilIface]*R))) ?_;exact Z.1):X:=h ⟨k⟩
def Ux(h:A Y X:=by intro Z;refine Aw (H':=AS sb m*(HP.AA b3 0 (AI r)*R)) Cm ?_;exact Z.1):X:=h ⟨k⟩
def bL(h:A Y X:=by intro Z;refine mE rfl (A_ rb p b o c xs (a+1) false _ hs inferInstance hx Cg) ?_;exact Z.1):X:=h ⟨k⟩
def Vv(h:A Y X:=by intro Z;refine Aw (H':=AS P.sb P.s*(Bk wb w.x*(AD w.xa.b w.xa.o w.xs w.xa.s*(AD w.ma.b w.ma.o w.ms w.ma.s*(AD w.ba.b w.ba.o w.bs w.ba.s*(AD w.ka.b w.ka.o w.kept w.ka.s*(Ac P.cb P.c*(BX DE w.ps i*(HP.AA b5 0 (BU q)*R))))))))) Cm ?_;exact Z.1):X:=h ⟨k⟩
def nJ(h:A Y X:=by intro Z;refine Au (AD b2 o2 (CL xs pre++[xs.getD (CL xs pre).length 0 ^^^x]) s2*(HP.AA b7 0 [.slice q2 (CL xs pre++[xs.getD (CL xs pre).length 0 ^^^x]).length c2]*(HP.AA b5 0 [.slice p xs.length c]*H)*R)) ?_;exact Z.1):X:=h ⟨k⟩
def gQ(h:A Y X:=by intro Z;show({z.c with ws:=z.filled.1,next:=z.c.next+1,BY:=if D2 z.filled.2.Aq=true then _ else _}:AL)=_;exact Z.1):X:=h ⟨k⟩
def dN(h:A Y X:=by intro Z;refine Ap (H':=HP.AA b o (AE l++s)*(HP.fresh bv*(HP.AA bv 0 (AE [r])*R))) UC ?_;exact Z.1):X:=h ⟨k⟩
def df(h:A Y X:=by intro Z;refine Ap (H':=AD a.b a.o z.l a.s*(HP.AA q 0 [.slice a.p z.l.length a.c,uN z.floor,iN z.AN]*(HP.AA b8 0 [uN r.lo,uN r.hi]*(HP.AA b5 0 [uN hi]*(HP.AA b4 0 [uN (max lo z.floor)]*(HP.AA b3 0 [ptr q 0]*R)))))) zH ?_;exact Z.1):X:=h ⟨k⟩
def jn(h:A Y X:=by intro Z;refine Dc (HP.AA q 0 [.slice a.p z.l.length a.c,uN z.floor,iN z.AN]*(HP.AA b8 0 [uN r.lo,uN r.hi]*(HP.AA b5 0 [uN hi]*(HP.AA b4 0 [uN (max lo z.floor)]*(HP.AA b3 0 [ptr q 0]*R))))) 12 13 Dg rfl Ch ?_;exact Z.1):X:=h ⟨k⟩
def Q_(h:A Y X:=by intro Z;refine Ap (H':=HP.AA q 0 [.slice p70 (z.l.take fr++r::z.l.drop to).length c70,uN z.floor,iN z.AN]*(AD b70 o70 (z.l.take fr++r::z.l.drop to) s70*(HP.AA b8 0 [uN r.lo,uN r.hi]*(HP.AA b5 0 [uN hi]*(HP.AA b4 0 [uN (max lo z.floor)]*(HP.AA b3 0 [ptr q 0]*R)))))) Cm ?_;exact Z.1):X:=h ⟨k⟩
def wO(h:A Y X:=by intro Z;refine Ap (H':=AD b70 o70 (z.l.take fr++r::z.l.drop to) s70*(HP.AA q 0 [.slice p70 (z.l.take fr++r::z.l.drop to).length c70,uN ((rg (z.l.take fr++r::z.l.drop to) 0).hi+1),iN z.AN]*(HP.AA b8 0 [uN r.lo,uN r.hi]*(HP.AA b5 0 [uN hi]*(HP.AA b4 0 [uN (max lo z.floor)]*(HP.AA b3 0 [ptr q 0]*R)))))) Cm ?_;exact Z.1):X:=h ⟨k⟩
def kw(h:A Y X:=by intro Z;refine Dc (HP.AA q 0 [.slice p70 (z.l.take fr++r::z.l.drop to).length c70,uN ((rg (z.l.take fr++r::z.l.drop to) 0).hi+1),iN z.AN]*(HP.AA b8 0 [uN r.lo,uN r.hi]*(HP.AA b5 0 [uN hi]*(HP.AA b4 0 [uN (max lo z.floor)]*(HP.AA b3 0 [ptr q 0]*R))))) 8 9 Dg rfl Ch ?_;exact Z.1):X:=h ⟨k⟩
def dW(h:A Y X:=by intro Z;refine wpIn_mono (hasg pre x l (HP.obj l (rec_ .ready none)*(HP.obj w.heap.size (.deferred (some []))*R)) _ W hE rfl (e2▸hW)) ?_;exact Z.1):X:=h ⟨k⟩
def eI(h:A Y X:=by intro Z;refine⟨_,_,run_endRound none hb2,.bool true,_,rfl,⟨true,rfl,fun _=>hG,rfl⟩,?_⟩;exact Z.1):X:=h ⟨k⟩
def fA(h:A Y X:=by intro Z;refine⟨_,_,run_endRound (some (ET (some id0))) hb2,.bool false,_,rfl,⟨false,rfl,fun h=>Xv,rfl⟩,?_⟩;exact Z.1):X:=h ⟨k⟩
def gD(h:A Y X:=by intro Z;refine⟨_,_,run_endRound (some (ET none)) hb2,.bool false,_,rfl,⟨false,rfl,fun h=>Xv,rfl⟩,?_⟩;exact Z.1):X:=h ⟨k⟩
def dC(h:A Y X:=by intro Z;refine Ap (H':=HP.AA cb (0+43+j*10) (Bz wm)*(B6 wm*(AT cb m.x*(Cc cb m.ws j*(GM m cb*R))))) Vh ?_;exact Z.1):X:=h ⟨k⟩
def qE(h:A Y X:=by intro Z;refine Au (HP.AA cb (0+43+j*10) (Bz w2)*(B6 w2*R)) (hE:=by rw [hw2,eag];unfold B6;infer_instance) ?_;exact Z.1):X:=h ⟨k⟩
def bW(h:A Y X:=by intro Z;show _=HP.AA b3 0 (AI r)*(HP.AA b o [.slice a1.p z.b.length a1.c,ptr rm.cq 0,uN (max rm.r.high (r.f.offset+r.f.data.size)),uN (if r.f.fin then(r.f.offset+r.f.data.size)else rm.r.end_),.bool (rm.r.ended||r.f.fin),.bool rm.r.given,uN rm.r.code,uN rm.r.read,iN rm.r.state]*(HP.AA a1.b a1.o (AE z.b++a1.s)*AH rm.cq z.ca z.AF*R));exact Z.1):X:=h ⟨k⟩
def fU(h:A Y X:=by intro Z;show _=AD b81 o81 (rm1.r.b.take (min ((AR rm1.r.read rm1.r.high rm1.r.AF.l).1-rm1.r.read) AN.toNat)) s81*(AT cb m.x*(HP.AA cb (0+83+j*9) [.slice p89 (rm1.r.b.drop (min ((AR rm1.r.read rm1.r.high rm1.r.AF.l).1-rm1.r.read) AN.toNat)).length c89,ptr rm1.cq 0,uN rm1.r.high,uN rm1.r.end_,.bool rm1.r.ended,.bool rm1.r.given,uN rm1.r.code,uN (rm1.r.read+(min ((AR rm1.r.read rm1.r.high rm1.r.AF.l).1-rm1.r.read) AN.toNat)),iN (if rm1.r.ended=true∧rm1.r.read+(min ((AR rm1.r.read rm1.r.high rm1.r.AF.l).1-rm1.r.read) AN.toNat)=rm1.r.end_ then 1 else rm1.r.state)]*(AD b89 o89 (rm1.r.b.drop (min ((AR rm1.r.read rm1.r.high rm1.r.AF.l).1-rm1.r.read) AN.toNat)) s89*AH rm1.cq rm1.ca rm1.r.AF*(Eo cb m.rs j*(FE m cb*R)))));exact Z.1):X:=h ⟨k⟩
def oF(h:A Y X:=by intro Z;refine FB (H':=AD b o xs s*(HP.AA b6 0 (AE [(4:UInt8)])*(HP.AA fb 0 (AI r)*R))) I0 ?_;exact Z.1):X:=h ⟨k⟩
def Zb(h:A Y X:=by intro Z;refine FB (H':=AD b o xs s*(HP.AA b12 0 (AE [(bif r.f.fin then(9:UInt8)else 8)])*(HP.AA fb 0 (AI r)*R))) I0 ?_;exact Z.1):X:=h ⟨k⟩
def cH(h:A Y X:=by intro Z;refine Dc (HP.AA b5 0 [uN (rg r.f.ranges 0).lo,uN (rg r.f.ranges 0).hi]*(HP.AA fb 0 (AI r)*R)) 19 21 Dg rfl Ch ?_;exact Z.1):X:=h ⟨k⟩
def Zj(h:A Y X:=by intro Z;refine FB (H':=AD b o xs s*(HP.AA b15 0 (AE [(2:UInt8)])*(HP.AA b5 0 [uN (rg r.f.ranges 0).lo,uN (rg r.f.ranges 0).hi]*(HP.AA fb 0 (AI r)*R)))) tO ?_;exact Z.1):X:=h ⟨k⟩
def Y8(h:A Y X:=by intro Z;refine Dc (HP.AA b7 0 [uN (rg r.f.ranges (i+1)).lo,uN (rg r.f.ranges (i+1)).hi]*(HP.AA fb 0 (AI r)*R)) 21 21 Dg rfl Ch ?_;exact Z.1):X:=h ⟨k⟩
def oz(h:A Y X:=by intro Z;refine Aw (H':=HP.AA b3 0 (AI r)*(C*(DO bc f1 f2 f3 us1 us2 us3*(AD b o xs s*R)))) Cm ?_;exact Z.1):X:=h ⟨k⟩
def ph(h:A Y X:=by intro Z;refine mE rfl (lT r b3 bc f1 f2 f3 us1 us2 us3 C _ hF hw rfl hm inferInstance) ?_;exact Z.1):X:=h ⟨k⟩
def cK(h:A Y X:=by intro Z;refine Aw (H':=AD b o xs s*(HP.AA b3 0 (AI r)*(C*(DO bc f1 f2 f3 us1 us2 us3*R)))) Cm ?_;exact Z.1):X:=h ⟨k⟩
def Yr(h:A Y X:=by intro Z;refine mE rfl (tV m.x.gq n.toNat 4611686018427387904 m.ga m.AO _ hm.g hi.AO (by have h7:=hi.AO.len;rw [hi.gm]at h7;have h8:m.AO.l.length≤8:=h7;omega)) ?_;exact Z.1):X:=h ⟨k⟩
def ZG(h:A Y X:=by intro Z;refine Ap (H':=AT cb m2.x*(AH m2.x.gq m2.ga m2.AO*(BG cb m2.ws*(Bl cb m2.rs*(Di m2*(HP.AA b14 0 (AI (rs.getD i AB.AC))*(AD b45 o45 rs s45*(A0 rs*(AD b28 o28 ys s28*(R)))))))))) (by first|rw [Dd] |rfl) ?_;exact Z.1):X:=h ⟨k⟩
def ZD(h:A Y X:=by intro Z;refine FB (H':=Ba db dm*(HP.AA cb (0+43+j*10) (Bz wm)*(AD wm.a.b wm.a.o wm.w.b wm.a.s*(AH wm.sq wm.sa wm.w.AJ*(AH wm.cq wm.ca wm.w.AF*(Cc cb ws j*R)))))) Cm ?_;exact Z.1):X:=h ⟨k⟩
def aV(h:A Y X:=by intro Z;show _=HP.AA b13 0 (AI (DL (B7 j lo (wm.w.finished&&decide (hi2=wm.w.b.length)) (cut wm.w.b lo hi2))))*(HP.AA cb (0+43+j*10) [.slice wm.a.p wm.w.b.length wm.a.c,ptr wm.sq 0,ptr wm.cq 0,uN (max wm.w.high hi2),.bool wm.w.finished,.bool (wm.w.ending||(wm.w.finished&&decide (hi2=wm.w.b.length))),.bool wm.w.ended,.bool wm.w.given,uN wm.w.code,.bool wm.w.Da]*(AD wm.a.b wm.a.o wm.w.b wm.a.s*(AH wm.sq sa2 (if lo<hi2 then wm.w.AJ.add lo (hi2-1)else wm.w.AJ)*AH wm.cq wm.ca wm.w.AF)*Cc cb ws j)*(Ba db dm2*R));exact Z.1):X:=h ⟨k⟩
def Zz(h:A Y X:=by intro Z;refine FB (H':=AD 0 0 ([]:List UInt8) []*(Ba b35 (⟨⟨[],m.x.AY-16⟩,BP,[],BP⟩:Dq)*(Ac cb m*(Dl pk*(AD tb ob tf ts*R))))) Cx ?_;exact Z.1):X:=h ⟨k⟩
def Zs(h:A Y X:=by intro Z;refine Aw (H':=HP.AA (m.outs.getD j AB.AC).q 0 (F5z (m.outs.getD j AB.AC))*(AH (m.outs.getD j AB.AC).cq (m.outs.getD j AB.AC).ca (m.outs.getD j AB.AC).o.AF*(Ab sb m.x*(AD m.oa.b m.oa.o m.outs m.oa.s*(BX BJ m.outs j*(Et m sb*R)))))) Cm ?_;exact Z.1):X:=h ⟨k⟩
def gW(h:A Y X:=by intro Z;refine mE rfl (L! (m.outs.getD j AB.AC) _ hom (fun r hr=>by have:=hoo.co.hi r hr;omega)) ?_;exact Z.1):X:=h ⟨k⟩
def pN(h:A Y X:=by intro Z;show _=HP.AA b8 0 (AI ((m.AJ.getD i AB.AC).fs.getD k AB.AC))*(Ab sb m.x*(AH m.x.gq m.ga m.AO*(AH m.x.eq m.ea m.Ao*(m.da.h (m.due.map Ay.mk)*(m.oa.h (outs3.set j o2)*(AM BJ (outs3.set j o2)*(m.ia.h m.ins*(AM BC m.ins*(AD m.sa.b m.sa.o m.AJ m.sa.s*(AM B3 m.AJ*R))))))))));exact Z.1):X:=h ⟨k⟩
def oX(h:A Y X:=by intro Z;show _=HP.AA b8 0 (AI ((m.AJ.getD i AB.AC).fs.getD k AB.AC))*(Ab sb m.x*(AD m.oa.b m.oa.o outs3 m.oa.s*(HP.AA (outs3.getD j AB.AC).q 0 (F5z (outs3.getD j AB.AC))*(AH (outs3.getD j AB.AC).cq a113 ((outs3.getD j AB.AC).o.AF.add ((m.AJ.getD i AB.AC).fs.getD k AB.AC).f.offset (((m.AJ.getD i AB.AC).fs.getD k AB.AC).f.offset+((m.AJ.getD i AB.AC).fs.getD k AB.AC).f.data.size-1))*(BX BJ outs3 j*(Et (m.Ey outs3) sb*R))))));exact Z.1):X:=h ⟨k⟩
def oV(h:A Y X:=by intro Z;refine BL (α:=Nat×Option Addr×Nat×Nat×Nat×List Value) (fun z=>[(0,.slice p fs.length c),(6,.slice z.2.1 (BN (fs.take z.1)).length z.2.2.2.2.1),(7,iN z.1)]) (fun z=>AD z.2.2.1 z.2.2.2.1 (BN (fs.take z.1)) z.2.2.2.2.2*H) (fun z=>z.1≤fs.length∧Sl z.2.1 z.2.2.1 z.2.2.2.1 (BN (fs.take z.1)).length z.2.2.2.2.1∧(BN (fs.take z.1)).length*1+z.2.2.2.2.2.length=z.2.2.2.2.1*1) (fun z=>fs.length-z.1) (0,none,0,0,0,[]) ⟨Nat.zero_le _,DG,rfl⟩ CS qJ ?_;exact Z.1):X:=h ⟨k⟩
def aM(h:A Y X:=by intro Z;refine mE rfl (I! (rs.getD i AB.AC) q qb qo qc (BN (fs.take i)) qs H (hmd _ hmem) (hall.2 i hlt) hrr hqs hqc Cg) ?_;exact Z.1):X:=h ⟨k⟩
def kU(h:A Y X:=by intro Z;refine mE rfl (Kh rb p b o c xs a bad _ hs inferInstance hx Cg) ?_;exact Z.1):X:=h ⟨k⟩
def Zk(h:A Y X:=by intro Z;refine mE rfl (Kh rb p b o c xs a47 bad47 _ hs inferInstance hx Cg) ?_;exact Z.1):X:=h ⟨k⟩
def mQ(h:A Y X:=by intro Z;refine mE rfl (Kh rb p b o c xs a60 bad60 _ hs inferInstance hx Cg) ?_;exact Z.1):X:=h ⟨k⟩
def nW(h:A Y X:=by intro Z;refine mE rfl (tx rb p b o c xs a63 bad63 _ hs inferInstance hx Cg) ?_;exact Z.1):X:=h ⟨k⟩
def jX(h:A Y X:=by intro Z;refine mE rfl (Kh rb p b o c xs (a+1) false _ hs inferInstance hx Cg) ?_;exact Z.1):X:=h ⟨k⟩
def pF(h:A Y X:=by intro Z;refine Ap (H':=AD b48 o48 rs s48*(A0 rs*(AD b33 o33 ys s33*(Ab sb m2.x*(AH m2.x.gq m2.ga m2.AO*(AH m2.x.eq m2.ea m2.Ao*(AD m2.da.b m2.da.o (m2.due.map Ay.mk) m2.da.s*(m2.oa.h m2.outs*(AM BJ m2.outs*(m2.ia.h m2.ins*(AM BC m2.ins*(m2.sa.h m2.AJ*(AM B3 m2.AJ*R))))))))))))) dw ?_;exact Z.1):X:=h ⟨k⟩
def aA(h:A Y X:=by intro Z;show some (Value.slice p149 (lf.map Ay.mk++[Ay.mk (m.due.getD i 0)]).length c149)=some (Value.slice p149 (lf++[(m.due.getD i 0)]).length c149);exact Z.1):X:=h ⟨k⟩
def ZX(h:A Y X:=by intro Z;refine Ap (H':=Ab sb m.x*(AD m.oa.b m.oa.o m.outs m.oa.s*(HP.AA (m.outs.getD j AB.AC).q 0 (F5z (m.outs.getD j AB.AC))*(AH (m.outs.getD j AB.AC).cq (m.outs.getD j AB.AC).ca (m.outs.getD j AB.AC).o.AF*(BX BJ m.outs j*(HP.AA b3 0 (AI r)*(Et m sb*R))))))) r9 ?_;exact Z.1):X:=h ⟨k⟩
def Im(h:A Y X:=by intro Z;refine H4 ?_;refine J1 ?_;refine H4 ?_;refine J1 ?_;refine H4 ?_;exact Z.1):X:=h ⟨k⟩
def Kl(h:A Y X:=by intro Z;refine IY ?_;refine IY ?_;refine IY ?_;refine IY ?_;refine IY ?_;exact Z.1):X:=h ⟨k⟩
def Hu(h:A Y X:=by intro Z;refine Fr ?_;refine Ut ?_;refine QX ?_;exact Z.1):X:=h ⟨k⟩
def Dw(h:A Y X:=by intro Z;refine JR ?_;refine DS ?_;refine JD ?_;exact Z.1):X:=h ⟨k⟩
def Oa(h:A Y X:=by intro Z;refine Ga ?_;refine Ga ?_;refine Ga ?_;exact Z.1):X:=h ⟨k⟩
def Fh(h:A Y X:=by intro Z;refine G8 ?_;refine G8 ?_;refine G8 ?_;exact Z.1):X:=h ⟨k⟩
def Rb(h:A Y X:=by intro Z;refine JU 22 ?_;refine JU 23 ?_;refine JU 24 ?_;refine JU 25 ?_;refine JU 26 ?_;refine JU 27 ?_;refine JU 28 ?_;refine JU 29 ?_;refine JU 30 ?_;exact Z.1):X:=h ⟨k⟩
def FO(h:A Y X:=by intro Z;refine Ki ?_;refine J2 ?_;exact Z.1):X:=h ⟨k⟩
def JA(h:A Y X:=by intro Z;refine Ir ?_;refine J1 ?_;refine Ir ?_;exact Z.1):X:=h ⟨k⟩
def Sg(h:A Y X:=by intro Z;refine HD ?_;refine Jn 5 ?_;refine Hk ?_;refine Jd 7 ?_;exact Z.1):X:=h ⟨k⟩
def zX(h:A Y X:=by intro Z;refine J1 ?_;refine Ot ?_;refine J1 ?_;refine Ot ?_;refine J1 ?_;refine Ot ?_;exact Z.1):X:=h ⟨k⟩
def Y6(h:A Y X:=by intro Z;refine Hh ?_;refine J1 ?_;refine Hh ?_;refine J1 ?_;refine Hh ?_;exact Z.1):X:=h ⟨k⟩
def I8(h:A Y X:=by intro Z;refine JV ?_;refine JV ?_;refine JV ?_;exact Z.1):X:=h ⟨k⟩
def EQ(h:A Y X:=by intro Z;refine Fr ?_;refine qM ?_;exact Z.1):X:=h ⟨k⟩
def CZ(h:A Y X:=by intro Z;refine FC ?_;refine J3 ?_;exact Z.1):X:=h ⟨k⟩
def SH(h:A Y X:=by intro Z;refine P8 ?_;refine Lb ?_;refine JW ?_;exact Z.1):X:=h ⟨k⟩
def O'(h:A Y X:=by intro Z;refine G2 ?_;refine J1 ?_;refine G2 ?_;refine J1 ?_;refine G2 ?_;exact Z.1):X:=h ⟨k⟩
def QD(h:A Y X:=by intro Z;refine yX ?_;refine ju ?_;refine zW ?_;refine bj ?_;refine qw ?_;refine ru ?_;refine cj ?_;exact Z.1):X:=h ⟨k⟩
def N2(h:A Y X:=by intro Z;refine Ie ?_;refine Ie ?_;refine Ie ?_;refine Ie ?_;exact Z.1):X:=h ⟨k⟩
def KV(h:A Y X:=by intro Z;refine JC ?_;refine J1 ?_;refine JC ?_;exact Z.1):X:=h ⟨k⟩
def C3(h:A Y X:=by intro Z;refine JD ?_;refine J2 ?_;exact Z.1):X:=h ⟨k⟩
def Pv(h:A Y X:=by intro Z;refine m8 ?_;refine lY ?_;refine lJ ?_;refine jH ?_;refine nS ?_;refine mO ?_;exact Z.1):X:=h ⟨k⟩
def UI(h:A Y X:=by intro Z;refine J1 ?_;refine KB ?_;refine J1 ?_;refine KB ?_;refine J1 ?_;exact Z.1):X:=h ⟨k⟩
def SV(h:A Y X:=by intro Z;refine BF ?_;refine Jm 11 ?_;refine JT 12 rfl Gk ?_;refine JT 13 rfl Gk ?_;refine JT 14 rfl Gk ?_;refine Ja 15 ?_;refine Ja 16 ?_;refine Ja 17 ?_;refine JD ?_;exact Z.1):X:=h ⟨k⟩
def Mg(h:A Y X:=by intro Z;refine OF ?_;refine OF ?_;refine OF ?_;exact Z.1):X:=h ⟨k⟩
def GA(h:A Y X:=by intro Z;refine J2 ?_;refine FC ?_;exact Z.1):X:=h ⟨k⟩
def EU(h:A Y X:=by intro Z;refine JD ?_;refine J1 ?_;exact Z.1):X:=h ⟨k⟩
def Fi(h:A Y X:=by intro Z;refine f9 ?_;refine JR ?_;exact Z.1):X:=h ⟨k⟩
def MK(h:A Y X:=by intro Z;refine Hu ?_;refine NY ?_;exact Z.1):X:=h ⟨k⟩
def Vo(h:A Y X:=by intro Z;refine JU 17 ?_;refine JU 18 ?_;refine JU 19 ?_;refine JU 20 ?_;refine JU 21 ?_;refine Rb ?_;exact Z.1):X:=h ⟨k⟩
def Mo(h:A Y X:=by intro Z;refine Jd 0 ?_;refine Ut ?_;refine QX ?_;refine NY ?_;exact Z.1):X:=h ⟨k⟩
def Gv(h:A Y X:=by intro Z;refine J2 ?_;refine Xn ?_;exact Z.1):X:=h ⟨k⟩
def Pe(h:A Y X:=by intro Z;refine Gr ?_;refine Gr ?_;refine Gr ?_;exact Z.1):X:=h ⟨k⟩
def Ox(h:A Y X:=by intro Z;refine JU 31 ?_;refine JU 32 ?_;refine JU 33 ?_;refine JU 34 ?_;exact Z.1):X:=h ⟨k⟩
def gL(h:A Y X:=by intro Z;refine J1 ?_;refine JL uo ?_;refine H8 ?_;refine J1 ?_;refine JL rS ?_;refine H8 ?_;refine J1 ?_;refine H8 ?_;refine FM ?_;exact Z.1):X:=h ⟨k⟩
def V!(h:A Y X:=by intro Z;refine F0 ?_;refine kA ?_;refine F0 ?_;exact Z.1):X:=h ⟨k⟩
def eG(h:A Y X:=by intro Z;refine JT 12 rfl Ju ?_;refine Jm 13 ?_;refine Is 14 rfl Ch rfl rfl rfl rfl A7 ?_;refine Is 15 rfl Ch rfl rfl rfl rfl Bb ?_;refine Is 16 rfl Ch rfl rfl rfl rfl A4 ?_;refine Is 17 rfl Ch rfl rfl rfl rfl CP ?_;refine Is 18 rfl Ch rfl rfl rfl rfl A7 ?_;refine Is 19 rfl Ch rfl rfl rfl rfl Bb ?_;refine Is 20 rfl Ch rfl rfl rfl rfl MI ?_;exact Z.1):X:=h ⟨k⟩
def kR(h:A Y X:=by intro Z;refine VY ?_;refine V2 ?_;refine Xh ?_;refine Ys ?_;refine ZO ?_;refine eD ?_;refine oH ?_;refine DU 30 rfl Ch rfl rfl rfl rfl ?_;refine DU 31 rfl Ch rfl rfl rfl rfl ?_;exact Z.1):X:=h ⟨k⟩
def ML(h:A Y X:=by intro Z;refine Jm 5 ?_;refine Jn 6 ?_;refine Jf 7 ?_;refine Jd 8 ?_;exact Z.1):X:=h ⟨k⟩
def L4(h:A Y X:=by intro Z;refine Jd 0 ?_;refine Jd 1 ?_;refine SH ?_;exact Z.1):X:=h ⟨k⟩
def Eb(h:A Y X:=by intro Z;refine KS ?_;refine J2 ?_;exact Z.1):X:=h ⟨k⟩
def VW(h:A Y X:=by intro Z;refine QD ?_;refine JN 12 rfl hg1 ?_;refine JN 13 rfl hg1 ?_;refine JN 14 rfl hg1 ?_;refine JN 15 rfl hg1 ?_;exact Z.1):X:=h ⟨k⟩
def HB(h:A Y X:=by intro Z;refine Jf 4 ?_;refine Jd 5 ?_;exact Z.1):X:=h ⟨k⟩
def OY(h:A Y X:=by intro Z;refine Jm 6 ?_;refine Jn 7 ?_;refine Jf 8 ?_;refine Jd 9 ?_;exact Z.1):X:=h ⟨k⟩
def E5(h:A Y X:=by intro Z;refine JR ?_;refine J4 ?_;exact Z.1):X:=h ⟨k⟩
def PH(h:A Y X:=by intro Z;refine J6 ?_;refine vX ?_;refine JR ?_;refine J7 ?_;refine SM ?_;refine J2 ?_;exact Z.1):X:=h ⟨k⟩
def Hy(h:A Y X:=by intro Z;refine pu ?_;refine J3 ?_;exact Z.1):X:=h ⟨k⟩
def W5(h:A Y X:=by intro Z;refine JG hg4 ?_;refine J1 ?_;refine JG hg4 ?_;refine J1 ?_;refine JG hg4 ?_;exact Z.1):X:=h ⟨k⟩
def UH(h:A Y X:=by intro Z;refine JG F2 ?_;refine J1 ?_;refine JG F2 ?_;exact Z.1):X:=h ⟨k⟩
def U'(h:A Y X:=by intro Z;refine J3 ?_;refine mA 9 9 ?_;refine EQ ?_;refine SH ?_;refine Ja 5 ?_;refine Ja 6 ?_;refine JT 7 rfl YP ?_;refine Ja 8 ?_;refine C3 ?_;exact Z.1):X:=h ⟨k⟩
def Gj(h:A Y X:=by intro Z;refine JR ?_;refine BF ?_;exact Z.1):X:=h ⟨k⟩
def Fb(h:A Y X:=by intro Z;refine J4 ?_;refine FO ?_;exact Z.1):X:=h ⟨k⟩
def Hc(h:A Y X:=by intro Z;refine J1 ?_;refine Oa ?_;exact Z.1):X:=h ⟨k⟩
def V6(h:A Y X:=by intro Z;refine JN 15 rfl F2 ?_;refine JN 16 rfl F2 ?_;refine JN 17 rfl F2 ?_;refine JN 18 rfl F2 ?_;refine JN 19 rfl F2 ?_;refine JN 20 rfl F2 ?_;exact Z.1):X:=h ⟨k⟩
def P3(h:A Y X:=by intro Z;refine Jm 9 ?_;refine Jn 10 ?_;refine Jf 11 ?_;refine Jd 12 ?_;exact Z.1):X:=h ⟨k⟩
def YE(h:A Y X:=by intro Z;refine JN 15 rfl T2 ?_;refine JN 16 rfl T2 ?_;refine JN 17 rfl T2 ?_;refine JN 18 rfl T2 ?_;refine JN 19 rfl T2 ?_;refine JN 20 rfl T2 ?_;exact Z.1):X:=h ⟨k⟩
def Jc(h:A Y X:=by intro Z;refine J2 ?_;refine Fz ?_;exact Z.1):X:=h ⟨k⟩
def Fu(h:A Y X:=by intro Z;refine J5 ?_;refine FO ?_;exact Z.1):X:=h ⟨k⟩
def IA(h:A Y X:=by intro Z;refine J7 ?_;refine DY ?_;exact Z.1):X:=h ⟨k⟩
def SN(h:A Y X:=by intro Z;refine JG hg6 ?_;refine J1 ?_;refine JG hg6 ?_;refine J1 ?_;exact Z.1):X:=h ⟨k⟩
def nG(h:A Y X:=by intro Z;refine JG hg5 ?_;refine J1 ?_;refine JG hg5 ?_;refine J1 ?_;refine JG hg5 ?_;refine J1 ?_;exact Z.1):X:=h ⟨k⟩
def YX(h:A Y X:=by intro Z;refine JG hg7 ?_;refine J1 ?_;refine JG hg7 ?_;refine J1 ?_;refine JG hg7 ?_;refine J1 ?_;exact Z.1):X:=h ⟨k⟩
def wP(h:A Y X:=by intro Z;refine JL (LA (j:=56) rfl rfl Cg) ?_;refine H8 ?_;refine JL (VA (j:=192) rfl rfl ⟨Cg,Cg⟩) ?_;refine J1 ?_;refine JL (LA (j:=48) rfl rfl Cg) ?_;refine H8 ?_;refine J1 ?_;refine JL (LA (j:=40) rfl rfl Cg) ?_;refine H8 ?_;exact Z.1):X:=h ⟨k⟩
def S6(h:A Y X:=by intro Z;refine Sm ?_;refine Dw ?_;refine J2 ?_;refine mA 13 14 ?_;refine EQ ?_;refine P8 ?_;exact Z.1):X:=h ⟨k⟩
def Xl(h:A Y X:=by intro Z;refine Jf 14 ?_;refine Jd 15 ?_;refine Jf 16 ?_;refine Jd 17 ?_;refine JT 18 rfl Ez ?_;exact Z.1):X:=h ⟨k⟩
def Mn(h:A Y X:=by intro Z;refine H4 ?_;refine J1 ?_;exact Z.1):X:=h ⟨k⟩
def Fq(h:A Y X:=by intro Z;refine JR ?_;refine J1 ?_;exact Z.1):X:=h ⟨k⟩
def fN(h:A Y X:=by intro Z;refine JY 5 rfl hg1 A4 ?_;refine JY 6 rfl hg1 CP ?_;refine JY 7 rfl hg1 A7 ?_;refine JY 8 rfl hg1 Bb ?_;refine JY 9 rfl hg1 A7 ?_;refine JY 10 rfl hg1 Bb ?_;refine JY 11 rfl hg1 bQ ?_;refine JT 12 rfl L8 ?_;refine Jm 13 ?_;exact Z.1):X:=h ⟨k⟩
def kL(h:A Y X:=by intro Z;refine JY 14 rfl F2 A7 ?_;refine JY 15 rfl F2 Bb ?_;refine JY 16 rfl F2 A4 ?_;refine JY 17 rfl F2 CP ?_;refine JY 18 rfl F2 A7 ?_;refine JY 19 rfl F2 Bb ?_;refine JY 20 rfl F2 MI ?_;refine JT 21 rfl FQ ?_;refine JD ?_;exact Z.1):X:=h ⟨k⟩
def S0(h:A Y X:=by intro Z;refine Jf 1 ?_;refine Jd 2 ?_;refine Jn 3 ?_;refine Jf 4 ?_;refine JT 5 rfl w4 ?_;exact Z.1):X:=h ⟨k⟩
def Re(h:A Y X:=by intro Z;refine Jm 11 ?_;refine Jn 12 ?_;refine Jf 13 ?_;refine Jd 14 ?_;exact Z.1):X:=h ⟨k⟩
def Ps(h:A Y X:=by intro Z;refine JL Wi ?_;refine J1 ?_;refine JL Zh ?_;refine JL W9 ?_;exact Z.1):X:=h ⟨k⟩
def vJ(h:A Y X:=by intro Z;refine JN 13 rfl hg2 ?_;refine JN 14 rfl hg2 ?_;refine JN 15 rfl hg2 ?_;refine JN 16 rfl hg2 ?_;refine JN 17 rfl hg2 ?_;refine JN 18 rfl hg2 ?_;refine JN 19 rfl hg2 ?_;refine JN 20 rfl hg2 ?_;refine JN 21 rfl hg2 ?_;exact Z.1):X:=h ⟨k⟩
def Ha(h:A Y X:=by intro Z;refine JR ?_;refine J6 ?_;exact Z.1):X:=h ⟨k⟩
def dD(h:A Y X:=by intro Z;refine JN 21 rfl F2 ?_;refine JN 22 rfl F2 ?_;refine JN 23 rfl F2 ?_;refine JN 24 rfl F2 ?_;refine JN 25 rfl F2 ?_;refine JN 26 rfl F2 ?_;refine JN 27 rfl F2 ?_;refine JN 28 rfl F2 ?_;refine JN 29 rfl F2 ?_;exact Z.1):X:=h ⟨k⟩
def kJ(h:A Y X:=by intro Z;refine vJ ?_;refine JN 22 rfl hg2 ?_;refine JN 23 rfl hg2 ?_;refine JN 24 rfl hg2 ?_;refine JN 25 rfl hg2 ?_;refine JN 26 rfl hg2 ?_;refine JN 27 rfl hg2 ?_;refine JN 28 rfl hg2 ?_;refine JN 29 rfl hg2 ?_;exact Z.1):X:=h ⟨k⟩
def Rv(h:A Y X:=by intro Z;refine JG F4 ?_;refine J1 ?_;refine JG F4 ?_;exact Z.1):X:=h ⟨k⟩
def TQ(h:A Y X:=by intro Z;refine JU 14 ?_;refine JU 15 ?_;refine JU 16 ?_;refine Vo ?_;refine Ox ?_;exact Z.1):X:=h ⟨k⟩
def Lx(h:A Y X:=by intro Z;refine J5 ?_;refine OO ?_;refine JR ?_;exact Z.1):X:=h ⟨k⟩
def O6(h:A Y X:=by intro Z;refine Jf 0 ?_;refine Jd 1 ?_;refine Jm 2 ?_;refine Jn 3 ?_;exact Z.1):X:=h ⟨k⟩
def Vp(h:A Y X:=by intro Z;refine JH T2 ?_;refine JH T2 ?_;refine JH T2 ?_;refine JL FR ?_;refine Hc ?_;refine Ig ?_;refine Gv ?_;exact Z.1):X:=h ⟨k⟩
def pj(h:A Y X:=by intro Z;refine Dc (HP.AA fb 0 (AI r)*R) 19 21 Dg rfl Ch ?_;refine EQ ?_;refine Sg ?_;refine JT 8 rfl iX ?_;refine Jm 10 ?_;refine Jn 11 ?_;refine Jf 12 ?_;refine Jd 13 ?_;refine Jm 15 ?_;exact Z.1):X:=h ⟨k⟩
def jW(h:A Y X:=by intro Z;refine JN 7 rfl hg3 ?_;refine JN 8 rfl hg3 ?_;refine JN 9 rfl hg3 ?_;refine JN 10 rfl hg3 ?_;refine JN 11 rfl hg3 ?_;refine JN 12 rfl hg3 ?_;refine JN 13 rfl hg3 ?_;refine JN 14 rfl hg3 ?_;exact Z.1):X:=h ⟨k⟩
def bw(h:A Y X:=by intro Z;refine Dc (HP.AA fb 0 (AI r)*R) 18 20 Dg rfl Ch ?_;refine Fr ?_;refine Jm 3 ?_;refine Jn 4 ?_;refine Jf 5 ?_;refine Jd 6 ?_;refine JT 7 rfl iX ?_;refine P3 ?_;refine Jm 14 ?_;exact Z.1):X:=h ⟨k⟩
def XJ(h:A Y X:=by intro Z;refine JH T4 ?_;refine JH T4 ?_;refine JH T4 ?_;exact Z.1):X:=h ⟨k⟩
def fR(h:A Y X:=by intro Z;refine JN 23 rfl F4 ?_;refine JN 24 rfl F4 ?_;refine JN 25 rfl F4 ?_;refine JN 26 rfl F4 ?_;refine JN 27 rfl F4 ?_;refine JN 28 rfl F4 ?_;refine JN 29 rfl F4 ?_;refine JN 30 rfl F4 ?_;exact Z.1):X:=h ⟨k⟩
def Wd(h:A Y X:=by intro Z;refine mA 18 18 ?_;refine Hu ?_;refine JT 3 rfl jc ?_;refine Sg ?_;exact Z.1):X:=h ⟨k⟩
def Um(h:A Y X:=by intro Z;refine I8 ?_;refine JP ?_;refine Hc ?_;refine Ig ?_;refine Hc ?_;refine Ig ?_;refine Gv ?_;exact Z.1):X:=h ⟨k⟩
def XQ(h:A Y X:=by intro Z;refine JT 3 rfl jF ?_;refine HB ?_;refine JT 6 rfl gN ?_;refine JT 7 rfl Yk ?_;refine Ja 8 ?_;exact Z.1):X:=h ⟨k⟩
def G6(h:A Y X:=by intro Z;refine JR ?_;refine J3 ?_;exact Z.1):X:=h ⟨k⟩
def HN(h:A Y X:=by intro Z;refine JD ?_;refine J3 ?_;exact Z.1):X:=h ⟨k⟩
def Hv(h:A Y X:=by intro Z;refine K1 ?_;refine J2 ?_;exact Z.1):X:=h ⟨k⟩
def Hj(h:A Y X:=by intro Z;refine J2 ?_;refine B? ?_;exact Z.1):X:=h ⟨k⟩
def Rk(h:A Y X:=by intro Z;refine zX ?_;refine J1 ?_;refine Ot ?_;refine J1 ?_;refine Ot ?_;exact Z.1):X:=h ⟨k⟩
def eA(h:A Y X:=by intro Z;refine Ap (H':=AD b o (l.take i) (AE (l.drop i)++s)*R) dH ?_;refine mA 6 8 ?_;refine EQ ?_;refine JT 2 rfl XM ?_;refine Jm 3 ?_;refine HD ?_;refine JT 5 rfl qv ?_;exact Z.1):X:=h ⟨k⟩
def lB(h:A Y X:=by intro Z;refine Fr ?_;refine Lb ?_;refine JW ?_;refine OY ?_;refine JT 10 rfl Dm ?_;refine JT 11 rfl LZ ?_;refine JT 12 rfl EM ?_;refine Xl ?_;refine Al 1 Ch rfl rfl I3 ?_;exact Z.1):X:=h ⟨k⟩
def nD(h:A Y X:=by intro Z;refine SH ?_;refine Jm 5 ?_;refine JT 6 rfl XT ?_;refine Jf 7 ?_;refine JT 8 rfl qA ?_;refine Jf 9 ?_;refine Jd 10 ?_;refine JT 11 rfl Ez ?_;refine JT 12 rfl Lc ?_;exact Z.1):X:=h ⟨k⟩
def JK(h:A Y X:=by intro Z;refine NH ?_;refine J2 ?_;exact Z.1):X:=h ⟨k⟩
def WN(h:A Y X:=by intro Z;refine JH hg4 ?_;refine JH hg4 ?_;refine JH hg4 ?_;exact Z.1):X:=h ⟨k⟩
def qD(h:A Y X:=by intro Z;refine JL je ?_;refine J1 ?_;refine JL nk ?_;refine J1 ?_;refine JL jj ?_;refine J1 ?_;refine JL l9 ?_;refine JL (yD rfl rfl Ck) ?_;refine AV bF rfl ?_;exact Z.1):X:=h ⟨k⟩
def KA(h:A Y X:=by intro Z;refine MK ?_;refine Sg ?_;exact Z.1):X:=h ⟨k⟩
def JF(h:A Y X:=by intro Z;refine MK ?_;refine HD ?_;exact Z.1):X:=h ⟨k⟩
def rX(h:A Y X:=by intro Z;refine JN 14 rfl F3 ?_;refine JN 15 rfl F3 ?_;refine JN 16 rfl F3 ?_;refine JN 17 rfl F3 ?_;refine JN 18 rfl F3 ?_;refine JN 19 rfl F3 ?_;refine JN 20 rfl F3 ?_;exact Z.1):X:=h ⟨k⟩
def JE(h:A Y X:=by intro Z;refine JR ?_;refine J5 ?_;exact Z.1):X:=h ⟨k⟩
def iM(h:A Y X:=by intro Z;refine Hk ?_;refine Jd 7 ?_;refine Jf 8 ?_;refine Jd 9 ?_;refine JT 10 rfl IG ?_;refine JT 11 rfl EM ?_;refine JT 12 rfl IU ?_;refine JT 13 rfl Nm ?_;exact Z.1):X:=h ⟨k⟩
def SZ(h:A Y X:=by intro Z;refine Jn 10 ?_;refine Jf 11 ?_;refine XN ?_;refine Dw ?_;exact Z.1):X:=h ⟨k⟩
def KO(h:A Y X:=by intro Z;refine JA ?_;refine J1 ?_;exact Z.1):X:=h ⟨k⟩
def Iq(h:A Y X:=by intro Z;refine Jq ?_;refine J2 ?_;exact Z.1):X:=h ⟨k⟩
def nM(h:A Y X:=by intro Z;refine Q_ ?_;refine mA 10 10 ?_;refine Mo ?_;refine JT 4 rfl Dm ?_;refine Jd 5 ?_;refine Jn 6 ?_;refine Jf 7 ?_;refine Jd 8 ?_;refine JT 9 rfl HU ?_;exact Z.1):X:=h ⟨k⟩
def Kz(h:A Y X:=by intro Z;refine FC ?_;refine J4 ?_;exact Z.1):X:=h ⟨k⟩
def kZ(h:A Y X:=by intro Z;refine J7 ?_;refine wP ?_;refine J1 ?_;refine JL (LA (j:=32) rfl rfl Cg) ?_;refine H8 ?_;refine J1 ?_;refine JL mN ?_;refine H8 ?_;refine gL ?_;exact Z.1):X:=h ⟨k⟩
def Zc(h:A Y X:=by intro Z;refine Re ?_;refine Jm 15 ?_;refine Jm 16 ?_;refine JT 17 rfl cg ?_;refine JT 18 rfl oh ?_;refine JT 19 rfl H7 ?_;refine Al 20 Ch rfl rfl xN ?_;exact Z.1):X:=h ⟨k⟩
def YH(h:A Y X:=by intro Z;refine Jn 9 ?_;refine Jf 10 ?_;refine Sm ?_;refine Dw ?_;exact Z.1):X:=h ⟨k⟩
def MB(h:A Y X:=by intro Z;refine JL HG ?_;refine J1 ?_;exact Z.1):X:=h ⟨k⟩
def Kr(h:A Y X:=by intro Z;refine JL qS ?_;refine J2 ?_;exact Z.1):X:=h ⟨k⟩
def Yd(h:A Y X:=by intro Z;refine mA 10 11 ?_;refine Mo ?_;refine HB ?_;refine Jd 6 ?_;refine JT 7 rfl Ll ?_;refine Jf 8 ?_;refine Jd 9 ?_;refine Al 10 Ch rfl rfl aw ?_;exact Z.1):X:=h ⟨k⟩
def XI(h:A Y X:=by intro Z;refine JY 7 rfl hg1 A4 ?_;refine JY 8 rfl hg1 CP ?_;refine JY 9 rfl hg1 A7 ?_;exact Z.1):X:=h ⟨k⟩
def Jw(h:A Y X:=by intro Z;refine EU ?_;refine Xn ?_;exact Z.1):X:=h ⟨k⟩
def UJ(h:A Y X:=by intro Z;refine JC ?_;refine KS ?_;refine JL FR ?_;refine J2 ?_;exact Z.1):X:=h ⟨k⟩
def TI(h:A Y X:=by intro Z;refine wT ?_;refine Ha ?_;refine JL qU ?_;refine J2 ?_;exact Z.1):X:=h ⟨k⟩
def XW(h:A Y X:=by intro Z;refine JH T3 ?_;refine JH T3 ?_;refine JH T3 ?_;refine JL OZ ?_;refine Gv ?_;exact Z.1):X:=h ⟨k⟩
def qZ(h:A Y X:=by intro Z;refine df ?_;refine jn ?_;refine L4 ?_;refine Jm 5 ?_;refine Jm 6 ?_;refine JT 7 rfl (Dp rfl rfl) ?_;refine Al 8 Ch rfl rfl kj ?_;exact Z.1):X:=h ⟨k⟩
def LX(h:A Y X:=by intro Z;refine EQ ?_;refine Jm 2 ?_;exact Z.1):X:=h ⟨k⟩
def jR(h:A Y X:=by intro Z;refine JG F3 ?_;refine J1 ?_;refine JG F3 ?_;exact Z.1):X:=h ⟨k⟩
def ME(h:A Y X:=by intro Z;refine Ka ?_;refine J2 ?_;exact Z.1):X:=h ⟨k⟩
def SJ(h:A Y X:=by intro Z;refine G8 ?_;refine GO ?_;refine Gv ?_;refine J2 ?_;exact Z.1):X:=h ⟨k⟩
def KG(h:A Y X:=by intro Z;refine J6 ?_;refine FO ?_;exact Z.1):X:=h ⟨k⟩
def Jr(h:A Y X:=by intro Z;refine Fi ?_;refine J3 ?_;exact Z.1):X:=h ⟨k⟩
def JZ(h:A Y X:=by intro Z;refine SM ?_;refine J2 ?_;exact Z.1):X:=h ⟨k⟩
def dG(h:A Y X:=by intro Z;refine JL E8 ?_;refine J1 ?_;refine JL HS ?_;refine J1 ?_;refine JL He ?_;refine MB ?_;refine JL He ?_;refine JL Fy ?_;refine J1 ?_;exact Z.1):X:=h ⟨k⟩
def rQ(h:A Y X:=by intro Z;refine JH T2 ?_;refine JH T2 ?_;refine JH T2 ?_;refine Kl ?_;refine IY ?_;refine JH T2 ?_;refine H4 ?_;refine JL FR ?_;refine GO ?_;exact Z.1):X:=h ⟨k⟩
def cB(h:A Y X:=by intro Z;refine O' ?_;refine J1 ?_;refine O' ?_;refine JL bQ ?_;refine JG F2 ?_;refine JL Jz ?_;refine H4 ?_;refine JL FQ ?_;refine GO ?_;exact Z.1):X:=h ⟨k⟩
def bM(h:A Y X:=by intro Z;refine J4 ?_;refine JL rS ?_;refine H8 ?_;refine JL (VA (j:=64) rfl rfl ⟨Cg,Cg⟩) ?_;refine J1 ?_;refine H8 ?_;refine FM ?_;exact Z.1):X:=h ⟨k⟩
def TX(h:A Y X:=by intro Z;refine Jd 7 ?_;refine JT 8 rfl LR ?_;refine Jn 9 ?_;exact Z.1):X:=h ⟨k⟩
def Ky(h:A Y X:=by intro Z;refine Mn ?_;refine H4 ?_;exact Z.1):X:=h ⟨k⟩
def L7(h:A Y X:=by intro Z;refine P8 ?_;refine Lb ?_;exact Z.1):X:=h ⟨k⟩
def Kk(h:A Y X:=by intro Z;refine V! ?_;refine kA ?_;exact Z.1):X:=h ⟨k⟩
def mY(h:A Y X:=by intro Z;refine mA 9 9 ?_;refine Hu ?_;refine JT 3 rfl Wi ?_;refine HB ?_;refine JT 6 rfl fy ?_;refine JT 7 rfl W9 ?_;refine Ja 8 ?_;exact Z.1):X:=h ⟨k⟩
def lN(h:A Y X:=by intro Z;refine JH hg5 ?_;refine JH hg5 ?_;refine JH hg5 ?_;exact Z.1):X:=h ⟨k⟩
def jJ(h:A Y X:=by intro Z;refine JH hg6 ?_;refine JH hg6 ?_;refine JH hg6 ?_;exact Z.1):X:=h ⟨k⟩
def cQ(h:A Y X:=by intro Z;refine JH hg7 ?_;refine JH hg7 ?_;refine JH hg7 ?_;exact Z.1):X:=h ⟨k⟩
def qR(h:A Y X:=by intro Z;refine Mo ?_;refine HD ?_;refine JT 5 rfl LV ?_;refine Hk ?_;refine JT 7 rfl Ze ?_;refine Jd 8 ?_;refine JT 9 rfl MD ?_;exact Z.1):X:=h ⟨k⟩
def K6(h:A Y X:=by intro Z;refine Jc ?_;refine J6 ?_;exact Z.1):X:=h ⟨k⟩
def K2(h:A Y X:=by intro Z;refine J2 ?_;refine PP ?_;exact Z.1):X:=h ⟨k⟩
def LH(h:A Y X:=by intro Z;refine GA ?_;refine J5 ?_;exact Z.1):X:=h ⟨k⟩
def Ou(h:A Y X:=by intro Z;refine Y6 ?_;refine J1 ?_;refine Hh ?_;exact Z.1):X:=h ⟨k⟩
def Ke(h:A Y X:=by intro Z;refine J8 ?_;refine DY ?_;exact Z.1):X:=h ⟨k⟩
def Zf(h:A Y X:=by intro Z;refine UH ?_;refine J1 ?_;refine JG F2 ?_;refine JL (JQ (i:=AG) (j:=16) rfl rfl) ?_;refine JL FQ ?_;refine J1 ?_;exact Z.1):X:=h ⟨k⟩
def Uu(h:A Y X:=by intro Z;refine mI Tryz.func44 ?_;refine GA ?_;refine Kz ?_;refine P7 ?_;exact Z.1):X:=h ⟨k⟩
def eW(h:A Y X:=by intro Z;refine J5 ?_;refine JL w9 ?_;refine J7 ?_;refine JL wR ?_;refine JL (GP (i:=22) (j:=20) rfl rfl) ?_;refine J1 ?_;exact Z.1):X:=h ⟨k⟩
def PN(h:A Y X:=by intro Z;refine IY ?_;refine IY ?_;exact Z.1):X:=h ⟨k⟩
def RR(h:A Y X:=by intro Z;refine JU 35 ?_;refine JU 36 ?_;refine JU 37 ?_;exact Z.1):X:=h ⟨k⟩
def lZ(h:A Y X:=by intro Z;refine JH T5 ?_;refine JH T5 ?_;refine JH T5 ?_;exact Z.1):X:=h ⟨k⟩
def qH(h:A Y X:=by intro Z;refine J6 ?_;refine JL vO ?_;refine JL yN ?_;refine Aw (H':=AS sb (m.CF {m.x with said:=true})*R) cN ?_;exact Z.1):X:=h ⟨k⟩
def TC(h:A Y X:=by intro Z;refine mA 11 12 ?_;refine Fr ?_;refine Ut ?_;exact Z.1):X:=h ⟨k⟩
def MS(h:A Y X:=by intro Z;refine JL WS ?_;refine J1 ?_;exact Z.1):X:=h ⟨k⟩
def Mj(h:A Y X:=by intro Z;refine JL MO ?_;refine J2 ?_;exact Z.1):X:=h ⟨k⟩
def M'(h:A Y X:=by intro Z;refine JL GU ?_;refine J1 ?_;exact Z.1):X:=h ⟨k⟩
def X8(h:A Y X:=by intro Z;refine JG hg2 ?_;refine J1 ?_;refine JG hg2 ?_;exact Z.1):X:=h ⟨k⟩
def M4(h:A Y X:=by intro Z;refine JL nO ?_;refine J4 ?_;exact Z.1):X:=h ⟨k⟩
def nU(h:A Y X:=by intro Z;refine JN 16 rfl F6 ?_;refine JN 17 rfl F6 ?_;refine JN 18 rfl F6 ?_;refine JN 19 rfl F6 ?_;refine JN 20 rfl F6 ?_;exact Z.1):X:=h ⟨k⟩
def oR(h:A Y X:=by intro Z;refine JN 17 rfl F4 ?_;refine JN 18 rfl F4 ?_;refine JN 19 rfl F4 ?_;refine JN 20 rfl F4 ?_;refine JN 21 rfl F4 ?_;exact Z.1):X:=h ⟨k⟩
def jP(h:A Y X:=by intro Z;refine mE rfl (vV cb m k _ (Ah.OG hi)) ?_;refine JR ?_;refine BV ?_;refine JL qU ?_;refine J2 ?_;exact Z.1):X:=h ⟨k⟩
def UK(h:A Y X:=by intro Z;refine Jf 9 ?_;refine D9 10 Ch rfl Fm ?_;exact Z.1):X:=h ⟨k⟩
def Lr(h:A Y X:=by intro Z;refine Dw ?_;refine J2 ?_;exact Z.1):X:=h ⟨k⟩
def Lm(h:A Y X:=by intro Z;refine J1 ?_;refine Hy ?_;exact Z.1):X:=h ⟨k⟩
def MF(h:A Y X:=by intro Z;refine J2 ?_;refine Mx ?_;exact Z.1):X:=h ⟨k⟩
def LQ(h:A Y X:=by intro Z;refine Im ?_;refine J1 ?_;exact Z.1):X:=h ⟨k⟩
def L1(h:A Y X:=by intro Z;refine J3 ?_;refine FC ?_;exact Z.1):X:=h ⟨k⟩
def L5(h:A Y X:=by intro Z;refine G2 ?_;refine J1 ?_;exact Z.1):X:=h ⟨k⟩
def MH(h:A Y X:=by intro Z;refine J5 ?_;refine CZ ?_;exact Z.1):X:=h ⟨k⟩
def LP(h:A Y X:=by intro Z;refine J6 ?_;refine DY ?_;exact Z.1):X:=h ⟨k⟩
def sM(h:A Y X:=by intro Z;refine J7 ?_;refine JL Yu ?_;refine J1 ?_;refine mE rfl (x8 hks p b o c _ hs inferInstance hx hop) ?_;exact Z.1):X:=h ⟨k⟩
def Qc(h:A Y X:=by intro Z;refine J2 ?_;refine AV et rfl ?_;exact Z.1):X:=h ⟨k⟩
def V1(h:A Y X:=by intro Z;refine JG T5 ?_;refine J1 ?_;refine JG T5 ?_;exact Z.1):X:=h ⟨k⟩
def R7(h:A Y X:=by intro Z;refine OF ?_;refine OF ?_;refine JL FQ ?_;exact Z.1):X:=h ⟨k⟩
def lX(h:A Y X:=by intro Z;refine Jm 7 ?_;refine Jn 8 ?_;refine Jf 9 ?_;refine Jd 10 ?_;refine Jn 11 ?_;refine Jf 12 ?_;refine Jd 13 ?_;exact Z.1):X:=h ⟨k⟩
def YY(h:A Y X:=by intro Z;refine J4 ?_;refine JL mN ?_;refine H8 ?_;refine JL (VA (j:=128) rfl rfl ⟨Cg,Cg⟩) ?_;refine gL ?_;exact Z.1):X:=h ⟨k⟩
def eF(h:A Y X:=by intro Z;refine J6 ?_;refine bw ?_;refine Jn 15 ?_;refine Jf 16 ?_;refine Jd 17 ?_;refine Al 1 Ch rfl rfl I3 ?_;exact Z.1):X:=h ⟨k⟩
def kC(h:A Y X:=by intro Z;refine J2 ?_;refine pj ?_;refine Jn 16 ?_;refine Jf 17 ?_;refine Jd 18 ?_;refine Al 2 Ch rfl rfl I3 ?_;exact Z.1):X:=h ⟨k⟩
def Z6(h:A Y X:=by intro Z;refine Jm 22 ?_;refine kR ?_;refine DU 32 rfl Ch rfl rfl rfl rfl ?_;refine JT 33 rfl GU ?_;refine JD ?_;exact Z.1):X:=h ⟨k⟩
def aZ(h:A Y X:=by intro Z;refine JY 5 rfl hg1 A4 ?_;refine JY 6 rfl hg1 A4 ?_;refine JY 7 rfl hg1 CP ?_;refine JY 8 rfl hg1 A7 ?_;exact Z.1):X:=h ⟨k⟩
def iT(h:A Y X:=by intro Z;refine mA 12 12 ?_;refine JT 0 rfl im ?_;refine qM ?_;refine L7 ?_;refine JT 4 rfl dZ ?_;refine Jm 5 ?_;exact Z.1):X:=h ⟨k⟩
def rC(h:A Y X:=by intro Z;refine mA 8 9 ?_;refine LX ?_;refine JT 3 rfl OQ ?_;refine JT 4 rfl Je ?_;refine Jm 5 ?_;refine Jm 6 ?_;exact Z.1):X:=h ⟨k⟩
def Yh(h:A Y X:=by intro Z;refine JN 2 rfl hg1 ?_;refine JN 3 rfl hg1 ?_;refine JN 4 rfl hg1 ?_;refine VW ?_;refine JN 16 rfl hg1 ?_;exact Z.1):X:=h ⟨k⟩
def RI(h:A Y X:=by intro Z;refine JW ?_;refine Jm 6 ?_;refine Jn 7 ?_;exact Z.1):X:=h ⟨k⟩
def dS(h:A Y X:=by intro Z;refine JW ?_;refine Jn 6 ?_;refine Al 5 Ch rfl rfl (BK rfl (Pp _ 32 Ci _)) ?_;refine Gj ?_;exact Z.1):X:=h ⟨k⟩
def Yj(h:A Y X:=by intro Z;refine J1 ?_;refine mA 11 12 ?_;refine L4 ?_;refine JT 5 rfl sy ?_;refine Hk ?_;refine JT 7 rfl th ?_;exact Z.1):X:=h ⟨k⟩
def ZZ(h:A Y X:=by intro Z;refine Pe ?_;refine Pe ?_;refine JG F2 ?_;refine JL IV ?_;refine H4 ?_;refine JL FQ ?_;refine GO ?_;exact Z.1):X:=h ⟨k⟩
def nA(h:A Y X:=by intro Z;refine Fi ?_;refine J5 ?_;refine JL yC ?_;refine J7 ?_;refine JL ke ?_;refine JL lE ?_;refine J1 ?_;exact Z.1):X:=h ⟨k⟩
def cF(h:A Y X:=by intro Z;refine Hu ?_;refine JT 3 rfl dZ ?_;refine HD ?_;refine Jf 5 ?_;refine Jd 6 ?_;refine JT 7 rfl md ?_;exact Z.1):X:=h ⟨k⟩
def Rg(h:A Y X:=by intro Z;refine NY ?_;refine HD ?_;refine Jn 5 ?_;exact Z.1):X:=h ⟨k⟩
def NC(h:A Y X:=by intro Z;refine EQ ?_;refine SH ?_;exact Z.1):X:=h ⟨k⟩
def WK(h:A Y X:=by intro Z;refine Jf 0 ?_;refine Jd 1 ?_;refine QX ?_;refine NY ?_;exact Z.1):X:=h ⟨k⟩
def Qq(h:A Y X:=by intro Z;refine J2 ?_;refine JL ak ?_;refine J3 ?_;exact Z.1):X:=h ⟨k⟩
def Wa(h:A Y X:=by intro Z;refine Jm 10 ?_;refine qY ?_;refine oZ ?_;refine U7 ?_;exact Z.1):X:=h ⟨k⟩
def TV(h:A Y X:=by intro Z;refine J5 ?_;refine JL HS ?_;refine J1 ?_;exact Z.1):X:=h ⟨k⟩
def SW(h:A Y X:=by intro Z;refine J5 ?_;refine JL Fy ?_;refine J1 ?_;exact Z.1):X:=h ⟨k⟩
def dR(h:A Y X:=by intro Z;refine J6 ?_;refine JL (FT rfl rfl hs45 Cg rfl) ?_;refine JL Q' ?_;refine AV O4 rfl ?_;exact Z.1):X:=h ⟨k⟩
def UG(h:A Y X:=by intro Z;refine J2 ?_;refine JL wG ?_;refine J6 ?_;exact Z.1):X:=h ⟨k⟩
def kM(h:A Y X:=by intro Z;refine KO ?_;refine Ir ?_;refine JL (lI (i:=AY) (j:=300) rfl rfl) ?_;refine Jq ?_;refine J1 ?_;exact Z.1):X:=h ⟨k⟩
def SI(h:A Y X:=by intro Z;refine J2 ?_;refine JL qW ?_;refine J3 ?_;exact Z.1):X:=h ⟨k⟩
def RS(h:A Y X:=by intro Z;refine J3 ?_;refine JL ND ?_;refine J4 ?_;exact Z.1):X:=h ⟨k⟩
def sW(h:A Y X:=by intro Z;refine YH ?_;refine J1 ?_;refine wO ?_;refine kw ?_;refine L4 ?_;refine Al 5 Ch rfl rfl l6 ?_;exact Z.1):X:=h ⟨k⟩
def YA(h:A Y X:=by intro Z;refine J1 ?_;refine JL H7 ?_;refine Fi ?_;refine J9 ?_;exact Z.1):X:=h ⟨k⟩
def Qn(h:A Y X:=by intro Z;refine Ap Zu ?_;refine GA ?_;exact Z.1):X:=h ⟨k⟩
def Ro(h:A Y X:=by intro Z;refine Wb ?_;refine Pv ?_;refine Ur ?_;exact Z.1):X:=h ⟨k⟩
def N3(h:A Y X:=by intro Z;refine JL LU ?_;refine J2 ?_;exact Z.1):X:=h ⟨k⟩
def Qf(h:A Y X:=by intro Z;refine JL EM ?_;refine JL IU ?_;exact Z.1):X:=h ⟨k⟩
def WX(h:A Y X:=by intro Z;refine G8 ?_;refine G8 ?_;refine NH ?_;refine J1 ?_;exact Z.1):X:=h ⟨k⟩
def SL(h:A Y X:=by intro Z;refine KV ?_;refine J1 ?_;refine KV ?_;exact Z.1):X:=h ⟨k⟩
def dK(h:A Y X:=by intro Z;refine Mn ?_;refine oz ?_;refine H4 ?_;refine ph ?_;refine JR ?_;refine Mn ?_;refine JK ?_;exact Z.1):X:=h ⟨k⟩
def Mc(h:A Y X:=by intro Z;refine IA ?_;refine J1 ?_;exact Z.1):X:=h ⟨k⟩
def Ub(h:A Y X:=by intro Z;refine JH hg2 ?_;refine JH hg2 ?_;exact Z.1):X:=h ⟨k⟩
def Mk(h:A Y X:=by intro Z;refine KB ?_;refine J1 ?_;exact Z.1):X:=h ⟨k⟩
def aW(h:A Y X:=by intro Z;refine JU 25 ?_;refine JU 26 ?_;refine JU 27 ?_;refine JU 28 ?_;refine JU 29 ?_;refine JU 30 ?_;exact Z.1):X:=h ⟨k⟩
def iU(h:A Y X:=by intro Z;refine mA 18 18 ?_;refine KA ?_;refine Jm 8 ?_;refine Jn 9 ?_;refine Jf 10 ?_;refine Jd 11 ?_;exact Z.1):X:=h ⟨k⟩
def OE(h:A Y X:=by intro Z;refine Ja 33 ?_;refine JD ?_;exact Z.1):X:=h ⟨k⟩
def kY(h:A Y X:=by intro Z;refine Jm 7 ?_;refine JT 8 rfl Gk ?_;refine JT 9 rfl Gk ?_;refine Ja 10 ?_;refine Ja 11 ?_;exact Z.1):X:=h ⟨k⟩
def iA(h:A Y X:=by intro Z;refine JN 11 rfl T1 ?_;refine JN 12 rfl T1 ?_;refine JN 13 rfl T1 ?_;refine JN 14 rfl T1 ?_;exact Z.1):X:=h ⟨k⟩
def cO(h:A Y X:=by intro Z;refine J3 ?_;refine Bv yJ ?_;refine JE ?_;refine JL jA ?_;refine J7 ?_;refine bL ?_;exact Z.1):X:=h ⟨k⟩
def M6(h:A Y X:=by intro Z;refine JD ?_;refine J4 ?_;exact Z.1):X:=h ⟨k⟩
def V4(h:A Y X:=by intro Z;refine mI Tryz.func79 ?_;refine J9 ?_;refine ME ?_;exact Z.1):X:=h ⟨k⟩
def UX(h:A Y X:=by intro Z;refine DS ?_;refine Ec 10 Ch rfl rfl Fl EO ?_;exact Z.1):X:=h ⟨k⟩
def sV(h:A Y X:=by intro Z;refine mI Tryz.func53 ?_;refine Lo ?_;refine C? ?_;refine Aw (DJ sb m R).symm ?_;exact Z.1):X:=h ⟨k⟩
def mD(h:A Y X:=by intro Z;refine mI Tryz.func194 ?_;refine By ?_;refine JL (GH (j:=64) rfl rfl) ?_;refine J3 ?_;exact Z.1):X:=h ⟨k⟩
def dT(h:A Y X:=by intro Z;refine jR ?_;refine J1 ?_;refine JG F3 ?_;refine JL sc ?_;refine JL Oh ?_;refine J2 ?_;exact Z.1):X:=h ⟨k⟩
def cW(h:A Y X:=by intro Z;refine JN 7 rfl F1 ?_;refine JN 8 rfl F1 ?_;refine JN 9 rfl F1 ?_;refine JN 10 rfl F1 ?_;exact Z.1):X:=h ⟨k⟩
def To(h:A Y X:=by intro Z;refine Gj ?_;refine JT 10 rfl He ?_;exact Z.1):X:=h ⟨k⟩
def OC(h:A Y X:=by intro Z;refine JP ?_;refine Gv ?_;exact Z.1):X:=h ⟨k⟩
def mU(h:A Y X:=by intro Z;refine J3 ?_;refine Wd ?_;refine JT 8 rfl (Ia (i:=1) rfl rfl Cg) ?_;refine Jm 9 ?_;exact Z.1):X:=h ⟨k⟩
def jB(h:A Y X:=by intro Z;refine J6 ?_;refine mE rfl (ua q28 b28 o28 c28 ys _ hq28 inferInstance Cg) ?_;exact Z.1):X:=h ⟨k⟩
end
end Go.Proofs.YtgfdlpcdjklcoaaGreatDoor
