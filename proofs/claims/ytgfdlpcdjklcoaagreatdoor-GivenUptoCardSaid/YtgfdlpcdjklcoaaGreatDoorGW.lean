/- A part of this proof: steps of the program, plain facts; no condition. -/
import Derived.Test.YtgfdlpcdjklcoaaGreatDoorG3
namespace Go.Proofs.YtgfdlpcdjklcoaaGreatDoor
open Go Go.RowKit
set_option linter.unusedVariables false
set_option linter.defProp false
abbrev A(Y X:Prop):Prop:=CH Y→X
section
variable{X:Prop}
def T1(h:X:=by exact decide_eq_true hg1):X:=h
def F1(h:X:=by exact decide_eq_false hg1):X:=h
def T2(h:X:=by exact decide_eq_true hg2):X:=h
def F2(h:X:=by exact decide_eq_false hg2):X:=h
def T3(h:X:=by exact decide_eq_true hg3):X:=h
def F3(h:X:=by exact decide_eq_false hg3):X:=h
def T4(h:X:=by exact decide_eq_true hg4):X:=h
def F4(h:X:=by exact decide_eq_false hg4):X:=h
def T5(h:X:=by exact decide_eq_true hg5):X:=h
def F5(h:X:=by exact decide_eq_false hg5):X:=h
def Ca(h:X:=by omega):X:=h
def Cb(h:X:=by kernel_rfl):X:=h
def Cc(h:X:=by decide):X:=h
def Cd(h:X:=by first|trivial|omega):X:=h
def Ce(h:X:=by simp):X:=h
def Cf(h:X:=by simp [Value.oneCell']):X:=h
def Cg(h:X:=by ac_rfl):X:=h
def Ch(h:X:=by constructor<;>rfl):X:=h
def Ci(h:X:=by simp [hg]):X:=h
def Cj(h:X:=by have:=hs.2;omega):X:=h
def Ck(h:X:=by rw [HP.BR]):X:=h
def Cl(h:X:=by simp;omega):X:=h
def Cm(h:X:=by unfold C9;ac_rfl):X:=h
def Cn(h:X:=by simp only [List.length_singleton];omega):X:=h
def Co(h:X:=by congr 1;ac_rfl):X:=h
def Cp(h:X:=by first|omega|(simp;omega)):X:=h
def Cq(h:X:=by first|kernel_rfl|simp [Instr.fill,Value.cells]):X:=h
def Cr(h:X:=by rw [ewr];rfl):X:=h
def Cs(h:X:=by simp [rec_]):X:=h
def Ct(h:X:=by rw [ewr]):X:=h
def Cu(h:X:=by rw [List.foldl_append,List.foldl_cons,List.foldl_nil,dL];simp only [h43,h59,if_true,if_false];assumption):X:=h
def Cv(h:X:=by rw [List.foldl_append,List.foldl_cons,List.foldl_nil,dL];simp only [h43,h59,if_true,if_false];ac_rfl):X:=h
def Cw(h:X:=by rw [dV];(repeat' split)<;>first|rfl|(exfalso;omega)):X:=h
def Cx(h:X:=by rw [hl];rfl):X:=h
def Cy(h:X:=by rw [e3];rfl):X:=h
def Cz(h:X:=by show(0:Int)<_;decide):X:=h
def Kq(h:X:=by rw [EI];omega):X:=h
def Ji(h:X:=by simp [hq]):X:=h
def bA(h:X:=by congr 1;rw [HB,HP.BR,HP.BR];ac_rfl):X:=h
def KG(h:X:=by rw [hl];exact⟨.inr rfl,Nat.le_refl _⟩):X:=h
def Uu(h:X:=by rw [ewr];exact .inl ⟨rfl,rfl,rfl⟩):X:=h
def ON(h:X:=by rw [List.length_take];omega):X:=h
def M2(h:X:=by rw [G7,HP.BR]):X:=h
def MP(h:X:=by rw [HP.CV];rfl):X:=h
def U1(h:X:=by rw [getD_some hr];rfl):X:=h
def go(h:X:=by rw [getD_some hE];rfl):X:=h
def X2(h:X:=by unfold Dr;omega):X:=h
def KJ(h:X:=by rw [hl];omega):X:=h
def bS(h:X:=by congr 1;rw [LM cb ws j wm hjl];unfold Bu;ac_rfl):X:=h
def TP(h:X:=by congr 1;rw [LS nb w _ hC hr hE];ac_rfl):X:=h
def Lu(h:X:=by show 0<_;decide):X:=h
def K6(h:X:=by simp [hs]):X:=h
def UX(h:X:=by rw [hw2]):X:=h
def Rv(h:X:=by show 4-(k+1)<4-k;omega):X:=h
def gC(h:X:=by rw [getD_some hC];rfl):X:=h
def NR(h:X:=by simp [h2]):X:=h
def TH(h:X:=by congr 1;first|ac_rfl|(rw [En];ac_rfl)):X:=h
def bx(h:X:=by rw [List.length_append,Gk hk];rfl):X:=h
def ck(h:X:=by rw [hfill];exact⟨rfl,rfl,rfl⟩):X:=h
def OX(h:X:=by rw [decide_eq_false (by omega)]):X:=h
def NZ(h:X:=by show(0:Nat)<_;decide):X:=h
def Nl(h:X:=by rw [Gk hk];rfl):X:=h
def OR(h:X:=by unfold Bu;ac_rfl):X:=h
def WN(h:X:=by show k+1≤4;omega):X:=h
def R8(h:X:=by unfold AB;ac_rfl):X:=h
def Nh(h:X:=by simpa using hr):X:=h
def Nd(h:X:=by rw [hgv];simp):X:=h
def mQ(h:X:=by show Value.bool _=Value.bool _;congr 1;apply Bool.eq_iff_iff.2;simp only [decide_eq_true_eq,Bool.true_eq,Bool.false_eq_true,iff_true,iff_false,true_iff,false_iff,eq_self];omega):X:=h
def mF(h:X:=by rw [decide_eq_decide];exact⟨fun h=>⟨hof,hcd,hg1,hg2,h,hF.kind⟩,fun h=>h.2.2.2.2.1⟩):X:=h
def Po(h:X:=by unfold CR;simp only [Nat.reduceEqDiff,if_false,if_true,e8,e10,e12]):X:=h
def L?(h:X:=by rw [hc0];exact .cons rfl (.cons rfl (.cons rfl .nil))):X:=h
def RO(h:X:=by show z.l.length-(z'.2+1)<z.l.length-z'.2;omega):X:=h
def RM(h:X:=by show l.length-(z.j+1)<l.length-z.j;omega):X:=h
def cJ(h:X:=by congr 1;rw [MS cb m R j hjl,hrm];ac_rfl):X:=h
def dQ(h:X:=by congr 1;rw [LS nb w H hC hr hE];ac_rfl):X:=h
def Y6(h:X:=by rw [List.length_append,Gk hks];rfl):X:=h
def VP(h:X:=by rw [JZ cb m.ws j hjl,hwx];ac_rfl):X:=h
def jN(h:X:=by rw [s.finished];exact o.finished):X:=h
def Pt(h:X:=by rw [List.length_append];omega):X:=h
def RQ(h:X:=by show(0:Int)≤(k:Int);omega):X:=h
def Q6(h:X:=by rw [List.length_drop];omega):X:=h
def ST(h:X:=by rw [List.length_append];rfl):X:=h
def SA(h:X:=by show 2-(i+1)<2-i;omega):X:=h
def nQ(h:X:=by rw [X!,←hw1e,he2]):X:=h
def bJ(h:X:=by rw [s.given];exact o.given):X:=h
def Yx(h:X:=by rw [s.code];exact o.code):X:=h
def RS(h:X:=by show(3:Int)≤5;decide):X:=h
def Qg(h:X:=by have:=EI p;omega):X:=h
def Z'(h:X:=by rw [s.b];exact o.wrote):X:=h
def SH(h:X:=by show(k:Int)<4;omega):X:=h
def SI(h:X:=by rw [HU];omega):X:=h
def Sh(h:X:=by simp [Region.wanted]):X:=h
def RI(h:X:=by show i+1≤2;omega):X:=h
def Pg(h:X:=by have:=h.o;omega):X:=h
def iW(h:X:=by rw [hPSl];omega):X:=h
def Pc(h:X:=by simpa using h):X:=h
def ZO(h:X:=by rw [f3];omega):X:=h
def P7(h:X:=by rw [h];rfl):X:=h
def PU(h:X:=by simp [hx]):X:=h
def tC(h:X:=by first|rfl|(show some (Value.bool (decide _))=_;rw [decide_eq_false (n3 (by simpa using hg1) hg2)])):X:=h
def wX(h:X:=by rw [hst,e4,NM.Hk w hC hr,hs2];exact Kd hr hE _):X:=h
def Tv(h:X:=by rw [List.length_append,h1,h2,e31];have:=hs.2;omega):X:=h
def Uf(h:X:=by congr 1;rw [PX cb m R j hjl];ac_rfl):X:=h
def S1(h:X:=by show i<n.count.length;rw [h.cl];exact hi):X:=h
def Xy(h:X:=by show l.length-(i+1)<l.length-i;omega):X:=h
def Uh(h:X:=by simp only [Kn,List.length_set];omega):X:=h
def UM(h:X:=by rw [LS nb w _ hC hr hE];ac_rfl):X:=h
def Th(h:X:=by rw [hFl]at i2;split at i2<;>omega):X:=h
def Sz(h:X:=by unfold Ac DS A8.h;ac_rfl):X:=h
def jH(h:X:=by rw [hrn,NM.Hk w hC hr,hs2]):X:=h
def Vd(h:X:=by rw [JQ hnL];exact hnL):X:=h
def U5(h:X:=by rw [GC nb w _ hC hr hE]):X:=h
def TW(h:X:=by rw [hw b k hk]at e;cases e):X:=h
def Vs(h:X:=by rw [Aj.Q',ewr,hrd2]):X:=h
def TC(h:X:=by rw [HU];exact h20):X:=h
def eT(h:X:=by rw [TX b o i l s]):X:=h
def fX(h:X:=by have:=hwm.1.1.2;omega):X:=h
def Uv(h:X:=by rw [getD_some hF];rfl):X:=h
def Te(h:X:=by rw [hw.len];exact hk):X:=h
def qE(h:X:=by rw [hp];exact o.AE):X:=h
def UR(h:X:=by rw [hw.inv.gm];omega):X:=h
def V7(h:X:=by have:=hm.size;omega):X:=h
def uH(h:X:=by rw [←hs2,han];rfl):X:=h
def wV(h:X:=by rw [hp];exact o.pre):X:=h
def U2(h:X:=by unfold Fs;ac_rfl):X:=h
def lT(h:X:=by have:=this.2;omega):X:=h
def VX(h:X:=by rw [En];ac_rfl):X:=h
def TA(h:X:=by simp [EL];omega):X:=h
def Sw(h:X:=by have:=hd.m2;omega):X:=h
def Vm(h:X:=by have:=hqs.2;omega):X:=h
def iw(h:X:=by simpa using hg1):X:=h
def WC(h:X:=by simpa using ht):X:=h
def WD(h:X:=by simpa using hg):X:=h
def Vc(h:X:=by rw [hnone];rfl):X:=h
def nW(h:X:=by first|exact congrArg Value.bool (decide_eq_true (p:=rv.1.1=6) (by omega))|exact congrArg Value.bool (decide_eq_true (p:=rv.1.1=0) (by omega))|rfl):X:=h
def eL(h:X:=by rw [hrm2];unfold Dt.ok;dsimp only;rw [hdo];exact⟨⟨by rw [z6];exact ha1.1,by rw [z6];exact ha1.2⟩,z9⟩):X:=h
def jD(h:X:=by rw [hti,List.length_append,By,List.length_drop];show i*2+((l.length-i)*2+s.length)=c*2;omega):X:=h
def Xu(h:X:=by rw [List.length_append,List.length_singleton]at hc⊢;rw [Kh xs pre (by omega)]at hc;omega):X:=h
def XP(h:X:=by simp only [B5,List.append_nil];exact .cons rfl (.cons rfl (.cons rfl (.cons rfl (.cons rfl .nil))))):X:=h
def yF(h:X:=by rw [hr];first|(rw [if_pos h37,if_pos h37];ac_rfl)|(rw [if_neg h37,if_neg h37];unfold AZ;ac_rfl)):X:=h
def aL(h:X:=by rw [hjn,List.drop_length,List.length_append,hti];simp only [List.length_singleton];have:=hs.2;omega):X:=h
def kC(h:X:=by show _=G (l.take (z.j+1))*(AB b o (z.L.set z.i (z.L.getD z.j AC.AK)) s*R);rw [ets];ac_rfl):X:=h
def jG(h:X:=by intro v hv;rcases List.mem_append.1 hv with h|h;exact KS _ v h;simp at h;subst h;rfl):X:=h
def qT(h:X:=by rw [hst,e4,NM.Hk w hC hr,hs2,e3];exact(Kd hr hE _).trans (WI hC)):X:=h
def aM(h:X:=by rw [show B3 ks side xs=none from if_pos (by omega)];exact⟨rfl,rfl⟩):X:=h
def tJ(h:X:=by have:=hwm.1.1;exact E3 this (by omega) (by have:=this.2;omega) hcl2):X:=h
def Y7(h:X:=by show r.f.ranges.length-1-(i+1)<r.f.ranges.length-1-i;omega):X:=h
def gW(h:X:=by rw [hsp];exact⟨by rw [NI],by rw [NI];omega⟩):X:=h
def Zj(h:X:=by show _=List.take ((c.r k).b.take n).length _;rw [htl];exact hd2):X:=h
def bF(h:X:=by unfold CR;simp only [Nat.reduceEqDiff,if_false,if_true,e8,e10]):X:=h
def aR(h:X:=by show(n.xs.set _ _).length=2;rw [List.length_set];exact hi.xl):X:=h
def jQ(h:X:=by unfold CR;simp only [Nat.reduceEqDiff,if_false,if_true,e8]):X:=h
def Z3(h:X:=by unfold CR;simp only [Nat.reduceEqDiff,if_false,if_true,e9]):X:=h
def dq(h:X:=by first|rw [if_pos hc,←e];rfl|rw [if_neg hc,←e];rfl):X:=h
def Ze(h:X:=by show((n.x i).w k).b++_=_;rw [o.wrote,List.append_nil]):X:=h
def W7(h:X:=by rw [List.length_append,Gk hk];exact⟨rfl,rfl⟩):X:=h
def cA(h:X:=by show(c.r k).read+n=_+((c.r k).b.take n).length;omega):X:=h
def dR(h:X:=by show _=G (l.take (z.j+1))*(AB b o z.L s*R);rw [ets]):X:=h
def ZT(h:X:=by rw [By,List.length_take,Nat.min_eq_left h]):X:=h
def ZK(h:X:=by rcases hk with⟨rfl,_⟩|⟨rfl,_⟩<;>decide):X:=h
def Xe(h:X:=by rw [show(c.r k).given=true from x]at hg;cases hg):X:=h
def kZ(h:X:=by rw [hsn]at b2;show p.number<z.c.next+(_+1);omega):X:=h
def Zt(h:X:=by show fm.fs.length-(i+1)<fm.fs.length-i;omega):X:=h
def cL(h:X:=by rw [List.length_append,hti,hdj];have:=hs.2;omega):X:=h
def rM(h:X:=by show HP.AA b15 0 (AG [(2:UInt8)])*_=_;ac_rfl):X:=h
def zV(h:X:=by rw [hinv];exact ai hm e40 e42 (by omega)):X:=h
def wO(h:X:=by rw [EI,decide_eq_false (fun x=>x th4)]):X:=h
def qS(h:X:=by rw [EI,decide_eq_false (fun x=>x th5)]):X:=h
def eF(h:X:=by rw [hinv,Gb];rw [AV,if_neg h22,if_neg h26]):X:=h
def Wt(h:X:=by show _=HP.AA b5 0 _*(HP.AA b6 0 _*_);ac_rfl):X:=h
def qZ(h:X:=by subst he;rw [List.take_append_drop];exact hs):X:=h
def nD(h:X:=by subst he;rw [List.take_append_drop];exact hc):X:=h
def fZ(h:X:=by rw [FY,if_neg h5,if_pos (by omega)];rfl):X:=h
def kX(h:X:=by show fs.length-(i+1)<fs.length-i;omega):X:=h
def bH(h:X:=by show _+((c.r k).b.take n).length≤_;omega):X:=h
def bC(h:X:=by rw [hfe2];exact⟨rfl,by rw [hw2],hde2⟩):X:=h
def Yp(h:X:=by rw [←TX b o i l s];infer_instance):X:=h
def Zo(h:X:=by rw [←gv hc0 hc1 hc2 hn,HP.CV]):X:=h
def kR(h:X:=by rw [EI,decide_eq_false (by omega)]):X:=h
def Ww(h:X:=by show(c.r k).read≤(c.r k).read+n;omega):X:=h
def YV(h:X:=by show((c.r k).b.take n).length≤_;omega):X:=h
def YP(h:X:=by have:=(xs.getD (a+i+1) 0).toNat_lt;omega):X:=h
def Zg(h:X:=by show j-((i+j)/2^1+1)<j-i;omega):X:=h
def sL(h:X:=by subst he;rw [List.take_append_drop];rfl):X:=h
def Xa(h:X:=by rw [←oR hc0 hc1 hc2,HP.CV]):X:=h
def Y5(h:X:=by show t+l.length≤t+(l.length+1);omega):X:=h
def XT(h:X:=by rw [NI];exact Nat.le_refl _):X:=h
def lB(h:X:=by rw [List.length_append,hm,hbl];omega):X:=h
def Z8(h:X:=by rw [hsn];dsimp only [JC.at];ac_rfl):X:=h
def fP(h:X:=by show(i+j)/2^1-i<j-i;omega):X:=h
def ak(h:X:=by subst he;rw [List.take_append_drop]):X:=h
def fU(h:X:=by have:=C5 d.size;simp;omega):X:=h
def Zw(h:X:=by rw [hfill];exact⟨rfl,rfl,hde3⟩):X:=h
def fS(h:X:=by rw [hjn,List.drop_length];simp;rfl):X:=h
def cP(h:X:=by rw [hinv,Gb];rw [AV,if_pos h22]):X:=h
def bR(h:X:=by rw [←ah hc0 hc1,HP.CV]):X:=h
def cM(h:X:=by show(told.take n).length<_;omega):X:=h
def Yq(h:X:=by simp only [B5,List.append_nil]):X:=h
def hZ(h:X:=by unfold DP;rw [if_neg (by omega)]):X:=h
def jC(h:X:=by rw [hst,e4,NM.Hk w hC hr,hs2]):X:=h
def bX(h:X:=by rw [Mg h2.o hk4];simp):X:=h
def iA(h:X:=by show(i+j)/2^1+1≤j;omega):X:=h
def Y9(h:X:=by rw [TX b o i l s];ac_rfl):X:=h
def iG(h:X:=by rw [hz1];exact⟨hs99,hc99⟩):X:=h
def Wr(h:X:=by rw [hz1];exact⟨hs70,hc70⟩):X:=h
def fQ(h:X:=by rw [←tW hc0,HP.CV]):X:=h
def dF(h:X:=by show i≤(i+j)/2^1;omega):X:=h
def XF(h:X:=by show(i+j)/2^1≤n;omega):X:=h
def Wy(h:X:=by rw [h3];rw [h3]at h5;omega):X:=h
def dA(h:X:=by show k-(j+1)<k-j;omega):X:=h
def gM(h:X:=by rw [←r9 (by omega)];rfl):X:=h
def Yg(h:X:=by rw [uD l hl];exact h41):X:=h
def Yl(h:X:=by rw [mZ l hl];exact h41):X:=h
def tD(h:X:=by exact .cons rfl (.nil)):X:=h
def gR(h:X:=by exact .cons rfl (.cons rfl (.nil))):X:=h
def Dk(h:X:=by exact .cons rfl (.cons rfl (.cons rfl (.nil)))):X:=h
def PK(h:X:=by exact .cons rfl .nil):X:=h
def Hi(h:X:=by exact .cons rfl (.cons rfl .nil)):X:=h
def Ea(h:X:=by exact .cons rfl (.cons rfl (.cons rfl .nil))):X:=h
def ER(h:X:=by exact Gx rfl trivial):X:=h
def BW(h:X:=by exact U9 rfl):X:=h
def Bg(h:X:=by exact Gx rfl Cd):X:=h
def Hq(h:X:=by exact .cons rfl (.cons rfl (.cons rfl (.cons rfl (.nil))))):X:=h
def BY(h:X:=by exact⟨rfl,rfl⟩):X:=h
def Bd(h:X:=by exact Si rfl):X:=h
def DN(h:X:=by exact .cons rfl (.cons rfl (.cons rfl (.cons rfl .nil)))):X:=h
def Wi(h:X:=by exact Fx (v:=.int .i64 (0:Nat)) rfl):X:=h
def HK(h:X:=by exact .cons rfl (.cons rfl (.cons rfl (.cons rfl (.cons rfl (.nil)))))):X:=h
def Bl(h:X:=by exact⟨_,rfl⟩):X:=h
def NY(h:X:=by exact Ff (j:=1) rfl rfl Ca):X:=h
def CT(h:X:=by exact WS rfl):X:=h
def GE(h:X:=by exact .cons rfl (.cons rfl (.cons rfl (.cons rfl (.cons rfl (.cons rfl (.nil))))))):X:=h
def FL(h:X:=by exact Ez rfl rfl rfl Cd):X:=h
def CS(h:X:=by exact⟨.inr rfl,Nat.le_refl _⟩):X:=h
def CW(h:X:=by exact Nat.le_refl _):X:=h
def qF(h:X:=by exact VS rfl):X:=h
def LQ(h:X:=by exact VH rfl):X:=h
def HZ(h:X:=by exact .cons rfl (.cons rfl (.cons rfl (.cons rfl (.cons rfl .nil))))):X:=h
def EY(h:X:=by exact .inl Cc):X:=h
def EB(h:X:=by exact G9 rfl rfl rfl):X:=h
def Kv(h:X:=by exact EO rfl rfl Ch Cf):X:=h
def Ig(h:X:=by exact cd rfl rfl Cf rfl rfl rfl):X:=h
def XV(h:X:=by exact Fx (v:=.int .u64 (0:Nat)) rfl):X:=h
def EX(h:X:=by exact Nat.zero_le _):X:=h
def EN(h:X:=by exact Nat.le_succ t):X:=h
def GI(h:X:=by exact FV rfl rfl rfl Cf):X:=h
def TD(h:X:=by exact Si (v:=.int .i64 (0:Nat)) rfl):X:=h
def HN(h:X:=by exact .cons rfl (.cons rfl (.cons rfl (.cons rfl (.cons rfl (.cons rfl (.cons rfl (.nil)))))))):X:=h
def S8(h:X:=by exact Gd rfl rfl rfl):X:=h
def Fy(h:X:=by exact KP rfl (Mv Ca)):X:=h
def Ft(h:X:=by exact hM rfl):X:=h
def E9(h:X:=by exact G9 F1 rfl rfl):X:=h
def F7(h:X:=by exact Fx rfl):X:=h
def J0(h:X:=by exact Gd hg1 rfl rfl):X:=h
def IG(h:X:=by exact Gj rfl rfl):X:=h
def ID(h:X:=by exact G9 hg1 rfl rfl):X:=h
def cn(h:X:=by exact KR (r:=.bool false) rfl rfl (fun w=>by kernel_rfl) (fun w=>by kernel_rfl)):X:=h
def Gf(h:X:=by exact Z1 rfl):X:=h
def Gi(h:X:=by exact⟨.inl rfl,Nat.le_refl _⟩):X:=h
def GM(h:X:=by exact Gd T1 rfl rfl):X:=h
def H3(h:X:=by exact K3 rfl rfl Ca):X:=h
def GW(h:X:=by exact ec rfl rfl):X:=h
def eI(h:X:=by exact .cons rfl (.cons rfl (.cons rfl (.cons rfl (.cons rfl (.cons rfl .nil)))))):X:=h
def pJ(h:X:=by exact Dn (l:=[_]) rfl rfl):X:=h
def Gz(h:X:=by exact⟨rfl,rfl,rfl,rfl,rfl⟩):X:=h
def HY(h:X:=by exact⟨rfl,rfl,rfl⟩):X:=h
def Mb(h:X:=by exact .cons rfl (.cons rfl (.cons rfl (.cons rfl (.cons rfl (.cons rfl (.cons rfl .nil))))))):X:=h
def Mp(h:X:=by exact Fj (l:=[_]) rfl):X:=h
def IY(h:X:=by exact Gd T2 rfl rfl):X:=h
def Hr(h:X:=by exact G9 F2 rfl rfl):X:=h
def Hn(h:X:=by exact Li Cb rfl):X:=h
def II(h:X:=by exact RR (i:=0) (q:=0) rfl rfl Ca rfl):X:=h
def IM(h:X:=by exact RR (i:=2) (q:=2) rfl rfl Ca rfl):X:=h
def Ij(h:X:=by exact LK rfl rfl Ca):X:=h
def N8(h:X:=by exact Fj (l:=[_,_]) rfl):X:=h
def Ii(h:X:=by exact .inl hp):X:=h
def NE(h:X:=by exact M7 rfl rfl):X:=h
def I9(h:X:=by exact RR (i:=3) (q:=3) rfl rfl Ca rfl):X:=h
def iV(h:X:=by exact CN (j:=0) rfl rfl):X:=h
def K'(h:X:=by exact Hf rfl rfl hsl Ca rfl):X:=h
def Kk(h:X:=by exact jR rfl rfl):X:=h
def Kp(h:X:=by exact Jq rfl rfl Ca):X:=h
def Nc(h:X:=by exact Nat.le_refl t):X:=h
def Tu(h:X:=by exact List.mem_of_getElem? hr):X:=h
def Jt(h:X:=by exact Fj (l:=[.int .i64 0,.int .i64 0,.int .i64 0,.int .u64 0,.string ⟨#[]⟩,.slice none 0 0]) rfl):X:=h
def pS(h:X:=by exact Dn (l:=AG ks) rfl rfl):X:=h
def lA(h:X:=by exact lW rfl):X:=h
def Np(h:X:=by exact CN rfl rfl):X:=h
def kd(h:X:=by exact congrArg (fun z=>some (Value.int .i64 z)) hst):X:=h
def SW(h:X:=by exact FQ (f:=0) (xs:=r.es) (v:=ptr E.q 0) rfl inferInstance go Ca):X:=h
def Le(h:X:=by exact RR (i:=1) (q:=1) rfl rfl Ca rfl):X:=h
def LX(h:X:=by exact .inr hp):X:=h
def Lh(h:X:=by exact Vn rfl rfl):X:=h
def Lz(h:X:=by exact gI rfl rfl):X:=h
def Ly(h:X:=by exact Nat.not_lt_zero j):X:=h
def e7(h:X:=by exact Fj (l:=[_,_,_]) rfl):X:=h
def Rm(h:X:=by exact FB (j:=0) rfl rfl):X:=h
def LD(h:X:=by exact JX (d:=AC.AK) hjl):X:=h
def U_(h:X:=by exact Dn (l:=AQ r) rfl rfl):X:=h
def LB(h:X:=by exact G9 hg3 rfl rfl):X:=h
def LT(h:X:=by exact .inl ⟨X2,rfl,rfl⟩):X:=h
def LP(h:X:=by exact⟨fun ww hw=>Sat.right (A:=HP.AA b3 0 (D3 q)) (Eq.mp bA hw)⟩):X:=h
def Oa(h:X:=by exact D6 rfl (Gk hk)):X:=h
def ML(h:X:=by exact KP rfl (PY Ca)):X:=h
def MU(h:X:=by exact Iy rfl rfl Ca):X:=h
def Oz(h:X:=by exact Iy (j:=1) rfl rfl Ca):X:=h
def NG(h:X:=by exact Hf rfl rfl hs Ca rfl):X:=h
def M5(h:X:=by exact Yw rfl rfl):X:=h
def Xp(h:X:=by exact dg rfl):X:=h
def Ny(h:X:=by exact K3 (j:=1) rfl rfl Ca):X:=h
def ju(h:X:=by exact List.mem_map.2 ⟨a,ha,rfl⟩):X:=h
def MR(h:X:=by exact .cons rfl (.cons rfl (.cons rfl (.cons rfl (.cons rfl (.cons rfl (.cons rfl (.cons rfl (.cons rfl (.nil)))))))))):X:=h
def jw(h:X:=by exact .cons rfl (.cons rfl (.cons rfl (.cons rfl (.cons rfl (.cons rfl (.cons rfl (.cons rfl (.nil))))))))):X:=h
def Xs(h:X:=by exact Je (j:=8) rfl rfl Ca):X:=h
def Ms(h:X:=by exact Nat.le_add_right _ _):X:=h
def gO(h:X:=by exact⟨fun ww hw=>Eq.mp bS hw⟩):X:=h
def Mr(h:X:=by exact .cons rfl (.cons rfl (.cons rfl (.cons rfl (.cons rfl (.cons rfl (.cons rfl (.cons rfl .nil)))))))):X:=h
def MX(h:X:=by exact show 0<4 by omega):X:=h
def V1(h:X:=by exact A9 (Gx rfl trivial) hok.xv):X:=h
def QE(h:X:=by exact A9 (Gx rfl trivial) hok.ev):X:=h
def XZ(h:X:=by exact FQ (f:=0) (xs:=w.rows) (v:=.slice r.a.p r.es.length r.a.c) rfl inferInstance U1 Ca):X:=h
def T6(h:X:=by exact A9 (v':=.bool false) (VH rfl) rfl):X:=h
def Y?(h:X:=by exact Dn (l:=AG ks++[u8 side]) rfl rfl):X:=h
def OF(h:X:=by exact D6 rfl bx):X:=h
def Og(h:X:=by exact .inl (List.mem_filter.1 hp).1):X:=h
def OV(h:X:=by exact⟨rfl,Ca⟩):X:=h
def Ot(h:X:=by exact⟨rfl,hi⟩):X:=h
def PH(h:X:=by exact T7 rfl rfl):X:=h
def OD(h:X:=by exact ES rfl rfl):X:=h
def Nq(h:X:=by exact⟨_,rfl,rfl⟩):X:=h
def Nn(h:X:=by exact Li (v:=.int .i64 (9:Nat)) Cb rfl):X:=h
def N2(h:X:=by exact Nw (i:=j) rfl rfl Ca):X:=h
def Nf(h:X:=by exact Li (v:=.int .i64 (3:Nat)) Cb rfl):X:=h
def Nb(h:X:=by exact Hw cb m R):X:=h
def Nz(h:X:=by exact Df cb m R):X:=h
def OW(h:X:=by exact KR (r:=.bool true) rfl rfl (fun w=>by kernel_rfl) (fun w=>by kernel_rfl)):X:=h
def OC(h:X:=by exact Gd hg2 rfl rfl):X:=h
def Ni(h:X:=by exact G9 hg2 rfl rfl):X:=h
def PE(h:X:=by exact⟨congrArg Value.bool (decide_eq_false (fun h=>by have h1:=h.2 i hlt;unfold GH at h1;omega)).symm,rfl⟩):X:=h
def Na(h:X:=by exact⟨congrArg Value.bool (decide_eq_decide.2 ⟨fun h=>⟨List.length_pos_iff.1 h,hdone⟩,fun h=>List.length_pos_iff.2 h.1⟩),rfl⟩):X:=h
def jt(h:X:=by exact decide_eq_decide.2 ⟨fun h=>⟨List.length_pos_iff.1 h,hdone⟩,fun h=>List.length_pos_iff.2 h.1⟩):X:=h
def No(h:X:=by exact G1 rfl (X7 rb _)):X:=h
def aS(h:X:=by exact FQ (f:=0) (xs:=w.cs) (v:=ptr C.cb 0) rfl inferInstance gC Ca):X:=h
def OI(h:X:=by exact Ff (i:=i) (j:=1) rfl rfl Ca):X:=h
def QV(h:X:=by exact List.mem_singleton.2 rfl):X:=h
def G_(h:X:=by exact wC rfl rfl):X:=h
def Ri(h:X:=by exact Fj (l:=[_,_,_,_,_,_,_,_]) rfl):X:=h
def Rz(h:X:=by exact Nat.le_max_left _ _):X:=h
def SQ(h:X:=by exact List.mem_of_mem_drop hr):X:=h
def VL(h:X:=by exact PB (k':=(l.take i).length) rfl rfl Cj ON):X:=h
def Qd(h:X:=by exact I6 rfl (fun w _=>eo _ w)):X:=h
def PR(h:X:=by exact Ty (v:=.tuple #[.nilIface,.bool false]) rfl (run_typeAssert_lacksB Az.get Cb Cb _ _)):X:=h
def Qq(h:X:=by exact Gj (j:=4611686018427387903) rfl rfl):X:=h
def pU(h:X:=by exact Nw (i:=j) rfl (congrArg (fun z=>some (Value.int .i64 z)) hst) Ca):X:=h
def Qs(h:X:=by exact BS rfl (gD 4096 _ Ca)):X:=h
def S0(h:X:=by exact Fj (l:=[_,_,_,_,_,_,_]) rfl):X:=h
def SM(h:X:=by exact A9 (Gx rfl trivial) hm.fv):X:=h
def SZ(h:X:=by exact DI (j:=5) rfl rfl):X:=h
def Rp(h:X:=by exact Gd hg3 rfl rfl):X:=h
def aN(h:X:=by exact Je (j:=24) rfl rfl Ca):X:=h
def tN(h:X:=by exact Je (j:=16) rfl rfl Ca):X:=h
def YK(h:X:=by exact KP (i:=st) (congrArg (fun z=>some (Value.int .i64 z)) hst) (Mv Ca)):X:=h
def V3(h:X:=by exact DT (b:=r.b) (o:=r.o) rfl rfl hrok Ca):X:=h
def UH(h:X:=by exact K3 (j:=2) rfl rfl Ca):X:=h
def Pq(h:X:=by exact⟨congrArg Value.bool mF,rfl⟩):X:=h
def QW(h:X:=by exact⟨congrArg Value.bool (decide_eq_false (fun h=>hg2 h.2.2.2.1)).symm,rfl⟩):X:=h
def P2(h:X:=by exact⟨congrArg Value.bool (decide_eq_false (fun h=>hg1 h.2.2.1)).symm,rfl⟩):X:=h
def QH(h:X:=by exact G1 rfl (Mo rb p b o c xs a _ hs inferInstance hx Ca)):X:=h
def SX(h:X:=by exact⟨rfl,h.UZ hi (Nat.le_refl t) hc (.refl hc) (fun k=>.refl _)⟩):X:=h
def Z0(h:X:=by exact Li (v:=.int .i64 (1:Nat)) Cb rfl):X:=h
def C!(h:X:=by exact .inl ⟨fun h=>by have h1:=h.1;have h2:=h.2.1;have h3:=h.2.2.1;have h4:=h.2.2.2;omega,rfl,rfl⟩):X:=h
def R!(h:X:=by exact DT (i:=i) rfl rfl hok.xa.1 Ca):X:=h
def QI(h:X:=by exact A9 (v':=.string (AW p)) (Gx rfl trivial) (by rw [i94])):X:=h
def ey(h:X:=by exact ES (i:=i) (j:=2) rfl rfl):X:=h
def Rq(h:X:=by exact⟨rfl,rfl,rfl,List.Sublist.refl _⟩):X:=h
def wR(h:X:=by exact Ff (i:=k) (j:=1) rfl rfl Ca):X:=h
def Wk(h:X:=by exact Nat.min_le_left _ _):X:=h
def U0(h:X:=by exact List.mem_of_mem_take hr):X:=h
def VE(h:X:=by exact RH rfl inferInstance Ca):X:=h
def Vz(h:X:=by exact Sd rfl inferInstance Ca):X:=h
def VI(h:X:=by exact Sf rfl rfl Cj):X:=h
def UG(h:X:=by exact Jq (j:=1) rfl rfl Ca):X:=h
def ZW(h:X:=by exact FB (i:=22) (j:=22) rfl rfl):X:=h
def lH(h:X:=by exact Gx (hr:=Xv hG) rfl trivial):X:=h
def TQ(h:X:=by exact show j<wz.length by omega):X:=h
def WE(h:X:=by exact .inl (List.mem_map.2 ⟨a,ha,rfl⟩)):X:=h
def S7(h:X:=by exact .inr (List.mem_map.2 ⟨a,ha,rfl⟩)):X:=h
def Ti(h:X:=by exact .inr inferInstance):X:=h
def aw(h:X:=by exact⟨fun ww hw=>Sat.right (A:=HP.AA b3 0 (AQ r)) (Eq.mp cJ hw)⟩):X:=h
def V6(h:X:=by exact D6 (l:=AQ r) rfl rfl):X:=h
def WK(h:X:=by exact CN (j:=2) rfl rfl):X:=h
def Ur(h:X:=by exact Gj (j:=0) rfl rfl):X:=h
def Tr(h:X:=by exact ES (j:=2) rfl rfl):X:=h
def VK(h:X:=by exact Gd T4 rfl rfl):X:=h
def WU(h:X:=by exact Gd T3 rfl rfl):X:=h
def Su(h:X:=by exact G9 F4 rfl rfl):X:=h
def VO(h:X:=by exact G1 rfl (X7 b13 _)):X:=h
def cZ(h:X:=by exact D6 (l:=AG m.x.ks++[u8 (Ae (!m.x.first))]) rfl Y6):X:=h
def Ug(h:X:=by exact⟨rfl,Nat.zero_le _,Ca⟩):X:=h
def TL(h:X:=by exact List.mem_append_right _ hfs):X:=h
def We(h:X:=by exact List.length_pos_iff.2 hb):X:=h
def Ue(h:X:=by exact D6 (l:=AG ks) rfl (Gk hk)):X:=h
def Tt(h:X:=by exact Nw (i:=l.length) rfl rfl h41):X:=h
def TE(h:X:=by exact ES (i:=k) (j:=4) rfl rfl):X:=h
def VU(h:X:=by exact A9 (v':=.bool false) (FB (i:=0) (j:=0) rfl rfl) rfl):X:=h
def ij(h:X:=by exact FB (i:=0) (j:=0) rfl rfl):X:=h
def pI(h:X:=by exact .cons tC (.cons rfl (.cons rfl (.cons rfl (.cons rfl (.cons rfl (.nil))))))):X:=h
def oU(h:X:=by exact CN (i:=rv.1.1) (j:=0) rfl rfl):X:=h
def vQ(h:X:=by exact DT (i:=k) rfl rfl (hok.ra r (List.mem_of_getElem? hr)).1 Ca):X:=h
def YI(h:X:=by exact⟨fun ww hw=>Sat.right (A:=HP.AA b10 0 (DC ⟨rv.1.2.2.2,-1,rv.1.2.1,rv.1.2.2.1,AW rv.1.1,[]⟩ (.slice ps.p 0 ps.c))*ps.h ([]:List ByteArray)) (Eq.mp dQ hw)⟩):X:=h
def Wm(h:X:=by exact DT (i:=i) rfl rfl q1.ca.1 Ca):X:=h
def V2(h:X:=by exact A9 (Gx rfl trivial) hok.bv):X:=h
def UW(h:X:=by exact⟨fun ww hw=>Sat.right (A:=HP.AA b6 0 (Gt F)*HP.AA b3 0 (B8 s)) (Eq.mp TH hw)⟩):X:=h
def j0(h:X:=by exact DT (i:=(AP s.side 2)) rfl rfl hok.ea.1 Ca):X:=h
def vS(h:X:=by exact DT (i:=(AP s.a 4)) rfl rfl (hok.ra r (List.mem_of_getElem? hr)).1 Ca):X:=h
def V5(h:X:=by exact A9 (v':=.bool true) (CN (i:=rv.1) (j:=3) rfl rfl) Cy):X:=h
def jx(h:X:=by exact CN (i:=rv.1) (j:=3) rfl rfl):X:=h
def cS(h:X:=by exact⟨fun ww hw=>Sat.right (A:=HP.AA b12 0 (DC ⟨rv.1,-1,0,0,⟨#[]⟩,[]⟩ (.slice ps.p 0 ps.c))*(ps.h ([]:List ByteArray)*HP.AA b3 0 (B8 s))) (Eq.mp TP hw)⟩):X:=h
def aP(h:X:=by exact⟨rfl,(w.put (AP s.side 2) (AP s.side 2) (AP s.a 4) ⟨C.cb,m2⟩ r ⟨E.q,E.o⟩),hok.put hC hr hE hm2 _,wX,rfl⟩):X:=h
def tF(h:X:=by exact⟨fun ww hw=>Sat.right (A:=HP.AA b3 0 (B8 s)) (Eq.mp Co hw)⟩):X:=h
def aj(h:X:=by exact⟨rfl,w2,hok2,by rw [hst,hn2],rfl⟩):X:=h
def Uj(h:X:=by exact A9 (Gx rfl trivial) y1.bv):X:=h
def WM(h:X:=by exact show 0<237 by omega):X:=h
def U3(h:X:=by exact show 0<300 by omega):X:=h
def Uw(h:X:=by exact gI (i:=m) (j:=8192) rfl rfl):X:=h
def UI(h:X:=by exact show 1<4 by omega):X:=h
def Vx(h:X:=by exact show 2<4 by omega):X:=h
def Wo(h:X:=by exact show 0<2 by omega):X:=h
def Yd(h:X:=by exact IJ rfl rfl (f0 b7 _ _ _)):X:=h
def ZU(h:X:=by exact iY (xs:=ks) (o:=0) rfl inferInstance (by rw [hk];rfl)):X:=h
def cI(h:X:=by exact Qe (l:=8) (h:=xs.length-8) (k':=(Fp xs).length) rfl rfl rfl Cj Ca):X:=h
def XU(h:X:=by exact⟨rfl,rfl,rfl,rfl,rfl,rfl,Nat.le_refl _⟩):X:=h
def Wz(h:X:=by exact⟨rfl,rfl,rfl,rfl,rfl,rfl,rfl,rfl,fun _ x=>x,h.ws.len,fun k=>⟨.refl _,rfl⟩⟩):X:=h
def iJ(h:X:=by exact⟨rfl,rfl,rfl,rfl,rfl,rfl,hz.filled.AO⟩):X:=h
def kQ(h:X:=by exact M! rfl rfl rfl rfl ⟨hij,hj,hs.2⟩):X:=h
def Y!(h:X:=by exact Ps (k':=(l.drop j).length) rfl rfl hj List.length_drop):X:=h
def zD(h:X:=by exact lN (cs:=[uN r.lo,uN r.hi]) rfl Cq rfl rfl):X:=h
def Y'(h:X:=by exact BS rfl (yU z.l r fr to a.p a.b a.o a.c b69 a.s (HP.AA q 0 [.slice a.p z.l.length a.c,uN z.floor,iN z.AL]*(HP.AA b8 0 [uN r.lo,uN r.hi]*(HP.AA b5 0 [uN hi]*(HP.AA b4 0 [uN (max lo z.floor)]*(HP.AA b3 0 [ptr q 0]*R))))) hs.1 hs.2 hft ht1 Ca (fun hc=>hne a.b a.o (AG z.l++a.s) (HP.AA q 0 [.slice a.p z.l.length a.c,uN z.floor,iN z.AL]*(HP.AA b8 0 [uN r.lo,uN r.hi]*(HP.AA b5 0 [uN hi]*(HP.AA b4 0 [uN (max lo z.floor)]*(HP.AA b3 0 [ptr q 0]*R))))) (by intro h0;have h7:=congrArg List.length h0;rw [List.length_append,By]at h7;have h8:z.l.length*2+a.s.length=0:=h7;have:=hs.2;omega) rfl))):X:=h
def lP(h:X:=by exact Hf (i:=0) rfl rfl hs70 Ca rfl):X:=h
def sP(h:X:=by exact RH (xs:=z.l.take fr++r::z.l.drop to) (i:=0) rfl inferInstance Ca):X:=h
def dp(h:X:=by exact BS rfl (wZ (z.l.take fr++r::z.l.drop to) 0 1 p70 b70 o70 c70 s70 (HP.AA q 0 [.slice p70 (z.l.take fr++r::z.l.drop to).length c70,uN ((rg (z.l.take fr++r::z.l.drop to) 0).hi+1),iN z.AL]*(HP.AA b8 0 [uN r.lo,uN r.hi]*(HP.AA b5 0 [uN hi]*(HP.AA b4 0 [uN (max lo z.floor)]*(HP.AA b3 0 [ptr q 0]*R))))) hs70 hc70 Ca Ca Ca)):X:=h
def Yi(h:X:=by exact Oo (xs:=l) rfl inferInstance Ca):X:=h
def Zm(h:X:=by exact MI (Post:=fun v H'=>∃b,v=.agg #[.pointer (some ⟨1,193,none⟩),ptr b 0,.int .u64 150]∧H'=HP.AA b 0 [ptr b4 0]*(HP.AA b4 0 [old]*R)) rfl (fun w hw=>⟨_,_,_,tX _ w,⟨w.heap.size,rfl,rfl⟩,hw.alloc _ _⟩)):X:=h
def y7(h:X:=by exact I6 rfl (fun w _=>uL _ w)):X:=h
def G!(h:X:=by exact Hm rfl rfl (fun w _=>yC w)):X:=h
def YE(h:X:=by exact I6 rfl (fun w hw=>mB ⟨b14,0,none⟩ ⟨b4,0,none⟩ w ((inferInstance:Rd B _ b14 0 (ptr b4 0) True).get w hw trivial))):X:=h
def T_(h:X:=by exact Hm rfl rfl (fun w _=>lJ w)):X:=h
def uS(h:X:=by exact Hm rfl rfl (fun w _=>qQ w)):X:=h
def xL(h:X:=by exact Hm rfl rfl (fun w _=>pT w)):X:=h
def cG(h:X:=by exact KR (r:=.bool true) rfl rfl (fun w=>by kernel_rfl) (fun w=>by rw [fy];simp)):X:=h
def X6(h:X:=by exact Hm rfl rfl (fun w _=>yE w)):X:=h
def Xk(h:X:=by exact Li (v:=.int .i64 (2:Nat)) Cb rfl):X:=h
def N_(h:X:=by exact BS rfl (KX q34 _ x.hi wm.w.b.length _ _ _ hT f1 Ca Ca ZO ZO)):X:=h
def ZA(h:X:=by exact D6 (l:=B4 (z.L.getD z.j AC.AK)) rfl rfl):X:=h
def fA(h:X:=by exact List.mem_map.2 ⟨rr,List.mem_of_mem_take hrr,rfl⟩):X:=h
def lC(h:X:=by exact List.mem_map.2 ⟨fm.fs[i],List.getElem_mem h15,rfl⟩):X:=h
def cK(h:X:=by exact It (xs:=fm.fs) rfl inferInstance Ca):X:=h
def eX(h:X:=by exact Hf (i:=0) rfl rfl hls Ca rfl):X:=h
def ZP(h:X:=by exact RH (xs:=l) (i:=0) rfl inferInstance Ca):X:=h
def Ya(h:X:=by exact Fx (v:=.int .i64 (7:Nat)) rfl):X:=h
def Xi(h:X:=by exact Fx (v:=.int .u8 (8:Nat)) rfl):X:=h
def jB(h:X:=by exact Fx (v:=.int .u8 (9:Nat)) rfl):X:=h
def Zk(h:X:=by exact DT (i:=0) rfl rfl hrok hne):X:=h
def YM(h:X:=by exact Oo (i:=0) (xs:=r.f.ranges) rfl inferInstance hne):X:=h
def XG(h:X:=by exact Ps (l:=1) (k':=r.f.ranges.length-1) rfl rfl hne rfl):X:=h
def cR(h:X:=by exact Hf (b:=r.b) (o:=r.o+1*2) (q:=r.o+(i+1)*2) rfl rfl (Ln hrok hne hrok.2) hlt Ca):X:=h
def gP(h:X:=by exact Oo (i:=i+1) (xs:=r.f.ranges) rfl inferInstance Ca):X:=h
def A_(h:X:=by exact Sd (i:=i) (xs:=r.f.ranges) rfl inferInstance Ca):X:=h
def XK(h:X:=by exact Sd (i:=i-1) (xs:=r.f.ranges) rfl inferInstance Ca):X:=h
def Xg(h:X:=by exact .inl ⟨hok,p21,b21,o21,c21,s21,rfl,hs21,hc21,rfl⟩):X:=h
def eH(h:X:=by exact Fj (l:=[.int .i64 0,.int .i64 0,.int .u64 0,.int .u64 0,.bool false,.string ⟨#[]⟩,.slice none 0 0]) rfl):X:=h
def ZQ(h:X:=by exact Fx (v:=.int .i64 (5:Nat)) rfl):X:=h
def XC(h:X:=by exact Fx (v:=.int .i64 (6:Nat)) rfl):X:=h
def fI(h:X:=by exact G1 rfl (yG rb p b o c xs a _ hs inferInstance hx Ca)):X:=h
def kN(h:X:=by exact G1 rfl (Mo rb p b o c xs a8 _ hs inferInstance hx Ca)):X:=h
def jP(h:X:=by exact G1 rfl (Mo rb p b o c xs a10 _ hs inferInstance hx Ca)):X:=h
def m8(h:X:=by exact DG (p:=none) (c:=0) (ys:=xs) (bb:=b) (oo:=o) rfl ⟨.inl rfl,Nat.le_refl _⟩ rfl rfl hs inferInstance rfl Cl Ca):X:=h
def Xx(h:X:=by exact HD (cs:=AQ r) rfl Cq rfl rfl):X:=h
def ao(h:X:=by exact A9 (v':=.agg (AQ (rs.getD i AC.AK)).toArray) (It (xs:=rs) rfl inferInstance Ca) rfl):X:=h
def jq(h:X:=by exact It (xs:=rs) rfl inferInstance Ca):X:=h
def bB(h:X:=by exact EO rfl rfl Ch (AC.one (rs.getD i AC.AK))):X:=h
def lY(h:X:=by exact Qe (k':=(cut wm.w.b lo hi2).length) rfl rfl rfl fX hcl2):X:=h
def sJ(h:X:=by exact My (xs:=cut wm.w.b lo hi2) (b:=wm.a.b) (o:=wm.a.o+lo*1) rfl tJ (Ai.sub (xs:=wm.w.b) inferInstance lo hi2 Ca)):X:=h
def xM(h:X:=by exact Fj (l:=AQ (C6 ⟨0,0,0,0,false,⟨#[]⟩,[]⟩)) rfl):X:=h
def eU(h:X:=by exact Dn (l:=[.int .i64 AJ,.int .i64 AF]) rfl rfl):X:=h
def Xl(h:X:=by exact bh (k:=.i64) (i:=if c<0 then(-(c+1)).toNat else c.toNat) (j:=n) dq rfl Ca):X:=h
def fL(h:X:=by exact CN (i:=E.o.state) (j:=0) rfl rfl):X:=h
def X5(h:X:=by exact A9 (v':=.agg (D3 ⟨6,0,0,0,s⟩).toArray) (FV rfl rfl rfl Cf) rfl):X:=h
def nX(h:X:=by exact⟨fun ww hw=>Sat.right (A:=HP.AA b7 0 (DC ⟨rv.1.1,rv.1.2,0,0,⟨#[]⟩,[]⟩ (.slice ps.p 0 ps.c))*ps.h ([]:List ByteArray)) (Eq.mp Co hw)⟩):X:=h
def fH(h:X:=by exact Ff (i:=E.o.read) (j:=(AW rv.1.1).size) rfl rfl Kq):X:=h
def Zh(h:X:=by exact CN (i:=rv.1.2.2.1) (j:=0) rfl rfl):X:=h
def m6(h:X:=by exact⟨rfl,(w.put i (1-i) k ⟨C.cb,m2⟩ r ⟨E.q,{E.o with read:=E.o.read+rv.1.1.length,state:=rv.1.2.1}⟩),hok.put hC hr hE hm2 _,jH,rfl⟩):X:=h
def fY(h:X:=by exact DT (i:=k) rfl rfl hps.1 iW):X:=h
def dC(h:X:=by exact FQ (f:=0) (xs:=((outs w.n.ks (Ae (decide (i=0))) (w.n.cnt i) Ls).map AW)) (v:=.string (AW p)) rfl inferInstance (by rw [getD_some hps1];rfl) iW):X:=h
def Z6(h:X:=by exact D6 (l:=AG w1.x.ks) rfl (Gk q1.ks)):X:=h
def bE(h:X:=by exact FQ (f:=0) (xs:=w1.cnt) (v:=uN cx.n) rfl inferInstance (by rw [getD_some hcx];rfl) Ca):X:=h
def bK(h:X:=by exact⟨rfl,w2,hok2,by rw [hn2,hcy],rfl⟩):X:=h
def uK(h:X:=by exact A9 (v':=.bool true) (CN (i:=rv.1.2) (j:=3) rfl rfl) Cy):X:=h
def tB(h:X:=by exact A9 (v':=.bool true) (CN (i:=rv.1.1) (j:=0) rfl rfl) Cy):X:=h
def rT(h:X:=by exact⟨fun ww hw=>Sat.right (A:=HP.AA b9 0 (DC ⟨rv.1.2,-1,rv.1.1,0,⟨#[]⟩,[]⟩ (.slice ps.p 0 ps.c))*(ps.h ([]:List ByteArray)*HP.AA b3 0 (B8 s))) (Eq.mp TP hw)⟩):X:=h
def yH(h:X:=by exact⟨rfl,(w.put (AP s.side 2) (AP s.side 2) (AP s.a 4) ⟨C.cb,m2⟩ r ⟨E.q,E.o⟩),hok.put hC hr hE hm2 _,qT,rfl⟩):X:=h
def XQ(h:X:=by exact EO (cs:=DC ⟨rv.1,-1,0,0,⟨#[]⟩,[]⟩ (.slice ps.p 0 ps.c)) rfl rfl Ch Cf):X:=h
def iF(h:X:=by exact Ez (v:=.bool true) rfl rfl rfl trivial):X:=h
def Xn(h:X:=by exact A9 (v':=.bool true) (CN (i:=rv.1) (j:=0) rfl rfl) Cy):X:=h
def iM(h:X:=by exact⟨fun ww hw=>Sat.right (A:=HP.AA b15 0 (DC ⟨rv.1,-1,0,0,⟨#[]⟩,[]⟩ (.slice ps.p 0 ps.c))*(ps.h ([]:List ByteArray)*HP.AA b3 0 (B8 s))) (Eq.mp TP hw)⟩):X:=h
def iO(h:X:=by exact A9 (v':=.agg (D3 ⟨4,0,0,0,⟨#[]⟩⟩).toArray) (FV rfl rfl rfl Cf) rfl):X:=h
def s8(h:X:=by exact⟨fun ww hw=>Sat.right (A:=HP.AA b3 0 (B8 s)*J9) (Eq.mp Co hw)⟩):X:=h
def gz(h:X:=by exact⟨rfl,w2,hok2,by rw [←h9,hn2],rfl⟩):X:=h
def kE(h:X:=by exact DT (i:=m) rfl rfl y1.ba.1 Ca):X:=h
def dT(h:X:=by exact D6 (l:=[iN (64+AP AJ 237),iN (16+AP AF 300)]) rfl rfl):X:=h
def aW(h:X:=by exact A9 (v':=.bool false) (eQ 64 rfl rfl) rfl):X:=h
def YZ(h:X:=by exact show p∈(c.CE l).Aa.filter _ from hp):X:=h
def gK(h:X:=by exact⟨rfl,rfl,rfl,⟨[],(List.append_nil _).symm,(fun _ h=>nomatch h),fun h=>absurd rfl h⟩,(fun _ h=>nomatch h),rfl⟩):X:=h
def gJ(h:X:=by exact⟨rfl,rfl,rfl,rfl,rfl,rfl,rfl,rfl⟩):X:=h
def aE(h:X:=by exact DT (i:=i) rfl rfl hok.ea.1 Ca):X:=h
def wD(h:X:=by exact A9 (v':=.bool false) (FB (i:=E.o.read) (j:=(AW E.o.wrote).size) rfl rfl) wO):X:=h
def im(h:X:=by exact FB (i:=E.o.read) (j:=(AW E.o.wrote).size) rfl rfl):X:=h
def yK(h:X:=by exact A9 (v':=.bool false) (FB (i:=E.o.AE) (j:=(AW E.o.wrote).size) rfl rfl) qS):X:=h
def iz(h:X:=by exact FB (i:=E.o.AE) (j:=(AW E.o.wrote).size) rfl rfl):X:=h
def JV(h:X:=by exact fun _ _ h=>h.elim):X:=h
def Kl(h:X:=by exact .inr Ca):X:=h
def Lo(h:X:=by exact mr [2] rfl rfl BY):X:=h
def M3(h:X:=by exact .inl (List.mem_filter.1 hp).1):X:=h
def M6(h:X:=by exact mR [4] (Ac cb m*R) (hE:=by rw [Df];infer_instance) rfl rfl ⟨m,hm,Ct,Uu⟩):X:=h
def Om(h:X:=by exact Nat.zero_le _):X:=h
def Ov(h:X:=by exact mR [6] (BB cb (ws.set j wm)*(BU db dm*R)) (hE:=gO) rfl rfl ⟨wm,dm,hwm,hd,ck,rfl⟩):X:=h
def PT(h:X:=by exact mr [4] rfl rfl ⟨mQ,rfl⟩):X:=h
def RZ(h:X:=by exact BJ ({w1 with w:={w1.w with ended:=e2}}:Bi) ⟨hw1,nQ⟩ HN rfl):X:=h
def RX(h:X:=by exact mR [4] (AB b' o' (xs++AS n) s'*R) rfl rfl ⟨q,b',o',c',s',rfl,h1,h2,rfl⟩):X:=h
def SK(h:X:=by exact BJ () trivial L? rfl):X:=h
def QX(h:X:=by exact⟨a,L,R,up b⟩):X:=h
def SY(h:X:=by exact mR [4] (AB b' o' (xs++AS n) s'*(Q*R)) rfl rfl ⟨q,b',o',c',s',Q,rfl,h1,h2,rfl,hk⟩):X:=h
def Sb(h:X:=by exact mR [6,7] H rfl rfl C!):X:=h
def QG(h:X:=by exact(List.length_map ..).symm):X:=h
def QR(h:X:=by exact .inr ⟨q,e,x⟩):X:=h
def Qp(h:X:=by exact XD (n.Aq i _) (1-i) k j l _ rfl):X:=h
def VZ(h:X:=by exact(Sat.pr.1 h3).1.elim):X:=h
def S'(h:X:=by exact mR [4] (Ac cb m*R) (hE:=aw) rfl rfl ⟨m,hm,Ct,Cr,rfl⟩):X:=h
def U6(h:X:=by exact BJ (m2.Aq {m2.x with answer:=an}) ⟨⟨hm2.g,hm2.ws,hm2.rs,hm2.fl,hm2.lo,hm2.fa,hm2.la,hm2.fv,hm2.lv⟩,uH⟩ GE rfl):X:=h
def Uc(h:X:=by exact⟨Z',wV,jN,bJ,Yx,o.read,o.state,qE⟩):X:=h
def VT(h:X:=by exact BJ () trivial pI rfl):X:=h
def US(h:X:=by exact mR [4] (Ay nb w2*H) (hE:=tF) rfl rfl aj):X:=h
def TN(h:X:=by exact⟨Nat.le_trans z1 y1,z2⟩):X:=h
def TR(h:X:=by exact Ba (k+1) WN Rv Dk rfl):X:=h
def cQ(h:X:=by exact(Fl n r rs).2 (.inr (b n Ca h5))):X:=h
def aV(h:X:=by exact .inr ⟨trivial,trivial,hpos,g.1,Ca⟩):X:=h
def dP(h:X:=by exact all (fun j c=>Ej c (L' (1-j)).length (R' (1-j))) hg hg'):X:=h
def kU(h:X:=by exact mR [6] (AB b o l s*R) rfl rfl ⟨p,b,o,c,s,sL,qZ,nD,ak⟩):X:=h
def Xz(h:X:=by exact UJ (ts:=[]) [d2,d] _ rfl rfl ⟨w2,hok2,UX,rfl⟩ rfl):X:=h
def jU(h:X:=by exact UJ (ts:=[]) [] _ rfl rfl ⟨w2,hok2,UX,rfl⟩ rfl):X:=h
def Zr(h:X:=by exact GL R ⟨Lv zV,rfl,rfl⟩):X:=h
def W9(h:X:=by exact⟨fun m hm=>absurd hm (L7 m),Nat.le_refl _⟩):X:=h
def Ys(h:X:=by exact Ih (P:=fun k=>(AH.new AJ AF).e 0 k=Da) rfl rfl rfl rfl k hk):X:=h
def jV(h:X:=by exact Ih (P:=fun k=>(AH.new AJ AF).e 1 k=Da) rfl rfl rfl rfl k hk):X:=h
def W5(h:X:=by exact mR [4] (BU db m2*R) rfl rfl ⟨m2,hok2,by rw [hsome,hm2];rfl,by rw [hsome];rfl,rfl⟩):X:=h
def kY(h:X:=by exact mr [4] rfl rfl ⟨by rw [uI];rfl,rfl⟩):X:=h
def bZ(h:X:=by exact mR [6] (Ay nb w2*H) (hE:=nX) rfl rfl ⟨nW,w2,hok2,hn2,rfl⟩):X:=h
def XR(h:X:=by exact mR [8] (Ay nb (w.put i (1-i) k ⟨C.cb,m2⟩ r ⟨E.q,{E.o with read:=E.o.read+rv.1.1.length,state:=rv.1.2.1}⟩)*H) (hE:=YI) rfl rfl m6):X:=h
def eY(h:X:=by exact mR [4] (Ay nb (w.put (AP s.side 2) (AP s.side 2) (AP s.a 4) ⟨C.cb,m2⟩ r ⟨E.q,E.o⟩)*H) (hE:=rT) rfl rfl yH):X:=h
def fM(h:X:=by exact mR [4] (Ay nb (w.put (AP s.side 2) (AP s.side 2) (AP s.a 4) ⟨C.cb,m2⟩ r ⟨E.q,E.o⟩)*H) (hE:=cS) rfl rfl aP):X:=h
def XL(h:X:=by exact mR [4] (Ay nb w2*H) (hE:=s8) rfl rfl gz):X:=h
def iC(h:X:=by exact mR [2] H rfl rfl ⟨decide (m≤8192),rfl,fun h=>by have:=of_decide_eq_true h;omega,rfl⟩):X:=h
def XY(h:X:=by exact Ba (w9,i+1) ⟨hok9,by show i+1≤l.length;omega,hk9,h9⟩ Xy Hq rfl):X:=h
end
section
variable{X Y:Prop}(k:Y)
def BL(h:A Y X:=by intro Z;refine⟨.inr inferInstance,?_⟩;exact Z.1):X:=h ⟨k⟩
def GZ(h:A Y X:=by intro Z;refine Jm 0 ?_;exact Z.1):X:=h ⟨k⟩
def Dc(h:A Y X:=by intro Z;refine⟨.inl Cc,?_⟩;exact Z.1):X:=h ⟨k⟩
def IA(h:A Y X:=by intro Z;refine JG hg1 ?_;exact Z.1):X:=h ⟨k⟩
def F0(h:A Y X:=by intro Z;refine W6 rfl rfl rfl rfl ?_;exact Z.1):X:=h ⟨k⟩
def FT(h:A Y X:=by intro Z;refine JL Wi ?_;exact Z.1):X:=h ⟨k⟩
def IL(h:A Y X:=by intro Z;refine JH hg1 ?_;exact Z.1):X:=h ⟨k⟩
def KC(h:A Y X:=by intro Z;refine JL NY ?_;exact Z.1):X:=h ⟨k⟩
def Ob(h:A Y X:=by intro Z;refine Jn 2 ?_;exact Z.1):X:=h ⟨k⟩
def K7(h:A Y X:=by intro Z;refine Jd 3 ?_;exact Z.1):X:=h ⟨k⟩
def Xr(h:A Y X:=by intro Z;refine Jm 1 ?_;exact Z.1):X:=h ⟨k⟩
def JB(h:A Y X:=by intro Z;refine Jd 4 ?_;exact Z.1):X:=h ⟨k⟩
def PF(h:A Y X:=by intro Z;refine Jf 3 ?_;exact Z.1):X:=h ⟨k⟩
def FX(h:A Y X:=by intro Z;refine sG ?_;exact Z.1):X:=h ⟨k⟩
def Lm(h:A Y X:=by intro Z;refine Jf 2 ?_;exact Z.1):X:=h ⟨k⟩
def D9(h:A Y X:=by intro Z;refine JL ER ?_;exact Z.1):X:=h ⟨k⟩
def Hc(h:A Y X:=by intro Z;refine JL qF ?_;exact Z.1):X:=h ⟨k⟩
def GF(h:A Y X:=by intro Z;refine JG hg3 ?_;exact Z.1):X:=h ⟨k⟩
def Mc(h:A Y X:=by intro Z;refine gY rfl rfl rfl rfl ?_;exact Z.1):X:=h ⟨k⟩
def HJ(h:A Y X:=by intro Z;refine D_ rfl rfl rfl ?_;exact Z.1):X:=h ⟨k⟩
def Kj(h:A Y X:=by intro Z;refine fq rfl rfl ?_;exact Z.1):X:=h ⟨k⟩
def HE(h:A Y X:=by intro Z;refine JL XV ?_;exact Z.1):X:=h ⟨k⟩
def E_(h:A Y X:=by intro Z;refine JL TD ?_;exact Z.1):X:=h ⟨k⟩
def IP(h:A Y X:=by intro Z;refine JH hg3 ?_;exact Z.1):X:=h ⟨k⟩
def A?(h:A Y X:=by intro Z;refine Bv Kv ?_;exact Z.1):X:=h ⟨k⟩
def Gw(h:A Y X:=by intro Z;refine vN rfl rfl ?_;exact Z.1):X:=h ⟨k⟩
def FJ(h:A Y X:=by intro Z;show some (Value.bool _)=some (Value.bool _);exact Z.1):X:=h ⟨k⟩
def G8(h:A Y X:=by intro Z;refine JL S8 ?_;exact Z.1):X:=h ⟨k⟩
def KA(h:A Y X:=by intro Z;refine JL cn ?_;exact Z.1):X:=h ⟨k⟩
def X9(h:A Y X:=by intro Z;refine qI ?_;exact Z.1):X:=h ⟨k⟩
def KF(h:A Y X:=by intro Z;refine JL LQ ?_;exact Z.1):X:=h ⟨k⟩
def K9(h:A Y X:=by intro Z;refine Am pJ rfl ?_;exact Z.1):X:=h ⟨k⟩
def LF(h:A Y X:=by intro Z;refine Am Ig rfl ?_;exact Z.1):X:=h ⟨k⟩
def Oj(h:A Y X:=by intro Z;refine Dx 11 Cb rfl FL ?_;exact Z.1):X:=h ⟨k⟩
def KQ(h:A Y X:=by intro Z;refine Am pS rfl ?_;exact Z.1):X:=h ⟨k⟩
def OT(h:A Y X:=by intro Z;refine Am Mp rfl ?_;exact Z.1):X:=h ⟨k⟩
def Ky(h:A Y X:=by intro Z;refine Am N8 rfl ?_;exact Z.1):X:=h ⟨k⟩
def LE(h:A Y X:=by intro Z;refine Am e7 rfl ?_;exact Z.1):X:=h ⟨k⟩
def cj(h:A Y X:=by intro Z;refine Am U_ rfl ?_;exact Z.1):X:=h ⟨k⟩
def M0(h:A Y X:=by intro Z;show Value.bool _=Value.bool _;exact Z.1):X:=h ⟨k⟩
def O6(h:A Y X:=by intro Z;refine Dx 13 Cb rfl FL ?_;exact Z.1):X:=h ⟨k⟩
def Sv(h:A Y X:=by intro Z;refine Dx 12 Cb rfl FL ?_;exact Z.1):X:=h ⟨k⟩
def Qx(h:A Y X:=by intro Z;refine BQ (HP.CV _ _ _) ?_;exact Z.1):X:=h ⟨k⟩
def oD(h:A Y X:=by intro Z;refine mE rfl (sD cb m.x.closed k _) ?_;exact Z.1):X:=h ⟨k⟩
def PO(h:A Y X:=by intro Z;show HP.AA cb (0+43+j*10) [.slice w1.a.p w1.w.b.length w1.a.c,ptr w1.sq 0,ptr w1.cq 0,uN w1.w.high,.bool w1.w.finished,.bool w1.w.ending,.bool _,.bool w1.w.given,uN w1.w.code,.bool w1.w.BG]*_=HP.AA cb (0+43+j*10) [.slice w1.a.p w1.w.b.length w1.a.c,ptr w1.sq 0,ptr w1.cq 0,uN w1.w.high,.bool w1.w.finished,.bool w1.w.ending,.bool e2,.bool w1.w.given,uN w1.w.code,.bool w1.w.BG]*(Bu w1*_);exact Z.1):X:=h ⟨k⟩
def Q8(h:A Y X:=by intro Z;refine congrArg (fun b:Bool=>HP.AA cb (0+43+j*10) [.slice w1.a.p w1.w.b.length w1.a.c,ptr w1.sq 0,ptr w1.cq 0,uN w1.w.high,.bool w1.w.finished,.bool w1.w.ending,.bool b,.bool w1.w.given,uN w1.w.code,.bool w1.w.BG]*(Bu w1*(CI cb wz j*(HP.AA b7 0 (AQ (fm.fs.getD i AC.AK))*(K*(HP.AA b3 0 (B4 fm)*R)))))) ?_;exact Z.1):X:=h ⟨k⟩
def Pa(h:A Y X:=by intro Z;refine Ei 20 Cb rfl rfl F7 EY ?_;exact Z.1):X:=h ⟨k⟩
def ax(h:A Y X:=by intro Z;refine D2 (H':=Ay nb w*H) (GC nb w H hC hr hE).symm ?_;exact Z.1):X:=h ⟨k⟩
def kT(h:A Y X:=by intro Z;refine Al 14 rfl Cb rfl rfl rfl rfl BW ?_;exact Z.1):X:=h ⟨k⟩
def fC(h:A Y X:=by intro Z;refine Al 15 rfl Cb rfl rfl rfl rfl Bg ?_;exact Z.1):X:=h ⟨k⟩
def ZY(h:A Y X:=by intro Z;refine Al 16 rfl Cb rfl rfl rfl rfl Bd ?_;exact Z.1):X:=h ⟨k⟩
def XW(h:A Y X:=by intro Z;refine Al 17 rfl Cb rfl rfl rfl rfl CT ?_;exact Z.1):X:=h ⟨k⟩
def kM(h:A Y X:=by intro Z;refine Al 18 rfl Cb rfl rfl rfl rfl BW ?_;exact Z.1):X:=h ⟨k⟩
def fE(h:A Y X:=by intro Z;refine Al 19 rfl Cb rfl rfl rfl rfl Bg ?_;exact Z.1):X:=h ⟨k⟩
def VN(h:A Y X:=by intro Z;refine Bo (HP.AA b5 0 [iN z.a]*(HP.AA b2 0 [.slice z.p z.rs.length z.c]*(HP.AA b3 0 [.nilIface]*R))) ?_;exact Z.1):X:=h ⟨k⟩
def To(h:A Y X:=by intro Z;refine Al 26 rfl Cb rfl rfl rfl rfl BW ?_;exact Z.1):X:=h ⟨k⟩
def Um(h:A Y X:=by intro Z;refine Al 27 rfl Cb rfl rfl rfl rfl Bg ?_;exact Z.1):X:=h ⟨k⟩
def dW(h:A Y X:=by intro Z;refine Bo (AB b2 o2 (DL xs pre++[xs.getD (DL xs pre).length 0 ^^^x]) s2*(HP.AA b7 0 [.slice q2 (DL xs pre++[xs.getD (DL xs pre).length 0 ^^^x]).length c2]*(HP.AA b5 0 [.slice p xs.length c]*H)*R)) ?_;exact Z.1):X:=h ⟨k⟩
def cU(h:A Y X:=by intro Z;show({z.c with ws:=z.filled.1,next:=z.c.next+1,Aa:=if DE z.filled.2.Ag=true then _ else _}:AD)=_;exact Z.1):X:=h ⟨k⟩
def Yv(h:A Y X:=by intro Z;refine Au (H':=HP.AA b o (AG l++s)*(HP.fresh bv*(HP.AA bv 0 (AG [r])*R))) R8 ?_;exact Z.1):X:=h ⟨k⟩
def qM(h:A Y X:=by intro Z;refine Au (H':=AB a.b a.o z.l a.s*(HP.AA q 0 [.slice a.p z.l.length a.c,uN z.floor,iN z.AL]*(HP.AA b8 0 [uN r.lo,uN r.hi]*(HP.AA b5 0 [uN hi]*(HP.AA b4 0 [uN (max lo z.floor)]*(HP.AA b3 0 [ptr q 0]*R)))))) yF ?_;exact Z.1):X:=h ⟨k⟩
def mN(h:A Y X:=by intro Z;refine ET (HP.AA q 0 [.slice a.p z.l.length a.c,uN z.floor,iN z.AL]*(HP.AA b8 0 [uN r.lo,uN r.hi]*(HP.AA b5 0 [uN hi]*(HP.AA b4 0 [uN (max lo z.floor)]*(HP.AA b3 0 [ptr q 0]*R))))) 12 13 Ef rfl Cb ?_;exact Z.1):X:=h ⟨k⟩
def wN(h:A Y X:=by intro Z;refine Au (H':=HP.AA q 0 [.slice p70 (z.l.take fr++r::z.l.drop to).length c70,uN z.floor,iN z.AL]*(AB b70 o70 (z.l.take fr++r::z.l.drop to) s70*(HP.AA b8 0 [uN r.lo,uN r.hi]*(HP.AA b5 0 [uN hi]*(HP.AA b4 0 [uN (max lo z.floor)]*(HP.AA b3 0 [ptr q 0]*R)))))) Cg ?_;exact Z.1):X:=h ⟨k⟩
def Z!(h:A Y X:=by intro Z;refine Au (H':=AB b70 o70 (z.l.take fr++r::z.l.drop to) s70*(HP.AA q 0 [.slice p70 (z.l.take fr++r::z.l.drop to).length c70,uN ((rg (z.l.take fr++r::z.l.drop to) 0).hi+1),iN z.AL]*(HP.AA b8 0 [uN r.lo,uN r.hi]*(HP.AA b5 0 [uN hi]*(HP.AA b4 0 [uN (max lo z.floor)]*(HP.AA b3 0 [ptr q 0]*R)))))) Cg ?_;exact Z.1):X:=h ⟨k⟩
def vT(h:A Y X:=by intro Z;refine ET (HP.AA q 0 [.slice p70 (z.l.take fr++r::z.l.drop to).length c70,uN ((rg (z.l.take fr++r::z.l.drop to) 0).hi+1),iN z.AL]*(HP.AA b8 0 [uN r.lo,uN r.hi]*(HP.AA b5 0 [uN hi]*(HP.AA b4 0 [uN (max lo z.floor)]*(HP.AA b3 0 [ptr q 0]*R))))) 8 9 Ef rfl Cb ?_;exact Z.1):X:=h ⟨k⟩
def Yj(h:A Y X:=by intro Z;refine wpIn_mono (hasg pre x l (HP.obj l (rec_ .ready none)*(HP.obj w.heap.size (.deferred (some []))*R)) _ W hE rfl (e2▸hW)) ?_;exact Z.1):X:=h ⟨k⟩
def iP(h:A Y X:=by intro Z;refine⟨_,_,run_endRound none hb2,.bool true,_,rfl,⟨true,rfl,fun _=>hG,rfl⟩,?_⟩;exact Z.1):X:=h ⟨k⟩
def aB(h:A Y X:=by intro Z;refine⟨_,_,run_endRound (some (EG (some id0))) hb2,.bool false,_,rfl,⟨false,rfl,fun h=>(by cases h),rfl⟩,?_⟩;exact Z.1):X:=h ⟨k⟩
def dZ(h:A Y X:=by intro Z;refine⟨_,_,run_endRound (some (EG none)) hb2,.bool false,_,rfl,⟨false,rfl,fun h=>(by cases h),rfl⟩,?_⟩;exact Z.1):X:=h ⟨k⟩
def X3(h:A Y X:=by intro Z;refine Au (H':=HP.AA cb (0+43+j*10) (Bn wm)*(Bu wm*(AX cb m.x*(CI cb m.ws j*(Fs m cb*R))))) VP ?_;exact Z.1):X:=h ⟨k⟩
def iQ(h:A Y X:=by intro Z;refine Bo (HP.AA cb (0+43+j*10) (Bn w2)*(Bu w2*R)) (hE:=by rw [hw2,eag];unfold Bu;infer_instance) ?_;exact Z.1):X:=h ⟨k⟩
def dG(h:A Y X:=by intro Z;show _=HP.AA b3 0 (AQ r)*(HP.AA b o [.slice a1.p z.b.length a1.c,ptr rm.cq 0,uN (max rm.r.high (r.f.offset+r.f.data.size)),uN (if r.f.fin then(r.f.offset+r.f.data.size)else rm.r.end_),.bool (rm.r.ended||r.f.fin),.bool rm.r.given,uN rm.r.code,uN rm.r.read,iN rm.r.state]*(HP.AA a1.b a1.o (AG z.b++a1.s)*AZ rm.cq z.ca z.AE*R));exact Z.1):X:=h ⟨k⟩
def Wu(h:A Y X:=by intro Z;show _=AB b81 o81 (rm1.r.b.take (min ((AV rm1.r.read rm1.r.high rm1.r.AE.l).1-rm1.r.read) AL.toNat)) s81*(AX cb m.x*(HP.AA cb (0+83+j*9) [.slice p89 (rm1.r.b.drop (min ((AV rm1.r.read rm1.r.high rm1.r.AE.l).1-rm1.r.read) AL.toNat)).length c89,ptr rm1.cq 0,uN rm1.r.high,uN rm1.r.end_,.bool rm1.r.ended,.bool rm1.r.given,uN rm1.r.code,uN (rm1.r.read+(min ((AV rm1.r.read rm1.r.high rm1.r.AE.l).1-rm1.r.read) AL.toNat)),iN (if rm1.r.ended=true∧rm1.r.read+(min ((AV rm1.r.read rm1.r.high rm1.r.AE.l).1-rm1.r.read) AL.toNat)=rm1.r.end_ then 1 else rm1.r.state)]*(AB b89 o89 (rm1.r.b.drop (min ((AV rm1.r.read rm1.r.high rm1.r.AE.l).1-rm1.r.read) AL.toNat)) s89*AZ rm1.cq rm1.ca rm1.r.AE*(Eb cb m.rs j*(Et m cb*R)))));exact Z.1):X:=h ⟨k⟩
def iH(h:A Y X:=by intro Z;refine E5 (H':=AB b o xs s*(HP.AA b6 0 (AG [(4:UInt8)])*(HP.AA fb 0 (AQ r)*R))) MP ?_;exact Z.1):X:=h ⟨k⟩
def eR(h:A Y X:=by intro Z;refine E5 (H':=AB b o xs s*(HP.AA b12 0 (AG [(bif r.f.fin then(9:UInt8)else 8)])*(HP.AA fb 0 (AQ r)*R))) MP ?_;exact Z.1):X:=h ⟨k⟩
def bz(h:A Y X:=by intro Z;refine ET (HP.AA b5 0 [uN (rg r.f.ranges 0).lo,uN (rg r.f.ranges 0).hi]*(HP.AA fb 0 (AQ r)*R)) 19 21 Ef rfl Cb ?_;exact Z.1):X:=h ⟨k⟩
def XI(h:A Y X:=by intro Z;refine E5 (H':=AB b o xs s*(HP.AA b15 0 (AG [(2:UInt8)])*(HP.AA b5 0 [uN (rg r.f.ranges 0).lo,uN (rg r.f.ranges 0).hi]*(HP.AA fb 0 (AQ r)*R)))) rM ?_;exact Z.1):X:=h ⟨k⟩
def cN(h:A Y X:=by intro Z;refine ET (HP.AA b7 0 [uN (rg r.f.ranges (i+1)).lo,uN (rg r.f.ranges (i+1)).hi]*(HP.AA fb 0 (AQ r)*R)) 21 21 Ef rfl Cb ?_;exact Z.1):X:=h ⟨k⟩
def V?(h:A Y X:=by intro Z;refine BQ (H':=HP.AA b3 0 (AQ r)*(C*(C9 bc f1 f2 f3 us1 us2 us3*(AB b o xs s*R)))) Cg ?_;exact Z.1):X:=h ⟨k⟩
def rR(h:A Y X:=by intro Z;refine mE rfl (eO r b3 bc f1 f2 f3 us1 us2 us3 C _ hF hw rfl hm inferInstance) ?_;exact Z.1):X:=h ⟨k⟩
def dO(h:A Y X:=by intro Z;refine BQ (H':=AB b o xs s*(HP.AA b3 0 (AQ r)*(C*(C9 bc f1 f2 f3 us1 us2 us3*R)))) Cg ?_;exact Z.1):X:=h ⟨k⟩
def yO(h:A Y X:=by intro Z;refine BQ (H':=AB 0 0 ([]:List UInt8) []*(HP.AA b3 0 (AG ks)*H)) M2 ?_;exact Z.1):X:=h ⟨k⟩
def Xo(h:A Y X:=by intro Z;refine mE rfl (lU m.x.gq n.toNat 4611686018427387904 m.ga m.AI _ hm.g hi.AI (by have h7:=hi.AI.len;rw [hi.gm]at h7;have h8:m.AI.l.length≤8:=h7;omega)) ?_;exact Z.1):X:=h ⟨k⟩
def aZ(h:A Y X:=by intro Z;refine Au (H':=AX cb m2.x*(AZ m2.x.gq m2.ga m2.AI*(BB cb m2.ws*(Be cb m2.rs*(DS m2*(HP.AA b14 0 (AQ (rs.getD i AC.AK))*(AB b45 o45 rs s45*(CG rs*(AB b28 o28 ys s28*(R)))))))))) (by first|rw [Df] |rfl) ?_;exact Z.1):X:=h ⟨k⟩
def iS(h:A Y X:=by intro Z;show Fh i (Bk n.ks _ (UInt64.ofNat m) (Ar fs)::outs n.ks _ (m+1) Ls) n=_;exact Z.1):X:=h ⟨k⟩
def W0(h:A Y X:=by intro Z;show(n.AN++_).length=(if 0=i then L i++Ls else L 0).length+(if 1=i then L i++Ls else L 1).length;exact Z.1):X:=h ⟨k⟩
def YJ(h:A Y X:=by intro Z;refine E5 (H':=BU db dm*(HP.AA cb (0+43+j*10) (Bn wm)*(AB wm.a.b wm.a.o wm.w.b wm.a.s*(AZ wm.sq wm.sa wm.w.AO*(AZ wm.cq wm.ca wm.w.AE*(CI cb ws j*R)))))) Cg ?_;exact Z.1):X:=h ⟨k⟩
def Xm(h:A Y X:=by intro Z;show _=HP.AA b13 0 (AQ (C6 (Bw j lo (wm.w.finished&&decide (hi2=wm.w.b.length)) (cut wm.w.b lo hi2))))*(HP.AA cb (0+43+j*10) [.slice wm.a.p wm.w.b.length wm.a.c,ptr wm.sq 0,ptr wm.cq 0,uN (max wm.w.high hi2),.bool wm.w.finished,.bool (wm.w.ending||(wm.w.finished&&decide (hi2=wm.w.b.length))),.bool wm.w.ended,.bool wm.w.given,uN wm.w.code,.bool wm.w.BG]*(AB wm.a.b wm.a.o wm.w.b wm.a.s*(AZ wm.sq sa2 (if lo<hi2 then wm.w.AO.add lo (hi2-1)else wm.w.AO)*AZ wm.cq wm.ca wm.w.AE)*CI cb ws j)*(BU db dm2*R));exact Z.1):X:=h ⟨k⟩
def jA(h:A Y X:=by intro Z;refine E5 (H':=AB 0 0 ([]:List UInt8) []*(BU b35 (⟨⟨[],m.x.AJ-16⟩,Bc,[],Bc⟩:De)*(Ac cb m*(DX pk*(AB tb ob tf ts*R))))) M2 ?_;exact Z.1):X:=h ⟨k⟩
def kA(h:A Y X:=by intro Z;refine Au (H':=A7 nb w.x*(AB w.xa.b w.xa.o w.cs w.xa.s*(AB w.ea.b w.ea.o w.rows w.ea.s*(AB w.ba.b w.ba.o w.AN w.ba.s*(AB w.ca.b w.ca.o w.cnt w.ca.s*(Ac C.cb C.c*(AB r.a.b r.a.o r.es r.a.s*(BX E.q E.o*(Do w i i 0 r*H))))))))) (GC nb w H hC hr hE) ?_;exact Z.1):X:=h ⟨k⟩
def YB(h:A Y X:=by intro Z;refine Au (H':=HP.AA b10 0 (DC ⟨rv.1.2.2.2,-1,rv.1.2.1,rv.1.2.2.1,AW rv.1.1,[]⟩ (.slice ps.p 0 ps.c))*(ps.h ([]:List ByteArray)*(A7 nb w.x*(AB w.xa.b w.xa.o w.cs w.xa.s*(AB w.ea.b w.ea.o w.rows w.ea.s*(AB w.ba.b w.ba.o w.AN w.ba.s*(AB w.ca.b w.ca.o w.cnt w.ca.s*(Ac C.cb m2*(AB r.a.b r.a.o r.es r.a.s*(BX E.q E.o*(Do w i (1-i) k r*H))))))))))) Cg ?_;exact Z.1):X:=h ⟨k⟩
def aT(h:A Y X:=by intro Z;refine Au (H':=A7 nb w.x*(AB w.xa.b w.xa.o w.cs w.xa.s*(AB w.ea.b w.ea.o w.rows w.ea.s*(AB w.ba.b w.ba.o w.AN w.ba.s*(AB w.ca.b w.ca.o w.cnt w.ca.s*(Ac C.cb C.c*(AB r.a.b r.a.o r.es r.a.s*(BX E.q E.o*(Do w 0 i k r*H))))))))) (GC nb w H hC hr hE) ?_;exact Z.1):X:=h ⟨k⟩
def Lf(h:A Y X:=by intro Z;refine J1 ?_;refine F0 ?_;refine J1 ?_;refine F0 ?_;refine J1 ?_;refine F0 ?_;exact Z.1):X:=h ⟨k⟩
def Dh(h:A Y X:=by intro Z;refine JR ?_;refine Dc ?_;refine JD ?_;exact Z.1):X:=h ⟨k⟩
def Ia(h:A Y X:=by intro Z;refine IA ?_;refine J1 ?_;refine IA ?_;refine J1 ?_;refine IA ?_;exact Z.1):X:=h ⟨k⟩
def Lr(h:A Y X:=by intro Z;refine Jn 1 ?_;refine Lm ?_;refine K7 ?_;exact Z.1):X:=h ⟨k⟩
def Pf(h:A Y X:=by intro Z;refine Ob ?_;refine PF ?_;refine JB ?_;exact Z.1):X:=h ⟨k⟩
def IE(h:A Y X:=by intro Z;refine IL ?_;refine IL ?_;refine IL ?_;exact Z.1):X:=h ⟨k⟩
def El(h:A Y X:=by intro Z;refine GZ ?_;refine Xr ?_;exact Z.1):X:=h ⟨k⟩
def D7(h:A Y X:=by intro Z;refine KC ?_;refine J2 ?_;exact Z.1):X:=h ⟨k⟩
def UK(h:A Y X:=by intro Z;refine HJ ?_;refine HJ ?_;refine HJ ?_;refine HJ ?_;refine HJ ?_;exact Z.1):X:=h ⟨k⟩
def Dm(h:A Y X:=by intro Z;refine JD ?_;refine J2 ?_;exact Z.1):X:=h ⟨k⟩
def Lw(h:A Y X:=by intro Z;refine Jm 4 ?_;refine Jn 5 ?_;refine Jf 6 ?_;refine Jd 7 ?_;exact Z.1):X:=h ⟨k⟩
def pN(h:A Y X:=by intro Z;refine Ek 13 rfl Cb rfl rfl rfl rfl ?_;refine Ek 14 rfl Cb rfl rfl rfl rfl ?_;refine Ek 15 rfl Cb rfl rfl rfl rfl ?_;refine Ek 16 rfl Cb rfl rfl rfl rfl ?_;refine Ek 17 rfl Cb rfl rfl rfl rfl ?_;refine Ek 18 rfl Cb rfl rfl rfl rfl ?_;refine Ek 19 rfl Cb rfl rfl rfl rfl ?_;refine Ek 20 rfl Cb rfl rfl rfl rfl ?_;refine Ek 21 rfl Cb rfl rfl rfl rfl ?_;exact Z.1):X:=h ⟨k⟩
def O7(h:A Y X:=by intro Z;refine JG F1 ?_;refine J1 ?_;refine JG F1 ?_;exact Z.1):X:=h ⟨k⟩
def ZE(h:A Y X:=by intro Z;refine J1 ?_;refine JL tN ?_;refine Hc ?_;refine J1 ?_;refine JL Xs ?_;refine Hc ?_;refine J1 ?_;refine Hc ?_;refine LF ?_;exact Z.1):X:=h ⟨k⟩
def rB(h:A Y X:=by intro Z;refine FX ?_;refine X9 ?_;refine FX ?_;exact Z.1):X:=h ⟨k⟩
def PP(h:A Y X:=by intro Z;refine GF ?_;refine J1 ?_;refine GF ?_;refine J1 ?_;refine GF ?_;exact Z.1):X:=h ⟨k⟩
def KY(h:A Y X:=by intro Z;refine Jd 0 ?_;refine Jd 1 ?_;refine Pf ?_;exact Z.1):X:=h ⟨k⟩
def T8(h:A Y X:=by intro Z;refine JG T1 ?_;refine J1 ?_;refine JG T1 ?_;refine J1 ?_;refine JG T1 ?_;exact Z.1):X:=h ⟨k⟩
def QK(h:A Y X:=by intro Z;refine J1 ?_;refine F0 ?_;refine J1 ?_;exact Z.1):X:=h ⟨k⟩
def Fm(h:A Y X:=by intro Z;refine JR ?_;refine BL ?_;exact Z.1):X:=h ⟨k⟩
def Y0(h:A Y X:=by intro Z;refine Al 29 rfl Cb rfl rfl rfl rfl CT ?_;refine Al 30 rfl Cb rfl rfl rfl rfl BW ?_;refine Al 31 rfl Cb rfl rfl rfl rfl Bg ?_;refine Al 32 rfl Cb rfl rfl rfl rfl Gf ?_;refine Al 33 rfl Cb rfl rfl rfl rfl yK ?_;refine JT 34 rfl EB ?_;refine JD ?_;refine J1 ?_;refine Kj ?_;exact Z.1):X:=h ⟨k⟩
def HQ(h:A Y X:=by intro Z;refine E_ ?_;refine J3 ?_;exact Z.1):X:=h ⟨k⟩
def E4(h:A Y X:=by intro Z;refine FT ?_;refine J3 ?_;exact Z.1):X:=h ⟨k⟩
def Vy(h:A Y X:=by intro Z;refine JU 15 ?_;refine JU 16 ?_;refine JU 17 ?_;refine JU 18 ?_;refine JU 19 ?_;refine JU 20 ?_;refine JU 21 ?_;refine JU 22 ?_;refine JU 23 ?_;exact Z.1):X:=h ⟨k⟩
def tG(h:A Y X:=by intro Z;refine JU 25 ?_;refine JU 26 ?_;refine JU 27 ?_;refine JU 28 ?_;refine JU 29 ?_;refine JU 30 ?_;refine JU 31 ?_;refine JU 32 ?_;refine JU 33 ?_;exact Z.1):X:=h ⟨k⟩
def Kx(h:A Y X:=by intro Z;refine Mc ?_;refine Mc ?_;refine Mc ?_;exact Z.1):X:=h ⟨k⟩
def NN(h:A Y X:=by intro Z;refine JG T2 ?_;refine J1 ?_;refine JG T2 ?_;exact Z.1):X:=h ⟨k⟩
def Wc(h:A Y X:=by intro Z;refine JG hg4 ?_;refine J1 ?_;refine JG hg4 ?_;refine J1 ?_;refine JG hg4 ?_;exact Z.1):X:=h ⟨k⟩
def Ux(h:A Y X:=by intro Z;refine J3 ?_;refine mA 9 9 ?_;refine El ?_;refine Pf ?_;refine Ja 5 ?_;refine Ja 6 ?_;refine JT 7 rfl XV ?_;refine Ja 8 ?_;refine Dm ?_;exact Z.1):X:=h ⟨k⟩
def Gc(h:A Y X:=by intro Z;refine A? ?_;refine JR ?_;exact Z.1):X:=h ⟨k⟩
def u9(h:A Y X:=by intro Z;refine XW ?_;refine kM ?_;refine fE ?_;refine Al 20 rfl Cb rfl rfl rfl rfl Gf ?_;refine Al 21 rfl Cb rfl rfl rfl rfl wD ?_;refine JT 22 rfl EB ?_;refine Jm 23 ?_;refine Al 24 rfl Cb rfl rfl rfl rfl Bd ?_;refine Al 25 rfl Cb rfl rfl rfl rfl CT ?_;exact Z.1):X:=h ⟨k⟩
def WZ(h:A Y X:=by intro Z;refine JH F1 ?_;refine JH F1 ?_;refine JH F1 ?_;exact Z.1):X:=h ⟨k⟩
def Ir(h:A Y X:=by intro Z;refine GZ ?_;refine Lr ?_;exact Z.1):X:=h ⟨k⟩
def RY(h:A Y X:=by intro Z;refine JN 6 rfl hg1 ?_;refine JN 7 rfl hg1 ?_;refine JN 8 rfl hg1 ?_;refine JN 9 rfl hg1 ?_;exact Z.1):X:=h ⟨k⟩
def P9(h:A Y X:=by intro Z;refine JG hg2 ?_;refine J1 ?_;refine JG hg2 ?_;refine J1 ?_;exact Z.1):X:=h ⟨k⟩
def FG(h:A Y X:=by intro Z;refine JD ?_;refine J1 ?_;exact Z.1):X:=h ⟨k⟩
def xP(h:A Y X:=by intro Z;refine JL (Je (j:=56) rfl rfl Ca) ?_;refine Hc ?_;refine JL (TS (j:=192) rfl rfl ⟨Ca,Ca⟩) ?_;refine J1 ?_;refine JL (Je (j:=48) rfl rfl Ca) ?_;refine Hc ?_;refine J1 ?_;refine JL (Je (j:=40) rfl rfl Ca) ?_;refine Hc ?_;exact Z.1):X:=h ⟨k⟩
def RT(h:A Y X:=by intro Z;refine Oj ?_;refine Dh ?_;refine J2 ?_;refine mA 13 14 ?_;refine El ?_;refine Ob ?_;exact Z.1):X:=h ⟨k⟩
def TB(h:A Y X:=by intro Z;refine Jf 14 ?_;refine Jd 15 ?_;refine Jf 16 ?_;refine Jd 17 ?_;refine JT 18 rfl H3 ?_;exact Z.1):X:=h ⟨k⟩
def Hb(h:A Y X:=by intro Z;refine J2 ?_;refine FT ?_;exact Z.1):X:=h ⟨k⟩
def S9(h:A Y X:=by intro Z;refine J5 ?_;refine JL QE ?_;refine J1 ?_;refine JL j0 ?_;refine JL XZ ?_;refine J1 ?_;refine JL vS ?_;refine JL SW ?_;exact Z.1):X:=h ⟨k⟩
def P5(h:A Y X:=by intro Z;refine Jf 1 ?_;refine Jd 2 ?_;refine Jn 3 ?_;refine Jf 4 ?_;refine JT 5 rfl pU ?_;exact Z.1):X:=h ⟨k⟩
def Fg(h:A Y X:=by intro Z;refine JR ?_;refine J4 ?_;exact Z.1):X:=h ⟨k⟩
def QN(h:A Y X:=by intro Z;refine Jm 11 ?_;refine Jn 12 ?_;refine Jf 13 ?_;refine Jd 14 ?_;exact Z.1):X:=h ⟨k⟩
def SJ(h:A Y X:=by intro Z;refine IP ?_;refine IP ?_;refine IP ?_;exact Z.1):X:=h ⟨k⟩
def PJ(h:A Y X:=by intro Z;refine Jm 9 ?_;refine Jn 10 ?_;refine Jf 11 ?_;refine Jd 12 ?_;exact Z.1):X:=h ⟨k⟩
def gA(h:A Y X:=by intro Z;refine JN 15 rfl F2 ?_;refine JN 16 rfl F2 ?_;refine JN 17 rfl F2 ?_;refine JN 18 rfl F2 ?_;refine JN 19 rfl F2 ?_;refine JN 20 rfl F2 ?_;refine JN 21 rfl F2 ?_;refine JN 22 rfl F2 ?_;refine JN 23 rfl F2 ?_;exact Z.1):X:=h ⟨k⟩
def NH(h:A Y X:=by intro Z;refine Jn 6 ?_;refine Jf 7 ?_;refine Jd 8 ?_;exact Z.1):X:=h ⟨k⟩
def Gr(h:A Y X:=by intro Z;refine JR ?_;refine J3 ?_;exact Z.1):X:=h ⟨k⟩
def Hp(h:A Y X:=by intro Z;refine JR ?_;refine J6 ?_;exact Z.1):X:=h ⟨k⟩
def M?(h:A Y X:=by intro Z;refine ET (HP.AA fb 0 (AQ r)*R) 19 21 Ef rfl Cb ?_;refine El ?_;refine Lw ?_;refine JT 8 rfl YK ?_;refine Jm 10 ?_;refine Jn 11 ?_;refine Jf 12 ?_;refine Jd 13 ?_;refine Jm 15 ?_;exact Z.1):X:=h ⟨k⟩
def mH(h:A Y X:=by intro Z;refine ET (HP.AA fb 0 (AQ r)*R) 18 20 Ef rfl Cb ?_;refine GZ ?_;refine Jm 3 ?_;refine Jn 4 ?_;refine Jf 5 ?_;refine Jd 6 ?_;refine JT 7 rfl YK ?_;refine PJ ?_;refine Jm 14 ?_;exact Z.1):X:=h ⟨k⟩
def NT(h:A Y X:=by intro Z;refine JH T1 ?_;refine JH T1 ?_;exact Z.1):X:=h ⟨k⟩
def Ks(h:A Y X:=by intro Z;refine JL J0 ?_;refine J2 ?_;exact Z.1):X:=h ⟨k⟩
def I4(h:A Y X:=by intro Z;refine J2 ?_;refine Kj ?_;exact Z.1):X:=h ⟨k⟩
def Ml(h:A Y X:=by intro Z;refine IA ?_;refine J1 ?_;exact Z.1):X:=h ⟨k⟩
def vV(h:A Y X:=by intro Z;refine Jm 6 ?_;refine Jn 7 ?_;refine Jf 8 ?_;refine Jd 9 ?_;refine JT 10 rfl Ft ?_;refine JT 11 rfl Oz ?_;refine JT 12 rfl Fy ?_;refine TB ?_;refine Av 1 Cb rfl rfl Ig ?_;exact Z.1):X:=h ⟨k⟩
def Zq(h:A Y X:=by intro Z;refine pN ?_;refine Ek 22 rfl Cb rfl rfl rfl rfl ?_;refine Ek 23 rfl Cb rfl rfl rfl rfl ?_;refine Ek 24 rfl Cb rfl rfl rfl rfl ?_;refine Ek 25 rfl Cb rfl rfl rfl rfl ?_;exact Z.1):X:=h ⟨k⟩
def iB(h:A Y X:=by intro Z;refine Au (H':=AB b o (l.take i) (AG (l.drop i)++s)*R) eT ?_;refine mA 6 8 ?_;refine El ?_;refine JT 2 rfl VL ?_;refine Jm 3 ?_;refine Jm 4 ?_;refine JT 5 rfl Y! ?_;exact Z.1):X:=h ⟨k⟩
def Y8(h:A Y X:=by intro Z;refine Pf ?_;refine Jm 5 ?_;refine JT 6 rfl V3 ?_;refine Jf 7 ?_;refine JT 8 rfl A_ ?_;refine Jf 9 ?_;refine Jd 10 ?_;refine JT 11 rfl H3 ?_;refine JT 12 rfl UH ?_;exact Z.1):X:=h ⟨k⟩
def Jh(h:A Y X:=by intro Z;refine Jf 4 ?_;refine Jd 5 ?_;exact Z.1):X:=h ⟨k⟩
def Sg(h:A Y X:=by intro Z;refine JL V1 ?_;refine J1 ?_;refine JL R! ?_;refine JL aS ?_;exact Z.1):X:=h ⟨k⟩
def Sj(h:A Y X:=by intro Z;refine JH hg4 ?_;refine JH hg4 ?_;refine JH hg4 ?_;exact Z.1):X:=h ⟨k⟩
def Wa(h:A Y X:=by intro Z;refine JH hg2 ?_;refine JH hg2 ?_;refine JH hg2 ?_;exact Z.1):X:=h ⟨k⟩
def dH(h:A Y X:=by intro Z;refine mA 10 11 ?_;refine Jd 0 ?_;refine Lr ?_;refine Jh ?_;refine Jd 6 ?_;refine JT 7 rfl Kk ?_;refine Jf 8 ?_;refine Jd 9 ?_;refine Av 10 Cb rfl rfl N_ ?_;exact Z.1):X:=h ⟨k⟩
def Zx(h:A Y X:=by intro Z;refine Jm 11 ?_;refine Al 12 rfl Cb rfl rfl rfl rfl Bd ?_;refine Al 13 rfl Cb rfl rfl rfl rfl CT ?_;refine kT ?_;refine fC ?_;refine ZY ?_;refine u9 ?_;exact Z.1):X:=h ⟨k⟩
def IN(h:A Y X:=by intro Z;refine JR ?_;refine J1 ?_;exact Z.1):X:=h ⟨k⟩
def iT(h:A Y X:=by intro Z;refine Jf 6 ?_;refine Jd 7 ?_;refine Jf 8 ?_;refine Jd 9 ?_;refine JT 10 rfl Gf ?_;refine JT 11 rfl Fy ?_;refine JT 12 rfl Kp ?_;refine JT 13 rfl Ny ?_;exact Z.1):X:=h ⟨k⟩
def Ic(h:A Y X:=by intro Z;refine J4 ?_;refine D7 ?_;exact Z.1):X:=h ⟨k⟩
def TF(h:A Y X:=by intro Z;refine JH F2 ?_;refine JH F2 ?_;refine JH F2 ?_;exact Z.1):X:=h ⟨k⟩
def Zv(h:A Y X:=by intro Z;refine J7 ?_;refine xP ?_;refine J1 ?_;refine JL (Je (j:=32) rfl rfl Ca) ?_;refine Hc ?_;refine J1 ?_;refine JL aN ?_;refine Hc ?_;refine ZE ?_;exact Z.1):X:=h ⟨k⟩
def kG(h:A Y X:=by intro Z;refine QN ?_;refine Jm 15 ?_;refine Jm 16 ?_;refine JT 17 rfl lY ?_;refine JT 18 rfl sJ ?_;refine JT 19 rfl GI ?_;refine Av 20 Cb rfl rfl xM ?_;exact Z.1):X:=h ⟨k⟩
def S6(h:A Y X:=by intro Z;refine Jd 0 ?_;refine Lr ?_;refine Jm 4 ?_;refine JT 5 rfl K' ?_;refine Jf 6 ?_;exact Z.1):X:=h ⟨k⟩
def dD(h:A Y X:=by intro Z;refine J2 ?_;refine wN ?_;refine mA 10 10 ?_;refine Jd 0 ?_;refine Lr ?_;refine JT 4 rfl Ft ?_;refine Jd 5 ?_;refine NH ?_;refine JT 9 rfl IG ?_;exact Z.1):X:=h ⟨k⟩
def Jy(h:A Y X:=by intro Z;refine Jf 0 ?_;refine Jd 1 ?_;exact Z.1):X:=h ⟨k⟩
def QP(h:A Y X:=by intro Z;refine oD ?_;refine Hp ?_;refine JL Xp ?_;refine J2 ?_;exact Z.1):X:=h ⟨k⟩
def cH(h:A Y X:=by intro Z;refine Jn 9 ?_;refine Jf 10 ?_;refine Oj ?_;refine Dh ?_;refine J1 ?_;refine Z! ?_;refine vT ?_;refine KY ?_;refine Av 5 Cb rfl rfl dp ?_;exact Z.1):X:=h ⟨k⟩
def Uo(h:A Y X:=by intro Z;refine mI Tryz.func44 ?_;refine Hb ?_;refine FT ?_;refine J4 ?_;refine OT ?_;exact Z.1):X:=h ⟨k⟩
def UY(h:A Y X:=by intro Z;refine tG ?_;refine JU 34 ?_;refine JU 35 ?_;refine JU 36 ?_;refine JU 37 ?_;exact Z.1):X:=h ⟨k⟩
def iK(h:A Y X:=by intro Z;refine qM ?_;refine mN ?_;refine KY ?_;refine Jm 5 ?_;refine Jm 6 ?_;refine JT 7 rfl (D6 rfl rfl) ?_;refine Av 8 Cb rfl rfl zD ?_;exact Z.1):X:=h ⟨k⟩
def Km(h:A Y X:=by intro Z;refine KA ?_;refine J2 ?_;exact Z.1):X:=h ⟨k⟩
def bQ(h:A Y X:=by intro Z;refine J4 ?_;refine JL Xs ?_;refine Hc ?_;refine JL (TS (j:=64) rfl rfl ⟨Ca,Ca⟩) ?_;refine J1 ?_;refine Hc ?_;refine LF ?_;exact Z.1):X:=h ⟨k⟩
def Rt(h:A Y X:=by intro Z;refine Jd 7 ?_;refine JT 8 rfl G_ ?_;refine Jn 9 ?_;exact Z.1):X:=h ⟨k⟩
def Jr(h:A Y X:=by intro Z;refine Ob ?_;refine PF ?_;exact Z.1):X:=h ⟨k⟩
def Jb(h:A Y X:=by intro Z;refine rB ?_;refine X9 ?_;exact Z.1):X:=h ⟨k⟩
def KZ(h:A Y X:=by intro Z;refine JL iV ?_;refine J2 ?_;exact Z.1):X:=h ⟨k⟩
def La(h:A Y X:=by intro Z;refine JL ID ?_;refine J2 ?_;exact Z.1):X:=h ⟨k⟩
def Vl(h:A Y X:=by intro Z;refine J2 ?_;refine Gw ?_;refine J2 ?_;refine JL Z0 ?_;refine J6 ?_;exact Z.1):X:=h ⟨k⟩
def fB(h:A Y X:=by intro Z;refine J6 ?_;refine JL (D6 (l:=B8 s) rfl rfl) ?_;refine mE rfl (zE hG nb t9 s w9 L Rr _ hok9 hw9 hs ht9) ?_;exact Z.1):X:=h ⟨k⟩
def JP(h:A Y X:=by intro Z;refine KF ?_;refine J2 ?_;exact Z.1):X:=h ⟨k⟩
def Ns(h:A Y X:=by intro Z;refine F0 ?_;refine J1 ?_;refine G8 ?_;exact Z.1):X:=h ⟨k⟩
def fF(h:A Y X:=by intro Z;refine NN ?_;refine JL lH ?_;refine JG T2 ?_;refine JL xL ?_;refine JG T2 ?_;refine KF ?_;refine JL IY ?_;refine J2 ?_;exact Z.1):X:=h ⟨k⟩
def Yy(h:A Y X:=by intro Z;refine mA 8 9 ?_;refine El ?_;refine Jm 2 ?_;refine JT 3 rfl NY ?_;refine JT 4 rfl Ij ?_;refine Jm 5 ?_;refine Jm 6 ?_;exact Z.1):X:=h ⟨k⟩
def OU(h:A Y X:=by intro Z;refine J2 ?_;refine HE ?_;refine J6 ?_;exact Z.1):X:=h ⟨k⟩
def SL(h:A Y X:=by intro Z;refine mA 11 12 ?_;refine GZ ?_;refine Jn 1 ?_;exact Z.1):X:=h ⟨k⟩
def jS(h:A Y X:=by intro Z;refine J5 ?_;refine JL T_ ?_;refine J7 ?_;refine JL uS ?_;refine JL (FB (i:=22) (j:=20) rfl rfl) ?_;refine J1 ?_;exact Z.1):X:=h ⟨k⟩
def KU(h:A Y X:=by intro Z;refine QK ?_;refine F0 ?_;exact Z.1):X:=h ⟨k⟩
def JK(h:A Y X:=by intro Z;refine JD ?_;refine J3 ?_;exact Z.1):X:=h ⟨k⟩
def iE(h:A Y X:=by intro Z;refine HE ?_;refine J6 ?_;refine JL Oa ?_;refine J1 ?_;refine mE rfl (Ub ks hk first _) ?_;refine IN ?_;exact Z.1):X:=h ⟨k⟩
def L8(h:A Y X:=by intro Z;refine JL lA ?_;refine J1 ?_;exact Z.1):X:=h ⟨k⟩
def Lq(h:A Y X:=by intro Z;refine JL IG ?_;refine J2 ?_;exact Z.1):X:=h ⟨k⟩
def Td(h:A Y X:=by intro Z;refine JL XZ ?_;refine J1 ?_;refine JL vQ ?_;refine JL SW ?_;exact Z.1):X:=h ⟨k⟩
def ZX(h:A Y X:=by intro Z;refine mE rfl (nZ cb m k _ (Aj.M8 hi)) ?_;refine JR ?_;refine B1 ?_;refine JL Xp ?_;refine J2 ?_;exact Z.1):X:=h ⟨k⟩
def P3(h:A Y X:=by intro Z;refine Jf 9 ?_;refine Dx 10 Cb rfl FL ?_;exact Z.1):X:=h ⟨k⟩
def Kf(h:A Y X:=by intro Z;refine Dh ?_;refine J2 ?_;exact Z.1):X:=h ⟨k⟩
def Kg(h:A Y X:=by intro Z;refine J1 ?_;refine HQ ?_;exact Z.1):X:=h ⟨k⟩
def Ka(h:A Y X:=by intro Z;refine J2 ?_;refine K9 ?_;exact Z.1):X:=h ⟨k⟩
def dM(h:A Y X:=by intro Z;refine J7 ?_;refine JL cZ ?_;refine J1 ?_;refine mE rfl (aA hks p b o c _ hs inferInstance hx hop) ?_;exact Z.1):X:=h ⟨k⟩
def OS(h:A Y X:=by intro Z;refine J2 ?_;refine Am Y? rfl ?_;exact Z.1):X:=h ⟨k⟩
def aU(h:A Y X:=by intro Z;refine JG F2 ?_;refine J1 ?_;refine JG F2 ?_;exact Z.1):X:=h ⟨k⟩
def K0(h:A Y X:=by intro Z;refine Ir ?_;refine Jm 4 ?_;exact Z.1):X:=h ⟨k⟩
def Wv(h:A Y X:=by intro Z;refine JY 16 rfl T2 CT ?_;refine JY 17 rfl T2 BW ?_;refine JY 18 rfl T2 Bg ?_;refine JY 19 rfl T2 Bd ?_;exact Z.1):X:=h ⟨k⟩
def XJ(h:A Y X:=by intro Z;refine JY 5 rfl hg1 Bd ?_;refine JY 6 rfl hg1 CT ?_;refine JY 7 rfl hg1 BW ?_;refine JY 8 rfl hg1 Bg ?_;exact Z.1):X:=h ⟨k⟩
def fK(h:A Y X:=by intro Z;refine J4 ?_;refine JL aN ?_;refine Hc ?_;refine JL (TS (j:=128) rfl rfl ⟨Ca,Ca⟩) ?_;refine ZE ?_;exact Z.1):X:=h ⟨k⟩
def YD(h:A Y X:=by intro Z;refine J6 ?_;refine mH ?_;refine Jn 15 ?_;refine Jf 16 ?_;refine Jd 17 ?_;refine Av 1 Cb rfl rfl Ig ?_;exact Z.1):X:=h ⟨k⟩
def YL(h:A Y X:=by intro Z;refine J2 ?_;refine M? ?_;refine Jn 16 ?_;refine Jf 17 ?_;refine Jd 18 ?_;refine Av 2 Cb rfl rfl Ig ?_;exact Z.1):X:=h ⟨k⟩
def TK(h:A Y X:=by intro Z;refine Jn 10 ?_;refine Jf 11 ?_;refine Sv ?_;refine Dh ?_;exact Z.1):X:=h ⟨k⟩
def Yu(h:A Y X:=by intro Z;refine J1 ?_;refine mA 11 12 ?_;refine KY ?_;refine JT 5 rfl lP ?_;refine Jf 6 ?_;refine JT 7 rfl sP ?_;exact Z.1):X:=h ⟨k⟩
def QO(h:A Y X:=by intro Z;refine K7 ?_;refine Jm 4 ?_;refine Jn 5 ?_;exact Z.1):X:=h ⟨k⟩
def Rs(h:A Y X:=by intro Z;refine JB ?_;refine Jm 6 ?_;refine Jn 7 ?_;exact Z.1):X:=h ⟨k⟩
def eS(h:A Y X:=by intro Z;refine JB ?_;refine Jn 6 ?_;refine Av 5 Cb rfl rfl (BS rfl (Oc _ 32 Cc _)) ?_;refine Fm ?_;exact Z.1):X:=h ⟨k⟩
def Pb(h:A Y X:=by intro Z;refine DV ?_;refine JL Rm ?_;refine J2 ?_;exact Z.1):X:=h ⟨k⟩
def RP(h:A Y X:=by intro Z;refine JL T6 ?_;refine I4 ?_;refine J5 ?_;exact Z.1):X:=h ⟨k⟩
def Qi(h:A Y X:=by intro Z;refine JL wR ?_;refine J2 ?_;refine ax ?_;exact Z.1):X:=h ⟨k⟩
def Kc(h:A Y X:=by intro Z;refine JR ?_;refine J5 ?_;exact Z.1):X:=h ⟨k⟩
def jE(h:A Y X:=by intro Z;refine Gc ?_;refine J5 ?_;refine JL y7 ?_;refine J7 ?_;refine JL G! ?_;refine JL ZW ?_;refine J1 ?_;exact Z.1):X:=h ⟨k⟩
def PM(h:A Y X:=by intro Z;refine J7 ?_;refine JL Np ?_;refine J2 ?_;exact Z.1):X:=h ⟨k⟩
def Ph(h:A Y X:=by intro Z;refine O7 ?_;refine J1 ?_;refine JG F1 ?_;exact Z.1):X:=h ⟨k⟩
def iR(h:A Y X:=by intro Z;refine J6 ?_;refine JL (Hf rfl rfl hs45 Ca rfl) ?_;refine JL ao ?_;refine Am S0 rfl ?_;exact Z.1):X:=h ⟨k⟩
def Yz(h:A Y X:=by intro Z;refine Jm 3 ?_;refine Al 4 rfl Cb rfl rfl rfl rfl BW ?_;refine Al 5 rfl Cb rfl rfl rfl rfl Bg ?_;exact Z.1):X:=h ⟨k⟩
def SN(h:A Y X:=by intro Z;refine J4 ?_;refine JL ey ?_;refine J2 ?_;exact Z.1):X:=h ⟨k⟩
def Tq(h:A Y X:=by intro Z;refine J1 ?_;refine JL GI ?_;refine Gc ?_;refine J9 ?_;exact Z.1):X:=h ⟨k⟩
def Qw(h:A Y X:=by intro Z;refine IL ?_;refine Ks ?_;refine Gw ?_;exact Z.1):X:=h ⟨k⟩
def jK(h:A Y X:=by intro Z;refine Jm 10 ?_;refine Ek 11 rfl Cb rfl rfl rfl rfl ?_;refine Ek 12 rfl Cb rfl rfl rfl rfl ?_;exact Z.1):X:=h ⟨k⟩
def Lx(h:A Y X:=by intro Z;refine J2 ?_;refine cj ?_;exact Z.1):X:=h ⟨k⟩
def XN(h:A Y X:=by intro Z;refine Gc ?_;refine J3 ?_;refine bz ?_;refine GZ ?_;refine PF ?_;refine JB ?_;refine vV ?_;exact Z.1):X:=h ⟨k⟩
def Kw(h:A Y X:=by intro Z;refine D9 ?_;refine J1 ?_;exact Z.1):X:=h ⟨k⟩
def Xb(h:A Y X:=by intro Z;refine Ml ?_;refine V? ?_;refine IA ?_;refine rR ?_;refine JR ?_;refine Ml ?_;refine La ?_;exact Z.1):X:=h ⟨k⟩
def Zu(h:A Y X:=by intro Z;refine mA 16 16 ?_;refine Ir ?_;refine Lw ?_;refine JT 8 rfl Ft ?_;refine JT 9 rfl Fy ?_;exact Z.1):X:=h ⟨k⟩
def gQ(h:A Y X:=by intro Z;refine JN 11 rfl T1 ?_;refine JN 12 rfl T1 ?_;refine JN 13 rfl T1 ?_;refine JN 14 rfl T1 ?_;exact Z.1):X:=h ⟨k⟩
def eA(h:A Y X:=by intro Z;refine HE ?_;refine J1 ?_;refine FT ?_;refine J5 ?_;refine yO ?_;refine Am m8 rfl ?_;exact Z.1):X:=h ⟨k⟩
def K8(h:A Y X:=by intro Z;refine JD ?_;refine J4 ?_;exact Z.1):X:=h ⟨k⟩
def Un(h:A Y X:=by intro Z;refine mI Tryz.func79 ?_;refine J9 ?_;refine Km ?_;exact Z.1):X:=h ⟨k⟩
def VM(h:A Y X:=by intro Z;refine mI Tryz.func40 ?_;refine Hb ?_;refine J5 ?_;exact Z.1):X:=h ⟨k⟩
def W8(h:A Y X:=by intro Z;refine mI Tryz.func194 ?_;refine CL ?_;refine JL (ES (j:=64) rfl rfl) ?_;refine J3 ?_;exact Z.1):X:=h ⟨k⟩
def Yh(h:A Y X:=by intro Z;refine Al 17 rfl Cb rfl rfl rfl rfl BW ?_;refine Al 18 rfl Cb rfl rfl rfl rfl Bg ?_;exact Z.1):X:=h ⟨k⟩
def Z5(h:A Y X:=by intro Z;refine Al 37 rfl Cb rfl rfl rfl rfl BW ?_;refine Al 38 rfl Cb rfl rfl rfl rfl Bg ?_;exact Z.1):X:=h ⟨k⟩
def Pk(h:A Y X:=by intro Z;refine Fm ?_;refine JT 10 rfl NE ?_;exact Z.1):X:=h ⟨k⟩
def MQ(h:A Y X:=by intro Z;refine Ml ?_;refine IA ?_;exact Z.1):X:=h ⟨k⟩
def Me(h:A Y X:=by intro Z;refine El ?_;refine Pf ?_;exact Z.1):X:=h ⟨k⟩
def aO(h:A Y X:=by intro Z;refine Al 8 rfl Cb rfl rfl rfl rfl BW ?_;refine Al 9 rfl Cb rfl rfl rfl rfl Bg ?_;exact Z.1):X:=h ⟨k⟩
def Ye(h:A Y X:=by intro Z;refine J4 ?_;refine JL uK ?_;refine Lf ?_;refine JL tB ?_;refine G8 ?_;refine J7 ?_;exact Z.1):X:=h ⟨k⟩
def Zi(h:A Y X:=by intro Z;refine J6 ?_;refine mE rfl (fp q28 b28 o28 c28 ys _ hq28 inferInstance Ca) ?_;exact Z.1):X:=h ⟨k⟩
end
end Go.Proofs.YtgfdlpcdjklcoaaGreatDoor
