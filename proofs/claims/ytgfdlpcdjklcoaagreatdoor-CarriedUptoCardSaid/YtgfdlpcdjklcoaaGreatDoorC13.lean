/- A part of this proof: steps of the program, plain facts; no condition. -/
import Derived.Test.YtgfdlpcdjklcoaaGreatDoorC12
import Derived.JoinedCond
import Derived.Leaving
namespace Go.Proofs.YtgfdlpcdjklcoaaGreatDoor
open Go Go.RowKit
open _root_.List renaming length_append→A_,map_append→A!,replicate→A?,range→B_,length_singleton→B!,mem_singleton→B?,length_range→C_,mem_append→C!,length_map→C?,mem_range→D_,mem_map→D!
set_option linter.unusedVariables false
set_option linter.unusedSimpArgs false
set_option maxRecDepth 20000
section
section
variable{P:Program}{B:World}{n:Nat}{E:Ay}{D:Br}{H:HP}{d:Option Tmp}{T T' ty:TypeId}{pos:String}{af:Array Edge}{g:Option (Nat×Bool)}{x y z u:Operand}
theorem eI(m:Nat){T e:TypeId}(p:Option Addr)(w:World)(hT:P.underlying T=some (.pointer e)):(Op.equalIn (m+1) T (.pointer p) (.pointer none)).run P w=.ok (decide (p=none)) w:=by
 simp only [Op.equalIn,Sem.run_bind,Bh hT,Result.andThen_ok];cases p<;>rfl
theorem ZJ(e:TypeId){p:Option Addr}[hT:Ar P T (.pointer e)](hx:ev E x=some (.pointer p))(hy:ev E y=some (.pointer none)):
  Aa P B n ⟨d,.binOp .eql T x y T',ty,pos,af,g⟩ E H (.bool (decide (p=none))):=by
 intro a w he _;have h1:=fun w=>eI (P:=P) 9999 p w hT.get;have h2:(eqGuard .eql T x y (.pointer p) (.pointer none)).run P w=.ok () w:=rfl;simp only [execOp,he.ev hx,he.ev hy,Sem.run_bind,h2,Result.andThen_ok,binOp,Op.equal,show Op.maxDepth=9999+1 from rfl,h1,Sem.run_pure]
end
variable{B:World}
def NM.Kk(w:NM)(C:CM)(a:Az):NM:={w with x:={w.x with xv:=a.v (w.cs++[C]).length},cs:=w.cs++[C],xa:=a}
def NM.Kt(w:NM)(r:DS)(a:Az):NM:={w with x:={w.x with ev:=a.v (w.rows++[r]).length},rows:=w.rows++[r],ea:=a}
def NM.JP(w:NM)(c:ED)(a:Az):NM:={w with x:={w.x with cv:=a.v (w.cnt++[c]).length},cnt:=w.cnt++[c],ca:=a}
theorem nE(nb:Nat)(w:NM)(C:CM)(a:Az)(R:HP):Aw nb (w.Kk C a)*R=A0 nb {w.x with xv:=a.v (w.cs++[C]).length}*(AB a.b a.o (w.cs++[C]) a.s*(AB w.ea.b w.ea.o w.rows w.ea.s*(AB w.ba.b w.ba.o w.AN w.ba.s*(AB w.ca.b w.ca.o w.cnt w.ca.s*(AO CL w.cs*(AO CN w.rows*(AY C.cb C.c*R))))))):=by
 rw [FW];show _*(_*(_*(_*(_*(AO CL (w.cs++[C])*_)))))=_;rw [JE,FM,En,HP.Fz];unfold CL;show A0 nb {w.x with xv:=a.v (w.cs++[C]).length}*(AB a.b a.o (w.cs++[C]) a.s*(AB w.ea.b w.ea.o w.rows w.ea.s*(AB w.ba.b w.ba.o w.AN w.ba.s*(AB w.ca.b w.ca.o w.cnt w.ca.s*(_*_*(AO CN w.rows*R))))))=_;ac_rfl
theorem fB(nb:Nat)(w:NM)(r:DS)(a:Az)(R:HP):Aw nb (w.Kt r a)*R=A0 nb {w.x with ev:=a.v (w.rows++[r]).length}*(AB w.xa.b w.xa.o w.cs w.xa.s*(AB a.b a.o (w.rows++[r]) a.s*(AB w.ba.b w.ba.o w.AN w.ba.s*(AB w.ca.b w.ca.o w.cnt w.ca.s*(AO CL w.cs*(AO CN w.rows*(AB r.a.b r.a.o r.es r.a.s*(AO Fo r.es*R)))))))):=by
 rw [FW];show _*(_*(_*(_*(_*(_*(AO CN (w.rows++[r])*R))))))=_;rw [JE,FM,En,HP.Fz];show A0 nb {w.x with ev:=a.v (w.rows++[r]).length}*(AB w.xa.b w.xa.o w.cs w.xa.s*(AB a.b a.o (w.rows++[r]) a.s*(AB w.ba.b w.ba.o w.AN w.ba.s*(AB w.ca.b w.ca.o w.cnt w.ca.s*(AO CL w.cs*(AO CN w.rows*(AB r.a.b r.a.o r.es r.a.s*AO Fo r.es)*R))))))=_;ac_rfl
theorem lZ(nb:Nat)(w:NM)(c:ED)(a:Az)(R:HP):Aw nb (w.JP c a)*R=A0 nb {w.x with cv:=a.v (w.cnt++[c]).length}*(AB w.xa.b w.xa.o w.cs w.xa.s*(AB w.ea.b w.ea.o w.rows w.ea.s*(AB w.ba.b w.ba.o w.AN w.ba.s*(AB a.b a.o (w.cnt++[c]) a.s*(AO CL w.cs*(AO CN w.rows*R)))))):=FW nb (w.JP c a) R
theorem NM.ok.Kk{w:NM}(hw:w.ok){C:CM}{a:Az}(ha:a.ok (w.cs++[C]))(hC:C.c.ok):(w.Kk C a).ok:=
 ⟨ha,hw.ea,hw.ra,hw.ba,hw.ca,rfl,hw.ev,hw.bv,hw.cv,fun c hc=>(C!.1 hc).elim (hw.FP c) (fun h=>by rw [B?.1 h];exact hC),hw.ks⟩
theorem NM.ok.Kt{w:NM}(hw:w.ok){r:DS}{a:Az}(ha:a.ok (w.rows++[r]))(hr:r.a.ok r.es):(w.Kt r a).ok:=
 ⟨hw.xa,ha,fun c hc=>(C!.1 hc).elim (hw.ra c) (fun h=>by rw [B?.1 h];exact hr),hw.ba,hw.ca,hw.xv,rfl,hw.bv,hw.cv,hw.FP,hw.ks⟩
theorem NM.ok.JP{w:NM}(hw:w.ok){c:ED}{a:Az}(ha:a.ok (w.cnt++[c])):(w.JP c a).ok:=
 ⟨hw.xa,hw.ea,hw.ra,hw.ba,ha,hw.xv,hw.ev,hw.bv,rfl,hw.FP,hw.ks⟩
theorem NM.jN(w:NM)(C:CM)(a:Az):(w.Kk C a).n={w.n with xs:=w.n.xs++[C.c.s]}:=by
 unfold NM.Kk NM.n;dsimp only;rw [A!];rfl
theorem NM.xB(w:NM)(r:DS)(a:Az):(w.Kt r a).n={w.n with ends:=w.n.ends++[r.es.map (·.o)]}:=by
 unfold NM.Kt NM.n;dsimp only;rw [A!];rfl
theorem NM.tX(w:NM)(c:ED)(a:Az):(w.JP c a).n={w.n with count:=w.n.count++[c.n]}:=by
 unfold NM.JP NM.n;dsimp only;rw [A!];rfl
def Ej(mt wi:Nat):Nat→AM
 |0=>⟨[],[],mt,wi,Dj,[],[]⟩
 |i+1=>⟨(Ej mt wi i).xs++[.new mt wi Dj (decide (i=0))],(Ej mt wi i).ends++[A? 4 Df],mt,wi,Dj,[],(Ej mt wi i).count++[0]⟩
theorem gO(AI AF:Int):Ej (64+AK AI 237) (16+AK AF 300) 2=JM AI AF:=rfl
theorem kA(mt wi i:Nat):(Ej mt wi i).AI=mt∧(Ej mt wi i).AF=wi∧(Ej mt wi i).ks=Dj∧(Ej mt wi i).AN=[]∧(Ej mt wi i).xs.length=i∧(Ej mt wi i).ends.length=i∧(Ej mt wi i).count.length=i:=by
 induction i with
 |zero=>exact⟨rfl,rfl,rfl,rfl,rfl,rfl,rfl⟩
 |succ i ih=>refine⟨rfl,rfl,rfl,rfl,?_,?_,?_⟩<;>(show(_++[_]).length=_;rw [A_];simp [ih])
def MH(mt wi:Nat):List Value:=[.slice none 0 0]++([.slice none 0 0]++([iN mt,iN wi]++(AD Dj++([.slice none 0 0]++[.slice none 0 0]))))
def SB(mt wi:Nat):NC:=⟨.slice none 0 0,.slice none 0 0,mt,wi,Dj,.slice none 0 0,.slice none 0 0⟩
def Ti(mt wi:Nat):NM:=⟨SB mt wi,[],[],[],[],BP,BP,BP,BP⟩
theorem No{b o o':Nat}(l m:List Value)(h:o+l.length=o'):HP.AA b o (l++m)=HP.AA b o l*HP.AA b o' m:=by
 rw [HP.E3,h]
theorem dC(b mt wi:Nat)(R:HP):HP.AA b 0 (MH mt wi)*R=Aw b (Ti mt wi)*R:=by
 have e:Aw b (Ti mt wi)=A0 b (SB mt wi)*(BP.h ([]:List CM)*(BP.h ([]:List DS)*(BP.h ([]:List EG)*(BP.h ([]:List ED)*(AO CL []*AO CN []))))):=rfl;rw [e,GX,GX,GX,GX,En,En,HP.BH,HP.BH,HP.BH,HP.BH,HP.BH,HP.Fz];unfold MH A0 SB;rw [No _ _ (rfl:0+1=0+1),No (o:=0+1) (o':=0+2) _ _ rfl,No (o:=0+2) (o':=0+4) _ _ rfl,No (o:=0+4) (o':=0+20) _ _ rfl,No (o:=0+20) (o':=0+21) _ _ rfl]
def TW:List Value:=[.slice none 0 0]++([.slice none 0 0]++([.int .i64 0,.int .i64 0]++([.int .u8 0,.int .u8 0,.int .u8 0,.int .u8 0,.int .u8 0,.int .u8 0,.int .u8 0,.int .u8 0,.int .u8 0,.int .u8 0,.int .u8 0,.int .u8 0,.int .u8 0,.int .u8 0,.int .u8 0,.int .u8 0]++([.slice none 0 0]++[.slice none 0 0]))))
theorem qP:BO Tryz.prog 64 (.agg TW.toArray):=by
 have h:BO Tryz.prog 64 _:=inferInstance;refine Eq.mp (congrArg (BO Tryz.prog 64) ?_) h;kernel_rfl
theorem pT(mt wi:Nat):H3 #[(0,1),(1,1),(2,2),(4,16),(20,1),(21,1)] TW [(2,.agg [iN mt,iN wi].toArray),(3,.agg (AD Dj).toArray)] (MH mt wi):=by
 unfold TW
 exact(Ie [.slice none 0 0,.slice none 0 0] [.int .i64 0,.int .i64 0] ([.int .u8 0,.int .u8 0,.int .u8 0,.int .u8 0,.int .u8 0,.int .u8 0,.int .u8 0,.int .u8 0,.int .u8 0,.int .u8 0,.int .u8 0,.int .u8 0,.int .u8 0,.int .u8 0,.int .u8 0,.int .u8 0]++[.slice none 0 0,.slice none 0 0]) [iN mt,iN wi] rfl rfl rfl rfl
  (Ie [.slice none 0 0,.slice none 0 0,iN mt,iN wi] [.int .u8 0,.int .u8 0,.int .u8 0,.int .u8 0,.int .u8 0,.int .u8 0,.int .u8 0,.int .u8 0,.int .u8 0,.int .u8 0,.int .u8 0,.int .u8 0,.int .u8 0,.int .u8 0,.int .u8 0,.int .u8 0] [.slice none 0 0,.slice none 0 0] (AD Dj) rfl rfl rfl rfl
  (by unfold MH;exact PU)))
set_option maxHeartbeats 16000000 in
theorem Zn(hG:B.cell? ⟨0,0,none⟩=some (C3 106))(AI AF:Int)(hmtu:Hj AI)(hwin:Hj AF)(H:HP):
  Fn Tryz.prog B 34 [.int .i64 AI,.int .i64 AF] H (fun v H'=>∃(nb:Nat) (w:NM),v=ptr nb 0∧w.ok∧w.n=JM AI AF∧H'=Aw nb w*H):=by
 refine mI Tryz.func34 ?_;have hm1:=E7 AI (show 0<237 by omega);have hw1:=E7 AF (show 0<300 by omega)
 have hcfg:IH ((64+AK AI 237):Nat) ((16+AK AF 300):Nat):=⟨Ca,Ca,Ca,Ca⟩
 refine J8 ?_;refine mE rfl (If AI hmtu 237 Ca _) ?_;rintro _ H13 ⟨rfl,h13⟩;rw [h13];refine JL (G7 (i:=64) (j:=AK AI 237) rfl rfl Ca) ?_;refine J1 ?_;refine mE rfl (If AF hwin 300 Ca _) ?_;rintro _ H16 ⟨rfl,h16⟩;rw [h16];refine JL (G7 (i:=16) (j:=AK AF 300) rfl rfl Ca) ?_;refine JL (A2 (v':=.agg [iN (64+AK AI 237),iN (16+AK AF 300)].toArray) FV rfl) ?_;refine Af (FD (l:=[.int .i64 0,.int .i64 0]) rfl) rfl ?_;rintro _ _ ⟨b5,rfl,rfl⟩;refine Bj (Dz (cs:=[iN (64+AK AI 237),iN (16+AK AF 300)]) rfl rfl Ch Ce) ?_;refine E9 ?_;refine JL Wc ?_;refine JL (A2 (v':=.agg (AD Dj).toArray) (Vc (zs:=[.int .u8 0,.int .u8 0,.int .u8 0,.int .u8 0,.int .u8 0,.int .u8 0,.int .u8 0,.int .u8 0,.int .u8 0,.int .u8 0,.int .u8 0,.int .u8 0,.int .u8 0,.int .u8 0,.int .u8 0,.int .u8 0]) rfl rfl Ce) rfl) ?_;refine JL (PO (hz:=qP) (cs:=MH (64+AK AI 237) (16+AK AF 300)) rfl (pT (64+AK AI 237) (16+AK AF 300))) ?_;refine Af (DP (l:=MH (64+AK AI 237) (16+AK AF 300)) rfl rfl) rfl ?_;rintro _ _ ⟨nb,rfl,rfl⟩;refine J6 ?_;refine Fq ?_
 refine Bk (α:=NM×Nat) (fun z=>[(7,iN z.2),(6,ptr nb 0),(5,ptr b5 0)]) (fun z=>Aw nb z.1*(HP.AA b5 0 [iN (64+AK AI 237),iN (16+AK AF 300)]*H)) (fun z=>z.1.ok∧z.2≤2∧z.1.n=Ej (64+AK AI 237) (16+AK AF 300) z.2) (fun z=>2-z.2) (Ti (64+AK AI 237) (16+AK AF 300),0) ⟨⟨Dn,Dn,(fun _ h=>nomatch h),Dn,Dn,rfl,rfl,rfl,rfl,(fun _ h=>nomatch h),rfl⟩,Nat.zero_le _,rfl⟩ Du (dC nb _ _ _) ?_;rintro⟨w1,i⟩ ⟨q1,q2,q3⟩;dsimp only at q1 q2 q3⊢;obtain⟨n1,n2,n3,n4,n5,n6,n7⟩:=kA (64+AK AI 237) (16+AK AF 300) i
 have hcl:w1.cs.length=i:=by rw [←n5,←q3];exact Qe
 have hrl:w1.rows.length=i:=by rw [←n6,←q3];exact Qe
 have hnl:w1.cnt.length=i:=by rw [←n7,←q3];exact Qe
 have hkk :w1.x.ks =Dj :=show w1.n.ks =Dj by rw [q3];exact n3
 refine J4 ?_;refine JL (Dr (i:=i) (j:=2) rfl rfl) ?_;refine J2 ?_;refine mC (fun hi=>?_) (fun hi=>?_)
 ·refine J5 ?_;refine Ao (H':=A0 nb w1.x*(AB w1.xa.b w1.xa.o w1.cs w1.xa.s*(AB w1.ea.b w1.ea.o w1.rows w1.ea.s*(AB w1.ba.b w1.ba.o w1.AN w1.ba.s*(AB w1.ca.b w1.ca.o w1.cnt w1.ca.s*(AO CL w1.cs*(AO CN w1.rows*(HP.AA b5 0 [iN (64+AK AI 237),iN (16+AK AF 300)]*H)))))))) (FW nb w1 _) ?_;refine mA 13 13 ?_;refine JT 0 rfl Wc ?_;refine aI ?_;refine IZ ?_;refine JT 4 rfl (A2 (v':=.agg (AD Dj).toArray) YM (by rw [hkk])) ?_;refine Jm 5 ?_;refine JT 6 rfl (CD (i:=i) (j:=0) rfl rfl) ?_;refine An 7 Cb rfl rfl (BJ rfl (hM hG ((64+AK AI 237):Nat) ((16+AK AF 300):Nat) Dj rfl (decide (i=0)) _)) ?_;rintro v35 H35 h35;rcases h35 with⟨hx,_,_⟩|⟨_,cb,m,hmok,hms,rfl,rfl⟩
  ·exact absurd hcfg hx
  refine BA ?_;refine Jm 8 ?_;refine JT 9 rfl MP ?_;refine JT 10 rfl MP ?_;refine Ja 11 ?_;refine Ja 12 ?_;refine JD ?_;refine J5 ?_;refine JL (A2 (v':=.bool false) (ZJ 184 rfl rfl) rfl) ?_;refine KV ?_;refine JL TQ ?_;refine JL EP ?_;refine JK ?_;refine J3 ?_;refine Ao (H':=AB w1.xa.b w1.xa.o w1.cs w1.xa.s*(A0 nb w1.x*(AB w1.ea.b w1.ea.o w1.rows w1.ea.s*(AB w1.ba.b w1.ba.o w1.AN w1.ba.s*(AB w1.ca.b w1.ca.o w1.cnt w1.ca.s*(AO CL w1.cs*(AO CN w1.rows*(AY cb m*(HP.AA b5 0 [iN (64+AK AI 237),iN (16+AK AF 300)]*H))))))))) Cf ?_;refine J5 ?_;refine JL (A2 ES q1.xv) ?_;refine J1 ?_;refine Af (GZ (cs:=[ptr cb 0]) rfl Cp rfl rfl) rfl ?_;rintro _ _ ⟨b50,rfl,rfl⟩;refine BF (H':=AB w1.xa.b w1.xa.o w1.cs w1.xa.s*(HP.AA b50 0 (AD [(⟨cb,m⟩:CM)])*(A0 nb w1.x*(AB w1.ea.b w1.ea.o w1.rows w1.ea.s*(AB w1.ba.b w1.ba.o w1.AN w1.ba.s*(AB w1.ca.b w1.ca.o w1.cnt w1.ca.s*(AO CL w1.cs*(AO CN w1.rows*(AY cb m*(HP.AA b5 0 [iN (64+AK AI 237),iN (16+AK AF 300)]*H)))))))))) (by show HP.AA b50 0 _*_=_;rw [show AD [(⟨cb,m⟩:CM)]=[ptr cb 0]from rfl];ac_rfl) ?_
  refine Af (CS (ys:=[(⟨cb,m⟩:CM)]) (bb:=b50) (oo:=0) (cc:=1) rfl q1.xa.1 q1.xa.2 rfl CB inferInstance rfl Cm Ca) rfl ?_;rintro _ _ ⟨p51,b51,o51,c51,s51,rfl,hs51,hc51,rfl⟩;refine J6 ?_
  obtain⟨w2,hw2⟩:∃w2,w2=(w1.Kk ⟨cb,m⟩ ⟨p51,b51,o51,c51,s51⟩):=Be
  have hok2:w2.ok:=by rw [hw2];exact q1.Kk ⟨hs51,hc51⟩ hmok
  have hn2:w2.n={Ej (64+AK AI 237) (16+AK AF 300) i with xs:=(Ej (64+AK AI 237) (16+AK AF 300) i).xs++[.new (64+AK AI 237) (16+AK AF 300) Dj (decide (i=0))]}:=by rw [hw2,NM.jN,q3,hms];rfl
  have hrl2:w2.rows.length=i:=by rw [hw2];exact hrl
  have hnl2:w2.cnt.length=i:=by rw [hw2];exact hnl
  refine HI (Aw nb w2*(HP.AA b5 0 [iN (64+AK AI 237),iN (16+AK AF 300)]*H)) (hE:=⟨fun ww hw=>Sat.right (A:=HP.AA b50 0 (AD [(⟨cb,m⟩:CM)])) (Eq.mp (by
   congr 1
   rw [hw2,nE]
   show _=HP.AA b50 0 (AD [(⟨cb,m⟩:CM)])*(A0 nb {w1.x with xv:=.slice p51 (w1.cs++[(⟨cb,m⟩:CM)]).length c51}*_)
   ac_rfl) hw)⟩) ?_
  refine J7 ?_;refine Fq ?_;refine Bk (α:=List Dp×Az) (fun z=>[(11,iN z.1.length),(10,z.2.v z.1.length),(7,iN i),(6,ptr nb 0),(5,ptr b5 0)]) (fun z=>z.2.h z.1*(AO Fo z.1*(Aw nb w2*(HP.AA b5 0 [iN (64+AK AI 237),iN (16+AK AF 300)]*H)))) (fun z=>z.2.ok z.1∧z.1.length≤4∧z.1.map (·.o)=A? z.1.length Df) (fun z=>4-z.1.length) ([],BP) ⟨Dn,Nat.zero_le _,rfl⟩ Gd (by rw [GX,En,HP.BH,HP.BH]) ?_;rintro⟨es,ea⟩ ⟨x1,x2,x3⟩;dsimp only at x1 x2 x3⊢;refine J4 ?_;refine JL (Dr (i:=es.length) (j:=4) rfl rfl) ?_;refine J2 ?_;refine mC (fun hj=>?_) (fun hj=>?_)
  ·refine J6 ?_;refine JL (A2 (v':=.agg (Mw Df).toArray) FV rfl) ?_;refine Af (DP (l:=Mw Df) rfl rfl) rfl ?_;rintro _ _ ⟨b60,rfl,rfl⟩;refine Af (GZ (cs:=[ptr b60 0]) rfl Cp rfl rfl) rfl ?_;rintro _ _ ⟨b61,rfl,rfl⟩;refine BF (H':=AB ea.b ea.o es ea.s*(HP.AA b61 0 (AD [(⟨b60,Df⟩:Dp)])*(HP.AA b60 0 (Mw Df)*(AO Fo es*(Aw nb w2*(HP.AA b5 0 [iN (64+AK AI 237),iN (16+AK AF 300)]*H)))))) (by show HP.AA b61 0 _*_=_;rw [show AD [(⟨b60,Df⟩:Dp)]=[ptr b60 0]from rfl];ac_rfl) ?_;refine Af (CS (ys:=[(⟨b60,Df⟩:Dp)]) (bb:=b61) (oo:=0) (cc:=1) rfl x1.1 x1.2 rfl CB inferInstance rfl Cm Ca) rfl ?_;rintro _ _ ⟨p62,b62,o62,c62,s62,rfl,hs62,hc62,rfl⟩;refine J6 ?_;refine JL (G7 (i:=es.length) (j:=1) rfl rfl Ca) ?_;refine J2 ?_
   refine Bf ((⟨p62,b62,o62,c62,s62⟩:Az).h (es++[(⟨b60,Df⟩:Dp)])*(AO Fo (es++[(⟨b60,Df⟩:Dp)])*(Aw nb w2*(HP.AA b5 0 [iN (64+AK AI 237),iN (16+AK AF 300)]*H)))) (hE:=⟨fun ww hw=>Sat.right (A:=HP.AA b61 0 (AD [(⟨b60,Df⟩:Dp)])) (Eq.mp (by
    congr 1
    rw [JE,FM,En,HP.Fz]
    show _=HP.AA b61 0 (AD [(⟨b60,Df⟩:Dp)])*(AB b62 o62 (es++[(⟨b60,Df⟩:Dp)]) s62*(AO Fo es*HP.AA b60 0 (Mw Df)*_))
    ac_rfl) hw)⟩) ?_
   exact BW (es++[(⟨b60,Df⟩:Dp)],⟨p62,b62,o62,c62,s62⟩) ⟨⟨hs62,hc62⟩,by rw [A_];simp only [B!];omega,by rw [A!,x3,A_];exact List.replicate_succ'.symm⟩ (by rw [A_];simp only [B!];show 4-(es.length+1)<4-es.length;omega) (.cons Pg IK) rfl
  have he4:es.length=4:=by omega
  have hrl3:ea.ok es:=x1;refine J6 ?_;refine Ao (H':=AB w2.ea.b w2.ea.o w2.rows w2.ea.s*(A0 nb w2.x*(AB w2.xa.b w2.xa.o w2.cs w2.xa.s*(AB w2.ba.b w2.ba.o w2.AN w2.ba.s*(AB w2.ca.b w2.ca.o w2.cnt w2.ca.s*(AO CL w2.cs*(AO CN w2.rows*(AB ea.b ea.o es ea.s*(AO Fo es*(HP.AA b5 0 [iN (64+AK AI 237),iN (16+AK AF 300)]*H)))))))))) (by rw [FW];show AB ea.b ea.o es ea.s*_=_;ac_rfl) ?_;refine J5 ?_;refine JL (A2 ES hok2.ev) ?_;refine J1 ?_;refine Af (GZ (cs:=[.slice ea.p es.length ea.c]) rfl Cp rfl rfl) rfl ?_;rintro _ _ ⟨b69,rfl,rfl⟩;refine BF (H':=AB w2.ea.b w2.ea.o w2.rows w2.ea.s*(HP.AA b69 0 (AD [(⟨ea,es⟩:DS)])*(A0 nb w2.x*(AB w2.xa.b w2.xa.o w2.cs w2.xa.s*(AB w2.ba.b w2.ba.o w2.AN w2.ba.s*(AB w2.ca.b w2.ca.o w2.cnt w2.ca.s*(AO CL w2.cs*(AO CN w2.rows*(AB ea.b ea.o es ea.s*(AO Fo es*(HP.AA b5 0 [iN (64+AK AI 237),iN (16+AK AF 300)]*H))))))))))) (by show HP.AA b69 0 _*_=_;rw [show AD [(⟨ea,es⟩:DS)]=[.slice ea.p es.length ea.c]from rfl];ac_rfl) ?_;refine Af (CS (ys:=[(⟨ea,es⟩:DS)]) (bb:=b69) (oo:=0) (cc:=1) rfl hok2.ea.1 hok2.ea.2 rfl CB inferInstance rfl Cm Ca) rfl ?_;rintro _ _ ⟨p70,b70,o70,c70,s70,rfl,hs70,hc70,rfl⟩;refine J5 ?_
  obtain⟨w3,hw3⟩:∃w3,w3=w2.Kt (⟨ea,es⟩:DS) ⟨p70,b70,o70,c70,s70⟩:=Be
  have hok3:w3.ok:=by rw [hw3];exact hok2.Kt ⟨hs70,hc70⟩ hrl3
  have hn3:w3.n={w2.n with ends:=w2.n.ends++[A? 4 Df]}:=by rw [hw3,NM.xB];show _=_;rw [show((⟨ea,es⟩:DS)).es.map (·.o)=A? 4 Df by show es.map (·.o)=_;rw [x3,he4]]
  have hnl3:w3.cnt.length=i:=by rw [hw3];exact hnl2
  refine HI (AB w3.ca.b w3.ca.o w3.cnt w3.ca.s*(A0 nb w3.x*(AB w3.xa.b w3.xa.o w3.cs w3.xa.s*(AB w3.ea.b w3.ea.o w3.rows w3.ea.s*(AB w3.ba.b w3.ba.o w3.AN w3.ba.s*(AO CL w3.cs*(AO CN w3.rows*(HP.AA b5 0 [iN (64+AK AI 237),iN (16+AK AF 300)]*H)))))))) (hE:=⟨fun ww hw=>Sat.right (A:=HP.AA b69 0 (AD [(⟨ea,es⟩:DS)])) (Eq.mp (by
   congr 1
   rw [show AB w3.ca.b w3.ca.o w3.cnt w3.ca.s*(A0 nb w3.x*(AB w3.xa.b w3.xa.o w3.cs w3.xa.s*(AB w3.ea.b w3.ea.o w3.rows w3.ea.s*(AB w3.ba.b w3.ba.o w3.AN w3.ba.s*(AO CL w3.cs*(AO CN w3.rows*(HP.AA b5 0 [iN (64+AK AI 237),iN (16+AK AF 300)]*H)))))))=Aw nb w3*(HP.AA b5 0 [iN (64+AK AI 237),iN (16+AK AF 300)]*H) by rw [FW];ac_rfl]
   rw [hw3,fB]
   show _=HP.AA b69 0 (AD [(⟨ea,es⟩:DS)])*(A0 nb {w2.x with ev:=.slice p70 (w2.rows++[(⟨ea,es⟩:DS)]).length c70}*_)
   dsimp only
   ac_rfl) hw)⟩) ?_
  refine J5 ?_;refine JL (A2 ES hok3.cv) ?_;refine Af (GZ (cs:=[uN 0]) rfl Cp rfl rfl) rfl ?_;rintro _ _ ⟨b78,rfl,rfl⟩;refine BF (H':=AB w3.ca.b w3.ca.o w3.cnt w3.ca.s*(HP.AA b78 0 (AD [(⟨0⟩:ED)])*(A0 nb w3.x*(AB w3.xa.b w3.xa.o w3.cs w3.xa.s*(AB w3.ea.b w3.ea.o w3.rows w3.ea.s*(AB w3.ba.b w3.ba.o w3.AN w3.ba.s*(AO CL w3.cs*(AO CN w3.rows*(HP.AA b5 0 [iN (64+AK AI 237),iN (16+AK AF 300)]*H))))))))) (by show HP.AA b78 0 _*_=_;rw [show AD [(⟨0⟩:ED)]=[uN 0]from rfl];ac_rfl) ?_;refine Af (CS (ys:=[(⟨0⟩:ED)]) (bb:=b78) (oo:=0) (cc:=1) rfl hok3.ca.1 hok3.ca.2 rfl CB inferInstance rfl Cm Ca) rfl ?_;rintro _ _ ⟨p79,b79,o79,c79,s79,rfl,hs79,hc79,rfl⟩;refine J6 ?_
  obtain⟨w4,hw4⟩:∃w4,w4=w3.JP ⟨0⟩ ⟨p79,b79,o79,c79,s79⟩:=Be
  have hok4:w4.ok:=by rw [hw4];exact hok3.JP ⟨hs79,hc79⟩
  have hn4:w4.n=Ej (64+AK AI 237) (16+AK AF 300) (i+1):=by
   rw [hw4,NM.tX,hn3,hn2];show AM.mk _ _ (Ej (64+AK AI 237) (16+AK AF 300) i).AI (Ej (64+AK AI 237) (16+AK AF 300) i).AF (Ej (64+AK AI 237) (16+AK AF 300) i).ks (Ej (64+AK AI 237) (16+AK AF 300) i).AN _=_;rw [n1,n2,n3,n4];rfl
  refine J2 ?_;refine Es ?_
  refine Bf (Aw nb w4*(HP.AA b5 0 [iN (64+AK AI 237),iN (16+AK AF 300)]*H)) (hE:=⟨fun ww hw=>Sat.right (A:=HP.AA b78 0 (AD [(⟨0⟩:ED)])) (Eq.mp (by
   congr 1
   rw [hw4,lZ]
   show _=HP.AA b78 0 (AD [(⟨0⟩:ED)])*(A0 nb {w3.x with cv:=.slice p79 (w3.cnt++[(⟨0⟩:ED)]).length c79}*_)
   ac_rfl) hw)⟩) ?_
  exact BW (w4,i+1) ⟨hok4,by show i+1≤2;omega,hn4⟩ X5 Du rfl
 refine DH ?_
 have hi2:i=2:=by omega
 subst hi2;exact mR [4] (Aw nb w1*H) (hE:=⟨fun ww hw=>Sat.right (A:=HP.AA b5 0 [iN (64+AK AI 237),iN (16+AK AF 300)]) (Eq.mp Cn hw)⟩) rfl rfl ⟨nb,w1,rfl,q1,by rw [q3];exact gO AI AF,rfl⟩
end
section
variable{B:World}
@[reducible] instance layStp:AC DR:=⟨5,Bs,⟨0,0,0,0,⟨#[]⟩⟩,fun _=>rfl,fun _ v h=>by simp at h;rcases h with rfl|rfl|rfl|rfl|rfl<;>rfl⟩
def P2:DR:=⟨1,0,3,0,⟨#[115,111,109,101,32,98,121,116,101,115,32,111,102,32,97,32,115,116,114,101,97,109]⟩⟩
def PY:DR:=⟨2,0,3,0,⟨#[]⟩⟩
def Rx:AM:=(Gq 4 (((JM 0 100).step P2).2.step PY).2).2
theorem cU:(Rx.e 0 3).read=22∧(Rx.e 0 3).state=1:=by decide+kernel
theorem JF{c:Int}(h:0≤c∧c<1000):Hj c:=⟨Ca,Ca⟩
theorem BM.step{t:Nat}{n:AM}(h:BM t n)(ht:t≤1000000000)(s:DR):BM (t+1) (n.step s).2:=by
 obtain⟨L,R,h⟩:=h;obtain⟨_,L',R',b⟩:=h.step ht s;exact⟨L',R',b⟩
theorem Vk(AI AF:Int):BM 0 (JM AI AF):=by
 have h1:=E7 AI (show 0<237 by omega);have h2:=E7 AF (show 0<300 by omega);exact⟨_,_,Ak.new Ca Ca Ca Ca⟩
theorem vL{α:Type}{l:List α}{i:Nat}{d:α}(h:i<l.length):l.getD i d∈l:=by
 rw [List.getD_eq_getElem?_getD,List.getElem?_eq_getElem h,Option.getD_some];exact List.getElem_mem h
set_option maxHeartbeats 4000000 in
theorem jM(l:List DR)(p:Option Addr)(b o c:Nat)(H:HP)(hs:Sl p b o l.length c)(hr:Ab B H b o l)(hl:l.length<2000000)(hsz:∀s∈l,s.s.size<90000000):
  Fn Tryz.prog B 12 [.slice p l.length c] H (fun v H'=>∃bb:Bool,v=.bool bb∧(bb=true→l.length≤8192)∧H'=H):=by
 refine mI Tryz.func12 ?_;refine Oq ?_;refine Fq ?_;refine Bk (α:=Nat×Nat) (fun z=>[(4,iN z.2),(3,iN z.1),(0,.slice p l.length c)]) (fun _=>H) (fun z=>l.length≤z.1∧z.1<100000000) (fun z=>l.length-z.2) (l.length,0) ⟨Nat.le_refl _,Ca⟩ Du rfl ?_;rintro⟨m,i⟩ ⟨q1,q2⟩;dsimp only at q1 q2⊢;refine J6 ?_;refine JL (Dr (i:=i) (j:=l.length) rfl rfl) ?_;refine J1 ?_;refine D8 11 rfl (fun hg1=>?_) (fun hg1=>?_)
 ·refine JG T1 ?_;refine J1 ?_;refine JG T1 ?_;refine JL Tj ?_;refine JL Fd ?_;refine J2 ?_;refine mC (fun h14=>?_) (fun h14=>?_)
  ·have hsi:((l.getD i AC.AH).s).size<90000000:=hsz _ (vL hg1);refine J8 ?_;refine JL (DG (i:=i) rfl rfl hs Ca) ?_;refine J1 ?_;refine JL (Ep (f:=4) (xs:=l) (v:=.string ((l.getD i AC.AH).s)) rfl hr rfl hg1) ?_;refine J1 ?_;refine JL (G7 (i:=m) (j:=((l.getD i AC.AH).s).size) rfl rfl Ca) ?_;refine J6 ?_;refine JL Tw ?_;refine J2 ?_;exact BW (m+((l.getD i AC.AH).s).size,i+1) ⟨by show l.length≤_;omega,by show _<100000000;omega⟩ Yw Du rfl
  refine J8 ?_;refine JL Tj ?_;refine J4 ?_;exact XE
 refine JH F1 ?_;refine JH F1 ?_;refine JL Ec ?_;refine JK ?_;refine J8 ?_;refine JL Tj ?_;refine J4 ?_;exact XE
set_option maxHeartbeats 8000000 in
theorem eY(hG:B.cell? ⟨0,0,none⟩=some (C3 106))(H:HP):
  Fn Tryz.prog B 13 [] H (fun v H'=>v=.bool true∧H'=H):=by
 refine mI Tryz.func13 ?_;refine J7 ?_;refine mE rfl (Zn hG 0 100 (JF Ca) (JF Ca) _) ?_;rintro _ _ ⟨nb,w,rfl,hok,hn,rfl⟩
 have hk0:BM 0 w.n:=by rw [hn];exact Vk 0 100
 have hk1:=hk0.step Ca P2;have hk2:=hk1.step Ca PY;obtain⟨L0,R0,hw0⟩:=hk0;refine J7 ?_;refine JL Uc ?_;refine JK ?_;refine J5 ?_;refine JL (A2 (v':=.agg (Bs P2).toArray) FV rfl) ?_;refine mE rfl (O6 hG nb 0 P2 w L0 R0 _ hok hw0 ⟨JF Cc,JF Cc,JF Cc,Cc⟩ Ca) ?_;rintro _ _ ⟨rfl,w1,hok1,hn1,rfl⟩;rw [←hn1]at hk1 hk2;obtain⟨L1,R1,hw1⟩:=hk1;refine J6 ?_;refine JL (A2 (v':=.agg (Bs PY).toArray) FV rfl) ?_;refine mE rfl (O6 hG nb 1 PY w1 L1 R1 _ hok1 hw1 ⟨JF Cc,JF Cc,JF Cc,Cc⟩ Ca) ?_;rintro _ _ ⟨rfl,w2,hok2,hn2,rfl⟩;rw [←hn2]at hk2;refine J6 ?_;refine mE rfl (mK hG nb 2 4 w2 _ hok2 hk2 Ca) ?_;rintro _ _ ⟨rfl,w3,hok3,hn3,rfl⟩
 have hwn:w3.n=Rx:=by rw [hn3,hn2,hn1,hn];rfl
 obtain⟨_,hk3⟩:=BM.Gq 4 2 w2.n hk2 Ca;rw [←hn3]at hk3;obtain⟨L3,R3,hw3⟩:=hk3;obtain⟨C,r,E,hC,hr,hE,l1,l2,l3⟩:=hw3.mem (i:=0) (j:=0) (k:=3) Ca Ca Ca;obtain⟨e1,e2⟩:=cU;rw [←hwn,NM.Ih hr hE]at e1 e2;refine J4 ?_;refine Ao (H':=A0 nb w3.x*(AB w3.xa.b w3.xa.o w3.cs w3.xa.s*(AB w3.ea.b w3.ea.o w3.rows w3.ea.s*(AB w3.ba.b w3.ba.o w3.AN w3.ba.s*(AB w3.ca.b w3.ca.o w3.cnt w3.ca.s*(AY C.cb C.c*(AB r.a.b r.a.o r.es r.a.s*(BN E.q E.o*(DW w3 0 0 3 r*H))))))))) (GM nb w3 _ hC hr hE) ?_;refine J4 ?_;refine JL (A2 ES hok3.ev) ?_;refine JL (DG (i:=0) rfl rfl hok3.ea.1 Ca) ?_;refine JL (Ep (f:=0) (xs:=w3.rows) (v:=.slice r.a.p r.es.length r.a.c) rfl inferInstance RE Ca) ?_;refine JL (DG (i:=3) rfl rfl (hok3.ra r QD).1 Ca) ?_;refine JL PR ?_;refine J7 ?_;refine Ng ?_;refine J1 ?_;refine Ng ?_;refine MO ?_;refine KV ?_
 refine JL (A2 (v':=.bool true) (CD (i:=E.o.read) (j:=22) rfl rfl) (by rw [e1];rfl)) ?_;refine JL G2 ?_;refine MO ?_;refine KV ?_;refine JL (A2 (v':=.bool true) (CD (i:=E.o.state) (j:=1) rfl rfl) (by rw [e2];rfl)) ?_;refine JL G2 ?_;refine J4 ?_;exact mR [0] H (hE:=⟨fun ww hw=>Sat.right (A:=Aw nb w3) (Eq.mp (by congr 1;rw [GM nb w3 _ hC hr hE]) hw)⟩) rfl rfl Ba
set_option maxHeartbeats 8000000 in
theorem iJ(hG:B.cell? ⟨0,0,none⟩=some (C3 106))(l:List DR)(wo AI AF:Int)(hmtu:Hj AI)(hwin:Hj AF)(p:Option Addr)(b o c:Nat)(H:HP)(hs:Sl p b o l.length c)(hr:Ab B H b o l)(hl:l.length≤8192)(hst:∀s∈l,KH s):
  Fn Tryz.prog B 14 [.slice p l.length c,.int .i64 wo,.int .i64 AI,.int .i64 AF] H (fun v H'=>∃(nb:Nat) (w:NM),v=.tuple #[ptr nb 0,.bool true]∧w.ok∧BM l.length w.n∧AM.run wo l (JM AI AF)=some w.n∧H'=Aw nb w*H):=by
 refine mI Tryz.func14 ?_;refine B8 ?_;refine mE rfl (Zn hG AI AF hmtu hwin _) ?_;rintro _ _ ⟨nb,w,rfl,hok,hn,rfl⟩
 have hk0:BM 0 w.n:=by rw [hn];exact Vk AI AF
 refine J7 ?_;refine JL Uc ?_;refine JK ?_;refine J5 ?_;refine Fq ?_;refine Bk (α:=NM×Nat) (fun z=>[(11,iN z.2),(10,ptr nb 0),(0,.slice p l.length c),(1,.int .i64 wo)]) (fun z=>Aw nb z.1*H) (fun z=>z.1.ok∧z.2≤l.length∧BM z.2 z.1.n∧AM.run wo (l.drop z.2) z.1.n=AM.run wo l (JM AI AF)) (fun z=>l.length-z.2) (w,0) ⟨hok,Nat.zero_le _,hk0,by rw [hn];rfl⟩ IK rfl ?_;rintro⟨w1,i⟩ ⟨q1,q2,q3,q4⟩;dsimp only at q1 q2 q3 q4⊢;refine J6 ?_;refine JL (Dr (i:=i) (j:=l.length) rfl rfl) ?_;refine J2 ?_;refine mC (fun hi=>?_) (fun hi=>?_)
 ·obtain⟨s,hsi⟩:=Hp rfl hi;have hmem:s∈l:=List.mem_of_getElem? hsi;have Fx:=X1 hsi;rw [Fx,AM.run]at q4;obtain⟨L0,R0,hw0⟩:=id q3;have hr':Ab B (Aw nb w1*H) b o l:=inferInstance;refine J9 ?_;refine JL (DG (i:=i) rfl rfl hs Ca) ?_;refine J1 ?_;refine JL (Ep (f:=0) (xs:=l) (v:=.int .i64 s.kind) rfl hr' (by rw [getD_some hsi];rfl) hi) ?_;refine J1 ?_;refine JL (CT (i:=s.kind) (j:=wo) rfl rfl) ?_;refine J2 ?_;refine mC (fun hk=>?_) (fun hk=>?_)
  ·rw [if_pos hk]at q4
   obtain⟨w9,hok9,hk9,h9,h99⟩:∃w9:NM,w9.ok∧BM (i+1) w9.n∧AM.run wo (l.drop (i+1)) w9.n=AM.run wo l (JM AI AF)∧Aw nb w1*H=Aw nb w9*H:=⟨w1,q1,⟨L0,R0,hw0.up Ca⟩,q4,rfl⟩
   refine Ao h99 ?_;refine J6 ?_;refine JL Tw ?_;refine J2 ?_;exact VB
  rw [if_neg hk,if_pos (hw0.step Ca s).1]at q4;refine J7 ?_;refine JL LM ?_;refine JL (A2 (v':=.agg (Bs s).toArray) (IA (xs:=l) rfl hr' hi) (by rw [getD_some hsi];rfl)) ?_;refine mE rfl (O6 hG nb i s w1 L0 R0 _ q1 hw0 (hst s hmem) Ca) ?_;rintro _ _ ⟨rfl,w9,hok9,hn9,rfl⟩
  have hk9:BM (i+1) w9.n:=by rw [hn9];exact q3.step Ca s
  have h9:AM.run wo (l.drop (i+1)) w9.n=AM.run wo l (JM AI AF):=by rw [hn9];exact q4
  refine J6 ?_;refine JL Py ?_;refine JK ?_;refine J5 ?_;refine JL Tw ?_;refine J2 ?_;exact VB
 refine Eu ?_
 have hil:i=l.length:=by omega
 subst hil;rw [List.drop_length]at q4;exact mR [8,9] (Aw nb w1*H) rfl rfl ⟨nb,w1,rfl,q1,q3,q4.symm,rfl⟩
set_option maxHeartbeats 8000000 in
theorem oY(hG:B.cell? ⟨0,0,none⟩=some (C3 106))(l:List DR)(AI AF:Int)(hmtu:Hj AI)(hwin:Hj AF)(p:Option Addr)(b o c:Nat)(H:HP)(hs:Sl p b o l.length c)(hr:Ab B H b o l)(hl:l.length<2000000)(hst:∀s∈l,KH s):
  Fn Tryz.prog B 5 [.slice p l.length c,.int .i64 AI,.int .i64 AF] H (fun v H'=>v=.bool true∧H'=H):=by
 refine mI Tryz.func5 ?_;refine J8 ?_;refine mE rfl (jM l p b o c _ hs hr hl (fun s h=>(hst s h).s)) ?_;rintro _ H10 ⟨bb,rfl,hbb,h10⟩;rw [h10];refine J5 ?_;refine mE rfl (eY hG _) ?_;rintro _ H11 ⟨rfl,h11⟩;rw [h11];refine J7 ?_;refine JO ?_;refine J1 ?_;refine DA 14 rfl (fun hg1=>?_) (fun hg1=>?_)
 ·refine HW ?_;refine Oy ?_;refine J8 ?_;exact mR [6] H rfl rfl Ba
 have hb1:bb=true:=by cases bb;cases hg1;rfl
 have hl8:=hbb hb1;refine ML ?_;refine JL Py ?_;refine Iz ?_;refine IP ?_;refine J7 ?_;refine mE rfl (iJ hG l 3 AI AF hmtu hwin p b o c _ hs hr hl8 hst) ?_;rintro _ _ ⟨nb,w,rfl,hok,hk,hrun,rfl⟩;refine Eu ?_;exact mR [6] H (hE:=⟨fun ww hw=>Sat.right (A:=Aw nb w) hw⟩) rfl rfl Ba
end
section
theorem Nu{i:Int}(h:Lit.wf (.int .i64 i)):Hj i:=by
 have: -9223372036854775808≤i∧i≤9223372036854775807:=by simpa [Lit.wf,IntKind.min,IntKind.max,IntKind.bits,IntKind.signed]using h
 exact⟨this.1,Ca⟩
section
variable{H:Type}{Al:TypeId×Value→H}
instance:Inhabited DR:=⟨AC.AH⟩
def Yp(s:DR)(d:DataW H):Prop:=Rows.uptoBulk d≤1048576→KH s
theorem zC{W:World}{n:Nat}{cs:List Value}{y:DataW H×List MemPlace}(h:DataW.trod Al Tryz.prog W 0 (fun _=>true) true n 97 cs=some y):∃s:DR,cs=AC.Al s∧Yp s y.1:=by
 obtain⟨xs,k,rfl,rfl,hcl,hxl,hf⟩:=DataW.trod_struct Tryz.underlying97 h
 have c2:Tryz.prog.cellsOf 3=1:=by kernel_rfl
 have c4:Tryz.prog.cellsOf 9=1:=by kernel_rfl
 have ct:Tryz.prog.cellsOf 97=5:=by kernel_rfl
 rw [ct]at hcl
 match xs,hxl,cs,hcl with
 |[y0,y1,y2,y3,y4],_,[v0,v1,v2,v3,v4],_=>
  have g0:=hf 0 _ rfl;have g1:=hf 1 _ rfl;have g2:=hf 2 _ rfl;have g3:=hf 3 _ rfl;have g4:=hf 4 _ rfl;simp [c2,c4]at g0 g1 g2 g3 g4;obtain⟨i0,e0,z0,w0⟩:=DataW.trod_int Tryz.underlying3 g0;obtain⟨i1,e1,z1,w1⟩:=DataW.trod_int Tryz.underlying3 g1;obtain⟨i2,e2,z2,w2⟩:=DataW.trod_int Tryz.underlying3 g2;obtain⟨i3,e3,z3,w3⟩:=DataW.trod_int Tryz.underlying3 g3;obtain⟨s5,e5,z5,w5⟩:=DataW.trod_string Tryz.underlying9 g4;simp only [List.cons.injEq,and_true]at e0 e1 e2 e3 e5;refine⟨⟨i0,i1,i2,i3,s5⟩,?_,fun hb=>?_⟩
  ·rw [e0,e1,e2,e3,e5];rfl
  ·have hb':Rows.uptoBulk (DataW.agg [y0.1,y1.1,y2.1,y3.1,y4.1])≤1048576:=hb
   have h5:Rows.uptoBulk y4.1=s5.size+1:=by
    rw [z5];show Rows.uptoBulk (DataW.lit (H:=H) (.string s5.data.toList))=_;simp [Rows.uptoBulk]
   simp only [Rows.uptoBulk,Rows.uptoBulkAll]at hb';exact⟨Nu w1,Nu w2,Nu w3,by show s5.size<_;omega⟩
theorem fY{W:World}{v:Value}{d:DataW H}{ps:List MemPlace}(h:DataW.Trod Al Tryz.prog W 0 (fun _=>true) true 27 v d ps)(hv:∃p k c,v=.slice p k c)(hb:Rows.uptoBulk d≤1048576):
  ∃(p:Option Addr) (b o c:Nat) (l:List DR),v=.slice p l.length c∧Sl p b o l.length c∧(∀H',Ab W H' b o l)∧l.length≤1048576∧∀s∈l,KH s:=by
 obtain⟨fuel,hf⟩:=h;obtain⟨p0,k0,c0,rfl⟩:=hv;obtain⟨p,b,o,c,len,X,e,hsl,hrd,hq⟩:=iC (α:=DR) Yp Tryz.underlying27 Cb (by show 0<5;decide) (fun n cs' y hy=>zC hy) hf
 have e':Value.slice p0 k0 c0=.slice p len c:=by simpa [Value.cells]using e
 have hl:((B_ len).map X).length=len:=by rw [C?,C_]
 refine⟨p,b,o,c,(B_ len).map X,by rw [hl];exact e',by rw [hl];exact hsl,hrd,?_,fun s hs=>?_⟩
 ·rw [hl];rcases hq with⟨rfl,e⟩|⟨D,sp,e,hQ⟩
  ·omega
  ·have:=fC ((B_ len).map D)
   rw [C?,C_]at this;rw [show d=_ from e]at hb;simp only [Rows.uptoBulk]at hb;omega
 ·obtain⟨i,hi,rfl⟩:=D!.1 hs;have hi:=D_.1 hi;rcases hq with⟨rfl,_⟩|⟨D,sp,e,hQ⟩
  ·omega
  ·refine hQ i hi ?_;have h2:Rows.uptoBulk (D i)≤Rows.uptoBulkAll ((B_ len).map D):=X8 (D!.2 ⟨i,D_.2 hi,rfl⟩)
   have h3:Rows.uptoBulkAll ((B_ len).map D)≤Rows.uptoBulk d:=by
    rw [show d=_ from e];simp only [Rows.uptoBulk];omega
   omega
end
end
theorem xL{a:Assume}{C:Checked}{os:Os}{f:FuncId}{r:Reach}{Pre:World→Array Value→Prop}{Post:World→Array Value→Value→World→Prop}
  (h:ReturnsInHanded a C os f r Pre Post)(enter:C.prog.mayEnter=true):ReturnsInOpen a none C os f r Input.okWide Pre Post (leavingAtReturn C.prog) nothingAlways:=by
 obtain⟨h1,h2,h3,h4,h5⟩:=h enter;refine⟨h1,h2,h3,h4,fun w tape i hf=>?_⟩;obtain⟨n,v,w',a1,a2,a3,a4,⟨j,last,b1,b2,b3⟩,a6⟩:=h5 w tape i hf;exact⟨n,v,w',a1,a2,a3,a4,⟨j,last,b1,b2,b3.2.1,onlyLeaving_of_quiet b3.1,b3.2.2⟩,a6⟩
theorem uS{p:Pinned}{s:OpenSpec}{c:OpenClaim}(f:FuncId)(fn:Func)
  (hn:c.program=p.name)(hs:c.sum=p.sum)(hsp:c.spec=s.name)
  (hstart:c.start=.entering)(hout:c.outside=[])(hin:c.inits=[])(hun:c.under=none)(hi4:c.initsInPlace=[]∧c.initsUnfollowed=false∧c.initsRecurse=false∧c.initsNamed=[]∧c.initsPassed=[])(hnb:c.noBlocks=false)(hlv:c.leaving=true)(hfo:c.followed=none)(hnar:c.narrowed=s.cond.isSome)(hstill:c.still=false)
  (hfn:p.checked.prog.funcNamed c.func=some f)(hf:p.checked.prog.funcs[f]?=some fn)
  (closed:joinedFacts p.checked.prog f fn s.bare c=true)
  (hinst:fn.isInstance p.checked.prog c.origin c.targs)(hwrap:fn.isWrapper p.checked.prog c.wrapper c.mainSum)
  (h:∀os:Os,os.Started→∀(H:Type) (Al:TypeId×Value→H),(∀a b,Al a=Al b→a=b)→∀F:Stop.Interp,
   ReturnsInHanded c.assume p.checked os f .any (c.pre Al p.checked.prog fn s) ((s.at F).post Al p.checked.prog fn c.apart c.fresh c.handsOn c.again)):c.holds p s:=by
 simp only [joinedFacts,Bool.and_eq_true,beq_iff_eq,Array.all_eq_true_iff_forall_mem,List.all_eq_true,decide_eq_true_eq]at closed;obtain⟨⟨⟨⟨⟨⟨⟨⟨⟨⟨⟨⟨⟨⟨⟨⟨⟨⟨⟨⟨⟨⟨⟨⟨⟨⟨⟨⟨⟨⟨⟨k1,k2⟩,k3⟩,k4⟩,k5⟩,k6⟩,k7⟩,k8⟩,k9⟩,k10⟩,k11⟩,k12⟩,k13⟩,k14⟩,k15⟩,k16⟩,k17⟩,k17b⟩,k18⟩,k19⟩,k20⟩,k21⟩,k22⟩,k23⟩,k23b⟩,k24⟩,k24b⟩,k24c⟩,k25⟩,k26⟩,k27⟩,k28⟩:=closed
 have hq:∀os:Os,Stop.quiet p.checked.prog os:=fun os k hk=>by rw [k9]at hk;cases hk
 refine⟨k1,hn,hs,hsp,k2,k3,by unfold OpenClaim.startFits;rw [hstart];exact k24,by unfold OpenClaim.startTold;rw [hstart];exact⟨hin,hun,hi4⟩,f,fn,hfn,hf,⟨k4,k19⟩,(fun hb=>by rw [hnb]at hb;cases hb),by unfold OpenClaim.namedList;rw [hfo];exact k5,hinst,hwrap,
  k6.trans k7.symm,⟨k8.trans k9.symm,by unfold Program.envWorded;rw [k9];rfl,k23b⟩,k10,k11,k12,k13,k14,⟨k15,k27,k28⟩,⟨k16,k20⟩,⟨k17,k21,k25,k26⟩,⟨k22,k24b,k24c,k17b⟩,(by rw [hout,hnar];cases hsh:c.shortTexts with|none=>simp|some _=>rw [hsh]at k23;cases k23),fun n hn'=>varReadable_some (k18 n hn'),
  ⟨_,by unfold OpenClaim.world;rw [hout,hstart];exact WideRow.started_initial,hq _⟩,[],by unfold OpenClaim.lists;rw [hfo],fun os st _ H Al inj=>?_⟩
 have st':os.Started:=by unfold OpenClaim.world at st;rw [hout,hstart]at st;exact st
 rw [OpenClaim.post_not_still hstill];unfold OpenClaim.form;rw [hstart,k6];intro F
 have e1:c.okInput=Input.okWide:=by unfold OpenClaim.okInput;rw [hnb]
 have e2:c.atReturn p.checked.prog=leavingAtReturn p.checked.prog:=by unfold OpenClaim.atReturn;rw [hlv]
 have e3:c.always p.checked.prog []=nothingAlways:=by unfold OpenClaim.always;rw [hfo]
 have e4:s.post Al p.checked.prog fn F c.outside c.apart c.fresh c.handsOn c.again=(s.at F).post Al p.checked.prog fn c.apart c.fresh c.handsOn c.again:=by rw [hout];rfl
 rw [e1,e2,e3];show ReturnsInOpen _ _ _ _ _ _ _ _ (s.post Al p.checked.prog fn F c.outside c.apart c.fresh c.handsOn c.again) _ _;rw [e4];exact xL (h os st' H Al inj F) k24
theorem sP(Lk:Looks){p:Pinned}{s:OpenSpec}{c:OpenClaim}(kinds:List LaidKind)(tests:Bool)(har:Bool×String)(lk:Bool)
  (hc:c.holds p s)(hw:c.wfByText s=true)(htie:c.laidByTextAt Lk p kinds tests)
  (hst:c.start=.entering)(hnb:c.noBlocks=false∧c.again=false)(hm:p.checked.prog.mainIs=some (har.1,har.2.toList))(hn:(!har.1&&har.2.isEmpty&& !lk)=false)
  (hl:∀f fn,p.checked.prog.funcNamed c.func=some f→p.checked.prog.funcs[f]?=some fn→lk=p.checked.prog.looks []∧∀(j:Nat) t,fn.params[j]?=some t→p.checked.prog.wantsStandIn t=false)
  (hg:true=c.goesBy p.checked.prog):
  Claim7.holds p (.plain s) {stood:={row:=c,standIns:=[],harness:=har,looks:=lk},kinds:=[],alts:=[],goes:=true,laidByText:=true,laidKinds:=kinds,laidTests:=tests,laidLooks:=Lk}:=by
 have h6:∀r:OpenClaim,Claim7.isSixth {stood:={row:=r,standIns:=[],harness:=har,looks:=lk},kinds:=[]}=false:=fun r=>by simpa [Claim7.isSixth]using hn
 exact⟨Claim7.tied_new_at Lk kinds tests (Claim7.new_of_sixth hc har lk hst hnb hm (h6 c) hl) hw,(fun D hD=>by cases hD),htie,(fun h=>by cases h),hg⟩
theorem jK:laidOutB Tryz.pinned.checked.prog=true:=cO
theorem cV:mapsRowed Tryz.pinned.checked.prog=true:=by kernel_rfl
theorem yT:Tryz.pinned.checked.prog.plainKeys=Rows.streamedUptoRow.plainKeys:=by kernel_rfl
theorem lE:Tryz.pinned.checked.prog.stopsHeard=true:=by kernel_rfl
theorem xP:Tryz.pinned.checked.prog.mayEnter=true:=by kernel_rfl
theorem yR:Tryz.pinned.checked.prog.liftsFinal=Rows.streamedUptoRow.lifted:=by kernel_rfl
end Go.Proofs.YtgfdlpcdjklcoaaGreatDoor
