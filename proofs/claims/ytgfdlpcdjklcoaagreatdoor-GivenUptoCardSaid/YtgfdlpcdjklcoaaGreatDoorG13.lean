/- A part of this proof: steps of the program, plain facts; no condition. -/
import Derived.Test.YtgfdlpcdjklcoaaGreatDoorG12
import Derived.JoinedCond
import Derived.Leaving
namespace Go.Proofs.YtgfdlpcdjklcoaaGreatDoor
open Go Go.RowKit
open _root_.List renaming length_append→a_,mem_singleton→c_,mem_cons→d_,getD_eq_getElem?_getD→f_,length_singleton→g_,mem_append_left→g',foldl_cons→h_,getElem?_eq_none→i_,mem_of_getElem?→j_,getElem?_eq_getElem→kf,mem_append→kg,map_append→kh,mem_filter→ki,mem_append_right→km,getElem_mem→kn,append_nil→kp,replicate→kq,append_assoc→kt,range→ku,mem_cons_of_mem→kv,toList_toArray→kw,length_pos_iff→kx,filter_sublist→ky,length_range→k_,mem_map→ld,length_map→li,mem_range→ll
open _root_.Nat renaming le_refl→b_,lt_or_ge→kj,le_trans→lf,zero_le→lh,not_lt_zero→lj
open _root_.UInt64 renaming ofNat→e_
open _root_.Bool renaming and_eq_true→ko
open _root_.Int renaming toNat_natCast→kr
set_option linter.unusedVariables false
set_option linter.unusedSimpArgs false
set_option maxRecDepth 20000
section
section
variable{P:Program}{B:World}{n:Nat}{E:A5}{D:B6}{H:HP}{d:Option Tmp}{T T' ty:TypeId}{pos:String}{af:Array Edge}{g:Option (Nat×Bool)}{x y z u:Operand}
theorem nF(m:Nat){T e:TypeId}(p:Option Addr)(w:World)(hT:P.underlying T=some (.pointer e)):(Op.equalIn (m+1) T (.pointer p) (.pointer none)).run P w=.ok (decide (p=none)) w:=by
 simp only [Op.equalIn,Sem.run_bind,Br hT,Result.andThen_ok];cases p<;>rfl
theorem eQ(e:TypeId){p:Option Addr}[hT:Az P T (.pointer e)](hx:ev E x=some (.pointer p))(hy:ev E y=some (.pointer none)):
  Af P B n ⟨d,.binOp .eql T x y T',ty,pos,af,g⟩ E H (.bool (decide (p=none))):=by
 intro a w he _;have h1:=fun w=>nF (P:=P) 9999 p w hT.get;have h2:(eqGuard .eql T x y (.pointer p) (.pointer none)).run P w=.ok () w:=rfl;simp only [execOp,he.ev hx,he.ev hy,Sem.run_bind,h2,Result.andThen_ok,binOp,Op.equal,show Op.maxDepth=9999+1 from rfl,h1,Sem.run_pure]
end
variable{B:World}
def NM.Lb(w:NM)(C:CM)(a:A8):NM:={w with x:={w.x with xv:=a.v (w.cs++[C]).length},cs:=w.cs++[C],xa:=a}
def NM.Lp(w:NM)(r:Dq)(a:A8):NM:={w with x:={w.x with ev:=a.v (w.rows++[r]).length},rows:=w.rows++[r],ea:=a}
def NM.KM(w:NM)(c:Ec)(a:A8):NM:={w with x:={w.x with cv:=a.v (w.cnt++[c]).length},cnt:=w.cnt++[c],ca:=a}
theorem vX(nb:Nat)(w:NM)(C:CM)(a:A8)(R:HP):Ay nb (w.Lb C a)*R=A7 nb {w.x with xv:=a.v (w.cs++[C]).length}*(AB a.b a.o (w.cs++[C]) a.s*(AB w.ea.b w.ea.o w.rows w.ea.s*(AB w.ba.b w.ba.o w.AN w.ba.s*(AB w.ca.b w.ca.o w.cnt w.ca.s*(AU CX w.cs*(AU CY w.rows*(Ac C.cb C.c*R))))))):=by
 rw [En];show _*(_*(_*(_*(_*(AU CX (w.cs++[C])*_)))))=_;rw [KH,Fw,FM,HP.Ge];unfold CX;show A7 nb {w.x with xv:=a.v (w.cs++[C]).length}*(AB a.b a.o (w.cs++[C]) a.s*(AB w.ea.b w.ea.o w.rows w.ea.s*(AB w.ba.b w.ba.o w.AN w.ba.s*(AB w.ca.b w.ca.o w.cnt w.ca.s*(_*_*(AU CY w.rows*R))))))=_;ac_rfl
theorem oF(nb:Nat)(w:NM)(r:Dq)(a:A8)(R:HP):Ay nb (w.Lp r a)*R=A7 nb {w.x with ev:=a.v (w.rows++[r]).length}*(AB w.xa.b w.xa.o w.cs w.xa.s*(AB a.b a.o (w.rows++[r]) a.s*(AB w.ba.b w.ba.o w.AN w.ba.s*(AB w.ca.b w.ca.o w.cnt w.ca.s*(AU CX w.cs*(AU CY w.rows*(AB r.a.b r.a.o r.es r.a.s*(AU GV r.es*R)))))))):=by
 rw [En];show _*(_*(_*(_*(_*(_*(AU CY (w.rows++[r])*R))))))=_;rw [KH,Fw,FM,HP.Ge];show A7 nb {w.x with ev:=a.v (w.rows++[r]).length}*(AB w.xa.b w.xa.o w.cs w.xa.s*(AB a.b a.o (w.rows++[r]) a.s*(AB w.ba.b w.ba.o w.AN w.ba.s*(AB w.ca.b w.ca.o w.cnt w.ca.s*(AU CX w.cs*(AU CY w.rows*(AB r.a.b r.a.o r.es r.a.s*AU GV r.es)*R))))))=_;ac_rfl
theorem uW(nb:Nat)(w:NM)(c:Ec)(a:A8)(R:HP):Ay nb (w.KM c a)*R=A7 nb {w.x with cv:=a.v (w.cnt++[c]).length}*(AB w.xa.b w.xa.o w.cs w.xa.s*(AB w.ea.b w.ea.o w.rows w.ea.s*(AB w.ba.b w.ba.o w.AN w.ba.s*(AB a.b a.o (w.cnt++[c]) a.s*(AU CX w.cs*(AU CY w.rows*R)))))):=En nb (w.KM c a) R
theorem NM.ok.Lb{w:NM}(hw:w.ok){C:CM}{a:A8}(ha:a.ok (w.cs++[C]))(hC:C.c.ok):(w.Lb C a).ok:=
 ⟨ha,hw.ea,hw.ra,hw.ba,hw.ca,rfl,hw.ev,hw.bv,hw.cv,fun c hc=>(kg.1 hc).elim (hw.F6 c) (fun h=>by rw [c_.1 h];exact hC),hw.ks⟩
theorem NM.ok.Lp{w:NM}(hw:w.ok){r:Dq}{a:A8}(ha:a.ok (w.rows++[r]))(hr:r.a.ok r.es):(w.Lp r a).ok:=
 ⟨hw.xa,ha,fun c hc=>(kg.1 hc).elim (hw.ra c) (fun h=>by rw [c_.1 h];exact hr),hw.ba,hw.ca,hw.xv,rfl,hw.bv,hw.cv,hw.F6,hw.ks⟩
theorem NM.ok.KM{w:NM}(hw:w.ok){c:Ec}{a:A8}(ha:a.ok (w.cnt++[c])):(w.KM c a).ok:=
 ⟨hw.xa,hw.ea,hw.ra,hw.ba,ha,hw.xv,hw.ev,hw.bv,rfl,hw.F6,hw.ks⟩
theorem NM.rY(w:NM)(C:CM)(a:A8):(w.Lb C a).n={w.n with xs:=w.n.xs++[C.c.s]}:=by
 unfold NM.Lb NM.n;dsimp only;rw [kh];rfl
theorem NM.da(w:NM)(r:Dq)(a:A8):(w.Lp r a).n={w.n with ends:=w.n.ends++[r.es.map (·.o)]}:=by
 unfold NM.Lp NM.n;dsimp only;rw [kh];rfl
theorem NM.N! (w:NM)(c:Ec)(a:A8):(w.KM c a).n={w.n with count:=w.n.count++[c.n]}:=by
 unfold NM.KM NM.n;dsimp only;rw [kh];rfl
def FH(mt wi:Nat):Nat→AH
 |0=>⟨[],[],mt,wi,Dl,[],[]⟩
 |i+1=>⟨(FH mt wi i).xs++[.new mt wi Dl (decide (i=0))],(FH mt wi i).ends++[kq 4 Da],mt,wi,Dl,[],(FH mt wi i).count++[0]⟩
theorem pP(AJ AF:Int):FH (64+AP AJ 237) (16+AP AF 300) 2=JI AJ AF:=rfl
theorem sM(mt wi i:Nat):(FH mt wi i).AJ=mt∧(FH mt wi i).AF=wi∧(FH mt wi i).ks=Dl∧(FH mt wi i).AN=[]∧(FH mt wi i).xs.length=i∧(FH mt wi i).ends.length=i∧(FH mt wi i).count.length=i:=by
 induction i with
 |zero=>exact⟨rfl,rfl,rfl,rfl,rfl,rfl,rfl⟩
 |succ i ih=>refine⟨rfl,rfl,rfl,rfl,?_,?_,?_⟩<;>(show(_++[_]).length=_;rw [a_];simp [ih])
def NP(mt wi:Nat):List Value:=[.slice none 0 0]++([.slice none 0 0]++([iN mt,iN wi]++(AG Dl++([.slice none 0 0]++[.slice none 0 0]))))
def UE(mt wi:Nat):NC:=⟨.slice none 0 0,.slice none 0 0,mt,wi,Dl,.slice none 0 0,.slice none 0 0⟩
def V4(mt wi:Nat):NM:=⟨UE mt wi,[],[],[],[],Bc,Bc,Bc,Bc⟩
theorem O'{b o o':Nat}(l m:List Value)(h:o+l.length=o'):HP.AA b o (l++m)=HP.AA b o l*HP.AA b o' m:=by
 rw [HP.Fa,h]
theorem lS(b mt wi:Nat)(R:HP):HP.AA b 0 (NP mt wi)*R=Ay b (V4 mt wi)*R:=by
 have e:Ay b (V4 mt wi)=A7 b (UE mt wi)*(Bc.h ([]:List CM)*(Bc.h ([]:List Dq)*(Bc.h ([]:List Ee)*(Bc.h ([]:List Ec)*(AU CX []*AU CY []))))):=rfl;rw [e,HB,HB,HB,HB,FM,FM,HP.BR,HP.BR,HP.BR,HP.BR,HP.BR,HP.Ge];unfold NP A7 UE;rw [O' _ _ (rfl:0+1=0+1),O' (o:=0+1) (o':=0+2) _ _ rfl,O' (o:=0+2) (o':=0+4) _ _ rfl,O' (o:=0+4) (o':=0+20) _ _ rfl,O' (o:=0+20) (o':=0+21) _ _ rfl]
def Vo:List Value:=[.slice none 0 0]++([.slice none 0 0]++([.int .i64 0,.int .i64 0]++([.int .u8 0,.int .u8 0,.int .u8 0,.int .u8 0,.int .u8 0,.int .u8 0,.int .u8 0,.int .u8 0,.int .u8 0,.int .u8 0,.int .u8 0,.int .u8 0,.int .u8 0,.int .u8 0,.int .u8 0,.int .u8 0]++([.slice none 0 0]++[.slice none 0 0]))))
theorem zR:Bb Tryz.prog 64 (.agg Vo.toArray):=by
 have h:Bb Tryz.prog 64 _:=inferInstance;refine Eq.mp (congrArg (Bb Tryz.prog 64) ?_) h;kernel_rfl
theorem yS(mt wi:Nat):Im #[(0,1),(1,1),(2,2),(4,16),(20,1),(21,1)] Vo [(2,.agg [iN mt,iN wi].toArray),(3,.agg (AG Dl).toArray)] (NP mt wi):=by
 unfold Vo
 exact(JJ [.slice none 0 0,.slice none 0 0] [.int .i64 0,.int .i64 0] ([.int .u8 0,.int .u8 0,.int .u8 0,.int .u8 0,.int .u8 0,.int .u8 0,.int .u8 0,.int .u8 0,.int .u8 0,.int .u8 0,.int .u8 0,.int .u8 0,.int .u8 0,.int .u8 0,.int .u8 0,.int .u8 0]++[.slice none 0 0,.slice none 0 0]) [iN mt,iN wi] rfl rfl rfl rfl
  (JJ [.slice none 0 0,.slice none 0 0,iN mt,iN wi] [.int .u8 0,.int .u8 0,.int .u8 0,.int .u8 0,.int .u8 0,.int .u8 0,.int .u8 0,.int .u8 0,.int .u8 0,.int .u8 0,.int .u8 0,.int .u8 0,.int .u8 0,.int .u8 0,.int .u8 0,.int .u8 0] [.slice none 0 0,.slice none 0 0] (AG Dl) rfl rfl rfl rfl
  (by unfold NP;exact RB)))
set_option maxHeartbeats 16000000 in
theorem gE(hG:B.cell? ⟨0,0,none⟩=some (DH 106))(AJ AF:Int)(hmtu:IQ AJ)(hwin:IQ AF)(H:HP):
  Fn Tryz.prog B 34 [.int .i64 AJ,.int .i64 AF] H (fun v H'=>∃(nb:Nat) (w:NM),v=ptr nb 0∧w.ok∧w.n=JI AJ AF∧H'=Ay nb w*H):=by
 refine mI Tryz.func34 ?_;have hm1:=Db AJ WM;have hw1:=Db AF U3
 have hcfg:Ix ((64+AP AJ 237):Nat) ((16+AP AF 300):Nat):=⟨Ca,Ca,Ca,Ca⟩
 refine J8 ?_;refine mE rfl (JM AJ hmtu 237 Ca _) ?_;rintro _ H13 ⟨rfl,h13⟩;rw [h13];refine JL (Ff (i:=64) (j:=AP AJ 237) rfl rfl Ca) ?_;refine J1 ?_;refine mE rfl (JM AF hwin 300 Ca _) ?_;rintro _ H16 ⟨rfl,h16⟩;rw [h16];refine JL (Ff (i:=16) (j:=AP AF 300) rfl rfl Ca) ?_;refine JL (A9 (v':=.agg [iN (64+AP AJ 237),iN (16+AP AF 300)].toArray) GI rfl) ?_;refine Am (Fj (l:=[.int .i64 0,.int .i64 0]) rfl) rfl ?_;rintro _ _ ⟨b5,rfl,rfl⟩;refine Bv (EO (cs:=[iN (64+AP AJ 237),iN (16+AP AF 300)]) rfl rfl Ch Cf) ?_;refine Fg ?_;refine JL dT ?_;refine JL (A9 (v':=.agg (AG Dl).toArray) (YG (zs:=[.int .u8 0,.int .u8 0,.int .u8 0,.int .u8 0,.int .u8 0,.int .u8 0,.int .u8 0,.int .u8 0,.int .u8 0,.int .u8 0,.int .u8 0,.int .u8 0,.int .u8 0,.int .u8 0,.int .u8 0,.int .u8 0]) rfl rfl Cf) rfl) ?_;refine JL (Q5 (hz:=zR) (cs:=NP (64+AP AJ 237) (16+AP AF 300)) rfl (yS (64+AP AJ 237) (16+AP AF 300))) ?_;refine Am (Dn (l:=NP (64+AP AJ 237) (16+AP AF 300)) rfl rfl) rfl ?_;rintro _ _ ⟨nb,rfl,rfl⟩;refine J6 ?_;refine E4 ?_
 refine Bj (α:=NM×Nat) (fun z=>[(7,iN z.2),(6,ptr nb 0),(5,ptr b5 0)]) (fun z=>Ay nb z.1*(HP.AA b5 0 [iN (64+AP AJ 237),iN (16+AP AF 300)]*H)) (fun z=>z.1.ok∧z.2≤2∧z.1.n=FH (64+AP AJ 237) (16+AP AF 300) z.2) (fun z=>2-z.2) (V4 (64+AP AJ 237) (16+AP AF 300),0) ⟨⟨D',D',(fun _ h=>nomatch h),D',D',rfl,rfl,rfl,rfl,(fun _ h=>nomatch h),rfl⟩,lh _,rfl⟩ Dk (lS nb _ _ _) ?_;rintro⟨w1,i⟩ ⟨q1,q2,q3⟩;dsimp only at q1 q2 q3⊢;obtain⟨n1,n2,n3,n4,n5,n6,n7⟩:=sM (64+AP AJ 237) (16+AP AF 300) i
 have hcl:w1.cs.length=i:=by rw [←n5,←q3];exact QG
 have hrl:w1.rows.length=i:=by rw [←n6,←q3];exact QG
 have hnl:w1.cnt.length=i:=by rw [←n7,←q3];exact QG
 have hkk:w1.x.ks=Dl:=show w1.n.ks=Dl by rw [q3];exact n3
 refine SN ?_;refine mC (fun hi=>?_) (fun hi=>?_)
 ·refine J5 ?_;refine Au (H':=A7 nb w1.x*(AB w1.xa.b w1.xa.o w1.cs w1.xa.s*(AB w1.ea.b w1.ea.o w1.rows w1.ea.s*(AB w1.ba.b w1.ba.o w1.AN w1.ba.s*(AB w1.ca.b w1.ca.o w1.cnt w1.ca.s*(AU CX w1.cs*(AU CY w1.rows*(HP.AA b5 0 [iN (64+AP AJ 237),iN (16+AP AF 300)]*H)))))))) (En nb w1 _) ?_;refine mA 13 13 ?_;refine JT 0 rfl dT ?_;refine Xr ?_;refine Jr ?_;refine JT 4 rfl (A9 (v':=.agg (AG Dl).toArray) Z6 (by rw [hkk])) ?_;refine Jm 5 ?_;refine JT 6 rfl (CN (i:=i) (j:=0) rfl rfl) ?_;refine Av 7 Cb rfl rfl (BS rfl (qD hG ((64+AP AJ 237):Nat) ((16+AP AF 300):Nat) Dl rfl (decide (i=0)) _)) ?_;rintro v35 H35 h35;rcases h35 with⟨hx,_,_⟩|⟨_,cb,m,hmok,hms,rfl,rfl⟩
  ·exact absurd hcfg hx
  refine BL ?_;refine Jm 8 ?_;refine JT 9 rfl M5 ?_;refine JT 10 rfl M5 ?_;refine Ja 11 ?_;refine Ja 12 ?_;refine JD ?_;refine J5 ?_;refine JL (A9 (v':=.bool false) (eQ 184 rfl rfl) rfl) ?_;refine KU ?_;refine JL VU ?_;refine JL EB ?_;refine I4 ?_;refine J3 ?_;refine Au (H':=AB w1.xa.b w1.xa.o w1.cs w1.xa.s*(A7 nb w1.x*(AB w1.ea.b w1.ea.o w1.rows w1.ea.s*(AB w1.ba.b w1.ba.o w1.AN w1.ba.s*(AB w1.ca.b w1.ca.o w1.cnt w1.ca.s*(AU CX w1.cs*(AU CY w1.rows*(Ac cb m*(HP.AA b5 0 [iN (64+AP AJ 237),iN (16+AP AF 300)]*H))))))))) Cg ?_;refine J5 ?_;refine JL (A9 ER q1.xv) ?_;refine J1 ?_;refine Am (HD (cs:=[ptr cb 0]) rfl Cq rfl rfl) rfl ?_;rintro _ _ ⟨b50,rfl,rfl⟩;refine BQ (H':=AB w1.xa.b w1.xa.o w1.cs w1.xa.s*(HP.AA b50 0 (AG [(⟨cb,m⟩:CM)])*(A7 nb w1.x*(AB w1.ea.b w1.ea.o w1.rows w1.ea.s*(AB w1.ba.b w1.ba.o w1.AN w1.ba.s*(AB w1.ca.b w1.ca.o w1.cnt w1.ca.s*(AU CX w1.cs*(AU CY w1.rows*(Ac cb m*(HP.AA b5 0 [iN (64+AP AJ 237),iN (16+AP AF 300)]*H)))))))))) (by show HP.AA b50 0 _*_=_;rw [show AG [(⟨cb,m⟩:CM)]=[ptr cb 0]from rfl];ac_rfl) ?_
  refine Am (DG (ys:=[(⟨cb,m⟩:CM)]) (bb:=b50) (oo:=0) (cc:=1) rfl q1.xa.1 q1.xa.2 rfl CS inferInstance rfl Cn Ca) rfl ?_;rintro _ _ ⟨p51,b51,o51,c51,s51,rfl,hs51,hc51,rfl⟩;refine J6 ?_
  obtain⟨w2,hw2⟩:∃w2,w2=(w1.Lb ⟨cb,m⟩ ⟨p51,b51,o51,c51,s51⟩):=Bl
  have hok2:w2.ok:=by rw [hw2];exact q1.Lb ⟨hs51,hc51⟩ hmok
  have hn2:w2.n={FH (64+AP AJ 237) (16+AP AF 300) i with xs:=(FH (64+AP AJ 237) (16+AP AF 300) i).xs++[.new (64+AP AJ 237) (16+AP AF 300) Dl (decide (i=0))]}:=by rw [hw2,NM.rY,q3,hms];rfl
  have hrl2:w2.rows.length=i:=by rw [hw2];exact hrl
  have hnl2:w2.cnt.length=i:=by rw [hw2];exact hnl
  refine Hy (Ay nb w2*(HP.AA b5 0 [iN (64+AP AJ 237),iN (16+AP AF 300)]*H)) (hE:=⟨fun ww hw=>Sat.right (A:=HP.AA b50 0 (AG [(⟨cb,m⟩:CM)])) (Eq.mp (by
   congr 1
   rw [hw2,vX]
   show _=HP.AA b50 0 (AG [(⟨cb,m⟩:CM)])*(A7 nb {w1.x with xv:=.slice p51 (w1.cs++[(⟨cb,m⟩:CM)]).length c51}*_)
   ac_rfl) hw)⟩) ?_
  refine J7 ?_;refine E4 ?_;refine Bj (α:=List EF×A8) (fun z=>[(11,iN z.1.length),(10,z.2.v z.1.length),(7,iN i),(6,ptr nb 0),(5,ptr b5 0)]) (fun z=>z.2.h z.1*(AU GV z.1*(Ay nb w2*(HP.AA b5 0 [iN (64+AP AJ 237),iN (16+AP AF 300)]*H)))) (fun z=>z.2.ok z.1∧z.1.length≤4∧z.1.map (·.o)=kq z.1.length Da) (fun z=>4-z.1.length) ([],Bc) ⟨D',lh _,rfl⟩ HK (by rw [HB,FM,HP.BR,HP.BR]) ?_;rintro⟨es,ea⟩ ⟨x1,x2,x3⟩;dsimp only at x1 x2 x3⊢;refine J4 ?_;refine JL (ES (i:=es.length) (j:=4) rfl rfl) ?_;refine J2 ?_;refine mC (fun hj=>?_) (fun hj=>?_)
  ·refine J6 ?_;refine JL (A9 (v':=.agg (N5 Da).toArray) GI rfl) ?_;refine Am (Dn (l:=N5 Da) rfl rfl) rfl ?_;rintro _ _ ⟨b60,rfl,rfl⟩;refine Am (HD (cs:=[ptr b60 0]) rfl Cq rfl rfl) rfl ?_;rintro _ _ ⟨b61,rfl,rfl⟩;refine BQ (H':=AB ea.b ea.o es ea.s*(HP.AA b61 0 (AG [(⟨b60,Da⟩:EF)])*(HP.AA b60 0 (N5 Da)*(AU GV es*(Ay nb w2*(HP.AA b5 0 [iN (64+AP AJ 237),iN (16+AP AF 300)]*H)))))) (by show HP.AA b61 0 _*_=_;rw [show AG [(⟨b60,Da⟩:EF)]=[ptr b60 0]from rfl];ac_rfl) ?_;refine Am (DG (ys:=[(⟨b60,Da⟩:EF)]) (bb:=b61) (oo:=0) (cc:=1) rfl x1.1 x1.2 rfl CS inferInstance rfl Cn Ca) rfl ?_;rintro _ _ ⟨p62,b62,o62,c62,s62,rfl,hs62,hc62,rfl⟩;refine J6 ?_;refine JL (Ff (i:=es.length) (j:=1) rfl rfl Ca) ?_;refine J2 ?_
   refine Bo ((⟨p62,b62,o62,c62,s62⟩:A8).h (es++[(⟨b60,Da⟩:EF)])*(AU GV (es++[(⟨b60,Da⟩:EF)])*(Ay nb w2*(HP.AA b5 0 [iN (64+AP AJ 237),iN (16+AP AF 300)]*H)))) (hE:=⟨fun ww hw=>Sat.right (A:=HP.AA b61 0 (AG [(⟨b60,Da⟩:EF)])) (Eq.mp (by
    congr 1
    rw [KH,Fw,FM,HP.Ge]
    show _=HP.AA b61 0 (AG [(⟨b60,Da⟩:EF)])*(AB b62 o62 (es++[(⟨b60,Da⟩:EF)]) s62*(AU GV es*HP.AA b60 0 (N5 Da)*_))
    ac_rfl) hw)⟩) ?_
   exact Ba (es++[(⟨b60,Da⟩:EF)],⟨p62,b62,o62,c62,s62⟩) ⟨⟨hs62,hc62⟩,by rw [a_];simp only [g_];omega,by rw [kh,x3,a_];exact List.replicate_succ'.symm⟩ (by rw [a_];simp only [g_];show 4-(es.length+1)<4-es.length;omega) (.cons ST Hq) rfl
  have he4:es.length=4:=by omega
  have hrl3:ea.ok es:=x1;refine J6 ?_;refine Au (H':=AB w2.ea.b w2.ea.o w2.rows w2.ea.s*(A7 nb w2.x*(AB w2.xa.b w2.xa.o w2.cs w2.xa.s*(AB w2.ba.b w2.ba.o w2.AN w2.ba.s*(AB w2.ca.b w2.ca.o w2.cnt w2.ca.s*(AU CX w2.cs*(AU CY w2.rows*(AB ea.b ea.o es ea.s*(AU GV es*(HP.AA b5 0 [iN (64+AP AJ 237),iN (16+AP AF 300)]*H)))))))))) (by rw [En];show AB ea.b ea.o es ea.s*_=_;ac_rfl) ?_;refine J5 ?_;refine JL (A9 ER hok2.ev) ?_;refine J1 ?_;refine Am (HD (cs:=[.slice ea.p es.length ea.c]) rfl Cq rfl rfl) rfl ?_;rintro _ _ ⟨b69,rfl,rfl⟩;refine BQ (H':=AB w2.ea.b w2.ea.o w2.rows w2.ea.s*(HP.AA b69 0 (AG [(⟨ea,es⟩:Dq)])*(A7 nb w2.x*(AB w2.xa.b w2.xa.o w2.cs w2.xa.s*(AB w2.ba.b w2.ba.o w2.AN w2.ba.s*(AB w2.ca.b w2.ca.o w2.cnt w2.ca.s*(AU CX w2.cs*(AU CY w2.rows*(AB ea.b ea.o es ea.s*(AU GV es*(HP.AA b5 0 [iN (64+AP AJ 237),iN (16+AP AF 300)]*H))))))))))) (by show HP.AA b69 0 _*_=_;rw [show AG [(⟨ea,es⟩:Dq)]=[.slice ea.p es.length ea.c]from rfl];ac_rfl) ?_;refine Am (DG (ys:=[(⟨ea,es⟩:Dq)]) (bb:=b69) (oo:=0) (cc:=1) rfl hok2.ea.1 hok2.ea.2 rfl CS inferInstance rfl Cn Ca) rfl ?_;rintro _ _ ⟨p70,b70,o70,c70,s70,rfl,hs70,hc70,rfl⟩;refine J5 ?_
  obtain⟨w3,hw3⟩:∃w3,w3=w2.Lp (⟨ea,es⟩:Dq) ⟨p70,b70,o70,c70,s70⟩:=Bl
  have hok3:w3.ok:=by rw [hw3];exact hok2.Lp ⟨hs70,hc70⟩ hrl3
  have hn3:w3.n={w2.n with ends:=w2.n.ends++[kq 4 Da]}:=by rw [hw3,NM.da];show _=_;rw [show((⟨ea,es⟩:Dq)).es.map (·.o)=kq 4 Da by show es.map (·.o)=_;rw [x3,he4]]
  have hnl3:w3.cnt.length=i:=by rw [hw3];exact hnl2
  refine Hy (AB w3.ca.b w3.ca.o w3.cnt w3.ca.s*(A7 nb w3.x*(AB w3.xa.b w3.xa.o w3.cs w3.xa.s*(AB w3.ea.b w3.ea.o w3.rows w3.ea.s*(AB w3.ba.b w3.ba.o w3.AN w3.ba.s*(AU CX w3.cs*(AU CY w3.rows*(HP.AA b5 0 [iN (64+AP AJ 237),iN (16+AP AF 300)]*H)))))))) (hE:=⟨fun ww hw=>Sat.right (A:=HP.AA b69 0 (AG [(⟨ea,es⟩:Dq)])) (Eq.mp (by
   congr 1
   rw [show AB w3.ca.b w3.ca.o w3.cnt w3.ca.s*(A7 nb w3.x*(AB w3.xa.b w3.xa.o w3.cs w3.xa.s*(AB w3.ea.b w3.ea.o w3.rows w3.ea.s*(AB w3.ba.b w3.ba.o w3.AN w3.ba.s*(AU CX w3.cs*(AU CY w3.rows*(HP.AA b5 0 [iN (64+AP AJ 237),iN (16+AP AF 300)]*H)))))))=Ay nb w3*(HP.AA b5 0 [iN (64+AP AJ 237),iN (16+AP AF 300)]*H) by rw [En];ac_rfl]
   rw [hw3,oF]
   show _=HP.AA b69 0 (AG [(⟨ea,es⟩:Dq)])*(A7 nb {w2.x with ev:=.slice p70 (w2.rows++[(⟨ea,es⟩:Dq)]).length c70}*_)
   dsimp only
   ac_rfl) hw)⟩) ?_
  refine J5 ?_;refine JL (A9 ER hok3.cv) ?_;refine Am (HD (cs:=[uN 0]) rfl Cq rfl rfl) rfl ?_;rintro _ _ ⟨b78,rfl,rfl⟩;refine BQ (H':=AB w3.ca.b w3.ca.o w3.cnt w3.ca.s*(HP.AA b78 0 (AG [(⟨0⟩:Ec)])*(A7 nb w3.x*(AB w3.xa.b w3.xa.o w3.cs w3.xa.s*(AB w3.ea.b w3.ea.o w3.rows w3.ea.s*(AB w3.ba.b w3.ba.o w3.AN w3.ba.s*(AU CX w3.cs*(AU CY w3.rows*(HP.AA b5 0 [iN (64+AP AJ 237),iN (16+AP AF 300)]*H))))))))) (by show HP.AA b78 0 _*_=_;rw [show AG [(⟨0⟩:Ec)]=[uN 0]from rfl];ac_rfl) ?_;refine Am (DG (ys:=[(⟨0⟩:Ec)]) (bb:=b78) (oo:=0) (cc:=1) rfl hok3.ca.1 hok3.ca.2 rfl CS inferInstance rfl Cn Ca) rfl ?_;rintro _ _ ⟨p79,b79,o79,c79,s79,rfl,hs79,hc79,rfl⟩;refine J6 ?_
  obtain⟨w4,hw4⟩:∃w4,w4=w3.KM ⟨0⟩ ⟨p79,b79,o79,c79,s79⟩:=Bl
  have hok4:w4.ok:=by rw [hw4];exact hok3.KM ⟨hs79,hc79⟩
  have hn4:w4.n=FH (64+AP AJ 237) (16+AP AF 300) (i+1):=by
   rw [hw4,NM.N!,hn3,hn2];show AH.mk _ _ (FH (64+AP AJ 237) (16+AP AF 300) i).AJ (FH (64+AP AJ 237) (16+AP AF 300) i).AF (FH (64+AP AJ 237) (16+AP AF 300) i).ks (FH (64+AP AJ 237) (16+AP AF 300) i).AN _=_;rw [n1,n2,n3,n4];rfl
  refine J2 ?_;refine D7 ?_
  refine Bo (Ay nb w4*(HP.AA b5 0 [iN (64+AP AJ 237),iN (16+AP AF 300)]*H)) (hE:=⟨fun ww hw=>Sat.right (A:=HP.AA b78 0 (AG [(⟨0⟩:Ec)])) (Eq.mp (by
   congr 1
   rw [hw4,uW]
   show _=HP.AA b78 0 (AG [(⟨0⟩:Ec)])*(A7 nb {w3.x with cv:=.slice p79 (w3.cnt++[(⟨0⟩:Ec)]).length c79}*_)
   ac_rfl) hw)⟩) ?_
  exact Ba (w4,i+1) ⟨hok4,RI,hn4⟩ SA Dk rfl
 refine DV ?_
 have hi2:i=2:=by omega
 subst hi2;exact mR [4] (Ay nb w1*H) (hE:=⟨fun ww hw=>Sat.right (A:=HP.AA b5 0 [iN (64+AP AJ 237),iN (16+AP AF 300)]) (Eq.mp Co hw)⟩) rfl rfl ⟨nb,w1,rfl,q1,by rw [q3];exact pP AJ AF,rfl⟩
end
section
variable{B:World}
@[reducible] instance layStp:AC DB:=⟨5,B8,⟨0,0,0,0,⟨#[]⟩⟩,fun _=>rfl,fun _ v h=>by simp at h;rcases h with rfl|rfl|rfl|rfl|rfl<;>rfl⟩
def Rl:DB:=⟨1,0,3,0,⟨#[115,111,109,101,32,98,121,116,101,115,32,111,102,32,97,32,115,116,114,101,97,109]⟩⟩
def RD:DB:=⟨2,0,3,0,⟨#[]⟩⟩
def T9:AH:=(Bh 4 (((JI 0 100).step Rl).2.step RD).2).2
theorem lL:(T9.e 0 3).read=22∧(T9.e 0 3).state=1:=by decide+kernel
theorem KI{c:Int}(h:0≤c∧c<1000):IQ c:=⟨Ca,Ca⟩
theorem BE.step{t:Nat}{n:AH}(h:BE t n)(ht:t≤1000000000)(s:DB):BE (t+1) (n.step s).2:=by
 obtain⟨L,R,h⟩:=h;obtain⟨_,L',R',b⟩:=h.step ht s;exact⟨L',R',b⟩
theorem YS(AJ AF:Int):BE 0 (JI AJ AF):=by
 have h1:=Db AJ WM;have h2:=Db AF U3;exact⟨_,_,Ad.new Ca Ca Ca Ca⟩
theorem ad{α:Type}{l:List α}{i:Nat}{d:α}(h:i<l.length):l.getD i d∈l:=by
 rw [f_,kf h,Option.getD_some];exact kn h
set_option maxHeartbeats 4000000 in
theorem rX(l:List DB)(p:Option Addr)(b o c:Nat)(H:HP)(hs:Sl p b o l.length c)(hr:Ai B H b o l)(hl:l.length<2000000)(hsz:∀s∈l,s.s.size<90000000):
  Fn Tryz.prog B 12 [.slice p l.length c] H (fun v H'=>∃bb:Bool,v=.bool bb∧(bb=true→l.length≤8192)∧H'=H):=by
 refine mI Tryz.func12 ?_;refine QL ?_;refine E4 ?_;refine Bj (α:=Nat×Nat) (fun z=>[(4,iN z.2),(3,iN z.1),(0,.slice p l.length c)]) (fun _=>H) (fun z=>l.length≤z.1∧z.1<100000000) (fun z=>l.length-z.2) (l.length,0) ⟨b_ _,Ca⟩ Dk rfl ?_;rintro⟨m,i⟩ ⟨q1,q2⟩;dsimp only at q1 q2⊢;refine J6 ?_;refine JL (ES (i:=i) (j:=l.length) rfl rfl) ?_;refine J1 ?_;refine EV 11 rfl (fun hg1=>?_) (fun hg1=>?_)
 ·refine JG T1 ?_;refine J1 ?_;refine JG T1 ?_;refine JL Uw ?_;refine JL GM ?_;refine J2 ?_;refine mC (fun h14=>?_) (fun h14=>?_)
  ·have hsi:((l.getD i AC.AK).s).size<90000000:=hsz _ (ad hg1);refine J8 ?_;refine JL (DT (i:=i) rfl rfl hs Ca) ?_;refine J1 ?_;refine JL (FQ (f:=4) (xs:=l) (v:=.string ((l.getD i AC.AK).s)) rfl hr rfl hg1) ?_;refine J1 ?_;refine JL (Ff (i:=m) (j:=((l.getD i AC.AK).s).size) rfl rfl Ca) ?_;refine J6 ?_;refine JL OI ?_;refine J2 ?_;exact Ba (m+((l.getD i AC.AK).s).size,i+1) ⟨by show l.length≤_;omega,by show _<100000000;omega⟩ Xy Dk rfl
  refine J8 ?_;refine JL Uw ?_;refine J4 ?_;exact iC
 refine JH F1 ?_;refine JH F1 ?_;refine JL E9 ?_;refine I4 ?_;refine J8 ?_;refine JL Uw ?_;refine J4 ?_;exact iC
set_option maxHeartbeats 8000000 in
theorem oB(hG:B.cell? ⟨0,0,none⟩=some (DH 106))(H:HP):
  Fn Tryz.prog B 13 [] H (fun v H'=>v=.bool true∧H'=H):=by
 refine mI Tryz.func13 ?_;refine J7 ?_;refine mE rfl (gE hG 0 100 (KI Ca) (KI Ca) _) ?_;rintro _ _ ⟨nb,w,rfl,hok,hn,rfl⟩
 have hk0:BE 0 w.n:=by rw [hn];exact YS 0 100
 have hk1:=hk0.step Ca Rl;have hk2:=hk1.step Ca RD;obtain⟨L0,R0,hw0⟩:=hk0;refine J7 ?_;refine JL aW ?_;refine I4 ?_;refine J5 ?_;refine JL (A9 (v':=.agg (B8 Rl).toArray) GI rfl) ?_;refine mE rfl (Qc hG nb 0 Rl w L0 R0 _ hok hw0 ⟨KI Cc,KI Cc,KI Cc,Cc⟩ Ca) ?_;rintro _ _ ⟨rfl,w1,hok1,hn1,rfl⟩;rw [←hn1]at hk1 hk2;obtain⟨L1,R1,hw1⟩:=hk1;refine J6 ?_;refine JL (A9 (v':=.agg (B8 RD).toArray) GI rfl) ?_;refine mE rfl (Qc hG nb 1 RD w1 L1 R1 _ hok1 hw1 ⟨KI Cc,KI Cc,KI Cc,Cc⟩ Ca) ?_;rintro _ _ ⟨rfl,w2,hok2,hn2,rfl⟩;rw [←hn2]at hk2;refine J6 ?_;refine mE rfl (UQ hG nb 2 4 w2 _ hok2 hk2 Ca) ?_;rintro _ _ ⟨rfl,w3,hok3,hn3,rfl⟩
 have hwn:w3.n=T9:=by rw [hn3,hn2,hn1,hn];rfl
 obtain⟨_,hk3⟩:=BE.Bh 4 2 w2.n hk2 Ca;rw [←hn3]at hk3;obtain⟨L3,R3,hw3⟩:=hk3;obtain⟨C,r,E,hC,hr,hE,l1,l2,l3⟩:=hw3.mem (i:=0) (j:=0) (k:=3) Ca Ca Ca;obtain⟨e1,e2⟩:=lL;rw [←hwn,NM.IT hr hE]at e1 e2;refine J4 ?_;refine Au (H':=A7 nb w3.x*(AB w3.xa.b w3.xa.o w3.cs w3.xa.s*(AB w3.ea.b w3.ea.o w3.rows w3.ea.s*(AB w3.ba.b w3.ba.o w3.AN w3.ba.s*(AB w3.ca.b w3.ca.o w3.cnt w3.ca.s*(Ac C.cb C.c*(AB r.a.b r.a.o r.es r.a.s*(BX E.q E.o*(Do w3 0 0 3 r*H))))))))) (GC nb w3 _ hC hr hE) ?_;refine J4 ?_;refine JL (A9 ER hok3.ev) ?_;refine JL (DT (i:=0) rfl rfl hok3.ea.1 Ca) ?_;refine JL (FQ (f:=0) (xs:=w3.rows) (v:=.slice r.a.p r.es.length r.a.c) rfl inferInstance U1 Ca) ?_;refine JL (DT (i:=3) rfl rfl (hok3.ra r Tu).1 Ca) ?_;refine JL SW ?_;refine J7 ?_;refine Ns ?_;refine QK ?_;refine G8 ?_;refine Lf ?_;refine KU ?_
 refine JL (A9 (v':=.bool true) (CN (i:=E.o.read) (j:=22) rfl rfl) (by rw [e1];rfl)) ?_;refine G8 ?_;refine Lf ?_;refine KU ?_;refine JL (A9 (v':=.bool true) (CN (i:=E.o.state) (j:=1) rfl rfl) (by rw [e2];rfl)) ?_;refine G8 ?_;refine J4 ?_;exact mR [0] H (hE:=⟨fun ww hw=>Sat.right (A:=Ay nb w3) (Eq.mp (by congr 1;rw [GC nb w3 _ hC hr hE]) hw)⟩) rfl rfl BY
set_option maxHeartbeats 8000000 in
theorem qU(hG:B.cell? ⟨0,0,none⟩=some (DH 106))(l:List DB)(wo AJ AF:Int)(hmtu:IQ AJ)(hwin:IQ AF)(p:Option Addr)(b o c:Nat)(H:HP)(hs:Sl p b o l.length c)(hr:Ai B H b o l)(hl:l.length≤8192)(hst:∀s∈l,K1 s):
  Fn Tryz.prog B 14 [.slice p l.length c,.int .i64 wo,.int .i64 AJ,.int .i64 AF] H (fun v H'=>∃(nb:Nat) (w:NM),v=.tuple #[ptr nb 0,.bool true]∧w.ok∧BE l.length w.n∧AH.run wo l (JI AJ AF)=some w.n∧H'=Ay nb w*H):=by
 refine mI Tryz.func14 ?_;refine CL ?_;refine mE rfl (gE hG AJ AF hmtu hwin _) ?_;rintro _ _ ⟨nb,w,rfl,hok,hn,rfl⟩
 have hk0:BE 0 w.n:=by rw [hn];exact YS AJ AF
 refine J7 ?_;refine JL aW ?_;refine I4 ?_;refine J5 ?_;refine E4 ?_;refine Bj (α:=NM×Nat) (fun z=>[(11,iN z.2),(10,ptr nb 0),(0,.slice p l.length c),(1,.int .i64 wo)]) (fun z=>Ay nb z.1*H) (fun z=>z.1.ok∧z.2≤l.length∧BE z.2 z.1.n∧AH.run wo (l.drop z.2) z.1.n=AH.run wo l (JI AJ AF)) (fun z=>l.length-z.2) (w,0) ⟨hok,lh _,hk0,by rw [hn];rfl⟩ Hq rfl ?_;rintro⟨w1,i⟩ ⟨q1,q2,q3,q4⟩;dsimp only at q1 q2 q3 q4⊢;refine J6 ?_;refine JL (ES (i:=i) (j:=l.length) rfl rfl) ?_;refine J2 ?_;refine mC (fun hi=>?_) (fun hi=>?_)
 ·obtain⟨s,hsi⟩:=IX rfl hi;have hmem:s∈l:=j_ hsi;have Gb:=bN hsi;rw [Gb,AH.run]at q4;obtain⟨L0,R0,hw0⟩:=id q3;have hr':Ai B (Ay nb w1*H) b o l:=inferInstance;refine J9 ?_;refine JL (DT (i:=i) rfl rfl hs Ca) ?_;refine J1 ?_;refine JL (FQ (f:=0) (xs:=l) (v:=.int .i64 s.kind) rfl hr' (by rw [getD_some hsi];rfl) hi) ?_;refine J1 ?_;refine JL (DI (i:=s.kind) (j:=wo) rfl rfl) ?_;refine J2 ?_;refine mC (fun hk=>?_) (fun hk=>?_)
  ·rw [if_pos hk]at q4
   obtain⟨w9,hok9,hk9,h9,h99⟩:∃w9:NM,w9.ok∧BE (i+1) w9.n∧AH.run wo (l.drop (i+1)) w9.n=AH.run wo l (JI AJ AF)∧Ay nb w1*H=Ay nb w9*H:=⟨w1,q1,⟨L0,R0,hw0.up Ca⟩,q4,rfl⟩
   refine Au h99 ?_;refine J6 ?_;refine JL OI ?_;refine J2 ?_;exact XY
  rw [if_neg hk,if_pos (hw0.step Ca s).1]at q4;refine J7 ?_;refine JL NG ?_;refine JL (A9 (v':=.agg (B8 s).toArray) (It (xs:=l) rfl hr' hi) (by rw [getD_some hsi];rfl)) ?_;refine mE rfl (Qc hG nb i s w1 L0 R0 _ q1 hw0 (hst s hmem) Ca) ?_;rintro _ _ ⟨rfl,w9,hok9,hn9,rfl⟩
  have hk9:BE (i+1) w9.n:=by rw [hn9];exact q3.step Ca s
  have h9:AH.run wo (l.drop (i+1)) w9.n=AH.run wo l (JI AJ AF):=by rw [hn9];exact q4
  refine J6 ?_;refine RP ?_;refine JL OI ?_;refine J2 ?_;exact XY
 refine Fe ?_
 have hil:i=l.length:=by omega
 subst hil;rw [List.drop_length]at q4;exact mR [8,9] (Ay nb w1*H) rfl rfl ⟨nb,w1,rfl,q1,q3,q4.symm,rfl⟩
end
section
theorem PG{i:Int}(h:Lit.wf (.int .i64 i)):IQ i:=by
 have: -9223372036854775808≤i∧i≤9223372036854775807:=by simpa [Lit.wf,IntKind.min,IntKind.max,IntKind.bits,IntKind.signed]using h
 exact⟨this.1,Ca⟩
section
variable{H:Type}{At:TypeId×Value→H}
instance:Inhabited DB:=⟨AC.AK⟩
def dS(s:DB)(d:DataW H):Prop:=Rows.uptoBulk d≤1048576→K1 s
theorem gr{W:World}{n:Nat}{cs:List Value}{y:DataW H×List MemPlace}(h:DataW.trod At Tryz.prog W 0 (fun _=>true) true n 97 cs=some y):∃s:DB,cs=AC.At s∧dS s y.1:=by
 obtain⟨xs,k,rfl,rfl,hcl,hxl,hf⟩:=DataW.trod_struct Tryz.underlying97 h
 have c2:Tryz.prog.cellsOf 3=1:=by kernel_rfl
 have c4:Tryz.prog.cellsOf 9=1:=by kernel_rfl
 have ct:Tryz.prog.cellsOf 97=5:=by kernel_rfl
 rw [ct]at hcl
 match xs,hxl,cs,hcl with
 |[y0,y1,y2,y3,y4],_,[v0,v1,v2,v3,v4],_=>
  have g0:=hf 0 _ rfl;have g1:=hf 1 _ rfl;have g2:=hf 2 _ rfl;have g3:=hf 3 _ rfl;have g4:=hf 4 _ rfl;simp [c2,c4]at g0 g1 g2 g3 g4;obtain⟨i0,e0,z0,w0⟩:=DataW.trod_int Tryz.underlying3 g0;obtain⟨i1,e1,z1,w1⟩:=DataW.trod_int Tryz.underlying3 g1;obtain⟨i2,e2,z2,w2⟩:=DataW.trod_int Tryz.underlying3 g2;obtain⟨i3,e3,z3,w3⟩:=DataW.trod_int Tryz.underlying3 g3;obtain⟨s5,e5,z5,w5⟩:=DataW.trod_string Tryz.underlying9 g4;simp only [List.cons.injEq,and_true]at e0 e1 e2 e3 e5;refine⟨⟨i0,i1,i2,i3,s5⟩,?_,fun hb=>?_⟩
  ·rw [e0,e1,e2,e3,e5];rfl
  ·have hb':Rows.uptoBulk (DataW.agg [y0.1,y1.1,y2.1,y3.1,y4.1])≤1048576:=hb
   have h5:Rows.uptoBulk y4.1=s5.size+1:=by
    rw [z5];show Rows.uptoBulk (DataW.lit (H:=H) (.string s5.data.toList))=_;simp [Rows.uptoBulk]
   simp only [Rows.uptoBulk,Rows.uptoBulkAll]at hb';exact⟨PG w1,PG w2,PG w3,by show s5.size<_;omega⟩
theorem pC{W:World}{v:Value}{d:DataW H}{ps:List MemPlace}(h:DataW.Trod At Tryz.prog W 0 (fun _=>true) true 27 v d ps)(hv:∃p k c,v=.slice p k c)(hb:Rows.uptoBulk d≤1048576):
  ∃(p:Option Addr) (b o c:Nat) (l:List DB),v=.slice p l.length c∧Sl p b o l.length c∧(∀H',Ai W H' b o l)∧l.length≤1048576∧∀s∈l,K1 s:=by
 obtain⟨fuel,hf⟩:=h;obtain⟨p0,k0,c0,rfl⟩:=hv;obtain⟨p,b,o,c,len,X,e,hsl,hrd,hq⟩:=qJ (α:=DB) dS Tryz.underlying27 Cb (by show 0<5;decide) (fun n cs' y hy=>gr hy) hf
 have e':Value.slice p0 k0 c0=.slice p len c:=by simpa [Value.cells]using e
 have hl:((ku len).map X).length=len:=by rw [li,k_]
 refine⟨p,b,o,c,(ku len).map X,by rw [hl];exact e',by rw [hl];exact hsl,hrd,?_,fun s hs=>?_⟩
 ·rw [hl];rcases hq with⟨rfl,e⟩|⟨D,sp,e,hQ⟩
  ·omega
  ·have:=oG ((ku len).map D)
   rw [li,k_]at this;rw [show d=_ from e]at hb;simp only [Rows.uptoBulk]at hb;omega
 ·obtain⟨i,hi,rfl⟩:=ld.1 hs;have hi:=ll.1 hi;rcases hq with⟨rfl,_⟩|⟨D,sp,e,hQ⟩
  ·omega
  ·refine hQ i hi ?_;have h2:Rows.uptoBulk (D i)≤Rows.uptoBulkAll ((ku len).map D):=bW (ld.2 ⟨i,ll.2 hi,rfl⟩)
   have h3:Rows.uptoBulkAll ((ku len).map D)≤Rows.uptoBulk d:=by
    rw [show d=_ from e];simp only [Rows.uptoBulk];omega
   omega
end
end
theorem dt{a:Assume}{C:Checked}{os:Os}{f:FuncId}{r:Reach}{Pre:World→Array Value→Prop}{Post:World→Array Value→Value→World→Prop}
  (h:ReturnsInHanded a C os f r Pre Post)(enter:C.prog.mayEnter=true):ReturnsInOpen a none C os f r Input.okWide Pre Post (leavingAtReturn C.prog) nothingAlways:=by
 obtain⟨h1,h2,h3,h4,h5⟩:=h enter;refine⟨h1,h2,h3,h4,fun w tape i hf=>?_⟩;obtain⟨n,v,w',a1,a2,a3,a4,⟨j,last,b1,b2,b3⟩,a6⟩:=h5 w tape i hf;exact⟨n,v,w',a1,a2,a3,a4,⟨j,last,b1,b2,b3.2.1,onlyLeaving_of_quiet b3.1,b3.2.2⟩,a6⟩
theorem U! {p:Pinned}{s:OpenSpec}{c:OpenClaim}(f:FuncId)(fn:Func)
  (hn:c.program=p.name)(hs:c.sum=p.sum)(hsp:c.spec=s.name)
  (hstart:c.start=.entering)(hout:c.outside=[])(hin:c.inits=[])(hun:c.under=none)(hi4:c.initsInPlace=[]∧c.initsUnfollowed=false∧c.initsRecurse=false∧c.initsNamed=[]∧c.initsPassed=[])(hnb:c.noBlocks=false)(hlv:c.leaving=true)(hfo:c.followed=none)(hnar:c.narrowed=s.cond.isSome)(hstill:c.still=false)
  (hfn:p.checked.prog.funcNamed c.func=some f)(hf:p.checked.prog.funcs[f]?=some fn)
  (closed:joinedFacts p.checked.prog f fn s.bare c=true)
  (hinst:fn.isInstance p.checked.prog c.origin c.targs)(hwrap:fn.isWrapper p.checked.prog c.wrapper c.mainSum)
  (h:∀os:Os,os.Started→∀(H:Type) (At:TypeId×Value→H),(∀a b,At a=At b→a=b)→∀F:Stop.Interp,
   ReturnsInHanded c.assume p.checked os f .any (c.pre At p.checked.prog fn s) ((s.at F).post At p.checked.prog fn c.apart c.fresh c.handsOn c.again)):c.holds p s:=by
 simp only [joinedFacts,ko,beq_iff_eq,Array.all_eq_true_iff_forall_mem,List.all_eq_true,decide_eq_true_eq]at closed;obtain⟨⟨⟨⟨⟨⟨⟨⟨⟨⟨⟨⟨⟨⟨⟨⟨⟨⟨⟨⟨⟨⟨⟨⟨⟨⟨⟨⟨⟨⟨⟨k1,k2⟩,k3⟩,k4⟩,k5⟩,k6⟩,k7⟩,k8⟩,k9⟩,k10⟩,k11⟩,k12⟩,k13⟩,k14⟩,k15⟩,k16⟩,k17⟩,k17b⟩,k18⟩,k19⟩,k20⟩,k21⟩,k22⟩,k23⟩,k23b⟩,k24⟩,k24b⟩,k24c⟩,k25⟩,k26⟩,k27⟩,k28⟩:=closed
 have hq:∀os:Os,Stop.quiet p.checked.prog os:=fun os k hk=>by rw [k9]at hk;cases hk
 refine⟨k1,hn,hs,hsp,k2,k3,by unfold OpenClaim.startFits;rw [hstart];exact k24,by unfold OpenClaim.startTold;rw [hstart];exact⟨hin,hun,hi4⟩,f,fn,hfn,hf,⟨k4,k19⟩,(fun hb=>by rw [hnb]at hb;cases hb),by unfold OpenClaim.namedList;rw [hfo];exact k5,hinst,hwrap,
  k6.trans k7.symm,⟨k8.trans k9.symm,by unfold Program.envWorded;rw [k9];rfl,k23b⟩,k10,k11,k12,k13,k14,⟨k15,k27,k28⟩,⟨k16,k20⟩,⟨k17,k21,k25,k26⟩,⟨k22,k24b,k24c,k17b⟩,(by rw [hout,hnar];cases hsh:c.shortTexts with|none=>simp|some _=>rw [hsh]at k23;cases k23),fun n hn'=>varReadable_some (k18 n hn'),
  ⟨_,by unfold OpenClaim.world;rw [hout,hstart];exact WideRow.started_initial,hq _⟩,[],by unfold OpenClaim.lists;rw [hfo],fun os st _ H At inj=>?_⟩
 have st':os.Started:=by unfold OpenClaim.world at st;rw [hout,hstart]at st;exact st
 rw [OpenClaim.post_not_still hstill];unfold OpenClaim.form;rw [hstart,k6];intro F
 have e1:c.okInput=Input.okWide:=by unfold OpenClaim.okInput;rw [hnb]
 have e2:c.atReturn p.checked.prog=leavingAtReturn p.checked.prog:=by unfold OpenClaim.atReturn;rw [hlv]
 have e3:c.always p.checked.prog []=nothingAlways:=by unfold OpenClaim.always;rw [hfo]
 have e4:s.post At p.checked.prog fn F c.outside c.apart c.fresh c.handsOn c.again=(s.at F).post At p.checked.prog fn c.apart c.fresh c.handsOn c.again:=by rw [hout];rfl
 rw [e1,e2,e3];show ReturnsInOpen _ _ _ _ _ _ _ _ (s.post At p.checked.prog fn F c.outside c.apart c.fresh c.handsOn c.again) _ _;rw [e4];exact dt (h os st' H At inj F) k24
theorem B! (Lk:Looks){p:Pinned}{s:OpenSpec}{c:OpenClaim}(kinds:List LaidKind)(tests:Bool)(har:Bool×String)(lk:Bool)
  (hc:c.holds p s)(hw:c.wfByText s=true)(htie:c.laidByTextAt Lk p kinds tests)
  (hst:c.start=.entering)(hnb:c.noBlocks=false∧c.again=false)(hm:p.checked.prog.mainIs=some (har.1,har.2.toList))(hn:(!har.1&&har.2.isEmpty&& !lk)=false)
  (hl:∀f fn,p.checked.prog.funcNamed c.func=some f→p.checked.prog.funcs[f]?=some fn→lk=p.checked.prog.looks []∧∀(j:Nat) t,fn.params[j]?=some t→p.checked.prog.wantsStandIn t=false)
  (hg:true=c.goesBy p.checked.prog):
  Claim7.holds p (.plain s) {stood:={row:=c,standIns:=[],harness:=har,looks:=lk},kinds:=[],alts:=[],goes:=true,laidByText:=true,laidKinds:=kinds,laidTests:=tests,laidLooks:=Lk}:=by
 have h6:∀r:OpenClaim,Claim7.isSixth {stood:={row:=r,standIns:=[],harness:=har,looks:=lk},kinds:=[]}=false:=fun r=>by simpa [Claim7.isSixth]using hn
 exact⟨Claim7.tied_new_at Lk kinds tests (Claim7.new_of_sixth hc har lk hst hnb hm (h6 c) hl) hw,(fun D hD=>by cases hD),htie,(fun h=>by cases h),hg⟩
theorem rV:laidOutB Tryz.pinned.checked.prog=true:=lF
theorem lM:mapsRowed Tryz.pinned.checked.prog=true:=by kernel_rfl
theorem fw:Tryz.pinned.checked.prog.plainKeys=Rows.streamedUptoRow.plainKeys:=by kernel_rfl
theorem tV:Tryz.pinned.checked.prog.stopsHeard=true:=by kernel_rfl
theorem eb:Tryz.pinned.checked.prog.mayEnter=true:=by kernel_rfl
theorem ft:Tryz.pinned.checked.prog.liftsFinal=Rows.streamedUptoRow.lifted:=by kernel_rfl
section
def I5(fs:List AM)(k:Nat):Prop:=∃f∈fs,f.kind=4∧f.stream.toNat=k
def He(fs:List AM)(k:Nat):Prop:=∃f∈fs,f.kind=5∧f.fin=true∧f.stream.toNat=k
theorem qH{lo hi n:Nat}{s:BD}{r:AT}(h:Ao n (Dg lo hi s r).l):Ao n s.l∨(r.lo≤n∧n≤r.hi∧¬(lo≤n∧n<hi)):=by
 unfold Dg at h;dsimp only at h
 have h1:Ao n (if r.lo<lo then s.add r.lo (min r.hi (lo-1))else s).l→Ao n s.l∨(r.lo≤n∧n≤r.hi∧¬(lo≤n∧n<hi)):=fun h=>by
  split at h
  ·rcases BD.OQ h with g|g
   ·exact .inl g
   ·exact Kl
  ·exact .inl h
 split at h
 ·rcases BD.OQ h with g|g
  ·exact h1 g
  ·exact Kl
 ·exact h1 h
theorem cX{lo hi n:Nat}:∀(l:List AT) (s:BD),Ao n (l.foldl (Dg lo hi) s).l→Ao n s.l∨(Ao n l∧¬(lo≤n∧n<hi))
 |[],s,h=>.inl h
 |r::l,s,h=>by
  rw [h_]at h;rcases cX l _ h with g|⟨⟨q,hq,a⟩,b⟩
  ·rcases qH g with g|⟨a,b,c⟩
   ·exact .inl g
   ·exact .inr ⟨⟨r,Ce,a,b⟩,c⟩
  ·exact .inr ⟨⟨q,Ji,a⟩,b⟩
theorem aG{n:Nat}:∀(l:List AT) (s:BD),Ao n (l.foldl (fun s r=>s.add r.lo r.hi) s).l→Ao n s.l∨Ao n l
 |[],s,h=>.inl h
 |r::l,s,h=>by
  rw [h_]at h;rcases aG l _ h with g|⟨q,hq,a⟩
  ·rcases BD.OQ g with g|g
   ·exact .inl g
   ·exact .inr ⟨r,Ce,g⟩
  ·exact .inr ⟨q,Ji,a⟩
theorem fW{n:Nat}{l:List AT}(h:Ao n l.reverse):Ao n l:=by
 obtain⟨r,hr,a⟩:=h;exact⟨r,Nh,a⟩
structure GA(w w':AR)(cv:Nat→Prop)(fi rs:Prop):Prop where
 AO:∀n,Ao n w'.AO.l→Ao n w.AE.l∨(Ao n w.AO.l∧¬cv n)
 ending:w'.ending=true→w.ending=true∧¬fi
 BG:w'.BG=true→w.BG=true∧¬rs
 ended:w'.ended=w.ended
 AE:w'.AE=w.AE
theorem GA.refl(w:AR):GA w w (fun _=>False) False False:=⟨fun _ h=>.inr ⟨h,id⟩,fun h=>⟨h,id⟩,fun h=>⟨h,id⟩,rfl,rfl⟩
theorem GA.trans{a b c:AR}{cv cv':Nat→Prop}{fi fi' rs rs':Prop}(h:GA a b cv fi rs)(g:GA b c cv' fi' rs'):GA a c (fun n=>cv n∨cv' n) (fi∨fi') (rs∨rs'):=by
 refine⟨fun n hn=>?_,fun e=>?_,fun e=>?_,g.ended.trans h.ended,g.AE.trans h.AE⟩
 ·rcases g.AO n hn with x|⟨x,y⟩
  ·rw [h.AE]at x;exact .inl x
  ·rcases h.AO n x with z|⟨z,u⟩
   ·exact .inl z
   ·exact .inr ⟨z,fun q=>q.elim u y⟩
 ·obtain⟨x,y⟩:=g.ending e;obtain⟨z,u⟩:=h.ending x;exact⟨z,fun q=>q.elim u y⟩
 ·obtain⟨x,y⟩:=g.BG e;obtain⟨z,u⟩:=h.BG x;exact⟨z,fun q=>q.elim u y⟩
theorem GA.M'{a b:AR}{cv cv':Nat→Prop}{fi fi' rs rs':Prop}(h:GA a b cv fi rs)(h1:∀n,cv' n→cv n)(h2:fi'→fi)(h3:rs'→rs):GA a b cv' fi' rs':=
 ⟨fun n hn=>(h.AO n hn).imp id (fun x=>⟨x.1,fun y=>x.2 (h1 n y)⟩),fun e=>⟨(h.ending e).1,fun y=>(h.ending e).2 (h2 y)⟩,fun e=>⟨(h.BG e).1,fun y=>(h.BG e).2 (h3 y)⟩,h.ended,h.AE⟩
theorem xC(w:AR)(f:AM):GA w (w.again f) (fun n=>f.kind=5∧f.offset≤n∧n<f.offset+f.data.size) (f.kind=5∧f.fin=true) (f.kind=4):=by
 unfold AR.again;split
 ·rename_i h5;refine⟨fun n hn=>?_,fun e=>?_,fun e=>⟨e,fun x=>by omega⟩,rfl,rfl⟩
  ·rcases aG _ _ hn with g|g
   ·rcases cX _ _ g with g|⟨g,g2⟩
    ·exact absurd g (L7 n)
    ·exact .inr ⟨fW g,fun x=>g2 x.2⟩
   ·exact .inl (fW g)
  ·have e:(w.ending&& !f.fin)=true:=e;rw [ko]at e;refine⟨e.1,fun x=>?_⟩;rw [x.2]at e;exact absurd e.2 Cc
 split
 ·rename_i h5 h4;exact⟨fun n hn=>.inr ⟨hn,fun x=>h5 x.1⟩,fun e=>⟨e,fun x=>h5 x.1⟩,fun e=>absurd (show false=true from e) Cc,rfl,rfl⟩
 ·rename_i h5 h4;exact⟨fun n hn=>.inr ⟨hn,fun x=>h5 x.1⟩,fun e=>⟨e,fun x=>h5 x.1⟩,fun e=>⟨e,h4⟩,rfl,rfl⟩
theorem qV(ws:List AR)(hl:ws.length=4)(f:AM)(hf:f.stream.toNat<4)(k:Nat):GA (ws.getD k Ab) ((FZ ws f).getD k Ab) (fun n=>f.kind=5∧0<f.data.size∧f.stream.toNat=k∧f.offset≤n∧n<f.offset+f.data.size) (f.kind=5∧f.fin=true∧f.stream.toNat=k) (f.kind=4∧f.stream.toNat=k):=by
 unfold FZ;rw [Bs];by_cases e:f.stream.toNat=k
 ·rw [if_pos ⟨e,Ca⟩,←e];exact(xC _ f).M' (fun n x=>⟨x.1,x.2.2.2⟩) (fun x=>⟨x.1,x.2.1⟩) (fun x=>x.1)
 ·rw [if_neg (fun x=>e x.1)];exact(GA.refl _).M' (fun n x=>e x.2.2.1) (fun x=>e x.2.2) (fun x=>e x.2)
theorem gy(ws:List AR)(f:AM):(FZ ws f).length=ws.length:=List.length_set
theorem aK:∀(fs:List AM) (ws:List AR),ws.length=4→(∀f∈fs,f.stream.toNat<4)→(fs.foldl FZ ws).length=4∧∀k,GA (ws.getD k Ab) ((fs.foldl FZ ws).getD k Ab) (E8 fs k) (He fs k) (I5 fs k)
 |[],ws,hl,_=>⟨hl,fun k=>(GA.refl _).M' (fun n x=>Za k n x) (fun⟨f,x,_⟩=>nomatch x) (fun⟨f,x,_⟩=>nomatch x)⟩
 |f::fs,ws,hl,hf=>by
  rw [h_];obtain⟨a,b⟩:=aK fs (FZ ws f) ((gy ws f).trans hl) (fun g hg=>hf g Ci);refine⟨a,fun k=>((qV ws hl f (hf f Ce) k).trans (b k)).M' (fun n x=>(Pn f fs k n).1 x) ?_ ?_⟩
  ·rintro⟨g,hg,x⟩;rcases d_.1 hg with e|e
   ·rw [e]at x;exact .inl x
   ·exact .inr ⟨g,e,x⟩
  ·rintro⟨g,hg,x⟩;rcases d_.1 hg with e|e
   ·rw [e]at x;exact .inl x
   ·exact .inr ⟨g,e,x⟩
theorem eG:∀(ps:List DR) (ws:List AR),ws.length=4→(∀p∈ps,∀f∈p.Ag,f.stream.toNat<4)→∀k,GA (ws.getD k Ab) ((ps.foldl IW ws).getD k Ab) (fun n=>∃p∈ps,E8 p.Ag k n) (∃p∈ps,He p.Ag k) (∃p∈ps,I5 p.Ag k)
 |[],ws,hl,_,k=>(GA.refl _).M' (fun n ⟨p,x,_⟩=>nomatch x) (fun⟨f,x,_⟩=>nomatch x) (fun⟨f,x,_⟩=>nomatch x)
 |p::ps,ws,hl,hf,k=>by
  rw [h_];obtain⟨a,b⟩:=aK p.Ag ws hl (hf p Ce);refine((b k).trans (eG ps (IW ws p) a (fun q hq=>hf q Ji) k)).M' ?_ ?_ ?_
  ·rintro n ⟨q,hq,x⟩;rcases d_.1 hq with e|e
   ·rw [e]at x;exact .inl x
   ·exact QR
  ·rintro⟨q,hq,x⟩;rcases d_.1 hq with e|e
   ·rw [e]at x;exact .inl x
   ·exact QR
  ·rintro⟨q,hq,x⟩;rcases d_.1 hq with e|e
   ·rw [e]at x;exact .inl x
   ·exact QR
structure Fd(w w':AR)(cv:Nat→Prop)(fi:Prop):Prop where
 AO:∀n,Ao n w'.AO.l→Ao n w.AO.l∨cv n
 sub:∀n,Ao n w.AO.l→Ao n w'.AO.l
 ending:w'.ending=w.ending
 BG:w'.BG=w.BG
 ended:w'.ended=true↔w.ended=true∨fi
theorem Fd.refl(w:AR):Fd w w (fun _=>False) False:=⟨fun _ h=>.inl h,fun _ h=>h,rfl,rfl,⟨.inl,fun x=>x.elim id False.elim⟩⟩
theorem Fd.trans{a b c:AR}{cv cv':Nat→Prop}{fi fi':Prop}(h:Fd a b cv fi)(g:Fd b c cv' fi'):Fd a c (fun n=>cv n∨cv' n) (fi∨fi'):=by
 refine⟨fun n hn=>?_,fun n hn=>g.sub n (h.sub n hn),g.ending.trans h.ending,g.BG.trans h.BG,?_⟩
 ·rcases g.AO n hn with x|x
  ·rcases h.AO n x with y|y
   ·exact .inl y
   ·exact .inr (.inl y)
  ·exact .inr (.inr x)
 ·rw [g.ended,h.ended,or_assoc]
theorem Fd.iff{a b:AR}{cv cv':Nat→Prop}{fi fi':Prop}(h:Fd a b cv fi)(h1:∀n,cv n→cv' n)(h2:fi↔fi'):Fd a b cv' fi':=
 ⟨fun n hn=>(h.AO n hn).imp id (h1 n),h.sub,h.ending,h.BG,h.ended.trans (or_congr Iff.rfl h2)⟩
theorem oI{AF:Nat}{w:AR}(hw:CJ AF w)(inn:Bool)(f:AM)(hf:f.kind=5→f.offset+f.data.size≤w.b.length):Fd w (w.named inn f) (fun n=>inn=true∧f.kind=5∧0<f.data.size∧f.offset≤n∧n<f.offset+f.data.size) (inn=true∧f.kind=5∧f.fin=true):=by
 have he:∀w1:AR,((w1.ended||(inn&&decide (f.kind=5)&&f.fin))=true↔w1.ended=true∨(inn=true∧f.kind=5∧f.fin=true)):=fun w1=>by
  simp [and_assoc]
 unfold AR.named;by_cases hc:inn=true∧f.kind=5∧f.data.size≠0
 ·simp only [hc,ne_eq,not_false_eq_true,and_self,if_true];have hb:=hf hc.2.1
  have hpos:0<f.data.size:=by omega
  obtain⟨_,_,_,_,e⟩:=IR (lo:=f.offset) (hi:=f.offset+f.data.size-1) hw.so hw.sf hw.sm hw.len Ca;refine⟨fun n hn=>?_,fun n hn=>(e n).2 (.inr hn),rfl,rfl,?_⟩
  ·rcases(e n).1 hn with g|g
   ·exact aV
   ·exact .inl g
  ·have:=he w
   rw [hc.1]at this;simp only [hc.2.1,true_and,decide_true,Bool.true_and]at this⊢;exact this
 ·rw [if_neg hc];exact⟨fun n hn=>.inl hn,fun n hn=>hn,rfl,rfl,he w⟩
theorem kO{AF:Nat}{inn:Bool}:∀(fs:List AM) (ws:List AR),Dd AF ws→(∀f∈fs,EC ws f)→∀k,Fd (ws.getD k Ab) ((fs.foldl (FR inn) ws).getD k Ab) (fun n=>inn=true∧E8 fs k n) (inn=true∧He fs k)
 |[],ws,h,_,k=>(Fd.refl _).iff (fun n x=>x.elim) ⟨False.elim,fun⟨_,f,x,_⟩=>nomatch x⟩
 |f::fs,ws,h,hf,k=>by
  rw [h_];have hf1:=hf f Ce
  have hk4:f.stream.toNat<4:=by have:=hf1.1;have:=hf1.2.1;omega
  have h1:=(h.ok f.stream.toNat hk4).named inn f hf1.2.2;have h2:Dd AF (FR inn ws f):=h.set h1.1;have h3:Fr ws (FR inn ws f):=.set h1.2.1
  have g:Fd (ws.getD k Ab) ((FR inn ws f).getD k Ab) (fun n=>inn=true∧f.kind=5∧0<f.data.size∧f.stream.toNat=k∧f.offset≤n∧n<f.offset+f.data.size) (inn=true∧f.kind=5∧f.fin=true∧f.stream.toNat=k):=by
   unfold FR;rw [Bs];by_cases e:f.stream.toNat=k
   ·rw [if_pos ⟨e,by rw [h.len];omega⟩,←e];exact(oI (h.ok _ hk4) inn f hf1.2.2).iff (fun n x=>⟨x.1,x.2.1,x.2.2.1,rfl,x.2.2.2⟩) ⟨fun x=>⟨x.1,x.2.1,x.2.2,rfl⟩,fun x=>⟨x.1,x.2.1,x.2.2.1⟩⟩
   ·rw [if_neg (fun x=>e x.1)];exact(Fd.refl _).iff (fun n x=>x.elim) ⟨False.elim,fun x=>e x.2.2.2⟩
  refine(g.trans (kO fs (FR inn ws f) h2 (fun g hg=>(hf g Ci).same h3) k)).iff (fun n x=>?_) ?_
  ·rcases x with x|x
   ·exact⟨x.1,(Pn f fs k n).2 (.inl x.2)⟩
   ·exact⟨x.1,(Pn f fs k n).2 (.inr x.2)⟩
  ·constructor
   ·rintro(x|⟨x,g,hg,y⟩)
    ·exact⟨x.1,f,Ce,x.2⟩
    ·exact⟨x,g,Ci,y⟩
   ·rintro⟨x,g,hg,y⟩;rcases d_.1 hg with e|e
    ·rw [e]at y;exact .inl ⟨x,y⟩
    ·exact .inr ⟨x,g,e,y⟩
theorem N7{AF:Nat}{l:List AT}:∀(ps:List DR) (ws:List AR),Dd AF ws→(∀p∈ps,∀f∈p.Ag,EC ws f)→
  ∀k,Fd (ws.getD k Ab) ((ps.foldl (Hv l) ws).getD k Ab) (fun n=>∃p∈ps,A6 l p.number=true∧E8 p.Ag k n) (∃p∈ps,A6 l p.number=true∧He p.Ag k)
 |[],ws,h,_,k=>(Fd.refl _).iff (fun n x=>x.elim) ⟨False.elim,fun⟨p,x,_⟩=>nomatch x⟩
 |p::ps,ws,h,hf,k=>by
  rw [h_];obtain⟨a,b,_⟩:=Ql (inn:=A6 l p.number) p.Ag ws h (hf p Ce);refine((kO p.Ag ws h (hf p Ce) k).trans (N7 ps (Hv l ws p) a (fun q hq f hfq=>(hf q Ji f hfq).same b) k)).iff (fun n x=>?_) ?_
  ·rcases x with x|⟨q,hq,x⟩
   ·exact⟨p,Ce,x⟩
   ·exact⟨q,Ji,x⟩
  ·constructor
   ·rintro(x|⟨q,hq,x⟩)
    ·exact⟨p,Ce,x⟩
    ·exact⟨q,Ji,x⟩
   ·rintro⟨q,hq,x⟩;rcases d_.1 hq with e|e
    ·rw [e]at x;exact .inl x
    ·exact QR
structure Eo(ws:List AR)(fl:List (List AM))(d:AD):Prop where
 AO:∀k n,k<4→Ao n (ws.getD k Ab).AO.l→Ao n (ws.getD k Ab).AE.l∨∃fs∈fl,E8 fs k n
 ending:∀k,k<4→(ws.getD k Ab).ending=true→(ws.getD k Ab).ended=true∨∃fs∈fl,He fs k
 BG:∀k,k<4→(ws.getD k Ab).BG=true→(d.r k).given=true∨∃fs∈fl,I5 fs k
 Fz:∀k n,k<4→Ao n (ws.getD k Ab).AE.l→(d.r k).given=true∨Ao n (d.r k).AE.l
 ended:∀k,k<4→(ws.getD k Ab).ended=true→(d.r k).given=true∨(d.r k).ended=true
def Hj(c:AD):List (List AM):=c.Aa.map (·.Ag)
def Out(c d:AD):Prop:=Eo c.ws (Hj c) d
theorem OA{c:AD}{fs:List AM}:fs∈Hj c↔∃p∈c.Aa,p.Ag=fs:=by unfold Hj;rw [ld]
theorem Eo.reads{ws:List AR}{fl:List (List AM)}{d d':AD}(h:Eo ws fl d)(g:∀k,EZ (d.r k) (d'.r k)):Eo ws fl d':=
 ⟨h.AO,h.ending,fun k hk e=>(h.BG k hk e).imp (g k).given id,fun k n hk e=>(h.Fz k n hk e).imp (g k).given ((g k).AE n),fun k hk e=>(h.ended k hk e).imp (g k).given (g k).ended⟩
structure Qm(w w':AR):Prop where
 AO:w'.AO=w.AO
 AE:w'.AE=w.AE
 ending:w'.ending=w.ending
 ended:w'.ended=w.ended
 BG:w'.BG=w.BG
theorem Qm.refl(w:AR):Qm w w:=Gz
theorem Eo.same{ws ws':List AR}{fl:List (List AM)}{d:AD}(h:Eo ws fl d)(g:∀k,Qm (ws.getD k Ab) (ws'.getD k Ab)):Eo ws' fl d:=
 ⟨fun k n hk e=>by rw [(g k).AO]at e;rw [(g k).AE];exact h.AO k n hk e,fun k hk e=>by rw [(g k).ending]at e;rw [(g k).ended];exact h.ending k hk e,fun k hk e=>by rw [(g k).BG]at e;exact h.BG k hk e,
  fun k n hk e=>by rw [(g k).AE]at e;exact h.Fz k n hk e,fun k hk e=>by rw [(g k).ended]at e;exact h.ended k hk e⟩
theorem Out.Bm{c d:AD}(h:Out c d)(k:Nat){w:AR}(g:Qm (c.w k) w):Out (c.Bm k w) d:=
 Eo.same (ws':=c.ws.set k w) h fun j=>by
  rw [Bs];split
  ·rename_i e;rw [←e.1];exact g
  ·exact .refl _
theorem Out.Eg{t:Nat}{c d:AD}(h:Out c d)(hc:AY t c)(lost:DR→Bool):Out (c.Eg lost) d:=by
 have hf:∀p∈c.Aa.filter lost,∀f∈p.Ag,f.stream.toNat<4:=fun p hp f hf=>by
  have:=(hc.An p Og).fr f hf
  have h1:=this.1;have h2:=this.2.1;omega
 have g:=eG (c.Aa.filter lost) c.ws hc.ws.len hf
 have hsplit:∀(P:List AM→Prop),(∃fs∈Hj c,P fs)→¬(∃p∈c.Aa.filter lost,P p.Ag)→∃fs∈Hj (c.Eg lost),P fs:=by
  rintro P ⟨fs,hfs,x⟩ hn;obtain⟨p,hp,rfl⟩:=OA.1 hfs;refine⟨p.Ag,OA.2 ⟨p,?_,rfl⟩,x⟩;show p∈c.Aa.filter (fun p=> !lost p);refine ki.2 ⟨hp,?_⟩
  cases e:lost p with
  |false=>rfl
  |true=>exact absurd ⟨p,ki.2 ⟨hp,e⟩,x⟩ hn
 refine⟨fun k n hk e=>?_,fun k hk e=>?_,fun k hk e=>?_,fun k n hk e=>?_,fun k hk e=>?_⟩
 ·show Ao n (((c.Aa.filter lost).foldl IW c.ws).getD k Ab).AE.l∨_;rw [(g k).AE];rcases(g k).AO n e with x|⟨x,y⟩
  ·exact .inl x
  ·rcases h.AO k n hk x with z|z
   ·exact .inl z
   ·exact .inr (hsplit (fun fs=>E8 fs k n) z y)
 ·show(((c.Aa.filter lost).foldl IW c.ws).getD k Ab).ended=true∨_;rw [(g k).ended];obtain⟨x,y⟩:=(g k).ending e;rcases h.ending k hk x with z|z
  ·exact .inl z
  ·exact .inr (hsplit (fun fs=>He fs k) z y)
 ·obtain⟨x,y⟩:=(g k).BG e;rcases h.BG k hk x with z|z
  ·exact .inl z
  ·exact .inr (hsplit (fun fs=>I5 fs k) z y)
 ·rw [show((c.Eg lost).ws.getD k Ab).AE=_ from(g k).AE]at e;exact h.Fz k n hk e
 ·rw [show((c.Eg lost).ws.getD k Ab).ended=_ from(g k).ended]at e;exact h.ended k hk e
section
variable{c d:AD}{L L':List (List AM)}{R R':Nat→Prop}{t u:Nat}
theorem Out.CE(h:Out c d)(h2:BC c d L L' R R')(hc:AY t c){l:List AT}(hl:(rg l 0).hi<c.next)(hR:∀r∈l,∀n,r.lo≤n→n≤r.hi→R n):Out (c.CE l) d:=by
 obtain⟨a,b,e⟩:=hc.CE l hl;have o1:=LI (l:=l) c.lost c.ws hc.ws (fun p hp f hf=>(hc.An p LX).fr f hf)
 have g:∀k,Fd (c.w k) ((c.CE l).w k) (fun n=>∃p,(p∈c.lost∨p∈c.Aa)∧A6 l p.number=true∧E8 p.Ag k n) (∃p,(p∈c.lost∨p∈c.Aa)∧A6 l p.number=true∧He p.Ag k):=fun k=>by
  refine((N7 (l:=l) c.lost c.ws hc.ws (fun p hp f hf=>(hc.An p LX).fr f hf) k).trans (N7 (l:=l) c.Aa _ o1.1 (fun p hp f hf=>((hc.An p Ii).fr f hf).same o1.2.1) k)).iff (fun n x=>?_) ?_
  ·rcases x with⟨p,hp,x⟩|⟨p,hp,x⟩
   ·exact⟨p,.inl hp,x⟩
   ·exact⟨p,.inr hp,x⟩
  ·constructor
   ·rintro(⟨p,hp,x⟩|⟨p,hp,x⟩)
    ·exact⟨p,.inl hp,x⟩
    ·exact⟨p,.inr hp,x⟩
   ·rintro⟨p,hp|hp,x⟩
    ·exact .inl ⟨p,hp,x⟩
    ·exact .inr ⟨p,hp,x⟩
 have had:∀p,(p∈c.lost∨p∈c.Aa)→A6 l p.number=true→∀f∈p.Ag,LW (d.r f.stream.toNat) f:=fun p hp hin=>by
  obtain⟨r,hr,h8,h9⟩:=XO hin;exact h2.p.full p.number p.Ag (hR r hr _ h8 h9) (h2.s.An p hp.symm)
 have hkeep:∀(P:List AM→Prop),(∃fs∈Hj c,P fs)→(∃p,(p∈c.lost∨p∈c.Aa)∧A6 l p.number=true∧P p.Ag)∨∃fs∈Hj (c.CE l),P fs:=by
  rintro P ⟨fs,hfs,x⟩;obtain⟨p,hp,rfl⟩:=OA.1 hfs
  cases e2:A6 l p.number with
  |true=>exact .inl ⟨p,.inr hp,e2,x⟩
  |false=>
   refine .inr ⟨p.Ag,OA.2 ⟨p,?_,rfl⟩,x⟩;show p∈c.Aa.filter (fun p=> !A6 l p.number);exact ki.2 ⟨hp,by rw [e2];rfl⟩
 refine⟨fun k n hk e1=>?_,fun k hk e1=>?_,fun k hk e1=>?_,fun k n hk e1=>?_,fun k hk e1=>?_⟩
 ·show Ao n ((c.CE l).w k).AE.l∨_;rw [e k n];rcases(g k).AO n e1 with x|x
  ·rcases h.AO k n hk x with y|y
   ·exact .inl (.inl y)
   ·rcases hkeep (fun fs=>E8 fs k n) y with z|z
    ·exact .inl (.inr z)
    ·exact .inr z
  ·exact .inl (.inr x)
 ·show((c.CE l).w k).ended=true∨_;rw [(g k).ended];have e1:((c.CE l).w k).ending=true:=e1;rw [(g k).ending]at e1;rcases h.ending k hk e1 with y|y
  ·exact .inl (.inl y)
  ·rcases hkeep (fun fs=>He fs k) y with z|z
   ·exact .inl (.inr z)
   ·exact .inr z
 ·have e1:((c.CE l).w k).BG=true:=e1;rw [(g k).BG]at e1;rcases h.BG k hk e1 with y|y
  ·exact .inl y
  ·rcases hkeep (fun fs=>I5 fs k) y with⟨p,hp,hin,f,hf,x1,x2⟩|z
   ·have:=(had p hp hin f hf).2 x1
    rw [x2]at this;exact .inl this
   ·exact .inr z
 ·rcases(e k n).1 e1 with x|⟨p,hp,hin,f,hf,x1,x2,x3,x4,x5⟩
  ·exact h.Fz k n hk x
  ·have:=(had p hp hin f hf).1 x1
   rw [x3]at this;exact this.imp id (fun y=>y.1 n x4 x5)
 ·rcases(g k).ended.1 e1 with x|⟨p,hp,hin,f,hf,x1,x2,x3⟩
  ·exact h.ended k hk x
  ·have:=(had p hp hin f hf).1 x1
   rw [x3]at this;exact this.imp id (fun y=>y.2 x2)
theorem Out.BM(h:Out c d)(h2:BC c d L L' R R')(hc:AY t c){l:List AT}(hl:F8 l)(hR:∀r∈l,∀n,r.lo≤n→n≤r.hi→R n):Out (c.BM l).2 d:=by
 unfold AD.BM;split
 ·exact h
 ·rename_i h0;exact(h.CE h2 hc Ca hR).Eg (hc.CE l Ca).1 _
theorem Out.take(h:Out c d)(h':Out d c)(h2:BC c d L L' R R')(hc:AY t c)(hd:AY u d){f:AM}(hp:Eu d.ws f)(hs:Fv R d.ws f)(hb:¬c.busy f):Out (c.take f).2 d∧Out d (c.take f).2:=by
 refine⟨?_,h'.reads (h2.take hc hd hp hs hb).2.2.2.2.1⟩;rcases hs.kind with e|e|e
 ·have:c.take f=c.BM f.ranges:=by unfold AD.take;rw [if_pos e]
  rw [this];exact h.BM h2 hc (hp.ok.2.2.2.2.1.1 e) (hs.FO e)
 ·unfold AD.take;rw [if_neg Ca,if_pos e];split<;>exact h
 ·unfold AD.take;rw [if_neg Ca,if_neg Ca,if_pos e];exact h
theorem Out.BO(hd:AY u d):∀(fs:List AM) (c:AD),Out c d→Out d c→BC c d L L' R R'→AY t c→(∀f∈fs,Eu d.ws f∧Fv R d.ws f∧¬c.busy f)→Out (c.BO fs).2 d∧Out d (c.BO fs).2
 |[],c,h,h',_,_,_=>⟨h,h'⟩
 |f::fs,c,h,h',h0,hc,hf=>by
  obtain⟨h1,h2,h3⟩:=hf f Ce;obtain⟨a,b,_⟩:=h0.take hc hd h1 h2 h3;obtain⟨a',b',e'⟩:=hc.take f (.of h1.ok) h3;obtain⟨o,o'⟩:=h.take h' h0 hc hd h1 h2 h3;rw [AD.BO,if_neg Ca]
  have hx:BC ({(c.take f).2 with answer:=(c.take f).2.answer||(decide (f.kind≠3)&&decide (f.kind≠1))}:AD) d L L' R R':=
   ⟨⟨b.s.len,b.s.An,b.s.ne,b.s.fr⟩,b.s',⟨b.p.num,b.p.proc,b.p.rd,b.p.BM,b.p.full⟩,⟨b.p'.num,b.p'.proc,b.p'.rd,b.p'.BM,b.p'.full⟩,b.Dy,b.ks,b.first,b.o,b.o'⟩
  exact Out.BO hd fs ({(c.take f).2 with answer:=(c.take f).2.answer||(decide (f.kind≠3)&&decide (f.kind≠1))}:AD) o ⟨o'.AO,o'.ending,o'.BG,o'.Fz,o'.ended⟩ hx {a' with}
   (fun g hg=>⟨(hf g Ci).1,(hf g Ci).2.1,K2 (c:=c) (fun k=>b' k) e' (hf g Ci).2.2⟩)
end
theorem Eo.Fh{ws:List AR}{fl:List (List AM)}{fs:List AM}{d:AD}(h:Eo ws (fl++[fs]) d){k:Nat}(hk:k<4)(hl:ws.length=4){w':AR}{f:AM}(hp:HT (ws.getD k Ab) w' k f):Eo (ws.set k w') (fl++[fs++[f]]) d:=by
 have up:∀(P:List AM→Prop),(∀gs,P gs→P (gs++[f]))→(∃gs∈fl++[fs],P gs)→∃gs∈fl++[fs++[f]],P gs:=by
  rintro P hP ⟨gs,hg,x⟩;rcases kg.1 hg with e|e
  ·exact⟨gs,g' _ e,x⟩
  ·rw [c_.1 e]at x;exact⟨_,km _ QV,hP _ x⟩
 have hcov:∀j n gs,E8 gs j n→E8 (gs++[f]) j n:=fun j n gs ⟨g,hg,x⟩=>⟨g,g' _ hg,x⟩
 have hfin:∀j gs,He gs j→He (gs++[f]) j:=fun j gs ⟨g,hg,x⟩=>⟨g,g' _ hg,x⟩
 have hrst:∀j gs,I5 gs j→I5 (gs++[f]) j:=fun j gs ⟨g,hg,x⟩=>⟨g,g' _ hg,x⟩
 have hlast:fs++[f]∈fl++[fs++[f]]:=km _ QV;have hmem:f∈fs++[f]:=km _ QV
 have h0:Eo ws (fl++[fs++[f]]) d:=⟨fun j n hj e=>(h.AO j n hj e).imp id (up (fun gs=>E8 gs j n) (hcov j n)),fun j hj e=>(h.ending j hj e).imp id (up (fun gs=>He gs j) (hfin j)),fun j hj e=>(h.BG j hj e).imp id (up (fun gs=>I5 gs j) (hrst j)),h.Fz,h.ended⟩
 have at_:∀j,j≠k→(ws.set k w').getD j Ab=ws.getD j Ab:=fun j hj=>by rw [Bs,if_neg (fun e=>hj e.1.symm)]
 have atk:(ws.set k w').getD k Ab=w':=by rw [Bs,if_pos OV]
 rcases hp with⟨h1,h2,h3,h4⟩|⟨h1,lo,hi,h2,h3,h4,h5,h6,h7,h8⟩
 ·refine⟨fun j n hj e=>?_,fun j hj e=>?_,fun j hj e=>?_,fun j n hj e=>?_,fun j hj e=>?_⟩<;>by_cases ej:j=k
  ·subst ej;rw [atk,h4]at e⊢;exact h0.AO j n hj e
  ·rw [at_ j ej]at e⊢;exact h0.AO j n hj e
  ·subst ej;rw [atk,h4]at e⊢;exact h0.ending j hj e
  ·rw [at_ j ej]at e⊢;exact h0.ending j hj e
  ·subst ej;exact .inr ⟨_,hlast,f,hmem,by rw [h3];rfl,by rw [h3];rfl⟩
  ·rw [at_ j ej]at e;exact h0.BG j hj e
  ·subst ej;rw [atk,h4]at e;exact h0.Fz j n hj e
  ·rw [at_ j ej]at e;exact h0.Fz j n hj e
  ·subst ej;rw [atk,h4]at e;exact h0.ended j hj e
  ·rw [at_ j ej]at e;exact h0.ended j hj e
 ·have hsz:f.offset+f.data.size=hi:=by
   rw [h4,Ld,I3 h3];show lo+(hi-lo)=hi;omega
  have hst:f.stream.toNat=k:=by rw [h4];rfl
  have hoff:f.offset=lo:=by rw [h4];rfl
  have hkd:f.kind=5:=by rw [h4];rfl
  refine⟨fun j n hj e=>?_,fun j hj e=>?_,fun j hj e=>?_,fun j n hj e=>?_,fun j hj e=>?_⟩<;>by_cases ej:j=k
  ·subst ej;rw [atk,h8]at e;rw [atk,h8];have e:Ao n (if lo<hi then(ws.getD j Ab).AO.add lo (hi-1)else(ws.getD j Ab).AO).l:=e;split at e
   ·rcases BD.OQ e with x|x
    ·exact h0.AO j n hj x
    ·exact .inr ⟨_,hlast,f,hmem,hkd,Ca,hst,Ca,Ca⟩
   ·exact h0.AO j n hj e
  ·rw [at_ j ej]at e⊢;exact h0.AO j n hj e
  ·subst ej;rw [atk,h8]at e;rw [atk,h8];have e:((ws.getD j Ab).ending||f.fin)=true:=e;rcases Bool.or_eq_true_iff.1 e with x|x
   ·exact h0.ending j hj x
   ·exact .inr ⟨_,hlast,f,hmem,hkd,x,hst⟩
  ·rw [at_ j ej]at e⊢;exact h0.ending j hj e
  ·subst ej;rw [atk,h8]at e;exact h0.BG j hj e
  ·rw [at_ j ej]at e;exact h0.BG j hj e
  ·subst ej;rw [atk,h8]at e;exact h0.Fz j n hj e
  ·rw [at_ j ej]at e;exact h0.Fz j n hj e
  ·subst ej;rw [atk,h8]at e;exact h0.ended j hj e
  ·rw [at_ j ej]at e;exact h0.ended j hj e
theorem Eo.none{ws:List AR}{fl:List (List AM)}{fs:List AM}{d:AD}(h:Eo ws (fl++[fs]) d)(hn:∀f∈fs,f.kind=3):Eo ws fl d:=by
 have dn:∀(P:List AM→Prop),¬P fs→(∃gs∈fl++[fs],P gs)→∃gs∈fl,P gs:=by
  rintro P hP ⟨gs,hg,x⟩;rcases kg.1 hg with e|e
  ·exact⟨gs,e,x⟩
  ·rw [c_.1 e]at x;exact absurd x hP
 exact⟨fun j n hj e=>(h.AO j n hj e).imp id (dn (fun gs=>E8 gs j n) (fun⟨f,hf,x,_⟩=>by have:=hn f hf;omega)),fun j hj e=>(h.ending j hj e).imp id (dn (fun gs=>He gs j) (fun⟨f,hf,x,_⟩=>by have:=hn f hf;omega)),
  fun j hj e=>(h.BG j hj e).imp id (dn (fun gs=>I5 gs j) (fun⟨f,hf,x,_⟩=>by have:=hn f hf;omega)),h.Fz,h.ended⟩
theorem Eo.more{ws:List AR}{fl:List (List AM)}{d:AD}(h:Eo ws fl d)(fs:List AM):Eo ws (fl++[fs]) d:=by
 have up:∀(P:List AM→Prop),(∃gs∈fl,P gs)→∃gs∈fl++[fs],P gs:=fun P ⟨gs,hg,x⟩=>⟨gs,g' _ hg,x⟩
 exact⟨fun j n hj e=>(h.AO j n hj e).imp id (up (fun gs=>E8 gs j n)),fun j hj e=>(h.ending j hj e).imp id (up (fun gs=>He gs j)),fun j hj e=>(h.BG j hj e).imp id (up (fun gs=>I5 gs j)),h.Fz,h.ended⟩
theorem vH{fs:List AM}(h:DE fs=false):∀f∈fs,f.kind=3:=by
 intro f hf;unfold DE at h;rw [List.any_eq_false]at h
 have:=h f hf
 simp at this;exact this
theorem Out.filled{t:Nat}{z:A4}{d:AD}(h:Out z.c d)(hz:Bx t z):Eo z.filled.1 (Hj z.c++[z.filled.2.Ag]) d:=by
 have h0:Eo z.c.ws (Hj z.c++[(z.c.Bt z.told).Ag]) d:=h.more _;unfold A4.filled;split
 ·exact(SE (fun ws' d'=>Ho z.c.AF z.c.ws (z.c.Bt z.told) ws' d'∧Eo ws' (Hj z.c++[d'.Ag]) d) (fun ws' d' h=>h.1.Ey.len) (fun ws' d' k w' d2 h hk e=>by
   obtain⟨f,h1,h2⟩:=SS (h.1.Ey.ok k hk) e
   refine⟨(h.1.step hk e).1,?_⟩
   rw [(Qj h1).1]
   exact h.2.Fh hk h.1.Ey.len h2) 4 0 _ _ CW ⟨.refl hz.c.ws (KL hz.c hz.told hz.tl),h0⟩).2
 ·exact h0
theorem Out.Sa{t:Nat}{z:A4}{d:AD}(h:Out z.c d)(hz:Bx t z):Out z.step.c d:=by
 have h1:=h.filled hz;unfold Out Hj A4.step;dsimp only;split
 ·rw [kh];exact h1
 ·rename_i e;exact h1.none (vH (by simpa using e))
theorem Out.B0{t:Nat}{d:AD}:∀(n:Nat) (z:A4),Out z.c d→Bx t z→Out (B0 n z).c d
 |0,z,h,_=>h
 |n+1,z,h,hz=>by
  rw [Go.Proofs.YtgfdlpcdjklcoaaGreatDoor.B0];split
  ·rename_i e;exact(h.filled hz).none (fun f hf=>by rw [e]at hf;cases hf)
  ·rename_i e;exact Out.B0 n z.step (h.Sa hz) (hz.step e).1
theorem Out.As{t:Nat}{c d:AD}(h:Out c d)(h0:c.closed=0)(hc:AY t c):Out c.As.2 d:=by
 unfold AD.As;rw [if_neg Ca];exact Out.B0 (t:=t+1) 40 _ ⟨h.AO,h.ending,h.BG,h.Fz,h.ended⟩ (Bx.begin hc)
theorem Out.tick{t:Nat}{c d:AD}(h:Out c d)(hc:AY t c):Out c.tick d:=by
 have h1:AY (t+1) {c with now:=c.now+1}:=
  {hc.mono EN with nw:=by have:=hc.nw;show c.now+1≤t+1;omega,An:=fun p hp=>let g:=hc.An p hp;⟨g.num,Nat.le_succ_of_le g.at_,g.len,g.fr⟩}
 unfold AD.tick;split
 ·exact Out.Eg (c:={c with now:=c.now+1}) h h1 _
 ·exact h
theorem Out.write{c d:AD}(h:Out c d)(k:Int)(xs:List UInt8):Out (c.write k xs).2 d:=by
 unfold AD.write;split
 ·exact h
 ·exact h.Bm _ Gz
theorem Out.finish{c d:AD}(h:Out c d)(k:Int):Out (c.finish k).2 d:=by
 unfold AD.finish;split
 ·exact h
 ·exact h.Bm _ Gz
theorem Out.giveUp{c d:AD}(h:Out c d)(k:Int)(x:Nat):Out (c.giveUp k x).2 d:=by
 unfold AD.giveUp;split
 ·exact h
 split
 ·exact h
 ·exact h.Bm _ Gz
end
section
def BZ(n:AH):Prop:=∀i,i<2→Out (n.x i) (n.x (1-i))
def Bq(n:AH):Prop:=∀i k,i<2→k<4→(n.e i k).AE=((n.x i).w k).A0
theorem BZ.xs{n n':AH}(h:BZ n)(e:n'.xs=n.xs):BZ n':=fun i hi=>by
 unfold AH.x;rw [e];exact h i hi
theorem BZ.Aq{n:AH}(h:BZ n)(hl:n.xs.length=2){i:Nat}(hi:i<2){c:AD}(h1:Out c (n.x (1-i)))(h2:Out (n.x (1-i)) c):BZ (n.Aq i c):=fun j hj=>by
 have hx:∀j,(n.Aq i c).x j=if i=j then c else n.x j:=fun j=>H2 n i j c hl hi;rw [hx,hx];by_cases e:i=j
 ·subst e;rw [if_pos rfl,if_neg Ca];exact h1
 ·have:j=1-i:=by omega
  subst this;rw [if_neg Ca,if_pos Ca];exact h2
theorem BZ.one{n:AH}(h:BZ n)(hl:n.xs.length=2){i:Nat}(hi:i<2){c:AD}(h1:Out (n.x i) (n.x (1-i))→Out c (n.x (1-i)))(h2:∀k,EZ ((n.x i).r k) (c.r k)):BZ (n.Aq i c):=
 h.Aq hl hi (h1 (h i hi)) (Eo.reads (by have:=h (1-i) Ca;rw [show 1-(1-i)=i by omega]at this;exact this) h2)
theorem NL{c c':AD}(e:c'.rs=c.rs)(k:Nat):EZ (c.r k) (c'.r k):=by
 unfold AD.r;rw [e];exact .refl _
theorem pQ(c:AD)(k:Int)(xs:List UInt8):(c.write k xs).2.rs=c.rs:=by unfold AD.write;split<;>rfl
theorem nR(c:AD)(k:Int):(c.finish k).2.rs=c.rs:=by unfold AD.finish;split<;>rfl
theorem j2(c:AD)(k:Int)(x:Nat):(c.giveUp k x).2.rs=c.rs:=by
 unfold AD.giveUp;split
 ·rfl
 split<;>rfl
theorem ep{c d:AD}(h:Out c d)(k AL:Int):Out (c.read k AL).2 d:=by
 unfold AD.read;split
 ·exact h
 dsimp only;split<;>exact h
theorem O0{i:Nat}:∀(m k:Nat) (n:AH),(CO i k m n).2.xs=n.xs
 |0,k,n=>rfl
 |m+1,k,n=>by
  rw [CO];split
  ·rfl
  ·exact O0 m (k+1) _
theorem Sc{i:Nat}:∀(ps:List (List UInt8)) (n:AH),(Fh i ps n).2.xs=n.xs∧(Fh i ps n).2.ends=n.ends
 |[],n=>BY
 |p::ps,n=>by
  rw [Fh];split
  ·exact BY
  split
  ·exact BY
  ·exact Sc ps _
section
variable{t:Nat}{n:AH}{L:Nat→List (List AM)}{R:Nat→Nat→Prop}
theorem BZ.wr(h:BZ n)(hi:Ad t n L R A3){i:Nat}(h2:i<2)(k:Nat)(s:ByteArray):BZ (n.wr i k s).2:=by
 have h1:BZ (n.Aq i ((n.x i).write k s.data.toList).2):=h.one hi.xl h2 (fun o=>o.write _ _) (NL (pQ _ _ _));unfold AH.wr;dsimp only;split
 ·exact h1
 split
 ·exact h1.xs (O0 4 0 _)
 ·exact h1.xs (O0 4 0 _)
theorem BZ.fin(h:BZ n)(hi:Ad t n L R A3){i:Nat}(h2:i<2)(k:Nat):BZ (n.fin i k).2:=by
 have h1:BZ (n.Aq i ((n.x i).finish k).2):=h.one hi.xl h2 (fun o=>o.finish _) (NL (nR _ _));unfold AH.fin;dsimp only;split<;>exact h1
theorem BZ.B'(h:BZ n)(hi:Ad t n L R A3){i:Nat}(h2:i<2)(k x:Nat):BZ (n.B' i k x).2:=by
 have h1:BZ (n.Aq i ((n.x i).giveUp k x).2):=h.one hi.xl h2 (fun o=>o.giveUp _ _) (NL (j2 _ _ _));unfold AH.B';dsimp only;split<;>exact h1
theorem BZ.tick(h:BZ n)(hi:Ad t n L R A3):BZ n.tick:=by
 have c0:=hi.c 0 Ca;have c1:=hi.c 1 Ca;have h1:BZ (n.Aq 0 (n.x 0).tick):=h.one hi.xl Ca (fun o=>o.tick c0) (NL (Ds.tick c0).rs)
 have e:(n.Aq 0 (n.x 0).tick).x 1=n.x 1:=by rw [H2 n 0 1 _ hi.xl Ca,if_neg Ca]
 have h2:=h1.one (i:=1) (c:=(n.x 1).tick) aR Ca (fun o=>by rw [e]at o;exact o.tick c1) (by rw [e];exact NL (Ds.tick c1).rs);exact h2
theorem BZ.flush(h:BZ n)(hi:Ad t n L R A3){i:Nat}(h2:i<2):BZ (n.flush i).2:=by
 have hc:=hi.c i h2;have ho:=(hi.at h2).o;obtain⟨Ls,_,b,_⟩:=(hi.at h2).As hc (hi.c (1-i) Ca) (hi.g i h2);have h1:BZ (n.Aq i (n.x i).As.2):=h.one hi.xl h2 (fun o=>o.As ho hc) (NL b.rs);exact h1.xs (Sc _ _).1
theorem Out.BA{c d:AD}{L L':List (List AM)}{R R':Nat→Prop}{t u:Nat}(o:Out c d)(o':Out d c)(h:BC c d L L' R R')(hc:AY t c)(hd:AY u d){n:Nat}{fs:List AM}(hn:L'[n]?=some fs)(hu:u≤1000000000):
  Out (c.BA (Bk d.ks (Ae d.first) (e_ n) (Ar fs))).2 d∧Out d (c.BA (Bk d.ks (Ae d.first) (e_ n) (Ar fs))).2:=by
 have hlt:n<L'.length:=by
  rcases kj n L'.length with h|h
  ·exact h
  ·rw [i_ h]at hn;cases hn
 have hmem:fs∈L':=j_ hn;obtain⟨ne,nl⟩:=h.s'.ne fs hmem;have hfr:=h.s'.fr fs hmem;have hnx:=hd.nx
 have hnL:n≤4611686018427387903:=by have:=h.s'.len;omega
 have ho:B3 c.ks (Ae (!c.first)) (Bk d.ks (Ae d.first) (e_ n) (Ar fs))=some (e_ n,Ar fs):=by
  rw [h.ks,h.first];exact OL _ _ _ _ Vd Sw
 have hdec:FN (Ar fs)=.ok fs:=by
  have he:Fu fs=some (Ar fs):=by unfold Fu;rw [if_pos ⟨ne,fun f hf=>(hfr f hf).1.ok⟩]
  have:=(UU he (fun f hf=>by have:=(hfr f hf).1.rg;omega)).1
  rw [Vp (fun f hf=>(hfr f hf).1.nm)]at this;exact this
 unfold AD.BA;rw [if_neg Pg,ho];dsimp only;rw [JQ hnL];by_cases hh:c.AI.has n
 ·rw [if_pos hh];exact⟨o,o'⟩
 rw [if_neg hh,hdec];dsimp only;by_cases hb:∃f∈fs,c.busy f
 ·rw [if_pos hb];exact⟨o,o'⟩
 rw [if_neg hb];have hg':=hc.AI.add n n Ca (by rw [hc.gm];omega)
 have hc2:AY t ({c with AI:=c.AI.add n n}:AD):={hc with AI:=hg'.1,gm:=hg'.2.trans hc.gm}
 have h2:BC ({c with AI:=c.AI.add n n}:AD) d L L' R R':=
  ⟨⟨h.s.len,h.s.An,h.s.ne,h.s.fr⟩,h.s',⟨h.p.num,h.p.proc,h.p.rd,h.p.BM,h.p.full⟩,⟨h.p'.num,h.p'.proc,h.p'.rd,h.p'.BM,h.p'.full⟩,h.Dy,h.ks,h.first,h.o,h.o'⟩
 exact Out.BO (t:=t) hd fs ({c with AI:=c.AI.add n n}:AD) ⟨o.AO,o.ending,o.BG,o.Fz,o.ended⟩ ⟨o'.AO,o'.ending,o'.BG,o'.Fz,o'.ended⟩ h2 hc2 (fun f hf=>⟨(hfr f hf).1,(hfr f hf).2,fun e=>hb ⟨f,hf,e⟩⟩)
theorem BZ.comes(h:BZ n)(hi:Ad t n L R A3){f:Nat×ByteArray}(hf:f∈n.AN)(ht:t≤1000000000):BZ (n.comes f.1 f.2).2:=by
 obtain⟨j,m,fs,a1,a2,a3,a4⟩:=hi.AN f hf
 have h2:f.1<2:=by omega
 have hj:j=1-f.1:=by omega
 subst hj
 have ho:1-f.1<2:=by omega
 have hp:f.2.data.toList=Bk (n.x (1-f.1)).ks (Ae (n.x (1-f.1)).first) (e_ m) (Ar fs):=by
  rw [a4,hi.ks _ ho,hi.first _ ho];exact kw
 have o':=h (1-f.1) ho;rw [show 1-(1-f.1)=f.1 by omega]at o';obtain⟨q1,q2⟩:=(h f.1 h2).BA o' (hi.at h2) (hi.c f.1 h2) (hi.c _ ho) a3 ht;rw [←hp]at q1 q2;exact(h.Aq hi.xl h2 q1 q2).xs (O0 4 0 _)
theorem BZ.DO(h:BZ n)(hi:Ad t n L R A3){i:Nat}(h2:i<2)(b:List UInt8):BZ (n.DO i b).2:=by
 unfold AH.DO
 cases e:B3 n.ks (Ae (decide (i≠0))) b with
 |some x=>exact h
 |none=>
  have e1:=hi.Qt h2 e;dsimp only;rw [e1];exact h.one hi.xl h2 id (fun k=>.refl _)
theorem mX{c:AD}{t:Nat}(hc:AY t c)(k:Nat)(AL:Int)(j:Nat):EZ (c.r j) ((c.read k AL).2.r j):=by
 have hon:EZ (c.r k) (c.Dz k):=by
  unfold AD.Dz;split
  ·exact⟨fun x=>x,fun _ x=>x,fun x=>x⟩
  ·exact .refl _
 have hs:∀r:Bf,EZ (c.r k) r→EZ (c.r j) ((c.BV k r).r j):=fun r hr=>by
  show EZ _ ((c.rs.set k r).getD j FD);rw [Bs];split
  ·rename_i e;rw [←e.1];exact hr
  ·exact .refl _
 unfold AD.read;split
 ·exact .refl _
 dsimp only;rw [kr];split
 ·refine hs _ (hon.trans ?_);split<;>exact⟨fun x=>x,fun _ x=>x,fun x=>x⟩
 ·exact hs _ hon
theorem BZ.read(h:BZ n)(hi:Ad t n L R A3){i k:Nat}(h2:i<2)(hk:k<4)(AL:Nat):BZ (n.read i k AL).2:=by
 rw [Nx n i k AL (hi.reads h2 hk AL).1];have h1:BZ (n.Aq i ((n.x i).read k AL).2):=h.one hi.xl h2 (fun o=>ep o _ _) (mX (hi.c i h2) k AL);exact h1.xs rfl
theorem BZ.carry(h:BZ n)(hi:Ad t n L R A3)(ht:t≤1000000000)(s:DB):BZ (n.carry s).2:=by
 unfold AH.carry;by_cases hb:n.AN=[]
 ·rw [if_pos hb];exact h
 rw [if_neg hb];dsimp only
 have hm:n.AN.getD (AP s.a n.AN.length) (0,⟨#[]⟩)∈n.AN:=by
  have:=Db s.a We
  rw [f_,kf this,Option.getD_some];exact kn this
 generalize n.AN.getD (AP s.a n.AN.length) (0,⟨#[]⟩)=f at hm⊢;have hf:f.1<2:=(hi.comes hm ht).1;split
 ·exact h.comes hi hm ht
 split
 ·exact h.DO hi Ca _
 split
 ·exact h.DO hi hf _
 ·exact h
theorem BZ.step(h:BZ n)(hi:Ad t n L R A3)(ht:t≤1000000000)(s:DB):BZ (n.step s).2:=by
 have p2:AP s.side 2<2:=Db _ Ca;unfold AH.step;split
 ·exact h.wr hi p2 _ _
 split
 ·exact h.fin hi p2 _
 split
 ·exact h.B' hi p2 _ _
 split
 ·exact h.tick hi
 split
 ·exact h.flush hi p2
 split
 ·exact h.read hi p2 (Db s.b Ca) _
 split
 ·exact h.DO hi p2 _
 ·exact h.carry hi ht s
end
theorem BZ.new(AJ AF:Nat):BZ (.new AJ AF):=by
 have hw:∀b k,k<4→((AD.new AJ AF Dl b).ws.getD k Ab)=Ab:=fun b k hk=>Ih (P:=fun k=>(AD.new AJ AF Dl b).ws.getD k Ab=Ab) rfl rfl rfl rfl k hk
 have h:∀b d,Out (.new AJ AF Dl b) d:=fun b d=>
  ⟨fun k n hk e=>by rw [hw b k hk]at e;exact absurd e (L7 n),fun k hk e=>TW,fun k hk e=>TW,fun k n hk e=>(by rw [hw b k hk]at e;exact absurd e (L7 n)),fun k hk e=>TW⟩
 intro i hi;rcases FF hi with rfl|rfl
 ·exact h true _
 ·exact h false _
theorem Bq.same{n n':AH}(h:Bq n)(h1:∀i k,i<2→k<4→(n'.e i k).AE=(n.e i k).AE)(h2:∀i k,i<2→k<4→((n'.x i).w k).A0=((n.x i).w k).A0):Bq n':=fun i k hi hk=>by
 rw [h1 i k hi hk,h2 i k hi hk];exact h i k hi hk
section
variable{t:Nat}{n:AH}{L:Nat→List (List AM)}{R:Nat→Nat→Prop}
theorem Bq.CO{T:Nat→Nat→List UInt8}{i:Nat}(hi:i<2)(hn:Ad t n L R T)(h:∀k,k<4→(n.e (1-i) k).AE=((n.x (1-i)).w k).A0):Bq (CO i 0 4 n).2:=fun j k hj hk=>by
 obtain⟨_,_,c3,c4,_,_⟩:=Ad.CO hi 4 0 n hn CW
 have hx:(Go.Proofs.YtgfdlpcdjklcoaaGreatDoor.CO i 0 4 n).2.x j=n.x j:=by unfold AH.x;rw [c3]
 rw [hx,c4 j k];by_cases e:j=i
 ·subst e;rw [if_pos Ug]
 ·rw [if_neg (fun x=>e x.1)]
  have:j=1-i:=by omega
  subst this;exact h k hk
theorem V0{w w':AR}(hb:w'.b=w.b)(hc:w'.AE=w.AE):w'.A0=w.A0:=by unfold AR.A0;rw [hb,hc]
theorem Bq.Aq(h:Bq n)(hl:n.xs.length=2){i:Nat}(hi:i<2){c:AD}(hp:∀k,k<4→(c.w k).A0=((n.x i).w k).A0):Bq (n.Aq i c):=fun j k hj hk=>by
 rw [H2 n i j c hl hi];show(n.e j k).AE=_;split
 ·rename_i e;rw [←e,hp k hk];exact h i k hi hk
 ·exact h j k hj hk
theorem Bq.C4(h:Bq n)(hl:n.ends.length=2)(h4:∀j,j<2→(n.ends.getD j []).length=4){i k:Nat}(hi:i<2)(hk:k<4){o:Du}(ho:o.AE=(n.e i k).AE):Bq (n.C4 i k o):=fun j m hj hm=>by
 rw [ND n i k j m o hl (h4 i hi) hi hk];show _=((n.x j).w m).A0;split
 ·rename_i e;obtain⟨rfl,rfl⟩:=e;rw [ho];exact h i k hi hk
 ·exact h j m hj hm
theorem fG{c:AD}{k:Nat}{w:AR}(hb:w.b=(c.w k).b)(hc:w.AE=(c.w k).AE)(j:Nat):((c.Bm k w).w j).A0=(c.w j).A0:=by
 show((c.ws.set k w).getD j Ab).A0=_;rw [Bs];split
 ·rename_i e;rw [←e.1];exact V0 hb hc
 ·rfl
theorem oJ(c:AD)(k:Int)(j:Nat):((c.finish k).2.w j).A0=(c.w j).A0:=by
 unfold AD.finish;split
 ·rfl
 ·exact fG (by rfl) (by rfl) j
theorem uQ(c:AD)(k:Int)(x:Nat)(j:Nat):((c.giveUp k x).2.w j).A0=(c.w j).A0:=by
 unfold AD.giveUp;split
 ·rfl
 split
 ·rfl
 ·exact fG (by rfl) (by rfl) j
theorem Bq.wr(h:Bq n)(hi:Ad t n L R A3){i k:Nat}(h2:i<2)(hk:k<4)(s:ByteArray):Bq (n.wr i k s).2:=by
 by_cases hf:(n.e i k).finished=true∨(n.e i k).given=true
 ·rw [(hi.YW h2 hk s hf).2];exact h
 ·obtain⟨_,_,T',hT⟩:=hi.Tw h2 hk s hf;obtain⟨_,_,_,e⟩:=hi.ZF h2 hk s hf rfl rfl;rw [e]
  have h1:=Bq.CO h2 hT (fun m hm=>by
   rw [H2 n i (1-i) _ hi.xl h2,if_neg Ca]
   exact h (1-i) m Ca hm)
  obtain⟨_,c2,_,_,_,_⟩:=Ad.CO h2 4 0 _ hT CW;exact h1.C4 c2.el c2.Dp h2 hk rfl
theorem Bq.fin(h:Bq n)(hi:Ad t n L R A3){i k:Nat}(h2:i<2)(hk:k<4):Bq (n.fin i k).2:=by
 have h1:Bq (n.Aq i ((n.x i).finish k).2):=h.Aq hi.xl h2 (fun m _=>oJ _ _ m);by_cases hf:(n.e i k).finished=true∨(n.e i k).given=true
 ·rw [((hi.Sk h2 hk).1 hf).2];exact h1
 ·rw [((hi.Sk h2 hk).2 hf).2];exact h1.C4 hi.el hi.Dp h2 hk rfl
theorem Bq.B'(h:Bq n)(hi:Ad t n L R A3){i k x:Nat}(h2:i<2)(hk:k<4)(hx:x<1000):Bq (n.B' i k x).2:=by
 have h1:Bq (n.Aq i ((n.x i).giveUp k x).2):=h.Aq hi.xl h2 (fun m _=>uQ _ _ _ m)
 cases hf:(n.e i k).given with
 |true=>rw [((hi.Vi h2 hk hx).1 hf).2];exact h1
 |false=>rw [((hi.Vi h2 hk hx).2 hf).2];exact h1.C4 hi.el hi.Dp h2 hk rfl
theorem Bq.tick(h:Bq n)(hi:Ad t n L R A3):Bq n.tick:=by
 have c0:=hi.c 0 Ca;have c1:=hi.c 1 Ca;have hp:∀{c:AD},AY t c→∀k,k<4→(c.tick.w k).A0=(c.w k).A0:=fun hc k _=>V0 (Up hc k).b ((Ds.tick hc).w k).2;have h1:Bq (n.Aq 0 (n.x 0).tick):=h.Aq hi.xl Ca (hp c0)
 have e:(n.Aq 0 (n.x 0).tick).x 1=n.x 1:=by rw [H2 n 0 1 _ hi.xl Ca,if_neg Ca]
 exact h1.Aq (i:=1) (c:=(n.x 1).tick) aR Ca (by rw [e];exact hp c1)
theorem Bq.flush(h:Bq n)(hi:Ad t n L R A3){i:Nat}(h2:i<2):Bq (n.flush i).2:=by
 obtain⟨Ls,_,b,_⟩:=(hi.at h2).As (hi.c i h2) (hi.c (1-i) Ca) (hi.g i h2);have h1:Bq (n.Aq i (n.x i).As.2):=h.Aq hi.xl h2 (fun k _=>V0 (b.w k).b (b.w k).AE);have e:=Sc (i:=i) (n.x i).As.1 (n.Aq i (n.x i).As.2);refine h1.same (fun j k _ _=>?_) (fun j k _ _=>?_)
 ·show(((Fh i (n.x i).As.1 (n.Aq i (n.x i).As.2)).2.ends.getD j []).getD k Da).AE=_;rw [e.2];rfl
 ·show((((Fh i (n.x i).As.1 (n.Aq i (n.x i).As.2)).2.xs.getD j Jk)).w k).A0=_;rw [e.1];rfl
theorem Bq.comes(h:Bq n)(hi:Ad t n L R A3){f:Nat×ByteArray}(hf:f∈n.AN)(ht:t≤1000000000):Bq (n.comes f.1 f.2).2:=by
 obtain⟨h2,_,_,R',hx⟩:=hi.recv hf ht
 exact Bq.CO h2 hx (fun m hm=>by
  rw [H2 n f.1 (1-f.1) _ hi.xl h2,if_neg Ca]
  exact h (1-f.1) m Ca hm)
theorem Bq.DO(h:Bq n)(hi:Ad t n L R A3){i:Nat}(h2:i<2)(b:List UInt8):Bq (n.DO i b).2:=by
 unfold AH.DO
 cases e:B3 n.ks (Ae (decide (i≠0))) b with
 |some x=>exact h
 |none=>
  have e1:=hi.Qt h2 e;dsimp only;rw [e1];exact h.Aq hi.xl h2 (fun _ _=>rfl)
theorem Bq.read(h:Bq n)(hi:Ad t n L R A3){i k:Nat}(h2:i<2)(hk:k<4)(AL:Nat):Bq (n.read i k AL).2:=by
 rw [Nx n i k AL (hi.reads h2 hk AL).1];obtain⟨_,a2,_⟩:=(hi.at h2).read (hi.c i h2) (hi.c (1-i) Ca) hk AL;have h1:Bq (n.Aq i ((n.x i).read k AL).2):=h.Aq hi.xl h2 (fun m _=>by unfold AD.w;rw [a2]);exact h1.C4 hi.el hi.Dp Ca hk rfl
theorem Bq.carry(h:Bq n)(hi:Ad t n L R A3)(ht:t≤1000000000)(s:DB):Bq (n.carry s).2:=by
 unfold AH.carry;by_cases hb:n.AN=[]
 ·rw [if_pos hb];exact h
 rw [if_neg hb];dsimp only
 have hm:n.AN.getD (AP s.a n.AN.length) (0,⟨#[]⟩)∈n.AN:=by
  have:=Db s.a We
  rw [f_,kf this,Option.getD_some];exact kn this
 generalize n.AN.getD (AP s.a n.AN.length) (0,⟨#[]⟩)=f at hm⊢;have hf:f.1<2:=(hi.comes hm ht).1;split
 ·exact h.comes hi hm ht
 split
 ·exact h.DO hi Ca _
 split
 ·exact h.DO hi hf _
 ·exact h
theorem Bq.step(h:Bq n)(hi:Ad t n L R A3)(ht:t≤1000000000)(s:DB):Bq (n.step s).2:=by
 have p2:AP s.side 2<2:=Db _ Ca;unfold AH.step;split
 ·exact h.wr hi p2 (Db s.a Ca) _
 split
 ·exact h.fin hi p2 (Db s.a Ca)
 split
 ·exact h.B' hi p2 (Db s.a Ca) (Db s.b (by omega:0<1000))
 split
 ·exact h.tick hi
 split
 ·exact h.flush hi p2
 split
 ·exact h.read hi p2 (Db s.b Ca) _
 split
 ·exact h.DO hi p2 _
 ·exact h.carry hi ht s
end
theorem Bq.new(AJ AF:Nat):Bq (.new AJ AF):=fun i k hi hk=>by
 have he:(AH.new AJ AF).e i k=Da:=by
  rcases FF hi with rfl|rfl
  ·exact Ys
  ·exact jV
 have hx:((AH.new AJ AF).x i).w k=Ab:=by
  rcases FF hi with rfl|rfl
  ·exact Ih (P:=fun k=>((AH.new AJ AF).x 0).w k=Ab) rfl rfl rfl rfl k hk
  ·exact Ih (P:=fun k=>((AH.new AJ AF).x 1).w k=Ab) rfl rfl rfl rfl k hk
 rw [he,hx];rfl
structure B7(t:Nat)(n:AH):Prop where
 ok:BE t n
 out:BZ n
 AE:Bq n
theorem B7.step{t:Nat}{n:AH}(h:B7 t n)(ht:t≤1000000000)(s:DB):B7 (t+1) (n.step s).2:=by
 obtain⟨L,R,hi⟩:=h.ok;obtain⟨_,L',R',b⟩:=hi.step ht s;exact⟨⟨L',R',b⟩,h.out.step hi ht s,h.AE.step hi ht s⟩
theorem B7.run(w:Int):∀(l:List DB) (t:Nat) (n n':AH),B7 t n→t+l.length≤1000000000→AH.run w l n=some n'→B7 (t+l.length) n'
 |[],t,n,n',h,_,e=>by cases e;exact h
 |s::l,t,n,n',h,ht,e=>by
  have ht':t+(l.length+1)≤1000000000:=ht;rw [AH.run]at e;split at e
  ·have:=B7.run w l t n n' h Ca e
   obtain⟨L,R,hi⟩:=this.ok;exact⟨⟨L,R,hi.up Y5⟩,this.out,this.AE⟩
  split at e
  ·have:=B7.run w l (t+1) _ n' (h.step Ca s) Ca e
   rw [show t+(s::l).length=t+1+l.length by simp;omega];exact this
  ·cases e
theorem B7.new(AJ AF:Int):B7 0 (JI AJ AF):=by
 have h1:=Db AJ WM;have h2:=Db AF U3;exact⟨⟨_,_,Ad.new Ca Ca Ca Ca⟩,BZ.new _ _,Bq.new _ _⟩
end
theorem N9(n:Nat):(AS n).length=if n<64 then 1 else if n<16384 then 2 else if n<1073741824 then 4 else 8:=by
 unfold AS;split
 ·rfl
 split
 ·rfl
 split<;>rfl
theorem nV{a b:Nat}(h:a≤b):(AS a).length≤(AS b).length:=by
 rw [N9,N9];split
 ·split
  ·omega
  split
  ·omega
  split<;>omega
 split
 ·split
  ·omega
  split
  ·omega
  split<;>omega
 split
 ·split
  ·omega
  split
  ·omega
  split<;>omega
 ·split
  ·omega
  split
  ·omega
  split<;>omega
def GX(P:Nat→Bool):Nat→Nat
 |0=>0
 |n+1=>GX P n+if P n=true then 1 else 0
theorem cB(P:Nat→Bool):∀n,GX P n≤n
 |0=>b_ _
 |n+1=>by
  have:=cB P n
  show GX P n+(if P n=true then 1 else 0)≤n+1;split<;>omega
theorem Vk{P P':Nat→Bool}{lo hi:Nat}(h1:∀n,P' n=true→P n=true)(h2:∀n,lo≤n→n<hi→P n=true∧P' n=false):∀N,GX P' N+(min hi N-lo)≤GX P N
 |0=>by show 0+(min hi 0-lo)≤0;omega
 |N+1=>by
  have ih:=Vk h1 h2 N;show GX P' N+(if P' N=true then 1 else 0)+(min hi (N+1)-lo)≤GX P N+(if P N=true then 1 else 0);by_cases hN:lo≤N∧N<hi
  ·obtain⟨a,b⟩:=h2 N hN.1 hN.2;rw [if_pos a,if_neg (by rw [b];decide)];omega
  ·by_cases hp:P' N=true
   ·rw [if_pos hp,if_pos (h1 N hp)];omega
   ·rw [if_neg hp];split<;>omega
theorem dE{P:Nat→Bool}:∀{N:Nat},GX P N=0→∀n,n<N→P n=false
 |0,_,n,h=>absurd h (lj n)
 |N+1,h,n,hn=>by
  have h:GX P N+(if P N=true then 1 else 0)=0:=h;by_cases e:P N=true
  ·rw [if_pos e]at h;omega
  ·rcases kj n N with h3|h3
   ·exact dE (N:=N) Ca n h3
   ·obtain rfl:n=N:=by omega
    simpa using e
theorem cC{P:Nat→Bool}:∀{N:Nat},(∀n,n<N→P n=false)→GX P N=0
 |0,_=>rfl
 |N+1,h=>by
  show GX P N+(if P N=true then 1 else 0)=0;rw [cC (fun n hn=>h n Ca),if_neg (by rw [h N Ca];decide)]
def AR.unit(w:AR):Nat:=
 if w.given=true then(if w.BG=true then 0 else 2)
 else GX (fun n=>decide (¬Ao n w.AO.l)) w.b.length+if w.finished=true∧w.ending=false∧w.ended=false then 1 else 0
theorem UO(k off:Nat)(fin:Bool)(ds:List UInt8):(Ak (Bw k off fin ds)).length=1+(AS k).length+(AS off).length+(AS ds.length).length+ds.length:=by
 have e:Ak (Bw k off fin ds)=[bif fin then 9 else 8]++AS k++AS off++AS (AW ds).size++(AW ds).data.toList:=rfl;rw [e,EI,show(AW ds).data.toList=ds from kw];simp only [a_,g_]
theorem X1(k code off:Nat):(Ak (HL k code off)).length=1+(AS k).length+(AS code).length+(AS off).length:=by
 have e:Ak (HL k code off)=[4]++AS k++AS code++AS off:=rfl;rw [e];simp only [a_,g_]
theorem MO{n:Nat}(h:n<64):(AS n).length=1:=by rw [N9,if_pos h]
theorem NF{n:Nat}(h:n<16384):(AS n).length≤2:=by
 rw [N9];split
 ·omega
 ·omega
theorem QC{n:Nat}(h:n<1073741824):(AS n).length≤4:=by
 rw [N9];split
 ·omega
 split
 ·omega
 ·omega
theorem tQ{AF:Nat}{w w':AR}{k:Nat}{f:AM}(hk:k<4)(hw:CJ AF w)(h:HT w w' k f):(Ak f).length+7*w'.unit≤7*w.unit:=by
 have hlen:=hw.len;have hh:=hw.high;rcases h with⟨h1,h2,h3,h4⟩|⟨h1,lo,hi,h2,h3,h4,h5,h6,h7,h8⟩
 ·have e1:w.unit=2:=by unfold AR.unit;rw [if_pos h1,if_neg (by rw [h2];decide)]
  have e2:w'.unit=0:=by rw [h4];unfold AR.unit;rw [if_pos h1,if_pos rfl]
  rw [e1,e2,h3,X1,MO Ca]
  have:=C5 w.code
  have:=NF (n:=w.high) Ca
  omega
 ·have hcl:(cut w.b lo hi).length=hi-lo:=I3 h3
  have hfl:(Ak f).length≤6+(hi-lo):=by
   rw [h4,UO,hcl,MO Ca]
   have:=NF (n:=lo) Ca
   have:=NF (n:=hi-lo) Ca
   omega
  have hfin:f.fin=true→w.finished=true:=fun e=>by
   rw [h4]at e;have e':(w.finished&&decide (hi=w.b.length))=true:=e;rw [ko]at e';exact e'.1
  have hin:∀n,Ao n w.AO.l→Ao n w'.AO.l:=fun n hn=>by
   rw [h8];show Ao n (if lo<hi then w.AO.add lo (hi-1)else w.AO).l;split
   ·obtain⟨_,_,_,_,e⟩:=IR (lo:=lo) (hi:=hi-1) hw.so hw.sf hw.sm hlen Ca;exact(e n).2 (.inr hn)
   ·exact hn
  have hnew:∀n,lo≤n→n<hi→Ao n w'.AO.l:=fun n a b=>by
   rw [h8];show Ao n (if lo<hi then w.AO.add lo (hi-1)else w.AO).l;rw [if_pos Ca];obtain⟨_,_,_,_,e⟩:=IR (lo:=lo) (hi:=hi-1) hw.so hw.sf hw.sm hlen Ca;exact(e n).2 (.inl ⟨a,Ca⟩)
  have hc:=Vk (P:=fun n=>decide (¬Ao n w.AO.l)) (P':=fun n=>decide (¬Ao n w'.AO.l)) (lo:=lo) (hi:=hi) (fun n e=>decide_eq_true (fun x=>of_decide_eq_true e (hin n x))) (fun n a b=>⟨decide_eq_true (h6 n a b),decide_eq_false (fun x=>x (hnew n a b))⟩) w.b.length
  have hb':w'.b=w.b:=by rw [h8]
  have hg':w'.given=false:=by rw [h8];exact h1
  have e1:w.unit=GX (fun n=>decide (¬Ao n w.AO.l)) w.b.length+if w.finished=true∧w.ending=false∧w.ended=false then 1 else 0:=by unfold AR.unit;rw [if_neg (by rw [h1];decide)]
  have e2:w'.unit=GX (fun n=>decide (¬Ao n w'.AO.l)) w.b.length+if w'.finished=true∧w'.ending=false∧w'.ended=false then 1 else 0:=by unfold AR.unit;rw [if_neg (by rw [hg'];decide),hb']
  have hf':w'.finished=w.finished:=by rw [h8]
  have he':w'.ending=(w.ending||f.fin):=by rw [h8]
  have hd':w'.ended=w.ended:=by rw [h8]
  have hmin:min hi w.b.length=hi:=Nat.min_eq_left h3;rw [hmin]at hc
  have hle:(if w'.finished=true∧w'.ending=false∧w'.ended=false then 1 else 0)≤(if w.finished=true∧w.ending=false∧w.ended=false then 1 else(0:Nat)):=by
   rw [hf',he',hd'];by_cases c:w.finished=true∧w.ending=false∧w.ended=false
   ·rw [if_pos c];split<;>omega
   ·rw [if_neg c,if_neg (fun x=>c ⟨x.1,(Bool.or_eq_false_iff.1 x.2.1).1,x.2.2⟩)];exact b_ _
  by_cases hlt:lo<hi
  ·omega
  ·have hff:f.fin=true:=h5.resolve_left hlt;obtain⟨a,b⟩:=h7 Ca;have u1:(if w.finished=true∧w.ending=false∧w.ended=false then 1 else(0:Nat))=1:=if_pos ⟨hfin hff,a,b⟩;have u2:(if w'.finished=true∧w'.ending=false∧w'.ended=false then 1 else(0:Nat))=0:=if_neg (fun x=>by rw [he',hff,Bool.or_true]at x;cases x.2.1);rw [u1]at e1;rw [u2]at e2;omega
theorem N? {AF:Nat}{w:AR}(hw:CJ AF w)(hz:(AV 0 w.b.length w.AO.l).2≤(AV 0 w.b.length w.AO.l).1)(n:Nat)(hn:n<w.b.length):Ao n w.AO.l:=by
 obtain⟨_,b,_,_,e⟩:=HS w.AO.l 0 w.b.length hw.so.inc EX;exact b n EX (by have:=e hz;omega)
theorem YH(d:BK)(f:AM):(d.b++Ak f).length=d.b.length+(Ak f).length:=a_
theorem bL{w:AR}{d:BK}{k lo hi:Nat}(hk:k<4)(hlo:lo≤hi)(hhi:hi≤w.b.length)(hlen:w.b.length≤4096)(hr:d.room≤284)(h:w.I7 d k lo hi=none):d.room<d.b.length+13:=by
 have hcl:(cut w.b lo hi).length=hi-lo:=I3 hhi
 have hd:(Ak (Bw k lo false (cut w.b lo hi))).length-(hi-lo)=2+(AS lo).length+(AS (hi-lo)).length:=by
  rw [UO,hcl,MO (show k<64 by omega)];omega
 have v1:=NF (n:=lo) Ca;have v2:=NF (n:=hi-lo) Ca;unfold AR.I7 at h;dsimp only at h;rw [hd]at h;split at h
 ·rename_i hc;omega
 ·rename_i hc;generalize hh2:min hi (lo+(d.room-d.b.length-(2+(AS lo).length+(AS (hi-lo)).length)))=hi2 at h;have hc2:(cut w.b lo hi2).length=hi2-lo:=I3 Ca;have hm:=nV (a:=hi2-lo) (b:=hi-lo) Ca
  have hfl:(Ak (Bw k lo (w.finished&&decide (hi2=w.b.length)) (cut w.b lo hi2))).length=2+(AS lo).length+(AS (hi2-lo)).length+(hi2-lo):=by
   rw [UO,hc2,MO (show k<64 by omega)]
  cases e:d.add (Bw k lo (w.finished&&decide (hi2=w.b.length)) (cut w.b lo hi2))with
  |some d2=>rw [e]at h;cases h
  |none=>
   unfold BK.add at e;split at e
   ·rename_i e2;rw [YH,hfl]at e2;by_cases hl:lo<hi
    ·have:¬d.room<d.b.length+(2+(AS lo).length+(AS (hi-lo)).length)+1:=fun x=>hc ⟨hl,x⟩
     omega
    ·omega
   ·cases e
theorem rU{AF:Nat}{w:AR}{d:BK}{k:Nat}(hk:k<4)(hw:CJ AF w)(hr:d.room≤284)(h:w.fill d k=none):w.unit=0∨d.room<d.b.length+13:=by
 have hlen:=hw.len;have hh:=hw.high
 have hb:∀f,(({d with Ag:=d.Ag++[f]}:BK).b).length=d.b.length+(Ak f).length:=fun f=>by
  show(Ar (d.Ag++[f])).length=_;rw [Mh,Kb,a_];rfl
 unfold AR.fill at h;by_cases hg:w.given=true
 ·rw [if_pos hg]at h;by_cases ht:w.BG=true
  ·left;unfold AR.unit;rw [if_pos hg,if_pos ht]
  ·rw [if_neg ht]at h;right
   cases e:d.add (HL k w.code w.high)with
   |some d2=>rw [e]at h;cases h
   |none=>
    unfold BK.add at e;split at e
    ·rename_i e2;rw [a_,X1,MO Ca]at e2
     have:=C5 w.code
     have:=NF (n:=w.high) Ca
     omega
    ·cases e
 ·rw [if_neg hg]at h;have hgap:=HS w.AO.l 0 w.b.length hw.so.inc EX;by_cases hz:(AV 0 w.b.length w.AO.l).2≤(AV 0 w.b.length w.AO.l).1
  ·rw [if_pos hz]at h;split at h
   ·rename_i hc;left;unfold AR.unit;rw [if_neg hg,if_neg (by rintro⟨a,b,c⟩;rcases hc with x|x|x;rw [a]at x;cases x;rw [b]at x;cases x;rw [c]at x;cases x)];rw [cC (fun n hn=>?_)];exact decide_eq_false (fun x=>x (N? hw hz n hn))
   ·right;exact bL hk CW CW hlen hr h
  ·rw [if_neg hz]at h;right;exact bL hk Ca hgap.2.2.1 hlen hr h
def U4(ws:List AR):Nat:=(ws.getD 0 Ab).unit+(ws.getD 1 Ab).unit+(ws.getD 2 Ab).unit+(ws.getD 3 Ab).unit
theorem B? {ws:List AR}(hl:ws.length=4){k:Nat}(hk:k<4)(w:AR):U4 (ws.set k w)+(ws.getD k Ab).unit=U4 ws+w.unit:=by
 have e:∀j,(ws.set k w).getD j Ab=if k=j then w else ws.getD j Ab:=fun j=>by
  rw [Bs,hl];by_cases e:k=j
  ·rw [if_pos ⟨e,hk⟩,if_pos e]
  ·rw [if_neg (fun x=>e x.1),if_neg e]
 unfold U4;rw [e 0,e 1,e 2,e 3];rcases(show k=0∨k=1∨k=2∨k=3 by omega)with rfl|rfl|rfl|rfl
 ·rw [if_pos rfl,if_neg Cc,if_neg Cc,if_neg Cc];omega
 ·rw [if_neg Cc,if_pos rfl,if_neg Cc,if_neg Cc];omega
 ·rw [if_neg Cc,if_neg Cc,if_pos rfl,if_neg Cc];omega
 ·rw [if_neg Cc,if_neg Cc,if_neg Cc,if_pos rfl];omega
theorem o8{ws:List AR}(h:U4 ws=0)(k:Nat)(hk:k<4):(ws.getD k Ab).unit=0:=by
 unfold U4 at h;exact Ih (P:=fun k=>(ws.getD k Ab).unit=0) Ca Ca Ca Ca k hk
theorem gl{ws:List AR}(h:∀k,k<4→(ws.getD k Ab).unit=0):U4 ws=0:=by
 unfold U4;rw [h 0 Ca,h 1 Ca,h 2 Ca,h 3 Ca]
structure Gm(AF:Nat)(ws0:List AR)(d0:BK)(ws:List AR)(d:BK):Prop where
 f:Ho AF ws0 d0 ws d
 Mz:d.b.length+7*U4 ws≤d0.b.length+7*U4 ws0
theorem Gm.step{AF:Nat}{ws0 ws:List AR}{d0 d d':BK}{k:Nat}{w':AR}(h:Gm AF ws0 d0 ws d)(hk:k<4)(e:(ws.getD k Ab).fill d k=some (w',d')):Gm AF ws0 d0 (ws.set k w') d'∧d.b.length<d'.b.length:=by
 obtain⟨f,h1,h2⟩:=SS (h.f.Ey.ok k hk) e;have hu:=tQ hk (h.f.Ey.ok k hk) h2;have hs:=B? h.f.Ey.len hk w';obtain⟨_,_,a3,_⟩:=Qj h1;have hp:=h.Mz;obtain⟨b1,b2⟩:=h.f.step hk e;refine⟨⟨b1,?_⟩,b2⟩;rw [a3,YH];omega
theorem Gm.Dj{AF:Nat}{ws0:List AR}{d0:BK}{k:Nat}(hk:k<4):∀(n:Nat) (w:AR) (d:BK) (ws:List AR),Gm AF ws0 d0 ws d→ws.getD k Ab=w→d.room<d.b.length+n→
  Gm AF ws0 d0 (ws.set k (Dj k n w d).1) (Dj k n w d).2∧d.b.length≤(Dj k n w d).2.b.length∧((Dj k n w d).1.unit=0∨(Dj k n w d).2.room<(Dj k n w d).2.b.length+13)
 |0,w,d,ws,h,hw,hn=>by
  have:=h.f.HV.len
  omega
 |n+1,w,d,ws,h,hw,hn=>by
  have hok:=h.f.Ey.ok k hk;rw [hw]at hok;rw [Go.Proofs.YtgfdlpcdjklcoaaGreatDoor.Dj]
  cases e:w.fill d k with
  |none=>
   dsimp only;refine⟨by rw [←hw,Q0];exact h,b_ _,rU hk hok h.f.HV.room e⟩
  |some x=>
   obtain⟨w2,d2⟩:=x;dsimp only;obtain⟨a,b⟩:=h.step hk (by rw [hw];exact e);have hr:d2.room=d.room:=a.f.room.trans h.f.room.symm;obtain⟨c1,c2,c3⟩:=Gm.Dj hk n w2 d2 (ws.set k w2) a (by rw [Bs,if_pos ⟨rfl,by rw [h.f.Ey.len];exact hk⟩]) Ca;rw [set_set]at c1;exact⟨c1,Ca,c3⟩
theorem Gm.C7{AF:Nat}{ws0:List AR}{d0:BK}:∀(n k:Nat) (ws:List AR) (d:BK),k+n=4→Gm AF ws0 d0 ws d→(∀j,j<k→(ws.getD j Ab).unit=0∨d.room<d.b.length+13)→
  Gm AF ws0 d0 (C7 d ws k n).1 (C7 d ws k n).2∧∀j,j<4→((C7 d ws k n).1.getD j Ab).unit=0∨(C7 d ws k n).2.room<(C7 d ws k n).2.b.length+13
 |0,k,ws,d,hk,h,hj=>⟨h,fun j hj4=>hj j Ca⟩
 |n+1,k,ws,d,hk,h,hj=>by
  obtain⟨c1,c2,c3⟩:=Gm.Dj (k:=k) Ca (d.room+1) (ws.getD k Ab) d ws h rfl Ca;rw [Go.Proofs.YtgfdlpcdjklcoaaGreatDoor.C7];have hr:(Go.Proofs.YtgfdlpcdjklcoaaGreatDoor.Dj k (d.room+1) (ws.getD k Ab) d).2.room=d.room:=c1.f.room.trans h.f.room.symm;refine Gm.C7 n (k+1) _ _ Ca c1 (fun j hj2=>?_);rw [Bs];by_cases e:k=j
  ·rw [if_pos ⟨e,by rw [h.f.Ey.len];omega⟩];exact c3
  ·rw [if_neg (fun x=>e x.1)];rcases hj j Ca with x|x
   ·exact .inl x
   ·right;omega
theorem dY{rs:List AT}(h:∀i,(rg rs i).hi<1073741824∧(rg rs i).lo<1073741824):∀n,(B5 rs n).length≤8*n
 |0=>by show([]:List UInt8).length≤0;exact b_ _
 |n+1=>by
  have ih:=dY h n;show(B5 rs n++AS ((rg rs n).lo-(rg rs (n+1)).hi-2)++AS ((rg rs (n+1)).hi-(rg rs (n+1)).lo)).length≤_;rw [a_,a_];have v1:=QC (n:=(rg rs n).lo-(rg rs (n+1)).hi-2) (by have:=(h n).2;omega);have v2:=QC (n:=(rg rs (n+1)).hi-(rg rs (n+1)).lo) (by have:=(h (n+1)).1;omega);omega
theorem qK{rs:List AT}(h:∀r∈rs,r.hi<1073741824∧r.lo<1073741824)(hl:rs.length≤8)(h0:0<rs.length):(Ak (BT rs)).length≤10*rs.length:=by
 have hr:∀i,(rg rs i).hi<1073741824∧(rg rs i).lo<1073741824:=fun i=>by
  rcases kj i rs.length with hi|hi
  ·rw [Qz hi];exact h _ (kn hi)
  ·unfold rg;rw [f_,i_ hi];exact⟨by show(0:Nat)<_;omega,by show(0:Nat)<_;omega⟩
 have e:Ak (BT rs)=[2]++AS (rg rs 0).hi++AS (rs.length-1)++AS ((rg rs 0).hi-(rg rs 0).lo)++B5 rs (rs.length-1):=rfl;rw [e];simp only [a_,g_];have v1:=QC (hr 0).1;have v2:=MO (n:=rs.length-1) Ca;have v3:=QC (n:=(rg rs 0).hi-(rg rs 0).lo) (by have:=(hr 0).1;omega);have v4:=dY hr (rs.length-1);omega
def A4.F(z:A4):Nat:=10*z.told.length+7*U4 z.c.ws
def QQ(l:List AT):Prop:=∀r∈l,r.hi<1073741824∧r.lo<1073741824
theorem A4.yW{t:Nat}{z:A4}(h:Bx t z)(hs:QQ z.told):(z.c.Bt z.told).b.length+10*z.Gh.length≤10*z.told.length:=by
 have hle:=jJ z.told (z.c.AJ-16) z.told.length;have htl:=h.tl;by_cases e:z.told=[]
 ·have e2:z.Gh=[]:=by unfold A4.Gh;rw [e];rfl
  have e3:(z.c.Bt z.told).b=[]:=by unfold BK.b AD.Bt;rw [if_pos e];rfl
  rw [e2,e3,e];exact b_ _
 ·have hp:=NK z.told (z.c.AJ-16) z.told.length (kx.2 e)
  have e3:(z.c.Bt z.told).b=Ak (BT (z.told.take (DZ z.told (z.c.AJ-16) z.told.length))):=by
   show Ar (z.c.Bt z.told).Ag=_;rw [OE _ e,Kb]
  have hl:(z.told.take (DZ z.told (z.c.AJ-16) z.told.length)).length=DZ z.told (z.c.AJ-16) z.told.length:=by rw [List.length_take];omega
  have:=qK (rs:=z.told.take (DZ z.told (z.c.AJ-16) z.told.length)) (fun r hr=>hs r U0) Ca Ca
  have e2:z.Gh.length=z.told.length-DZ z.told (z.c.AJ-16) z.told.length:=List.length_drop;rw [e3,e2];omega
theorem A4.Mz{t:Nat}{z:A4}(h:Bx t z)(hs:QQ z.told):
  z.filled.2.b.length+10*z.Gh.length+7*U4 z.filled.1≤z.F∧(z.c.Aa.length<10→U4 z.filled.1=0∨36≤z.filled.2.b.length)∧(¬z.c.Aa.length<10→z.filled=(z.c.ws,z.c.Bt z.told)):=by
 have hd:=A4.yW h hs;have hm:=h.c.m1;have hroom:(z.c.Bt z.told).room=z.c.AJ-16:=rfl;unfold A4.filled A4.F;by_cases hf:z.c.Aa.length<10
 ·rw [if_pos hf];obtain⟨a,b⟩:=Gm.C7 (AF:=z.c.AF) (ws0:=z.c.ws) (d0:=z.c.Bt z.told) 4 0 z.c.ws (z.c.Bt z.told) rfl ⟨.refl h.c.ws (KL h.c h.told h.tl),b_ _⟩ (fun j hj=>absurd hj Ly);have hp:=a.Mz;have hr:=a.f.room;refine⟨Ca,fun _=>?_,fun x=>absurd hf x⟩;by_cases hall:∀j,j<4→((Go.Proofs.YtgfdlpcdjklcoaaGreatDoor.C7 (z.c.Bt z.told) z.c.ws 0 4).1.getD j Ab).unit=0
  ·exact .inl (gl hall)
  ·right;obtain⟨j,hj⟩:=Classical.not_forall.1 hall;obtain⟨hj4,hj0⟩:=Classical.not_imp.1 hj;rcases b j hj4 with x|x
   ·exact absurd x hj0
   ·omega
 ·rw [if_neg hf];exact⟨by dsimp only;omega,fun x=>absurd x hf,fun _=>rfl⟩
theorem X'{t:Nat}:∀(n:Nat) (z:A4),Bx t z→QQ z.told→z.mu≤n→U4 (B0 n z).c.ws≤U4 z.c.ws∧z.c.Aa.length≤(B0 n z).c.Aa.length∧
  (U4 (B0 n z).c.ws=0∨(10≤(B0 n z).c.Aa.length∧7*U4 (B0 n z).c.ws+36*(B0 n z).c.Aa.length≤z.F+36*z.c.Aa.length))
 |0,z,h,hs,hn=>by
  have hmu:z.told.length+(10-z.c.Aa.length)≤0:=hn;refine⟨b_ _,b_ _,.inr ⟨by show 10≤z.c.Aa.length;omega,?_⟩⟩;show 7*U4 z.c.ws+36*z.c.Aa.length≤10*z.told.length+7*U4 z.c.ws+36*z.c.Aa.length;omega
 |n+1,z,h,hs,hn=>by
  obtain⟨p1,p2,p3⟩:=A4.Mz h hs;rw [B0];split
  ·rename_i e
   have hb:z.filled.2.b.length=0:=by show(Ar z.filled.2.Ag).length=0;rw [e];rfl
   show U4 z.filled.1≤_∧z.c.Aa.length≤z.c.Aa.length∧(U4 z.filled.1=0∨(10≤z.c.Aa.length∧7*U4 z.filled.1+36*z.c.Aa.length≤_));by_cases hf:z.c.Aa.length<10
   ·rcases p2 hf with x|x
    ·exact⟨Ca,b_ _,.inl x⟩
    ·omega
   ·have e2:=p3 hf
    have e3:z.filled.1=z.c.ws:=by rw [e2]
    rw [e3];exact⟨b_ _,b_ _,.inr ⟨Ca,by unfold A4.F;omega⟩⟩
  ·rename_i hne;obtain⟨s1,s2⟩:=h.step hne;obtain⟨i1,i2,i3⟩:=X' n z.step s1 (fun r hr=>hs r SQ) Ca;have hU:U4 z.step.c.ws=U4 z.filled.1:=rfl;have hFs:z.step.F=10*z.Gh.length+7*U4 z.filled.1:=rfl
   have hFl:z.step.c.Aa.length=if DE z.filled.2.Ag then z.c.Aa.length+1 else z.c.Aa.length:=by
    show(if DE z.filled.2.Ag then z.c.Aa++[_]else z.c.Aa).length=_;split
    ·rw [a_];rfl
    ·rfl
   have hUle:U4 z.filled.1≤U4 z.c.ws:=by
    have:=(A4.sends h).w
    by_cases hf:z.c.Aa.length<10
    ·have a:=(Gm.C7 (AF:=z.c.AF) (ws0:=z.c.ws) (d0:=z.c.Bt z.told) 4 0 z.c.ws (z.c.Bt z.told) rfl ⟨.refl h.c.ws (KL h.c h.told h.tl),b_ _⟩ (fun j hj=>absurd hj Ly)).1
     have e:z.filled=Go.Proofs.YtgfdlpcdjklcoaaGreatDoor.C7 (z.c.Bt z.told) z.c.ws 0 4:=by unfold A4.filled;rw [if_pos hf]
     rw [e]
     have hlen:(z.c.Bt z.told).b.length≤(Go.Proofs.YtgfdlpcdjklcoaaGreatDoor.C7 (z.c.Bt z.told) z.c.ws 0 4).2.b.length:=by
      obtain⟨l,hl,_⟩:=a.f.Ag;show(Ar _).length≤(Ar _).length;rw [hl,Mh,a_];omega
     have:=a.Mz
     omega
    ·rw [p3 hf];exact b_ _
   by_cases hf:z.c.Aa.length<10
   ·rcases i3 with x|⟨x1,x2⟩
    ·exact⟨Ca,Th,.inl x⟩
    ·rcases p2 hf with y|y
     ·refine⟨Ca,Th,.inl ?_⟩;omega
     ·refine⟨Ca,Th,.inr ⟨x1,?_⟩⟩;rw [hFs]at x2;rw [hFl]at x2;split at x2<;>omega
   ·have hw:DE z.filled.2.Ag=false:=by rw [p3 hf];exact Yr _ _
    rw [hw]at hFl;have hFl:z.step.c.Aa.length=z.c.Aa.length:=hFl;rw [hFl]at i2 i3;refine⟨Ca,i2,?_⟩;rcases i3 with x|⟨x1,x2⟩
    ·exact .inl x
    ·rw [hFs]at x2;exact .inr ⟨x1,Ca⟩
theorem Wp{α:Type}{a:α}{l:List α}(h:l≠ []):(a::l).getLast?=l.getLast?:=by
 cases l with
 |nil=>exact absurd rfl h
 |cons b l=>rfl
theorem kI{m:Nat}:∀(l:List AT),Es l→(∀r∈l,r.hi<m)→∃r',(B2 m m l).getLast?=some r'∧r'.hi=m∧r'.lo≤m∧(∀r,l.getLast?=some r→r.hi+1=m→r'.lo≤r.lo)
 |[],_,_=>⟨⟨m,m⟩,rfl,rfl,b_ _,fun r h=>by cases h⟩
 |r::rs,hI,hm=>by
  obtain⟨h1,h2,h3⟩:=hI;have hr:=hm r Ce;rw [B2];by_cases hc:r.hi+1<m
  ·rw [if_pos hc,Wp (Lj _ _ _)];obtain⟨r',a,b,c,d⟩:=kI rs h3 (fun s hs=>hm s K6);refine⟨r',a,b,c,fun s hs he=>?_⟩
   cases rs with
   |nil=>have:r=s:=Option.some.inj hs;subst this;omega
   |cons s2 rs2=>exact d s (by rw [Wp Ce]at hs;exact hs) he
  ·rw [if_neg hc,if_neg Ca]
   have hn:rs=[]:=by
    cases rs with
    |nil=>rfl
    |cons s rs2=>
     have a:=h2 s Ce;have b:=hm s Ce;have c:=h3.1;omega
   subst hn;refine⟨⟨min m r.lo,max m r.hi⟩,rfl,by show max m r.hi=m;omega,by show min m r.lo≤m;omega,fun s hs he=>?_⟩
   have:r=s:=Option.some.inj hs
   subst this;show min m r.lo≤r.lo;omega
theorem xV{s:BD}{m M:Nat}(ho:DK s M)(hm:∀x,Ao x s.l→x<m)(hf:s.floor≤m)(h8:2≤s.AL):∃r',(s.add m m).l.getLast?=some r'∧r'.hi=m∧r'.lo≤m∧(∀r,s.l.getLast?=some r→r.hi+1=m→r'.lo≤r.lo)∧(∀x,Ao x (s.add m m).l→x<m+1)∧(s.add m m).floor≤m+1:=by
 have hh:∀r∈s.l,r.hi<m:=fun r hr=>hm _ ⟨r,hr,NX _ ho.inc r hr,b_ _⟩;obtain⟨r',a,b,c,d⟩:=kI s.l ho.inc hh
 have hmm:max m s.floor=m:=by omega
 have hall:∀x,Ao x (B2 m m s.l)→x<m+1:=fun x hx=>by
  rcases(LL s.l m m x CW).1 hx with g|g
  ·omega
  ·have:=hm x g;omega
 unfold BD.add;rw [hmm,if_neg Ca];split
 ·rename_i hlt
  cases e:B2 m m s.l with
  |nil=>exact absurd e (Lj _ _ _)
  |cons r rs=>
   rw [e]at hlt a hall
   have hne:rs≠ []:=fun x=>by rw [x]at hlt;simp at hlt;omega
   rw [Wp hne]at a;have hI:=K5 s.l m m CW ho.inc;rw [e]at hI;refine⟨r',a,b,c,d,fun x ⟨q,hq,g⟩=>hall x ⟨q,kv _ hq,g⟩,?_⟩;show r.hi+1≤m+1
   have:=hall r.hi ⟨r,Ce,hI.1,b_ _⟩
   omega
 ·exact⟨r',a,b,c,d,hall,by show s.floor≤m+1;omega⟩
theorem vI{w w':AR}{cv:Nat→Prop}{fi:Prop}(h:Fd w w' cv fi)(g:Gg w w'):w'.unit≤w.unit:=by
 unfold AR.unit;rw [g.given,h.BG,g.b,g.finished,h.ending];by_cases hg:w.given=true
 ·rw [if_pos hg,if_pos hg];exact b_ _
 ·rw [if_neg hg,if_neg hg]
  have hc:=Vk (P:=fun n=>decide (¬Ao n w.AO.l)) (P':=fun n=>decide (¬Ao n w'.AO.l)) (lo:=0) (hi:=0) (fun n e=>decide_eq_true (fun x=>of_decide_eq_true e (h.sub n x))) (fun n a b=>absurd b (lj n)) w.b.length
  have hle:(if w.finished=true∧w.ending=false∧w'.ended=false then 1 else 0)≤(if w.finished=true∧w.ending=false∧w.ended=false then 1 else(0:Nat)):=by
   by_cases c:w.finished=true∧w.ending=false∧w.ended=false
   ·rw [if_pos c];split<;>omega
   ·rw [if_neg c,if_neg (fun x=>c ⟨x.1,x.2.1,?_⟩)]
    ·exact b_ _
    ·cases e:w.ended with
     |false=>rfl
     |true=>have:=h.ended.2 (.inl e);rw [x.2.2]at this;cases this
  omega
theorem p6{t:Nat}{c:AD}(hc:AY t c){l:List AT}(hl:(rg l 0).hi<c.next):U4 (c.CE l).ws≤U4 c.ws:=by
 have o1:=LI (l:=l) c.lost c.ws hc.ws (fun p hp f hf=>(hc.An p LX).fr f hf);have hs:=(hc.CE l hl).2.1
 have g:∀k,((c.CE l).ws.getD k Ab).unit≤(c.ws.getD k Ab).unit:=fun k=>
  vI ((N7 (l:=l) c.lost c.ws hc.ws (fun p hp f hf=>(hc.An p LX).fr f hf) k).trans (N7 (l:=l) c.Aa _ o1.1 (fun p hp f hf=>((hc.An p Ii).fr f hf).same o1.2.1) k)) (hs.same k)
 unfold U4;have g0:=g 0;have g1:=g 1;have g2:=g 2;have g3:=g 3;omega
structure H7(mc:Nat)(c:AD):Prop where
 fl:∀p∈c.Aa,mc≤p.number
 lg:c.BF≤mc
theorem iZ{t mc:Nat}{c:AD}(hc:AY t c){l:List AT}(hl:(rg l 0).hi<mc)(hn:mc≤c.next)(hf:∀p∈c.Aa,A6 l p.number=true∨mc≤p.number)(hg:c.BF≤mc):
  U4 (c.BM l).2.ws≤U4 c.ws∧H7 mc (c.BM l).2:=by
 unfold AD.BM;rw [if_neg Ca]
 have h1:∀p∈(c.CE l).Aa,mc≤p.number:=fun p hp=>by
  obtain⟨a,b⟩:=ki.1 (show p∈c.Aa.filter (fun p=> !A6 l p.number)from hp);rcases hf p a with g|g
  ·rw [g]at b;cases b
  ·exact g
 have h2:(c.CE l).BF≤mc:=by show max c.BF (rg l 0).hi≤mc;omega
 have h3:(c.CE l).Aa.filter (fun p=>decide (p.number+3≤(c.CE l).BF))=[]:=by
  rw [List.filter_eq_nil_iff];intro p hp
  have:=h1 p hp
  simp;omega
 refine⟨?_,fun p hp=>h1 p (ki.1 YZ).1,h2⟩;show U4 (((c.CE l).Aa.filter (fun p=>decide (p.number+3≤(c.CE l).BF))).foldl IW (c.CE l).ws)≤_;rw [h3];exact p6 hc Ca
structure GN(r:Bf):Prop where
 B':r.given=true→r.state≠0
 FA:r.given=false→r.state=0→¬Ao r.read r.AE.l
 en:r.given=false→r.state=0→r.ended=true→r.read≠r.end_
theorem RA{t:Nat}{c:AD}(hc:AY t c)(h0:c.closed=0){k:Nat}(hk:k<4)(hh:(c.r k).high≤4096):GN ((c.read k (5000:Nat)).2.r k)∧∀j,j≠k→(c.read k (5000:Nat)).2.r j=c.r j:=by
 have ho:=hc.rs k hk;have hself:∀r:Bf,(c.BV k r).r k=r:=fun r=>PW hc hk
 have hoth:∀(r:Bf) j,j≠k→(c.BV k r).r j=c.r j:=fun r j hj=>by
  show(c.rs.set k r).getD j FD=_;rw [Bs,if_neg (fun e=>hj e.1.symm)];rfl
 have hrh:=ho.rh;have hgap:=HS (c.r k).AE.l (c.r k).read (c.r k).high ho.co.inc hrh;have hfirst:=LU (lo:=(c.r k).read) (hi:=(c.r k).high) ho.co.inc hrh ho.co.hi;unfold AD.read;rw [if_neg (by rw [Mg h0 hk];simp)];dsimp only;rw [kr];by_cases hgs:(c.r k).given=true∧(c.r k).state=0
 ·have e:c.Dz k={c.r k with state:=2,b:=[]}:=by unfold AD.Dz;rw [if_pos hgs]
  rw [e];dsimp only;rw [if_neg Cc];refine⟨?_,hoth _⟩;rw [hself];exact⟨(fun _ x=>by cases x),fun x=>(by have x:(c.r k).given=false:=x;rw [hgs.1]at x;cases x),fun x=>(by have x:(c.r k).given=false:=x;rw [hgs.1]at x;cases x)⟩
 ·have e:c.Dz k=c.r k:=by unfold AD.Dz;rw [if_neg hgs]
  rw [e];by_cases h2:(c.r k).state=0
  ·have hg:(c.r k).given=false:=by
    cases e2:(c.r k).given
    ·rfl
    ·exact absurd ⟨e2,h2⟩ hgs
   rw [if_pos h2]
   have hN:AD.Gy (c.r k) ((5000:Nat):Int)=(AV (c.r k).read (c.r k).high (c.r k).AE.l).1-(c.r k).read:=by
    unfold AD.Gy;rw [kr];omega
   rw [hN]
   have hrd:(c.r k).read+((AV (c.r k).read (c.r k).high (c.r k).AE.l).1-(c.r k).read)=(AV (c.r k).read (c.r k).high (c.r k).AE.l).1:=by omega
   refine⟨?_,hoth _⟩;rw [hself,hrd];split
   ·exact⟨fun x=>Xe,(fun _ x=>by cases x),(fun _ x=>by cases x)⟩
   ·rename_i hfin;exact⟨fun x=>Xe,fun _ _=>hfirst.2,fun _ _ x y=>hfin ⟨x,y⟩⟩
  ·rw [if_neg h2];refine⟨?_,hoth _⟩;rw [hself];exact⟨fun _=>h2,fun _ x=>absurd x h2,fun _ x=>absurd x h2⟩
theorem j3{t u:Nat}{c d:AD}{L L':List (List AM)}{R R':Nat→Prop}(h:BC c d L L' R R')(hc:AY t c)(hd:AY u d)(o:Out c d)(hr:∀k,k<4→GN (d.r k)){f:AM}(hp:Eu c.ws f)(hs:Fv R' c.ws f):¬d.busy f:=by
 rintro⟨b1,b2,b3⟩;have hk:=hp.s4;have hw:=hc.ws.ok _ hk;have hsent:=(hs.data b1).1;have hhi:=hw.high;have hroom:=hw.room;have rd:=h.p.rd _ hk;have ro:=hd.rs _ hk;have done:=hr _ hk;have hwin:=h.Dy
 have hwc:((c.w f.stream.toNat).A0)≤(d.r f.stream.toNat).read∨(c.w f.stream.toNat).b.length≤(d.r f.stream.toNat).read:=by
  by_cases h0:(d.r f.stream.toNat).state=0
  ·left;rcases kj (d.r f.stream.toNat).read (c.w f.stream.toNat).A0 with x|x
   ·exfalso;have h1:Ao (d.r f.stream.toNat).read (c.ws.getD f.stream.toNat Ab).AE.l:=CJ.Wd hw x;rcases o.Fz _ _ hk h1 with g|g
    ·rw [b2]at g;cases g
    ·exact done.FA b2 h0 g
   ·exact x
  ·right;have hst:=ro.st;rcases(show(d.r f.stream.toNat).state=1∨(d.r f.stream.toNat).state=2 by omega)with x|x
   ·exact Nat.le_of_eq (rd.ME x).2.symm
   ·have:=ro.MW x;rw [b2]at this;cases this
 have hroom:(c.w f.stream.toNat).b.length≤(c.w f.stream.toNat).A0+c.AF:=hroom;have hhi:(c.w f.stream.toNat).high≤(c.w f.stream.toNat).b.length:=hhi;have hsent:f.offset+f.data.size≤(c.w f.stream.toNat).high:=hsent;rcases hwc with x|x<;>omega
section
variable{c d:AD}{L L':List (List AM)}{R R':Nat→Prop}{t u:Nat}
def Gu:Nat→A4→List (List AM)
 |0,z=>[]
 |n+1,z=>if z.filled.2.Ag=[]then []else z.filled.2.Ag::Gu n z.step
def Hh(c:AD):List AT:=if c.answer then c.AI.l.reverse else []
def E6(c:AD):A4:=⟨{c with answer:=false},Hh c,[]⟩
def Hz(c:AD):List (List AM):=Gu 40 (E6 c)
theorem BC.fN(hd:AY u d):∀(n:Nat) (z:A4) (L:List (List AM)),BC z.c d L L' R R'→Bx t z→(∀r∈z.told,∀n,r.lo≤n→n≤r.hi→R' n)→
  BC (Go.Proofs.YtgfdlpcdjklcoaaGreatDoor.B0 n z).c d (L++Gu n z) L' R R'∧(Go.Proofs.YtgfdlpcdjklcoaaGreatDoor.B0 n z).out=z.out++outs z.c.ks (Ae z.c.first) L.length (Gu n z)
 |0,z,L,h,hz,ht=>⟨by show BC z.c d (L++[]) L' R R';rw [kp];exact h,(kp _).symm⟩
 |n+1,z,L,h,hz,ht=>by
  rw [Go.Proofs.YtgfdlpcdjklcoaaGreatDoor.B0,Gu];by_cases hne:z.filled.2.Ag=[]
  ·rw [if_pos hne,if_pos hne,kp];exact⟨h.fill hz hd ht,(kp _).symm⟩
  ·rw [if_neg hne,if_neg hne];obtain⟨a,e⟩:=BC.fN hd n z.step (L++[z.filled.2.Ag]) (h.Sa hz hd ht hne) (hz.step hne).1 (fun r hr=>ht r SQ);refine⟨?_,?_⟩
   ·rw [kt]at a;exact a
   ·rw [e];show(z.out++[Bk z.c.ks (Ae z.c.first) (e_ z.c.next) z.filled.2.b])++outs z.c.ks (Ae z.c.first) (L++[_]).length (Gu n z.step)=_;rw [kt,←h.s.len,a_];rfl
theorem Ui(h0:c.closed=0):c.As=((B0 40 (E6 c)).out,(B0 40 (E6 c)).c):=by
 unfold AD.As;rw [if_neg Ca];rfl
theorem BC.Uq(h:BC c d L L' R R')(hc:AY t c)(hd:AY u d)(g:Ej c L'.length R'):
  BC c.As.2 d (L++Hz c) L' R R'∧c.As.1=outs c.ks (Ae c.first) L.length (Hz c):=by
 rw [Ui h.o]
 have h0:BC ({c with answer:=false}:AD) d L L' R R':=
  ⟨⟨h.s.len,h.s.An,h.s.ne,h.s.fr⟩,h.s',⟨h.p.num,h.p.proc,h.p.rd,h.p.BM,h.p.full⟩,⟨h.p'.num,h.p'.proc,h.p'.rd,h.p'.BM,h.p'.full⟩,h.Dy,h.ks,h.first,h.o,h.o'⟩
 exact BC.fN hd 40 (E6 c) L h0 (Bx.begin hc) (by
  intro r hr n h1 h2
  have hr:r∈(if c.answer then c.AI.l.reverse else []):=hr
  split at hr
  ·exact g.AI n ⟨r,Nh,h1,h2⟩
  ·cases hr)
structure y8(z z':A4)(Ls:List (List AM)):Prop where
 nx:z'.c.next=z.c.next+Ls.length
 now:z'.c.now=z.c.now
 lg:z'.c.BF=z.c.BF
 fl:∃new,z'.c.Aa=z.c.Aa++new∧(∀p∈new,p.at_=z.c.now∧z.c.next≤p.number∧p.number<z.c.next+Ls.length)∧(new≠ []→∃fs∈Ls,DE fs=true)
 FO:∀fs∈Ls,∀f∈fs,f.kind=3→∀r∈f.ranges,r∈z.told
 an:z'.c.answer=z.c.answer
theorem nH{z:A4}(hz:Bx t z):∀f∈z.filled.2.Ag,f.kind=3→∀r∈f.ranges,r∈z.told:=by
 intro f hf hk r hr;obtain⟨l,hl,hk2⟩:=hz.filled.Ag;rw [hl]at hf;rcases kg.1 hf with hf|hf
 ·by_cases e:z.told=[]
  ·unfold AD.Bt at hf;rw [if_pos e]at hf;cases hf
  ·rw [OE _ e]at hf;rw [c_.1 hf]at hr;exact List.mem_of_mem_take hr
 ·have:=hk2 f hf;omega
theorem dB:∀(n:Nat) (z:A4),Bx t z→y8 z (B0 n z) (Gu n z)
 |0,z,hz=>gK
 |n+1,z,hz=>by
  rw [Go.Proofs.YtgfdlpcdjklcoaaGreatDoor.B0,Gu];by_cases hne:z.filled.2.Ag=[]
  ·rw [if_pos hne,if_pos hne];exact gK
  ·rw [if_neg hne,if_neg hne];have ih:=dB n z.step (hz.step hne).1;obtain⟨new,f1,f2,f3⟩:=ih.fl;have hsn:z.step.c.next=z.c.next+1:=rfl;refine⟨by rw [ih.nx,hsn];show _=z.c.next+(_+1);omega,ih.now,ih.lg,?_,?_,ih.an⟩
   ·by_cases hw:DE z.filled.2.Ag=true
    ·have hfl:z.step.c.Aa=z.c.Aa++[⟨z.c.next,z.c.now,z.filled.2.Ag⟩]:=if_pos hw;refine⟨⟨z.c.next,z.c.now,z.filled.2.Ag⟩::new,by rw [f1,hfl,kt];rfl,fun p hp=>?_,fun _=>⟨_,List.mem_cons_self,hw⟩⟩;rcases d_.1 hp with e|e
     ·rw [e];exact⟨rfl,b_ _,by show z.c.next<z.c.next+(_+1);omega⟩
     ·obtain⟨a,b,b2⟩:=f2 p e;exact⟨a,Ca,kZ⟩
    ·have hfl:z.step.c.Aa=z.c.Aa:=if_neg hw;refine⟨new,by rw [f1,hfl],fun p hp=>?_,fun h=>?_⟩
     ·obtain⟨a,b,b2⟩:=f2 p hp;exact⟨a,Ca,kZ⟩
     ·obtain⟨fs,a,b⟩:=f3 h;exact⟨fs,kv _ a,b⟩
   ·intro fs hfs f hf hk r hr;rcases d_.1 hfs with e|e
    ·rw [e]at hf;exact nH hz f hf hk r hr
    ·exact List.mem_of_mem_drop (ih.FO fs e f hf hk r hr)
theorem qX{z:A4}(hz:Bx t z)(n:Nat)(ht:z.told≠ []):∃k rest Ls,Gu (n+1) z=(BT (z.told.take (k+1))::rest)::Ls:=by
 obtain⟨l,hl,hk2⟩:=hz.filled.Ag;rw [OE _ ht]at hl;have hp:=NK z.told (z.c.AJ-16) z.told.length (kx.2 ht);rw [Gu,if_neg (by rw [hl];simp)];refine⟨DZ z.told (z.c.AJ-16) z.told.length-1,l,Gu n z.step,?_⟩;rw [show DZ z.told (z.c.AJ-16) z.told.length-1+1=DZ z.told (z.c.AJ-16) z.told.length by omega,hl];rfl
structure Tk(c c':AD)(fs:List AM):Prop where
 now:c'.now=c.now
 next:c'.next=c.next
 fl:c'.Aa.Sublist c.Aa
 an:c'.answer=true↔c.answer=true∨∃f∈fs,f.kind≠3
theorem UF(c:AD)(f:AM):(c.take f).2.now=c.now∧(c.take f).2.next=c.next∧(c.take f).2.answer=c.answer∧(c.take f).2.Aa.Sublist c.Aa:=by
 unfold AD.take;split
 ·unfold AD.BM;split
  ·exact Rq
  ·exact⟨rfl,rfl,rfl,ky.trans ky⟩
 split
 ·split<;>exact Rq
 split
 ·exact Rq
 split<;>exact Rq
theorem V9(hd:AY u d):∀(fs:List AM) (c:AD),BC c d L L' R R'→AY t c→(∀f∈fs,Eu d.ws f∧Fv R d.ws f∧¬c.busy f)→Tk c (c.BO fs).2 fs
 |[],c,_,_,_=>⟨rfl,rfl,List.Sublist.refl _,⟨.inl,fun h=>h.elim id (fun⟨_,h,_⟩=>nomatch h)⟩⟩
 |f::fs,c,h0,hc,hf=>by
  obtain⟨h1,h2,h3⟩:=hf f Ce;obtain⟨a,b,_⟩:=h0.take hc hd h1 h2 h3;obtain⟨a',b',e'⟩:=hc.take f (.of h1.ok) h3;obtain⟨t1,t2,t3,t4⟩:=UF c f;rw [AD.BO,if_neg Ca]
  have hx:BC ({(c.take f).2 with answer:=(c.take f).2.answer||(decide (f.kind≠3)&&decide (f.kind≠1))}:AD) d L L' R R':=
   ⟨⟨b.s.len,b.s.An,b.s.ne,b.s.fr⟩,b.s',⟨b.p.num,b.p.proc,b.p.rd,b.p.BM,b.p.full⟩,⟨b.p'.num,b.p'.proc,b.p'.rd,b.p'.BM,b.p'.full⟩,b.Dy,b.ks,b.first,b.o,b.o'⟩
  have ih:=V9 hd fs ({(c.take f).2 with answer:=(c.take f).2.answer||(decide (f.kind≠3)&&decide (f.kind≠1))}:AD) hx {a' with}
   (fun g hg=>⟨(hf g Ci).1,(hf g Ci).2.1,K2 (c:=c) (fun k=>b' k) e' (hf g Ci).2.2⟩)
  refine⟨ih.now.trans t1,ih.next.trans t2,ih.fl.trans t4,ih.an.trans ?_⟩
  have hk1:f.kind≠1:=by have:=h2.kind;omega
  show((c.take f).2.answer||(decide (f.kind≠3)&&decide (f.kind≠1)))=true∨_↔_;rw [t3,Bool.or_eq_true,ko,decide_eq_true_eq,decide_eq_true_eq];constructor
  ·rintro((x|x)|⟨g,hg,x⟩)
   ·exact .inl x
   ·exact .inr ⟨f,Ce,x.1⟩
   ·exact .inr ⟨g,Ci,x⟩
  ·rintro(x|⟨g,hg,x⟩)
   ·exact .inl (.inl x)
   ·rcases d_.1 hg with e|e
    ·rw [e]at x;exact .inl (.inr ⟨x,hk1⟩)
    ·exact .inr ⟨g,e,x⟩
theorem sF{f:AM}(hk:f.kind≠3)(c:AD):(c.take f).2.ws=c.ws∧(c.take f).2.Aa=c.Aa∧(c.take f).2.BF=c.BF:=by
 unfold AD.take;rw [if_neg hk];split
 ·split<;>exact HY
 split
 ·exact HY
 split<;>exact HY
theorem Ve{mc:Nat}(hd:AY u d):∀(fs:List AM) (c:AD),BC c d L L' R R'→AY t c→(∀f∈fs,Eu d.ws f∧Fv R d.ws f∧¬c.busy f)→(∀f∈fs,f.kind=3→(rg f.ranges 0).hi<mc)→mc≤c.next→H7 mc c→
  U4 (c.BO fs).2.ws≤U4 c.ws∧H7 mc (c.BO fs).2
 |[],c,_,_,_,_,_,h=>⟨b_ _,h⟩
 |f::fs,c,h0,hc,hf,hh,hn,hcl=>by
  obtain⟨h1,h2,h3⟩:=hf f Ce;obtain⟨a,b,_⟩:=h0.take hc hd h1 h2 h3;obtain⟨a',b',e'⟩:=hc.take f (.of h1.ok) h3;obtain⟨t1,t2,t3,t4⟩:=UF c f
  have hone:U4 (c.take f).2.ws≤U4 c.ws∧H7 mc (c.take f).2:=by
   by_cases hk:f.kind=3
   ·have:c.take f=c.BM f.ranges:=by unfold AD.take;rw [if_pos hk]
    rw [this];exact iZ hc (hh f Ce hk) hn (fun p hp=>.inr (hcl.fl p hp)) hcl.lg
   ·obtain⟨w1,w2,w3⟩:=sF hk c;rw [w1];exact⟨b_ _,fun p hp=>hcl.fl p (by rw [w2]at hp;exact hp),by rw [w3];exact hcl.lg⟩
  rw [AD.BO,if_neg Ca]
  have hx:BC ({(c.take f).2 with answer:=(c.take f).2.answer||(decide (f.kind≠3)&&decide (f.kind≠1))}:AD) d L L' R R':=
   ⟨⟨b.s.len,b.s.An,b.s.ne,b.s.fr⟩,b.s',⟨b.p.num,b.p.proc,b.p.rd,b.p.BM,b.p.full⟩,⟨b.p'.num,b.p'.proc,b.p'.rd,b.p'.BM,b.p'.full⟩,b.Dy,b.ks,b.first,b.o,b.o'⟩
  obtain⟨i1,i2⟩:=Ve (mc:=mc) hd fs ({(c.take f).2 with answer:=(c.take f).2.answer||(decide (f.kind≠3)&&decide (f.kind≠1))}:AD) hx {a' with}
   (fun g hg=>⟨(hf g Ci).1,(hf g Ci).2.1,K2 (c:=c) (fun k=>b' k) e' (hf g Ci).2.2⟩) (fun g hg=>hh g Ci) (by show mc≤(c.take f).2.next;rw [t2];exact hn) ⟨hone.2.fl,hone.2.lg⟩
  exact⟨lf i1 hone.1,i2⟩
end
section
variable{c d:AD}{L L':List (List AM)}{R R':Nat→Prop}{t u:Nat}
def Eh:List (List UInt8)→AD→AD
 |[],c=>c
 |p::ps,c=>Eh ps (c.BA p).2
theorem cV(h:BC c d L L' R R')(hd:AY u d){n:Nat}{fs:List AM}(hn:L'[n]?=some fs)(hu:u≤1000000000)(hnew:¬c.AI.has n)(hnb:∀f∈fs,¬c.busy f):
  (c.BA (Bk d.ks (Ae d.first) (e_ n) (Ar fs))).2=(({c with AI:=c.AI.add n n}:AD).BO fs).2:=by
 have hlt:n<L'.length:=by
  rcases kj n L'.length with h|h
  ·exact h
  ·rw [i_ h]at hn;cases hn
 have hmem:fs∈L':=j_ hn;obtain⟨ne,nl⟩:=h.s'.ne fs hmem;have hfr:=h.s'.fr fs hmem;have hnx:=hd.nx
 have hnL:n≤4611686018427387903:=by have:=h.s'.len;omega
 have ho:B3 c.ks (Ae (!c.first)) (Bk d.ks (Ae d.first) (e_ n) (Ar fs))=some (e_ n,Ar fs):=by
  rw [h.ks,h.first];exact OL _ _ _ _ Vd Sw
 have hdec:FN (Ar fs)=.ok fs:=by
  have he:Fu fs=some (Ar fs):=by unfold Fu;rw [if_pos ⟨ne,fun f hf=>(hfr f hf).1.ok⟩]
  have:=(UU he (fun f hf=>by have:=(hfr f hf).1.rg;omega)).1
  rw [Vp (fun f hf=>(hfr f hf).1.nm)]at this;exact this
 unfold AD.BA;rw [if_neg Pg,ho];dsimp only;rw [JQ hnL,if_neg hnew,hdec];dsimp only;rw [if_neg (fun⟨f,hf,hb⟩=>hnb f hf hb)]
theorem bP(h:BC c d L L' R R')(s:BD):BC ({c with AI:=s}:AD) d L L' R R':=
 ⟨⟨h.s.len,h.s.An,h.s.ne,h.s.fr⟩,h.s',⟨h.p.num,h.p.proc,h.p.rd,h.p.BM,h.p.full⟩,⟨h.p'.num,h.p'.proc,h.p'.rd,h.p'.BM,h.p'.full⟩,h.Dy,h.ks,h.first,h.o,h.o'⟩
structure NJ(mc m:Nat)(c c':AD)(Ls:List (List AM)):Prop where
 now:c'.now=c.now
 next:c'.next=c.next
 fl:c'.Aa.Sublist c.Aa
 an:c'.answer=true↔c.answer=true∨∃fs∈Ls,∃f∈fs,f.kind≠3
 r:∀k,Fk (c.r k) (c'.r k)
 Dy:c'.AF=c.AF
 top:Ls≠ []→∃r',c'.AI.l.getLast?=some r'∧r'.hi+1=m+Ls.length∧r'.lo≤m∧∀r,c.AI.l.getLast?=some r→r.hi+1=m→r'.lo≤r.lo
 clear:mc≤c.next→(∀fs∈Ls,∀f∈fs,f.kind=3→(rg f.ranges 0).hi<mc)→H7 mc c→U4 c'.ws≤U4 c.ws∧H7 mc c'
structure LC(t m:Nat)(c:AD):Prop where
 inv:AY t c
 lt:∀x,Ao x c.AI.l→x<m
 fl:c.AI.floor≤m
theorem ZL(h:BC c d L L' R R')(hd:AY u d)(g:Ej c L'.length R')(mc:Nat){m:Nat}(hw:LC t m c){fs:List AM}(hn:L'[m]?=some fs)(hu:u≤1000000000)(hnb:∀f∈fs,¬c.busy f):
  ∃c' R2,c'=(c.BA (Bk d.ks (Ae d.first) (e_ m) (Ar fs))).2∧BC c' d L L' R R2∧Ej c' L'.length R2∧LC t (m+1) c'∧NJ mc m c c' [fs]:=by
 have hmem:fs∈L':=j_ hn
 have hlt:m<L'.length:=by
  rcases kj m L'.length with h|h
  ·exact h
  ·rw [i_ h]at hn;cases hn
 have hfr:=h.s'.fr fs hmem;have hnx:=hd.nx;have hlen:=h.s'.len
 have hnew:¬c.AI.has m:=by
  rintro(x|x)
  ·have:=hw.fl;omega
  ·have:=hw.lt m x;omega
 have e1:=cV h hd hn hu hnew hnb;have hg':=hw.inv.AI.add m m Ca UR
 have hc2:AY t ({c with AI:=c.AI.add m m}:AD):={hw.inv with AI:=hg'.1,gm:=hg'.2.trans hw.inv.gm}
 have hfs:∀f∈fs,Eu d.ws f∧Fv R d.ws f∧¬({c with AI:=c.AI.add m m}:AD).busy f:=fun f hf=>⟨(hfr f hf).1,(hfr f hf).2,hnb f hf⟩
 have h2:=bP h (c.AI.add m m);obtain⟨a1,a2,a3,a4,a5,a6,a7,a8⟩:=BC.BO (t:=t) hd fs _ h2 hc2 hfs;have tk:=V9 (t:=t) hd fs _ h2 hc2 hfs;obtain⟨R2,b1,b2,b3,b4⟩:=h.BA hw.inv hd g hn hu;obtain⟨r',l1,l2,l3,l4,l5,l6⟩:=xV hw.inv.AI hw.lt hw.fl UR;have hc':=hw.inv.BA (Bk d.ks (Ae d.first) (e_ m) (Ar fs)) (fun n b e=>Nat.le_of_lt_succ (OH e).2.2);refine⟨_,R2,rfl,b2,b3,?_,?_⟩
 ·rw [e1]at hc'⊢;exact⟨hc',fun x hx=>l5 x (by rw [a3]at hx;exact hx),by rw [a3];exact l6⟩
 ·rw [e1];refine⟨tk.now,tk.next,tk.fl,tk.an.trans ?_,a5,a6,fun _=>⟨r',by rw [a3];exact l1,by rw [l2];rfl,l3,l4⟩,fun x1 x2 x3=>?_⟩
  ·constructor
   ·rintro(x|⟨f,hf,x⟩)
    ·exact .inl x
    ·exact .inr ⟨fs,Ce,f,hf,x⟩
   ·rintro(x|⟨gs,hg,f,hf,x⟩)
    ·exact .inl x
    ·rw [c_.1 hg]at hf;exact .inr ⟨f,hf,x⟩
  ·exact Ve (t:=t) (mc:=mc) hd fs _ h2 hc2 hfs (fun f hf hk=>x2 fs Ce f hf hk) x1 ⟨x3.fl,x3.lg⟩
theorem NJ.trans{mc m:Nat}{a b e:AD}{fs:List AM}{Ls:List (List AM)}(hl:Ls≠ [])(h:NJ mc m a b [fs])(g:NJ mc (m+1) b e Ls):NJ mc m a e (fs::Ls):=by
 refine⟨g.now.trans h.now,g.next.trans h.next,g.fl.trans h.fl,g.an.trans ?_,fun k=>(h.r k).trans (g.r k),g.Dy.trans h.Dy,fun _=>?_,fun x1 x2 x3=>?_⟩
 ·rw [h.an];constructor
  ·rintro((x|⟨gs,hg,x⟩)|⟨gs,hg,x⟩)
   ·exact .inl x
   ·rw [c_.1 hg]at x;exact .inr ⟨fs,Ce,x⟩
   ·exact .inr ⟨gs,Ci,x⟩
  ·rintro(x|⟨gs,hg,x⟩)
   ·exact .inl (.inl x)
   ·rcases d_.1 hg with e|e
    ·rw [e]at x;exact .inl (.inr ⟨fs,Ce,x⟩)
    ·exact .inr ⟨gs,e,x⟩
 ·obtain⟨r1,p1,p2,p3,p4⟩:=h.top Ce;obtain⟨r2,q1,q2,q3,q4⟩:=g.top hl;have p2':r1.hi+1=m+1:=p2
  have:=q4 r1 p1 p2'
  exact⟨r2,q1,by rw [q2];show m+1+Ls.length=m+(Ls.length+1);omega,lf this p3,fun r hr he=>lf this (p4 r hr he)⟩
 ·obtain⟨y1,y2⟩:=h.clear x1 (fun gs hg=>x2 gs (by rw [c_.1 hg];simp)) x3;obtain⟨z1,z2⟩:=g.clear (by rw [h.next];exact x1) (fun gs hg=>x2 gs Ci) y2;exact TN
theorem Qa(hd:AY u d)(hu:u≤1000000000)(mc:Nat):∀(Ls:List (List AM)) (m:Nat) (c:AD) (R':Nat→Prop),Ls≠ []→BC c d L L' R R'→Ej c L'.length R'→LC t m c→(∀j fs,Ls[j]?=some fs→L'[m+j]?=some fs)→(∀fs∈Ls,∀f∈fs,¬c.busy f)→
  ∃R2,BC (Eh (outs d.ks (Ae d.first) m Ls) c) d L L' R R2∧Ej (Eh (outs d.ks (Ae d.first) m Ls) c) L'.length R2∧LC t (m+Ls.length) (Eh (outs d.ks (Ae d.first) m Ls) c)∧NJ mc m c (Eh (outs d.ks (Ae d.first) m Ls) c) Ls
 |[],m,c,R',hne,_,_,_,_,_=>absurd rfl hne
 |fs::Ls,m,c,R',_,h,g,hw,hn,hnb=>by
  obtain⟨c',R2,e,b2,b3,b4,b5⟩:=ZL h hd g mc hw (hn 0 fs rfl) hu (hnb fs Ce)
  have e2:Eh (outs d.ks (Ae d.first) m (fs::Ls)) c=Eh (outs d.ks (Ae d.first) (m+1) Ls) c':=by rw [e];rfl
  rw [e2];by_cases hl:Ls=[]
  ·subst hl;exact⟨R2,b2,b3,b4,b5⟩
  ·obtain⟨R3,i1,i2,i3,i4⟩:=Qa hd hu mc Ls (m+1) c' R2 hl b2 b3 b4 (fun j gs hj=>by
    have:=hn (j+1) gs hj
    rw [show m+(j+1)=m+1+j by omega]at this;exact this) (fun gs hg f hf=>K2 (c:=c) b5.r b5.Dy (hnb gs Ci f hf))
   exact⟨R3,i1,i2,by rw [show m+(fs::Ls).length=m+1+Ls.length by simp;omega];exact i3,b5.trans hl i4⟩
end
end Go.Proofs.YtgfdlpcdjklcoaaGreatDoor
