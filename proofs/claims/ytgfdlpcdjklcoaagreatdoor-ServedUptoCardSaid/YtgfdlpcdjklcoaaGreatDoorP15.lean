/- Steps of this proof; no condition. -/
import Derived.Test.YtgfdlpcdjklcoaaGreatDoorP14
import Derived.Conc.Know
import Derived.Conc.CrowdComm
import Derived.Conc.Pipeline3
namespace Go.Proofs.YtgfdlpcdjklcoaaGreatDoor
open Go Go.RowKit Go.Proofs.Tryz HP AB Oper
open _root_.List renaming length→aa
set_option linter.all false
variable{w B w2:World}{b i n N c sb:Nat}{t:Trace}{G:Nat→Goroutine}{k:IntKind}{v:Value}{L:Nat→Option Obj}{X:Nat→Nat→Prop}{Y:Nat→Prop}{vs V:Nat→World}{dir:ChanDir}{r:Option (Nat×Value)}
open _root_.Option renaming some→ad
open _root_.Go.Instr renaming findNow→a9,checkKey→cx,findKey→c6,lookup→eo,mapUpdate→hO,makeMap→hB
set_option maxRecDepth 20000
section
variable{B:World}
def Hk(mt a:Nat)(ks:List UInt8)(first:Bool)(g e:Nat)(ov iv:Value):SC:=⟨mt,a,ks,first,0,0,false,0,g,e,.slice none 0 0,ov,iv,.slice none 0 0⟩
def MB(mt a:Nat)(ks:List UInt8)(g e:Nat):List Value:=[iN mt,iN a]++(AE ks++([iN 0]++([iN 0]++([uN 0]++([.bool false]++([uN 0]++([ptr g 0]++([ptr e 0]++([.slice none 0 0]++([.slice none 0 0]++([.slice none 0 0]++[.slice none 0 0])))))))))))
def Aab(mt a)(ks:List UInt8)(g e):(MB mt a ks g e).all live=true:=by
 unfold MB;simp only[List.all_append,Kx];rfl
def xl(b mt a)(ks:List UInt8)(Z:ks.length=16)(g e):AA b 0 (MB mt a ks g e)=Ag b (Hk mt a ks true g e (.slice none 0 0) (.slice none 0 0)):=by
 unfold MB
 rw[Ew _ _ (rfl:0+2=0+2),Ew (o:=0+2) (o':=0+18) _ _ (by rw[II Z]),
  Ew (o:=0+18) (o':=0+19) _ _ rfl,Ew (o:=0+19) (o':=0+20) _ _ rfl,Ew (o:=0+20) (o':=0+21) _ _ rfl,Ew (o:=0+21) (o':=0+22) _ _ rfl,Ew (o:=0+22) (o':=0+23) _ _ rfl,
  Ew (o:=0+23) (o':=0+24) _ _ rfl,Ew (o:=0+24) (o':=0+25) _ _ rfl,Ew (o:=0+25) (o':=0+26) _ _ rfl,Ew (o:=0+26) (o':=0+27) _ _ rfl,Ew (o:=0+27) (o':=0+28) _ _ rfl]
 rfl
def Vn:List Value:=[.int .i64 0,.int .i64 0]++([AT,AT,AT,AT,AT,AT,AT,AT,AT,AT,AT,AT,AT,AT,AT,AT]++([iN 0]++([iN 0]++([uN 0]++([.bool false]++([uN 0]++([.pointer none]++([.pointer none]++([.slice none 0 0]++([.slice none 0 0]++([.slice none 0 0]++[.slice none 0 0])))))))))))
theorem Aat:Bh prog 116 (.agg Vn.toArray):=by
 have h:Bh prog 116 _:=AH;refine Eq.mp (congrArg (Bh prog 116) ?_) h;kernel_rfl
def Aez(mt a)(ks:List UInt8)(Z:aa ks=16)(g e):
  Kv #[(0,2),(2,16),(18,1),(19,1),(20,1),(21,1),(22,1),(23,1),(24,1),(25,1),(26,1),(27,1),(28,1)] Vn
   [(0,.agg [iN mt,iN a].toArray),(1,.agg (AE ks).toArray),(7,ptr g 0),(8,ptr e 0)] (MB mt a ks g e):=by
 have hl1:aa (AE ks)=16:=II Z;unfold Vn;exact(KF [] [.int .i64 0,.int .i64 0] ([AT,AT,AT,AT,AT,AT,AT,AT,AT,AT,AT,AT,AT,AT,AT,AT]++([iN 0]++([iN 0]++([uN 0]++([.bool false]++([uN 0]++([.pointer none]++([.pointer none]++([.slice none 0 0]++([.slice none 0 0]++([.slice none 0 0]++[.slice none 0 0]))))))))))) [iN mt,iN a] I I I I
  (KF [iN mt,iN a] [AT,AT,AT,AT,AT,AT,AT,AT,AT,AT,AT,AT,AT,AT,AT,AT] ([iN 0]++([iN 0]++([uN 0]++([.bool false]++([uN 0]++([.pointer none]++([.pointer none]++([.slice none 0 0]++([.slice none 0 0]++([.slice none 0 0]++[.slice none 0 0])))))))))) (AE ks) SO I SO I
  (KF ([iN mt,iN a]++(AE ks++[iN 0,iN 0,uN 0,.bool false,uN 0])) [.pointer none] [.pointer none,.slice none 0 0,.slice none 0 0,.slice none 0 0,.slice none 0 0] [ptr g 0] yE VI I I
  (KF ([iN mt,iN a]++(AE ks++[iN 0,iN 0,uN 0,.bool false,uN 0,ptr g 0])) [.pointer none] [.slice none 0 0,.slice none 0 0,.slice none 0 0,.slice none 0 0] [ptr e 0] yE VI I I
  (by unfold MB;simp only[c5];exact Tm)))))
def Ex(q c:Nat):Ds:=⟨q,CX,c,B0⟩
def GR(q:Nat):E0:=⟨q,KD,Bw,Bw⟩
def wk(q c):Bc (Ex q c)=AA q 0 [.string ⟨#[]⟩,ptr c 0,.bool false,.bool false,uN 0,uN 0,uN 0]*AK c B0 (.of 1073741824):=rfl
def vr(q):BP (GR q)=AA q 0 [.slice none 0 0,.slice none 0 0,uN 0,uN 0,.bool false,.bool false,uN 0,uN 0,iN 0]:=by
 show AA q 0 _*(Bw.h ([]:List UInt8)*Bw.h ([]:List Bool))=_;rw[HJ,HJ,Hr,Hr];rfl
set_option maxHeartbeats 4000000 in
def Adq(AV AI:Int)(ks:List UInt8)(hk:aa ks=16)(first:Bool)(H:HP):
  Fn prog B 17 [.agg [.int .i64 AV,.int .i64 AI].toArray,.agg (AE ks).toArray,.bool first] H (λv S=>
   (¬Gb AV AI∧v=.tuple #[.pointer none,iN 1]∧S=H)∨
   (Gb AV AI∧∃sb m,m.ok∧m.s=AL.new AV.toNat AI.toNat ks first∧v=.tuple #[ptr sb 0,iN 0]∧S=Ad sb m*H)):=by
 refine mI func17 ?_;refine J2 ?_;refine Ae S6 I ?_;rintro _ _ ⟨b3,rfl,rfl⟩;refine LG ?_;rintro _ _ ⟨b4,rfl,rfl⟩;refine BQ ?_;refine JL (Jr (i:=AV) (j:=64) I I)<|J1 ?_;refine DU 13 I (λK=>?_) (λK=>?_)
 ·have g1:=K;refine Ff ?_;refine A5 ?_;exact Md
 have g1:=K;refine BB ?_;refine JL (YI (i:=AV) (j:=300) I I)<|BE ?_;refine DU 18 I (λe=>?_) (λe=>?_)
 ·have g2:=e;refine IU ?_;refine A4 ?_;exact Md
 have g2:=e;refine BB ?_;refine JL (Jr (i:=AI) (j:=16) I I)<|BE ?_;refine DU 23 I (λO=>?_) (λO=>?_)
 ·have g3:=O;refine Eh ?_;exact Md
 have g3:=O;refine BB ?_;refine JL qI<|A5 ?_;refine mC (λg4=>?_) (λg4=>?_)
 ·refine Be ?_;exact Md
 obtain⟨mt,rfl⟩:∃mt:Nat,AV=mt:=⟨AV.toNat,C0⟩
 obtain⟨wi,rfl⟩:∃wi:Nat,AI=wi:=⟨AI.toNat,C0⟩
 refine J3 ?_;refine mA 5 7 ?_;refine JT 0 I yG<|JT 1 I OM<|Au 2 C1 I I (Bd I (f5 8 _ C0)) ?_;rintro _ _ ⟨p,rfl,rfl⟩;refine BT ?_;refine Au 3 C1 I I mJ ?_;rintro _ _ ⟨q31,rfl,rfl⟩;refine BT ?_;refine JT 4 I (Th (hz:=Aat) (cs:=MB mt wi ks p q31) I (Aez mt wi ks hk p q31))<|Au 5 C1 I I (EB (l:=MB mt wi ks p q31) I I (Aab mt wi ks p q31)) ?_;rintro _ _ ⟨U,rfl,rfl⟩;refine FF ?_;refine GU 6 C1 I I HG Fk ?_;refine Bn ?_;refine I4 (AA U 0 (MB mt wi ks p q31)*(AK q31 B0 (.of 1073741824)*(AK p B0 (.of 8)*H)))<|A3 (H':=Ag U (Hk mt wi ks true p q31 (.slice none 0 0) (.slice none 0 0))*(AK q31 B0 (.of 1073741824)*(AK p B0 (.of 8)*H))) (by rw[xl U mt wi ks hk])<|BB ?_;refine Bq (α:=Unit) (λ_=>[(8,ptr U 0)]) (λ_=>Ag U (Hk mt wi ks first p q31 (.slice none 0 0) (.slice none 0 0))*(AK q31 B0 (.of 1073741824)*(AK p B0 (.of 8)*H))) (λ_=>True) ?_ ?_
 ·refine mc (λF=>?_) (λF=>?_)
  ·refine J4 ?_;refine Bl Wl<|GZ ?_;obtain rfl:first=false:=(by have F:(!first)=true:=F;cases first;rfl;cases F)
   exact An () trivial U4 I
  refine J1 ?_;obtain rfl:first=true:=(by have F:(!first)=false:=F;cases first;cases F;rfl)
  exact An () trivial U4 I
 rintro _ _;refine Be ?_;refine Bf (α:=List Ds×List E0×Am×Am) (λz=>[(9,iN (aa z.1)),(8,ptr U 0)]) (λz=>Ag U (Hk mt wi ks first p q31 (z.2.2.1.v (aa z.1)) (z.2.2.2.v (aa z.2.1)))*(z.2.2.1.h z.1*(AP Bc z.1*(z.2.2.2.h z.2.1*(AP BP z.2.1*(AK q31 B0 (.of 1073741824)*(AK p B0 (.of 8)*H))))))) (λz=>aa z.1≤4∧aa z.2.1=aa z.1∧z.2.2.1.ok z.1∧z.2.2.2.ok z.2.1∧(∀o∈z.1,∃q c,o=Ex q c)∧(∀x∈z.2.1,∃q,x=GR q)) (λz=>4-aa z.1) ([],[],Bw,Bw) ⟨bk _,I,Fe,Fe,(λ_ h=>nomatch h),(λ_ h=>nomatch h)⟩ WS (by
  show Ag U (Hk mt wi ks first p q31 (.slice none 0 0) (.slice none 0 0))*_=Ag U (Hk mt wi ks first p q31 (.slice none 0 0) (.slice none 0 0))*(Bw.h ([]:List Ds)*(AP Bc []*(Bw.h ([]:List E0)*(AP BP []*_))));rw[HJ,HJ,GX,GX,BS,BS,BS,BS]) ?_
 rintro⟨os,is,oa,ia⟩ ⟨p1,p2,p3,p4,p5,p6⟩;dsimp only at p1 p2 p3 p4 p5 p6⊢;refine J4 ?_;refine JL TY<|J2 ?_;refine mC (λh40=>?_) (λh40=>?_)
 ·have h40:aa os<4:=h40;refine J5 ?_;refine A3 (H':=Ag U (Hk mt wi ks first p q31 (oa.v (aa os)) (ia.v (aa is)))*(AC oa.b oa.o os oa.s*(AP Bc os*(AC ia.b ia.o is ia.s*(AP BP is*(AK q31 B0 (.of 1073741824)*(AK p B0 (.of 8)*H))))))) I<|EI (Ag U (Hk mt wi ks first p q31 (oa.v (aa os)) (ia.v (aa is)))) 12 13 EO I C1<|Bn ?_;refine JT 4 I (Dx Gr I)<|Au 5 C1 I I mJ ?_;rintro _ _ ⟨a,rfl,rfl⟩;refine BT ?_;refine JT 6 I (Dx (v':=.agg #[.string ⟨#[]⟩,ptr a 0,.bool false,.bool false,uN 0,uN 0,uN 0]) LS I)<|Au 7 C1 I I (EB (l:=[.string ⟨#[]⟩,ptr a 0,.bool false,.bool false,uN 0,uN 0,uN 0]) I I) ?_;rintro _ _ ⟨f,rfl,rfl⟩;refine BT ?_;refine Au 8 C1 I I (Gn (cs:=[ptr f 0]) I Cc I I) ?_;rintro _ _ ⟨b51,rfl,rfl⟩;refine BT ?_;refine F9 (H':=AC oa.b oa.o os oa.s*(AA b51 0 (AE [Ex f a])*(AA f 0 [.string ⟨#[]⟩,ptr a 0,.bool false,.bool false,uN 0,uN 0,uN 0]*(AK a B0 (.of 1073741824)*(Ag U (Hk mt wi ks first p q31 (oa.v (aa os)) (ia.v (aa is)))*(AP Bc os*(AC ia.b ia.o is ia.s*(AP BP is*(AK q31 B0 (.of 1073741824)*(AK p B0 (.of 8)*H)))))))))) (by show AA b51 0 [ptr f 0]*_=_;rw[show AE [Ex f a]=[ptr f 0]from rfl];ac_rfl)<|Au 9 C1 I I (CA (ys:=[Ex f a]) (bb:=b51) (oo:=0) (cc:=1) I p3.1 p3.2 I Bz AH I Cd C0) ?_;rintro _ _ ⟨p52,b52,o52,c52,s52,rfl,hs52,hc52,rfl⟩;refine BT ?_;refine CY ?_;refine JL (Dx Gr I)<|JL (Dx (v':=.agg #[.slice none 0 0,.slice none 0 0,uN 0,uN 0,.bool false,.bool false,uN 0,uN 0,iN 0]) LS I)<|Ae (EB (l:=[.slice none 0 0,.slice none 0 0,uN 0,uN 0,.bool false,.bool false,uN 0,uN 0,iN 0]) I I) I ?_;rintro _ _ ⟨b61,rfl,rfl⟩;refine Ae (Gn (cs:=[ptr b61 0]) I Cc I I) I ?_;rintro _ _ ⟨b62,rfl,rfl⟩;refine BH (H':=AC ia.b ia.o is ia.s*(AA b62 0 (AE [GR b61])*(AA b61 0 [.slice none 0 0,.slice none 0 0,uN 0,uN 0,.bool false,.bool false,uN 0,uN 0,iN 0]*(Ag U (Hk mt wi ks first p q31 (.slice p52 (aa (os++[Ex f a])) c52) (ia.v (aa is)))*(AC b52 o52 (os++[Ex f a]) s52*(AA b51 0 (AE [Ex f a])*(AA f 0 [.string ⟨#[]⟩,ptr a 0,.bool false,.bool false,uN 0,uN 0,uN 0]*(AK a B0 (.of 1073741824)*(AP Bc os*(AP BP is*(AK q31 B0 (.of 1073741824)*(AK p B0 (.of 8)*H)))))))))))) (by show AA b62 0 [ptr b61 0]*_=_;rw[show AE [GR b61]=[ptr b61 0]from I,show Ag U (Hk mt wi ks first p q31 (.slice p52 (aa (os++[Ex f a])) c52) (ia.v (aa is)))=Ag U {Hk mt wi ks first p q31 (oa.v (aa os)) (ia.v (aa is))with ov:=.slice p52 (aa (os++[Ex f a])) c52}from rfl];ac_rfl)<|Ae (CA (ys:=[GR b61]) (bb:=b62) (oo:=0) (cc:=1) I p4.1 p4.2 I Bz AH I Cd C0) I ?_;rintro _ _ ⟨p63,b63,o63,c63,s63,rfl,hs63,hc63,rfl⟩;refine CK ?_;refine Bg (Ag U (Hk mt wi ks first p q31 (((os++[Ex f a],is++[GR b61],(⟨p52,b52,o52,c52,s52⟩:Am),(⟨p63,b63,o63,c63,s63⟩:Am)):List Ds×List E0×Am×Am).2.2.1.v ((os++[Ex f a],is++[GR b61],(⟨p52,b52,o52,c52,s52⟩:Am),(⟨p63,b63,o63,c63,s63⟩:Am)):List Ds×List E0×Am×Am).1.length) (((os++[Ex f a],is++[GR b61],(⟨p52,b52,o52,c52,s52⟩:Am),(⟨p63,b63,o63,c63,s63⟩:Am)):List Ds×List E0×Am×Am).2.2.2.v ((os++[Ex f a],is++[GR b61],(⟨p52,b52,o52,c52,s52⟩:Am),(⟨p63,b63,o63,c63,s63⟩:Am)):List Ds×List E0×Am×Am).2.1.length))*(((os++[Ex f a],is++[GR b61],(⟨p52,b52,o52,c52,s52⟩:Am),(⟨p63,b63,o63,c63,s63⟩:Am)):List Ds×List E0×Am×Am).2.2.1.h ((os++[Ex f a],is++[GR b61],(⟨p52,b52,o52,c52,s52⟩:Am),(⟨p63,b63,o63,c63,s63⟩:Am)):List Ds×List E0×Am×Am).1*(AP Bc ((os++[Ex f a],is++[GR b61],(⟨p52,b52,o52,c52,s52⟩:Am),(⟨p63,b63,o63,c63,s63⟩:Am)):List Ds×List E0×Am×Am).1*(((os++[Ex f a],is++[GR b61],(⟨p52,b52,o52,c52,s52⟩:Am),(⟨p63,b63,o63,c63,s63⟩:Am)):List Ds×List E0×Am×Am).2.2.2.h ((os++[Ex f a],is++[GR b61],(⟨p52,b52,o52,c52,s52⟩:Am),(⟨p63,b63,o63,c63,s63⟩:Am)):List Ds×List E0×Am×Am).2.1*(AP BP ((os++[Ex f a],is++[GR b61],(⟨p52,b52,o52,c52,s52⟩:Am),(⟨p63,b63,o63,c63,s63⟩:Am)):List Ds×List E0×Am×Am).2.1*(AK q31 B0 (.of 1073741824)*(AK p B0 (.of 8)*H))))))) (hE:=⟨λww hw=>Sat.right (A:=AA b51 0 (AE [Ex f a])*AA b62 0 (AE [GR b61])) (Eq.mp (by
   congr 1;show _=AA b51 0 (AE [Ex f a])*AA b62 0 (AE [GR b61])*(Ag U (Hk mt wi ks first p q31 (.slice p52 (aa (os++[Ex f a])) c52) (.slice p63 (aa (is++[GR b61])) c63))*(AC b52 o52 (os++[Ex f a]) s52*(AP Bc (os++[Ex f a])*(AC b63 o63 (is++[GR b61]) s63*(AP BP (is++[GR b61])*(AK q31 B0 (.of 1073741824)*(AK p B0 (.of 8)*H)))))));rw[LY,LY,HK,HK,GX,GX,Hr,Hr,wk,vr];ac_rfl) hw)⟩) ?_
  exact BV (os++[Ex f a],is++[GR b61],⟨p52,b52,o52,c52,s52⟩,⟨p63,b63,o63,c63,s63⟩) ⟨by rw[a5];exact h40,by rw[a5,a5,p2];rfl,⟨hs52,hc52⟩,⟨hs63,hc63⟩,
    λo Q=>by rcases j2.1 Q with Q|Q;exact p5 o Q;exact⟨f,a,g5.1 Q⟩,λx hx=>by rcases j2.1 hx with hx|hx;exact p6 x hx;exact⟨b61,g5.1 hx⟩⟩
   (by rw[a5];show 4-(aa os+1)<4-aa os;have:aa os<4:=h40;omega) (.cons (congrArg (λk:Nat=>some (iN k)) (show (aa os)+1=(aa (os++[Ex f a])) by rw[a5];rfl)) Jz) I
 have hl4:aa os=4:=by have:¬aa os<4:=h40;omega
 refine FC ?_;obtain⟨m,W⟩:∃m:Ah,m=⟨Hk mt wi ks first p q31 (oa.v (aa os)) (ia.v (aa is)),.of 8,B0,.of 1073741824,B0,[],Bw,os,oa,is,ia,[],Bw⟩:=DF;have hmok:m.ok:=by
  rw[W];exact⟨Mq 8,Mq 1073741824,Fe,p3,p4,Fe,(λo Q=>by obtain⟨q,c,rfl⟩:=p5 o Q;exact Mq 1073741824),(λx hx=>by obtain⟨q,rfl⟩:=p6 x hx;exact⟨Fe,Fe⟩),(λ_ h=>nomatch h),I,I,I,I⟩
 have hms:m.s=AL.new mt wi ks first:=by
  rw[W];unfold Ah.s AL.new;dsimp only;have C:os.map (·.o)=List.replicate 4 CX:=by
   rw[←hl4];exact Alc.2 ⟨C3,λb hb=>by obtain⟨o,Q,rfl⟩:=g9.1 hb;obtain⟨q,c,rfl⟩:=p5 o Q;rfl⟩
  have M:is.map (·.x)=List.replicate 4 KD:=by
   rw[←hl4,←p2];exact Alc.2 ⟨C3,λb hb=>by obtain⟨o,Q,rfl⟩:=g9.1 hb;obtain⟨q,rfl⟩:=p6 o Q;rfl⟩
  rw[C,M];rfl
 exact mR [6,7] (Ad U m*H) (hE:=⟨λww hw=>Eq.mp (by
  congr 1;rw[EK,W];show _=Ag U (Hk mt wi ks first p q31 (oa.v (aa os)) (ia.v (aa is)))*(AK p B0 (.of 8)*(AK q31 B0 (.of 1073741824)*(Bw.h ([]:List BG)*(oa.h os*(AP Bc os*(ia.h is*(AP BP is*(Bw.h ([]:List EL)*(AP DB []*H)))))))));rw[HJ,HJ,GX,BS,BS,BS];ac_rfl) hw⟩) I I (.inr ⟨⟨C0,C0,C0,C0⟩,U,m,hmok,by rw[hms];rfl,I,I⟩)
end
section
variable{B:World}
section
variable{P:Program}{n:Nat}{E:A8}{D:CW}{H:HP}{d:Option Tmp}{T T' ty:TypeId}{pos:String}{af:Array Edge}{g:Option (Nat×Bool)}{x y z u:Operand}
end
@[reducible] def EJ(a:B7):List Value:=[iN a.e,.int .i64 a.at_,iN a.n,uN a.code,.string a.data,.slice none 0 0]
set_option maxHeartbeats 8000000 in
def dy(sb t)(m:Ah)(q:B')(R)(hm:m.ok)(hi:Ar t m.s)(ht:t<900000)(hd:q.data.size<90000000):
  Fn prog B 20 [ptr sb 0,.agg (Bx q).toArray] (Ad sb m*R) (λv H'=>∃m':Ah,m'.ok∧m'.s=(m.s.asks q).2∧v=.agg (EJ (m.s.asks q).1).toArray∧H'=Ad sb m'*R):=by
 refine mI func20 ?_;have o:aa q.data.data.toList<90000000:=YM;refine Kh ?_;rintro _ _ ⟨b3,rfl,rfl⟩;refine Ae W8 I ?_;rintro _ _ ⟨b4,rfl,rfl⟩;refine J4 ?_;refine JL (Dx (v':=.agg #[.int .i64 0,.int .i64 (-1),.int .i64 0,.int .u64 0,.string ⟨#[]⟩,.slice none 0 0]) LS I)<|Ae W8 I ?_;rintro _ _ ⟨b5,rfl,rfl⟩;refine HE ?_;refine JL (Eo (i:=q.kind) (j:=1) I I)<|J3 ?_;refine Bq (α:=Ah×B7) (λz=>[(6,iN z.2.e),(5,ptr b5 0),(4,ptr b4 0),(0,ptr sb 0)]) (λz=>AA b5 0 (EJ {z.2 with e:=0})*(AA b4 0 [.int .i64 0,.int .i64 0,.int .i64 0,.int .u64 0,.string ⟨#[]⟩,.slice none 0 0]*(AA b3 0 (Bx q)*(Ad sb z.1*R)))) (λz=>z.1.ok∧m.s.asks q=(z.2,z.1.s)) ?_ ?_
 ·refine mC (λk1=>?_) (λk1=>?_)
  ·refine J6 ?_;refine OR ?_;refine mE I (ey sb t m q.stream q.data _ hm hi C0) ?_;rintro _ _ ⟨m2,h,S,rfl,rfl⟩;refine J7 ?_;have C:m.s.asks q=((⟨(m.s.write q.stream q.data.data.toList).1.2,-1,(m.s.write q.stream q.data.data.toList).1.1,0,⟨#[]⟩,[]⟩:B7),m2.s):=by
    unfold AL.asks;rw[AJ k1];rw[S]
   exact Bg (AA b5 0 (EJ (⟨0,-1,(m.s.write q.stream q.data.data.toList).1.1,0,⟨#[]⟩,[]⟩:B7))*(AA b4 0 [.int .i64 0,.int .i64 0,.int .i64 0,.int .u64 0,.string ⟨#[]⟩,.slice none 0 0]*(AA b3 0 (Bx q)*(Ad sb m2*R)))) (hE:=⟨λww hw=>Eq.mp (by congr 1;show Ad sb m2*(AA b5 0 (EJ (⟨0,-1,(m.s.write q.stream q.data.data.toList).1.1,0,⟨#[]⟩,[]⟩:B7))*(AA b4 0 [.int .i64 0,.int .i64 0,.int .i64 0,.int .u64 0,.string ⟨#[]⟩,.slice none 0 0]*(AA b3 0 (Bx q)*R)))=(AA b5 0 (EJ (⟨0,-1,(m.s.write q.stream q.data.data.toList).1.1,0,⟨#[]⟩,[]⟩:B7))*(AA b4 0 [.int .i64 0,.int .i64 0,.int .i64 0,.int .u64 0,.string ⟨#[]⟩,.slice none 0 0]*(AA b3 0 (Bx q)*(Ad sb m2*R))));ac_rfl) hw⟩) (An (m2,(⟨(m.s.write q.stream q.data.data.toList).1.2,-1,(m.s.write q.stream q.data.data.toList).1.1,0,⟨#[]⟩,[]⟩:B7)) ⟨h,C⟩ Bu I)
  refine J2 ?_;refine JL (Eo (i:=q.kind) (j:=2) I I)<|J3 ?_;refine mC (λp=>?_) (λp=>?_)
  ·refine J4 ?_;refine OR ?_;refine mE I (zg sb t m q.stream _ hm hi) ?_;rintro _ _ ⟨m2,h,S,rfl,rfl⟩;refine J2 ?_;have C:m.s.asks q=((⟨(m.s.finish q.stream).1,-1,0,0,⟨#[]⟩,[]⟩:B7),m2.s):=by
    unfold AL.asks;rw[AF k1,AJ p];rw[S]
   exact Bg (AA b5 0 (EJ (⟨0,-1,0,0,⟨#[]⟩,[]⟩:B7))*(AA b4 0 [.int .i64 0,.int .i64 0,.int .i64 0,.int .u64 0,.string ⟨#[]⟩,.slice none 0 0]*(AA b3 0 (Bx q)*(Ad sb m2*R)))) (hE:=XW) (An (m2,(⟨(m.s.finish q.stream).1,-1,0,0,⟨#[]⟩,[]⟩:B7)) ⟨h,C⟩ Bu I)
  refine J2 ?_;refine JL (Eo (i:=q.kind) (j:=3) I I)<|J3 ?_;refine mC (λO=>?_) (λO=>?_)
  ·refine J6 ?_;refine OR ?_;refine mE I (ec sb t m q.stream q.code _ hm hi) ?_;rintro _ _ ⟨m2,h,S,rfl,rfl⟩;refine J2 ?_;have C:m.s.asks q=((⟨(m.s.giveUp q.stream q.code).1,-1,0,0,⟨#[]⟩,[]⟩:B7),m2.s):=by
    unfold AL.asks;rw[AF k1,AF p,AJ O];rw[S]
   exact Bg (AA b5 0 (EJ (⟨0,-1,0,0,⟨#[]⟩,[]⟩:B7))*(AA b4 0 [.int .i64 0,.int .i64 0,.int .i64 0,.int .u64 0,.string ⟨#[]⟩,.slice none 0 0]*(AA b3 0 (Bx q)*(Ad sb m2*R)))) (hE:=XW) (An (m2,(⟨(m.s.giveUp q.stream q.code).1,-1,0,0,⟨#[]⟩,[]⟩:B7)) ⟨h,C⟩ Bu I)
  refine J2 ?_;refine JL (Eo (i:=q.kind) (j:=6) I I)<|J3 ?_;refine mC (λU=>?_) (λU=>?_)
  ·refine J4 ?_;refine Ae (Acw I) I ?_;rintro _ _ ⟨p42,a,f,c42,F,rfl,W,hc42,rfl⟩;refine BH (H':=Ad sb m*(AC a f q.data.data.toList F*AA b5 0 (EJ (⟨0,-1,0,0,⟨#[]⟩,[]⟩:B7))*(AA b4 0 [.int .i64 0,.int .i64 0,.int .i64 0,.int .u64 0,.string ⟨#[]⟩,.slice none 0 0]*(AA b3 0 (Bx q)*R)))) (by show _=Ad sb m*(AC a f q.data.data.toList F*AA b5 0 [.int .i64 0,.int .i64 (-1),.int .i64 0,.int .u64 0,.string ⟨#[]⟩,.slice none 0 0]*(AA b4 0 [.int .i64 0,.int .i64 0,.int .i64 0,.int .u64 0,.string ⟨#[]⟩,.slice none 0 0]*(AA b3 0 (Bx q)*R)));ac_rfl)<|mE I (Adw sb t m q.data.data.toList p42 a f c42 _ hm hi C0 W AH o) ?_;rintro _ _ ⟨m2,h,S,rfl,rfl⟩;refine J7 ?_;have C:m.s.asks q=((⟨(m.s.BY q.data.data.toList).1.1,(m.s.BY q.data.data.toList).1.2,0,0,⟨#[]⟩,[]⟩:B7),m2.s):=by
    unfold AL.asks;rw[AF k1,AF p,AF O,AJ U];rw[S]
   exact Bg (AA b5 0 (EJ (⟨0,(m.s.BY q.data.data.toList).1.2,0,0,⟨#[]⟩,[]⟩:B7))*(AA b4 0 [.int .i64 0,.int .i64 0,.int .i64 0,.int .u64 0,.string ⟨#[]⟩,.slice none 0 0]*(AA b3 0 (Bx q)*(Ad sb m2*R)))) (hE:=⟨λww hw=>Sat.right (A:=AC a f q.data.data.toList F) (Eq.mp (by congr 1;show Ad sb m2*(AC a f q.data.data.toList F*AA b5 0 (EJ (⟨0,(m.s.BY q.data.data.toList).1.2,0,0,⟨#[]⟩,[]⟩:B7))*(AA b4 0 [.int .i64 0,.int .i64 0,.int .i64 0,.int .u64 0,.string ⟨#[]⟩,.slice none 0 0]*(AA b3 0 (Bx q)*R)))=AC a f q.data.data.toList F*(AA b5 0 (EJ (⟨0,(m.s.BY q.data.data.toList).1.2,0,0,⟨#[]⟩,[]⟩:B7))*(AA b4 0 [.int .i64 0,.int .i64 0,.int .i64 0,.int .u64 0,.string ⟨#[]⟩,.slice none 0 0]*(AA b3 0 (Bx q)*(Ad sb m2*R))));ac_rfl) hw)⟩) (An (m2,(⟨(m.s.BY q.data.data.toList).1.1,(m.s.BY q.data.data.toList).1.2,0,0,⟨#[]⟩,[]⟩:B7)) ⟨h,C⟩ Bu I)
  refine J2 ?_;refine JL (Eo (i:=q.kind) (j:=7) I I)<|J3 ?_;refine mC (λK=>?_) (λK=>?_)
  ·refine J6 ?_;refine OR ?_;refine mE I (Ae1 sb t m q.stream q.AQ _ hm hi C0) ?_;rintro _ _ ⟨m2,h,S,rfl,rfl⟩;refine Ki ?_;have C:m.s.asks q=((⟨(m.s.read q.stream q.AQ).1.2.2.2,-1,(m.s.read q.stream q.AQ).1.2.1,(m.s.read q.stream q.AQ).1.2.2.1,BR (m.s.read q.stream q.AQ).1.1,[]⟩:B7),m2.s):=by
    unfold AL.asks;rw[AF k1,AF p,AF O,AF U,AJ K];rw[S]
   exact Bg (AA b5 0 (EJ (⟨0,-1,(m.s.read q.stream q.AQ).1.2.1,(m.s.read q.stream q.AQ).1.2.2.1,BR (m.s.read q.stream q.AQ).1.1,[]⟩:B7))*(AA b4 0 [.int .i64 0,.int .i64 0,.int .i64 0,.int .u64 0,.string ⟨#[]⟩,.slice none 0 0]*(AA b3 0 (Bx q)*(Ad sb m2*R)))) (hE:=⟨λww hw=>Eq.mp (by congr 1;show Ad sb m2*(AA b5 0 (EJ (⟨0,-1,(m.s.read q.stream q.AQ).1.2.1,(m.s.read q.stream q.AQ).1.2.2.1,BR (m.s.read q.stream q.AQ).1.1,[]⟩:B7))*(AA b4 0 [.int .i64 0,.int .i64 0,.int .i64 0,.int .u64 0,.string ⟨#[]⟩,.slice none 0 0]*(AA b3 0 (Bx q)*R)))=(AA b5 0 (EJ (⟨0,-1,(m.s.read q.stream q.AQ).1.2.1,(m.s.read q.stream q.AQ).1.2.2.1,BR (m.s.read q.stream q.AQ).1.1,[]⟩:B7))*(AA b4 0 [.int .i64 0,.int .i64 0,.int .i64 0,.int .u64 0,.string ⟨#[]⟩,.slice none 0 0]*(AA b3 0 (Bx q)*(Ad sb m2*R))));ac_rfl) hw⟩) (An (m2,(⟨(m.s.read q.stream q.AQ).1.2.2.2,-1,(m.s.read q.stream q.AQ).1.2.1,(m.s.read q.stream q.AQ).1.2.2.1,BR (m.s.read q.stream q.AQ).1.1,[]⟩:B7)) ⟨h,C⟩ Bu I)
  refine J2 ?_;refine JL (Eo (i:=q.kind) (j:=8) I I)<|J3 ?_;refine mC (λQ=>?_) (λQ=>?_)
  ·refine J4 ?_;refine OR ?_;refine mE I (Q? sb m q.code _ hm) ?_;rintro _ _ ⟨m2,h,S,rfl,rfl⟩;refine J2 ?_;have C:m.s.asks q=((⟨(m.s.close q.code).1,-1,0,0,⟨#[]⟩,[]⟩:B7),m2.s):=by
    unfold AL.asks;rw[AF k1,AF p,AF O,AF U,AF K,AJ Q];rw[S]
   exact Bg (AA b5 0 (EJ (⟨0,-1,0,0,⟨#[]⟩,[]⟩:B7))*(AA b4 0 [.int .i64 0,.int .i64 0,.int .i64 0,.int .u64 0,.string ⟨#[]⟩,.slice none 0 0]*(AA b3 0 (Bx q)*(Ad sb m2*R)))) (hE:=XW) (An (m2,(⟨(m.s.close q.code).1,-1,0,0,⟨#[]⟩,[]⟩:B7)) ⟨h,C⟩ Bu I)
  refine J2 ?_;refine JL (Eo (i:=q.kind) (j:=9) I I)<|J3 ?_;refine mC (λM=>?_) (λM=>?_)
  ·refine J4 ?_;refine OR ?_;refine mE I (cg sb t m q.stream _ hm hi)<|JR<|J7 ?_;have C:m.s.asks q=((⟨(m.s.AG q.stream).2,-1,(m.s.AG q.stream).1,0,⟨#[]⟩,[]⟩:B7),m.s):=by
    unfold AL.asks;rw[AF k1,AF p,AF O,AF U,AF K,AF Q,AJ M]
   exact Bg (AA b5 0 (EJ (⟨0,-1,(m.s.AG q.stream).1,0,⟨#[]⟩,[]⟩:B7))*(AA b4 0 [.int .i64 0,.int .i64 0,.int .i64 0,.int .u64 0,.string ⟨#[]⟩,.slice none 0 0]*(AA b3 0 (Bx q)*(Ad sb m*R)))) (hE:=⟨λww hw=>Eq.mp (by congr 1;show Ad sb m*(AA b5 0 (EJ (⟨0,-1,(m.s.AG q.stream).1,0,⟨#[]⟩,[]⟩:B7))*(AA b4 0 [.int .i64 0,.int .i64 0,.int .i64 0,.int .u64 0,.string ⟨#[]⟩,.slice none 0 0]*(AA b3 0 (Bx q)*R)))=(AA b5 0 (EJ (⟨0,-1,(m.s.AG q.stream).1,0,⟨#[]⟩,[]⟩:B7))*(AA b4 0 [.int .i64 0,.int .i64 0,.int .i64 0,.int .u64 0,.string ⟨#[]⟩,.slice none 0 0]*(AA b3 0 (Bx q)*(Ad sb m*R))));ac_rfl) hw⟩) (An (m,(⟨(m.s.AG q.stream).2,-1,(m.s.AG q.stream).1,0,⟨#[]⟩,[]⟩:B7)) ⟨hm,C⟩ Bu I)
  refine J1 ?_;have C:m.s.asks q=((⟨0,-1,0,0,⟨#[]⟩,[]⟩:B7),m.s):=by
   unfold AL.asks;rw[AF k1,AF p,AF O,AF U,AF K,AF Q,AF M]
  exact An (m,(⟨0,-1,0,0,⟨#[]⟩,[]⟩:B7)) ⟨hm,C⟩ Bu I
 rintro⟨m2,res⟩ ⟨h,C⟩;dsimp only at h C⊢;refine DL ?_;refine JL (Et (l:=EJ res) I I)<|Bn ?_;exact KT (Ad sb m2*R) I (IC (Kd I I) (Im)) ⟨m2,h,by rw[C],by rw[C]<;>rfl,I⟩
end
section
variable{B:World}
def jO{α:Type}[AB α]{l:List α}(h:i<aa l):l.take (i+1)=l.take i++[l.getD i AD]:=by
 exact sD
end
section
section
variable{H:Type}{enc:TypeId×Value→H}
def F! {W cs}{y:DataW H×List MemPlace}(h:DataW.trod enc prog W 0 (λ_=>true) true n 39 cs=some y):∃q:B',cs=Bx q∧q.AQ<9223372036854775808∧q.data.size≤Rows.uptoBulk y.1:=by
 obtain⟨xs,k,rfl,rfl,hcl,o,hf⟩:=DataW.trod_struct underlying39 h;have Z:prog.cellsOf 37=1:=C1;have l:prog.cellsOf 3=1:=C1;have e:prog.cellsOf 9=1:=C1;have ct:prog.cellsOf 39=5:=C1;rw[ct]at hcl
 match xs,o,cs,hcl with
 |[y0,y1,y2,y3,y4],_,[v0,v1,v2,v3,v4],_=>
  have Q:=hf 0 _ I;have g1:=hf 1 _ I;have S:=hf 2 _ I;have g3:=hf 3 _ I;have F:=hf 4 _ I;simp[Z,l,e]at Q g1 S g3 F;obtain⟨C,U,f,w0⟩:=DataW.trod_int underlying3 Q;obtain⟨m,e1,z1,w1⟩:=DataW.trod_int underlying3 g1;obtain⟨O,M,z2,w2⟩:=DataW.trod_int underlying3 S;obtain⟨i3,e3,z3,a⟩:=DataW.trod_int underlying37 g3;obtain⟨p,e5,z5,w5⟩:=DataW.trod_string underlying9 F;have b2: -9223372036854775808≤O∧O≤9223372036854775807:=by simpa[Lit.wf,IntKind.min,IntKind.max,IntKind.bits,IntKind.signed]using w2
  have K:0≤i3∧i3≤18446744073709551615:=by simpa[Lit.wf,IntKind.min,IntKind.max,IntKind.bits,IntKind.signed]using a
  simp only[List.cons.injEq,and_true]at U e1 M e3 e5;refine⟨⟨C,m,O,i3.toNat,p⟩,?_,by show O<_;omega,?_⟩
  ·rw[U,e1,M,e3,e5];show _=[.int .i64 C,.int .i64 m,.int .i64 O,uN i3.toNat,.string p];rw[Acn K.1]
  show p.size≤Rows.uptoBulk (DataW.agg [y0.1,y1.1,y2.1,y3.1,y4.1]);have h5:Rows.uptoBulk y4.1=p.size+1:=by
   rw[z5];show Rows.uptoBulk (DataW.lit (H:=H) (.string p.data.toList))=_;simp[Rows.uptoBulk]
  simp only[Rows.uptoBulk,Rows.uptoBulkAll];omega
end
end
section
def Sat.Z6{H}(hw:Sat B H w)(o)(Q:∀c t f,o≠ .cells c t f):Sat B (HP.obj w.heap.size o*H) {w with heap:=w.heap.push o}:=by
 obtain⟨O,r,p,l⟩:=hw;have hlt:∀b i v,r.c b i=some v→b<w.heap.size:=λb i v e=>K9 (l.cell b i v e);have C:∀b x,r.o b=some x→b<w.heap.size:=λb x e=>(l.obj b x e).lt;have old:∀b:Nat,b<w.heap.size→(w.heap.push o)[b]?=w.heap[b]?:=λb q=>Pj q |>.trans (mi q).symm
 have W:∀i,r.c w.heap.size i=none:=λi=>by
  cases e:r.c w.heap.size i with
  |none=>rfl
  |some v=>have:=hlt _ _ _ e;omega
 have a:r.o w.heap.size=none:=by
  cases e:r.o w.heap.size with
  |none=>rfl
  |some v=>have:=C _ _ e;omega
 have m:B.heap.size≤w.heap.size:=O.size;refine⟨⟨O.os,O.tape,O.output,C9,λk Z=>(old k C0).trans (O.block k Z)⟩,_,⟨_,r,⟨λ_ _=>.inl I,λb=>?_⟩,I,I,p⟩,?_⟩
 ·by_cases h:b=w.heap.size
  ·subst h;exact .inr a
  exact .inl (AF h)
 refine⟨λb i v e=>?_,λb i v e=>?_,λb x e=>?_,λb i v e=>l.live b i v Sx,λb i v e=>l.FV b i v Sx,λb x e=>?_⟩
 ·have e':r.c b i=some v:=by simpa[Ai.un]using e
  have:=l.cell b i v e';unfold World.cell? at this⊢;exact pL
 ·have e':r.c b i=some v:=by simpa[Ai.un]using e
  have:=l.free b i v e';unfold World.frozen? at this⊢;exact pL
 ·by_cases h:b=w.heap.size
  ·subst h;have e':some o=some x:=Sx;cases e';exact(Mb Q).2 (Ak0 ..)
  have e':r.o b=some x:=by simpa[Ai.un,h]using e
  exact(l.obj b x e').same (old b (C b x e'))
 by_cases h:b=w.heap.size
 ·subst h;exact m
 exact l.GC b x (by simpa[Ai.un,h]using e)
def Sat.WU{R o}(h:Sat B (HP.obj b o*R) w)(Q:∀c t f,o≠ .cells c t f):w.heap[b]?=some o:=by
 obtain⟨_,r,a,e⟩:=h.left;obtain rfl:r=_:=a;exact(Mb Q).1 (e.obj b o C3)
def Sat.Da{R o o'}(h:Sat B (HP.obj b o*R) w)(Q:∀c t f,o≠ .cells c t f)(a:∀c t f,o'≠ .cells c t f):Sat B (HP.obj b o'*R) {w with heap:=w.heap.setIfInBounds b o'}:=by
 have l:=h.WU Q;obtain⟨O,r,⟨x,y,F,rfl,S,U⟩,K⟩:=h;obtain rfl:x=_:=S;have M:=I9 l;have m:B.heap.size≤b:=K.GC b o XM;have ne:∀b',b'≠b→(w.heap.setIfInBounds b o')[b']?=w.heap[b']?:=λb' q=>s5 (Ne.symm q);have C:y.o b=none:=(F.2 b).resolve_left C3;have p:∀i,y.c b i=none:=λi=>by
  cases e:y.c b i with
  |none=>rfl
  |some v=>
   have:=K.cell b i v (by simp[Ai.un,e]);unfold World.cell? at this;rw[show w.heap[(⟨b,i,none⟩:Addr).block]?=some o from l]at this;cases o<;>first|exact absurd I (Q _ _ _)|cases this
 have hcne:∀b' i v,y.c b' i=some v→b'≠b:=λb' i v e q=>by subst q;rw[p]at e;cases e
 refine⟨⟨O.os,O.tape,O.output,(by simp;exact O.size),λk Z=>(ne k C0).trans (O.block k Z)⟩,_,⟨_,y,⟨λ_ _=>.inl I,λb'=>?_⟩,I,I,U⟩,?_⟩
 ·by_cases e:b'=b
  ·subst e;exact .inr C
  exact .inl (AF e)
 refine⟨λb' i v e=>?_,λb' i v e=>?_,λb' x e=>?_,λb' i v e=>K.live b' i v Sx,λb' i v e=>K.FV b' i v Sx,λb' x e=>?_⟩
 ·have e':y.c b' i=some v:=by simpa[Ai.un]using e
  have:=K.cell b' i v (by simp[Ai.un,e']);unfold World.cell? at this⊢;exact mZ
 ·have e':y.c b' i=some v:=by simpa[Ai.un]using e
  have:=K.free b' i v (by simp[Ai.un,e']);unfold World.frozen? at this⊢;exact mZ
 ·by_cases h:b'=b
  ·subst h;have e':some o'=some x:=Sx;cases e';exact(Mb a).2 (Aii M)
  have e':y.o b'=some x:=by simpa[Ai.un,h]using e
  exact(K.obj b' x (by simp[Ai.un,h,e'])).same (ne b' h)
 by_cases h:b'=b
 ·subst h;exact m
 exact K.GC b' x (by simpa[Ai.un,h]using e)
section
variable{P:Program}{B:World}{n:Nat}{E:A8}{D:CW}{H R:HP}{d:Option Tmp}{T ty kt el:TypeId}{pos:String}{af:Array Edge}{g:Option (Nat×Bool)}{x y z:Operand}
def nQ{m bytes:Nat}[hT:Aw P T (.chan dir el)][C:Ft P el bytes](hx:ev E x=some (.int .i64 m))(hm:m≤1000)(hb:bytes≤1000000):
  DT P B n ⟨d,.makeChan T x,ty,pos,af,g⟩ E D H (λv S=>∃b,v=.chan (some b)∧S=HP.obj b (.chan m #[] false 0 0 false)*H):=by
 intro a w h1 _ M K Q Z;obtain⟨i,hi,h⟩:=C.get;have hbig:¬((m:Int)<0∨9223372036854775807<(m:Int)∨281474976710544<(i.bytes:Int)*m):=by
  have:(i.bytes:Int)*m≤1000000*1000:=Int.mul_le_mul C0 C0 C0 C0;omega
 have q:(execOp a.eval ⟨d,.makeChan T x,ty,pos,af,g⟩).run P w=.ok (.value (.chan (some w.heap.size))) (w.alloc (.chan m #[] false 0 0 false)):=by
  exact sV
 refine Gg ?_ q (Z _ _ _ N9 (M.Z6 _ C3));exact sV
def cw:DT P B n ⟨d,.makeMap T none,ty,pos,af,g⟩ E D H (λv S=>∃b,v=.map (some b)∧S=HP.obj b (.map #[] 0)*H):=by
 intro a w O _ M K Q Z;have q:(execOp a.eval ⟨d,.makeMap T none,ty,pos,af,g⟩).run P w=.ok (.value (.map (some w.heap.size))) (w.alloc (.map #[] 0)):=by
  simp[execOp,hB]
 refine Gg ?_ q (Z _ _ _ N9 (M.Z6 _ C3));simp[execOp,hB]
def PR{e}[hK:Aw P kt (.int k)](w):(cx e 10000 kt v).run P w=.ok () w:=by
 show(cx e (9999+1) kt v).run P w=_;rw[cx];simp[A6 hK.get]
def VA{m D e}[hK:Aw P kt (.int k)](w):Al m D P (cx e 10000 kt v) w:=by
 show Al m D P (cx e (9999+1) kt v) w;rw[cx];simp[A6 hK.get]
def PO{es}[hK:Aw P kt (.int k)](h:a9 (.int k) v es 0=some r)(w):(c6 kt v es).run P w=.ok r w:=by
 simp[c6,A6 hK.get,h]
def VM{m D es}[hK:Aw P kt (.int k)](h:a9 (.int k) v es 0=some r)(w):Al m D P (c6 kt v es) w:=by
 simp[c6,A6 hK.get,h]
def Ly{clock}{es:Array MapEntry}{e}[hT:Aw P T (.map kt el)][hK:Aw P kt (.int k)](F:ev E x=some (.map (some b)))(f:ev E y=some e)(hz:ev E z=some v)(hf:a9 (.int k) e es.toList 0=some none)(m:H=HP.obj b (.map es clock)*R):
  DT P B n ⟨d,.insert T x y z,ty,pos,af,g⟩ E D H (λu S=>u=undef∧S=HP.obj b (.map (es.push {key:=e,val:=v,born:=clock}) (clock+1))*R):=by
 intro a w O _ M K Q Z;subst m;have l:=M.WU C3;have q:(execOp a.eval ⟨d,.insert T x y z,ty,pos,af,g⟩).run P w=.ok .skip {w with heap:=w.heap.setIfInBounds b (.map (es.push {key:=e,val:=v,born:=clock}) (clock+1))}:=by
  simp only[execOp,O.ev F,O.ev f,O.ev hz,hO,bn,bp,b0,A6 hT.get];simp[getObj,setObj,Sem.run,l,PR (hK:=hK),PO hf]
 refine Tl ?_ q (Z _ _ _ Dj (M.Da C3 C3));simp only[A9,BL,execOp,O.ev F,O.ev f,O.ev hz,hO,bn,bp,b0,A6 hT.get,B3,CT,BX,true_and];simp[getObj,setObj,Sem.run,l,PR (hK:=hK),PO hf,VA (hK:=hK),VM hf,Al]
def yl{clock}{es:Array MapEntry}{e h}[hT:Aw P T (.map kt el)][hK:Aw P kt (.int k)][S:Bh P el h](F:ev E x=some (.map (some b)))(f:ev E y=some e)(hf:a9 (.int k) e es.toList 0=some r)(m:H=HP.obj b (.map es clock)*R):
  AY P B n ⟨d,.lookup T x y true,ty,pos,af,g⟩ E H (.tuple #[(r.map (·.2)).getD h,.bool r.isSome]):=by
 intro a w O M;subst m;have l:=M.WU C3;cases r with
 |none=>
  constructor
  ·simp only[A9,BL,execOp,O.ev F,O.ev f,eo,bn,bp,b0,A6 hT.get,B3,CT,BX,true_and];simp[getObj,Sem.run,l,PR (hK:=hK),PO hf,VA (hK:=hK),VM hf,Al,S.get]
  simp only[execOp,O.ev F,O.ev f,eo,bn,bp,b0,A6 hT.get];simp[getObj,Sem.run,l,PR (hK:=hK),PO hf,S.get]
 |some u=>
  obtain⟨i,u⟩:=u;constructor
  ·simp only[A9,BL,execOp,O.ev F,O.ev f,eo,bn,bp,b0,A6 hT.get,B3,CT,BX,true_and];simp[getObj,Sem.run,l,PR (hK:=hK),PO hf,VA (hK:=hK),VM hf,Al]
  simp only[execOp,O.ev F,O.ev f,eo,bn,bp,b0,A6 hT.get];simp[getObj,Sem.run,l,PR (hK:=hK),PO hf]
def r_(m w)(hT:P.underlying T=some (.chan dir el)):(Op.equalIn (m+1) T (.chan (some c)) (.chan none)).run P w=.ok false w:=by
 simp only[Op.equalIn,bn,A6 hT,b0];rfl
def O? {k D}(m w)(hT:P.underlying T=some (.chan dir el)):Al k D P (Op.equalIn (m+1) T (.chan (some c)) (.chan none)) w:=by
 simp only[Op.equalIn,BL,A6 hT,BX,CT,true_and];trivial
def wv{T'}[hT:Aw P T (.chan dir el)](F:ev E x=some (.chan (some c)))(f:ev E y=some (.chan none)):
  AY P B n ⟨d,.binOp .eql T x y T',ty,pos,af,g⟩ E H (.bool false):=by
 intro a w e _;have O:=λw=>r_ (P:=P) 9999 (c:=c) w hT.get;have U:(eqGuard .eql T x y (.chan (some c)) (.chan none)).run P w=.ok () w:=rfl;have M:A9 B.heap.size P (eqGuard .eql T x y (.chan (some c)) (.chan none)) w:=trivial;have Z:=O? (P:=P) (k:=B.heap.size) (D:=Ec w) 9999 (c:=c) w hT.get;simp only[M,Z,A9,BL,Dp,CT,DQ,EP,EX,Ej,B3,BX,true_and,and_true,and_self,execOp,e.ev F,e.ev f,bn,U,b0,binOp,Op.equal,show Op.maxDepth=9999+1 from I,O,bp]
end
end
section
variable{B:World}
def Ip(A:HP):Prop:=∀r,A r→∀b,r.o b=none
def Ip.Bs:Ip HP.Bs:=λr h b=>by rw[show r=Ai.nil from h];rfl
def Ip.AA(b o l):Ip (HP.AA b o l):=λr h b=>by rw[show r=_ from h]
def Ip.mul{A C}(h1:Ip A)(h2:Ip C):Ip (A*C):=by
 rintro r ⟨x,y,_,rfl,F,a⟩ b;simp[Ai.un,h1 x F b,h2 y a b]
def Jw(k):(FU k).oneCell'=true:=by unfold FU;split<;>rfl
def MJ.t2(M:B.cell? ⟨0,0,none⟩=some (D5 106)){e}{at_:Int}{H H'}(h:MJ e at_ H v H'):∃F,H'=F*H∧Kp B v F e at_∧Ip F∧v.oneCell'=true:=by
 obtain⟨rfl,rfl,rfl⟩|⟨q,a,rfl,rfl,rfl,rfl⟩:=h
 ·exact⟨Bs,Ce,.of M e,.Bs,Jw e⟩
 exact⟨GJ q 5 (iN a),I,⟨λR=>Ww M q 5 (iN a) R,λR=>fI M q 5 (iN a) R⟩,.AA _ _ _,I⟩
@[reducible] def kB(ev:Value)(a:B7)(ps:Am):Value:=.agg [ev,iN a.n,uN a.code,.string a.data,.slice ps.p (aa a.BA) ps.c].toArray
def HB(B:World)(cb:Nat)(m:Ak)(q:B')(R:HP)(v:Value)(H':HP):Prop:=
 ∃(a:Ak) (ev:Value) (F:HP) (f:Am),a.ok∧a.s=(m.s.Bj q).2∧Kp B ev F (m.s.Bj q).1.e (m.s.Bj q).1.at_∧Ip F∧ev.oneCell'=true∧f.ok (m.s.Bj q).1.BA∧v=kB ev (m.s.Bj q).1 f∧H'=F*(f.h (m.s.Bj q).1.BA*(Ao cb a*R))
def HB.of{cb}{m a:Ak}{q R}{C:B7}{ev:Value}(hd:m.s.Bj q=(C,a.s))(hm:a.ok)(f:Kp B ev Bs C.e C.at_)(S:ev.oneCell'=true)(hp:C.BA=[]):
  HB B cb m q R (.agg [ev,iN C.n,uN C.code,.string C.data,.slice none 0 0].toArray) (Ao cb a*R):=by
 refine⟨a,ev,Bs,Bw,hm,by rw[hd],by rw[hd];exact f,.Bs,S,by rw[hd,hp];exact Fe,Zp,?_⟩;rw[hd,hp,HJ,BS,BS]
def HB.M? {cb}{m a:Ak}{q R F}{C:B7}{ev:Value}(hd:m.s.Bj q=(C,a.s))(hm:a.ok)(f:Kp B ev F C.e C.at_)(h:Ip F)(S:ev.oneCell'=true)(hp:C.BA=[]):
  HB B cb m q R (.agg [ev,iN C.n,uN C.code,.string C.data,.slice none 0 0].toArray) (F*(Ao cb a*R)):=by
 refine⟨a,ev,F,Bw,hm,by rw[hd],by rw[hd];exact f,h,S,by rw[hd,hp];exact Fe,Zp,?_⟩;rw[hd,hp,HJ,BS]
def O2(k:Nat)(ev:Value)(hev:ev.oneCell'=true)(H:HP):Fn prog B 110 [iN k,ev] H (λv S=>
  v=.agg [ev,iN k,uN 0,.string ⟨#[]⟩,.slice none 0 0].toArray∧S=H):=by
 refine mI func110 ?_;refine J2 ?_;refine KM ?_;rintro _ _ ⟨a,rfl,rfl⟩;refine J6 ?_;refine JL (FW I I I PW)<|Bl (Ek I I Ca PW)<|Hb ?_;exact Wo
def v9(hG:B.cell? ⟨0,0,none⟩=some (D5 106))(cb t:Nat)(m:Ak)(q:B')(bs bc:Nat)(R:HP)(hm:m.ok)(hi:Aq t m.s)(ht:t<900000)(hd:q.data.size<90000000)(a:q.AQ<9223372036854775808)(hq:q.kind=1):
  Fn prog B 111 [.agg (Bx q).toArray,ptr bs 0,ptr bc 0] (Ao cb m*(AA bs 0 [(.func (.func 110) #[] #[])]*(AA bc 0 [ptr cb 0]*R))) (HB B cb m q (AA bs 0 [(.func (.func 110) #[] #[])]*(AA bc 0 [ptr cb 0]*R))):=by
 refine mI func111 ?_;refine Kh ?_;rintro _ _ ⟨K,rfl,rfl⟩;refine KM ?_;rintro _ _ ⟨F,rfl,rfl⟩;refine J3 ?_;refine EI (AA K 0 (Bx q)*(AA bs 0 [(.func (.func 110) #[] #[])]*AA bc 0 [ptr cb 0])) 10 12 EO I C1<|Ou ?_;refine Jf 4 ?_;refine Jd 5 ?_;refine Au 6 C1 I I (Acw I) ?_;rintro _ _ ⟨M,e,f,U,p,rfl,h,C,rfl⟩;refine BT ?_;have o:aa q.data.data.toList<90000000:=YM;refine F9 (H':=Ao cb m*(AC e f q.data.data.toList p*(AA F 0 [.nilIface,.int .i64 (0:Nat),uN 0,.string ⟨#[]⟩,.slice none 0 0]*(AA K 0 (Bx q)*(AA bs 0 [(.func (.func 110) #[] #[])]*(AA bc 0 [ptr cb 0]*R)))))) C4<|Au 7 C1 I I (Bd I (gn cb t m q.stream q.data.data.toList M e f U _ hm hi h AH)) ?_;rintro _ _ ⟨m2,hmo,hms,rfl,rfl⟩;refine BT ?_;refine JT 8 I Jy<|JT 9 I Jy<|Au 10 C1 I I (HD I I (O2 ((m.s.write q.stream q.data.data.toList).1.1) (FU (m.s.write q.stream q.data.data.toList).1.2) (Jw _) _))<|FZ ?_;refine GO 11 C1 I O7<|Of ?_;have hdo:m.s.Bj q=((⟨(m.s.write q.stream q.data.data.toList).1.2,-1,(m.s.write q.stream q.data.data.toList).1.1,0,⟨#[]⟩,[]⟩:B7),m2.s):=by
  exact MW
 exact P7
def we(hG:B.cell? ⟨0,0,none⟩=some (D5 106))(cb t:Nat)(m:Ak)(q:B')(bs bc:Nat)(R:HP)(hm:m.ok)(hi:Aq t m.s)(ht:t<900000)(F:q.data.size<90000000)(a:q.AQ<9223372036854775808)(hq:q.kind=2):
  Fn prog B 112 [.agg (Bx q).toArray,ptr bs 0,ptr bc 0] (Ao cb m*(AA bs 0 [(.func (.func 110) #[] #[])]*(AA bc 0 [ptr cb 0]*R))) (HB B cb m q (AA bs 0 [(.func (.func 110) #[] #[])]*(AA bc 0 [ptr cb 0]*R))):=by
 refine mI func112 ?_;refine Kh ?_;rintro _ _ ⟨b3,rfl,rfl⟩;refine KM ?_;rintro _ _ ⟨b4,rfl,rfl⟩;refine J3 ?_;refine sY ?_;refine Ou ?_;refine SQ ?_;refine Au 4 C1 I I (Bd I (Aef cb t m q.stream _ hm hi)) ?_;rintro _ _ ⟨m2,hmo,hms,rfl,rfl⟩;refine BT ?_;refine Au 5 C1 I I (HD I I (O2 (0) (FU (m.s.finish q.stream).1) (Jw _) _))<|FZ ?_;refine GO 6 C1 I O7<|Of ?_;have hdo:m.s.Bj q=((⟨(m.s.finish q.stream).1,-1,0,0,⟨#[]⟩,[]⟩:B7),m2.s):=by
  exact MW
 exact P7
def pj(hG:B.cell? ⟨0,0,none⟩=some (D5 106))(cb t:Nat)(m:Ak)(q:B')(bs bc:Nat)(R:HP)(hm:m.ok)(hi:Aq t m.s)(ht:t<900000)(F:q.data.size<90000000)(a:q.AQ<9223372036854775808)(hq:q.kind=3):
  Fn prog B 113 [.agg (Bx q).toArray,ptr bs 0,ptr bc 0] (Ao cb m*(AA bs 0 [(.func (.func 110) #[] #[])]*(AA bc 0 [ptr cb 0]*R))) (HB B cb m q (AA bs 0 [(.func (.func 110) #[] #[])]*(AA bc 0 [ptr cb 0]*R))):=by
 refine mI func113 ?_;refine Kh ?_;rintro _ _ ⟨b3,rfl,rfl⟩;refine KM ?_;rintro _ _ ⟨b4,rfl,rfl⟩;refine J3 ?_;refine fN ?_;refine Ou ?_;refine Jf 4 ?_;refine Jd 5 ?_;refine SQ ?_;refine Au 6 C1 I I (Bd I (ze cb t m q.stream q.code _ hm hi)) ?_;rintro _ _ ⟨m2,hmo,hms,rfl,rfl⟩;refine BT ?_;refine Au 7 C1 I I (HD I I (O2 (0) (FU (m.s.giveUp q.stream q.code).1) (Jw _) _))<|FZ ?_;refine GO 8 C1 I O7<|Of ?_;have hdo:m.s.Bj q=((⟨(m.s.giveUp q.stream q.code).1,-1,0,0,⟨#[]⟩,[]⟩:B7),m2.s):=by
  exact MW
 exact P7
def yn(M:B.cell? ⟨0,0,none⟩=some (D5 106))(cb t:Nat)(m:Ak)(q:B')(bs bc:Nat)(R:HP)(hm:m.ok)(hi:Aq t m.s)(ht:t<900000)(F:q.data.size<90000000)(a:q.AQ<9223372036854775808)(hq:q.kind=4):
  Fn prog B 114 [.agg (Bx q).toArray,ptr bc 0] (Ao cb m*(AA bs 0 [(.func (.func 110) #[] #[])]*(AA bc 0 [ptr cb 0]*R))) (HB B cb m q (AA bs 0 [(.func (.func 110) #[] #[])]*(AA bc 0 [ptr cb 0]*R))):=by
 refine mI func114 ?_;refine Kh ?_;rintro _ _ ⟨b2,rfl,rfl⟩;refine KM ?_;rintro _ _ ⟨b3,rfl,rfl⟩;refine J5 ?_;refine WE ?_;refine mE I (fj cb t m _ hm hi C0) ?_;rintro _ _ ⟨Q,h,hms,rfl⟩;refine J4 ?_;refine JL LS<|Bl (Ek I I Ca (by intro v S;simp at S;rcases S with rfl|rfl|rfl|rfl|rfl<;>first|exact Jw 0|rfl))<|Hb ?_;have C:m.s.Bj q=((⟨0,-1,0,0,⟨#[]⟩,[]⟩:B7),Q.s):=by
  exact MW
 exact KT (Ao cb Q*(AA bs 0 [(.func (.func 110) #[] #[])]*(AA bc 0 [ptr cb 0]*R))) I (IC (Kd I I) Im) (HB.of C h (.of M 0) (rfl) I)
set_option maxHeartbeats 4000000 in
def u3(M:B.cell? ⟨0,0,none⟩=some (D5 106))(cb t:Nat)(m:Ak)(q:B')(bs bc:Nat)(R:HP)(hm:m.ok)(hi:Aq t m.s)(ht:t<900000)(F:q.data.size<90000000)(hmo2:q.AQ<9223372036854775808)(hq:q.kind=5):
  Fn prog B 115 [.agg (Bx q).toArray,ptr bc 0] (Ao cb m*(AA bs 0 [(.func (.func 110) #[] #[])]*(AA bc 0 [ptr cb 0]*R))) (HB B cb m q (AA bs 0 [(.func (.func 110) #[] #[])]*(AA bc 0 [ptr cb 0]*R))):=by
 refine mI func115 ?_;refine Kh ?_;rintro _ _ ⟨b2,rfl,rfl⟩;refine KM ?_;rintro _ _ ⟨b3,rfl,rfl⟩;refine J6 ?_;refine WE ?_;refine mE I (Ae7 cb t m _ hm hi C0) ?_;rintro _ _ ⟨Q,hmo,hms,e,hpk,rfl,rfl⟩;have hpl:aa e.l≤20:=(by have h7:=congrArg List.length hpk.map;rw[eh]at h7;have h8:=pN hi;omega)
 refine J1 ?_;refine JL (NB (v:=.int .i64 (0:Nat)) I)<|J3 ?_;refine Bf (α:=Nat×Am) (λz=>[(9,iN z.1),(8,iN (aa e.l)),(7,e.v),(3,ptr b3 0),(1,ptr bc 0)]) (λz=>AA b3 0 [.nilIface,.int .i64 (0:Nat),uN 0,.string ⟨#[]⟩,.slice z.2.p (aa (((m.s.BA.1).take z.1).map BR)) z.2.c]*(Am.h z.2 (((m.s.BA.1).take z.1).map BR)*(e.a.h e.l*(AP Iw (e.l.drop z.1)*(AA b2 0 (Bx q)*(Ao cb Q*(AA bs 0 [(.func (.func 110) #[] #[])]*(AA bc 0 [ptr cb 0]*R)))))))) (λz=>z.1≤aa e.l∧z.2.ok (((m.s.BA.1).take z.1).map BR)) (λz=>aa e.l-z.1) (0,Bw) ⟨bk _,Fe⟩ Fr (by
  show _=AA b3 0 [.nilIface,.int .i64 (0:Nat),uN 0,.string ⟨#[]⟩,.slice none 0 0]*(Bw.h ([]:List ByteArray)*(e.a.h e.l*(AP Iw e.l*_)));rw[HJ,BS];unfold EZ;ac_rfl) ?_
 rintro⟨i,sk⟩ ⟨hi1,hsk⟩;dsimp only at hi1 hsk⊢;refine J6 ?_;refine mC (λK=>?_) (λK=>?_)
 ·have hpkm:=hpk.l _ (Gk (d:=AD) K);have hpyl:(e.l.getD i AD).ys.length<1000000:=by
   have h7:(e.l.getD i AD).ys∈m.s.BA.1:=by rw[←hpk.map];exact g9.2 ⟨_,Gk K,I⟩
   have:=tY hi _ h7;omega
  have hsl:aa (((m.s.BA.1).take i).map BR)≤20:=by rw[eh,hZ];have h7:i<aa e.l:=K;omega
  refine A3 (H':=AA b3 0 [.nilIface,.int .i64 (0:Nat),uN 0,.string ⟨#[]⟩,.slice sk.p (aa (((m.s.BA.1).take i).map BR)) sk.c]*(Am.h sk (((m.s.BA.1).take i).map BR)*(e.a.h e.l*(AC (e.l.getD i AD).a.b (e.l.getD i AD).a.o (e.l.getD i AD).ys (e.l.getD i AD).a.s*(AP Iw (e.l.drop (i+1))*(AA b2 0 (Bx q)*(Ao cb Q*(AA bs 0 [(.func (.func 110) #[] #[])]*(AA bc 0 [ptr cb 0]*R))))))))) (by
   rw[zv K,HK];rw[show e.l.getD i AD=e.l[i] by rw[ek,c8 K];rfl];unfold Iw;ac_rfl) ?_
  refine J6 ?_;refine JL (CJ I I hpk.a.1 K)<|JL (Dx (v':=.slice (e.l.getD i AD).a.p (e.l.getD i AD).ys.length (e.l.getD i AD).a.c) (Fa (f:=0) (xs:=e.l) I AH I K) I)<|J7 ?_;refine JL (KO I hpkm.1 AH)<|Ae (Gn (cs:=[.string (BR (e.l.getD i AD).ys)]) I Cc I I) I ?_;rintro _ _ ⟨b17,rfl,rfl⟩;refine BH (H':=AC sk.b sk.o (((m.s.BA.1).take i).map BR) sk.s*(AA b17 0 (AE [BR (e.l.getD i AD).ys])*(AA b3 0 [.nilIface,.int .i64 (0:Nat),uN 0,.string ⟨#[]⟩,.slice sk.p (aa (((m.s.BA.1).take i).map BR)) sk.c]*(e.a.h e.l*(AC (e.l.getD i AD).a.b (e.l.getD i AD).a.o (e.l.getD i AD).ys (e.l.getD i AD).a.s*(AP Iw (e.l.drop (i+1))*(AA b2 0 (Bx q)*(Ao cb Q*(AA bs 0 [(.func (.func 110) #[] #[])]*(AA bc 0 [ptr cb 0]*R)))))))))) (by show AA b17 0 [_]*_=_;rw[show AE [BR (e.l.getD i AD).ys]=[.string (BR (e.l.getD i AD).ys)]from rfl];unfold Am.h;ac_rfl)<|Ae (CA (ys:=[BR (e.l.getD i AD).ys]) (bb:=b17) (oo:=0) (cc:=1) I hsk.1 hsk.2 I Bz AH I Cd C0) I ?_;rintro _ _ ⟨p18,b18,o18,c18,s18,rfl,O,U,rfl⟩;refine J6 ?_;refine JL Qd<|J2 ?_;have hpn:(((m.s.BA.1).take (i+1)).map BR)=(((m.s.BA.1).take i).map BR)++[BR (e.l.getD i AD).ys]:=by
   have h7:(m.s.BA.1)[i]?=some (e.l.getD i AD).ys:=by
    rw[←hpk.map,x0,c8 K,ek,c8 K];rfl
   have h8:i<aa (m.s.BA.1):=by rw[←hpk.map,eh];exact K
   rw[Kk h8,n8];rw[c8 h8]at h7;rw[ad.inj h7];rfl
  have hpq:aa ((((m.s.BA.1).take i).map BR)++[BR (e.l.getD i AD).ys])=aa (((m.s.BA.1).take (i+1)).map BR):=by rw[hpn]
  exact Bg (AA b3 0 [.nilIface,.int .i64 (0:Nat),uN 0,.string ⟨#[]⟩,.slice p18 (aa ((((m.s.BA.1).take i).map BR)++[BR (e.l.getD i AD).ys])) c18]*(Am.h ⟨p18,b18,o18,c18,s18⟩ (((m.s.BA.1).take (i+1)).map BR)*(e.a.h e.l*(AP Iw (e.l.drop (i+1))*(AA b2 0 (Bx q)*(Ao cb Q*(AA bs 0 [(.func (.func 110) #[] #[])]*(AA bc 0 [ptr cb 0]*R)))))))) (hE:=⟨λww hw=>Sat.right (A:=AA b17 0 (AE [BR (e.l.getD i AD).ys])*AC (e.l.getD i AD).a.b (e.l.getD i AD).a.o (e.l.getD i AD).ys (e.l.getD i AD).a.s) (Eq.mp (by congr 1;rw[hpn];unfold Am.h;ac_rfl) hw)⟩)<|GE (H':=AA b3 0 [.nilIface,.int .i64 (0:Nat),uN 0,.string ⟨#[]⟩,.slice p18 (aa (((m.s.BA.1).take (i+1)).map BR)) c18]*(Am.h ⟨p18,b18,o18,c18,s18⟩ (((m.s.BA.1).take (i+1)).map BR)*(e.a.h e.l*(AP Iw (e.l.drop (i+1))*(AA b2 0 (Bx q)*(Ao cb Q*(AA bs 0 [(.func (.func 110) #[] #[])]*(AA bc 0 [ptr cb 0]*R)))))))) (by rw[hpq])<|BV (i+1,⟨p18,b18,o18,c18,s18⟩) ⟨K,by rw[hpn];exact⟨O,U⟩⟩ (by show (aa e.l)-(i+1)<aa e.l-i;have h7:i<aa e.l:=K;omega) Fr I
 obtain rfl:i=aa e.l:=by have h7:¬i<aa e.l:=K;omega
 obtain⟨W,hpske⟩:∃W:Am,W=sk:=DF;have htk:(m.s.BA.1).take (aa e.l)=m.s.BA.1:=by rw[Ajb (by rw[←hpk.map,eh];exact er _)]
 rw[htk]at hsk⊢;have hpsk:W.ok (m.s.BA.1.map BR):=by rw[hpske];exact hsk
 rw[←hpske];refine J8 ?_;refine Bl (Ek I I Ca (by intro v S;simp at S;rcases S with rfl|rfl|rfl|rfl|rfl<;>first|exact rfl|rfl))<|Hb ?_;have C:m.s.Bj q=((⟨0,-1,0,0,⟨#[]⟩,m.s.BA.1.map BR⟩:B7),Q.s):=by
  exact MW
 exact Bg (AA b3 0 [.nilIface,.int .i64 (0:Nat),uN 0,.string ⟨#[]⟩,.slice W.p (aa (m.s.BA.1.map BR)) W.c]*(W.h (m.s.BA.1.map BR)*(Ao cb Q*(AA bs 0 [(.func (.func 110) #[] #[])]*(AA bc 0 [ptr cb 0]*R))))) (hE:=⟨λww hw=>Sat.right (A:=e.a.h e.l*(AP Iw (e.l.drop (aa e.l))*AA b2 0 (Bx q))) (Eq.mp Cp hw)⟩)<|KT (W.h (m.s.BA.1.map BR)*(Ao cb Q*(AA bs 0 [(.func (.func 110) #[] #[])]*(AA bc 0 [ptr cb 0]*R)))) I (IC (Kd I I) Im) ⟨Q,FU 0,Bs,W,hmo,by rw[C],by rw[C];exact .of M 0,.Bs,Jw 0,by rw[C];exact hpsk,by rw[C];rfl,by rw[C,BS]⟩
def y6(M:B.cell? ⟨0,0,none⟩=some (D5 106))(cb t:Nat)(m:Ak)(q:B')(F bc:Nat)(R:HP)(hm:m.ok)(hi:Aq t m.s)(ht:t<900000)(hd:q.data.size<90000000)(a:q.AQ<9223372036854775808)(hq:q.kind=6):
  Fn prog B 116 [.agg (Bx q).toArray,ptr F 0,ptr bc 0] (Ao cb m*(AA F 0 [(.func (.func 110) #[] #[])]*(AA bc 0 [ptr cb 0]*R))) (HB B cb m q (AA F 0 [(.func (.func 110) #[] #[])]*(AA bc 0 [ptr cb 0]*R))):=by
 refine mI func116 ?_;refine Kh ?_;rintro _ _ ⟨K,rfl,rfl⟩;refine KM ?_;rintro _ _ ⟨b4,rfl,rfl⟩;refine J3 ?_;refine EI (AA K 0 (Bx q)*(AA F 0 [(.func (.func 110) #[] #[])]*AA bc 0 [ptr cb 0])) 6 8 EO I C1<|Ou ?_;refine Au 4 C1 I I (Acw I) ?_;rintro _ _ ⟨O,S,U,c9,s9,rfl,e,hc9,rfl⟩;refine BT ?_;have o:aa q.data.data.toList<90000000:=YM;refine F9 (H':=Ao cb m*(AC S U q.data.data.toList s9*(AA b4 0 [.nilIface,.int .i64 (0:Nat),uN 0,.string ⟨#[]⟩,.slice none 0 0]*(AA K 0 (Bx q)*(AA F 0 [(.func (.func 110) #[] #[])]*(AA bc 0 [ptr cb 0]*R)))))) C4<|Au 5 C1 I I (Bd I (vg cb t m q.data.data.toList O S U c9 _ hm hi C0 e AH o)) ?_;rintro ev _ ⟨Q,h,hms,p⟩;obtain⟨EH,rfl,f,W,hev⟩:=p.t2 M;refine BT ?_;refine Au 6 C1 I I (HD I I (O2 (0) (ev) (hev) _))<|FZ ?_;refine GO 7 C1 I (Ek I I Ca PW)<|Of ?_;have C:m.s.Bj q=((⟨(m.s.BY q.data.data.toList).1.1,(m.s.BY q.data.data.toList).1.2,0,0,⟨#[]⟩,[]⟩:B7),Q.s):=by
  exact MW
 exact KT (EH*(Ao cb Q*(AA F 0 [(.func (.func 110) #[] #[])]*(AA bc 0 [ptr cb 0]*R)))) I (IC (Kd I I) Im) (HB.M? C h f W hev I)
def kh(hG:B.cell? ⟨0,0,none⟩=some (D5 106))(cb t:Nat)(m:Ak)(q:B')(bs bc:Nat)(R:HP)(hm:m.ok)(hi:Aq t m.s)(ht:t<900000)(O:q.data.size<90000000)(a:q.AQ<9223372036854775808)(hq:q.kind=7):
  Fn prog B 117 [.agg (Bx q).toArray,ptr bc 0] (Ao cb m*(AA bs 0 [(.func (.func 110) #[] #[])]*(AA bc 0 [ptr cb 0]*R))) (HB B cb m q (AA bs 0 [(.func (.func 110) #[] #[])]*(AA bc 0 [ptr cb 0]*R))):=by
 refine mI func117 ?_;refine Kh ?_;rintro _ _ ⟨b2,rfl,rfl⟩;refine KM ?_;rintro _ _ ⟨b3,rfl,rfl⟩;refine J9 ?_;refine WE ?_;refine mE I (ux cb t m q.stream q.AQ _ hm hi C0 a) ?_;rintro _ _ ⟨m2,hmo,Q,hms,rfl,o⟩;obtain⟨p,M,F,f,e,rfl,h,C,rfl⟩:=X_ o;have K:=Aay hi q.stream q.AQ;refine Gu ?_;refine J2 ?_;refine JL (KO I h AH)<|JL (FW I I I qV)<|Bl O7<|Hb ?_;have hdo:m.s.Bj q=((⟨(m.s.read q.stream q.AQ).1.2.2.2,-1,(m.s.read q.stream q.AQ).1.2.1,(m.s.read q.stream q.AQ).1.2.2.1,BR (m.s.read q.stream q.AQ).1.1,[]⟩:B7),m2.s):=by
  exact MW
 exact P7
def Afx(hG:B.cell? ⟨0,0,none⟩=some (D5 106))(cb t:Nat)(m:Ak)(q:B')(bs bc:Nat)(R:HP)(hm:m.ok)(hi:Aq t m.s)(ht:t<900000)(F:q.data.size<90000000)(a:q.AQ<9223372036854775808)(hq:q.kind=8):
  Fn prog B 118 [.agg (Bx q).toArray,ptr bs 0,ptr bc 0] (Ao cb m*(AA bs 0 [(.func (.func 110) #[] #[])]*(AA bc 0 [ptr cb 0]*R))) (HB B cb m q (AA bs 0 [(.func (.func 110) #[] #[])]*(AA bc 0 [ptr cb 0]*R))):=by
 refine mI func118 ?_;refine Kh ?_;rintro _ _ ⟨b3,rfl,rfl⟩;refine KM ?_;rintro _ _ ⟨b4,rfl,rfl⟩;refine J3 ?_;refine sY ?_;refine Ou ?_;refine SQ ?_;refine Au 4 C1 I I (Bd I (j' cb m q.code _ hm)) ?_;rintro _ _ ⟨m2,hmo,hms,rfl,rfl⟩;refine BT ?_;refine Au 5 C1 I I (HD I I (O2 (0) (FU (m.s.close q.code).1) (Jw _) _))<|FZ ?_;refine GO 6 C1 I O7<|Of ?_;have hdo:m.s.Bj q=((⟨(m.s.close q.code).1,-1,0,0,⟨#[]⟩,[]⟩:B7),m2.s):=by
  exact MW
 exact P7
def zw(M:B.cell? ⟨0,0,none⟩=some (D5 106))(cb t:Nat)(m:Ak)(q:B')(bs bc:Nat)(R:HP)(hm:m.ok)(hi:Aq t m.s)(ht:t<900000)(F:q.data.size<90000000)(a:q.AQ<9223372036854775808)(e:q.kind=9):
  Fn prog B 119 [.agg (Bx q).toArray,ptr bs 0,ptr bc 0] (Ao cb m*(AA bs 0 [(.func (.func 110) #[] #[])]*(AA bc 0 [ptr cb 0]*R))) (HB B cb m q (AA bs 0 [(.func (.func 110) #[] #[])]*(AA bc 0 [ptr cb 0]*R))):=by
 refine mI func119 ?_;refine Kh ?_;rintro _ _ ⟨b3,rfl,rfl⟩;refine KM ?_;rintro _ _ ⟨b4,rfl,rfl⟩;refine J3 ?_;refine fN ?_;refine Ou ?_;refine SQ ?_;refine Au 4 C1 I I (Bd I (df cb t m q.stream _ hm hi))<|Hh ?_;refine JT 5 I Jy<|JT 6 I Jy<|Au 7 C1 I I (HD I I (O2 ((m.s.AG q.stream).1) (FU (m.s.AG q.stream).2) (Jw _) _))<|FZ ?_;refine GO 8 C1 I O7<|Of ?_;have C:m.s.Bj q=((⟨(m.s.AG q.stream).2,-1,(m.s.AG q.stream).1,0,⟨#[]⟩,[]⟩:B7),m.s):=by
  unfold AO.Bj;simp only[e,Int.reduceEq,if_false,if_true];skip
 exact KT (Ao cb m*(AA bs 0 [(.func (.func 110) #[] #[])]*(AA bc 0 [ptr cb 0]*R))) I (IC (Kd I I) Im) (HB.of C hm (.of M _) (Jw _) I)
end
section
variable{B:World}
@[reducible] def HY:Value:=.func (.func 110) #[] #[]
def Mm(F bc:Nat):Array MapEntry:= #[⟨.int .i64 1,BI 111 [ptr F 0,ptr bc 0],0⟩,⟨.int .i64 2,BI 112 [ptr F 0,ptr bc 0],1⟩,⟨.int .i64 3,BI 113 [ptr F 0,ptr bc 0],2⟩,⟨.int .i64 4,BI 114 [ptr bc 0],3⟩,⟨.int .i64 5,BI 115 [ptr bc 0],4⟩,⟨.int .i64 6,BI 116 [ptr F 0,ptr bc 0],5⟩,⟨.int .i64 7,BI 117 [ptr bc 0],6⟩,⟨.int .i64 8,BI 118 [ptr F 0,ptr bc 0],7⟩,⟨.int .i64 9,BI 119 [ptr F 0,ptr bc 0],8⟩]
def cp(cb:Nat)(H:HP):Fn prog B 77 [ptr cb 0] H (λv S=>∃e F m,v=.map (some m)∧
  S=HP.obj m (.map (Mm F e) 9)*(AA F 0 [HY]*(AA e 0 [ptr cb 0]*H))):=by
 refine mI func77 ?_;refine J2 ?_;refine Ae (EB (l:=[ptr cb 0]) I I) I ?_;rintro _ _ ⟨C,rfl,rfl⟩;refine J5 ?_;refine Ae (GS (l:=[.nilFunc]) I) I ?_;rintro _ _ ⟨K,rfl,rfl⟩;refine J5 ?_;refine Ae (cw) I ?_;rintro _ _ ⟨a,rfl,rfl⟩;refine JL RD<|Bl (Ly (es:= #[]) (clock:=0) (R:=AA K 0 [HY]*(AA C 0 [ptr cb 0]*H)) I I I I I)<|M6 ?_;refine Bl (Ly (es:= #[⟨.int .i64 1,BI 111 [ptr K 0,ptr C 0],0⟩]) (clock:=1) (R:=AA K 0 [HY]*(AA C 0 [ptr cb 0]*H)) I I I I I)<|M6 ?_;refine Bl (Ly (es:= #[⟨.int .i64 1,BI 111 [ptr K 0,ptr C 0],0⟩,⟨.int .i64 2,BI 112 [ptr K 0,ptr C 0],1⟩]) (clock:=2) (R:=AA K 0 [HY]*(AA C 0 [ptr cb 0]*H)) I I I I I)<|M6 ?_;refine Bl (Ly (es:= #[⟨.int .i64 1,BI 111 [ptr K 0,ptr C 0],0⟩,⟨.int .i64 2,BI 112 [ptr K 0,ptr C 0],1⟩,⟨.int .i64 3,BI 113 [ptr K 0,ptr C 0],2⟩]) (clock:=3) (R:=AA K 0 [HY]*(AA C 0 [ptr cb 0]*H)) I I I I I)<|M6 ?_;refine Bl (Ly (es:= #[⟨.int .i64 1,BI 111 [ptr K 0,ptr C 0],0⟩,⟨.int .i64 2,BI 112 [ptr K 0,ptr C 0],1⟩,⟨.int .i64 3,BI 113 [ptr K 0,ptr C 0],2⟩,⟨.int .i64 4,BI 114 [ptr C 0],3⟩]) (clock:=4) (R:=AA K 0 [HY]*(AA C 0 [ptr cb 0]*H)) I I I I I)<|M6 ?_;refine Bl (Ly (es:= #[⟨.int .i64 1,BI 111 [ptr K 0,ptr C 0],0⟩,⟨.int .i64 2,BI 112 [ptr K 0,ptr C 0],1⟩,⟨.int .i64 3,BI 113 [ptr K 0,ptr C 0],2⟩,⟨.int .i64 4,BI 114 [ptr C 0],3⟩,⟨.int .i64 5,BI 115 [ptr C 0],4⟩]) (clock:=5) (R:=AA K 0 [HY]*(AA C 0 [ptr cb 0]*H)) I I I I I)<|M6 ?_;refine Bl (Ly (es:= #[⟨.int .i64 1,BI 111 [ptr K 0,ptr C 0],0⟩,⟨.int .i64 2,BI 112 [ptr K 0,ptr C 0],1⟩,⟨.int .i64 3,BI 113 [ptr K 0,ptr C 0],2⟩,⟨.int .i64 4,BI 114 [ptr C 0],3⟩,⟨.int .i64 5,BI 115 [ptr C 0],4⟩,⟨.int .i64 6,BI 116 [ptr K 0,ptr C 0],5⟩]) (clock:=6) (R:=AA K 0 [HY]*(AA C 0 [ptr cb 0]*H)) I I I I I)<|M6 ?_;refine Bl (Ly (es:= #[⟨.int .i64 1,BI 111 [ptr K 0,ptr C 0],0⟩,⟨.int .i64 2,BI 112 [ptr K 0,ptr C 0],1⟩,⟨.int .i64 3,BI 113 [ptr K 0,ptr C 0],2⟩,⟨.int .i64 4,BI 114 [ptr C 0],3⟩,⟨.int .i64 5,BI 115 [ptr C 0],4⟩,⟨.int .i64 6,BI 116 [ptr K 0,ptr C 0],5⟩,⟨.int .i64 7,BI 117 [ptr C 0],6⟩]) (clock:=7) (R:=AA K 0 [HY]*(AA C 0 [ptr cb 0]*H)) I I I I I)<|M6 ?_;refine Bl (Ly (es:= #[⟨.int .i64 1,BI 111 [ptr K 0,ptr C 0],0⟩,⟨.int .i64 2,BI 112 [ptr K 0,ptr C 0],1⟩,⟨.int .i64 3,BI 113 [ptr K 0,ptr C 0],2⟩,⟨.int .i64 4,BI 114 [ptr C 0],3⟩,⟨.int .i64 5,BI 115 [ptr C 0],4⟩,⟨.int .i64 6,BI 116 [ptr K 0,ptr C 0],5⟩,⟨.int .i64 7,BI 117 [ptr C 0],6⟩,⟨.int .i64 8,BI 118 [ptr K 0,ptr C 0],7⟩]) (clock:=8) (R:=AA K 0 [HY]*(AA C 0 [ptr cb 0]*H)) I I I I I)<|KW ?_;exact GE (H':=HP.obj a (.map (Mm K C) 9)*(AA K 0 [HY]*(AA C 0 [ptr cb 0]*H))) I<|mR [2] (HP.obj a (.map (Mm K C) 9)*(AA K 0 [HY]*(AA C 0 [ptr cb 0]*H))) I I ⟨C,K,a,I,I⟩
def NY(k:Int)(F bc:Nat):Option (Nat×Value):=
 if k=1 then some (0,BI 111 [ptr F 0,ptr bc 0])else if k=2 then some (1,BI 112 [ptr F 0,ptr bc 0])else if k=3 then some (2,BI 113 [ptr F 0,ptr bc 0])else if k=4 then some (3,BI 114 [ptr bc 0])else if k=5 then some (4,BI 115 [ptr bc 0])else if k=6 then some (5,BI 116 [ptr F 0,ptr bc 0])else if k=7 then some (6,BI 117 [ptr bc 0])else if k=8 then some (7,BI 118 [ptr F 0,ptr bc 0])else if k=9 then some (8,BI 119 [ptr F 0,ptr bc 0])else none
def zm(k:Int)(j:Int)(u b i es):a9 (.int .i64) (.int .i64 k) (⟨.int .i64 j,u,b⟩::es) i=if k=j then some (some (i,u))else a9 (.int .i64) (.int .i64 k) es (i+1):=by
 simp only[a9,Instr.sameNow,if_true];by_cases h:k=j
 ·subst h;simp
 have:(k==j)=false:=by simpa using h
 simp[this,h]
def E? (k:Int)(F bc):a9 (.int .i64) (.int .i64 k) (Mm F bc).toList 0=some (NY k F bc):=by
 unfold Mm NY;simp only[zm]
 repeat' split
 all_goals first|rfl|contradiction
end
section
open Go Go.RowKit Go.Conc
open Classical in
noncomputable def L0 (r:Ai) (b:Nat):Obj→Obj
 | .cells c t m=>GT (λi=>r.c b i=none) (.cells c t m)
 |o=>if r.o b=none then dead else o
noncomputable def En (B:World) (r:Ai) (w:World):World:=
 {w with heap:=(Array.range w.heap.size).map λb=>if b<B.heap.size then(B.heap[b]?).getD dead else((w.heap[b]?).map (L0 r b)).getD dead}
structure JS(L:Nat→Option Obj)(B w:World):Prop where
 le:B.heap.size≤w.heap.size
 tape:B.tape=w.tape
 os:B.os=w.os
 output:B.output=w.output
 ro:∀b:Nat,b<B.heap.size→B.heap[b]?=some dead∨KJ B w b
 kept:∀b:Nat,b<B.heap.size→w.heap[b]?=L b
section
variable{L:Nat→Option Obj}{B w v:World}{r s:Ai}{H A:HP}
def Nh:(En B r w).heap.size=w.heap.size:=by simp[En]
def lO(h:b<B.heap.size)(hb:b<w.heap.size):(En B r w).heap[b]?=B.heap[b]?:=by
 simp only[En,Akx];rw[Amu,AJ hb];simp only[i',AJ h];rw[mi h];rfl
def Nn(h:B.heap.size≤b):(En B r w).heap[b]?=(w.heap[b]?).map (L0 r b):=by
 simp only[En,Akx];rw[Amu];by_cases q:b<w.heap.size
 ·rw[AJ q];simp only[i',AF (Alv.2 h)];rw[mi q];rfl
 rw[AF q,n3 (Alv.1 q)];rfl
def D_{u}(h:B.heap.size≤b)(W:w.cell? ⟨b,i,none⟩=some u)(hr:r.c b i≠none):(En B r w).cell? ⟨b,i,none⟩=some u:=by
 unfold World.cell? at W⊢;rw[Nn h];cases a:w.heap[b]? with
 |none=>rw[a]at W;cases W
 |some o=>
  rw[a]at W;cases o with
  |cells c t m=>
   simp only[i',L0,GT];have W:c[i]?=some u:=W;show(Array.mapIdx _ c)[i]?=some u;rw[pv,W];simp only[i',AF hr]
  |_=>cases W
def Oo(a:JS L B w)(hr:r.Ea B.heap.size w)(l:H r):Sat B H (En B r w):=by
 have q:∀b i v,r.c b i=some v→B.heap.size≤b:=hr.FV;refine⟨⟨a.os.symm,a.tape.symm,a.output.symm,by rw[Nh];exact a.le,λk Z=>lO Z (ny Z a.le)⟩,r,l,⟨λb i v e=>D_ (hr.FV b i v e) (hr.cell b i v e) UH,λb i v e=>?_,λb x e=>?_,hr.live,hr.FV,hr.GC⟩⟩
 ·have:=hr.free b i v e;unfold World.frozen? at this⊢;rw[Nn (hr.FV b i v e)];cases f:w.heap[b]? with
  |none=>rfl
  |some o=>
   rw[f]at this;cases o with
   |cells c t m=>exact this
   |_=>
    have W:=hr.cell b i v e;unfold World.cell? at W;rw[f]at W;cases W
 have O:=hr.obj b x e;have U:=Nn (B:=B) (r:=r) (w:=w) (hr.GC b x e);cases x with
 |cells _ _ _=>
  obtain⟨c,t,C,h⟩:=O;rw[h]at U;exact⟨_,t,C,U⟩
 |_=>
  have M:w.heap[b]?=some _:=O;show(En B r w).heap[b]?=_;rw[U,M];simp[L0,e]
def TP(a:JS L B w):B5 B.heap.size (En B r w) w:=by
 refine⟨by rw[Nh];exact er _,by rw[Nh];exact a.le,I,I,I,λb q=>?_,λb q f=>?_⟩
 ·have O:=lO (r:=r) q (ny q a.le);obtain h|⟨c,t,m,C,M⟩:=a.ro b q
  ·exact .inl (O.trans h)
  exact .inr ⟨c,t,m,C,O.trans M⟩
 rw[Nh]at f;have O:=Nn (B:=B) (r:=r) (w:=w) q;cases e:w.heap[b]? with
 |none=>rw[mi f]at e;cases e
 |some o=>
  rw[e]at O;cases o with
  |cells c t m=>exact .inr (by rw[←e];exact nG (by rw[O,e];rfl))
  |_=>
   by_cases h:r.o b=none
   ·exact .inl (by rw[O];simp[L0,h])
   exact .inr (by rw[O];simp[L0,h,GT])
def UJ(h:Bm B.heap.size (En B r w) b i):r.c b i≠none∨r.o b≠none∧∃x,w.heap[b]?=some x∧∀c t f,x≠ .cells c t f:=by
 obtain⟨O,U,M⟩:=h;rw[Nh]at U;have Z:=Nn (B:=B) (r:=r) (w:=w) O;cases a:w.heap[b]? with
 |none=>rw[mi U]at a;cases a
 |some o=>
  rw[a]at Z;cases o with
  |cells c t m=>
   left;intro l;refine M ⟨_,_,_,Z,λu e=>?_⟩;rw[pv]at e;cases W:c[i]? with
   |none=>rw[W]at e;cases e
   |some x=>
    rw[W]at e;simp only[i',ad.injEq,AJ l]at e;exact e.symm
  |_=>
   right;refine⟨λl=>M (Qc (by rw[Z];simp[L0,l]) i),_,I,C3⟩
def M3(hr:r.Ea n v)(h:r.c b i≠none):Bm n v b i:=by
 obtain⟨u,q⟩:=Aiy.1 h;have W:=hr.cell b i u q;refine⟨hr.FV b i u q,K9 W,?_⟩;rintro⟨c,t,m,e,O⟩;have U:c[i]?=some u:=by
  unfold World.cell? at W;rw[e]at W;exact W
 have:=hr.live b i u q;rw[O u U]at this;cases this
def Vq(hr:r.Ea n v){x}(h:r.o b=some x)(F:∀c t f,x≠ .cells c t f)(i):Bm n v b i:=by
 have O:=(Mb F).1 (hr.obj b x h);exact⟨hr.GC b x h,I9 O,O1 ⟨x,O,F⟩ i⟩
open Classical in
def K2(C:B5 n v w)(hr:r.Ea n v):r.Ea n w:=by
 have K:∀b:Nat,v.heap[b]?=some dead→∀i u,r.c b i≠some u:=λb e i u q=>by
  have:=hr.cell b i u q;rw[TT (a:=⟨b,i,none⟩) e]at this;cases this
 refine⟨λb i u e=>?_,λb i u e=>?_,λb x e=>?_,hr.live,hr.FV,hr.GC⟩
 ·have W:=hr.cell b i u e;have O:=(C.own b (hr.FV b i u e) (K9 W)).resolve_left λh=>K b h i u e;unfold World.cell? at W⊢;rw[O]at W;cases f:w.heap[b]? with
  |none=>rw[f]at W;cases W
  |some o=>
   rw[f]at W;cases o with
   |cells c t m=>
    simp only[i',GT]at W;have W:(Array.mapIdx (λj x=>if(Ec v).cell b j then Nk else x) c)[i]?=some u:=W;rw[pv]at W;cases F:c[i]? with
    |none=>rw[F]at W;cases W
    |some x=>
     rw[F]at W;simp only[i',ad.injEq]at W;rw[AF (M3 hr (b:=b) (i:=i) UH).2.2]at W;exact F.trans (congrArg some W)
   |_=>cases W
 ·have W:=hr.cell b i u e;have O:=(C.own b (hr.FV b i u e) (K9 W)).resolve_left λh=>K b h i u e;have U:=hr.free b i u e;unfold World.frozen? at U⊢;rw[O]at U;cases f:w.heap[b]? with
  |none=>rfl
  |some o=>rw[f]at U;cases o<;>first|exact U|rfl
 have O:=hr.obj b x e;have l:=O.lt;obtain p|U:=C.own b (hr.GC b x e) l
 ·exfalso;cases x with
  |cells _ _ _=>obtain⟨c,t,M,h⟩:=O;rw[p]at h;simp[dead]at h
  |_=>have O:v.heap[b]?=some _:=O;rw[p]at O;simp[dead]at O
 cases x with
 |cells _ _ _=>
  obtain⟨c,t,M,h⟩:=O;rw[h]at U;cases f:w.heap[b]? with
  |none=>rw[f]at U;cases U
  |some o=>
   rw[f]at U;obtain⟨Q,rfl,_,_⟩:=sU (ad.inj U).symm;exact⟨Q,t,M,f⟩
 |_=>
  have O:v.heap[b]?=some _:=O;show w.heap[b]?=_;rw[O]at U;cases f:w.heap[b]? with
  |none=>rw[f]at U;cases U
  |some o=>
   rw[f]at U;rw[eB (ad.inj U).symm C3]
end
end
section
open Go Go.Conc
def Acb(t:Trace)(l:Loc):Prop:=∀i a,touchAt t i=some a→a.loc≠l
structure yX(Own Ro:Nat→Loc→Prop):Prop where
 own:∀g g' l,Own g l→Own g' l→g=g'
 ro:∀g g' l,Own g l→¬Ro g' l
structure Tr(Own Ro:Nat→Loc→Prop)(t:Trace):Prop where
 word:Wordless t
 race:∀said,¬Race said t
 perm:∀g l,Own g l→Perm t g l
 ro:∀g l,Ro g l→∀i a,touchAt t i=some a→a.loc=l→a.write=true→Knows t g i
def M9{u a}(h:touchAt (t++u) i=some a):(i<t.size∧touchAt t i=some a)∨∃op∈u,(t++u)[i]?=some op∧op.act.touch?=some a:=by
 obtain⟨op,Q,e⟩:=touch_of h;obtain⟨O,U⟩|⟨_,U⟩:=getElem?_append_cases Q
 ·exact .inl ⟨O,by rw[touchAt_of U];exact e⟩
 exact .inr ⟨op,U,Q,e⟩
section
variable{Own Ro Own' Ro':Nat→Loc→Prop}{t u:Trace}{g:Nat}
def Tr.step{New:Loc→Prop}(h:Tr Own Ro t)(p:yX Own Ro)(hg:∀op∈u,op.g=g)(hw:Wordless u)(C:∀l,New l→Acb t l∧∀K,¬Own K l∧¬Ro K l)(hu:∀op∈u,∀b,op.act.touch?=some b→Own g b.loc∨(Ro g b.loc∧b.write=false)∨New b.loc)(m:∀K l,Own' K l→Own K l∨(K=g∧New l))(F:∀K l,Ro' K l→Ro K l):Tr Own' Ro' (t++u):=by
 refine⟨h.word.append hw,λsaid=>noRace_append (h.race said) hg λi a o op S b q W=>?_,λK l Q=>?_,λK l Q i a o Z f=>?_⟩
 ·obtain O|⟨O,U⟩|O:=hu op S b q
  ·exact h.perm g _ O i a o W.1
  ·refine h.ro g _ O i a o W.1 ?_;obtain M|M:=W.2.2.1
   ·exact M
   rw[U]at M;cases M
  exact absurd W.1 ((C _ O).1 i a o)
 ·obtain O|⟨rfl,O⟩:=m K l Q
  ·refine(h.perm K l O).app λop S b q e=>?_;obtain U|⟨U,_⟩|U:=hu op S b q
   ·rw[hg op S];exact p.own _ _ _ (e▸U) O
   ·exact absurd (e▸U) (p.ro _ _ _ O)
   exact absurd O (e▸(C _ U).2 K).1
  refine Perm.app (λi a o Z=>absurd Z ((C _ O).1 i a o)) λop S b q e=>hg op S
 obtain⟨O,U⟩|⟨op,S,_,q⟩:=M9 o
 ·exact(h.ro K l (F K l Q) i a U Z f).app u
 exfalso;obtain U|⟨_,U⟩|U:=hu op S a q
 ·exact p.ro _ _ _ (Z▸U) (F K l Q)
 ·rw[U]at f;cases f
 exact(Z▸(C _ U).2 K).2 (F K l Q)
def Pass(t u:Trace)(g g':Nat):Prop:=∀i,Knows t g i→Knows (t++u) g' i
def Pass.refl(t u g):Pass t u g g:=λ_ h=>h.app u
def Pass.yU{p q g'}{x y:MemOp}(e:t.size≤p)(F:(t++u)[p]?=some x)(h:x.g=g)(f:(t++u)[q]?=some y)(a:y.g=g')(hb:HappensBefore (t++u) p q):Pass t u g g':=
 λ_ Z=>⟨q,y,f,a,.inr ((Z.hb_new e F h).trans hb)⟩
def MS(C:∀op∈u,op.act.touch?=none){a}(h:touchAt (t++u) i=some a):touchAt t i=some a:=by
 obtain O|⟨op,S,_,q⟩:=M9 h
 ·exact O.2
 rw[C op S]at q;cases q
def Tr.move(h:Tr Own Ro t)(hs:∀op∈u,op.act.touch?=none)(hw:Wordless u)(m:∀K l,Own' K l→∃g,Own g l∧Pass t u g K)(M:∀K l,Ro' K l→∃g,(Own g l∨Ro g l)∧Pass t u g K):Tr Own' Ro' (t++u):=by
 refine⟨h.word.append hw,λsaid=>?_,λK l p i a ha hal=>?_,λK l p i a ha hal f=>?_⟩
 ·rintro⟨i,j,F,⟨a,b,ha,q,W⟩,S,O⟩;have o:=MS hs ha;have C:=MS hs q;exact h.race said ⟨i,j,F,⟨a,b,o,C,W⟩,λe=>S (hb_app u e),λe=>O (hb_app u e)⟩
 ·obtain⟨g,h1,h2⟩:=m K l p;exact sG
 obtain⟨g,h1|h1,h2⟩:=M K l p
 ·exact sG
 exact h2 i (h.ro g l h1 i a (MS hs ha) hal f)
end
end
section
open Go Go.RowKit Go.Conc
def eC:Loc→Option Nat
 | .cell a=>some a.block
 | .obj b=>some b
 |_=>none
def Rz(n N:Nat)(vs:Nat→World)(X:Nat→Nat→Prop):Nat→Loc→Prop
 |g,.cell a=>g<N∧Bm n (vs g) a.block a.off
 |g,.obj b=>(g<N∧Bm n (vs g) b 0)∨X g b
 |_,_=>False
def UX(n sb:Nat)(Y:Nat→Prop):Nat→Loc→Prop
 |g,.cell a=>a.block<n∨(Y g∧a.block=sb∧a.off=0)
 |_,_=>False
structure Br(L:Nat→Option Obj)(B:World)(sb:Nat)(X:Nat→Nat→Prop)(Y:Nat→Prop)(N:Nat)(vs:Nat→World)(w:World)(t:Trace):Prop where
 base:JS L B w
 CD:∀g,g<N→B5 B.heap.size (vs g) w
 apart:∀g g' b i,g<N→g'<N→Bm B.heap.size (vs g) b i→Bm B.heap.size (vs g') b i→g=g'
 box:∀g,Y g→sb<w.heap.size∧∀g',g'<N→¬Bm B.heap.size (vs g') sb 0
 chan:∀g b,X g b→B.heap.size≤b∧b<w.heap.size∧∀g' i,g'<N→¬Bm B.heap.size (vs g') b i
 one:∀g g' b,X g b→X g' b→g=g'
 small:∀i a b,touchAt t i=some a→eC a.loc=some b→b<w.heap.size
 Ua:∀i a x,touchAt t i=some a→a.write=true→a.loc=.cell x→B.heap.size≤x.block
 tr:Tr (Rz B.heap.size N vs X) (UX B.heap.size sb Y) t
def G1(vs:Nat→World)(g:Nat)(v:World):Nat→World:=λK=>if K=g then v else vs K
@[simp] theorem IX(vs:Nat→World)(g v):G1 vs g v g=v:=AJ rfl
def HZ(vs:Nat→World){g g'}(v)(h:g'≠g):G1 vs g v g'=vs g':=AF h
section
variable{L:Nat→Option Obj}{B:World}{sb:Nat}{X:Nat→Nat→Prop}{Y:Nat→Prop}{N:Nat}{vs:Nat→World}{w w' v':World}{t:Trace}{g:Nat}{es:Array Event}
def Br.QR(h:Br L B sb X Y N vs w t):yX (Rz B.heap.size N vs X) (UX B.heap.size sb Y):=by
 refine⟨λg K l O U=>?_,λg K l O U=>?_⟩
 ·cases l with
  |cell a=>exact h.apart g K _ _ O.1 U.1 O.2 U.2
  |obj b=>
   rcases O with O|O<;>rcases U with U|U
   ·exact h.apart g K _ _ O.1 U.1 O.2 U.2
   ·exact absurd O.2 ((h.chan _ _ U).2.2 _ _ O.1)
   ·exact absurd U.2 ((h.chan _ _ O).2.2 _ _ U.1)
   exact h.one _ _ _ O U
  |_=>exact O.elim
 cases l with
 |cell a=>
  obtain U|⟨U,M,Z⟩:=U
  ·have:=O.2.1;omega
  exact(h.box K U).2 g O.1 (Z▸M▸O.2)
 |_=>exact U.elim
def HC.other{v l}(F:HC n v w w' v' es)(C:B5 n l w)(S:B5 n v w)(U:∀b i,Bm n v b i→¬Bm n l b i):B5 n l w':=by
 obtain⟨ht,Q,hp⟩:=F.calm;refine⟨k9 C.size F.grow,C.low,C.tape.trans ht.symm,C.os.trans Q.symm,C.output.trans hp.symm,λb q=>?_,λb q hl=>?_⟩
 ·have Z:=F.kept b (ny (ny q C.low) C.size) (.inl q);unfold KJ;rw[Z];exact C.ro b q
 have h:b<w.heap.size:=ny hl C.size;obtain O|O:=C.own b q hl
 ·exact .inl O
 by_cases hdd:l.heap[b]?=some dead
 ·exact .inl hdd
 right;cases hw:w.heap[b]? with
 |none=>rw[mi h]at hw;cases hw
 |some o=>
  rw[hw]at O;by_cases hc:∃c t m,o=.cells c t m
  ·obtain⟨c,t,m,rfl⟩:=hc;obtain⟨c',e',K,k'⟩:=F.cell b h c t m hw;rw[O,e'];simp only[i',GT,ad.injEq,Obj.cells.injEq,and_true];apply Aj6;intro i;rw[pv,pv];by_cases hm:(Ec l).cell b i
   ·have:(c'[i]?).isSome=(c[i]?).isSome:=by
     by_cases M:i<c.size
     ·rw[mi M,mi (K▸M)];rfl
     rw[n3 (Alv.1 M),n3 (K▸Alv.1 M)]
    cases hx:c[i]?<;>cases hy:c'[i]?<;>simp_all
   have W:Bm n l b i:=⟨q,hl,hm⟩
   rw[k' i λa=>U b i a W]
  have hx:∀c t f,o≠ .cells c t f:=λc t f e=>hc ⟨c,t,f,e⟩;have hmo:∀p,GT p o=o:=λp=>by cases o<;>first|exact absurd I (hx _ _ _)|rfl
  have W:Bm n l b 0:=⟨q,hl,O1 ⟨o,by rw[O];simp[hmo],hx⟩ 0⟩
  have hg:Ol v b:=by
   obtain h3|h3:=ff b v.heap.size
   ·refine(S.own b q h3).elim .inl λh4=>?_;rw[hw]at h4;exact absurd W (U b 0 ⟨q,h3,O1 ⟨o,YC,hx⟩ 0⟩)
   exact .inr h3
  rw[F.kept b h (.inr hg),hw];exact O
def HC.object{v}(a:HC n v w w' v' es)(S:B5 n v w){o}(hb:n≤b)(hw:w.heap[b]?=some o)(F:∀c t f,o≠ .cells c t f)(hm:¬Bm n v b 0):w'.heap[b]?=some o:=by
 have hmo:∀p,GT p o=o:=λp=>by cases o<;>first|exact absurd I (F _ _ _)|rfl
 have e:Ol v b:=by
  obtain M|M:=ff b v.heap.size
  ·refine(S.own b hb M).elim .inl λh4=>?_;rw[hw]at h4;exact absurd ⟨hb,M,O1 ⟨o,YC,F⟩ 0⟩ hm
  exact .inr M
 rw[a.kept b (I9 hw) (.inr e),hw]
def HC.boxed{v}(F:HC n v w w' v' es){u}(W:w.cell? ⟨b,i,none⟩=some u)(hm:¬Bm n v b i):w'.cell? ⟨b,i,none⟩=some u:=by
 have e:=K9 W;unfold World.cell? at W⊢;cases a:w.heap[b]? with
 |none=>rw[a]at W;cases W
 |some o=>
  rw[a]at W;cases o with
  |cells c t m=>
   obtain⟨f,h,_,U⟩:=F.cell b e c t m a;rw[h];have W:c[i]?=some u:=W;show f[i]?=some u;rw[U i hm,W]
  |_=>cases W
def yC{v e k}(h:Ym n v w k e):(∀m,MemAct.ofEvent e=.mark m→Neutral m)∧∀b,(MemAct.ofEvent e).touch?=some b→
  (∃a,b.loc=.cell a∧a.block<k∧(w.heap.size≤a.block∨Bm n v a.block a.off∨a.block<n∧b.write=false))∨(∃r,b.loc=.obj r∧r<k∧(w.heap.size≤r∨Bm n v r 0)):=by
 obtain⟨l,f,o⟩:=e;obtain⟨a,O,U,M,Z⟩|⟨r,O,U,M⟩|O:=h
 ·dsimp only at O U Z;subst O U;refine⟨λm e=>by simp[MemAct.ofEvent]at e,λb q=>?_⟩;simp only[MemAct.ofEvent,MemAct.touch?,ad.injEq]at q;subst q;exact .inl ⟨a,I,M,Z⟩
 ·dsimp only at O;subst O;cases f<;>cases o<;>refine⟨λm e=>by simp[MemAct.ofEvent]at e,λb q=>?_⟩<;>simp only[MemAct.ofEvent,MemAct.touch?,ad.injEq]at q
  all_goals first|(cases q;done)|skip
  all_goals subst q;exact .inr ⟨r,I,U,M⟩
 dsimp only at O;subst O;refine⟨λm e=>?_,λb q=>by simp[MemAct.ofEvent,MemAct.touch?]at q⟩;simp only[MemAct.ofEvent,MemAct.mark.injEq]at e;exact e.symm
def Br.own(h:Br L B sb X Y N vs w t)(K:g<N)(F:HC B.heap.size (vs g) w w' v' es)(fn pos):Br L B sb X Y N (G1 vs g v') w' (t++MemOp.ofEvents g fn pos es):=by
 obtain⟨Z,c2,c3⟩:=F.calm;have o:∀g1 b i,g1<N→b<w.heap.size→Bm B.heap.size (G1 vs g v' g1) b i→Bm B.heap.size (vs g1) b i:=λg1 b i _ hb W=>by
  by_cases e:g1=g
  ·subst e;rw[IX]at W;exact F.mine b i hb W
  rwa[HZ vs v' e]at W
 have hold:∀g1 b i,g1<N→g1≠g→Bm B.heap.size (G1 vs g v' g1) b i→b<w.heap.size:=λg1 b i h1 e W=>by
  rw[HZ vs v' e]at W;exact ny W.2.1 (h.CD g1 h1).size
 have f:∀op∈MemOp.ofEvents g fn pos es,op.g=g∧(∀m,op.act=.mark m→Neutral m)∧∀b,op.act.touch?=some b→
   (∃a,b.loc=.cell a∧a.block<w'.heap.size∧(w.heap.size≤a.block∨Bm B.heap.size (vs g) a.block a.off∨a.block<B.heap.size∧b.write=false))∨(∃r,b.loc=.obj r∧r<w'.heap.size∧(w.heap.size≤r∨Bm B.heap.size (vs g) r 0)):=by
  intro op S;rw[ofEvents_eq]at S;obtain⟨e,he,rfl⟩:=EA.1 S;obtain⟨k1,k2⟩:=yC (F.ev e he);exact⟨I,k1,k2⟩
 refine⟨⟨k9 h.base.le F.grow,h.base.tape.trans Z.symm,h.base.os.trans c2.symm,h.base.output.trans c3.symm,λb hb=>?_,λb hb=>(F.kept b (ny hb h.base.le) (.inl hb)).trans (h.base.kept b hb)⟩,λg1 h1=>?_,λg1 p b i h1 h2 m1 m2=>?_,λg1 h1=>⟨ny (h.box g1 h1).1 F.grow,λp h2 W=>(h.box g1 h1).2 p h2 (o p sb 0 h2 (h.box g1 h1).1 W)⟩,λg1 b h1=>?_,h.one,λi a b U hb=>?_,λi a x U haw hal=>?_,?_⟩
 ·have hk:=F.kept b (ny hb h.base.le) (.inl hb);unfold KJ;rw[hk];exact h.base.ro b hb
 ·by_cases e:g1=g
  ·subst e;rw[IX];exact F.CD
  rw[HZ vs v' e];exact F.other (h.CD g1 h1) (h.CD g K) λb i m1 m2=>e (h.apart g1 g b i h1 K m2 m1)
 ·by_cases hb:b<w.heap.size
  ·exact h.apart g1 p b i h1 h2 (o g1 b i h1 hb m1) (o p b i h2 hb m2)
  by_cases C:g1=g
  ·by_cases M:p=g
   ·rw[C,M]
   exact absurd (hold p b i h2 M m2) hb
  exact absurd (hold g1 b i h1 C m1) hb
 ·obtain⟨k1,k2,O⟩:=h.chan g1 b h1;exact⟨k1,ny k2 F.grow,λp i h2 W=>O p i h2 (o p b i h2 k2 W)⟩
 ·obtain⟨_,k⟩|⟨op,S,_,k⟩:=M9 U
  ·exact ny (h.small i a b k hb) F.grow
  obtain⟨x,e,hx,_⟩|⟨x,e,hx,_⟩:=(f op S).2.2 a k
  ·rw[e]at hb;cases hb;exact hx
  rw[e]at hb;cases hb;exact hx
 ·obtain⟨_,k⟩|⟨op,S,_,k⟩:=M9 U
  ·exact Yb
  obtain⟨y,e,_,k|k|⟨_,k⟩⟩|⟨y,e,_⟩:=(f op S).2.2 a k
  ·rw[e]at hal;cases hal;exact k9 h.base.le k
  ·rw[e]at hal;cases hal;exact k.1
  ·rw[k]at haw;cases haw
  rw[e]at hal;cases hal
 refine h.tr.step (g:=g) (New:=λl=>∃b,eC l=some b∧w.heap.size≤b) h.QR (λop S=>(f op S).1) (λop S m W=>(f op S).2.1 m W) (λl ⟨b,e,hb⟩=>⟨λi a U hal=>?_,λg1=>⟨λQ=>?_,λq=>?_⟩⟩) (λop S b hb=>?_) (λg1 l Q=>?_) λg1 l q=>q
 ·have:=h.small i a b U (hal▸e);omega
 ·cases l with
  |cell x=>
   cases e;have:=Q.2.2.1;have:=(h.CD g1 Q.1).size;omega
  |obj x=>
   cases e;obtain Q|Q:=Q
   ·have:=Q.2.2.1;have:=(h.CD g1 Q.1).size;omega
   have:=(h.chan _ _ Q).2.1;omega
  |_=>exact Q
 ·cases l with
  |cell x=>
   cases e;obtain q|⟨h1,h2,_⟩:=q
   ·have:=h.base.le;omega
   have:=(h.box g1 h1).1;omega
  |_=>exact q
 ·obtain⟨x,e,_,k|k|⟨k1,k2⟩⟩|⟨x,e,_,k|k⟩:=(f op S).2.2 b hb
  ·exact .inr (.inr ⟨_,O',k⟩)
  ·exact .inl (by rw[e];exact⟨K,k⟩)
  ·exact tE
  ·exact .inr (.inr ⟨_,O',k⟩)
  exact .inl (by rw[e];exact .inl ⟨K,k⟩)
 cases l with
 |cell x=>
  obtain⟨h1,h2⟩:=Q;by_cases hb:x.block<w.heap.size
  ·exact .inl ⟨h1,o g1 _ _ h1 hb h2⟩
  exact hM
 |obj x=>
  obtain⟨h1,h2⟩|Q:=Q
  ·by_cases hb:x<w.heap.size
   ·exact .inl (.inl ⟨h1,o g1 _ _ h1 hb h2⟩)
   exact hM
  exact .inl (.inr Q)
 |_=>exact Q.elim
def Br.move{u}{vs2:Nat→World}{X2:Nat→Nat→Prop}{Y2:Nat→Prop}{o sb2}(h:Br L B sb X Y N vs w t)(hb:JS L B w2)(W:w.heap.size≤w2.heap.size)(C:∀op∈u,op.act.touch?=none)(hw:Wordless u)(CD:∀g,g<o→B5 B.heap.size (vs2 g) w2)(apart:∀g K b i,g<o→K<o→Bm B.heap.size (vs2 g) b i→Bm B.heap.size (vs2 K) b i→g=K)(mine:∀g b i,g<o→Bm B.heap.size (vs2 g) b i→∃Q,Q<N∧Bm B.heap.size (vs Q) b i∧Pass t u Q g)(box:∀g,Y2 g→sb2<w2.heap.size∧(∀K,K<o→¬Bm B.heap.size (vs2 K) sb2 0)∧∃Q,(Y Q∧sb=sb2∨Q<N∧Bm B.heap.size (vs Q) sb2 0)∧Pass t u Q g)(chan:∀g b,X2 g b→B.heap.size≤b∧b<w2.heap.size∧(∀K i,K<o→¬Bm B.heap.size (vs2 K) b i)∧∃Q,(X Q b∨Q<N∧Bm B.heap.size (vs Q) b 0)∧Pass t u Q g)(one:∀g K b,X2 g b→X2 K b→g=K):Br L B sb2 X2 Y2 o vs2 w2 (t++u):=by
 refine⟨hb,CD,apart,λg S=>⟨(box g S).1,(box g S).2.1⟩,λg b S=>⟨(chan g b S).1,(chan g b S).2.1,(chan g b S).2.2.1⟩,one,λi a b U q=>ny (h.small i a b (MS C U) q) W,λi a x U=>h.Ua i a x (MS C U),⟨h.tr.word.append hw,λsaid=>?_,λg l F=>?_,λg l F i a U Z f=>?_⟩⟩
 ·exact(h.tr.move (Own':=λ_ _=>False) (Ro':=λ_ _=>False) C hw (λ_ _ h=>h.elim) (λ_ _ h=>h.elim)).race said
 ·intro i a U Z;have U:=MS C U;cases l with
  |cell x=>
   obtain⟨Q,m,p,O⟩:=mine g _ _ F.1 F.2;exact O i (h.tr.perm Q (.cell x) ⟨m,p⟩ i a U Z)
  |obj x=>
   obtain⟨e,F⟩|F:=F
   ·obtain⟨Q,m,p,O⟩:=mine g _ _ e F;exact O i (h.tr.perm Q (.obj x) (.inl ⟨m,p⟩) i a U Z)
   obtain⟨_,_,_,Q,m,O⟩:=chan g x F;exact O i (h.tr.perm Q (.obj x) (m.symm.imp id id) i a U Z)
  |_=>exact F.elim
 have U:=MS C U;cases l with
 |cell x=>
  obtain F|⟨F,e1,M⟩:=F
  ·have:=h.Ua i a x U f Z;omega
  obtain⟨_,_,Q,m,O⟩:=box g F;refine O i ?_;obtain⟨m,p⟩|⟨m,p⟩:=m
  ·exact h.tr.ro Q (.cell x) (.inr ⟨m,e1.trans p.symm,M⟩) i a U Z f
  exact h.tr.perm Q (.cell x) ⟨m,by rw[e1,M];exact p⟩ i a U Z
 |_=>exact F.elim
end
end
section
open Go Go.RowKit Go.Conc
def Ends(P:Program)(Post:Value→World→Prop)(m:Machine)(t:Trace):Prop:=
 ∃n a o w' q,runNT P (n+1) m t=(.ended o w',q)∧Go.runN P n m=.next a∧step P a=.ended o w'∧Conc.Good P Post a o w' q
def Ends.next{P:Program}{Post:Value→World→Prop}{m e ops}(C:stepT P m=(.next e,ops))(h:Ends P Post e (t++ops)):Ends P Post m t:=by
 obtain⟨n,a,o,w,q,O,U,M,Z⟩:=h;exact⟨n+1,a,o,w,q,by rw[runNT_succ_next C];exact O,by rw[runN_succ_next C];exact U,M,Z⟩
def Ends.last{P:Program}{Post:Value→World→Prop}{m o ops}(C:stepT P m=(.ended o w,ops))(h:Conc.Good P Post m o w (t++ops)):Ends P Post m t:=
 ⟨0,m,o,w,t++ops,by simp[runNT,C],I,by simp[step,C],h⟩
def CN(G:Nat→Goroutine)(N:Nat):Array Goroutine:=(Array.range N).map G
def MP(G:Nat→Goroutine)(N):(CN G N).size=N:=by simp[CN]
def Dt(h:i<N):(CN G N)[i]?=some (G i):=by simp[CN,h]
def I1{g}(h:(CN G N)[i]?=some g):i<N∧g=G i:=by
 have M:i<N:=by have:=(HX.1 h).1;rwa[MP]at this
 rw[Dt M]at h;exact⟨M,(ad.inj h).symm⟩
def Gh(G:Nat→Goroutine)(i:Nat)(g:Goroutine):Nat→Goroutine:=λj=>if j=i then g else G j
def OD{g}{f:Goroutine→Goroutine}(h:∀j,j<N→j≠i→f (G j)=G j):((CN G N).map f).setIfInBounds i g=CN (Gh G i g) N:=by
 apply Aj6;intro j;rw[Aj3];by_cases W:j<N
 ·rw[Dt W];by_cases e:i=j
  ·subst e;simp[MP,W,Gh]
  rw[AF e,Akx,Dt W];simp only[i',Gh,AF (Ne.symm e)];rw[h j W (Ne.symm e)]
 have h1:(CN (Gh G i g) N)[j]?=none:=n3 SF;exact bJ
def Br.at(h:Br L B sb X Y N vs w t)(d):Br L B sb X Y N vs (w.at d) t:=
 ⟨⟨h.base.le,h.base.tape,h.base.os,h.base.output,h.base.ro,h.base.kept⟩,λg S=>let s:=h.CD g S;⟨s.size,s.low,s.tape,s.os,s.output,s.ro,s.own⟩,h.apart,h.box,h.chan,h.one,h.small,h.Ua,h.tr⟩
section
variable{P:Program}{Post:Value→World→Prop}{L:Nat→Option Obj}{B:World}{sb:Nat}{X:Nat→Nat→Prop}{Y:Nat→Prop}{N:Nat}{Stop:Nat→Goroutine→World→Prop}{Done:Nat→Prop}{J:World→Trace→Prop}
variable(P B Stop Done)in
def CR(j:Nat)(g:Goroutine)(v:World):Prop:=Co P (j==0) B.heap.size (Stop j) g v∧(Done j→Stop j g v)
variable(P Post L B sb X Y N J)in
def KH(G:Nat→Goroutine)(V:Nat→World):Prop:=∀w t sl,Br L B sb X Y N V w t→J w t→Ends P Post (crowd (CN G N) w sl) t
variable(P Post L B sb X Y N Stop Done J)in
structure L4:Prop where
 draw:∀w t d,J w t→J (w.at d) t
 own:∀(V:Nat→World) (w:World) (t:Trace) (i:Nat) (v' w':World) (es:Array Event) (fn:FuncId) (pos:String),Br L B sb X Y N V w t→J w t→i<N→¬Done i→HC B.heap.size (V i) w w' v' es→J w' (t++MemOp.ofEvents i fn pos es)
 awake:∀j g v,Stop j g v→Conc.awake g
 again:∀j g v w t,J w t→Stop j g v→g.again w=g
 live:∀(G:Nat→Goroutine) (V:Nat→World) (w:World) (t:Trace),Br L B sb X Y N V w t→J w t→(∀j,j<N→CR P B Stop Done j (G j) (V j))→∃i,i<N∧(G i).status=.running
 stop:∀(G:Nat→Goroutine) (V:Nat→World) (w:World) (t:Trace) (sl:Option (Nat×Nat)) (i:Nat),Br L B sb X Y N V w t→J w t→(∀j,j<N→CR P B Stop Done j (G j) (V j))→i<N→(G i).status=.running→Stop i (G i) (V i)→
  (∃m' ops,runT P (crowd (CN G N) w sl) i=(.next m',ops)∧Ends P Post m' (t++ops))∨
  ∃o w' ops,runT P (crowd (CN G N) w sl) i=(.ended o w',ops)∧∀w0 sl0,Conc.Good P Post (crowd (CN G N) w0 sl0) o w' (t++ops)
variable(P Post L B sb X Y N Stop Done J)in
def Dn(G:Nat→Goroutine)(V:Nat→World)(j:Nat):Prop:=
 Stop j (G j) (V j)∨¬Done j∧NW P (j==0) B.heap.size (λK v'=>Co P (j==0) B.heap.size (Stop j) K v'∧∀a e,(∀i,j<i→a i=G i∧e i=V i)→a j=K→e j=v'→
  (∀i,i<j→CR P B Stop Done i (a i) (e i))→KH P Post L B sb X Y N J a e) (G j) (V j)
def Dn.co{j}(h:Dn P Post L B sb X Y N Stop Done J G V j):CR P B Stop Done j (G j) (V j):=
 ⟨h.elim .stop λh=>.step (h.2.mono λ_ _ h=>h.1),λF=>h.elim id λh=>absurd F h.1⟩
def Dn.status{j}(h:Dn P Post L B sb X Y N Stop Done J G V j):Stop j (G j) (V j)∨(G j).status=.running:=h.imp id λh=>h.2.1
def Aex(S:L4 P Post L B sb X Y N Stop Done J)(h:∀j,j<N→Dn P Post L B sb X Y N Stop Done J G V j):KH P Post L B sb X Y N J G V:=by
 intro w t sl hS hJ;obtain⟨C,hi0,f⟩:=S.live G V w t hS hJ λj W=>(h j W).co;obtain⟨i,g,d,Q,M,hr,hst⟩:=crowd_pick (P:=P) (gs:=CN G N) (w:=w) (sl:=sl) (λg hg=>by
  obtain⟨k,Z⟩:=Array.mem_iff_getElem?.1 hg;obtain⟨a,rfl⟩:=I1 Z;obtain O|O:=(h k a).status
  ·exact S.awake _ _ _ O
  exactλt e=>by rw[O]at e;cases e) ⟨C,G C,Dt hi0,f⟩
 obtain⟨l,rfl⟩:=I1 M;have p:=hS.at d;have F:=S.draw w t d hJ;obtain hstop|⟨m,hgo⟩:=h i l
 ·obtain⟨m',ops,O,U⟩|⟨o,w',ops,O,U⟩:=S.stop G V (w.at d) t Q i p F (λj W=>(h j W).co) l hr hstop
  ·exact Ends.next (hst.trans O) U
  exact Ends.last (hst.trans O) (U w sl)
 obtain⟨K,w',v',es,O,U,_,h4⟩:=hgo.2 (w.at d) (p.CD i l);have q:=runT_crowd_go (sl:=Q) M O;rw[OD λj W hne=>?_]at q
 ·refine Ends.next (hst.trans q) (h4 (Gh G i K) (G1 V i v') (λk Z=>⟨AF C0,AF C0⟩) (AJ I) (AJ I) (λk Z=>?_) w' _ Q (p.own l U _ _) (S.own V (w.at d) t i v' w' es _ _ p F l m U));rw[show Gh G i K k=G k from AF C0,show G1 V i v' k=V k from AF C0];exact(h k C0).co
 have hJ2:=S.own V (w.at d) t i v' w' es (G i).frame.fn (G i).frame.place p F l m U;unfold woken;split
 ·obtain h5|h5:=(h j W).status
  ·exact S.again j _ _ w' _ hJ2 h5
  exact OE
 rfl
def nI(S:L4 P Post L B sb X Y N Stop Done J):∀(k:Nat),k≤N→∀{G:Nat→Goroutine} {V:Nat→World},(∀j,j<k→CR P B Stop Done j (G j) (V j))→
  (∀j,k≤j→j<N→Dn P Post L B sb X Y N Stop Done J G V j)→KH P Post L B sb X Y N J G V
 |0,_,G,V,_,h=>Aex S λj W=>h j Du W
 |k+1,hk,G,V,hc,h=>by
  have key:∀g v,CR P B Stop Done k g v→∀a e,(∀i,k<i→a i=G i∧e i=V i)→a k=g→e k=v→(∀i,i<k→CR P B Stop Done i (a i) (e i))→KH P Post L B sb X Y N J a e:=by
   intro g v ⟨GG,hdone⟩;have f:∀(a:Nat→Goroutine) (e:Nat→World),(∀i,k<i→a i=G i∧e i=V i)→(∀i,i<k→CR P B Stop Done i (a i) (e i))→Dn P Post L B sb X Y N Stop Done J a e k→KH P Post L B sb X Y N J a e:=by
    intro a e U p F;refine nI S k C0 p λj W o=>?_;obtain l|l:=ff k j
    ·have:=h j C0 o;unfold Dn at this⊢;rw[(U j l).1,(U j l).2];refine this.imp id λhf=>⟨hf.1,hf.2.mono λK v' ⟨O,Q⟩=>⟨O,λG2 V2 q=>Q G2 V2 λi M=>?_⟩⟩
     rw[(q i M).1,(q i M).2,(U i C0).1,(U i C0).2];exact Dj
    have:j=k:=by omega
    subst this;exact F
   by_cases m:Done k
   ·intro a e U C e2 p;subst C e2;exact f a e U p (.inl (hdone m))
   refine GG.ind (Z:=λg v=>∀a e,(∀i,k<i→a i=G i∧e i=V i)→a k=g→e k=v→(∀i,i<k→CR P B Stop Done i (a i) (e i))→KH P Post L B sb X Y N J a e) (λg v hs a e U C e2 p=>?_) λg v hf a e U C e2 p=>?_
   ·subst C e2;exact f a e U p (.inl hs)
   subst C e2;refine f a e U p (.inr ⟨m,hf.mono λK v' ⟨O,Q⟩=>⟨O,λG2 V2 q=>Q G2 V2 λi M=>?_⟩⟩);rw[(q i M).1,(q i M).2];exact U i M
  exact key _ _ (hc k C0) G V (λ_ _=>Dj) I I λi M=>hc i C0
def L4.ends(S:L4 P Post L B sb X Y N Stop Done J)(W:∀j,j<N→CR P B Stop Done j (G j) (V j)):KH P Post L B sb X Y N J G V:=
 nI S N Dz W λj O U=>by omega
end
end
section
open Go Go.RowKit Go.Conc
section
variable{P:Program}{gs:Array Goroutine}{w w₁:World}{sl:Option (Nat×Nat)}{i j:Nat}{g g₂ gj:Goroutine}{es:Array Event}{shape shj:CommShape}{blocking:Bool}
 {c cap s r:Nat} {BK:Array Value} {closed tm:Bool} {v z zj:Value}
def jz(hi:gs[i]?=some g)(h:stepG P (i==0) g w=.comm g₂ #[rcase c z] blocking shape w₁ es)(W:w₁.heap[c]?=some (.chan cap BK closed s r tm))(f:0<BK.size)(F:j≠i)(m:gs[j]?=some (parked gj #[scase c v zj] shj))(o:partners (gs.setIfInBounds i ph) c true=[(j,0)]):
  runT P (crowd gs w sl) i=(.next (crowd ((gs.setIfInBounds j (gj.finishComm P #[scase c v zj] shj 0 undef false)).setIfInBounds i (g₂.finishComm P #[rcase c z] shape 0 (BK.getD 0 undef) true)) (w₁.setChan c cap ((BK.extract 1 BK.size).push v) closed (s+1) (r+1) tm) sl),
   MemOp.ofEvents i g.frame.fn g.frame.place es++ #[{g:=i,fn:=g₂.frame.fn,pos:=g₂.frame.place,act:=.recv c r cap},{g:=i,fn:=g₂.frame.fn,pos:=g₂.frame.place,act:=.recvDone c r},
    {g:=j,fn:=gj.frame.fn,pos:=gj.frame.place,act:=.send c s},{g:=j,fn:=gj.frame.fn,pos:=gj.frame.place,act:=.sendDone c s}]):=by
 rw[runT_crowd_comm hi h];have a:=stand_get (i:=i) F m;have p:=finishPartner_at P (gs.setIfInBounds i ph) a (cs:= #[scase c v zj]) (sh:=shj) I 0 undef;have e:(gs.setIfInBounds i ph).getD j default=parked gj #[scase c v zj] shj:=by rw[Array.getD_eq_getD_getElem?,a];rfl
 have l:offeredValue (gs.setIfInBounds i ph) j 0=v:=by simp[offeredValue,a,parked,scase]
 simp[communicate,ways,rcase,W,o,f,choose,Sem.run,Question.forced,bind,Sem.bind,pure,World.setChan,crowd,p,e,l,set_stand2,finishComm_parked,scase,parked];rfl
end
def o0(g S:Goroutine):Prop:=g.frame=S.frame∧g.callers=S.callers∧g.dying=S.dying
section
variable(P:Program)(main:Bool)(n:Nat)
def D6(e:Bool)(c:Nat)(z:Value)(K:Bool→Value→Goroutine→World→Prop)(g:Goroutine)(v:World):Prop:=
 ∃S,g.status=(if e then .blocked else .running)∧(e=true→g=parked S #[rcase c z] (.recv true))∧o0 g S∧
  (∀w,B5 n v w→stepG P main {g with status:=.running} w=.comm S #[rcase c z] true (.recv true) w #[])∧∀q x,K q x (Conc.served S (Conc.recvd true x q)) v
def Gl(e:Bool)(c:Nat)(K:Value→Goroutine→World→Prop)(g:Goroutine)(v:World):Prop:=
 ∃S x z,g.status=(if e then .blocked else .running)∧(e=true→g=parked S #[scase c x z] .send)∧o0 g S∧
  (∀w,B5 n v w→stepG P main {g with status:=.running} w=.comm S #[scase c x z] true .send w #[])∧K x (Conc.served S undef) v
def KG(sb co:Nat)(K:Goroutine→World→Prop)(g:Goroutine)(v:World):Prop:=
 g.status=.running∧∀w,B5 n v w→w.cell? ⟨sb,0,none⟩=some (.chan (some co))→∃a es,stepG P main g w=.go a w es∧(∀e∈es,e=⟨.cell ⟨sb,0,none⟩,false,false⟩)∧K a v
def KX(c:Nat)(g:Goroutine)(v:World):Prop:=
 g.status=.running∧mayWake P g=true∧∀w cap BK s r tm,B5 n v w→w.heap[c]?=some (.chan cap BK false s r tm)→∃K,stepG P main g w=.go K (w.setChan c cap BK true s r tm) #[⟨.obj c,false,true⟩,⟨.obj c,true,true⟩]∧
  K.status=.running∧∃k,QuitsIn P k K
def H7(Post:Value→World→Prop)(g:Goroutine)(v:World):Prop:=
 g.status=.running∧∀w,B5 n v w→∃x es,stepG P true g w=.ended (.done x) w es∧(∀e∈es,Ym n v w w.heap.size e)∧Post x w
end
abbrev Item:=Value×(Value→HP→Prop)
section
variable(P:Program)(B:World)(sb ci co:Nat)(zi zo:Value)(Post:Value→World→Prop)
def He(e:Bool):List Value→Goroutine→World→Prop
 |[]=>KX P false B.heap.size ci
 |c::l=>Gl P false B.heap.size e ci λx g v=>x=c∧Co P false B.heap.size (He false l) g v
def Eg(e:Bool):List Item→Goroutine→World→Prop
 |[]=>D6 P false B.heap.size e ci zi λq _ g v=>q=false→Co P false B.heap.size (KX P false B.heap.size co) g v
 |(c,A)::l=>D6 P false B.heap.size e ci zi λq x g v=>q=true→x=c→Co P false B.heap.size (KG P false B.heap.size sb co λg v=>
   Co P false B.heap.size (Gl P false B.heap.size false co λx K v=>∃H S,A x S∧(∀r,S r→∀b,r.o b=none)∧Sat B (H*S) v∧∀v',Sat B H v'→Co P false B.heap.size (Eg false l) K v') g v) g v
def KZ(e:Bool)(A:Value→HP→Prop)(l:List Item):Goroutine→World→Prop:=
 Gl P false B.heap.size e co λx K v=>∃H S,A x S∧(∀r,S r→∀b,r.o b=none)∧Sat B (H*S) v∧∀v',Sat B H v'→Co P false B.heap.size (Eg P B sb ci co zi false l) K v'
def Gt(e:Bool):List (Value→HP→Prop)→Goroutine→World→Prop
 |[]=>D6 P true B.heap.size e co zo λq x g v=>q=false→x=zo→Co P true B.heap.size (D6 P true B.heap.size false co zo λq x g v=>q=false→x=zo→Co P true B.heap.size (H7 P B.heap.size Post) g v) g v
 |A::l=>D6 P true B.heap.size e co zo λq x g v=>q=true→∃H,Sat B H v∧∀S v',A x S→Sat B (H*S) v'→Co P true B.heap.size (Gt false l) g v'
end
end
section
open Go Go.RowKit Go.Conc
structure E8(c:Nat)(w w2:World):Prop where
 size:w2.heap.size=w.heap.size
 tape:w2.tape=w.tape
 os:w2.os=w.os
 output:w2.output=w.output
 other:∀b:Nat,b≠c→w2.heap[b]?=w.heap[b]?
 old:∃x,w.heap[c]?=some x∧∀a t f,x≠ .cells a t f
def E8.set{cap a s r s' U BK e l f tm tm'}(h:w.heap[c]?=some (.chan cap BK l s r tm)):E8 c w (w.setChan c a e f s' U tm'):=
 ⟨by simp[World.setChan],I,I,I,λb q=>by simp only[World.setChan];exact s5 (Ne.symm q),_,h,C3⟩
def E8.at{d}(h:E8 c (w.at d) w2):E8 c w w2:=⟨h.size,h.tape,h.os,h.output,h.other,h.old⟩
section
variable{L:Nat→Option Obj}{B w w2 v:World}{c n:Nat}{r:Ai}
def E8.gone(h:E8 c w w2)(C:B5 n v w)(a:n≤c)(hm:¬Bm n v c 0):Ol v c:=by
 obtain⟨x,F,S⟩:=h.old;have hmo:∀p,GT p x=x:=λp=>by cases x<;>first|exact absurd I (S _ _ _)|rfl
 obtain M|M:=ff c v.heap.size
 ·refine(C.own c a M).elim .inl λh4=>?_;rw[F]at h4;exact absurd ⟨a,M,O1 ⟨x,YC,S⟩ 0⟩ hm
 exact .inr M
def B5.chan(C:B5 n v w)(h:E8 c w w2)(a:n≤c)(hm:¬Bm n v c 0):B5 n v w2:=by
 have S:=h.gone C a hm;refine⟨by rw[h.size];exact C.size,C.low,C.tape.trans h.tape.symm,C.os.trans h.os.symm,C.output.trans h.output.symm,λb q=>?_,λb q f=>?_⟩
 ·unfold KJ;rw[h.other b C0];exact C.ro b q
 by_cases e:b=c
 ·subst e;obtain S|S:=S
  ·exact .inl S
  omega
 rw[h.other b e];exact C.own b q f
def JS.chan(hb:JS L B w)(h:E8 c w w2)(a:B.heap.size≤c):JS L B w2:=
 ⟨by rw[h.size];exact hb.le,hb.tape.trans h.tape.symm,hb.os.trans h.os.symm,hb.output.trans h.output.symm,λb C=>by unfold KJ;rw[h.other b C0];exact hb.ro b C,λb C=>(h.other b C0).trans (hb.kept b C)⟩
def VL(C:B5 n v w)(hr:r.Ea n v)(h:E8 c w w2)(l:n≤c)(hm:¬Bm n v c 0):r.Ea n w2:=by
 have S:=h.gone C l hm;have f:=K2 C hr;have W:∀b i u,r.c b i=some u→b≠c:=λb i u e a=>by
  subst a;exact(M3 hr (b:=b) (i:=i) UH).Af5 S
 have Q:∀b x,r.o b=some x→b≠c:=λb x e a=>by
  subst a;have O:=hr.obj b x e;obtain S|S:=S
  ·cases x with
   |cells _ _ _=>obtain⟨_,t,m,U⟩:=O;rw[S]at U;simp[dead]at U
   |_=>have O:v.heap[b]?=some _:=O;rw[S]at O;simp[dead]at O
  have:=O.lt;omega
 refine⟨λb i u e=>?_,λb i u e=>?_,λb x e=>(f.obj b x e).same (h.other b (Q b x e)),hr.live,hr.FV,hr.GC⟩
 ·have:=f.cell b i u e;unfold World.cell? at this⊢;rw[h.other b (W b i u e)];exact this
 have:=f.free b i u e;unfold World.frozen? at this⊢;rw[h.other b (W b i u e)];exact this
def Xn(C:B5 B.heap.size v w)(hr:r.Ea B.heap.size v){w3:World}(W:∀b x,w3.heap[b]?=some x→(∀a t f,x≠ .cells a t f)→r.o b≠none→∃y,w.heap[b]?=some y∧∀a t f,y≠ .cells a t f)(h:Bm B.heap.size (En B r w3) b i):Bm B.heap.size v b i:=by
 obtain O|⟨O,x,U,M⟩:=UJ h
 ·exact M3 hr O
 obtain⟨y,m,p⟩:=W b x U M O;obtain⟨z,l⟩:=Aiy.1 O;by_cases e:∀a t f,z≠ .cells a t f
 ·exact Vq hr l e i
 exfalso;have:∃a t f,z=.cells a t f:=by cases z<;>first|exact⟨_,_,_,I⟩|exact absurd C3 e
 obtain⟨a,t,f,rfl⟩:=this;obtain⟨F,q,K,Z⟩:=(K2 C hr).obj b _ l;rw[m]at Z;exact p _ _ _ (ad.inj Z)
end
def Af8{r s:Ai}(h1:r.Ea n w)(h2:s.Ea n w):(r.un s).Ea n w:=by
 have W:∀b i u,(r.un s).c b i=some u→r.c b i=some u∨s.c b i=some u:=λb i u e=>by
  simp only[Ai.un]at e;cases a:r.c b i with
  |none=>rw[a]at e;exact .inr TZ
  |some x=>rw[a]at e;exact .inl TZ
 have Q:∀b x,(r.un s).o b=some x→r.o b=some x∨s.o b=some x:=λb x e=>by
  simp only[Ai.un]at e;cases a:r.o b with
  |none=>rw[a]at e;exact .inr TZ
  |some y=>rw[a]at e;exact .inl TZ
 exact⟨λb i u e=>(W b i u e).elim (h1.cell b i u) (h2.cell b i u),λb i u e=>(W b i u e).elim (h1.free b i u) (h2.free b i u),λb x e=>(Q b x e).elim (h1.obj b x) (h2.obj b x),
  λb i u e=>(W b i u e).elim (h1.live b i u) (h2.live b i u),λb i u e=>(W b i u e).elim (h1.FV b i u) (h2.FV b i u),λb x e=>(Q b x e).elim (h1.GC b x) (h2.GC b x)⟩
def Br.hand{u j H1 A H2}(h:Br L B sb X Y N vs w t)(hi:i<N)(W:j<N)(hij:i≠j)(hs:Sat B (H1*A) (vs i))(hr:Sat B H2 (vs j))(hA:∀r,A r→∀b,r.o b=none)(hc:E8 c w w2)(hn:B.heap.size≤c)(hm:∀g,g<N→¬Bm B.heap.size (vs g) c 0)(hu:∀op∈u,op.act.touch?=none)(hw:Wordless u)(hp:Pass t u i j):
  ∃vi vj,Sat B H1 vi∧Sat B (H2*A) vj∧Br L B sb X Y N (G1 (G1 vs i vi) j vj) w2 (t++u):=by
 obtain⟨_,r,⟨r1,l,hd,rfl,ha1,ha2⟩,hl⟩:=hs;obtain⟨_,q,hq,hlq⟩:=hr;have hr2o:=hA l ha2;have hl1:r1.Ea B.heap.size (vs i):=hl.left;have hl2:l.Ea B.heap.size (vs i):=by rw[Ai.MF hd]at hl;exact hl.left
 have hbase:=h.base.chan hc hn;have L1:=VL (h.CD i hi) hl1 hc hn (hm i hi);have L2:=VL (h.CD i hi) hl2 hc hn (hm i hi);have Lq:=VL (h.CD j W) hlq hc hn (hm j W);have hqd:q.dj l:=by
  refine⟨λb k=>?_,λb=>.inr (hr2o b)⟩;by_cases C:q.c b k=none
  ·exact .inl C
  by_cases M:l.c b k=none
  ·exact .inr M
  exact absurd (h.apart j i b k W hi (M3 hlq C) (M3 hl2 M)) (Ne.symm hij)
 have Lu:(q.un l).Ea B.heap.size w2:=Af8 Lq L2;have back:∀(b:Nat) (x:Obj),w2.heap[b]?=some x→(∀a t f,x≠Obj.cells a t f)→∃y,w.heap[b]?=some y∧∀a t f,y≠Obj.cells a t f:=λb x F hxc=>by
  by_cases e:b=c
  ·subst e;exact hc.old
  exact⟨x,by rw[←hc.other b e];exact F,hxc⟩
 have own1:∀b k,Bm B.heap.size (En B r1 w2) b k→Bm B.heap.size (vs i) b k:=λb k Z=>Xn (h.CD i hi) hl1 (λb x O U _=>back b x O U) Z;have own2:∀b k,Bm B.heap.size (En B (q.un l) w2) b k→Bm B.heap.size (vs j) b k∨l.c b k≠none:=λb k Z=>by
  by_cases e:l.c b k=none
  ·left;refine Xn (h.CD j W) hlq (w3:=w2) (λb x O U _=>back b x O U) ?_;obtain⟨m,p,k3⟩:=Z;refine⟨m,by rw[Nh]at p⊢;exact p,λk4=>k3 ?_⟩;rw[Nh]at p;have C:=Nn (B:=B) (r:=q.un l) (w:=w2) m;have M:=Nn (B:=B) (r:=q) (w:=w2) m;obtain⟨ca,ct,cf,k5,k6⟩:=k4;cases hwb:w2.heap[b]? with
   |none=>rw[mi p]at hwb;cases hwb
   |some o=>
    rw[hwb]at C M;cases o with
    |cells a ty f=>
     refine⟨_,_,_,C,λu hu=>?_⟩;rw[M]at k5;obtain⟨rfl,rfl,rfl⟩:=Obj.cells.inj (ad.inj k5);rw[pv]at hu;refine k6 u ?_;rw[pv];cases F:a[k]? with
     |none=>rw[F]at hu;cases hu
     |some y=>
      rw[F]at hu;simp only[i']at hu⊢;by_cases h0:q.c b k=none
      ·have O:(q.un l).c b k=none:=by simp[Ai.un,h0,e]
       rw[AJ O]at hu;rw[AJ h0];exact hu
      have O:¬(q.un l).c b k=none:=by simp[Ai.un,e,h0]
      rw[AF O]at hu;rw[AF h0];exact hu
    |_=>
     have hq0:q.o b=none:=by
      apply Classical.byContradiction;intro hne;rw[M]at k5;simp[L0,hne]at k5
     refine Qc ?_ k;rw[C];simp[L0,Ai.un,hq0,hr2o b]
  exact .inr e
 let V:=G1 (G1 vs i (En B r1 w2)) j (En B (q.un l) w2);have Vj:V j=En B (q.un l) w2:=IX _ _ _;have Vi:V i=En B r1 w2:=by show G1 _ _ _ i=_;rw[HZ _ _ hij,IX]
 have Vo:∀g,g≠i→g≠j→V g=vs g:=λg O U=>by show G1 _ _ _ g=_;rw[HZ _ _ U,HZ _ _ O]
 have orig:∀g b k,g<N→Bm B.heap.size (V g) b k→Bm B.heap.size (vs g) b k∨g=j∧l.c b k≠none:=λg b k _ Z=>by
  by_cases C:g=j
  ·subst C;rw[Vj]at Z;exact(own2 b k Z).imp id λF=>⟨I,F⟩
  by_cases M:g=i
  ·subst M;rw[Vi]at Z;exact .inl (own1 b k Z)
  rw[Vo g M C]at Z;exact .inl Z
 have mine:∀g b k,g<N→Bm B.heap.size (V g) b k→∃Q,Q<N∧Bm B.heap.size (vs Q) b k∧Pass t u Q g:=λg b k S Z=>by
  obtain O|⟨rfl,O⟩:=orig g b k S Z
  ·exact⟨g,S,O,Pass.refl _ _ _⟩
  exact⟨i,hi,M3 hl2 O,hp⟩
 have key:∀g b k,g<N→g≠j→Bm B.heap.size (V g) b k→l.c b k≠none→False:=λg b k S hgj Z U=>by
  by_cases e:g=i
  ·subst e;rw[Vi]at Z;obtain h3|⟨h3,x,h4,h5⟩:=UJ Z
   ·exact(hd.1 b k).elim h3 U
   obtain⟨y,hy⟩:=Aiy.1 U;have:=L2.cell b k y hy;unfold World.cell? at this;rw[h4]at this;cases x<;>first|exact absurd I (h5 _ _ _)|cases this
  obtain h3|⟨h3,_⟩:=orig g b k S Z
  ·exact e (h.apart g i b k S hi h3 (M3 hl2 U))
  exact hgj h3
 refine⟨En B r1 w2,En B (q.un l) w2,Oo hbase L1 ha1,Oo hbase Lu ⟨q,l,hqd,I,hq,ha2⟩,?_⟩;refine h.move (vs2:=V) hbase aU hu hw (λg S=>?_) (λg K b k S hg' O U=>?_) mine (λg S=>?_) (λg b S=>?_) h.one
 ·by_cases C:g=j
  ·subst C;rw[Vj];exact TP hbase
  by_cases M:g=i
  ·subst M;rw[Vi];exact TP hbase
  rw[Vo g M C];exact(h.CD g S).chan hc hn (hm g S)
 ·obtain m|⟨C,m⟩:=orig g b k S O
  ·obtain p|⟨M,p⟩:=orig K b k hg' U
   ·exact h.apart g K b k S hg' m p
   by_cases e:g=j
   ·exact e.trans M.symm
   exact(key g b k S e O p).elim
  by_cases e:K=j
  ·exact C.trans e.symm
  exact(key K b k hg' e U m).elim
 ·obtain⟨m,p⟩:=h.box g S;exact⟨by rw[hc.size];exact m,λK hg' Z=>let⟨Q,a1,a2,_⟩:=mine K sb 0 hg' Z;p Q a1 a2,g,.inl ⟨S,I⟩,Pass.refl _ _ _⟩
 obtain⟨m,p,k3⟩:=h.chan g b S;exact⟨m,by rw[hc.size];exact p,λK k hg' Z=>let⟨Q,a1,a2,_⟩:=mine K b k hg' Z;k3 Q k a1 a2,g,.inl S,Pass.refl _ _ _⟩
def Br.comm{u}(h:Br L B sb X Y N vs w t)(hc:E8 c w w2)(a:B.heap.size≤c)(hm:∀g,g<N→¬Bm B.heap.size (vs g) c 0)(q:∀op∈u,op.act.touch?=none)(hw:Wordless u):Br L B sb X Y N vs w2 (t++u):=by
 refine h.move (vs2:=vs) (h.base.chan hc a) aU q hw (λg S=>(h.CD g S).chan hc a (hm g S)) h.apart (λg b k S Z=>⟨g,S,Z,Pass.refl _ _ _⟩) (λg S=>?_) (λg b S=>?_) h.one
 ·obtain⟨m,p⟩:=h.box g S;exact⟨by rw[hc.size];exact m,p,g,.inl ⟨S,I⟩,Pass.refl _ _ _⟩
 obtain⟨m,p,O⟩:=h.chan g b S;exact⟨m,by rw[hc.size];exact p,O,g,.inl S,Pass.refl _ _ _⟩
def Br.nil(h:Br L B sb X Y N vs w t):Br L B sb X Y N vs w (t++ #[]):=by rwa[Ak6]
def Br.xA(h:Br L B sb X Y N vs w t){g}(l:Y g){es}(o:∀e∈es,e=⟨.cell ⟨sb,0,none⟩,false,false⟩)(fn pos):
  Br L B sb X Y N vs w (t++MemOp.ofEvents g fn pos es):=by
 have f:∀op∈MemOp.ofEvents g fn pos es,op={g,fn,pos,act:=.access ⟨.cell ⟨sb,0,none⟩,false,false⟩}:=λop S=>by
  rw[ofEvents_eq]at S;obtain⟨e,C,rfl⟩:=EA.1 S;rw[o e C];rfl
 refine⟨h.base,h.CD,h.apart,h.box,h.chan,h.one,λi a b U q=>?_,λi a x U haw hal=>?_,?_⟩
 ·obtain⟨_,k⟩|⟨op,S,_,k⟩:=M9 U
  ·exact h.small i a b k q
  rw[f op S]at k;simp only[MemAct.touch?,ad.injEq]at k;subst k;cases q;exact(h.box g l).1
 ·obtain⟨_,k⟩|⟨op,S,_,k⟩:=M9 U
  ·exact Yb
  rw[f op S]at k;simp only[MemAct.touch?,ad.injEq]at k;subst k;cases haw
 refine h.tr.step (g:=g) (New:=λ_=>False) h.QR (λop S=>by rw[f op S]) (λop S m W=>by rw[f op S]at W;cases W) (λ_ p=>p.elim) (λop S b q=>?_) (λ_ _ Q=>.inl Q) λ_ _ F=>F;rw[f op S]at q;simp only[MemAct.touch?,ad.injEq]at q;subst q;exact .inr (.inl ⟨.inr ⟨l,I,I⟩,I⟩)
def Br.close(h:Br L B sb X Y N vs w t){g}(Z:X g c)(W:E8 c w w2)(fn pos):
  Br L B sb X Y N vs w2 (t++MemOp.ofEvents g fn pos #[⟨.obj c,false,true⟩,⟨.obj c,true,true⟩]):=by
 obtain⟨F,p,o⟩:=h.chan g c Z;have f:∀op∈MemOp.ofEvents g fn pos #[⟨.obj c,false,true⟩,⟨.obj c,true,true⟩],op={g,fn,pos,act:=.access ⟨.obj c,false,true⟩}∨op={g,fn,pos,act:=.close c}:=λop S=>by
  rw[ofEvents_eq]at S;obtain⟨e,C,rfl⟩:=EA.1 S;simp only[oi,j1,F',or_false]at C;obtain rfl|rfl:=C
  ·exact .inl I
  exact .inr I
 refine⟨h.base.chan W F,λK l=>(h.CD K l).chan W F (o K 0 l),h.apart,λK l=>⟨by rw[W.size];exact(h.box K l).1,(h.box K l).2⟩,λK b l=>⟨(h.chan K b l).1,by rw[W.size];exact(h.chan K b l).2.1,(h.chan K b l).2.2⟩,h.one,λi a b U q=>?_,λi a x U haw hal=>?_,?_⟩
 ·rw[W.size];obtain⟨_,k⟩|⟨op,S,_,k⟩:=M9 U
  ·exact h.small i a b k q
  obtain e|e:=f op S
  ·rw[e]at k;simp only[MemAct.touch?,ad.injEq]at k;subst k;cases q;exact p
  rw[e]at k;cases k
 ·obtain⟨_,k⟩|⟨op,S,_,k⟩:=M9 U
  ·exact Yb
  obtain e|e:=f op S
  ·rw[e]at k;simp only[MemAct.touch?,ad.injEq]at k;subst k;cases hal
  rw[e]at k;cases k
 refine h.tr.step (g:=g) (New:=λ_=>False) h.QR (λop S=>by rcases f op S with e|e<;>rw[e]) (λop S m o=>by rcases f op S with e|e<;>rw[e]at o<;>cases o) (λ_ p=>p.elim) (λop S b q=>?_) (λ_ _ Q=>.inl Q) λ_ _ M=>M;obtain e|e:=f op S
 ·rw[e]at q;simp only[MemAct.touch?,ad.injEq]at q;subst q;exact .inl (.inr Z)
 rw[e]at q;cases q
end
end Go.Proofs.YtgfdlpcdjklcoaaGreatDoor
