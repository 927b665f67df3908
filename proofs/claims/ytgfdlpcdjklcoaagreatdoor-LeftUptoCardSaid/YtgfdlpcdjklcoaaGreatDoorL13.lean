/- A part of this proof: steps of the program, plain facts; no condition. -/
import Derived.Test.YtgfdlpcdjklcoaaGreatDoorL12
import Derived.JoinedCond
import Derived.Leaving
namespace Go.Proofs.YtgfdlpcdjklcoaaGreatDoor
open Go Go.RowKit
open _root_.List renaming length_append→J!,length_map→K_,length_singleton→K!,mem_of_getElem?→K?,map_append→L_,mem_singleton→L!,replicate→L?,range→M_,length_range→M!,mem_append→M?,append_nil→N_,mem_range→N!,mem_map→N?
open _root_.UInt64 renaming ofNat→J?
set_option linter.unusedVariables false
set_option linter.unusedSimpArgs false
set_option maxRecDepth 20000
section
section
variable{P:Program}{B:World}{n:Nat}{E:A2}{D:Bu}{H:HP}{d:Option Tmp}{T T' ty:TypeId}{pos:String}{af:Array Edge}{g:Option (Nat×Bool)}{x y z u:Operand}
theorem fZ(m:Nat){T e:TypeId}(p:Option Addr)(w:World)(hT:P.underlying T=some (.pointer e)):(Op.equalIn (m+1) T (.pointer p) (.pointer none)).run P w=.ok (decide (p=none)) w:=by
 simp only [Op.equalIn,Sem.run_bind,Bk hT,Result.andThen_ok];cases p<;>rfl
theorem Zo(e:TypeId){p:Option Addr}[hT:Au P T (.pointer e)](hx:ev E x=some (.pointer p))(hy:ev E y=some (.pointer none)):
  Aa P B n ⟨d,.binOp .eql T x y T',ty,pos,af,g⟩ E H (.bool (decide (p=none))):=by
 intro a w he _;have h1:=fun w=>fZ (P:=P) 9999 p w hT.get;have h2:(eqGuard .eql T x y (.pointer p) (.pointer none)).run P w=.ok () w:=rfl;simp only [execOp,he.ev hx,he.ev hy,Sem.run_bind,h2,Result.andThen_ok,binOp,Op.equal,show Op.maxDepth=9999+1 from rfl,h1,Sem.run_pure]
end
variable{B:World}
def NM.Ku(w:NM)(C:CM)(a:A1):NM:={w with x:={w.x with xv:=a.v (w.cs++[C]).length},cs:=w.cs++[C],xa:=a}
def NM.K3(w:NM)(r:Dc)(a:A1):NM:={w with x:={w.x with ev:=a.v (w.rows++[r]).length},rows:=w.rows++[r],ea:=a}
def NM.Jq(w:NM)(c:EQ)(a:A1):NM:={w with x:={w.x with cv:=a.v (w.cnt++[c]).length},cnt:=w.cnt++[c],ca:=a}
theorem oY(nb:Nat)(w:NM)(C:CM)(a:A1)(R:HP):Av nb (w.Ku C a)*R=At nb {w.x with xv:=a.v (w.cs++[C]).length}*(AB a.b a.o (w.cs++[C]) a.s*(AB w.ea.b w.ea.o w.rows w.ea.s*(AB w.ba.b w.ba.o w.AJ w.ba.s*(AB w.ca.b w.ca.o w.cnt w.ca.s*(AO CJ w.cs*(AO CK w.rows*(AT C.cb C.c*R))))))):=by
 rw [Em];show _*(_*(_*(_*(_*(AO CJ (w.cs++[C])*_)))))=_;rw [Ji,Fc,E9,HP.GL];unfold CJ;show At nb {w.x with xv:=a.v (w.cs++[C]).length}*(AB a.b a.o (w.cs++[C]) a.s*(AB w.ea.b w.ea.o w.rows w.ea.s*(AB w.ba.b w.ba.o w.AJ w.ba.s*(AB w.ca.b w.ca.o w.cnt w.ca.s*(_*_*(AO CK w.rows*R))))))=_;ac_rfl
theorem gR(nb:Nat)(w:NM)(r:Dc)(a:A1)(R:HP):Av nb (w.K3 r a)*R=At nb {w.x with ev:=a.v (w.rows++[r]).length}*(AB w.xa.b w.xa.o w.cs w.xa.s*(AB a.b a.o (w.rows++[r]) a.s*(AB w.ba.b w.ba.o w.AJ w.ba.s*(AB w.ca.b w.ca.o w.cnt w.ca.s*(AO CJ w.cs*(AO CK w.rows*(AB r.a.b r.a.o r.es r.a.s*(AO GD r.es*R)))))))):=by
 rw [Em];show _*(_*(_*(_*(_*(_*(AO CK (w.rows++[r])*R))))))=_;rw [Ji,Fc,E9,HP.GL];show At nb {w.x with ev:=a.v (w.rows++[r]).length}*(AB w.xa.b w.xa.o w.cs w.xa.s*(AB a.b a.o (w.rows++[r]) a.s*(AB w.ba.b w.ba.o w.AJ w.ba.s*(AB w.ca.b w.ca.o w.cnt w.ca.s*(AO CJ w.cs*(AO CK w.rows*(AB r.a.b r.a.o r.es r.a.s*AO GD r.es)*R))))))=_;ac_rfl
theorem oC(nb:Nat)(w:NM)(c:EQ)(a:A1)(R:HP):Av nb (w.Jq c a)*R=At nb {w.x with cv:=a.v (w.cnt++[c]).length}*(AB w.xa.b w.xa.o w.cs w.xa.s*(AB w.ea.b w.ea.o w.rows w.ea.s*(AB w.ba.b w.ba.o w.AJ w.ba.s*(AB a.b a.o (w.cnt++[c]) a.s*(AO CJ w.cs*(AO CK w.rows*R)))))):=Em nb (w.Jq c a) R
theorem NM.ok.Ku{w:NM}(hw:w.ok){C:CM}{a:A1}(ha:a.ok (w.cs++[C]))(hC:C.c.ok):(w.Ku C a).ok:=
 ⟨ha,hw.ea,hw.ra,hw.ba,hw.ca,rfl,hw.ev,hw.bv,hw.cv,fun c hc=>(M?.1 hc).elim (hw.Ef c) (fun h=>by rw [L!.1 h];exact hC),hw.ks⟩
theorem NM.ok.K3{w:NM}(hw:w.ok){r:Dc}{a:A1}(ha:a.ok (w.rows++[r]))(hr:r.a.ok r.es):(w.K3 r a).ok:=
 ⟨hw.xa,ha,fun c hc=>(M?.1 hc).elim (hw.ra c) (fun h=>by rw [L!.1 h];exact hr),hw.ba,hw.ca,hw.xv,rfl,hw.bv,hw.cv,hw.Ef,hw.ks⟩
theorem NM.ok.Jq{w:NM}(hw:w.ok){c:EQ}{a:A1}(ha:a.ok (w.cnt++[c])):(w.Jq c a).ok:=
 ⟨hw.xa,hw.ea,hw.ra,hw.ba,ha,hw.xv,hw.ev,hw.bv,rfl,hw.Ef,hw.ks⟩
theorem NM.lD(w:NM)(C:CM)(a:A1):(w.Ku C a).n={w.n with xs:=w.n.xs++[C.c.s]}:=by
 unfold NM.Ku NM.n;dsimp only;rw [L_];rfl
theorem NM.zH(w:NM)(r:Dc)(a:A1):(w.K3 r a).n={w.n with ends:=w.n.ends++[r.es.map (·.o)]}:=by
 unfold NM.K3 NM.n;dsimp only;rw [L_];rfl
theorem NM.wF(w:NM)(c:EQ)(a:A1):(w.Jq c a).n={w.n with count:=w.n.count++[c.n]}:=by
 unfold NM.Jq NM.n;dsimp only;rw [L_];rfl
def Ez(mt wi:Nat):Nat→AN
 |0=>⟨[],[],mt,wi,Du,[],[]⟩
 |i+1=>⟨(Ez mt wi i).xs++[.new mt wi Du (decide (i=0))],(Ez mt wi i).ends++[L? 4 Dq],mt,wi,Du,[],(Ez mt wi i).count++[0]⟩
theorem jE(AI AG:Int):Ez (64+AK AI 237) (16+AK AG 300) 2=Jo AI AG:=rfl
theorem lQ(mt wi i:Nat):(Ez mt wi i).AI=mt∧(Ez mt wi i).AG=wi∧(Ez mt wi i).ks=Du∧(Ez mt wi i).AJ=[]∧(Ez mt wi i).xs.length=i∧(Ez mt wi i).ends.length=i∧(Ez mt wi i).count.length=i:=by
 induction i with
 |zero=>exact⟨rfl,rfl,rfl,rfl,rfl,rfl,rfl⟩
 |succ i ih=>refine⟨rfl,rfl,rfl,rfl,?_,?_,?_⟩<;>(show(_++[_]).length=_;rw [J!];simp [ih])
def Md(mt wi:Nat):List Value:=[.slice none 0 0]++([.slice none 0 0]++([iN mt,iN wi]++(AD Du++([.slice none 0 0]++[.slice none 0 0]))))
def SU(mt wi:Nat):NC:=⟨.slice none 0 0,.slice none 0 0,mt,wi,Du,.slice none 0 0,.slice none 0 0⟩
def T0(mt wi:Nat):NM:=⟨SU mt wi,[],[],[],[],BR,BR,BR,BR⟩
theorem N'{b o o':Nat}(l m:List Value)(h:o+l.length=o'):HP.AA b o (l++m)=HP.AA b o l*HP.AA b o' m:=by
 rw [HP.FM,h]
theorem eU(b mt wi:Nat)(R:HP):HP.AA b 0 (Md mt wi)*R=Av b (T0 mt wi)*R:=by
 have e:Av b (T0 mt wi)=At b (SU mt wi)*(BR.h ([]:List CM)*(BR.h ([]:List Dc)*(BR.h ([]:List ES)*(BR.h ([]:List EQ)*(AO CJ []*AO CK []))))):=rfl;rw [e,Gm,Gm,Gm,Gm,E9,E9,HP.BI,HP.BI,HP.BI,HP.BI,HP.BI,HP.GL];unfold Md At SU;rw [N' _ _ (rfl:0+1=0+1),N' (o:=0+1) (o':=0+2) _ _ rfl,N' (o:=0+2) (o':=0+4) _ _ rfl,N' (o:=0+4) (o':=0+20) _ _ rfl,N' (o:=0+20) (o':=0+21) _ _ rfl]
def Tn:List Value:=[.slice none 0 0]++([.slice none 0 0]++([.int .i64 0,.int .i64 0]++([.int .u8 0,.int .u8 0,.int .u8 0,.int .u8 0,.int .u8 0,.int .u8 0,.int .u8 0,.int .u8 0,.int .u8 0,.int .u8 0,.int .u8 0,.int .u8 0,.int .u8 0,.int .u8 0,.int .u8 0,.int .u8 0]++([.slice none 0 0]++[.slice none 0 0]))))
theorem sO:BQ Tryz.prog 64 (.agg Tn.toArray):=by
 have h:BQ Tryz.prog 64 _:=inferInstance;refine Eq.mp (congrArg (BQ Tryz.prog 64) ?_) h;kernel_rfl
theorem rQ(mt wi:Nat):IL #[(0,1),(1,1),(2,2),(4,16),(20,1),(21,1)] Tn [(2,.agg [iN mt,iN wi].toArray),(3,.agg (AD Du).toArray)] (Md mt wi):=by
 unfold Tn
 exact(Iz [.slice none 0 0,.slice none 0 0] [.int .i64 0,.int .i64 0] ([.int .u8 0,.int .u8 0,.int .u8 0,.int .u8 0,.int .u8 0,.int .u8 0,.int .u8 0,.int .u8 0,.int .u8 0,.int .u8 0,.int .u8 0,.int .u8 0,.int .u8 0,.int .u8 0,.int .u8 0,.int .u8 0]++[.slice none 0 0,.slice none 0 0]) [iN mt,iN wi] rfl rfl rfl rfl
  (Iz [.slice none 0 0,.slice none 0 0,iN mt,iN wi] [.int .u8 0,.int .u8 0,.int .u8 0,.int .u8 0,.int .u8 0,.int .u8 0,.int .u8 0,.int .u8 0,.int .u8 0,.int .u8 0,.int .u8 0,.int .u8 0,.int .u8 0,.int .u8 0,.int .u8 0,.int .u8 0] [.slice none 0 0,.slice none 0 0] (AD Du) rfl rfl rfl rfl
  (by unfold Md;exact Pz)))
set_option maxHeartbeats 16000000 in
theorem aU(hG:B.cell? ⟨0,0,none⟩=some (CZ 106))(AI AG:Int)(hmtu:HU AI)(hwin:HU AG)(H:HP):
  Fn Tryz.prog B 34 [.int .i64 AI,.int .i64 AG] H (fun v H'=>∃(nb:Nat) (w:NM),v=ptr nb 0∧w.ok∧w.n=Jo AI AG∧H'=Av nb w*H):=by
 refine mI Tryz.func34 ?_;have hm1:=FF AI (show 0<237 by omega);have hw1:=FF AG (show 0<300 by omega)
 have hcfg:Ic ((64+AK AI 237):Nat) ((16+AK AG 300):Nat):=⟨Ca,Ca,Ca,Ca⟩
 refine J8 ?_;refine mE rfl (IQ AI hmtu 237 Ca _) ?_;rintro _ H13 ⟨rfl,h13⟩;rw [h13];refine JL (Gx (i:=64) (j:=AK AI 237) rfl rfl Ca) ?_;refine J1 ?_;refine mE rfl (IQ AG hwin 300 Ca _) ?_;rintro _ H16 ⟨rfl,h16⟩;rw [h16];refine JL (Gx (i:=16) (j:=AK AG 300) rfl rfl Ca) ?_;refine JL (Ay (v':=.agg [iN (64+AK AI 237),iN (16+AK AG 300)].toArray) Ey rfl) ?_;refine Ag (FV (l:=[.int .i64 0,.int .i64 0]) rfl) rfl ?_;rintro _ _ ⟨b5,rfl,rfl⟩;refine Bi (De (cs:=[iN (64+AK AI 237),iN (16+AK AG 300)]) rfl rfl Ch Ce) ?_;refine FB ?_;refine JL XQ ?_;refine JL (Ay (v':=.agg (AD Du).toArray) (V5 (zs:=[.int .u8 0,.int .u8 0,.int .u8 0,.int .u8 0,.int .u8 0,.int .u8 0,.int .u8 0,.int .u8 0,.int .u8 0,.int .u8 0,.int .u8 0,.int .u8 0,.int .u8 0,.int .u8 0,.int .u8 0,.int .u8 0]) rfl rfl Ce) rfl) ?_;refine JL (Pu (hz:=sO) (cs:=Md (64+AK AI 237) (16+AK AG 300)) rfl (rQ (64+AK AI 237) (16+AK AG 300))) ?_;refine Ag (Db (l:=Md (64+AK AI 237) (16+AK AG 300)) rfl rfl) rfl ?_;rintro _ _ ⟨nb,rfl,rfl⟩;refine J6 ?_;refine F8 ?_
 refine Bm (α:=NM×Nat) (fun z=>[(7,iN z.2),(6,ptr nb 0),(5,ptr b5 0)]) (fun z=>Av nb z.1*(HP.AA b5 0 [iN (64+AK AI 237),iN (16+AK AG 300)]*H)) (fun z=>z.1.ok∧z.2≤2∧z.1.n=Ez (64+AK AI 237) (16+AK AG 300) z.2) (fun z=>2-z.2) (T0 (64+AK AI 237) (16+AK AG 300),0) ⟨⟨Dz,Dz,(fun _ h=>nomatch h),Dz,Dz,rfl,rfl,rfl,rfl,(fun _ h=>nomatch h),rfl⟩,Nat.zero_le _,rfl⟩ D6 (eU nb _ _ _) ?_;rintro⟨w1,i⟩ ⟨q1,q2,q3⟩;dsimp only at q1 q2 q3⊢;obtain⟨n1,n2,n3,n4,n5,n6,n7⟩:=lQ (64+AK AI 237) (16+AK AG 300) i
 have hcl:w1.cs.length=i:=by rw [←n5,←q3];exact QE
 have hrl:w1.rows.length=i:=by rw [←n6,←q3];exact QE
 have hnl:w1.cnt.length=i:=by rw [←n7,←q3];exact QE
 have hkk :w1.x.ks =Du :=show w1.n.ks =Du by rw [q3];exact n3
 refine J4 ?_;refine JL (D4 (i:=i) (j:=2) rfl rfl) ?_;refine J2 ?_;refine mC (fun hi=>?_) (fun hi=>?_)
 ·refine J5 ?_;refine Ai (H':=At nb w1.x*(AB w1.xa.b w1.xa.o w1.cs w1.xa.s*(AB w1.ea.b w1.ea.o w1.rows w1.ea.s*(AB w1.ba.b w1.ba.o w1.AJ w1.ba.s*(AB w1.ca.b w1.ca.o w1.cnt w1.ca.s*(AO CJ w1.cs*(AO CK w1.rows*(HP.AA b5 0 [iN (64+AK AI 237),iN (16+AK AG 300)]*H)))))))) (Em nb w1 _) ?_;refine mA 13 13 ?_;refine JT 0 rfl XQ ?_;refine YR ?_;refine JF ?_;refine JT 4 rfl (Ay (v':=.agg (AD Du).toArray) dR (by rw [hkk])) ?_;refine Jm 5 ?_;refine JT 6 rfl (B6 (i:=i) (j:=0) rfl rfl) ?_;refine Am 7 Cb rfl rfl (BJ rfl (jP hG ((64+AK AI 237):Nat) ((16+AK AG 300):Nat) Du rfl (decide (i=0)) _)) ?_;rintro v35 H35 h35;rcases h35 with⟨hx,_,_⟩|⟨_,cb,m,hmok,hms,rfl,rfl⟩
  ·exact absurd hcfg hx
  refine A6 ?_;refine Jm 8 ?_;refine JT 9 rfl MW ?_;refine JT 10 rfl MW ?_;refine Ja 11 ?_;refine Ja 12 ?_;refine JD ?_;refine J5 ?_;refine JL (Ay (v':=.bool false) (Zo 184 rfl rfl) rfl) ?_;refine FO ?_;refine JL Pk ?_;refine JL Dh ?_;refine Gi ?_;refine J3 ?_;refine Ai (H':=AB w1.xa.b w1.xa.o w1.cs w1.xa.s*(At nb w1.x*(AB w1.ea.b w1.ea.o w1.rows w1.ea.s*(AB w1.ba.b w1.ba.o w1.AJ w1.ba.s*(AB w1.ca.b w1.ca.o w1.cnt w1.ca.s*(AO CJ w1.cs*(AO CK w1.rows*(AT cb m*(HP.AA b5 0 [iN (64+AK AI 237),iN (16+AK AG 300)]*H))))))))) Cf ?_;refine J5 ?_;refine JL (Ay Dn q1.xv) ?_;refine J1 ?_;refine Ag (Gq (cs:=[ptr cb 0]) rfl Cp rfl rfl) rfl ?_;rintro _ _ ⟨b50,rfl,rfl⟩;refine A9 (H':=AB w1.xa.b w1.xa.o w1.cs w1.xa.s*(HP.AA b50 0 (AD [(⟨cb,m⟩:CM)])*(At nb w1.x*(AB w1.ea.b w1.ea.o w1.rows w1.ea.s*(AB w1.ba.b w1.ba.o w1.AJ w1.ba.s*(AB w1.ca.b w1.ca.o w1.cnt w1.ca.s*(AO CJ w1.cs*(AO CK w1.rows*(AT cb m*(HP.AA b5 0 [iN (64+AK AI 237),iN (16+AK AG 300)]*H)))))))))) (by show HP.AA b50 0 _*_=_;rw [show AD [(⟨cb,m⟩:CM)]=[ptr cb 0]from rfl];ac_rfl) ?_
  refine Ag (CX (ys:=[(⟨cb,m⟩:CM)]) (bb:=b50) (oo:=0) (cc:=1) rfl q1.xa.1 q1.xa.2 rfl CG inferInstance rfl Cn Ca) rfl ?_;rintro _ _ ⟨p51,b51,o51,c51,s51,rfl,hs51,hc51,rfl⟩;refine J6 ?_
  obtain⟨w2,hw2⟩:∃w2,w2=(w1.Ku ⟨cb,m⟩ ⟨p51,b51,o51,c51,s51⟩):=Bh
  have hok2:w2.ok:=by rw [hw2];exact q1.Ku ⟨hs51,hc51⟩ hmok
  have hn2:w2.n={Ez (64+AK AI 237) (16+AK AG 300) i with xs:=(Ez (64+AK AI 237) (16+AK AG 300) i).xs++[.new (64+AK AI 237) (16+AK AG 300) Du (decide (i=0))]}:=by rw [hw2,NM.lD,q3,hms];rfl
  have hrl2:w2.rows.length=i:=by rw [hw2];exact hrl
  have hnl2:w2.cnt.length=i:=by rw [hw2];exact hnl
  refine HW (Av nb w2*(HP.AA b5 0 [iN (64+AK AI 237),iN (16+AK AG 300)]*H)) (hE:=⟨fun ww hw=>Sat.right (A:=HP.AA b50 0 (AD [(⟨cb,m⟩:CM)])) (Eq.mp (by
   congr 1
   rw [hw2,oY]
   show _=HP.AA b50 0 (AD [(⟨cb,m⟩:CM)])*(At nb {w1.x with xv:=.slice p51 (w1.cs++[(⟨cb,m⟩:CM)]).length c51}*_)
   ac_rfl) hw)⟩) ?_
  refine J7 ?_;refine F8 ?_;refine Bm (α:=List D2×A1) (fun z=>[(11,iN z.1.length),(10,z.2.v z.1.length),(7,iN i),(6,ptr nb 0),(5,ptr b5 0)]) (fun z=>z.2.h z.1*(AO GD z.1*(Av nb w2*(HP.AA b5 0 [iN (64+AK AI 237),iN (16+AK AG 300)]*H)))) (fun z=>z.2.ok z.1∧z.1.length≤4∧z.1.map (·.o)=L? z.1.length Dq) (fun z=>4-z.1.length) ([],BR) ⟨Dz,Nat.zero_le _,rfl⟩ HD (by rw [Gm,E9,HP.BI,HP.BI]) ?_;rintro⟨es,ea⟩ ⟨x1,x2,x3⟩;dsimp only at x1 x2 x3⊢;refine J4 ?_;refine JL (D4 (i:=es.length) (j:=4) rfl rfl) ?_;refine J2 ?_;refine mC (fun hj=>?_) (fun hj=>?_)
  ·refine J6 ?_;refine JL (Ay (v':=.agg (ND Dq).toArray) Ey rfl) ?_;refine Ag (Db (l:=ND Dq) rfl rfl) rfl ?_;rintro _ _ ⟨b60,rfl,rfl⟩;refine Ag (Gq (cs:=[ptr b60 0]) rfl Cp rfl rfl) rfl ?_;rintro _ _ ⟨b61,rfl,rfl⟩;refine A9 (H':=AB ea.b ea.o es ea.s*(HP.AA b61 0 (AD [(⟨b60,Dq⟩:D2)])*(HP.AA b60 0 (ND Dq)*(AO GD es*(Av nb w2*(HP.AA b5 0 [iN (64+AK AI 237),iN (16+AK AG 300)]*H)))))) (by show HP.AA b61 0 _*_=_;rw [show AD [(⟨b60,Dq⟩:D2)]=[ptr b60 0]from rfl];ac_rfl) ?_;refine Ag (CX (ys:=[(⟨b60,Dq⟩:D2)]) (bb:=b61) (oo:=0) (cc:=1) rfl x1.1 x1.2 rfl CG inferInstance rfl Cn Ca) rfl ?_;rintro _ _ ⟨p62,b62,o62,c62,s62,rfl,hs62,hc62,rfl⟩;refine J6 ?_;refine JL (Gx (i:=es.length) (j:=1) rfl rfl Ca) ?_;refine J2 ?_
   refine Bd ((⟨p62,b62,o62,c62,s62⟩:A1).h (es++[(⟨b60,Dq⟩:D2)])*(AO GD (es++[(⟨b60,Dq⟩:D2)])*(Av nb w2*(HP.AA b5 0 [iN (64+AK AI 237),iN (16+AK AG 300)]*H)))) (hE:=⟨fun ww hw=>Sat.right (A:=HP.AA b61 0 (AD [(⟨b60,Dq⟩:D2)])) (Eq.mp (by
    congr 1
    rw [Ji,Fc,E9,HP.GL]
    show _=HP.AA b61 0 (AD [(⟨b60,Dq⟩:D2)])*(AB b62 o62 (es++[(⟨b60,Dq⟩:D2)]) s62*(AO GD es*HP.AA b60 0 (ND Dq)*_))
    ac_rfl) hw)⟩) ?_
   exact Ba (es++[(⟨b60,Dq⟩:D2)],⟨p62,b62,o62,c62,s62⟩) ⟨⟨hs62,hc62⟩,by rw [J!];simp only [K!];omega,by rw [L_,x3,J!];exact List.replicate_succ'.symm⟩ (by rw [J!];simp only [K!];show 4-(es.length+1)<4-es.length;omega) (.cons P' IK) rfl
  have he4:es.length=4:=by omega
  have hrl3:ea.ok es:=x1;refine J6 ?_;refine Ai (H':=AB w2.ea.b w2.ea.o w2.rows w2.ea.s*(At nb w2.x*(AB w2.xa.b w2.xa.o w2.cs w2.xa.s*(AB w2.ba.b w2.ba.o w2.AJ w2.ba.s*(AB w2.ca.b w2.ca.o w2.cnt w2.ca.s*(AO CJ w2.cs*(AO CK w2.rows*(AB ea.b ea.o es ea.s*(AO GD es*(HP.AA b5 0 [iN (64+AK AI 237),iN (16+AK AG 300)]*H)))))))))) (by rw [Em];show AB ea.b ea.o es ea.s*_=_;ac_rfl) ?_;refine J5 ?_;refine JL (Ay Dn hok2.ev) ?_;refine J1 ?_;refine Ag (Gq (cs:=[.slice ea.p es.length ea.c]) rfl Cp rfl rfl) rfl ?_;rintro _ _ ⟨b69,rfl,rfl⟩;refine A9 (H':=AB w2.ea.b w2.ea.o w2.rows w2.ea.s*(HP.AA b69 0 (AD [(⟨ea,es⟩:Dc)])*(At nb w2.x*(AB w2.xa.b w2.xa.o w2.cs w2.xa.s*(AB w2.ba.b w2.ba.o w2.AJ w2.ba.s*(AB w2.ca.b w2.ca.o w2.cnt w2.ca.s*(AO CJ w2.cs*(AO CK w2.rows*(AB ea.b ea.o es ea.s*(AO GD es*(HP.AA b5 0 [iN (64+AK AI 237),iN (16+AK AG 300)]*H))))))))))) (by show HP.AA b69 0 _*_=_;rw [show AD [(⟨ea,es⟩:Dc)]=[.slice ea.p es.length ea.c]from rfl];ac_rfl) ?_;refine Ag (CX (ys:=[(⟨ea,es⟩:Dc)]) (bb:=b69) (oo:=0) (cc:=1) rfl hok2.ea.1 hok2.ea.2 rfl CG inferInstance rfl Cn Ca) rfl ?_;rintro _ _ ⟨p70,b70,o70,c70,s70,rfl,hs70,hc70,rfl⟩;refine J5 ?_
  obtain⟨w3,hw3⟩:∃w3,w3=w2.K3 (⟨ea,es⟩:Dc) ⟨p70,b70,o70,c70,s70⟩:=Bh
  have hok3:w3.ok:=by rw [hw3];exact hok2.K3 ⟨hs70,hc70⟩ hrl3
  have hn3:w3.n={w2.n with ends:=w2.n.ends++[L? 4 Dq]}:=by rw [hw3,NM.zH];show _=_;rw [show((⟨ea,es⟩:Dc)).es.map (·.o)=L? 4 Dq by show es.map (·.o)=_;rw [x3,he4]]
  have hnl3:w3.cnt.length=i:=by rw [hw3];exact hnl2
  refine HW (AB w3.ca.b w3.ca.o w3.cnt w3.ca.s*(At nb w3.x*(AB w3.xa.b w3.xa.o w3.cs w3.xa.s*(AB w3.ea.b w3.ea.o w3.rows w3.ea.s*(AB w3.ba.b w3.ba.o w3.AJ w3.ba.s*(AO CJ w3.cs*(AO CK w3.rows*(HP.AA b5 0 [iN (64+AK AI 237),iN (16+AK AG 300)]*H)))))))) (hE:=⟨fun ww hw=>Sat.right (A:=HP.AA b69 0 (AD [(⟨ea,es⟩:Dc)])) (Eq.mp (by
   congr 1
   rw [show AB w3.ca.b w3.ca.o w3.cnt w3.ca.s*(At nb w3.x*(AB w3.xa.b w3.xa.o w3.cs w3.xa.s*(AB w3.ea.b w3.ea.o w3.rows w3.ea.s*(AB w3.ba.b w3.ba.o w3.AJ w3.ba.s*(AO CJ w3.cs*(AO CK w3.rows*(HP.AA b5 0 [iN (64+AK AI 237),iN (16+AK AG 300)]*H)))))))=Av nb w3*(HP.AA b5 0 [iN (64+AK AI 237),iN (16+AK AG 300)]*H) by rw [Em];ac_rfl]
   rw [hw3,gR]
   show _=HP.AA b69 0 (AD [(⟨ea,es⟩:Dc)])*(At nb {w2.x with ev:=.slice p70 (w2.rows++[(⟨ea,es⟩:Dc)]).length c70}*_)
   dsimp only
   ac_rfl) hw)⟩) ?_
  refine J5 ?_;refine JL (Ay Dn hok3.cv) ?_;refine Ag (Gq (cs:=[uN 0]) rfl Cp rfl rfl) rfl ?_;rintro _ _ ⟨b78,rfl,rfl⟩;refine A9 (H':=AB w3.ca.b w3.ca.o w3.cnt w3.ca.s*(HP.AA b78 0 (AD [(⟨0⟩:EQ)])*(At nb w3.x*(AB w3.xa.b w3.xa.o w3.cs w3.xa.s*(AB w3.ea.b w3.ea.o w3.rows w3.ea.s*(AB w3.ba.b w3.ba.o w3.AJ w3.ba.s*(AO CJ w3.cs*(AO CK w3.rows*(HP.AA b5 0 [iN (64+AK AI 237),iN (16+AK AG 300)]*H))))))))) (by show HP.AA b78 0 _*_=_;rw [show AD [(⟨0⟩:EQ)]=[uN 0]from rfl];ac_rfl) ?_;refine Ag (CX (ys:=[(⟨0⟩:EQ)]) (bb:=b78) (oo:=0) (cc:=1) rfl hok3.ca.1 hok3.ca.2 rfl CG inferInstance rfl Cn Ca) rfl ?_;rintro _ _ ⟨p79,b79,o79,c79,s79,rfl,hs79,hc79,rfl⟩;refine J6 ?_
  obtain⟨w4,hw4⟩:∃w4,w4=w3.Jq ⟨0⟩ ⟨p79,b79,o79,c79,s79⟩:=Bh
  have hok4:w4.ok:=by rw [hw4];exact hok3.Jq ⟨hs79,hc79⟩
  have hn4:w4.n=Ez (64+AK AI 237) (16+AK AG 300) (i+1):=by
   rw [hw4,NM.wF,hn3,hn2];show AN.mk _ _ (Ez (64+AK AI 237) (16+AK AG 300) i).AI (Ez (64+AK AI 237) (16+AK AG 300) i).AG (Ez (64+AK AI 237) (16+AK AG 300) i).ks (Ez (64+AK AI 237) (16+AK AG 300) i).AJ _=_;rw [n1,n2,n3,n4];rfl
  refine J2 ?_;refine E7 ?_
  refine Bd (Av nb w4*(HP.AA b5 0 [iN (64+AK AI 237),iN (16+AK AG 300)]*H)) (hE:=⟨fun ww hw=>Sat.right (A:=HP.AA b78 0 (AD [(⟨0⟩:EQ)])) (Eq.mp (by
   congr 1
   rw [hw4,oC]
   show _=HP.AA b78 0 (AD [(⟨0⟩:EQ)])*(At nb {w3.x with cv:=.slice p79 (w3.cnt++[(⟨0⟩:EQ)]).length c79}*_)
   ac_rfl) hw)⟩) ?_
  exact Ba (w4,i+1) ⟨hok4,by show i+1≤2;omega,hn4⟩ aE D6 rfl
 refine DP ?_
 have hi2:i=2:=by omega
 subst hi2;exact mR [4] (Av nb w1*H) (hE:=⟨fun ww hw=>Sat.right (A:=HP.AA b5 0 [iN (64+AK AI 237),iN (16+AK AG 300)]) (Eq.mp Cm hw)⟩) rfl rfl ⟨nb,w1,rfl,q1,by rw [q3];exact jE AI AG,rfl⟩
end
section
variable{B:World}
@[reducible] instance layStp:AC DL:=⟨5,Bw,⟨0,0,0,0,⟨#[]⟩⟩,fun _=>rfl,fun _ v h=>by simp at h;rcases h with rfl|rfl|rfl|rfl|rfl<;>rfl⟩
def QR:DL:=⟨1,0,3,0,⟨#[115,111,109,101,32,98,121,116,101,115,32,111,102,32,97,32,115,116,114,101,97,109]⟩⟩
def P2:DL:=⟨2,0,3,0,⟨#[]⟩⟩
def SM:AN:=(G7 4 (((Jo 0 100).step QR).2.step P2).2).2
theorem eM:(SM.e 0 3).read=22∧(SM.e 0 3).state=1:=by decide+kernel
theorem Jk{c:Int}(h:0≤c∧c<1000):HU c:=⟨Ca,Ca⟩
theorem BN.step{t:Nat}{n:AN}(h:BN t n)(ht:t≤1000000000)(s:DL):BN (t+1) (n.step s).2:=by
 obtain⟨L,R,h⟩:=h;obtain⟨_,L',R',b⟩:=h.step ht s;exact⟨L',R',b⟩
theorem WI(AI AG:Int):BN 0 (Jo AI AG):=by
 have h1:=FF AI (show 0<237 by omega);have h2:=FF AG (show 0<300 by omega);exact⟨_,_,Al.new Ca Ca Ca Ca⟩
theorem xS{α:Type}{l:List α}{i:Nat}{d:α}(h:i<l.length):l.getD i d∈l:=by
 rw [List.getD_eq_getElem?_getD,List.getElem?_eq_getElem h,Option.getD_some];exact List.getElem_mem h
set_option maxHeartbeats 4000000 in
theorem lC(l:List DL)(p:Option Addr)(b o c:Nat)(H:HP)(hs:Sl p b o l.length c)(hr:Ad B H b o l)(hl:l.length<2000000)(hsz:∀s∈l,s.s.size<90000000):
  Fn Tryz.prog B 12 [.slice p l.length c] H (fun v H'=>∃bb:Bool,v=.bool bb∧(bb=true→l.length≤8192)∧H'=H):=by
 refine mI Tryz.func12 ?_;refine PE ?_;refine F8 ?_;refine Bm (α:=Nat×Nat) (fun z=>[(4,iN z.2),(3,iN z.1),(0,.slice p l.length c)]) (fun _=>H) (fun z=>l.length≤z.1∧z.1<100000000) (fun z=>l.length-z.2) (l.length,0) ⟨Nat.le_refl _,Ca⟩ D6 rfl ?_;rintro⟨m,i⟩ ⟨q1,q2⟩;dsimp only at q1 q2⊢;refine J6 ?_;refine JL (D4 (i:=i) (j:=l.length) rfl rfl) ?_;refine J1 ?_;refine EL 11 rfl (fun hg1=>?_) (fun hg1=>?_)
 ·refine JG T1 ?_;refine J1 ?_;refine JG T1 ?_;refine JL Sk ?_;refine JL Fu ?_;refine J2 ?_;refine mC (fun h14=>?_) (fun h14=>?_)
  ·have hsi:((l.getD i AC.AH).s).size<90000000:=hsz _ (xS hg1);refine J8 ?_;refine JL (CU (i:=i) rfl rfl hs Ca) ?_;refine J1 ?_;refine JL (D8 (f:=4) (xs:=l) (v:=.string ((l.getD i AC.AH).s)) rfl hr rfl hg1) ?_;refine J1 ?_;refine JL (Gx (i:=m) (j:=((l.getD i AC.AH).s).size) rfl rfl Ca) ?_;refine J6 ?_;refine JL SB ?_;refine J2 ?_;exact Ba (m+((l.getD i AC.AH).s).size,i+1) ⟨by show l.length≤_;omega,by show _<100000000;omega⟩ VU D6 rfl
  refine J8 ?_;refine JL Sk ?_;refine J4 ?_;exact Y7
 refine JH F1 ?_;refine JH F1 ?_;refine JL Eo ?_;refine Gi ?_;refine J8 ?_;refine JL Sk ?_;refine J4 ?_;exact Y7
set_option maxHeartbeats 8000000 in
theorem gO(hG:B.cell? ⟨0,0,none⟩=some (CZ 106))(H:HP):
  Fn Tryz.prog B 13 [] H (fun v H'=>v=.bool true∧H'=H):=by
 refine mI Tryz.func13 ?_;refine J7 ?_;refine mE rfl (aU hG 0 100 (Jk Ca) (Jk Ca) _) ?_;rintro _ _ ⟨nb,w,rfl,hok,hn,rfl⟩
 have hk0:BN 0 w.n:=by rw [hn];exact WI 0 100
 have hk1:=hk0.step Ca QR;have hk2:=hk1.step Ca P2;obtain⟨L0,R0,hw0⟩:=hk0;refine J7 ?_;refine JL ZL ?_;refine Gi ?_;refine J5 ?_;refine JL (Ay (v':=.agg (Bw QR).toArray) Ey rfl) ?_;refine mE rfl (PT hG nb 0 QR w L0 R0 _ hok hw0 ⟨Jk Cc,Jk Cc,Jk Cc,Cc⟩ Ca) ?_;rintro _ _ ⟨rfl,w1,hok1,hn1,rfl⟩;rw [←hn1]at hk1 hk2;obtain⟨L1,R1,hw1⟩:=hk1;refine J6 ?_;refine JL (Ay (v':=.agg (Bw P2).toArray) Ey rfl) ?_;refine mE rfl (PT hG nb 1 P2 w1 L1 R1 _ hok1 hw1 ⟨Jk Cc,Jk Cc,Jk Cc,Cc⟩ Ca) ?_;rintro _ _ ⟨rfl,w2,hok2,hn2,rfl⟩;rw [←hn2]at hk2;refine J6 ?_;refine mE rfl (oJ hG nb 2 4 w2 _ hok2 hk2 Ca) ?_;rintro _ _ ⟨rfl,w3,hok3,hn3,rfl⟩
 have hwn:w3.n=SM:=by rw [hn3,hn2,hn1,hn];rfl
 obtain⟨_,hk3⟩:=BN.G7 4 2 w2.n hk2 Ca;rw [←hn3]at hk3;obtain⟨L3,R3,hw3⟩:=hk3;obtain⟨C,r,E,hC,hr,hE,l1,l2,l3⟩:=hw3.mem (i:=0) (j:=0) (k:=3) Ca Ca Ca;obtain⟨e1,e2⟩:=eM;rw [←hwn,NM.I7 hr hE]at e1 e2;refine J4 ?_;refine Ai (H':=At nb w3.x*(AB w3.xa.b w3.xa.o w3.cs w3.xa.s*(AB w3.ea.b w3.ea.o w3.rows w3.ea.s*(AB w3.ba.b w3.ba.o w3.AJ w3.ba.s*(AB w3.ca.b w3.ca.o w3.cnt w3.ca.s*(AT C.cb C.c*(AB r.a.b r.a.o r.es r.a.s*(A7 E.q E.o*(B2 w3 0 0 3 r*H))))))))) (Ej nb w3 _ hC hr hE) ?_;refine J4 ?_;refine JL (Ay Dn hok3.ev) ?_;refine JL (CU (i:=0) rfl rfl hok3.ea.1 Ca) ?_;refine JL (D8 (f:=0) (xs:=w3.rows) (v:=.slice r.a.p r.es.length r.a.c) rfl inferInstance To Ca) ?_;refine JL (CU (i:=3) rfl rfl (hok3.ra r Ps).1 Ca) ?_;refine JL Oc ?_;refine J7 ?_;refine NE ?_;refine J1 ?_;refine NE ?_;refine FO ?_;refine I4 ?_
 refine JL (Ay (v':=.bool true) (B6 (i:=E.o.read) (j:=22) rfl rfl) (by rw [e1];rfl)) ?_;refine Ga ?_;refine FO ?_;refine I4 ?_;refine JL (Ay (v':=.bool true) (B6 (i:=E.o.state) (j:=1) rfl rfl) (by rw [e2];rfl)) ?_;refine Ga ?_;refine J4 ?_;exact mR [0] H (hE:=⟨fun ww hw=>Sat.right (A:=Av nb w3) (Eq.mp (by congr 1;rw [Ej nb w3 _ hC hr hE]) hw)⟩) rfl rfl BW
set_option maxHeartbeats 8000000 in
theorem kD(hG:B.cell? ⟨0,0,none⟩=some (CZ 106))(l:List DL)(wo AI AG:Int)(hmtu:HU AI)(hwin:HU AG)(p:Option Addr)(b o c:Nat)(H:HP)(hs:Sl p b o l.length c)(hr:Ad B H b o l)(hl:l.length≤8192)(hst:∀s∈l,KX s):
  Fn Tryz.prog B 14 [.slice p l.length c,.int .i64 wo,.int .i64 AI,.int .i64 AG] H (fun v H'=>∃(nb:Nat) (w:NM),v=.tuple #[ptr nb 0,.bool true]∧w.ok∧BN l.length w.n∧AN.run wo l (Jo AI AG)=some w.n∧H'=Av nb w*H):=by
 refine mI Tryz.func14 ?_;refine CB ?_;refine mE rfl (aU hG AI AG hmtu hwin _) ?_;rintro _ _ ⟨nb,w,rfl,hok,hn,rfl⟩
 have hk0:BN 0 w.n:=by rw [hn];exact WI AI AG
 refine J7 ?_;refine JL ZL ?_;refine Gi ?_;refine J5 ?_;refine F8 ?_;refine Bm (α:=NM×Nat) (fun z=>[(11,iN z.2),(10,ptr nb 0),(0,.slice p l.length c),(1,.int .i64 wo)]) (fun z=>Av nb z.1*H) (fun z=>z.1.ok∧z.2≤l.length∧BN z.2 z.1.n∧AN.run wo (l.drop z.2) z.1.n=AN.run wo l (Jo AI AG)) (fun z=>l.length-z.2) (w,0) ⟨hok,Nat.zero_le _,hk0,by rw [hn];rfl⟩ IK rfl ?_;rintro⟨w1,i⟩ ⟨q1,q2,q3,q4⟩;dsimp only at q1 q2 q3 q4⊢;refine J6 ?_;refine JL (D4 (i:=i) (j:=l.length) rfl rfl) ?_;refine J2 ?_;refine mC (fun hi=>?_) (fun hi=>?_)
 ·obtain⟨s,hsi⟩:=Ha rfl hi;have hmem:s∈l:=K? hsi;have GJ:=YX hsi;rw [GJ,AN.run]at q4;obtain⟨L0,R0,hw0⟩:=id q3;have hr':Ad B (Av nb w1*H) b o l:=inferInstance;refine J9 ?_;refine JL (CU (i:=i) rfl rfl hs Ca) ?_;refine J1 ?_;refine JL (D8 (f:=0) (xs:=l) (v:=.int .i64 s.kind) rfl hr' (by rw [getD_some hsi];rfl) hi) ?_;refine J1 ?_;refine JL (C4 (i:=s.kind) (j:=wo) rfl rfl) ?_;refine J2 ?_;refine mC (fun hk=>?_) (fun hk=>?_)
  ·rw [if_pos hk]at q4
   obtain⟨w9,hok9,hk9,h9,h99⟩:∃w9:NM,w9.ok∧BN (i+1) w9.n∧AN.run wo (l.drop (i+1)) w9.n=AN.run wo l (Jo AI AG)∧Av nb w1*H=Av nb w9*H:=⟨w1,q1,⟨L0,R0,hw0.up Ca⟩,q4,rfl⟩
   refine Ai h99 ?_;refine J6 ?_;refine JL SB ?_;refine J2 ?_;exact dB
  rw [if_neg hk,if_pos (hw0.step Ca s).1]at q4;refine J7 ?_;refine JL Lm ?_;refine JL (Ay (v':=.agg (Bw s).toArray) (IX (xs:=l) rfl hr' hi) (by rw [getD_some hsi];rfl)) ?_;refine mE rfl (PT hG nb i s w1 L0 R0 _ q1 hw0 (hst s hmem) Ca) ?_;rintro _ _ ⟨rfl,w9,hok9,hn9,rfl⟩
  have hk9:BN (i+1) w9.n:=by rw [hn9];exact q3.step Ca s
  have h9:AN.run wo (l.drop (i+1)) w9.n=AN.run wo l (Jo AI AG):=by rw [hn9];exact q4
  refine J6 ?_;refine JL Kx ?_;refine Gi ?_;refine J5 ?_;refine JL SB ?_;refine J2 ?_;exact dB
 refine F5z ?_
 have hil:i=l.length:=by omega
 subst hil;rw [List.drop_length]at q4;exact mR [8,9] (Av nb w1*H) rfl rfl ⟨nb,w1,rfl,q1,q3,q4.symm,rfl⟩
end
section
theorem Mi{i:Int}(h:Lit.wf (.int .i64 i)):HU i:=by
 have: -9223372036854775808≤i∧i≤9223372036854775807:=by simpa [Lit.wf,IntKind.min,IntKind.max,IntKind.bits,IntKind.signed]using h
 exact⟨this.1,Ca⟩
section
variable{H:Type}{An:TypeId×Value→H}
instance:Inhabited DL:=⟨AC.AH⟩
def ZQ(s:DL)(d:DataW H):Prop:=Rows.uptoBulk d≤1048576→KX s
theorem r7{W:World}{n:Nat}{cs:List Value}{y:DataW H×List MemPlace}(h:DataW.trod An Tryz.prog W 0 (fun _=>true) true n 97 cs=some y):∃s:DL,cs=AC.An s∧ZQ s y.1:=by
 obtain⟨xs,k,rfl,rfl,hcl,hxl,hf⟩:=DataW.trod_struct Tryz.underlying97 h
 have c2:Tryz.prog.cellsOf 3=1:=by kernel_rfl
 have c4:Tryz.prog.cellsOf 9=1:=by kernel_rfl
 have ct:Tryz.prog.cellsOf 97=5:=by kernel_rfl
 rw [ct]at hcl
 match xs,hxl,cs,hcl with
 |[y0,y1,y2,y3,y4],_,[v0,v1,v2,v3,v4],_=>
  have g0:=hf 0 _ rfl;have g1:=hf 1 _ rfl;have g2:=hf 2 _ rfl;have g3:=hf 3 _ rfl;have g4:=hf 4 _ rfl;simp [c2,c4]at g0 g1 g2 g3 g4;obtain⟨i0,e0,z0,w0⟩:=DataW.trod_int Tryz.underlying3 g0;obtain⟨i1,e1,z1,w1⟩:=DataW.trod_int Tryz.underlying3 g1;obtain⟨i2,e2,z2,w2⟩:=DataW.trod_int Tryz.underlying3 g2;obtain⟨i3,e3,z3,w3⟩:=DataW.trod_int Tryz.underlying3 g3;obtain⟨s5,e5,z5,w5⟩:=DataW.trod_string Tryz.underlying9 g4;simp only [List.cons.injEq,and_true]at e0 e1 e2 e3 e5;refine⟨⟨i0,i1,i2,i3,s5⟩,?_,fun hb=>?_⟩
  ·rw [e0,e1,e2,e3,e5];rfl
  ·have hb':Rows.uptoBulk (DataW.agg [y0.1,y1.1,y2.1,y3.1,y4.1])≤1048576:=hb
   have h5:Rows.uptoBulk y4.1=s5.size+1:=by
    rw [z5];show Rows.uptoBulk (DataW.lit (H:=H) (.string s5.data.toList))=_;simp [Rows.uptoBulk]
   simp only [Rows.uptoBulk,Rows.uptoBulkAll]at hb';exact⟨Mi w1,Mi w2,Mi w3,by show s5.size<_;omega⟩
theorem iM{W:World}{v:Value}{d:DataW H}{ps:List MemPlace}(h:DataW.Trod An Tryz.prog W 0 (fun _=>true) true 27 v d ps)(hv:∃p k c,v=.slice p k c)(hb:Rows.uptoBulk d≤1048576):
  ∃(p:Option Addr) (b o c:Nat) (l:List DL),v=.slice p l.length c∧Sl p b o l.length c∧(∀H',Ad W H' b o l)∧l.length≤1048576∧∀s∈l,KX s:=by
 obtain⟨fuel,hf⟩:=h;obtain⟨p0,k0,c0,rfl⟩:=hv;obtain⟨p,b,o,c,len,X,e,hsl,hrd,hq⟩:=jT (α:=DL) ZQ Tryz.underlying27 Cb (by show 0<5;decide) (fun n cs' y hy=>r7 hy) hf
 have e':Value.slice p0 k0 c0=.slice p len c:=by simpa [Value.cells]using e
 have hl:((M_ len).map X).length=len:=by rw [K_,M!]
 refine⟨p,b,o,c,(M_ len).map X,by rw [hl];exact e',by rw [hl];exact hsl,hrd,?_,fun s hs=>?_⟩
 ·rw [hl];rcases hq with⟨rfl,e⟩|⟨D,sp,e,hQ⟩
  ·omega
  ·have:=gS ((M_ len).map D)
   rw [K_,M!]at this;rw [show d=_ from e]at hb;simp only [Rows.uptoBulk]at hb;omega
 ·obtain⟨i,hi,rfl⟩:=N?.1 hs;have hi:=N!.1 hi;rcases hq with⟨rfl,_⟩|⟨D,sp,e,hQ⟩
  ·omega
  ·refine hQ i hi ?_;have h2:Rows.uptoBulk (D i)≤Rows.uptoBulkAll ((M_ len).map D):=Ye (N?.2 ⟨i,N!.2 hi,rfl⟩)
   have h3:Rows.uptoBulkAll ((M_ len).map D)≤Rows.uptoBulk d:=by
    rw [show d=_ from e];simp only [Rows.uptoBulk];omega
   omega
end
end
theorem zR{a:Assume}{C:Checked}{os:Os}{f:FuncId}{r:Reach}{Pre:World→Array Value→Prop}{Post:World→Array Value→Value→World→Prop}
  (h:ReturnsInHanded a C os f r Pre Post)(enter:C.prog.mayEnter=true):ReturnsInOpen a none C os f r Input.okWide Pre Post (leavingAtReturn C.prog) nothingAlways:=by
 obtain⟨h1,h2,h3,h4,h5⟩:=h enter;refine⟨h1,h2,h3,h4,fun w tape i hf=>?_⟩;obtain⟨n,v,w',a1,a2,a3,a4,⟨j,last,b1,b2,b3⟩,a6⟩:=h5 w tape i hf;exact⟨n,v,w',a1,a2,a3,a4,⟨j,last,b1,b2,b3.2.1,onlyLeaving_of_quiet b3.1,b3.2.2⟩,a6⟩
theorem xB{p:Pinned}{s:OpenSpec}{c:OpenClaim}(f:FuncId)(fn:Func)
  (hn:c.program=p.name)(hs:c.sum=p.sum)(hsp:c.spec=s.name)
  (hstart:c.start=.entering)(hout:c.outside=[])(hin:c.inits=[])(hun:c.under=none)(hi4:c.initsInPlace=[]∧c.initsUnfollowed=false∧c.initsRecurse=false∧c.initsNamed=[]∧c.initsPassed=[])(hnb:c.noBlocks=false)(hlv:c.leaving=true)(hfo:c.followed=none)(hnar:c.narrowed=s.cond.isSome)(hstill:c.still=false)
  (hfn:p.checked.prog.funcNamed c.func=some f)(hf:p.checked.prog.funcs[f]?=some fn)
  (closed:joinedFacts p.checked.prog f fn s.bare c=true)
  (hinst:fn.isInstance p.checked.prog c.origin c.targs)(hwrap:fn.isWrapper p.checked.prog c.wrapper c.mainSum)
  (h:∀os:Os,os.Started→∀(H:Type) (An:TypeId×Value→H),(∀a b,An a=An b→a=b)→∀F:Stop.Interp,
   ReturnsInHanded c.assume p.checked os f .any (c.pre An p.checked.prog fn s) ((s.at F).post An p.checked.prog fn c.apart c.fresh c.handsOn c.again)):c.holds p s:=by
 simp only [joinedFacts,Bool.and_eq_true,beq_iff_eq,Array.all_eq_true_iff_forall_mem,List.all_eq_true,decide_eq_true_eq]at closed;obtain⟨⟨⟨⟨⟨⟨⟨⟨⟨⟨⟨⟨⟨⟨⟨⟨⟨⟨⟨⟨⟨⟨⟨⟨⟨⟨⟨⟨⟨⟨⟨k1,k2⟩,k3⟩,k4⟩,k5⟩,k6⟩,k7⟩,k8⟩,k9⟩,k10⟩,k11⟩,k12⟩,k13⟩,k14⟩,k15⟩,k16⟩,k17⟩,k17b⟩,k18⟩,k19⟩,k20⟩,k21⟩,k22⟩,k23⟩,k23b⟩,k24⟩,k24b⟩,k24c⟩,k25⟩,k26⟩,k27⟩,k28⟩:=closed
 have hq:∀os:Os,Stop.quiet p.checked.prog os:=fun os k hk=>by rw [k9]at hk;cases hk
 refine⟨k1,hn,hs,hsp,k2,k3,by unfold OpenClaim.startFits;rw [hstart];exact k24,by unfold OpenClaim.startTold;rw [hstart];exact⟨hin,hun,hi4⟩,f,fn,hfn,hf,⟨k4,k19⟩,(fun hb=>by rw [hnb]at hb;cases hb),by unfold OpenClaim.namedList;rw [hfo];exact k5,hinst,hwrap,
  k6.trans k7.symm,⟨k8.trans k9.symm,by unfold Program.envWorded;rw [k9];rfl,k23b⟩,k10,k11,k12,k13,k14,⟨k15,k27,k28⟩,⟨k16,k20⟩,⟨k17,k21,k25,k26⟩,⟨k22,k24b,k24c,k17b⟩,(by rw [hout,hnar];cases hsh:c.shortTexts with|none=>simp|some _=>rw [hsh]at k23;cases k23),fun n hn'=>varReadable_some (k18 n hn'),
  ⟨_,by unfold OpenClaim.world;rw [hout,hstart];exact WideRow.started_initial,hq _⟩,[],by unfold OpenClaim.lists;rw [hfo],fun os st _ H An inj=>?_⟩
 have st':os.Started:=by unfold OpenClaim.world at st;rw [hout,hstart]at st;exact st
 rw [OpenClaim.post_not_still hstill];unfold OpenClaim.form;rw [hstart,k6];intro F
 have e1:c.okInput=Input.okWide:=by unfold OpenClaim.okInput;rw [hnb]
 have e2:c.atReturn p.checked.prog=leavingAtReturn p.checked.prog:=by unfold OpenClaim.atReturn;rw [hlv]
 have e3:c.always p.checked.prog []=nothingAlways:=by unfold OpenClaim.always;rw [hfo]
 have e4:s.post An p.checked.prog fn F c.outside c.apart c.fresh c.handsOn c.again=(s.at F).post An p.checked.prog fn c.apart c.fresh c.handsOn c.again:=by rw [hout];rfl
 rw [e1,e2,e3];show ReturnsInOpen _ _ _ _ _ _ _ _ (s.post An p.checked.prog fn F c.outside c.apart c.fresh c.handsOn c.again) _ _;rw [e4];exact zR (h os st' H An inj F) k24
theorem uZ(Lk:Looks){p:Pinned}{s:OpenSpec}{c:OpenClaim}(kinds:List LaidKind)(tests:Bool)(har:Bool×String)(lk:Bool)
  (hc:c.holds p s)(hw:c.wfByText s=true)(htie:c.laidByTextAt Lk p kinds tests)
  (hst:c.start=.entering)(hnb:c.noBlocks=false∧c.again=false)(hm:p.checked.prog.mainIs=some (har.1,har.2.toList))(hn:(!har.1&&har.2.isEmpty&& !lk)=false)
  (hl:∀f fn,p.checked.prog.funcNamed c.func=some f→p.checked.prog.funcs[f]?=some fn→lk=p.checked.prog.looks []∧∀(j:Nat) t,fn.params[j]?=some t→p.checked.prog.wantsStandIn t=false)
  (hg:true=c.goesBy p.checked.prog):
  Claim7.holds p (.plain s) {stood:={row:=c,standIns:=[],harness:=har,looks:=lk},kinds:=[],alts:=[],goes:=true,laidByText:=true,laidKinds:=kinds,laidTests:=tests,laidLooks:=Lk}:=by
 have h6:∀r:OpenClaim,Claim7.isSixth {stood:={row:=r,standIns:=[],harness:=har,looks:=lk},kinds:=[]}=false:=fun r=>by simpa [Claim7.isSixth]using hn
 exact⟨Claim7.tied_new_at Lk kinds tests (Claim7.new_of_sixth hc har lk hst hnb hm (h6 c) hl) hw,(fun D hD=>by cases hD),htie,(fun h=>by cases h),hg⟩
theorem lA:laidOutB Tryz.pinned.checked.prog=true:=eH
theorem eN:mapsRowed Tryz.pinned.checked.prog=true:=by kernel_rfl
theorem m8:Tryz.pinned.checked.prog.plainKeys=Rows.streamedUptoRow.plainKeys:=by kernel_rfl
theorem nF:Tryz.pinned.checked.prog.stopsHeard=true:=by kernel_rfl
theorem zV:Tryz.pinned.checked.prog.mayEnter=true:=by kernel_rfl
theorem m5:Tryz.pinned.checked.prog.liftsFinal=Rows.streamedUptoRow.lifted:=by kernel_rfl
def DK(c:AF):Prop:=c.closed=0→c.said=false
theorem DK.write{c:AF}(h:DK c)(k:Int)(xs:List UInt8):DK (c.write k xs).2:=by
 unfold AF.write;split<;>exact h
theorem DK.finish{c:AF}(h:DK c)(k:Int):DK (c.finish k).2:=by
 unfold AF.finish;split<;>exact h
theorem DK.giveUp{c:AF}(h:DK c)(k:Int)(x:Nat):DK (c.giveUp k x).2:=by
 unfold AF.giveUp;split
 ·exact h
 split<;>exact h
theorem DK.tick{c:AF}(h:DK c):DK c.tick:=by
 unfold AF.tick;split<;>exact h
theorem DK.take{c:AF}(h:DK c)(f:AU):DK (c.take f).2:=by
 unfold AF.take AF.B0;split
 ·split<;>exact h
 split
 ·split<;>exact h
 split
 ·exact h
 split<;>exact h
theorem DK.BT:∀(fs:List AU) {c:AF},DK c→DK (c.BT fs).2
 |[],c,h=>h
 |f::fs,c,h=>by
  rw [AF.BT];split
  ·rename_i e;exact fun x=>absurd x e
  ·exact DK.BT fs (h.take f)
theorem DK.A5{c:AF}(h:DK c)(p:List UInt8):DK (c.A5 p).2:=by
 unfold AF.A5;split
 ·exact h
 split
 ·exact h
 split
 ·exact h
 split
 ·exact fun x=>absurd (show(5:Nat)=0 from x) Cc
 split
 ·exact h
 ·exact DK.BT _ h
theorem DK.read{c:AF}(h:DK c)(k AL:Int):DK (c.read k AL).2:=by
 unfold AF.read;split
 ·exact h
 dsimp only;split<;>exact h
theorem Sq:∀(m:Nat) (z:BP),(DM m z).c.closed=z.c.closed∧(DM m z).c.said=z.c.said
 |0,z=>BW
 |m+1,z=>by
  rw [DM];split
  ·exact BW
  ·exact Sq m z.step
theorem DK.A3{c:AF}(h:DK c):DK c.A3.2:=by
 unfold AF.A3;split
 ·rename_i e;unfold AF.Fm;split
  ·exact h
  ·exact fun x=>absurd x e
 ·dsimp only;intro x;rw [(Sq 40 _).1]at x;rw [(Sq 40 _).2];exact h x
def QN(n:AN):Prop:=∀i,DK (n.x i)
theorem QN.Aq{n:AN}(h:QN n)(i:Nat){c:AF}(hc:DK c):QN (n.Aq i c):=fun j=>by
 unfold AN.x AN.Aq;rw [CY];split
 ·exact hc
 ·exact h j
theorem QN.CR{i:Nat}:∀(m k:Nat) {n:AN},QN n→QN (CR i k m n).2
 |0,k,n,h=>h
 |m+1,k,n,h=>by
  rw [Go.Proofs.YtgfdlpcdjklcoaaGreatDoor.CR];split
  ·exact h
  ·exact QN.CR m (k+1) h
theorem QN.GY{i:Nat}:∀(ps:List (List UInt8)) {n:AN},QN n→QN (GY i ps n).2
 |[],n,h=>h
 |p::ps,n,h=>by
  rw [Go.Proofs.YtgfdlpcdjklcoaaGreatDoor.GY];split
  ·exact h
  split
  ·exact h
  ·exact QN.GY ps h
theorem QN.wr{n:AN}(h:QN n)(i k:Nat)(s:ByteArray):QN (n.wr i k s).2:=by
 unfold AN.wr;dsimp only;have h1:=h.Aq i ((h i).write k s.data.toList);split
 ·exact h1
 split
 ·exact QN.CR 4 0 h1
 ·exact QN.CR 4 0 h1
theorem QN.fin{n:AN}(h:QN n)(i k:Nat):QN (n.fin i k).2:=by
 unfold AN.fin;dsimp only;have h1:=h.Aq i ((h i).finish k);split<;>exact h1
theorem QN.CL{n:AN}(h:QN n)(i k c:Nat):QN (n.CL i k c).2:=by
 unfold AN.CL;dsimp only;have h1:=h.Aq i ((h i).giveUp k c);split<;>exact h1
theorem QN.tick{n:AN}(h:QN n):QN n.tick:=(h.Aq 0 (h 0).tick).Aq 1 (h 1).tick
theorem QN.flush{n:AN}(h:QN n)(i:Nat):QN (n.flush i).2:=QN.GY _ (h.Aq i (h i).A3)
theorem QN.comes{n:AN}(h:QN n)(i:Nat)(b:ByteArray):QN (n.comes i b).2:=QN.CR 4 0 (h.Aq i ((h i).A5 _))
theorem QN.Do{n:AN}(h:QN n)(i:Nat)(b:List UInt8):QN (n.Do i b).2:=by
 unfold AN.Do;split
 ·exact h
 ·exact h.Aq i ((h i).A5 _)
theorem QN.carry{n:AN}(h:QN n)(s:DL):QN (n.carry s).2:=by
 unfold AN.carry;split
 ·exact h
 dsimp only;split
 ·exact h.comes _ _
 split
 ·exact h.Do _ _
 split
 ·exact h.Do _ _
 ·exact h
theorem QN.read{n:AN}(h:QN n)(i k AL:Nat):QN (n.read i k AL).2:=by
 have h1:=h.Aq i ((h i).read (k:Nat) (AL:Nat));unfold AN.read;dsimp only;split
 ·exact h1
 split
 ·exact h1
 split
 ·exact h1
 split<;>exact h1
theorem QN.step{n:AN}(h:QN n)(s:DL):QN (n.step s).2:=by
 unfold AN.step;split
 ·exact h.wr _ _ _
 split
 ·exact h.fin _ _
 split
 ·exact h.CL _ _ _
 split
 ·exact h.tick
 split
 ·exact h.flush _
 split
 ·exact h.read _ _ _
 split
 ·exact h.Do _ _
 ·exact h.carry s
theorem QN.run(w:Int):∀(l:List DL) {n n':AN},QN n→AN.run w l n=some n'→QN n'
 |[],n,n',h,e=>by cases e;exact h
 |s::l,n,n',h,e=>by
  rw [AN.run]at e;split at e
  ·exact QN.run w l h e
  split at e
  ·exact QN.run w l (h.step s) e
  ·cases e
theorem QN.new(AI AG:Nat):QN (.new AI AG):=fun i=>by
 match i with
 |0=>exact fun _=>rfl
 |1=>exact fun _=>rfl
 |i+2=>exact fun _=>rfl
def AF.gone(c:AF)(x:Nat):AF:={c with closed:=9,code:=x}
theorem uR{c:AF}(h:c.closed=0){x:Nat}(hx:x<1000):c.close x=(0,c.gone x):=by
 unfold AF.close;rw [if_neg Ca,if_neg Ca];rfl
theorem qB{c:AF}(h:c.said=false)(x:Nat):(c.gone x).A3=(outs c.ks (Af c.first) c.next [[Bn x]],{c.gone x with said:=true,next:=c.next+1}):=by
 unfold AF.A3;rw [if_pos (show(c.gone x).closed≠0 from show(9:Nat)≠0 by decide)];unfold AF.Fm;rw [if_neg (show ¬(c.gone x).said=true by rw [show(c.gone x).said=c.said from rfl,h];decide)];show([Bc c.ks (Af c.first) (J? c.next) (Ah (Bn x))],_)=([Bc c.ks (Af c.first) (J? c.next) (Ap [Bn x])],_);rw [show Ap [Bn x]=Ah (Bn x)from N_ _];rfl
theorem yT{c:AF}(h:c.closed≠0)(hs:c.said=true):c.A3=([],c):=by
 unfold AF.A3;rw [if_pos h];unfold AF.Fm;rw [if_pos hs]
theorem Y9(x:Nat):(Ap [Bn x]).length≤9:=by
 rw [show Ap [Bn x]=Ah (Bn x)from N_ _];show([28]++AV x).length≤9;rw [J!]
 have:=CS x
 simp only [K!];omega
def AF.left(c:AF)(m:Nat):AF:={c with AP:=c.AP.add m m,closed:=10,code:=10,said:=true}
theorem fV{t u:Nat}{c d:AF}{L L':List (List AU)}{R R':Nat→Prop}(h:Bo c d L L' R R')(hc:AZ t c)(hd:AZ u d)(g:Fj d L.length R)(hu:t≤1000000000){x:Nat}(hx:x<1000):
  d.A5 (Bc c.ks (Af c.first) (J? c.next) (Ap [Bn x]))=((10,-1),d.left c.next):=by
 have hnx:=hc.nx
 have hn:c.next≤4611686018427387903:=by omega
 have ho:Bz d.ks (Af (!d.first)) (Bc c.ks (Af c.first) (J? c.next) (Ap [Bn x]))=some (J? c.next,Ap [Bn x]):=by
  rw [←h.ks,h.first,Bool.not_not];exact Pa _ _ _ _ (by rw [I6 hn];exact hn) (by have:=Y9 x;omega)
 have hdec:FL (Ap [Bn x])=.ok [Bn x]:=by
  have he:GN [Bn x]=some (Ap [Bn x]):=by
   unfold GN;rw [if_pos ⟨Cg,fun f hf=>by simp at hf;rw [hf];exact VP Ca⟩]
  have:=(Xp he (fun f hf=>by simp at hf;rw [hf];show(0:Nat)≤_;omega)).1
  exact this
 have hh:¬d.AP.has c.next:=by
  rintro(hf|hf)
  ·have:=g.fl;rw [h.s.len]at this;omega
  ·have:=h.p.num _ (g.AP _ hf);rw [h.s.len]at this;omega
 unfold AF.A5;rw [if_neg (by have:=h.o';omega),ho];dsimp only;rw [I6 hn,if_neg hh,hdec];dsimp only;rw [if_neg (by rintro⟨f,hf,hb⟩;simp at hf;rw [hf]at hb;exact absurd (show(6:Int)=5 from hb.1) Cc)];rfl
structure FK(c:AF)(e:Nat):Prop where
 closed:c.closed=e
 ne:e≠0
 said:c.said=true
theorem FK.A3{c:AF}{e:Nat}(h:FK c e):c.A3=([],c):=yT (by rw [h.closed];exact h.ne) h.said
theorem FK.stream{c:AF}{e:Nat}(h:FK c e)(k:Int):c.stream k=9:=by
 unfold AF.stream;rw [if_pos (by rw [h.closed];exact h.ne)]
theorem FK.write{c:AF}{e:Nat}(h:FK c e)(k:Int)(xs:List UInt8):c.write k xs=((0,9),c):=by
 have h1:c.Dt k=9:=by unfold AF.Dt;rw [h.stream,if_pos Cc]
 unfold AF.write;rw [h1,if_pos Cc]
theorem FK.read{c:AF}{e:Nat}(h:FK c e)(k AL:Int):c.read k AL=(([],0,0,9),c):=by
 unfold AF.read;rw [h.stream,if_pos Cc]
theorem FK.flush{n:AN}{i e:Nat}(h:FK (n.x i) e)(hi:i<n.xs.length):n.flush i=(true,n):=by
 unfold AN.flush;rw [h.A3];show(true,n.Aq i (n.x i))=_;rw [YU hi]
theorem FK.Jj{t:Nat}{n:AN}{i e:Nat}(h:FK (n.x i) e)(hl:Hc n)(hc:AZ t (n.x i))(hm:n.AI≤300)(hb:n.cnt i≤4611686018427387903)(hg:n.AJ.length<90000000)(hk:n.ks.length=16):Iw t n i []:=
 ⟨hl,hc,by rw [h.A3];rfl,hm,hb,(fun _ h=>nomatch h),hg,hk⟩
structure SJ(t:Nat)(n:AN)(x:Nat)(m:AN)(p:List UInt8):Prop where
 close:(n.x 0).close x=(0,(n.x 0).gone x)
 ok:Iw (t+1) (n.Aq 0 ((n.x 0).gone x)) 0 [[Bn x]]
 fl:(n.Aq 0 ((n.x 0).gone x)).flush 0=(true,m)
 len:Hc m
 c0:AZ (t+2) (m.x 0)
 o0:FK (m.x 0) 9
 x1:m.x 1=n.x 1
 AJ:m.AJ=n.AJ++[(1,AX p)]
 pl:p.length≤300
 recv:(n.x 1).A5 p=((10,-1),(n.x 1).left (n.x 0).next)
 c1:AZ (t+2) ((n.x 1).left (n.x 0).next)
 o1:FK ((n.x 1).left (n.x 0).next) 10
 AI:m.AI≤300
 cnt:∀i,i<2→m.cnt i≤4611686018427387903
 bl:m.AJ.length<90000000
 ks:m.ks.length=16
theorem Al.IS{t:Nat}{n:AN}{L:Nat→List (List AU)}{R:Nat→Nat→Prop}(h:Al t n L R Bb)(q:QN n)(ht:t≤1000000){x:Nat}(hx:x<1000):∃m p,SJ t n x m p:=by
 have h2:=h.at (i:=0) Ca;have hc:=h.c 0 Ca;have hd:=h.c 1 Ca;have ho:(n.x 0).closed=0:=h2.o;have hs:=q 0 ho;have hk:=h.ks 0 Ca
 have hf:=h.first 0 Ca
 have hcl:=uR ho hx
 have hcg:AZ (t+1) ((n.x 0).gone x):=by
  have:=(hc.close x).mono ET
  rw [hcl]at this;exact this
 have hl:=h.len;have hm2:=hc.m2;rw [h.AI 0 Ca]at hm2;have h0:=hc.nx;have h1:=hd.nx;have l0:=h2.s.len;have l1:=(h.at (i:=1) Ca).s.len;have hb:=h.bl
 have hx0:(n.Aq 0 ((n.x 0).gone x)).x 0=(n.x 0).gone x:=by rw [KL n 0 0 _ h.xl Ca,if_pos rfl]
 have hc0:=h.cnt 0 Ca;have hc1:=h.cnt 1 Ca;have l0:(L 0).length=(n.x 0).next:=l0;have l1:(L 1).length=(n.x 1).next:=l1;have hp:=qB hs x;have hle:=Y9 x;have hm1:=hc.m1;rw [h.AI 0 Ca]at hm1
 have hok:Iw (t+1) (n.Aq 0 ((n.x 0).gone x)) 0 [[Bn x]]:=by
  refine⟨hl.Aq _ _,by rw [hx0];exact hcg,?_,hm2,?_,?_,?_,by show n.ks.length=16;rw [←hk];exact hc.ks⟩
  ·rw [hx0,hp,hk,hf];show outs n.ks _ (n.x 0).next _=outs n.ks _ (n.cnt 0) _;rw [hc0,l0]
  ·show n.cnt 0+1≤_;omega
  ·intro fs hfs;rw [L!.1 hfs];exact⟨Cg,by show _≤n.AI;omega⟩
  ·show n.AJ.length+1<_;omega
 obtain⟨-,-,hpl,hat⟩:=hok.begin.step hok Ca (fs:=[Bn x]) rfl rfl;have hdone:=hat.done
 have hxm:((n.Aq 0 ((n.x 0).gone x)).Aq 0 ((n.Aq 0 ((n.x 0).gone x)).x 0).A3.2).x 0={(n.x 0).gone x with said:=true,next:=(n.x 0).next+1}:=by
  rw [KL _ 0 0 _ (hl.Aq _ _).xl Ca,if_pos rfl,hx0,hp]
 have hr:=fV h2 hc hd (h.g 1 Ca) (by omega:t≤1000000000) hx
 have hcnt9:(n.Aq 0 ((n.x 0).gone x)).cnt 0+0=(n.x 0).next:=by show n.cnt 0+0=_;omega
 have hpe:Bc (n.Aq 0 ((n.x 0).gone x)).ks (Af (decide ((0:Nat)=0))) (J? ((n.Aq 0 ((n.x 0).gone x)).cnt 0+0)) (Ap [Bn x])=Bc (n.x 0).ks (Af (n.x 0).first) (J? (n.x 0).next) (Ap [Bn x]):=by
  rw [hcnt9,hk,hf];rfl
 refine⟨_,_,hcl,hok,hdone.symm,hat.len,?_,?_,?_,rfl,?_,?_,?_,⟨rfl,Cc,rfl⟩,hm2,?_,?_,?_⟩
 ·have:=hcg.A3
  rw [hp]at this;refine Eq.mp ?_ this;congr 1;exact hxm.symm
 ·refine Eq.mpr (congrArg (fun c=>FK c 9) hxm) ⟨rfl,Cc,rfl⟩
 ·show((n.xs.set 0 _).set 0 _).getD 1 QU=_;rw [CY,if_neg Ca,CY,if_neg Ca];rfl
 ·have:(n.Aq 0 ((n.x 0).gone x)).AI=n.AI:=rfl
  omega
 ·rw [hpe];exact hr
 ·have:=(hd.Bv ⟨6,0,0,0,AX (Bc (n.x 0).ks (Af (n.x 0).first) (J? (n.x 0).next) (Ap [Bn x]))⟩).mono (show t+1≤t+2 by omega)
  have e:((n.x 1).Bv ⟨6,0,0,0,AX (Bc (n.x 0).ks (Af (n.x 0).first) (J? (n.x 0).next) (Ap [Bn x]))⟩).2=((n.x 1).A5 (AX (Bc (n.x 0).ks (Af (n.x 0).first) (J? (n.x 0).next) (Ap [Bn x]))).data.toList).2:=rfl;rw [e,show(AX (Bc (n.x 0).ks (Af (n.x 0).first) (J? (n.x 0).next) (Ap [Bn x]))).data.toList=_ from List.toList_toArray,hr]at this;exact this
 ·intro i hi;rcases IE hi with rfl|rfl
  ·show(n.count.set 0 _).getD 0 0≤_;rw [CY,if_pos ⟨rfl,by rw [h.cl];omega⟩]
   have:(n.Aq 0 ((n.x 0).gone x)).cnt 0=n.cnt 0:=rfl
   omega
  ·show(n.count.set 0 _).getD 1 0≤_;rw [CY,if_neg Ca];show n.cnt 1≤_;omega
 ·show(n.AJ++_).length<_;rw [J!,K!];omega
 ·show n.ks.length=16;rw [←hk];exact hc.ks
section
variable{B:World}
theorem d5(c:AF)(x:Nat):c.Bv ⟨8,0,0,x,⟨#[]⟩⟩=(⟨(c.close x).1,-1,0,0,⟨#[]⟩,[]⟩,(c.close x).2):=rfl
structure H2(t:Nat)(n:AN)(from_:Nat):Prop where
 len:Hc n
 c0:AZ t (n.x 0)
 o0:FK (n.x 0) 9
 AI:n.AI≤300
 cnt:∀i,i<2→n.cnt i≤4611686018427387903
 bl:n.AJ.length<90000000
 ks:n.ks.length=16
 AJ:n.AJ.length=from_+1
theorem H2.Jj{t:Nat}{n:AN}{k:Nat}(h:H2 t n k):Iw t n 0 []:=h.o0.Jj h.len h.c0 h.AI (h.cnt 0 Ca) h.bl h.ks
theorem SJ.gone{t:Nat}{n m:AN}{x:Nat}{p:List UInt8}(h:SJ t n x m p):H2 (t+2) m n.AJ.length:=
 ⟨h.len,h.c0,h.o0,h.AI,h.cnt,h.bl,h.ks,by rw [h.AJ,J!];rfl⟩
theorem H2.qW{t k:Nat}{n:AN}(h:H2 t n k)(c:AF):H2 t (n.Aq 1 c) k:=by
 have e:(n.Aq 1 c).x 0=n.x 0:=by rw [KL n 1 0 _ h.len.xl Ca,if_neg Ca]
 exact⟨h.len.Aq _ _,by rw [e];exact h.c0,by rw [e];exact h.o0,h.AI,h.cnt,h.bl,h.ks,h.AJ⟩
set_option maxHeartbeats 16000000 in
theorem fB(hG:B.cell? ⟨0,0,none⟩=some (CZ 106))(l:List DL)(AI AG code:Int)(cm:Bool)(hmtu:HU AI)(hwin:HU AG)(hcode:HU code)(p:Option Addr)(b o c:Nat)(H:HP)(hs:Sl p b o l.length c)(hr:Ad B H b o l)(hl:l.length<2000000)(hst:∀s∈l,KX s):
  Fn Tryz.prog B 9 [.slice p l.length c,.int .i64 AI,.int .i64 AG,.int .i64 code,.bool cm] H (fun v H'=>v=.bool true∧H'=H):=by
 refine mI Tryz.func9 ?_;refine J8 ?_;refine mE rfl (lC l p b o c _ hs hr hl (fun s h=>(hst s h).s)) ?_;rintro _ H10 ⟨bb,rfl,hbb,h10⟩;rw [h10];refine J5 ?_;refine mE rfl (gO hG _) ?_;rintro _ H11 ⟨rfl,h11⟩;rw [h11];refine J7 ?_;refine KG ?_;refine J1 ?_;refine DO 25 rfl (fun hg1=>?_) (fun hg1=>?_)
 ·refine Hw ?_;refine Po ?_;refine J8 ?_;exact mR [10] H rfl rfl BW
 have hb1:bb=true:=by cases bb;cases hg1;rfl
 have hl8:=hbb hb1;refine LO ?_;refine JL Kx ?_;refine JL Ia ?_;refine Gi ?_;refine J7 ?_;refine mE rfl (kD hG l 0 AI AG hmtu hwin p b o c _ hs hr hl8 hst) ?_;rintro _ _ ⟨nb,w,rfl,hok,hk,hrun,rfl⟩;obtain⟨L,R,hw⟩:=hk;have hX:(AK code 1000)<1000:=FF _ Ca;have hq:QN w.n:=QN.run 0 l (QN.new _ _) hrun;obtain⟨m,pb,hby⟩:=hw.IS hq Ca hX;obtain⟨C,r,E,hC,hr2,hE,l1,l2,l3⟩:=hw.mem (i:=0) (j:=0) (k:=0) Ca Ca Ca;have hx0:w.n.x 0=C.c.s:=NM.EO hC;have hc0:=hw.c 0 Ca;have hcl:=hby.close;rw [hx0]at hc0 hcl;refine Bt ?_;refine JL Kx ?_;refine Gi ?_;refine J3 ?_;refine ZD ?_;refine CO (α:=Nat×NM×A1) (fun z=>[(14,ptr z.1 0),(13,ptr nb 0),(4,.bool cm)]) (fun z=>Av nb z.2.1*(HP.AA z.1 0 (BG ⟨0,-1,0,0,⟨#[]⟩,[]⟩ (.slice z.2.2.p 0 z.2.2.c))*(z.2.2.h ([]:List ByteArray)*H))) (fun z=>z.2.1.ok∧z.2.1.n=w.n.Aq 0 ((w.n.x 0).gone (AK code 1000))) ?_ ?_
 ·refine ZD ?_;refine Dx ((At nb w.x*(AB w.xa.b w.xa.o w.cs w.xa.s*(AB w.ea.b w.ea.o w.rows w.ea.s*(AB w.ba.b w.ba.o w.AJ w.ba.s*(AB w.ca.b w.ca.o w.cnt w.ca.s*(AB r.a.b r.a.o r.es r.a.s*(A7 E.q E.o*(B2 w 0 0 0 r*(H)))))))))) 12 13 Dy rfl Cb ?_;refine FX ?_;refine Mv ?_;refine I3 ?_;refine JT 3 rfl Pm ?_;refine JT 4 rfl Vd ?_;refine JT 5 rfl R8 ?_;refine Jm 6 ?_;refine Q5 7 11 Cb rfl rfl rfl rfl rfl rfl rfl rfl aM GE ?_ ?_
  ·refine Ev ?_;refine JT 8 rfl FD ?_;refine JT 9 rfl ZA ?_;refine Q5 10 11 Cb rfl rfl rfl rfl rfl rfl rfl rfl RT GE ?_ ?_
   ·rintro _ _ ⟨m2,ps,hm2,hs2,hps,rfl,rfl⟩;dsimp only at hs2 hps⊢;refine A6 ?_;refine Am 11 Cb rfl rfl GE ?_;rintro _ _ ⟨b14,rfl,rfl⟩;refine S' ?_;exact TD
   rintro _ _ ⟨b14,rfl,rfl⟩;refine A6 ?_
   first|refine EI (H':=AT C.cb C.c*(HP.AA b14 0 [.int .i64 0,.int .i64 0,.int .i64 0,.int .u64 0,.string ⟨#[]⟩,.slice none 0 0]*((At nb w.x*(AB w.xa.b w.xa.o w.cs w.xa.s*(AB w.ea.b w.ea.o w.rows w.ea.s*(AB w.ba.b w.ba.o w.AJ w.ba.s*(AB w.ca.b w.ca.o w.cnt w.ca.s*(AB r.a.b r.a.o r.es r.a.s*(A7 E.q E.o*(B2 w 0 0 0 r*(H)))))))))))) Cf ?_|skip
   refine Am 10 Cb rfl rfl RT ?_;rintro _ _ ⟨m2,ps,hm2,hs2,hps,rfl,rfl⟩;dsimp only at hs2 hps⊢;refine S' ?_;exact TD
  rintro _ _ ⟨b14,rfl,rfl⟩;refine A6 ?_;refine Am 7 Cb rfl rfl aM ?_;refine Ev ?_;refine JT 8 rfl FD ?_;refine JT 9 rfl ZA ?_
  first|refine EI (H':=AT C.cb C.c*(HP.AA b14 0 [.int .i64 0,.int .i64 0,.int .i64 0,.int .u64 0,.string ⟨#[]⟩,.slice none 0 0]*((At nb w.x*(AB w.xa.b w.xa.o w.cs w.xa.s*(AB w.ea.b w.ea.o w.rows w.ea.s*(AB w.ba.b w.ba.o w.AJ w.ba.s*(AB w.ca.b w.ca.o w.cnt w.ca.s*(AB r.a.b r.a.o r.es r.a.s*(A7 E.q E.o*(B2 w 0 0 0 r*(H)))))))))))) Cf ?_|skip
  refine Am 10 Cb rfl rfl RT ?_;rintro _ _ ⟨m2,ps,hm2,hs2,hps,rfl,rfl⟩;dsimp only at hs2 hps⊢;refine S' ?_;exact TD
 ·rintro⟨b14,w1,ps⟩ ⟨hok1,hn1⟩;dsimp only at hok1 hn1⊢;refine J2 ?_
  have hbl:w1.AJ.length=w.n.AJ.length:=by
   have e:w1.n.AJ.length=w1.AJ.length:=K_ ..;rw [←e,hn1];rfl
  refine Ai (H':=At nb w1.x*(AB w1.xa.b w1.xa.o w1.cs w1.xa.s*(AB w1.ea.b w1.ea.o w1.rows w1.ea.s*(AB w1.ba.b w1.ba.o w1.AJ w1.ba.s*(AB w1.ca.b w1.ca.o w1.cnt w1.ca.s*(AO CJ w1.cs*(AO CK w1.rows*(HP.AA b14 0 (BG ⟨0,-1,0,0,⟨#[]⟩,[]⟩ (.slice ps.p 0 ps.c))*(ps.h ([]:List ByteArray)*H))))))))) (Em nb w1 _) ?_;refine J4 ?_;refine JL (Ay Dn hok1.bv) ?_;refine J5 ?_;refine Ai (H':=Av nb w1*(HP.AA b14 0 (BG ⟨0,-1,0,0,⟨#[]⟩,[]⟩ (.slice ps.p 0 ps.c))*(ps.h ([]:List ByteArray)*H))) (Em nb w1 _).symm ?_;refine J2 ?_;refine mE rfl (M5 hG nb (l.length+1) 0 w1 [[Bn (AK code 1000)]] _ hok1 (by rw [hn1];exact hby.ok) Ca Ca) ?_;rintro _ _ ⟨rfl,w2,hok2,hn2,rfl⟩
  have hn2:w2.n=m:=by rw [hn2,hn1,hby.fl]
  have hg2:H2 (l.length+2) w2.n w1.AJ.length:=by rw [hn2,hbl];exact hby.gone
  have hb2:w2.AJ.length=w1.AJ.length+1:=by have e:w2.n.AJ.length=w2.AJ.length:=K_ ..;rw [←e];exact hg2.AJ
  have hbm:w2.AJ.length<90000000:=by have e:w2.n.AJ.length=w2.AJ.length:=K_ ..;rw [←e];exact hg2.bl
  refine J5 ?_;refine Ai (H':=At nb w2.x*(AB w2.xa.b w2.xa.o w2.cs w2.xa.s*(AB w2.ea.b w2.ea.o w2.rows w2.ea.s*(AB w2.ba.b w2.ba.o w2.AJ w2.ba.s*(AB w2.ca.b w2.ca.o w2.cnt w2.ca.s*(AO CJ w2.cs*(AO CK w2.rows*(HP.AA b14 0 (BG ⟨0,-1,0,0,⟨#[]⟩,[]⟩ (.slice ps.p 0 ps.c))*(ps.h ([]:List ByteArray)*H))))))))) (Em nb w2 _) ?_;refine J3 ?_;refine JL Pk ?_;refine FO ?_;refine JL Kx ?_;refine JL Dh ?_;refine FO ?_;refine FO ?_;refine JL Xk ?_;refine FJ ?_;refine FO ?_;refine JL YL ?_;refine FJ ?_;refine JL (Ay (v':=.bool false) (FE (i:=w2.AJ.length) (j:=w1.AJ.length+1) rfl rfl) (by rw [decide_eq_false (fun x=>x hb2)])) ?_;refine JL Dh ?_;refine Gi ?_;refine J8 ?_;refine CO (α:=NM×HP) (fun z=>[(15,iN w1.AJ.length),(13,ptr nb 0)]) (fun z=>Av nb z.1*(z.2*H)) (fun z=>z.1.ok∧H2 (l.length+2) z.1.n w1.AJ.length) ?_ ?_
  ·refine mc (fun hcm=>?_) (fun hcm=>?_)
   ·obtain⟨C1,r1,E1,hC1,hr1,hE1,l4,l5,_,_⟩:=hg2.len.mem (i:=1) (j:=0) (k:=0) Ca Ca Ca
    have hx1:C1.c.s=w.n.x 1:=by rw [←NM.EO hC1,hn2];exact hby.x1
    have hc1:AZ (l.length+2) C1.c.s:=by rw [hx1];exact(hw.c 1 Ca).mono Ca
    have hrv:=hby.recv;rw [←hx1]at hrv
    have hF:∃F,w2.AJ[w1.AJ.length]?=some F∧F.b=AX pb:=by
     obtain⟨F,hF⟩:=Ha rfl (show w1.AJ.length<w2.AJ.length by omega);refine⟨F,hF,?_⟩
     have e:w2.n.AJ[w1.AJ.length]?=some (F.to,F.b):=by show(w2.AJ.map (fun f=>(f.to,f.b)))[_]?=_;rw [List.getElem?_map,hF];rfl
     rw [hn2,hby.AJ,hbl,List.getElem?_append_right DH,Nat.sub_self]at e;exact(congrArg (fun z=>(z.getD (0,⟨#[]⟩)).2) e).symm
    obtain⟨F,hF,hFb⟩:=hF;refine J1 ?_;refine Uq ?_;refine CO (α:=Nat×NM×A1) (fun z=>[(16,ptr z.1 0),(15,iN w1.AJ.length),(13,ptr nb 0)]) (fun z=>Av nb z.2.1*(HP.AA z.1 0 (BG ⟨10,-1,0,0,⟨#[]⟩,[]⟩ (.slice z.2.2.p 0 z.2.2.c))*(z.2.2.h ([]:List ByteArray)*(HP.AA b14 0 (BG ⟨0,-1,0,0,⟨#[]⟩,[]⟩ (.slice ps.p 0 ps.c))*(ps.h ([]:List ByteArray)*H))))) (fun z=>z.2.1.ok∧z.2.1.n=w2.n.Aq 1 (C1.c.s.left (w.n.x 0).next)) ?_ ?_
    ·refine Uq ?_;refine Dx ((At nb w2.x*(AB w2.xa.b w2.xa.o w2.cs w2.xa.s*(AB w2.ea.b w2.ea.o w2.rows w2.ea.s*(AB w2.ba.b w2.ba.o w2.AJ w2.ba.s*(AB w2.ca.b w2.ca.o w2.cnt w2.ca.s*(AB r1.a.b r1.a.o r1.es r1.a.s*(A7 E1.q E1.o*(B2 w2 1 0 0 r1*(HP.AA b14 0 (BG ⟨0,-1,0,0,⟨#[]⟩,[]⟩ (.slice ps.p 0 ps.c))*(ps.h ([]:List ByteArray)*H))))))))))) 17 18 Dy rfl Cb ?_;refine FX ?_;refine Mv ?_;refine I3 ?_;refine JT 3 rfl (Ay Dn hok2.xv) ?_;refine JT 4 rfl (CU (i:=1) rfl rfl hok2.xa.1 Ca) ?_
     refine JT 5 rfl (D8 (f:=0) (xs:=w2.cs) (v:=ptr C1.cb 0) rfl inferInstance (by rw [getD_some hC1];rfl) Ca) ?_;refine Kp ?_;refine Jf 8 ?_;refine JT 9 rfl Xk ?_;refine Jm 10 ?_;refine JT 11 rfl (CU (i:=w1.AJ.length) rfl rfl hok2.ba.1 Ca) ?_;refine Jf 12 ?_;refine JT 13 rfl (D8 (f:=1) (xs:=w2.AJ) (v:=.string (AX pb)) rfl inferInstance (by rw [getD_some hF,←hFb];rfl) Ca) ?_;refine JT 14 rfl (Ay (v':=.agg (DT ⟨6,0,0,0,AX pb⟩).toArray) Ey rfl) ?_;refine Q5 15 16 Cb rfl rfl rfl rfl rfl rfl rfl rfl YT GE ?_ ?_
     ·rintro _ _ ⟨m3,pt,hm3,hs3,hpt,rfl,rfl⟩;dsimp only at hs3 hpt⊢;refine A6 ?_;refine Am 16 Cb rfl rfl GE ?_;rintro _ _ ⟨b16,rfl,rfl⟩;refine A6 ?_;refine DV 17 Cb rfl XX ?_;refine DB ?_;exact bO
     rintro _ _ ⟨b16,rfl,rfl⟩;refine A6 ?_
     first|refine EI (H':=AT C1.cb C1.c*(HP.AA b16 0 [.int .i64 0,.int .i64 0,.int .i64 0,.int .u64 0,.string ⟨#[]⟩,.slice none 0 0]*((At nb w2.x*(AB w2.xa.b w2.xa.o w2.cs w2.xa.s*(AB w2.ea.b w2.ea.o w2.rows w2.ea.s*(AB w2.ba.b w2.ba.o w2.AJ w2.ba.s*(AB w2.ca.b w2.ca.o w2.cnt w2.ca.s*(AB r1.a.b r1.a.o r1.es r1.a.s*(A7 E1.q E1.o*(B2 w2 1 0 0 r1*(HP.AA b14 0 (BG ⟨0,-1,0,0,⟨#[]⟩,[]⟩ (.slice ps.p 0 ps.c))*(ps.h ([]:List ByteArray)*H))))))))))))) Cf ?_|skip
     refine Am 15 Cb rfl rfl YT ?_;rintro _ _ ⟨m3,pt,hm3,hs3,hpt,rfl,rfl⟩;dsimp only at hs3 hpt⊢;refine A6 ?_;refine DV 17 Cb rfl XX ?_;refine DB ?_;exact bO
    ·rintro⟨b16,w3,pt⟩ ⟨hok3,hn3⟩;dsimp only at hok3 hn3⊢
     have hg3:H2 (l.length+2) w3.n w1.AJ.length:=by rw [hn3];exact hg2.qW _
     have hx3:w3.n.x 1=(C1.c.s.left (w.n.x 0).next):=by rw [hn3,KL _ 1 1 _ hg2.len.xl Ca,if_pos rfl]
     have ho3:FK (w3.n.x 1) 10:=by rw [hx3,hx1];exact hby.o1
     have hc3:AZ (l.length+2) (w3.n.x 1):=by rw [hx3,hx1];exact hby.c1
     obtain⟨C3,r3,E3,hC3,hr3,hE3,l7,l8,_,_⟩:=hg3.len.mem (i:=1) (j:=0) (k:=0) Ca Ca Ca;refine J2 ?_;refine Ai (H':=At nb w3.x*(AB w3.xa.b w3.xa.o w3.cs w3.xa.s*(AB w3.ea.b w3.ea.o w3.rows w3.ea.s*(AB w3.ba.b w3.ba.o w3.AJ w3.ba.s*(AB w3.ca.b w3.ca.o w3.cnt w3.ca.s*(AT C3.cb C3.c*(AB r3.a.b r3.a.o r3.es r3.a.s*(A7 E3.q E3.o*(B2 w3 1 0 0 r3*(HP.AA b16 0 (BG ⟨10,-1,0,0,⟨#[]⟩,[]⟩ (.slice pt.p 0 pt.c))*(pt.h ([]:List ByteArray)*(HP.AA b14 0 (BG ⟨0,-1,0,0,⟨#[]⟩,[]⟩ (.slice ps.p 0 ps.c))*(ps.h ([]:List ByteArray)*H))))))))))))) (Ej nb w3 _ hC3 hr3 hE3) ?_;refine J4 ?_;refine JL (Ay Dn hok3.xv) ?_;refine JL (CU (i:=1) rfl rfl hok3.xa.1 Ca) ?_;refine JL (D8 (f:=0) (xs:=w3.cs) (v:=ptr C3.cb 0) rfl inferInstance (by rw [getD_some hC3];rfl) Ca) ?_;refine A9 (H':=AT C3.cb C3.c*((At nb w3.x*(AB w3.xa.b w3.xa.o w3.cs w3.xa.s*(AB w3.ea.b w3.ea.o w3.rows w3.ea.s*(AB w3.ba.b w3.ba.o w3.AJ w3.ba.s*(AB w3.ca.b w3.ca.o w3.cnt w3.ca.s*(AB r3.a.b r3.a.o r3.es r3.a.s*(A7 E3.q E3.o*(B2 w3 1 0 0 r3*(HP.AA b16 0 (BG ⟨10,-1,0,0,⟨#[]⟩,[]⟩ (.slice pt.p 0 pt.c))*(pt.h ([]:List ByteArray)*(HP.AA b14 0 (BG ⟨0,-1,0,0,⟨#[]⟩,[]⟩ (.slice ps.p 0 ps.c))*(ps.h ([]:List ByteArray)*H)))))))))))))) Cf ?_;refine mE rfl (WG hG C3.cb C3.c _) ?_;refine JR ?_
     have hcl3:C3.c.s.closed=10:=by rw [←NM.EO hC3];exact ho3.closed
     refine J8 ?_;refine JL (Ay (v':=.bool false) (FE (i:=10) (j:=10) rfl rfl) rfl) ?_;refine FO ?_;refine JL (Ay (v':=.bool false) (FE (i:=C3.c.s.closed) (j:=10) rfl rfl) (by rw [hcl3];rfl)) ?_;refine JL Dh ?_;refine Gi ?_;refine J3 ?_;refine Ai (H':=Av nb w3*(HP.AA b16 0 (BG ⟨10,-1,0,0,⟨#[]⟩,[]⟩ (.slice pt.p 0 pt.c))*(pt.h ([]:List ByteArray)*(HP.AA b14 0 (BG ⟨0,-1,0,0,⟨#[]⟩,[]⟩ (.slice ps.p 0 ps.c))*(ps.h ([]:List ByteArray)*H))))) (by rw [Ej nb w3 _ hC3 hr3 hE3];ac_rfl) ?_;refine J2 ?_;refine mE rfl (M5 hG nb (l.length+2) 1 w3 [] _ hok3 (ho3.Jj hg3.len hc3 hg3.AI (hg3.cnt 1 Ca) hg3.bl hg3.ks) Ca Ca) ?_;rintro _ _ ⟨rfl,w6,hok6,hn6,rfl⟩;rw [ho3.flush (by rw [hg3.len.xl];omega)]at hn6;have hn6:w6.n=w3.n:=hn6
     have hg6:H2 (l.length+2) w6.n w1.AJ.length:=by rw [hn6];exact hg3
     have ho6:FK (w6.n.x 1) 10:=by rw [hn6];exact ho3
     have hc6:AZ (l.length+2) (w6.n.x 1):=by rw [hn6];exact hc3
     obtain⟨C6,r6,E6,hC6,hr6,hE6,l9,l10,_,_⟩:=hg6.len.mem (i:=1) (j:=0) (k:=0) Ca Ca Ca;have hxc:w6.n.x 1=C6.c.s:=NM.EO hC6;rw [hxc]at ho6 hc6;refine J4 ?_;refine Ai (H':=At nb w6.x*(AB w6.xa.b w6.xa.o w6.cs w6.xa.s*(AB w6.ea.b w6.ea.o w6.rows w6.ea.s*(AB w6.ba.b w6.ba.o w6.AJ w6.ba.s*(AB w6.ca.b w6.ca.o w6.cnt w6.ca.s*(AT C6.cb C6.c*(AB r6.a.b r6.a.o r6.es r6.a.s*(A7 E6.q E6.o*(B2 w6 1 0 0 r6*(HP.AA b16 0 (BG ⟨10,-1,0,0,⟨#[]⟩,[]⟩ (.slice pt.p 0 pt.c))*(pt.h ([]:List ByteArray)*(HP.AA b14 0 (BG ⟨0,-1,0,0,⟨#[]⟩,[]⟩ (.slice ps.p 0 ps.c))*(ps.h ([]:List ByteArray)*H))))))))))))) (Ej nb w6 _ hC6 hr6 hE6) ?_;refine J4 ?_;refine JL (Ay Dn hok6.xv) ?_;refine JL (CU (i:=1) rfl rfl hok6.xa.1 Ca) ?_;refine JL (D8 (f:=0) (xs:=w6.cs) (v:=ptr C6.cb 0) rfl inferInstance (by rw [getD_some hC6];rfl) Ca) ?_;refine JL (Ay (v':=.agg (DT ⟨7,0,10,0,⟨#[]⟩⟩).toArray) Ey rfl) ?_
     refine A9 (H':=AT C6.cb C6.c*((At nb w6.x*(AB w6.xa.b w6.xa.o w6.cs w6.xa.s*(AB w6.ea.b w6.ea.o w6.rows w6.ea.s*(AB w6.ba.b w6.ba.o w6.AJ w6.ba.s*(AB w6.ca.b w6.ca.o w6.cnt w6.ca.s*(AB r6.a.b r6.a.o r6.es r6.a.s*(A7 E6.q E6.o*(B2 w6 1 0 0 r6*(HP.AA b16 0 (BG ⟨10,-1,0,0,⟨#[]⟩,[]⟩ (.slice pt.p 0 pt.c))*(pt.h ([]:List ByteArray)*(HP.AA b14 0 (BG ⟨0,-1,0,0,⟨#[]⟩,[]⟩ (.slice ps.p 0 ps.c))*(ps.h ([]:List ByteArray)*H)))))))))))))) Cf ?_;refine mE rfl (Ge hG C6.cb (l.length+2) C6.c ⟨7,0,10,0,⟨#[]⟩⟩ ⟨9,-1,0,0,⟨#[]⟩,[]⟩ C6.c.s (by rw [YD,ho6.read];rfl) _ (hok6.Ef C6 (K? hC6)) hc6 Ca Cw (by show(10:Int)<_;decide)) ?_;rintro _ _ ⟨m7,pv,hm7,hs7,hpv,rfl,rfl⟩;dsimp only at hs7 hpv⊢;refine Bi (De (cs:=BG ⟨9,-1,0,0,⟨#[]⟩,[]⟩ (.slice pv.p 0 pv.c)) rfl rfl Ch Ce) ?_;refine Il ?_;refine JL Kx ?_;refine I4 ?_;refine JL (Ay (v':=.bool false) (FE (i:=9) (j:=9) rfl rfl) rfl) ?_;refine JL Dh ?_;refine I4 ?_
     refine JL VY ?_;refine JL Dh ?_;refine Gi ?_;refine J1 ?_;refine Dg (H':=Av nb (w6.put 1 0 0 ⟨C6.cb,m7⟩ r6 ⟨E6.q,E6.o⟩)*((HP.AA b16 0 (BG ⟨9,-1,0,0,⟨#[]⟩,[]⟩ (.slice pv.p 0 pv.c))*(pv.h ([]:List ByteArray)*(pt.h ([]:List ByteArray)*(HP.AA b14 0 (BG ⟨0,-1,0,0,⟨#[]⟩,[]⟩ (.slice ps.p 0 ps.c))*ps.h ([]:List ByteArray)))))*H)) (by rw [IT nb w6 _ hC6 hr6 hE6];ac_rfl) ?_;exact A8 ((w6.put 1 0 0 ⟨C6.cb,m7⟩ r6 ⟨E6.q,E6.o⟩),HP.AA b16 0 (BG ⟨9,-1,0,0,⟨#[]⟩,[]⟩ (.slice pv.p 0 pv.c))*(pv.h ([]:List ByteArray)*(pt.h ([]:List ByteArray)*(HP.AA b14 0 (BG ⟨0,-1,0,0,⟨#[]⟩,[]⟩ (.slice ps.p 0 ps.c))*ps.h ([]:List ByteArray))))) ⟨hok6.put hC6 hr6 hE6 hm7 _,by rw [NM.Fw w6 hC6 hr6,hs7,Qn hC6];rw [show w6.n.DQ 0 0 E6.o=w6.n from H6 hr6 hE6 _];exact hg6⟩ Ut rfl
   refine J1 ?_;refine Dg (H':=Av nb w2*((HP.AA b14 0 (BG ⟨0,-1,0,0,⟨#[]⟩,[]⟩ (.slice ps.p 0 ps.c))*ps.h ([]:List ByteArray))*H)) OW ?_;exact A8 (w2,HP.AA b14 0 (BG ⟨0,-1,0,0,⟨#[]⟩,[]⟩ (.slice ps.p 0 ps.c))*ps.h ([]:List ByteArray)) ⟨hok2,hg2⟩ Ut rfl
  ·rintro⟨w5,J⟩ ⟨hok5,hg5⟩;dsimp only at hok5 hg5⊢;refine J4 ?_;refine mE rfl (M5 hG nb (l.length+2) 0 w5 [] _ hok5 hg5.Jj Ca Ca) ?_;rintro _ _ ⟨rfl,w8,hok8,hn8,rfl⟩;rw [hg5.o0.flush (by rw [hg5.len.xl];omega)]at hn8;have hn8:w8.n=w5.n:=hn8
   have hg8:H2 (l.length+2) w8.n w1.AJ.length:=by rw [hn8];exact hg5
   have ho8:=hg8.o0;have hc8:=hg8.c0;obtain⟨C8,r8,E8,hC8,hr8,hE8,l11,l12,_,_⟩:=hg8.len.mem (i:=0) (j:=0) (k:=0) Ca Ca Ca;have hxc8:w8.n.x 0=C8.c.s:=NM.EO hC8;rw [hxc8]at ho8 hc8
   have hb8:w8.AJ.length=w1.AJ.length+1:=by have e:w8.n.AJ.length=w8.AJ.length:=K_ ..;rw [←e];exact hg8.AJ
   have hbm8:w8.AJ.length<90000000:=by have e:w8.n.AJ.length=w8.AJ.length:=K_ ..;rw [←e];exact hg8.bl
   refine J4 ?_;refine Ai (H':=At nb w8.x*(AB w8.xa.b w8.xa.o w8.cs w8.xa.s*(AB w8.ea.b w8.ea.o w8.rows w8.ea.s*(AB w8.ba.b w8.ba.o w8.AJ w8.ba.s*(AB w8.ca.b w8.ca.o w8.cnt w8.ca.s*(AT C8.cb C8.c*(AB r8.a.b r8.a.o r8.es r8.a.s*(A7 E8.q E8.o*(B2 w8 0 0 0 r8*(J*H)))))))))) (Ej nb w8 _ hC8 hr8 hE8) ?_;refine J4 ?_;refine JL Wp ?_;refine JL Yo ?_;refine JL VI ?_;refine JL (Ay (v':=.agg (DT ⟨1,0,0,0,⟨#[120]⟩⟩).toArray) Ey rfl) ?_;refine A9 (H':=AT C8.cb C8.c*((At nb w8.x*(AB w8.xa.b w8.xa.o w8.cs w8.xa.s*(AB w8.ea.b w8.ea.o w8.rows w8.ea.s*(AB w8.ba.b w8.ba.o w8.AJ w8.ba.s*(AB w8.ca.b w8.ca.o w8.cnt w8.ca.s*(AB r8.a.b r8.a.o r8.es r8.a.s*(A7 E8.q E8.o*(B2 w8 0 0 0 r8*(J*H))))))))))) Cf ?_;refine mE rfl (Ge hG C8.cb (l.length+2) C8.c ⟨1,0,0,0,⟨#[120]⟩⟩ ⟨9,-1,0,0,⟨#[]⟩,[]⟩ C8.c.s (by rw [cM,ho8.write]) _ (hok8.Ef C8 (K? hC8)) hc8 Ca (by show 1<_;decide) Cr) ?_;rintro _ _ ⟨m9,pw,hm9,hs9,hpw,rfl,rfl⟩;dsimp only at hs9 hpw⊢;refine Ag GE rfl ?_;rintro _ _ ⟨b18,rfl,rfl⟩
   refine Bi (De (cs:=BG ⟨9,-1,0,0,⟨#[]⟩,[]⟩ (.slice pw.p 0 pw.c)) rfl rfl Ch Ce) ?_;refine Ep ?_;refine Zp ?_;refine J4 ?_;refine JL Wp ?_;refine JL Yo ?_;refine JL VI ?_;refine A9 (H':=AT (⟨C8.cb,m9⟩:CM).cb (⟨C8.cb,m9⟩:CM).c*((At nb w8.x*(AB w8.xa.b w8.xa.o w8.cs w8.xa.s*(AB w8.ea.b w8.ea.o w8.rows w8.ea.s*(AB w8.ba.b w8.ba.o w8.AJ w8.ba.s*(AB w8.ca.b w8.ca.o w8.cnt w8.ca.s*(AB r8.a.b r8.a.o r8.es r8.a.s*(A7 E8.q E8.o*(B2 w8 0 0 0 r8*(HP.AA b18 0 (BG ⟨9,-1,0,0,⟨#[]⟩,[]⟩ (.slice pw.p 0 pw.c))*(pw.h ([]:List ByteArray)*(J*H))))))))))))) Cf ?_;refine mE rfl (WG hG C8.cb m9 _) ?_;refine JR ?_
   have hcl9:m9.s.closed=9:=by rw [hs9];exact ho8.closed
   refine J4 ?_;refine Zp ?_;refine J3 ?_;refine FJ ?_;refine I4 ?_;refine JL (Ay Dn hok8.bv) ?_;refine FJ ?_;refine FO ?_;refine JL YL ?_;refine FJ ?_;refine JL (Ay (v':=.bool true) (B6 (i:=w8.AJ.length) (j:=w1.AJ.length+1) rfl rfl) (by rw [decide_eq_true hb8])) ?_;refine Ga ?_;refine I4 ?_;refine JL (Ay (v':=.bool true) (B6 (i:=9) (j:=9) rfl rfl) rfl) ?_;refine Ga ?_;refine I4 ?_;refine JL (Ay (v':=.bool true) (B6 (i:=0) (j:=0) rfl rfl) rfl) ?_
   refine Ga ?_;refine FO ?_;refine JL (Ay (v':=.bool true) (B6 (i:=m9.s.closed) (j:=9) rfl rfl) (by rw [hcl9];rfl)) ?_;refine Ga ?_;refine J4 ?_;exact mR [10] H (hE:=⟨fun ww hw=>Sat.right (A:=At nb w8.x*(AB w8.xa.b w8.xa.o w8.cs w8.xa.s*(AB w8.ea.b w8.ea.o w8.rows w8.ea.s*(AB w8.ba.b w8.ba.o w8.AJ w8.ba.s*(AB w8.ca.b w8.ca.o w8.cnt w8.ca.s*(AT C8.cb m9*(AB r8.a.b r8.a.o r8.es r8.a.s*(A7 E8.q E8.o*(B2 w8 0 0 0 r8*(HP.AA b18 0 (BG ⟨9,-1,0,0,⟨#[]⟩,[]⟩ (.slice pw.p 0 pw.c))*(pw.h ([]:List ByteArray)*J))))))))))) (Eq.mp Cm hw)⟩) rfl rfl BW
end
end Go.Proofs.YtgfdlpcdjklcoaaGreatDoor
