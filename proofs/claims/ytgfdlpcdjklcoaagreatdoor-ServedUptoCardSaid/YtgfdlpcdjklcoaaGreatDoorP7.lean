/- Steps of this proof; no condition. -/
import Derived.Test.YtgfdlpcdjklcoaaGreatDoorP6
namespace Go.Proofs.YtgfdlpcdjklcoaaGreatDoor
open Go Go.RowKit Go.Proofs.Tryz HP AB AO Oper
open _root_.List renaming length→aa
set_option linter.all false
variable{l:List Bi}{t:Nat}{P:Program}{s:ByteArray}
open _root_.List renaming replicate→ad
open _root_.Go.Builtin renaming firstCells→a9,copy_→c6,lenOf→eo
open _root_.Option renaming getD_some→cx
set_option maxRecDepth 20000
section
def Sat.V! {B}{α:Type}[AB α]{b o k}{xs:List α}{s R w}(y:α)(Z:k<aa xs)(h:Sat B (AC b o xs s*R) w):
  ∃V,(storeCells ⟨b,o+k*AB.sz α,none⟩ (AB.enc y)).run P w=.ok () V∧Sat B (AC b o (xs.set k y) s*R) V∧∀m D,Al m D P (storeCells ⟨b,o+k*AB.sz α,none⟩ (AB.enc y)) w:=by
 have F:xs.drop k=xs[k]::xs.drop (k+1):=zv Z;have C:AE xs++s=AE (xs.take k)++(AE (xs.drop k)++s):=by rw[←c5,←GH,px]
 have J:aa (AE (xs.take k))=k*AB.sz α:=by rw[CV,hZ,n6 C0]
 have U:Sat B (AA b (o+k*AB.sz α+0) (AE (xs.drop k)++s)*(AA b o (AE (xs.take k))*R)) w:=by
  rw[EM,←HP.assoc,kv,←J,←HF,←C];exact h
 have Y:aa (AB.enc y)≤aa (AE (xs.drop k)++s):=by
  rw[a5,CV,AB.len,di];have:=ta (AB.sz α) (show 1≤aa xs-k by omega);omega
 obtain⟨V,M,a,X⟩:=Sat.ME (P:=P) (AB.enc y) (o+k*AB.sz α) 0 (AE (xs.drop k)++s) _ w Y (AB.one y) U;refine⟨V,M,?_,X⟩;have c:(AE (xs.drop k)++s).drop (aa (AB.enc y))=AE (xs.drop (k+1))++s:=by
  rw[F];show(AB.enc xs[k]++AE (xs.drop (k+1))++s).drop _=_;rw[c5,AB.len,←AB.len xs[k],List.drop_left]
 rw[c,EM,←HP.assoc,kv,←J,←HF]at a;have e:AE (xs.set k y)++s=AE (xs.take k)++(AB.enc y++(AE (xs.drop (k+1))++s)):=by
  rw[Aih,AJ Z,GH];show _++(AB.enc y++AE (xs.drop (k+1)))++s=_;simp only[c5]
 unfold AC;rw[e];exact a
section
variable{P:Program}{B:World}{n:Nat}{E:A8}{D:CW}{H R:HP}{d:Option Tmp}{T T' ty:TypeId}{pos:String}{af:Array Edge}{g:Option (Nat×Bool)}{x y z:Operand}
def y_{α:Type}[AB α]{b o k}{xs:List α}{s}(v:α)[hT:GN P T (AB.sz α)](F:ev E x=some (.pointer (some ⟨b,o+k*AB.sz α,none⟩)))(G:ev E y=some (.agg (AB.enc v).toArray))(Z:k<aa xs):
  DT P B n ⟨d,.store T x y,ty,pos,af,g⟩ E D (AC b o xs s*R) (λL Y=>L=undef∧Y=AC b o (xs.set k v) s*R):=by
 intro a w O _ M K Q p;obtain⟨V,X,U,W⟩:=Sat.V! (P:=P) v Z M;have J:aa (AB.enc v)=AB.sz α:=AB.len v;have q:(execOp a.eval ⟨d,.store T x y,ty,pos,af,g⟩).run P w=.ok .skip V:=by
  simp only[execOp,O.ev F,O.ev G,Instr.storeAt,Instr.sureAddr,bn,bp,b0,storeVar,hT.size,Value.cells];simp[J,X]
 refine Tl ?_ q (p undef _ _ Dj U);simp only[A9,BL,Dp,CT,DQ,EP,EX,Ej,B3,BX,true_and,and_true,and_self,execOp,O.ev F,O.ev G,Instr.storeAt,Instr.sureAddr,bn,bp,b0,storeVar,hT.size,Value.cells];simp[J,X,W]
end
end
section
variable{B:World}
abbrev Og(m:Bi):Value:=.agg (DP m).toArray
def Tp(B:World)(f:FuncId)(us:List Value)(l:List Bi)(P:Bi→Bool)(G:List Bi→HP):Prop:=
 ∀u x R,(∃m,m≤aa l∧l.take m=u++[x])→Fn prog B f (Og x::us) (G u*R) (λv S=>v=.bool (P x)∧S=G (u++[x])*R)
def NV{i}(h:i<aa l):l.take (i+1)=l.take i++[l.getD i AD]:=by
 rw[ek,c8 h,cx,Kk h]
def t_(l:List Bi)(p:Option Addr)(b o c:Nat)(s:List Value)(f:FuncId)(us:List Value)(P:Bi→Bool)(G:List Bi→HP)(R:HP)[Aa prog f](hs:Sl p b o (aa l) c)(J:aa l<1000000000)(hf:Tp B f us l P G):
  Fn prog B 187 [.slice p (aa l) c,BI f us] (G []*(AC b o l s*R))
   (λv S=>∃(C:Int) (M:Nat),v=.int .i64 C∧((C= -1∧M=aa l∧∀j,j<aa l→P (l.getD j AD)=false)∨(∃k:Nat,C=k∧k<aa l∧M=k+1∧P (l.getD k AD)=true∧∀j,j<k→P (l.getD j AD)=false))∧
    S=G (l.take M)*(AC b o l s*R)):=by
 refine mI func187 ?_;refine FM ?_;refine Bf (α:=Nat) (λi=>[(0,.slice p (aa l) c),(1,BI f us),(7,iN (aa l)),(8,iN i)]) (λi=>G (l.take i)*(AC b o l s*R)) (λi=>i≤aa l∧∀j,j<i→P (l.getD j AD)=false) (λi=>aa l-i) 0 ⟨bk _,(λj h=>absurd h (Aje j))⟩ DJ (by rw[tS]) ?_;rintro i ⟨X,e⟩;refine J6 ?_;refine mC (λF=>?_) (λF=>?_)
 ·refine Gu ?_;refine JL RC<|JL (I2 (xs:=l) I AH C0)<|Ae (HD I I (hf (l.take i) (l.getD i AD) _ ⟨i+1,C0,NV F⟩)) I<|JR<|J2 ?_;refine mc (λu=>?_) (λu=>?_)
  ·refine Fi ?_;exact mr [4] I I ⟨(i:Nat),i+1,I,.inr ⟨i,I,F,I,u,e⟩,by rw[NV F]⟩
  refine Bt ?_;exact BV (i+1) ⟨C0,λj W=>by rcases ff j i with h|h;exact e j h;obtain rfl:j=i:=C0;exact u⟩ C0 DJ (by rw[NV F])
 refine DL ?_;exact mr [4] I I ⟨-1,aa l,I,.inl ⟨I,I,λj W=>e j C0⟩,by rw[show i=(aa l) by omega]⟩
def o5{P:Bi→Bool}{k}(Z:k≤aa l)(h:∀j,j<k→P (l.getD j AD)=false):(l.take k).filter (λx=> !P x)=l.take k:=by
 rw[List.filter_eq_self];intro a U;obtain⟨j,W,rfl⟩:=Ax U;have p:j<k∧j<aa l:=by rw[hZ]at W;omega
 have:=h j p.1;rw[ek,c8 p.2,cx]at this;rw[List.getElem_take,this];rfl
structure KU where
 i:Nat
 j:Nat
 L:List Bi
def KU.ok(z:KU)(l:List Bi)(P:Bi→Bool):Prop:=
 z.j≤aa l∧z.i<z.j∧aa z.L=aa l∧z.L.take z.i=(l.take z.j).filter (λx=> !P x)∧z.L.drop z.j=l.drop z.j
def VH{m:List Bi}{j}(h:m.drop j=l.drop j)(J:aa m=aa l)(W:j<aa l):m.getD j AD=l.getD j AD:=by
 have:(m.drop j)[0]?=(l.drop j)[0]?:=by rw[h]
 rw[Cx,Cx]at this;simp only[ek];rw[show j=j+0 from I,this]
def KU.Kj{z:KU}{P:Bi→Bool}(h:z.ok l P)(W:z.j<aa l)(a:P (z.L.getD z.j AD)=false):(⟨z.i+1,z.j+1,z.L.set z.i (z.L.getD z.j AD)⟩:KU).ok l P:=by
 obtain⟨O,U,M,Z,h5⟩:=h;have e:=VH h5 M W;refine⟨W,by show z.i+1<z.j+1;omega,by show(z.L.set _ _).length=_;rw[n5];exact M,?_,?_⟩
 ·show(z.L.set z.i (z.L.getD z.j AD)).take (z.i+1)=_;have J:z.i<aa z.L:=C0;rw[Aih,AJ J,List.take_append,Ajb Qt,hZ,n6 C0,show z.i+1-z.i=0+1 by omega,Akn,tS,Z,NV W,C',←e,Aix (by show(!P _)=true;rw[a];rfl),Akt]
 show(z.L.set z.i (z.L.getD z.j AD)).drop (z.j+1)=_;rw[List.drop_set_of_lt C0];exact vH
def KU.skip{z:KU}{P:Bi→Bool}(h:z.ok l P)(W:z.j<aa l)(a:P (z.L.getD z.j AD)=true):(⟨z.i,z.j+1,z.L⟩:KU).ok l P:=by
 obtain⟨O,U,M,Z,h5⟩:=h;have e:=VH h5 M W;refine⟨W,by show z.i<z.j+1;omega,M,?_,?_⟩
 ·show z.L.take z.i=(l.take (z.j+1)).filter _;rw[Z,NV W,C',←e,Ais (by show ¬(!P _)=true;rw[a];simp),Akt,g8]
 show z.L.drop (z.j+1)=_;exact vH
set_option maxHeartbeats 1000000 in
def Vk(l:List Bi)(p:Option Addr)(b o c:Nat)(s:List Value)(f:FuncId)(us:List Value)(P:Bi→Bool)(G:List Bi→HP)(R:HP)[Aa prog f](hs:Sl p b o (aa l) c)(W:aa l*3+aa s=c*3)(J:aa l<1000000000)(hf:Tp B f us l P G):
  Fn prog B 161 [.slice p (aa l) c,BI f us] (G []*(AC b o l s*R)) (λv S=>DI (G l*R) (l.filter (λx=> !P x)) v S):=by
 refine mI func161 ?_;refine J9 ?_;refine mE I (t_ l p b o c s f us P G R hs J hf) ?_;rintro _ _ ⟨C,M,rfl,K,rfl⟩;refine J7 ?_;refine JL (Eo (i:=C) (j:= -1) I I)<|J2 ?_;refine mC (λF=>?_) (λF=>?_)
 ·obtain⟨_,rfl,u⟩:=K.resolve_right (λ⟨k,h,_⟩=>by omega);have hnone:l.filter (λx=> !P x)=l:=by have:=o5 Dz u;rwa[pq]at this
  refine J8 ?_;exact mr [4] I I ⟨p,b,o,c,s,X1,by rw[hnone];exact hs,by rw[hnone];exact W,by rw[hnone,pq];ac_rfl⟩
 obtain⟨k,rfl,a,rfl,N,u⟩:=K.resolve_left (λh=>F h.1);refine O3 (E':=[(5,iN k),(0,.slice p (aa l) c),(1,BI f us)]) DW<|CK ?_;refine Bf (α:=KU) (λz=>[(0,.slice p (aa l) c),(1,BI f us),(5,iN z.i),(6,iN z.j)]) (λz=>G (l.take z.j)*(AC b o z.L s*R)) (λz=>z.ok l P) (λz=>aa l-z.j) ⟨k,k+1,l⟩ ⟨by show k+1≤aa l;omega,by show k<k+1;omega,I,by show l.take k=(l.take (k+1)).filter _;rw[NV a,C',o5 C0 u,Ais (by show ¬(!P _)=true;rw[N];simp),Akt,g8],I⟩ DJ I ?_;rintro z hz;have X:=hz.1;have w:=hz.2.1;have V:=hz.2.2.1;refine J9 ?_;refine mC (λh19=>?_) (λh19=>?_)
 ·have e:=VH hz.2.2.2.2 V h19;have ets:l.take (z.j+1)=l.take z.j++[z.L.getD z.j AB.AD]:=by rw[NV h19,e]
  refine J8 ?_;refine JL RC<|JL (I2 (xs:=z.L) I AH C0)<|NN ?_;rintro _ _ ⟨U,rfl,rfl⟩;refine Bl (Ek I I Ca (AB.one _))<|KW ?_;refine JL lD<|BH (H':=G (l.take z.j)*(AC b o z.L s*(HP.AA U 0 (DP (z.L.getD z.j AB.AD))*R))) C4<|Ae (HD I I (hf (l.take z.j) (z.L.getD z.j AB.AD) _ ⟨z.j+1,C0,ets⟩)) I<|JR<|A5 ?_;refine mc (λh29=>?_) (λh29=>?_)
  ·skip;have h29:P (z.L.getD z.j AB.AD)=false:=by simpa using h29
   refine J4 ?_;refine JL lD<|JL RC<|BH (H':=AC b o z.L s*(HP.AA U 0 (DP (z.L.getD z.j AB.AD))*(G (l.take z.j++[z.L.getD z.j AB.AD])*R))) C4<|Bl (y_ (z.L.getD z.j AB.AD) (k:=z.i) I I C0)<|JR<|J2 ?_;refine I4 (AC b o (z.L.set z.i (z.L.getD z.j AB.AD)) s*(G (l.take z.j++[z.L.getD z.j AB.AD])*R))<|DY ?_;exact zK
  have h29:P (z.L.getD z.j AB.AD)=true:=by simpa using h29
  refine I4 (G (l.take z.j++[z.L.getD z.j AB.AD])*(AC b o z.L s*R))<|Be ?_;exact zK
 refine J6 ?_;obtain rfl':z.j=aa l:=C0;refine A3 (H':=HP.AA b o (AE z.L++s)*(G (l.take z.j)*R)) Pm ?_;have Q:aa (AE z.L++s)=c*3:=by rw[a5,CV,V];exact W
 have r:z.L.take z.i=l.filter (λx=> !P x):=by rw[hz.2.2.2.1,rfl',pq]
 refine J3 ?_;refine JL Jv<|Bl (RQ (sz:=3) (b:=b) (o:=o) (k:=z.i) I (F0 (k:=aa l) hs (by omega:z.i≤aa l) hs.2 I) (by rw[Q];have:=hs.2;omega) I C2) ?_;rintro _ _ ⟨A,m,Y,O,rfl⟩;refine J6 ?_;refine JL (Uo I I C8)<|J4 ?_;exact mR [4] (HP.AA b o A*(G l*R)) (hE:=by rw[rfl',pq];exact AH) I I ⟨p,b,o,c,A.drop (z.i*3),by rw[←r,hZ,n6 C0];rfl,⟨hs.1,by rw[←r,hZ,n6 C0];have:=hs.2;omega⟩,by rw[←r,hZ,n6 C0,di,m,Q];show z.i*3+_=c*3;have:=hs.2;omega,by congr 1;refine Pu ?_;refine Qs (α:=Bi) (k:=z.i) ?_;refine Sp Y ?_;rw[←r];exact QA z.L z.i s C0⟩
end
section
variable{B:World}
theorem V0{m:Bi}(h:m∈l):AZ B (AP BC l) m.a.b m.a.o m.fs:=by
 obtain⟨k,Z,rfl⟩:=Ax h;rw[MO BC l k AD Z,ek,c8 Z,cx];unfold BC;exact AH
structure PH where
 ws:List CH
 la:Am
 lo:List Bi
structure PH.Ok(z:PH)(ws0:List At)(lo0:List Bi)(P:FQ→Bool)(pre:List Bi):Prop where
 ws:∀w∈z.ws,w.ok
 mw:z.ws.map (·.w)=((pre.filter (λm=>P m.BF)).map (·.BF)).foldl N4 ws0
 la:z.la.ok z.lo
 lo:z.lo=lo0++pre.filter (λm=>P m.BF)
def Kz(cb:Nat)(x:CC)(e:List At)(a:List Bi)(P:FQ→Bool)(K:HP)(pre:List Bi):HP:=
 HP.ex λz:PH=>HP.pr (z.Ok e a P pre)*(Ab cb {x with lv:=z.la.v (aa z.lo)}*(BU cb z.ws*(z.la.h z.lo*K)))
set_option maxHeartbeats 2000000 in
def Ae4(cb AI bl bc)(x:CC)(e lo0 l)(lost:FQ→Bool)(f us G0)[Aa prog f](hw0:El AI e)(hlok:∀m∈l,m.ok)(N:∀m∈l,∀g∈m.BF.A7,F8 e g)(L:aa l+aa lo0<100000000)(hfl:∀m∈l,aa m.fs<100000000)(hf0:∀(x':CC) (m:Bi) (J:HP),x'.CB=x.CB→m∈l→Fn prog B f (Og m::us) (Ab cb x'*(G0*J)) (λv S=>v=.bool (lost m.BF)∧S=Ab cb x'*(G0*J))):
  Tp B 162 [ptr bl 0,ptr bc 0] l (λm=>lost m.BF) (Kz cb x e lo0 lost (G0*(AA bl 0 [BI f us]*(AA bc 0 [ptr cb 0]*AP BC l)))):=by
 intro u fm R V;obtain⟨mm,hmm,V⟩:=V;have F:fm∈l:=Gp (i:=mm) (by rw[V];simp);have hsub:∀m∈u,m∈l:=λm W=>Gp (i:=mm) (by rw[V];simp[W]);have hfm:=hlok fm F;have hfl2:=hfl fm F;have hrd:=V0 (B:=B) F;refine mI func162 ?_;unfold Kz;refine OL ?_;rintro⟨r,h,C⟩ ⟨hz1,hz2,hz3,hz4⟩;dsimp only at hz1 hz2 hz3 hz4⊢;obtain⟨wo1,wo2,_⟩:=Ul (AI:=AI) ((u.filter (λm=>lost m.BF)).map (·.BF)) e hw0 (λp hp g hg=>by
  obtain⟨m,W,rfl⟩:=g9.1 hp;exact N m (hsub m (o4.1 W).1) g hg)
 rw[←hz2]at wo1 wo2;refine A3 (H':=Ab cb {x with lv:=h.v (aa C)}*(BU cb r*(AC h.b h.o C h.s*(G0*(AA bl 0 [BI f us]*(AA bc 0 [ptr cb 0]*(AP BC l*R))))))) C4<|J2 ?_;refine Ae (EB (l:=DP fm) I I) I ?_;rintro _ _ ⟨b3,rfl,rfl⟩;refine J7 ?_;refine JL (Et (l:=DP fm) I I)<|BH (H':=Ab cb {x with lv:=h.v (aa C)}*(G0*(BU cb r*(AC h.b h.o C h.s*(AA bl 0 [BI f us]*(AA bc 0 [ptr cb 0]*(AP BC l*(AA b3 0 (DP fm)*R)))))))) C4<|Ae (HD I I (hf0 _ fm _ I F)) I<|JR<|QS ?_;refine mc (λK=>?_) (λK=>?_)
 ·skip;have K:lost fm.BF=false:=by simpa using K
  refine J7 ?_;have X:(u++[fm]).filter (λm=>lost m.BF)=u.filter (λm=>lost m.BF):=by
   rw[C',Ais (by rw[K];simp),Akt,g8]
  exact mR [4] (Kz cb x e lo0 lost (G0*(AA bl 0 [BI f us]*(AA bc 0 [ptr cb 0]*AP BC l))) (u++[fm])*R) (hE:=⟨λO hw=>LI (G:=AA b3 0 (DP fm)) (⟨r,h,C⟩:PH) ⟨hz1,by rw[X];exact hz2,hz3,by rw[X];exact hz4⟩ (by show _=AA b3 0 (DP fm)*(Ab cb {x with lv:=h.v (aa C)}*(BU cb r*(AC h.b h.o C h.s*(G0*(AA bl 0 [BI f us]*(AA bc 0 [ptr cb 0]*AP BC l)))))*R);ac_rfl) O hw⟩) I I ⟨by rw[K];rfl,I⟩
 have K:lost fm.BF=true:=by simpa using K
 refine A3 (H':=Ab cb {x with lv:=h.v (aa C)}*(BU cb r*(AC h.b h.o C h.s*(G0*(AA bl 0 [BI f us]*(AA bc 0 [ptr cb 0]*(AP BC l*(AA b3 0 (DP fm)*R)))))))) C4<|DY ?_;refine Bf (α:=Nat×List CH) (λz=>[(1,ptr bl 0),(2,ptr bc 0),(3,ptr b3 0),(12,.slice fm.a.p (aa fm.fs) fm.a.c),(13,iN (aa fm.fs)),(14,iN z.1)]) (λz=>Ab cb {x with lv:=h.v (aa C)}*(BU cb z.2*(AC h.b h.o C h.s*(G0*(AA bl 0 [BI f us]*(AA bc 0 [ptr cb 0]*(AP BC l*(AA b3 0 (DP fm)*R)))))))) (λz=>z.1≤aa fm.fs∧(∀w∈z.2,w.ok)∧z.2.map (·.w)=((fm.fs.take z.1).map (·.f)).foldl JQ (r.map (·.w))) (λz=>aa fm.fs-z.1) (0,r) ⟨bk _,hz1,I⟩ sB I ?_;rintro⟨i,wz⟩ ⟨q1,q2,M⟩;dsimp only at q1 q2 M⊢;obtain⟨ag1,ag2,_⟩:=X5 (AI:=AI) ((fm.fs.take i).map (·.f)) (r.map (·.w)) wo1 (λg hg=>by
  obtain⟨rr,hrr,rfl⟩:=g9.1 hg;exact(N fm F rr.f j8).same wo2)
 rw[←M]at ag1 ag2;have hwl:aa wz=4:=by have:=ag1.len;simpa using this
 refine J6 ?_;refine mC (λh15=>?_) (λh15=>?_)
 ·skip;have hgd:fm.fs.getD i AD=fm.fs[i]:=by rw[ek,c8 h15];rfl
  have Q:F8 (wz.map (·.w)) (fm.fs.getD i AD).f:=by
   rw[hgd];exact((N fm F _ aG).same wo2).same ag2
  obtain⟨j,hst⟩:∃j:Nat,(fm.fs.getD i AD).f.stream=(j:Int):=⟨_,(x3 Q.1).symm⟩
  have hj:j<4:=by have:=Q.2.1;omega
  have hgw:(wz.map (·.w)).getD j BO=(wz.getD j AD).w:=by
   exact sI
  have hwj:=ag1.ok j hj;rw[hgw]at hwj;refine J6 ?_;refine JL (HQ I I hfm.1 C0 I)<|JL (I2 (xs:=fm.fs) I AH C0)<|Ae Qz I ?_;rintro _ _ ⟨b6,rfl,rfl⟩;refine Bl (Ek I I Ca (AB.one _))<|JJ ?_;refine JL (Et (l:=AN (fm.fs.getD i AD)) I I)<|BH (H':=AA cb (0+43+j*10) (DA (wz.getD j AD))*(DK (wz.getD j AD)*(Dl cb wz j*(Ab cb {x with lv:=h.v (aa C)}*(AA b6 0 (AN (fm.fs.getD i AD))*(AC h.b h.o C h.s*(G0*(AA bl 0 [BI f us]*(AA bc 0 [ptr cb 0]*(AP BC l*(AA b3 0 (DP fm)*R))))))))))) (by rw[Lw cb wz j C0];show AA b6 0 (AN _)*_=_;ac_rfl)<|mE I (Ae0 cb j AI (wz.getD j AD) (fm.fs.getD i AD) _ hst hj (q2 _ (Gk C0)) hwj (λhk=>by have:=Q.2.2 hk;rw[hst,dz,hgw]at this;exact this)) ?_;rintro _ _ ⟨Y,U,hw2e,rfl⟩;refine Bt ?_;refine Bg (Ab cb {x with lv:=h.v (aa C)}*(BU cb (wz.set j Y)*(AC h.b h.o C h.s*(G0*(AA bl 0 [BI f us]*(AA bc 0 [ptr cb 0]*(AP BC l*(AA b3 0 (DP fm)*R)))))))) (hE:=?_) ?_
  ·rw[Nb cb wz j Y C0];exact⟨λO hw=>Sat.right (A:=AA b6 0 (AN (fm.fs.getD i AD))) (Eq.mp Cp hw)⟩
  exact BV (i+1,wz.set j Y) ⟨C0,λa ha=>NF (P:=CH.ok) q2 U ha,by
   show(wz.set j Y).map (·.w)=((fm.fs.take (i+1)).map (·.f)).foldl JQ (r.map (·.w));rw[D',hw2e,Kk h15,n8,tg,←M];show _=JQ (wz.map (·.w)) (fm.fs[i]).f;rw[←hgd];unfold JQ;rw[hst,dz,hgw]⟩ tP sB I
 refine J6 ?_;obtain rfl':i=aa fm.fs:=C0;rw[rfl',pq]at M;refine A3 (H':=AC h.b h.o C h.s*(Ab cb {x with lv:=h.v (aa C)}*(BU cb wz*(G0*(AA bl 0 [BI f us]*(AA bc 0 [ptr cb 0]*(AP BC l*(AA b3 0 (DP fm)*R)))))))) C4 ?_;have hlol:aa C≤aa lo0+aa l:=by
  rw[hz4,a5];have h1:=Ak9 (λm:Bi=>lost m.BF) u;have h2:=congrArg List.length V;rw[a5,hZ]at h2;omega
 refine EI (Ab cb {x with lv:=h.v (aa C)}*(BU cb wz*(G0*(AA bl 0 [BI f us]*(AA bc 0 [ptr cb 0]*(AP BC l*(AA b3 0 (DP fm)*R))))))) 10 11 EO I C1<|BB ?_;refine JT 5 I (Et (l:=DP fm) I I)<|Au 6 C1 I I (Gn (cs:=DP fm) I Cc I I) ?_;rintro _ _ ⟨b28,rfl,rfl⟩;refine BT ?_;refine F9 (H':=AC h.b h.o C h.s*(AA b28 0 (AE [fm])*(Ab cb {x with lv:=h.v (aa C)}*(BU cb wz*(G0*(AA bl 0 [BI f us]*(AA bc 0 [ptr cb 0]*(AP BC l*(AA b3 0 (DP fm)*R))))))))) (by show AA b28 0 _*_=_;rw[show AE [fm]=DP fm from g8 _];ac_rfl)<|Au 7 C1 I I (CA (ys:=[fm]) (bb:=b28) (oo:=0) (cc:=1) I hz3.1 hz3.2 I Bz AH I Cd C0) ?_;rintro _ _ ⟨p29,b29,o29,c29,s29,rfl,hs29,hc29,rfl⟩;refine BT ?_;refine CK ?_;have X:(u++[fm]).filter (λm=>lost m.BF)=u.filter (λm=>lost m.BF)++[fm]:=by
  rw[C',Aix (p:=λm:Bi=>lost m.BF) (a:=fm) K,Akt]
 exact mR [4] (Kz cb x e lo0 lost (G0*(AA bl 0 [BI f us]*(AA bc 0 [ptr cb 0]*AP BC l))) (u++[fm])*R) (hE:=⟨λO hw=>LI (G:=AA b3 0 (DP fm)*AA b28 0 (AE [fm])) (⟨wz,⟨p29,b29,o29,c29,s29⟩,C++[fm]⟩:PH) ⟨q2,by show wz.map (·.w)=_;rw[X,n8,tg,←hz2,M];rfl,⟨hs29,hc29⟩,by show C++[fm]=_;rw[X,hz4,c5]⟩ (by show _=AA b3 0 (DP fm)*AA b28 0 (AE [fm])*(Ab cb {x with lv:=.slice p29 (aa (C++[fm])) c29}*(BU cb wz*(AC b29 o29 (C++[fm]) s29*(G0*(AA bl 0 [BI f us]*(AA bc 0 [ptr cb 0]*AP BC l)))))*R);ac_rfl) O hw⟩) I I ⟨by rw[K];rfl,I⟩
def Dx{n o E H v v'}(h:AY P B n o E H v)(e:v=v'):AY P B n o E H v':=e▸h
def qn{cb x e a pre}{P:FQ→Bool}{K R w}(h:Sat B (Kz cb x e a P K pre*R) w):Sat B (K*R) w:=by
 unfold Kz at h;rw[LH]at h;obtain⟨z,h⟩:=Sat.ex.1 h;rw[HP.assoc]at h;have U:=(Sat.pr.1 h).2;refine Sat.right (A:=Ab cb {x with lv:=z.la.v (aa z.lo)}*(BU cb z.ws*z.la.h z.lo))<|Eq.mp ?_ U;congr 1;ac_rfl
def Xa{n E D ops}{Q:Exit→Act→World→Prop}{Y last F m}{α:Type}{p:α→Prop}{A:α→HP}{R}(h:∀z,p z→WA P B ops Q Y last F m n E D (A z*R)):WA P B ops Q Y last F m n E D ((HP.ex λz=>HP.pr (p z)*A z)*R):=by
 intro a w O U M;rw[LH]at M;obtain⟨z,Z⟩:=Sat.ex.1 M;rw[HP.assoc]at Z;obtain⟨J,X⟩:=Sat.pr.1 Z;exact h z J a w O U X
def Vy{n E D ops}{Q:Exit→Act→World→Prop}{Y H last F m}(H')[hE:CM B H H'](h:WA P B ops Q Y last F m n E D H'):WA P B ops Q Y last F m n E D H:=
 λa w O U M=>h a w O U (hE.get w M)
def S5{α:Type}(f:α→HP)(P:α→Bool):∀l:List α,AP f l=AP f (l.filter (λx=> !P x))*AP f (l.filter P)
 |[]=>by simp[GX]
 |a::l=>by
  rw[HK,S5 f P l];cases h:P a
  ·rw[Aix QL,Ais (by rw[h];simp),HK];ac_rfl
  rw[Ais (by rw[h];simp),Aix h,HK];ac_rfl
def UR(l:List Bi)(P:FQ→Bool):(l.filter (λm=>P m.BF)).map (·.BF)=(l.map (·.BF)).filter P:=by
 induction l with
 |nil=>rfl
 |cons a l Z=>cases h:P a.BF<;>simp[h,Z]
def wV{m:Ak}(hi:Aq t m.s):∀a∈m.fl,∀g∈a.BF.A7,F8 m.s.ws g:=λa ha=>(hi.BF a.BF V5).fr
def uQ{m:Ak}(hi:Aq t m.s):∀a∈m.lo,∀g∈a.BF.A7,F8 m.s.ws g:=λa ha=>(hi.BF a.BF VR).fr
def nB{m:Ak}(hi:Aq t m.s):∀a∈m.fl,aa a.fs<100000000:=λa ha=>by
 have:=(hi.BF a.BF V5).len;have e:aa a.BF.A7=aa a.fs:=eh _;omega
def ZQ{m:Ak}(hi:Aq t m.s)(ht:t<1000000):aa m.fl+aa m.lo<100000000:=by
 have O:=hi.cnt;have U:=hi.nx;have C:aa m.s.Bp=aa m.fl:=eh _;have M:aa m.s.lost=aa m.lo:=eh _;omega
set_option maxHeartbeats 2000000 in
def wI(cb t)(m:Ak)(lost:FQ→Bool)(f us G R)[Aa prog f](hm:m.ok)(hi:Aq t m.s)(ht:t<1000000)(hf0:∀(x':CC) (a:Bi) (J:HP),x'.CB=m.x.CB→a∈m.fl→Fn prog B f (Og a::us) (Ab cb x'*(G*J)) (λv H'=>v=.bool (lost a.BF)∧H'=Ab cb x'*(G*J))):
  Fn prog B 133 [ptr cb 0,BI f us] (Ao cb m*(G*R)) (λ_ H'=>∃m':Ak,m'.ok∧m'.s=m.s.Ho lost∧H'=Ao cb m'*(G*R)):=by
 refine mI func133 ?_;have L:=ZQ hi ht;have ex:({m.x with lv:=m.la.v (aa m.lo)}:CC)=m.x:=by rw[←hm.lv]
 refine NZ ?_;rintro _ _ ⟨Y,rfl,rfl⟩;refine Nf ?_;rintro _ _ ⟨K,rfl,rfl⟩;refine J2 ?_;refine A3 (H':=AA K 0 [BI f us]*(AA Y 0 [ptr cb 0]*(Ab cb m.x*(AK m.x.gq m.ga m.AR*(BU cb m.ws*(B2 cb m.rs*(AC m.fa.b m.fa.o m.fl m.fa.s*(AC m.la.b m.la.o m.lo m.la.s*(AP BC m.fl*(AP BC m.lo*(G*R))))))))))) ZM<|EI (AA K 0 [BI f us]*AA Y 0 [ptr cb 0]) 9 10 EO I C1<|Bn ?_;refine JT 5 I RD<|GU 4 C1 I I TF (.inr AH)<|Vy (Kz cb m.x m.s.ws m.lo lost (G*(AA K 0 [BI f us]*(AA Y 0 [ptr cb 0]*AP BC m.fl))) []*(AC m.fa.b m.fa.o m.fl m.fa.s*(AK m.x.gq m.ga m.AR*(B2 cb m.rs*(AP BC m.lo*R))))) (hE:=⟨λww X=>?_⟩) ?_
 ·refine KP (⟨m.ws,m.la,m.lo⟩:PH) ⟨hm.ws,I,hm.la,C3⟩ ?_ ww X;dsimp only;rw[ex];unfold Am.h;ac_rfl
 refine Au 6 C1 I I (Bd I (Vk m.fl m.fa.p m.fa.b m.fa.o m.fa.c m.fa.s _ [ptr K 0,ptr Y 0] (λa=>lost a.BF) (Kz cb m.x m.s.ws m.lo lost (G*(AA K 0 [BI f us]*(AA Y 0 [ptr cb 0]*AP BC m.fl)))) (AK m.x.gq m.ga m.AR*(B2 cb m.rs*(AP BC m.lo*R))) hm.fa.1 hm.fa.2 C0 (Ae4 cb m.x.AI K Y m.x m.s.ws m.lo m.fl lost f us G hi.ws hm.fl (wV hi) C0 (nB hi) hf0))) ?_;rintro _ _ ⟨S,e,u,w,s10,rfl,N,O,rfl⟩;refine⟨.inr ⟨λww X=>CM.get (B:=B) (H:=(G*(AA K 0 [BI f us]*(AA Y 0 [ptr cb 0]*AP BC m.fl)))*(AC e u (m.fl.filter (λx=> !lost x.BF)) s10*(AK m.x.gq m.ga m.AR*(B2 cb m.rs*(AP BC m.lo*R))))) ww (qn (Eq.mp Cp X))⟩,?_⟩;refine F9 (H':=Kz cb m.x m.s.ws m.lo lost (G*(AA K 0 [BI f us]*(AA Y 0 [ptr cb 0]*AP BC m.fl))) m.fl*(AC e u (m.fl.filter (λx=> !lost x.BF)) s10*(AK m.x.gq m.ga m.AR*(B2 cb m.rs*(AP BC m.lo*R))))) C4 ?_;unfold Kz;refine Xa ?_;rintro⟨r,la,C⟩ ⟨hz1,hz2,V,F⟩;dsimp only at hz1 hz2 V F⊢;refine BE ?_;refine GO 9 C1 I (Eu (v:=.slice S (aa (m.fl.filter (λx=> !lost x.BF))) w) I I I trivial)<|FZ ?_;refine A4 ?_;obtain⟨Q,W⟩:∃Q:Ak,Q=⟨{m.x with lv:=la.v (aa C),fv:=.slice S (aa (m.fl.filter (λx=> !lost x.BF))) w},m.AR,m.ga,r,m.rs,m.fl.filter (λx=> !lost x.BF),C,⟨S,e,u,w,s10⟩,la⟩:=DF;refine Nd (ts:=[]) (Ao cb Q*(G*R)) (hE:=?_) I I ⟨Q,?_,?_,I⟩
 ·rw[W];refine⟨λww X=>?_⟩;refine Sat.right (A:=AA Y 0 [ptr cb 0]*AA K 0 [BI f us])<|Eq.mp ?_ X;congr 1;show _=AA Y 0 [ptr cb 0]*AA K 0 [BI f us]*(Ab cb {m.x with lv:=la.v (aa C),fv:=.slice S (aa (m.fl.filter (λx=> !lost x.BF))) w}*(AK m.x.gq m.ga m.AR*(BU cb r*(B2 cb m.rs*(AC e u (m.fl.filter (λx=> !lost x.BF)) s10*(AC la.b la.o C la.s*(AP BC (m.fl.filter (λx=> !lost x.BF))*AP BC C))))))*(G*R));rw[F,LY,S5 BC (λa:Bi=>lost a.BF) m.fl];unfold Am.h;ac_rfl
 ·rw[W];exact⟨hm.g,hz1,hm.rs,λa U=>hm.fl a (o4.1 U).1,λa U=>by
   rw[F]at U;obtain h|h:=j2.1 U
   ·exact hm.lo a h
   exact hm.fl a (o4.1 h).1,⟨N,O⟩,V,I,I⟩
 rw[W];unfold Ho Ak.s;dsimp only;have e1:=UR m.fl lost;have M:=UR m.fl (λp=> !lost p);rw[e1]at hz2;rw[hz2,M,F,n8,e1];rfl
def zh(cb:Nat)(x:CC)(a:Bi)(R:HP):
  Fn prog B 134 [Og a] (Ab cb x*(Bs*R)) (λv S=>v=.bool ((λ_:FQ=>true) a.BF)∧S=Ab cb x*(Bs*R)):=by
 refine mI func134 ?_;refine J2 ?_;refine Ae (EB (l:=DP a) I I) I ?_;rintro _ _ ⟨C,rfl,rfl⟩;refine J9 ?_;exact mR [2] (Ab cb x*(Bs*R)) I I Dj
def Aq.now{c:AO}(h:Aq t c):Aq (t+1) {c with now:=c.now+1}:=
 {h.mono FT with nw:=by have:=h.nw;show c.now+1≤t+1;omega,BF:=λp J=>let g:=h.BF p J;⟨g.num,Al7 g.at_,g.len,g.fr⟩}
def ki{P:FQ→Bool}{i}(hi:i<aa l)(h:P (l.getD i AD).BF=true):(l.map (·.BF)).any P=true:=by
 rw[Am9];exact⟨_,g9.2 ⟨l.getD i AD,Gk hi,I⟩,h⟩
def Agd{P:FQ→Bool}(h:∀j,j<aa l→P (l.getD j AD).BF=false):(l.map (·.BF)).any P=false:=by
 rw[List.any_eq_false];intro p J;obtain⟨a,U,rfl⟩:=g9.1 J;obtain⟨j,W,rfl⟩:=Ax U;have:=h j W;rw[ek,c8 W,cx]at this;rw[this];simp
set_option maxHeartbeats 2000000 in
def fj(cb t)(m:Ak)(R)(hm:m.ok)(hi:Aq t m.s)(ht:t<900000):
  Fn prog B 91 [ptr cb 0] (Ao cb m*R) (λ_ H'=>∃N:Ak,N.ok∧N.s=m.s.tick∧H'=Ao cb N*R):=by
 refine mI func91<|A3 (H':=Ab cb m.x*(AK m.x.gq m.ga m.AR*(BU cb m.ws*(B2 cb m.rs*(AC m.fa.b m.fa.o m.fl m.fa.s*(AC m.la.b m.la.o m.lo m.la.s*(AP BC m.fl*(AP BC m.lo*R)))))))) ZM ?_;have hcnt:=ZQ hi C0;have hnw:m.x.now≤t:=hi.nw;have hwt:m.x.waits≤8:=hi.wt;have hpw:2^m.x.waits≤2^8:=Akc C0 hwt;obtain⟨L,hm1⟩:∃L:Ak,L=m.DM {m.x with now:=m.x.now+1}:=DF;have w:L.ok:=by rw[hm1];exact⟨hm.g,hm.ws,hm.rs,hm.fl,hm.lo,hm.fa,hm.la,hm.fv,hm.lv⟩
 have S:L.s={m.s with now:=m.s.now+1}:=by rw[hm1];rfl
 have X:Aq (t+1) L.s:=by rw[S];exact hi.now
 have M:∀J:HP,Ao cb L*J=Ab cb {m.x with now:=m.x.now+1}*(AK m.x.gq m.ga m.AR*(BU cb m.ws*(B2 cb m.rs*(AC m.fa.b m.fa.o m.fl m.fa.s*(AC m.la.b m.la.o m.lo m.la.s*(AP BC m.fl*(AP BC m.lo*J))))))):=by
  intro J;rw[hm1,E1];show Ab cb _*(AK m.x.gq m.ga m.AR*(BU cb m.ws*(B2 cb m.rs*(EW m*J))))=_;unfold EW Am.h;ac_rfl
 refine J6 ?_;refine JL PE<|Ei ?_;refine JL TF<|BB ?_;refine Bf (α:=Nat) (λi=>[(0,ptr cb 0),(14,.slice m.fa.p (aa m.fl) m.fa.c),(15,iN (aa m.fl)),(16,iN i)]) (λi=>Ab cb {m.x with now:=m.x.now+1}*(AK m.x.gq m.ga m.AR*(BU cb m.ws*(B2 cb m.rs*(AC m.fa.b m.fa.o m.fl m.fa.s*(AC m.la.b m.la.o m.lo m.la.s*(AP BC m.fl*(AP BC m.lo*R)))))))) (λi=>i≤aa m.fl∧∀j,j<i→decide ((m.fl.getD j AB.AD).BF.at_+Oi m.s.waits≤m.s.now+1)=false) (λi=>aa m.fl-i) 0 ⟨bk _,(λj h=>absurd h (Aje j))⟩ DJ I ?_;rintro i ⟨r,u⟩;refine J6 ?_;refine mC (λf=>?_) (λf=>?_)
 ·skip;have hat:(m.fl.getD i AB.AD).at_≤t:=by
   have F:m.fl.getD i AB.AD∈m.fl:=Gk f;have:=(hi.BF _ (.inl (g9.2 ⟨_,F,I⟩))).at_;exact k9 this hi.nw
  refine J6 ?_;refine JL (HQ I I hm.fa.1 C0 I)<|JL (Dx (v':=Og (m.fl.getD i AB.AD)) (I2 (xs:=m.fl) I AH C0) I)<|NN ?_;rintro _ _ ⟨K,rfl,rfl⟩;refine Bl (Ek I I Ca (AB.one (m.fl.getD i AB.AD)))<|Hb ?_;refine mA 14 14 ?_;refine DE ?_;refine JT 6 I (Tt (i:=4) (j:=m.x.waits) I I C0)<|JT 7 I (Wf (j:=32) I I)<|Be ?_;refine mC (λe=>?_) (λe=>?_)
  ·skip;have e:(m.fl.getD i AB.AD).at_+Oi m.s.waits≤m.s.now+1:=by
    have C:4*2^m.x.waits%18446744073709551616=4*2^m.x.waits:=pg C0;have A:(m.fl.getD i AB.AD).at_+min (4*2^m.x.waits%18446744073709551616) 32≤m.x.now+1:=e;rw[C]at A;exact A
   have V:m.s.Bp.any (λp=>decide (p.at_+Oi m.s.waits≤m.s.now+1))=true:=ki f (decide_eq_true e);refine J3 ?_;refine pF (Ao cb L*(HP.Bs*R)) (hE:=by rw[HP.BS,M R];exact AH)<|mE I (wI cb (t+1) L (λ_=>true) _ [] HP.Bs R w X C0 (λx a R2 _ _=>zh cb x a R2)) ?_;rintro _ _ ⟨Q,G,Y,rfl⟩;refine J3 ?_;refine A3 (H':=Ab cb Q.x*(AK Q.x.gq Q.ga Q.AR*(BU cb Q.ws*(B2 cb Q.rs*(EW Q*R))))) (by rw[HP.BS,E1]) ?_;have U:Q.x.waits=m.x.waits:=by
    have O:Q.s.waits=L.s.waits:=by rw[Y];rfl
    have h2:L.s.waits=m.s.waits:=by rw[S]
    exact O.trans h2
   refine J6 ?_;refine JL PE<|JL (Wf (j:=8) I I)<|Ei ?_;have ewr:m.s.tick={Q.s with waits:=min (Q.s.waits+1) 8}:=by
    unfold AO.tick;rw[AJ V,Y,S];rfl
   refine mR [] (Ao cb (Q.DM {Q.x with waits:=min (Q.x.waits+1) 8})*R) (hE:=by rw[E1];exact ML) I I ⟨Q.DM {Q.x with waits:=min (Q.x.waits+1) 8},⟨G.g,G.ws,G.rs,G.fl,G.lo,G.fa,G.la,G.fv,G.lv⟩,Cb,I⟩
  have e:¬((m.fl.getD i AB.AD).at_+Oi m.s.waits≤m.s.now+1):=by
   have C:4*2^m.x.waits%18446744073709551616=4*2^m.x.waits:=pg C0;have A:¬(m.fl.getD i AB.AD).at_+min (4*2^m.x.waits%18446744073709551616) 32≤m.x.now+1:=e;rw[C]at A;exact A
  refine Bt ?_;exact Bg (Ab cb {m.x with now:=m.x.now+1}*(AK m.x.gq m.ga m.AR*(BU cb m.ws*(B2 cb m.rs*(AC m.fa.b m.fa.o m.fl m.fa.s*(AC m.la.b m.la.o m.lo m.la.s*(AP BC m.fl*(AP BC m.lo*R))))))))<|BV (i+1) ⟨C0,λj hj=>by rcases ff j i with h|h;exact u j h;obtain rfl:j=i:=C0;exact decide_eq_false e⟩ C0 DJ I
 refine J4 ?_;have W:m.s.Bp.any (λp=>decide (p.at_+Oi m.s.waits≤m.s.now+1))=false:=Agd (λj hj=>u j C0);have ewr:m.s.tick=L.s:=by
  unfold AO.tick;rw[AF (by rw[W];simp),S]
 exact Nd (ts:=[]) (Ao cb L*R) (hE:=by rw[M R];exact AH) I I ⟨L,w,ewr.symm,I⟩
end
section
variable{B:World}
def ya(l n):decide (∃r∈l,r.lo≤n∧n≤r.hi)=BJ l n:=by
 apply L'.2;simp[BJ,Am9]
def Ac1(r:AS)(b number:Nat)(H:HP)[hb:Rd B H b (0+0) (uN number) True]:
  Fn prog B 214 [KL r,ptr b 0] H (λv S=>v=.bool (decide (r.lo≤number∧number≤r.hi))∧S=H):=by
 refine mI func214 ?_;refine J2 ?_;refine Ae (EB (l:=[uN r.lo,uN r.hi]) I I) I ?_;rintro _ _ ⟨Y,rfl,rfl⟩;refine CK ?_;refine DU 9 I (λK=>?_) (λK=>?_)
 ·refine Eh ?_;exact wN
 refine CY ?_;exact wN
def ut(cb bc:Nat)(x:CC)(a:Bi)(R:HP)(U:a.number<4611686018427387904):
  Fn prog B 215 [Og a,ptr bc 0] (Ab cb x*(AA bc 0 [ptr cb 0]*R)) (λv S=>v=.bool (decide (a.BF.number+3≤x.CB))∧S=Ab cb x*(AA bc 0 [ptr cb 0]*R)):=by
 refine mI func215 ?_;refine J2 ?_;refine Ae (EB (l:=DP a) I I) I ?_;rintro _ _ ⟨Y,rfl,rfl⟩;refine J4 ?_;refine mA 9 9 ?_;refine BE ?_;refine JT 2 I (LF (j:=3) I I C0)<|BQ ?_;exact mR [3] (Ab cb x*(AA bc 0 [ptr cb 0]*R)) I I Dj
structure ol(ws:List CH)(ws0:List At)(l:List AS)(pre:List Bi):Prop where
 QJ:∀w∈ws,w.ok
 mw:ws.map (·.w)=(pre.map (·.BF)).foldl (K3 l) ws0
def JA(cb:Nat)(e:List At)(l:List AS)(K:HP)(pre:List Bi):HP:=HP.ex λr:List CH=>HP.pr (ol r e l pre)*(BU cb r*K)
def At.Mp(w:At)(inn:Bool)(f:Af):At:=if inn=true∧f.kind=5∧f.data.size≠0 then
  {w with AG:=w.AG.add f.offset (f.offset+f.data.size-1),AM:=w.AM.add f.offset (f.offset+f.data.size-1)}else w
def Ack(w:At)(inn)(f:Af):w.named inn f={w.Mp inn f with ended:=(w.Mp inn f).ended||(inn&&decide (f.kind=5)&&f.fin)}:=rfl
def fH(s:ByteArray):(s≠⟨#[]⟩)↔s.size≠0:=by
 cases s with
 |mk d=>
  constructor
  ·intro h U;have M:d.size=0:=U;have Z:d= #[]:=by simpa using M
   exact h (by rw[Z])
  intro h U;cases U;exact h I
set_option maxHeartbeats 4000000 in
def vF(cb AI bl bc ws0 L l lp lb lo lc K)(hw0:El AI ws0)(hlok:∀m∈L,m.ok)(N:∀m∈L,∀g∈m.BF.A7,F8 ws0 g)(hfl:∀m∈L,aa m.fs<100000000)(W:∀m∈L,AZ B K m.a.b m.a.o m.fs)(hnm:∀m∈L,m.number<4611686018427387904)(hls:Sl lp lb lo (aa l) lc)(hll:aa l<100000000)[h1:Rd B K bl 0 (.slice lp (aa l) lc) True][h2:Rd B K bc 0 (ptr cb 0) True][h3:AZ B K lb lo l]:
  Tp B 212 [ptr bl 0,ptr bc 0] L (λm=>BJ l m.number) (JA cb ws0 l K):=by
 intro u fm R V;obtain⟨mm,hmm,V⟩:=V;have F:fm∈L:=Gp (i:=mm) (by rw[V];simp);have hsub:∀m∈u,m∈L:=λm hm=>Gp (i:=mm) (by rw[V];simp[hm]);have hfm:=hlok fm F;have hfl2:=hfl fm F;have hrd:=W fm F;have hnum:=hnm fm F;refine mI func212 ?_;unfold JA;refine OL ?_;rintro ws ⟨hz1,hz2⟩;obtain⟨wo1,wo2,_⟩:=P3 (AI:=AI) (l:=l) (u.map (·.BF)) ws0 hw0 (λp J g S=>by
  obtain⟨m,hm,rfl⟩:=g9.1 J;exact N m (hsub m hm) g S)
 rw[←hz2]at wo1 wo2;refine A3 (H':=BU cb ws*(K*R)) C4<|J2 ?_;refine Ae (EB (l:=DP fm) I I) I ?_;rintro _ _ ⟨b3,rfl,rfl⟩;refine Vb ?_;refine mE I (yv l lp lb lo lc _ [ptr b3 0] (λr=>r.lo≤fm.number∧fm.number≤r.hi) _ hls C0 (λr _=>Ac1 r b3 fm.number _))<|JR ?_;rw[ya];obtain⟨inn,hinn⟩:∃b:Bool,b=BJ l fm.number:=DF;rw[←hinn];refine J5 ?_;refine A3 (H':=BU cb ws*(K*(AA b3 0 (DP fm)*R))) C4<|gL ?_;refine Bf (α:=Nat×List CH) (λz=>[(1,ptr bl 0),(2,ptr bc 0),(3,ptr b3 0),(5,.bool inn),(13,.slice fm.a.p (aa fm.fs) fm.a.c),(14,iN (aa fm.fs)),(15,iN z.1)]) (λz=>BU cb z.2*(K*(AA b3 0 (DP fm)*R))) (λz=>z.1≤aa fm.fs∧(∀w∈z.2,w.ok)∧z.2.map (·.w)=((fm.fs.take z.1).map (·.f)).foldl (JB inn) (ws.map (·.w))) (λz=>aa fm.fs-z.1) (0,ws) ⟨bk _,hz1,I⟩ UK I ?_;rintro⟨i,wz⟩ ⟨q1,q2,M⟩;dsimp only at q1 q2 M⊢;obtain⟨ag1,ag2,_⟩:=Xf (AI:=AI) (inn:=inn) ((fm.fs.take i).map (·.f)) (ws.map (·.w)) wo1 (λg S=>by
  obtain⟨rr,hrr,rfl⟩:=g9.1 S;exact(N fm F rr.f j8).same wo2)
 rw[←M]at ag1 ag2;have hwl:aa wz=4:=by have:=ag1.len;simpa using this
 refine J6 ?_;refine mC (λh15=>?_) (λh15=>?_)
 ·skip;have hgd:fm.fs.getD i AD=fm.fs[i]:=by rw[ek,c8 h15];rfl
  have Q:F8 (wz.map (·.w)) (fm.fs.getD i AD).f:=by
   rw[hgd];exact((N fm F _ aG).same wo2).same ag2
  obtain⟨j,hst⟩:∃j:Nat,(fm.fs.getD i AD).f.stream=(j:Int):=⟨_,(x3 Q.1).symm⟩
  have hj:j<4:=by have:=Q.2.1;omega
  have hgw:(wz.map (·.w)).getD j BO=(wz.getD j AD).w:=by
   exact sI
  have hwj:=ag1.ok j hj;rw[hgw]at hwj;have C:=q2 _ (Gk (d:=AD) iB);have hbl:=hwj.len;have hfo5:=Q.2.2;rw[hst,dz,hgw]at hfo5;refine A3 (H':=AA cb (0+43+j*10) (DA (wz.getD j AD))*(DK (wz.getD j AD)*(Dl cb wz j*(K*(AA b3 0 (DP fm)*R))))) (by rw[Lw cb wz j C0];ac_rfl) ?_;generalize hwm:wz.getD j AD=wm at*;refine J6 ?_;refine JL (HQ I I hfm.1 C0 I)<|JL (Dx (v':=.agg (AN (fm.fs.getD i AD)).toArray) (I2 (xs:=fm.fs) I AH C0) I)<|Ae Qz I ?_;rintro _ _ ⟨b7,rfl,rfl⟩;refine Bl (Ek I I Ca (AB.one (fm.fs.getD i AD)))<|Hb ?_;refine Wu ?_;refine BB ?_;refine Bq (α:=Unit) (λ_=>[(35,.bool (decide (inn=true∧(fm.fs.getD i AD).f.kind=5∧(fm.fs.getD i AD).f.data.size≠0))),(7,ptr b7 0),(8,ptr cb (0+43+j*10)),(1,ptr bl 0),(2,ptr bc 0),(3,ptr b3 0),(5,.bool inn),(13,.slice fm.a.p (aa fm.fs) fm.a.c),(14,iN (aa fm.fs)),(15,iN i)]) (λ_=>AA b7 0 (AN (fm.fs.getD i AD))*(AA cb (0+43+j*10) (DA wm)*(DK wm*(Dl cb wz j*(K*(AA b3 0 (DP fm)*R)))))) (λ_=>True) ?_ ?_
  ·refine J3 ?_;refine Do 26 I (λhg1=>?_) (λhg1=>?_)
   ·have hb1:inn=true:=hg1;refine BB ?_;refine JL Tj<|BE ?_;refine DU 31 I (λhg2=>?_) (λhg2=>?_)
    ·refine BB ?_;refine JL (WH I I)<|BE ?_;exact WM
    refine BB ?_;exact WM
   have hb1:inn=false:=hg1;refine CY ?_;exact WM
  rintro _ _;refine J1 ?_;refine Bq (α:=CH) (λ_=>[(7,ptr b7 0),(8,ptr cb (0+43+j*10)),(1,ptr bl 0),(2,ptr bc 0),(3,ptr b3 0),(5,.bool inn),(13,.slice fm.a.p (aa fm.fs) fm.a.c),(14,iN (aa fm.fs)),(15,iN i)]) (λw1=>AA cb (0+43+j*10) (DA w1)*(DK w1*(Dl cb wz j*(AA b7 0 (AN (fm.fs.getD i AD))*(K*(AA b3 0 (DP fm)*R)))))) (λw1=>w1.ok∧w1.w=wm.w.Mp inn (fm.fs.getD i AD).f) ?_ ?_
  ·refine mC (λh35=>?_) (λh35=>?_)
   ·skip;have hnm1:wm.w.Mp inn (fm.fs.getD i AD).f={wm.w with AG:=wm.w.AG.add (fm.fs.getD i AD).f.offset ((fm.fs.getD i AD).f.offset+(fm.fs.getD i AD).f.data.size-1),AM:=wm.w.AM.add (fm.fs.getD i AD).f.offset ((fm.fs.getD i AD).f.offset+(fm.fs.getD i AD).f.data.size-1)}:=by unfold At.Mp;rw[AJ h35]
    have hb5:=hfo5 h35.2.1;have hsz:=h35.2.2;refine A3 (H':=AK wm.cq wm.ca wm.w.AG*(AA cb (0+43+j*10) (DA wm)*(AC wm.a.b wm.a.o wm.w.b wm.a.s*(AK wm.sq wm.sa wm.w.AM*(Dl cb wz j*(AA b7 0 (AN (fm.fs.getD i AD))*(K*(AA b3 0 (DP fm)*R)))))))) PX<|J1 ?_;refine mA 14 15 ?_;refine FM ?_;refine Au 14 C1 I I (Bd I (Mr wm.cq _ _ (aa wm.w.b) wm.ca wm.w.AG _ C.2.2 hwj.co C0 C0 (by rw[hwj.cm];omega) (by rw[hwj.cm];omega))) ?_;rintro _ _ ⟨O,hs50,rfl⟩;refine FF ?_;refine BE ?_;refine A3 (H':=AK wm.sq wm.sa wm.w.AM*(AA cb (0+43+j*10) (DA wm)*(AC wm.a.b wm.a.o wm.w.b wm.a.s*(AK wm.cq O (wm.w.AG.add (fm.fs.getD i AD).f.offset ((fm.fs.getD i AD).f.offset+(fm.fs.getD i AD).f.data.size-1))*(Dl cb wz j*(AA b7 0 (AN (fm.fs.getD i AD))*(K*(AA b3 0 (DP fm)*R)))))))) C4<|mA 14 15 ?_;refine DE ?_;refine Be ?_;refine Au 14 C1 I I (Bd I (Mr wm.sq _ _ (aa wm.w.b) wm.sa wm.w.AM _ C.2.1 hwj.so C0 C0 (by rw[hwj.sm];omega) (by rw[hwj.sm];omega))) ?_;rintro _ _ ⟨a65,hs65,rfl⟩;refine FF ?_;refine A4 ?_;refine Bg (AA cb (0+43+j*10) (DA {wm with w:=wm.w.Mp inn (fm.fs.getD i AD).f,sa:=a65,ca:=O})*(DK {wm with w:=wm.w.Mp inn (fm.fs.getD i AD).f,sa:=a65,ca:=O}*(Dl cb wz j*(AA b7 0 (AN (fm.fs.getD i AD))*(K*(AA b3 0 (DP fm)*R)))))) (hE:=?_) ?_
    ·refine⟨λww X=>Eq.mp ?_ X⟩;congr 1;unfold DK;dsimp only;rw[hnm1];show _=AA cb (0+43+j*10) (DA wm)*(AC wm.a.b wm.a.o wm.w.b wm.a.s*(AK wm.sq a65 (wm.w.AM.add (fm.fs.getD i AD).f.offset ((fm.fs.getD i AD).f.offset+(fm.fs.getD i AD).f.data.size-1))*AK wm.cq O (wm.w.AG.add (fm.fs.getD i AD).f.offset ((fm.fs.getD i AD).f.offset+(fm.fs.getD i AD).f.data.size-1)))*(Dl cb wz j*(AA b7 0 (AN (fm.fs.getD i AD))*(K*(AA b3 0 (DP fm)*R)))));ac_rfl
    exact An _ ⟨by rw[hnm1];exact⟨C.1,hs65,hs50⟩,I⟩ Pq I
   refine J1 ?_;exact An wm ⟨C,by unfold At.Mp;rw[AF h35]⟩ Pq (by show _=AA cb (0+43+j*10) (DA wm)*(DK wm*(Dl cb wz j*(AA b7 0 (AN (fm.fs.getD i AD))*(K*(AA b3 0 (DP fm)*R)))));ac_rfl)
  rintro w1 ⟨hw1,hw1e⟩;refine J1 ?_;refine Bq (α:=CH) (λ_=>[(1,ptr bl 0),(2,ptr bc 0),(3,ptr b3 0),(5,.bool inn),(13,.slice fm.a.p (aa fm.fs) fm.a.c),(14,iN (aa fm.fs)),(15,iN i)]) (λY=>AA cb (0+43+j*10) (DA Y)*(DK Y*(Dl cb wz j*(AA b7 0 (AN (fm.fs.getD i AD))*(K*(AA b3 0 (DP fm)*R)))))) (λY=>Y.ok∧Y.w=wm.w.named inn (fm.fs.getD i AD).f) ?_ ?_
  ·refine J7 ?_;refine Do 71 I (λhg3=>?_) (λhg3=>?_)
   ·have he1:w1.w.ended=true:=hg3;refine Eh ?_;exact Rs
   have he1:w1.w.ended=false:=hg3;refine Bn ?_;refine Do 73 I (λhg4=>?_) (λhg4=>?_)
   ·have hi9:inn=true:=hg4;refine BB ?_;refine JL Tj<|Bn ?_;refine DU 78 I (λhg5=>?_) (λhg5=>?_)
    ·have hk9:(fm.fs.getD i AD).f.kind=5:=hg5;refine CK ?_;exact Rs
    have hk9:¬(fm.fs.getD i AD).f.kind=5:=hg5;refine BQ ?_;exact Rs
   have hi9:inn=false:=hg4;refine E6 ?_;exact Rs
  rintro Y ⟨U,hw2e⟩;refine DE ?_;refine Bg (BU cb (wz.set j Y)*(K*(AA b3 0 (DP fm)*R))) (hE:=?_) ?_
  ·rw[Nb cb wz j Y C0];exact⟨λww X=>Sat.right (A:=AA b7 0 (AN (fm.fs.getD i AD))) (Eq.mp Cp X)⟩
  exact BV (i+1,wz.set j Y) ⟨C0,λa ha=>NF (P:=CH.ok) q2 U ha,by
   show(wz.set j Y).map (·.w)=((fm.fs.take (i+1)).map (·.f)).foldl (JB inn) (ws.map (·.w));rw[D',hw2e,Kk h15,n8,tg,←M];show _=JB inn (wz.map (·.w)) (fm.fs[i]).f;rw[←hgd];unfold JB;rw[hst,dz,hgw]⟩ tP UK I
 refine Fi ?_;obtain rfl':i=aa fm.fs:=C0;rw[rfl',pq]at M;exact mR [4] (JA cb ws0 l K (u++[fm])*R) (hE:=⟨λww X=>LI (G:=AA b3 0 (DP fm)) wz ⟨q2,by rw[n8,tg,←hz2,M,hinn];rfl⟩ (by show _=AA b3 0 (DP fm)*(BU cb wz*K*R);ac_rfl) ww X⟩) I I ⟨by rw[hinn];rfl,I⟩
def qA{cb e l pre K R w}(h:Sat B (JA cb e l K pre*R) w):Sat B (K*R) w:=by
 unfold JA at h;rw[LH]at h;obtain⟨z,h⟩:=Sat.ex.1 h;rw[HP.assoc]at h;have U:=(Sat.pr.1 h).2;rw[HP.assoc]at U;exact U.right
def Yy{m:Ak}(hi:Aq t m.s)(ht:t<1000000)(a:Bi)(ha:a∈m.fl∨a∈m.lo):a.number<4611686018427387904:=by
 have O:=hi.nx;have U:a.BF.number<m.s.next:=by
  obtain ha|ha:=ha
  ·exact(hi.BF a.BF V5).num
  exact(hi.BF a.BF VR).num
 have M:a.number<m.s.next:=U;omega
def ku{m:Ak}(hi:Aq t m.s):∀a∈m.lo,aa a.fs<100000000:=λa ha=>by
 have:=(hi.BF a.BF VR).len;have e:aa a.BF.A7=aa a.fs:=eh _;omega
set_option maxHeartbeats 4000000 in
def Ad7(cb t)(m:Ak)(l lp lb lo lc R)(hm:m.ok)(hi:Aq t m.s)(ht:t<1000000)(hls:Sl lp lb lo (aa l) lc)(hr:AZ B R lb lo l)(hl0:0<aa l)(S:aa l<100000000)(hhi:(rg l 0).hi<9000000000000000000):
  Fn prog B 183 [ptr cb 0,.slice lp (aa l) lc] (Ao cb m*R)
   (λv H'=>∃N:Ak,N.ok∧N.s=(m.s.EY l).2∧v=iN (m.s.EY l).1∧H'=Ao cb N*R):=by
 refine mI func183 ?_;have L:=ZQ hi ht;refine NZ ?_;rintro _ _ ⟨Y,rfl,rfl⟩;refine Nf ?_;rintro _ _ ⟨K,rfl,rfl⟩;refine BB ?_;refine A3 (H':=AA K 0 [.slice lp (aa l) lc]*(AA Y 0 [ptr cb 0]*(Ab cb m.x*(AK m.x.gq m.ga m.AR*(BU cb m.ws*(B2 cb m.rs*(AC m.fa.b m.fa.o m.fl m.fa.s*(AC m.la.b m.la.o m.lo m.la.s*(AP BC m.fl*(AP BC m.lo*R)))))))))) ZM ?_;have hrR:=hr;refine mA 9 9 ?_;refine A4 ?_;refine JT 1 I fU<|A4 ?_;refine JT 3 I bE<|Bt ?_;refine mC (λh15=>?_) (λh15=>?_)
 ·have h15:m.s.next≤(rg l 0).hi:=h15;refine Bt ?_;refine mR [4] (Ao cb m*R) (hE:=?_) I I ⟨m,hm,by unfold EY;rw[AJ h15],by unfold EY;rw[AJ h15];rfl,I⟩;exact⟨λO X=>Sat.right (A:=AA K 0 [.slice lp (aa l) lc]*AA Y 0 [ptr cb 0]) (Eq.mp (by congr 1;unfold Ao EW Am.h;ac_rfl) X)⟩
 have h15:¬m.s.next≤(rg l 0).hi:=h15;refine J3 ?_;refine mA 12 13 ?_;refine DE ?_;refine JT 6 I fU<|A4 ?_;refine JT 8 I bE<|JT 9 I MK<|DY ?_;refine A3 (H':=AA K 0 [.slice lp (aa l) lc]*(AA Y 0 [ptr cb 0]*(Ab cb {m.x with CB:=max m.x.CB (rg l 0).hi}*(AK m.x.gq m.ga m.AR*(BU cb m.ws*(B2 cb m.rs*(AC m.fa.b m.fa.o m.fl m.fa.s*(AC m.la.b m.la.o m.lo m.la.s*(AP BC m.fl*(AP BC m.lo*R)))))))))) (by first|ac_rfl|dsimp only)<|EI (AA K 0 [.slice lp (aa l) lc]*(AA Y 0 [ptr cb 0]*Ab cb {m.x with CB:=max m.x.CB (rg l 0).hi})) 9 10 EO I C1<|Bn ?_;refine JT 4 I (Dx Gr hm.lv)<|A4 ?_
 refine Vy (JA cb m.s.ws l (AA K 0 [.slice lp (aa l) lc]*(AA Y 0 [ptr cb 0]*(AP BC m.fl*(AP BC m.lo*R)))) []*(AC m.la.b m.la.o m.lo m.la.s*(Ab cb {m.x with CB:=max m.x.CB (rg l 0).hi}*(AK m.x.gq m.ga m.AR*(B2 cb m.rs*AC m.fa.b m.fa.o m.fl m.fa.s))))) (hE:=⟨λO X=>?_⟩) ?_
 ·exact KP m.ws ⟨hm.ws,I⟩ C4 O X
 have hkl:∀a∈m.lo,AZ B (AA K 0 [.slice lp (aa l) lc]*(AA Y 0 [ptr cb 0]*(AP BC m.fl*(AP BC m.lo*R)))) a.a.b a.a.o a.fs:=λa U=>by have:=V0 (B:=B) U;exact AH
 have hkf:∀a∈m.fl,AZ B (AA K 0 [.slice lp (aa l) lc]*(AA Y 0 [ptr cb 0]*(AP BC m.fl*(AP BC m.lo*R)))) a.a.b a.a.o a.fs:=λa U=>by have:=V0 (B:=B) U;exact AH
 refine Au 6 C1 I I (Bd I (Vk m.lo m.la.p m.la.b m.la.o m.la.c m.la.s _ [ptr K 0,ptr Y 0] (λa=>BJ l a.number) (JA cb m.s.ws l (AA K 0 [.slice lp (aa l) lc]*(AA Y 0 [ptr cb 0]*(AP BC m.fl*(AP BC m.lo*R))))) (Ab cb {m.x with CB:=max m.x.CB (rg l 0).hi}*(AK m.x.gq m.ga m.AR*(B2 cb m.rs*AC m.fa.b m.fa.o m.fl m.fa.s))) hm.la.1 hm.la.2 C0 (vF cb m.x.AI K Y m.s.ws m.lo l lp lb lo lc (AA K 0 [.slice lp (aa l) lc]*(AA Y 0 [ptr cb 0]*(AP BC m.fl*(AP BC m.lo*R)))) hi.ws hm.lo (uQ hi) (ku hi) hkl (λa U=>Yy hi ht a (.inr U)) hls S))) ?_;rintro _ _ ⟨p35,r,f,u,s35,rfl,hs35,hc35,rfl⟩;refine⟨.inr ⟨λO X=>CM.get (B:=B) (H:=(AA K 0 [.slice lp (aa l) lc]*(AA Y 0 [ptr cb 0]*(AP BC m.fl*(AP BC m.lo*R))))*(AC r f (m.lo.filter (λx=> !BJ l x.number)) s35*(Ab cb {m.x with CB:=max m.x.CB (rg l 0).hi}*(AK m.x.gq m.ga m.AR*(B2 cb m.rs*AC m.fa.b m.fa.o m.fl m.fa.s))))) O (qA (Eq.mp Cp X))⟩,?_⟩;refine F9 (H':=JA cb m.s.ws l (AA K 0 [.slice lp (aa l) lc]*(AA Y 0 [ptr cb 0]*(AP BC m.fl*(AP BC m.lo*R)))) m.lo*(AC r f (m.lo.filter (λx=> !BJ l x.number)) s35*(Ab cb {m.x with CB:=max m.x.CB (rg l 0).hi}*(AK m.x.gq m.ga m.AR*(B2 cb m.rs*AC m.fa.b m.fa.o m.fl m.fa.s))))) C4 ?_;unfold JA;refine Xa ?_;rintro ws1 ⟨hw1,e⟩;refine BE ?_;refine GO 9 C1 I (Eu (v:=.slice p35 (aa (m.lo.filter (λx=> !BJ l x.number))) u) I I I trivial)<|FZ ?_;refine A5 ?_;refine A3 (H':=AA K 0 [.slice lp (aa l) lc]*(AA Y 0 [ptr cb 0]*(Ab cb {m.x with CB:=max m.x.CB (rg l 0).hi,lv:=.slice p35 (aa (m.lo.filter (λx=> !BJ l x.number))) u}*(AK m.x.gq m.ga m.AR*(BU cb ws1*(B2 cb m.rs*(AC m.fa.b m.fa.o m.fl m.fa.s*(AC r f (m.lo.filter (λx=> !BJ l x.number)) s35*(AP BC m.fl*(AP BC m.lo*R)))))))))) C4<|J4 ?_;refine JL TF<|J6 ?_;refine EI (AA K 0 [.slice lp (aa l) lc]*(AA Y 0 [ptr cb 0]*Ab cb {m.x with CB:=max m.x.CB (rg l 0).hi,lv:=.slice p35 (aa (m.lo.filter (λx=> !BJ l x.number))) u})) 9 10 EO I C1<|Bn ?_;refine JT 4 I TF<|A4 ?_;refine Vy (JA cb (ws1.map (·.w)) l (AA K 0 [.slice lp (aa l) lc]*(AA Y 0 [ptr cb 0]*(AP BC m.fl*(AP BC m.lo*R)))) []*(AC m.fa.b m.fa.o m.fl m.fa.s*(Ab cb {m.x with CB:=max m.x.CB (rg l 0).hi,lv:=.slice p35 (aa (m.lo.filter (λx=> !BJ l x.number))) u}*(AK m.x.gq m.ga m.AR*(B2 cb m.rs*AC r f (m.lo.filter (λx=> !BJ l x.number)) s35))))) (hE:=⟨λO X=>?_⟩) ?_
 ·exact KP ws1 ⟨hw1,I⟩ C4 O X
 obtain⟨n1,F,_⟩:=P3 (AI:=m.x.AI) (l:=l) (m.lo.map (·.BF)) m.s.ws hi.ws (λp J g hg=>by
  obtain⟨a,U,rfl⟩:=g9.1 J;exact uQ hi a U g hg)
 rw[←e]at n1 F;refine Au 6 C1 I I (Bd I (Vk m.fl m.fa.p m.fa.b m.fa.o m.fa.c m.fa.s _ [ptr K 0,ptr Y 0] (λa=>BJ l a.number) (JA cb (ws1.map (·.w)) l (AA K 0 [.slice lp (aa l) lc]*(AA Y 0 [ptr cb 0]*(AP BC m.fl*(AP BC m.lo*R))))) (Ab cb {m.x with CB:=max m.x.CB (rg l 0).hi,lv:=.slice p35 (aa (m.lo.filter (λx=> !BJ l x.number))) u}*(AK m.x.gq m.ga m.AR*(B2 cb m.rs*AC r f (m.lo.filter (λx=> !BJ l x.number)) s35))) hm.fa.1 hm.fa.2 C0 (vF cb m.x.AI K Y (ws1.map (·.w)) m.fl l lp lb lo lc (AA K 0 [.slice lp (aa l) lc]*(AA Y 0 [ptr cb 0]*(AP BC m.fl*(AP BC m.lo*R)))) n1 hm.fl (λa U g hg=>(wV hi a U g hg).same F) (nB hi) hkf (λa U=>Yy hi ht a (.inl U)) hls S))) ?_;rintro _ _ ⟨p49,b49,o49,c49,s49,rfl,hs49,hc49,rfl⟩;refine⟨.inr ⟨λO X=>CM.get (B:=B) (H:=(AA K 0 [.slice lp (aa l) lc]*(AA Y 0 [ptr cb 0]*(AP BC m.fl*(AP BC m.lo*R))))*(AC b49 o49 (m.fl.filter (λx=> !BJ l x.number)) s49*(Ab cb {m.x with CB:=max m.x.CB (rg l 0).hi,lv:=.slice p35 (aa (m.lo.filter (λx=> !BJ l x.number))) u}*(AK m.x.gq m.ga m.AR*(B2 cb m.rs*AC r f (m.lo.filter (λx=> !BJ l x.number)) s35))))) O (qA (Eq.mp Cp X))⟩,?_⟩;refine F9 (H':=JA cb (ws1.map (·.w)) l (AA K 0 [.slice lp (aa l) lc]*(AA Y 0 [ptr cb 0]*(AP BC m.fl*(AP BC m.lo*R)))) m.fl*(AC b49 o49 (m.fl.filter (λx=> !BJ l x.number)) s49*(Ab cb {m.x with CB:=max m.x.CB (rg l 0).hi,lv:=.slice p35 (aa (m.lo.filter (λx=> !BJ l x.number))) u}*(AK m.x.gq m.ga m.AR*(B2 cb m.rs*AC r f (m.lo.filter (λx=> !BJ l x.number)) s35))))) C4 ?_;unfold JA;refine Xa ?_;rintro ws2 ⟨hw2,hw2e⟩;refine BE ?_;refine GO 9 C1 I (Eu (v:=.slice p49 (aa (m.fl.filter (λx=> !BJ l x.number))) c49) I I I trivial)<|FZ ?_;refine Bt ?_;refine JL (Dx (v':=.slice p49 (aa (m.fl.filter (λx=> !BJ l x.number))) c49) Gr I)<|J5 ?_;refine Bq (α:=Unit) (λ_=>[(2,ptr Y 0)]) (λ_=>Ab cb {m.x with CB:=max m.x.CB (rg l 0).hi,lv:=.slice p35 (aa (m.lo.filter (λx=> !BJ l x.number))) u,fv:=.slice p49 (aa (m.fl.filter (λx=> !BJ l x.number))) c49,waits:=if(m.fl.filter (λx=> !BJ l x.number)).length<(aa m.fl) then 0 else m.x.waits}*(AK m.x.gq m.ga m.AR*(BU cb ws2*(B2 cb m.rs*(AC b49 o49 (m.fl.filter (λx=> !BJ l x.number)) s49*(AC r f (m.lo.filter (λx=> !BJ l x.number)) s35*(AP BC m.fl*(AP BC m.lo*(AA Y 0 [ptr cb 0]*R))))))))) (λ_=>True) ?_ ?_
 ·refine mC (λh58=>?_) (λh58=>?_)
  ·refine J4 ?_;refine Bl (Eu (v:=.int .u64 (0:Nat)) I I I Cf)<|GZ ?_;exact Bg (Ab cb {m.x with CB:=max m.x.CB (rg l 0).hi,lv:=.slice p35 (aa (m.lo.filter (λx=> !BJ l x.number))) u,fv:=.slice p49 (aa (m.fl.filter (λx=> !BJ l x.number))) c49,waits:=if(m.fl.filter (λx=> !BJ l x.number)).length<(aa m.fl) then 0 else m.x.waits}*(AK m.x.gq m.ga m.AR*(BU cb ws2*(B2 cb m.rs*(AC b49 o49 (m.fl.filter (λx=> !BJ l x.number)) s49*(AC r f (m.lo.filter (λx=> !BJ l x.number)) s35*(AP BC m.fl*(AP BC m.lo*(AA Y 0 [ptr cb 0]*R))))))))) (hE:=⟨λO X=>Sat.right (A:=AA K 0 [.slice lp (aa l) lc]) (Eq.mp (by congr 1;rw[AJ h58];ac_rfl) X)⟩)<|An () trivial Jz I
  refine J1 ?_;exact Bg (Ab cb {m.x with CB:=max m.x.CB (rg l 0).hi,lv:=.slice p35 (aa (m.lo.filter (λx=> !BJ l x.number))) u,fv:=.slice p49 (aa (m.fl.filter (λx=> !BJ l x.number))) c49,waits:=if(m.fl.filter (λx=> !BJ l x.number)).length<(aa m.fl) then 0 else m.x.waits}*(AK m.x.gq m.ga m.AR*(BU cb ws2*(B2 cb m.rs*(AC b49 o49 (m.fl.filter (λx=> !BJ l x.number)) s49*(AC r f (m.lo.filter (λx=> !BJ l x.number)) s35*(AP BC m.fl*(AP BC m.lo*(AA Y 0 [ptr cb 0]*R))))))))) (hE:=⟨λO X=>Sat.right (A:=AA K 0 [.slice lp (aa l) lc]) (Eq.mp (by congr 1;rw[AF h58];ac_rfl) X)⟩)<|An () trivial Jz I
 rintro _ _;refine J2 ?_;obtain⟨Q,W⟩:∃Q:Ak,Q=⟨{m.x with CB:=max m.x.CB (rg l 0).hi,lv:=.slice p35 (aa (m.lo.filter (λx=> !BJ l x.number))) u,fv:=.slice p49 (aa (m.fl.filter (λx=> !BJ l x.number))) c49,waits:=if(m.fl.filter (λx=> !BJ l x.number)).length<(aa m.fl) then 0 else m.x.waits},m.AR,m.ga,ws2,m.rs,m.fl.filter (λx=> !BJ l x.number),m.lo.filter (λx=> !BJ l x.number),⟨p49,b49,o49,c49,s49⟩,⟨p35,r,f,u,s35⟩⟩:=DF;have G:Q.ok:=by
  rw[W];exact⟨hm.g,hw2,hm.rs,λa U=>hm.fl a (o4.1 U).1,λa U=>hm.lo a (o4.1 U).1,⟨hs49,hc49⟩,⟨hs35,hc35⟩,I,I⟩
 have C:(m.fl.filter (λx=> !BJ l x.number)).map (·.BF)=(m.fl.map (·.BF)).filter (λp=> !BJ l p.number):=UR m.fl (λp=> !BJ l p.number);have M:(m.lo.filter (λx=> !BJ l x.number)).map (·.BF)=(m.lo.map (·.BF)).filter (λp=> !BJ l p.number):=UR m.lo (λp=> !BJ l p.number);have hs2:Q.s=m.s.IW l:=by
  rw[W];unfold IW Ak.s;dsimp only;rw[hw2e,e,←C,←M,eh,eh];rfl
 have hi2:Aq t Q.s:=by rw[hs2];exact(hi.IW l C0).1
 refine I4 (Ao cb Q*(AA Y 0 [ptr cb 0]*R)) (hE:=?_) ?_
 ·rw[W];refine⟨λO X=>?_⟩;refine Sat.right (A:=AP BC (m.fl.filter (λx=>BJ l x.number))*AP BC (m.lo.filter (λx=>BJ l x.number)))<|Eq.mp ?_ X;congr 1;unfold Ao EW Am.h;dsimp only;rw[S5 BC (λa:Bi=>BJ l a.number) m.fl,S5 BC (λa:Bi=>BJ l a.number) m.lo];ac_rfl
 refine A5 ?_;refine mE I (wI cb t Q (λp=>decide (p.number+3≤Q.x.CB)) _ [ptr Y 0] (AA Y 0 [ptr cb 0]) R G hi2 ht (λx a R2 hx U=>by have:=ut (B:=B) cb Y x a R2 (Yy hi2 ht a (.inl U));rw[hx]at this;exact this)) ?_;rintro _ _ ⟨m3,V,hs3,rfl⟩;refine Be ?_;have ewr:m.s.EY l=(0,m3.s):=by
  unfold EY;rw[AF h15,hs3,←hs2];rfl
 exact mR [4] (Ao cb m3*R) (hE:=⟨λO X=>Sat.right (A:=AA Y 0 [ptr cb 0]) (Eq.mp Cp X)⟩) I I ⟨m3,V,Cj,Cb,I⟩
end
section
section
variable{P:Program}{B:World}{n:Nat}{E:A8}{D:CW}{H R:HP}{d:Option Tmp}{T T' ty:TypeId}{pos:String}{af:Array Edge}{g:Option (Nat×Bool)}{x y z:Operand}
def Abt{h:Nat}{J:IntKind}[hT:Aw P T .string](F:ev E x=some (.string s))(G:ev E y=some (.int J h))(Y:h≤s.size):
  AY P B n ⟨d,.slice T x none (some y) none,ty,pos,af,g⟩ E H (.string (s.extract 0 h)):=by
 intro a w N _;simp only[A9,BL,Dp,CT,DQ,EP,EX,Ej,B3,BX,true_and,and_true,and_self,execOp,N.ev F,i',Ajd,N.ev G,Instr.sliceAt,Instr.slice,Instr.sliceBounds,bn,A6 hT.get,b0,bp,IQ Y,IY Y,Ajf,v8,if_false,pure_bind]
 try rfl
def rO{l h:Nat}{J o:IntKind}[hT:Aw P T .string](F:ev E x=some (.string s))(G:ev E y=some (.int J l))(hz:ev E z=some (.int o h))(Y:l≤h∧h≤s.size):
  AY P B n ⟨d,.slice T x (some y) (some z) none,ty,pos,af,g⟩ E H (.string (s.extract l h)):=by
 intro a w N _;simp only[A9,BL,Dp,CT,DQ,EP,EX,Ej,B3,BX,true_and,and_true,and_self,execOp,N.ev F,i',Ajd,N.ev G,N.ev hz,Instr.sliceAt,Instr.slice,Instr.sliceBounds,bn,A6 hT.get,b0,bp,IQ Y.1,IQ Y.2,IY Y.1,IY Y.2,Ajf,v8,if_false,pure_bind]
 try rfl
def fF(s:ByteArray)(l h):(s.extract l h).data.toList=(s.data.toList.take h).drop l:=by
 rw[ByteArray.data_extract,Ams,Alw,Amt]
def Yk(xs:List UInt8)(l h):(BR xs).extract l h=BR ((xs.take h).drop l):=by
 have:=fF (BR xs) l h;rw[←Sk ((BR xs).extract l h),this];simp[BR]
def ra{sT xT e b o dl N k p}{ys:List UInt8}{L:List Value}[hT:Aw P sT (.slice e)][hz:CG P e 1](j:ev E x=some (.slice p dl N))(hs:Sl p b (o+k*1) dl N)(G:ev E y=some (.string s))(hm:ys=s.data.toList.take (min s.size dl))(J:k+dl≤aa L):
  DT P B n ⟨d,.call ⟨.builtin .copy,#[x,y],#[sT,xT]⟩,ty,pos,af,g⟩ E D (AA b o L*R)
   (λv S=>v=.int .i64 (aa ys:Nat)∧S=AA b o (L.take k++AE ys++L.drop (k+aa ys))*R):=by
 intro a w O _ h3 K Q Z;have h:aa ys=min s.size dl:=by
  rw[hm,hZ];have:aa s.data.toList=s.size:=rfl;omega
 have W:Nat.min s.size dl=aa ys:=h.symm;have r:(a9 1 (aa ys) (.string s)).run P w=.ok (AE ys).toArray w:=by
  simp only[a9,bp];congr 1;apply Akg.1;rw[Ajs,ByteArray.data_extract,Ams,Alw,h];rw[hm];simp only[Amq,H0];rw[qB];rfl
 have u:A9 B.heap.size P (a9 1 (aa ys) (.string s)) w:=by simp[a9]
 have U:∃V,((match p with|some q=>storeCells q (AE ys)|none=>pure ()).run P w)=.ok () V∧
   Sat B (AA b o (L.take k++AE ys++L.drop (k+aa ys))*R) V∧
   A9 B.heap.size P (match p with|some q=>storeCells q (AE ys)|none=>pure ()) w:=by
  obtain C|rfl:=hs.1
  ·exact oT
  rw[Vc b o k L C0,HP.assoc,EM]at h3;have F:aa (AE ys)=aa ys:=by rw[CV];simp
  have Y:aa (AE ys)≤aa (L.drop k):=by rw[F,di];omega
  obtain⟨V,m,c,i⟩:=Sat.ME (P:=P) (AE ys) (o+k*1) 0 (L.drop k) _ w Y (Lr _) (by rw[s6];exact h3);refine⟨V,m,?_,i _ _⟩;rw[EM,←HP.assoc,Q']at c;have M:aa (L.take k)=k:=Qt;have A:AA b o (L.take k++AE ys++L.drop (k+aa ys))=AA b o (L.take k)*AA b (o+k) (AE ys++L.drop (k+aa (AE ys))):=by
   rw[c5,HF,M,F]
  rw[A];rw[s6]at c
  first|exact c|(rw[An2]at c;exact c)
 obtain⟨V,m,c,i⟩:=U;have f:(execOp a.eval ⟨d,.call ⟨.builtin .copy,#[x,y],#[sT,xT]⟩,ty,pos,af,g⟩).run P w=.ok (.value (.int .i64 (aa ys:Nat))) V:=by
  simp only[execOp,resolve,hI,hP,oq,O.ev j,O.ev G,bn,bp,b0,invoke,builtin];simp only[c6];simp only[Aml,Ama,Amb,A6 hT.get,eo,bn,bp,b0,W,hz.get,r,pure_bind,goInt];cases p with
  |none=>simp only[bp]at m;cases m;rfl
  |some q=>simp only[bn,m,b0];rfl
 refine Gg ?_ f (Z _ _ _ Dj c);simp only[execOp,resolve,hI,hP,oq,O.ev j,O.ev G,invoke,builtin];simp only[c6];simp only[A9,BL,Dp,CT,DQ,EP,EX,Ej,B3,BX,true_and,and_true,and_self,Aml,Ama,Amb,A6 hT.get,eo,bn,bp,b0,W,hz.get,r,u,pure_bind,goInt];cases p with
 |none=>trivial
 |some q=>simp only[BL,bn,b0,bp,m,BX,B3,and_true];exact i
def vU{k:IntKind}{i j:Int}(F:ev E x=some (.int k i))(G:ev E y=some (.int k j)):AY P B n ⟨d,.call ⟨.builtin .max,#[x,y],#[T,T']⟩,ty,pos,af,g⟩ E H (.int k (if i<j then j else i)):=by
 intro a w N _;constructor<;>simp[execOp,N.ev F,N.ev G,resolve,invoke,builtin,Builtin.max_,Builtin.max2]
def bw{e sz}[hT:Aw P T (.slice e)][hz:CG P e sz]:
  DT P B n ⟨d,.buildSlice T 0 #[],ty,pos,af,g⟩ E D H (λv S=>∃b,v=.slice (some ⟨b,0,none⟩) 0 0∧S=AC b 0 ([]:List UInt8) []*H):=by
 intro a w O _ M K Q Z;have q:(execOp a.eval ⟨d,.buildSlice T 0 #[],ty,pos,af,g⟩).run P w=.ok (.value (.slice (some ⟨w.heap.size,0,none⟩) 0 0)) (w.alloc (.cells #[] e)):=by
  simp[execOp,Instr.buildSlice,A6 hT.get,hz.get,Instr.fill,newRow];have:Array.map (λ_=>(default:Value)) (Array.range 0)= #[]:=C3;rw[this]
 refine Gg (by simp[execOp,Instr.buildSlice,A6 hT.get,hz.get,Instr.fill,newRow]) q (Z _ _ _ ⟨w.heap.size,I,I⟩ ?_);have:=M.alloc #[] e C3;rw[GY,BS];exact this.right
end
end
section
variable{B:World}
def H_(d:ByteArray)(l h n dl)(J:l≤h)(Y:h≤d.size)(G:n=h-l)(F:n≤dl):(d.data.toList.drop l).take n=(d.extract l h).data.toList.take (min (d.extract l h).size dl):=by
 have L:(d.extract l h).size=n:=by rw[ByteArray.size_extract];omega
 rw[L,n6 F,fF,Amt,List.take_take,G,Nat.min_self]
structure RJ where
 n:Nat
 lo:Nat
 b:List UInt8
 AG:Ba
 ca:DO
set_option maxHeartbeats 4000000 in
def kf(b o t AI)(rm:FA)(r:RF)(R)(N:rm.ok)(hr:Hc AI t rm.r)(hw:AI≤1024)(hf:GI r.f)(V:r.f.kind=5)(hb:rm.r.given=false→r.f.offset+r.f.data.size≤rm.r.read+AI)(ht:t<1000000):
  Fn prog B 184 [ptr b o,.agg (AN r).toArray] (AA b o (Er rm)*(Dq rm*R))
   (λv H'=>∃rm2:FA,rm2.ok∧rm2.r=(rm.r.data r.f).2∧v=iN (rm.r.data r.f).1∧H'=AA b o (Er rm2)*(Dq rm2*R)):=by
 refine mI func184 ?_;have hl:=hr.len;have hrh:=hr.rh;have hhw:=hr.hw;have hrt:=hr.rt;have hoff:=hf.2.2.2.1;have hoe:=hf.2.2.2.2.1 V;refine I8 ?_;rintro _ _ ⟨b3,rfl,rfl⟩;refine IU ?_;refine Bq (α:=Unit) (λ_=>[(15,.bool (decide (rm.r.ended=true∧(rm.r.end_<(r.f.offset+r.f.data.size)∨r.f.fin=true∧(r.f.offset+r.f.data.size)≠rm.r.end_)))),(0,ptr b o),(3,ptr b3 0),(5,uN (r.f.offset+r.f.data.size))]) (λ_=>AA b3 0 (AN r)*(AA b o (Er rm)*(Dq rm*R))) (λ_=>True) ?_ ?_
 ·refine J6 ?_;refine Do 20 I (λK=>?_) (λK=>?_)
  ·have he:rm.r.ended=true:=K;refine FM ?_;refine DU 27 I (λhg2=>?_) (λhg2=>?_)
   ·have hgt:rm.r.end_<(r.f.offset+r.f.data.size):=hg2;refine Eh ?_;exact SZ
   have hgt:¬rm.r.end_<(r.f.offset+r.f.data.size):=hg2;refine DE ?_;refine Do 30 I (λO=>?_) (λO=>?_)
   ·have hfn:r.f.fin=true:=O;refine IU ?_;exact SZ
   have hfn:r.f.fin=false:=O;refine FC ?_;exact SZ
  have he:rm.r.ended=false:=K;refine KC ?_;exact SZ
 rintro _ _;refine J1 ?_;refine Bq (α:=Unit) (λ_=>[(15,.bool (decide (NP rm.r.ended rm.r.end_ rm.r.high r.f))),(0,ptr b o),(3,ptr b3 0),(5,uN (r.f.offset+r.f.data.size))]) (λ_=>AA b3 0 (AN r)*(AA b o (Er rm)*(Dq rm*R))) (λ_=>True) ?_ ?_
 ·refine mC (λu=>?_) (λu=>?_)
  ·refine J1 ?_;exact An () trivial (.cons (by show some (Value.bool _)=some (Value.bool _);congr 2;exact((decide_eq_true u).trans (decide_eq_true (.inl u)).symm)) ED) I
  refine Bq (α:=Unit) (λ_=>[(15,.bool (decide (r.f.fin=true∧(r.f.offset+r.f.data.size)<rm.r.high))),(0,ptr b o),(3,ptr b3 0),(5,uN (r.f.offset+r.f.data.size))]) (λ_=>AA b3 0 (AN r)*(AA b o (Er rm)*(Dq rm*R))) (λ_=>True) ?_ ?_
  ·refine J4 ?_;refine Do 42 I (λC=>?_) (λC=>?_)
   ·have hfn:r.f.fin=true:=C;refine Eh ?_;exact rX
   have hfn:r.f.fin=false:=C;refine BQ ?_;exact rX
  rintro _ _;exact An () trivial (.cons (by show some (Value.bool _)=some (Value.bool _);congr 2;exact decide_eq_decide.2 ⟨.inr,λh=>h.resolve_left u⟩) ED) I
 rintro _ _;refine J1 ?_;refine mC (λhbad=>?_) (λhbad=>?_)
 ·refine Be ?_;exact mR [4] (AA b o (Er rm)*(Dq rm*R)) I I ⟨rm,N,by unfold Dk.data;rw[AJ hbad],by unfold Dk.data;rw[AJ hbad];rfl,I⟩
 refine J9 ?_;refine mc (λh50=>?_) (λh50=>?_)
 ·refine Be ?_;exact mR [4] (AA b o (Er rm)*(Dq rm*R)) I I ⟨rm,N,by unfold Dk.data;rw[AF hbad,AJ h50],by unfold Dk.data;rw[AF hbad,AJ h50];rfl,I⟩
 refine J4 ?_;have hb2:=hb h50;have Y:=hl h50;refine A3 (H':=AA b o (Er rm)*(AC rm.a.b rm.a.o rm.r.b rm.a.s*(AA b3 0 (AN r)*(AK rm.cq rm.ca rm.r.AG*R)))) (by unfold Dq;ac_rfl)<|J7 ?_;refine JL MK<|Fi ?_;refine Bq (α:=Unit) (λ_=>[(0,ptr b o),(3,ptr b3 0),(5,uN (r.f.offset+r.f.data.size))]) (λ_=>AC rm.a.b rm.a.o (rm.r.b++ad 0 0) rm.a.s*(AA b o [.slice rm.a.p (aa (rm.r.b++ad 0 (0:UInt8))) rm.a.c,ptr rm.cq 0,uN (max rm.r.high (r.f.offset+r.f.data.size)),uN (if r.f.fin then(r.f.offset+r.f.data.size)else rm.r.end_),.bool (rm.r.ended||r.f.fin),.bool rm.r.given,uN rm.r.code,uN rm.r.read,iN rm.r.state]*(AA b3 0 (AN r)*(AK rm.cq rm.ca rm.r.AG*R)))) (λ_=>True) ?_ ?_
 ·refine mc (λh65=>?_) (λh65=>?_)
  ·refine DL ?_;exact An () trivial ED (by rw[h65];show _=AC rm.a.b rm.a.o (rm.r.b++ad 0 0) rm.a.s*(AA b o [.slice rm.a.p (aa (rm.r.b++ad 0 (0:UInt8))) rm.a.c,ptr rm.cq 0,uN (max rm.r.high (r.f.offset+r.f.data.size)),uN (r.f.offset+r.f.data.size),.bool (rm.r.ended||true),.bool rm.r.given,uN rm.r.code,uN rm.r.read,iN rm.r.state]*_);rw[Ajc,g8,Bool.or_true];ac_rfl)
  refine J1 ?_;exact An () trivial ED (by rw[h65];show _=AC rm.a.b rm.a.o (rm.r.b++ad 0 0) rm.a.s*(AA b o [.slice rm.a.p (aa (rm.r.b++ad 0 (0:UInt8))) rm.a.c,ptr rm.cq 0,uN (max rm.r.high (r.f.offset+r.f.data.size)),uN rm.r.end_,.bool (rm.r.ended||false),.bool rm.r.given,uN rm.r.code,uN rm.r.read,iN rm.r.state]*_);rw[Ajc,g8,Am2];ac_rfl)
 rintro _ _;refine J3 ?_;refine Bf (α:=Nat×Am) (λz=>[(0,ptr b o),(3,ptr b3 0),(5,uN (r.f.offset+r.f.data.size))]) (λz=>AC z.2.b z.2.o (rm.r.b++ad z.1 0) z.2.s*(AA b o [.slice z.2.p (aa (rm.r.b++ad z.1 (0:UInt8))) z.2.c,ptr rm.cq 0,uN (max rm.r.high (r.f.offset+r.f.data.size)),uN (if r.f.fin then(r.f.offset+r.f.data.size)else rm.r.end_),.bool (rm.r.ended||r.f.fin),.bool rm.r.given,uN rm.r.code,uN rm.r.read,iN rm.r.state]*(AA b3 0 (AN r)*(AK rm.cq rm.ca rm.r.AG*R)))) (λz=>z.1≤((max rm.r.high (r.f.offset+r.f.data.size))-(rm.r.read+aa rm.r.b))∧z.2.ok (rm.r.b++ad z.1 (0:UInt8))) (λz=>((max rm.r.high (r.f.offset+r.f.data.size))-(rm.r.read+aa rm.r.b))-z.1) (0,rm.a) ⟨bk _,by show Am.ok rm.a (rm.r.b++ad 0 (0:UInt8));rw[Ajc,g8];exact N.1⟩ ED I ?_;rintro⟨nz,a1⟩ ⟨hnz,ha1⟩;dsimp only at hnz ha1⊢;have hbl:aa (rm.r.b++ad nz (0:UInt8))=aa rm.r.b+nz:=by rw[a5,s8]
 refine J2 ?_;refine mA 16 16 ?_;refine HE ?_;refine mC (λh88=>?_) (λh88=>?_)
 ·skip;have e:rm.r.b++ad nz (0:UInt8)++[0]=rm.r.b++ad (nz+1) 0:=by rw[Ake,c5]
  refine J9 ?_;refine Ae iC I ?_;rintro _ _ ⟨b94,rfl,rfl⟩;refine BH (H':=AC a1.b a1.o (rm.r.b++ad nz 0) a1.s*(AA b94 0 (AE [(0:UInt8)])*(AA b o [.slice a1.p (aa (rm.r.b++ad nz (0:UInt8))) a1.c,ptr rm.cq 0,uN (max rm.r.high (r.f.offset+r.f.data.size)),uN (if r.f.fin then(r.f.offset+r.f.data.size)else rm.r.end_),.bool (rm.r.ended||r.f.fin),.bool rm.r.given,uN rm.r.code,uN rm.r.read,iN rm.r.state]*(AA b3 0 (AN r)*(AK rm.cq rm.ca rm.r.AG*R))))) (by show AA b94 0 _*_=_;ac_rfl)<|Ae (CA (ys:=[(0:UInt8)]) (bb:=b94) (oo:=0) (cc:=1) I ha1.1 ha1.2 I Bz AH I Cd C0) I ?_;rintro _ _ ⟨m,W,w,S,X,rfl,hs95,J,rfl⟩;refine J5 ?_;exact GE (H':=AA b94 0 (AE [(0:UInt8)])*(AC (⟨m,W,w,S,X⟩:Am).b (⟨m,W,w,S,X⟩:Am).o (rm.r.b++ad (nz+1) 0) (⟨m,W,w,S,X⟩:Am).s*(AA b o [.slice (⟨m,W,w,S,X⟩:Am).p (aa (rm.r.b++ad (nz+1) (0:UInt8))) (⟨m,W,w,S,X⟩:Am).c,ptr rm.cq 0,uN (max rm.r.high (r.f.offset+r.f.data.size)),uN (if r.f.fin then(r.f.offset+r.f.data.size)else rm.r.end_),.bool (rm.r.ended||r.f.fin),.bool rm.r.given,uN rm.r.code,uN rm.r.read,iN rm.r.state]*(AA b3 0 (AN r)*(AK rm.cq rm.ca rm.r.AG*R))))) (by dsimp only;rw[←e];ac_rfl)<|Bg (AC (⟨m,W,w,S,X⟩:Am).b (⟨m,W,w,S,X⟩:Am).o (rm.r.b++ad (nz+1) 0) (⟨m,W,w,S,X⟩:Am).s*(AA b o [.slice (⟨m,W,w,S,X⟩:Am).p (aa (rm.r.b++ad (nz+1) (0:UInt8))) (⟨m,W,w,S,X⟩:Am).c,ptr rm.cq 0,uN (max rm.r.high (r.f.offset+r.f.data.size)),uN (if r.f.fin then(r.f.offset+r.f.data.size)else rm.r.end_),.bool (rm.r.ended||r.f.fin),.bool rm.r.given,uN rm.r.code,uN rm.r.read,iN rm.r.state]*(AA b3 0 (AN r)*(AK rm.cq rm.ca rm.r.AG*R))))<|BV (nz+1,(⟨m,W,w,S,X⟩:Am)) ⟨by show nz+1≤_;omega,by show Am.ok _ (rm.r.b++ad (nz+1) (0:UInt8));rw[←e];exact⟨hs95,J⟩⟩ (by show((max rm.r.high (r.f.offset+r.f.data.size))-(rm.r.read+aa rm.r.b))-(nz+1)<((max rm.r.high (r.f.offset+r.f.data.size))-(rm.r.read+aa rm.r.b))-nz;omega) ED I
 refine J7 ?_;obtain rfl:nz=((max rm.r.high (r.f.offset+r.f.data.size))-(rm.r.read+aa rm.r.b)):=C0;refine A3 (H':=AK rm.cq rm.ca rm.r.AG*(AA a1.b a1.o (AE (rm.r.b++ad ((max rm.r.high (r.f.offset+r.f.data.size))-(rm.r.read+aa rm.r.b)) 0)++a1.s)*(AA b o [.slice a1.p (aa (rm.r.b++ad ((max rm.r.high (r.f.offset+r.f.data.size))-(rm.r.read+aa rm.r.b)) 0)) a1.c,ptr rm.cq 0,uN (max rm.r.high (r.f.offset+r.f.data.size)),uN (if r.f.fin then(r.f.offset+r.f.data.size)else rm.r.end_),.bool (rm.r.ended||r.f.fin),.bool rm.r.given,uN rm.r.code,uN rm.r.read,iN rm.r.state]*(AA b3 0 (AN r)*R)))) Pm<|mA 8 8 ?_;refine DE ?_;refine JT 6 I MK<|Bn ?_;refine Bf (α:=RJ) (λz=>[(6,uN z.lo),(0,ptr b o),(3,ptr b3 0),(5,uN (r.f.offset+r.f.data.size))]) (λz=>AK rm.cq z.ca z.AG*(AA a1.b a1.o (AE z.b++a1.s)*(AA b o [.slice a1.p (aa (rm.r.b++ad ((max rm.r.high (r.f.offset+r.f.data.size))-(rm.r.read+aa rm.r.b)) 0)) a1.c,ptr rm.cq 0,uN (max rm.r.high (r.f.offset+r.f.data.size)),uN (if r.f.fin then(r.f.offset+r.f.data.size)else rm.r.end_),.bool (rm.r.ended||r.f.fin),.bool rm.r.given,uN rm.r.code,uN rm.r.read,iN rm.r.state]*(AA b3 0 (AN r)*R)))) (λz=>IA z.n r.f.offset (r.f.offset+r.f.data.size) r.f.data.data.toList rm.r.read z.lo z.b z.AG=rm.r.filled r.f∧(r.f.offset+r.f.data.size)-z.lo<z.n∧r.f.offset≤z.lo∧rm.r.read≤z.lo∧z.lo<9000000000000000000∧aa z.b=aa (rm.r.b++ad ((max rm.r.high (r.f.offset+r.f.data.size))-(rm.r.read+aa rm.r.b)) 0)∧(Dg z.AG (max rm.r.high (r.f.offset+r.f.data.size))∧z.AG.floor=0∧z.AG.AQ=4096)∧(∀n,n<rm.r.read→BD n z.AG.l)∧z.ca.ok z.AG) (λz=>z.n) ⟨(r.f.offset+r.f.data.size)+1,max r.f.offset rm.r.read,(rm.r.b++ad ((max rm.r.high (r.f.offset+r.f.data.size))-(rm.r.read+aa rm.r.b)) 0),rm.r.AG,rm.ca⟩ ⟨I,by show(r.f.offset+r.f.data.size)-max r.f.offset rm.r.read<(r.f.offset+r.f.data.size)+1;omega,Ami _ _,Am5 _ _,by show max r.f.offset rm.r.read<_;omega,I,⟨hr.co.mono SD,hr.cf,hr.cm⟩,hr.pre,N.2⟩ Bu I ?_;rintro z ⟨z1,z2,z3,z4,z5,z6,z7,z8,z9⟩;have hb1l:aa (rm.r.b++ad ((max rm.r.high (r.f.offset+r.f.data.size))-(rm.r.read+aa rm.r.b)) 0)=(max rm.r.high (r.f.offset+r.f.data.size))-rm.r.read:=by rw[a5,s8];omega
 have L:=Vg z7.1.inc z8 z7.1.hi (by omega:(max rm.r.high (r.f.offset+r.f.data.size))≤rm.r.read+1024);refine J8 ?_;refine mC (λU=>?_) (λU=>?_)
 ·obtain⟨ga,gb,gc,gd,ge⟩:=Ic z.AG.l z.lo (r.f.offset+r.f.data.size) z7.1.inc C0;refine Fj ?_;refine mE I (SN rm.cq z.lo (r.f.offset+r.f.data.size) (max rm.r.high (r.f.offset+r.f.data.size)) z.ca z.AG _ z9 z7.1 C0 C0)<|JR<|FM ?_;refine mC (λhgx=>?_) (λhgx=>?_)
  ·skip;have hstop:IA z.n r.f.offset (r.f.offset+r.f.data.size) r.f.data.data.toList rm.r.read z.lo z.b z.AG=(z.b,z.AG):=by
    obtain⟨nn,hnn⟩:∃nn,z.n=nn+1:=⟨z.n-1,C0⟩
    rw[hnn,IA];simp only[U,if_true,hgx]
   refine DY ?_;exact sX
  have hglt:(AW z.lo (r.f.offset+r.f.data.size) z.AG.l).1<(AW z.lo (r.f.offset+r.f.data.size) z.AG.l).2:=by
   obtain h|h:=ff (AW z.lo (r.f.offset+r.f.data.size) z.AG.l).1 (AW z.lo (r.f.offset+r.f.data.size) z.AG.l).2
   ·exact h
   exact absurd (ge h) hgx
  have Q:aa ((r.f.data.data.toList.drop ((AW z.lo (r.f.offset+r.f.data.size) z.AG.l).1-r.f.offset)).take ((AW z.lo (r.f.offset+r.f.data.size) z.AG.l).2-(AW z.lo (r.f.offset+r.f.data.size) z.AG.l).1))=(AW z.lo (r.f.offset+r.f.data.size) z.AG.l).2-(AW z.lo (r.f.offset+r.f.data.size) z.AG.l).1:=by
   rw[hZ,di,Oq];omega
  have hzb:aa z.b=(max rm.r.high (r.f.offset+r.f.data.size))-rm.r.read:=z6.trans hb1l;have hcap:(max rm.r.high (r.f.offset+r.f.data.size))-rm.r.read≤a1.c:=by have:=ha1.1.2;rw[hb1l]at this;exact this
  have F:aa (AE z.b++a1.s)=a1.c:=by rw[a5,CV,z6];have:=ha1.2;simp only[Q6,s6]at this⊢;omega
  refine J3 ?_;refine A3 (H':=AA a1.b a1.o (AE z.b++a1.s)*(AK rm.cq z.ca z.AG*(AA b o [.slice a1.p (aa (rm.r.b++ad ((max rm.r.high (r.f.offset+r.f.data.size))-(rm.r.read+aa rm.r.b)) 0)) a1.c,ptr rm.cq 0,uN (max rm.r.high (r.f.offset+r.f.data.size)),uN (if r.f.fin then(r.f.offset+r.f.data.size)else rm.r.end_),.bool (rm.r.ended||r.f.fin),.bool rm.r.given,uN rm.r.code,uN rm.r.read,iN rm.r.state]*(AA b3 0 (AN r)*R)))) C4<|mA 28 29 ?_;refine E6 ?_;refine JT 16 I (QH I I I C0)<|CY ?_;refine JT 27 I (rO I I I C0) ?_;refine Au 28 C1 I I (ra (b:=a1.b) (o:=a1.o) (k:=(AW z.lo (r.f.offset+r.f.data.size) z.AG.l).1-rm.r.read) (ys:=(r.f.data.data.toList.drop ((AW z.lo (r.f.offset+r.f.data.size) z.AG.l).1-r.f.offset)).take ((AW z.lo (r.f.offset+r.f.data.size) z.AG.l).2-(AW z.lo (r.f.offset+r.f.data.size) z.AG.l).1)) I (F0 ha1.1 C0 C0 I) I (H_ r.f.data _ _ _ _ C0 (by have:=Oq r.f;omega) C0 C0) (by rw[F];omega))<|FZ ?_;refine A5 ?_;have eput:(AE z.b++a1.s).take ((AW z.lo (r.f.offset+r.f.data.size) z.AG.l).1-rm.r.read)++AE ((r.f.data.data.toList.drop ((AW z.lo (r.f.offset+r.f.data.size) z.AG.l).1-r.f.offset)).take ((AW z.lo (r.f.offset+r.f.data.size) z.AG.l).2-(AW z.lo (r.f.offset+r.f.data.size) z.AG.l).1))++(AE z.b++a1.s).drop ((AW z.lo (r.f.offset+r.f.data.size) z.AG.l).1-rm.r.read+aa ((r.f.data.data.toList.drop ((AW z.lo (r.f.offset+r.f.data.size) z.AG.l).1-r.f.offset)).take ((AW z.lo (r.f.offset+r.f.data.size) z.AG.l).2-(AW z.lo (r.f.offset+r.f.data.size) z.AG.l).1)))=AE (IN z.b ((AW z.lo (r.f.offset+r.f.data.size) z.AG.l).1-rm.r.read) ((r.f.data.data.toList.drop ((AW z.lo (r.f.offset+r.f.data.size) z.AG.l).1-r.f.offset)).take ((AW z.lo (r.f.offset+r.f.data.size) z.AG.l).2-(AW z.lo (r.f.offset+r.f.data.size) z.AG.l).1)))++a1.s:=by
   have M:=QA z.b ((AW z.lo (r.f.offset+r.f.data.size) z.AG.l).1-rm.r.read) a1.s C0;have h4:=VO z.b ((AW z.lo (r.f.offset+r.f.data.size) z.AG.l).1-rm.r.read+aa ((r.f.data.data.toList.drop ((AW z.lo (r.f.offset+r.f.data.size) z.AG.l).1-r.f.offset)).take ((AW z.lo (r.f.offset+r.f.data.size) z.AG.l).2-(AW z.lo (r.f.offset+r.f.data.size) z.AG.l).1))) a1.s (by rw[Q];omega);simp only[Q6,s6]at M h4;rw[M,h4];unfold IN;simp only[GH,c5]
  refine A3 (H':=AK rm.cq z.ca z.AG*(AA a1.b a1.o (AE (IN z.b ((AW z.lo (r.f.offset+r.f.data.size) z.AG.l).1-rm.r.read) ((r.f.data.data.toList.drop ((AW z.lo (r.f.offset+r.f.data.size) z.AG.l).1-r.f.offset)).take ((AW z.lo (r.f.offset+r.f.data.size) z.AG.l).2-(AW z.lo (r.f.offset+r.f.data.size) z.AG.l).1)))++a1.s)*(AA b o [.slice a1.p (aa (rm.r.b++ad ((max rm.r.high (r.f.offset+r.f.data.size))-(rm.r.read+aa rm.r.b)) 0)) a1.c,ptr rm.cq 0,uN (max rm.r.high (r.f.offset+r.f.data.size)),uN (if r.f.fin then(r.f.offset+r.f.data.size)else rm.r.end_),.bool (rm.r.ended||r.f.fin),.bool rm.r.given,uN rm.r.code,uN rm.r.read,iN rm.r.state]*(AA b3 0 (AN r)*R)))) (by rw[←eput];ac_rfl)<|Be ?_;refine mE I (Mr rm.cq _ _ (max rm.r.high (r.f.offset+r.f.data.size)) z.ca z.AG _ z9 z7.1 C0 C0 (by rw[z7.2.2];omega) (by rw[z7.2.2];omega)) ?_;rintro _ _ ⟨a157,hs157,rfl⟩;refine J7 ?_;obtain⟨f1,f2,f3,f4⟩:=fA (lo:=(AW z.lo (r.f.offset+r.f.data.size) z.AG.l).1) (hi:=(AW z.lo (r.f.offset+r.f.data.size) z.AG.l).2-1) z7.1 z7.2.1 z7.2.2 C0 C0 C0;refine GE (H':=AK rm.cq (⟨z.n-1,(AW z.lo (r.f.offset+r.f.data.size) z.AG.l).2,IN z.b ((AW z.lo (r.f.offset+r.f.data.size) z.AG.l).1-rm.r.read) ((r.f.data.data.toList.drop ((AW z.lo (r.f.offset+r.f.data.size) z.AG.l).1-r.f.offset)).take ((AW z.lo (r.f.offset+r.f.data.size) z.AG.l).2-(AW z.lo (r.f.offset+r.f.data.size) z.AG.l).1)),z.AG.add (AW z.lo (r.f.offset+r.f.data.size) z.AG.l).1 ((AW z.lo (r.f.offset+r.f.data.size) z.AG.l).2-1),a157⟩:RJ).ca (⟨z.n-1,(AW z.lo (r.f.offset+r.f.data.size) z.AG.l).2,IN z.b ((AW z.lo (r.f.offset+r.f.data.size) z.AG.l).1-rm.r.read) ((r.f.data.data.toList.drop ((AW z.lo (r.f.offset+r.f.data.size) z.AG.l).1-r.f.offset)).take ((AW z.lo (r.f.offset+r.f.data.size) z.AG.l).2-(AW z.lo (r.f.offset+r.f.data.size) z.AG.l).1)),z.AG.add (AW z.lo (r.f.offset+r.f.data.size) z.AG.l).1 ((AW z.lo (r.f.offset+r.f.data.size) z.AG.l).2-1),a157⟩:RJ).AG*(AA a1.b a1.o (AE (⟨z.n-1,(AW z.lo (r.f.offset+r.f.data.size) z.AG.l).2,IN z.b ((AW z.lo (r.f.offset+r.f.data.size) z.AG.l).1-rm.r.read) ((r.f.data.data.toList.drop ((AW z.lo (r.f.offset+r.f.data.size) z.AG.l).1-r.f.offset)).take ((AW z.lo (r.f.offset+r.f.data.size) z.AG.l).2-(AW z.lo (r.f.offset+r.f.data.size) z.AG.l).1)),z.AG.add (AW z.lo (r.f.offset+r.f.data.size) z.AG.l).1 ((AW z.lo (r.f.offset+r.f.data.size) z.AG.l).2-1),a157⟩:RJ).b++a1.s)*(AA b o [.slice a1.p (aa (rm.r.b++ad ((max rm.r.high (r.f.offset+r.f.data.size))-(rm.r.read+aa rm.r.b)) 0)) a1.c,ptr rm.cq 0,uN (max rm.r.high (r.f.offset+r.f.data.size)),uN (if r.f.fin then(r.f.offset+r.f.data.size)else rm.r.end_),.bool (rm.r.ended||r.f.fin),.bool rm.r.given,uN rm.r.code,uN rm.r.read,iN rm.r.state]*(AA b3 0 (AN r)*R)))) I<|BV (⟨z.n-1,(AW z.lo (r.f.offset+r.f.data.size) z.AG.l).2,IN z.b ((AW z.lo (r.f.offset+r.f.data.size) z.AG.l).1-rm.r.read) ((r.f.data.data.toList.drop ((AW z.lo (r.f.offset+r.f.data.size) z.AG.l).1-r.f.offset)).take ((AW z.lo (r.f.offset+r.f.data.size) z.AG.l).2-(AW z.lo (r.f.offset+r.f.data.size) z.AG.l).1)),z.AG.add (AW z.lo (r.f.offset+r.f.data.size) z.AG.l).1 ((AW z.lo (r.f.offset+r.f.data.size) z.AG.l).2-1),a157⟩:RJ) ⟨?_,?_,?_,?_,?_,?_,⟨f1,f2.trans I,f3⟩,λn G=>(f4 n).2 (.inr (z8 n G)),hs157⟩ (by show z.n-1<z.n;omega) Bu I
  ·obtain⟨nn,hnn⟩:∃nn,z.n=nn+1:=⟨z.n-1,C0⟩
   rw[←z1,hnn,IA];simp only[U,if_true,hgx,if_false,Jx]
  ·show(r.f.offset+r.f.data.size)-(AW z.lo (r.f.offset+r.f.data.size) z.AG.l).2<z.n-1;omega
  ·show r.f.offset≤(AW z.lo (r.f.offset+r.f.data.size) z.AG.l).2;omega
  ·show rm.r.read≤(AW z.lo (r.f.offset+r.f.data.size) z.AG.l).2;omega
  ·show(AW z.lo (r.f.offset+r.f.data.size) z.AG.l).2<_;omega
  show(IN _ _ _).length=_;rw[qP (by rw[Q];omega)];exact z6
 have hstop:IA z.n r.f.offset (r.f.offset+r.f.data.size) r.f.data.data.toList rm.r.read z.lo z.b z.AG=(z.b,z.AG):=by
  cases z.n with
  |zero=>rfl
  |succ nn=>rw[IA];simp only[U,if_false]
 refine CK ?_;exact sX
def GV(m:Ak)(cb:Nat):HP:=AK m.x.gq m.ga m.AR*(BU cb m.ws*EW m)
def OK(cb)(m:Ak)(R j)(W:j<aa m.rs):Ao cb m*R=Ab cb m.x*(AA cb (0+83+j*9) (Er (m.rs.getD j AD))*(Dq (m.rs.getD j AD)*(Fx cb m.rs j*(GV m cb*R)))):=by
 unfold Ao GV;rw[C? cb m.rs j W];ac_rfl
def R3(cb)(m:Ak)(R j)(W:j<aa m.rs)(y):Ao cb (m.CE j y)*R=Ab cb m.x*(AA cb (0+83+j*9) (Er y)*(Dq y*(Fx cb m.rs j*(GV m cb*R)))):=by
 unfold Ao;show Ab cb m.x*(AK m.x.gq m.ga m.AR*(BU cb m.ws*(B2 cb (m.rs.set j y)*EW m)))*R=_;rw[ja cb m.rs j y W];unfold GV;ac_rfl
set_option maxHeartbeats 4000000 in
def yw(cb t)(m:Ak)(r:RF)(R)(hm:m.ok)(hi:Aq t m.s)(ht:t<1000000)(hf:GI r.f)(hb:¬m.s.busy r.f)(W:r.ok)(X:AZ B R r.b r.o r.f.ranges)(w:aa r.f.ranges<100000000):
  Fn prog B 146 [ptr cb 0,.agg (AN r).toArray] (Ao cb m*R)
   (λv H'=>∃N:Ak,N.ok∧N.s=(m.s.take r.f).2∧v=iN (m.s.take r.f).1∧H'=Ao cb N*R):=by
 refine mI func146 ?_;obtain⟨j,hst⟩:∃j:Nat,r.f.stream=(j:Int):=⟨_,(x3 hf.1).symm⟩
 have hj:j<4:=by have:=hf.2.1;omega
 have hjl:j<aa m.rs:=by rw[Ak.R5 hi];exact hj
 have J:=Ak.Vx hi hj;have M:=hm.rs _ HU;have G:m.s.r r.f.stream.toNat=(m.rs.getD j AD).r:=by rw[hst,dz];exact m.TR j hjl
 have esj:r.f.stream.toNat=j:=by rw[hst,dz]
 refine I8 ?_;rintro _ _ ⟨b3,rfl,rfl⟩;refine Bn ?_;generalize hrm:m.rs.getD j AD=rm at*;refine A3 (H':=AA b3 0 (AN r)*(AA cb (0+83+j*9) (Er rm)*(Dq rm*(Ab cb m.x*(Fx cb m.rs j*(GV m cb*R)))))) (by rw[OK cb m R j hjl,hrm];show AA b3 0 _*_=_;ac_rfl)<|Wu ?_;refine FC ?_;refine JL (Eo (j:=3) I I)<|J3 ?_;refine mC (λu=>?_) (λu=>?_)
 ·have hok3:=hf.2.2.2.2.2 u;have hne3:0<aa r.f.ranges:=by
   obtain h|h:=Akv (aa r.f.ranges)
   ·exact absurd (hU.1 h) hok3.1
   exact h
  have hhi3:=(hok3.2 0 hne3).2.1;refine J5 ?_;refine BH (H':=Ao cb m*(AA b3 0 (AN r)*R)) (by rw[OK cb m _ j hjl,hrm];ac_rfl) ?_;have hrr3:=X;refine mE I (Ad7 cb t m r.f.ranges r.p r.b r.o r.c _ hm hi ht W AH hne3 w C0) ?_;rintro _ _ ⟨Q,hm2,Y,rfl,rfl⟩;refine J6 ?_;have ewr:m.s.take r.f=m.s.EY r.f.ranges:=by unfold AO.take;rw[AJ u]
  exact mR [4] (Ao cb Q*R) (hE:=⟨λww hw=>Sat.right (A:=AA b3 0 (AN r)) (Eq.mp Cp hw)⟩) I I ⟨Q,hm2,by rw[ewr,Y],Cb,I⟩
 refine J2 ?_;refine JL (Eo (j:=4) I I)<|J3 ?_;refine mC (λU=>?_) (λU=>?_)
 ·refine J2 ?_;refine Bq (α:=Unit) (λ_=>[(43,.bool (decide (rm.r.ended=true∧rm.r.end_≠r.f.offset∨r.f.offset<rm.r.high))),(5,ptr cb (0+83+j*9)),(3,ptr b3 0),(0,ptr cb 0)]) (λ_=>AA b3 0 (AN r)*(AA cb (0+83+j*9) (Er rm)*(Dq rm*(Ab cb m.x*(Fx cb m.rs j*(GV m cb*R)))))) (λ_=>True) ?_ ?_
  ·refine mA 22 22 ?_;refine BB ?_;refine Ha 26 I (λK=>?_) (λK=>?_)
   ·have he:rm.r.ended=true:=K;refine BQ ?_;refine D4 35 I (λe=>?_) (λe=>?_)
    ·have hne:rm.r.end_≠r.f.offset:=e;exact kW
    have hne:¬rm.r.end_≠r.f.offset:=e;exact kW
   have he:rm.r.ended=false:=K;refine HE ?_;refine An () trivial (.cons ?_ DW) I;refine Lo ?_;congr 2
   first
    |exact(decide_eq_true (.inl ⟨he,hne⟩)).symm
    |exact decide_eq_decide.2 ⟨.inr,λh=>h.elim (λh=>absurd h.2 hne) id⟩
    |exact decide_eq_decide.2 ⟨.inr,λh=>h.elim (λh=>absurd (he.symm.trans h.1) R0) id⟩
  rintro _ _;refine J1 ?_;refine mC (λO=>?_) (λO=>?_)
  ·refine BQ ?_;have ewr:m.s.take r.f=(7,m.s):=by unfold AO.take;rw[AF u,AJ U,G,AJ O]
   exact XG
  refine DY ?_;refine Bq (α:=Unit) (λ_=>[(5,ptr cb (0+83+j*9)),(3,ptr b3 0),(0,ptr cb 0)]) (λ_=>AA cb (0+83+j*9) [.slice rm.a.p (aa rm.r.b) rm.a.c,ptr rm.cq 0,uN rm.r.high,uN rm.r.end_,.bool rm.r.ended,.bool rm.r.given,uN (if rm.r.given then rm.r.code else r.f.code),uN rm.r.read,iN rm.r.state]*(AA b3 0 (AN r)*(Dq rm*(Ab cb m.x*(Fx cb m.rs j*(GV m cb*R)))))) (λ_=>True) ?_ ?_
  ·refine mc (λL=>?_) (λL=>?_)
   ·refine J8 ?_;exact An () trivial DW (by have F:rm.r.given=false:=(by simpa using L);rw[F];show _=AA cb (0+83+j*9) [.slice rm.a.p (aa rm.r.b) rm.a.c,ptr rm.cq 0,uN rm.r.high,uN rm.r.end_,.bool rm.r.ended,.bool false,uN r.f.code,uN rm.r.read,iN rm.r.state]*_;rw[←F];ac_rfl)
   refine J1 ?_;exact An () trivial DW (by have F:rm.r.given=true:=(by simpa using L);rw[AJ F];show AA b3 0 _*(AA cb (0+83+j*9) [.slice rm.a.p (aa rm.r.b) rm.a.c,ptr rm.cq 0,uN rm.r.high,uN rm.r.end_,.bool rm.r.ended,.bool rm.r.given,uN rm.r.code,uN rm.r.read,iN rm.r.state]*_)=_;ac_rfl)
  rintro _ _;refine J1 ?_;refine EI (AA b3 0 (AN r)*(Dq rm*(Ab cb m.x*(Fx cb m.rs j*(GV m cb*R))))) 13 14 EO I C1<|Bt ?_;refine GO 7 C1 I Lc<|Hh ?_;refine BE ?_;refine GO 10 C1 I Lc<|Hh ?_;refine DY ?_;have ewr:m.s.take r.f=(0,m.s.CE j {rm.r with code:=(if rm.r.given then rm.r.code else r.f.code),given:=true,ended:=true,end_:=r.f.offset}):=by unfold AO.take;rw[AF u,AJ U,G,AF O,esj]
  obtain⟨C,hrd2⟩:∃C:FA,C={rm with r:={rm.r with code:=(if rm.r.given then rm.r.code else r.f.code),given:=true,ended:=true,end_:=r.f.offset}}:=DF;exact mR [4] (Ao cb (m.CE j C)*R) (hE:=⟨λww hw=>Sat.right (A:=AA b3 0 (AN r)) (Eq.mp (by
   congr 1;rw[R3 cb m R j hjl,hrd2];show _=AA b3 0 (AN r)*(Ab cb m.x*(AA cb (0+83+j*9) [.slice rm.a.p (aa rm.r.b) rm.a.c,ptr rm.cq 0,uN rm.r.high,uN r.f.offset,.bool true,.bool true,uN (if rm.r.given then rm.r.code else r.f.code),uN rm.r.read,iN rm.r.state]*(Dq rm*_)));ac_rfl) hw)⟩) I I ⟨m.CE j C,hm.CE (by rw[hrd2];exact M),Xg,Cb,I⟩
 refine J2 ?_;refine JL Tj<|J3 ?_;refine mC (λV=>?_) (λV=>?_)
 ·refine J3 ?_;refine JL OU<|BH (H':=AA cb (0+83+j*9) (Er rm)*(Dq rm*(AA b3 0 (AN r)*(Ab cb m.x*(Fx cb m.rs j*(GV m cb*R)))))) C4<|mE I (kf cb (0+83+j*9) t m.x.AI rm r _ M J hi.w2 hf V (λS=>by rcases ff (rm.r.read+m.x.AI) (r.f.offset+r.f.data.size)with h|h;exact absurd ⟨V,by rw[G];exact S,by rw[G];exact h⟩ hb;exact h) ht) ?_;rintro _ _ ⟨C,hrd2,hrd2e,rfl,rfl⟩;refine J6 ?_;have ewr:m.s.take r.f=((rm.r.data r.f).1,m.s.CE j (rm.r.data r.f).2):=by unfold AO.take;rw[AF u,AF U,AJ V,G,esj]
  exact mR [4] (Ao cb (m.CE j C)*R) (hE:=⟨λww hw=>Sat.right (A:=AA b3 0 (AN r)) (Eq.mp Ys hw)⟩) I I ⟨m.CE j C,hm.CE hrd2,by rw[Ak.Tk,ewr,hrd2e],Cb,I⟩
 refine J2 ?_;refine JL (Eo (j:=6) I I)<|J3 ?_;refine mC (λhk6=>?_) (λhk6=>?_)
 ·refine Be ?_;have ewr:m.s.take r.f=(10,m.s):=by unfold AO.take;rw[AF u,AF U,AF V,AJ hk6]
  exact XG
 refine BQ ?_;have ewr:m.s.take r.f=(0,m.s):=by unfold AO.take;rw[AF u,AF U,AF V,AF hk6]
 exact XG
end
end Go.Proofs.YtgfdlpcdjklcoaaGreatDoor
