/- Steps of this proof; no condition. -/
import Derived.Test.YtgfdlpcdjklcoaaGreatDoorP8
namespace Go.Proofs.YtgfdlpcdjklcoaaGreatDoor
open Go Go.RowKit Go.Proofs.Tryz HP
open _root_.List renaming length→aa
set_option linter.all false
variable{t AI k number:Nat}{xs ks ys:List UInt8}{f:Af}{side:UInt8}{fin:Bool}
open _root_.UInt8 renaming ofNat→ad
open _root_.List renaming replicate→a9
open _root_.Go.Result renaming andThen→cx
open _root_.UInt64 renaming ofNat→c6
set_option maxRecDepth 20000
section
open Go Go.RowKit Go.Extern.Stop Go.Stop Go.Extern
set_option maxRecDepth 100000
def ai(k)(w:World):(ReflectliteValue.unpack (.iface 191 (.pointer (some k)))).run prog w
  = .ok (.agg #[.pointer (some ⟨1,191,none⟩),.pointer (some ⟨w.heap.size,0,none⟩),.int .u64 150]) (w.alloc (.cells #[.pointer (some k)] 191)):=C1
def nf(v w):(ReflectliteType.typeOf #[.iface 191 v]).run prog w=.ok (.iface 282 (.agg #[.pointer (some ⟨1,191,none⟩)])) w:=by kernel_rfl
def qg(w):(ReflectliteType.relation "AssignableTo" ReflectliteType.assignableTo #[.agg #[.pointer (some ⟨1,191,none⟩)],.iface 282 (.agg #[.pointer (some ⟨1,191,none⟩)])]).run prog w =.ok (.bool true) w :=by kernel_rfl
def xI(w):(Rtype.elem? 193).run prog w=.ok (some 191) w:=by kernel_rfl
def S? (p w):(ReflectliteValue.mk 191 p ReflectliteValue.flagAddr).run prog w=.ok (.agg #[.pointer (some ⟨1,191,none⟩),.pointer (some p),.int .u64 406]) w:=by kernel_rfl
def G_(a p)(W:World)(U:W.cell? a=some (.pointer (some p))):
  (ReflectliteValue.method (ReflectliteValue.valueError "reflectlite.Value.Elem" 0) ReflectliteValue.elem #[.agg #[.pointer (some ⟨1,193,none⟩),.pointer (some a),.int .u64 150]]).run prog W
   = .ok (.agg #[.pointer (some ⟨1,191,none⟩),.pointer (some p),.int .u64 406]) W:=by
 rw[Mu];simp only[bn,T9,cx];simp[ReflectliteValue.elem,loadVar,isAgg,underlying,underlying193,U,cx,xI,S?]
def tV(a w):(ReflectliteValue.parts (.agg #[.pointer (some ⟨1,191,none⟩),.pointer (some a),.int .u64 406])).run prog w=.ok (some (191,a,406)) w:=by kernel_rfl
def lT(a w):(ReflectliteValue.parts (.agg #[.pointer (some ⟨1,191,none⟩),.pointer (some a),.int .u64 150])).run prog w=.ok (some (191,a,150)) w:=by kernel_rfl
def dR(w):(Rtype.directlyAssignable 191 191).run prog w=.ok true w:=by kernel_rfl
def Aeh(a b k old)(W:World)(hb:W.cell? b=some (.pointer (some k)))(ht:W.cell? a=some old)(hf:W.frozen? a=false):
  (ReflectliteValue.set #[.agg #[.pointer (some ⟨1,191,none⟩),.pointer (some a),.int .u64 406],.agg #[.pointer (some ⟨1,191,none⟩),.pointer (some b),.int .u64 150]]).run prog W
   = .ok (.tuple #[]) (W.setCell a (.pointer (some k))):=by
 rw[Sy];simp only[bn,tV,lT,cx];simp[ReflectliteValue.flagAddr,loadVar,isAgg,underlying,underlying191,hb,cx,dR,storeVar,Value.cells,storeCells,Addr.add];rw[run_store prog W a _ _ (by rfl)];simp[ht,hf]
def vv(m D w):Al m D prog (Rtype.elem? 193) w:=of_eq_true C1
def Ad1(m D p w):Al m D prog (ReflectliteValue.mk 191 p ReflectliteValue.flagAddr) w:=of_eq_true C1
def B_(m D a p)(W:World)(U:W.cell? a=some (.pointer (some p))):
  Al m D prog (ReflectliteValue.method (ReflectliteValue.valueError "reflectlite.Value.Elem" 0) ReflectliteValue.elem #[(.agg #[.pointer (some ⟨1,193,none⟩),.pointer (some a),.int .u64 150])]) W :=by
 rw[Mu];simp only[BL,T9,vK,BX,true_and];simp[ReflectliteValue.elem,loadVar,A6,underlying193,U,live,xI,vv,Ad1]
def v_(m D a w):Al m D prog (ReflectliteValue.parts (.agg #[.pointer (some ⟨1,191,none⟩),.pointer (some a),.int .u64 406])) w:=of_eq_true C1
def ke(m D a w):Al m D prog (ReflectliteValue.parts (.agg #[.pointer (some ⟨1,191,none⟩),.pointer (some a),.int .u64 150])) w:=of_eq_true C1
def Adl(m D w):Al m D prog (Rtype.directlyAssignable 191 191) w:=of_eq_true C1
def cz(m D a b k old)(W:World)(hb:W.cell? b=some (.pointer (some k)))(ht:W.cell? a=some old)(J:live old=true)(hf:W.frozen? a=false):
  Al m D prog (ReflectliteValue.set #[(.agg #[.pointer (some ⟨1,191,none⟩),.pointer (some a),.int .u64 406]),(.agg #[.pointer (some ⟨1,191,none⟩),.pointer (some b),.int .u64 150])]) W:=by
 rw[Sy];simp only[BL,bn,bp,B3,tV,lT,v_,ke,BX,true_and,cx];simp[ReflectliteValue.flagAddr,loadVar,A6,isAgg,underlying191,hb,live,dR,Adl,storeVar,Value.cells,storeCells,Addr.add,ht,hf,Value.oneCell'];exact J
end
section
variable{B:World}
def QT(x:UInt64)(k:Nat)(h0:0<k)(c:k≤63)(H:HP):Fn prog B 216 [u64 x,iN k] H (λv S=>v=u64 (LM x k)∧S=H):=by
 refine mI func216 ?_;refine DY ?_;refine Bf (λj:Nat=>[(0,u64 (PT j x)),(1,iN k),(5,iN j)]) (λ_=>H) (λj=>j≤k) (λj=>k-j) 0 Du DW I ?_;intro j a;refine J8 ?_;refine mC (λW=>?_) (λW=>?_)
 ·refine J7 ?_;refine JL (Kr (j:=63) I I C0)<|J5 ?_;refine JL (Zc (b:=2) I I)<|CK ?_;exact BV (j+1) C0 C0 DW I
 obtain rfl:j=k:=C0;refine Fi ?_;exact mr [4] I I ⟨by rw[←Abj x j h0 c];rfl,I⟩
set_option maxHeartbeats 1000000 in
def U1(v:S4)(H:HP):Fn prog B 186 [.agg (s4 v).toArray] H (λr S=>r=.agg (s4 (UW v)).toArray∧S=H):=by
 refine mI func186 ?_;refine J2 ?_;refine Ae (EB (l:=s4 v) I I) I ?_;rintro _ _ ⟨C,rfl,rfl⟩;refine Ae (GS (l:=[_,_,_,_]) I) I ?_;rintro _ _ ⟨Y,rfl,rfl⟩;refine Fj ?_;refine mE I (QT _ 13 C2 C2 _)<|xB ?_;refine Be ?_;refine mE I (QT _ 16 C2 C2 _)<|JR<|HL ?_;refine mE I (QT _ 21 C2 C2 _)<|JR<|IU ?_;refine CK ?_;refine mE I (QT _ 17 C2 C2 _)<|xB ?_;exact Wo
def XN(p b o c k)(xs:List UInt8)(H)(C:Sl p b o k c)(hr:AZ B H b o xs)(G:8≤k)(F:k≤aa xs):
  Fn prog B 185 [.slice p k c] H (λv S=>v=u64 (le xs 8)∧S=H):=by
 refine mI func185 ?_;have r:=PF (B:=B) hr;refine Fj ?_;refine Bf (λj:Nat=>[(0,.slice p k c),(3,u64 (NE xs 8 j)),(4,.int .i64 (7-(j:Int)))]) (λ_=>H) (λj=>j≤8) (λj=>8-j) 0 Du DW I ?_;intro j a;refine J4 ?_;refine JL (Kl (i:=7-(j:Int)) (j:=0) I I)<|J2 ?_;refine mC (λW=>?_) (λW=>?_)
 ·skip;have J:7-(j:Int)=((7-j:Nat):Int):=C0;refine J6 ?_;refine JL (Zc (b:=256) I I)<|J2 ?_;refine JL (CJ (i:=7-j) I (by rw[←J];rfl) (b:=b) (o:=o) C C0)<|JL Sj<|JL (TB I)<|Bt ?_;refine JL (MT (i:=7-(j:Int)) (j:=1) I I C0)<|J2 ?_;exact BV (j+1) C0 C0 (.cons I (.cons I (.cons (by show some (Value.int _ _)=some _;congr 2;omega) .nil))) I
 obtain rfl:j=8:=C0;refine Fi ?_;exact mr [2] I I ⟨by rw[←yq];rfl,I⟩
def Adb(n:UInt64)(j)(h:j<8):(CS n).take (j+1)=(CS n).take j++[(n>>> c6 (56-8*j)).toUInt8]:=by
 have:j=0∨j=1∨j=2∨j=3∨j=4∨j=5∨j=6∨j=7:=C0;rcases this with h|h|h|h|h|h|h|h<;>subst h<;>first|rfl|simp[CS]
def Ve(n:UInt64)(p:Option Addr)(b o c:Nat)(xs:List UInt8)(s:List Value)(R:HP)(C:Sl p b o (aa xs) c)(W:aa xs*1+aa s=c*1)(F:aa xs<100000000):
  Fn prog B 109 [.slice p (aa xs) c,u64 n] (AC b o xs s*R) (λv S=>DI R (xs++CS n) v S):=by
 refine mI func109 ?_;refine J8 ?_;refine JL (Fw (v:=.int .i64 (56:Nat)) I)<|J3 ?_;refine Bf (α:=Nat×Option Addr×Nat×Nat×Nat×List Value) (λz=>[(0,.slice z.2.1 (aa (xs++(CS n).take z.1)) z.2.2.2.2.1),(1,u64 n),(5,.int .i64 (56-8*(z.1:Int)))]) (λz=>AC z.2.2.1 z.2.2.2.1 (xs++(CS n).take z.1) z.2.2.2.2.2*R) (λz=>z.1≤8∧Sl z.2.1 z.2.2.1 z.2.2.2.1 (aa (xs++(CS n).take z.1)) z.2.2.2.2.1∧aa (xs++(CS n).take z.1)*1+aa z.2.2.2.2.2=z.2.2.2.2.1*1) (λz=>8-z.1) (0,p,b,o,c,s) ⟨bk _,by simpa using C,by simpa using W⟩ (.cons (by simp only[tS,g8];rfl) H5) C3 ?_;rintro⟨j,q,V,A,G,K⟩ ⟨r,O,m⟩;dsimp only at r O m⊢;refine J4 ?_;refine JL (Kl (i:=56-8*(j:Int)) (j:=0) I I)<|J2 ?_;refine mC (λW=>?_) (λW=>?_)
 ·skip;have J:56-8*(j:Int)=((56-8*j:Nat):Int):=C0;refine J8 ?_;refine JL (IF (i:=56-8*j) (by rw[←J];rfl) (Ia C0))<|JL (Kr (j:=56-8*j) I I C0)<|A4 ?_;refine Ga ?_;rintro _ _ ⟨a,rfl,rfl⟩;refine BH (H':=AC V A (xs++(CS n).take j) K*(AA a 0 (AE [(n>>> c6 (56-8*j)).toUInt8])*R)) Cn<|Ae (CA (ys:=[(n>>> c6 (56-8*j)).toUInt8]) (bb:=a) (oo:=0) I O m I Bz AH I C9 C0) I ?_;rintro _ _ ⟨d,Y,g,l,h,rfl,U,M,rfl⟩;refine J6 ?_;refine JL (MT (i:=56-8*(j:Int)) (j:=8) I I C0)<|J2 ?_;refine Bg (AC Y g (xs++(CS n).take j++[(n>>> c6 (56-8*j)).toUInt8]) h*R) ?_;have e:xs++(CS n).take (j+1)=xs++(CS n).take j++[(n>>> c6 (56-8*j)).toUInt8]:=by rw[Adb n j C0,c5]
  exact BV (j+1,d,Y,g,l,h) ⟨C0,by rw[e];exact U,by rw[e];exact M⟩ (by show 8-(j+1)<8-j;omega) (.cons O' (.cons I (.cons (by show some (Value.int _ _)=some _;congr 2;simp only[];omega) .nil))) (by simp only[e])
 obtain rfl:j=8:=C0;refine Fi ?_;exact mr [4] I I ⟨q,V,A,G,K,I,O,m,I⟩
def vX(n:UInt64)(R):Fn prog B 109 [.slice none 0 0,u64 n] R (λv S=>DI R (CS n) v S):=by
 have h:=Ve (B:=B) n none 0 0 0 [] [] R E7 I C3;rw[GY,BS]at h;exact h
def FX(xs:List UInt8):List UInt8:=xs++a9 (7-aa xs%8) 0++[ad (aa xs%256)]
def Aaw(xs:List UInt8):aa (FX xs)=8*(aa xs/8+1):=by simp[FX];omega
def lU(ks xs:List UInt8):UInt64:=
 let v:=Gj (FX xs) (aa xs/8+1) (Fg ks)
 let v:=KQ 4 {v with c:=v.c ^^^255}
 v.a ^^^v.b ^^^v.c ^^^v.d
def uA(xs:List UInt8)(v):∀k,k≤aa xs/8→Gj (FX xs) k v=Gj xs k v
 |0,_=>rfl
 |k+1,h=>by
  simp only[Gj];rw[uA xs v k C0];congr 1;refine X' 8 λj W=>?_;simp only[ek,Cx,FX,c5];rw[E2 C0]
def aq(xs:List UInt8):le ((FX xs).drop (8*(aa xs/8))) 8=le (LJ xs) 8:=by
 refine X' 8 λj W=>?_;have G:ad (aa xs%256)=ad (aa xs):=by
  apply Ajj.1;simp
 simp only[ek,Cx,FX,LJ,NJ,Ajx,a5,di,s8];by_cases O:8*(aa xs/8)+j<aa xs
 ·rw[c5,E2 O,AF C0,E2 C9,Cx]
 by_cases U:j=7
 ·subst U;rw[AJ I,AJ C0,R' C9];simp[show 8*(aa xs/8)+7-(aa xs+(7-aa xs%8))=0 by omega,G]
 rw[c5,R' C0,E2 C9,AF C0,R' C9,
  Aky,Aky,AJ C0,AJ C9]
def jx(ks xs:List UInt8):lU ks xs=IP ks xs:=by
 simp only[lU,IP,Gj,aq,uA xs (Fg ks) (aa xs/8) Dz]
set_option maxHeartbeats 2000000 in
def uW(ks xs:List UInt8)(p:Option Addr)(b o c:Nat)(H:HP)(hk:aa ks=16)(C:Sl p b o (aa xs) c)(hr:AZ B H b o xs)(F:aa xs<100000000):
  Fn prog B 157 [.agg (AE ks).toArray,.slice p (aa xs) c] H (λv S=>v=u64 (IP ks xs)∧S=H):=by
 refine mI func157 ?_;refine J2 ?_;refine LG ?_;rintro _ _ ⟨Y,rfl,rfl⟩;refine BB ?_;refine JL (aX (h:=8) I I C0)<|mE I (XN _ Y 0 16 8 ks _ Rc AH C0 C0)<|KW ?_;refine JL (qE (l:=8) I I C0)<|mE I (XN _ Y (0+8*1) (16-8) (16-8) (ks.drop 8) _ (Lz (k:=16) Rc C0 C0) AH C0 C9)<|Lx ?_;refine cZ ?_;rintro _ _ ⟨s,rfl,rfl⟩;refine DE ?_;refine BH (H':=AC 0 0 ([]:List UInt8) []*(AA s 0 (s4 (Fg ks))*(AA Y 0 (AE ks)*H))) (by rw[GY,BS];rfl)<|Ae (CA (p:=none) (c:=0) (ys:=xs) (bb:=b) (oo:=o) I E7 I I C AH I C9 C0) I ?_;rintro _ _ ⟨P,g,Q,R,T,rfl,D,L,rfl⟩;refine J5 ?_;refine Bf (α:=Nat×Option Addr×Nat×Nat×Nat×List Value) (λz=>[(1,.slice p (aa xs) c),(7,ptr s 0),(8,.slice z.2.1 (aa (xs++a9 z.1 0)) z.2.2.2.2.1)]) (λz=>AC z.2.2.1 z.2.2.2.1 (xs++a9 z.1 0) z.2.2.2.2.2*(AA s 0 (s4 (Fg ks))*(AA Y 0 (AE ks)*H))) (λz=>z.1≤7-aa xs%8∧Sl z.2.1 z.2.2.1 z.2.2.2.1 (aa (xs++a9 z.1 0)) z.2.2.2.2.1∧aa (xs++a9 z.1 0)*1+aa z.2.2.2.2.2=z.2.2.2.2.1*1) (λz=>7-aa xs%8-z.1) (0,P,g,Q,R,T) ⟨bk _,by simpa using D,by simpa using L⟩ (.cons I (.cons I (.cons (by simp only[Ajc,g8];rfl) .nil))) C3 ?_;rintro⟨j,q,V,o',G,s'⟩ ⟨hj,O,m⟩;dsimp only at hj O m⊢;have x:aa (xs++a9 j (0:UInt8))=aa xs+j:=C3;refine J5 ?_;refine JL (RL (j:=8) I I C0)<|JL (H4 (j:=7) I I)<|J2 ?_;refine mC (λW=>?_) (λW=>?_)
 ·refine J5 ?_;refine Ga ?_;rintro _ _ ⟨w,rfl,rfl⟩;refine BH (H':=AC V o' (xs++a9 j 0) s'*(AA w 0 (AE [(0:UInt8)])*(AA s 0 (s4 (Fg ks))*(AA Y 0 (AE ks)*H)))) Cn<|Ae (CA (ys:=[(0:UInt8)]) (bb:=w) (oo:=0) I O m I Bz AH I (by rw[x];simp;omega) C0) I ?_;rintro _ _ ⟨q2,u,o2,c2,s2,rfl,U,M,rfl⟩;refine J3 ?_;refine Bg (AC u o2 (xs++a9 j 0++[0]) s2*(AA s 0 (s4 (Fg ks))*(AA Y 0 (AE ks)*H))) ?_;have e:xs++a9 (j+1) (0:UInt8)=xs++a9 j 0++[0]:=by rw[Ake,c5]
  exact BV (j+1,q2,u,o2,c2,s2) ⟨by simp only[x]at W;omega,by rw[e];exact U,by rw[e];exact M⟩ (by simp only[x]at W;show 7-aa xs%8-(j+1)<7-aa xs%8-j;omega) (.cons I (.cons I (.cons O' .nil))) (by simp only[e])
 obtain rfl:j=7-aa xs%8:=by simp only[x]at W;omega
 refine Ei ?_;refine JL (jG (j:=256) I I C0)<|JL Oh<|Ga ?_;rintro _ _ ⟨A,rfl,rfl⟩;refine BH (H':=AC V o' (xs++a9 (7-aa xs%8) 0) s'*(AA A 0 (AE [ad (aa xs%256)])*(AA s 0 (s4 (Fg ks))*(AA Y 0 (AE ks)*H)))) Cn<|Ae (CA (ys:=[ad (aa xs%256)]) (bb:=A) (oo:=0) I O m I Bz AH I (by rw[x];simp;omega) C0) I ?_;rintro _ _ ⟨q3,K,y,r,a,rfl,X,J,rfl⟩;refine CY ?_;have hPl:=Aaw xs;refine Bf (λk:Nat=>[(7,ptr s 0),(8,.slice q3 (aa (FX xs)) r),(9,iN (8*k))]) (λk=>AA s 0 (s4 (Gj (FX xs) k (Fg ks)))*(AC K y (FX xs) a*(AA A 0 (AE [ad (aa xs%256)])*(AA Y 0 (AE ks)*H)))) (λk=>k≤aa xs/8+1) (λk=>aa xs/8+1-k) 0 Du DW (by show AC K y (FX xs) a*(_*(AA s 0 (s4 (Fg ks))*_))=AA s 0 (s4 (Fg ks))*_;ac_rfl) ?_;intro k N;refine J9 ?_;refine mC (λW=>?_) (λW=>?_)
 ·refine J8 ?_;refine JL (Lh (l:=8*k) I I C0)<|mE I (XN _ K (y+8*k*1) (r-8*k) (aa (FX xs)-8*k) ((FX xs).drop (8*k)) _ (Lz X C0 (X.2)) AH C0 C3)<|JR<|E6 ?_;refine mE I (U1 {Gj (FX xs) k (Fg ks)with d:=(Gj (FX xs) k (Fg ks)).d ^^^le ((FX xs).drop (8*k)) 8} _)<|JR<|DE ?_;refine mE I (U1 (UW {Gj (FX xs) k (Fg ks)with d:=(Gj (FX xs) k (Fg ks)).d ^^^le ((FX xs).drop (8*k)) 8}) _)<|JR<|Eh ?_;refine JL (LT (j:=8) I I C0)<|J2 ?_;exact BV (k+1) C0 C0 DW I
 obtain rfl:k=aa xs/8+1:=C0;refine BQ ?_;refine JL (Mv (b:=255) I I)<|CK ?_;refine Bf (λj:Nat=>[(7,ptr s 0),(11,iN j)]) (λj=>AA s 0 (s4 (KQ j {Gj (FX xs) (aa xs/8+1) (Fg ks)with c:=(Gj (FX xs) (aa xs/8+1) (Fg ks)).c ^^^255}))*(AC K y (FX xs) a*(AA A 0 (AE [ad (aa xs%256)])*(AA Y 0 (AE ks)*H)))) (λj=>j≤4) (λj=>4-j) 0 Du H5 I ?_;intro j hj2;refine J4 ?_;refine JL TY<|J2 ?_;refine mC (λW=>?_) (λW=>?_)
 ·refine J6 ?_;refine mE I (U1 (KQ j {Gj (FX xs) (aa xs/8+1) (Fg ks)with c:=(Gj (FX xs) (aa xs/8+1) (Fg ks)).c ^^^255}) _)<|JR<|BQ ?_;exact BV (j+1) C0 C0 H5 (by rw[rB])
 obtain rfl:j=4:=C0;refine Ff ?_;exact mR [4] H I I ⟨by rw[←jx];rfl,I⟩
def gk(ks:List UInt8)(side:UInt8)(n:UInt64)(xs:List UInt8)(i)(h:i<aa xs):DH xs (Dm ks side n (i+1))=DH xs (Dm ks side n i)++[xs.getD i 0 ^^^RU ks side n i]:=by
 rw[←vD,dP _ _ _ (by rw[LE];exact h),LE]
set_option maxHeartbeats 1000000 in
def r7(ks:List UInt8)(hk:aa ks=16)(d:Nat)(number:UInt64)(xs:List UInt8)(p:Option Addr)(b o c:Nat)(H:HP)(C:Sl p b o (aa xs) c)(hr:AZ B H b o xs)(F:aa xs<100000000):
  Fn prog B 106 [.agg (AE ks).toArray,iN d,u64 number,.slice p (aa xs) c] H (λv S=>DI H (EF ks (ad d) number xs) v S):=by
 refine mI func106 ?_;refine J2 ?_;refine LG ?_;rintro _ _ ⟨J,rfl,rfl⟩;refine Eh ?_;refine Bf (α:=Nat×KE) (λz=>[(1,iN d),(2,u64 number),(3,.slice p (aa xs) c),(4,ptr J 0),(9,.slice z.2.1 (aa (DH xs (Dm ks (ad d) number z.1))) z.2.2.2.2.1),(10,iN z.1)]) (λz=>AC z.2.2.1 z.2.2.2.1 (DH xs (Dm ks (ad d) number z.1)) z.2.2.2.2.2*(AA J 0 (AE ks)*H)) (λz=>z.1≤aa xs∧z.2.ok (aa (DH xs (Dm ks (ad d) number z.1)))) (λz=>aa xs-z.1) (0,none,0,0,0,[]) ⟨bk _,by rw[show Dm ks (ad d) number 0=[]from rfl];simp[DH,KE.ok,Sl]⟩ (.cons I (.cons I (.cons I (.cons I (.cons (by rw[show Dm ks (ad d) number 0=[]from rfl];simp[DH];rfl) Jz))))) (by rw[show Dm ks (ad d) number 0=[]from rfl];simp only[DH,List.zipWith_nil_right];rw[GY,BS]) ?_;rintro⟨i,q,G,Y,X,w⟩ ⟨M,O,m⟩;dsimp only at M O m⊢;have hxl:aa (DH xs (Dm ks (ad d) number i))=i:=by rw[L9 _ _ (by rw[LE];omega),LE]
 have ir:=PF (B:=B) hr;refine J9 ?_;refine mC (λW=>?_) (λW=>?_)
 ·refine J7 ?_;refine JL Oh<|Ga ?_;rintro _ _ ⟨L,rfl,rfl⟩;refine BH (H':=AC L 0 [ad d,1] []*(AC G Y (DH xs (Dm ks (ad d) number i)) w*(AA J 0 (AE ks)*H))) I<|J1 ?_;refine mE I (Ve number (some ⟨L,0,none⟩) L 0 2 [ad d,1] [] _ Bz I C3) ?_;rintro _ _ ⟨T,y,D,c24,P,rfl,A,U,rfl⟩;refine J7 ?_;refine JL (Afc (j:=8) I I C0)<|JL Oh<|Ga ?_;rintro _ _ ⟨h,rfl,rfl⟩;refine BH (H':=AC y D ([ad d,1]++CS number) P*(AA h 0 (AE [ad (i/8)])*(AC G Y (DH xs (Dm ks (ad d) number i)) w*(AA J 0 (AE ks)*H)))) Cn<|Ae (CA (ys:=[ad (i/8)]) (bb:=h) (oo:=0) I A U I Bz AH I Tz C0) I ?_;rintro _ _ ⟨p30,b30,o30,c30,s30,rfl,N,V,rfl⟩;refine J5 ?_;refine JL OF<|J1 ?_;refine mE I (uW ks (([ad d,1]++CS number)++[ad (i/8)]) p30 b30 o30 c30 _ hk N AH Tz)<|Lx ?_;refine mE I (vX _ _) ?_;rintro _ _ ⟨g,r,o35,u,s,rfl,K,R,rfl⟩;refine J3 ?_;refine I4 (AC r o35 (CS (IP ks (([ad d,1]++CS number)++[ad (i/8)]))) s*(AC G Y (DH xs (Dm ks (ad d) number i)) w*(AA J 0 (AE ks)*H)))<|mA 12 14 ?_;refine A5 ?_;refine JT 3 I (CJ I I (b:=b) (o:=o) C W)<|JT 4 I (Hp I W)<|BE ?_;refine JT 7 I (jG (j:=8) I I C0)<|JT 8 I (CJ I I (b:=r) (o:=o35) K WK)<|JT 9 I (Hp I WK)<|JT 10 I (eZ I I)<|Au 11 C1 I I It ?_;rintro _ _ ⟨Q,rfl,rfl⟩;refine BT ?_;refine F9 (H':=AC G Y (DH xs (Dm ks (ad d) number i)) w*(AA Q 0 (AE [xs.getD i 0 ^^^(CS (IP ks (([ad d,1]++CS number)++[ad (i/8)]))).getD (i%8) 0])*(AC r o35 (CS (IP ks (([ad d,1]++CS number)++[ad (i/8)]))) s*(AA J 0 (AE ks)*H)))) (by show AA Q 0 (AE [xs.getD i 0 ^^^(CS (IP ks (([ad d,1]++CS number)++[ad (i/8)]))).getD (i%8) 0])*_=_;ac_rfl)<|Au 12 C1 I I (CA (ys:=[xs.getD i 0 ^^^(CS (IP ks (([ad d,1]++CS number)++[ad (i/8)]))).getD (i%8) 0]) (bb:=Q) (oo:=0) I O m I Bz AH I (by rw[hxl];simp;omega) C0) ?_;rintro _ _ ⟨a,b48,o48,x,s48,rfl,h5,h6,rfl⟩;refine FF ?_;refine GU 13 C1 I I HG Fk<|Be ?_;refine Bg (AC b48 o48 ((DH xs (Dm ks (ad d) number i))++[xs.getD i 0 ^^^(CS (IP ks (([ad d,1]++CS number)++[ad (i/8)]))).getD (i%8) 0]) s48*(AA J 0 (AE ks)*H)) ?_;have e:=gk ks (ad d) number xs i W;exact BV (i+1,a,b48,o48,x,s48) ⟨W,by rw[e];exact⟨h5,h6⟩⟩ (by show (aa xs)-(i+1)<aa xs-i;omega) (.cons I (.cons I (.cons I (.cons I (.cons O' Jz))))) (by simp only[e];rfl)
 obtain rfl:i=aa xs:=C0;refine Fi ?_;exact mR [8] (AC G Y (DH xs (Dm ks (ad d) number (aa xs))) w*H) I I ⟨q,G,Y,X,w,I,O,m,I⟩
def ua(ks:List UInt8)(hk:aa ks=16)(d:Nat)(number:UInt64)(xs:List UInt8)(p:Option Addr)(b o c:Nat)(H:HP)(hs:Sl p b o (aa xs) c)(hr:AZ B H b o xs)(F:aa xs<90000000):
  Fn prog B 105 [.agg (AE ks).toArray,iN d,u64 number,.slice p (aa xs) c] H (λv S=>DI H (Ij ks (ad d) number xs) v S):=by
 refine mI func105 ?_;refine J2 ?_;refine LG ?_;rintro _ _ ⟨J,rfl,rfl⟩;refine J6 ?_;refine JL Oh<|Ga ?_;rintro _ _ ⟨Y,rfl,rfl⟩;refine BH (H':=AC Y 0 [ad d,2] []*(AA J 0 (AE ks)*H)) I<|J1 ?_;refine mE I (Ve number (some ⟨Y,0,none⟩) Y 0 2 [ad d,2] [] _ Bz I C3) ?_;rintro _ _ ⟨M,a,g,i,j,rfl,hs15,hc15,rfl⟩;refine J7 ?_;refine Ae zP I ?_;rintro _ _ ⟨m,G,V,r,N,rfl,O,U,rfl⟩;refine J5 ?_;refine JL OF<|J1 ?_;refine mE I (uW ks ([ad d,2]++CS number++xs) m G V r _ hk O AH SE)<|Lx ?_;refine mE I (vX _ _) ?_;rintro _ _ ⟨s,h,A,L,X,rfl,e,q,rfl⟩;refine J4 ?_;exact mR [8] (AC h A (CS (IP ks ([ad d,2]++CS number++xs))) X*H) I I ⟨s,h,A,L,X,I,e,q,I⟩
def Ui(xs:List UInt8):Nat→UInt64
 |0=>0
 |i+1=>Ui xs i*256+(xs.getD i 0).toUInt64
def N_(x:UInt64)(y:UInt8):x<<< 8|||y.toUInt64=x*256+y.toUInt64:=by
 apply Alh.1;have G:=y.toNat_lt;rw[Akq,Ajm,Alf,Alg,Ajz,show(8:UInt64).toNat%64=8 from I,show(256:UInt64).toNat=256 from I,Akf];generalize x.toNat=n;rw[show n*2^8%2^64=2^8*(n%2^56) by rw[show(2:Nat)^64=2^56*2^8 by decide,Ak8,Al4],←Aj9 (by omega:y.toNat<2^8)];omega
def nK(xs:List UInt8):∀i,Ui xs i=be xs i
 |0=>rfl
 |i+1=>by simp only[Ui,be,N_,nK xs i]
def Rr:BR xs=BR ys↔xs=ys:=⟨λh=>by simpa[BR]using h,λh=>by rw[h]⟩
set_option maxHeartbeats 1000000 in
def aN(ks:List UInt8)(hk:aa ks=16)(sd:Nat)(xs:List UInt8)(p:Option Addr)(b o c:Nat)(H:HP)(hs:Sl p b o (aa xs) c)(hr:AZ B H b o xs)(F:aa xs<90000000):
  Fn prog B 65 [.agg (AE ks).toArray,iN sd,.slice p (aa xs) c] H (λv O=>match B6 ks (ad sd) xs with
   |none=>v=.tuple #[u64 0,.slice none 0 0,.bool false]∧O=H
   |some (n,ys)=>∃M,v=.tuple #[u64 n,M,.bool true]∧DI H ys M O):=by
 refine mI func65 ?_;refine J2 ?_;refine LG ?_;rintro _ _ ⟨P,rfl,rfl⟩;refine CY ?_;refine JL (ID (j:=16) I I)<|J1 ?_;refine DU 17 I (λK=>?_) (λK=>?_)
 ·refine E6 ?_;exact mR [6,7,8] H I I iU
 refine BB ?_;refine JL (Ih (j:=300) I I)<|A5 ?_;refine mC (λW=>?_) (λW=>?_)
 ·refine BQ ?_;exact mR [6,7,8] H I I iU
 have u:16≤aa xs:=C0;have L:aa xs≤300:=C0;have hbl:aa (FO xs)=aa xs-16:=by simp[FO];omega
 have S:¬(aa xs<16∨300<aa xs):=C0;have r:=PF (B:=B) hr;have e:Sl (sp p c 8 1) b (o+8*1) (aa (FO xs)) (c-8):=by
  exact oU
 have R:AZ B H b (o+8*1) (FO xs):=hr.sub 8 (aa xs-8) C0;have m:Sl (sp p c (aa xs-8) 1) b (o+(aa xs-8)*1) (aa (xs.drop (aa xs-8))) (c-(aa xs-8)):=by
  exact dU
 have V:AZ B H b (o+(aa xs-8)*1) (xs.drop (aa xs-8)):=hr.L8 (aa xs-8);refine FM ?_;refine Bf (λj:Nat=>[(1,iN sd),(2,.slice p (aa xs) c),(3,ptr P 0),(10,iN j),(9,u64 (Ui xs j))]) (λ_=>AA P 0 (AE ks)*H) (λj=>j≤8) (λj=>8-j) 0 Du
  Gx I ?_
 intro j Q;refine J4 ?_;refine JL (ID (j:=8) I I)<|J2 ?_;refine mC (λW=>?_) (λW=>?_)
 ·refine J6 ?_;refine JL (Zc (b:=256) I I)<|J2 ?_;refine JL m7<|JL Sj<|JL (TB I)<|CY ?_;exact BV (j+1) C0 C0 Gx I
 obtain rfl:j=8:=C0;rw[nK];refine Ei ?_;refine JL (Ji (j:=8) I I C0)<|JL Xj<|J5 ?_;refine JL OF<|J3 ?_;refine mE I (ua ks hk sd (be xs 8) (FO xs) (sp p c 8 1) b (o+8*1) (c-8) _ e AH C0) ?_;rintro _ _ ⟨D,d,G,J,N,rfl,g,C,rfl⟩;refine J5 ?_;refine mA 13 13 ?_;refine FJ ?_;refine JT 1 I (KO I g AH)<|QS ?_;refine JT 5 I (Ji (j:=8) I I C0)<|JT 6 I mL<|JT 7 I (KO I m AH)<|JT 8 I (WH I I)<|FJ ?_;refine D4 53 I (λhg2=>?_) (λhg2=>?_)
 ·refine Eh ?_;exact mR [6,7,8] H I I (by rw[show B6 ks (ad sd) xs=none from by rw[B6,AF S,AJ (.inr (λh=>hg2 (Rr.2 h)))]];exact Dj)
 refine A4 ?_;refine JY 11 I F2 qZ<|A5 ?_;refine mC (λW=>?_) (λW=>?_)
 ·refine BQ ?_;exact mR [6,7,8] H I I (by rw[show B6 ks (ad sd) xs=none from by rw[B6,AF S,AJ (.inl W)]];exact Dj)
 refine J4 ?_;refine JL OF<|J3 ?_;refine mE I (r7 ks hk sd (be xs 8) (FO xs) (sp p c 8 1) b (o+8*1) (c-8) _ e AH C0) ?_;rintro _ _ ⟨z,a,s,A,w,rfl,x,y,rfl⟩;refine Ki ?_;exact mR [6,7,8] (AC a s (EF ks (ad sd) (be xs 8) (FO xs)) w*H) I I (by rw[show B6 ks (ad sd) xs=some (be xs 8,EF ks (ad sd) (be xs 8) (FO xs)) by rw[B6,AF S,AF (λh=>h.elim W (λh=>hg2 (λU=>h (Rr.1 U))))]];exact⟨_,I,z,a,s,A,w,I,x,y,I⟩)
end
section
variable{B:World}
def od(Z:aa ks=16)(p b o c H)(C:Sl p b o (aa xs) c)(hr:AZ B H b o xs)(F:aa xs<90000000)(S:B6 ks side xs=none):
  Fn prog B 142 [.agg (AE ks++[u8 side]).toArray,.slice p (aa xs) c] H (λv a=>v=.tuple #[u64 0,.slice none 0 0,.bool false]∧a=H):=by
 have h:=dD ks Z side xs p b o c H C hr F;rw[S]at h;exact h
def oy(Z:aa ks=16){n:UInt64}(p b o c H)(C:Sl p b o (aa xs) c)(hr:AZ B H b o xs)(F:aa xs<90000000)(S:B6 ks side xs=some (n,ys)):
  Fn prog B 142 [.agg (AE ks++[u8 side]).toArray,.slice p (aa xs) c] H (λv a=>∃q V A G K,v=.tuple #[u64 n,.slice q (aa ys) G,.bool true]∧Sl q V A (aa ys) G∧aa ys*1+aa K=G*1∧a=AC V A ys K*H):=by
 have h:=dD ks Z side xs p b o c H C hr F;rw[S]at h;exact h.mono (by rintro v a ⟨M,rfl,q,V,A,G,K,rfl,O,U,rfl⟩;exact⟨q,V,A,G,K,I,O,U,I⟩)
def Y0(c:Int)(n:Nat):Nat:=(if c<0 then(-(c+1)).toNat else c.toNat)%n
def Adm(c:Int)(hr: -9223372036854775808≤c∧c<9223372036854775808)(n:Nat)(G:0<n)(H:HP):Fn prog B 19 [.int .i64 c,iN n] H (λv S=>v=iN (Y0 c n)∧S=H):=by
 refine mI func19 ?_;refine BQ ?_;refine JL (Jr (i:=c) (j:=0) I I)<|J2 ?_;refine mC (λhc=>?_) (λhc=>?_)
 ·skip;have e: -(c+1)=(((-(c+1)).toNat:Nat):Int):=C0;refine J2 ?_;refine JL (uj (i:=c) (j:=1) I I C0)<|JL (t3 (i:=c+1) I C0)<|J7 ?_;refine JL eR<|J4 ?_;exact Pt
 have e:c=((c.toNat:Nat):Int):=C0;refine J6 ?_;refine JL eR<|J4 ?_;exact Pt
def bU(H):Fn prog B 44 [.nilIface] H (λv S=>v=.tuple #[.int .i64 0,.int .i64 (-1)]∧S=H):=by
 refine Wp ?_;rintro _ _ ⟨J,rfl,rfl⟩;refine J4 ?_;refine Ra ?_;rintro _ _ ⟨F,rfl,rfl⟩;refine J7 ?_;refine JL Pr<|J3 ?_;refine mc (λW=>?_) (λW=>?_);rotate_left
 ·cases W
 refine BQ ?_;exact mR [2,3] H I I Dj
def vu(H:HP):Fn prog B 40 [.nilIface] H (λv S=>v=.int .i64 0∧S=H):=by
 refine mI func40 ?_;refine Be ?_;refine mE I (bU _)<|JR<|Kb ?_;exact Nq
end
section
open Go Go.RowKit Go.Extern.Stop Go.Stop Go.Extern
set_option maxRecDepth 20000
set_option maxHeartbeats 1000000
variable{B:World}
abbrev Ht(q:Nat):Value:=.iface 191 (ptr q 0)
abbrev GJ(q k:Nat)(at_:Value):HP:=AA q 0 [.int .i64 (k:Nat),at_]
def kg(q k:Nat)(at_:Value)(R:HP):Fn prog B 249 [ptr q 0] (GJ q k at_*R) (λv S=>v=Fq k∧S=GJ q k at_*R):=by
 refine mI func249 ?_;refine E6 ?_;exact Nq
def ju(q:Nat)(a old:Value)(F M:Nat)(R:HP):Fn prog B 123 [Ht q,a,.agg #[.pointer (some ⟨1,193,none⟩),ptr M 0,.int .u64 150],D5 191] (AA F 0 [old]*(AA M 0 [ptr F 0]*R))
  (λv S=>v=.bool true∧S=AA F 0 [ptr q 0]*(AA M 0 [ptr F 0]*R)):=by
 refine mI func123 ?_;refine J2 ?_;refine Ae (EB (l:=[.pointer (some ⟨1,193,none⟩),ptr M 0,.int .u64 150]) I I) I ?_;rintro _ _ ⟨r,rfl,rfl⟩;refine J4 ?_;refine Bf (λ_:Unit=>[(0,Ht q),(1,a),(3,D5 191),(6,ptr r 0)]) (λ_=>(AA r 0 [.pointer (some ⟨1,193,none⟩),ptr M 0,.int .u64 150]*(AA F 0 [old]*(AA M 0 [ptr F 0]*R)))) (λ_=>True) (λ_=>0) () trivial DJ I ?_;intro _ _;refine J5 ?_;refine JL (LO I (λw _=>nf _ w))<|J1 ?_;refine JL (JF I I (λw _=>qg w))<|J2 ?_;refine mc (λW=>?_) (λW=>?_);rotate_left
 ·cases W
 refine J3 ?_;refine JL (LO (v:=.agg #[.pointer (some ⟨1,191,none⟩),ptr F 0,.int .u64 406]) I (λw X=>G_ ⟨M,0,none⟩ ⟨F,0,none⟩ w ((AH:Rd B (AA r 0 [.pointer (some ⟨1,193,none⟩),ptr M 0,.int .u64 150]*(AA F 0 [old]*(AA M 0 [ptr F 0]*R))) M 0 (ptr F 0) True).get w X trivial)) (ht:=λw X=>B_ _ _ ⟨M,0,none⟩ ⟨F,0,none⟩ w ((AH:Rd B (AA r 0 [.pointer (some ⟨1,193,none⟩),ptr M 0,.int .u64 150]*(AA F 0 [old]*(AA M 0 [ptr F 0]*R))) M 0 (ptr F 0) True).get w X trivial)))<|J1 ?_;refine Ae (OG (Post:=λv S=>∃b,v=.agg #[.pointer (some ⟨1,191,none⟩),ptr b 0,.int .u64 150]∧S=AA b 0 [ptr q 0]*(AA r 0 [.pointer (some ⟨1,193,none⟩),ptr M 0,.int .u64 150]*(AA F 0 [old]*(AA M 0 [ptr F 0]*R)))) I (λw X=>⟨_,_,_,ai _ w,⟨w.heap.size,I,I⟩,X.alloc _ _ (KA I)⟩)) I ?_;rintro _ _ ⟨h,rfl,rfl⟩;refine Ae (OG (Post:=λv S=>S=AA h 0 [ptr q 0]*(AA r 0 [.pointer (some ⟨1,193,none⟩),ptr M 0,.int .u64 150]*(AA F 0 [ptr q 0]*(AA M 0 [ptr F 0]*R)))) I (λw X=>by
 have c:=(AH:Rd B (AA h 0 [ptr q 0]*(AA r 0 [.pointer (some ⟨1,193,none⟩),ptr M 0,.int .u64 150]*(AA F 0 [old]*(AA M 0 [ptr F 0]*R)))) h 0 (ptr q 0) True).get w X trivial;obtain⟨⟨u,d,J⟩,V,C⟩:=Sat.store (v:=ptr q 0) (H':=AA h 0 [ptr q 0]*(AA r 0 [.pointer (some ⟨1,193,none⟩),ptr M 0,.int .u64 150]*(AA F 0 [ptr q 0]*(AA M 0 [ptr F 0]*R)))) (s:=True) (b:=F) (i:=0) AH X trivial I;exact⟨_,_,_,Aeh ⟨F,0,none⟩ ⟨h,0,none⟩ ⟨q,0,none⟩ u w c d V,I,C⟩) (ht:=λw X=>by
 have c:=(AH:Rd B (AA h 0 [ptr q 0]*(AA r 0 [.pointer (some ⟨1,193,none⟩),ptr M 0,.int .u64 150]*(AA F 0 [old]*(AA M 0 [ptr F 0]*R)))) h 0 (ptr q 0) True).get w X trivial;obtain⟨⟨u,d,J⟩,V,C⟩:=Sat.store (v:=ptr q 0) (H':=AA h 0 [ptr q 0]*(AA r 0 [.pointer (some ⟨1,193,none⟩),ptr M 0,.int .u64 150]*(AA F 0 [ptr q 0]*(AA M 0 [ptr F 0]*R)))) (s:=True) (b:=F) (i:=0) AH X trivial I;exact cz _ _ ⟨F,0,none⟩ ⟨h,0,none⟩ ⟨q,0,none⟩ u w c d J V)) I ?_
 rintro _ _ rfl;refine Fi ?_;exact mR [8] (AA F 0 [ptr q 0]*(AA M 0 [ptr F 0]*R)) I I Dj
def lq(hG:B.cell? ⟨0,0,none⟩=some (D5 106))(q old b4 R):Fn prog B 79 [Ht q,.iface 193 (ptr b4 0)] (AA b4 0 [old]*R) (λv H'=>v=.bool true∧H'=AA b4 0 [ptr q 0]*R):=by
 refine XU ?_;refine mc (λW=>?_) (λW=>?_)
 ·cases W
 refine J6 ?_;refine M5 ?_;refine mc (λW=>?_) (λW=>?_)
 ·cases W
 refine J5 ?_;refine Ae jV I ?_;rintro _ _ ⟨b14,rfl,rfl⟩;refine NN ?_;rintro _ _ ⟨F,rfl,rfl⟩;refine cB ?_;refine DU 20 I (λK=>?_) (λK=>?_)
 ·exact absurd I K
 refine A5 ?_;refine JL gB<|A5 ?_;refine mc (λW=>?_) (λW=>?_)
 ·cases W
 refine bM ?_;refine DU 30 I (λe=>?_) (λe=>?_)
 ·refine A5 ?_;refine JL Xl<|A4 ?_;refine JL Z0<|BB ?_;refine mc (λW=>?_) (λW=>?_)
  ·cases W
  refine J8 ?_;refine BH (H':=AA b4 0 [old]*(AA b14 0 [ptr b4 0]*(AA F 0 [.pointer (some ⟨1,193,none⟩),ptr b14 0,.int .u64 150]*R))) C4<|mE I (ju q _ old b4 b14 (AA F 0 [.pointer (some ⟨1,193,none⟩),ptr b14 0,.int .u64 150]*R))<|JJ ?_;exact mR [4] (AA b4 0 [ptr q 0]*R) I I Dj
 exact absurd C2 e
def ew(q)(k:Int)(w):(binOp .eql 106 (.iface 191 q) (.iface 41 (.int .i64 k))).run prog w=.ok (.bool false) w:=by kernel_rfl
def Aaz(q k:Nat)(at_:Value)(R:HP):Fn prog B 125 [Ht q,Fq k,.bool true] (GJ q k at_*R) (λv S=>v=.bool true∧S=GJ q k at_*R):=by
 refine mI func125 ?_;refine J6 ?_;refine Bf (λz:Bool=>[(0,bif z then Ht q else Fq k),(1,Fq k),(2,.bool true)]) (λ_=>GJ q k at_*R) (λ_=>True) (λz=>bif z then 1 else 0) true trivial DW I ?_;intro z _;have Y:(bif z then Ht q else Fq k)=Ht q∨z=false:=by cases z<;>simp
 cases z;rotate_left
 ·dsimp only[cond_true]at*;refine J6 ?_;refine Do 15 I (λhg1=>?_) (λhg1=>?_)
  ·refine BB ?_;refine JL (Mk (r:=.bool false) I I (λw=>by kernel_rfl) (λw=>by rw[ew]))<|A5 ?_;refine mc (λhc=>?_) (λhc=>?_)
   ·cases hc
   refine J6 ?_;refine JL TG<|DL ?_;refine Do 26 I (λe=>?_) (λe=>?_)
   ·cases e
   refine Fj ?_;refine JL (WY (v:=.tuple #[Ht q,.bool true]) I (run_typeAssert_hasB Aw.get C1 _ _))<|J4 ?_;refine mc (λhc=>?_) (λhc=>?_);rotate_left
   ·cases hc
   refine J8 ?_;refine Ae (Ab4 I I (kg q k at_ R)) I<|Lx ?_;refine M5 ?_;refine mc (λhc=>?_) (λhc=>?_)
   ·cases hc
   refine J3 ?_;exact BV false trivial C2 DW I
  cases hg1
 dsimp only[cond_false]at*;exact gD
def H? (q k:Nat)(at_:Value)(R:HP):Fn prog B 80 [Ht q,Fq k] (GJ q k at_*R) (λv S=>v=.bool true∧S=GJ q k at_*R):=by
 refine mI func80 ?_;refine J9 ?_;refine La ?_;refine J1 ?_;refine Do 8 I (λK=>?_) (λK=>?_)
 ·cases K
 refine A5 ?_;refine La ?_;refine A5 ?_;refine mc (λW=>?_) (λW=>?_)
 ·cases W
 refine J5 ?_;refine JL SA<|JL pI<|J8 ?_;refine mE I (Aaz q k at_ R)<|JJ ?_;exact Pt
def uK(M:B.cell? ⟨0,0,none⟩=some (D5 106))(k H):Fn prog B 44 [Fq k] H (λv S=>v=.tuple #[.int .i64 k,.int .i64 (-1)]∧S=H):=by
 refine Wp ?_;rintro _ _ ⟨J,rfl,rfl⟩;refine J4 ?_;refine Ra ?_;rintro _ _ ⟨F,rfl,rfl⟩;refine J7 ?_;refine La ?_;refine J3 ?_;refine mc (λW=>?_) (λW=>?_)
 ·cases W
 refine Bn ?_;refine TE ?_;refine mE I (Q_ M k _ J _)<|GZ ?_;refine Do 13 I (λK=>?_) (λK=>?_)
 ·cases K
 refine E6 ?_;refine TE ?_;refine mE I (ko M k _ F _)<|GZ ?_;refine Do 34 I (λe=>?_) (λe=>?_)
 ·refine Bt ?_;refine mE I (zn k _)<|JR<|Bn ?_;refine mc (λW=>?_) (λW=>?_);rotate_left
  ·cases W
  refine CY ?_;exact mR [2,3] H I I Dj
 cases e
def x6(M:B.cell? ⟨0,0,none⟩=some (D5 106))(k:Nat)(H:HP):Fn prog B 40 [Fq k] H (λv S=>v=.int .i64 k∧S=H):=by
 refine mI func40 ?_;refine Be ?_;refine mE I (uK M k _)<|JR<|Kb ?_;exact Nq
def Ww(M:B.cell? ⟨0,0,none⟩=some (D5 106))(q k at_ R):Fn prog B 44 [Ht q] (GJ q k at_*R) (λv S=>v=.tuple #[.int .i64 k,at_]∧S=GJ q k at_*R):=by
 refine Wp ?_;rintro _ _ ⟨J,rfl,rfl⟩;refine J4 ?_;refine Ra ?_;rintro _ _ ⟨F,rfl,rfl⟩;refine J7 ?_;refine La ?_;refine J3 ?_;refine mc (λW=>?_) (λW=>?_)
 ·cases W
 refine Bn ?_;refine TE ?_;refine mE I (lq M q _ J _)<|GZ ?_;refine Do 13 I (λK=>?_) (λK=>?_)
 ·refine DY ?_;refine BH (H':=GJ q k at_*(AA J 0 [ptr q 0]*(AA F 0 [.int .i64 0]*R))) C4<|A4 ?_;refine mE I (H? q k at_ _)<|JR<|Bn ?_;refine mc (λW=>?_) (λW=>?_);rotate_left
  ·cases W
  refine J1 ?_;refine mA 10 10 ?_;refine Eh ?_;exact mR [2,3] (GJ q k at_*R) I I Dj
 cases K
def fI(M:B.cell? ⟨0,0,none⟩=some (D5 106))(q k:Nat)(at_:Value)(R:HP):Fn prog B 40 [Ht q] (GJ q k at_*R) (λv S=>v=.int .i64 k∧S=GJ q k at_*R):=by
 refine mI func40 ?_;refine Be ?_;refine mE I (Ww M q k at_ _)<|JR<|Kb ?_;exact Nq
end
section
variable{B:World}
abbrev uF(F Y K:Nat):Deferred:={target:=.fn (.func 175) [ptr F 0,ptr Y 0,ptr K 0].toArray,args:= #[]}
def xm(F Y K H):PG prog B 175 [ptr F 0,ptr Y 0,ptr K 0] .returning .returning H (λS=>S=H):=by
 refine bR func175 I I I I I I (.inl ⟨I,I,I⟩) λQ N=>?_;refine J3 ?_;refine M5 ?_;refine mc (λW=>?_) (λW=>?_)
 ·cases W
 refine J1 ?_;exact N _ _ I
def Ada(F Y K V lv ev R):PG prog B 175 [ptr F 0,ptr Y 0,ptr K 0] (.panicking Ib) (.panicking [{v:=.iface 320 (.agg #[]),recovered:=true}]) (AA F 0 [iN V]*(AA Y 0 [lv]*(AA K 0 [ev]*R)))
  (λS=>∃q,S=GJ q 5 (iN V)*(AA F 0 [iN V]*(AA Y 0 [.slice none 0 0]*(AA K 0 [Ht q]*R)))):=by
 refine bR func175 I I I I I I (.inr ⟨[],I,I⟩) λQ N=>?_;refine J3 ?_;refine JL Pr<|J2 ?_;refine mc (λW=>?_) (λW=>?_);rotate_left
 ·cases W
 refine J4 ?_;refine JL (WY (v:=.tuple #[.agg #[],.bool true]) I (λw=>by kernel_rfl))<|J3 ?_;refine Ae (GS (l:=[]) I) I ?_;rintro _ _ ⟨J,rfl,rfl⟩;refine Bl (Ek (cs:=[]) I I Dj C3)<|JR<|BQ ?_;refine mc (λW=>?_) (λW=>?_)
 ·cases W
 refine Bn ?_;refine JL (FW (cs:=[.int .i64 (5:Nat),iN V]) I I I C5)<|Ae (EB (l:=[.int .i64 (5:Nat),iN V]) I I) I ?_;rintro _ _ ⟨G,rfl,rfl⟩;refine Bn ?_;exactλa w O U M=>N _ _ ⟨G,I⟩ a w O U (by rw[lB]at M;simp only[BS]at M;exact M)
section
variable{n:Nat}{E:A8}{Post:Value→HP→Prop}
def UT{F Y K V lv ev R}(h2:lk E 2=some (ptr Y 0))(M:lk E 3=some (ptr K 0))(J:∀q,Post (.tuple #[.slice none 0 0,Ht q]) (GJ q 5 (iN V)*R)):
  BZ B (Rf prog B f144 Post) (.panic Ib) n E ⟨[uF F Y K],none⟩ (AA F 0 [iN V]*(AA Y 0 [lv]*(AA K 0 [ev]*R))):=
 L! (rs:=[.cell 2 92,.cell 3 106]) (Ada F Y K V lv ev R) I I (λS ⟨q,e⟩=>⟨[.slice none 0 0,Ht q],GJ q 5 (iN V)*R,e▸IC (SH h2 trivial) (IC (SH M trivial) Im),J q,e▸AH⟩)
def gu{F Y K lv ev H R}(h2:lk E 2=some (ptr Y 0))(M:lk E 3=some (ptr K 0))[a:Rd B H Y 0 lv True][h:Rd B H K 0 ev True][hE:CM B H R](J:Post (.tuple #[lv,ev]) R):
  BZ B (Rf prog B f144 Post) .ret n E ⟨[uF F Y K],none⟩ H:=
 Aak (rs:=[.cell 2 92,.cell 3 106]) (xm F Y K H) I I (λS e=>⟨[lv,ev],R,e▸IC (SH h2 trivial) (IC (SH M trivial) Im),J,e▸hE⟩)
end
def Zu{a a'}(h:DG xs k fin a=some (f,a')):aa f.ranges≤aa xs∧f.data.size≤aa xs:=by
 unfold DG at h;split at h
 ·exact kA
 split at h
 ·exact kA
 split at h
 ·split at h
  ·rename_i e;simp only[Option.some.injEq,Prod.mk.injEq]at h;obtain⟨rfl,-⟩:=h;exact⟨(Ws e).2.2.2,bk _⟩
  cases h
 split at h
 ·split at h
  ·exact jU
  cases h
 split at h
 ·split at h
  ·split at h
   ·split at h
    ·rename_i R;simp only[Option.some.injEq,Prod.mk.injEq]at h;obtain⟨rfl,-⟩:=h;exact⟨bk _,by have:=(Wn R).2.2;simpa using this⟩
    cases h
   cases h
  cases h
 exact jU
def Acm{a a'}(h:DG xs k fin a=some (f,a')):f.kind=k:=by
 unfold DG at h;split at h
 ·exact uI
 split at h
 ·exact uI
 split at h
 ·exact wT
 split at h
 ·exact oO
 split at h
 ·exact oO
 split at h
 ·exact wT
 cases h
def Aa8{a}(h:Ef (xs.getD a 0)=0):FK xs a=none:=by
 unfold FK DG;rw[h];rfl
structure SM where
 a:Nat
 av:Nat
 p:Option Addr
 b:Nat
 o:Nat
 c:Nat
 s:List Value
 rs:List RF
def MN(l:List Af):Except Nat (List Af)→Except Nat (List Af)
 | .ok m=>.ok (l++m)
 | .error e=>.error e
def su(x:Except Nat (List Af)):MN [] x=x:=by cases x<;>rfl
def lQ(l f)(x:Except Nat (List Af)):MN l (match x with| .ok m=>.ok (f::m)| .error e=>.error e)=MN (l++[f]) x:=by
 cases x with
 |ok m=>simp[MN]
 |error e=>rfl
def d9(p b o c)(xs:List UInt8)(R)(hs:Sl p b o (aa xs) c)(hr:AZ B R b o xs)(hx:aa xs<10000000000):
  Fn prog B 144 [.slice p (aa xs) c] R (λv S=>match Eb xs with
   | .error e=>∃q,v=.tuple #[.slice none 0 0,Ht q]∧S=GJ q 5 (iN e)*R
   | .ok fs=>∃M,v=.tuple #[M,.nilIface]∧Qk R fs M S):=by
 refine Aco func144 I I I<|J2 ?_;refine Ae (GS (l:=[.slice none 0 0]) I) I ?_;rintro _ _ ⟨b2,rfl,rfl⟩;refine Ae (GS (l:=[.nilIface]) I) I ?_;rintro _ _ ⟨b3,rfl,rfl⟩;refine J5 ?_;refine JL (FW (cs:=[.slice p (aa xs) c,iN 0]) I I I C5)<|Ae (EB (l:=[.slice p (aa xs) c,iN 0]) I I) I ?_;rintro _ _ ⟨b13,rfl,rfl⟩;refine J5 ?_;refine Ae (GS (l:=[iN 0]) I) I ?_;rintro _ _ ⟨b5,rfl,rfl⟩;refine Bl (Eu (v:=iN 0) I I I trivial)<|JR<|BB ?_;refine Ag0 I<|J4 ?_;refine A3 (H':=Db b13 p c xs 0*(AA b5 0 [iN 0]*(AA b2 0 [.slice none 0 0]*(AA b3 0 [.nilIface]*(R))))) (by unfold Db;ac_rfl)<|DE ?_;refine mC (λh0=>?_) (λh0=>?_)
 ·refine J2 ?_;refine FE WW I ?_ ?_;rotate_left
  ·refine JR<|G7 ?_;exact Bg (AA b5 0 [iN 0]*(AA b2 0 [.slice none 0 0]*(AA b3 0 [.nilIface]*R)))<|UT I I (λq=>(by rw[Eb,AJ (hU.1 h0)];exact N9))
  exact MU
 refine J4 ?_;refine Bf (α:=SM) (λz=>[(0,.slice p (aa xs) c),(2,ptr b2 0),(3,ptr b3 0),(4,ptr b13 0),(5,ptr b5 0)]) (λz=>Db b13 p c xs z.a*(AA b5 0 [iN z.av]*(AA b2 0 [.slice z.p (aa z.rs) z.c]*(AA b3 0 [.nilIface]*(AC z.b z.o z.rs z.s*(BM z.rs*R)))))) (λz=>z.a≤aa xs∧aa z.rs≤z.a∧Sl z.p z.b z.o (aa z.rs) z.c∧aa z.rs*7+aa z.s=z.c*7∧(∀r∈z.rs,r.ok∧r.own)∧Eb xs=MN (z.rs.map (·.f)) (GF xs z.a)) (λz=>aa xs-z.a) ⟨0,0,none,0,0,0,[],[]⟩ ⟨bk _,bk _,E7,I,(λr h=>by simp at h),l6⟩ Gx (by show _=Db b13 p c xs 0*(AA b5 0 [iN 0]*(AA b2 0 [.slice none 0 0]*(AA b3 0 [.nilIface]*(AC 0 0 ([]:List RF) []*(BM []*R)))));rw[GY,Re,BS,BS]) ?_;rintro z ⟨hza,hzl,hzs,hzc,hzo,G⟩;refine DY ?_;refine mC (λL=>?_) (λL=>?_)
 ·refine Eh ?_;refine FE (IZ I (Tu 1 C0 b13 p b o c xs z.a _ hs AH C0 hza)) I ?_ ?_;rotate_left
  ·rintro _ _ ⟨O,rfl,rfl⟩;refine MQ ?_;refine G7 ?_;exact absurd O C0
  rintro _ _ ⟨O,rfl,rfl⟩;refine JL (HQ (i:=0) (b:=b) (o:=o+z.a*1) (q:=o+z.a*1) I I (SL hs C0) C0 C0)<|JL (Qu (i:=z.a) (xs:=xs) I AH C0)<|J6 ?_;refine mE I (yt (xs.getD z.a 0) _)<|JR<|Kb ?_;refine mC (λY=>?_) (λY=>?_)
  ·refine J2 ?_;refine FE WW I ?_ ?_;rotate_left
   ·refine JR<|MQ ?_;refine G7 ?_;refine Xt ?_;exact UT I I (λq=>(by have F:=G;rw[SX L (Aa8 (Classical.not_not.1 Y))]at F;rw[F];exact N9))
   exact MU
  have hk1:Ef (xs.getD z.a 0)≠0:=Classical.not_not.1 Y;refine J6 ?_;refine JL (Dy (i:=(xs.getD z.a 0).toNat) (j:=9) I I)<|JL (FW (cs:=AN (r0 (Ef (xs.getD z.a 0)) (decide ((xs.getD z.a 0).toNat=9)))) I I I C5)<|Ae RI I ?_;rintro _ _ ⟨K,rfl,rfl⟩;refine Bl (Ek (cs:=AN (r0 (Ef (xs.getD z.a 0)) (decide ((xs.getD z.a 0).toNat=9)))) I I Ca C5)<|KW ?_;refine mE I (MX (Ef (xs.getD z.a 0)) (zx _ hk1) _) ?_;rintro _ _ ⟨T,f1,w,f2,V,f3,H,C,hF0,rfl,rfl⟩;refine CY ?_;refine BH (H':=Db b13 p c xs (z.a+1)*(AA K 0 (AN (r0 (Ef (xs.getD z.a 0)) (decide ((xs.getD z.a 0).toNat=9))))*(C*(GA T f1 f2 f3 w V H*(AA b5 0 [iN z.a]*(AA b2 0 [.slice z.p (aa z.rs) z.c]*(AA b3 0 [.nilIface]*(AC z.b z.o z.rs z.s*(BM z.rs*R))))))))) C4 ?_;have hcr:=tn (B:=B) hF0 b13 K (decide ((xs.getD z.a 0).toNat=9)) p b o c xs (z.a+1) (GA T f1 f2 f3 w V H*(AA b5 0 [iN z.a]*(AA b2 0 [.slice z.p (aa z.rs) z.c]*(AA b3 0 [.nilIface]*(AC z.b z.o z.rs z.s*(BM z.rs*R)))))) hs AH C0 C0;have hc2:=hcr.1;refine FE (Afs I I hcr.2) I ?_ ?_;rotate_left
  ·rintro _ _ ⟨A,rfl,rfl⟩;refine MQ ?_;refine G7 ?_;have Q:decide ((xs.getD z.a 0).toNat=9)=decide (xs.getD z.a 0=9):=decide_eq_decide.2 ⟨λh=>Ajj.1 h,λh=>by rw[h];rfl⟩;rw[Q]at A;refine Xt ?_;exact UT I I (λq=>(by have F:=G;rw[SX L (by unfold FK;rw[A])]at F;rw[F];exact N9))
  rintro _ _ ⟨r,m,A,J,hrown,rfl⟩;have hkind:=Acm A;have hrsz:=Zu A;have D:G6 r:=⟨J,C0,C0⟩
  have Q:decide ((xs.getD z.a 0).toNat=9)=decide (xs.getD z.a 0=9):=decide_eq_decide.2 ⟨λh=>Ajj.1 h,λh=>by rw[h];rfl⟩;rw[Q]at A;refine J6 ?_;refine BH (H':=AA K 0 (AN r)*(C*(GA T f1 f2 f3 w V H*(Ed r*(Db b13 p c xs m*(AA b5 0 [iN z.a]*(AA b2 0 [.slice z.p (aa z.rs) z.c]*(AA b3 0 [.nilIface]*(AC z.b z.o z.rs z.s*(BM z.rs*R)))))))))) C4 ?_;have g:Gw r.f.kind f1 w f2 V f3 H C:=hkind▸hF0;have W:AZ B (Ed r*(Db b13 p c xs m*(AA b5 0 [iN z.a]*(AA b2 0 [.slice z.p (aa z.rs) z.c]*(AA b3 0 [.nilIface]*(AC z.b z.o z.rs z.s*(BM z.rs*R))))))) r.b r.o r.f.ranges:=(AH:AZ B (AC r.b r.o r.f.ranges r.s*(Db b13 p c xs m*(AA b5 0 [iN z.a]*(AA b2 0 [.slice z.p (aa z.rs) z.c]*(AA b3 0 [.nilIface]*(AC z.b z.o z.rs z.s*(BM z.rs*R))))))) r.b r.o r.f.ranges)
  refine mE I (rZ r K T f1 f2 f3 w V H C _ g g.Xo I D W)<|Hb ?_;refine mC (λhok0=>?_) (λhok0=>?_)
  ·refine J2 ?_;refine FE WW I ?_ ?_;rotate_left
   ·refine JR<|MQ ?_;refine G7 ?_;refine Xt ?_;exact UT I I (λq=>(by have F:=G;rw[SX L (by unfold FK;rw[A];exact AF hok0)]at F;rw[F];exact N9))
   exact MU
  have hokf:B4 r.f:=Classical.not_not.1 hok0;have hF:FK xs z.a=some (r.f,m):=by unfold FK;rw[A];exact AJ hokf
  have hf3:=U3 hF L;refine BB ?_;refine Ae U7 I ?_;rintro _ _ ⟨d,rfl,rfl⟩;refine BH (H':=AC z.b z.o z.rs z.s*(AA d 0 (AE [r])*(AA K 0 (AN r)*(C*(GA T f1 f2 f3 w V H*(Ed r*(Db b13 p c xs m*(AA b5 0 [iN z.a]*(AA b2 0 [.slice z.p (aa z.rs) z.c]*(AA b3 0 [.nilIface]*(BM z.rs*R))))))))))) (by show AA d 0 (AE [r])*_=_;ac_rfl)<|Ae (CA (ys:=[r]) (bb:=d) (oo:=0) (cc:=1) I hzs hzc I Bz AH I Cd C0) I ?_;rintro _ _ ⟨N,u,x,P,y,rfl,hs64,hc64,rfl⟩;refine J1 ?_;refine BH (H':=Db b13 p c xs m*(AA b5 0 [iN z.a]*(AA b2 0 [.slice N (aa (z.rs++[r])) P]*(AA b3 0 [.nilIface]*(AC u x (z.rs++[r]) y*(BM (z.rs++[r])*R)))))*(AA d 0 (AE [r])*(AA K 0 (AN r)*(C*GA T f1 f2 f3 w V H)))) vY<|J2 ?_;refine Bg (Db b13 p c xs m*(AA b5 0 [iN z.a]*(AA b2 0 [.slice N (aa (z.rs++[r])) P]*(AA b3 0 [.nilIface]*(AC u x (z.rs++[r]) y*(BM (z.rs++[r])*R)))))) ?_;exact BV (⟨m,z.a,N,u,x,P,y,z.rs++[r]⟩:SM) ⟨hf3.2.1,by show(z.rs++[r]).length≤m;rw[a5,mz];omega,hs64,hc64,(by
   intro U X;obtain h|h:=j2.1 X
   ·exact hzo U h
   rw[g5.1 h];exact⟨J,hrown⟩),by rw[G,YZ L hF];show _=MN ((z.rs++[r]).map (·.f)) _;rw[n8];exact lQ _ _ _⟩ (by show (aa xs)-m<aa xs-z.a;omega) Gx I
 refine FC ?_;exact gu (R:=AC z.b z.o z.rs z.s*(BM z.rs*R)) I I (by
  have F:=G;rw[VW L]at F;rw[F];show ∃M,_∧Qk R (z.rs.map (·.f)++[]) M _;rw[g8];exact⟨_,I,z.p,z.b,z.o,z.c,z.s,z.rs,by rw[eh],cU,nF,I,hzo,I⟩)
end
section
variable{B:World}
def MJ(e:Nat)(at_:Int)(H:HP)(v:Value)(H':HP):Prop:=
 (at_= -1∧v=FU e∧H'=H)∨(∃q a:Nat,at_=a∧e=5∧v=Ht q∧H'=GJ q 5 (iN a)*H)
def Aq.Qy{c:AO}(h:Aq t c){n}(G:n<4611686018427387904):Aq t {c with AR:=c.AR.add n n}:=
 have S:=h.AR.add n n G Xm
 {h with AR:=S.1,gm:=S.2.trans h.gm}
def uc{a a' rs}(h:EQ xs a=some (rs,a')):aa rs≤aa xs:=by
 unfold EQ at h;split at h
 ·rename_i b U C;split at h
  ·rename_i n L c;split at h
   ·rename_i s O R;split at h
    ·split at h
     ·rename_i q d X;cases h;have e:=Ep C;have M:=Ep R;have Z:=dO X M.2.2;simp only[f'];omega
     cases h
    cases h
   cases h
  cases h
 cases h
def qj{a a'}(h:DG xs k fin a=some (f,a')):aa f.ranges≤aa xs:=by
 unfold DG at h;split at h
 ·cases h;exact bk _
 split at h
 ·cases h;exact bk _
 split at h
 ·split at h
  ·rename_i u U e;cases h;exact uc e
  cases h
 split at h
 ·exact nC
 split at h
 ·exact nC
 split at h
 ·split at h
  ·cases h;exact bk _
  cases h
 cases h
def vq(xs:List UInt8):∀(F a:Nat) (fs:List Af),aa xs-a≤F→GF xs a=.ok fs→aa fs≤aa xs-a∧∀f∈fs,aa f.ranges≤aa xs:=by
 intro F
 induction F with
 |zero=>
  intro a fs J h;rw[GF,AF C0]at h;cases h;exact⟨bk _,λf V=>nomatch V⟩
 |succ n Z=>
  intro a fs J h;rw[GF]at h;split at h
  ·split at h
   ·rename_i f A e;split at h
    ·rename_i b;split at h
     ·rename_i l M;cases h;obtain⟨m,O⟩:=Z A l C0 M;refine⟨by simp only[f'];omega,λg S=>?_⟩;obtain rfl|S:=j1.1 S
      ·unfold FK at e;split at e
       ·rename_i f2 L R;split at e
        ·cases e;exact qj R
        cases e
       cases e
      exact O g S
     cases h
    cases h
   cases h
  cases h;exact⟨bk _,λf V=>nomatch V⟩
def QM{fs}(h:Eb xs=.ok fs):aa fs≤aa xs∧∀f∈fs,aa f.ranges≤aa xs:=by
 unfold Eb at h;split at h
 ·cases h
 have:=vq xs _ 0 fs Dz h;exact⟨C0,this.2⟩
def Lm{n:UInt64}(h:B6 ks side xs=some (n,ys)):aa ys≤aa xs∧aa xs≤300∧n.toNat<4611686018427387904:=by
 unfold B6 at h;split at h
 ·cases h
 rename_i O;split at h
 ·cases h
 rename_i U;cases h;refine⟨?_,C0,C0⟩;have e:aa (EF ks side (be xs 8) (FO xs))=aa (FO xs):=by rw[EF,L9 _ _ nM,LE]
 rw[e];unfold FO;rw[di,hZ];omega
instance rowC2(cb:Nat)(x:CC):Row (Ab cb x) cb (0+19) (AE x.ks++[u8 (Bb (!x.first))]) (AA cb (0+0) [iN x.AV,iN x.AI]*(AA cb (0+2) (AE x.ks++[u8 (Bb x.first)])*(AA cb (0+36) [uN x.now]*
 (AA cb (0+37) [iN x.closed]*(AA cb (0+38) [uN x.code]*(AA cb (0+39) [.bool x.said]*(AA cb (0+40) [uN x.next]*(AA cb (0+41) [ptr x.gq 0]*(AA cb (0+42) [.bool x.answer]*
 (AA cb (0+119) [x.fv]*(AA cb (0+120) [x.lv]*(AA cb (0+121) [uN x.CB]*AA cb (0+122) [uN x.waits])))))))))))):=⟨by unfold Ab;ac_rfl⟩
instance rowC1(cb:Nat)(x:CC):Row (Ab cb x) cb (0+2) (AE x.ks++[u8 (Bb x.first)]) (AA cb (0+0) [iN x.AV,iN x.AI]*(AA cb (0+19) (AE x.ks++[u8 (Bb (!x.first))])*(AA cb (0+36) [uN x.now]*
 (AA cb (0+37) [iN x.closed]*(AA cb (0+38) [uN x.code]*(AA cb (0+39) [.bool x.said]*(AA cb (0+40) [uN x.next]*(AA cb (0+41) [ptr x.gq 0]*(AA cb (0+42) [.bool x.answer]*
 (AA cb (0+119) [x.fv]*(AA cb (0+120) [x.lv]*(AA cb (0+121) [uN x.CB]*AA cb (0+122) [uN x.waits])))))))))))):=⟨by unfold Ab;ac_rfl⟩
set_option maxHeartbeats 4000000 in
def Abu(cb t)(m:Ak)(xs:List UInt8)(p b o c R)(hm:m.ok)(hi:Aq t m.s)(ht:t<1000000)(C:Sl p b o (aa xs) c)(hr:AZ B R b o xs)(F:aa xs<90000000)(S:B6 m.x.ks (Bb (!m.x.first)) xs=none):
  Fn prog B 94 [ptr cb 0,.slice p (aa xs) c] (Ao cb m*R) (λv H'=>∃N:Ak,N.ok∧N.s=(m.s.BY xs).2∧MJ (m.s.BY xs).1.1 (m.s.BY xs).1.2 (Ao cb N*R) v H'):=by
 refine mI func94<|A3 P2 ?_;have hks:aa m.x.ks=16:=hi.ks;refine Eh ?_;refine mC (λh20=>?_) (λh20=>?_)
 ·exact WZ
 have h20:¬m.s.closed≠0:=h20;refine J7 ?_;refine JL tB<|J1 ?_;refine mE I (od hks p b o c _ C AH F S)<|JR<|HE ?_;refine mc (λW=>?_) (λW=>?_);rotate_left
 ·cases W
 refine BQ ?_;have ewr:m.s.BY xs=((4,-1),m.s):=by unfold AO.BY;rw[AF h20];rw[show B6 m.s.ks (Bb (!m.s.first)) xs=none from S]
 exact ZB
set_option maxHeartbeats 4000000 in
def Acf(cb t)(m:Ak)(xs:List UInt8)(p b o c R)(hm:m.ok)(hi:Aq t m.s)(ht:t<1000000)(hs:Sl p b o (aa xs) c)(hr:AZ B R b o xs)(hx:aa xs<90000000)(n:UInt64)(ys:List UInt8)(hop:B6 m.x.ks (Bb (!m.x.first)) xs=some (n,ys))(a)(G:Eb ys=.error a):
  Fn prog B 94 [ptr cb 0,.slice p (aa xs) c] (Ao cb m*R) (λv H'=>∃N:Ak,N.ok∧N.s=(m.s.BY xs).2∧MJ (m.s.BY xs).1.1 (m.s.BY xs).1.2 (Ao cb N*R) v H'):=by
 refine mI func94<|A3 P2 ?_;have hks:aa m.x.ks=16:=hi.ks;refine Eh ?_;refine mC (λh20=>?_) (λh20=>?_)
 ·exact WZ
 have h20:¬m.s.closed≠0:=h20;refine tX ?_;rintro _ _ ⟨F,e,z,J,K,rfl,y,L,rfl⟩;obtain⟨h,u,d⟩:=Lm hop;refine HE ?_;refine mc (λW=>?_) (λW=>?_)
 ·cases W
 refine J7 ?_;refine xC ?_;refine Hb ?_;refine mC (λh36=>?_) (λh36=>?_)
 ·exact qJ
 have h36:¬m.s.AR.has n.toNat:=h36;refine J6 ?_;refine mE I (d9 F e z J ys _ y AH C0) ?_;intro M P Q;rw[G]at Q;obtain⟨C,rfl,rfl⟩:=Q;refine DL ?_;refine JL Pr<|J2 ?_;refine mc (λW=>?_) (λW=>?_);rotate_left
 ·cases W
 refine J6 ?_;refine Bl (Eu (v:=.int .i64 (5:Nat)) I I I Cf)<|JR<|J2 ?_;refine Bl (Eu (v:=.int .u64 (5:Nat)) I I I Cf)<|JR<|Ei ?_;have ewr:m.s.BY xs=((5,(a:Int)),{m.s with closed:=5,code:=5}):=by unfold AO.BY;rw[AF h20];rw[show B6 m.s.ks (Bb (!m.s.first)) xs=some (n,ys)from hop];dsimp only;rw[AF h36,G]
 exact mR [4] (GJ C 5 (iN a)*(Ao cb (m.DM {m.x with closed:=5,code:=5})*R)) (hE:=by rw[E1];exact⟨λO X=>Sat.right (A:=AC e z ys K) (Eq.mp (by congr 1;show _=AC e z ys K*(GJ C 5 (iN a)*(Ab cb {m.x with closed:=5,code:=5}*(AK m.x.gq m.ga m.AR*(BU cb m.ws*(B2 cb m.rs*(EW m*R))))));ac_rfl) X)⟩) I I ⟨m.DM {m.x with closed:=5,code:=5},⟨hm.g,hm.ws,hm.rs,hm.fl,hm.lo,hm.fa,hm.la,hm.fv,hm.lv⟩,Cb,by rw[ewr];exact .inr ⟨C,a,I,I,I,I⟩⟩
def K? {c G:AO}{g}(b:∀k,Iz (c.r k) (G.r k))(e:G.AI=c.AI)(h:¬c.busy g):¬G.busy g:=by
 rintro⟨m,p,O⟩;refine h ⟨m,?_,?_⟩
 ·cases M:(c.r g.stream.toNat).given
  ·rfl
  have:=(b g.stream.toNat).given M;rw[this]at p;cases p
 rw[(b g.stream.toNat).read,e]at O;exact O
set_option maxHeartbeats 4000000 in
def c_(cb t)(m:Ak)(xs:List UInt8)(p b o c R)(hm:m.ok)(hi:Aq t m.s)(ht:t<1000000)(hs:Sl p b o (aa xs) c)(hr:AZ B R b o xs)(hx:aa xs<90000000)(n:UInt64)(ys:List UInt8)(hop:B6 m.x.ks (Bb (!m.x.first)) xs=some (n,ys))(fs)(G:Eb ys=.ok fs):
  Fn prog B 94 [ptr cb 0,.slice p (aa xs) c] (Ao cb m*R) (λv H'=>∃m':Ak,m'.ok∧m'.s=(m.s.BY xs).2∧MJ (m.s.BY xs).1.1 (m.s.BY xs).1.2 (Ao cb m'*R) v H'):=by
 refine mI func94<|A3 P2 ?_;have hks:aa m.x.ks=16:=hi.ks;refine Eh ?_;refine mC (λh20=>?_) (λh20=>?_)
 ·exact WZ
 have h20:¬m.s.closed≠0:=h20;refine tX ?_;rintro _ _ ⟨q28,b28,o28,c28,s28,rfl,hq28,hc28,rfl⟩;obtain⟨hyl,hx300,d⟩:=Lm hop;refine HE ?_;refine mc (λW=>?_) (λW=>?_)
 ·cases W
 refine J7 ?_;refine xC ?_;refine Hb ?_;refine mC (λh36=>?_) (λh36=>?_)
 ·exact qJ
 have h36:¬m.s.AR.has n.toNat:=h36;refine J6 ?_;refine mE I (d9 q28 b28 o28 c28 ys _ hq28 AH C0) ?_;intro v45 H45 h45;rw[G]at h45;obtain⟨sv,rfl,p45,b45,o45,c45,s45,rs,rfl,hs45,hc45,hmap,hro,rfl⟩:=h45;have hrl:aa rs=aa fs:=by rw[←hmap,eh]
 obtain⟨hdl1,hdl2⟩:=QM G;refine DL ?_;refine M5 ?_;refine mc (λW=>?_) (λW=>?_)
 ·cases W
 refine CK ?_;refine Bf (α:=Nat) (λi=>[(58,iN (aa fs)),(59,iN i),(57,.slice p45 (aa fs) c45),(0,ptr cb 0),(5,u64 n),(8,.slice p45 (aa fs) c45)]) (λi=>AC b45 o45 rs s45*(BM rs*(AC b28 o28 ys s28*(Ao cb m*R)))) (λi=>i≤aa fs∧∀k,k<i→¬m.s.busy (rs.getD k AB.AD).f) (λi=>aa fs-i) 0 ⟨bk _,(λk h=>absurd h (Aje k))⟩ KS (by rw[E1]) ?_;rintro i ⟨hi1,hi2⟩;refine J6 ?_;refine mC (λh60=>?_) (λh60=>?_)
 ·have hgd:rs.getD i AB.AD∈rs:=Gk C0;have T:(rs.getD i AB.AD).f∈fs:=by rw[←hmap];exact Rj
  have J:=GI.of (Lg G _ T);obtain⟨j,hst⟩:∃j:Nat,(rs.getD i AB.AD).f.stream=(j:Int):=⟨_,(x3 J.1).symm⟩
  have hj:j<4:=by have:=J.2.1;omega
  have hjl:j<aa m.rs:=by rw[Ak.R5 hi];exact hj
  have hrok:=Ak.Vx hi hj;have hwn:m.x.AI≤1024:=hi.w2;have Q:=J.2.2.2.1;have hfe:=J.2.2.2.2.1;have hrt:=hrok.rt;have erj:m.s.r (rs.getD i AB.AD).f.stream.toNat=(m.rs.getD j AB.AD).r:=by rw[hst,dz];exact m.TR j hjl
  refine A3 (H':=AC b45 o45 rs s45*(BM rs*(AC b28 o28 ys s28*(Ab cb m.x*(HP.AA cb (0+83+j*9) (Er (m.rs.getD j AB.AD))*(Dq (m.rs.getD j AB.AD)*(Fx cb m.rs j*(GV m cb*R)))))))) (by rw[OK cb m R j hjl]) ?_;generalize hrm:m.rs.getD j AB.AD=rm at*;refine mD ?_;rintro _ _ ⟨N,rfl,rfl⟩;refine Bl Ze<|Hb ?_;refine Wu ?_;refine Bn ?_;refine Bq (α:=Unit) (λ_=>[(99,.bool (decide (m.s.busy (rs.getD i AB.AD).f))),(58,iN (aa fs)),(59,iN i),(57,.slice p45 (aa fs) c45),(0,ptr cb 0),(5,u64 n),(8,.slice p45 (aa fs) c45)]) (λ_=>HP.AA N 0 (AN (rs.getD i AB.AD))*(AC b45 o45 rs s45*(BM rs*(AC b28 o28 ys s28*(Ab cb m.x*(HP.AA cb (0+83+j*9) (Er rm)*(Dq rm*(Fx cb m.rs j*(GV m cb*R))))))))) (λ_=>True) ?_ ?_
  ·refine mA 31 31 ?_;refine BE ?_;refine JT 2 I Tj<|A4 ?_;refine D4 72 I (λK=>?_) (λK=>?_)
   ·have hk5:(rs.getD i AB.AD).f.kind=5:=K;have hfe5:=hfe hk5;refine Bt ?_;refine Ha 79 I (λe=>?_) (λe=>?_)
    ·skip;have hgv:rm.r.given=false:=TZ;exact Z3
    have hgv:rm.r.given=true:=TZ;exact Z3
   have hk5:¬(rs.getD i AB.AD).f.kind=5:=K;refine Ff ?_;refine DE ?_;refine An () trivial (.cons ?_ KS) I;refine Lo ?_;congr 2;have hbd:m.s.busy (rs.getD i AB.AD).f↔(rs.getD i AB.AD).f.kind=5∧rm.r.given=false∧rm.r.read+m.x.AI<(rs.getD i AB.AD).f.offset+(rs.getD i AB.AD).f.data.size:=by unfold AO.busy;rw[erj];exact Iff.rfl
   first
    |exact decide_eq_decide.2 ⟨λh=>hbd.2 ⟨hk5,hgv,h⟩,λh=>(hbd.1 h).2.2⟩
    |exact(decide_eq_false (λh=>R0 ((hbd.1 h).2.1.symm.trans hgv))).symm
    |exact(decide_eq_false (λh=>hk5 (hbd.1 h).1)).symm
  rintro _ _;refine J1 ?_;refine mC (λh99=>?_) (λh99=>?_)
  ·refine DY ?_;have ewr:m.s.BY xs=((6,-1),m.s):=by
    unfold AO.BY;rw[AF h20];rw[show B6 m.s.ks (Bb (!m.s.first)) xs=some (n,ys)from hop];dsimp only;rw[AF h36,G];dsimp only;rw[AJ ⟨_,T,h99⟩]
   exact mR [4] (Ao cb m*R) (hE:=⟨λww X=>Sat.right (A:=HP.AA N 0 (AN (rs.getD i AB.AD))*(AC b45 o45 rs s45*(BM rs*AC b28 o28 ys s28))) (Eq.mp nE X)⟩) I I ⟨m,hm,Cj,Zg⟩
  refine Bt ?_;exact Bg (AC b45 o45 rs s45*(BM rs*(AC b28 o28 ys s28*(Ao cb m*R)))) (hE:=⟨λww X=>Sat.right (A:=HP.AA N 0 (AN (rs.getD i AB.AD))) (Eq.mp (by congr 1;rw[OK cb m R j hjl,hrm]<;>ac_rfl) X)⟩)<|BV (i+1) ⟨C0,λk hk=>by rcases ff k i with h|h;exact hi2 k h;obtain rfl:k=i:=C0;exact h99⟩ C0 KS I
 refine J6 ?_;have F:∀f∈fs,¬m.s.busy f:=by
  exact wG
 refine A3 (H':=AK m.x.gq m.ga m.AR*(Ab cb m.x*(BU cb m.ws*(B2 cb m.rs*(EW m*(AC b45 o45 rs s45*(BM rs*(AC b28 o28 ys s28*(R))))))))) (by rw[E1];ac_rfl)<|J7 ?_;refine mE I (Mr m.x.gq n.toNat n.toNat 4611686018427387904 m.ga m.AR _ hm.g hi.AR C0 C0 (by have h7:m.AR.AQ=8:=hi.gm;omega) (by have h7:m.AR.AQ=8:=hi.gm;omega)) ?_;rintro _ _ ⟨a,hs108,rfl⟩;refine J4 ?_;obtain⟨L,hm1⟩:∃L:Ak,L={m with AR:=m.AR.add n.toNat n.toNat,ga:=a}:=DF;have hok1:L.ok:=by rw[hm1];exact⟨hs108,hm.ws,hm.rs,hm.fl,hm.lo,hm.fa,hm.la,hm.fv,hm.lv⟩
 have S:L.s={m.s with AR:=m.s.AR.add n.toNat n.toNat}:=by rw[hm1];rfl
 have hi1':Aq t L.s:=by rw[S];exact hi.Qy d
 have hnb1:∀f∈fs,¬L.s.busy f:=by rw[S];exact F
 have hnbx:¬∃f∈fs,m.s.busy f:=λ⟨f,hf,hb⟩=>F f hf hb;have erc:m.s.BY xs=(((L.s.B1 fs).1,-1),(L.s.B1 fs).2):=by
  unfold AO.BY;rw[AF h20];rw[show B6 m.s.ks (Bb (!m.s.first)) xs=some (n,ys)from hop];dsimp only;rw[AF h36,G];dsimp only;rw[AF hnbx,S]
 refine A3 (H':=AC b45 o45 rs s45*(BM rs*(AC b28 o28 ys s28*(Ao cb L*R)))) (by rw[E1,hm1];show _=AC b45 o45 rs s45*(BM rs*(AC b28 o28 ys s28*(Ab cb m.x*(AK m.x.gq a (m.AR.add n.toNat n.toNat)*(BU cb m.ws*(B2 cb m.rs*(EW m*R)))))));ac_rfl)<|Bt ?_;refine Bf (α:=Nat×Ak) (λz=>[(110,iN (aa fs)),(111,iN z.1),(109,.slice p45 (aa fs) c45),(0,ptr cb 0),(5,u64 n),(8,.slice p45 (aa fs) c45)]) (λz=>AC b45 o45 rs s45*(BM rs*(AC b28 o28 ys s28*(Ao cb z.2*R)))) (λz=>z.1≤aa fs∧z.2.ok∧Aq t z.2.s∧z.2.s.B1 (fs.drop z.1)=L.s.B1 fs∧∀f∈fs.drop z.1,¬z.2.s.busy f) (λz=>aa fs-z.1) (0,L) ⟨bk _,hok1,hi1',I,hnb1⟩ KS I ?_;rintro⟨i,u⟩ ⟨q1,q2,M,q4,q5⟩;dsimp only at q1 q2 M q4 q5⊢;refine J6 ?_;refine mC (λh112=>?_) (λh112=>?_)
 ·have hgd:rs.getD i AB.AD∈rs:=Gk C0;have T:(rs.getD i AB.AD).f∈fs:=by rw[←hmap];exact Rj
  have J:=GI.of (Lg G _ T);obtain⟨j,hst⟩:∃j:Nat,(rs.getD i AB.AD).f.stream=(j:Int):=⟨_,(x3 J.1).symm⟩
  have hj:j<4:=by have:=J.2.1;omega
  have GW:fs.drop i=(rs.getD i AB.AD).f::fs.drop (i+1):=by
   have h7:i<aa fs:=h112;rw[zv h7];congr 1;have h8:fs[i]?=(rs.map RF.f)[i]?:=by rw[hmap]
   rw[c8 h7,x0,c8 C0]at h8;exact Wc
  have U:=q5 (rs.getD i AB.AD).f (by rw[GW];simp);have Y:=M.take (rs.getD i AB.AD).f J U;have howr:=P1 (B:=B) hgd;have hrl2:=hdl2 _ T;refine mD ?_;rintro _ _ ⟨b14,rfl,rfl⟩;refine Bl Ze<|Lx ?_;refine JL (Et (l:=AN (rs.getD i AB.AD)) I I)<|BH (H':=Ao cb u*(HP.AA b14 0 (AN (rs.getD i AB.AD))*(AC b45 o45 rs s45*(BM rs*(AC b28 o28 ys s28*(R)))))) C4<|mE I (yw cb t u (rs.getD i AB.AD) _ q2 M ht J U (hro _ hgd).1 AH C0) ?_;rintro _ _ ⟨m2,hm2,hs2,rfl,rfl⟩;have hte:=Vd (c:=u.s) (rs.getD i AB.AD).f;refine BQ ?_;refine mC (λh119=>?_) (λh119=>?_)
  ·refine J1 ?_;refine A3 (H':=Ab cb m2.x*(AK m2.x.gq m2.ga m2.AR*(BU cb m2.ws*(B2 cb m2.rs*(EW m2*(HP.AA b14 0 (AN (rs.getD i AB.AD))*(AC b45 o45 rs s45*(BM rs*(AC b28 o28 ys s28*(R)))))))))) (by rw[E1])<|HE ?_;refine JL (Dy (j:=10) I I)<|IU ?_;have ewr:m.s.BY xs=(((u.s.take (rs.getD i AB.AD).f).1,-1),(u.s.take (rs.getD i AB.AD).f).2.shut (u.s.take (rs.getD i AB.AD).f).1):=by
    rw[erc,←q4,GW,AO.B1,AJ h119]
   exact mR [4] (Ao cb (m2.DM {m2.x with closed:=(u.s.take (rs.getD i AB.AD).f).1,code:=(u.s.take (rs.getD i AB.AD).f).1,said:=decide ((u.s.take (rs.getD i AB.AD).f).1=10)})*R) (hE:=by rw[E1];exact⟨λww X=>Sat.right (A:=HP.AA b14 0 (AN (rs.getD i AB.AD))*(AC b45 o45 rs s45*(BM rs*AC b28 o28 ys s28))) (Eq.mp (by congr 1;show _=HP.AA b14 0 (AN (rs.getD i AB.AD))*(AC b45 o45 rs s45*(BM rs*AC b28 o28 ys s28))*(Ab cb {m2.x with closed:=(u.s.take (rs.getD i AB.AD).f).1,code:=(u.s.take (rs.getD i AB.AD).f).1,said:=decide ((u.s.take (rs.getD i AB.AD).f).1=10)}*(AK m2.x.gq m2.ga m2.AR*(BU cb m2.ws*(B2 cb m2.rs*(EW m2*R)))));ac_rfl) X)⟩) I I ⟨m2.DM {m2.x with closed:=(u.s.take (rs.getD i AB.AD).f).1,code:=(u.s.take (rs.getD i AB.AD).f).1,said:=decide ((u.s.take (rs.getD i AB.AD).f).1=10)},⟨hm2.g,hm2.ws,hm2.rs,hm2.fl,hm2.lo,hm2.fa,hm2.la,hm2.fv,hm2.lv⟩,by rw[ewr,←hs2];rfl,by rw[ewr];exact .inl ⟨I,by rw[ZU h119];rfl,I⟩⟩
  refine J2 ?_;refine xX ?_;refine Bq (α:=Ak) (λ_=>[(110,iN (aa fs)),(111,iN i),(109,.slice p45 (aa fs) c45),(0,ptr cb 0),(5,u64 n),(8,.slice p45 (aa fs) c45)]) (λP=>Ao cb P*(HP.AA b14 0 (AN (rs.getD i AB.AD))*(AC b45 o45 rs s45*(BM rs*(AC b28 o28 ys s28*(R)))))) (λP=>P.ok∧P.s={(u.s.take (rs.getD i AB.AD).f).2 with answer:=(u.s.take (rs.getD i AB.AD).f).2.answer||(decide ((rs.getD i AB.AD).f.kind≠3)&&decide ((rs.getD i AB.AD).f.kind≠1))}) ?_ ?_
  ·refine xX ?_;refine J7 ?_;refine Do 141 I (λO=>?_) (λO=>?_)
   ·have ha:m2.x.answer=true:=O;refine FC ?_;exact ZI
   have ha:m2.x.answer=false:=O;refine BB ?_;refine JL (PC (j:=3) I I)<|BE ?_;refine DU 145 I (λC=>?_) (λC=>?_)
   ·have hk3:(rs.getD i AB.AD).f.kind≠3:=C;refine BB ?_;refine JL (PC (j:=1) I I)<|Bt ?_;exact ZI
   have hk3:¬(rs.getD i AB.AD).f.kind≠3:=C;refine CY ?_;exact ZI
  rintro P ⟨V,y⟩;refine DE ?_;refine Bg (AC b45 o45 rs s45*(BM rs*(AC b28 o28 ys s28*(Ao cb P*R)))) (hE:=⟨λww X=>Sat.right (A:=HP.AA b14 0 (AN (rs.getD i AB.AD))) (Eq.mp Cp X)⟩) ?_;exact BV (i+1,P) ⟨C0,V,by rw[y];exact {Y.1 with},by
   rw[←q4,GW,AO.B1,AF C0,y],λf hf=>by
   rw[y];exact K? (c:=u.s) Y.2.1 Y.2.2 (q5 f cI)⟩ Cw KS I
 refine DL ?_;have ewr:m.s.BY xs=((0,-1),u.s):=by
  rw[erc,←q4,A' C0];rfl
 exact mR [4] (Ao cb u*R) (hE:=⟨λww X=>Sat.right (A:=AC b45 o45 rs s45*(BM rs*AC b28 o28 ys s28)) (Eq.mp Cp X)⟩) I I ⟨u,q2,Cj,Zg⟩
def vg(cb t)(m:Ak)(xs:List UInt8)(p b o c R)(hm:m.ok)(hi:Aq t m.s)(ht:t<1000000)(C:Sl p b o (aa xs) c)(hr:AZ B R b o xs)(F:aa xs<90000000):
  Fn prog B 94 [ptr cb 0,.slice p (aa xs) c] (Ao cb m*R) (λv H'=>∃N:Ak,N.ok∧N.s=(m.s.BY xs).2∧MJ (m.s.BY xs).1.1 (m.s.BY xs).1.2 (Ao cb N*R) v H'):=by
 cases S:B6 m.x.ks (Bb (!m.x.first)) xs with
 |none=>exact Abu cb t m xs p b o c R hm hi ht C hr F S
 |some y=>
  obtain⟨n,ys⟩:=y;cases G:Eb ys with
  |error a=>exact Acf cb t m xs p b o c R hm hi ht C hr F n ys S a G
  |ok X=>exact c_ cb t m xs p b o c R hm hi ht C hr F n ys S X G
end
abbrev Pb:Nat:=1073741824
def RG{s:Ba}{m lo hi}(h:Dg s m)(hf:s.floor=0)(J:lo≤hi)(V:hi<m)(L:aa s.l<s.AQ):
  s.add lo hi=⟨Bo lo hi s.l,0,s.AQ⟩∧Dg (s.add lo hi) m∧∀n,BD n (s.add lo hi).l↔(lo≤n∧n≤hi)∨BD n s.l:=by
 have O:=NM s.l lo hi J h.inc;have U:=LR s.l lo hi (m-1) C0 (λr Y=>by have:=h.hi r Y;omega);have Z:aa (Bo lo hi s.l)≤s.AQ:=by have:=Nm s.l lo hi;omega
 have e:=Ba.Xw hf J Z;have M:s.add lo hi=⟨Bo lo hi s.l,0,s.AQ⟩:=e;refine⟨M,?_,?_⟩
 ·rw[M];exact⟨O,λ_ _=>bk _,λr Y=>by have:=U r Y;omega,Z,bk _⟩
 intro n;rw[M];exact Na s.l lo hi n J
def D? {l m}(C:EC l):(if l=[]∨0<(rg l 0).lo then 0 else(rg l 0).hi+1)=(AW 0 m l).1:=by
 cases l with
 |nil=>rfl
 |cons r u=>
  have e:rg (r::u) 0=r:=rfl;rw[e];unfold AW;by_cases h:0<r.lo
  ·rw[AJ (.inr h),AF (by have:=C.1;omega),AJ h]
  rw[AF (λU=>by rcases U with U|U;cases U;exact h U),AF C0,AF h];cases u with
  |nil=>rfl
  |cons s a=>
   have U:=C.2.1 s C3;unfold AW;rw[AF (by have:=C.2.2.1;omega),AJ C0]
structure LD(AI:Nat)(o:CZ):Prop where
 len:o.data.length≤4096
 co:Dg o.AG o.data.length
 cf:o.AG.floor=0
 cm:o.AG.AQ=Pb
 room:o.data.length≤o.CQ+AI
 high:o.high≤o.data.length
 en:o.end_≤4096
 code:o.code≤4611686018427387903
def CZ.Te{o:CZ}(h:EC o.AG.l)(m):o.CQ=(AW 0 m o.AG.l).1:=D? h
def LD.OA{o:CZ}(h:LD AI o):o.CQ≤aa o.data:=by
 rw[CZ.Te h.co.inc (aa o.data)];exact(K0 h.co.inc Du h.co.hi).1
def LD.VT{o:CZ}(h:LD AI o):aa o.AG.l≤4097:=by
 have O:=h.len;obtain U|U:=UN o.AG.l 0 (aa o.data) h.co.inc (λ_ _=>bk _) h.co.hi
 ·omega
 rw[U];exact bk _
def fc{o o':CZ}(C:EC o.AG.l)(i:EC o'.AG.l)(m)(hb:∀r∈o'.AG.l,r.hi<m)(h:∀n,BD n o.AG.l→BD n o'.AG.l):o.CQ≤o'.CQ:=by
 rw[CZ.Te C m,CZ.Te i m];obtain O|O:=ff (AW 0 m o'.AG.l).1 (AW 0 m o.AG.l).1
 ·exfalso;exact(K0 i Du hb).2 (h _ ((Ic o.AG.l 0 m C Du).2.1 _ Du O))
 exact O
structure IV(AI t:Nat)(x:Dv):Prop where
 dl:x.data.length=x.high
 tl:x.there.length=x.high
 rh:x.read≤x.high
 hw:x.high≤x.read+AI
 rt:x.read≤1024*t
 en:x.end_≤4611686018427387903
 code:x.code≤4611686018427387903
 st:x.state≤2
 Km:x.state=2→x.given=true
def IV.mono{q x}(h:IV AI t x)(ht:t≤q):IV AI q x:={h with rt:=by have:=h.rt;omega}
def Gs(outs:List CZ)(f:Af):Prop:=0≤f.stream∧f.stream<4∧(f.kind=5→f.offset+f.data.size≤(outs.getD f.stream.toNat CX).data.length)
structure ib(next:Nat)(outs:List CZ)(p:Le):Prop where
 num:p.number<next
 len:p.A7.length≤300
 fr:∀f∈p.A7,Gs outs f
structure HT(AI:Nat)(outs:List CZ):Prop where
 len:outs.length=4
 ok:∀k,k<4→LD AI (outs.getD k CX)
structure Ar(t:Nat)(s:AL):Prop where
 m1:64≤s.AV
 m2:s.AV≤300
 w1:16≤s.AI
 w2:s.AI≤1024
 ks:s.ks.length=16
 closed:s.closed≤10
 code:s.code≤4611686018427387903
 AR:Dg s.AR 4611686018427387904
 gm:s.AR.AQ=8
 Az:Dg s.Az 4611686018427387904
 ef:s.Az.floor=0
 em:s.Az.AQ=Pb
 el:s.Az.l.length≤t
 due:s.due.length≤t
 outs:HT s.AI s.outs
 il:s.ins.length=4
 ins:∀k,k<4→IV s.AI t (s.i k)
 sl:s.AM.length≤s.next
 AM:∀p∈s.AM,ib s.next s.outs p
 nx:s.next≤20*t
def Ar.mono{q s}(h:Ar t s)(ht:t≤q):Ar q s:=
 {h with el:=by have:=h.el;omega,due:=by have:=h.due;omega,ins:=λk Z=>(h.ins k Z).mono ht,nx:=by have:=h.nx;omega}
def Sm:LD AI CX:=⟨bk _,.of,I,I,bk _,bk _,bk _,bk _⟩
def Sg:IV AI t KD:=⟨I,I,bk _,bk _,bk _,bk _,bk _,bk _,(λh=>absurd h C2)⟩
def Ar.new{AV first}(h1:64≤AV)(h2:AV≤300)(M:16≤AI)(Z:AI≤1024)(a:aa ks=16):Ar 0 (.new AV AI ks first):=
 ⟨h1,h2,M,Z,a,bk _,bk _,.of,I,.of,I,I,bk _,bk _,⟨I,PS Sm Sm Sm Sm⟩,I,PS Sg Sg Sg Sg,bk _,(λp h=>by cases h),bk _⟩
def PL{α:Type}{l:List α}{j}{x d:α}:(l.set k x).getD j d=if k=j∧k<(aa l) then x else l.getD j d:=by
 simp only[ek,Ajx];split
 ·rename_i h;subst h;split
  ·rename_i U;rw[AJ ⟨I,U⟩];rfl
  rename_i U;rw[AF (λh=>U h.2)];simp[Ajt (HA U)]
 rename_i h;rw[AF (λU=>h U.1)]
def HT.set{outs:List CZ}(h:HT AI outs){o}(Q:LD AI o):HT AI (outs.set k o):=by
 refine⟨yP,λj W=>?_⟩;rw[PL];split
 ·exact Q
 exact h.ok j W
def Gs.set{outs:List CZ}{o:CZ}(hb:(outs.getD k CX).data.length≤aa o.data)(h:Gs outs f):Gs (outs.set k o) f:=by
 refine⟨h.1,h.2.1,λZ=>?_⟩;have:=h.2.2 Z;rw[PL];split
 ·rename_i e;rw[e.1]at hb;omega
 exact this
def Ar.G3{s:AL}(h:Ar t s){outs}(Q:HT s.AI outs)(hf:∀f,Gs s.outs f→Gs outs f):Ar t {s with outs:=outs}:=
 {h with outs:=Q,AM:=λp J=>let g:=h.AM p J;⟨g.num,g.len,λf N=>hf f (g.fr f N)⟩}
def Ar.Da{s:AL}(h:Ar t s){o:CZ}(Q:LD s.AI o)(hb:(s.o k).data.length≤aa o.data):Ar t (s.Da k o):=
 h.G3 (h.outs.set Q) (λf V=>V.set hb)
def Ar.Dd{s:AL}(h:Ar t s){x}(F:IV s.AI t x):Ar t (s.Dd k x):=by
 refine {h with il:=by show(s.ins.set k x).length=4;rw[n5];exact h.il,ins:=λj W=>?_};show IV s.AI t ((s.ins.set k x).getD j KD);rw[PL];split
 ·exact F
 exact h.ins j W
def AL.MX{s:AL}{k:Int}(h:¬s.of k≠0):s.closed=0∧0≤k∧k<4:=by
 unfold AL.of at h;split at h
 ·omega
 split at h
 ·omega
 omega
def Ar.write{s:AL}(h:Ar t s)(k:Int)(xs:List UInt8):Ar t (s.write k xs).2:=by
 unfold AL.write;split
 ·exact h
 split
 ·exact h
 rename_i C _;obtain⟨_,A,Z⟩:=AL.MX C;have g:=h.outs.ok k.toNat C0;have e:s.outs.getD k.toNat CX=s.o k.toNat:=rfl;rw[e]at g;have J:=g.OA;have Y:=g.room;have b:=g.len;have G:s.Hf k.toNat (aa xs)≤s.AI-((s.o k.toNat).data.length-(s.o k.toNat).CQ):=by unfold AL.Hf;omega
 have i:s.Hf k.toNat (aa xs)≤4096-(s.o k.toNat).data.length:=by unfold AL.Hf;omega
 have U:aa (xs.take (s.Hf k.toNat (aa xs)))≤s.Hf k.toNat (aa xs):=Qt;refine h.Da ⟨?_,?_,g.cf,g.cm,?_,?_,g.en,g.code⟩ ?_
 ·show(_++_:List UInt8).length≤4096;rw[a5];omega
 ·exact⟨g.co.inc,g.co.lo,λr Y=>by have:=g.co.hi r Y;show r.hi<aa (_++_:List UInt8);rw[a5];omega,g.co.len,by have a:=g.cf;show(s.o k.toNat).AG.floor≤aa (_++_:List UInt8);rw[a];exact bk _⟩
 ·show(_++_:List UInt8).length≤(s.o k.toNat).CQ+s.AI;rw[a5];omega
 ·show(s.o k.toNat).high≤aa (_++_:List UInt8);have:=g.high;rw[a5];omega
 show _≤aa (_++_:List UInt8);rw[a5];omega
def Ar.finish{s:AL}(h:Ar t s)(k:Int):Ar t (s.finish k).2:=by
 unfold AL.finish;split
 ·exact h
 split
 ·exact h
 rename_i C _;obtain⟨_,A,Z⟩:=AL.MX C;have g:=h.outs.ok k.toNat C0;exact h.Da ⟨g.len,g.co,g.cf,g.cm,g.room,g.high,g.en,g.code⟩ Dz
def Ar.giveUp{s:AL}(h:Ar t s)(k:Int)(code):Ar t (s.giveUp k code).2:=by
 unfold AL.giveUp;split
 ·exact h
 split
 ·exact h
 rename_i C W;obtain⟨_,A,Z⟩:=AL.MX C;have g:=h.outs.ok k.toNat C0;exact h.Da ⟨g.len,g.co,g.cf,g.cm,g.room,g.high,by have:=g.high;have:=g.len;show(s.o k.toNat).high≤4096;exact k9 g.high g.len,by show code≤_;omega⟩ Dz
def Ar.close{s:AL}(h:Ar t s)(code):Ar t (s.close code).2:=by
 unfold AL.close;split
 ·exact h
 split
 ·exact h
 exact {h with closed:=by show 9≤10;decide,code:=by show code≤_;omega}
structure Jb(o o':CZ):Prop where
 data:o'.data=o.data
 finished:o'.finished=o.finished
 given:o'.given=o.given
 code:o'.code=o.code
 end_:o'.end_=o.end_
 high:o'.high=o.high
def Jb.refl(o):Jb o o:=⟨I,I,I,I,I,I⟩
def Jb.trans{a b c}(h:Jb a b)(g:Jb b c):Jb a c:=
 ⟨g.data.trans h.data,g.finished.trans h.finished,g.given.trans h.given,g.code.trans h.code,g.end_.trans h.end_,g.high.trans h.high⟩
def rK{outs:List CZ}(h:HT AI outs)(hf:Gs outs f):HT AI (JI outs f)∧∀k,Jb (outs.getD k CX) ((JI outs f).getD k CX):=by
 unfold JI;split
 ·rename_i W;have Z:f.stream.toNat<4:=by have:=hf.1;have:=hf.2.1;omega
  have g:=h.ok _ Z;have Y:=hf.2.2 W.1;have L:=g.VT;obtain⟨C,M,R⟩:=RG (lo:=f.offset) (hi:=f.offset+f.data.size-1) g.co g.cf C0 C0 (by rw[g.cm];show _<1073741824;omega);refine⟨h.set ⟨g.len,M,by rw[C],by rw[C];exact g.cm,?_,g.high,g.en,g.code⟩,λk=>?_⟩
  ·have a:=fc (o:=outs.getD f.stream.toNat CX) (o':={outs.getD f.stream.toNat CX with AG:=(outs.getD f.stream.toNat CX).AG.add f.offset (f.offset+f.data.size-1)}) g.co.inc M.inc (outs.getD f.stream.toNat CX).data.length M.hi (λn G=>(R n).2 (.inr G));have:=g.room;show(outs.getD f.stream.toNat CX).data.length≤_;omega
  rw[PL];split
  ·rename_i e;rw[←e.1];exact⟨I,I,I,I,I,I⟩
  exact .refl _
 exact⟨h,λk=>.refl _⟩
def Gs.same{outs o:List CZ}(C:∀k,Jb (outs.getD k CX) (o.getD k CX))(h:Gs outs f):Gs o f:=
 ⟨h.1,h.2.1,λZ=>by rw[(C _).data];exact h.2.2 Z⟩
def V7:∀(fs:List Af) (outs:List CZ),HT AI outs→(∀f∈fs,Gs outs f)→HT AI (fs.foldl JI outs)∧∀k,Jb (outs.getD k CX) ((fs.foldl JI outs).getD k CX)
 |[],outs,h,_=>⟨h,λk=>.refl _⟩
 |f::fs,outs,h,V=>by
  obtain⟨a,b⟩:=rK h (V f C3);obtain⟨c,d⟩:=V7 fs _ a (λg hg=>(V g Cs).same b);exact⟨c,λk=>(b k).trans (d k)⟩
def yF{l}{outs:List CZ}{p:Le}(h:HT AI outs)(hf:∀f∈p.A7,Gs outs f):HT AI (H8 l outs p)∧∀k,Jb (outs.getD k CX) ((H8 l outs p).getD k CX):=by
 unfold H8;split
 ·exact V7 _ _ h hf
 exact⟨h,λk=>.refl _⟩
def TK{l}:∀(ps:List Le) (outs:List CZ),HT AI outs→(∀p∈ps,∀f∈p.A7,Gs outs f)→HT AI (ps.foldl (H8 l) outs)∧∀k,Jb (outs.getD k CX) ((ps.foldl (H8 l) outs).getD k CX)
 |[],outs,h,_=>⟨h,λk=>.refl _⟩
 |p::ps,outs,h,V=>by
  obtain⟨a,b⟩:=yF (l:=l) h (V p C3);obtain⟨c,d⟩:=TK ps _ a (λq hq g S=>(V q QY g S).same b);exact⟨c,λk=>(b k).trans (d k)⟩
def Ar.EY{s:AL}(h:Ar t s)(l):Ar t (s.EY l):=by
 obtain⟨a,b⟩:=TK (l:=l) s.AM s.outs h.outs (λp J f V=>(h.AM p J).fr f V);exact h.G3 a (λf V=>V.same b)
def XJ:∀(ds:List UInt8) (off:Nat) (data:List UInt8) (there:List Bool),(Hi ds off data there).1.length=aa data∧(Hi ds off data there).2.length=aa there
 |[],off,data,there=>Dj
 |d::ds,off,data,there=>by
  rw[Hi];split
  ·exact XJ ds _ _ _
  have:=XJ ds (off+1) (data.set off d) (there.set off true);rw[n5,n5]at this;exact this
def IV.bytes{x:Dv}(h:IV AI t x)(f:Af)(hf:GI f)(X:f.kind=5)(hb:x.given=false→f.offset+f.data.size≤x.read+AI):IV AI t (x.bytes f).2:=by
 unfold Dv.bytes;split
 ·exact h
 split
 ·exact h
 rename_i hg;have Y:=hb R1;obtain⟨K,v⟩:=XJ f.data.data.toList f.offset (x.data++a9 (max x.high (f.offset+f.data.size)-aa x.data) 0) (x.there++a9 (max x.high (f.offset+f.data.size)-aa x.data) false);have Q:=h.dl;have U:=h.tl;refine⟨?_,?_,?_,?_,h.rt,?_,h.code,h.st,h.Km⟩
 ·show(x.put f).1.length=max x.high _;unfold Dv.put;rw[K,a5,s8];omega
 ·show(x.put f).2.length=max x.high _;unfold Dv.put;rw[v,a5,s8];omega
 ·show x.read≤max x.high _;have:=h.rh;omega
 ·show max x.high _≤x.read+AI;have:=h.hw;omega
 show(if f.fin=true then _ else _)≤_;split
 ·exact hf.2.2.2.2.1 X
 exact h.en
def Ar.take{s:AL}(h:Ar t s)(f)(hf:GI f)(hb:¬s.busy f):Ar t (s.take f).2∧(∀k,(s.i k).read=((s.take f).2.i k).read∧(s.i k).state=((s.take f).2.i k).state∧((s.i k).given=true→((s.take f).2.i k).given=true))∧(s.take f).2.AI=s.AI:=by
 have U:f.stream.toNat<4:=by have:=hf.1;have:=hf.2.1;omega
 have g:=h.ins _ U;have G:∀x:Dv,((s.i f.stream.toNat).read=x.read∧(s.i f.stream.toNat).state=x.state∧((s.i f.stream.toNat).given=true→x.given=true))→
   ∀k,(s.i k).read=((s.Dd f.stream.toNat x).i k).read∧(s.i k).state=((s.Dd f.stream.toNat x).i k).state∧((s.i k).given=true→((s.Dd f.stream.toNat x).i k).given=true):=by
  intro x F k;have e:(s.Dd f.stream.toNat x).i k=(s.ins.set f.stream.toNat x).getD k KD:=rfl;rw[e,PL];split
  ·rename_i e;rw[←e.1];exact F
  exact LU
 unfold AL.take;split
 ·split
  ·exact⟨h,λk=>LU,I⟩
  exact⟨h.EY _,λk=>LU,I⟩
 split
 ·split
  ·exact⟨h,λk=>LU,I⟩
  refine⟨h.Dd ⟨g.dl,g.tl,g.rh,g.hw,g.rt,?_,?_,g.st,λ_=>rfl⟩,G _ ⟨I,I,λ_=>rfl⟩,I⟩
  ·exact hf.2.2.2.1
  exact Zy
 split
 ·rename_i X;have Y:(s.i f.stream.toNat).given=false→f.offset+f.data.size≤(s.i f.stream.toNat).read+s.AI:=λhg=>by
   obtain L|C:=ff ((s.i f.stream.toNat).read+s.AI) (f.offset+f.data.size)
   ·exact absurd ⟨X,λh2=>xW,hg,L⟩ hb
   exact C
  refine⟨h.Dd (g.bytes f hf X Y),G _ ?_,I⟩;unfold Dv.bytes;split
  ·exact LU
  split
  ·exact LU
  exact LU
 split<;>exact⟨h,λk=>LU,I⟩
def uG{s s':AL}(b:∀k,(s.i k).read=(s'.i k).read∧(s.i k).state=(s'.i k).state∧((s.i k).given=true→(s'.i k).given=true))(e:s'.AI=s.AI)(h:¬s.busy f):¬s'.busy f:=by
 rintro⟨m,p,O,F⟩;obtain⟨C,Y,K⟩:=b f.stream.toNat;refine h ⟨m,by rw[Y];exact p,?_,by rw[C,←e];exact F⟩;cases M:(s.i f.stream.toNat).given
 ·rfl
 rw[K M]at O;cases O
def F_(number)(due:List Nat)(f):aa (Fc number due f)≤aa due+1∧(due.getD (aa due-1) 0=number→due≠ []→Fc number due f=due)∧((Fc number due f)≠due→(Fc number due f).getD (aa (Fc number due f)-1) 0=number∧Fc number due f≠ []):=by
 unfold Fc;split
 ·rename_i W;refine⟨C3,λO U=>?_,λ_=>?_⟩
  ·obtain M|M:=W.2.2
   ·exact absurd M U
   exact absurd O M
  simp
 exact⟨An5 _,λ_ _=>rfl,λh=>absurd I h⟩
def Iy(n number:Nat)(due:List Nat):Prop:=aa due≤n∨(aa due≤n+1∧due≠ []∧due.getD (aa due-1) 0=number)
def Iy.le{n due}(h:Iy n number due):aa due≤n+1:=by rcases h with h|h;omega;exact h.1
def Iy.step{n due}(h:Iy n number due)(f):Iy n number (Fc number due f):=by
 obtain⟨a,b,c⟩:=F_ number due f;obtain h|⟨O,U,M⟩:=h
 ·by_cases e:Fc number due f=due
  ·rw[e];exact .inl h
  exact .inr ⟨C0,(c e).2,(c e).1⟩
 rw[b M U];exact .inr ⟨O,U,M⟩
def QI{s:AL}(f):(s.take f).2.due=s.due:=by
 unfold AL.take;split
 ·split<;>rfl
 split
 ·split<;>rfl
 split
 ·rfl
 split<;>rfl
def Uv{s:AL}(f):(s.take f).1≤10:=by
 unfold AL.take Dv.bytes
 repeat' split
 all_goals simp
def Ar.B1:∀(fs:List Af) (s:AL),Ar (t+1) s→Iy t number s.due→(∀f∈fs,GI f∧¬s.busy f)→Ar (t+1) (s.B1 number fs).2
 |[],s,h,_,_=>h
 |f::fs,s,h,F,V=>by
  obtain⟨a,b,c⟩:=h.take f (V f C3).1 (V f C3).2;rw[AL.B1];split
  ·exact {a with closed:=Uv f,code:=by have:=Uv (s:=s) f;show(s.take f).1≤_;omega}
  have d:Iy t number (Fc number (s.take f).2.due f):=by rw[QI];exact F.step f
  exact Ar.B1 fs _ {a with due:=d.le} d (λg hg=>⟨(V g Cs).1,uG b c (V g Cs).2⟩)
def Ar.Qy{s:AL}(h:Ar t s){n}(G:n<4611686018427387904)(ht:t<1000000000):Ar (t+1) {s with AR:=s.AR.add n n,Az:=s.Az.add n n}:=by
 have S:=h.AR.add n n G Xm;have m:=h.el;obtain⟨C,M,_⟩:=RG (lo:=n) (hi:=n) h.Az h.ef Dz G (by rw[h.em];show _<1073741824;omega);have hm:=h.mono FT;exact {hm with AR:=S.1,gm:=S.2.trans h.gm,Az:=M,ef:=by show(s.Az.add n n).floor=0;rw[C],em:=by show(s.Az.add n n).AQ=_;rw[C];exact h.em,el:=by show(s.Az.add n n).l.length≤t+1;rw[C];have:=Nm s.Az.l n n;show(Bo n n s.Az.l).length≤_;omega}
def Ar.BY{s:AL}(h:Ar t s)(ht:t<1000000000)(p:List UInt8):Ar (t+1) (s.BY p).2:=by
 have hm:=h.mono FT;unfold AL.BY;split
 ·exact hm
 split
 ·exact hm
 rename_i number b S;split
 ·exact hm
 split
 ·exact {hm with closed:=by show 5≤10;decide,code:=by show 5≤4611686018427387903;decide}
 rename_i X G;split
 ·exact hm
 rename_i q;exact Ar.B1 X _ (h.Qy (Lm S).2.2 ht) (.inl h.due) (λf V=>⟨GI.of (Lg G f V),λj=>q ⟨f,V,j⟩⟩)
def vT(there high):∀(n read:Nat),runN there high n read≤n∧(read≤high→read+runN there high n read≤high)
 |0,read=>⟨er _,λh=>h⟩
 |n+1,read=>by
  rw[runN];split
  ·rename_i W;obtain⟨a,b⟩:=vT there high n (read+1);exact⟨C0,λ_=>by have:=b C0;omega⟩
  exact⟨bk _,λh=>h⟩
def Ar.read{s:AL}(h:Ar t s)(k AQ:Int):Ar (t+1) (s.read k AQ).2:=by
 have W:=h.mono FT;unfold AL.read;split
 ·exact W
 rename_i C;obtain⟨_,A,Z⟩:=AL.MX C;dsimp only;have g:=h.ins k.toNat C0;refine W.Dd ?_;have Q:IV s.AI t (if(s.i k.toNat).given=true∧(s.i k.toNat).state=0 then {s.i k.toNat with state:=2}else s.i k.toNat):=by
  split
  ·rename_i a;exact {g with st:=er _,Km:=λ_=>a.1}
  exact g
 generalize(if(s.i k.toNat).given=true∧(s.i k.toNat).state=0 then {s.i k.toNat with state:=2}else s.i k.toNat)=x1 at Q⊢;have G:(if x1.state=0 then runN x1.there x1.high AQ.toNat x1.read else 0)+x1.read≤x1.high:=by
  split
  ·have:=(vT x1.there x1.high AQ.toNat x1.read).2 Q.rh;omega
  have:=Q.rh;omega
 generalize(if x1.state=0 then runN x1.there x1.high AQ.toNat x1.read else 0)=nn at G⊢;have O:=Q.hw;have U:=Q.rt;have M:=h.w2;have g2:IV s.AI (t+1) {x1 with read:=x1.read+nn}:=⟨Q.dl,Q.tl,by show x1.read+nn≤x1.high;omega,by show x1.high≤x1.read+nn+s.AI;omega,by show x1.read+nn≤1024*(t+1);omega,Q.en,Q.code,Q.st,Q.Km⟩
 split
 ·exact {g2 with st:=by show 1≤2;decide,Km:=λh=>by cases h}
 exact g2
def Ar.tt{s:AL}(h:Ar t s)(G:s.next+1≤20*t):Ar t {s with next:=s.next+1}:=
 {h with sl:=Al7 h.sl,AM:=λp J=>let g:=h.AM p J;⟨Al8 g.num,g.len,g.fr⟩,nx:=G}
def Afe{s:AL}(b:List UInt8):(s.opened b).2=s∨(s.opened b).2={s with next:=s.next+1}:=by
 unfold AL.opened;split
 ·exact .inl I
 split
 ·exact .inl I
 split
 ·exact .inr I
 exact .inr I
def Ar.opened{s:AL}(h:Ar t s)(b:List UInt8)(G:s.next+1≤20*t):Ar t (s.opened b).2∧(s.opened b).2.next≤s.next+1:=by
 rcases Afe (s:=s) b with e|e<;>rw[e]
 ·exact⟨h,An5 _⟩
 exact⟨h.tt G,er _⟩
def wA{s:AL}{b:List UInt8}{l}(h:(s.opened b).1=some l):(s.opened b).2={s with next:=s.next+1}∧aa l≤300∧(∀f∈l,B4 f):=by
 unfold AL.opened at h⊢;split at h
 ·cases h
 rename_i number p S;split at h
 ·cases h
 rename_i W;rw[AF W];split at h
 ·cases h
 rename_i X G;dsimp only at h⊢;split at h
 ·cases h;have O:=(QM G).1;have U:=Lm S;exact⟨I,C0,λf V=>Lg G f V⟩
 cases h
def Ar.IR{s:AL}(h:Ar t s)(f):Ar t (s.IR f).2:=by
 unfold AL.IR;split
 ·exact {h with due:=by have:=h.due;exact k9 (Ak9 _ _) this}
 exact h
def Ar.sends{s:AL}(h:Ar t s)(f:Af)(Z:f.stream.toNat<4):Ar t (s.sends f).2:=by
 unfold AL.sends;dsimp only;split
 ·exact h
 split
 ·exact h
 rename_i W _;have g:=h.outs.ok _ Z;refine h.Da ⟨g.len,g.co,g.cf,g.cm,g.room,?_,g.en,g.code⟩ Dz;show max (s.o f.stream.toNat).high _≤(s.o f.stream.toNat).data.length;have O:(s.o f.stream.toNat).high≤(s.o f.stream.toNat).data.length:=g.high;have U:¬(s.o f.stream.toNat).data.length<f.offset+f.data.size:=λh=>W (.inr (.inl h));omega
def Ar.may{s:AL}(h:Ar t s)(f:Af)(Z:f.stream.toNat<4):Ar t (s.may f).2:=by
 unfold AL.may;split
 ·exact h.IR f
 split
 ·exact h
 split
 ·exact h.sends f Z
 exact h
def Abw{s:AL}(f):(s.may f).2.next=s.next∧(s.may f).2.AM=s.AM∧(∀k,((s.may f).2.o k).data=(s.o k).data)∧(s.may f).2.AI=s.AI:=by
 unfold AL.may;split
 ·unfold AL.IR;split<;>exact Qi
 split
 ·exact Qi
 split
 ·unfold AL.sends;dsimp only;split
  ·exact Qi
  split
  ·exact Qi
  refine⟨I,I,λk=>?_,I⟩;show((s.outs.set f.stream.toNat _).getD k CX).data=(s.outs.getD k CX).data;rw[PL];split
  ·rename_i e;rw[←e.1];rfl
  rfl
 exact Qi
def cj{s:AL}(hf:B4 f)(h:(s.may f).1=true):Gs s.outs f:=by
 refine⟨hf.2.2.1,hf.2.2.2.1,λX=>?_⟩;unfold AL.may at h;rw[AF C0,AF C0,AJ X]at h;unfold AL.sends at h;dsimp only at h;split at h
 ·cases h
 rename_i W;have U:¬(s.o f.stream.toNat).data.length<f.offset+f.data.size:=λh=>W (.inr (.inl h));show _≤(s.o f.stream.toNat).data.length;omega
def Ar.De:∀(fs:List Af) (s:AL),Ar t s→(∀f∈fs,B4 f)→Ar t (s.De fs).2∧(s.De fs).2.next=s.next∧(s.De fs).2.AM=s.AM∧(∀k,((s.De fs).2.o k).data=(s.o k).data)∧((s.De fs).1=true→∀f∈fs,Gs s.outs f)
 |[],s,h,_=>⟨h,I,I,λ_=>rfl,λ_ f V=>nomatch V⟩
 |f::fs,s,h,V=>by
  have N:=V f C3;have Z:f.stream.toNat<4:=by have:=N.2.2.1;have:=N.2.2.2.1;omega
  obtain⟨U,L,O,R⟩:=Abw (s:=s) f;have W:=h.may f Z;rw[AL.De];split
  ·rename_i A;obtain⟨C,a,K,J,F⟩:=Ar.De fs _ W (λg hg=>V g Cs);refine⟨C,a.trans U,K.trans L,λk=>(J k).trans (O k),λY g hg=>?_⟩;obtain rfl|hg:=j1.1 hg
   ·exact cj N A
   have:=F Y g hg;exact⟨this.1,this.2.1,λX=>by have b:=this.2.2 X;have G:=O g.stream.toNat;show _≤(s.o g.stream.toNat).data.length;rw[←G];exact b⟩
  rename_i c;exact⟨W,U,L,O,λY=>by cases Y⟩
def Ar.emit{s:AL}(h:Ar t s)(b:List UInt8)(G:s.next+1≤20*t):Ar t (s.emit b).2∧(s.emit b).2.next≤s.next+1:=by
 obtain⟨U,L⟩:=h.opened b G;unfold AL.emit
 rcases e:s.opened b with⟨o,q⟩
 rw[e]at U L;dsimp only at U L
 cases o with
 |none=>exact⟨U,L⟩
 |some l=>
  obtain⟨Z,c,r⟩:=wA (s:=s) (b:=b) (l:=l) (by rw[e]);rw[e]at Z;dsimp only at Z;obtain⟨b1,a,K,d,F⟩:=Ar.De l q U r;dsimp only;split
  ·rename_i A
   have Y:q.next=s.next+1:=by rw[Z]
   refine⟨{b1 with sl:=?_,AM:=?_},by show(q.De l).2.next≤_;rw[a];exact L⟩
   ·show((q.De l).2.AM++[_]).length≤(q.De l).2.next;rw[a5,K,a,Y]
    have:=h.sl
    have R:q.AM=s.AM:=by rw[Z]
    rw[R];simp only[mz];omega
   ·intro p J;have C:p∈(q.De l).2.AM++[⟨s.next,l⟩]:=J;rcases j2.1 C with J|J
    ·exact b1.AM p J
    ·rw[g5.1 J];refine⟨by show s.next<(q.De l).2.next;rw[a,Y];omega,c,λf V=>?_⟩
     have:=F A f V
     exact⟨this.1,this.2.1,λX=>by have g:=this.2.2 X;have i:=d f.stream.toNat;show _≤((q.De l).2.o f.stream.toNat).data.length;rw[i];exact g⟩
  ·exact⟨b1,by rw[a];exact L⟩
def Ar.ET:∀(F:List (List UInt8)) (s:AL),Ar t s→s.next+aa F≤20*t→Ar t (s.ET F).2
 |[],s,h,_=>h
 |b::F,s,h,G=>by
  rw[f']at G;obtain⟨U,L⟩:=h.emit b C0;rw[AL.ET];split
  ·exact Ar.ET F _ U C0
  exact U
def Ar.GL{s:AL}(h:Ar t s)(l:List (List UInt8))(J:aa l≤20):Ar (t+1) (s.GL l).2:=by
 have W:=h.mono FT;have G:=h.nx;unfold AL.GL;split
 ·unfold AL.Df;split
  ·exact W
  split
  ·exact {W with}
  have a:Ar (t+1) {s with said:=true}:={W with}
  obtain⟨U,_⟩:=a.opened (l.getD 0 []) (by show s.next+1≤20*(t+1);omega);split
  ·rename_i q e;rw[e]at U;exact U
  rename_i X q e;rw[e]at U;exact U
 have ha:=Ar.ET l s W C0;split
 ·split
  ·exact ha
  exact {ha with due:=bk _}
 exact ha
end Go.Proofs.YtgfdlpcdjklcoaaGreatDoor
