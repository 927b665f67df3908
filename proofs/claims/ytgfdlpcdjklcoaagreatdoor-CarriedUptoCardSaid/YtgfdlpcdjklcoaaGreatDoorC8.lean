/- A part of this proof: steps of the program, plain facts; no condition. -/
import Derived.Test.YtgfdlpcdjklcoaaGreatDoorC7
namespace Go.Proofs.YtgfdlpcdjklcoaaGreatDoor
open Go Go.RowKit
open _root_.List renaming replicate→A_,length_eq_zero_iff→B!,length_take→D_,replicate_zero→D!,getD_eq_getElem?_getD→D?,length_append→E!,extract_eq_take_drop→E?,append_assoc→F_,getElem?_eq_getElem→F!,length_map→G_,append_nil→H_,length_replicate→H!,mem_of_mem_take→H?,mem_map→I!,foldl_append→I?,length_drop→J_,map_append→J!,mem_filter→J?,drop_take→K_
open _root_.Bool renaming false_ne_true→A!,false_eq_true→B?,eq_iff_iff→F?,true_eq→K!
open _root_.Int renaming toNat_natCast→A?,toNat_of_nonneg→I_
open _root_.Go.Result renaming andThen_ok→B_
open _root_.Go.Sem renaming run_pure→C_,run_bind→C!
open _root_.Eq renaming mp→C?
open _root_.Option renaming isSome_none→E_,map_some→G!,map_none→G?
set_option linter.unusedVariables false
set_option linter.unusedSimpArgs false
set_option maxRecDepth 20000
section
variable{B:World}
theorem pU(l:List AV)(n:Nat):decide (∃r∈l,r.lo≤n∧n≤r.hi)=BI l n:=by
 apply F?.2;simp [BI,List.any_eq_true]
theorem uF(r:AV)(bp number:Nat)(H:HP)[hb:Rd B H bp (0+0) (uN number) True]:
  Fn Tryz.prog B 214 [He r,ptr bp 0] H (fun v H'=>v=.bool (decide (r.lo≤number∧number≤r.hi))∧H'=H):=by
 refine mI Tryz.func214 ?_;refine J2 ?_;refine Af (DP (l:=[uN r.lo,uN r.hi]) rfl rfl) rfl ?_;rintro _ _ ⟨b2,rfl,rfl⟩;refine J9 ?_;refine JL Kc ?_;refine J1 ?_;refine D8 9 rfl (fun hg1=>?_) (fun hg1=>?_)
 ·refine Sn ?_;refine J1 ?_;refine JG T1 ?_;refine J1 ?_;refine JG T1 ?_;refine JL Kc ?_;refine JL Fd ?_;refine J4 ?_;refine mR [3] H rfl rfl ⟨?_,rfl⟩;refine LR ?_;congr 1;apply F?.2;simp only [decide_eq_true_eq,K!,B?,iff_true,iff_false,true_iff,false_iff,eq_self];omega
 refine S9 ?_;refine JH F1 ?_;refine JH F1 ?_;refine JL Ec ?_;refine J4 ?_;refine mR [3] H rfl rfl ⟨?_,rfl⟩;refine LR ?_;congr 1;apply F?.2;simp only [decide_eq_true_eq,K!,B?,iff_true,iff_false,true_iff,false_iff,eq_self];omega
theorem oO(cb bc:Nat)(x:CC)(a:A5)(R:HP)(ha:a.number<4611686018427387904):
  Fn Tryz.prog B 215 [Ll a,ptr bc 0] (AP cb x*(HP.AA bc 0 [ptr cb 0]*R)) (fun v H'=>v=.bool (decide (a.Am.number+3≤x.BV))∧H'=AP cb x*(HP.AA bc 0 [ptr cb 0]*R)):=by
 refine mI Tryz.func215 ?_;refine J2 ?_;refine Af (DP (l:=Bo a) rfl rfl) rfl ?_;rintro _ _ ⟨b2,rfl,rfl⟩;refine J4 ?_;refine mA 9 9 ?_;refine IV ?_;refine JT 2 rfl (Iy (j:=3) rfl rfl Ca) ?_;refine KK ?_;refine Jn 4 ?_;refine Jf 5 ?_;refine Jd 6 ?_;refine JT 7 rfl Kc ?_;refine Ja 8 ?_;refine DO ?_;exact mR [3] (AP cb x*(HP.AA bc 0 [ptr cb 0]*R)) rfl rfl Ba
structure mL(ws:List BU)(ws0:List AX)(l:List AV)(pre:List A5):Prop where
 M9:∀w∈ws,w.ok
 mw:ws.map (·.w)=(pre.map (·.Am)).foldl (H8 l) ws0
def Gw(cb:Nat)(ws0:List AX)(l:List AV)(K:HP)(pre:List A5):HP:=HP.ex fun ws:List BU=>HP.pr (mL ws ws0 l pre)*(A1 cb ws*K)
def AX.Jk(w:AX)(inn:Bool)(f:AT):AX:=if inn=true∧f.kind=5∧f.data.size≠0 then
  {w with AE:=w.AE.add f.offset (f.offset+f.data.size-1),Ae:=w.Ae.add f.offset (f.offset+f.data.size-1)}else w
theorem vD(w:AX)(inn:Bool)(f:AT):w.named inn f={w.Jk inn f with ended:=(w.Jk inn f).ended||(inn&&decide (f.kind=5)&&f.fin)}:=rfl
theorem LS(s:ByteArray):(s≠⟨#[]⟩)↔s.size≠0:=by
 cases s with
 |mk d=>
  constructor
  ·intro h h2;have h3:d.size=0:=h2
   have h4:d= #[]:=by simpa using h3
   exact h (by rw [h4])
  ·intro h h2;cases h2;exact h rfl
set_option maxHeartbeats 4000000 in
theorem Zy(cb AF bl bc:Nat)(ws0:List AX)(L:List A5)(l:List AV)(lp:Option Addr)(lb lo lc:Nat)(K:HP)(hw0:Dc AF ws0)(hlok:∀m∈L,m.ok)
  (hfr:∀m∈L,∀g∈m.Am.As,EJ ws0 g)(hfl:∀m∈L,m.fs.length<100000000)(hfs:∀m∈L,Ab B K m.a.b m.a.o m.fs)(hnm:∀m∈L,m.number<4611686018427387904)(hls:Sl lp lb lo l.length lc)(hll:l.length<100000000)
  [h1:Rd B K bl 0 (.slice lp l.length lc) True][h2:Rd B K bc 0 (ptr cb 0) True][h3:Ab B K lb lo l]:
  PZ B 212 [ptr bl 0,ptr bc 0] L (fun m=>BI l m.number) (Gw cb ws0 l K):=by
 intro pre fm R hpre;obtain⟨mm,hmm,hpre⟩:=hpre;have hmem:fm∈L:=H? (i:=mm) (by rw [hpre];simp);have hsub:∀m∈pre,m∈L:=fun m hm=>H? (i:=mm) (by rw [hpre];simp [hm]);have hfm:=hlok fm hmem;have hfl2:=hfl fm hmem;have hrd:=hfs fm hmem;have hnum:=hnm fm hmem;refine mI Tryz.func212 ?_;unfold Gw;refine LK ?_;rintro ws ⟨hz1,hz2⟩
 obtain⟨wo1,wo2,_⟩:=Mv (AF:=AF) (l:=l) (pre.map (·.Am)) ws0 hw0 (fun p hp g hg=>by
  obtain⟨m,hm,rfl⟩:=I!.1 hp
  exact hfr m (hsub m hm) g hg)
 rw [←hz2]at wo1 wo2;refine Ao (H':=A1 cb ws*(K*R)) Cf ?_;refine J2 ?_;refine Af (DP (l:=Bo fm) rfl rfl) rfl ?_;rintro _ _ ⟨b3,rfl,rfl⟩;refine J6 ?_;refine JL F0 ?_;refine mE rfl (qE l lp lb lo lc _ [ptr b3 0] (fun r=>r.lo≤fm.number∧fm.number≤r.hi) _ hls Ca (fun r _=>uF r b3 fm.number _)) ?_;refine JR ?_;rw [pU]
 obtain⟨inn,hinn⟩:∃b:Bool,b=BI l fm.number:=Be
 rw [←hinn];refine J5 ?_;refine Ao (H':=A1 cb ws*(K*(HP.AA b3 0 (Bo fm)*R))) Cf ?_;refine J4 ?_;refine JL UH ?_;refine J3 ?_
 refine Bk (α:=Nat×List BU) (fun z=>[(1,ptr bl 0),(2,ptr bc 0),(3,ptr b3 0),(5,.bool inn),(13,.slice fm.a.p fm.fs.length fm.a.c),(14,iN fm.fs.length),(15,iN z.1)]) (fun z=>A1 cb z.2*(K*(HP.AA b3 0 (Bo fm)*R))) (fun z=>z.1≤fm.fs.length∧(∀w∈z.2,w.ok)∧z.2.map (·.w)=((fm.fs.take z.1).map (·.f)).foldl (Gy inn) (ws.map (·.w))) (fun z=>fm.fs.length-z.1) (0,ws) ⟨Nat.zero_le _,hz1,rfl⟩ Ge rfl ?_
 rintro⟨i,wz⟩ ⟨q1,q2,q3⟩;dsimp only at q1 q2 q3⊢
 obtain⟨ag1,ag2,_⟩:=Si (AF:=AF) (inn:=inn) ((fm.fs.take i).map (·.f)) (ws.map (·.w)) wo1 (fun g hg=>by
  obtain⟨rr,hrr,rfl⟩:=I!.1 hg
  exact(hfr fm hmem rr.f YV).same wo2)
 rw [←q3]at ag1 ag2
 have hwl:wz.length=4:=by have:=ag1.len;simpa using this
 refine J6 ?_;refine mC (fun h15=>?_) (fun h15=>?_)
 ·skip
  have hgd:fm.fs.getD i AC.AH=fm.fs[i]:=by rw [D?,F! h15];rfl
  have hfo:EJ (wz.map (·.w)) (fm.fs.getD i AC.AH).f:=by
   rw [hgd];exact((hfr fm hmem _ Xf).same wo2).same ag2
  obtain⟨j,hst⟩:∃j:Nat,(fm.fs.getD i AC.AH).f.stream=(j:Int):=⟨_,(I_ hfo.1).symm⟩
  have hj:j<4:=by have:=hfo.2.1;omega
  have hgw:(wz.map (·.w)).getD j Aq=(wz.getD j AC.AH).w:=by
   simp only [D?,List.getElem?_map,F! Sk];rfl
  have hwj:=ag1.ok j hj;rw [hgw]at hwj;have hwok:=q2 _ (Il (d:=AC.AH) Sk);have hbl:=hwj.len;have hfo5:=hfo.2.2;rw [hst,A?,hgw]at hfo5;refine Ao (H':=HP.AA cb (0+43+j*10) (Bd (wz.getD j AC.AH))*(Bi (wz.getD j AC.AH)*(B6 cb wz j*(K*(HP.AA b3 0 (Bo fm)*R))))) (by rw [Im cb wz j Ca];ac_rfl) ?_;generalize hwm:wz.getD j AC.AH=wm at*;refine J6 ?_;refine JL (Gz rfl rfl hfm.1 Ca rfl) ?_;refine JL (A2 (v':=.agg (AJ (fm.fs.getD i AC.AH)).toArray) Wl rfl) ?_;refine Af TG rfl ?_;rintro _ _ ⟨b7,rfl,rfl⟩;refine Bj (Dz rfl rfl Ch (AC.one (fm.fs.getD i AC.AH))) ?_;refine Fs ?_;refine mA 7 7 ?_;refine Jd 0 ?_;refine QO ?_;refine Ja 6 ?_;refine IR ?_
  refine CR (α:=Unit) (fun _=>[(35,.bool (decide (inn=true∧(fm.fs.getD i AC.AH).f.kind=5∧(fm.fs.getD i AC.AH).f.data.size≠0))),(7,ptr b7 0),(8,ptr cb (0+43+j*10)),(1,ptr bl 0),(2,ptr bc 0),(3,ptr b3 0),(5,.bool inn),(13,.slice fm.a.p fm.fs.length fm.a.c),(14,iN fm.fs.length),(15,iN i)]) (fun _=>HP.AA b7 0 (AJ (fm.fs.getD i AC.AH))*(HP.AA cb (0+43+j*10) (Bd wm)*(Bi wm*(B6 cb wz j*(K*(HP.AA b3 0 (Bo fm)*R)))))) (fun _=>True) ?_ ?_
  ·refine J3 ?_;refine DA 26 rfl (fun hg1=>?_) (fun hg1=>?_)
   ·have hb1:inn=true:=hg1;refine Ho ?_;refine JL O1 ?_;refine JL JS ?_;refine J1 ?_;refine D8 31 rfl (fun hg2=>?_) (fun hg2=>?_)
    ·refine MD ?_;refine J1 ?_;refine JG T2 ?_;refine JL (Rg rfl rfl) ?_;refine JL Ht ?_;refine J1 ?_;refine A8 () trivial (.cons ?_ Lt) rfl;refine Et ?_;congr 2
     first
      |exact decide_eq_decide.2 ⟨fun h=>⟨hb1,hg2,(LS _).1 h⟩,fun h=>(LS _).2 h.2.2⟩
      |exact(decide_eq_false (fun h=>hg2 h.2.1)).symm
      |exact(decide_eq_false (fun h=>by rw [hb1]at h;cases h.1)).symm
    refine SU ?_;refine JL HK ?_;refine J1 ?_;refine A8 () trivial (.cons ?_ Lt) rfl;refine Et ?_;congr 2
    first
     |exact decide_eq_decide.2 ⟨fun h=>⟨hb1,hg2,(LS _).1 h⟩,fun h=>(LS _).2 h.2.2⟩
     |exact(decide_eq_false (fun h=>hg2 h.2.1)).symm
     |exact(decide_eq_false (fun h=>by rw [hb1]at h;cases h.1)).symm
   have hb1:inn=false:=hg1;refine Ha ?_;refine JL JC ?_;refine J1 ?_;refine KZ ?_;refine JL EP ?_;refine J1 ?_;refine A8 () trivial (.cons ?_ Lt) rfl;refine Et ?_;congr 2
   first
    |exact decide_eq_decide.2 ⟨fun h=>⟨hb1,hg2,(LS _).1 h⟩,fun h=>(LS _).2 h.2.2⟩
    |exact(decide_eq_false (fun h=>hg2 h.2.1)).symm
    |exact(decide_eq_false (fun h=>by rw [hb1]at h;cases h.1)).symm
  ·rintro _ _;refine J1 ?_;refine CR (α:=BU) (fun _=>[(7,ptr b7 0),(8,ptr cb (0+43+j*10)),(1,ptr bl 0),(2,ptr bc 0),(3,ptr b3 0),(5,.bool inn),(13,.slice fm.a.p fm.fs.length fm.a.c),(14,iN fm.fs.length),(15,iN i)]) (fun w1=>HP.AA cb (0+43+j*10) (Bd w1)*(Bi w1*(B6 cb wz j*(HP.AA b7 0 (AJ (fm.fs.getD i AC.AH))*(K*(HP.AA b3 0 (Bo fm)*R)))))) (fun w1=>w1.ok∧w1.w=wm.w.Jk inn (fm.fs.getD i AC.AH).f) ?_ ?_
   ·refine mC (fun h35=>?_) (fun h35=>?_)
    ·skip
     have hnm1:wm.w.Jk inn (fm.fs.getD i AC.AH).f={wm.w with AE:=wm.w.AE.add (fm.fs.getD i AC.AH).f.offset ((fm.fs.getD i AC.AH).f.offset+(fm.fs.getD i AC.AH).f.data.size-1),Ae:=wm.w.Ae.add (fm.fs.getD i AC.AH).f.offset ((fm.fs.getD i AC.AH).f.offset+(fm.fs.getD i AC.AH).f.data.size-1)}:=by unfold AX.Jk;rw [if_pos h35]
     have hb5:=hfo5 h35.2.1;have hsz:=h35.2.2;refine Ao (H':=AS wm.cq wm.ca wm.w.AE*(HP.AA cb (0+43+j*10) (Bd wm)*(AB wm.a.b wm.a.o wm.w.b wm.a.s*(AS wm.sq wm.sa wm.w.Ae*(B6 cb wz j*(HP.AA b7 0 (AJ (fm.fs.getD i AC.AH))*(K*(HP.AA b3 0 (Bo fm)*R)))))))) MS ?_;refine J1 ?_;refine mA 14 15 ?_;refine IC ?_;refine I2 ?_;refine Xz ?_;refine An 14 Cb rfl rfl (BJ rfl (Jl wm.cq _ _ wm.w.b.length wm.ca wm.w.AE _ hwok.2.2 hwj.co Ca Ca (by rw [hwj.cm];omega) (by rw [hwj.cm];omega))) ?_;rintro _ _ ⟨a50,hs50,rfl⟩;refine DK ?_;refine Ei ?_;refine Ao (H':=AS wm.sq wm.sa wm.w.Ae*(HP.AA cb (0+43+j*10) (Bd wm)*(AB wm.a.b wm.a.o wm.w.b wm.a.s*(AS wm.cq a50 (wm.w.AE.add (fm.fs.getD i AC.AH).f.offset ((fm.fs.getD i AC.AH).f.offset+(fm.fs.getD i AC.AH).f.data.size-1))*(B6 cb wz j*(HP.AA b7 0 (AJ (fm.fs.getD i AC.AH))*(K*(HP.AA b3 0 (Bo fm)*R)))))))) Cf ?_;refine mA 14 15 ?_;refine IC ?_;refine I2 ?_
     refine Xz ?_;refine An 14 Cb rfl rfl (BJ rfl (Jl wm.sq _ _ wm.w.b.length wm.sa wm.w.Ae _ hwok.2.1 hwj.so Ca Ca (by rw [hwj.sm];omega) (by rw [hwj.sm];omega))) ?_;rintro _ _ ⟨a65,hs65,rfl⟩;refine DK ?_;refine JD ?_;refine Bf (HP.AA cb (0+43+j*10) (Bd {wm with w:=wm.w.Jk inn (fm.fs.getD i AC.AH).f,sa:=a65,ca:=a50})*(Bi {wm with w:=wm.w.Jk inn (fm.fs.getD i AC.AH).f,sa:=a65,ca:=a50}*(B6 cb wz j*(HP.AA b7 0 (AJ (fm.fs.getD i AC.AH))*(K*(HP.AA b3 0 (Bo fm)*R)))))) (hE:=?_) ?_
     ·refine⟨fun ww hw=>C? ?_ hw⟩;congr 1;unfold Bi;dsimp only;rw [hnm1];show _=HP.AA cb (0+43+j*10) (Bd wm)*(AB wm.a.b wm.a.o wm.w.b wm.a.s*(AS wm.sq a65 (wm.w.Ae.add (fm.fs.getD i AC.AH).f.offset ((fm.fs.getD i AC.AH).f.offset+(fm.fs.getD i AC.AH).f.data.size-1))*AS wm.cq a50 (wm.w.AE.add (fm.fs.getD i AC.AH).f.offset ((fm.fs.getD i AC.AH).f.offset+(fm.fs.getD i AC.AH).f.data.size-1)))*(B6 cb wz j*(HP.AA b7 0 (AJ (fm.fs.getD i AC.AH))*(K*(HP.AA b3 0 (Bo fm)*R)))));ac_rfl
     exact A8 _ ⟨by rw [hnm1];exact⟨hwok.1,hs65,hs50⟩,rfl⟩ Lt rfl
    refine J1 ?_;exact A8 wm ⟨hwok,by unfold AX.Jk;rw [if_neg h35]⟩ Lt (by show _=HP.AA cb (0+43+j*10) (Bd wm)*(Bi wm*(B6 cb wz j*(HP.AA b7 0 (AJ (fm.fs.getD i AC.AH))*(K*(HP.AA b3 0 (Bo fm)*R)))));ac_rfl)
   ·rintro w1 ⟨hw1,hw1e⟩;refine J1 ?_;refine CR (α:=BU) (fun _=>[(1,ptr bl 0),(2,ptr bc 0),(3,ptr b3 0),(5,.bool inn),(13,.slice fm.a.p fm.fs.length fm.a.c),(14,iN fm.fs.length),(15,iN i)]) (fun w2=>HP.AA cb (0+43+j*10) (Bd w2)*(Bi w2*(B6 cb wz j*(HP.AA b7 0 (AJ (fm.fs.getD i AC.AH))*(K*(HP.AA b3 0 (Bo fm)*R)))))) (fun w2=>w2.ok∧w2.w=wm.w.named inn (fm.fs.getD i AC.AH).f) ?_ ?_
    ·refine J7 ?_;refine DA 71 rfl (fun hg3=>?_) (fun hg3=>?_)
     ·have he1:w1.w.ended=true:=hg3;refine Hf ?_;refine Hf ?_;refine GV ?_;refine GV ?_;refine GV ?_;refine Hf ?_;refine Hf ?_;refine GV ?_;refine GV ?_;refine Hf ?_;refine JL OY ?_;refine J4 ?_
      obtain⟨e2,he2⟩:∃e:Bool,e=(w1.w.ended||(inn&&decide ((fm.fs.getD i AC.AH).f.kind=5)&&(fm.fs.getD i AC.AH).f.fin)):=Be
      refine Dl (H':=HP.AA cb (0+43+j*10) (Bd {w1 with w:={w1.w with ended:=e2}})*(Bi {w1 with w:={w1.w with ended:=e2}}*(B6 cb wz j*(HP.AA b7 0 (AJ (fm.fs.getD i AC.AH))*(K*(HP.AA b3 0 (Bo fm)*R)))))) ?_ ?_
      ·refine OA ?_;rw [he2];refine Qa ?_
       first
        |(rw [he1];rfl)
        |(rw [he1,hi9,decide_eq_true hk9];rfl)
        |(rw [he1,hi9,decide_eq_false hk9];rfl)
        |(rw [he1,hi9];rfl)
      exact Ph
     have he1:w1.w.ended=false:=hg3;refine F5z ?_;refine J1 ?_;refine F5z ?_;refine J1 ?_;refine DA 73 rfl (fun hg4=>?_) (fun hg4=>?_)
     ·have hi9:inn=true:=hg4;refine SQ ?_;refine JL O1 ?_;refine F5z ?_;refine JL (Fy hg4 rfl rfl) ?_;refine F5z ?_;refine J1 ?_;refine D8 78 rfl (fun hg5=>?_) (fun hg5=>?_)
      ·have hk9:(fm.fs.getD i AC.AH).f.kind=5:=hg5;refine JG T5 ?_;refine J1 ?_;refine JG T5 ?_;refine J1 ?_;refine F5z ?_;refine JL (Fy T5 rfl rfl) ?_;refine JL KF ?_;refine J4 ?_
       obtain⟨e2,he2⟩:∃e:Bool,e=(w1.w.ended||(inn&&decide ((fm.fs.getD i AC.AH).f.kind=5)&&(fm.fs.getD i AC.AH).f.fin)):=Be
       refine Dl (H':=HP.AA cb (0+43+j*10) (Bd {w1 with w:={w1.w with ended:=e2}})*(Bi {w1 with w:={w1.w with ended:=e2}}*(B6 cb wz j*(HP.AA b7 0 (AJ (fm.fs.getD i AC.AH))*(K*(HP.AA b3 0 (Bo fm)*R)))))) ?_ ?_
       ·refine OA ?_;rw [he2];refine Qa ?_
        first
         |(rw [he1];rfl)
         |(rw [he1,hi9,decide_eq_true hk9];rfl)
         |(rw [he1,hi9,decide_eq_false hk9];rfl)
         |(rw [he1,hi9];rfl)
       exact Ph
      have hk9:¬(fm.fs.getD i AC.AH).f.kind=5:=hg5;refine JH F5 ?_;refine JH F5 ?_;refine F5z ?_;refine JL (GW F5 rfl rfl) ?_;refine JL KF ?_;refine J4 ?_
      obtain⟨e2,he2⟩:∃e:Bool,e=(w1.w.ended||(inn&&decide ((fm.fs.getD i AC.AH).f.kind=5)&&(fm.fs.getD i AC.AH).f.fin)):=Be
      refine Dl (H':=HP.AA cb (0+43+j*10) (Bd {w1 with w:={w1.w with ended:=e2}})*(Bi {w1 with w:={w1.w with ended:=e2}}*(B6 cb wz j*(HP.AA b7 0 (AJ (fm.fs.getD i AC.AH))*(K*(HP.AA b3 0 (Bo fm)*R)))))) ?_ ?_
      ·refine OA ?_;rw [he2];refine Qa ?_
       first
        |(rw [he1];rfl)
        |(rw [he1,hi9,decide_eq_true hk9];rfl)
        |(rw [he1,hi9,decide_eq_false hk9];rfl)
        |(rw [he1,hi9];rfl)
      exact Ph
     have hi9:inn=false:=hg4;refine TB ?_;refine F5z ?_;refine JL (GW hg4 rfl rfl) ?_;refine F5z ?_;refine J1 ?_;refine MC ?_;refine MC ?_;refine F5z ?_;refine JL EP ?_;refine JL KF ?_;refine J4 ?_
     obtain⟨e2,he2⟩:∃e:Bool,e=(w1.w.ended||(inn&&decide ((fm.fs.getD i AC.AH).f.kind=5)&&(fm.fs.getD i AC.AH).f.fin)):=Be
     refine Dl (H':=HP.AA cb (0+43+j*10) (Bd {w1 with w:={w1.w with ended:=e2}})*(Bi {w1 with w:={w1.w with ended:=e2}}*(B6 cb wz j*(HP.AA b7 0 (AJ (fm.fs.getD i AC.AH))*(K*(HP.AA b3 0 (Bo fm)*R)))))) ?_ ?_
     ·refine OA ?_;rw [he2];refine Qa ?_
      first
       |(rw [he1];rfl)
       |(rw [he1,hi9,decide_eq_true hk9];rfl)
       |(rw [he1,hi9,decide_eq_false hk9];rfl)
       |(rw [he1,hi9];rfl)
     exact Ph
    ·rintro w2 ⟨hw2,hw2e⟩;refine J3 ?_;refine Es ?_;refine Bf (A1 cb (wz.set j w2)*(K*(HP.AA b3 0 (Bo fm)*R))) (hE:=?_) ?_
     ·rw [KW cb wz j w2 Ca];exact⟨fun ww hw=>Sat.right (A:=HP.AA b7 0 (AJ (fm.fs.getD i AC.AH))) (C? Cn hw)⟩
     exact BW (i+1,wz.set j w2) ⟨Ca,fun a ha=>KC (P:=BU.ok) q2 hw2 ha,by
      show(wz.set j w2).map (·.w)=((fm.fs.take (i+1)).map (·.f)).foldl (Gy inn) (ws.map (·.w))
      rw [List.map_set,hw2e,List.take_succ_eq_append_getElem h15,J!,I?,←q3]
      show _=Gy inn (wz.map (·.w)) (fm.fs[i]).f
      rw [←hgd]
      unfold Gy
      rw [hst,A?,hgw]⟩ Wp Ge rfl
 refine DH ?_
 obtain rfl':i=fm.fs.length:=by omega
 rw [rfl',List.take_length]at q3;exact mR [4] (Gw cb ws0 l K (pre++[fm])*R) (hE:=⟨fun ww hw=>Fb (G:=HP.AA b3 0 (Bo fm)) wz ⟨q2,by rw [J!,I?,←hz2,q3,hinn];rfl⟩ (by show _=HP.AA b3 0 (Bo fm)*(A1 cb wz*K*R);ac_rfl) ww hw⟩) rfl rfl ⟨by rw [hinn];rfl,rfl⟩
theorem Ye{cb:Nat}{ws0:List AX}{l:List AV}{pre:List A5}{K R:HP}{w:World}(h:Sat B (Gw cb ws0 l K pre*R) w):Sat B (K*R) w:=by
 unfold Gw at h;rw [HP.Gb]at h;obtain⟨z,h⟩:=Sat.ex.1 h;rw [HP.assoc]at h;have h2:=(Sat.pr.1 h).2;rw [HP.assoc]at h2;exact h2.right
theorem TX{t:Nat}{m:Ac}(hi:AZ t m.s)(ht:t<1000000)(a:A5)(ha:a∈m.fl∨a∈m.lo):a.number<4611686018427387904:=by
 have h1:=hi.nx
 have h2:a.Am.number<m.s.next:=by
  rcases ha with ha|ha
  ·exact(hi.Am a.Am Qu).num
  ·exact(hi.Am a.Am Tv).num
 have h3:a.number<m.s.next:=h2;omega
theorem kT{t:Nat}{m:Ac}(hi:AZ t m.s):∀a∈m.lo,a.fs.length<100000000:=fun a ha=>by
 have:=(hi.Am a.Am Tv).len
 have e:a.Am.As.length=a.fs.length:=G_ _;omega
set_option maxHeartbeats 4000000 in
theorem vY(cb t:Nat)(m:Ac)(l:List AV)(lp:Option Addr)(lb lo lc:Nat)(R:HP)(hm:m.ok)(hi:AZ t m.s)(ht:t<1000000)(hls:Sl lp lb lo l.length lc)(hr:Ab B R lb lo l)(hl0:0<l.length)(hll:l.length<100000000)(hhi:(rg l 0).hi<9000000000000000000):
  Fn Tryz.prog B 183 [ptr cb 0,.slice lp l.length lc] (AY cb m*R)
   (fun v H'=>∃m':Ac,m'.ok∧m'.s=(m.s.By l).2∧v=iN (m.s.By l).1∧H'=AY cb m'*R):=by
 refine mI Tryz.func183 ?_;have hlen:=Tr hi ht;refine Jp ?_;rintro _ _ ⟨b2,rfl,rfl⟩;refine KL ?_;rintro _ _ ⟨b3,rfl,rfl⟩;refine FN ?_;refine J4 ?_;refine Ao (H':=HP.AA b3 0 [.slice lp l.length lc]*(HP.AA b2 0 [ptr cb 0]*(AP cb m.x*(AS m.x.gq m.ga m.AR*(A1 cb m.ws*(BS cb m.rs*(AB m.fa.b m.fa.o m.fl m.fa.s*(AB m.la.b m.la.o m.lo m.la.s*(AO Au m.fl*(AO Au m.lo*R)))))))))) Rm ?_;have hrR:=hr;refine mA 9 9 ?_;refine Jd 0 ?_;refine JT 1 rfl Z2 ?_;refine Jf 2 ?_;refine JT 3 rfl Xg ?_;refine I1 ?_;refine Jn 5 ?_;refine Jf 6 ?_;refine Jd 7 ?_;refine JT 8 rfl Ka ?_;refine Ei ?_;refine mC (fun h15=>?_) (fun h15=>?_)
 ·have h15:m.s.next≤(rg l 0).hi:=h15;refine J2 ?_;refine JL (FO (v:=.int .i64 (8:Nat)) rfl) ?_;refine J4 ?_;refine mR [4] (AY cb m*R) (hE:=?_) rfl rfl ⟨m,hm,by unfold AG.By;rw [if_pos h15],by unfold AG.By;rw [if_pos h15];rfl,rfl⟩;exact⟨fun ww hw=>Sat.right (A:=HP.AA b3 0 [.slice lp l.length lc]*HP.AA b2 0 [ptr cb 0]) (C? (by congr 1;unfold AY C9 Az.h;ac_rfl) hw)⟩
 have h15:¬m.s.next≤(rg l 0).hi:=h15;refine J3 ?_;refine mA 12 13 ?_;refine Ji ?_;refine Jd 5 ?_;refine JT 6 rfl Z2 ?_;refine Jf 7 ?_;refine JT 8 rfl Xg ?_;refine JT 9 rfl Jo ?_;refine Q3 ?_;refine J3 ?_;refine JL F0 ?_;refine J4 ?_;refine Ao (H':=HP.AA b3 0 [.slice lp l.length lc]*(HP.AA b2 0 [ptr cb 0]*(AP cb {m.x with BV:=max m.x.BV (rg l 0).hi}*(AS m.x.gq m.ga m.AR*(A1 cb m.ws*(BS cb m.rs*(AB m.fa.b m.fa.o m.fl m.fa.s*(AB m.la.b m.la.o m.lo m.la.s*(AO Au m.fl*(AO Au m.lo*R)))))))))) (by first|ac_rfl|dsimp only) ?_;refine D5 (HP.AA b3 0 [.slice lp l.length lc]*(HP.AA b2 0 [ptr cb 0]*AP cb {m.x with BV:=max m.x.BV (rg l 0).hi})) 9 10 EI rfl Cb ?_;refine Jd 0 ?_;refine Jd 1 ?_;refine IZ ?_;refine JT 4 rfl (A2 ES hm.lv) ?_;refine Jm 5 ?_
 refine RL (Gw cb m.s.ws l (HP.AA b3 0 [.slice lp l.length lc]*(HP.AA b2 0 [ptr cb 0]*(AO Au m.fl*(AO Au m.lo*R)))) []*(AB m.la.b m.la.o m.lo m.la.s*(AP cb {m.x with BV:=max m.x.BV (rg l 0).hi}*(AS m.x.gq m.ga m.AR*(BS cb m.rs*AB m.fa.b m.fa.o m.fl m.fa.s))))) (hE:=⟨fun ww hw=>?_⟩) ?_
 ·exact Hk m.ws ⟨hm.ws,rfl⟩ Cf ww hw
 have hkl:∀a∈m.lo,Ab B (HP.AA b3 0 [.slice lp l.length lc]*(HP.AA b2 0 [ptr cb 0]*(AO Au m.fl*(AO Au m.lo*R)))) a.a.b a.a.o a.fs:=fun a ha=>by have:=RP (B:=B) ha;infer_instance
 have hkf:∀a∈m.fl,Ab B (HP.AA b3 0 [.slice lp l.length lc]*(HP.AA b2 0 [ptr cb 0]*(AO Au m.fl*(AO Au m.lo*R)))) a.a.b a.a.o a.fs:=fun a ha=>by have:=RP (B:=B) ha;infer_instance
 refine An 6 Cb rfl rfl (BJ rfl (RD m.lo m.la.p m.la.b m.la.o m.la.c m.la.s _ [ptr b3 0,ptr b2 0] (fun a=>BI l a.number) (Gw cb m.s.ws l (HP.AA b3 0 [.slice lp l.length lc]*(HP.AA b2 0 [ptr cb 0]*(AO Au m.fl*(AO Au m.lo*R))))) (AP cb {m.x with BV:=max m.x.BV (rg l 0).hi}*(AS m.x.gq m.ga m.AR*(BS cb m.rs*AB m.fa.b m.fa.o m.fl m.fa.s))) hm.la.1 hm.la.2 Ca (Zy cb m.x.AF b3 b2 m.s.ws m.lo l lp lb lo lc (HP.AA b3 0 [.slice lp l.length lc]*(HP.AA b2 0 [ptr cb 0]*(AO Au m.fl*(AO Au m.lo*R)))) hi.ws hm.lo (Zs hi) (kT hi) hkl (fun a ha=>TX hi ht a (.inr ha)) hls hll))) ?_;rintro _ _ ⟨p35,b35,o35,c35,s35,rfl,hs35,hc35,rfl⟩;refine⟨.inr ⟨fun ww hw=>Bm.get (B:=B) (H:=(HP.AA b3 0 [.slice lp l.length lc]*(HP.AA b2 0 [ptr cb 0]*(AO Au m.fl*(AO Au m.lo*R))))*(AB b35 o35 (m.lo.filter (fun x=> !BI l x.number)) s35*(AP cb {m.x with BV:=max m.x.BV (rg l 0).hi}*(AS m.x.gq m.ga m.AR*(BS cb m.rs*AB m.fa.b m.fa.o m.fl m.fa.s))))) ww (Ye (C? Cn hw))⟩,?_⟩;refine Ea (H':=Gw cb m.s.ws l (HP.AA b3 0 [.slice lp l.length lc]*(HP.AA b2 0 [ptr cb 0]*(AO Au m.fl*(AO Au m.lo*R)))) m.lo*(AB b35 o35 (m.lo.filter (fun x=> !BI l x.number)) s35*(AP cb {m.x with BV:=max m.x.BV (rg l 0).hi}*(AS m.x.gq m.ga m.AR*(BS cb m.rs*AB m.fa.b m.fa.o m.fl m.fa.s))))) Cf ?_;unfold Gw;refine SZ ?_
 rintro ws1 ⟨hw1,hw1e⟩;refine Jn 7 ?_;refine Jf 8 ?_;refine Db 9 Cb rfl (EY (v:=.slice p35 (m.lo.filter (fun x=> !BI l x.number)).length c35) rfl rfl rfl trivial) ?_;refine Jy ?_;refine Ao (H':=HP.AA b3 0 [.slice lp l.length lc]*(HP.AA b2 0 [ptr cb 0]*(AP cb {m.x with BV:=max m.x.BV (rg l 0).hi,lv:=.slice p35 (m.lo.filter (fun x=> !BI l x.number)).length c35}*(AS m.x.gq m.ga m.AR*(A1 cb ws1*(BS cb m.rs*(AB m.fa.b m.fa.o m.fl m.fa.s*(AB b35 o35 (m.lo.filter (fun x=> !BI l x.number)) s35*(AO Au m.fl*(AO Au m.lo*R)))))))))) Cf ?_;refine J4 ?_;refine JL Qb ?_;refine J6 ?_;refine D5 (HP.AA b3 0 [.slice lp l.length lc]*(HP.AA b2 0 [ptr cb 0]*AP cb {m.x with BV:=max m.x.BV (rg l 0).hi,lv:=.slice p35 (m.lo.filter (fun x=> !BI l x.number)).length c35})) 9 10 EI rfl Cb ?_;refine Jd 0 ?_;refine Jd 1 ?_;refine IZ ?_;refine JT 4 rfl Qb ?_;refine Jm 5 ?_
 refine RL (Gw cb (ws1.map (·.w)) l (HP.AA b3 0 [.slice lp l.length lc]*(HP.AA b2 0 [ptr cb 0]*(AO Au m.fl*(AO Au m.lo*R)))) []*(AB m.fa.b m.fa.o m.fl m.fa.s*(AP cb {m.x with BV:=max m.x.BV (rg l 0).hi,lv:=.slice p35 (m.lo.filter (fun x=> !BI l x.number)).length c35}*(AS m.x.gq m.ga m.AR*(BS cb m.rs*AB b35 o35 (m.lo.filter (fun x=> !BI l x.number)) s35))))) (hE:=⟨fun ww hw=>?_⟩) ?_
 ·exact Hk ws1 ⟨hw1,rfl⟩ Cf ww hw
 obtain⟨n1,n2,_⟩:=Mv (AF:=m.x.AF) (l:=l) (m.lo.map (·.Am)) m.s.ws hi.ws (fun p hp g hg=>by
  obtain⟨a,ha,rfl⟩:=I!.1 hp
  exact Zs hi a ha g hg)
 rw [←hw1e]at n1 n2;refine An 6 Cb rfl rfl (BJ rfl (RD m.fl m.fa.p m.fa.b m.fa.o m.fa.c m.fa.s _ [ptr b3 0,ptr b2 0] (fun a=>BI l a.number) (Gw cb (ws1.map (·.w)) l (HP.AA b3 0 [.slice lp l.length lc]*(HP.AA b2 0 [ptr cb 0]*(AO Au m.fl*(AO Au m.lo*R))))) (AP cb {m.x with BV:=max m.x.BV (rg l 0).hi,lv:=.slice p35 (m.lo.filter (fun x=> !BI l x.number)).length c35}*(AS m.x.gq m.ga m.AR*(BS cb m.rs*AB b35 o35 (m.lo.filter (fun x=> !BI l x.number)) s35))) hm.fa.1 hm.fa.2 Ca (Zy cb m.x.AF b3 b2 (ws1.map (·.w)) m.fl l lp lb lo lc (HP.AA b3 0 [.slice lp l.length lc]*(HP.AA b2 0 [ptr cb 0]*(AO Au m.fl*(AO Au m.lo*R)))) n1 hm.fl (fun a ha g hg=>(Z' hi a ha g hg).same n2) (Xv hi) hkf (fun a ha=>TX hi ht a (.inl ha)) hls hll))) ?_;rintro _ _ ⟨p49,b49,o49,c49,s49,rfl,hs49,hc49,rfl⟩;refine⟨.inr ⟨fun ww hw=>Bm.get (B:=B) (H:=(HP.AA b3 0 [.slice lp l.length lc]*(HP.AA b2 0 [ptr cb 0]*(AO Au m.fl*(AO Au m.lo*R))))*(AB b49 o49 (m.fl.filter (fun x=> !BI l x.number)) s49*(AP cb {m.x with BV:=max m.x.BV (rg l 0).hi,lv:=.slice p35 (m.lo.filter (fun x=> !BI l x.number)).length c35}*(AS m.x.gq m.ga m.AR*(BS cb m.rs*AB b35 o35 (m.lo.filter (fun x=> !BI l x.number)) s35))))) ww (Ye (C? Cn hw))⟩,?_⟩
 refine Ea (H':=Gw cb (ws1.map (·.w)) l (HP.AA b3 0 [.slice lp l.length lc]*(HP.AA b2 0 [ptr cb 0]*(AO Au m.fl*(AO Au m.lo*R)))) m.fl*(AB b49 o49 (m.fl.filter (fun x=> !BI l x.number)) s49*(AP cb {m.x with BV:=max m.x.BV (rg l 0).hi,lv:=.slice p35 (m.lo.filter (fun x=> !BI l x.number)).length c35}*(AS m.x.gq m.ga m.AR*(BS cb m.rs*AB b35 o35 (m.lo.filter (fun x=> !BI l x.number)) s35))))) Cf ?_;unfold Gw;refine SZ ?_;rintro ws2 ⟨hw2,hw2e⟩;refine Jn 7 ?_;refine Jf 8 ?_;refine Db 9 Cb rfl (EY (v:=.slice p49 (m.fl.filter (fun x=> !BI l x.number)).length c49) rfl rfl rfl trivial) ?_;refine DF ?_;refine J6 ?_;refine JL (A2 (v':=.slice p49 (m.fl.filter (fun x=> !BI l x.number)).length c49) ES rfl) ?_;refine J5 ?_;refine CR (α:=Unit) (fun _=>[(2,ptr b2 0)]) (fun _=>AP cb {m.x with BV:=max m.x.BV (rg l 0).hi,lv:=.slice p35 (m.lo.filter (fun x=> !BI l x.number)).length c35,fv:=.slice p49 (m.fl.filter (fun x=> !BI l x.number)).length c49,waits:=if(m.fl.filter (fun x=> !BI l x.number)).length<m.fl.length then 0 else m.x.waits}*(AS m.x.gq m.ga m.AR*(A1 cb ws2*(BS cb m.rs*(AB b49 o49 (m.fl.filter (fun x=> !BI l x.number)) s49*(AB b35 o35 (m.lo.filter (fun x=> !BI l x.number)) s35*(AO Au m.fl*(AO Au m.lo*(HP.AA b2 0 [ptr cb 0]*R))))))))) (fun _=>True) ?_ ?_
 ·refine mC (fun h58=>?_) (fun h58=>?_)
  ·refine J4 ?_;refine Bj (EY (v:=.int .u64 (0:Nat)) rfl rfl rfl Cd) ?_;refine Hw ?_;refine Bf (AP cb {m.x with BV:=max m.x.BV (rg l 0).hi,lv:=.slice p35 (m.lo.filter (fun x=> !BI l x.number)).length c35,fv:=.slice p49 (m.fl.filter (fun x=> !BI l x.number)).length c49,waits:=if(m.fl.filter (fun x=> !BI l x.number)).length<m.fl.length then 0 else m.x.waits}*(AS m.x.gq m.ga m.AR*(A1 cb ws2*(BS cb m.rs*(AB b49 o49 (m.fl.filter (fun x=> !BI l x.number)) s49*(AB b35 o35 (m.lo.filter (fun x=> !BI l x.number)) s35*(AO Au m.fl*(AO Au m.lo*(HP.AA b2 0 [ptr cb 0]*R))))))))) (hE:=⟨fun ww hw=>Sat.right (A:=HP.AA b3 0 [.slice lp l.length lc]) (C? (by congr 1;rw [if_pos h58];ac_rfl) hw)⟩) ?_;exact A8 () trivial PG rfl
  refine J1 ?_;refine Bf (AP cb {m.x with BV:=max m.x.BV (rg l 0).hi,lv:=.slice p35 (m.lo.filter (fun x=> !BI l x.number)).length c35,fv:=.slice p49 (m.fl.filter (fun x=> !BI l x.number)).length c49,waits:=if(m.fl.filter (fun x=> !BI l x.number)).length<m.fl.length then 0 else m.x.waits}*(AS m.x.gq m.ga m.AR*(A1 cb ws2*(BS cb m.rs*(AB b49 o49 (m.fl.filter (fun x=> !BI l x.number)) s49*(AB b35 o35 (m.lo.filter (fun x=> !BI l x.number)) s35*(AO Au m.fl*(AO Au m.lo*(HP.AA b2 0 [ptr cb 0]*R))))))))) (hE:=⟨fun ww hw=>Sat.right (A:=HP.AA b3 0 [.slice lp l.length lc]) (C? (by congr 1;rw [if_neg h58];ac_rfl) hw)⟩) ?_;exact A8 () trivial PG rfl
 ·rintro _ _;refine J2 ?_
  obtain⟨m2,hm2⟩:∃m2:Ac,m2=⟨{m.x with BV:=max m.x.BV (rg l 0).hi,lv:=.slice p35 (m.lo.filter (fun x=> !BI l x.number)).length c35,fv:=.slice p49 (m.fl.filter (fun x=> !BI l x.number)).length c49,waits:=if(m.fl.filter (fun x=> !BI l x.number)).length<m.fl.length then 0 else m.x.waits},m.AR,m.ga,ws2,m.rs,m.fl.filter (fun x=> !BI l x.number),m.lo.filter (fun x=> !BI l x.number),⟨p49,b49,o49,c49,s49⟩,⟨p35,b35,o35,c35,s35⟩⟩:=Be
  have hok2:m2.ok:=by
   rw [hm2];exact⟨hm.g,hw2,hm.rs,fun a ha=>hm.fl a (J?.1 ha).1,fun a ha=>hm.lo a (J?.1 ha).1,⟨hs49,hc49⟩,⟨hs35,hc35⟩,rfl,rfl⟩
  have e1:(m.fl.filter (fun x=> !BI l x.number)).map (·.Am)=(m.fl.map (·.Am)).filter (fun p=> !BI l p.number):=QC m.fl (fun p=> !BI l p.number);have e2:(m.lo.filter (fun x=> !BI l x.number)).map (·.Am)=(m.lo.map (·.Am)).filter (fun p=> !BI l p.number):=QC m.lo (fun p=> !BI l p.number)
  have hs2:m2.s=m.s.Eb l:=by
   rw [hm2];unfold AG.Eb Ac.s;dsimp only;rw [hw2e,hw1e,←e1,←e2,G_,G_];rfl
  have hi2:AZ t m2.s:=by rw [hs2];exact(hi.Eb l Ca).1
  refine HI (AY cb m2*(HP.AA b2 0 [ptr cb 0]*R)) (hE:=?_) ?_
  ·rw [hm2];refine⟨fun ww hw=>?_⟩;refine Sat.right (A:=AO Au (m.fl.filter (fun x=>BI l x.number))*AO Au (m.lo.filter (fun x=>BI l x.number))) ?_;refine C? ?_ hw;congr 1;unfold AY C9 Az.h;dsimp only;rw [Ot Au (fun a:A5=>BI l a.number) m.fl,Ot Au (fun a:A5=>BI l a.number) m.lo];ac_rfl
  refine J2 ?_;refine JL F0 ?_;refine mE rfl (Z7 cb t m2 (fun p=>decide (p.number+3≤m2.x.BV)) _ [ptr b2 0] (HP.AA b2 0 [ptr cb 0]) R hok2 hi2 ht (fun x a R2 hx ha=>by have:=oO (B:=B) cb b2 x a R2 (TX hi2 ht a (.inl ha));rw [hx]at this;exact this)) ?_;rintro _ _ ⟨m3,hok3,hs3,rfl⟩;refine J4 ?_;refine Fq ?_
  have ewr:m.s.By l=(0,m3.s):=by
   unfold AG.By;rw [if_neg h15,hs3,←hs2];rfl
  exact mR [4] (AY cb m3*R) (hE:=⟨fun ww hw=>Sat.right (A:=HP.AA b2 0 [ptr cb 0]) (C? Cn hw)⟩) rfl rfl ⟨m3,hok3,Cs,Cq,rfl⟩
end
section
section
variable{P:Program}{B:World}{n:Nat}{E:Ay}{D:Br}{H R:HP}{d:Option Tmp}{T T' ty:TypeId}{pos:String}{af:Array Edge}{g:Option (Nat×Bool)}{x y z:Operand}
theorem sB{s:ByteArray}{l:Nat}{ik:IntKind}[hT:Ar P T .string](hx:ev E x=some (.string s))(hy:ev E y=some (.int ik l))(h:l≤s.size):
  Aa P B n ⟨d,.slice T x (some y) none none,ty,pos,af,g⟩ E H (.string (s.extract l s.size)):=by
 intro a w he _;simp only [execOp,he.ev hx,G!,G?,he.ev hy,Instr.sliceAt,Instr.slice,Instr.sliceBounds,C!,Bh hT.get,B_,C_,Fg h,E_,B?,if_false,pure_bind]
 try rfl
theorem ZW{s:ByteArray}{h:Nat}{ik:IntKind}[hT:Ar P T .string](hx:ev E x=some (.string s))(hy:ev E y=some (.int ik h))(hh:h≤s.size):
  Aa P B n ⟨d,.slice T x none (some y) none,ty,pos,af,g⟩ E H (.string (s.extract 0 h)):=by
 intro a w he _;simp only [execOp,he.ev hx,G!,G?,he.ev hy,Instr.sliceAt,Instr.slice,Instr.sliceBounds,C!,Bh hT.get,B_,C_,Fg hh,E_,B?,if_false,pure_bind]
 try rfl
theorem Y0{s:ByteArray}{l h:Nat}{ik jk:IntKind}[hT:Ar P T .string](hx:ev E x=some (.string s))(hy:ev E y=some (.int ik l))(hz:ev E z=some (.int jk h))(hh:l≤h∧h≤s.size):
  Aa P B n ⟨d,.slice T x (some y) (some z) none,ty,pos,af,g⟩ E H (.string (s.extract l h)):=by
 intro a w he _;simp only [execOp,he.ev hx,G!,G?,he.ev hy,he.ev hz,Instr.sliceAt,Instr.slice,Instr.sliceBounds,C!,Bh hT.get,B_,C_,Fg hh.1,Fg hh.2,E_,B?,if_false,pure_bind]
 try rfl
theorem iY(s:ByteArray)(l h:Nat):(s.extract l h).data.toList=(s.data.toList.take h).drop l:=by
 rw [ByteArray.data_extract,Array.toList_extract,E?,K_]
theorem nQ{sT xT e b o dl dc k:Nat}{p:Option Addr}{s:ByteArray}{ys:List UInt8}{L:List Value}[hT:Ar P sT (.slice e)][hz:Bg P e 1]
  (hx:ev E x=some (.slice p dl dc))(hs:Sl p b (o+k*1) dl dc)(hy:ev E y=some (.string s))(hm:ys=s.data.toList.take (min s.size dl))
  (hl:k+dl≤L.length):
  CE P B n ⟨d,.call ⟨.builtin .copy,#[x,y],#[sT,xT]⟩,ty,pos,af,g⟩ E D (HP.AA b o L*R)
   (fun v H'=>v=.int .i64 (ys.length:Nat)∧H'=HP.AA b o (L.take k++AD ys++L.drop (k+ys.length))*R):=by
 intro a w h1 _ h3 K Q hk
 have hyl:ys.length=min s.size dl:=by
  rw [hm,D_]
  have:s.data.toList.length=s.size:=rfl
  omega
 have hm2:Nat.min s.size dl=ys.length:=hyl.symm
 have hf:(Builtin.firstCells 1 ys.length (.string s)).run P w=.ok (AD ys).toArray w:=by
  simp only [Builtin.firstCells,C_];congr 1;apply Array.toList_inj.1;rw [Array.toList_map,ByteArray.data_extract,Array.toList_extract,E?,hyl];rw [hm];simp only [List.drop_zero,Nat.sub_zero];rw [Yf];rfl
 have hw2:∃w',((match p with|some q=>storeCells q (AD ys)|none=>pure ()).run P w)=.ok () w'∧
   Sat B (HP.AA b o (L.take k++AD ys++L.drop (k+ys.length))*R) w':=by
  rcases hs.1 with h4|rfl
  ·have hd0:ys=[]:=B!.1 Ci;subst hd0;refine⟨w,?_,by simpa [AD]using h3⟩;cases p<;>simp [AD,storeCells]
  ·rw [Q6 b o k L Ca,HP.assoc,HP.CF]at h3
   have hfl:(AD ys).length=ys.length:=by rw [Bl];simp
   have hle:(AD ys).length≤(L.drop k).length:=by rw [hfl,J_];omega
   obtain⟨w',k1,k2⟩:=Sat.I5 (P:=P) (AD ys) (o+k*1) 0 (L.drop k) _ w hle (Jh _) (by rw [Nat.mul_one];exact h3);refine⟨w',k1,?_⟩;rw [HP.CF,←HP.assoc,List.drop_drop]at k2
   have e2:(L.take k).length=k:=by rw [D_];omega
   have e3:HP.AA b o (L.take k++AD ys++L.drop (k+ys.length))=HP.AA b o (L.take k)*HP.AA b (o+k) (AD ys++L.drop (k+(AD ys).length)):=by
    rw [F_,HP.E3,e2,hfl]
   rw [e3];rw [Nat.mul_one]at k2
   first|exact k2|(rw [Nat.add_comm]at k2;exact k2)
 obtain⟨w',k1,k2⟩:=hw2
 have hrun:(execOp a.eval ⟨d,.call ⟨.builtin .copy,#[x,y],#[sT,xT]⟩,ty,pos,af,g⟩).run P w=.ok (.value (.int .i64 (ys.length:Nat))) w':=by
  simp only [execOp,resolve,List.map_toArray,List.map_cons,List.map_nil,h1.ev hx,h1.ev hy,C!,C_,B_,invoke,builtin];simp only [Builtin.copy_];simp only [List.getElem?_toArray,List.getElem?_cons_zero,List.getElem?_cons_succ,Bh hT.get,Builtin.lenOf,C!,C_,B_,hm2,hz.get,hf,pure_bind,goInt]
  cases p with
  |none=>simp only [C_]at k1;cases k1;rfl
  |some q=>simp only [C!,k1,B_];rfl
 simp only [Oper.wp,hrun,Oper.upon];exact hk _ _ _ Ba k2
theorem Z4{k:IntKind}{i j:Int}(hx:ev E x=some (.int k i))(hy:ev E y=some (.int k j)):Aa P B n ⟨d,.call ⟨.builtin .max,#[x,y],#[T,T']⟩,ty,pos,af,g⟩ E H (.int k (if i<j then j else i)):=by
 intro a w he _;simp [execOp,he.ev hx,he.ev hy,resolve,invoke,builtin,Builtin.max_,Builtin.max2]
theorem hB{e sz:Nat}[hT:Ar P T (.slice e)][hz:Bg P e sz]:
  CE P B n ⟨d,.buildSlice T 0 #[],ty,pos,af,g⟩ E D H (fun v H'=>∃b,v=.slice (some ⟨b,0,none⟩) 0 0∧H'=AB b 0 ([]:List UInt8) []*H):=by
 intro a w h1 _ h3 K Q hk
 have hrun:(execOp a.eval ⟨d,.buildSlice T 0 #[],ty,pos,af,g⟩).run P w=.ok (.value (.slice (some ⟨w.heap.size,0,none⟩) 0 0)) (w.alloc (.cells #[] e)):=by
  simp [execOp,Instr.buildSlice,Bh hT.get,hz.get,Instr.fill,newRow]
  have:Array.map (fun _=>(default:Value)) (Array.range 0)= #[]:=by simp
  rw [this]
 simp only [Oper.wp,hrun,Oper.upon];refine hk _ _ _ ⟨w.heap.size,rfl,rfl⟩ ?_
 have:=h3.alloc #[] e
 rw [GU,HP.BH];exact this.right
end
end
section
variable{B:World}
theorem eN(d:ByteArray)(l h n dl:Nat)(hl:l≤h)(hh:h≤d.size)(hn:n=h-l)(hd:n≤dl):(d.data.toList.drop l).take n=(d.extract l h).data.toList.take (min (d.extract l h).size dl):=by
 have hsz:(d.extract l h).size=n:=by rw [ByteArray.size_extract];omega
 rw [hsz,Nat.min_eq_left hd,iY,K_,List.take_take,hn,Nat.min_self]
structure Ni where
 n:Nat
 lo:Nat
 b:List UInt8
 AE:BE
 ca:Bu
set_option maxHeartbeats 4000000 in
theorem kM(b o t AF:Nat)(rm:DV)(r:RF)(R:HP)(hok:rm.ok)(hr:FG AF t rm.r)(hw:AF≤1024)(hf:Ir r.f)(hk5:r.f.kind=5)(hb:rm.r.given=false→r.f.offset+r.f.data.size≤rm.r.read+AF)(ht:t<1000000):
  Fn Tryz.prog B 184 [ptr b o,.agg (AJ r).toArray] (HP.AA b o (DM rm)*(B' rm*R))
   (fun v H'=>∃rm2:DV,rm2.ok∧rm2.r=(rm.r.data r.f).2∧v=iN (rm.r.data r.f).1∧H'=HP.AA b o (DM rm2)*(B' rm2*R)):=by
 refine mI Tryz.func184 ?_;have hl:=hr.len;have hrh:=hr.rh;have hhw:=hr.hw;have hrt:=hr.rt;have hoff:=hf.2.2.2.1;have hoe:=hf.2.2.2.2.1 hk5;refine Ky ?_;rintro _ _ ⟨b3,rfl,rfl⟩;refine FN ?_;refine J9 ?_;refine JL FC ?_;refine JL JB ?_;refine J7 ?_;refine CR (α:=Unit) (fun _=>[(15,.bool (decide (rm.r.ended=true∧(rm.r.end_<(r.f.offset+r.f.data.size)∨r.f.fin=true∧(r.f.offset+r.f.data.size)≠rm.r.end_)))),(0,ptr b o),(3,ptr b3 0),(5,uN (r.f.offset+r.f.data.size))]) (fun _=>HP.AA b3 0 (AJ r)*(HP.AA b o (DM rm)*(B' rm*R))) (fun _=>True) ?_ ?_
 ·refine J6 ?_;refine DA 20 rfl (fun hg1=>?_) (fun hg1=>?_)
  ·have he:rm.r.ended=true:=hg1;refine Ho ?_;refine J1 ?_;refine Ho ?_;refine JL Hc ?_;refine K6 ?_;refine D8 27 rfl (fun hg2=>?_) (fun hg2=>?_)
   ·have hgt:rm.r.end_<(r.f.offset+r.f.data.size):=hg2;refine JH T2 ?_;refine JH T2 ?_;refine JH T2 ?_;refine Rh ?_;refine GV ?_;refine JH T2 ?_;refine Hi ?_;refine JL Ht ?_;refine Jt ?_;refine A8 () trivial (.cons ?_ Du) rfl;refine Et ?_;congr 2
    first
     |exact(decide_eq_false (fun h=>A! (he.symm.trans h.1))).symm
     |exact(decide_eq_true ⟨he,.inl hgt⟩).symm
     |exact decide_eq_decide.2 ⟨fun h=>⟨he,.inr ⟨hfn,h⟩⟩,fun h=>h.2.elim (fun h=>absurd h hgt) (fun h=>h.2)⟩
     |exact(decide_eq_false (fun h=>h.2.elim (fun h=>absurd h hgt) (fun h=>A! (hfn.symm.trans h.1)))).symm
   have hgt:¬rm.r.end_<(r.f.offset+r.f.data.size):=hg2;refine ZI ?_;refine J1 ?_;refine JG F2 ?_;refine J1 ?_;refine DA 30 rfl (fun hg3=>?_) (fun hg3=>?_)
   ·have hfn:r.f.fin=true:=hg3;refine OJ ?_;refine J1 ?_;refine OJ ?_;refine JL (GE rfl rfl) ?_;refine JG F2 ?_;refine JL OY ?_;refine Hi ?_;refine JL HK ?_;refine Jt ?_;refine A8 () trivial (.cons ?_ Du) rfl;refine Et ?_;congr 2
    first
     |exact(decide_eq_false (fun h=>A! (he.symm.trans h.1))).symm
     |exact(decide_eq_true ⟨he,.inl hgt⟩).symm
     |exact decide_eq_decide.2 ⟨fun h=>⟨he,.inr ⟨hfn,h⟩⟩,fun h=>h.2.elim (fun h=>absurd h hgt) (fun h=>h.2)⟩
     |exact(decide_eq_false (fun h=>h.2.elim (fun h=>absurd h hgt) (fun h=>A! (hfn.symm.trans h.1)))).symm
   have hfn:r.f.fin=false:=hg3;refine Oe ?_;refine Oe ?_;refine JG F2 ?_;refine JL KF ?_;refine Hi ?_;refine JL HK ?_;refine Jt ?_;refine A8 () trivial (.cons ?_ Du) rfl;refine Et ?_;congr 2
   first
    |exact(decide_eq_false (fun h=>A! (he.symm.trans h.1))).symm
    |exact(decide_eq_true ⟨he,.inl hgt⟩).symm
    |exact decide_eq_decide.2 ⟨fun h=>⟨he,.inr ⟨hfn,h⟩⟩,fun h=>h.2.elim (fun h=>absurd h hgt) (fun h=>h.2)⟩
    |exact(decide_eq_false (fun h=>h.2.elim (fun h=>absurd h hgt) (fun h=>A! (hfn.symm.trans h.1)))).symm
  have he:rm.r.ended=false:=hg1;refine Ha ?_;refine Ha ?_;refine HW ?_;refine Rh ?_;refine Rh ?_;refine HW ?_;refine Iz ?_;refine A8 () trivial (.cons ?_ Du) rfl;refine Et ?_;congr 2
  first
   |exact(decide_eq_false (fun h=>A! (he.symm.trans h.1))).symm
   |exact(decide_eq_true ⟨he,.inl hgt⟩).symm
   |exact decide_eq_decide.2 ⟨fun h=>⟨he,.inr ⟨hfn,h⟩⟩,fun h=>h.2.elim (fun h=>absurd h hgt) (fun h=>h.2)⟩
   |exact(decide_eq_false (fun h=>h.2.elim (fun h=>absurd h hgt) (fun h=>A! (hfn.symm.trans h.1)))).symm
 ·rintro _ _;refine J1 ?_;refine CR (α:=Unit) (fun _=>[(15,.bool (decide (LO rm.r.ended rm.r.end_ rm.r.high r.f))),(0,ptr b o),(3,ptr b3 0),(5,uN (r.f.offset+r.f.data.size))]) (fun _=>HP.AA b3 0 (AJ r)*(HP.AA b o (DM rm)*(B' rm*R))) (fun _=>True) ?_ ?_
  ·refine mC (fun h15=>?_) (fun h15=>?_)
   ·refine J1 ?_;exact A8 () trivial (.cons (by show some (Value.bool _)=some (Value.bool _);congr 2;exact((decide_eq_true h15).trans (decide_eq_true (.inl h15)).symm)) Du) rfl
   refine CR (α:=Unit) (fun _=>[(15,.bool (decide (r.f.fin=true∧(r.f.offset+r.f.data.size)<rm.r.high))),(0,ptr b o),(3,ptr b3 0),(5,uN (r.f.offset+r.f.data.size))]) (fun _=>HP.AA b3 0 (AJ r)*(HP.AA b o (DM rm)*(B' rm*R))) (fun _=>True) ?_ ?_
   ·refine J4 ?_;refine DA 42 rfl (fun hg4=>?_) (fun hg4=>?_)
    ·have hfn:r.f.fin=true:=hg4;refine SQ ?_;refine J1 ?_;refine SQ ?_;refine J1 ?_;refine JL (Fy hg4 rfl rfl) ?_;refine J2 ?_;refine A8 () trivial (.cons ?_ Du) rfl;refine Et ?_;congr 2
     first
      |exact decide_eq_decide.2 ⟨fun h=>⟨hfn,h⟩,fun h=>h.2⟩
      |exact(decide_eq_false (fun h=>A! (hfn.symm.trans h.1))).symm
    have hfn:r.f.fin=false:=hg4;refine TB ?_;refine TB ?_;refine JL (GW hg4 rfl rfl) ?_;refine J2 ?_;refine A8 () trivial (.cons ?_ Du) rfl;refine Et ?_;congr 2
    first
     |exact decide_eq_decide.2 ⟨fun h=>⟨hfn,h⟩,fun h=>h.2⟩
     |exact(decide_eq_false (fun h=>A! (hfn.symm.trans h.1))).symm
   ·rintro _ _;exact A8 () trivial (.cons (by show some (Value.bool _)=some (Value.bool _);congr 2;exact decide_eq_decide.2 ⟨.inr,fun h=>h.resolve_left h15⟩) Du) rfl
  ·rintro _ _;refine J1 ?_;refine mC (fun hbad=>?_) (fun hbad=>?_)
   ·refine J2 ?_;refine JL aR ?_;refine J5 ?_;exact mR [4] (HP.AA b o (DM rm)*(B' rm*R)) rfl rfl ⟨rm,hok,by unfold Bb.data;rw [if_pos hbad],by unfold Bb.data;rw [if_pos hbad];rfl,rfl⟩
   refine J9 ?_;refine mc (fun h50=>?_) (fun h50=>?_)
   ·refine Gv ?_;refine J5 ?_;exact mR [4] (HP.AA b o (DM rm)*(B' rm*R)) rfl rfl ⟨rm,hok,by unfold Bb.data;rw [if_neg hbad,if_pos h50],by unfold Bb.data;rw [if_neg hbad,if_pos h50];rfl,rfl⟩
   refine J4 ?_;have hb2:=hb h50;have hl2:=hl h50;refine Ao (H':=HP.AA b o (DM rm)*(AB rm.a.b rm.a.o rm.r.b rm.a.s*(HP.AA b3 0 (AJ r)*(AS rm.cq rm.ca rm.r.AE*R)))) (by unfold B';ac_rfl) ?_;refine J7 ?_;refine JL Jo ?_;refine DH ?_;refine CR (α:=Unit) (fun _=>[(0,ptr b o),(3,ptr b3 0),(5,uN (r.f.offset+r.f.data.size))]) (fun _=>AB rm.a.b rm.a.o (rm.r.b++A_ 0 0) rm.a.s*(HP.AA b o [.slice rm.a.p (rm.r.b++A_ 0 (0:UInt8)).length rm.a.c,ptr rm.cq 0,uN (max rm.r.high (r.f.offset+r.f.data.size)),uN (if r.f.fin then(r.f.offset+r.f.data.size)else rm.r.end_),.bool (rm.r.ended||r.f.fin),.bool rm.r.given,uN rm.r.code,uN rm.r.read,iN rm.r.state]*(HP.AA b3 0 (AJ r)*(AS rm.cq rm.ca rm.r.AE*R)))) (fun _=>True) ?_ ?_
   ·refine mc (fun h65=>?_) (fun h65=>?_)
    ·refine Bq ?_;exact A8 () trivial Du (by rw [h65];show _=AB rm.a.b rm.a.o (rm.r.b++A_ 0 0) rm.a.s*(HP.AA b o [.slice rm.a.p (rm.r.b++A_ 0 (0:UInt8)).length rm.a.c,ptr rm.cq 0,uN (max rm.r.high (r.f.offset+r.f.data.size)),uN (r.f.offset+r.f.data.size),.bool (rm.r.ended||true),.bool rm.r.given,uN rm.r.code,uN rm.r.read,iN rm.r.state]*_);rw [D!,H_,Bool.or_true];ac_rfl)
    refine J1 ?_;exact A8 () trivial Du (by rw [h65];show _=AB rm.a.b rm.a.o (rm.r.b++A_ 0 0) rm.a.s*(HP.AA b o [.slice rm.a.p (rm.r.b++A_ 0 (0:UInt8)).length rm.a.c,ptr rm.cq 0,uN (max rm.r.high (r.f.offset+r.f.data.size)),uN rm.r.end_,.bool (rm.r.ended||false),.bool rm.r.given,uN rm.r.code,uN rm.r.read,iN rm.r.state]*_);rw [D!,H_,Bool.or_false];ac_rfl)
   ·rintro _ _;refine J3 ?_;refine Bk (α:=Nat×Az) (fun z=>[(0,ptr b o),(3,ptr b3 0),(5,uN (r.f.offset+r.f.data.size))]) (fun z=>AB z.2.b z.2.o (rm.r.b++A_ z.1 0) z.2.s*(HP.AA b o [.slice z.2.p (rm.r.b++A_ z.1 (0:UInt8)).length z.2.c,ptr rm.cq 0,uN (max rm.r.high (r.f.offset+r.f.data.size)),uN (if r.f.fin then(r.f.offset+r.f.data.size)else rm.r.end_),.bool (rm.r.ended||r.f.fin),.bool rm.r.given,uN rm.r.code,uN rm.r.read,iN rm.r.state]*(HP.AA b3 0 (AJ r)*(AS rm.cq rm.ca rm.r.AE*R)))) (fun z=>z.1≤((max rm.r.high (r.f.offset+r.f.data.size))-(rm.r.read+rm.r.b.length))∧z.2.ok (rm.r.b++A_ z.1 (0:UInt8))) (fun z=>((max rm.r.high (r.f.offset+r.f.data.size))-(rm.r.read+rm.r.b.length))-z.1) (0,rm.a) ⟨Nat.zero_le _,by show Az.ok rm.a (rm.r.b++A_ 0 (0:UInt8));rw [D!,H_];exact hok.1⟩ Du rfl ?_;rintro⟨nz,a1⟩ ⟨hnz,ha1⟩;dsimp only at hnz ha1⊢
    have hbl:(rm.r.b++A_ nz (0:UInt8)).length=rm.r.b.length+nz:=by rw [E!,H!]
    refine J2 ?_;refine US ?_;refine JT 10 rfl JB ?_;refine P5 ?_;refine JT 15 rfl M6 ?_;refine Ei ?_;refine mC (fun h88=>?_) (fun h88=>?_)
    ·skip
     have erep:rm.r.b++A_ nz (0:UInt8)++[0]=rm.r.b++A_ (nz+1) 0:=by rw [List.replicate_succ',F_]
     refine J9 ?_;refine Af (GZ (cs:=[u8 0]) rfl Cp rfl rfl) rfl ?_;rintro _ _ ⟨b94,rfl,rfl⟩;refine BF (H':=AB a1.b a1.o (rm.r.b++A_ nz 0) a1.s*(HP.AA b94 0 (AD [(0:UInt8)])*(HP.AA b o [.slice a1.p (rm.r.b++A_ nz (0:UInt8)).length a1.c,ptr rm.cq 0,uN (max rm.r.high (r.f.offset+r.f.data.size)),uN (if r.f.fin then(r.f.offset+r.f.data.size)else rm.r.end_),.bool (rm.r.ended||r.f.fin),.bool rm.r.given,uN rm.r.code,uN rm.r.read,iN rm.r.state]*(HP.AA b3 0 (AJ r)*(AS rm.cq rm.ca rm.r.AE*R))))) (by show HP.AA b94 0 _*_=_;ac_rfl) ?_;refine Af (CS (ys:=[(0:UInt8)]) (bb:=b94) (oo:=0) (cc:=1) rfl ha1.1 ha1.2 rfl CB inferInstance rfl Cm Ca) rfl ?_;rintro _ _ ⟨p95,b95,o95,c95,s95,rfl,hs95,hc95,rfl⟩;refine J5 ?_
     refine Dl (H':=HP.AA b94 0 (AD [(0:UInt8)])*(AB (⟨p95,b95,o95,c95,s95⟩:Az).b (⟨p95,b95,o95,c95,s95⟩:Az).o (rm.r.b++A_ (nz+1) 0) (⟨p95,b95,o95,c95,s95⟩:Az).s*(HP.AA b o [.slice (⟨p95,b95,o95,c95,s95⟩:Az).p (rm.r.b++A_ (nz+1) (0:UInt8)).length (⟨p95,b95,o95,c95,s95⟩:Az).c,ptr rm.cq 0,uN (max rm.r.high (r.f.offset+r.f.data.size)),uN (if r.f.fin then(r.f.offset+r.f.data.size)else rm.r.end_),.bool (rm.r.ended||r.f.fin),.bool rm.r.given,uN rm.r.code,uN rm.r.read,iN rm.r.state]*(HP.AA b3 0 (AJ r)*(AS rm.cq rm.ca rm.r.AE*R))))) (by dsimp only;rw [←erep];ac_rfl) ?_;refine Bf (AB (⟨p95,b95,o95,c95,s95⟩:Az).b (⟨p95,b95,o95,c95,s95⟩:Az).o (rm.r.b++A_ (nz+1) 0) (⟨p95,b95,o95,c95,s95⟩:Az).s*(HP.AA b o [.slice (⟨p95,b95,o95,c95,s95⟩:Az).p (rm.r.b++A_ (nz+1) (0:UInt8)).length (⟨p95,b95,o95,c95,s95⟩:Az).c,ptr rm.cq 0,uN (max rm.r.high (r.f.offset+r.f.data.size)),uN (if r.f.fin then(r.f.offset+r.f.data.size)else rm.r.end_),.bool (rm.r.ended||r.f.fin),.bool rm.r.given,uN rm.r.code,uN rm.r.read,iN rm.r.state]*(HP.AA b3 0 (AJ r)*(AS rm.cq rm.ca rm.r.AE*R)))) ?_
     exact BW (nz+1,(⟨p95,b95,o95,c95,s95⟩:Az)) ⟨by show nz+1≤_;omega,by show Az.ok _ (rm.r.b++A_ (nz+1) (0:UInt8));rw [←erep];exact⟨hs95,hc95⟩⟩ (by show((max rm.r.high (r.f.offset+r.f.data.size))-(rm.r.read+rm.r.b.length))-(nz+1)<((max rm.r.high (r.f.offset+r.f.data.size))-(rm.r.read+rm.r.b.length))-nz;omega) Du rfl
    refine J7 ?_
    obtain rfl:nz=((max rm.r.high (r.f.offset+r.f.data.size))-(rm.r.read+rm.r.b.length)):=by omega
    refine Ao (H':=AS rm.cq rm.ca rm.r.AE*(HP.AA a1.b a1.o (AD (rm.r.b++A_ ((max rm.r.high (r.f.offset+r.f.data.size))-(rm.r.read+rm.r.b.length)) 0)++a1.s)*(HP.AA b o [.slice a1.p (rm.r.b++A_ ((max rm.r.high (r.f.offset+r.f.data.size))-(rm.r.read+rm.r.b.length)) 0).length a1.c,ptr rm.cq 0,uN (max rm.r.high (r.f.offset+r.f.data.size)),uN (if r.f.fin then(r.f.offset+r.f.data.size)else rm.r.end_),.bool (rm.r.ended||r.f.fin),.bool rm.r.given,uN rm.r.code,uN rm.r.read,iN rm.r.state]*(HP.AA b3 0 (AJ r)*R)))) OM ?_;refine mA 8 8 ?_;refine IV ?_;refine Jm 2 ?_;refine Jn 3 ?_;refine I2 ?_;refine JT 6 rfl Jo ?_;refine Ja 7 ?_;refine DO ?_
    refine Bk (α:=Ni) (fun z=>[(6,uN z.lo),(0,ptr b o),(3,ptr b3 0),(5,uN (r.f.offset+r.f.data.size))]) (fun z=>AS rm.cq z.ca z.AE*(HP.AA a1.b a1.o (AD z.b++a1.s)*(HP.AA b o [.slice a1.p (rm.r.b++A_ ((max rm.r.high (r.f.offset+r.f.data.size))-(rm.r.read+rm.r.b.length)) 0).length a1.c,ptr rm.cq 0,uN (max rm.r.high (r.f.offset+r.f.data.size)),uN (if r.f.fin then(r.f.offset+r.f.data.size)else rm.r.end_),.bool (rm.r.ended||r.f.fin),.bool rm.r.given,uN rm.r.code,uN rm.r.read,iN rm.r.state]*(HP.AA b3 0 (AJ r)*R)))) (fun z=>Fj z.n r.f.offset (r.f.offset+r.f.data.size) r.f.data.data.toList rm.r.read z.lo z.b z.AE=rm.r.filled r.f∧(r.f.offset+r.f.data.size)-z.lo<z.n∧r.f.offset≤z.lo∧rm.r.read≤z.lo∧z.lo<9000000000000000000∧z.b.length=(rm.r.b++A_ ((max rm.r.high (r.f.offset+r.f.data.size))-(rm.r.read+rm.r.b.length)) 0).length∧(C5 z.AE (max rm.r.high (r.f.offset+r.f.data.size))∧z.AE.floor=0∧z.AE.AL=4096)∧(∀n,n<rm.r.read→BB n z.AE.l)∧z.ca.ok z.AE) (fun z=>z.n) ⟨(r.f.offset+r.f.data.size)+1,max r.f.offset rm.r.read,(rm.r.b++A_ ((max rm.r.high (r.f.offset+r.f.data.size))-(rm.r.read+rm.r.b.length)) 0),rm.r.AE,rm.ca⟩ ⟨rfl,by show(r.f.offset+r.f.data.size)-max r.f.offset rm.r.read<(r.f.offset+r.f.data.size)+1;omega,Nat.le_max_left _ _,Nat.le_max_right _ _,by show max r.f.offset rm.r.read<_;omega,rfl,⟨hr.co.mono OT,hr.cf,hr.cm⟩,hr.pre,hok.2⟩ IK rfl ?_
    rintro z ⟨z1,z2,z3,z4,z5,z6,z7,z8,z9⟩
    have hb1l:(rm.r.b++A_ ((max rm.r.high (r.f.offset+r.f.data.size))-(rm.r.read+rm.r.b.length)) 0).length=(max rm.r.high (r.f.offset+r.f.data.size))-rm.r.read:=by rw [E!,H!];omega
    have hcl:=RA z7.1.inc z8 z7.1.hi (by omega:(max rm.r.high (r.f.offset+r.f.data.size))≤rm.r.read+1024);refine J8 ?_;refine mC (fun h107=>?_) (fun h107=>?_)
    ·obtain⟨ga,gb,gc,gd,ge⟩:=H9 z.AE.l z.lo (r.f.offset+r.f.data.size) z7.1.inc Ca;refine J5 ?_;refine GR ?_;refine Bq ?_;refine mE rfl (OX rm.cq z.lo (r.f.offset+r.f.data.size) (max rm.r.high (r.f.offset+r.f.data.size)) z.ca z.AE _ z9 z7.1 Ca Ca) ?_;refine JR ?_;refine Bq ?_;refine JL Ka ?_;refine J2 ?_;refine mC (fun hgx=>?_) (fun hgx=>?_)
     ·skip
      have hstop:Fj z.n r.f.offset (r.f.offset+r.f.data.size) r.f.data.data.toList rm.r.read z.lo z.b z.AE=(z.b,z.AE):=by
       obtain⟨nn,hnn⟩:∃nn,z.n=nn+1:=⟨z.n-1,Ca⟩
       rw [hnn,Fj];simp only [h107,if_true,hgx]
      refine J8 ?_;refine Fq ?_
      have hfin:rm.r.filled r.f=(z.b,z.AE):=by rw [←z1,hstop]
      have ewr:rm.r.data r.f=(0,rm.r.Hh r.f):=by unfold Bb.data;rw [if_neg hbad,if_neg (by rw [h50];simp)]
      obtain⟨rm2,hrm2⟩:∃rm2:DV,rm2=⟨rm.r.Hh r.f,a1,rm.cq,z.ca⟩:=Be
      have hdo:rm.r.Hh r.f={rm.r with high:=(max rm.r.high (r.f.offset+r.f.data.size)),ended:=(rm.r.ended||r.f.fin),end_:=(if r.f.fin then(r.f.offset+r.f.data.size)else rm.r.end_),b:=z.b,AE:=z.AE}:=by unfold Bb.Hh;rw [hfin]
      exact mR [4] (HP.AA b o (DM rm2)*(B' rm2*R)) (hE:=⟨fun ww hw=>Sat.right (A:=HP.AA b3 0 (AJ r)) (C? (by
       congr 1
       rw [hrm2,hdo]
       unfold B' AB
       refine YU ?_
       rw [z6]
       ac_rfl) hw)⟩) rfl rfl ⟨rm2,Z9,by rw [hrm2,ewr],Cq,rfl⟩
     have hglt:(AQ z.lo (r.f.offset+r.f.data.size) z.AE.l).1<(AQ z.lo (r.f.offset+r.f.data.size) z.AE.l).2:=by
      rcases Nat.lt_or_ge (AQ z.lo (r.f.offset+r.f.data.size) z.AE.l).1 (AQ z.lo (r.f.offset+r.f.data.size) z.AE.l).2 with h|h
      ·exact h
      ·exact absurd (ge h) hgx
     have hdl:((r.f.data.data.toList.drop ((AQ z.lo (r.f.offset+r.f.data.size) z.AE.l).1-r.f.offset)).take ((AQ z.lo (r.f.offset+r.f.data.size) z.AE.l).2-(AQ z.lo (r.f.offset+r.f.data.size) z.AE.l).1)).length=(AQ z.lo (r.f.offset+r.f.data.size) z.AE.l).2-(AQ z.lo (r.f.offset+r.f.data.size) z.AE.l).1:=by
      rw [D_,J_,Sz];omega
     have hzb:z.b.length=(max rm.r.high (r.f.offset+r.f.data.size))-rm.r.read:=z6.trans hb1l
     have hcap:(max rm.r.high (r.f.offset+r.f.data.size))-rm.r.read≤a1.c:=by have:=ha1.1.2;rw [hb1l]at this;exact this
     have hfl:(AD z.b++a1.s).length=a1.c:=by rw [E!,Bl,z6];have:=ha1.2;simp only [P6,Nat.mul_one]at this⊢;omega
     refine J3 ?_;refine Ao (H':=HP.AA a1.b a1.o (AD z.b++a1.s)*(AS rm.cq z.ca z.AE*(HP.AA b o [.slice a1.p (rm.r.b++A_ ((max rm.r.high (r.f.offset+r.f.data.size))-(rm.r.read+rm.r.b.length)) 0).length a1.c,ptr rm.cq 0,uN (max rm.r.high (r.f.offset+r.f.data.size)),uN (if r.f.fin then(r.f.offset+r.f.data.size)else rm.r.end_),.bool (rm.r.ended||r.f.fin),.bool rm.r.given,uN rm.r.code,uN rm.r.read,iN rm.r.state]*(HP.AA b3 0 (AJ r)*R)))) Cf ?_;refine mA 28 29 ?_;refine MJ ?_;refine Jm 5 ?_;refine LG ?_;refine JT 9 rfl G5 ?_;refine Jm 10 ?_;refine P5 ?_;refine JT 15 rfl G5 ?_;refine JT 16 rfl (M4 rfl rfl rfl Ca) ?_;refine Jf 17 ?_;refine Jd 18 ?_;refine Jm 19 ?_;refine Jf 20 ?_;refine Jd 21 ?_;refine JT 22 rfl G5 ?_;refine Jm 23 ?_;refine Jf 24 ?_;refine Jd 25 ?_;refine JT 26 rfl G5 ?_;refine JT 27 rfl (Y0 rfl rfl rfl Ca) ?_
     refine An 28 Cb rfl rfl (nQ (b:=a1.b) (o:=a1.o) (k:=(AQ z.lo (r.f.offset+r.f.data.size) z.AE.l).1-rm.r.read) (ys:=(r.f.data.data.toList.drop ((AQ z.lo (r.f.offset+r.f.data.size) z.AE.l).1-r.f.offset)).take ((AQ z.lo (r.f.offset+r.f.data.size) z.AE.l).2-(AQ z.lo (r.f.offset+r.f.data.size) z.AE.l).1)) rfl (EZ ha1.1 Ca Ca rfl) rfl (eN r.f.data _ _ _ _ Ca (by have:=Sz r.f;omega) Ca Ca) (by rw [hfl];omega)) ?_;refine Jy ?_
     have eput:(AD z.b++a1.s).take ((AQ z.lo (r.f.offset+r.f.data.size) z.AE.l).1-rm.r.read)++AD ((r.f.data.data.toList.drop ((AQ z.lo (r.f.offset+r.f.data.size) z.AE.l).1-r.f.offset)).take ((AQ z.lo (r.f.offset+r.f.data.size) z.AE.l).2-(AQ z.lo (r.f.offset+r.f.data.size) z.AE.l).1))++(AD z.b++a1.s).drop ((AQ z.lo (r.f.offset+r.f.data.size) z.AE.l).1-rm.r.read+((r.f.data.data.toList.drop ((AQ z.lo (r.f.offset+r.f.data.size) z.AE.l).1-r.f.offset)).take ((AQ z.lo (r.f.offset+r.f.data.size) z.AE.l).2-(AQ z.lo (r.f.offset+r.f.data.size) z.AE.l).1)).length)=AD (GG z.b ((AQ z.lo (r.f.offset+r.f.data.size) z.AE.l).1-rm.r.read) ((r.f.data.data.toList.drop ((AQ z.lo (r.f.offset+r.f.data.size) z.AE.l).1-r.f.offset)).take ((AQ z.lo (r.f.offset+r.f.data.size) z.AE.l).2-(AQ z.lo (r.f.offset+r.f.data.size) z.AE.l).1)))++a1.s:=by
      have h3:=My z.b ((AQ z.lo (r.f.offset+r.f.data.size) z.AE.l).1-rm.r.read) a1.s Ca;have h4:=Qz z.b ((AQ z.lo (r.f.offset+r.f.data.size) z.AE.l).1-rm.r.read+((r.f.data.data.toList.drop ((AQ z.lo (r.f.offset+r.f.data.size) z.AE.l).1-r.f.offset)).take ((AQ z.lo (r.f.offset+r.f.data.size) z.AE.l).2-(AQ z.lo (r.f.offset+r.f.data.size) z.AE.l).1)).length) a1.s (by rw [hdl];omega);simp only [P6,Nat.mul_one]at h3 h4;rw [h3,h4];unfold GG;simp only [Ef,F_]
     refine Ao (H':=AS rm.cq z.ca z.AE*(HP.AA a1.b a1.o (AD (GG z.b ((AQ z.lo (r.f.offset+r.f.data.size) z.AE.l).1-rm.r.read) ((r.f.data.data.toList.drop ((AQ z.lo (r.f.offset+r.f.data.size) z.AE.l).1-r.f.offset)).take ((AQ z.lo (r.f.offset+r.f.data.size) z.AE.l).2-(AQ z.lo (r.f.offset+r.f.data.size) z.AE.l).1)))++a1.s)*(HP.AA b o [.slice a1.p (rm.r.b++A_ ((max rm.r.high (r.f.offset+r.f.data.size))-(rm.r.read+rm.r.b.length)) 0).length a1.c,ptr rm.cq 0,uN (max rm.r.high (r.f.offset+r.f.data.size)),uN (if r.f.fin then(r.f.offset+r.f.data.size)else rm.r.end_),.bool (rm.r.ended||r.f.fin),.bool rm.r.given,uN rm.r.code,uN rm.r.read,iN rm.r.state]*(HP.AA b3 0 (AJ r)*R)))) (by rw [←eput];ac_rfl) ?_;refine J7 ?_;refine JL Nv ?_;refine mE rfl (Jl rm.cq _ _ (max rm.r.high (r.f.offset+r.f.data.size)) z.ca z.AE _ z9 z7.1 Ca Ca (by rw [z7.2.2];omega) (by rw [z7.2.2];omega)) ?_;rintro _ _ ⟨a157,hs157,rfl⟩;refine J7 ?_;obtain⟨f1,f2,f3,f4⟩:=V0 (lo:=(AQ z.lo (r.f.offset+r.f.data.size) z.AE.l).1) (hi:=(AQ z.lo (r.f.offset+r.f.data.size) z.AE.l).2-1) z7.1 z7.2.1 z7.2.2 Ca Ca Ca
     refine Dl (H':=AS rm.cq (⟨z.n-1,(AQ z.lo (r.f.offset+r.f.data.size) z.AE.l).2,GG z.b ((AQ z.lo (r.f.offset+r.f.data.size) z.AE.l).1-rm.r.read) ((r.f.data.data.toList.drop ((AQ z.lo (r.f.offset+r.f.data.size) z.AE.l).1-r.f.offset)).take ((AQ z.lo (r.f.offset+r.f.data.size) z.AE.l).2-(AQ z.lo (r.f.offset+r.f.data.size) z.AE.l).1)),z.AE.add (AQ z.lo (r.f.offset+r.f.data.size) z.AE.l).1 ((AQ z.lo (r.f.offset+r.f.data.size) z.AE.l).2-1),a157⟩:Ni).ca (⟨z.n-1,(AQ z.lo (r.f.offset+r.f.data.size) z.AE.l).2,GG z.b ((AQ z.lo (r.f.offset+r.f.data.size) z.AE.l).1-rm.r.read) ((r.f.data.data.toList.drop ((AQ z.lo (r.f.offset+r.f.data.size) z.AE.l).1-r.f.offset)).take ((AQ z.lo (r.f.offset+r.f.data.size) z.AE.l).2-(AQ z.lo (r.f.offset+r.f.data.size) z.AE.l).1)),z.AE.add (AQ z.lo (r.f.offset+r.f.data.size) z.AE.l).1 ((AQ z.lo (r.f.offset+r.f.data.size) z.AE.l).2-1),a157⟩:Ni).AE*(HP.AA a1.b a1.o (AD (⟨z.n-1,(AQ z.lo (r.f.offset+r.f.data.size) z.AE.l).2,GG z.b ((AQ z.lo (r.f.offset+r.f.data.size) z.AE.l).1-rm.r.read) ((r.f.data.data.toList.drop ((AQ z.lo (r.f.offset+r.f.data.size) z.AE.l).1-r.f.offset)).take ((AQ z.lo (r.f.offset+r.f.data.size) z.AE.l).2-(AQ z.lo (r.f.offset+r.f.data.size) z.AE.l).1)),z.AE.add (AQ z.lo (r.f.offset+r.f.data.size) z.AE.l).1 ((AQ z.lo (r.f.offset+r.f.data.size) z.AE.l).2-1),a157⟩:Ni).b++a1.s)*(HP.AA b o [.slice a1.p (rm.r.b++A_ ((max rm.r.high (r.f.offset+r.f.data.size))-(rm.r.read+rm.r.b.length)) 0).length a1.c,ptr rm.cq 0,uN (max rm.r.high (r.f.offset+r.f.data.size)),uN (if r.f.fin then(r.f.offset+r.f.data.size)else rm.r.end_),.bool (rm.r.ended||r.f.fin),.bool rm.r.given,uN rm.r.code,uN rm.r.read,iN rm.r.state]*(HP.AA b3 0 (AJ r)*R)))) rfl ?_
     refine BW (⟨z.n-1,(AQ z.lo (r.f.offset+r.f.data.size) z.AE.l).2,GG z.b ((AQ z.lo (r.f.offset+r.f.data.size) z.AE.l).1-rm.r.read) ((r.f.data.data.toList.drop ((AQ z.lo (r.f.offset+r.f.data.size) z.AE.l).1-r.f.offset)).take ((AQ z.lo (r.f.offset+r.f.data.size) z.AE.l).2-(AQ z.lo (r.f.offset+r.f.data.size) z.AE.l).1)),z.AE.add (AQ z.lo (r.f.offset+r.f.data.size) z.AE.l).1 ((AQ z.lo (r.f.offset+r.f.data.size) z.AE.l).2-1),a157⟩:Ni) ⟨?_,?_,?_,?_,?_,?_,⟨f1,f2.trans rfl,f3⟩,fun n hn=>(f4 n).2 (.inr (z8 n hn)),hs157⟩ (by show z.n-1<z.n;omega) IK rfl
     ·obtain⟨nn,hnn⟩:∃nn,z.n=nn+1:=⟨z.n-1,Ca⟩
      rw [←z1,hnn,Fj];simp only [h107,if_true,hgx,if_false,Nat.add_sub_cancel]
     ·show(r.f.offset+r.f.data.size)-(AQ z.lo (r.f.offset+r.f.data.size) z.AE.l).2<z.n-1;omega
     ·show r.f.offset≤(AQ z.lo (r.f.offset+r.f.data.size) z.AE.l).2;omega
     ·show rm.r.read≤(AQ z.lo (r.f.offset+r.f.data.size) z.AE.l).2;omega
     ·show(AQ z.lo (r.f.offset+r.f.data.size) z.AE.l).2<_;omega
     ·show(GG _ _ _).length=_;rw [Ym (by rw [hdl];omega)];exact z6
    have hstop:Fj z.n r.f.offset (r.f.offset+r.f.data.size) r.f.data.data.toList rm.r.read z.lo z.b z.AE=(z.b,z.AE):=by
     cases z.n with
     |zero=>rfl
     |succ nn=>rw [Fj];simp only [h107,if_false]
    refine J7 ?_;refine Fq ?_
    have hfin:rm.r.filled r.f=(z.b,z.AE):=by rw [←z1,hstop]
    have ewr:rm.r.data r.f=(0,rm.r.Hh r.f):=by unfold Bb.data;rw [if_neg hbad,if_neg (by rw [h50];simp)]
    obtain⟨rm2,hrm2⟩:∃rm2:DV,rm2=⟨rm.r.Hh r.f,a1,rm.cq,z.ca⟩:=Be
    have hdo:rm.r.Hh r.f={rm.r with high:=(max rm.r.high (r.f.offset+r.f.data.size)),ended:=(rm.r.ended||r.f.fin),end_:=(if r.f.fin then(r.f.offset+r.f.data.size)else rm.r.end_),b:=z.b,AE:=z.AE}:=by unfold Bb.Hh;rw [hfin]
    exact mR [4] (HP.AA b o (DM rm2)*(B' rm2*R)) (hE:=⟨fun ww hw=>Sat.right (A:=HP.AA b3 0 (AJ r)) (C? (by
     congr 1
     rw [hrm2,hdo]
     unfold B' AB
     refine YU ?_
     rw [z6]
     ac_rfl) hw)⟩) rfl rfl ⟨rm2,Z9,by rw [hrm2,ewr],Cq,rfl⟩
def ET(m:Ac)(cb:Nat):HP:=AS m.x.gq m.ga m.AR*(A1 cb m.ws*C9 m)
theorem LJ(cb:Nat)(m:Ac)(R:HP)(j:Nat)(hj:j<m.rs.length):AY cb m*R=AP cb m.x*(HP.AA cb (0+83+j*9) (DM (m.rs.getD j AC.AH))*(B' (m.rs.getD j AC.AH)*(EC cb m.rs j*(ET m cb*R)))):=by
 unfold AY ET;rw [eB cb m.rs j hj];ac_rfl
theorem N'(cb:Nat)(m:Ac)(R:HP)(j:Nat)(hj:j<m.rs.length)(y:DV):AY cb (m.BQ j y)*R=AP cb m.x*(HP.AA cb (0+83+j*9) (DM y)*(B' y*(EC cb m.rs j*(ET m cb*R)))):=by
 unfold AY;show AP cb m.x*(AS m.x.gq m.ga m.AR*(A1 cb m.ws*(BS cb (m.rs.set j y)*C9 m)))*R=_;rw [jW cb m.rs j y hj];unfold ET;ac_rfl
set_option maxHeartbeats 4000000 in
theorem qF(cb t:Nat)(m:Ac)(r:RF)(R:HP)(hm:m.ok)(hi:AZ t m.s)(ht:t<1000000)(hf:Ir r.f)(hb:¬m.s.busy r.f)(hro:r.ok)(hrr:Ab B R r.b r.o r.f.ranges)(hrl:r.f.ranges.length<100000000):
  Fn Tryz.prog B 146 [ptr cb 0,.agg (AJ r).toArray] (AY cb m*R)
   (fun v H'=>∃m':Ac,m'.ok∧m'.s=(m.s.take r.f).2∧v=iN (m.s.take r.f).1∧H'=AY cb m'*R):=by
 refine mI Tryz.func146 ?_
 obtain⟨j,hst⟩:∃j:Nat,r.f.stream=(j:Int):=⟨_,(I_ hf.1).symm⟩
 have hj:j<4:=by have:=hf.2.1;omega
 have hjl:j<m.rs.length:=by rw [Ac.OB hi];exact hj
 have hrok:=Ac.RK hi hj;have hrm2:=hm.rs _ KJ
 have erj:m.s.r r.f.stream.toNat=(m.rs.getD j AC.AH).r:=by rw [hst,A?];exact m.O' j hjl
 have esj:r.f.stream.toNat=j:=by rw [hst,A?]
 refine Ky ?_;rintro _ _ ⟨b3,rfl,rfl⟩;refine Fq ?_;generalize hrm:m.rs.getD j AC.AH=rm at*;refine Ao (H':=HP.AA b3 0 (AJ r)*(HP.AA cb (0+83+j*9) (DM rm)*(B' rm*(AP cb m.x*(EC cb m.rs j*(ET m cb*R)))))) (by rw [LJ cb m R j hjl,hrm];show HP.AA b3 0 _*_=_;ac_rfl) ?_;refine mA 7 7 ?_;refine GF ?_;refine QO ?_;refine Ja 6 ?_;refine JD ?_;refine Bq ?_;refine JL (CT (j:=3) rfl rfl) ?_;refine J3 ?_;refine mC (fun hk3=>?_) (fun hk3=>?_)
 ·have hok3:=hf.2.2.2.2.2 hk3
  have hne3:0<r.f.ranges.length:=by
   rcases Nat.eq_zero_or_pos r.f.ranges.length with h|h
   ·exact absurd (B!.1 h) hok3.1
   ·exact h
  have hhi3:=(hok3.2 0 hne3).2.1;refine J5 ?_;refine BF (H':=AY cb m*(HP.AA b3 0 (AJ r)*R)) (by rw [LJ cb m _ j hjl,hrm];ac_rfl) ?_;have hrr3:=hrr;refine mE rfl (vY cb t m r.f.ranges r.p r.b r.o r.c _ hm hi ht hro inferInstance hne3 hrl Ca) ?_;rintro _ _ ⟨m2,hm2,hs2,rfl,rfl⟩;refine J6 ?_
  have ewr:m.s.take r.f=m.s.By r.f.ranges:=by unfold AG.take;rw [if_pos hk3]
  exact mR [4] (AY cb m2*R) (hE:=⟨fun ww hw=>Sat.right (A:=HP.AA b3 0 (AJ r)) (C? Cn hw)⟩) rfl rfl ⟨m2,hm2,by rw [ewr,hs2],Cq,rfl⟩
 refine J2 ?_;refine JL (CT (j:=4) rfl rfl) ?_;refine J3 ?_;refine mC (fun hk4=>?_) (fun hk4=>?_)
 ·refine J2 ?_;refine CR (α:=Unit) (fun _=>[(43,.bool (decide (rm.r.ended=true∧rm.r.end_≠r.f.offset∨r.f.offset<rm.r.high))),(5,ptr cb (0+83+j*9)),(3,ptr b3 0),(0,ptr cb 0)]) (fun _=>HP.AA b3 0 (AJ r)*(HP.AA cb (0+83+j*9) (DM rm)*(B' rm*(AP cb m.x*(EC cb m.rs j*(ET m cb*R)))))) (fun _=>True) ?_ ?_
  ·refine mA 22 22 ?_;refine MJ ?_;refine Lc 26 rfl (fun hg1=>?_) (fun hg1=>?_)
   ·have he:rm.r.ended=true:=hg1;refine JY 5 rfl hg1 BZ ?_;refine JY 6 rfl hg1 CJ ?_;refine JY 7 rfl hg1 BL ?_;refine JY 8 rfl hg1 BX ?_;refine JY 9 rfl hg1 BL ?_;refine JY 10 rfl hg1 BX ?_;refine JY 11 rfl hg1 (GE rfl rfl) ?_;refine JT 12 rfl JS ?_;refine Jm 13 ?_;refine GK 35 rfl (fun hg2=>?_) (fun hg2=>?_)
    ·have hne:rm.r.end_≠r.f.offset:=hg2;refine JN 14 rfl T2 ?_;refine JN 15 rfl T2 ?_;refine JN 16 rfl T2 ?_;refine JN 17 rfl T2 ?_;refine JN 18 rfl T2 ?_;refine JN 19 rfl T2 ?_;refine JN 20 rfl T2 ?_;refine JT 21 rfl Ht ?_;refine JD ?_;refine A8 () trivial (.cons ?_ EB) rfl;refine Et ?_;congr 2
     first
      |exact(decide_eq_true (.inl ⟨he,hne⟩)).symm
      |exact decide_eq_decide.2 ⟨.inr,fun h=>h.elim (fun h=>absurd h.2 hne) id⟩
      |exact decide_eq_decide.2 ⟨.inr,fun h=>h.elim (fun h=>absurd (he.symm.trans h.1) A!) id⟩
    have hne:¬rm.r.end_≠r.f.offset:=hg2;refine JY 14 rfl F2 BL ?_;refine JY 15 rfl F2 BX ?_;refine JY 16 rfl F2 BZ ?_;refine JY 17 rfl F2 CJ ?_;refine JY 18 rfl F2 BL ?_;refine JY 19 rfl F2 BX ?_;refine JY 20 rfl F2 M6 ?_;refine JT 21 rfl HK ?_;refine JD ?_;refine A8 () trivial (.cons ?_ EB) rfl;refine Et ?_;congr 2
    first
     |exact(decide_eq_true (.inl ⟨he,hne⟩)).symm
     |exact decide_eq_decide.2 ⟨.inr,fun h=>h.elim (fun h=>absurd h.2 hne) id⟩
     |exact decide_eq_decide.2 ⟨.inr,fun h=>h.elim (fun h=>absurd (he.symm.trans h.1) A!) id⟩
   have he:rm.r.ended=false:=hg1;refine JN 5 rfl hg1 ?_;refine Sm ?_;refine JN 11 rfl hg1 ?_;refine JT 12 rfl JC ?_;refine Jm 13 ?_;refine Ah 14 rfl Cb rfl rfl rfl rfl BL ?_;refine Ah 15 rfl Cb rfl rfl rfl rfl BX ?_;refine Ah 16 rfl Cb rfl rfl rfl rfl BZ ?_;refine Ah 17 rfl Cb rfl rfl rfl rfl CJ ?_;refine Ah 18 rfl Cb rfl rfl rfl rfl BL ?_;refine Ah 19 rfl Cb rfl rfl rfl rfl BX ?_;refine Ah 20 rfl Cb rfl rfl rfl rfl M6 ?_;refine JT 21 rfl EP ?_;refine JD ?_;refine A8 () trivial (.cons ?_ EB) rfl;refine Et ?_;congr 2
   first
    |exact(decide_eq_true (.inl ⟨he,hne⟩)).symm
    |exact decide_eq_decide.2 ⟨.inr,fun h=>h.elim (fun h=>absurd h.2 hne) id⟩
    |exact decide_eq_decide.2 ⟨.inr,fun h=>h.elim (fun h=>absurd (he.symm.trans h.1) A!) id⟩
  ·rintro _ _;refine J1 ?_;refine mC (fun h43=>?_) (fun h43=>?_)
   ·refine J2 ?_;refine JL aR ?_;refine J6 ?_
    have ewr:m.s.take r.f=(7,m.s):=by unfold AG.take;rw [if_neg hk3,if_pos hk4,erj,if_pos h43]
    exact Ri
   refine J9 ?_;refine Ij ?_;refine CR (α:=Unit) (fun _=>[(5,ptr cb (0+83+j*9)),(3,ptr b3 0),(0,ptr cb 0)]) (fun _=>HP.AA cb (0+83+j*9) [.slice rm.a.p rm.r.b.length rm.a.c,ptr rm.cq 0,uN rm.r.high,uN rm.r.end_,.bool rm.r.ended,.bool rm.r.given,uN (if rm.r.given then rm.r.code else r.f.code),uN rm.r.read,iN rm.r.state]*(HP.AA b3 0 (AJ r)*(B' rm*(AP cb m.x*(EC cb m.rs j*(ET m cb*R)))))) (fun _=>True) ?_ ?_
   ·refine mc (fun h48=>?_) (fun h48=>?_)
    ·refine J8 ?_;exact A8 () trivial EB (by have h9:rm.r.given=false:=(by simpa using h48);rw [h9];show _=HP.AA cb (0+83+j*9) [.slice rm.a.p rm.r.b.length rm.a.c,ptr rm.cq 0,uN rm.r.high,uN rm.r.end_,.bool rm.r.ended,.bool false,uN r.f.code,uN rm.r.read,iN rm.r.state]*_;rw [←h9];ac_rfl)
    refine J1 ?_;exact A8 () trivial EB (by have h9:rm.r.given=true:=(by simpa using h48);rw [if_pos h9];show HP.AA b3 0 _*(HP.AA cb (0+83+j*9) [.slice rm.a.p rm.r.b.length rm.a.c,ptr rm.cq 0,uN rm.r.high,uN rm.r.end_,.bool rm.r.ended,.bool rm.r.given,uN rm.r.code,uN rm.r.read,iN rm.r.state]*_)=_;ac_rfl)
   ·rintro _ _;refine J1 ?_;refine D5 (HP.AA b3 0 (AJ r)*(B' rm*(AP cb m.x*(EC cb m.rs j*(ET m cb*R))))) 13 14 EI rfl Cb ?_;refine EK ?_;refine Jm 2 ?_;refine Np ?_;refine I1 ?_;refine Jn 5 ?_;refine Jf 6 ?_;refine Db 7 Cb rfl Er ?_;refine FB ?_;refine Jn 8 ?_;refine Pe ?_;refine FB ?_;refine Jn 11 ?_;refine Jf 12 ?_;refine M0 ?_;refine DF ?_;refine J4 ?_;refine Fq ?_
    have ewr:m.s.take r.f=(0,m.s.BQ j {rm.r with code:=(if rm.r.given then rm.r.code else r.f.code),given:=true,ended:=true,end_:=r.f.offset}):=by unfold AG.take;rw [if_neg hk3,if_pos hk4,erj,if_neg h43,esj]
    obtain⟨rd2,hrd2⟩:∃rd2:DV,rd2={rm with r:={rm.r with code:=(if rm.r.given then rm.r.code else r.f.code),given:=true,ended:=true,end_:=r.f.offset}}:=Be
    exact mR [4] (AY cb (m.BQ j rd2)*R) (hE:=⟨fun ww hw=>Sat.right (A:=HP.AA b3 0 (AJ r)) (C? (by
     congr 1
     rw [N' cb m R j hjl,hrd2]
     show _=HP.AA b3 0 (AJ r)*(AP cb m.x*(HP.AA cb (0+83+j*9) [.slice rm.a.p rm.r.b.length rm.a.c,ptr rm.cq 0,uN rm.r.high,uN r.f.offset,.bool true,.bool true,uN (if rm.r.given then rm.r.code else r.f.code),uN rm.r.read,iN rm.r.state]*(B' rm*_)))
     ac_rfl) hw)⟩) rfl rfl ⟨m.BQ j rd2,hm.BQ (by rw [hrd2];exact hrm2),Ru,Cq,rfl⟩
 refine J2 ?_;refine JL O1 ?_;refine J3 ?_;refine mC (fun hk5=>?_) (fun hk5=>?_)
 ·refine J3 ?_;refine JL SS ?_;refine BF (H':=HP.AA cb (0+83+j*9) (DM rm)*(B' rm*(HP.AA b3 0 (AJ r)*(AP cb m.x*(EC cb m.rs j*(ET m cb*R)))))) Cf ?_;refine mE rfl (kM cb (0+83+j*9) t m.x.AF rm r _ hrm2 hrok hi.w2 hf hk5 (fun hg=>by rcases Nat.lt_or_ge (rm.r.read+m.x.AF) (r.f.offset+r.f.data.size)with h|h;exact absurd ⟨hk5,by rw [erj];exact hg,by rw [erj];exact h⟩ hb;exact h) ht) ?_;rintro _ _ ⟨rd2,hrd2,hrd2e,rfl,rfl⟩;refine J6 ?_
  have ewr:m.s.take r.f=((rm.r.data r.f).1,m.s.BQ j (rm.r.data r.f).2):=by unfold AG.take;rw [if_neg hk3,if_neg hk4,if_pos hk5,erj,esj]
  exact mR [4] (AY cb (m.BQ j rd2)*R) (hE:=⟨fun ww hw=>Sat.right (A:=HP.AA b3 0 (AJ r)) (C? UL hw)⟩) rfl rfl ⟨m.BQ j rd2,hm.BQ hrd2,by rw [Ac.PS,ewr,hrd2e],Cq,rfl⟩
 refine J2 ?_;refine JL (CT (j:=6) rfl rfl) ?_;refine J3 ?_;refine mC (fun hk6=>?_) (fun hk6=>?_)
 ·refine J2 ?_;refine JL (FO (v:=.int .i64 (10:Nat)) rfl) ?_;refine J5 ?_
  have ewr:m.s.take r.f=(10,m.s):=by unfold AG.take;rw [if_neg hk3,if_neg hk4,if_neg hk5,if_pos hk6]
  exact Ri
 refine J5 ?_;refine Fq ?_
 have ewr:m.s.take r.f=(0,m.s):=by unfold AG.take;rw [if_neg hk3,if_neg hk4,if_neg hk5,if_neg hk6]
 exact Ri
end
section
variable{B:World}
theorem B1.of{α:Type}[AC α]{R:HP}{xs:List α}{p:Option Addr}{b o c:Nat}{s:List Value}(h:Sl p b o xs.length c)(h2:xs.length*AC.sz α+s.length=c*AC.sz α):B1 R xs (.slice p xs.length c) (AB b o xs s*R):=⟨p,b,o,c,s,rfl,h,h2,rfl⟩
theorem B1.nil(R:HP):B1 R ([]:List UInt8) (.slice none 0 0) R:=⟨none,0,0,0,[],rfl,F8,rfl,Lh⟩
theorem sA(xs:List UInt8)(b o c:Nat)(H:HP)(hs:Sl none b o xs.length c)(hr:Ab B H b o xs)(hx:xs.length<100000000000):
  Fn Tryz.prog B 148 [.slice none xs.length c] H (fun v H'=>B1 H xs v H'):=by
 refine mI Tryz.func148 ?_;refine J9 ?_;refine JL NR ?_;refine J2 ?_;refine mc (fun hc=>?_) (fun hc=>?_);rotate_left
 ·cases hc
 refine J7 ?_;have hx:xs=[]:=B!.1 (by have h1:=hs.1;have h2:=hs.2;rcases h1 with h1|h1;omega;cases h1);exact mr [2] rfl rfl (by rw [hx];exact B1.nil H)
theorem nF(a:Addr)(xs:List UInt8)(b o c:Nat)(H:HP)(hs:Sl (some a) b o xs.length c)(hr:Ab B H b o xs)(hx:xs.length<100000000000):
  Fn Tryz.prog B 148 [.slice (some a) xs.length c] H (fun v H'=>B1 H xs v H'):=by
 refine mI Tryz.func148 ?_;refine J9 ?_;refine JV ?_;refine mc (fun hc=>?_) (fun hc=>?_)
 ·cases hc
 refine J4 ?_;refine Af (hB) rfl ?_;rintro _ _ ⟨b5,rfl,rfl⟩;refine J1 ?_;refine Af (CS (α:=UInt8) (xs:=[]) (ys:=xs) (b:=b5) (o:=0) (c:=0) (s:=[]) (bb:=b) (oo:=o) rfl CB rfl rfl hs inferInstance rfl (by simp only [List.length_nil];omega) Ca) rfl ?_;rintro _ _ ⟨p7,b7,o7,c7,s7,rfl,hs7,hc7,rfl⟩;refine J4 ?_;exact mr [2] rfl rfl ⟨p7,b7,o7,c7,s7,rfl,hs7,hc7,rfl⟩
theorem oS(xs:List UInt8)(p:Option Addr)(b o c:Nat)(H:HP)(hs:Sl p b o xs.length c)(hr:Ab B H b o xs)(hx:xs.length<100000000000):
  Fn Tryz.prog B 148 [.slice p xs.length c] H (fun v H'=>B1 H xs v H'):=by
 cases p with
 |none=>exact sA xs b o c H hs hr hx
 |some a=>exact nF a xs b o c H hs hr hx
set_option maxHeartbeats 4000000 in
theorem oR(cb t:Nat)(m:Ac)(k AL:Int)(R:HP)(hm:m.ok)(hi:AZ t m.s)(ht:t<1000000)(hmo:AL<9223372036854775808):
  Fn Tryz.prog B 95 [ptr cb 0,.int .i64 k,.int .i64 AL] (AY cb m*R)
   (fun v H'=>∃m':Ac,m'.ok∧∃sv,m'.s=(m.s.read k AL).2∧v=.tuple #[sv,iN (m.s.read k AL).1.2.1,uN (m.s.read k AL).1.2.2.1,Dh (m.s.read k AL).1.2.2.2]∧
    (((m.s.read k AL).1.1=[]∧sv=.slice none 0 0∧H'=AY cb m'*R)∨((m.s.read k AL).1.1≠ []∧B1 (AY cb m'*R) (m.s.read k AL).1.1 sv H'))):=by
 refine mI Tryz.func95 ?_;have hw2:m.x.AF≤1024:=hi.w2;refine Ao NX ?_;refine J3 ?_;refine FN ?_;refine GR ?_;refine J8 ?_;refine OW ?_;refine mC (fun h20=>?_) (fun h20=>?_)
 ·refine J4 ?_;refine FN ?_;refine GR ?_;refine J5 ?_;refine mR [6,7,8,9] (AY cb m*R) (hE:=by rw [HF];infer_instance) rfl rfl ⟨m,hm,.slice none 0 0,?_,?_,.inl ⟨?_,rfl,rfl⟩⟩
  ·unfold AG.read;rw [if_pos Rl]
  ·unfold AG.read;rw [if_pos Rl];rfl
  ·unfold AG.read;rw [if_pos Rl]
 have h20:Ey m.x.closed k=0:=by simpa using h20
 obtain⟨hcl,j,rfl,hj⟩:=Ln h20
 have hjl:j<m.rs.length:=by rw [Ac.OB hi];exact hj
 have hrok:=Ac.RK hi hj;have hrm2:=hm.rs _ KJ;have erj:=m.O' j hjl;refine Ao (H':=HP.AA cb (0+83+j*9) (DM (m.rs.getD j AC.AH))*(B' (m.rs.getD j AC.AH)*(AP cb m.x*(EC cb m.rs j*(ET m cb*R))))) (by rw [←HF,LJ cb m R j hjl];ac_rfl) ?_;generalize hrm:m.rs.getD j AC.AH=rm at*;refine J8 ?_;refine JL MU ?_;refine J5 ?_;refine CR (α:=Unit) (fun _=>[(37,.bool (decide (rm.r.given=true∧rm.r.state=0))),(11,ptr cb (0+83+j*9)),(2,.int .i64 AL)]) (fun _=>HP.AA cb (0+83+j*9) (DM rm)*(B' rm*(AP cb m.x*(EC cb m.rs j*(ET m cb*R))))) (fun _=>True) ?_ ?_
 ·refine J6 ?_;refine DA 31 rfl (fun hg1=>?_) (fun hg1=>?_)
  ·have hgv:rm.r.given=true:=hg1;refine Ho ?_;refine J1 ?_;refine ML ?_;refine JL aU ?_;refine JL JS ?_;refine J1 ?_;refine A8 () trivial (.cons ?_ G8) rfl;refine Et ?_;congr 2
   first
    |exact decide_eq_decide.2 ⟨fun h=>⟨hgv,h⟩,fun h=>h.2⟩
    |exact(decide_eq_false (fun h=>A! (hgv.symm.trans h.1))).symm
  have hgv:rm.r.given=false:=hg1;refine Ha ?_;refine HW ?_;refine HW ?_;refine JL JC ?_;refine J1 ?_;refine A8 () trivial (.cons ?_ G8) rfl;refine Et ?_;congr 2
  first
   |exact decide_eq_decide.2 ⟨fun h=>⟨hgv,h⟩,fun h=>h.2⟩
   |exact(decide_eq_false (fun h=>A! (hgv.symm.trans h.1))).symm
 ·rintro _ _;refine J1 ?_;refine CR (α:=DV) (fun _=>[(11,ptr cb (0+83+j*9)),(2,.int .i64 AL)]) (fun z=>HP.AA cb (0+83+j*9) (DM z)*(B' z*(AP cb m.x*(EC cb m.rs j*(ET m cb*R))))) (fun z=>z.ok∧z.r=m.s.EX j) ?_ ?_
  ·refine mC (fun h37=>?_) (fun h37=>?_)
   ·refine J5 ?_;refine Bj (EY (v:=.int .i64 (2:Nat)) rfl rfl rfl Cd) ?_;refine E9 ?_
    refine Bf (HP.AA cb (0+83+j*9) (DM ⟨{rm.r with state:=2,b:=[]},⟨none,0,0,0,[]⟩,rm.cq,rm.ca⟩)*(B' ⟨{rm.r with state:=2,b:=[]},⟨none,0,0,0,[]⟩,rm.cq,rm.ca⟩*(AP cb m.x*(EC cb m.rs j*(ET m cb*R))))) (hE:=⟨fun ww hw=>Sat.right (A:=AB rm.a.b rm.a.o rm.r.b rm.a.s) (C? (by
     congr 1
     unfold B'
     show _=AB rm.a.b rm.a.o rm.r.b rm.a.s*(HP.AA cb (0+83+j*9) [.slice none 0 0,ptr rm.cq 0,uN rm.r.high,uN rm.r.end_,.bool rm.r.ended,.bool rm.r.given,uN rm.r.code,uN rm.r.read,iN 2]*(AB 0 0 ([]:List UInt8) []*AS rm.cq rm.ca rm.r.AE*(AP cb m.x*(EC cb m.rs j*(ET m cb*R)))))
     rw [GU,HP.BH]
     ac_rfl) hw)⟩) ?_
    exact A8 (⟨{rm.r with state:=2,b:=[]},⟨none,0,0,0,[]⟩,rm.cq,rm.ca⟩:DV) ⟨⟨⟨F8,rfl⟩,hrm2.2⟩,by unfold AG.EX;rw [erj,if_pos h37]⟩ G8 rfl
   refine J1 ?_;exact A8 rm ⟨hrm2,by unfold AG.EX;rw [erj,if_neg h37]⟩ G8 rfl
  ·rintro rm1 ⟨hok1,hrm1⟩;refine J2 ?_
   have hrok1:FG m.x.AF t rm1.r:=by
    rw [hrm1];unfold AG.EX;rw [erj];split
    ·rename_i hc;exact⟨hrok.co,hrok.cf,hrok.cm,hrok.rh,hrok.hw,hrok.pre,(fun h=>by rw [hc.1]at h;cases h),hrok.rt,hrok.en,hrok.code,Nat.le_refl _,fun _=>hc.1⟩
    ·exact hrok
   have hgv0:rm1.r.state=0→rm1.r.given=false:=by
    intro h0;rw [hrm1]at h0⊢;unfold AG.EX at h0⊢;rw [erj]at h0⊢;split at h0
    ·cases h0
    ·rename_i hc;rw [if_neg hc];cases hg:rm.r.given
     ·rfl
     ·exact absurd ⟨hg,h0⟩ hc
   refine Bq ?_;refine I' ?_;refine mC (fun h48=>?_) (fun h48=>?_)
   ·have hlen1:=hrok1.len (hgv0 h48);have hrh1:=hrok1.rh;have hhw1:=hrok1.hw;have hrt1:=hrok1.rt;have hgf:=M8 hrok1.co.inc hrok1.rh hrok1.co.hi;have hgs:=(H9 rm1.r.AE.l rm1.r.read rm1.r.high hrok1.co.inc hrok1.rh).1;have hcl:=RA hrok1.co.inc hrok1.pre hrok1.co.hi (by omega:rm1.r.high≤rm1.r.read+1024)
    have hNle:(min ((AQ rm1.r.read rm1.r.high rm1.r.AE.l).1-rm1.r.read) AL.toNat)≤rm1.r.b.length:=by omega
    refine Ao (H':=HP.AA cb (0+83+j*9) (DM rm1)*(AB rm1.a.b rm1.a.o rm1.r.b rm1.a.s*(AS rm1.cq rm1.ca rm1.r.AE*(AP cb m.x*(EC cb m.rs j*(ET m cb*R)))))) (by unfold B';ac_rfl) ?_;refine J1 ?_;refine mA 18 18 ?_;refine IC ?_;refine Kq ?_;refine Jm 8 ?_;refine Jn 9 ?_;refine Jf 10 ?_;refine Jd 11 ?_;refine An 12 Cb rfl rfl (BJ rfl (OX rm1.cq rm1.r.read rm1.r.high rm1.r.high rm1.ca rm1.r.AE _ hok1.2 hrok1.co Ca Ca)) ?_;refine FB ?_;refine Jm 13 ?_;refine JT 14 rfl MP ?_;refine JT 15 rfl MP ?_;refine Ja 16 ?_;refine Ja 17 ?_;refine JD ?_;refine J8 ?_;refine JL G5 ?_;refine J1 ?_;refine JL (A2 (v':=iN AL.toNat) (Z4 (i:=AL) (j:=0) rfl rfl) (by congr 1;split<;>omega)) ?_;refine JL FC ?_;refine JL Mn ?_;refine B8 ?_;refine JL (Nr (k':=(rm1.r.b.take (min ((AQ rm1.r.read rm1.r.high rm1.r.AE.l).1-rm1.r.read) AL.toNat)).length) rfl rfl (by have h7:rm1.r.b.length≤rm1.a.c:=hok1.1.1.2;omega) MW) ?_
    refine mE rfl (oS (rm1.r.b.take (min ((AQ rm1.r.read rm1.r.high rm1.r.AE.l).1-rm1.r.read) AL.toNat)) rm1.a.p rm1.a.b rm1.a.o rm1.a.c _ ⟨hok1.1.1.1,by have h7:rm1.r.b.length≤rm1.a.c:=hok1.1.1.2;rw [D_];omega⟩ inferInstance MW) ?_;rintro _ _ ⟨p81,b81,o81,c81,s81,rfl,hs81,hc81,rfl⟩;refine Bq ?_;refine JL K9 ?_;refine BF (H':=AB rm1.a.b rm1.a.o rm1.r.b rm1.a.s*(AB b81 o81 (rm1.r.b.take (min ((AQ rm1.r.read rm1.r.high rm1.r.AE.l).1-rm1.r.read) AL.toNat)) s81*(HP.AA cb (0+83+j*9) (DM rm1)*(AS rm1.cq rm1.ca rm1.r.AE*(AP cb m.x*(EC cb m.rs j*(ET m cb*R))))))) Cf ?_;refine mE rfl (pS rm1.r.b 0 (min ((AQ rm1.r.read rm1.r.high rm1.r.AE.l).1-rm1.r.read) AL.toNat) rm1.a.p rm1.a.b rm1.a.o rm1.a.c rm1.a.s _ hok1.1.1 hok1.1.2 FL hNle Ca) ?_;rintro _ _ ⟨p89,b89,o89,c89,s89,rfl,hs89,hc89,rfl⟩;rw [List.take_zero,List.nil_append]at hs89 hc89⊢;refine DH ?_;refine JL JB ?_;refine J6 ?_
    refine CR (α:=Unit) (fun _=>[(114,.bool (decide (rm1.r.ended=true∧rm1.r.read+(min ((AQ rm1.r.read rm1.r.high rm1.r.AE.l).1-rm1.r.read) AL.toNat)=rm1.r.end_))),(11,ptr cb (0+83+j*9)),(12,.slice p81 (rm1.r.b.take (min ((AQ rm1.r.read rm1.r.high rm1.r.AE.l).1-rm1.r.read) AL.toNat)).length c81)]) (fun _=>HP.AA cb (0+83+j*9) [.slice p89 (rm1.r.b.drop (min ((AQ rm1.r.read rm1.r.high rm1.r.AE.l).1-rm1.r.read) AL.toNat)).length c89,ptr rm1.cq 0,uN rm1.r.high,uN rm1.r.end_,.bool rm1.r.ended,.bool rm1.r.given,uN rm1.r.code,uN (rm1.r.read+(min ((AQ rm1.r.read rm1.r.high rm1.r.AE.l).1-rm1.r.read) AL.toNat)),iN rm1.r.state]*(AB b81 o81 (rm1.r.b.take (min ((AQ rm1.r.read rm1.r.high rm1.r.AE.l).1-rm1.r.read) AL.toNat)) s81*(AB b89 o89 (rm1.r.b.drop (min ((AQ rm1.r.read rm1.r.high rm1.r.AE.l).1-rm1.r.read) AL.toNat)) s89*(AS rm1.cq rm1.ca rm1.r.AE*(AP cb m.x*(EC cb m.rs j*(ET m cb*R))))))) (fun _=>True) ?_ ?_
    ·refine mA 15 15 ?_;refine MJ ?_;refine Lc 104 rfl (fun hg2=>?_) (fun hg2=>?_)
     ·have hed:rm1.r.ended=true:=hg2;refine JY 5 rfl hg2 BZ ?_;refine JY 6 rfl hg2 CJ ?_;refine JY 7 rfl hg2 BL ?_;refine JY 8 rfl hg2 BX ?_;refine JY 9 rfl hg2 BZ ?_;refine JY 10 rfl hg2 CJ ?_;refine JY 11 rfl hg2 BL ?_;refine JY 12 rfl hg2 BX ?_;refine JY 13 rfl hg2 NZ ?_;refine JT 14 rfl MX ?_;refine JD ?_;refine A8 () trivial (.cons ?_ G8) Cf;refine Et ?_;congr 2
      first
       |exact decide_eq_decide.2 ⟨fun h=>⟨hed,h⟩,fun h=>h.2⟩
       |exact(decide_eq_false (fun h=>A! (hed.symm.trans h.1))).symm
     have hed:rm1.r.ended=false:=hg2;refine JN 5 rfl hg2 ?_;refine JN 6 rfl hg2 ?_;refine JN 7 rfl hg2 ?_;refine JN 8 rfl hg2 ?_;refine JN 9 rfl hg2 ?_;refine JN 10 rfl hg2 ?_;refine JN 11 rfl hg2 ?_;refine JN 12 rfl hg2 ?_;refine JN 13 rfl hg2 ?_;refine JT 14 rfl Mo ?_;refine JD ?_;refine A8 () trivial (.cons ?_ G8) Cf;refine Et ?_;congr 2
     first
      |exact decide_eq_decide.2 ⟨fun h=>⟨hed,h⟩,fun h=>h.2⟩
      |exact(decide_eq_false (fun h=>A! (hed.symm.trans h.1))).symm
    ·rintro _ _;refine J1 ?_;refine CR (α:=Unit) (fun _=>[(11,ptr cb (0+83+j*9)),(12,.slice p81 (rm1.r.b.take (min ((AQ rm1.r.read rm1.r.high rm1.r.AE.l).1-rm1.r.read) AL.toNat)).length c81)]) (fun _=>AB b81 o81 (rm1.r.b.take (min ((AQ rm1.r.read rm1.r.high rm1.r.AE.l).1-rm1.r.read) AL.toNat)) s81*(HP.AA cb (0+83+j*9) [.slice p89 (rm1.r.b.drop (min ((AQ rm1.r.read rm1.r.high rm1.r.AE.l).1-rm1.r.read) AL.toNat)).length c89,ptr rm1.cq 0,uN rm1.r.high,uN rm1.r.end_,.bool rm1.r.ended,.bool rm1.r.given,uN rm1.r.code,uN (rm1.r.read+(min ((AQ rm1.r.read rm1.r.high rm1.r.AE.l).1-rm1.r.read) AL.toNat)),iN (if rm1.r.ended=true∧rm1.r.read+(min ((AQ rm1.r.read rm1.r.high rm1.r.AE.l).1-rm1.r.read) AL.toNat)=rm1.r.end_ then 1 else rm1.r.state)]*(AB b89 o89 (rm1.r.b.drop (min ((AQ rm1.r.read rm1.r.high rm1.r.AE.l).1-rm1.r.read) AL.toNat)) s89*(AS rm1.cq rm1.ca rm1.r.AE*(AP cb m.x*(EC cb m.rs j*(ET m cb*R))))))) (fun _=>True) ?_ ?_
     ·refine mC (fun h114=>?_) (fun h114=>?_)
      ·refine J4 ?_;refine Bj (EY (v:=.int .i64 (1:Nat)) rfl rfl rfl Cd) ?_;refine Hw ?_;exact A8 () trivial G8 (by rw [if_pos h114];ac_rfl)
      refine J1 ?_;exact A8 () trivial G8 (by rw [if_neg h114];ac_rfl)
     ·rintro _ _;refine J6 ?_;refine I' ?_;refine mC (fun h120=>?_) (fun h120=>?_)
      ·refine Bq ?_;refine JL R7 ?_;refine J2 ?_;refine mC (fun h125=>?_) (fun h125=>?_)
       ·exfalso;split at h125<;>omega
       refine RW ?_
       have ewr:m.s.read (j:Int) AL=((rm1.r.b.take (min ((AQ rm1.r.read rm1.r.high rm1.r.AE.l).1-rm1.r.read) AL.toNat),(if rm1.r.ended=true∧rm1.r.read+(min ((AQ rm1.r.read rm1.r.high rm1.r.AE.l).1-rm1.r.read) AL.toNat)=rm1.r.end_ then 1 else rm1.r.state),0,0),m.s.BQ j {rm1.r with b:=rm1.r.b.drop (min ((AQ rm1.r.read rm1.r.high rm1.r.AE.l).1-rm1.r.read) AL.toNat),read:=rm1.r.read+(min ((AQ rm1.r.read rm1.r.high rm1.r.AE.l).1-rm1.r.read) AL.toNat),state:=(if rm1.r.ended=true∧rm1.r.read+(min ((AQ rm1.r.read rm1.r.high rm1.r.AE.l).1-rm1.r.read) AL.toNat)=rm1.r.end_ then 1 else rm1.r.state)}):=by
        unfold AG.read;rw [if_neg QV,A?,←hrm1];dsimp only;rw [if_pos h48];unfold AG.HB;by_cases hc:rm1.r.ended=true∧rm1.r.read+(min ((AQ rm1.r.read rm1.r.high rm1.r.AE.l).1-rm1.r.read) AL.toNat)=rm1.r.end_
        ·rw [if_pos hc,if_pos hc]
        ·rw [if_neg hc,if_neg hc]
       obtain⟨rd2,hrd2⟩:∃rd2:DV,rd2=⟨{rm1.r with b:=rm1.r.b.drop (min ((AQ rm1.r.read rm1.r.high rm1.r.AE.l).1-rm1.r.read) AL.toNat),read:=rm1.r.read+(min ((AQ rm1.r.read rm1.r.high rm1.r.AE.l).1-rm1.r.read) AL.toNat),state:=(if rm1.r.ended=true∧rm1.r.read+(min ((AQ rm1.r.read rm1.r.high rm1.r.AE.l).1-rm1.r.read) AL.toNat)=rm1.r.end_ then 1 else rm1.r.state)},⟨p89,b89,o89,c89,s89⟩,rm1.cq,rm1.ca⟩:=Be
       have hrk2:rd2.ok:=by rw [hrd2];exact⟨⟨hs89,hc89⟩,hok1.2⟩
       have hnil:rm1.r.b.take (min ((AQ rm1.r.read rm1.r.high rm1.r.AE.l).1-rm1.r.read) AL.toNat)=[]:=B!.1 h120
       exact mR [6,7,8,9] (AY cb (m.BQ j rd2)*R) (hE:=⟨fun ww hw=>Sat.right (A:=AB b81 o81 (rm1.r.b.take (min ((AQ rm1.r.read rm1.r.high rm1.r.AE.l).1-rm1.r.read) AL.toNat)) s81) (C? (by
        congr 1
        rw [N' cb m R j hjl,hrd2]
        unfold B'
        refine Up ?_
        ac_rfl) hw)⟩) rfl rfl ⟨m.BQ j rd2,hm.BQ hrk2,.slice none 0 0,Ru,Cq,.inl ⟨by rw [ewr];exact hnil,rfl,rfl⟩⟩
      refine J9 ?_;refine JL R7 ?_;refine J2 ?_;refine mC (fun h125=>?_) (fun h125=>?_)
      ·exfalso;split at h125<;>omega
      refine RW ?_
      have ewr:m.s.read (j:Int) AL=((rm1.r.b.take (min ((AQ rm1.r.read rm1.r.high rm1.r.AE.l).1-rm1.r.read) AL.toNat),(if rm1.r.ended=true∧rm1.r.read+(min ((AQ rm1.r.read rm1.r.high rm1.r.AE.l).1-rm1.r.read) AL.toNat)=rm1.r.end_ then 1 else rm1.r.state),0,0),m.s.BQ j {rm1.r with b:=rm1.r.b.drop (min ((AQ rm1.r.read rm1.r.high rm1.r.AE.l).1-rm1.r.read) AL.toNat),read:=rm1.r.read+(min ((AQ rm1.r.read rm1.r.high rm1.r.AE.l).1-rm1.r.read) AL.toNat),state:=(if rm1.r.ended=true∧rm1.r.read+(min ((AQ rm1.r.read rm1.r.high rm1.r.AE.l).1-rm1.r.read) AL.toNat)=rm1.r.end_ then 1 else rm1.r.state)}):=by
       unfold AG.read;rw [if_neg QV,A?,←hrm1];dsimp only;rw [if_pos h48];unfold AG.HB;by_cases hc:rm1.r.ended=true∧rm1.r.read+(min ((AQ rm1.r.read rm1.r.high rm1.r.AE.l).1-rm1.r.read) AL.toNat)=rm1.r.end_
       ·rw [if_pos hc,if_pos hc]
       ·rw [if_neg hc,if_neg hc]
      obtain⟨rd2,hrd2⟩:∃rd2:DV,rd2=⟨{rm1.r with b:=rm1.r.b.drop (min ((AQ rm1.r.read rm1.r.high rm1.r.AE.l).1-rm1.r.read) AL.toNat),read:=rm1.r.read+(min ((AQ rm1.r.read rm1.r.high rm1.r.AE.l).1-rm1.r.read) AL.toNat),state:=(if rm1.r.ended=true∧rm1.r.read+(min ((AQ rm1.r.read rm1.r.high rm1.r.AE.l).1-rm1.r.read) AL.toNat)=rm1.r.end_ then 1 else rm1.r.state)},⟨p89,b89,o89,c89,s89⟩,rm1.cq,rm1.ca⟩:=Be
      have hrk2:rd2.ok:=by rw [hrd2];exact⟨⟨hs89,hc89⟩,hok1.2⟩
      exact mR [6,7,8,9] (AB b81 o81 (rm1.r.b.take (min ((AQ rm1.r.read rm1.r.high rm1.r.AE.l).1-rm1.r.read) AL.toNat)) s81*(AY cb (m.BQ j rd2)*R)) (hE:=⟨fun ww hw=>(C? (by
       congr 1
       rw [N' cb m R j hjl,hrd2]
       unfold B'
       refine Up ?_
       ac_rfl) hw)⟩) rfl rfl ⟨m.BQ j rd2,hm.BQ hrk2,.slice p81 (rm1.r.b.take (min ((AQ rm1.r.read rm1.r.high rm1.r.AE.l).1-rm1.r.read) AL.toNat)).length c81,Ru,Cq,.inr ⟨by rw [ewr];exact fun h=>h120 (congrArg List.length h),by rw [ewr];exact⟨p81,b81,o81,c81,s81,rfl,hs81,hc81,rfl⟩⟩⟩
   refine J7 ?_;refine I' ?_;refine mC (fun h120=>?_) (fun h120=>?_);rotate_left
   ·exact absurd rfl h120
   refine Bq ?_;refine JL R7 ?_;refine J2 ?_;refine mC (fun h125=>?_) (fun h125=>?_)
   ·refine J1 ?_;refine mA 13 13 ?_;refine LY ?_;refine Jm 5 ?_;refine LG ?_;refine Ja 9 ?_;refine Ja 10 ?_;refine Ja 11 ?_;refine Ja 12 ?_;refine IR ?_
    have ewr:m.s.read (j:Int) AL=(([],rm1.r.state,(if rm1.r.state=2 then rm1.r.code else 0),0),m.s.BQ j rm1.r):=by
     unfold AG.read;rw [if_neg QV,A?,←hrm1];dsimp only;rw [if_neg h48]
    exact mR [6,7,8,9] (AY cb (m.BQ j rm1)*R) (hE:=⟨fun ww hw=>C? UL hw⟩) rfl rfl ⟨m.BQ j rm1,hm.BQ hok1,.slice none 0 0,by rw [Ac.PS,ewr],by rw [ewr,if_pos h125];rfl,.inl ⟨Cs,rfl,rfl⟩⟩
   refine RW ?_
   have ewr:m.s.read (j:Int) AL=(([],rm1.r.state,(if rm1.r.state=2 then rm1.r.code else 0),0),m.s.BQ j rm1.r):=by
    unfold AG.read;rw [if_neg QV,A?,←hrm1];dsimp only;rw [if_neg h48]
   exact mR [6,7,8,9] (AY cb (m.BQ j rm1)*R) (hE:=⟨fun ww hw=>C? UL hw⟩) rfl rfl ⟨m.BQ j rm1,hm.BQ hok1,.slice none 0 0,by rw [Ac.PS,ewr],by rw [ewr,if_neg h125];rfl,.inl ⟨Cs,rfl,rfl⟩⟩
end
end Go.Proofs.YtgfdlpcdjklcoaaGreatDoor
