/- A part of this proof: steps of the program, plain facts; no condition. -/
import Derived.Test.YtgfdlpcdjklcoaaGreatDoorG7
namespace Go.Proofs.YtgfdlpcdjklcoaaGreatDoor
open Go Go.RowKit
open _root_.List renaming replicate→a_,length_eq_zero_iff→e_,length_take→i_,replicate_zero→j_,getD_eq_getElem?_getD→kf,length_append→kh,extract_eq_take_drop→ki,append_assoc→kj,getElem?_eq_getElem→km,length_map→ko,append_nil→kr,length_replicate→kt,mem_of_mem_take→ku,mem_map→kw,foldl_append→kx,length_drop→ky,map_append→k_,mem_filter→ld,drop_take→lf
open _root_.Bool renaming false_ne_true→b_,false_eq_true→f_,eq_iff_iff→kn,true_eq→lh
open _root_.Int renaming toNat_natCast→c_,toNat_of_nonneg→kv
open _root_.Go.Result renaming andThen_ok→d_
open _root_.Go.Sem renaming run_pure→g_,run_bind→g'
open _root_.Eq renaming mp→h_
open _root_.Option renaming isSome_none→kg,map_some→kp,map_none→kq
set_option linter.unusedVariables false
set_option linter.unusedSimpArgs false
set_option maxRecDepth 20000
section
variable{B:World}
theorem yT(l:List AT)(n:Nat):decide (∃r∈l,r.lo≤n∧n≤r.hi)=A6 l n:=by
 apply kn.2;simp [A6,List.any_eq_true]
theorem Q_(r:AT)(bp number:Nat)(H:HP)[hb:Rd B H bp (0+0) (uN number) True]:
  Fn Tryz.prog B 214 [IH r,ptr bp 0] H (fun v H'=>v=.bool (decide (r.lo≤number∧number≤r.hi))∧H'=H):=by
 refine mI Tryz.func214 ?_;refine J2 ?_;refine Am (Dn (l:=[uN r.lo,uN r.hi]) rfl rfl) rfl ?_;rintro _ _ ⟨b2,rfl,rfl⟩;refine J9 ?_;refine JL Lz ?_;refine J1 ?_;refine EV 9 rfl (fun hg1=>?_) (fun hg1=>?_)
 ·refine T8 ?_;refine J1 ?_;refine JG T1 ?_;refine J1 ?_;refine JG T1 ?_;refine JL Lz ?_;refine JL GM ?_;refine J4 ?_;refine mR [3] H rfl rfl ⟨?_,rfl⟩;refine M0 ?_;congr 1;apply kn.2;simp only [decide_eq_true_eq,lh,f_,iff_true,iff_false,true_iff,false_iff,eq_self];omega
 refine WZ ?_;refine JH F1 ?_;refine JH F1 ?_;refine JL E9 ?_;refine J4 ?_;refine mR [3] H rfl rfl ⟨?_,rfl⟩;refine M0 ?_;congr 1;apply kn.2;simp only [decide_eq_true_eq,lh,f_,iff_true,iff_false,true_iff,false_iff,eq_self];omega
theorem xI(cb bc:Nat)(x:CC)(a:BH)(R:HP)(ha:a.number<4611686018427387904):
  Fn Tryz.prog B 215 [Mu a,ptr bc 0] (AX cb x*(HP.AA bc 0 [ptr cb 0]*R)) (fun v H'=>v=.bool (decide (a.An.number+3≤x.BF))∧H'=AX cb x*(HP.AA bc 0 [ptr cb 0]*R)):=by
 refine mI Tryz.func215 ?_;refine J2 ?_;refine Am (Dn (l:=B4 a) rfl rfl) rfl ?_;rintro _ _ ⟨b2,rfl,rfl⟩;refine J4 ?_;refine mA 9 9 ?_;refine Jy ?_;refine JT 2 rfl (Jq (j:=3) rfl rfl Ca) ?_;refine K7 ?_;refine Jn 4 ?_;refine Jf 5 ?_;refine Jd 6 ?_;refine JT 7 rfl Lz ?_;refine Ja 8 ?_;refine Dm ?_;exact mR [3] (AX cb x*(HP.AA bc 0 [ptr cb 0]*R)) rfl rfl BY
structure vC(ws:List Bi)(ws0:List AR)(l:List AT)(pre:List BH):Prop where
 OM:∀w∈ws,w.ok
 mw:ws.map (·.w)=(pre.map (·.An)).foldl (Hv l) ws0
def Hd(cb:Nat)(ws0:List AR)(l:List AT)(K:HP)(pre:List BH):HP:=HP.ex fun ws:List Bi=>HP.pr (vC ws ws0 l pre)*(BB cb ws*K)
def AR.KV(w:AR)(inn:Bool)(f:AM):AR:=if inn=true∧f.kind=5∧f.data.size≠0 then
  {w with AE:=w.AE.add f.offset (f.offset+f.data.size-1),AO:=w.AO.add f.offset (f.offset+f.data.size-1)}else w
theorem X! (w:AR)(inn:Bool)(f:AM):w.named inn f={w.KV inn f with ended:=(w.KV inn f).ended||(inn&&decide (f.kind=5)&&f.fin)}:=rfl
theorem Md(s:ByteArray):(s≠⟨#[]⟩)↔s.size≠0:=by
 cases s with
 |mk d=>
  constructor
  ·intro h h2;have h3:d.size=0:=h2
   have h4:d= #[]:=by simpa using h3
   exact h (by rw [h4])
  ·intro h h2;cases h2;exact h rfl
set_option maxHeartbeats 4000000 in
theorem gV(cb AF bl bc:Nat)(ws0:List AR)(L:List BH)(l:List AT)(lp:Option Addr)(lb lo lc:Nat)(K:HP)(hw0:Dd AF ws0)(hlok:∀m∈L,m.ok)
  (hfr:∀m∈L,∀g∈m.An.Ag,EC ws0 g)(hfl:∀m∈L,m.fs.length<100000000)(hfs:∀m∈L,Ai B K m.a.b m.a.o m.fs)(hnm:∀m∈L,m.number<4611686018427387904)(hls:Sl lp lb lo l.length lc)(hll:l.length<100000000)
  [h1:Rd B K bl 0 (.slice lp l.length lc) True][h2:Rd B K bc 0 (ptr cb 0) True][h3:Ai B K lb lo l]:
  RE B 212 [ptr bl 0,ptr bc 0] L (fun m=>A6 l m.number) (Hd cb ws0 l K):=by
 intro pre fm R hpre;obtain⟨mm,hmm,hpre⟩:=hpre;have hmem:fm∈L:=ku (i:=mm) (by rw [hpre];simp);have hsub:∀m∈pre,m∈L:=fun m hm=>ku (i:=mm) (by rw [hpre];simp [hm]);have hfm:=hlok fm hmem;have hfl2:=hfl fm hmem;have hrd:=hfs fm hmem;have hnum:=hnm fm hmem;refine mI Tryz.func212 ?_;unfold Hd;refine MT ?_;rintro ws ⟨hz1,hz2⟩
 obtain⟨wo1,wo2,_⟩:=LI (AF:=AF) (l:=l) (pre.map (·.An)) ws0 hw0 (fun p hp g hg=>by
  obtain⟨m,hm,rfl⟩:=kw.1 hp
  exact hfr m (hsub m hm) g hg)
 rw [←hz2]at wo1 wo2;refine Au (H':=BB cb ws*(K*R)) Cg ?_;refine J2 ?_;refine Am (Dn (l:=B4 fm) rfl rfl) rfl ?_;rintro _ _ ⟨b3,rfl,rfl⟩;refine J6 ?_;refine JL GW ?_;refine mE rfl (zF l lp lb lo lc _ [ptr b3 0] (fun r=>r.lo≤fm.number∧fm.number≤r.hi) _ hls Ca (fun r _=>Q_ r b3 fm.number _)) ?_;refine JR ?_;rw [yT]
 obtain⟨inn,hinn⟩:∃b:Bool,b=A6 l fm.number:=Bl
 rw [←hinn];refine J5 ?_;refine Au (H':=BB cb ws*(K*(HP.AA b3 0 (B4 fm)*R))) Cg ?_;refine J4 ?_;refine JL TD ?_;refine J3 ?_
 refine Bj (α:=Nat×List Bi) (fun z=>[(1,ptr bl 0),(2,ptr bc 0),(3,ptr b3 0),(5,.bool inn),(13,.slice fm.a.p fm.fs.length fm.a.c),(14,iN fm.fs.length),(15,iN z.1)]) (fun z=>BB cb z.2*(K*(HP.AA b3 0 (B4 fm)*R))) (fun z=>z.1≤fm.fs.length∧(∀w∈z.2,w.ok)∧z.2.map (·.w)=((fm.fs.take z.1).map (·.f)).foldl (FR inn) (ws.map (·.w))) (fun z=>fm.fs.length-z.1) (0,ws) ⟨Nat.zero_le _,hz1,rfl⟩ HN rfl ?_
 rintro⟨i,wz⟩ ⟨q1,q2,q3⟩;dsimp only at q1 q2 q3⊢
 obtain⟨ag1,ag2,_⟩:=Ql (AF:=AF) (inn:=inn) ((fm.fs.take i).map (·.f)) (ws.map (·.w)) wo1 (fun g hg=>by
  obtain⟨rr,hrr,rfl⟩:=kw.1 hg
  exact(hfr fm hmem rr.f fA).same wo2)
 rw [←q3]at ag1 ag2
 have hwl:wz.length=4:=by have:=ag1.len;simpa using this
 refine J6 ?_;refine mC (fun h15=>?_) (fun h15=>?_)
 ·skip
  have hgd:fm.fs.getD i AC.AK=fm.fs[i]:=by rw [kf,km h15];rfl
  have hfo:EC (wz.map (·.w)) (fm.fs.getD i AC.AK).f:=by
   rw [hgd];exact((hfr fm hmem _ lC).same wo2).same ag2
  obtain⟨j,hst⟩:∃j:Nat,(fm.fs.getD i AC.AK).f.stream=(j:Int):=⟨_,(kv hfo.1).symm⟩
  have hj:j<4:=by have:=hfo.2.1;omega
  have hgw:(wz.map (·.w)).getD j Ab=(wz.getD j AC.AK).w:=by
   simp only [kf,List.getElem?_map,km TQ];rfl
  have hwj:=ag1.ok j hj;rw [hgw]at hwj;have hwok:=q2 _ (JX (d:=AC.AK) TQ);have hbl:=hwj.len;have hfo5:=hfo.2.2;rw [hst,c_,hgw]at hfo5;refine Au (H':=HP.AA cb (0+43+j*10) (Bn (wz.getD j AC.AK))*(Bu (wz.getD j AC.AK)*(CI cb wz j*(K*(HP.AA b3 0 (B4 fm)*R))))) (by rw [JZ cb wz j Ca];ac_rfl) ?_;generalize hwm:wz.getD j AC.AK=wm at*;refine J6 ?_;refine JL (Hf rfl rfl hfm.1 Ca rfl) ?_;refine JL (A9 (v':=.agg (AQ (fm.fs.getD i AC.AK)).toArray) cK rfl) ?_;refine Am S0 rfl ?_;rintro _ _ ⟨b7,rfl,rfl⟩;refine Bv (EO rfl rfl Ch (AC.one (fm.fs.getD i AC.AK))) ?_;refine Gr ?_;refine mA 7 7 ?_;refine Jd 0 ?_;refine P5 ?_;refine Ja 6 ?_;refine JK ?_
  refine DF (α:=Unit) (fun _=>[(35,.bool (decide (inn=true∧(fm.fs.getD i AC.AK).f.kind=5∧(fm.fs.getD i AC.AK).f.data.size≠0))),(7,ptr b7 0),(8,ptr cb (0+43+j*10)),(1,ptr bl 0),(2,ptr bc 0),(3,ptr b3 0),(5,.bool inn),(13,.slice fm.a.p fm.fs.length fm.a.c),(14,iN fm.fs.length),(15,iN i)]) (fun _=>HP.AA b7 0 (AQ (fm.fs.getD i AC.AK))*(HP.AA cb (0+43+j*10) (Bn wm)*(Bu wm*(CI cb wz j*(K*(HP.AA b3 0 (B4 fm)*R)))))) (fun _=>True) ?_ ?_
  ·refine J3 ?_;refine DU 26 rfl (fun hg1=>?_) (fun hg1=>?_)
   ·have hb1:inn=true:=hg1;refine Ia ?_;refine JL SZ ?_;refine JL J0 ?_;refine J1 ?_;refine EV 31 rfl (fun hg2=>?_) (fun hg2=>?_)
    ·refine NN ?_;refine J1 ?_;refine JG T2 ?_;refine JL (Tn rfl rfl) ?_;refine JL IY ?_;refine J1 ?_;refine BJ () trivial (.cons ?_ MR) rfl;refine FJ ?_;congr 2
     first
      |exact decide_eq_decide.2 ⟨fun h=>⟨hb1,hg2,(Md _).1 h⟩,fun h=>(Md _).2 h.2.2⟩
      |exact(decide_eq_false (fun h=>hg2 h.2.1)).symm
      |exact(decide_eq_false (fun h=>by rw [hb1]at h;cases h.1)).symm
    refine TF ?_;refine JL Hr ?_;refine J1 ?_;refine BJ () trivial (.cons ?_ MR) rfl;refine FJ ?_;congr 2
    first
     |exact decide_eq_decide.2 ⟨fun h=>⟨hb1,hg2,(Md _).1 h⟩,fun h=>(Md _).2 h.2.2⟩
     |exact(decide_eq_false (fun h=>hg2 h.2.1)).symm
     |exact(decide_eq_false (fun h=>by rw [hb1]at h;cases h.1)).symm
   have hb1:inn=false:=hg1;refine IE ?_;refine JL ID ?_;refine J1 ?_;refine Kx ?_;refine JL EB ?_;refine J1 ?_;refine BJ () trivial (.cons ?_ MR) rfl;refine FJ ?_;congr 2
   first
    |exact decide_eq_decide.2 ⟨fun h=>⟨hb1,hg2,(Md _).1 h⟩,fun h=>(Md _).2 h.2.2⟩
    |exact(decide_eq_false (fun h=>hg2 h.2.1)).symm
    |exact(decide_eq_false (fun h=>by rw [hb1]at h;cases h.1)).symm
  ·rintro _ _;refine J1 ?_;refine DF (α:=Bi) (fun _=>[(7,ptr b7 0),(8,ptr cb (0+43+j*10)),(1,ptr bl 0),(2,ptr bc 0),(3,ptr b3 0),(5,.bool inn),(13,.slice fm.a.p fm.fs.length fm.a.c),(14,iN fm.fs.length),(15,iN i)]) (fun w1=>HP.AA cb (0+43+j*10) (Bn w1)*(Bu w1*(CI cb wz j*(HP.AA b7 0 (AQ (fm.fs.getD i AC.AK))*(K*(HP.AA b3 0 (B4 fm)*R)))))) (fun w1=>w1.ok∧w1.w=wm.w.KV inn (fm.fs.getD i AC.AK).f) ?_ ?_
   ·refine mC (fun h35=>?_) (fun h35=>?_)
    ·skip
     have hnm1:wm.w.KV inn (fm.fs.getD i AC.AK).f={wm.w with AE:=wm.w.AE.add (fm.fs.getD i AC.AK).f.offset ((fm.fs.getD i AC.AK).f.offset+(fm.fs.getD i AC.AK).f.data.size-1),AO:=wm.w.AO.add (fm.fs.getD i AC.AK).f.offset ((fm.fs.getD i AC.AK).f.offset+(fm.fs.getD i AC.AK).f.data.size-1)}:=by unfold AR.KV;rw [if_pos h35]
     have hb5:=hfo5 h35.2.1;have hsz:=h35.2.2;refine Au (H':=AZ wm.cq wm.ca wm.w.AE*(HP.AA cb (0+43+j*10) (Bn wm)*(AB wm.a.b wm.a.o wm.w.b wm.a.s*(AZ wm.sq wm.sa wm.w.AO*(CI cb wz j*(HP.AA b7 0 (AQ (fm.fs.getD i AC.AK))*(K*(HP.AA b3 0 (B4 fm)*R)))))))) OR ?_;refine J1 ?_;refine mA 14 15 ?_;refine Ir ?_;refine Jh ?_;refine iT ?_;refine Av 14 Cb rfl rfl (BS rfl (KX wm.cq _ _ wm.w.b.length wm.ca wm.w.AE _ hwok.2.2 hwj.co Ca Ca (by rw [hwj.cm];omega) (by rw [hwj.cm];omega))) ?_;rintro _ _ ⟨a50,hs50,rfl⟩;refine Dc ?_;refine FG ?_;refine Au (H':=AZ wm.sq wm.sa wm.w.AO*(HP.AA cb (0+43+j*10) (Bn wm)*(AB wm.a.b wm.a.o wm.w.b wm.a.s*(AZ wm.cq a50 (wm.w.AE.add (fm.fs.getD i AC.AK).f.offset ((fm.fs.getD i AC.AK).f.offset+(fm.fs.getD i AC.AK).f.data.size-1))*(CI cb wz j*(HP.AA b7 0 (AQ (fm.fs.getD i AC.AK))*(K*(HP.AA b3 0 (B4 fm)*R)))))))) Cg ?_;refine mA 14 15 ?_;refine Ir ?_;refine Jh ?_
     refine iT ?_;refine Av 14 Cb rfl rfl (BS rfl (KX wm.sq _ _ wm.w.b.length wm.sa wm.w.AO _ hwok.2.1 hwj.so Ca Ca (by rw [hwj.sm];omega) (by rw [hwj.sm];omega))) ?_;rintro _ _ ⟨a65,hs65,rfl⟩;refine Dc ?_;refine JD ?_;refine Bo (HP.AA cb (0+43+j*10) (Bn {wm with w:=wm.w.KV inn (fm.fs.getD i AC.AK).f,sa:=a65,ca:=a50})*(Bu {wm with w:=wm.w.KV inn (fm.fs.getD i AC.AK).f,sa:=a65,ca:=a50}*(CI cb wz j*(HP.AA b7 0 (AQ (fm.fs.getD i AC.AK))*(K*(HP.AA b3 0 (B4 fm)*R)))))) (hE:=?_) ?_
     ·refine⟨fun ww hw=>h_ ?_ hw⟩;congr 1;unfold Bu;dsimp only;rw [hnm1];show _=HP.AA cb (0+43+j*10) (Bn wm)*(AB wm.a.b wm.a.o wm.w.b wm.a.s*(AZ wm.sq a65 (wm.w.AO.add (fm.fs.getD i AC.AK).f.offset ((fm.fs.getD i AC.AK).f.offset+(fm.fs.getD i AC.AK).f.data.size-1))*AZ wm.cq a50 (wm.w.AE.add (fm.fs.getD i AC.AK).f.offset ((fm.fs.getD i AC.AK).f.offset+(fm.fs.getD i AC.AK).f.data.size-1)))*(CI cb wz j*(HP.AA b7 0 (AQ (fm.fs.getD i AC.AK))*(K*(HP.AA b3 0 (B4 fm)*R)))));ac_rfl
     exact BJ _ ⟨by rw [hnm1];exact⟨hwok.1,hs65,hs50⟩,rfl⟩ MR rfl
    refine J1 ?_;exact BJ wm ⟨hwok,by unfold AR.KV;rw [if_neg h35]⟩ MR (by show _=HP.AA cb (0+43+j*10) (Bn wm)*(Bu wm*(CI cb wz j*(HP.AA b7 0 (AQ (fm.fs.getD i AC.AK))*(K*(HP.AA b3 0 (B4 fm)*R)))));ac_rfl)
   ·rintro w1 ⟨hw1,hw1e⟩;refine J1 ?_;refine DF (α:=Bi) (fun _=>[(1,ptr bl 0),(2,ptr bc 0),(3,ptr b3 0),(5,.bool inn),(13,.slice fm.a.p fm.fs.length fm.a.c),(14,iN fm.fs.length),(15,iN i)]) (fun w2=>HP.AA cb (0+43+j*10) (Bn w2)*(Bu w2*(CI cb wz j*(HP.AA b7 0 (AQ (fm.fs.getD i AC.AK))*(K*(HP.AA b3 0 (B4 fm)*R)))))) (fun w2=>w2.ok∧w2.w=wm.w.named inn (fm.fs.getD i AC.AK).f) ?_ ?_
    ·refine J7 ?_;refine DU 71 rfl (fun hg3=>?_) (fun hg3=>?_)
     ·have he1:w1.w.ended=true:=hg3;refine IP ?_;refine IP ?_;refine HJ ?_;refine HJ ?_;refine HJ ?_;refine IP ?_;refine IP ?_;refine HJ ?_;refine HJ ?_;refine IP ?_;refine JL Rp ?_;refine J4 ?_
      obtain⟨e2,he2⟩:∃e:Bool,e=(w1.w.ended||(inn&&decide ((fm.fs.getD i AC.AK).f.kind=5)&&(fm.fs.getD i AC.AK).f.fin)):=Bl
      refine D2 (H':=HP.AA cb (0+43+j*10) (Bn {w1 with w:={w1.w with ended:=e2}})*(Bu {w1 with w:={w1.w with ended:=e2}}*(CI cb wz j*(HP.AA b7 0 (AQ (fm.fs.getD i AC.AK))*(K*(HP.AA b3 0 (B4 fm)*R)))))) ?_ ?_
      ·refine PO ?_;rw [he2];refine Q8 ?_
       first
        |(rw [he1];rfl)
        |(rw [he1,hi9,decide_eq_true hk9];rfl)
        |(rw [he1,hi9,decide_eq_false hk9];rfl)
        |(rw [he1,hi9];rfl)
      exact RZ
     have he1:w1.w.ended=false:=hg3;refine GF ?_;refine J1 ?_;refine GF ?_;refine J1 ?_;refine DU 73 rfl (fun hg4=>?_) (fun hg4=>?_)
     ·have hi9:inn=true:=hg4;refine Wc ?_;refine JL SZ ?_;refine GF ?_;refine JL (Gd hg4 rfl rfl) ?_;refine GF ?_;refine J1 ?_;refine EV 78 rfl (fun hg5=>?_) (fun hg5=>?_)
      ·have hk9:(fm.fs.getD i AC.AK).f.kind=5:=hg5;refine JG T5 ?_;refine J1 ?_;refine JG T5 ?_;refine J1 ?_;refine GF ?_;refine JL (Gd T5 rfl rfl) ?_;refine JL LB ?_;refine J4 ?_
       obtain⟨e2,he2⟩:∃e:Bool,e=(w1.w.ended||(inn&&decide ((fm.fs.getD i AC.AK).f.kind=5)&&(fm.fs.getD i AC.AK).f.fin)):=Bl
       refine D2 (H':=HP.AA cb (0+43+j*10) (Bn {w1 with w:={w1.w with ended:=e2}})*(Bu {w1 with w:={w1.w with ended:=e2}}*(CI cb wz j*(HP.AA b7 0 (AQ (fm.fs.getD i AC.AK))*(K*(HP.AA b3 0 (B4 fm)*R)))))) ?_ ?_
       ·refine PO ?_;rw [he2];refine Q8 ?_
        first
         |(rw [he1];rfl)
         |(rw [he1,hi9,decide_eq_true hk9];rfl)
         |(rw [he1,hi9,decide_eq_false hk9];rfl)
         |(rw [he1,hi9];rfl)
       exact RZ
      have hk9:¬(fm.fs.getD i AC.AK).f.kind=5:=hg5;refine JH F5 ?_;refine JH F5 ?_;refine GF ?_;refine JL (G9 F5 rfl rfl) ?_;refine JL LB ?_;refine J4 ?_
      obtain⟨e2,he2⟩:∃e:Bool,e=(w1.w.ended||(inn&&decide ((fm.fs.getD i AC.AK).f.kind=5)&&(fm.fs.getD i AC.AK).f.fin)):=Bl
      refine D2 (H':=HP.AA cb (0+43+j*10) (Bn {w1 with w:={w1.w with ended:=e2}})*(Bu {w1 with w:={w1.w with ended:=e2}}*(CI cb wz j*(HP.AA b7 0 (AQ (fm.fs.getD i AC.AK))*(K*(HP.AA b3 0 (B4 fm)*R)))))) ?_ ?_
      ·refine PO ?_;rw [he2];refine Q8 ?_
       first
        |(rw [he1];rfl)
        |(rw [he1,hi9,decide_eq_true hk9];rfl)
        |(rw [he1,hi9,decide_eq_false hk9];rfl)
        |(rw [he1,hi9];rfl)
      exact RZ
     have hi9:inn=false:=hg4;refine Sj ?_;refine GF ?_;refine JL (G9 hg4 rfl rfl) ?_;refine GF ?_;refine J1 ?_;refine Mc ?_;refine Mc ?_;refine GF ?_;refine JL EB ?_;refine JL LB ?_;refine J4 ?_
     obtain⟨e2,he2⟩:∃e:Bool,e=(w1.w.ended||(inn&&decide ((fm.fs.getD i AC.AK).f.kind=5)&&(fm.fs.getD i AC.AK).f.fin)):=Bl
     refine D2 (H':=HP.AA cb (0+43+j*10) (Bn {w1 with w:={w1.w with ended:=e2}})*(Bu {w1 with w:={w1.w with ended:=e2}}*(CI cb wz j*(HP.AA b7 0 (AQ (fm.fs.getD i AC.AK))*(K*(HP.AA b3 0 (B4 fm)*R)))))) ?_ ?_
     ·refine PO ?_;rw [he2];refine Q8 ?_
      first
       |(rw [he1];rfl)
       |(rw [he1,hi9,decide_eq_true hk9];rfl)
       |(rw [he1,hi9,decide_eq_false hk9];rfl)
       |(rw [he1,hi9];rfl)
     exact RZ
    ·rintro w2 ⟨hw2,hw2e⟩;refine J3 ?_;refine D7 ?_;refine Bo (BB cb (wz.set j w2)*(K*(HP.AA b3 0 (B4 fm)*R))) (hE:=?_) ?_
     ·rw [LM cb wz j w2 Ca];exact⟨fun ww hw=>Sat.right (A:=HP.AA b7 0 (AQ (fm.fs.getD i AC.AK))) (h_ Co hw)⟩
     exact Ba (i+1,wz.set j w2) ⟨Ca,fun a ha=>Kt (P:=Bi.ok) q2 hw2 ha,by
      show(wz.set j w2).map (·.w)=((fm.fs.take (i+1)).map (·.f)).foldl (FR inn) (ws.map (·.w))
      rw [List.map_set,hw2e,List.take_succ_eq_append_getElem h15,k_,kx,←q3]
      show _=FR inn (wz.map (·.w)) (fm.fs[i]).f
      rw [←hgd]
      unfold FR
      rw [hst,c_,hgw]⟩ Zt HN rfl
 refine DV ?_
 obtain rfl':i=fm.fs.length:=by omega
 rw [rfl',List.take_length]at q3;exact mR [4] (Hd cb ws0 l K (pre++[fm])*R) (hE:=⟨fun ww hw=>GK (G:=HP.AA b3 0 (B4 fm)) wz ⟨q2,by rw [k_,kx,←hz2,q3,hinn];rfl⟩ (by show _=HP.AA b3 0 (B4 fm)*(BB cb wz*K*R);ac_rfl) ww hw⟩) rfl rfl ⟨by rw [hinn];rfl,rfl⟩
theorem dI{cb:Nat}{ws0:List AR}{l:List AT}{pre:List BH}{K R:HP}{w:World}(h:Sat B (Hd cb ws0 l K pre*R) w):Sat B (K*R) w:=by
 unfold Hd at h;rw [HP.HG]at h;obtain⟨z,h⟩:=Sat.ex.1 h;rw [HP.assoc]at h;have h2:=(Sat.pr.1 h).2;rw [HP.assoc]at h2;exact h2.right
theorem Vq{t:Nat}{m:Aj}(hi:AY t m.s)(ht:t<1000000)(a:BH)(ha:a∈m.fl∨a∈m.lo):a.number<4611686018427387904:=by
 have h1:=hi.nx
 have h2:a.An.number<m.s.next:=by
  rcases ha with ha|ha
  ·exact(hi.An a.An WE).num
  ·exact(hi.An a.An S7).num
 have h3:a.number<m.s.next:=h2;omega
theorem tI{t:Nat}{m:Aj}(hi:AY t m.s):∀a∈m.lo,a.fs.length<100000000:=fun a ha=>by
 have:=(hi.An a.An S7).len
 have e:a.An.Ag.length=a.fs.length:=ko _;omega
set_option maxHeartbeats 4000000 in
theorem ar(cb t:Nat)(m:Aj)(l:List AT)(lp:Option Addr)(lb lo lc:Nat)(R:HP)(hm:m.ok)(hi:AY t m.s)(ht:t<1000000)(hls:Sl lp lb lo l.length lc)(hr:Ai B R lb lo l)(hl0:0<l.length)(hll:l.length<100000000)(hhi:(rg l 0).hi<9000000000000000000):
  Fn Tryz.prog B 183 [ptr cb 0,.slice lp l.length lc] (Ac cb m*R)
   (fun v H'=>∃m':Aj,m'.ok∧m'.s=(m.s.BM l).2∧v=iN (m.s.BM l).1∧H'=Ac cb m'*R):=by
 refine mI Tryz.func183 ?_;have hlen:=WH hi ht;refine Ka ?_;rintro _ _ ⟨b2,rfl,rfl⟩;refine K9 ?_;rintro _ _ ⟨b3,rfl,rfl⟩;refine FT ?_;refine J4 ?_;refine Au (H':=HP.AA b3 0 [.slice lp l.length lc]*(HP.AA b2 0 [ptr cb 0]*(AX cb m.x*(AZ m.x.gq m.ga m.AI*(BB cb m.ws*(Be cb m.rs*(AB m.fa.b m.fa.o m.fl m.fa.s*(AB m.la.b m.la.o m.lo m.la.s*(AU A2 m.fl*(AU A2 m.lo*R)))))))))) Sz ?_;have hrR:=hr;refine mA 9 9 ?_;refine Jd 0 ?_;refine JT 1 rfl eX ?_;refine Lm ?_;refine JT 3 rfl ZP ?_;refine JB ?_;refine Jn 5 ?_;refine Jf 6 ?_;refine Jd 7 ?_;refine JT 8 rfl Lh ?_;refine FG ?_;refine mC (fun h15=>?_) (fun h15=>?_)
 ·have h15:m.s.next≤(rg l 0).hi:=h15;refine J2 ?_;refine JL (Fx (v:=.int .i64 (8:Nat)) rfl) ?_;refine J4 ?_;refine mR [4] (Ac cb m*R) (hE:=?_) rfl rfl ⟨m,hm,by unfold AD.BM;rw [if_pos h15],by unfold AD.BM;rw [if_pos h15];rfl,rfl⟩;exact⟨fun ww hw=>Sat.right (A:=HP.AA b3 0 [.slice lp l.length lc]*HP.AA b2 0 [ptr cb 0]) (h_ (by congr 1;unfold Ac DS A8.h;ac_rfl) hw)⟩
 have h15:¬m.s.next≤(rg l 0).hi:=h15;refine J3 ?_;refine mA 12 13 ?_;refine KY ?_;refine Jd 5 ?_;refine JT 6 rfl eX ?_;refine Jf 7 ?_;refine JT 8 rfl ZP ?_;refine JT 9 rfl Kk ?_;refine TK ?_;refine J3 ?_;refine JL GW ?_;refine J4 ?_;refine Au (H':=HP.AA b3 0 [.slice lp l.length lc]*(HP.AA b2 0 [ptr cb 0]*(AX cb {m.x with BF:=max m.x.BF (rg l 0).hi}*(AZ m.x.gq m.ga m.AI*(BB cb m.ws*(Be cb m.rs*(AB m.fa.b m.fa.o m.fl m.fa.s*(AB m.la.b m.la.o m.lo m.la.s*(AU A2 m.fl*(AU A2 m.lo*R)))))))))) (by first|ac_rfl|dsimp only) ?_;refine ET (HP.AA b3 0 [.slice lp l.length lc]*(HP.AA b2 0 [ptr cb 0]*AX cb {m.x with BF:=max m.x.BF (rg l 0).hi})) 9 10 Ef rfl Cb ?_;refine Jd 0 ?_;refine Jd 1 ?_;refine Jr ?_;refine JT 4 rfl (A9 ER hm.lv) ?_;refine Jm 5 ?_
 refine TV (Hd cb m.s.ws l (HP.AA b3 0 [.slice lp l.length lc]*(HP.AA b2 0 [ptr cb 0]*(AU A2 m.fl*(AU A2 m.lo*R)))) []*(AB m.la.b m.la.o m.lo m.la.s*(AX cb {m.x with BF:=max m.x.BF (rg l 0).hi}*(AZ m.x.gq m.ga m.AI*(Be cb m.rs*AB m.fa.b m.fa.o m.fl m.fa.s))))) (hE:=⟨fun ww hw=>?_⟩) ?_
 ·exact IS m.ws ⟨hm.ws,rfl⟩ Cg ww hw
 have hkl:∀a∈m.lo,Ai B (HP.AA b3 0 [.slice lp l.length lc]*(HP.AA b2 0 [ptr cb 0]*(AU A2 m.fl*(AU A2 m.lo*R)))) a.a.b a.a.o a.fs:=fun a ha=>by have:=TY (B:=B) ha;infer_instance
 have hkf:∀a∈m.fl,Ai B (HP.AA b3 0 [.slice lp l.length lc]*(HP.AA b2 0 [ptr cb 0]*(AU A2 m.fl*(AU A2 m.lo*R)))) a.a.b a.a.o a.fs:=fun a ha=>by have:=TY (B:=B) ha;infer_instance
 refine Av 6 Cb rfl rfl (BS rfl (TO m.lo m.la.p m.la.b m.la.o m.la.c m.la.s _ [ptr b3 0,ptr b2 0] (fun a=>A6 l a.number) (Hd cb m.s.ws l (HP.AA b3 0 [.slice lp l.length lc]*(HP.AA b2 0 [ptr cb 0]*(AU A2 m.fl*(AU A2 m.lo*R))))) (AX cb {m.x with BF:=max m.x.BF (rg l 0).hi}*(AZ m.x.gq m.ga m.AI*(Be cb m.rs*AB m.fa.b m.fa.o m.fl m.fa.s))) hm.la.1 hm.la.2 Ca (gV cb m.x.AF b3 b2 m.s.ws m.lo l lp lb lo lc (HP.AA b3 0 [.slice lp l.length lc]*(HP.AA b2 0 [ptr cb 0]*(AU A2 m.fl*(AU A2 m.lo*R)))) hi.ws hm.lo (gL hi) (tI hi) hkl (fun a ha=>Vq hi ht a (.inr ha)) hls hll))) ?_;rintro _ _ ⟨p35,b35,o35,c35,s35,rfl,hs35,hc35,rfl⟩;refine⟨.inr ⟨fun ww hw=>Bz.get (B:=B) (H:=(HP.AA b3 0 [.slice lp l.length lc]*(HP.AA b2 0 [ptr cb 0]*(AU A2 m.fl*(AU A2 m.lo*R))))*(AB b35 o35 (m.lo.filter (fun x=> !A6 l x.number)) s35*(AX cb {m.x with BF:=max m.x.BF (rg l 0).hi}*(AZ m.x.gq m.ga m.AI*(Be cb m.rs*AB m.fa.b m.fa.o m.fl m.fa.s))))) ww (dI (h_ Co hw))⟩,?_⟩;refine E5 (H':=Hd cb m.s.ws l (HP.AA b3 0 [.slice lp l.length lc]*(HP.AA b2 0 [ptr cb 0]*(AU A2 m.fl*(AU A2 m.lo*R)))) m.lo*(AB b35 o35 (m.lo.filter (fun x=> !A6 l x.number)) s35*(AX cb {m.x with BF:=max m.x.BF (rg l 0).hi}*(AZ m.x.gq m.ga m.AI*(Be cb m.rs*AB m.fa.b m.fa.o m.fl m.fa.s))))) Cg ?_;unfold Hd;refine Us ?_
 rintro ws1 ⟨hw1,hw1e⟩;refine Jn 7 ?_;refine Jf 8 ?_;refine Dx 9 Cb rfl (Ez (v:=.slice p35 (m.lo.filter (fun x=> !A6 l x.number)).length c35) rfl rfl rfl trivial) ?_;refine Kf ?_;refine Au (H':=HP.AA b3 0 [.slice lp l.length lc]*(HP.AA b2 0 [ptr cb 0]*(AX cb {m.x with BF:=max m.x.BF (rg l 0).hi,lv:=.slice p35 (m.lo.filter (fun x=> !A6 l x.number)).length c35}*(AZ m.x.gq m.ga m.AI*(BB cb ws1*(Be cb m.rs*(AB m.fa.b m.fa.o m.fl m.fa.s*(AB b35 o35 (m.lo.filter (fun x=> !A6 l x.number)) s35*(AU A2 m.fl*(AU A2 m.lo*R)))))))))) Cg ?_;refine J4 ?_;refine JL SM ?_;refine J6 ?_;refine ET (HP.AA b3 0 [.slice lp l.length lc]*(HP.AA b2 0 [ptr cb 0]*AX cb {m.x with BF:=max m.x.BF (rg l 0).hi,lv:=.slice p35 (m.lo.filter (fun x=> !A6 l x.number)).length c35})) 9 10 Ef rfl Cb ?_;refine Jd 0 ?_;refine Jd 1 ?_;refine Jr ?_;refine JT 4 rfl SM ?_;refine Jm 5 ?_
 refine TV (Hd cb (ws1.map (·.w)) l (HP.AA b3 0 [.slice lp l.length lc]*(HP.AA b2 0 [ptr cb 0]*(AU A2 m.fl*(AU A2 m.lo*R)))) []*(AB m.fa.b m.fa.o m.fl m.fa.s*(AX cb {m.x with BF:=max m.x.BF (rg l 0).hi,lv:=.slice p35 (m.lo.filter (fun x=> !A6 l x.number)).length c35}*(AZ m.x.gq m.ga m.AI*(Be cb m.rs*AB b35 o35 (m.lo.filter (fun x=> !A6 l x.number)) s35))))) (hE:=⟨fun ww hw=>?_⟩) ?_
 ·exact IS ws1 ⟨hw1,rfl⟩ Cg ww hw
 obtain⟨n1,n2,_⟩:=LI (AF:=m.x.AF) (l:=l) (m.lo.map (·.An)) m.s.ws hi.ws (fun p hp g hg=>by
  obtain⟨a,ha,rfl⟩:=kw.1 hp
  exact gL hi a ha g hg)
 rw [←hw1e]at n1 n2;refine Av 6 Cb rfl rfl (BS rfl (TO m.fl m.fa.p m.fa.b m.fa.o m.fa.c m.fa.s _ [ptr b3 0,ptr b2 0] (fun a=>A6 l a.number) (Hd cb (ws1.map (·.w)) l (HP.AA b3 0 [.slice lp l.length lc]*(HP.AA b2 0 [ptr cb 0]*(AU A2 m.fl*(AU A2 m.lo*R))))) (AX cb {m.x with BF:=max m.x.BF (rg l 0).hi,lv:=.slice p35 (m.lo.filter (fun x=> !A6 l x.number)).length c35}*(AZ m.x.gq m.ga m.AI*(Be cb m.rs*AB b35 o35 (m.lo.filter (fun x=> !A6 l x.number)) s35))) hm.fa.1 hm.fa.2 Ca (gV cb m.x.AF b3 b2 (ws1.map (·.w)) m.fl l lp lb lo lc (HP.AA b3 0 [.slice lp l.length lc]*(HP.AA b2 0 [ptr cb 0]*(AU A2 m.fl*(AU A2 m.lo*R)))) n1 hm.fl (fun a ha g hg=>(iI hi a ha g hg).same n2) (bI hi) hkf (fun a ha=>Vq hi ht a (.inl ha)) hls hll))) ?_;rintro _ _ ⟨p49,b49,o49,c49,s49,rfl,hs49,hc49,rfl⟩;refine⟨.inr ⟨fun ww hw=>Bz.get (B:=B) (H:=(HP.AA b3 0 [.slice lp l.length lc]*(HP.AA b2 0 [ptr cb 0]*(AU A2 m.fl*(AU A2 m.lo*R))))*(AB b49 o49 (m.fl.filter (fun x=> !A6 l x.number)) s49*(AX cb {m.x with BF:=max m.x.BF (rg l 0).hi,lv:=.slice p35 (m.lo.filter (fun x=> !A6 l x.number)).length c35}*(AZ m.x.gq m.ga m.AI*(Be cb m.rs*AB b35 o35 (m.lo.filter (fun x=> !A6 l x.number)) s35))))) ww (dI (h_ Co hw))⟩,?_⟩
 refine E5 (H':=Hd cb (ws1.map (·.w)) l (HP.AA b3 0 [.slice lp l.length lc]*(HP.AA b2 0 [ptr cb 0]*(AU A2 m.fl*(AU A2 m.lo*R)))) m.fl*(AB b49 o49 (m.fl.filter (fun x=> !A6 l x.number)) s49*(AX cb {m.x with BF:=max m.x.BF (rg l 0).hi,lv:=.slice p35 (m.lo.filter (fun x=> !A6 l x.number)).length c35}*(AZ m.x.gq m.ga m.AI*(Be cb m.rs*AB b35 o35 (m.lo.filter (fun x=> !A6 l x.number)) s35))))) Cg ?_;unfold Hd;refine Us ?_;rintro ws2 ⟨hw2,hw2e⟩;refine Jn 7 ?_;refine Jf 8 ?_;refine Dx 9 Cb rfl (Ez (v:=.slice p49 (m.fl.filter (fun x=> !A6 l x.number)).length c49) rfl rfl rfl trivial) ?_;refine Dh ?_;refine J6 ?_;refine JL (A9 (v':=.slice p49 (m.fl.filter (fun x=> !A6 l x.number)).length c49) ER rfl) ?_;refine J5 ?_;refine DF (α:=Unit) (fun _=>[(2,ptr b2 0)]) (fun _=>AX cb {m.x with BF:=max m.x.BF (rg l 0).hi,lv:=.slice p35 (m.lo.filter (fun x=> !A6 l x.number)).length c35,fv:=.slice p49 (m.fl.filter (fun x=> !A6 l x.number)).length c49,waits:=if(m.fl.filter (fun x=> !A6 l x.number)).length<m.fl.length then 0 else m.x.waits}*(AZ m.x.gq m.ga m.AI*(BB cb ws2*(Be cb m.rs*(AB b49 o49 (m.fl.filter (fun x=> !A6 l x.number)) s49*(AB b35 o35 (m.lo.filter (fun x=> !A6 l x.number)) s35*(AU A2 m.fl*(AU A2 m.lo*(HP.AA b2 0 [ptr cb 0]*R))))))))) (fun _=>True) ?_ ?_
 ·refine mC (fun h58=>?_) (fun h58=>?_)
  ·refine J4 ?_;refine Bv (Ez (v:=.int .u64 (0:Nat)) rfl rfl rfl Cd) ?_;refine IN ?_;refine Bo (AX cb {m.x with BF:=max m.x.BF (rg l 0).hi,lv:=.slice p35 (m.lo.filter (fun x=> !A6 l x.number)).length c35,fv:=.slice p49 (m.fl.filter (fun x=> !A6 l x.number)).length c49,waits:=if(m.fl.filter (fun x=> !A6 l x.number)).length<m.fl.length then 0 else m.x.waits}*(AZ m.x.gq m.ga m.AI*(BB cb ws2*(Be cb m.rs*(AB b49 o49 (m.fl.filter (fun x=> !A6 l x.number)) s49*(AB b35 o35 (m.lo.filter (fun x=> !A6 l x.number)) s35*(AU A2 m.fl*(AU A2 m.lo*(HP.AA b2 0 [ptr cb 0]*R))))))))) (hE:=⟨fun ww hw=>Sat.right (A:=HP.AA b3 0 [.slice lp l.length lc]) (h_ (by congr 1;rw [if_pos h58];ac_rfl) hw)⟩) ?_;exact BJ () trivial PK rfl
  refine J1 ?_;refine Bo (AX cb {m.x with BF:=max m.x.BF (rg l 0).hi,lv:=.slice p35 (m.lo.filter (fun x=> !A6 l x.number)).length c35,fv:=.slice p49 (m.fl.filter (fun x=> !A6 l x.number)).length c49,waits:=if(m.fl.filter (fun x=> !A6 l x.number)).length<m.fl.length then 0 else m.x.waits}*(AZ m.x.gq m.ga m.AI*(BB cb ws2*(Be cb m.rs*(AB b49 o49 (m.fl.filter (fun x=> !A6 l x.number)) s49*(AB b35 o35 (m.lo.filter (fun x=> !A6 l x.number)) s35*(AU A2 m.fl*(AU A2 m.lo*(HP.AA b2 0 [ptr cb 0]*R))))))))) (hE:=⟨fun ww hw=>Sat.right (A:=HP.AA b3 0 [.slice lp l.length lc]) (h_ (by congr 1;rw [if_neg h58];ac_rfl) hw)⟩) ?_;exact BJ () trivial PK rfl
 ·rintro _ _;refine J2 ?_
  obtain⟨m2,hm2⟩:∃m2:Aj,m2=⟨{m.x with BF:=max m.x.BF (rg l 0).hi,lv:=.slice p35 (m.lo.filter (fun x=> !A6 l x.number)).length c35,fv:=.slice p49 (m.fl.filter (fun x=> !A6 l x.number)).length c49,waits:=if(m.fl.filter (fun x=> !A6 l x.number)).length<m.fl.length then 0 else m.x.waits},m.AI,m.ga,ws2,m.rs,m.fl.filter (fun x=> !A6 l x.number),m.lo.filter (fun x=> !A6 l x.number),⟨p49,b49,o49,c49,s49⟩,⟨p35,b35,o35,c35,s35⟩⟩:=Bl
  have hok2:m2.ok:=by
   rw [hm2];exact⟨hm.g,hw2,hm.rs,fun a ha=>hm.fl a (ld.1 ha).1,fun a ha=>hm.lo a (ld.1 ha).1,⟨hs49,hc49⟩,⟨hs35,hc35⟩,rfl,rfl⟩
  have e1:(m.fl.filter (fun x=> !A6 l x.number)).map (·.An)=(m.fl.map (·.An)).filter (fun p=> !A6 l p.number):=R7 m.fl (fun p=> !A6 l p.number);have e2:(m.lo.filter (fun x=> !A6 l x.number)).map (·.An)=(m.lo.map (·.An)).filter (fun p=> !A6 l p.number):=R7 m.lo (fun p=> !A6 l p.number)
  have hs2:m2.s=m.s.CE l:=by
   rw [hm2];unfold AD.CE Aj.s;dsimp only;rw [hw2e,hw1e,←e1,←e2,ko,ko];rfl
  have hi2:AY t m2.s:=by rw [hs2];exact(hi.CE l Ca).1
  refine Hy (Ac cb m2*(HP.AA b2 0 [ptr cb 0]*R)) (hE:=?_) ?_
  ·rw [hm2];refine⟨fun ww hw=>?_⟩;refine Sat.right (A:=AU A2 (m.fl.filter (fun x=>A6 l x.number))*AU A2 (m.lo.filter (fun x=>A6 l x.number))) ?_;refine h_ ?_ hw;congr 1;unfold Ac DS A8.h;dsimp only;rw [QM A2 (fun a:BH=>A6 l a.number) m.fl,QM A2 (fun a:BH=>A6 l a.number) m.lo];ac_rfl
  refine J2 ?_;refine JL GW ?_;refine mE rfl (iD cb t m2 (fun p=>decide (p.number+3≤m2.x.BF)) _ [ptr b2 0] (HP.AA b2 0 [ptr cb 0]) R hok2 hi2 ht (fun x a R2 hx ha=>by have:=xI (B:=B) cb b2 x a R2 (Vq hi2 ht a (.inl ha));rw [hx]at this;exact this)) ?_;rintro _ _ ⟨m3,hok3,hs3,rfl⟩;refine J4 ?_;refine E4 ?_
  have ewr:m.s.BM l=(0,m3.s):=by
   unfold AD.BM;rw [if_neg h15,hs3,←hs2];rfl
  exact mR [4] (Ac cb m3*R) (hE:=⟨fun ww hw=>Sat.right (A:=HP.AA b2 0 [ptr cb 0]) (h_ Co hw)⟩) rfl rfl ⟨m3,hok3,Ct,Cr,rfl⟩
end
section
section
variable{P:Program}{B:World}{n:Nat}{E:A5}{D:B6}{H R:HP}{d:Option Tmp}{T T' ty:TypeId}{pos:String}{af:Array Edge}{g:Option (Nat×Bool)}{x y z:Operand}
theorem t0{s:ByteArray}{l:Nat}{ik:IntKind}[hT:Az P T .string](hx:ev E x=some (.string s))(hy:ev E y=some (.int ik l))(h:l≤s.size):
  Af P B n ⟨d,.slice T x (some y) none none,ty,pos,af,g⟩ E H (.string (s.extract l s.size)):=by
 intro a w he _;simp only [execOp,he.ev hx,kp,kq,he.ev hy,Instr.sliceAt,Instr.slice,Instr.sliceBounds,g',Br hT.get,d_,g_,GQ h,kg,f_,if_false,pure_bind]
 try rfl
theorem fJ{s:ByteArray}{h:Nat}{ik:IntKind}[hT:Az P T .string](hx:ev E x=some (.string s))(hy:ev E y=some (.int ik h))(hh:h≤s.size):
  Af P B n ⟨d,.slice T x none (some y) none,ty,pos,af,g⟩ E H (.string (s.extract 0 h)):=by
 intro a w he _;simp only [execOp,he.ev hx,kp,kq,he.ev hy,Instr.sliceAt,Instr.slice,Instr.sliceBounds,g',Br hT.get,d_,g_,GQ hh,kg,f_,if_false,pure_bind]
 try rfl
theorem eC{s:ByteArray}{l h:Nat}{ik jk:IntKind}[hT:Az P T .string](hx:ev E x=some (.string s))(hy:ev E y=some (.int ik l))(hz:ev E z=some (.int jk h))(hh:l≤h∧h≤s.size):
  Af P B n ⟨d,.slice T x (some y) (some z) none,ty,pos,af,g⟩ E H (.string (s.extract l h)):=by
 intro a w he _;simp only [execOp,he.ev hx,kp,kq,he.ev hy,he.ev hz,Instr.sliceAt,Instr.slice,Instr.sliceBounds,g',Br hT.get,d_,g_,GQ hh.1,GQ hh.2,kg,f_,if_false,pure_bind]
 try rfl
theorem rH(s:ByteArray)(l h:Nat):(s.extract l h).data.toList=(s.data.toList.take h).drop l:=by
 rw [ByteArray.data_extract,Array.toList_extract,ki,lf]
theorem wK{sT xT e b o dl dc k:Nat}{p:Option Addr}{s:ByteArray}{ys:List UInt8}{L:List Value}[hT:Az P sT (.slice e)][hz:Bp P e 1]
  (hx:ev E x=some (.slice p dl dc))(hs:Sl p b (o+k*1) dl dc)(hy:ev E y=some (.string s))(hm:ys=s.data.toList.take (min s.size dl))
  (hl:k+dl≤L.length):
  CU P B n ⟨d,.call ⟨.builtin .copy,#[x,y],#[sT,xT]⟩,ty,pos,af,g⟩ E D (HP.AA b o L*R)
   (fun v H'=>v=.int .i64 (ys.length:Nat)∧H'=HP.AA b o (L.take k++AG ys++L.drop (k+ys.length))*R):=by
 intro a w h1 _ h3 K Q hk
 have hyl:ys.length=min s.size dl:=by
  rw [hm,i_]
  have:s.data.toList.length=s.size:=rfl
  omega
 have hm2:Nat.min s.size dl=ys.length:=hyl.symm
 have hf:(Builtin.firstCells 1 ys.length (.string s)).run P w=.ok (AG ys).toArray w:=by
  simp only [Builtin.firstCells,g_];congr 1;apply Array.toList_inj.1;rw [Array.toList_map,ByteArray.data_extract,Array.toList_extract,ki,hyl];rw [hm];simp only [List.drop_zero,Nat.sub_zero];rw [dJ];rfl
 have hw2:∃w',((match p with|some q=>storeCells q (AG ys)|none=>pure ()).run P w)=.ok () w'∧
   Sat B (HP.AA b o (L.take k++AG ys++L.drop (k+ys.length))*R) w':=by
  rcases hs.1 with h4|rfl
  ·have hd0:ys=[]:=e_.1 Cj;subst hd0;refine⟨w,?_,by simpa [AG]using h3⟩;cases p<;>simp [AG,storeCells]
  ·rw [TI b o k L Ca,HP.assoc,HP.CV]at h3
   have hfl:(AG ys).length=ys.length:=by rw [By];simp
   have hle:(AG ys).length≤(L.drop k).length:=by rw [hfl,ky];omega
   obtain⟨w',k1,k2⟩:=Sat.Jw (P:=P) (AG ys) (o+k*1) 0 (L.drop k) _ w hle (KS _) (by rw [Nat.mul_one];exact h3);refine⟨w',k1,?_⟩;rw [HP.CV,←HP.assoc,List.drop_drop]at k2
   have e2:(L.take k).length=k:=by rw [i_];omega
   have e3:HP.AA b o (L.take k++AG ys++L.drop (k+ys.length))=HP.AA b o (L.take k)*HP.AA b (o+k) (AG ys++L.drop (k+(AG ys).length)):=by
    rw [kj,HP.Fa,e2,hfl]
   rw [e3];rw [Nat.mul_one]at k2
   first|exact k2|(rw [Nat.add_comm]at k2;exact k2)
 obtain⟨w',k1,k2⟩:=hw2
 have hrun:(execOp a.eval ⟨d,.call ⟨.builtin .copy,#[x,y],#[sT,xT]⟩,ty,pos,af,g⟩).run P w=.ok (.value (.int .i64 (ys.length:Nat))) w':=by
  simp only [execOp,resolve,List.map_toArray,List.map_cons,List.map_nil,h1.ev hx,h1.ev hy,g',g_,d_,invoke,builtin];simp only [Builtin.copy_];simp only [List.getElem?_toArray,List.getElem?_cons_zero,List.getElem?_cons_succ,Br hT.get,Builtin.lenOf,g',g_,d_,hm2,hz.get,hf,pure_bind,goInt]
  cases p with
  |none=>simp only [g_]at k1;cases k1;rfl
  |some q=>simp only [g',k1,d_];rfl
 simp only [Oper.wp,hrun,Oper.upon];exact hk _ _ _ BY k2
theorem hJ{k:IntKind}{i j:Int}(hx:ev E x=some (.int k i))(hy:ev E y=some (.int k j)):Af P B n ⟨d,.call ⟨.builtin .max,#[x,y],#[T,T']⟩,ty,pos,af,g⟩ E H (.int k (if i<j then j else i)):=by
 intro a w he _;simp [execOp,he.ev hx,he.ev hy,resolve,invoke,builtin,Builtin.max_,Builtin.max2]
theorem qA{e sz:Nat}[hT:Az P T (.slice e)][hz:Bp P e sz]:
  CU P B n ⟨d,.buildSlice T 0 #[],ty,pos,af,g⟩ E D H (fun v H'=>∃b,v=.slice (some ⟨b,0,none⟩) 0 0∧H'=AB b 0 ([]:List UInt8) []*H):=by
 intro a w h1 _ h3 K Q hk
 have hrun:(execOp a.eval ⟨d,.buildSlice T 0 #[],ty,pos,af,g⟩).run P w=.ok (.value (.slice (some ⟨w.heap.size,0,none⟩) 0 0)) (w.alloc (.cells #[] e)):=by
  simp [execOp,Instr.buildSlice,Br hT.get,hz.get,Instr.fill,newRow]
  have:Array.map (fun _=>(default:Value)) (Array.range 0)= #[]:=by simp
  rw [this]
 simp only [Oper.wp,hrun,Oper.upon];refine hk _ _ _ ⟨w.heap.size,rfl,rfl⟩ ?_
 have:=h3.alloc #[] e
 rw [G7,HP.BR];exact this.right
end
end
section
variable{B:World}
theorem nK(d:ByteArray)(l h n dl:Nat)(hl:l≤h)(hh:h≤d.size)(hn:n=h-l)(hd:n≤dl):(d.data.toList.drop l).take n=(d.extract l h).data.toList.take (min (d.extract l h).size dl):=by
 have hsz:(d.extract l h).size=n:=by rw [ByteArray.size_extract];omega
 rw [hsz,Nat.min_eq_left hd,rH,lf,List.take_take,hn,Nat.min_self]
structure O5 where
 n:Nat
 lo:Nat
 b:List UInt8
 AE:BD
 ca:B9
set_option maxHeartbeats 4000000 in
theorem sX(b o t AF:Nat)(rm:Dt)(r:RF)(R:HP)(hok:rm.ok)(hr:Fo AF t rm.r)(hw:AF≤1024)(hf:Jj r.f)(hk5:r.f.kind=5)(hb:rm.r.given=false→r.f.offset+r.f.data.size≤rm.r.read+AF)(ht:t<1000000):
  Fn Tryz.prog B 184 [ptr b o,.agg (AQ r).toArray] (HP.AA b o (Di rm)*(CQ rm*R))
   (fun v H'=>∃rm2:Dt,rm2.ok∧rm2.r=(rm.r.data r.f).2∧v=iN (rm.r.data r.f).1∧H'=HP.AA b o (Di rm2)*(CQ rm2*R)):=by
 refine mI Tryz.func184 ?_;have hl:=hr.len;have hrh:=hr.rh;have hhw:=hr.hw;have hrt:=hr.rt;have hoff:=hf.2.2.2.1;have hoe:=hf.2.2.2.2.1 hk5;refine Lx ?_;rintro _ _ ⟨b3,rfl,rfl⟩;refine FT ?_;refine J9 ?_;refine JL Fy ?_;refine JL Kp ?_;refine J7 ?_;refine DF (α:=Unit) (fun _=>[(15,.bool (decide (rm.r.ended=true∧(rm.r.end_<(r.f.offset+r.f.data.size)∨r.f.fin=true∧(r.f.offset+r.f.data.size)≠rm.r.end_)))),(0,ptr b o),(3,ptr b3 0),(5,uN (r.f.offset+r.f.data.size))]) (fun _=>HP.AA b3 0 (AQ r)*(HP.AA b o (Di rm)*(CQ rm*R))) (fun _=>True) ?_ ?_
 ·refine J6 ?_;refine DU 20 rfl (fun hg1=>?_) (fun hg1=>?_)
  ·have he:rm.r.ended=true:=hg1;refine Ia ?_;refine J1 ?_;refine Ia ?_;refine JL IG ?_;refine Ml ?_;refine EV 27 rfl (fun hg2=>?_) (fun hg2=>?_)
   ·have hgt:rm.r.end_<(r.f.offset+r.f.data.size):=hg2;refine JH T2 ?_;refine JH T2 ?_;refine JH T2 ?_;refine UK ?_;refine HJ ?_;refine JH T2 ?_;refine IA ?_;refine JL IY ?_;refine Ks ?_;refine BJ () trivial (.cons ?_ Dk) rfl;refine FJ ?_;congr 2
    first
     |exact(decide_eq_false (fun h=>b_ (he.symm.trans h.1))).symm
     |exact(decide_eq_true ⟨he,.inl hgt⟩).symm
     |exact decide_eq_decide.2 ⟨fun h=>⟨he,.inr ⟨hfn,h⟩⟩,fun h=>h.2.elim (fun h=>absurd h hgt) (fun h=>h.2)⟩
     |exact(decide_eq_false (fun h=>h.2.elim (fun h=>absurd h hgt) (fun h=>b_ (hfn.symm.trans h.1)))).symm
   have hgt:¬rm.r.end_<(r.f.offset+r.f.data.size):=hg2;refine aU ?_;refine J1 ?_;refine JG F2 ?_;refine J1 ?_;refine DU 30 rfl (fun hg3=>?_) (fun hg3=>?_)
   ·have hfn:r.f.fin=true:=hg3;refine PP ?_;refine J1 ?_;refine PP ?_;refine JL (FB rfl rfl) ?_;refine JG F2 ?_;refine JL Rp ?_;refine IA ?_;refine JL Hr ?_;refine Ks ?_;refine BJ () trivial (.cons ?_ Dk) rfl;refine FJ ?_;congr 2
    first
     |exact(decide_eq_false (fun h=>b_ (he.symm.trans h.1))).symm
     |exact(decide_eq_true ⟨he,.inl hgt⟩).symm
     |exact decide_eq_decide.2 ⟨fun h=>⟨he,.inr ⟨hfn,h⟩⟩,fun h=>h.2.elim (fun h=>absurd h hgt) (fun h=>h.2)⟩
     |exact(decide_eq_false (fun h=>h.2.elim (fun h=>absurd h hgt) (fun h=>b_ (hfn.symm.trans h.1)))).symm
   have hfn:r.f.fin=false:=hg3;refine SJ ?_;refine SJ ?_;refine JG F2 ?_;refine JL LB ?_;refine IA ?_;refine JL Hr ?_;refine Ks ?_;refine BJ () trivial (.cons ?_ Dk) rfl;refine FJ ?_;congr 2
   first
    |exact(decide_eq_false (fun h=>b_ (he.symm.trans h.1))).symm
    |exact(decide_eq_true ⟨he,.inl hgt⟩).symm
    |exact decide_eq_decide.2 ⟨fun h=>⟨he,.inr ⟨hfn,h⟩⟩,fun h=>h.2.elim (fun h=>absurd h hgt) (fun h=>h.2)⟩
    |exact(decide_eq_false (fun h=>h.2.elim (fun h=>absurd h hgt) (fun h=>b_ (hfn.symm.trans h.1)))).symm
  have he:rm.r.ended=false:=hg1;refine IE ?_;refine IE ?_;refine IL ?_;refine UK ?_;refine UK ?_;refine IL ?_;refine La ?_;refine BJ () trivial (.cons ?_ Dk) rfl;refine FJ ?_;congr 2
  first
   |exact(decide_eq_false (fun h=>b_ (he.symm.trans h.1))).symm
   |exact(decide_eq_true ⟨he,.inl hgt⟩).symm
   |exact decide_eq_decide.2 ⟨fun h=>⟨he,.inr ⟨hfn,h⟩⟩,fun h=>h.2.elim (fun h=>absurd h hgt) (fun h=>h.2)⟩
   |exact(decide_eq_false (fun h=>h.2.elim (fun h=>absurd h hgt) (fun h=>b_ (hfn.symm.trans h.1)))).symm
 ·rintro _ _;refine J1 ?_;refine DF (α:=Unit) (fun _=>[(15,.bool (decide (MY rm.r.ended rm.r.end_ rm.r.high r.f))),(0,ptr b o),(3,ptr b3 0),(5,uN (r.f.offset+r.f.data.size))]) (fun _=>HP.AA b3 0 (AQ r)*(HP.AA b o (Di rm)*(CQ rm*R))) (fun _=>True) ?_ ?_
  ·refine mC (fun h15=>?_) (fun h15=>?_)
   ·refine J1 ?_;exact BJ () trivial (.cons (by show some (Value.bool _)=some (Value.bool _);congr 2;exact((decide_eq_true h15).trans (decide_eq_true (.inl h15)).symm)) Dk) rfl
   refine DF (α:=Unit) (fun _=>[(15,.bool (decide (r.f.fin=true∧(r.f.offset+r.f.data.size)<rm.r.high))),(0,ptr b o),(3,ptr b3 0),(5,uN (r.f.offset+r.f.data.size))]) (fun _=>HP.AA b3 0 (AQ r)*(HP.AA b o (Di rm)*(CQ rm*R))) (fun _=>True) ?_ ?_
   ·refine J4 ?_;refine DU 42 rfl (fun hg4=>?_) (fun hg4=>?_)
    ·have hfn:r.f.fin=true:=hg4;refine Wc ?_;refine J1 ?_;refine Wc ?_;refine J1 ?_;refine JL (Gd hg4 rfl rfl) ?_;refine J2 ?_;refine BJ () trivial (.cons ?_ Dk) rfl;refine FJ ?_;congr 2
     first
      |exact decide_eq_decide.2 ⟨fun h=>⟨hfn,h⟩,fun h=>h.2⟩
      |exact(decide_eq_false (fun h=>b_ (hfn.symm.trans h.1))).symm
    have hfn:r.f.fin=false:=hg4;refine Sj ?_;refine Sj ?_;refine JL (G9 hg4 rfl rfl) ?_;refine J2 ?_;refine BJ () trivial (.cons ?_ Dk) rfl;refine FJ ?_;congr 2
    first
     |exact decide_eq_decide.2 ⟨fun h=>⟨hfn,h⟩,fun h=>h.2⟩
     |exact(decide_eq_false (fun h=>b_ (hfn.symm.trans h.1))).symm
   ·rintro _ _;exact BJ () trivial (.cons (by show some (Value.bool _)=some (Value.bool _);congr 2;exact decide_eq_decide.2 ⟨.inr,fun h=>h.resolve_left h15⟩) Dk) rfl
  ·rintro _ _;refine J1 ?_;refine mC (fun hbad=>?_) (fun hbad=>?_)
   ·refine J2 ?_;refine JL Ya ?_;refine J5 ?_;exact mR [4] (HP.AA b o (Di rm)*(CQ rm*R)) rfl rfl ⟨rm,hok,by unfold Bf.data;rw [if_pos hbad],by unfold Bf.data;rw [if_pos hbad];rfl,rfl⟩
   refine J9 ?_;refine mc (fun h50=>?_) (fun h50=>?_)
   ·refine Hb ?_;refine J5 ?_;exact mR [4] (HP.AA b o (Di rm)*(CQ rm*R)) rfl rfl ⟨rm,hok,by unfold Bf.data;rw [if_neg hbad,if_pos h50],by unfold Bf.data;rw [if_neg hbad,if_pos h50];rfl,rfl⟩
   refine J4 ?_;have hb2:=hb h50;have hl2:=hl h50;refine Au (H':=HP.AA b o (Di rm)*(AB rm.a.b rm.a.o rm.r.b rm.a.s*(HP.AA b3 0 (AQ r)*(AZ rm.cq rm.ca rm.r.AE*R)))) (by unfold CQ;ac_rfl) ?_;refine J7 ?_;refine JL Kk ?_;refine DV ?_;refine DF (α:=Unit) (fun _=>[(0,ptr b o),(3,ptr b3 0),(5,uN (r.f.offset+r.f.data.size))]) (fun _=>AB rm.a.b rm.a.o (rm.r.b++a_ 0 0) rm.a.s*(HP.AA b o [.slice rm.a.p (rm.r.b++a_ 0 (0:UInt8)).length rm.a.c,ptr rm.cq 0,uN (max rm.r.high (r.f.offset+r.f.data.size)),uN (if r.f.fin then(r.f.offset+r.f.data.size)else rm.r.end_),.bool (rm.r.ended||r.f.fin),.bool rm.r.given,uN rm.r.code,uN rm.r.read,iN rm.r.state]*(HP.AA b3 0 (AQ r)*(AZ rm.cq rm.ca rm.r.AE*R)))) (fun _=>True) ?_ ?_
   ·refine mc (fun h65=>?_) (fun h65=>?_)
    ·refine B1 ?_;exact BJ () trivial Dk (by rw [h65];show _=AB rm.a.b rm.a.o (rm.r.b++a_ 0 0) rm.a.s*(HP.AA b o [.slice rm.a.p (rm.r.b++a_ 0 (0:UInt8)).length rm.a.c,ptr rm.cq 0,uN (max rm.r.high (r.f.offset+r.f.data.size)),uN (r.f.offset+r.f.data.size),.bool (rm.r.ended||true),.bool rm.r.given,uN rm.r.code,uN rm.r.read,iN rm.r.state]*_);rw [j_,kr,Bool.or_true];ac_rfl)
    refine J1 ?_;exact BJ () trivial Dk (by rw [h65];show _=AB rm.a.b rm.a.o (rm.r.b++a_ 0 0) rm.a.s*(HP.AA b o [.slice rm.a.p (rm.r.b++a_ 0 (0:UInt8)).length rm.a.c,ptr rm.cq 0,uN (max rm.r.high (r.f.offset+r.f.data.size)),uN rm.r.end_,.bool (rm.r.ended||false),.bool rm.r.given,uN rm.r.code,uN rm.r.read,iN rm.r.state]*_);rw [j_,kr,Bool.or_false];ac_rfl)
   ·rintro _ _;refine J3 ?_;refine Bj (α:=Nat×A8) (fun z=>[(0,ptr b o),(3,ptr b3 0),(5,uN (r.f.offset+r.f.data.size))]) (fun z=>AB z.2.b z.2.o (rm.r.b++a_ z.1 0) z.2.s*(HP.AA b o [.slice z.2.p (rm.r.b++a_ z.1 (0:UInt8)).length z.2.c,ptr rm.cq 0,uN (max rm.r.high (r.f.offset+r.f.data.size)),uN (if r.f.fin then(r.f.offset+r.f.data.size)else rm.r.end_),.bool (rm.r.ended||r.f.fin),.bool rm.r.given,uN rm.r.code,uN rm.r.read,iN rm.r.state]*(HP.AA b3 0 (AQ r)*(AZ rm.cq rm.ca rm.r.AE*R)))) (fun z=>z.1≤((max rm.r.high (r.f.offset+r.f.data.size))-(rm.r.read+rm.r.b.length))∧z.2.ok (rm.r.b++a_ z.1 (0:UInt8))) (fun z=>((max rm.r.high (r.f.offset+r.f.data.size))-(rm.r.read+rm.r.b.length))-z.1) (0,rm.a) ⟨Nat.zero_le _,by show A8.ok rm.a (rm.r.b++a_ 0 (0:UInt8));rw [j_,kr];exact hok.1⟩ Dk rfl ?_;rintro⟨nz,a1⟩ ⟨hnz,ha1⟩;dsimp only at hnz ha1⊢
    have hbl:(rm.r.b++a_ nz (0:UInt8)).length=rm.r.b.length+nz:=by rw [kh,kt]
    refine J2 ?_;refine Zu ?_;refine JT 10 rfl Kp ?_;refine QN ?_;refine JT 15 rfl OD ?_;refine FG ?_;refine mC (fun h88=>?_) (fun h88=>?_)
    ·skip
     have erep:rm.r.b++a_ nz (0:UInt8)++[0]=rm.r.b++a_ (nz+1) 0:=by rw [List.replicate_succ',kj]
     refine J9 ?_;refine Am (HD (cs:=[u8 0]) rfl Cq rfl rfl) rfl ?_;rintro _ _ ⟨b94,rfl,rfl⟩;refine BQ (H':=AB a1.b a1.o (rm.r.b++a_ nz 0) a1.s*(HP.AA b94 0 (AG [(0:UInt8)])*(HP.AA b o [.slice a1.p (rm.r.b++a_ nz (0:UInt8)).length a1.c,ptr rm.cq 0,uN (max rm.r.high (r.f.offset+r.f.data.size)),uN (if r.f.fin then(r.f.offset+r.f.data.size)else rm.r.end_),.bool (rm.r.ended||r.f.fin),.bool rm.r.given,uN rm.r.code,uN rm.r.read,iN rm.r.state]*(HP.AA b3 0 (AQ r)*(AZ rm.cq rm.ca rm.r.AE*R))))) (by show HP.AA b94 0 _*_=_;ac_rfl) ?_;refine Am (DG (ys:=[(0:UInt8)]) (bb:=b94) (oo:=0) (cc:=1) rfl ha1.1 ha1.2 rfl CS inferInstance rfl Cn Ca) rfl ?_;rintro _ _ ⟨p95,b95,o95,c95,s95,rfl,hs95,hc95,rfl⟩;refine J5 ?_
     refine D2 (H':=HP.AA b94 0 (AG [(0:UInt8)])*(AB (⟨p95,b95,o95,c95,s95⟩:A8).b (⟨p95,b95,o95,c95,s95⟩:A8).o (rm.r.b++a_ (nz+1) 0) (⟨p95,b95,o95,c95,s95⟩:A8).s*(HP.AA b o [.slice (⟨p95,b95,o95,c95,s95⟩:A8).p (rm.r.b++a_ (nz+1) (0:UInt8)).length (⟨p95,b95,o95,c95,s95⟩:A8).c,ptr rm.cq 0,uN (max rm.r.high (r.f.offset+r.f.data.size)),uN (if r.f.fin then(r.f.offset+r.f.data.size)else rm.r.end_),.bool (rm.r.ended||r.f.fin),.bool rm.r.given,uN rm.r.code,uN rm.r.read,iN rm.r.state]*(HP.AA b3 0 (AQ r)*(AZ rm.cq rm.ca rm.r.AE*R))))) (by dsimp only;rw [←erep];ac_rfl) ?_;refine Bo (AB (⟨p95,b95,o95,c95,s95⟩:A8).b (⟨p95,b95,o95,c95,s95⟩:A8).o (rm.r.b++a_ (nz+1) 0) (⟨p95,b95,o95,c95,s95⟩:A8).s*(HP.AA b o [.slice (⟨p95,b95,o95,c95,s95⟩:A8).p (rm.r.b++a_ (nz+1) (0:UInt8)).length (⟨p95,b95,o95,c95,s95⟩:A8).c,ptr rm.cq 0,uN (max rm.r.high (r.f.offset+r.f.data.size)),uN (if r.f.fin then(r.f.offset+r.f.data.size)else rm.r.end_),.bool (rm.r.ended||r.f.fin),.bool rm.r.given,uN rm.r.code,uN rm.r.read,iN rm.r.state]*(HP.AA b3 0 (AQ r)*(AZ rm.cq rm.ca rm.r.AE*R)))) ?_
     exact Ba (nz+1,(⟨p95,b95,o95,c95,s95⟩:A8)) ⟨by show nz+1≤_;omega,by show A8.ok _ (rm.r.b++a_ (nz+1) (0:UInt8));rw [←erep];exact⟨hs95,hc95⟩⟩ (by show((max rm.r.high (r.f.offset+r.f.data.size))-(rm.r.read+rm.r.b.length))-(nz+1)<((max rm.r.high (r.f.offset+r.f.data.size))-(rm.r.read+rm.r.b.length))-nz;omega) Dk rfl
    refine J7 ?_
    obtain rfl:nz=((max rm.r.high (r.f.offset+r.f.data.size))-(rm.r.read+rm.r.b.length)):=by omega
    refine Au (H':=AZ rm.cq rm.ca rm.r.AE*(HP.AA a1.b a1.o (AG (rm.r.b++a_ ((max rm.r.high (r.f.offset+r.f.data.size))-(rm.r.read+rm.r.b.length)) 0)++a1.s)*(HP.AA b o [.slice a1.p (rm.r.b++a_ ((max rm.r.high (r.f.offset+r.f.data.size))-(rm.r.read+rm.r.b.length)) 0).length a1.c,ptr rm.cq 0,uN (max rm.r.high (r.f.offset+r.f.data.size)),uN (if r.f.fin then(r.f.offset+r.f.data.size)else rm.r.end_),.bool (rm.r.ended||r.f.fin),.bool rm.r.given,uN rm.r.code,uN rm.r.read,iN rm.r.state]*(HP.AA b3 0 (AQ r)*R)))) R8 ?_;refine mA 8 8 ?_;refine Jy ?_;refine Jm 2 ?_;refine Jn 3 ?_;refine Jh ?_;refine JT 6 rfl Kk ?_;refine Ja 7 ?_;refine Dm ?_
    refine Bj (α:=O5) (fun z=>[(6,uN z.lo),(0,ptr b o),(3,ptr b3 0),(5,uN (r.f.offset+r.f.data.size))]) (fun z=>AZ rm.cq z.ca z.AE*(HP.AA a1.b a1.o (AG z.b++a1.s)*(HP.AA b o [.slice a1.p (rm.r.b++a_ ((max rm.r.high (r.f.offset+r.f.data.size))-(rm.r.read+rm.r.b.length)) 0).length a1.c,ptr rm.cq 0,uN (max rm.r.high (r.f.offset+r.f.data.size)),uN (if r.f.fin then(r.f.offset+r.f.data.size)else rm.r.end_),.bool (rm.r.ended||r.f.fin),.bool rm.r.given,uN rm.r.code,uN rm.r.read,iN rm.r.state]*(HP.AA b3 0 (AQ r)*R)))) (fun z=>GS z.n r.f.offset (r.f.offset+r.f.data.size) r.f.data.data.toList rm.r.read z.lo z.b z.AE=rm.r.filled r.f∧(r.f.offset+r.f.data.size)-z.lo<z.n∧r.f.offset≤z.lo∧rm.r.read≤z.lo∧z.lo<9000000000000000000∧z.b.length=(rm.r.b++a_ ((max rm.r.high (r.f.offset+r.f.data.size))-(rm.r.read+rm.r.b.length)) 0).length∧(DK z.AE (max rm.r.high (r.f.offset+r.f.data.size))∧z.AE.floor=0∧z.AE.AL=4096)∧(∀n,n<rm.r.read→Ao n z.AE.l)∧z.ca.ok z.AE) (fun z=>z.n) ⟨(r.f.offset+r.f.data.size)+1,max r.f.offset rm.r.read,(rm.r.b++a_ ((max rm.r.high (r.f.offset+r.f.data.size))-(rm.r.read+rm.r.b.length)) 0),rm.r.AE,rm.ca⟩ ⟨rfl,by show(r.f.offset+r.f.data.size)-max r.f.offset rm.r.read<(r.f.offset+r.f.data.size)+1;omega,Nat.le_max_left _ _,Nat.le_max_right _ _,by show max r.f.offset rm.r.read<_;omega,rfl,⟨hr.co.mono Rz,hr.cf,hr.cm⟩,hr.pre,hok.2⟩ Hq rfl ?_
    rintro z ⟨z1,z2,z3,z4,z5,z6,z7,z8,z9⟩
    have hb1l:(rm.r.b++a_ ((max rm.r.high (r.f.offset+r.f.data.size))-(rm.r.read+rm.r.b.length)) 0).length=(max rm.r.high (r.f.offset+r.f.data.size))-rm.r.read:=by rw [kh,kt];omega
    have hcl:=TM z7.1.inc z8 z7.1.hi (by omega:(max rm.r.high (r.f.offset+r.f.data.size))≤rm.r.read+1024);refine J8 ?_;refine mC (fun h107=>?_) (fun h107=>?_)
    ·obtain⟨ga,gb,gc,gd,ge⟩:=HS z.AE.l z.lo (r.f.offset+r.f.data.size) z7.1.inc Ca;refine J5 ?_;refine HE ?_;refine B1 ?_;refine mE rfl (Py rm.cq z.lo (r.f.offset+r.f.data.size) (max rm.r.high (r.f.offset+r.f.data.size)) z.ca z.AE _ z9 z7.1 Ca Ca) ?_;refine JR ?_;refine B1 ?_;refine JL Lh ?_;refine J2 ?_;refine mC (fun hgx=>?_) (fun hgx=>?_)
     ·skip
      have hstop:GS z.n r.f.offset (r.f.offset+r.f.data.size) r.f.data.data.toList rm.r.read z.lo z.b z.AE=(z.b,z.AE):=by
       obtain⟨nn,hnn⟩:∃nn,z.n=nn+1:=⟨z.n-1,Ca⟩
       rw [hnn,GS];simp only [h107,if_true,hgx]
      refine J8 ?_;refine E4 ?_
      have hfin:rm.r.filled r.f=(z.b,z.AE):=by rw [←z1,hstop]
      have ewr:rm.r.data r.f=(0,rm.r.IK r.f):=by unfold Bf.data;rw [if_neg hbad,if_neg (by rw [h50];simp)]
      obtain⟨rm2,hrm2⟩:∃rm2:Dt,rm2=⟨rm.r.IK r.f,a1,rm.cq,z.ca⟩:=Bl
      have hdo:rm.r.IK r.f={rm.r with high:=(max rm.r.high (r.f.offset+r.f.data.size)),ended:=(rm.r.ended||r.f.fin),end_:=(if r.f.fin then(r.f.offset+r.f.data.size)else rm.r.end_),b:=z.b,AE:=z.AE}:=by unfold Bf.IK;rw [hfin]
      exact mR [4] (HP.AA b o (Di rm2)*(CQ rm2*R)) (hE:=⟨fun ww hw=>Sat.right (A:=HP.AA b3 0 (AQ r)) (h_ (by
       congr 1
       rw [hrm2,hdo]
       unfold CQ AB
       refine dG ?_
       rw [z6]
       ac_rfl) hw)⟩) rfl rfl ⟨rm2,eL,by rw [hrm2,ewr],Cr,rfl⟩
     have hglt:(AV z.lo (r.f.offset+r.f.data.size) z.AE.l).1<(AV z.lo (r.f.offset+r.f.data.size) z.AE.l).2:=by
      rcases Nat.lt_or_ge (AV z.lo (r.f.offset+r.f.data.size) z.AE.l).1 (AV z.lo (r.f.offset+r.f.data.size) z.AE.l).2 with h|h
      ·exact h
      ·exact absurd (ge h) hgx
     have hdl:((r.f.data.data.toList.drop ((AV z.lo (r.f.offset+r.f.data.size) z.AE.l).1-r.f.offset)).take ((AV z.lo (r.f.offset+r.f.data.size) z.AE.l).2-(AV z.lo (r.f.offset+r.f.data.size) z.AE.l).1)).length=(AV z.lo (r.f.offset+r.f.data.size) z.AE.l).2-(AV z.lo (r.f.offset+r.f.data.size) z.AE.l).1:=by
      rw [i_,ky,VC];omega
     have hzb:z.b.length=(max rm.r.high (r.f.offset+r.f.data.size))-rm.r.read:=z6.trans hb1l
     have hcap:(max rm.r.high (r.f.offset+r.f.data.size))-rm.r.read≤a1.c:=by have:=ha1.1.2;rw [hb1l]at this;exact this
     have hfl:(AG z.b++a1.s).length=a1.c:=by rw [kh,By,z6];have:=ha1.2;simp only [Rw,Nat.mul_one]at this⊢;omega
     refine J3 ?_;refine Au (H':=HP.AA a1.b a1.o (AG z.b++a1.s)*(AZ rm.cq z.ca z.AE*(HP.AA b o [.slice a1.p (rm.r.b++a_ ((max rm.r.high (r.f.offset+r.f.data.size))-(rm.r.read+rm.r.b.length)) 0).length a1.c,ptr rm.cq 0,uN (max rm.r.high (r.f.offset+r.f.data.size)),uN (if r.f.fin then(r.f.offset+r.f.data.size)else rm.r.end_),.bool (rm.r.ended||r.f.fin),.bool rm.r.given,uN rm.r.code,uN rm.r.read,iN rm.r.state]*(HP.AA b3 0 (AQ r)*R)))) Cg ?_;refine mA 28 29 ?_;refine K0 ?_;refine Jm 5 ?_;refine NH ?_;refine JT 9 rfl H3 ?_;refine Jm 10 ?_;refine QN ?_;refine JT 15 rfl H3 ?_;refine JT 16 rfl (OK rfl rfl rfl Ca) ?_;refine Jf 17 ?_;refine Jd 18 ?_;refine Jm 19 ?_;refine Jf 20 ?_;refine Jd 21 ?_;refine JT 22 rfl H3 ?_;refine Jm 23 ?_;refine Jf 24 ?_;refine Jd 25 ?_;refine JT 26 rfl H3 ?_;refine JT 27 rfl (eC rfl rfl rfl Ca) ?_
     refine Av 28 Cb rfl rfl (wK (b:=a1.b) (o:=a1.o) (k:=(AV z.lo (r.f.offset+r.f.data.size) z.AE.l).1-rm.r.read) (ys:=(r.f.data.data.toList.drop ((AV z.lo (r.f.offset+r.f.data.size) z.AE.l).1-r.f.offset)).take ((AV z.lo (r.f.offset+r.f.data.size) z.AE.l).2-(AV z.lo (r.f.offset+r.f.data.size) z.AE.l).1)) rfl (E3 ha1.1 Ca Ca rfl) rfl (nK r.f.data _ _ _ _ Ca (by have:=VC r.f;omega) Ca Ca) (by rw [hfl];omega)) ?_;refine Kf ?_
     have eput:(AG z.b++a1.s).take ((AV z.lo (r.f.offset+r.f.data.size) z.AE.l).1-rm.r.read)++AG ((r.f.data.data.toList.drop ((AV z.lo (r.f.offset+r.f.data.size) z.AE.l).1-r.f.offset)).take ((AV z.lo (r.f.offset+r.f.data.size) z.AE.l).2-(AV z.lo (r.f.offset+r.f.data.size) z.AE.l).1))++(AG z.b++a1.s).drop ((AV z.lo (r.f.offset+r.f.data.size) z.AE.l).1-rm.r.read+((r.f.data.data.toList.drop ((AV z.lo (r.f.offset+r.f.data.size) z.AE.l).1-r.f.offset)).take ((AV z.lo (r.f.offset+r.f.data.size) z.AE.l).2-(AV z.lo (r.f.offset+r.f.data.size) z.AE.l).1)).length)=AG (Gs z.b ((AV z.lo (r.f.offset+r.f.data.size) z.AE.l).1-rm.r.read) ((r.f.data.data.toList.drop ((AV z.lo (r.f.offset+r.f.data.size) z.AE.l).1-r.f.offset)).take ((AV z.lo (r.f.offset+r.f.data.size) z.AE.l).2-(AV z.lo (r.f.offset+r.f.data.size) z.AE.l).1)))++a1.s:=by
      have h3:=OB z.b ((AV z.lo (r.f.offset+r.f.data.size) z.AE.l).1-rm.r.read) a1.s Ca;have h4:=S5 z.b ((AV z.lo (r.f.offset+r.f.data.size) z.AE.l).1-rm.r.read+((r.f.data.data.toList.drop ((AV z.lo (r.f.offset+r.f.data.size) z.AE.l).1-r.f.offset)).take ((AV z.lo (r.f.offset+r.f.data.size) z.AE.l).2-(AV z.lo (r.f.offset+r.f.data.size) z.AE.l).1)).length) a1.s (by rw [hdl];omega);simp only [Rw,Nat.mul_one]at h3 h4;rw [h3,h4];unfold Gs;simp only [E7,kj]
     refine Au (H':=AZ rm.cq z.ca z.AE*(HP.AA a1.b a1.o (AG (Gs z.b ((AV z.lo (r.f.offset+r.f.data.size) z.AE.l).1-rm.r.read) ((r.f.data.data.toList.drop ((AV z.lo (r.f.offset+r.f.data.size) z.AE.l).1-r.f.offset)).take ((AV z.lo (r.f.offset+r.f.data.size) z.AE.l).2-(AV z.lo (r.f.offset+r.f.data.size) z.AE.l).1)))++a1.s)*(HP.AA b o [.slice a1.p (rm.r.b++a_ ((max rm.r.high (r.f.offset+r.f.data.size))-(rm.r.read+rm.r.b.length)) 0).length a1.c,ptr rm.cq 0,uN (max rm.r.high (r.f.offset+r.f.data.size)),uN (if r.f.fin then(r.f.offset+r.f.data.size)else rm.r.end_),.bool (rm.r.ended||r.f.fin),.bool rm.r.given,uN rm.r.code,uN rm.r.read,iN rm.r.state]*(HP.AA b3 0 (AQ r)*R)))) (by rw [←eput];ac_rfl) ?_;refine J7 ?_;refine JL Ny ?_;refine mE rfl (KX rm.cq _ _ (max rm.r.high (r.f.offset+r.f.data.size)) z.ca z.AE _ z9 z7.1 Ca Ca (by rw [z7.2.2];omega) (by rw [z7.2.2];omega)) ?_;rintro _ _ ⟨a157,hs157,rfl⟩;refine J7 ?_;obtain⟨f1,f2,f3,f4⟩:=Yo (lo:=(AV z.lo (r.f.offset+r.f.data.size) z.AE.l).1) (hi:=(AV z.lo (r.f.offset+r.f.data.size) z.AE.l).2-1) z7.1 z7.2.1 z7.2.2 Ca Ca Ca
     refine D2 (H':=AZ rm.cq (⟨z.n-1,(AV z.lo (r.f.offset+r.f.data.size) z.AE.l).2,Gs z.b ((AV z.lo (r.f.offset+r.f.data.size) z.AE.l).1-rm.r.read) ((r.f.data.data.toList.drop ((AV z.lo (r.f.offset+r.f.data.size) z.AE.l).1-r.f.offset)).take ((AV z.lo (r.f.offset+r.f.data.size) z.AE.l).2-(AV z.lo (r.f.offset+r.f.data.size) z.AE.l).1)),z.AE.add (AV z.lo (r.f.offset+r.f.data.size) z.AE.l).1 ((AV z.lo (r.f.offset+r.f.data.size) z.AE.l).2-1),a157⟩:O5).ca (⟨z.n-1,(AV z.lo (r.f.offset+r.f.data.size) z.AE.l).2,Gs z.b ((AV z.lo (r.f.offset+r.f.data.size) z.AE.l).1-rm.r.read) ((r.f.data.data.toList.drop ((AV z.lo (r.f.offset+r.f.data.size) z.AE.l).1-r.f.offset)).take ((AV z.lo (r.f.offset+r.f.data.size) z.AE.l).2-(AV z.lo (r.f.offset+r.f.data.size) z.AE.l).1)),z.AE.add (AV z.lo (r.f.offset+r.f.data.size) z.AE.l).1 ((AV z.lo (r.f.offset+r.f.data.size) z.AE.l).2-1),a157⟩:O5).AE*(HP.AA a1.b a1.o (AG (⟨z.n-1,(AV z.lo (r.f.offset+r.f.data.size) z.AE.l).2,Gs z.b ((AV z.lo (r.f.offset+r.f.data.size) z.AE.l).1-rm.r.read) ((r.f.data.data.toList.drop ((AV z.lo (r.f.offset+r.f.data.size) z.AE.l).1-r.f.offset)).take ((AV z.lo (r.f.offset+r.f.data.size) z.AE.l).2-(AV z.lo (r.f.offset+r.f.data.size) z.AE.l).1)),z.AE.add (AV z.lo (r.f.offset+r.f.data.size) z.AE.l).1 ((AV z.lo (r.f.offset+r.f.data.size) z.AE.l).2-1),a157⟩:O5).b++a1.s)*(HP.AA b o [.slice a1.p (rm.r.b++a_ ((max rm.r.high (r.f.offset+r.f.data.size))-(rm.r.read+rm.r.b.length)) 0).length a1.c,ptr rm.cq 0,uN (max rm.r.high (r.f.offset+r.f.data.size)),uN (if r.f.fin then(r.f.offset+r.f.data.size)else rm.r.end_),.bool (rm.r.ended||r.f.fin),.bool rm.r.given,uN rm.r.code,uN rm.r.read,iN rm.r.state]*(HP.AA b3 0 (AQ r)*R)))) rfl ?_
     refine Ba (⟨z.n-1,(AV z.lo (r.f.offset+r.f.data.size) z.AE.l).2,Gs z.b ((AV z.lo (r.f.offset+r.f.data.size) z.AE.l).1-rm.r.read) ((r.f.data.data.toList.drop ((AV z.lo (r.f.offset+r.f.data.size) z.AE.l).1-r.f.offset)).take ((AV z.lo (r.f.offset+r.f.data.size) z.AE.l).2-(AV z.lo (r.f.offset+r.f.data.size) z.AE.l).1)),z.AE.add (AV z.lo (r.f.offset+r.f.data.size) z.AE.l).1 ((AV z.lo (r.f.offset+r.f.data.size) z.AE.l).2-1),a157⟩:O5) ⟨?_,?_,?_,?_,?_,?_,⟨f1,f2.trans rfl,f3⟩,fun n hn=>(f4 n).2 (.inr (z8 n hn)),hs157⟩ (by show z.n-1<z.n;omega) Hq rfl
     ·obtain⟨nn,hnn⟩:∃nn,z.n=nn+1:=⟨z.n-1,Ca⟩
      rw [←z1,hnn,GS];simp only [h107,if_true,hgx,if_false,Nat.add_sub_cancel]
     ·show(r.f.offset+r.f.data.size)-(AV z.lo (r.f.offset+r.f.data.size) z.AE.l).2<z.n-1;omega
     ·show r.f.offset≤(AV z.lo (r.f.offset+r.f.data.size) z.AE.l).2;omega
     ·show rm.r.read≤(AV z.lo (r.f.offset+r.f.data.size) z.AE.l).2;omega
     ·show(AV z.lo (r.f.offset+r.f.data.size) z.AE.l).2<_;omega
     ·show(Gs _ _ _).length=_;rw [dN (by rw [hdl];omega)];exact z6
    have hstop:GS z.n r.f.offset (r.f.offset+r.f.data.size) r.f.data.data.toList rm.r.read z.lo z.b z.AE=(z.b,z.AE):=by
     cases z.n with
     |zero=>rfl
     |succ nn=>rw [GS];simp only [h107,if_false]
    refine J7 ?_;refine E4 ?_
    have hfin:rm.r.filled r.f=(z.b,z.AE):=by rw [←z1,hstop]
    have ewr:rm.r.data r.f=(0,rm.r.IK r.f):=by unfold Bf.data;rw [if_neg hbad,if_neg (by rw [h50];simp)]
    obtain⟨rm2,hrm2⟩:∃rm2:Dt,rm2=⟨rm.r.IK r.f,a1,rm.cq,z.ca⟩:=Bl
    have hdo:rm.r.IK r.f={rm.r with high:=(max rm.r.high (r.f.offset+r.f.data.size)),ended:=(rm.r.ended||r.f.fin),end_:=(if r.f.fin then(r.f.offset+r.f.data.size)else rm.r.end_),b:=z.b,AE:=z.AE}:=by unfold Bf.IK;rw [hfin]
    exact mR [4] (HP.AA b o (Di rm2)*(CQ rm2*R)) (hE:=⟨fun ww hw=>Sat.right (A:=HP.AA b3 0 (AQ r)) (h_ (by
     congr 1
     rw [hrm2,hdo]
     unfold CQ AB
     refine dG ?_
     rw [z6]
     ac_rfl) hw)⟩) rfl rfl ⟨rm2,eL,by rw [hrm2,ewr],Cr,rfl⟩
def Et(m:Aj)(cb:Nat):HP:=AZ m.x.gq m.ga m.AI*(BB cb m.ws*DS m)
theorem MS(cb:Nat)(m:Aj)(R:HP)(j:Nat)(hj:j<m.rs.length):Ac cb m*R=AX cb m.x*(HP.AA cb (0+83+j*9) (Di (m.rs.getD j AC.AK))*(CQ (m.rs.getD j AC.AK)*(Eb cb m.rs j*(Et m cb*R)))):=by
 unfold Ac Et;rw [nB cb m.rs j hj];ac_rfl
theorem PX(cb:Nat)(m:Aj)(R:HP)(j:Nat)(hj:j<m.rs.length)(y:Dt):Ac cb (m.BV j y)*R=AX cb m.x*(HP.AA cb (0+83+j*9) (Di y)*(CQ y*(Eb cb m.rs j*(Et m cb*R)))):=by
 unfold Ac;show AX cb m.x*(AZ m.x.gq m.ga m.AI*(BB cb m.ws*(Be cb (m.rs.set j y)*DS m)))*R=_;rw [sI cb m.rs j y hj];unfold Et;ac_rfl
set_option maxHeartbeats 4000000 in
theorem zG(cb t:Nat)(m:Aj)(r:RF)(R:HP)(hm:m.ok)(hi:AY t m.s)(ht:t<1000000)(hf:Jj r.f)(hb:¬m.s.busy r.f)(hro:r.ok)(hrr:Ai B R r.b r.o r.f.ranges)(hrl:r.f.ranges.length<100000000):
  Fn Tryz.prog B 146 [ptr cb 0,.agg (AQ r).toArray] (Ac cb m*R)
   (fun v H'=>∃m':Aj,m'.ok∧m'.s=(m.s.take r.f).2∧v=iN (m.s.take r.f).1∧H'=Ac cb m'*R):=by
 refine mI Tryz.func146 ?_
 obtain⟨j,hst⟩:∃j:Nat,r.f.stream=(j:Int):=⟨_,(kv hf.1).symm⟩
 have hj:j<4:=by have:=hf.2.1;omega
 have hjl:j<m.rs.length:=by rw [Aj.PZ hi];exact hj
 have hrok:=Aj.TU hi hj;have hrm2:=hm.rs _ LD
 have erj:m.s.r r.f.stream.toNat=(m.rs.getD j AC.AK).r:=by rw [hst,c_];exact m.Qf j hjl
 have esj:r.f.stream.toNat=j:=by rw [hst,c_]
 refine Lx ?_;rintro _ _ ⟨b3,rfl,rfl⟩;refine E4 ?_;generalize hrm:m.rs.getD j AC.AK=rm at*;refine Au (H':=HP.AA b3 0 (AQ r)*(HP.AA cb (0+83+j*9) (Di rm)*(CQ rm*(AX cb m.x*(Eb cb m.rs j*(Et m cb*R)))))) (by rw [MS cb m R j hjl,hrm];show HP.AA b3 0 _*_=_;ac_rfl) ?_;refine mA 7 7 ?_;refine GZ ?_;refine P5 ?_;refine Ja 6 ?_;refine JD ?_;refine B1 ?_;refine JL (DI (j:=3) rfl rfl) ?_;refine J3 ?_;refine mC (fun hk3=>?_) (fun hk3=>?_)
 ·have hok3:=hf.2.2.2.2.2 hk3
  have hne3:0<r.f.ranges.length:=by
   rcases Nat.eq_zero_or_pos r.f.ranges.length with h|h
   ·exact absurd (e_.1 h) hok3.1
   ·exact h
  have hhi3:=(hok3.2 0 hne3).2.1;refine J5 ?_;refine BQ (H':=Ac cb m*(HP.AA b3 0 (AQ r)*R)) (by rw [MS cb m _ j hjl,hrm];ac_rfl) ?_;have hrr3:=hrr;refine mE rfl (ar cb t m r.f.ranges r.p r.b r.o r.c _ hm hi ht hro inferInstance hne3 hrl Ca) ?_;rintro _ _ ⟨m2,hm2,hs2,rfl,rfl⟩;refine J6 ?_
  have ewr:m.s.take r.f=m.s.BM r.f.ranges:=by unfold AD.take;rw [if_pos hk3]
  exact mR [4] (Ac cb m2*R) (hE:=⟨fun ww hw=>Sat.right (A:=HP.AA b3 0 (AQ r)) (h_ Co hw)⟩) rfl rfl ⟨m2,hm2,by rw [ewr,hs2],Cr,rfl⟩
 refine J2 ?_;refine JL (DI (j:=4) rfl rfl) ?_;refine J3 ?_;refine mC (fun hk4=>?_) (fun hk4=>?_)
 ·refine J2 ?_;refine DF (α:=Unit) (fun _=>[(43,.bool (decide (rm.r.ended=true∧rm.r.end_≠r.f.offset∨r.f.offset<rm.r.high))),(5,ptr cb (0+83+j*9)),(3,ptr b3 0),(0,ptr cb 0)]) (fun _=>HP.AA b3 0 (AQ r)*(HP.AA cb (0+83+j*9) (Di rm)*(CQ rm*(AX cb m.x*(Eb cb m.rs j*(Et m cb*R)))))) (fun _=>True) ?_ ?_
  ·refine mA 22 22 ?_;refine K0 ?_;refine LO 26 rfl (fun hg1=>?_) (fun hg1=>?_)
   ·have he:rm.r.ended=true:=hg1;refine XJ ?_;refine JY 9 rfl hg1 BW ?_;refine JY 10 rfl hg1 Bg ?_;refine JY 11 rfl hg1 (FB rfl rfl) ?_;refine JT 12 rfl J0 ?_;refine Jm 13 ?_;refine Gv 35 rfl (fun hg2=>?_) (fun hg2=>?_)
    ·have hne:rm.r.end_≠r.f.offset:=hg2;refine JN 14 rfl T2 ?_;refine JN 15 rfl T2 ?_;refine JN 16 rfl T2 ?_;refine JN 17 rfl T2 ?_;refine JN 18 rfl T2 ?_;refine JN 19 rfl T2 ?_;refine JN 20 rfl T2 ?_;refine JT 21 rfl IY ?_;refine JD ?_;refine BJ () trivial (.cons ?_ Ea) rfl;refine FJ ?_;congr 2
     first
      |exact(decide_eq_true (.inl ⟨he,hne⟩)).symm
      |exact decide_eq_decide.2 ⟨.inr,fun h=>h.elim (fun h=>absurd h.2 hne) id⟩
      |exact decide_eq_decide.2 ⟨.inr,fun h=>h.elim (fun h=>absurd (he.symm.trans h.1) b_) id⟩
    have hne:¬rm.r.end_≠r.f.offset:=hg2;refine JY 14 rfl F2 BW ?_;refine JY 15 rfl F2 Bg ?_;refine JY 16 rfl F2 Bd ?_;refine JY 17 rfl F2 CT ?_;refine JY 18 rfl F2 BW ?_;refine JY 19 rfl F2 Bg ?_;refine JY 20 rfl F2 OD ?_;refine JT 21 rfl Hr ?_;refine JD ?_;refine BJ () trivial (.cons ?_ Ea) rfl;refine FJ ?_;congr 2
    first
     |exact(decide_eq_true (.inl ⟨he,hne⟩)).symm
     |exact decide_eq_decide.2 ⟨.inr,fun h=>h.elim (fun h=>absurd h.2 hne) id⟩
     |exact decide_eq_decide.2 ⟨.inr,fun h=>h.elim (fun h=>absurd (he.symm.trans h.1) b_) id⟩
   have he:rm.r.ended=false:=hg1;refine JN 5 rfl hg1 ?_;refine RY ?_;refine JN 10 rfl hg1 ?_;refine JN 11 rfl hg1 ?_;refine JT 12 rfl ID ?_;refine Jm 13 ?_;refine kT ?_;refine fC ?_;refine ZY ?_;refine XW ?_;refine kM ?_;refine fE ?_;refine Al 20 rfl Cb rfl rfl rfl rfl OD ?_;refine JT 21 rfl EB ?_;refine JD ?_;refine BJ () trivial (.cons ?_ Ea) rfl;refine FJ ?_;congr 2
   first
    |exact(decide_eq_true (.inl ⟨he,hne⟩)).symm
    |exact decide_eq_decide.2 ⟨.inr,fun h=>h.elim (fun h=>absurd h.2 hne) id⟩
    |exact decide_eq_decide.2 ⟨.inr,fun h=>h.elim (fun h=>absurd (he.symm.trans h.1) b_) id⟩
  ·rintro _ _;refine J1 ?_;refine mC (fun h43=>?_) (fun h43=>?_)
   ·refine J2 ?_;refine JL Ya ?_;refine J6 ?_
    have ewr:m.s.take r.f=(7,m.s):=by unfold AD.take;rw [if_neg hk3,if_pos hk4,erj,if_pos h43]
    exact S'
   refine J9 ?_;refine JP ?_;refine DF (α:=Unit) (fun _=>[(5,ptr cb (0+83+j*9)),(3,ptr b3 0),(0,ptr cb 0)]) (fun _=>HP.AA cb (0+83+j*9) [.slice rm.a.p rm.r.b.length rm.a.c,ptr rm.cq 0,uN rm.r.high,uN rm.r.end_,.bool rm.r.ended,.bool rm.r.given,uN (if rm.r.given then rm.r.code else r.f.code),uN rm.r.read,iN rm.r.state]*(HP.AA b3 0 (AQ r)*(CQ rm*(AX cb m.x*(Eb cb m.rs j*(Et m cb*R)))))) (fun _=>True) ?_ ?_
   ·refine mc (fun h48=>?_) (fun h48=>?_)
    ·refine J8 ?_;exact BJ () trivial Ea (by have h9:rm.r.given=false:=(by simpa using h48);rw [h9];show _=HP.AA cb (0+83+j*9) [.slice rm.a.p rm.r.b.length rm.a.c,ptr rm.cq 0,uN rm.r.high,uN rm.r.end_,.bool rm.r.ended,.bool false,uN r.f.code,uN rm.r.read,iN rm.r.state]*_;rw [←h9];ac_rfl)
    refine J1 ?_;exact BJ () trivial Ea (by have h9:rm.r.given=true:=(by simpa using h48);rw [if_pos h9];show HP.AA b3 0 _*(HP.AA cb (0+83+j*9) [.slice rm.a.p rm.r.b.length rm.a.c,ptr rm.cq 0,uN rm.r.high,uN rm.r.end_,.bool rm.r.ended,.bool rm.r.given,uN rm.r.code,uN rm.r.read,iN rm.r.state]*_)=_;ac_rfl)
   ·rintro _ _;refine J1 ?_;refine ET (HP.AA b3 0 (AQ r)*(CQ rm*(AX cb m.x*(Eb cb m.rs j*(Et m cb*R))))) 13 14 Ef rfl Cb ?_;refine El ?_;refine Jm 2 ?_;refine PF ?_;refine JB ?_;refine Jn 5 ?_;refine Jf 6 ?_;refine Dx 7 Cb rfl FL ?_;refine Fm ?_;refine Jn 8 ?_;refine P3 ?_;refine Fm ?_;refine Jn 11 ?_;refine Jf 12 ?_;refine O6 ?_;refine Dh ?_;refine J4 ?_;refine E4 ?_
    have ewr:m.s.take r.f=(0,m.s.BV j {rm.r with code:=(if rm.r.given then rm.r.code else r.f.code),given:=true,ended:=true,end_:=r.f.offset}):=by unfold AD.take;rw [if_neg hk3,if_pos hk4,erj,if_neg h43,esj]
    obtain⟨rd2,hrd2⟩:∃rd2:Dt,rd2={rm with r:={rm.r with code:=(if rm.r.given then rm.r.code else r.f.code),given:=true,ended:=true,end_:=r.f.offset}}:=Bl
    exact mR [4] (Ac cb (m.BV j rd2)*R) (hE:=⟨fun ww hw=>Sat.right (A:=HP.AA b3 0 (AQ r)) (h_ (by
     congr 1
     rw [PX cb m R j hjl,hrd2]
     show _=HP.AA b3 0 (AQ r)*(AX cb m.x*(HP.AA cb (0+83+j*9) [.slice rm.a.p rm.r.b.length rm.a.c,ptr rm.cq 0,uN rm.r.high,uN r.f.offset,.bool true,.bool true,uN (if rm.r.given then rm.r.code else r.f.code),uN rm.r.read,iN rm.r.state]*(CQ rm*_)))
     ac_rfl) hw)⟩) rfl rfl ⟨m.BV j rd2,hm.BV (by rw [hrd2];exact hrm2),Vs,Cr,rfl⟩
 refine J2 ?_;refine JL SZ ?_;refine J3 ?_;refine mC (fun hk5=>?_) (fun hk5=>?_)
 ·refine J3 ?_;refine JL V6 ?_;refine BQ (H':=HP.AA cb (0+83+j*9) (Di rm)*(CQ rm*(HP.AA b3 0 (AQ r)*(AX cb m.x*(Eb cb m.rs j*(Et m cb*R)))))) Cg ?_;refine mE rfl (sX cb (0+83+j*9) t m.x.AF rm r _ hrm2 hrok hi.w2 hf hk5 (fun hg=>by rcases Nat.lt_or_ge (rm.r.read+m.x.AF) (r.f.offset+r.f.data.size)with h|h;exact absurd ⟨hk5,by rw [erj];exact hg,by rw [erj];exact h⟩ hb;exact h) ht) ?_;rintro _ _ ⟨rd2,hrd2,hrd2e,rfl,rfl⟩;refine J6 ?_
  have ewr:m.s.take r.f=((rm.r.data r.f).1,m.s.BV j (rm.r.data r.f).2):=by unfold AD.take;rw [if_neg hk3,if_neg hk4,if_pos hk5,erj,esj]
  exact mR [4] (Ac cb (m.BV j rd2)*R) (hE:=⟨fun ww hw=>Sat.right (A:=HP.AA b3 0 (AQ r)) (h_ Uf hw)⟩) rfl rfl ⟨m.BV j rd2,hm.BV hrd2,by rw [Aj.Q',ewr,hrd2e],Cr,rfl⟩
 refine J2 ?_;refine JL (DI (j:=6) rfl rfl) ?_;refine J3 ?_;refine mC (fun hk6=>?_) (fun hk6=>?_)
 ·refine J2 ?_;refine JL (Fx (v:=.int .i64 (10:Nat)) rfl) ?_;refine J5 ?_
  have ewr:m.s.take r.f=(10,m.s):=by unfold AD.take;rw [if_neg hk3,if_neg hk4,if_neg hk5,if_pos hk6]
  exact S'
 refine J5 ?_;refine E4 ?_
 have ewr:m.s.take r.f=(0,m.s):=by unfold AD.take;rw [if_neg hk3,if_neg hk4,if_neg hk5,if_neg hk6]
 exact S'
end
section
variable{B:World}
theorem CB.of{α:Type}[AC α]{R:HP}{xs:List α}{p:Option Addr}{b o c:Nat}{s:List Value}(h:Sl p b o xs.length c)(h2:xs.length*AC.sz α+s.length=c*AC.sz α):CB R xs (.slice p xs.length c) (AB b o xs s*R):=⟨p,b,o,c,s,rfl,h,h2,rfl⟩
theorem CB.nil(R:HP):CB R ([]:List UInt8) (.slice none 0 0) R:=⟨none,0,0,0,[],rfl,Gi,rfl,M2⟩
theorem s6(xs:List UInt8)(b o c:Nat)(H:HP)(hs:Sl none b o xs.length c)(hr:Ai B H b o xs)(hx:xs.length<100000000000):
  Fn Tryz.prog B 148 [.slice none xs.length c] H (fun v H'=>CB H xs v H'):=by
 refine mI Tryz.func148 ?_;refine J9 ?_;refine JL OW ?_;refine J2 ?_;refine mc (fun hc=>?_) (fun hc=>?_);rotate_left
 ·cases hc
 refine J7 ?_;have hx:xs=[]:=e_.1 (by have h1:=hs.1;have h2:=hs.2;rcases h1 with h1|h1;omega;cases h1);exact mr [2] rfl rfl (by rw [hx];exact CB.nil H)
theorem vY(a:Addr)(xs:List UInt8)(b o c:Nat)(H:HP)(hs:Sl (some a) b o xs.length c)(hr:Ai B H b o xs)(hx:xs.length<100000000000):
  Fn Tryz.prog B 148 [.slice (some a) xs.length c] H (fun v H'=>CB H xs v H'):=by
 refine mI Tryz.func148 ?_;refine J9 ?_;refine Km ?_;refine mc (fun hc=>?_) (fun hc=>?_)
 ·cases hc
 refine J4 ?_;refine Am (qA) rfl ?_;rintro _ _ ⟨b5,rfl,rfl⟩;refine J1 ?_;refine Am (DG (α:=UInt8) (xs:=[]) (ys:=xs) (b:=b5) (o:=0) (c:=0) (s:=[]) (bb:=b) (oo:=o) rfl CS rfl rfl hs inferInstance rfl (by simp only [List.length_nil];omega) Ca) rfl ?_;rintro _ _ ⟨p7,b7,o7,c7,s7,rfl,hs7,hc7,rfl⟩;refine J4 ?_;exact mr [2] rfl rfl ⟨p7,b7,o7,c7,s7,rfl,hs7,hc7,rfl⟩
theorem xO(xs:List UInt8)(p:Option Addr)(b o c:Nat)(H:HP)(hs:Sl p b o xs.length c)(hr:Ai B H b o xs)(hx:xs.length<100000000000):
  Fn Tryz.prog B 148 [.slice p xs.length c] H (fun v H'=>CB H xs v H'):=by
 cases p with
 |none=>exact s6 xs b o c H hs hr hx
 |some a=>exact vY a xs b o c H hs hr hx
set_option maxHeartbeats 4000000 in
theorem xN(cb t:Nat)(m:Aj)(k AL:Int)(R:HP)(hm:m.ok)(hi:AY t m.s)(ht:t<1000000)(hmo:AL<9223372036854775808):
  Fn Tryz.prog B 95 [ptr cb 0,.int .i64 k,.int .i64 AL] (Ac cb m*R)
   (fun v H'=>∃m':Aj,m'.ok∧∃sv,m'.s=(m.s.read k AL).2∧v=.tuple #[sv,iN (m.s.read k AL).1.2.1,uN (m.s.read k AL).1.2.2.1,D5 (m.s.read k AL).1.2.2.2]∧
    (((m.s.read k AL).1.1=[]∧sv=.slice none 0 0∧H'=Ac cb m'*R)∨((m.s.read k AL).1.1≠ []∧CB (Ac cb m'*R) (m.s.read k AL).1.1 sv H'))):=by
 refine mI Tryz.func95 ?_;have hw2:m.x.AF≤1024:=hi.w2;refine Au Nb ?_;refine J3 ?_;refine FT ?_;refine HE ?_;refine J8 ?_;refine QP ?_;refine mC (fun h20=>?_) (fun h20=>?_)
 ·refine J4 ?_;refine FT ?_;refine HE ?_;refine J5 ?_;refine mR [6,7,8,9] (Ac cb m*R) (hE:=by rw [Hw];infer_instance) rfl rfl ⟨m,hm,.slice none 0 0,?_,?_,.inl ⟨?_,rfl,rfl⟩⟩
  ·unfold AD.read;rw [if_pos TC]
  ·unfold AD.read;rw [if_pos TC];rfl
  ·unfold AD.read;rw [if_pos TC]
 have h20:FY m.x.closed k=0:=by simpa using h20
 obtain⟨hcl,j,rfl,hj⟩:=Mw h20
 have hjl:j<m.rs.length:=by rw [Aj.PZ hi];exact hj
 have hrok:=Aj.TU hi hj;have hrm2:=hm.rs _ LD;have erj:=m.Qf j hjl;refine Au (H':=HP.AA cb (0+83+j*9) (Di (m.rs.getD j AC.AK))*(CQ (m.rs.getD j AC.AK)*(AX cb m.x*(Eb cb m.rs j*(Et m cb*R))))) (by rw [←Hw,MS cb m R j hjl];ac_rfl) ?_;generalize hrm:m.rs.getD j AC.AK=rm at*;refine J8 ?_;refine JL N2 ?_;refine J5 ?_;refine DF (α:=Unit) (fun _=>[(37,.bool (decide (rm.r.given=true∧rm.r.state=0))),(11,ptr cb (0+83+j*9)),(2,.int .i64 AL)]) (fun _=>HP.AA cb (0+83+j*9) (Di rm)*(CQ rm*(AX cb m.x*(Eb cb m.rs j*(Et m cb*R))))) (fun _=>True) ?_ ?_
 ·refine J6 ?_;refine DU 31 rfl (fun hg1=>?_) (fun hg1=>?_)
  ·have hgv:rm.r.given=true:=hg1;refine Ia ?_;refine J1 ?_;refine MQ ?_;refine JL iV ?_;refine JL J0 ?_;refine J1 ?_;refine BJ () trivial (.cons ?_ Hi) rfl;refine FJ ?_;congr 2
   first
    |exact decide_eq_decide.2 ⟨fun h=>⟨hgv,h⟩,fun h=>h.2⟩
    |exact(decide_eq_false (fun h=>b_ (hgv.symm.trans h.1))).symm
  have hgv:rm.r.given=false:=hg1;refine IE ?_;refine IL ?_;refine IL ?_;refine JL ID ?_;refine J1 ?_;refine BJ () trivial (.cons ?_ Hi) rfl;refine FJ ?_;congr 2
  first
   |exact decide_eq_decide.2 ⟨fun h=>⟨hgv,h⟩,fun h=>h.2⟩
   |exact(decide_eq_false (fun h=>b_ (hgv.symm.trans h.1))).symm
 ·rintro _ _;refine J1 ?_;refine DF (α:=Dt) (fun _=>[(11,ptr cb (0+83+j*9)),(2,.int .i64 AL)]) (fun z=>HP.AA cb (0+83+j*9) (Di z)*(CQ z*(AX cb m.x*(Eb cb m.rs j*(Et m cb*R))))) (fun z=>z.ok∧z.r=m.s.Dz j) ?_ ?_
  ·refine mC (fun h37=>?_) (fun h37=>?_)
   ·refine J5 ?_;refine Bv (Ez (v:=.int .i64 (2:Nat)) rfl rfl rfl Cd) ?_;refine Fg ?_
    refine Bo (HP.AA cb (0+83+j*9) (Di ⟨{rm.r with state:=2,b:=[]},⟨none,0,0,0,[]⟩,rm.cq,rm.ca⟩)*(CQ ⟨{rm.r with state:=2,b:=[]},⟨none,0,0,0,[]⟩,rm.cq,rm.ca⟩*(AX cb m.x*(Eb cb m.rs j*(Et m cb*R))))) (hE:=⟨fun ww hw=>Sat.right (A:=AB rm.a.b rm.a.o rm.r.b rm.a.s) (h_ (by
     congr 1
     unfold CQ
     show _=AB rm.a.b rm.a.o rm.r.b rm.a.s*(HP.AA cb (0+83+j*9) [.slice none 0 0,ptr rm.cq 0,uN rm.r.high,uN rm.r.end_,.bool rm.r.ended,.bool rm.r.given,uN rm.r.code,uN rm.r.read,iN 2]*(AB 0 0 ([]:List UInt8) []*AZ rm.cq rm.ca rm.r.AE*(AX cb m.x*(Eb cb m.rs j*(Et m cb*R)))))
     rw [G7,HP.BR]
     ac_rfl) hw)⟩) ?_
    exact BJ (⟨{rm.r with state:=2,b:=[]},⟨none,0,0,0,[]⟩,rm.cq,rm.ca⟩:Dt) ⟨⟨⟨Gi,rfl⟩,hrm2.2⟩,by unfold AD.Dz;rw [erj,if_pos h37]⟩ Hi rfl
   refine J1 ?_;exact BJ rm ⟨hrm2,by unfold AD.Dz;rw [erj,if_neg h37]⟩ Hi rfl
  ·rintro rm1 ⟨hok1,hrm1⟩;refine J2 ?_
   have hrok1:Fo m.x.AF t rm1.r:=by
    rw [hrm1];unfold AD.Dz;rw [erj];split
    ·rename_i hc;exact⟨hrok.co,hrok.cf,hrok.cm,hrok.rh,hrok.hw,hrok.pre,(fun h=>by rw [hc.1]at h;cases h),hrok.rt,hrok.en,hrok.code,Nat.le_refl _,fun _=>hc.1⟩
    ·exact hrok
   have hgv0:rm1.r.state=0→rm1.r.given=false:=by
    intro h0;rw [hrm1]at h0⊢;unfold AD.Dz at h0⊢;rw [erj]at h0⊢;split at h0
    ·cases h0
    ·rename_i hc;rw [if_neg hc];cases hg:rm.r.given
     ·rfl
     ·exact absurd ⟨hg,h0⟩ hc
   refine B1 ?_;refine KZ ?_;refine mC (fun h48=>?_) (fun h48=>?_)
   ·have hlen1:=hrok1.len (hgv0 h48);have hrh1:=hrok1.rh;have hhw1:=hrok1.hw;have hrt1:=hrok1.rt;have hgf:=LU hrok1.co.inc hrok1.rh hrok1.co.hi;have hgs:=(HS rm1.r.AE.l rm1.r.read rm1.r.high hrok1.co.inc hrok1.rh).1;have hcl:=TM hrok1.co.inc hrok1.pre hrok1.co.hi (by omega:rm1.r.high≤rm1.r.read+1024)
    have hNle:(min ((AV rm1.r.read rm1.r.high rm1.r.AE.l).1-rm1.r.read) AL.toNat)≤rm1.r.b.length:=by omega
    refine Au (H':=HP.AA cb (0+83+j*9) (Di rm1)*(AB rm1.a.b rm1.a.o rm1.r.b rm1.a.s*(AZ rm1.cq rm1.ca rm1.r.AE*(AX cb m.x*(Eb cb m.rs j*(Et m cb*R)))))) (by unfold CQ;ac_rfl) ?_;refine J1 ?_;refine mA 18 18 ?_;refine Ir ?_;refine Lw ?_;refine Jm 8 ?_;refine Jn 9 ?_;refine Jf 10 ?_;refine Jd 11 ?_;refine Av 12 Cb rfl rfl (BS rfl (Py rm1.cq rm1.r.read rm1.r.high rm1.r.high rm1.ca rm1.r.AE _ hok1.2 hrok1.co Ca Ca)) ?_;refine Fm ?_;refine Jm 13 ?_;refine JT 14 rfl M5 ?_;refine JT 15 rfl M5 ?_;refine Ja 16 ?_;refine Ja 17 ?_;refine JD ?_;refine J8 ?_;refine JL H3 ?_;refine J1 ?_;refine JL (A9 (v':=iN AL.toNat) (hJ (i:=AL) (j:=0) rfl rfl) (by congr 1;split<;>omega)) ?_;refine JL Fy ?_;refine JL PH ?_;refine CL ?_;refine JL (PB (k':=(rm1.r.b.take (min ((AV rm1.r.read rm1.r.high rm1.r.AE.l).1-rm1.r.read) AL.toNat)).length) rfl rfl (by have h7:rm1.r.b.length≤rm1.a.c:=hok1.1.1.2;omega) ON) ?_
    refine mE rfl (xO (rm1.r.b.take (min ((AV rm1.r.read rm1.r.high rm1.r.AE.l).1-rm1.r.read) AL.toNat)) rm1.a.p rm1.a.b rm1.a.o rm1.a.c _ ⟨hok1.1.1.1,by have h7:rm1.r.b.length≤rm1.a.c:=hok1.1.1.2;rw [i_];omega⟩ inferInstance ON) ?_;rintro _ _ ⟨p81,b81,o81,c81,s81,rfl,hs81,hc81,rfl⟩;refine B1 ?_;refine JL ML ?_;refine BQ (H':=AB rm1.a.b rm1.a.o rm1.r.b rm1.a.s*(AB b81 o81 (rm1.r.b.take (min ((AV rm1.r.read rm1.r.high rm1.r.AE.l).1-rm1.r.read) AL.toNat)) s81*(HP.AA cb (0+83+j*9) (Di rm1)*(AZ rm1.cq rm1.ca rm1.r.AE*(AX cb m.x*(Eb cb m.rs j*(Et m cb*R))))))) Cg ?_;refine mE rfl (yR rm1.r.b 0 (min ((AV rm1.r.read rm1.r.high rm1.r.AE.l).1-rm1.r.read) AL.toNat) rm1.a.p rm1.a.b rm1.a.o rm1.a.c rm1.a.s _ hok1.1.1 hok1.1.2 EX hNle Ca) ?_;rintro _ _ ⟨p89,b89,o89,c89,s89,rfl,hs89,hc89,rfl⟩;rw [List.take_zero,List.nil_append]at hs89 hc89⊢;refine DV ?_;refine JL Kp ?_;refine J6 ?_
    refine DF (α:=Unit) (fun _=>[(114,.bool (decide (rm1.r.ended=true∧rm1.r.read+(min ((AV rm1.r.read rm1.r.high rm1.r.AE.l).1-rm1.r.read) AL.toNat)=rm1.r.end_))),(11,ptr cb (0+83+j*9)),(12,.slice p81 (rm1.r.b.take (min ((AV rm1.r.read rm1.r.high rm1.r.AE.l).1-rm1.r.read) AL.toNat)).length c81)]) (fun _=>HP.AA cb (0+83+j*9) [.slice p89 (rm1.r.b.drop (min ((AV rm1.r.read rm1.r.high rm1.r.AE.l).1-rm1.r.read) AL.toNat)).length c89,ptr rm1.cq 0,uN rm1.r.high,uN rm1.r.end_,.bool rm1.r.ended,.bool rm1.r.given,uN rm1.r.code,uN (rm1.r.read+(min ((AV rm1.r.read rm1.r.high rm1.r.AE.l).1-rm1.r.read) AL.toNat)),iN rm1.r.state]*(AB b81 o81 (rm1.r.b.take (min ((AV rm1.r.read rm1.r.high rm1.r.AE.l).1-rm1.r.read) AL.toNat)) s81*(AB b89 o89 (rm1.r.b.drop (min ((AV rm1.r.read rm1.r.high rm1.r.AE.l).1-rm1.r.read) AL.toNat)) s89*(AZ rm1.cq rm1.ca rm1.r.AE*(AX cb m.x*(Eb cb m.rs j*(Et m cb*R))))))) (fun _=>True) ?_ ?_
    ·refine mA 15 15 ?_;refine K0 ?_;refine LO 104 rfl (fun hg2=>?_) (fun hg2=>?_)
     ·have hed:rm1.r.ended=true:=hg2;refine JY 5 rfl hg2 Bd ?_;refine JY 6 rfl hg2 CT ?_;refine JY 7 rfl hg2 BW ?_;refine JY 8 rfl hg2 Bg ?_;refine JY 9 rfl hg2 Bd ?_;refine JY 10 rfl hg2 CT ?_;refine JY 11 rfl hg2 BW ?_;refine JY 12 rfl hg2 Bg ?_;refine JY 13 rfl hg2 Np ?_;refine JT 14 rfl OC ?_;refine JD ?_;refine BJ () trivial (.cons ?_ Hi) Cg;refine FJ ?_;congr 2
      first
       |exact decide_eq_decide.2 ⟨fun h=>⟨hed,h⟩,fun h=>h.2⟩
       |exact(decide_eq_false (fun h=>b_ (hed.symm.trans h.1))).symm
     have hed:rm1.r.ended=false:=hg2;refine JN 5 rfl hg2 ?_;refine JN 6 rfl hg2 ?_;refine JN 7 rfl hg2 ?_;refine JN 8 rfl hg2 ?_;refine JN 9 rfl hg2 ?_;refine JN 10 rfl hg2 ?_;refine JN 11 rfl hg2 ?_;refine JN 12 rfl hg2 ?_;refine JN 13 rfl hg2 ?_;refine JT 14 rfl Ni ?_;refine JD ?_;refine BJ () trivial (.cons ?_ Hi) Cg;refine FJ ?_;congr 2
     first
      |exact decide_eq_decide.2 ⟨fun h=>⟨hed,h⟩,fun h=>h.2⟩
      |exact(decide_eq_false (fun h=>b_ (hed.symm.trans h.1))).symm
    ·rintro _ _;refine J1 ?_;refine DF (α:=Unit) (fun _=>[(11,ptr cb (0+83+j*9)),(12,.slice p81 (rm1.r.b.take (min ((AV rm1.r.read rm1.r.high rm1.r.AE.l).1-rm1.r.read) AL.toNat)).length c81)]) (fun _=>AB b81 o81 (rm1.r.b.take (min ((AV rm1.r.read rm1.r.high rm1.r.AE.l).1-rm1.r.read) AL.toNat)) s81*(HP.AA cb (0+83+j*9) [.slice p89 (rm1.r.b.drop (min ((AV rm1.r.read rm1.r.high rm1.r.AE.l).1-rm1.r.read) AL.toNat)).length c89,ptr rm1.cq 0,uN rm1.r.high,uN rm1.r.end_,.bool rm1.r.ended,.bool rm1.r.given,uN rm1.r.code,uN (rm1.r.read+(min ((AV rm1.r.read rm1.r.high rm1.r.AE.l).1-rm1.r.read) AL.toNat)),iN (if rm1.r.ended=true∧rm1.r.read+(min ((AV rm1.r.read rm1.r.high rm1.r.AE.l).1-rm1.r.read) AL.toNat)=rm1.r.end_ then 1 else rm1.r.state)]*(AB b89 o89 (rm1.r.b.drop (min ((AV rm1.r.read rm1.r.high rm1.r.AE.l).1-rm1.r.read) AL.toNat)) s89*(AZ rm1.cq rm1.ca rm1.r.AE*(AX cb m.x*(Eb cb m.rs j*(Et m cb*R))))))) (fun _=>True) ?_ ?_
     ·refine mC (fun h114=>?_) (fun h114=>?_)
      ·refine J4 ?_;refine Bv (Ez (v:=.int .i64 (1:Nat)) rfl rfl rfl Cd) ?_;refine IN ?_;exact BJ () trivial Hi (by rw [if_pos h114];ac_rfl)
      refine J1 ?_;exact BJ () trivial Hi (by rw [if_neg h114];ac_rfl)
     ·rintro _ _;refine J6 ?_;refine KZ ?_;refine mC (fun h120=>?_) (fun h120=>?_)
      ·refine B1 ?_;refine JL WK ?_;refine J2 ?_;refine mC (fun h125=>?_) (fun h125=>?_)
       ·exfalso;split at h125<;>omega
       refine Ux ?_
       have ewr:m.s.read (j:Int) AL=((rm1.r.b.take (min ((AV rm1.r.read rm1.r.high rm1.r.AE.l).1-rm1.r.read) AL.toNat),(if rm1.r.ended=true∧rm1.r.read+(min ((AV rm1.r.read rm1.r.high rm1.r.AE.l).1-rm1.r.read) AL.toNat)=rm1.r.end_ then 1 else rm1.r.state),0,0),m.s.BV j {rm1.r with b:=rm1.r.b.drop (min ((AV rm1.r.read rm1.r.high rm1.r.AE.l).1-rm1.r.read) AL.toNat),read:=rm1.r.read+(min ((AV rm1.r.read rm1.r.high rm1.r.AE.l).1-rm1.r.read) AL.toNat),state:=(if rm1.r.ended=true∧rm1.r.read+(min ((AV rm1.r.read rm1.r.high rm1.r.AE.l).1-rm1.r.read) AL.toNat)=rm1.r.end_ then 1 else rm1.r.state)}):=by
        unfold AD.read;rw [if_neg SI,c_,←hrm1];dsimp only;rw [if_pos h48];unfold AD.Gy;by_cases hc:rm1.r.ended=true∧rm1.r.read+(min ((AV rm1.r.read rm1.r.high rm1.r.AE.l).1-rm1.r.read) AL.toNat)=rm1.r.end_
        ·rw [if_pos hc,if_pos hc]
        ·rw [if_neg hc,if_neg hc]
       obtain⟨rd2,hrd2⟩:∃rd2:Dt,rd2=⟨{rm1.r with b:=rm1.r.b.drop (min ((AV rm1.r.read rm1.r.high rm1.r.AE.l).1-rm1.r.read) AL.toNat),read:=rm1.r.read+(min ((AV rm1.r.read rm1.r.high rm1.r.AE.l).1-rm1.r.read) AL.toNat),state:=(if rm1.r.ended=true∧rm1.r.read+(min ((AV rm1.r.read rm1.r.high rm1.r.AE.l).1-rm1.r.read) AL.toNat)=rm1.r.end_ then 1 else rm1.r.state)},⟨p89,b89,o89,c89,s89⟩,rm1.cq,rm1.ca⟩:=Bl
       have hrk2:rd2.ok:=by rw [hrd2];exact⟨⟨hs89,hc89⟩,hok1.2⟩
       have hnil:rm1.r.b.take (min ((AV rm1.r.read rm1.r.high rm1.r.AE.l).1-rm1.r.read) AL.toNat)=[]:=e_.1 h120
       exact mR [6,7,8,9] (Ac cb (m.BV j rd2)*R) (hE:=⟨fun ww hw=>Sat.right (A:=AB b81 o81 (rm1.r.b.take (min ((AV rm1.r.read rm1.r.high rm1.r.AE.l).1-rm1.r.read) AL.toNat)) s81) (h_ (by
        congr 1
        rw [PX cb m R j hjl,hrd2]
        unfold CQ
        refine Wu ?_
        ac_rfl) hw)⟩) rfl rfl ⟨m.BV j rd2,hm.BV hrk2,.slice none 0 0,Vs,Cr,.inl ⟨by rw [ewr];exact hnil,rfl,rfl⟩⟩
      refine J9 ?_;refine JL WK ?_;refine J2 ?_;refine mC (fun h125=>?_) (fun h125=>?_)
      ·exfalso;split at h125<;>omega
      refine Ux ?_
      have ewr:m.s.read (j:Int) AL=((rm1.r.b.take (min ((AV rm1.r.read rm1.r.high rm1.r.AE.l).1-rm1.r.read) AL.toNat),(if rm1.r.ended=true∧rm1.r.read+(min ((AV rm1.r.read rm1.r.high rm1.r.AE.l).1-rm1.r.read) AL.toNat)=rm1.r.end_ then 1 else rm1.r.state),0,0),m.s.BV j {rm1.r with b:=rm1.r.b.drop (min ((AV rm1.r.read rm1.r.high rm1.r.AE.l).1-rm1.r.read) AL.toNat),read:=rm1.r.read+(min ((AV rm1.r.read rm1.r.high rm1.r.AE.l).1-rm1.r.read) AL.toNat),state:=(if rm1.r.ended=true∧rm1.r.read+(min ((AV rm1.r.read rm1.r.high rm1.r.AE.l).1-rm1.r.read) AL.toNat)=rm1.r.end_ then 1 else rm1.r.state)}):=by
       unfold AD.read;rw [if_neg SI,c_,←hrm1];dsimp only;rw [if_pos h48];unfold AD.Gy;by_cases hc:rm1.r.ended=true∧rm1.r.read+(min ((AV rm1.r.read rm1.r.high rm1.r.AE.l).1-rm1.r.read) AL.toNat)=rm1.r.end_
       ·rw [if_pos hc,if_pos hc]
       ·rw [if_neg hc,if_neg hc]
      obtain⟨rd2,hrd2⟩:∃rd2:Dt,rd2=⟨{rm1.r with b:=rm1.r.b.drop (min ((AV rm1.r.read rm1.r.high rm1.r.AE.l).1-rm1.r.read) AL.toNat),read:=rm1.r.read+(min ((AV rm1.r.read rm1.r.high rm1.r.AE.l).1-rm1.r.read) AL.toNat),state:=(if rm1.r.ended=true∧rm1.r.read+(min ((AV rm1.r.read rm1.r.high rm1.r.AE.l).1-rm1.r.read) AL.toNat)=rm1.r.end_ then 1 else rm1.r.state)},⟨p89,b89,o89,c89,s89⟩,rm1.cq,rm1.ca⟩:=Bl
      have hrk2:rd2.ok:=by rw [hrd2];exact⟨⟨hs89,hc89⟩,hok1.2⟩
      exact mR [6,7,8,9] (AB b81 o81 (rm1.r.b.take (min ((AV rm1.r.read rm1.r.high rm1.r.AE.l).1-rm1.r.read) AL.toNat)) s81*(Ac cb (m.BV j rd2)*R)) (hE:=⟨fun ww hw=>(h_ (by
       congr 1
       rw [PX cb m R j hjl,hrd2]
       unfold CQ
       refine Wu ?_
       ac_rfl) hw)⟩) rfl rfl ⟨m.BV j rd2,hm.BV hrk2,.slice p81 (rm1.r.b.take (min ((AV rm1.r.read rm1.r.high rm1.r.AE.l).1-rm1.r.read) AL.toNat)).length c81,Vs,Cr,.inr ⟨by rw [ewr];exact fun h=>h120 (congrArg List.length h),by rw [ewr];exact⟨p81,b81,o81,c81,s81,rfl,hs81,hc81,rfl⟩⟩⟩
   refine J7 ?_;refine KZ ?_;refine mC (fun h120=>?_) (fun h120=>?_);rotate_left
   ·exact absurd rfl h120
   refine B1 ?_;refine JL WK ?_;refine J2 ?_;refine mC (fun h125=>?_) (fun h125=>?_)
   ·refine J1 ?_;refine mA 13 13 ?_;refine Me ?_;refine Jm 5 ?_;refine NH ?_;refine Ja 9 ?_;refine Ja 10 ?_;refine Ja 11 ?_;refine Ja 12 ?_;refine JK ?_
    have ewr:m.s.read (j:Int) AL=(([],rm1.r.state,(if rm1.r.state=2 then rm1.r.code else 0),0),m.s.BV j rm1.r):=by
     unfold AD.read;rw [if_neg SI,c_,←hrm1];dsimp only;rw [if_neg h48]
    exact mR [6,7,8,9] (Ac cb (m.BV j rm1)*R) (hE:=⟨fun ww hw=>h_ Uf hw⟩) rfl rfl ⟨m.BV j rm1,hm.BV hok1,.slice none 0 0,by rw [Aj.Q',ewr],by rw [ewr,if_pos h125];rfl,.inl ⟨Ct,rfl,rfl⟩⟩
   refine Ux ?_
   have ewr:m.s.read (j:Int) AL=(([],rm1.r.state,(if rm1.r.state=2 then rm1.r.code else 0),0),m.s.BV j rm1.r):=by
    unfold AD.read;rw [if_neg SI,c_,←hrm1];dsimp only;rw [if_neg h48]
   exact mR [6,7,8,9] (Ac cb (m.BV j rm1)*R) (hE:=⟨fun ww hw=>h_ Uf hw⟩) rfl rfl ⟨m.BV j rm1,hm.BV hok1,.slice none 0 0,by rw [Aj.Q',ewr],by rw [ewr,if_neg h125];rfl,.inl ⟨Ct,rfl,rfl⟩⟩
end
end Go.Proofs.YtgfdlpcdjklcoaaGreatDoor
