/- A part of this proof: steps of the program, plain facts; no condition. -/
import Derived.Test.YtgfdlpcdjklcoaaGreatDoorL7
namespace Go.Proofs.YtgfdlpcdjklcoaaGreatDoor
open Go Go.RowKit
open _root_.List renaming replicate→J!,length_eq_zero_iff→K?,length_take→M!,replicate_zero→M?,getD_eq_getElem?_getD→N_,length_append→N?,extract_eq_take_drop→O_,append_assoc→O!,getElem?_eq_getElem→O?,length_map→P!,append_nil→Q!,length_replicate→Q?,mem_of_mem_take→R_,mem_map→R?,foldl_append→S_,length_drop→S!,map_append→S?,mem_filter→T_,drop_take→T!
open _root_.Bool renaming false_ne_true→J?,false_eq_true→L_,eq_iff_iff→P_,true_eq→T?
open _root_.Int renaming toNat_natCast→K_,toNat_of_nonneg→R!
open _root_.Go.Result renaming andThen_ok→K!
open _root_.Go.Sem renaming run_pure→L!,run_bind→L?
open _root_.Eq renaming mp→M_
open _root_.Option renaming isSome_none→N!,map_some→P?,map_none→Q_
set_option linter.unusedVariables false
set_option linter.unusedSimpArgs false
set_option maxRecDepth 20000
section
variable{B:World}
theorem rR(l:List AW)(n:Nat):decide (∃r∈l,r.lo≤n∧n≤r.hi)=BL l n:=by
 apply P_.2;simp [BL,List.any_eq_true]
theorem wP(r:AW)(bp number:Nat)(H:HP)[hb:Rd B H bp (0+0) (uN number) True]:
  Fn Tryz.prog B 214 [Hs r,ptr bp 0] H (fun v H'=>v=.bool (decide (r.lo≤number∧number≤r.hi))∧H'=H):=by
 refine mI Tryz.func214 ?_;refine J2 ?_;refine Ag (Db (l:=[uN r.lo,uN r.hi]) rfl rfl) rfl ?_;rintro _ _ ⟨b2,rfl,rfl⟩;refine J9 ?_;refine JL KV ?_;refine J1 ?_;refine EL 9 rfl (fun hg1=>?_) (fun hg1=>?_)
 ·refine UD ?_;refine J1 ?_;refine JG T1 ?_;refine J1 ?_;refine JG T1 ?_;refine JL KV ?_;refine JL Fu ?_;refine J4 ?_;refine mR [3] H rfl rfl ⟨?_,rfl⟩;refine Lz ?_;congr 1;apply P_.2;simp only [decide_eq_true_eq,T?,L_,iff_true,iff_false,true_iff,false_iff,eq_self];omega
 refine Rl ?_;refine JH F1 ?_;refine JH F1 ?_;refine JL Eo ?_;refine J4 ?_;refine mR [3] H rfl rfl ⟨?_,rfl⟩;refine Lz ?_;congr 1;apply P_.2;simp only [decide_eq_true_eq,T?,L_,iff_true,iff_false,true_iff,false_iff,eq_self];omega
theorem qK(cb bc:Nat)(x:CC)(a:BB)(R:HP)(ha:a.number<4611686018427387904):
  Fn Tryz.prog B 215 [MB a,ptr bc 0] (AQ cb x*(HP.AA bc 0 [ptr cb 0]*R)) (fun v H'=>v=.bool (decide (a.Ao.number+3≤x.BZ))∧H'=AQ cb x*(HP.AA bc 0 [ptr cb 0]*R)):=by
 refine mI Tryz.func215 ?_;refine J2 ?_;refine Ag (Db (l:=Br a) rfl rfl) rfl ?_;rintro _ _ ⟨b2,rfl,rfl⟩;refine J4 ?_;refine mA 9 9 ?_;refine It ?_;refine JT 2 rfl (JO (j:=3) rfl rfl Ca) ?_;refine Kf ?_;refine Jn 4 ?_;refine Jf 5 ?_;refine Jd 6 ?_;refine JT 7 rfl KV ?_;refine Ja 8 ?_;refine Da ?_;exact mR [3] (AQ cb x*(HP.AA bc 0 [ptr cb 0]*R)) rfl rfl BW
structure oK(ws:List BY)(ws0:List AY)(l:List AW)(pre:List BB):Prop where
 NS:∀w∈ws,w.ok
 mw:ws.map (·.w)=(pre.map (·.Ao)).foldl (IV l) ws0
def HE(cb:Nat)(ws0:List AY)(l:List AW)(K:HP)(pre:List BB):HP:=HP.ex fun ws:List BY=>HP.pr (oK ws ws0 l pre)*(A4 cb ws*K)
def AY.KE(w:AY)(inn:Bool)(f:AU):AY:=if inn=true∧f.kind=5∧f.data.size≠0 then
  {w with AE:=w.AE.add f.offset (f.offset+f.data.size-1),Ae:=w.Ae.add f.offset (f.offset+f.data.size-1)}else w
theorem xK(w:AY)(inn:Bool)(f:AU):w.named inn f={w.KE inn f with ended:=(w.KE inn f).ended||(inn&&decide (f.kind=5)&&f.fin)}:=rfl
theorem Ll(s:ByteArray):(s≠⟨#[]⟩)↔s.size≠0:=by
 cases s with
 |mk d=>
  constructor
  ·intro h h2;have h3:d.size=0:=h2
   have h4:d= #[]:=by simpa using h3
   exact h (by rw [h4])
  ·intro h h2;cases h2;exact h rfl
set_option maxHeartbeats 4000000 in
theorem bG(cb AG bl bc:Nat)(ws0:List AY)(L:List BB)(l:List AW)(lp:Option Addr)(lb lo lc:Nat)(K:HP)(hw0:Dm AG ws0)(hlok:∀m∈L,m.ok)
  (hfr:∀m∈L,∀g∈m.Ao.Aw,EU ws0 g)(hfl:∀m∈L,m.fs.length<100000000)(hfs:∀m∈L,Ad B K m.a.b m.a.o m.fs)(hnm:∀m∈L,m.number<4611686018427387904)(hls:Sl lp lb lo l.length lc)(hll:l.length<100000000)
  [h1:Rd B K bl 0 (.slice lp l.length lc) True][h2:Rd B K bc 0 (ptr cb 0) True][h3:Ad B K lb lo l]:
  P3 B 212 [ptr bl 0,ptr bc 0] L (fun m=>BL l m.number) (HE cb ws0 l K):=by
 intro pre fm R hpre;obtain⟨mm,hmm,hpre⟩:=hpre;have hmem:fm∈L:=R_ (i:=mm) (by rw [hpre];simp);have hsub:∀m∈pre,m∈L:=fun m hm=>R_ (i:=mm) (by rw [hpre];simp [hm]);have hfm:=hlok fm hmem;have hfl2:=hfl fm hmem;have hrd:=hfs fm hmem;have hnum:=hnm fm hmem;refine mI Tryz.func212 ?_;unfold HE;refine Ld ?_;rintro ws ⟨hz1,hz2⟩
 obtain⟨wo1,wo2,_⟩:=M' (AG:=AG) (l:=l) (pre.map (·.Ao)) ws0 hw0 (fun p hp g hg=>by
  obtain⟨m,hm,rfl⟩:=R?.1 hp
  exact hfr m (hsub m hm) g hg)
 rw [←hz2]at wo1 wo2;refine Ai (H':=A4 cb ws*(K*R)) Cf ?_;refine J2 ?_;refine Ag (Db (l:=Br fm) rfl rfl) rfl ?_;rintro _ _ ⟨b3,rfl,rfl⟩;refine J6 ?_;refine JL GT ?_;refine mE rfl (sC l lp lb lo lc _ [ptr b3 0] (fun r=>r.lo≤fm.number∧fm.number≤r.hi) _ hls Ca (fun r _=>wP r b3 fm.number _)) ?_;refine JR ?_;rw [rR]
 obtain⟨inn,hinn⟩:∃b:Bool,b=BL l fm.number:=Bh
 rw [←hinn];refine J5 ?_;refine Ai (H':=A4 cb ws*(K*(HP.AA b3 0 (Br fm)*R))) Cf ?_;refine J4 ?_;refine JL TV ?_;refine J3 ?_
 refine Bm (α:=Nat×List BY) (fun z=>[(1,ptr bl 0),(2,ptr bc 0),(3,ptr b3 0),(5,.bool inn),(13,.slice fm.a.p fm.fs.length fm.a.c),(14,iN fm.fs.length),(15,iN z.1)]) (fun z=>A4 cb z.2*(K*(HP.AA b3 0 (Br fm)*R))) (fun z=>z.1≤fm.fs.length∧(∀w∈z.2,w.ok)∧z.2.map (·.w)=((fm.fs.take z.1).map (·.f)).foldl (HF inn) (ws.map (·.w))) (fun z=>fm.fs.length-z.1) (0,ws) ⟨Nat.zero_le _,hz1,rfl⟩ Gv rfl ?_
 rintro⟨i,wz⟩ ⟨q1,q2,q3⟩;dsimp only at q1 q2 q3⊢
 obtain⟨ag1,ag2,_⟩:=S5 (AG:=AG) (inn:=inn) ((fm.fs.take i).map (·.f)) (ws.map (·.w)) wo1 (fun g hg=>by
  obtain⟨rr,hrr,rfl⟩:=R?.1 hg
  exact(hfr fm hmem rr.f dT).same wo2)
 rw [←q3]at ag1 ag2
 have hwl:wz.length=4:=by have:=ag1.len;simpa using this
 refine J6 ?_;refine mC (fun h15=>?_) (fun h15=>?_)
 ·skip
  have hgd:fm.fs.getD i AC.AH=fm.fs[i]:=by rw [N_,O? h15];rfl
  have hfo:EU (wz.map (·.w)) (fm.fs.getD i AC.AH).f:=by
   rw [hgd];exact((hfr fm hmem _ bD).same wo2).same ag2
  obtain⟨j,hst⟩:∃j:Nat,(fm.fs.getD i AC.AH).f.stream=(j:Int):=⟨_,(R! hfo.1).symm⟩
  have hj:j<4:=by have:=hfo.2.1;omega
  have hgw:(wz.map (·.w)).getD j As=(wz.getD j AC.AH).w:=by
   simp only [N_,List.getElem?_map,O? SK];rfl
  have hwj:=ag1.ok j hj;rw [hgw]at hwj;have hwok:=q2 _ (I' (d:=AC.AH) SK);have hbl:=hwj.len;have hfo5:=hfo.2.2;rw [hst,K_,hgw]at hfo5;refine Ai (H':=HP.AA cb (0+43+j*10) (Bg (wz.getD j AC.AH))*(Bl (wz.getD j AC.AH)*(B' cb wz j*(K*(HP.AA b3 0 (Br fm)*R))))) (by rw [JA cb wz j Ca];ac_rfl) ?_;generalize hwm:wz.getD j AC.AH=wm at*;refine J6 ?_;refine JL (HG rfl rfl hfm.1 Ca rfl) ?_;refine JL (Ay (v':=.agg (AM (fm.fs.getD i AC.AH)).toArray) Y5 rfl) ?_;refine Ag RR rfl ?_;rintro _ _ ⟨b7,rfl,rfl⟩;refine Bi (De rfl rfl Ch (AC.one (fm.fs.getD i AC.AH))) ?_;refine Ep ?_;refine mA 7 7 ?_;refine Jd 0 ?_;refine PG ?_;refine Ja 6 ?_;refine JQ ?_
  refine CO (α:=Unit) (fun _=>[(35,.bool (decide (inn=true∧(fm.fs.getD i AC.AH).f.kind=5∧(fm.fs.getD i AC.AH).f.data.size≠0))),(7,ptr b7 0),(8,ptr cb (0+43+j*10)),(1,ptr bl 0),(2,ptr bc 0),(3,ptr b3 0),(5,.bool inn),(13,.slice fm.a.p fm.fs.length fm.a.c),(14,iN fm.fs.length),(15,iN i)]) (fun _=>HP.AA b7 0 (AM (fm.fs.getD i AC.AH))*(HP.AA cb (0+43+j*10) (Bg wm)*(Bl wm*(B' cb wz j*(K*(HP.AA b3 0 (Br fm)*R)))))) (fun _=>True) ?_ ?_
  ·refine J3 ?_;refine DO 26 rfl (fun hg1=>?_) (fun hg1=>?_)
   ·have hb1:inn=true:=hg1;refine Hx ?_;refine JL ON ?_;refine JL Jp ?_;refine J1 ?_;refine EL 31 rfl (fun hg2=>?_) (fun hg2=>?_)
    ·refine MH ?_;refine J1 ?_;refine JG T2 ?_;refine JL ZT ?_;refine JL Hr ?_;refine J1 ?_;refine A8 () trivial (.cons ?_ LY) rfl;refine Ew ?_;congr 2
     first
      |exact decide_eq_decide.2 ⟨fun h=>⟨hb1,hg2,(Ll _).1 h⟩,fun h=>(Ll _).2 h.2.2⟩
      |exact(decide_eq_false (fun h=>hg2 h.2.1)).symm
      |exact(decide_eq_false (fun h=>by rw [hb1]at h;cases h.1)).symm
    refine Sy ?_;refine JL HZ ?_;refine J1 ?_;refine A8 () trivial (.cons ?_ LY) rfl;refine Ew ?_;congr 2
    first
     |exact decide_eq_decide.2 ⟨fun h=>⟨hb1,hg2,(Ll _).1 h⟩,fun h=>(Ll _).2 h.2.2⟩
     |exact(decide_eq_false (fun h=>hg2 h.2.1)).symm
     |exact(decide_eq_false (fun h=>by rw [hb1]at h;cases h.1)).symm
   have hb1:inn=false:=hg1;refine H3 ?_;refine JL Ia ?_;refine J1 ?_;refine Kb ?_;refine JL Dh ?_;refine J1 ?_;refine A8 () trivial (.cons ?_ LY) rfl;refine Ew ?_;congr 2
   first
    |exact decide_eq_decide.2 ⟨fun h=>⟨hb1,hg2,(Ll _).1 h⟩,fun h=>(Ll _).2 h.2.2⟩
    |exact(decide_eq_false (fun h=>hg2 h.2.1)).symm
    |exact(decide_eq_false (fun h=>by rw [hb1]at h;cases h.1)).symm
  ·rintro _ _;refine J1 ?_;refine CO (α:=BY) (fun _=>[(7,ptr b7 0),(8,ptr cb (0+43+j*10)),(1,ptr bl 0),(2,ptr bc 0),(3,ptr b3 0),(5,.bool inn),(13,.slice fm.a.p fm.fs.length fm.a.c),(14,iN fm.fs.length),(15,iN i)]) (fun w1=>HP.AA cb (0+43+j*10) (Bg w1)*(Bl w1*(B' cb wz j*(HP.AA b7 0 (AM (fm.fs.getD i AC.AH))*(K*(HP.AA b3 0 (Br fm)*R)))))) (fun w1=>w1.ok∧w1.w=wm.w.KE inn (fm.fs.getD i AC.AH).f) ?_ ?_
   ·refine mC (fun h35=>?_) (fun h35=>?_)
    ·skip
     have hnm1:wm.w.KE inn (fm.fs.getD i AC.AH).f={wm.w with AE:=wm.w.AE.add (fm.fs.getD i AC.AH).f.offset ((fm.fs.getD i AC.AH).f.offset+(fm.fs.getD i AC.AH).f.data.size-1),Ae:=wm.w.Ae.add (fm.fs.getD i AC.AH).f.offset ((fm.fs.getD i AC.AH).f.offset+(fm.fs.getD i AC.AH).f.data.size-1)}:=by unfold AY.KE;rw [if_pos h35]
     have hb5:=hfo5 h35.2.1;have hsz:=h35.2.2;refine Ai (H':=AS wm.cq wm.ca wm.w.AE*(HP.AA cb (0+43+j*10) (Bg wm)*(AB wm.a.b wm.a.o wm.w.b wm.a.s*(AS wm.sq wm.sa wm.w.Ae*(B' cb wz j*(HP.AA b7 0 (AM (fm.fs.getD i AC.AH))*(K*(HP.AA b3 0 (Br fm)*R)))))))) Mm ?_;refine J1 ?_;refine mA 14 15 ?_;refine IN ?_;refine I5 ?_;refine W6 ?_;refine Am 14 Cb rfl rfl (BJ rfl (KF wm.cq _ _ wm.w.b.length wm.ca wm.w.AE _ hwok.2.2 hwj.co Ca Ca (by rw [hwj.cm];omega) (by rw [hwj.cm];omega))) ?_;rintro _ _ ⟨a50,hs50,rfl⟩;refine DW ?_;refine FC ?_;refine Ai (H':=AS wm.sq wm.sa wm.w.Ae*(HP.AA cb (0+43+j*10) (Bg wm)*(AB wm.a.b wm.a.o wm.w.b wm.a.s*(AS wm.cq a50 (wm.w.AE.add (fm.fs.getD i AC.AH).f.offset ((fm.fs.getD i AC.AH).f.offset+(fm.fs.getD i AC.AH).f.data.size-1))*(B' cb wz j*(HP.AA b7 0 (AM (fm.fs.getD i AC.AH))*(K*(HP.AA b3 0 (Br fm)*R)))))))) Cf ?_;refine mA 14 15 ?_;refine IN ?_;refine I5 ?_
     refine W6 ?_;refine Am 14 Cb rfl rfl (BJ rfl (KF wm.sq _ _ wm.w.b.length wm.sa wm.w.Ae _ hwok.2.1 hwj.so Ca Ca (by rw [hwj.sm];omega) (by rw [hwj.sm];omega))) ?_;rintro _ _ ⟨a65,hs65,rfl⟩;refine DW ?_;refine JD ?_;refine Bd (HP.AA cb (0+43+j*10) (Bg {wm with w:=wm.w.KE inn (fm.fs.getD i AC.AH).f,sa:=a65,ca:=a50})*(Bl {wm with w:=wm.w.KE inn (fm.fs.getD i AC.AH).f,sa:=a65,ca:=a50}*(B' cb wz j*(HP.AA b7 0 (AM (fm.fs.getD i AC.AH))*(K*(HP.AA b3 0 (Br fm)*R)))))) (hE:=?_) ?_
     ·refine⟨fun ww hw=>M_ ?_ hw⟩;congr 1;unfold Bl;dsimp only;rw [hnm1];show _=HP.AA cb (0+43+j*10) (Bg wm)*(AB wm.a.b wm.a.o wm.w.b wm.a.s*(AS wm.sq a65 (wm.w.Ae.add (fm.fs.getD i AC.AH).f.offset ((fm.fs.getD i AC.AH).f.offset+(fm.fs.getD i AC.AH).f.data.size-1))*AS wm.cq a50 (wm.w.AE.add (fm.fs.getD i AC.AH).f.offset ((fm.fs.getD i AC.AH).f.offset+(fm.fs.getD i AC.AH).f.data.size-1)))*(B' cb wz j*(HP.AA b7 0 (AM (fm.fs.getD i AC.AH))*(K*(HP.AA b3 0 (Br fm)*R)))));ac_rfl
     exact A8 _ ⟨by rw [hnm1];exact⟨hwok.1,hs65,hs50⟩,rfl⟩ LY rfl
    refine J1 ?_;exact A8 wm ⟨hwok,by unfold AY.KE;rw [if_neg h35]⟩ LY (by show _=HP.AA cb (0+43+j*10) (Bg wm)*(Bl wm*(B' cb wz j*(HP.AA b7 0 (AM (fm.fs.getD i AC.AH))*(K*(HP.AA b3 0 (Br fm)*R)))));ac_rfl)
   ·rintro w1 ⟨hw1,hw1e⟩;refine J1 ?_;refine CO (α:=BY) (fun _=>[(1,ptr bl 0),(2,ptr bc 0),(3,ptr b3 0),(5,.bool inn),(13,.slice fm.a.p fm.fs.length fm.a.c),(14,iN fm.fs.length),(15,iN i)]) (fun w2=>HP.AA cb (0+43+j*10) (Bg w2)*(Bl w2*(B' cb wz j*(HP.AA b7 0 (AM (fm.fs.getD i AC.AH))*(K*(HP.AA b3 0 (Br fm)*R)))))) (fun w2=>w2.ok∧w2.w=wm.w.named inn (fm.fs.getD i AC.AH).f) ?_ ?_
    ·refine J7 ?_;refine DO 71 rfl (fun hg3=>?_) (fun hg3=>?_)
     ·have he1:w1.w.ended=true:=hg3;refine Hj ?_;refine Hj ?_;refine GV ?_;refine GV ?_;refine GV ?_;refine Hj ?_;refine Hj ?_;refine GV ?_;refine GV ?_;refine Hj ?_;refine JL Oj ?_;refine J4 ?_
      obtain⟨e2,he2⟩:∃e:Bool,e=(w1.w.ended||(inn&&decide ((fm.fs.getD i AC.AH).f.kind=5)&&(fm.fs.getD i AC.AH).f.fin)):=Bh
      refine Dg (H':=HP.AA cb (0+43+j*10) (Bg {w1 with w:={w1.w with ended:=e2}})*(Bl {w1 with w:={w1.w with ended:=e2}}*(B' cb wz j*(HP.AA b7 0 (AM (fm.fs.getD i AC.AH))*(K*(HP.AA b3 0 (Br fm)*R)))))) ?_ ?_
      ·refine Pb ?_;rw [he2];refine Qx ?_
       first
        |(rw [he1];rfl)
        |(rw [he1,hi9,decide_eq_true hk9];rfl)
        |(rw [he1,hi9,decide_eq_false hk9];rfl)
        |(rw [he1,hi9];rfl)
      exact QF
     have he1:w1.w.ended=false:=hg3;refine Fo ?_;refine J1 ?_;refine Fo ?_;refine J1 ?_;refine DO 73 rfl (fun hg4=>?_) (fun hg4=>?_)
     ·have hi9:inn=true:=hg4;refine Rf ?_;refine JL ON ?_;refine Fo ?_;refine JL (GK hg4 rfl rfl) ?_;refine Fo ?_;refine J1 ?_;refine EL 78 rfl (fun hg5=>?_) (fun hg5=>?_)
      ·have hk9:(fm.fs.getD i AC.AH).f.kind=5:=hg5;refine JG T5 ?_;refine J1 ?_;refine JG T5 ?_;refine J1 ?_;refine Fo ?_;refine JL (GK T5 rfl rfl) ?_;refine JL Kc ?_;refine J4 ?_
       obtain⟨e2,he2⟩:∃e:Bool,e=(w1.w.ended||(inn&&decide ((fm.fs.getD i AC.AH).f.kind=5)&&(fm.fs.getD i AC.AH).f.fin)):=Bh
       refine Dg (H':=HP.AA cb (0+43+j*10) (Bg {w1 with w:={w1.w with ended:=e2}})*(Bl {w1 with w:={w1.w with ended:=e2}}*(B' cb wz j*(HP.AA b7 0 (AM (fm.fs.getD i AC.AH))*(K*(HP.AA b3 0 (Br fm)*R)))))) ?_ ?_
       ·refine Pb ?_;rw [he2];refine Qx ?_
        first
         |(rw [he1];rfl)
         |(rw [he1,hi9,decide_eq_true hk9];rfl)
         |(rw [he1,hi9,decide_eq_false hk9];rfl)
         |(rw [he1,hi9];rfl)
       exact QF
      have hk9:¬(fm.fs.getD i AC.AH).f.kind=5:=hg5;refine JH F5 ?_;refine JH F5 ?_;refine Fo ?_;refine JL (Gl F5 rfl rfl) ?_;refine JL Kc ?_;refine J4 ?_
      obtain⟨e2,he2⟩:∃e:Bool,e=(w1.w.ended||(inn&&decide ((fm.fs.getD i AC.AH).f.kind=5)&&(fm.fs.getD i AC.AH).f.fin)):=Bh
      refine Dg (H':=HP.AA cb (0+43+j*10) (Bg {w1 with w:={w1.w with ended:=e2}})*(Bl {w1 with w:={w1.w with ended:=e2}}*(B' cb wz j*(HP.AA b7 0 (AM (fm.fs.getD i AC.AH))*(K*(HP.AA b3 0 (Br fm)*R)))))) ?_ ?_
      ·refine Pb ?_;rw [he2];refine Qx ?_
       first
        |(rw [he1];rfl)
        |(rw [he1,hi9,decide_eq_true hk9];rfl)
        |(rw [he1,hi9,decide_eq_false hk9];rfl)
        |(rw [he1,hi9];rfl)
      exact QF
     have hi9:inn=false:=hg4;refine TR ?_;refine Fo ?_;refine JL (Gl hg4 rfl rfl) ?_;refine Fo ?_;refine J1 ?_;refine LN ?_;refine LN ?_;refine Fo ?_;refine JL Dh ?_;refine JL Kc ?_;refine J4 ?_
     obtain⟨e2,he2⟩:∃e:Bool,e=(w1.w.ended||(inn&&decide ((fm.fs.getD i AC.AH).f.kind=5)&&(fm.fs.getD i AC.AH).f.fin)):=Bh
     refine Dg (H':=HP.AA cb (0+43+j*10) (Bg {w1 with w:={w1.w with ended:=e2}})*(Bl {w1 with w:={w1.w with ended:=e2}}*(B' cb wz j*(HP.AA b7 0 (AM (fm.fs.getD i AC.AH))*(K*(HP.AA b3 0 (Br fm)*R)))))) ?_ ?_
     ·refine Pb ?_;rw [he2];refine Qx ?_
      first
       |(rw [he1];rfl)
       |(rw [he1,hi9,decide_eq_true hk9];rfl)
       |(rw [he1,hi9,decide_eq_false hk9];rfl)
       |(rw [he1,hi9];rfl)
     exact QF
    ·rintro w2 ⟨hw2,hw2e⟩;refine J3 ?_;refine E7 ?_;refine Bd (A4 cb (wz.set j w2)*(K*(HP.AA b3 0 (Br fm)*R))) (hE:=?_) ?_
     ·rw [Kl cb wz j w2 Ca];exact⟨fun ww hw=>Sat.right (A:=HP.AA b7 0 (AM (fm.fs.getD i AC.AH))) (M_ Cm hw)⟩
     exact Ba (i+1,wz.set j w2) ⟨Ca,fun a ha=>KS (P:=BY.ok) q2 hw2 ha,by
      show(wz.set j w2).map (·.w)=((fm.fs.take (i+1)).map (·.f)).foldl (HF inn) (ws.map (·.w))
      rw [List.map_set,hw2e,List.take_succ_eq_append_getElem h15,S?,S_,←q3]
      show _=HF inn (wz.map (·.w)) (fm.fs[i]).f
      rw [←hgd]
      unfold HF
      rw [hst,K_,hgw]⟩ Xh Gv rfl
 refine DP ?_
 obtain rfl':i=fm.fs.length:=by omega
 rw [rfl',List.take_length]at q3;exact mR [4] (HE cb ws0 l K (pre++[fm])*R) (hE:=⟨fun ww hw=>Ft (G:=HP.AA b3 0 (Br fm)) wz ⟨q2,by rw [S?,S_,←hz2,q3,hinn];rfl⟩ (by show _=HP.AA b3 0 (Br fm)*(A4 cb wz*K*R);ac_rfl) ww hw⟩) rfl rfl ⟨by rw [hinn];rfl,rfl⟩
theorem ZF{cb:Nat}{ws0:List AY}{l:List AW}{pre:List BB}{K R:HP}{w:World}(h:Sat B (HE cb ws0 l K pre*R) w):Sat B (K*R) w:=by
 unfold HE at h;rw [HP.Gs]at h;obtain⟨z,h⟩:=Sat.ex.1 h;rw [HP.assoc]at h;have h2:=(Sat.pr.1 h).2;rw [HP.assoc]at h2;exact h2.right
theorem Tp{t:Nat}{m:Ab}(hi:AZ t m.s)(ht:t<1000000)(a:BB)(ha:a∈m.fl∨a∈m.lo):a.number<4611686018427387904:=by
 have h1:=hi.nx
 have h2:a.Ao.number<m.s.next:=by
  rcases ha with ha|ha
  ·exact(hi.Ao a.Ao UX).num
  ·exact(hi.Ao a.Ao Sb).num
 have h3:a.number<m.s.next:=h2;omega
theorem mS{t:Nat}{m:Ab}(hi:AZ t m.s):∀a∈m.lo,a.fs.length<100000000:=fun a ha=>by
 have:=(hi.Ao a.Ao Sb).len
 have e:a.Ao.Aw.length=a.fs.length:=P! _;omega
set_option maxHeartbeats 4000000 in
theorem yH(cb t:Nat)(m:Ab)(l:List AW)(lp:Option Addr)(lb lo lc:Nat)(R:HP)(hm:m.ok)(hi:AZ t m.s)(ht:t<1000000)(hls:Sl lp lb lo l.length lc)(hr:Ad B R lb lo l)(hl0:0<l.length)(hll:l.length<100000000)(hhi:(rg l 0).hi<9000000000000000000):
  Fn Tryz.prog B 183 [ptr cb 0,.slice lp l.length lc] (AT cb m*R)
   (fun v H'=>∃m':Ab,m'.ok∧m'.s=(m.s.B0 l).2∧v=iN (m.s.B0 l).1∧H'=AT cb m'*R):=by
 refine mI Tryz.func183 ?_;have hlen:=UJ hi ht;refine KD ?_;rintro _ _ ⟨b2,rfl,rfl⟩;refine Ky ?_;rintro _ _ ⟨b3,rfl,rfl⟩;refine Fd ?_;refine J4 ?_;refine Ai (H':=HP.AA b3 0 [.slice lp l.length lc]*(HP.AA b2 0 [ptr cb 0]*(AQ cb m.x*(AS m.x.gq m.ga m.AP*(A4 cb m.ws*(BU cb m.rs*(AB m.fa.b m.fa.o m.fl m.fa.s*(AB m.la.b m.la.o m.lo m.la.s*(AO A0 m.fl*(AO A0 m.lo*R)))))))))) SI ?_;have hrR:=hr;refine mA 9 9 ?_;refine Jd 0 ?_;refine JT 1 rfl Wx ?_;refine I3 ?_;refine JT 3 rfl Un ?_;refine HM ?_;refine Jn 5 ?_;refine Jf 6 ?_;refine Jd 7 ?_;refine JT 8 rfl LH ?_;refine FC ?_;refine mC (fun h15=>?_) (fun h15=>?_)
 ·have h15:m.s.next≤(rg l 0).hi:=h15;refine J2 ?_;refine JL (Fe (v:=.int .i64 (8:Nat)) rfl) ?_;refine J4 ?_;refine mR [4] (AT cb m*R) (hE:=?_) rfl rfl ⟨m,hm,by unfold AF.B0;rw [if_pos h15],by unfold AF.B0;rw [if_pos h15];rfl,rfl⟩;exact⟨fun ww hw=>Sat.right (A:=HP.AA b3 0 [.slice lp l.length lc]*HP.AA b2 0 [ptr cb 0]) (M_ (by congr 1;unfold AT DN A1.h;ac_rfl) hw)⟩
 have h15:¬m.s.next≤(rg l 0).hi:=h15;refine J3 ?_;refine mA 12 13 ?_;refine Jh ?_;refine Jd 5 ?_;refine JT 6 rfl Wx ?_;refine Jf 7 ?_;refine JT 8 rfl Un ?_;refine JT 9 rfl Jg ?_;refine S3 ?_;refine J3 ?_;refine JL GT ?_;refine J4 ?_;refine Ai (H':=HP.AA b3 0 [.slice lp l.length lc]*(HP.AA b2 0 [ptr cb 0]*(AQ cb {m.x with BZ:=max m.x.BZ (rg l 0).hi}*(AS m.x.gq m.ga m.AP*(A4 cb m.ws*(BU cb m.rs*(AB m.fa.b m.fa.o m.fl m.fa.s*(AB m.la.b m.la.o m.lo m.la.s*(AO A0 m.fl*(AO A0 m.lo*R)))))))))) (by first|ac_rfl|dsimp only) ?_;refine Dx (HP.AA b3 0 [.slice lp l.length lc]*(HP.AA b2 0 [ptr cb 0]*AQ cb {m.x with BZ:=max m.x.BZ (rg l 0).hi})) 9 10 Dy rfl Cb ?_;refine Jd 0 ?_;refine Jd 1 ?_;refine JF ?_;refine JT 4 rfl (Ay Dn hm.lv) ?_;refine Jm 5 ?_
 refine Rm (HE cb m.s.ws l (HP.AA b3 0 [.slice lp l.length lc]*(HP.AA b2 0 [ptr cb 0]*(AO A0 m.fl*(AO A0 m.lo*R)))) []*(AB m.la.b m.la.o m.lo m.la.s*(AQ cb {m.x with BZ:=max m.x.BZ (rg l 0).hi}*(AS m.x.gq m.ga m.AP*(BU cb m.rs*AB m.fa.b m.fa.o m.fl m.fa.s))))) (hE:=⟨fun ww hw=>?_⟩) ?_
 ·exact Hy m.ws ⟨hm.ws,rfl⟩ Cf ww hw
 have hkl:∀a∈m.lo,Ad B (HP.AA b3 0 [.slice lp l.length lc]*(HP.AA b2 0 [ptr cb 0]*(AO A0 m.fl*(AO A0 m.lo*R)))) a.a.b a.a.o a.fs:=fun a ha=>by have:=Ro (B:=B) ha;infer_instance
 have hkf:∀a∈m.fl,Ad B (HP.AA b3 0 [.slice lp l.length lc]*(HP.AA b2 0 [ptr cb 0]*(AO A0 m.fl*(AO A0 m.lo*R)))) a.a.b a.a.o a.fs:=fun a ha=>by have:=Ro (B:=B) ha;infer_instance
 refine Am 6 Cb rfl rfl (BJ rfl (Rb m.lo m.la.p m.la.b m.la.o m.la.c m.la.s _ [ptr b3 0,ptr b2 0] (fun a=>BL l a.number) (HE cb m.s.ws l (HP.AA b3 0 [.slice lp l.length lc]*(HP.AA b2 0 [ptr cb 0]*(AO A0 m.fl*(AO A0 m.lo*R))))) (AQ cb {m.x with BZ:=max m.x.BZ (rg l 0).hi}*(AS m.x.gq m.ga m.AP*(BU cb m.rs*AB m.fa.b m.fa.o m.fl m.fa.s))) hm.la.1 hm.la.2 Ca (bG cb m.x.AG b3 b2 m.s.ws m.lo l lp lb lo lc (HP.AA b3 0 [.slice lp l.length lc]*(HP.AA b2 0 [ptr cb 0]*(AO A0 m.fl*(AO A0 m.lo*R)))) hi.ws hm.lo (aZ hi) (mS hi) hkl (fun a ha=>Tp hi ht a (.inr ha)) hls hll))) ?_;rintro _ _ ⟨p35,b35,o35,c35,s35,rfl,hs35,hc35,rfl⟩;refine⟨.inr ⟨fun ww hw=>Bq.get (B:=B) (H:=(HP.AA b3 0 [.slice lp l.length lc]*(HP.AA b2 0 [ptr cb 0]*(AO A0 m.fl*(AO A0 m.lo*R))))*(AB b35 o35 (m.lo.filter (fun x=> !BL l x.number)) s35*(AQ cb {m.x with BZ:=max m.x.BZ (rg l 0).hi}*(AS m.x.gq m.ga m.AP*(BU cb m.rs*AB m.fa.b m.fa.o m.fl m.fa.s))))) ww (ZF (M_ Cm hw))⟩,?_⟩;refine EI (H':=HE cb m.s.ws l (HP.AA b3 0 [.slice lp l.length lc]*(HP.AA b2 0 [ptr cb 0]*(AO A0 m.fl*(AO A0 m.lo*R)))) m.lo*(AB b35 o35 (m.lo.filter (fun x=> !BL l x.number)) s35*(AQ cb {m.x with BZ:=max m.x.BZ (rg l 0).hi}*(AS m.x.gq m.ga m.AP*(BU cb m.rs*AB m.fa.b m.fa.o m.fl m.fa.s))))) Cf ?_;unfold HE;refine Sv ?_
 rintro ws1 ⟨hw1,hw1e⟩;refine Jn 7 ?_;refine Jf 8 ?_;refine DV 9 Cb rfl (Eh (v:=.slice p35 (m.lo.filter (fun x=> !BL l x.number)).length c35) rfl rfl rfl trivial) ?_;refine KO ?_;refine Ai (H':=HP.AA b3 0 [.slice lp l.length lc]*(HP.AA b2 0 [ptr cb 0]*(AQ cb {m.x with BZ:=max m.x.BZ (rg l 0).hi,lv:=.slice p35 (m.lo.filter (fun x=> !BL l x.number)).length c35}*(AS m.x.gq m.ga m.AP*(A4 cb ws1*(BU cb m.rs*(AB m.fa.b m.fa.o m.fl m.fa.s*(AB b35 o35 (m.lo.filter (fun x=> !BL l x.number)) s35*(AO A0 m.fl*(AO A0 m.lo*R)))))))))) Cf ?_;refine J4 ?_;refine JL Qy ?_;refine J6 ?_;refine Dx (HP.AA b3 0 [.slice lp l.length lc]*(HP.AA b2 0 [ptr cb 0]*AQ cb {m.x with BZ:=max m.x.BZ (rg l 0).hi,lv:=.slice p35 (m.lo.filter (fun x=> !BL l x.number)).length c35})) 9 10 Dy rfl Cb ?_;refine Jd 0 ?_;refine Jd 1 ?_;refine JF ?_;refine JT 4 rfl Qy ?_;refine Jm 5 ?_
 refine Rm (HE cb (ws1.map (·.w)) l (HP.AA b3 0 [.slice lp l.length lc]*(HP.AA b2 0 [ptr cb 0]*(AO A0 m.fl*(AO A0 m.lo*R)))) []*(AB m.fa.b m.fa.o m.fl m.fa.s*(AQ cb {m.x with BZ:=max m.x.BZ (rg l 0).hi,lv:=.slice p35 (m.lo.filter (fun x=> !BL l x.number)).length c35}*(AS m.x.gq m.ga m.AP*(BU cb m.rs*AB b35 o35 (m.lo.filter (fun x=> !BL l x.number)) s35))))) (hE:=⟨fun ww hw=>?_⟩) ?_
 ·exact Hy ws1 ⟨hw1,rfl⟩ Cf ww hw
 obtain⟨n1,n2,_⟩:=M' (AG:=m.x.AG) (l:=l) (m.lo.map (·.Ao)) m.s.ws hi.ws (fun p hp g hg=>by
  obtain⟨a,ha,rfl⟩:=R?.1 hp
  exact aZ hi a ha g hg)
 rw [←hw1e]at n1 n2;refine Am 6 Cb rfl rfl (BJ rfl (Rb m.fl m.fa.p m.fa.b m.fa.o m.fa.c m.fa.s _ [ptr b3 0,ptr b2 0] (fun a=>BL l a.number) (HE cb (ws1.map (·.w)) l (HP.AA b3 0 [.slice lp l.length lc]*(HP.AA b2 0 [ptr cb 0]*(AO A0 m.fl*(AO A0 m.lo*R))))) (AQ cb {m.x with BZ:=max m.x.BZ (rg l 0).hi,lv:=.slice p35 (m.lo.filter (fun x=> !BL l x.number)).length c35}*(AS m.x.gq m.ga m.AP*(BU cb m.rs*AB b35 o35 (m.lo.filter (fun x=> !BL l x.number)) s35))) hm.fa.1 hm.fa.2 Ca (bG cb m.x.AG b3 b2 (ws1.map (·.w)) m.fl l lp lb lo lc (HP.AA b3 0 [.slice lp l.length lc]*(HP.AA b2 0 [ptr cb 0]*(AO A0 m.fl*(AO A0 m.lo*R)))) n1 hm.fl (fun a ha g hg=>(bX hi a ha g hg).same n2) (YQ hi) hkf (fun a ha=>Tp hi ht a (.inl ha)) hls hll))) ?_;rintro _ _ ⟨p49,b49,o49,c49,s49,rfl,hs49,hc49,rfl⟩;refine⟨.inr ⟨fun ww hw=>Bq.get (B:=B) (H:=(HP.AA b3 0 [.slice lp l.length lc]*(HP.AA b2 0 [ptr cb 0]*(AO A0 m.fl*(AO A0 m.lo*R))))*(AB b49 o49 (m.fl.filter (fun x=> !BL l x.number)) s49*(AQ cb {m.x with BZ:=max m.x.BZ (rg l 0).hi,lv:=.slice p35 (m.lo.filter (fun x=> !BL l x.number)).length c35}*(AS m.x.gq m.ga m.AP*(BU cb m.rs*AB b35 o35 (m.lo.filter (fun x=> !BL l x.number)) s35))))) ww (ZF (M_ Cm hw))⟩,?_⟩
 refine EI (H':=HE cb (ws1.map (·.w)) l (HP.AA b3 0 [.slice lp l.length lc]*(HP.AA b2 0 [ptr cb 0]*(AO A0 m.fl*(AO A0 m.lo*R)))) m.fl*(AB b49 o49 (m.fl.filter (fun x=> !BL l x.number)) s49*(AQ cb {m.x with BZ:=max m.x.BZ (rg l 0).hi,lv:=.slice p35 (m.lo.filter (fun x=> !BL l x.number)).length c35}*(AS m.x.gq m.ga m.AP*(BU cb m.rs*AB b35 o35 (m.lo.filter (fun x=> !BL l x.number)) s35))))) Cf ?_;unfold HE;refine Sv ?_;rintro ws2 ⟨hw2,hw2e⟩;refine Jn 7 ?_;refine Jf 8 ?_;refine DV 9 Cb rfl (Eh (v:=.slice p49 (m.fl.filter (fun x=> !BL l x.number)).length c49) rfl rfl rfl trivial) ?_;refine DB ?_;refine J6 ?_;refine JL (Ay (v':=.slice p49 (m.fl.filter (fun x=> !BL l x.number)).length c49) Dn rfl) ?_;refine J5 ?_;refine CO (α:=Unit) (fun _=>[(2,ptr b2 0)]) (fun _=>AQ cb {m.x with BZ:=max m.x.BZ (rg l 0).hi,lv:=.slice p35 (m.lo.filter (fun x=> !BL l x.number)).length c35,fv:=.slice p49 (m.fl.filter (fun x=> !BL l x.number)).length c49,waits:=if(m.fl.filter (fun x=> !BL l x.number)).length<m.fl.length then 0 else m.x.waits}*(AS m.x.gq m.ga m.AP*(A4 cb ws2*(BU cb m.rs*(AB b49 o49 (m.fl.filter (fun x=> !BL l x.number)) s49*(AB b35 o35 (m.lo.filter (fun x=> !BL l x.number)) s35*(AO A0 m.fl*(AO A0 m.lo*(HP.AA b2 0 [ptr cb 0]*R))))))))) (fun _=>True) ?_ ?_
 ·refine mC (fun h58=>?_) (fun h58=>?_)
  ·refine J4 ?_;refine Bi (Eh (v:=.int .u64 (0:Nat)) rfl rfl rfl Cd) ?_;refine H5 ?_;refine Bd (AQ cb {m.x with BZ:=max m.x.BZ (rg l 0).hi,lv:=.slice p35 (m.lo.filter (fun x=> !BL l x.number)).length c35,fv:=.slice p49 (m.fl.filter (fun x=> !BL l x.number)).length c49,waits:=if(m.fl.filter (fun x=> !BL l x.number)).length<m.fl.length then 0 else m.x.waits}*(AS m.x.gq m.ga m.AP*(A4 cb ws2*(BU cb m.rs*(AB b49 o49 (m.fl.filter (fun x=> !BL l x.number)) s49*(AB b35 o35 (m.lo.filter (fun x=> !BL l x.number)) s35*(AO A0 m.fl*(AO A0 m.lo*(HP.AA b2 0 [ptr cb 0]*R))))))))) (hE:=⟨fun ww hw=>Sat.right (A:=HP.AA b3 0 [.slice lp l.length lc]) (M_ (by congr 1;rw [if_pos h58];ac_rfl) hw)⟩) ?_;exact A8 () trivial OP rfl
  refine J1 ?_;refine Bd (AQ cb {m.x with BZ:=max m.x.BZ (rg l 0).hi,lv:=.slice p35 (m.lo.filter (fun x=> !BL l x.number)).length c35,fv:=.slice p49 (m.fl.filter (fun x=> !BL l x.number)).length c49,waits:=if(m.fl.filter (fun x=> !BL l x.number)).length<m.fl.length then 0 else m.x.waits}*(AS m.x.gq m.ga m.AP*(A4 cb ws2*(BU cb m.rs*(AB b49 o49 (m.fl.filter (fun x=> !BL l x.number)) s49*(AB b35 o35 (m.lo.filter (fun x=> !BL l x.number)) s35*(AO A0 m.fl*(AO A0 m.lo*(HP.AA b2 0 [ptr cb 0]*R))))))))) (hE:=⟨fun ww hw=>Sat.right (A:=HP.AA b3 0 [.slice lp l.length lc]) (M_ (by congr 1;rw [if_neg h58];ac_rfl) hw)⟩) ?_;exact A8 () trivial OP rfl
 ·rintro _ _;refine J2 ?_
  obtain⟨m2,hm2⟩:∃m2:Ab,m2=⟨{m.x with BZ:=max m.x.BZ (rg l 0).hi,lv:=.slice p35 (m.lo.filter (fun x=> !BL l x.number)).length c35,fv:=.slice p49 (m.fl.filter (fun x=> !BL l x.number)).length c49,waits:=if(m.fl.filter (fun x=> !BL l x.number)).length<m.fl.length then 0 else m.x.waits},m.AP,m.ga,ws2,m.rs,m.fl.filter (fun x=> !BL l x.number),m.lo.filter (fun x=> !BL l x.number),⟨p49,b49,o49,c49,s49⟩,⟨p35,b35,o35,c35,s35⟩⟩:=Bh
  have hok2:m2.ok:=by
   rw [hm2];exact⟨hm.g,hw2,hm.rs,fun a ha=>hm.fl a (T_.1 ha).1,fun a ha=>hm.lo a (T_.1 ha).1,⟨hs49,hc49⟩,⟨hs35,hc35⟩,rfl,rfl⟩
  have e1:(m.fl.filter (fun x=> !BL l x.number)).map (·.Ao)=(m.fl.map (·.Ao)).filter (fun p=> !BL l p.number):=Qc m.fl (fun p=> !BL l p.number);have e2:(m.lo.filter (fun x=> !BL l x.number)).map (·.Ao)=(m.lo.map (·.Ao)).filter (fun p=> !BL l p.number):=Qc m.lo (fun p=> !BL l p.number)
  have hs2:m2.s=m.s.Ek l:=by
   rw [hm2];unfold AF.Ek Ab.s;dsimp only;rw [hw2e,hw1e,←e1,←e2,P!,P!];rfl
  have hi2:AZ t m2.s:=by rw [hs2];exact(hi.Ek l Ca).1
  refine HW (AT cb m2*(HP.AA b2 0 [ptr cb 0]*R)) (hE:=?_) ?_
  ·rw [hm2];refine⟨fun ww hw=>?_⟩;refine Sat.right (A:=AO A0 (m.fl.filter (fun x=>BL l x.number))*AO A0 (m.lo.filter (fun x=>BL l x.number))) ?_;refine M_ ?_ hw;congr 1;unfold AT DN A1.h;dsimp only;rw [PF A0 (fun a:BB=>BL l a.number) m.fl,PF A0 (fun a:BB=>BL l a.number) m.lo];ac_rfl
  refine J2 ?_;refine JL GT ?_;refine mE rfl (bT cb t m2 (fun p=>decide (p.number+3≤m2.x.BZ)) _ [ptr b2 0] (HP.AA b2 0 [ptr cb 0]) R hok2 hi2 ht (fun x a R2 hx ha=>by have:=qK (B:=B) cb b2 x a R2 (Tp hi2 ht a (.inl ha));rw [hx]at this;exact this)) ?_;rintro _ _ ⟨m3,hok3,hs3,rfl⟩;refine J4 ?_;refine F8 ?_
  have ewr:m.s.B0 l=(0,m3.s):=by
   unfold AF.B0;rw [if_neg h15,hs3,←hs2];rfl
  exact mR [4] (AT cb m3*R) (hE:=⟨fun ww hw=>Sat.right (A:=HP.AA b2 0 [ptr cb 0]) (M_ Cm hw)⟩) rfl rfl ⟨m3,hok3,Ct,Cq,rfl⟩
end
section
section
variable{P:Program}{B:World}{n:Nat}{E:A2}{D:Bu}{H R:HP}{d:Option Tmp}{T T' ty:TypeId}{pos:String}{af:Array Edge}{g:Option (Nat×Bool)}{x y z:Operand}
theorem uE{s:ByteArray}{l:Nat}{ik:IntKind}[hT:Au P T .string](hx:ev E x=some (.string s))(hy:ev E y=some (.int ik l))(h:l≤s.size):
  Aa P B n ⟨d,.slice T x (some y) none none,ty,pos,af,g⟩ E H (.string (s.extract l s.size)):=by
 intro a w he _;simp only [execOp,he.ev hx,P?,Q_,he.ev hy,Instr.sliceAt,Instr.slice,Instr.sliceBounds,L?,Bk hT.get,K!,L!,F0 h,N!,L_,if_false,pure_bind]
 try rfl
theorem Z9{s:ByteArray}{h:Nat}{ik:IntKind}[hT:Au P T .string](hx:ev E x=some (.string s))(hy:ev E y=some (.int ik h))(hh:h≤s.size):
  Aa P B n ⟨d,.slice T x none (some y) none,ty,pos,af,g⟩ E H (.string (s.extract 0 h)):=by
 intro a w he _;simp only [execOp,he.ev hx,P?,Q_,he.ev hy,Instr.sliceAt,Instr.slice,Instr.sliceBounds,L?,Bk hT.get,K!,L!,F0 hh,N!,L_,if_false,pure_bind]
 try rfl
theorem ZW{s:ByteArray}{l h:Nat}{ik jk:IntKind}[hT:Au P T .string](hx:ev E x=some (.string s))(hy:ev E y=some (.int ik l))(hz:ev E z=some (.int jk h))(hh:l≤h∧h≤s.size):
  Aa P B n ⟨d,.slice T x (some y) (some z) none,ty,pos,af,g⟩ E H (.string (s.extract l h)):=by
 intro a w he _;simp only [execOp,he.ev hx,P?,Q_,he.ev hy,he.ev hz,Instr.sliceAt,Instr.slice,Instr.sliceBounds,L?,Bk hT.get,K!,L!,F0 hh.1,F0 hh.2,N!,L_,if_false,pure_bind]
 try rfl
theorem kQ(s:ByteArray)(l h:Nat):(s.extract l h).data.toList=(s.data.toList.take h).drop l:=by
 rw [ByteArray.data_extract,Array.toList_extract,O_,T!]
theorem pK{sT xT e b o dl dc k:Nat}{p:Option Addr}{s:ByteArray}{ys:List UInt8}{L:List Value}[hT:Au P sT (.slice e)][hz:Bj P e 1]
  (hx:ev E x=some (.slice p dl dc))(hs:Sl p b (o+k*1) dl dc)(hy:ev E y=some (.string s))(hm:ys=s.data.toList.take (min s.size dl))
  (hl:k+dl≤L.length):
  CH P B n ⟨d,.call ⟨.builtin .copy,#[x,y],#[sT,xT]⟩,ty,pos,af,g⟩ E D (HP.AA b o L*R)
   (fun v H'=>v=.int .i64 (ys.length:Nat)∧H'=HP.AA b o (L.take k++AD ys++L.drop (k+ys.length))*R):=by
 intro a w h1 _ h3 K Q hk
 have hyl:ys.length=min s.size dl:=by
  rw [hm,M!]
  have:s.data.toList.length=s.size:=rfl
  omega
 have hm2:Nat.min s.size dl=ys.length:=hyl.symm
 have hf:(Builtin.firstCells 1 ys.length (.string s)).run P w=.ok (AD ys).toArray w:=by
  simp only [Builtin.firstCells,L!];congr 1;apply Array.toList_inj.1;rw [Array.toList_map,ByteArray.data_extract,Array.toList_extract,O_,hyl];rw [hm];simp only [List.drop_zero,Nat.sub_zero];rw [ZG];rfl
 have hw2:∃w',((match p with|some q=>storeCells q (AD ys)|none=>pure ()).run P w)=.ok () w'∧
   Sat B (HP.AA b o (L.take k++AD ys++L.drop (k+ys.length))*R) w':=by
  rcases hs.1 with h4|rfl
  ·have hd0:ys=[]:=K?.1 Ci;subst hd0;refine⟨w,?_,by simpa [AD]using h3⟩;cases p<;>simp [AD,storeCells]
  ·rw [RW b o k L Ca,HP.assoc,HP.CI]at h3
   have hfl:(AD ys).length=ys.length:=by rw [Bp];simp
   have hle:(AD ys).length≤(L.drop k).length:=by rw [hfl,S!];omega
   obtain⟨w',k1,k2⟩:=Sat.JW (P:=P) (AD ys) (o+k*1) 0 (L.drop k) _ w hle (KA _) (by rw [Nat.mul_one];exact h3);refine⟨w',k1,?_⟩;rw [HP.CI,←HP.assoc,List.drop_drop]at k2
   have e2:(L.take k).length=k:=by rw [M!];omega
   have e3:HP.AA b o (L.take k++AD ys++L.drop (k+ys.length))=HP.AA b o (L.take k)*HP.AA b (o+k) (AD ys++L.drop (k+(AD ys).length)):=by
    rw [O!,HP.FM,e2,hfl]
   rw [e3];rw [Nat.mul_one]at k2
   first|exact k2|(rw [Nat.add_comm]at k2;exact k2)
 obtain⟨w',k1,k2⟩:=hw2
 have hrun:(execOp a.eval ⟨d,.call ⟨.builtin .copy,#[x,y],#[sT,xT]⟩,ty,pos,af,g⟩).run P w=.ok (.value (.int .i64 (ys.length:Nat))) w':=by
  simp only [execOp,resolve,List.map_toArray,List.map_cons,List.map_nil,h1.ev hx,h1.ev hy,L?,L!,K!,invoke,builtin];simp only [Builtin.copy_];simp only [List.getElem?_toArray,List.getElem?_cons_zero,List.getElem?_cons_succ,Bk hT.get,Builtin.lenOf,L?,L!,K!,hm2,hz.get,hf,pure_bind,goInt]
  cases p with
  |none=>simp only [L!]at k1;cases k1;rfl
  |some q=>simp only [L?,k1,K!];rfl
 simp only [Oper.wp,hrun,Oper.upon];exact hk _ _ _ BW k2
theorem bL{k:IntKind}{i j:Int}(hx:ev E x=some (.int k i))(hy:ev E y=some (.int k j)):Aa P B n ⟨d,.call ⟨.builtin .max,#[x,y],#[T,T']⟩,ty,pos,af,g⟩ E H (.int k (if i<j then j else i)):=by
 intro a w he _;simp [execOp,he.ev hx,he.ev hy,resolve,invoke,builtin,Builtin.max_,Builtin.max2]
theorem jM{e sz:Nat}[hT:Au P T (.slice e)][hz:Bj P e sz]:
  CH P B n ⟨d,.buildSlice T 0 #[],ty,pos,af,g⟩ E D H (fun v H'=>∃b,v=.slice (some ⟨b,0,none⟩) 0 0∧H'=AB b 0 ([]:List UInt8) []*H):=by
 intro a w h1 _ h3 K Q hk
 have hrun:(execOp a.eval ⟨d,.buildSlice T 0 #[],ty,pos,af,g⟩).run P w=.ok (.value (.slice (some ⟨w.heap.size,0,none⟩) 0 0)) (w.alloc (.cells #[] e)):=by
  simp [execOp,Instr.buildSlice,Bk hT.get,hz.get,Instr.fill,newRow]
  have:Array.map (fun _=>(default:Value)) (Array.range 0)= #[]:=by simp
  rw [this]
 simp only [Oper.wp,hrun,Oper.upon];refine hk _ _ _ ⟨w.heap.size,rfl,rfl⟩ ?_
 have:=h3.alloc #[] e
 rw [Gk,HP.BI];exact this.right
end
end
section
variable{B:World}
theorem gD(d:ByteArray)(l h n dl:Nat)(hl:l≤h)(hh:h≤d.size)(hn:n=h-l)(hd:n≤dl):(d.data.toList.drop l).take n=(d.extract l h).data.toList.take (min (d.extract l h).size dl):=by
 have hsz:(d.extract l h).size=n:=by rw [ByteArray.size_extract];omega
 rw [hsz,Nat.min_eq_left hd,kQ,T!,List.take_take,hn,Nat.min_self]
structure N2 where
 n:Nat
 lo:Nat
 b:List UInt8
 AE:BH
 ca:By
set_option maxHeartbeats 4000000 in
theorem mG(b o t AG:Nat)(rm:Df)(r:RF)(R:HP)(hok:rm.ok)(hr:FY AG t rm.r)(hw:AG≤1024)(hf:JI r.f)(hk5:r.f.kind=5)(hb:rm.r.given=false→r.f.offset+r.f.data.size≤rm.r.read+AG)(ht:t<1000000):
  Fn Tryz.prog B 184 [ptr b o,.agg (AM r).toArray] (HP.AA b o (DY rm)*(CE rm*R))
   (fun v H'=>∃rm2:Df,rm2.ok∧rm2.r=(rm.r.data r.f).2∧v=iN (rm.r.data r.f).1∧H'=HP.AA b o (DY rm2)*(CE rm2*R)):=by
 refine mI Tryz.func184 ?_;have hl:=hr.len;have hrh:=hr.rh;have hhw:=hr.hw;have hrt:=hr.rt;have hoff:=hf.2.2.2.1;have hoe:=hf.2.2.2.2.1 hk5;refine K' ?_;rintro _ _ ⟨b3,rfl,rfl⟩;refine Fd ?_;refine J9 ?_;refine JL FD ?_;refine JL Jr ?_;refine J7 ?_;refine CO (α:=Unit) (fun _=>[(15,.bool (decide (rm.r.ended=true∧(rm.r.end_<(r.f.offset+r.f.data.size)∨r.f.fin=true∧(r.f.offset+r.f.data.size)≠rm.r.end_)))),(0,ptr b o),(3,ptr b3 0),(5,uN (r.f.offset+r.f.data.size))]) (fun _=>HP.AA b3 0 (AM r)*(HP.AA b o (DY rm)*(CE rm*R))) (fun _=>True) ?_ ?_
 ·refine J6 ?_;refine DO 20 rfl (fun hg1=>?_) (fun hg1=>?_)
  ·have he:rm.r.ended=true:=hg1;refine Hx ?_;refine J1 ?_;refine Hx ?_;refine JL H9 ?_;refine MZ ?_;refine EL 27 rfl (fun hg2=>?_) (fun hg2=>?_)
   ·have hgt:rm.r.end_<(r.f.offset+r.f.data.size):=hg2;refine JH T2 ?_;refine JH T2 ?_;refine JH T2 ?_;refine RQ ?_;refine GV ?_;refine JH T2 ?_;refine ID ?_;refine JL Hr ?_;refine Jw ?_;refine A8 () trivial (.cons ?_ D6) rfl;refine Ew ?_;congr 2
    first
     |exact(decide_eq_false (fun h=>J? (he.symm.trans h.1))).symm
     |exact(decide_eq_true ⟨he,.inl hgt⟩).symm
     |exact decide_eq_decide.2 ⟨fun h=>⟨he,.inr ⟨hfn,h⟩⟩,fun h=>h.2.elim (fun h=>absurd h hgt) (fun h=>h.2)⟩
     |exact(decide_eq_false (fun h=>h.2.elim (fun h=>absurd h hgt) (fun h=>J? (hfn.symm.trans h.1)))).symm
   have hgt:¬rm.r.end_<(r.f.offset+r.f.data.size):=hg2;refine Yr ?_;refine J1 ?_;refine JG F2 ?_;refine J1 ?_;refine DO 30 rfl (fun hg3=>?_) (fun hg3=>?_)
   ·have hfn:r.f.fin=true:=hg3;refine OI ?_;refine J1 ?_;refine OI ?_;refine JL (FE rfl rfl) ?_;refine JG F2 ?_;refine JL Oj ?_;refine ID ?_;refine JL HZ ?_;refine Jw ?_;refine A8 () trivial (.cons ?_ D6) rfl;refine Ew ?_;congr 2
    first
     |exact(decide_eq_false (fun h=>J? (he.symm.trans h.1))).symm
     |exact(decide_eq_true ⟨he,.inl hgt⟩).symm
     |exact decide_eq_decide.2 ⟨fun h=>⟨he,.inr ⟨hfn,h⟩⟩,fun h=>h.2.elim (fun h=>absurd h hgt) (fun h=>h.2)⟩
     |exact(decide_eq_false (fun h=>h.2.elim (fun h=>absurd h hgt) (fun h=>J? (hfn.symm.trans h.1)))).symm
   have hfn:r.f.fin=false:=hg3;refine Og ?_;refine Og ?_;refine JG F2 ?_;refine JL Kc ?_;refine ID ?_;refine JL HZ ?_;refine Jw ?_;refine A8 () trivial (.cons ?_ D6) rfl;refine Ew ?_;congr 2
   first
    |exact(decide_eq_false (fun h=>J? (he.symm.trans h.1))).symm
    |exact(decide_eq_true ⟨he,.inl hgt⟩).symm
    |exact decide_eq_decide.2 ⟨fun h=>⟨he,.inr ⟨hfn,h⟩⟩,fun h=>h.2.elim (fun h=>absurd h hgt) (fun h=>h.2)⟩
    |exact(decide_eq_false (fun h=>h.2.elim (fun h=>absurd h hgt) (fun h=>J? (hfn.symm.trans h.1)))).symm
  have he:rm.r.ended=false:=hg1;refine H3 ?_;refine H3 ?_;refine Hw ?_;refine RQ ?_;refine RQ ?_;refine Hw ?_;refine LI ?_;refine A8 () trivial (.cons ?_ D6) rfl;refine Ew ?_;congr 2
  first
   |exact(decide_eq_false (fun h=>J? (he.symm.trans h.1))).symm
   |exact(decide_eq_true ⟨he,.inl hgt⟩).symm
   |exact decide_eq_decide.2 ⟨fun h=>⟨he,.inr ⟨hfn,h⟩⟩,fun h=>h.2.elim (fun h=>absurd h hgt) (fun h=>h.2)⟩
   |exact(decide_eq_false (fun h=>h.2.elim (fun h=>absurd h hgt) (fun h=>J? (hfn.symm.trans h.1)))).symm
 ·rintro _ _;refine J1 ?_;refine CO (α:=Unit) (fun _=>[(15,.bool (decide (Lf rm.r.ended rm.r.end_ rm.r.high r.f))),(0,ptr b o),(3,ptr b3 0),(5,uN (r.f.offset+r.f.data.size))]) (fun _=>HP.AA b3 0 (AM r)*(HP.AA b o (DY rm)*(CE rm*R))) (fun _=>True) ?_ ?_
  ·refine mC (fun h15=>?_) (fun h15=>?_)
   ·refine J1 ?_;exact A8 () trivial (.cons (by show some (Value.bool _)=some (Value.bool _);congr 2;exact((decide_eq_true h15).trans (decide_eq_true (.inl h15)).symm)) D6) rfl
   refine CO (α:=Unit) (fun _=>[(15,.bool (decide (r.f.fin=true∧(r.f.offset+r.f.data.size)<rm.r.high))),(0,ptr b o),(3,ptr b3 0),(5,uN (r.f.offset+r.f.data.size))]) (fun _=>HP.AA b3 0 (AM r)*(HP.AA b o (DY rm)*(CE rm*R))) (fun _=>True) ?_ ?_
   ·refine J4 ?_;refine DO 42 rfl (fun hg4=>?_) (fun hg4=>?_)
    ·have hfn:r.f.fin=true:=hg4;refine Rf ?_;refine J1 ?_;refine Rf ?_;refine J1 ?_;refine JL (GK hg4 rfl rfl) ?_;refine J2 ?_;refine A8 () trivial (.cons ?_ D6) rfl;refine Ew ?_;congr 2
     first
      |exact decide_eq_decide.2 ⟨fun h=>⟨hfn,h⟩,fun h=>h.2⟩
      |exact(decide_eq_false (fun h=>J? (hfn.symm.trans h.1))).symm
    have hfn:r.f.fin=false:=hg4;refine TR ?_;refine TR ?_;refine JL (Gl hg4 rfl rfl) ?_;refine J2 ?_;refine A8 () trivial (.cons ?_ D6) rfl;refine Ew ?_;congr 2
    first
     |exact decide_eq_decide.2 ⟨fun h=>⟨hfn,h⟩,fun h=>h.2⟩
     |exact(decide_eq_false (fun h=>J? (hfn.symm.trans h.1))).symm
   ·rintro _ _;exact A8 () trivial (.cons (by show some (Value.bool _)=some (Value.bool _);congr 2;exact decide_eq_decide.2 ⟨.inr,fun h=>h.resolve_left h15⟩) D6) rfl
  ·rintro _ _;refine J1 ?_;refine mC (fun hbad=>?_) (fun hbad=>?_)
   ·refine J2 ?_;refine JL XB ?_;refine J5 ?_;exact mR [4] (HP.AA b o (DY rm)*(CE rm*R)) rfl rfl ⟨rm,hok,by unfold Bf.data;rw [if_pos hbad],by unfold Bf.data;rw [if_pos hbad];rfl,rfl⟩
   refine J9 ?_;refine mc (fun h50=>?_) (fun h50=>?_)
   ·refine Kh ?_;exact mR [4] (HP.AA b o (DY rm)*(CE rm*R)) rfl rfl ⟨rm,hok,by unfold Bf.data;rw [if_neg hbad,if_pos h50],by unfold Bf.data;rw [if_neg hbad,if_pos h50];rfl,rfl⟩
   refine J4 ?_;have hb2:=hb h50;have hl2:=hl h50;refine Ai (H':=HP.AA b o (DY rm)*(AB rm.a.b rm.a.o rm.r.b rm.a.s*(HP.AA b3 0 (AM r)*(AS rm.cq rm.ca rm.r.AE*R)))) (by unfold CE;ac_rfl) ?_;refine J7 ?_;refine JL Jg ?_;refine DP ?_;refine CO (α:=Unit) (fun _=>[(0,ptr b o),(3,ptr b3 0),(5,uN (r.f.offset+r.f.data.size))]) (fun _=>AB rm.a.b rm.a.o (rm.r.b++J! 0 0) rm.a.s*(HP.AA b o [.slice rm.a.p (rm.r.b++J! 0 (0:UInt8)).length rm.a.c,ptr rm.cq 0,uN (max rm.r.high (r.f.offset+r.f.data.size)),uN (if r.f.fin then(r.f.offset+r.f.data.size)else rm.r.end_),.bool (rm.r.ended||r.f.fin),.bool rm.r.given,uN rm.r.code,uN rm.r.read,iN rm.r.state]*(HP.AA b3 0 (AM r)*(AS rm.cq rm.ca rm.r.AE*R)))) (fun _=>True) ?_ ?_
   ·refine mc (fun h65=>?_) (fun h65=>?_)
    ·refine Bt ?_;exact A8 () trivial D6 (by rw [h65];show _=AB rm.a.b rm.a.o (rm.r.b++J! 0 0) rm.a.s*(HP.AA b o [.slice rm.a.p (rm.r.b++J! 0 (0:UInt8)).length rm.a.c,ptr rm.cq 0,uN (max rm.r.high (r.f.offset+r.f.data.size)),uN (r.f.offset+r.f.data.size),.bool (rm.r.ended||true),.bool rm.r.given,uN rm.r.code,uN rm.r.read,iN rm.r.state]*_);rw [M?,Q!,Bool.or_true];ac_rfl)
    refine J1 ?_;exact A8 () trivial D6 (by rw [h65];show _=AB rm.a.b rm.a.o (rm.r.b++J! 0 0) rm.a.s*(HP.AA b o [.slice rm.a.p (rm.r.b++J! 0 (0:UInt8)).length rm.a.c,ptr rm.cq 0,uN (max rm.r.high (r.f.offset+r.f.data.size)),uN rm.r.end_,.bool (rm.r.ended||false),.bool rm.r.given,uN rm.r.code,uN rm.r.read,iN rm.r.state]*_);rw [M?,Q!,Bool.or_false];ac_rfl)
   ·rintro _ _;refine J3 ?_;refine Bm (α:=Nat×A1) (fun z=>[(0,ptr b o),(3,ptr b3 0),(5,uN (r.f.offset+r.f.data.size))]) (fun z=>AB z.2.b z.2.o (rm.r.b++J! z.1 0) z.2.s*(HP.AA b o [.slice z.2.p (rm.r.b++J! z.1 (0:UInt8)).length z.2.c,ptr rm.cq 0,uN (max rm.r.high (r.f.offset+r.f.data.size)),uN (if r.f.fin then(r.f.offset+r.f.data.size)else rm.r.end_),.bool (rm.r.ended||r.f.fin),.bool rm.r.given,uN rm.r.code,uN rm.r.read,iN rm.r.state]*(HP.AA b3 0 (AM r)*(AS rm.cq rm.ca rm.r.AE*R)))) (fun z=>z.1≤((max rm.r.high (r.f.offset+r.f.data.size))-(rm.r.read+rm.r.b.length))∧z.2.ok (rm.r.b++J! z.1 (0:UInt8))) (fun z=>((max rm.r.high (r.f.offset+r.f.data.size))-(rm.r.read+rm.r.b.length))-z.1) (0,rm.a) ⟨Nat.zero_le _,by show A1.ok rm.a (rm.r.b++J! 0 (0:UInt8));rw [M?,Q!];exact hok.1⟩ D6 rfl ?_;rintro⟨nz,a1⟩ ⟨hnz,ha1⟩;dsimp only at hnz ha1⊢
    have hbl:(rm.r.b++J! nz (0:UInt8)).length=rm.r.b.length+nz:=by rw [N?,Q?]
    refine J2 ?_;refine WY ?_;refine JT 10 rfl Jr ?_;refine QY ?_;refine JT 15 rfl Mq ?_;refine FC ?_;refine mC (fun h88=>?_) (fun h88=>?_)
    ·skip
     have erep:rm.r.b++J! nz (0:UInt8)++[0]=rm.r.b++J! (nz+1) 0:=by rw [List.replicate_succ',O!]
     refine J9 ?_;refine Ag (Gq (cs:=[u8 0]) rfl Cp rfl rfl) rfl ?_;rintro _ _ ⟨b94,rfl,rfl⟩;refine A9 (H':=AB a1.b a1.o (rm.r.b++J! nz 0) a1.s*(HP.AA b94 0 (AD [(0:UInt8)])*(HP.AA b o [.slice a1.p (rm.r.b++J! nz (0:UInt8)).length a1.c,ptr rm.cq 0,uN (max rm.r.high (r.f.offset+r.f.data.size)),uN (if r.f.fin then(r.f.offset+r.f.data.size)else rm.r.end_),.bool (rm.r.ended||r.f.fin),.bool rm.r.given,uN rm.r.code,uN rm.r.read,iN rm.r.state]*(HP.AA b3 0 (AM r)*(AS rm.cq rm.ca rm.r.AE*R))))) (by show HP.AA b94 0 _*_=_;ac_rfl) ?_;refine Ag (CX (ys:=[(0:UInt8)]) (bb:=b94) (oo:=0) (cc:=1) rfl ha1.1 ha1.2 rfl CG inferInstance rfl Cn Ca) rfl ?_;rintro _ _ ⟨p95,b95,o95,c95,s95,rfl,hs95,hc95,rfl⟩;refine J5 ?_
     refine Dg (H':=HP.AA b94 0 (AD [(0:UInt8)])*(AB (⟨p95,b95,o95,c95,s95⟩:A1).b (⟨p95,b95,o95,c95,s95⟩:A1).o (rm.r.b++J! (nz+1) 0) (⟨p95,b95,o95,c95,s95⟩:A1).s*(HP.AA b o [.slice (⟨p95,b95,o95,c95,s95⟩:A1).p (rm.r.b++J! (nz+1) (0:UInt8)).length (⟨p95,b95,o95,c95,s95⟩:A1).c,ptr rm.cq 0,uN (max rm.r.high (r.f.offset+r.f.data.size)),uN (if r.f.fin then(r.f.offset+r.f.data.size)else rm.r.end_),.bool (rm.r.ended||r.f.fin),.bool rm.r.given,uN rm.r.code,uN rm.r.read,iN rm.r.state]*(HP.AA b3 0 (AM r)*(AS rm.cq rm.ca rm.r.AE*R))))) (by dsimp only;rw [←erep];ac_rfl) ?_;refine Bd (AB (⟨p95,b95,o95,c95,s95⟩:A1).b (⟨p95,b95,o95,c95,s95⟩:A1).o (rm.r.b++J! (nz+1) 0) (⟨p95,b95,o95,c95,s95⟩:A1).s*(HP.AA b o [.slice (⟨p95,b95,o95,c95,s95⟩:A1).p (rm.r.b++J! (nz+1) (0:UInt8)).length (⟨p95,b95,o95,c95,s95⟩:A1).c,ptr rm.cq 0,uN (max rm.r.high (r.f.offset+r.f.data.size)),uN (if r.f.fin then(r.f.offset+r.f.data.size)else rm.r.end_),.bool (rm.r.ended||r.f.fin),.bool rm.r.given,uN rm.r.code,uN rm.r.read,iN rm.r.state]*(HP.AA b3 0 (AM r)*(AS rm.cq rm.ca rm.r.AE*R)))) ?_
     exact Ba (nz+1,(⟨p95,b95,o95,c95,s95⟩:A1)) ⟨by show nz+1≤_;omega,by show A1.ok _ (rm.r.b++J! (nz+1) (0:UInt8));rw [←erep];exact⟨hs95,hc95⟩⟩ (by show((max rm.r.high (r.f.offset+r.f.data.size))-(rm.r.read+rm.r.b.length))-(nz+1)<((max rm.r.high (r.f.offset+r.f.data.size))-(rm.r.read+rm.r.b.length))-nz;omega) D6 rfl
    refine J7 ?_
    obtain rfl:nz=((max rm.r.high (r.f.offset+r.f.data.size))-(rm.r.read+rm.r.b.length)):=by omega
    refine Ai (H':=AS rm.cq rm.ca rm.r.AE*(HP.AA a1.b a1.o (AD (rm.r.b++J! ((max rm.r.high (r.f.offset+r.f.data.size))-(rm.r.read+rm.r.b.length)) 0)++a1.s)*(HP.AA b o [.slice a1.p (rm.r.b++J! ((max rm.r.high (r.f.offset+r.f.data.size))-(rm.r.read+rm.r.b.length)) 0).length a1.c,ptr rm.cq 0,uN (max rm.r.high (r.f.offset+r.f.data.size)),uN (if r.f.fin then(r.f.offset+r.f.data.size)else rm.r.end_),.bool (rm.r.ended||r.f.fin),.bool rm.r.given,uN rm.r.code,uN rm.r.read,iN rm.r.state]*(HP.AA b3 0 (AM r)*R)))) Oh ?_;refine mA 8 8 ?_;refine It ?_;refine Jm 2 ?_;refine Jn 3 ?_;refine I5 ?_;refine JT 6 rfl Jg ?_;refine Ja 7 ?_;refine Da ?_
    refine Bm (α:=N2) (fun z=>[(6,uN z.lo),(0,ptr b o),(3,ptr b3 0),(5,uN (r.f.offset+r.f.data.size))]) (fun z=>AS rm.cq z.ca z.AE*(HP.AA a1.b a1.o (AD z.b++a1.s)*(HP.AA b o [.slice a1.p (rm.r.b++J! ((max rm.r.high (r.f.offset+r.f.data.size))-(rm.r.read+rm.r.b.length)) 0).length a1.c,ptr rm.cq 0,uN (max rm.r.high (r.f.offset+r.f.data.size)),uN (if r.f.fin then(r.f.offset+r.f.data.size)else rm.r.end_),.bool (rm.r.ended||r.f.fin),.bool rm.r.given,uN rm.r.code,uN rm.r.read,iN rm.r.state]*(HP.AA b3 0 (AM r)*R)))) (fun z=>F9 z.n r.f.offset (r.f.offset+r.f.data.size) r.f.data.data.toList rm.r.read z.lo z.b z.AE=rm.r.filled r.f∧(r.f.offset+r.f.data.size)-z.lo<z.n∧r.f.offset≤z.lo∧rm.r.read≤z.lo∧z.lo<9000000000000000000∧z.b.length=(rm.r.b++J! ((max rm.r.high (r.f.offset+r.f.data.size))-(rm.r.read+rm.r.b.length)) 0).length∧(DF z.AE (max rm.r.high (r.f.offset+r.f.data.size))∧z.AE.floor=0∧z.AE.AL=4096)∧(∀n,n<rm.r.read→BE n z.AE.l)∧z.ca.ok z.AE) (fun z=>z.n) ⟨(r.f.offset+r.f.data.size)+1,max r.f.offset rm.r.read,(rm.r.b++J! ((max rm.r.high (r.f.offset+r.f.data.size))-(rm.r.read+rm.r.b.length)) 0),rm.r.AE,rm.ca⟩ ⟨rfl,by show(r.f.offset+r.f.data.size)-max r.f.offset rm.r.read<(r.f.offset+r.f.data.size)+1;omega,Nat.le_max_left _ _,Nat.le_max_right _ _,by show max r.f.offset rm.r.read<_;omega,rfl,⟨hr.co.mono PO,hr.cf,hr.cm⟩,hr.pre,hok.2⟩ IK rfl ?_
    rintro z ⟨z1,z2,z3,z4,z5,z6,z7,z8,z9⟩
    have hb1l:(rm.r.b++J! ((max rm.r.high (r.f.offset+r.f.data.size))-(rm.r.read+rm.r.b.length)) 0).length=(max rm.r.high (r.f.offset+r.f.data.size))-rm.r.read:=by rw [N?,Q?];omega
    have hcl:=RY z7.1.inc z8 z7.1.hi (by omega:(max rm.r.high (r.f.offset+r.f.data.size))≤rm.r.read+1024);refine J8 ?_;refine mC (fun h107=>?_) (fun h107=>?_)
    ·obtain⟨ga,gb,gc,gd,ge⟩:=IW z.AE.l z.lo (r.f.offset+r.f.data.size) z7.1.inc Ca;refine J5 ?_;refine Gu ?_;refine Bt ?_;refine mE rfl (Ot rm.cq z.lo (r.f.offset+r.f.data.size) (max rm.r.high (r.f.offset+r.f.data.size)) z.ca z.AE _ z9 z7.1 Ca Ca) ?_;refine JR ?_;refine Bt ?_;refine JL LH ?_;refine J2 ?_;refine mC (fun hgx=>?_) (fun hgx=>?_)
     ·skip
      have hstop:F9 z.n r.f.offset (r.f.offset+r.f.data.size) r.f.data.data.toList rm.r.read z.lo z.b z.AE=(z.b,z.AE):=by
       obtain⟨nn,hnn⟩:∃nn,z.n=nn+1:=⟨z.n-1,Ca⟩
       rw [hnn,F9];simp only [h107,if_true,hgx]
      refine J8 ?_;refine F8 ?_
      have hfin:rm.r.filled r.f=(z.b,z.AE):=by rw [←z1,hstop]
      have ewr:rm.r.data r.f=(0,rm.r.Hu r.f):=by unfold Bf.data;rw [if_neg hbad,if_neg (by rw [h50];simp)]
      obtain⟨rm2,hrm2⟩:∃rm2:Df,rm2=⟨rm.r.Hu r.f,a1,rm.cq,z.ca⟩:=Bh
      have hdo:rm.r.Hu r.f={rm.r with high:=(max rm.r.high (r.f.offset+r.f.data.size)),ended:=(rm.r.ended||r.f.fin),end_:=(if r.f.fin then(r.f.offset+r.f.data.size)else rm.r.end_),b:=z.b,AE:=z.AE}:=by unfold Bf.Hu;rw [hfin]
      exact mR [4] (HP.AA b o (DY rm2)*(CE rm2*R)) (hE:=⟨fun ww hw=>Sat.right (A:=HP.AA b3 0 (AM r)) (M_ (by
       congr 1
       rw [hrm2,hdo]
       unfold CE AB
       refine Z1 ?_
       rw [z6]
       ac_rfl) hw)⟩) rfl rfl ⟨rm2,Ur,by rw [hrm2,ewr],Cq,rfl⟩
     have hglt:(AR z.lo (r.f.offset+r.f.data.size) z.AE.l).1<(AR z.lo (r.f.offset+r.f.data.size) z.AE.l).2:=by
      rcases Nat.lt_or_ge (AR z.lo (r.f.offset+r.f.data.size) z.AE.l).1 (AR z.lo (r.f.offset+r.f.data.size) z.AE.l).2 with h|h
      ·exact h
      ·exact absurd (ge h) hgx
     have hdl:((r.f.data.data.toList.drop ((AR z.lo (r.f.offset+r.f.data.size) z.AE.l).1-r.f.offset)).take ((AR z.lo (r.f.offset+r.f.data.size) z.AE.l).2-(AR z.lo (r.f.offset+r.f.data.size) z.AE.l).1)).length=(AR z.lo (r.f.offset+r.f.data.size) z.AE.l).2-(AR z.lo (r.f.offset+r.f.data.size) z.AE.l).1:=by
      rw [M!,S!,TH];omega
     have hzb:z.b.length=(max rm.r.high (r.f.offset+r.f.data.size))-rm.r.read:=z6.trans hb1l
     have hcap:(max rm.r.high (r.f.offset+r.f.data.size))-rm.r.read≤a1.c:=by have:=ha1.1.2;rw [hb1l]at this;exact this
     have hfl:(AD z.b++a1.s).length=a1.c:=by rw [N?,Bp,z6];have:=ha1.2;simp only [QW,Nat.mul_one]at this⊢;omega
     refine J3 ?_;refine Ai (H':=HP.AA a1.b a1.o (AD z.b++a1.s)*(AS rm.cq z.ca z.AE*(HP.AA b o [.slice a1.p (rm.r.b++J! ((max rm.r.high (r.f.offset+r.f.data.size))-(rm.r.read+rm.r.b.length)) 0).length a1.c,ptr rm.cq 0,uN (max rm.r.high (r.f.offset+r.f.data.size)),uN (if r.f.fin then(r.f.offset+r.f.data.size)else rm.r.end_),.bool (rm.r.ended||r.f.fin),.bool rm.r.given,uN rm.r.code,uN rm.r.read,iN rm.r.state]*(HP.AA b3 0 (AM r)*R)))) Cf ?_;refine mA 28 29 ?_;refine Lo ?_;refine Jm 5 ?_;refine LQ ?_;refine JT 9 rfl HJ ?_;refine Jm 10 ?_;refine QY ?_;refine JT 15 rfl HJ ?_;refine JT 16 rfl (NP rfl rfl rfl Ca) ?_;refine Jf 17 ?_;refine Jd 18 ?_;refine Jm 19 ?_;refine Jf 20 ?_;refine Jd 21 ?_;refine JT 22 rfl HJ ?_;refine Jm 23 ?_;refine Jf 24 ?_;refine Jd 25 ?_;refine JT 26 rfl HJ ?_;refine JT 27 rfl (ZW rfl rfl rfl Ca) ?_
     refine Am 28 Cb rfl rfl (pK (b:=a1.b) (o:=a1.o) (k:=(AR z.lo (r.f.offset+r.f.data.size) z.AE.l).1-rm.r.read) (ys:=(r.f.data.data.toList.drop ((AR z.lo (r.f.offset+r.f.data.size) z.AE.l).1-r.f.offset)).take ((AR z.lo (r.f.offset+r.f.data.size) z.AE.l).2-(AR z.lo (r.f.offset+r.f.data.size) z.AE.l).1)) rfl (Ei ha1.1 Ca Ca rfl) rfl (gD r.f.data _ _ _ _ Ca (by have:=TH r.f;omega) Ca Ca) (by rw [hfl];omega)) ?_;refine KO ?_
     have eput:(AD z.b++a1.s).take ((AR z.lo (r.f.offset+r.f.data.size) z.AE.l).1-rm.r.read)++AD ((r.f.data.data.toList.drop ((AR z.lo (r.f.offset+r.f.data.size) z.AE.l).1-r.f.offset)).take ((AR z.lo (r.f.offset+r.f.data.size) z.AE.l).2-(AR z.lo (r.f.offset+r.f.data.size) z.AE.l).1))++(AD z.b++a1.s).drop ((AR z.lo (r.f.offset+r.f.data.size) z.AE.l).1-rm.r.read+((r.f.data.data.toList.drop ((AR z.lo (r.f.offset+r.f.data.size) z.AE.l).1-r.f.offset)).take ((AR z.lo (r.f.offset+r.f.data.size) z.AE.l).2-(AR z.lo (r.f.offset+r.f.data.size) z.AE.l).1)).length)=AD (GU z.b ((AR z.lo (r.f.offset+r.f.data.size) z.AE.l).1-rm.r.read) ((r.f.data.data.toList.drop ((AR z.lo (r.f.offset+r.f.data.size) z.AE.l).1-r.f.offset)).take ((AR z.lo (r.f.offset+r.f.data.size) z.AE.l).2-(AR z.lo (r.f.offset+r.f.data.size) z.AE.l).1)))++a1.s:=by
      have h3:=NH z.b ((AR z.lo (r.f.offset+r.f.data.size) z.AE.l).1-rm.r.read) a1.s Ca;have h4:=RO z.b ((AR z.lo (r.f.offset+r.f.data.size) z.AE.l).1-rm.r.read+((r.f.data.data.toList.drop ((AR z.lo (r.f.offset+r.f.data.size) z.AE.l).1-r.f.offset)).take ((AR z.lo (r.f.offset+r.f.data.size) z.AE.l).2-(AR z.lo (r.f.offset+r.f.data.size) z.AE.l).1)).length) a1.s (by rw [hdl];omega);simp only [QW,Nat.mul_one]at h3 h4;rw [h3,h4];unfold GU;simp only [Er,O!]
     refine Ai (H':=AS rm.cq z.ca z.AE*(HP.AA a1.b a1.o (AD (GU z.b ((AR z.lo (r.f.offset+r.f.data.size) z.AE.l).1-rm.r.read) ((r.f.data.data.toList.drop ((AR z.lo (r.f.offset+r.f.data.size) z.AE.l).1-r.f.offset)).take ((AR z.lo (r.f.offset+r.f.data.size) z.AE.l).2-(AR z.lo (r.f.offset+r.f.data.size) z.AE.l).1)))++a1.s)*(HP.AA b o [.slice a1.p (rm.r.b++J! ((max rm.r.high (r.f.offset+r.f.data.size))-(rm.r.read+rm.r.b.length)) 0).length a1.c,ptr rm.cq 0,uN (max rm.r.high (r.f.offset+r.f.data.size)),uN (if r.f.fin then(r.f.offset+r.f.data.size)else rm.r.end_),.bool (rm.r.ended||r.f.fin),.bool rm.r.given,uN rm.r.code,uN rm.r.read,iN rm.r.state]*(HP.AA b3 0 (AM r)*R)))) (by rw [←eput];ac_rfl) ?_;refine J7 ?_;refine JL NI ?_;refine mE rfl (KF rm.cq _ _ (max rm.r.high (r.f.offset+r.f.data.size)) z.ca z.AE _ z9 z7.1 Ca Ca (by rw [z7.2.2];omega) (by rw [z7.2.2];omega)) ?_;rintro _ _ ⟨a157,hs157,rfl⟩;refine J7 ?_;obtain⟨f1,f2,f3,f4⟩:=Wb (lo:=(AR z.lo (r.f.offset+r.f.data.size) z.AE.l).1) (hi:=(AR z.lo (r.f.offset+r.f.data.size) z.AE.l).2-1) z7.1 z7.2.1 z7.2.2 Ca Ca Ca
     refine Dg (H':=AS rm.cq (⟨z.n-1,(AR z.lo (r.f.offset+r.f.data.size) z.AE.l).2,GU z.b ((AR z.lo (r.f.offset+r.f.data.size) z.AE.l).1-rm.r.read) ((r.f.data.data.toList.drop ((AR z.lo (r.f.offset+r.f.data.size) z.AE.l).1-r.f.offset)).take ((AR z.lo (r.f.offset+r.f.data.size) z.AE.l).2-(AR z.lo (r.f.offset+r.f.data.size) z.AE.l).1)),z.AE.add (AR z.lo (r.f.offset+r.f.data.size) z.AE.l).1 ((AR z.lo (r.f.offset+r.f.data.size) z.AE.l).2-1),a157⟩:N2).ca (⟨z.n-1,(AR z.lo (r.f.offset+r.f.data.size) z.AE.l).2,GU z.b ((AR z.lo (r.f.offset+r.f.data.size) z.AE.l).1-rm.r.read) ((r.f.data.data.toList.drop ((AR z.lo (r.f.offset+r.f.data.size) z.AE.l).1-r.f.offset)).take ((AR z.lo (r.f.offset+r.f.data.size) z.AE.l).2-(AR z.lo (r.f.offset+r.f.data.size) z.AE.l).1)),z.AE.add (AR z.lo (r.f.offset+r.f.data.size) z.AE.l).1 ((AR z.lo (r.f.offset+r.f.data.size) z.AE.l).2-1),a157⟩:N2).AE*(HP.AA a1.b a1.o (AD (⟨z.n-1,(AR z.lo (r.f.offset+r.f.data.size) z.AE.l).2,GU z.b ((AR z.lo (r.f.offset+r.f.data.size) z.AE.l).1-rm.r.read) ((r.f.data.data.toList.drop ((AR z.lo (r.f.offset+r.f.data.size) z.AE.l).1-r.f.offset)).take ((AR z.lo (r.f.offset+r.f.data.size) z.AE.l).2-(AR z.lo (r.f.offset+r.f.data.size) z.AE.l).1)),z.AE.add (AR z.lo (r.f.offset+r.f.data.size) z.AE.l).1 ((AR z.lo (r.f.offset+r.f.data.size) z.AE.l).2-1),a157⟩:N2).b++a1.s)*(HP.AA b o [.slice a1.p (rm.r.b++J! ((max rm.r.high (r.f.offset+r.f.data.size))-(rm.r.read+rm.r.b.length)) 0).length a1.c,ptr rm.cq 0,uN (max rm.r.high (r.f.offset+r.f.data.size)),uN (if r.f.fin then(r.f.offset+r.f.data.size)else rm.r.end_),.bool (rm.r.ended||r.f.fin),.bool rm.r.given,uN rm.r.code,uN rm.r.read,iN rm.r.state]*(HP.AA b3 0 (AM r)*R)))) rfl ?_
     refine Ba (⟨z.n-1,(AR z.lo (r.f.offset+r.f.data.size) z.AE.l).2,GU z.b ((AR z.lo (r.f.offset+r.f.data.size) z.AE.l).1-rm.r.read) ((r.f.data.data.toList.drop ((AR z.lo (r.f.offset+r.f.data.size) z.AE.l).1-r.f.offset)).take ((AR z.lo (r.f.offset+r.f.data.size) z.AE.l).2-(AR z.lo (r.f.offset+r.f.data.size) z.AE.l).1)),z.AE.add (AR z.lo (r.f.offset+r.f.data.size) z.AE.l).1 ((AR z.lo (r.f.offset+r.f.data.size) z.AE.l).2-1),a157⟩:N2) ⟨?_,?_,?_,?_,?_,?_,⟨f1,f2.trans rfl,f3⟩,fun n hn=>(f4 n).2 (.inr (z8 n hn)),hs157⟩ (by show z.n-1<z.n;omega) IK rfl
     ·obtain⟨nn,hnn⟩:∃nn,z.n=nn+1:=⟨z.n-1,Ca⟩
      rw [←z1,hnn,F9];simp only [h107,if_true,hgx,if_false,Nat.add_sub_cancel]
     ·show(r.f.offset+r.f.data.size)-(AR z.lo (r.f.offset+r.f.data.size) z.AE.l).2<z.n-1;omega
     ·show r.f.offset≤(AR z.lo (r.f.offset+r.f.data.size) z.AE.l).2;omega
     ·show rm.r.read≤(AR z.lo (r.f.offset+r.f.data.size) z.AE.l).2;omega
     ·show(AR z.lo (r.f.offset+r.f.data.size) z.AE.l).2<_;omega
     ·show(GU _ _ _).length=_;rw [ZM (by rw [hdl];omega)];exact z6
    have hstop:F9 z.n r.f.offset (r.f.offset+r.f.data.size) r.f.data.data.toList rm.r.read z.lo z.b z.AE=(z.b,z.AE):=by
     cases z.n with
     |zero=>rfl
     |succ nn=>rw [F9];simp only [h107,if_false]
    refine J7 ?_;refine F8 ?_
    have hfin:rm.r.filled r.f=(z.b,z.AE):=by rw [←z1,hstop]
    have ewr:rm.r.data r.f=(0,rm.r.Hu r.f):=by unfold Bf.data;rw [if_neg hbad,if_neg (by rw [h50];simp)]
    obtain⟨rm2,hrm2⟩:∃rm2:Df,rm2=⟨rm.r.Hu r.f,a1,rm.cq,z.ca⟩:=Bh
    have hdo:rm.r.Hu r.f={rm.r with high:=(max rm.r.high (r.f.offset+r.f.data.size)),ended:=(rm.r.ended||r.f.fin),end_:=(if r.f.fin then(r.f.offset+r.f.data.size)else rm.r.end_),b:=z.b,AE:=z.AE}:=by unfold Bf.Hu;rw [hfin]
    exact mR [4] (HP.AA b o (DY rm2)*(CE rm2*R)) (hE:=⟨fun ww hw=>Sat.right (A:=HP.AA b3 0 (AM r)) (M_ (by
     congr 1
     rw [hrm2,hdo]
     unfold CE AB
     refine Z1 ?_
     rw [z6]
     ac_rfl) hw)⟩) rfl rfl ⟨rm2,Ur,by rw [hrm2,ewr],Cq,rfl⟩
def Eb(m:Ab)(cb:Nat):HP:=AS m.x.gq m.ga m.AP*(A4 cb m.ws*DN m)
theorem Lc(cb:Nat)(m:Ab)(R:HP)(j:Nat)(hj:j<m.rs.length):AT cb m*R=AQ cb m.x*(HP.AA cb (0+83+j*9) (DY (m.rs.getD j AC.AH))*(CE (m.rs.getD j AC.AH)*(EP cb m.rs j*(Eb m cb*R)))):=by
 unfold AT Eb;rw [fU cb m.rs j hj];ac_rfl
theorem OU(cb:Nat)(m:Ab)(R:HP)(j:Nat)(hj:j<m.rs.length)(y:Df):AT cb (m.BS j y)*R=AQ cb m.x*(HP.AA cb (0+83+j*9) (DY y)*(CE y*(EP cb m.rs j*(Eb m cb*R)))):=by
 unfold AT;show AQ cb m.x*(AS m.x.gq m.ga m.AP*(A4 cb m.ws*(BU cb (m.rs.set j y)*DN m)))*R=_;rw [lM cb m.rs j y hj];unfold Eb;ac_rfl
set_option maxHeartbeats 4000000 in
theorem sD(cb t:Nat)(m:Ab)(r:RF)(R:HP)(hm:m.ok)(hi:AZ t m.s)(ht:t<1000000)(hf:JI r.f)(hb:¬m.s.busy r.f)(hro:r.ok)(hrr:Ad B R r.b r.o r.f.ranges)(hrl:r.f.ranges.length<100000000):
  Fn Tryz.prog B 146 [ptr cb 0,.agg (AM r).toArray] (AT cb m*R)
   (fun v H'=>∃m':Ab,m'.ok∧m'.s=(m.s.take r.f).2∧v=iN (m.s.take r.f).1∧H'=AT cb m'*R):=by
 refine mI Tryz.func146 ?_
 obtain⟨j,hst⟩:∃j:Nat,r.f.stream=(j:Int):=⟨_,(R! hf.1).symm⟩
 have hj:j<4:=by have:=hf.2.1;omega
 have hjl:j<m.rs.length:=by rw [Ab.OV hi];exact hj
 have hrok:=Ab.Rk hi hj;have hrm2:=hm.rs _ Ka
 have erj:m.s.r r.f.stream.toNat=(m.rs.getD j AC.AH).r:=by rw [hst,K_];exact m.PY j hjl
 have esj:r.f.stream.toNat=j:=by rw [hst,K_]
 refine K' ?_;rintro _ _ ⟨b3,rfl,rfl⟩;refine F8 ?_;generalize hrm:m.rs.getD j AC.AH=rm at*;refine Ai (H':=HP.AA b3 0 (AM r)*(HP.AA cb (0+83+j*9) (DY rm)*(CE rm*(AQ cb m.x*(EP cb m.rs j*(Eb m cb*R)))))) (by rw [Lc cb m R j hjl,hrm];show HP.AA b3 0 _*_=_;ac_rfl) ?_;refine mA 7 7 ?_;refine FX ?_;refine PG ?_;refine Ja 6 ?_;refine JD ?_;refine Bt ?_;refine JL (C4 (j:=3) rfl rfl) ?_;refine J3 ?_;refine mC (fun hk3=>?_) (fun hk3=>?_)
 ·have hok3:=hf.2.2.2.2.2 hk3
  have hne3:0<r.f.ranges.length:=by
   rcases Nat.eq_zero_or_pos r.f.ranges.length with h|h
   ·exact absurd (K?.1 h) hok3.1
   ·exact h
  have hhi3:=(hok3.2 0 hne3).2.1;refine J5 ?_;refine A9 (H':=AT cb m*(HP.AA b3 0 (AM r)*R)) (by rw [Lc cb m _ j hjl,hrm];ac_rfl) ?_;have hrr3:=hrr;refine mE rfl (yH cb t m r.f.ranges r.p r.b r.o r.c _ hm hi ht hro inferInstance hne3 hrl Ca) ?_;rintro _ _ ⟨m2,hm2,hs2,rfl,rfl⟩;refine J6 ?_
  have ewr:m.s.take r.f=m.s.B0 r.f.ranges:=by unfold AF.take;rw [if_pos hk3]
  exact mR [4] (AT cb m2*R) (hE:=⟨fun ww hw=>Sat.right (A:=HP.AA b3 0 (AM r)) (M_ Cm hw)⟩) rfl rfl ⟨m2,hm2,by rw [ewr,hs2],Cq,rfl⟩
 refine J2 ?_;refine JL (C4 (j:=4) rfl rfl) ?_;refine J3 ?_;refine mC (fun hk4=>?_) (fun hk4=>?_)
 ·refine J2 ?_;refine CO (α:=Unit) (fun _=>[(43,.bool (decide (rm.r.ended=true∧rm.r.end_≠r.f.offset∨r.f.offset<rm.r.high))),(5,ptr cb (0+83+j*9)),(3,ptr b3 0),(0,ptr cb 0)]) (fun _=>HP.AA b3 0 (AM r)*(HP.AA cb (0+83+j*9) (DY rm)*(CE rm*(AQ cb m.x*(EP cb m.rs j*(Eb m cb*R)))))) (fun _=>True) ?_ ?_
  ·refine mA 22 22 ?_;refine Lo ?_;refine Lu 26 rfl (fun hg1=>?_) (fun hg1=>?_)
   ·have he:rm.r.ended=true:=hg1;refine JY 5 rfl hg1 Be ?_;refine JY 6 rfl hg1 CT ?_;refine JY 7 rfl hg1 BO ?_;refine JY 8 rfl hg1 BX ?_;refine JY 9 rfl hg1 BO ?_;refine JY 10 rfl hg1 BX ?_;refine JY 11 rfl hg1 (FE rfl rfl) ?_;refine JT 12 rfl Jp ?_;refine Jm 13 ?_;refine Gb 35 rfl (fun hg2=>?_) (fun hg2=>?_)
    ·have hne:rm.r.end_≠r.f.offset:=hg2;refine JN 14 rfl T2 ?_;refine JN 15 rfl T2 ?_;refine JN 16 rfl T2 ?_;refine JN 17 rfl T2 ?_;refine JN 18 rfl T2 ?_;refine JN 19 rfl T2 ?_;refine JN 20 rfl T2 ?_;refine JT 21 rfl Hr ?_;refine JD ?_;refine A8 () trivial (.cons ?_ EG) rfl;refine Ew ?_;congr 2
     first
      |exact(decide_eq_true (.inl ⟨he,hne⟩)).symm
      |exact decide_eq_decide.2 ⟨.inr,fun h=>h.elim (fun h=>absurd h.2 hne) id⟩
      |exact decide_eq_decide.2 ⟨.inr,fun h=>h.elim (fun h=>absurd (he.symm.trans h.1) J?) id⟩
    have hne:¬rm.r.end_≠r.f.offset:=hg2;refine JY 14 rfl F2 BO ?_;refine JY 15 rfl F2 BX ?_;refine JY 16 rfl F2 Be ?_;refine JY 17 rfl F2 CT ?_;refine JY 18 rfl F2 BO ?_;refine JY 19 rfl F2 BX ?_;refine JY 20 rfl F2 Mq ?_;refine JT 21 rfl HZ ?_;refine JD ?_;refine A8 () trivial (.cons ?_ EG) rfl;refine Ew ?_;congr 2
    first
     |exact(decide_eq_true (.inl ⟨he,hne⟩)).symm
     |exact decide_eq_decide.2 ⟨.inr,fun h=>h.elim (fun h=>absurd h.2 hne) id⟩
     |exact decide_eq_decide.2 ⟨.inr,fun h=>h.elim (fun h=>absurd (he.symm.trans h.1) J?) id⟩
   have he:rm.r.ended=false:=hg1;refine JN 5 rfl hg1 ?_;refine Su ?_;refine JN 11 rfl hg1 ?_;refine JT 12 rfl Ia ?_;refine Jm 13 ?_;refine Ak 14 rfl Cb rfl rfl rfl rfl BO ?_;refine Ak 15 rfl Cb rfl rfl rfl rfl BX ?_;refine Ak 16 rfl Cb rfl rfl rfl rfl Be ?_;refine Ak 17 rfl Cb rfl rfl rfl rfl CT ?_;refine Ak 18 rfl Cb rfl rfl rfl rfl BO ?_;refine Ak 19 rfl Cb rfl rfl rfl rfl BX ?_;refine Ak 20 rfl Cb rfl rfl rfl rfl Mq ?_;refine JT 21 rfl Dh ?_;refine JD ?_;refine A8 () trivial (.cons ?_ EG) rfl;refine Ew ?_;congr 2
   first
    |exact(decide_eq_true (.inl ⟨he,hne⟩)).symm
    |exact decide_eq_decide.2 ⟨.inr,fun h=>h.elim (fun h=>absurd h.2 hne) id⟩
    |exact decide_eq_decide.2 ⟨.inr,fun h=>h.elim (fun h=>absurd (he.symm.trans h.1) J?) id⟩
  ·rintro _ _;refine J1 ?_;refine mC (fun h43=>?_) (fun h43=>?_)
   ·refine J2 ?_;refine JL XB ?_;refine J6 ?_
    have ewr:m.s.take r.f=(7,m.s):=by unfold AF.take;rw [if_neg hk3,if_pos hk4,erj,if_pos h43]
    exact TX
   refine J9 ?_;refine I1 ?_;refine CO (α:=Unit) (fun _=>[(5,ptr cb (0+83+j*9)),(3,ptr b3 0),(0,ptr cb 0)]) (fun _=>HP.AA cb (0+83+j*9) [.slice rm.a.p rm.r.b.length rm.a.c,ptr rm.cq 0,uN rm.r.high,uN rm.r.end_,.bool rm.r.ended,.bool rm.r.given,uN (if rm.r.given then rm.r.code else r.f.code),uN rm.r.read,iN rm.r.state]*(HP.AA b3 0 (AM r)*(CE rm*(AQ cb m.x*(EP cb m.rs j*(Eb m cb*R)))))) (fun _=>True) ?_ ?_
   ·refine mc (fun h48=>?_) (fun h48=>?_)
    ·refine J8 ?_;exact A8 () trivial EG (by have h9:rm.r.given=false:=(by simpa using h48);rw [h9];show _=HP.AA cb (0+83+j*9) [.slice rm.a.p rm.r.b.length rm.a.c,ptr rm.cq 0,uN rm.r.high,uN rm.r.end_,.bool rm.r.ended,.bool false,uN r.f.code,uN rm.r.read,iN rm.r.state]*_;rw [←h9];ac_rfl)
    refine J1 ?_;exact A8 () trivial EG (by have h9:rm.r.given=true:=(by simpa using h48);rw [if_pos h9];show HP.AA b3 0 _*(HP.AA cb (0+83+j*9) [.slice rm.a.p rm.r.b.length rm.a.c,ptr rm.cq 0,uN rm.r.high,uN rm.r.end_,.bool rm.r.ended,.bool rm.r.given,uN rm.r.code,uN rm.r.read,iN rm.r.state]*_)=_;ac_rfl)
   ·rintro _ _;refine J1 ?_;refine Dx (HP.AA b3 0 (AM r)*(CE rm*(AQ cb m.x*(EP cb m.rs j*(Eb m cb*R))))) 13 14 Dy rfl Cb ?_;refine EX ?_;refine Jm 2 ?_;refine My ?_;refine HM ?_;refine Jn 5 ?_;refine Jf 6 ?_;refine DV 7 Cb rfl Eu ?_;refine Ev ?_;refine Jn 8 ?_;refine PH ?_;refine Ev ?_;refine Jn 11 ?_;refine Jf 12 ?_;refine OE ?_;refine DB ?_;refine J4 ?_;refine F8 ?_
    have ewr:m.s.take r.f=(0,m.s.BS j {rm.r with code:=(if rm.r.given then rm.r.code else r.f.code),given:=true,ended:=true,end_:=r.f.offset}):=by unfold AF.take;rw [if_neg hk3,if_pos hk4,erj,if_neg h43,esj]
    obtain⟨rd2,hrd2⟩:∃rd2:Df,rd2={rm with r:={rm.r with code:=(if rm.r.given then rm.r.code else r.f.code),given:=true,ended:=true,end_:=r.f.offset}}:=Bh
    exact mR [4] (AT cb (m.BS j rd2)*R) (hE:=⟨fun ww hw=>Sat.right (A:=HP.AA b3 0 (AM r)) (M_ (by
     congr 1
     rw [OU cb m R j hjl,hrd2]
     show _=HP.AA b3 0 (AM r)*(AQ cb m.x*(HP.AA cb (0+83+j*9) [.slice rm.a.p rm.r.b.length rm.a.c,ptr rm.cq 0,uN rm.r.high,uN r.f.offset,.bool true,.bool true,uN (if rm.r.given then rm.r.code else r.f.code),uN rm.r.read,iN rm.r.state]*(CE rm*_)))
     ac_rfl) hw)⟩) rfl rfl ⟨m.BS j rd2,hm.BS (by rw [hrd2];exact hrm2),Sm,Cq,rfl⟩
 refine J2 ?_;refine JL ON ?_;refine J3 ?_;refine mC (fun hk5=>?_) (fun hk5=>?_)
 ·refine J3 ?_;refine JL SN ?_;refine A9 (H':=HP.AA cb (0+83+j*9) (DY rm)*(CE rm*(HP.AA b3 0 (AM r)*(AQ cb m.x*(EP cb m.rs j*(Eb m cb*R)))))) Cf ?_;refine mE rfl (mG cb (0+83+j*9) t m.x.AG rm r _ hrm2 hrok hi.w2 hf hk5 (fun hg=>by rcases Nat.lt_or_ge (rm.r.read+m.x.AG) (r.f.offset+r.f.data.size)with h|h;exact absurd ⟨hk5,by rw [erj];exact hg,by rw [erj];exact h⟩ hb;exact h) ht) ?_;rintro _ _ ⟨rd2,hrd2,hrd2e,rfl,rfl⟩;refine J6 ?_
  have ewr:m.s.take r.f=((rm.r.data r.f).1,m.s.BS j (rm.r.data r.f).2):=by unfold AF.take;rw [if_neg hk3,if_neg hk4,if_pos hk5,erj,esj]
  exact mR [4] (AT cb (m.BS j rd2)*R) (hE:=⟨fun ww hw=>Sat.right (A:=HP.AA b3 0 (AM r)) (M_ T9 hw)⟩) rfl rfl ⟨m.BS j rd2,hm.BS hrd2,by rw [Ab.Py,ewr,hrd2e],Cq,rfl⟩
 refine J2 ?_;refine JL (C4 (j:=6) rfl rfl) ?_;refine J3 ?_;refine mC (fun hk6=>?_) (fun hk6=>?_)
 ·refine J2 ?_;refine JL (Fe (v:=.int .i64 (10:Nat)) rfl) ?_;refine J5 ?_
  have ewr:m.s.take r.f=(10,m.s):=by unfold AF.take;rw [if_neg hk3,if_neg hk4,if_neg hk5,if_pos hk6]
  exact TX
 refine J5 ?_;refine F8 ?_
 have ewr:m.s.take r.f=(0,m.s):=by unfold AF.take;rw [if_neg hk3,if_neg hk4,if_neg hk5,if_neg hk6]
 exact TX
end
section
variable{B:World}
theorem B5.of{α:Type}[AC α]{R:HP}{xs:List α}{p:Option Addr}{b o c:Nat}{s:List Value}(h:Sl p b o xs.length c)(h2:xs.length*AC.sz α+s.length=c*AC.sz α):B5 R xs (.slice p xs.length c) (AB b o xs s*R):=⟨p,b,o,c,s,rfl,h,h2,rfl⟩
theorem B5.nil(R:HP):B5 R ([]:List UInt8) (.slice none 0 0) R:=⟨none,0,0,0,[],rfl,Fx,rfl,MA⟩
theorem uD(xs:List UInt8)(b o c:Nat)(H:HP)(hs:Sl none b o xs.length c)(hr:Ad B H b o xs)(hx:xs.length<100000000000):
  Fn Tryz.prog B 148 [.slice none xs.length c] H (fun v H'=>B5 H xs v H'):=by
 refine mI Tryz.func148 ?_;refine J9 ?_;refine JL M9 ?_;refine J2 ?_;refine mc (fun hc=>?_) (fun hc=>?_);rotate_left
 ·cases hc
 refine J7 ?_;have hx:xs=[]:=K?.1 (by have h1:=hs.1;have h2:=hs.2;rcases h1 with h1|h1;omega;cases h1);exact mr [2] rfl rfl (by rw [hx];exact B5.nil H)
theorem oZ(a:Addr)(xs:List UInt8)(b o c:Nat)(H:HP)(hs:Sl (some a) b o xs.length c)(hr:Ad B H b o xs)(hx:xs.length<100000000000):
  Fn Tryz.prog B 148 [.slice (some a) xs.length c] H (fun v H'=>B5 H xs v H'):=by
 refine mI Tryz.func148 ?_;refine J9 ?_;refine KK ?_;refine mc (fun hc=>?_) (fun hc=>?_)
 ·cases hc
 refine J4 ?_;refine Ag (jM) rfl ?_;rintro _ _ ⟨b5,rfl,rfl⟩;refine J1 ?_;refine Ag (CX (α:=UInt8) (xs:=[]) (ys:=xs) (b:=b5) (o:=0) (c:=0) (s:=[]) (bb:=b) (oo:=o) rfl CG rfl rfl hs inferInstance rfl (by simp only [List.length_nil];omega) Ca) rfl ?_;rintro _ _ ⟨p7,b7,o7,c7,s7,rfl,hs7,hc7,rfl⟩;refine J4 ?_;exact mr [2] rfl rfl ⟨p7,b7,o7,c7,s7,rfl,hs7,hc7,rfl⟩
theorem qN(xs:List UInt8)(p:Option Addr)(b o c:Nat)(H:HP)(hs:Sl p b o xs.length c)(hr:Ad B H b o xs)(hx:xs.length<100000000000):
  Fn Tryz.prog B 148 [.slice p xs.length c] H (fun v H'=>B5 H xs v H'):=by
 cases p with
 |none=>exact uD xs b o c H hs hr hx
 |some a=>exact oZ a xs b o c H hs hr hx
set_option maxHeartbeats 4000000 in
theorem qM(cb t:Nat)(m:Ab)(k AL:Int)(R:HP)(hm:m.ok)(hi:AZ t m.s)(ht:t<1000000)(hmo:AL<9223372036854775808):
  Fn Tryz.prog B 95 [ptr cb 0,.int .i64 k,.int .i64 AL] (AT cb m*R)
   (fun v H'=>∃m':Ab,m'.ok∧∃sv,m'.s=(m.s.read k AL).2∧v=.tuple #[sv,iN (m.s.read k AL).1.2.1,uN (m.s.read k AL).1.2.2.1,DZ (m.s.read k AL).1.2.2.2]∧
    (((m.s.read k AL).1.1=[]∧sv=.slice none 0 0∧H'=AT cb m'*R)∨((m.s.read k AL).1.1≠ []∧B5 (AT cb m'*R) (m.s.read k AL).1.1 sv H'))):=by
 refine mI Tryz.func95 ?_;have hw2:m.x.AG≤1024:=hi.w2;refine Ai N0 ?_;refine J3 ?_;refine Fd ?_;refine Gu ?_;refine J8 ?_;refine Oz ?_;refine mC (fun h20=>?_) (fun h20=>?_)
 ·refine J4 ?_;refine Fd ?_;refine Gu ?_;refine J5 ?_;refine mR [6,7,8,9] (AT cb m*R) (hE:=by rw [HT];infer_instance) rfl rfl ⟨m,hm,.slice none 0 0,?_,?_,.inl ⟨?_,rfl,rfl⟩⟩
  ·unfold AF.read;rw [if_pos RV]
  ·unfold AF.read;rw [if_pos RV];rfl
  ·unfold AF.read;rw [if_pos RV]
 have h20:FI m.x.closed k=0:=by simpa using h20
 obtain⟨hcl,j,rfl,hj⟩:=MD h20
 have hjl:j<m.rs.length:=by rw [Ab.OV hi];exact hj
 have hrok:=Ab.Rk hi hj;have hrm2:=hm.rs _ Ka;have erj:=m.PY j hjl;refine Ai (H':=HP.AA cb (0+83+j*9) (DY (m.rs.getD j AC.AH))*(CE (m.rs.getD j AC.AH)*(AQ cb m.x*(EP cb m.rs j*(Eb m cb*R))))) (by rw [←HT,Lc cb m R j hjl];ac_rfl) ?_;generalize hrm:m.rs.getD j AC.AH=rm at*;refine J8 ?_;refine JL NK ?_;refine J5 ?_;refine CO (α:=Unit) (fun _=>[(37,.bool (decide (rm.r.given=true∧rm.r.state=0))),(11,ptr cb (0+83+j*9)),(2,.int .i64 AL)]) (fun _=>HP.AA cb (0+83+j*9) (DY rm)*(CE rm*(AQ cb m.x*(EP cb m.rs j*(Eb m cb*R))))) (fun _=>True) ?_ ?_
 ·refine J6 ?_;refine DO 31 rfl (fun hg1=>?_) (fun hg1=>?_)
  ·have hgv:rm.r.given=true:=hg1;refine Hx ?_;refine J1 ?_;refine LO ?_;refine JL X7 ?_;refine JL Jp ?_;refine J1 ?_;refine A8 () trivial (.cons ?_ Hd) rfl;refine Ew ?_;congr 2
   first
    |exact decide_eq_decide.2 ⟨fun h=>⟨hgv,h⟩,fun h=>h.2⟩
    |exact(decide_eq_false (fun h=>J? (hgv.symm.trans h.1))).symm
  have hgv:rm.r.given=false:=hg1;refine H3 ?_;refine Hw ?_;refine Hw ?_;refine JL Ia ?_;refine J1 ?_;refine A8 () trivial (.cons ?_ Hd) rfl;refine Ew ?_;congr 2
  first
   |exact decide_eq_decide.2 ⟨fun h=>⟨hgv,h⟩,fun h=>h.2⟩
   |exact(decide_eq_false (fun h=>J? (hgv.symm.trans h.1))).symm
 ·rintro _ _;refine J1 ?_;refine CO (α:=Df) (fun _=>[(11,ptr cb (0+83+j*9)),(2,.int .i64 AL)]) (fun z=>HP.AA cb (0+83+j*9) (DY z)*(CE z*(AQ cb m.x*(EP cb m.rs j*(Eb m cb*R))))) (fun z=>z.ok∧z.r=m.s.Eg j) ?_ ?_
  ·refine mC (fun h37=>?_) (fun h37=>?_)
   ·refine J5 ?_;refine Bi (Eh (v:=.int .i64 (2:Nat)) rfl rfl rfl Cd) ?_;refine FB ?_
    refine Bd (HP.AA cb (0+83+j*9) (DY ⟨{rm.r with state:=2,b:=[]},⟨none,0,0,0,[]⟩,rm.cq,rm.ca⟩)*(CE ⟨{rm.r with state:=2,b:=[]},⟨none,0,0,0,[]⟩,rm.cq,rm.ca⟩*(AQ cb m.x*(EP cb m.rs j*(Eb m cb*R))))) (hE:=⟨fun ww hw=>Sat.right (A:=AB rm.a.b rm.a.o rm.r.b rm.a.s) (M_ (by
     congr 1
     unfold CE
     show _=AB rm.a.b rm.a.o rm.r.b rm.a.s*(HP.AA cb (0+83+j*9) [.slice none 0 0,ptr rm.cq 0,uN rm.r.high,uN rm.r.end_,.bool rm.r.ended,.bool rm.r.given,uN rm.r.code,uN rm.r.read,iN 2]*(AB 0 0 ([]:List UInt8) []*AS rm.cq rm.ca rm.r.AE*(AQ cb m.x*(EP cb m.rs j*(Eb m cb*R)))))
     rw [Gk,HP.BI]
     ac_rfl) hw)⟩) ?_
    exact A8 (⟨{rm.r with state:=2,b:=[]},⟨none,0,0,0,[]⟩,rm.cq,rm.ca⟩:Df) ⟨⟨⟨Fx,rfl⟩,hrm2.2⟩,by unfold AF.Eg;rw [erj,if_pos h37]⟩ Hd rfl
   refine J1 ?_;exact A8 rm ⟨hrm2,by unfold AF.Eg;rw [erj,if_neg h37]⟩ Hd rfl
  ·rintro rm1 ⟨hok1,hrm1⟩;refine J2 ?_
   have hrok1:FY m.x.AG t rm1.r:=by
    rw [hrm1];unfold AF.Eg;rw [erj];split
    ·rename_i hc;exact⟨hrok.co,hrok.cf,hrok.cm,hrok.rh,hrok.hw,hrok.pre,(fun h=>by rw [hc.1]at h;cases h),hrok.rt,hrok.en,hrok.code,Nat.le_refl _,fun _=>hc.1⟩
    ·exact hrok
   have hgv0:rm1.r.state=0→rm1.r.given=false:=by
    intro h0;rw [hrm1]at h0⊢;unfold AF.Eg at h0⊢;rw [erj]at h0⊢;split at h0
    ·cases h0
    ·rename_i hc;rw [if_neg hc];cases hg:rm.r.given
     ·rfl
     ·exact absurd ⟨hg,h0⟩ hc
   refine Bt ?_;refine Iu ?_;refine mC (fun h48=>?_) (fun h48=>?_)
   ·have hlen1:=hrok1.len (hgv0 h48);have hrh1:=hrok1.rh;have hhw1:=hrok1.hw;have hrt1:=hrok1.rt;have hgf:=NR hrok1.co.inc hrok1.rh hrok1.co.hi;have hgs:=(IW rm1.r.AE.l rm1.r.read rm1.r.high hrok1.co.inc hrok1.rh).1;have hcl:=RY hrok1.co.inc hrok1.pre hrok1.co.hi (by omega:rm1.r.high≤rm1.r.read+1024)
    have hNle:(min ((AR rm1.r.read rm1.r.high rm1.r.AE.l).1-rm1.r.read) AL.toNat)≤rm1.r.b.length:=by omega
    refine Ai (H':=HP.AA cb (0+83+j*9) (DY rm1)*(AB rm1.a.b rm1.a.o rm1.r.b rm1.a.s*(AS rm1.cq rm1.ca rm1.r.AE*(AQ cb m.x*(EP cb m.rs j*(Eb m cb*R)))))) (by unfold CE;ac_rfl) ?_;refine J1 ?_;refine mA 18 18 ?_;refine IN ?_;refine LA ?_;refine Jm 8 ?_;refine Jn 9 ?_;refine Jf 10 ?_;refine Jd 11 ?_;refine Am 12 Cb rfl rfl (BJ rfl (Ot rm1.cq rm1.r.read rm1.r.high rm1.r.high rm1.ca rm1.r.AE _ hok1.2 hrok1.co Ca Ca)) ?_;refine Ev ?_;refine Jm 13 ?_;refine JT 14 rfl MW ?_;refine JT 15 rfl MW ?_;refine Ja 16 ?_;refine Ja 17 ?_;refine JD ?_;refine J8 ?_;refine JL HJ ?_;refine J1 ?_;refine JL (Ay (v':=iN AL.toNat) (bL (i:=AL) (j:=0) rfl rfl) (by congr 1;split<;>omega)) ?_;refine JL FD ?_;refine JL No ?_;refine CB ?_;refine JL (OB (k':=(rm1.r.b.take (min ((AR rm1.r.read rm1.r.high rm1.r.AE.l).1-rm1.r.read) AL.toNat)).length) rfl rfl (by have h7:rm1.r.b.length≤rm1.a.c:=hok1.1.1.2;omega) NQ) ?_
    refine mE rfl (qN (rm1.r.b.take (min ((AR rm1.r.read rm1.r.high rm1.r.AE.l).1-rm1.r.read) AL.toNat)) rm1.a.p rm1.a.b rm1.a.o rm1.a.c _ ⟨hok1.1.1.1,by have h7:rm1.r.b.length≤rm1.a.c:=hok1.1.1.2;rw [M!];omega⟩ inferInstance NQ) ?_;rintro _ _ ⟨p81,b81,o81,c81,s81,rfl,hs81,hc81,rfl⟩;refine Bt ?_;refine JL Ma ?_;refine A9 (H':=AB rm1.a.b rm1.a.o rm1.r.b rm1.a.s*(AB b81 o81 (rm1.r.b.take (min ((AR rm1.r.read rm1.r.high rm1.r.AE.l).1-rm1.r.read) AL.toNat)) s81*(HP.AA cb (0+83+j*9) (DY rm1)*(AS rm1.cq rm1.ca rm1.r.AE*(AQ cb m.x*(EP cb m.rs j*(Eb m cb*R))))))) Cf ?_;refine mE rfl (rP rm1.r.b 0 (min ((AR rm1.r.read rm1.r.high rm1.r.AE.l).1-rm1.r.read) AL.toNat) rm1.a.p rm1.a.b rm1.a.o rm1.a.c rm1.a.s _ hok1.1.1 hok1.1.2 Ff hNle Ca) ?_;rintro _ _ ⟨p89,b89,o89,c89,s89,rfl,hs89,hc89,rfl⟩;rw [List.take_zero,List.nil_append]at hs89 hc89⊢;refine DP ?_;refine JL Jr ?_;refine J6 ?_
    refine CO (α:=Unit) (fun _=>[(114,.bool (decide (rm1.r.ended=true∧rm1.r.read+(min ((AR rm1.r.read rm1.r.high rm1.r.AE.l).1-rm1.r.read) AL.toNat)=rm1.r.end_))),(11,ptr cb (0+83+j*9)),(12,.slice p81 (rm1.r.b.take (min ((AR rm1.r.read rm1.r.high rm1.r.AE.l).1-rm1.r.read) AL.toNat)).length c81)]) (fun _=>HP.AA cb (0+83+j*9) [.slice p89 (rm1.r.b.drop (min ((AR rm1.r.read rm1.r.high rm1.r.AE.l).1-rm1.r.read) AL.toNat)).length c89,ptr rm1.cq 0,uN rm1.r.high,uN rm1.r.end_,.bool rm1.r.ended,.bool rm1.r.given,uN rm1.r.code,uN (rm1.r.read+(min ((AR rm1.r.read rm1.r.high rm1.r.AE.l).1-rm1.r.read) AL.toNat)),iN rm1.r.state]*(AB b81 o81 (rm1.r.b.take (min ((AR rm1.r.read rm1.r.high rm1.r.AE.l).1-rm1.r.read) AL.toNat)) s81*(AB b89 o89 (rm1.r.b.drop (min ((AR rm1.r.read rm1.r.high rm1.r.AE.l).1-rm1.r.read) AL.toNat)) s89*(AS rm1.cq rm1.ca rm1.r.AE*(AQ cb m.x*(EP cb m.rs j*(Eb m cb*R))))))) (fun _=>True) ?_ ?_
    ·refine mA 15 15 ?_;refine Lo ?_;refine Lu 104 rfl (fun hg2=>?_) (fun hg2=>?_)
     ·have hed:rm1.r.ended=true:=hg2;refine JY 5 rfl hg2 Be ?_;refine JY 6 rfl hg2 CT ?_;refine JY 7 rfl hg2 BO ?_;refine JY 8 rfl hg2 BX ?_;refine JY 9 rfl hg2 Be ?_;refine JY 10 rfl hg2 CT ?_;refine JY 11 rfl hg2 BO ?_;refine JY 12 rfl hg2 BX ?_;refine JY 13 rfl hg2 N4 ?_;refine JT 14 rfl Mo ?_;refine JD ?_;refine A8 () trivial (.cons ?_ Hd) Cf;refine Ew ?_;congr 2
      first
       |exact decide_eq_decide.2 ⟨fun h=>⟨hed,h⟩,fun h=>h.2⟩
       |exact(decide_eq_false (fun h=>J? (hed.symm.trans h.1))).symm
     have hed:rm1.r.ended=false:=hg2;refine JN 5 rfl hg2 ?_;refine JN 6 rfl hg2 ?_;refine JN 7 rfl hg2 ?_;refine JN 8 rfl hg2 ?_;refine JN 9 rfl hg2 ?_;refine JN 10 rfl hg2 ?_;refine JN 11 rfl hg2 ?_;refine JN 12 rfl hg2 ?_;refine JN 13 rfl hg2 ?_;refine JT 14 rfl NA ?_;refine JD ?_;refine A8 () trivial (.cons ?_ Hd) Cf;refine Ew ?_;congr 2
     first
      |exact decide_eq_decide.2 ⟨fun h=>⟨hed,h⟩,fun h=>h.2⟩
      |exact(decide_eq_false (fun h=>J? (hed.symm.trans h.1))).symm
    ·rintro _ _;refine J1 ?_;refine CO (α:=Unit) (fun _=>[(11,ptr cb (0+83+j*9)),(12,.slice p81 (rm1.r.b.take (min ((AR rm1.r.read rm1.r.high rm1.r.AE.l).1-rm1.r.read) AL.toNat)).length c81)]) (fun _=>AB b81 o81 (rm1.r.b.take (min ((AR rm1.r.read rm1.r.high rm1.r.AE.l).1-rm1.r.read) AL.toNat)) s81*(HP.AA cb (0+83+j*9) [.slice p89 (rm1.r.b.drop (min ((AR rm1.r.read rm1.r.high rm1.r.AE.l).1-rm1.r.read) AL.toNat)).length c89,ptr rm1.cq 0,uN rm1.r.high,uN rm1.r.end_,.bool rm1.r.ended,.bool rm1.r.given,uN rm1.r.code,uN (rm1.r.read+(min ((AR rm1.r.read rm1.r.high rm1.r.AE.l).1-rm1.r.read) AL.toNat)),iN (if rm1.r.ended=true∧rm1.r.read+(min ((AR rm1.r.read rm1.r.high rm1.r.AE.l).1-rm1.r.read) AL.toNat)=rm1.r.end_ then 1 else rm1.r.state)]*(AB b89 o89 (rm1.r.b.drop (min ((AR rm1.r.read rm1.r.high rm1.r.AE.l).1-rm1.r.read) AL.toNat)) s89*(AS rm1.cq rm1.ca rm1.r.AE*(AQ cb m.x*(EP cb m.rs j*(Eb m cb*R))))))) (fun _=>True) ?_ ?_
     ·refine mC (fun h114=>?_) (fun h114=>?_)
      ·refine J4 ?_;refine Bi (Eh (v:=.int .i64 (1:Nat)) rfl rfl rfl Cd) ?_;refine H5 ?_;exact A8 () trivial Hd (by rw [if_pos h114];ac_rfl)
      refine J1 ?_;exact A8 () trivial Hd (by rw [if_neg h114];ac_rfl)
     ·rintro _ _;refine J6 ?_;refine Iu ?_;refine mC (fun h120=>?_) (fun h120=>?_)
      ·refine Bt ?_;refine JL UW ?_;refine J2 ?_;refine mC (fun h125=>?_) (fun h125=>?_)
       ·exfalso;split at h125<;>omega
       refine Ua ?_
       have ewr:m.s.read (j:Int) AL=((rm1.r.b.take (min ((AR rm1.r.read rm1.r.high rm1.r.AE.l).1-rm1.r.read) AL.toNat),(if rm1.r.ended=true∧rm1.r.read+(min ((AR rm1.r.read rm1.r.high rm1.r.AE.l).1-rm1.r.read) AL.toNat)=rm1.r.end_ then 1 else rm1.r.state),0,0),m.s.BS j {rm1.r with b:=rm1.r.b.drop (min ((AR rm1.r.read rm1.r.high rm1.r.AE.l).1-rm1.r.read) AL.toNat),read:=rm1.r.read+(min ((AR rm1.r.read rm1.r.high rm1.r.AE.l).1-rm1.r.read) AL.toNat),state:=(if rm1.r.ended=true∧rm1.r.read+(min ((AR rm1.r.read rm1.r.high rm1.r.AE.l).1-rm1.r.read) AL.toNat)=rm1.r.end_ then 1 else rm1.r.state)}):=by
        unfold AF.read;rw [if_neg Qu,K_,←hrm1];dsimp only;rw [if_pos h48];unfold AF.HO;by_cases hc:rm1.r.ended=true∧rm1.r.read+(min ((AR rm1.r.read rm1.r.high rm1.r.AE.l).1-rm1.r.read) AL.toNat)=rm1.r.end_
        ·rw [if_pos hc,if_pos hc]
        ·rw [if_neg hc,if_neg hc]
       obtain⟨rd2,hrd2⟩:∃rd2:Df,rd2=⟨{rm1.r with b:=rm1.r.b.drop (min ((AR rm1.r.read rm1.r.high rm1.r.AE.l).1-rm1.r.read) AL.toNat),read:=rm1.r.read+(min ((AR rm1.r.read rm1.r.high rm1.r.AE.l).1-rm1.r.read) AL.toNat),state:=(if rm1.r.ended=true∧rm1.r.read+(min ((AR rm1.r.read rm1.r.high rm1.r.AE.l).1-rm1.r.read) AL.toNat)=rm1.r.end_ then 1 else rm1.r.state)},⟨p89,b89,o89,c89,s89⟩,rm1.cq,rm1.ca⟩:=Bh
       have hrk2:rd2.ok:=by rw [hrd2];exact⟨⟨hs89,hc89⟩,hok1.2⟩
       have hnil:rm1.r.b.take (min ((AR rm1.r.read rm1.r.high rm1.r.AE.l).1-rm1.r.read) AL.toNat)=[]:=K?.1 h120
       exact mR [6,7,8,9] (AT cb (m.BS j rd2)*R) (hE:=⟨fun ww hw=>Sat.right (A:=AB b81 o81 (rm1.r.b.take (min ((AR rm1.r.read rm1.r.high rm1.r.AE.l).1-rm1.r.read) AL.toNat)) s81) (M_ (by
        congr 1
        rw [OU cb m R j hjl,hrd2]
        unfold CE
        refine cN ?_
        ac_rfl) hw)⟩) rfl rfl ⟨m.BS j rd2,hm.BS hrk2,.slice none 0 0,Sm,Cq,.inl ⟨by rw [ewr];exact hnil,rfl,rfl⟩⟩
      refine J9 ?_;refine JL UW ?_;refine J2 ?_;refine mC (fun h125=>?_) (fun h125=>?_)
      ·exfalso;split at h125<;>omega
      refine Ua ?_
      have ewr:m.s.read (j:Int) AL=((rm1.r.b.take (min ((AR rm1.r.read rm1.r.high rm1.r.AE.l).1-rm1.r.read) AL.toNat),(if rm1.r.ended=true∧rm1.r.read+(min ((AR rm1.r.read rm1.r.high rm1.r.AE.l).1-rm1.r.read) AL.toNat)=rm1.r.end_ then 1 else rm1.r.state),0,0),m.s.BS j {rm1.r with b:=rm1.r.b.drop (min ((AR rm1.r.read rm1.r.high rm1.r.AE.l).1-rm1.r.read) AL.toNat),read:=rm1.r.read+(min ((AR rm1.r.read rm1.r.high rm1.r.AE.l).1-rm1.r.read) AL.toNat),state:=(if rm1.r.ended=true∧rm1.r.read+(min ((AR rm1.r.read rm1.r.high rm1.r.AE.l).1-rm1.r.read) AL.toNat)=rm1.r.end_ then 1 else rm1.r.state)}):=by
       unfold AF.read;rw [if_neg Qu,K_,←hrm1];dsimp only;rw [if_pos h48];unfold AF.HO;by_cases hc:rm1.r.ended=true∧rm1.r.read+(min ((AR rm1.r.read rm1.r.high rm1.r.AE.l).1-rm1.r.read) AL.toNat)=rm1.r.end_
       ·rw [if_pos hc,if_pos hc]
       ·rw [if_neg hc,if_neg hc]
      obtain⟨rd2,hrd2⟩:∃rd2:Df,rd2=⟨{rm1.r with b:=rm1.r.b.drop (min ((AR rm1.r.read rm1.r.high rm1.r.AE.l).1-rm1.r.read) AL.toNat),read:=rm1.r.read+(min ((AR rm1.r.read rm1.r.high rm1.r.AE.l).1-rm1.r.read) AL.toNat),state:=(if rm1.r.ended=true∧rm1.r.read+(min ((AR rm1.r.read rm1.r.high rm1.r.AE.l).1-rm1.r.read) AL.toNat)=rm1.r.end_ then 1 else rm1.r.state)},⟨p89,b89,o89,c89,s89⟩,rm1.cq,rm1.ca⟩:=Bh
      have hrk2:rd2.ok:=by rw [hrd2];exact⟨⟨hs89,hc89⟩,hok1.2⟩
      exact mR [6,7,8,9] (AB b81 o81 (rm1.r.b.take (min ((AR rm1.r.read rm1.r.high rm1.r.AE.l).1-rm1.r.read) AL.toNat)) s81*(AT cb (m.BS j rd2)*R)) (hE:=⟨fun ww hw=>(M_ (by
       congr 1
       rw [OU cb m R j hjl,hrd2]
       unfold CE
       refine cN ?_
       ac_rfl) hw)⟩) rfl rfl ⟨m.BS j rd2,hm.BS hrk2,.slice p81 (rm1.r.b.take (min ((AR rm1.r.read rm1.r.high rm1.r.AE.l).1-rm1.r.read) AL.toNat)).length c81,Sm,Cq,.inr ⟨by rw [ewr];exact fun h=>h120 (congrArg List.length h),by rw [ewr];exact⟨p81,b81,o81,c81,s81,rfl,hs81,hc81,rfl⟩⟩⟩
   refine J7 ?_;refine Iu ?_;refine mC (fun h120=>?_) (fun h120=>?_);rotate_left
   ·exact absurd rfl h120
   refine Bt ?_;refine JL UW ?_;refine J2 ?_;refine mC (fun h125=>?_) (fun h125=>?_)
   ·refine J1 ?_;refine mA 13 13 ?_;refine LT ?_;refine Jm 5 ?_;refine LQ ?_;refine Ja 9 ?_;refine Ja 10 ?_;refine Ja 11 ?_;refine Ja 12 ?_;refine JQ ?_
    have ewr:m.s.read (j:Int) AL=(([],rm1.r.state,(if rm1.r.state=2 then rm1.r.code else 0),0),m.s.BS j rm1.r):=by
     unfold AF.read;rw [if_neg Qu,K_,←hrm1];dsimp only;rw [if_neg h48]
    exact mR [6,7,8,9] (AT cb (m.BS j rm1)*R) (hE:=⟨fun ww hw=>M_ T9 hw⟩) rfl rfl ⟨m.BS j rm1,hm.BS hok1,.slice none 0 0,by rw [Ab.Py,ewr],by rw [ewr,if_pos h125];rfl,.inl ⟨Ct,rfl,rfl⟩⟩
   refine Ua ?_
   have ewr:m.s.read (j:Int) AL=(([],rm1.r.state,(if rm1.r.state=2 then rm1.r.code else 0),0),m.s.BS j rm1.r):=by
    unfold AF.read;rw [if_neg Qu,K_,←hrm1];dsimp only;rw [if_neg h48]
   exact mR [6,7,8,9] (AT cb (m.BS j rm1)*R) (hE:=⟨fun ww hw=>M_ T9 hw⟩) rfl rfl ⟨m.BS j rm1,hm.BS hok1,.slice none 0 0,by rw [Ab.Py,ewr],by rw [ewr,if_neg h125];rfl,.inl ⟨Ct,rfl,rfl⟩⟩
end
end Go.Proofs.YtgfdlpcdjklcoaaGreatDoor
