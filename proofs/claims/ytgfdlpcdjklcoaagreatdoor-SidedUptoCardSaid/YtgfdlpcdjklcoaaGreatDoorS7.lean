/- A part of this proof: steps of the program, plain facts; no condition. -/
import Derived.Test.YtgfdlpcdjklcoaaGreatDoorS6
namespace Go.Proofs.YtgfdlpcdjklcoaaGreatDoor
open Go Go.RowKit
open _root_.List renaming getD_eq_getElem?_getD→a_,getElem?_eq_getElem→b_,length_take→c_,filter_cons_of_neg→d_,mem_map→e_,foldl_append→f_,take_succ_eq_append_getElem→g',filter_cons_of_pos→h_,take_length→i_,filter_append→j_,length_map→j',append_assoc→k_,mem_of_mem_take→l_,filter_nil→o_,mem_filter→p_,map_append→q_,length_append→q',set_eq_take_append_cons_drop→s_,drop_drop→u_,append_nil→xr,getElem_of_mem→xt,extract_eq_take_drop→xx,length_drop→x_,getElem?_drop→ye,getElem?_map→yg,any_eq_true→yh,foldl_cons→yj,foldl_nil→ym,take_zero→yn,map_set→yq,drop→yu
open _root_.Go.Result renaming andThen_ok→g_
open _root_.Go.Sem renaming run_pure→m_,run_bind→t_
open _root_.Nat renaming min_eq_left→n_,zero_le→yc,mod_eq_of_lt→yi,add_zero→yo,lt_or_ge→yp,mul_one→yt
open _root_.Bool renaming false_eq_true→r_,not_false→xu,and_false→xw,not_true→xy,and_true→xz,eq_iff_iff→yb,true_eq→yr
open _root_.Int renaming toNat_natCast→v_,toNat_of_nonneg→yd
open _root_.Option renaming getD_some→w_,isSome_none→yf,map_some→yk,map_none→yl
open _root_.Eq renaming mp→ya
set_option linter.unusedVariables false
set_option linter.unusedSimpArgs false
set_option maxRecDepth 20000
section
variable{B:World}
theorem Gh{α:Type}{p:α→Prop}{A:α→HP}{R H G:HP}(z:α)(hp:p z)(e:H=G*(A z*R))(w:World)(hw:Sat B H w):Sat B ((HP.ex fun z=>HP.pr (p z)*A z)*R) w:=
 I4 z hp rfl w (Sat.right (e▸hw))
theorem kN(lo hi:Nat)(s:BH)(r:AP):ED lo hi s r=if hi≤r.hi then(if r.lo<lo then s.add r.lo (min r.hi (lo-1))else s).add (max r.lo hi) r.hi else if r.lo<lo then s.add r.lo (min r.hi (lo-1))else s:=rfl
theorem lU{l:List AP}{m:Nat}(hm:m≤l.length):∀r∈Gx l m,r∈l:=by
 intro r hr;obtain⟨j,hj,rfl⟩:=e_.1 hr;have hj':j<m:=List.mem_range.1 hj;exact IQ (P:=fun r=>r∈l) (fun r h=>h) _ Cg
set_option maxHeartbeats 1000000 in
theorem qh(cb j AG:Nat)(wm:Bo)(r:RF)(R:HP)(hst:r.f.stream=(j:Int))(hj:j<4)(hok:wm.ok)(hw:EY AG wm.w)(hf:r.f.kind=5→r.f.offset+r.f.data.size≤wm.w.b.length):
  Fn Tryz.prog B 163 [ptr cb 0,.agg (AI r).toArray] (HP.AA cb (0+43+j*10) (Bz wm)*(B6 wm*R))
   (fun _ H'=>∃w2:Bo,w2.ok∧w2.w=wm.w.again r.f∧H'=HP.AA cb (0+43+j*10) (Bz w2)*(B6 w2*R)):=by
 refine TA Tryz.func163 rfl rfl rfl ?_;refine Aq (H':=HP.AA cb (0+43+j*10) (Bz wm)*(AD wm.a.b wm.a.o wm.w.b wm.a.s*(AH wm.sq wm.sa wm.w.AJ*(AH wm.cq wm.ca wm.w.AF*R)))) O2 ?_;have hbl:=hw.len;refine Hj ?_;rintro _ _ ⟨b3,rfl,rfl⟩;refine J3 ?_;refine mA 7 8 ?_;refine Fr ?_;refine S0 ?_;refine Al 6 Ch rfl rfl Ob ?_;rintro _ _ ⟨b4,rfl,rfl⟩;refine BF ?_;refine D' 7 Ch rfl Fm ?_;refine Dw ?_;refine By ?_;refine JL qW ?_;refine J3 ?_;refine mC (fun hk5=>?_) (fun hk5=>?_)
 ·refine J1 ?_;refine BO (α:=Nat×Nat) (fun z=>[(3,ptr b3 0),(4,ptr b4 0),(5,ptr z.1 0),(6,ptr z.2 0)]) (fun z=>HP.AA z.1 0 [uN r.f.offset]*(HP.AA z.2 0 [uN (r.f.offset+r.f.data.size)]*(HP.AA b4 0 [ptr cb (0+43+j*10)]*(HP.AA b3 0 (AI r)*(HP.AA cb (0+43+j*10) (Bz wm)*(AD wm.a.b wm.a.o wm.w.b wm.a.s*(AH wm.sq wm.sa wm.w.AJ*(AH wm.cq wm.ca wm.w.AF*R)))))))) (fun _=>True) ?_ ?_
  ·refine mA 12 13 ?_;refine WK ?_;refine HB ?_;refine JT 6 rfl IG ?_;refine JT 7 rfl (Gt rfl (HK (by have:=hf hk5;omega))) ?_;refine JT 8 rfl (KM rfl rfl (by have:=hf hk5;omega)) ?_;refine tD 9 10 Ch rfl rfl rfl rfl rfl rfl rfl rfl Ob Ob ?_ ?_
   ·rintro _ _ ⟨b5,rfl,rfl⟩;refine BF ?_;refine Al 10 Ch rfl rfl Ob ?_;rintro _ _ ⟨b6,rfl,rfl⟩;refine BF ?_;refine Sm ?_;refine Gj ?_;refine XN ?_;refine Dw ?_;exact AU (b5,b6) trivial B4 Yg
   rintro _ _ ⟨b6,rfl,rfl⟩;refine BF ?_;refine Al 9 Ch rfl rfl Ob ?_;rintro _ _ ⟨b5,rfl,rfl⟩;refine BF ?_;refine Sm ?_;refine Gj ?_;refine XN ?_;refine Dw ?_;exact AU (b5,b6) trivial B4 Yg
  ·rintro⟨b5,b6⟩ _;dsimp only;refine BV ?_;refine mA 4 5 ?_;refine Jd 0 ?_;refine Al 1 Ch rfl rfl Sf ?_;rintro _ _ ⟨q34,rfl,rfl⟩;refine BF ?_;refine L7 ?_;refine D' 4 Ch rfl Fm ?_;refine Dw ?_;refine J5 ?_;refine mE rfl (Xg wm.sq _) ?_;rintro _ _ ⟨b38,rfl,rfl⟩;refine J3 ?_
   refine WW (α:=AP) Iy (fun xs=>xs=wm.w.AJ.l.reverse) (fun ys=>∃mm,mm≤wm.w.AJ.l.length∧Gx wm.w.AJ.l mm=ys) (fun _=>True) (fun pre=>HP.ex fun za:B9=>HP.pr (za.ok (pre.foldl (ED r.f.offset (r.f.offset+r.f.data.size)) (.of 4096)))*(AH q34 za (pre.foldl (ED r.f.offset (r.f.offset+r.f.data.size)) (.of 4096))*(HP.AA b4 0 [ptr cb (0+43+j*10)]*(HP.AA b5 0 [uN r.f.offset]*(HP.AA b6 0 [uN (r.f.offset+r.f.data.size)]*HP.AA cb (0+43+j*10) [.slice wm.a.p wm.w.b.length wm.a.c,ptr q34 0,ptr wm.cq 0,uN wm.w.high,.bool wm.w.finished,.bool wm.w.ending,.bool wm.w.ended,.bool wm.w.given,uN wm.w.code,.bool wm.w.Da]))))) (fun cx pre=>HP.pr False) ((AH wm.sq wm.sa wm.w.AJ*HP.AA b38 0 [ptr wm.sq 0])*(AD wm.a.b wm.a.o wm.w.b wm.a.s*(AH wm.cq wm.ca wm.w.AF*(HP.AA b3 0 (AI r)*R)))) ((AH wm.sq wm.sa wm.w.AJ*HP.AA b38 0 [ptr wm.sq 0])*(AD wm.a.b wm.a.o wm.w.b wm.a.s*(AH wm.cq wm.ca wm.w.AF*(HP.AA b3 0 (AI r)*R)))) (fun y x=>[(3,ptr b3 0),(4,ptr b4 0),(5,ptr b5 0),(6,ptr b6 0),(8,ptr y 0)]) (fun y x=>HP.AA y 0 [uN x.lo,uN x.hi]) rfl rfl rfl ?_ (Vl wm.sq b38 wm.sa wm.w.AJ _ hok.2.1 (by have:=hw.so.len;rw [hw.sm]at this;omega)) ?_ ?_ ?_ ?_
   ·refine I4 Bi (Lz 4096) ?_;show _=AH q34 Bi (.of 4096)*(HP.AA b4 0 [ptr cb (0+43+j*10)]*(HP.AA b5 0 [uN r.f.offset]*(HP.AA b6 0 [uN (r.f.offset+r.f.data.size)]*HP.AA cb (0+43+j*10) [.slice wm.a.p wm.w.b.length wm.a.c,ptr q34 0,ptr wm.cq 0,uN wm.w.high,.bool wm.w.finished,.bool wm.w.ending,.bool wm.w.ended,.bool wm.w.given,uN wm.w.code,.bool wm.w.Da])))*((AH wm.sq wm.sa wm.w.AJ*HP.AA b38 0 [ptr wm.sq 0])*(AD wm.a.b wm.a.o wm.w.b wm.a.s*(AH wm.cq wm.ca wm.w.AF*(HP.AA b3 0 (AI r)*R))));ac_rfl
   ·intro pre x l R;refine J1 ?_;refine AV O5 rfl ?_;rintro _ _ ⟨b8,rfl,rfl⟩;refine Bv K5 ?_;refine Fq ?_;exact TP b8 GE rfl
   ·intro y pre x l R0 hsp;refine Aq (H':=(HP.ex fun za:B9=>HP.pr (za.ok (pre.foldl (ED r.f.offset (r.f.offset+r.f.data.size)) (.of 4096)))*(AH q34 za (pre.foldl (ED r.f.offset (r.f.offset+r.f.data.size)) (.of 4096))*(HP.AA b4 0 [ptr cb (0+43+j*10)]*(HP.AA b5 0 [uN r.f.offset]*(HP.AA b6 0 [uN (r.f.offset+r.f.data.size)]*HP.AA cb (0+43+j*10) [.slice wm.a.p wm.w.b.length wm.a.c,ptr q34 0,ptr wm.cq 0,uN wm.w.high,.bool wm.w.finished,.bool wm.w.ending,.bool wm.w.ended,.bool wm.w.given,uN wm.w.code,.bool wm.w.Da])))))*(HP.AA y 0 [uN x.lo,uN x.hi]*R0)) Cm ?_;refine Nc ?_;rintro zq hzq;obtain⟨mm,hmm,hds⟩:=hsp;have hmem:=lU hmm;rw [hds]at hmem;have hxm:x∈wm.w.AJ.l:=hmem x Cl;have hxhi:=hw.so.hi x hxm;obtain⟨cd1,cd2,cd3⟩:=TS (lo:=r.f.offset) (hi:=(r.f.offset+r.f.data.size)) hw.len pre (.of 4096) .of rfl rfl (fun s hs=>hw.so.hi s (hmem s NP));refine Aq (H':=AH q34 zq (pre.foldl (ED r.f.offset (r.f.offset+r.f.data.size)) (.of 4096))*((HP.AA b4 0 [ptr cb (0+43+j*10)]*(HP.AA b5 0 [uN r.f.offset]*(HP.AA b6 0 [uN (r.f.offset+r.f.data.size)]*HP.AA cb (0+43+j*10) [.slice wm.a.p wm.w.b.length wm.a.c,ptr q34 0,ptr wm.cq 0,uN wm.w.high,.bool wm.w.finished,.bool wm.w.ending,.bool wm.w.ended,.bool wm.w.given,uN wm.w.code,.bool wm.w.Da])))*(HP.AA y 0 [uN x.lo,uN x.hi]*R0))) Cm ?_;refine By ?_;refine mC (fun h43=>?_) (fun h43=>?_)
    ·refine mA 11 12 ?_;refine Mo ?_;refine HB ?_;refine Hk ?_;refine Jd 7 ?_;refine Jd 8 ?_;refine JT 9 rfl Nm ?_;refine JT 10 rfl P' ?_;refine Al 11 Ch rfl rfl (BK rfl (L0 q34 x.lo _ wm.w.b.length zq _ _ hzq cd1 Cg Cg (by rw [cd3];omega) (by rw [cd3];omega))) ?_;rintro _ _ ⟨a55,hs55,rfl⟩;obtain⟨e1,e2,e3,_⟩:=Ls (lo:=x.lo) (hi:=min x.hi (r.f.offset-1)) cd1 cd2 cd3 hw.len Cg;refine DS ?_;refine C3 ?_
     first
      |(have hT:=hs55;have f1:=e1;have f2:=e2;have f3:=e3)
      |(have hT:=hzq;have f1:=cd1;have f2:=cd2;have f3:=cd3)
     refine J4 ?_;refine JL MD ?_;refine J2 ?_;refine mC (fun h59=>?_) (fun h59=>?_)
     ·refine Yd ?_;rintro _ _ ⟨a70,hs70,rfl⟩;refine DS ?_;refine EU ?_
      first
       |exact Gm trivial (Gh (G:=HP.AA y 0 [uN x.lo,uN x.hi]) (a70:B9) IB IN)
       |exact Gm trivial (Gh (G:=HP.AA y 0 [uN x.lo,uN x.hi]) (a55:B9) IB IN)
       |exact Gm trivial (Gh (G:=HP.AA y 0 [uN x.lo,uN x.hi]) (zq:B9) IB IN)
     refine J2 ?_
     first
      |exact Gm trivial (Gh (G:=HP.AA y 0 [uN x.lo,uN x.hi]) (a70:B9) IB IN)
      |exact Gm trivial (Gh (G:=HP.AA y 0 [uN x.lo,uN x.hi]) (a55:B9) IB IN)
      |exact Gm trivial (Gh (G:=HP.AA y 0 [uN x.lo,uN x.hi]) (zq:B9) IB IN)
    refine J3 ?_
    first
     |(have hT:=hs55;have f1:=e1;have f2:=e2;have f3:=e3)
     |(have hT:=hzq;have f1:=cd1;have f2:=cd2;have f3:=cd3)
    refine J4 ?_;refine JL MD ?_;refine J2 ?_;refine mC (fun h59=>?_) (fun h59=>?_)
    ·refine Yd ?_;rintro _ _ ⟨a70,hs70,rfl⟩;refine DS ?_;refine EU ?_
     first
      |exact Gm trivial (Gh (G:=HP.AA y 0 [uN x.lo,uN x.hi]) (a70:B9) IB IN)
      |exact Gm trivial (Gh (G:=HP.AA y 0 [uN x.lo,uN x.hi]) (a55:B9) IB IN)
      |exact Gm trivial (Gh (G:=HP.AA y 0 [uN x.lo,uN x.hi]) (zq:B9) IB IN)
    refine J2 ?_
    first
     |exact Gm trivial (Gh (G:=HP.AA y 0 [uN x.lo,uN x.hi]) (a70:B9) IB IN)
     |exact Gm trivial (Gh (G:=HP.AA y 0 [uN x.lo,uN x.hi]) (a55:B9) IB IN)
     |exact Gm trivial (Gh (G:=HP.AA y 0 [uN x.lo,uN x.hi]) (zq:B9) IB IN)
   ·intro d xs hS;subst hS;refine TT ?_;rintro zq hzq;obtain⟨cd1,cd2,cd3⟩:=TS (lo:=r.f.offset) (hi:=(r.f.offset+r.f.data.size)) hw.len wm.w.AJ.l.reverse (.of 4096) .of rfl rfl (fun s hs=>hw.so.hi s (by simpa using hs));refine D8 (H':=(HP.AA b4 0 [ptr cb (0+43+j*10)]*(HP.AA b5 0 [uN r.f.offset]*(HP.AA b6 0 [uN (r.f.offset+r.f.data.size)]*HP.AA cb (0+43+j*10) [.slice wm.a.p wm.w.b.length wm.a.c,ptr q34 0,ptr wm.cq 0,uN wm.w.high,.bool wm.w.finished,.bool wm.w.ending,.bool wm.w.ended,.bool wm.w.given,uN wm.w.code,.bool wm.w.Da])))*(AH q34 zq (wm.w.AJ.l.reverse.foldl (ED r.f.offset (r.f.offset+r.f.data.size)) (.of 4096))*(AH wm.cq wm.ca wm.w.AF*(AD wm.a.b wm.a.o wm.w.b wm.a.s*(AH wm.sq wm.sa wm.w.AJ*(HP.AA b38 0 [ptr wm.sq 0]*(HP.obj d (.deferred (some []))*(HP.AA b3 0 (AI r)*R)))))))) Cm ?_;refine J9 ?_;refine mE rfl (Xg wm.cq _) ?_;rintro _ _ ⟨b75,rfl,rfl⟩;refine J3 ?_
    refine WW (α:=AP) Iy (fun xs=>xs=wm.w.AF.l.reverse) (fun ys=>∃mm,mm≤wm.w.AF.l.length∧Gx wm.w.AF.l mm=ys) (fun _=>True) (fun pre=>HP.ex fun za:B9=>HP.pr (za.ok (pre.foldl (fun s r=>s.add r.lo r.hi) (wm.w.AJ.l.reverse.foldl (ED r.f.offset (r.f.offset+r.f.data.size)) (.of 4096))))*(AH q34 za (pre.foldl (fun s r=>s.add r.lo r.hi) (wm.w.AJ.l.reverse.foldl (ED r.f.offset (r.f.offset+r.f.data.size)) (.of 4096)))*(HP.AA b4 0 [ptr cb (0+43+j*10)]*(HP.AA b5 0 [uN r.f.offset]*(HP.AA b6 0 [uN (r.f.offset+r.f.data.size)]*HP.AA cb (0+43+j*10) [.slice wm.a.p wm.w.b.length wm.a.c,ptr q34 0,ptr wm.cq 0,uN wm.w.high,.bool wm.w.finished,.bool wm.w.ending,.bool wm.w.ended,.bool wm.w.given,uN wm.w.code,.bool wm.w.Da]))))) (fun cx pre=>HP.pr False) ((AH wm.cq wm.ca wm.w.AF*HP.AA b75 0 [ptr wm.cq 0])*(AD wm.a.b wm.a.o wm.w.b wm.a.s*(AH wm.sq wm.sa wm.w.AJ*(HP.AA b38 0 [ptr wm.sq 0]*(HP.obj d (.deferred (some []))*(HP.AA b3 0 (AI r)*R)))))) ((AH wm.cq wm.ca wm.w.AF*HP.AA b75 0 [ptr wm.cq 0])*(AD wm.a.b wm.a.o wm.w.b wm.a.s*(AH wm.sq wm.sa wm.w.AJ*(HP.AA b38 0 [ptr wm.sq 0]*(HP.obj d (.deferred (some []))*(HP.AA b3 0 (AI r)*R)))))) (fun y x=>[(3,ptr b3 0),(4,ptr b4 0),(9,ptr y 0)]) (fun y x=>HP.AA y 0 [uN x.lo,uN x.hi]) rfl rfl rfl ?_ (Vl wm.cq b75 wm.ca wm.w.AF _ hok.2.2 (by have:=hw.co.len;rw [hw.cm]at this;omega)) ?_ ?_ ?_ ?_
    ·refine I4 zq hzq ?_;show _=AH q34 zq (wm.w.AJ.l.reverse.foldl (ED r.f.offset (r.f.offset+r.f.data.size)) (.of 4096))*(HP.AA b4 0 [ptr cb (0+43+j*10)]*(HP.AA b5 0 [uN r.f.offset]*(HP.AA b6 0 [uN (r.f.offset+r.f.data.size)]*HP.AA cb (0+43+j*10) [.slice wm.a.p wm.w.b.length wm.a.c,ptr q34 0,ptr wm.cq 0,uN wm.w.high,.bool wm.w.finished,.bool wm.w.ending,.bool wm.w.ended,.bool wm.w.given,uN wm.w.code,.bool wm.w.Da])))*((AH wm.cq wm.ca wm.w.AF*HP.AA b75 0 [ptr wm.cq 0])*(AD wm.a.b wm.a.o wm.w.b wm.a.s*(AH wm.sq wm.sa wm.w.AJ*(HP.AA b38 0 [ptr wm.sq 0]*(HP.obj d (.deferred (some []))*(HP.AA b3 0 (AI r)*R))))));ac_rfl
    ·intro pre x l R;refine J1 ?_;refine AV O5 rfl ?_;rintro _ _ ⟨b9,rfl,rfl⟩;refine Bv K5 ?_;refine Fq ?_;exact TP b9 CS rfl
    ·intro y pre x l R0 hsp;refine Aq (H':=(HP.ex fun za:B9=>HP.pr (za.ok (pre.foldl (fun s r=>s.add r.lo r.hi) (wm.w.AJ.l.reverse.foldl (ED r.f.offset (r.f.offset+r.f.data.size)) (.of 4096))))*(AH q34 za (pre.foldl (fun s r=>s.add r.lo r.hi) (wm.w.AJ.l.reverse.foldl (ED r.f.offset (r.f.offset+r.f.data.size)) (.of 4096)))*(HP.AA b4 0 [ptr cb (0+43+j*10)]*(HP.AA b5 0 [uN r.f.offset]*(HP.AA b6 0 [uN (r.f.offset+r.f.data.size)]*HP.AA cb (0+43+j*10) [.slice wm.a.p wm.w.b.length wm.a.c,ptr q34 0,ptr wm.cq 0,uN wm.w.high,.bool wm.w.finished,.bool wm.w.ending,.bool wm.w.ended,.bool wm.w.given,uN wm.w.code,.bool wm.w.Da])))))*(HP.AA y 0 [uN x.lo,uN x.hi]*R0)) Cm ?_;refine Nc ?_;rintro zq hzq;obtain⟨mm,hmm,hds⟩:=hsp;have hmem:=lU hmm;rw [hds]at hmem;have hxm:x∈wm.w.AF.l:=hmem x Cl;have hxhi:=hw.co.hi x hxm;obtain⟨ad1,ad2,ad3⟩:=Wv hw.len pre (wm.w.AJ.l.reverse.foldl (ED r.f.offset (r.f.offset+r.f.data.size)) (.of 4096)) cd1 cd2 cd3 (fun s hs=>hw.co.hi s (hmem s NP))
     refine Aq (H':=AH q34 zq (pre.foldl (fun s r=>s.add r.lo r.hi) (wm.w.AJ.l.reverse.foldl (ED r.f.offset (r.f.offset+r.f.data.size)) (.of 4096)))*((HP.AA b4 0 [ptr cb (0+43+j*10)]*(HP.AA b5 0 [uN r.f.offset]*(HP.AA b6 0 [uN (r.f.offset+r.f.data.size)]*HP.AA cb (0+43+j*10) [.slice wm.a.p wm.w.b.length wm.a.c,ptr q34 0,ptr wm.cq 0,uN wm.w.high,.bool wm.w.finished,.bool wm.w.ending,.bool wm.w.ended,.bool wm.w.given,uN wm.w.code,.bool wm.w.Da])))*(HP.AA y 0 [uN x.lo,uN x.hi]*R0))) Cm ?_;refine J1 ?_;refine mA 8 9 ?_;refine Mo ?_;refine HB ?_;refine Hk ?_;refine Jd 7 ?_;refine Al 8 Ch rfl rfl (BK rfl (L0 q34 x.lo x.hi wm.w.b.length zq _ _ hzq ad1 Cg Cg (by rw [ad3];omega) (by rw [ad3];omega))) ?_;rintro _ _ ⟨a85,hs85,rfl⟩;refine DS ?_;refine EU ?_;exact Gm trivial (Gh (G:=HP.AA y 0 [uN x.lo,uN x.hi]) (a85:B9) (by rw [f_,yj,ym];exact hs85) (by rw [f_,yj,ym];ac_rfl))
    ·intro d2 xs hS;subst hS;refine TT ?_;rintro zq hzq;refine D8 (H':=(HP.AA b4 0 [ptr cb (0+43+j*10)]*(HP.AA b5 0 [uN r.f.offset]*(HP.AA b6 0 [uN (r.f.offset+r.f.data.size)]*HP.AA cb (0+43+j*10) [.slice wm.a.p wm.w.b.length wm.a.c,ptr q34 0,ptr wm.cq 0,uN wm.w.high,.bool wm.w.finished,.bool wm.w.ending,.bool wm.w.ended,.bool wm.w.given,uN wm.w.code,.bool wm.w.Da])))*(AH q34 zq (wm.w.AF.l.reverse.foldl (fun s r=>s.add r.lo r.hi) (wm.w.AJ.l.reverse.foldl (ED r.f.offset (r.f.offset+r.f.data.size)) (.of 4096)))*(HP.obj d2 (.deferred (some []))*(AH wm.cq wm.ca wm.w.AF*(HP.AA b75 0 [ptr wm.cq 0]*(AD wm.a.b wm.a.o wm.w.b wm.a.s*(AH wm.sq wm.sa wm.w.AJ*(HP.AA b38 0 [ptr wm.sq 0]*(HP.obj d (.deferred (some []))*(HP.AA b3 0 (AI r)*R)))))))))) Cm ?_
     have eag:wm.w.again r.f={wm.w with AJ:=wm.w.AF.l.reverse.foldl (fun s r=>s.add r.lo r.hi) (wm.w.AJ.l.reverse.foldl (ED r.f.offset (r.f.offset+r.f.data.size)) (.of 4096)),ending:=wm.w.ending&& !r.f.fin}:=by unfold Ai.again;rw [if_pos hk5]
     refine J8 ?_;refine mc (fun h87=>?_) (fun h87=>?_)
     ·refine J7 ?_;refine D8 (H':=HP.obj d2 (.deferred (some []))*(HP.obj d (.deferred (some []))*(HP.AA cb (0+43+j*10) [.slice wm.a.p wm.w.b.length wm.a.c,ptr q34 0,ptr wm.cq 0,uN wm.w.high,.bool wm.w.finished,.bool false,.bool wm.w.ended,.bool wm.w.given,uN wm.w.code,.bool wm.w.Da]*(AD wm.a.b wm.a.o wm.w.b wm.a.s*(AH q34 zq (wm.w.AF.l.reverse.foldl (fun s r=>s.add r.lo r.hi) (wm.w.AJ.l.reverse.foldl (ED r.f.offset (r.f.offset+r.f.data.size)) (.of 4096)))*(AH wm.cq wm.ca wm.w.AF*(R*(HP.AA b4 0 [ptr cb (0+43+j*10)]*(HP.AA b5 0 [uN r.f.offset]*(HP.AA b6 0 [uN (r.f.offset+r.f.data.size)]*(HP.AA b75 0 [ptr wm.cq 0]*(AH wm.sq wm.sa wm.w.AJ*(HP.AA b38 0 [ptr wm.sq 0]*HP.AA b3 0 (AI r)))))))))))))) Cm ?_
      obtain⟨w2,hw2⟩:∃w2:Bo,w2={wm with w:=wm.w.again r.f,sq:=q34,sa:=zq}:=Bg
      have hok2:w2.ok:=by rw [hw2];unfold Bo.ok;dsimp only;rw [eag];exact⟨hok.1,hzq,hok.2.2⟩
      refine Au (HP.obj d2 (.deferred (some []))*(HP.obj d (.deferred (some []))*(HP.AA cb (0+43+j*10) (Bz w2)*(B6 w2*R)))) (hE:=?_) ?_
      ·rw [hw2,eag,h87];unfold B6;dsimp only [xy,xu,xw,xz];simp only [xy,xu,xw,xz];infer_instance
      exact fC
     refine J2 ?_;refine D8 (H':=HP.obj d2 (.deferred (some []))*(HP.obj d (.deferred (some []))*(HP.AA cb (0+43+j*10) [.slice wm.a.p wm.w.b.length wm.a.c,ptr q34 0,ptr wm.cq 0,uN wm.w.high,.bool wm.w.finished,.bool wm.w.ending,.bool wm.w.ended,.bool wm.w.given,uN wm.w.code,.bool wm.w.Da]*(AD wm.a.b wm.a.o wm.w.b wm.a.s*(AH q34 zq (wm.w.AF.l.reverse.foldl (fun s r=>s.add r.lo r.hi) (wm.w.AJ.l.reverse.foldl (ED r.f.offset (r.f.offset+r.f.data.size)) (.of 4096)))*(AH wm.cq wm.ca wm.w.AF*(R*(HP.AA b4 0 [ptr cb (0+43+j*10)]*(HP.AA b5 0 [uN r.f.offset]*(HP.AA b6 0 [uN (r.f.offset+r.f.data.size)]*(HP.AA b75 0 [ptr wm.cq 0]*(AH wm.sq wm.sa wm.w.AJ*(HP.AA b38 0 [ptr wm.sq 0]*HP.AA b3 0 (AI r)))))))))))))) Cm ?_
     obtain⟨w2,hw2⟩:∃w2:Bo,w2={wm with w:=wm.w.again r.f,sq:=q34,sa:=zq}:=Bg
     have hok2:w2.ok:=by rw [hw2];unfold Bo.ok;dsimp only;rw [eag];exact⟨hok.1,hzq,hok.2.2⟩
     refine Au (HP.obj d2 (.deferred (some []))*(HP.obj d (.deferred (some []))*(HP.AA cb (0+43+j*10) (Bz w2)*(B6 w2*R)))) (hE:=?_) ?_
     ·rw [hw2,eag,h87];unfold B6;dsimp only [xy,xu,xw,xz];simp only [xy,xu,xw,xz];infer_instance
     exact fC
    rintro d2 pre id _ aa ww _ _ h3;exact XU
    -- no other way
   rintro d pre id _ aa ww _ _ h3;exact XU
   -- no other way
 refine Qq ?_;refine mC (fun hk4=>?_) (fun hk4=>?_)
 ·refine J7 ?_
  obtain⟨w2,hw2⟩:∃w2:Bo,w2={wm with w:=wm.w.again r.f}:=Bg
  have eag:wm.w.again r.f={wm.w with Da:=false}:=by unfold Ai.again;rw [if_neg hk5,if_pos hk4]
  have hok2:w2.ok:=by rw [hw2];unfold Bo.ok;dsimp only;rw [eag];exact hok
  refine D8 (H':=HP.AA cb (0+43+j*10) (Bz {wm with w:={wm.w with Da:=false}})*(AD wm.a.b wm.a.o wm.w.b wm.a.s*(AH wm.sq wm.sa wm.w.AJ*(AH wm.cq wm.ca wm.w.AF*(R*(HP.AA b4 0 [ptr cb (0+43+j*10)]*HP.AA b3 0 (AI r))))))) (by show _=HP.AA cb (0+43+j*10) [.slice wm.a.p wm.w.b.length wm.a.c,ptr wm.sq 0,ptr wm.cq 0,uN wm.w.high,.bool wm.w.finished,.bool wm.w.ending,.bool wm.w.ended,.bool wm.w.given,uN wm.w.code,.bool false]*_;ac_rfl) ?_;refine qE ?_;exact iL
 refine J2 ?_
 obtain⟨w2,hw2⟩:∃w2:Bo,w2={wm with w:=wm.w.again r.f}:=Bg
 have eag:wm.w.again r.f=wm.w:=by unfold Ai.again;rw [if_neg hk5,if_neg hk4]
 have hok2:w2.ok:=by rw [hw2];unfold Bo.ok;dsimp only;rw [eag];exact hok
 refine D8 (H':=HP.AA cb (0+43+j*10) (Bz {wm with w:=wm.w})*(AD wm.a.b wm.a.o wm.w.b wm.a.s*(AH wm.sq wm.sa wm.w.AJ*(AH wm.cq wm.ca wm.w.AF*(R*(HP.AA b4 0 [ptr cb (0+43+j*10)]*HP.AA b3 0 (AI r))))))) (by show _=HP.AA cb (0+43+j*10) [.slice wm.a.p wm.w.b.length wm.a.c,ptr wm.sq 0,ptr wm.cq 0,uN wm.w.high,.bool wm.w.finished,.bool wm.w.ending,.bool wm.w.ended,.bool wm.w.given,uN wm.w.code,.bool wm.w.Da]*_;ac_rfl) ?_;refine qE ?_;exact iL
end
section
theorem Sat.wX{P:Program}{B:World}{α:Type}[AB α]{b o k:Nat}{xs:List α}{s:List Value}{R:HP}{w:World}(y:α)(hk:k<xs.length)(h:Sat B (AD b o xs s*R) w):
  ∃w',(storeCells ⟨b,o+k*AB.sz α,none⟩ (AB.Am y)).run P w=.ok () w'∧Sat B (AD b o (xs.set k y) s*R) w':=by
 have hd:xs.drop k=xs[k]::xs.drop (k+1):=List.drop_eq_getElem_cons hk
 have e1:AE xs++s=AE (xs.take k)++(AE (xs.drop k)++s):=by rw [←k_,←E0,List.take_append_drop]
 have hl:(AE (xs.take k)).length=k*AB.sz α:=by rw [CD,c_,n_ Cg]
 have h2:Sat B (HP.AA b (o+k*AB.sz α+0) (AE (xs.drop k)++s)*(HP.AA b o (AE (xs.take k))*R)) w:=by
  rw [HP.C8,←HP.assoc,yo,←hl,←HP.Ft,←e1];exact h
 have hle:(AB.Am y).length≤(AE (xs.drop k)++s).length:=by
  rw [q',CD,AB.len,x_]
  have:=Nat.mul_le_mul_right (AB.sz α) (show 1≤xs.length-k by omega)
  omega
 obtain⟨w',h3,h4⟩:=Sat.LM (P:=P) (AB.Am y) (o+k*AB.sz α) 0 (AE (xs.drop k)++s) _ w hle (AB.one y) h2;refine⟨w',h3,?_⟩
 have e2:(AE (xs.drop k)++s).drop (AB.Am y).length=AE (xs.drop (k+1))++s:=by
  rw [hd];show(AB.Am xs[k]++AE (xs.drop (k+1))++s).drop _=_;rw [k_,AB.len,←AB.len xs[k],List.drop_left]
 rw [e2,HP.C8,←HP.assoc,yo,←hl,←HP.Ft]at h4
 have e3:AE (xs.set k y)++s=AE (xs.take k)++(AB.Am y++(AE (xs.drop (k+1))++s)):=by
  rw [s_,if_pos hk,E0];show _++(AB.Am y++AE (xs.drop (k+1)))++s=_;simp only [k_]
 unfold AD;rw [e3];exact h4
section
variable{P:Program}{B:World}{n:Nat}{E:A6}{D:CK}{H R:HP}{d:Option Tmp}{T T' ty:TypeId}{pos:String}{af:Array Edge}{g:Option (Nat×Bool)}{x y z:Operand}
theorem fp{α:Type}[AB α]{b o k:Nat}{xs:List α}{s:List Value}(v:α)[hT:E6 P T (AB.sz α)](hx:ev E x=some (.pointer (some ⟨b,o+k*AB.sz α,none⟩)))(hy:ev E y=some (.agg (AB.Am v).toArray))(hk:k<xs.length):
  C7 P B n ⟨d,.store T x y,ty,pos,af,g⟩ E D (AD b o xs s*R) (fun v' H''=>v'=undef∧H''=AD b o (xs.set k v) s*R):=by
 intro a w h1 _ h3 K Q hkk;obtain⟨w',hw1,hw2⟩:=Sat.wX (P:=P) v hk h3;have hl:(AB.Am v).length=AB.sz α:=AB.len v
 have hrun:(execOp a.eval ⟨d,.store T x y,ty,pos,af,g⟩).run P w=.ok .skip w':=by
  simp only [execOp,h1.ev hx,h1.ev hy,Instr.storeAt,Instr.sureAddr,t_,m_,g_,storeVar,hT.size,Value.cells];simp [hl,hw1]
 simp only [Oper.wp,hrun,Oper.upon];exact hkk undef _ _ CO hw2
end
end
section
variable{B:World}
abbrev N0(m:BS):Value:=.agg (CM m).toArray
def S9(B:World)(f:FuncId)(us:List Value)(l:List BS)(P:BS→Bool)(G:List BS→HP):Prop:=
 ∀pre x R,(∃m,m≤l.length∧l.take m=pre++[x])→Fn Tryz.prog B f (N0 x::us) (G pre*R) (fun v H'=>v=.bool (P x)∧H'=G (pre++[x])*R)
theorem Mi{l:List BS}{i:Nat}(h:i<l.length):l.take (i+1)=l.take i++[l.getD i AB.AC]:=by
 rw [a_,b_ h,w_,g' h]
theorem fg(l:List BS)(p:Option Addr)(b o c:Nat)(s:List Value)(f:FuncId)(us:List Value)(P:BS→Bool)(G:List BS→HP)(R:HP)[AX Tryz.prog f](hs:Sl p b o l.length c)(hl:l.length<1000000000)(hf:S9 B f us l P G):
  Fn Tryz.prog B 187 [.slice p l.length c,DC f us] (G []*(AD b o l s*R))
   (fun v H'=>∃(kz:Int) (mz:Nat),v=.int .i64 kz∧((kz= -1∧mz=l.length∧∀j,j<l.length→P (l.getD j AB.AC)=false)∨(∃k:Nat,kz=k∧k<l.length∧mz=k+1∧P (l.getD k AB.AC)=true∧∀j,j<k→P (l.getD j AB.AC)=false))∧
    H'=G (l.take mz)*(AD b o l s*R)):=by
 refine mI Tryz.func187 ?_;refine GA ?_;refine J7 ?_;refine Hy ?_;refine BL (α:=Nat) (fun i=>[(0,.slice p l.length c),(1,DC f us),(7,iN l.length),(8,iN i)]) (fun i=>G (l.take i)*(AD b o l s*R)) (fun i=>i≤l.length∧∀j,j<i→P (l.getD j AB.AC)=false) (fun i=>l.length-i) 0 ⟨yc _,(fun j h=>absurd h TN)⟩ B4 (by rw [yn]) ?_;rintro i ⟨hi1,hi2⟩;refine J6 ?_;refine mC (fun h9=>?_) (fun h9=>?_)
 ·refine Iw ?_;refine JL Pb ?_;refine JL (I5 (xs:=l) rfl inferInstance Cg) ?_;refine AV (Iz rfl rfl (hf (l.take i) (l.getD i AB.AC) _ ⟨i+1,Cg,Mi h9⟩)) rfl ?_;refine JR ?_;refine J2 ?_;refine mc (fun h16=>?_) (fun h16=>?_)
  ·refine CR ?_;exact mr [4] rfl rfl ⟨(i:Nat),i+1,rfl,.inr ⟨i,rfl,h9,rfl,h16,hi2⟩,by rw [Mi h9]⟩
  refine Fb ?_;exact At (i+1) ⟨Cg,fun j hj=>by rcases yp j i with h|h;exact hi2 j h;obtain rfl:j=i:=Cg;exact h16⟩ Cg B4 (by rw [Mi h9])
 refine BV ?_;exact mr [4] rfl rfl ⟨-1,l.length,rfl,.inl ⟨rfl,rfl,fun j hj=>hi2 j Cg⟩,by rw [show i=l.length by omega]⟩
theorem tK{l:List BS}{P:BS→Bool}{k:Nat}(hk:k≤l.length)(h:∀j,j<k→P (l.getD j AB.AC)=false):(l.take k).filter (fun x=> !P x)=l.take k:=by
 rw [List.filter_eq_self];intro a ha;obtain⟨j,hj,rfl⟩:=xt ha
 have hj2:j<k∧j<l.length:=by rw [c_]at hj;omega
 have:=h j hj2.1
 rw [a_,b_ hj2.2,w_]at this;rw [List.getElem_take,this];rfl
structure Hz where
 i:Nat
 j:Nat
 L:List BS
def Hz.ok(z:Hz)(l:List BS)(P:BS→Bool):Prop:=
 z.j≤l.length∧z.i<z.j∧z.L.length=l.length∧z.L.take z.i=(l.take z.j).filter (fun x=> !P x)∧z.L.drop z.j=l.drop z.j
theorem Ul{l m:List BS}{j:Nat}(h:m.drop j=l.drop j)(hl:m.length=l.length)(hj:j<l.length):m.getD j AB.AC=l.getD j AB.AC:=by
 have:(m.drop j)[0]?=(l.drop j)[0]?:=by rw [h]
 rw [ye,ye]at this;simp only [a_];rw [show j=j+0 from rfl,this]
theorem Hz.ID{z:Hz}{l:List BS}{P:BS→Bool}(h:z.ok l P)(hj:z.j<l.length)(hP:P (z.L.getD z.j AB.AC)=false):(⟨z.i+1,z.j+1,z.L.set z.i (z.L.getD z.j AB.AC)⟩:Hz).ok l P:=by
 obtain⟨h1,h2,h3,h4,h5⟩:=h;have e:=Ul h5 h3 hj;refine⟨hj,by show z.i+1<z.j+1;omega,by show(z.L.set _ _).length=_;rw [List.length_set];exact h3,?_,?_⟩
 ·show(z.L.set z.i (z.L.getD z.j AB.AC)).take (z.i+1)=_
  have h6:z.i<z.L.length:=by omega
  rw [s_,if_pos h6,List.take_append,List.take_of_length_le QH,c_,n_ Cg,show z.i+1-z.i=0+1 by omega,List.take_succ_cons,yn,h4,Mi hj,j_,←e,h_ (by show(!P _)=true;rw [hP];rfl),o_]
 ·show(z.L.set z.i (z.L.getD z.j AB.AC)).drop (z.j+1)=_;rw [List.drop_set_of_lt Cg]
  have:=congrArg (yu 1) h5
  rwa [u_,u_]at this
theorem Hz.skip{z:Hz}{l:List BS}{P:BS→Bool}(h:z.ok l P)(hj:z.j<l.length)(hP:P (z.L.getD z.j AB.AC)=true):(⟨z.i,z.j+1,z.L⟩:Hz).ok l P:=by
 obtain⟨h1,h2,h3,h4,h5⟩:=h;have e:=Ul h5 h3 hj;refine⟨hj,by show z.i<z.j+1;omega,h3,?_,?_⟩
 ·show z.L.take z.i=(l.take (z.j+1)).filter _;rw [h4,Mi hj,j_,←e,d_ (by show ¬(!P _)=true;rw [hP];simp),o_,xr]
 ·show z.L.drop (z.j+1)=_
  have:=congrArg (yu 1) h5
  rwa [u_,u_]at this
set_option maxHeartbeats 1000000 in
theorem U5(l:List BS)(p:Option Addr)(b o c:Nat)(s:List Value)(f:FuncId)(us:List Value)(P:BS→Bool)(G:List BS→HP)(R:HP)[AX Tryz.prog f](hs:Sl p b o l.length c)(hc:l.length*3+s.length=c*3)(hl:l.length<1000000000)(hf:S9 B f us l P G):
  Fn Tryz.prog B 161 [.slice p l.length c,DC f us] (G []*(AD b o l s*R)) (fun v H'=>CH (G l*R) (l.filter (fun x=> !P x)) v H'):=by
 refine mI Tryz.func161 ?_;refine J9 ?_;refine mE rfl (fg l p b o c s f us P G R hs hl hf) ?_;rintro _ _ ⟨kz,mz,rfl,hkz,rfl⟩;refine J7 ?_;refine JL (CI (i:=kz) (j:= -1) rfl rfl) ?_;refine J2 ?_;refine mC (fun h12=>?_) (fun h12=>?_)
 ·obtain⟨_,rfl,hk3⟩:=hkz.resolve_right (fun⟨k,h,_⟩=>by omega)
  have hnone:l.filter (fun x=> !P x)=l:=by have:=tK D3 hk3;rwa [i_]at this
  refine J8 ?_;exact mr [4] rfl rfl ⟨p,b,o,c,s,W3,by rw [hnone];exact hs,by rw [hnone];exact hc,by rw [hnone,i_];ac_rfl⟩
 obtain⟨k,rfl,hk1,rfl,hk2,hk3⟩:=hkz.resolve_left (fun h=>h12 h.1);refine OI (E':=[(5,iN k),(0,.slice p l.length c),(1,DC f us)]) CS ?_;refine J6 ?_;refine Ki ?_;refine J4 ?_
 refine BL (α:=Hz) (fun z=>[(0,.slice p l.length c),(1,DC f us),(5,iN z.i),(6,iN z.j)]) (fun z=>G (l.take z.j)*(AD b o z.L s*R)) (fun z=>z.ok l P) (fun z=>l.length-z.j) ⟨k,k+1,l⟩ ⟨by show k+1≤l.length;omega,by show k<k+1;omega,rfl,by show l.take k=(l.take (k+1)).filter _;rw [Mi hk1,j_,tK Cg hk3,d_ (by show ¬(!P _)=true;rw [hk2];simp),o_,xr],rfl⟩ B4 rfl ?_
 rintro z hz;have hz1:=hz.1;have hz2:=hz.2.1;have hz3:=hz.2.2.1;refine J9 ?_;refine mC (fun h19=>?_) (fun h19=>?_)
 ·have hgd:=Ul hz.2.2.2.2 hz3 h19
  have ets:l.take (z.j+1)=l.take z.j++[z.L.getD z.j AB.AC]:=by rw [Mi h19,hgd]
  refine J8 ?_;refine JL Pb ?_;refine JL (I5 (xs:=z.L) rfl inferInstance Cg) ?_;refine Me ?_;rintro _ _ ⟨b7,rfl,rfl⟩;refine Bv (GS rfl rfl Cn (AB.one _)) ?_;refine JE ?_;refine JL fF ?_;refine Aw (H':=G (l.take z.j)*(AD b o z.L s*(HP.AA b7 0 (CM (z.L.getD z.j AB.AC))*R))) Cm ?_;refine AV (Iz rfl rfl (hf (l.take z.j) (z.L.getD z.j AB.AC) _ ⟨z.j+1,Cg,ets⟩)) rfl ?_;refine JR ?_;refine Eb ?_;refine mc (fun h29=>?_) (fun h29=>?_)
  ·skip
   have h29:P (z.L.getD z.j AB.AC)=false:=by simpa using h29
   refine J4 ?_;refine JL fF ?_;refine JL Pb ?_;refine Aw (H':=AD b o z.L s*(HP.AA b7 0 (CM (z.L.getD z.j AB.AC))*(G (l.take z.j++[z.L.getD z.j AB.AC])*R))) Cm ?_;refine Bv (fp (z.L.getD z.j AB.AC) (k:=z.i) rfl rfl Cg) ?_;refine JR ?_;refine J2 ?_;refine Hs (AD b o (z.L.set z.i (z.L.getD z.j AB.AC)) s*(G (l.take z.j++[z.L.getD z.j AB.AC])*R)) ?_;refine J2 ?_;refine Ki ?_;refine KG ?_
   first
    |exact At ⟨z.i+1,z.j+1,z.L.set z.i (z.L.getD z.j AB.AC)⟩ (Hz.ID hz h19 h29) RJ B4 sL
    |exact At ⟨z.i,z.j+1,z.L⟩ (Hz.skip hz h19 h29) RJ B4 pE
  have h29:P (z.L.getD z.j AB.AC)=true:=by simpa using h29
  refine Hs (G (l.take z.j++[z.L.getD z.j AB.AC])*(AD b o z.L s*R)) ?_;refine Fu ?_
  first
   |exact At ⟨z.i+1,z.j+1,z.L.set z.i (z.L.getD z.j AB.AC)⟩ (Hz.ID hz h19 h29) RJ B4 sL
   |exact At ⟨z.i,z.j+1,z.L⟩ (Hz.skip hz h19 h29) RJ B4 pE
 refine J6 ?_
 obtain rfl':z.j=l.length:=by omega
 refine Aq (H':=HP.AA b o (AE z.L++s)*(G (l.take z.j)*R)) UC ?_
 have hfl:(AE z.L++s).length=c*3:=by rw [q',CD,hz3];exact hc
 have hfi:z.L.take z.i=l.filter (fun x=> !P x):=by rw [hz.2.2.2.1,rfl',i_]
 refine J3 ?_;refine JL Je ?_;refine Bv (QY (sz:=3) (b:=b) (o:=o) (k:=z.i) rfl (Er (k:=l.length) hs (by omega:z.i≤l.length) hs.2 rfl) (by rw [hfl];have:=hs.2;omega) rfl Ci) ?_;rintro _ _ ⟨L',k1,k2,k3,rfl⟩;refine J6 ?_;refine JL Xz ?_;refine J4 ?_;exact mR [4] (HP.AA b o L'*(G l*R)) (hE:=by rw [rfl',i_];infer_instance) rfl rfl ⟨p,b,o,c,L'.drop (z.i*3),by rw [←hfi,c_,n_ Cg];rfl,⟨hs.1,by rw [←hfi,c_,n_ Cg];have:=hs.2;omega⟩,by rw [←hfi,c_,n_ Cg,x_,k1,hfl];show z.i*3+_=c*3;have:=hs.2;omega,by congr 1;refine Oz ?_;refine P4 (α:=BS) (k:=z.i) ?_;refine Eq.trans k2 ?_;rw [←hfi];exact PI z.L z.i s Cg⟩
end
section
variable{B:World}
theorem VH{m:BS}{l:List BS}(h:m∈l):AW B (AM Az l) m.a.b m.a.o m.fs:=by
 obtain⟨k,hk,rfl⟩:=xt h;rw [MR Az l k AB.AC hk,a_,b_ hk,w_];unfold Az;infer_instance
structure OV where
 ws:List Bo
 la:Ae
 lo:List BS
structure OV.Ok(z:OV)(ws0:List Ai)(lo0:List BS)(P:EN→Bool)(pre:List BS):Prop where
 ws:∀w∈z.ws,w.ok
 mw:z.ws.map (·.w)=((pre.filter (fun m=>P m.A5)).map (·.A5)).foldl M9 ws0
 la:z.la.ok z.lo
 lo:z.lo=lo0++pre.filter (fun m=>P m.A5)
def Jt(cb:Nat)(x:CC)(ws0:List Ai)(lo0:List BS)(P:EN→Bool)(K:HP)(pre:List BS):HP:=
 HP.ex fun z:OV=>HP.pr (z.Ok ws0 lo0 P pre)*(AT cb {x with lv:=z.la.v z.lo.length}*(BG cb z.ws*(z.la.h z.lo*K)))
set_option maxHeartbeats 2000000 in
theorem ql(cb AG bl bc:Nat)(x:CC)(ws0:List Ai)(lo0 l:List BS)(lost:EN→Bool)(f:FuncId)(us:List Value)(G0:HP)[AX Tryz.prog f](hw0:Du AG ws0)(hlok:∀m∈l,m.ok)
  (hfr:∀m∈l,∀g∈m.A5.Ap,Es ws0 g)(hlen:l.length+lo0.length<100000000)(hfl:∀m∈l,m.fs.length<100000000)
  (hf0:∀(x':CC) (m:BS) (R':HP),x'.Bq=x.Bq→m∈l→Fn Tryz.prog B f (N0 m::us) (AT cb x'*(G0*R')) (fun v H'=>v=.bool (lost m.A5)∧H'=AT cb x'*(G0*R'))):
  S9 B 162 [ptr bl 0,ptr bc 0] l (fun m=>lost m.A5) (Jt cb x ws0 lo0 lost (G0*(HP.AA bl 0 [DC f us]*(HP.AA bc 0 [ptr cb 0]*AM Az l)))):=by
 intro pre fm R hpre;obtain⟨mm,hmm,hpre⟩:=hpre;have hmem:fm∈l:=l_ (i:=mm) (by rw [hpre];simp);have hsub:∀m∈pre,m∈l:=fun m hm=>l_ (i:=mm) (by rw [hpre];simp [hm]);have hfm:=hlok fm hmem;have hfl2:=hfl fm hmem;have hrd:=VH (B:=B) hmem;refine mI Tryz.func162 ?_;unfold Jt;refine Nc ?_;rintro⟨ws,la,lo⟩ ⟨hz1,hz2,hz3,hz4⟩;dsimp only at hz1 hz2 hz3 hz4⊢
 obtain⟨wo1,wo2,_⟩:=UL (AG:=AG) ((pre.filter (fun m=>lost m.A5)).map (·.A5)) ws0 hw0 (fun p hp g hg=>by
  obtain⟨m,hm,rfl⟩:=e_.1 hp
  exact hfr m (hsub m (p_.1 hm).1) g hg)
 rw [←hz2]at wo1 wo2;refine Aq (H':=AT cb {x with lv:=la.v lo.length}*(BG cb ws*(AD la.b la.o lo la.s*(G0*(HP.AA bl 0 [DC f us]*(HP.AA bc 0 [ptr cb 0]*(AM Az l*R))))))) Cm ?_;refine J2 ?_;refine AV (DP (l:=CM fm) rfl rfl) rfl ?_;rintro _ _ ⟨b3,rfl,rfl⟩;refine J7 ?_;refine JL (Dp (l:=CM fm) rfl rfl) ?_;refine Aw (H':=AT cb {x with lv:=la.v lo.length}*(G0*(BG cb ws*(AD la.b la.o lo la.s*(HP.AA bl 0 [DC f us]*(HP.AA bc 0 [ptr cb 0]*(AM Az l*(HP.AA b3 0 (CM fm)*R)))))))) Cm ?_;refine AV (Iz rfl rfl (hf0 _ fm _ rfl hmem)) rfl ?_;refine JR ?_;refine N3 ?_;refine mc (fun h10=>?_) (fun h10=>?_)
 ·skip
  have h10:lost fm.A5=false:=by simpa using h10
  refine J7 ?_
  have hfe:(pre++[fm]).filter (fun m=>lost m.A5)=pre.filter (fun m=>lost m.A5):=by
   rw [j_,d_ (by rw [h10];simp),o_,xr]
  exact mR [4] (Jt cb x ws0 lo0 lost (G0*(HP.AA bl 0 [DC f us]*(HP.AA bc 0 [ptr cb 0]*AM Az l))) (pre++[fm])*R) (hE:=⟨fun ww hw=>Gh (G:=HP.AA b3 0 (CM fm)) (⟨ws,la,lo⟩:OV) ⟨hz1,by rw [hfe];exact hz2,hz3,by rw [hfe];exact hz4⟩ (by show _=HP.AA b3 0 (CM fm)*(AT cb {x with lv:=la.v lo.length}*(BG cb ws*(AD la.b la.o lo la.s*(G0*(HP.AA bl 0 [DC f us]*(HP.AA bc 0 [ptr cb 0]*AM Az l)))))*R);ac_rfl) ww hw⟩) rfl rfl ⟨by rw [h10];rfl,rfl⟩
 have h10:lost fm.A5=true:=by simpa using h10
 refine Aq (H':=AT cb {x with lv:=la.v lo.length}*(BG cb ws*(AD la.b la.o lo la.s*(G0*(HP.AA bl 0 [DC f us]*(HP.AA bc 0 [ptr cb 0]*(AM Az l*(HP.AA b3 0 (CM fm)*R)))))))) Cm ?_;refine J8 ?_;refine Hy ?_
 refine BL (α:=Nat×List Bo) (fun z=>[(1,ptr bl 0),(2,ptr bc 0),(3,ptr b3 0),(12,.slice fm.a.p fm.fs.length fm.a.c),(13,iN fm.fs.length),(14,iN z.1)]) (fun z=>AT cb {x with lv:=la.v lo.length}*(BG cb z.2*(AD la.b la.o lo la.s*(G0*(HP.AA bl 0 [DC f us]*(HP.AA bc 0 [ptr cb 0]*(AM Az l*(HP.AA b3 0 (CM fm)*R)))))))) (fun z=>z.1≤fm.fs.length∧(∀w∈z.2,w.ok)∧z.2.map (·.w)=((fm.fs.take z.1).map (·.f)).foldl IJ (ws.map (·.w))) (fun z=>fm.fs.length-z.1) (0,ws) ⟨yc _,hz1,rfl⟩ aH rfl ?_
 rintro⟨i,wz⟩ ⟨q1,q2,q3⟩;dsimp only at q1 q2 q3⊢
 obtain⟨ag1,ag2,_⟩:=W7 (AG:=AG) ((fm.fs.take i).map (·.f)) (ws.map (·.w)) wo1 (fun g hg=>by
  obtain⟨rr,hrr,rfl⟩:=e_.1 hg
  exact(hfr fm hmem rr.f lM).same wo2)
 rw [←q3]at ag1 ag2
 have hwl:wz.length=4:=by have:=ag1.len;simpa using this
 refine J6 ?_;refine mC (fun h15=>?_) (fun h15=>?_)
 ·skip
  have hgd:fm.fs.getD i AB.AC=fm.fs[i]:=by rw [a_,b_ h15];rfl
  have hfo:Es (wz.map (·.w)) (fm.fs.getD i AB.AC).f:=by
   rw [hgd];exact((hfr fm hmem _ jE).same wo2).same ag2
  obtain⟨j,hst⟩:∃j:Nat,(fm.fs.getD i AB.AC).f.stream=(j:Int):=⟨_,(yd hfo.1).symm⟩
  have hj:j<4:=by have:=hfo.2.1;omega
  have hgw:(wz.map (·.w)).getD j BD=(wz.getD j AB.AC).w:=by
   simp only [a_,yg,b_ XG];rfl
  have hwj:=ag1.ok j hj;rw [hgw]at hwj;refine J6 ?_;refine JL (FT rfl rfl hfm.1 Cg rfl) ?_;refine JL dA ?_;refine AV O4 rfl ?_;rintro _ _ ⟨b6,rfl,rfl⟩;refine Bv (GS rfl rfl Cn (AB.one _)) ?_;refine E5 ?_;refine JL (Dp (l:=AI (fm.fs.getD i AB.AC)) rfl rfl) ?_;refine Aw (H':=HP.AA cb (0+43+j*10) (Bz (wz.getD j AB.AC))*(B6 (wz.getD j AB.AC)*(Cc cb wz j*(AT cb {x with lv:=la.v lo.length}*(HP.AA b6 0 (AI (fm.fs.getD i AB.AC))*(AD la.b la.o lo la.s*(G0*(HP.AA bl 0 [DC f us]*(HP.AA bc 0 [ptr cb 0]*(AM Az l*(HP.AA b3 0 (CM fm)*R))))))))))) (by rw [K8 cb wz j Cg];show HP.AA b6 0 (AI _)*_=_;ac_rfl) ?_;refine mE rfl (qh cb j AG (wz.getD j AB.AC) (fm.fs.getD i AB.AC) _ hst hj (q2 _ (Ex Cg)) hwj (fun hk=>by have:=hfo.2.2 hk;rw [hst,v_,hgw]at this;exact this)) ?_;rintro _ _ ⟨w2,hw2,hw2e,rfl⟩;refine Fb ?_;refine Au (AT cb {x with lv:=la.v lo.length}*(BG cb (wz.set j w2)*(AD la.b la.o lo la.s*(G0*(HP.AA bl 0 [DC f us]*(HP.AA bc 0 [ptr cb 0]*(AM Az l*(HP.AA b3 0 (CM fm)*R)))))))) (hE:=?_) ?_
  ·rw [Mq cb wz j w2 Cg];exact⟨fun ww hw=>Sat.right (A:=HP.AA b6 0 (AI (fm.fs.getD i AB.AC))) (ya Cv hw)⟩
  exact At (i+1,wz.set j w2) ⟨Cg,fun a ha=>JS (P:=Bo.ok) q2 hw2 ha,by
   show(wz.set j w2).map (·.w)=((fm.fs.take (i+1)).map (·.f)).foldl IJ (ws.map (·.w))
   rw [yq,hw2e,g' h15,q_,f_,←q3]
   show _=IJ (wz.map (·.w)) (fm.fs[i]).f
   rw [←hgd]
   unfold IJ
   rw [hst,v_,hgw]⟩ pH aH rfl
 refine J6 ?_
 obtain rfl':i=fm.fs.length:=by omega
 rw [rfl',i_]at q3;refine Aq (H':=AD la.b la.o lo la.s*(AT cb {x with lv:=la.v lo.length}*(BG cb wz*(G0*(HP.AA bl 0 [DC f us]*(HP.AA bc 0 [ptr cb 0]*(AM Az l*(HP.AA b3 0 (CM fm)*R)))))))) Cm ?_
 have hlol:lo.length≤lo0.length+l.length:=by
  rw [hz4,q'];have h1:=List.length_filter_le (fun m:BS=>lost m.A5) pre;have h2:=congrArg List.length hpre;rw [q',c_]at h2;omega
 refine Dc (AT cb {x with lv:=la.v lo.length}*(BG cb wz*(G0*(HP.AA bl 0 [DC f us]*(HP.AA bc 0 [ptr cb 0]*(AM Az l*(HP.AA b3 0 (CM fm)*R))))))) 10 11 Dg rfl Ch ?_;refine L4 ?_;refine JT 5 rfl (Dp (l:=CM fm) rfl rfl) ?_;refine Al 6 Ch rfl rfl (E4 (cs:=CM fm) rfl Cr rfl rfl) ?_;rintro _ _ ⟨b28,rfl,rfl⟩;refine BF ?_;refine FB (H':=AD la.b la.o lo la.s*(HP.AA b28 0 (AE [fm])*(AT cb {x with lv:=la.v lo.length}*(BG cb wz*(G0*(HP.AA bl 0 [DC f us]*(HP.AA bc 0 [ptr cb 0]*(AM Az l*(HP.AA b3 0 (CM fm)*R))))))))) (by show HP.AA b28 0 _*_=_;rw [show AE [fm]=CM fm from xr _];ac_rfl) ?_;refine Al 7 Ch rfl rfl (Bf (ys:=[fm]) (bb:=b28) (oo:=0) (cc:=1) rfl hz3.1 hz3.2 rfl Bc inferInstance rfl Cs Cg) ?_;rintro _ _ ⟨p29,b29,o29,c29,s29,rfl,hs29,hc29,rfl⟩;refine BF ?_;refine Jn 8 ?_;refine UK ?_;refine Dw ?_;refine J7 ?_
 have hfe:(pre++[fm]).filter (fun m=>lost m.A5)=pre.filter (fun m=>lost m.A5)++[fm]:=by
  rw [j_,h_ (p:=fun m:BS=>lost m.A5) (a:=fm) h10,o_]
 exact mR [4] (Jt cb x ws0 lo0 lost (G0*(HP.AA bl 0 [DC f us]*(HP.AA bc 0 [ptr cb 0]*AM Az l))) (pre++[fm])*R) (hE:=⟨fun ww hw=>Gh (G:=HP.AA b3 0 (CM fm)*HP.AA b28 0 (AE [fm])) (⟨wz,⟨p29,b29,o29,c29,s29⟩,lo++[fm]⟩:OV) ⟨q2,by show wz.map (·.w)=_;rw [hfe,q_,f_,←hz2,q3];rfl,⟨hs29,hc29⟩,by show lo++[fm]=_;rw [hfe,hz4,k_]⟩ (by show _=HP.AA b3 0 (CM fm)*HP.AA b28 0 (AE [fm])*(AT cb {x with lv:=.slice p29 (lo++[fm]).length c29}*(BG cb wz*(AD b29 o29 (lo++[fm]) s29*(G0*(HP.AA bl 0 [DC f us]*(HP.AA bc 0 [ptr cb 0]*AM Az l)))))*R);ac_rfl) ww hw⟩) rfl rfl ⟨by rw [h10];rfl,rfl⟩
theorem Br{P:Program}{n:Nat}{o:Oper}{E:A6}{H:HP}{v v':Value}(h:Aa P B n o E H v)(e:v=v'):Aa P B n o E H v':=e▸h
theorem F_{cb:Nat}{x:CC}{ws0:List Ai}{lo0 pre:List BS}{P:EN→Bool}{K R:HP}{w:World}(h:Sat B (Jt cb x ws0 lo0 P K pre*R) w):Sat B (K*R) w:=by
 unfold Jt at h;rw [HP.HV]at h;obtain⟨z,h⟩:=Sat.ex.1 h;rw [HP.assoc]at h;have h2:=(Sat.pr.1 h).2;refine Sat.right (A:=AT cb {x with lv:=z.la.v z.lo.length}*(BG cb z.ws*z.la.h z.lo)) ?_;refine ya ?_ h2;congr 1;ac_rfl
theorem Wf{P:Program}{n:Nat}{E:A6}{D:CK}{ops:Array Oper}{Q:Exit→Act→World→Prop}{R0:HP}{last fuel:Nat}{ls:Array Bool}{α:Type}{p:α→Prop}{A:α→HP}{R:HP}(h:∀z,p z→WA P B ops Q R0 last fuel ls n E D (A z*R)):WA P B ops Q R0 last fuel ls n E D ((HP.ex fun z=>HP.pr (p z)*A z)*R):=by
 intro a w h1 h2 h3;rw [HP.HV]at h3;obtain⟨z,h4⟩:=Sat.ex.1 h3;rw [HP.assoc]at h4;obtain⟨hp,h5⟩:=Sat.pr.1 h4;exact h z hp a w h1 h2 h5
theorem VF{P:Program}{n:Nat}{E:A6}{D:CK}{ops:Array Oper}{Q:Exit→Act→World→Prop}{R0 H:HP}{last fuel:Nat}{ls:Array Bool}(H':HP)[hE:CE B H H'](h:WA P B ops Q R0 last fuel ls n E D H'):WA P B ops Q R0 last fuel ls n E D H:=
 fun a w h1 h2 h3=>h a w h1 h2 (hE.get w h3)
theorem SG{α:Type}(f:α→HP)(P:α→Bool):∀l:List α,AM f l=AM f (l.filter (fun x=> !P x))*AM f (l.filter P)
 |[]=>by simp [FG]
 |a::l=>by
  rw [Fx,SG f P l];cases h:P a
  ·rw [h_ Qa,d_ (by rw [h];simp),Fx];ac_rfl
  ·rw [d_ (by rw [h];simp),h_ h,Fx];ac_rfl
theorem Tl(l:List BS)(P:EN→Bool):(l.filter (fun m=>P m.A5)).map (·.A5)=(l.map (·.A5)).filter P:=by
 induction l with
 |nil=>rfl
 |cons a l ih=>cases h:P a.A5<;>simp [h,ih]
theorem pX{t:Nat}{m:Ah}(hi:Ak t m.s):∀a∈m.fl,∀g∈a.A5.Ap,Es m.s.ws g:=fun a ha=>(hi.A5 a.A5 Wc).fr
theorem oA{t:Nat}{m:Ah}(hi:Ak t m.s):∀a∈m.lo,∀g∈a.A5.Ap,Es m.s.ws g:=fun a ha=>(hi.A5 a.A5 VM).fr
theorem gT{t:Nat}{m:Ah}(hi:Ak t m.s):∀a∈m.fl,a.fs.length<100000000:=fun a ha=>by
 have:=(hi.A5 a.A5 Wc).len
 have e:a.A5.Ap.length=a.fs.length:=j' _;omega
theorem X5{t:Nat}{m:Ah}(hi:Ak t m.s)(ht:t<1000000):m.fl.length+m.lo.length<100000000:=by
 have h1:=hi.cnt;have h2:=hi.nx;have e1:m.s.BY.length=m.fl.length:=j' _;have e2:m.s.lost.length=m.lo.length:=j' _;omega
set_option maxHeartbeats 2000000 in
theorem pK(cb t:Nat)(m:Ah)(lost:EN→Bool)(f:FuncId)(us:List Value)(G0 R:HP)[AX Tryz.prog f](hm:m.ok)(hi:Ak t m.s)(ht:t<1000000)
  (hf0:∀(x':CC) (a:BS) (R':HP),x'.Bq=m.x.Bq→a∈m.fl→Fn Tryz.prog B f (N0 a::us) (AT cb x'*(G0*R')) (fun v H'=>v=.bool (lost a.A5)∧H'=AT cb x'*(G0*R'))):
  Fn Tryz.prog B 133 [ptr cb 0,DC f us] (Ac cb m*(G0*R)) (fun _ H'=>∃m':Ah,m'.ok∧m'.s=m.s.GY lost∧H'=Ac cb m'*(G0*R)):=by
 refine mI Tryz.func133 ?_;have hlen:=X5 hi ht
 have ex:({m.x with lv:=m.la.v m.lo.length}:CC)=m.x:=by rw [←hm.lv]
 refine MF ?_;rintro _ _ ⟨b2,rfl,rfl⟩;refine Mx ?_;rintro _ _ ⟨b3,rfl,rfl⟩;refine J2 ?_;refine Aq (H':=HP.AA b3 0 [DC f us]*(HP.AA b2 0 [ptr cb 0]*(AT cb m.x*(AH m.x.gq m.ga m.AO*(BG cb m.ws*(Bl cb m.rs*(AD m.fa.b m.fa.o m.fl m.fa.s*(AD m.la.b m.la.o m.lo m.la.s*(AM Az m.fl*(AM Az m.lo*(G0*R))))))))))) YG ?_;refine Dc (HP.AA b3 0 [DC f us]*HP.AA b2 0 [ptr cb 0]) 9 10 Dg rfl Ch ?_;refine Jd 0 ?_;refine Jd 1 ?_;refine L7 ?_;refine JT 5 rfl Gs ?_;refine Ec 4 Ch rfl rfl RQ (.inr inferInstance) ?_;refine VF (Jt cb m.x m.s.ws m.lo lost (G0*(HP.AA b3 0 [DC f us]*(HP.AA b2 0 [ptr cb 0]*AM Az m.fl))) []*(AD m.fa.b m.fa.o m.fl m.fa.s*(AH m.x.gq m.ga m.AO*(Bl cb m.rs*(AM Az m.lo*R))))) (hE:=⟨fun ww hw=>?_⟩) ?_
 ·refine I4 (⟨m.ws,m.la,m.lo⟩:OV) ⟨hm.ws,rfl,hm.la,Cl⟩ ?_ ww hw;dsimp only;rw [ex];unfold Ae.h;ac_rfl
 refine Al 6 Ch rfl rfl (BK rfl (U5 m.fl m.fa.p m.fa.b m.fa.o m.fa.c m.fa.s _ [ptr b3 0,ptr b2 0] (fun a=>lost a.A5) (Jt cb m.x m.s.ws m.lo lost (G0*(HP.AA b3 0 [DC f us]*(HP.AA b2 0 [ptr cb 0]*AM Az m.fl)))) (AH m.x.gq m.ga m.AO*(Bl cb m.rs*(AM Az m.lo*R))) hm.fa.1 hm.fa.2 Cg (ql cb m.x.AG b3 b2 m.x m.s.ws m.lo m.fl lost f us G0 hi.ws hm.fl (pX hi) Cg (gT hi) hf0))) ?_;rintro _ _ ⟨p10,b10,o10,c10,s10,rfl,hs10,hc10,rfl⟩;refine⟨.inr ⟨fun ww hw=>CE.get (B:=B) (H:=(G0*(HP.AA b3 0 [DC f us]*(HP.AA b2 0 [ptr cb 0]*AM Az m.fl)))*(AD b10 o10 (m.fl.filter (fun x=> !lost x.A5)) s10*(AH m.x.gq m.ga m.AO*(Bl cb m.rs*(AM Az m.lo*R))))) ww (F_ (ya Cv hw))⟩,?_⟩;refine FB (H':=Jt cb m.x m.s.ws m.lo lost (G0*(HP.AA b3 0 [DC f us]*(HP.AA b2 0 [ptr cb 0]*AM Az m.fl))) m.fl*(AD b10 o10 (m.fl.filter (fun x=> !lost x.A5)) s10*(AH m.x.gq m.ga m.AO*(Bl cb m.rs*(AM Az m.lo*R))))) Cm ?_;unfold Jt;refine Wf ?_;rintro⟨ws,la,lo⟩ ⟨hz1,hz2,hz3,hz4⟩;dsimp only at hz1 hz2 hz3 hz4⊢;refine Jn 7 ?_;refine Jf 8 ?_;refine D' 9 Ch rfl (EG (v:=.slice p10 (m.fl.filter (fun x=> !lost x.A5)).length c10) rfl rfl rfl trivial) ?_;refine Dw ?_
 obtain⟨m2,hm2⟩:∃m2:Ah,m2=⟨{m.x with lv:=la.v lo.length,fv:=.slice p10 (m.fl.filter (fun x=> !lost x.A5)).length c10},m.AO,m.ga,ws,m.rs,m.fl.filter (fun x=> !lost x.A5),lo,⟨p10,b10,o10,c10,s10⟩,la⟩:=Bg
 refine Kw (ts:=[]) (Ac cb m2*(G0*R)) (hE:=?_) rfl rfl ⟨m2,?_,?_,rfl⟩
 ·rw [hm2];refine⟨fun ww hw=>?_⟩;refine Sat.right (A:=HP.AA b2 0 [ptr cb 0]*HP.AA b3 0 [DC f us]) ?_;refine ya ?_ hw;congr 1;show _=HP.AA b2 0 [ptr cb 0]*HP.AA b3 0 [DC f us]*(AT cb {m.x with lv:=la.v lo.length,fv:=.slice p10 (m.fl.filter (fun x=> !lost x.A5)).length c10}*(AH m.x.gq m.ga m.AO*(BG cb ws*(Bl cb m.rs*(AD b10 o10 (m.fl.filter (fun x=> !lost x.A5)) s10*(AD la.b la.o lo la.s*(AM Az (m.fl.filter (fun x=> !lost x.A5))*AM Az lo))))))*(G0*R));rw [hz4,Kf,SG Az (fun a:BS=>lost a.A5) m.fl];unfold Ae.h;ac_rfl
 ·rw [hm2]
  exact⟨hm.g,hz1,hm.rs,fun a ha=>hm.fl a (p_.1 ha).1,fun a ha=>by
   rw [hz4]at ha
   rcases List.mem_append.1 ha with h|h
   ·exact hm.lo a h
   ·exact hm.fl a (p_.1 h).1,⟨hs10,hc10⟩,hz3,rfl,rfl⟩
 ·rw [hm2];unfold AL.GY Ah.s;dsimp only;have e1:=Tl m.fl lost;have e2:=Tl m.fl (fun p=> !lost p);rw [e1]at hz2;rw [hz2,e2,hz4,q_,e1];rfl
theorem cz(cb:Nat)(x:CC)(a:BS)(R:HP):
  Fn Tryz.prog B 134 [N0 a] (AT cb x*(HP.BQ*R)) (fun v H'=>v=.bool ((fun _:EN=>true) a.A5)∧H'=AT cb x*(HP.BQ*R)):=by
 refine mI Tryz.func134 ?_;refine J2 ?_;refine AV (DP (l:=CM a) rfl rfl) rfl ?_;rintro _ _ ⟨b1,rfl,rfl⟩;refine J9 ?_;exact mR [2] (AT cb x*(HP.BQ*R)) rfl rfl CO
theorem Ak.now{t:Nat}{c:AL}(h:Ak t c):Ak (t+1) {c with now:=c.now+1}:=
 {h.mono De with nw:=by have:=h.nw;show c.now+1≤t+1;omega,A5:=fun p hp=>let g:=h.A5 p hp;⟨g.num,Nat.le_succ_of_le g.at_,g.len,g.fr⟩}
theorem l5{l:List BS}{P:EN→Bool}{i:Nat}(hi:i<l.length)(h:P (l.getD i AB.AC).A5=true):(l.map (·.A5)).any P=true:=by
 rw [yh];exact⟨_,e_.2 ⟨l.getD i AB.AC,Ex hi,rfl⟩,h⟩
theorem uy{l:List BS}{P:EN→Bool}(h:∀j,j<l.length→P (l.getD j AB.AC).A5=false):(l.map (·.A5)).any P=false:=by
 rw [List.any_eq_false];intro p hp;obtain⟨a,ha,rfl⟩:=e_.1 hp;obtain⟨j,hj,rfl⟩:=xt ha
 have:=h j hj
 rw [a_,b_ hj,w_]at this;rw [this];simp
set_option maxHeartbeats 2000000 in
theorem zG(cb t:Nat)(m:Ah)(R:HP)(hm:m.ok)(hi:Ak t m.s)(ht:t<900000):
  Fn Tryz.prog B 91 [ptr cb 0] (Ac cb m*R) (fun _ H'=>∃m':Ah,m'.ok∧m'.s=m.s.tick∧H'=Ac cb m'*R):=by
 refine mI Tryz.func91 ?_;refine Aq (H':=AT cb m.x*(AH m.x.gq m.ga m.AO*(BG cb m.ws*(Bl cb m.rs*(AD m.fa.b m.fa.o m.fl m.fa.s*(AD m.la.b m.la.o m.lo m.la.s*(AM Az m.fl*(AM Az m.lo*R)))))))) YG ?_;have hcnt:=X5 hi Cg;have hnw:m.x.now≤t:=hi.nw;have hwt:m.x.waits≤8:=hi.wt;have hpw:2^m.x.waits≤2^8:=Nat.pow_le_pow_right Cg hwt
 obtain⟨m1,hm1⟩:∃m1:Ah,m1=m.CF {m.x with now:=m.x.now+1}:=Bg
 have hok1:m1.ok:=by rw [hm1];exact⟨hm.g,hm.ws,hm.rs,hm.fl,hm.lo,hm.fa,hm.la,hm.fv,hm.lv⟩
 have hs1:m1.s={m.s with now:=m.s.now+1}:=by rw [hm1];rfl
 have hi1:Ak (t+1) m1.s:=by rw [hs1];exact hi.now
 have hH1:∀R':HP,Ac cb m1*R'=AT cb {m.x with now:=m.x.now+1}*(AH m.x.gq m.ga m.AO*(BG cb m.ws*(Bl cb m.rs*(AD m.fa.b m.fa.o m.fl m.fa.s*(AD m.la.b m.la.o m.lo m.la.s*(AM Az m.fl*(AM Az m.lo*R'))))))):=by
  intro R';rw [hm1,Dd];show AT cb _*(AH m.x.gq m.ga m.AO*(BG cb m.ws*(Bl cb m.rs*(Di m*R'))))=_;unfold Di Ae.h;ac_rfl
 refine J6 ?_;refine JL ON ?_;refine By ?_;refine JL RQ ?_;refine Lm ?_;refine BL (α:=Nat) (fun i=>[(0,ptr cb 0),(14,.slice m.fa.p m.fl.length m.fa.c),(15,iN m.fl.length),(16,iN i)]) (fun i=>AT cb {m.x with now:=m.x.now+1}*(AH m.x.gq m.ga m.AO*(BG cb m.ws*(Bl cb m.rs*(AD m.fa.b m.fa.o m.fl m.fa.s*(AD m.la.b m.la.o m.lo m.la.s*(AM Az m.fl*(AM Az m.lo*R)))))))) (fun i=>i≤m.fl.length∧∀j,j<i→decide ((m.fl.getD j AB.AC).A5.at_+N4 m.s.waits≤m.s.now+1)=false) (fun i=>m.fl.length-i) 0 ⟨yc _,(fun j h=>absurd h TN)⟩ B4 rfl ?_;rintro i ⟨hi1',hi2'⟩;refine J6 ?_;refine mC (fun h17=>?_) (fun h17=>?_)
 ·skip
  have hat:(m.fl.getD i AB.AC).at_≤t:=by
   have hmem:m.fl.getD i AB.AC∈m.fl:=Ex h17
   have:=(hi.A5 _ (.inl (e_.2 ⟨_,hmem,rfl⟩))).at_
   exact Nat.le_trans this hi.nw
  refine J6 ?_;refine JL (FT rfl rfl hm.fa.1 Cg rfl) ?_;refine JL (Br (v':=N0 (m.fl.getD i AB.AC)) (I5 (xs:=m.fl) rfl inferInstance Cg) rfl) ?_;refine Me ?_;rintro _ _ ⟨b3,rfl,rfl⟩;refine Bv (GS rfl rfl Cn (AB.one (m.fl.getD i AB.AC))) ?_;refine G6 ?_;refine mA 14 14 ?_;refine O6 ?_;refine HB ?_;refine JT 6 rfl (TB (i:=4) (j:=m.x.waits) rfl rfl Cg) ?_;refine JT 7 rfl (Vq (j:=32) rfl rfl) ?_;refine JT 8 rfl IU ?_;refine P3 ?_;refine JT 13 rfl Ge ?_;refine EU ?_;refine mC (fun hexp=>?_) (fun hexp=>?_)
  ·skip
   have hexp:(m.fl.getD i AB.AC).at_+N4 m.s.waits≤m.s.now+1:=by
    have e1:4*2^m.x.waits%18446744073709551616=4*2^m.x.waits:=yi Cg;have h0:(m.fl.getD i AB.AC).at_+min (4*2^m.x.waits%18446744073709551616) 32≤m.x.now+1:=hexp;rw [e1]at h0;exact h0
   have hany:m.s.BY.any (fun p=>decide (p.at_+N4 m.s.waits≤m.s.now+1))=true:=l5 h17 (decide_eq_true hexp);refine J3 ?_;refine jL (Ac cb m1*(HP.BQ*R)) (hE:=by rw [HP.BA,hH1 R];infer_instance) ?_;refine mE rfl (pK cb (t+1) m1 (fun _=>true) _ [] HP.BQ R hok1 hi1 Cg (fun x a R2 _ _=>cz cb x a R2)) ?_;rintro _ _ ⟨m2,hok2,hs2,rfl⟩;refine J3 ?_;refine Aq (H':=AT cb m2.x*(AH m2.x.gq m2.ga m2.AO*(BG cb m2.ws*(Bl cb m2.rs*(Di m2*R))))) (by rw [HP.BA,Dd]) ?_
   have hw2:m2.x.waits=m.x.waits:=by
    have h1:m2.s.waits=m1.s.waits:=by rw [hs2];rfl
    have h2:m1.s.waits=m.s.waits:=by rw [hs1]
    exact h1.trans h2
   refine J6 ?_;refine JL ON ?_;refine JL (Vq (j:=8) rfl rfl) ?_;refine By ?_
   have ewr:m.s.tick={m2.s with waits:=min (m2.s.waits+1) 8}:=by
    unfold AL.tick;rw [if_pos hany,hs2,hs1];rfl
   refine mR [] (Ac cb (m2.CF {m2.x with waits:=min (m2.x.waits+1) 8})*R) (hE:=by rw [Dd];exact Il) rfl rfl ⟨m2.CF {m2.x with waits:=min (m2.x.waits+1) 8},⟨hok2.g,hok2.ws,hok2.rs,hok2.fl,hok2.lo,hok2.fa,hok2.la,hok2.fv,hok2.lv⟩,Cu,rfl⟩
  have hexp:¬((m.fl.getD i AB.AC).at_+N4 m.s.waits≤m.s.now+1):=by
   have e1:4*2^m.x.waits%18446744073709551616=4*2^m.x.waits:=yi Cg;have h0:¬(m.fl.getD i AB.AC).at_+min (4*2^m.x.waits%18446744073709551616) 32≤m.x.now+1:=hexp;rw [e1]at h0;exact h0
  refine Fb ?_;refine Au (AT cb {m.x with now:=m.x.now+1}*(AH m.x.gq m.ga m.AO*(BG cb m.ws*(Bl cb m.rs*(AD m.fa.b m.fa.o m.fl m.fa.s*(AD m.la.b m.la.o m.lo m.la.s*(AM Az m.fl*(AM Az m.lo*R)))))))) ?_;exact At (i+1) ⟨Cg,fun j hj=>by rcases yp j i with h|h;exact hi2' j h;obtain rfl:j=i:=Cg;exact decide_eq_false hexp⟩ Cg B4 rfl
 refine J4 ?_;have hno:m.s.BY.any (fun p=>decide (p.at_+N4 m.s.waits≤m.s.now+1))=false:=uy (fun j hj=>hi2' j Cg)
 have ewr:m.s.tick=m1.s:=by
  unfold AL.tick;rw [if_neg (by rw [hno];simp),hs1]
 exact Kw (ts:=[]) (Ac cb m1*R) (hE:=by rw [hH1 R];infer_instance) rfl rfl ⟨m1,hok1,ewr.symm,rfl⟩
end
section
variable{B:World}
theorem bg(l:List AP)(n:Nat):decide (∃r∈l,r.lo≤n∧n≤r.hi)=A8 l n:=by
 apply yb.2;simp [A8,yh]
theorem lj(r:AP)(bp number:Nat)(H:HP)[hb:Rd B H bp (0+0) (uN number) True]:
  Fn Tryz.prog B 214 [Iy r,ptr bp 0] H (fun v H'=>v=.bool (decide (r.lo≤number∧number≤r.hi))∧H'=H):=by
 refine mI Tryz.func214 ?_;refine J2 ?_;refine AV (DP (l:=[uN r.lo,uN r.hi]) rfl rfl) rfl ?_;rintro _ _ ⟨b2,rfl,rfl⟩;refine J9 ?_;refine JL Ge ?_;refine J1 ?_;refine CJ 9 rfl (fun hg1=>?_) (fun hg1=>?_)
 ·refine Ou ?_;refine J1 ?_;refine Hh ?_;refine JL Ge ?_;refine JP ?_;refine J4 ?_;refine mR [3] H rfl rfl ⟨?_,rfl⟩;refine OK ?_;congr 1;apply yb.2;simp only [decide_eq_true_eq,yr,r_,iff_true,iff_false,true_iff,false_iff,eq_self];omega
 refine N2 ?_;refine Ie ?_;refine Jq ?_;refine J4 ?_;refine mR [3] H rfl rfl ⟨?_,rfl⟩;refine OK ?_;congr 1;apply yb.2;simp only [decide_eq_true_eq,yr,r_,iff_true,iff_false,true_iff,false_iff,eq_self];omega
theorem S? (cb bc:Nat)(x:CC)(a:BS)(R:HP)(ha:a.number<4611686018427387904):
  Fn Tryz.prog B 215 [N0 a,ptr bc 0] (AT cb x*(HP.AA bc 0 [ptr cb 0]*R)) (fun v H'=>v=.bool (decide (a.A5.number+3≤x.Bq))∧H'=AT cb x*(HP.AA bc 0 [ptr cb 0]*R)):=by
 refine mI Tryz.func215 ?_;refine J2 ?_;refine AV (DP (l:=CM a) rfl rfl) rfl ?_;rintro _ _ ⟨b2,rfl,rfl⟩;refine J4 ?_;refine mA 9 9 ?_;refine Jf 0 ?_;refine Jd 1 ?_;refine JT 2 rfl (KM (j:=3) rfl rfl Cg) ?_;refine NY ?_;refine Jn 4 ?_;refine Jf 5 ?_;refine Jd 6 ?_;refine JT 7 rfl Ge ?_;refine Ja 8 ?_;refine C3 ?_;exact mR [3] (AT cb x*(HP.AA bc 0 [ptr cb 0]*R)) rfl rfl CO
structure x7(ws:List Bo)(ws0:List Ai)(l:List AP)(pre:List BS):Prop where
 PV:∀w∈ws,w.ok
 mw:ws.map (·.w)=(pre.map (·.A5)).foldl (Jy l) ws0
def H3(cb:Nat)(ws0:List Ai)(l:List AP)(K:HP)(pre:List BS):HP:=HP.ex fun ws:List Bo=>HP.pr (x7 ws ws0 l pre)*(BG cb ws*K)
def Ai.Ly(w:Ai)(inn:Bool)(f:AZ):Ai:=if inn=true∧f.kind=5∧f.data.size≠0 then
  {w with AF:=w.AF.add f.offset (f.offset+f.data.size-1),AJ:=w.AJ.add f.offset (f.offset+f.data.size-1)}else w
theorem my(w:Ai)(inn:Bool)(f:AZ):w.named inn f={w.Ly inn f with ended:=(w.Ly inn f).ended||(inn&&decide (f.kind=5)&&f.fin)}:=rfl
theorem Nl(s:ByteArray):(s≠⟨#[]⟩)↔s.size≠0:=by
 cases s with
 |mk d=>
  constructor
  ·intro h h2;have h3:d.size=0:=h2
   have h4:d= #[]:=by simpa using h3
   exact h (by rw [h4])
  ·intro h h2;cases h2;exact h rfl
set_option maxHeartbeats 4000000 in
theorem oL(cb AG bl bc:Nat)(ws0:List Ai)(L:List BS)(l:List AP)(lp:Option Addr)(lb lo lc:Nat)(K:HP)(hw0:Du AG ws0)(hlok:∀m∈L,m.ok)
  (hfr:∀m∈L,∀g∈m.A5.Ap,Es ws0 g)(hfl:∀m∈L,m.fs.length<100000000)(hfs:∀m∈L,AW B K m.a.b m.a.o m.fs)(hnm:∀m∈L,m.number<4611686018427387904)(hls:Sl lp lb lo l.length lc)(hll:l.length<100000000)
  [h1:Rd B K bl 0 (.slice lp l.length lc) True][h2:Rd B K bc 0 (ptr cb 0) True][h3:AW B K lb lo l]:
  S9 B 212 [ptr bl 0,ptr bc 0] L (fun m=>A8 l m.number) (H3 cb ws0 l K):=by
 intro pre fm R hpre;obtain⟨mm,hmm,hpre⟩:=hpre;have hmem:fm∈L:=l_ (i:=mm) (by rw [hpre];simp);have hsub:∀m∈pre,m∈L:=fun m hm=>l_ (i:=mm) (by rw [hpre];simp [hm]);have hfm:=hlok fm hmem;have hfl2:=hfl fm hmem;have hrd:=hfs fm hmem;have hnum:=hnm fm hmem;refine mI Tryz.func212 ?_;unfold H3;refine Nc ?_;rintro ws ⟨hz1,hz2⟩
 obtain⟨wo1,wo2,_⟩:=PB (AG:=AG) (l:=l) (pre.map (·.A5)) ws0 hw0 (fun p hp g hg=>by
  obtain⟨m,hm,rfl⟩:=e_.1 hp
  exact hfr m (hsub m hm) g hg)
 rw [←hz2]at wo1 wo2;refine Aq (H':=BG cb ws*(K*R)) Cm ?_;refine J2 ?_;refine AV (DP (l:=CM fm) rfl rfl) rfl ?_;rintro _ _ ⟨b3,rfl,rfl⟩;refine J6 ?_;refine JL Gs ?_;refine mE rfl (cj l lp lb lo lc _ [ptr b3 0] (fun r=>r.lo≤fm.number∧fm.number≤r.hi) _ hls Cg (fun r _=>lj r b3 fm.number _)) ?_;refine JR ?_;rw [bg]
 obtain⟨inn,hinn⟩:∃b:Bool,b=A8 l fm.number:=Bg
 rw [←hinn];refine J5 ?_;refine Aq (H':=BG cb ws*(K*(HP.AA b3 0 (CM fm)*R))) Cm ?_;refine J4 ?_;refine JL Xa ?_;refine J3 ?_
 refine BL (α:=Nat×List Bo) (fun z=>[(1,ptr bl 0),(2,ptr bc 0),(3,ptr b3 0),(5,.bool inn),(13,.slice fm.a.p fm.fs.length fm.a.c),(14,iN fm.fs.length),(15,iN z.1)]) (fun z=>BG cb z.2*(K*(HP.AA b3 0 (CM fm)*R))) (fun z=>z.1≤fm.fs.length∧(∀w∈z.2,w.ok)∧z.2.map (·.w)=((fm.fs.take z.1).map (·.f)).foldl (H5 inn) (ws.map (·.w))) (fun z=>fm.fs.length-z.1) (0,ws) ⟨yc _,hz1,rfl⟩ Hb rfl ?_
 rintro⟨i,wz⟩ ⟨q1,q2,q3⟩;dsimp only at q1 q2 q3⊢
 obtain⟨ag1,ag2,_⟩:=Wk (AG:=AG) (inn:=inn) ((fm.fs.take i).map (·.f)) (ws.map (·.w)) wo1 (fun g hg=>by
  obtain⟨rr,hrr,rfl⟩:=e_.1 hg
  exact(hfr fm hmem rr.f lM).same wo2)
 rw [←q3]at ag1 ag2
 have hwl:wz.length=4:=by have:=ag1.len;simpa using this
 refine J6 ?_;refine mC (fun h15=>?_) (fun h15=>?_)
 ·skip
  have hgd:fm.fs.getD i AB.AC=fm.fs[i]:=by rw [a_,b_ h15];rfl
  have hfo:Es (wz.map (·.w)) (fm.fs.getD i AB.AC).f:=by
   rw [hgd];exact((hfr fm hmem _ jE).same wo2).same ag2
  obtain⟨j,hst⟩:∃j:Nat,(fm.fs.getD i AB.AC).f.stream=(j:Int):=⟨_,(yd hfo.1).symm⟩
  have hj:j<4:=by have:=hfo.2.1;omega
  have hgw:(wz.map (·.w)).getD j BD=(wz.getD j AB.AC).w:=by
   simp only [a_,yg,b_ XG];rfl
  have hwj:=ag1.ok j hj;rw [hgw]at hwj;have hwok:=q2 _ (Ex (d:=AB.AC) XG);have hbl:=hwj.len;have hfo5:=hfo.2.2;rw [hst,v_,hgw]at hfo5;refine Aq (H':=HP.AA cb (0+43+j*10) (Bz (wz.getD j AB.AC))*(B6 (wz.getD j AB.AC)*(Cc cb wz j*(K*(HP.AA b3 0 (CM fm)*R))))) (by rw [K8 cb wz j Cg];ac_rfl) ?_;generalize hwm:wz.getD j AB.AC=wm at*;refine J6 ?_;refine JL (FT rfl rfl hfm.1 Cg rfl) ?_;refine JL (Br (v':=.agg (AI (fm.fs.getD i AB.AC)).toArray) dA rfl) ?_;refine AV O4 rfl ?_;rintro _ _ ⟨b7,rfl,rfl⟩;refine Bv (GS rfl rfl Cn (AB.one (fm.fs.getD i AB.AC))) ?_;refine G6 ?_;refine mA 7 7 ?_;refine Jd 0 ?_;refine S0 ?_;refine Ja 6 ?_;refine HN ?_
  refine BO (α:=Unit) (fun _=>[(35,.bool (decide (inn=true∧(fm.fs.getD i AB.AC).f.kind=5∧(fm.fs.getD i AB.AC).f.data.size≠0))),(7,ptr b7 0),(8,ptr cb (0+43+j*10)),(1,ptr bl 0),(2,ptr bc 0),(3,ptr b3 0),(5,.bool inn),(13,.slice fm.a.p fm.fs.length fm.a.c),(14,iN fm.fs.length),(15,iN i)]) (fun _=>HP.AA b7 0 (AI (fm.fs.getD i AB.AC))*(HP.AA cb (0+43+j*10) (Bz wm)*(B6 wm*(Cc cb wz j*(K*(HP.AA b3 0 (CM fm)*R)))))) (fun _=>True) ?_ ?_
  ·refine J3 ?_;refine CU 26 rfl (fun hg1=>?_) (fun hg1=>?_)
   ·have hb1:inn=true:=hg1;refine Im ?_;refine JL RG ?_;refine GO ?_;refine J1 ?_;refine CJ 31 rfl (fun hg2=>?_) (fun hg2=>?_)
    ·refine KV ?_;refine J1 ?_;refine JC ?_;refine JL (Va rfl rfl) ?_;refine JL FR ?_;refine J1 ?_;refine AU () trivial (.cons ?_ OT) rfl;refine FZ ?_;congr 2
     first
      |exact decide_eq_decide.2 ⟨fun h=>⟨hb1,hg2,(Nl _).1 h⟩,fun h=>(Nl _).2 h.2.2⟩
      |exact(decide_eq_false (fun h=>hg2 h.2.1)).symm
      |exact(decide_eq_false (fun h=>by rw [hb1]at h;cases h.1)).symm
    refine Mg ?_;refine JL FQ ?_;refine J1 ?_;refine AU () trivial (.cons ?_ OT) rfl;refine FZ ?_;congr 2
    first
     |exact decide_eq_decide.2 ⟨fun h=>⟨hb1,hg2,(Nl _).1 h⟩,fun h=>(Nl _).2 h.2.2⟩
     |exact(decide_eq_false (fun h=>hg2 h.2.1)).symm
     |exact(decide_eq_false (fun h=>by rw [hb1]at h;cases h.1)).symm
   have hb1:inn=false:=hg1;refine Fh ?_;refine NH ?_;refine Hc ?_;refine M' ?_;refine AU () trivial (.cons ?_ OT) rfl;refine FZ ?_;congr 2
   first
    |exact decide_eq_decide.2 ⟨fun h=>⟨hb1,hg2,(Nl _).1 h⟩,fun h=>(Nl _).2 h.2.2⟩
    |exact(decide_eq_false (fun h=>hg2 h.2.1)).symm
    |exact(decide_eq_false (fun h=>by rw [hb1]at h;cases h.1)).symm
  ·rintro _ _;refine J1 ?_;refine BO (α:=Bo) (fun _=>[(7,ptr b7 0),(8,ptr cb (0+43+j*10)),(1,ptr bl 0),(2,ptr bc 0),(3,ptr b3 0),(5,.bool inn),(13,.slice fm.a.p fm.fs.length fm.a.c),(14,iN fm.fs.length),(15,iN i)]) (fun w1=>HP.AA cb (0+43+j*10) (Bz w1)*(B6 w1*(Cc cb wz j*(HP.AA b7 0 (AI (fm.fs.getD i AB.AC))*(K*(HP.AA b3 0 (CM fm)*R)))))) (fun w1=>w1.ok∧w1.w=wm.w.Ly inn (fm.fs.getD i AB.AC).f) ?_ ?_
   ·refine mC (fun h35=>?_) (fun h35=>?_)
    ·skip
     have hnm1:wm.w.Ly inn (fm.fs.getD i AB.AC).f={wm.w with AF:=wm.w.AF.add (fm.fs.getD i AB.AC).f.offset ((fm.fs.getD i AB.AC).f.offset+(fm.fs.getD i AB.AC).f.data.size-1),AJ:=wm.w.AJ.add (fm.fs.getD i AB.AC).f.offset ((fm.fs.getD i AB.AC).f.offset+(fm.fs.getD i AB.AC).f.data.size-1)}:=by unfold Ai.Ly;rw [if_pos h35]
     have hb5:=hfo5 h35.2.1;have hsz:=h35.2.2;refine Aq (H':=AH wm.cq wm.ca wm.w.AF*(HP.AA cb (0+43+j*10) (Bz wm)*(AD wm.a.b wm.a.o wm.w.b wm.a.s*(AH wm.sq wm.sa wm.w.AJ*(Cc cb wz j*(HP.AA b7 0 (AI (fm.fs.getD i AB.AC))*(K*(HP.AA b3 0 (CM fm)*R)))))))) O2 ?_;refine J1 ?_;refine mA 14 15 ?_;refine MK ?_;refine HB ?_;refine iM ?_;refine Al 14 Ch rfl rfl (BK rfl (L0 wm.cq _ _ wm.w.b.length wm.ca wm.w.AF _ hwok.2.2 hwj.co Cg Cg (by rw [hwj.cm];omega) (by rw [hwj.cm];omega))) ?_;rintro _ _ ⟨a50,hs50,rfl⟩;refine DS ?_;refine EU ?_;refine Aq (H':=AH wm.sq wm.sa wm.w.AJ*(HP.AA cb (0+43+j*10) (Bz wm)*(AD wm.a.b wm.a.o wm.w.b wm.a.s*(AH wm.cq a50 (wm.w.AF.add (fm.fs.getD i AB.AC).f.offset ((fm.fs.getD i AB.AC).f.offset+(fm.fs.getD i AB.AC).f.data.size-1))*(Cc cb wz j*(HP.AA b7 0 (AI (fm.fs.getD i AB.AC))*(K*(HP.AA b3 0 (CM fm)*R)))))))) Cm ?_;refine mA 14 15 ?_;refine MK ?_;refine HB ?_
     refine iM ?_;refine Al 14 Ch rfl rfl (BK rfl (L0 wm.sq _ _ wm.w.b.length wm.sa wm.w.AJ _ hwok.2.1 hwj.so Cg Cg (by rw [hwj.sm];omega) (by rw [hwj.sm];omega))) ?_;rintro _ _ ⟨a65,hs65,rfl⟩;refine DS ?_;refine JD ?_;refine Au (HP.AA cb (0+43+j*10) (Bz {wm with w:=wm.w.Ly inn (fm.fs.getD i AB.AC).f,sa:=a65,ca:=a50})*(B6 {wm with w:=wm.w.Ly inn (fm.fs.getD i AB.AC).f,sa:=a65,ca:=a50}*(Cc cb wz j*(HP.AA b7 0 (AI (fm.fs.getD i AB.AC))*(K*(HP.AA b3 0 (CM fm)*R)))))) (hE:=?_) ?_
     ·refine⟨fun ww hw=>ya ?_ hw⟩;congr 1;unfold B6;dsimp only;rw [hnm1];show _=HP.AA cb (0+43+j*10) (Bz wm)*(AD wm.a.b wm.a.o wm.w.b wm.a.s*(AH wm.sq a65 (wm.w.AJ.add (fm.fs.getD i AB.AC).f.offset ((fm.fs.getD i AB.AC).f.offset+(fm.fs.getD i AB.AC).f.data.size-1))*AH wm.cq a50 (wm.w.AF.add (fm.fs.getD i AB.AC).f.offset ((fm.fs.getD i AB.AC).f.offset+(fm.fs.getD i AB.AC).f.data.size-1)))*(Cc cb wz j*(HP.AA b7 0 (AI (fm.fs.getD i AB.AC))*(K*(HP.AA b3 0 (CM fm)*R)))));ac_rfl
     exact AU _ ⟨by rw [hnm1];exact⟨hwok.1,hs65,hs50⟩,rfl⟩ OT rfl
    refine J1 ?_;exact AU wm ⟨hwok,by unfold Ai.Ly;rw [if_neg h35]⟩ OT (by show _=HP.AA cb (0+43+j*10) (Bz wm)*(B6 wm*(Cc cb wz j*(HP.AA b7 0 (AI (fm.fs.getD i AB.AC))*(K*(HP.AA b3 0 (CM fm)*R)))));ac_rfl)
   ·rintro w1 ⟨hw1,hw1e⟩;refine J1 ?_;refine BO (α:=Bo) (fun _=>[(1,ptr bl 0),(2,ptr bc 0),(3,ptr b3 0),(5,.bool inn),(13,.slice fm.a.p fm.fs.length fm.a.c),(14,iN fm.fs.length),(15,iN i)]) (fun w2=>HP.AA cb (0+43+j*10) (Bz w2)*(B6 w2*(Cc cb wz j*(HP.AA b7 0 (AI (fm.fs.getD i AB.AC))*(K*(HP.AA b3 0 (CM fm)*R)))))) (fun w2=>w2.ok∧w2.w=wm.w.named inn (fm.fs.getD i AB.AC).f) ?_ ?_
    ·refine J7 ?_;refine CU 71 rfl (fun hg3=>?_) (fun hg3=>?_)
     ·have he1:w1.w.ended=true:=hg3;refine Gr ?_;refine Gr ?_;refine PN ?_;refine IY ?_;refine Gr ?_;refine Gr ?_;refine PN ?_;refine Gr ?_;refine JL Jz ?_;refine J4 ?_
      obtain⟨e2,he2⟩:∃e:Bool,e=(w1.w.ended||(inn&&decide ((fm.fs.getD i AB.AC).f.kind=5)&&(fm.fs.getD i AB.AC).f.fin)):=Bg
      refine D8 (H':=HP.AA cb (0+43+j*10) (Bz {w1 with w:={w1.w with ended:=e2}})*(B6 {w1 with w:={w1.w with ended:=e2}}*(Cc cb wz j*(HP.AA b7 0 (AI (fm.fs.getD i AB.AC))*(K*(HP.AA b3 0 (CM fm)*R)))))) ?_ ?_
      ·refine Ts ?_;rw [he2];refine Rr ?_
       first
        |(rw [he1];rfl)
        |(rw [he1,hi9,decide_eq_true hk9];rfl)
        |(rw [he1,hi9,decide_eq_false hk9];rfl)
        |(rw [he1,hi9];rfl)
      exact UM
     have he1:w1.w.ended=false:=hg3;refine L5 ?_;refine L5 ?_;refine CU 73 rfl (fun hg4=>?_) (fun hg4=>?_)
     ·have hi9:inn=true:=hg4;refine W5 ?_;refine JL RG ?_;refine G2 ?_;refine JL Xk ?_;refine L5 ?_;refine CJ 78 rfl (fun hg5=>?_) (fun hg5=>?_)
      ·have hk9:(fm.fs.getD i AB.AC).f.kind=5:=hg5;refine V1 ?_;refine J1 ?_;refine G2 ?_;refine JL OA ?_;refine JL IV ?_;refine J4 ?_
       obtain⟨e2,he2⟩:∃e:Bool,e=(w1.w.ended||(inn&&decide ((fm.fs.getD i AB.AC).f.kind=5)&&(fm.fs.getD i AB.AC).f.fin)):=Bg
       refine D8 (H':=HP.AA cb (0+43+j*10) (Bz {w1 with w:={w1.w with ended:=e2}})*(B6 {w1 with w:={w1.w with ended:=e2}}*(Cc cb wz j*(HP.AA b7 0 (AI (fm.fs.getD i AB.AC))*(K*(HP.AA b3 0 (CM fm)*R)))))) ?_ ?_
       ·refine Ts ?_;rw [he2];refine Rr ?_
        first
         |(rw [he1];rfl)
         |(rw [he1,hi9,decide_eq_true hk9];rfl)
         |(rw [he1,hi9,decide_eq_false hk9];rfl)
         |(rw [he1,hi9];rfl)
       exact UM
      have hk9:¬(fm.fs.getD i AB.AC).f.kind=5:=hg5;refine JH F5 ?_;refine JH F5 ?_;refine G2 ?_;refine JL L6 ?_;refine JL IV ?_;refine J4 ?_
      obtain⟨e2,he2⟩:∃e:Bool,e=(w1.w.ended||(inn&&decide ((fm.fs.getD i AB.AC).f.kind=5)&&(fm.fs.getD i AB.AC).f.fin)):=Bg
      refine D8 (H':=HP.AA cb (0+43+j*10) (Bz {w1 with w:={w1.w with ended:=e2}})*(B6 {w1 with w:={w1.w with ended:=e2}}*(Cc cb wz j*(HP.AA b7 0 (AI (fm.fs.getD i AB.AC))*(K*(HP.AA b3 0 (CM fm)*R)))))) ?_ ?_
      ·refine Ts ?_;rw [he2];refine Rr ?_
       first
        |(rw [he1];rfl)
        |(rw [he1,hi9,decide_eq_true hk9];rfl)
        |(rw [he1,hi9,decide_eq_false hk9];rfl)
        |(rw [he1,hi9];rfl)
      exact UM
     have hi9:inn=false:=hg4;refine WN ?_;refine G2 ?_;refine JL TY ?_;refine L5 ?_;refine Ga ?_;refine Ga ?_;refine G2 ?_;refine JL GU ?_;refine JL IV ?_;refine J4 ?_
     obtain⟨e2,he2⟩:∃e:Bool,e=(w1.w.ended||(inn&&decide ((fm.fs.getD i AB.AC).f.kind=5)&&(fm.fs.getD i AB.AC).f.fin)):=Bg
     refine D8 (H':=HP.AA cb (0+43+j*10) (Bz {w1 with w:={w1.w with ended:=e2}})*(B6 {w1 with w:={w1.w with ended:=e2}}*(Cc cb wz j*(HP.AA b7 0 (AI (fm.fs.getD i AB.AC))*(K*(HP.AA b3 0 (CM fm)*R)))))) ?_ ?_
     ·refine Ts ?_;rw [he2];refine Rr ?_
      first
       |(rw [he1];rfl)
       |(rw [he1,hi9,decide_eq_true hk9];rfl)
       |(rw [he1,hi9,decide_eq_false hk9];rfl)
       |(rw [he1,hi9];rfl)
     exact UM
    ·rintro w2 ⟨hw2,hw2e⟩;refine J3 ?_;refine FO ?_;refine Au (BG cb (wz.set j w2)*(K*(HP.AA b3 0 (CM fm)*R))) (hE:=?_) ?_
     ·rw [Mq cb wz j w2 Cg];exact⟨fun ww hw=>Sat.right (A:=HP.AA b7 0 (AI (fm.fs.getD i AB.AC))) (ya Cv hw)⟩
     exact At (i+1,wz.set j w2) ⟨Cg,fun a ha=>JS (P:=Bo.ok) q2 hw2 ha,by
      show(wz.set j w2).map (·.w)=((fm.fs.take (i+1)).map (·.f)).foldl (H5 inn) (ws.map (·.w))
      rw [yq,hw2e,g' h15,q_,f_,←q3]
      show _=H5 inn (wz.map (·.w)) (fm.fs[i]).f
      rw [←hgd]
      unfold H5
      rw [hst,v_,hgw]⟩ pH Hb rfl
 refine CR ?_
 obtain rfl':i=fm.fs.length:=by omega
 rw [rfl',i_]at q3;exact mR [4] (H3 cb ws0 l K (pre++[fm])*R) (hE:=⟨fun ww hw=>Gh (G:=HP.AA b3 0 (CM fm)) wz ⟨q2,by rw [q_,f_,←hz2,q3,hinn];rfl⟩ (by show _=HP.AA b3 0 (CM fm)*(BG cb wz*K*R);ac_rfl) ww hw⟩) rfl rfl ⟨by rw [hinn];rfl,rfl⟩
theorem kD{cb:Nat}{ws0:List Ai}{l:List AP}{pre:List BS}{K R:HP}{w:World}(h:Sat B (H3 cb ws0 l K pre*R) w):Sat B (K*R) w:=by
 unfold H3 at h;rw [HP.HV]at h;obtain⟨z,h⟩:=Sat.ex.1 h;rw [HP.assoc]at h;have h2:=(Sat.pr.1 h).2;rw [HP.assoc]at h2;exact h2.right
theorem Xm{t:Nat}{m:Ah}(hi:Ak t m.s)(ht:t<1000000)(a:BS)(ha:a∈m.fl∨a∈m.lo):a.number<4611686018427387904:=by
 have h1:=hi.nx
 have h2:a.A5.number<m.s.next:=by
  rcases ha with ha|ha
  ·exact(hi.A5 a.A5 Wc).num
  ·exact(hi.A5 a.A5 VM).num
 have h3:a.number<m.s.next:=h2;omega
theorem m6{t:Nat}{m:Ah}(hi:Ak t m.s):∀a∈m.lo,a.fs.length<100000000:=fun a ha=>by
 have:=(hi.A5 a.A5 VM).len
 have e:a.A5.Ap.length=a.fs.length:=j' _;omega
set_option maxHeartbeats 4000000 in
theorem om(cb t:Nat)(m:Ah)(l:List AP)(lp:Option Addr)(lb lo lc:Nat)(R:HP)(hm:m.ok)(hi:Ak t m.s)(ht:t<1000000)(hls:Sl lp lb lo l.length lc)(hr:AW B R lb lo l)(hl0:0<l.length)(hll:l.length<100000000)(hhi:(rg l 0).hi<9000000000000000000):
  Fn Tryz.prog B 183 [ptr cb 0,.slice lp l.length lc] (Ac cb m*R)
   (fun v H'=>∃m':Ah,m'.ok∧m'.s=(m.s.Dj l).2∧v=iN (m.s.Dj l).1∧H'=Ac cb m'*R):=by
 refine mI Tryz.func183 ?_;have hlen:=X5 hi ht;refine MF ?_;rintro _ _ ⟨b2,rfl,rfl⟩;refine Mx ?_;rintro _ _ ⟨b3,rfl,rfl⟩;refine Kz ?_;refine Aq (H':=HP.AA b3 0 [.slice lp l.length lc]*(HP.AA b2 0 [ptr cb 0]*(AT cb m.x*(AH m.x.gq m.ga m.AO*(BG cb m.ws*(Bl cb m.rs*(AD m.fa.b m.fa.o m.fl m.fa.s*(AD m.la.b m.la.o m.lo m.la.s*(AM Az m.fl*(AM Az m.lo*R)))))))))) YG ?_;have hrR:=hr;refine mA 9 9 ?_;refine Jd 0 ?_;refine JT 1 rfl eT ?_;refine QX ?_;refine JT 3 rfl Z4 ?_;refine JW ?_;refine Jn 5 ?_;refine Hk ?_;refine Jd 7 ?_;refine JT 8 rfl MD ?_;refine EU ?_;refine mC (fun h15=>?_) (fun h15=>?_)
 ·have h15:m.s.next≤(rg l 0).hi:=h15;refine J2 ?_;refine JL Xj ?_;refine J4 ?_;refine mR [4] (Ac cb m*R) (hE:=?_) rfl rfl ⟨m,hm,by unfold AL.Dj;rw [if_pos h15],by unfold AL.Dj;rw [if_pos h15];rfl,rfl⟩;exact⟨fun ww hw=>Sat.right (A:=HP.AA b3 0 [.slice lp l.length lc]*HP.AA b2 0 [ptr cb 0]) (ya (by congr 1;unfold Ac Di Ae.h;ac_rfl) hw)⟩
 have h15:¬m.s.next≤(rg l 0).hi:=h15;refine J3 ?_;refine mA 12 13 ?_;refine L4 ?_;refine Jd 5 ?_;refine JT 6 rfl eT ?_;refine Jf 7 ?_;refine JT 8 rfl Z4 ?_;refine JT 9 rfl Ll ?_;refine SZ ?_;refine J3 ?_;refine JL Gs ?_;refine J4 ?_;refine Aq (H':=HP.AA b3 0 [.slice lp l.length lc]*(HP.AA b2 0 [ptr cb 0]*(AT cb {m.x with Bq:=max m.x.Bq (rg l 0).hi}*(AH m.x.gq m.ga m.AO*(BG cb m.ws*(Bl cb m.rs*(AD m.fa.b m.fa.o m.fl m.fa.s*(AD m.la.b m.la.o m.lo m.la.s*(AM Az m.fl*(AM Az m.lo*R)))))))))) (by first|ac_rfl|dsimp only) ?_;refine Dc (HP.AA b3 0 [.slice lp l.length lc]*(HP.AA b2 0 [ptr cb 0]*AT cb {m.x with Bq:=max m.x.Bq (rg l 0).hi})) 9 10 Dg rfl Ch ?_;refine Jd 0 ?_;refine Jd 1 ?_;refine L7 ?_;refine JT 4 rfl (Br D7 hm.lv) ?_;refine Jm 5 ?_
 refine VF (H3 cb m.s.ws l (HP.AA b3 0 [.slice lp l.length lc]*(HP.AA b2 0 [ptr cb 0]*(AM Az m.fl*(AM Az m.lo*R)))) []*(AD m.la.b m.la.o m.lo m.la.s*(AT cb {m.x with Bq:=max m.x.Bq (rg l 0).hi}*(AH m.x.gq m.ga m.AO*(Bl cb m.rs*AD m.fa.b m.fa.o m.fl m.fa.s))))) (hE:=⟨fun ww hw=>?_⟩) ?_
 ·exact I4 m.ws ⟨hm.ws,rfl⟩ Cm ww hw
 have hkl:∀a∈m.lo,AW B (HP.AA b3 0 [.slice lp l.length lc]*(HP.AA b2 0 [ptr cb 0]*(AM Az m.fl*(AM Az m.lo*R)))) a.a.b a.a.o a.fs:=fun a ha=>by have:=VH (B:=B) ha;infer_instance
 have hkf:∀a∈m.fl,AW B (HP.AA b3 0 [.slice lp l.length lc]*(HP.AA b2 0 [ptr cb 0]*(AM Az m.fl*(AM Az m.lo*R)))) a.a.b a.a.o a.fs:=fun a ha=>by have:=VH (B:=B) ha;infer_instance
 refine Al 6 Ch rfl rfl (BK rfl (U5 m.lo m.la.p m.la.b m.la.o m.la.c m.la.s _ [ptr b3 0,ptr b2 0] (fun a=>A8 l a.number) (H3 cb m.s.ws l (HP.AA b3 0 [.slice lp l.length lc]*(HP.AA b2 0 [ptr cb 0]*(AM Az m.fl*(AM Az m.lo*R))))) (AT cb {m.x with Bq:=max m.x.Bq (rg l 0).hi}*(AH m.x.gq m.ga m.AO*(Bl cb m.rs*AD m.fa.b m.fa.o m.fl m.fa.s))) hm.la.1 hm.la.2 Cg (oL cb m.x.AG b3 b2 m.s.ws m.lo l lp lb lo lc (HP.AA b3 0 [.slice lp l.length lc]*(HP.AA b2 0 [ptr cb 0]*(AM Az m.fl*(AM Az m.lo*R)))) hi.ws hm.lo (oA hi) (m6 hi) hkl (fun a ha=>Xm hi ht a (.inr ha)) hls hll))) ?_;rintro _ _ ⟨p35,b35,o35,c35,s35,rfl,hs35,hc35,rfl⟩;refine⟨.inr ⟨fun ww hw=>CE.get (B:=B) (H:=(HP.AA b3 0 [.slice lp l.length lc]*(HP.AA b2 0 [ptr cb 0]*(AM Az m.fl*(AM Az m.lo*R))))*(AD b35 o35 (m.lo.filter (fun x=> !A8 l x.number)) s35*(AT cb {m.x with Bq:=max m.x.Bq (rg l 0).hi}*(AH m.x.gq m.ga m.AO*(Bl cb m.rs*AD m.fa.b m.fa.o m.fl m.fa.s))))) ww (kD (ya Cv hw))⟩,?_⟩;refine FB (H':=H3 cb m.s.ws l (HP.AA b3 0 [.slice lp l.length lc]*(HP.AA b2 0 [ptr cb 0]*(AM Az m.fl*(AM Az m.lo*R)))) m.lo*(AD b35 o35 (m.lo.filter (fun x=> !A8 l x.number)) s35*(AT cb {m.x with Bq:=max m.x.Bq (rg l 0).hi}*(AH m.x.gq m.ga m.AO*(Bl cb m.rs*AD m.fa.b m.fa.o m.fl m.fa.s))))) Cm ?_;unfold H3;refine Wf ?_
 rintro ws1 ⟨hw1,hw1e⟩;refine Jn 7 ?_;refine Jf 8 ?_;refine D' 9 Ch rfl (EG (v:=.slice p35 (m.lo.filter (fun x=> !A8 l x.number)).length c35) rfl rfl rfl trivial) ?_;refine Lr ?_;refine Aq (H':=HP.AA b3 0 [.slice lp l.length lc]*(HP.AA b2 0 [ptr cb 0]*(AT cb {m.x with Bq:=max m.x.Bq (rg l 0).hi,lv:=.slice p35 (m.lo.filter (fun x=> !A8 l x.number)).length c35}*(AH m.x.gq m.ga m.AO*(BG cb ws1*(Bl cb m.rs*(AD m.fa.b m.fa.o m.fl m.fa.s*(AD b35 o35 (m.lo.filter (fun x=> !A8 l x.number)) s35*(AM Az m.fl*(AM Az m.lo*R)))))))))) Cm ?_;refine J4 ?_;refine JL RQ ?_;refine J6 ?_;refine Dc (HP.AA b3 0 [.slice lp l.length lc]*(HP.AA b2 0 [ptr cb 0]*AT cb {m.x with Bq:=max m.x.Bq (rg l 0).hi,lv:=.slice p35 (m.lo.filter (fun x=> !A8 l x.number)).length c35})) 9 10 Dg rfl Ch ?_;refine Jd 0 ?_;refine Jd 1 ?_;refine L7 ?_;refine JT 4 rfl RQ ?_;refine Jm 5 ?_
 refine VF (H3 cb (ws1.map (·.w)) l (HP.AA b3 0 [.slice lp l.length lc]*(HP.AA b2 0 [ptr cb 0]*(AM Az m.fl*(AM Az m.lo*R)))) []*(AD m.fa.b m.fa.o m.fl m.fa.s*(AT cb {m.x with Bq:=max m.x.Bq (rg l 0).hi,lv:=.slice p35 (m.lo.filter (fun x=> !A8 l x.number)).length c35}*(AH m.x.gq m.ga m.AO*(Bl cb m.rs*AD b35 o35 (m.lo.filter (fun x=> !A8 l x.number)) s35))))) (hE:=⟨fun ww hw=>?_⟩) ?_
 ·exact I4 ws1 ⟨hw1,rfl⟩ Cm ww hw
 obtain⟨n1,n2,_⟩:=PB (AG:=m.x.AG) (l:=l) (m.lo.map (·.A5)) m.s.ws hi.ws (fun p hp g hg=>by
  obtain⟨a,ha,rfl⟩:=e_.1 hp
  exact oA hi a ha g hg)
 rw [←hw1e]at n1 n2;refine Al 6 Ch rfl rfl (BK rfl (U5 m.fl m.fa.p m.fa.b m.fa.o m.fa.c m.fa.s _ [ptr b3 0,ptr b2 0] (fun a=>A8 l a.number) (H3 cb (ws1.map (·.w)) l (HP.AA b3 0 [.slice lp l.length lc]*(HP.AA b2 0 [ptr cb 0]*(AM Az m.fl*(AM Az m.lo*R))))) (AT cb {m.x with Bq:=max m.x.Bq (rg l 0).hi,lv:=.slice p35 (m.lo.filter (fun x=> !A8 l x.number)).length c35}*(AH m.x.gq m.ga m.AO*(Bl cb m.rs*AD b35 o35 (m.lo.filter (fun x=> !A8 l x.number)) s35))) hm.fa.1 hm.fa.2 Cg (oL cb m.x.AG b3 b2 (ws1.map (·.w)) m.fl l lp lb lo lc (HP.AA b3 0 [.slice lp l.length lc]*(HP.AA b2 0 [ptr cb 0]*(AM Az m.fl*(AM Az m.lo*R)))) n1 hm.fl (fun a ha g hg=>(pX hi a ha g hg).same n2) (gT hi) hkf (fun a ha=>Xm hi ht a (.inl ha)) hls hll))) ?_;rintro _ _ ⟨p49,b49,o49,c49,s49,rfl,hs49,hc49,rfl⟩;refine⟨.inr ⟨fun ww hw=>CE.get (B:=B) (H:=(HP.AA b3 0 [.slice lp l.length lc]*(HP.AA b2 0 [ptr cb 0]*(AM Az m.fl*(AM Az m.lo*R))))*(AD b49 o49 (m.fl.filter (fun x=> !A8 l x.number)) s49*(AT cb {m.x with Bq:=max m.x.Bq (rg l 0).hi,lv:=.slice p35 (m.lo.filter (fun x=> !A8 l x.number)).length c35}*(AH m.x.gq m.ga m.AO*(Bl cb m.rs*AD b35 o35 (m.lo.filter (fun x=> !A8 l x.number)) s35))))) ww (kD (ya Cv hw))⟩,?_⟩
 refine FB (H':=H3 cb (ws1.map (·.w)) l (HP.AA b3 0 [.slice lp l.length lc]*(HP.AA b2 0 [ptr cb 0]*(AM Az m.fl*(AM Az m.lo*R)))) m.fl*(AD b49 o49 (m.fl.filter (fun x=> !A8 l x.number)) s49*(AT cb {m.x with Bq:=max m.x.Bq (rg l 0).hi,lv:=.slice p35 (m.lo.filter (fun x=> !A8 l x.number)).length c35}*(AH m.x.gq m.ga m.AO*(Bl cb m.rs*AD b35 o35 (m.lo.filter (fun x=> !A8 l x.number)) s35))))) Cm ?_;unfold H3;refine Wf ?_;rintro ws2 ⟨hw2,hw2e⟩;refine Jn 7 ?_;refine Jf 8 ?_;refine D' 9 Ch rfl (EG (v:=.slice p49 (m.fl.filter (fun x=> !A8 l x.number)).length c49) rfl rfl rfl trivial) ?_;refine Dw ?_;refine J6 ?_;refine JL (Br (v':=.slice p49 (m.fl.filter (fun x=> !A8 l x.number)).length c49) D7 rfl) ?_;refine J5 ?_;refine BO (α:=Unit) (fun _=>[(2,ptr b2 0)]) (fun _=>AT cb {m.x with Bq:=max m.x.Bq (rg l 0).hi,lv:=.slice p35 (m.lo.filter (fun x=> !A8 l x.number)).length c35,fv:=.slice p49 (m.fl.filter (fun x=> !A8 l x.number)).length c49,waits:=if(m.fl.filter (fun x=> !A8 l x.number)).length<m.fl.length then 0 else m.x.waits}*(AH m.x.gq m.ga m.AO*(BG cb ws2*(Bl cb m.rs*(AD b49 o49 (m.fl.filter (fun x=> !A8 l x.number)) s49*(AD b35 o35 (m.lo.filter (fun x=> !A8 l x.number)) s35*(AM Az m.fl*(AM Az m.lo*(HP.AA b2 0 [ptr cb 0]*R))))))))) (fun _=>True) ?_ ?_
 ·refine mC (fun h58=>?_) (fun h58=>?_)
  ·refine J4 ?_;refine Bv (EG (v:=.int .u64 (0:Nat)) rfl rfl rfl Cj) ?_;refine Fq ?_;refine Au (AT cb {m.x with Bq:=max m.x.Bq (rg l 0).hi,lv:=.slice p35 (m.lo.filter (fun x=> !A8 l x.number)).length c35,fv:=.slice p49 (m.fl.filter (fun x=> !A8 l x.number)).length c49,waits:=if(m.fl.filter (fun x=> !A8 l x.number)).length<m.fl.length then 0 else m.x.waits}*(AH m.x.gq m.ga m.AO*(BG cb ws2*(Bl cb m.rs*(AD b49 o49 (m.fl.filter (fun x=> !A8 l x.number)) s49*(AD b35 o35 (m.lo.filter (fun x=> !A8 l x.number)) s35*(AM Az m.fl*(AM Az m.lo*(HP.AA b2 0 [ptr cb 0]*R))))))))) (hE:=⟨fun ww hw=>Sat.right (A:=HP.AA b3 0 [.slice lp l.length lc]) (ya (by congr 1;rw [if_pos h58];ac_rfl) hw)⟩) ?_;exact AU () trivial Ix rfl
  refine J1 ?_;refine Au (AT cb {m.x with Bq:=max m.x.Bq (rg l 0).hi,lv:=.slice p35 (m.lo.filter (fun x=> !A8 l x.number)).length c35,fv:=.slice p49 (m.fl.filter (fun x=> !A8 l x.number)).length c49,waits:=if(m.fl.filter (fun x=> !A8 l x.number)).length<m.fl.length then 0 else m.x.waits}*(AH m.x.gq m.ga m.AO*(BG cb ws2*(Bl cb m.rs*(AD b49 o49 (m.fl.filter (fun x=> !A8 l x.number)) s49*(AD b35 o35 (m.lo.filter (fun x=> !A8 l x.number)) s35*(AM Az m.fl*(AM Az m.lo*(HP.AA b2 0 [ptr cb 0]*R))))))))) (hE:=⟨fun ww hw=>Sat.right (A:=HP.AA b3 0 [.slice lp l.length lc]) (ya (by congr 1;rw [if_neg h58];ac_rfl) hw)⟩) ?_;exact AU () trivial Ix rfl
 ·rintro _ _;refine J2 ?_
  obtain⟨m2,hm2⟩:∃m2:Ah,m2=⟨{m.x with Bq:=max m.x.Bq (rg l 0).hi,lv:=.slice p35 (m.lo.filter (fun x=> !A8 l x.number)).length c35,fv:=.slice p49 (m.fl.filter (fun x=> !A8 l x.number)).length c49,waits:=if(m.fl.filter (fun x=> !A8 l x.number)).length<m.fl.length then 0 else m.x.waits},m.AO,m.ga,ws2,m.rs,m.fl.filter (fun x=> !A8 l x.number),m.lo.filter (fun x=> !A8 l x.number),⟨p49,b49,o49,c49,s49⟩,⟨p35,b35,o35,c35,s35⟩⟩:=Bg
  have hok2:m2.ok:=by
   rw [hm2];exact⟨hm.g,hw2,hm.rs,fun a ha=>hm.fl a (p_.1 ha).1,fun a ha=>hm.lo a (p_.1 ha).1,⟨hs49,hc49⟩,⟨hs35,hc35⟩,rfl,rfl⟩
  have e1:(m.fl.filter (fun x=> !A8 l x.number)).map (·.A5)=(m.fl.map (·.A5)).filter (fun p=> !A8 l p.number):=Tl m.fl (fun p=> !A8 l p.number);have e2:(m.lo.filter (fun x=> !A8 l x.number)).map (·.A5)=(m.lo.map (·.A5)).filter (fun p=> !A8 l p.number):=Tl m.lo (fun p=> !A8 l p.number)
  have hs2:m2.s=m.s.HF l:=by
   rw [hm2];unfold AL.HF Ah.s;dsimp only;rw [hw2e,hw1e,←e1,←e2,j',j'];rfl
  have hi2:Ak t m2.s:=by rw [hs2];exact(hi.HF l Cg).1
  refine Hs (Ac cb m2*(HP.AA b2 0 [ptr cb 0]*R)) (hE:=?_) ?_
  ·rw [hm2];refine⟨fun ww hw=>?_⟩;refine Sat.right (A:=AM Az (m.fl.filter (fun x=>A8 l x.number))*AM Az (m.lo.filter (fun x=>A8 l x.number))) ?_;refine ya ?_ hw;congr 1;unfold Ac Di Ae.h;dsimp only;rw [SG Az (fun a:BS=>A8 l a.number) m.fl,SG Az (fun a:BS=>A8 l a.number) m.lo];ac_rfl
  refine J2 ?_;refine JL Gs ?_;refine mE rfl (pK cb t m2 (fun p=>decide (p.number+3≤m2.x.Bq)) _ [ptr b2 0] (HP.AA b2 0 [ptr cb 0]) R hok2 hi2 ht (fun x a R2 hx ha=>by have:=S? (B:=B) cb b2 x a R2 (Xm hi2 ht a (.inl ha));rw [hx]at this;exact this)) ?_;rintro _ _ ⟨m3,hok3,hs3,rfl⟩;refine J4 ?_;refine CZ ?_
  have ewr:m.s.Dj l=(0,m3.s):=by
   unfold AL.Dj;rw [if_neg h15,hs3,←hs2];rfl
  exact mR [4] (Ac cb m3*R) (hE:=⟨fun ww hw=>Sat.right (A:=HP.AA b2 0 [ptr cb 0]) (ya Cv hw)⟩) rfl rfl ⟨m3,hok3,Cy,Cu,rfl⟩
end
section
section
variable{P:Program}{B:World}{n:Nat}{E:A6}{D:CK}{H R:HP}{d:Option Tmp}{T T' ty:TypeId}{pos:String}{af:Array Edge}{g:Option (Nat×Bool)}{x y z:Operand}
theorem ko{s:ByteArray}{h:Nat}{ik:IntKind}[hT:Ar P T .string](hx:ev E x=some (.string s))(hy:ev E y=some (.int ik h))(hh:h≤s.size):
  Aa P B n ⟨d,.slice T x none (some y) none,ty,pos,af,g⟩ E H (.string (s.extract 0 h)):=by
 intro a w he _;simp only [execOp,he.ev hx,yk,yl,he.ev hy,Instr.sliceAt,Instr.slice,Instr.sliceBounds,t_,Bx hT.get,g_,m_,G7 hh,yf,r_,if_false,pure_bind]
 try rfl
theorem lH{s:ByteArray}{l h:Nat}{ik jk:IntKind}[hT:Ar P T .string](hx:ev E x=some (.string s))(hy:ev E y=some (.int ik l))(hz:ev E z=some (.int jk h))(hh:l≤h∧h≤s.size):
  Aa P B n ⟨d,.slice T x (some y) (some z) none,ty,pos,af,g⟩ E H (.string (s.extract l h)):=by
 intro a w he _;simp only [execOp,he.ev hx,yk,yl,he.ev hy,he.ev hz,Instr.sliceAt,Instr.slice,Instr.sliceBounds,t_,Bx hT.get,g_,m_,G7 hh.1,G7 hh.2,yf,r_,if_false,pure_bind]
 try rfl
theorem bA(s:ByteArray)(l h:Nat):(s.extract l h).data.toList=(s.data.toList.take h).drop l:=by
 rw [ByteArray.data_extract,Array.toList_extract,xx,List.drop_take]
theorem Xe(xs:List UInt8)(l h:Nat):(BI xs).extract l h=BI ((xs.take h).drop l):=by
 have:=bA (BI xs) l h
 rw [←Ry ((BI xs).extract l h),this];simp [BI]
theorem J_{sT xT e b o dl dc k:Nat}{p:Option Addr}{s:ByteArray}{ys:List UInt8}{L:List Value}[hT:Ar P sT (.slice e)][hz:Bw P e 1]
  (hx:ev E x=some (.slice p dl dc))(hs:Sl p b (o+k*1) dl dc)(hy:ev E y=some (.string s))(hm:ys=s.data.toList.take (min s.size dl))
  (hl:k+dl≤L.length):
  C7 P B n ⟨d,.call ⟨.builtin .copy,#[x,y],#[sT,xT]⟩,ty,pos,af,g⟩ E D (HP.AA b o L*R)
   (fun v H'=>v=.int .i64 (ys.length:Nat)∧H'=HP.AA b o (L.take k++AE ys++L.drop (k+ys.length))*R):=by
 intro a w h1 _ h3 K Q hk
 have hyl:ys.length=min s.size dl:=by
  rw [hm,c_]
  have:s.data.toList.length=s.size:=rfl
  omega
 have hm2:Nat.min s.size dl=ys.length:=hyl.symm
 have hf:(Builtin.firstCells 1 ys.length (.string s)).run P w=.ok (AE ys).toArray w:=by
  simp only [Builtin.firstCells,m_];congr 1;apply Array.toList_inj.1;rw [Array.toList_map,ByteArray.data_extract,Array.toList_extract,xx,hyl];rw [hm];simp only [List.drop_zero,Nat.sub_zero];rw [kE];rfl
 have hw2:∃w',((match p with|some q=>storeCells q (AE ys)|none=>pure ()).run P w)=.ok () w'∧
   Sat B (HP.AA b o (L.take k++AE ys++L.drop (k+ys.length))*R) w':=by
  rcases hs.1 with h4|rfl
  ·have hd0:ys=[]:=List.length_eq_zero_iff.1 Cp;subst hd0;refine⟨w,?_,by simpa [AE]using h3⟩;cases p<;>simp [AE,storeCells]
  ·rw [U1 b o k L Cg,HP.assoc,HP.C8]at h3
   have hfl:(AE ys).length=ys.length:=by rw [CD];simp
   have hle:(AE ys).length≤(L.drop k).length:=by rw [hfl,x_];omega
   obtain⟨w',k1,k2⟩:=Sat.LM (P:=P) (AE ys) (o+k*1) 0 (L.drop k) _ w hle (Lw _) (by rw [yt];exact h3);refine⟨w',k1,?_⟩;rw [HP.C8,←HP.assoc,u_]at k2
   have e2:(L.take k).length=k:=by rw [c_];omega
   have e3:HP.AA b o (L.take k++AE ys++L.drop (k+ys.length))=HP.AA b o (L.take k)*HP.AA b (o+k) (AE ys++L.drop (k+(AE ys).length)):=by
    rw [k_,HP.Ft,e2,hfl]
   rw [e3];rw [yt]at k2
   first|exact k2|(rw [Nat.add_comm]at k2;exact k2)
 obtain⟨w',k1,k2⟩:=hw2
 have hrun:(execOp a.eval ⟨d,.call ⟨.builtin .copy,#[x,y],#[sT,xT]⟩,ty,pos,af,g⟩).run P w=.ok (.value (.int .i64 (ys.length:Nat))) w':=by
  simp only [execOp,resolve,List.map_toArray,List.map_cons,List.map_nil,h1.ev hx,h1.ev hy,t_,m_,g_,invoke,builtin];simp only [Builtin.copy_];simp only [List.getElem?_toArray,List.getElem?_cons_zero,List.getElem?_cons_succ,Bx hT.get,Builtin.lenOf,t_,m_,g_,hm2,hz.get,hf,pure_bind,goInt]
  cases p with
  |none=>simp only [m_]at k1;cases k1;rfl
  |some q=>simp only [t_,k1,g_];rfl
 simp only [Oper.wp,hrun,Oper.upon];exact hk _ _ _ CO k2
theorem oY{k:IntKind}{i j:Int}(hx:ev E x=some (.int k i))(hy:ev E y=some (.int k j)):Aa P B n ⟨d,.call ⟨.builtin .max,#[x,y],#[T,T']⟩,ty,pos,af,g⟩ E H (.int k (if i<j then j else i)):=by
 intro a w he _;simp [execOp,he.ev hx,he.ev hy,resolve,invoke,builtin,Builtin.max_,Builtin.max2]
theorem yF{e sz:Nat}[hT:Ar P T (.slice e)][hz:Bw P e sz]:
  C7 P B n ⟨d,.buildSlice T 0 #[],ty,pos,af,g⟩ E D H (fun v H'=>∃b,v=.slice (some ⟨b,0,none⟩) 0 0∧H'=AD b 0 ([]:List UInt8) []*H):=by
 intro a w h1 _ h3 K Q hk
 have hrun:(execOp a.eval ⟨d,.buildSlice T 0 #[],ty,pos,af,g⟩).run P w=.ok (.value (.slice (some ⟨w.heap.size,0,none⟩) 0 0)) (w.alloc (.cells #[] e)):=by
  simp [execOp,Instr.buildSlice,Bx hT.get,hz.get,Instr.fill,newRow]
  have:Array.map (fun _=>(default:Value)) (Array.range 0)= #[]:=by simp
  rw [this]
 simp only [Oper.wp,hrun,Oper.upon];refine hk _ _ _ ⟨w.heap.size,rfl,rfl⟩ ?_
 have:=h3.alloc #[] e
 rw [FI,HP.BA];exact this.right
end
end
end Go.Proofs.YtgfdlpcdjklcoaaGreatDoor
