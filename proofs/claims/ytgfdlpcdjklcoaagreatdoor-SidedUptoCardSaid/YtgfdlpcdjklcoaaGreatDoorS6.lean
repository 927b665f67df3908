/- A part of this proof: steps of the program, plain facts; no condition. -/
import Derived.Test.YtgfdlpcdjklcoaaGreatDoorS5
import Derived.LaidEql
import Derived.Stop.Asserts
namespace Go.Proofs.YtgfdlpcdjklcoaaGreatDoor
open Go Go.RowKit
open _root_.List renaming getD_eq_getElem?_getD→a_,getElem?_eq_getElem→b_,length_append→g_,set_eq_take_append_cons_drop→g',nil_append→h_,length_take→k_,length_cons→l_,take_zero→m_,getElem_of_mem→n_,drop_succ_cons→o_,getElem?_map→q_,getElem_mem→q',cons_append→s_,drop_one→u_,map_set→w_,range→xr
open _root_.Int renaming toNat_natCast→c_
open _root_.Go.Result renaming andThen→d_
open _root_.Prod renaming snd→e_
open _root_.Nat renaming eq_or_lt_of_le→f_,add_sub_cancel→j_,zero_lt_succ→r_,zero_le→t_,lt_or_ge→v_,blt→xt
open _root_.Bool renaming eq_iff_iff→i_,false_eq_true→j',true_eq→p_
set_option linter.unusedVariables false
set_option linter.unusedSimpArgs false
set_option maxRecDepth 20000
section
variable{B:World}
theorem IT(r:AP)(rs:List AP)(i:Nat):rg (r::rs) (i+1)=rg rs i:=by simp [rg]
theorem K'(r:AP)(rs:List AP):rg (r::rs) 0=r:=by simp [rg]
theorem QK:∀(l:List AP),DQ l→∀i j,i<j→j<l.length→(rg l i).hi+1<(rg l j).lo
 |[],_,i,j,_,h=>by simp at h
 |r::rs,⟨h1,h2,h3⟩,i,j,hij,hj=>by
  obtain⟨j,rfl⟩:∃k,j=k+1:=⟨j-1,Cg⟩
  rw [IT]
  have hj':j<rs.length:=by simpa using hj
  cases i with
  |zero=>rw [K'];exact IQ (P:=fun s=>r.hi+1<s.lo) h2 j hj'
  |succ i=>rw [IT];exact QK rs h3 i j Cg hj'
theorem M5:∀(l:List AP),DQ l→∀i,i<l.length→(rg l i).lo≤(rg l i).hi
 |[],_,i,h=>by simp at h
 |r::rs,⟨h1,h2,h3⟩,i,hi=>by
  cases i with
  |zero=>rw [K'];exact h1
  |succ i=>rw [IT];exact M5 rs h3 i (by simpa using hi)
theorem xE(l:List AP)(n:Nat):A3 n l↔∃i,i<l.length∧(rg l i).lo≤n∧n≤(rg l i).hi:=by
 constructor
 ·rintro⟨r,hr,h⟩;obtain⟨i,hi,rfl⟩:=n_ hr;refine⟨i,hi,?_⟩;unfold rg;rw [a_,b_ hi];exact h
 ·rintro⟨i,hi,h⟩;refine⟨rg l i,?_,h⟩;unfold rg;rw [a_,b_ hi];exact q' hi
theorem xK{l:List AP}{n k:Nat}(hI:DQ l)(hk:k≤l.length)(h1:∀i,i<k→¬n≤(rg l i).hi)(h2:∀i,k≤i→i<l.length→n≤(rg l i).hi):A3 n l↔k<l.length∧(rg l k).lo≤n:=by
 rw [xE];constructor
 ·rintro⟨i,hi,h3,h4⟩
  have hki:k≤i:=by
   rcases v_ i k with h|h
   ·exact absurd h4 (h1 i h)
   ·exact h
  rcases f_ hki with rfl|h5
  ·exact⟨hi,h3⟩
  ·have:=QK l hI k i h5 hi
   have:=h2 k D3 Cg
   omega
 ·rintro⟨h3,h4⟩;exact⟨k,h3,h4,h2 k D3 h3⟩
theorem Vt:∀(l:List AP) (lo hi fr to:Nat),DQ l→lo≤hi→fr≤l.length→to≤l.length→(∀i,i<fr→¬lo≤(rg l i).hi+1)→(∀i,fr≤i→i<l.length→lo≤(rg l i).hi+1)→
  (∀i,i<to→¬hi+1<(rg l i).lo)→(∀i,to≤i→i<l.length→hi+1<(rg l i).lo)→
  fr≤to∧BW lo hi l=l.take fr++⟨if fr<to then min lo (rg l fr).lo else lo,if fr<to then max hi (rg l (to-1)).hi else hi⟩::l.drop to
 |[],lo,hi,fr,to,_,_,hf,ht,_,_,_,_=>by
  obtain rfl:fr=0:=by simpa using hf
  obtain rfl:to=0:=by simpa using ht
  simp [BW]
 |r::rs,lo,hi,fr,to,⟨g1,g2,g3⟩,hl,hf,ht,f1,f2,t1,t2=>by
  cases fr with
  |zero=>
   have a1:=f2 0 D3 Cl;rw [K']at a1
   cases to with
   |zero=>
    have a2:=t2 0 D3 Cl;rw [K']at a2;refine⟨Nat.le_refl _,?_⟩;rw [BW,if_neg Cg,if_pos a2];simp
   |succ t=>
    have a2:=t1 0 Cg;rw [K']at a2
    have ht':t≤rs.length:=by simpa using ht
    obtain⟨_,e⟩:=Vt rs (min lo r.lo) (max hi r.hi) 0 t g3 Cg C9 ht' (fun i h=>by omega) (fun i _ h=>by have h5:r.hi+1<(rg rs i).lo:=IQ (P:=fun s=>r.hi+1<s.lo) g2 i h;have:=M5 rs g3 i h;omega) (fun i h h5=>by have:=t1 (i+1) Cg;rw [IT]at this;omega) (fun i h1 h=>by have h5:r.hi+1<(rg rs i).lo:=IQ (P:=fun s=>r.hi+1<s.lo) g2 i h;have:=t2 (i+1) Cg RW;rw [IT]at this;omega)
    refine⟨t_ _,?_⟩;rw [BW,if_neg Cg,if_neg a2,e];simp only [m_,h_,o_,r_,if_true,j_,K'];congr 2
    ·split
     ·rename_i h0;have h5:r.hi+1<(rg rs 0).lo:=IQ (P:=fun s=>r.hi+1<s.lo) g2 0 Cg;omega
     ·rfl
    ·cases t with
     |zero=>simp [K']
     |succ t=>
      rw [IT];simp only [r_,if_true,j_];have h5:r.hi+1<(rg rs t).lo:=IQ (P:=fun s=>r.hi+1<s.lo) g2 t Cg
      have:=M5 rs g3 t Cg
      omega
  |succ f=>
   have a1:=f1 0 Cg;rw [K']at a1
   have hf':f≤rs.length:=by simpa using hf
   cases to with
   |zero=>
    have a2:=t2 0 D3 Cl;rw [K']at a2;omega
   |succ t=>
    have ht':t≤rs.length:=by simpa using ht
    obtain⟨e0,e⟩:=Vt rs lo hi f t g3 hl hf' ht' (fun i h=>by have:=f1 (i+1) Cg;rwa [IT]at this) (fun i h1 h=>by have:=f2 (i+1) Cg RW;rwa [IT]at this) (fun i h=>by have:=t1 (i+1) Cg;rwa [IT]at this) (fun i h1 h=>by have:=t2 (i+1) Cg RW;rwa [IT]at this)
    refine⟨Cg,?_⟩;rw [BW,if_pos Cg,e];simp only [List.take_succ_cons,s_,o_,IT,Nat.add_lt_add_iff_right,j_];congr 3;split
    ·obtain⟨t',rfl⟩:∃k,t=k+1:=⟨t-1,Cg⟩
     rw [IT];simp
    ·rfl
abbrev Bi:B9:=⟨none,0,0,0,[]⟩
theorem Lz(AN:Nat):Bi.ok (.of AN):=⟨DG,rfl⟩
theorem nV(AN:Nat)(H:HP)(hm:1≤AN):
  Fn Tryz.prog B 76 [iN AN] H (fun v H'=>∃q,v=ptr q 0∧H'=AH q Bi (.of AN)*H):=by
 refine mI Tryz.func76 ?_;refine J8 ?_;refine JL (rF (j:=1) rfl rfl) ?_;refine JL (E7 (cs:=[.slice none 0 0,uN 0,iN (max AN 1)]) rfl rfl rfl Ck) ?_;refine AV (DP (l:=[.slice none 0 0,uN 0,iN (max AN 1)]) rfl rfl) rfl ?_;rintro _ _ ⟨b6,rfl,rfl⟩;refine J4 ?_;exact mr [2] rfl rfl ⟨b6,rfl,by unfold AH;rw [show max AN 1=AN by omega];show _=HP.AA b6 0 _*AD 0 0 ([]:List AP) []*H;rw [FI,HP.Gb];rfl⟩
theorem Ra(q lo hi m:Nat)(a:B9)(z:BH)(H:HP)[hz:Fd B H q a z](hs:a.ok z)(ho:C2 z m)(hm:m≤4611686018427387904)(hlen:z.l.length<100000):
  Fn Tryz.prog B 147 [ptr q 0,uN lo,uN hi] H (fun v H'=>v=.tuple #[uN (AR lo hi z.l).1,uN (AR lo hi z.l).2]∧H'=H):=by
 have:=hz.l
 have:=hz.r
 have:=hz.f
 have hsl:=hs.1;refine mI Tryz.func147 ?_;refine Jc ?_;refine Fz ?_;refine By ?_;refine Hy ?_
 refine BL (α:=Nat×Nat) (fun z'=>[(1,uN z'.1),(2,uN hi),(13,.slice a.p z.l.length a.c),(14,iN z.l.length),(15,iN z'.2)]) (fun _=>H) (fun z'=>z'.2≤z.l.length∧AR lo hi z.l=AR z'.1 hi (z.l.drop z'.2)) (fun z'=>z.l.length-z'.2) (lo,0) ⟨t_ _,rfl⟩ GE rfl ?_
 rintro z' ⟨hi1,hinv⟩;refine J6 ?_;refine mC (fun h16=>?_) (fun h16=>?_)
 ·skip
  have FF:z.l.drop z'.2=rg z.l z'.2::z.l.drop (z'.2+1):=by
   unfold rg;rw [a_,b_ h16];exact List.drop_eq_getElem_cons h16
  have hbh:(rg z.l z'.2).hi<m:=IQ (P:=fun r=>r.hi<m) ho.hi z'.2 h16;refine J6 ?_;refine JL LV ?_;refine JL (OD rfl inferInstance Cg) ?_;refine LD ?_;rintro _ _ ⟨b9,rfl,rfl⟩;refine Fi ?_;refine BV ?_;refine mC (fun h22=>?_) (fun h22=>?_)
  ·refine Fu ?_;refine Au H ?_
   first
    |exact At (z'.1,z'.2+1) ⟨Cg,pM⟩ Tu GE rfl
    |exact At ((rg z.l z'.2).hi+1,z'.2+1) ⟨Cg,Yv⟩ Tu GE rfl
  refine J8 ?_;refine Hv ?_;refine mC (fun h26=>?_) (fun h26=>?_)
  ·refine J1 ?_;refine mA 7 7 ?_;refine EQ ?_;refine QX ?_;refine NY ?_;refine JT 4 rfl P' ?_;refine Ja 5 ?_;refine Ja 6 ?_;refine JD ?_;refine J8 ?_;exact mR [6,7] H rfl rfl ⟨by rw [hinv,FF,AR,if_neg h22,if_pos h26];rfl,rfl⟩
  refine J5 ?_;refine JL ON ?_;refine Fu ?_;refine Au H ?_
  first
   |exact At (z'.1,z'.2+1) ⟨Cg,pM⟩ Tu GE rfl
   |exact At ((rg z.l z'.2).hi+1,z'.2+1) ⟨Cg,Yv⟩ Tu GE rfl
 refine FL ?_;exact mR [6,7] H rfl rfl ⟨by rw [hinv,List.drop_eq_nil_of_le Cg,AR];rfl,rfl⟩
theorem tV(q n m:Nat)(a:B9)(z:BH)(H:HP)[hz:Fd B H q a z](hs:a.ok z)(ho:C2 z m)(hlen:z.l.length<100000):
  Fn Tryz.prog B 143 [ptr q 0,uN n] H (fun v H'=>v=.bool (decide (z.has n))∧H'=H):=by
 have:=hz.l
 have:=hz.r
 have:=hz.f
 have hsl:=hs.1;refine mI Tryz.func143 ?_;refine MF ?_;rintro _ _ ⟨b2,rfl,rfl⟩;refine Mx ?_;rintro _ _ ⟨b3,rfl,rfl⟩;refine By ?_;refine JL Gs ?_;refine mE rfl (W0 z.l.length _ [ptr b2 0,ptr b3 0] (fun i=>n≤(rg z.l i).hi) _ Cg (fun i j hij hj h=>by rcases f_ hij with rfl|hlt;exact h;have h5:=QK z.l ho.inc i j hlt hj;have h6:=M5 z.l ho.inc j hj;show n≤(rg z.l j).hi;have h7:n≤(rg z.l i).hi:=h;omega) (fun i hi=>uY b2 b3 q n i a z _ hs hi)) ?_;rintro _ _ ⟨k,rfl,hk1,hk2,hk3,rfl⟩;have hhas:=xK ho.inc hk1 hk2 hk3;refine J4 ?_;refine mA 28 28 ?_;refine L4 ?_;refine JT 5 rfl MI ?_;refine Jm 6 ?_;refine DM 19 rfl (fun hg1=>?_) (fun hg1=>?_)
 ·refine JN 7 rfl T1 ?_;refine JN 8 rfl T1 ?_;refine JN 9 rfl T1 ?_;refine JN 10 rfl T1 ?_;refine iA ?_;refine JU 15 ?_;refine JU 16 ?_;refine JU 17 ?_;refine JU 18 ?_;refine JU 19 ?_;refine JU 20 ?_;refine JU 21 ?_;refine JU 22 ?_;refine JU 23 ?_;refine JU 24 ?_;refine JN 25 rfl T1 ?_;refine JT 26 rfl LC ?_;refine Ja 27 ?_;refine C3 ?_;refine mR [4] H rfl rfl ⟨?_,rfl⟩;refine OK ?_;congr 1;apply i_.2;simp only [decide_eq_true_eq,p_,j',iff_true,iff_false,true_iff,false_iff,eq_self,BH.has,hhas];omega
 refine JY 7 rfl F1 A4 ?_;refine JY 8 rfl F1 Bb ?_;refine JY 9 rfl F1 CP ?_;refine JY 10 rfl F1 A7 ?_;refine JY 11 rfl F1 Bb ?_;refine JY 12 rfl F1 Dm ?_;refine JY 13 rfl F1 MI ?_;refine JY 14 rfl F1 A4 ?_;refine DM 27 rfl (fun hg2=>?_) (fun hg2=>?_)
 ·refine JY 15 rfl T2 Bb ?_;refine JY 16 rfl T2 CP ?_;refine JY 17 rfl T2 A7 ?_;refine JY 18 rfl T2 Bb ?_;refine JY 19 rfl T2 A4 ?_;refine JY 20 rfl T2 LV ?_;refine JY 21 rfl T2 A7 ?_;refine JY 22 rfl T2 Xy ?_;refine JY 23 rfl T2 Bb ?_;refine JY 24 rfl T2 Ge ?_;refine JY 25 rfl F1 FR ?_;refine JT 26 rfl Jl ?_;refine Ja 27 ?_;refine C3 ?_;refine mR [4] H rfl rfl ⟨?_,rfl⟩;refine OK ?_;congr 1;apply i_.2;simp only [decide_eq_true_eq,p_,j',iff_true,iff_false,true_iff,false_iff,eq_self,BH.has,hhas];omega
 refine V6 ?_;refine JN 21 rfl F2 ?_;refine JN 22 rfl F2 ?_;refine JN 23 rfl F2 ?_;refine JN 24 rfl F2 ?_;refine JY 25 rfl F1 FQ ?_;refine JT 26 rfl Jl ?_;refine Ja 27 ?_;refine C3 ?_;refine mR [4] H rfl rfl ⟨?_,rfl⟩;refine OK ?_;congr 1;apply i_.2;simp only [decide_eq_true_eq,p_,j',iff_true,iff_false,true_iff,false_iff,eq_self,BH.has,hhas];omega
instance rd_setL{B:World}{H:HP}(q:Nat)(a:B9)(z:BH)[h:Fd B H q a z]:Rd B H q 0 (.slice a.p z.l.length a.c) True:=h.l
instance rd_setL0{B:World}{H:HP}(q:Nat)(a:B9)(z:BH)[h:Fd B H q a z]:Rd B H q (0+0) (.slice a.p z.l.length a.c) True:=h.l
instance rd_setF{B:World}{H:HP}(q:Nat)(a:B9)(z:BH)[h:Fd B H q a z]:Rd B H q (0+1) (uN z.floor) True:=h.f
theorem L0(q lo hi m:Nat)(a:B9)(z:BH)(R:HP)(hs:a.ok z)(ho:C2 z m)(hm:m≤4611686018427387904)(hhi:hi<m)(h1:1≤z.AN)(hmost:z.AN<50000):
  Fn Tryz.prog B 145 [ptr q 0,uN lo,uN hi] (AH q a z*R) (fun _ H'=>∃a':B9,a'.ok (z.add lo hi)∧H'=AH q a' (z.add lo hi)*R):=by
 have hsl:=hs.1;have hzl:=ho.len;refine mI Tryz.func145 ?_;refine MF ?_;rintro _ _ ⟨b3,rfl,rfl⟩;refine Mx ?_;rintro _ _ ⟨b4,rfl,rfl⟩;refine Mx ?_;rintro _ _ ⟨b5,rfl,rfl⟩;refine J3 ?_;refine mA 6 7 ?_;refine L4 ?_;refine JT 5 rfl Ll ?_;refine D' 6 Ch rfl Fm ?_;refine Dw ?_;refine J6 ?_;refine Hv ?_;refine mC (fun h17=>?_) (fun h17=>?_)
 ·refine J2 ?_;exact mR [] (AH q a z*R) rfl rfl ⟨a,by unfold BH.add;rw [if_pos h17];exact hs,by unfold BH.add;rw [if_pos h17]⟩
 refine J9 ?_;refine JL Gs ?_;refine mE rfl (W0 z.l.length _ [ptr b3 0,ptr b4 0] (fun i=>max lo z.floor≤(rg z.l i).hi+1) _ Cg (fun i j hij hj h=>by rcases f_ hij with rfl|hlt;exact h;have h5:=QK z.l ho.inc i j hlt hj;have h6:=M5 z.l ho.inc j hj;show max lo z.floor≤(rg z.l j).hi+1;have h7:max lo z.floor≤(rg z.l i).hi+1:=h;omega) (fun i hi=>l8 b3 b4 q (max lo z.floor) i a z _ hs hi Cg)) ?_;rintro _ _ ⟨fr,rfl,hf1,hf2,hf3,rfl⟩;refine By ?_;refine JL Gs ?_;refine mE rfl (W0 z.l.length _ [ptr b3 0,ptr b5 0] (fun i=>hi+1<(rg z.l i).lo) _ Cg (fun i j hij hj h=>by rcases f_ hij with rfl|hlt;exact h;have h5:=QK z.l ho.inc i j hlt hj;have h6:=M5 z.l ho.inc i Cg;show hi+1<(rg z.l j).lo;have h7:hi+1<(rg z.l i).lo:=h;omega) (fun i hi2=>rx b3 b5 q hi i a z _ hs hi2 (by have h5:(rg z.l i).hi<m:=IQ (P:=fun s=>s.hi<m) ho.hi i hi2;have:=M5 z.l ho.inc i hi2;omega))) ?_;rintro _ _ ⟨to,rfl,ht1,ht2,ht3,rfl⟩;obtain⟨hft,hadd⟩:=Vt z.l (max lo z.floor) hi fr to ho.inc Cg hf1 ht1 hf2 hf3 ht2 ht3
 obtain⟨r,hr⟩:∃r:AP,r=⟨if fr<to then min (max lo z.floor) (rg z.l fr).lo else max lo z.floor,if fr<to then max hi (rg z.l (to-1)).hi else hi⟩:=Bg
 rw [←hr]at hadd
 have hnl:(z.l.take fr++r::z.l.drop to).length≤z.l.length+1:=by rw [g_,k_,l_,List.length_drop];omega
 have hok2:=ho.add lo hi hhi h1;refine J7 ?_;refine JL (E7 (cs:=[uN (max lo z.floor),uN hi]) rfl rfl rfl Ck) ?_;refine LD ?_;rintro _ _ ⟨b8,rfl,rfl⟩;refine Fi ?_;refine By ?_;refine mC (fun h37=>?_) (fun h37=>?_)
 ·refine Aq (H':=HP.AA b8 0 [uN (max lo z.floor),uN hi]*(HP.AA q 0 [.slice a.p z.l.length a.c,uN z.floor,iN z.AN]*(AD a.b a.o z.l a.s*(HP.AA b5 0 [uN hi]*(HP.AA b4 0 [uN (max lo z.floor)]*(HP.AA b3 0 [ptr q 0]*R)))))) (by unfold AH;ac_rfl) ?_;refine Dc (HP.AA q 0 [.slice a.p z.l.length a.c,uN z.floor,iN z.AN]*(AD a.b a.o z.l a.s*(HP.AA b5 0 [uN hi]*(HP.AA b4 0 [uN (max lo z.floor)]*(HP.AA b3 0 [ptr q 0]*R))))) 24 25 Dg rfl Ch ?_;refine L4 ?_;refine Jm 5 ?_;refine JT 6 rfl LV ?_;refine Jf 7 ?_;refine JT 8 rfl (H6 (xs:=z.l) rfl inferInstance Cg) ?_;refine JT 9 rfl P' ?_;refine Jd 10 ?_;refine Jd 11 ?_;refine Jn 12 ?_;refine Jf 13 ?_;refine Jd 14 ?_;refine Jm 15 ?_;refine JT 16 rfl LZ ?_;refine JT 17 rfl LV ?_;refine Jf 18 ?_;refine JT 19 rfl (HO (xs:=z.l) rfl inferInstance Cg) ?_;refine JT 20 rfl Ll ?_;refine Jf 21 ?_;refine D' 22 Ch rfl Fm ?_;refine Gj ?_;refine Jf 23 ?_;refine D' 24 Ch rfl Fm ?_;refine Lr ?_
  refine qZ ?_;rintro _ _ ⟨b69,rfl,hne,rfl⟩;refine BF ?_
  refine Al 9 Ch rfl rfl fT ?_;rintro _ _ ⟨p70,b70,o70,c70,s70,rfl,hs70,hc70,rfl⟩;refine BF ?_;refine SZ ?_;refine J2 ?_;refine nM ?_;refine JD ?_
  refine J1 ?_;refine mC (fun h82=>?_) (fun h82=>?_)
  ·skip
   have hpos:0<(z.l.take fr++r::z.l.drop to).length:=by rw [g_,l_];omega
   refine Yj ?_
   refine Ln 8 rfl Ch rfl (KM (j:=1) rfl rfl (by
  have h5:∀s∈BW (max lo z.floor) hi z.l,s.hi≤m:=KZ z.l _ hi m Cg (fun s hs=>by have:=ho.hi s hs;omega)
  rw [hadd]at h5
  have h6:(rg (z.l.take fr++r::z.l.drop to) 0).hi≤m:=IQ (P:=fun s=>s.hi≤m) h5 0 hpos
  omega)) ?_
   refine sW ?_;rintro _ _ ⟨p99,b99,o99,c99,s99,rfl,hs99,hc99,rfl⟩;refine BF ?_;refine Jn 6 ?_;refine Jf 7 ?_;refine D' 8 Ch rfl Fm ?_
   refine Dw ?_
   have hz1:z.add lo hi=⟨(z.l.take fr++r::z.l.drop to).tail,(rg (z.l.take fr++r::z.l.drop to) 0).hi+1,z.AN⟩:=by
    unfold BH.add;rw [if_neg Cg,hadd,if_pos h82];congr 2;unfold rg;cases(z.l.take fr++r::z.l.drop to)<;>rfl
   have e99:(z.l.take fr++r::z.l.drop to).take 0++(z.l.take fr++r::z.l.drop to).drop 1=(z.l.take fr++r::z.l.drop to).tail:=by rw [m_,h_,u_]
   rw [e99]at hs99 hc99⊢;refine D8 (H':=HP.AA q 0 [.slice p99 (z.l.take fr++r::z.l.drop to).tail.length c99,uN ((rg (z.l.take fr++r::z.l.drop to) 0).hi+1),iN z.AN]*(AD b99 o99 (z.l.take fr++r::z.l.drop to).tail s99*(HP.AA b8 0 [uN r.lo,uN r.hi]*(HP.AA b5 0 [uN hi]*(HP.AA b4 0 [uN (max lo z.floor)]*(HP.AA b3 0 [ptr q 0]*R)))))) Cm ?_;refine Kw (ts:=[]) (AH q ⟨p99,b99,o99,c99,s99⟩ (z.add lo hi)*R) (hE:=?_) rfl rfl ⟨⟨p99,b99,o99,c99,s99⟩,mH,rfl⟩;rw [hz1];unfold AH;infer_instance
  refine J1 ?_
  have hz1:z.add lo hi=⟨z.l.take fr++r::z.l.drop to,z.floor,z.AN⟩:=by
   unfold BH.add;rw [if_neg Cg,hadd,if_neg h82]
  refine Kw (ts:=[]) (AH q ⟨p70,b70,o70,c70,s70⟩ (z.add lo hi)*R) (hE:=?_) rfl rfl ⟨⟨p70,b70,o70,c70,s70⟩,qI,rfl⟩;rw [hz1];unfold AH;infer_instance
 refine J3 ?_;refine qZ ?_;rintro _ _ ⟨b69,rfl,hne,rfl⟩;refine BF ?_
 refine Al 9 Ch rfl rfl fT ?_;rintro _ _ ⟨p70,b70,o70,c70,s70,rfl,hs70,hc70,rfl⟩;refine BF ?_;refine SZ ?_;refine J2 ?_;refine nM ?_;refine JD ?_
 refine J1 ?_;refine mC (fun h82=>?_) (fun h82=>?_)
 ·skip
  have hpos:0<(z.l.take fr++r::z.l.drop to).length:=by rw [g_,l_];omega
  refine Yj ?_
  refine Ln 8 rfl Ch rfl (KM (j:=1) rfl rfl (by
  have h5:∀s∈BW (max lo z.floor) hi z.l,s.hi≤m:=KZ z.l _ hi m Cg (fun s hs=>by have:=ho.hi s hs;omega)
  rw [hadd]at h5
  have h6:(rg (z.l.take fr++r::z.l.drop to) 0).hi≤m:=IQ (P:=fun s=>s.hi≤m) h5 0 hpos
  omega)) ?_
  refine sW ?_;rintro _ _ ⟨p99,b99,o99,c99,s99,rfl,hs99,hc99,rfl⟩;refine BF ?_;refine Jn 6 ?_;refine Jf 7 ?_;refine D' 8 Ch rfl Fm ?_
  refine Dw ?_
  have hz1:z.add lo hi=⟨(z.l.take fr++r::z.l.drop to).tail,(rg (z.l.take fr++r::z.l.drop to) 0).hi+1,z.AN⟩:=by
   unfold BH.add;rw [if_neg Cg,hadd,if_pos h82];congr 2;unfold rg;cases(z.l.take fr++r::z.l.drop to)<;>rfl
  have e99:(z.l.take fr++r::z.l.drop to).take 0++(z.l.take fr++r::z.l.drop to).drop 1=(z.l.take fr++r::z.l.drop to).tail:=by rw [m_,h_,u_]
  rw [e99]at hs99 hc99⊢;refine D8 (H':=HP.AA q 0 [.slice p99 (z.l.take fr++r::z.l.drop to).tail.length c99,uN ((rg (z.l.take fr++r::z.l.drop to) 0).hi+1),iN z.AN]*(AD b99 o99 (z.l.take fr++r::z.l.drop to).tail s99*(HP.AA b8 0 [uN r.lo,uN r.hi]*(HP.AA b5 0 [uN hi]*(HP.AA b4 0 [uN (max lo z.floor)]*(HP.AA b3 0 [ptr q 0]*R)))))) Cm ?_;refine Kw (ts:=[]) (AH q ⟨p99,b99,o99,c99,s99⟩ (z.add lo hi)*R) (hE:=?_) rfl rfl ⟨⟨p99,b99,o99,c99,s99⟩,mH,rfl⟩;rw [hz1];unfold AH;infer_instance
 refine J1 ?_
 have hz1:z.add lo hi=⟨z.l.take fr++r::z.l.drop to,z.floor,z.AN⟩:=by
  unfold BH.add;rw [if_neg Cg,hadd,if_neg h82]
 refine Kw (ts:=[]) (AH q ⟨p70,b70,o70,c70,s70⟩ (z.add lo hi)*R) (hE:=?_) rfl rfl ⟨⟨p70,b70,o70,c70,s70⟩,qI,rfl⟩;rw [hz1];unfold AH;infer_instance
end
section
def oP(P:Program)(B:World){α:Type}(gf:FuncId)(lb:List Value)(Am enc2:α→Value)(S Sp G:List α→Prop)(F F':HP):Prop:=
 ∀(l:Nat) (J Jx:List α→HP),(∀pre x R,Sp (pre++[x])→Yn P B l [Am x,enc2 x] (J pre*R) (fun v H'=>∃g:Bool,v=.bool g∧(g=true→G (pre++[x]))∧H'=(bif g then J (pre++[x])else Jx (pre++[x]))*R))→
  Fn P B gf (.func (.yield l) #[] #[]::lb) (J []*F) (fun _ H'=>(∃xs,S xs∧H'=J xs*F')∨∃pre,Sp pre∧H'=Jx pre*F')
def gP:Option Nat→Exit
 |some id=>.exit id
 |none=>.ret
def ET:Option Nat→Code
 |some id=>.exit id
 |none=>.ret
def T9(B:World)(n:Nat)(E:Nat→A6)(H:Nat→HP):Exit→Act→World→Prop
 | .normal,a,w=>∃y,DR n (E y) a∧a.defers=[]∧Sat B (H y) w
 |_,_,_=>False
instance{B:World}{n:Nat}{E:Nat→A6}{H:Nat→HP}:PQ (T9 B n E H):=⟨fun _ _ _ _ _ h=>h,fun _ _ h=>h⟩
def Py(B:World)(Gp:Prop)(H:HP)(HX:Option Nat→HP):Exit→Act→World→Prop
 | .normal,_,w=>Gp∧Sat B H w
 | .exit id,_,w=>Sat B (HX (some id)) w
 | .ret,_,w=>Sat B (HX none) w
 |_,_,_=>False
instance{B:World}{Gp:Prop}{H:HP}{HX:Option Nat→HP}:PQ (Py B Gp H HX):=⟨fun _ _ _ _ _ h=>h,fun _ _ h=>h⟩
section
variable{P:Program}{B:World}{n:Nat}{E:A6}{D:CK}{H:HP}{Q:Exit→Act→World→Prop}
theorem TP{E':Nat→A6}{r:Option Nat}{H':Nat→HP}(y:Nat)(s:Sub E (E' y))(e:H=H' y):BT B (T9 B n E' H') .normal n E ⟨[],r⟩ H:=fun _ _ h1 h2 h3=>⟨y,h1.sub s,h2,e▸h3⟩
theorem V3{r:Option Nat}{fn:Func}{Post:Value→HP→Prop}{ts:List Nat}{vs:List Value}(ms:List Nat)(H':HP)(hr:fn.results=(ts.map ResultVar.tmp).toArray)(hv:Dk E (ts.map Operand.tmp)=some vs)
  (hp:Post (Fk vs) H')(e:H=ms.foldr (fun d H=>HP.obj d (.deferred (some []))*H) H'):BT B (Qy P B fn Post) .normal n E ⟨ms.map Ii,r⟩ H:=by
 intro a w h1 h2 h3;show LeavesInM _ _ _ _ _ _ _ _ _;rw [h2]
 exact WB ms w H' (e▸h3) fun w' hw'=>⟨_,LK hr h1 hv w',_,_,rfl,hp,hw'⟩
theorem Gm{Gp:Prop}{H':HP}{HX:Option Nat→HP}(g:Gp)(e:∀w,Sat B H w→Sat B H' w):BT B (Py B Gp H' HX) .normal n E D H:=fun _ w _ _ h3=>⟨g,e w h3⟩
theorem fc{Gp:Prop}{H':HP}{HX:Option Nat→HP}(e:∀w,Sat B H w→Sat B (HX none) w):BT B (Py B Gp H' HX) .ret n E D H:=fun a w _ _ h3=>e w h3
theorem f6{α:Type}{gf:FuncId}{lb:List Value}{p p2:Nat}{g:Operand}{assign body:Code}[hok:AX P gf]
  (Am enc2:α→Value)(S Sp G:List α→Prop)(J:List α→HP)(Jx:Option Nat→List α→HP)(F F':HP)(EA:Nat→α→A6)(HA:Nat→α→HP)
  (hg:ev E g=some (.func (.func gf) #[] lb.toArray))(hp:xt p n=true)(hp2:xt p2 n=true)(hr:D.r=none)(hH:∀w,Sat B H w→Sat B (J []*F) w)(hit:oP P B gf lb Am enc2 S Sp G F F')
  (hasg:∀pre x l R,WP P B assign (T9 B n (fun y=>EA y x) (fun y=>HA y x*(J pre*R))) n ((p2,enc2 x)::(p,Am x)::E) ⟨[],some l⟩ (J pre*R))
  (hbody:∀y pre x l R,Sp (pre++[x])→WP P B body (Py B (G (pre++[x])) (J (pre++[x])*R) (fun id=>Jx id (pre++[x])*R)) n (EA y x) ⟨[],some l⟩ (HA y x*(J pre*R)))
  (hdone:∀d xs,S xs→BT B Q .normal n E ⟨Ii d::D.ds,none⟩ (J xs*(HP.obj d (.deferred (some []))*F')))
  (hstop:∀d pre id,Sp pre→BT B Q (gP id) n E ⟨Ii d::D.ds,none⟩ (Jx id pre*(HP.obj d (.deferred (some []))*F'))):
  WP P B (.rangeFunc g #[p,p2] assign body) Q n E D H:=by
 intro a w h1 h2 h3;rw [hr];refine wpIn_rangeFunc fun fn _=>?_;have h3:=hH w h3
 let rec_:LoopState→Option Code→Obj:=fun st pe=>.loop {state:=st,pending:=pe,fn,tmps:=a.tmps,params:= #[p,p2],assign,body,defers:=w.heap.size}
 let l:=w.heap.size+1
 have hl1:Sat B (HP.obj l (rec_ .ready none)*(HP.obj w.heap.size (.deferred (some []))*(J []*F))) ((w.alloc (.deferred (some []))).alloc (rec_ .ready none)):=by
  have:=(h3.Nj (.deferred (some [])) Cl).Nj (rec_ .ready none) HQ
  rwa [World.P9]at this
 let J':List α→HP:=fun pre=>J pre*(HP.obj w.heap.size (.deferred (some []))*HP.obj l (rec_ .ready none))
 let Jx':List α→HP:=fun pre=>HP.ex fun id=>Jx id pre*(HP.obj w.heap.size (.deferred (some []))*HP.obj l (rec_ .done (some (ET id))))
 have hY:∀pre x R,Sp (pre++[x])→Yn P B l [Am x,enc2 x] (J' pre*R) (fun v H'=>∃g:Bool,v=.bool g∧(g=true→G (pre++[x]))∧H'=(bif g then J' (pre++[x])else Jx' (pre++[x]))*R):=by
  intro pre x R hsp W hW
  have e1:J' pre*R=HP.obj l (rec_ .ready none)*(J pre*(HP.obj w.heap.size (.deferred (some []))*R)):=by
   show J pre*(_*_)*R=_;ac_rfl
  rw [e1]at hW;obtain⟨hW1,_,_⟩:=hW.Ev;refine⟨fn,_,assign,body,run_yield hW1 rfl,?_⟩;refine roundIn_of_wpIn trivial ?_
  have hE:DR n ((p2,enc2 x)::(p,Am x)::E) {tmps:=((#[p,p2]:Array Nat).zip [Am x,enc2 x].toArray).foldl (fun t (p,v)=>t.setIfInBounds p v) a.tmps,defers:=[]}:=by
   have h5:=(h1.put (t:=p) (by simpa using hp) (Am x)).put (t:=p2) (by simpa using hp2) (enc2 x)
   have e:((#[p,p2]:Array Nat).zip [Am x,enc2 x].toArray).foldl (fun t (p,v)=>t.setIfInBounds p v) a.tmps=(a.tmps.setIfInBounds p (Am x)).setIfInBounds p2 (enc2 x):=by
    have e0:(#[p,p2]:Array Nat).zip [Am x,enc2 x].toArray= #[(p,Am x),(p2,enc2 x)]:=by simp [Array.zip]
    rw [e0];simp
   rw [e];exact h5
  have e2:HP.obj l (rec_ .ready none)*(J pre*(HP.obj w.heap.size (.deferred (some []))*R))=J pre*(HP.obj l (rec_ .ready none)*(HP.obj w.heap.size (.deferred (some []))*R)):=by ac_rfl
  refine dW ?_;intro e a1 w1 hq
  cases e with
  |normal=>
   obtain⟨y,k1,k2,k3⟩:=hq;dsimp only at k1 k3;rw [show HA y x*(J pre*(HP.obj l (rec_ .ready none)*(HP.obj w.heap.size (.deferred (some []))*R)))=HP.obj l (rec_ .ready none)*(HA y x*(J pre*(HP.obj w.heap.size (.deferred (some []))*R))) by ac_rfl]at k3;obtain⟨hb1,_,_⟩:=k3.Ev;refine⟨_,run_beginRound hb1 rfl,?_⟩;have k4:=k3.Fj (y:=rec_ .busy none) HQ
   have e3:HP.obj l (rec_ .busy none)*(HA y x*(J pre*(HP.obj w.heap.size (.deferred (some []))*R)))=HA y x*(J pre*(HP.obj l (rec_ .busy none)*(HP.obj w.heap.size (.deferred (some []))*R))):=by ac_rfl
   rw [e3]at k4;refine wpIn_mono (hbody y pre x l _ hsp a1 _ k1 k2 k4) ?_;intro e a2 w2 hq
   cases e with
   |normal=>
    obtain⟨hG,hq⟩:=hq;have hq':Sat B (J (pre++[x])*(HP.obj l (rec_ .busy none)*(HP.obj w.heap.size (.deferred (some []))*R))) w2:=hq;rw [HP.C8]at hq';obtain⟨hb2,_,_⟩:=hq'.Ev;refine eI ?_
    have:=hq'.Fj (y:=rec_ .ready none) HQ
    show Sat B (J (pre++[x])*(_*_)*R) _
    have e4:J (pre++[x])*(HP.obj w.heap.size (.deferred (some []))*HP.obj l (rec_ .ready none))*R=HP.obj l (rec_ .ready none)*(J (pre++[x])*(HP.obj w.heap.size (.deferred (some []))*R)):=by ac_rfl
    rw [e4];exact this
   |exit id0=>
    obtain⟨id,hid⟩:∃id:Option Nat,id=some id0:=Bg
    have hq':Sat B (Jx (some id0) (pre++[x])*(HP.obj l (rec_ .busy none)*(HP.obj w.heap.size (.deferred (some []))*R))) w2:=hq;rw [HP.C8]at hq';obtain⟨hb2,_,_⟩:=hq'.Ev;refine fA ?_
    have:=hq'.Fj (y:=rec_ .done (some (ET (some id0)))) HQ
    show Sat B (HP.ex _*R) _;rw [HP.HV];refine Sat.ex.2 ⟨some id0,?_⟩
    have e4:Jx (some id0) (pre++[x])*(HP.obj w.heap.size (.deferred (some []))*HP.obj l (rec_ .done (some (ET (some id0)))))*R=HP.obj l (rec_ .done (some (ET (some id0))))*(Jx (some id0) (pre++[x])*(HP.obj w.heap.size (.deferred (some []))*R)):=by ac_rfl
    rw [e4];exact this
   |ret=>
    have hq':Sat B (Jx none (pre++[x])*(HP.obj l (rec_ .busy none)*(HP.obj w.heap.size (.deferred (some []))*R))) w2:=hq;rw [HP.C8]at hq';obtain⟨hb2,_,_⟩:=hq'.Ev;refine gD ?_
    have:=hq'.Fj (y:=rec_ .done (some (ET none))) HQ
    show Sat B (HP.ex _*R) _;rw [HP.HV];refine Sat.ex.2 ⟨none,?_⟩
    have e4:Jx none (pre++[x])*(HP.obj w.heap.size (.deferred (some []))*HP.obj l (rec_ .done (some (ET none))))*R=HP.obj l (rec_ .done (some (ET none)))*(Jx none (pre++[x])*(HP.obj w.heap.size (.deferred (some []))*R)):=by ac_rfl
    rw [e4];exact this
   |goto t=>exact hq.elim
   |panic ch=>exact hq.elim
   |outgrown=>exact hq.elim
  |exit id=>exact hq.elim
  |goto t=>exact hq.elim
  |ret=>exact hq.elim
  |panic ch=>exact hq.elim
  |outgrown=>exact hq.elim
 have hcall:=hit l J' Jx' hY _ (by
  have e5:J' []*F=HP.obj l (rec_ .ready none)*(HP.obj w.heap.size (.deferred (some []))*(J []*F)):=by
   show J []*(_*_)*F=_
   ac_rfl
  rw [e5];exact hl1)
 let W1:World:=(w.alloc (.deferred (some []))).alloc (rec_ .ready none)
 refine⟨l,[Ii w.heap.size],W1,{target:=.fn (.func gf) lb.toArray,args:= #[.func (.yield l) #[] #[]]},W1,gf,(.func (.yield l) #[] #[]::lb).toArray,W1,run_enterLoop_outer _ _ _ _ _,?_,fun f' _=>(show(fr none).fn f' from trivial),?_,fun h0=>by simp [fr,Fence.wide]at h0,?_⟩
 ·simp only [resolve,h1.ev hg];simp [go_sem]
 ·have:=hok.get (.func (.yield l) #[] #[]::lb).toArray W1
  simpa [invoke]using this
 ·refine CallsIn.mono (TR (r:=none) (n:=0-1) hcall) ?_;rintro e w3 ⟨v,H',rfl,hp3,hs3⟩;rcases hp3 with⟨xs,hS,rfl⟩|⟨pre,hS,rfl⟩
  ·have e6:J' xs*F'=HP.obj l (rec_ .ready none)*(J xs*(HP.obj w.heap.size (.deferred (some []))*F')):=by
    show J xs*(_*_)*F'=_;ac_rfl
   rw [e6]at hs3;obtain⟨hb3,_,_⟩:=hs3.Ev;refine⟨_,_,run_endLoop hb3 Cl,?_⟩
   have:=(hs3.Fj (y:=rec_ .exhausted none) HQ).right
   exact hdone _ xs hS _ _ h1 M0 this
  ·have hs4:Sat B (HP.ex (fun id=>Jx id pre*(HP.obj w.heap.size (.deferred (some []))*HP.obj l (rec_ .done (some (ET id)))))*F') w3:=hs3;rw [HP.HV]at hs4;obtain⟨id,hs5⟩:=Sat.ex.1 hs4
   have e6:Jx id pre*(HP.obj w.heap.size (.deferred (some []))*HP.obj l (rec_ .done (some (ET id))))*F'=HP.obj l (rec_ .done (some (ET id)))*(Jx id pre*(HP.obj w.heap.size (.deferred (some []))*F')):=by ac_rfl
   rw [e6]at hs5;obtain⟨hb3,_,_⟩:=hs5.Ev;refine⟨_,_,run_endLoop hb3 Cl,?_⟩
   have:=(hs5.Fj (y:=rec_ .exhausted (some (ET id))) HQ).right
   cases id with
   |none=>exact wpIn_ret (hstop _ pre none hS _ _ h1 M0 this)
   |some id=>exact wpIn_exit (hstop _ pre (some id) hS _ _ h1 M0 this)
theorem WW{α:Type}{gf:FuncId}{lb:List Value}{p:Nat}{g:Operand}{assign body:Code}[hok:AX P gf]
  (Am:α→Value)(S Sp G:List α→Prop)(J:List α→HP)(Jx:Option Nat→List α→HP)(F F':HP)(EA:Nat→α→A6)(HA:Nat→α→HP)
  (hg:ev E g=some (.func (.func gf) #[] lb.toArray))(hp:xt p n=true)(hr:D.r=none)(hH:∀w,Sat B H w→Sat B (J []*F) w)(hit:Of P B gf lb Am S Sp G F F')
  (hasg:∀pre x l R,WP P B assign (T9 B n (fun y=>EA y x) (fun y=>HA y x*(J pre*R))) n ((p,Am x)::E) ⟨[],some l⟩ (J pre*R))
  (hbody:∀y pre x l R,Sp (pre++[x])→WP P B body (Py B (G (pre++[x])) (J (pre++[x])*R) (fun id=>Jx id (pre++[x])*R)) n (EA y x) ⟨[],some l⟩ (HA y x*(J pre*R)))
  (hdone:∀d xs,S xs→BT B Q .normal n E ⟨Ii d::D.ds,none⟩ (J xs*(HP.obj d (.deferred (some []))*F')))
  (hstop:∀d pre id,Sp pre→BT B Q (gP id) n E ⟨Ii d::D.ds,none⟩ (Jx id pre*(HP.obj d (.deferred (some []))*F'))):
  WP P B (.rangeFunc g #[p] assign body) Q n E D H:=by
 intro a w h1 h2 h3;rw [hr];refine wpIn_rangeFunc fun fn _=>?_;have h3:=hH w h3
 let rec_:LoopState→Option Code→Obj:=fun st pe=>.loop {state:=st,pending:=pe,fn,tmps:=a.tmps,params:= #[p],assign,body,defers:=w.heap.size}
 let l:=w.heap.size+1
 have hl1:Sat B (HP.obj l (rec_ .ready none)*(HP.obj w.heap.size (.deferred (some []))*(J []*F))) ((w.alloc (.deferred (some []))).alloc (rec_ .ready none)):=by
  have:=(h3.Nj (.deferred (some [])) Cl).Nj (rec_ .ready none) HQ
  rwa [World.P9]at this
 let J':List α→HP:=fun pre=>J pre*(HP.obj w.heap.size (.deferred (some []))*HP.obj l (rec_ .ready none))
 let Jx':List α→HP:=fun pre=>HP.ex fun id=>Jx id pre*(HP.obj w.heap.size (.deferred (some []))*HP.obj l (rec_ .done (some (ET id))))
 have hY:∀pre x R,Sp (pre++[x])→Yn P B l [Am x] (J' pre*R) (fun v H'=>∃g:Bool,v=.bool g∧(g=true→G (pre++[x]))∧H'=(bif g then J' (pre++[x])else Jx' (pre++[x]))*R):=by
  intro pre x R hsp W hW
  have e1:J' pre*R=HP.obj l (rec_ .ready none)*(J pre*(HP.obj w.heap.size (.deferred (some []))*R)):=by
   show J pre*(_*_)*R=_;ac_rfl
  rw [e1]at hW;obtain⟨hW1,_,_⟩:=hW.Ev;refine⟨fn,_,assign,body,run_yield hW1 rfl,?_⟩;refine roundIn_of_wpIn trivial ?_
  have hE:DR n ((p,Am x)::E) {tmps:=((#[p]:Array Nat).zip [Am x].toArray).foldl (fun t (p,v)=>t.setIfInBounds p v) a.tmps,defers:=[]}:=by
   have h5:=h1.put (t:=p) (by simpa using hp) (Am x)
   have e:((#[p]:Array Nat).zip [Am x].toArray).foldl (fun t (p,v)=>t.setIfInBounds p v) a.tmps=a.tmps.setIfInBounds p (Am x):=by
    have e0:(#[p]:Array Nat).zip [Am x].toArray= #[(p,Am x)]:=by simp [Array.zip]
    rw [e0];simp
   rw [e];exact h5
  have e2:HP.obj l (rec_ .ready none)*(J pre*(HP.obj w.heap.size (.deferred (some []))*R))=J pre*(HP.obj l (rec_ .ready none)*(HP.obj w.heap.size (.deferred (some []))*R)):=by ac_rfl
  refine dW ?_;intro e a1 w1 hq
  cases e with
  |normal=>
   obtain⟨y,k1,k2,k3⟩:=hq;dsimp only at k1 k3;rw [show HA y x*(J pre*(HP.obj l (rec_ .ready none)*(HP.obj w.heap.size (.deferred (some []))*R)))=HP.obj l (rec_ .ready none)*(HA y x*(J pre*(HP.obj w.heap.size (.deferred (some []))*R))) by ac_rfl]at k3;obtain⟨hb1,_,_⟩:=k3.Ev;refine⟨_,run_beginRound hb1 rfl,?_⟩;have k4:=k3.Fj (y:=rec_ .busy none) HQ
   have e3:HP.obj l (rec_ .busy none)*(HA y x*(J pre*(HP.obj w.heap.size (.deferred (some []))*R)))=HA y x*(J pre*(HP.obj l (rec_ .busy none)*(HP.obj w.heap.size (.deferred (some []))*R))):=by ac_rfl
   rw [e3]at k4;refine wpIn_mono (hbody y pre x l _ hsp a1 _ k1 k2 k4) ?_;intro e a2 w2 hq
   cases e with
   |normal=>
    obtain⟨hG,hq⟩:=hq;have hq':Sat B (J (pre++[x])*(HP.obj l (rec_ .busy none)*(HP.obj w.heap.size (.deferred (some []))*R))) w2:=hq;rw [HP.C8]at hq';obtain⟨hb2,_,_⟩:=hq'.Ev;refine eI ?_
    have:=hq'.Fj (y:=rec_ .ready none) HQ
    show Sat B (J (pre++[x])*(_*_)*R) _
    have e4:J (pre++[x])*(HP.obj w.heap.size (.deferred (some []))*HP.obj l (rec_ .ready none))*R=HP.obj l (rec_ .ready none)*(J (pre++[x])*(HP.obj w.heap.size (.deferred (some []))*R)):=by ac_rfl
    rw [e4];exact this
   |exit id0=>
    obtain⟨id,hid⟩:∃id:Option Nat,id=some id0:=Bg
    have hq':Sat B (Jx (some id0) (pre++[x])*(HP.obj l (rec_ .busy none)*(HP.obj w.heap.size (.deferred (some []))*R))) w2:=hq;rw [HP.C8]at hq';obtain⟨hb2,_,_⟩:=hq'.Ev;refine fA ?_
    have:=hq'.Fj (y:=rec_ .done (some (ET (some id0)))) HQ
    show Sat B (HP.ex _*R) _;rw [HP.HV];refine Sat.ex.2 ⟨some id0,?_⟩
    have e4:Jx (some id0) (pre++[x])*(HP.obj w.heap.size (.deferred (some []))*HP.obj l (rec_ .done (some (ET (some id0)))))*R=HP.obj l (rec_ .done (some (ET (some id0))))*(Jx (some id0) (pre++[x])*(HP.obj w.heap.size (.deferred (some []))*R)):=by ac_rfl
    rw [e4];exact this
   |ret=>
    have hq':Sat B (Jx none (pre++[x])*(HP.obj l (rec_ .busy none)*(HP.obj w.heap.size (.deferred (some []))*R))) w2:=hq;rw [HP.C8]at hq';obtain⟨hb2,_,_⟩:=hq'.Ev;refine gD ?_
    have:=hq'.Fj (y:=rec_ .done (some (ET none))) HQ
    show Sat B (HP.ex _*R) _;rw [HP.HV];refine Sat.ex.2 ⟨none,?_⟩
    have e4:Jx none (pre++[x])*(HP.obj w.heap.size (.deferred (some []))*HP.obj l (rec_ .done (some (ET none))))*R=HP.obj l (rec_ .done (some (ET none)))*(Jx none (pre++[x])*(HP.obj w.heap.size (.deferred (some []))*R)):=by ac_rfl
    rw [e4];exact this
   |goto t=>exact hq.elim
   |panic ch=>exact hq.elim
   |outgrown=>exact hq.elim
  |exit id=>exact hq.elim
  |goto t=>exact hq.elim
  |ret=>exact hq.elim
  |panic ch=>exact hq.elim
  |outgrown=>exact hq.elim
 have hcall:=hit l J' Jx' hY _ (by
  have e5:J' []*F=HP.obj l (rec_ .ready none)*(HP.obj w.heap.size (.deferred (some []))*(J []*F)):=by
   show J []*(_*_)*F=_
   ac_rfl
  rw [e5];exact hl1)
 let W1:World:=(w.alloc (.deferred (some []))).alloc (rec_ .ready none)
 refine⟨l,[Ii w.heap.size],W1,{target:=.fn (.func gf) lb.toArray,args:= #[.func (.yield l) #[] #[]]},W1,gf,(.func (.yield l) #[] #[]::lb).toArray,W1,run_enterLoop_outer _ _ _ _ _,?_,fun f' _=>(show(fr none).fn f' from trivial),?_,fun h0=>by simp [fr,Fence.wide]at h0,?_⟩
 ·simp only [resolve,h1.ev hg];simp [go_sem]
 ·have:=hok.get (.func (.yield l) #[] #[]::lb).toArray W1
  simpa [invoke]using this
 ·refine CallsIn.mono (TR (r:=none) (n:=0-1) hcall) ?_;rintro e w3 ⟨v,H',rfl,hp3,hs3⟩;rcases hp3 with⟨xs,hS,rfl⟩|⟨pre,hS,rfl⟩
  ·have e6:J' xs*F'=HP.obj l (rec_ .ready none)*(J xs*(HP.obj w.heap.size (.deferred (some []))*F')):=by
    show J xs*(_*_)*F'=_;ac_rfl
   rw [e6]at hs3;obtain⟨hb3,_,_⟩:=hs3.Ev;refine⟨_,_,run_endLoop hb3 Cl,?_⟩
   have:=(hs3.Fj (y:=rec_ .exhausted none) HQ).right
   exact hdone _ xs hS _ _ h1 M0 this
  ·have hs4:Sat B (HP.ex (fun id=>Jx id pre*(HP.obj w.heap.size (.deferred (some []))*HP.obj l (rec_ .done (some (ET id)))))*F') w3:=hs3;rw [HP.HV]at hs4;obtain⟨id,hs5⟩:=Sat.ex.1 hs4
   have e6:Jx id pre*(HP.obj w.heap.size (.deferred (some []))*HP.obj l (rec_ .done (some (ET id))))*F'=HP.obj l (rec_ .done (some (ET id)))*(Jx id pre*(HP.obj w.heap.size (.deferred (some []))*F')):=by ac_rfl
   rw [e6]at hs5;obtain⟨hb3,_,_⟩:=hs5.Ev;refine⟨_,_,run_endLoop hb3 Cl,?_⟩
   have:=(hs5.Fj (y:=rec_ .exhausted (some (ET id))) HQ).right
   cases id with
   |none=>exact wpIn_ret (hstop _ pre none hS _ _ h1 M0 this)
   |some id=>exact wpIn_exit (hstop _ pre (some id) hS _ _ h1 M0 this)
end
end
section
variable{B:World}
abbrev Iy(r:AP):Value:=.agg #[uN r.lo,uN r.hi]
theorem w8{n:Nat}{E:A6}{D:CK}{H:HP}{Q:Exit→Act→World→Prop}{e:Exit}{aa:Act}{ww:World}(h1:DR n E aa)(h2:aa.defers=D.ds)(h4:Sat B H ww)(h:BT B Q e n E D H):Q e aa ww:=h aa ww h1 h2 h4
def dn(l:List AP)(j:Nat):AP:=rg l (l.length-1-j)
def Gx(l:List AP)(m:Nat):List AP:=(xr m).map (dn l)
def H1(l:List AP)(m:Nat):List (Nat×AP):=(xr m).map (fun j=>(l.length-1-j,dn l j))
theorem Uy(l:List AP)(m:Nat):(H1 l m).map e_=Gx l m:=by simp [H1,Gx,Function.comp_def]
theorem G! (l:List AP)(m:Nat):H1 l (m+1)=H1 l m++[(l.length-1-m,dn l m)]:=by simp [H1,List.range_succ]
theorem jp(l:List AP):Gx l l.length=l.reverse:=by
 apply List.ext_getElem
 ·simp [Gx]
 ·intro i h1 h2;simp only [Gx,List.getElem_map,List.getElem_range,List.getElem_reverse,dn,rg]
  have h3:i<l.length:=by simpa [Gx]using h1
  rw [a_,b_ Cg];rfl
theorem xZ(p:Option Addr)(k c:Nat)(H:HP):
  Fn Tryz.prog B 167 [.slice p k c] H (fun v H'=>∃b1,v=DC 188 [ptr b1 0]∧H'=HP.AA b1 0 [.slice p k c]*H):=by
 refine mI Tryz.func167 ?_;refine MF ?_;rintro _ _ ⟨b1,rfl,rfl⟩;refine J5 ?_;refine JL Gs ?_;refine J4 ?_;exact mr [2] rfl rfl ⟨b1,rfl,rfl⟩
theorem r5(l:List AP)(p:Option Addr)(b o c b1:Nat)(F:HP)(hs:Sl p b o l.length c)(hl:l.length<100000)[h1:Rd B F b1 0 (.slice p l.length c) True][h2:AW B F b o l]:
  oP Tryz.prog B 188 [ptr b1 0] (fun x:Nat×AP=>iN x.1) (fun x=>Iy x.2) (fun xs=>xs=H1 l l.length) (fun ys=>∃m,m≤l.length∧H1 l m=ys) (fun _=>True) F F:=by
 intro L J Jx hy;refine mI Tryz.func188 ?_;refine J4 ?_;refine JL (LW (i:=(l.length:Nat)) (j:=1) rfl rfl Cg) ?_;refine J4 ?_;refine BL (α:=Nat) (fun k=>[(0,.func (.yield L) #[] #[]),(1,ptr b1 0),(3,.int .i64 ((k:Int)-1))]) (fun k=>J (H1 l (l.length-k))*F) (fun k=>k≤l.length) (fun k=>k) l.length D3 CS (by rw [Nat.sub_self];rfl) ?_;intro k hk;refine J4 ?_;refine JL (Jb (j:=0) rfl rfl) ?_;refine J2 ?_;refine mC (fun h8=>?_) (fun h8=>?_)
 ·skip
  obtain⟨k',rfl⟩:∃k',k=k'+1:=⟨k-1,Cg⟩
  refine OI (E':=[(0,.func (.yield L) #[] #[]),(1,ptr b1 0),(3,iN k')]) (.cons rfl (.cons rfl (.cons (by show some (Value.int .i64 (((k'+1:Nat):Int)-1))=some (.int .i64 (k':Nat));congr 2;omega) .nil))) ?_
  have hix:l.length-1-(l.length-(k'+1))=k':=by omega
  have hsn:H1 l (l.length-(k'+1)+1)=H1 l (l.length-(k'+1))++[(k',rg l k')]:=by rw [G!,dn,hix]
  refine By ?_;refine JL Pb ?_;refine JL eN ?_;refine Ow (Vg rfl rfl (hy (H1 l (l.length-(k'+1))) (k',rg l k') _ ⟨l.length-(k'+1)+1,Cg,by rw [hsn]⟩)) rfl ?_;rintro _ _ ⟨g,rfl,hg,rfl⟩;refine Eb ?_;refine mc (fun h18=>?_) (fun h18=>?_)
  ·skip
   obtain rfl:g=false:=by simpa using h18
   refine J5 ?_;exact mr [] rfl rfl (.inr ⟨_,⟨l.length-(k'+1)+1,Cg,hsn⟩,rfl⟩)
  refine J5 ?_;refine JL (LW (i:=(k':Nat)) (j:=1) rfl rfl Cg) ?_;refine J2 ?_
  obtain rfl:g=true:=by simpa using h18
  exact At k' Cg Cg CS (by rw [show l.length-k'=(l.length-(k'+1))+1 by omega,hsn];rfl)
 obtain rfl:k=0:=by omega
 refine J4 ?_;exact RD (ts:=[]) rfl rfl (.inl ⟨_,rfl,by rw [Nat.sub_zero]⟩)
theorem Xg(q:Nat)(H:HP):
  Fn Tryz.prog B 137 [ptr q 0] H (fun v H'=>∃b1,v=DC 166 [ptr b1 0]∧H'=HP.AA b1 0 [ptr q 0]*H):=by
 refine mI Tryz.func137 ?_;refine MF ?_;rintro _ _ ⟨b1,rfl,rfl⟩;refine J5 ?_;refine JL Gs ?_;refine J4 ?_;exact mr [2] rfl rfl ⟨b1,rfl,rfl⟩
set_option maxHeartbeats 1000000 in
theorem Vl(q b1:Nat)(a:B9)(z:BH)(F:HP)(hs:a.ok z)(hl:z.l.length<100000)[h1:Rd B F b1 0 (ptr q 0) True][hz:Fd B F q a z]:
  Of Tryz.prog B 166 [ptr b1 0] Iy (fun xs=>xs=z.l.reverse) (fun ys=>∃m,m≤z.l.length∧Gx z.l m=ys) (fun _=>True) F F:=by
 intro L J Jx hy
 have:=hz.l
 have:=hz.r
 refine TA Tryz.func166 rfl rfl rfl ?_;refine MF ?_;rintro _ _ ⟨b2,rfl,rfl⟩;refine J8 ?_;refine mE rfl (xZ _ _ _ _) ?_;rintro _ _ ⟨b9,rfl,rfl⟩;refine J3 ?_
 refine f6 (α:=Nat×AP) (fun x=>iN x.1) (fun x=>Iy x.2) (fun xs=>xs=H1 z.l z.l.length) (fun ys=>∃m,m≤z.l.length∧H1 z.l m=ys) (fun _=>True) (fun pre=>J (pre.map e_)*HP.AA b2 0 [.func (.yield L) #[] #[]]) (fun cx pre=>HP.pr (cx=none)*(Jx (pre.map e_)*HP.AA b2 0 [.func (.yield L) #[] #[]])) (HP.AA b9 0 [.slice a.p z.l.length a.c]*F) (HP.AA b9 0 [.slice a.p z.l.length a.c]*F) (fun y x=>[(2,ptr b2 0),(4,ptr y 0)]) (fun y x=>HP.AA y 0 [uN x.2.lo,uN x.2.hi]) rfl rfl rfl rfl ?_ (r5 z.l a.p a.b a.o a.c b9 _ hs.1 hl) ?_ ?_ ?_ ?_
 ·intro w hw;show Sat B (J ([]:List AP)*HP.AA b2 0 _*(HP.AA b9 0 _*F)) w;rw [show J ([]:List AP)*HP.AA b2 0 [.func (.yield L) #[] #[]]*(HP.AA b9 0 [.slice a.p z.l.length a.c]*F)=HP.AA b9 0 [.slice a.p z.l.length a.c]*(HP.AA b2 0 [.func (.yield L) #[] #[]]*(J []*F)) by ac_rfl];exact hw
 ·intro pre x l R;refine J1 ?_;refine AV O5 rfl ?_;rintro _ _ ⟨b4,rfl,rfl⟩;refine Bv K5 ?_;refine Fq ?_;exact TP b4 FX rfl
 ·intro y pre x l R hsp;obtain⟨m,hm,hmm⟩:=hsp
  have hpre:pre.map e_++[x.2]=(pre++[x]).map e_:=by simp
  rw [show HP.AA y 0 [uN x.2.lo,uN x.2.hi]*(J (pre.map e_)*HP.AA b2 0 [.func (.yield L) #[] #[]]*R)=J (pre.map e_)*(HP.AA y 0 [uN x.2.lo,uN x.2.hi]*(HP.AA b2 0 [.func (.yield L) #[] #[]]*R)) by ac_rfl];refine J4 ?_;refine JL (Dp (l:=[uN x.2.lo,uN x.2.hi]) rfl rfl) ?_;refine Ow (Vg rfl rfl (hy (pre.map e_) x.2 _ ⟨m,hm,by rw [hpre,←hmm,Uy]⟩)) rfl ?_;rintro _ _ ⟨g,rfl,hg,rfl⟩;refine N3 ?_;refine mc (fun h15=>?_) (fun h15=>?_)
  ·skip
   obtain rfl:g=false:=by simpa using h15
   refine J2 ?_;refine fc ?_;intro w hw;show Sat B (HP.pr (none=none)*(Jx ((pre++[x]).map e_)*HP.AA b2 0 [.func (.yield L) #[] #[]])*R) w;rw [HP.assoc,Sat.pr];refine⟨rfl,?_⟩;refine CE.get (B:=B) (H:=Jx ((pre++[x]).map e_)*(HP.AA b2 0 [.func (.yield L) #[] #[]]*(HP.AA y 0 [uN x.2.lo,uN x.2.hi]*R))) w ?_;rw [←hpre,show Jx (pre.map e_++[x.2])*(HP.AA b2 0 [.func (.yield L) #[] #[]]*(HP.AA y 0 [uN x.2.lo,uN x.2.hi]*R))=Jx (pre.map e_++[x.2])*(HP.AA y 0 [uN x.2.lo,uN x.2.hi]*(HP.AA b2 0 [.func (.yield L) #[] #[]]*R)) by ac_rfl];exact hw
  refine J2 ?_
  obtain rfl:g=true:=by simpa using h15
  refine Gm trivial ?_;intro w hw;refine CE.get (B:=B) (H:=J ((pre++[x]).map e_)*(HP.AA b2 0 [.func (.yield L) #[] #[]]*(HP.AA y 0 [uN x.2.lo,uN x.2.hi]*R))) w ?_;rw [←hpre,show J (pre.map e_++[x.2])*(HP.AA b2 0 [.func (.yield L) #[] #[]]*(HP.AA y 0 [uN x.2.lo,uN x.2.hi]*R))=J (pre.map e_++[x.2])*(HP.AA y 0 [uN x.2.lo,uN x.2.hi]*(HP.AA b2 0 [.func (.yield L) #[] #[]]*R)) by ac_rfl];exact hw
 ·intro d xs hS;subst hS;refine J1 ?_;rw [Uy,jp];refine Au (HP.obj d (.deferred (some []))*(J z.l.reverse*F)) (hE:=⟨fun w hw=>?_⟩) ?_
  ·refine CE.get (B:=B) (H:=HP.obj d (.deferred (some []))*(J z.l.reverse*(F*(HP.AA b9 0 [.slice a.p z.l.length a.c]*HP.AA b2 0 [.func (.yield L) #[] #[]])))) w ?_;rw [show HP.obj d (.deferred (some []))*(J z.l.reverse*(F*(HP.AA b9 0 [.slice a.p z.l.length a.c]*HP.AA b2 0 [.func (.yield L) #[] #[]])))=J z.l.reverse*HP.AA b2 0 [.func (.yield L) #[] #[]]*(HP.obj d (.deferred (some []))*(HP.AA b9 0 [.slice a.p z.l.length a.c]*F)) by ac_rfl];exact hw
  exact V3 (ts:=[]) [d] _ rfl rfl (.inl L2) rfl
 rintro d pre (_|id) ⟨m,hm,rfl⟩;rotate_left
 ·intro aa ww _ _ h3;rw [HP.assoc]at h3;exact absurd (Sat.pr.1 h3).1 Cl
 intro aa ww h1 h2 h3;rw [HP.assoc]at h3;have h4:=(Sat.pr.1 h3).2;rw [Uy]at h4;refine w8 h1 h2 h4 ?_;refine Au (HP.obj d (.deferred (some []))*(Jx (Gx z.l m)*F)) (hE:=⟨fun w hw=>?_⟩) ?_
 ·refine CE.get (B:=B) (H:=HP.obj d (.deferred (some []))*(Jx (Gx z.l m)*(F*(HP.AA b9 0 [.slice a.p z.l.length a.c]*HP.AA b2 0 [.func (.yield L) #[] #[]])))) w ?_;rw [show HP.obj d (.deferred (some []))*(Jx (Gx z.l m)*(F*(HP.AA b9 0 [.slice a.p z.l.length a.c]*HP.AA b2 0 [.func (.yield L) #[] #[]])))=Jx (Gx z.l m)*HP.AA b2 0 [.func (.yield L) #[] #[]]*(HP.obj d (.deferred (some []))*(HP.AA b9 0 [.slice a.p z.l.length a.c]*F)) by ac_rfl];exact hw
 exact R3 (ts:=[]) [d] _ rfl rfl (.inr ⟨_,⟨m,hm,rfl⟩,rfl⟩) rfl
set_option maxHeartbeats 1000000 in
theorem uI(gf:FuncId)(lb:List Value)(l:List AP)(Sp:List AP→Prop)(F:HP)[AX Tryz.prog gf](hSp:∀ys,Sp ys→ys.length≤100000)(hit:Of Tryz.prog B gf lb Iy (fun xs=>xs=l) Sp (fun _=>True) F F):
  Fn Tryz.prog B 165 [.slice none 0 0,DC gf lb] F (fun v H'=>CH F l v H'):=by
 refine TA Tryz.func165 rfl rfl rfl ?_;refine MF ?_;rintro _ _ ⟨b2,rfl,rfl⟩;refine By ?_
 refine WW (α:=AP) Iy (fun xs=>xs=l) Sp (fun _=>True) (fun pre=>HP.ex fun z:B9=>HP.pr (Sl z.p z.b z.o pre.length z.c∧pre.length*2+z.s.length=z.c*2)*(HP.AA b2 0 [.slice z.p pre.length z.c]*AD z.b z.o pre z.s)) (fun cx pre=>HP.pr False) F F (fun y x=>[(2,ptr b2 0),(5,ptr y 0)]) (fun y x=>HP.AA y 0 [uN x.lo,uN x.hi]) rfl rfl rfl ?_ hit ?_ ?_ ?_ ?_
 ·refine I4 ⟨none,0,0,0,[]⟩ ⟨DG,rfl⟩ ?_;rw [FI,HP.Gb];rfl
 ·intro pre x l R;refine J1 ?_;refine AV O5 rfl ?_;rintro _ _ ⟨b5,rfl,rfl⟩;refine Bv K5 ?_;refine Fq ?_;exact TP b5 FX rfl
 ·intro y pre x l R hsp;refine Aq (H':=(HP.ex fun z:B9=>HP.pr (Sl z.p z.b z.o pre.length z.c∧pre.length*2+z.s.length=z.c*2)*(HP.AA b2 0 [.slice z.p pre.length z.c]*AD z.b z.o pre z.s))*(HP.AA y 0 [uN x.lo,uN x.hi]*R)) Cm ?_;refine Nc ?_;rintro⟨pq,bq,oq,cq,sq⟩ ⟨hq1,hq2⟩;dsimp only at hq1 hq2⊢;have hpl:(pre++[x]).length≤100000:=hSp _ hsp;rw [g_,List.length_singleton]at hpl;refine J3 ?_;refine JL (Dp (l:=[uN x.lo,uN x.hi]) rfl rfl) ?_;refine AV (E4 (cs:=[uN x.lo,uN x.hi]) rfl Cr rfl rfl) rfl ?_;rintro _ _ ⟨b10,rfl,rfl⟩;refine Aw (H':=AD bq oq pre sq*(HP.AA b10 0 (AE [x])*(HP.AA b2 0 [.slice pq pre.length cq]*(HP.AA y 0 [uN x.lo,uN x.hi]*R)))) (by show HP.AA b10 0 _*_=_;ac_rfl) ?_;refine AV (Bf (ys:=[x]) (bb:=b10) (oo:=0) (cc:=1) rfl hq1 hq2 rfl Bc inferInstance rfl Cs Cg) rfl ?_;rintro _ _ ⟨p11,b11,o11,c11,s11,rfl,hs11,hc11,rfl⟩;refine J3 ?_;refine Au (AD b11 o11 (pre++[x]) s11*(HP.AA b2 0 [.slice p11 (pre++[x]).length c11]*R)) ?_;exact Gm trivial (I4 (⟨p11,b11,o11,c11,s11⟩:B9) ⟨hs11,hc11⟩ Cm)
 ·intro d xs hS;subst hS;refine TT ?_;rintro⟨pq,bq,oq,cq,sq⟩ ⟨hq1,hq2⟩;dsimp only at hq1 hq2⊢;refine J9 ?_;refine D8 (H':=HP.AA b2 0 [.slice pq xs.length cq]*(HP.obj d (.deferred (some []))*(AD bq oq xs sq*F))) Cm ?_;refine Au (HP.obj d (.deferred (some []))*(AD bq oq xs sq*F)) ?_;exact R3 (ts:=[4]) [d] _ rfl rfl ⟨pq,bq,oq,cq,sq,rfl,hq1,hq2,rfl⟩ rfl
 rintro d pre id _ aa ww _ _ h3;exact XU
 -- no other way
theorem xB(gf:FuncId)(lb:List Value)(l:List AP)(Sp:List AP→Prop)(F:HP)[AX Tryz.prog gf](hSp:∀ys,Sp ys→ys.length≤100000)(hit:Of Tryz.prog B gf lb Iy (fun xs=>xs=l) Sp (fun _=>True) F F):
  Fn Tryz.prog B 136 [DC gf lb] F (fun v H'=>CH F l v H'):=by
 refine mI Tryz.func136 ?_;refine J8 ?_;refine mE rfl (uI gf lb l Sp F hSp hit) ?_;rintro _ _ ⟨p4,b4,o4,c4,s4,rfl,hs4,hc4,rfl⟩;refine J4 ?_;exact mr [2] rfl rfl ⟨p4,b4,o4,c4,s4,rfl,hs4,hc4,rfl⟩
theorem ry(l:List AP)(p:Option Addr)(b o c:Nat)(f:FuncId)(us:List Value)(P:AP→Prop)[DecidablePred P](H:HP)[AX Tryz.prog f](hs:Sl p b o l.length c)[hr:AW B H b o l](hl:l.length<4611686018427387904)
  (hf:∀r,r∈l→Fn Tryz.prog B f (Iy r::us) H (fun v H'=>v=.bool (decide (P r))∧H'=H)):
  Fn Tryz.prog B 226 [.slice p l.length c,DC f us] H (fun v H'=>∃k:Int,v=.int .i64 k∧ -1≤k∧k<4611686018427387904∧(0≤k↔∃r∈l,P r)∧H'=H):=by
 refine mI Tryz.func226 ?_;refine GA ?_;refine J7 ?_;refine Hy ?_;refine BL (α:=Nat) (fun i=>[(0,.slice p l.length c),(1,DC f us),(7,iN l.length),(8,iN i)]) (fun _=>H) (fun i=>i≤l.length∧∀j,j<i→¬P (rg l j)) (fun i=>l.length-i) 0 ⟨t_ _,(fun j h=>absurd h TN)⟩ B4 rfl ?_;rintro i ⟨hi1,hi2⟩;refine J6 ?_;refine mC (fun h9=>?_) (fun h9=>?_)
 ·refine Iw ?_;refine JL Pb ?_;refine JL eN ?_;refine AV (Iz rfl rfl (hf (rg l i) (IQ (P:=fun r=>r∈l) (fun r h=>h) i Cg))) rfl ?_;refine JR ?_;refine J2 ?_;refine mC (fun h16=>?_) (fun h16=>?_)
  ·refine CR ?_;exact mr [4] rfl rfl ⟨(i:Nat),rfl,Cg,Cg,⟨fun _=>⟨rg l i,IQ (P:=fun r=>r∈l) (fun r h=>h) i Cg,by simpa using h16⟩,fun _=>by omega⟩,rfl⟩
  refine Fb ?_;exact At (i+1) ⟨Cg,fun j hj=>by rcases v_ j i with h|h;exact hi2 j h;obtain rfl:j=i:=Cg;simpa using h16⟩ Cg B4 rfl
 refine BV ?_;exact mr [4] rfl rfl ⟨-1,rfl,Cg,Cg,⟨fun h=>by omega,fun⟨r,hr,hp⟩=>by obtain⟨j,hj,rfl⟩:=n_ hr;have h7:=hi2 j Cg;unfold rg at h7;rw [a_,b_ hj]at h7;exact absurd hp h7⟩,rfl⟩
theorem cj(l:List AP)(p:Option Addr)(b o c:Nat)(f:FuncId)(us:List Value)(P:AP→Prop)[DecidablePred P](H:HP)[AX Tryz.prog f](hs:Sl p b o l.length c)[hr:AW B H b o l](hl:l.length<4611686018427387904)
  (hf:∀r,r∈l→Fn Tryz.prog B f (Iy r::us) H (fun v H'=>v=.bool (decide (P r))∧H'=H)):
  Fn Tryz.prog B 213 [.slice p l.length c,DC f us] H (fun v H'=>v=.bool (decide (∃r∈l,P r))∧H'=H):=by
 refine mI Tryz.func213 ?_;refine J9 ?_;refine mE rfl (ry l p b o c f us P H hs hl hf) ?_;rintro _ _ ⟨k,rfl,hk1,hk2,hk3,rfl⟩;refine JL (Jb (j:=0) rfl rfl) ?_;refine J4 ?_;refine mr [4] rfl rfl ⟨?_,rfl⟩;refine OK ?_;congr 1;exact i_.2 (by simp only [decide_eq_true_eq];exact hk3)
end
section
open Go Go.RowKit Go.Extern.Stop Go.Stop Go.Extern
set_option linter.unusedVariables false
set_option maxRecDepth 20000
instance:G1 Tryz.prog 120 (fun args=>ReflectliteValue.unpack (args.getD 0 (.tuple #[]))):=⟨@run_callFunc_extern Tryz.prog 120 _ _ Tryz.func120 Ch Ch Ch Ch⟩
instance :G1 Tryz.prog 121 (ReflectliteValue.methodAny (ReflectliteValue.valueError "reflectlite.Value.Type" 0) (fun t _ _ _ =>ReflectliteType.toType t)) :=⟨@run_callFunc_extern Tryz.prog 121 _ _ Tryz.func121 Ch Ch Ch Ch⟩
instance :G1 Tryz.prog 122 (ReflectliteValue.method (ReflectliteValue.valueError "reflectlite.Value.IsNil" 0) ReflectliteValue.isNil) :=⟨@run_callFunc_extern Tryz.prog 122 _ _ Tryz.func122 Ch Ch Ch Ch⟩
instance:G1 Tryz.prog 243 (ReflectliteType.abiMethod fun t=>do pure (.int .u8 (←Rtype.kind t))):=⟨@run_callFunc_extern Tryz.prog 243 _ _ Tryz.func243 Ch Ch Ch Ch⟩
instance:G1 Tryz.prog 256 (ReflectliteType.method ReflectliteType.elem):=⟨@run_callFunc_extern Tryz.prog 256 _ _ Tryz.func256 Ch Ch Ch Ch⟩
instance :G1 Tryz.prog 257 (ReflectliteType.relation "Implements" ReflectliteType.implements_) :=⟨@run_callFunc_extern Tryz.prog 257 _ _ Tryz.func257 Ch Ch Ch Ch⟩
instance:G1 Tryz.prog 124 ReflectliteType.typeOf:=⟨@run_callFunc_extern Tryz.prog 124 _ _ Tryz.func124 Ch Ch Ch Ch⟩
instance :G1 Tryz.prog 254 (ReflectliteType.relation "AssignableTo" ReflectliteType.assignableTo) :=⟨@run_callFunc_extern Tryz.prog 254 _ _ Tryz.func254 Ch Ch Ch Ch⟩
instance :G1 Tryz.prog 159 (ReflectliteValue.method (ReflectliteValue.valueError "reflectlite.Value.Elem" 0) ReflectliteValue.elem) :=⟨@run_callFunc_extern Tryz.prog 159 _ _ Tryz.func159 Ch Ch Ch Ch⟩
instance:G1 Tryz.prog 160 ReflectliteValue.set:=⟨@run_callFunc_extern Tryz.prog 160 _ _ Tryz.func160 Ch Ch Ch Ch⟩
instance(h :Value) :K3 Tryz.prog 282 (.agg #[h]) "Kind" 243 h :=⟨fun w =>by kernel_rfl⟩
instance(h :Value) :K3 Tryz.prog 282 (.agg #[h]) "Elem" 256 (.agg #[h]) :=⟨fun w =>by kernel_rfl⟩
instance(h :Value) :K3 Tryz.prog 282 (.agg #[h]) "Implements" 257 (.agg #[h]) :=⟨fun w =>by kernel_rfl⟩
instance(h :Value) :K3 Tryz.prog 282 (.agg #[h]) "AssignableTo" 254 (.agg #[h]) :=⟨fun w =>by kernel_rfl⟩
instance(h :Value) :K3 Tryz.prog 282 (.agg #[h]) "Comparable" 255 (.agg #[h]) :=⟨fun w =>by kernel_rfl⟩
instance(h :Value) :K3 Tryz.prog 191 h "Unwrap" 249 h :=⟨fun w =>by kernel_rfl⟩
end
section
open Go Go.RowKit Go.Extern.Stop Go.Stop Go.Extern
set_option linter.unusedVariables false
theorem q8(t:Addr)(w:World):(ReflectliteValue.unpack (.iface 193 (.pointer (some t)))).run Tryz.prog w
  = .ok (.agg #[.pointer (some ⟨1,193,none⟩),.pointer (some ⟨w.heap.size,0,none⟩),.int .u64 150]) (w.alloc (.cells #[.pointer (some t)] 193)):=by kernel_rfl
theorem O! (t:Addr)(w:World):(ReflectliteValue.unpack (.iface 197 (.pointer (some t)))).run Tryz.prog w
  = .ok (.agg #[.pointer (some ⟨1,197,none⟩),.pointer (some ⟨w.heap.size,0,none⟩),.int .u64 150]) (w.alloc (.cells #[.pointer (some t)] 197)):=by kernel_rfl
theorem xM(k:Int)(w:World):(ReflectliteValue.unpack (.iface 41 (.int .i64 k))).run Tryz.prog w
  = .ok (.agg #[.pointer (some ⟨1,41,none⟩),.pointer (some ⟨w.heap.size,0,none⟩),.int .u64 130]) (w.alloc (.cells #[.int .i64 k] 41)):=by kernel_rfl
theorem rz(v:Value)(w:World):(ReflectliteType.typeOf #[.iface 41 v]).run Tryz.prog w=.ok (.iface 282 (.agg #[.pointer (some ⟨1,41,none⟩)])) w:=by kernel_rfl
theorem xD(w :World) :(ReflectliteType.relation "AssignableTo" ReflectliteType.assignableTo #[.agg #[.pointer (some ⟨1,41,none⟩)],.iface 282 (.agg #[.pointer (some ⟨1,191,none⟩)])]).run Tryz.prog w =.ok (.bool false) w :=by kernel_rfl
theorem F! (w :World) :(ReflectliteType.relation "AssignableTo" ReflectliteType.assignableTo #[.agg #[.pointer (some ⟨1,41,none⟩)],.iface 282 (.agg #[.pointer (some ⟨1,41,none⟩)])]).run Tryz.prog w =.ok (.bool true) w :=by kernel_rfl
theorem TM(z:Sem Value)(f:TypeId→Addr→Nat→Nat→Sem Value)(v:Value):
  ReflectliteValue.method z f #[v]=(do match ←ReflectliteValue.parts v with|none=>z|some (t,a,fl)=>f t a fl (fl%32)):=rfl
theorem tG(a:Addr)(w:World):(ReflectliteValue.parts (.agg #[.pointer (some ⟨1,197,none⟩),.pointer (some a),.int .u64 150])).run Tryz.prog w=.ok (some (197,a,150)) w:=by kernel_rfl
theorem l4(w:World):(Rtype.elem? 197).run Tryz.prog w=.ok (some 41) w:=by kernel_rfl
theorem yT(p:Addr)(w:World):(ReflectliteValue.mk 41 p ReflectliteValue.flagAddr).run Tryz.prog w=.ok (.agg #[.pointer (some ⟨1,41,none⟩),.pointer (some p),.int .u64 386]) w:=by kernel_rfl
theorem o0(a p:Addr)(W:World)(ha:W.cell? a=some (.pointer (some p))):
  (ReflectliteValue.method (ReflectliteValue.valueError "reflectlite.Value.Elem" 0) ReflectliteValue.elem #[.agg #[.pointer (some ⟨1,197,none⟩),.pointer (some a),.int .u64 150]]).run Tryz.prog W
   = .ok (.agg #[.pointer (some ⟨1,41,none⟩),.pointer (some p),.int .u64 386]) W:=by
 rw [TM];simp only [Sem.run_bind,tG,d_];simp [ReflectliteValue.elem,loadVar,isAgg,underlying,Tryz.underlying197,ha,d_,l4,yT]
theorem cU(v x:Value):ReflectliteValue.set #[v,x]=(do
  let(some (dst,a,fl),some (src,b,_)):=(←ReflectliteValue.parts v,←ReflectliteValue.parts x)
   |unsupported (.noEntry "extern/(internal/reflectlite.Value).Set.zeroValue")
  if fl/ReflectliteValue.flagAddr%2 ==0 then unsupported (.noEntry "extern/(internal/reflectlite.Value).Set.unaddressable")
  let val ←loadVar src b
  if ←Rtype.directlyAssignable dst src then storeVar dst a val
  else if ←Rtype.implements dst src then
   if(←Rtype.kind src)==20 then
    match val with
    | .nilIface =>unsupported (.noEntry "extern/reflectlite: a nil value of one interface type handed on as a value of another")
    |_=>storeVar dst a val
   else storeVar dst a (.iface src val)
  else panicString ("reflectlite.Set: value of type " ++ (← Rtype.spelt src) ++ " is not assignable to type " ++ (← Rtype.spelt dst))
  pure (.tuple #[])):=rfl
theorem u1(a:Addr)(w:World):(ReflectliteValue.parts (.agg #[.pointer (some ⟨1,41,none⟩),.pointer (some a),.int .u64 386])).run Tryz.prog w=.ok (some (41,a,386)) w:=by kernel_rfl
theorem j0(a:Addr)(w:World):(ReflectliteValue.parts (.agg #[.pointer (some ⟨1,41,none⟩),.pointer (some a),.int .u64 130])).run Tryz.prog w=.ok (some (41,a,130)) w:=by kernel_rfl
theorem Y? (w:World):(Rtype.directlyAssignable 41 41).run Tryz.prog w=.ok true w:=by kernel_rfl
theorem ez(ta b:Addr)(k:Int)(old:Value)(W:World)(hb:W.cell? b=some (.int .i64 k))(ht:W.cell? ta=some old)(hf:W.frozen? ta=false):
  (ReflectliteValue.set #[.agg #[.pointer (some ⟨1,41,none⟩),.pointer (some ta),.int .u64 386],.agg #[.pointer (some ⟨1,41,none⟩),.pointer (some b),.int .u64 130]]).run Tryz.prog W
   = .ok (.tuple #[]) (W.setCell ta (.int .i64 k)):=by
 rw [cU];simp only [Sem.run_bind,u1,j0,d_];simp [ReflectliteValue.flagAddr,loadVar,isAgg,underlying,Tryz.underlying41,hb,d_,Y?,storeVar,Value.cells,storeCells,Addr.add];rw [run_store Tryz.prog W ta _ _ (by rfl)];simp [ht,hf]
theorem f5(a :Addr)(w :World) :(ReflectliteValue.methodAny (ReflectliteValue.valueError "reflectlite.Value.Type" 0) (fun t _ _ _ =>ReflectliteType.toType t) #[.agg #[.pointer (some ⟨1,197,none⟩),.pointer (some a),.int .u64 150]]).run Tryz.prog w
  = .ok (.iface 282 (.agg #[.pointer (some ⟨1,197,none⟩)])) w:=by kernel_rfl
theorem pi(w:World):((ReflectliteType.abiMethod fun t=>do pure (.int .u8 (←Rtype.kind t))) #[.pointer (some ⟨1,197,none⟩)]).run Tryz.prog w=.ok (.int .u8 22) w:=by kernel_rfl
theorem uM(w:World):(ReflectliteType.method ReflectliteType.elem #[.agg #[.pointer (some ⟨1,197,none⟩)]]).run Tryz.prog w=.ok (.iface 282 (.agg #[.pointer (some ⟨1,41,none⟩)])) w:=by kernel_rfl
theorem su(w :World) :(ReflectliteType.relation "Implements" ReflectliteType.implements_ #[.agg #[.pointer (some ⟨1,41,none⟩)],.iface 282 (.agg #[.pointer (some ⟨1,106,none⟩)])]).run Tryz.prog w =.ok (.bool true) w :=by kernel_rfl
theorem u3(a :Addr)(w :World) :(ReflectliteValue.methodAny (ReflectliteValue.valueError "reflectlite.Value.Type" 0) (fun t _ _ _ =>ReflectliteType.toType t) #[.agg #[.pointer (some ⟨1,193,none⟩),.pointer (some a),.int .u64 150]]).run Tryz.prog w
  = .ok (.iface 282 (.agg #[.pointer (some ⟨1,193,none⟩)])) w:=by kernel_rfl
theorem ae(w:World):((ReflectliteType.abiMethod fun t=>do pure (.int .u8 (←Rtype.kind t))) #[.pointer (some ⟨1,193,none⟩)]).run Tryz.prog w=.ok (.int .u8 22) w:=by kernel_rfl
theorem tL(w:World):(ReflectliteType.method ReflectliteType.elem #[.agg #[.pointer (some ⟨1,193,none⟩)]]).run Tryz.prog w=.ok (.iface 282 (.agg #[.pointer (some ⟨1,191,none⟩)])) w:=by kernel_rfl
theorem xX(w :World) :(ReflectliteType.relation "Implements" ReflectliteType.implements_ #[.agg #[.pointer (some ⟨1,191,none⟩)],.iface 282 (.agg #[.pointer (some ⟨1,106,none⟩)])]).run Tryz.prog w =.ok (.bool true) w :=by kernel_rfl
theorem uW(w:World):((ReflectliteType.abiMethod fun t=>do pure (.int .u8 (←Rtype.kind t))) #[.pointer (some ⟨1,41,none⟩)]).run Tryz.prog w=.ok (.int .u8 2) w:=by kernel_rfl
theorem yU(w:World):((ReflectliteType.abiMethod fun t=>do pure (.int .u8 (←Rtype.kind t))) #[.pointer (some ⟨1,191,none⟩)]).run Tryz.prog w=.ok (.int .u8 22) w:=by kernel_rfl
theorem mB(a:Addr)(w:World):(ReflectliteValue.parts (.agg #[.pointer (some ⟨1,193,none⟩),.pointer (some a),.int .u64 150])).run Tryz.prog w=.ok (some (193,a,150)) w:=by kernel_rfl
theorem ou(a p:Addr)(W:World)(ha:W.cell? a=some (.pointer (some p))):
  (ReflectliteValue.method (ReflectliteValue.valueError "reflectlite.Value.IsNil" 0) ReflectliteValue.isNil #[.agg #[.pointer (some ⟨1,197,none⟩),.pointer (some a),.int .u64 150]]).run Tryz.prog W =.ok (.bool false) W :=by
 rw [TM];simp only [Sem.run_bind,tG,d_];simp [ReflectliteValue.isNil,loadVar,isAgg,underlying,Tryz.underlying197,ha,d_]
theorem uD(a p:Addr)(W:World)(ha:W.cell? a=some (.pointer (some p))):
  (ReflectliteValue.method (ReflectliteValue.valueError "reflectlite.Value.IsNil" 0) ReflectliteValue.isNil #[.agg #[.pointer (some ⟨1,193,none⟩),.pointer (some a),.int .u64 150]]).run Tryz.prog W =.ok (.bool false) W :=by
 rw [TM];simp only [Sem.run_bind,mB,d_];simp [ReflectliteValue.isNil,loadVar,isAgg,underlying,Tryz.underlying193,ha,d_]
instance :G1 Tryz.prog 255 (ReflectliteType.method fun t =>do Rtype.noPackHeld "Comparable" t; pure (.bool (← typeInfo t).comparable)) :=⟨@run_callFunc_extern Tryz.prog 255 _ _ Tryz.func255 Ch Ch Ch Ch⟩
theorem ah(w :World) :((ReflectliteType.method fun t =>do Rtype.noPackHeld "Comparable" t; pure (.bool (← typeInfo t).comparable)) #[.agg #[.pointer (some ⟨1,41,none⟩)]]).run Tryz.prog w =.ok (.bool true) w :=by kernel_rfl
end
section
open Go Go.RowKit Go.Extern.Stop Go.Stop Go.Extern
set_option linter.unusedVariables false
set_option maxRecDepth 20000
set_option maxHeartbeats 800000
variable{B:World}
abbrev Ek(k:Nat):Value:=.iface 41 (.int .i64 k)
abbrev Eg(t:TypeId):Value:=.iface 282 (.agg #[.pointer (some ⟨1,t,none⟩)])
theorem W? (k:Nat)(tg a1 a2 a3:Value)(H:HP):Fn Tryz.prog B 123 [Ek k,tg,.agg #[a1,a2,a3],Eg 191] H (fun v H'=>v=.bool false∧H'=H):=by
 refine mI Tryz.func123 ?_;refine J2 ?_;refine AV (DP (l:=[a1,a2,a3]) rfl rfl) rfl ?_;rintro _ _ ⟨b6,rfl,rfl⟩;refine J4 ?_;refine BL (fun _:Unit=>[(0,Ek k),(1,tg),(3,Eg 191),(6,ptr b6 0)]) (fun _=>HP.AA b6 0 [a1,a2,a3]*H) (fun _=>True) (fun _=>0) () trivial B4 rfl ?_;intro _ _;refine J5 ?_;refine JL RU ?_;refine J1 ?_;refine JL (IC rfl rfl (fun w _=>xD w)) ?_;refine J2 ?_;refine mc (fun hc=>?_) (fun hc=>?_)
 ·cases hc
 refine J6 ?_;refine JL Tc ?_;refine BV ?_;refine CU 31 rfl (fun hg1=>?_) (fun hg1=>?_)
 ·cases hg1
 refine Fh ?_;refine JK ?_;refine JJ ?_;refine By ?_;refine JL Tc ?_;refine J4 ?_;refine mc (fun hc=>?_) (fun hc=>?_)
 ·cases hc
 refine J2 ?_;refine JL Tc ?_;refine J4 ?_;refine mc (fun hc=>?_) (fun hc=>?_)
 ·cases hc
 refine Iw ?_;exact mR [8] H rfl rfl CO
theorem ff(k:Nat)(tg old:Value)(b5 b14:Nat)(R:HP):Fn Tryz.prog B 123 [Ek k,tg,.agg #[.pointer (some ⟨1,197,none⟩),ptr b14 0,.int .u64 150],Eg 41] (HP.AA b5 0 [old]*(HP.AA b14 0 [ptr b5 0]*R))
  (fun v H'=>v=.bool true∧H'=HP.AA b5 0 [.int .i64 k]*(HP.AA b14 0 [ptr b5 0]*R)):=by
 refine mI Tryz.func123 ?_;refine J2 ?_;refine AV (DP (l:=[.pointer (some ⟨1,197,none⟩),ptr b14 0,.int .u64 150]) rfl rfl) rfl ?_;rintro _ _ ⟨b6,rfl,rfl⟩;refine J4 ?_;refine BL (fun _:Unit=>[(0,Ek k),(1,tg),(3,Eg 41),(6,ptr b6 0)]) (fun _=>HP.AA b6 0 [.pointer (some ⟨1,197,none⟩),ptr b14 0,.int .u64 150]*(HP.AA b5 0 [old]*(HP.AA b14 0 [ptr b5 0]*R))) (fun _=>True) (fun _=>0) () trivial B4 rfl ?_;intro _ _;refine J5 ?_;refine JL RU ?_;refine J1 ?_;refine JL (IC rfl rfl (fun w _=>F! w)) ?_;refine J2 ?_;refine mc (fun hc=>?_) (fun hc=>?_);rotate_left
 ·cases hc
 refine J3 ?_;refine JL (KW (v:=.agg #[.pointer (some ⟨1,41,none⟩),ptr b5 0,.int .u64 386]) rfl (fun w hw=>o0 ⟨b14,0,none⟩ ⟨b5,0,none⟩ w ((inferInstance:Rd B (HP.AA b6 0 [.pointer (some ⟨1,197,none⟩),ptr b14 0,.int .u64 150]*(HP.AA b5 0 [old]*(HP.AA b14 0 [ptr b5 0]*R))) b14 0 (ptr b5 0) True).get w hw trivial))) ?_;refine J1 ?_;refine AV (NR (Post:=fun v H'=>∃b,v=.agg #[.pointer (some ⟨1,41,none⟩),ptr b 0,.int .u64 130]∧H'=HP.AA b 0 [.int .i64 k]*(HP.AA b6 0 [.pointer (some ⟨1,197,none⟩),ptr b14 0,.int .u64 150]*(HP.AA b5 0 [old]*(HP.AA b14 0 [ptr b5 0]*R)))) rfl (fun w hw=>⟨_,_,_,xM _ w,⟨w.heap.size,rfl,rfl⟩,hw.alloc _ _⟩)) rfl ?_;rintro _ _ ⟨b23,rfl,rfl⟩
 refine AV (NR (Post:=fun v H'=>H'=HP.AA b23 0 [.int .i64 k]*(HP.AA b6 0 [.pointer (some ⟨1,197,none⟩),ptr b14 0,.int .u64 150]*(HP.AA b5 0 [.int .i64 k]*(HP.AA b14 0 [ptr b5 0]*R)))) rfl (fun w hw=>by
 have hb:=(inferInstance:Rd B (HP.AA b23 0 [.int .i64 k]*(HP.AA b6 0 [.pointer (some ⟨1,197,none⟩),ptr b14 0,.int .u64 150]*(HP.AA b5 0 [old]*(HP.AA b14 0 [ptr b5 0]*R)))) b23 0 (.int .i64 k) True).get w hw trivial
 obtain⟨⟨u,hu⟩,hf,hs⟩:=Sat.store (v:=.int .i64 k) (H':=HP.AA b23 0 [.int .i64 k]*(HP.AA b6 0 [.pointer (some ⟨1,197,none⟩),ptr b14 0,.int .u64 150]*(HP.AA b5 0 [.int .i64 k]*(HP.AA b14 0 [ptr b5 0]*R)))) (s:=True) (b:=b5) (i:=0) inferInstance hw trivial
 exact⟨_,_,_,ez ⟨b5,0,none⟩ ⟨b23,0,none⟩ k u w hb hu hf,rfl,hs⟩)) rfl ?_
 rintro _ _ rfl;refine CR ?_;exact mR [8] (HP.AA b5 0 [.int .i64 k]*(HP.AA b14 0 [ptr b5 0]*R)) rfl rfl CO
theorem wI(hG:B.cell? ⟨0,0,none⟩=some (Eg 106))(k:Nat)(old:Value)(b4:Nat)(R:HP):Fn Tryz.prog B 79 [Ek k,.iface 193 (ptr b4 0)] (HP.AA b4 0 [old]*R) (fun v H'=>v=.bool false∧H'=HP.AA b4 0 [old]*R):=by
 refine V4 ?_;refine mc (fun hc=>?_) (fun hc=>?_)
 ·cases hc
 refine J6 ?_;refine ME ?_;refine mc (fun hc=>?_) (fun hc=>?_)
 ·cases hc
 refine J5 ?_;refine AV iV rfl ?_;rintro _ _ ⟨b14,rfl,rfl⟩;refine Me ?_;rintro _ _ ⟨b5,rfl,rfl⟩;refine nA ?_;refine CJ 20 rfl (fun hg1=>?_) (fun hg1=>?_)
 ·exact absurd rfl hg1
 refine JA ?_;refine JL kV ?_;refine Iq ?_;refine mc (fun hc=>?_) (fun hc=>?_)
 ·cases hc
 refine eW ?_;refine CJ 30 rfl (fun hg2=>?_) (fun hg2=>?_)
 ·refine KV ?_;refine JL YS ?_;refine JC ?_;refine JL tC ?_;refine UJ ?_;refine mc (fun hc=>?_) (fun hc=>?_)
  ·cases hc
  refine J8 ?_;refine mE rfl (W? k _ _ _ _ _) ?_;refine E5 ?_;exact mR [4] (HP.AA b4 0 [old]*R) rfl rfl CO
 exact absurd Ci hg2
theorem l7(hG:B.cell? ⟨0,0,none⟩=some (Eg 106))(k:Nat)(old:Value)(b4:Nat)(R:HP):Fn Tryz.prog B 79 [Ek k,.iface 197 (ptr b4 0)] (HP.AA b4 0 [old]*R) (fun v H'=>v=.bool true∧H'=HP.AA b4 0 [.int .i64 k]*R):=by
 refine V4 ?_;refine mc (fun hc=>?_) (fun hc=>?_)
 ·cases hc
 refine J6 ?_;refine ME ?_;refine mc (fun hc=>?_) (fun hc=>?_)
 ·cases hc
 refine J5 ?_;refine AV (NR (Post:=fun v H'=>∃b,v=.agg #[.pointer (some ⟨1,197,none⟩),ptr b 0,.int .u64 150]∧H'=HP.AA b 0 [ptr b4 0]*(HP.AA b4 0 [old]*R)) rfl (fun w hw=>⟨_,_,_,O! _ w,⟨w.heap.size,rfl,rfl⟩,hw.alloc _ _⟩)) rfl ?_;rintro _ _ ⟨b14,rfl,rfl⟩;refine Me ?_;rintro _ _ ⟨b5,rfl,rfl⟩;refine Fi ?_;refine J5 ?_;refine JL (KW rfl (fun w _=>f5 _ w)) ?_;refine J7 ?_;refine JL (IC rfl rfl (fun w _=>pi w)) ?_;refine JL lE ?_;refine J1 ?_;refine CJ 20 rfl (fun hg1=>?_) (fun hg1=>?_)
 ·exact absurd rfl hg1
 refine JA ?_;refine JL (KW rfl (fun w hw=>ou ⟨b14,0,none⟩ ⟨b4,0,none⟩ w ((inferInstance:Rd B _ b14 0 (ptr b4 0) True).get w hw trivial))) ?_;refine Iq ?_;refine mc (fun hc=>?_) (fun hc=>?_)
 ·cases hc
 refine J5 ?_;refine JL (IC rfl rfl (fun w _=>uM w)) ?_;refine J7 ?_;refine JL (IC rfl rfl (fun w _=>uW w)) ?_;refine JL (GP (i:=2) (j:=20) rfl rfl) ?_;refine J1 ?_;refine CJ 30 rfl (fun hg2=>?_) (fun hg2=>?_)
 ·refine KV ?_;refine JL YS ?_;refine JC ?_;refine JL (IC rfl rfl (fun w _=>su w)) ?_;refine UJ ?_;refine mc (fun hc=>?_) (fun hc=>?_)
  ·cases hc
  refine J8 ?_;refine Aw (H':=HP.AA b4 0 [old]*(HP.AA b14 0 [ptr b4 0]*(HP.AA b5 0 [.pointer (some ⟨1,197,none⟩),ptr b14 0,.int .u64 150]*R))) Cm ?_;refine mE rfl (ff k _ old b4 b14 (HP.AA b5 0 [.pointer (some ⟨1,197,none⟩),ptr b14 0,.int .u64 150]*R)) ?_;refine E5 ?_;exact mR [4] (HP.AA b4 0 [.int .i64 k]*R) rfl rfl CO
 exact absurd Ci hg2
theorem ui(j k:Int)(w:World):(binOp .eql 106 (.iface 41 (.int .i64 j)) (.iface 41 (.int .i64 k))).run Tryz.prog w=.ok (.bool (j==k)) w:=by kernel_rfl
theorem xF(k:Nat)(H:HP):Fn Tryz.prog B 125 [Ek k,Ek k,.bool true] H (fun v H'=>v=.bool true∧H'=H):=by
 refine mI Tryz.func125 ?_;refine J6 ?_;refine BL (fun _:Unit=>[(0,Ek k),(1,Ek k),(2,.bool true)]) (fun _=>H) (fun _=>True) (fun _=>0) () trivial CS rfl ?_;intro _ _;refine J6 ?_;refine CU 15 rfl (fun hg1=>?_) (fun hg1=>?_)
 ·refine Im ?_;refine JL ZL ?_;refine GO ?_;refine J2 ?_;refine mc (fun hc=>?_) (fun hc=>?_);rotate_left
  ·cases hc
  refine By ?_;exact mr [6] rfl rfl CO
 cases hg1
theorem dh(k:Nat)(H:HP):Fn Tryz.prog B 80 [Ek k,Ek k] H (fun v H'=>v=.bool true∧H'=H):=by
 refine mI Tryz.func80 ?_;refine J9 ?_;refine Ka ?_;refine J1 ?_;refine CU 8 rfl (fun hg1=>?_) (fun hg1=>?_)
 ·cases hg1
 refine Ky ?_;refine Ka ?_;refine JK ?_;refine mc (fun hc=>?_) (fun hc=>?_)
 ·cases hc
 refine J5 ?_;refine JL RU ?_;refine JL jM ?_;refine J8 ?_;refine mE rfl (xF k _) ?_;refine E5 ?_;exact Ol
end
section
def AM{α:Type}(f:α→HP)(l:List α):HP:=l.foldr (fun a H=>f a*H) HP.BQ
theorem FG{α:Type}(f:α→HP):AM f []=HP.BQ:=rfl
theorem Fx{α:Type}(f:α→HP)(a:α)(l:List α):AM f (a::l)=f a*AM f l:=rfl
theorem Kf{α:Type}(f:α→HP)(l m:List α):AM f (l++m)=AM f l*AM f m:=by
 induction l with
 |nil=>rw [h_,FG,HP.BA]
 |cons a l ih=>rw [s_,Fx,Fx,ih,HP.assoc]
def BX{α:Type}(f:α→HP)(l:List α)(k:Nat):HP:=AM f (l.take k)*AM f (l.drop (k+1))
theorem Md{α:Type}(f:α→HP)(l:List α)(k:Nat)(y:α)(hk:k<l.length):AM f (l.set k y)=f y*BX f l k:=by
 rw [g',if_pos hk,Kf,Fx,BX,HP.C8]
theorem O8{α:Type}(l:List α)(k:Nat)(d:α)(hk:k<l.length):l.set k (l.getD k d)=l:=by
 rw [a_,b_ hk,Option.getD_some,List.set_getElem_self]
theorem MR{α:Type}(f:α→HP)(l:List α)(k:Nat)(d:α)(hk:k<l.length):AM f l=f (l.getD k d)*BX f l k:=by
 conv=>lhs;rw [←O8 l k d hk]
 exact Md f l k _ hk
def Kj{α:Type}[AB α](b o:Nat)(xs:List α)(s:List Value)(k:Nat):HP:=HP.AA b o (AE (xs.take k))*HP.AA b (o+(k+1)*AB.sz α) (AE (xs.drop (k+1))++s)
theorem P1{α:Type}[AB α](b o:Nat)(xs:List α)(s:List Value)(k:Nat)(y:α)(hk:k<xs.length):AD b o (xs.set k y) s=HP.AA b (o+k*AB.sz α) (AB.Am y)*Kj b o xs s k:=by
 unfold AD Kj;rw [g',if_pos hk,E0,List.append_assoc,HP.Ft]
 have e1:(AE (xs.take k)).length=k*AB.sz α:=by rw [CD,k_,Nat.min_eq_left Cg]
 have e2:AE (y::xs.drop (k+1))++s=AB.Am y++(AE (xs.drop (k+1))++s):=by simp [AE]
 rw [e2,HP.Ft,e1,AB.len,HP.C8,Nat.add_assoc o,←Nat.succ_mul]
theorem Sa{α:Type}[AB α](b o:Nat)(xs:List α)(s:List Value)(k:Nat)(d:α)(hk:k<xs.length):AD b o xs s=HP.AA b (o+k*AB.sz α) (AB.Am (xs.getD k d))*Kj b o xs s k:=by
 conv=>lhs;rw [←O8 xs k d hk]
 exact P1 b o xs s k _ hk
def Dt(n:Nat):Value:=if n=0 then .nilIface else Ek n
theorem UE{n:Nat}(h:n≠0):Dt n=Ek n:=by unfold Dt;rw [if_neg h]
section
variable{B:World}{n:Nat}{E:A6}{H:HP}{d:Option Tmp}{T' ty:TypeId}{pos:String}{af:Array Edge}{g:Option (Nat×Bool)}{x y:Operand}
theorem qq{t k:Nat}(hx:ev E (.tmp t)=some (Dt k)):Aa Tryz.prog B n ⟨d,.binOp .neq 106 (.tmp t) (.const .nilIface) T',ty,pos,af,g⟩ E H (.bool (decide (k≠0))):=by
 by_cases h:k=0
 ·subst h;exact Lu (u:=.nilIface) (v:=.nilIface) (r:=.bool false) hx rfl (fun w=>by kernel_rfl) (fun w=>by kernel_rfl)
 ·rw [UE h]at hx;rw [show decide (k≠0)=true by simpa using h];exact Lu (u:=Ek k) (v:=.nilIface) (r:=.bool true) hx rfl (fun w=>by kernel_rfl) (fun w=>by kernel_rfl)
end
structure Ae where
 p:Option Addr
 b:Nat
 o:Nat
 c:Nat
 s:List Value
def Ae.ok{α:Type}[AB α](a:Ae)(xs:List α):Prop:=Sl a.p a.b a.o xs.length a.c∧xs.length*AB.sz α+a.s.length=a.c*AB.sz α
abbrev Ae.v(a:Ae)(k:Nat):Value:=.slice a.p k a.c
abbrev Ae.h{α:Type}[AB α](a:Ae)(xs:List α):HP:=AD a.b a.o xs a.s
structure Bo where
 w:Ai
 a:Ae
 sq:Nat
 sa:B9
 cq:Nat
 ca:B9
@[reducible] def Bz(m:Bo):List Value:=[.slice m.a.p m.w.b.length m.a.c,ptr m.sq 0,ptr m.cq 0,uN m.w.high,.bool m.w.finished,.bool m.w.ending,.bool m.w.ended,.bool m.w.given,uN m.w.code,.bool m.w.Da]
@[reducible] instance:AB Bo:=⟨10,Bz,⟨BD,⟨none,0,0,0,[]⟩,0,Bi,0,Bi⟩,fun _=>rfl,fun _ v h=>by
 simp at h;rcases h with rfl|rfl|rfl|rfl|rfl|rfl|rfl|rfl|rfl|rfl<;>rfl⟩
def B6(m:Bo):HP:=AD m.a.b m.a.o m.w.b m.a.s*(AH m.sq m.sa m.w.AJ*AH m.cq m.ca m.w.AF)
def Bo.ok(m:Bo):Prop:=m.a.ok m.w.b∧m.sa.ok m.w.AJ∧m.ca.ok m.w.AF
def BG(cb:Nat)(ws:List Bo):HP:=AD cb (0+43) ws []*AM B6 ws
def Cc(cb:Nat)(ws:List Bo)(k:Nat):HP:=Kj cb (0+43) ws [] k*BX B6 ws k
theorem K8(cb:Nat)(ws:List Bo)(k:Nat)(hk:k<ws.length):BG cb ws=HP.AA cb (0+43+k*10) (Bz (ws.getD k AB.AC))*(B6 (ws.getD k AB.AC)*Cc cb ws k):=by
 unfold BG Cc;rw [Sa cb (0+43) ws [] k AB.AC hk,MR B6 ws k AB.AC hk];show HP.AA cb (0+43+k*10) (Bz (ws.getD k AB.AC))*_*_=_;ac_rfl
theorem Mq(cb:Nat)(ws:List Bo)(k:Nat)(y:Bo)(hk:k<ws.length):BG cb (ws.set k y)=HP.AA cb (0+43+k*10) (Bz y)*(B6 y*Cc cb ws k):=by
 unfold BG Cc;rw [P1 cb (0+43) ws [] k y hk,Md B6 ws k y hk];show HP.AA cb (0+43+k*10) (Bz y)*_*_=_;ac_rfl
structure D4 where
 r:Ce
 a:Ae
 cq:Nat
 ca:B9
@[reducible] def Dr(m:D4):List Value:=[.slice m.a.p m.r.b.length m.a.c,ptr m.cq 0,uN m.r.high,uN m.r.end_,.bool m.r.ended,.bool m.r.given,uN m.r.code,uN m.r.read,iN m.r.state]
@[reducible] instance:AB D4:=⟨9,Dr,⟨KQ,⟨none,0,0,0,[]⟩,0,Bi⟩,fun _=>rfl,fun _ v h=>by
 simp at h;rcases h with rfl|rfl|rfl|rfl|rfl|rfl|rfl|rfl|rfl<;>rfl⟩
def C1(m:D4):HP:=AD m.a.b m.a.o m.r.b m.a.s*AH m.cq m.ca m.r.AF
def D4.ok(m:D4):Prop:=m.a.ok m.r.b∧m.ca.ok m.r.AF
def Bl(cb:Nat)(rs:List D4):HP:=AD cb (0+83) rs []*AM C1 rs
def Eo(cb:Nat)(rs:List D4)(k:Nat):HP:=Kj cb (0+83) rs [] k*BX C1 rs k
theorem uV(cb:Nat)(rs:List D4)(k:Nat)(hk:k<rs.length):Bl cb rs=HP.AA cb (0+83+k*9) (Dr (rs.getD k AB.AC))*(C1 (rs.getD k AB.AC)*Eo cb rs k):=by
 unfold Bl Eo;rw [Sa cb (0+83) rs [] k AB.AC hk,MR C1 rs k AB.AC hk];show HP.AA cb (0+83+k*9) (Dr (rs.getD k AB.AC))*_*_=_;ac_rfl
theorem i5(cb:Nat)(rs:List D4)(k:Nat)(y:D4)(hk:k<rs.length):Bl cb (rs.set k y)=HP.AA cb (0+83+k*9) (Dr y)*(C1 y*Eo cb rs k):=by
 unfold Bl Eo;rw [P1 cb (0+83) rs [] k y hk,Md C1 rs k y hk];show HP.AA cb (0+83+k*9) (Dr y)*_*_=_;ac_rfl
structure BS where
 number:Nat
 at_:Nat
 fs:List RF
 a:Ae
@[reducible] def CM(m:BS):List Value:=[uN m.number,uN m.at_,.slice m.a.p m.fs.length m.a.c]
@[reducible] instance:AB BS:=⟨3,CM,⟨0,0,[],⟨none,0,0,0,[]⟩⟩,fun _=>rfl,fun _ v h=>by
 simp at h;rcases h with rfl|rfl|rfl<;>rfl⟩
def BS.A5(m:BS):EN:=⟨m.number,m.at_,m.fs.map (·.f)⟩
def Az(m:BS):HP:=AD m.a.b m.a.o m.fs m.a.s
def BS.ok(m:BS):Prop:=m.a.ok m.fs
structure CC where
 AY:Nat
 AG:Nat
 ks:List UInt8
 first:Bool
 now:Nat
 closed:Nat
 code:Nat
 said:Bool
 next:Nat
 gq:Nat
 answer:Bool
 fv:Value
 lv:Value
 Bq:Nat
 waits:Nat
def AT(cb:Nat)(x:CC):HP:=
 HP.AA cb (0+0) [iN x.AY,iN x.AG]*(HP.AA cb (0+2) (AE x.ks++[u8 (BM x.first)])*(HP.AA cb (0+19) (AE x.ks++[u8 (BM (!x.first))])*(HP.AA cb (0+36) [uN x.now]*
 (HP.AA cb (0+37) [iN x.closed]*(HP.AA cb (0+38) [uN x.code]*(HP.AA cb (0+39) [.bool x.said]*(HP.AA cb (0+40) [uN x.next]*(HP.AA cb (0+41) [ptr x.gq 0]*(HP.AA cb (0+42) [.bool x.answer]*
 (HP.AA cb (0+119) [x.fv]*(HP.AA cb (0+120) [x.lv]*(HP.AA cb (0+121) [uN x.Bq]*HP.AA cb (0+122) [uN x.waits]))))))))))))
section
variable(cb:Nat)(x:CC)
instance:Cell (AT cb x) cb (0+0+0) (iN x.AY) True:=by unfold AT;infer_instance
instance:Cell (AT cb x) cb (0+0+1) (iN x.AG) True:=by unfold AT;infer_instance
instance:Cell (AT cb x) cb (0+36) (uN x.now) True:=by unfold AT;infer_instance
instance:Cell (AT cb x) cb (0+37) (iN x.closed) True:=by unfold AT;infer_instance
instance:Cell (AT cb x) cb (0+38) (uN x.code) True:=by unfold AT;infer_instance
instance:Cell (AT cb x) cb (0+39) (.bool x.said) True:=by unfold AT;infer_instance
instance:Cell (AT cb x) cb (0+40) (uN x.next) True:=by unfold AT;infer_instance
instance:Cell (AT cb x) cb (0+41) (ptr x.gq 0) True:=by unfold AT;infer_instance
instance:Cell (AT cb x) cb (0+42) (.bool x.answer) True:=by unfold AT;infer_instance
instance:Cell (AT cb x) cb (0+119) x.fv True:=by unfold AT;infer_instance
instance:Cell (AT cb x) cb (0+120) x.lv True:=by unfold AT;infer_instance
instance:Cell (AT cb x) cb (0+121) (uN x.Bq) True:=by unfold AT;infer_instance
instance:Cell (AT cb x) cb (0+122) (uN x.waits) True:=by unfold AT;infer_instance
instance(v:Nat):C5 (AT cb x) cb (0+36) (uN v) (AT cb {x with now:=v}) True:=by unfold AT;infer_instance
instance(v:Nat):C5 (AT cb x) cb (0+37) (iN v) (AT cb {x with closed:=v}) True:=by unfold AT;infer_instance
instance(v:Nat):C5 (AT cb x) cb (0+38) (uN v) (AT cb {x with code:=v}) True:=by unfold AT;infer_instance
instance(v:Bool):C5 (AT cb x) cb (0+39) (.bool v) (AT cb {x with said:=v}) True:=by unfold AT;infer_instance
instance(v:Nat):C5 (AT cb x) cb (0+40) (uN v) (AT cb {x with next:=v}) True:=by unfold AT;infer_instance
instance(v:Bool):C5 (AT cb x) cb (0+42) (.bool v) (AT cb {x with answer:=v}) True:=by unfold AT;infer_instance
instance(v:Value):C5 (AT cb x) cb (0+119) v (AT cb {x with fv:=v}) True:=by unfold AT;infer_instance
instance(v:Value):C5 (AT cb x) cb (0+120) v (AT cb {x with lv:=v}) True:=by unfold AT;infer_instance
instance(v:Nat):C5 (AT cb x) cb (0+121) (uN v) (AT cb {x with Bq:=v}) True:=by unfold AT;infer_instance
instance(v:Nat):C5 (AT cb x) cb (0+122) (uN v) (AT cb {x with waits:=v}) True:=by unfold AT;infer_instance
end
structure Ah where
 x:CC
 AO:BH
 ga:B9
 ws:List Bo
 rs:List D4
 fl:List BS
 lo:List BS
 fa:Ae
 la:Ae
def Ah.s(m:Ah):AL:=
 ⟨m.x.AY,m.x.AG,m.x.ks,m.x.first,m.x.now,m.x.closed,m.x.code,m.x.said,m.x.next,m.AO,m.x.answer,m.ws.map (·.w),m.rs.map (·.r),m.fl.map (·.A5),m.lo.map (·.A5),m.x.Bq,m.x.waits⟩
structure Ah.ok(m:Ah):Prop where
 g:m.ga.ok m.AO
 ws:∀w∈m.ws,w.ok
 rs:∀r∈m.rs,r.ok
 fl:∀p∈m.fl,p.ok
 lo:∀p∈m.lo,p.ok
 fa:m.fa.ok m.fl
 la:m.la.ok m.lo
 fv:m.x.fv=m.fa.v m.fl.length
 lv:m.x.lv=m.la.v m.lo.length
def Di(m:Ah):HP:=m.fa.h m.fl*(m.la.h m.lo*(AM Az m.fl*AM Az m.lo))
def Ac(cb:Nat)(m:Ah):HP:=AT cb m.x*(AH m.x.gq m.ga m.AO*(BG cb m.ws*(Bl cb m.rs*Di m)))
theorem Ah.Nf(m:Ah)(k:Nat)(hk:k<m.ws.length):m.s.w k=(m.ws.getD k AB.AC).w:=by
 unfold AL.w Ah.s;simp only [a_,q_,b_ hk];rfl
theorem Ah.Sc(m:Ah)(k:Nat)(hk:k<m.rs.length):m.s.r k=(m.rs.getD k AB.AC).r:=by
 unfold AL.r Ah.s;simp only [a_,q_,b_ hk];rfl
theorem Ex{α:Type}{l:List α}{k:Nat}{d:α}(hk:k<l.length):l.getD k d∈l:=by
 rw [a_,b_ hk];exact q' hk
theorem JS{α:Type}{l:List α}{k:Nat}{y a:α}{P:α→Prop}(h:∀a∈l,P a)(hy:P y)(ha:a∈l.set k y):P a:=by
 rcases List.mem_or_eq_of_mem_set ha with h1|rfl
 ·exact h a h1
 ·exact hy
end
section
variable{B:World}
def EI(closed:Nat)(k:Int):Nat:=if closed≠0 then 9 else if k<0∨4≤k then 2 else 0
theorem I1{closed:Nat}{k:Int}(h:EI closed k=0):closed=0∧∃j:Nat,k=j∧j<4:=by
 unfold EI at h;split at h
 ·cases h
 split at h
 ·cases h
 ·exact⟨Cg,k.toNat,Cg,Cg⟩
theorem Hw(m:Ah)(k:Int):m.s.stream k=EI m.x.closed k:=rfl
theorem f7(cb closed:Nat)(k:Int)(H:HP)[hc:Rd B H cb (0+37) (iN closed) True]:
  Fn Tryz.prog B 132 [ptr cb 0,.int .i64 k] H (fun v H'=>v=Dt (EI closed k)∧H'=H):=by
 refine mI Tryz.func132 ?_;refine EP ?_;refine SM ?_;refine J3 ?_;refine mC (fun h5=>?_) (fun h5=>?_)
 ·refine J2 ?_;refine JL PL ?_;refine J6 ?_;exact mS
 refine J3 ?_;refine JL (JQ (i:=k) (j:=0) rfl rfl) ?_;refine J1 ?_;refine CJ 15 rfl (fun hg1=>?_) (fun hg1=>?_)
 ·refine JV ?_;refine JV ?_;refine JP ?_;refine J3 ?_;refine Xn ?_;refine J2 ?_;refine JL Zd ?_;refine J6 ?_;exact Rw
 refine JA ?_;refine JL (Jb (i:=k) (j:=4) rfl rfl) ?_;refine Jq ?_;refine J3 ?_;refine mC (fun h12=>?_) (fun h12=>?_)
 ·refine J2 ?_;refine JL Zd ?_;refine J6 ?_;exact Rw
 refine J9 ?_;exact mr [4] rfl rfl ⟨aS,rfl⟩
theorem rM(b o AG:Nat)(wm:Bo)(R:HP)(hok:wm.ok)(hw:EY AG wm.w):
  Fn Tryz.prog B 131 [ptr b o] (HP.AA b o (Bz wm)*(B6 wm*R)) (fun v H'=>v=iN wm.w.B2∧H'=HP.AA b o (Bz wm)*(B6 wm*R)):=by
 refine mI Tryz.func131 ?_;refine J2 ?_;refine CZ ?_;refine Aq (H':=HP.AA b o (Bz wm)*(AD wm.a.b wm.a.o wm.w.b wm.a.s*(AH wm.sq wm.sa wm.w.AJ*(AH wm.cq wm.ca wm.w.AF*R)))) O2 ?_;have hl:=hw.len;have hpl:=hw.NK;refine mA 16 16 ?_;refine KA ?_;refine JT 8 rfl Dm ?_;refine JT 9 rfl EM ?_;refine Al 10 Ch rfl rfl (BK rfl (Ra wm.cq 0 wm.w.b.length wm.w.b.length wm.ca wm.w.AF _ hok.2.2 hw.co Cg (by have h7:=hw.co.len;rw [hw.cm]at h7;omega))) ?_;refine Gj ?_;refine Jm 11 ?_;refine JT 12 rfl Gk ?_;refine JT 13 rfl Gk ?_;refine Ja 14 ?_;refine Ja 15 ?_;refine M6 ?_;refine JL (Gt rfl (Q8 (by show(AR 0 wm.w.b.length wm.w.AF.l).1<_;have h8:(AR 0 wm.w.b.length wm.w.AF.l).1≤wm.w.b.length:=hpl;omega))) ?_;refine J4 ?_;exact mR [2] (HP.AA b o (Bz wm)*(B6 wm*R)) (hE:=by unfold B6;infer_instance) rfl rfl CO
def N9(cb e:Nat)(k:Int):Value:=if e=0 then ptr cb (0+43+k.toNat*10)else .pointer none
theorem bw(m:Ah)(k:Int)(j:Nat)(hl:m.ws.length=4)(hs:EI m.x.closed k=0)(hk:k=j)(hj:j<4):
  m.s.E9 k=if(m.ws.getD j AB.AC).w.finished=true∨(m.ws.getD j AB.AC).w.given=true then 3 else 0:=by
 subst hk;unfold AL.E9;rw [Hw,if_neg Cg,c_,m.Nf j Cg]
theorem gI(m:Ah)(k:Int)(hs:EI m.x.closed k≠0):m.s.E9 k=EI m.x.closed k:=by
 unfold AL.E9;rw [Hw,if_pos hs]
theorem vV(cb:Nat)(m:Ah)(k:Int)(R:HP)(hl:m.ws.length=4):
  Fn Tryz.prog B 130 [ptr cb 0,.int .i64 k] (AT cb m.x*(BG cb m.ws*R)) (fun v H'=>v=.tuple #[N9 cb (m.s.E9 k) k,Dt (m.s.E9 k)]∧H'=AT cb m.x*(BG cb m.ws*R)):=by
 refine mI Tryz.func130 ?_;refine BV ?_;refine TI ?_;refine mC (fun h12=>?_) (fun h12=>?_)
 ·refine J9 ?_;exact mr [4,5] rfl rfl ⟨by rw [gI m k h12];unfold N9;rw [if_neg h12];rfl,rfl⟩
 obtain⟨hcl,j,rfl,hj⟩:=I1 (by simpa using h12:EI m.x.closed k=0)
 have hjl:j<m.ws.length:=by omega
 refine J3 ?_;refine Aq (H':=AT cb m.x*(HP.AA cb (0+43+j*10) (Bz (m.ws.getD j AB.AC))*(B6 (m.ws.getD j AB.AC)*(Cc cb m.ws j*R)))) (by rw [K8 cb m.ws j hjl];ac_rfl) ?_;have hoe:=bw m (j:Int) j hl (by simpa using h12) rfl hj;refine J5 ?_;refine JL PA ?_;refine BV ?_;refine CU 23 rfl (fun hg1=>?_) (fun hg1=>?_)
 ·refine Fh ?_;refine SJ ?_;refine JL QL ?_;refine J6 ?_;exact mR [4,5] (AT cb m.x*(BG cb m.ws*R)) (hE:=by rw [K8 cb m.ws j hjl];infer_instance) rfl rfl ⟨by rw [hoe,if_pos (.inl hg1)];rfl,rfl⟩
 refine LQ ?_;refine Mn ?_;refine JK ?_;refine mc (fun h28=>?_) (fun h28=>?_)
 ·refine J2 ?_;refine JL QL ?_;refine J6 ?_;exact mR [4,5] (AT cb m.x*(BG cb m.ws*R)) (hE:=by rw [K8 cb m.ws j hjl];infer_instance) rfl rfl ⟨by rw [hoe,if_pos (.inr h28)];rfl,rfl⟩
 refine By ?_;exact mR [4,5] (AT cb m.x*(BG cb m.ws*R)) (hE:=by rw [K8 cb m.ws j hjl];infer_instance) rfl rfl ⟨by rw [hoe,if_neg (by rw [hg1,h28];simp)];rfl,rfl⟩
theorem Ah.OG{t:Nat}{m:Ah}(h:Ak t m.s):m.ws.length=4:=by have:=h.ws.len;simpa [Ah.s]using this
theorem Ah.RA{t:Nat}{m:Ah}(h:Ak t m.s):m.rs.length=4:=by have:=h.rl;simpa [Ah.s]using this
theorem Ah.UF{t:Nat}{m:Ah}(h:Ak t m.s){k:Nat}(hk:k<4):EY m.x.AG (m.ws.getD k AB.AC).w:=by
 have:=h.ws.ok k hk
 have e:m.s.ws.getD k BD=(m.ws.getD k AB.AC).w:=m.Nf k (by rw [Ah.OG h];exact hk);rw [e]at this;exact this
theorem Ah.VE{t:Nat}{m:Ah}(h:Ak t m.s){k:Nat}(hk:k<4):GK m.x.AG t (m.rs.getD k AB.AC).r:=by
 have:=h.rs k hk
 rw [m.Sc k (by rw [Ah.RA h];exact hk)]at this;exact this
def Ah.C4(m:Ah)(k:Nat)(w:Bo):Ah:={m with ws:=m.ws.set k w}
theorem Ah.V8(m:Ah)(k:Nat)(w:Bo):(m.C4 k w).s=m.s.C4 k w.w:=by
 unfold Ah.C4 Ah.s AL.C4;simp only [w_]
theorem Ah.ok.C4{m:Ah}(h:m.ok){k:Nat}{w:Bo}(hw:w.ok):(m.C4 k w).ok:=
 ⟨h.g,fun a ha=>JS (P:=Bo.ok) h.ws hw ha,h.rs,h.fl,h.lo,h.fa,h.la,h.fv,h.lv⟩
def Ah.Bs(m:Ah)(k:Nat)(r:D4):Ah:={m with rs:=m.rs.set k r}
theorem Ah.S8(m:Ah)(k:Nat)(r:D4):(m.Bs k r).s=m.s.Bs k r.r:=by
 unfold Ah.Bs Ah.s AL.Bs;simp only [w_]
theorem Ah.ok.Bs{m:Ah}(h:m.ok){k:Nat}{r:D4}(hr:r.ok):(m.Bs k r).ok:=
 ⟨h.g,h.ws,fun a ha=>JS (P:=D4.ok) h.rs hr ha,h.fl,h.lo,h.fa,h.la,h.fv,h.lv⟩
theorem sN{m:Ah}{k:Int}(h:m.s.E9 k=0):EI m.x.closed k=0:=by
 by_cases hs:EI m.x.closed k=0
 ·exact hs
 ·rw [gI m k hs]at h;exact absurd h hs
def GM(m:Ah)(cb:Nat):HP:=AH m.x.gq m.ga m.AO*(Bl cb m.rs*Di m)
theorem IS(cb:Nat)(m:Ah)(R:HP):Ac cb m*R=AT cb m.x*(BG cb m.ws*(GM m cb*R)):=by
 unfold Ac GM;ac_rfl
theorem QC(cb:Nat)(m:Ah)(R:HP)(j:Nat)(hj:j<m.ws.length):Ac cb m*R=AT cb m.x*(HP.AA cb (0+43+j*10) (Bz (m.ws.getD j AB.AC))*(B6 (m.ws.getD j AB.AC)*(Cc cb m.ws j*(GM m cb*R)))):=by
 rw [IS,K8 cb m.ws j hj];ac_rfl
theorem Ug(cb:Nat)(m:Ah)(R:HP)(j:Nat)(hj:j<m.ws.length)(y:Bo):Ac cb (m.C4 j y)*R=AT cb m.x*(HP.AA cb (0+43+j*10) (Bz y)*(B6 y*(Cc cb m.ws j*(GM m cb*R)))):=by
 rw [IS];show AT cb m.x*(BG cb (m.ws.set j y)*(GM (m.C4 j y) cb*R))=_;rw [Mq cb m.ws j y hj];show AT cb m.x*(HP.AA cb (0+43+j*10) (Bz y)*(B6 y*Cc cb m.ws j)*(GM m cb*R))=_;ac_rfl
theorem zS(cb t:Nat)(m:Ah)(k:Int)(xs:List UInt8)(p:Option Addr)(b o c:Nat)(R:HP)(hm:m.ok)(hi:Ak t m.s)(hs:Sl p b o xs.length c)(hr:AW B R b o xs):
  Fn Tryz.prog B 88 [ptr cb 0,.int .i64 k,.slice p xs.length c] (Ac cb m*R)
   (fun v H'=>∃m':Ah,m'.ok∧m'.s=(m.s.write k xs).2∧v=.tuple #[iN (m.s.write k xs).1.1,Dt (m.s.write k xs).1.2]∧H'=Ac cb m'*R):=by
 refine mI Tryz.func88 ?_;refine Aq PM ?_;refine GA ?_;refine J7 ?_;refine jP ?_;refine mC (fun h18=>?_) (fun h18=>?_)
 ·refine L1 ?_;refine J5 ?_;refine mR [6,7] (Ac cb m*R) (hE:=by rw [IS];infer_instance) rfl rfl ⟨m,hm,?_,?_,rfl⟩
  ·unfold AL.write;rw [if_pos h18]
  ·unfold AL.write;rw [if_pos h18];rfl
 have h18:m.s.E9 k=0:=by simpa using h18
 obtain⟨hcl,j,rfl,hj⟩:=I1 (sN h18)
 have hjl:j<m.ws.length:=by rw [Ah.OG hi];exact hj
 have hwok:=Ah.UF hi hj;have hwm:=hm.ws _ GI;have ewj:=m.Nf j hjl
 have hp0:N9 cb (m.s.E9 (j:Int)) (j:Int)=ptr cb (0+43+j*10):=by unfold N9;rw [if_pos h18,c_]
 generalize hwx:m.ws.getD j AB.AC=wm at hwok hwm ewj;have hbl:=hwok.len;have hpr:=hwok.NK;have hrm:=hwok.room;have hw2:=hi.w2;have hw2':m.x.AG≤1024:=hw2;refine OI (E':=[(8,ptr cb (0+43+j*10)),(0,ptr cb 0),(2,.slice p xs.length c)]) (.cons (by rw [←hp0];rfl) FX) ?_;refine Aq (H':=HP.AA cb (0+43+j*10) (Bz wm)*(B6 wm*(AT cb m.x*(Cc cb m.ws j*(GM m cb*R))))) Vh ?_;refine J3 ?_;refine mA 24 24 ?_;refine Jm 0 ?_;refine Jn 1 ?_;refine Jf 2 ?_;refine Jf 3 ?_;refine Jd 4 ?_;refine ML ?_;refine JT 9 rfl Dm ?_;refine Jm 10 ?_;refine Jm 14 ?_;refine Jn 15 ?_;refine Jf 16 ?_;refine Jd 17 ?_;refine JT 18 rfl Dm ?_;refine JT 19 rfl YK ?_;refine Jm 20 ?_;refine JT 21 rfl Dm ?_;refine Al 11 Ch rfl rfl (BK rfl (rM cb (0+43+j*10) m.x.AG wm _ hwm hwok)) ?_;refine JR ?_;refine⟨.inr inferInstance,?_⟩;refine JT 12 rfl Kq ?_;refine JT 13 rfl Kq ?_;refine JT 22 rfl (gx rfl rfl rfl) ?_;refine Ja 23 ?_;refine C3 ?_;have hnm:(min (min (m.x.AG-(wm.w.b.length-wm.w.B2)) (4096-wm.w.b.length)) xs.length)≤xs.length:=Nat.min_le_right _ _
 refine Aq (H':=AD wm.a.b wm.a.o wm.w.b wm.a.s*(HP.AA cb (0+43+j*10) (Bz wm)*(AT cb m.x*((AH wm.sq wm.sa wm.w.AJ*AH wm.cq wm.ca wm.w.AF)*(Cc cb m.ws j*(GM m cb*R)))))) O2 ?_
 have htl:(xs.take (min (min (m.x.AG-(wm.w.b.length-wm.w.B2)) (4096-wm.w.b.length)) xs.length)).length=(min (min (m.x.AG-(wm.w.b.length-wm.w.B2)) (4096-wm.w.b.length)) xs.length):=by rw [k_];omega
 refine Dc (HP.AA cb (0+43+j*10) (Bz wm)*(AT cb m.x*((AH wm.sq wm.sa wm.w.AJ*AH wm.cq wm.ca wm.w.AF)*(Cc cb m.ws j*(GM m cb*R))))) 11 12 Dg rfl Ch ?_;refine NC ?_;refine Jm 5 ?_;refine Jm 6 ?_;refine JT 7 rfl (Qi (k':=(xs.take (min (min (m.x.AG-(wm.w.b.length-wm.w.B2)) (4096-wm.w.b.length)) xs.length)).length) rfl rfl Cp htl) ?_;refine Al 8 Ch rfl rfl (Bf (ys:=xs.take (min (min (m.x.AG-(wm.w.b.length-wm.w.B2)) (4096-wm.w.b.length)) xs.length)) (bb:=b) (oo:=o) rfl hwm.1.1 hwm.1.2 rfl ⟨hs.1,Cp⟩ (let _:=hr;inferInstance) rfl Cg Cg) ?_;rintro _ _ ⟨p51,b51,o51,c51,s51,rfl,hs51,hc51,rfl⟩;refine BF ?_;refine YH ?_;refine J9 ?_
 have ewr:m.s.write (j:Int) xs=(((min (min (m.x.AG-(wm.w.b.length-wm.w.B2)) (4096-wm.w.b.length)) xs.length),0),m.s.C4 j {wm.w with b:=wm.w.b++xs.take (min (min (m.x.AG-(wm.w.b.length-wm.w.B2)) (4096-wm.w.b.length)) xs.length)}):=by
  unfold AL.write;rw [if_neg Cg,c_];unfold AL.GL;rw [ewj];rfl
 obtain⟨w2,hw2⟩:∃w2:Bo,w2={wm with w:={wm.w with b:=wm.w.b++xs.take (min (min (m.x.AG-(wm.w.b.length-wm.w.B2)) (4096-wm.w.b.length)) xs.length)},a:=⟨p51,b51,o51,c51,s51⟩}:=Bg
 have hok2:w2.ok:=by rw [hw2];exact⟨⟨hs51,hc51⟩,hwm.2⟩
 have hew:w2.w={wm.w with b:=wm.w.b++xs.take (min (min (m.x.AG-(wm.w.b.length-wm.w.B2)) (4096-wm.w.b.length)) xs.length)}:=by rw [hw2]
 refine mR [6,7] (Ac cb (m.C4 j w2)*R) (hE:=?_) rfl rfl ⟨m.C4 j w2,hm.C4 hok2,?_,?_,rfl⟩
 ·rw [Ug cb m R j hjl,hw2];refine⟨fun ww hw=>?_⟩;unfold B6;refine Eq.mp ?_ hw;congr 1;show AD b51 o51 _ s51*_=AT cb m.x*(HP.AA cb (0+43+j*10) [.slice p51 (wm.w.b++xs.take (min (min (m.x.AG-(wm.w.b.length-wm.w.B2)) (4096-wm.w.b.length)) xs.length)).length c51,ptr wm.sq 0,ptr wm.cq 0,uN wm.w.high,.bool wm.w.finished,.bool wm.w.ending,.bool wm.w.ended,.bool wm.w.given,uN wm.w.code,.bool wm.w.Da]*(AD b51 o51 (wm.w.b++xs.take (min (min (m.x.AG-(wm.w.b.length-wm.w.B2)) (4096-wm.w.b.length)) xs.length)) s51*(AH wm.sq wm.sa wm.w.AJ*AH wm.cq wm.ca wm.w.AF)*_));ac_rfl
 ·rw [Ah.V8,ewr,hew]
 ·rw [ewr];rfl
theorem qz(cb t:Nat)(m:Ah)(k:Int)(R:HP)(hm:m.ok)(hi:Ak t m.s):
  Fn Tryz.prog B 89 [ptr cb 0,.int .i64 k] (Ac cb m*R)
   (fun v H'=>∃m':Ah,m'.ok∧m'.s=(m.s.finish k).2∧v=Dt (m.s.finish k).1∧H'=Ac cb m'*R):=by
 refine mI Tryz.func89 ?_;refine Aq PM ?_;refine J9 ?_;refine jP ?_;refine mC (fun h18=>?_) (fun h18=>?_)
 ·refine J8 ?_;refine mR [4] (Ac cb m*R) (hE:=by first|(rw [IS];infer_instance)|(rw [QC cb m R j hjl,hwx];exact⟨fun ww hw=>by refine Eq.mp ?_ hw;congr 1;ac_rfl⟩)) rfl rfl ⟨m,hm,?_,?_,rfl⟩
  ·unfold AL.finish;rw [if_pos h18]
  ·unfold AL.finish;rw [if_pos h18];rfl
 have h18:m.s.E9 k=0:=by simpa using h18
 obtain⟨hcl,j,rfl,hj⟩:=I1 (sN h18)
 have hjl:j<m.ws.length:=by rw [Ah.OG hi];exact hj
 have hwok:=Ah.UF hi hj;have hwm:=hm.ws _ GI;have ewj:=m.Nf j hjl
 have hp0:N9 cb (m.s.E9 (j:Int)) (j:Int)=ptr cb (0+43+j*10):=by unfold N9;rw [if_pos h18,c_]
 generalize hwx:m.ws.getD j AB.AC=wm at hwok hwm ewj;refine OI (E':=[(5,ptr cb (0+43+j*10)),(0,ptr cb 0)]) (.cons (by rw [←hp0];rfl) Tg) ?_;refine Aq (H':=HP.AA cb (0+43+j*10) (Bz wm)*(B6 wm*(AT cb m.x*(Cc cb m.ws j*(GM m cb*R))))) Vh ?_;refine YB ?_
 obtain⟨w2,hw2⟩:∃w2:Bo,w2={wm with w:={wm.w with finished:=true}}:=Bg
 have hok2:w2.ok:=by rw [hw2];exact hwm
 have hew:w2.w={wm.w with finished:=true}:=by rw [hw2]
 have ewr:m.s.finish (j:Int)=(0,m.s.C4 j {wm.w with finished:=true}):=by
  unfold AL.finish;rw [if_neg Cg,c_,ewj]
 refine mR [4] (Ac cb (m.C4 j w2)*R) (hE:=?_) rfl rfl ⟨m.C4 j w2,hm.C4 hok2,by rw [Ah.V8,ewr,hew],Cu,rfl⟩;rw [Ug cb m R j hjl,hw2];refine⟨fun ww hw=>?_⟩;refine Eq.mp ?_ hw;congr 1;show _=AT cb m.x*(HP.AA cb (0+43+j*10) [.slice wm.a.p wm.w.b.length wm.a.c,ptr wm.sq 0,ptr wm.cq 0,uN wm.w.high,.bool true,.bool wm.w.ending,.bool wm.w.ended,.bool wm.w.given,uN wm.w.code,.bool wm.w.Da]*(B6 wm*_));ac_rfl
theorem cw(cb t:Nat)(m:Ah)(k:Int)(code:Nat)(R:HP)(hm:m.ok)(hi:Ak t m.s):
  Fn Tryz.prog B 90 [ptr cb 0,.int .i64 k,uN code] (Ac cb m*R)
   (fun v H'=>∃m':Ah,m'.ok∧m'.s=(m.s.giveUp k code).2∧v=Dt (m.s.giveUp k code).1∧H'=Ac cb m'*R):=by
 refine mI Tryz.func90 ?_;refine Aq PM ?_;refine By ?_;refine TI ?_;refine mC (fun h13=>?_) (fun h13=>?_)
 ·refine J8 ?_;refine mR [6] (Ac cb m*R) (hE:=by first|(rw [IS];infer_instance)|(rw [QC cb m R j hjl,hwx];exact⟨fun ww hw=>by refine Eq.mp ?_ hw;congr 1;ac_rfl⟩)) rfl rfl ⟨m,hm,?_,?_,rfl⟩
  ·unfold AL.giveUp;rw [Hw,if_pos h13]
  ·unfold AL.giveUp;rw [Hw,if_pos h13];rfl
 obtain⟨hcl,j,rfl,hj⟩:=I1 (by simpa using h13:EI m.x.closed k=0)
 have h13:EI m.x.closed (j:Int)=0:=by simpa using h13
 have hjl:j<m.ws.length:=by rw [Ah.OG hi];exact hj
 have hwok:=Ah.UF hi hj;have hwm:=hm.ws _ GI;have ewj:=m.Nf j hjl;generalize hwx:m.ws.getD j AB.AC=wm at hwok hwm ewj;refine dC ?_;refine J8 ?_;refine JL PA ?_;refine BV ?_;refine CU 24 rfl (fun hg1=>?_) (fun hg1=>?_)
 ·refine G8 ?_;refine SJ ?_;refine JL QL ?_;refine J5 ?_;refine mR [6] (Ac cb m*R) (hE:=by first|(rw [IS];infer_instance)|(rw [QC cb m R j hjl,hwx];exact⟨fun ww hw=>by refine Eq.mp ?_ hw;congr 1;ac_rfl⟩)) rfl rfl ⟨m,hm,?_,?_,rfl⟩
  ·unfold AL.giveUp;rw [Hw,if_neg Cg,c_,ewj,if_pos (.inl hg1)]
  ·unfold AL.giveUp;rw [Hw,if_neg Cg,c_,ewj,if_pos (.inl hg1)];rfl
 refine Ky ?_;refine JL Ml ?_;refine JK ?_;refine mC (fun h27=>?_) (fun h27=>?_)
 ·refine J2 ?_;refine JL QL ?_;refine J5 ?_;refine mR [6] (Ac cb m*R) (hE:=by first|(rw [IS];infer_instance)|(rw [QC cb m R j hjl,hwx];exact⟨fun ww hw=>by refine Eq.mp ?_ hw;congr 1;ac_rfl⟩)) rfl rfl ⟨m,hm,?_,?_,rfl⟩
  ·unfold AL.giveUp;rw [Hw,if_neg Cg,c_,ewj,if_pos (.inr h27)]
  ·unfold AL.giveUp;rw [Hw,if_neg Cg,c_,ewj,if_pos (.inr h27)];rfl
 refine Yo ?_
 obtain⟨w2,hw2⟩:∃w2:Bo,w2={wm with w:={wm.w with given:=true,code:=code}}:=Bg
 have hok2:w2.ok:=by rw [hw2];exact hwm
 have hew:w2.w={wm.w with given:=true,code:=code}:=by rw [hw2]
 have ewr:m.s.giveUp (j:Int) code=(0,m.s.C4 j {wm.w with given:=true,code:=code}):=by
  unfold AL.giveUp;rw [Hw,if_neg Cg,c_,ewj,if_neg (by rw [hg1];simpa using h27)]
 refine mR [6] (Ac cb (m.C4 j w2)*R) (hE:=?_) rfl rfl ⟨m.C4 j w2,hm.C4 hok2,by rw [Ah.V8,ewr,hew],Cu,rfl⟩;rw [Ug cb m R j hjl,hw2];refine⟨fun ww hw=>?_⟩;refine Eq.mp ?_ hw;congr 1;show _=AT cb m.x*(HP.AA cb (0+43+j*10) [.slice wm.a.p wm.w.b.length wm.a.c,ptr wm.sq 0,ptr wm.cq 0,uN wm.w.high,.bool wm.w.finished,.bool wm.w.ending,.bool wm.w.ended,.bool true,uN code,.bool wm.w.Da]*(B6 wm*_));ac_rfl
theorem yQ(cb t:Nat)(m:Ah)(k:Int)(R:HP)(hm:m.ok)(hi:Ak t m.s):
  Fn Tryz.prog B 97 [ptr cb 0,.int .i64 k] (Ac cb m*R)
   (fun v H'=>v=.tuple #[iN (m.s.AF k).1,Dt (m.s.AF k).2]∧H'=Ac cb m*R):=by
 refine mI Tryz.func97 ?_;refine Aq PM ?_;refine GA ?_;refine J8 ?_;refine TI ?_;refine mC (fun h13=>?_) (fun h13=>?_)
 ·refine L1 ?_;refine J5 ?_;exact mR [4,5] (Ac cb m*R) (hE:=by rw [IS];infer_instance) rfl rfl ⟨by unfold AL.AF;rw [Hw,if_pos h13];rfl,rfl⟩
 obtain⟨hcl,j,rfl,hj⟩:=I1 (by simpa using h13:EI m.x.closed k=0)
 have h13:EI m.x.closed (j:Int)=0:=by simpa using h13
 have hjl:j<m.ws.length:=by rw [Ah.OG hi];exact hj
 have hwok:=Ah.UF hi hj;have hwm:=hm.ws _ GI;have ewj:=m.Nf j hjl;generalize hwx:m.ws.getD j AB.AC=wm at hwok hwm ewj;refine dC ?_;refine J8 ?_;refine JL PA ?_;refine mE rfl (rM cb (0+43+j*10) m.x.AG wm _ hwm hwok) ?_;refine JE ?_;exact mR [4,5] (Ac cb m*R) (hE:=by rw [QC cb m R j hjl,hwx];exact⟨fun ww hw=>by refine Eq.mp ?_ hw;congr 1;ac_rfl⟩) rfl rfl ⟨by unfold AL.AF;rw [Hw,if_neg Cg,c_,ewj];rfl,rfl⟩
def Ah.CF(m:Ah)(x:CC):Ah:={m with x:=x}
theorem Dd(cb:Nat)(m:Ah)(R:HP):Ac cb m*R=AT cb m.x*(AH m.x.gq m.ga m.AO*(BG cb m.ws*(Bl cb m.rs*(Di m*R)))):=by
 unfold Ac;ac_rfl
theorem et(cb:Nat)(m:Ah)(code:Nat)(R:HP)(hm:m.ok):
  Fn Tryz.prog B 96 [ptr cb 0,uN code] (Ac cb m*R)
   (fun v H'=>∃m':Ah,m'.ok∧m'.s=(m.s.close code).2∧v=Dt (m.s.close code).1∧H'=Ac cb m'*R):=by
 refine mI Tryz.func96 ?_;refine Aq Ny ?_;refine EP ?_;refine SM ?_;refine J3 ?_;refine mC (fun h5=>?_) (fun h5=>?_)
 ·have h5:m.s.closed≠0:=h5;refine J2 ?_;refine JL PL ?_;refine J6 ?_;exact mR [4] (Ac cb m*R) (hE:=by rw [Dd];infer_instance) rfl rfl ⟨m,hm,by unfold AL.close;rw [if_pos h5],by unfold AL.close;rw [if_pos h5];rfl,rfl⟩
 have h5:¬m.s.closed≠0:=h5;refine J3 ?_;refine JL Ml ?_;refine J3 ?_;refine mC (fun h12=>?_) (fun h12=>?_)
 ·refine J2 ?_;refine JL QL ?_;refine J6 ?_;exact mR [4] (Ac cb m*R) (hE:=by rw [Dd];infer_instance) rfl rfl ⟨m,hm,by unfold AL.close;rw [if_neg h5,if_pos h12],by unfold AL.close;rw [if_neg h5,if_pos h12];rfl,rfl⟩
 refine By ?_;refine Bv gZ ?_;refine JR ?_;refine BV ?_
 have ewr:m.s.close code=(0,{m.s with closed:=9,code:=code}):=by unfold AL.close;rw [if_neg h5,if_neg h12]
 exact mR [4] (Ac cb (m.CF {m.x with closed:=9,code:=code})*R) (hE:=by rw [Dd];exact Il) rfl rfl ⟨m.CF {m.x with closed:=9,code:=code},⟨hm.g,hm.ws,hm.rs,hm.fl,hm.lo,hm.fa,hm.la,hm.fv,hm.lv⟩,Cu,Cu,rfl⟩
theorem ce(cb:Nat)(m:Ah)(R:HP):
  Fn Tryz.prog B 56 [ptr cb 0] (Ac cb m*R) (fun v H'=>v=Dt m.s.closed∧H'=Ac cb m*R):=by
 refine mI Tryz.func56 ?_;refine Aq Ny ?_;refine CR ?_;refine Kr ?_;refine mC (fun h7=>?_) (fun h7=>?_)
 ·refine J7 ?_;exact mR [2] (Ac cb m*R) (hE:=by rw [Dd];infer_instance) rfl rfl ⟨by show _=Dt m.x.closed;rw [h7];rfl,rfl⟩
 refine J8 ?_;refine JL IW ?_;refine J4 ?_;exact mR [2] (Ac cb m*R) (hE:=by rw [Dd];infer_instance) rfl rfl ⟨by show _=Dt m.x.closed;rw [UE h7];rfl,rfl⟩
end
end Go.Proofs.YtgfdlpcdjklcoaaGreatDoor
