/- A part of this proof: steps of the program, plain facts; no condition. -/
import Derived.Test.YtgfdlpcdjklcoaaGreatDoorS9
namespace Go.Proofs.YtgfdlpcdjklcoaaGreatDoor
open Go Go.RowKit
open _root_.Nat renaming zero_le→a_,le_refl→f_,min_le_left→k_,lt_or_ge→p_,le_trans→w_,le_succ→xr,blt→xu
open _root_.List renaming length_append→b_,mem_singleton→c_,getElem?_eq_getElem→d_,getD_eq_getElem?_getD→e_,length_cons→g_,append_nil→h_,length_drop→j_,length_set→j',length_replicate→l_,length_singleton→m_,length_take→q',length_map→r_,length_nil→s_,map_append→t_,replicate→u_,mem_cons→v_
open _root_.UInt64 renaming ofNat→g'
open _root_.Bool renaming false_ne_true→i_,false_or→o_,true_or→q_
open _root_.Eq renaming mp→n_,trans→xt
set_option linter.unusedVariables false
set_option linter.unusedSimpArgs false
set_option maxRecDepth 20000
section
variable{B:World}
def NN(e:Nat)(at_:Int)(H:HP)(v:Value)(H':HP):Prop:=
 (at_= -1∧v=Dt e∧H'=H)∨(∃q a:Nat,at_=a∧e=5∧v=Gd q∧H'=FJ q 5 (iN a)*H)
theorem Ak.QB{t:Nat}{c:AL}(h:Ak t c){n:Nat}(hn:n<4611686018427387904):Ak t {c with AO:=c.AO.add n n}:=
 have hg:=h.AO.add n n hn V5
 {h with AO:=hg.1,gm:=hg.2.trans h.gm}
theorem Q? {xs:List UInt8}{a a':Nat}{rs:List AP}(h:CG xs a=some (rs,a')):rs.length≤xs.length:=by
 unfold CG at h;split at h
 ·rename_i hi a1 e1;split at h
  ·rename_i n a2 e2;split at h
   ·rename_i size a3 e3;split at h
    ·split at h
     ·rename_i rs' a4 e4;cases h;have h1:=Dy e1;have h3:=Dy e3;have h4:=Z9 e4 h3.2.2;simp only [g_];omega
     ·cases h
    ·cases h
   ·cases h
  ·cases h
 ·cases h
theorem D? {xs:List UInt8}{k:Nat}{fin:Bool}{a a':Nat}{f:AZ}(h:B5 xs k fin a=some (f,a')):f.ranges.length≤xs.length:=by
 unfold B5 at h;split at h
 ·cases h;exact a_ _
 split at h
 ·cases h;exact a_ _
 split at h
 ·split at h
  ·rename_i rs a1 e;cases h;exact Q? e
  ·cases h
 split at h
 ·split at h
  ·split at h
   ·split at h
    ·cases h;exact a_ _
    ·cases h
   ·cases h
  ·cases h
 split at h
 ·split at h
  ·split at h
   ·split at h
    ·cases h;exact a_ _
    ·cases h
   ·cases h
  ·cases h
 split at h
 ·split at h
  ·cases h;exact a_ _
  ·cases h
 ·cases h
theorem X_(xs:List UInt8):∀(fuel a:Nat) (fs:List AZ),xs.length-a≤fuel→Ew xs a=.ok fs→fs.length≤xs.length-a∧∀f∈fs,f.ranges.length≤xs.length:=by
 intro fuel
 induction fuel with
 |zero=>
  intro a fs hl h;rw [Ew,if_neg Cg]at h;cases h;exact⟨a_ _,fun f hf=>nomatch hf⟩
 |succ n ih=>
  intro a fs hl h;rw [Ew]at h;split at h
  ·split at h
   ·rename_i f a' e;split at h
    ·rename_i hcc;split at h
     ·rename_i l e2;cases h;obtain⟨i1,i2⟩:=ih a' l Cg e2;refine⟨by simp only [g_];omega,fun g hg=>?_⟩;rcases v_.1 hg with rfl|hg
      ·unfold EJ at e;split at e
       ·rename_i f2 a2 e3;split at e
        ·cases e;exact D? e3
        ·cases e
       ·cases e
      ·exact i2 g hg
     ·cases h
    ·cases h
   ·cases h
  ·cases h;exact⟨a_ _,fun f hf=>nomatch hf⟩
theorem N1{xs:List UInt8}{fs:List AZ}(h:DZ xs=.ok fs):fs.length≤xs.length∧∀f∈fs,f.ranges.length≤xs.length:=by
 unfold DZ at h;split at h
 ·cases h
 ·have:=X_ xs _ 0 fs D3 h
  exact⟨Cg,this.2⟩
theorem Js{ks:List UInt8}{side:UInt8}{xs ys:List UInt8}{n:UInt64}(h:Bj ks side xs=some (n,ys)):ys.length≤xs.length∧xs.length≤300∧n.toNat<4611686018427387904:=by
 unfold Bj at h;split at h
 ·cases h
 ·rename_i h1;split at h
  ·cases h
  ·rename_i h2;cases h;refine⟨?_,Cg,Cg⟩
   have e:(C6 ks side (be xs 8) (EL xs)).length=(EL xs).length:=by rw [C6,LE _ _ qT,KL]
   rw [e];unfold EL;rw [j_,q'];omega
instance rowC2(cb:Nat)(x:CC):Row (AT cb x) cb (0+19) (AE x.ks++[u8 (BM (!x.first))]) (HP.AA cb (0+0) [iN x.AY,iN x.AG]*(HP.AA cb (0+2) (AE x.ks++[u8 (BM x.first)])*(HP.AA cb (0+36) [uN x.now]*
 (HP.AA cb (0+37) [iN x.closed]*(HP.AA cb (0+38) [uN x.code]*(HP.AA cb (0+39) [.bool x.said]*(HP.AA cb (0+40) [uN x.next]*(HP.AA cb (0+41) [ptr x.gq 0]*(HP.AA cb (0+42) [.bool x.answer]*
 (HP.AA cb (0+119) [x.fv]*(HP.AA cb (0+120) [x.lv]*(HP.AA cb (0+121) [uN x.Bq]*HP.AA cb (0+122) [uN x.waits])))))))))))):=⟨by unfold AT;ac_rfl⟩
instance rowC1(cb:Nat)(x:CC):Row (AT cb x) cb (0+2) (AE x.ks++[u8 (BM x.first)]) (HP.AA cb (0+0) [iN x.AY,iN x.AG]*(HP.AA cb (0+19) (AE x.ks++[u8 (BM (!x.first))])*(HP.AA cb (0+36) [uN x.now]*
 (HP.AA cb (0+37) [iN x.closed]*(HP.AA cb (0+38) [uN x.code]*(HP.AA cb (0+39) [.bool x.said]*(HP.AA cb (0+40) [uN x.next]*(HP.AA cb (0+41) [ptr x.gq 0]*(HP.AA cb (0+42) [.bool x.answer]*
 (HP.AA cb (0+119) [x.fv]*(HP.AA cb (0+120) [x.lv]*(HP.AA cb (0+121) [uN x.Bq]*HP.AA cb (0+122) [uN x.waits])))))))))))):=⟨by unfold AT;ac_rfl⟩
set_option maxHeartbeats 4000000 in
theorem kp(cb t:Nat)(m:Ah)(xs:List UInt8)(p:Option Addr)(b o c:Nat)(R:HP)(hm:m.ok)(hi:Ak t m.s)(ht:t<1000000)(hs:Sl p b o xs.length c)(hr:AW B R b o xs)(hx:xs.length<90000000)(hop:Bj m.x.ks (BM (!m.x.first)) xs=none):
  Fn Tryz.prog B 94 [ptr cb 0,.slice p xs.length c] (Ac cb m*R) (fun v H'=>∃m':Ah,m'.ok∧m'.s=(m.s.BB xs).2∧NN (m.s.BB xs).1.1 (m.s.BB xs).1.2 (Ac cb m'*R) v H'):=by
 refine mI Tryz.func94 ?_;refine Aq Ny ?_;have hks:m.x.ks.length=16:=hi.ks;refine CR ?_;refine JZ ?_;refine mC (fun h20=>?_) (fun h20=>?_)
 ·have h20:m.s.closed≠0:=h20;refine J2 ?_;refine JL PL ?_;refine J5 ?_
  have ewr:m.s.BB xs=((9,-1),m.s):=by unfold AL.BB;rw [if_pos h20]
  exact Nz
 have h20:¬m.s.closed≠0:=h20;refine J7 ?_;refine JL Yu ?_;refine J1 ?_;refine mE rfl (x4 hks p b o c _ hs inferInstance hx hop) ?_;refine JR ?_;refine FL ?_;refine KS ?_;refine J3 ?_;refine mc (fun hc=>?_) (fun hc=>?_);rotate_left
 ·cases hc
 refine J2 ?_;refine JL (M2 (v:=.int .i64 (4:Nat)) Ch rfl) ?_;refine J6 ?_
 have ewr:m.s.BB xs=((4,-1),m.s):=by unfold AL.BB;rw [if_neg h20];rw [show Bj m.s.ks (BM (!m.s.first)) xs=none from hop]
 exact Nz
set_option maxHeartbeats 4000000 in
theorem mn(cb t:Nat)(m:Ah)(xs:List UInt8)(p:Option Addr)(b o c:Nat)(R:HP)(hm:m.ok)(hi:Ak t m.s)(ht:t<1000000)(hs:Sl p b o xs.length c)(hr:AW B R b o xs)(hx:xs.length<90000000)(n:UInt64)(ys:List UInt8)(hop:Bj m.x.ks (BM (!m.x.first)) xs=some (n,ys))(a:Nat)(hdec:DZ ys=.error a):
  Fn Tryz.prog B 94 [ptr cb 0,.slice p xs.length c] (Ac cb m*R) (fun v H'=>∃m':Ah,m'.ok∧m'.s=(m.s.BB xs).2∧NN (m.s.BB xs).1.1 (m.s.BB xs).1.2 (Ac cb m'*R) v H'):=by
 refine mI Tryz.func94 ?_;refine Aq Ny ?_;have hks:m.x.ks.length=16:=hi.ks;refine CR ?_;refine JZ ?_;refine mC (fun h20=>?_) (fun h20=>?_)
 ·have h20:m.s.closed≠0:=h20;refine J2 ?_;refine JL PL ?_;refine J5 ?_
  have ewr:m.s.BB xs=((9,-1),m.s):=by unfold AL.BB;rw [if_pos h20]
  exact Nz
 have h20:¬m.s.closed≠0:=h20;refine sM ?_;rintro _ _ ⟨q28,b28,o28,c28,s28,rfl,hq28,hc28,rfl⟩;obtain⟨hyl,hx300,hn62⟩:=Js hop;refine FL ?_;refine KS ?_;refine J3 ?_;refine mc (fun hc=>?_) (fun hc=>?_)
 ·cases hc
 refine J7 ?_;refine Yr ?_;refine G6 ?_;refine mC (fun h36=>?_) (fun h36=>?_)
 ·have h36:m.s.AO.has n.toNat:=h36;refine J8 ?_
  have ewr:m.s.BB xs=((0,-1),m.s):=by unfold AL.BB;rw [if_neg h20];rw [show Bj m.s.ks (BM (!m.s.first)) xs=some (n,ys)from hop];dsimp only;rw [if_pos h36]
  exact Nz
 have h36:¬m.s.AO.has n.toNat:=h36;refine jB ?_;intro v45 H45 h45;rw [hdec]at h45;obtain⟨q45,rfl,rfl⟩:=h45;refine BV ?_;refine JL PT ?_;refine J2 ?_;refine mc (fun hc=>?_) (fun hc=>?_);rotate_left
 ·cases hc
 refine J6 ?_;refine Bv (EG (v:=.int .i64 (5:Nat)) rfl rfl rfl Cj) ?_;refine JR ?_;refine J2 ?_;refine Bv (EG (v:=.int .u64 (5:Nat)) rfl rfl rfl Cj) ?_;refine JR ?_;refine By ?_
 have ewr:m.s.BB xs=((5,(a:Int)),{m.s with closed:=5,code:=5}):=by unfold AL.BB;rw [if_neg h20];rw [show Bj m.s.ks (BM (!m.s.first)) xs=some (n,ys)from hop];dsimp only;rw [if_neg h36,hdec]
 exact mR [4] (FJ q45 5 (iN a)*(Ac cb (m.CF {m.x with closed:=5,code:=5})*R)) (hE:=by rw [Dd];exact⟨fun ww hw=>Sat.right (A:=AD b28 o28 ys s28) (n_ (by congr 1;show _=AD b28 o28 ys s28*(FJ q45 5 (iN a)*(AT cb {m.x with closed:=5,code:=5}*(AH m.x.gq m.ga m.AO*(BG cb m.ws*(Bl cb m.rs*(Di m*R))))));ac_rfl) hw)⟩) rfl rfl ⟨m.CF {m.x with closed:=5,code:=5},⟨hm.g,hm.ws,hm.rs,hm.fl,hm.lo,hm.fa,hm.la,hm.fv,hm.lv⟩,Cu,by rw [ewr];exact .inr ⟨q45,a,rfl,rfl,rfl,rfl⟩⟩
theorem vR{c c':AL}{g:AZ}(b:∀k,Hn (c.r k) (c'.r k))(e:c'.AG=c.AG)(h:¬c.busy g):¬c'.busy g:=by
 rintro⟨k1,k2,k3⟩;refine h ⟨k1,?_,?_⟩
 ·cases e2:(c.r g.stream.toNat).given
  ·rfl
  ·have:=(b g.stream.toNat).given e2
   rw [this]at k2;cases k2
 ·rw [(b g.stream.toNat).read,e]at k3;exact k3
set_option maxHeartbeats 4000000 in
theorem eb(cb t:Nat)(m:Ah)(xs:List UInt8)(p:Option Addr)(b o c:Nat)(R:HP)(hm:m.ok)(hi:Ak t m.s)(ht:t<1000000)(hs:Sl p b o xs.length c)(hr:AW B R b o xs)(hx:xs.length<90000000)(n:UInt64)(ys:List UInt8)(hop:Bj m.x.ks (BM (!m.x.first)) xs=some (n,ys))(fs:List AZ)(hdec:DZ ys=.ok fs):
  Fn Tryz.prog B 94 [ptr cb 0,.slice p xs.length c] (Ac cb m*R) (fun v H'=>∃m':Ah,m'.ok∧m'.s=(m.s.BB xs).2∧NN (m.s.BB xs).1.1 (m.s.BB xs).1.2 (Ac cb m'*R) v H'):=by
 refine mI Tryz.func94 ?_;refine Aq Ny ?_;have hks:m.x.ks.length=16:=hi.ks;refine CR ?_;refine JZ ?_;refine mC (fun h20=>?_) (fun h20=>?_)
 ·have h20:m.s.closed≠0:=h20;refine J2 ?_;refine JL PL ?_;refine J5 ?_
  have ewr:m.s.BB xs=((9,-1),m.s):=by unfold AL.BB;rw [if_pos h20]
  exact Nz
 have h20:¬m.s.closed≠0:=h20;refine sM ?_;rintro _ _ ⟨q28,b28,o28,c28,s28,rfl,hq28,hc28,rfl⟩;obtain⟨hyl,hx300,hn62⟩:=Js hop;refine FL ?_;refine KS ?_;refine J3 ?_;refine mc (fun hc=>?_) (fun hc=>?_)
 ·cases hc
 refine J7 ?_;refine Yr ?_;refine G6 ?_;refine mC (fun h36=>?_) (fun h36=>?_)
 ·have h36:m.s.AO.has n.toNat:=h36;refine J8 ?_
  have ewr:m.s.BB xs=((0,-1),m.s):=by unfold AL.BB;rw [if_neg h20];rw [show Bj m.s.ks (BM (!m.s.first)) xs=some (n,ys)from hop];dsimp only;rw [if_pos h36]
  exact Nz
 have h36:¬m.s.AO.has n.toNat:=h36;refine jB ?_;intro v45 H45 h45;rw [hdec]at h45;obtain⟨sv,rfl,p45,b45,o45,c45,s45,rs,rfl,hs45,hc45,hmap,hro,rfl⟩:=h45
 have hrl:rs.length=fs.length:=by rw [←hmap,r_]
 obtain⟨hdl1,hdl2⟩:=N1 hdec;refine BV ?_;refine ME ?_;refine mc (fun hc=>?_) (fun hc=>?_)
 ·cases hc
 refine J7 ?_;refine Hy ?_;refine BL (α:=Nat) (fun i=>[(58,iN fs.length),(59,iN i),(57,.slice p45 fs.length c45),(0,ptr cb 0),(5,u64 n),(8,.slice p45 fs.length c45)]) (fun i=>AD b45 o45 rs s45*(A0 rs*(AD b28 o28 ys s28*(Ac cb m*R)))) (fun i=>i≤fs.length∧∀k,k<i→¬m.s.busy (rs.getD k AB.AC).f) (fun i=>fs.length-i) 0 ⟨a_ _,(fun k h=>absurd h TG)⟩ G9 (by rw [Dd]) ?_;rintro i ⟨hi1,hi2⟩;refine J6 ?_;refine mC (fun h60=>?_) (fun h60=>?_)
 ·have hgd:rs.getD i AB.AC∈rs:=Ex Cg
  have hff:(rs.getD i AB.AC).f∈fs:=by rw [←hmap];exact QF
  have hfin:=E1.of (Ks hdec _ hff)
  obtain⟨j,hst⟩:∃j:Nat,(rs.getD i AB.AC).f.stream=(j:Int):=⟨_,(Int.toNat_of_nonneg hfin.1).symm⟩
  have hj:j<4:=by have:=hfin.2.1;omega
  have hjl:j<m.rs.length:=by rw [Ah.RA hi];exact hj
  have hrok:=Ah.VE hi hj;have hwn:m.x.AG≤1024:=hi.w2;have hfo:=hfin.2.2.2.1;have hfe:=hfin.2.2.2.2.1;have hrt:=hrok.rt
  have erj:m.s.r (rs.getD i AB.AC).f.stream.toNat=(m.rs.getD j AB.AC).r:=by rw [hst,Int.toNat_natCast];exact m.Sc j hjl
  refine Aq (H':=AD b45 o45 rs s45*(A0 rs*(AD b28 o28 ys s28*(AT cb m.x*(HP.AA cb (0+83+j*9) (Dr (m.rs.getD j AB.AC))*(C1 (m.rs.getD j AB.AC)*(Eo cb m.rs j*(FE m cb*R)))))))) (by rw [Nb cb m R j hjl]) ?_;generalize hrm:m.rs.getD j AB.AC=rm at*;refine dR ?_;rintro _ _ ⟨b11,rfl,rfl⟩;refine Bv Uv ?_;refine G6 ?_;refine mA 7 7 ?_;refine Fr ?_;refine S0 ?_;refine Ja 6 ?_;refine C3 ?_;refine BO (α:=Unit) (fun _=>[(99,.bool (decide (m.s.busy (rs.getD i AB.AC).f))),(58,iN fs.length),(59,iN i),(57,.slice p45 fs.length c45),(0,ptr cb 0),(5,u64 n),(8,.slice p45 fs.length c45)]) (fun _=>HP.AA b11 0 (AI (rs.getD i AB.AC))*(AD b45 o45 rs s45*(A0 rs*(AD b28 o28 ys s28*(AT cb m.x*(HP.AA cb (0+83+j*9) (Dr rm)*(C1 rm*(Eo cb m.rs j*(FE m cb*R))))))))) (fun _=>True) ?_ ?_
  ·refine mA 31 31 ?_;refine Jf 0 ?_;refine Jd 1 ?_;refine JT 2 rfl RG ?_;refine Jm 3 ?_;refine DM 72 rfl (fun hg1=>?_) (fun hg1=>?_)
   ·have hk5:(rs.getD i AB.AC).f.kind=5:=hg1;have hfe5:=hfe hk5;refine JY 4 rfl T1 A4 ?_;refine JY 5 rfl T1 CP ?_;refine JY 6 rfl T1 A7 ?_;refine JY 7 rfl T1 Bb ?_;refine JY 8 rfl T1 LU ?_;refine JT 9 rfl LC ?_;refine Jm 10 ?_;refine GF 79 rfl (fun hg2=>?_) (fun hg2=>?_)
    ·skip
     have hgv:rm.r.given=false:=by simpa using hg2
     refine JY 11 rfl hg2 A7 ?_;refine JY 12 rfl hg2 Bb ?_;refine JY 13 rfl hg2 A7 ?_;refine JY 14 rfl hg2 Bb ?_;refine JY 15 rfl hg2 IG ?_;refine JY 16 rfl hg2 EM ?_;refine JY 17 rfl hg2 IU ?_;refine JY 18 rfl hg2 A4 ?_;refine JY 19 rfl hg2 CP ?_;refine JY 20 rfl hg2 A7 ?_;refine JY 21 rfl hg2 Bb ?_;refine JY 22 rfl hg2 A4 ?_;refine JY 23 rfl hg2 CP ?_;refine JY 24 rfl hg2 A7 ?_;refine JY 25 rfl hg2 A7 ?_;refine JY 26 rfl hg2 Bb ?_;refine JY 27 rfl hg2 EM ?_;refine JY 28 rfl hg2 IU ?_;refine JY 29 rfl hg2 HU ?_;refine JT 30 rfl Nv ?_;refine JD ?_;refine AU () trivial (.cons ?_ G9) rfl;refine FZ ?_;congr 2
     have hbd:m.s.busy (rs.getD i AB.AC).f↔(rs.getD i AB.AC).f.kind=5∧rm.r.given=false∧rm.r.read+m.x.AG<(rs.getD i AB.AC).f.offset+(rs.getD i AB.AC).f.data.size:=by unfold AL.busy;rw [erj];exact Iff.rfl
     first
      |exact decide_eq_decide.2 ⟨fun h=>hbd.2 ⟨hk5,hgv,h⟩,fun h=>(hbd.1 h).2.2⟩
      |exact(decide_eq_false (fun h=>i_ ((hbd.1 h).2.1.symm.trans hgv))).symm
      |exact(decide_eq_false (fun h=>hk5 (hbd.1 h).1)).symm
    have hgv:rm.r.given=true:=by simpa using hg2
    refine JN 11 rfl hg2 ?_;refine JN 12 rfl hg2 ?_;refine kJ ?_;refine JT 30 rfl Nd ?_;refine JD ?_;refine AU () trivial (.cons ?_ G9) rfl;refine FZ ?_;congr 2
    have hbd:m.s.busy (rs.getD i AB.AC).f↔(rs.getD i AB.AC).f.kind=5∧rm.r.given=false∧rm.r.read+m.x.AG<(rs.getD i AB.AC).f.offset+(rs.getD i AB.AC).f.data.size:=by unfold AL.busy;rw [erj];exact Iff.rfl
    first
     |exact decide_eq_decide.2 ⟨fun h=>hbd.2 ⟨hk5,hgv,h⟩,fun h=>(hbd.1 h).2.2⟩
     |exact(decide_eq_false (fun h=>i_ ((hbd.1 h).2.1.symm.trans hgv))).symm
     |exact(decide_eq_false (fun h=>hk5 (hbd.1 h).1)).symm
   have hk5:¬(rs.getD i AB.AC).f.kind=5:=hg1;refine JN 4 rfl F1 ?_;refine JN 5 rfl F1 ?_;refine JN 6 rfl F1 ?_;refine JN 7 rfl F1 ?_;refine JN 8 rfl F1 ?_;refine JT 9 rfl Jl ?_;refine Wa ?_;refine Ro ?_;refine Ov ?_;refine VY ?_;refine V2 ?_;refine Xh ?_;refine Ys ?_;refine ZO ?_;refine eD ?_;refine oH ?_;refine JT 30 rfl GU ?_;refine JD ?_
   refine AU () trivial (.cons ?_ G9) rfl;refine FZ ?_;congr 2
   have hbd:m.s.busy (rs.getD i AB.AC).f↔(rs.getD i AB.AC).f.kind=5∧rm.r.given=false∧rm.r.read+m.x.AG<(rs.getD i AB.AC).f.offset+(rs.getD i AB.AC).f.data.size:=by unfold AL.busy;rw [erj];exact Iff.rfl
   first
    |exact decide_eq_decide.2 ⟨fun h=>hbd.2 ⟨hk5,hgv,h⟩,fun h=>(hbd.1 h).2.2⟩
    |exact(decide_eq_false (fun h=>i_ ((hbd.1 h).2.1.symm.trans hgv))).symm
    |exact(decide_eq_false (fun h=>hk5 (hbd.1 h).1)).symm
  ·rintro _ _;refine J1 ?_;refine mC (fun h99=>?_) (fun h99=>?_)
   ·refine J2 ?_;refine JL (M2 (v:=.int .i64 (6:Nat)) Ch rfl) ?_;refine J9 ?_
    have ewr:m.s.BB xs=((6,-1),m.s):=by
     unfold AL.BB;rw [if_neg h20];rw [show Bj m.s.ks (BM (!m.s.first)) xs=some (n,ys)from hop];dsimp only;rw [if_neg h36,hdec];dsimp only;rw [if_pos ⟨_,hff,h99⟩]
    exact mR [4] (Ac cb m*R) (hE:=⟨fun ww hw=>Sat.right (A:=HP.AA b11 0 (AI (rs.getD i AB.AC))*(AD b45 o45 rs s45*(A0 rs*AD b28 o28 ys s28))) (n_ ZQ hw)⟩) rfl rfl ⟨m,hm,Cy,U6⟩
   refine Fb ?_;refine Au (AD b45 o45 rs s45*(A0 rs*(AD b28 o28 ys s28*(Ac cb m*R)))) (hE:=⟨fun ww hw=>Sat.right (A:=HP.AA b11 0 (AI (rs.getD i AB.AC))) (n_ (by congr 1;rw [Nb cb m R j hjl,hrm]<;>ac_rfl) hw)⟩) ?_;exact At (i+1) ⟨Cg,fun k hk=>by rcases p_ k i with h|h;exact hi2 k h;obtain rfl:k=i:=Cg;exact h99⟩ Cg G9 rfl
 refine J6 ?_
 have hnb:∀f∈fs,¬m.s.busy f:=by
  intro f hf;rw [←hmap]at hf;obtain⟨r,hr',rfl⟩:=List.mem_map.1 hf;obtain⟨k,hk,rfl⟩:=List.getElem_of_mem hr'
  have:=hi2 k Cg
  rw [e_,d_ hk,Option.getD_some]at this;exact this
 refine Aq (H':=AH m.x.gq m.ga m.AO*(AT cb m.x*(BG cb m.ws*(Bl cb m.rs*(Di m*(AD b45 o45 rs s45*(A0 rs*(AD b28 o28 ys s28*(R))))))))) (by rw [Dd];ac_rfl) ?_;refine J7 ?_;refine mE rfl (L0 m.x.gq n.toNat n.toNat 4611686018427387904 m.ga m.AO _ hm.g hi.AO Cg Cg (by have h7:m.AO.AN=8:=hi.gm;omega) (by have h7:m.AO.AN=8:=hi.gm;omega)) ?_;rintro _ _ ⟨a108,hs108,rfl⟩;refine J4 ?_
 obtain⟨m1,hm1⟩:∃m1:Ah,m1={m with AO:=m.AO.add n.toNat n.toNat,ga:=a108}:=Bg
 have hok1:m1.ok:=by rw [hm1];exact⟨hs108,hm.ws,hm.rs,hm.fl,hm.lo,hm.fa,hm.la,hm.fv,hm.lv⟩
 have hs1:m1.s={m.s with AO:=m.s.AO.add n.toNat n.toNat}:=by rw [hm1];rfl
 have hi1':Ak t m1.s:=by rw [hs1];exact hi.QB hn62
 have hnb1:∀f∈fs,¬m1.s.busy f:=by rw [hs1];exact hnb
 have hnbx:¬∃f∈fs,m.s.busy f:=fun⟨f,hf,hb⟩=>hnb f hf hb
 have erc:m.s.BB xs=(((m1.s.Bt fs).1,-1),(m1.s.Bt fs).2):=by
  unfold AL.BB;rw [if_neg h20];rw [show Bj m.s.ks (BM (!m.s.first)) xs=some (n,ys)from hop];dsimp only;rw [if_neg h36,hdec];dsimp only;rw [if_neg hnbx,hs1]
 refine Aq (H':=AD b45 o45 rs s45*(A0 rs*(AD b28 o28 ys s28*(Ac cb m1*R)))) (by rw [Dd,hm1];show _=AD b45 o45 rs s45*(A0 rs*(AD b28 o28 ys s28*(AT cb m.x*(AH m.x.gq a108 (m.AO.add n.toNat n.toNat)*(BG cb m.ws*(Bl cb m.rs*(Di m*R)))))));ac_rfl) ?_;refine J3 ?_;refine Hy ?_;refine BL (α:=Nat×Ah) (fun z=>[(110,iN fs.length),(111,iN z.1),(109,.slice p45 fs.length c45),(0,ptr cb 0),(5,u64 n),(8,.slice p45 fs.length c45)]) (fun z=>AD b45 o45 rs s45*(A0 rs*(AD b28 o28 ys s28*(Ac cb z.2*R)))) (fun z=>z.1≤fs.length∧z.2.ok∧Ak t z.2.s∧z.2.s.Bt (fs.drop z.1)=m1.s.Bt fs∧∀f∈fs.drop z.1,¬z.2.s.busy f) (fun z=>fs.length-z.1) (0,m1) ⟨a_ _,hok1,hi1',rfl,hnb1⟩ G9 rfl ?_;rintro⟨i,mi⟩ ⟨q1,q2,q3,q4,q5⟩;dsimp only at q1 q2 q3 q4 q5⊢;refine J6 ?_;refine mC (fun h112=>?_) (fun h112=>?_)
 ·have hgd:rs.getD i AB.AC∈rs:=Ex Cg
  have hff:(rs.getD i AB.AC).f∈fs:=by rw [←hmap];exact QF
  have hfin:=E1.of (Ks hdec _ hff)
  obtain⟨j,hst⟩:∃j:Nat,(rs.getD i AB.AC).f.stream=(j:Int):=⟨_,(Int.toNat_of_nonneg hfin.1).symm⟩
  have hj:j<4:=by have:=hfin.2.1;omega
  have FF:fs.drop i=(rs.getD i AB.AC).f::fs.drop (i+1):=by
   have h7:i<fs.length:=h112;rw [List.drop_eq_getElem_cons h7];congr 1
   have h8:fs[i]?=(rs.map RF.f)[i]?:=by rw [hmap]
   rw [d_ h7,List.getElem?_map,d_ Cg]at h8;rw [e_,d_ Cg];simpa using h8
  have hbi:=q5 (rs.getD i AB.AC).f (by rw [FF];simp);have hci:=q3.take (rs.getD i AB.AC).f hfin hbi;have howr:=O7 (B:=B) hgd;have hrl2:=hdl2 _ hff;refine dR ?_;rintro _ _ ⟨b14,rfl,rfl⟩;refine Bv Uv ?_;refine Ha ?_;refine JL (Dp (l:=AI (rs.getD i AB.AC)) rfl rfl) ?_;refine Aw (H':=Ac cb mi*(HP.AA b14 0 (AI (rs.getD i AB.AC))*(AD b45 o45 rs s45*(A0 rs*(AD b28 o28 ys s28*(R)))))) Cm ?_;refine mE rfl (cl cb t mi (rs.getD i AB.AC) _ q2 q3 ht hfin hbi (hro _ hgd).1 inferInstance Cg) ?_;rintro _ _ ⟨m2,hm2,hs2,rfl,rfl⟩;have hte:=U2 (c:=mi.s) (rs.getD i AB.AC).f;refine J6 ?_;refine JZ ?_;refine mC (fun h119=>?_) (fun h119=>?_)
  ·refine J1 ?_;refine Aq (H':=AT cb m2.x*(AH m2.x.gq m2.ga m2.AO*(BG cb m2.ws*(Bl cb m2.rs*(Di m2*(HP.AA b14 0 (AI (rs.getD i AB.AC))*(AD b45 o45 rs s45*(A0 rs*(AD b28 o28 ys s28*(R)))))))))) (by rw [Dd]) ?_;refine J5 ?_;refine JL EM ?_;refine CR ?_;refine JL (CV (j:=10) rfl rfl) ?_;refine J8 ?_;refine JL IW ?_;refine By ?_
   have ewr:m.s.BB xs=(((mi.s.take (rs.getD i AB.AC).f).1,-1),(mi.s.take (rs.getD i AB.AC).f).2.shut (mi.s.take (rs.getD i AB.AC).f).1):=by
    rw [erc,←q4,FF,AL.Bt,if_pos h119]
   exact mR [4] (Ac cb (m2.CF {m2.x with closed:=(mi.s.take (rs.getD i AB.AC).f).1,code:=(mi.s.take (rs.getD i AB.AC).f).1,said:=decide ((mi.s.take (rs.getD i AB.AC).f).1=10)})*R) (hE:=by rw [Dd];exact⟨fun ww hw=>Sat.right (A:=HP.AA b14 0 (AI (rs.getD i AB.AC))*(AD b45 o45 rs s45*(A0 rs*AD b28 o28 ys s28))) (n_ (by congr 1;show _=HP.AA b14 0 (AI (rs.getD i AB.AC))*(AD b45 o45 rs s45*(A0 rs*AD b28 o28 ys s28))*(AT cb {m2.x with closed:=(mi.s.take (rs.getD i AB.AC).f).1,code:=(mi.s.take (rs.getD i AB.AC).f).1,said:=decide ((mi.s.take (rs.getD i AB.AC).f).1=10)}*(AH m2.x.gq m2.ga m2.AO*(BG cb m2.ws*(Bl cb m2.rs*(Di m2*R)))));ac_rfl) hw)⟩) rfl rfl ⟨m2.CF {m2.x with closed:=(mi.s.take (rs.getD i AB.AC).f).1,code:=(mi.s.take (rs.getD i AB.AC).f).1,said:=decide ((mi.s.take (rs.getD i AB.AC).f).1=10)},⟨hm2.g,hm2.ws,hm2.rs,hm2.fl,hm2.lo,hm2.fa,hm2.la,hm2.fv,hm2.lv⟩,by rw [ewr,←hs2];rfl,by rw [ewr];exact .inl ⟨rfl,by rw [UE h119];rfl,rfl⟩⟩
  refine J2 ?_;refine ZG ?_;refine BO (α:=Ah) (fun _=>[(110,iN fs.length),(111,iN i),(109,.slice p45 fs.length c45),(0,ptr cb 0),(5,u64 n),(8,.slice p45 fs.length c45)]) (fun m3=>Ac cb m3*(HP.AA b14 0 (AI (rs.getD i AB.AC))*(AD b45 o45 rs s45*(A0 rs*(AD b28 o28 ys s28*(R)))))) (fun m3=>m3.ok∧m3.s={(mi.s.take (rs.getD i AB.AC).f).2 with answer:=(mi.s.take (rs.getD i AB.AC).f).2.answer||(decide ((rs.getD i AB.AC).f.kind≠3)&&decide ((rs.getD i AB.AC).f.kind≠1))}) ?_ ?_
  ·refine ZG ?_;refine J7 ?_;refine CU 141 rfl (fun hg3=>?_) (fun hg3=>?_)
   ·have ha:m2.x.answer=true:=hg3;refine Pe ?_;refine Gr ?_;refine PN ?_;refine IY ?_;refine Gr ?_;refine JL Jz ?_;refine J4 ?_
    obtain⟨an,han⟩:∃an:Bool,an=(m2.x.answer||(decide ((rs.getD i AB.AC).f.kind≠3)&&decide ((rs.getD i AB.AC).f.kind≠1))):=Bg
    refine D8 (H':=Ac cb (m2.CF {m2.x with answer:=an})*(HP.AA b14 0 (AI (rs.getD i AB.AC))*(AD b45 o45 rs s45*(A0 rs*(AD b28 o28 ys s28*(R)))))) ?_ ?_
    ·rw [Dd];show AT cb {m2.x with answer:=_}*_=AT cb {m2.x with answer:=an}*_;rw [han];refine congrArg (fun bb:Bool=>AT cb {m2.x with answer:=bb}*_) ?_
     first
      |(rw [ha];rfl)
      |(rw [ha,decide_eq_true hk3];rfl)
      |(rw [ha,decide_eq_false hk3];rfl)
    exact Vz
   have ha:m2.x.answer=false:=hg3;refine O' ?_;refine JL (LJ (j:=3) rfl rfl) ?_;refine L5 ?_;refine CJ 145 rfl (fun hg4=>?_) (fun hg4=>?_)
   ·have hk3:(rs.getD i AB.AC).f.kind≠3:=hg4;refine JG T4 ?_;refine J1 ?_;refine JG T4 ?_;refine J1 ?_;refine JG T4 ?_;refine JL (LJ (j:=1) rfl rfl) ?_;refine G2 ?_;refine JL Io ?_;refine JL IV ?_;refine J4 ?_
    obtain⟨an,han⟩:∃an:Bool,an=(m2.x.answer||(decide ((rs.getD i AB.AC).f.kind≠3)&&decide ((rs.getD i AB.AC).f.kind≠1))):=Bg
    refine D8 (H':=Ac cb (m2.CF {m2.x with answer:=an})*(HP.AA b14 0 (AI (rs.getD i AB.AC))*(AD b45 o45 rs s45*(A0 rs*(AD b28 o28 ys s28*(R)))))) ?_ ?_
    ·rw [Dd];show AT cb {m2.x with answer:=_}*_=AT cb {m2.x with answer:=an}*_;rw [han];refine congrArg (fun bb:Bool=>AT cb {m2.x with answer:=bb}*_) ?_
     first
      |(rw [ha];rfl)
      |(rw [ha,decide_eq_true hk3];rfl)
      |(rw [ha,decide_eq_false hk3];rfl)
    exact Vz
   have hk3:¬(rs.getD i AB.AC).f.kind≠3:=hg4;refine JH F4 ?_;refine JH F4 ?_;refine JH F4 ?_;refine G2 ?_;refine JL IE ?_;refine JL IV ?_;refine J4 ?_
   obtain⟨an,han⟩:∃an:Bool,an=(m2.x.answer||(decide ((rs.getD i AB.AC).f.kind≠3)&&decide ((rs.getD i AB.AC).f.kind≠1))):=Bg
   refine D8 (H':=Ac cb (m2.CF {m2.x with answer:=an})*(HP.AA b14 0 (AI (rs.getD i AB.AC))*(AD b45 o45 rs s45*(A0 rs*(AD b28 o28 ys s28*(R)))))) ?_ ?_
   ·rw [Dd];show AT cb {m2.x with answer:=_}*_=AT cb {m2.x with answer:=an}*_;rw [han];refine congrArg (fun bb:Bool=>AT cb {m2.x with answer:=bb}*_) ?_
    first
     |(rw [ha];rfl)
     |(rw [ha,decide_eq_true hk3];rfl)
     |(rw [ha,decide_eq_false hk3];rfl)
   exact Vz
  ·rintro m3 ⟨hok3,hs3⟩;refine J3 ?_;refine FO ?_;refine Au (AD b45 o45 rs s45*(A0 rs*(AD b28 o28 ys s28*(Ac cb m3*R)))) (hE:=⟨fun ww hw=>Sat.right (A:=HP.AA b14 0 (AI (rs.getD i AB.AC))) (n_ Cv hw)⟩) ?_
   exact At (i+1,m3) ⟨Cg,hok3,by rw [hs3];exact {hci.1 with},by
    rw [←q4,FF,AL.Bt,if_neg Cg,hs3],fun f hf=>by
    rw [hs3]
    exact vR (c:=mi.s) hci.2.1 hci.2.2 (q5 f Zi)⟩ Lq G9 rfl
 refine BV ?_
 have ewr:m.s.BB xs=((0,-1),mi.s):=by
  rw [erc,←q4,List.drop_eq_nil_of_le Cg];rfl
 exact mR [4] (Ac cb mi*R) (hE:=⟨fun ww hw=>Sat.right (A:=AD b45 o45 rs s45*(A0 rs*AD b28 o28 ys s28)) (n_ Cv hw)⟩) rfl rfl ⟨mi,q2,Cy,U6⟩
theorem V! (cb t:Nat)(m:Ah)(xs:List UInt8)(p:Option Addr)(b o c:Nat)(R:HP)(hm:m.ok)(hi:Ak t m.s)(ht:t<1000000)(hs:Sl p b o xs.length c)(hr:AW B R b o xs)(hx:xs.length<90000000):
  Fn Tryz.prog B 94 [ptr cb 0,.slice p xs.length c] (Ac cb m*R) (fun v H'=>∃m':Ah,m'.ok∧m'.s=(m.s.BB xs).2∧NN (m.s.BB xs).1.1 (m.s.BB xs).1.2 (Ac cb m'*R) v H'):=by
 cases hop:Bj m.x.ks (BM (!m.x.first)) xs with
 |none=>exact kp cb t m xs p b o c R hm hi ht hs hr hx hop
 |some ny=>
  obtain⟨n,ys⟩:=ny
  cases hdec:DZ ys with
  |error a=>exact mn cb t m xs p b o c R hm hi ht hs hr hx n ys hop a hdec
  |ok fs=>exact eb cb t m xs p b o c R hm hi ht hs hr hx n ys hop fs hdec
end
abbrev Oo:Nat:=1073741824
theorem QO{s:BH}{m lo hi:Nat}(h:C2 s m)(hf:s.floor=0)(hl:lo≤hi)(hhi:hi<m)(hlen:s.l.length<s.AN):
  s.add lo hi=⟨BW lo hi s.l,0,s.AN⟩∧C2 (s.add lo hi) m∧∀n,A3 n (s.add lo hi).l↔(lo≤n∧n≤hi)∨A3 n s.l:=by
 have h1:=MU s.l lo hi hl h.inc;have h2:=KZ s.l lo hi (m-1) Cg (fun r hr=>by have:=h.hi r hr;omega)
 have h4:(BW lo hi s.l).length≤s.AN:=by have:=Mu s.l lo hi;omega
 have e:=BH.Wz hf hl h4;have e2:s.add lo hi=⟨BW lo hi s.l,0,s.AN⟩:=e;refine⟨e2,?_,?_⟩
 ·rw [e2];exact⟨h1,fun _ _=>a_ _,fun r hr=>by have:=h2 r hr;omega,h4,a_ _⟩
 ·intro n;rw [e2];exact Mp s.l lo hi n hl
theorem uX{l:List AP}{m:Nat}(hI:DQ l):(if l=[]∨0<(rg l 0).lo then 0 else(rg l 0).hi+1)=(AR 0 m l).1:=by
 cases l with
 |nil=>rfl
 |cons r rs=>
  have e:rg (r::rs) 0=r:=rfl;rw [e];unfold AR;by_cases h:0<r.lo
  ·rw [if_pos (.inr h),if_neg (by have:=hI.1;omega),if_pos h]
  ·rw [if_neg (fun h2=>by rcases h2 with h2|h2;cases h2;exact h h2),if_neg Cg,if_neg h]
   cases rs with
   |nil=>rfl
   |cons s ss=>
    have h2:=hI.2.1 s Cl;unfold AR;rw [if_neg (by have:=hI.2.2.1;omega),if_pos Cg]
structure KK(AG:Nat)(o:CA):Prop where
 len:o.data.length≤4096
 co:C2 o.AF o.data.length
 cf:o.AF.floor=0
 cm:o.AF.AN=Oo
 room:o.data.length≤o.B2+AG
 high:o.high≤o.data.length
 en:o.end_≤4096
 code:o.code≤4611686018427387903
theorem CA.Sz{o:CA}(h:DQ o.AF.l)(m:Nat):o.B2=(AR 0 m o.AF.l).1:=uX h
theorem KK.NK{AG:Nat}{o:CA}(h:KK AG o):o.B2≤o.data.length:=by
 rw [CA.Sz h.co.inc o.data.length];exact(Jv h.co.inc C9 h.co.hi).1
theorem KK.Us{AG:Nat}{o:CA}(h:KK AG o):o.AF.l.length≤4097:=by
 have h1:=h.len;rcases Tj o.AF.l 0 o.data.length h.co.inc (fun _ _=>a_ _) h.co.hi with h2|h2
 ·omega
 ·rw [h2];exact a_ _
theorem zE{o o':CA}(hI:DQ o.AF.l)(hI':DQ o'.AF.l)(m:Nat)(hb:∀r∈o'.AF.l,r.hi<m)(h:∀n,A3 n o.AF.l→A3 n o'.AF.l):o.B2≤o'.B2:=by
 rw [CA.Sz hI m,CA.Sz hI' m];rcases p_ (AR 0 m o'.AF.l).1 (AR 0 m o.AF.l).1 with h1|h1
 ·exfalso;exact(Jv hI' C9 hb).2 (h _ ((HM o.AF.l 0 m hI C9).2.1 _ C9 h1))
 ·exact h1
structure HE(AG t:Nat)(x:DI):Prop where
 dl:x.data.length=x.high
 tl:x.there.length=x.high
 rh:x.read≤x.high
 hw:x.high≤x.read+AG
 rt:x.read≤1024*t
 en:x.end_≤4611686018427387903
 code:x.code≤4611686018427387903
 st:x.state≤2
 Jg:x.state=2→x.given=true
theorem HE.mono{AG t t':Nat}{x:DI}(h:HE AG t x)(ht:t≤t'):HE AG t' x:={h with rt:=by have:=h.rt;omega}
def FV(outs:List CA)(f:AZ):Prop:=0≤f.stream∧f.stream<4∧(f.kind=5→f.offset+f.data.size≤(outs.getD f.stream.toNat B').data.length)
structure d5(next:Nat)(outs:List CA)(p:Kn):Prop where
 num:p.number<next
 len:p.Ap.length≤300
 fr:∀f∈p.Ap,FV outs f
structure GB(AG:Nat)(outs:List CA):Prop where
 len:outs.length=4
 ok:∀k,k<4→KK AG (outs.getD k B')
structure Ag(t:Nat)(s:AK):Prop where
 m1:64≤s.AY
 m2:s.AY≤300
 w1:16≤s.AG
 w2:s.AG≤1024
 ks:s.ks.length=16
 closed:s.closed≤10
 code:s.code≤4611686018427387903
 AO:C2 s.AO 4611686018427387904
 gm:s.AO.AN=8
 Ao:C2 s.Ao 4611686018427387904
 ef:s.Ao.floor=0
 em:s.Ao.AN=Oo
 el:s.Ao.l.length≤t
 due:s.due.length≤t
 outs:GB s.AG s.outs
 il:s.ins.length=4
 ins:∀k,k<4→HE s.AG t (s.i k)
 sl:s.AJ.length≤s.next
 AJ:∀p∈s.AJ,d5 s.next s.outs p
 nx:s.next≤20*t
theorem Ag.mono{t t':Nat}{s:AK}(h:Ag t s)(ht:t≤t'):Ag t' s:=
 {h with el:=by have:=h.el;omega,due:=by have:=h.due;omega,ins:=fun k hk=>(h.ins k hk).mono ht,nx:=by have:=h.nx;omega}
theorem R1{AG:Nat}:KK AG B':=⟨a_ _,.of,rfl,rfl,a_ _,a_ _,a_ _,a_ _⟩
theorem Ru{AG t:Nat}:HE AG t IF:=⟨rfl,rfl,a_ _,a_ _,a_ _,a_ _,a_ _,a_ _,(fun h=>absurd h Ci)⟩
theorem Ag.new{AY AG:Nat}{ks:List UInt8}{first:Bool}(h1:64≤AY)(h2:AY≤300)(h3:16≤AG)(h4:AG≤1024)(hk:ks.length=16):Ag 0 (.new AY AG ks first):=
 ⟨h1,h2,h3,h4,hk,a_ _,a_ _,.of,rfl,.of,rfl,rfl,a_ _,a_ _,⟨rfl,Og R1 R1 R1 R1⟩,rfl,Og Ru Ru Ru Ru,a_ _,(fun p h=>by cases h),a_ _⟩
theorem Oc{α:Type}{l:List α}{k j:Nat}{x d:α}:(l.set k x).getD j d=if k=j∧k<l.length then x else l.getD j d:=by
 simp only [e_,List.getElem?_set];split
 ·rename_i h;subst h;split
  ·rename_i h2;rw [if_pos ⟨rfl,h2⟩];rfl
  ·rename_i h2;rw [if_neg (fun h=>h2 h.2)];simp [List.getElem?_eq_none (Nat.le_of_not_lt h2)]
 ·rename_i h;rw [if_neg (fun h2=>h h2.1)]
theorem GB.set{AG:Nat}{outs:List CA}(h:GB AG outs){k:Nat}{o:CA}(ho:KK AG o):GB AG (outs.set k o):=by
 refine⟨oU,fun j hj=>?_⟩;rw [Oc];split
 ·exact ho
 ·exact h.ok j hj
theorem FV.set{outs:List CA}{k:Nat}{o:CA}(hb:(outs.getD k B').data.length≤o.data.length){f:AZ}(h:FV outs f):FV (outs.set k o) f:=by
 refine⟨h.1,h.2.1,fun hk=>?_⟩
 have:=h.2.2 hk
 rw [Oc];split
 ·rename_i e;rw [e.1]at hb;omega
 ·exact this
theorem Ag.Ey{t:Nat}{s:AK}(h:Ag t s){outs:List CA}(ho:GB s.AG outs)(hf:∀f,FV s.outs f→FV outs f):Ag t {s with outs:=outs}:=
 {h with outs:=ho,AJ:=fun p hp=>let g:=h.AJ p hp;⟨g.num,g.len,fun f hfr=>hf f (g.fr f hfr)⟩}
theorem Ag.C0{t:Nat}{s:AK}(h:Ag t s){k:Nat}{o:CA}(ho:KK s.AG o)(hb:(s.o k).data.length≤o.data.length):Ag t (s.C0 k o):=
 h.Ey (h.outs.set ho) (fun f hf=>hf.set hb)
theorem Ag.Cb{t:Nat}{s:AK}(h:Ag t s){k:Nat}{x:DI}(hx:HE s.AG t x):Ag t (s.Cb k x):=by
 refine {h with il:=by show(s.ins.set k x).length=4;rw [j'];exact h.il,ins:=fun j hj=>?_};show HE s.AG t ((s.ins.set k x).getD j IF);rw [Oc];split
 ·exact hx
 ·exact h.ins j hj
theorem AK.Le{s:AK}{k:Int}(h:¬s.of k≠0):s.closed=0∧0≤k∧k<4:=by
 unfold AK.of at h;split at h
 ·omega
 split at h
 ·omega
 ·omega
theorem Ag.write{t:Nat}{s:AK}(h:Ag t s)(k:Int)(xs:List UInt8):Ag t (s.write k xs).2:=by
 unfold AK.write;split
 ·exact h
 split
 ·exact h
 ·rename_i hs _;obtain⟨_,h0,h4⟩:=AK.Le hs;have g:=h.outs.ok k.toNat Cg;have e:s.outs.getD k.toNat B'=s.o k.toNat:=rfl;rw [e]at g;have hp:=g.NK;have hr:=g.room;have hl:=g.len
  have hn:s.GL k.toNat xs.length≤s.AG-((s.o k.toNat).data.length-(s.o k.toNat).B2):=by unfold AK.GL;omega
  have hn2:s.GL k.toNat xs.length≤4096-(s.o k.toNat).data.length:=by unfold AK.GL;omega
  have htl:(xs.take (s.GL k.toNat xs.length)).length≤s.GL k.toNat xs.length:=by rw [q'];omega
  refine h.C0 ⟨?_,?_,g.cf,g.cm,?_,?_,g.en,g.code⟩ ?_
  ·show(_++_:List UInt8).length≤4096;rw [b_];omega
  ·exact⟨g.co.inc,g.co.lo,fun r hr=>by have:=g.co.hi r hr;show r.hi<(_++_:List UInt8).length;rw [b_];omega,g.co.len,by have hcf:=g.cf;show(s.o k.toNat).AF.floor≤(_++_:List UInt8).length;rw [hcf];exact a_ _⟩
  ·show(_++_:List UInt8).length≤(s.o k.toNat).B2+s.AG;rw [b_];omega
  ·show(s.o k.toNat).high≤(_++_:List UInt8).length
   have:=g.high;rw [b_];omega
  ·show _≤(_++_:List UInt8).length;rw [b_];omega
theorem Ag.finish{t:Nat}{s:AK}(h:Ag t s)(k:Int):Ag t (s.finish k).2:=by
 unfold AK.finish;split
 ·exact h
 split
 ·exact h
 ·rename_i hs _;obtain⟨_,h0,h4⟩:=AK.Le hs;have g:=h.outs.ok k.toNat Cg;exact h.C0 ⟨g.len,g.co,g.cf,g.cm,g.room,g.high,g.en,g.code⟩ D3
theorem Ag.giveUp{t:Nat}{s:AK}(h:Ag t s)(k:Int)(code:Nat):Ag t (s.giveUp k code).2:=by
 unfold AK.giveUp;split
 ·exact h
 split
 ·exact h
 ·rename_i hs hc;obtain⟨_,h0,h4⟩:=AK.Le hs;have g:=h.outs.ok k.toNat Cg;exact h.C0 ⟨g.len,g.co,g.cf,g.cm,g.room,g.high,by have:=g.high;have:=g.len;show(s.o k.toNat).high≤4096;exact w_ g.high g.len,by show code≤_;omega⟩ D3
theorem Ag.close{t:Nat}{s:AK}(h:Ag t s)(code:Nat):Ag t (s.close code).2:=by
 unfold AK.close;split
 ·exact h
 split
 ·exact h
 ·exact {h with closed:=by show 9≤10;decide,code:=by show code≤_;omega}
structure IR(o o':CA):Prop where
 data:o'.data=o.data
 finished:o'.finished=o.finished
 given:o'.given=o.given
 code:o'.code=o.code
 end_:o'.end_=o.end_
 high:o'.high=o.high
theorem IR.refl(o:CA):IR o o:=⟨rfl,rfl,rfl,rfl,rfl,rfl⟩
theorem IR.trans{a b c:CA}(h:IR a b)(g:IR b c):IR a c:=
 ⟨g.data.trans h.data,g.finished.trans h.finished,g.given.trans h.given,g.code.trans h.code,g.end_.trans h.end_,g.high.trans h.high⟩
theorem lF{AG:Nat}{outs:List CA}{f:AZ}(h:GB AG outs)(hf:FV outs f):GB AG (G5 outs f)∧∀k,IR (outs.getD k B') ((G5 outs f).getD k B'):=by
 unfold G5;split
 ·rename_i hc
  have hk:f.stream.toNat<4:=by have:=hf.1;have:=hf.2.1;omega
  have g:=h.ok _ hk;have hle:=hf.2.2 hc.1;have hcl:=g.Us;obtain⟨e1,e2,e3⟩:=QO (lo:=f.offset) (hi:=f.offset+f.data.size-1) g.co g.cf Cg Cg (by rw [g.cm];show _<1073741824;omega);refine⟨h.set ⟨g.len,e2,by rw [e1],by rw [e1];exact g.cm,?_,g.high,g.en,g.code⟩,fun k=>?_⟩
  ·have hm:=zE (o:=outs.getD f.stream.toNat B') (o':={outs.getD f.stream.toNat B' with AF:=(outs.getD f.stream.toNat B').AF.add f.offset (f.offset+f.data.size-1)}) g.co.inc e2.inc (outs.getD f.stream.toNat B').data.length e2.hi (fun n hn=>(e3 n).2 (.inr hn))
   have:=g.room
   show(outs.getD f.stream.toNat B').data.length≤_;omega
  ·rw [Oc];split
   ·rename_i e;rw [←e.1];exact⟨rfl,rfl,rfl,rfl,rfl,rfl⟩
   ·exact .refl _
 ·exact⟨h,fun k=>.refl _⟩
theorem FV.same{outs outs':List CA}(hs:∀k,IR (outs.getD k B') (outs'.getD k B')){f:AZ}(h:FV outs f):FV outs' f:=
 ⟨h.1,h.2.1,fun hk=>by rw [(hs _).data];exact h.2.2 hk⟩
theorem VR{AG:Nat}:∀(fs:List AZ) (outs:List CA),GB AG outs→(∀f∈fs,FV outs f)→GB AG (fs.foldl G5 outs)∧∀k,IR (outs.getD k B') ((fs.foldl G5 outs).getD k B')
 |[],outs,h,_=>⟨h,fun k=>.refl _⟩
 |f::fs,outs,h,hf=>by
  obtain⟨a,b⟩:=lF h (hf f Cl);obtain⟨c,d⟩:=VR fs _ a (fun g hg=>(hf g IP).same b);exact⟨c,fun k=>(b k).trans (d k)⟩
theorem qV{AG:Nat}{l:List AP}{outs:List CA}{p:Kn}(h:GB AG outs)(hf:∀f∈p.Ap,FV outs f):GB AG (Gl l outs p)∧∀k,IR (outs.getD k B') ((Gl l outs p).getD k B'):=by
 unfold Gl;split
 ·exact VR _ _ h hf
 ·exact⟨h,fun k=>.refl _⟩
theorem ST{AG:Nat}{l:List AP}:∀(ps:List Kn) (outs:List CA),GB AG outs→(∀p∈ps,∀f∈p.Ap,FV outs f)→GB AG (ps.foldl (Gl l) outs)∧∀k,IR (outs.getD k B') ((ps.foldl (Gl l) outs).getD k B')
 |[],outs,h,_=>⟨h,fun k=>.refl _⟩
 |p::ps,outs,h,hf=>by
  obtain⟨a,b⟩:=qV (l:=l) h (hf p Cl);obtain⟨c,d⟩:=ST ps _ a (fun q hq g hg=>(hf q NO g hg).same b);exact⟨c,fun k=>(b k).trans (d k)⟩
theorem Ag.Dj{t:Nat}{s:AK}(h:Ag t s)(l:List AP):Ag t (s.Dj l):=by
 obtain⟨a,b⟩:=ST (l:=l) s.AJ s.outs h.outs (fun p hp f hf=>(h.AJ p hp).fr f hf);exact h.Ey a (fun f hf=>hf.same b)
theorem WO:∀(ds:List UInt8) (off:Nat) (data:List UInt8) (there:List Bool),(GR ds off data there).1.length=data.length∧(GR ds off data there).2.length=there.length
 |[],off,data,there=>CO
 |d::ds,off,data,there=>by
  rw [GR];split
  ·exact WO ds _ _ _
  ·have:=WO ds (off+1) (data.set off d) (there.set off true)
   rw [j',j']at this;exact this
theorem HE.bytes{AG t:Nat}{x:DI}(h:HE AG t x)(f:AZ)(hf:E1 f)(h5:f.kind=5)(hb:x.given=false→f.offset+f.data.size≤x.read+AG):HE AG t (x.bytes f).2:=by
 unfold DI.bytes;split
 ·exact h
 split
 ·exact h
 ·rename_i hg;have hle:=hb Rl;obtain⟨p1,p2⟩:=WO f.data.data.toList f.offset (x.data++u_ (max x.high (f.offset+f.data.size)-x.data.length) 0) (x.there++u_ (max x.high (f.offset+f.data.size)-x.data.length) false);have hdl:=h.dl;have htl:=h.tl;refine⟨?_,?_,?_,?_,h.rt,?_,h.code,h.st,h.Jg⟩
  ·show(x.put f).1.length=max x.high _;unfold DI.put;rw [p1,b_,l_];omega
  ·show(x.put f).2.length=max x.high _;unfold DI.put;rw [p2,b_,l_];omega
  ·show x.read≤max x.high _
   have:=h.rh;omega
  ·show max x.high _≤x.read+AG
   have:=h.hw;omega
  ·show(if f.fin=true then _ else _)≤_;split
   ·exact hf.2.2.2.2.1 h5
   ·exact h.en
theorem Ag.take{t:Nat}{s:AK}(h:Ag t s)(f:AZ)(hf:E1 f)(hb:¬s.busy f):Ag t (s.take f).2∧(∀k,(s.i k).read=((s.take f).2.i k).read∧(s.i k).state=((s.take f).2.i k).state∧((s.i k).given=true→((s.take f).2.i k).given=true))∧(s.take f).2.AG=s.AG:=by
 have hk4:f.stream.toNat<4:=by have:=hf.1;have:=hf.2.1;omega
 have g:=h.ins _ hk4
 have hset:∀x:DI,((s.i f.stream.toNat).read=x.read∧(s.i f.stream.toNat).state=x.state∧((s.i f.stream.toNat).given=true→x.given=true))→
   ∀k,(s.i k).read=((s.Cb f.stream.toNat x).i k).read∧(s.i k).state=((s.Cb f.stream.toNat x).i k).state∧((s.i k).given=true→((s.Cb f.stream.toNat x).i k).given=true):=by
  intro x hx k;have e:(s.Cb f.stream.toNat x).i k=(s.ins.set f.stream.toNat x).getD k IF:=rfl;rw [e,Oc];split
  ·rename_i e;rw [←e.1];exact hx
  ·exact Ko
 unfold AK.take;split
 ·split
  ·exact⟨h,fun k=>Ko,rfl⟩
  ·exact⟨h.Dj _,fun k=>Ko,rfl⟩
 split
 ·split
  ·exact⟨h,fun k=>Ko,rfl⟩
  ·refine⟨h.Cb ⟨g.dl,g.tl,g.rh,g.hw,g.rt,?_,?_,g.st,fun _=>rfl⟩,hset _ ⟨rfl,rfl,fun _=>rfl⟩,rfl⟩
   ·exact hf.2.2.2.1
   ·show(if _ then _ else _)≤_;split
    ·exact g.code
    ·exact hf.2.2.1
 split
 ·rename_i h5
  have hle:(s.i f.stream.toNat).given=false→f.offset+f.data.size≤(s.i f.stream.toNat).read+s.AG:=fun hg=>by
   rcases p_ ((s.i f.stream.toNat).read+s.AG) (f.offset+f.data.size)with hlt|hge
   ·exact absurd ⟨h5,fun h2=>qO,hg,hlt⟩ hb
   ·exact hge
  refine⟨h.Cb (g.bytes f hf h5 hle),hset _ ?_,rfl⟩;unfold DI.bytes;split
  ·exact Ko
  split
  ·exact Ko
  ·exact Ko
 split<;>exact⟨h,fun k=>Ko,rfl⟩
theorem nT{s s':AK}{f:AZ}(b:∀k,(s.i k).read=(s'.i k).read∧(s.i k).state=(s'.i k).state∧((s.i k).given=true→(s'.i k).given=true))(e:s'.AG=s.AG)(h:¬s.busy f):¬s'.busy f:=by
 rintro⟨k1,k2,k3,k4⟩;obtain⟨b1,b2,b3⟩:=b f.stream.toNat;refine h ⟨k1,by rw [b2];exact k2,?_,by rw [b1,←e];exact k4⟩;cases e2:(s.i f.stream.toNat).given
 ·rfl
 ·rw [b3 e2]at k3;cases k3
theorem vA(number:Nat)(due:List Nat)(f:AZ):(EX number due f).length≤due.length+1∧(due.getD (due.length-1) 0=number→due≠ []→EX number due f=due)∧((EX number due f)≠due→(EX number due f).getD ((EX number due f).length-1) 0=number∧EX number due f≠ []):=by
 unfold EX;split
 ·rename_i hc;refine⟨Cl,fun h1 h2=>?_,fun _=>?_⟩
  ·rcases hc.2.2 with h3|h3
   ·exact absurd h3 h2
   ·exact absurd h1 h3
  ·simp
 ·exact⟨xr _,fun _ _=>rfl,fun h=>absurd rfl h⟩
def Hm(n number:Nat)(due:List Nat):Prop:=due.length≤n∨(due.length≤n+1∧due≠ []∧due.getD (due.length-1) 0=number)
theorem Hm.le{n number:Nat}{due:List Nat}(h:Hm n number due):due.length≤n+1:=by rcases h with h|h;omega;exact h.1
theorem Hm.step{n number:Nat}{due:List Nat}(h:Hm n number due)(f:AZ):Hm n number (EX number due f):=by
 obtain⟨a,b,c⟩:=vA number due f;rcases h with h|⟨h1,h2,h3⟩
 ·by_cases e:EX number due f=due
  ·rw [e];exact .inl h
  ·exact .inr ⟨Cg,(c e).2,(c e).1⟩
 ·rw [b h3 h2];exact .inr ⟨h1,h2,h3⟩
theorem PU{s:AK}(f:AZ):(s.take f).2.due=s.due:=by
 unfold AK.take;split
 ·split<;>rfl
 split
 ·split<;>rfl
 split
 ·rfl
 split<;>rfl
theorem UT{s:AK}(f:AZ):(s.take f).1≤10:=by
 unfold AK.take DI.bytes
 repeat' split
 all_goals simp
theorem Ag.Bt{t number:Nat}:∀(fs:List AZ) (s:AK),Ag (t+1) s→Hm t number s.due→(∀f∈fs,E1 f∧¬s.busy f)→Ag (t+1) (s.Bt number fs).2
 |[],s,h,_,_=>h
 |f::fs,s,h,hd,hf=>by
  obtain⟨a,b,c⟩:=h.take f (hf f Cl).1 (hf f Cl).2;rw [AK.Bt];split
  ·exact {a with closed:=UT f,code:=by have:=UT (s:=s) f;show(s.take f).1≤_;omega}
  ·have hd2:Hm t number (EX number (s.take f).2.due f):=by rw [PU];exact hd.step f
   exact Ag.Bt fs _ {a with due:=hd2.le} hd2 (fun g hg=>⟨(hf g IP).1,nT b c (hf g IP).2⟩)
theorem Ag.QB{t:Nat}{s:AK}(h:Ag t s){n:Nat}(hn:n<4611686018427387904)(ht:t<1000000000):Ag (t+1) {s with AO:=s.AO.add n n,Ao:=s.Ao.add n n}:=by
 have hg:=h.AO.add n n hn V5;have hel:=h.el;obtain⟨e1,e2,_⟩:=QO (lo:=n) (hi:=n) h.Ao h.ef D3 hn (by rw [h.em];show _<1073741824;omega);have hm:=h.mono De;exact {hm with AO:=hg.1,gm:=hg.2.trans h.gm,Ao:=e2,ef:=by show(s.Ao.add n n).floor=0;rw [e1],em:=by show(s.Ao.add n n).AN=_;rw [e1];exact h.em,el:=by show(s.Ao.add n n).l.length≤t+1;rw [e1];have:=Mu s.Ao.l n n;show(BW n n s.Ao.l).length≤_;omega}
theorem Ag.BB{t:Nat}{s:AK}(h:Ag t s)(ht:t<1000000000)(p:List UInt8):Ag (t+1) (s.BB p).2:=by
 have hm:=h.mono De;unfold AK.BB;split
 ·exact hm
 split
 ·exact hm
 ·rename_i number b hop;split
  ·exact hm
  split
  ·exact {hm with closed:=by show 5≤10;decide,code:=by show 5≤4611686018427387903;decide}
  ·rename_i fs hdec;split
   ·exact hm
   ·rename_i hb;exact Ag.Bt fs _ (h.QB (Js hop).2.2 ht) (.inl h.due) (fun f hf=>⟨E1.of (Ks hdec f hf),fun hbz=>hb ⟨f,hf,hbz⟩⟩)
theorem oW(there:List Bool)(high:Nat):∀(n read:Nat),GQ there high n read≤n∧(read≤high→read+GQ there high n read≤high)
 |0,read=>⟨f_ _,fun h=>h⟩
 |n+1,read=>by
  rw [GQ];split
  ·rename_i hc;obtain⟨a,b⟩:=oW there high n (read+1);exact⟨Cg,fun _=>by have:=b Cg;omega⟩
  ·exact⟨a_ _,fun h=>h⟩
theorem Ag.read{t:Nat}{s:AK}(h:Ag t s)(k AN:Int):Ag (t+1) (s.read k AN).2:=by
 have hm:=h.mono De;unfold AK.read;split
 ·exact hm
 ·rename_i hs;obtain⟨_,h0,h4⟩:=AK.Le hs;dsimp only;have g:=h.ins k.toNat Cg;refine hm.Cb ?_
  have g1:HE s.AG t (if(s.i k.toNat).given=true∧(s.i k.toNat).state=0 then {s.i k.toNat with state:=2}else s.i k.toNat):=by
   split
   ·rename_i hc;exact {g with st:=f_ _,Jg:=fun _=>hc.1}
   ·exact g
  generalize(if(s.i k.toNat).given=true∧(s.i k.toNat).state=0 then {s.i k.toNat with state:=2}else s.i k.toNat)=x1 at g1⊢
  have hn:(if x1.state=0 then GQ x1.there x1.high AN.toNat x1.read else 0)+x1.read≤x1.high:=by
   split
   ·have:=(oW x1.there x1.high AN.toNat x1.read).2 g1.rh;omega
   ·have:=g1.rh;omega
  generalize(if x1.state=0 then GQ x1.there x1.high AN.toNat x1.read else 0)=nn at hn⊢;have h1:=g1.hw;have h2:=g1.rt;have h3:=h.w2
  have g2:HE s.AG (t+1) {x1 with read:=x1.read+nn}:=⟨g1.dl,g1.tl,by show x1.read+nn≤x1.high;omega,by show x1.high≤x1.read+nn+s.AG;omega,by show x1.read+nn≤1024*(t+1);omega,g1.en,g1.code,g1.st,g1.Jg⟩
  split
  ·exact {g2 with st:=by show 1≤2;decide,Jg:=fun h=>by cases h}
  ·exact g2
theorem Ag.P_{t:Nat}{s:AK}(h:Ag t s)(hn:s.next+1≤20*t):Ag t {s with next:=s.next+1}:=
 {h with sl:=Nat.le_succ_of_le h.sl,AJ:=fun p hp=>let g:=h.AJ p hp;⟨Nat.lt_succ_of_lt g.num,g.len,g.fr⟩,nx:=hn}
theorem tv{s:AK}(b:List UInt8):(s.opened b).2=s∨(s.opened b).2={s with next:=s.next+1}:=by
 unfold AK.opened;split
 ·exact .inl rfl
 split
 ·exact .inl rfl
 split
 ·exact .inr rfl
 ·exact .inr rfl
theorem Ag.opened{t:Nat}{s:AK}(h:Ag t s)(b:List UInt8)(hn:s.next+1≤20*t):Ag t (s.opened b).2∧(s.opened b).2.next≤s.next+1:=by
 rcases tv (s:=s) b with e|e<;>rw [e]
 ·exact⟨h,xr _⟩
 ·exact⟨h.P_ hn,f_ _⟩
theorem pG{s:AK}{b:List UInt8}{l:List AZ}(h:(s.opened b).1=some l):(s.opened b).2={s with next:=s.next+1}∧l.length≤300∧(∀f∈l,Bh f):=by
 unfold AK.opened at h⊢;split at h
 ·cases h
 ·rename_i number p hop;split at h
  ·cases h
  ·rename_i hc;rw [if_neg hc];split at h
   ·cases h
   ·rename_i fs hdec;dsimp only at h⊢;split at h
    ·cases h;have h1:=(N1 hdec).1;have h2:=Js hop;exact⟨rfl,Cg,fun f hf=>Ks hdec f hf⟩
    ·cases h
theorem Ag.HC{t:Nat}{s:AK}(h:Ag t s)(f:AZ):Ag t (s.HC f).2:=by
 unfold AK.HC;split
 ·exact {h with due:=by have:=h.due;exact w_ Xw this}
 ·exact h
theorem Ag.sends{t:Nat}{s:AK}(h:Ag t s)(f:AZ)(hk:f.stream.toNat<4):Ag t (s.sends f).2:=by
 unfold AK.sends;dsimp only;split
 ·exact h
 split
 ·exact h
 ·rename_i hc _;have g:=h.outs.ok _ hk;refine h.C0 ⟨g.len,g.co,g.cf,g.cm,g.room,?_,g.en,g.code⟩ D3;show max (s.o f.stream.toNat).high _≤(s.o f.stream.toNat).data.length;have h1:(s.o f.stream.toNat).high≤(s.o f.stream.toNat).data.length:=g.high;have h2:¬(s.o f.stream.toNat).data.length<f.offset+f.data.size:=fun h=>hc (.inr (.inl h));omega
theorem Ag.may{t:Nat}{s:AK}(h:Ag t s)(f:AZ)(hk:f.stream.toNat<4):Ag t (s.may f).2:=by
 unfold AK.may;split
 ·exact h.HC f
 split
 ·exact h
 split
 ·exact h.sends f hk
 ·exact h
theorem kq{s:AK}(f:AZ):(s.may f).2.next=s.next∧(s.may f).2.AJ=s.AJ∧(∀k,((s.may f).2.o k).data=(s.o k).data)∧(s.may f).2.AG=s.AG:=by
 unfold AK.may;split
 ·unfold AK.HC;split<;>exact QQ
 split
 ·exact QQ
 split
 ·unfold AK.sends;dsimp only;split
  ·exact QQ
  split
  ·exact QQ
  ·refine⟨rfl,rfl,fun k=>?_,rfl⟩;show((s.outs.set f.stream.toNat _).getD k B').data=(s.outs.getD k B').data;rw [Oc];split
   ·rename_i e;rw [←e.1];rfl
   ·rfl
 ·exact QQ
theorem yL{s:AK}{f:AZ}(hf:Bh f)(h:(s.may f).1=true):FV s.outs f:=by
 refine⟨hf.2.2.1,hf.2.2.2.1,fun h5=>?_⟩;unfold AK.may at h;rw [if_neg Cg,if_neg Cg,if_pos h5]at h;unfold AK.sends at h;dsimp only at h;split at h
 ·cases h
 ·rename_i hc;have h2:¬(s.o f.stream.toNat).data.length<f.offset+f.data.size:=fun h=>hc (.inr (.inl h));show _≤(s.o f.stream.toNat).data.length;omega
theorem Ag.Cf{t:Nat}:∀(fs:List AZ) (s:AK),Ag t s→(∀f∈fs,Bh f)→Ag t (s.Cf fs).2∧(s.Cf fs).2.next=s.next∧(s.Cf fs).2.AJ=s.AJ∧(∀k,((s.Cf fs).2.o k).data=(s.o k).data)∧((s.Cf fs).1=true→∀f∈fs,FV s.outs f)
 |[],s,h,_=>⟨h,rfl,rfl,fun _=>rfl,fun _ f hf=>nomatch hf⟩
 |f::fs,s,h,hf=>by
  have hok:=hf f Cl
  have hk:f.stream.toNat<4:=by have:=hok.2.2.1;have:=hok.2.2.2.1;omega
  obtain⟨a1,a2,a3,a4⟩:=kq (s:=s) f;have hm:=h.may f hk;rw [AK.Cf];split
  ·rename_i ht;obtain⟨b1,b2,b3,b4,b5⟩:=Ag.Cf fs _ hm (fun g hg=>hf g IP);refine⟨b1,b2.trans a1,b3.trans a2,fun k=>(b4 k).trans (a3 k),fun hh g hg=>?_⟩;rcases v_.1 hg with rfl|hg
   ·exact yL hok ht
   ·have:=b5 hh g hg
    exact⟨this.1,this.2.1,fun h5=>by have h7:=this.2.2 h5;have h8:=a3 g.stream.toNat;show _≤(s.o g.stream.toNat).data.length;rw [←h8];exact h7⟩
  ·rename_i hc;exact⟨hm,a1,a2,a3,fun hh=>by cases hh⟩
theorem Ag.emit{t:Nat}{s:AK}(h:Ag t s)(b:List UInt8)(hn:s.next+1≤20*t):Ag t (s.emit b).2∧(s.emit b).2.next≤s.next+1:=by
 obtain⟨a1,a2⟩:=h.opened b hn;unfold AK.emit
 rcases e:s.opened b with⟨o,s2⟩
 rw [e]at a1 a2;dsimp only at a1 a2
 cases o with
 |none=>exact⟨a1,a2⟩
 |some l=>
  obtain⟨c1,c2,c3⟩:=pG (s:=s) (b:=b) (l:=l) (by rw [e]);rw [e]at c1;dsimp only at c1;obtain⟨b1,b2,b3,b4,b5⟩:=Ag.Cf l s2 a1 c3;dsimp only;split
  ·rename_i ht
   have hs2:s2.next=s.next+1:=by rw [c1]
   refine⟨{b1 with sl:=?_,AJ:=?_},by show(s2.Cf l).2.next≤_;rw [b2];exact a2⟩
   ·show((s2.Cf l).2.AJ++[_]).length≤(s2.Cf l).2.next;rw [b_,b3,b2,hs2]
    have:=h.sl
    have e3:s2.AJ=s.AJ:=by rw [c1]
    rw [e3];simp only [m_];omega
   ·intro p hp;have hp':p∈(s2.Cf l).2.AJ++[⟨s.next,l⟩]:=hp;rcases List.mem_append.1 hp' with hp|hp
    ·exact b1.AJ p hp
    ·rw [c_.1 hp];refine⟨by show s.next<(s2.Cf l).2.next;rw [b2,hs2];omega,c2,fun f hf=>?_⟩
     have:=b5 ht f hf
     exact⟨this.1,this.2.1,fun h5=>by have h7:=this.2.2 h5;have h8:=b4 f.stream.toNat;show _≤((s2.Cf l).2.o f.stream.toNat).data.length;rw [h8];exact h7⟩
  ·exact⟨b1,by rw [b2];exact a2⟩
theorem Ag.Df{t:Nat}:∀(bs:List (List UInt8)) (s:AK),Ag t s→s.next+bs.length≤20*t→Ag t (s.Df bs).2
 |[],s,h,_=>h
 |b::bs,s,h,hn=>by
  rw [g_]at hn;obtain⟨a1,a2⟩:=h.emit b Cg;rw [AK.Df];split
  ·exact Ag.Df bs _ a1 Cg
  ·exact a1
theorem Ag.E3{t:Nat}{s:AK}(h:Ag t s)(l:List (List UInt8))(hl:l.length≤20):Ag (t+1) (s.E3 l).2:=by
 have hm:=h.mono De;have hn:=h.nx;unfold AK.E3;split
 ·unfold AK.CT;split
  ·exact hm
  split
  ·exact {hm with}
  ·have hm2:Ag (t+1) {s with said:=true}:={hm with}
   obtain⟨a1,_⟩:=hm2.opened (l.getD 0 []) (by show s.next+1≤20*(t+1);omega);split
   ·rename_i s2 e;rw [e]at a1;exact a1
   ·rename_i fs s2 e;rw [e]at a1;exact a1
 ·have ha:=Ag.Df l s hm Cg;split
  ·split
   ·exact ha
   ·exact {ha with due:=a_ _}
  ·exact ha
section
variable{B:World}
def Kept(b o:Nat)(xs:List UInt8)(n:Nat)(b' o':Nat)(ys:List UInt8)(n':Nat)(Q:HP):Prop:=
 ∀s1:List Value,s1.length=n'→∃s2 D,s2.length=n∧AD b' o' ys s1*Q=D*AD b o xs s2
theorem Kept.refl(b o:Nat)(xs:List UInt8)(n:Nat):Kept b o xs n b o xs n HP.BQ:=fun s1 h=>⟨s1,HP.BQ,h,Cm⟩
theorem Kept.trans{b o n b1 o1 n1 b2 o2 n2:Nat}{xs ys zs:List UInt8}{Q1 Q2:HP}(h1:Kept b o xs n b1 o1 ys n1 Q1)(h2:Kept b1 o1 ys n1 b2 o2 zs n2 Q2):Kept b o xs n b2 o2 zs n2 (Q2*Q1):=by
 intro s2 hs2;obtain⟨s1,D1,e1,e2⟩:=h2 s2 hs2;obtain⟨s0,D0,e3,e4⟩:=h1 s1 e1;refine⟨s0,D1*D0,e3,?_⟩;rw [←HP.assoc,e2,HP.assoc,e4,HP.assoc]
def EK(b o:Nat)(xs:List UInt8)(s:List Value)(R:HP)(ys:List UInt8)(v:Value)(H':HP):Prop:=
 ∃p' b' o' c' s' Q,v=.slice p' ys.length c'∧Sl p' b' o' ys.length c'∧ys.length*1+s'.length=c'*1∧H'=AD b' o' ys s'*(Q*R)∧Kept b o xs s.length b' o' ys s'.length Q
theorem EK.after{b o n b1 o1:Nat}{xs ys zs:List UInt8}{s s1:List Value}{Q1 R H':HP}{v:Value}(h1:Kept b o xs s.length b1 o1 ys s1.length Q1)(h:EK b1 o1 ys s1 (Q1*R) zs v H'):EK b o xs s R zs v H':=by
 obtain⟨p',b',o',c',s',Q,rfl,h2,h3,rfl,h4⟩:=h;exact⟨p',b',o',c',s',Q*Q1,rfl,h2,h3,by rw [HP.assoc],h1.trans h4⟩
theorem R9.gJ{p:Option Addr}{b o c:Nat}{xs ys:List UInt8}{s:List Value}{R H':HP}{v:Value}(hs:Sl p b o xs.length c)(hc:xs.length*1+s.length=c*1)(h:R9 p b o c xs s R ys v H'):EK b o xs s R (xs++ys) v H':=by
 rcases h with⟨h1,rfl,rfl⟩|⟨h1,b',c',s',rfl,h2,h3,rfl⟩
 ·refine⟨p,b,o,c,s.drop (ys.length*AB.sz UInt8),HP.BQ,by rw [b_],⟨?_,by rw [b_];exact h1⟩,?_,Ct,?_⟩
  ·exact hs.1
  ·have:AB.sz UInt8=1:=rfl
   rw [b_,j_,this];omega
  ·intro s1 hs1;refine⟨AE ys++s1,HP.BQ,?_,?_⟩
   ·have:AB.sz UInt8=1:=rfl
    rw [j_,this]at hs1;rw [b_,CD,this];omega
   ·unfold AD;rw [E0,List.append_assoc];ac_rfl
 ·refine⟨_,b',0,c',s',AD b o xs s,by rw [b_],⟨.inr rfl,by rw [b_];exact h2⟩,?_,rfl,?_⟩
  ·rw [b_];exact h3
  ·intro s1 hs1;exact⟨s,AD b' 0 (xs++ys) s1,rfl,rfl⟩
section
variable{P:Program}{n:Nat}{E:A6}{D:CK}{d:Option Tmp}{ty:TypeId}{pos:String}{af:Array Edge}{g:Option (Nat×Bool)}{x y:Operand}
theorem My{R:HP}{sT xT e by_:Nat}{b o bb oo cc c:Nat}{p pp:Option Addr}
  {xs ys:List UInt8}{s:List Value}{z:Value}[hT:Ar P sT (.slice e)][hT2:Ar P xT (.slice e)][hz:Bw P e 1][hi:FH P e by_][h0:BZ P e z]
  (hx:ev E x=some (.slice p xs.length c))(hs:Sl p b o xs.length c)(hc:xs.length*1+s.length=c*1)
  (hy:ev E y=some (.slice pp ys.length cc))(hs2:Sl pp bb oo ys.length cc)(hr:AW B (AD b o xs s*R) bb oo ys)(hzc:z.cells.size=1)
  (hb:(xs.length+ys.length)*by_≤140737488355328)(hby:0<by_):
  C7 P B n ⟨d,.call ⟨.builtin .append,#[x,y],#[sT,xT]⟩,ty,pos,af,g⟩ E D (AD b o xs s*R) (fun v H'=>EK b o xs s R (xs++ys) v H'):=by
 intro a w h1 h2 h3 K Q hk;exact fJ (α:=UInt8) (hT:=hT) (hT2:=hT2) (hz:=hz) (hi:=hi) (h0:=h0) hx hs hc hy hs2 hr hzc hb hby a w h1 h2 h3 K Q (fun v H' w' h=>hk v H' w' (h.gJ hs hc))
theorem tW{R:HP}{sT xT e by_:Nat}{b o c:Nat}{p:Option Addr}{xs:List UInt8}{s:List Value}{zv:Value}{str:ByteArray}
  [hT:Ar P sT (.slice e)][hT2:Ar P xT .string][hz:Bw P e 1][hi:FH P e by_][h0:BZ P e zv]
  (hx:ev E x=some (.slice p xs.length c))(hs:Sl p b o xs.length c)(hc:xs.length*1+s.length=c*1)
  (hy:ev E y=some (.string str))(hzc:zv.cells.size=1)
  (hb:(xs.length+str.size)*by_≤140737488355328)(hby:0<by_):
  C7 P B n ⟨d,.call ⟨.builtin .append,#[x,y],#[sT,xT]⟩,ty,pos,af,g⟩ E D (AD b o xs s*R) (fun v H'=>EK b o xs s R (xs++str.data.toList) v H'):=by
 intro a w h1 _ h3 K Q hk
 have hl:str.data.toList.length=str.size:=by rw [Array.length_toList];rfl
 have hf:∀w',Sat B (AD b o xs s*R) w'→(Builtin.firstCells (AB.sz UInt8) str.data.toList.length (.string str)).run P w'=.ok (AE str.data.toList).toArray w':=by
  intro w' _
  have e1:(str.extract 0 str.data.toList.length).data=str.data:=by
   rw [hl]
   have:str.extract 0 str.size=str:=ByteArray.extract_zero_size
   rw [this]
  simp only [Builtin.firstCells,e1,No,Sem.run_pure];congr 1;apply Array.toList_inj.1;rw [Array.toList_map]
 obtain⟨v,w',hrun,H',hH,hw'⟩:=Z5 (P:=P) (B:=B) (R:=R) (b:=b) (o:=o) (p:=p) (c:=c) (xs:=xs) (ys:=str.data.toList) (s:=s) (sT:=sT) (xT:=xT) (ats:= #[sT,xT]) (e:=e) (by_:=by_) (ty:=ty) (x:=.string str) (w:=w) (z:=zv) hT.get rfl rfl (fun k h=>by rw [hT2.get]at h;cases h) ⟨_,hT2.get⟩ hz.get hi.get h0.get hzc hs hc KR (fun w2 hw2=>hf w2 hw2) (by rw [hl];exact hb) hby h3
 have hrun2:(execOp a.eval ⟨d,.call ⟨.builtin .append,#[x,y],#[sT,xT]⟩,ty,pos,af,g⟩).run P w=.ok (.value v) w':=by
  simp [execOp,resolve,h1.ev hx,h1.ev hy,invoke,builtin,hrun]
 simp only [Oper.wp,hrun2,Oper.upon];exact hk v H' w' (hH.gJ hs hc) hw'
end
theorem Ij(n:Nat)(hn:n≤4611686018427387903)(p:Option Addr)(b o c:Nat)(xs:List UInt8)(s:List Value)(R:HP)(hs:Sl p b o xs.length c)(hc:xs.length*1+s.length=c*1)(hx:xs.length<1000000000000):
  Fn Tryz.prog B 194 [.slice p xs.length c,uN n] (AD b o xs s*R) (fun v H'=>EK b o xs s R (xs++AQ n) v H'):=by
 refine mD ?_;refine mC (fun hc0=>?_) (fun hc0=>?_)
 ·refine J4 ?_;refine H8 ?_;refine FM ?_;rintro _ _ ⟨b11,rfl,rfl⟩;refine Aw (H':=AD b o xs s*(HP.AA b11 0 (AE (AQ n))*R)) Y7 ?_
  have hl:(AQ n).length=1:=by simp [AQ, *]
  refine AV (My (ys:=AQ n) (bb:=b11) (oo:=0) (cc:=1) rfl hs hc KR LY inferInstance rfl Lj Cg) rfl ?_;rintro _ _ ⟨q,b',o',c',s',Q,rfl,h1,h2,rfl,hk⟩;refine J6 ?_;exact S5
 refine J3 ?_;refine JL (GH (j:=16384) rfl rfl) ?_;refine J3 ?_;refine mC (fun hc1=>?_) (fun hc1=>?_)
 ·refine bM ?_;rintro _ _ ⟨b23,rfl,rfl⟩;refine Aw (H':=AD b o xs s*(HP.AA b23 0 (AE (AQ n))*R)) lW ?_
  have hl:(AQ n).length=2:=by simp [AQ, *]
  refine AV (My (ys:=AQ n) (bb:=b23) (oo:=0) (cc:=2) rfl hs hc KR LY inferInstance rfl Lj Cg) rfl ?_;rintro _ _ ⟨q,b',o',c',s',Q,rfl,h1,h2,rfl,hk⟩;refine J6 ?_;exact S5
 refine J3 ?_;refine JL (GH (j:=1073741824) rfl rfl) ?_;refine J3 ?_;refine mC (fun hc2=>?_) (fun hc2=>?_)
 ·refine YY ?_;rintro _ _ ⟨b41,rfl,rfl⟩;refine Aw (H':=AD b o xs s*(HP.AA b41 0 (AE (AQ n))*R)) rZ ?_
  have hl:(AQ n).length=4:=by simp [AQ, *]
  refine AV (My (ys:=AQ n) (bb:=b41) (oo:=0) (cc:=4) rfl hs hc KR LY inferInstance rfl Lj Cg) rfl ?_;rintro _ _ ⟨q,b',o',c',s',Q,rfl,h1,h2,rfl,hk⟩;refine J6 ?_;exact S5
 refine kZ ?_;rintro _ _ ⟨b68,rfl,rfl⟩;refine Aw (H':=AD b o xs s*(HP.AA b68 0 (AE (AQ n))*R)) Ya ?_
 have hl:(AQ n).length=8:=by simp [AQ, *]
 refine AV (My (ys:=AQ n) (bb:=b68) (oo:=0) (cc:=8) rfl hs hc KR LY inferInstance rfl Lj Cg) rfl ?_;rintro _ _ ⟨q,b',o',c',s',Q,rfl,h1,h2,rfl,hk⟩;refine J4 ?_;exact S5
theorem dq(d:ByteArray)(hd:d.size<1000000000000)(p:Option Addr)(b o c:Nat)(xs:List UInt8)(s:List Value)(R:HP)(hs:Sl p b o xs.length c)(hc:xs.length*1+s.length=c*1)(hx:xs.length<1000000000000):
  Fn Tryz.prog B 200 [.slice p xs.length c,.string d] (AD b o xs s*R) (fun v H'=>EK b o xs s R (xs++AQ d.size++d.data.toList) v H'):=by
 refine mI Tryz.func200 ?_;refine By ?_;refine JL EM ?_;refine mE rfl (Ij d.size Cg p b o c xs s R hs hc Cg) ?_;rintro _ _ ⟨p9,b9,o9,c9,s9,Q9,rfl,hs9,hc9,rfl,hk9⟩;refine J1 ?_;refine AV (tW (str:=d) rfl hs9 hc9 rfl rfl Z0 Cg) rfl ?_;rintro _ _ hG11;obtain⟨p11,b11,o11,c11,s11,Q11,rfl,hs11,hc11,rfl,hk11⟩:=EK.after (n:=0) hk9 hG11;refine J4 ?_;exact mR [4] (AD b11 o11 (xs++AQ d.size++d.data.toList) s11*(Q11*R)) rfl rfl ⟨p11,b11,o11,c11,s11,Q11,rfl,hs11,hc11,rfl,hk11⟩
theorem cp(r:RF)(fb:Nat)(p:Option Addr)(b o c:Nat)(xs:List UInt8)(s:List Value)(R:HP)(hs:Sl p b o xs.length c)(hc:xs.length*1+s.length=c*1)(hx:xs.length<100000000000)(st:Nat)(hst:r.f.stream=(st:Nat))(hst4:st<4)(hcd:r.f.code≤4611686018427387903)(hof:r.f.offset≤4611686018427387903):
  Fn Tryz.prog B 193 [.slice p xs.length c,ptr fb 0] (AD b o xs s*(HP.AA fb 0 (AI r)*R)) (fun v H'=>EK b o xs s (HP.AA fb 0 (AI r)*R) (xs++[4]++AQ st++AQ r.f.code++AQ r.f.offset) v H'):=by
 refine mI Tryz.func193 ?_;have q1:=B8 st;have q2:=B8 r.f.code;have q3:=B8 r.f.offset;refine eF ?_;rintro _ _ ⟨b6,rfl,rfl⟩;refine BF ?_;refine oF ?_;refine Al 2 Ch rfl rfl (My (ys:=[4]) (bb:=b6) (oo:=0) (cc:=1) rfl hs hc rfl Bc inferInstance rfl Cq Cg) ?_;rintro _ _ ⟨p7,b7,o7,c7,s7,Q7,rfl,hs7,hc7,rfl,hk7⟩;refine BF ?_;refine Al 8 Ch rfl rfl (BK rfl (Ij (st) Cg p7 b7 o7 c7 (xs++[4]) s7 _ hs7 hc7 Cz)) ?_;rintro _ _ hG13;obtain⟨p13,b13,o13,c13,s13,Q13,rfl,hs13,hc13,rfl,hk13⟩:=EK.after (n:=0) hk7 hG13;refine BF ?_
 refine Al 13 Ch rfl rfl (BK rfl (Ij (r.f.code) hcd p13 b13 o13 c13 (xs++[4]++AQ st) s13 _ hs13 hc13 Cz)) ?_;rintro _ _ hG18;obtain⟨p18,b18,o18,c18,s18,Q18,rfl,hs18,hc18,rfl,hk18⟩:=EK.after (n:=0) hk13 hG18;refine BF ?_;refine Al 18 Ch rfl rfl (BK rfl (Ij (r.f.offset) hof p18 b18 o18 c18 (xs++[4]++AQ st++AQ r.f.code) s18 _ hs18 hc18 Cz)) ?_;rintro _ _ hG23;obtain⟨p23,b23,o23,c23,s23,Q23,rfl,hs23,hc23,rfl,hk23⟩:=EK.after (n:=0) hk18 hG23;refine DS ?_;refine Ec 19 Ch rfl rfl Fl EO ?_;refine C3 ?_;exact mR [4] (AD b23 o23 (xs++[4]++AQ st++AQ r.f.code++AQ r.f.offset) s23*(Q23*(HP.AA fb 0 (AI r)*R))) rfl rfl ⟨p23,b23,o23,c23,s23,Q23,rfl,hs23,hc23,rfl,hk23⟩
theorem kb(r:RF)(fb:Nat)(p:Option Addr)(b o c:Nat)(xs:List UInt8)(s:List Value)(R:HP)(hs:Sl p b o xs.length c)(hc:xs.length*1+s.length=c*1)(hx:xs.length<100000000000)(st:Nat)(hst:r.f.stream=(st:Nat))(hst4:st<4)(hof:r.f.offset≤4611686018427387903)(hds:r.f.data.size<1000000000000):
  Fn Tryz.prog B 199 [.slice p xs.length c,ptr fb 0] (AD b o xs s*(HP.AA fb 0 (AI r)*R)) (fun v H'=>EK b o xs s (HP.AA fb 0 (AI r)*R) (xs++[bif r.f.fin then 9 else 8]++AQ st++AQ r.f.offset++AQ r.f.data.size++r.f.data.data.toList) v H'):=by
 refine mI Tryz.func199 ?_;have q1:=B8 st;have q2:=B8 r.f.code;have q3:=B8 r.f.offset;refine J7 ?_;refine JL Wr ?_;refine Ke ?_;refine J2 ?_;refine BO (α:=Unit) (fun _=>[(0,.slice p xs.length c),(1,ptr fb 0),(5,u8 (bif r.f.fin then 9 else 8))]) (fun _=>AD b o xs s*(HP.AA fb 0 (AI r)*R)) (fun _=>True) ?_ ?_
 ·refine mc (fun hc0=>?_) (fun hc0=>?_)
  ·refine J1 ?_;refine JL VV ?_;refine J1 ?_;exact OP
  refine J1 ?_;exact OP
 ·rintro z hz;refine kC ?_;rintro _ _ ⟨b12,rfl,rfl⟩;refine BF ?_;refine Zb ?_;refine Al 3 Ch rfl rfl (My (ys:=[(bif r.f.fin then(9:UInt8)else 8)]) (bb:=b12) (oo:=0) (cc:=1) rfl hs hc rfl Bc inferInstance rfl Cq Cg) ?_;rintro _ _ ⟨p13,b13,o13,c13,s13,Q13,rfl,hs13,hc13,rfl,hk13⟩;refine BF ?_;refine Al 9 Ch rfl rfl (BK rfl (Ij (st) Cg p13 b13 o13 c13 (xs++[bif r.f.fin then 9 else 8]) s13 _ hs13 hc13 Cz)) ?_;rintro _ _ hG19;obtain⟨p19,b19,o19,c19,s19,Q19,rfl,hs19,hc19,rfl,hk19⟩:=EK.after (n:=0) hk13 hG19;refine BF ?_
  refine Al 14 Ch rfl rfl (BK rfl (Ij (r.f.offset) hof p19 b19 o19 c19 (xs++[bif r.f.fin then 9 else 8]++AQ st) s19 _ hs19 hc19 Cz)) ?_;rintro _ _ hG24;obtain⟨p24,b24,o24,c24,s24,Q24,rfl,hs24,hc24,rfl,hk24⟩:=EK.after (n:=0) hk19 hG24;refine BF ?_;refine Al 19 Ch rfl rfl (BK rfl (dq r.f.data hds p24 b24 o24 c24 (xs++[bif r.f.fin then 9 else 8]++AQ st++AQ r.f.offset) s24 _ hs24 hc24 Cq)) ?_;rintro _ _ hG29;obtain⟨p29,b29,o29,c29,s29,Q29,rfl,hs29,hc29,rfl,hk29⟩:=EK.after (n:=0) hk24 hG29;refine DS ?_;refine Sx ?_;refine C3 ?_;exact mR [4] (AD b29 o29 (xs++[bif r.f.fin then 9 else 8]++AQ st++AQ r.f.offset++AQ r.f.data.size++r.f.data.data.toList) s29*(Q29*(HP.AA fb 0 (AI r)*R))) rfl rfl ⟨p29,b29,o29,c29,s29,Q29,rfl,hs29,hc29,rfl,hk29⟩
theorem jz(r:RF)(fb:Nat)(p:Option Addr)(b o c:Nat)(xs:List UInt8)(s:List Value)(R:HP)(hs:Sl p b o xs.length c)(hc:xs.length*1+s.length=c*1)(hx:xs.length<100000000000)(hrok:r.ok)(hrd:AW B R r.b r.o r.f.ranges)(hok:HY r.f.ranges)(hrl:r.f.ranges.length<10000000000):
  Fn Tryz.prog B 190 [.slice p xs.length c,ptr fb 0] (AD b o xs s*(HP.AA fb 0 (AI r)*R)) (fun v H'=>EK b o xs s (HP.AA fb 0 (AI r)*R) (xs++[2]++AQ (rg r.f.ranges 0).hi++AQ (r.f.ranges.length-1)++AQ ((rg r.f.ranges 0).hi-(rg r.f.ranges 0).lo)++Bu r.f.ranges (r.f.ranges.length-1)) v H'):=by
 refine mI Tryz.func190 ?_;have hne:0<r.f.ranges.length:=List.length_pos_iff.2 hok.1;have h0:=hok.2 0 hne;unfold Em at h0;have q1:=B8 (rg r.f.ranges 0).hi;have q2:=B8 (r.f.ranges.length-1);have q3:=B8 ((rg r.f.ranges 0).hi-(rg r.f.ranges 0).lo);refine By ?_;refine DY ?_;refine JL sS ?_;refine JL kP ?_;refine LD ?_;rintro _ _ ⟨b5,rfl,rfl⟩;refine Jr ?_;refine cH ?_;refine lB ?_;rintro _ _ ⟨b15,rfl,rfl⟩;refine BF ?_
 refine Zj ?_;refine Al 2 Ch rfl rfl (My (ys:=[2]) (bb:=b15) (oo:=0) (cc:=1) rfl hs hc rfl Bc inferInstance rfl Cq Cg) ?_;rintro _ _ ⟨p16,b16,o16,c16,s16,Q16,rfl,hs16,hc16,rfl,hk16⟩;refine BF ?_;refine Al 5 Ch rfl rfl (BK rfl (Ij ((rg r.f.ranges 0).hi) h0.2.1 p16 b16 o16 c16 (xs++[2]) s16 _ hs16 hc16 Cz)) ?_;rintro _ _ hG19;obtain⟨p19,b19,o19,c19,s19,Q19,rfl,hs19,hc19,rfl,hk19⟩:=EK.after (n:=0) hk16 hG19;refine BF ?_;refine Al 13 Ch rfl rfl (BK rfl (Ij (r.f.ranges.length-1) Cg p19 b19 o19 c19 (xs++[2]++AQ (rg r.f.ranges 0).hi) s19 _ hs19 hc19 Cz)) ?_;rintro _ _ hG27;obtain⟨p27,b27,o27,c27,s27,Q27,rfl,hs27,hc27,rfl,hk27⟩:=EK.after (n:=0) hk19 hG27;refine BF ?_;refine Al 19 Ch rfl rfl (BK rfl (Ij ((rg r.f.ranges 0).hi-(rg r.f.ranges 0).lo) Cg p27 b27 o27 c27 (xs++[2]++AQ (rg r.f.ranges 0).hi++AQ (r.f.ranges.length-1)) s27 _ hs27 hc27 Cz)) ?_;rintro _ _ hG33;obtain⟨p33,b33,o33,c33,s33,Q33,rfl,hs33,hc33,rfl,hk33⟩:=EK.after (n:=0) hk27 hG33
 refine DS ?_;refine Sx ?_;refine HN ?_;refine Hs (AD b33 o33 (xs++[2]++AQ (rg r.f.ranges 0).hi++AQ (r.f.ranges.length-1)++AQ ((rg r.f.ranges 0).hi-(rg r.f.ranges 0).lo)) s33*(Q33*(HP.AA fb 0 (AI r)*R))) ?_;refine J4 ?_;refine DY ?_;refine JL cG ?_;refine Lm ?_;generalize hpre:(xs++[2]++AQ (rg r.f.ranges 0).hi++AQ (r.f.ranges.length-1)++AQ ((rg r.f.ranges 0).hi-(rg r.f.ranges 0).lo))=pre at*
 have hpl:pre.length<200000000000:=by rw [←hpre];simp only [b_,g_,s_];omega
 refine BL (α:=Nat×Option Addr×Nat×Nat×Nat×List Value×HP) (fun z=>[(0,.slice z.2.1 (pre++Bu r.f.ranges z.1).length z.2.2.2.2.1),(1,ptr fb 0),(38,.slice (sp r.p r.c 1 2) (r.f.ranges.length-1) (r.c-1)),(39,iN (r.f.ranges.length-1)),(40,iN z.1)]) (fun z=>AD z.2.2.1 z.2.2.2.1 (pre++Bu r.f.ranges z.1) z.2.2.2.2.2.1*(z.2.2.2.2.2.2*(HP.AA fb 0 (AI r)*R))) (fun z=>z.1≤r.f.ranges.length-1∧Sl z.2.1 z.2.2.1 z.2.2.2.1 (pre++Bu r.f.ranges z.1).length z.2.2.2.2.1∧(pre++Bu r.f.ranges z.1).length*1+z.2.2.2.2.2.1.length=z.2.2.2.2.1*1∧Kept b o xs s.length z.2.2.1 z.2.2.2.1 (pre++Bu r.f.ranges z.1) z.2.2.2.2.2.1.length z.2.2.2.2.2.2) (fun z=>r.f.ranges.length-1-z.1) (0,p33,b33,o33,c33,s33,Q33) ⟨a_ _,by simpa [Bu]using hs33,by simpa [Bu]using hc33,by simpa only [Bu,h_]using hk33⟩ gO WR ?_
 rintro⟨i,p9,b9,o9,c9,s9,Q9⟩ ⟨hi,hs9,hc9,hk9⟩;dsimp only at hi hs9 hc9 hk9⊢;have hel:=Nr r.f.ranges i
 have hyl:(pre++Bu r.f.ranges i).length<900000000000:=by simp;omega
 generalize hys:pre++Bu r.f.ranges i=ys at*;refine J6 ?_;refine mC (fun hlt=>?_) (fun hlt=>?_)
 ·have hk:=hok.2 (i+1) Cg;have hk0:=hok.2 i Cg;unfold Em at hk hk0;simp only [Nat.add_sub_cancel]at hk;refine J7 ?_;refine JL sP ?_;refine JL oN ?_;refine LD ?_;rintro _ _ ⟨b7,rfl,rfl⟩;refine J1 ?_;refine Fi ?_;refine J2 ?_;refine Aq (H':=AD b9 o9 ys s9*(Q9*(HP.AA b7 0 [uN (rg r.f.ranges (i+1)).lo,uN (rg r.f.ranges (i+1)).hi]*(HP.AA fb 0 (AI r)*R)))) Cm ?_;have v1:=B8 ((rg r.f.ranges i).lo-(rg r.f.ranges (i+1)).hi-2);refine Y8 ?_;refine EQ ?_;refine nD ?_;refine Xl ?_
  refine Al 13 Ch rfl rfl (BK rfl (Ij ((rg r.f.ranges i).lo-(rg r.f.ranges (i+1)).hi-2) Cg p9 b9 o9 c9 (ys) s9 _ hs9 hc9 Cz)) ?_;rintro _ _ hG58;obtain⟨p58,b58,o58,c58,s58,Q58,rfl,hs58,hc58,rfl,hk58⟩:=EK.after (n:=0) hk9 hG58;refine BF ?_;refine Al 19 Ch rfl rfl (BK rfl (Ij ((rg r.f.ranges (i+1)).hi-(rg r.f.ranges (i+1)).lo) Cg p58 b58 o58 c58 (ys++AQ ((rg r.f.ranges i).lo-(rg r.f.ranges (i+1)).hi-2)) s58 _ hs58 hc58 Cq)) ?_;rintro _ _ hG64;obtain⟨p64,b64,o64,c64,s64,Q64,rfl,hs64,hc64,rfl,hk64⟩:=EK.after (n:=0) hk58 hG64;rw [←hys,Wp]at hs64 hc64 hk64⊢;refine BF ?_;refine Ja 20 ?_;refine HN ?_;refine FO ?_;exact Au (AD b64 o64 (pre++Bu r.f.ranges (i+1)) s64*(Q64*(HP.AA fb 0 (AI r)*R))) (At (i+1,p64,b64,o64,c64,s64,Q64) ⟨Cg,hs64,hc64,hk64⟩ VK GE rfl)
 have hie:i=r.f.ranges.length-1:=by omega
 refine CR ?_;subst hie;rw [←hys]at hs9 hc9 hk9⊢;exact mR [4] (AD b9 o9 (pre++Bu r.f.ranges (r.f.ranges.length-1)) s9*(Q9*(HP.AA fb 0 (AI r)*R))) rfl rfl (by rw [←hpre]at hs9 hc9 hk9⊢;exact⟨p9,b9,o9,c9,s9,Q9,rfl,hs9,hc9,rfl,hk9⟩)
theorem Fc.dp{k:Int}{f1 f2 f3:FuncId}{us1 us2 us3:List Value}{C:HP}(h:Fc k f1 us1 f2 us2 f3 us3 C)(hk:3≤k∧k≤5)(r:RF)(fb:Nat)(p:Option Addr)(b o c:Nat)(xs:List UInt8)(s:List Value)(R:HP)(hm:FU r)(hrk:r.f.kind=k)(hok:Bh r.f)(hr:AW B R r.b r.o r.f.ranges)
  (hs:Sl p b o xs.length c)(hc:xs.length*1+s.length=c*1)(hx:xs.length<100000000000):
  Fn Tryz.prog B f1 ([.slice p xs.length c,ptr fb 0]++us1) (AD b o xs s*(HP.AA fb 0 (AI r)*(C*R))) (fun v H'=>EK b o xs s (HP.AA fb 0 (AI r)*(C*R)) (xs++Aj r.f) v H'):=by
 cases h
 ·omega
 ·omega
 ·have e:xs++Aj r.f=xs++[2]++AQ (rg r.f.ranges 0).hi++AQ (r.f.ranges.length-1)++AQ ((rg r.f.ranges 0).hi-(rg r.f.ranges 0).lo)++Bu r.f.ranges (r.f.ranges.length-1):=by
   simp [Aj,hrk,KU]
  rw [e,HP.BA];exact jz r fb p b o c xs s R hs hc hx hm.ok hr (hok.2.2.2.2.1.1 hrk) hm.len
 ·obtain⟨h1,h2,h3,h4,h5,h6⟩:=hok
  have e:xs++Aj r.f=xs++[4]++AQ r.f.stream.toNat++AQ r.f.code++AQ r.f.offset:=by simp [Aj,hrk]
  rw [e,HP.BA];exact cp r fb p b o c xs s R hs hc hx r.f.stream.toNat Cg Cg h2 h1
 ·obtain⟨h1,h2,h3,h4,h5,h6⟩:=hok
  have e:xs++Aj r.f=xs++[bif r.f.fin then 9 else 8]++AQ r.f.stream.toNat++AQ r.f.offset++AQ r.f.data.size++r.f.data.data.toList:=by simp [Aj,hrk]
  rw [e,HP.BA];exact kb r fb p b o c xs s R hs hc hx r.f.stream.toNat Cg Cg h1 NW
 ·omega
theorem X4(r:RF)(p:Option Addr)(b o c:Nat)(xs:List UInt8)(s:List Value)(R:HP)(hm:FU r)(hr:AW B R r.b r.o r.f.ranges)(hs:Sl p b o xs.length c)(hc:xs.length*1+s.length=c*1)(hx:xs.length<100000000000)(hk:Dh r.f.kind)(hk35:3≤r.f.kind∧r.f.kind≤5)(hok:Bh r.f):
  Fn Tryz.prog B 138 [.slice p xs.length c,.agg (AI r).toArray] (AD b o xs s*R) (fun v H'=>EK b o xs s R (xs++Aj r.f) v H'):=by
 refine mI Tryz.func138 ?_;refine Hj ?_;rintro _ _ ⟨b3,rfl,rfl⟩;refine LP ?_;refine mE rfl (Le r.f.kind hk _) ?_;rintro _ _ ⟨bc,f1,us1,f2,us2,f3,us3,C,hF,rfl,rfl⟩;have hw:=hF.Wu (B:=B);have hq1:=hw.bT;refine J7 ?_;refine Ka ?_;refine J1 ?_;refine CU 11 rfl (fun hg1=>?_) (fun hg1=>?_)
 ·cases hg1
 refine dK ?_;refine mC (fun hcc=>?_) (fun hcc=>?_)
 ·refine J7 ?_
  first
  |exact absurd hok hcc
  |exact mR [4] (AD b21 o21 (xs++Aj r.f) s21*(Q21*R)) rfl rfl ⟨p21,b21,o21,c21,s21,Q21,rfl,hs21,hc21,rfl,hk21⟩
 refine Mc ?_;refine cK ?_;refine AV (Iz rfl rfl (hF.dp hk35 r b3 p b o c xs s _ hm rfl hok inferInstance hs hc hx)) rfl ?_;rintro _ _ ⟨p21,b21,o21,c21,s21,Q21,rfl,hs21,hc21,rfl,hk21⟩;refine J4 ?_
 first
 |exact absurd hok hcc
 |exact mR [4] (AD b21 o21 (xs++Aj r.f) s21*(Q21*R)) rfl rfl ⟨p21,b21,o21,c21,s21,Q21,rfl,hs21,hc21,rfl,hk21⟩
end
section
variable{B:World}
structure Dq where
 d:Bn
 a:Ae
 rs:List RF
 f:Ae
@[reducible] def HJ(m:Dq):List Value:=[.slice m.a.p m.d.b.length m.a.c,.slice m.f.p m.rs.length m.f.c,iN m.d.room,.bool (D2 m.d.Ap)]
def Ba(db:Nat)(m:Dq):HP:=HP.AA db 0 (HJ m)*(m.a.h m.d.b*m.f.h m.rs)
structure Dq.ok(m:Dq):Prop where
 a:m.a.ok m.d.b
 f:m.f.ok m.rs
 map:m.rs.map (·.f)=m.d.Ap
 room:m.d.room≤284
 len:m.d.b.length≤m.d.room
theorem Dq.ok.rl{m:Dq}(h:m.ok):m.rs.length≤284:=by
 have h1:=bX m.d.Ap;have h2:=h.len;have h3:=h.room
 have h4:m.rs.length=m.d.Ap.length:=by rw [←h.map,r_]
 have h5:m.d.b.length=(BN m.d.Ap).length:=rfl;omega
theorem iE(fs:List AZ)(f:AZ):D2 (fs++[f])=(D2 fs||decide (f.kind≠3)):=by simp [D2]
theorem sE(d:Bn)(f:AZ):({d with Ap:=d.Ap++[f]}:Bn).b=d.b++Aj f:=by
 show BN (d.Ap++[f])=_;rw [Vu,L3];rfl
set_option maxHeartbeats 2000000 in
theorem VJ(db:Nat)(m:Dq)(r:RF)(R:HP)(hok:m.ok)(hf:Bh r.f)(hk35:3≤r.f.kind∧r.f.kind≤5)(hmd:FU r)[hr:AW B R r.b r.o r.f.ranges]:
  Fn Tryz.prog B 139 [ptr db 0,.agg (AI r).toArray] (Ba db m*R) (fun v H'=>∃m':Dq,m'.ok∧m'.d=(m.d.add r.f).getD m.d∧v=.bool (m.d.add r.f).isSome∧H'=Ba db m'*R):=by
 refine mI Tryz.func139 ?_;refine Aq (H':=HP.AA db 0 (HJ m)*(AD m.a.b m.a.o m.d.b m.a.s*(AD m.f.b m.f.o m.rs m.f.s*R))) (by unfold Ba;ac_rfl) ?_;have hbl:=hok.len;have hrm:=hok.room;have hrl:=hok.rl;refine Hj ?_;rintro _ _ ⟨b3,rfl,rfl⟩;refine J4 ?_;refine Dc (HP.AA b3 0 (AI r)*(HP.AA db 0 (HJ m)*(AD m.a.b m.a.o m.d.b m.a.s*(AD m.f.b m.f.o m.rs m.f.s*R)))) 5 7 Dg rfl Ch ?_;refine MK ?_;refine JT 4 rfl N6 ?_;refine FB (H':=AD m.a.b m.a.o m.d.b m.a.s*(HP.AA b3 0 (AI r)*(HP.AA db 0 (HJ m)*(AD m.f.b m.f.o m.rs m.f.s*R)))) Cm ?_;refine Al 5 Ch rfl rfl (BK rfl (X4 r m.a.p m.a.b m.a.o m.a.c m.d.b m.a.s _ hmd inferInstance hok.a.1 hok.a.2 Cg Co hk35 hf)) ?_;rintro _ _ ⟨p11,b11,o11,c11,s11,Q11,rfl,hs11,hc11,rfl,hk11⟩;refine DS ?_;refine Sk ?_;refine JD ?_;refine By ?_;refine Hv ?_;refine mC (fun h18=>?_) (fun h18=>?_)
 ·refine J7 ?_
  have hnone:m.d.add r.f=none:=by unfold Bn.add;rw [if_pos h18]
  obtain⟨s2,DD,hl2,he2⟩:=hk11 s11 rfl;refine D8 (H':=DD*(HP.AA b3 0 (AI r)*(HP.AA db 0 (HJ m)*(AD m.a.b m.a.o m.d.b s2*(AD m.f.b m.f.o m.rs m.f.s*R))))) ?_ ?_
  ·have e3:AD b11 o11 (m.d.b++Aj r.f) s11*(Q11*(HP.AA b3 0 (AI r)*(HP.AA db 0 (HJ m)*(AD m.f.b m.f.o m.rs m.f.s*R))))=(AD b11 o11 (m.d.b++Aj r.f) s11*Q11)*(HP.AA b3 0 (AI r)*(HP.AA db 0 (HJ m)*(AD m.f.b m.f.o m.rs m.f.s*R))):=by ac_rfl
   first
    |(rw [e3,he2];ac_rfl)
    |(refine xt Cm (xt e3 ?_);rw [he2];ac_rfl)
  exact mR [4] (Ba db {m with a:={m.a with s:=s2}}*R) (hE:=⟨fun ww hw=>Sat.right (A:=DD*HP.AA b3 0 (AI r)) (n_ (by congr 1;unfold Ba;show _=DD*HP.AA b3 0 (AI r)*(HP.AA db 0 (HJ m)*(AD m.a.b m.a.o m.d.b s2*AD m.f.b m.f.o m.rs m.f.s)*R);ac_rfl) hw)⟩) rfl rfl ⟨{m with a:={m.a with s:=s2}},⟨⟨hok.a.1,by have:=hok.a.2;show _+s2.length=_;rw [hl2];exact this⟩,hok.f,hok.map,hok.room,hok.len⟩,W3,W3,rfl⟩
 refine CR ?_;refine Aq (H':=HP.AA db 0 [.slice p11 (m.d.b++Aj r.f).length c11,.slice m.f.p m.rs.length m.f.c,iN m.d.room,.bool (D2 m.d.Ap)]*(AD b11 o11 (m.d.b++Aj r.f) s11*(HP.AA b3 0 (AI r)*(AD m.f.b m.f.o m.rs m.f.s*(Q11*R))))) Cm ?_;refine Dc (HP.AA db 0 [.slice p11 (m.d.b++Aj r.f).length c11,.slice m.f.p m.rs.length m.f.c,iN m.d.room,.bool (D2 m.d.Ap)]*(AD b11 o11 (m.d.b++Aj r.f) s11*(HP.AA b3 0 (AI r)*(Q11*R)))) 10 11 Dg rfl Ch ?_;refine NC ?_;refine JT 5 rfl N6 ?_;refine Al 6 Ch rfl rfl Wx ?_;rintro _ _ ⟨b29,rfl,rfl⟩;refine BF ?_;refine FB (H':=AD m.f.b m.f.o m.rs m.f.s*(HP.AA b29 0 (AE [r])*(HP.AA db 0 [.slice p11 (m.d.b++Aj r.f).length c11,.slice m.f.p m.rs.length m.f.c,iN m.d.room,.bool (D2 m.d.Ap)]*(AD b11 o11 (m.d.b++Aj r.f) s11*(HP.AA b3 0 (AI r)*(Q11*R)))))) (by show HP.AA b29 0 _*_=_;rw [show AE [r]=AI r from h_ _];ac_rfl) ?_;refine Al 7 Ch rfl rfl (Bf (ys:=[r]) (bb:=b29) (oo:=0) (cc:=1) rfl hok.f.1 hok.f.2 rfl Bc inferInstance rfl Cs Cg) ?_;rintro _ _ ⟨p30,b30,o30,c30,s30,rfl,hs30,hc30,rfl⟩;refine BF ?_;refine Jn 8 ?_
 refine UK ?_;refine Dw ?_;refine J9 ?_;refine CU 38 rfl (fun hg1=>?_) (fun hg1=>?_)
 ·have hwn:D2 m.d.Ap=true:=hg1;refine Fh ?_;refine GO ?_;refine BV ?_
  have hsome:m.d.add r.f=some {m.d with Ap:=m.d.Ap++[r.f]}:=by unfold Bn.add;rw [if_neg h18]
  obtain⟨m2,hm2⟩:∃m2:Dq,m2=⟨{m.d with Ap:=m.d.Ap++[r.f]},⟨p11,b11,o11,c11,s11⟩,m.rs++[r],⟨p30,b30,o30,c30,s30⟩⟩:=Bg
  have hb2:m2.d.b=m.d.b++Aj r.f:=by rw [hm2];exact sE _ _
  have hok2:m2.ok:=by
   refine⟨?_,?_,?_,?_,?_⟩
   ·rw [hb2,hm2];exact⟨hs11,hc11⟩
   ·rw [hm2];exact⟨hs30,hc30⟩
   ·rw [hm2];show(m.rs++[r]).map (·.f)=m.d.Ap++[r.f];rw [t_,hok.map];rfl
   ·rw [hm2];exact hrm
   ·rw [hb2,hm2];show _≤m.d.room;omega
  have hE2:HJ m2=[.slice p11 (m.d.b++Aj r.f).length c11,.slice p30 (m.rs++[r]).length c30,iN m.d.room,.bool (D2 m.d.Ap||decide (r.f.kind≠3))]:=by
   unfold HJ;rw [hb2,hm2];dsimp only;rw [iE]
  refine D8 (H':=HP.AA b3 0 (AI r)*(HP.AA b29 0 (AE [r])*(Q11*(Ba db m2*R)))) ?_ ?_
  ·unfold Ba;rw [hE2,hb2]
   have e4:m2.a.h (m.d.b++Aj r.f)=AD b11 o11 (m.d.b++Aj r.f) s11:=by rw [hm2]
   have e5:m2.f.h m2.rs=AD b30 o30 (m.rs++[r]) s30:=by rw [hm2]
   rw [e4,e5,hwn]
   try simp only [q_,o_]
   ac_rfl
  exact oC
 have hwn:D2 m.d.Ap=false:=hg1;refine Im ?_;refine JL (LJ (j:=3) rfl rfl) ?_;refine NH ?_;refine BV ?_
 have hsome:m.d.add r.f=some {m.d with Ap:=m.d.Ap++[r.f]}:=by unfold Bn.add;rw [if_neg h18]
 obtain⟨m2,hm2⟩:∃m2:Dq,m2=⟨{m.d with Ap:=m.d.Ap++[r.f]},⟨p11,b11,o11,c11,s11⟩,m.rs++[r],⟨p30,b30,o30,c30,s30⟩⟩:=Bg
 have hb2:m2.d.b=m.d.b++Aj r.f:=by rw [hm2];exact sE _ _
 have hok2:m2.ok:=by
  refine⟨?_,?_,?_,?_,?_⟩
  ·rw [hb2,hm2];exact⟨hs11,hc11⟩
  ·rw [hm2];exact⟨hs30,hc30⟩
  ·rw [hm2];show(m.rs++[r]).map (·.f)=m.d.Ap++[r.f];rw [t_,hok.map];rfl
  ·rw [hm2];exact hrm
  ·rw [hb2,hm2];show _≤m.d.room;omega
 have hE2:HJ m2=[.slice p11 (m.d.b++Aj r.f).length c11,.slice p30 (m.rs++[r]).length c30,iN m.d.room,.bool (D2 m.d.Ap||decide (r.f.kind≠3))]:=by
  unfold HJ;rw [hb2,hm2];dsimp only;rw [iE]
 refine D8 (H':=HP.AA b3 0 (AI r)*(HP.AA b29 0 (AE [r])*(Q11*(Ba db m2*R)))) ?_ ?_
 ·unfold Ba;rw [hE2,hb2]
  have e4:m2.a.h (m.d.b++Aj r.f)=AD b11 o11 (m.d.b++Aj r.f) s11:=by rw [hm2]
  have e5:m2.f.h m2.rs=AD b30 o30 (m.rs++[r]) s30:=by rw [hm2]
  rw [e4,e5,hwn]
  try simp only [q_,o_]
  ac_rfl
 exact oC
end
section
variable{B:World}
section
variable(db:Nat)(m:Dq)
instance:Cell (Ba db m) db (0+0) (.slice m.a.p m.d.b.length m.a.c) True:=by unfold Ba;infer_instance
instance:Cell (Ba db m) db (0+1) (.slice m.f.p m.rs.length m.f.c) True:=by unfold Ba;infer_instance
instance:Cell (Ba db m) db (0+2) (iN m.d.room) True:=by unfold Ba;infer_instance
instance:Cell (Ba db m) db (0+3) (.bool (D2 m.d.Ap)) True:=by unfold Ba;infer_instance
end
section
variable{P:Program}{n:Nat}{E:A6}{D:CK}{H R:HP}{ops:Array Oper}{Q:Exit→Act→World→Prop}{fuel last:Nat}{ls:Array Bool}{op:Op}{ty:TypeId}{pos:String}{af:Array Edge}
theorem VS(i:Nat){t j tj:Nat}{b want:Bool}(hr:Region.ready .any ops ls=[i])(hi:ops[i]?=some ⟨some t,op,ty,pos,af,some (j,want)⟩)(ht:xu t n=true)
  (hj:(ops[j]?).bind (·.dst)=some tj)(hb:lk E tj=some (.bool b))(hw:b= !want)(hR:last≤i∨CE B H R)
  (next:WA P B ops Q R last fuel (ls.setIfInBounds i true) n ((t,undef)::E) D H):
  WA P B ops Q R last (fuel+1) ls n E D H:=by
 intro a w h1 h2 h3
 have hy:yielded ops a.tmps j=some b:=by
  have:=h1.2 _ _ hb
  simp [yielded,hj,this]
 have hn:(some b==some want)=false:=by rw [hw];cases want<;>rfl
 refine⟨(fun h0=>by rw [hr]at h0;cases h0),fun k hk=>?_⟩;rw [hr]at hk;obtain rfl:=c_.1 hk;unfold wpOp;rw [hi];have hg:=next _ w (h1.put VZ undef) (by simp [Act.put,h2]) h3;simp only [Region.wanted,hy,hn,Bool.false_eq_true,if_false];exact⟨hR.imp id (fun h=>h.get w h3),hg⟩
theorem J? (i:Nat){t j tj:Nat}{b want:Bool}{v:Value}(hr:Region.ready .any ops ls=[i])(hi:ops[i]?=some ⟨some t,op,ty,pos,af,some (j,want)⟩)(ht:xu t n=true)
  (hj:(ops[j]?).bind (·.dst)=some tj)(hb:lk E tj=some (.bool b))(hw:b=want)
  (hv:Aa P B n ⟨some t,op,ty,pos,af,some (j,want)⟩ E H v)(hR:last≤i∨CE B H R)(next:WA P B ops Q R last fuel (ls.setIfInBounds i true) n ((t,v)::E) D H):
  WA P B ops Q R last (fuel+1) ls n E D H:=
 SF i hr hi ht hj hb hw (Post:=fun v' H'=>v'=v∧H'=H) (fun a w h1 _ h3 K Q hk=>by simp only [Oper.wp,hv a w h1 h3,Oper.upon];exact hk _ _ _ CO h3) (by refine JR ?_;exact⟨hR,next⟩)
end
def DL(f:AZ):RF:=⟨f,none,0,0,0,[]⟩
theorem Pk{f:AZ}(h1:f.ranges=[])(h2:f.data.size<100000000000):FU (DL f):=⟨⟨.inl rfl,by show f.ranges.length≤0;rw [h1];exact f_ _⟩,by show f.ranges.length<_;rw [h1];decide,h2⟩
theorem Ta{f:AZ}(h1:f.ranges=[])(H:HP):AW B H (DL f).b (DL f).o (DL f).f.ranges:=by
 show AW B H 0 0 f.ranges;rw [h1];exact⟨fun i f v e hi=>absurd hi (Nat.not_lt_zero i)⟩
def bR(o:Option (Ai×Bn))(w:Ai)(d:Bn)(v:Value)(w':Ai)(d':Bn):Prop:=
 match o with
 |none=>v=.bool false∧w'=w∧d'=d
 |some z=>v=.bool true∧w'=z.1∧d'=z.2
theorem ib(k lo:Nat)(fin:Bool)(ds:List UInt8):ds.length≤(Aj (B7 k lo fin ds)).length:=by
 have h:(BI ds).size=ds.length:=by simp
 have h2:(Aj (B7 k lo fin ds)).length=([if fin then(9:UInt8)else 8]++AQ k++AQ lo++AQ (BI ds).size++(BI ds).data.toList).length:=by
  cases fin<;>rfl
 rw [h2];simp only [b_]
 have:(BI ds).data.toList.length=ds.length:=h
 omega
theorem ul(l:List AP)(hi:Nat):∀lo,lo≤hi→(AR lo hi l).2≤hi:=by
 induction l with
 |nil=>intro lo h;exact f_ _
 |cons r rs ih=>
  intro lo h;unfold AR;split
  ·exact ih lo h
  ·split
   ·exact k_ _ _
   ·by_cases h3:r.hi+1≤hi
    ·exact ih _ h3
    ·rename_i h1 h2
     have:∀(l:List AP) (a:Nat),(AR a hi l).2≤hi:=by
      intro l
      induction l with
      |nil=>intro a;exact f_ _
      |cons r rs ih2=>
       intro a;unfold AR;split
       ·exact ih2 a
       ·split
        ·exact k_ _ _
        ·exact ih2 _
     exact this rs _
theorem eV{f:AZ}:(Aj f).length≤64+16*f.ranges.length+f.data.size:=by
 have hd:f.data.data.toList.length=f.data.size:=by rw [Array.length_toList];rfl
 have v1:=B8 f.stream.toNat;have v2:=B8 f.code;have v3:=B8 f.offset;have v4:=B8 f.data.size;have v5:=Nr f.ranges (f.ranges.length-1);have v6:=B8 (rg f.ranges 0).hi;have v7:=B8 (f.ranges.length-1);have v8:=B8 ((rg f.ranges 0).hi-(rg f.ranges 0).lo);unfold Aj KU
 repeat' split
 all_goals (simp only [b_,g_,s_,hd];omega)
set_option maxHeartbeats 4000000 in
theorem nt(cb db j AG:Nat)(ws:List Bo)(dm:Dq)(R:HP)(hl:ws.length=4)(hj:j<4)(hok:∀w∈ws,w.ok)(hw:EY AG (ws.getD j AB.AC).w)(hd:dm.ok):
  Fn Tryz.prog B 140 [ptr cb 0,ptr db 0,iN j] (BG cb ws*(Ba db dm*R)) (fun v H'=>∃(wm':Bo) (dm':Dq),wm'.ok∧dm'.ok∧bR ((ws.getD j AB.AC).w.fill dm.d j) (ws.getD j AB.AC).w dm.d v wm'.w dm'.d∧H'=BG cb (ws.set j wm')*(Ba db dm'*R)):=by
 refine mI Tryz.func140 ?_
 have hjl:j<ws.length:=by omega
 have hwm:=hok _ GI;refine Aq (H':=HP.AA cb (0+43+j*10) (Bz (ws.getD j AB.AC))*(B6 (ws.getD j AB.AC)*(Cc cb ws j*(Ba db dm*R)))) (by rw [K8 cb ws j hjl];ac_rfl) ?_;generalize hwx:ws.getD j AB.AC=wm at hw hwm⊢;refine Aq (H':=HP.AA cb (0+43+j*10) (Bz wm)*(AD wm.a.b wm.a.o wm.w.b wm.a.s*(AH wm.sq wm.sa wm.w.AJ*(AH wm.cq wm.ca wm.w.AF*(Cc cb ws j*(Ba db dm*R)))))) O2 ?_;have hbl:=hw.len;have hwh:=hw.high;have hwc:=hw.code;have hrm:=hd.room;have hdl:=hd.len;refine BV ?_;refine JL PA ?_;refine CR ?_;refine mc (fun hgv=>?_) (fun hgv=>?_)
 ·refine J2 ?_;refine Dc (HP.AA cb (0+43+j*10) (Bz wm)*(AD wm.a.b wm.a.o wm.w.b wm.a.s*(AH wm.sq wm.sa wm.w.AJ*(AH wm.cq wm.ca wm.w.AF*(Cc cb ws j*R))))) 16 19 Dg rfl Ch ?_;refine JF ?_;refine GF 27 rfl (fun hg1=>?_) (fun hg1=>?_)
  ·have htl:wm.w.Da=true:=hg1;refine VW ?_;refine ZD ?_;refine VS 16 Ch rfl rfl rfl rfl hg1 EO ?_;refine VS 17 Ch rfl rfl rfl rfl hg1 EO ?_;refine Ec 18 Ch rfl rfl L8 EO ?_;refine Jw ?_;refine J8 ?_
   have hfill:wm.w.fill dm.d j=none:=by
    unfold Ai.fill;rw [if_pos hgv,if_pos htl]
   exact Om
  have htl:wm.w.Da=false:=hg1;refine JY 5 rfl hg1 A4 ?_;refine JY 6 rfl hg1 A4 ?_;refine XI ?_;refine JY 10 rfl hg1 Bb ?_;refine JY 11 rfl hg1 A4 ?_;refine JY 12 rfl hg1 CP ?_;refine JY 13 rfl hg1 A7 ?_;refine JY 14 rfl hg1 Bb ?_;refine JY 15 rfl hg1 (E7 (cs:=AI (DL (Hd j wm.w.code wm.w.high))) rfl rfl rfl (AB.one (DL (Hd j wm.w.code wm.w.high)))) ?_;refine ZD ?_;refine SF 16 Ch rfl rfl rfl rfl hg1 (BK rfl (VJ db dm (DL (Hd j wm.w.code wm.w.high)) _ hd (lR hj hwc Cg) ⟨by show(3:Int)≤4;decide,by show(4:Int)≤5;decide⟩ (Pk rfl PZ) (hr:=Ta rfl _))) ?_;rintro _ _ ⟨dm2,hd2,hde2,rfl,rfl⟩;refine DS ?_;refine J? 17 Ch rfl rfl rfl rfl hg1 LU EO ?_;refine Ec 18 Ch rfl rfl Ju EO ?_;refine EU ?_;refine mc (fun h41=>?_) (fun h41=>?_)
  ·refine J8 ?_
   have hadd:dm.d.add (Hd j wm.w.code wm.w.high)=none:=by simpa [DL]using h41
   have hde3:dm2.d=dm.d:=by rw [hde2];show(dm.d.add (Hd j wm.w.code wm.w.high)).getD dm.d=_;rw [hadd];rfl
   have hfill:wm.w.fill dm.d j=none:=by
    unfold Ai.fill;rw [if_pos hgv,if_neg (by rw [htl];simp),hadd]
   exact mR [6] (BG cb (ws.set j wm)*(Ba db dm2*R)) (hE:=bY) rfl rfl ⟨wm,dm2,hwm,hd2,dV,rfl⟩
  refine E_ ?_;obtain⟨d2,hadd⟩:∃d2,dm.d.add (Hd j wm.w.code wm.w.high)=some d2:=Option.isSome_iff_exists.1 (by simpa [DL]using h41)
  have hde3:dm2.d=d2:=by rw [hde2];show(dm.d.add (Hd j wm.w.code wm.w.high)).getD dm.d=_;rw [hadd];rfl
  have hfill:wm.w.fill dm.d j=some ({wm.w with Da:=true},d2):=by
   unfold Ai.fill;rw [if_pos hgv,if_neg (by rw [htl];simp),hadd]
  obtain⟨w2,hw2⟩:∃w2:Bo,w2={wm with w:={wm.w with Da:=true}}:=Bg
  have hok2:w2.ok:=by rw [hw2];exact hwm
  exact mR [6] (BG cb (ws.set j w2)*(Ba db dm2*R)) (hE:=⟨fun ww hw=>n_ (by
   congr 1
   rw [Mq cb ws j w2 hjl,hw2]
   unfold B6
   show _=HP.AA cb (0+43+j*10) [.slice wm.a.p wm.w.b.length wm.a.c,ptr wm.sq 0,ptr wm.cq 0,uN wm.w.high,.bool wm.w.finished,.bool wm.w.ending,.bool wm.w.ended,.bool wm.w.given,uN wm.w.code,.bool true]*(AD wm.a.b wm.a.o wm.w.b wm.a.s*(AH wm.sq wm.sa wm.w.AJ*AH wm.cq wm.ca wm.w.AF)*Cc cb ws j)*(Ba db dm2*R)
   ac_rfl) hw⟩) rfl rfl ⟨w2,dm2,hok2,hd2,by rw [hfill];exact⟨rfl,Td,hde3⟩,rfl⟩
 refine J9 ?_;refine JL EM ?_;refine J4 ?_;obtain⟨ga,gb,gc,gd,ge⟩:=HM wm.w.AJ.l 0 wm.w.b.length hw.so.inc C9;have gle:=ul wm.w.AJ.l wm.w.b.length 0 C9;refine J6 ?_;refine mE rfl (Ra wm.sq 0 wm.w.b.length wm.w.b.length wm.sa wm.w.AJ _ hwm.2.1 hw.so Cg (by have h7:=hw.so.len;rw [hw.sm]at h7;omega)) ?_;refine JR ?_;refine CR ?_;refine JL MD ?_;refine J2 ?_;refine BO (α:=Nat×Nat) (fun z=>[(9,uN z.1),(10,uN z.2),(7,ptr cb (0+43+j*10)),(8,uN wm.w.b.length),(0,ptr cb 0),(1,ptr db 0),(2,iN j)]) (fun _=>HP.AA cb (0+43+j*10) (Bz wm)*(AD wm.a.b wm.a.o wm.w.b wm.a.s*(AH wm.sq wm.sa wm.w.AJ*(AH wm.cq wm.ca wm.w.AF*(Cc cb ws j*(Ba db dm*R)))))) (fun z=>wm.w.fill dm.d j=wm.w.MP dm.d j z.1 z.2∧z.1≤z.2∧z.2≤wm.w.b.length) ?_ ?_
 ·refine mC (fun h62=>?_) (fun h62=>?_)
  ·refine J7 ?_;refine KS ?_;refine J1 ?_;refine CU 68 rfl (fun hg2=>?_) (fun hg2=>?_)
   ·skip
    have h66:wm.w.finished=false:=by simpa using hg2
    refine Ub ?_;refine Ub ?_;refine JL Nv ?_;refine Hc ?_;refine Ga ?_;refine Ig ?_;refine Gv ?_;refine J9 ?_
    have hfill:wm.w.fill dm.d j=none:=by
     unfold Ai.fill;rw [if_neg P0,if_pos h62,if_pos (.inl h66)]
    exact Om
   have h66:wm.w.finished=true:=by simpa using hg2
   refine X8 ?_;refine J1 ?_;refine X8 ?_;refine J1 ?_;refine JL Nd ?_;refine J1 ?_;refine CU 74 rfl (fun hg3=>?_) (fun hg3=>?_)
   ·have h72:wm.w.ending=true:=hg3;refine Pe ?_;refine Gr ?_;refine JL Jz ?_;refine Gv ?_;refine J9 ?_
    have hfill:wm.w.fill dm.d j=none:=by
     unfold Ai.fill;rw [if_neg P0,if_pos h62,if_pos (.inr (.inl h72))]
    exact Om
   have h72:wm.w.ending=false:=hg3;refine O' ?_;refine J1 ?_;refine L5 ?_;refine JL IV ?_;refine J2 ?_;refine mc (fun h78=>?_) (fun h78=>?_)
   ·refine J9 ?_
    have hfill:wm.w.fill dm.d j=none:=by
     unfold Ai.fill;rw [if_neg P0,if_pos h62,if_pos (.inr (.inr h78))]
    exact Om
   refine J8 ?_;exact AU (wm.w.b.length,wm.w.b.length) ⟨by unfold Ai.fill;rw [if_neg P0,if_pos h62,if_neg (by rw [h66,h72,h78];simp)],f_ _,f_ _⟩ NX rfl
  refine J1 ?_;exact AU ((AR 0 wm.w.b.length wm.w.AJ.l).1,(AR 0 wm.w.b.length wm.w.AJ.l).2) ⟨by unfold Ai.fill;rw [if_neg P0,if_neg h62],by dsimp only;omega,gle⟩ NX rfl
 ·rintro⟨lo,hi⟩ ⟨hfe,hlh,hhb⟩;dsimp only at hfe hlh hhb⊢;refine BV ?_;refine JL (Nx (k':=(cut wm.w.b lo hi).length) rfl rfl rfl eO (OX hhb)) ?_;refine JL (Hq (xs:=cut wm.w.b lo hi) (b:=wm.a.b) (o:=wm.a.o+lo*1) rfl (by have:=hwm.1.1;exact Er this hlh uE (OX hhb)) (AW.sub (xs:=wm.w.b) inferInstance lo hi hhb)) ?_;refine JL (E7 (cs:=AI (DL (B7 j lo false (cut wm.w.b lo hi)))) rfl rfl rfl (AB.one (DL (B7 j lo false (cut wm.w.b lo hi))))) ?_;refine Aw (H':=AD 0 0 ([]:List UInt8) []*(HP.AA cb (0+43+j*10) (Bz wm)*(AD wm.a.b wm.a.o wm.w.b wm.a.s*(AH wm.sq wm.sa wm.w.AJ*(AH wm.cq wm.ca wm.w.AF*(Cc cb ws j*(Ba db dm*R))))))) Cx ?_;have hcl:=OX (lo:=lo) hhb;refine mE rfl (X4 (DL (B7 j lo false (cut wm.w.b lo hi))) none 0 0 0 [] [] _ (Pk rfl (by rw [N7];omega)) (Ta rfl _) DG rfl Ci (by show Dh 5;unfold Dh;decide) ⟨Tz,by show(5:Int)≤5;decide⟩ (Xo hj Cg)) ?_;rintro _ _ ⟨p93,b93,o93,c93,s93,Q93,rfl,hs93,hc93,rfl,hk93⟩;have hhg:=ib j lo false (cut wm.w.b lo hi)
  have hel:(Aj (B7 j lo false (cut wm.w.b lo hi))).length<100000:=by have:=eV (f:=B7 j lo false (cut wm.w.b lo hi));rw [N7]at this;have h9:(B7 j lo false (cut wm.w.b lo hi)).ranges.length=0:=rfl;omega
  rw [List.nil_append]at*;refine J3 ?_;refine JL Ez ?_;refine JL I2 ?_;refine JL (Ia (i:=(Aj (B7 j lo false (cut wm.w.b lo hi))).length) (j:=hi-lo) rfl rfl Cg) ?_;refine J4 ?_;refine Hs (HP.AA cb (0+43+j*10) (Bz wm)*(AD wm.a.b wm.a.o wm.w.b wm.a.s*(AH wm.sq wm.sa wm.w.AJ*(AH wm.cq wm.ca wm.w.AF*(Cc cb ws j*(Ba db dm*R)))))) ?_;refine mA 13 13 ?_;refine Jm 0 ?_;refine Jn 1 ?_;refine Jf 2 ?_;refine Jd 3 ?_;refine Jm 4 ?_;refine Jn 5 ?_;refine Jf 6 ?_;refine Jd 7 ?_;refine JT 8 rfl Dm ?_;refine JT 9 rfl Kq ?_;refine Jm 10 ?_;refine JT 11 rfl (LW (i:=((dm.d.room-dm.d.b.length:Nat):Int)) (j:=(((Aj (B7 j lo false (cut wm.w.b lo hi))).length-(hi-lo)):Nat)) rfl rfl Cg) ?_;refine Ja 12 ?_;refine HN ?_
  refine BO (α:=Unit) (fun _=>[(118,.bool (decide (lo<hi∧((dm.d.room-dm.d.b.length:Nat):Int)-(((Aj (B7 j lo false (cut wm.w.b lo hi))).length-(hi-lo):Nat):Int)<1))),(12,.int .i64 (((dm.d.room-dm.d.b.length:Nat):Int)-(((Aj (B7 j lo false (cut wm.w.b lo hi))).length-(hi-lo):Nat):Int))),(9,uN lo),(10,uN hi),(7,ptr cb (0+43+j*10)),(8,uN wm.w.b.length),(0,ptr cb 0),(1,ptr db 0),(2,iN j)]) (fun _=>HP.AA cb (0+43+j*10) (Bz wm)*(AD wm.a.b wm.a.o wm.w.b wm.a.s*(AH wm.sq wm.sa wm.w.AJ*(AH wm.cq wm.ca wm.w.AF*(Cc cb ws j*(Ba db dm*R)))))) (fun _=>True) ?_ ?_
  ·refine J3 ?_;refine K1 ?_;refine J1 ?_;refine CJ 115 rfl (fun hg4=>?_) (fun hg4=>?_)
   ·have h115:lo<hi:=hg4;refine JG T4 ?_;refine J1 ?_;refine JG T4 ?_;refine JL (JQ (i:=((dm.d.room-dm.d.b.length:Nat):Int)-(((Aj (B7 j lo false (cut wm.w.b lo hi))).length-(hi-lo)):Nat)) (j:=1) rfl rfl) ?_;refine JL Io ?_;refine J1 ?_;exact AU () trivial (.cons (congrArg (fun bb=>some (Value.bool bb)) (decide_eq_decide.2 ⟨fun h=>⟨h115,h⟩,fun h=>h.2⟩)) Na) rfl
   have h115:¬lo<hi:=hg4;refine JH F4 ?_;refine JH F4 ?_;refine JL IE ?_;refine J1 ?_;exact AU () trivial (.cons (congrArg (fun bb=>some (Value.bool bb)) (decide_eq_false (fun h=>h115 h.1)).symm) Na) rfl
  ·rintro _ _;refine J1 ?_;refine mC (fun h118=>?_) (fun h118=>?_)
   ·refine J7 ?_
    have hfill:wm.w.fill dm.d j=none:=by
     rw [hfe];unfold Ai.MP;dsimp only;rw [if_pos Cg]
    exact Om
   refine J3 ?_
   have hnb:¬(lo<hi∧dm.d.room<dm.d.b.length+((Aj (B7 j lo false (cut wm.w.b lo hi))).length-(hi-lo))+1):=by omega
   have hfe2:wm.w.fill dm.d j=match dm.d.add (DL (B7 j lo (wm.w.finished&&decide ((min hi (lo+(dm.d.room-dm.d.b.length-((Aj (B7 j lo false (cut wm.w.b lo hi))).length-(hi-lo)))))=wm.w.b.length)) (cut wm.w.b lo (min hi (lo+(dm.d.room-dm.d.b.length-((Aj (B7 j lo false (cut wm.w.b lo hi))).length-(hi-lo)))))))).f with
     |none=>none
     |some d2=>some ({wm.w with AJ:=if lo<(min hi (lo+(dm.d.room-dm.d.b.length-((Aj (B7 j lo false (cut wm.w.b lo hi))).length-(hi-lo)))))then wm.w.AJ.add lo ((min hi (lo+(dm.d.room-dm.d.b.length-((Aj (B7 j lo false (cut wm.w.b lo hi))).length-(hi-lo)))))-1)else wm.w.AJ,ending:=wm.w.ending||(wm.w.finished&&decide ((min hi (lo+(dm.d.room-dm.d.b.length-((Aj (B7 j lo false (cut wm.w.b lo hi))).length-(hi-lo)))))=wm.w.b.length)),high:=max wm.w.high (min hi (lo+(dm.d.room-dm.d.b.length-((Aj (B7 j lo false (cut wm.w.b lo hi))).length-(hi-lo)))))},d2):=by
    rw [hfe];unfold Ai.MP;dsimp only;rw [if_neg hnb];rfl
   have hh2:lo≤(min hi (lo+(dm.d.room-dm.d.b.length-((Aj (B7 j lo false (cut wm.w.b lo hi))).length-(hi-lo)))))∧(min hi (lo+(dm.d.room-dm.d.b.length-((Aj (B7 j lo false (cut wm.w.b lo hi))).length-(hi-lo)))))≤hi:=⟨Cg,k_ _ _⟩
   have hcl2:=OX (lo:=lo) (show(min hi (lo+(dm.d.room-dm.d.b.length-((Aj (B7 j lo false (cut wm.w.b lo hi))).length-(hi-lo)))))≤wm.w.b.length by omega);refine J4 ?_;refine JL (Br (v':=iN (dm.d.room-dm.d.b.length-((Aj (B7 j lo false (cut wm.w.b lo hi))).length-(hi-lo)))) (oY (i:=((dm.d.room-dm.d.b.length:Nat):Int)-(((Aj (B7 j lo false (cut wm.w.b lo hi))).length-(hi-lo)):Nat)) (j:=0) rfl rfl) (by congr 1;split<;>omega)) ?_;refine Qf ?_;refine JL P' ?_;generalize hhi2:(min hi (lo+(dm.d.room-dm.d.b.length-((Aj (B7 j lo false (cut wm.w.b lo hi))).length-(hi-lo)))))=hi2 at*;refine J4 ?_;refine BO (α:=Nat) (fun b13=>[(13,ptr b13 0),(9,uN lo),(10,uN hi2),(7,ptr cb (0+43+j*10)),(8,uN wm.w.b.length),(0,ptr cb 0),(1,ptr db 0),(2,iN j)]) (fun b13=>Ba db dm*(HP.AA b13 0 (AI (DL (B7 j lo (wm.w.finished&&decide (hi2=wm.w.b.length)) (cut wm.w.b lo hi2))))*(HP.AA cb (0+43+j*10) (Bz wm)*(AD wm.a.b wm.a.o wm.w.b wm.a.s*(AH wm.sq wm.sa wm.w.AJ*(AH wm.cq wm.ca wm.w.AF*(Cc cb ws j*R))))))) (fun _=>True) ?_ ?_
   ·refine mA 21 22 ?_;refine LX ?_;refine Jn 3 ?_;refine HB ?_;refine Jm 6 ?_;refine GF 132 rfl (fun hg5=>?_) (fun hg5=>?_)
    ·have h132:wm.w.finished=true:=hg5;refine JY 7 rfl hg5 A4 ?_;refine JY 8 rfl hg5 A4 ?_;refine JY 9 rfl hg5 MO ?_;refine JT 10 rfl WI ?_;refine Zc ?_;rintro _ _ ⟨b13,rfl,rfl⟩;refine BF ?_;refine D' 21 Ch rfl K5 ?_;refine Dw ?_;exact AU b13 trivial Na (by rw [show(wm.w.finished&&decide (hi2=wm.w.b.length))=decide (hi2=wm.w.b.length) by rw [h132,Bool.true_and]];ac_rfl)
    have h132:wm.w.finished=false:=hg5;refine JN 7 rfl hg5 ?_;refine JN 8 rfl hg5 ?_;refine JN 9 rfl hg5 ?_;refine JT 10 rfl YQ ?_;refine Zc ?_;rintro _ _ ⟨b13,rfl,rfl⟩;refine BF ?_;refine D' 21 Ch rfl K5 ?_;refine Dw ?_;exact AU b13 trivial Na (by rw [show(wm.w.finished&&decide (hi2=wm.w.b.length))=false by rw [h132,Bool.false_and]];ac_rfl)
   ·rintro b13 _;refine J5 ?_;refine JL (Dp (l:=AI (DL (B7 j lo (wm.w.finished&&decide (hi2=wm.w.b.length)) (cut wm.w.b lo hi2)))) rfl rfl) ?_;refine mE rfl (VJ db dm (DL (B7 j lo (wm.w.finished&&decide (hi2=wm.w.b.length)) (cut wm.w.b lo hi2))) _ hd (Xo hj Cg) ⟨Tz,by show(5:Int)≤5;decide⟩ (Pk rfl (by rw [N7];omega)) (hr:=Ta rfl _)) ?_;rintro _ _ ⟨dm2,hd2,hde2,rfl,rfl⟩;refine Eb ?_;refine mc (fun h149=>?_) (fun h149=>?_)
    ·refine J7 ?_
     have hadd:dm.d.add (DL (B7 j lo (wm.w.finished&&decide (hi2=wm.w.b.length)) (cut wm.w.b lo hi2))).f=none:=by simpa using h149
     have hde3:dm2.d=dm.d:=by rw [hde2,hadd];rfl
     have hfill:wm.w.fill dm.d j=none:=by
      rw [hfe2,hadd]
     exact mR [6] (BG cb (ws.set j wm)*(Ba db dm2*R)) (hE:=⟨fun ww hw=>Sat.right (A:=HP.AA b13 0 (AI (DL (B7 j lo (wm.w.finished&&decide (hi2=wm.w.b.length)) (cut wm.w.b lo hi2))))) (n_ rP hw)⟩) rfl rfl ⟨wm,dm2,hwm,hd2,dV,rfl⟩
    refine J4 ?_;obtain⟨d2,hd2e⟩:∃d2,dm.d.add (DL (B7 j lo (wm.w.finished&&decide (hi2=wm.w.b.length)) (cut wm.w.b lo hi2))).f=some d2:=Option.isSome_iff_exists.1 (by simpa using h149);rw [hd2e]at hfe2 hde2;dsimp only [Option.getD_some]at hfe2 hde2;refine Aq (H':=AH wm.sq wm.sa wm.w.AJ*(HP.AA cb (0+43+j*10) (Bz wm)*(AD wm.a.b wm.a.o wm.w.b wm.a.s*(AH wm.cq wm.ca wm.w.AF*(Cc cb ws j*(Ba db dm2*(HP.AA b13 0 (AI (DL (B7 j lo (wm.w.finished&&decide (hi2=wm.w.b.length)) (cut wm.w.b lo hi2))))*R))))))) Cm ?_;refine J3 ?_;refine Hv ?_;refine BO (α:=B9) (fun _=>[(13,ptr b13 0),(9,uN lo),(10,uN hi2),(7,ptr cb (0+43+j*10)),(8,uN wm.w.b.length),(0,ptr cb 0),(1,ptr db 0),(2,iN j)]) (fun a=>AH wm.sq a (if lo<hi2 then wm.w.AJ.add lo (hi2-1)else wm.w.AJ)*(HP.AA cb (0+43+j*10) (Bz wm)*(AD wm.a.b wm.a.o wm.w.b wm.a.s*(AH wm.cq wm.ca wm.w.AF*(Cc cb ws j*(Ba db dm2*(HP.AA b13 0 (AI (DL (B7 j lo (wm.w.finished&&decide (hi2=wm.w.b.length)) (cut wm.w.b lo hi2))))*R))))))) (fun a=>a.ok (if lo<hi2 then wm.w.AJ.add lo (hi2-1)else wm.w.AJ)) ?_ ?_
    ·refine mC (fun h152=>?_) (fun h152=>?_)
     ·refine J7 ?_;refine JL Nm ?_;refine mE rfl (L0 wm.sq lo (hi2-1) wm.w.b.length wm.sa wm.w.AJ _ hwm.2.1 hw.so Cg Cg (by rw [hw.sm];decide) (by rw [hw.sm];decide)) ?_;rintro _ _ ⟨a160,hs160,rfl⟩;refine J1 ?_;exact AU a160 (by rw [if_pos h152];exact hs160) Na (by rw [if_pos h152])
     refine J1 ?_;exact AU wm.sa (by rw [if_neg h152];exact hwm.2.1) Na (by rw [if_neg h152])
    ·rintro sa2 hsa2;refine J9 ?_;refine CU 166 rfl (fun hg6=>?_) (fun hg6=>?_)
     ·have h166:wm.w.ending=true:=hg6;refine JH hg6 ?_;refine JH hg6 ?_;refine JL Uf ?_;refine EP ?_;refine JL Ll ?_;refine BV ?_
      obtain⟨w2,hw2⟩:∃w2:Bo,w2={wm with w:={wm.w with AJ:=(if lo<hi2 then wm.w.AJ.add lo (hi2-1)else wm.w.AJ),ending:=wm.w.ending||(wm.w.finished&&decide (hi2=wm.w.b.length)),high:=max wm.w.high hi2},sa:=sa2}:=Bg
      have hok2:w2.ok:=by rw [hw2];exact⟨hwm.1,hsa2,hwm.2.2⟩
      exact mR [6] (BG cb (ws.set j w2)*(Ba db dm2*R)) (hE:=⟨fun ww hw=>Sat.right (A:=HP.AA b13 0 (AI (DL (B7 j lo (wm.w.finished&&decide (hi2=wm.w.b.length)) (cut wm.w.b lo hi2))))) (n_ (by
       congr 1
       rw [Mq cb ws j w2 hjl,hw2]
       unfold B6
       refine aV ?_
       rw [h166]
       simp only [q_]
       ac_rfl) hw)⟩) rfl rfl ⟨w2,dm2,hok2,hd2,cT,rfl⟩
     have h166:wm.w.ending=false:=hg6;refine SN ?_;refine JL Qz ?_;refine EP ?_;refine JL Ll ?_;refine BV ?_
     obtain⟨w2,hw2⟩:∃w2:Bo,w2={wm with w:={wm.w with AJ:=(if lo<hi2 then wm.w.AJ.add lo (hi2-1)else wm.w.AJ),ending:=wm.w.ending||(wm.w.finished&&decide (hi2=wm.w.b.length)),high:=max wm.w.high hi2},sa:=sa2}:=Bg
     have hok2:w2.ok:=by rw [hw2];exact⟨hwm.1,hsa2,hwm.2.2⟩
     exact mR [6] (BG cb (ws.set j w2)*(Ba db dm2*R)) (hE:=⟨fun ww hw=>Sat.right (A:=HP.AA b13 0 (AI (DL (B7 j lo (wm.w.finished&&decide (hi2=wm.w.b.length)) (cut wm.w.b lo hi2))))) (n_ (by
      congr 1
      rw [Mq cb ws j w2 hjl,hw2]
      unfold B6
      refine aV ?_
      rw [h166]
      simp only [o_]
      ac_rfl) hw)⟩) rfl rfl ⟨w2,dm2,hok2,hd2,cT,rfl⟩
end
section
variable{B:World}
structure Gq where
 ys:List UInt8
 a:Ae
@[reducible] def xJ(m:Gq):List Value:=[.slice m.a.p m.ys.length m.a.c]
@[reducible] instance:AB Gq:=⟨1,xJ,⟨[],⟨none,0,0,0,[]⟩⟩,fun _=>rfl,fun _ v h=>by
 simp at h;rcases h with rfl;rfl⟩
def Gq.ok(m:Gq):Prop:=m.a.ok m.ys
def Hg(m:Gq):HP:=AD m.a.b m.a.o m.ys m.a.s
structure LN where
 l:List Gq
 a:Ae
structure LN.ok(m:LN)(xs:List (List UInt8)):Prop where
 a:m.a.ok m.l
 l:∀p∈m.l,p.ok
 map:m.l.map (·.ys)=xs
def Dl(m:LN):HP:=m.a.h m.l*AM Hg m.l
def LN.v(m:LN):Value:=.slice m.a.p m.l.length m.a.c
def RL(H:HP)(xs:List (List UInt8))(v:Value)(H':HP):Prop:=∃m:LN,m.ok xs∧v=m.v∧H'=Dl m*H
def BP:Ae:=⟨none,0,0,0,[]⟩
theorem DX{α:Type}[AB α]:BP.ok ([]:List α):=⟨DG,by show 0*_+0=0*_;omega⟩
theorem GN{α:Type}[AB α]:BP.h ([]:List α)=HP.BQ:=FI ..
theorem RL.nil(H:HP):RL H [] (.slice none 0 0) H:=
 ⟨⟨[],BP⟩,⟨DX,(fun _ h=>nomatch h),rfl⟩,rfl,by unfold Dl;rw [GN,FG];show H=HP.BQ*HP.BQ*H;rw [HP.BA,HP.BA]⟩
theorem gl{n:Nat}(h:n<18446744073709551616):uN n=u64 (g' n):=by
 show Value.int .u64 (n:Nat)=Value.int .u64 ((g' n).toNat:Nat);rw [UInt64.toNat_ofNat',Nat.mod_eq_of_lt RW]
theorem x8(H:HP)(b:Nat)(f:AZ)(hf:f.ranges=[])[hr:AW B H b 0 [DL f]]:Hi B H (some ⟨b,0,none⟩) 1 [f] b 0 [DL f]:=
 ⟨Bc,hr,rfl,(fun r h=>by rw [c_.1 h];exact(Pk (f:={f with data:=⟨#[]⟩}) hf PZ).ok),(fun r h=>by rw [c_.1 h];exact Ta hf H)⟩
theorem wB{code:Nat}(h:code≤4611686018427387903):EV [CY code]=some (Aj (CY code)):=by
 unfold EV;rw [if_pos ⟨Cl,fun f hf=>by rw [c_.1 hf];exact ZK h⟩,L3]
theorem VC(code:Nat):(Aj (CY code)).length≤9:=by
 have:=B8 code
 have e:Aj (CY code)=[28]++AQ code:=rfl;rw [e,b_];simp only [m_];omega
set_option maxHeartbeats 2000000 in
theorem uQ(cb t:Nat)(m:Ah)(R:HP)(hm:m.ok)(hi:Ak t m.s)(ht:t<1000000):
  Fn Tryz.prog B 135 [ptr cb 0] (Ac cb m*R) (fun v H'=>∃m':Ah,m'.ok∧m'.s=m.s.CT.2∧RL (Ac cb m'*R) m.s.CT.1 v H'):=by
 refine mI Tryz.func135 ?_;refine Aq Ny ?_;have hks:m.x.ks.length=16:=hi.ks;have hcd:m.x.code≤4611686018427387903:=hi.code;have hnx:m.x.next≤20*t:=hi.nx;refine FL ?_;refine mc (fun h9=>?_) (fun h9=>?_)
 ·refine J7 ?_;exact mR [2] (Ac cb m*R) (hE:=by rw [Dd];infer_instance) rfl rfl (by unfold AL.CT;rw [if_pos (show m.s.said=true from h9)];exact⟨m,hm,rfl,.nil _⟩)
 refine YB ?_;refine JL (E7 (cs:=AI (DL (CY m.x.code))) rfl rfl rfl (AB.one (DL (CY m.x.code)))) ?_;refine AV (E4 (cs:=AI (DL (CY m.x.code))) rfl Cr rfl rfl) rfl ?_;rintro _ _ ⟨b19,rfl,rfl⟩;refine Aw (H':=AD b19 0 [DL (CY m.x.code)] []*(AT cb {m.x with said:=true}*(AH m.x.gq m.ga m.AO*(BG cb m.ws*(Bl cb m.rs*(Di m*R)))))) (by unfold AD;rw [h_,show AE [DL (CY m.x.code)]=AI (DL (CY m.x.code))from h_ _]) ?_;refine mE rfl (wM [CY m.x.code] (some ⟨b19,0,none⟩) 1 b19 0 [DL (CY m.x.code)] _ (x8 _ b19 _ rfl) (fun r h=>by rw [c_.1 h];exact Pk rfl PZ) (by show(1:Nat)<_;decide) (by rw [L3];have:=VC m.x.code;omega)) ?_;intro v20 H20 h20;rw [wB hcd]at h20;obtain⟨_,rfl,p20,b20,o20,c20,s20,rfl,hs20,hc20,rfl⟩:=h20;have hcl:=VC m.x.code;refine J8 ?_;refine mA 9 11 ?_;refine Hu ?_;refine JT 3 rfl (Dp (l:=AE m.x.ks++[u8 (BM m.x.first)]) rfl cS) ?_;refine Sg ?_;refine Jm 8 ?_
 refine Al 9 Ch rfl rfl (BK (vs:=[.agg (AE m.x.ks++[u8 (BM m.x.first)]).toArray,u64 (g' m.x.next),.slice p20 (Aj (CY m.x.code)).length c20]) lP (cC m.x.ks hks (BM m.x.first) (g' m.x.next) (Aj (CY m.x.code)) p20 b20 o20 c20 _ hs20 inferInstance Cg)) ?_;rintro _ _ ⟨p32,b32,o32,c32,s32,rfl,hs32,hc32,rfl⟩;refine UX ?_;refine JD ?_;refine J7 ?_;refine JL jO ?_;refine J8 ?_;refine FM ?_;rintro _ _ ⟨b41,rfl,rfl⟩;refine J4 ?_
 have efw:m.s.CT=([DK m.x.ks (BM m.x.first) (g' m.x.next) (Aj (CY m.x.code))],{m.s with said:=true,next:=m.s.next+1}):=by
  unfold AL.CT;rw [if_neg (by rw [show m.s.said=false from h9];simp)];rfl
 generalize hzs:DK m.x.ks (BM m.x.first) (g' m.x.next) (Aj (CY m.x.code))=zs at*
 obtain⟨pk,hpk⟩:∃pk:LN,pk=⟨[⟨zs,⟨p32,b32,o32,c32,s32⟩⟩],⟨some ⟨b41,0,none⟩,b41,0,1,[]⟩⟩:=Bg
 have hpok:pk.ok [zs]:=by
  rw [hpk];exact⟨⟨Bc,rfl⟩,(fun p hp=>by rw [c_.1 hp];exact⟨hs32,hc32⟩),rfl⟩
 exact mR [2] (Dl pk*(Ac cb (m.CF {m.x with said:=true,next:=m.x.next+1})*R)) (hE:=⟨fun ww hw=>Sat.right (A:=AD b20 o20 (Aj (CY m.x.code)) s20*AD b19 0 [DL (CY m.x.code)] []) (n_ (by
  congr 1
  rw [Dd,hpk]
  unfold Dl
  rw [Fx,FG]
  show _=AD b20 o20 (Aj (CY m.x.code)) s20*AD b19 0 [DL (CY m.x.code)] []*(HP.AA b41 0 [.slice p32 zs.length c32]*(AD b32 o32 zs s32*HP.BQ)*(AT cb {m.x with said:=true,next:=m.x.next+1}*(AH m.x.gq m.ga m.AO*(BG cb m.ws*(Bl cb m.rs*(Di m*R))))))
  rw [HP.Gb]
  ac_rfl) hw)⟩) rfl rfl
  (by rw [efw];exact⟨m.CF {m.x with said:=true,next:=m.x.next+1},⟨hm.g,hm.ws,hm.rs,hm.fl,hm.lo,hm.fa,hm.la,hm.fv,hm.lv⟩,rfl,pk,hpok,by rw [hpk];rfl,rfl⟩)
end
end Go.Proofs.YtgfdlpcdjklcoaaGreatDoor
