/- A part of this proof: steps of the program, plain facts; no condition. -/
import Derived.Test.YtgfdlpcdjklcoaaGreatDoorP14
namespace Go.Proofs.YtgfdlpcdjklcoaaGreatDoor
open Go Go.RowKit
open _root_.List renaming filter_append→a_,length_append→b_,getElem?_eq_getElem→c_,getD_eq_getElem?_getD→e_,length_map→f_,filter_cons_of_pos→g_,filter_cons_of_neg→g',append_nil→h_,mem_singleton→j_,take_succ_eq_append_getElem→k_,take_length→l_,mem_append→m_,drop_eq_getElem_cons→o_,getElem?_map→p_,map_append→q',eq_replicate_iff→r_,mem_map→t_,take_zero→v_,drop_zero→w_,replicate→xr,map_drop→xu
open _root_.Go.Value renaming bool→d_,agg→xx
open _root_.Bool renaming eq_iff_iff→i_,false_or→q_,or_assoc→s_,false_and→u_,true_and→xt,true_or→xw
open _root_.Nat renaming zero_le→j'
open _root_.Eq renaming mp→n_
set_option linter.unusedVariables false
set_option linter.unusedSimpArgs false
set_option maxRecDepth 20000
section
variable{B:World}
theorem uf(xs:List UInt8):∀(fuel a:Nat) (fs:List AZ),xs.length-a≤fuel→Ew xs a=.ok fs→∀f∈fs,f.data.size≤xs.length:=by
 intro fuel
 induction fuel with
 |zero=>
  intro a fs hl h;rw [Ew,if_neg Cg]at h;cases h;exact fun f hf=>nomatch hf
 |succ n ih=>
  intro a fs hl h;rw [Ew]at h;split at h
  ·split at h
   ·rename_i f a' e;split at h
    ·rename_i hcc;split at h
     ·rename_i l e2;cases h;intro g hg;rcases List.mem_cons.1 hg with rfl|hg
      ·unfold EJ at e;split at e
       ·rename_i f2 a2 e3;split at e
        ·cases e;exact(Yc e3).2
        ·cases e
       ·cases e
      ·exact ih a' l Cg e2 g hg
     ·cases h
    ·cases h
   ·cases h
  ·cases h;exact fun f hf=>nomatch hf
theorem vF{xs:List UInt8}{fs:List AZ}(h:DZ xs=.ok fs):∀f∈fs,f.data.size≤xs.length:=by
 unfold DZ at h;split at h
 ·cases h
 ·exact uf xs _ 0 fs D3 h
theorem H? {xs:List UInt8}{fs:List AZ}(h:DZ xs=.ok fs):fs≠ []:=by
 unfold DZ at h;split at h
 ·cases h
 ·rename_i hne;have hl:=List.length_pos_iff.2 hne;rw [Ew,if_pos hl]at h;split at h
  ·split at h
   ·split at h
    ·cases h;simp
    ·cases h
   ·cases h
  ·cases h
theorem Vf{xs:List UInt8}{fs:List AZ}(h:DZ xs=.ok fs):EV fs=some (BN fs):=by
 unfold EV;rw [if_pos ⟨H? h,Ks h⟩]
theorem Y9(N:Nat):∀(fs:List AZ),(∀f∈fs,f.ranges.length≤N∧f.data.size≤N)→(BN fs).length≤fs.length*(64+17*N)
 |[],_=>j' _
 |f::fs,h=>by
  have h1:=Y9 N fs (fun g hg=>h g IP);have h2:=eV (f:=f);obtain⟨h3,h4⟩:=h f Cl;simp only [BN,List.flatMap_cons,b_,List.length_cons]at*;rw [Nat.succ_mul];omega
def Vw(o:Option (List AZ))(sb:Nat)(m':Ad)(R:HP)(v:Value)(H':HP):Prop:=
 match o with
 |none=>(∃x,v=.tuple #[x,.bool false])∧H'=AS sb m'*R
 |some l=>(∃(q:Option Addr) (b' o' c':Nat) (s':List Value) (rs:List RF),v=.tuple #[.slice q l.length c',.bool true]∧Sl q b' o' l.length c'∧l.length*7+s'.length=c'*7∧rs.map RF.f=l∧(∀r∈rs,r.ok∧r.own)∧H'=AD b' o' rs s'*(A0 rs*(AS sb m'*R)))
set_option maxHeartbeats 4000000 in
theorem J? (sb t:Nat)(m:Ad)(d:ByteArray)(R:HP)(hm:m.ok)(hi:Ag t m.s)(ht:t<900000)(hd:d.size<90000000)(hop:Bj m.x.ks (BM m.x.first) d.data.toList=none):
  Fn Tryz.prog B 86 [ptr sb 0,.string d] (AS sb m*R) (fun v H'=>∃m':Ad,m'.ok∧m'.s=(m.s.opened d.data.toList).2∧Vw (m.s.opened d.data.toList).1 sb m' R v H'):=by
 refine mI Tryz.func86 ?_;refine Lo ?_;have hks:m.x.ks.length=16:=hi.ks;have hnx:m.x.next≤20*t:=hi.nx;have hdl:d.data.toList.length=d.size:=rfl;refine J7 ?_;refine Wd ?_;refine Jm 8 ?_;refine Al 9 Ch rfl rfl NG ?_;rintro _ _ ⟨p24,b24,o24,c24,s24,rfl,hs24,hc24,rfl⟩;refine BF ?_;refine Al 10 Ch rfl rfl (BK rfl (bN hks p24 b24 o24 c24 _ hs24 inferInstance Cg (by rw [lA];exact hop))) ?_;refine JR ?_;refine SV ?_;refine J5 ?_;refine KS ?_;refine Hc ?_;refine Oa ?_;refine Ga ?_;refine Ga ?_;refine Ig ?_;refine Hc ?_;refine Ga ?_;refine Ga ?_
 refine Ga ?_;refine Ig ?_;refine Gv ?_;refine J8 ?_
 have eop:m.s.opened d.data.toList=(none,m.s):=by unfold AK.opened;rw [show Bj m.s.ks (BM m.s.first) d.data.toList=none from hop]
 exact WT
set_option maxHeartbeats 4000000 in
theorem rq(sb t:Nat)(m:Ad)(d:ByteArray)(R:HP)(hm:m.ok)(hi:Ag t m.s)(ht:t<900000)(hd:d.size<90000000)(n:UInt64)(ys:List UInt8)(hop:Bj m.x.ks (BM m.x.first) d.data.toList=some (n,ys)):
  Fn Tryz.prog B 86 [ptr sb 0,.string d] (AS sb m*R) (fun v H'=>∃m':Ad,m'.ok∧m'.s=(m.s.opened d.data.toList).2∧Vw (m.s.opened d.data.toList).1 sb m' R v H'):=by
 refine mI Tryz.func86 ?_;refine Lo ?_;have hks:m.x.ks.length=16:=hi.ks;have hnx:m.x.next≤20*t:=hi.nx;have hdl:d.data.toList.length=d.size:=rfl;refine J7 ?_;refine Wd ?_;refine Jm 8 ?_;refine Al 9 Ch rfl rfl NG ?_;rintro _ _ ⟨p24,b24,o24,c24,s24,rfl,hs24,hc24,rfl⟩;refine BF ?_;refine Al 10 Ch rfl rfl (BK rfl (ZW hks p24 b24 o24 c24 _ hs24 inferInstance Cg (by rw [lA];exact hop))) ?_;rintro _ _ ⟨q25,b25,o25,c25,s25,rfl,hq25,hc25,rfl⟩;obtain⟨hyl,hx300,hn62⟩:=Js hop;refine SV ?_;refine J5 ?_;refine KS ?_;refine UI ?_;refine KB ?_;refine UI ?_;refine Mk ?_;refine Mk ?_;refine KB ?_;refine JL (I' (i:=d.size) (j:=m.x.AY) rfl rfl) ?_
 refine M' ?_;refine CJ 41 rfl (fun hg1=>?_) (fun hg1=>?_)
 ·have g1:=hg1;refine I8 ?_;refine I8 ?_;refine OC ?_;refine J8 ?_
  have eop:m.s.opened d.data.toList=(none,m.s):=by unfold AK.opened;rw [show Bj m.s.ks (BM m.s.first) d.data.toList=some (n,ys)from hop];dsimp only;rw [if_pos (.inl (show m.s.AY<d.data.toList.length from g1))]
  exact WT
 have g1:=hg1;refine KO ?_;refine KO ?_;refine JA ?_;refine JL (GP (i:=n.toNat) (j:=m.x.next) rfl rfl) ?_;refine Iq ?_;refine mC (fun h48=>?_) (fun h48=>?_)
 ·refine J8 ?_
  have eop:m.s.opened d.data.toList=(none,m.s):=by unfold AK.opened;rw [show Bj m.s.ks (BM m.s.first) d.data.toList=some (n,ys)from hop];dsimp only;rw [if_pos (.inr (show n.toNat≠m.s.next from h48))]
  exact WT
 refine J8 ?_;refine JL jO ?_;refine J8 ?_;refine mE rfl (Sn q25 b25 o25 c25 ys _ hq25 inferInstance Cg) ?_;rintro _ _ ⟨p58,b58,o58,c58,s58,rs,fs,dk,dat,rfl,hs58,hc58,hmap,hro,rfl,hdd⟩
 have hrl:rs.length=fs.length:=by rw [←hmap,f_]
 refine EP ?_;refine JL (GP (i:=dk) (j:=0) rfl rfl) ?_;refine J2 ?_;refine mC (fun h63=>?_) (fun h63=>?_)
 ·skip
  obtain⟨e,hdec,rfl,rfl,rfl,rfl,rfl⟩:∃e,DZ ys=.error e∧fs=[]∧p58=none∧c58=0∧dk=5∧dat=iN e:=by
   rcases hdd with h|⟨h1,h2,h3⟩
   ·exact h
   ·exact absurd h2 h63
  refine J8 ?_
  have hok:¬(m.s.AY<d.data.toList.length∨n.toNat≠m.s.next):=fun h=>by rcases h with h|h;exact g1 h;exact h48 h
  have eop:m.s.opened d.data.toList=(none,{m.s with next:=m.s.next+1}):=by unfold AK.opened;rw [show Bj m.s.ks (BM m.s.first) d.data.toList=some (n,ys)from hop];dsimp only;rw [if_neg hok,hdec]
  exact mR [4,5] (AS sb (m.CF {m.x with next:=m.x.next+1})*R) (hE:=⟨fun ww hw=>Sat.right (A:=AD b58 o58 rs s58*(A0 rs*(AD b25 o25 ys s25*AD b24 o24 d.data.toList s24))) (n_ (by congr 1;rw [DJ];show _=AD b58 o58 rs s58*(A0 rs*(AD b25 o25 ys s25*AD b24 o24 d.data.toList s24))*(Ab sb {m.x with next:=m.x.next+1}*(AH m.x.gq m.ga m.AO*(AH m.x.eq m.ea m.Ao*(m.da.h (m.due.map Ay.mk)*(m.oa.h m.outs*(AM BJ m.outs*(m.ia.h m.ins*(AM BC m.ins*(m.sa.h m.AJ*(AM B3 m.AJ*R))))))))));ac_rfl) hw)⟩) rfl rfl ⟨m.CF {m.x with next:=m.x.next+1},{hm with},by rw [eop];rfl,XY⟩
 obtain⟨hdec,rfl,rfl⟩:DZ ys=.ok fs∧dk=0∧dat=.int .i64 (-1):=by
  rcases hdd with⟨e,h1,h2,h3,h4,h5,h6⟩|h
  ·exact absurd (h5▸h63:¬(5:Nat)≠0) Ci
  ·exact h
 obtain⟨hdl1,hdl2⟩:=N1 hdec;have hdsz:=vF hdec;have henc:=Y9 300 fs (fun f hf=>⟨by have:=hdl2 f hf;omega,by have:=hdsz f hf;omega⟩)
 have henc2:(BN fs).length<10000000:=by
  have h7:fs.length*(64+17*300)≤300*(64+17*300):=Nat.mul_le_mul_right _ Cg;omega
 have hmod:∀r∈rs,FU r:=fun r hr=>by
  have h7:r.f∈fs:=by rw [←hmap];exact t_.2 ⟨r,hr,rfl⟩
  exact⟨(hro r hr).1,by have:=hdl2 _ h7;omega,by have:=hdsz _ h7;omega⟩
 refine J5 ?_;refine mE rfl (eE fs p58 c58 b58 o58 rs _ ⟨hs58,inferInstance,hmap,fun r hr=>(hro r hr).1,fun r hr=>by have h7:=O7 (B:=B) hr;infer_instance⟩ hmod Cg Cg) ?_;intro v66 H66 h66;rw [Vf hdec]at h66;obtain⟨_,rfl,p66,b66,o66,c66,s66,rfl,hs66,hc66,rfl⟩:=h66;refine J8 ?_;refine mA 8 8 ?_;refine EQ ?_;refine JT 2 rfl (Hq (xs:=BN fs) rfl hs66 inferInstance) ?_;refine Jm 3 ?_;refine JT 4 rfl (Hq (xs:=ys) rfl hq25 inferInstance) ?_;refine JT 5 rfl (jK rfl rfl) ?_;refine Ja 6 ?_;refine Ja 7 ?_;refine C3 ?_
 have hok:¬(m.s.AY<d.data.toList.length∨n.toNat≠m.s.next):=fun h=>by rcases h with h|h;exact g1 h;exact h48 h
 by_cases hee:BN fs=ys
 ·have eop:m.s.opened d.data.toList=(some fs,{m.s with next:=m.s.next+1}):=by unfold AK.opened;rw [show Bj m.s.ks (BM m.s.first) d.data.toList=some (n,ys)from hop];dsimp only;rw [if_neg hok,hdec];dsimp only;rw [Vf hdec,if_pos (by rw [hee])]
  rw [decide_eq_true (Qs.2 hee)];exact mR [4,5] (AD b58 o58 rs s58*(A0 rs*(AS sb (m.CF {m.x with next:=m.x.next+1})*R))) (hE:=⟨fun ww hw=>Sat.right (A:=AD b66 o66 (BN fs) s66*(AD b25 o25 ys s25*AD b24 o24 d.data.toList s24)) (n_ (by congr 1;rw [DJ];show _=AD b66 o66 (BN fs) s66*(AD b25 o25 ys s25*AD b24 o24 d.data.toList s24)*(AD b58 o58 rs s58*(A0 rs*(Ab sb {m.x with next:=m.x.next+1}*(AH m.x.gq m.ga m.AO*(AH m.x.eq m.ea m.Ao*(m.da.h (m.due.map Ay.mk)*(m.oa.h m.outs*(AM BJ m.outs*(m.ia.h m.ins*(AM BC m.ins*(m.sa.h m.AJ*(AM B3 m.AJ*R))))))))))));ac_rfl) hw)⟩) rfl rfl ⟨m.CF {m.x with next:=m.x.next+1},{hm with},by rw [eop];rfl,by rw [eop];exact⟨p58,b58,o58,c58,s58,rs,rfl,hs58,hc58,hmap,hro,rfl⟩⟩
 ·have eop:m.s.opened d.data.toList=(none,{m.s with next:=m.s.next+1}):=by unfold AK.opened;rw [show Bj m.s.ks (BM m.s.first) d.data.toList=some (n,ys)from hop];dsimp only;rw [if_neg hok,hdec];dsimp only;rw [Vf hdec,if_neg (fun h=>hee (Option.some.inj h))]
  rw [decide_eq_false (fun h=>hee (Qs.1 h))];exact mR [4,5] (AS sb (m.CF {m.x with next:=m.x.next+1})*R) (hE:=⟨fun ww hw=>Sat.right (A:=AD b66 o66 (BN fs) s66*(AD b58 o58 rs s58*(A0 rs*(AD b25 o25 ys s25*AD b24 o24 d.data.toList s24)))) (n_ (by congr 1;rw [DJ];show _=AD b66 o66 (BN fs) s66*(AD b58 o58 rs s58*(A0 rs*(AD b25 o25 ys s25*AD b24 o24 d.data.toList s24)))*(Ab sb {m.x with next:=m.x.next+1}*(AH m.x.gq m.ga m.AO*(AH m.x.eq m.ea m.Ao*(m.da.h (m.due.map Ay.mk)*(m.oa.h m.outs*(AM BJ m.outs*(m.ia.h m.ins*(AM BC m.ins*(m.sa.h m.AJ*(AM B3 m.AJ*R))))))))));ac_rfl) hw)⟩) rfl rfl ⟨m.CF {m.x with next:=m.x.next+1},{hm with},by rw [eop];rfl,XY⟩
theorem ZH(sb t:Nat)(m:Ad)(d:ByteArray)(R:HP)(hm:m.ok)(hi:Ag t m.s)(ht:t<900000)(hd:d.size<90000000):
  Fn Tryz.prog B 86 [ptr sb 0,.string d] (AS sb m*R) (fun v H'=>∃m':Ad,m'.ok∧m'.s=(m.s.opened d.data.toList).2∧Vw (m.s.opened d.data.toList).1 sb m' R v H'):=by
 cases hop:Bj m.x.ks (BM m.x.first) d.data.toList with
 |none=>exact J? sb t m d R hm hi ht hd hop
 |some ny=>exact rq sb t m d R hm hi ht hd ny.1 ny.2 hop
def JI(l:List AP)(r:AP):Bool:=l.any (fun e=>decide (e.lo≤r.lo)&&decide (r.hi≤e.hi))
theorem XP(l:List AP)(k:Nat)(r:AP)(hk:k<l.length):JI (l.take (k+1)) r=(JI (l.take k) r||(decide ((rg l k).lo≤r.lo)&&decide (r.hi≤(rg l k).hi))):=by
 rw [k_ hk,JI,List.any_append,←Hr hk];simp [JI]
theorem rV(l:List AP)(r:AP):JI l r=true↔∃e∈l,e.lo≤r.lo∧r.hi≤e.hi:=by simp [JI]
def FY(fl:Nat)(rs:List AP)(n:Nat):Bool:= !(decide (n<fl)||A8 rs n)
theorem HW{due:List Nat}{i:Nat}(h:i<due.length):due.take (i+1)=due.take i++[due.getD i 0]:=by
 rw [k_ h,e_,c_ h];rfl
theorem sI{due:List Nat}{i:Nat}(h:i<due.length):((due.map Ay.mk).getD i AB.AC).n=due.getD i 0:=by
 simp only [e_,p_,c_ h];rfl
set_option maxHeartbeats 4000000 in
theorem pa(sb t:Nat)(m:Ad)(r:RF)(R:HP)(hm:m.ok)(hi:Ag t m.s)(ht:t<1000000)(hrok:r.ok)(hr:AW B R r.b r.o r.f.ranges)(hrl:r.f.ranges.length<1000000000000):
  Fn Tryz.prog B 128 [ptr sb 0,.agg (AI r).toArray] (AS sb m*R)
   (fun v H'=>∃m':Ad,m'.ok∧m'.s=(m.s.HC r.f).2∧v=.bool (m.s.HC r.f).1∧H'=AS sb m'*R):=by
 refine mI Tryz.func128 ?_;refine Hj ?_;rintro _ _ ⟨b3,rfl,rfl⟩;refine J5 ?_;refine Ap (H':=HP.AA b3 0 (AI r)*(Ab sb m.x*(AH m.x.gq m.ga m.AO*(AH m.x.eq m.ea m.Ao*(AD m.da.b m.da.o (m.due.map Ay.mk) m.da.s*(m.oa.h m.outs*(AM BJ m.outs*(m.ia.h m.ins*(AM BC m.ins*(m.sa.h m.AJ*(AM B3 m.AJ*R))))))))))) Qh ?_;have hze:Fd B (HP.AA b3 0 (AI r)*(Ab sb m.x*(AH m.x.gq m.ga m.AO*(AH m.x.eq m.ea m.Ao*(AD m.da.b m.da.o (m.due.map Ay.mk) m.da.s*(m.oa.h m.outs*(AM BJ m.outs*(m.ia.h m.ins*(AM BC m.ins*(m.sa.h m.AJ*(AM B3 m.AJ*R))))))))))) m.x.eq m.ea m.Ao:=inferInstance;have hzel:=hze.l;have hzer:=hze.r;have hzg:Fd B (HP.AA b3 0 (AI r)*(Ab sb m.x*(AH m.x.gq m.ga m.AO*(AH m.x.eq m.ea m.Ao*(AD m.da.b m.da.o (m.due.map Ay.mk) m.da.s*(m.oa.h m.outs*(AM BJ m.outs*(m.ia.h m.ins*(AM BC m.ins*(m.sa.h m.AJ*(AM B3 m.AJ*R))))))))))) m.x.gq m.ga m.AO:=inferInstance;have hzgf:=hzg.f;have hesl:=hm.e.1;have hel:m.Ao.l.length≤t:=hi.el;have hdl:m.due.length≤t:=hi.due;refine J1 ?_;refine CZ ?_
 refine BL (α:=Nat) (fun i=>[(5,iN i),(3,ptr b3 0),(0,ptr sb 0)]) (fun _=>HP.AA b3 0 (AI r)*(Ab sb m.x*(AH m.x.gq m.ga m.AO*(AH m.x.eq m.ea m.Ao*(AD m.da.b m.da.o (m.due.map Ay.mk) m.da.s*(m.oa.h m.outs*(AM BJ m.outs*(m.ia.h m.ins*(AM BC m.ins*(m.sa.h m.AJ*(AM B3 m.AJ*R))))))))))) (fun i=>i≤r.f.ranges.length∧∀k,k<i→JI m.Ao.l (rg r.f.ranges k)=true) (fun i=>r.f.ranges.length-i) 0 ⟨j' _,fun k h=>absurd h TG⟩ CN rfl ?_;rintro i ⟨hi1,hi2⟩;dsimp only at hi1 hi2⊢;refine By ?_;refine mC (fun h16=>?_) (fun h16=>?_)
 ·have h16:i<r.f.ranges.length:=h16;refine CR ?_;refine CZ ?_;refine BL (α:=Nat) (fun k=>[(6,.bool (JI (m.Ao.l.take k) (rg r.f.ranges i))),(7,iN k),(5,iN i),(3,ptr b3 0),(0,ptr sb 0)]) (fun _=>HP.AA b3 0 (AI r)*(Ab sb m.x*(AH m.x.gq m.ga m.AO*(AH m.x.eq m.ea m.Ao*(AD m.da.b m.da.o (m.due.map Ay.mk) m.da.s*(m.oa.h m.outs*(AM BJ m.outs*(m.ia.h m.ins*(AM BC m.ins*(m.sa.h m.AJ*(AM B3 m.AJ*R))))))))))) (fun k=>k≤m.Ao.l.length) (fun k=>m.Ao.l.length-k) 0 C9 D' rfl ?_;rintro k hk1;dsimp only at hk1⊢;refine Iw ?_;refine mC (fun h28=>?_) (fun h28=>?_)
  ·have h28:k<m.Ao.l.length:=h28;refine J4 ?_;refine BO (α:=Unit) (fun _=>[(6,.bool (JI (m.Ao.l.take (k+1)) (rg r.f.ranges i))),(7,iN k),(5,iN i),(3,ptr b3 0),(0,ptr sb 0)]) (fun _=>HP.AA b3 0 (AI r)*(Ab sb m.x*(AH m.x.gq m.ga m.AO*(AH m.x.eq m.ea m.Ao*(AD m.da.b m.da.o (m.due.map Ay.mk) m.da.s*(m.oa.h m.outs*(AM BJ m.outs*(m.ia.h m.ins*(AM BC m.ins*(m.sa.h m.AJ*(AM B3 m.AJ*R))))))))))) (fun _=>True) ?_ ?_
   ·refine mA 42 42 ?_;refine EQ ?_;refine GF 32 rfl (fun hg1=>?_) (fun hg1=>?_)
    ·have g1:=hg1;refine Yh ?_;refine JN 17 rfl hg1 ?_;refine JN 18 rfl hg1 ?_;refine JN 19 rfl hg1 ?_;refine JN 20 rfl hg1 ?_;refine JU 21 ?_;refine Rb ?_;refine Ox ?_;refine RR ?_;refine JU 38 ?_;refine JN 39 rfl hg1 ?_;refine JT 40 rfl L8 ?_;refine Ja 41 ?_;refine JD ?_;exact AU () trivial (.cons (congrArg (fun bb=>some (d_ bb)) (by rw [XP _ k _ h28,g1,xw])) BR) rfl
    have g1:=hg1;refine JY 2 rfl hg1 A4 ?_;refine JY 3 rfl hg1 CP ?_;refine JY 4 rfl hg1 A7 ?_;refine JY 5 rfl hg1 Bb ?_;refine JY 6 rfl hg1 CP ?_;refine JY 7 rfl hg1 A7 ?_;refine JY 8 rfl hg1 Bb ?_;refine JY 9 rfl hg1 A4 ?_;refine JY 10 rfl hg1 (Bm rfl rfl hesl h28) ?_;refine JY 11 rfl hg1 A7 ?_;refine JY 12 rfl hg1 (H6 (i:=k) (xs:=m.Ao.l) rfl inferInstance h28) ?_;refine JY 13 rfl hg1 A7 ?_;refine JY 14 rfl hg1 Bb ?_;refine JY 15 rfl hg1 A4 ?_;refine JY 16 rfl hg1 (Bm rfl rfl hrok h16) ?_;refine JY 17 rfl hg1 A7 ?_;refine JY 18 rfl hg1 (H6 (i:=i) (xs:=r.f.ranges) rfl inferInstance h16) ?_;refine JY 19 rfl hg1 Ge ?_;refine JY 20 rfl hg1 A4 ?_;refine DM 51 rfl (fun hg2=>?_) (fun hg2=>?_)
    ·have g2:=hg2;refine JY 21 rfl T2 A7 ?_;refine JY 22 rfl T2 Bb ?_;refine JY 23 rfl T2 A4 ?_;refine JY 24 rfl T2 (Bm rfl rfl hrok h16) ?_;refine JY 25 rfl T2 A7 ?_;refine JY 26 rfl T2 (HO (i:=i) (xs:=r.f.ranges) rfl inferInstance h16) ?_;refine JY 27 rfl T2 A4 ?_;refine JY 28 rfl T2 CP ?_;refine JY 29 rfl T2 A7 ?_;refine JY 30 rfl T2 Bb ?_;refine JY 31 rfl T2 CP ?_;refine JY 32 rfl T2 A7 ?_;refine JY 33 rfl T2 Bb ?_;refine JY 34 rfl T2 A4 ?_;refine JY 35 rfl T2 (Bm rfl rfl hesl h28) ?_;refine JY 36 rfl T2 A7 ?_;refine JY 37 rfl T2 (HO (i:=k) (xs:=m.Ao.l) rfl inferInstance h28) ?_;refine JY 38 rfl T2 Ge ?_;refine JY 39 rfl hg1 FR ?_;refine JT 40 rfl Ju ?_;refine Ja 41 ?_;refine JD ?_
     exact AU () trivial (.cons (congrArg (fun bb=>some (d_ bb)) (by rw [XP _ k _ h28,g1,decide_eq_true g2,q_,xt])) BR) rfl
    have g2:=hg2;refine dD ?_;refine JN 30 rfl F2 ?_;refine JN 31 rfl F2 ?_;refine JN 32 rfl F2 ?_;refine JN 33 rfl F2 ?_;refine JN 34 rfl F2 ?_;refine JN 35 rfl F2 ?_;refine JN 36 rfl F2 ?_;refine JN 37 rfl F2 ?_;refine JN 38 rfl F2 ?_;refine JY 39 rfl hg1 FQ ?_;refine JT 40 rfl Ju ?_;refine Ja 41 ?_;refine JD ?_;exact AU () trivial (.cons (congrArg (fun bb=>some (d_ bb)) (by rw [XP _ k _ h28,g1,decide_eq_false g2,q_,u_])) BR) rfl
   ·rintro _ _;refine Fb ?_;exact At (k+1) (by show k+1≤m.Ao.l.length;omega) (by show m.Ao.l.length-(k+1)<m.Ao.l.length-k;omega) D' rfl
  obtain rfl:k=m.Ao.l.length:=by have h7:¬k<m.Ao.l.length:=h28;omega
  rw [l_];refine J8 ?_;refine N3 ?_;refine mc (fun h73=>?_) (fun h73=>?_)
  ·skip
   have h73:JI m.Ao.l (rg r.f.ranges i)=false:=by simpa using h73
   refine BV ?_
   have eak:m.s.HC r.f=(false,m.s):=by
    unfold AK.HC;rw [if_neg (fun h=>by have h8:=(rV m.Ao.l (rg r.f.ranges i)).2 (h (rg r.f.ranges i) (by rw [Hr h16];exact List.getElem_mem h16));rw [h73]at h8;cases h8)]
   exact mR [4] (AS sb m*R) (hE:=⟨fun ww hw=>Sat.right (A:=HP.AA b3 0 (AI r)) (n_ (by congr 1;rw [DJ]) hw)⟩) rfl rfl ⟨m,hm,by rw [eak],by rw [eak];rfl,rfl⟩
  have h73:JI m.Ao.l (rg r.f.ranges i)=true:=by simpa using h73
  refine Fu ?_;exact At (i+1) ⟨h16,fun k hk=>by rcases Nat.lt_or_ge k i with h|h;exact hi2 k h;obtain rfl:k=i:=Cg;exact h73⟩ (by show r.f.ranges.length-(i+1)<r.f.ranges.length-i;omega) CN rfl
 obtain rfl:i=r.f.ranges.length:=by have h7:¬i<r.f.ranges.length:=h16;omega
 have hall:(∀x∈r.f.ranges,∃e∈m.s.Ao.l,e.lo≤x.lo∧x.hi≤e.hi):=by
  intro x hx;obtain⟨k,hk,rfl⟩:=List.getElem_of_mem hx;have h8:=hi2 k hk;rw [Hr hk]at h8;exact(rV _ _).1 h8
 refine EP ?_;refine CZ ?_;refine BL (α:=Nat×Ae) (fun z=>[(8,z.2.v ((m.due.take z.1).filter (FY m.AO.floor r.f.ranges)).length),(9,iN z.1),(3,ptr b3 0),(0,ptr sb 0)]) (fun z=>AD z.2.b z.2.o (((m.due.take z.1).filter (FY m.AO.floor r.f.ranges)).map Ay.mk) z.2.s*(HP.AA b3 0 (AI r)*(Ab sb m.x*(AH m.x.gq m.ga m.AO*(AH m.x.eq m.ea m.Ao*(AD m.da.b m.da.o (m.due.map Ay.mk) m.da.s*(m.oa.h m.outs*(AM BJ m.outs*(m.ia.h m.ins*(AM BC m.ins*(m.sa.h m.AJ*(AM B3 m.AJ*R)))))))))))) (fun z=>z.1≤m.due.length∧z.2.ok (((m.due.take z.1).filter (FY m.AO.floor r.f.ranges)).map Ay.mk)) (fun z=>m.due.length-z.1) (0,BP) ⟨j' _,DX⟩ BR (by show HP.AA b3 0 (AI r)*(Ab sb m.x*(AH m.x.gq m.ga m.AO*(AH m.x.eq m.ea m.Ao*(AD m.da.b m.da.o (m.due.map Ay.mk) m.da.s*(m.oa.h m.outs*(AM BJ m.outs*(m.ia.h m.ins*(AM BC m.ins*(m.sa.h m.AJ*(AM B3 m.AJ*R))))))))))=AD 0 0 ([]:List Ay) []*(HP.AA b3 0 (AI r)*(Ab sb m.x*(AH m.x.gq m.ga m.AO*(AH m.x.eq m.ea m.Ao*(AD m.da.b m.da.o (m.due.map Ay.mk) m.da.s*(m.oa.h m.outs*(AM BJ m.outs*(m.ia.h m.ins*(AM BC m.ins*(m.sa.h m.AJ*(AM B3 m.AJ*R)))))))))));rw [FI,HP.BA]) ?_;rintro⟨i,la⟩ ⟨hi1,hla⟩;dsimp only at hi1 hla⊢
 have hll:((m.due.take i).filter (FY m.AO.floor r.f.ranges)).length≤i:=Nat.le_trans Xw QH;generalize hLF:(m.due.take i).filter (FY m.AO.floor r.f.ranges)=lf at*;refine J7 ?_;refine JL Pd ?_;refine J4 ?_;refine mC (fun h80=>?_) (fun h80=>?_)
 ·have h80:i<m.due.length:=h80;refine J5 ?_;refine mA 16 16 ?_;refine Hu ?_;refine JT 3 rfl Pd ?_;refine HD ?_;refine JT 5 rfl TU ?_;refine JT 6 rfl RB ?_;refine lX ?_;refine JT 14 rfl (GH (i:=(m.due.getD i 0)) (j:=m.AO.floor) rfl rfl) ?_;refine Ja 15 ?_;refine M6 ?_;refine CZ ?_
  refine BL (α:=Nat) (fun k=>[(10,.bool (decide ((m.due.getD i 0)<m.AO.floor)||A8 (r.f.ranges.take k) (m.due.getD i 0))),(11,iN k),(8,la.v lf.length),(9,iN i),(3,ptr b3 0),(0,ptr sb 0)]) (fun _=>AD la.b la.o (lf.map Ay.mk) la.s*(HP.AA b3 0 (AI r)*(Ab sb m.x*(AH m.x.gq m.ga m.AO*(AH m.x.eq m.ea m.Ao*(AD m.da.b m.da.o (m.due.map Ay.mk) m.da.s*(m.oa.h m.outs*(AM BJ m.outs*(m.ia.h m.ins*(AM BC m.ins*(m.sa.h m.AJ*(AM B3 m.AJ*R)))))))))))) (fun k=>k≤r.f.ranges.length) (fun k=>r.f.ranges.length-k) 0 C9 (.cons (congrArg (fun bb=>some (d_ bb)) (by rw [v_];show decide _=(decide _||false);rw [Bool.or_false])) D') rfl ?_;rintro k hk1;dsimp only at hk1⊢;refine By ?_;refine mC (fun h102=>?_) (fun h102=>?_)
  ·have h102:k<r.f.ranges.length:=h102;refine J4 ?_;refine BO (α:=Unit) (fun _=>[(10,.bool (decide ((m.due.getD i 0)<m.AO.floor)||A8 (r.f.ranges.take (k+1)) (m.due.getD i 0))),(11,iN k),(8,la.v lf.length),(9,iN i),(3,ptr b3 0),(0,ptr sb 0)]) (fun _=>AD la.b la.o (lf.map Ay.mk) la.s*(HP.AA b3 0 (AI r)*(Ab sb m.x*(AH m.x.gq m.ga m.AO*(AH m.x.eq m.ea m.Ao*(AD m.da.b m.da.o (m.due.map Ay.mk) m.da.s*(m.oa.h m.outs*(AM BJ m.outs*(m.ia.h m.ins*(AM BC m.ins*(m.sa.h m.AJ*(AM B3 m.AJ*R)))))))))))) (fun _=>True) ?_ ?_
   ·refine mA 34 34 ?_;refine EQ ?_;refine GF 106 rfl (fun hg3=>?_) (fun hg3=>?_)
    ·have g1:=hg3;refine JN 2 rfl hg3 ?_;refine JN 3 rfl hg3 ?_;refine JN 4 rfl hg3 ?_;refine JN 5 rfl hg3 ?_;refine JN 6 rfl hg3 ?_;refine jW ?_;refine JN 15 rfl hg3 ?_;refine JN 16 rfl hg3 ?_;refine Vo ?_;refine JN 31 rfl hg3 ?_;refine JT 32 rfl Jz ?_;refine OE ?_;exact AU () trivial (.cons (congrArg (fun bb=>some (d_ bb)) (by rw [NZ _ k _ h102,←s_,g1,xw])) D') rfl
    have g1:=hg3;refine JY 2 rfl hg3 A7 ?_;refine JY 3 rfl hg3 Bb ?_;refine JY 4 rfl hg3 A4 ?_;refine JY 5 rfl hg3 (Bm rfl rfl hrok h102) ?_;refine JY 6 rfl hg3 A7 ?_;refine JY 7 rfl hg3 (H6 (i:=k) (xs:=r.f.ranges) rfl inferInstance h102) ?_;refine JY 8 rfl hg3 A4 ?_;refine JY 9 rfl hg3 CP ?_;refine JY 10 rfl hg3 A7 ?_;refine JY 11 rfl hg3 Pd ?_;refine JY 12 rfl hg3 A4 ?_;refine JY 13 rfl hg3 TU ?_;refine JY 14 rfl hg3 RB ?_;refine JY 15 rfl hg3 Ge ?_;refine JY 16 rfl hg3 A4 ?_;refine DM 121 rfl (fun hg4=>?_) (fun hg4=>?_)
    ·have g2:=hg4;refine JY 17 rfl T4 A4 ?_;refine JY 18 rfl T4 CP ?_;refine JY 19 rfl T4 A7 ?_;refine JY 20 rfl T4 Pd ?_;refine JY 21 rfl T4 A4 ?_;refine JY 22 rfl T4 TU ?_;refine JY 23 rfl T4 RB ?_;refine JY 24 rfl T4 A7 ?_;refine JY 25 rfl T4 Bb ?_;refine JY 26 rfl T4 A4 ?_;refine JY 27 rfl T4 (Bm rfl rfl hrok h102) ?_;refine JY 28 rfl T4 A7 ?_;refine JY 29 rfl T4 (HO (i:=k) (xs:=r.f.ranges) rfl inferInstance h102) ?_;refine JY 30 rfl T4 Ge ?_;refine JY 31 rfl hg3 Io ?_;refine JT 32 rfl IV ?_;refine OE ?_
     exact AU () trivial (.cons (congrArg (fun bb=>some (d_ bb)) (by rw [NZ _ k _ h102,←s_,g1,decide_eq_true g2,q_,xt])) D') rfl
    have g2:=hg4;refine oR ?_;refine JN 22 rfl F4 ?_;refine fR ?_;refine JY 31 rfl hg3 IE ?_;refine JT 32 rfl IV ?_;refine OE ?_;exact AU () trivial (.cons (congrArg (fun bb=>some (d_ bb)) (by rw [NZ _ k _ h102,←s_,g1,decide_eq_false g2,q_,u_])) D') rfl
   ·rintro _ _;refine Fb ?_;exact At (k+1) (by show k+1≤r.f.ranges.length;omega) (by show r.f.ranges.length-(k+1)<r.f.ranges.length-k;omega) G9 rfl
  obtain rfl:k=r.f.ranges.length:=by have h7:¬k<r.f.ranges.length:=h102;omega
  rw [l_];refine J8 ?_;refine N3 ?_;refine mc (fun h139=>?_) (fun h139=>?_)
  ·skip
   have h139:(decide ((m.due.getD i 0)<m.AO.floor)||A8 r.f.ranges (m.due.getD i 0))=false:=by simpa using h139
   refine J5 ?_;refine JL Pd ?_;refine J1 ?_;refine JL TU ?_;refine JL RB ?_;refine AV (E4 (cs:=[uN (m.due.getD i 0)]) rfl Cr rfl rfl) rfl ?_;rintro _ _ ⟨b148,rfl,rfl⟩;refine Aw (H':=AD la.b la.o (lf.map Ay.mk) la.s*(HP.AA b148 0 (AE [Ay.mk (m.due.getD i 0)])*(HP.AA b3 0 (AI r)*(Ab sb m.x*(AH m.x.gq m.ga m.AO*(AH m.x.eq m.ea m.Ao*(AD m.da.b m.da.o (m.due.map Ay.mk) m.da.s*(m.oa.h m.outs*(AM BJ m.outs*(m.ia.h m.ins*(AM BC m.ins*(m.sa.h m.AJ*(AM B3 m.AJ*R))))))))))))) (by show HP.AA b148 0 _*_=_;rw [show AE [Ay.mk (m.due.getD i 0)]=[uN (m.due.getD i 0)]from rfl];ac_rfl) ?_;refine AV (Bf (xs:=lf.map Ay.mk) (ys:=[Ay.mk (m.due.getD i 0)]) (bb:=b148) (oo:=0) (cc:=1) Xp hla.1 hla.2 rfl Bc inferInstance rfl eS Cg) rfl ?_;rintro _ _ ⟨p149,b149,o149,c149,s149,rfl,hs149,hc149,rfl⟩;refine KG ?_
   first
    |exact Au (AD b149 o149 ((lf++[(m.due.getD i 0)]).map Ay.mk) s149*(HP.AA b3 0 (AI r)*(Ab sb m.x*(AH m.x.gq m.ga m.AO*(AH m.x.eq m.ea m.Ao*(AD m.da.b m.da.o (m.due.map Ay.mk) m.da.s*(m.oa.h m.outs*(AM BJ m.outs*(m.ia.h m.ins*(AM BC m.ins*(m.sa.h m.AJ*(AM B3 m.AJ*R)))))))))))) (hE:=pQ) (At (i+1,⟨p149,b149,o149,c149,s149⟩) ⟨h80,by
      rw [HW h80,a_,hLF,show [(m.due.getD i 0)].filter (FY m.AO.floor r.f.ranges)=[(m.due.getD i 0)]from g_ OL,q'];exact⟨hs149,hc149⟩⟩ S' (.cons (by
      rw [HW h80,a_,hLF,show [(m.due.getD i 0)].filter (FY m.AO.floor r.f.ranges)=[(m.due.getD i 0)]from g_ OL]
      refine aA ?_
      rw [b_,b_,f_];rfl) CN) (by
      rw [HW h80,a_,hLF,show [(m.due.getD i 0)].filter (FY m.AO.floor r.f.ranges)=[(m.due.getD i 0)]from g_ OL]))
    |exact At (i+1,la) ⟨h80,by
      rw [HW h80,a_,hLF,show [(m.due.getD i 0)].filter (FY m.AO.floor r.f.ranges)=[]from g' OR,h_];exact hla⟩ S' (.cons (by
      rw [HW h80,a_,hLF,show [(m.due.getD i 0)].filter (FY m.AO.floor r.f.ranges)=[]from g' OR,h_];rfl) CN) (by
      rw [HW h80,a_,hLF,show [(m.due.getD i 0)].filter (FY m.AO.floor r.f.ranges)=[]from g' OR,h_])
  have h139:(!(decide ((m.due.getD i 0)<m.AO.floor)||A8 r.f.ranges (m.due.getD i 0)))=false:=h139
  have h139:(decide ((m.due.getD i 0)<m.AO.floor)||A8 r.f.ranges (m.due.getD i 0))=true:=(by generalize(decide ((m.due.getD i 0)<m.AO.floor)||A8 r.f.ranges (m.due.getD i 0))=bb at h139⊢;cases bb;cases h139;rfl)
  refine Fu ?_
  first
   |exact Au (AD b149 o149 ((lf++[(m.due.getD i 0)]).map Ay.mk) s149*(HP.AA b3 0 (AI r)*(Ab sb m.x*(AH m.x.gq m.ga m.AO*(AH m.x.eq m.ea m.Ao*(AD m.da.b m.da.o (m.due.map Ay.mk) m.da.s*(m.oa.h m.outs*(AM BJ m.outs*(m.ia.h m.ins*(AM BC m.ins*(m.sa.h m.AJ*(AM B3 m.AJ*R)))))))))))) (hE:=pQ) (At (i+1,⟨p149,b149,o149,c149,s149⟩) ⟨h80,by
     rw [HW h80,a_,hLF,show [(m.due.getD i 0)].filter (FY m.AO.floor r.f.ranges)=[(m.due.getD i 0)]from g_ OL,q'];exact⟨hs149,hc149⟩⟩ S' (.cons (by
     rw [HW h80,a_,hLF,show [(m.due.getD i 0)].filter (FY m.AO.floor r.f.ranges)=[(m.due.getD i 0)]from g_ OL]
     refine aA ?_
     rw [b_,b_,f_];rfl) CN) (by
     rw [HW h80,a_,hLF,show [(m.due.getD i 0)].filter (FY m.AO.floor r.f.ranges)=[(m.due.getD i 0)]from g_ OL]))
   |exact At (i+1,la) ⟨h80,by
     rw [HW h80,a_,hLF,show [(m.due.getD i 0)].filter (FY m.AO.floor r.f.ranges)=[]from g' OR,h_];exact hla⟩ S' (.cons (by
     rw [HW h80,a_,hLF,show [(m.due.getD i 0)].filter (FY m.AO.floor r.f.ranges)=[]from g' OR,h_];rfl) CN) (by
     rw [HW h80,a_,hLF,show [(m.due.getD i 0)].filter (FY m.AO.floor r.f.ranges)=[]from g' OR,h_])
 obtain rfl:i=m.due.length:=by have h7:¬i<m.due.length:=h80;omega
 rw [l_]at hLF;refine du ?_
 have eak:m.s.HC r.f=(true,{m.s with due:=lf}):=by
  unfold AK.HC;rw [if_pos hall,←hLF];rfl
 obtain⟨m2,hm2⟩:∃m2:Ad,m2={m with x:={m.x with dv:=.slice la.p lf.length la.c},due:=lf,da:=la}:=Bg
 exact mR [4] (AS sb m2*R) (hE:=⟨fun ww hw=>Sat.right (A:=HP.AA b3 0 (AI r)*AD m.da.b m.da.o (m.due.map Ay.mk) m.da.s) (n_ (by
  congr 1
  rw [DJ,hm2]
  unfold Ae.h
  show _=HP.AA b3 0 (AI r)*AD m.da.b m.da.o (m.due.map Ay.mk) m.da.s*(Ab sb {m.x with dv:=.slice la.p lf.length la.c}*(AH m.x.gq m.ga m.AO*(AH m.x.eq m.ea m.Ao*(AD la.b la.o (lf.map Ay.mk) la.s*(AD m.oa.b m.oa.o m.outs m.oa.s*(AM BJ m.outs*(AD m.ia.b m.ia.o m.ins m.ia.s*(AM BC m.ins*(AD m.sa.b m.sa.o m.AJ m.sa.s*(AM B3 m.AJ*R))))))))))
  ac_rfl) hw)⟩) rfl rfl ⟨m2,by rw [hm2];exact {hm with d:=hla,dv:=rfl},by rw [eak,hm2];rfl,by rw [eak];rfl,rfl⟩
end
section
variable{B:World}
set_option maxHeartbeats 8000000 in
theorem ub(sb t:Nat)(m:Ad)(r:RF)(R:HP)(hm:m.ok)(hi:Ag t m.s)(hf:Bh r.f)(h5:r.f.kind=5):
  Fn Tryz.prog B 129 [ptr sb 0,.agg (AI r).toArray] (AS sb m*R)
   (fun v H'=>∃m':Ad,m'.ok∧m'.s=(m.s.sends r.f).2∧v=.bool (m.s.sends r.f).1∧H'=AS sb m'*R):=by
 refine mI Tryz.func129 ?_;refine Hj ?_;rintro _ _ ⟨b3,rfl,rfl⟩;refine J4 ?_
 obtain⟨j,hst⟩:∃j:Nat,r.f.stream=(j:Int):=⟨_,(Int.toNat_of_nonneg hf.2.2.1).symm⟩
 have hj:j<4:=(by have:=hf.2.2.2.1;omega)
 have hjl:j<m.outs.length:=by rw [Ad.Mv hi];exact hj
 have hoo:=Ad.NV hi hj;have hom:=hm.outs _ GI;have eoj:=m.MZ j hjl
 have hsj:r.f.stream.toNat=j:=by rw [hst,Int.toNat_natCast]
 have hbl:=hoo.len;have hof:=hf.1;have hdsz:r.f.data.data.toList.length=r.f.data.size:=rfl;have hoe:=hf.2.2.2.2.1.2 h5;refine ZX ?_;refine mY ?_;refine JD ?_;refine J8 ?_;refine Qf ?_;refine J5 ?_
 refine BO (α:=Unit) (fun _=>[(48,.bool (decide (((m.outs.getD j AB.AC).o.given=true∨(m.outs.getD j AB.AC).o.data.length<(r.f.offset+r.f.data.size)∨((m.outs.getD j AB.AC).o.data.take (r.f.offset+r.f.data.size)).drop r.f.offset≠r.f.data.data.toList)))),(5,ptr (m.outs.getD j AB.AC).q 0),(6,uN (r.f.offset+r.f.data.size)),(3,ptr b3 0),(0,ptr sb 0)]) (fun _=>Ab sb m.x*(AD m.oa.b m.oa.o m.outs m.oa.s*(HP.AA (m.outs.getD j AB.AC).q 0 (F5z (m.outs.getD j AB.AC))*(AH (m.outs.getD j AB.AC).cq (m.outs.getD j AB.AC).ca (m.outs.getD j AB.AC).o.AF*(BX BJ m.outs j*(HP.AA b3 0 (AI r)*(Et m sb*R))))))) (fun _=>True) ?_ ?_
 ·refine mA 27 27 ?_;refine JF ?_;refine GF 26 rfl (fun hg1=>?_) (fun hg1=>?_)
  ·have g1:=hg1;refine QD ?_;refine JN 12 rfl hg1 ?_;refine JT 13 rfl L8 ?_;refine Jm 14 ?_;refine Pv ?_;refine Ur ?_;refine Ov ?_;refine VY ?_;refine V2 ?_;refine Xh ?_;refine JT 26 rfl PO ?_;refine JD ?_;exact AU () trivial (.cons (congrArg (fun bb=>some (d_ bb)) ((decide_eq_true (.inl g1)).symm)) BR) rfl
  have g1:=hg1;refine aZ ?_;refine JY 9 rfl hg1 Bb ?_;refine JY 10 rfl hg1 Ql ?_;refine JY 11 rfl hg1 EM ?_;refine JY 12 rfl hg1 HU ?_;refine JT 13 rfl Ju ?_;refine Jm 14 ?_;refine DM 36 rfl (fun hg2=>?_) (fun hg2=>?_)
  ·have g2:=hg2;refine YE ?_;refine JN 21 rfl T2 ?_;refine JN 22 rfl T2 ?_;refine JN 23 rfl T2 ?_;refine JN 24 rfl T2 ?_;refine JN 25 rfl T2 ?_;refine JT 26 rfl FR ?_;refine JD ?_;exact AU () trivial (.cons (congrArg (fun bb=>some (d_ bb)) ((decide_eq_true (.inr (.inl g2))).symm)) BR) rfl
  have g2:=hg2;refine JY 15 rfl F2 A4 ?_;refine JY 16 rfl F2 CP ?_;refine JY 17 rfl F2 A7 ?_;refine JY 18 rfl F2 Bb ?_;refine JY 19 rfl F2 A7 ?_;refine JY 20 rfl F2 Bb ?_;refine JY 21 rfl F2 A4 ?_;refine JY 22 rfl F2 (lH rfl rfl rfl (by rw [K4];omega)) ?_;refine JY 23 rfl F2 A7 ?_;refine JY 24 rfl F2 Bb ?_;refine JY 25 rfl F2 (Va rfl rfl) ?_;refine JT 26 rfl FQ ?_;refine JD ?_;exact AU () trivial (.cons (congrArg (fun bb=>some (d_ bb)) (decide_eq_decide.2 ⟨fun h=>.inr (.inr (fun h7=>h (by rw [Xe,h7,Ry]))),fun h=>by rcases h with h|h|h;rw [g1]at h;cases h;exact absurd h g2;exact fun h7=>h (by have h8:=congrArg (fun z=>z.data.toList) h7;rw [Xe]at h8;simpa [BI]using h8)⟩)) BR) rfl
 ·rintro _ _;refine J1 ?_;refine mC (fun h48=>?_) (fun h48=>?_)
  ·refine J7 ?_
   have ese:m.s.sends r.f=(false,m.s):=by
    unfold AK.sends;dsimp only;rw [hsj,eoj];rw [if_pos h48]
   exact bV
  refine J4 ?_;refine BO (α:=Unit) (fun _=>[(76,.bool (decide ((r.f.fin≠((m.outs.getD j AB.AC).o.finished&&decide ((r.f.offset+r.f.data.size)=(m.outs.getD j AB.AC).o.data.length))∨(r.f.data.size=0∧r.f.fin=false))))),(5,ptr (m.outs.getD j AB.AC).q 0),(6,uN (r.f.offset+r.f.data.size)),(3,ptr b3 0),(0,ptr sb 0)]) (fun _=>Ab sb m.x*(AD m.oa.b m.oa.o m.outs m.oa.s*(HP.AA (m.outs.getD j AB.AC).q 0 (F5z (m.outs.getD j AB.AC))*(AH (m.outs.getD j AB.AC).cq (m.outs.getD j AB.AC).ca (m.outs.getD j AB.AC).o.AF*(BX BJ m.outs j*(HP.AA b3 0 (AI r)*(Et m sb*R))))))) (fun _=>True) ?_ ?_
  ·refine mA 28 28 ?_;refine O6 ?_;refine HB ?_;refine Jm 6 ?_;refine GF 55 rfl (fun hg3=>?_) (fun hg3=>?_)
   ·have e1:=hg3;refine JY 7 rfl hg3 A4 ?_;refine JY 8 rfl hg3 A4 ?_;refine JY 9 rfl hg3 CP ?_;refine JY 10 rfl hg3 A7 ?_;refine JY 11 rfl hg3 Bb ?_;refine JY 12 rfl hg3 Ql ?_;refine JY 13 rfl hg3 EM ?_;refine JY 14 rfl hg3 MO ?_;refine JT 15 rfl Jz ?_;refine JT 16 rfl (WU rfl rfl) ?_;refine Jm 17 ?_;refine GF 66 rfl (fun hg4=>?_) (fun hg4=>?_)
    ·have e2:=hg4;refine JN 18 rfl hg4 ?_;refine JN 19 rfl hg4 ?_;refine JN 20 rfl hg4 ?_;refine JN 21 rfl hg4 ?_;refine JN 22 rfl hg4 ?_;refine JU 23 ?_;refine JU 24 ?_;refine JU 25 ?_;refine JN 26 rfl hg4 ?_;refine JT 27 rfl Xk ?_;refine JD ?_
     exact AU () trivial (.cons (congrArg (fun bb=>some (d_ bb)) (by
      apply i_.2
      simp only [decide_eq_true_eq]
      revert e1 e2
      cases r.f.fin<;>cases(m.outs.getD j AB.AC).o.finished<;>by_cases hq1:(r.f.offset+r.f.data.size)=(m.outs.getD j AB.AC).o.data.length<;>by_cases hq2:r.f.data.size=0<;>simp_all)) BR) rfl
    have e2:=hg4;refine JY 18 rfl hg4 A7 ?_;refine JY 19 rfl hg4 Bb ?_;refine JY 20 rfl hg4 IG ?_;refine JY 21 rfl hg4 oM ?_;refine JY 22 rfl hg4 A4 ?_;refine DM 71 rfl (fun hg5=>?_) (fun hg5=>?_)
    ·have e3:=hg5;refine JY 23 rfl T5 A7 ?_;refine JY 24 rfl T5 Bb ?_;refine JY 25 rfl T5 LU ?_;refine JY 26 rfl hg4 OA ?_;refine JT 27 rfl TY ?_;refine JD ?_
     exact AU () trivial (.cons (congrArg (fun bb=>some (d_ bb)) (by
      apply i_.2
      simp only [decide_eq_true_eq]
      revert e1 e2
      cases r.f.fin<;>cases(m.outs.getD j AB.AC).o.finished<;>by_cases hq1:(r.f.offset+r.f.data.size)=(m.outs.getD j AB.AC).o.data.length<;>by_cases hq2:r.f.data.size=0<;>simp_all)) BR) rfl
    have e3:=hg5;refine JN 23 rfl F5 ?_;refine JN 24 rfl F5 ?_;refine JN 25 rfl F5 ?_;refine JY 26 rfl hg4 L6 ?_;refine JT 27 rfl TY ?_;refine JD ?_
    exact AU () trivial (.cons (congrArg (fun bb=>some (d_ bb)) (by
     apply i_.2
     simp only [decide_eq_true_eq]
     revert e1 e2
     cases r.f.fin<;>cases(m.outs.getD j AB.AC).o.finished<;>by_cases hq1:(r.f.offset+r.f.data.size)=(m.outs.getD j AB.AC).o.data.length<;>by_cases hq2:r.f.data.size=0<;>simp_all)) BR) rfl
   have e1:=hg3;refine jW ?_;refine JT 15 rfl IV ?_;refine JT 16 rfl (WU rfl rfl) ?_;refine Jm 17 ?_;refine GF 66 rfl (fun hg6=>?_) (fun hg6=>?_)
   ·have e2:=hg6;refine JN 18 rfl hg6 ?_;refine JN 19 rfl hg6 ?_;refine JN 20 rfl hg6 ?_;refine JN 21 rfl hg6 ?_;refine JN 22 rfl hg6 ?_;refine JU 23 ?_;refine JU 24 ?_;refine JU 25 ?_;refine JN 26 rfl hg6 ?_;refine JT 27 rfl Uf ?_;refine JD ?_
    exact AU () trivial (.cons (congrArg (fun bb=>some (d_ bb)) (by
     apply i_.2
     simp only [decide_eq_true_eq]
     revert e1 e2
     cases r.f.fin<;>cases(m.outs.getD j AB.AC).o.finished<;>by_cases hq1:(r.f.offset+r.f.data.size)=(m.outs.getD j AB.AC).o.data.length<;>by_cases hq2:r.f.data.size=0<;>simp_all)) BR) rfl
   have e2:=hg6;refine JY 18 rfl hg6 A7 ?_;refine JY 19 rfl hg6 Bb ?_;refine JY 20 rfl hg6 IG ?_;refine JY 21 rfl hg6 oM ?_;refine JY 22 rfl hg6 A4 ?_;refine DM 71 rfl (fun hg7=>?_) (fun hg7=>?_)
   ·have e3:=hg7;refine JY 23 rfl T7 A7 ?_;refine JY 24 rfl T7 Bb ?_;refine JY 25 rfl T7 LU ?_;refine JY 26 rfl hg6 (Fs T7 rfl rfl) ?_;refine JT 27 rfl Qz ?_;refine JD ?_
    exact AU () trivial (.cons (congrArg (fun bb=>some (d_ bb)) (by
     apply i_.2
     simp only [decide_eq_true_eq]
     revert e1 e2
     cases r.f.fin<;>cases(m.outs.getD j AB.AC).o.finished<;>by_cases hq1:(r.f.offset+r.f.data.size)=(m.outs.getD j AB.AC).o.data.length<;>by_cases hq2:r.f.data.size=0<;>simp_all)) BR) rfl
   have e3:=hg7;refine JN 23 rfl F7 ?_;refine JN 24 rfl F7 ?_;refine JN 25 rfl F7 ?_;refine JY 26 rfl hg6 (Fe F7 rfl rfl) ?_;refine JT 27 rfl Qz ?_;refine JD ?_
   exact AU () trivial (.cons (congrArg (fun bb=>some (d_ bb)) (by
    apply i_.2
    simp only [decide_eq_true_eq]
    revert e1 e2
    cases r.f.fin<;>cases(m.outs.getD j AB.AC).o.finished<;>by_cases hq1:(r.f.offset+r.f.data.size)=(m.outs.getD j AB.AC).o.data.length<;>by_cases hq2:r.f.data.size=0<;>simp_all)) BR) rfl
  ·rintro _ _;refine J1 ?_;refine mC (fun h76=>?_) (fun h76=>?_)
   ·refine J7 ?_
    have ese:m.s.sends r.f=(false,m.s):=by
     unfold AK.sends;dsimp only;rw [hsj,eoj];rw [if_neg h48,if_pos h76]
    exact bV
   refine By ?_;refine Hv ?_;refine BO (α:=Unit) (fun _=>[(5,ptr (m.outs.getD j AB.AC).q 0),(6,uN (r.f.offset+r.f.data.size)),(3,ptr b3 0),(0,ptr sb 0)]) (fun _=>Ab sb m.x*(AD m.oa.b m.oa.o m.outs m.oa.s*(HP.AA (m.outs.getD j AB.AC).q 0 [.string (BI (m.outs.getD j AB.AC).o.data),ptr (m.outs.getD j AB.AC).cq 0,.bool (m.outs.getD j AB.AC).o.finished,.bool (m.outs.getD j AB.AC).o.given,uN (m.outs.getD j AB.AC).o.code,uN (m.outs.getD j AB.AC).o.end_,uN (max (m.outs.getD j AB.AC).o.high (r.f.offset+r.f.data.size))]*(AH (m.outs.getD j AB.AC).cq (m.outs.getD j AB.AC).ca (m.outs.getD j AB.AC).o.AF*(BX BJ m.outs j*(HP.AA b3 0 (AI r)*(Et m sb*R))))))) (fun _=>True) ?_ ?_
   ·refine mC (fun h82=>?_) (fun h82=>?_)
    ·refine J7 ?_;exact AU () trivial BR (by rw [Nat.max_eq_right (Nat.le_of_lt h82)])
    refine J1 ?_;exact AU () trivial BR (by rw [Nat.max_eq_left (Nat.le_of_not_lt h82)])
   ·rintro _ _;refine J7 ?_
    have ese:m.s.sends r.f=(true,m.s.C0 j {(m.outs.getD j AB.AC).o with high:=max (m.outs.getD j AB.AC).o.high (r.f.offset+r.f.data.size)}):=by
     unfold AK.sends;dsimp only;rw [hsj,eoj];rw [if_neg h48,if_neg h76]
    obtain⟨o2,ho2⟩:∃o2:DF,o2={(m.outs.getD j AB.AC)with o:={(m.outs.getD j AB.AC).o with high:=max (m.outs.getD j AB.AC).o.high (r.f.offset+r.f.data.size)}}:=Bg
    have hok2:o2.ok:=by rw [ho2];exact hom
    exact mR [4] (AS sb (m.C0 j o2)*R) (hE:=⟨fun ww hw=>Sat.right (A:=HP.AA b3 0 (AI r)) (n_ (by
     congr 1
     rw [OW sb m R j hjl o2 (by rw [ho2]),ho2]
     show _=HP.AA b3 0 (AI r)*(Ab sb m.x*(AD m.oa.b m.oa.o m.outs m.oa.s*(HP.AA (m.outs.getD j AB.AC).q 0 [.string (BI (m.outs.getD j AB.AC).o.data),ptr (m.outs.getD j AB.AC).cq 0,.bool (m.outs.getD j AB.AC).o.finished,.bool (m.outs.getD j AB.AC).o.given,uN (m.outs.getD j AB.AC).o.code,uN (m.outs.getD j AB.AC).o.end_,uN (max (m.outs.getD j AB.AC).o.high (r.f.offset+r.f.data.size))]*(AH (m.outs.getD j AB.AC).cq (m.outs.getD j AB.AC).ca (m.outs.getD j AB.AC).o.AF*(BX BJ m.outs j*(Et m sb*R))))))
     ac_rfl) hw)⟩) rfl rfl ⟨m.C0 j o2,hm.C0 hok2,by rw [ese,Ad.jY,ho2],by rw [ese];rfl,rfl⟩
set_option maxHeartbeats 4000000 in
theorem uO(sb t:Nat)(m:Ad)(r:RF)(R:HP)(hm:m.ok)(hi:Ag t m.s)(ht:t<1000000)(hf:Bh r.f)(hrok:r.ok)(hr:AW B R r.b r.o r.f.ranges)(hrl:r.f.ranges.length<1000000000000):
  Fn Tryz.prog B 87 [ptr sb 0,.agg (AI r).toArray] (AS sb m*R)
   (fun v H'=>∃m':Ad,m'.ok∧m'.s=(m.s.may r.f).2∧v=.bool (m.s.may r.f).1∧H'=AS sb m'*R):=by
 refine mI Tryz.func87 ?_;refine Hj ?_;rintro _ _ ⟨b3,rfl,rfl⟩;refine EP ?_;refine JL Sh ?_;refine J3 ?_;refine mC (fun k3=>?_) (fun k3=>?_)
 ·refine J3 ?_;refine JL N6 ?_;refine Ux ?_;refine mE rfl (pa sb t m r _ hm hi Cg hrok inferInstance hrl) ?_;rintro _ _ ⟨m2,hm2,hs2,rfl,rfl⟩;refine J6 ?_
  have em:m.s.may r.f=m.s.HC r.f:=by unfold AK.may;rw [if_pos k3]
  exact ZB
 refine Qq ?_;refine mC (fun k4=>?_) (fun k4=>?_)
 ·skip
  obtain⟨j,hst⟩:∃j:Nat,r.f.stream=(j:Int):=⟨_,(Int.toNat_of_nonneg hf.2.2.1).symm⟩
  have hj:j<4:=(by have:=hf.2.2.2.1;omega)
  have hjl:j<m.outs.length:=by rw [Ad.Mv hi];exact hj
  have hoo:=Ad.NV hi hj;have hom:=hm.outs _ GI;have eoj:=m.MZ j hjl
  have hsj:r.f.stream.toNat=j:=by rw [hst,Int.toNat_natCast]
  have hbl:=hoo.len;have hof:=hf.1;have hdsz:r.f.data.data.toList.length=r.f.data.size:=rfl;refine ZX ?_;refine J1 ?_;refine mY ?_;refine C3 ?_;refine BO (α:=Unit) (fun _=>[(4,.bool (decide (((m.outs.getD j AB.AC).o.given=true∧r.f.offset=(m.outs.getD j AB.AC).o.end_∧r.f.code=(m.outs.getD j AB.AC).o.code))))]) (fun _=>Ab sb m.x*(AD m.oa.b m.oa.o m.outs m.oa.s*(HP.AA (m.outs.getD j AB.AC).q 0 (F5z (m.outs.getD j AB.AC))*(AH (m.outs.getD j AB.AC).cq (m.outs.getD j AB.AC).ca (m.outs.getD j AB.AC).o.AF*(BX BJ m.outs j*(HP.AA b3 0 (AI r)*(Et m sb*R))))))) (fun _=>True) ?_ ?_
  ·refine mA 23 23 ?_;refine JF ?_;refine GF 27 rfl (fun hg1=>?_) (fun hg1=>?_)
   ·have g1:=hg1;refine JY 5 rfl hg1 A7 ?_;refine JY 6 rfl hg1 Bb ?_;refine XI ?_;refine JY 10 rfl hg1 Bb ?_;refine JY 11 rfl hg1 MO ?_;refine JT 12 rfl L8 ?_;refine Jm 13 ?_;refine DM 36 rfl (fun hg2=>?_) (fun hg2=>?_)
    ·have g2:=hg2;refine JY 14 rfl T2 A7 ?_;refine JY 15 rfl T2 Bb ?_;refine JY 16 rfl T2 A4 ?_;refine JY 17 rfl T2 CP ?_;refine JY 18 rfl T2 A7 ?_;refine JY 19 rfl T2 Bb ?_;refine JY 20 rfl T2 MO ?_;refine JT 21 rfl FR ?_;refine Ja 22 ?_;refine JD ?_;exact AU () trivial (.cons (congrArg (fun bb=>some (d_ bb)) (decide_eq_decide.2 ⟨fun h=>⟨g1,g2,h⟩,fun h=>h.2.2⟩)) (.nil)) rfl
    have g2:=hg2;refine JN 14 rfl F2 ?_;refine V6 ?_;refine JT 21 rfl FQ ?_;refine Ja 22 ?_;refine JD ?_;exact AU () trivial (.cons r6 (.nil)) rfl
   have g1:=hg1;refine QD ?_;refine JT 12 rfl Ju ?_;refine Jm 13 ?_;refine Wb ?_;refine Pv ?_;refine JT 21 rfl GU ?_;refine Ja 22 ?_;refine JD ?_;exact AU () trivial (.cons (congrArg (fun bb=>some (d_ bb)) ((decide_eq_false (fun h=>by rw [g1]at h;cases h.1)).symm)) (.nil)) rfl
  ·rintro _ _;refine J4 ?_
   have em:m.s.may r.f=(decide (((m.outs.getD j AB.AC).o.given=true∧r.f.offset=(m.outs.getD j AB.AC).o.end_∧r.f.code=(m.outs.getD j AB.AC).o.code)),m.s):=by unfold AK.may;rw [if_neg k3,if_pos k4,hsj,eoj]
   exact mR [4] (AS sb m*R) (hE:=oT) rfl rfl ⟨m,hm,by rw [em],UU,rfl⟩
 refine SI ?_;refine mC (fun k5=>?_) (fun k5=>?_)
 ·refine J3 ?_;refine JL N6 ?_;refine Ux ?_;refine mE rfl (ub sb t m r _ hm hi hf k5) ?_;rintro _ _ ⟨m2,hm2,hs2,rfl,rfl⟩;refine J6 ?_
  have em:m.s.may r.f=m.s.sends r.f:=by unfold AK.may;rw [if_neg k3,if_neg k4,if_pos k5]
  exact ZB
 refine J9 ?_
 have em:m.s.may r.f=(false,m.s):=by unfold AK.may;rw [if_neg k3,if_neg k4,if_neg k5]
 exact mR [4] (AS sb m*R) rfl rfl ⟨m,hm,by rw [em],UU,rfl⟩
theorem sO(sb t:Nat)(m:Ad)(d:ByteArray)(R:HP)(hm:m.ok)(hi:Ag t m.s)(ht:t<900000)(hd:d.size<90000000)(ho:(m.s.opened d.data.toList).1=none):
  Fn Tryz.prog B 86 [ptr sb 0,.string d] (AS sb m*R) (fun v H'=>∃(m':Ad) (x:Value),v=.tuple #[x,.bool false]∧m'.ok∧m'.s=(m.s.opened d.data.toList).2∧H'=AS sb m'*R):=by
 refine(ZH sb t m d R hm hi ht hd).mono ?_;rintro v H' ⟨m',h1,h2,h3⟩;rw [ho]at h3;obtain⟨⟨x,rfl⟩,rfl⟩:=h3;exact⟨m',x,rfl,h1,h2,rfl⟩
theorem iP(sb t:Nat)(m:Ad)(d:ByteArray)(R:HP)(hm:m.ok)(hi:Ag t m.s)(ht:t<900000)(hd:d.size<90000000)(l:List AZ)(ho:(m.s.opened d.data.toList).1=some l):
  Fn Tryz.prog B 86 [ptr sb 0,.string d] (AS sb m*R) (fun v H'=>∃(m':Ad) (q:Option Addr) (b' o' c':Nat) (s':List Value) (rs:List RF),v=.tuple #[.slice q l.length c',.bool true]∧m'.ok∧m'.s=(m.s.opened d.data.toList).2∧
   Sl q b' o' l.length c'∧l.length*7+s'.length=c'*7∧rs.map RF.f=l∧(∀r∈rs,r.ok∧r.own)∧H'=AD b' o' rs s'*(A0 rs*(AS sb m'*R))):=by
 refine(ZH sb t m d R hm hi ht hd).mono ?_;rintro v H' ⟨m',h1,h2,h3⟩;rw [ho]at h3;obtain⟨q,b',o',c',s',rs,rfl,h4,h5,h6,h7,rfl⟩:=h3;exact⟨m',q,b',o',c',s',rs,rfl,h1,h2,h4,h5,h6,h7,rfl⟩
theorem jx{s:AK}{b:List UInt8}{l:List AZ}(h:(s.opened b).1=some l):∀f∈l,f.ranges.length≤300:=by
 unfold AK.opened at h;split at h
 ·cases h
 ·rename_i number p hop;split at h
  ·cases h
  ·split at h
   ·cases h
   ·rename_i fs hdec;dsimp only at h;split at h
    ·cases h;intro f hf;have h1:=(N1 hdec).2 f hf;have h2:=Js hop;omega
    ·cases h
set_option maxHeartbeats 4000000 in
theorem n7(sb t:Nat)(m:Ad)(d:ByteArray)(R:HP)(hm:m.ok)(hi:Ag t m.s)(ht:t<800000)(hd:d.size<90000000)(hn:m.s.next+1≤20*t)(ho:(m.s.opened d.data.toList).1=none):
  Fn Tryz.prog B 53 [ptr sb 0,.string d] (AS sb m*R)
   (fun v H'=>∃m':Ad,m'.ok∧m'.s=(m.s.emit d.data.toList).2∧v=.bool (m.s.emit d.data.toList).1∧H'=AS sb m'*R):=by
 refine sV ?_;refine mE rfl (sO sb t m d R hm hi Cg hd ho) ?_;rintro _ _ ⟨m2,x16,rfl,hm2,hs2,rfl⟩;refine BV ?_;refine KS ?_;refine Gv ?_;refine J7 ?_
 have eem:m.s.emit d.data.toList=(false,(m.s.opened d.data.toList).2):=by
  unfold AK.emit
  rcases e:m.s.opened d.data.toList with⟨o,s2⟩
  rw [e]at ho;dsimp only at ho;subst ho;rfl
 exact mR [4] (AS sb m2*R) rfl rfl ⟨m2,hm2,by rw [eem];exact hs2,by rw [eem];rfl,rfl⟩
set_option maxHeartbeats 4000000 in
theorem R_(sb t:Nat)(m:Ad)(d:ByteArray)(R:HP)(hm:m.ok)(hi:Ag t m.s)(ht:t<800000)(hd:d.size<90000000)(hn:m.s.next+1≤20*t)(l:List AZ)(ho:(m.s.opened d.data.toList).1=some l):
  Fn Tryz.prog B 53 [ptr sb 0,.string d] (AS sb m*R)
   (fun v H'=>∃m':Ad,m'.ok∧m'.s=(m.s.emit d.data.toList).2∧v=.bool (m.s.emit d.data.toList).1∧H'=AS sb m'*R):=by
 refine sV ?_;refine mE rfl (iP sb t m d R hm hi Cg hd l ho) ?_;rintro _ _ ⟨m2,q13,b13,o13,c13,s13,rs,rfl,hm2,hs2,hs13,hc13,hmap,hro,rfl⟩;have hi2:=(hi.opened d.data.toList hn).1;rw [←hs2]at hi2;have hnx2:=(hi.opened d.data.toList hn).2;obtain⟨hos,hl300,hokl⟩:=pG ho;have hrng:=jx ho
 have hrl:rs.length=l.length:=by rw [←hmap,f_]
 have eem:m.s.emit d.data.toList=if(m2.s.Cf l).1 then(true,{(m2.s.Cf l).2 with AJ:=(m2.s.Cf l).2.AJ++[⟨m.s.next,l⟩]})else(false,(m2.s.Cf l).2):=by
  unfold AK.emit;rw [hs2]
  rcases e:m.s.opened d.data.toList with⟨o,s2⟩
  rw [e]at ho;dsimp only at ho;subst ho;rfl
 refine BV ?_;refine Eb ?_;refine JJ ?_;refine MH ?_;refine BL (α:=Nat×Ad) (fun z=>[(8,iN z.1),(5,uN m.x.next),(6,.slice q13 l.length c13),(0,ptr sb 0)]) (fun z=>AD b13 o13 rs s13*(A0 rs*(AS sb z.2*R))) (fun z=>z.1≤l.length∧z.2.ok∧Ag t z.2.s∧z.2.s.Cf (l.drop z.1)=m2.s.Cf l) (fun z=>l.length-z.1) (0,m2) ⟨j' _,hm2,hi2,rfl⟩ BR rfl ?_;rintro⟨i,mi⟩ ⟨q1,q2,q3,q4⟩;dsimp only at q1 q2 q3 q4⊢;refine J9 ?_;refine mC (fun h24=>?_) (fun h24=>?_)
 ·have h24:i<l.length:=h24;have hgd:rs.getD i AB.AC∈rs:=Ex Cg
  have hff:(rs.getD i AB.AC).f∈l:=by rw [←hmap];exact QF
  have howr:=O7 (B:=B) hgd;have hokf:=hokl _ hff;have hrg:=hrng _ hff
  have FF:l.drop i=(rs.getD i AB.AC).f::l.drop (i+1):=by
   rw [o_ h24];congr 1
   have h8:l[i]?=(rs.map RF.f)[i]?:=by rw [hmap]
   rw [c_ h24,p_,c_ Cg]at h8;rw [e_,c_ Cg];simpa using h8
  refine J9 ?_;refine JL (FT rfl rfl hs13 h24 rfl) ?_;refine JL Q' ?_;refine Aw (H':=AS sb mi*(AD b13 o13 rs s13*(A0 rs*(R)))) Cm ?_;refine mE rfl (uO sb t mi (rs.getD i AB.AC) _ q2 q3 Cg hokf (hro _ hgd).1 inferInstance Cg) ?_;rintro _ _ ⟨m3,hm3,hs3,rfl,rfl⟩
  have hi3:Ag t m3.s:=by rw [hs3];exact q3.may _ (by have h7:=hokf.2.2.1;have h8:=hokf.2.2.2.1;omega)
  refine J6 ?_;refine Eb ?_;refine mc (fun h34=>?_) (fun h34=>?_)
  ·have h34:(!(mi.s.may (rs.getD i AB.AC).f).1)=true:=h34
   have h34:(mi.s.may (rs.getD i AB.AC).f).1=false:=(by generalize(mi.s.may (rs.getD i AB.AC).f).1=bb at h34⊢;cases bb;rfl;cases h34)
   refine BV ?_
   have hml:m2.s.Cf l=(false,(mi.s.may (rs.getD i AB.AC).f).2):=by rw [←q4,FF,AK.Cf,if_neg (by rw [h34];simp)]
   exact mR [4] (AS sb m3*R) (hE:=⟨fun ww hw=>Sat.right (A:=AD b13 o13 rs s13*A0 rs) (n_ Cv hw)⟩) rfl rfl ⟨m3,hm3,by rw [eem,hml];exact hs3,by rw [eem,hml];rfl,rfl⟩
  have h34:(!(mi.s.may (rs.getD i AB.AC).f).1)=false:=h34
  have h34:(mi.s.may (rs.getD i AB.AC).f).1=true:=(by generalize(mi.s.may (rs.getD i AB.AC).f).1=bb at h34⊢;cases bb;cases h34;rfl)
  refine Fu ?_;exact Au (AD b13 o13 rs s13*(A0 rs*(AS sb m3*R))) (hE:=QN) (At (i+1,m3) ⟨h24,hm3,hi3,by rw [←q4,FF,AK.Cf,if_pos h34,hs3]⟩ Lp BR rfl)
 obtain rfl:i=l.length:=by have h7:¬i<l.length:=h24;omega
 rw [List.drop_length]at q4;refine J6 ?_
 have hml:m2.s.Cf l=(true,mi.s):=by rw [←q4];rfl
 refine Ap (H':=AD b13 o13 rs s13*(A0 rs*(Ab sb mi.x*(AH mi.x.gq mi.ga mi.AO*(AH mi.x.eq mi.ea mi.Ao*(mi.da.h (mi.due.map Ay.mk)*(mi.oa.h mi.outs*(AM BJ mi.outs*(mi.ia.h mi.ins*(AM BC mi.ins*(AD mi.sa.b mi.sa.o mi.AJ mi.sa.s*(AM B3 mi.AJ*R)))))))))))) Qh ?_
 have hsl:mi.AJ.length≤20000000:=(by have h7:=q3.sl;have h8:=q3.nx;have h9:mi.s.AJ.length=mi.AJ.length:=f_ ..;omega)
 refine J5 ?_;refine JL (Br D7 q2.sv) ?_;refine J2 ?_;refine JL (Br (v':=.agg (Rj (⟨m.x.next,rs,⟨q13,b13,o13,c13,s13⟩⟩:DV)).toArray) H7 (by show xx _=xx [uN m.x.next,.slice q13 rs.length c13].toArray;rw [hrl])) ?_;refine AV (E4 (cs:=Rj (⟨m.x.next,rs,⟨q13,b13,o13,c13,s13⟩⟩:DV)) rfl Cr rfl rfl) rfl ?_;rintro _ _ ⟨b43,rfl,rfl⟩;refine Aw (H':=AD mi.sa.b mi.sa.o mi.AJ mi.sa.s*(HP.AA b43 0 (AE [(⟨m.x.next,rs,⟨q13,b13,o13,c13,s13⟩⟩:DV)])*(AD b13 o13 rs s13*(A0 rs*(Ab sb mi.x*(AH mi.x.gq mi.ga mi.AO*(AH mi.x.eq mi.ea mi.Ao*(mi.da.h (mi.due.map Ay.mk)*(mi.oa.h mi.outs*(AM BJ mi.outs*(mi.ia.h mi.ins*(AM BC mi.ins*(AM B3 mi.AJ*R))))))))))))) (by show HP.AA b43 0 _*_=_;rw [show AE [(⟨m.x.next,rs,⟨q13,b13,o13,c13,s13⟩⟩:DV)]=Rj (⟨m.x.next,rs,⟨q13,b13,o13,c13,s13⟩⟩:DV)from h_ _];ac_rfl) ?_;refine AV (Bf (ys:=[(⟨m.x.next,rs,⟨q13,b13,o13,c13,s13⟩⟩:DV)]) (bb:=b43) (oo:=0) (cc:=1) rfl q2.sa.1 q2.sa.2 rfl Bc inferInstance rfl Cs Cg) rfl ?_;rintro _ _ ⟨p44,b44,o44,c44,s44,rfl,hs44,hc44,rfl⟩;refine BV ?_
 obtain⟨m4,hm4⟩:∃m4:Ad,m4={mi with x:={mi.x with sv:=.slice p44 (mi.AJ++[(⟨m.x.next,rs,⟨q13,b13,o13,c13,s13⟩⟩:DV)]).length c44},AJ:=mi.AJ++[(⟨m.x.next,rs,⟨q13,b13,o13,c13,s13⟩⟩:DV)],sa:=⟨p44,b44,o44,c44,s44⟩}:=Bg
 have hok4:m4.ok:=by
  rw [hm4];refine {q2 with sa:=⟨hs44,hc44⟩,AJ:=fun p hp=>?_,sv:=rfl};rcases m_.1 hp with hp|hp
  ·exact q2.AJ p hp
  ·rw [j_.1 hp];show(⟨q13,b13,o13,c13,s13⟩:Ae).ok rs;unfold Ae.ok;rw [hrl];exact⟨hs13,hc13⟩
 have hs4:m4.s={mi.s with AJ:=mi.s.AJ++[⟨m.s.next,l⟩]}:=by
  rw [hm4];show(⟨mi.x.AY,mi.x.AG,mi.x.ks,mi.x.first,mi.x.closed,mi.x.code,mi.x.said,mi.x.next,mi.AO,mi.Ao,mi.due,mi.outs.map (·.o),mi.ins.map (·.x),(mi.AJ++[(⟨m.x.next,rs,⟨q13,b13,o13,c13,s13⟩⟩:DV)]).map DV.s⟩:AK)=⟨mi.x.AY,mi.x.AG,mi.x.ks,mi.x.first,mi.x.closed,mi.x.code,mi.x.said,mi.x.next,mi.AO,mi.Ao,mi.due,mi.outs.map (·.o),mi.ins.map (·.x),mi.AJ.map DV.s++[⟨m.x.next,l⟩]⟩;rw [q'];show(⟨_,_,_,_,_,_,_,_,_,_,_,_,_,mi.AJ.map DV.s++[⟨m.x.next,rs.map RF.f⟩]⟩:AK)=_;rw [hmap]
 exact mR [4] (AS sb m4*R) (hE:=⟨fun ww hw=>Sat.right (A:=HP.AA b43 0 (AE [(⟨m.x.next,rs,⟨q13,b13,o13,c13,s13⟩⟩:DV)])*A0 rs) (n_ (by
  congr 1
  rw [DJ,hm4]
  dsimp only
  rw [Kf,Fx,FG]
  show _=HP.AA b43 0 (AE [(⟨m.x.next,rs,⟨q13,b13,o13,c13,s13⟩⟩:DV)])*A0 rs*(Ab sb {mi.x with sv:=.slice p44 (mi.AJ++[(⟨m.x.next,rs,⟨q13,b13,o13,c13,s13⟩⟩:DV)]).length c44}*(AH mi.x.gq mi.ga mi.AO*(AH mi.x.eq mi.ea mi.Ao*(mi.da.h (mi.due.map Ay.mk)*(mi.oa.h mi.outs*(AM BJ mi.outs*(mi.ia.h mi.ins*(AM BC mi.ins*(AD b44 o44 (mi.AJ++[(⟨m.x.next,rs,⟨q13,b13,o13,c13,s13⟩⟩:DV)]) s44*(AM B3 mi.AJ*(AD b13 o13 rs s13*HP.BQ)*R))))))))))
  rw [HP.Gb]
  ac_rfl) hw)⟩) rfl rfl ⟨m4,hok4,by rw [eem,hml];exact hs4,by rw [eem,hml];rfl,rfl⟩
theorem qa(sb t:Nat)(m:Ad)(d:ByteArray)(R:HP)(hm:m.ok)(hi:Ag t m.s)(ht:t<800000)(hd:d.size<90000000)(hn:m.s.next+1≤20*t):
  Fn Tryz.prog B 53 [ptr sb 0,.string d] (AS sb m*R)
   (fun v H'=>∃m':Ad,m'.ok∧m'.s=(m.s.emit d.data.toList).2∧v=.bool (m.s.emit d.data.toList).1∧H'=AS sb m'*R):=by
 cases ho:(m.s.opened d.data.toList).1 with
 |none=>exact n7 sb t m d R hm hi ht hd hn ho
 |some l=>exact R_ sb t m d R hm hi ht hd hn l ho
end
section
variable{B:World}
def DH(l:List ByteArray):List (List UInt8):=l.map fun b=>b.data.toList
theorem S7{l:List ByteArray}{i:Nat}(h:i<l.length):(DH l).drop i=(l.getD i AB.AC).data.toList::(DH l).drop (i+1):=by
 unfold DH;rw [←xu,←xu,o_ h,List.map_cons,e_,c_ h];rfl
set_option maxHeartbeats 4000000 in
theorem d8(sb t:Nat)(m:Ad)(l:List ByteArray)(p:Option Addr)(b o c:Nat)(R:HP)(hm:m.ok)(hi:Ag t m.s)(ht:t<900000)(hs:Sl p b o l.length c)(hr:AW B R b o l)(hd:(l.getD 0 AB.AC).size<90000000)(hn:m.s.next+1≤20*t)(ho:((m.CF {m.x with said:=true}).s.opened (l.getD 0 AB.AC).data.toList).1=none):
  Fn Tryz.prog B 52 [ptr sb 0,.slice p l.length c] (AS sb m*R)
   (fun v H'=>∃m':Ad,m'.ok∧m'.s=(m.s.CT (DH l)).2∧v=.bool (m.s.CT (DH l)).1∧H'=AS sb m'*R):=by
 refine mI Tryz.func52 ?_;refine Lo ?_
 have hi1:Ag t (m.CF {m.x with said:=true}).s:={hi with}
 refine FL ?_;refine mc (fun h10=>?_) (fun h10=>?_)
 ·refine J4 ?_;refine JL (CV (i:=l.length) (j:=0) rfl rfl) ?_;refine J5 ?_
  have efa:m.s.CT (DH l)=(decide (l.length=0),m.s):=by
   unfold AK.CT;rw [if_pos (show m.s.said=true from h10)];unfold DH;rw [f_]
  exact hK
 refine Iw ?_;refine JL (GP (i:=l.length) (j:=1) rfl rfl) ?_;refine J2 ?_;refine mC (fun h19=>?_) (fun h19=>?_)
 ·refine J7 ?_
  have efa:m.s.CT (DH l)=(false,(m.CF {m.x with said:=true}).s):=by
   unfold AK.CT;rw [if_neg SB,if_pos R4];rfl
  exact ZM
 have hl1:l.length=1:=by omega
 refine qH ?_;refine mE rfl (sO sb t (m.CF {m.x with said:=true}) (l.getD 0 AB.AC) R {hm with} hi1 ht hd ho) ?_;rintro _ _ ⟨m2,x16,rfl,hm2,hs2,rfl⟩;refine J8 ?_;refine mA 25 25 ?_;refine EQ ?_;refine DU 2 rfl Ch rfl rfl rfl rfl ?_;refine DU 3 rfl Ch rfl rfl rfl rfl ?_;refine DU 4 rfl Ch rfl rfl rfl rfl ?_;refine JT 5 rfl GU ?_;refine Jm 6 ?_;refine DU 7 rfl Ch rfl rfl rfl rfl ?_;refine DU 8 rfl Ch rfl rfl rfl rfl ?_;refine DU 9 rfl Ch rfl rfl rfl rfl ?_;refine DU 10 rfl Ch rfl rfl rfl rfl ?_;refine qY ?_;refine JT 12 rfl GU ?_;refine Jm 13 ?_;refine Ro ?_
 refine Ov ?_;refine JT 23 rfl GU ?_;refine Ja 24 ?_;refine C3 ?_
 have efa:m.s.CT (DH l)=(false,((m.CF {m.x with said:=true}).s.opened (l.getD 0 AB.AC).data.toList).2):=by
  unfold AK.CT;rw [if_neg SB,if_neg R4]
  have e0:({m.s with said:=true}:AK).opened ((DH l).getD 0 [])=(m.CF {m.x with said:=true}).s.opened (l.getD 0 AB.AC).data.toList:=by
   have h7:=S7 (l:=l) (i:=0) Cg;rw [w_]at h7;rw [h7];rfl
  rw [e0]
  rcases e:((m.CF {m.x with said:=true}).s.opened (l.getD 0 AB.AC).data.toList)with⟨o,s2⟩
  rw [e]at ho;dsimp only at ho;subst ho;rfl
 exact mR [4] (AS sb m2*R) rfl rfl ⟨m2,hm2,by rw [efa];exact hs2,W6,rfl⟩
set_option maxHeartbeats 4000000 in
theorem vY(sb t:Nat)(m:Ad)(l:List ByteArray)(p:Option Addr)(b o c:Nat)(R:HP)(hm:m.ok)(hi:Ag t m.s)(ht:t<900000)(hs:Sl p b o l.length c)(hr:AW B R b o l)(hd:(l.getD 0 AB.AC).size<90000000)(hn:m.s.next+1≤20*t)(fs:List AZ)(ho:((m.CF {m.x with said:=true}).s.opened (l.getD 0 AB.AC).data.toList).1=some fs):
  Fn Tryz.prog B 52 [ptr sb 0,.slice p l.length c] (AS sb m*R)
   (fun v H'=>∃m':Ad,m'.ok∧m'.s=(m.s.CT (DH l)).2∧v=.bool (m.s.CT (DH l)).1∧H'=AS sb m'*R):=by
 refine mI Tryz.func52 ?_;refine Lo ?_
 have hi1:Ag t (m.CF {m.x with said:=true}).s:={hi with}
 refine FL ?_;refine mc (fun h10=>?_) (fun h10=>?_)
 ·refine J4 ?_;refine JL (CV (i:=l.length) (j:=0) rfl rfl) ?_;refine J5 ?_
  have efa:m.s.CT (DH l)=(decide (l.length=0),m.s):=by
   unfold AK.CT;rw [if_pos (show m.s.said=true from h10)];unfold DH;rw [f_]
  exact hK
 refine Iw ?_;refine JL (GP (i:=l.length) (j:=1) rfl rfl) ?_;refine J2 ?_;refine mC (fun h19=>?_) (fun h19=>?_)
 ·refine J7 ?_
  have efa:m.s.CT (DH l)=(false,(m.CF {m.x with said:=true}).s):=by
   unfold AK.CT;rw [if_neg SB,if_pos R4];rfl
  exact ZM
 have hl1:l.length=1:=by omega
 refine qH ?_;refine mE rfl (iP sb t (m.CF {m.x with said:=true}) (l.getD 0 AB.AC) R {hm with} hi1 ht hd fs ho) ?_;rintro _ _ ⟨m2,q13,b13,o13,c13,s13,rs,rfl,hm2,hs2,hs13,hc13,hmap,hro,rfl⟩
 have hrl:rs.length=fs.length:=by rw [←hmap,f_]
 have hfd:∀h:0<fs.length,fs.getD 0 (CY 0)=(rs.getD 0 AB.AC).f:=by
  intro h;rw [←hmap];simp only [e_,p_,c_ XA];rfl
 refine J8 ?_;refine Ap (H':=AD b13 o13 rs s13*(A0 rs*(Ab sb m2.x*(AH m2.x.gq m2.ga m2.AO*(AH m2.x.eq m2.ea m2.Ao*(m2.da.h (m2.due.map Ay.mk)*(m2.oa.h m2.outs*(AM BJ m2.outs*(m2.ia.h m2.ins*(AM BC m2.ins*(m2.sa.h m2.AJ*(AM B3 m2.AJ*R)))))))))))) Qh ?_
 have efa:m.s.CT (DH l)=(decide (fs.length=1∧(fs.getD 0 (CY 0)).kind=6∧(fs.getD 0 (CY 0)).code=m2.x.code),m2.s):=by
  unfold AK.CT;rw [if_neg SB,if_neg R4]
  have e0:({m.s with said:=true}:AK).opened ((DH l).getD 0 [])=(m.CF {m.x with said:=true}).s.opened (l.getD 0 AB.AC).data.toList:=by
   have h7:=S7 (l:=l) (i:=0) Cg;rw [w_]at h7;rw [h7];rfl
  rw [e0]
  rcases e:((m.CF {m.x with said:=true}).s.opened (l.getD 0 AB.AC).data.toList)with⟨o,s2⟩
  rw [e]at ho hs2;dsimp only at ho hs2;subst ho;dsimp only;rw [←hs2];rfl
 refine mA 25 25 ?_;refine EQ ?_;refine Is 2 rfl Ch rfl rfl rfl rfl A4 ?_;refine Is 3 rfl Ch rfl rfl rfl rfl Dm ?_;refine Is 4 rfl Ch rfl rfl rfl rfl (CV (i:=fs.length) (j:=1) rfl rfl) ?_;refine JT 5 rfl PO ?_;refine Jm 6 ?_;refine DM 34 rfl (fun hg1=>?_) (fun hg1=>?_)
 ·have g1:=hg1;refine JY 7 rfl T1 A4 ?_;refine JY 8 rfl T1 sB ?_;refine JY 9 rfl T1 A7 ?_;refine JY 10 rfl T1 (DT (f:=0) (xs:=rs) rfl inferInstance rfl XA) ?_;refine JY 11 rfl T1 (CI (i:=(rs.getD 0 AB.AC).f.kind) (j:=6) rfl rfl) ?_;refine JT 12 rfl LC ?_;refine Jm 13 ?_;refine DM 41 rfl (fun hg2=>?_) (fun hg2=>?_)
  ·have g2:=hg2;refine JY 14 rfl T2 A4 ?_;refine JY 15 rfl T2 sB ?_;refine JY 16 rfl T2 A7 ?_;refine JY 17 rfl T2 (DT (f:=3) (xs:=rs) rfl inferInstance rfl XA) ?_;refine JY 18 rfl T2 A4 ?_;refine JY 19 rfl T2 CP ?_;refine JY 20 rfl T2 A7 ?_;refine JY 21 rfl T2 Bb ?_;refine JY 22 rfl T2 (CV (i:=(rs.getD 0 AB.AC).f.code) (j:=m2.x.code) rfl rfl) ?_;refine JT 23 rfl FR ?_;refine Ja 24 ?_;refine C3 ?_
   have ebb:=(decide_eq_decide.2 ⟨fun h=>⟨g1,by rw [hfd Cg];exact g2,by rw [hfd Cg];exact h⟩,fun h=>by have h7:=h.2.2;rw [hfd Cg]at h7;exact h7⟩:decide ((rs.getD 0 AB.AC).f.code=m2.x.code)=decide (fs.length=1∧(fs.getD 0 (CY 0)).kind=6∧(fs.getD 0 (CY 0)).code=m2.x.code))
   exact X0
  have g2:=hg2;refine JN 14 rfl F2 ?_;refine V6 ?_;refine JN 21 rfl F2 ?_;refine JN 22 rfl F2 ?_;refine JT 23 rfl FQ ?_;refine Ja 24 ?_;refine C3 ?_;have ebb:=(decide_eq_false (fun h=>g2 (by have h7:=h.2.1;rw [hfd Cg]at h7;exact h7)):decide (fs.length=1∧(fs.getD 0 (CY 0)).kind=6∧(fs.getD 0 (CY 0)).code=m2.x.code)=false).symm;exact X0
 have g1:=hg1;refine cW ?_;refine JN 11 rfl F1 ?_;refine JT 12 rfl Jl ?_;refine Jm 13 ?_;refine Ro ?_;refine Ov ?_;refine JT 23 rfl GU ?_;refine Ja 24 ?_;refine C3 ?_;have ebb:=(decide_eq_false (fun h=>g1 h.1):decide (fs.length=1∧(fs.getD 0 (CY 0)).kind=6∧(fs.getD 0 (CY 0)).code=m2.x.code)=false).symm;exact X0
theorem zZ(sb t:Nat)(m:Ad)(l:List ByteArray)(p:Option Addr)(b o c:Nat)(R:HP)(hm:m.ok)(hi:Ag t m.s)(ht:t<900000)(hs:Sl p b o l.length c)(hr:AW B R b o l)(hd:(l.getD 0 AB.AC).size<90000000)(hn:m.s.next+1≤20*t):
  Fn Tryz.prog B 52 [ptr sb 0,.slice p l.length c] (AS sb m*R)
   (fun v H'=>∃m':Ad,m'.ok∧m'.s=(m.s.CT (DH l)).2∧v=.bool (m.s.CT (DH l)).1∧H'=AS sb m'*R):=by
 cases ho:((m.CF {m.x with said:=true}).s.opened (l.getD 0 AB.AC).data.toList).1 with
 |none=>exact d8 sb t m l p b o c R hm hi ht hs hr hd hn ho
 |some fs=>exact vY sb t m l p b o c R hm hi ht hs hr hd hn fs ho
set_option maxHeartbeats 8000000 in
theorem pw(sb t:Nat)(m:Ad)(l:List ByteArray)(p:Option Addr)(b o c:Nat)(R:HP)(hm:m.ok)(hi:Ag t m.s)(ht:t<700000)(hl:l.length≤20)(hs:Sl p b o l.length c)(hr:AW B R b o l)(hd:∀d∈l,d.size<90000000):
  Fn Tryz.prog B 22 [ptr sb 0,.slice p l.length c] (AS sb m*R)
   (fun v H'=>∃m':Ad,m'.ok∧m'.s=(m.s.E3 (DH l)).2∧v=.bool (m.s.E3 (DH l)).1∧H'=AS sb m'*R):=by
 refine mI Tryz.func22 ?_;refine Lo ?_;have him:Ag (t+1) m.s:=hi.mono De;have hnx:=hi.nx;refine CR ?_;refine JL (GP (i:=m.x.closed) (j:=0) rfl rfl) ?_;refine J2 ?_;refine mC (fun h13=>?_) (fun h13=>?_)
 ·refine J4 ?_;refine Aw (DJ sb m R).symm ?_;refine mE rfl (zZ sb (t+1) m l p b o c R hm him Cg hs hr (by by_cases h0:0<l.length;exact hd _ (Ex h0);rw [e_,List.getElem?_eq_none Cg];show(0:Nat)<_;omega) Cg) ?_;rintro _ _ ⟨m2,hm2,hs2,rfl,rfl⟩;refine BV ?_
  have hem:m.s.E3 (DH l)=m.s.CT (DH l):=by unfold AK.E3;rw [if_pos (show m.s.closed≠0 from h13)]
  exact mR [4] (AS sb m2*R) rfl rfl ⟨m2,hm2,by rw [hem];exact hs2,SX,rfl⟩
 refine J4 ?_;refine Ap (DJ sb m R).symm ?_;refine J1 ?_;refine CZ ?_;refine BL (α:=Nat×Ad) (fun z=>[(6,iN z.1),(0,ptr sb 0),(1,.slice p l.length c)]) (fun z=>AS sb z.2*R) (fun z=>z.1≤l.length∧z.2.ok∧Ag (t+1) z.2.s∧z.2.s.next+(l.length-z.1)≤20*(t+1)∧z.2.s.Df ((DH l).drop z.1)=m.s.Df (DH l)) (fun z=>l.length-z.1) (0,m) ⟨j' _,hm,him,by show m.s.next+(l.length-0)≤_;omega,rfl⟩ CN rfl ?_;rintro⟨i,mi⟩ ⟨q1,q2,q3,q4,q5⟩;dsimp only at q1 q2 q3 q4 q5⊢;refine J9 ?_;refine mC (fun h21=>?_) (fun h21=>?_)
 ·have h21:i<l.length:=h21;have hdi:=hd _ (Ex (d:=AB.AC) h21);refine J9 ?_;refine JL (Bm (i:=i) rfl rfl hs h21) ?_;refine JL (DT (f:=0) (xs:=l) rfl inferInstance rfl h21) ?_;refine mE rfl (qa sb (t+1) mi (l.getD i AB.AC) R q2 q3 Cg hdi Cg) ?_;rintro _ _ ⟨m3,hm3,hs3,rfl,rfl⟩;have hi3:=q3.emit (l.getD i AB.AC).data.toList Cg;refine J6 ?_;refine Eb ?_;refine mc (fun h31=>?_) (fun h31=>?_)
  ·have h31:(!(mi.s.emit (l.getD i AB.AC).data.toList).1)=true:=h31
   have h31:(mi.s.emit (l.getD i AB.AC).data.toList).1=false:=(by generalize(mi.s.emit (l.getD i AB.AC).data.toList).1=bb at h31⊢;cases bb;rfl;cases h31)
   refine BV ?_
   have hall:m.s.Df (DH l)=(false,(mi.s.emit (l.getD i AB.AC).data.toList).2):=by rw [←q5,S7 h21,AK.Df,if_neg (by rw [h31];decide)]
   have hem:m.s.E3 (DH l)=(false,(mi.s.emit (l.getD i AB.AC).data.toList).2):=by unfold AK.E3;rw [if_neg (show ¬m.s.closed≠0 from h13),hall];rfl
   exact mR [4] (AS sb m3*R) rfl rfl ⟨m3,hm3,by rw [hem];exact hs3,SX,rfl⟩
  have h31:(!(mi.s.emit (l.getD i AB.AC).data.toList).1)=false:=h31
  have h31:(mi.s.emit (l.getD i AB.AC).data.toList).1=true:=(by generalize(mi.s.emit (l.getD i AB.AC).data.toList).1=bb at h31⊢;cases bb;cases h31;rfl)
  refine Fu ?_;exact At (i+1,m3) ⟨h21,hm3,by rw [hs3];exact hi3.1,by show m3.s.next+(l.length-(i+1))≤_;rw [hs3];have:=hi3.2;omega,by rw [←q5,S7 h21,AK.Df,if_pos h31,hs3]⟩ Lp CN rfl
 obtain rfl:i=l.length:=by have h7:¬i<l.length:=h21;omega
 rw [List.drop_of_length_le (by unfold DH;rw [f_];exact Nat.le_refl _)]at q5;refine J7 ?_
 have hall:m.s.Df (DH l)=(true,mi.s):=by rw [←q5];rfl
 have hdl:mi.due.length≤t+1:=q3.due
 have hem:m.s.E3 (DH l)=if ∃n∈mi.due,mi.AO.floor≤n then(false,mi.s)else(true,{mi.s with due:=[]}):=by
  unfold AK.E3;rw [if_neg (show ¬m.s.closed≠0 from h13),hall,if_pos rfl];rfl
 refine Ap (H':=Ab sb mi.x*(AH mi.x.gq mi.ga mi.AO*(AH mi.x.eq mi.ea mi.Ao*(AD mi.da.b mi.da.o (mi.due.map Ay.mk) mi.da.s*(mi.oa.h mi.outs*(AM BJ mi.outs*(mi.ia.h mi.ins*(AM BC mi.ins*(mi.sa.h mi.AJ*(AM B3 mi.AJ*R)))))))))) cN ?_;refine J1 ?_;refine CZ ?_;refine BL (α:=Nat) (fun k=>[(8,iN k),(0,ptr sb 0)]) (fun k=>Ab sb mi.x*(AH mi.x.gq mi.ga mi.AO*(AH mi.x.eq mi.ea mi.Ao*(AD mi.da.b mi.da.o (mi.due.map Ay.mk) mi.da.s*(mi.oa.h mi.outs*(AM BJ mi.outs*(mi.ia.h mi.ins*(AM BC mi.ins*(mi.sa.h mi.AJ*(AM B3 mi.AJ*R)))))))))) (fun k=>k≤mi.due.length∧∀n∈mi.due.take k,n<mi.AO.floor) (fun k=>mi.due.length-k) 0 ⟨j' _,fun n hn=>by rw [v_]at hn;cases hn⟩ La rfl ?_;rintro k ⟨q6,q7⟩;dsimp only at q6 q7⊢;refine J7 ?_;refine JL (Br D7 q2.dv) ?_;refine J4 ?_;refine mC (fun h38=>?_) (fun h38=>?_)
 ·have h38:k<mi.due.length:=h38;refine J5 ?_;refine mA 15 15 ?_;refine Hu ?_;refine JT 3 rfl (Br D7 q2.dv) ?_;refine HD ?_;refine JT 5 rfl (Bm (i:=k) rfl rfl (show Sl mi.da.p mi.da.b mi.da.o mi.due.length mi.da.c from by have h7:=q2.d.1;rw [f_]at h7;exact h7) h38) ?_;refine JT 6 rfl (Br (v':=uN (mi.due.getD k 0)) (DT (f:=0) (xs:=mi.due.map Ay.mk) rfl inferInstance rfl (by rw [f_];exact h38)) (by rw [←sI h38])) ?_;refine lX ?_;refine JT 14 rfl (L9 (i:=(mi.due.getD k 0)) (j:=mi.AO.floor) rfl rfl) ?_;refine EU ?_;refine mC (fun h55=>?_) (fun h55=>?_)
  ·refine BV ?_;rw [if_pos ⟨(mi.due.getD k 0),Ex h38,h55⟩]at hem;exact mR [4] (AS sb mi*R) (hE:=by rw [DJ];infer_instance) rfl rfl ⟨mi,q2,by rw [hem],SX,rfl⟩
  refine Fu ?_
  exact At (k+1) ⟨h38,fun n hn=>by
   rw [HW h38]at hn
   rcases m_.1 hn with hn|hn
   ·exact q7 n hn
   ·rw [j_.1 hn];omega⟩ (by show mi.due.length-(k+1)<mi.due.length-k;omega) La rfl
 obtain rfl:k=mi.due.length:=by have h7:¬k<mi.due.length:=h38;omega
 rw [l_]at q7;refine mJ ?_;rw [if_neg (by rintro⟨n,hn,h2⟩;have:=q7 n hn;omega)]at hem
 obtain⟨m4,hm4⟩:∃m4:Ad,m4={mi with x:={mi.x with dv:=.slice none 0 0},due:=[],da:=BP}:=Bg
 have hok4:m4.ok:=by rw [hm4];exact {q2 with d:=DX,dv:=rfl}
 exact mR [4] (AS sb m4*R) (hE:=⟨fun ww hw=>Sat.right (A:=AD mi.da.b mi.da.o (mi.due.map Ay.mk) mi.da.s) (n_ (by
  congr 1
  rw [DJ,hm4]
  show _=AD mi.da.b mi.da.o (mi.due.map Ay.mk) mi.da.s*(Ab sb {mi.x with dv:=.slice none 0 0}*(AH mi.x.gq mi.ga mi.AO*(AH mi.x.eq mi.ea mi.Ao*(BP.h ([]:List Ay)*(mi.oa.h mi.outs*(AM BJ mi.outs*(mi.ia.h mi.ins*(AM BC mi.ins*(mi.sa.h mi.AJ*(AM B3 mi.AJ*R))))))))))
  rw [GN,HP.BA]
  ac_rfl) hw)⟩) rfl rfl ⟨m4,hok4,by rw [hem,hm4];rfl,SX,rfl⟩
end
section
variable{B:World}
def GT(mt wi:Nat)(ks:List UInt8)(first:Bool)(g e:Nat)(ov iv:Value):SC:=⟨mt,wi,ks,first,0,0,false,0,g,e,.slice none 0 0,ov,iv,.slice none 0 0⟩
def NF(mt wi:Nat)(ks:List UInt8)(g e:Nat):List Value:=[iN mt,iN wi]++(AE ks++([iN 0]++([iN 0]++([uN 0]++([.bool false]++([uN 0]++([ptr g 0]++([ptr e 0]++([.slice none 0 0]++([.slice none 0 0]++([.slice none 0 0]++[.slice none 0 0])))))))))))
theorem am(b mt wi:Nat)(ks:List UInt8)(hk:ks.length=16)(g e:Nat):HP.AA b 0 (NF mt wi ks g e)=Ab b (GT mt wi ks true g e (.slice none 0 0) (.slice none 0 0)):=by
 unfold NF
 rw [DB _ _ (rfl:0+2=0+2),DB (o:=0+2) (o':=0+18) _ _ (by rw [Ff hk]),
  DB (o:=0+18) (o':=0+19) _ _ rfl,DB (o:=0+19) (o':=0+20) _ _ rfl,DB (o:=0+20) (o':=0+21) _ _ rfl,DB (o:=0+21) (o':=0+22) _ _ rfl,DB (o:=0+22) (o':=0+23) _ _ rfl,
  DB (o:=0+23) (o':=0+24) _ _ rfl,DB (o:=0+24) (o':=0+25) _ _ rfl,DB (o:=0+25) (o':=0+26) _ _ rfl,DB (o:=0+26) (o':=0+27) _ _ rfl,DB (o:=0+27) (o':=0+28) _ _ rfl]
 rfl
def U8:List Value:=[.int .i64 0,.int .i64 0]++([.int .u8 0,.int .u8 0,.int .u8 0,.int .u8 0,.int .u8 0,.int .u8 0,.int .u8 0,.int .u8 0,.int .u8 0,.int .u8 0,.int .u8 0,.int .u8 0,.int .u8 0,.int .u8 0,.int .u8 0,.int .u8 0]++([iN 0]++([iN 0]++([uN 0]++([.bool false]++([uN 0]++([.pointer none]++([.pointer none]++([.slice none 0 0]++([.slice none 0 0]++([.slice none 0 0]++[.slice none 0 0])))))))))))
theorem iq:BZ Tryz.prog 116 (.agg U8.toArray):=by
 have h:BZ Tryz.prog 116 _:=inferInstance;refine n_ (congrArg (BZ Tryz.prog 116) ?_) h;kernel_rfl
theorem si(mt wi:Nat)(ks:List UInt8)(hk:ks.length=16)(g e:Nat):
  Iu #[(0,2),(2,16),(18,1),(19,1),(20,1),(21,1),(22,1),(23,1),(24,1),(25,1),(26,1),(27,1),(28,1)] U8
   [(0,.agg [iN mt,iN wi].toArray),(1,.agg (AE ks).toArray),(7,ptr g 0),(8,ptr e 0)] (NF mt wi ks g e):=by
 have hl1:(AE ks).length=16:=Ff hk;unfold U8
 exact(Hf [] [.int .i64 0,.int .i64 0] ([.int .u8 0,.int .u8 0,.int .u8 0,.int .u8 0,.int .u8 0,.int .u8 0,.int .u8 0,.int .u8 0,.int .u8 0,.int .u8 0,.int .u8 0,.int .u8 0,.int .u8 0,.int .u8 0,.int .u8 0,.int .u8 0]++([iN 0]++([iN 0]++([uN 0]++([.bool false]++([uN 0]++([.pointer none]++([.pointer none]++([.slice none 0 0]++([.slice none 0 0]++([.slice none 0 0]++[.slice none 0 0]))))))))))) [iN mt,iN wi] rfl rfl rfl rfl
  (Hf [iN mt,iN wi] [.int .u8 0,.int .u8 0,.int .u8 0,.int .u8 0,.int .u8 0,.int .u8 0,.int .u8 0,.int .u8 0,.int .u8 0,.int .u8 0,.int .u8 0,.int .u8 0,.int .u8 0,.int .u8 0,.int .u8 0,.int .u8 0] ([iN 0]++([iN 0]++([uN 0]++([.bool false]++([uN 0]++([.pointer none]++([.pointer none]++([.slice none 0 0]++([.slice none 0 0]++([.slice none 0 0]++[.slice none 0 0])))))))))) (AE ks) NS rfl NS rfl
  (Hf ([iN mt,iN wi]++(AE ks++[iN 0,iN 0,uN 0,.bool false,uN 0])) [.pointer none] [.pointer none,.slice none 0 0,.slice none 0 0,.slice none 0 0,.slice none 0 0] [ptr g 0] Wn Q6 rfl rfl
  (Hf ([iN mt,iN wi]++(AE ks++[iN 0,iN 0,uN 0,.bool false,uN 0,ptr g 0])) [.pointer none] [.slice none 0 0,.slice none 0 0,.slice none 0 0,.slice none 0 0] [ptr e 0] Wn Q6 rfl rfl
  (by unfold NF;simp only [List.append_assoc];exact Pn)))))
def D5(q c:Nat):DF:=⟨q,B',c,Bi⟩
def FA(q:Nat):D6:=⟨q,IF,BP,BP⟩
theorem Z! (q c:Nat):BJ (D5 q c)=HP.AA q 0 [.string ⟨#[]⟩,ptr c 0,.bool false,.bool false,uN 0,uN 0,uN 0]*AH c Bi (.of 1073741824):=rfl
theorem X_(q:Nat):BC (FA q)=HP.AA q 0 [.slice none 0 0,.slice none 0 0,uN 0,uN 0,.bool false,.bool false,uN 0,uN 0,iN 0]:=by
 show HP.AA q 0 _*(BP.h ([]:List UInt8)*BP.h ([]:List Bool))=_;rw [GN,GN,HP.Gb,HP.Gb];rfl
set_option maxHeartbeats 4000000 in
theorem pt(AY AG:Int)(ks:List UInt8)(hk:ks.length=16)(first:Bool)(H:HP):
  Fn Tryz.prog B 17 [.agg [.int .i64 AY,.int .i64 AG].toArray,.agg (AE ks).toArray,.bool first] H (fun v H'=>
   (¬Fw AY AG∧v=.tuple #[.pointer none,iN 1]∧H'=H)∨
   (Fw AY AG∧∃sb m,m.ok∧m.s=AK.new AY.toNat AG.toNat ks first∧v=.tuple #[ptr sb 0,iN 0]∧H'=AS sb m*H)):=by
 refine mI Tryz.func17 ?_;refine J2 ?_;refine AV Vb rfl ?_;rintro _ _ ⟨b3,rfl,rfl⟩;refine PP ?_;rintro _ _ ⟨b4,rfl,rfl⟩;refine J1 ?_;refine FC ?_;refine J7 ?_;refine JL (JQ (i:=AY) (j:=64) rfl rfl) ?_;refine J1 ?_;refine CJ 13 rfl (fun hg1=>?_) (fun hg1=>?_)
 ·have g1:=hg1;refine Um ?_;refine RS ?_;exact Lf
 have g1:=hg1;refine kM ?_;refine CJ 18 rfl (fun hg2=>?_) (fun hg2=>?_)
 ·have g2:=hg2;refine Vp ?_;refine RS ?_;exact Lf
 have g2:=hg2;refine Zf ?_;refine CJ 23 rfl (fun hg3=>?_) (fun hg3=>?_)
 ·have g3:=hg3;refine XW ?_;refine RS ?_;exact Lf
 have g3:=hg3;refine dT ?_;refine mC (fun g4=>?_) (fun g4=>?_)
 ·refine RS ?_;exact Lf
 obtain⟨mt,rfl⟩:∃mt:Nat,AY=mt:=⟨AY.toNat,Cg⟩
 obtain⟨wi,rfl⟩:∃wi:Nat,AG=wi:=⟨AG.toNat,Cg⟩
 refine J3 ?_;refine mA 5 7 ?_;refine JT 0 rfl mV ?_;refine JT 1 rfl MJ ?_;refine Al 2 Ch rfl rfl (BK rfl (sG 8 _ Cg)) ?_;rintro _ _ ⟨q30,rfl,rfl⟩;refine BF ?_;refine Al 3 Ch rfl rfl cL ?_;rintro _ _ ⟨q31,rfl,rfl⟩;refine BF ?_;refine JT 4 rfl (Ph (hz:=iq) (cs:=NF mt wi ks q30 q31) rfl (si mt wi ks hk q30 q31)) ?_;refine Al 5 Ch rfl rfl (DP (l:=NF mt wi ks q30 q31) rfl rfl) ?_;rintro _ _ ⟨b33,rfl,rfl⟩;refine DS ?_;refine Sk ?_;refine HN ?_;refine Hs (HP.AA b33 0 (NF mt wi ks q30 q31)*(AH q31 Bi (.of 1073741824)*(AH q30 Bi (.of 8)*H))) ?_;refine Ap (H':=Ab b33 (GT mt wi ks true q30 q31 (.slice none 0 0) (.slice none 0 0))*(AH q31 Bi (.of 1073741824)*(AH q30 Bi (.of 8)*H))) (by rw [am b33 mt wi ks hk]) ?_;refine J2 ?_;refine Eb ?_;refine BO (α:=Unit) (fun _=>[(8,ptr b33 0)]) (fun _=>Ab b33 (GT mt wi ks first q30 q31 (.slice none 0 0) (.slice none 0 0))*(AH q31 Bi (.of 1073741824)*(AH q30 Bi (.of 8)*H))) (fun _=>True) ?_ ?_
 ·refine mc (fun h35=>?_) (fun h35=>?_)
  ·refine J4 ?_;refine Bv WQ ?_;refine Fq ?_
   obtain rfl:first=false:=(by have h35:(!first)=true:=h35;cases first;rfl;cases h35)
   exact AU () trivial Tg rfl
  refine J1 ?_
  obtain rfl:first=true:=(by have h35:(!first)=false:=h35;cases first;cases h35;rfl)
  exact AU () trivial Tg rfl
 ·rintro _ _;refine J4 ?_;refine CZ ?_
  refine BL (α:=List DF×List D6×Ae×Ae) (fun z=>[(9,iN z.1.length),(8,ptr b33 0)]) (fun z=>Ab b33 (GT mt wi ks first q30 q31 (z.2.2.1.v z.1.length) (z.2.2.2.v z.2.1.length))*(z.2.2.1.h z.1*(AM BJ z.1*(z.2.2.2.h z.2.1*(AM BC z.2.1*(AH q31 Bi (.of 1073741824)*(AH q30 Bi (.of 8)*H))))))) (fun z=>z.1.length≤4∧z.2.1.length=z.1.length∧z.2.2.1.ok z.1∧z.2.2.2.ok z.2.1∧(∀o∈z.1,∃q c,o=D5 q c)∧(∀x∈z.2.1,∃q,x=FA q)) (fun z=>4-z.1.length) ([],[],BP,BP) ⟨j' _,rfl,DX,DX,(fun _ h=>nomatch h),(fun _ h=>nomatch h)⟩ La (by
   show Ab b33 (GT mt wi ks first q30 q31 (.slice none 0 0) (.slice none 0 0))*_=Ab b33 (GT mt wi ks first q30 q31 (.slice none 0 0) (.slice none 0 0))*(BP.h ([]:List DF)*(AM BJ []*(BP.h ([]:List D6)*(AM BC []*_))))
   rw [GN,GN,FG,FG,HP.BA,HP.BA,HP.BA,HP.BA]) ?_
  rintro⟨os,is,oa,ia⟩ ⟨p1,p2,p3,p4,p5,p6⟩;dsimp only at p1 p2 p3 p4 p5 p6⊢;refine J4 ?_;refine JL Te ?_;refine J2 ?_;refine mC (fun h40=>?_) (fun h40=>?_)
  ·have h40:os.length<4:=h40;refine J5 ?_;refine Ap (H':=Ab b33 (GT mt wi ks first q30 q31 (oa.v os.length) (ia.v is.length))*(AD oa.b oa.o os oa.s*(AM BJ os*(AD ia.b ia.o is ia.s*(AM BC is*(AH q31 Bi (.of 1073741824)*(AH q30 Bi (.of 8)*H))))))) rfl ?_;refine Dc (Ab b33 (GT mt wi ks first q30 q31 (oa.v os.length) (ia.v is.length))) 12 13 Dg rfl Ch ?_;refine EQ ?_;refine L7 ?_;refine JT 4 rfl (Br D7 rfl) ?_;refine Al 5 Ch rfl rfl cL ?_;rintro _ _ ⟨q48,rfl,rfl⟩;refine BF ?_;refine JT 6 rfl (Br (v':=.agg #[.string ⟨#[]⟩,ptr q48 0,.bool false,.bool false,uN 0,uN 0,uN 0]) H7 rfl) ?_;refine Al 7 Ch rfl rfl (DP (l:=[.string ⟨#[]⟩,ptr q48 0,.bool false,.bool false,uN 0,uN 0,uN 0]) rfl rfl) ?_;rintro _ _ ⟨b50,rfl,rfl⟩;refine BF ?_;refine Al 8 Ch rfl rfl (E4 (cs:=[ptr b50 0]) rfl Cr rfl rfl) ?_;rintro _ _ ⟨b51,rfl,rfl⟩;refine BF ?_
   refine FB (H':=AD oa.b oa.o os oa.s*(HP.AA b51 0 (AE [D5 b50 q48])*(HP.AA b50 0 [.string ⟨#[]⟩,ptr q48 0,.bool false,.bool false,uN 0,uN 0,uN 0]*(AH q48 Bi (.of 1073741824)*(Ab b33 (GT mt wi ks first q30 q31 (oa.v os.length) (ia.v is.length))*(AM BJ os*(AD ia.b ia.o is ia.s*(AM BC is*(AH q31 Bi (.of 1073741824)*(AH q30 Bi (.of 8)*H)))))))))) (by show HP.AA b51 0 [ptr b50 0]*_=_;rw [show AE [D5 b50 q48]=[ptr b50 0]from rfl];ac_rfl) ?_;refine Al 9 Ch rfl rfl (Bf (ys:=[D5 b50 q48]) (bb:=b51) (oo:=0) (cc:=1) rfl p3.1 p3.2 rfl Bc inferInstance rfl Cs Cg) ?_;rintro _ _ ⟨p52,b52,o52,c52,s52,rfl,hs52,hc52,rfl⟩;refine BF ?_;refine SZ ?_;refine J6 ?_;refine JL (Br D7 rfl) ?_;refine JL (Br (v':=.agg #[.slice none 0 0,.slice none 0 0,uN 0,uN 0,.bool false,.bool false,uN 0,uN 0,iN 0]) H7 rfl) ?_;refine AV (DP (l:=[.slice none 0 0,.slice none 0 0,uN 0,uN 0,.bool false,.bool false,uN 0,uN 0,iN 0]) rfl rfl) rfl ?_;rintro _ _ ⟨b61,rfl,rfl⟩;refine AV (E4 (cs:=[ptr b61 0]) rfl Cr rfl rfl) rfl ?_;rintro _ _ ⟨b62,rfl,rfl⟩
   refine Aw (H':=AD ia.b ia.o is ia.s*(HP.AA b62 0 (AE [FA b61])*(HP.AA b61 0 [.slice none 0 0,.slice none 0 0,uN 0,uN 0,.bool false,.bool false,uN 0,uN 0,iN 0]*(Ab b33 (GT mt wi ks first q30 q31 (.slice p52 (os++[D5 b50 q48]).length c52) (ia.v is.length))*(AD b52 o52 (os++[D5 b50 q48]) s52*(HP.AA b51 0 (AE [D5 b50 q48])*(HP.AA b50 0 [.string ⟨#[]⟩,ptr q48 0,.bool false,.bool false,uN 0,uN 0,uN 0]*(AH q48 Bi (.of 1073741824)*(AM BJ os*(AM BC is*(AH q31 Bi (.of 1073741824)*(AH q30 Bi (.of 8)*H)))))))))))) (by show HP.AA b62 0 [ptr b61 0]*_=_;rw [show AE [FA b61]=[ptr b61 0]from rfl,show Ab b33 (GT mt wi ks first q30 q31 (.slice p52 (os++[D5 b50 q48]).length c52) (ia.v is.length))=Ab b33 {GT mt wi ks first q30 q31 (oa.v os.length) (ia.v is.length)with ov:=.slice p52 (os++[D5 b50 q48]).length c52}from rfl];ac_rfl) ?_;refine AV (Bf (ys:=[FA b61]) (bb:=b62) (oo:=0) (cc:=1) rfl p4.1 p4.2 rfl Bc inferInstance rfl Cs Cg) rfl ?_;rintro _ _ ⟨p63,b63,o63,c63,s63,rfl,hs63,hc63,rfl⟩;refine J8 ?_;refine FO ?_
   refine Au (Ab b33 (GT mt wi ks first q30 q31 (((os++[D5 b50 q48],is++[FA b61],(⟨p52,b52,o52,c52,s52⟩:Ae),(⟨p63,b63,o63,c63,s63⟩:Ae)):List DF×List D6×Ae×Ae).2.2.1.v ((os++[D5 b50 q48],is++[FA b61],(⟨p52,b52,o52,c52,s52⟩:Ae),(⟨p63,b63,o63,c63,s63⟩:Ae)):List DF×List D6×Ae×Ae).1.length) (((os++[D5 b50 q48],is++[FA b61],(⟨p52,b52,o52,c52,s52⟩:Ae),(⟨p63,b63,o63,c63,s63⟩:Ae)):List DF×List D6×Ae×Ae).2.2.2.v ((os++[D5 b50 q48],is++[FA b61],(⟨p52,b52,o52,c52,s52⟩:Ae),(⟨p63,b63,o63,c63,s63⟩:Ae)):List DF×List D6×Ae×Ae).2.1.length))*(((os++[D5 b50 q48],is++[FA b61],(⟨p52,b52,o52,c52,s52⟩:Ae),(⟨p63,b63,o63,c63,s63⟩:Ae)):List DF×List D6×Ae×Ae).2.2.1.h ((os++[D5 b50 q48],is++[FA b61],(⟨p52,b52,o52,c52,s52⟩:Ae),(⟨p63,b63,o63,c63,s63⟩:Ae)):List DF×List D6×Ae×Ae).1*(AM BJ ((os++[D5 b50 q48],is++[FA b61],(⟨p52,b52,o52,c52,s52⟩:Ae),(⟨p63,b63,o63,c63,s63⟩:Ae)):List DF×List D6×Ae×Ae).1*(((os++[D5 b50 q48],is++[FA b61],(⟨p52,b52,o52,c52,s52⟩:Ae),(⟨p63,b63,o63,c63,s63⟩:Ae)):List DF×List D6×Ae×Ae).2.2.2.h ((os++[D5 b50 q48],is++[FA b61],(⟨p52,b52,o52,c52,s52⟩:Ae),(⟨p63,b63,o63,c63,s63⟩:Ae)):List DF×List D6×Ae×Ae).2.1*(AM BC ((os++[D5 b50 q48],is++[FA b61],(⟨p52,b52,o52,c52,s52⟩:Ae),(⟨p63,b63,o63,c63,s63⟩:Ae)):List DF×List D6×Ae×Ae).2.1*(AH q31 Bi (.of 1073741824)*(AH q30 Bi (.of 8)*H))))))) (hE:=⟨fun ww hw=>Sat.right (A:=HP.AA b51 0 (AE [D5 b50 q48])*HP.AA b62 0 (AE [FA b61])) (n_ (by
    congr 1
    show _=HP.AA b51 0 (AE [D5 b50 q48])*HP.AA b62 0 (AE [FA b61])*(Ab b33 (GT mt wi ks first q30 q31 (.slice p52 (os++[D5 b50 q48]).length c52) (.slice p63 (is++[FA b61]).length c63))*(AD b52 o52 (os++[D5 b50 q48]) s52*(AM BJ (os++[D5 b50 q48])*(AD b63 o63 (is++[FA b61]) s63*(AM BC (is++[FA b61])*(AH q31 Bi (.of 1073741824)*(AH q30 Bi (.of 8)*H)))))))
    rw [Kf,Kf,Fx,Fx,FG,FG,HP.Gb,HP.Gb,Z!,X_]
    ac_rfl) hw)⟩) ?_
   exact At (os++[D5 b50 q48],is++[FA b61],⟨p52,b52,o52,c52,s52⟩,⟨p63,b63,o63,c63,s63⟩) ⟨by rw [b_];exact h40,by rw [b_,b_,p2];rfl,⟨hs52,hc52⟩,⟨hs63,hc63⟩,
     fun o ho=>by rcases m_.1 ho with ho|ho;exact p5 o ho;exact⟨b50,q48,j_.1 ho⟩,fun x hx=>by rcases m_.1 hx with hx|hx;exact p6 x hx;exact⟨b61,j_.1 hx⟩⟩
    (by rw [b_];show 4-(os.length+1)<4-os.length;have:os.length<4:=h40;omega) (.cons (congrArg (fun k:Nat=>some (iN k)) (show os.length+1=(os++[D5 b50 q48]).length by rw [b_];rfl)) Ix) rfl
  have hl4:os.length=4:=by have:¬os.length<4:=h40;omega
  refine J9 ?_;refine CZ ?_
  obtain⟨m,hm⟩:∃m:Ad,m=⟨GT mt wi ks first q30 q31 (oa.v os.length) (ia.v is.length),.of 8,Bi,.of 1073741824,Bi,[],BP,os,oa,is,ia,[],BP⟩:=Bg
  have hmok:m.ok:=by
   rw [hm];exact⟨Lz 8,Lz 1073741824,DX,p3,p4,DX,(fun o ho=>by obtain⟨q,c,rfl⟩:=p5 o ho;exact Lz 1073741824),(fun x hx=>by obtain⟨q,rfl⟩:=p6 x hx;exact⟨DX,DX⟩),(fun _ h=>nomatch h),rfl,rfl,rfl,rfl⟩
  have hms:m.s=AK.new mt wi ks first:=by
   rw [hm];unfold Ad.s AK.new;dsimp only
   have e1:os.map (·.o)=xr 4 B':=by
    rw [←hl4];exact r_.2 ⟨Cl,fun b hb=>by obtain⟨o,ho,rfl⟩:=t_.1 hb;obtain⟨q,c,rfl⟩:=p5 o ho;rfl⟩
   have e2:is.map (·.x)=xr 4 IF:=by
    rw [←hl4,←p2];exact r_.2 ⟨Cl,fun b hb=>by obtain⟨o,ho,rfl⟩:=t_.1 hb;obtain⟨q,rfl⟩:=p6 o ho;rfl⟩
   rw [e1,e2];rfl
  exact mR [6,7] (AS b33 m*H) (hE:=⟨fun ww hw=>n_ (by
   congr 1
   rw [DJ,hm]
   show _=Ab b33 (GT mt wi ks first q30 q31 (oa.v os.length) (ia.v is.length))*(AH q30 Bi (.of 8)*(AH q31 Bi (.of 1073741824)*(BP.h ([]:List Ay)*(oa.h os*(AM BJ os*(ia.h is*(AM BC is*(BP.h ([]:List DV)*(AM B3 []*H)))))))))
   rw [GN,GN,FG,HP.BA,HP.BA,HP.BA]
   ac_rfl) hw⟩) rfl rfl (.inr ⟨⟨Cg,Cg,Cg,Cg⟩,b33,m,hmok,by rw [hms];rfl,rfl,rfl⟩)
end
section
variable{B:World}
section
variable{P:Program}{n:Nat}{E:A6}{D:CK}{H:HP}{d:Option Tmp}{T T' ty:TypeId}{pos:String}{af:Array Edge}{g:Option (Nat×Bool)}{x y z u:Operand}
theorem fk{k:IntKind}{i j:Int}(hx:ev E x=some (.int k i))(hy:ev E y=some (.int k j))(h:j≠0):
  Aa P B n ⟨d,.binOp .rem T x y T',ty,pos,af,g⟩ E H (.int k (i.tmod j)):=
 Dx hx hy fun w=>by
  simp only [binOp,Op.intDiv,ne_eq,not_true_eq_false,h,if_false];rfl
end
@[reducible] def CB(a:Bd):List Value:=[iN a.e,.int .i64 a.at_,iN a.n,uN a.code,.string a.data,.slice none 0 0]
theorem nq(a:Bd)(H:HP):Fn Tryz.prog B 21 [.agg (CB a).toArray,.agg (CB a).toArray] H (fun v H'=>v=.bool true∧H'=H):=by
 refine mI Tryz.func21 ?_;refine J2 ?_;refine AV (DP (l:=CB a) rfl rfl) rfl ?_;rintro _ _ ⟨b2,rfl,rfl⟩;refine AV (DP (l:=CB a) rfl rfl) rfl ?_;rintro _ _ ⟨b3,rfl,rfl⟩;refine J9 ?_;refine JL (CV (i:=a.e) (j:=a.e) rfl rfl) ?_;refine Rk ?_;refine JL (CI (i:=a.at_) (j:=a.at_) rfl rfl) ?_;refine JL Tb ?_;refine Rk ?_;refine JL (CV (i:=a.n) (j:=a.n) rfl rfl) ?_;refine JL Tb ?_;refine Rk ?_;refine JL (CV (i:=a.code) (j:=a.code) rfl rfl) ?_;refine JL Tb ?_
 refine Rk ?_;refine JL (jK rfl rfl) ?_;refine JL Tb ?_;refine J4 ?_;exact mR [4] H rfl rfl ⟨by show d_ (decide (a.data=a.data))=_;rw [decide_eq_true rfl],rfl⟩
set_option maxHeartbeats 8000000 in
theorem yY(sb t:Nat)(m:Ad)(q:FN)(R:HP)(hm:m.ok)(hi:Ag t m.s)(ht:t<900000)(hd:q.data.size<90000000):
  Fn Tryz.prog B 20 [ptr sb 0,.agg (BU q).toArray] (AS sb m*R) (fun v H'=>∃m':Ad,m'.ok∧m'.s=(m.s.asks q).2∧v=.agg (CB (m.s.asks q).1).toArray∧H'=AS sb m'*R):=by
 refine mI Tryz.func20 ?_
 have hxl:q.data.data.toList.length<90000000:=lC
 refine J2 ?_;refine AV Vj rfl ?_;rintro _ _ ⟨b3,rfl,rfl⟩;refine AV O3 rfl ?_;rintro _ _ ⟨b4,rfl,rfl⟩;refine J4 ?_;refine JL (Br (v':=.agg #[.int .i64 0,.int .i64 (-1),.int .i64 0,.int .u64 0,.string ⟨#[]⟩,.slice none 0 0]) H7 rfl) ?_;refine AV O3 rfl ?_;rintro _ _ ⟨b5,rfl,rfl⟩;refine Fi ?_;refine J4 ?_;refine FC ?_;refine CR ?_;refine JL (CI (i:=q.kind) (j:=1) rfl rfl) ?_;refine J3 ?_;refine BO (α:=Ad×Bd) (fun z=>[(6,iN z.2.e),(5,ptr b5 0),(4,ptr b4 0),(0,ptr sb 0)]) (fun z=>HP.AA b5 0 (CB {z.2 with e:=0})*(HP.AA b4 0 [.int .i64 0,.int .i64 0,.int .i64 0,.int .u64 0,.string ⟨#[]⟩,.slice none 0 0]*(HP.AA b3 0 (BU q)*(AS sb z.1*R)))) (fun z=>z.1.ok∧m.s.asks q=(z.2,z.1.s)) ?_ ?_
 ·refine mC (fun k1=>?_) (fun k1=>?_)
  ·refine J6 ?_;refine NM ?_;refine mE rfl (zD sb t m q.stream q.data _ hm hi Cg) ?_;rintro _ _ ⟨m2,hmo,hms,rfl,rfl⟩;refine J7 ?_
   have hdo:m.s.asks q=((⟨(m.s.write q.stream q.data.data.toList).1.2,-1,(m.s.write q.stream q.data.data.toList).1.1,0,⟨#[]⟩,[]⟩:Bd),m2.s):=by
    unfold AK.asks;rw [if_pos k1];rw [hms]
   exact Au (HP.AA b5 0 (CB (⟨0,-1,(m.s.write q.stream q.data.data.toList).1.1,0,⟨#[]⟩,[]⟩:Bd))*(HP.AA b4 0 [.int .i64 0,.int .i64 0,.int .i64 0,.int .u64 0,.string ⟨#[]⟩,.slice none 0 0]*(HP.AA b3 0 (BU q)*(AS sb m2*R)))) (hE:=⟨fun ww hw=>n_ (by congr 1;show AS sb m2*(HP.AA b5 0 (CB (⟨0,-1,(m.s.write q.stream q.data.data.toList).1.1,0,⟨#[]⟩,[]⟩:Bd))*(HP.AA b4 0 [.int .i64 0,.int .i64 0,.int .i64 0,.int .u64 0,.string ⟨#[]⟩,.slice none 0 0]*(HP.AA b3 0 (BU q)*R)))=(HP.AA b5 0 (CB (⟨0,-1,(m.s.write q.stream q.data.data.toList).1.1,0,⟨#[]⟩,[]⟩:Bd))*(HP.AA b4 0 [.int .i64 0,.int .i64 0,.int .i64 0,.int .u64 0,.string ⟨#[]⟩,.slice none 0 0]*(HP.AA b3 0 (BU q)*(AS sb m2*R))));ac_rfl) hw⟩) (AU (m2,(⟨(m.s.write q.stream q.data.data.toList).1.2,-1,(m.s.write q.stream q.data.data.toList).1.1,0,⟨#[]⟩,[]⟩:Bd)) ⟨hmo,hdo⟩ BR rfl)
  refine J2 ?_;refine JL (CI (i:=q.kind) (j:=2) rfl rfl) ?_;refine J3 ?_;refine mC (fun k2=>?_) (fun k2=>?_)
  ·refine J4 ?_;refine NM ?_;refine mE rfl (cw sb t m q.stream _ hm hi) ?_;rintro _ _ ⟨m2,hmo,hms,rfl,rfl⟩;refine J2 ?_
   have hdo:m.s.asks q=((⟨(m.s.finish q.stream).1,-1,0,0,⟨#[]⟩,[]⟩:Bd),m2.s):=by
    unfold AK.asks;rw [if_neg k1,if_pos k2];rw [hms]
   exact Au (HP.AA b5 0 (CB (⟨0,-1,0,0,⟨#[]⟩,[]⟩:Bd))*(HP.AA b4 0 [.int .i64 0,.int .i64 0,.int .i64 0,.int .u64 0,.string ⟨#[]⟩,.slice none 0 0]*(HP.AA b3 0 (BU q)*(AS sb m2*R)))) (hE:=Xu) (AU (m2,(⟨(m.s.finish q.stream).1,-1,0,0,⟨#[]⟩,[]⟩:Bd)) ⟨hmo,hdo⟩ BR rfl)
  refine J2 ?_;refine JL (CI (i:=q.kind) (j:=3) rfl rfl) ?_;refine J3 ?_;refine mC (fun k3=>?_) (fun k3=>?_)
  ·refine J6 ?_;refine NM ?_;refine mE rfl (yZ sb t m q.stream q.code _ hm hi) ?_;rintro _ _ ⟨m2,hmo,hms,rfl,rfl⟩;refine J2 ?_
   have hdo:m.s.asks q=((⟨(m.s.giveUp q.stream q.code).1,-1,0,0,⟨#[]⟩,[]⟩:Bd),m2.s):=by
    unfold AK.asks;rw [if_neg k1,if_neg k2,if_pos k3];rw [hms]
   exact Au (HP.AA b5 0 (CB (⟨0,-1,0,0,⟨#[]⟩,[]⟩:Bd))*(HP.AA b4 0 [.int .i64 0,.int .i64 0,.int .i64 0,.int .u64 0,.string ⟨#[]⟩,.slice none 0 0]*(HP.AA b3 0 (BU q)*(AS sb m2*R)))) (hE:=Xu) (AU (m2,(⟨(m.s.giveUp q.stream q.code).1,-1,0,0,⟨#[]⟩,[]⟩:Bd)) ⟨hmo,hdo⟩ BR rfl)
  refine J2 ?_;refine JL (CI (i:=q.kind) (j:=6) rfl rfl) ?_;refine J3 ?_;refine mC (fun k6=>?_) (fun k6=>?_)
  ·refine J4 ?_;refine AV NG rfl ?_;rintro _ _ ⟨p42,b42,o42,c42,s42,rfl,hs42,hc42,rfl⟩;refine Aw (H':=AS sb m*(AD b42 o42 q.data.data.toList s42*HP.AA b5 0 (CB (⟨0,-1,0,0,⟨#[]⟩,[]⟩:Bd))*(HP.AA b4 0 [.int .i64 0,.int .i64 0,.int .i64 0,.int .u64 0,.string ⟨#[]⟩,.slice none 0 0]*(HP.AA b3 0 (BU q)*R)))) (by show _=AS sb m*(AD b42 o42 q.data.data.toList s42*HP.AA b5 0 [.int .i64 0,.int .i64 (-1),.int .i64 0,.int .u64 0,.string ⟨#[]⟩,.slice none 0 0]*(HP.AA b4 0 [.int .i64 0,.int .i64 0,.int .i64 0,.int .u64 0,.string ⟨#[]⟩,.slice none 0 0]*(HP.AA b3 0 (BU q)*R)));ac_rfl) ?_;refine mE rfl (qe sb t m q.data.data.toList p42 b42 o42 c42 _ hm hi Cg hs42 inferInstance hxl) ?_;rintro _ _ ⟨m2,hmo,hms,rfl,rfl⟩;refine J7 ?_
   have hdo:m.s.asks q=((⟨(m.s.BB q.data.data.toList).1.1,(m.s.BB q.data.data.toList).1.2,0,0,⟨#[]⟩,[]⟩:Bd),m2.s):=by
    unfold AK.asks;rw [if_neg k1,if_neg k2,if_neg k3,if_pos k6];rw [hms]
   exact Au (HP.AA b5 0 (CB (⟨0,(m.s.BB q.data.data.toList).1.2,0,0,⟨#[]⟩,[]⟩:Bd))*(HP.AA b4 0 [.int .i64 0,.int .i64 0,.int .i64 0,.int .u64 0,.string ⟨#[]⟩,.slice none 0 0]*(HP.AA b3 0 (BU q)*(AS sb m2*R)))) (hE:=⟨fun ww hw=>Sat.right (A:=AD b42 o42 q.data.data.toList s42) (n_ (by congr 1;show AS sb m2*(AD b42 o42 q.data.data.toList s42*HP.AA b5 0 (CB (⟨0,(m.s.BB q.data.data.toList).1.2,0,0,⟨#[]⟩,[]⟩:Bd))*(HP.AA b4 0 [.int .i64 0,.int .i64 0,.int .i64 0,.int .u64 0,.string ⟨#[]⟩,.slice none 0 0]*(HP.AA b3 0 (BU q)*R)))=AD b42 o42 q.data.data.toList s42*(HP.AA b5 0 (CB (⟨0,(m.s.BB q.data.data.toList).1.2,0,0,⟨#[]⟩,[]⟩:Bd))*(HP.AA b4 0 [.int .i64 0,.int .i64 0,.int .i64 0,.int .u64 0,.string ⟨#[]⟩,.slice none 0 0]*(HP.AA b3 0 (BU q)*(AS sb m2*R))));ac_rfl) hw)⟩) (AU (m2,(⟨(m.s.BB q.data.data.toList).1.1,(m.s.BB q.data.data.toList).1.2,0,0,⟨#[]⟩,[]⟩:Bd)) ⟨hmo,hdo⟩ BR rfl)
  refine J2 ?_;refine JL (CI (i:=q.kind) (j:=7) rfl rfl) ?_;refine J3 ?_;refine mC (fun k7=>?_) (fun k7=>?_)
  ·refine J6 ?_;refine NM ?_;refine mE rfl (qj sb t m q.stream q.AN _ hm hi Cg) ?_;rintro _ _ ⟨m2,hmo,hms,rfl,rfl⟩;refine EP ?_
   have hdo:m.s.asks q=((⟨(m.s.read q.stream q.AN).1.2.2.2,-1,(m.s.read q.stream q.AN).1.2.1,(m.s.read q.stream q.AN).1.2.2.1,BI (m.s.read q.stream q.AN).1.1,[]⟩:Bd),m2.s):=by
    unfold AK.asks;rw [if_neg k1,if_neg k2,if_neg k3,if_neg k6,if_pos k7];rw [hms]
   exact Au (HP.AA b5 0 (CB (⟨0,-1,(m.s.read q.stream q.AN).1.2.1,(m.s.read q.stream q.AN).1.2.2.1,BI (m.s.read q.stream q.AN).1.1,[]⟩:Bd))*(HP.AA b4 0 [.int .i64 0,.int .i64 0,.int .i64 0,.int .u64 0,.string ⟨#[]⟩,.slice none 0 0]*(HP.AA b3 0 (BU q)*(AS sb m2*R)))) (hE:=⟨fun ww hw=>n_ (by congr 1;show AS sb m2*(HP.AA b5 0 (CB (⟨0,-1,(m.s.read q.stream q.AN).1.2.1,(m.s.read q.stream q.AN).1.2.2.1,BI (m.s.read q.stream q.AN).1.1,[]⟩:Bd))*(HP.AA b4 0 [.int .i64 0,.int .i64 0,.int .i64 0,.int .u64 0,.string ⟨#[]⟩,.slice none 0 0]*(HP.AA b3 0 (BU q)*R)))=(HP.AA b5 0 (CB (⟨0,-1,(m.s.read q.stream q.AN).1.2.1,(m.s.read q.stream q.AN).1.2.2.1,BI (m.s.read q.stream q.AN).1.1,[]⟩:Bd))*(HP.AA b4 0 [.int .i64 0,.int .i64 0,.int .i64 0,.int .u64 0,.string ⟨#[]⟩,.slice none 0 0]*(HP.AA b3 0 (BU q)*(AS sb m2*R))));ac_rfl) hw⟩) (AU (m2,(⟨(m.s.read q.stream q.AN).1.2.2.2,-1,(m.s.read q.stream q.AN).1.2.1,(m.s.read q.stream q.AN).1.2.2.1,BI (m.s.read q.stream q.AN).1.1,[]⟩:Bd)) ⟨hmo,hdo⟩ BR rfl)
  refine J2 ?_;refine JL (CI (i:=q.kind) (j:=8) rfl rfl) ?_;refine J3 ?_;refine mC (fun k8=>?_) (fun k8=>?_)
  ·refine J4 ?_;refine NM ?_;refine mE rfl (wJ sb m q.code _ hm) ?_;rintro _ _ ⟨m2,hmo,hms,rfl,rfl⟩;refine J2 ?_
   have hdo:m.s.asks q=((⟨(m.s.close q.code).1,-1,0,0,⟨#[]⟩,[]⟩:Bd),m2.s):=by
    unfold AK.asks;rw [if_neg k1,if_neg k2,if_neg k3,if_neg k6,if_neg k7,if_pos k8];rw [hms]
   exact Au (HP.AA b5 0 (CB (⟨0,-1,0,0,⟨#[]⟩,[]⟩:Bd))*(HP.AA b4 0 [.int .i64 0,.int .i64 0,.int .i64 0,.int .u64 0,.string ⟨#[]⟩,.slice none 0 0]*(HP.AA b3 0 (BU q)*(AS sb m2*R)))) (hE:=Xu) (AU (m2,(⟨(m.s.close q.code).1,-1,0,0,⟨#[]⟩,[]⟩:Bd)) ⟨hmo,hdo⟩ BR rfl)
  refine J2 ?_;refine JL (CI (i:=q.kind) (j:=9) rfl rfl) ?_;refine J3 ?_;refine mC (fun k9=>?_) (fun k9=>?_)
  ·refine J4 ?_;refine NM ?_;refine mE rfl (yK sb t m q.stream _ hm hi) ?_;refine JR ?_;refine J7 ?_
   have hdo:m.s.asks q=((⟨(m.s.AF q.stream).2,-1,(m.s.AF q.stream).1,0,⟨#[]⟩,[]⟩:Bd),m.s):=by
    unfold AK.asks;rw [if_neg k1,if_neg k2,if_neg k3,if_neg k6,if_neg k7,if_neg k8,if_pos k9]
   exact Au (HP.AA b5 0 (CB (⟨0,-1,(m.s.AF q.stream).1,0,⟨#[]⟩,[]⟩:Bd))*(HP.AA b4 0 [.int .i64 0,.int .i64 0,.int .i64 0,.int .u64 0,.string ⟨#[]⟩,.slice none 0 0]*(HP.AA b3 0 (BU q)*(AS sb m*R)))) (hE:=⟨fun ww hw=>n_ (by congr 1;show AS sb m*(HP.AA b5 0 (CB (⟨0,-1,(m.s.AF q.stream).1,0,⟨#[]⟩,[]⟩:Bd))*(HP.AA b4 0 [.int .i64 0,.int .i64 0,.int .i64 0,.int .u64 0,.string ⟨#[]⟩,.slice none 0 0]*(HP.AA b3 0 (BU q)*R)))=(HP.AA b5 0 (CB (⟨0,-1,(m.s.AF q.stream).1,0,⟨#[]⟩,[]⟩:Bd))*(HP.AA b4 0 [.int .i64 0,.int .i64 0,.int .i64 0,.int .u64 0,.string ⟨#[]⟩,.slice none 0 0]*(HP.AA b3 0 (BU q)*(AS sb m*R))));ac_rfl) hw⟩) (AU (m,(⟨(m.s.AF q.stream).2,-1,(m.s.AF q.stream).1,0,⟨#[]⟩,[]⟩:Bd)) ⟨hm,hdo⟩ BR rfl)
  refine J1 ?_
  have hdo:m.s.asks q=((⟨0,-1,0,0,⟨#[]⟩,[]⟩:Bd),m.s):=by
   unfold AK.asks;rw [if_neg k1,if_neg k2,if_neg k3,if_neg k6,if_neg k7,if_neg k8,if_neg k9]
  exact AU (m,(⟨0,-1,0,0,⟨#[]⟩,[]⟩:Bd)) ⟨hm,hdo⟩ BR rfl
 ·rintro⟨m2,res⟩ ⟨hmo,hdo⟩;dsimp only at hmo hdo⊢;refine BV ?_;refine JL (Dp (l:=CB res) rfl rfl) ?_;refine Jr ?_;exact NA (AS sb m2*R) rfl (Iv (NI rfl rfl) (KX)) ⟨m2,hmo,by rw [hdo],by rw [hdo]<;>rfl,rfl⟩
theorem kB(p:Option Addr)(b o c:Nat)(rs:List RF)(H:HP)(hs:Sl p b o rs.length c)(hr:AW B H b o rs)(hl:rs.length<1000000000000):
  Fn Tryz.prog B 64 [.slice p rs.length c] H (fun v H'=>∃bb:Bool,v=.bool bb∧H'=H):=by
 refine mI Tryz.func64 ?_;refine J8 ?_;refine CZ ?_;refine BL (α:=Nat) (fun i=>[(3,iN i),(0,.slice p rs.length c)]) (fun _=>H) (fun i=>i≤rs.length) (fun i=>rs.length-i) 0 C9 La rfl ?_;rintro i hi;dsimp only at hi⊢;refine J9 ?_;refine mC (fun h7=>?_) (fun h7=>?_)
 ·have h7:i<rs.length:=h7;refine J5 ?_;refine BO (α:=Bool) (fun b=>[(23,.bool b),(3,iN i),(0,.slice p rs.length c)]) (fun _=>H) (fun _=>True) ?_ ?_
  ·refine J3 ?_;refine JL (Bm (i:=i) rfl rfl hs h7) ?_;refine J1 ?_;refine JL iW ?_;refine JL (CI (i:=(rs.getD i AB.AC).f.kind) (j:=4) rfl rfl) ?_;refine J1 ?_;refine CJ 16 rfl (fun hg1=>?_) (fun hg1=>?_)
   ·refine I8 ?_;refine I8 ?_;refine JP ?_;refine J1 ?_;exact AU _ trivial CN rfl
   refine KO ?_;refine Ir ?_;refine JL (Bm (i:=i) rfl rfl hs h7) ?_;refine JA ?_;refine JL iW ?_;refine Ir ?_;refine JL (CI (i:=(rs.getD i AB.AC).f.kind) (j:=6) rfl rfl) ?_;refine Jq ?_;refine J1 ?_;exact AU _ trivial CN rfl
  ·rintro bb _;refine J1 ?_;refine mc (fun hc=>?_) (fun hc=>?_)
   ·refine BV ?_;exact mR [2] H rfl rfl L2
   refine Fu ?_;exact At (i+1) h7 (by show rs.length-(i+1)<rs.length-i;omega) La rfl
 refine BV ?_;exact mR [2] H rfl rfl L2
end
end Go.Proofs.YtgfdlpcdjklcoaaGreatDoor
