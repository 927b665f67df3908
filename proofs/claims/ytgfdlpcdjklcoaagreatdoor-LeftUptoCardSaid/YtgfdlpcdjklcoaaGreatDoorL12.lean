/- A part of this proof: steps of the program, plain facts; no condition. -/
import Derived.Test.YtgfdlpcdjklcoaaGreatDoorL11
namespace Go.Proofs.YtgfdlpcdjklcoaaGreatDoor
open Go Go.RowKit
open _root_.List renaming mem_of_getElem?→J!,length_append→J?,getElem?_eq_some_iff→K_,length_map→K!,getElem?_map→K?,length_pos_iff→L!,length_singleton→M!,drop_eq_getElem_cons→M?,length_take→N_,getElem?_set_self→N!,append_nil→N?,drop_length→O!,length_drop→O?,length→P_,length_set→P!,drop_zero→P?
open _root_.UInt64 renaming ofNat→L_
open _root_.Nat renaming zero_le→L?,le_trans→Q_
open _root_.Int renaming toNat_natCast→M_,natCast_emod→O_
set_option linter.unusedVariables false
set_option linter.unusedSimpArgs false
set_option maxRecDepth 20000
section
variable{B:World}
theorem nR(c:Int)(n:Nat):AK c n=bE c n:=by
 unfold AK bE;split
 ·rename_i h;rw [show -(c+1)=(((-(c+1)).toNat:Nat):Int) by omega,←O_,M_,M_]
 ·rename_i h;rw [show c=((c.toNat:Nat):Int) by omega,←O_,M_,M_]
theorem IQ(c:Int)(hr: -9223372036854775808≤c∧c<9223372036854775808)(n:Nat)(hn:0<n)(H:HP):Fn Tryz.prog B 24 [.int .i64 c,iN n] H (fun v H'=>v=iN (AK c n)∧H'=H):=by
 refine mI Tryz.func24 ?_;refine IR ?_;refine J6 ?_;refine JL (LJ (i:=c) (j:=0) rfl rfl) ?_;refine J2 ?_;refine mC (fun hc=>?_) (fun hc=>?_)
 ·skip
  have e: -(c+1)=(((-(c+1)).toNat:Nat):Int):=by omega
  refine J2 ?_;refine JL (qG (i:=c) (j:=1) rfl rfl Ca) ?_;refine JL (eT (i:=c+1) rfl Ca) ?_;refine J7 ?_;refine JL Y2 ?_;refine J4 ?_;exact VW
 have e:c=((c.toNat:Nat):Int):=by omega
 refine J6 ?_;refine JL Y2 ?_;refine J4 ?_;exact VW
set_option maxHeartbeats 4000000 in
theorem Ge(hG:B.cell? ⟨0,0,none⟩=some (CZ 106))(cb t:Nat)(m:Ab)(q:La)(a:D')(c':AF)(hd:m.s.Bv q=(a,c'))(R:HP)(hm:m.ok)(hi:AZ t m.s)(ht:t<900000)(hq:q.data.size<90000000)(hmo2:q.AL<9223372036854775808):
  Fn Tryz.prog B 23 [ptr cb 0,.agg (DT q).toArray] (AT cb m*R) (fun v H'=>∃(m':Ab) (ps:A1),m'.ok∧m'.s=c'∧ps.ok a.A3∧
   v=.agg (BG a (.slice ps.p a.A3.length ps.c)).toArray∧H'=ps.h a.A3*(AT cb m'*R)):=by
 refine mI Tryz.func23 ?_;refine J2 ?_;refine Ag (Db (l:=DT q) rfl rfl) rfl ?_;rintro _ _ ⟨b3,rfl,rfl⟩;refine Ag GE rfl ?_;rintro _ _ ⟨b4,rfl,rfl⟩;refine J5 ?_;refine JL (Ds (l:=DT q) rfl rfl) ?_;refine A9 (H':=AT cb m*(HP.AA b4 0 [.int .i64 0,.int .i64 0,.int .i64 0,.int .u64 0,.string ⟨#[]⟩,.slice none 0 0]*(HP.AA b3 0 (DT q)*R))) Cf ?_;refine mE rfl (vJ hG cb t m q _ hm hi ht hq hmo2) ?_;rintro _ _ ⟨m2,ps,hm2,hs2,hps,rfl,rfl⟩;rw [hd]at hs2 hps⊢;dsimp only at hs2 hps⊢;refine zI ?_;refine JL (Ay (v':=.agg (BG a (.slice ps.p a.A3.length ps.c)).toArray) Ey rfl) ?_;refine Bi (De (cs:=BG a (.slice ps.p a.A3.length ps.c)) rfl rfl Ch Ce) ?_;refine Ep ?_;exact MU (ps.h a.A3*(AT cb m2*R)) (hE:=⟨fun ww hw=>Sat.right (A:=HP.AA b4 0 (BG a (.slice ps.p a.A3.length ps.c))*HP.AA b3 0 (DT q)) (Eq.mp Cm hw)⟩) rfl (IM (Mg rfl rfl) Jc) ⟨m2,ps,hm2,hs2,hps,rfl,rfl⟩
set_option maxHeartbeats 8000000 in
theorem aV(hG:B.cell? ⟨0,0,none⟩=some (CZ 106))(nb t i:Nat)(w:NM)(L:Nat→List (List AU))(Rr:Nat→Nat→Prop)(T:Nat→Nat→List UInt8)(H:HP)(hok:w.ok)(hw:Al t w.n L Rr T)(hi:i<2)(ht:t<800000):
  Fn Tryz.prog B 70 [ptr nb 0,iN i] (Av nb w*H) (fun v H'=>v=.bool true∧∃w':NM,w'.ok∧w'.n=(CR i 0 4 w.n).2∧Ij w w'∧H'=Av nb w'*H):=by
 refine mI Tryz.func70 ?_;refine J8 ?_;refine F8 ?_;refine Bm (α:=NM×Nat) (fun z=>[(5,iN z.2),(0,ptr nb 0),(1,iN i)]) (fun z=>Av nb z.1*H) (fun z=>z.1.ok∧Al t z.1.n L Rr T∧z.2≤4∧(CR i z.2 (4-z.2) z.1.n).2=(CR i 0 4 w.n).2∧Ij w z.1) (fun z=>4-z.2) (w,0) ⟨hok,hw,L? _,rfl,.refl _⟩ D6 rfl ?_;rintro⟨w1,k⟩ ⟨q1,q2,q3,q4,q5⟩;dsimp only at q1 q2 q3 q4 q5⊢;refine J4 ?_;refine JL (D4 (i:=k) (j:=4) rfl rfl) ?_;refine J2 ?_;refine mC (fun hk=>?_) (fun hk=>?_)
 ·obtain⟨C,r,E,hC,hr,hE,l1,l2,l3⟩:=q2.mem hi hi hk;have hCm:=J! hC;obtain⟨hca,hnx⟩:=q2.fJ hi hk;have hnb:=q2.RG hi hk;have hwn:w1.n.AG=w1.x.AG:=rfl;rw [hca]at hnb;have hci:=q2.c i hi;rw [NM.EO hC]at hca hnx hnb hci;rw [NM.I7 hr hE]at hnx hnb;have hwk:=hci.ws.ok k hk;have hb1:(C.c.s.w k).BA≤4096:=Q_ hwk.OF hwk.len;have n1:¬(C.c.s.w k).BA<E.o.AE:=fun x=>hnb (.inr (.inl x));have n2:¬E.o.wrote.length<(C.c.s.w k).BA:=fun x=>hnb (.inr (.inr (.inl x)));have n3:E.o.given=false→E.o.state=0→¬E.o.read+w1.x.AG<(C.c.s.w k).BA:=fun x y z=>hnb (.inr (.inr (.inr ⟨x,y,z⟩)))
  have hrd:E.o.read<1024000000:=(by
   have o:=q2.e i k hi hk
   rw [NM.I7 hr hE]at o
   have h7:=((q2.c (1-i) Ca).rs k hk).rt
   have h8:=o.read
   omega)
  have hwb:w1.x.AG≤1024:=(by have h7:=hci.w2;have h8:=q2.AG i hi;rw [NM.EO hC]at h8;omega)
  refine J5 ?_;refine Ai (H':=At nb w1.x*(AB w1.xa.b w1.xa.o w1.cs w1.xa.s*(AB w1.ea.b w1.ea.o w1.rows w1.ea.s*(AB w1.ba.b w1.ba.o w1.AJ w1.ba.s*(AB w1.ca.b w1.ca.o w1.cnt w1.ca.s*(AT C.cb C.c*(AB r.a.b r.a.o r.es r.a.s*(A7 E.q E.o*(B2 w1 i i k r*H))))))))) (Ej nb w1 H hC hr hE) ?_;refine J4 ?_;refine JL (Ay Dn q1.ev) ?_;refine J1 ?_;refine JL (CU (i:=i) rfl rfl q1.ea.1 Ca) ?_;refine JL (D8 (f:=0) (xs:=w1.rows) (v:=.slice r.a.p r.es.length r.a.c) rfl inferInstance To Ca) ?_;refine J1 ?_;refine JL (CU (i:=k) rfl rfl (q1.ra r Ps).1 Ca) ?_;refine JL Oc ?_;refine J8 ?_;refine JL (Ay Dn q1.xv) ?_;refine J1 ?_;refine JL (CU (i:=i) rfl rfl q1.xa.1 Ca) ?_;refine JL (D8 (f:=0) (xs:=w1.cs) (v:=ptr C.cb 0) rfl inferInstance Yb Ca) ?_;refine J1 ?_;refine JL (Ay (v':=.agg (DT ⟨9,(k:Nat),0,0,⟨#[]⟩⟩).toArray) Ey rfl) ?_;refine A9 (H':=AT C.cb C.c*((At nb w1.x*(AB w1.xa.b w1.xa.o w1.cs w1.xa.s*(AB w1.ea.b w1.ea.o w1.rows w1.ea.s*(AB w1.ba.b w1.ba.o w1.AJ w1.ba.s*(AB w1.ca.b w1.ca.o w1.cnt w1.ca.s*(AB r.a.b r.a.o r.es r.a.s*(A7 E.q E.o*(B2 w1 i i k r*H)))))))))) Cf ?_
  refine mE rfl (Ge hG C.cb t C.c ⟨9,(k:Nat),0,0,⟨#[]⟩⟩ ⟨0,-1,(C.c.s.w k).BA,0,⟨#[]⟩,[]⟩ C.c.s (by rw [yR,hca]) _ (q1.Ef C hCm) hci Ca Cw Cr) ?_;rintro _ _ ⟨m2,ps,hm2,hs2,hps,rfl,rfl⟩;dsimp only at hs2 hps⊢;refine Ag GE rfl ?_;rintro _ _ ⟨b7,rfl,rfl⟩;refine Bi (De (cs:=BG ⟨0,-1,(C.c.s.w k).BA,0,⟨#[]⟩,[]⟩ (.slice ps.p 0 ps.c)) rfl rfl Ch Ce) ?_;refine FB ?_;refine Ai (H':=HP.AA b7 0 (BG ⟨0,-1,(C.c.s.w k).BA,0,⟨#[]⟩,[]⟩ (.slice ps.p 0 ps.c))*(ps.h ([]:List ByteArray)*(At nb w1.x*(AB w1.xa.b w1.xa.o w1.cs w1.xa.s*(AB w1.ea.b w1.ea.o w1.rows w1.ea.s*(AB w1.ba.b w1.ba.o w1.AJ w1.ba.s*(AB w1.ca.b w1.ca.o w1.cnt w1.ca.s*(AT C.cb m2*(AB r.a.b r.a.o r.es r.a.s*(A7 E.q E.o*(B2 w1 i i k r*H))))))))))) Cf ?_;refine mA 22 22 ?_;refine It ?_;refine JT 2 rfl Pk ?_;refine Z2 ?_;refine Ak 6 rfl Cb rfl rfl rfl rfl Be ?_;refine Ak 7 rfl Cb rfl rfl rfl rfl CT ?_
  refine Z' ?_;refine Ak 10 rfl Cb rfl rfl rfl rfl (Ay (v':=.bool false) (D4 (i:=(C.c.s.w k).BA) (j:=E.o.AE) rfl rfl) (by rw [decide_eq_false n1])) ?_;refine JT 11 rfl Dh ?_;refine Jm 12 ?_;refine Ak 13 rfl Cb rfl rfl rfl rfl BO ?_;refine Ak 14 rfl Cb rfl rfl rfl rfl BX ?_;refine Ak 15 rfl Cb rfl rfl rfl rfl Be ?_;refine Ak 16 rfl Cb rfl rfl rfl rfl CT ?_;refine Y1 ?_;refine Ak 19 rfl Cb rfl rfl rfl rfl G6 ?_;refine Ak 20 rfl Cb rfl rfl rfl rfl (Ay (v':=.bool false) (GM (i:=(C.c.s.w k).BA) (j:=(AX E.o.wrote).size) rfl rfl) (by rw [En,decide_eq_false n2])) ?_;refine JT 21 rfl Dh ?_;refine FC ?_;refine Kn ?_;refine J4 ?_
  refine CO (α:=Unit) (fun _=>[(80,.bool false),(7,ptr b7 0),(6,ptr E.q 0),(5,iN k),(0,ptr nb 0),(1,iN i)]) (fun _=>HP.AA b7 0 (BG ⟨0,-1,(C.c.s.w k).BA,0,⟨#[]⟩,[]⟩ (.slice ps.p 0 ps.c))*(ps.h ([]:List ByteArray)*(At nb w1.x*(AB w1.xa.b w1.xa.o w1.cs w1.xa.s*(AB w1.ea.b w1.ea.o w1.rows w1.ea.s*(AB w1.ba.b w1.ba.o w1.AJ w1.ba.s*(AB w1.ca.b w1.ca.o w1.cnt w1.ca.s*(AT C.cb m2*(AB r.a.b r.a.o r.es r.a.s*(A7 E.q E.o*(B2 w1 i i k r*H))))))))))) (fun _=>True) ?_ ?_
  ·refine mA 27 27 ?_;refine IN ?_;refine JT 4 rfl LD ?_;refine Jm 5 ?_;refine Lu 59 rfl (fun hg1=>?_) (fun hg1=>?_)
   ·refine JY 6 rfl hg1 Be ?_;refine JY 7 rfl hg1 CT ?_;refine JY 8 rfl hg1 BO ?_;refine JY 9 rfl hg1 BX ?_;refine JY 10 rfl hg1 (B6 (i:=E.o.state) (j:=0) rfl rfl) ?_;refine JT 11 rfl Jp ?_;refine Jm 12 ?_;refine Gb 66 rfl (fun hg2=>?_) (fun hg2=>?_)
    ·refine JY 13 rfl T2 BO ?_;refine JY 14 rfl T2 BX ?_;refine JY 15 rfl T2 Be ?_;refine YI ?_;refine JY 20 rfl T2 CT ?_;refine JY 21 rfl T2 BO ?_;refine JY 22 rfl T2 BO ?_;refine JY 23 rfl T2 BX ?_;refine JY 24 rfl T2 (Gx (i:=E.o.read) (j:=w1.x.AG) rfl rfl Ca) ?_;refine JY 25 rfl T2 (GM (i:=(C.c.s.w k).BA) (j:=E.o.read+w1.x.AG) rfl rfl) ?_;refine JT 26 rfl Hr ?_;refine JD ?_;exact Re
    refine JN 13 rfl F2 ?_;refine JN 14 rfl F2 ?_;refine WX ?_;refine JN 24 rfl F2 ?_;refine JN 25 rfl F2 ?_;refine JT 26 rfl HZ ?_;refine JD ?_;exact Re
   refine Su ?_;refine JT 11 rfl Ia ?_;refine Jm 12 ?_;refine U7 ?_;refine JT 26 rfl Dh ?_;refine JD ?_;exact Re
  ·rintro⟨⟩ _;refine J1 ?_;refine Kn ?_;refine Gt ?_;refine E7 ?_
   have hn9:(w1.put i i k ⟨C.cb,m2⟩ r ⟨E.q,{E.o with AE:=(C.c.s.w k).BA}⟩).n=w1.n.DQ i k {E.o with AE:=(C.c.s.w k).BA}:=by rw [NM.Fw w1 hC hr,hs2,Qn hC]
   exact Bd (Av nb (w1.put i i k ⟨C.cb,m2⟩ r ⟨E.q,{E.o with AE:=(C.c.s.w k).BA}⟩)*H) (hE:=⟨fun ww hw=>Sat.right (A:=HP.AA b7 0 (BG ⟨0,-1,(C.c.s.w k).BA,0,⟨#[]⟩,[]⟩ (.slice ps.p 0 ps.c))*ps.h ([]:List ByteArray)) (Eq.mp (by congr 1;rw [IT nb w1 H hC hr hE];ac_rfl) hw)⟩) (Ba ((w1.put i i k ⟨C.cb,m2⟩ r ⟨E.q,{E.o with AE:=(C.c.s.w k).BA}⟩),k+1) ⟨q1.put hC hr hE hm2 _,by show Al t (w1.put i i k ⟨C.cb,m2⟩ r ⟨E.q,{E.o with AE:=(C.c.s.w k).BA}⟩).n L Rr T;rw [hn9];exact hnx,by show k+1≤4;omega,by
     show(CR i (k+1) (4-(k+1)) (w1.put i i k ⟨C.cb,m2⟩ r ⟨E.q,{E.o with AE:=(C.c.s.w k).BA}⟩).n).2=_
     rw [hn9,←q4,show 4-k=(4-(k+1))+1 by omega,CR,if_neg (q2.RG hi hk),NM.EO hC,NM.I7 hr hE,hca],q5.trans (.put w1 hr hE _ _)⟩ Ww D6 rfl)
 refine Bt ?_
 have hk4:k=4:=by omega
 subst hk4;exact mR [4] (Av nb w1*H) rfl rfl ⟨rfl,w1,q1,q4,q5,rfl⟩
end
section
variable{B:World}
theorem kX(hG:B.cell? ⟨0,0,none⟩=some (CZ 106))(ks:List UInt8)(hk:ks.length=16)(first:Bool)(xs:List UInt8)(p:Option Addr)(b o c:Nat)(H:HP)(hs:Sl p b o xs.length c)(hr:Ad B H b o xs)(hx:xs.length<90000000):
  Fn Tryz.prog B 55 [.agg (AD ks).toArray,.bool first,.slice p xs.length c] H (fun v H'=>∃(a sv:Value) (e:Nat) (G:HP),v=.tuple #[a,sv,iN e]∧(e=0→Bz ks (Af first) xs≠none)∧(e≠0→Bz ks (Af first) xs=none)∧H'=G*H):=by
 cases hop:Bz ks (Af first) xs with
 |none=>
  refine(pI hG ks hk first xs p b o c H hs hr hx hop).mono ?_;refine JR ?_;exact⟨_,_,4,HP.BD,rfl,(fun h=>absurd h Cc),fun _=>rfl,(HP.BI _).symm⟩
 |some z=>
  obtain⟨n,ys⟩:=z;refine(bK ks hk first xs n ys p b o c H hs hr hx hop).mono ?_;rintro _ _ ⟨sv,rfl,⟨_,rfl,rfl⟩|⟨_,p',b',o',c',s',rfl,_,_,rfl⟩⟩
  ·exact⟨_,_,0,HP.BD,rfl,(fun _ h=>by cases h),fun h=>absurd rfl h,(HP.BI _).symm⟩
  ·exact⟨_,_,0,_,rfl,(fun _ h=>by cases h),fun h=>absurd rfl h,rfl⟩
set_option maxHeartbeats 8000000 in
theorem YN(hG:B.cell? ⟨0,0,none⟩=some (CZ 106))(nb t i:Nat)(s:ByteArray)(w:NM)(L:Nat→List (List AU))(Rr:Nat→Nat→Prop)(H:HP)(hok:w.ok)(hw:Al t w.n L Rr Bb)(hb:(i,s)∈w.n.AJ)(ht:t<800000):
  Fn Tryz.prog B 74 [ptr nb 0,iN i,.string s] (Av nb w*H) (fun v H'=>v=.bool true∧∃w':NM,w'.ok∧w'.n=(w.n.comes i s).2∧H'=Av nb w'*H):=by
 refine mI Tryz.func74 ?_;obtain⟨hi,hsz,hrv,R',hx⟩:=hw.recv hb Ca;obtain⟨C,r,E,hC,hr,hE,l1,l2,l3⟩:=hw.mem hi hi UE;have hCm:=J! hC;have hci:=hw.c i hi;dsimp only at hsz hrv hx;rw [NM.EO hC]at hrv hx hci
 have hcn:(w.n.comes i s).2=(CR i 0 4 (w.n.Aq i (C.c.s.A5 s.data.toList).2)).2:=by unfold AN.comes;rw [NM.EO hC]
 obtain⟨rv,erv⟩:∃rv,rv=(C.c.s.A5 s.data.toList):=Bh
 rw [←erv]at hrv hx hcn;refine J6 ?_;refine Ai (H':=At nb w.x*(AB w.xa.b w.xa.o w.cs w.xa.s*(AB w.ea.b w.ea.o w.rows w.ea.s*(AB w.ba.b w.ba.o w.AJ w.ba.s*(AB w.ca.b w.ca.o w.cnt w.ca.s*(AT C.cb C.c*(AB r.a.b r.a.o r.es r.a.s*(A7 E.q E.o*(B2 w i i 0 r*H))))))))) (Ej nb w H hC hr hE) ?_;refine J4 ?_;refine Pr ?_;refine J1 ?_;refine JL bB ?_;refine A9 (H':=AT C.cb C.c*((At nb w.x*(AB w.xa.b w.xa.o w.cs w.xa.s*(AB w.ea.b w.ea.o w.rows w.ea.s*(AB w.ba.b w.ba.o w.AJ w.ba.s*(AB w.ca.b w.ca.o w.cnt w.ca.s*(AB r.a.b r.a.o r.es r.a.s*(A7 E.q E.o*(B2 w i i 0 r*H)))))))))) Cf ?_;refine mE rfl (Ge hG C.cb t C.c ⟨6,0,0,0,s⟩ ⟨rv.1.1,rv.1.2,0,0,⟨#[]⟩,[]⟩ rv.2 (by rw [UO,←erv]) _ (hok.Ef C hCm) hci Ca (by show s.size<_;omega) Cr) ?_;rintro _ _ ⟨m2,ps,hm2,hs2,hps,rfl,rfl⟩;dsimp only at hs2 hps⊢;refine Ag GE rfl ?_;rintro _ _ ⟨b7,rfl,rfl⟩
 refine Bi (De (cs:=BG ⟨rv.1.1,rv.1.2,0,0,⟨#[]⟩,[]⟩ (.slice ps.p 0 ps.c)) rfl rfl Ch Ce) ?_;refine Ep ?_
 have hn9:(w.put i i 0 ⟨C.cb,m2⟩ r ⟨E.q,E.o⟩).n=w.n.Aq i rv.2:=by rw [NM.Fw w hC hr,hs2];exact H6 hr hE _
 refine Ai (H':=Av nb (w.put i i 0 ⟨C.cb,m2⟩ r ⟨E.q,E.o⟩)*(HP.AA b7 0 (BG ⟨rv.1.1,rv.1.2,0,0,⟨#[]⟩,[]⟩ (.slice ps.p 0 ps.c))*(ps.h ([]:List ByteArray)*H))) R9 ?_;refine J3 ?_;refine mE rfl (aV hG nb t i (w.put i i 0 ⟨C.cb,m2⟩ r ⟨E.q,E.o⟩) L _ Bb _ (hok.put hC hr hE hm2 _) (by rw [hn9];exact hx) hi Ca) ?_;rintro _ _ ⟨rfl,w2,hok2,hn2,_,rfl⟩;rw [hn9,←hcn]at hn2;refine J7 ?_;refine FJ ?_;refine FO ?_;refine JL gY ?_;refine FJ ?_;refine J1 ?_;refine EL 27 rfl (fun hg1=>?_) (fun hg1=>?_)
 ·refine MI ?_;refine JH T1 ?_;refine FJ ?_;refine JL Fu ?_;refine Ga ?_;refine J4 ?_;exact Xa
 refine PX ?_;refine JL (B6 (i:=rv.1.1) (j:=6) rfl rfl) ?_;refine FJ ?_;refine JL Eo ?_;refine Ga ?_;refine J4 ?_;exact Xa
set_option maxHeartbeats 8000000 in
theorem Rz(hG:B.cell? ⟨0,0,none⟩=some (CZ 106))(nb t i:Nat)(s:ByteArray)(w:NM)(L:Nat→List (List AU))(Rr:Nat→Nat→Prop)(H:HP)(hok:w.ok)(hw:Al t w.n L Rr Bb)(hi:i<2)(hs:s.size<90000000)(ht:t<800000):
  Fn Tryz.prog B 72 [ptr nb 0,iN i,.string s] (Av nb w*H) (fun v H'=>v=.bool true∧∃w':NM,w'.ok∧w'.n=(w.n.Do i s.data.toList).2∧H'=Av nb w'*H):=by
 refine mI Tryz.func72 ?_;obtain⟨C,r,E,hC,hr,hE,l1,l2,l3⟩:=hw.mem hi hi UE;have hCm:=J! hC;have hci:=hw.c i hi;rw [NM.EO hC]at hci;refine J6 ?_;refine WV ?_;refine J4 ?_;refine JL (Ds (l:=AD w.x.ks) rfl (GO hok.ks)) ?_;refine J1 ?_;refine JL (FE (i:=i) (j:=0) rfl rfl) ?_;refine J1 ?_;refine Ag (Tw rfl) rfl ?_;rintro _ _ ⟨p19,b19,o19,c19,s19,rfl,hs19,hc19,rfl⟩;refine mE rfl (kX hG w.x.ks hok.ks (decide (i≠0)) s.data.toList p19 b19 o19 c19 _ hs19 inferInstance (by rw [Array.length_toList];exact hs)) ?_;rintro _ _ ⟨a20,sv20,e20,G,rfl,hy,hn,rfl⟩;refine F5z ?_;refine JL (B6 (i:=e20) (j:=0) rfl rfl) ?_;refine J2 ?_;refine mC (fun h25=>?_) (fun h25=>?_)
 ·skip
  have hf:w.n.Do i s.data.toList=(true,w.n):=by
   have h7:=hy h25;unfold AN.Do;show(match Bz w.x.ks _ _ with|some _=>_|none=>_)=_;split
   ·rfl
   ·rename_i h8;exact absurd h8 h7
  refine J7 ?_;exact mR [6] (Av nb w*H) (hE:=⟨fun ww hw=>Sat.right (A:=G*AB b19 o19 s.data.toList s19) (Eq.mp (by congr 1;rw [Ej nb w H hC hr hE];ac_rfl) hw)⟩) rfl rfl ⟨rfl,w,hok,by rw [hf],rfl⟩
 have h7:=hn h25;have h8:=hw.Y0 hi h7
 have hf:w.n.Do i s.data.toList=(true,w.n.Aq i (w.n.x i)):=by
  unfold AN.Do;rw [show Bz w.n.ks (Af (decide (i≠0))) s.data.toList=none from h7,h8];rfl
 rw [NM.EO hC]at h8 hf;refine J7 ?_;refine Pr ?_;refine J1 ?_;refine JL bB ?_;refine A9 (H':=AT C.cb C.c*(G*AB b19 o19 s.data.toList s19*(At nb w.x*(AB w.xa.b w.xa.o w.cs w.xa.s*(AB w.ea.b w.ea.o w.rows w.ea.s*(AB w.ba.b w.ba.o w.AJ w.ba.s*(AB w.ca.b w.ca.o w.cnt w.ca.s*(AB r.a.b r.a.o r.es r.a.s*(A7 E.q E.o*(B2 w i i 0 r*H)))))))))) Cf ?_;refine mE rfl (Ge hG C.cb t C.c ⟨6,0,0,0,s⟩ ⟨4,-1,0,0,⟨#[]⟩,[]⟩ C.c.s (by rw [UO,h8]) _ (hok.Ef C hCm) hci Ca hs Cr) ?_;rintro _ _ ⟨m2,ps,hm2,hs2,hps,rfl,rfl⟩;dsimp only at hs2 hps⊢;refine Ag GE rfl ?_;rintro _ _ ⟨b10,rfl,rfl⟩;refine Bi (De (cs:=BG ⟨4,-1,0,0,⟨#[]⟩,[]⟩ (.slice ps.p 0 ps.c)) rfl rfl Ch Ce) ?_;refine Ik ?_;refine JL (B6 (i:=4) (j:=4) rfl rfl) ?_;refine J4 ?_
 exact mR [6] (Av nb (w.put i i 0 ⟨C.cb,m2⟩ r ⟨E.q,E.o⟩)*H) (hE:=⟨fun ww hw=>Sat.right (A:=HP.AA b10 0 (BG ⟨4,-1,0,0,⟨#[]⟩,[]⟩ (.slice ps.p 0 ps.c))*(ps.h ([]:List ByteArray)*(G*AB b19 o19 s.data.toList s19))) (Eq.mp Z7 hw)⟩) rfl rfl ⟨rfl,(w.put i i 0 ⟨C.cb,m2⟩ r ⟨E.q,E.o⟩),hok.put hC hr hE hm2 _,by rw [hf,NM.Fw w hC hr,hs2];exact H6 hr hE _,rfl⟩
set_option maxHeartbeats 8000000 in
theorem X1(hG:B.cell? ⟨0,0,none⟩=some (CZ 106))(nb t i k AL:Nat)(w:NM)(L:Nat→List (List AU))(Rr:Nat→Nat→Prop)(H:HP)(hok:w.ok)(hw:Al t w.n L Rr Bb)(hi:i<2)(hk:k<4)(hm:AL<1000000)(ht:t<800000):
  Fn Tryz.prog B 71 [ptr nb 0,iN i,iN k,iN AL] (Av nb w*H) (fun v H'=>v=.bool true∧∃w':NM,w'.ok∧w'.n=(w.n.read i k AL).2∧H'=Av nb w'*H):=by
 refine mI Tryz.func71 ?_;obtain⟨C,r,E,hC,hr,hE,l1,l2,l3⟩:=hw.mem (i:=i) (j:=1-i) hi Ca hk;have hCm:=J! hC;have hci:=hw.c i hi;have hrd:=(hw.reads hi hk AL).1;have hrn:=Wj w.n i k AL hrd;rw [NM.EO hC,NM.I7 hr hE]at hrd;rw [NM.EO hC,NM.I7 hr hE]at hrn;rw [NM.EO hC]at hci
 have hwr:E.o.wrote.length≤4096:=(by
  have o:=hw.e (1-i) k Ca hk
  have h7:=((hw.c (1-i) Ca).ws.ok k hk).len
  have h8:=congrArg P_ o.wrote
  rw [NM.I7 hr hE,N?]at h8
  have h7:((w.n.x (1-i)).w k).b.length≤4096:=h7
  omega)
 obtain⟨rv,erv⟩:∃rv,rv=(C.c.s.read (k:Nat) (AL:Nat)):=Bh
 rw [←erv]at hrd hrn;have f1:=hrd.e;have f2:=hrd.len;have f3:=hrd.fits;have f4:=hrd.data;have f5:=hrd.shut;have f6:=hrd.open_;have f7:=hrd.fin;have f8:=hrd.CL;have f9:=hrd.st;refine J6 ?_;refine Ai (H':=At nb w.x*(AB w.xa.b w.xa.o w.cs w.xa.s*(AB w.ea.b w.ea.o w.rows w.ea.s*(AB w.ba.b w.ba.o w.AJ w.ba.s*(AB w.ca.b w.ca.o w.cnt w.ca.s*(AT C.cb C.c*(AB r.a.b r.a.o r.es r.a.s*(A7 E.q E.o*(B2 w i (1-i) k r*H))))))))) (Ej nb w H hC hr hE) ?_;refine J4 ?_;refine JL dJ ?_;refine J1 ?_;refine JL (Ie (i:=1) (j:=i) rfl rfl Ca) ?_;refine JL (CU (i:=1-i) rfl rfl hok.ea.1 Ca) ?_;refine JL aL ?_;refine J1 ?_;refine JL (CU (i:=k) rfl rfl (hok.ra r Ps).1 Ca) ?_;refine JL Oc ?_;refine J8 ?_;refine Pr ?_;refine J2 ?_;refine JL (Ay (v':=.agg (DT ⟨7,(k:Nat),(AL:Nat),0,⟨#[]⟩⟩).toArray) Ey rfl) ?_
 refine A9 (H':=AT C.cb C.c*((At nb w.x*(AB w.xa.b w.xa.o w.cs w.xa.s*(AB w.ea.b w.ea.o w.rows w.ea.s*(AB w.ba.b w.ba.o w.AJ w.ba.s*(AB w.ca.b w.ca.o w.cnt w.ca.s*(AB r.a.b r.a.o r.es r.a.s*(A7 E.q E.o*(B2 w i (1-i) k r*H)))))))))) Cf ?_;refine mE rfl (Ge hG C.cb t C.c ⟨7,(k:Nat),(AL:Nat),0,⟨#[]⟩⟩ ⟨rv.1.2.2.2,-1,rv.1.2.1,rv.1.2.2.1,AX rv.1.1,[]⟩ rv.2 (by rw [YD,←erv]) _ (hok.Ef C hCm) hci Ca Cw (by show((AL:Nat):Int)<_;omega)) ?_;rintro _ _ ⟨m2,ps,hm2,hs2,hps,rfl,rfl⟩;dsimp only at hs2 hps⊢;refine Ag GE rfl ?_;rintro _ _ ⟨b10,rfl,rfl⟩;refine Bi (De (cs:=BG ⟨rv.1.2.2.2,-1,rv.1.2.1,rv.1.2.2.1,AX rv.1.1,[]⟩ (.slice ps.p 0 ps.c)) rfl rfl Ch Ce) ?_;refine FB ?_;refine cB ?_
 refine CO (α:=Unit) (fun _=>[(101,.bool false),(10,ptr b10 0),(9,ptr E.q 0)]) (fun _=>HP.AA b10 0 (BG ⟨rv.1.2.2.2,-1,rv.1.2.1,rv.1.2.2.1,AX rv.1.1,[]⟩ (.slice ps.p 0 ps.c))*(ps.h ([]:List ByteArray)*(At nb w.x*(AB w.xa.b w.xa.o w.cs w.xa.s*(AB w.ea.b w.ea.o w.rows w.ea.s*(AB w.ba.b w.ba.o w.AJ w.ba.s*(AB w.ca.b w.ca.o w.cnt w.ca.s*(AT C.cb m2*(AB r.a.b r.a.o r.es r.a.s*(A7 E.q E.o*(B2 w i (1-i) k r*H))))))))))) (fun _=>True) ?_ ?_
 ·refine cB ?_;refine mA 69 69 ?_;refine It ?_;refine JT 2 rfl (Ay (v':=.bool false) (FE (i:=rv.1.2.2.2) (j:=0) rfl rfl) N5) ?_;refine Z2 ?_;refine Ak 6 rfl Cb rfl rfl rfl rfl G6 ?_;refine Ak 7 rfl Cb rfl rfl rfl rfl Be ?_;refine Ak 8 rfl Cb rfl rfl rfl rfl (Ay (v':=.bool false) (GM (i:=(AX rv.1.1).size) (j:=AL) rfl rfl) Zd) ?_;refine JT 9 rfl Dh ?_;refine Jm 10 ?_;refine Ak 11 rfl Cb rfl rfl rfl rfl BO ?_;refine Ak 12 rfl Cb rfl rfl rfl rfl BX ?_;refine Ak 13 rfl Cb rfl rfl rfl rfl G6 ?_;refine Ak 14 rfl Cb rfl rfl rfl rfl Be ?_
  refine Ak 15 rfl Cb rfl rfl rfl rfl CT ?_;refine Ak 16 rfl Cb rfl rfl rfl rfl BO ?_;refine Ak 17 rfl Cb rfl rfl rfl rfl BX ?_;refine Ak 18 rfl Cb rfl rfl rfl rfl G6 ?_;refine Ak 19 rfl Cb rfl rfl rfl rfl Be ?_;refine Ak 20 rfl Cb rfl rfl rfl rfl CT ?_;refine Ak 21 rfl Cb rfl rfl rfl rfl BO ?_;refine Ak 22 rfl Cb rfl rfl rfl rfl BX ?_;refine Ak 23 rfl Cb rfl rfl rfl rfl (Ie (i:=(AX E.o.wrote).size) (j:=E.o.read) rfl rfl KZ) ?_;refine Ak 24 rfl Cb rfl rfl rfl rfl (Ay (v':=.bool false) (GM (i:=(AX rv.1.1).size) (j:=(AX E.o.wrote).size-E.o.read) rfl rfl) (by rw [En,En,decide_eq_false Ca])) ?_;refine JT 25 rfl Dh ?_;refine Jm 26 ?_;refine Ak 27 rfl Cb rfl rfl rfl rfl Be ?_;refine Ak 28 rfl Cb rfl rfl rfl rfl CT ?_;refine Ak 29 rfl Cb rfl rfl rfl rfl BO ?_;refine Ak 30 rfl Cb rfl rfl rfl rfl BX ?_;refine Ak 31 rfl Cb rfl rfl rfl rfl Be ?_;refine Ak 32 rfl Cb rfl rfl rfl rfl CT ?_
  refine Ak 33 rfl Cb rfl rfl rfl rfl BO ?_;refine Ak 34 rfl Cb rfl rfl rfl rfl BX ?_;refine Ak 35 rfl Cb rfl rfl rfl rfl Be ?_;refine Ak 36 rfl Cb rfl rfl rfl rfl CT ?_;refine YF ?_;refine Ak 39 rfl Cb rfl rfl rfl rfl BO ?_;refine Ak 40 rfl Cb rfl rfl rfl rfl BX ?_;refine Ak 41 rfl Cb rfl rfl rfl rfl G6 ?_;refine Ak 42 rfl Cb rfl rfl rfl rfl VA ?_;refine Ak 43 rfl Cb rfl rfl rfl rfl (Ay (v':=.string (AX rv.1.1)) (ZW (l:=E.o.read) (h:=E.o.read+(AX rv.1.1).size) rfl rfl rfl (by rw [En,En];omega)) (by rw [QX _ _ _ KZ,En,List.drop_take,Nat.add_sub_cancel_left,f4])) ?_;refine Ak 44 rfl Cb rfl rfl rfl rfl BO ?_;refine Ak 45 rfl Cb rfl rfl rfl rfl BX ?_;refine Ak 46 rfl Cb rfl rfl rfl rfl VY ?_;refine JT 47 rfl Dh ?_
  refine Jm 48 ?_;refine Ak 49 rfl Cb rfl rfl rfl rfl Be ?_;refine Ak 50 rfl Cb rfl rfl rfl rfl CT ?_;refine Ak 51 rfl Cb rfl rfl rfl rfl BO ?_;refine Ak 52 rfl Cb rfl rfl rfl rfl BX ?_;refine Ak 53 rfl Cb rfl rfl rfl rfl (FE (i:=E.o.state) (j:=0) rfl rfl) ?_;refine Ak 54 rfl Cb rfl rfl rfl rfl Be ?_;refine Gb 87 rfl (fun hg1=>?_) (fun hg1=>?_)
  ·obtain⟨f51,f52⟩:=f5 hg1;refine JY 55 rfl T1 BO ?_;refine JY 56 rfl T1 BX ?_;refine JY 57 rfl T1 (Ay (v':=.bool false) ZT (by rw [f51,decide_eq_false (fun x=>x rfl)])) ?_;refine JY 58 rfl T1 Be ?_;refine Ak 59 rfl Cb rfl rfl rfl rfl BO ?_;refine Ak 60 rfl Cb rfl rfl rfl rfl BX ?_;refine Ak 61 rfl Cb rfl rfl rfl rfl Be ?_;refine Ak 62 rfl Cb rfl rfl rfl rfl CT ?_;refine Ak 63 rfl Cb rfl rfl rfl rfl BO ?_;refine Ak 64 rfl Cb rfl rfl rfl rfl BX ?_;refine Ak 65 rfl Cb rfl rfl rfl rfl (Ay (v':=.bool false) (FE (i:=rv.1.2.1) (j:=E.o.state) rfl rfl) (by rw [decide_eq_false (fun x=>x f52)])) ?_;refine JY 66 rfl T1 Dh ?_;refine Ak 67 rfl Cb rfl rfl rfl rfl Fu ?_;refine JT 68 rfl Dh ?_;refine JD ?_;exact A8 () trivial D6 rfl
  refine JN 55 rfl F1 ?_;refine JN 56 rfl F1 ?_;refine JN 57 rfl F1 ?_;refine JN 58 rfl F1 ?_;refine JU 59 ?_;refine JU 60 ?_;refine JU 61 ?_;refine JU 62 ?_;refine JU 63 ?_;refine JU 64 ?_;refine JU 65 ?_;refine JN 66 rfl F1 ?_;refine Ak 67 rfl Cb rfl rfl rfl rfl Eo ?_;refine JT 68 rfl Dh ?_;refine JD ?_;exact A8 () trivial D6 rfl
 ·rintro⟨⟩ _;refine J1 ?_;refine Kn ?_;refine J3 ?_;refine mA 11 12 ?_;refine LT ?_;refine Jf 5 ?_;refine Jd 6 ?_;refine JT 7 rfl G6 ?_;refine JT 8 rfl VA ?_;refine Jn 9 ?_;refine Jf 10 ?_;refine DV 11 Cb rfl (Eh (v:=iN (E.o.read+rv.1.1.length)) rfl (by rw [←En rv.1.1];rfl) rfl Cd) ?_;refine DB ?_;refine J8 ?_;refine Bi (Eh (v:=iN rv.1.2.1) rfl rfl rfl Cd) ?_;refine JR ?_;refine DP ?_;refine JL (B6 (i:=rv.1.2.1) (j:=0) rfl rfl) ?_;refine J3 ?_;refine mC (fun h0=>?_) (fun h0=>?_)
  ·refine J4 ?_;refine JL Zf ?_;refine J6 ?_;exact mR [8] (Av nb (w.put i (1-i) k ⟨C.cb,m2⟩ r ⟨E.q,{E.o with read:=E.o.read+rv.1.1.length,state:=rv.1.2.1}⟩)*H) (hE:=Wg) rfl rfl ⟨congrArg Value.bool (decide_eq_true (f6 h0)),(w.put i (1-i) k ⟨C.cb,m2⟩ r ⟨E.q,{E.o with read:=E.o.read+rv.1.1.length,state:=rv.1.2.1}⟩),hok.put hC hr hE hm2 _,YC,rfl⟩
  refine J2 ?_;refine JL (B6 (i:=rv.1.2.1) (j:=1) rfl rfl) ?_;refine J3 ?_;refine mC (fun h1=>?_) (fun h1=>?_)
  ·obtain⟨g1,g2,g3⟩:=f7 h1;refine J1 ?_;refine mA 22 22 ?_;refine Lo ?_;refine Ak 5 rfl Cb rfl rfl rfl g1 Be ?_;refine Ak 6 rfl Cb rfl rfl rfl g1 CT ?_;refine Ak 7 rfl Cb rfl rfl rfl g1 BO ?_;refine Ak 8 rfl Cb rfl rfl rfl g1 BX ?_;refine Ak 9 rfl Cb rfl rfl rfl g1 Be ?_;refine Ak 10 rfl Cb rfl rfl rfl g1 CT ?_;refine Ak 11 rfl Cb rfl rfl rfl g1 BO ?_;refine Ak 12 rfl Cb rfl rfl rfl g1 BX ?_;refine Ak 13 rfl Cb rfl rfl rfl g1 G6 ?_;refine Ak 14 rfl Cb rfl rfl rfl g1 (Ay (v':=.bool true) (B6 (i:=E.o.read+rv.1.1.length) (j:=(AX E.o.wrote).size) rfl rfl) (by rw [En,decide_eq_true g2])) ?_;refine JT 15 rfl (GK g1 rfl rfl) ?_;refine Jm 16 ?_;refine Y1 ?_;refine Ak 19 rfl Cb rfl rfl rfl rfl (Ay (v':=.bool true) Zf (by rw [decide_eq_true g3])) ?_;refine JT 20 rfl Uh ?_;refine Ja 21 ?_;refine K4 ?_
   exact Uz
  refine J2 ?_;refine JL (B6 (i:=rv.1.2.1) (j:=2) rfl rfl) ?_;refine J3 ?_;refine mC (fun h2=>?_) (fun h2=>?_)
  ·obtain⟨g1,g2⟩:=f8 h2;refine J1 ?_;refine mA 14 14 ?_;refine Lo ?_;refine Ak 5 rfl Cb rfl rfl rfl g1 BO ?_;refine Ak 6 rfl Cb rfl rfl rfl g1 BX ?_;refine Ak 7 rfl Cb rfl rfl rfl g1 Be ?_;refine Ak 8 rfl Cb rfl rfl rfl g1 CT ?_;refine Ak 9 rfl Cb rfl rfl rfl g1 BO ?_;refine Ak 10 rfl Cb rfl rfl rfl g1 BX ?_;refine Ak 11 rfl Cb rfl rfl rfl g1 (Ay (v':=.bool true) (B6 (i:=rv.1.2.2.1) (j:=E.o.code) rfl rfl) (by rw [decide_eq_true g2])) ?_;refine JT 12 rfl (GK g1 rfl rfl) ?_;refine Ja 13 ?_;refine K4 ?_;exact Uz
  exfalso;omega
end
section
structure Hc(n:AN):Prop where
 xl:n.xs.length=2
 el:n.ends.length=2
 EK:∀i,i<2→(n.ends.getD i []).length=4
 cl:n.count.length=2
theorem Al.len{t:Nat}{n:AN}{L:Nat→List (List AU)}{R:Nat→Nat→Prop}{T:Nat→Nat→List UInt8}(h:Al t n L R T):Hc n:=⟨h.xl,h.el,h.EK,h.cl⟩
theorem Hc.Aq{n:AN}(h:Hc n)(i:Nat)(c:AF):Hc (n.Aq i c):=⟨by show(n.xs.set _ _).length=2;rw [P!];exact h.xl,h.el,h.EK,h.cl⟩
structure Iw(t:Nat)(n:AN)(i:Nat)(Ls:List (List AU)):Prop where
 len:Hc n
 c:AZ t (n.x i)
 p:(n.x i).A3.1=outs n.ks (Af (decide (i=0))) (n.cnt i) Ls
 AI:n.AI≤300
 U2:n.cnt i+Ls.length≤4611686018427387903
 fs:∀fs∈Ls,fs≠ []∧(Ap fs).length+16≤n.AI
 bl:n.AJ.length+Ls.length<90000000
 ks:n.ks.length=16
structure KN(n0:AN)(i:Nat)(Ls:List (List AU))(n:AN)(j:Nat):Prop where
 len:Hc n
 ks:n.ks=n0.ks
 AI:n.AI=n0.AI
 cnt:n.cnt i=n0.cnt i+j
 le:j≤Ls.length
 bl:n.AJ.length=n0.AJ.length+j
 rest:GY i (outs n0.ks (Af (decide (i=0))) (n0.cnt i+j) (Ls.drop j)) n=n0.flush i
theorem Al.Jj{t:Nat}{n:AN}{L:Nat→List (List AU)}{R:Nat→Nat→Prop}(h:Al t n L R Bb){i:Nat}(hi:i<2)(ht:t≤1000000):∃Ls,Iw t n i Ls:=by
 obtain⟨Ls,a,b,c,d⟩:=h.Uo hi;have h0:=(h.c 0 Ca).nx;have h1:=(h.c 1 Ca).nx;have l0:=(h.at (i:=0) Ca).s.len;have l1:=(h.at (i:=1) Ca).s.len;have hb:=h.bl;refine⟨Ls,h.len,h.c i hi,by rw [h.cnt i hi];exact a,b,by rw [h.cnt i hi];omega,d,?_,by rw [←h.ks i hi];exact(h.c i hi).ks⟩;rcases IE hi with rfl|rfl<;>omega
theorem Iw.begin{t:Nat}{n:AN}{i:Nat}{Ls:List (List AU)}(h:Iw t n i Ls):KN n i Ls (n.Aq i (n.x i).A3.2) 0:=
 ⟨h.len.Aq _ _,rfl,rfl,rfl,L? _,rfl,by unfold AN.flush;rw [h.p];rfl⟩
theorem KN.step{t:Nat}{n0:AN}{i:Nat}{Ls:List (List AU)}(h0:Iw t n0 i Ls)(hi:i<2){n:AN}{j:Nat}(h:KN n0 i Ls n j){fs:List AU}(hj:Ls[j]?=some fs){p:List UInt8}(hp:p=Bc n0.ks (Af (decide (i=0))) (L_ (n0.cnt i+j)) (Ap fs)):
  Bz n0.ks (Af (decide (i=0))) p=some (L_ (n0.cnt i+j),Ap fs)∧Ap fs≠ []∧p.length≤n0.AI∧KN n0 i Ls {n with count:=n.count.set i (n0.cnt i+j+1),AJ:=n.AJ++[(1-i,AX p)]} (j+1):=by
 obtain⟨hlt,hfs⟩:=K_.1 hj;have hmem:fs∈Ls:=J! hj;have hb:=h0.U2;obtain⟨a,b,c⟩:=oP (i:=i) h0.AI n fs (Ls.drop (j+1)) (n0.cnt i+j) h.cnt h.AI Ca (h0.fs fs hmem);rw [h.ks,←hp]at a c
 have hd:Ls.drop j=fs::Ls.drop (j+1):=by rw [M? hlt,hfs]
 have hr:=h.rest;rw [hd,c]at hr;refine⟨a,b,by rw [hp,N7];have:=(h0.fs fs hmem).2;omega,⟨h.len.xl,h.len.el,h.len.EK,?_⟩,h.ks,h.AI,?_,Ca,?_,?_⟩
 ·show(n.count.set i _).length=2;rw [P!];exact h.len.cl
 ·show(n.count.set i _).getD i 0=_;rw [CY,if_pos ⟨rfl,by rw [h.len.cl];exact hi⟩];rfl
 ·show(n.AJ++_).length=_;rw [J?,h.bl];rfl
 ·rw [←h.ks]at hr⊢;exact hr
theorem KN.done{n0:AN}{i:Nat}{Ls:List (List AU)}{n:AN}(h:KN n0 i Ls n Ls.length):(true,n)=n0.flush i:=by
 have hr:=h.rest;rw [O!]at hr;exact hr
theorem YU{n:AN}{i:Nat}(hi:i<n.xs.length):n.Aq i (n.x i)=n:=by
 unfold AN.Aq AN.x;rw [List.getD_eq_getElem?_getD,List.getElem?_eq_getElem hi,Option.getD_some,List.set_getElem_self]
section
variable{t:Nat}{n:AN}{L:Nat→List (List AU)}{R:Nat→Nat→Prop}
theorem Al.kE(h:Al t n L R Bb){i k:Nat}(hi:i<2)(hk:k<4)(s:ByteArray)(hf:(n.e i k).finished=true∨(n.e i k).given=true):
  (n.x i).write (k:Int) s.data.toList=((0,3),n.x i)∧(n.wr i k s).2=n:=by
 have o:=h.e i k hi hk;have hE:=Qv (h.at hi).o hk
 have e:(n.x i).write (k:Int) s.data.toList=((0,3),n.x i):=by
  have hf2:=hf;unfold AF.write;rw [o.finished,o.given]at hf2;rw [hE,if_pos hf2];rfl
 refine⟨e,?_⟩;unfold AN.wr;dsimp only;rw [if_pos hf,e];exact YU (by rw [h.xl];exact hi)
theorem Al.XA(h:Al t n L R Bb){i k:Nat}(hi:i<2)(hk:k<4)(s:ByteArray)(hf:¬((n.e i k).finished=true∨(n.e i k).given=true)):
  ((n.x i).write (k:Int) s.data.toList).1.2=0∧((n.x i).write (k:Int) s.data.toList).1.1≤s.size∧∃T',Al t (n.Aq i ((n.x i).write (k:Int) s.data.toList).2) L R T':=by
 have h2:=h.at hi;have o:=h.e i k hi hk;have hc:=h.c i hi;have hE:=Qv h2.o hk
 have e0:(n.x i).Dt (k:Int)=0:=by
  rw [o.finished,o.given]at hf;rw [hE,if_neg hf]
 have g:=EB.write hc (k:Int) s.data.toList;have hc':=hc.write (k:Int) s.data.toList
 have e:(n.x i).write (k:Int) s.data.toList=(((n.x i).Gj k s.size,0),(n.x i).Bs k {(n.x i).w k with b:=((n.x i).w k).b++s.data.toList.take ((n.x i).Gj k s.size)}):=by
  unfold AF.write;rw [if_neg (by rw [e0];simp)];rfl
 rw [e]at g hc'⊢;generalize hN:(n.x i).Gj k s.size=N at g hc'⊢;dsimp only at g hc'⊢
 have hNle:N≤s.size∧N≤(n.x i).AG-(((n.x i).w k).b.length-((n.x i).w k).BA):=by
  unfold AF.Gj at hN;omega
 have hwk:=Lw hc k k {(n.x i).w k with b:=((n.x i).w k).b++s.data.toList.take N} hk;rw [if_pos rfl]at hwk;have w0:C7 _ ((n.x i).w k):=hc.ws.ok k hk;have w1:=hc'.ws.ok k hk
 have w1':C7 (n.x i).AG {(n.x i).w k with b:=((n.x i).w k).b++s.data.toList.take N}:=by rw [←hwk];exact w1
 obtain⟨p1,p2⟩:=WQ w0 w1' rfl Pg
 have hwl:(n.e i k).wrote.length=((n.x i).w k).b.length:=by have:=congrArg P_ o.wrote;rw [N?]at this;exact this.symm
 refine⟨rfl,hNle.1,fun j m=>if j=i∧m=k then s.data.toList.take N else [],?_⟩;refine h.G2 hi Mt hc' g rfl h.el h.EK If (fun m hm=>?_) (fun m hm=>⟨rfl,by rw [if_neg Ca]⟩);show IZ _ _ (n.e i m) _;rw [Lw hc k m _ hk];by_cases e2:k=m
 ·subst e2;rw [if_pos rfl,if_pos BW];exact⟨X6,by rw [hwl];exact p2,o.finished,o.given,o.code,o.read,o.state,Q_ o.AE p1⟩
 ·rw [if_neg e2,if_neg (fun x=>e2 x.2.symm)];exact h.e i m hi hm
theorem Al.lP(h:Al t n L R Bb){i k:Nat}(hi:i<2)(hk:k<4)(s:ByteArray)(hf:¬((n.e i k).finished=true∨(n.e i k).given=true)){z:AN}(hz:z=(Go.Proofs.YtgfdlpcdjklcoaaGreatDoor.CR i 0 4 (n.Aq i ((n.x i).write (k:Int) s.data.toList).2)).2){N:Nat}(hN:N=((n.x i).write (k:Int) s.data.toList).1.1):
  (z.e i k).wrote.length+N≤z.AG+(z.e i k).AE∧(z.e i k).AE≤(z.e i k).wrote.length+N∧(z.e i k).wrote.length≤4096∧(n.wr i k s).2=z.DQ i k {z.e i k with wrote:=(z.e i k).wrote++s.data.toList.take N}:=by
 have h1:=(h.wr hi hk s).1;obtain⟨a,b,T',hT⟩:=h.XA hi hk s hf;obtain⟨c1,c2,c3,c4,c5,c6⟩:=Al.CR hi 4 0 _ hT DH;have ce:=c4 i k;rw [if_pos ⟨rfl,L? _,Ca⟩]at ce;have o:=c2.e i k hi hk;unfold AN.wr at h1⊢;dsimp only at h1⊢;rw [if_neg hf]at h1⊢;subst hz hN;split at h1
 ·cases h1
 ·rename_i hc;rw [if_neg hc];have hwk:(((Go.Proofs.YtgfdlpcdjklcoaaGreatDoor.CR i 0 4 (n.Aq i ((n.x i).write (k:Int) s.data.toList).2)).2.x i).w k).b.length≤4096:=((c2.c i hi).ws.ok k hk).len;have o3:=congrArg P_ o.wrote;rw [J?]at o3;have o4:=o.pre;have o5:=o.AE;refine⟨?_,Ca,Ca,rfl⟩;have h9:¬n.AG+((Go.Proofs.YtgfdlpcdjklcoaaGreatDoor.CR i 0 4 (n.Aq i ((n.x i).write (k:Int) s.data.toList).2)).2.e i k).AE<((Go.Proofs.YtgfdlpcdjklcoaaGreatDoor.CR i 0 4 (n.Aq i ((n.x i).write (k:Int) s.data.toList).2)).2.e i k).wrote.length+((n.x i).write (k:Int) s.data.toList).1.1:=fun x=>hc (.inr (.inr (.inr x)));have h8:(Go.Proofs.YtgfdlpcdjklcoaaGreatDoor.CR i 0 4 (n.Aq i ((n.x i).write (k:Int) s.data.toList).2)).2.AG=n.AG:=c5;omega
theorem Al.eS(h:Al t n L R Bb){i k:Nat}(hi:i<2)(hk:k<4):
  (((n.e i k).finished=true∨(n.e i k).given=true)→((n.x i).finish k).1=3∧(n.fin i k).2=n.Aq i ((n.x i).finish k).2)∧
  (¬((n.e i k).finished=true∨(n.e i k).given=true)→((n.x i).finish k).1=0∧(n.fin i k).2=(n.Aq i ((n.x i).finish k).2).DQ i k {n.e i k with finished:=true}):=by
 have h1:=(h.fin hi hk).1;unfold AN.fin at h1⊢;dsimp only at h1⊢;refine⟨fun hf=>?_,fun hf=>?_⟩
 ·rw [if_pos hf]at h1⊢;exact⟨of_decide_eq_true h1,rfl⟩
 ·rw [if_neg hf]at h1⊢;exact⟨of_decide_eq_true h1,rfl⟩
theorem Al.wN(h:Al t n L R Bb){i k x:Nat}(hi:i<2)(hk:k<4)(hx:x<1000):
  ((n.e i k).given=true→((n.x i).giveUp k x).1=3∧(n.CL i k x).2=n.Aq i ((n.x i).giveUp k x).2)∧
  ((n.e i k).given=false→((n.x i).giveUp k x).1=0∧(n.CL i k x).2=(n.Aq i ((n.x i).giveUp k x).2).DQ i k {n.e i k with given:=true,code:=x}):=by
 have h1:=(h.CL hi hk hx).1;unfold AN.CL at h1⊢;dsimp only at h1⊢;refine⟨fun hf=>?_,fun hf=>?_⟩
 ·rw [if_pos hf]at h1⊢;exact⟨of_decide_eq_true h1,rfl⟩
 ·rw [if_neg (by rw [hf];decide)]at h1⊢;exact⟨of_decide_eq_true h1,rfl⟩
end
end
section
variable{B:World}
theorem Hc.mem{w:NM}(h:Hc w.n){i j k:Nat}(hi:i<2)(hj:j<2)(hk:k<4):
  ∃C r E,w.cs[i]?=some C∧w.rows[j]?=some r∧r.es[k]?=some E∧w.cs.length=2∧w.rows.length=2∧r.es.length=4∧w.cnt.length=2:=by
 have l1:w.cs.length=2:=by have:=h.xl;unfold NM.n at this;simpa using this
 have l2:w.rows.length=2:=by have:=h.el;unfold NM.n at this;simpa using this
 have l4:w.cnt.length=2:=by have:=h.cl;unfold NM.n at this;simpa using this
 obtain⟨C,hC⟩:=Ha l1 hi;obtain⟨r,hr⟩:=Ha l2 hj;have e:w.n.ends.getD j []=r.es.map (·.o):=getD_some (by show(w.rows.map _)[j]?=_;rw [K?,hr];rfl)
 have l3:r.es.length=4:=by have:=h.EK j hj;rw [e]at this;simpa using this
 obtain⟨E,hE⟩:=Ha l3 hk;exact⟨C,r,E,hC,hr,hE,l1,l2,l3,l4⟩
theorem NM.nZ{w:NM}{i:Nat}{x:EQ}(hc:w.cnt[i]?=some x):w.n.cnt i=x.n:=getD_some (by show(w.cnt.map _)[i]?=_;rw [K?,hc];rfl)
set_option maxHeartbeats 8000000 in
theorem M5(hG:B.cell? ⟨0,0,none⟩=some (CZ 106))(nb t i:Nat)(w:NM)(Ls:List (List AU))(H:HP)(hok:w.ok)(h0:Iw t w.n i Ls)(hi:i<2)(ht:t<800000):
  Fn Tryz.prog B 25 [ptr nb 0,iN i] (Av nb w*H) (fun v H'=>v=.bool true∧∃w':NM,w'.ok∧w'.n=(w.n.flush i).2∧H'=Av nb w'*H):=by
 refine mI Tryz.func25 ?_;obtain⟨C,r,E,hC,hr,hE,l1,l2,l3,l4⟩:=h0.len.mem (j:=i) hi hi UE;have hCm:=J! hC;have hci:=h0.c;have hpk:=h0.p;have hks16:w.n.ks.length=16:=h0.ks;have hmt:=h0.AI;have hbg:=h0.U2;have hbl:=h0.bl;rw [NM.EO hC]at hci hpk;have hbeg:=h0.begin;rw [NM.EO hC]at hbeg
 have hPSl:((outs w.n.ks (Af (decide (i=0))) (w.n.cnt i) Ls).map AX).length=Ls.length:=by rw [K!,Ss]
 refine J6 ?_;refine WV ?_;refine J4 ?_;refine Pr ?_;refine JL (Ay (v':=.agg (DT ⟨5,0,0,0,⟨#[]⟩⟩).toArray) Ey rfl) ?_;refine A9 (H':=AT C.cb C.c*((At nb w.x*(AB w.xa.b w.xa.o w.cs w.xa.s*(AB w.ea.b w.ea.o w.rows w.ea.s*(AB w.ba.b w.ba.o w.AJ w.ba.s*(AB w.ca.b w.ca.o w.cnt w.ca.s*(AB r.a.b r.a.o r.es r.a.s*(A7 E.q E.o*(B2 w i i 0 r*H)))))))))) Cf ?_;refine mE rfl (Ge hG C.cb t C.c ⟨5,0,0,0,⟨#[]⟩⟩ ⟨0,-1,0,0,⟨#[]⟩,((outs w.n.ks (Af (decide (i=0))) (w.n.cnt i) Ls).map AX)⟩ C.c.s.A3.2 (by rw [xQ,hpk]) _ (hok.Ef C hCm) hci Ca Cw Cr) ?_;rintro _ _ ⟨m2,ps,hm2,hs2,hps,rfl,rfl⟩;dsimp only at hs2 hps⊢;refine Ag GE rfl ?_;rintro _ _ ⟨b5,rfl,rfl⟩
 refine Bi (De (cs:=BG ⟨0,-1,0,0,⟨#[]⟩,((outs w.n.ks (Af (decide (i=0))) (w.n.cnt i) Ls).map AX)⟩ (.slice ps.p ((outs w.n.ks (Af (decide (i=0))) (w.n.cnt i) Ls).map AX).length ps.c)) rfl rfl Ch Ce) ?_;refine FB ?_
 have hn9:(w.put i i 0 ⟨C.cb,m2⟩ r ⟨E.q,E.o⟩).n=w.n.Aq i C.c.s.A3.2:=by rw [NM.Fw w hC hr,hs2];exact H6 hr hE _
 refine Ai (H':=Av nb (w.put i i 0 ⟨C.cb,m2⟩ r ⟨E.q,E.o⟩)*(HP.AA b5 0 (BG ⟨0,-1,0,0,⟨#[]⟩,((outs w.n.ks (Af (decide (i=0))) (w.n.cnt i) Ls).map AX)⟩ (.slice ps.p ((outs w.n.ks (Af (decide (i=0))) (w.n.cnt i) Ls).map AX).length ps.c))*(ps.h ((outs w.n.ks (Af (decide (i=0))) (w.n.cnt i) Ls).map AX)*H))) R9 ?_;refine J1 ?_;refine F8 ?_;refine Bm (α:=NM×Nat) (fun z=>[(6,iN z.2),(5,ptr b5 0),(0,ptr nb 0),(1,iN i)]) (fun z=>Av nb z.1*(HP.AA b5 0 (BG ⟨0,-1,0,0,⟨#[]⟩,((outs w.n.ks (Af (decide (i=0))) (w.n.cnt i) Ls).map AX)⟩ (.slice ps.p ((outs w.n.ks (Af (decide (i=0))) (w.n.cnt i) Ls).map AX).length ps.c))*(ps.h ((outs w.n.ks (Af (decide (i=0))) (w.n.cnt i) Ls).map AX)*H))) (fun z=>z.1.ok∧KN w.n i Ls z.1.n z.2) (fun z=>Ls.length-z.2) ((w.put i i 0 ⟨C.cb,m2⟩ r ⟨E.q,E.o⟩),0) ⟨hok.put hC hr hE hm2 _,by rw [show((w.put i i 0 ⟨C.cb,m2⟩ r ⟨E.q,E.o⟩),0).1.n=_ from hn9];exact hbeg⟩ IK rfl ?_;rintro⟨w1,k⟩ ⟨q1,q2⟩;dsimp only at q1 q2⊢;refine J7 ?_;refine JL (D4 (i:=k) (j:=((outs w.n.ks (Af (decide (i=0))) (w.n.cnt i) Ls).map AX).length) rfl rfl) ?_;refine J2 ?_;refine mC (fun hk=>?_) (fun hk=>?_)
 ·rw [hPSl]at hk;obtain⟨fs,hfs⟩:=Ha rfl hk;have hgp:=WR w.n.ks (Af (decide (i=0))) Ls (w.n.cnt i) k fs hfs
  obtain⟨p,hp⟩:∃p,p=Bc w.n.ks (Af (decide (i=0))) (L_ (w.n.cnt i+k)) (Ap fs):=Bh
  obtain⟨hop,hne,hpl,hat⟩:=q2.step h0 hi hfs hp;rw [←hp]at hgp
  have hps1:((outs w.n.ks (Af (decide (i=0))) (w.n.cnt i) Ls).map AX)[k]?=some (AX p):=by rw [K?,hgp];rfl
  have hcl2:w1.cnt.length=2:=by have:=q2.len.cl;unfold NM.n at this;simpa using this
  obtain⟨cx,hcx⟩:=Ha hcl2 hi
  have hcn:cx.n=w.n.cnt i+k:=by rw [←NM.nZ hcx];exact q2.cnt
  have hks1:w1.x.ks=w.n.ks:=q2.ks;have hmt1:w1.x.AI=w.n.AI:=q2.AI
  have hbl1:w1.AJ.length=w.n.AJ.length+k:=by have:=q2.bl;rw [show w1.n.AJ.length=w1.AJ.length from K! ..]at this;exact this
  have htn:(L_ (w.n.cnt i+k)).toNat=w.n.cnt i+k:=I6 Ca;have hel:0<(Ap fs).length:=L!.2 hne;refine J5 ?_;refine Ai (H':=At nb w1.x*(AB w1.xa.b w1.xa.o w1.cs w1.xa.s*(AB w1.ea.b w1.ea.o w1.rows w1.ea.s*(AB w1.ba.b w1.ba.o w1.AJ w1.ba.s*(AB w1.ca.b w1.ca.o w1.cnt w1.ca.s*(AO CJ w1.cs*(AO CK w1.rows*(HP.AA b5 0 (BG ⟨0,-1,0,0,⟨#[]⟩,((outs w.n.ks (Af (decide (i=0))) (w.n.cnt i) Ls).map AX)⟩ (.slice ps.p ((outs w.n.ks (Af (decide (i=0))) (w.n.cnt i) Ls).map AX).length ps.c))*(ps.h ((outs w.n.ks (Af (decide (i=0))) (w.n.cnt i) Ls).map AX)*H))))))))) (Em nb w1 _) ?_;refine J4 ?_;refine JL U3 ?_;refine JL Z4 ?_;refine Ag (Tw rfl) rfl ?_;rintro _ _ ⟨p32,b32,o32,c32,s32,rfl,hs32,hc32,rfl⟩;rw [M1]at hs32 hc32⊢;refine J8 ?_;refine JL dR ?_;refine J1 ?_;refine JL (B6 (i:=i) (j:=0) rfl rfl) ?_;refine J1 ?_;refine mE rfl (bK w1.x.ks q1.ks (decide (i=0)) p (L_ (w.n.cnt i+k)) (Ap fs) p32 b32 o32 c32 _ hs32 inferInstance Ca (by rw [hks1];exact hop)) ?_;rintro _ _ ⟨su0,rfl,hsu⟩;rcases hsu with⟨e0,_,_⟩|⟨_,pu,bu,ou,cu,su,rfl,hsu,hcu,rfl⟩
  ·exact absurd e0 hne
  refine F5z ?_;refine JL Pk ?_;refine FO ?_;refine FO ?_;refine FO ?_;refine FO ?_;refine JL (Ay (v':=.bool false) (GM (i:=p.length) (j:=w1.x.AI) rfl rfl) N5) ?_;refine JL Dh ?_;refine FO ?_;refine I4 ?_;refine JL (Ay Dn q1.cv) ?_;refine FJ ?_;refine J1 ?_;refine FJ ?_;refine JL Tz ?_;refine FJ ?_;refine JL cV ?_;refine FJ ?_;refine JL (Ay (v':=.bool false) (FE (i:=(L_ (w.n.cnt i+k)).toNat) (j:=cx.n) rfl rfl) (by rw [decide_eq_false (fun x=>x Ca)])) ?_;refine JL Dh ?_;refine FO ?_;refine J1 ?_
  refine FJ ?_;refine JL (Ay (v':=.bool false) (B6 (i:=(Ap fs).length) (j:=0) rfl rfl) N5) ?_;refine JL Dh ?_;refine Gi ?_;refine J7 ?_;refine JL (Ay Dn q1.cv) ?_;refine J1 ?_;refine JL Tz ?_;refine JL cV ?_;refine JL (JO (i:=cx.n) (j:=1) rfl rfl Ca) ?_;refine JL Tz ?_;refine Bi (Eh (v:=uN (w.n.cnt i+k+1)) rfl (by rw [←hcn];rfl) rfl Ca) ?_;refine JR ?_;refine J2 ?_;refine Ai (H':=AB w1.ba.b w1.ba.o w1.AJ w1.ba.s*(At nb w1.x*(AB w1.xa.b w1.xa.o w1.cs w1.xa.s*(AB w1.ea.b w1.ea.o w1.rows w1.ea.s*(AB w1.ca.b w1.ca.o (w1.cnt.set i ⟨(w.n.cnt i+k+1)⟩) w1.ca.s*(AO CJ w1.cs*(AO CK w1.rows*(AB bu ou (Ap fs) su*AB b32 o32 p s32*(HP.AA b5 0 (BG ⟨0,-1,0,0,⟨#[]⟩,((outs w.n.ks (Af (decide (i=0))) (w.n.cnt i) Ls).map AX)⟩ (.slice ps.p ((outs w.n.ks (Af (decide (i=0))) (w.n.cnt i) Ls).map AX).length ps.c))*(ps.h ((outs w.n.ks (Af (decide (i=0))) (w.n.cnt i) Ls).map AX)*H)))))))))) Cf ?_
  refine Dx (At nb w1.x*(AB w1.xa.b w1.xa.o w1.cs w1.xa.s*(AB w1.ea.b w1.ea.o w1.rows w1.ea.s*(AB w1.ca.b w1.ca.o (w1.cnt.set i ⟨(w.n.cnt i+k+1)⟩) w1.ca.s*(AO CJ w1.cs*(AO CK w1.rows*(AB bu ou (Ap fs) su*AB b32 o32 p s32*(HP.AA b5 0 (BG ⟨0,-1,0,0,⟨#[]⟩,((outs w.n.ks (Af (decide (i=0))) (w.n.cnt i) Ls).map AX)⟩ (.slice ps.p ((outs w.n.ks (Af (decide (i=0))) (w.n.cnt i) Ls).map AX).length ps.c))*(ps.h ((outs w.n.ks (Af (decide (i=0))) (w.n.cnt i) Ls).map AX)*H))))))))) 17 18 Dy rfl Cb ?_;refine EX ?_;refine JF ?_;refine JT 4 rfl (Ay Dn q1.bv) ?_;refine Jm 5 ?_;refine JT 6 rfl (Ie (i:=1) (j:=i) rfl rfl Ca) ?_;refine Jf 7 ?_;refine Jd 8 ?_;refine Jm 9 ?_;refine JT 10 rfl U3 ?_;refine JT 11 rfl Z4 ?_;refine JT 12 rfl (Ex (cs:=GX (⟨1-i,AX p⟩:ES)) rfl rfl rfl (AC.one (⟨1-i,AX p⟩:ES))) ?_;refine Am 13 Cb rfl rfl (Gq (cs:=GX (⟨1-i,AX p⟩:ES)) rfl Cp rfl rfl) ?_;rintro _ _ ⟨b95,rfl,rfl⟩;refine A6 ?_
  refine EI (H':=AB w1.ba.b w1.ba.o w1.AJ w1.ba.s*(HP.AA b95 0 (AD [(⟨1-i,AX p⟩:ES)])*(At nb w1.x*(AB w1.xa.b w1.xa.o w1.cs w1.xa.s*(AB w1.ea.b w1.ea.o w1.rows w1.ea.s*(AB w1.ca.b w1.ca.o (w1.cnt.set i ⟨(w.n.cnt i+k+1)⟩) w1.ca.s*(AO CJ w1.cs*(AO CK w1.rows*(AB bu ou (Ap fs) su*AB b32 o32 p s32*(HP.AA b5 0 (BG ⟨0,-1,0,0,⟨#[]⟩,((outs w.n.ks (Af (decide (i=0))) (w.n.cnt i) Ls).map AX)⟩ (.slice ps.p ((outs w.n.ks (Af (decide (i=0))) (w.n.cnt i) Ls).map AX).length ps.c))*(ps.h ((outs w.n.ks (Af (decide (i=0))) (w.n.cnt i) Ls).map AX)*H))))))))))) (by show HP.AA b95 0 _*_=_;rw [show AD [(⟨1-i,AX p⟩:ES)]=GX (⟨1-i,AX p⟩:ES)from N? _];ac_rfl) ?_;refine Am 14 Cb rfl rfl (CX (ys:=[(⟨1-i,AX p⟩:ES)]) (bb:=b95) (oo:=0) (cc:=1) rfl q1.ba.1 q1.ba.2 rfl CG inferInstance rfl Cn Ca) ?_;rintro _ _ ⟨p96,b96,o96,c96,s96,rfl,hs96,hc96,rfl⟩;refine A6 ?_;refine Jn 15 ?_;refine Jf 16 ?_;refine DV 17 Cb rfl Eu ?_;refine DB ?_;refine Hp ?_;have hsn:(w1.send i (w.n.cnt i+k+1) (⟨1-i,AX p⟩:ES) ⟨p96,b96,o96,c96,s96⟩).n=_:=NM.nB w1 i (w.n.cnt i+k+1) (⟨1-i,AX p⟩:ES) ⟨p96,b96,o96,c96,s96⟩
  exact Bd (Av nb (w1.send i (w.n.cnt i+k+1) (⟨1-i,AX p⟩:ES) ⟨p96,b96,o96,c96,s96⟩)*(HP.AA b5 0 (BG ⟨0,-1,0,0,⟨#[]⟩,((outs w.n.ks (Af (decide (i=0))) (w.n.cnt i) Ls).map AX)⟩ (.slice ps.p ((outs w.n.ks (Af (decide (i=0))) (w.n.cnt i) Ls).map AX).length ps.c))*(ps.h ((outs w.n.ks (Af (decide (i=0))) (w.n.cnt i) Ls).map AX)*H))) (hE:=⟨fun ww hw=>Sat.right (A:=HP.AA b95 0 (AD [(⟨1-i,AX p⟩:ES)])*(AB bu ou (Ap fs) su*AB b32 o32 p s32)) (Eq.mp (by congr 1;rw [vQ];show _=HP.AA b95 0 (AD [(⟨1-i,AX p⟩:ES)])*(AB bu ou (Ap fs) su*AB b32 o32 p s32)*(At nb {w1.x with bv:=.slice p96 (w1.AJ++[(⟨1-i,AX p⟩:ES)]).length c96}*_);ac_rfl) hw)⟩) (Ba (w1.send i (w.n.cnt i+k+1) (⟨1-i,AX p⟩:ES) ⟨p96,b96,o96,c96,s96⟩,k+1) ⟨q1.send i _ ⟨hs96,hc96⟩,by show KN w.n i Ls (w1.send i (w.n.cnt i+k+1) (⟨1-i,AX p⟩:ES) ⟨p96,b96,o96,c96,s96⟩).n (k+1);rw [hsn];exact hat⟩ (by show Ls.length-(k+1)<Ls.length-k;omega) IK rfl)
 refine Bt ?_;rw [hPSl]at hk;have hkl:k=Ls.length:=Nat.le_antisymm q2.le Ca;subst hkl;exact mR [4] (Av nb w1*H) (hE:=⟨fun ww hw=>Sat.right (A:=HP.AA b5 0 (BG ⟨0,-1,0,0,⟨#[]⟩,((outs w.n.ks (Af (decide (i=0))) (w.n.cnt i) Ls).map AX)⟩ (.slice ps.p ((outs w.n.ks (Af (decide (i=0))) (w.n.cnt i) Ls).map AX).length ps.c))*ps.h ((outs w.n.ks (Af (decide (i=0))) (w.n.cnt i) Ls).map AX)) (Eq.mp Cm hw)⟩) rfl rfl ⟨rfl,w1,q1,by rw [←q2.done],rfl⟩
end
section
variable{B:World}
@[reducible] def Bw(s:DL):List Value:=[.int .i64 s.kind,.int .i64 s.side,.int .i64 s.a,.int .i64 s.b,.string s.s]
def HU(c:Int):Prop:= -9223372036854775808≤c∧c<9223372036854775808
structure KX(s:DL):Prop where
 side:HU s.side
 a:HU s.a
 b:HU s.b
 s:s.s.size<90000000
theorem qI{n:AN}(h:n.AJ=[])(s:DL):n.carry s=(true,n):=by unfold AN.carry;rw [if_pos h]
theorem xV{n:AN}{s:DL}{f:Nat×ByteArray}(h:n.AJ[AK s.a n.AJ.length]?=some f):n.carry s=if s.kind=6 then n.comes f.1 f.2 else if s.kind=9 then n.Do (1-f.1) f.2.data.toList else if s.kind=8 then n.Do f.1 (Xn f.2.data.toList (AK s.b f.2.size) s.s.data.toList)else(true,n):=by
 have hb:n.AJ≠ []:=fun e=>by rw [e]at h;cases h
 unfold AN.carry;rw [if_neg hb,getD_some h]
theorem uG(b:ByteArray):AX b.data.toList=b:=by
 unfold AX;apply ByteArray.ext;exact Array.toArray_toList
theorem sV{s:DL}(h:0<s.s.size):decide ((s.s.data.toList.getD 0 0).toNat≠0)=decide (s.s.data.toList≠ []∧s.s.data.toList.getD 0 0≠0):=by
 have h1:s.s.data.toList≠ []:=L!.1 h;have h2:(s.s.data.toList.getD 0 0).toNat≠0↔s.s.data.toList.getD 0 0≠0:=not_congr ⟨fun e=>UInt8.toNat_inj.1 e,fun e=>by rw [e];rfl⟩;rw [decide_eq_decide];exact⟨fun x=>⟨h1,h2.1 x⟩,fun x=>h2.2 x.2⟩
theorem eQ{s:DL}(h:¬0<s.s.size):false=decide (s.s.data.toList≠ []∧s.s.data.toList.getD 0 0≠0):=by
 refine(decide_eq_false fun x=>h ?_).symm;exact L!.2 x.1
set_option maxHeartbeats 8000000 in
theorem sB(hG:B.cell? ⟨0,0,none⟩=some (CZ 106))(nb t:Nat)(s:DL)(w:NM)(L:Nat→List (List AU))(Rr:Nat→Nat→Prop)(H:HP)(hok:w.ok)(hw:Al t w.n L Rr Bb)(hs:KX s)(ht:t<800000):
  Fn Tryz.prog B 73 [ptr nb 0,.agg (Bw s).toArray] (Av nb w*H) (fun v H'=>v=.bool true∧∃w':NM,w'.ok∧w'.n=(w.n.carry s).2∧H'=Av nb w'*H):=by
 refine mI Tryz.func73 ?_;refine J2 ?_;refine Ag (Db (l:=Bw s) rfl rfl) rfl ?_;rintro _ _ ⟨b3,rfl,rfl⟩;refine J5 ?_;refine Ai (H':=At nb w.x*(AB w.xa.b w.xa.o w.cs w.xa.s*(AB w.ea.b w.ea.o w.rows w.ea.s*(AB w.ba.b w.ba.o w.AJ w.ba.s*(AB w.ca.b w.ca.o w.cnt w.ca.s*(AO CJ w.cs*(AO CK w.rows*(HP.AA b3 0 (Bw s)*H)))))))) (by rw [←Em];ac_rfl) ?_;refine J4 ?_;refine JL T6 ?_;refine J1 ?_;refine JL (B6 (i:=w.AJ.length) (j:=0) rfl rfl) ?_;refine J2 ?_;refine mC (fun h15=>?_) (fun h15=>?_)
 ·refine J7 ?_;exact mR [4] (Av nb w*H) (hE:=⟨fun ww hw=>Sat.right (A:=HP.AA b3 0 (Bw s)) (Eq.mp Tl hw)⟩) rfl rfl ⟨rfl,w,hok,by rw [qI (show w.n.AJ=[]from List.length_eq_zero_iff.1 ((K! ..).trans h15))],rfl⟩
 have hKl:(AK s.a w.AJ.length)<w.AJ.length:=FF s.a Ca;obtain⟨F,hF⟩:=Ha rfl hKl
 have hFn:w.n.AJ[AK s.a w.n.AJ.length]?=some (F.to,F.b):=by
  have e:w.n.AJ=w.AJ.map (fun f=>(f.to,f.b)):=rfl;rw [e,K!,K?,hF];rfl
 have hcy:=xV hFn;have hFm:(F.to,F.b)∈w.n.AJ:=J! hFn;obtain⟨i9,m9,fs9,i91,i92,i93,i94⟩:=hw.AJ _ hFm;dsimp only at i92 i94 hcy
 obtain⟨p,hp⟩:∃p,p=Bc w.n.ks (Af (decide (i9=0))) (L_ m9) (Ap fs9):=Bh
 rw [←hp]at i94
 have hpl:16≤p.length:=by rw [hp,N7];omega
 have hp3:p.length≤300:=by have:=(hw.recv hFm Ca).2.1;dsimp only at this;rw [i94,En]at this;exact this
 have hbl:w.AJ.length<90000000:=by have:=hw.bl;have h0:=(hw.c 0 Ca).nx;have h1:=(hw.c 1 Ca).nx;have l0:=(hw.at (i:=0) Ca).s.len;have l1:=(hw.at (i:=1) Ca).s.len;have e:w.n.AJ.length=w.AJ.length:=K! ..;omega
 have hFto:F.to<2:=by omega
 refine J3 ?_;refine mA 7 9 ?_;refine It ?_;refine Jm 2 ?_;refine Jn 3 ?_;refine Jf 4 ?_;refine JT 5 rfl T6 ?_;refine JT 6 rfl FT ?_;refine Am 7 Cb rfl rfl (BJ rfl (IQ s.a hs.a w.AJ.length Ca _)) ?_;refine JR ?_;refine DW ?_;refine EV 8 Cb rfl rfl Fg ED ?_;refine JD ?_;refine J6 ?_;refine JL T6 ?_;refine J1 ?_;refine JL (HG rfl rfl hok.ba.1 Ca rfl) ?_;refine JL (Ay (v':=.agg (GX F).toArray) (IX (xs:=w.AJ) rfl inferInstance Ca) UI) ?_;refine Ag (FV (l:=[.int .i64 0,.string ⟨#[]⟩]) rfl) rfl ?_;rintro _ _ ⟨b6,rfl,rfl⟩;refine Bi (De (cs:=GX F) rfl rfl Ch (AC.one F)) ?_;refine JR ?_;refine DP ?_;refine JL (C4 (i:=s.kind) (j:=6) rfl rfl) ?_;refine J3 ?_;refine mC (fun h6=>?_) (fun h6=>?_)
 ·rw [if_pos h6]at hcy;refine J7 ?_;refine A9 (H':=Av nb w*(HP.AA b6 0 (GX F)*(HP.AA b3 0 (Bw s)*H))) OW ?_;refine mE rfl (YN hG nb t F.to F.b w L Rr _ hok hw hFm ht) ?_;rintro _ _ ⟨rfl,w2,hok2,hn2,rfl⟩;refine J6 ?_;exact mR [4] (Av nb w2*H) (hE:=UL) rfl rfl ZP
 rw [if_neg h6]at hcy;refine J2 ?_;refine JL (C4 (i:=s.kind) (j:=9) rfl rfl) ?_;refine J3 ?_;refine mC (fun h9=>?_) (fun h9=>?_)
 ·rw [if_pos h9]at hcy;refine J5 ?_;refine JL (Ie (i:=1) (j:=F.to) rfl rfl Ca) ?_;refine J2 ?_;refine A9 (H':=Av nb w*(HP.AA b6 0 (GX F)*(HP.AA b3 0 (Bw s)*H))) OW ?_;refine mE rfl (Rz hG nb t (1-F.to) F.b w L Rr _ hok hw Ca (by rw [i94,En];omega) ht) ?_;rintro _ _ ⟨rfl,w2,hok2,hn2,rfl⟩;refine J6 ?_;exact mR [4] (Av nb w2*H) (hE:=UL) rfl rfl ZP
 rw [if_neg h9]at hcy;refine J2 ?_;refine JL (C4 (i:=s.kind) (j:=8) rfl rfl) ?_;refine J3 ?_;refine mC (fun h8=>?_) (fun h8=>?_)
 ·rw [if_pos h8,i94,M1]at hcy
  have hat:(AK s.b (AX p).size)<p.length:=by have:=FF s.b (n:=(AX p).size) KZ;rw [En]at this⊢;exact this
  refine J5 ?_;refine JL PM ?_;refine J1 ?_;refine mE rfl (IQ s.b hs.b (AX p).size KZ _) ?_;refine Il ?_;refine JL (Fe (v:=.int .u8 (1:Nat)) rfl) ?_;refine J4 ?_;refine CO (α:=Bool) (fun z=>[(67,.bool z),(8,.int .u8 (1:Nat)),(7,iN (AK s.b (AX p).size)),(6,ptr b6 0),(3,ptr b3 0),(0,ptr nb 0)]) (fun _=>HP.AA b6 0 (GX F)*(At nb w.x*(AB w.xa.b w.xa.o w.cs w.xa.s*(AB w.ea.b w.ea.o w.rows w.ea.s*(AB w.ba.b w.ba.o w.AJ w.ba.s*(AB w.ca.b w.ca.o w.cnt w.ca.s*(AO CJ w.cs*(AO CK w.rows*(HP.AA b3 0 (Bw s)*H))))))))) (fun z=>z=decide (s.s.data.toList≠ []∧s.s.data.toList.getD 0 0≠0)) ?_ ?_
  ·refine J4 ?_;refine JL (GM (i:=s.s.size) (j:=0) rfl rfl) ?_;refine J1 ?_;refine EL 62 rfl (fun hg1=>?_) (fun hg1=>?_)
   ·refine UD ?_;refine JL (RN (s:=s.s) (i:=0) rfl rfl hg1) ?_;refine JG T1 ?_;refine JL (FE (i:=(s.s.data.toList.getD 0 0).toNat) (j:=0) rfl rfl) ?_;refine JL Fu ?_;refine J1 ?_;exact A8 (decide ((s.s.data.toList.getD 0 0).toNat≠0)) (sV hg1) Fi rfl
   refine Rl ?_;refine JH F1 ?_;refine JL Eo ?_;refine J1 ?_;exact A8 false (eQ hg1) Fi rfl
  ·rintro z hz;refine J1 ?_;refine CO (α:=UInt8) (fun z=>[(8,u8 z),(7,iN (AK s.b (AX p).size)),(6,ptr b6 0),(3,ptr b3 0),(0,ptr nb 0)]) (fun _=>HP.AA b6 0 (GX F)*(At nb w.x*(AB w.xa.b w.xa.o w.cs w.xa.s*(AB w.ea.b w.ea.o w.rows w.ea.s*(AB w.ba.b w.ba.o w.AJ w.ba.s*(AB w.ca.b w.ca.o w.cnt w.ca.s*(AO CJ w.cs*(AO CK w.rows*(HP.AA b3 0 (Bw s)*H))))))))) (fun z=>z=(if s.s.data.toList≠ []∧s.s.data.toList.getD 0 0≠0 then s.s.data.toList.getD 0 0 else 1)) ?_ ?_
   ·refine mc (fun h67=>?_) (fun h67=>?_)
    ·rw [h67]at hz;have hz2:=of_decide_eq_true hz.symm;have hss:0<s.s.size:=L!.2 hz2.1;refine J3 ?_;refine JL (RN (s:=s.s) (i:=0) rfl rfl hss) ?_;refine J2 ?_;exact A8 (s.s.data.toList.getD 0 0) (by rw [if_pos hz2]) HD rfl
    rw [h67]at hz;have hz2:=of_decide_eq_false hz.symm;refine J1 ?_;exact A8 1 (by rw [if_neg hz2]) HD rfl
   ·rintro by8 hby;refine J2 ?_;refine mA 20 20 ?_;refine Jf 0 ?_;refine JT 1 rfl PM ?_;refine Jm 2 ?_;refine JT 3 rfl (Ay (v':=.string (AX (p.take (AK s.b (AX p).size)))) (Z9 (h:=(AK s.b (AX p).size)) rfl rfl QB) (by rw [QX _ _ _ Ca,P?])) ?_;refine Jf 4 ?_;refine JT 5 rfl PM ?_;refine Jm 6 ?_;refine JT 7 rfl (Ay (v':=u8 (p.getD (AK s.b (AX p).size) 0)) (RN (s:=AX p) (i:=(AK s.b (AX p).size)) rfl rfl QB) (by rw [M1])) ?_;refine Jm 8 ?_;refine JT 9 rfl (Wa (a:=p.getD (AK s.b (AX p).size) 0) (b:=by8) rfl rfl) ?_;refine Jf 13 ?_;refine JT 14 rfl PM ?_;refine Jm 15 ?_;refine JT 16 rfl (Gx (i:=(AK s.b (AX p).size)) (j:=1) rfl rfl Ca) ?_;refine JT 17 rfl (Ay (v':=.string (AX (p.drop ((AK s.b (AX p).size)+1)))) (uE (l:=(AK s.b (AX p).size)+1) rfl rfl QB) (by rw [QX _ _ _ QB,En,List.take_length])) ?_;refine Am 10 Cb rfl rfl Hn ?_;rintro _ _ ⟨b81,rfl,rfl⟩;refine A6 ?_
    refine EI (H':=HP.AA b81 0 (AD [(p.getD (AK s.b (AX p).size) 0 ^^^by8)])*(HP.AA b6 0 (GX F)*(At nb w.x*(AB w.xa.b w.xa.o w.cs w.xa.s*(AB w.ea.b w.ea.o w.rows w.ea.s*(AB w.ba.b w.ba.o w.AJ w.ba.s*(AB w.ca.b w.ca.o w.cnt w.ca.s*(AO CJ w.cs*(AO CK w.rows*(HP.AA b3 0 (Bw s)*H)))))))))) (by show HP.AA b81 0 _*_=_;rfl) ?_;refine EV 11 Cb rfl rfl (MF (b:=b81) (o:=0) (c:=1) (xs:=[(p.getD (AK s.b (AX p).size) 0 ^^^by8)]) rfl CG inferInstance) TU ?_;refine JT 12 rfl (Tt (s:=p.take (AK s.b (AX p).size)) (t:=[(p.getD (AK s.b (AX p).size) 0 ^^^by8)]) rfl rfl (by rw [N_];simp only [M!];omega)) ?_;refine JT 18 rfl (Tt (s:=p.take (AK s.b (AX p).size)++[(p.getD (AK s.b (AX p).size) 0 ^^^by8)]) (t:=p.drop ((AK s.b (AX p).size)+1)) rfl rfl (by rw [J?,N_,O?];simp only [M!];omega)) ?_;refine Ja 19 ?_;refine JD ?_;refine J7 ?_;refine A9 (H':=Av nb w*(HP.AA b81 0 (AD [(p.getD (AK s.b (AX p).size) 0 ^^^by8)])*(HP.AA b6 0 (GX F)*(HP.AA b3 0 (Bw s)*H)))) OW ?_
    refine mE rfl (Rz hG nb t F.to (AX (p.take (AK s.b (AX p).size)++[(p.getD (AK s.b (AX p).size) 0 ^^^by8)]++p.drop ((AK s.b (AX p).size)+1))) w L Rr _ hok hw hFto (by rw [En,J?,J?,N_,O?];simp only [M!];omega) ht) ?_;rintro _ _ ⟨rfl,w2,hok2,hn2,rfl⟩;rw [M1]at hn2;refine J6 ?_;exact mR [4] (Av nb w2*H) (hE:=⟨fun ww hw=>Sat.right (A:=HP.AA b81 0 (AD [(p.getD (AK s.b (AX p).size) 0 ^^^by8)])*(HP.AA b6 0 (GX F)*HP.AA b3 0 (Bw s))) (Eq.mp Tl hw)⟩) rfl rfl ⟨rfl,w2,hok2,by rw [hn2,hcy,hby];rfl,rfl⟩
 rw [if_neg h8]at hcy;refine J9 ?_;exact mR [4] (Av nb w*H) (hE:=UL) rfl rfl ⟨rfl,w,hok,by rw [hcy],rfl⟩
end
section
variable{B:World}
theorem NM.tM{w:NM}{i j k:Nat}{r:Dc}{E:D2}(hr:w.rows[j]?=some r)(hE:r.es[k]?=some E)(C:CM)(o:D5):
  (w.put i j k C r ⟨E.q,o⟩).rows[j]?=some {r with es:=r.es.set k ⟨E.q,o⟩}∧(r.es.set k ⟨E.q,o⟩)[k]?=some ⟨E.q,o⟩:=
 ⟨N! (K_.1 hr).1,N! (K_.1 hE).1⟩
theorem xR(s:ByteArray)(h:Nat)(hh:h≤s.size):s.extract 0 h=AX (s.data.toList.take h):=by
 have:=QX s.data.toList 0 h hh
 rw [uG,P?]at this;exact this
set_option maxHeartbeats 16000000 in
theorem PT(hG:B.cell? ⟨0,0,none⟩=some (CZ 106))(nb t:Nat)(s:DL)(w:NM)(L:Nat→List (List AU))(Rr:Nat→Nat→Prop)(H:HP)(hok:w.ok)(hw:Al t w.n L Rr Bb)(hs:KX s)(ht:t<700000):
  Fn Tryz.prog B 35 [ptr nb 0,.agg (Bw s).toArray] (Av nb w*H) (fun v H'=>v=.bool true∧∃w':NM,w'.ok∧w'.n=(w.n.step s).2∧H'=Av nb w'*H):=by
 refine mI Tryz.func35 ?_;have hi:(AK s.side 2)<2:=FF _ Ca;have hk:(AK s.a 4)<4:=FF _ Ca;obtain⟨C,r,E,hC,hr,hE,l1,l2,l3⟩:=hw.mem hi hi hk;have hCm:=J! hC;have hci:=hw.c _ hi;have hnx:w.n.x (AK s.side 2)=C.c.s:=NM.EO hC;have hne:w.n.e (AK s.side 2) (AK s.a 4)=E.o:=NM.I7 hr hE;rw [hnx]at hci;have hss:=hs.s;refine J2 ?_;refine Ag (Db (l:=Bw s) rfl rfl) rfl ?_;rintro _ _ ⟨b3,rfl,rfl⟩;refine J7 ?_;refine mE rfl (IQ s.side hs.side 2 Ca _) ?_;refine FB ?_;refine Ai (H':=At nb w.x*(AB w.xa.b w.xa.o w.cs w.xa.s*(AB w.ea.b w.ea.o w.rows w.ea.s*(AB w.ba.b w.ba.o w.AJ w.ba.s*(AB w.ca.b w.ca.o w.cnt w.ca.s*(AT C.cb C.c*(AB r.a.b r.a.o r.es r.a.s*(A7 E.q E.o*(B2 w (AK s.side 2) (AK s.side 2) (AK s.a 4) r*(HP.AA b3 0 (Bw s)*H)))))))))) (by rw [←Ej nb w _ hC hr hE];ac_rfl) ?_;refine J4 ?_;refine JL Pm ?_;refine J1 ?_;refine JL (CU (i:=(AK s.side 2)) rfl rfl hok.xa.1 Ca) ?_;refine JL R8 ?_;refine J7 ?_;refine mE rfl (IQ s.a hs.a 4 Ca _) ?_;refine JR ?_;refine F5z ?_;refine JL (C4 (i:=s.kind) (j:=1) rfl rfl) ?_;refine J3 ?_;refine mC (fun k1=>?_) (fun k1=>?_)
 ·skip
  have hst:w.n.step s=w.n.wr (AK s.side 2) (AK s.a 4) s.s:=by unfold AN.step;rw [if_pos k1]
  have hno:=fun hf=>hw.kE hi hk s.s hf;have hyes:=fun hf=>hw.XA hi hk s.s hf;have hdn:=fun hf=>hw.lP hi hk s.s hf rfl rfl;rw [hnx]at hno hyes hdn;rw [hne]at hno hyes hdn
  obtain⟨rv,erv⟩:∃rv,rv=C.c.s.write (AK s.a 4) s.s.data.toList:=Bh
  rw [←erv]at hno hyes hdn;refine Sf ?_;refine J9 ?_;refine JL (Ay (v':=.agg (DT ⟨1,((AK s.a 4):Nat),0,0,s.s⟩).toArray) Ey rfl) ?_;refine A9 (H':=AT C.cb C.c*(HP.AA b3 0 (Bw s)*(At nb w.x*(AB w.xa.b w.xa.o w.cs w.xa.s*(AB w.ea.b w.ea.o w.rows w.ea.s*(AB w.ba.b w.ba.o w.AJ w.ba.s*(AB w.ca.b w.ca.o w.cnt w.ca.s*(AB r.a.b r.a.o r.es r.a.s*(A7 E.q E.o*(B2 w (AK s.side 2) (AK s.side 2) (AK s.a 4) r*H)))))))))) Cf ?_;refine mE rfl (Ge hG C.cb t C.c ⟨1,((AK s.a 4):Nat),0,0,s.s⟩ ⟨rv.1.2,-1,rv.1.1,0,⟨#[]⟩,[]⟩ rv.2 (by rw [cM,←erv]) _ (hok.Ef C hCm) hci Ca (by show s.s.size<_;omega) Cr) ?_;rintro _ _ ⟨m2,ps,hm2,hs2,hps,rfl,rfl⟩;dsimp only at hs2 hps⊢;refine Ag GE rfl ?_;rintro _ _ ⟨b9,rfl,rfl⟩
  refine Bi (De (cs:=BG ⟨rv.1.2,-1,rv.1.1,0,⟨#[]⟩,[]⟩ (.slice ps.p 0 ps.c)) rfl rfl Ch Ce) ?_;refine JR ?_;refine CB ?_;refine DO 53 rfl (fun hg1=>?_) (fun hg1=>?_)
  ·have hf:E.o.finished=true∨E.o.given=true:=.inl hg1;obtain⟨e3,e4⟩:=hno hf;refine H3 ?_;refine Po ?_;refine V2 ?_;exact Y6
  refine Hx ?_;refine J1 ?_;refine MZ ?_;refine LI ?_;refine mc (fun hgv=>?_) (fun hgv=>?_)
  ·have hf:E.o.finished=true∨E.o.given=true:=.inr hgv;obtain⟨e3,e4⟩:=hno hf;refine V2 ?_;exact Y6
  have hf:¬(E.o.finished=true∨E.o.given=true):=fun x=>by rcases x with x|x;rw [x]at hg1;cases hg1;rw [x]at hgv;cases hgv
  obtain⟨e3,e4,T1,hT1⟩:=hyes hf;refine J3 ?_
  have hn9:(w.put (AK s.side 2) (AK s.side 2) (AK s.a 4) ⟨C.cb,m2⟩ r ⟨E.q,E.o⟩).n=w.n.Aq (AK s.side 2) rv.2:=by rw [NM.Fw w hC hr,hs2];exact H6 hr hE _
  have hok9:(w.put (AK s.side 2) (AK s.side 2) (AK s.a 4) ⟨C.cb,m2⟩ r ⟨E.q,E.o⟩).ok:=hok.put hC hr hE hm2 _;refine Ai (H':=Av nb (w.put (AK s.side 2) (AK s.side 2) (AK s.a 4) ⟨C.cb,m2⟩ r ⟨E.q,E.o⟩)*(HP.AA b9 0 (BG ⟨rv.1.2,-1,rv.1.1,0,⟨#[]⟩,[]⟩ (.slice ps.p 0 ps.c))*(ps.h ([]:List ByteArray)*(HP.AA b3 0 (Bw s)*H)))) R9 ?_;refine J3 ?_;refine mE rfl (aV hG nb t (AK s.side 2) (w.put (AK s.side 2) (AK s.side 2) (AK s.a 4) ⟨C.cb,m2⟩ r ⟨E.q,E.o⟩) L _ T1 _ hok9 (by rw [hn9];exact hT1) hi Ca) ?_;rintro _ _ ⟨rfl,w2,hok2,hn2,hkp,rfl⟩;rw [hn9]at hn2;obtain⟨c1,c2,c3,c4,c5,c6⟩:=Al.CR hi 4 0 _ hT1 DH;rw [←hn2]at c2;obtain⟨g1,g2,g3,g4⟩:=hdn hf;rw [←hn2]at g1 g2 g3 g4;obtain⟨k8,k9⟩:=NM.tM (i:=(AK s.side 2)) hr hE ⟨C.cb,m2⟩ E.o;obtain⟨r2,E2,hr2,hE2,hq2⟩:=hkp (AK s.side 2) (AK s.a 4) _ _ k8 k9;dsimp only at hq2;obtain⟨C2,_,_,hC2,_,_,l4,l5,_⟩:=c2.mem hi hi hk
  have l6:r2.es.length=4:=by have:=c2.EK (AK s.side 2) hi;rw [show w2.n.ends.getD (AK s.side 2) []=r2.es.map (·.o)from getD_some (by show(w2.rows.map _)[(AK s.side 2)]?=_;rw [K?,hr2];rfl)]at this;simpa using this
  rw [NM.I7 hr2 hE2]at g1 g2 g3 g4;have hwn:w2.n.AG=w2.x.AG:=rfl;rw [hwn]at g1
  have hw2:w2.x.AG≤1024:=by rw [←hwn,←c2.AG _ hi];exact(c2.c _ hi).w2
  have hN2:rv.1.1≤s.s.size:=e4;refine J5 ?_;rw [←hq2];refine Ai (H':=At nb w2.x*(AB w2.xa.b w2.xa.o w2.cs w2.xa.s*(AB w2.ea.b w2.ea.o w2.rows w2.ea.s*(AB w2.ba.b w2.ba.o w2.AJ w2.ba.s*(AB w2.ca.b w2.ca.o w2.cnt w2.ca.s*(AT C2.cb C2.c*(AB r2.a.b r2.a.o r2.es r2.a.s*(A7 E2.q E2.o*(B2 w2 (AK s.side 2) (AK s.side 2) (AK s.a 4) r2*(HP.AA b9 0 (BG ⟨rv.1.2,-1,rv.1.1,0,⟨#[]⟩,[]⟩ (.slice ps.p 0 ps.c))*(ps.h ([]:List ByteArray)*(HP.AA b3 0 (Bw s)*H)))))))))))) (Ej nb w2 _ hC2 hr2 hE2) ?_;refine mA 41 41 ?_;refine FX ?_;refine JT 1 rfl Kx ?_;refine Jm 2 ?_;refine Ak 3 rfl Cb rfl rfl rfl rfl BO ?_;refine Ak 4 rfl Cb rfl rfl rfl rfl BX ?_;refine Ak 5 rfl Cb rfl rfl rfl rfl (Ay (v':=.bool false) (FE (i:=rv.1.2) (j:=0) rfl rfl) OD) ?_;refine JT 6 rfl Dh ?_;refine Jm 7 ?_;refine Z' ?_;refine Ak 10 rfl Cb rfl rfl rfl rfl (Ay (v':=.bool false) (D4 (i:=rv.1.1) (j:=0) rfl rfl) N5) ?_;refine JT 11 rfl Dh ?_;refine Jm 12 ?_;refine Ak 13 rfl Cb rfl rfl rfl rfl BO ?_
  refine Ak 14 rfl Cb rfl rfl rfl rfl BX ?_;refine Ak 15 rfl Cb rfl rfl rfl rfl BO ?_;refine Ak 16 rfl Cb rfl rfl rfl rfl BX ?_;refine Ak 17 rfl Cb rfl rfl rfl rfl G6 ?_;refine Ak 18 rfl Cb rfl rfl rfl rfl (Ay (v':=.bool false) (GM (i:=rv.1.1) (j:=s.s.size) rfl rfl) N5) ?_;refine JT 19 rfl Dh ?_;refine Jm 20 ?_;refine Ak 21 rfl Cb rfl rfl rfl rfl Be ?_;refine Ak 22 rfl Cb rfl rfl rfl rfl CT ?_;refine Ak 23 rfl Cb rfl rfl rfl rfl BO ?_;refine Ak 24 rfl Cb rfl rfl rfl rfl BX ?_;refine Ak 25 rfl Cb rfl rfl rfl rfl G6 ?_;refine Ak 26 rfl Cb rfl rfl rfl rfl BO ?_;refine Ak 27 rfl Cb rfl rfl rfl rfl BX ?_;refine Ak 28 rfl Cb rfl rfl rfl rfl (Gx (i:=(AX E2.o.wrote).size) (j:=rv.1.1) rfl rfl KZ) ?_;refine Ak 29 rfl Cb rfl rfl rfl rfl Be ?_;refine Ak 30 rfl Cb rfl rfl rfl rfl CT ?_;refine Ak 31 rfl Cb rfl rfl rfl rfl BO ?_
  refine Ak 32 rfl Cb rfl rfl rfl rfl BX ?_;refine Ak 33 rfl Cb rfl rfl rfl rfl (Ie (i:=(AX E2.o.wrote).size+rv.1.1) (j:=E2.o.AE) rfl rfl KZ) ?_;refine Ak 34 rfl Cb rfl rfl rfl rfl Be ?_;refine Ak 35 rfl Cb rfl rfl rfl rfl CT ?_;refine Ak 36 rfl Cb rfl rfl rfl rfl BO ?_;refine YF ?_;refine Ak 39 rfl Cb rfl rfl rfl rfl (Ay (v':=.bool false) (GM (i:=(AX E2.o.wrote).size+rv.1.1-E2.o.AE) (j:=w2.x.AG) rfl rfl) Zd) ?_;refine JT 40 rfl Dh ?_;refine FC ?_;refine Kn ?_;refine J3 ?_;refine mA 13 14 ?_;refine LT ?_;refine Jf 5 ?_;refine Jd 6 ?_;refine Jf 7 ?_;refine Jd 8 ?_;refine JT 9 rfl (Ay (v':=.string (AX (s.s.data.toList.take rv.1.1))) (Z9 (h:=rv.1.1) rfl rfl Ca) (by rw [xR _ _ hN2])) ?_;refine JT 10 rfl (Tt (s:=E2.o.wrote) (t:=s.s.data.toList.take rv.1.1) rfl rfl NQ) ?_;refine Jn 11 ?_;refine Jf 12 ?_
  refine DV 13 Cb rfl (Eh (v:=.string (AX (E2.o.wrote++s.s.data.toList.take rv.1.1))) rfl rfl rfl trivial) ?_;refine DB ?_;refine J9 ?_;exact mR [4] (Av nb (w2.put (AK s.side 2) (AK s.side 2) (AK s.a 4) ⟨C2.cb,C2.c⟩ r2 ⟨E2.q,{E2.o with wrote:=E2.o.wrote++s.s.data.toList.take rv.1.1}⟩)*H) (hE:=⟨fun ww hw=>Sat.right (A:=HP.AA b9 0 (BG ⟨rv.1.2,-1,rv.1.1,0,⟨#[]⟩,[]⟩ (.slice ps.p 0 ps.c))*(ps.h ([]:List ByteArray)*HP.AA b3 0 (Bw s))) (Eq.mp (by congr 1;rw [IT nb w2 _ hC2 hr2 hE2];ac_rfl) hw)⟩) rfl rfl ⟨rfl,(w2.put (AK s.side 2) (AK s.side 2) (AK s.a 4) ⟨C2.cb,C2.c⟩ r2 ⟨E2.q,{E2.o with wrote:=E2.o.wrote++s.s.data.toList.take rv.1.1}⟩),hok2.put hC2 hr2 hE2 (hok2.Ef C2 (J! hC2)) _,by rw [hst,g4,NM.Fw w2 hC2 hr2,Qn hC2],rfl⟩
 refine J2 ?_;refine JL (C4 (i:=s.kind) (j:=2) rfl rfl) ?_;refine J3 ?_;refine mC (fun k2=>?_) (fun k2=>?_)
 ·skip
  have hst:w.n.step s=w.n.fin (AK s.side 2) (AK s.a 4):=by unfold AN.step;rw [if_neg k1,if_pos k2]
  obtain⟨hno,hyes⟩:=hw.eS hi hk;rw [hnx]at hno hyes;rw [hne]at hno hyes
  obtain⟨rv,erv⟩:∃rv,rv=C.c.s.finish (AK s.a 4):=Bh
  rw [←erv]at hno hyes;refine Sf ?_;refine J7 ?_;refine JL (Ay (v':=.agg (DT ⟨2,((AK s.a 4):Nat),0,0,⟨#[]⟩⟩).toArray) Ey rfl) ?_;refine A9 (H':=AT C.cb C.c*(HP.AA b3 0 (Bw s)*(At nb w.x*(AB w.xa.b w.xa.o w.cs w.xa.s*(AB w.ea.b w.ea.o w.rows w.ea.s*(AB w.ba.b w.ba.o w.AJ w.ba.s*(AB w.ca.b w.ca.o w.cnt w.ca.s*(AB r.a.b r.a.o r.es r.a.s*(A7 E.q E.o*(B2 w (AK s.side 2) (AK s.side 2) (AK s.a 4) r*H)))))))))) Cf ?_;refine mE rfl (Ge hG C.cb t C.c ⟨2,((AK s.a 4):Nat),0,0,⟨#[]⟩⟩ ⟨rv.1,-1,0,0,⟨#[]⟩,[]⟩ rv.2 (by rw [fI,←erv]) _ (hok.Ef C hCm) hci Ca Cw Cr) ?_;rintro _ _ ⟨m2,ps,hm2,hs2,hps,rfl,rfl⟩;dsimp only at hs2 hps⊢;refine Ag GE rfl ?_;rintro _ _ ⟨b12,rfl,rfl⟩
  refine Bi Uu ?_;refine JR ?_;refine CB ?_;refine DO 144 rfl (fun hg2=>?_) (fun hg2=>?_)
  ·have hf:E.o.finished=true∨E.o.given=true:=.inl hg2;obtain⟨e3,e4⟩:=hno hf;refine UU ?_;refine JH hg2 ?_;refine JL Mo ?_;refine J2 ?_;refine GZ ?_;refine J4 ?_;refine JL TO ?_;refine J7 ?_;exact bS
  refine Pw ?_;refine Pw ?_;refine JL NA ?_;refine J2 ?_;refine mc (fun hgv=>?_) (fun hgv=>?_)
  ·have hf:E.o.finished=true∨E.o.given=true:=.inr hgv;obtain⟨e3,e4⟩:=hno hf;refine J4 ?_;refine JL TO ?_;refine J7 ?_;exact bS
  have hf:¬(E.o.finished=true∨E.o.given=true):=fun x=>by rcases x with x|x;rw [x]at hg2;cases hg2;rw [x]at hgv;cases hgv
  obtain⟨e3,e4⟩:=hyes hf;refine J7 ?_;refine Bi W0 ?_;refine Ik ?_;refine JL YW ?_;refine J6 ?_;exact mR [4] (Av nb (w.put (AK s.side 2) (AK s.side 2) (AK s.a 4) ⟨C.cb,m2⟩ r ⟨E.q,{E.o with finished:=true}⟩)*H) (hE:=U') rfl rfl ⟨rfl,(w.put (AK s.side 2) (AK s.side 2) (AK s.a 4) ⟨C.cb,m2⟩ r ⟨E.q,{E.o with finished:=true}⟩),hok.put hC hr hE hm2 _,aC,rfl⟩
 refine J2 ?_;refine JL (C4 (i:=s.kind) (j:=3) rfl rfl) ?_;refine J3 ?_;refine mC (fun k3=>?_) (fun k3=>?_)
 ·have hx:AK s.b 1000<1000:=FF _ Ca
  have hst:w.n.step s=w.n.CL (AK s.side 2) (AK s.a 4) (AK s.b 1000):=by unfold AN.step;rw [if_neg k1,if_neg k2,if_pos k3]
  obtain⟨hno,hyes⟩:=hw.wN hi hk hx;rw [hnx]at hno hyes;rw [hne]at hno hyes
  obtain⟨rv,erv⟩:∃rv,rv=C.c.s.giveUp (AK s.a 4) (AK s.b 1000):=Bh
  rw [←erv]at hno hyes;refine Sf ?_;refine J7 ?_;refine mE rfl (IQ s.b hs.b 1000 Ca _) ?_;refine JR ?_;refine JL FD ?_;refine J8 ?_;refine JL (Ay (v':=.agg (DT ⟨3,((AK s.a 4):Nat),0,(AK s.b 1000),⟨#[]⟩⟩).toArray) Ey rfl) ?_;refine A9 (H':=AT C.cb C.c*(HP.AA b3 0 (Bw s)*(At nb w.x*(AB w.xa.b w.xa.o w.cs w.xa.s*(AB w.ea.b w.ea.o w.rows w.ea.s*(AB w.ba.b w.ba.o w.AJ w.ba.s*(AB w.ca.b w.ca.o w.cnt w.ca.s*(AB r.a.b r.a.o r.es r.a.s*(A7 E.q E.o*(B2 w (AK s.side 2) (AK s.side 2) (AK s.a 4) r*H)))))))))) Cf ?_;refine mE rfl (Ge hG C.cb t C.c ⟨3,((AK s.a 4):Nat),0,(AK s.b 1000),⟨#[]⟩⟩ ⟨rv.1,-1,0,0,⟨#[]⟩,[]⟩ rv.2 (by rw [fH,←erv]) _ (hok.Ef C hCm) hci Ca Cw Cr) ?_;rintro _ _ ⟨m2,ps,hm2,hs2,hps,rfl,rfl⟩;dsimp only at hs2 hps⊢
  refine Ag GE rfl ?_;rintro _ _ ⟨b15,rfl,rfl⟩;refine Bi Uu ?_;refine JR ?_;refine Bt ?_;refine mc (fun hgv=>?_) (fun hgv=>?_)
  ·obtain⟨e3,e4⟩:=hno hgv;refine J4 ?_;refine JL TO ?_;refine J7 ?_;exact mR [4] (Av nb (w.put (AK s.side 2) (AK s.side 2) (AK s.a 4) ⟨C.cb,m2⟩ r ⟨E.q,E.o⟩)*H) (hE:=Zr) rfl rfl ZZ
  obtain⟨e3,e4⟩:=hyes hgv;refine J7 ?_;refine Bi W0 ?_;refine JR ?_;refine J8 ?_;refine Bi (Eh (v:=uN (AK s.b 1000)) rfl rfl rfl trivial) ?_;refine Ik ?_;refine JL YW ?_;refine J6 ?_;exact mR [4] (Av nb (w.put (AK s.side 2) (AK s.side 2) (AK s.a 4) ⟨C.cb,m2⟩ r ⟨E.q,{E.o with given:=true,code:=(AK s.b 1000)}⟩)*H) (hE:=Zr) rfl rfl ⟨rfl,(w.put (AK s.side 2) (AK s.side 2) (AK s.a 4) ⟨C.cb,m2⟩ r ⟨E.q,{E.o with given:=true,code:=(AK s.b 1000)}⟩),hok.put hC hr hE hm2 _,aC,rfl⟩
 refine J2 ?_;refine JL (C4 (i:=s.kind) (j:=4) rfl rfl) ?_;refine J3 ?_;refine mC (fun k4=>?_) (fun k4=>?_)
 ·skip
  have hst:w.n.step s=(true,w.n.tick):=by unfold AN.step;rw [if_neg k1,if_neg k2,if_neg k3,if_pos k4]
  obtain⟨C0,r0,E0,hC0,hr0,hE0,_,_,_⟩:=hw.mem (i:=0) (j:=0) (k:=0) Ca Ca Ca;refine J1 ?_;refine Ai (H':=At nb w.x*(AB w.xa.b w.xa.o w.cs w.xa.s*(AB w.ea.b w.ea.o w.rows w.ea.s*(AB w.ba.b w.ba.o w.AJ w.ba.s*(AB w.ca.b w.ca.o w.cnt w.ca.s*(AT C0.cb C0.c*(AB r0.a.b r0.a.o r0.es r0.a.s*(A7 E0.q E0.o*(B2 w 0 0 0 r0*(HP.AA b3 0 (Bw s)*H)))))))))) (by rw [←Ej nb w _ hC hr hE,Ej nb w _ hC0 hr0 hE0]) ?_;refine J4 ?_;refine JL Pm ?_;refine JL Vd ?_;refine JL (D8 (f:=0) (xs:=w.cs) (v:=ptr C0.cb 0) rfl inferInstance (by rw [getD_some hC0];rfl) Ca) ?_;refine JL aA ?_;refine A9 (H':=AT C0.cb C0.c*(At nb w.x*(AB w.xa.b w.xa.o w.cs w.xa.s*(AB w.ea.b w.ea.o w.rows w.ea.s*(AB w.ba.b w.ba.o w.AJ w.ba.s*(AB w.ca.b w.ca.o w.cnt w.ca.s*(AB r0.a.b r0.a.o r0.es r0.a.s*(A7 E0.q E0.o*(B2 w 0 0 0 r0*(HP.AA b3 0 (Bw s)*H)))))))))) Cf ?_;refine mE rfl (Ge hG C0.cb t C0.c ⟨4,0,0,0,⟨#[]⟩⟩ ⟨0,-1,0,0,⟨#[]⟩,[]⟩ C0.c.s.tick (by rw [Vb]) _ (hok.Ef C0 (J! hC0)) (by have:=hw.c 0 Ca;rw [NM.EO hC0]at this;exact this) Ca Cw Cr) ?_;rintro _ _ ⟨m2,ps,hm2,hs2,hps,rfl,rfl⟩;dsimp only at hs2 hps⊢
  obtain⟨w1,hw1⟩:∃w1,w1=w.put 0 0 0 ⟨C0.cb,m2⟩ r0 ⟨E0.q,E0.o⟩:=Bh
  have hok1:w1.ok:=by rw [hw1];exact hok.put hC0 hr0 hE0 hm2 _
  have hn1:w1.n=w.n.Aq 0 (w.n.x 0).tick:=by rw [hw1,NM.Fw w hC0 hr0,hs2,NM.EO hC0];exact H6 hr0 hE0 _
  have hx1:w1.n.x 1=w.n.x 1:=by rw [hn1,KL _ 0 1 _ hw.xl Ca,if_neg Ca]
  have hl1:Hc w1.n:=by rw [hn1];exact hw.len.Aq _ _
  obtain⟨C1,r1,E1,hC1,hr1,hE1,l4,l5,_⟩:=hl1.mem (i:=1) (j:=0) (k:=0) Ca Ca Ca;refine J2 ?_;refine Ai (H':=At nb w1.x*(AB w1.xa.b w1.xa.o w1.cs w1.xa.s*(AB w1.ea.b w1.ea.o w1.rows w1.ea.s*(AB w1.ba.b w1.ba.o w1.AJ w1.ba.s*(AB w1.ca.b w1.ca.o w1.cnt w1.ca.s*(AT C1.cb C1.c*(AB r1.a.b r1.a.o r1.es r1.a.s*(A7 E1.q E1.o*(B2 w1 1 0 0 r1*(ps.h ([]:List ByteArray)*(HP.AA b3 0 (Bw s)*H))))))))))) (by rw [←Ej nb w1 _ hC1 hr1 hE1,hw1,IT nb w _ hC0 hr0 hE0];ac_rfl) ?_;refine J4 ?_;refine JL (Ay Dn hok1.xv) ?_;refine JL (CU (i:=1) rfl rfl hok1.xa.1 Ca) ?_;refine JL (D8 (f:=0) (xs:=w1.cs) (v:=ptr C1.cb 0) rfl inferInstance (by rw [getD_some hC1];rfl) Ca) ?_;refine JL aA ?_;refine A9 (H':=AT C1.cb C1.c*(At nb w1.x*(AB w1.xa.b w1.xa.o w1.cs w1.xa.s*(AB w1.ea.b w1.ea.o w1.rows w1.ea.s*(AB w1.ba.b w1.ba.o w1.AJ w1.ba.s*(AB w1.ca.b w1.ca.o w1.cnt w1.ca.s*(AB r1.a.b r1.a.o r1.es r1.a.s*(A7 E1.q E1.o*(B2 w1 1 0 0 r1*(ps.h ([]:List ByteArray)*(HP.AA b3 0 (Bw s)*H))))))))))) Cf ?_
  refine mE rfl (Ge hG C1.cb t C1.c ⟨4,0,0,0,⟨#[]⟩⟩ ⟨0,-1,0,0,⟨#[]⟩,[]⟩ C1.c.s.tick (by rw [Vb]) _ (hok1.Ef C1 sH) (by have:=hw.c 1 Ca;rw [←hx1,NM.EO hC1]at this;exact this) Ca Cw Cr) ?_;rintro _ _ ⟨m3,pt,hm3,hs3,hpt,rfl,rfl⟩;dsimp only at hs3 hpt⊢
  obtain⟨w4,hw4⟩:∃w4,w4=w1.put 1 0 0 ⟨C1.cb,m3⟩ r1 ⟨E1.q,E1.o⟩:=Bh
  have hok4:w4.ok:=by rw [hw4];exact hok1.put hC1 hr1 hE1 hm3 _
  have hn4:w4.n=w.n.tick:=by
   have e1:w4.n=w1.n.Aq 1 (w1.n.x 1).tick:=by rw [hw4,NM.Fw w1 hC1 hr1,hs3,NM.EO hC1];exact H6 hr1 hE1 _
   rw [e1,hx1,hn1];rfl
  obtain⟨w9,t9,J9,hok9,hw9,ht9,h9,h99⟩:∃(w9:NM) (t9:Nat) (J9:HP),w9.ok∧Al t9 w9.n L Rr Bb∧t9<800000∧(w9.n.carry s).2=(w.n.step s).2∧Av nb w4*(HP.AA b3 0 (Bw s)*((pt.h ([]:List ByteArray)*ps.h ([]:List ByteArray))*H))=Av nb w9*(HP.AA b3 0 (Bw s)*(J9*H)):=
   ⟨w4,t+1,pt.h ([]:List ByteArray)*ps.h ([]:List ByteArray),hok4,by rw [hn4];exact hw.tick,Ca,by
    rw [hst,hn4]
    unfold AN.carry
    split
    ·rfl
    ·dsimp only
     rw [if_neg Ca,if_neg Ca,if_neg Ca],rfl⟩
  refine A9 (H':=Av nb w9*(HP.AA b3 0 (Bw s)*(J9*H))) (by rw [←h99,hw4,IT nb w1 _ hC1 hr1 hE1];ac_rfl) ?_;refine Xx ?_;rintro _ _ ⟨rfl,w2,hok2,hn2,rfl⟩;refine J4 ?_;exact Vr
 refine J2 ?_;refine JL (C4 (i:=s.kind) (j:=5) rfl rfl) ?_;refine J3 ?_;refine mC (fun k5=>?_) (fun k5=>?_)
 ·skip
  have hst:w.n.step s=w.n.flush (AK s.side 2):=by unfold AN.step;rw [if_neg k1,if_neg k2,if_neg k3,if_neg k4,if_pos k5]
  obtain⟨Ls,hfl⟩:=hw.Jj hi Ca;refine J4 ?_;refine A9 (H':=Av nb w*(HP.AA b3 0 (Bw s)*H)) SC ?_;refine mE rfl (M5 hG nb t (AK s.side 2) w Ls _ hok hfl hi Ca) ?_;rintro _ _ ⟨rfl,w2,hok2,hn2,rfl⟩;refine J6 ?_;exact RE
 refine J2 ?_;refine JL (C4 (i:=s.kind) (j:=10) rfl rfl) ?_;refine J3 ?_;refine mC (fun k10=>?_) (fun k10=>?_)
 ·skip
  have hst:w.n.step s=w.n.read (AK s.side 2) (AK s.b 4) (AK s.a 200):=by unfold AN.step;rw [if_neg k1,if_neg k2,if_neg k3,if_neg k4,if_neg k5,if_pos k10]
  have hb4:AK s.b 4<4:=FF _ Ca;have ha2:AK s.a 200<200:=FF _ Ca;refine J1 ?_;refine Ai (H':=Av nb w*(HP.AA b3 0 (Bw s)*H)) SC ?_;refine mA 8 10 ?_;refine EX ?_;refine I3 ?_;refine Kf ?_;refine Jf 5 ?_;refine Jd 6 ?_;refine Am 4 Cb rfl rfl (BJ rfl (IQ s.b hs.b 4 Ca _)) ?_;refine Ev ?_;refine Am 7 Cb rfl rfl (BJ rfl (IQ s.a hs.a 200 Ca _)) ?_;refine Ev ?_;refine Am 8 Cb rfl rfl (BJ rfl (X1 hG nb t (AK s.side 2) (AK s.b 4) (AK s.a 200) w L Rr _ hok hw hi hb4 Ca Ca)) ?_;rintro _ _ ⟨rfl,w2,hok2,hn2,rfl⟩;refine DW ?_;refine EV 9 Cb rfl rfl Fg ED ?_;refine K4 ?_;exact RE
 refine J2 ?_;refine JL (C4 (i:=s.kind) (j:=7) rfl rfl) ?_;refine J3 ?_;refine mC (fun k7=>?_) (fun k7=>?_)
 ·skip
  have hst:w.n.step s=w.n.Do (AK s.side 2) s.s.data.toList:=by unfold AN.step;rw [if_neg k1,if_neg k2,if_neg k3,if_neg k4,if_neg k5,if_neg k10,if_pos k7]
  refine J6 ?_;refine A9 (H':=Av nb w*(HP.AA b3 0 (Bw s)*H)) SC ?_;refine mE rfl (Rz hG nb t (AK s.side 2) s.s w L Rr _ hok hw hi hss Ca) ?_;rintro _ _ ⟨rfl,w2,hok2,hn2,rfl⟩;refine J6 ?_;exact RE
 have hst:(w.n.step s).2=(w.n.carry s).2:=by unfold AN.step;rw [if_neg k1,if_neg k2,if_neg k3,if_neg k4,if_neg k5,if_neg k10,if_neg k7]
 obtain⟨w9,t9,J9,hok9,hw9,ht9,h9⟩:∃(w9:NM) (t9:Nat) (J9:HP),w9.ok∧Al t9 w9.n L Rr Bb∧t9<800000∧(w9.n.carry s).2=(w.n.step s).2∧Av nb w*(HP.AA b3 0 (Bw s)*H)=Av nb w9*(HP.AA b3 0 (Bw s)*(J9*H)):=⟨w,t,HP.BD,hok,hw,Ca,hst.symm,Cj⟩
 obtain⟨h9,h99⟩:=h9;refine Ai (H':=Av nb w9*(HP.AA b3 0 (Bw s)*(J9*H))) (by rw [←h99,Ej nb w _ hC hr hE]) ?_;refine Xx ?_;rintro _ _ ⟨rfl,w2,hok2,hn2,rfl⟩;refine J4 ?_;exact Vr
end
def Jy:List (Nat×ByteArray)→AN→AN
 |[],n=>n
 |f::fs,n=>Jy fs (n.comes f.1 f.2).2
def F6(i:Nat):Nat→Nat→AN→AN
 |_,0,n=>n
 |k,m+1,n=>F6 i (k+1) m (n.read i k 5000).2
theorem Sw:∀(fs:List (Nat×ByteArray)) (z:Bool×AN),(G1 fs z).2=Jy fs z.2
 |[],z=>rfl
 |f::fs,z=>by rw [G1,Sw fs];rfl
theorem PR(i:Nat):∀(m k:Nat) (z:Bool×AN),(GI i k m z).2=F6 i k m z.2
 |0,k,z=>rfl
 |m+1,k,z=>by rw [GI,PR i m];rfl
def AN.Ae(n:AN):AN:=((n.tick.flush 0).2.flush 1).2
def AN.AP(n:AN):AN:=Jy (n.Ae.AJ.drop n.AJ.length) n.Ae
theorem Vy(n:AN):n.round.2=F6 1 0 4 (F6 0 0 4 n.AP):=by
 unfold AN.round;dsimp only;rw [PR,PR,Sw];rfl
def BN(t:Nat)(n:AN):Prop:=∃L R,Al t n L R Bb
theorem Al.up{t t':Nat}{n:AN}{L:Nat→List (List AU)}{R:Nat→Nat→Prop}{T:Nat→Nat→List UInt8}(h:Al t n L R T)(ht:t≤t'):Al t' n L R T:={h with c:=fun i hi=>(h.c i hi).mono ht}
theorem BN.comes{t:Nat}{n:AN}(h:BN t n)(ht:t≤1000000000){f:Nat×ByteArray}(hf:f∈n.AJ):(n.comes f.1 f.2).1=true∧BN t (n.comes f.1 f.2).2∧(n.comes f.1 f.2).2.AJ=n.AJ:=by
 obtain⟨L,R,h⟩:=h;obtain⟨_,a,R',b,c⟩:=h.comes hf ht;exact⟨a,⟨L,R',b⟩,c⟩
theorem BN.G1{t:Nat}(ht:t≤1000000000):∀(fs:List (Nat×ByteArray)) (n:AN),BN t n→(∀f∈fs,f∈n.AJ)→(G1 fs (true,n)).1=true∧BN t (Jy fs n)∧(Jy fs n).AJ=n.AJ
 |[],n,h,_=>⟨rfl,h,rfl⟩
 |f::fs,n,h,hf=>by
  obtain⟨a,b,c⟩:=h.comes ht (hf f Cg);obtain⟨a',b',c'⟩:=BN.G1 ht fs (n.comes f.1 f.2).2 b (fun g hg=>by rw [c];exact hf g Cx);refine⟨?_,b',c'.trans c⟩;rw [Go.Proofs.YtgfdlpcdjklcoaaGreatDoor.G1];show(Go.Proofs.YtgfdlpcdjklcoaaGreatDoor.G1 fs (true&&(n.comes f.1 f.2).1,(n.comes f.1 f.2).2)).1=true;rw [a];exact a'
theorem BN.read{t:Nat}{n:AN}(h:BN t n){i k:Nat}(hi:i<2)(hk:k<4)(AL:Nat):(n.read i k AL).1=true∧BN (t+1) (n.read i k AL).2:=by
 obtain⟨L,R,h⟩:=h;obtain⟨a,b⟩:=h.read hi hk AL;exact⟨a,L,R,b⟩
theorem BN.GI{i:Nat}(hi:i<2):∀(m k t:Nat) (n:AN),BN t n→k+m≤4→(GI i k m (true,n)).1=true∧BN (t+m) (F6 i k m n)
 |0,k,t,n,h,_=>⟨rfl,h⟩
 |m+1,k,t,n,h,hk=>by
  obtain⟨a,b⟩:=h.read hi (show k<4 by omega) 5000;obtain⟨a',b'⟩:=BN.GI hi m (k+1) (t+1) _ b Ca;refine⟨?_,by rw [show t+(m+1)=t+1+m by omega];exact b'⟩;rw [Go.Proofs.YtgfdlpcdjklcoaaGreatDoor.GI];show(Go.Proofs.YtgfdlpcdjklcoaaGreatDoor.GI i (k+1) m (true&&(n.read i k 5000).1,(n.read i k 5000).2)).1=true;rw [a];exact a'
theorem BN.tick{t:Nat}{n:AN}(h:BN t n):BN (t+1) n.tick:=by
 obtain⟨L,R,h⟩:=h;exact⟨L,R,h.tick⟩
theorem BN.flush{t:Nat}{n:AN}(h:BN t n){i:Nat}(hi:i<2)(ht:t≤1000000000):(n.flush i).1=true∧BN (t+1) (n.flush i).2:=by
 obtain⟨L,R,h⟩:=h;obtain⟨a,L',b⟩:=h.flush hi ht;exact⟨a,L',R,b⟩
theorem Zj{α:Type}{z:Bool×α}{x:α}(h1:z.1=true)(h2:z.2=x):z=(true,x):=by
 cases z;cases h1;cases h2;rfl
theorem fE{n:AN}(a2:(n.tick.flush 0).1=true)(a3:((n.tick.flush 0).2.flush 1).1=true)(a4:(G1 (n.Ae.AJ.drop n.AJ.length) (true,n.Ae)).1=true)
  (a5:(GI 0 0 4 (true,n.AP)).1=true)(a6:(GI 1 0 4 (true,F6 0 0 4 n.AP)).1=true):n.round.1=true:=by
 unfold AN.round;dsimp only
 have e1:th (th (true,n.tick) (·.flush 0)) (·.flush 1)=(true,n.Ae):=by
  unfold th AN.Ae;dsimp only;rw [a2,a3];rfl
 rw [e1];have e2:G1 (n.Ae.AJ.drop n.AJ.length) (true,n.Ae)=(true,n.AP):=Zj a4 (Sw _ (true,n.Ae));rw [show(true,n.Ae).2=n.Ae from rfl,e2];have e3:GI 0 0 4 (true,n.AP)=(true,F6 0 0 4 n.AP):=Zj a5 (PR 0 4 0 (true,n.AP));rw [e3];exact a6
theorem BN.Ae{t:Nat}{n:AN}(h:BN t n)(ht:t≤900000000):(n.tick.flush 0).1=true∧((n.tick.flush 0).2.flush 1).1=true∧BN (t+3) n.Ae:=by
 have h1:=h.tick;obtain⟨a2,h2⟩:=h1.flush (i:=0) Ca Ca;obtain⟨a3,h3⟩:=h2.flush (i:=1) Ca Ca;exact⟨a2,a3,h3⟩
theorem BN.AP{t:Nat}{n:AN}(h:BN t n)(ht:t≤900000000):(Go.Proofs.YtgfdlpcdjklcoaaGreatDoor.G1 (n.Ae.AJ.drop n.AJ.length) (true,n.Ae)).1=true∧BN (t+3) n.AP:=by
 obtain⟨a4,h4,_⟩:=BN.G1 (t:=t+3) Ca (n.Ae.AJ.drop n.AJ.length) n.Ae (h.Ae ht).2.2 (fun f hf=>List.mem_of_mem_drop hf);exact⟨a4,h4⟩
theorem BN.round{t:Nat}{n:AN}(h:BN t n)(ht:t≤900000000):n.round.1=true∧BN (t+11) n.round.2:=by
 obtain⟨a2,a3,_⟩:=h.Ae ht;obtain⟨a4,h4⟩:=h.AP ht;obtain⟨a5,h5⟩:=BN.GI (i:=0) Ca 4 0 (t+3) n.AP h4 Ca;obtain⟨a6,h6⟩:=BN.GI (i:=1) Ca 4 0 (t+3+4) (F6 0 0 4 n.AP) h5 Ca;refine⟨fE a2 a3 a4 a5 a6,?_⟩;rw [Vy,show t+11=t+3+4+4 by omega];exact h6
theorem BN.G7:∀(k t:Nat) (n:AN),BN t n→t+11*k≤900000000→(G7 k n).1=true∧BN (t+11*k) (G7 k n).2
 |0,t,n,h,_=>⟨rfl,h⟩
 |k+1,t,n,h,ht=>by
  obtain⟨a,b⟩:=h.round Ca;rw [Go.Proofs.YtgfdlpcdjklcoaaGreatDoor.G7,if_pos a];obtain⟨a',b'⟩:=BN.G7 k (t+11) _ b Ca;exact⟨a',by rw [show t+11*(k+1)=t+11+11*k by omega];exact b'⟩
section
variable{B:World}
def aG(n:AN):Nat→AN
 |0=>n
 |1=>(n.flush 0).2
 |_+2=>((n.flush 0).2.flush 1).2
theorem zE(n:AN):n.step ⟨4,0,0,0,⟨#[]⟩⟩=(true,n.tick):=by
 unfold AN.step;rw [if_neg Cc,if_neg Cc,if_neg Cc,if_pos rfl]
theorem rH:KX ⟨4,0,0,0,⟨#[]⟩⟩:=⟨⟨Cc,Cc⟩,⟨Cc,Cc⟩,⟨Cc,Cc⟩,Cc⟩
theorem YX{α:Type}{l:List α}{k:Nat}{x:α}(h:l[k]?=some x):l.drop k=x::l.drop (k+1):=by
 obtain⟨a,b⟩:=K_.1 h;rw [M? a,b]
def aB(n:AN):Nat→AN
 |0=>n
 |1=>F6 0 0 4 n
 |_+2=>F6 1 0 4 (F6 0 0 4 n)
theorem Vs{t:Nat}{n:AN}{L:Nat→List (List AU)}{R:Nat→Nat→Prop}(h:Al t n L R Bb){i:Nat}(hi:i<2)(ht:t≤1000000):n.AJ.length≤(n.flush i).2.AJ.length:=by
 obtain⟨Ls,a,b,c,d⟩:=h.Uo hi;unfold AN.flush;rw [a,←h.cnt i hi,S7 (i:=i) (ks:=n.ks) b Ls (n.Aq i (n.x i).A3.2) (n.cnt i) rfl rfl rfl WM (by rw [h.cnt i hi];omega) d];show n.AJ.length≤(n.AJ++_).length;rw [J?];omega
set_option maxHeartbeats 16000000 in
theorem oJ(hG:B.cell? ⟨0,0,none⟩=some (CZ 106))(nb t k:Nat)(w:NM)(H:HP)(hok:w.ok)(hw:BN t w.n)(ht:t+11*k<600000):
  Fn Tryz.prog B 36 [ptr nb 0,iN k] (Av nb w*H) (fun v H'=>v=.bool true∧∃w':NM,w'.ok∧w'.n=(G7 k w.n).2∧H'=Av nb w'*H):=by
 refine mI Tryz.func36 ?_;refine J8 ?_;refine F8 ?_;refine Bm (α:=NM×Nat) (fun z=>[(5,iN z.2),(0,ptr nb 0),(1,iN k)]) (fun z=>Av nb z.1*H) (fun z=>z.1.ok∧z.2≤k∧BN (t+11*z.2) z.1.n∧(G7 (k-z.2) z.1.n).2=(G7 k w.n).2) (fun z=>k-z.2) (w,0) ⟨hok,L? _,hw,rfl⟩ D6 rfl ?_;rintro⟨w1,j⟩ ⟨q1,q2,q3,q4⟩;dsimp only at q1 q2 q3 q4⊢;refine J5 ?_;refine JL (D4 (i:=j) (j:=k) rfl rfl) ?_;refine J2 ?_;refine mC (fun hj=>?_) (fun hj=>?_)
 ·obtain⟨L0,R0,hw0⟩:=q3;have hro:=(BN.round ⟨L0,R0,hw0⟩ Ca).1;refine J7 ?_;refine JL (Ay (v':=.agg (Bw (⟨4,0,0,0,⟨#[]⟩⟩:DL)).toArray) Ey rfl) ?_;refine mE rfl (PT hG nb (t+11*j) (⟨4,0,0,0,⟨#[]⟩⟩:DL) w1 L0 R0 _ q1 hw0 rH Ca) ?_;rintro _ _ ⟨rfl,wt,hokt,hnt,rfl⟩;rw [zE]at hnt;have hnt:wt.n=w1.n.tick:=hnt
  have hwt:BN (t+11*j+1) wt.n:=by rw [hnt];exact⟨L0,R0,hw0.tick⟩
  refine J4 ?_;refine Ai (H':=At nb wt.x*(AB wt.xa.b wt.xa.o wt.cs wt.xa.s*(AB wt.ea.b wt.ea.o wt.rows wt.ea.s*(AB wt.ba.b wt.ba.o wt.AJ wt.ba.s*(AB wt.ca.b wt.ca.o wt.cnt wt.ca.s*(AO CJ wt.cs*(AO CK wt.rows*H))))))) (Em nb wt _) ?_;refine J4 ?_;refine JL (Ay Dn hokt.bv) ?_;refine J7 ?_;refine F8 ?_
  have hbl:wt.AJ.length=w1.n.AJ.length:=by
   have e:wt.n.AJ.length=wt.AJ.length:=K! ..;rw [←e,hnt];rfl
  refine Bm (α:=NM×Nat) (fun z=>[(8,iN z.2),(7,iN wt.AJ.length),(6,.bool true),(5,iN j),(0,ptr nb 0),(1,iN k)]) (fun z=>Av nb z.1*H) (fun z=>z.1.ok∧z.2≤2∧BN (t+11*j+1+z.2) z.1.n∧z.1.n=aG wt.n z.2) (fun z=>2-z.2) (wt,0) ⟨hokt,L? _,hwt,rfl⟩ Fi (Em nb wt _).symm ?_;rintro⟨w2,i⟩ ⟨x1,x2,x3,x4⟩;dsimp only at x1 x2 x3 x4⊢;refine J4 ?_;refine JL (D4 (i:=i) (j:=2) rfl rfl) ?_;refine J2 ?_;refine mC (fun hi=>?_) (fun hi=>?_)
  ·obtain⟨L2,R2,hw2⟩:=id x3;obtain⟨Ls,hfl⟩:=hw2.Jj hi Ca;refine J8 ?_;refine mE rfl (M5 hG nb _ i w2 Ls _ x1 hfl hi Ca) ?_;rintro _ _ ⟨rfl,w3,hok3,hn3,rfl⟩;refine J6 ?_;refine NE ?_;refine J6 ?_;refine E7 ?_
   exact Ba (w3,i+1) ⟨hok3,by show i+1≤2;omega,by
    show BN (t+11*j+1+(i+1)) w3.n
    rw [hn3];exact(x3.flush Ca Ca).2,by
    show w3.n=aG wt.n (i+1)
    rw [hn3,x4]
    rcases(show i=0∨i=1 by omega)with rfl|rfl<;>rfl⟩ aE Fi rfl
  have hi2:i=2:=by omega
  subst hi2
  have hs:w2.n=w1.n.Ae:=by rw [x4,hnt];rfl
  refine F5z ?_;have hb2:w2.AJ.length=w2.n.AJ.length:=(K! ..).symm
  have hle:wt.AJ.length≤w2.n.AJ.length:=by
   rw [hbl,hs];obtain⟨L5,R5,hw5⟩:=hwt;rw [hnt]at hw5;have e0:w1.n.AJ.length=w1.n.tick.AJ.length:=rfl;have e1:=Vs hw5 (i:=0) Ca Ca;obtain⟨L6,R6,hw6⟩:=(BN.flush ⟨L5,R5,hw5⟩ (i:=0) Ca Ca).2;have e2:=Vs hw6 (i:=1) Ca Ca;show w1.n.AJ.length≤w1.n.Ae.AJ.length;unfold AN.Ae;omega
  refine Bm (α:=NM×Nat) (fun z=>[(10,iN z.2),(6,.bool true),(5,iN j),(0,ptr nb 0),(1,iN k)]) (fun z=>Av nb z.1*H) (fun z=>z.1.ok∧z.2≤w2.n.AJ.length∧BN (t+11*j+3) z.1.n∧z.1.n.AJ=w2.n.AJ∧Jy (w2.n.AJ.drop z.2) z.1.n=w1.n.AP) (fun z=>w2.n.AJ.length-z.2) (w2,wt.AJ.length) ⟨x1,hle,x3,rfl,by show Jy (w2.n.AJ.drop wt.AJ.length) w2.n=_;rw [hbl,hs];rfl⟩ HD rfl ?_;rintro⟨w3,m⟩ ⟨y1,y2,y3,y4,y5⟩;dsimp only at y1 y2 y3 y4 y5⊢
  have hb3:w3.AJ.length=w2.n.AJ.length:=by rw [←y4];exact QE
  refine J2 ?_;refine Ai (H':=At nb w3.x*(AB w3.xa.b w3.xa.o w3.cs w3.xa.s*(AB w3.ea.b w3.ea.o w3.rows w3.ea.s*(AB w3.ba.b w3.ba.o w3.AJ w3.ba.s*(AB w3.ca.b w3.ca.o w3.cnt w3.ca.s*(AO CJ w3.cs*(AO CK w3.rows*H))))))) (Em nb w3 _) ?_;refine J5 ?_;refine JL UY ?_;refine J1 ?_;refine JL (D4 (i:=m) (j:=w3.AJ.length) rfl rfl) ?_;refine J2 ?_;refine mC (fun hm=>?_) (fun hm=>?_)
  ·obtain⟨F,hF⟩:=Ha rfl hm
   have hFn:w3.n.AJ[m]?=some (F.to,F.b):=by show(w3.AJ.map (fun f=>(f.to,f.b)))[m]?=_;rw [K?,hF];rfl
   have hFb:w2.n.AJ[m]?=some (F.to,F.b):=by rw [←y4];exact hFn
   have hFm:(F.to,F.b)∈w3.n.AJ:=J! hFn;obtain⟨L4,R4,hw4⟩:=id y3;obtain⟨_,hfl4⟩:=hw4.Jj (i:=0) Ca Ca;have hb9:=hfl4.bl;rw [y4]at hb9;refine J5 ?_;refine mA 17 19 ?_;refine EX ?_;refine JF ?_;refine JT 4 rfl UY ?_;refine Jm 5 ?_;refine JT 6 rfl Z3 ?_;refine Jf 7 ?_;refine JT 8 rfl (D8 (f:=0) (xs:=w3.AJ) (v:=iN F.to) rfl inferInstance UI Ca) ?_;refine Jm 9 ?_;refine Jn 10 ?_;refine Jf 11 ?_;refine JT 12 rfl UY ?_;refine Jm 13 ?_;refine JT 14 rfl Z3 ?_;refine Jf 15 ?_;refine JT 16 rfl (D8 (f:=1) (xs:=w3.AJ) (v:=.string F.b) rfl inferInstance UI Ca) ?_;refine EI (H':=Av nb w3*H) (Em nb w3 _).symm ?_;refine Am 17 Cb rfl rfl (BJ rfl (YN hG nb _ F.to F.b w3 L4 R4 _ y1 hw4 hFm Ca)) ?_;rintro _ _ ⟨rfl,w5,hok5,hn5,rfl⟩;refine DW ?_;refine EV 18 Cb rfl rfl Fg ED ?_;refine K4 ?_;refine NE ?_;refine J6 ?_;refine E7 ?_;obtain⟨_,v2,v3⟩:=y3.comes Ca hFm
   exact Ba (w5,m+1) ⟨hok5,by show m+1≤_;omega,by show BN _ w5.n;rw [hn5];exact v2,by show w5.n.AJ=_;rw [hn5,v3,y4],by
    show Jy (w2.n.AJ.drop (m+1)) w5.n=_
    rw [←y5,YX hFb,hn5];rfl⟩ (by show w2.n.AJ.length-(m+1)<w2.n.AJ.length-m;omega) HD rfl
  have hm2:m=w2.n.AJ.length:=by omega
  subst hm2;rw [O!]at y5;have hg:w3.n=w1.n.AP:=y5;refine Ai (H':=Av nb w3*H) (Em nb w3 _).symm ?_;refine J8 ?_;refine JL RS ?_;refine J3 ?_;refine Bm (α:=NM×Nat) (fun z=>[(12,iN z.2),(6,.bool true),(5,iN j),(0,ptr nb 0),(1,iN k)]) (fun z=>Av nb z.1*H) (fun z=>z.1.ok∧z.2≤2∧BN (t+11*j+3+4*z.2) z.1.n∧z.1.n=aB w1.n.AP z.2) (fun z=>2-z.2) (w3,0) ⟨y1,L? _,y3,hg⟩ HD rfl ?_;rintro⟨w4,i2⟩ ⟨z1,z2,z3,z4⟩;dsimp only at z1 z2 z3 z4⊢;refine J4 ?_;refine JL (D4 (i:=i2) (j:=2) rfl rfl) ?_;refine J2 ?_;refine mC (fun hi2=>?_) (fun hi2=>?_)
  ·refine J6 ?_;refine F8 ?_;refine Bm (α:=NM×Nat) (fun z=>[(13,iN z.2),(12,iN i2),(6,.bool true),(5,iN j),(0,ptr nb 0),(1,iN k)]) (fun z=>Av nb z.1*H) (fun z=>z.1.ok∧z.2≤4∧BN (t+11*j+3+4*i2+z.2) z.1.n∧F6 i2 z.2 (4-z.2) z.1.n=F6 i2 0 4 w4.n) (fun z=>4-z.2) (w4,0) ⟨z1,L? _,z3,rfl⟩ Fi rfl ?_;rintro⟨w6,k2⟩ ⟨u1,u2,u3,u4⟩;dsimp only at u1 u2 u3 u4⊢;refine J4 ?_;refine JL (D4 (i:=k2) (j:=4) rfl rfl) ?_;refine J2 ?_;refine mC (fun hk2=>?_) (fun hk2=>?_)
   ·obtain⟨L6,R6,hw6⟩:=id u3;refine J9 ?_;refine mE rfl (X1 hG nb _ i2 k2 5000 w6 L6 R6 _ u1 hw6 hi2 hk2 Ca Ca) ?_;rintro _ _ ⟨rfl,w7,hok7,hn7,rfl⟩;refine J6 ?_;refine NE ?_;refine J6 ?_;refine E7 ?_
    exact Ba (w7,k2+1) ⟨hok7,by show k2+1≤4;omega,by show BN (t+11*j+3+4*i2+(k2+1)) w7.n;rw [hn7];exact(u3.read hi2 hk2 5000).2,by
     show F6 i2 (k2+1) (4-(k2+1)) w7.n=_
     rw [←u4,show 4-k2=(4-(k2+1))+1 by omega,hn7];rfl⟩ (by show 4-(k2+1)<4-k2;omega) Fi rfl
   refine J8 ?_;refine E7 ?_
   have hk4:k2=4:=by omega
   subst hk4
   exact Ba (w6,i2+1) ⟨u1,by show i2+1≤2;omega,by show BN (t+11*j+3+4*(i2+1)) w6.n;rw [show t+11*j+3+4*(i2+1)=t+11*j+3+4*i2+4 by omega];exact u3,by
    show w6.n=aB w1.n.AP (i2+1)
    have u4:w6.n=F6 i2 0 4 w4.n:=u4
    rw [u4,z4]
    rcases(show i2=0∨i2=1 by omega)with rfl|rfl<;>rfl⟩ (by show 2-(i2+1)<2-i2;omega) HD rfl
  have hi3:i2=2:=by omega
  subst hi3
  have z5:w1.n.round.2=w4.n:=by rw [Vy,z4];rfl
  have hrd:=BN.round (t:=t+11*j) ⟨L0,R0,hw0⟩ Ca;rw [z5,show t+11*j+11=t+11*(j+1) by omega]at hrd;refine J8 ?_;refine JL Kx ?_;refine Gi ?_;refine Kv ?_
  exact Ba (w4,j+1) ⟨z1,by show j+1≤k;omega,hrd.2,by
   show(G7 (k-(j+1)) w4.n).2=_
   rw [←q4,show k-j=(k-(j+1))+1 by omega,G7,if_pos hro,z5]⟩ Yh D6 rfl
 refine Bt ?_
 have hjk:j=k:=by omega
 subst hjk;rw [Nat.sub_self]at q4;exact mR [4] (Av nb w1*H) rfl rfl ⟨rfl,w1,q1,q4,rfl⟩
end
end Go.Proofs.YtgfdlpcdjklcoaaGreatDoor
