/- A part of this proof: steps of the program, plain facts; no condition. -/
import Derived.Test.YtgfdlpcdjklcoaaGreatDoorG11
namespace Go.Proofs.YtgfdlpcdjklcoaaGreatDoor
open Go Go.RowKit
open _root_.List renaming mem_of_getElem?→a_,length_append→b_,getElem?_eq_some_iff→c_,length_map→d_,getElem?_map→e_,length_pos_iff→g_,length_singleton→h_,drop_eq_getElem_cons→j_,length_take→kf,getElem?_set_self→kg,append_nil→kh,drop_length→kj,length_drop→km,length→kn,length_set→ko,drop_zero→kp
open _root_.UInt64 renaming ofNat→f_
open _root_.Int renaming toNat_natCast→g',natCast_emod→ki
open _root_.Nat renaming zero_le→i_,le_trans→kq
set_option linter.unusedVariables false
set_option linter.unusedSimpArgs false
set_option maxRecDepth 20000
section
variable{B:World}
theorem uI(c:Int)(n:Nat):AP c n=gS c n:=by
 unfold AP gS;split
 ·rename_i h;rw [show -(c+1)=(((-(c+1)).toNat:Nat):Int) by omega,←ki,g',g']
 ·rename_i h;rw [show c=((c.toNat:Nat):Int) by omega,←ki,g',g']
theorem JM(c:Int)(hr: -9223372036854775808≤c∧c<9223372036854775808)(n:Nat)(hn:0<n)(H:HP):Fn Tryz.prog B 24 [.int .i64 c,iN n] H (fun v H'=>v=iN (AP c n)∧H'=H):=by
 refine mI Tryz.func24 ?_;refine Hb ?_;refine J6 ?_;refine JL (L9 (i:=c) (j:=0) rfl rfl) ?_;refine J2 ?_;refine mC (fun hc=>?_) (fun hc=>?_)
 ·skip
  have e: -(c+1)=(((-(c+1)).toNat:Nat):Int):=by omega
  refine J2 ?_;refine JL (xG (i:=c) (j:=1) rfl rfl Ca) ?_;refine JL (lR (i:=c+1) rfl Ca) ?_;refine J7 ?_;refine JL Xl ?_;refine J4 ?_;exact kY
 have e:c=((c.toNat:Nat):Int):=by omega
 refine J6 ?_;refine JL Xl ?_;refine J4 ?_;exact kY
set_option maxHeartbeats 4000000 in
theorem Iq(hG:B.cell? ⟨0,0,none⟩=some (DH 106))(cb t:Nat)(m:Aj)(q:MN)(a:EM)(c':AD)(hd:m.s.CD q=(a,c'))(R:HP)(hm:m.ok)(hi:AY t m.s)(ht:t<900000)(hq:q.data.size<90000000)(hmo2:q.AL<9223372036854775808):
  Fn Tryz.prog B 23 [ptr cb 0,.agg (D3 q).toArray] (Ac cb m*R) (fun v H'=>∃(m':Aj) (ps:A8),m'.ok∧m'.s=c'∧ps.ok a.As∧
   v=.agg (DC a (.slice ps.p a.As.length ps.c)).toArray∧H'=ps.h a.As*(Ac cb m'*R)):=by
 refine mI Tryz.func23 ?_;refine J2 ?_;refine Am (Dn (l:=D3 q) rfl rfl) rfl ?_;rintro _ _ ⟨b3,rfl,rfl⟩;refine Am Jt rfl ?_;rintro _ _ ⟨b4,rfl,rfl⟩;refine J5 ?_;refine JL (D6 (l:=D3 q) rfl rfl) ?_;refine BQ (H':=Ac cb m*(HP.AA b4 0 [.int .i64 0,.int .i64 0,.int .i64 0,.int .u64 0,.string ⟨#[]⟩,.slice none 0 0]*(HP.AA b3 0 (D3 q)*R))) Cg ?_;refine mE rfl (F_ hG cb t m q _ hm hi ht hq hmo2) ?_;rintro _ _ ⟨m2,ps,hm2,hs2,hps,rfl,rfl⟩;rw [hd]at hs2 hps⊢;dsimp only at hs2 hps⊢;refine dd ?_;refine JL (A9 (v':=.agg (DC a (.slice ps.p a.As.length ps.c)).toArray) GI rfl) ?_;refine Bv (EO (cs:=DC a (.slice ps.p a.As.length ps.c)) rfl rfl Ch Cf) ?_;refine Gr ?_;exact NA (ps.h a.As*(Ac cb m2*R)) (hE:=⟨fun ww hw=>Sat.right (A:=HP.AA b4 0 (DC a (.slice ps.p a.As.length ps.c))*HP.AA b3 0 (D3 q)) (Eq.mp Co hw)⟩) rfl (Io (NS rfl rfl) KE) ⟨m2,ps,hm2,hs2,hps,rfl,rfl⟩
set_option maxHeartbeats 8000000 in
theorem gF(hG:B.cell? ⟨0,0,none⟩=some (DH 106))(nb t i:Nat)(w:NM)(L:Nat→List (List AM))(Rr:Nat→Nat→Prop)(T:Nat→Nat→List UInt8)(H:HP)(hok:w.ok)(hw:Ad t w.n L Rr T)(hi:i<2)(ht:t<800000):
  Fn Tryz.prog B 70 [ptr nb 0,iN i] (Ay nb w*H) (fun v H'=>v=.bool true∧∃w':NM,w'.ok∧w'.n=(CO i 0 4 w.n).2∧I2 w w'∧H'=Ay nb w'*H):=by
 refine mI Tryz.func70 ?_;refine J8 ?_;refine E4 ?_;refine Bj (α:=NM×Nat) (fun z=>[(5,iN z.2),(0,ptr nb 0),(1,iN i)]) (fun z=>Ay nb z.1*H) (fun z=>z.1.ok∧Ad t z.1.n L Rr T∧z.2≤4∧(CO i z.2 (4-z.2) z.1.n).2=(CO i 0 4 w.n).2∧I2 w z.1) (fun z=>4-z.2) (w,0) ⟨hok,hw,i_ _,rfl,.refl _⟩ Dk rfl ?_;rintro⟨w1,k⟩ ⟨q1,q2,q3,q4,q5⟩;dsimp only at q1 q2 q3 q4 q5⊢;refine J4 ?_;refine JL TE ?_;refine J2 ?_;refine mC (fun hk=>?_) (fun hk=>?_)
 ·obtain⟨C,r,E,hC,hr,hE,l1,l2,l3⟩:=q2.mem hi hi hk;have hCm:=a_ hC;obtain⟨hca,hnx⟩:=q2.mL hi hk;have hnb:=q2.Ss hi hk;have hwn:w1.n.AF=w1.x.AF:=rfl;rw [hca]at hnb;have hci:=q2.c i hi;rw [NM.Fc hC]at hca hnx hnb hci;rw [NM.IT hr hE]at hnx hnb;have hwk:=hci.ws.ok k hk;have hb1:(C.c.s.w k).A0≤4096:=kq hwk.NV hwk.len;have n1:¬(C.c.s.w k).A0<E.o.AE:=fun x=>hnb (.inr (.inl x));have n2:¬E.o.wrote.length<(C.c.s.w k).A0:=fun x=>hnb (.inr (.inr (.inl x)));have n3:E.o.given=false→E.o.state=0→¬E.o.read+w1.x.AF<(C.c.s.w k).A0:=fun x y z=>hnb (.inr (.inr (.inr ⟨x,y,z⟩)))
  have hrd:E.o.read<1024000000:=(by
   have o:=q2.e i k hi hk
   rw [NM.IT hr hE]at o
   have h7:=((q2.c (1-i) Ca).rs k hk).rt
   have h8:=o.read
   omega)
  have hwb:w1.x.AF≤1024:=(by have h7:=hci.w2;have h8:=q2.AF i hi;rw [NM.Fc hC]at h8;omega)
  refine J5 ?_;refine Au (H':=A7 nb w1.x*(AB w1.xa.b w1.xa.o w1.cs w1.xa.s*(AB w1.ea.b w1.ea.o w1.rows w1.ea.s*(AB w1.ba.b w1.ba.o w1.AN w1.ba.s*(AB w1.ca.b w1.ca.o w1.cnt w1.ca.s*(Ac C.cb C.c*(AB r.a.b r.a.o r.es r.a.s*(BX E.q E.o*(Do w1 i i k r*H))))))))) (GC nb w1 H hC hr hE) ?_;refine J4 ?_;refine JL (A9 ER q1.ev) ?_;refine J1 ?_;refine JL (DT (i:=i) rfl rfl q1.ea.1 Ca) ?_;refine JL (FQ (f:=0) (xs:=w1.rows) (v:=.slice r.a.p r.es.length r.a.c) rfl inferInstance U1 Ca) ?_;refine J1 ?_;refine JL (DT (i:=k) rfl rfl (q1.ra r Tu).1 Ca) ?_;refine JL SW ?_;refine J8 ?_;refine JL (A9 ER q1.xv) ?_;refine J1 ?_;refine JL (DT (i:=i) rfl rfl q1.xa.1 Ca) ?_;refine JL (FQ (f:=0) (xs:=w1.cs) (v:=ptr C.cb 0) rfl inferInstance gC Ca) ?_;refine J1 ?_;refine JL (A9 (v':=.agg (D3 ⟨9,(k:Nat),0,0,⟨#[]⟩⟩).toArray) GI rfl) ?_;refine BQ (H':=Ac C.cb C.c*((A7 nb w1.x*(AB w1.xa.b w1.xa.o w1.cs w1.xa.s*(AB w1.ea.b w1.ea.o w1.rows w1.ea.s*(AB w1.ba.b w1.ba.o w1.AN w1.ba.s*(AB w1.ca.b w1.ca.o w1.cnt w1.ca.s*(AB r.a.b r.a.o r.es r.a.s*(BX E.q E.o*(Do w1 i i k r*H)))))))))) Cg ?_
  refine mE rfl (Iq hG C.cb t C.c ⟨9,(k:Nat),0,0,⟨#[]⟩⟩ ⟨0,-1,(C.c.s.w k).A0,0,⟨#[]⟩,[]⟩ C.c.s (by rw [bj,hca]) _ (q1.F6 C hCm) hci Ca Lu Cz) ?_;rintro _ _ ⟨m2,ps,hm2,hs2,hps,rfl,rfl⟩;dsimp only at hs2 hps⊢;refine Am Jt rfl ?_;rintro _ _ ⟨b7,rfl,rfl⟩;refine Bv (EO (cs:=DC ⟨0,-1,(C.c.s.w k).A0,0,⟨#[]⟩,[]⟩ (.slice ps.p 0 ps.c)) rfl rfl Ch Cf) ?_;refine Fg ?_;refine Au (H':=HP.AA b7 0 (DC ⟨0,-1,(C.c.s.w k).A0,0,⟨#[]⟩,[]⟩ (.slice ps.p 0 ps.c))*(ps.h ([]:List ByteArray)*(A7 nb w1.x*(AB w1.xa.b w1.xa.o w1.cs w1.xa.s*(AB w1.ea.b w1.ea.o w1.rows w1.ea.s*(AB w1.ba.b w1.ba.o w1.AN w1.ba.s*(AB w1.ca.b w1.ca.o w1.cnt w1.ca.s*(Ac C.cb m2*(AB r.a.b r.a.o r.es r.a.s*(BX E.q E.o*(Do w1 i i k r*H))))))))))) Cg ?_;refine mA 22 22 ?_;refine Jy ?_;refine JT 2 rfl VU ?_;refine Yz ?_;refine Al 6 rfl Cb rfl rfl rfl rfl Bd ?_;refine Al 7 rfl Cb rfl rfl rfl rfl CT ?_
  refine aO ?_;refine Al 10 rfl Cb rfl rfl rfl rfl (A9 (v':=.bool false) (ES (i:=(C.c.s.w k).A0) (j:=E.o.AE) rfl rfl) (by rw [decide_eq_false n1])) ?_;refine JT 11 rfl EB ?_;refine Jm 12 ?_;refine Al 13 rfl Cb rfl rfl rfl rfl BW ?_;refine Al 14 rfl Cb rfl rfl rfl rfl Bg ?_;refine Al 15 rfl Cb rfl rfl rfl rfl Bd ?_;refine Al 16 rfl Cb rfl rfl rfl rfl CT ?_;refine Yh ?_;refine Al 19 rfl Cb rfl rfl rfl rfl Gf ?_;refine Al 20 rfl Cb rfl rfl rfl rfl (A9 (v':=.bool false) (Gj (i:=(C.c.s.w k).A0) (j:=(AW E.o.wrote).size) rfl rfl) (by rw [EI,decide_eq_false n2])) ?_;refine JT 21 rfl EB ?_;refine FG ?_;refine Kj ?_;refine J4 ?_
  refine DF (α:=Unit) (fun _=>[(80,.bool false),(7,ptr b7 0),(6,ptr E.q 0),(5,iN k),(0,ptr nb 0),(1,iN i)]) (fun _=>HP.AA b7 0 (DC ⟨0,-1,(C.c.s.w k).A0,0,⟨#[]⟩,[]⟩ (.slice ps.p 0 ps.c))*(ps.h ([]:List ByteArray)*(A7 nb w1.x*(AB w1.xa.b w1.xa.o w1.cs w1.xa.s*(AB w1.ea.b w1.ea.o w1.rows w1.ea.s*(AB w1.ba.b w1.ba.o w1.AN w1.ba.s*(AB w1.ca.b w1.ca.o w1.cnt w1.ca.s*(Ac C.cb m2*(AB r.a.b r.a.o r.es r.a.s*(BX E.q E.o*(Do w1 i i k r*H))))))))))) (fun _=>True) ?_ ?_
  ·refine mA 27 27 ?_;refine Ir ?_;refine JT 4 rfl LQ ?_;refine Jm 5 ?_;refine LO 59 rfl (fun hg1=>?_) (fun hg1=>?_)
   ·refine JY 6 rfl hg1 Bd ?_;refine JY 7 rfl hg1 CT ?_;refine JY 8 rfl hg1 BW ?_;refine JY 9 rfl hg1 Bg ?_;refine JY 10 rfl hg1 fL ?_;refine JT 11 rfl J0 ?_;refine Jm 12 ?_;refine Gv 66 rfl (fun hg2=>?_) (fun hg2=>?_)
    ·refine JY 13 rfl T2 BW ?_;refine JY 14 rfl T2 Bg ?_;refine JY 15 rfl T2 Bd ?_;refine Wv ?_;refine JY 20 rfl T2 CT ?_;refine JY 21 rfl T2 BW ?_;refine JY 22 rfl T2 BW ?_;refine JY 23 rfl T2 Bg ?_;refine JY 24 rfl T2 (Ff (i:=E.o.read) (j:=w1.x.AF) rfl rfl Ca) ?_;refine JY 25 rfl T2 (Gj (i:=(C.c.s.w k).A0) (j:=E.o.read+w1.x.AF) rfl rfl) ?_;refine JT 26 rfl IY ?_;refine JD ?_;exact VT
    refine JN 13 rfl F2 ?_;refine JN 14 rfl F2 ?_;refine gA ?_;refine JN 24 rfl F2 ?_;refine JN 25 rfl F2 ?_;refine JT 26 rfl Hr ?_;refine JD ?_;exact VT
   refine RY ?_;refine JN 10 rfl hg1 ?_;refine JT 11 rfl ID ?_;refine Jm 12 ?_;refine Zq ?_;refine JT 26 rfl EB ?_;refine JD ?_;exact VT
  ·rintro⟨⟩ _;refine J1 ?_;refine Kj ?_;refine HI ?_;refine D7 ?_
   have hn9:(w1.put i i k ⟨C.cb,m2⟩ r ⟨E.q,{E.o with AE:=(C.c.s.w k).A0}⟩).n=w1.n.C4 i k {E.o with AE:=(C.c.s.w k).A0}:=by rw [NM.Hk w1 hC hr,hs2,WI hC]
   exact Bo (Ay nb (w1.put i i k ⟨C.cb,m2⟩ r ⟨E.q,{E.o with AE:=(C.c.s.w k).A0}⟩)*H) (hE:=⟨fun ww hw=>Sat.right (A:=HP.AA b7 0 (DC ⟨0,-1,(C.c.s.w k).A0,0,⟨#[]⟩,[]⟩ (.slice ps.p 0 ps.c))*ps.h ([]:List ByteArray)) (Eq.mp (by congr 1;rw [LS nb w1 H hC hr hE];ac_rfl) hw)⟩) (Ba ((w1.put i i k ⟨C.cb,m2⟩ r ⟨E.q,{E.o with AE:=(C.c.s.w k).A0}⟩),k+1) ⟨q1.put hC hr hE hm2 _,by show Ad t (w1.put i i k ⟨C.cb,m2⟩ r ⟨E.q,{E.o with AE:=(C.c.s.w k).A0}⟩).n L Rr T;rw [hn9];exact hnx,WN,by
     show(CO i (k+1) (4-(k+1)) (w1.put i i k ⟨C.cb,m2⟩ r ⟨E.q,{E.o with AE:=(C.c.s.w k).A0}⟩).n).2=_
     rw [hn9,←q4,show 4-k=(4-(k+1))+1 by omega,CO,if_neg (q2.Ss hi hk),NM.Fc hC,NM.IT hr hE,hca],q5.trans (.put w1 hr hE _ _)⟩ Rv Dk rfl)
 refine B1 ?_
 have hk4:k=4:=by omega
 subst hk4;exact mR [4] (Ay nb w1*H) rfl rfl ⟨rfl,w1,q1,q4,q5,rfl⟩
end
section
variable{B:World}
theorem rP(hG:B.cell? ⟨0,0,none⟩=some (DH 106))(ks:List UInt8)(hk:ks.length=16)(first:Bool)(xs:List UInt8)(p:Option Addr)(b o c:Nat)(H:HP)(hs:Sl p b o xs.length c)(hr:Ai B H b o xs)(hx:xs.length<90000000):
  Fn Tryz.prog B 55 [.agg (AG ks).toArray,.bool first,.slice p xs.length c] H (fun v H'=>∃(a sv:Value) (e:Nat) (G:HP),v=.tuple #[a,sv,iN e]∧(e=0→B3 ks (Ae first) xs≠none)∧(e≠0→B3 ks (Ae first) xs=none)∧H'=G*H):=by
 cases hop:B3 ks (Ae first) xs with
 |none=>
  refine(wI hG ks hk first xs p b o c H hs hr hx hop).mono ?_;refine JR ?_;exact⟨_,_,4,HP.BN,rfl,(fun h=>absurd h Cc),fun _=>rfl,(HP.BR _).symm⟩
 |some z=>
  obtain⟨n,ys⟩:=z;refine(gZ ks hk first xs n ys p b o c H hs hr hx hop).mono ?_;rintro _ _ ⟨sv,rfl,⟨_,rfl,rfl⟩|⟨_,p',b',o',c',s',rfl,_,_,rfl⟩⟩
  ·exact⟨_,_,0,HP.BN,rfl,(fun _ h=>by cases h),fun h=>absurd rfl h,(HP.BR _).symm⟩
  ·exact⟨_,_,0,_,rfl,(fun _ h=>by cases h),fun h=>absurd rfl h,rfl⟩
set_option maxHeartbeats 8000000 in
theorem bG(hG:B.cell? ⟨0,0,none⟩=some (DH 106))(nb t i:Nat)(s:ByteArray)(w:NM)(L:Nat→List (List AM))(Rr:Nat→Nat→Prop)(H:HP)(hok:w.ok)(hw:Ad t w.n L Rr A3)(hb:(i,s)∈w.n.AN)(ht:t<800000):
  Fn Tryz.prog B 74 [ptr nb 0,iN i,.string s] (Ay nb w*H) (fun v H'=>v=.bool true∧∃w':NM,w'.ok∧w'.n=(w.n.comes i s).2∧H'=Ay nb w'*H):=by
 refine mI Tryz.func74 ?_;obtain⟨hi,hsz,hrv,R',hx⟩:=hw.recv hb Ca;obtain⟨C,r,E,hC,hr,hE,l1,l2,l3⟩:=hw.mem hi hi MX;have hCm:=a_ hC;have hci:=hw.c i hi;dsimp only at hsz hrv hx;rw [NM.Fc hC]at hrv hx hci
 have hcn:(w.n.comes i s).2=(CO i 0 4 (w.n.Aq i (C.c.s.BA s.data.toList).2)).2:=by unfold AH.comes;rw [NM.Fc hC]
 obtain⟨rv,erv⟩:∃rv,rv=(C.c.s.BA s.data.toList):=Bl
 rw [←erv]at hrv hx hcn;refine J6 ?_;refine Au (H':=A7 nb w.x*(AB w.xa.b w.xa.o w.cs w.xa.s*(AB w.ea.b w.ea.o w.rows w.ea.s*(AB w.ba.b w.ba.o w.AN w.ba.s*(AB w.ca.b w.ca.o w.cnt w.ca.s*(Ac C.cb C.c*(AB r.a.b r.a.o r.es r.a.s*(BX E.q E.o*(Do w i i 0 r*H))))))))) (GC nb w H hC hr hE) ?_;refine J4 ?_;refine Sg ?_;refine J1 ?_;refine JL X5 ?_;refine BQ (H':=Ac C.cb C.c*((A7 nb w.x*(AB w.xa.b w.xa.o w.cs w.xa.s*(AB w.ea.b w.ea.o w.rows w.ea.s*(AB w.ba.b w.ba.o w.AN w.ba.s*(AB w.ca.b w.ca.o w.cnt w.ca.s*(AB r.a.b r.a.o r.es r.a.s*(BX E.q E.o*(Do w i i 0 r*H)))))))))) Cg ?_;refine mE rfl (Iq hG C.cb t C.c ⟨6,0,0,0,s⟩ ⟨rv.1.1,rv.1.2,0,0,⟨#[]⟩,[]⟩ rv.2 (by rw [jL,←erv]) _ (hok.F6 C hCm) hci Ca (by show s.size<_;omega) Cz) ?_;rintro _ _ ⟨m2,ps,hm2,hs2,hps,rfl,rfl⟩;dsimp only at hs2 hps⊢;refine Am Jt rfl ?_;rintro _ _ ⟨b7,rfl,rfl⟩
 refine Bv (EO (cs:=DC ⟨rv.1.1,rv.1.2,0,0,⟨#[]⟩,[]⟩ (.slice ps.p 0 ps.c)) rfl rfl Ch Cf) ?_;refine Gr ?_
 have hn9:(w.put i i 0 ⟨C.cb,m2⟩ r ⟨E.q,E.o⟩).n=w.n.Aq i rv.2:=by rw [NM.Hk w hC hr,hs2];exact Kd hr hE _
 refine Au (H':=Ay nb (w.put i i 0 ⟨C.cb,m2⟩ r ⟨E.q,E.o⟩)*(HP.AA b7 0 (DC ⟨rv.1.1,rv.1.2,0,0,⟨#[]⟩,[]⟩ (.slice ps.p 0 ps.c))*(ps.h ([]:List ByteArray)*H))) UM ?_;refine J3 ?_;refine mE rfl (gF hG nb t i (w.put i i 0 ⟨C.cb,m2⟩ r ⟨E.q,E.o⟩) L _ A3 _ (hok.put hC hr hE hm2 _) (by rw [hn9];exact hx) hi Ca) ?_;rintro _ _ ⟨rfl,w2,hok2,hn2,_,rfl⟩;rw [hn9,←hcn]at hn2;refine J7 ?_;refine F0 ?_;refine KU ?_;refine JL oU ?_;refine F0 ?_;refine J1 ?_;refine EV 27 rfl (fun hg1=>?_) (fun hg1=>?_)
 ·refine NT ?_;refine JH T1 ?_;refine F0 ?_;refine JL GM ?_;refine G8 ?_;refine J4 ?_;exact bZ
 refine Ph ?_;refine JL (CN (i:=rv.1.1) (j:=6) rfl rfl) ?_;refine F0 ?_;refine JL E9 ?_;refine G8 ?_;refine J4 ?_;exact bZ
set_option maxHeartbeats 8000000 in
theorem Tm(hG:B.cell? ⟨0,0,none⟩=some (DH 106))(nb t i:Nat)(s:ByteArray)(w:NM)(L:Nat→List (List AM))(Rr:Nat→Nat→Prop)(H:HP)(hok:w.ok)(hw:Ad t w.n L Rr A3)(hi:i<2)(hs:s.size<90000000)(ht:t<800000):
  Fn Tryz.prog B 72 [ptr nb 0,iN i,.string s] (Ay nb w*H) (fun v H'=>v=.bool true∧∃w':NM,w'.ok∧w'.n=(w.n.DO i s.data.toList).2∧H'=Ay nb w'*H):=by
 refine mI Tryz.func72 ?_;obtain⟨C,r,E,hC,hr,hE,l1,l2,l3⟩:=hw.mem hi hi MX;have hCm:=a_ hC;have hci:=hw.c i hi;rw [NM.Fc hC]at hci;refine J6 ?_;refine kA ?_;refine J4 ?_;refine JL (D6 (l:=AG w.x.ks) rfl (Gk hok.ks)) ?_;refine J1 ?_;refine JL (FB (i:=i) (j:=0) rfl rfl) ?_;refine J1 ?_;refine Am (Vw rfl) rfl ?_;rintro _ _ ⟨p19,b19,o19,c19,s19,rfl,hs19,hc19,rfl⟩;refine mE rfl (rP hG w.x.ks hok.ks (decide (i≠0)) s.data.toList p19 b19 o19 c19 _ hs19 inferInstance (by rw [Array.length_toList];exact hs)) ?_;rintro _ _ ⟨a20,sv20,e20,G,rfl,hy,hn,rfl⟩;refine Fe ?_;refine JL (CN (i:=e20) (j:=0) rfl rfl) ?_;refine J2 ?_;refine mC (fun h25=>?_) (fun h25=>?_)
 ·skip
  have hf:w.n.DO i s.data.toList=(true,w.n):=by
   have h7:=hy h25;unfold AH.DO;show(match B3 w.x.ks _ _ with|some _=>_|none=>_)=_;split
   ·rfl
   ·rename_i h8;exact absurd h8 h7
  refine J7 ?_;exact mR [6] (Ay nb w*H) (hE:=⟨fun ww hw=>Sat.right (A:=G*AB b19 o19 s.data.toList s19) (Eq.mp (by congr 1;rw [GC nb w H hC hr hE];ac_rfl) hw)⟩) rfl rfl ⟨rfl,w,hok,by rw [hf],rfl⟩
 have h7:=hn h25;have h8:=hw.Qt hi h7
 have hf:w.n.DO i s.data.toList=(true,w.n.Aq i (w.n.x i)):=by
  unfold AH.DO;rw [show B3 w.n.ks (Ae (decide (i≠0))) s.data.toList=none from h7,h8];rfl
 rw [NM.Fc hC]at h8 hf;refine J7 ?_;refine Sg ?_;refine J1 ?_;refine JL X5 ?_;refine BQ (H':=Ac C.cb C.c*(G*AB b19 o19 s.data.toList s19*(A7 nb w.x*(AB w.xa.b w.xa.o w.cs w.xa.s*(AB w.ea.b w.ea.o w.rows w.ea.s*(AB w.ba.b w.ba.o w.AN w.ba.s*(AB w.ca.b w.ca.o w.cnt w.ca.s*(AB r.a.b r.a.o r.es r.a.s*(BX E.q E.o*(Do w i i 0 r*H)))))))))) Cg ?_;refine mE rfl (Iq hG C.cb t C.c ⟨6,0,0,0,s⟩ ⟨4,-1,0,0,⟨#[]⟩,[]⟩ C.c.s (by rw [jL,h8]) _ (hok.F6 C hCm) hci Ca hs Cz) ?_;rintro _ _ ⟨m2,ps,hm2,hs2,hps,rfl,rfl⟩;dsimp only at hs2 hps⊢;refine Am Jt rfl ?_;rintro _ _ ⟨b10,rfl,rfl⟩;refine Bv (EO (cs:=DC ⟨4,-1,0,0,⟨#[]⟩,[]⟩ (.slice ps.p 0 ps.c)) rfl rfl Ch Cf) ?_;refine Hp ?_;refine JL (CN (i:=4) (j:=4) rfl rfl) ?_;refine J4 ?_
 exact mR [6] (Ay nb (w.put i i 0 ⟨C.cb,m2⟩ r ⟨E.q,E.o⟩)*H) (hE:=⟨fun ww hw=>Sat.right (A:=HP.AA b10 0 (DC ⟨4,-1,0,0,⟨#[]⟩,[]⟩ (.slice ps.p 0 ps.c))*(ps.h ([]:List ByteArray)*(G*AB b19 o19 s.data.toList s19))) (Eq.mp dQ hw)⟩) rfl rfl ⟨rfl,(w.put i i 0 ⟨C.cb,m2⟩ r ⟨E.q,E.o⟩),hok.put hC hr hE hm2 _,by rw [hf,NM.Hk w hC hr,hs2];exact Kd hr hE _,rfl⟩
set_option maxHeartbeats 8000000 in
theorem aI(hG:B.cell? ⟨0,0,none⟩=some (DH 106))(nb t i k AL:Nat)(w:NM)(L:Nat→List (List AM))(Rr:Nat→Nat→Prop)(H:HP)(hok:w.ok)(hw:Ad t w.n L Rr A3)(hi:i<2)(hk:k<4)(hm:AL<1000000)(ht:t<800000):
  Fn Tryz.prog B 71 [ptr nb 0,iN i,iN k,iN AL] (Ay nb w*H) (fun v H'=>v=.bool true∧∃w':NM,w'.ok∧w'.n=(w.n.read i k AL).2∧H'=Ay nb w'*H):=by
 refine mI Tryz.func71 ?_;obtain⟨C,r,E,hC,hr,hE,l1,l2,l3⟩:=hw.mem (i:=i) (j:=1-i) hi Ca hk;have hCm:=a_ hC;have hci:=hw.c i hi;have hrd:=(hw.reads hi hk AL).1;have hrn:=Nx w.n i k AL hrd;rw [NM.Fc hC,NM.IT hr hE]at hrd;rw [NM.Fc hC,NM.IT hr hE]at hrn;rw [NM.Fc hC]at hci
 have hwr:E.o.wrote.length≤4096:=(by
  have o:=hw.e (1-i) k Ca hk
  have h7:=((hw.c (1-i) Ca).ws.ok k hk).len
  have h8:=congrArg kn o.wrote
  rw [NM.IT hr hE,kh]at h8
  have h7:((w.n.x (1-i)).w k).b.length≤4096:=h7
  omega)
 obtain⟨rv,erv⟩:∃rv,rv=(C.c.s.read (k:Nat) (AL:Nat)):=Bl
 rw [←erv]at hrd hrn;have f1:=hrd.e;have f2:=hrd.len;have f3:=hrd.fits;have f4:=hrd.data;have f5:=hrd.shut;have f6:=hrd.open_;have f7:=hrd.fin;have f8:=hrd.B';have f9:=hrd.st;refine J6 ?_;refine Au (H':=A7 nb w.x*(AB w.xa.b w.xa.o w.cs w.xa.s*(AB w.ea.b w.ea.o w.rows w.ea.s*(AB w.ba.b w.ba.o w.AN w.ba.s*(AB w.ca.b w.ca.o w.cnt w.ca.s*(Ac C.cb C.c*(AB r.a.b r.a.o r.es r.a.s*(BX E.q E.o*(Do w i (1-i) k r*H))))))))) (GC nb w H hC hr hE) ?_;refine J4 ?_;refine JL QE ?_;refine J1 ?_;refine JL (Iy (i:=1) (j:=i) rfl rfl Ca) ?_;refine JL (DT (i:=1-i) rfl rfl hok.ea.1 Ca) ?_;refine Td ?_;refine J8 ?_;refine Sg ?_;refine J2 ?_;refine JL (A9 (v':=.agg (D3 ⟨7,(k:Nat),(AL:Nat),0,⟨#[]⟩⟩).toArray) GI rfl) ?_
 refine BQ (H':=Ac C.cb C.c*((A7 nb w.x*(AB w.xa.b w.xa.o w.cs w.xa.s*(AB w.ea.b w.ea.o w.rows w.ea.s*(AB w.ba.b w.ba.o w.AN w.ba.s*(AB w.ca.b w.ca.o w.cnt w.ca.s*(AB r.a.b r.a.o r.es r.a.s*(BX E.q E.o*(Do w i (1-i) k r*H)))))))))) Cg ?_;refine mE rfl (Iq hG C.cb t C.c ⟨7,(k:Nat),(AL:Nat),0,⟨#[]⟩⟩ ⟨rv.1.2.2.2,-1,rv.1.2.1,rv.1.2.2.1,AW rv.1.1,[]⟩ rv.2 (by rw [wY,←erv]) _ (hok.F6 C hCm) hci Ca Lu (by show((AL:Nat):Int)<_;omega)) ?_;rintro _ _ ⟨m2,ps,hm2,hs2,hps,rfl,rfl⟩;dsimp only at hs2 hps⊢;refine Am Jt rfl ?_;rintro _ _ ⟨b10,rfl,rfl⟩;refine Bv (EO (cs:=DC ⟨rv.1.2.2.2,-1,rv.1.2.1,rv.1.2.2.1,AW rv.1.1,[]⟩ (.slice ps.p 0 ps.c)) rfl rfl Ch Cf) ?_;refine Fg ?_;refine YB ?_
 refine DF (α:=Unit) (fun _=>[(101,.bool false),(10,ptr b10 0),(9,ptr E.q 0)]) (fun _=>HP.AA b10 0 (DC ⟨rv.1.2.2.2,-1,rv.1.2.1,rv.1.2.2.1,AW rv.1.1,[]⟩ (.slice ps.p 0 ps.c))*(ps.h ([]:List ByteArray)*(A7 nb w.x*(AB w.xa.b w.xa.o w.cs w.xa.s*(AB w.ea.b w.ea.o w.rows w.ea.s*(AB w.ba.b w.ba.o w.AN w.ba.s*(AB w.ca.b w.ca.o w.cnt w.ca.s*(Ac C.cb m2*(AB r.a.b r.a.o r.es r.a.s*(BX E.q E.o*(Do w i (1-i) k r*H))))))))))) (fun _=>True) ?_ ?_
 ·refine YB ?_;refine mA 69 69 ?_;refine Jy ?_;refine JT 2 rfl (A9 (v':=.bool false) (FB (i:=rv.1.2.2.2) (j:=0) rfl rfl) OX) ?_;refine Yz ?_;refine Al 6 rfl Cb rfl rfl rfl rfl Gf ?_;refine Al 7 rfl Cb rfl rfl rfl rfl Bd ?_;refine Al 8 rfl Cb rfl rfl rfl rfl (A9 (v':=.bool false) (Gj (i:=(AW rv.1.1).size) (j:=AL) rfl rfl) kR) ?_;refine JT 9 rfl EB ?_;refine Jm 10 ?_;refine Al 11 rfl Cb rfl rfl rfl rfl BW ?_;refine Al 12 rfl Cb rfl rfl rfl rfl Bg ?_;refine Al 13 rfl Cb rfl rfl rfl rfl Gf ?_;refine Al 14 rfl Cb rfl rfl rfl rfl Bd ?_
  refine Al 15 rfl Cb rfl rfl rfl rfl CT ?_;refine Al 16 rfl Cb rfl rfl rfl rfl BW ?_;refine Al 17 rfl Cb rfl rfl rfl rfl Bg ?_;refine Al 18 rfl Cb rfl rfl rfl rfl Gf ?_;refine Al 19 rfl Cb rfl rfl rfl rfl Bd ?_;refine Al 20 rfl Cb rfl rfl rfl rfl CT ?_;refine Al 21 rfl Cb rfl rfl rfl rfl BW ?_;refine Al 22 rfl Cb rfl rfl rfl rfl Bg ?_;refine Al 23 rfl Cb rfl rfl rfl rfl (Iy (i:=(AW E.o.wrote).size) (j:=E.o.read) rfl rfl Kq) ?_;refine Al 24 rfl Cb rfl rfl rfl rfl (A9 (v':=.bool false) (Gj (i:=(AW rv.1.1).size) (j:=(AW E.o.wrote).size-E.o.read) rfl rfl) (by rw [EI,EI,decide_eq_false Ca])) ?_;refine JT 25 rfl EB ?_;refine Jm 26 ?_;refine Al 27 rfl Cb rfl rfl rfl rfl Bd ?_;refine Al 28 rfl Cb rfl rfl rfl rfl CT ?_;refine Al 29 rfl Cb rfl rfl rfl rfl BW ?_;refine Al 30 rfl Cb rfl rfl rfl rfl Bg ?_;refine Al 31 rfl Cb rfl rfl rfl rfl Bd ?_;refine Al 32 rfl Cb rfl rfl rfl rfl CT ?_
  refine Al 33 rfl Cb rfl rfl rfl rfl BW ?_;refine Al 34 rfl Cb rfl rfl rfl rfl Bg ?_;refine Al 35 rfl Cb rfl rfl rfl rfl Bd ?_;refine Al 36 rfl Cb rfl rfl rfl rfl CT ?_;refine Z5 ?_;refine Al 39 rfl Cb rfl rfl rfl rfl BW ?_;refine Al 40 rfl Cb rfl rfl rfl rfl Bg ?_;refine Al 41 rfl Cb rfl rfl rfl rfl Gf ?_;refine Al 42 rfl Cb rfl rfl rfl rfl fH ?_;refine Al 43 rfl Cb rfl rfl rfl rfl (A9 (v':=.string (AW rv.1.1)) (eC (l:=E.o.read) (h:=E.o.read+(AW rv.1.1).size) rfl rfl rfl (by rw [EI,EI];omega)) (by rw [Rx _ _ _ Kq,EI,List.drop_take,Nat.add_sub_cancel_left,f4])) ?_;refine Al 44 rfl Cb rfl rfl rfl rfl BW ?_;refine Al 45 rfl Cb rfl rfl rfl rfl Bg ?_;refine Al 46 rfl Cb rfl rfl rfl rfl (A9 (v':=.bool false) (Tn rfl rfl) (by rw [decide_eq_false (fun x=>x rfl)])) ?_;refine JT 47 rfl EB ?_
  refine Jm 48 ?_;refine Al 49 rfl Cb rfl rfl rfl rfl Bd ?_;refine Al 50 rfl Cb rfl rfl rfl rfl CT ?_;refine Al 51 rfl Cb rfl rfl rfl rfl BW ?_;refine Al 52 rfl Cb rfl rfl rfl rfl Bg ?_;refine Al 53 rfl Cb rfl rfl rfl rfl (FB (i:=E.o.state) (j:=0) rfl rfl) ?_;refine Al 54 rfl Cb rfl rfl rfl rfl Bd ?_;refine Gv 87 rfl (fun hg1=>?_) (fun hg1=>?_)
  ·obtain⟨f51,f52⟩:=f5 hg1;refine JY 55 rfl T1 BW ?_;refine JY 56 rfl T1 Bg ?_;refine JY 57 rfl T1 (A9 (v':=.bool false) (Tn rfl rfl) (by rw [f51,decide_eq_false (fun x=>x rfl)])) ?_;refine JY 58 rfl T1 Bd ?_;refine Al 59 rfl Cb rfl rfl rfl rfl BW ?_;refine Al 60 rfl Cb rfl rfl rfl rfl Bg ?_;refine Al 61 rfl Cb rfl rfl rfl rfl Bd ?_;refine Al 62 rfl Cb rfl rfl rfl rfl CT ?_;refine Al 63 rfl Cb rfl rfl rfl rfl BW ?_;refine Al 64 rfl Cb rfl rfl rfl rfl Bg ?_;refine Al 65 rfl Cb rfl rfl rfl rfl (A9 (v':=.bool false) (FB (i:=rv.1.2.1) (j:=E.o.state) rfl rfl) (by rw [decide_eq_false (fun x=>x f52)])) ?_;refine JY 66 rfl T1 EB ?_;refine Al 67 rfl Cb rfl rfl rfl rfl GM ?_;refine JT 68 rfl EB ?_;refine JD ?_;exact BJ () trivial Dk rfl
  refine JN 55 rfl F1 ?_;refine JN 56 rfl F1 ?_;refine JN 57 rfl F1 ?_;refine JN 58 rfl F1 ?_;refine JU 59 ?_;refine JU 60 ?_;refine JU 61 ?_;refine JU 62 ?_;refine JU 63 ?_;refine JU 64 ?_;refine JU 65 ?_;refine JN 66 rfl F1 ?_;refine Al 67 rfl Cb rfl rfl rfl rfl E9 ?_;refine JT 68 rfl EB ?_;refine JD ?_;exact BJ () trivial Dk rfl
 ·rintro⟨⟩ _;refine J1 ?_;refine Kj ?_;refine J3 ?_;refine mA 11 12 ?_;refine Me ?_;refine Jf 5 ?_;refine Jd 6 ?_;refine JT 7 rfl Gf ?_;refine JT 8 rfl fH ?_;refine Jn 9 ?_;refine Jf 10 ?_;refine Dx 11 Cb rfl (Ez (v:=iN (E.o.read+rv.1.1.length)) rfl (by rw [←EI rv.1.1];rfl) rfl Cd) ?_;refine Dh ?_;refine J8 ?_;refine Bv (Ez (v:=iN rv.1.2.1) rfl rfl rfl Cd) ?_;refine JR ?_;refine DV ?_;refine JL (CN (i:=rv.1.2.1) (j:=0) rfl rfl) ?_;refine J3 ?_;refine mC (fun h0=>?_) (fun h0=>?_)
  ·refine J4 ?_;refine JL Zh ?_;refine J6 ?_;exact mR [8] (Ay nb (w.put i (1-i) k ⟨C.cb,m2⟩ r ⟨E.q,{E.o with read:=E.o.read+rv.1.1.length,state:=rv.1.2.1}⟩)*H) (hE:=YI) rfl rfl ⟨congrArg Value.bool (decide_eq_true (f6 h0)),(w.put i (1-i) k ⟨C.cb,m2⟩ r ⟨E.q,{E.o with read:=E.o.read+rv.1.1.length,state:=rv.1.2.1}⟩),hok.put hC hr hE hm2 _,jH,rfl⟩
  refine J2 ?_;refine JL (CN (i:=rv.1.2.1) (j:=1) rfl rfl) ?_;refine J3 ?_;refine mC (fun h1=>?_) (fun h1=>?_)
  ·obtain⟨g1,g2,g3⟩:=f7 h1;refine J1 ?_;refine mA 22 22 ?_;refine K0 ?_;refine Al 5 rfl Cb rfl rfl rfl g1 Bd ?_;refine Al 6 rfl Cb rfl rfl rfl g1 CT ?_;refine Al 7 rfl Cb rfl rfl rfl g1 BW ?_;refine Al 8 rfl Cb rfl rfl rfl g1 Bg ?_;refine Al 9 rfl Cb rfl rfl rfl g1 Bd ?_;refine Al 10 rfl Cb rfl rfl rfl g1 CT ?_;refine Al 11 rfl Cb rfl rfl rfl g1 BW ?_;refine Al 12 rfl Cb rfl rfl rfl g1 Bg ?_;refine Al 13 rfl Cb rfl rfl rfl g1 Gf ?_;refine Al 14 rfl Cb rfl rfl rfl g1 (A9 (v':=.bool true) (CN (i:=E.o.read+rv.1.1.length) (j:=(AW E.o.wrote).size) rfl rfl) (by rw [EI,decide_eq_true g2])) ?_;refine JT 15 rfl (Gd g1 rfl rfl) ?_;refine Jm 16 ?_;refine Yh ?_;refine Al 19 rfl Cb rfl rfl rfl rfl (A9 (v':=.bool true) Zh (by rw [decide_eq_true g3])) ?_;refine JT 20 rfl S8 ?_;refine Ja 21 ?_;refine K8 ?_
   exact XR
  refine J2 ?_;refine JL (CN (i:=rv.1.2.1) (j:=2) rfl rfl) ?_;refine J3 ?_;refine mC (fun h2=>?_) (fun h2=>?_)
  ·obtain⟨g1,g2⟩:=f8 h2;refine J1 ?_;refine mA 14 14 ?_;refine K0 ?_;refine Al 5 rfl Cb rfl rfl rfl g1 BW ?_;refine Al 6 rfl Cb rfl rfl rfl g1 Bg ?_;refine Al 7 rfl Cb rfl rfl rfl g1 Bd ?_;refine Al 8 rfl Cb rfl rfl rfl g1 CT ?_;refine Al 9 rfl Cb rfl rfl rfl g1 BW ?_;refine Al 10 rfl Cb rfl rfl rfl g1 Bg ?_;refine Al 11 rfl Cb rfl rfl rfl g1 (A9 (v':=.bool true) (CN (i:=rv.1.2.2.1) (j:=E.o.code) rfl rfl) (by rw [decide_eq_true g2])) ?_;refine JT 12 rfl (Gd g1 rfl rfl) ?_;refine Ja 13 ?_;refine K8 ?_;exact XR
  exfalso;omega
end
section
structure Jl(n:AH):Prop where
 xl:n.xs.length=2
 el:n.ends.length=2
 Dp:∀i,i<2→(n.ends.getD i []).length=4
 cl:n.count.length=2
theorem Ad.len{t:Nat}{n:AH}{L:Nat→List (List AM)}{R:Nat→Nat→Prop}{T:Nat→Nat→List UInt8}(h:Ad t n L R T):Jl n:=⟨h.xl,h.el,h.Dp,h.cl⟩
theorem Jl.Aq{n:AH}(h:Jl n)(i:Nat)(c:AD):Jl (n.Aq i c):=⟨by show(n.xs.set _ _).length=2;rw [ko];exact h.xl,h.el,h.Dp,h.cl⟩
structure N1(t:Nat)(n:AH)(i:Nat)(Ls:List (List AM)):Prop where
 len:Jl n
 c:AY t (n.x i)
 p:(n.x i).As.1=outs n.ks (Ae (decide (i=0))) (n.cnt i) Ls
 AJ:n.AJ≤300
 XB:n.cnt i+Ls.length≤4611686018427387903
 fs:∀fs∈Ls,fs≠ []∧(Ar fs).length+16≤n.AJ
 bl:n.AN.length+Ls.length<90000000
 ks:n.ks.length=16
structure Ko(n0:AH)(i:Nat)(Ls:List (List AM))(n:AH)(j:Nat):Prop where
 len:Jl n
 ks:n.ks=n0.ks
 AJ:n.AJ=n0.AJ
 cnt:n.cnt i=n0.cnt i+j
 le:j≤Ls.length
 bl:n.AN.length=n0.AN.length+j
 rest:Fh i (outs n0.ks (Ae (decide (i=0))) (n0.cnt i+j) (Ls.drop j)) n=n0.flush i
theorem Ad.Nt{t:Nat}{n:AH}{L:Nat→List (List AM)}{R:Nat→Nat→Prop}(h:Ad t n L R A3){i:Nat}(hi:i<2)(ht:t≤1000000):∃Ls,N1 t n i Ls:=by
 obtain⟨Ls,a,b,c,d⟩:=h.Ws hi;have h0:=(h.c 0 Ca).nx;have h1:=(h.c 1 Ca).nx;have l0:=(h.at (i:=0) Ca).s.len;have l1:=(h.at (i:=1) Ca).s.len;have hb:=h.bl;refine⟨Ls,h.len,h.c i hi,by rw [h.cnt i hi];exact a,b,by rw [h.cnt i hi];omega,d,?_,by rw [←h.ks i hi];exact(h.c i hi).ks⟩;rcases FF hi with rfl|rfl<;>omega
theorem N1.begin{t:Nat}{n:AH}{i:Nat}{Ls:List (List AM)}(h:N1 t n i Ls):Ko n i Ls (n.Aq i (n.x i).As.2) 0:=
 ⟨h.len.Aq _ _,rfl,rfl,rfl,i_ _,rfl,by unfold AH.flush;rw [h.p];rfl⟩
theorem Ko.step{t:Nat}{n0:AH}{i:Nat}{Ls:List (List AM)}(h0:N1 t n0 i Ls)(hi:i<2){n:AH}{j:Nat}(h:Ko n0 i Ls n j){fs:List AM}(hj:Ls[j]?=some fs){p:List UInt8}(hp:p=Bk n0.ks (Ae (decide (i=0))) (f_ (n0.cnt i+j)) (Ar fs)):
  B3 n0.ks (Ae (decide (i=0))) p=some (f_ (n0.cnt i+j),Ar fs)∧Ar fs≠ []∧p.length≤n0.AJ∧Ko n0 i Ls {n with count:=n.count.set i (n0.cnt i+j+1),AN:=n.AN++[(1-i,AW p)]} (j+1):=by
 obtain⟨hlt,hfs⟩:=c_.1 hj;have hmem:fs∈Ls:=a_ hj;have hb:=h0.XB;obtain⟨a,b,c⟩:=vK (i:=i) h0.AJ n fs (Ls.drop (j+1)) (n0.cnt i+j) h.cnt h.AJ Ca (h0.fs fs hmem);rw [h.ks,←hp]at a c
 have hd:Ls.drop j=fs::Ls.drop (j+1):=by rw [j_ hlt,hfs]
 have hr:=h.rest;rw [hd,c]at hr;refine⟨a,b,by rw [hp,O9];have:=(h0.fs fs hmem).2;omega,⟨h.len.xl,h.len.el,h.len.Dp,?_⟩,h.ks,h.AJ,?_,Ca,?_,?_⟩
 ·show(n.count.set i _).length=2;rw [ko];exact h.len.cl
 ·show(n.count.set i _).getD i 0=_;rw [Bs,if_pos ⟨rfl,by rw [h.len.cl];exact hi⟩];rfl
 ·show(n.AN++_).length=_;rw [b_,h.bl];rfl
 ·rw [←h.ks]at hr⊢;exact hr
theorem Ko.done{n0:AH}{i:Nat}{Ls:List (List AM)}{n:AH}(h:Ko n0 i Ls n Ls.length):(true,n)=n0.flush i:=by
 have hr:=h.rest;rw [kj]at hr;exact hr
theorem xJ{n:AH}{i:Nat}(hi:i<n.xs.length):n.Aq i (n.x i)=n:=by
 unfold AH.Aq AH.x;rw [List.getD_eq_getElem?_getD,List.getElem?_eq_getElem hi,Option.getD_some,List.set_getElem_self]
section
variable{t:Nat}{n:AH}{L:Nat→List (List AM)}{R:Nat→Nat→Prop}
theorem Ad.YW(h:Ad t n L R A3){i k:Nat}(hi:i<2)(hk:k<4)(s:ByteArray)(hf:(n.e i k).finished=true∨(n.e i k).given=true):
  (n.x i).write (k:Int) s.data.toList=((0,3),n.x i)∧(n.wr i k s).2=n:=by
 have o:=h.e i k hi hk;have hE:=SU (h.at hi).o hk
 have e:(n.x i).write (k:Int) s.data.toList=((0,3),n.x i):=by
  have hf2:=hf;unfold AD.write;rw [o.finished,o.given]at hf2;rw [hE,if_pos hf2];rfl
 refine⟨e,?_⟩;unfold AH.wr;dsimp only;rw [if_pos hf,e];exact xJ (by rw [h.xl];exact hi)
theorem Ad.Tw(h:Ad t n L R A3){i k:Nat}(hi:i<2)(hk:k<4)(s:ByteArray)(hf:¬((n.e i k).finished=true∨(n.e i k).given=true)):
  ((n.x i).write (k:Int) s.data.toList).1.2=0∧((n.x i).write (k:Int) s.data.toList).1.1≤s.size∧∃T',Ad t (n.Aq i ((n.x i).write (k:Int) s.data.toList).2) L R T':=by
 have h2:=h.at hi;have o:=h.e i k hi hk;have hc:=h.c i hi;have hE:=SU h2.o hk
 have e0:(n.x i).EP (k:Int)=0:=by
  rw [o.finished,o.given]at hf;rw [hE,if_neg hf]
 have g:=Ds.write hc (k:Int) s.data.toList;have hc':=hc.write (k:Int) s.data.toList
 have e:(n.x i).write (k:Int) s.data.toList=(((n.x i).G6 k s.size,0),(n.x i).Bm k {(n.x i).w k with b:=((n.x i).w k).b++s.data.toList.take ((n.x i).G6 k s.size)}):=by
  unfold AD.write;rw [if_neg (by rw [e0];simp)];rfl
 rw [e]at g hc'⊢;generalize hN:(n.x i).G6 k s.size=N at g hc'⊢;dsimp only at g hc'⊢
 have hNle:N≤s.size∧N≤(n.x i).AF-(((n.x i).w k).b.length-((n.x i).w k).A0):=by
  unfold AD.G6 at hN;omega
 have hwk:=Mn hc k k {(n.x i).w k with b:=((n.x i).w k).b++s.data.toList.take N} hk;rw [if_pos rfl]at hwk;have w0:CJ _ ((n.x i).w k):=hc.ws.ok k hk;have w1:=hc'.ws.ok k hk
 have w1':CJ (n.x i).AF {(n.x i).w k with b:=((n.x i).w k).b++s.data.toList.take N}:=by rw [←hwk];exact w1
 obtain⟨p1,p2⟩:=YX w0 w1' rfl Pt
 have hwl:(n.e i k).wrote.length=((n.x i).w k).b.length:=by have:=congrArg kn o.wrote;rw [kh]at this;exact this.symm
 refine⟨rfl,hNle.1,fun j m=>if j=i∧m=k then s.data.toList.take N else [],?_⟩;refine h.G3 hi Nc hc' g rfl h.el h.Dp Gz (fun m hm=>?_) (fun m hm=>⟨rfl,by rw [if_neg Ca]⟩);show Iv _ _ (n.e i m) _;rw [Mn hc k m _ hk];by_cases e2:k=m
 ·subst e2;rw [if_pos rfl,if_pos BY];exact⟨Ze,by rw [hwl];exact p2,o.finished,o.given,o.code,o.read,o.state,kq o.AE p1⟩
 ·rw [if_neg e2,if_neg (fun x=>e2 x.2.symm)];exact h.e i m hi hm
theorem Ad.ZF(h:Ad t n L R A3){i k:Nat}(hi:i<2)(hk:k<4)(s:ByteArray)(hf:¬((n.e i k).finished=true∨(n.e i k).given=true)){z:AH}(hz:z=(Go.Proofs.YtgfdlpcdjklcoaaGreatDoor.CO i 0 4 (n.Aq i ((n.x i).write (k:Int) s.data.toList).2)).2){N:Nat}(hN:N=((n.x i).write (k:Int) s.data.toList).1.1):
  (z.e i k).wrote.length+N≤z.AF+(z.e i k).AE∧(z.e i k).AE≤(z.e i k).wrote.length+N∧(z.e i k).wrote.length≤4096∧(n.wr i k s).2=z.C4 i k {z.e i k with wrote:=(z.e i k).wrote++s.data.toList.take N}:=by
 have h1:=(h.wr hi hk s).1;obtain⟨a,b,T',hT⟩:=h.Tw hi hk s hf;obtain⟨c1,c2,c3,c4,c5,c6⟩:=Ad.CO hi 4 0 _ hT CW;have ce:=c4 i k;rw [if_pos Ug]at ce;have o:=c2.e i k hi hk;unfold AH.wr at h1⊢;dsimp only at h1⊢;rw [if_neg hf]at h1⊢;subst hz hN;split at h1
 ·cases h1
 ·rename_i hc;rw [if_neg hc];have hwk:(((Go.Proofs.YtgfdlpcdjklcoaaGreatDoor.CO i 0 4 (n.Aq i ((n.x i).write (k:Int) s.data.toList).2)).2.x i).w k).b.length≤4096:=((c2.c i hi).ws.ok k hk).len;have o3:=congrArg kn o.wrote;rw [b_]at o3;have o4:=o.pre;have o5:=o.AE;refine⟨?_,Ca,Ca,rfl⟩;have h9:¬n.AF+((Go.Proofs.YtgfdlpcdjklcoaaGreatDoor.CO i 0 4 (n.Aq i ((n.x i).write (k:Int) s.data.toList).2)).2.e i k).AE<((Go.Proofs.YtgfdlpcdjklcoaaGreatDoor.CO i 0 4 (n.Aq i ((n.x i).write (k:Int) s.data.toList).2)).2.e i k).wrote.length+((n.x i).write (k:Int) s.data.toList).1.1:=fun x=>hc (.inr (.inr (.inr x)));have h8:(Go.Proofs.YtgfdlpcdjklcoaaGreatDoor.CO i 0 4 (n.Aq i ((n.x i).write (k:Int) s.data.toList).2)).2.AF=n.AF:=c5;omega
theorem Ad.Sk(h:Ad t n L R A3){i k:Nat}(hi:i<2)(hk:k<4):
  (((n.e i k).finished=true∨(n.e i k).given=true)→((n.x i).finish k).1=3∧(n.fin i k).2=n.Aq i ((n.x i).finish k).2)∧
  (¬((n.e i k).finished=true∨(n.e i k).given=true)→((n.x i).finish k).1=0∧(n.fin i k).2=(n.Aq i ((n.x i).finish k).2).C4 i k {n.e i k with finished:=true}):=by
 have h1:=(h.fin hi hk).1;unfold AH.fin at h1⊢;dsimp only at h1⊢;refine⟨fun hf=>?_,fun hf=>?_⟩
 ·rw [if_pos hf]at h1⊢;exact⟨of_decide_eq_true h1,rfl⟩
 ·rw [if_neg hf]at h1⊢;exact⟨of_decide_eq_true h1,rfl⟩
theorem Ad.Vi(h:Ad t n L R A3){i k x:Nat}(hi:i<2)(hk:k<4)(hx:x<1000):
  ((n.e i k).given=true→((n.x i).giveUp k x).1=3∧(n.B' i k x).2=n.Aq i ((n.x i).giveUp k x).2)∧
  ((n.e i k).given=false→((n.x i).giveUp k x).1=0∧(n.B' i k x).2=(n.Aq i ((n.x i).giveUp k x).2).C4 i k {n.e i k with given:=true,code:=x}):=by
 have h1:=(h.B' hi hk hx).1;unfold AH.B' at h1⊢;dsimp only at h1⊢;refine⟨fun hf=>?_,fun hf=>?_⟩
 ·rw [if_pos hf]at h1⊢;exact⟨of_decide_eq_true h1,rfl⟩
 ·rw [if_neg (by rw [hf];decide)]at h1⊢;exact⟨of_decide_eq_true h1,rfl⟩
end
end
section
variable{B:World}
theorem Jl.mem{w:NM}(h:Jl w.n){i j k:Nat}(hi:i<2)(hj:j<2)(hk:k<4):
  ∃C r E,w.cs[i]?=some C∧w.rows[j]?=some r∧r.es[k]?=some E∧w.cs.length=2∧w.rows.length=2∧r.es.length=4∧w.cnt.length=2:=by
 have l1:w.cs.length=2:=by have:=h.xl;unfold NM.n at this;simpa using this
 have l2:w.rows.length=2:=by have:=h.el;unfold NM.n at this;simpa using this
 have l4:w.cnt.length=2:=by have:=h.cl;unfold NM.n at this;simpa using this
 obtain⟨C,hC⟩:=IX l1 hi;obtain⟨r,hr⟩:=IX l2 hj;have e:w.n.ends.getD j []=r.es.map (·.o):=getD_some (by show(w.rows.map _)[j]?=_;rw [e_,hr];rfl)
 have l3:r.es.length=4:=by have:=h.Dp j hj;rw [e]at this;simpa using this
 obtain⟨E,hE⟩:=IX l3 hk;exact⟨C,r,E,hC,hr,hE,l1,l2,l3,l4⟩
theorem NM.uT{w:NM}{i:Nat}{x:Ec}(hc:w.cnt[i]?=some x):w.n.cnt i=x.n:=getD_some (by show(w.cnt.map _)[i]?=_;rw [e_,hc];rfl)
set_option maxHeartbeats 8000000 in
theorem P8(hG:B.cell? ⟨0,0,none⟩=some (DH 106))(nb t i:Nat)(w:NM)(Ls:List (List AM))(H:HP)(hok:w.ok)(h0:N1 t w.n i Ls)(hi:i<2)(ht:t<800000):
  Fn Tryz.prog B 25 [ptr nb 0,iN i] (Ay nb w*H) (fun v H'=>v=.bool true∧∃w':NM,w'.ok∧w'.n=(w.n.flush i).2∧H'=Ay nb w'*H):=by
 refine mI Tryz.func25 ?_;obtain⟨C,r,E,hC,hr,hE,l1,l2,l3,l4⟩:=h0.len.mem (j:=i) hi hi MX;have hCm:=a_ hC;have hci:=h0.c;have hpk:=h0.p;have hks16:w.n.ks.length=16:=h0.ks;have hmt:=h0.AJ;have hbg:=h0.XB;have hbl:=h0.bl;rw [NM.Fc hC]at hci hpk;have hbeg:=h0.begin;rw [NM.Fc hC]at hbeg
 have hPSl:((outs w.n.ks (Ae (decide (i=0))) (w.n.cnt i) Ls).map AW).length=Ls.length:=by rw [d_,QY]
 refine J6 ?_;refine kA ?_;refine J4 ?_;refine Sg ?_;refine JL (A9 (v':=.agg (D3 ⟨5,0,0,0,⟨#[]⟩⟩).toArray) GI rfl) ?_;refine BQ (H':=Ac C.cb C.c*((A7 nb w.x*(AB w.xa.b w.xa.o w.cs w.xa.s*(AB w.ea.b w.ea.o w.rows w.ea.s*(AB w.ba.b w.ba.o w.AN w.ba.s*(AB w.ca.b w.ca.o w.cnt w.ca.s*(AB r.a.b r.a.o r.es r.a.s*(BX E.q E.o*(Do w i i 0 r*H)))))))))) Cg ?_;refine mE rfl (Iq hG C.cb t C.c ⟨5,0,0,0,⟨#[]⟩⟩ ⟨0,-1,0,0,⟨#[]⟩,((outs w.n.ks (Ae (decide (i=0))) (w.n.cnt i) Ls).map AW)⟩ C.c.s.As.2 (by rw [ab,hpk]) _ (hok.F6 C hCm) hci Ca Lu Cz) ?_;rintro _ _ ⟨m2,ps,hm2,hs2,hps,rfl,rfl⟩;dsimp only at hs2 hps⊢;refine Am Jt rfl ?_;rintro _ _ ⟨b5,rfl,rfl⟩
 refine Bv (EO (cs:=DC ⟨0,-1,0,0,⟨#[]⟩,((outs w.n.ks (Ae (decide (i=0))) (w.n.cnt i) Ls).map AW)⟩ (.slice ps.p ((outs w.n.ks (Ae (decide (i=0))) (w.n.cnt i) Ls).map AW).length ps.c)) rfl rfl Ch Cf) ?_;refine Fg ?_
 have hn9:(w.put i i 0 ⟨C.cb,m2⟩ r ⟨E.q,E.o⟩).n=w.n.Aq i C.c.s.As.2:=by rw [NM.Hk w hC hr,hs2];exact Kd hr hE _
 refine Au (H':=Ay nb (w.put i i 0 ⟨C.cb,m2⟩ r ⟨E.q,E.o⟩)*(HP.AA b5 0 (DC ⟨0,-1,0,0,⟨#[]⟩,((outs w.n.ks (Ae (decide (i=0))) (w.n.cnt i) Ls).map AW)⟩ (.slice ps.p ((outs w.n.ks (Ae (decide (i=0))) (w.n.cnt i) Ls).map AW).length ps.c))*(ps.h ((outs w.n.ks (Ae (decide (i=0))) (w.n.cnt i) Ls).map AW)*H))) UM ?_;refine J1 ?_;refine E4 ?_;refine Bj (α:=NM×Nat) (fun z=>[(6,iN z.2),(5,ptr b5 0),(0,ptr nb 0),(1,iN i)]) (fun z=>Ay nb z.1*(HP.AA b5 0 (DC ⟨0,-1,0,0,⟨#[]⟩,((outs w.n.ks (Ae (decide (i=0))) (w.n.cnt i) Ls).map AW)⟩ (.slice ps.p ((outs w.n.ks (Ae (decide (i=0))) (w.n.cnt i) Ls).map AW).length ps.c))*(ps.h ((outs w.n.ks (Ae (decide (i=0))) (w.n.cnt i) Ls).map AW)*H))) (fun z=>z.1.ok∧Ko w.n i Ls z.1.n z.2) (fun z=>Ls.length-z.2) ((w.put i i 0 ⟨C.cb,m2⟩ r ⟨E.q,E.o⟩),0) ⟨hok.put hC hr hE hm2 _,by rw [show((w.put i i 0 ⟨C.cb,m2⟩ r ⟨E.q,E.o⟩),0).1.n=_ from hn9];exact hbeg⟩ Hq rfl ?_;rintro⟨w1,k⟩ ⟨q1,q2⟩;dsimp only at q1 q2⊢;refine J7 ?_;refine JL (ES (i:=k) (j:=((outs w.n.ks (Ae (decide (i=0))) (w.n.cnt i) Ls).map AW).length) rfl rfl) ?_;refine J2 ?_;refine mC (fun hk=>?_) (fun hk=>?_)
 ·rw [hPSl]at hk;obtain⟨fs,hfs⟩:=IX rfl hk;have hgp:=Yb w.n.ks (Ae (decide (i=0))) Ls (w.n.cnt i) k fs hfs
  obtain⟨p,hp⟩:∃p,p=Bk w.n.ks (Ae (decide (i=0))) (f_ (w.n.cnt i+k)) (Ar fs):=Bl
  obtain⟨hop,hne,hpl,hat⟩:=q2.step h0 hi hfs hp;rw [←hp]at hgp
  have hps1:((outs w.n.ks (Ae (decide (i=0))) (w.n.cnt i) Ls).map AW)[k]?=some (AW p):=by rw [e_,hgp];rfl
  have hcl2:w1.cnt.length=2:=by have:=q2.len.cl;unfold NM.n at this;simpa using this
  obtain⟨cx,hcx⟩:=IX hcl2 hi
  have hcn:cx.n=w.n.cnt i+k:=by rw [←NM.uT hcx];exact q2.cnt
  have hks1:w1.x.ks=w.n.ks:=q2.ks;have hmt1:w1.x.AJ=w.n.AJ:=q2.AJ
  have hbl1:w1.AN.length=w.n.AN.length+k:=by have:=q2.bl;rw [show w1.n.AN.length=w1.AN.length from d_ ..]at this;exact this
  have htn:(f_ (w.n.cnt i+k)).toNat=w.n.cnt i+k:=JQ Ca;have hel:0<(Ar fs).length:=g_.2 hne;refine J5 ?_;refine Au (H':=A7 nb w1.x*(AB w1.xa.b w1.xa.o w1.cs w1.xa.s*(AB w1.ea.b w1.ea.o w1.rows w1.ea.s*(AB w1.ba.b w1.ba.o w1.AN w1.ba.s*(AB w1.ca.b w1.ca.o w1.cnt w1.ca.s*(AU CX w1.cs*(AU CY w1.rows*(HP.AA b5 0 (DC ⟨0,-1,0,0,⟨#[]⟩,((outs w.n.ks (Ae (decide (i=0))) (w.n.cnt i) Ls).map AW)⟩ (.slice ps.p ((outs w.n.ks (Ae (decide (i=0))) (w.n.cnt i) Ls).map AW).length ps.c))*(ps.h ((outs w.n.ks (Ae (decide (i=0))) (w.n.cnt i) Ls).map AW)*H))))))))) (En nb w1 _) ?_;refine J4 ?_;refine JL fY ?_;refine JL dC ?_;refine Am (Vw rfl) rfl ?_;rintro _ _ ⟨p32,b32,o32,c32,s32,rfl,hs32,hc32,rfl⟩;rw [P1]at hs32 hc32⊢;refine J8 ?_;refine JL Z6 ?_;refine J1 ?_;refine JL (CN (i:=i) (j:=0) rfl rfl) ?_;refine J1 ?_;refine mE rfl (gZ w1.x.ks q1.ks (decide (i=0)) p (f_ (w.n.cnt i+k)) (Ar fs) p32 b32 o32 c32 _ hs32 inferInstance Ca (by rw [hks1];exact hop)) ?_;rintro _ _ ⟨su0,rfl,hsu⟩;rcases hsu with⟨e0,_,_⟩|⟨_,pu,bu,ou,cu,su,rfl,hsu,hcu,rfl⟩
  ·exact absurd e0 hne
  refine Fe ?_;refine JL VU ?_;refine Lf ?_;refine Lf ?_;refine KU ?_;refine JL (A9 (v':=.bool false) (Gj (i:=p.length) (j:=w1.x.AJ) rfl rfl) OX) ?_;refine JL EB ?_;refine Lf ?_;refine KU ?_;refine JL (A9 ER q1.cv) ?_;refine F0 ?_;refine J1 ?_;refine F0 ?_;refine JL Wm ?_;refine F0 ?_;refine JL bE ?_;refine F0 ?_;refine JL (A9 (v':=.bool false) (FB (i:=(f_ (w.n.cnt i+k)).toNat) (j:=cx.n) rfl rfl) (by rw [decide_eq_false (fun x=>x Ca)])) ?_;refine JL EB ?_;refine KU ?_;refine J1 ?_
  refine F0 ?_;refine JL (A9 (v':=.bool false) (CN (i:=(Ar fs).length) (j:=0) rfl rfl) OX) ?_;refine JL EB ?_;refine I4 ?_;refine J7 ?_;refine JL (A9 ER q1.cv) ?_;refine J1 ?_;refine JL Wm ?_;refine JL bE ?_;refine JL (Jq (i:=cx.n) (j:=1) rfl rfl Ca) ?_;refine JL Wm ?_;refine Bv (Ez (v:=uN (w.n.cnt i+k+1)) rfl (by rw [←hcn];rfl) rfl Ca) ?_;refine JR ?_;refine J2 ?_;refine Au (H':=AB w1.ba.b w1.ba.o w1.AN w1.ba.s*(A7 nb w1.x*(AB w1.xa.b w1.xa.o w1.cs w1.xa.s*(AB w1.ea.b w1.ea.o w1.rows w1.ea.s*(AB w1.ca.b w1.ca.o (w1.cnt.set i ⟨(w.n.cnt i+k+1)⟩) w1.ca.s*(AU CX w1.cs*(AU CY w1.rows*(AB bu ou (Ar fs) su*AB b32 o32 p s32*(HP.AA b5 0 (DC ⟨0,-1,0,0,⟨#[]⟩,((outs w.n.ks (Ae (decide (i=0))) (w.n.cnt i) Ls).map AW)⟩ (.slice ps.p ((outs w.n.ks (Ae (decide (i=0))) (w.n.cnt i) Ls).map AW).length ps.c))*(ps.h ((outs w.n.ks (Ae (decide (i=0))) (w.n.cnt i) Ls).map AW)*H)))))))))) Cg ?_
  refine ET (A7 nb w1.x*(AB w1.xa.b w1.xa.o w1.cs w1.xa.s*(AB w1.ea.b w1.ea.o w1.rows w1.ea.s*(AB w1.ca.b w1.ca.o (w1.cnt.set i ⟨(w.n.cnt i+k+1)⟩) w1.ca.s*(AU CX w1.cs*(AU CY w1.rows*(AB bu ou (Ar fs) su*AB b32 o32 p s32*(HP.AA b5 0 (DC ⟨0,-1,0,0,⟨#[]⟩,((outs w.n.ks (Ae (decide (i=0))) (w.n.cnt i) Ls).map AW)⟩ (.slice ps.p ((outs w.n.ks (Ae (decide (i=0))) (w.n.cnt i) Ls).map AW).length ps.c))*(ps.h ((outs w.n.ks (Ae (decide (i=0))) (w.n.cnt i) Ls).map AW)*H))))))))) 17 18 Ef rfl Cb ?_;refine El ?_;refine Jr ?_;refine JT 4 rfl (A9 ER q1.bv) ?_;refine Jm 5 ?_;refine JT 6 rfl (Iy (i:=1) (j:=i) rfl rfl Ca) ?_;refine Jf 7 ?_;refine Jd 8 ?_;refine Jm 9 ?_;refine JT 10 rfl fY ?_;refine JT 11 rfl dC ?_;refine JT 12 rfl (FV (cs:=Gt (⟨1-i,AW p⟩:Ee)) rfl rfl rfl (AC.one (⟨1-i,AW p⟩:Ee))) ?_;refine Av 13 Cb rfl rfl (HD (cs:=Gt (⟨1-i,AW p⟩:Ee)) rfl Cq rfl rfl) ?_;rintro _ _ ⟨b95,rfl,rfl⟩;refine BL ?_
  refine E5 (H':=AB w1.ba.b w1.ba.o w1.AN w1.ba.s*(HP.AA b95 0 (AG [(⟨1-i,AW p⟩:Ee)])*(A7 nb w1.x*(AB w1.xa.b w1.xa.o w1.cs w1.xa.s*(AB w1.ea.b w1.ea.o w1.rows w1.ea.s*(AB w1.ca.b w1.ca.o (w1.cnt.set i ⟨(w.n.cnt i+k+1)⟩) w1.ca.s*(AU CX w1.cs*(AU CY w1.rows*(AB bu ou (Ar fs) su*AB b32 o32 p s32*(HP.AA b5 0 (DC ⟨0,-1,0,0,⟨#[]⟩,((outs w.n.ks (Ae (decide (i=0))) (w.n.cnt i) Ls).map AW)⟩ (.slice ps.p ((outs w.n.ks (Ae (decide (i=0))) (w.n.cnt i) Ls).map AW).length ps.c))*(ps.h ((outs w.n.ks (Ae (decide (i=0))) (w.n.cnt i) Ls).map AW)*H))))))))))) (by show HP.AA b95 0 _*_=_;rw [show AG [(⟨1-i,AW p⟩:Ee)]=Gt (⟨1-i,AW p⟩:Ee)from kh _];ac_rfl) ?_;refine Av 14 Cb rfl rfl (DG (ys:=[(⟨1-i,AW p⟩:Ee)]) (bb:=b95) (oo:=0) (cc:=1) rfl q1.ba.1 q1.ba.2 rfl CS inferInstance rfl Cn Ca) ?_;rintro _ _ ⟨p96,b96,o96,c96,s96,rfl,hs96,hc96,rfl⟩;refine BL ?_;refine Jn 15 ?_;refine Jf 16 ?_;refine Dx 17 Cb rfl FL ?_;refine Dh ?_;refine Ic ?_;have hsn:(w1.send i (w.n.cnt i+k+1) (⟨1-i,AW p⟩:Ee) ⟨p96,b96,o96,c96,s96⟩).n=_:=NM.tP w1 i (w.n.cnt i+k+1) (⟨1-i,AW p⟩:Ee) ⟨p96,b96,o96,c96,s96⟩
  exact Bo (Ay nb (w1.send i (w.n.cnt i+k+1) (⟨1-i,AW p⟩:Ee) ⟨p96,b96,o96,c96,s96⟩)*(HP.AA b5 0 (DC ⟨0,-1,0,0,⟨#[]⟩,((outs w.n.ks (Ae (decide (i=0))) (w.n.cnt i) Ls).map AW)⟩ (.slice ps.p ((outs w.n.ks (Ae (decide (i=0))) (w.n.cnt i) Ls).map AW).length ps.c))*(ps.h ((outs w.n.ks (Ae (decide (i=0))) (w.n.cnt i) Ls).map AW)*H))) (hE:=⟨fun ww hw=>Sat.right (A:=HP.AA b95 0 (AG [(⟨1-i,AW p⟩:Ee)])*(AB bu ou (Ar fs) su*AB b32 o32 p s32)) (Eq.mp (by congr 1;rw [H?];show _=HP.AA b95 0 (AG [(⟨1-i,AW p⟩:Ee)])*(AB bu ou (Ar fs) su*AB b32 o32 p s32)*(A7 nb {w1.x with bv:=.slice p96 (w1.AN++[(⟨1-i,AW p⟩:Ee)]).length c96}*_);ac_rfl) hw)⟩) (Ba (w1.send i (w.n.cnt i+k+1) (⟨1-i,AW p⟩:Ee) ⟨p96,b96,o96,c96,s96⟩,k+1) ⟨q1.send i _ ⟨hs96,hc96⟩,by show Ko w.n i Ls (w1.send i (w.n.cnt i+k+1) (⟨1-i,AW p⟩:Ee) ⟨p96,b96,o96,c96,s96⟩).n (k+1);rw [hsn];exact hat⟩ (by show Ls.length-(k+1)<Ls.length-k;omega) Hq rfl)
 refine B1 ?_;rw [hPSl]at hk;have hkl:k=Ls.length:=Nat.le_antisymm q2.le Ca;subst hkl;exact mR [4] (Ay nb w1*H) (hE:=⟨fun ww hw=>Sat.right (A:=HP.AA b5 0 (DC ⟨0,-1,0,0,⟨#[]⟩,((outs w.n.ks (Ae (decide (i=0))) (w.n.cnt i) Ls).map AW)⟩ (.slice ps.p ((outs w.n.ks (Ae (decide (i=0))) (w.n.cnt i) Ls).map AW).length ps.c))*ps.h ((outs w.n.ks (Ae (decide (i=0))) (w.n.cnt i) Ls).map AW)) (Eq.mp Co hw)⟩) rfl rfl ⟨rfl,w1,q1,by rw [←q2.done],rfl⟩
end
section
variable{B:World}
@[reducible] def B8(s:DB):List Value:=[.int .i64 s.kind,.int .i64 s.side,.int .i64 s.a,.int .i64 s.b,.string s.s]
def IQ(c:Int):Prop:= -9223372036854775808≤c∧c<9223372036854775808
structure K1(s:DB):Prop where
 side:IQ s.side
 a:IQ s.a
 b:IQ s.b
 s:s.s.size<90000000
theorem xH{n:AH}(h:n.AN=[])(s:DB):n.carry s=(true,n):=by unfold AH.carry;rw [if_pos h]
theorem ag{n:AH}{s:DB}{f:Nat×ByteArray}(h:n.AN[AP s.a n.AN.length]?=some f):n.carry s=if s.kind=6 then n.comes f.1 f.2 else if s.kind=9 then n.DO (1-f.1) f.2.data.toList else if s.kind=8 then n.DO f.1 (Z9 f.2.data.toList (AP s.b f.2.size) s.s.data.toList)else(true,n):=by
 have hb:n.AN≠ []:=fun e=>by rw [e]at h;cases h
 unfold AH.carry;rw [if_neg hb,getD_some h]
theorem u6(b:ByteArray):AW b.data.toList=b:=by
 unfold AW;apply ByteArray.ext;exact Array.toArray_toList
theorem zX{s:DB}(h:0<s.s.size):decide ((s.s.data.toList.getD 0 0).toNat≠0)=decide (s.s.data.toList≠ []∧s.s.data.toList.getD 0 0≠0):=by
 have h1:s.s.data.toList≠ []:=g_.1 h;have h2:(s.s.data.toList.getD 0 0).toNat≠0↔s.s.data.toList.getD 0 0≠0:=not_congr ⟨fun e=>UInt8.toNat_inj.1 e,fun e=>by rw [e];rfl⟩;rw [decide_eq_decide];exact⟨fun x=>⟨h1,h2.1 x⟩,fun x=>h2.2 x.2⟩
theorem lO{s:DB}(h:¬0<s.s.size):false=decide (s.s.data.toList≠ []∧s.s.data.toList.getD 0 0≠0):=by
 refine(decide_eq_false fun x=>h ?_).symm;exact g_.2 x.1
set_option maxHeartbeats 8000000 in
theorem zE(hG:B.cell? ⟨0,0,none⟩=some (DH 106))(nb t:Nat)(s:DB)(w:NM)(L:Nat→List (List AM))(Rr:Nat→Nat→Prop)(H:HP)(hok:w.ok)(hw:Ad t w.n L Rr A3)(hs:K1 s)(ht:t<800000):
  Fn Tryz.prog B 73 [ptr nb 0,.agg (B8 s).toArray] (Ay nb w*H) (fun v H'=>v=.bool true∧∃w':NM,w'.ok∧w'.n=(w.n.carry s).2∧H'=Ay nb w'*H):=by
 refine mI Tryz.func73 ?_;refine J2 ?_;refine Am (Dn (l:=B8 s) rfl rfl) rfl ?_;rintro _ _ ⟨b3,rfl,rfl⟩;refine J5 ?_;refine Au (H':=A7 nb w.x*(AB w.xa.b w.xa.o w.cs w.xa.s*(AB w.ea.b w.ea.o w.rows w.ea.s*(AB w.ba.b w.ba.o w.AN w.ba.s*(AB w.ca.b w.ca.o w.cnt w.ca.s*(AU CX w.cs*(AU CY w.rows*(HP.AA b3 0 (B8 s)*H)))))))) (by rw [←En];ac_rfl) ?_;refine J4 ?_;refine JL V2 ?_;refine J1 ?_;refine JL (CN (i:=w.AN.length) (j:=0) rfl rfl) ?_;refine J2 ?_;refine mC (fun h15=>?_) (fun h15=>?_)
 ·refine J7 ?_;exact mR [4] (Ay nb w*H) (hE:=⟨fun ww hw=>Sat.right (A:=HP.AA b3 0 (B8 s)) (Eq.mp TH hw)⟩) rfl rfl ⟨rfl,w,hok,by rw [xH (show w.n.AN=[]from List.length_eq_zero_iff.1 ((d_ ..).trans h15))],rfl⟩
 have hKl:(AP s.a w.AN.length)<w.AN.length:=Db s.a Ca;obtain⟨F,hF⟩:=IX rfl hKl
 have hFn:w.n.AN[AP s.a w.n.AN.length]?=some (F.to,F.b):=by
  have e:w.n.AN=w.AN.map (fun f=>(f.to,f.b)):=rfl;rw [e,d_,e_,hF];rfl
 have hcy:=ag hFn;have hFm:(F.to,F.b)∈w.n.AN:=a_ hFn;obtain⟨i9,m9,fs9,i91,i92,i93,i94⟩:=hw.AN _ hFm;dsimp only at i92 i94 hcy
 obtain⟨p,hp⟩:∃p,p=Bk w.n.ks (Ae (decide (i9=0))) (f_ m9) (Ar fs9):=Bl
 rw [←hp]at i94
 have hpl:16≤p.length:=by rw [hp,O9];omega
 have hp3:p.length≤300:=by have:=(hw.recv hFm Ca).2.1;dsimp only at this;rw [i94,EI]at this;exact this
 have hbl:w.AN.length<90000000:=by have:=hw.bl;have h0:=(hw.c 0 Ca).nx;have h1:=(hw.c 1 Ca).nx;have l0:=(hw.at (i:=0) Ca).s.len;have l1:=(hw.at (i:=1) Ca).s.len;have e:w.n.AN.length=w.AN.length:=d_ ..;omega
 have hFto:F.to<2:=by omega
 refine J3 ?_;refine mA 7 9 ?_;refine Jy ?_;refine Jm 2 ?_;refine Jn 3 ?_;refine Jf 4 ?_;refine JT 5 rfl V2 ?_;refine JT 6 rfl Ft ?_;refine Av 7 Cb rfl rfl (BS rfl (JM s.a hs.a w.AN.length Ca _)) ?_;refine JR ?_;refine Dc ?_;refine Ei 8 Cb rfl rfl F7 EY ?_;refine JD ?_;refine J6 ?_;refine JL V2 ?_;refine J1 ?_;refine JL (Hf rfl rfl hok.ba.1 Ca rfl) ?_;refine JL (A9 (v':=.agg (Gt F).toArray) (It (xs:=w.AN) rfl inferInstance Ca) Uv) ?_;refine Am (Fj (l:=[.int .i64 0,.string ⟨#[]⟩]) rfl) rfl ?_;rintro _ _ ⟨b6,rfl,rfl⟩;refine Bv (EO (cs:=Gt F) rfl rfl Ch (AC.one F)) ?_;refine JR ?_;refine DV ?_;refine JL (DI (i:=s.kind) (j:=6) rfl rfl) ?_;refine J3 ?_;refine mC (fun h6=>?_) (fun h6=>?_)
 ·rw [if_pos h6]at hcy;refine J7 ?_;refine BQ (H':=Ay nb w*(HP.AA b6 0 (Gt F)*(HP.AA b3 0 (B8 s)*H))) VX ?_;refine mE rfl (bG hG nb t F.to F.b w L Rr _ hok hw hFm ht) ?_;rintro _ _ ⟨rfl,w2,hok2,hn2,rfl⟩;refine J6 ?_;exact mR [4] (Ay nb w2*H) (hE:=UW) rfl rfl bK
 rw [if_neg h6]at hcy;refine J2 ?_;refine JL (DI (i:=s.kind) (j:=9) rfl rfl) ?_;refine J3 ?_;refine mC (fun h9=>?_) (fun h9=>?_)
 ·rw [if_pos h9]at hcy;refine J5 ?_;refine JL (Iy (i:=1) (j:=F.to) rfl rfl Ca) ?_;refine J2 ?_;refine BQ (H':=Ay nb w*(HP.AA b6 0 (Gt F)*(HP.AA b3 0 (B8 s)*H))) VX ?_;refine mE rfl (Tm hG nb t (1-F.to) F.b w L Rr _ hok hw Ca (by rw [i94,EI];omega) ht) ?_;rintro _ _ ⟨rfl,w2,hok2,hn2,rfl⟩;refine J6 ?_;exact mR [4] (Ay nb w2*H) (hE:=UW) rfl rfl bK
 rw [if_neg h9]at hcy;refine J2 ?_;refine JL (DI (i:=s.kind) (j:=8) rfl rfl) ?_;refine J3 ?_;refine mC (fun h8=>?_) (fun h8=>?_)
 ·rw [if_pos h8,i94,P1]at hcy
  have hat:(AP s.b (AW p).size)<p.length:=by have:=Db s.b (n:=(AW p).size) Kq;rw [EI]at this⊢;exact this
  refine J5 ?_;refine JL QI ?_;refine J1 ?_;refine mE rfl (JM s.b hs.b (AW p).size Kq _) ?_;refine Kc ?_;refine JL (Fx (v:=.int .u8 (1:Nat)) rfl) ?_;refine J4 ?_;refine DF (α:=Bool) (fun z=>[(67,.bool z),(8,.int .u8 (1:Nat)),(7,iN (AP s.b (AW p).size)),(6,ptr b6 0),(3,ptr b3 0),(0,ptr nb 0)]) (fun _=>HP.AA b6 0 (Gt F)*(A7 nb w.x*(AB w.xa.b w.xa.o w.cs w.xa.s*(AB w.ea.b w.ea.o w.rows w.ea.s*(AB w.ba.b w.ba.o w.AN w.ba.s*(AB w.ca.b w.ca.o w.cnt w.ca.s*(AU CX w.cs*(AU CY w.rows*(HP.AA b3 0 (B8 s)*H))))))))) (fun z=>z=decide (s.s.data.toList≠ []∧s.s.data.toList.getD 0 0≠0)) ?_ ?_
  ·refine J4 ?_;refine JL (Gj (i:=s.s.size) (j:=0) rfl rfl) ?_;refine J1 ?_;refine EV 62 rfl (fun hg1=>?_) (fun hg1=>?_)
   ·refine T8 ?_;refine JL (S3 (s:=s.s) (i:=0) rfl rfl hg1) ?_;refine JG T1 ?_;refine JL (FB (i:=(s.s.data.toList.getD 0 0).toNat) (j:=0) rfl rfl) ?_;refine JL GM ?_;refine J1 ?_;exact BJ (decide ((s.s.data.toList.getD 0 0).toNat≠0)) (zX hg1) GE rfl
   refine WZ ?_;refine JH F1 ?_;refine JL E9 ?_;refine J1 ?_;exact BJ false (lO hg1) GE rfl
  ·rintro z hz;refine J1 ?_;refine DF (α:=UInt8) (fun z=>[(8,u8 z),(7,iN (AP s.b (AW p).size)),(6,ptr b6 0),(3,ptr b3 0),(0,ptr nb 0)]) (fun _=>HP.AA b6 0 (Gt F)*(A7 nb w.x*(AB w.xa.b w.xa.o w.cs w.xa.s*(AB w.ea.b w.ea.o w.rows w.ea.s*(AB w.ba.b w.ba.o w.AN w.ba.s*(AB w.ca.b w.ca.o w.cnt w.ca.s*(AU CX w.cs*(AU CY w.rows*(HP.AA b3 0 (B8 s)*H))))))))) (fun z=>z=(if s.s.data.toList≠ []∧s.s.data.toList.getD 0 0≠0 then s.s.data.toList.getD 0 0 else 1)) ?_ ?_
   ·refine mc (fun h67=>?_) (fun h67=>?_)
    ·rw [h67]at hz;have hz2:=of_decide_eq_true hz.symm;have hss:0<s.s.size:=g_.2 hz2.1;refine J3 ?_;refine JL (S3 (s:=s.s) (i:=0) rfl rfl hss) ?_;refine J2 ?_;exact BJ (s.s.data.toList.getD 0 0) (by rw [if_pos hz2]) HK rfl
    rw [h67]at hz;have hz2:=of_decide_eq_false hz.symm;refine J1 ?_;exact BJ 1 (by rw [if_neg hz2]) HK rfl
   ·rintro by8 hby;refine J2 ?_;refine mA 20 20 ?_;refine Jf 0 ?_;refine JT 1 rfl QI ?_;refine Jm 2 ?_;refine JT 3 rfl (A9 (v':=.string (AW (p.take (AP s.b (AW p).size)))) (fJ (h:=(AP s.b (AW p).size)) rfl rfl Qg) (by rw [Rx _ _ _ Ca,kp])) ?_;refine Jf 4 ?_;refine JT 5 rfl QI ?_;refine Jm 6 ?_;refine JT 7 rfl (A9 (v':=u8 (p.getD (AP s.b (AW p).size) 0)) (S3 (s:=AW p) (i:=(AP s.b (AW p).size)) rfl rfl Qg) (by rw [P1])) ?_;refine Jm 8 ?_;refine JT 9 rfl (Ym (a:=p.getD (AP s.b (AW p).size) 0) (b:=by8) rfl rfl) ?_;refine Jf 13 ?_;refine JT 14 rfl QI ?_;refine Jm 15 ?_;refine JT 16 rfl (Ff (i:=(AP s.b (AW p).size)) (j:=1) rfl rfl Ca) ?_;refine JT 17 rfl (A9 (v':=.string (AW (p.drop ((AP s.b (AW p).size)+1)))) (t0 (l:=(AP s.b (AW p).size)+1) rfl rfl Qg) (by rw [Rx _ _ _ Qg,EI,List.take_length])) ?_;refine Av 10 Cb rfl rfl Ig ?_;rintro _ _ ⟨b81,rfl,rfl⟩;refine BL ?_
    refine E5 (H':=HP.AA b81 0 (AG [(p.getD (AP s.b (AW p).size) 0 ^^^by8)])*(HP.AA b6 0 (Gt F)*(A7 nb w.x*(AB w.xa.b w.xa.o w.cs w.xa.s*(AB w.ea.b w.ea.o w.rows w.ea.s*(AB w.ba.b w.ba.o w.AN w.ba.s*(AB w.ca.b w.ca.o w.cnt w.ca.s*(AU CX w.cs*(AU CY w.rows*(HP.AA b3 0 (B8 s)*H)))))))))) (by show HP.AA b81 0 _*_=_;rfl) ?_;refine Ei 11 Cb rfl rfl (My (b:=b81) (o:=0) (c:=1) (xs:=[(p.getD (AP s.b (AW p).size) 0 ^^^by8)]) rfl CS inferInstance) Ti ?_;refine JT 12 rfl (Vt (s:=p.take (AP s.b (AW p).size)) (t:=[(p.getD (AP s.b (AW p).size) 0 ^^^by8)]) rfl rfl (by rw [kf];simp only [h_];omega)) ?_;refine JT 18 rfl (Vt (s:=p.take (AP s.b (AW p).size)++[(p.getD (AP s.b (AW p).size) 0 ^^^by8)]) (t:=p.drop ((AP s.b (AW p).size)+1)) rfl rfl (by rw [b_,kf,km];simp only [h_];omega)) ?_;refine Ja 19 ?_;refine JD ?_;refine J7 ?_;refine BQ (H':=Ay nb w*(HP.AA b81 0 (AG [(p.getD (AP s.b (AW p).size) 0 ^^^by8)])*(HP.AA b6 0 (Gt F)*(HP.AA b3 0 (B8 s)*H)))) VX ?_
    refine mE rfl (Tm hG nb t F.to (AW (p.take (AP s.b (AW p).size)++[(p.getD (AP s.b (AW p).size) 0 ^^^by8)]++p.drop ((AP s.b (AW p).size)+1))) w L Rr _ hok hw hFto (by rw [EI,b_,b_,kf,km];simp only [h_];omega) ht) ?_;rintro _ _ ⟨rfl,w2,hok2,hn2,rfl⟩;rw [P1]at hn2;refine J6 ?_;exact mR [4] (Ay nb w2*H) (hE:=⟨fun ww hw=>Sat.right (A:=HP.AA b81 0 (AG [(p.getD (AP s.b (AW p).size) 0 ^^^by8)])*(HP.AA b6 0 (Gt F)*HP.AA b3 0 (B8 s))) (Eq.mp TH hw)⟩) rfl rfl ⟨rfl,w2,hok2,by rw [hn2,hcy,hby];rfl,rfl⟩
 rw [if_neg h8]at hcy;refine J9 ?_;exact mR [4] (Ay nb w*H) (hE:=UW) rfl rfl ⟨rfl,w,hok,by rw [hcy],rfl⟩
end
section
variable{B:World}
theorem NM.m5{w:NM}{i j k:Nat}{r:Dq}{E:EF}(hr:w.rows[j]?=some r)(hE:r.es[k]?=some E)(C:CM)(o:Du):
  (w.put i j k C r ⟨E.q,o⟩).rows[j]?=some {r with es:=r.es.set k ⟨E.q,o⟩}∧(r.es.set k ⟨E.q,o⟩)[k]?=some ⟨E.q,o⟩:=
 ⟨kg (c_.1 hr).1,kg (c_.1 hE).1⟩
theorem ac(s:ByteArray)(h:Nat)(hh:h≤s.size):s.extract 0 h=AW (s.data.toList.take h):=by
 have:=Rx s.data.toList 0 h hh
 rw [u6,kp]at this;exact this
set_option maxHeartbeats 16000000 in
theorem Qc(hG:B.cell? ⟨0,0,none⟩=some (DH 106))(nb t:Nat)(s:DB)(w:NM)(L:Nat→List (List AM))(Rr:Nat→Nat→Prop)(H:HP)(hok:w.ok)(hw:Ad t w.n L Rr A3)(hs:K1 s)(ht:t<700000):
  Fn Tryz.prog B 35 [ptr nb 0,.agg (B8 s).toArray] (Ay nb w*H) (fun v H'=>v=.bool true∧∃w':NM,w'.ok∧w'.n=(w.n.step s).2∧H'=Ay nb w'*H):=by
 refine mI Tryz.func35 ?_;have hi:(AP s.side 2)<2:=Db _ Ca;have hk:(AP s.a 4)<4:=Db _ Ca;obtain⟨C,r,E,hC,hr,hE,l1,l2,l3⟩:=hw.mem hi hi hk;have hCm:=a_ hC;have hci:=hw.c _ hi;have hnx:w.n.x (AP s.side 2)=C.c.s:=NM.Fc hC;have hne:w.n.e (AP s.side 2) (AP s.a 4)=E.o:=NM.IT hr hE;rw [hnx]at hci;have hss:=hs.s;refine J2 ?_;refine Am (Dn (l:=B8 s) rfl rfl) rfl ?_;rintro _ _ ⟨b3,rfl,rfl⟩;refine J7 ?_;refine mE rfl (JM s.side hs.side 2 Ca _) ?_;refine Fg ?_;refine Au (H':=A7 nb w.x*(AB w.xa.b w.xa.o w.cs w.xa.s*(AB w.ea.b w.ea.o w.rows w.ea.s*(AB w.ba.b w.ba.o w.AN w.ba.s*(AB w.ca.b w.ca.o w.cnt w.ca.s*(Ac C.cb C.c*(AB r.a.b r.a.o r.es r.a.s*(BX E.q E.o*(Do w (AP s.side 2) (AP s.side 2) (AP s.a 4) r*(HP.AA b3 0 (B8 s)*H)))))))))) (by rw [←GC nb w _ hC hr hE];ac_rfl) ?_;refine J4 ?_;refine JL V1 ?_;refine J1 ?_;refine JL (DT (i:=(AP s.side 2)) rfl rfl hok.xa.1 Ca) ?_;refine JL aS ?_;refine J7 ?_;refine mE rfl (JM s.a hs.a 4 Ca _) ?_;refine JR ?_;refine Fe ?_;refine JL (DI (i:=s.kind) (j:=1) rfl rfl) ?_;refine J3 ?_;refine mC (fun k1=>?_) (fun k1=>?_)
 ·skip
  have hst:w.n.step s=w.n.wr (AP s.side 2) (AP s.a 4) s.s:=by unfold AH.step;rw [if_pos k1]
  have hno:=fun hf=>hw.YW hi hk s.s hf;have hyes:=fun hf=>hw.Tw hi hk s.s hf;have hdn:=fun hf=>hw.ZF hi hk s.s hf rfl rfl;rw [hnx]at hno hyes hdn;rw [hne]at hno hyes hdn
  obtain⟨rv,erv⟩:∃rv,rv=C.c.s.write (AP s.a 4) s.s.data.toList:=Bl
  rw [←erv]at hno hyes hdn;refine S9 ?_;refine J9 ?_;refine JL (A9 (v':=.agg (D3 ⟨1,((AP s.a 4):Nat),0,0,s.s⟩).toArray) GI rfl) ?_;refine BQ (H':=Ac C.cb C.c*(HP.AA b3 0 (B8 s)*(A7 nb w.x*(AB w.xa.b w.xa.o w.cs w.xa.s*(AB w.ea.b w.ea.o w.rows w.ea.s*(AB w.ba.b w.ba.o w.AN w.ba.s*(AB w.ca.b w.ca.o w.cnt w.ca.s*(AB r.a.b r.a.o r.es r.a.s*(BX E.q E.o*(Do w (AP s.side 2) (AP s.side 2) (AP s.a 4) r*H)))))))))) Cg ?_;refine mE rfl (Iq hG C.cb t C.c ⟨1,((AP s.a 4):Nat),0,0,s.s⟩ ⟨rv.1.2,-1,rv.1.1,0,⟨#[]⟩,[]⟩ rv.2 (by rw [cp,←erv]) _ (hok.F6 C hCm) hci Ca (by show s.s.size<_;omega) Cz) ?_;rintro _ _ ⟨m2,ps,hm2,hs2,hps,rfl,rfl⟩;dsimp only at hs2 hps⊢;refine Am Jt rfl ?_;rintro _ _ ⟨b9,rfl,rfl⟩
  refine Bv (EO (cs:=DC ⟨rv.1.2,-1,rv.1.1,0,⟨#[]⟩,[]⟩ (.slice ps.p 0 ps.c)) rfl rfl Ch Cf) ?_;refine JR ?_;refine CL ?_;refine DU 53 rfl (fun hg1=>?_) (fun hg1=>?_)
  ·have hf:E.o.finished=true∨E.o.given=true:=.inl hg1;obtain⟨e3,e4⟩:=hno hf;refine IE ?_;refine Qw ?_;refine Ye ?_;exact eY
  refine Ia ?_;refine J1 ?_;refine Ml ?_;refine La ?_;refine mc (fun hgv=>?_) (fun hgv=>?_)
  ·have hf:E.o.finished=true∨E.o.given=true:=.inr hgv;obtain⟨e3,e4⟩:=hno hf;refine Ye ?_;exact eY
  have hf:¬(E.o.finished=true∨E.o.given=true):=fun x=>by rcases x with x|x;rw [x]at hg1;cases hg1;rw [x]at hgv;cases hgv
  obtain⟨e3,e4,T1,hT1⟩:=hyes hf;refine J3 ?_
  have hn9:(w.put (AP s.side 2) (AP s.side 2) (AP s.a 4) ⟨C.cb,m2⟩ r ⟨E.q,E.o⟩).n=w.n.Aq (AP s.side 2) rv.2:=by rw [NM.Hk w hC hr,hs2];exact Kd hr hE _
  have hok9:(w.put (AP s.side 2) (AP s.side 2) (AP s.a 4) ⟨C.cb,m2⟩ r ⟨E.q,E.o⟩).ok:=hok.put hC hr hE hm2 _;refine Au (H':=Ay nb (w.put (AP s.side 2) (AP s.side 2) (AP s.a 4) ⟨C.cb,m2⟩ r ⟨E.q,E.o⟩)*(HP.AA b9 0 (DC ⟨rv.1.2,-1,rv.1.1,0,⟨#[]⟩,[]⟩ (.slice ps.p 0 ps.c))*(ps.h ([]:List ByteArray)*(HP.AA b3 0 (B8 s)*H)))) UM ?_;refine J3 ?_;refine mE rfl (gF hG nb t (AP s.side 2) (w.put (AP s.side 2) (AP s.side 2) (AP s.a 4) ⟨C.cb,m2⟩ r ⟨E.q,E.o⟩) L _ T1 _ hok9 (by rw [hn9];exact hT1) hi Ca) ?_;rintro _ _ ⟨rfl,w2,hok2,hn2,hkp,rfl⟩;rw [hn9]at hn2;obtain⟨c1,c2,c3,c4,c5,c6⟩:=Ad.CO hi 4 0 _ hT1 CW;rw [←hn2]at c2;obtain⟨g1,g2,g3,g4⟩:=hdn hf;rw [←hn2]at g1 g2 g3 g4;obtain⟨k8,k9⟩:=NM.m5 (i:=(AP s.side 2)) hr hE ⟨C.cb,m2⟩ E.o;obtain⟨r2,E2,hr2,hE2,hq2⟩:=hkp (AP s.side 2) (AP s.a 4) _ _ k8 k9;dsimp only at hq2;obtain⟨C2,_,_,hC2,_,_,l4,l5,_⟩:=c2.mem hi hi hk
  have l6:r2.es.length=4:=by have:=c2.Dp (AP s.side 2) hi;rw [show w2.n.ends.getD (AP s.side 2) []=r2.es.map (·.o)from getD_some (by show(w2.rows.map _)[(AP s.side 2)]?=_;rw [e_,hr2];rfl)]at this;simpa using this
  rw [NM.IT hr2 hE2]at g1 g2 g3 g4;have hwn:w2.n.AF=w2.x.AF:=rfl;rw [hwn]at g1
  have hw2:w2.x.AF≤1024:=by rw [←hwn,←c2.AF _ hi];exact(c2.c _ hi).w2
  have hN2:rv.1.1≤s.s.size:=e4;refine J5 ?_;rw [←hq2];refine Au (H':=A7 nb w2.x*(AB w2.xa.b w2.xa.o w2.cs w2.xa.s*(AB w2.ea.b w2.ea.o w2.rows w2.ea.s*(AB w2.ba.b w2.ba.o w2.AN w2.ba.s*(AB w2.ca.b w2.ca.o w2.cnt w2.ca.s*(Ac C2.cb C2.c*(AB r2.a.b r2.a.o r2.es r2.a.s*(BX E2.q E2.o*(Do w2 (AP s.side 2) (AP s.side 2) (AP s.a 4) r2*(HP.AA b9 0 (DC ⟨rv.1.2,-1,rv.1.1,0,⟨#[]⟩,[]⟩ (.slice ps.p 0 ps.c))*(ps.h ([]:List ByteArray)*(HP.AA b3 0 (B8 s)*H)))))))))))) (GC nb w2 _ hC2 hr2 hE2) ?_;refine mA 41 41 ?_;refine GZ ?_;refine JT 1 rfl T6 ?_;refine Jm 2 ?_;refine Al 3 rfl Cb rfl rfl rfl rfl BW ?_;refine Al 4 rfl Cb rfl rfl rfl rfl Bg ?_;refine Al 5 rfl Cb rfl rfl rfl rfl (A9 (v':=.bool false) (FB (i:=rv.1.2) (j:=0) rfl rfl) Cy) ?_;refine JT 6 rfl EB ?_;refine Jm 7 ?_;refine aO ?_;refine Al 10 rfl Cb rfl rfl rfl rfl (A9 (v':=.bool false) (ES (i:=rv.1.1) (j:=0) rfl rfl) OX) ?_;refine JT 11 rfl EB ?_;refine Jm 12 ?_;refine Al 13 rfl Cb rfl rfl rfl rfl BW ?_
  refine Al 14 rfl Cb rfl rfl rfl rfl Bg ?_;refine Al 15 rfl Cb rfl rfl rfl rfl BW ?_;refine Al 16 rfl Cb rfl rfl rfl rfl Bg ?_;refine Al 17 rfl Cb rfl rfl rfl rfl Gf ?_;refine Al 18 rfl Cb rfl rfl rfl rfl (A9 (v':=.bool false) (Gj (i:=rv.1.1) (j:=s.s.size) rfl rfl) OX) ?_;refine JT 19 rfl EB ?_;refine Jm 20 ?_;refine Al 21 rfl Cb rfl rfl rfl rfl Bd ?_;refine Al 22 rfl Cb rfl rfl rfl rfl CT ?_;refine Al 23 rfl Cb rfl rfl rfl rfl BW ?_;refine Al 24 rfl Cb rfl rfl rfl rfl Bg ?_;refine Al 25 rfl Cb rfl rfl rfl rfl Gf ?_;refine To ?_;refine Um ?_;refine Al 28 rfl Cb rfl rfl rfl rfl (Ff (i:=(AW E2.o.wrote).size) (j:=rv.1.1) rfl rfl Kq) ?_;refine Al 29 rfl Cb rfl rfl rfl rfl Bd ?_;refine Al 30 rfl Cb rfl rfl rfl rfl CT ?_;refine Al 31 rfl Cb rfl rfl rfl rfl BW ?_
  refine Al 32 rfl Cb rfl rfl rfl rfl Bg ?_;refine Al 33 rfl Cb rfl rfl rfl rfl (Iy (i:=(AW E2.o.wrote).size+rv.1.1) (j:=E2.o.AE) rfl rfl Kq) ?_;refine Al 34 rfl Cb rfl rfl rfl rfl Bd ?_;refine Al 35 rfl Cb rfl rfl rfl rfl CT ?_;refine Al 36 rfl Cb rfl rfl rfl rfl BW ?_;refine Z5 ?_;refine Al 39 rfl Cb rfl rfl rfl rfl (A9 (v':=.bool false) (Gj (i:=(AW E2.o.wrote).size+rv.1.1-E2.o.AE) (j:=w2.x.AF) rfl rfl) kR) ?_;refine JT 40 rfl EB ?_;refine FG ?_;refine Kj ?_;refine J3 ?_;refine mA 13 14 ?_;refine Me ?_;refine Jf 5 ?_;refine Jd 6 ?_;refine Jf 7 ?_;refine Jd 8 ?_;refine JT 9 rfl (A9 (v':=.string (AW (s.s.data.toList.take rv.1.1))) (fJ (h:=rv.1.1) rfl rfl Ca) (by rw [ac _ _ hN2])) ?_;refine JT 10 rfl (Vt (s:=E2.o.wrote) (t:=s.s.data.toList.take rv.1.1) rfl rfl ON) ?_;refine Jn 11 ?_;refine Jf 12 ?_
  refine Dx 13 Cb rfl (Ez (v:=.string (AW (E2.o.wrote++s.s.data.toList.take rv.1.1))) rfl rfl rfl trivial) ?_;refine Dh ?_;refine J9 ?_;exact mR [4] (Ay nb (w2.put (AP s.side 2) (AP s.side 2) (AP s.a 4) ⟨C2.cb,C2.c⟩ r2 ⟨E2.q,{E2.o with wrote:=E2.o.wrote++s.s.data.toList.take rv.1.1}⟩)*H) (hE:=⟨fun ww hw=>Sat.right (A:=HP.AA b9 0 (DC ⟨rv.1.2,-1,rv.1.1,0,⟨#[]⟩,[]⟩ (.slice ps.p 0 ps.c))*(ps.h ([]:List ByteArray)*HP.AA b3 0 (B8 s))) (Eq.mp (by congr 1;rw [LS nb w2 _ hC2 hr2 hE2];ac_rfl) hw)⟩) rfl rfl ⟨rfl,(w2.put (AP s.side 2) (AP s.side 2) (AP s.a 4) ⟨C2.cb,C2.c⟩ r2 ⟨E2.q,{E2.o with wrote:=E2.o.wrote++s.s.data.toList.take rv.1.1}⟩),hok2.put hC2 hr2 hE2 (hok2.F6 C2 (a_ hC2)) _,by rw [hst,g4,NM.Hk w2 hC2 hr2,WI hC2],rfl⟩
 refine J2 ?_;refine JL (DI (i:=s.kind) (j:=2) rfl rfl) ?_;refine J3 ?_;refine mC (fun k2=>?_) (fun k2=>?_)
 ·skip
  have hst:w.n.step s=w.n.fin (AP s.side 2) (AP s.a 4):=by unfold AH.step;rw [if_neg k1,if_pos k2]
  obtain⟨hno,hyes⟩:=hw.Sk hi hk;rw [hnx]at hno hyes;rw [hne]at hno hyes
  obtain⟨rv,erv⟩:∃rv,rv=C.c.s.finish (AP s.a 4):=Bl
  rw [←erv]at hno hyes;refine S9 ?_;refine J7 ?_;refine JL (A9 (v':=.agg (D3 ⟨2,((AP s.a 4):Nat),0,0,⟨#[]⟩⟩).toArray) GI rfl) ?_;refine BQ (H':=Ac C.cb C.c*(HP.AA b3 0 (B8 s)*(A7 nb w.x*(AB w.xa.b w.xa.o w.cs w.xa.s*(AB w.ea.b w.ea.o w.rows w.ea.s*(AB w.ba.b w.ba.o w.AN w.ba.s*(AB w.ca.b w.ca.o w.cnt w.ca.s*(AB r.a.b r.a.o r.es r.a.s*(BX E.q E.o*(Do w (AP s.side 2) (AP s.side 2) (AP s.a 4) r*H)))))))))) Cg ?_;refine mE rfl (Iq hG C.cb t C.c ⟨2,((AP s.a 4):Nat),0,0,⟨#[]⟩⟩ ⟨rv.1,-1,0,0,⟨#[]⟩,[]⟩ rv.2 (by rw [mK,←erv]) _ (hok.F6 C hCm) hci Ca Lu Cz) ?_;rintro _ _ ⟨m2,ps,hm2,hs2,hps,rfl,rfl⟩;dsimp only at hs2 hps⊢;refine Am Jt rfl ?_;rintro _ _ ⟨b12,rfl,rfl⟩
  refine Bv XQ ?_;refine JR ?_;refine CL ?_;refine DU 144 rfl (fun hg2=>?_) (fun hg2=>?_)
  ·have hf:E.o.finished=true∨E.o.given=true:=.inl hg2;obtain⟨e3,e4⟩:=hno hf;refine Wa ?_;refine JH hg2 ?_;refine JL OC ?_;refine J2 ?_;refine Gw ?_;refine J4 ?_;refine JL V5 ?_;refine J7 ?_;exact fM
  refine P9 ?_;refine P9 ?_;refine JL Ni ?_;refine J2 ?_;refine mc (fun hgv=>?_) (fun hgv=>?_)
  ·have hf:E.o.finished=true∨E.o.given=true:=.inr hgv;obtain⟨e3,e4⟩:=hno hf;refine J4 ?_;refine JL V5 ?_;refine J7 ?_;exact fM
  have hf:¬(E.o.finished=true∨E.o.given=true):=fun x=>by rcases x with x|x;rw [x]at hg2;cases hg2;rw [x]at hgv;cases hgv
  obtain⟨e3,e4⟩:=hyes hf;refine J7 ?_;refine Bv iF ?_;refine Hp ?_;refine JL Xn ?_;refine J6 ?_;exact mR [4] (Ay nb (w.put (AP s.side 2) (AP s.side 2) (AP s.a 4) ⟨C.cb,m2⟩ r ⟨E.q,{E.o with finished:=true}⟩)*H) (hE:=cS) rfl rfl ⟨rfl,(w.put (AP s.side 2) (AP s.side 2) (AP s.a 4) ⟨C.cb,m2⟩ r ⟨E.q,{E.o with finished:=true}⟩),hok.put hC hr hE hm2 _,jC,rfl⟩
 refine J2 ?_;refine JL (DI (i:=s.kind) (j:=3) rfl rfl) ?_;refine J3 ?_;refine mC (fun k3=>?_) (fun k3=>?_)
 ·have hx:AP s.b 1000<1000:=Db _ Ca
  have hst:w.n.step s=w.n.B' (AP s.side 2) (AP s.a 4) (AP s.b 1000):=by unfold AH.step;rw [if_neg k1,if_neg k2,if_pos k3]
  obtain⟨hno,hyes⟩:=hw.Vi hi hk hx;rw [hnx]at hno hyes;rw [hne]at hno hyes
  obtain⟨rv,erv⟩:∃rv,rv=C.c.s.giveUp (AP s.a 4) (AP s.b 1000):=Bl
  rw [←erv]at hno hyes;refine S9 ?_;refine J7 ?_;refine mE rfl (JM s.b hs.b 1000 Ca _) ?_;refine JR ?_;refine JL Fy ?_;refine J8 ?_;refine JL (A9 (v':=.agg (D3 ⟨3,((AP s.a 4):Nat),0,(AP s.b 1000),⟨#[]⟩⟩).toArray) GI rfl) ?_;refine BQ (H':=Ac C.cb C.c*(HP.AA b3 0 (B8 s)*(A7 nb w.x*(AB w.xa.b w.xa.o w.cs w.xa.s*(AB w.ea.b w.ea.o w.rows w.ea.s*(AB w.ba.b w.ba.o w.AN w.ba.s*(AB w.ca.b w.ca.o w.cnt w.ca.s*(AB r.a.b r.a.o r.es r.a.s*(BX E.q E.o*(Do w (AP s.side 2) (AP s.side 2) (AP s.a 4) r*H)))))))))) Cg ?_;refine mE rfl (Iq hG C.cb t C.c ⟨3,((AP s.a 4):Nat),0,(AP s.b 1000),⟨#[]⟩⟩ ⟨rv.1,-1,0,0,⟨#[]⟩,[]⟩ rv.2 (by rw [mJ,←erv]) _ (hok.F6 C hCm) hci Ca Lu Cz) ?_;rintro _ _ ⟨m2,ps,hm2,hs2,hps,rfl,rfl⟩;dsimp only at hs2 hps⊢
  refine Am Jt rfl ?_;rintro _ _ ⟨b15,rfl,rfl⟩;refine Bv XQ ?_;refine JR ?_;refine B1 ?_;refine mc (fun hgv=>?_) (fun hgv=>?_)
  ·obtain⟨e3,e4⟩:=hno hgv;refine J4 ?_;refine JL V5 ?_;refine J7 ?_;exact mR [4] (Ay nb (w.put (AP s.side 2) (AP s.side 2) (AP s.a 4) ⟨C.cb,m2⟩ r ⟨E.q,E.o⟩)*H) (hE:=iM) rfl rfl aP
  obtain⟨e3,e4⟩:=hyes hgv;refine J7 ?_;refine Bv iF ?_;refine JR ?_;refine J8 ?_;refine Bv (Ez (v:=uN (AP s.b 1000)) rfl rfl rfl trivial) ?_;refine Hp ?_;refine JL Xn ?_;refine J6 ?_;exact mR [4] (Ay nb (w.put (AP s.side 2) (AP s.side 2) (AP s.a 4) ⟨C.cb,m2⟩ r ⟨E.q,{E.o with given:=true,code:=(AP s.b 1000)}⟩)*H) (hE:=iM) rfl rfl ⟨rfl,(w.put (AP s.side 2) (AP s.side 2) (AP s.a 4) ⟨C.cb,m2⟩ r ⟨E.q,{E.o with given:=true,code:=(AP s.b 1000)}⟩),hok.put hC hr hE hm2 _,jC,rfl⟩
 refine J2 ?_;refine JL (DI (i:=s.kind) (j:=4) rfl rfl) ?_;refine J3 ?_;refine mC (fun k4=>?_) (fun k4=>?_)
 ·skip
  have hst:w.n.step s=(true,w.n.tick):=by unfold AH.step;rw [if_neg k1,if_neg k2,if_neg k3,if_pos k4]
  obtain⟨C0,r0,E0,hC0,hr0,hE0,_,_,_⟩:=hw.mem (i:=0) (j:=0) (k:=0) Ca Ca Ca;refine J1 ?_;refine Au (H':=A7 nb w.x*(AB w.xa.b w.xa.o w.cs w.xa.s*(AB w.ea.b w.ea.o w.rows w.ea.s*(AB w.ba.b w.ba.o w.AN w.ba.s*(AB w.ca.b w.ca.o w.cnt w.ca.s*(Ac C0.cb C0.c*(AB r0.a.b r0.a.o r0.es r0.a.s*(BX E0.q E0.o*(Do w 0 0 0 r0*(HP.AA b3 0 (B8 s)*H)))))))))) (by rw [←GC nb w _ hC hr hE,GC nb w _ hC0 hr0 hE0]) ?_;refine J4 ?_;refine JL V1 ?_;refine JL (DT (i:=0) rfl rfl hok.xa.1 Ca) ?_;refine JL (FQ (f:=0) (xs:=w.cs) (v:=ptr C0.cb 0) rfl inferInstance (by rw [getD_some hC0];rfl) Ca) ?_;refine JL iO ?_;refine BQ (H':=Ac C0.cb C0.c*(A7 nb w.x*(AB w.xa.b w.xa.o w.cs w.xa.s*(AB w.ea.b w.ea.o w.rows w.ea.s*(AB w.ba.b w.ba.o w.AN w.ba.s*(AB w.ca.b w.ca.o w.cnt w.ca.s*(AB r0.a.b r0.a.o r0.es r0.a.s*(BX E0.q E0.o*(Do w 0 0 0 r0*(HP.AA b3 0 (B8 s)*H)))))))))) Cg ?_;refine mE rfl (Iq hG C0.cb t C0.c ⟨4,0,0,0,⟨#[]⟩⟩ ⟨0,-1,0,0,⟨#[]⟩,[]⟩ C0.c.s.tick (by rw [Xj]) _ (hok.F6 C0 (a_ hC0)) (by have:=hw.c 0 Ca;rw [NM.Fc hC0]at this;exact this) Ca Lu Cz) ?_;rintro _ _ ⟨m2,ps,hm2,hs2,hps,rfl,rfl⟩;dsimp only at hs2 hps⊢
  obtain⟨w1,hw1⟩:∃w1,w1=w.put 0 0 0 ⟨C0.cb,m2⟩ r0 ⟨E0.q,E0.o⟩:=Bl
  have hok1:w1.ok:=by rw [hw1];exact hok.put hC0 hr0 hE0 hm2 _
  have hn1:w1.n=w.n.Aq 0 (w.n.x 0).tick:=by rw [hw1,NM.Hk w hC0 hr0,hs2,NM.Fc hC0];exact Kd hr0 hE0 _
  have hx1:w1.n.x 1=w.n.x 1:=by rw [hn1,H2 _ 0 1 _ hw.xl Ca,if_neg Ca]
  have hl1:Jl w1.n:=by rw [hn1];exact hw.len.Aq _ _
  obtain⟨C1,r1,E1,hC1,hr1,hE1,l4,l5,_⟩:=hl1.mem (i:=1) (j:=0) (k:=0) Ca Ca Ca;refine J2 ?_;refine Au (H':=A7 nb w1.x*(AB w1.xa.b w1.xa.o w1.cs w1.xa.s*(AB w1.ea.b w1.ea.o w1.rows w1.ea.s*(AB w1.ba.b w1.ba.o w1.AN w1.ba.s*(AB w1.ca.b w1.ca.o w1.cnt w1.ca.s*(Ac C1.cb C1.c*(AB r1.a.b r1.a.o r1.es r1.a.s*(BX E1.q E1.o*(Do w1 1 0 0 r1*(ps.h ([]:List ByteArray)*(HP.AA b3 0 (B8 s)*H))))))))))) (by rw [←GC nb w1 _ hC1 hr1 hE1,hw1,LS nb w _ hC0 hr0 hE0];ac_rfl) ?_;refine J4 ?_;refine JL (A9 ER hok1.xv) ?_;refine JL (DT (i:=1) rfl rfl hok1.xa.1 Ca) ?_;refine JL (FQ (f:=0) (xs:=w1.cs) (v:=ptr C1.cb 0) rfl inferInstance (by rw [getD_some hC1];rfl) Ca) ?_;refine JL iO ?_;refine BQ (H':=Ac C1.cb C1.c*(A7 nb w1.x*(AB w1.xa.b w1.xa.o w1.cs w1.xa.s*(AB w1.ea.b w1.ea.o w1.rows w1.ea.s*(AB w1.ba.b w1.ba.o w1.AN w1.ba.s*(AB w1.ca.b w1.ca.o w1.cnt w1.ca.s*(AB r1.a.b r1.a.o r1.es r1.a.s*(BX E1.q E1.o*(Do w1 1 0 0 r1*(ps.h ([]:List ByteArray)*(HP.AA b3 0 (B8 s)*H))))))))))) Cg ?_
  refine mE rfl (Iq hG C1.cb t C1.c ⟨4,0,0,0,⟨#[]⟩⟩ ⟨0,-1,0,0,⟨#[]⟩,[]⟩ C1.c.s.tick (by rw [Xj]) _ (hok1.F6 C1 (a_ hC1)) (by have:=hw.c 1 Ca;rw [←hx1,NM.Fc hC1]at this;exact this) Ca Lu Cz) ?_;rintro _ _ ⟨m3,pt,hm3,hs3,hpt,rfl,rfl⟩;dsimp only at hs3 hpt⊢
  obtain⟨w4,hw4⟩:∃w4,w4=w1.put 1 0 0 ⟨C1.cb,m3⟩ r1 ⟨E1.q,E1.o⟩:=Bl
  have hok4:w4.ok:=by rw [hw4];exact hok1.put hC1 hr1 hE1 hm3 _
  have hn4:w4.n=w.n.tick:=by
   have e1:w4.n=w1.n.Aq 1 (w1.n.x 1).tick:=by rw [hw4,NM.Hk w1 hC1 hr1,hs3,NM.Fc hC1];exact Kd hr1 hE1 _
   rw [e1,hx1,hn1];rfl
  obtain⟨w9,t9,J9,hok9,hw9,ht9,h9,h99⟩:∃(w9:NM) (t9:Nat) (J9:HP),w9.ok∧Ad t9 w9.n L Rr A3∧t9<800000∧(w9.n.carry s).2=(w.n.step s).2∧Ay nb w4*(HP.AA b3 0 (B8 s)*((pt.h ([]:List ByteArray)*ps.h ([]:List ByteArray))*H))=Ay nb w9*(HP.AA b3 0 (B8 s)*(J9*H)):=
   ⟨w4,t+1,pt.h ([]:List ByteArray)*ps.h ([]:List ByteArray),hok4,by rw [hn4];exact hw.tick,Ca,by
    rw [hst,hn4]
    unfold AH.carry
    split
    ·rfl
    ·dsimp only
     rw [if_neg Ca,if_neg Ca,if_neg Ca],rfl⟩
  refine BQ (H':=Ay nb w9*(HP.AA b3 0 (B8 s)*(J9*H))) (by rw [←h99,hw4,LS nb w1 _ hC1 hr1 hE1];ac_rfl) ?_;refine fB ?_;rintro _ _ ⟨rfl,w2,hok2,hn2,rfl⟩;refine J4 ?_;exact XL
 refine J2 ?_;refine JL (DI (i:=s.kind) (j:=5) rfl rfl) ?_;refine J3 ?_;refine mC (fun k5=>?_) (fun k5=>?_)
 ·skip
  have hst:w.n.step s=w.n.flush (AP s.side 2):=by unfold AH.step;rw [if_neg k1,if_neg k2,if_neg k3,if_neg k4,if_pos k5]
  obtain⟨Ls,hfl⟩:=hw.Nt hi Ca;refine J4 ?_;refine BQ (H':=Ay nb w*(HP.AA b3 0 (B8 s)*H)) U5 ?_;refine mE rfl (P8 hG nb t (AP s.side 2) w Ls _ hok hfl hi Ca) ?_;rintro _ _ ⟨rfl,w2,hok2,hn2,rfl⟩;refine J6 ?_;exact US
 refine J2 ?_;refine JL (DI (i:=s.kind) (j:=10) rfl rfl) ?_;refine J3 ?_;refine mC (fun k10=>?_) (fun k10=>?_)
 ·skip
  have hst:w.n.step s=w.n.read (AP s.side 2) (AP s.b 4) (AP s.a 200):=by unfold AH.step;rw [if_neg k1,if_neg k2,if_neg k3,if_neg k4,if_neg k5,if_pos k10]
  have hb4:AP s.b 4<4:=Db _ Ca;have ha2:AP s.a 200<200:=Db _ Ca;refine J1 ?_;refine Au (H':=Ay nb w*(HP.AA b3 0 (B8 s)*H)) U5 ?_;refine mA 8 10 ?_;refine El ?_;refine Lm ?_;refine K7 ?_;refine Jf 5 ?_;refine Jd 6 ?_;refine Av 4 Cb rfl rfl (BS rfl (JM s.b hs.b 4 Ca _)) ?_;refine Fm ?_;refine Av 7 Cb rfl rfl (BS rfl (JM s.a hs.a 200 Ca _)) ?_;refine Fm ?_;refine Av 8 Cb rfl rfl (BS rfl (aI hG nb t (AP s.side 2) (AP s.b 4) (AP s.a 200) w L Rr _ hok hw hi hb4 Ca Ca)) ?_;rintro _ _ ⟨rfl,w2,hok2,hn2,rfl⟩;refine Dc ?_;refine Ei 9 Cb rfl rfl F7 EY ?_;refine K8 ?_;exact US
 refine J2 ?_;refine JL (DI (i:=s.kind) (j:=7) rfl rfl) ?_;refine J3 ?_;refine mC (fun k7=>?_) (fun k7=>?_)
 ·skip
  have hst:w.n.step s=w.n.DO (AP s.side 2) s.s.data.toList:=by unfold AH.step;rw [if_neg k1,if_neg k2,if_neg k3,if_neg k4,if_neg k5,if_neg k10,if_pos k7]
  refine J6 ?_;refine BQ (H':=Ay nb w*(HP.AA b3 0 (B8 s)*H)) U5 ?_;refine mE rfl (Tm hG nb t (AP s.side 2) s.s w L Rr _ hok hw hi hss Ca) ?_;rintro _ _ ⟨rfl,w2,hok2,hn2,rfl⟩;refine J6 ?_;exact US
 have hst:(w.n.step s).2=(w.n.carry s).2:=by unfold AH.step;rw [if_neg k1,if_neg k2,if_neg k3,if_neg k4,if_neg k5,if_neg k10,if_neg k7]
 obtain⟨w9,t9,J9,hok9,hw9,ht9,h9⟩:∃(w9:NM) (t9:Nat) (J9:HP),w9.ok∧Ad t9 w9.n L Rr A3∧t9<800000∧(w9.n.carry s).2=(w.n.step s).2∧Ay nb w*(HP.AA b3 0 (B8 s)*H)=Ay nb w9*(HP.AA b3 0 (B8 s)*(J9*H)):=⟨w,t,HP.BN,hok,hw,Ca,hst.symm,Ck⟩
 obtain⟨h9,h99⟩:=h9;refine Au (H':=Ay nb w9*(HP.AA b3 0 (B8 s)*(J9*H))) (by rw [←h99,GC nb w _ hC hr hE]) ?_;refine fB ?_;rintro _ _ ⟨rfl,w2,hok2,hn2,rfl⟩;refine J4 ?_;exact XL
end
def DY:List (Nat×ByteArray)→AH→AH
 |[],n=>n
 |f::fs,n=>DY fs (n.comes f.1 f.2).2
def C8(i:Nat):Nat→Nat→AH→AH
 |_,0,n=>n
 |k,m+1,n=>C8 i (k+1) m (n.read i k 5000).2
theorem Ut:∀(fs:List (Nat×ByteArray)) (z:Bool×AH),(HO fs z).2=DY fs z.2
 |[],z=>rfl
 |f::fs,z=>by rw [HO,Ut fs];rfl
theorem QZ(i:Nat):∀(m k:Nat) (z:Bool×AH),(GD i k m z).2=C8 i k m z.2
 |0,k,z=>rfl
 |m+1,k,z=>by rw [GD,QZ i m];rfl
def AH.AO(n:AH):AH:=((n.tick.flush 0).2.flush 1).2
def AH.AI(n:AH):AH:=DY (n.AO.AN.drop n.AN.length) n.AO
theorem Nm(n:AH):n.round.2=C8 1 0 4 (C8 0 0 4 n.AI):=by
 unfold AH.round;dsimp only;rw [QZ,QZ,Ut];rfl
def BE(t:Nat)(n:AH):Prop:=∃L R,Ad t n L R A3
theorem Ad.up{t t':Nat}{n:AH}{L:Nat→List (List AM)}{R:Nat→Nat→Prop}{T:Nat→Nat→List UInt8}(h:Ad t n L R T)(ht:t≤t'):Ad t' n L R T:={h with c:=fun i hi=>(h.c i hi).mono ht}
theorem BE.comes{t:Nat}{n:AH}(h:BE t n)(ht:t≤1000000000){f:Nat×ByteArray}(hf:f∈n.AN):(n.comes f.1 f.2).1=true∧BE t (n.comes f.1 f.2).2∧(n.comes f.1 f.2).2.AN=n.AN:=by
 obtain⟨L,R,h⟩:=h;obtain⟨_,a,R',b,c⟩:=h.comes hf ht;exact⟨a,⟨L,R',b⟩,c⟩
theorem BE.HO{t:Nat}(ht:t≤1000000000):∀(fs:List (Nat×ByteArray)) (n:AH),BE t n→(∀f∈fs,f∈n.AN)→(HO fs (true,n)).1=true∧BE t (DY fs n)∧(DY fs n).AN=n.AN
 |[],n,h,_=>⟨rfl,h,rfl⟩
 |f::fs,n,h,hf=>by
  obtain⟨a,b,c⟩:=h.comes ht (hf f Ce);obtain⟨a',b',c'⟩:=BE.HO ht fs (n.comes f.1 f.2).2 b (fun g hg=>by rw [c];exact hf g Ci);refine⟨?_,b',c'.trans c⟩;rw [Go.Proofs.YtgfdlpcdjklcoaaGreatDoor.HO];show(Go.Proofs.YtgfdlpcdjklcoaaGreatDoor.HO fs (true&&(n.comes f.1 f.2).1,(n.comes f.1 f.2).2)).1=true;rw [a];exact a'
theorem BE.read{t:Nat}{n:AH}(h:BE t n){i k:Nat}(hi:i<2)(hk:k<4)(AL:Nat):(n.read i k AL).1=true∧BE (t+1) (n.read i k AL).2:=by
 obtain⟨L,R,h⟩:=h;obtain⟨a,b⟩:=h.read hi hk AL;exact⟨a,L,R,b⟩
theorem BE.GD{i:Nat}(hi:i<2):∀(m k t:Nat) (n:AH),BE t n→k+m≤4→(GD i k m (true,n)).1=true∧BE (t+m) (C8 i k m n)
 |0,k,t,n,h,_=>⟨rfl,h⟩
 |m+1,k,t,n,h,hk=>by
  obtain⟨a,b⟩:=h.read hi (show k<4 by omega) 5000;obtain⟨a',b'⟩:=BE.GD hi m (k+1) (t+1) _ b Ca;refine⟨?_,by rw [show t+(m+1)=t+1+m by omega];exact b'⟩;rw [Go.Proofs.YtgfdlpcdjklcoaaGreatDoor.GD];show(Go.Proofs.YtgfdlpcdjklcoaaGreatDoor.GD i (k+1) m (true&&(n.read i k 5000).1,(n.read i k 5000).2)).1=true;rw [a];exact a'
theorem BE.tick{t:Nat}{n:AH}(h:BE t n):BE (t+1) n.tick:=by
 obtain⟨L,R,h⟩:=h;exact⟨L,R,h.tick⟩
theorem BE.flush{t:Nat}{n:AH}(h:BE t n){i:Nat}(hi:i<2)(ht:t≤1000000000):(n.flush i).1=true∧BE (t+1) (n.flush i).2:=by
 obtain⟨L,R,h⟩:=h;obtain⟨a,L',b⟩:=h.flush hi ht;exact⟨a,L',R,b⟩
theorem eN{α:Type}{z:Bool×α}{x:α}(h1:z.1=true)(h2:z.2=x):z=(true,x):=by
 cases z;cases h1;cases h2;rfl
theorem mD{n:AH}(a2:(n.tick.flush 0).1=true)(a3:((n.tick.flush 0).2.flush 1).1=true)(a4:(HO (n.AO.AN.drop n.AN.length) (true,n.AO)).1=true)
  (a5:(GD 0 0 4 (true,n.AI)).1=true)(a6:(GD 1 0 4 (true,C8 0 0 4 n.AI)).1=true):n.round.1=true:=by
 unfold AH.round;dsimp only
 have e1:th (th (true,n.tick) (·.flush 0)) (·.flush 1)=(true,n.AO):=by
  unfold th AH.AO;dsimp only;rw [a2,a3];rfl
 rw [e1];have e2:HO (n.AO.AN.drop n.AN.length) (true,n.AO)=(true,n.AI):=eN a4 (Ut _ (true,n.AO));rw [show(true,n.AO).2=n.AO from rfl,e2];have e3:GD 0 0 4 (true,n.AI)=(true,C8 0 0 4 n.AI):=eN a5 (QZ 0 4 0 (true,n.AI));rw [e3];exact a6
theorem BE.AO{t:Nat}{n:AH}(h:BE t n)(ht:t≤900000000):(n.tick.flush 0).1=true∧((n.tick.flush 0).2.flush 1).1=true∧BE (t+3) n.AO:=by
 have h1:=h.tick;obtain⟨a2,h2⟩:=h1.flush (i:=0) Ca Ca;obtain⟨a3,h3⟩:=h2.flush (i:=1) Ca Ca;exact⟨a2,a3,h3⟩
theorem BE.AI{t:Nat}{n:AH}(h:BE t n)(ht:t≤900000000):(Go.Proofs.YtgfdlpcdjklcoaaGreatDoor.HO (n.AO.AN.drop n.AN.length) (true,n.AO)).1=true∧BE (t+3) n.AI:=by
 obtain⟨a4,h4,_⟩:=BE.HO (t:=t+3) Ca (n.AO.AN.drop n.AN.length) n.AO (h.AO ht).2.2 (fun f hf=>List.mem_of_mem_drop hf);exact⟨a4,h4⟩
theorem BE.round{t:Nat}{n:AH}(h:BE t n)(ht:t≤900000000):n.round.1=true∧BE (t+11) n.round.2:=by
 obtain⟨a2,a3,_⟩:=h.AO ht;obtain⟨a4,h4⟩:=h.AI ht;obtain⟨a5,h5⟩:=BE.GD (i:=0) Ca 4 0 (t+3) n.AI h4 Ca;obtain⟨a6,h6⟩:=BE.GD (i:=1) Ca 4 0 (t+3+4) (C8 0 0 4 n.AI) h5 Ca;refine⟨mD a2 a3 a4 a5 a6,?_⟩;rw [Nm,show t+11=t+3+4+4 by omega];exact h6
theorem BE.Bh:∀(k t:Nat) (n:AH),BE t n→t+11*k≤900000000→(Bh k n).1=true∧BE (t+11*k) (Bh k n).2
 |0,t,n,h,_=>⟨rfl,h⟩
 |k+1,t,n,h,ht=>by
  obtain⟨a,b⟩:=h.round Ca;rw [Go.Proofs.YtgfdlpcdjklcoaaGreatDoor.Bh,if_pos a];obtain⟨a',b'⟩:=BE.Bh k (t+11) _ b Ca;exact⟨a',by rw [show t+11*(k+1)=t+11+11*k by omega];exact b'⟩
section
variable{B:World}
def fR(n:AH):Nat→AH
 |0=>n
 |1=>(n.flush 0).2
 |_+2=>((n.flush 0).2.flush 1).2
theorem cw(n:AH):n.step ⟨4,0,0,0,⟨#[]⟩⟩=(true,n.tick):=by
 unfold AH.step;rw [if_neg Cc,if_neg Cc,if_neg Cc,if_pos rfl]
theorem yJ:K1 ⟨4,0,0,0,⟨#[]⟩⟩:=⟨⟨Cc,Cc⟩,⟨Cc,Cc⟩,⟨Cc,Cc⟩,Cc⟩
theorem bN{α:Type}{l:List α}{k:Nat}{x:α}(h:l[k]?=some x):l.drop k=x::l.drop (k+1):=by
 obtain⟨a,b⟩:=c_.1 h;rw [j_ a,b]
def fO(n:AH):Nat→AH
 |0=>n
 |1=>C8 0 0 4 n
 |_+2=>C8 1 0 4 (C8 0 0 4 n)
theorem X0{t:Nat}{n:AH}{L:Nat→List (List AM)}{R:Nat→Nat→Prop}(h:Ad t n L R A3){i:Nat}(hi:i<2)(ht:t≤1000000):n.AN.length≤(n.flush i).2.AN.length:=by
 obtain⟨Ls,a,b,c,d⟩:=h.Ws hi;unfold AH.flush;rw [a,←h.cnt i hi,Qn (i:=i) (ks:=n.ks) b Ls (n.Aq i (n.x i).As.2) (n.cnt i) rfl rfl rfl S1 (by rw [h.cnt i hi];omega) d];show n.AN.length≤(n.AN++_).length;rw [b_];omega
set_option maxHeartbeats 16000000 in
theorem UQ(hG:B.cell? ⟨0,0,none⟩=some (DH 106))(nb t k:Nat)(w:NM)(H:HP)(hok:w.ok)(hw:BE t w.n)(ht:t+11*k<600000):
  Fn Tryz.prog B 36 [ptr nb 0,iN k] (Ay nb w*H) (fun v H'=>v=.bool true∧∃w':NM,w'.ok∧w'.n=(Bh k w.n).2∧H'=Ay nb w'*H):=by
 refine mI Tryz.func36 ?_;refine J8 ?_;refine E4 ?_;refine Bj (α:=NM×Nat) (fun z=>[(5,iN z.2),(0,ptr nb 0),(1,iN k)]) (fun z=>Ay nb z.1*H) (fun z=>z.1.ok∧z.2≤k∧BE (t+11*z.2) z.1.n∧(Bh (k-z.2) z.1.n).2=(Bh k w.n).2) (fun z=>k-z.2) (w,0) ⟨hok,i_ _,hw,rfl⟩ Dk rfl ?_;rintro⟨w1,j⟩ ⟨q1,q2,q3,q4⟩;dsimp only at q1 q2 q3 q4⊢;refine J5 ?_;refine JL (ES (i:=j) (j:=k) rfl rfl) ?_;refine J2 ?_;refine mC (fun hj=>?_) (fun hj=>?_)
 ·obtain⟨L0,R0,hw0⟩:=q3;have hro:=(BE.round ⟨L0,R0,hw0⟩ Ca).1;refine J7 ?_;refine JL (A9 (v':=.agg (B8 (⟨4,0,0,0,⟨#[]⟩⟩:DB)).toArray) GI rfl) ?_;refine mE rfl (Qc hG nb (t+11*j) (⟨4,0,0,0,⟨#[]⟩⟩:DB) w1 L0 R0 _ q1 hw0 yJ Ca) ?_;rintro _ _ ⟨rfl,wt,hokt,hnt,rfl⟩;rw [cw]at hnt;have hnt:wt.n=w1.n.tick:=hnt
  have hwt:BE (t+11*j+1) wt.n:=by rw [hnt];exact⟨L0,R0,hw0.tick⟩
  refine J4 ?_;refine Au (H':=A7 nb wt.x*(AB wt.xa.b wt.xa.o wt.cs wt.xa.s*(AB wt.ea.b wt.ea.o wt.rows wt.ea.s*(AB wt.ba.b wt.ba.o wt.AN wt.ba.s*(AB wt.ca.b wt.ca.o wt.cnt wt.ca.s*(AU CX wt.cs*(AU CY wt.rows*H))))))) (En nb wt _) ?_;refine J4 ?_;refine JL (A9 ER hokt.bv) ?_;refine J7 ?_;refine E4 ?_
  have hbl:wt.AN.length=w1.n.AN.length:=by
   have e:wt.n.AN.length=wt.AN.length:=d_ ..;rw [←e,hnt];rfl
  refine Bj (α:=NM×Nat) (fun z=>[(8,iN z.2),(7,iN wt.AN.length),(6,.bool true),(5,iN j),(0,ptr nb 0),(1,iN k)]) (fun z=>Ay nb z.1*H) (fun z=>z.1.ok∧z.2≤2∧BE (t+11*j+1+z.2) z.1.n∧z.1.n=fR wt.n z.2) (fun z=>2-z.2) (wt,0) ⟨hokt,i_ _,hwt,rfl⟩ GE (En nb wt _).symm ?_;rintro⟨w2,i⟩ ⟨x1,x2,x3,x4⟩;dsimp only at x1 x2 x3 x4⊢;refine SN ?_;refine mC (fun hi=>?_) (fun hi=>?_)
  ·obtain⟨L2,R2,hw2⟩:=id x3;obtain⟨Ls,hfl⟩:=hw2.Nt hi Ca;refine J8 ?_;refine mE rfl (P8 hG nb _ i w2 Ls _ x1 hfl hi Ca) ?_;rintro _ _ ⟨rfl,w3,hok3,hn3,rfl⟩;refine J6 ?_;refine Ns ?_;refine J6 ?_;refine D7 ?_
   exact Ba (w3,i+1) ⟨hok3,RI,by
    show BE (t+11*j+1+(i+1)) w3.n
    rw [hn3];exact(x3.flush Ca Ca).2,by
    show w3.n=fR wt.n (i+1)
    rw [hn3,x4]
    rcases(show i=0∨i=1 by omega)with rfl|rfl<;>rfl⟩ SA GE rfl
  have hi2:i=2:=by omega
  subst hi2
  have hs:w2.n=w1.n.AO:=by rw [x4,hnt];rfl
  refine Fe ?_;have hb2:w2.AN.length=w2.n.AN.length:=(d_ ..).symm
  have hle:wt.AN.length≤w2.n.AN.length:=by
   rw [hbl,hs];obtain⟨L5,R5,hw5⟩:=hwt;rw [hnt]at hw5;have e0:w1.n.AN.length=w1.n.tick.AN.length:=rfl;have e1:=X0 hw5 (i:=0) Ca Ca;obtain⟨L6,R6,hw6⟩:=(BE.flush ⟨L5,R5,hw5⟩ (i:=0) Ca Ca).2;have e2:=X0 hw6 (i:=1) Ca Ca;show w1.n.AN.length≤w1.n.AO.AN.length;unfold AH.AO;omega
  refine Bj (α:=NM×Nat) (fun z=>[(10,iN z.2),(6,.bool true),(5,iN j),(0,ptr nb 0),(1,iN k)]) (fun z=>Ay nb z.1*H) (fun z=>z.1.ok∧z.2≤w2.n.AN.length∧BE (t+11*j+3) z.1.n∧z.1.n.AN=w2.n.AN∧DY (w2.n.AN.drop z.2) z.1.n=w1.n.AI) (fun z=>w2.n.AN.length-z.2) (w2,wt.AN.length) ⟨x1,hle,x3,rfl,by show DY (w2.n.AN.drop wt.AN.length) w2.n=_;rw [hbl,hs];rfl⟩ HK rfl ?_;rintro⟨w3,m⟩ ⟨y1,y2,y3,y4,y5⟩;dsimp only at y1 y2 y3 y4 y5⊢
  have hb3:w3.AN.length=w2.n.AN.length:=by rw [←y4];exact QG
  refine J2 ?_;refine Au (H':=A7 nb w3.x*(AB w3.xa.b w3.xa.o w3.cs w3.xa.s*(AB w3.ea.b w3.ea.o w3.rows w3.ea.s*(AB w3.ba.b w3.ba.o w3.AN w3.ba.s*(AB w3.ca.b w3.ca.o w3.cnt w3.ca.s*(AU CX w3.cs*(AU CY w3.rows*H))))))) (En nb w3 _) ?_;refine J5 ?_;refine JL Uj ?_;refine J1 ?_;refine JL (ES (i:=m) (j:=w3.AN.length) rfl rfl) ?_;refine J2 ?_;refine mC (fun hm=>?_) (fun hm=>?_)
  ·obtain⟨F,hF⟩:=IX rfl hm
   have hFn:w3.n.AN[m]?=some (F.to,F.b):=by show(w3.AN.map (fun f=>(f.to,f.b)))[m]?=_;rw [e_,hF];rfl
   have hFb:w2.n.AN[m]?=some (F.to,F.b):=by rw [←y4];exact hFn
   have hFm:(F.to,F.b)∈w3.n.AN:=a_ hFn;obtain⟨L4,R4,hw4⟩:=id y3;obtain⟨_,hfl4⟩:=hw4.Nt (i:=0) Ca Ca;have hb9:=hfl4.bl;rw [y4]at hb9;refine J5 ?_;refine mA 17 19 ?_;refine El ?_;refine Jr ?_;refine JT 4 rfl Uj ?_;refine Jm 5 ?_;refine JT 6 rfl kE ?_;refine Jf 7 ?_;refine JT 8 rfl (FQ (f:=0) (xs:=w3.AN) (v:=iN F.to) rfl inferInstance Uv Ca) ?_;refine Jm 9 ?_;refine Jn 10 ?_;refine Jf 11 ?_;refine JT 12 rfl Uj ?_;refine Jm 13 ?_;refine JT 14 rfl kE ?_;refine Jf 15 ?_;refine JT 16 rfl (FQ (f:=1) (xs:=w3.AN) (v:=.string F.b) rfl inferInstance Uv Ca) ?_;refine E5 (H':=Ay nb w3*H) (En nb w3 _).symm ?_;refine Av 17 Cb rfl rfl (BS rfl (bG hG nb _ F.to F.b w3 L4 R4 _ y1 hw4 hFm Ca)) ?_;rintro _ _ ⟨rfl,w5,hok5,hn5,rfl⟩;refine Dc ?_;refine Ei 18 Cb rfl rfl F7 EY ?_;refine K8 ?_;refine Ns ?_;refine J6 ?_;refine D7 ?_;obtain⟨_,v2,v3⟩:=y3.comes Ca hFm
   exact Ba (w5,m+1) ⟨hok5,by show m+1≤_;omega,by show BE _ w5.n;rw [hn5];exact v2,by show w5.n.AN=_;rw [hn5,v3,y4],by
    show DY (w2.n.AN.drop (m+1)) w5.n=_
    rw [←y5,bN hFb,hn5];rfl⟩ (by show w2.n.AN.length-(m+1)<w2.n.AN.length-m;omega) HK rfl
  have hm2:m=w2.n.AN.length:=by omega
  subst hm2;rw [kj]at y5;have hg:w3.n=w1.n.AI:=y5;refine Au (H':=Ay nb w3*H) (En nb w3 _).symm ?_;refine J8 ?_;refine JL Wi ?_;refine J3 ?_;refine Bj (α:=NM×Nat) (fun z=>[(12,iN z.2),(6,.bool true),(5,iN j),(0,ptr nb 0),(1,iN k)]) (fun z=>Ay nb z.1*H) (fun z=>z.1.ok∧z.2≤2∧BE (t+11*j+3+4*z.2) z.1.n∧z.1.n=fO w1.n.AI z.2) (fun z=>2-z.2) (w3,0) ⟨y1,i_ _,y3,hg⟩ HK rfl ?_;rintro⟨w4,i2⟩ ⟨z1,z2,z3,z4⟩;dsimp only at z1 z2 z3 z4⊢;refine J4 ?_;refine JL (ES (i:=i2) (j:=2) rfl rfl) ?_;refine J2 ?_;refine mC (fun hi2=>?_) (fun hi2=>?_)
  ·refine J6 ?_;refine E4 ?_;refine Bj (α:=NM×Nat) (fun z=>[(13,iN z.2),(12,iN i2),(6,.bool true),(5,iN j),(0,ptr nb 0),(1,iN k)]) (fun z=>Ay nb z.1*H) (fun z=>z.1.ok∧z.2≤4∧BE (t+11*j+3+4*i2+z.2) z.1.n∧C8 i2 z.2 (4-z.2) z.1.n=C8 i2 0 4 w4.n) (fun z=>4-z.2) (w4,0) ⟨z1,i_ _,z3,rfl⟩ GE rfl ?_;rintro⟨w6,k2⟩ ⟨u1,u2,u3,u4⟩;dsimp only at u1 u2 u3 u4⊢;refine J4 ?_;refine JL (ES (i:=k2) (j:=4) rfl rfl) ?_;refine J2 ?_;refine mC (fun hk2=>?_) (fun hk2=>?_)
   ·obtain⟨L6,R6,hw6⟩:=id u3;refine J9 ?_;refine mE rfl (aI hG nb _ i2 k2 5000 w6 L6 R6 _ u1 hw6 hi2 hk2 Ca Ca) ?_;rintro _ _ ⟨rfl,w7,hok7,hn7,rfl⟩;refine J6 ?_;refine Ns ?_;refine J6 ?_;refine D7 ?_
    exact Ba (w7,k2+1) ⟨hok7,by show k2+1≤4;omega,by show BE (t+11*j+3+4*i2+(k2+1)) w7.n;rw [hn7];exact(u3.read hi2 hk2 5000).2,by
     show C8 i2 (k2+1) (4-(k2+1)) w7.n=_
     rw [←u4,show 4-k2=(4-(k2+1))+1 by omega,hn7];rfl⟩ (by show 4-(k2+1)<4-k2;omega) GE rfl
   refine J8 ?_;refine D7 ?_
   have hk4:k2=4:=by omega
   subst hk4
   exact Ba (w6,i2+1) ⟨u1,by show i2+1≤2;omega,by show BE (t+11*j+3+4*(i2+1)) w6.n;rw [show t+11*j+3+4*(i2+1)=t+11*j+3+4*i2+4 by omega];exact u3,by
    show w6.n=fO w1.n.AI (i2+1)
    have u4:w6.n=C8 i2 0 4 w4.n:=u4
    rw [u4,z4]
    rcases(show i2=0∨i2=1 by omega)with rfl|rfl<;>rfl⟩ (by show 2-(i2+1)<2-i2;omega) HK rfl
  have hi3:i2=2:=by omega
  subst hi3
  have z5:w1.n.round.2=w4.n:=by rw [Nm,z4];rfl
  have hrd:=BE.round (t:=t+11*j) ⟨L0,R0,hw0⟩ Ca;rw [z5,show t+11*j+11=t+11*(j+1) by omega]at hrd;refine J8 ?_;refine RP ?_;refine D7 ?_
  exact Ba (w4,j+1) ⟨z1,by show j+1≤k;omega,hrd.2,by
   show(Bh (k-(j+1)) w4.n).2=_
   rw [←q4,show k-j=(k-(j+1))+1 by omega,Bh,if_pos hro,z5]⟩ dA Dk rfl
 refine B1 ?_
 have hjk:j=k:=by omega
 subst hjk;rw [Nat.sub_self]at q4;exact mR [4] (Ay nb w1*H) rfl rfl ⟨rfl,w1,q1,q4,rfl⟩
end
end Go.Proofs.YtgfdlpcdjklcoaaGreatDoor
