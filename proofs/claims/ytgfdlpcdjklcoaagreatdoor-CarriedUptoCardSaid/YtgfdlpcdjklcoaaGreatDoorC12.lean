/- A part of this proof: steps of the program, plain facts; no condition. -/
import Derived.Test.YtgfdlpcdjklcoaaGreatDoorC11
namespace Go.Proofs.YtgfdlpcdjklcoaaGreatDoor
open Go Go.RowKit
open _root_.List renaming mem_of_getElem?→A_,length_append→A!,getElem?_eq_some_iff→A?,length_map→B_,getElem?_map→B!,length_pos_iff→C_,length_singleton→D_,drop_eq_getElem_cons→D!,length_take→D?,getElem?_set_self→E_,append_nil→E!,drop_length→F_,length_drop→F!,length→F?,length_set→G_,drop_zero→G!
open _root_.UInt64 renaming ofNat→B?
open _root_.Nat renaming zero_le→C!,le_trans→G?
open _root_.Int renaming toNat_natCast→C?,natCast_emod→E?
set_option linter.unusedVariables false
set_option linter.unusedSimpArgs false
set_option maxRecDepth 20000
section
variable{B:World}
theorem lP(c:Int)(n:Nat):AK c n=Zw c n:=by
 unfold AK Zw;split
 ·rename_i h;rw [show -(c+1)=(((-(c+1)).toNat:Nat):Int) by omega,←E?,C?,C?]
 ·rename_i h;rw [show c=((c.toNat:Nat):Int) by omega,←E?,C?,C?]
theorem If(c:Int)(hr: -9223372036854775808≤c∧c<9223372036854775808)(n:Nat)(hn:0<n)(H:HP):Fn Tryz.prog B 24 [.int .i64 c,iN n] H (fun v H'=>v=iN (AK c n)∧H'=H):=by
 refine mI Tryz.func24 ?_;refine Gv ?_;refine J6 ?_;refine JL (K3 (i:=c) (j:=0) rfl rfl) ?_;refine J2 ?_;refine mC (fun hc=>?_) (fun hc=>?_)
 ·skip
  have e: -(c+1)=(((-(c+1)).toNat:Nat):Int):=by omega
  refine J2 ?_;refine JL (oL (i:=c) (j:=1) rfl rfl Ca) ?_;refine JL (dB (i:=c+1) rfl Ca) ?_;refine J7 ?_;refine JL Xy ?_;refine J4 ?_;exact bL
 have e:c=((c.toNat:Nat):Int):=by omega
 refine J6 ?_;refine JL Xy ?_;refine J4 ?_;exact bL
set_option maxHeartbeats 4000000 in
theorem H7(hG:B.cell? ⟨0,0,none⟩=some (C3 106))(cb t:Nat)(m:Ac)(q:LH)(a:Dw)(c':AG)(hd:m.s.B2 q=(a,c'))(R:HP)(hm:m.ok)(hi:AZ t m.s)(ht:t<900000)(hq:q.data.size<90000000)(hmo2:q.AL<9223372036854775808):
  Fn Tryz.prog B 23 [ptr cb 0,.agg (De q).toArray] (AY cb m*R) (fun v H'=>∃(m':Ac) (ps:Az),m'.ok∧m'.s=c'∧ps.ok a.A6∧
   v=.agg (CQ a (.slice ps.p a.A6.length ps.c)).toArray∧H'=ps.h a.A6*(AY cb m'*R)):=by
 refine mI Tryz.func23 ?_;refine J2 ?_;refine Af (DP (l:=De q) rfl rfl) rfl ?_;rintro _ _ ⟨b3,rfl,rfl⟩;refine Af Iv rfl ?_;rintro _ _ ⟨b4,rfl,rfl⟩;refine J5 ?_;refine JL (Di (l:=De q) rfl rfl) ?_;refine BF (H':=AY cb m*(HP.AA b4 0 [.int .i64 0,.int .i64 0,.int .i64 0,.int .u64 0,.string ⟨#[]⟩,.slice none 0 0]*(HP.AA b3 0 (De q)*R))) Cf ?_;refine mE rfl (sZ hG cb t m q _ hm hi ht hq hmo2) ?_;rintro _ _ ⟨m2,ps,hm2,hs2,hps,rfl,rfl⟩;rw [hd]at hs2 hps⊢;dsimp only at hs2 hps⊢;refine xC ?_;refine JL (A2 (v':=.agg (CQ a (.slice ps.p a.A6.length ps.c)).toArray) FV rfl) ?_;refine Bj (Dz (cs:=CQ a (.slice ps.p a.A6.length ps.c)) rfl rfl Ch Ce) ?_;refine Fs ?_;exact L8 (ps.h a.A6*(AY cb m2*R)) (hE:=⟨fun ww hw=>Sat.right (A:=HP.AA b4 0 (CQ a (.slice ps.p a.A6.length ps.c))*HP.AA b3 0 (De q)) (Eq.mp Cn hw)⟩) rfl (H4 (MM rfl rfl) JA) ⟨m2,ps,hm2,hs2,hps,rfl,rfl⟩
set_option maxHeartbeats 8000000 in
theorem Zo(hG:B.cell? ⟨0,0,none⟩=some (C3 106))(nb t i:Nat)(w:NM)(L:Nat→List (List AT))(Rr:Nat→Nat→Prop)(T:Nat→Nat→List UInt8)(H:HP)(hok:w.ok)(hw:Ak t w.n L Rr T)(hi:i<2)(ht:t<800000):
  Fn Tryz.prog B 70 [ptr nb 0,iN i] (Aw nb w*H) (fun v H'=>v=.bool true∧∃w':NM,w'.ok∧w'.n=(DQ i 0 4 w.n).2∧IN w w'∧H'=Aw nb w'*H):=by
 refine mI Tryz.func70 ?_;refine J8 ?_;refine Fq ?_;refine Bk (α:=NM×Nat) (fun z=>[(5,iN z.2),(0,ptr nb 0),(1,iN i)]) (fun z=>Aw nb z.1*H) (fun z=>z.1.ok∧Ak t z.1.n L Rr T∧z.2≤4∧(DQ i z.2 (4-z.2) z.1.n).2=(DQ i 0 4 w.n).2∧IN w z.1) (fun z=>4-z.2) (w,0) ⟨hok,hw,C! _,rfl,.refl _⟩ Du rfl ?_;rintro⟨w1,k⟩ ⟨q1,q2,q3,q4,q5⟩;dsimp only at q1 q2 q3 q4 q5⊢;refine J4 ?_;refine JL (Dr (i:=k) (j:=4) rfl rfl) ?_;refine J2 ?_;refine mC (fun hk=>?_) (fun hk=>?_)
 ·obtain⟨C,r,E,hC,hr,hE,l1,l2,l3⟩:=q2.mem hi hi hk;have hCm:=A_ hC;obtain⟨hca,hnx⟩:=q2.dP hi hk;have hnb:=q2.Qp hi hk;have hwn:w1.n.AF=w1.x.AF:=rfl;rw [hca]at hnb;have hci:=q2.c i hi;rw [NM.E5 hC]at hca hnx hnb hci;rw [NM.Ih hr hE]at hnx hnb;have hwk:=hci.ws.ok k hk;have hb1:(C.c.s.w k).A4≤4096:=G? hwk.Nw hwk.len;have n1:¬(C.c.s.w k).A4<E.o.AE:=fun x=>hnb (.inr (.inl x));have n2:¬E.o.wrote.length<(C.c.s.w k).A4:=fun x=>hnb (.inr (.inr (.inl x)));have n3:E.o.given=false→E.o.state=0→¬E.o.read+w1.x.AF<(C.c.s.w k).A4:=fun x y z=>hnb (.inr (.inr (.inr ⟨x,y,z⟩)))
  have hrd:E.o.read<1024000000:=(by
   have o:=q2.e i k hi hk
   rw [NM.Ih hr hE]at o
   have h7:=((q2.c (1-i) Ca).rs k hk).rt
   have h8:=o.read
   omega)
  have hwb:w1.x.AF≤1024:=(by have h7:=hci.w2;have h8:=q2.AF i hi;rw [NM.E5 hC]at h8;omega)
  refine J5 ?_;refine Ao (H':=A0 nb w1.x*(AB w1.xa.b w1.xa.o w1.cs w1.xa.s*(AB w1.ea.b w1.ea.o w1.rows w1.ea.s*(AB w1.ba.b w1.ba.o w1.AN w1.ba.s*(AB w1.ca.b w1.ca.o w1.cnt w1.ca.s*(AY C.cb C.c*(AB r.a.b r.a.o r.es r.a.s*(BN E.q E.o*(DW w1 i i k r*H))))))))) (GM nb w1 H hC hr hE) ?_;refine J4 ?_;refine JL (A2 ES q1.ev) ?_;refine J1 ?_;refine JL (DG (i:=i) rfl rfl q1.ea.1 Ca) ?_;refine JL (Ep (f:=0) (xs:=w1.rows) (v:=.slice r.a.p r.es.length r.a.c) rfl inferInstance RE Ca) ?_;refine J1 ?_;refine JL (DG (i:=k) rfl rfl (q1.ra r QD).1 Ca) ?_;refine JL PR ?_;refine J8 ?_;refine JL (A2 ES q1.xv) ?_;refine J1 ?_;refine JL (DG (i:=i) rfl rfl q1.xa.1 Ca) ?_;refine JL (Ep (f:=0) (xs:=w1.cs) (v:=ptr C.cb 0) rfl inferInstance VO Ca) ?_;refine J1 ?_;refine JL (A2 (v':=.agg (De ⟨9,(k:Nat),0,0,⟨#[]⟩⟩).toArray) FV rfl) ?_;refine BF (H':=AY C.cb C.c*((A0 nb w1.x*(AB w1.xa.b w1.xa.o w1.cs w1.xa.s*(AB w1.ea.b w1.ea.o w1.rows w1.ea.s*(AB w1.ba.b w1.ba.o w1.AN w1.ba.s*(AB w1.ca.b w1.ca.o w1.cnt w1.ca.s*(AB r.a.b r.a.o r.es r.a.s*(BN E.q E.o*(DW w1 i i k r*H)))))))))) Cf ?_
  refine mE rfl (H7 hG C.cb t C.c ⟨9,(k:Nat),0,0,⟨#[]⟩⟩ ⟨0,-1,(C.c.s.w k).A4,0,⟨#[]⟩,[]⟩ C.c.s (by rw [wJ,hca]) _ (q1.FP C hCm) hci Ca KO Cz) ?_;rintro _ _ ⟨m2,ps,hm2,hs2,hps,rfl,rfl⟩;dsimp only at hs2 hps⊢;refine Af Iv rfl ?_;rintro _ _ ⟨b7,rfl,rfl⟩;refine Bj (Dz (cs:=CQ ⟨0,-1,(C.c.s.w k).A4,0,⟨#[]⟩,[]⟩ (.slice ps.p 0 ps.c)) rfl rfl Ch Ce) ?_;refine E9 ?_;refine Ao (H':=HP.AA b7 0 (CQ ⟨0,-1,(C.c.s.w k).A4,0,⟨#[]⟩,[]⟩ (.slice ps.p 0 ps.c))*(ps.h ([]:List ByteArray)*(A0 nb w1.x*(AB w1.xa.b w1.xa.o w1.cs w1.xa.s*(AB w1.ea.b w1.ea.o w1.rows w1.ea.s*(AB w1.ba.b w1.ba.o w1.AN w1.ba.s*(AB w1.ca.b w1.ca.o w1.cnt w1.ca.s*(AY C.cb m2*(AB r.a.b r.a.o r.es r.a.s*(BN E.q E.o*(DW w1 i i k r*H))))))))))) Cf ?_;refine mA 22 22 ?_;refine IV ?_;refine JT 2 rfl TQ ?_;refine cL ?_;refine Ah 6 rfl Cb rfl rfl rfl rfl BZ ?_;refine Ah 7 rfl Cb rfl rfl rfl rfl CJ ?_
  refine YK ?_;refine Ah 10 rfl Cb rfl rfl rfl rfl (A2 (v':=.bool false) (Dr (i:=(C.c.s.w k).A4) (j:=E.o.AE) rfl rfl) (by rw [decide_eq_false n1])) ?_;refine JT 11 rfl EP ?_;refine Jm 12 ?_;refine Ah 13 rfl Cb rfl rfl rfl rfl BL ?_;refine Ah 14 rfl Cb rfl rfl rfl rfl BX ?_;refine Ah 15 rfl Cb rfl rfl rfl rfl BZ ?_;refine Ah 16 rfl Cb rfl rfl rfl rfl CJ ?_;refine bQ ?_;refine Ah 19 rfl Cb rfl rfl rfl rfl Gg ?_;refine Ah 20 rfl Cb rfl rfl rfl rfl (A2 (v':=.bool false) (F6 (i:=(C.c.s.w k).A4) (j:=(AW E.o.wrote).size) rfl rfl) (by rw [Em,decide_eq_false n2])) ?_;refine JT 21 rfl EP ?_;refine Ei ?_;refine IP ?_;refine J4 ?_
  refine CR (α:=Unit) (fun _=>[(80,.bool false),(7,ptr b7 0),(6,ptr E.q 0),(5,iN k),(0,ptr nb 0),(1,iN i)]) (fun _=>HP.AA b7 0 (CQ ⟨0,-1,(C.c.s.w k).A4,0,⟨#[]⟩,[]⟩ (.slice ps.p 0 ps.c))*(ps.h ([]:List ByteArray)*(A0 nb w1.x*(AB w1.xa.b w1.xa.o w1.cs w1.xa.s*(AB w1.ea.b w1.ea.o w1.rows w1.ea.s*(AB w1.ba.b w1.ba.o w1.AN w1.ba.s*(AB w1.ca.b w1.ca.o w1.cnt w1.ca.s*(AY C.cb m2*(AB r.a.b r.a.o r.es r.a.s*(BN E.q E.o*(DW w1 i i k r*H))))))))))) (fun _=>True) ?_ ?_
  ·refine mA 27 27 ?_;refine IC ?_;refine JT 4 rfl Ku ?_;refine Jm 5 ?_;refine Lc 59 rfl (fun hg1=>?_) (fun hg1=>?_)
   ·refine JY 6 rfl hg1 BZ ?_;refine JY 7 rfl hg1 CJ ?_;refine JY 8 rfl hg1 BL ?_;refine JY 9 rfl hg1 BX ?_;refine JY 10 rfl hg1 (CD (i:=E.o.state) (j:=0) rfl rfl) ?_;refine JT 11 rfl JS ?_;refine Jm 12 ?_;refine GK 66 rfl (fun hg2=>?_) (fun hg2=>?_)
    ·refine JY 13 rfl T2 BL ?_;refine JY 14 rfl T2 BX ?_;refine JY 15 rfl T2 BZ ?_;refine VD ?_;refine JY 20 rfl T2 CJ ?_;refine JY 21 rfl T2 BL ?_;refine JY 22 rfl T2 BL ?_;refine JY 23 rfl T2 BX ?_;refine JY 24 rfl T2 (G7 (i:=E.o.read) (j:=w1.x.AF) rfl rfl Ca) ?_;refine JY 25 rfl T2 (F6 (i:=(C.c.s.w k).A4) (j:=E.o.read+w1.x.AF) rfl rfl) ?_;refine JT 26 rfl Ht ?_;refine JD ?_;exact SJ
    refine JN 13 rfl F2 ?_;refine JN 14 rfl F2 ?_;refine YQ ?_;refine JN 24 rfl F2 ?_;refine JN 25 rfl F2 ?_;refine JT 26 rfl HK ?_;refine JD ?_;exact SJ
   refine Sm ?_;refine JT 11 rfl JC ?_;refine Jm 12 ?_;refine VA ?_;refine JT 26 rfl EP ?_;refine JD ?_;exact SJ
  ·rintro⟨⟩ _;refine J1 ?_;refine IP ?_;refine Gc ?_;refine Es ?_
   have hn9:(w1.put i i k ⟨C.cb,m2⟩ r ⟨E.q,{E.o with AE:=(C.c.s.w k).A4}⟩).n=w1.n.DJ i k {E.o with AE:=(C.c.s.w k).A4}:=by rw [NM.G3 w1 hC hr,hs2,Tt hC]
   exact Bf (Aw nb (w1.put i i k ⟨C.cb,m2⟩ r ⟨E.q,{E.o with AE:=(C.c.s.w k).A4}⟩)*H) (hE:=⟨fun ww hw=>Sat.right (A:=HP.AA b7 0 (CQ ⟨0,-1,(C.c.s.w k).A4,0,⟨#[]⟩,[]⟩ (.slice ps.p 0 ps.c))*ps.h ([]:List ByteArray)) (Eq.mp (by congr 1;rw [Kd nb w1 H hC hr hE];ac_rfl) hw)⟩) (BW ((w1.put i i k ⟨C.cb,m2⟩ r ⟨E.q,{E.o with AE:=(C.c.s.w k).A4}⟩),k+1) ⟨q1.put hC hr hE hm2 _,by show Ak t (w1.put i i k ⟨C.cb,m2⟩ r ⟨E.q,{E.o with AE:=(C.c.s.w k).A4}⟩).n L Rr T;rw [hn9];exact hnx,by show k+1≤4;omega,by
     show(DQ i (k+1) (4-(k+1)) (w1.put i i k ⟨C.cb,m2⟩ r ⟨E.q,{E.o with AE:=(C.c.s.w k).A4}⟩).n).2=_
     rw [hn9,←q4,show 4-k=(4-(k+1))+1 by omega,DQ,if_neg (q2.Qp hi hk),NM.E5 hC,NM.Ih hr hE,hca],q5.trans (.put w1 hr hE _ _)⟩ W8 Du rfl)
 refine Bq ?_
 have hk4:k=4:=by omega
 subst hk4;exact mR [4] (Aw nb w1*H) rfl rfl ⟨rfl,w1,q1,q4,q5,rfl⟩
end
section
variable{B:World}
theorem jG(hG:B.cell? ⟨0,0,none⟩=some (C3 106))(ks:List UInt8)(hk:ks.length=16)(first:Bool)(xs:List UInt8)(p:Option Addr)(b o c:Nat)(H:HP)(hs:Sl p b o xs.length c)(hr:Ab B H b o xs)(hx:xs.length<90000000):
  Fn Tryz.prog B 55 [.agg (AD ks).toArray,.bool first,.slice p xs.length c] H (fun v H'=>∃(a sv:Value) (e:Nat) (G:HP),v=.tuple #[a,sv,iN e]∧(e=0→Bx ks (Ag first) xs≠none)∧(e≠0→Bx ks (Ag first) xs=none)∧H'=G*H):=by
 cases hop:Bx ks (Ag first) xs with
 |none=>
  refine(nO hG ks hk first xs p b o c H hs hr hx hop).mono ?_;refine JR ?_;exact⟨_,_,4,HP.BC,rfl,(fun h=>absurd h Cc),fun _=>rfl,(HP.BH _).symm⟩
 |some z=>
  obtain⟨n,ys⟩:=z;refine(Z1 ks hk first xs n ys p b o c H hs hr hx hop).mono ?_;rintro _ _ ⟨sv,rfl,⟨_,rfl,rfl⟩|⟨_,p',b',o',c',s',rfl,_,_,rfl⟩⟩
  ·exact⟨_,_,0,HP.BC,rfl,(fun _ h=>by cases h),fun h=>absurd rfl h,(HP.BH _).symm⟩
  ·exact⟨_,_,0,_,rfl,(fun _ h=>by cases h),fun h=>absurd rfl h,rfl⟩
set_option maxHeartbeats 8000000 in
theorem Xs(hG:B.cell? ⟨0,0,none⟩=some (C3 106))(nb t i:Nat)(s:ByteArray)(w:NM)(L:Nat→List (List AT))(Rr:Nat→Nat→Prop)(H:HP)(hok:w.ok)(hw:Ak t w.n L Rr BY)(hb:(i,s)∈w.n.AN)(ht:t<800000):
  Fn Tryz.prog B 74 [ptr nb 0,iN i,.string s] (Aw nb w*H) (fun v H'=>v=.bool true∧∃w':NM,w'.ok∧w'.n=(w.n.comes i s).2∧H'=Aw nb w'*H):=by
 refine mI Tryz.func74 ?_;obtain⟨hi,hsz,hrv,R',hx⟩:=hw.recv hb Ca;obtain⟨C,r,E,hC,hr,hE,l1,l2,l3⟩:=hw.mem hi hi TR;have hCm:=A_ hC;have hci:=hw.c i hi;dsimp only at hsz hrv hx;rw [NM.E5 hC]at hrv hx hci
 have hcn:(w.n.comes i s).2=(DQ i 0 4 (w.n.A3 i (C.c.s.A9 s.data.toList).2)).2:=by unfold AM.comes;rw [NM.E5 hC]
 obtain⟨rv,erv⟩:∃rv,rv=(C.c.s.A9 s.data.toList):=Be
 rw [←erv]at hrv hx hcn;refine J6 ?_;refine Ao (H':=A0 nb w.x*(AB w.xa.b w.xa.o w.cs w.xa.s*(AB w.ea.b w.ea.o w.rows w.ea.s*(AB w.ba.b w.ba.o w.AN w.ba.s*(AB w.ca.b w.ca.o w.cnt w.ca.s*(AY C.cb C.c*(AB r.a.b r.a.o r.es r.a.s*(BN E.q E.o*(DW w i i 0 r*H))))))))) (GM nb w H hC hr hE) ?_;refine J4 ?_;refine OQ ?_;refine J1 ?_;refine JL YH ?_;refine BF (H':=AY C.cb C.c*((A0 nb w.x*(AB w.xa.b w.xa.o w.cs w.xa.s*(AB w.ea.b w.ea.o w.rows w.ea.s*(AB w.ba.b w.ba.o w.AN w.ba.s*(AB w.ca.b w.ca.o w.cnt w.ca.s*(AB r.a.b r.a.o r.es r.a.s*(BN E.q E.o*(DW w i i 0 r*H)))))))))) Cf ?_;refine mE rfl (H7 hG C.cb t C.c ⟨6,0,0,0,s⟩ ⟨rv.1.1,rv.1.2,0,0,⟨#[]⟩,[]⟩ rv.2 (by rw [aX,←erv]) _ (hok.FP C hCm) hci Ca (by show s.size<_;omega) Cz) ?_;rintro _ _ ⟨m2,ps,hm2,hs2,hps,rfl,rfl⟩;dsimp only at hs2 hps⊢;refine Af Iv rfl ?_;rintro _ _ ⟨b7,rfl,rfl⟩
 refine Bj (Dz (cs:=CQ ⟨rv.1.1,rv.1.2,0,0,⟨#[]⟩,[]⟩ (.slice ps.p 0 ps.c)) rfl rfl Ch Ce) ?_;refine Fs ?_
 have hn9:(w.put i i 0 ⟨C.cb,m2⟩ r ⟨E.q,E.o⟩).n=w.n.A3 i rv.2:=by rw [NM.G3 w hC hr,hs2];exact Jq hr hE _
 refine Ao (H':=Aw nb (w.put i i 0 ⟨C.cb,m2⟩ r ⟨E.q,E.o⟩)*(HP.AA b7 0 (CQ ⟨rv.1.1,rv.1.2,0,0,⟨#[]⟩,[]⟩ (.slice ps.p 0 ps.c))*(ps.h ([]:List ByteArray)*H))) Tm ?_;refine J3 ?_;refine mE rfl (Zo hG nb t i (w.put i i 0 ⟨C.cb,m2⟩ r ⟨E.q,E.o⟩) L _ BY _ (hok.put hC hr hE hm2 _) (by rw [hn9];exact hx) hi Ca) ?_;rintro _ _ ⟨rfl,w2,hok2,hn2,_,rfl⟩;rw [hn9,←hcn]at hn2;refine J7 ?_;refine Fu ?_;refine KV ?_;refine JL nV ?_;refine Fu ?_;refine J1 ?_;refine D8 27 rfl (fun hg1=>?_) (fun hg1=>?_)
 ·refine LL ?_;refine JH T1 ?_;refine Fu ?_;refine JL Fd ?_;refine JL G2 ?_;refine J4 ?_;exact bO
 refine N3 ?_;refine JL (CD (i:=rv.1.1) (j:=6) rfl rfl) ?_;refine Fu ?_;refine JL Ec ?_;refine JL G2 ?_;refine J4 ?_;exact bO
set_option maxHeartbeats 8000000 in
theorem Rf(hG:B.cell? ⟨0,0,none⟩=some (C3 106))(nb t i:Nat)(s:ByteArray)(w:NM)(L:Nat→List (List AT))(Rr:Nat→Nat→Prop)(H:HP)(hok:w.ok)(hw:Ak t w.n L Rr BY)(hi:i<2)(hs:s.size<90000000)(ht:t<800000):
  Fn Tryz.prog B 72 [ptr nb 0,iN i,.string s] (Aw nb w*H) (fun v H'=>v=.bool true∧∃w':NM,w'.ok∧w'.n=(w.n.Ee i s.data.toList).2∧H'=Aw nb w'*H):=by
 refine mI Tryz.func72 ?_;obtain⟨C,r,E,hC,hr,hE,l1,l2,l3⟩:=hw.mem hi hi TR;have hCm:=A_ hC;have hci:=hw.c i hi;rw [NM.E5 hC]at hci;refine J6 ?_;refine Y4 ?_;refine J4 ?_;refine JL (Di (l:=AD w.x.ks) rfl (F7 hok.ks)) ?_;refine J1 ?_;refine JL (GE (i:=i) (j:=0) rfl rfl) ?_;refine J1 ?_;refine Af (Td rfl) rfl ?_;rintro _ _ ⟨p19,b19,o19,c19,s19,rfl,hs19,hc19,rfl⟩;refine mE rfl (jG hG w.x.ks hok.ks (decide (i≠0)) s.data.toList p19 b19 o19 c19 _ hs19 inferInstance (by rw [Array.length_toList];exact hs)) ?_;rintro _ _ ⟨a20,sv20,e20,G,rfl,hy,hn,rfl⟩;refine Eu ?_;refine JL (CD (i:=e20) (j:=0) rfl rfl) ?_;refine J2 ?_;refine mC (fun h25=>?_) (fun h25=>?_)
 ·skip
  have hf:w.n.Ee i s.data.toList=(true,w.n):=by
   have h7:=hy h25;unfold AM.Ee;show(match Bx w.x.ks _ _ with|some _=>_|none=>_)=_;split
   ·rfl
   ·rename_i h8;exact absurd h8 h7
  refine J7 ?_;exact mR [6] (Aw nb w*H) (hE:=⟨fun ww hw=>Sat.right (A:=G*AB b19 o19 s.data.toList s19) (Eq.mp (by congr 1;rw [GM nb w H hC hr hE];ac_rfl) hw)⟩) rfl rfl ⟨rfl,w,hok,by rw [hf],rfl⟩
 have h7:=hn h25;have h8:=hw.YS hi h7
 have hf:w.n.Ee i s.data.toList=(true,w.n.A3 i (w.n.x i)):=by
  unfold AM.Ee;rw [show Bx w.n.ks (Ag (decide (i≠0))) s.data.toList=none from h7,h8];rfl
 rw [NM.E5 hC]at h8 hf;refine J7 ?_;refine OQ ?_;refine J1 ?_;refine JL YH ?_;refine BF (H':=AY C.cb C.c*(G*AB b19 o19 s.data.toList s19*(A0 nb w.x*(AB w.xa.b w.xa.o w.cs w.xa.s*(AB w.ea.b w.ea.o w.rows w.ea.s*(AB w.ba.b w.ba.o w.AN w.ba.s*(AB w.ca.b w.ca.o w.cnt w.ca.s*(AB r.a.b r.a.o r.es r.a.s*(BN E.q E.o*(DW w i i 0 r*H)))))))))) Cf ?_;refine mE rfl (H7 hG C.cb t C.c ⟨6,0,0,0,s⟩ ⟨4,-1,0,0,⟨#[]⟩,[]⟩ C.c.s (by rw [aX,h8]) _ (hok.FP C hCm) hci Ca hs Cz) ?_;rintro _ _ ⟨m2,ps,hm2,hs2,hps,rfl,rfl⟩;dsimp only at hs2 hps⊢;refine Af Iv rfl ?_;rintro _ _ ⟨b10,rfl,rfl⟩;refine Bj (Dz (cs:=CQ ⟨4,-1,0,0,⟨#[]⟩,[]⟩ (.slice ps.p 0 ps.c)) rfl rfl Ch Ce) ?_;refine IE ?_;refine JL (CD (i:=4) (j:=4) rfl rfl) ?_;refine J4 ?_
 exact mR [6] (Aw nb (w.put i i 0 ⟨C.cb,m2⟩ r ⟨E.q,E.o⟩)*H) (hE:=⟨fun ww hw=>Sat.right (A:=HP.AA b10 0 (CQ ⟨4,-1,0,0,⟨#[]⟩,[]⟩ (.slice ps.p 0 ps.c))*(ps.h ([]:List ByteArray)*(G*AB b19 o19 s.data.toList s19))) (Eq.mp ZU hw)⟩) rfl rfl ⟨rfl,(w.put i i 0 ⟨C.cb,m2⟩ r ⟨E.q,E.o⟩),hok.put hC hr hE hm2 _,by rw [hf,NM.G3 w hC hr,hs2];exact Jq hr hE _,rfl⟩
set_option maxHeartbeats 8000000 in
theorem XX(hG:B.cell? ⟨0,0,none⟩=some (C3 106))(nb t i k AL:Nat)(w:NM)(L:Nat→List (List AT))(Rr:Nat→Nat→Prop)(H:HP)(hok:w.ok)(hw:Ak t w.n L Rr BY)(hi:i<2)(hk:k<4)(hm:AL<1000000)(ht:t<800000):
  Fn Tryz.prog B 71 [ptr nb 0,iN i,iN k,iN AL] (Aw nb w*H) (fun v H'=>v=.bool true∧∃w':NM,w'.ok∧w'.n=(w.n.read i k AL).2∧H'=Aw nb w'*H):=by
 refine mI Tryz.func71 ?_;obtain⟨C,r,E,hC,hr,hE,l1,l2,l3⟩:=hw.mem (i:=i) (j:=1-i) hi Ca hk;have hCm:=A_ hC;have hci:=hw.c i hi;have hrd:=(hw.reads hi hk AL).1;have hrn:=V4 w.n i k AL hrd;rw [NM.E5 hC,NM.Ih hr hE]at hrd;rw [NM.E5 hC,NM.Ih hr hE]at hrn;rw [NM.E5 hC]at hci
 have hwr:E.o.wrote.length≤4096:=(by
  have o:=hw.e (1-i) k Ca hk
  have h7:=((hw.c (1-i) Ca).ws.ok k hk).len
  have h8:=congrArg F? o.wrote
  rw [NM.Ih hr hE,E!]at h8
  have h7:((w.n.x (1-i)).w k).b.length≤4096:=h7
  omega)
 obtain⟨rv,erv⟩:∃rv,rv=(C.c.s.read (k:Nat) (AL:Nat)):=Be
 rw [←erv]at hrd hrn;have f1:=hrd.e;have f2:=hrd.len;have f3:=hrd.fits;have f4:=hrd.data;have f5:=hrd.shut;have f6:=hrd.open_;have f7:=hrd.fin;have f8:=hrd.CU;have f9:=hrd.st;refine J6 ?_;refine Ao (H':=A0 nb w.x*(AB w.xa.b w.xa.o w.cs w.xa.s*(AB w.ea.b w.ea.o w.rows w.ea.s*(AB w.ba.b w.ba.o w.AN w.ba.s*(AB w.ca.b w.ca.o w.cnt w.ca.s*(AY C.cb C.c*(AB r.a.b r.a.o r.es r.a.s*(BN E.q E.o*(DW w i (1-i) k r*H))))))))) (GM nb w H hC hr hE) ?_;refine J4 ?_;refine JL Xw ?_;refine J1 ?_;refine JL (II (i:=1) (j:=i) rfl rfl Ca) ?_;refine JL (DG (i:=1-i) rfl rfl hok.ea.1 Ca) ?_;refine JL XP ?_;refine J1 ?_;refine JL (DG (i:=k) rfl rfl (hok.ra r QD).1 Ca) ?_;refine JL PR ?_;refine J8 ?_;refine OQ ?_;refine J2 ?_;refine JL (A2 (v':=.agg (De ⟨7,(k:Nat),(AL:Nat),0,⟨#[]⟩⟩).toArray) FV rfl) ?_
 refine BF (H':=AY C.cb C.c*((A0 nb w.x*(AB w.xa.b w.xa.o w.cs w.xa.s*(AB w.ea.b w.ea.o w.rows w.ea.s*(AB w.ba.b w.ba.o w.AN w.ba.s*(AB w.ca.b w.ca.o w.cnt w.ca.s*(AB r.a.b r.a.o r.es r.a.s*(BN E.q E.o*(DW w i (1-i) k r*H)))))))))) Cf ?_;refine mE rfl (H7 hG C.cb t C.c ⟨7,(k:Nat),(AL:Nat),0,⟨#[]⟩⟩ ⟨rv.1.2.2.2,-1,rv.1.2.1,rv.1.2.2.1,AW rv.1.1,[]⟩ rv.2 (by rw [oA,←erv]) _ (hok.FP C hCm) hci Ca KO (by show((AL:Nat):Int)<_;omega)) ?_;rintro _ _ ⟨m2,ps,hm2,hs2,hps,rfl,rfl⟩;dsimp only at hs2 hps⊢;refine Af Iv rfl ?_;rintro _ _ ⟨b10,rfl,rfl⟩;refine Bj (Dz (cs:=CQ ⟨rv.1.2.2.2,-1,rv.1.2.1,rv.1.2.2.1,AW rv.1.1,[]⟩ (.slice ps.p 0 ps.c)) rfl rfl Ch Ce) ?_;refine E9 ?_;refine Yt ?_
 refine CR (α:=Unit) (fun _=>[(101,.bool false),(10,ptr b10 0),(9,ptr E.q 0)]) (fun _=>HP.AA b10 0 (CQ ⟨rv.1.2.2.2,-1,rv.1.2.1,rv.1.2.2.1,AW rv.1.1,[]⟩ (.slice ps.p 0 ps.c))*(ps.h ([]:List ByteArray)*(A0 nb w.x*(AB w.xa.b w.xa.o w.cs w.xa.s*(AB w.ea.b w.ea.o w.rows w.ea.s*(AB w.ba.b w.ba.o w.AN w.ba.s*(AB w.ca.b w.ca.o w.cnt w.ca.s*(AY C.cb m2*(AB r.a.b r.a.o r.es r.a.s*(BN E.q E.o*(DW w i (1-i) k r*H))))))))))) (fun _=>True) ?_ ?_
 ·refine Yt ?_;refine mA 69 69 ?_;refine IV ?_;refine JT 2 rfl (A2 (v':=.bool false) (GE (i:=rv.1.2.2.2) (j:=0) rfl rfl) Nj) ?_;refine cL ?_;refine Ah 6 rfl Cb rfl rfl rfl rfl Gg ?_;refine Ah 7 rfl Cb rfl rfl rfl rfl BZ ?_;refine Ah 8 rfl Cb rfl rfl rfl rfl (A2 (v':=.bool false) (F6 (i:=(AW rv.1.1).size) (j:=AL) rfl rfl) U2) ?_;refine JT 9 rfl EP ?_;refine Jm 10 ?_;refine Ah 11 rfl Cb rfl rfl rfl rfl BL ?_;refine Ah 12 rfl Cb rfl rfl rfl rfl BX ?_;refine Ah 13 rfl Cb rfl rfl rfl rfl Gg ?_;refine Ah 14 rfl Cb rfl rfl rfl rfl BZ ?_
  refine Ah 15 rfl Cb rfl rfl rfl rfl CJ ?_;refine Ah 16 rfl Cb rfl rfl rfl rfl BL ?_;refine Ah 17 rfl Cb rfl rfl rfl rfl BX ?_;refine Ah 18 rfl Cb rfl rfl rfl rfl Gg ?_;refine Ah 19 rfl Cb rfl rfl rfl rfl BZ ?_;refine Ah 20 rfl Cb rfl rfl rfl rfl CJ ?_;refine Ah 21 rfl Cb rfl rfl rfl rfl BL ?_;refine Ah 22 rfl Cb rfl rfl rfl rfl BX ?_;refine Ah 23 rfl Cb rfl rfl rfl rfl (II (i:=(AW E.o.wrote).size) (j:=E.o.read) rfl rfl Ko) ?_;refine Ah 24 rfl Cb rfl rfl rfl rfl (A2 (v':=.bool false) (F6 (i:=(AW rv.1.1).size) (j:=(AW E.o.wrote).size-E.o.read) rfl rfl) (by rw [Em,Em,decide_eq_false Ca])) ?_;refine JT 25 rfl EP ?_;refine Jm 26 ?_;refine Ah 27 rfl Cb rfl rfl rfl rfl BZ ?_;refine Ah 28 rfl Cb rfl rfl rfl rfl CJ ?_;refine Ah 29 rfl Cb rfl rfl rfl rfl BL ?_;refine Ah 30 rfl Cb rfl rfl rfl rfl BX ?_;refine Ah 31 rfl Cb rfl rfl rfl rfl BZ ?_;refine Ah 32 rfl Cb rfl rfl rfl rfl CJ ?_
  refine Ah 33 rfl Cb rfl rfl rfl rfl BL ?_;refine Ah 34 rfl Cb rfl rfl rfl rfl BX ?_;refine Ah 35 rfl Cb rfl rfl rfl rfl BZ ?_;refine Ah 36 rfl Cb rfl rfl rfl rfl CJ ?_;refine U6 ?_;refine Ah 39 rfl Cb rfl rfl rfl rfl BL ?_;refine Ah 40 rfl Cb rfl rfl rfl rfl BX ?_;refine Ah 41 rfl Cb rfl rfl rfl rfl Gg ?_;refine Ah 42 rfl Cb rfl rfl rfl rfl U8 ?_;refine Ah 43 rfl Cb rfl rfl rfl rfl (A2 (v':=.string (AW rv.1.1)) (Y0 (l:=E.o.read) (h:=E.o.read+(AW rv.1.1).size) rfl rfl rfl (by rw [Em,Em];omega)) (by rw [P9 _ _ _ Ko,Em,List.drop_take,Nat.add_sub_cancel_left,f4])) ?_;refine Ah 44 rfl Cb rfl rfl rfl rfl BL ?_;refine Ah 45 rfl Cb rfl rfl rfl rfl BX ?_;refine Ah 46 rfl Cb rfl rfl rfl rfl (A2 (v':=.bool false) (Rg rfl rfl) (by rw [decide_eq_false (fun x=>x rfl)])) ?_;refine JT 47 rfl EP ?_
  refine Jm 48 ?_;refine Ah 49 rfl Cb rfl rfl rfl rfl BZ ?_;refine Ah 50 rfl Cb rfl rfl rfl rfl CJ ?_;refine Ah 51 rfl Cb rfl rfl rfl rfl BL ?_;refine Ah 52 rfl Cb rfl rfl rfl rfl BX ?_;refine Ah 53 rfl Cb rfl rfl rfl rfl (GE (i:=E.o.state) (j:=0) rfl rfl) ?_;refine Ah 54 rfl Cb rfl rfl rfl rfl BZ ?_;refine GK 87 rfl (fun hg1=>?_) (fun hg1=>?_)
  ·obtain⟨f51,f52⟩:=f5 hg1;refine JY 55 rfl T1 BL ?_;refine JY 56 rfl T1 BX ?_;refine JY 57 rfl T1 (A2 (v':=.bool false) (Rg rfl rfl) (by rw [f51,decide_eq_false (fun x=>x rfl)])) ?_;refine JY 58 rfl T1 BZ ?_;refine Ah 59 rfl Cb rfl rfl rfl rfl BL ?_;refine Ah 60 rfl Cb rfl rfl rfl rfl BX ?_;refine Ah 61 rfl Cb rfl rfl rfl rfl BZ ?_;refine Ah 62 rfl Cb rfl rfl rfl rfl CJ ?_;refine Ah 63 rfl Cb rfl rfl rfl rfl BL ?_;refine Ah 64 rfl Cb rfl rfl rfl rfl BX ?_;refine Ah 65 rfl Cb rfl rfl rfl rfl (A2 (v':=.bool false) (GE (i:=rv.1.2.1) (j:=E.o.state) rfl rfl) (by rw [decide_eq_false (fun x=>x f52)])) ?_;refine JY 66 rfl T1 EP ?_;refine Ah 67 rfl Cb rfl rfl rfl rfl Fd ?_;refine JT 68 rfl EP ?_;refine JD ?_;exact A8 () trivial Du rfl
  refine JN 55 rfl F1 ?_;refine JN 56 rfl F1 ?_;refine JN 57 rfl F1 ?_;refine JN 58 rfl F1 ?_;refine JU 59 ?_;refine JU 60 ?_;refine JU 61 ?_;refine JU 62 ?_;refine JU 63 ?_;refine JU 64 ?_;refine JU 65 ?_;refine JN 66 rfl F1 ?_;refine Ah 67 rfl Cb rfl rfl rfl rfl Ec ?_;refine JT 68 rfl EP ?_;refine JD ?_;exact A8 () trivial Du rfl
 ·rintro⟨⟩ _;refine J1 ?_;refine IP ?_;refine J3 ?_;refine mA 11 12 ?_;refine LY ?_;refine Jf 5 ?_;refine Jd 6 ?_;refine JT 7 rfl Gg ?_;refine JT 8 rfl U8 ?_;refine Jn 9 ?_;refine Jf 10 ?_;refine Db 11 Cb rfl (EY (v:=iN (E.o.read+rv.1.1.length)) rfl (by rw [←Em rv.1.1];rfl) rfl Cd) ?_;refine DF ?_;refine J8 ?_;refine Bj (EY (v:=iN rv.1.2.1) rfl rfl rfl Cd) ?_;refine JR ?_;refine DH ?_;refine JL (CD (i:=rv.1.2.1) (j:=0) rfl rfl) ?_;refine J3 ?_;refine mC (fun h0=>?_) (fun h0=>?_)
  ·refine J4 ?_;refine JL Za ?_;refine J6 ?_;exact mR [8] (Aw nb (w.put i (1-i) k ⟨C.cb,m2⟩ r ⟨E.q,{E.o with read:=E.o.read+rv.1.1.length,state:=rv.1.2.1}⟩)*H) (hE:=bU) rfl rfl ⟨congrArg Value.bool (decide_eq_true (f6 h0)),(w.put i (1-i) k ⟨C.cb,m2⟩ r ⟨E.q,{E.o with read:=E.o.read+rv.1.1.length,state:=rv.1.2.1}⟩),hok.put hC hr hE hm2 _,WI,rfl⟩
  refine J2 ?_;refine JL (CD (i:=rv.1.2.1) (j:=1) rfl rfl) ?_;refine J3 ?_;refine mC (fun h1=>?_) (fun h1=>?_)
  ·obtain⟨g1,g2,g3⟩:=f7 h1;refine J1 ?_;refine mA 22 22 ?_;refine MJ ?_;refine Ah 5 rfl Cb rfl rfl rfl g1 BZ ?_;refine Ah 6 rfl Cb rfl rfl rfl g1 CJ ?_;refine Ah 7 rfl Cb rfl rfl rfl g1 BL ?_;refine Ah 8 rfl Cb rfl rfl rfl g1 BX ?_;refine Ah 9 rfl Cb rfl rfl rfl g1 BZ ?_;refine Ah 10 rfl Cb rfl rfl rfl g1 CJ ?_;refine Ah 11 rfl Cb rfl rfl rfl g1 BL ?_;refine Ah 12 rfl Cb rfl rfl rfl g1 BX ?_;refine Ah 13 rfl Cb rfl rfl rfl g1 Gg ?_;refine Ah 14 rfl Cb rfl rfl rfl g1 (A2 (v':=.bool true) (CD (i:=E.o.read+rv.1.1.length) (j:=(AW E.o.wrote).size) rfl rfl) (by rw [Em,decide_eq_true g2])) ?_;refine JT 15 rfl (Fy g1 rfl rfl) ?_;refine Jm 16 ?_;refine bQ ?_;refine Ah 19 rfl Cb rfl rfl rfl rfl (A2 (v':=.bool true) Za (by rw [decide_eq_true g3])) ?_;refine JT 20 rfl G2 ?_;refine Ja 21 ?_;refine Kf ?_
   exact YL
  refine J2 ?_;refine JL (CD (i:=rv.1.2.1) (j:=2) rfl rfl) ?_;refine J3 ?_;refine mC (fun h2=>?_) (fun h2=>?_)
  ·obtain⟨g1,g2⟩:=f8 h2;refine J1 ?_;refine mA 14 14 ?_;refine MJ ?_;refine Ah 5 rfl Cb rfl rfl rfl g1 BL ?_;refine Ah 6 rfl Cb rfl rfl rfl g1 BX ?_;refine Ah 7 rfl Cb rfl rfl rfl g1 BZ ?_;refine Ah 8 rfl Cb rfl rfl rfl g1 CJ ?_;refine Ah 9 rfl Cb rfl rfl rfl g1 BL ?_;refine Ah 10 rfl Cb rfl rfl rfl g1 BX ?_;refine Ah 11 rfl Cb rfl rfl rfl g1 (A2 (v':=.bool true) (CD (i:=rv.1.2.2.1) (j:=E.o.code) rfl rfl) (by rw [decide_eq_true g2])) ?_;refine JT 12 rfl (Fy g1 rfl rfl) ?_;refine Ja 13 ?_;refine Kf ?_;exact YL
  exfalso;omega
end
section
structure It(n:AM):Prop where
 xl:n.xs.length=2
 el:n.ends.length=2
 D7:∀i,i<2→(n.ends.getD i []).length=4
 cl:n.count.length=2
theorem Ak.len{t:Nat}{n:AM}{L:Nat→List (List AT)}{R:Nat→Nat→Prop}{T:Nat→Nat→List UInt8}(h:Ak t n L R T):It n:=⟨h.xl,h.el,h.D7,h.cl⟩
theorem It.A3{n:AM}(h:It n)(i:Nat)(c:AG):It (n.A3 i c):=⟨by show(n.xs.set _ _).length=2;rw [G_];exact h.xl,h.el,h.D7,h.cl⟩
structure Mp(t:Nat)(n:AM)(i:Nat)(Ls:List (List AT)):Prop where
 len:It n
 c:AZ t (n.x i)
 p:(n.x i).A6.1=outs n.ks (Ag (decide (i=0))) (n.cnt i) Ls
 AI:n.AI≤300
 Ub:n.cnt i+Ls.length≤4611686018427387903
 fs:∀fs∈Ls,fs≠ []∧(Av fs).length+16≤n.AI
 bl:n.AN.length+Ls.length<90000000
 ks:n.ks.length=16
structure Jz(n0:AM)(i:Nat)(Ls:List (List AT))(n:AM)(j:Nat):Prop where
 len:It n
 ks:n.ks=n0.ks
 AI:n.AI=n0.AI
 cnt:n.cnt i=n0.cnt i+j
 le:j≤Ls.length
 bl:n.AN.length=n0.AN.length+j
 rest:IX i (outs n0.ks (Ag (decide (i=0))) (n0.cnt i+j) (Ls.drop j)) n=n0.flush i
theorem Ak.RS{t:Nat}{n:AM}{L:Nat→List (List AT)}{R:Nat→Nat→Prop}(h:Ak t n L R BY){i:Nat}(hi:i<2)(ht:t≤1000000):∃Ls,Mp t n i Ls:=by
 obtain⟨Ls,a,b,c,d⟩:=h.UQ hi;have h0:=(h.c 0 Ca).nx;have h1:=(h.c 1 Ca).nx;have l0:=(h.at (i:=0) Ca).s.len;have l1:=(h.at (i:=1) Ca).s.len;have hb:=h.bl;refine⟨Ls,h.len,h.c i hi,by rw [h.cnt i hi];exact a,b,by rw [h.cnt i hi];omega,d,?_,by rw [←h.ks i hi];exact(h.c i hi).ks⟩;rcases IU hi with rfl|rfl<;>omega
theorem Mp.begin{t:Nat}{n:AM}{i:Nat}{Ls:List (List AT)}(h:Mp t n i Ls):Jz n i Ls (n.A3 i (n.x i).A6.2) 0:=
 ⟨h.len.A3 _ _,rfl,rfl,rfl,C! _,rfl,by unfold AM.flush;rw [h.p];rfl⟩
theorem Jz.step{t:Nat}{n0:AM}{i:Nat}{Ls:List (List AT)}(h0:Mp t n0 i Ls)(hi:i<2){n:AM}{j:Nat}(h:Jz n0 i Ls n j){fs:List AT}(hj:Ls[j]?=some fs){p:List UInt8}(hp:p=Bv n0.ks (Ag (decide (i=0))) (B? (n0.cnt i+j)) (Av fs)):
  Bx n0.ks (Ag (decide (i=0))) p=some (B? (n0.cnt i+j),Av fs)∧Av fs≠ []∧p.length≤n0.AI∧Jz n0 i Ls {n with count:=n.count.set i (n0.cnt i+j+1),AN:=n.AN++[(1-i,AW p)]} (j+1):=by
 obtain⟨hlt,hfs⟩:=A?.1 hj;have hmem:fs∈Ls:=A_ hj;have hb:=h0.Ub;obtain⟨a,b,c⟩:=mU (i:=i) h0.AI n fs (Ls.drop (j+1)) (n0.cnt i+j) h.cnt h.AI Ca (h0.fs fs hmem);rw [h.ks,←hp]at a c
 have hd:Ls.drop j=fs::Ls.drop (j+1):=by rw [D! hlt,hfs]
 have hr:=h.rest;rw [hd,c]at hr;refine⟨a,b,by rw [hp,Nl];have:=(h0.fs fs hmem).2;omega,⟨h.len.xl,h.len.el,h.len.D7,?_⟩,h.ks,h.AI,?_,Ca,?_,?_⟩
 ·show(n.count.set i _).length=2;rw [G_];exact h.len.cl
 ·show(n.count.set i _).getD i 0=_;rw [DN,if_pos ⟨rfl,by rw [h.len.cl];exact hi⟩];rfl
 ·show(n.AN++_).length=_;rw [A!,h.bl];rfl
 ·rw [←h.ks]at hr⊢;exact hr
theorem Jz.done{n0:AM}{i:Nat}{Ls:List (List AT)}{n:AM}(h:Jz n0 i Ls n Ls.length):(true,n)=n0.flush i:=by
 have hr:=h.rest;rw [F_]at hr;exact hr
theorem oP{n:AM}{i:Nat}(hi:i<n.xs.length):n.A3 i (n.x i)=n:=by
 unfold AM.A3 AM.x;rw [List.getD_eq_getElem?_getD,List.getElem?_eq_getElem hi,Option.getD_some,List.set_getElem_self]
section
variable{t:Nat}{n:AM}{L:Nat→List (List AT)}{R:Nat→Nat→Prop}
theorem Ak.iK(h:Ak t n L R BY){i k:Nat}(hi:i<2)(hk:k<4)(s:ByteArray)(hf:(n.e i k).finished=true∨(n.e i k).given=true):
  (n.x i).write (k:Int) s.data.toList=((0,3),n.x i)∧(n.wr i k s).2=n:=by
 have o:=h.e i k hi hk;have hE:=QW (h.at hi).o hk
 have e:(n.x i).write (k:Int) s.data.toList=((0,3),n.x i):=by
  have hf2:=hf;unfold AG.write;rw [o.finished,o.given]at hf2;rw [hE,if_pos hf2];rfl
 refine⟨e,?_⟩;unfold AM.wr;dsimp only;rw [if_pos hf,e];exact oP (by rw [h.xl];exact hi)
theorem Ak.WY(h:Ak t n L R BY){i k:Nat}(hi:i<2)(hk:k<4)(s:ByteArray)(hf:¬((n.e i k).finished=true∨(n.e i k).given=true)):
  ((n.x i).write (k:Int) s.data.toList).1.2=0∧((n.x i).write (k:Int) s.data.toList).1.1≤s.size∧∃T',Ak t (n.A3 i ((n.x i).write (k:Int) s.data.toList).2) L R T':=by
 have h2:=h.at hi;have o:=h.e i k hi hk;have hc:=h.c i hi;have hE:=QW h2.o hk
 have e0:(n.x i).D3 (k:Int)=0:=by
  rw [o.finished,o.given]at hf;rw [hE,if_neg hf]
 have g:=Dx.write hc (k:Int) s.data.toList;have hc':=hc.write (k:Int) s.data.toList
 have e:(n.x i).write (k:Int) s.data.toList=(((n.x i).GT k s.size,0),(n.x i).Bp k {(n.x i).w k with b:=((n.x i).w k).b++s.data.toList.take ((n.x i).GT k s.size)}):=by
  unfold AG.write;rw [if_neg (by rw [e0];simp)];rfl
 rw [e]at g hc'⊢;generalize hN:(n.x i).GT k s.size=N at g hc'⊢;dsimp only at g hc'⊢
 have hNle:N≤s.size∧N≤(n.x i).AF-(((n.x i).w k).b.length-((n.x i).w k).A4):=by
  unfold AG.GT at hN;omega
 have hwk:=Le hc k k {(n.x i).w k with b:=((n.x i).w k).b++s.data.toList.take N} hk;rw [if_pos rfl]at hwk;have w0:CW _ ((n.x i).w k):=hc.ws.ok k hk;have w1:=hc'.ws.ok k hk
 have w1':CW (n.x i).AF {(n.x i).w k with b:=((n.x i).w k).b++s.data.toList.take N}:=by rw [←hwk];exact w1
 obtain⟨p1,p2⟩:=Vr w0 w1' rfl PE
 have hwl:(n.e i k).wrote.length=((n.x i).w k).b.length:=by have:=congrArg F? o.wrote;rw [E!]at this;exact this.symm
 refine⟨rfl,hNle.1,fun j m=>if j=i∧m=k then s.data.toList.take N else [],?_⟩;refine h.Gl hi M2 hc' g rfl h.el h.D7 IM (fun m hm=>?_) (fun m hm=>⟨rfl,by rw [if_neg Ca]⟩);show IF _ _ (n.e i m) _;rw [Le hc k m _ hk];by_cases e2:k=m
 ·subst e2;rw [if_pos rfl,if_pos Ba];exact⟨YC,by rw [hwl];exact p2,o.finished,o.given,o.code,o.read,o.state,G? o.AE p1⟩
 ·rw [if_neg e2,if_neg (fun x=>e2 x.2.symm)];exact h.e i m hi hm
theorem Ak.jZ(h:Ak t n L R BY){i k:Nat}(hi:i<2)(hk:k<4)(s:ByteArray)(hf:¬((n.e i k).finished=true∨(n.e i k).given=true)){z:AM}(hz:z=(Go.Proofs.YtgfdlpcdjklcoaaGreatDoor.DQ i 0 4 (n.A3 i ((n.x i).write (k:Int) s.data.toList).2)).2){N:Nat}(hN:N=((n.x i).write (k:Int) s.data.toList).1.1):
  (z.e i k).wrote.length+N≤z.AF+(z.e i k).AE∧(z.e i k).AE≤(z.e i k).wrote.length+N∧(z.e i k).wrote.length≤4096∧(n.wr i k s).2=z.DJ i k {z.e i k with wrote:=(z.e i k).wrote++s.data.toList.take N}:=by
 have h1:=(h.wr hi hk s).1;obtain⟨a,b,T',hT⟩:=h.WY hi hk s hf;obtain⟨c1,c2,c3,c4,c5,c6⟩:=Ak.DQ hi 4 0 _ hT C8;have ce:=c4 i k;rw [if_pos ⟨rfl,C! _,Ca⟩]at ce;have o:=c2.e i k hi hk;unfold AM.wr at h1⊢;dsimp only at h1⊢;rw [if_neg hf]at h1⊢;subst hz hN;split at h1
 ·cases h1
 ·rename_i hc;rw [if_neg hc];have hwk:(((Go.Proofs.YtgfdlpcdjklcoaaGreatDoor.DQ i 0 4 (n.A3 i ((n.x i).write (k:Int) s.data.toList).2)).2.x i).w k).b.length≤4096:=((c2.c i hi).ws.ok k hk).len;have o3:=congrArg F? o.wrote;rw [A!]at o3;have o4:=o.pre;have o5:=o.AE;refine⟨?_,Ca,Ca,rfl⟩;have h9:¬n.AF+((Go.Proofs.YtgfdlpcdjklcoaaGreatDoor.DQ i 0 4 (n.A3 i ((n.x i).write (k:Int) s.data.toList).2)).2.e i k).AE<((Go.Proofs.YtgfdlpcdjklcoaaGreatDoor.DQ i 0 4 (n.A3 i ((n.x i).write (k:Int) s.data.toList).2)).2.e i k).wrote.length+((n.x i).write (k:Int) s.data.toList).1.1:=fun x=>hc (.inr (.inr (.inr x)));have h8:(Go.Proofs.YtgfdlpcdjklcoaaGreatDoor.DQ i 0 4 (n.A3 i ((n.x i).write (k:Int) s.data.toList).2)).2.AF=n.AF:=c5;omega
theorem Ak.dA(h:Ak t n L R BY){i k:Nat}(hi:i<2)(hk:k<4):
  (((n.e i k).finished=true∨(n.e i k).given=true)→((n.x i).finish k).1=3∧(n.fin i k).2=n.A3 i ((n.x i).finish k).2)∧
  (¬((n.e i k).finished=true∨(n.e i k).given=true)→((n.x i).finish k).1=0∧(n.fin i k).2=(n.A3 i ((n.x i).finish k).2).DJ i k {n.e i k with finished:=true}):=by
 have h1:=(h.fin hi hk).1;unfold AM.fin at h1⊢;dsimp only at h1⊢;refine⟨fun hf=>?_,fun hf=>?_⟩
 ·rw [if_pos hf]at h1⊢;exact⟨of_decide_eq_true h1,rfl⟩
 ·rw [if_neg hf]at h1⊢;exact⟨of_decide_eq_true h1,rfl⟩
theorem Ak.uD(h:Ak t n L R BY){i k x:Nat}(hi:i<2)(hk:k<4)(hx:x<1000):
  ((n.e i k).given=true→((n.x i).giveUp k x).1=3∧(n.CU i k x).2=n.A3 i ((n.x i).giveUp k x).2)∧
  ((n.e i k).given=false→((n.x i).giveUp k x).1=0∧(n.CU i k x).2=(n.A3 i ((n.x i).giveUp k x).2).DJ i k {n.e i k with given:=true,code:=x}):=by
 have h1:=(h.CU hi hk hx).1;unfold AM.CU at h1⊢;dsimp only at h1⊢;refine⟨fun hf=>?_,fun hf=>?_⟩
 ·rw [if_pos hf]at h1⊢;exact⟨of_decide_eq_true h1,rfl⟩
 ·rw [if_neg (by rw [hf];decide)]at h1⊢;exact⟨of_decide_eq_true h1,rfl⟩
end
end
section
variable{B:World}
theorem It.mem{w:NM}(h:It w.n){i j k:Nat}(hi:i<2)(hj:j<2)(hk:k<4):
  ∃C r E,w.cs[i]?=some C∧w.rows[j]?=some r∧r.es[k]?=some E∧w.cs.length=2∧w.rows.length=2∧r.es.length=4∧w.cnt.length=2:=by
 have l1:w.cs.length=2:=by have:=h.xl;unfold NM.n at this;simpa using this
 have l2:w.rows.length=2:=by have:=h.el;unfold NM.n at this;simpa using this
 have l4:w.cnt.length=2:=by have:=h.cl;unfold NM.n at this;simpa using this
 obtain⟨C,hC⟩:=Hp l1 hi;obtain⟨r,hr⟩:=Hp l2 hj;have e:w.n.ends.getD j []=r.es.map (·.o):=getD_some (by show(w.rows.map _)[j]?=_;rw [B!,hr];rfl)
 have l3:r.es.length=4:=by have:=h.D7 j hj;rw [e]at this;simpa using this
 obtain⟨E,hE⟩:=Hp l3 hk;exact⟨C,r,E,hC,hr,hE,l1,l2,l3,l4⟩
theorem NM.lW{w:NM}{i:Nat}{x:ED}(hc:w.cnt[i]?=some x):w.n.cnt i=x.n:=getD_some (by show(w.cnt.map _)[i]?=_;rw [B!,hc];rfl)
set_option maxHeartbeats 8000000 in
theorem WQ(hG:B.cell? ⟨0,0,none⟩=some (C3 106))(nb t i:Nat)(w:NM)(Ls:List (List AT))(H:HP)(hok:w.ok)(h0:Mp t w.n i Ls)(hi:i<2)(ht:t<800000):
  Fn Tryz.prog B 25 [ptr nb 0,iN i] (Aw nb w*H) (fun v H'=>v=.bool true∧∃w':NM,w'.ok∧w'.n=(w.n.flush i).2∧H'=Aw nb w'*H):=by
 refine mI Tryz.func25 ?_;obtain⟨C,r,E,hC,hr,hE,l1,l2,l3,l4⟩:=h0.len.mem (j:=i) hi hi TR;have hCm:=A_ hC;have hci:=h0.c;have hpk:=h0.p;have hks16:w.n.ks.length=16:=h0.ks;have hmt:=h0.AI;have hbg:=h0.Ub;have hbl:=h0.bl;rw [NM.E5 hC]at hci hpk;have hbeg:=h0.begin;rw [NM.E5 hC]at hbeg
 have hPSl:((outs w.n.ks (Ag (decide (i=0))) (w.n.cnt i) Ls).map AW).length=Ls.length:=by rw [B_,SW]
 refine J6 ?_;refine Y4 ?_;refine J4 ?_;refine OQ ?_;refine JL (A2 (v':=.agg (De ⟨5,0,0,0,⟨#[]⟩⟩).toArray) FV rfl) ?_;refine BF (H':=AY C.cb C.c*((A0 nb w.x*(AB w.xa.b w.xa.o w.cs w.xa.s*(AB w.ea.b w.ea.o w.rows w.ea.s*(AB w.ba.b w.ba.o w.AN w.ba.s*(AB w.ca.b w.ca.o w.cnt w.ca.s*(AB r.a.b r.a.o r.es r.a.s*(BN E.q E.o*(DW w i i 0 r*H)))))))))) Cf ?_;refine mE rfl (H7 hG C.cb t C.c ⟨5,0,0,0,⟨#[]⟩⟩ ⟨0,-1,0,0,⟨#[]⟩,((outs w.n.ks (Ag (decide (i=0))) (w.n.cnt i) Ls).map AW)⟩ C.c.s.A6.2 (by rw [vJ,hpk]) _ (hok.FP C hCm) hci Ca KO Cz) ?_;rintro _ _ ⟨m2,ps,hm2,hs2,hps,rfl,rfl⟩;dsimp only at hs2 hps⊢;refine Af Iv rfl ?_;rintro _ _ ⟨b5,rfl,rfl⟩
 refine Bj (Dz (cs:=CQ ⟨0,-1,0,0,⟨#[]⟩,((outs w.n.ks (Ag (decide (i=0))) (w.n.cnt i) Ls).map AW)⟩ (.slice ps.p ((outs w.n.ks (Ag (decide (i=0))) (w.n.cnt i) Ls).map AW).length ps.c)) rfl rfl Ch Ce) ?_;refine E9 ?_
 have hn9:(w.put i i 0 ⟨C.cb,m2⟩ r ⟨E.q,E.o⟩).n=w.n.A3 i C.c.s.A6.2:=by rw [NM.G3 w hC hr,hs2];exact Jq hr hE _
 refine Ao (H':=Aw nb (w.put i i 0 ⟨C.cb,m2⟩ r ⟨E.q,E.o⟩)*(HP.AA b5 0 (CQ ⟨0,-1,0,0,⟨#[]⟩,((outs w.n.ks (Ag (decide (i=0))) (w.n.cnt i) Ls).map AW)⟩ (.slice ps.p ((outs w.n.ks (Ag (decide (i=0))) (w.n.cnt i) Ls).map AW).length ps.c))*(ps.h ((outs w.n.ks (Ag (decide (i=0))) (w.n.cnt i) Ls).map AW)*H))) Tm ?_;refine J1 ?_;refine Fq ?_;refine Bk (α:=NM×Nat) (fun z=>[(6,iN z.2),(5,ptr b5 0),(0,ptr nb 0),(1,iN i)]) (fun z=>Aw nb z.1*(HP.AA b5 0 (CQ ⟨0,-1,0,0,⟨#[]⟩,((outs w.n.ks (Ag (decide (i=0))) (w.n.cnt i) Ls).map AW)⟩ (.slice ps.p ((outs w.n.ks (Ag (decide (i=0))) (w.n.cnt i) Ls).map AW).length ps.c))*(ps.h ((outs w.n.ks (Ag (decide (i=0))) (w.n.cnt i) Ls).map AW)*H))) (fun z=>z.1.ok∧Jz w.n i Ls z.1.n z.2) (fun z=>Ls.length-z.2) ((w.put i i 0 ⟨C.cb,m2⟩ r ⟨E.q,E.o⟩),0) ⟨hok.put hC hr hE hm2 _,by rw [show((w.put i i 0 ⟨C.cb,m2⟩ r ⟨E.q,E.o⟩),0).1.n=_ from hn9];exact hbeg⟩ IK rfl ?_;rintro⟨w1,k⟩ ⟨q1,q2⟩;dsimp only at q1 q2⊢;refine J7 ?_;refine JL (Dr (i:=k) (j:=((outs w.n.ks (Ag (decide (i=0))) (w.n.cnt i) Ls).map AW).length) rfl rfl) ?_;refine J2 ?_;refine mC (fun hk=>?_) (fun hk=>?_)
 ·rw [hPSl]at hk;obtain⟨fs,hfs⟩:=Hp rfl hk;have hgp:=Vt w.n.ks (Ag (decide (i=0))) Ls (w.n.cnt i) k fs hfs
  obtain⟨p,hp⟩:∃p,p=Bv w.n.ks (Ag (decide (i=0))) (B? (w.n.cnt i+k)) (Av fs):=Be
  obtain⟨hop,hne,hpl,hat⟩:=q2.step h0 hi hfs hp;rw [←hp]at hgp
  have hps1:((outs w.n.ks (Ag (decide (i=0))) (w.n.cnt i) Ls).map AW)[k]?=some (AW p):=by rw [B!,hgp];rfl
  have hcl2:w1.cnt.length=2:=by have:=q2.len.cl;unfold NM.n at this;simpa using this
  obtain⟨cx,hcx⟩:=Hp hcl2 hi
  have hcn:cx.n=w.n.cnt i+k:=by rw [←NM.lW hcx];exact q2.cnt
  have hks1:w1.x.ks=w.n.ks:=q2.ks;have hmt1:w1.x.AI=w.n.AI:=q2.AI
  have hbl1:w1.AN.length=w.n.AN.length+k:=by have:=q2.bl;rw [show w1.n.AN.length=w1.AN.length from B_ ..]at this;exact this
  have htn:(B? (w.n.cnt i+k)).toNat=w.n.cnt i+k:=Ki Ca;have hel:0<(Av fs).length:=C_.2 hne;refine J5 ?_;refine Ao (H':=A0 nb w1.x*(AB w1.xa.b w1.xa.o w1.cs w1.xa.s*(AB w1.ea.b w1.ea.o w1.rows w1.ea.s*(AB w1.ba.b w1.ba.o w1.AN w1.ba.s*(AB w1.ca.b w1.ca.o w1.cnt w1.ca.s*(AO CL w1.cs*(AO CN w1.rows*(HP.AA b5 0 (CQ ⟨0,-1,0,0,⟨#[]⟩,((outs w.n.ks (Ag (decide (i=0))) (w.n.cnt i) Ls).map AW)⟩ (.slice ps.p ((outs w.n.ks (Ag (decide (i=0))) (w.n.cnt i) Ls).map AW).length ps.c))*(ps.h ((outs w.n.ks (Ag (decide (i=0))) (w.n.cnt i) Ls).map AW)*H))))))))) (FW nb w1 _) ?_;refine J4 ?_;refine JL ZR ?_;refine JL cI ?_;refine Af (Td rfl) rfl ?_;rintro _ _ ⟨p32,b32,o32,c32,s32,rfl,hs32,hc32,rfl⟩;rw [Oc]at hs32 hc32⊢;refine J8 ?_;refine JL YM ?_;refine J1 ?_;refine JL (CD (i:=i) (j:=0) rfl rfl) ?_;refine J1 ?_;refine mE rfl (Z1 w1.x.ks q1.ks (decide (i=0)) p (B? (w.n.cnt i+k)) (Av fs) p32 b32 o32 c32 _ hs32 inferInstance Ca (by rw [hks1];exact hop)) ?_;rintro _ _ ⟨su0,rfl,hsu⟩;rcases hsu with⟨e0,_,_⟩|⟨_,pu,bu,ou,cu,su,rfl,hsu,hcu,rfl⟩
  ·exact absurd e0 hne
  refine Eu ?_;refine JL TQ ?_;refine MO ?_;refine MO ?_;refine KV ?_;refine JL (A2 (v':=.bool false) (F6 (i:=p.length) (j:=w1.x.AI) rfl rfl) Nj) ?_;refine JL EP ?_;refine MO ?_;refine KV ?_;refine JL (A2 ES q1.cv) ?_;refine Fu ?_;refine J1 ?_;refine Fu ?_;refine JL Sg ?_;refine Fu ?_;refine JL ZN ?_;refine Fu ?_;refine JL (A2 (v':=.bool false) (GE (i:=(B? (w.n.cnt i+k)).toNat) (j:=cx.n) rfl rfl) (by rw [decide_eq_false (fun x=>x Ca)])) ?_;refine JL EP ?_;refine KV ?_;refine J1 ?_
  refine Fu ?_;refine JL (A2 (v':=.bool false) (CD (i:=(Av fs).length) (j:=0) rfl rfl) Nj) ?_;refine JL EP ?_;refine JK ?_;refine J7 ?_;refine JL (A2 ES q1.cv) ?_;refine J1 ?_;refine JL Sg ?_;refine JL ZN ?_;refine JL (Iy (i:=cx.n) (j:=1) rfl rfl Ca) ?_;refine JL Sg ?_;refine Bj (EY (v:=uN (w.n.cnt i+k+1)) rfl (by rw [←hcn];rfl) rfl Ca) ?_;refine JR ?_;refine J2 ?_;refine Ao (H':=AB w1.ba.b w1.ba.o w1.AN w1.ba.s*(A0 nb w1.x*(AB w1.xa.b w1.xa.o w1.cs w1.xa.s*(AB w1.ea.b w1.ea.o w1.rows w1.ea.s*(AB w1.ca.b w1.ca.o (w1.cnt.set i ⟨(w.n.cnt i+k+1)⟩) w1.ca.s*(AO CL w1.cs*(AO CN w1.rows*(AB bu ou (Av fs) su*AB b32 o32 p s32*(HP.AA b5 0 (CQ ⟨0,-1,0,0,⟨#[]⟩,((outs w.n.ks (Ag (decide (i=0))) (w.n.cnt i) Ls).map AW)⟩ (.slice ps.p ((outs w.n.ks (Ag (decide (i=0))) (w.n.cnt i) Ls).map AW).length ps.c))*(ps.h ((outs w.n.ks (Ag (decide (i=0))) (w.n.cnt i) Ls).map AW)*H)))))))))) Cf ?_
  refine D5 (A0 nb w1.x*(AB w1.xa.b w1.xa.o w1.cs w1.xa.s*(AB w1.ea.b w1.ea.o w1.rows w1.ea.s*(AB w1.ca.b w1.ca.o (w1.cnt.set i ⟨(w.n.cnt i+k+1)⟩) w1.ca.s*(AO CL w1.cs*(AO CN w1.rows*(AB bu ou (Av fs) su*AB b32 o32 p s32*(HP.AA b5 0 (CQ ⟨0,-1,0,0,⟨#[]⟩,((outs w.n.ks (Ag (decide (i=0))) (w.n.cnt i) Ls).map AW)⟩ (.slice ps.p ((outs w.n.ks (Ag (decide (i=0))) (w.n.cnt i) Ls).map AW).length ps.c))*(ps.h ((outs w.n.ks (Ag (decide (i=0))) (w.n.cnt i) Ls).map AW)*H))))))))) 17 18 EI rfl Cb ?_;refine EK ?_;refine IZ ?_;refine JT 4 rfl (A2 ES q1.bv) ?_;refine Jm 5 ?_;refine JT 6 rfl (II (i:=1) (j:=i) rfl rfl Ca) ?_;refine Jf 7 ?_;refine Jd 8 ?_;refine Jm 9 ?_;refine JT 10 rfl ZR ?_;refine JT 11 rfl cI ?_;refine JT 12 rfl (Ex (cs:=GI (⟨1-i,AW p⟩:EG)) rfl rfl rfl (AC.one (⟨1-i,AW p⟩:EG))) ?_;refine An 13 Cb rfl rfl (GZ (cs:=GI (⟨1-i,AW p⟩:EG)) rfl Cp rfl rfl) ?_;rintro _ _ ⟨b95,rfl,rfl⟩;refine BA ?_
  refine Ea (H':=AB w1.ba.b w1.ba.o w1.AN w1.ba.s*(HP.AA b95 0 (AD [(⟨1-i,AW p⟩:EG)])*(A0 nb w1.x*(AB w1.xa.b w1.xa.o w1.cs w1.xa.s*(AB w1.ea.b w1.ea.o w1.rows w1.ea.s*(AB w1.ca.b w1.ca.o (w1.cnt.set i ⟨(w.n.cnt i+k+1)⟩) w1.ca.s*(AO CL w1.cs*(AO CN w1.rows*(AB bu ou (Av fs) su*AB b32 o32 p s32*(HP.AA b5 0 (CQ ⟨0,-1,0,0,⟨#[]⟩,((outs w.n.ks (Ag (decide (i=0))) (w.n.cnt i) Ls).map AW)⟩ (.slice ps.p ((outs w.n.ks (Ag (decide (i=0))) (w.n.cnt i) Ls).map AW).length ps.c))*(ps.h ((outs w.n.ks (Ag (decide (i=0))) (w.n.cnt i) Ls).map AW)*H))))))))))) (by show HP.AA b95 0 _*_=_;rw [show AD [(⟨1-i,AW p⟩:EG)]=GI (⟨1-i,AW p⟩:EG)from E! _];ac_rfl) ?_;refine An 14 Cb rfl rfl (CS (ys:=[(⟨1-i,AW p⟩:EG)]) (bb:=b95) (oo:=0) (cc:=1) rfl q1.ba.1 q1.ba.2 rfl CB inferInstance rfl Cm Ca) ?_;rintro _ _ ⟨p96,b96,o96,c96,s96,rfl,hs96,hc96,rfl⟩;refine BA ?_;refine Jn 15 ?_;refine Jf 16 ?_;refine Db 17 Cb rfl Er ?_;refine DF ?_;refine HZ ?_;have hsn:(w1.send i (w.n.cnt i+k+1) (⟨1-i,AW p⟩:EG) ⟨p96,b96,o96,c96,s96⟩).n=_:=NM.lA w1 i (w.n.cnt i+k+1) (⟨1-i,AW p⟩:EG) ⟨p96,b96,o96,c96,s96⟩
  exact Bf (Aw nb (w1.send i (w.n.cnt i+k+1) (⟨1-i,AW p⟩:EG) ⟨p96,b96,o96,c96,s96⟩)*(HP.AA b5 0 (CQ ⟨0,-1,0,0,⟨#[]⟩,((outs w.n.ks (Ag (decide (i=0))) (w.n.cnt i) Ls).map AW)⟩ (.slice ps.p ((outs w.n.ks (Ag (decide (i=0))) (w.n.cnt i) Ls).map AW).length ps.c))*(ps.h ((outs w.n.ks (Ag (decide (i=0))) (w.n.cnt i) Ls).map AW)*H))) (hE:=⟨fun ww hw=>Sat.right (A:=HP.AA b95 0 (AD [(⟨1-i,AW p⟩:EG)])*(AB bu ou (Av fs) su*AB b32 o32 p s32)) (Eq.mp (by congr 1;rw [tG];show _=HP.AA b95 0 (AD [(⟨1-i,AW p⟩:EG)])*(AB bu ou (Av fs) su*AB b32 o32 p s32)*(A0 nb {w1.x with bv:=.slice p96 (w1.AN++[(⟨1-i,AW p⟩:EG)]).length c96}*_);ac_rfl) hw)⟩) (BW (w1.send i (w.n.cnt i+k+1) (⟨1-i,AW p⟩:EG) ⟨p96,b96,o96,c96,s96⟩,k+1) ⟨q1.send i _ ⟨hs96,hc96⟩,by show Jz w.n i Ls (w1.send i (w.n.cnt i+k+1) (⟨1-i,AW p⟩:EG) ⟨p96,b96,o96,c96,s96⟩).n (k+1);rw [hsn];exact hat⟩ (by show Ls.length-(k+1)<Ls.length-k;omega) IK rfl)
 refine Bq ?_;rw [hPSl]at hk;have hkl:k=Ls.length:=Nat.le_antisymm q2.le Ca;subst hkl;exact mR [4] (Aw nb w1*H) (hE:=⟨fun ww hw=>Sat.right (A:=HP.AA b5 0 (CQ ⟨0,-1,0,0,⟨#[]⟩,((outs w.n.ks (Ag (decide (i=0))) (w.n.cnt i) Ls).map AW)⟩ (.slice ps.p ((outs w.n.ks (Ag (decide (i=0))) (w.n.cnt i) Ls).map AW).length ps.c))*ps.h ((outs w.n.ks (Ag (decide (i=0))) (w.n.cnt i) Ls).map AW)) (Eq.mp Cn hw)⟩) rfl rfl ⟨rfl,w1,q1,by rw [←q2.done],rfl⟩
end
section
variable{B:World}
@[reducible] def Bs(s:DR):List Value:=[.int .i64 s.kind,.int .i64 s.side,.int .i64 s.a,.int .i64 s.b,.string s.s]
def Hj(c:Int):Prop:= -9223372036854775808≤c∧c<9223372036854775808
structure KH(s:DR):Prop where
 side:Hj s.side
 a:Hj s.a
 b:Hj s.b
 s:s.s.size<90000000
theorem oN{n:AM}(h:n.AN=[])(s:DR):n.carry s=(true,n):=by unfold AM.carry;rw [if_pos h]
theorem vN{n:AM}{s:DR}{f:Nat×ByteArray}(h:n.AN[AK s.a n.AN.length]?=some f):n.carry s=if s.kind=6 then n.comes f.1 f.2 else if s.kind=9 then n.Ee (1-f.1) f.2.data.toList else if s.kind=8 then n.Ee f.1 (XK f.2.data.toList (AK s.b f.2.size) s.s.data.toList)else(true,n):=by
 have hb:n.AN≠ []:=fun e=>by rw [e]at h;cases h
 unfold AM.carry;rw [if_neg hb,getD_some h]
theorem sD(b:ByteArray):AW b.data.toList=b:=by
 unfold AW;apply ByteArray.ext;exact Array.toArray_toList
theorem qV{s:DR}(h:0<s.s.size):decide ((s.s.data.toList.getD 0 0).toNat≠0)=decide (s.s.data.toList≠ []∧s.s.data.toList.getD 0 0≠0):=by
 have h1:s.s.data.toList≠ []:=C_.1 h;have h2:(s.s.data.toList.getD 0 0).toNat≠0↔s.s.data.toList.getD 0 0≠0:=not_congr ⟨fun e=>UInt8.toNat_inj.1 e,fun e=>by rw [e];rfl⟩;rw [decide_eq_decide];exact⟨fun x=>⟨h1,h2.1 x⟩,fun x=>h2.2 x.2⟩
theorem cX{s:DR}(h:¬0<s.s.size):false=decide (s.s.data.toList≠ []∧s.s.data.toList.getD 0 0≠0):=by
 refine(decide_eq_false fun x=>h ?_).symm;exact C_.2 x.1
set_option maxHeartbeats 8000000 in
theorem qD(hG:B.cell? ⟨0,0,none⟩=some (C3 106))(nb t:Nat)(s:DR)(w:NM)(L:Nat→List (List AT))(Rr:Nat→Nat→Prop)(H:HP)(hok:w.ok)(hw:Ak t w.n L Rr BY)(hs:KH s)(ht:t<800000):
  Fn Tryz.prog B 73 [ptr nb 0,.agg (Bs s).toArray] (Aw nb w*H) (fun v H'=>v=.bool true∧∃w':NM,w'.ok∧w'.n=(w.n.carry s).2∧H'=Aw nb w'*H):=by
 refine mI Tryz.func73 ?_;refine J2 ?_;refine Af (DP (l:=Bs s) rfl rfl) rfl ?_;rintro _ _ ⟨b3,rfl,rfl⟩;refine J5 ?_;refine Ao (H':=A0 nb w.x*(AB w.xa.b w.xa.o w.cs w.xa.s*(AB w.ea.b w.ea.o w.rows w.ea.s*(AB w.ba.b w.ba.o w.AN w.ba.s*(AB w.ca.b w.ca.o w.cnt w.ca.s*(AO CL w.cs*(AO CN w.rows*(HP.AA b3 0 (Bs s)*H)))))))) (by rw [←FW];ac_rfl) ?_;refine J4 ?_;refine JL S1 ?_;refine J1 ?_;refine JL (CD (i:=w.AN.length) (j:=0) rfl rfl) ?_;refine J2 ?_;refine mC (fun h15=>?_) (fun h15=>?_)
 ·refine J7 ?_;exact mR [4] (Aw nb w*H) (hE:=⟨fun ww hw=>Sat.right (A:=HP.AA b3 0 (Bs s)) (Eq.mp TT hw)⟩) rfl rfl ⟨rfl,w,hok,by rw [oN (show w.n.AN=[]from List.length_eq_zero_iff.1 ((B_ ..).trans h15))],rfl⟩
 have hKl:(AK s.a w.AN.length)<w.AN.length:=E7 s.a Ca;obtain⟨F,hF⟩:=Hp rfl hKl
 have hFn:w.n.AN[AK s.a w.n.AN.length]?=some (F.to,F.b):=by
  have e:w.n.AN=w.AN.map (fun f=>(f.to,f.b)):=rfl;rw [e,B_,B!,hF];rfl
 have hcy:=vN hFn;have hFm:(F.to,F.b)∈w.n.AN:=A_ hFn;obtain⟨i9,m9,fs9,i91,i92,i93,i94⟩:=hw.AN _ hFm;dsimp only at i92 i94 hcy
 obtain⟨p,hp⟩:∃p,p=Bv w.n.ks (Ag (decide (i9=0))) (B? m9) (Av fs9):=Be
 rw [←hp]at i94
 have hpl:16≤p.length:=by rw [hp,Nl];omega
 have hp3:p.length≤300:=by have:=(hw.recv hFm Ca).2.1;dsimp only at this;rw [i94,Em]at this;exact this
 have hbl:w.AN.length<90000000:=by have:=hw.bl;have h0:=(hw.c 0 Ca).nx;have h1:=(hw.c 1 Ca).nx;have l0:=(hw.at (i:=0) Ca).s.len;have l1:=(hw.at (i:=1) Ca).s.len;have e:w.n.AN.length=w.AN.length:=B_ ..;omega
 have hFto:F.to<2:=by omega
 refine J3 ?_;refine mA 7 9 ?_;refine IV ?_;refine Jm 2 ?_;refine Jn 3 ?_;refine Jf 4 ?_;refine JT 5 rfl S1 ?_;refine JT 6 rfl FF ?_;refine An 7 Cb rfl rfl (BJ rfl (If s.a hs.a w.AN.length Ca _)) ?_;refine JR ?_;refine DK ?_;refine EL 8 Cb rfl rfl FQ D2 ?_;refine JD ?_;refine J6 ?_;refine JL S1 ?_;refine J1 ?_;refine JL (Gz rfl rfl hok.ba.1 Ca rfl) ?_;refine JL (A2 (v':=.agg (GI F).toArray) (IA (xs:=w.AN) rfl inferInstance Ca) SF) ?_;refine Af (FD (l:=[.int .i64 0,.string ⟨#[]⟩]) rfl) rfl ?_;rintro _ _ ⟨b6,rfl,rfl⟩;refine Bj (Dz (cs:=GI F) rfl rfl Ch (AC.one F)) ?_;refine JR ?_;refine DH ?_;refine JL (CT (i:=s.kind) (j:=6) rfl rfl) ?_;refine J3 ?_;refine mC (fun h6=>?_) (fun h6=>?_)
 ·rw [if_pos h6]at hcy;refine J7 ?_;refine BF (H':=Aw nb w*(HP.AA b6 0 (GI F)*(HP.AA b3 0 (Bs s)*H))) RN ?_;refine mE rfl (Xs hG nb t F.to F.b w L Rr _ hok hw hFm ht) ?_;rintro _ _ ⟨rfl,w2,hok2,hn2,rfl⟩;refine J6 ?_;exact mR [4] (Aw nb w2*H) (hE:=Te) rfl rfl Wb
 rw [if_neg h6]at hcy;refine J2 ?_;refine JL (CT (i:=s.kind) (j:=9) rfl rfl) ?_;refine J3 ?_;refine mC (fun h9=>?_) (fun h9=>?_)
 ·rw [if_pos h9]at hcy;refine J5 ?_;refine JL (II (i:=1) (j:=F.to) rfl rfl Ca) ?_;refine J2 ?_;refine BF (H':=Aw nb w*(HP.AA b6 0 (GI F)*(HP.AA b3 0 (Bs s)*H))) RN ?_;refine mE rfl (Rf hG nb t (1-F.to) F.b w L Rr _ hok hw Ca (by rw [i94,Em];omega) ht) ?_;rintro _ _ ⟨rfl,w2,hok2,hn2,rfl⟩;refine J6 ?_;exact mR [4] (Aw nb w2*H) (hE:=Te) rfl rfl Wb
 rw [if_neg h9]at hcy;refine J2 ?_;refine JL (CT (i:=s.kind) (j:=8) rfl rfl) ?_;refine J3 ?_;refine mC (fun h8=>?_) (fun h8=>?_)
 ·rw [if_pos h8,i94,Oc]at hcy
  have hat:(AK s.b (AW p).size)<p.length:=by have:=E7 s.b (n:=(AW p).size) Ko;rw [Em]at this⊢;exact this
  refine J5 ?_;refine JL Pr ?_;refine J1 ?_;refine mE rfl (If s.b hs.b (AW p).size Ko _) ?_;refine J0 ?_;refine JL (FO (v:=.int .u8 (1:Nat)) rfl) ?_;refine J4 ?_;refine CR (α:=Bool) (fun z=>[(67,.bool z),(8,.int .u8 (1:Nat)),(7,iN (AK s.b (AW p).size)),(6,ptr b6 0),(3,ptr b3 0),(0,ptr nb 0)]) (fun _=>HP.AA b6 0 (GI F)*(A0 nb w.x*(AB w.xa.b w.xa.o w.cs w.xa.s*(AB w.ea.b w.ea.o w.rows w.ea.s*(AB w.ba.b w.ba.o w.AN w.ba.s*(AB w.ca.b w.ca.o w.cnt w.ca.s*(AO CL w.cs*(AO CN w.rows*(HP.AA b3 0 (Bs s)*H))))))))) (fun z=>z=decide (s.s.data.toList≠ []∧s.s.data.toList.getD 0 0≠0)) ?_ ?_
  ·refine J4 ?_;refine JL (F6 (i:=s.s.size) (j:=0) rfl rfl) ?_;refine J1 ?_;refine D8 62 rfl (fun hg1=>?_) (fun hg1=>?_)
   ·refine Sn ?_;refine JL (Qx (s:=s.s) (i:=0) rfl rfl hg1) ?_;refine JG T1 ?_;refine JL (GE (i:=(s.s.data.toList.getD 0 0).toNat) (j:=0) rfl rfl) ?_;refine JL Fd ?_;refine J1 ?_;exact A8 (decide ((s.s.data.toList.getD 0 0).toNat≠0)) (qV hg1) FT rfl
   refine S9 ?_;refine JH F1 ?_;refine JL Ec ?_;refine J1 ?_;exact A8 false (cX hg1) FT rfl
  ·rintro z hz;refine J1 ?_;refine CR (α:=UInt8) (fun z=>[(8,u8 z),(7,iN (AK s.b (AW p).size)),(6,ptr b6 0),(3,ptr b3 0),(0,ptr nb 0)]) (fun _=>HP.AA b6 0 (GI F)*(A0 nb w.x*(AB w.xa.b w.xa.o w.cs w.xa.s*(AB w.ea.b w.ea.o w.rows w.ea.s*(AB w.ba.b w.ba.o w.AN w.ba.s*(AB w.ca.b w.ca.o w.cnt w.ca.s*(AO CL w.cs*(AO CN w.rows*(HP.AA b3 0 (Bs s)*H))))))))) (fun z=>z=(if s.s.data.toList≠ []∧s.s.data.toList.getD 0 0≠0 then s.s.data.toList.getD 0 0 else 1)) ?_ ?_
   ·refine mc (fun h67=>?_) (fun h67=>?_)
    ·rw [h67]at hz;have hz2:=of_decide_eq_true hz.symm;have hss:0<s.s.size:=C_.2 hz2.1;refine J3 ?_;refine JL (Qx (s:=s.s) (i:=0) rfl rfl hss) ?_;refine J2 ?_;exact A8 (s.s.data.toList.getD 0 0) (by rw [if_pos hz2]) Gd rfl
    rw [h67]at hz;have hz2:=of_decide_eq_false hz.symm;refine J1 ?_;exact A8 1 (by rw [if_neg hz2]) Gd rfl
   ·rintro by8 hby;refine J2 ?_;refine mA 20 20 ?_;refine Jf 0 ?_;refine JT 1 rfl Pr ?_;refine Jm 2 ?_;refine JT 3 rfl (A2 (v':=.string (AW (p.take (AK s.b (AW p).size)))) (ZW (h:=(AK s.b (AW p).size)) rfl rfl Pk) (by rw [P9 _ _ _ Ca,G!])) ?_;refine Jf 4 ?_;refine JT 5 rfl Pr ?_;refine Jm 6 ?_;refine JT 7 rfl (A2 (v':=u8 (p.getD (AK s.b (AW p).size) 0)) (Qx (s:=AW p) (i:=(AK s.b (AW p).size)) rfl rfl Pk) (by rw [Oc])) ?_;refine Jm 8 ?_;refine JT 9 rfl (Vz (a:=p.getD (AK s.b (AW p).size) 0) (b:=by8) rfl rfl) ?_;refine Jf 13 ?_;refine JT 14 rfl Pr ?_;refine Jm 15 ?_;refine JT 16 rfl (G7 (i:=(AK s.b (AW p).size)) (j:=1) rfl rfl Ca) ?_;refine JT 17 rfl (A2 (v':=.string (AW (p.drop ((AK s.b (AW p).size)+1)))) (sB (l:=(AK s.b (AW p).size)+1) rfl rfl Pk) (by rw [P9 _ _ _ Pk,Em,List.take_length])) ?_;refine An 10 Cb rfl rfl Hb ?_;rintro _ _ ⟨b81,rfl,rfl⟩;refine BA ?_
    refine Ea (H':=HP.AA b81 0 (AD [(p.getD (AK s.b (AW p).size) 0 ^^^by8)])*(HP.AA b6 0 (GI F)*(A0 nb w.x*(AB w.xa.b w.xa.o w.cs w.xa.s*(AB w.ea.b w.ea.o w.rows w.ea.s*(AB w.ba.b w.ba.o w.AN w.ba.s*(AB w.ca.b w.ca.o w.cnt w.ca.s*(AO CL w.cs*(AO CN w.rows*(HP.AA b3 0 (Bs s)*H)))))))))) (by show HP.AA b81 0 _*_=_;rfl) ?_;refine EL 11 Cb rfl rfl (Lp (b:=b81) (o:=0) (c:=1) (xs:=[(p.getD (AK s.b (AW p).size) 0 ^^^by8)]) rfl CB inferInstance) UD ?_;refine JT 12 rfl (Ta (s:=p.take (AK s.b (AW p).size)) (t:=[(p.getD (AK s.b (AW p).size) 0 ^^^by8)]) rfl rfl (by rw [D?];simp only [D_];omega)) ?_;refine JT 18 rfl (Ta (s:=p.take (AK s.b (AW p).size)++[(p.getD (AK s.b (AW p).size) 0 ^^^by8)]) (t:=p.drop ((AK s.b (AW p).size)+1)) rfl rfl (by rw [A!,D?,F!];simp only [D_];omega)) ?_;refine Ja 19 ?_;refine JD ?_;refine J7 ?_;refine BF (H':=Aw nb w*(HP.AA b81 0 (AD [(p.getD (AK s.b (AW p).size) 0 ^^^by8)])*(HP.AA b6 0 (GI F)*(HP.AA b3 0 (Bs s)*H)))) RN ?_
    refine mE rfl (Rf hG nb t F.to (AW (p.take (AK s.b (AW p).size)++[(p.getD (AK s.b (AW p).size) 0 ^^^by8)]++p.drop ((AK s.b (AW p).size)+1))) w L Rr _ hok hw hFto (by rw [Em,A!,A!,D?,F!];simp only [D_];omega) ht) ?_;rintro _ _ ⟨rfl,w2,hok2,hn2,rfl⟩;rw [Oc]at hn2;refine J6 ?_;exact mR [4] (Aw nb w2*H) (hE:=⟨fun ww hw=>Sat.right (A:=HP.AA b81 0 (AD [(p.getD (AK s.b (AW p).size) 0 ^^^by8)])*(HP.AA b6 0 (GI F)*HP.AA b3 0 (Bs s))) (Eq.mp TT hw)⟩) rfl rfl ⟨rfl,w2,hok2,by rw [hn2,hcy,hby];rfl,rfl⟩
 rw [if_neg h8]at hcy;refine J9 ?_;exact mR [4] (Aw nb w*H) (hE:=Te) rfl rfl ⟨rfl,w,hok,by rw [hcy],rfl⟩
end
section
variable{B:World}
theorem NM.rM{w:NM}{i j k:Nat}{r:DS}{E:Dp}(hr:w.rows[j]?=some r)(hE:r.es[k]?=some E)(C:CM)(o:Ds):
  (w.put i j k C r ⟨E.q,o⟩).rows[j]?=some {r with es:=r.es.set k ⟨E.q,o⟩}∧(r.es.set k ⟨E.q,o⟩)[k]?=some ⟨E.q,o⟩:=
 ⟨E_ (A?.1 hr).1,E_ (A?.1 hE).1⟩
theorem vK(s:ByteArray)(h:Nat)(hh:h≤s.size):s.extract 0 h=AW (s.data.toList.take h):=by
 have:=P9 s.data.toList 0 h hh
 rw [sD,G!]at this;exact this
set_option maxHeartbeats 16000000 in
theorem O6(hG:B.cell? ⟨0,0,none⟩=some (C3 106))(nb t:Nat)(s:DR)(w:NM)(L:Nat→List (List AT))(Rr:Nat→Nat→Prop)(H:HP)(hok:w.ok)(hw:Ak t w.n L Rr BY)(hs:KH s)(ht:t<700000):
  Fn Tryz.prog B 35 [ptr nb 0,.agg (Bs s).toArray] (Aw nb w*H) (fun v H'=>v=.bool true∧∃w':NM,w'.ok∧w'.n=(w.n.step s).2∧H'=Aw nb w'*H):=by
 refine mI Tryz.func35 ?_;have hi:(AK s.side 2)<2:=E7 _ Ca;have hk:(AK s.a 4)<4:=E7 _ Ca;obtain⟨C,r,E,hC,hr,hE,l1,l2,l3⟩:=hw.mem hi hi hk;have hCm:=A_ hC;have hci:=hw.c _ hi;have hnx:w.n.x (AK s.side 2)=C.c.s:=NM.E5 hC;have hne:w.n.e (AK s.side 2) (AK s.a 4)=E.o:=NM.Ih hr hE;rw [hnx]at hci;have hss:=hs.s;refine J2 ?_;refine Af (DP (l:=Bs s) rfl rfl) rfl ?_;rintro _ _ ⟨b3,rfl,rfl⟩;refine J7 ?_;refine mE rfl (If s.side hs.side 2 Ca _) ?_;refine E9 ?_;refine Ao (H':=A0 nb w.x*(AB w.xa.b w.xa.o w.cs w.xa.s*(AB w.ea.b w.ea.o w.rows w.ea.s*(AB w.ba.b w.ba.o w.AN w.ba.s*(AB w.ca.b w.ca.o w.cnt w.ca.s*(AY C.cb C.c*(AB r.a.b r.a.o r.es r.a.s*(BN E.q E.o*(DW w (AK s.side 2) (AK s.side 2) (AK s.a 4) r*(HP.AA b3 0 (Bs s)*H)))))))))) (by rw [←GM nb w _ hC hr hE];ac_rfl) ?_;refine J4 ?_;refine JL TM ?_;refine J1 ?_;refine JL (DG (i:=(AK s.side 2)) rfl rfl hok.xa.1 Ca) ?_;refine JL Xl ?_;refine J7 ?_;refine mE rfl (If s.a hs.a 4 Ca _) ?_;refine JR ?_;refine Eu ?_;refine JL (CT (i:=s.kind) (j:=1) rfl rfl) ?_;refine J3 ?_;refine mC (fun k1=>?_) (fun k1=>?_)
 ·skip
  have hst:w.n.step s=w.n.wr (AK s.side 2) (AK s.a 4) s.s:=by unfold AM.step;rw [if_pos k1]
  have hno:=fun hf=>hw.iK hi hk s.s hf;have hyes:=fun hf=>hw.WY hi hk s.s hf;have hdn:=fun hf=>hw.jZ hi hk s.s hf rfl rfl;rw [hnx]at hno hyes hdn;rw [hne]at hno hyes hdn
  obtain⟨rv,erv⟩:∃rv,rv=C.c.s.write (AK s.a 4) s.s.data.toList:=Be
  rw [←erv]at hno hyes hdn;refine TD ?_;refine J9 ?_;refine JL (A2 (v':=.agg (De ⟨1,((AK s.a 4):Nat),0,0,s.s⟩).toArray) FV rfl) ?_;refine BF (H':=AY C.cb C.c*(HP.AA b3 0 (Bs s)*(A0 nb w.x*(AB w.xa.b w.xa.o w.cs w.xa.s*(AB w.ea.b w.ea.o w.rows w.ea.s*(AB w.ba.b w.ba.o w.AN w.ba.s*(AB w.ca.b w.ca.o w.cnt w.ca.s*(AB r.a.b r.a.o r.es r.a.s*(BN E.q E.o*(DW w (AK s.side 2) (AK s.side 2) (AK s.a 4) r*H)))))))))) Cf ?_;refine mE rfl (H7 hG C.cb t C.c ⟨1,((AK s.a 4):Nat),0,0,s.s⟩ ⟨rv.1.2,-1,rv.1.1,0,⟨#[]⟩,[]⟩ rv.2 (by rw [wW,←erv]) _ (hok.FP C hCm) hci Ca (by show s.s.size<_;omega) Cz) ?_;rintro _ _ ⟨m2,ps,hm2,hs2,hps,rfl,rfl⟩;dsimp only at hs2 hps⊢;refine Af Iv rfl ?_;rintro _ _ ⟨b9,rfl,rfl⟩
  refine Bj (Dz (cs:=CQ ⟨rv.1.2,-1,rv.1.1,0,⟨#[]⟩,[]⟩ (.slice ps.p 0 ps.c)) rfl rfl Ch Ce) ?_;refine JR ?_;refine B8 ?_;refine DA 53 rfl (fun hg1=>?_) (fun hg1=>?_)
  ·have hf:E.o.finished=true∨E.o.given=true:=.inl hg1;obtain⟨e3,e4⟩:=hno hf;refine Ha ?_;refine Oy ?_;refine VH ?_;exact Va
  refine Ho ?_;refine J1 ?_;refine K6 ?_;refine Iz ?_;refine mc (fun hgv=>?_) (fun hgv=>?_)
  ·have hf:E.o.finished=true∨E.o.given=true:=.inr hgv;obtain⟨e3,e4⟩:=hno hf;refine VH ?_;exact Va
  have hf:¬(E.o.finished=true∨E.o.given=true):=fun x=>by rcases x with x|x;rw [x]at hg1;cases hg1;rw [x]at hgv;cases hgv
  obtain⟨e3,e4,T1,hT1⟩:=hyes hf;refine J3 ?_
  have hn9:(w.put (AK s.side 2) (AK s.side 2) (AK s.a 4) ⟨C.cb,m2⟩ r ⟨E.q,E.o⟩).n=w.n.A3 (AK s.side 2) rv.2:=by rw [NM.G3 w hC hr,hs2];exact Jq hr hE _
  have hok9:(w.put (AK s.side 2) (AK s.side 2) (AK s.a 4) ⟨C.cb,m2⟩ r ⟨E.q,E.o⟩).ok:=hok.put hC hr hE hm2 _;refine Ao (H':=Aw nb (w.put (AK s.side 2) (AK s.side 2) (AK s.a 4) ⟨C.cb,m2⟩ r ⟨E.q,E.o⟩)*(HP.AA b9 0 (CQ ⟨rv.1.2,-1,rv.1.1,0,⟨#[]⟩,[]⟩ (.slice ps.p 0 ps.c))*(ps.h ([]:List ByteArray)*(HP.AA b3 0 (Bs s)*H)))) Tm ?_;refine J3 ?_;refine mE rfl (Zo hG nb t (AK s.side 2) (w.put (AK s.side 2) (AK s.side 2) (AK s.a 4) ⟨C.cb,m2⟩ r ⟨E.q,E.o⟩) L _ T1 _ hok9 (by rw [hn9];exact hT1) hi Ca) ?_;rintro _ _ ⟨rfl,w2,hok2,hn2,hkp,rfl⟩;rw [hn9]at hn2;obtain⟨c1,c2,c3,c4,c5,c6⟩:=Ak.DQ hi 4 0 _ hT1 C8;rw [←hn2]at c2;obtain⟨g1,g2,g3,g4⟩:=hdn hf;rw [←hn2]at g1 g2 g3 g4;obtain⟨k8,k9⟩:=NM.rM (i:=(AK s.side 2)) hr hE ⟨C.cb,m2⟩ E.o;obtain⟨r2,E2,hr2,hE2,hq2⟩:=hkp (AK s.side 2) (AK s.a 4) _ _ k8 k9;dsimp only at hq2;obtain⟨C2,_,_,hC2,_,_,l4,l5,_⟩:=c2.mem hi hi hk
  have l6:r2.es.length=4:=by have:=c2.D7 (AK s.side 2) hi;rw [show w2.n.ends.getD (AK s.side 2) []=r2.es.map (·.o)from getD_some (by show(w2.rows.map _)[(AK s.side 2)]?=_;rw [B!,hr2];rfl)]at this;simpa using this
  rw [NM.Ih hr2 hE2]at g1 g2 g3 g4;have hwn:w2.n.AF=w2.x.AF:=rfl;rw [hwn]at g1
  have hw2:w2.x.AF≤1024:=by rw [←hwn,←c2.AF _ hi];exact(c2.c _ hi).w2
  have hN2:rv.1.1≤s.s.size:=e4;refine J5 ?_;rw [←hq2];refine Ao (H':=A0 nb w2.x*(AB w2.xa.b w2.xa.o w2.cs w2.xa.s*(AB w2.ea.b w2.ea.o w2.rows w2.ea.s*(AB w2.ba.b w2.ba.o w2.AN w2.ba.s*(AB w2.ca.b w2.ca.o w2.cnt w2.ca.s*(AY C2.cb C2.c*(AB r2.a.b r2.a.o r2.es r2.a.s*(BN E2.q E2.o*(DW w2 (AK s.side 2) (AK s.side 2) (AK s.a 4) r2*(HP.AA b9 0 (CQ ⟨rv.1.2,-1,rv.1.1,0,⟨#[]⟩,[]⟩ (.slice ps.p 0 ps.c))*(ps.h ([]:List ByteArray)*(HP.AA b3 0 (Bs s)*H)))))))))))) (GM nb w2 _ hC2 hr2 hE2) ?_;refine mA 41 41 ?_;refine GF ?_;refine JT 1 rfl Py ?_;refine Jm 2 ?_;refine Ah 3 rfl Cb rfl rfl rfl rfl BL ?_;refine Ah 4 rfl Cb rfl rfl rfl rfl BX ?_;refine Ah 5 rfl Cb rfl rfl rfl rfl (A2 (v':=.bool false) (GE (i:=rv.1.2) (j:=0) rfl rfl) Cy) ?_;refine JT 6 rfl EP ?_;refine Jm 7 ?_;refine YK ?_;refine Ah 10 rfl Cb rfl rfl rfl rfl (A2 (v':=.bool false) (Dr (i:=rv.1.1) (j:=0) rfl rfl) Nj) ?_;refine JT 11 rfl EP ?_;refine Jm 12 ?_;refine Ah 13 rfl Cb rfl rfl rfl rfl BL ?_
  refine Ah 14 rfl Cb rfl rfl rfl rfl BX ?_;refine Ah 15 rfl Cb rfl rfl rfl rfl BL ?_;refine Ah 16 rfl Cb rfl rfl rfl rfl BX ?_;refine Ah 17 rfl Cb rfl rfl rfl rfl Gg ?_;refine Ah 18 rfl Cb rfl rfl rfl rfl (A2 (v':=.bool false) (F6 (i:=rv.1.1) (j:=s.s.size) rfl rfl) Nj) ?_;refine JT 19 rfl EP ?_;refine Jm 20 ?_;refine Ah 21 rfl Cb rfl rfl rfl rfl BZ ?_;refine Ah 22 rfl Cb rfl rfl rfl rfl CJ ?_;refine Ah 23 rfl Cb rfl rfl rfl rfl BL ?_;refine Ah 24 rfl Cb rfl rfl rfl rfl BX ?_;refine Ah 25 rfl Cb rfl rfl rfl rfl Gg ?_;refine Ah 26 rfl Cb rfl rfl rfl rfl BL ?_;refine Ah 27 rfl Cb rfl rfl rfl rfl BX ?_;refine Ah 28 rfl Cb rfl rfl rfl rfl (G7 (i:=(AW E2.o.wrote).size) (j:=rv.1.1) rfl rfl Ko) ?_;refine Ah 29 rfl Cb rfl rfl rfl rfl BZ ?_;refine Ah 30 rfl Cb rfl rfl rfl rfl CJ ?_;refine Ah 31 rfl Cb rfl rfl rfl rfl BL ?_
  refine Ah 32 rfl Cb rfl rfl rfl rfl BX ?_;refine Ah 33 rfl Cb rfl rfl rfl rfl (II (i:=(AW E2.o.wrote).size+rv.1.1) (j:=E2.o.AE) rfl rfl Ko) ?_;refine Ah 34 rfl Cb rfl rfl rfl rfl BZ ?_;refine Ah 35 rfl Cb rfl rfl rfl rfl CJ ?_;refine Ah 36 rfl Cb rfl rfl rfl rfl BL ?_;refine U6 ?_;refine Ah 39 rfl Cb rfl rfl rfl rfl (A2 (v':=.bool false) (F6 (i:=(AW E2.o.wrote).size+rv.1.1-E2.o.AE) (j:=w2.x.AF) rfl rfl) U2) ?_;refine JT 40 rfl EP ?_;refine Ei ?_;refine IP ?_;refine J3 ?_;refine mA 13 14 ?_;refine LY ?_;refine Jf 5 ?_;refine Jd 6 ?_;refine Jf 7 ?_;refine Jd 8 ?_;refine JT 9 rfl (A2 (v':=.string (AW (s.s.data.toList.take rv.1.1))) (ZW (h:=rv.1.1) rfl rfl Ca) (by rw [vK _ _ hN2])) ?_;refine JT 10 rfl (Ta (s:=E2.o.wrote) (t:=s.s.data.toList.take rv.1.1) rfl rfl MW) ?_;refine Jn 11 ?_;refine Jf 12 ?_
  refine Db 13 Cb rfl (EY (v:=.string (AW (E2.o.wrote++s.s.data.toList.take rv.1.1))) rfl rfl rfl trivial) ?_;refine DF ?_;refine J9 ?_;exact mR [4] (Aw nb (w2.put (AK s.side 2) (AK s.side 2) (AK s.a 4) ⟨C2.cb,C2.c⟩ r2 ⟨E2.q,{E2.o with wrote:=E2.o.wrote++s.s.data.toList.take rv.1.1}⟩)*H) (hE:=⟨fun ww hw=>Sat.right (A:=HP.AA b9 0 (CQ ⟨rv.1.2,-1,rv.1.1,0,⟨#[]⟩,[]⟩ (.slice ps.p 0 ps.c))*(ps.h ([]:List ByteArray)*HP.AA b3 0 (Bs s))) (Eq.mp (by congr 1;rw [Kd nb w2 _ hC2 hr2 hE2];ac_rfl) hw)⟩) rfl rfl ⟨rfl,(w2.put (AK s.side 2) (AK s.side 2) (AK s.a 4) ⟨C2.cb,C2.c⟩ r2 ⟨E2.q,{E2.o with wrote:=E2.o.wrote++s.s.data.toList.take rv.1.1}⟩),hok2.put hC2 hr2 hE2 (hok2.FP C2 (A_ hC2)) _,by rw [hst,g4,NM.G3 w2 hC2 hr2,Tt hC2],rfl⟩
 refine J2 ?_;refine JL (CT (i:=s.kind) (j:=2) rfl rfl) ?_;refine J3 ?_;refine mC (fun k2=>?_) (fun k2=>?_)
 ·skip
  have hst:w.n.step s=w.n.fin (AK s.side 2) (AK s.a 4):=by unfold AM.step;rw [if_neg k1,if_pos k2]
  obtain⟨hno,hyes⟩:=hw.dA hi hk;rw [hnx]at hno hyes;rw [hne]at hno hyes
  obtain⟨rv,erv⟩:∃rv,rv=C.c.s.finish (AK s.a 4):=Be
  rw [←erv]at hno hyes;refine TD ?_;refine J7 ?_;refine JL (A2 (v':=.agg (De ⟨2,((AK s.a 4):Nat),0,0,⟨#[]⟩⟩).toArray) FV rfl) ?_;refine BF (H':=AY C.cb C.c*(HP.AA b3 0 (Bs s)*(A0 nb w.x*(AB w.xa.b w.xa.o w.cs w.xa.s*(AB w.ea.b w.ea.o w.rows w.ea.s*(AB w.ba.b w.ba.o w.AN w.ba.s*(AB w.ca.b w.ca.o w.cnt w.ca.s*(AB r.a.b r.a.o r.es r.a.s*(BN E.q E.o*(DW w (AK s.side 2) (AK s.side 2) (AK s.a 4) r*H)))))))))) Cf ?_;refine mE rfl (H7 hG C.cb t C.c ⟨2,((AK s.a 4):Nat),0,0,⟨#[]⟩⟩ ⟨rv.1,-1,0,0,⟨#[]⟩,[]⟩ rv.2 (by rw [dO,←erv]) _ (hok.FP C hCm) hci Ca KO Cz) ?_;rintro _ _ ⟨m2,ps,hm2,hs2,hps,rfl,rfl⟩;dsimp only at hs2 hps⊢;refine Af Iv rfl ?_;rintro _ _ ⟨b12,rfl,rfl⟩
  refine Bj Ve ?_;refine JR ?_;refine B8 ?_;refine DA 144 rfl (fun hg2=>?_) (fun hg2=>?_)
  ·have hf:E.o.finished=true∨E.o.given=true:=.inl hg2;obtain⟨e3,e4⟩:=hno hf;refine Sr ?_;refine JH hg2 ?_;refine JL MX ?_;refine J2 ?_;refine GJ ?_;refine J4 ?_;refine JL Rs ?_;refine J7 ?_;exact ZT
  refine OL ?_;refine OL ?_;refine JL Mo ?_;refine J2 ?_;refine mc (fun hgv=>?_) (fun hgv=>?_)
  ·have hf:E.o.finished=true∨E.o.given=true:=.inr hgv;obtain⟨e3,e4⟩:=hno hf;refine J4 ?_;refine JL Rs ?_;refine J7 ?_;exact ZT
  have hf:¬(E.o.finished=true∨E.o.given=true):=fun x=>by rcases x with x|x;rw [x]at hg2;cases hg2;rw [x]at hgv;cases hgv
  obtain⟨e3,e4⟩:=hyes hf;refine J7 ?_;refine Bj Ue ?_;refine IE ?_;refine JL YT ?_;refine J6 ?_;exact mR [4] (Aw nb (w.put (AK s.side 2) (AK s.side 2) (AK s.a 4) ⟨C.cb,m2⟩ r ⟨E.q,{E.o with finished:=true}⟩)*H) (hE:=VV) rfl rfl ⟨rfl,(w.put (AK s.side 2) (AK s.side 2) (AK s.a 4) ⟨C.cb,m2⟩ r ⟨E.q,{E.o with finished:=true}⟩),hok.put hC hr hE hm2 _,Vn,rfl⟩
 refine J2 ?_;refine JL (CT (i:=s.kind) (j:=3) rfl rfl) ?_;refine J3 ?_;refine mC (fun k3=>?_) (fun k3=>?_)
 ·have hx:AK s.b 1000<1000:=E7 _ Ca
  have hst:w.n.step s=w.n.CU (AK s.side 2) (AK s.a 4) (AK s.b 1000):=by unfold AM.step;rw [if_neg k1,if_neg k2,if_pos k3]
  obtain⟨hno,hyes⟩:=hw.uD hi hk hx;rw [hnx]at hno hyes;rw [hne]at hno hyes
  obtain⟨rv,erv⟩:∃rv,rv=C.c.s.giveUp (AK s.a 4) (AK s.b 1000):=Be
  rw [←erv]at hno hyes;refine TD ?_;refine J7 ?_;refine mE rfl (If s.b hs.b 1000 Ca _) ?_;refine JR ?_;refine JL FC ?_;refine J8 ?_;refine JL (A2 (v':=.agg (De ⟨3,((AK s.a 4):Nat),0,(AK s.b 1000),⟨#[]⟩⟩).toArray) FV rfl) ?_;refine BF (H':=AY C.cb C.c*(HP.AA b3 0 (Bs s)*(A0 nb w.x*(AB w.xa.b w.xa.o w.cs w.xa.s*(AB w.ea.b w.ea.o w.rows w.ea.s*(AB w.ba.b w.ba.o w.AN w.ba.s*(AB w.ca.b w.ca.o w.cnt w.ca.s*(AB r.a.b r.a.o r.es r.a.s*(BN E.q E.o*(DW w (AK s.side 2) (AK s.side 2) (AK s.a 4) r*H)))))))))) Cf ?_;refine mE rfl (H7 hG C.cb t C.c ⟨3,((AK s.a 4):Nat),0,(AK s.b 1000),⟨#[]⟩⟩ ⟨rv.1,-1,0,0,⟨#[]⟩,[]⟩ rv.2 (by rw [dN,←erv]) _ (hok.FP C hCm) hci Ca KO Cz) ?_;rintro _ _ ⟨m2,ps,hm2,hs2,hps,rfl,rfl⟩;dsimp only at hs2 hps⊢
  refine Af Iv rfl ?_;rintro _ _ ⟨b15,rfl,rfl⟩;refine Bj Ve ?_;refine JR ?_;refine Bq ?_;refine mc (fun hgv=>?_) (fun hgv=>?_)
  ·obtain⟨e3,e4⟩:=hno hgv;refine J4 ?_;refine JL Rs ?_;refine J7 ?_;exact mR [4] (Aw nb (w.put (AK s.side 2) (AK s.side 2) (AK s.a 4) ⟨C.cb,m2⟩ r ⟨E.q,E.o⟩)*H) (hE:=Zu) rfl rfl aM
  obtain⟨e3,e4⟩:=hyes hgv;refine J7 ?_;refine Bj Ue ?_;refine JR ?_;refine J8 ?_;refine Bj (EY (v:=uN (AK s.b 1000)) rfl rfl rfl trivial) ?_;refine IE ?_;refine JL YT ?_;refine J6 ?_;exact mR [4] (Aw nb (w.put (AK s.side 2) (AK s.side 2) (AK s.a 4) ⟨C.cb,m2⟩ r ⟨E.q,{E.o with given:=true,code:=(AK s.b 1000)}⟩)*H) (hE:=Zu) rfl rfl ⟨rfl,(w.put (AK s.side 2) (AK s.side 2) (AK s.a 4) ⟨C.cb,m2⟩ r ⟨E.q,{E.o with given:=true,code:=(AK s.b 1000)}⟩),hok.put hC hr hE hm2 _,Vn,rfl⟩
 refine J2 ?_;refine JL (CT (i:=s.kind) (j:=4) rfl rfl) ?_;refine J3 ?_;refine mC (fun k4=>?_) (fun k4=>?_)
 ·skip
  have hst:w.n.step s=(true,w.n.tick):=by unfold AM.step;rw [if_neg k1,if_neg k2,if_neg k3,if_pos k4]
  obtain⟨C0,r0,E0,hC0,hr0,hE0,_,_,_⟩:=hw.mem (i:=0) (j:=0) (k:=0) Ca Ca Ca;refine J1 ?_;refine Ao (H':=A0 nb w.x*(AB w.xa.b w.xa.o w.cs w.xa.s*(AB w.ea.b w.ea.o w.rows w.ea.s*(AB w.ba.b w.ba.o w.AN w.ba.s*(AB w.ca.b w.ca.o w.cnt w.ca.s*(AY C0.cb C0.c*(AB r0.a.b r0.a.o r0.es r0.a.s*(BN E0.q E0.o*(DW w 0 0 0 r0*(HP.AA b3 0 (Bs s)*H)))))))))) (by rw [←GM nb w _ hC hr hE,GM nb w _ hC0 hr0 hE0]) ?_;refine J4 ?_;refine JL TM ?_;refine JL (DG (i:=0) rfl rfl hok.xa.1 Ca) ?_;refine JL (Ep (f:=0) (xs:=w.cs) (v:=ptr C0.cb 0) rfl inferInstance (by rw [getD_some hC0];rfl) Ca) ?_;refine JL Y9 ?_;refine BF (H':=AY C0.cb C0.c*(A0 nb w.x*(AB w.xa.b w.xa.o w.cs w.xa.s*(AB w.ea.b w.ea.o w.rows w.ea.s*(AB w.ba.b w.ba.o w.AN w.ba.s*(AB w.ca.b w.ca.o w.cnt w.ca.s*(AB r0.a.b r0.a.o r0.es r0.a.s*(BN E0.q E0.o*(DW w 0 0 0 r0*(HP.AA b3 0 (Bs s)*H)))))))))) Cf ?_;refine mE rfl (H7 hG C0.cb t C0.c ⟨4,0,0,0,⟨#[]⟩⟩ ⟨0,-1,0,0,⟨#[]⟩,[]⟩ C0.c.s.tick (by rw [U7]) _ (hok.FP C0 (A_ hC0)) (by have:=hw.c 0 Ca;rw [NM.E5 hC0]at this;exact this) Ca KO Cz) ?_;rintro _ _ ⟨m2,ps,hm2,hs2,hps,rfl,rfl⟩;dsimp only at hs2 hps⊢
  obtain⟨w1,hw1⟩:∃w1,w1=w.put 0 0 0 ⟨C0.cb,m2⟩ r0 ⟨E0.q,E0.o⟩:=Be
  have hok1:w1.ok:=by rw [hw1];exact hok.put hC0 hr0 hE0 hm2 _
  have hn1:w1.n=w.n.A3 0 (w.n.x 0).tick:=by rw [hw1,NM.G3 w hC0 hr0,hs2,NM.E5 hC0];exact Jq hr0 hE0 _
  have hx1:w1.n.x 1=w.n.x 1:=by rw [hn1,QH _ 0 1 _ hw.xl Ca,if_neg Ca]
  have hl1:It w1.n:=by rw [hn1];exact hw.len.A3 _ _
  obtain⟨C1,r1,E1,hC1,hr1,hE1,l4,l5,_⟩:=hl1.mem (i:=1) (j:=0) (k:=0) Ca Ca Ca;refine J2 ?_;refine Ao (H':=A0 nb w1.x*(AB w1.xa.b w1.xa.o w1.cs w1.xa.s*(AB w1.ea.b w1.ea.o w1.rows w1.ea.s*(AB w1.ba.b w1.ba.o w1.AN w1.ba.s*(AB w1.ca.b w1.ca.o w1.cnt w1.ca.s*(AY C1.cb C1.c*(AB r1.a.b r1.a.o r1.es r1.a.s*(BN E1.q E1.o*(DW w1 1 0 0 r1*(ps.h ([]:List ByteArray)*(HP.AA b3 0 (Bs s)*H))))))))))) (by rw [←GM nb w1 _ hC1 hr1 hE1,hw1,Kd nb w _ hC0 hr0 hE0];ac_rfl) ?_;refine J4 ?_;refine JL (A2 ES hok1.xv) ?_;refine JL (DG (i:=1) rfl rfl hok1.xa.1 Ca) ?_;refine JL (Ep (f:=0) (xs:=w1.cs) (v:=ptr C1.cb 0) rfl inferInstance (by rw [getD_some hC1];rfl) Ca) ?_;refine JL Y9 ?_;refine BF (H':=AY C1.cb C1.c*(A0 nb w1.x*(AB w1.xa.b w1.xa.o w1.cs w1.xa.s*(AB w1.ea.b w1.ea.o w1.rows w1.ea.s*(AB w1.ba.b w1.ba.o w1.AN w1.ba.s*(AB w1.ca.b w1.ca.o w1.cnt w1.ca.s*(AB r1.a.b r1.a.o r1.es r1.a.s*(BN E1.q E1.o*(DW w1 1 0 0 r1*(ps.h ([]:List ByteArray)*(HP.AA b3 0 (Bs s)*H))))))))))) Cf ?_
  refine mE rfl (H7 hG C1.cb t C1.c ⟨4,0,0,0,⟨#[]⟩⟩ ⟨0,-1,0,0,⟨#[]⟩,[]⟩ C1.c.s.tick (by rw [U7]) _ (hok1.FP C1 (A_ hC1)) (by have:=hw.c 1 Ca;rw [←hx1,NM.E5 hC1]at this;exact this) Ca KO Cz) ?_;rintro _ _ ⟨m3,pt,hm3,hs3,hpt,rfl,rfl⟩;dsimp only at hs3 hpt⊢
  obtain⟨w4,hw4⟩:∃w4,w4=w1.put 1 0 0 ⟨C1.cb,m3⟩ r1 ⟨E1.q,E1.o⟩:=Be
  have hok4:w4.ok:=by rw [hw4];exact hok1.put hC1 hr1 hE1 hm3 _
  have hn4:w4.n=w.n.tick:=by
   have e1:w4.n=w1.n.A3 1 (w1.n.x 1).tick:=by rw [hw4,NM.G3 w1 hC1 hr1,hs3,NM.E5 hC1];exact Jq hr1 hE1 _
   rw [e1,hx1,hn1];rfl
  obtain⟨w9,t9,J9,hok9,hw9,ht9,h9,h99⟩:∃(w9:NM) (t9:Nat) (J9:HP),w9.ok∧Ak t9 w9.n L Rr BY∧t9<800000∧(w9.n.carry s).2=(w.n.step s).2∧Aw nb w4*(HP.AA b3 0 (Bs s)*((pt.h ([]:List ByteArray)*ps.h ([]:List ByteArray))*H))=Aw nb w9*(HP.AA b3 0 (Bs s)*(J9*H)):=
   ⟨w4,t+1,pt.h ([]:List ByteArray)*ps.h ([]:List ByteArray),hok4,by rw [hn4];exact hw.tick,Ca,by
    rw [hst,hn4]
    unfold AM.carry
    split
    ·rfl
    ·dsimp only
     rw [if_neg Ca,if_neg Ca,if_neg Ca],rfl⟩
  refine BF (H':=Aw nb w9*(HP.AA b3 0 (Bs s)*(J9*H))) (by rw [←h99,hw4,Kd nb w1 _ hC1 hr1 hE1];ac_rfl) ?_;refine Wv ?_;rintro _ _ ⟨rfl,w2,hok2,hn2,rfl⟩;refine J4 ?_;exact Yq
 refine J2 ?_;refine JL (CT (i:=s.kind) (j:=5) rfl rfl) ?_;refine J3 ?_;refine mC (fun k5=>?_) (fun k5=>?_)
 ·skip
  have hst:w.n.step s=w.n.flush (AK s.side 2):=by unfold AM.step;rw [if_neg k1,if_neg k2,if_neg k3,if_neg k4,if_pos k5]
  obtain⟨Ls,hfl⟩:=hw.RS hi Ca;refine J4 ?_;refine BF (H':=Aw nb w*(HP.AA b3 0 (Bs s)*H)) Qq ?_;refine mE rfl (WQ hG nb t (AK s.side 2) w Ls _ hok hfl hi Ca) ?_;rintro _ _ ⟨rfl,w2,hok2,hn2,rfl⟩;refine J6 ?_;exact Qy
 refine J2 ?_;refine JL (CT (i:=s.kind) (j:=10) rfl rfl) ?_;refine J3 ?_;refine mC (fun k10=>?_) (fun k10=>?_)
 ·skip
  have hst:w.n.step s=w.n.read (AK s.side 2) (AK s.b 4) (AK s.a 200):=by unfold AM.step;rw [if_neg k1,if_neg k2,if_neg k3,if_neg k4,if_neg k5,if_pos k10]
  have hb4:AK s.b 4<4:=E7 _ Ca;have ha2:AK s.a 200<200:=E7 _ Ca;refine J1 ?_;refine Ao (H':=Aw nb w*(HP.AA b3 0 (Bs s)*H)) Qq ?_;refine mA 8 10 ?_;refine EK ?_;refine Jf 2 ?_;refine KK ?_;refine Jf 5 ?_;refine Jd 6 ?_;refine An 4 Cb rfl rfl (BJ rfl (If s.b hs.b 4 Ca _)) ?_;refine FB ?_;refine An 7 Cb rfl rfl (BJ rfl (If s.a hs.a 200 Ca _)) ?_;refine FB ?_;refine An 8 Cb rfl rfl (BJ rfl (XX hG nb t (AK s.side 2) (AK s.b 4) (AK s.a 200) w L Rr _ hok hw hi hb4 Ca Ca)) ?_;rintro _ _ ⟨rfl,w2,hok2,hn2,rfl⟩;refine DK ?_;refine EL 9 Cb rfl rfl FQ D2 ?_;refine Kf ?_;exact Qy
 refine J2 ?_;refine JL (CT (i:=s.kind) (j:=7) rfl rfl) ?_;refine J3 ?_;refine mC (fun k7=>?_) (fun k7=>?_)
 ·skip
  have hst:w.n.step s=w.n.Ee (AK s.side 2) s.s.data.toList:=by unfold AM.step;rw [if_neg k1,if_neg k2,if_neg k3,if_neg k4,if_neg k5,if_neg k10,if_pos k7]
  refine J6 ?_;refine BF (H':=Aw nb w*(HP.AA b3 0 (Bs s)*H)) Qq ?_;refine mE rfl (Rf hG nb t (AK s.side 2) s.s w L Rr _ hok hw hi hss Ca) ?_;rintro _ _ ⟨rfl,w2,hok2,hn2,rfl⟩;refine J6 ?_;exact Qy
 have hst:(w.n.step s).2=(w.n.carry s).2:=by unfold AM.step;rw [if_neg k1,if_neg k2,if_neg k3,if_neg k4,if_neg k5,if_neg k10,if_neg k7]
 obtain⟨w9,t9,J9,hok9,hw9,ht9,h9⟩:∃(w9:NM) (t9:Nat) (J9:HP),w9.ok∧Ak t9 w9.n L Rr BY∧t9<800000∧(w9.n.carry s).2=(w.n.step s).2∧Aw nb w*(HP.AA b3 0 (Bs s)*H)=Aw nb w9*(HP.AA b3 0 (Bs s)*(J9*H)):=⟨w,t,HP.BC,hok,hw,Ca,hst.symm,Cj⟩
 obtain⟨h9,h99⟩:=h9;refine Ao (H':=Aw nb w9*(HP.AA b3 0 (Bs s)*(J9*H))) (by rw [←h99,GM nb w _ hC hr hE]) ?_;refine Wv ?_;rintro _ _ ⟨rfl,w2,hok2,hn2,rfl⟩;refine J4 ?_;exact Yq
end
def Jc:List (Nat×ByteArray)→AM→AM
 |[],n=>n
 |f::fs,n=>Jc fs (n.comes f.1 f.2).2
def Fh(i:Nat):Nat→Nat→AM→AM
 |_,0,n=>n
 |k,m+1,n=>Fh i (k+1) m (n.read i k 5000).2
theorem Sa:∀(fs:List (Nat×ByteArray)) (z:Bool×AM),(Gk fs z).2=Jc fs z.2
 |[],z=>rfl
 |f::fs,z=>by rw [Gk,Sa fs];rfl
theorem O4(i:Nat):∀(m k:Nat) (z:Bool×AM),(Fw i k m z).2=Fh i k m z.2
 |0,k,z=>rfl
 |m+1,k,z=>by rw [Fw,O4 i m];rfl
def AM.Ae(n:AM):AM:=((n.tick.flush 0).2.flush 1).2
def AM.AR(n:AM):AM:=Jc (n.Ae.AN.drop n.AN.length) n.Ae
theorem VS(n:AM):n.round.2=Fh 1 0 4 (Fh 0 0 4 n.AR):=by
 unfold AM.round;dsimp only;rw [O4,O4,Sa];rfl
def BM(t:Nat)(n:AM):Prop:=∃L R,Ak t n L R BY
theorem Ak.up{t t':Nat}{n:AM}{L:Nat→List (List AT)}{R:Nat→Nat→Prop}{T:Nat→Nat→List UInt8}(h:Ak t n L R T)(ht:t≤t'):Ak t' n L R T:={h with c:=fun i hi=>(h.c i hi).mono ht}
theorem BM.comes{t:Nat}{n:AM}(h:BM t n)(ht:t≤1000000000){f:Nat×ByteArray}(hf:f∈n.AN):(n.comes f.1 f.2).1=true∧BM t (n.comes f.1 f.2).2∧(n.comes f.1 f.2).2.AN=n.AN:=by
 obtain⟨L,R,h⟩:=h;obtain⟨_,a,R',b,c⟩:=h.comes hf ht;exact⟨a,⟨L,R',b⟩,c⟩
theorem BM.Gk{t:Nat}(ht:t≤1000000000):∀(fs:List (Nat×ByteArray)) (n:AM),BM t n→(∀f∈fs,f∈n.AN)→(Gk fs (true,n)).1=true∧BM t (Jc fs n)∧(Jc fs n).AN=n.AN
 |[],n,h,_=>⟨rfl,h,rfl⟩
 |f::fs,n,h,hf=>by
  obtain⟨a,b,c⟩:=h.comes ht (hf f Cg);obtain⟨a',b',c'⟩:=BM.Gk ht fs (n.comes f.1 f.2).2 b (fun g hg=>by rw [c];exact hf g Cv);refine⟨?_,b',c'.trans c⟩;rw [Go.Proofs.YtgfdlpcdjklcoaaGreatDoor.Gk];show(Go.Proofs.YtgfdlpcdjklcoaaGreatDoor.Gk fs (true&&(n.comes f.1 f.2).1,(n.comes f.1 f.2).2)).1=true;rw [a];exact a'
theorem BM.read{t:Nat}{n:AM}(h:BM t n){i k:Nat}(hi:i<2)(hk:k<4)(AL:Nat):(n.read i k AL).1=true∧BM (t+1) (n.read i k AL).2:=by
 obtain⟨L,R,h⟩:=h;obtain⟨a,b⟩:=h.read hi hk AL;exact⟨a,L,R,b⟩
theorem BM.Fw{i:Nat}(hi:i<2):∀(m k t:Nat) (n:AM),BM t n→k+m≤4→(Fw i k m (true,n)).1=true∧BM (t+m) (Fh i k m n)
 |0,k,t,n,h,_=>⟨rfl,h⟩
 |m+1,k,t,n,h,hk=>by
  obtain⟨a,b⟩:=h.read hi (show k<4 by omega) 5000;obtain⟨a',b'⟩:=BM.Fw hi m (k+1) (t+1) _ b Ca;refine⟨?_,by rw [show t+(m+1)=t+1+m by omega];exact b'⟩;rw [Go.Proofs.YtgfdlpcdjklcoaaGreatDoor.Fw];show(Go.Proofs.YtgfdlpcdjklcoaaGreatDoor.Fw i (k+1) m (true&&(n.read i k 5000).1,(n.read i k 5000).2)).1=true;rw [a];exact a'
theorem BM.tick{t:Nat}{n:AM}(h:BM t n):BM (t+1) n.tick:=by
 obtain⟨L,R,h⟩:=h;exact⟨L,R,h.tick⟩
theorem BM.flush{t:Nat}{n:AM}(h:BM t n){i:Nat}(hi:i<2)(ht:t≤1000000000):(n.flush i).1=true∧BM (t+1) (n.flush i).2:=by
 obtain⟨L,R,h⟩:=h;obtain⟨a,L',b⟩:=h.flush hi ht;exact⟨a,L',R,b⟩
theorem ZF{α:Type}{z:Bool×α}{x:α}(h1:z.1=true)(h2:z.2=x):z=(true,x):=by
 cases z;cases h1;cases h2;rfl
theorem dL{n:AM}(a2:(n.tick.flush 0).1=true)(a3:((n.tick.flush 0).2.flush 1).1=true)(a4:(Gk (n.Ae.AN.drop n.AN.length) (true,n.Ae)).1=true)
  (a5:(Fw 0 0 4 (true,n.AR)).1=true)(a6:(Fw 1 0 4 (true,Fh 0 0 4 n.AR)).1=true):n.round.1=true:=by
 unfold AM.round;dsimp only
 have e1:th (th (true,n.tick) (·.flush 0)) (·.flush 1)=(true,n.Ae):=by
  unfold th AM.Ae;dsimp only;rw [a2,a3];rfl
 rw [e1];have e2:Gk (n.Ae.AN.drop n.AN.length) (true,n.Ae)=(true,n.AR):=ZF a4 (Sa _ (true,n.Ae));rw [show(true,n.Ae).2=n.Ae from rfl,e2];have e3:Fw 0 0 4 (true,n.AR)=(true,Fh 0 0 4 n.AR):=ZF a5 (O4 0 4 0 (true,n.AR));rw [e3];exact a6
theorem BM.Ae{t:Nat}{n:AM}(h:BM t n)(ht:t≤900000000):(n.tick.flush 0).1=true∧((n.tick.flush 0).2.flush 1).1=true∧BM (t+3) n.Ae:=by
 have h1:=h.tick;obtain⟨a2,h2⟩:=h1.flush (i:=0) Ca Ca;obtain⟨a3,h3⟩:=h2.flush (i:=1) Ca Ca;exact⟨a2,a3,h3⟩
theorem BM.AR{t:Nat}{n:AM}(h:BM t n)(ht:t≤900000000):(Go.Proofs.YtgfdlpcdjklcoaaGreatDoor.Gk (n.Ae.AN.drop n.AN.length) (true,n.Ae)).1=true∧BM (t+3) n.AR:=by
 obtain⟨a4,h4,_⟩:=BM.Gk (t:=t+3) Ca (n.Ae.AN.drop n.AN.length) n.Ae (h.Ae ht).2.2 (fun f hf=>List.mem_of_mem_drop hf);exact⟨a4,h4⟩
theorem BM.round{t:Nat}{n:AM}(h:BM t n)(ht:t≤900000000):n.round.1=true∧BM (t+11) n.round.2:=by
 obtain⟨a2,a3,_⟩:=h.Ae ht;obtain⟨a4,h4⟩:=h.AR ht;obtain⟨a5,h5⟩:=BM.Fw (i:=0) Ca 4 0 (t+3) n.AR h4 Ca;obtain⟨a6,h6⟩:=BM.Fw (i:=1) Ca 4 0 (t+3+4) (Fh 0 0 4 n.AR) h5 Ca;refine⟨dL a2 a3 a4 a5 a6,?_⟩;rw [VS,show t+11=t+3+4+4 by omega];exact h6
theorem BM.Gq:∀(k t:Nat) (n:AM),BM t n→t+11*k≤900000000→(Gq k n).1=true∧BM (t+11*k) (Gq k n).2
 |0,t,n,h,_=>⟨rfl,h⟩
 |k+1,t,n,h,ht=>by
  obtain⟨a,b⟩:=h.round Ca;rw [Go.Proofs.YtgfdlpcdjklcoaaGreatDoor.Gq,if_pos a];obtain⟨a',b'⟩:=BM.Gq k (t+11) _ b Ca;exact⟨a',by rw [show t+11*(k+1)=t+11+11*k by omega];exact b'⟩
section
variable{B:World}
def Zb(n:AM):Nat→AM
 |0=>n
 |1=>(n.flush 0).2
 |_+2=>((n.flush 0).2.flush 1).2
theorem wY(n:AM):n.step ⟨4,0,0,0,⟨#[]⟩⟩=(true,n.tick):=by
 unfold AM.step;rw [if_neg Cc,if_neg Cc,if_neg Cc,if_pos rfl]
theorem pJ:KH ⟨4,0,0,0,⟨#[]⟩⟩:=⟨⟨Cc,Cc⟩,⟨Cc,Cc⟩,⟨Cc,Cc⟩,Cc⟩
theorem X1{α:Type}{l:List α}{k:Nat}{x:α}(h:l[k]?=some x):l.drop k=x::l.drop (k+1):=by
 obtain⟨a,b⟩:=A?.1 h;rw [D! a,b]
def ZY(n:AM):Nat→AM
 |0=>n
 |1=>Fh 0 0 4 n
 |_+2=>Fh 1 0 4 (Fh 0 0 4 n)
theorem VN{t:Nat}{n:AM}{L:Nat→List (List AT)}{R:Nat→Nat→Prop}(h:Ak t n L R BY){i:Nat}(hi:i<2)(ht:t≤1000000):n.AN.length≤(n.flush i).2.AN.length:=by
 obtain⟨Ls,a,b,c,d⟩:=h.UQ hi;unfold AM.flush;rw [a,←h.cnt i hi,Sj (i:=i) (ks:=n.ks) b Ls (n.A3 i (n.x i).A6.2) (n.cnt i) rfl rfl rfl WX (by rw [h.cnt i hi];omega) d];show n.AN.length≤(n.AN++_).length;rw [A!];omega
set_option maxHeartbeats 16000000 in
theorem mK(hG:B.cell? ⟨0,0,none⟩=some (C3 106))(nb t k:Nat)(w:NM)(H:HP)(hok:w.ok)(hw:BM t w.n)(ht:t+11*k<600000):
  Fn Tryz.prog B 36 [ptr nb 0,iN k] (Aw nb w*H) (fun v H'=>v=.bool true∧∃w':NM,w'.ok∧w'.n=(Gq k w.n).2∧H'=Aw nb w'*H):=by
 refine mI Tryz.func36 ?_;refine J8 ?_;refine Fq ?_;refine Bk (α:=NM×Nat) (fun z=>[(5,iN z.2),(0,ptr nb 0),(1,iN k)]) (fun z=>Aw nb z.1*H) (fun z=>z.1.ok∧z.2≤k∧BM (t+11*z.2) z.1.n∧(Gq (k-z.2) z.1.n).2=(Gq k w.n).2) (fun z=>k-z.2) (w,0) ⟨hok,C! _,hw,rfl⟩ Du rfl ?_;rintro⟨w1,j⟩ ⟨q1,q2,q3,q4⟩;dsimp only at q1 q2 q3 q4⊢;refine J5 ?_;refine JL (Dr (i:=j) (j:=k) rfl rfl) ?_;refine J2 ?_;refine mC (fun hj=>?_) (fun hj=>?_)
 ·obtain⟨L0,R0,hw0⟩:=q3;have hro:=(BM.round ⟨L0,R0,hw0⟩ Ca).1;refine J7 ?_;refine JL (A2 (v':=.agg (Bs (⟨4,0,0,0,⟨#[]⟩⟩:DR)).toArray) FV rfl) ?_;refine mE rfl (O6 hG nb (t+11*j) (⟨4,0,0,0,⟨#[]⟩⟩:DR) w1 L0 R0 _ q1 hw0 pJ Ca) ?_;rintro _ _ ⟨rfl,wt,hokt,hnt,rfl⟩;rw [wY]at hnt;have hnt:wt.n=w1.n.tick:=hnt
  have hwt:BM (t+11*j+1) wt.n:=by rw [hnt];exact⟨L0,R0,hw0.tick⟩
  refine J4 ?_;refine Ao (H':=A0 nb wt.x*(AB wt.xa.b wt.xa.o wt.cs wt.xa.s*(AB wt.ea.b wt.ea.o wt.rows wt.ea.s*(AB wt.ba.b wt.ba.o wt.AN wt.ba.s*(AB wt.ca.b wt.ca.o wt.cnt wt.ca.s*(AO CL wt.cs*(AO CN wt.rows*H))))))) (FW nb wt _) ?_;refine J4 ?_;refine JL (A2 ES hokt.bv) ?_;refine J7 ?_;refine Fq ?_
  have hbl:wt.AN.length=w1.n.AN.length:=by
   have e:wt.n.AN.length=wt.AN.length:=B_ ..;rw [←e,hnt];rfl
  refine Bk (α:=NM×Nat) (fun z=>[(8,iN z.2),(7,iN wt.AN.length),(6,.bool true),(5,iN j),(0,ptr nb 0),(1,iN k)]) (fun z=>Aw nb z.1*H) (fun z=>z.1.ok∧z.2≤2∧BM (t+11*j+1+z.2) z.1.n∧z.1.n=Zb wt.n z.2) (fun z=>2-z.2) (wt,0) ⟨hokt,C! _,hwt,rfl⟩ FT (FW nb wt _).symm ?_;rintro⟨w2,i⟩ ⟨x1,x2,x3,x4⟩;dsimp only at x1 x2 x3 x4⊢;refine J4 ?_;refine JL (Dr (i:=i) (j:=2) rfl rfl) ?_;refine J2 ?_;refine mC (fun hi=>?_) (fun hi=>?_)
  ·obtain⟨L2,R2,hw2⟩:=id x3;obtain⟨Ls,hfl⟩:=hw2.RS hi Ca;refine J8 ?_;refine mE rfl (WQ hG nb _ i w2 Ls _ x1 hfl hi Ca) ?_;rintro _ _ ⟨rfl,w3,hok3,hn3,rfl⟩;refine J6 ?_;refine Ng ?_;refine J6 ?_;refine Es ?_
   exact BW (w3,i+1) ⟨hok3,by show i+1≤2;omega,by
    show BM (t+11*j+1+(i+1)) w3.n
    rw [hn3];exact(x3.flush Ca Ca).2,by
    show w3.n=Zb wt.n (i+1)
    rw [hn3,x4]
    rcases(show i=0∨i=1 by omega)with rfl|rfl<;>rfl⟩ X5 FT rfl
  have hi2:i=2:=by omega
  subst hi2
  have hs:w2.n=w1.n.Ae:=by rw [x4,hnt];rfl
  refine Eu ?_;have hb2:w2.AN.length=w2.n.AN.length:=(B_ ..).symm
  have hle:wt.AN.length≤w2.n.AN.length:=by
   rw [hbl,hs];obtain⟨L5,R5,hw5⟩:=hwt;rw [hnt]at hw5;have e0:w1.n.AN.length=w1.n.tick.AN.length:=rfl;have e1:=VN hw5 (i:=0) Ca Ca;obtain⟨L6,R6,hw6⟩:=(BM.flush ⟨L5,R5,hw5⟩ (i:=0) Ca Ca).2;have e2:=VN hw6 (i:=1) Ca Ca;show w1.n.AN.length≤w1.n.Ae.AN.length;unfold AM.Ae;omega
  refine Bk (α:=NM×Nat) (fun z=>[(10,iN z.2),(6,.bool true),(5,iN j),(0,ptr nb 0),(1,iN k)]) (fun z=>Aw nb z.1*H) (fun z=>z.1.ok∧z.2≤w2.n.AN.length∧BM (t+11*j+3) z.1.n∧z.1.n.AN=w2.n.AN∧Jc (w2.n.AN.drop z.2) z.1.n=w1.n.AR) (fun z=>w2.n.AN.length-z.2) (w2,wt.AN.length) ⟨x1,hle,x3,rfl,by show Jc (w2.n.AN.drop wt.AN.length) w2.n=_;rw [hbl,hs];rfl⟩ Gd rfl ?_;rintro⟨w3,m⟩ ⟨y1,y2,y3,y4,y5⟩;dsimp only at y1 y2 y3 y4 y5⊢
  have hb3:w3.AN.length=w2.n.AN.length:=by rw [←y4];exact Qe
  refine J2 ?_;refine Ao (H':=A0 nb w3.x*(AB w3.xa.b w3.xa.o w3.cs w3.xa.s*(AB w3.ea.b w3.ea.o w3.rows w3.ea.s*(AB w3.ba.b w3.ba.o w3.AN w3.ba.s*(AB w3.ca.b w3.ca.o w3.cnt w3.ca.s*(AO CL w3.cs*(AO CN w3.rows*H))))))) (FW nb w3 _) ?_;refine J5 ?_;refine JL Th ?_;refine J1 ?_;refine JL (Dr (i:=m) (j:=w3.AN.length) rfl rfl) ?_;refine J2 ?_;refine mC (fun hm=>?_) (fun hm=>?_)
  ·obtain⟨F,hF⟩:=Hp rfl hm
   have hFn:w3.n.AN[m]?=some (F.to,F.b):=by show(w3.AN.map (fun f=>(f.to,f.b)))[m]?=_;rw [B!,hF];rfl
   have hFb:w2.n.AN[m]?=some (F.to,F.b):=by rw [←y4];exact hFn
   have hFm:(F.to,F.b)∈w3.n.AN:=A_ hFn;obtain⟨L4,R4,hw4⟩:=id y3;obtain⟨_,hfl4⟩:=hw4.RS (i:=0) Ca Ca;have hb9:=hfl4.bl;rw [y4]at hb9;refine J5 ?_;refine mA 17 19 ?_;refine EK ?_;refine IZ ?_;refine JT 4 rfl Th ?_;refine Jm 5 ?_;refine JT 6 rfl Y' ?_;refine Jf 7 ?_;refine JT 8 rfl (Ep (f:=0) (xs:=w3.AN) (v:=iN F.to) rfl inferInstance SF Ca) ?_;refine Jm 9 ?_;refine Jn 10 ?_;refine Jf 11 ?_;refine JT 12 rfl Th ?_;refine Jm 13 ?_;refine JT 14 rfl Y' ?_;refine Jf 15 ?_;refine JT 16 rfl (Ep (f:=1) (xs:=w3.AN) (v:=.string F.b) rfl inferInstance SF Ca) ?_;refine Ea (H':=Aw nb w3*H) (FW nb w3 _).symm ?_;refine An 17 Cb rfl rfl (BJ rfl (Xs hG nb _ F.to F.b w3 L4 R4 _ y1 hw4 hFm Ca)) ?_;rintro _ _ ⟨rfl,w5,hok5,hn5,rfl⟩;refine DK ?_;refine EL 18 Cb rfl rfl FQ D2 ?_;refine Kf ?_;refine Ng ?_;refine J6 ?_;refine Es ?_;obtain⟨_,v2,v3⟩:=y3.comes Ca hFm
   exact BW (w5,m+1) ⟨hok5,by show m+1≤_;omega,by show BM _ w5.n;rw [hn5];exact v2,by show w5.n.AN=_;rw [hn5,v3,y4],by
    show Jc (w2.n.AN.drop (m+1)) w5.n=_
    rw [←y5,X1 hFb,hn5];rfl⟩ (by show w2.n.AN.length-(m+1)<w2.n.AN.length-m;omega) Gd rfl
  have hm2:m=w2.n.AN.length:=by omega
  subst hm2;rw [F_]at y5;have hg:w3.n=w1.n.AR:=y5;refine Ao (H':=Aw nb w3*H) (FW nb w3 _).symm ?_;refine J8 ?_;refine JL RT ?_;refine J3 ?_;refine Bk (α:=NM×Nat) (fun z=>[(12,iN z.2),(6,.bool true),(5,iN j),(0,ptr nb 0),(1,iN k)]) (fun z=>Aw nb z.1*H) (fun z=>z.1.ok∧z.2≤2∧BM (t+11*j+3+4*z.2) z.1.n∧z.1.n=ZY w1.n.AR z.2) (fun z=>2-z.2) (w3,0) ⟨y1,C! _,y3,hg⟩ Gd rfl ?_;rintro⟨w4,i2⟩ ⟨z1,z2,z3,z4⟩;dsimp only at z1 z2 z3 z4⊢;refine J4 ?_;refine JL (Dr (i:=i2) (j:=2) rfl rfl) ?_;refine J2 ?_;refine mC (fun hi2=>?_) (fun hi2=>?_)
  ·refine J6 ?_;refine Fq ?_;refine Bk (α:=NM×Nat) (fun z=>[(13,iN z.2),(12,iN i2),(6,.bool true),(5,iN j),(0,ptr nb 0),(1,iN k)]) (fun z=>Aw nb z.1*H) (fun z=>z.1.ok∧z.2≤4∧BM (t+11*j+3+4*i2+z.2) z.1.n∧Fh i2 z.2 (4-z.2) z.1.n=Fh i2 0 4 w4.n) (fun z=>4-z.2) (w4,0) ⟨z1,C! _,z3,rfl⟩ FT rfl ?_;rintro⟨w6,k2⟩ ⟨u1,u2,u3,u4⟩;dsimp only at u1 u2 u3 u4⊢;refine J4 ?_;refine JL (Dr (i:=k2) (j:=4) rfl rfl) ?_;refine J2 ?_;refine mC (fun hk2=>?_) (fun hk2=>?_)
   ·obtain⟨L6,R6,hw6⟩:=id u3;refine J9 ?_;refine mE rfl (XX hG nb _ i2 k2 5000 w6 L6 R6 _ u1 hw6 hi2 hk2 Ca Ca) ?_;rintro _ _ ⟨rfl,w7,hok7,hn7,rfl⟩;refine J6 ?_;refine Ng ?_;refine J6 ?_;refine Es ?_
    exact BW (w7,k2+1) ⟨hok7,by show k2+1≤4;omega,by show BM (t+11*j+3+4*i2+(k2+1)) w7.n;rw [hn7];exact(u3.read hi2 hk2 5000).2,by
     show Fh i2 (k2+1) (4-(k2+1)) w7.n=_
     rw [←u4,show 4-k2=(4-(k2+1))+1 by omega,hn7];rfl⟩ (by show 4-(k2+1)<4-k2;omega) FT rfl
   refine J8 ?_;refine Es ?_
   have hk4:k2=4:=by omega
   subst hk4
   exact BW (w6,i2+1) ⟨u1,by show i2+1≤2;omega,by show BM (t+11*j+3+4*(i2+1)) w6.n;rw [show t+11*j+3+4*(i2+1)=t+11*j+3+4*i2+4 by omega];exact u3,by
    show w6.n=ZY w1.n.AR (i2+1)
    have u4:w6.n=Fh i2 0 4 w4.n:=u4
    rw [u4,z4]
    rcases(show i2=0∨i2=1 by omega)with rfl|rfl<;>rfl⟩ (by show 2-(i2+1)<2-i2;omega) Gd rfl
  have hi3:i2=2:=by omega
  subst hi3
  have z5:w1.n.round.2=w4.n:=by rw [VS,z4];rfl
  have hrd:=BM.round (t:=t+11*j) ⟨L0,R0,hw0⟩ Ca;rw [z5,show t+11*j+11=t+11*(j+1) by omega]at hrd;refine J8 ?_;refine JL Py ?_;refine JK ?_;refine KT ?_
  exact BW (w4,j+1) ⟨z1,by show j+1≤k;omega,hrd.2,by
   show(Gq (k-(j+1)) w4.n).2=_
   rw [←q4,show k-j=(k-(j+1))+1 by omega,Gq,if_pos hro,z5]⟩ Z5 Du rfl
 refine Bq ?_
 have hjk:j=k:=by omega
 subst hjk;rw [Nat.sub_self]at q4;exact mR [4] (Aw nb w1*H) rfl rfl ⟨rfl,w1,q1,q4,rfl⟩
end
end Go.Proofs.YtgfdlpcdjklcoaaGreatDoor
