/- A part of this proof: steps of the program, plain facts; no condition. -/
import Derived.Test.YtgfdlpcdjklcoaaGreatDoorS15
import Derived.JoinedCond
import Derived.Leaving
namespace Go.Proofs.YtgfdlpcdjklcoaaGreatDoor
open Go Go.RowKit
open _root_.List renaming length_map→a_,length_singleton→c_,length_append→d_,range→e_,getD_eq_getElem?_getD→g',getElem?_eq_some_iff→h_,getElem?_eq_getElem→i_,mem_append→j_,mem_singleton→j',take_succ_eq_append_getElem→k_,length_range→l_,getElem?_map→m_,map_append→r_,mem_of_getElem?→v_,mem_map→xr,take_length→xt,length_set→xu,take_zero→xw,mem_range→xx,cons→x_
open _root_.Array renaming length_toList→b_
open _root_.UInt64 renaming ofNat→f_
open _root_.UInt8 renaming ofNat→g_
open _root_.Go.Value renaming slice→n_,bool→q'
open _root_.Go.IntKind renaming signed→o_,bits→q_,min→t_,max→u_,u64→xy
open _root_.Nat renaming zero_le→p_,le_refl→s_,le_succ→xz
open _root_.Eq renaming mp→w_
set_option linter.unusedVariables false
set_option linter.unusedSimpArgs false
set_option maxRecDepth 20000
section
variable{B:World}
structure GJ where
 kind:Int
 a:Int
 b:Int
 q:FN
 fs:List RF
 p:Option Addr
 bb:Nat
 oo:Nat
 cc:Nat
 str:ByteArray
@[reducible] def Fp(s:GJ):List Value:=[.int .i64 s.kind,.int .i64 s.a,.int .i64 s.b,.int .i64 s.q.kind,.int .i64 s.q.stream,.int .i64 s.q.AN,uN s.q.code,.string s.q.data,.slice s.p s.fs.length s.cc,.string s.str]
@[reducible] instance laySt:AB GJ:=⟨10,Fp,⟨0,0,0,⟨0,0,0,0,⟨#[]⟩⟩,[],none,0,0,0,⟨#[]⟩⟩,fun _=>rfl,fun _ v h=>by
 simp at h;rcases h with rfl|rfl|rfl|rfl|rfl|rfl|rfl|rfl|rfl|rfl<;>rfl⟩
structure MV(B:World)(s:GJ):Prop where
 sl:Sl s.p s.bb s.oo s.fs.length s.cc
 rd:∀H',AW B H' s.bb s.oo s.fs
 ok:∀r∈s.fs,r.ok
 MG:∀H',∀r∈s.fs,AW B H' r.b r.o r.f.ranges
 a1: -9223372036854775808≤s.a∧s.a<9223372036854775808
 b1: -9223372036854775808≤s.b∧s.b<9223372036854775808
 m1:s.q.AN<9223372036854775808
 fl:s.fs.length≤1048576
 z1:s.str.size≤1048576
 z2:s.q.data.size≤1048576
 z3:∀r∈s.fs,r.f.data.size≤1048576∧r.f.ranges.length≤1048576
def KH(l:List RF):Nat:=(l.map fun r=>r.f.data.size+r.f.ranges.length).sum
theorem H_(l:List RF)(r:RF):KH (l++[r])=KH l+(r.f.data.size+r.f.ranges.length):=by simp [KH]
structure YD(s:GJ):Prop where
 s1:s.str.size≤16384
 s2:s.q.data.size≤16384
 s3:KH s.fs+s.fs.length≤16384
def ux(l:List GJ):Prop:=l.length≤16384∧∀s∈l,YD s
theorem r7{α:Type}[AB α]{l:List α}{i:Nat}(h:i<l.length):l.take (i+1)=l.take i++[l.getD i AB.AC]:=by
 rw [k_ h,g',i_ h];rfl
theorem au(f:AZ):(Aj f).length≤64+16*f.ranges.length+f.data.size:=by
 have hd:f.data.data.toList.length=f.data.size:=by rw [b_];rfl
 have v1:=B8 f.stream.toNat;have v2:=B8 f.code;have v3:=B8 f.offset;have v4:=B8 f.data.size;unfold Aj;split
 ·simp;omega
 split
 ·simp;omega
 split
 ·have h1:=B8 (rg f.ranges 0).hi;have h2:=B8 (f.ranges.length-1);have h3:=B8 ((rg f.ranges 0).hi-(rg f.ranges 0).lo);have h4:=Nr f.ranges (f.ranges.length-1);simp only [KU,d_,c_];omega
 split
 ·simp only [d_,c_];omega
 split
 ·simp only [d_,c_,hd];omega
 ·simp only [d_,c_];omega
theorem dO:∀l:List RF,(BN (l.map (·.f))).length≤64*l.length+16*KH l
 |[]=>p_ _
 |r::l=>by
  have h1:=au r.f;have h2:=dO l
  have h3:KH (r::l)=r.f.data.size+r.f.ranges.length+KH l:=by simp [KH]
  have h4:(BN ((r::l).map (·.f))).length=(Aj r.f).length+(BN (l.map (·.f))).length:=by simp [BN]
  rw [h3,h4,List.length_cons];omega
theorem Yf{α:Type}[AB α]{l:List α}{i:Nat}(h:i<l.length){x:α}(hx:x∈l.take (i+1)):x∈l.take i∨x=l.getD i AB.AC:=by
 rw [k_ h]at hx;rcases j_.1 hx with hx|hx
 ·exact .inl hx
 ·right;rw [j'.1 hx,g',i_ h];rfl
set_option maxHeartbeats 4000000 in
theorem nu(p:Option Addr)(b o c:Nat)(l:List GJ)(H:HP)(hs:Sl p b o l.length c)(hr:AW B H b o l)(hok:∀s∈l,MV B s)(hl:l.length≤1048576):
  Fn Tryz.prog B 31 [.slice p l.length c] H (fun v H'=>∃bb:Bool,v=.bool bb∧(bb=true→ux l)∧H'=H):=by
 refine mI Tryz.func31 ?_;refine Iw ?_;refine CZ ?_;refine BL (α:=Nat×Nat) (fun z=>[(3,iN z.2),(4,iN z.1),(0,.slice p l.length c)]) (fun _=>H) (fun z=>z.1≤l.length∧l.length≤z.2∧z.2≤1000000000000∧(z.2≤16384→∀s∈l.take z.1,YD s)) (fun z=>l.length-z.1) (0,l.length) ⟨p_ _,s_ _,by show l.length≤_;omega,fun _ s h=>by rw [xw]at h;cases h⟩ CN rfl ?_;rintro⟨i,n⟩ ⟨q1,q2,q3,q4⟩;dsimp only at q1 q2 q3 q4⊢;refine J6 ?_;refine JL (GH (i:=i) (j:=l.length) rfl rfl) ?_;refine J1 ?_;refine CJ 12 rfl (fun hg1=>?_) (fun hg1=>?_)
 ·have g12:i<l.length:=hg1;have g:=hok _ (Ex (d:=AB.AC) g12);have gz1:=g.z1;have gz2:=g.z2;have gfl:=g.fl;refine Hh ?_;refine J1 ?_;refine Hh ?_;refine JL XS ?_;refine JP ?_;refine J2 ?_;refine mC (fun h15=>?_) (fun h15=>?_)
  ·refine J5 ?_;refine mA 24 24 ?_;refine LX ?_;refine JT 3 rfl Od ?_;refine Jf 4 ?_;refine JT 5 rfl (DT (f:=9) (xs:=l) rfl inferInstance rfl g12) ?_;refine JT 6 rfl IG ?_;refine JT 7 rfl Kd ?_;refine Jm 8 ?_;refine Jm 9 ?_;refine JT 10 rfl Od ?_;refine Jf 11 ?_;refine Jf 12 ?_;refine JT 13 rfl (DT (f:=7) (xs:=l) rfl inferInstance rfl g12) ?_;refine JT 14 rfl IG ?_;refine JT 15 rfl Kd ?_;refine Jm 16 ?_;refine Jm 17 ?_;refine JT 18 rfl Od ?_;refine Jf 19 ?_;refine JT 20 rfl S2 ?_;refine JT 21 rfl Dm ?_;refine JT 22 rfl Kd ?_;refine Ja 23 ?_;refine HN ?_;refine CZ ?_
   refine BL (α:=Nat×Nat) (fun z=>[(5,iN z.1),(3,iN z.2),(4,iN i),(0,.slice p l.length c)]) (fun _=>H) (fun z=>z.1≤(l.getD i AB.AC).fs.length∧(n+(l.getD i AB.AC).str.size+(l.getD i AB.AC).q.data.size+(l.getD i AB.AC).fs.length)≤z.2∧z.2≤1000000000000∧z.2=(n+(l.getD i AB.AC).str.size+(l.getD i AB.AC).q.data.size+(l.getD i AB.AC).fs.length)+KH ((l.getD i AB.AC).fs.take z.1)) (fun z=>(l.getD i AB.AC).fs.length-z.1) (0,(n+(l.getD i AB.AC).str.size+(l.getD i AB.AC).q.data.size+(l.getD i AB.AC).fs.length)) ⟨p_ _,s_ _,by show(n+(l.getD i AB.AC).str.size+(l.getD i AB.AC).q.data.size+(l.getD i AB.AC).fs.length)≤_;omega,by rw [xw];rfl⟩ BR rfl ?_;rintro⟨k,n2⟩ ⟨r1,r2,r3,r4⟩;dsimp only at r1 r2 r3 r4⊢;refine J6 ?_;refine JL Od ?_;refine J1 ?_;refine JL S2 ?_;refine J1 ?_;refine JL (GH (i:=k) (j:=(l.getD i AB.AC).fs.length) rfl rfl) ?_;refine J1 ?_;refine CJ 49 rfl (fun hg2=>?_) (fun hg2=>?_)
   ·have g49:k<(l.getD i AB.AC).fs.length:=hg2;have gf:=g.z3 _ (Ex (d:=AB.AC) g49);have gf1:=gf.1;have gf2:=gf.2;refine KV ?_;refine JL (Xi (i:=n2) (j:=16384) rfl rfl) ?_;refine JL FR ?_;refine J2 ?_;refine mC (fun h52=>?_) (fun h52=>?_)
    ·refine J4 ?_;refine mA 24 24 ?_;refine LX ?_;refine JT 3 rfl Od ?_;refine Jf 4 ?_;refine JT 5 rfl S2 ?_;refine Jm 6 ?_;refine JT 7 rfl oD ?_;refine Jf 8 ?_;refine JT 9 rfl (DT (f:=5) (xs:=(l.getD i AB.AC).fs) rfl (g.rd _) rfl g49) ?_;refine JT 10 rfl IG ?_;refine JT 11 rfl Kd ?_;refine Jm 12 ?_;refine Jm 13 ?_;refine JT 14 rfl Od ?_;refine Jf 15 ?_;refine JT 16 rfl S2 ?_;refine Jm 17 ?_;refine JT 18 rfl oD ?_;refine Jf 19 ?_;refine JT 20 rfl (DT (f:=6) (xs:=(l.getD i AB.AC).fs) rfl (g.rd _) rfl g49) ?_;refine JT 21 rfl Dm ?_;refine JT 22 rfl Kd ?_;refine Ja 23 ?_;refine JD ?_;refine Fb ?_
     exact At (k+1,n2+((l.getD i AB.AC).fs.getD k AB.AC).f.data.size+((l.getD i AB.AC).fs.getD k AB.AC).f.ranges.length) ⟨g49,by show(n+(l.getD i AB.AC).str.size+(l.getD i AB.AC).q.data.size+(l.getD i AB.AC).fs.length)≤n2+((l.getD i AB.AC).fs.getD k AB.AC).f.data.size+((l.getD i AB.AC).fs.getD k AB.AC).f.ranges.length;omega,by show n2+((l.getD i AB.AC).fs.getD k AB.AC).f.data.size+((l.getD i AB.AC).fs.getD k AB.AC).f.ranges.length≤_;omega,by show n2+((l.getD i AB.AC).fs.getD k AB.AC).f.data.size+((l.getD i AB.AC).fs.getD k AB.AC).f.ranges.length=(n+(l.getD i AB.AC).str.size+(l.getD i AB.AC).q.data.size+(l.getD i AB.AC).fs.length)+KH ((l.getD i AB.AC).fs.take (k+1));rw [r7 g49,H_];omega⟩ (by show(l.getD i AB.AC).fs.length-(k+1)<(l.getD i AB.AC).fs.length-k;omega) BR rfl
    have hk:n2≤16384→k=(l.getD i AB.AC).fs.length:=(by intro h;exact absurd h h52)
    refine J8 ?_;refine FO ?_
    exact At (i+1,n2) ⟨g12,Cg,by show n2≤_;omega,fun h s hs=>by
     have h:n2≤16384:=h
     rcases Yf g12 hs with hs|rfl
     ·exact q4 Cg s hs
     ·have h6:=hk h
      rw [h6,xt]at r4
      exact⟨Cg,Cg,Cg⟩⟩ Lp CN rfl
   have hk:n2≤16384→k=(l.getD i AB.AC).fs.length:=(by have h7:¬k<(l.getD i AB.AC).fs.length:=hg2;omega)
   refine R7 ?_;refine J2 ?_;refine JJ ?_;refine J8 ?_;refine FO ?_
   exact At (i+1,n2) ⟨g12,Cg,by show n2≤_;omega,fun h s hs=>by
    have h:n2≤16384:=h
    rcases Yf g12 hs with hs|rfl
    ·exact q4 Cg s hs
    ·have h6:=hk h
     rw [h6,xt]at r4
     exact⟨Cg,Cg,Cg⟩⟩ Lp CN rfl
  have hki:n≤16384→i=l.length:=(by intro h;exact absurd h h15)
  refine J8 ?_;refine JL XS ?_;refine J4 ?_;exact mR [2] H rfl rfl Yb
 have hki:n≤16384→i=l.length:=(by have h7:¬i<l.length:=hg1;omega)
 refine Ie ?_;refine Ie ?_;refine Iq ?_;refine JJ ?_;refine J8 ?_;refine JL XS ?_;refine J4 ?_;exact mR [2] H rfl rfl Yb
theorem uR(ks:List UInt8)(hk:ks.length=16)(sd:Nat)(xs:List UInt8)(p:Option Addr)(b o c:Nat)(H:HP)(hs:Sl p b o xs.length c)(hr:AW B H b o xs)(hx:xs.length<90000000):
  Fn Tryz.prog B 65 [.agg (AE ks).toArray,iN sd,.slice p xs.length c] H (fun v H'=>∃(x:Value) (bb:Bool) (A:HP) (q:Option Addr) (b' o' c':Nat) (ys:List UInt8),v=.tuple #[x,.slice q ys.length c',.bool bb]∧ys.length≤xs.length∧Sl q b' o' ys.length c'∧(∀R,AW B (A*R) b' o' ys)∧H'=A*H):=by
 refine(Uh ks hk sd xs p b o c H hs hr hx).mono ?_;intro v H' h
 cases e:Bj ks (g_ sd) xs with
 |none=>
  rw [e]at h;obtain⟨rfl,rfl⟩:=h;exact⟨_,false,HP.BQ,none,0,0,0,[],rfl,p_ _,DG,fun R=>⟨fun i f v e hi=>by simp at hi⟩,Ct⟩
 |some z=>
  obtain⟨n,ys⟩:=z;rw [e]at h;obtain⟨sv,rfl,q,b',o',c',s',rfl,h1,h2,rfl⟩:=h;exact⟨_,true,AD b' o' ys s',q,b',o',c',ys,rfl,(Js e).1,h1,fun R=>inferInstance,rfl⟩
theorem oG{xs:List UInt8}{fs:List AZ}{q:Option Addr}{c' k:Nat}{at_:Value}(h:(∃e,DZ xs=.error e∧fs=[]∧q=none∧c'=0∧k=5∧at_=iN e)∨(DZ xs=.ok fs∧k=0∧at_=.int .i64 (-1))):fs.length≤xs.length:=by
 rcases h with⟨e,_,rfl,_⟩|⟨h,_⟩
 ·exact Nn
 ·exact(N1 h).1
structure sj where
 A:HP
 p:Option Addr
 b:Nat
 o:Nat
 c:Nat
 rs:List RF
set_option maxHeartbeats 4000000 in
theorem pm(s:GJ)(ks:List UInt8)(hk:ks.length=16)(H:HP)(hst:MV B s):
  Fn Tryz.prog B 32 [.agg (Fp s).toArray,.agg (AE ks).toArray] H (fun v H'=>∃bb:Bool,v=.bool bb∧H'=H):=by
 refine mI Tryz.func32 ?_;refine J2 ?_;refine AV (DP (l:=Fp s) rfl rfl) rfl ?_;rintro _ _ ⟨b2,rfl,rfl⟩;refine PP ?_;rintro _ _ ⟨b3,rfl,rfl⟩;refine Iw ?_;refine JL (CI (i:=s.kind) (j:=5) rfl rfl) ?_;refine J2 ?_;refine BO (α:=sj) (fun z=>[(5,.slice z.p z.rs.length z.c),(2,ptr b2 0),(3,ptr b3 0)]) (fun z=>z.A*(HP.AA b3 0 (AE ks)*(HP.AA b2 0 (Fp s)*H))) (fun z=>Sl z.p z.b z.o z.rs.length z.c∧(∀R,AW B (z.A*R) z.b z.o z.rs)∧z.rs.length<1000000000000) ?_ ?_
 ·refine mC (fun h16=>?_) (fun h16=>?_)
  ·refine J3 ?_;refine AV NG rfl ?_;rintro _ _ ⟨p20,b20,o20,c20,s20,rfl,hs20,hc20,rfl⟩;refine mE rfl (Sn p20 b20 o20 c20 s.str.data.toList _ hs20 inferInstance (by rw [b_];have h7:=hst.z1;show s.str.size<_;omega)) ?_;rintro _ _ ⟨p21,b21,o21,c21,s21,rs,fs,dk,dat,rfl,hs21,hc21,hmap,hro,rfl,hdd⟩
   have hrl:rs.length=fs.length:=by rw [←hmap,a_]
   have hs21':Sl p21 b21 o21 rs.length c21:=by rw [hrl];exact hs21
   have hfl:fs.length<1000000000000:=(by have h7:=oG hdd;have h9:=hst.z1;have h8:s.str.data.toList.length=s.str.size:=b_;omega)
   refine J6 ?_
   exact Au ((AD b21 o21 rs s21*(A0 rs*AD b20 o20 s.str.data.toList s20))*(HP.AA b3 0 (AE ks)*(HP.AA b2 0 (Fp s)*H))) (hE:=QN) (AU ⟨AD b21 o21 rs s21*(A0 rs*AD b20 o20 s.str.data.toList s20),p21,b21,o21,c21,rs⟩ ⟨hs21',fun R=>inferInstance,by show rs.length<_;omega⟩ (.cons (by show some (n_ p21 fs.length c21)=some (n_ p21 rs.length c21);rw [hrl]) La) rfl)
  refine J1 ?_;exact Au (HP.BQ*(HP.AA b3 0 (AE ks)*(HP.AA b2 0 (Fp s)*H))) (hE:=by rw [HP.BA];exact Il) (AU ⟨HP.BQ,s.p,s.bb,s.oo,s.cc,s.fs⟩ ⟨hst.sl,fun R=>hst.rd _,by show s.fs.length<_;have:=hst.fl;omega⟩ CN rfl)
 ·rintro⟨A,p5,b5,o5,c5,rs⟩ ⟨hs5,hr5,hl5⟩;dsimp only at hs5 hr5 hl5⊢;refine J4 ?_;refine mE rfl (kB p5 b5 o5 c5 rs _ hs5 (hr5 _) hl5) ?_;rintro _ _ ⟨bb,rfl,rfl⟩;refine J5 ?_;refine BO (α:=Bool) (fun b=>[(35,.bool b),(6,.bool bb),(2,ptr b2 0),(3,ptr b3 0)]) (fun _=>A*(HP.AA b3 0 (AE ks)*(HP.AA b2 0 (Fp s)*H))) (fun _=>True) ?_ ?_
  ·refine J3 ?_;refine JL (CI (i:=s.kind) (j:=2) rfl rfl) ?_;refine J1 ?_;refine CJ 30 rfl (fun hg1=>?_) (fun hg1=>?_)
   ·refine Ou ?_;refine JL (CI (i:=s.q.kind) (j:=6) rfl rfl) ?_;refine JP ?_;refine J1 ?_;exact AU _ trivial BR rfl
   refine N2 ?_;refine Jq ?_;refine J1 ?_;exact AU _ trivial BR rfl
  ·rintro b35 _;refine J1 ?_;refine BO (α:=HP×Bool) (fun z=>[(6,.bool z.2),(2,ptr b2 0)]) (fun z=>z.1*(HP.AA b3 0 (AE ks)*(HP.AA b2 0 (Fp s)*H))) (fun _=>True) ?_ ?_
   ·refine mc (fun hc=>?_) (fun hc=>?_)
    ·refine J2 ?_;refine CZ ?_;refine BL (α:=Nat×HP×Bool) (fun z=>[(7,iN z.1),(6,.bool z.2.2),(2,ptr b2 0),(3,ptr b3 0)]) (fun z=>z.2.1*(HP.AA b3 0 (AE ks)*(HP.AA b2 0 (Fp s)*H))) (fun z=>z.1≤2) (fun z=>2-z.1) (0,A,bb) C9 BR rfl ?_;rintro⟨i,A1,b1⟩ hi;dsimp only at hi⊢;refine J4 ?_;refine JL (GH (i:=i) (j:=2) rfl rfl) ?_;refine J2 ?_;refine mC (fun h37=>?_) (fun h37=>?_)
     ·have h37:i<2:=h37;refine J6 ?_;refine JL MJ ?_;refine J2 ?_;refine JL (Br (v':=.pointer (some ⟨b2,0+7,none⟩)) (Ww rfl) rfl) ?_;refine J1 ?_;refine AV NG rfl ?_;rintro _ _ ⟨p46,b46,o46,c46,s46,rfl,hs46,hc46,rfl⟩;refine mE rfl (uR ks hk i s.q.data.data.toList p46 b46 o46 c46 _ hs46 inferInstance (by rw [b_];have h7:=hst.z2;show s.q.data.size<_;omega)) ?_;rintro _ _ ⟨x47,b47,A47,q47,bb47,oo47,cc47,ys,rfl,hyl,hs47,hr47,rfl⟩;refine FL ?_;refine BO (α:=HP×Bool) (fun z=>[(6,.bool z.2),(7,iN i),(2,ptr b2 0),(3,ptr b3 0)]) (fun z=>z.1*(HP.AA b3 0 (AE ks)*(HP.AA b2 0 (Fp s)*H))) (fun _=>True) ?_ ?_
      ·refine mc (fun hc=>?_) (fun hc=>?_)
       ·refine J3 ?_;refine mE rfl (Sn q47 bb47 oo47 cc47 ys _ hs47 (hr47 _) (by have h7:=hst.z2;have h8:s.q.data.data.toList.length=s.q.data.size:=b_;omega)) ?_;rintro _ _ ⟨p54,b54,o54,c54,s54,rs2,fs2,dk2,dat2,rfl,hs54,hc54,hmap2,hro2,rfl,hdd2⟩
        have hrl2:rs2.length=fs2.length:=by rw [←hmap2,a_]
        have hs54':Sl p54 b54 o54 rs2.length c54:=by rw [hrl2];exact hs54
        have hfl2:fs2.length<1000000000000:=(by have h7:=oG hdd2;have h9:=hst.z2;have h8:s.q.data.data.toList.length=s.q.data.size:=b_;omega)
        refine By ?_;refine AV (BK (by show _=some [n_ p54 rs2.length c54];rw [hrl2];rfl) (kB p54 b54 o54 c54 rs2 _ hs54' inferInstance Cg)) rfl ?_;rintro _ _ ⟨bb59,rfl,rfl⟩;refine J6 ?_;refine CU 61 rfl (fun hg2=>?_) (fun hg2=>?_)
        ·refine JG hg2 ?_;refine J1 ?_;refine JL Nv ?_;refine J2 ?_;exact pP
        refine JH hg2 ?_;refine JL Nd ?_;refine J2 ?_;exact pP
       refine J1 ?_;exact Au ((A47*(AD b46 o46 s.q.data.data.toList s46*A1))*(HP.AA b3 0 (AE ks)*(HP.AA b2 0 (Fp s)*H))) (hE:=QN) Y0
      ·rintro⟨A9,b9⟩ _;refine Fb ?_;exact At (i+1,A9,b9) h37 (by show 2-(i+1)<2-i;omega) BR rfl
     refine J4 ?_;exact AU (_,_) trivial La rfl
    refine J1 ?_;exact AU (_,_) trivial La rfl
   ·rintro⟨A2,b6⟩ _;refine J2 ?_;refine BO (α:=Bool) (fun b=>[(4,.bool b)]) (fun _=>A2*(HP.AA b3 0 (AE ks)*(HP.AA b2 0 (Fp s)*H))) (fun _=>True) ?_ ?_
    ·refine J3 ?_;refine CU 65 rfl (fun hg3=>?_) (fun hg3=>?_)
     ·refine O' ?_;refine JL (LJ (i:=s.kind) (j:=2) rfl rfl) ?_;refine L5 ?_;refine CJ 69 rfl (fun hg4=>?_) (fun hg4=>?_)
      ·refine XJ ?_;refine JH T4 ?_;refine JH T4 ?_;refine PN ?_;refine PN ?_;refine JH T4 ?_;refine G2 ?_;refine JL Io ?_;refine JL Jz ?_;refine J2 ?_;exact UB
      refine Rv ?_;refine J1 ?_;refine Rv ?_;refine JL (LJ (i:=s.q.kind) (j:=3) rfl rfl) ?_;refine JG F4 ?_;refine J1 ?_;refine CJ 74 rfl (fun hg5=>?_) (fun hg5=>?_)
      ·refine V1 ?_;refine J1 ?_;refine V1 ?_;refine JL (LJ (i:=s.q.kind) (j:=8) rfl rfl) ?_;refine JG F4 ?_;refine JL OA ?_;refine G2 ?_;refine JL IE ?_;refine JL Jz ?_;refine J2 ?_;exact UB
      refine JH F5 ?_;refine JH F5 ?_;refine JH F5 ?_;refine JH F5 ?_;refine JG F4 ?_;refine JL L6 ?_;refine G2 ?_;refine JL IE ?_;refine JL Jz ?_;refine J2 ?_;exact UB
     refine Pe ?_;refine Gr ?_;refine Kl ?_;refine Kl ?_;refine Gr ?_;refine JL IV ?_;refine J2 ?_;exact UB
    ·rintro b4 _;refine J2 ?_;exact mR [4] H (hE:=⟨fun ww hw=>Sat.right (A:=A2*(HP.AA b3 0 (AE ks)*HP.AA b2 0 (Fp s))) (w_ Cv hw)⟩) rfl rfl L2
end
section
section
variable{H:Type}{Am:TypeId×Value→H}
theorem vD{W:World}{n:Nat}{cs:List Value}{y:DataW H×List MemPlace}(h:DataW.trod Am Tryz.prog W 0 (fun _=>true) true n 39 cs=some y):∃q:FN,cs=BU q∧q.AN<9223372036854775808∧q.data.size≤Rows.uptoBulk y.1:=by
 obtain⟨xs,k,rfl,rfl,hcl,hxl,hf⟩:=DataW.trod_struct Tryz.underlying39 h
 have c1:Tryz.prog.cellsOf 37=1:=by kernel_rfl
 have c2:Tryz.prog.cellsOf 3=1:=by kernel_rfl
 have c4:Tryz.prog.cellsOf 9=1:=by kernel_rfl
 have ct:Tryz.prog.cellsOf 39=5:=by kernel_rfl
 rw [ct]at hcl
 match xs,hxl,cs,hcl with
 |[y0,y1,y2,y3,y4],_,[v0,v1,v2,v3,v4],_=>
  have g0:=hf 0 _ rfl;have g1:=hf 1 _ rfl;have g2:=hf 2 _ rfl;have g3:=hf 3 _ rfl;have g4:=hf 4 _ rfl;simp [c1,c2,c4]at g0 g1 g2 g3 g4;obtain⟨i0,e0,z0,w0⟩:=DataW.trod_int Tryz.underlying3 g0;obtain⟨i1,e1,z1,w1⟩:=DataW.trod_int Tryz.underlying3 g1;obtain⟨i2,e2,z2,w2⟩:=DataW.trod_int Tryz.underlying3 g2;obtain⟨i3,e3,z3,w3⟩:=DataW.trod_int Tryz.underlying37 g3;obtain⟨s5,e5,z5,w5⟩:=DataW.trod_string Tryz.underlying9 g4
  have b2: -9223372036854775808≤i2∧i2≤9223372036854775807:=by simpa [Lit.wf,t_,u_,q_,o_]using w2
  have b3:0≤i3∧i3≤18446744073709551615:=by simpa [Lit.wf,t_,u_,q_,o_]using w3
  simp only [x_.injEq,and_true]at e0 e1 e2 e3 e5;refine⟨⟨i0,i1,i2,i3.toNat,s5⟩,?_,by show i2<_;omega,?_⟩
  ·rw [e0,e1,e2,e3,e5];show _=[.int .i64 i0,.int .i64 i1,.int .i64 i2,uN i3.toNat,.string s5];rw [QI b3.1]
  ·show s5.size≤Rows.uptoBulk (DataW.agg [y0.1,y1.1,y2.1,y3.1,y4.1])
   have h5:Rows.uptoBulk y4.1=s5.size+1:=by
    rw [z5];show Rows.uptoBulk (DataW.lit (H:=H) (.string s5.data.toList))=_;simp [Rows.uptoBulk]
   simp only [Rows.uptoBulk,Rows.uptoBulkAll];omega
instance:Inhabited GJ:=⟨AB.AC⟩
def fH(W:World)(s:GJ)(d:DataW H):Prop:=Rows.uptoBulk d≤1048576→MV W s
theorem T! {W:World}{n:Nat}{cs:List Value}{y:DataW H×List MemPlace}(h:DataW.trod Am Tryz.prog W 0 (fun _=>true) true n 94 cs=some y):∃s:GJ,cs=AB.Am s∧fH W s y.1:=by
 obtain⟨xs,k,rfl,rfl,hcl,hxl,hf⟩:=DataW.trod_struct Tryz.underlying94 h
 have c2:Tryz.prog.cellsOf 3=1:=by kernel_rfl
 have c4:Tryz.prog.cellsOf 9=1:=by kernel_rfl
 have c5:Tryz.prog.cellsOf 92=1:=by kernel_rfl
 have c6:Tryz.prog.cellsOf 39=5:=by kernel_rfl
 have ct:Tryz.prog.cellsOf 94=10:=by kernel_rfl
 rw [ct]at hcl
 match xs,hxl,cs,hcl with
 |[y0,y1,y2,y3,y4,y5],_,[v0,v1,v2,v3,v4,v5,v6,v7,v8,v9],_=>
  have g0:=hf 0 _ rfl;have g1:=hf 1 _ rfl;have g2:=hf 2 _ rfl;have g3:=hf 3 _ rfl;have g4:=hf 4 _ rfl;have g5:=hf 5 _ rfl;simp [c2,c4,c5,c6]at g0 g1 g2 g3 g4 g5;obtain⟨i0,e0,z0,w0⟩:=DataW.trod_int Tryz.underlying3 g0;obtain⟨i1,e1,z1,w1⟩:=DataW.trod_int Tryz.underlying3 g1;obtain⟨i2,e2,z2,w2⟩:=DataW.trod_int Tryz.underlying3 g2;obtain⟨q,e3,hq1,hq2⟩:=vD g3;obtain⟨p,b,o,c,len,X,e6,hsl,hrd,hq⟩:=VD (α:=RF) (ZN W) Tryz.underlying92 Ch (by show 0<7;decide) (fun n cs' y hy=>xI hy) g4;obtain⟨s5,e5,z5,w5⟩:=DataW.trod_string Tryz.underlying9 g5
  have b1: -9223372036854775808≤i1∧i1≤9223372036854775807:=by simpa [Lit.wf,t_,u_,q_,o_]using w1
  have b2: -9223372036854775808≤i2∧i2≤9223372036854775807:=by simpa [Lit.wf,t_,u_,q_,o_]using w2
  simp only [x_.injEq,and_true]at e0 e1 e2 e3 e5 e6;obtain⟨q0,q1,q2,q3,q4⟩:=e3
  have hl:((e_ len).map X).length=len:=by rw [a_,l_]
  refine⟨⟨i0,i1,i2,q,(e_ len).map X,p,b,o,c,s5⟩,?_,fun hb=>?_⟩
  ·rw [e0,e1,e2,e5,e6,q0,q1,q2,q3,q4];show _=[.int .i64 i0,.int .i64 i1,.int .i64 i2,.int .i64 q.kind,.int .i64 q.stream,.int .i64 q.AN,uN q.code,.string q.data,.slice p ((e_ len).map X).length c,.string s5];rw [hl]
  ·have hb':Rows.uptoBulk (DataW.agg [y0.1,y1.1,y2.1,y3.1,y4.1,y5.1])≤1048576:=hb
   have h5:Rows.uptoBulk y5.1=s5.size+1:=by
    rw [z5];show Rows.uptoBulk (DataW.lit (H:=H) (.string s5.data.toList))=_;simp [Rows.uptoBulk]
   simp only [Rows.uptoBulk,Rows.uptoBulkAll]at hb'
   have hQ:∀i,i<len→(X i).ok∧(∀H',AW W H' (X i).b (X i).o (X i).f.ranges)∧(X i).f.ranges.length+(X i).f.data.size+8≤Rows.uptoBulk y4.1:=by
    intro i hi;rcases hq with⟨rfl,_⟩|⟨D,sp,e,hQ⟩
    ·omega
    ·have h1:=hQ i hi;have h2:Rows.uptoBulk (D i)≤Rows.uptoBulkAll ((e_ len).map D):=Wj eM
     have h3:Rows.uptoBulkAll ((e_ len).map D)≤Rows.uptoBulk y4.1:=by
      rw [show y4.1=_ from e];simp only [Rows.uptoBulk];omega
     exact⟨h1.1,h1.2.1,by have:=h1.2.2;omega⟩
   have hmem:∀r∈(e_ len).map X,r.ok∧(∀H',AW W H' r.b r.o r.f.ranges)∧r.f.ranges.length+r.f.data.size+8≤Rows.uptoBulk y4.1:=by
    intro r hr;obtain⟨i,hi,rfl⟩:=xr.1 hr;exact hQ i (xx.1 hi)
   have hlen:len+1≤Rows.uptoBulk y4.1:=by
    rcases hq with⟨rfl,_⟩|⟨D,sp,e,_⟩
    ·exact Lg _
    ·have:=Uo ((e_ len).map D)
     rw [a_,l_]at this;rw [show y4.1=_ from e];simp only [Rows.uptoBulk];omega
   exact⟨by show Sl p b o ((e_ len).map X).length c;rw [hl];exact hsl,hrd,fun r hr=>(hmem r hr).1,fun H' r hr=>(hmem r hr).2.1 H',⟨b1.1,by show i1<_;omega⟩,⟨b2.1,by show i2<_;omega⟩,hq1,by show((e_ len).map X).length≤_;rw [hl];omega,by show s5.size≤_;omega,by show q.data.size≤_;omega,
    fun r hr=>by have:=(hmem r hr).2.2;omega⟩
theorem yS{W:World}{v:Value}{d:DataW H}{ps:List MemPlace}(h:DataW.Trod Am Tryz.prog W 0 (fun _=>true) true 22 v d ps)(hv:∃p k c,v=.slice p k c)(hb:Rows.uptoBulk d≤1048576):
  ∃(p:Option Addr) (b o c:Nat) (l:List GJ),v=.slice p l.length c∧Sl p b o l.length c∧(∀H',AW W H' b o l)∧l.length≤1048576∧∀s∈l,MV W s:=by
 obtain⟨fuel,hf⟩:=h;obtain⟨p0,k0,c0,rfl⟩:=hv;obtain⟨p,b,o,c,len,X,e,hsl,hrd,hq⟩:=VD (α:=GJ) (fH W) Tryz.underlying22 Ch (by show 0<10;decide) (fun n cs' y hy=>T! hy) hf
 have e':n_ p0 k0 c0=.slice p len c:=by simpa [Value.cells]using e
 have hl:((e_ len).map X).length=len:=by rw [a_,l_]
 refine⟨p,b,o,c,(e_ len).map X,by rw [hl];exact e',by rw [hl];exact hsl,hrd,?_,fun s hs=>?_⟩
 ·rw [hl];rcases hq with⟨rfl,e⟩|⟨D,sp,e,hQ⟩
  ·omega
  ·have:=Uo ((e_ len).map D)
   rw [a_,l_]at this;rw [show d=_ from e]at hb;simp only [Rows.uptoBulk]at hb;omega
 ·obtain⟨i,hi,rfl⟩:=xr.1 hs;have hi:=xx.1 hi;rcases hq with⟨rfl,_⟩|⟨D,sp,e,hQ⟩
  ·omega
  ·refine hQ i hi ?_;have h2:Rows.uptoBulk (D i)≤Rows.uptoBulkAll ((e_ len).map D):=Wj eM
   have h3:Rows.uptoBulkAll ((e_ len).map D)≤Rows.uptoBulk d:=by
    rw [show d=_ from e];simp only [Rows.uptoBulk];omega
   omega
end
end
theorem ra{a:Assume}{C:Checked}{os:Os}{f:FuncId}{r:Reach}{Pre:World→Array Value→Prop}{Post:World→Array Value→Value→World→Prop}
  (h:ReturnsInHanded a C os f r Pre Post)(enter:C.prog.mayEnter=true):ReturnsInOpen a none C os f r Input.okWide Pre Post (leavingAtReturn C.prog) nothingAlways:=by
 obtain⟨h1,h2,h3,h4,h5⟩:=h enter;refine⟨h1,h2,h3,h4,fun w tape i hf=>?_⟩;obtain⟨n,v,w',a1,a2,a3,a4,⟨j,last,b1,b2,b3⟩,a6⟩:=h5 w tape i hf;exact⟨n,v,w',a1,a2,a3,a4,⟨j,last,b1,b2,b3.2.1,onlyLeaving_of_quiet b3.1,b3.2.2⟩,a6⟩
theorem mb{p:Pinned}{s:OpenSpec}{c:OpenClaim}(f:FuncId)(fn:Func)
  (hn:c.program=p.name)(hs:c.sum=p.sum)(hsp:c.spec=s.name)
  (hstart:c.start=.entering)(hout:c.outside=[])(hin:c.inits=[])(hun:c.under=none)(hi4:c.initsInPlace=[]∧c.initsUnfollowed=false∧c.initsRecurse=false∧c.initsNamed=[]∧c.initsPassed=[])(hnb:c.noBlocks=false)(hlv:c.leaving=true)(hfo:c.followed=none)(hnar:c.narrowed=s.cond.isSome)(hstill:c.still=false)
  (hfn:p.checked.prog.funcNamed c.func=some f)(hf:p.checked.prog.funcs[f]?=some fn)
  (closed:joinedFacts p.checked.prog f fn s.bare c=true)
  (hinst:fn.isInstance p.checked.prog c.origin c.targs)(hwrap:fn.isWrapper p.checked.prog c.wrapper c.mainSum)
  (h:∀os:Os,os.Started→∀(H:Type) (Am:TypeId×Value→H),(∀a b,Am a=Am b→a=b)→∀F:Stop.Interp,
   ReturnsInHanded c.assume p.checked os f .any (c.pre Am p.checked.prog fn s) ((s.at F).post Am p.checked.prog fn c.apart c.fresh c.handsOn c.again)):c.holds p s:=by
 simp only [joinedFacts,Bool.and_eq_true,beq_iff_eq,Array.all_eq_true_iff_forall_mem,List.all_eq_true,decide_eq_true_eq]at closed;obtain⟨⟨⟨⟨⟨⟨⟨⟨⟨⟨⟨⟨⟨⟨⟨⟨⟨⟨⟨⟨⟨⟨⟨⟨⟨⟨⟨⟨⟨⟨⟨k1,k2⟩,k3⟩,k4⟩,k5⟩,k6⟩,k7⟩,k8⟩,k9⟩,k10⟩,k11⟩,k12⟩,k13⟩,k14⟩,k15⟩,k16⟩,k17⟩,k17b⟩,k18⟩,k19⟩,k20⟩,k21⟩,k22⟩,k23⟩,k23b⟩,k24⟩,k24b⟩,k24c⟩,k25⟩,k26⟩,k27⟩,k28⟩:=closed
 have hq:∀os:Os,Stop.quiet p.checked.prog os:=fun os k hk=>by rw [k9]at hk;cases hk
 refine⟨k1,hn,hs,hsp,k2,k3,by unfold OpenClaim.startFits;rw [hstart];exact k24,by unfold OpenClaim.startTold;rw [hstart];exact⟨hin,hun,hi4⟩,f,fn,hfn,hf,⟨k4,k19⟩,(fun hb=>by rw [hnb]at hb;cases hb),by unfold OpenClaim.namedList;rw [hfo];exact k5,hinst,hwrap,
  k6.trans k7.symm,⟨k8.trans k9.symm,by unfold Program.envWorded;rw [k9];rfl,k23b⟩,k10,k11,k12,k13,k14,⟨k15,k27,k28⟩,⟨k16,k20⟩,⟨k17,k21,k25,k26⟩,⟨k22,k24b,k24c,k17b⟩,(by rw [hout,hnar];cases hsh:c.shortTexts with|none=>simp|some _=>rw [hsh]at k23;cases k23),fun n hn'=>varReadable_some (k18 n hn'),
  ⟨_,by unfold OpenClaim.world;rw [hout,hstart];exact WideRow.started_initial,hq _⟩,[],by unfold OpenClaim.lists;rw [hfo],fun os st _ H Am inj=>?_⟩
 have st':os.Started:=by unfold OpenClaim.world at st;rw [hout,hstart]at st;exact st
 rw [OpenClaim.post_not_still hstill];unfold OpenClaim.form;rw [hstart,k6];intro F
 have e1:c.okInput=Input.okWide:=by unfold OpenClaim.okInput;rw [hnb]
 have e2:c.atReturn p.checked.prog=leavingAtReturn p.checked.prog:=by unfold OpenClaim.atReturn;rw [hlv]
 have e3:c.always p.checked.prog []=nothingAlways:=by unfold OpenClaim.always;rw [hfo]
 have e4:s.post Am p.checked.prog fn F c.outside c.apart c.fresh c.handsOn c.again=(s.at F).post Am p.checked.prog fn c.apart c.fresh c.handsOn c.again:=by rw [hout];rfl
 rw [e1,e2,e3];show ReturnsInOpen _ _ _ _ _ _ _ _ (s.post Am p.checked.prog fn F c.outside c.apart c.fresh c.handsOn c.again) _ _;rw [e4];exact ra (h os st' H Am inj F) k24
theorem iq(Lk:Looks){p:Pinned}{s:OpenSpec}{c:OpenClaim}(kinds:List LaidKind)(tests:Bool)(har:Bool×String)(lk:Bool)
  (hc:c.holds p s)(hw:c.wfByText s=true)(htie:c.laidByTextAt Lk p kinds tests)
  (hst:c.start=.entering)(hnb:c.noBlocks=false∧c.again=false)(hm:p.checked.prog.mainIs=some (har.1,har.2.toList))(hn:(!har.1&&har.2.isEmpty&& !lk)=false)
  (hl:∀f fn,p.checked.prog.funcNamed c.func=some f→p.checked.prog.funcs[f]?=some fn→lk=p.checked.prog.looks []∧∀(j:Nat) t,fn.params[j]?=some t→p.checked.prog.wantsStandIn t=false)
  (hg:true=c.goesBy p.checked.prog):
  Claim7.holds p (.plain s) {stood:={row:=c,standIns:=[],harness:=har,looks:=lk},kinds:=[],alts:=[],goes:=true,laidByText:=true,laidKinds:=kinds,laidTests:=tests,laidLooks:=Lk}:=by
 have h6:∀r:OpenClaim,Claim7.isSixth {stood:={row:=r,standIns:=[],harness:=har,looks:=lk},kinds:=[]}=false:=fun r=>by simpa [Claim7.isSixth]using hn
 exact⟨Claim7.tied_new_at Lk kinds tests (Claim7.new_of_sixth hc har lk hst hnb hm (h6 c) hl) hw,(fun D hD=>by cases hD),htie,(fun h=>by cases h),hg⟩
theorem d6:laidOutB Tryz.pinned.checked.prog=true:=tJ
theorem tP:mapsRowed Tryz.pinned.checked.prog=true:=by kernel_rfl
theorem ug:Tryz.pinned.checked.prog.plainKeys=Rows.streamedUptoRow.plainKeys:=by kernel_rfl
theorem o8:Tryz.pinned.checked.prog.stopsHeard=true:=by kernel_rfl
theorem rj:Tryz.pinned.checked.prog.mayEnter=true:=by kernel_rfl
theorem ud:Tryz.pinned.checked.prog.liftsFinal=Rows.streamedUptoRow.lifted:=by kernel_rfl
section
structure EC where
 cb:Nat
 c:Ah
 sb:Nat
 s:Ad
 first:Bool
def DE(p:EC):HP:=Ac p.cb p.c*AS p.sb p.s
structure Dv where
 q:Nat
@[reducible] instance layPtrN:AB Dv:=⟨1,fun m=>[ptr m.q 0],⟨0⟩,fun _=>rfl,fun _ v h=>by simp at h;rcases h with rfl;rfl⟩
structure WC where
 ks:List UInt8
 xv:Value
 mv:Value
 bv:Value
 kv:Value
 KJ:Bool
def Bk(wb:Nat)(x:WC):HP:=
 HP.AA wb (0+0) (AE x.ks)*(HP.AA wb (0+16) [x.xv]*(HP.AA wb (0+17) [x.mv]*(HP.AA wb (0+18) [x.bv]*(HP.AA wb (0+19) [x.kv]*HP.AA wb (0+20) [.bool x.KJ]))))
section
variable(wb:Nat)(x:WC)
instance:Cell (Bk wb x) wb (0+16) x.xv True:=by unfold Bk;infer_instance
instance:Cell (Bk wb x) wb (0+17) x.mv True:=by unfold Bk;infer_instance
instance:Cell (Bk wb x) wb (0+18) x.bv True:=by unfold Bk;infer_instance
instance:Cell (Bk wb x) wb (0+19) x.kv True:=by unfold Bk;infer_instance
instance:Cell (Bk wb x) wb (0+20) (.bool x.KJ) True:=by unfold Bk;infer_instance
instance(v:Value):C5 (Bk wb x) wb (0+16) v (Bk wb {x with xv:=v}) True:=by unfold Bk;infer_instance
instance(v:Value):C5 (Bk wb x) wb (0+17) v (Bk wb {x with mv:=v}) True:=by unfold Bk;infer_instance
instance(v:Value):C5 (Bk wb x) wb (0+18) v (Bk wb {x with bv:=v}) True:=by unfold Bk;infer_instance
instance(v:Value):C5 (Bk wb x) wb (0+19) v (Bk wb {x with kv:=v}) True:=by unfold Bk;infer_instance
end
instance rowWC(wb:Nat)(x:WC):Row (Bk wb x) wb (0+0) (AE x.ks) (HP.AA wb (0+16) [x.xv]*(HP.AA wb (0+17) [x.mv]*(HP.AA wb (0+18) [x.bv]*(HP.AA wb (0+19) [x.kv]*HP.AA wb (0+20) [.bool x.KJ])))):=⟨by unfold Bk;ac_rfl⟩
structure WM where
 x:WC
 ps:List EC
 xa:Ae
 ma:Ae
 ba:Ae
 kept:List ByteArray
 ka:Ae
def WM.xs(w:WM):List Dv:=w.ps.map fun p=>⟨p.cb⟩
def WM.ms(w:WM):List Dv:=w.ps.map fun p=>⟨p.sb⟩
def WM.bs(w:WM):List Bool:=w.ps.map fun p=>p.first
structure WM.ok(w:WM):Prop where
 xa:w.xa.ok w.xs
 ma:w.ma.ok w.ms
 ba:w.ba.ok w.bs
 ka:w.ka.ok w.kept
 xv:w.x.xv=w.xa.v w.ps.length
 mv:w.x.mv=w.ma.v w.ps.length
 bv:w.x.bv=w.ba.v w.ps.length
 kv:w.x.kv=w.ka.v w.kept.length
 Q0:∀p∈w.ps,p.c.ok
 Q5:∀p∈w.ps,p.s.ok
 ks:w.x.ks.length=16
structure Kp(t:Nat)(p:EC):Prop where
 c:Ak t p.c.s
 s:Ag t p.s.s
 r:Rel p.c.s p.s.s
structure Gw(t:Nat)(w:WM):Prop where
 ps:∀p∈w.ps,Kp t p
 pl:w.ps.length≤t
 kl:w.kept.length≤20*t
 kz:∀k∈w.kept,k.size≤300
theorem Kp.mono{t t':Nat}{p:EC}(h:Kp t p)(ht:t≤t'):Kp t' p:=⟨h.c.mono ht,h.s.mono ht,h.r⟩
theorem Gw.mono{t t':Nat}{w:WM}(h:Gw t w)(ht:t≤t'):Gw t' w:=⟨fun p hp=>(h.ps p hp).mono ht,Nat.le_trans h.pl ht,by have:=h.kl;omega,h.kz⟩
def aY(w:WM):HP:=w.xa.h w.xs*(w.ma.h w.ms*(w.ba.h w.bs*w.ka.h w.kept))
def Ds(wb:Nat)(w:WM):HP:=Bk wb w.x*(aY w*AM DE w.ps)
theorem tA(w:WM):w.xs.length=w.ps.length:=a_ ..
theorem pY(w:WM):w.ms.length=w.ps.length:=a_ ..
theorem mL(w:WM):w.bs.length=w.ps.length:=a_ ..
theorem Jj(wb:Nat)(w:WM)(R:HP):Ds wb w*R=Bk wb w.x*(AD w.xa.b w.xa.o w.xs w.xa.s*(AD w.ma.b w.ma.o w.ms w.ma.s*(AD w.ba.b w.ba.o w.bs w.ba.s*(AD w.ka.b w.ka.o w.kept w.ka.s*(AM DE w.ps*R))))):=by
 unfold Ds aY Ae.h;ac_rfl
theorem Wt{α:Type}(f:α→HP){l:List α}{k:Nat}{x:α}(h:l[k]?=some x):AM f l=f x*BX f l k:=by
 have hk:k<l.length:=(h_.1 h).1;rw [MR f l k x hk,g',h];rfl
theorem gU(wb:Nat)(w:WM)(R:HP){i:Nat}{p:EC}(h:w.ps[i]?=some p):Ds wb w*R=Bk wb w.x*(AD w.xa.b w.xa.o w.xs w.xa.s*(AD w.ma.b w.ma.o w.ms w.ma.s*(AD w.ba.b w.ba.o w.bs w.ba.s*(AD w.ka.b w.ka.o w.kept w.ka.s*(Ac p.cb p.c*(AS p.sb p.s*(BX DE w.ps i*R))))))):=by
 rw [Jj,Wt DE h];unfold DE;ac_rfl
theorem Km{α β:Type}{f:α→β}{l:List α}{i:Nat}{x y:α}(h:l[i]?=some x)(e:f y=f x):(l.set i y).map f=l.map f:=by
 have hi:i<l.length:=(h_.1 h).1;rw [List.map_set,e];apply List.ext_getElem?;intro j;rw [List.getElem?_set];by_cases e2:i=j
 ·subst e2;rw [if_pos rfl,if_pos (by rw [a_];exact hi),m_,h];rfl
 ·rw [if_neg e2]
def EC.now(p:EC)(c:Ah)(s:Ad):EC:={p with c:=c,s:=s}
def WM.Ej(w:WM)(i:Nat)(p:EC):WM:={w with ps:=w.ps.set i p}
theorem iy(wb:Nat)(w:WM)(R:HP){i:Nat}{p:EC}(h:w.ps[i]?=some p)(c:Ah)(s:Ad):Ds wb (w.Ej i (p.now c s))*R=Bk wb w.x*(AD w.xa.b w.xa.o w.xs w.xa.s*(AD w.ma.b w.ma.o w.ms w.ma.s*(AD w.ba.b w.ba.o w.bs w.ba.s*(AD w.ka.b w.ka.o w.kept w.ka.s*(Ac p.cb c*(AS p.sb s*(BX DE w.ps i*R))))))):=by
 have hi:i<w.ps.length:=(h_.1 h).1;rw [Jj];have e1:(w.Ej i (p.now c s)).xs=w.xs:=Km h rfl;have e2:(w.Ej i (p.now c s)).ms=w.ms:=Km h rfl;have e3:(w.Ej i (p.now c s)).bs=w.bs:=Km h rfl;rw [e1,e2,e3];show Bk wb w.x*(AD w.xa.b w.xa.o w.xs w.xa.s*(AD w.ma.b w.ma.o w.ms w.ma.s*(AD w.ba.b w.ba.o w.bs w.ba.s*(AD w.ka.b w.ka.o w.kept w.ka.s*(AM DE (w.ps.set i (p.now c s))*R)))))=_;rw [Md DE w.ps i _ hi];show Bk wb w.x*(AD w.xa.b w.xa.o w.xs w.xa.s*(AD w.ma.b w.ma.o w.ms w.ma.s*(AD w.ba.b w.ba.o w.bs w.ba.s*(AD w.ka.b w.ka.o w.kept w.ka.s*(Ac p.cb c*AS p.sb s*BX DE w.ps i*R)))))=_;ac_rfl
theorem WM.ok.Ej{w:WM}(hw:w.ok){i:Nat}{p:EC}(h:w.ps[i]?=some p){c:Ah}{s:Ad}(hc:c.ok)(hs:s.ok):(w.Ej i (p.now c s)).ok:=by
 have e1:(w.Ej i (p.now c s)).xs=w.xs:=Km h rfl;have e2:(w.Ej i (p.now c s)).ms=w.ms:=Km h rfl;have e3:(w.Ej i (p.now c s)).bs=w.bs:=Km h rfl;have e4:(w.ps.set i (p.now c s)).length=w.ps.length:=xu;refine⟨by rw [e1];exact hw.xa,by rw [e2];exact hw.ma,by rw [e3];exact hw.ba,hw.ka,?_,?_,?_,hw.kv,fun q hq=>?_,fun q hq=>?_,hw.ks⟩
 ·show w.x.xv=w.xa.v (w.ps.set i (p.now c s)).length;rw [e4];exact hw.xv
 ·show w.x.mv=w.ma.v (w.ps.set i (p.now c s)).length;rw [e4];exact hw.mv
 ·show w.x.bv=w.ba.v (w.ps.set i (p.now c s)).length;rw [e4];exact hw.bv
 ·exact JS (P:=fun q:EC=>q.c.ok) hw.Q0 hc hq
 ·exact JS (P:=fun q:EC=>q.s.ok) hw.Q5 hs hq
theorem Gw.Ej{t:Nat}{w:WM}(hw:Gw t w){i:Nat}{p:EC}(hp:Kp (t+1) p):Gw (t+1) (w.Ej i p):=
 ⟨fun q hq=>JS (P:=Kp (t+1)) (fun q hq=>(hw.ps q hq).mono De) hp hq,by show(w.ps.set i p).length≤t+1;rw [xu];exact Nat.le_succ_of_le hw.pl,by have:=hw.kl;show w.kept.length≤20*(t+1);omega,hw.kz⟩
def WM.ID(w:WM)(l:List ByteArray)(a:Ae):WM:={w with x:={w.x with kv:=a.v (w.kept++l).length},kept:=w.kept++l,ka:=a}
theorem tq(wb:Nat)(w:WM)(l:List ByteArray)(a:Ae)(R:HP):Ds wb (w.ID l a)*R=Bk wb {w.x with kv:=a.v (w.kept++l).length}*(AD w.xa.b w.xa.o w.xs w.xa.s*(AD w.ma.b w.ma.o w.ms w.ma.s*(AD w.ba.b w.ba.o w.bs w.ba.s*(AD a.b a.o (w.kept++l) a.s*(AM DE w.ps*R))))):=Jj wb (w.ID l a) R
theorem WM.ok.ID{w:WM}(hw:w.ok){l:List ByteArray}{a:Ae}(ha:a.ok (w.kept++l)):(w.ID l a).ok:=
 ⟨hw.xa,hw.ma,hw.ba,ha,hw.xv,hw.mv,hw.bv,rfl,hw.Q0,hw.Q5,hw.ks⟩
theorem Xb{α:Type}{l:List α}{i:Nat}{d x:α}(h:l[i]?=some x):l.getD i d=x:=by rw [g',h];rfl
theorem sU{w:WM}{i:Nat}{p:EC}(h:w.ps[i]?=some p):w.xs.getD i AB.AC=⟨p.cb⟩:=Xb (by unfold WM.xs;rw [m_,h];rfl)
theorem l0{w:WM}{i:Nat}{p:EC}(h:w.ps[i]?=some p):w.ms.getD i AB.AC=⟨p.sb⟩:=Xb (by unfold WM.ms;rw [m_,h];rfl)
theorem ot{w:WM}{i:Nat}{p:EC}(h:w.ps[i]?=some p):w.bs.getD i AB.AC=p.first:=Xb (by unfold WM.bs;rw [m_,h];rfl)
end
section
variable{B:World}
theorem Kp.Av{t:Nat}{p:EC}(h:Kp t p)(ht:t<500000)(q:FN):
  CB (p.s.s.asks q).1=CB (p.c.s.Av q).1∧Ak (t+1) (p.c.s.Av q).2∧Ag t p.s.s∧
  (q.kind≠5→(p.c.s.Av q).1.BE=[]∧Ag (t+1) (p.s.s.asks q).2∧Rel (p.c.s.Av q).2 (p.s.s.asks q).2)∧
  (q.kind=5→(p.s.s.asks q).2=p.s.s∧(p.s.s.E3 (DH (p.c.s.Av q).1.BE)).1=true∧Ag (t+1) (p.s.s.E3 (DH (p.c.s.Av q).1.BE)).2∧Rel (p.c.s.Av q).2 (p.s.s.E3 (DH (p.c.s.Av q).1.BE)).2∧
   (p.c.s.Av q).1.BE.length≤20∧∀d∈(p.c.s.Av q).1.BE,d.size≤300):=by
 obtain⟨e1,e2,e3,e4,e5,h1,h2⟩:=ed h.c h.s Cg h.r q;refine⟨?_,h.c.Av q,h.s,fun hk=>⟨(h1 hk).1,h.s.asks Cg q,(h1 hk).2⟩,fun hk=>?_⟩
 ·unfold CB;rw [e1,e2,e3,e4,e5]
 ·obtain⟨g1,g2,g3⟩:=h2 hk
  have hp:(p.c.s.Av q).1.BE=p.c.s.BE.1.map BI:=by
   unfold AL.Av;rw [if_neg Cg,if_neg Cg,if_neg Cg,if_neg Cg,if_pos hk]
  have hl:(p.c.s.Av q).1.BE.length≤20:=by rw [hp,a_];exact jT h.c
  refine⟨g1,g2,h.s.E3 _ (by unfold DH;rw [a_];exact hl),g3,hl,fun d hd=>?_⟩;rw [hp]at hd;obtain⟨x,hx,rfl⟩:=xr.1 hd
  have:=nK h.c x hx
  rw [K4];exact this
set_option maxHeartbeats 8000000 in
theorem Tv(hG:B.cell? ⟨0,0,none⟩=some (Eg 106))(wb t i:Nat)(w:WM)(P:EC)(q:FN)(R:HP)(hok:w.ok)(hw:Gw t w)(hP:w.ps[i]?=some P)(ht:t<400000)(hd:q.data.size<80000000)(hmo2:q.AN<9223372036854775808):
  Fn Tryz.prog B 66 [ptr wb 0,iN i,.agg (BU q).toArray] (Ds wb w*R)
   (fun v H'=>v=.bool true∧∃w':WM,w'.ok∧Gw (t+1) w'∧w'.ps.length=w.ps.length∧w'.x.KJ=w.x.KJ∧H'=Ds wb w'*R):=by
 refine mI Tryz.func66 ?_;have hi:i<w.ps.length:=(h_.1 hP).1;have hpm:P∈w.ps:=v_ hP;have hPI:=hw.ps P hpm;obtain⟨hres,hci,hsi,hne5,he5⟩:=hPI.Av Cg q;have hxl:=tA w;have hml:=pY w;have hbl:=mL w;have hcok:=hok.Q0 P hpm;have hsok:=hok.Q5 P hpm;refine J2 ?_;refine AV Vj rfl ?_;rintro _ _ ⟨b5,rfl,rfl⟩;refine J5 ?_;refine Aq (H':=Bk wb w.x*(AD w.xa.b w.xa.o w.xs w.xa.s*(AD w.ma.b w.ma.o w.ms w.ma.s*(AD w.ba.b w.ba.o w.bs w.ba.s*(AD w.ka.b w.ka.o w.kept w.ka.s*(Ac P.cb P.c*(AS P.sb P.s*(BX DE w.ps i*(HP.AA b5 0 (BU q)*R))))))))) (by rw [gU wb w R hP];ac_rfl) ?_;refine BO (α:=Bool) (fun b=>[(36,.bool b),(0,ptr wb 0),(1,iN i),(5,ptr b5 0)]) (fun _=>Bk wb w.x*(AD w.xa.b w.xa.o w.xs w.xa.s*(AD w.ma.b w.ma.o w.ms w.ma.s*(AD w.ba.b w.ba.o w.bs w.ba.s*(AD w.ka.b w.ka.o w.kept w.ka.s*(Ac P.cb P.c*(AS P.sb P.s*(BX DE w.ps i*(HP.AA b5 0 (BU q)*R))))))))) (fun _=>True) ?_ ?_
 ·refine J6 ?_;refine CU 21 rfl (fun hg1=>?_) (fun hg1=>?_)
  ·refine Im ?_;refine JL WE ?_;refine GO ?_;refine J1 ?_;refine CJ 26 rfl (fun hg2=>?_) (fun hg2=>?_)
   ·refine SL ?_;refine JL SR ?_;refine KV ?_;refine JL Wq ?_;refine JC ?_;refine JL VP ?_;refine Vv ?_;refine JC ?_;refine mE rfl (ZY P.sb P.s _) ?_;refine JR ?_;refine JC ?_;refine JL (GP (i:=P.s.s.closed) (j:=0) rfl rfl) ?_;refine JL FR ?_;refine J1 ?_;exact WH
   refine Mg ?_;refine Mg ?_;refine OF ?_;refine Vv ?_;refine R7 ?_;refine J1 ?_;exact WH
  refine Fh ?_;refine NH ?_;refine Hc ?_;refine Oa ?_;refine Ga ?_;refine Vv ?_;refine Ga ?_;refine Ga ?_;refine M' ?_;exact WH
 ·rintro b36 _;refine J1 ?_;refine mc (fun hc=>?_) (fun hc=>?_)
  ·refine J7 ?_;exact mR [6] (Ds wb w*R) (hE:=⟨fun ww hw=>Sat.right (A:=HP.AA b5 0 (BU q)) (w_ (by congr 1;rw [gU wb w R hP];ac_rfl) hw)⟩) rfl rfl ⟨rfl,w,hok,hw.mono De,rfl,rfl,rfl⟩
  refine J3 ?_;refine Dc (Bk wb w.x*(AD w.xa.b w.xa.o w.xs w.xa.s*HP.AA b5 0 (BU q))) 22 22 Dg rfl Ch ?_;refine Hu ?_;refine JT 3 rfl SY ?_;refine HD ?_;refine JT 5 rfl (Bm (i:=i) rfl rfl cA hi) ?_;refine JT 6 rfl (Br (v':=ptr P.cb 0) (DT (f:=0) (xs:=w.xs) rfl inferInstance rfl (by rw [hxl];exact hi)) (by rw [sU hP])) ?_;refine JT 7 rfl (Dp (l:=BU q) rfl rfl) ?_;refine FB (H':=Ac P.cb P.c*(Bk wb w.x*(AD w.xa.b w.xa.o w.xs w.xa.s*(AD w.ma.b w.ma.o w.ms w.ma.s*(AD w.ba.b w.ba.o w.bs w.ba.s*(AD w.ka.b w.ka.o w.kept w.ka.s*(AS P.sb P.s*(BX DE w.ps i*(HP.AA b5 0 (BU q)*R))))))))) Cm ?_;refine Al 8 Ch rfl rfl (BK rfl (jn hG P.cb t P.c q _ hcok hPI.c Cg Cg hmo2)) ?_;rintro _ _ ⟨m2,ps,hm2,hs2,hps,rfl,rfl⟩;refine BF ?_;refine Jm 9 ?_;refine JT 10 rfl Gk ?_;refine JT 11 rfl Gk ?_;refine JT 12 rfl Gk ?_;refine JT 13 rfl Gk ?_;refine JT 14 rfl Gk ?_;refine JT 15 rfl Gk ?_;refine Ja 16 ?_;refine Ja 17 ?_;refine Ja 18 ?_;refine Ja 19 ?_;refine Ja 20 ?_;refine Ja 21 ?_;refine JD ?_;refine J8 ?_;refine JL (Br (v':=.agg (CB (P.c.s.Av q).1).toArray) H7 rfl) ?_
  refine AV O3 rfl ?_;rintro _ _ ⟨b13,rfl,rfl⟩;refine Jr ?_;refine Aq (H':=AS P.sb P.s*(HP.AA b13 0 (CB (P.c.s.Av q).1)*(AD ps.b ps.o (P.c.s.Av q).1.BE ps.s*(Bk wb w.x*(AD w.xa.b w.xa.o w.xs w.xa.s*(AD w.ma.b w.ma.o w.ms w.ma.s*(AD w.ba.b w.ba.o w.bs w.ba.s*(AD w.ka.b w.ka.o w.kept w.ka.s*(Ac P.cb m2*(HP.BQ*(BX DE w.ps i*(HP.AA b5 0 (BU q)*R)))))))))))) (by unfold Ae.h;rw [HP.BA];ac_rfl) ?_;refine BO (α:=Ad×Nat) (fun z=>[(14,ptr z.2 0),(13,ptr b13 0),(12,.slice ps.p (P.c.s.Av q).1.BE.length ps.c),(0,ptr wb 0),(1,iN i),(5,ptr b5 0)]) (fun z=>HP.AA z.2 0 (CB (P.c.s.Av q).1)*(HP.AA b13 0 (CB (P.c.s.Av q).1)*(AD ps.b ps.o (P.c.s.Av q).1.BE ps.s*(Bk wb w.x*(AD w.xa.b w.xa.o w.xs w.xa.s*(AD w.ma.b w.ma.o w.ms w.ma.s*(AD w.ba.b w.ba.o w.bs w.ba.s*(AD w.ka.b w.ka.o w.kept w.ka.s*(Ac P.cb m2*(AS P.sb z.1*(BX DE w.ps i*(HP.AA b5 0 (BU q)*R)))))))))))) (fun z=>z.1.ok∧z.1.s=(P.s.s.asks q).2) ?_ ?_
  ·refine Dc (Bk wb w.x*(AD w.ma.b w.ma.o w.ms w.ma.s*HP.AA b5 0 (BU q))) 10 11 Dg rfl Ch ?_;refine Hu ?_;refine JT 3 rfl SR ?_;refine HD ?_;refine JT 5 rfl Wq ?_;refine JT 6 rfl VP ?_;refine JT 7 rfl (Dp (l:=BU q) rfl rfl) ?_;refine tD 8 9 Ch rfl rfl rfl rfl rfl rfl rfl rfl nI O3 ?_ ?_
   ·rintro _ _ ⟨m3,hm3,hs3,rfl,rfl⟩;refine BF ?_;refine Al 9 Ch rfl rfl O3 ?_;rintro _ _ ⟨b14,rfl,rfl⟩;refine BF ?_;refine D' 10 Ch rfl K5 ?_;refine Dw ?_;exact cY
   rintro _ _ ⟨b14,rfl,rfl⟩;refine BF ?_;refine FB (H':=AS P.sb P.s*(HP.AA b14 0 [.int .i64 0,.int .i64 0,.int .i64 0,.int .u64 0,.string ⟨#[]⟩,.slice none 0 0]*(HP.AA b13 0 (CB (P.c.s.Av q).1)*(AD ps.b ps.o (P.c.s.Av q).1.BE ps.s*(Bk wb w.x*(AD w.xa.b w.xa.o w.xs w.xa.s*(AD w.ma.b w.ma.o w.ms w.ma.s*(AD w.ba.b w.ba.o w.bs w.ba.s*(AD w.ka.b w.ka.o w.kept w.ka.s*(Ac P.cb m2*(HP.BQ*(BX DE w.ps i*(HP.AA b5 0 (BU q)*R))))))))))))) Cm ?_;refine Al 8 Ch rfl rfl nI ?_;rintro _ _ ⟨m3,hm3,hs3,rfl,rfl⟩;refine BF ?_;refine D' 10 Ch rfl K5 ?_;refine Dw ?_;exact cY
  ·rintro⟨m3,b14⟩ ⟨hm3,hs3⟩;dsimp only at hm3 hs3⊢;refine J3 ?_;refine JL oO ?_;refine JL oO ?_;refine mE rfl (nr (P.c.s.Av q).1 _) ?_;refine JR ?_;refine J8 ?_;refine JL WE ?_;refine J2 ?_;refine mC (fun h5=>?_) (fun h5=>?_)
   ·obtain⟨g1,g2,g3,g4,g5,g6⟩:=he5 h5;rw [g1]at hs3;refine J5 ?_;refine JL SR ?_;refine J1 ?_;refine JL Wq ?_;refine JL VP ?_;refine J1 ?_;refine Aw (H':=AS P.sb m3*(HP.AA b14 0 (CB (P.c.s.Av q).1)*(HP.AA b13 0 (CB (P.c.s.Av q).1)*(AD ps.b ps.o (P.c.s.Av q).1.BE ps.s*(Bk wb w.x*(AD w.xa.b w.xa.o w.xs w.xa.s*(AD w.ma.b w.ma.o w.ms w.ma.s*(AD w.ba.b w.ba.o w.bs w.ba.s*(AD w.ka.b w.ka.o w.kept w.ka.s*(Ac P.cb m2*(HP.BQ*(BX DE w.ps i*(HP.AA b5 0 (BU q)*R))))))))))))) (by rw [HP.BA];ac_rfl) ?_;refine mE rfl (pw P.sb t m3 (P.c.s.Av q).1.BE ps.p ps.b ps.o ps.c _ hm3 (by rw [hs3];exact hsi) Cg g5 hps.1 inferInstance (fun d hd=>by have:=g6 d hd;omega)) ?_;rintro _ _ ⟨m4,hm4,hs4,rfl,rfl⟩;rw [hs3]at hs4
    have hem:(m3.s.E3 (DH (P.c.s.Av q).1.BE)).1=true:=by rw [hs3];exact g2
    refine J9 ?_;refine JL Se ?_;refine J1 ?_;refine Aw (H':=AD w.ka.b w.ka.o w.kept w.ka.s*(AD ps.b ps.o (P.c.s.Av q).1.BE ps.s*(Bk wb w.x*(AS P.sb m4*(HP.AA b14 0 (CB (P.c.s.Av q).1)*(HP.AA b13 0 (CB (P.c.s.Av q).1)*(AD w.xa.b w.xa.o w.xs w.xa.s*(AD w.ma.b w.ma.o w.ms w.ma.s*(AD w.ba.b w.ba.o w.bs w.ba.s*(Ac P.cb m2*(BX DE w.ps i*(HP.AA b5 0 (BU q)*R)))))))))))) (by rw [HP.BA];ac_rfl) ?_;refine AV (Bf (ys:=(P.c.s.Av q).1.BE) (bb:=ps.b) (oo:=ps.o) (cc:=ps.c) rfl hok.ka.1 hok.ka.2 rfl hps.1 inferInstance rfl (by have h7:=hw.kl;omega) (by have h7:=hw.kl;omega)) rfl ?_;rintro _ _ ⟨p89,b89,o89,c89,s89,rfl,hs89,hc89,rfl⟩;refine J9 ?_;refine Mk ?_;refine Ig ?_;refine J5 ?_
    obtain⟨a9,ha9⟩:∃a9:Ae,a9=⟨p89,b89,o89,c89,s89⟩:=Bg
    have hka9:a9.ok ((w.Ej i (P.now m2 m4)).kept++(P.c.s.Av q).1.BE):=by rw [ha9];exact⟨hs89,hc89⟩
    have hwi:=Gw.Ej hw (i:=i) (p:=P.now m2 m4) ⟨hB,by show Ag (t+1) m4.s;rw [hs4];exact g3,by show Rel m2.s m4.s;rw [hs2,hs4];exact g4⟩
    exact mR [6] (Ds wb ((w.Ej i (P.now m2 m4)).ID (P.c.s.Av q).1.BE a9)*R) (hE:=⟨fun ww hw=>Sat.right (A:=AD ps.b ps.o (P.c.s.Av q).1.BE ps.s*(HP.AA b14 0 (CB (P.c.s.Av q).1)*(HP.AA b13 0 (CB (P.c.s.Av q).1)*HP.AA b5 0 (BU q)))) (w_ (by
     congr 1
     rw [tq,ha9]
     have e1:(w.Ej i (P.now m2 m4)).xs=w.xs:=Km hP rfl
     have e2:(w.Ej i (P.now m2 m4)).ms=w.ms:=Km hP rfl
     have e3:(w.Ej i (P.now m2 m4)).bs=w.bs:=Km hP rfl
     rw [e1,e2,e3]
     show _=AD ps.b ps.o (P.c.s.Av q).1.BE ps.s*(HP.AA b14 0 (CB (P.c.s.Av q).1)*(HP.AA b13 0 (CB (P.c.s.Av q).1)*HP.AA b5 0 (BU q)))*(Bk wb {w.x with kv:=.slice p89 (w.kept++(P.c.s.Av q).1.BE).length c89}*(AD w.xa.b w.xa.o w.xs w.xa.s*(AD w.ma.b w.ma.o w.ms w.ma.s*(AD w.ba.b w.ba.o w.bs w.ba.s*(AD b89 o89 (w.kept++(P.c.s.Av q).1.BE) s89*(AM DE (w.ps.set i (P.now m2 m4))*R))))))
     rw [Md DE w.ps i _ hi]
     show _=AD ps.b ps.o (P.c.s.Av q).1.BE ps.s*(HP.AA b14 0 (CB (P.c.s.Av q).1)*(HP.AA b13 0 (CB (P.c.s.Av q).1)*HP.AA b5 0 (BU q)))*(Bk wb {w.x with kv:=.slice p89 (w.kept++(P.c.s.Av q).1.BE).length c89}*(AD w.xa.b w.xa.o w.xs w.xa.s*(AD w.ma.b w.ma.o w.ms w.ma.s*(AD w.ba.b w.ba.o w.bs w.ba.s*(AD b89 o89 (w.kept++(P.c.s.Av q).1.BE) s89*(Ac P.cb m2*AS P.sb m4*BX DE w.ps i*R))))))
     ac_rfl) hw)⟩) rfl rfl ⟨by show q' _=_;rw [hem],(w.Ej i (P.now m2 m4)).ID (P.c.s.Av q).1.BE a9,(hok.Ej hP hm2 hm4).ID hka9,⟨hwi.ps,hwi.pl,by have h7:=hw.kl;show(w.kept++(P.c.s.Av q).1.BE).length≤_;rw [d_];omega,fun d hd=>by rcases j_.1 hd with hd|hd;exact hw.kz d hd;exact g6 d hd⟩,bO,rfl,rfl⟩
   obtain⟨g1,g2,g3⟩:=hne5 h5;refine J6 ?_;refine Mk ?_;refine Mk ?_;refine KB ?_;refine JL (CV (i:=(P.c.s.Av q).1.BE.length) (j:=0) rfl rfl) ?_;refine Ig ?_;refine J4 ?_;have hwi:=Gw.Ej hw (i:=i) (p:=P.now m2 m3) ⟨hB,by show Ag (t+1) m3.s;rw [hs3];exact g2,by show Rel m2.s m3.s;rw [hs2,hs3];exact g3⟩
   exact mR [6] (Ds wb (w.Ej i (P.now m2 m3))*R) (hE:=⟨fun ww hw=>Sat.right (A:=AD ps.b ps.o (P.c.s.Av q).1.BE ps.s*(HP.AA b14 0 (CB (P.c.s.Av q).1)*(HP.AA b13 0 (CB (P.c.s.Av q).1)*HP.AA b5 0 (BU q)))) (w_ (by
    congr 1
    rw [iy wb w R hP]
    ac_rfl) hw)⟩) rfl rfl ⟨by show q' _=_;rw [g1];rfl,w.Ej i (P.now m2 m3),hok.Ej hP hm2 hm3,hwi,bO,rfl,rfl⟩
end
section
section
variable{P:Program}{B:World}{n:Nat}{E:A6}{D:CK}{H:HP}{d:Option Tmp}{T T' ty:TypeId}{pos:String}{af:Array Edge}{g:Option (Nat×Bool)}{x y z u:Operand}
theorem gH(m:Nat){T e:TypeId}(p:Option Addr)(w:World)(hT:P.underlying T=some (.pointer e)):(Op.equalIn (m+1) T (.pointer p) (.pointer none)).run P w=.ok (decide (p=none)) w:=by
 simp only [Op.equalIn,Sem.run_bind,Bx hT,Result.andThen_ok];cases p<;>rfl
theorem kG(e:TypeId){p:Option Addr}[hT:Ar P T (.pointer e)](hx:ev E x=some (.pointer p))(hy:ev E y=some (.pointer none)):
  Aa P B n ⟨d,.binOp .eql T x y T',ty,pos,af,g⟩ E H (.bool (decide (p=none))):=by
 intro a w he _;have h1:=fun w=>gH (P:=P) 9999 p w hT.get;have h2:(eqGuard .eql T x y (.pointer p) (.pointer none)).run P w=.ok () w:=rfl;simp only [execOp,he.ev hx,he.ev hy,Sem.run_bind,h2,Result.andThen_ok,binOp,Op.equal,show Op.maxDepth=9999+1 from rfl,h1,Sem.run_pure]
theorem uc(e:TypeId){p:Option Addr}[hT:Ar P T (.pointer e)](hx:ev E x=some (.pointer p))(hy:ev E y=some (.pointer none)):
  Aa P B n ⟨d,.binOp .neq T x y T',ty,pos,af,g⟩ E H (.bool (decide (p≠none))):=by
 intro a w he _;have h1:=fun w=>gH (P:=P) 9999 p w hT.get;have h2:(eqGuard .neq T x y (.pointer p) (.pointer none)).run P w=.ok () w:=rfl;simp only [execOp,he.ev hx,he.ev hy,Sem.run_bind,h2,Result.andThen_ok,binOp,Op.equal,show Op.maxDepth=9999+1 from rfl,h1,Sem.run_pure];congr 2;by_cases h:p=none<;>simp [h]
end
variable{B:World}
def hJ(AY AG:Int)(ks:List UInt8)(first:Bool)(po:Option Addr)(A:HP):Prop:=
 (¬Fw AY AG∧po=none∧A=HP.BQ)∨(Fw AY AG∧∃cb m,m.ok∧m.s=AL.new AY.toNat AG.toNat ks first∧po=some ⟨cb,0,none⟩∧A=Ac cb m)
def gS(AY AG:Int)(ks:List UInt8)(first:Bool)(po:Option Addr)(A:HP):Prop:=
 (¬Fw AY AG∧po=none∧A=HP.BQ)∨(Fw AY AG∧∃sb m,m.ok∧m.s=AK.new AY.toNat AG.toNat ks first∧po=some ⟨sb,0,none⟩∧A=AS sb m)
def OH(AY AG:Int):Nat:=if Fw AY AG then 0 else 1
theorem wN(hG:B.cell? ⟨0,0,none⟩=some (Eg 106))(AY AG:Int)(ks:List UInt8)(hk:ks.length=16)(first:Bool)(H:HP):
  Fn Tryz.prog B 16 [.agg [.int .i64 AY,.int .i64 AG].toArray,.agg (AE ks).toArray,.bool first] H (fun v H'=>∃(po:Option Addr) (A:HP),v=.tuple #[.pointer po,iN (OH AY AG)]∧hJ AY AG ks first po A∧H'=A*H):=by
 refine(yI hG AY AG ks hk first H).mono ?_;rintro v H' (⟨h1,rfl,rfl⟩|⟨h1,cb,m,h2,h3,rfl,rfl⟩)
 ·exact pI
 ·exact jG
theorem bi(AY AG:Int)(ks:List UInt8)(hk:ks.length=16)(first:Bool)(H:HP):
  Fn Tryz.prog B 17 [.agg [.int .i64 AY,.int .i64 AG].toArray,.agg (AE ks).toArray,.bool first] H (fun v H'=>∃(po:Option Addr) (A:HP),v=.tuple #[.pointer po,iN (OH AY AG)]∧gS AY AG ks first po A∧H'=A*H):=by
 refine(pt AY AG ks hk first H).mono ?_;rintro v H' (⟨h1,rfl,rfl⟩|⟨h1,cb,m,h2,h3,rfl,rfl⟩)
 ·exact pI
 ·exact jG
theorem j6{AY AG:Int}{ks:List UInt8}{first:Bool}{p q:Option Addr}{A C:HP}(h:hJ AY AG ks first p A)(g:gS AY AG ks first q C):(!(decide (p=none)==decide (q=none)))=false:=by
 rcases h with⟨h1,rfl,_⟩|⟨h1,cb,m,_,_,rfl,_⟩<;>rcases g with⟨g1,rfl,_⟩|⟨g1,sb,s,_,_,rfl,_⟩
 ·rfl
 ·exact absurd g1 h1
 ·exact absurd h1 g1
 ·rfl
theorem j9(fs:List AZ)(p:Option Addr)(c b o:Nat)(rs:List RF)(H:HP)(hfs:Hi B H p c fs b o rs)(hmd:∀r∈rs,FU r)(hn:fs.length<10000000000)(hel:(BN fs).length<70000000):
  Fn Tryz.prog B 67 [.slice p fs.length c] H (fun v H'=>∃(q:Option Addr) (b' o' c':Nat) (ys:List UInt8) (k:Nat) (A:HP),v=.tuple #[.slice q ys.length c',iN k]∧ys.length<70000000∧Sl q b' o' ys.length c'∧(∀R,AW B (A*R) b' o' ys)∧H'=A*H):=by
 refine(eE fs p c b o rs H hfs hmd hn Cg).mono ?_
 cases hop:EV fs with
 |none=>
  rintro v H' ⟨rfl,rfl⟩;exact⟨none,0,0,0,[],5,HP.BQ,rfl,by show 0<_;omega,DG,fun R=>⟨fun i f v e hi=>by simp at hi⟩,Ct⟩
 |some ys=>
  have hys:ys=BN fs:=by
   unfold EV at hop;split at hop
   ·cases hop;rfl
   ·cases hop
  rintro v H' ⟨sv,rfl,q,b',o',c',s',rfl,h1,h2,rfl⟩;exact⟨q,b',o',c',ys,0,AD b' o' ys s',rfl,by rw [hys];exact hel,h1,fun R=>inferInstance,rfl⟩
theorem aj(b:Int):xy.wrap b=((f_ (b%18446744073709551616).toNat).toNat:Int):=by
 have h1:xy.wrap b=b%18446744073709551616:=rfl;rw [h1,UInt64.toNat_ofNat'];omega
theorem aP(c:Int){n:Nat}(h:0<n):Fg c n<n:=Nat.mod_lt _ h
def FW(b:Nat)(s:GJ):HP:=HP.AA b (0+0) [.int .i64 s.kind]*(HP.AA b (0+1) [.int .i64 s.a]*(HP.AA b (0+2) [.int .i64 s.b]*(HP.AA b (0+3) (BU s.q)*(HP.AA b (0+8) [.slice s.p s.fs.length s.cc]*HP.AA b (0+9) [.string s.str]))))
theorem fh(b:Nat)(s:GJ):HP.AA b 0 (Fp s)=FW b s:=by
 show HP.AA b 0 ([.int .i64 s.kind]++([.int .i64 s.a]++([.int .i64 s.b]++(BU s.q++([.slice s.p s.fs.length s.cc]++[.string s.str])))))=_;rw [DB (o':=0+1) _ _ rfl,DB (o:=0+1) (o':=0+2) _ _ rfl,DB (o:=0+2) (o':=0+3) _ _ rfl,DB (o:=0+3) (o':=0+8) _ _ rfl,DB (o:=0+8) (o':=0+9) _ _ rfl];rfl
set_option maxHeartbeats 8000000 in
theorem yE(hG:B.cell? ⟨0,0,none⟩=some (Eg 106))(wb t:Nat)(w:WM)(s:GJ)(R:HP)(hok:w.ok)(hw:Gw t w)(ht:t<300000)(hst:MV B s)(hsm:YD s):
  Fn Tryz.prog B 33 [ptr wb 0,.agg (Fp s).toArray] (Ds wb w*R)
   (fun v H'=>v=.bool true∧∃w':WM,w'.ok∧Gw (t+1) w'∧w'.x.KJ=w.x.KJ∧H'=Ds wb w'*R):=by
 refine mI Tryz.func33 ?_;have hxl:=tA w;have hml:=pY w;have hbl:=mL w;have hkl:=hw.kl;have hpl:=hw.pl;have hks:=hok.ks;have hsz1:=hsm.s1;have hsz2:=hsm.s2;have hsz3:=hsm.s3;refine J2 ?_;refine AV (DP (l:=Fp s) rfl rfl) rfl ?_;rintro _ _ ⟨b3,rfl,rfl⟩;refine J5 ?_;refine Aq (H':=Bk wb w.x*(AD w.xa.b w.xa.o w.xs w.xa.s*(AD w.ma.b w.ma.o w.ms w.ma.s*(AD w.ba.b w.ba.o w.bs w.ba.s*(AD w.ka.b w.ka.o w.kept w.ka.s*(AM DE w.ps*((HP.AA b3 (0+0) [.int .i64 s.kind]*(HP.AA b3 (0+1) [.int .i64 s.a]*(HP.AA b3 (0+2) [.int .i64 s.b]*(HP.AA b3 (0+3) (BU s.q)*(HP.AA b3 (0+8) [.slice s.p s.fs.length s.cc]*HP.AA b3 (0+9) [.string s.str])))))*R))))))) (by rw [fh,Jj];unfold FW;ac_rfl) ?_;refine J3 ?_;refine JL (CI (i:=s.kind) (j:=1) rfl rfl) ?_;refine J2 ?_;refine mC (fun k1=>?_) (fun k1=>?_)
 ·refine J6 ?_;refine JL (Br (v':=.agg [.int .i64 s.a,.int .i64 s.b].toArray) H7 rfl) ?_;refine AV (GX (l:=[.int .i64 0,.int .i64 0]) rfl) rfl ?_;rintro _ _ ⟨b5,rfl,rfl⟩;refine Fi ?_;refine J7 ?_;refine JL (fo (i:=s.q.AN) (j:=2) rfl rfl Ci) ?_;refine JL (CI (i:=s.q.AN.tmod 2) (j:=0) rfl rfl) ?_;refine J4 ?_;refine iT ?_;refine Al 6 Ch rfl rfl (BK rfl (wN hG s.a s.b w.x.ks hks (decide (s.q.AN.tmod 2=0)) _)) ?_;rintro _ _ ⟨po,A1,rfl,hC,rfl⟩;refine BF ?_;refine kY ?_;refine C3 ?_;refine iT ?_;refine Al 6 Ch rfl rfl (BK rfl (bi s.a s.b w.x.ks hks (decide (s.q.AN.tmod 2=0)) _)) ?_;rintro _ _ ⟨qo,A2,rfl,hD,rfl⟩;refine BF ?_
  refine kY ?_;refine JD ?_;refine J6 ?_;refine JL (GP (i:=OH s.a s.b) (j:=OH s.a s.b) rfl rfl) ?_;refine J1 ?_;refine Pz ?_;refine J1 ?_;refine Pz ?_;refine JL (kG 184 rfl rfl) ?_;refine Pz ?_;refine J1 ?_;refine Pz ?_;refine JL (kG 116 rfl rfl) ?_;refine Pz ?_;refine JL (WU rfl rfl) ?_;refine JL (Fe pL rfl rfl) ?_;refine J2 ?_;refine sF rfl (j6 hC hD) ?_;refine J6 ?_;refine JL (uc 184 rfl rfl) ?_;refine J2 ?_;refine mC (fun h64=>?_) (fun h64=>?_)
  ·skip
   obtain⟨hcfg,cb,cm,hcm,hcs,rfl,rfl⟩:Fw s.a s.b∧∃cb m,m.ok∧m.s=AL.new s.a.toNat s.b.toNat w.x.ks (decide (s.q.AN.tmod 2=0))∧po=some ⟨cb,0,none⟩∧A1=Ac cb m:=by
    rcases hC with⟨_,h7,_⟩|h7
    ·exact absurd h7 h64
    ·exact h7
   obtain⟨sb,sm,hsmk,hss,rfl,rfl⟩:∃sb m,m.ok∧m.s=AK.new s.a.toNat s.b.toNat w.x.ks (decide (s.q.AN.tmod 2=0))∧qo=some ⟨sb,0,none⟩∧A2=AS sb m:=by
    rcases hD with⟨h7,_⟩|⟨_,h7⟩
    ·exact absurd hcfg h7
    ·exact h7
   obtain⟨m1,m2,m3,m4⟩:=hcfg;refine J6 ?_;refine JL (Br (v':=.slice w.xa.p w.xs.length w.xa.c) D7 (by rw [hxl];exact hok.xv)) ?_;refine J1 ?_;refine AV (E4 (cs:=[ptr cb 0]) rfl Cr rfl rfl) rfl ?_;rintro _ _ ⟨b71,rfl,rfl⟩;refine Aw (H':=AD w.xa.b w.xa.o w.xs w.xa.s*(HP.AA b71 0 (AE [(⟨cb⟩:Dv)])*(AS sb sm*(Ac cb cm*(HP.AA b5 0 [.int .i64 s.a,.int .i64 s.b]*(Bk wb w.x*(AD w.ma.b w.ma.o w.ms w.ma.s*(AD w.ba.b w.ba.o w.bs w.ba.s*(AD w.ka.b w.ka.o w.kept w.ka.s*(AM DE w.ps*((HP.AA b3 (0+0) [.int .i64 s.kind]*(HP.AA b3 (0+1) [.int .i64 s.a]*(HP.AA b3 (0+2) [.int .i64 s.b]*(HP.AA b3 (0+3) (BU s.q)*(HP.AA b3 (0+8) [.slice s.p s.fs.length s.cc]*HP.AA b3 (0+9) [.string s.str])))))*R))))))))))) (by show HP.AA b71 0 [ptr cb 0]*_=_;rw [show AE [(⟨cb⟩:Dv)]=[ptr cb 0]from rfl];ac_rfl) ?_;refine AV (Bf (ys:=[(⟨cb⟩:Dv)]) (bb:=b71) (oo:=0) (cc:=1) rfl hok.xa.1 hok.xa.2 rfl Bc inferInstance rfl Cs Cg) rfl ?_;rintro _ _ ⟨p72,b72,o72,c72,s72,rfl,hs72,hc72,rfl⟩;refine BV ?_;refine JL (Br (v':=.slice w.ma.p w.ms.length w.ma.c) D7 (by rw [hml];exact hok.mv)) ?_;refine J1 ?_;refine AV (E4 (cs:=[ptr sb 0]) rfl Cr rfl rfl) rfl ?_;rintro _ _ ⟨b81,rfl,rfl⟩
   refine Aw (H':=AD w.ma.b w.ma.o w.ms w.ma.s*(HP.AA b81 0 (AE [(⟨sb⟩:Dv)])*(AD b72 o72 (w.xs++[(⟨cb⟩:Dv)]) s72*(HP.AA b71 0 (AE [(⟨cb⟩:Dv)])*(AS sb sm*(Ac cb cm*(HP.AA b5 0 [.int .i64 s.a,.int .i64 s.b]*(Bk wb {w.x with xv:=.slice p72 (w.xs++[(⟨cb⟩:Dv)]).length c72}*(AD w.ba.b w.ba.o w.bs w.ba.s*(AD w.ka.b w.ka.o w.kept w.ka.s*(AM DE w.ps*((HP.AA b3 (0+0) [.int .i64 s.kind]*(HP.AA b3 (0+1) [.int .i64 s.a]*(HP.AA b3 (0+2) [.int .i64 s.b]*(HP.AA b3 (0+3) (BU s.q)*(HP.AA b3 (0+8) [.slice s.p s.fs.length s.cc]*HP.AA b3 (0+9) [.string s.str])))))*R)))))))))))) (by show HP.AA b81 0 [ptr sb 0]*_=_;rw [show AE [(⟨sb⟩:Dv)]=[ptr sb 0]from rfl];ac_rfl) ?_;refine AV (Bf (ys:=[(⟨sb⟩:Dv)]) (bb:=b81) (oo:=0) (cc:=1) rfl hok.ma.1 hok.ma.2 rfl Bc inferInstance rfl Cs Cg) rfl ?_;rintro _ _ ⟨p82,b82,o82,c82,s82,rfl,hs82,hc82,rfl⟩;refine By ?_;refine JL (Br (v':=.slice w.ba.p w.bs.length w.ba.c) D7 (by rw [hbl];exact hok.bv)) ?_;refine J1 ?_;refine AV (E4 (cs:=[.bool (decide (s.q.AN.tmod 2=0))]) rfl Cr rfl rfl) rfl ?_;rintro _ _ ⟨b91,rfl,rfl⟩
   refine Aw (H':=AD w.ba.b w.ba.o w.bs w.ba.s*(HP.AA b91 0 (AE [(decide (s.q.AN.tmod 2=0))])*(AD b82 o82 (w.ms++[(⟨sb⟩:Dv)]) s82*(HP.AA b81 0 (AE [(⟨sb⟩:Dv)])*(AD b72 o72 (w.xs++[(⟨cb⟩:Dv)]) s72*(HP.AA b71 0 (AE [(⟨cb⟩:Dv)])*(AS sb sm*(Ac cb cm*(HP.AA b5 0 [.int .i64 s.a,.int .i64 s.b]*(Bk wb {w.x with xv:=.slice p72 (w.xs++[(⟨cb⟩:Dv)]).length c72,mv:=.slice p82 (w.ms++[(⟨sb⟩:Dv)]).length c82}*(AD w.ka.b w.ka.o w.kept w.ka.s*(AM DE w.ps*((HP.AA b3 (0+0) [.int .i64 s.kind]*(HP.AA b3 (0+1) [.int .i64 s.a]*(HP.AA b3 (0+2) [.int .i64 s.b]*(HP.AA b3 (0+3) (BU s.q)*(HP.AA b3 (0+8) [.slice s.p s.fs.length s.cc]*HP.AA b3 (0+9) [.string s.str])))))*R))))))))))))) (by show HP.AA b91 0 [q' (decide (s.q.AN.tmod 2=0))]*_=_;rw [show AE [(decide (s.q.AN.tmod 2=0))]=[q' (decide (s.q.AN.tmod 2=0))]from rfl];ac_rfl) ?_;refine AV (Bf (ys:=[(decide (s.q.AN.tmod 2=0))]) (bb:=b91) (oo:=0) (cc:=1) rfl hok.ba.1 hok.ba.2 rfl Bc inferInstance rfl Cs Cg) rfl ?_;rintro _ _ ⟨p92,b92,o92,c92,s92,rfl,hs92,hc92,rfl⟩;refine CR ?_
   obtain⟨np,hnp⟩:∃np:EC,np=⟨cb,cm,sb,sm,(decide (s.q.AN.tmod 2=0))⟩:=Bg
   obtain⟨w2,hw2⟩:∃w2:WM,w2=(⟨{w.x with xv:=.slice p72 (w.ps++[np]).length c72,mv:=.slice p82 (w.ps++[np]).length c82,bv:=.slice p92 (w.ps++[np]).length c92},w.ps++[np],⟨p72,b72,o72,c72,s72⟩,⟨p82,b82,o82,c82,s82⟩,⟨p92,b92,o92,c92,s92⟩,w.kept,w.ka⟩:WM):=Bg
   have hpn:Kp (t+1) np:=by
    rw [hnp];refine⟨?_,?_,?_⟩
    ·show Ak (t+1) cm.s;rw [hcs];exact(Ak.new Cg Cg Cg Cg hks).mono C9
    ·show Ag (t+1) sm.s;rw [hss];exact(Ag.new Cg Cg Cg Cg hks).mono C9
    ·show Rel cm.s sm.s;rw [hcs,hss];exact Rel.new _ _ _ _
   have hxs2:w2.xs=w.xs++[⟨cb⟩]:=by rw [hw2,hnp];show(w.ps++[_]).map _=w.ps.map _++_;rw [r_];rfl
   have hms2:w2.ms=w.ms++[⟨sb⟩]:=by rw [hw2,hnp];show(w.ps++[_]).map _=w.ps.map _++_;rw [r_];rfl
   have hbs2:w2.bs=w.bs++[(decide (s.q.AN.tmod 2=0))]:=by rw [hw2,hnp];show(w.ps++[_]).map _=w.ps.map _++_;rw [r_];rfl
   have hwc:Bk wb ⟨w.x.ks,.slice p72 (w.ps++[(⟨cb,cm,sb,sm,(decide (s.q.AN.tmod 2=0))⟩:EC)]).length c72,.slice p82 (w.ps++[(⟨cb,cm,sb,sm,(decide (s.q.AN.tmod 2=0))⟩:EC)]).length c82,.slice p92 (w.ps++[(⟨cb,cm,sb,sm,(decide (s.q.AN.tmod 2=0))⟩:EC)]).length c92,w.x.kv,w.x.KJ⟩=Bk wb ⟨w.x.ks,.slice p72 (w.xs++[(⟨cb⟩:Dv)]).length c72,.slice p82 (w.ms++[(⟨sb⟩:Dv)]).length c82,.slice p92 (w.bs++[(decide (s.q.AN.tmod 2=0))]).length c92,w.x.kv,w.x.KJ⟩:=by
    simp only [d_,c_,hxl,hml,hbl]
   have hok2:w2.ok:=by
    refine⟨by rw [hxs2,hw2];exact⟨hs72,hc72⟩,by rw [hms2,hw2];exact⟨hs82,hc82⟩,by rw [hbs2,hw2];exact⟨hs92,hc92⟩,by rw [hw2];exact hok.ka,Ws,Ws,Ws,by rw [hw2];exact hok.kv,fun p hp=>?_,fun p hp=>?_,by rw [hw2];exact hks⟩
    ·rw [hw2]at hp;rcases j_.1 hp with hp|hp
     ·exact hok.Q0 p hp
     ·rw [j'.1 hp,hnp];exact hcm
    ·rw [hw2]at hp;rcases j_.1 hp with hp|hp
     ·exact hok.Q5 p hp
     ·rw [j'.1 hp,hnp];exact hsmk
   have hinv2:Gw (t+1) w2:=by
    have hwm:=hw.mono De;refine⟨fun p hp=>?_,by rw [hw2];show(w.ps++[np]).length≤t+1;rw [d_];simp only [c_];omega,by rw [hw2];exact hwm.kl,by rw [hw2];exact hw.kz⟩;rw [hw2]at hp;rcases j_.1 hp with hp|hp
    ·exact hwm.ps p hp
    ·rw [j'.1 hp];exact hpn
   exact mR [4] (Ds wb w2*R) (hE:=⟨fun ww hw=>Sat.right (A:=HP.AA b91 0 (AE [(decide (s.q.AN.tmod 2=0))])*(HP.AA b81 0 (AE [(⟨sb⟩:Dv)])*(HP.AA b71 0 (AE [(⟨cb⟩:Dv)])*(HP.AA b5 0 [.int .i64 s.a,.int .i64 s.b]*FW b3 s)))) (w_ (by
    congr 1
    rw [Jj,hxs2,hms2,hbs2,hw2,hnp]
    dsimp only
    rw [Kf,Fx,FG,HP.Gb]
    unfold FW
    show _=HP.AA b91 0 (AE [(decide (s.q.AN.tmod 2=0))])*(HP.AA b81 0 (AE [(⟨sb⟩:Dv)])*(HP.AA b71 0 (AE [(⟨cb⟩:Dv)])*(HP.AA b5 0 [.int .i64 s.a,.int .i64 s.b]*(HP.AA b3 (0+0) [.int .i64 s.kind]*(HP.AA b3 (0+1) [.int .i64 s.a]*(HP.AA b3 (0+2) [.int .i64 s.b]*(HP.AA b3 (0+3) (BU s.q)*(HP.AA b3 (0+8) [.slice s.p s.fs.length s.cc]*HP.AA b3 (0+9) [.string s.str]))))))))*(Bk wb ⟨w.x.ks,.slice p72 (w.ps++[(⟨cb,cm,sb,sm,(decide (s.q.AN.tmod 2=0))⟩:EC)]).length c72,.slice p82 (w.ps++[(⟨cb,cm,sb,sm,(decide (s.q.AN.tmod 2=0))⟩:EC)]).length c82,.slice p92 (w.ps++[(⟨cb,cm,sb,sm,(decide (s.q.AN.tmod 2=0))⟩:EC)]).length c92,w.x.kv,w.x.KJ⟩*(AD b72 o72 (w.xs++[(⟨cb⟩:Dv)]) s72*(AD b82 o82 (w.ms++[(⟨sb⟩:Dv)]) s82*(AD b92 o92 (w.bs++[(decide (s.q.AN.tmod 2=0))]) s92*(AD w.ka.b w.ka.o w.kept w.ka.s*(AM DE w.ps*(Ac cb cm*AS sb sm)*R))))))
    rw [hwc]
    ac_rfl) hw)⟩) rfl rfl ⟨rfl,w2,hok2,hinv2,Td,rfl⟩
  have hnc:¬Fw s.a s.b:=by
   rcases hC with⟨h7,_⟩|⟨_,cb,cm,_,_,rfl,_⟩
   ·exact h7
   ·exact absurd (fun h=>by cases h) h64
  refine J9 ?_;rcases hC with⟨_,_,rfl⟩|⟨h7,_⟩
  ·rcases hD with⟨_,_,rfl⟩|⟨h7,_⟩
   ·exact mR [4] (Ds wb w*R) (hE:=⟨fun ww hw=>Sat.right (A:=HP.AA b5 0 [.int .i64 s.a,.int .i64 s.b]*FW b3 s) (w_ (by congr 1;rw [Jj,HP.BA,HP.BA];unfold FW;ac_rfl) hw)⟩) rfl rfl US
   ·exact absurd h7 hnc
  ·exact absurd h7 hnc
 refine J8 ?_;refine JL SY ?_;refine J1 ?_;refine JL (CV (i:=w.ps.length) (j:=0) rfl rfl) ?_;refine J2 ?_;refine mC (fun h100=>?_) (fun h100=>?_)
 ·refine J7 ?_;exact YN
 refine J3 ?_;refine mA 7 9 ?_;refine O6 ?_;refine Jf 4 ?_;refine JT 5 rfl SY ?_;refine JT 6 rfl Dm ?_;refine Al 7 Ch rfl rfl (BK rfl (pZ s.a hst.a1 w.ps.length Cg _)) ?_;refine JR ?_;refine DS ?_;refine Ec 8 Ch rfl rfl Fl EO ?_;refine C3 ?_;have hkk:(Fg s.a w.ps.length)<w.ps.length:=aP _ Cg
 obtain⟨P,hP⟩:∃P,w.ps[(Fg s.a w.ps.length)]?=some P:=⟨_,i_ hkk⟩
 have hpm:P∈w.ps:=v_ hP;have hPI:=hw.ps P hpm;refine J1 ?_;refine JL ND ?_;refine J8 ?_;refine JL (Br D7 hok.bv) ?_;refine J1 ?_;refine JL (Bm (i:=(Fg s.a w.ps.length)) rfl rfl (by have h7:=hok.ba.1;rw [hbl]at h7;exact h7) hkk) ?_;refine JL (Br (v':=.bool P.first) (DT (f:=0) (xs:=w.bs) rfl inferInstance rfl (by rw [hbl];exact hkk)) (by rw [ot hP])) ?_;refine Eb ?_;refine BO (α:=Nat) (fun k=>[(12,iN k),(11,iN (Fg s.a w.ps.length)),(3,ptr b3 0),(0,ptr wb 0)]) (fun _=>Bk wb w.x*(AD w.xa.b w.xa.o w.xs w.xa.s*(AD w.ma.b w.ma.o w.ms w.ma.s*(AD w.ba.b w.ba.o w.bs w.ba.s*(AD w.ka.b w.ka.o w.kept w.ka.s*(AM DE w.ps*((HP.AA b3 (0+0) [.int .i64 s.kind]*(HP.AA b3 (0+1) [.int .i64 s.a]*(HP.AA b3 (0+2) [.int .i64 s.b]*(HP.AA b3 (0+3) (BU s.q)*(HP.AA b3 (0+8) [.slice s.p s.fs.length s.cc]*HP.AA b3 (0+9) [.string s.str])))))*R))))))) (fun _=>True) ?_ ?_
 ·refine mc (fun hc=>?_) (fun hc=>?_)
  ·refine J1 ?_;refine FC ?_;refine J1 ?_;exact AU 0 trivial BR rfl
  refine J1 ?_;exact AU 1 trivial BR rfl
 ·rintro sd _;refine BV ?_;refine JL (CI (i:=s.kind) (j:=2) rfl rfl) ?_;refine J3 ?_;refine mC (fun k2=>?_) (fun k2=>?_)
  ·refine J5 ?_;refine JL (Dp (l:=BU s.q) rfl rfl) ?_;refine Aw (H':=Ds wb w*(FW b3 s*R)) SU ?_;refine mE rfl (Tv hG wb t (Fg s.a w.ps.length) w P s.q _ hok hw hP Cg Cg hst.m1) ?_;rintro _ _ ⟨rfl,w2,hok2,hw2,hpl2,hbr2,rfl⟩;refine J6 ?_;exact qQ
  refine J2 ?_;refine JL (CI (i:=s.kind) (j:=3) rfl rfl) ?_;refine J3 ?_;refine mC (fun k3=>?_) (fun k3=>?_)
  ·refine J6 ?_;refine JL Se ?_;refine J1 ?_;refine JL (CV (i:=w.kept.length) (j:=0) rfl rfl) ?_;refine J2 ?_;refine mC (fun h133=>?_) (fun h133=>?_)
   ·refine J9 ?_;exact YN
   refine J3 ?_;refine mA 7 9 ?_;refine O6 ?_;refine Jf 4 ?_;refine JT 5 rfl Se ?_;refine JT 6 rfl Dm ?_;refine Al 7 Ch rfl rfl (BK rfl (pZ s.b hst.b1 w.kept.length Cg _)) ?_;refine JR ?_;have hkj:Fg s.b w.kept.length<w.kept.length:=aP _ Cg;have hkz:=hw.kz _ (Ex (d:=AB.AC) hkj);refine DS ?_;refine Ec 8 Ch rfl rfl Fl EO ?_;refine JD ?_;refine J8 ?_;refine JL Se ?_;refine J1 ?_;refine JL (Bm (i:=Fg s.b w.kept.length) rfl rfl hok.ka.1 hkj) ?_;refine JL (DT (f:=0) (xs:=w.kept) rfl inferInstance rfl hkj) ?_;refine JL (Br (v':=.agg (BU (⟨6,0,0,0,(w.kept.getD (Fg s.b w.kept.length) AB.AC)⟩:FN)).toArray) H7 rfl) ?_;refine Aw (H':=Ds wb w*(FW b3 s*R)) SU ?_;refine mE rfl (Tv hG wb t (Fg s.a w.ps.length) w P (⟨6,0,0,0,(w.kept.getD (Fg s.b w.kept.length) AB.AC)⟩:FN) _ hok hw hP Cg (by show(w.kept.getD (Fg s.b w.kept.length) AB.AC).size<_;omega) WZ) ?_;rintro _ _ ⟨rfl,w2,hok2,hw2,hpl2,hbr2,rfl⟩;refine J6 ?_
   exact qQ
  refine J2 ?_;refine JL (CI (i:=s.kind) (j:=4) rfl rfl) ?_;refine J3 ?_;refine mC (fun k4=>?_) (fun k4=>?_)
  ·refine J4 ?_;refine AV (BK (by show some [n_ s.p s.fs.length s.cc]=some [n_ s.p (s.fs.map (·.f)).length s.cc];rw [a_]) (j9 (s.fs.map (·.f)) s.p s.cc s.bb s.oo s.fs _ ⟨by rw [a_];exact hst.sl,hst.rd _,rfl,hst.ok,hst.MG _⟩ (fun r hr=>⟨hst.ok r hr,by have:=(hst.z3 r hr).2;omega,by have:=(hst.z3 r hr).1;omega⟩) (by rw [a_];have:=hst.fl;omega) (by have h7:=dO s.fs;omega))) rfl ?_;rintro _ _ ⟨q58,b58,o58,c58,ys,ek,A58,rfl,hyl,hs58,hr58,rfl⟩;refine BV ?_;refine JL (GP (i:=ek) (j:=0) rfl rfl) ?_;refine J2 ?_;refine mC (fun h162=>?_) (fun h162=>?_)
   ·refine J9 ?_;exact mR [4] (Ds wb w*R) (hE:=⟨fun ww hw=>Sat.right (A:=A58*FW b3 s) (w_ gA hw)⟩) rfl rfl US
   refine J3 ?_;refine mA 9 11 ?_;refine cF ?_;refine Jm 8 ?_;refine Al 9 Ch rfl rfl (BK rfl (dL w.x.ks hks sd _ ys q58 b58 o58 c58 _ hs58 (hr58 _) Cg)) ?_;rintro _ _ ⟨q72,b72,o72,c72,s72,rfl,hs72,hc72,rfl⟩;have hsl72:=Qb w.x.ks (g_ sd) (f_ (s.b%18446744073709551616).toNat) ys;refine UX ?_;refine JD ?_;refine J6 ?_;refine JL (Hq rfl hs72 inferInstance) ?_;refine JL (Br (v':=.agg (BU (⟨6,0,0,0,(BI (DK w.x.ks (g_ sd) (f_ (s.b%18446744073709551616).toNat) ys))⟩:FN)).toArray) H7 rfl) ?_;refine Aw (H':=Ds wb w*(AD b72 o72 (DK w.x.ks (g_ sd) (f_ (s.b%18446744073709551616).toNat) ys) s72*A58*(FW b3 s*R))) SU ?_;refine mE rfl (Tv hG wb t (Fg s.a w.ps.length) w P (⟨6,0,0,0,(BI (DK w.x.ks (g_ sd) (f_ (s.b%18446744073709551616).toNat) ys))⟩:FN) _ hok hw hP Cg aN WZ) ?_;rintro _ _ ⟨rfl,w2,hok2,hw2,hpl2,hbr2,rfl⟩
   refine J6 ?_;exact mR [4] (Ds wb w2*R) (hE:=⟨fun ww hw=>Sat.right (A:=AD b72 o72 (DK w.x.ks (g_ sd) (f_ (s.b%18446744073709551616).toNat) ys) s72*A58*FW b3 s) (w_ Cv hw)⟩) rfl rfl Vn
  refine J2 ?_;refine JL (CI (i:=s.kind) (j:=5) rfl rfl) ?_;refine J3 ?_;refine mC (fun k5=>?_) (fun k5=>?_)
  ·refine J1 ?_;refine Dc (Bk wb w.x*(HP.AA b3 (0+0) [.int .i64 s.kind]*(HP.AA b3 (0+1) [.int .i64 s.a]*(HP.AA b3 (0+2) [.int .i64 s.b]*(HP.AA b3 (0+3) (BU s.q)*(HP.AA b3 (0+8) [.slice s.p s.fs.length s.cc]*HP.AA b3 (0+9) [.string s.str])))))) 11 13 Dg rfl Ch ?_;refine cF ?_;refine Jf 8 ?_;refine Jd 9 ?_;refine Al 10 Ch rfl rfl NG ?_;rintro _ _ ⟨p91,b91,o91,c91,s91,rfl,hs91,hc91,rfl⟩;refine BF ?_;refine Al 11 Ch rfl rfl (BK rfl (dL w.x.ks hks sd _ s.str.data.toList p91 b91 o91 c91 _ hs91 inferInstance (by rw [b_];show s.str.size<_;omega))) ?_;rintro _ _ ⟨q92,b92,o92,c92,s92,rfl,hs92,hc92,rfl⟩;have hsl92:=Qb w.x.ks (g_ sd) (f_ (s.b%18446744073709551616).toNat) s.str.data.toList;have hstl:s.str.data.toList.length=s.str.size:=b_;refine DS ?_;refine Ec 12 Ch rfl rfl Fl EO ?_;refine JD ?_;refine J6 ?_;refine JL (Hq rfl hs92 inferInstance) ?_
   refine JL (Br (v':=.agg (BU (⟨6,0,0,0,(BI (DK w.x.ks (g_ sd) (f_ (s.b%18446744073709551616).toNat) s.str.data.toList))⟩:FN)).toArray) H7 rfl) ?_;refine Aw (H':=Ds wb w*(AD b92 o92 (DK w.x.ks (g_ sd) (f_ (s.b%18446744073709551616).toNat) s.str.data.toList) s92*AD b91 o91 s.str.data.toList s91*(FW b3 s*R))) SU ?_;refine mE rfl (Tv hG wb t (Fg s.a w.ps.length) w P (⟨6,0,0,0,(BI (DK w.x.ks (g_ sd) (f_ (s.b%18446744073709551616).toNat) s.str.data.toList))⟩:FN) _ hok hw hP Cg aN WZ) ?_;rintro _ _ ⟨rfl,w2,hok2,hw2,hpl2,hbr2,rfl⟩;refine J6 ?_;exact mR [4] (Ds wb w2*R) (hE:=⟨fun ww hw=>Sat.right (A:=AD b92 o92 (DK w.x.ks (g_ sd) (f_ (s.b%18446744073709551616).toNat) s.str.data.toList) s92*AD b91 o91 s.str.data.toList s91*FW b3 s) (w_ Cv hw)⟩) rfl rfl Vn
  refine J2 ?_;refine JL (CI (i:=s.kind) (j:=6) rfl rfl) ?_;refine J3 ?_;refine mC (fun k6=>?_) (fun k6=>?_)
  ·refine J5 ?_;refine JL SY ?_;refine J1 ?_;refine JL (Bm (i:=(Fg s.a w.ps.length)) rfl rfl cA hkk) ?_;refine JL (Br (v':=ptr P.cb 0) (DT (f:=0) (xs:=w.xs) rfl inferInstance rfl (by rw [hxl];exact hkk)) (by rw [sU hP])) ?_;refine Aw (H':=Ac P.cb P.c*(AS P.sb P.s*(Bk wb w.x*(AD w.xa.b w.xa.o w.xs w.xa.s*(AD w.ma.b w.ma.o w.ms w.ma.s*(AD w.ba.b w.ba.o w.bs w.ba.s*(AD w.ka.b w.ka.o w.kept w.ka.s*(BX DE w.ps (Fg s.a w.ps.length)*((HP.AA b3 (0+0) [.int .i64 s.kind]*(HP.AA b3 (0+1) [.int .i64 s.a]*(HP.AA b3 (0+2) [.int .i64 s.b]*(HP.AA b3 (0+3) (BU s.q)*(HP.AA b3 (0+8) [.slice s.p s.fs.length s.cc]*HP.AA b3 (0+9) [.string s.str])))))*R))))))))) (by rw [Wt DE hP];unfold DE;ac_rfl) ?_;refine mE rfl (yP hG P.cb P.c _) ?_;refine JR ?_;refine J8 ?_;refine JL SR ?_;refine J1 ?_;refine JL (Bm (i:=(Fg s.a w.ps.length)) rfl rfl bP hkk) ?_;refine JL (Br (v':=ptr P.sb 0) (DT (f:=0) (xs:=w.ms) rfl inferInstance rfl (by rw [hml];exact hkk)) pU) ?_
   refine Aw (H':=AS P.sb P.s*(Ac P.cb P.c*(Bk wb w.x*(AD w.xa.b w.xa.o w.xs w.xa.s*(AD w.ma.b w.ma.o w.ms w.ma.s*(AD w.ba.b w.ba.o w.bs w.ba.s*(AD w.ka.b w.ka.o w.kept w.ka.s*(BX DE w.ps (Fg s.a w.ps.length)*((HP.AA b3 (0+0) [.int .i64 s.kind]*(HP.AA b3 (0+1) [.int .i64 s.a]*(HP.AA b3 (0+2) [.int .i64 s.b]*(HP.AA b3 (0+3) (BU s.q)*(HP.AA b3 (0+8) [.slice s.p s.fs.length s.cc]*HP.AA b3 (0+9) [.string s.str])))))*R))))))))) Cm ?_;refine mE rfl (ZY P.sb P.s _) ?_;refine JR ?_;refine J7 ?_;refine JL (CV (i:=P.c.s.closed) (j:=P.s.s.closed) rfl rfl) ?_;refine J6 ?_;exact mR [4] (Ds wb w*R) (hE:=⟨fun ww hw=>Sat.right (A:=FW b3 s) (w_ (by congr 1;rw [Jj,Wt DE hP];unfold DE FW;ac_rfl) hw)⟩) rfl rfl ⟨by show q' (decide (P.c.s.closed=P.s.s.closed))=_;rw [hPI.r.base.closed,decide_eq_true rfl],w,hok,hw.mono De,rfl,rfl⟩
  refine J9 ?_;exact YN
end
section
variable{B:World}
def Ng(ks:List UInt8)(first:Bool):List Value:=AE ks++([.slice none 0 0]++([.slice none 0 0]++([.slice none 0 0]++([.slice none 0 0]++[.bool first]))))
def w0(ks:List UInt8)(first:Bool):WM:=⟨⟨ks,.slice none 0 0,.slice none 0 0,.slice none 0 0,.slice none 0 0,first⟩,[],BP,BP,BP,[],BP⟩
theorem sr(b:Nat)(ks:List UInt8)(hk:ks.length=16)(first:Bool)(R:HP):HP.AA b 0 (Ng ks first)*R=Ds b (w0 ks first)*R:=by
 unfold Ng;rw [DB (o':=0+16) _ _ (by rw [Ff hk]),DB (o:=0+16) (o':=0+17) _ _ rfl,DB (o:=0+17) (o':=0+18) _ _ rfl,DB (o:=0+18) (o':=0+19) _ _ rfl,DB (o:=0+19) (o':=0+20) _ _ rfl];rw [Jj];show _=Bk b ⟨ks,.slice none 0 0,.slice none 0 0,.slice none 0 0,.slice none 0 0,first⟩*(BP.h ([]:List Dv)*(BP.h ([]:List Dv)*(BP.h ([]:List Bool)*(BP.h ([]:List ByteArray)*(AM DE []*R)))))
 repeat rw [GN]
 rw [FG,HP.BA,HP.BA,HP.BA,HP.BA,HP.BA];rfl
def WY:List Value:=[.int .u8 0,.int .u8 0,.int .u8 0,.int .u8 0,.int .u8 0,.int .u8 0,.int .u8 0,.int .u8 0,.int .u8 0,.int .u8 0,.int .u8 0,.int .u8 0,.int .u8 0,.int .u8 0,.int .u8 0,.int .u8 0]++([.slice none 0 0]++([.slice none 0 0]++([.slice none 0 0]++([.slice none 0 0]++[.bool false]))))
theorem jq:BZ Tryz.prog 90 (.agg WY.toArray):=by
 have h:BZ Tryz.prog 90 _:=inferInstance;refine w_ (congrArg (BZ Tryz.prog 90) ?_) h;kernel_rfl
theorem R? (ks:List UInt8)(hk:ks.length=16)(first:Bool):
  Iu #[(0,16),(16,1),(17,1),(18,1),(19,1),(20,1)] WY [(0,.agg (AE ks).toArray),(5,.bool first)] (Ng ks first):=by
 have hl1:(AE ks).length=16:=Ff hk;unfold WY
 exact(Hf [] [.int .u8 0,.int .u8 0,.int .u8 0,.int .u8 0,.int .u8 0,.int .u8 0,.int .u8 0,.int .u8 0,.int .u8 0,.int .u8 0,.int .u8 0,.int .u8 0,.int .u8 0,.int .u8 0,.int .u8 0,.int .u8 0] ([.slice none 0 0]++([.slice none 0 0]++([.slice none 0 0]++([.slice none 0 0]++[.bool false])))) (AE ks) NS rfl NS rfl
  (Hf (AE ks++[.slice none 0 0,.slice none 0 0,.slice none 0 0,.slice none 0 0]) [.bool false] [] [.bool first] Wn Q6 rfl rfl
  (by unfold Ng;simp only [List.append_assoc];exact Pn)))
theorem fj{ks:List UInt8}(hk:ks.length=16)(first:Bool):(w0 ks first).ok:=
 ⟨DX,DX,DX,DX,rfl,rfl,rfl,rfl,(fun _ h=>nomatch h),(fun _ h=>nomatch h),hk⟩
theorem uC(ks:List UInt8)(first:Bool):Gw 0 (w0 ks first):=⟨(fun _ h=>nomatch h),s_ _,s_ _,(fun _ h=>nomatch h)⟩
set_option maxHeartbeats 4000000 in
theorem ng(hG:B.cell? ⟨0,0,none⟩=some (Eg 106))(p:Option Addr)(b o c:Nat)(l:List GJ)(ks:List UInt8)(hk:ks.length=16)(first:Bool)(H:HP)(hs:Sl p b o l.length c)(hr:AW B H b o l)(hok:∀s∈l,MV B s)(hl:l.length≤1048576):
  Fn Tryz.prog B 11 [.slice p l.length c,.agg (AE ks).toArray,.bool first] H (fun v H'=>v=.bool true∧H'=H):=by
 refine mI Tryz.func11 ?_;refine K2 ?_;rintro _ _ ⟨b4,rfl,rfl⟩;refine J6 ?_;refine mE rfl (nu p b o c l _ hs inferInstance hok hl) ?_;rintro _ _ ⟨bb,rfl,hsm,rfl⟩;refine J7 ?_;refine Eb ?_;refine mc (fun h14=>?_) (fun h14=>?_)
 ·refine J7 ?_;exact mR [6] H rfl rfl CO
 obtain⟨hll,hss⟩:=hsm (by have h14:(!bb)=false:=h14;cases bb;cases h14;rfl);refine J4 ?_;refine JL MJ ?_;refine J1 ?_;refine JL (Ph (hz:=jq) (cs:=Ng ks first) rfl (R? ks hk first)) ?_;refine AV (DP (l:=Ng ks first) rfl rfl) rfl ?_;rintro _ _ ⟨b18,rfl,rfl⟩;refine J5 ?_;refine Aq (H':=Ds b18 (w0 ks first)*(HP.AA b4 0 (AE ks)*H)) (sr b18 ks hk first _) ?_;refine J1 ?_;refine CZ ?_;refine BL (α:=Nat×WM) (fun z=>[(9,iN z.1),(8,ptr b18 0),(4,ptr b4 0),(0,.slice p l.length c),(2,.bool first)]) (fun z=>Ds b18 z.2*(HP.AA b4 0 (AE ks)*H)) (fun z=>z.1≤l.length∧z.2.ok∧Gw z.1 z.2) (fun z=>l.length-z.1) (0,w0 ks first) ⟨p_ _,fj hk first,uC ks first⟩ EB rfl ?_;rintro⟨i,w⟩ ⟨hi,hwok,hw⟩;dsimp only at hi hwok hw⊢;refine J9 ?_;refine mC (fun h22=>?_) (fun h22=>?_)
 ·have h22:i<l.length:=h22;have hst:=hok _ (Ex (d:=AB.AC) h22);have hsm1:=hss _ (Ex (d:=AB.AC) h22);refine J5 ?_;refine mA 5 7 ?_;refine EQ ?_;refine JT 2 rfl (FT rfl rfl hs h22 rfl) ?_;refine JT 3 rfl dM ?_;refine JT 4 rfl MJ ?_;refine Al 5 Ch rfl rfl (BK rfl (pm (l.getD i AB.AC) ks hk _ hst)) ?_;rintro _ _ ⟨be,rfl,rfl⟩;refine DS ?_;refine Sk ?_;refine HN ?_;refine BO (α:=Bool) (fun b=>[(35,.bool b),(9,iN i),(8,ptr b18 0),(4,ptr b4 0),(0,.slice p l.length c),(2,.bool first)]) (fun _=>Ds b18 w*(HP.AA b4 0 (AE ks)*H)) (fun _=>True) ?_ ?_
  ·refine J3 ?_;refine CU 32 rfl (fun hg1=>?_) (fun hg1=>?_)
   ·refine Ky ?_;refine KS ?_;refine GO ?_;refine J1 ?_;exact AU _ trivial G9 rfl
   refine WX ?_;exact AU _ trivial G9 rfl
  ·rintro b35 _;refine J1 ?_;refine mc (fun hc=>?_) (fun hc=>?_)
   ·refine KG ?_
    first
     |exact At (i+1,w2) ⟨h22,hok2,hw2⟩ Lp EB rfl
     |exact At (i+1,w) ⟨h22,hwok,hw.mono (xz i)⟩ Lp EB rfl
   refine J7 ?_;refine JL (FT rfl rfl hs h22 rfl) ?_;refine JL dM ?_;refine mE rfl (yE hG b18 i w (l.getD i AB.AC) _ hwok hw Cg hst hsm1) ?_;rintro _ _ ⟨rfl,w2,hok2,hw2,_,rfl⟩;refine J6 ?_;refine Eb ?_;refine JJ ?_;refine Fu ?_
   first
    |exact At (i+1,w2) ⟨h22,hok2,hw2⟩ Lp EB rfl
    |exact At (i+1,w) ⟨h22,hwok,hw.mono (xz i)⟩ Lp EB rfl
 refine BV ?_;exact mR [6] H rfl rfl CO
theorem x5(hG:B.cell? ⟨0,0,none⟩=some (Eg 106))(p:Option Addr)(b o c:Nat)(l:List GJ)(ks:List UInt8)(hk:ks.length=16)(H:HP)(hs:Sl p b o l.length c)(hr:AW B H b o l)(hok:∀s∈l,MV B s)(hl:l.length≤1048576):
  Fn Tryz.prog B 4 [.slice p l.length c,.agg (AE ks).toArray] H (fun v H'=>v=.bool true∧H'=H):=by
 refine mI Tryz.func4 ?_;refine K2 ?_;rintro _ _ ⟨b3,rfl,rfl⟩;refine J6 ?_;refine JL MJ ?_;refine mE rfl (ng hG p b o c l ks hk false _ hs inferInstance hok hl) ?_;refine E5 ?_;exact mR [4] H rfl rfl CO
end
end Go.Proofs.YtgfdlpcdjklcoaaGreatDoor
