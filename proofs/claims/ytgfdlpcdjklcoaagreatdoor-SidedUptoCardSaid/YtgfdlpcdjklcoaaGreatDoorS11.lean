/- A part of this proof: steps of the program, plain facts; no condition. -/
import Derived.Test.YtgfdlpcdjklcoaaGreatDoorS10
namespace Go.Proofs.YtgfdlpcdjklcoaaGreatDoor
open Go Go.RowKit
open _root_.List renaming length_append→a_,getD_eq_getElem?_getD→b_,getElem?_eq_getElem→c_,replicate→d_,length_map→e_,mem_singleton→f_,mem_filter→g_,length_take→h_,replicate_succ→i_,mem_append→j_,map_append→j',append_nil→k_,length_singleton→l_,length_replicate→m_,length_cons→o_,mem_map→r_,getElem?_append_right→s_,append_assoc→t_,map_cons→u_,length_drop→v_,length_eq_zero_iff→w_,map_nil→xr,length_set→xt,set_append_right→xu,eq_replicate_iff→xw,replicate_zero→xz,getElem?_map→x_,ext_getElem→ya,length→yc,nil_append→yd,foldl_cons→ye,drop_left'→yf,take_zero→yg,map_set→yh,map_map→yi
open _root_.Nat renaming le_refl→g',le_add_right→n_,zero_le→p_,sub_self→q',mod_eq_of_lt→yb,add_zero→yj
open _root_.UInt64 renaming ofNat→q_,toNat_toUInt8→xy
open _root_.Eq renaming mp→xx
set_option linter.unusedVariables false
set_option linter.unusedSimpArgs false
set_option maxRecDepth 20000
section
variable{B:World}
section
variable{P:Program}{n:Nat}{E:A6}{D:CK}{H:HP}{d:Option Tmp}{T T' ty:TypeId}{pos:String}{af:Array Edge}{g:Option (Nat×Bool)}{x y z u:Operand}
theorem ju{p:Option Addr}{k c sz h m:Nat}{e:TypeId}{jk mk:IntKind}[hT:Ar P T (.slice e)][hz:Bw P e sz](hx:ev E x=some (.slice p k c))(hz':ev E z=some (.int jk h))(hu:ev E u=some (.int mk m))
  (hc:h≤m∧m≤c):Aa P B n ⟨d,.slice T x none (some z) (some u),ty,pos,af,g⟩ E H (.slice p h m):=by
 intro a w he _;simp only [execOp,he.ev hx,Option.map_some,Option.map_none,he.ev hz',he.ev hu,Instr.sliceAt,Instr.slice,Instr.sliceBounds,Sem.run_bind,Bx hT.get,Result.andThen_ok,Sem.run_pure,G7 hc.1,G7 hc.2,hz.get,Option.isSome_some,Option.isSome_none];cases p<;>simp [Addr.add]
end
instance drh_body(db:Nat)(m:Dq):AW B (Ba db m) m.a.b m.a.o m.d.b:=by unfold Ba;infer_instance
theorem Ss{ws:List Bo}{k:Nat}(hk:k<ws.length):(ws.map (·.w)).getD k BD=(ws.getD k AB.AC).w:=by
 simp only [b_,x_,c_ hk];rfl
theorem XF(d:Bn)(ws:List Ai){k:Nat}(hk:k<4):En d ws k (4-k)=En (F9 k (d.room+1) (ws.getD k BD) d).2 (ws.set k (F9 k (d.room+1) (ws.getD k BD) d).1) (k+1) (4-(k+1)):=by
 rw [show 4-k=4-(k+1)+1 by omega,En]
theorem C? {k AG:Nat}(hk:k<4){ws:List Ai}{d:Bn}{w2:Ai}{d2:Bn}(hw:Du AG ws)(hd:KY ws d)(e:(ws.getD k BD).fill d k=some (w2,d2)):
  En d ws k (4-k)=En d2 (ws.set k w2) k (4-k):=by
 rw [XF d ws hk,XF d2 _ hk,gg hk hw hd e,tH];rw [Ed,if_pos ⟨rfl,Th⟩]
theorem Z! {k:Nat}(hk:k<4){ws:List Ai}{d:Bn}(e:(ws.getD k BD).fill d k=none):En d ws k (4-k)=En d ws (k+1) (4-(k+1)):=by
 rw [XF d ws hk,d7 e,Wy]
structure Qm(AG:Nat)(ws0:List Ai)(d0:Bn)(ws:List Bo)(dm:Dq):Prop where
 PV:∀w∈ws,w.ok
 eK:dm.ok
 f:Kg AG ws0 d0 (ws.map (·.w)) dm.d
theorem Qm.len{AG:Nat}{ws0:List Ai}{d0:Bn}{ws:List Bo}{dm:Dq}(h:Qm AG ws0 d0 ws dm):ws.length=4:=by
 have:=h.f.Oe.len;simpa using this
def Ah.Qr(m:Ah)(ws:List Bo):Ah:={m with ws:=ws}
theorem K? (cb:Nat)(m:Ah)(ws:List Bo)(R:HP):Ac cb (m.Qr ws)*R=AT cb m.x*(BG cb ws*(GM m cb*R)):=IS cb (m.Qr ws) R
set_option maxHeartbeats 8000000 in
theorem qn(cb t:Nat)(m0:Ah)(R:HP)(hm:m0.ok)(hi:Ak t m0.s)(ht:t<1000000):
  Fn Tryz.prog B 92 [ptr cb 0] (Ac cb m0*R) (fun v H'=>∃m':Ah,m'.ok∧m'.s=m0.s.BE.2∧RL (Ac cb m'*R) m0.s.BE.1 v H'):=by
 refine mI Tryz.func92 ?_;have hks:m0.x.ks.length=16:=hi.ks;refine Aq (Dd cb m0 R) ?_;refine CR ?_;refine JZ ?_;refine mC (fun h12=>?_) (fun h12=>?_)
 ·refine J1 ?_;refine Aq (Dd cb m0 R).symm ?_;refine J2 ?_;refine mE rfl (uQ cb t m0 R hm hi ht) ?_;rintro v14 H14 h14;refine J5 ?_;exact mR [2] H14 rfl rfl (by obtain⟨m',h1,h2,h3⟩:=h14;unfold AL.BE;rw [if_pos (show m0.s.closed≠0 from h12)];exact⟨m',h1,h2,h3⟩)
 refine Yo ?_;refine BO (α:=List AP×Ae) (fun z=>[(0,ptr cb 0),(3,.slice none 0 0),(4,z.2.v z.1.length)]) (fun z=>Ac cb (m0.CF {m0.x with answer:=false})*(z.2.h z.1*R)) (fun z=>z.2.ok z.1∧z.1=if m0.s.answer then m0.s.AO.l.reverse else []) ?_ ?_
 ·refine mc (fun h18=>?_) (fun h18=>?_)
  ·refine EP ?_;refine mE rfl (Xg m0.x.gq _) ?_;rintro _ _ ⟨b26,rfl,rfl⟩;refine mE rfl (xB 166 [ptr b26 0] m0.AO.l.reverse _ _ (by rintro ys ⟨mm,hmm,rfl⟩;have h7:=hi.AO.len;rw [hi.gm]at h7;have h8:m0.AO.l.length≤8:=h7;unfold Gx;simp;omega) (Vl m0.x.gq b26 m0.ga m0.AO _ hm.g (by have h7:=hi.AO.len;rw [hi.gm]at h7;have h8:m0.AO.l.length≤8:=h7;omega))) ?_;rintro _ _ ⟨p27,b27,o27,c27,s27,rfl,hs27,hc27,rfl⟩;refine J2 ?_;refine D8 (H':=HP.AA b26 0 [ptr m0.x.gq 0]*(Ac cb (m0.CF {m0.x with answer:=false})*(AD b27 o27 m0.AO.l.reverse s27*R))) ?_ ?_
   ·rw [Dd];show _=HP.AA b26 0 [ptr m0.x.gq 0]*(AT cb {m0.x with answer:=false}*(AH m0.x.gq m0.ga m0.AO*(BG cb m0.ws*(Bl cb m0.rs*(Di m0*(AD b27 o27 m0.AO.l.reverse s27*R))))));ac_rfl
   exact Au _ (AU (m0.AO.l.reverse,⟨p27,b27,o27,c27,s27⟩) ⟨⟨hs27,hc27⟩,by rw [if_pos (show m0.s.answer=true from h18)];rfl⟩ CS rfl)
  refine J1 ?_;refine D8 (H':=Ac cb (m0.CF {m0.x with answer:=false})*(BP.h ([]:List AP)*R)) ?_ ?_
  ·rw [Dd,GN,HP.BA];show _=AT cb {m0.x with answer:=false}*(AH m0.x.gq m0.ga m0.AO*(BG cb m0.ws*(Bl cb m0.rs*(Di m0*R))));rw [←h18]
  exact AU ([],BP) ⟨DX,by rw [if_neg (by rw [show m0.s.answer=false from h18];simp)]⟩ CS rfl
 ·rintro⟨tf,⟨tp,tb,ob,tc,ts⟩⟩ ⟨hta,htf⟩;dsimp only at hta htf⊢
  obtain⟨z0,hz0⟩:∃z0:Be,z0=⟨{m0.s with answer:=false},tf,[]⟩:=Bg
  have hz0k:Dz (t+1) z0:=by rw [hz0,htf];exact Dz.begin hi
  have hmu0:0+z0.mu≤18:=(by have h7:=hz0k.tl;unfold Be.mu;omega)
  rw [hz0]at hmu0
  have hep:m0.s.BE=((DW 40 z0).out,(DW 40 z0).c):=by
   unfold AL.BE;rw [if_neg (show ¬m0.s.closed≠0 from h12),hz0,htf]
  refine J2 ?_
  refine BL (α:=Ah×LN×List (List UInt8)×List AP×Option Addr×Nat×Nat) (fun z=>[(0,ptr cb 0),(3,z.2.1.v),(4,.slice z.2.2.2.2.1 z.2.2.2.1.length z.2.2.2.2.2.2)]) (fun z=>Ac cb z.1*(Dl z.2.1*(AD tb ob tf ts*R))) (fun z=>z.1.ok∧z.2.1.ok z.2.2.1∧Dz (t+1) ⟨z.1.s,z.2.2.2.1,z.2.2.1⟩∧DW 40 ⟨z.1.s,z.2.2.2.1,z.2.2.1⟩=DW 40 z0∧Sl z.2.2.2.2.1 tb z.2.2.2.2.2.1 z.2.2.2.1.length z.2.2.2.2.2.2∧AW B (AD tb ob tf ts) tb z.2.2.2.2.2.1 z.2.2.2.1∧z.2.2.1.length+(⟨z.1.s,z.2.2.2.1,z.2.2.1⟩:Be).mu≤18) (fun z=>(⟨z.1.s,z.2.2.2.1,z.2.2.1⟩:Be).mu) (m0.CF {m0.x with answer:=false},⟨[],BP⟩,[],tf,tp,ob,tc) ⟨⟨hm.g,hm.ws,hm.rs,hm.fl,hm.lo,hm.fa,hm.la,hm.fv,hm.lv⟩,⟨DX,(fun _ h=>nomatch h),rfl⟩,by rw [hz0]at hz0k;exact hz0k,by rw [hz0];rfl,hta.1,inferInstance,hmu0⟩ CS (by unfold Dl;rw [GN,FG,HP.BA,HP.BA]) ?_
  rintro⟨m,pk,outs,told,q,to,cc⟩ ⟨hmk,hpk,hz,hzp,hqs,hqr,hmu⟩;dsimp only at hmk hpk hz hzp hqs hqr hmu⊢;have hci:=hz.c;have hks2:m.x.ks.length=16:=hci.ks;have hm1:64≤m.x.AY:=hci.m1;have hm2:m.x.AY≤300:=hci.m2;have hnx:m.x.next≤20*(t+1):=hci.nx;have htl:told.length≤8:=hz.tl;have htd:Told told:=hz.told;have hfil:=hz.filled;have FF:=Vc hci htd htl;refine Aq (Dd cb m _) ?_;refine J8 ?_;refine JL (Ia (j:=16) rfl rfl Cg) ?_;refine JL (E7 (cs:=[.slice none 0 0,.slice none 0 0,iN (m.x.AY-16),.bool false]) rfl rfl rfl Ck) ?_;refine AV (DP (l:=[.slice none 0 0,.slice none 0 0,iN (m.x.AY-16),.bool false]) rfl rfl) rfl ?_;rintro _ _ ⟨b35,rfl,rfl⟩;refine J5 ?_;refine Aq (H':=Ba b35 (⟨⟨[],m.x.AY-16⟩,BP,[],BP⟩:Dq)*(Ac cb m*(Dl pk*(AD tb ob tf ts*R)))) (by rw [Dd];unfold Ba;show _=HP.AA b35 0 [.slice none 0 0,.slice none 0 0,iN (m.x.AY-16),.bool false]*(BP.h ([]:List UInt8)*BP.h ([]:List RF))*_;rw [GN,GN,HP.BA,HP.Gb]) ?_
  have hd0:Dq.ok (⟨⟨[],m.x.AY-16⟩,BP,[],BP⟩:Dq):=⟨DX,DX,rfl,by show m.x.AY-16≤284;omega,p_ _⟩
  refine J9 ?_;refine JL Ld ?_;refine J2 ?_;refine BO (α:=Dq×List AP×Option Addr×Nat×Nat) (fun z=>[(5,ptr b35 0),(0,ptr cb 0),(3,pk.v),(4,.slice z.2.2.1 z.2.1.length z.2.2.2.2)]) (fun z=>Ba b35 z.1*(Ac cb m*(Dl pk*(AD tb ob tf ts*R)))) (fun z=>z.1.ok∧z.1.d=m.s.El told∧z.2.1=(⟨m.s,told,outs⟩:Be).IX∧Sl z.2.2.1 tb z.2.2.2.1 z.2.1.length z.2.2.2.2∧AW B (AD tb ob tf ts) tb z.2.2.2.1 z.2.1) ?_ ?_
  ·refine mC (fun h39=>?_) (fun h39=>?_)
   ·refine J2 ?_;have hne0:told≠ []:=List.length_pos_iff.1 h39;refine BL (α:=Nat) (fun n=>[(6,iN n),(5,ptr b35 0),(0,ptr cb 0),(3,pk.v),(4,.slice q told.length cc)]) (fun _=>Ba b35 (⟨⟨[],m.x.AY-16⟩,BP,[],BP⟩:Dq)*(Ac cb m*(Dl pk*(AD tb ob tf ts*R)))) (fun n=>(1≤n∧n≤told.length)∧E2 told (m.x.AY-16) n=E2 told (m.x.AY-16) told.length) (fun n=>n) told.length ⟨⟨h39,g' _⟩,rfl⟩ EB rfl ?_;rintro n ⟨hnl,hnA0⟩;dsimp only at hnl hnA0⊢
    have htn:(told.take n).length=n:=by rw [h_];omega
    have htne:told.take n≠ []:=fun h=>by rw [h]at htn;simp at htn;omega
    have hokA:Bh (Eh (told.take n)):=oJ ((htd.take n).HY htne);have hrdT:AW B (AD tb ob tf ts) tb to (told.take n):=inferInstance;refine J2 ?_;refine BO (α:=Unit) (fun _=>[(54,.bool (decide (1<n∧(m.x.AY-16)<(Aj (Eh (told.take n))).length))),(6,iN n),(5,ptr b35 0),(0,ptr cb 0),(3,pk.v),(4,.slice q told.length cc)]) (fun _=>Ba b35 (⟨⟨[],m.x.AY-16⟩,BP,[],BP⟩:Dq)*(Ac cb m*(Dl pk*(AD tb ob tf ts*R)))) (fun _=>True) ?_ ?_
    ·refine mA 15 15 ?_;refine Fr ?_;refine JT 1 rfl SE ?_;refine Jm 2 ?_;refine DM 42 rfl (fun hg1=>?_) (fun hg1=>?_)
     ·have h42:1<n:=hg1;refine JY 3 rfl T1 A4 ?_;refine JY 4 rfl T1 A4 ?_;refine JY 5 rfl T1 (Qi (k':=(told.take n).length) rfl rfl Vi htn) ?_;refine JY 6 rfl T1 (E7 (cs:=AI (⟨Eh (told.take n),q,tb,to,cc,[]⟩:RF)) rfl rfl rfl (AB.one (⟨Eh (told.take n),q,tb,to,cc,[]⟩:RF))) ?_;refine JY 9 rfl T1 A4 ?_;refine JY 10 rfl T1 CP ?_;refine JY 11 rfl T1 A7 ?_;refine JY 12 rfl T1 Bb ?_;refine Zz ?_;refine SF 7 Ch rfl rfl rfl rfl T1 (BK rfl (X4 (⟨Eh (told.take n),q,tb,to,cc,[]⟩:RF) none 0 0 0 [] [] _ ⟨⟨hqs.1,by show(told.take n).length≤cc;have:=hqs.2;omega⟩,Zx,PZ⟩ (show AW B _ tb to (told.take n)from(let _:=hrdT;inferInstance)) DG rfl Ci (by show Dh 3;unfold Dh;decide) ⟨by show(3:Int)≤3;decide,Tz⟩ hokA)) ?_;rintro _ _ ⟨p47,b47,o47,c47,s47,Q47,rfl,hs47,hc47,rfl,hk47⟩;rw [yd]at*;refine BF ?_;refine JY 8 rfl T1 Dm ?_
      refine JY 13 rfl T1 HU ?_;refine JT 14 rfl LC ?_;refine JD ?_;exact Au (Ba b35 (⟨⟨[],m.x.AY-16⟩,BP,[],BP⟩:Dq)*(Ac cb m*(Dl pk*(AD tb ob tf ts*R)))) (AU () trivial (.cons (congrArg (fun bb=>some (Value.bool bb)) (decide_eq_decide.2 ⟨fun h=>⟨h42,h⟩,fun h=>h.2⟩)) EB) rfl)
     have h42:¬1<n:=hg1;refine JN 3 rfl F1 ?_;refine JN 4 rfl F1 ?_;refine JN 5 rfl F1 ?_;refine JN 6 rfl F1 ?_;refine JN 9 rfl F1 ?_;refine JN 10 rfl F1 ?_;refine JN 11 rfl F1 ?_;refine JN 12 rfl F1 ?_;refine Zz ?_;refine VS 7 Ch rfl rfl rfl rfl F1 (.inr inferInstance) ?_;refine JN 8 rfl F1 ?_;refine JN 13 rfl F1 ?_;refine JT 14 rfl Jl ?_;refine JD ?_;exact AU () trivial (.cons (congrArg (fun bb=>some (Value.bool bb)) (decide_eq_false (fun h=>h42 h.1)).symm) EB) Cx
    ·rintro _ _;refine J1 ?_;refine mC (fun h54=>?_) (fun h54=>?_)
     ·refine J5 ?_;refine JL LZ ?_;refine J3 ?_;exact At (n-1) ⟨⟨Cg,Cg⟩,by rw [←hnA0];obtain⟨n2,rfl⟩:∃n2,n=n2+2:=⟨n-2,Cg⟩;rw [E2,if_pos h54.2];rfl⟩ (by show n-1<n;omega) EB rfl
     have hnA:E2 told (m.x.AY-16) told.length=n:=by
      rw [←hnA0]
      match n,hnl.1 with
      |1,_=>rfl
      |n2+2,_=>rw [E2,if_neg (fun h=>h54 ⟨Cg,h⟩)]
     refine BV ?_;refine JL (Br (v':=.slice q (told.take n).length n) (ju rfl rfl rfl ⟨g' _,Vi⟩) (by rw [htn])) ?_;refine JL (E7 (cs:=AI (⟨Eh (told.take n),q,tb,to,n,[]⟩:RF)) rfl rfl rfl (AB.one (⟨Eh (told.take n),q,tb,to,n,[]⟩:RF))) ?_;refine mE rfl (VJ b35 (⟨⟨[],m.x.AY-16⟩,BP,[],BP⟩:Dq) (⟨Eh (told.take n),q,tb,to,n,[]⟩:RF) _ hd0 hokA ⟨by show(3:Int)≤3;decide,Tz⟩ ⟨⟨.inr (hqs.1.resolve_left Vi),by show(told.take n).length≤n;omega⟩,Zx,PZ⟩ (hr:=show AW B _ tb to (told.take n)from(let _:=hrdT;inferInstance))) ?_;rintro _ _ ⟨dm2,hd2,hde2,rfl,rfl⟩;refine J5 ?_;refine JL (Kt rfl rfl hnl.2) ?_;refine J2 ?_;refine AU (dm2,told.drop n,sp q cc n 2,to+n*2,cc-n) ⟨hd2,?_,?_,Er hqs hnl.2 hqs.2 rE,hqr.LB n⟩ (.cons rfl (.cons rfl (.cons rfl (.cons ?_ .nil)))) rfl
     ·rw [hde2]
      have hadd:(⟨[],m.x.AY-16⟩:Bn).add (Eh (told.take n))=some ⟨[]++[Eh (told.take n)],m.x.AY-16⟩:=by
       unfold Bn.add
       rw [if_neg (by
        have h7:=eL hci hne0
        have h8:(E2 told (m.s.AY-16) told.length)=n:=hnA
        rw [h8]at h7
        have h9:m.s.AY=m.x.AY:=rfl
        rw [h9]at h7
        show ¬m.x.AY-16<(([]:List UInt8)++Aj (Eh (told.take n))).length
        rw [yd];omega)]
      show((⟨[],m.x.AY-16⟩:Bn).add (Eh (told.take n))).getD _=_;rw [hadd];unfold AL.El;rw [if_neg hne0];have h8:(E2 told (m.s.AY-16) told.length)=n:=hnA;rw [h8];rfl
     ·show _=told.drop (E2 told (m.s.AY-16) told.length);have h8:(E2 told (m.s.AY-16) told.length)=n:=hnA;rw [h8]
     ·show some (Value.slice _ _ _)=some (Value.slice _ _ _);rw [v_]
   refine J1 ?_;obtain rfl:told=[]:=w_.1 Cg;exact AU ((⟨⟨[],m.x.AY-16⟩,BP,[],BP⟩:Dq),[],q,to,cc) ⟨hd0,rfl,rfl,hqs,hqr⟩ BR rfl
  ·rintro⟨dm,IX,q2,to2,cc2⟩ ⟨hdm,hdd,htold2,hqs2,hqr2⟩;dsimp only at hdm hdd htold2 hqs2 hqr2⊢;refine J3 ?_;refine Aq (H':=AT cb m.x*(Ba b35 dm*(AH m.x.gq m.ga m.AO*(BG cb m.ws*(Bl cb m.rs*(Di m*(Dl pk*(AD tb ob tf ts*R)))))))) (by rw [Dd];ac_rfl) ?_
   have hfl10:m.fl.length≤10:=by have:=hci.fl;simpa [Ah.s]using this
   refine J4 ?_;refine JL (Br D7 hmk.fv) ?_;refine J1 ?_;refine JL (GH (i:=m.fl.length) (j:=10) rfl rfl) ?_;refine J2 ?_;refine BO (α:=List Bo×Dq) (fun z=>[(5,ptr b35 0),(0,ptr cb 0),(3,pk.v),(4,.slice q2 IX.length cc2)]) (fun z=>BG cb z.1*(Ba b35 z.2*(AT cb m.x*(GM m cb*(Dl pk*(AD tb ob tf ts*R)))))) (fun z=>(∀w∈z.1,w.ok)∧z.2.ok∧z.1.map (·.w)=(⟨m.s,told,outs⟩:Be).filled.1∧z.2.d=(⟨m.s,told,outs⟩:Be).filled.2) ?_ ?_
   ·refine mC (fun h72=>?_) (fun h72=>?_)
    ·refine J2 ?_;refine Hy ?_
     have hff:(⟨m.s,told,outs⟩:Be).filled=En (m.s.El told) m.s.ws 0 4:=by
      unfold Be.filled;rw [if_pos (by show(m.fl.map (·.A5)).length<10;rw [e_];exact h72)]
     refine BL (α:=Nat×List Bo×Dq) (fun z=>[(73,iN z.1),(5,ptr b35 0),(0,ptr cb 0),(3,pk.v),(4,.slice q2 IX.length cc2)]) (fun z=>BG cb z.2.1*(Ba b35 z.2.2*(AT cb m.x*(GM m cb*(Dl pk*(AD tb ob tf ts*R)))))) (fun z=>z.1≤4∧Qm m.s.AG m.s.ws (m.s.El told) z.2.1 z.2.2∧En z.2.2.d (z.2.1.map (·.w)) z.1 (4-z.1)=En (m.s.El told) m.s.ws 0 4) (fun z=>4-z.1) (0,m.ws,dm) ⟨p_ _,⟨hmk.ws,hdm,by rw [hdd];exact .refl hci.ws FF⟩,by rw [hdd];rfl⟩ EB Vs ?_;rintro⟨k,wz,dz⟩ ⟨hk4,hF,hT⟩;dsimp only at hk4 hF hT⊢;refine J2 ?_;refine JL Te ?_;refine J3 ?_;refine mC (fun h74=>?_) (fun h74=>?_)
     ·refine BV ?_;refine BL (α:=List Bo×Dq) (fun z=>[(7,iN k),(73,iN k),(5,ptr b35 0),(0,ptr cb 0),(3,pk.v),(4,.slice q2 IX.length cc2)]) (fun z=>BG cb z.1*(Ba b35 z.2*(AT cb m.x*(GM m cb*(Dl pk*(AD tb ob tf ts*R)))))) (fun z=>Qm m.s.AG m.s.ws (m.s.El told) z.1 z.2∧En z.2.d (z.1.map (·.w)) k (4-k)=En (m.s.El told) m.s.ws 0 4) (fun z=>z.2.d.room-z.2.d.b.length) (wz,dz) ⟨hF,hT⟩ G9 rfl ?_;rintro⟨wz1,dz1⟩ ⟨hF1,hT1⟩;dsimp only at hF1 hT1⊢;have hl1:=hF1.len;have hwk:=hF1.f.Oe.ok k h74;rw [Ss Cg]at hwk;refine J6 ?_;refine mE rfl (nt cb b35 k m.s.AG wz1 dz1 _ hl1 h74 hF1.PV hwk hF1.eK) ?_;rintro v79 _ ⟨wm',dm',hwm',hdm',hfi,rfl⟩
      obtain⟨b79,rfl⟩:∃b79:Bool,v79=.bool b79:=by
       unfold bR at hfi;split at hfi
       ·exact⟨_,hfi.1⟩
       ·exact⟨_,hfi.1⟩
      refine J2 ?_;refine mc (fun h79=>?_) (fun h79=>?_)
      ·subst h79;refine J5 ?_
       obtain⟨z79,hz79⟩:∃zz,(wz1.getD k AB.AC).w.fill dz1.d k=some zz:=by
        cases e:(wz1.getD k AB.AC).w.fill dz1.d k with
        |none=>rw [e]at hfi;obtain⟨e1,_,_⟩:=hfi;cases e1
        |some zz=>exact⟨zz,rfl⟩
       obtain⟨w2,d2⟩:=z79;rw [hz79]at hfi;obtain⟨_,hfi1,hfi2⟩:=hfi;dsimp only at hfi1 hfi2
       have e9:((wz1.map (·.w)).getD k BD).fill dz1.d k=some (w2,d2):=by rw [Ss Cg];exact hz79
       obtain⟨hst1,hst2⟩:=hF1.f.step h74 e9
       have hms:(wz1.set k wm').map (·.w)=(wz1.map (·.w)).set k w2:=by rw [yh,hfi1]
       exact At (wz1.set k wm',dm') ⟨⟨fun a ha=>JS (P:=Bo.ok) hF1.PV hwm' ha,hdm',by rw [hms,hfi2];exact hst1⟩,by rw [hms,hfi2,←hT1];exact(C? h74 hF1.f.Oe hF1.f.KI e9).symm⟩ (by show dm'.d.room-dm'.d.b.length<dz1.d.room-dz1.d.b.length;rw [hfi2];have h7:=hst1.room;have h8:=hF1.f.room;have h9:=hst1.KI.len;omega) G9 rfl
      subst h79
      have h79n:(wz1.getD k AB.AC).w.fill dz1.d k=none:=by
       cases e:(wz1.getD k AB.AC).w.fill dz1.d k with
       |none=>rfl
       |some zz=>rw [e]at hfi;obtain⟨e1,_,_⟩:=hfi;cases e1
      rw [h79n]at hfi;obtain⟨_,hfi1,hfi2⟩:=hfi
      have e9:((wz1.map (·.w)).getD k BD).fill dz1.d k=none:=by rw [Ss Cg];exact h79n
      have hms:(wz1.set k wm').map (·.w)=wz1.map (·.w):=by rw [yh,hfi1,←Ss Cg,Wy]
      have hF2:Qm m.s.AG m.s.ws (m.s.El told) (wz1.set k wm') dm':=⟨fun a ha=>JS (P:=Bo.ok) hF1.PV hwm' ha,hdm',by rw [hms,hfi2];exact hF1.f⟩
      have hT3:En dm'.d ((wz1.set k wm').map (·.w)) (k+1) (4-(k+1))=En (m.s.El told) m.s.ws 0 4:=by rw [hms,hfi2,←hT1];exact(Z! h74 e9).symm
      refine J7 ?_;refine FO ?_;exact At (k+1,wz1.set k wm',dm') ⟨Cg,hF2,hT3⟩ (by show 4-(k+1)<4-k;omega) EB rfl
     obtain rfl:k=4:=by omega
     have hT:wz.map (·.w)=(⟨m.s,told,outs⟩:Be).filled.1∧dz.d=(⟨m.s,told,outs⟩:Be).filled.2:=by
      rw [hff,←hT];exact CO
     refine J4 ?_;exact AU (wz,dz) ⟨hF.PV,hF.eK,hT.1,hT.2⟩ BR rfl
    refine J1 ?_
    have hff:(⟨m.s,told,outs⟩:Be).filled=(m.s.ws,m.s.El told):=by
     unfold Be.filled;rw [if_neg (by show ¬(m.fl.map (·.A5)).length<10;rw [e_];exact h72)]
    exact AU (m.ws,dm) ⟨hmk.ws,hdm,by rw [hff];rfl,by rw [hff];exact hdd⟩ BR Vs
   ·rintro⟨wz,dz⟩ ⟨hwz,hdz,hwf,hdf⟩;dsimp only at hwz hdz hwf hdf⊢;refine Aq (H':=Ba b35 dz*(AT cb m.x*(AH m.x.gq m.ga m.AO*(BG cb wz*(Bl cb m.rs*(Di m*(Dl pk*(AD tb ob tf ts*R)))))))) Vs ?_;refine J8 ?_;refine JL (CV (i:=dz.rs.length) (j:=0) rfl rfl) ?_;refine J2 ?_;refine mC (fun h86=>?_) (fun h86=>?_)
    ·refine BV ?_
     have hfr:(⟨m.s,told,outs⟩:Be).filled.2.Ap=[]:=by
      rw [←hdf,←hdz.map,w_.1 h86];rfl
     have hfin:m0.s.BE=(outs,{m.s with ws:=wz.map (·.w)}):=by
      rw [hep,←hzp,uj hfr,hwf]
     exact mR [2] (Dl pk*(Ac cb (m.Qr wz)*R)) (hE:=⟨fun ww hw=>Sat.right (A:=Ba b35 dz*AD tb ob tf ts) (xx (by
      congr 1
      rw [K?]
      unfold GM
      ac_rfl) hw)⟩) rfl rfl (by rw [hfin];exact⟨m.Qr wz,⟨hmk.g,hwz,hmk.rs,hmk.fl,hmk.lo,hmk.fa,hmk.la,hmk.fv,hmk.lv⟩,rfl,pk,hpk,rfl,rfl⟩)
    have hne:(⟨m.s,told,outs⟩:Be).filled.2.Ap≠ []:=by
     rw [←hdf,←hdz.map];intro h;exact h86 (by have:=congrArg yc h;simpa using this)
    have hbl:=hdz.len;have hbr:=hdz.room;refine J3 ?_;refine Aq (H':=Ba b35 dz*(AT cb m.x*(AH m.x.gq m.ga m.AO*(BG cb wz*(Bl cb m.rs*(Di m*(AD pk.a.b pk.a.o pk.l pk.a.s*(AM Hg pk.l*(AD tb ob tf ts*R))))))))) (by unfold Dl Ae.h;ac_rfl) ?_;refine Dc (Ba b35 dz*(AT cb m.x*(AH m.x.gq m.ga m.AO*(BG cb wz*(Bl cb m.rs*(Di m*(AM Hg pk.l*(AD tb ob tf ts*R)))))))) 15 17 Dg rfl Ch ?_;refine EQ ?_;refine L7 ?_;refine JT 4 rfl (Dp (l:=AE m.x.ks++[u8 (BM m.x.first)]) rfl (by rw [a_,Ff hks2];rfl)) ?_;refine ML ?_;refine P3 ?_;refine Al 13 Ch rfl rfl (BK (vs:=[.agg (AE m.x.ks++[u8 (BM m.x.first)]).toArray,u64 (q_ m.x.next),.slice dz.a.p dz.d.b.length dz.a.c]) lP (cC m.x.ks hks2 (BM m.x.first) (q_ m.x.next) dz.d.b dz.a.p dz.a.b dz.a.o dz.a.c _ hdz.a.1 inferInstance Cg)) ?_;rintro _ _ ⟨p101,b101,o101,c101,s101,rfl,hs101,hc101,rfl⟩;generalize hzs:DK m.x.ks (BM m.x.first) (q_ m.x.next) dz.d.b=zs at*;refine BF ?_;refine Al 14 Ch rfl rfl (E4 (cs:=[.slice p101 zs.length c101]) rfl Cr rfl rfl) ?_;rintro _ _ ⟨b102,rfl,rfl⟩;refine BF ?_
    refine FB (H':=AD pk.a.b pk.a.o pk.l pk.a.s*(HP.AA b102 0 (AE [(⟨zs,⟨p101,b101,o101,c101,s101⟩⟩:Gq)])*(AD b101 o101 zs s101*(Ba b35 dz*(AT cb m.x*(AH m.x.gq m.ga m.AO*(BG cb wz*(Bl cb m.rs*(Di m*(AM Hg pk.l*(AD tb ob tf ts*R))))))))))) (by show HP.AA b102 0 [.slice p101 zs.length c101]*_=_;rw [show AE [(⟨zs,⟨p101,b101,o101,c101,s101⟩⟩:Gq)]=[.slice p101 zs.length c101]from rfl];ac_rfl) ?_
    have hpl:pk.l.length≤18:=(by have h7:=congrArg yc hpk.map;rw [e_]at h7;omega)
    refine Al 15 Ch rfl rfl (Bf (ys:=[(⟨zs,⟨p101,b101,o101,c101,s101⟩⟩:Gq)]) (bb:=b102) (oo:=0) (cc:=1) rfl hpk.a.1 hpk.a.2 rfl Bc inferInstance rfl Cs Cg) ?_;rintro _ _ ⟨p103,b103,o103,c103,s103,rfl,hs103,hc103,rfl⟩;refine DS ?_;refine Ec 16 Ch rfl rfl Fl EO ?_;refine HN ?_
    obtain⟨pk2,hpk2e⟩:∃pk2:LN,pk2=⟨pk.l++[(⟨zs,⟨p101,b101,o101,c101,s101⟩⟩:Gq)],⟨p103,b103,o103,c103,s103⟩⟩:=Bg
    have hpk2:pk2.ok (outs++[zs]):=by
     rw [hpk2e];refine⟨⟨hs103,hc103⟩,fun p hp=>?_,?_⟩
     ·rcases j_.1 hp with hp|hp
      ·exact hpk.l p hp
      ·rw [f_.1 hp];exact⟨hs101,hc101⟩
     ·show(pk.l++[_]).map Gq.ys=_;rw [j',hpk.map];rfl
    have hpv:(Value.slice p103 (pk.l++[(⟨zs,⟨p101,b101,o101,c101,s101⟩⟩:Gq)]).length c103)=pk2.v:=by rw [hpk2e];rfl
    rw [hpv]
    refine Hs (Dl pk2*(Ba b35 dz*(AT cb m.x*(AH m.x.gq m.ga m.AO*(BG cb wz*(Bl cb m.rs*(Di m*(AD tb ob tf ts*R)))))))) (hE:=⟨fun ww hw=>Sat.right (A:=HP.AA b102 0 (AE [(⟨zs,⟨p101,b101,o101,c101,s101⟩⟩:Gq)])) (xx (by
     congr 1
     rw [hpk2e]
     unfold Dl
     rw [Kf,Fx,FG]
     show _=HP.AA b102 0 (AE [(⟨zs,⟨p101,b101,o101,c101,s101⟩⟩:Gq)])*(AD b103 o103 (pk.l++[(⟨zs,⟨p101,b101,o101,c101,s101⟩⟩:Gq)]) s103*(AM Hg pk.l*(AD b101 o101 zs s101*HP.BQ))*_)
     rw [HP.Gb]
     ac_rfl) hw)⟩) ?_
    refine J7 ?_;refine BO (α:=CC×List BS×Ae) (fun z=>[(0,ptr cb 0),(3,pk2.v),(4,.slice q2 IX.length cc2)]) (fun z=>AT cb z.1*(AH m.x.gq m.ga m.AO*(BG cb wz*(Bl cb m.rs*(z.2.2.h z.2.1*(m.la.h m.lo*(AM Az z.2.1*(AM Az m.lo*(Dl pk2*(AD tb ob tf ts*R)))))))))) (fun z=>z.2.2.ok z.2.1∧(∀p∈z.2.1,p.ok)∧z.1={m.x with fv:=z.2.2.v z.2.1.length}∧z.2.1.map (·.A5)=if D2 (⟨m.s,told,outs⟩:Be).filled.2.Ap then m.s.BY++[⟨m.s.next,m.s.now,(⟨m.s,told,outs⟩:Be).filled.2.Ap⟩]else m.s.BY) ?_ ?_
    ·refine mc (fun h107=>?_) (fun h107=>?_)
     ·refine Aq (H':=AD m.fa.b m.fa.o m.fl m.fa.s*(AT cb m.x*(Ba b35 dz*(AH m.x.gq m.ga m.AO*(BG cb wz*(Bl cb m.rs*(m.la.h m.lo*(AM Az m.fl*(AM Az m.lo*(Dl pk2*(AD tb ob tf ts*R))))))))))) (by unfold Di Ae.h;ac_rfl) ?_;refine Dc (AT cb m.x*(Ba b35 dz*(AH m.x.gq m.ga m.AO*(BG cb wz*(Bl cb m.rs*(m.la.h m.lo*(AM Az m.fl*(AM Az m.lo*(Dl pk2*(AD tb ob tf ts*R)))))))))) 22 23 Dg rfl Ch ?_;refine EQ ?_;refine L7 ?_;refine JT 4 rfl (Br D7 hmk.fv) ?_;refine ML ?_;refine P3 ?_;refine Jm 13 ?_;refine Jn 14 ?_;refine Jf 15 ?_;refine Jd 16 ?_;refine JT 17 rfl (E7 (cs:=CM (⟨m.x.next,m.x.now,dz.rs,dz.f⟩:BS)) rfl rfl rfl (AB.one (⟨m.x.next,m.x.now,dz.rs,dz.f⟩:BS))) ?_;refine Al 18 Ch rfl rfl (E4 (cs:=CM (⟨m.x.next,m.x.now,dz.rs,dz.f⟩:BS)) rfl Cr rfl rfl) ?_;rintro _ _ ⟨b126,rfl,rfl⟩;refine BF ?_
      refine FB (H':=AD m.fa.b m.fa.o m.fl m.fa.s*(HP.AA b126 0 (AE [(⟨m.x.next,m.x.now,dz.rs,dz.f⟩:BS)])*(AT cb m.x*(Ba b35 dz*(AH m.x.gq m.ga m.AO*(BG cb wz*(Bl cb m.rs*(m.la.h m.lo*(AM Az m.fl*(AM Az m.lo*(Dl pk2*(AD tb ob tf ts*R)))))))))))) (by show HP.AA b126 0 _*_=_;rw [show AE [(⟨m.x.next,m.x.now,dz.rs,dz.f⟩:BS)]=CM (⟨m.x.next,m.x.now,dz.rs,dz.f⟩:BS)from k_ _];ac_rfl) ?_;refine Al 19 Ch rfl rfl (Bf (ys:=[(⟨m.x.next,m.x.now,dz.rs,dz.f⟩:BS)]) (bb:=b126) (oo:=0) (cc:=1) rfl hmk.fa.1 hmk.fa.2 rfl Bc inferInstance rfl Cs Cg) ?_;rintro _ _ ⟨p127,b127,o127,c127,s127,rfl,hs127,hc127,rfl⟩;refine BF ?_;refine Jn 20 ?_;refine Jf 21 ?_;refine D' 22 Ch rfl Fm ?_;refine Dw ?_;refine Au _ (AU ({m.x with fv:=.slice p127 (m.fl++[(⟨m.x.next,m.x.now,dz.rs,dz.f⟩:BS)]).length c127},m.fl++[(⟨m.x.next,m.x.now,dz.rs,dz.f⟩:BS)],⟨p127,b127,o127,c127,s127⟩) ⟨⟨hs127,hc127⟩,fun p hp=>?_,rfl,?_⟩ CN rfl) (hE:=?_)
      ·exact⟨fun ww hw=>Sat.right (A:=HP.AA b126 0 (AE [(⟨m.x.next,m.x.now,dz.rs,dz.f⟩:BS)])*(HP.AA b35 0 (HJ dz)*dz.a.h dz.d.b)) (xx (by
        congr 1
        rw [Kf,Fx,FG]
        show _=HP.AA b126 0 (AE [(⟨m.x.next,m.x.now,dz.rs,dz.f⟩:BS)])*(HP.AA b35 0 (HJ dz)*dz.a.h dz.d.b)*(AT cb {m.x with fv:=.slice p127 (m.fl++[(⟨m.x.next,m.x.now,dz.rs,dz.f⟩:BS)]).length c127}*(AH m.x.gq m.ga m.AO*(BG cb wz*(Bl cb m.rs*(AD b127 o127 (m.fl++[(⟨m.x.next,m.x.now,dz.rs,dz.f⟩:BS)]) s127*(m.la.h m.lo*(AM Az m.fl*(dz.f.h dz.rs*HP.BQ)*(AM Az m.lo*(Dl pk2*(AD tb ob tf ts*R))))))))))
        rw [HP.Gb]
        unfold Ba
        ac_rfl) hw)⟩
      ·rcases j_.1 hp with hp|hp
       ·exact hmk.fl p hp
       ·rw [f_.1 hp];exact hdz.f
      ·rw [←hdf,if_pos h107,j'];show _++[(⟨m.x.next,m.x.now,dz.rs.map (·.f)⟩:EN)]=_;rw [hdz.map];rfl
     refine J1 ?_;refine Au _ (AU (m.x,m.fl,m.fa) ⟨hmk.fa,hmk.fl,?_,?_⟩ CN rfl) (hE:=?_)
     ·exact⟨fun ww hw=>Sat.right (A:=Ba b35 dz) (xx (by
       congr 1
       show _=Ba b35 dz*(AT cb m.x*(AH m.x.gq m.ga m.AO*(BG cb wz*(Bl cb m.rs*(m.fa.h m.fl*(m.la.h m.lo*(AM Az m.fl*(AM Az m.lo*(Dl pk2*(AD tb ob tf ts*R))))))))))
       unfold Di
       ac_rfl) hw)⟩
     ·show m.x={m.x with fv:=m.fa.v m.fl.length};rw [←hmk.fv]
     ·rw [←hdf,if_neg (by rw [h107];simp)];rfl
    ·rintro⟨x2,fl2,fa2⟩ ⟨hfa2,hfl2,hx2,hfm2⟩;dsimp only at hfa2 hfl2 hx2 hfm2⊢;refine J1 ?_
     obtain⟨m3,hm3⟩:∃m3:Ah,m3={m with x:={x2 with next:=x2.next+1},ws:=wz,fl:=fl2,fa:=fa2}:=Bg
     have hok3:m3.ok:=by rw [hm3];exact⟨hmk.g,hwz,hmk.rs,hfl2,hmk.lo,hfa2,hmk.la,by rw [hx2],by rw [hx2];exact hmk.lv⟩
     have hs3:m3.s=((⟨m.s,told,outs⟩:Be).step).c:=by
      rw [hm3];show(⟨x2.AY,x2.AG,x2.ks,x2.first,x2.now,x2.closed,x2.code,x2.said,x2.next+1,m.AO,x2.answer,wz.map (·.w),m.rs.map (·.r),fl2.map (·.A5),m.lo.map (·.A5),x2.Bq,x2.waits⟩:AL)=_;rw [hfm2,hwf,hx2];rfl
     have hzs:zs=DK m.s.ks (BM m.s.first) (q_ m.s.next) (⟨m.s,told,outs⟩:Be).filled.2.b:=by rw [←hzs,←hdf];rfl
     refine J5 ?_;refine JL (KM (i:=x2.next) (j:=1) rfl rfl (by rw [hx2];show m.x.next+1<_;omega)) ?_;refine J5 ?_
     have eps:(⟨m3.s,IX,outs++[zs]⟩:Be)=Be.step ⟨m.s,told,outs⟩:=by
      rw [hs3,htold2,hzs];rfl
     obtain⟨hst1,hst2⟩:=hz.step hne;refine Au (Ac cb m3*(Dl pk2*(AD tb ob tf ts*R))) (hE:=?_) ?_
     ·have hgq:x2.gq=m.x.gq:=by rw [hx2]
      rw [Dd,hm3]
      exact⟨fun ww hw=>xx (by
       congr 1
       show _=AT cb {x2 with next:=x2.next+1}*(AH x2.gq m.ga m.AO*(BG cb wz*(Bl cb m.rs*((fa2.h fl2*(m.la.h m.lo*(AM Az fl2*AM Az m.lo)))*(Dl pk2*(AD tb ob tf ts*R))))))
       rw [hgq]
       ac_rfl) hw⟩
     exact At (m3,pk2,outs++[zs],IX,q2,to2,cc2) ⟨hok3,hpk2,by rw [eps];exact hst1,by rw [eps,←xG hz hne];exact hzp,hqs2,hqr2,by rw [eps,a_];simp only [l_];omega⟩ (by rw [eps];exact hst2) CS rfl
end
section
variable{B:World}
structure O0 where
 sq:Value
 cq:Value
 h1:sq.oneCell'=true
 h2:cq.oneCell'=true
def YM:O0:=⟨.pointer none,.pointer none,rfl,rfl⟩
def VT(s c:Nat):O0:=⟨ptr s 0,ptr c 0,rfl,rfl⟩
@[reducible] def jS(m:O0):List Value:=[.slice none 0 0,m.sq,m.cq,uN 0,.bool false,.bool false,.bool false,.bool false,uN 0,.bool false]
@[reducible] instance:AB O0:=⟨10,jS,YM,fun _=>rfl,fun m v h=>by
 simp at h;rcases h with rfl|rfl|rfl|rfl|rfl|rfl|rfl|rfl|rfl|rfl<;>first|rfl|exact m.h1|exact m.h2⟩
structure PW where
 cq:Value
 h1:cq.oneCell'=true
def WJ:PW:=⟨.pointer none,rfl⟩
def X1(c:Nat):PW:=⟨ptr c 0,rfl⟩
@[reducible] def sR(m:PW):List Value:=[.slice none 0 0,m.cq,uN 0,uN 0,.bool false,.bool false,uN 0,uN 0,iN 0]
@[reducible] instance:AB PW:=⟨9,sR,WJ,fun _=>rfl,fun m v h=>by
 simp at h;rcases h with rfl|rfl|rfl|rfl|rfl|rfl|rfl|rfl|rfl<;>first|rfl|exact m.h1⟩
structure Fa where
 s:Nat
 c:Nat
 r:Nat
def Ef(l:List Fa):List O0:=l.map (fun z=>VT z.s z.c)++d_ (4-l.length) YM
def Ea(l:List Fa):List PW:=l.map (fun z=>X1 z.r)++d_ (4-l.length) WJ
def Mw(z:Fa):HP:=AH z.s Bi (.of 4096)*(AH z.c Bi (.of 4096)*AH z.r Bi (.of 4096))
theorem t6(l:List Fa)(h:l.length≤4):(Ef l).length=4:=by unfold Ef;simp;omega
theorem uS(l:List Fa)(h:l.length≤4):(Ea l).length=4:=by unfold Ea;simp;omega
theorem uL(l:List Fa)(z:Fa)(h:l.length<4):Ef (l++[z])=(Ef l).set l.length (VT z.s z.c):=by
 unfold Ef;rw [xu _ _ Cl];simp only [j',a_,l_,e_,q',u_,xr];rw [show 4-l.length=(4-(l.length+1))+1 by omega,i_]
 simp
theorem qk(l:List Fa)(z:Fa)(h:l.length<4):Ea (l++[z])=(Ea l).set l.length (X1 z.r):=by
 unfold Ea;rw [xu _ _ Cl];simp only [j',a_,l_,e_,q',u_,xr];rw [show 4-l.length=(4-(l.length+1))+1 by omega,i_]
 simp
theorem zI(l:List Fa)(h:l.length<4):(Ef l).getD l.length AB.AC=YM:=by
 unfold Ef;rw [b_,s_ Cl];rw [show 4-l.length=(4-(l.length+1))+1 by omega,i_]
 simp
theorem fe(l:List Fa)(h:l.length<4):(Ea l).getD l.length AB.AC=WJ:=by
 unfold Ea;rw [b_,s_ Cl];rw [show 4-l.length=(4-(l.length+1))+1 by omega,i_]
 simp
def Kv(z:Fa):Bo:=⟨BD,BP,z.s,Bi,z.c,Bi⟩
def K7(z:Fa):D4:=⟨KQ,BP,z.r,Bi⟩
theorem L_(l:List Fa)(h:l.length=4):AE (Ef l)=AE (l.map Kv):=by
 unfold Ef;rw [h,q',xz,k_]
 have:∀l:List Fa,AE (l.map fun z=>VT z.s z.c)=AE (l.map Kv):=by
  intro l
  induction l with
  |nil=>rfl
  |cons z l ih=>show jS _++AE (l.map _)=Bz _++AE (l.map Kv);rw [ih];rfl
 exact this l
theorem ay(l:List Fa)(h:l.length=4):AE (Ea l)=AE (l.map K7):=by
 unfold Ea;rw [h,q',xz,k_]
 have:∀l:List Fa,AE (l.map fun z=>X1 z.r)=AE (l.map K7):=by
  intro l
  induction l with
  |nil=>rfl
  |cons z l ih=>show sR _++AE (l.map _)=Dr _++AE (l.map K7);rw [ih];rfl
 exact this l
theorem zK(l:List Fa):AM Mw l=AM B6 (l.map Kv)*AM C1 (l.map K7):=by
 induction l with
 |nil=>rw [xr,xr,FG,FG,FG,HP.BA]
 |cons z l ih=>
  rw [u_,u_,Fx,Fx,Fx,ih]
  have e1:B6 (Kv z)=AH z.s Bi (.of 4096)*AH z.c Bi (.of 4096):=by
   show AD 0 0 ([]:List UInt8) []*(AH z.s Bi (.of 4096)*AH z.c Bi (.of 4096))=_;rw [FI,HP.BA]
  have e2:C1 (K7 z)=AH z.r Bi (.of 4096):=by
   show AD 0 0 ([]:List UInt8) []*AH z.r Bi (.of 4096)=_;rw [FI,HP.BA]
  rw [e1,e2];unfold Mw;ac_rfl
theorem DB{b o o':Nat}(l m:List Value)(h:o+l.length=o'):HP.AA b o (l++m)=HP.AA b o l*HP.AA b o' m:=by
 rw [HP.Ft,h]
def LG(AY AG:Nat)(ks:List UInt8)(first:Bool)(gq:Nat):CC:=⟨AY,AG,ks,first,0,0,0,false,0,gq,false,.slice none 0 0,.slice none 0 0,0,0⟩
def Mm(AY AG:Nat)(ks:List UInt8)(first:Bool)(gq:Nat):List Value:=
 [iN AY,iN AG]++((AE ks++[u8 (BM first)])++((AE ks++[u8 (BM (!first))])++([uN 0]++([iN 0]++([uN 0]++([.bool false]++([uN 0]++([ptr gq 0]++([.bool false]++(AE (Ef [])++(AE (Ea [])++([.slice none 0 0]++([.slice none 0 0]++([uN 0]++[uN 0]))))))))))))))
theorem pz(b AY AG:Nat)(ks:List UInt8)(hk:ks.length=16)(first:Bool)(gq:Nat):
  HP.AA b 0 (Mm AY AG ks first gq)=AT b (LG AY AG ks first gq)*(AD b (0+43) (Ef []) []*AD b (0+83) (Ea []) []):=by
 have h1:∀s:Value,(AE ks++[s]).length=17:=fun s=>by rw [a_,Ff hk];rfl
 unfold Mm
 rw [DB _ _ (rfl:0+2=0+2),DB (o:=0+2) (o':=0+19) _ _ (by rw [h1]),DB (o:=0+19) (o':=0+36) _ _ (by rw [h1]),
  DB (o:=0+36) (o':=0+37) _ _ rfl,DB (o:=0+37) (o':=0+38) _ _ rfl,DB (o:=0+38) (o':=0+39) _ _ rfl,DB (o:=0+39) (o':=0+40) _ _ rfl,DB (o:=0+40) (o':=0+41) _ _ rfl,DB (o:=0+41) (o':=0+42) _ _ rfl,
  DB (o:=0+42) (o':=0+43) _ _ rfl,DB (o:=0+43) (o':=0+83) _ _ rfl,DB (o:=0+83) (o':=0+119) _ _ rfl,DB (o:=0+119) (o':=0+120) _ _ rfl,DB (o:=0+120) (o':=0+121) _ _ rfl,DB (o:=0+121) (o':=0+122) _ _ rfl]
 unfold AT AD LG;rw [k_,k_];ac_rfl
def VX:List Value:=[.int .i64 0,.int .i64 0]++([.int .u8 0,.int .u8 0,.int .u8 0,.int .u8 0,.int .u8 0,.int .u8 0,.int .u8 0,.int .u8 0,.int .u8 0,.int .u8 0,.int .u8 0,.int .u8 0,.int .u8 0,.int .u8 0,.int .u8 0,.int .u8 0,.int .u8 0]++([.int .u8 0,.int .u8 0,.int .u8 0,.int .u8 0,.int .u8 0,.int .u8 0,.int .u8 0,.int .u8 0,.int .u8 0,.int .u8 0,.int .u8 0,.int .u8 0,.int .u8 0,.int .u8 0,.int .u8 0,.int .u8 0,.int .u8 0]++([uN 0]++([iN 0]++([uN 0]++([.bool false]++([uN 0]++([.pointer none]++([.bool false]++(AE (Ef [])++(AE (Ea [])++([.slice none 0 0]++([.slice none 0 0]++([uN 0]++[uN 0]))))))))))))))
theorem i6:BZ Tryz.prog 184 (.agg VX.toArray):=by
 have h:BZ Tryz.prog 184 _:=inferInstance;refine xx (congrArg (BZ Tryz.prog 184) ?_) h;kernel_rfl
theorem Qx{ks:List UInt8}(hk:ks.length=16)(s:Value):(AE ks++[s]).length=17:=by
 rw [a_,Ff hk];rfl
theorem tz(mt wi:Nat)(ks:List UInt8)(hk:ks.length=16)(first:Bool)(q37:Nat):
  Iu #[(0,2),(2,17),(19,17),(36,1),(37,1),(38,1),(39,1),(40,1),(41,1),(42,1),(43,40),(83,36),(119,1),(120,1),(121,1),(122,1)] VX
   [(0,.agg [iN mt,iN wi].toArray),(1,.agg (AE ks++[u8 (BM first)]).toArray),(2,.agg (AE ks++[u8 (BM (!first))]).toArray),(8,ptr q37 0)] (Mm mt wi ks first q37):=by
 have hl1:=Qx hk (u8 (BM first));have hl2:=Qx hk (u8 (BM (!first)));unfold VX
 exact(Hf [] [.int .i64 0,.int .i64 0] ([.int .u8 0,.int .u8 0,.int .u8 0,.int .u8 0,.int .u8 0,.int .u8 0,.int .u8 0,.int .u8 0,.int .u8 0,.int .u8 0,.int .u8 0,.int .u8 0,.int .u8 0,.int .u8 0,.int .u8 0,.int .u8 0,.int .u8 0]++([.int .u8 0,.int .u8 0,.int .u8 0,.int .u8 0,.int .u8 0,.int .u8 0,.int .u8 0,.int .u8 0,.int .u8 0,.int .u8 0,.int .u8 0,.int .u8 0,.int .u8 0,.int .u8 0,.int .u8 0,.int .u8 0,.int .u8 0]++([uN 0]++([iN 0]++([uN 0]++([.bool false]++([uN 0]++([.pointer none]++([.bool false]++(AE (Ef [])++(AE (Ea [])++([.slice none 0 0]++([.slice none 0 0]++([uN 0]++[uN 0])))))))))))))) [iN mt,iN wi] rfl rfl rfl rfl
 (Hf [iN mt,iN wi] [.int .u8 0,.int .u8 0,.int .u8 0,.int .u8 0,.int .u8 0,.int .u8 0,.int .u8 0,.int .u8 0,.int .u8 0,.int .u8 0,.int .u8 0,.int .u8 0,.int .u8 0,.int .u8 0,.int .u8 0,.int .u8 0,.int .u8 0] ([.int .u8 0,.int .u8 0,.int .u8 0,.int .u8 0,.int .u8 0,.int .u8 0,.int .u8 0,.int .u8 0,.int .u8 0,.int .u8 0,.int .u8 0,.int .u8 0,.int .u8 0,.int .u8 0,.int .u8 0,.int .u8 0,.int .u8 0]++([uN 0]++([iN 0]++([uN 0]++([.bool false]++([uN 0]++([.pointer none]++([.bool false]++(AE (Ef [])++(AE (Ea [])++([.slice none 0 0]++([.slice none 0 0]++([uN 0]++[uN 0]))))))))))))) (AE ks++[u8 (BM first)]) NS rfl NS rfl
 (Hf ([iN mt,iN wi]++(AE ks++[u8 (BM first)])) [.int .u8 0,.int .u8 0,.int .u8 0,.int .u8 0,.int .u8 0,.int .u8 0,.int .u8 0,.int .u8 0,.int .u8 0,.int .u8 0,.int .u8 0,.int .u8 0,.int .u8 0,.int .u8 0,.int .u8 0,.int .u8 0,.int .u8 0] ([uN 0]++([iN 0]++([uN 0]++([.bool false]++([uN 0]++([.pointer none]++([.bool false]++(AE (Ef [])++(AE (Ea [])++([.slice none 0 0]++([.slice none 0 0]++([uN 0]++[uN 0])))))))))))) (AE ks++[u8 (BM (!first))]) (by rw [a_,hl1,hl2];rfl) (by simp only [t_]) (by rw [hl2];rfl) rfl
 (Hf ([iN mt,iN wi]++((AE ks++[u8 (BM first)])++((AE ks++[u8 (BM (!first))])++[uN 0,iN 0,uN 0,.bool false,uN 0]))) [.pointer none] ([.bool false]++(AE (Ef [])++(AE (Ea [])++[.slice none 0 0,.slice none 0 0,uN 0,uN 0]))) [ptr q37 0] (by simp only [a_,hl1,hl2];rfl) Q6 rfl rfl
 (by unfold Mm;simp only [t_];exact Pn)))))
set_option maxHeartbeats 4000000 in
theorem ue(AY AG:Int)(ks:List UInt8)(hk:ks.length=16)(first:Bool)(H:HP):
  Fn Tryz.prog B 39 [.agg [.int .i64 AY,.int .i64 AG].toArray,.agg (AE ks).toArray,.bool first] H (fun v H'=>
   (¬Fw AY AG∧v=.tuple #[.pointer none,Dt 1]∧H'=H)∨
   (Fw AY AG∧∃cb m,m.ok∧m.s=AL.new AY.toNat AG.toNat ks first∧v=.tuple #[ptr cb 0,.nilIface]∧H'=Ac cb m*H)):=by
 refine mI Tryz.func39 ?_;refine J2 ?_;refine AV Vb rfl ?_;rintro _ _ ⟨b3,rfl,rfl⟩;refine PP ?_;rintro _ _ ⟨b4,rfl,rfl⟩;refine J9 ?_;refine JL (JQ (i:=AY) (j:=64) rfl rfl) ?_;refine J1 ?_;refine CJ 13 rfl (fun hg1=>?_) (fun hg1=>?_)
 ·have g1:=hg1;refine Um ?_;refine UG ?_;exact Lf
 have g1:=hg1;refine kM ?_;refine CJ 18 rfl (fun hg2=>?_) (fun hg2=>?_)
 ·have g2:=hg2;refine Vp ?_;refine UG ?_;exact Lf
 have g2:=hg2;refine Zf ?_;refine CJ 23 rfl (fun hg3=>?_) (fun hg3=>?_)
 ·have g3:=hg3;refine XW ?_;refine UG ?_;exact Lf
 have g3:=hg3;refine dT ?_;refine mC (fun g4=>?_) (fun g4=>?_)
 ·refine UG ?_;exact Lf
 obtain⟨mt,rfl⟩:∃mt:Nat,AY=mt:=⟨AY.toNat,Cg⟩
 obtain⟨wi,rfl⟩:∃wi:Nat,AG=wi:=⟨AG.toNat,Cg⟩
 have hl1:=Qx hk (u8 (BM first));have hl2:=Qx hk (u8 (BM (!first)));refine J3 ?_;refine mA 10 12 ?_;refine JT 0 rfl mV ?_;refine JT 1 rfl MJ ?_;refine Jm 2 ?_;refine JT 4 rfl MJ ?_;refine Jm 5 ?_;refine JT 6 rfl LU ?_;refine Al 3 Ch rfl rfl (BK rfl (fE ks hk first _)) ?_;refine Gj ?_;refine Al 7 Ch rfl rfl (BK rfl (fE ks hk (!first) _)) ?_;refine Gj ?_;refine Al 8 Ch rfl rfl (BK rfl (nV 8 _ Cg)) ?_;rintro _ _ ⟨q37,rfl,rfl⟩;refine BF ?_;refine JT 9 rfl (Ph (hz:=i6) (cs:=Mm mt wi ks first q37) rfl (tz mt wi ks hk first q37)) ?_;refine Al 10 Ch rfl rfl (DP (l:=Mm mt wi ks first q37) rfl rfl) ?_;rintro _ _ ⟨b39,rfl,rfl⟩;refine DS ?_;refine Ec 11 Ch rfl rfl Fl EO ?_;refine HN ?_;refine Hs (HP.AA b39 0 (Mm mt wi ks first q37)*(AH q37 Bi (.of 8)*H)) ?_;refine Aq (H':=AT b39 (LG mt wi ks first q37)*(AD b39 (0+43) (Ef []) []*(AD b39 (0+83) (Ea []) []*(AM Mw []*(AH q37 Bi (.of 8)*H))))) (by rw [pz b39 mt wi ks hk,FG,HP.BA];ac_rfl) ?_;refine J1 ?_
 refine Hy ?_;refine BL (α:=List Fa) (fun l=>[(40,iN l.length),(8,ptr b39 0)]) (fun l=>AT b39 (LG mt wi ks first q37)*(AD b39 (0+43) (Ef l) []*(AD b39 (0+83) (Ea l) []*(AM Mw l*(AH q37 Bi (.of 8)*H))))) (fun l=>l.length≤4) (fun l=>4-l.length) [] C9 FX rfl ?_;rintro l hl;dsimp only at hl⊢;refine J2 ?_;refine JL Te ?_;refine J3 ?_;refine mC (fun h41=>?_) (fun h41=>?_)
 ·refine Aq (H':=AT b39 (LG mt wi ks first q37)*(HP.AA b39 (0+43+l.length*10) [.slice none 0 0,.pointer none,.pointer none,uN 0,.bool false,.bool false,.bool false,.bool false,uN 0,.bool false]*(Kj b39 (0+43) (Ef l) [] l.length*(HP.AA b39 (0+83+l.length*9) [.slice none 0 0,.pointer none,uN 0,uN 0,.bool false,.bool false,uN 0,uN 0,iN 0]*(Kj b39 (0+83) (Ea l) [] l.length*(AM Mw l*(AH q37 Bi (.of 8)*H))))))) (by rw [Sa b39 (0+43) (Ef l) [] l.length AB.AC Zv,Sa b39 (0+83) (Ea l) [] l.length AB.AC gX,zI l h41,fe l h41];show AT b39 _*(HP.AA b39 (0+43+l.length*10) _*_*(HP.AA b39 (0+83+l.length*9) _*_*_))=_;ac_rfl) ?_;refine BV ?_;refine Dc (AH q37 Bi (.of 8)*H) 15 16 Dg rfl Ch ?_;refine LX ?_;refine Jm 3 ?_;refine Jn 6 ?_;refine Jf 7 ?_;refine Jn 11 ?_;refine Jf 12 ?_;refine Al 4 Ch rfl rfl Sf ?_;rintro _ _ ⟨q47,rfl,rfl⟩;refine BF ?_;refine Al 5 Ch rfl rfl Sf ?_;rintro _ _ ⟨q48,rfl,rfl⟩;refine BF ?_;refine JT 8 rfl Uk ?_;refine UK ?_;refine Gj ?_
  refine JT 13 rfl Uk ?_;refine Jf 14 ?_;refine D' 15 Ch rfl Fm ?_;refine Dw ?_;refine J1 ?_;refine mA 7 8 ?_;refine EQ ?_;refine Jn 3 ?_;refine Jf 4 ?_;refine Al 2 Ch rfl rfl Sf ?_;rintro _ _ ⟨q59,rfl,rfl⟩;refine BF ?_;refine JT 5 rfl Uk ?_;refine Hk ?_;refine D' 7 Ch rfl Fm ?_;refine Dw ?_;refine J3 ?_;refine FO ?_;refine Au (AT b39 (LG mt wi ks first q37)*(AD b39 (0+43) (Ef (l++[⟨q47,q48,q59⟩])) []*(AD b39 (0+83) (Ea (l++[⟨q47,q48,q59⟩])) []*(AM Mw (l++[⟨q47,q48,q59⟩])*(AH q37 Bi (.of 8)*H))))) (hE:=?_) ?_
  ·rw [uL l _ h41,qk l _ h41,Kf,Fx,FG,P1 b39 (0+43) (Ef l) [] l.length _ Zv,P1 b39 (0+83) (Ea l) [] l.length _ gX]
   exact⟨fun ww hw=>xx (by
    congr 1
    show _=AT b39 (LG mt wi ks first q37)*(HP.AA b39 (0+43+l.length*10) [.slice none 0 0,ptr q47 0,ptr q48 0,uN 0,.bool false,.bool false,.bool false,.bool false,uN 0,.bool false]*Kj b39 (0+43) (Ef l) [] l.length*(HP.AA b39 (0+83+l.length*9) [.slice none 0 0,ptr q59 0,uN 0,uN 0,.bool false,.bool false,uN 0,uN 0,iN 0]*Kj b39 (0+83) (Ea l) [] l.length*(AM Mw l*((AH q47 Bi (.of 4096)*(AH q48 Bi (.of 4096)*AH q59 Bi (.of 4096)))*HP.BQ)*(AH q37 Bi (.of 8)*H))))
    rw [HP.Gb]
    ac_rfl) hw⟩
  exact At (l++[⟨q47,q48,q59⟩]) (by rw [a_];exact h41) (by rw [a_];show 4-(l.length+1)<4-l.length;have:l.length<4:=h41;omega) (.cons X3 Ix) rfl
 have hl4:l.length=4:=by have:¬l.length<4:=h41;omega
 refine EP ?_
 obtain⟨m,hm⟩:∃m:Ah,m=⟨(LG mt wi ks first q37),.of 8,Bi,l.map Kv,l.map K7,[],[],BP,BP⟩:=Bg
 have hmok:m.ok:=by
  rw [hm]
  exact⟨Lz 8,(fun w hw=>by obtain⟨z,_,rfl⟩:=r_.1 hw;exact⟨DX,Lz 4096,Lz 4096⟩),(fun r hr=>by obtain⟨z,_,rfl⟩:=r_.1 hr;exact⟨DX,Lz 4096⟩),
   (fun _ h=>nomatch h),(fun _ h=>nomatch h),DX,DX,rfl,rfl⟩
 have hms:m.s=AL.new mt wi ks first:=by
  rw [hm];unfold Ah.s AL.new;dsimp only
  have e1:(l.map Kv).map (·.w)=d_ 4 BD:=by
   rw [yi,←hl4];exact xw.2 ⟨Cl,fun b hb=>by obtain⟨z,_,rfl⟩:=r_.1 hb;rfl⟩
  have e2:(l.map K7).map (·.r)=d_ 4 KQ:=by
   rw [yi,←hl4];exact xw.2 ⟨Cl,fun b hb=>by obtain⟨z,_,rfl⟩:=r_.1 hb;rfl⟩
  rw [e1,e2];rfl
 exact mR [6,7] (Ac b39 m*H) (hE:=⟨fun ww hw=>xx (by
  congr 1
  rw [Dd,hm,zK]
  unfold AD BG Bl Di
  rw [L_ l hl4,ay l hl4]
  show _=AT b39 (LG mt wi ks first q37)*(AH q37 Bi (.of 8)*(AD b39 (0+43) (l.map Kv) []*AM B6 (l.map Kv)*(AD b39 (0+83) (l.map K7) []*AM C1 (l.map K7)*(BP.h ([]:List BS)*(BP.h ([]:List BS)*(AM Az []*AM Az []))*H))))
  rw [GN,FG,HP.BA,HP.BA,HP.BA,HP.BA]
  unfold AD
  ac_rfl) hw⟩) rfl rfl (.inr ⟨⟨Cg,Cg,Cg,Cg⟩,b39,m,hmok,by rw [hms];rfl,rfl,rfl⟩)
end
section
variable{B:World}
structure FN where
 kind:Int
 stream:Int
 AN:Int
 code:Nat
 data:ByteArray
structure Bd where
 e:Nat
 at_:Int
 n:Nat
 code:Nat
 data:ByteArray
 BE:List ByteArray
def AL.Av(c:AL)(q:FN):Bd×AL:=
 if q.kind=1 then(⟨(c.write q.stream q.data.data.toList).1.2,-1,(c.write q.stream q.data.data.toList).1.1,0,⟨#[]⟩,[]⟩,(c.write q.stream q.data.data.toList).2)
 else if q.kind=2 then(⟨(c.finish q.stream).1,-1,0,0,⟨#[]⟩,[]⟩,(c.finish q.stream).2)
 else if q.kind=3 then(⟨(c.giveUp q.stream q.code).1,-1,0,0,⟨#[]⟩,[]⟩,(c.giveUp q.stream q.code).2)
 else if q.kind=4 then(⟨0,-1,0,0,⟨#[]⟩,[]⟩,c.tick)
 else if q.kind=5 then(⟨0,-1,0,0,⟨#[]⟩,c.BE.1.map BI⟩,c.BE.2)
 else if q.kind=6 then(⟨(c.BB q.data.data.toList).1.1,(c.BB q.data.data.toList).1.2,0,0,⟨#[]⟩,[]⟩,(c.BB q.data.data.toList).2)
 else if q.kind=7 then(⟨(c.read q.stream q.AN).1.2.2.2,-1,(c.read q.stream q.AN).1.2.1,(c.read q.stream q.AN).1.2.2.1,BI (c.read q.stream q.AN).1.1,[]⟩,(c.read q.stream q.AN).2)
 else if q.kind=8 then(⟨(c.close q.code).1,-1,0,0,⟨#[]⟩,[]⟩,(c.close q.code).2)
 else if q.kind=9 then(⟨(c.AF q.stream).2,-1,(c.AF q.stream).1,0,⟨#[]⟩,[]⟩,c)
 else(⟨0,-1,0,0,⟨#[]⟩,[]⟩,c)
theorem Ak.Av{t:Nat}{c:AL}(h:Ak t c)(q:FN):Ak (t+1) (c.Av q).2:=by
 unfold AL.Av;split
 ·exact(h.write _ _).mono De
 split
 ·exact(h.finish _).mono De
 split
 ·exact(h.giveUp _ _).mono De
 split
 ·exact h.tick
 split
 ·exact h.BE
 split
 ·exact(h.BB _ (fun n b e=>by have:=(Js e).2.2;omega)).mono De
 split
 ·exact h.read _ _
 split
 ·exact(h.close _).mono De
 split
 ·exact h.mono De
 ·exact h.mono De
@[reducible] def BU(q:FN):List Value:=[.int .i64 q.kind,.int .i64 q.stream,.int .i64 q.AN,uN q.code,.string q.data]
@[reducible] instance:AB FN:=⟨5,BU,⟨0,0,0,0,⟨#[]⟩⟩,fun _=>rfl,fun _ v h=>by
 simp at h;rcases h with rfl|rfl|rfl|rfl|rfl<;>rfl⟩
@[reducible] instance layStr:AB ByteArray:=⟨1,fun s=>[.string s],⟨#[]⟩,fun _=>rfl,fun _ v h=>by
 simp at h;rcases h with rfl;rfl⟩
structure Ni(B:World)(v:Value)(EH:HP)(e:Nat)(at_:Int):Prop where
 told:∀R,Fn Tryz.prog B 44 [v] (EH*R) (fun v' H'=>v'=.tuple #[iN e,.int .i64 at_]∧H'=EH*R)
 num:∀R,Fn Tryz.prog B 40 [v] (EH*R) (fun v' H'=>v'=iN e∧H'=EH*R)
theorem Ni.of(hG:B.cell? ⟨0,0,none⟩=some (Eg 106))(k:Nat):Ni B (Dt k) HP.BQ k (-1):=by
 by_cases h:k=0
 ·subst h;exact⟨fun R=>by rw [HP.BA];exact ZV R,fun R=>by rw [HP.BA];exact X? R⟩
 ·rw [UE h];exact⟨fun R=>by rw [HP.BA];exact nY hG k R,fun R=>by rw [HP.BA];exact uG hG k R⟩
theorem NN.t(hG:B.cell? ⟨0,0,none⟩=some (Eg 106)){e:Nat}{at_:Int}{H H':HP}{v:Value}(h:NN e at_ H v H'):∃EH,H'=EH*H∧Ni B v EH e at_:=by
 rcases h with⟨rfl,rfl,rfl⟩|⟨q,a,rfl,rfl,rfl,rfl⟩
 ·exact⟨HP.BQ,Ct,.of hG e⟩
 ·exact⟨FJ q 5 (iN a),rfl,fun R=>eB hG q 5 (iN a) R,fun R=>zP hG q 5 (iN a) R⟩
theorem xC{R H':HP}{xs:List UInt8}{sv:Value}(h:(xs=[]∧sv=.slice none 0 0∧H'=R)∨(xs≠ []∧CH R xs sv H')):CH R xs sv H':=by
 rcases h with⟨rfl,rfl,rfl⟩|⟨_,h⟩
 ·exact .nil _
 ·exact h
theorem yI(hG:B.cell? ⟨0,0,none⟩=some (Eg 106))(AY AG:Int)(ks:List UInt8)(hk:ks.length=16)(first:Bool)(H:HP):
  Fn Tryz.prog B 16 [.agg [.int .i64 AY,.int .i64 AG].toArray,.agg (AE ks).toArray,.bool first] H (fun v H'=>
   (¬Fw AY AG∧v=.tuple #[.pointer none,iN 1]∧H'=H)∨
   (Fw AY AG∧∃cb m,m.ok∧m.s=AL.new AY.toNat AG.toNat ks first∧v=.tuple #[ptr cb 0,iN 0]∧H'=Ac cb m*H)):=by
 refine mI Tryz.func16 ?_;refine J2 ?_;refine AV Vb rfl ?_;rintro _ _ ⟨b3,rfl,rfl⟩;refine PP ?_;rintro _ _ ⟨b4,rfl,rfl⟩;refine J1 ?_;refine Kz ?_;refine JL (Dp (l:=[.int .i64 AY,.int .i64 AG]) rfl rfl) ?_;refine JL MJ ?_;refine J1 ?_;refine mE rfl (ue AY AG ks hk first _) ?_;intro v14 H14 h14
 obtain⟨pv,ev,rfl,hev⟩:∃pv ev,v14=.tuple #[pv,ev]∧((¬Fw AY AG∧pv=.pointer none∧ev=Dt 1∧H14=HP.AA b4 0 (AE ks)*(HP.AA b3 0 [.int .i64 AY,.int .i64 AG]*H))∨
   (Fw AY AG∧ev=Dt 0∧∃cb m,m.ok∧m.s=AL.new AY.toNat AG.toNat ks first∧pv=ptr cb 0∧H14=Ac cb m*(HP.AA b4 0 (AE ks)*(HP.AA b3 0 [.int .i64 AY,.int .i64 AG]*H)))):=by
  rcases h14 with⟨a1,rfl,a2⟩|⟨a1,cb,m,a2,a3,rfl,a4⟩
  ·exact⟨_,_,rfl,.inl ⟨a1,rfl,rfl,a2⟩⟩
  ·exact⟨_,_,rfl,.inr ⟨a1,rfl,cb,m,a2,a3,rfl,a4⟩⟩
 obtain⟨ek,hek⟩:∃ek,Ni B ev HP.BQ ek (-1)∧ek=if Fw AY AG then 0 else 1:=by
  rcases hev with⟨a1,_,rfl,_⟩|⟨a1,rfl,_⟩
  ·exact⟨1,.of hG 1,by rw [if_neg a1]⟩
  ·exact⟨0,.of hG 0,by rw [if_pos a1]⟩
 refine BV ?_;refine Aw (H':=HP.BQ*H14) Ct ?_;refine mE rfl (hek.1.num _) ?_;refine JE ?_;rw [hek.2];rcases hev with⟨a1,rfl,rfl,rfl⟩|⟨a1,rfl,cb,m,a2,a3,rfl,rfl⟩
 ·exact mR [6,7] H rfl rfl (.inl ⟨a1,by rw [if_neg a1];rfl,rfl⟩)
 ·exact mR [6,7] (Ac cb m*H) rfl rfl (.inr ⟨a1,cb,m,a2,a3,by rw [if_pos a1];rfl,rfl⟩)
theorem yP(hG:B.cell? ⟨0,0,none⟩=some (Eg 106))(cb:Nat)(m:Ah)(R:HP):
  Fn Tryz.prog B 26 [ptr cb 0] (Ac cb m*R) (fun v H'=>v=iN m.s.closed∧H'=Ac cb m*R):=by
 refine mI Tryz.func26 ?_;refine LH ?_;refine mE rfl (ce cb m R) ?_;refine JR ?_;refine Aw (H':=HP.BQ*(Ac cb m*R)) Ct ?_;refine mE rfl ((Ni.of hG m.s.closed).num _) ?_;refine E5 ?_;exact mR [2] (Ac cb m*R) (hE:=by rw [HP.BA];infer_instance) rfl rfl CO
theorem dI{t:Nat}:∀(n:Nat) (z:Be),Dz t z→(DW n z).out.length≤z.out.length+z.mu
 |0,z,h=>n_ _ _
 |n+1,z,h=>by
  rw [DW];split
  ·exact n_ _ _
  ·rename_i hne;obtain⟨h1,h2⟩:=h.step hne;have h3:=dI n _ h1
   have h4:z.step.out.length=z.out.length+1:=by show(z.out++[_]).length=_;rw [a_];rfl
   omega
theorem Qb(ks:List UInt8)(side:UInt8)(n:UInt64)(xs:List UInt8):(DK ks side n xs).length=xs.length+16:=by
 unfold DK;rw [a_,a_,XH,W2,iO];omega
theorem iQ{t:Nat}:∀(n:Nat) (z:Be),Dz t z→(∀p∈z.out,p.length≤300)→∀p∈(DW n z).out,p.length≤300
 |0,z,h,ho=>ho
 |n+1,z,h,ho=>by
  rw [DW];split
  ·exact ho
  ·rename_i hne;obtain⟨h1,h2⟩:=h.step hne;refine iQ n _ h1 fun p hp=>?_;have hp':p∈z.out++[DK z.c.ks (BM z.c.first) (q_ z.c.next) z.filled.2.b]:=hp;rcases j_.1 hp' with hp|hp
   ·exact ho p hp
   ·rw [f_.1 hp,Qb];have h3:=h.filled.KI.len;have h4:=h.filled.KI.room;omega
theorem nK{t:Nat}{c:AL}(h:Ak t c):∀p∈c.BE.1,p.length≤300:=by
 unfold AL.BE;split
 ·unfold AL.CT;split
  ·intro p hp;cases hp
  ·intro p hp;rw [f_.1 hp,Qb]
   have:=VC c.code;omega
 ·exact iQ 40 _ (Dz.begin h) (fun p hp=>nomatch hp)
theorem jc{t:Nat}{c:AL}(h:Ak t c)(k AN:Int):(c.read k AN).1.1.length≤1000000:=by
 unfold AL.read;split
 ·exact Nn
 ·rename_i hs;dsimp only;split
  ·show((c.GC k.toNat).b.take _).length≤_;rw [h_];rename_i hst
   have hk:k.toNat<4:=by
    unfold AL.stream at hs;split at hs
    ·omega
    split at hs
    ·omega
    ·omega
   have hr:=h.rs _ hk;have hw2:=h.w2
   have hb:(c.GC k.toNat).b.length≤1024:=by
    unfold AL.GC at hst⊢;by_cases hg:(c.r k.toNat).given=true
    ·by_cases h0:(c.r k.toNat).state=0
     ·rw [if_pos ⟨hg,h0⟩];exact p_ _
     ·rw [if_neg (fun h=>h0 h.2)]at hst;exact absurd hst h0
    ·rw [if_neg (fun h=>hg h.1)];have h1:=hr.len Rl;have h2:=hr.hw;omega
   omega
  ·exact Nn
theorem jT{t:Nat}{c:AL}(h:Ak t c):c.BE.1.length≤20:=by
 unfold AL.BE;split
 ·unfold AL.CT;split<;>simp
 ·have hb:=Dz.begin h;have h8:=dI 40 _ hb;have h9:=hb.tl
  have h10:(⟨{c with answer:=false},if c.answer then c.AO.l.reverse else [],[]⟩:Be).mu≤18:=by unfold Be.mu;omega
  have h11:(⟨{c with answer:=false},if c.answer then c.AO.l.reverse else [],[]⟩:Be).out.length=0:=rfl;dsimp only;omega
set_option maxHeartbeats 8000000 in
theorem jn(hG:B.cell? ⟨0,0,none⟩=some (Eg 106))(cb t:Nat)(m:Ah)(q:FN)(R:HP)(hm:m.ok)(hi:Ak t m.s)(ht:t<900000)(hd:q.data.size<90000000)(hmo2:q.AN<9223372036854775808):
  Fn Tryz.prog B 54 [ptr cb 0,.agg (BU q).toArray] (Ac cb m*R) (fun v H'=>∃(m':Ah) (ps:Ae),m'.ok∧m'.s=(m.s.Av q).2∧ps.ok (m.s.Av q).1.BE∧
   v=.tuple #[iN (m.s.Av q).1.e,.int .i64 (m.s.Av q).1.at_,iN (m.s.Av q).1.n,uN (m.s.Av q).1.code,.string (m.s.Av q).1.data,.slice ps.p (m.s.Av q).1.BE.length ps.c]∧H'=ps.h (m.s.Av q).1.BE*(Ac cb m'*R)):=by
 refine mI Tryz.func54 ?_;refine J2 ?_;refine AV Vj rfl ?_;rintro _ _ ⟨b3,rfl,rfl⟩;refine FC ?_;refine FC ?_;refine FC ?_;refine Fz ?_;refine EP ?_;refine AV NG rfl ?_;rintro _ _ ⟨p17,b17,o17,c17,s17,rfl,hs17,hc17,rfl⟩;refine J5 ?_
 have hxl:q.data.data.toList.length<90000000:=lC
 refine Aq (H':=Ac cb m*(AD b17 o17 q.data.data.toList s17*(HP.AA b3 0 (BU q)*R))) Cm ?_;refine J8 ?_;refine JL (CI (i:=q.kind) (j:=1) rfl rfl) ?_;refine J3 ?_;refine BO (α:=Ah×HP×Value×Bd×Ae) (fun z=>[(0,ptr cb 0),(11,.slice p17 q.data.data.toList.length c17),(10,z.2.2.1),(6,iN z.2.2.2.1.n),(7,uN z.2.2.2.1.code),(8,.string z.2.2.2.1.data),(9,.slice z.2.2.2.2.p z.2.2.2.1.BE.length z.2.2.2.2.c)]) (fun z=>AD b17 o17 q.data.data.toList s17*(z.2.1*(z.2.2.2.2.h z.2.2.2.1.BE*(Ac cb z.1*R)))) (fun z=>z.1.ok∧m.s.Av q=(z.2.2.2.1,z.1.s)∧Ni B z.2.2.1 z.2.1 z.2.2.2.1.e z.2.2.2.1.at_∧z.2.2.2.2.ok z.2.2.2.1.BE) ?_ ?_
 ·refine mC (fun k1=>?_) (fun k1=>?_)
  ·refine J5 ?_;refine mE rfl (zS cb t m q.stream q.data.data.toList p17 b17 o17 c17 _ hm hi hs17 inferInstance) ?_;rintro _ _ ⟨m2,hmo,hms,rfl,rfl⟩;refine J6 ?_
   have hdo:m.s.Av q=((⟨(m.s.write q.stream q.data.data.toList).1.2,-1,(m.s.write q.stream q.data.data.toList).1.1,0,⟨#[]⟩,[]⟩:Bd),m2.s):=by
    unfold AL.Av;rw [if_pos k1];rw [hms]
   exact Au (AD b17 o17 q.data.data.toList s17*(HP.BQ*(Ae.h BP ([]:List ByteArray)*(Ac cb m2*R)))) (hE:=MT) (AU (m2,HP.BQ,Dt (m.s.write q.stream q.data.data.toList).1.2,(⟨(m.s.write q.stream q.data.data.toList).1.2,-1,(m.s.write q.stream q.data.data.toList).1.1,0,⟨#[]⟩,[]⟩:Bd),BP) ⟨hmo,hdo,.of hG _,DX⟩ Hb rfl)
  refine J2 ?_;refine JL (CI (i:=q.kind) (j:=2) rfl rfl) ?_;refine J3 ?_;refine mC (fun k2=>?_) (fun k2=>?_)
  ·refine J4 ?_;refine mE rfl (qz cb t m q.stream _ hm hi) ?_;rintro _ _ ⟨m2,hmo,hms,rfl,rfl⟩;refine J2 ?_
   have hdo:m.s.Av q=((⟨(m.s.finish q.stream).1,-1,0,0,⟨#[]⟩,[]⟩:Bd),m2.s):=by
    unfold AL.Av;rw [if_neg k1,if_pos k2];rw [hms]
   exact Au (AD b17 o17 q.data.data.toList s17*(HP.BQ*(Ae.h BP ([]:List ByteArray)*(Ac cb m2*R)))) (hE:=MT) (AU (m2,HP.BQ,Dt (m.s.finish q.stream).1,(⟨(m.s.finish q.stream).1,-1,0,0,⟨#[]⟩,[]⟩:Bd),BP) ⟨hmo,hdo,.of hG _,DX⟩ Hb rfl)
  refine J2 ?_;refine JL (CI (i:=q.kind) (j:=3) rfl rfl) ?_;refine J3 ?_;refine mC (fun k3=>?_) (fun k3=>?_)
  ·refine J6 ?_;refine mE rfl (cw cb t m q.stream q.code _ hm hi) ?_;rintro _ _ ⟨m2,hmo,hms,rfl,rfl⟩;refine J2 ?_
   have hdo:m.s.Av q=((⟨(m.s.giveUp q.stream q.code).1,-1,0,0,⟨#[]⟩,[]⟩:Bd),m2.s):=by
    unfold AL.Av;rw [if_neg k1,if_neg k2,if_pos k3];rw [hms]
   exact Au (AD b17 o17 q.data.data.toList s17*(HP.BQ*(Ae.h BP ([]:List ByteArray)*(Ac cb m2*R)))) (hE:=MT) (AU (m2,HP.BQ,Dt (m.s.giveUp q.stream q.code).1,(⟨(m.s.giveUp q.stream q.code).1,-1,0,0,⟨#[]⟩,[]⟩:Bd),BP) ⟨hmo,hdo,.of hG _,DX⟩ Hb rfl)
  refine J2 ?_;refine JL (CI (i:=q.kind) (j:=4) rfl rfl) ?_;refine J3 ?_;refine mC (fun k4=>?_) (fun k4=>?_)
  ·refine J2 ?_;refine mE rfl (zG cb t m _ hm hi Cg) ?_;rintro _ _ ⟨m2,hmo,hms,rfl⟩;refine J1 ?_
   have hdo:m.s.Av q=((⟨0,-1,0,0,⟨#[]⟩,[]⟩:Bd),m2.s):=by
    unfold AL.Av;rw [if_neg k1,if_neg k2,if_neg k3,if_pos k4];rw [hms]
   exact Au (AD b17 o17 q.data.data.toList s17*(HP.BQ*(Ae.h BP ([]:List ByteArray)*(Ac cb m2*R)))) (hE:=MT) (AU (m2,HP.BQ,Dt 0,(⟨0,-1,0,0,⟨#[]⟩,[]⟩:Bd),BP) ⟨hmo,hdo,.of hG 0,DX⟩ Hb rfl)
  refine J2 ?_;refine JL WE ?_;refine J3 ?_;refine mC (fun k5=>?_) (fun k5=>?_)
  ·refine J3 ?_;refine mE rfl (qn cb t m _ hm hi Cg) ?_;rintro _ _ ⟨m2,hmo,hms,pk,hpk,rfl,rfl⟩
   have hpl:pk.l.length≤20:=(by have h7:=congrArg yc hpk.map;rw [e_]at h7;have h8:=jT hi;omega)
   refine Lm ?_
   refine BL (α:=Nat×Ae) (fun z=>[(53,iN z.1),(52,iN pk.l.length),(51,pk.v),(0,ptr cb 0),(10,.nilIface),(11,.slice p17 q.data.data.toList.length c17),(6,iN 0),(7,uN 0),(8,.string ⟨#[]⟩),(9,.slice z.2.p (((m.s.BE.1).take z.1).map BI).length z.2.c)]) (fun z=>Ae.h z.2 (((m.s.BE.1).take z.1).map BI)*(pk.a.h pk.l*(AM Hg (pk.l.drop z.1)*(Ac cb m2*(AD b17 o17 q.data.data.toList s17*(HP.AA b3 0 (BU q)*R)))))) (fun z=>z.1≤pk.l.length∧z.2.ok (((m.s.BE.1).take z.1).map BI)) (fun z=>pk.l.length-z.1) (0,BP) ⟨p_ _,DX⟩ (.cons rfl OT) (by
    show _=BP.h ([]:List ByteArray)*(pk.a.h pk.l*(AM Hg pk.l*_))
    rw [GN,HP.BA];unfold Dl;ac_rfl) ?_
   rintro⟨i,sk⟩ ⟨hi1,hsk⟩;dsimp only at hi1 hsk⊢;refine J6 ?_;refine mC (fun h54=>?_) (fun h54=>?_)
   ·have hpkm:=hpk.l _ (Ex (d:=AB.AC) h54)
    have hpyl:(pk.l.getD i AB.AC).ys.length<1000000:=by
     have h7:(pk.l.getD i AB.AC).ys∈m.s.BE.1:=by rw [←hpk.map];exact r_.2 ⟨_,Ex h54,rfl⟩
     have:=nK hi _ h7;omega
    have hsl:(((m.s.BE.1).take i).map BI).length≤20:=by rw [e_,h_];have h7:i<pk.l.length:=h54;omega
    refine Aq (H':=Ae.h sk (((m.s.BE.1).take i).map BI)*(pk.a.h pk.l*(AD (pk.l.getD i AB.AC).a.b (pk.l.getD i AB.AC).a.o (pk.l.getD i AB.AC).ys (pk.l.getD i AB.AC).a.s*(AM Hg (pk.l.drop (i+1))*(Ac cb m2*(AD b17 o17 q.data.data.toList s17*(HP.AA b3 0 (BU q)*R))))))) (by
     rw [List.drop_eq_getElem_cons h54,Fx]
     rw [show pk.l.getD i AB.AC=pk.l[i] by rw [b_,c_ h54];rfl]
     unfold Hg
     ac_rfl) ?_
    refine J6 ?_;refine JL (Bm rfl rfl hpk.a.1 h54) ?_;refine JL (Br (v':=.slice (pk.l.getD i AB.AC).a.p (pk.l.getD i AB.AC).ys.length (pk.l.getD i AB.AC).a.c) (DT (f:=0) (xs:=pk.l) rfl inferInstance rfl h54) rfl) ?_;refine J7 ?_;refine JL (Hq rfl hpkm.1 inferInstance) ?_;refine AV (E4 (cs:=[.string (BI (pk.l.getD i AB.AC).ys)]) rfl Cr rfl rfl) rfl ?_;rintro _ _ ⟨b60,rfl,rfl⟩;refine Aw (H':=AD sk.b sk.o (((m.s.BE.1).take i).map BI) sk.s*(HP.AA b60 0 (AE [BI (pk.l.getD i AB.AC).ys])*(AD (pk.l.getD i AB.AC).a.b (pk.l.getD i AB.AC).a.o (pk.l.getD i AB.AC).ys (pk.l.getD i AB.AC).a.s*(pk.a.h pk.l*(AM Hg (pk.l.drop (i+1))*(Ac cb m2*(AD b17 o17 q.data.data.toList s17*(HP.AA b3 0 (BU q)*R)))))))) (by show HP.AA b60 0 [_]*_=_;rw [show AE [BI (pk.l.getD i AB.AC).ys]=[.string (BI (pk.l.getD i AB.AC).ys)]from rfl];unfold Ae.h;ac_rfl) ?_;refine AV (Bf (ys:=[BI (pk.l.getD i AB.AC).ys]) (bb:=b60) (oo:=0) (cc:=1) rfl hsk.1 hsk.2 rfl Bc inferInstance rfl Cs Cg) rfl ?_;rintro _ _ ⟨p61,b61,o61,c61,s61,rfl,hs61,hc61,rfl⟩;refine J5 ?_
    refine Aw (H':=AD (pk.l.getD i AB.AC).a.b (pk.l.getD i AB.AC).a.o (pk.l.getD i AB.AC).ys (pk.l.getD i AB.AC).a.s*(AD b61 o61 (((m.s.BE.1).take i).map BI++[BI (pk.l.getD i AB.AC).ys]) s61*(HP.AA b60 0 (AE [BI (pk.l.getD i AB.AC).ys])*(pk.a.h pk.l*(AM Hg (pk.l.drop (i+1))*(Ac cb m2*(AD b17 o17 q.data.data.toList s17*(HP.AA b3 0 (BU q)*R)))))))) Cm ?_;refine mE rfl (Vm _ _ _ _ _ (pk.l.getD i AB.AC).ys _ _ hpkm.1 rfl Cg) ?_;rintro _ _ ⟨ys63,hys63,rfl⟩;refine Fb ?_
    have hpn:((m.s.BE.1).take (i+1)).map BI=((m.s.BE.1).take i).map BI++[BI (pk.l.getD i AB.AC).ys]:=by
     have h7:(m.s.BE.1)[i]?=some (pk.l.getD i AB.AC).ys:=by
      rw [←hpk.map,x_,c_ h54,b_,c_ h54];rfl
     have h8:i<(m.s.BE.1).length:=by rw [←hpk.map,e_];exact h54
     rw [List.take_succ_eq_append_getElem h8,j'];rw [c_ h8]at h7;rw [Option.some.inj h7];rfl
    refine Au (Ae.h ⟨p61,b61,o61,c61,s61⟩ (((m.s.BE.1).take (i+1)).map BI)*(pk.a.h pk.l*(AM Hg (pk.l.drop (i+1))*(Ac cb m2*(AD b17 o17 q.data.data.toList s17*(HP.AA b3 0 (BU q)*R)))))) (hE:=⟨fun ww hw=>Sat.right (A:=HP.AA b60 0 (AE [BI (pk.l.getD i AB.AC).ys])*AD (pk.l.getD i AB.AC).a.b (pk.l.getD i AB.AC).a.o ys63 (pk.l.getD i AB.AC).a.s) (xx (by congr 1;rw [hpn];unfold Ae.h;ac_rfl) hw)⟩) ?_;exact At (i+1,⟨p61,b61,o61,c61,s61⟩) ⟨h54,by rw [hpn];exact⟨hs61,hc61⟩⟩ (by show pk.l.length-(i+1)<pk.l.length-i;have h7:i<pk.l.length:=h54;omega) (.cons rfl (.cons rfl (.cons rfl (.cons rfl (.cons rfl (.cons rfl (.cons rfl (.cons rfl (.cons rfl (.cons (by rw [hpn];rfl) .nil)))))))))) rfl
   obtain rfl:i=pk.l.length:=by have h7:¬i<pk.l.length:=h54;omega
   obtain⟨psk,hpske⟩:∃psk:Ae,psk=sk:=Bg
   have htk:(m.s.BE.1).take pk.l.length=m.s.BE.1:=by rw [List.take_of_length_le (by rw [←hpk.map,e_];exact g' _)]
   rw [htk]at hsk⊢
   have hpsk:psk.ok (m.s.BE.1.map BI):=by rw [hpske];exact hsk
   rw [←hpske];refine J4 ?_
   have hdo:m.s.Av q=((⟨0,-1,0,0,⟨#[]⟩,m.s.BE.1.map BI⟩:Bd),m2.s):=by
    unfold AL.Av;rw [if_neg k1,if_neg k2,if_neg k3,if_neg k4,if_pos k5];rw [hms]
   exact Au (AD b17 o17 q.data.data.toList s17*(HP.BQ*(Ae.h psk (m.s.BE.1.map BI:List ByteArray)*(Ac cb m2*R)))) (hE:=⟨fun ww hw=>Sat.right (A:=HP.AA b3 0 (BU q)*(pk.a.h pk.l*AM Hg (pk.l.drop pk.l.length))) (xx (by congr 1;rw [HP.BA];ac_rfl) hw)⟩) (AU (m2,HP.BQ,Dt 0,(⟨0,-1,0,0,⟨#[]⟩,m.s.BE.1.map BI⟩:Bd),psk) ⟨hmo,hdo,.of hG 0,hpsk⟩ Hb rfl)
  refine J2 ?_;refine JL (CI (i:=q.kind) (j:=6) rfl rfl) ?_;refine J3 ?_;refine mC (fun k6=>?_) (fun k6=>?_)
  ·refine J3 ?_;refine mE rfl (V! cb t m q.data.data.toList p17 b17 o17 c17 _ hm hi Cg hs17 inferInstance hxl) ?_;rintro ev _ ⟨m2,hmo,hms,her⟩;obtain⟨EH,rfl,heT⟩:=her.t hG;refine J2 ?_
   have hdo:m.s.Av q=((⟨(m.s.BB q.data.data.toList).1.1,(m.s.BB q.data.data.toList).1.2,0,0,⟨#[]⟩,[]⟩:Bd),m2.s):=by
    unfold AL.Av;rw [if_neg k1,if_neg k2,if_neg k3,if_neg k4,if_neg k5,if_pos k6];rw [hms]
   exact Au (AD b17 o17 q.data.data.toList s17*(EH*(Ae.h BP ([]:List ByteArray)*(Ac cb m2*R)))) (hE:=⟨fun ww hw=>Sat.right (A:=HP.AA b3 0 (BU q)) (xx (by congr 1;rw [GN,HP.BA];ac_rfl) hw)⟩) (AU (m2,EH,ev,(⟨(m.s.BB q.data.data.toList).1.1,(m.s.BB q.data.data.toList).1.2,0,0,⟨#[]⟩,[]⟩:Bd),BP) ⟨hmo,hdo,heT,DX⟩ Hb rfl)
  refine J2 ?_;refine JL (CI (i:=q.kind) (j:=7) rfl rfl) ?_;refine J3 ?_;refine mC (fun k7=>?_) (fun k7=>?_)
  ·refine CR ?_;refine mE rfl (U_ cb t m q.stream q.AN _ hm hi Cg hmo2) ?_;rintro _ _ ⟨m2,hmo,sv,hms,rfl,hsv⟩;obtain⟨p78,b78,o78,c78,s78,rfl,hs78,hc78,rfl⟩:=xC hsv;have hrl:=jc hi q.stream q.AN;refine FL ?_;refine JL (Hq rfl hs78 inferInstance) ?_;refine J5 ?_;refine mE rfl (Vm p78 b78 o78 c78 _ (m.s.read q.stream q.AN).1.1 _ _ hs78 rfl Cg) ?_;rintro _ _ ⟨ys86,hys86,rfl⟩;refine J1 ?_
   have hdo:m.s.Av q=((⟨(m.s.read q.stream q.AN).1.2.2.2,-1,(m.s.read q.stream q.AN).1.2.1,(m.s.read q.stream q.AN).1.2.2.1,BI (m.s.read q.stream q.AN).1.1,[]⟩:Bd),m2.s):=by
    unfold AL.Av;rw [if_neg k1,if_neg k2,if_neg k3,if_neg k4,if_neg k5,if_neg k6,if_pos k7];rw [hms]
   exact Au (AD b17 o17 q.data.data.toList s17*(HP.BQ*(Ae.h BP ([]:List ByteArray)*(Ac cb m2*R)))) (hE:=⟨fun ww hw=>Sat.right (A:=HP.AA b3 0 (BU q)*AD b78 o78 ys86 s78) (xx Zw hw)⟩) (AU (m2,HP.BQ,Dt (m.s.read q.stream q.AN).1.2.2.2,(⟨(m.s.read q.stream q.AN).1.2.2.2,-1,(m.s.read q.stream q.AN).1.2.1,(m.s.read q.stream q.AN).1.2.2.1,BI (m.s.read q.stream q.AN).1.1,[]⟩:Bd),BP) ⟨hmo,hdo,.of hG _,DX⟩ Hb rfl)
  refine J2 ?_;refine JL (CI (i:=q.kind) (j:=8) rfl rfl) ?_;refine J3 ?_;refine mC (fun k8=>?_) (fun k8=>?_)
  ·refine J4 ?_;refine mE rfl (et cb m q.code _ hm) ?_;rintro _ _ ⟨m2,hmo,hms,rfl,rfl⟩;refine J2 ?_
   have hdo:m.s.Av q=((⟨(m.s.close q.code).1,-1,0,0,⟨#[]⟩,[]⟩:Bd),m2.s):=by
    unfold AL.Av;rw [if_neg k1,if_neg k2,if_neg k3,if_neg k4,if_neg k5,if_neg k6,if_neg k7,if_pos k8];rw [hms]
   exact Au (AD b17 o17 q.data.data.toList s17*(HP.BQ*(Ae.h BP ([]:List ByteArray)*(Ac cb m2*R)))) (hE:=MT) (AU (m2,HP.BQ,Dt (m.s.close q.code).1,(⟨(m.s.close q.code).1,-1,0,0,⟨#[]⟩,[]⟩:Bd),BP) ⟨hmo,hdo,.of hG _,DX⟩ Hb rfl)
  refine J2 ?_;refine JL (CI (i:=q.kind) (j:=9) rfl rfl) ?_;refine J3 ?_;refine mC (fun k9=>?_) (fun k9=>?_)
  ·refine J4 ?_;refine mE rfl (yQ cb t m q.stream _ hm hi) ?_;refine Ha ?_
   have hdo:m.s.Av q=((⟨(m.s.AF q.stream).2,-1,(m.s.AF q.stream).1,0,⟨#[]⟩,[]⟩:Bd),m.s):=by
    unfold AL.Av;rw [if_neg k1,if_neg k2,if_neg k3,if_neg k4,if_neg k5,if_neg k6,if_neg k7,if_neg k8,if_pos k9]
   exact Au (AD b17 o17 q.data.data.toList s17*(HP.BQ*(Ae.h BP ([]:List ByteArray)*(Ac cb m*R)))) (hE:=MT) (AU (m,HP.BQ,Dt (m.s.AF q.stream).2,(⟨(m.s.AF q.stream).2,-1,(m.s.AF q.stream).1,0,⟨#[]⟩,[]⟩:Bd),BP) ⟨hm,hdo,.of hG _,DX⟩ Hb rfl)
  refine J1 ?_
  have hdo:m.s.Av q=((⟨0,-1,0,0,⟨#[]⟩,[]⟩:Bd),m.s):=by
   unfold AL.Av;rw [if_neg k1,if_neg k2,if_neg k3,if_neg k4,if_neg k5,if_neg k6,if_neg k7,if_neg k8,if_neg k9]
  exact Au (AD b17 o17 q.data.data.toList s17*(HP.BQ*(Ae.h BP ([]:List ByteArray)*(Ac cb m*R)))) (hE:=MT) (AU (m,HP.BQ,Dt 0,(⟨0,-1,0,0,⟨#[]⟩,[]⟩:Bd),BP) ⟨hm,hdo,.of hG 0,DX⟩ Hb rfl)
 ·rintro⟨m2,EH,ev,res,ps⟩ ⟨hmo,hdo,heT,hps⟩;dsimp only at hmo hdo heT hps⊢;refine J5 ?_;refine mE rfl (Vm p17 b17 o17 c17 _ q.data.data.toList s17 _ hs17 rfl Cg) ?_;rintro _ _ ⟨ys103,hys103,rfl⟩;refine J5 ?_;refine Aw (H':=EH*(AD b17 o17 ys103 s17*(ps.h res.BE*(Ac cb m2*R)))) Cm ?_;refine mE rfl (heT.told _) ?_;refine JR ?_;refine df ?_;exact mR [4,5,6,7,8,9] (ps.h res.BE*(Ac cb m2*R)) rfl rfl ⟨m2,ps,hmo,by rw [hdo],by rw [hdo];exact hps,by rw [hdo];rfl,by rw [hdo]⟩
end
structure Hp(w:Ai)(o:CA):Prop where
 b:o.data=w.b
 fin:o.finished=w.finished
 given:o.given=w.given
 code:o.code=w.code
 high:o.high=w.high
 en:w.given=true→o.end_=w.high
 AF:∀n,A3 n o.AF.l↔A3 n w.AF.l
structure Mr(r:Ce)(x:DI):Prop where
 high:x.high=r.high
 en:x.end_=r.end_
 ended:x.ended=r.ended
 given:x.given=r.given
 code:x.code=r.code
 read:x.read=r.read
 state:x.state=r.state
 there:∀n,n<r.high→(x.there.getD n false=true↔A3 n r.AF.l)
 data:r.given=false→∀n,r.read≤n→A3 n r.AF.l→r.b.getD (n-r.read) 0=x.data.getD n 0
structure HZ(c:AL)(s:AK):Prop where
 AY:s.AY=c.AY
 AG:s.AG=c.AG
 ks:s.ks=c.ks
 first:s.first=c.first
 closed:s.closed=c.closed
 code:s.code=c.code
 said:s.said=c.said
 next:s.next=c.next
structure Open(c:AL)(s:AK):Prop where
 AO:s.AO=c.AO
 Ao:∀n,A3 n c.AO.l→A3 n s.Ao.l
 ws:∀k,k<4→Hp (c.w k) (s.o k)
 rs:∀k,k<4→Mr (c.r k) (s.i k)
 f1:∀p,p∈c.BY∨p∈c.lost→(⟨p.number,p.Ap⟩:Kn)∈s.AJ
 f2:∀q∈s.AJ,(∃p,(p∈c.BY∨p∈c.lost)∧p.number=q.number∧p.Ap=q.Ap)∨∀k n,k<4→Ic q.Ap k n→A3 n (c.w k).AF.l
def dF(c:AL)(s:AK):Prop:=∀n∈s.due,c.answer=true∧c.AO.has n
structure Rel(c:AL)(s:AK):Prop where
 base:HZ c s
 GG:c.closed=0→Open c s
 due:c.closed=0→dF c s
theorem RC:Hp BD B':=⟨rfl,rfl,rfl,rfl,rfl,(fun h=>by cases h),fun n=>Iff.rfl⟩
theorem Qp:Mr KQ IF:=⟨rfl,rfl,rfl,rfl,rfl,rfl,rfl,(fun n h=>absurd h (Nat.not_lt_zero n)),fun _ n _ h=>absurd h (Qe n)⟩
theorem Rel.new(AY AG:Nat)(ks:List UInt8)(first:Bool):Rel (.new AY AG ks first) (.new AY AG ks first):=
 ⟨Up,fun _=>⟨rfl,(fun n h=>absurd h (Qe n)),Og RC RC RC RC,Og Qp Qp Qp Qp,
  (fun p h=>by rcases h with h|h<;>cases h),fun q h=>nomatch h⟩,fun _ n h=>nomatch h⟩
theorem am{l l':List AP}{m m':Nat}(h:DQ l)(h':DQ l')(hb:∀r∈l,r.hi<m)(hb':∀r∈l',r.hi<m')(e:∀n,A3 n l'↔A3 n l):(AR 0 m' l').1=(AR 0 m l).1:=by
 obtain⟨a1,a2⟩:=Jv h (p_ m) hb;obtain⟨b1,b2⟩:=Jv h' (p_ m') hb';have c1:=(HM l 0 m h C9).2.1;have c2:=(HM l' 0 m' h' C9).2.1;rcases Nat.lt_trichotomy (AR 0 m' l').1 (AR 0 m l).1 with h1|h1|h1
 ·exact absurd ((e _).2 (c1 _ C9 h1)) b2
 ·exact h1
 ·exact absurd ((e _).1 (c2 _ C9 h1)) a2
theorem Hp.B2{w:Ai}{o:CA}{n m:Nat}(h:Hp w o)(hw:EY n w)(ho:KK m o):o.B2=w.B2:=by
 rw [CA.Sz ho.co.inc o.data.length];exact am hw.co.inc ho.co.inc hw.co.hi ho.co.hi h.AF
theorem fO{c:AL}{k j:Nat}{w:Ai}(hl:c.ws.length=4)(hk:k<4):(c.C4 k w).w j=if k=j then w else c.w j:=by
 show(c.ws.set k w).getD j BD=_;rw [Ed];by_cases e:k=j
 ·subst e;rw [if_pos OB,if_pos rfl]
 ·rw [if_neg (fun h=>e h.1),if_neg e];rfl
theorem nq{c:AL}{k j:Nat}{w:Ce}(hl:c.rs.length=4)(hk:k<4):(c.Bs k w).r j=if k=j then w else c.r j:=by
 show(c.rs.set k w).getD j KQ=_;rw [Ed];by_cases e:k=j
 ·subst e;rw [if_pos OB,if_pos rfl]
 ·rw [if_neg (fun h=>e h.1),if_neg e];rfl
theorem xV{c:AK}{k j:Nat}{w:CA}(hl:c.outs.length=4)(hk:k<4):(c.C0 k w).o j=if k=j then w else c.o j:=by
 show(c.outs.set k w).getD j B'=_;rw [Ed];by_cases e:k=j
 ·subst e;rw [if_pos OB,if_pos rfl]
 ·rw [if_neg (fun h=>e h.1),if_neg e];rfl
theorem ac{c:AK}{k j:Nat}{w:DI}(hl:c.ins.length=4)(hk:k<4):(c.Cb k w).i j=if k=j then w else c.i j:=by
 show(c.ins.set k w).getD j IF=_;rw [Ed];by_cases e:k=j
 ·subst e;rw [if_pos OB,if_pos rfl]
 ·rw [if_neg (fun h=>e h.1),if_neg e];rfl
theorem Open.C4{c:AL}{s:AK}{t t':Nat}(hc:Ak t c)(hs:Ag t' s)(h:Open c s){k:Nat}(hk:k<4){w:Ai}{o:CA}(hr:Hp w o)(hm:∀n,A3 n (c.w k).AF.l→A3 n w.AF.l):Open (c.C4 k w) (s.C0 k o):=by
 refine⟨h.AO,h.Ao,fun j hj=>?_,h.rs,h.f1,fun q hq=>?_⟩
 ·rw [fO hc.ws.len hk,xV hs.outs.len hk];split
  ·exact hr
  ·exact h.ws j hj
 ·rcases h.f2 q hq with g|g
  ·exact .inl g
  ·refine .inr fun j n hj hn=>?_
   have:=g j n hj hn
   rw [fO hc.ws.len hk];split
   ·rename_i e;subst e;exact hm n this
   ·exact this
theorem Open.Bs{c:AL}{s:AK}{t t':Nat}(hc:Ak t c)(hs:Ag t' s)(h:Open c s){k:Nat}(hk:k<4){r:Ce}{x:DI}(hr:Mr r x):Open (c.Bs k r) (s.Cb k x):=by
 refine⟨h.AO,h.Ao,h.ws,fun j hj=>?_,h.f1,h.f2⟩;rw [nq hc.rl hk,ac hs.il hk];split
 ·exact hr
 ·exact h.rs j hj
theorem Pt{c:AL}{s:AK}(h:HZ c s)(k:Int):s.of k=c.stream k:=by
 unfold AK.of AL.stream;rw [h.closed]
theorem Rel.C4{c:AL}{s:AK}{t t':Nat}(hc:Ak t c)(hs:Ag t' s)(h:Rel c s)(h0:c.closed=0){k:Nat}(hk:k<4){w:Ai}{o:CA}(hr:Hp w o)(hm:∀n,A3 n (c.w k).AF.l→A3 n w.AF.l):Rel (c.C4 k w) (s.C0 k o):=
 ⟨⟨h.base.AY,h.base.AG,h.base.ks,h.base.first,h.base.closed,h.base.code,h.base.said,h.base.next⟩,fun _=>(h.GG h0).C4 hc hs hk hr hm,h.due⟩
theorem Rel.Bs{c:AL}{s:AK}{t t':Nat}(hc:Ak t c)(hs:Ag t' s)(h:Rel c s)(h0:c.closed=0){k:Nat}(hk:k<4){r:Ce}{x:DI}(hr:Mr r x):Rel (c.Bs k r) (s.Cb k x):=
 ⟨⟨h.base.AY,h.base.AG,h.base.ks,h.base.first,h.base.closed,h.base.code,h.base.said,h.base.next⟩,fun _=>(h.GG h0).Bs hc hs hk hr,h.due⟩
theorem wW{c:AL}{s:AK}{t t':Nat}(hc:Ak t c)(hs:Ag t' s)(h:Rel c s)(k:Int)(xs:List UInt8):(s.write k xs).1=(c.write k xs).1∧Rel (c.write k xs).2 (s.write k xs).2:=by
 unfold AK.write AL.write AL.E9;rw [Pt h.base];by_cases h1:c.stream k≠0
 ·rw [if_pos h1,if_pos h1,if_pos h1];exact Ep
 ·rw [if_neg h1,if_neg h1];obtain⟨h0,_,hk⟩:=K9 (by omega:c.stream k=0);have g:=(h.GG h0).ws _ hk;rw [g.fin,g.given];by_cases h2:(c.w k.toNat).finished=true∨(c.w k.toNat).given=true
  ·rw [if_pos h2,if_pos h2];rw [if_pos (show(3:Nat)≠0 by decide)];exact Ep
  ·rw [if_neg h2,if_neg h2];rw [if_neg (show ¬(0:Nat)≠0 by decide)]
   have e:s.GL k.toNat xs.length=c.GL k.toNat xs.length:=by
    unfold AK.GL AL.GL;rw [g.B2 (hc.ws.ok _ hk) (hs.outs.ok _ hk),g.b,h.base.AG]
   refine⟨by rw [e],?_⟩;rw [e];exact h.C4 hc hs h0 hk ⟨by show(s.o k.toNat).data++_=_;rw [g.b],g.fin,g.given,g.code,g.high,g.en,g.AF⟩ (fun _=>id)
theorem ii{c:AL}{s:AK}{t t':Nat}(hc:Ak t c)(hs:Ag t' s)(h:Rel c s)(k:Int):(s.finish k).1=(c.finish k).1∧Rel (c.finish k).2 (s.finish k).2:=by
 unfold AK.finish AL.finish AL.E9;rw [Pt h.base];by_cases h1:c.stream k≠0
 ·rw [if_pos h1,if_pos h1,if_pos h1];exact Ep
 ·rw [if_neg h1,if_neg h1];obtain⟨h0,_,hk⟩:=K9 (by omega:c.stream k=0);have g:=(h.GG h0).ws _ hk;rw [g.fin,g.given];by_cases h2:(c.w k.toNat).finished=true∨(c.w k.toNat).given=true
  ·rw [if_pos h2,if_pos h2];rw [if_pos (show(3:Nat)≠0 by decide)];exact Ep
  ·rw [if_neg h2,if_neg h2];rw [if_neg (show ¬(0:Nat)≠0 by decide)];exact⟨rfl,h.C4 hc hs h0 hk ⟨g.b,rfl,g.given,g.code,g.high,g.en,g.AF⟩ (fun _=>id)⟩
theorem zU{c:AL}{s:AK}{t t':Nat}(hc:Ak t c)(hs:Ag t' s)(h:Rel c s)(k:Int)(code:Nat):(s.giveUp k code).1=(c.giveUp k code).1∧Rel (c.giveUp k code).2 (s.giveUp k code).2:=by
 unfold AK.giveUp AL.giveUp;rw [Pt h.base];by_cases h1:c.stream k≠0
 ·rw [if_pos h1,if_pos h1];exact Ep
 ·rw [if_neg h1,if_neg h1];obtain⟨h0,_,hk⟩:=K9 (by omega:c.stream k=0);have g:=(h.GG h0).ws _ hk;rw [g.given];by_cases h2:(c.w k.toNat).given=true∨4611686018427387903<code
  ·rw [if_pos h2,if_pos h2];exact Ep
  ·rw [if_neg h2,if_neg h2];exact⟨rfl,h.C4 hc hs h0 hk ⟨g.b,g.fin,rfl,rfl,g.high,fun _=>g.high,g.AF⟩ (fun _=>id)⟩
theorem oc{c:AL}{s:AK}{t t':Nat}(hc:Ak t c)(hs:Ag t' s)(h:Rel c s)(k:Int):s.AF k=c.AF k:=by
 unfold AK.AF AL.AF;rw [Pt h.base];by_cases h1:c.stream k≠0
 ·rw [if_pos h1,if_pos h1]
 ·rw [if_neg h1,if_neg h1];obtain⟨h0,_,hk⟩:=K9 (by omega:c.stream k=0);rw [((h.GG h0).ws _ hk).B2 (hc.ws.ok _ hk) (hs.outs.ok _ hk)]
theorem wH{c:AL}{s:AK}(h:Rel c s)(code:Nat):(s.close code).1=(c.close code).1∧Rel (c.close code).2 (s.close code).2:=by
 unfold AK.close AL.close;rw [h.base.closed];split
 ·exact Ep
 split
 ·exact Ep
 ·exact Y3
theorem Open.GY{c:AL}{s:AK}{t:Nat}(hc:Ak t c)(h:Open c s)(lost:EN→Bool):Open (c.GY lost) s:=by
 obtain⟨a,b,e⟩:=UL (c.BY.filter lost) c.ws hc.ws (fun p hp f hf=>(hc.A5 p (.inl (g_.1 hp).1)).fr f hf);have hw:∀k,(c.GY lost).w k=((c.BY.filter lost).foldl M9 c.ws).getD k BD:=fun k=>rfl
 have hmem:∀p,(p∈(c.GY lost).BY∨p∈(c.GY lost).lost)↔(p∈c.BY∨p∈c.lost):=by
  intro p;show(p∈c.BY.filter (fun p=> !lost p)∨p∈c.lost++c.BY.filter lost)↔_;rw [j_,g_,g_];cases lost p
  ·simp
  ·simp only [Bool.not_true,Bool.false_eq_true,and_false,and_true,false_or];exact or_comm
 refine⟨h.AO,h.Ao,fun k hk=>?_,h.rs,fun p hp=>h.f1 p ((hmem p).1 hp),fun q hq=>?_⟩
 ·have g:=h.ws k hk;have sm:=b.same k;rw [hw];have e':=e k;exact⟨by rw [sm.b];exact g.b,by rw [sm.finished];exact g.fin,by rw [sm.given];exact g.given,by rw [sm.code];exact g.code,by rw [sm.high];exact g.high,by rw [sm.given,sm.high];exact g.en,by rw [e'];exact g.AF⟩
 ·rcases h.f2 q hq with⟨p,hp,g⟩|g
  ·exact .inl ⟨p,(hmem p).2 hp,g⟩
  ·refine .inr fun k n hk hn=>?_;rw [hw,e k];exact g k n hk hn
theorem y7{c:AL}{s:AK}{t:Nat}(hc:Ak t c)(h:Rel c s):Rel c.tick s:=by
 have h1:Ak (t+1) {c with now:=c.now+1}:=
  {hc.mono De with nw:=by have:=hc.nw;show c.now+1≤t+1;omega,A5:=fun p hp=>let g:=hc.A5 p hp;⟨g.num,Nat.le_succ_of_le g.at_,g.len,g.fr⟩}
 unfold AL.tick;split
 ·refine⟨⟨h.base.AY,h.base.AG,h.base.ks,h.base.first,h.base.closed,h.base.code,h.base.said,h.base.next⟩,fun h0=>?_,h.due⟩;have g:=h.GG h0
  have:=Open.GY h1 (s:=s) ⟨g.AO,g.Ao,g.ws,g.rs,g.f1,g.f2⟩ (fun _=>true)
  exact⟨this.AO,this.Ao,this.ws,this.rs,this.f1,this.f2⟩
 ·refine⟨⟨h.base.AY,h.base.AG,h.base.ks,h.base.first,h.base.closed,h.base.code,h.base.said,h.base.next⟩,fun h0=>?_,h.due⟩;have g:=h.GG h0;exact⟨g.AO,g.Ao,g.ws,g.rs,g.f1,g.f2⟩
theorem pd{AG:Nat}{outs:List CA}{f:AZ}(h:GB AG outs)(hf:FV outs f)(k n:Nat):
  A3 n ((G5 outs f).getD k B').AF.l↔A3 n (outs.getD k B').AF.l∨(f.kind=5∧0<f.data.size∧f.stream.toNat=k∧f.offset≤n∧n<f.offset+f.data.size):=by
 have hk4:f.stream.toNat<4:=by have:=hf.1;have:=hf.2.1;omega
 unfold G5;split
 ·rename_i hc;have g:=h.ok _ hk4;have hb:=hf.2.2 hc.1;have hcl:=g.Us;have hcm:=g.cm;unfold Oo at hcm;obtain⟨_,_,e⟩:=QO (lo:=f.offset) (hi:=f.offset+f.data.size-1) g.co g.cf Cg Cg Cg;rw [Ed];by_cases e2:f.stream.toNat=k
  ·subst e2;rw [if_pos ⟨rfl,by rw [h.len];exact hk4⟩];show A3 n ((outs.getD f.stream.toNat B').AF.add f.offset (f.offset+f.data.size-1)).l↔_;rw [e n];constructor
   ·rintro(g1|g1)
    ·exact .inr ⟨hc.1,hc.2,rfl,g1.1,Cg⟩
    ·exact .inl g1
   ·rintro(g1|⟨g1,g2,g3,g4,g5⟩)
    ·exact .inr g1
    ·exact .inl ⟨g4,Cg⟩
  ·rw [if_neg (fun h=>e2 h.1)];exact⟨.inl,fun h=>by rcases h with h|h;exact h;exact absurd h.2.2.1 e2⟩
 ·rename_i hc;exact⟨.inl,fun h=>by rcases h with h|h;exact h;exact absurd ⟨h.1,h.2.1⟩ hc⟩
theorem Yi{AG:Nat}:∀(fs:List AZ) (outs:List CA),GB AG outs→(∀f∈fs,FV outs f)→∀k n,
  (A3 n ((fs.foldl G5 outs).getD k B').AF.l↔A3 n (outs.getD k B').AF.l∨Ic fs k n)
 |[],outs,h,_,k,n=>⟨.inl,fun h=>by rcases h with h|h;exact h;exact absurd h (cV _ _)⟩
 |f::fs,outs,h,hf,k,n=>by
  obtain⟨a,b⟩:=lF h (hf f Cl);rw [ye,Yi fs _ a (fun g hg=>(hf g IP).same b) k n,pd h (hf f Cl),Zl,or_assoc]
theorem fD{AG:Nat}{l:List AP}:∀(ps:List Kn) (outs:List CA),GB AG outs→(∀p∈ps,∀f∈p.Ap,FV outs f)→∀k n,
  (A3 n ((ps.foldl (Gl l) outs).getD k B').AF.l↔A3 n (outs.getD k B').AF.l∨∃p∈ps,A8 l p.number=true∧Ic p.Ap k n)
 |[],outs,h,_,k,n=>⟨.inl,fun h=>by rcases h with h|⟨p,h,_⟩;exact h;cases h⟩
 |p::ps,outs,h,hf,k,n=>by
  obtain⟨a,b⟩:=qV (l:=l) h (hf p Cl);rw [ye,fD ps _ a (fun q hq g hg=>(hf q NO g hg).same b) k n]
  have e:A3 n ((Gl l outs p).getD k B').AF.l↔A3 n (outs.getD k B').AF.l∨(A8 l p.number=true∧Ic p.Ap k n):=by
   unfold Gl;split
   ·rename_i hc;rw [Yi _ _ h (hf p Cl) k n];simp [hc]
   ·rename_i hc;simp [hc]
  rw [e];constructor
  ·rintro((g|g)|⟨q,hq,g⟩)
   ·exact .inl g
   ·exact .inr ⟨p,Cl,g⟩
   ·exact .inr ⟨q,NO,g⟩
  ·rintro(g|⟨q,hq,g⟩)
   ·exact .inl (.inl g)
   ·rcases List.mem_cons.1 hq with rfl|hq
    ·exact .inl (.inr g)
    ·exact .inr ⟨q,hq,g⟩
theorem Open.Dj{c:AL}{s:AK}{t t':Nat}(hc:Ak t c)(hs:Ag t' s)(h:Open c s)(l:List AP)(hl:(rg l 0).hi<c.next):Open ((c.HF l).GY (fun p=>decide (p.number+3≤(c.HF l).Bq))) (s.Dj l):=by
 obtain⟨a1,a2,a3⟩:=hc.HF l hl;obtain⟨b1,b2⟩:=ST (l:=l) s.AJ s.outs hs.outs (fun p hp f hf=>(hs.AJ p hp).fr f hf);have b3:=fD (l:=l) s.AJ s.outs hs.outs (fun p hp f hf=>(hs.AJ p hp).fr f hf);refine Open.GY a1 ?_ _;refine⟨h.AO,h.Ao,fun k hk=>?_,h.rs,fun p hp=>h.f1 p ?_,fun q hq=>?_⟩
 ·have g:=h.ws k hk;have sm:=a2.same k;have so:=b2 k;refine⟨?_,?_,?_,?_,?_,fun hg=>?_,fun n=>?_⟩
  ·exact so.data.trans (g.b.trans sm.b.symm)
  ·exact so.finished.trans (g.fin.trans sm.finished.symm)
  ·exact so.given.trans (g.given.trans sm.given.symm)
  ·exact so.code.trans (g.code.trans sm.code.symm)
  ·exact so.high.trans (g.high.trans sm.high.symm)
  ·have e1:(c.w k).given=true:=by rw [←hg];exact sm.given.symm
   exact so.end_.trans ((g.en e1).trans sm.high.symm)
  ·rw [show A3 n ((s.Dj l).o k).AF.l↔_ from b3 k n,a3 k n];constructor
   ·rintro(g1|⟨q,hq,g1,g2⟩)
    ·exact .inl ((g.AF n).1 g1)
    ·rcases h.f2 q hq with⟨p,hp,e1,e2⟩|g3
     ·exact .inr ⟨p,hp.symm,by rw [e1];exact g1,by rw [e2];exact g2⟩
     ·exact .inl (g3 k n hk g2)
   ·rintro(g1|⟨p,hp,g1,g2⟩)
    ·exact .inl ((g.AF n).2 g1)
    ·exact .inr ⟨_,h.f1 p hp.symm,g1,g2⟩
 ·rcases hp with hp|hp
  ·exact SK
  ·exact .inr (g_.1 hp).1
 ·rcases h.f2 q hq with⟨p,hp,e1,e2⟩|g3
  ·by_cases hin:A8 l p.number=true
   ·refine .inr fun k n hk hn=>(a3 k n).2 (.inr ⟨p,hp.symm,hin,by rw [e2];exact hn⟩)
   ·refine .inl ⟨p,?_,e1,e2⟩
    have hin':(!A8 l p.number)=true:=by simpa using hin
    rcases hp with hp|hp
    ·exact .inl (g_.2 ⟨hp,hin'⟩)
    ·exact .inr (g_.2 ⟨hp,hin'⟩)
  ·exact .inr fun k n hk hn=>(a3 k n).2 (.inl (g3 k n hk hn))
theorem VB{α:Type}{l m:List α}{n:Nat}{d:α}:(l++m).getD n d=if n<l.length then l.getD n d else m.getD (n-l.length) d:=by
 simp only [b_,List.getElem?_append];split<;>rfl
theorem lq{α:Type}{m n:Nat}{d:α}:(d_ m d).getD n d=d:=by
 simp only [b_,List.getElem?_replicate];split<;>rfl
theorem Xs:∀(ds:List UInt8) (off:Nat) (data:List UInt8) (there:List Bool) (n:Nat),off+ds.length≤data.length→there.length=data.length→
  (GR ds off data there).2.getD n false=(there.getD n false||decide (off≤n∧n<off+ds.length))∧
  (GR ds off data there).1.getD n 0=if there.getD n false=false∧off≤n∧n<off+ds.length then ds.getD (n-off) 0 else data.getD n 0
 |[],off,data,there,n,h,he=>by
  rw [GR]
  have:¬(off≤n∧n<off+([]:List UInt8).length):=by rw [List.length_nil];omega
  refine⟨by rw [decide_eq_false this,Bool.or_false],by rw [if_neg (fun h=>this h.2)]⟩
 |d::ds,off,data,there,n,h,he=>by
  rw [o_]at h;rw [GR];by_cases ht:there.getD off false=true
  ·rw [if_pos ht];obtain⟨a,b⟩:=Xs ds (off+1) data there n Cg he;rw [a,b];by_cases hn:n=off
   ·subst hn;rw [ht]
    simp
   ·have e1:(off+1≤n∧n<off+1+ds.length)↔(off≤n∧n<off+(d::ds).length):=by rw [o_];omega
    refine⟨by simp only [e1],?_⟩;simp only [e1];split
    ·rename_i hc
     have:n-off=(n-(off+1))+1:=by omega
     rw [this];rfl
    ·rfl
  ·rw [if_neg ht];obtain⟨a,b⟩:=Xs ds (off+1) (data.set off d) (there.set off true) n (by rw [xt];omega) (by rw [xt,xt];exact he);rw [a,b];by_cases hn:n=off
   ·subst hn
    have ht':there.getD n false=false:=by simpa using ht
    have g1:(there.set n true).getD n false=true:=by rw [Ed,if_pos OB]
    have g2:(data.set n d).getD n 0=d:=by rw [Ed,if_pos OB]
    rw [g1,g2]
    have:¬(n+1≤n∧n<n+1+ds.length):=by omega
    rw [if_neg (fun h=>this h.2),ht',o_];refine⟨Cl,?_⟩;rw [if_pos ⟨rfl,Cg,Cg⟩,q'];rfl
   ·have e1:(off+1≤n∧n<off+1+ds.length)↔(off≤n∧n<off+(d::ds).length):=by rw [o_];omega
    have g1:(there.set off true).getD n false=there.getD n false:=by rw [Ed,if_neg (fun h=>hn h.1.symm)]
    have g2:(data.set off d).getD n 0=data.getD n 0:=by rw [Ed,if_neg (fun h=>hn h.1.symm)]
    rw [g1,g2];refine⟨by simp only [e1],?_⟩;simp only [e1];split
    ·rename_i hc
     have:n-off=(n-(off+1))+1:=by omega
     rw [this];rfl
    ·rfl
theorem vQ{AG t t':Nat}{r:Ce}{x:DI}(hr:GK AG t r)(hx:HE AG t' x)(hwi:AG≤1024)(h:Mr r x)(f:AZ)(hb:r.given=false→f.offset+f.data.size≤r.read+AG):
  (x.bytes f).1=(r.data f).1∧Mr (r.data f).2 (x.bytes f).2:=by
 unfold DI.bytes Ce.data;rw [h.ended,h.en,h.high,h.given];by_cases h1:Ma r.ended r.end_ r.high f
 ·rw [if_pos h1,if_pos h1];exact Ep
 rw [if_neg h1,if_neg h1];by_cases h2:r.given=true
 ·rw [if_pos h2,if_pos h2];exact Ep
 rw [if_neg h2,if_neg h2]
 have hg:r.given=false:=by simpa using h2
 have hle:=hb hg;obtain⟨a1,a2,a3,a4,a5,a6⟩:=r.rY hr hwi f hg hle;have hdl:=hx.dl;have htl:=hx.tl;have hl:=hr.len hg;have hrh:=hr.rh;have hrw:=hr.hw;have hxh:=h.high
 have hp:=fun n=>Xs f.data.data.toList f.offset (x.data++d_ (max x.high (f.offset+f.data.size)-x.data.length) 0) (x.there++d_ (max x.high (f.offset+f.data.size)-x.data.length) false) n (by rw [a_,m_,N8];omega) (by rw [a_,a_,m_,m_];omega)
 have ht0:∀n,n<max r.high (f.offset+f.data.size)→((x.there++d_ (max x.high (f.offset+f.data.size)-x.data.length) false).getD n false=true↔A3 n r.AF.l):=by
  intro n hn;rw [VB];split
  ·exact h.there n Cg
  ·rw [lq];refine⟨fun h=>Xv,fun⟨q,hq,hq2⟩=>?_⟩
   have:=hr.co.hi q hq;omega
 refine⟨rfl,⟨?_,?_,?_,h.given,h.code,h.read,h.state,fun n hn=>?_,fun _ n hn hin=>?_⟩⟩
 ·show max x.high _=max r.high _;rw [h.high]
 ·show(if f.fin=true then _ else x.end_)=_;rw [h.en];rfl
 ·show(x.ended||f.fin)=_;rw [h.ended];rfl
 ·have hn':n<max r.high (f.offset+f.data.size):=hn;show(x.put f).2.getD n false=true↔A3 n (r.filled f).2.l;unfold DI.put;rw [(hp n).1,a5 n,Bool.or_eq_true,ht0 n hn',decide_eq_true_eq,N8];constructor
  ·rintro(g|g)
   ·exact .inl g
   ·by_cases hc:r.read≤n
    ·exact .inr Cg
    ·exact .inl (hr.pre n Cg)
  ·rintro(g|g)
   ·exact .inl g
   ·exact .inr Cg
 ·have hn':r.read≤n:=hn;have hin':A3 n (r.filled f).2.l:=hin
  have hnh:n<max r.high (f.offset+f.data.size):=by
   obtain⟨q,hq,hq2⟩:=hin'
   have:=a1.hi q hq;omega
  show(r.filled f).1.getD (n-r.read) 0=(x.put f).1.getD n 0;unfold DI.put;rw [(hp n).2,a6 n hn' hnh,N8];by_cases hc:A3 n r.AF.l
  ·have e1:(x.there++d_ (max x.high (f.offset+f.data.size)-x.data.length) false).getD n false=true:=(ht0 n hnh).2 hc
   have hnr:n<r.high:=by obtain⟨q,hq,hq2⟩:=hc;have:=hr.co.hi q hq;omega
   rw [if_neg (fun h=>h.2.2 hc),if_neg (fun h=>by rw [e1]at h;cases h.1),VB,VB,if_pos Cg,if_pos Cg];exact h.data hg n hn' hc
  ·have e1:(x.there++d_ (max x.high (f.offset+f.data.size)-x.data.length) false).getD n false=false:=by
    cases e:(x.there++d_ (max x.high (f.offset+f.data.size)-x.data.length) false).getD n false
    ·rfl
    ·exact absurd ((ht0 n hnh).1 e) hc
   rcases(a5 n).1 hin' with g|g
   ·exact absurd g hc
   ·rw [if_pos ⟨g.1,g.2,hc⟩,if_pos ⟨e1,Cg,g.2⟩]
theorem HZ.take{c:AL}{s:AK}(h:HZ c s)(f:AZ):HZ (c.take f).2 (s.take f).2:=by
 have hc:(c.take f).2.AY=c.AY∧(c.take f).2.AG=c.AG∧(c.take f).2.ks=c.ks∧(c.take f).2.first=c.first∧(c.take f).2.closed=c.closed∧(c.take f).2.code=c.code∧(c.take f).2.said=c.said∧(c.take f).2.next=c.next:=by
  unfold AL.take AL.Dj
  repeat' split
  all_goals exact Up
 have hs:(s.take f).2.AY=s.AY∧(s.take f).2.AG=s.AG∧(s.take f).2.ks=s.ks∧(s.take f).2.first=s.first∧(s.take f).2.closed=s.closed∧(s.take f).2.code=s.code∧(s.take f).2.said=s.said∧(s.take f).2.next=s.next:=by
  unfold AK.take
  repeat' split
  all_goals exact Up
 obtain⟨c1,c2,c3,c4,c5,c6,c7,c8⟩:=hc;obtain⟨s1,s2,s3,s4,s5,s6,s7,s8⟩:=hs;exact⟨by rw [s1,c1,h.AY],by rw [s2,c2,h.AG],by rw [s3,c3,h.ks],by rw [s4,c4,h.first],by rw [s5,c5,h.closed],by rw [s6,c6,h.code],by rw [s7,c7,h.said],by rw [s8,c8,h.next]⟩
theorem xL(c:AL)(f:AZ):(c.take f).2.closed=c.closed∧(c.take f).2.AO=c.AO∧(c.take f).2.answer=c.answer:=by
 unfold AL.take AL.Dj
 repeat' split
 all_goals exact⟨rfl,rfl,rfl⟩
theorem xU{c:AL}{s:AK}{t t':Nat}(hc:Ak t c)(hs:Ag t' s)(hb:HZ c s)(h:Open c s)(f:AZ)(hf:E1 f)(hbz:¬c.busy f):
  (s.take f).1=(c.take f).1∧Open (c.take f).2 (s.take f).2:=by
 have hk4:f.stream.toNat<4:=by have:=hf.1;have:=hf.2.1;omega
 have g:=h.rs _ hk4;unfold AK.take AL.take;by_cases h3:f.kind=3
 ·rw [if_pos h3,if_pos h3];unfold AL.Dj;rw [hb.next];by_cases hn:c.next≤(rg f.ranges 0).hi
  ·rw [if_pos hn,if_pos hn];exact Ep
  ·rw [if_neg hn,if_neg hn];exact⟨rfl,h.Dj hc hs f.ranges Cg⟩
 rw [if_neg h3,if_neg h3];by_cases h4:f.kind=4
 ·rw [if_pos h4,if_pos h4,g.ended,g.en,g.high];split
  ·exact Ep
  ·refine⟨rfl,h.Bs hc hs hk4 ⟨g.high,rfl,rfl,rfl,?_,g.read,g.state,g.there,(fun h=>by cases h)⟩⟩;show(if(s.i f.stream.toNat).given=true then(s.i f.stream.toNat).code else f.code)=_;rw [g.given,g.code]
 rw [if_neg h4,if_neg h4];by_cases h5:f.kind=5
 ·rw [if_pos h5,if_pos h5];have hwi:=hc.w2
  have:=vQ (hc.rs _ hk4) (by have:=hs.ins _ hk4;rw [hb.AG]at this;exact this) hwi g f (fun hg=>by
   rcases Nat.lt_or_ge ((c.r f.stream.toNat).read+c.AG) (f.offset+f.data.size)with h6|h6
   ·exact absurd ⟨h5,hg,h6⟩ hbz
   ·exact h6)
  exact⟨this.1,h.Bs hc hs hk4 this.2⟩
 rw [if_neg h5,if_neg h5];split
 ·exact Ep
 ·exact Ep
theorem zN{number:Nat}{due:List Nat}{f:AZ}{n:Nat}(h:n∈EX number due f):n∈due∨(n=number∧f.kind≠3∧f.kind≠1):=by
 unfold EX at h;split at h
 ·rename_i hc;rcases j_.1 h with h|h
  ·exact .inl h
  ·exact .inr ⟨f_.1 h,hc.1,hc.2.1⟩
 ·exact .inl h
theorem u4{c c':AL}{f:AZ}(b:∀k,Hn (c.r k) (c'.r k))(e:c'.AG=c.AG)(h:¬c.busy f):¬c'.busy f:=by
 rintro⟨k1,k2,k3⟩;obtain⟨b1,b2,b3⟩:=b f.stream.toNat;refine h ⟨k1,?_,by rw [←b1,←e];exact k3⟩;cases e2:(c.r f.stream.toNat).given
 ·rfl
 ·rw [b3 e2]at k2;cases k2
theorem V'{c:AL}{s:AK}{t':Nat}(hs:Ag t' s)(hb:HZ c s)(h:Open c s){f:AZ}(hf:E1 f):s.busy f↔c.busy f:=by
 have hk4:f.stream.toNat<4:=by have:=hf.1;have:=hf.2.1;omega
 have g:=h.rs _ hk4;unfold AK.busy AL.busy;rw [g.given,g.read,hb.AG];constructor
 ·rintro⟨a,b,d,e⟩;exact⟨a,d,e⟩
 ·rintro⟨a,d,e⟩;refine⟨a,fun h2=>?_,d,e⟩
  have:=(hs.ins _ hk4).Jg h2
  have e2:(s.i f.stream.toNat).given=(c.r f.stream.toNat).given:=g.given;rw [e2,d]at this;cases this
theorem Zt{t number:Nat}:∀(fs:List AZ) (c:AL) (s:AK),Ak t c→Ag (t+1) s→Hm t number s.due→HZ c s→Open c s→dF c s→c.closed=0→c.AO.has number→(∀f∈fs,E1 f∧¬c.busy f)→
  (s.Bt number fs).1=(c.Bt fs).1∧Rel (c.Bt fs).2 (s.Bt number fs).2
 |[],c,s,hc,hs,hd,hb,h,hdu,h0,hg,hf=>⟨rfl,hb,fun _=>h,fun _=>hdu⟩
 |f::fs,c,s,hc,hs,hd,hb,h,hdu,h0,hg,hf=>by
  obtain⟨hf1,hf2⟩:=hf f Cl;obtain⟨a1,a2,a3⟩:=hc.take f hf1 hf2;obtain⟨b1,b2,b3⟩:=hs.take f hf1 (fun hx=>hf2 ((V' hs hb h hf1).1 hx));obtain⟨e1,e2⟩:=xU hc hs hb h f hf1 hf2;have e3:=hb.take f;obtain⟨k1,k2,k3⟩:=xL c f;rw [AK.Bt,AL.Bt,e1];by_cases hz:(c.take f).1≠0
  ·rw [if_pos hz,if_pos hz];refine⟨rfl,⟨e3.AY,e3.AG,e3.ks,e3.first,rfl,rfl,rfl,e3.next⟩,fun h=>absurd h hz,fun h=>absurd h hz⟩
  ·rw [if_neg hz,if_neg hz]
   have hdl:(EX number (s.take f).2.due f).length≤t+1:=by rw [PU];exact(hd.step f).le
   have a1':Ak t {(c.take f).2 with answer:=(c.take f).2.answer||(decide (f.kind≠3)&&decide (f.kind≠1))}:={a1 with}
   have b1':Ag (t+1) {(s.take f).2 with due:=EX number (s.take f).2.due f}:={b1 with due:=hdl}
   refine Zt fs _ _ a1' b1' ?_ ⟨e3.AY,e3.AG,e3.ks,e3.first,e3.closed,e3.code,e3.said,e3.next⟩ ⟨e2.AO,e2.Ao,e2.ws,e2.rs,e2.f1,e2.f2⟩ ?_ (k1.trans h0) (by show(c.take f).2.AO.has number;rw [k2];exact hg) ?_
   ·show Hm t number (EX number (s.take f).2.due f);rw [PU];exact hd.step f
   ·intro n hn;have hn':n∈EX number (s.take f).2.due f:=hn;rw [PU]at hn';show((c.take f).2.answer||(decide (f.kind≠3)&&decide (f.kind≠1)))=true∧(c.take f).2.AO.has n;rw [k2,k3];rcases zN hn' with hn'|⟨rfl,g1,g2⟩
    ·obtain⟨d1,d2⟩:=hdu n hn';exact⟨by rw [d1];rfl,d2⟩
    ·exact⟨by simp [g1,g2],hg⟩
   ·intro g hg';obtain⟨g1,g2⟩:=hf g (by simp [hg']);refine⟨g1,?_⟩
    have:=u4 a2 a3 g2
    exact this
theorem N? {c:AL}{s:AK}{t:Nat}(hc:Ak t c)(hs:Ag t s)(ht:t<1000000000)(h:Rel c s)(p:List UInt8):(s.BB p).1=(c.BB p).1∧Rel (c.BB p).2 (s.BB p).2:=by
 unfold AK.BB AL.BB;have hcl:=h.base.closed;by_cases h0:c.closed≠0
 ·rw [if_pos h0,if_pos (by rw [hcl];exact h0)];exact Ep
 rw [if_neg h0,if_neg (by rw [hcl];exact h0)]
 have h0:c.closed=0:=by omega
 have g:=h.GG h0
 have eo:Bj s.ks (BM (!s.first)) p=Bj c.ks (BM (!c.first)) p:=by rw [h.base.ks,h.base.first]
 rw [eo]
 cases e:Bj c.ks (BM (!c.first)) p with
 |none=>exact Ep
 |some z=>
  obtain⟨number,b⟩:=z;dsimp only;rw [g.AO];by_cases hh:c.AO.has number.toNat
  ·rw [if_pos hh,if_pos hh];exact Ep
  rw [if_neg hh,if_neg hh]
  cases e2:DZ b with
  |error at_=>exact Y3
  |ok fs=>
   dsimp only;have hfs:∀f∈fs,E1 f:=fun f hf=>E1.of (Ks e2 f hf)
   have hbz:(∃f∈fs,s.busy f)↔(∃f∈fs,c.busy f):=⟨fun⟨f,h1,h2⟩=>⟨f,h1,(V' hs h.base g (hfs f h1)).1 h2⟩,fun⟨f,h1,h2⟩=>⟨f,h1,(V' hs h.base g (hfs f h1)).2 h2⟩⟩
   by_cases hb:∃f∈fs,c.busy f
   ·rw [if_pos hb,if_pos (hbz.2 hb)];exact Ep
   rw [if_neg hb,if_neg (fun h=>hb (hbz.1 h))]
   have hnum:number.toNat<4611686018427387904:=by have:=(Js e).2.2;omega
   have ho:C2 (c.AO.add number.toNat number.toNat) 4611686018427387904∧_:=hc.AO.add _ _ hnum (by rw [hc.gm];omega)
   have hc1:Ak t {c with AO:=c.AO.add number.toNat number.toNat}:={hc with AO:=ho.1,gm:=ho.2.trans hc.gm}
   have hs1:=hs.QB hnum ht;rw [g.AO]at hs1;have hel:=hs.el;have hem:=hs.em;unfold Oo at hem;obtain⟨_,_,em⟩:=QO (lo:=number.toNat) (hi:=number.toNat) hs.Ao hs.ef D3 hnum Cg;have hadd:∀n,c.AO.has n→(c.AO.add number.toNat number.toNat).has n:=fun n hn=>BH.has_add hc.AO (.inl hn)
   have:=Zt (t:=t) (number:=number.toNat) fs {c with AO:=c.AO.add number.toNat number.toNat} {s with AO:=c.AO.add number.toNat number.toNat,Ao:=s.Ao.add number.toNat number.toNat} hc1 hs1 (.inl hs.due) ⟨h.base.AY,h.base.AG,h.base.ks,h.base.first,h.base.closed,h.base.code,h.base.said,h.base.next⟩ ⟨rfl,fun n hn=>?_,g.ws,g.rs,g.f1,g.f2⟩ (fun n hn=>⟨(h.due h0 n hn).1,hadd n (h.due h0 n hn).2⟩) h0 (BH.has_add hc.AO (.inr ⟨g' _,g' _⟩)) (fun f hf=>⟨hfs f hf,fun hx=>hb ⟨f,hf,hx⟩⟩)
   ·exact⟨by rw [this.1],this.2⟩
   ·rcases BH.aw (show A3 n (c.AO.add number.toNat number.toNat).l from hn)with g1|g1
    ·exact(em n).2 (.inr (g.Ao n g1))
    ·exact(em n).2 (.inl g1)
theorem gK{there:List Bool}{high:Nat}{l:List AP}(hI:DQ l)(hb:∀r∈l,r.hi<high)(ht:∀n,n<high→(there.getD n false=true↔A3 n l)){read:Nat}(hr:read≤high):
  ∀(m a:Nat),read≤a→a≤(AR read high l).1→GQ there high m a=min ((AR read high l).1-a) m
 |0,a,h1,h2=>by rw [GQ];omega
 |m+1,a,h1,h2=>by
  obtain⟨g1,g2⟩:=Jv hI hr hb;have g3:=(HM l read high hI hr).2.1;rw [GQ];by_cases ha:a<(AR read high l).1
  ·rw [if_pos ⟨Cg,(ht a Cg).2 (g3 a h1 ha)⟩,gK hI hb ht hr m (a+1) Cg Cg];omega
  ·have e:a=(AR read high l).1:=by omega
   rw [if_neg]
   ·omega
   ·rintro⟨h3,h4⟩;rw [e]at h3 h4;exact g2 ((ht _ h3).1 h4)
theorem Y! {c:AL}{s:AK}{t t':Nat}(hc:Ak t c)(hs:Ag t' s)(h:Rel c s)(k AN:Int):(s.read k AN).1=(c.read k AN).1∧Rel (c.read k AN).2 (s.read k AN).2:=by
 unfold AK.read AL.read;rw [Pt h.base];by_cases h1:c.stream k≠0
 ·rw [if_pos h1,if_pos h1];exact Ep
 rw [if_neg h1,if_neg h1];obtain⟨h0,_,hk⟩:=K9 (by omega:c.stream k=0);have g:=(h.GG h0).rs _ hk;have hr:=hc.rs _ hk;have hx:=hs.ins _ hk;dsimp only;unfold AL.GC;by_cases hgs:(c.r k.toNat).given=true∧(c.r k.toNat).state=0
 ·have hgs':(s.i k.toNat).given=true∧(s.i k.toNat).state=0:=by rw [g.given,g.state];exact hgs
  rw [if_pos hgs,if_pos hgs'];simp only [eq_false (show ¬(2:Nat)=0 by decide),if_false,if_true,and_false,yj,yg];exact⟨by rw [g.code],h.Bs hc hs h0 hk ⟨g.high,g.en,g.ended,g.given,g.code,g.read,rfl,g.there,(fun h=>by rw [hgs.1]at h;cases h)⟩⟩
 have hgs':¬((s.i k.toNat).given=true∧(s.i k.toNat).state=0):=by rw [g.given,g.state];exact hgs
 rw [if_neg hgs,if_neg hgs'];by_cases hst:(c.r k.toNat).state=0
 ·have hst':(s.i k.toNat).state=0:=by rw [g.state];exact hst
  have hg:(c.r k.toNat).given=false:=by
   cases e:(c.r k.toNat).given
   ·rfl
   ·exact absurd ⟨e,hst⟩ hgs
  rw [if_pos hst,if_pos hst']
  have hn:GQ (s.i k.toNat).there (s.i k.toNat).high AN.toNat (s.i k.toNat).read=AL.Hl (c.r k.toNat) AN:=by
   rw [g.high,g.read];exact gK hr.co.inc hr.co.hi g.there hr.rh _ _ D3 ((HM _ _ _ hr.co.inc hr.rh).1)
  rw [hn];obtain⟨p1,p2⟩:=Jv hr.co.inc hr.rh hr.co.hi;have p3:=(HM _ _ _ hr.co.inc hr.rh).2.1;have hnl:AL.Hl (c.r k.toNat) AN≤(AR (c.r k.toNat).read (c.r k.toNat).high (c.r k.toNat).AF.l).1-(c.r k.toNat).read:=Nat.min_le_left _ _;generalize hN:AL.Hl (c.r k.toNat) AN=n at hnl⊢;have hbl:=hr.len hg;have hdl:=hx.dl;have hxh:=g.high;have hxr:=g.read
  have hdata:((s.i k.toNat).data.drop (s.i k.toNat).read).take n=(c.r k.toNat).b.take n:=by
   apply ya
   ·simp only [h_,v_];omega
   ·intro i h2 h3;simp only [h_,v_]at h2 h3
    have:=g.data hg ((c.r k.toNat).read+i) (n_ _ _) (p3 _ (n_ _ _) Cg)
    rw [Nat.add_sub_cancel_left]at this;simp only [List.getElem_take,List.getElem_drop];simp only [b_]at this;rw [c_ Cg,c_ Cg]at this;simp only [Option.getD_some]at this;rw [this];congr 1;omega
  have hrel:Mr {c.r k.toNat with b:=(c.r k.toNat).b.drop n,read:=(c.r k.toNat).read+n} {s.i k.toNat with read:=(s.i k.toNat).read+n}:=
   ⟨g.high,g.en,g.ended,g.given,g.code,by show(s.i k.toNat).read+n=_;rw [g.read],g.state,g.there,fun hg' m hm hin=>by
    have hm':(c.r k.toNat).read+n≤m:=hm
    have:=g.data hg m Cg hin
    show((c.r k.toNat).b.drop n).getD (m-((c.r k.toNat).read+n)) 0=(s.i k.toNat).data.getD m 0
    rw [←this]
    simp only [b_,List.getElem?_drop]
    congr 2;omega⟩
  rw [hdata];rw [g.ended,g.read,g.en];by_cases he:(c.r k.toNat).ended=true∧(c.r k.toNat).read+n=(c.r k.toNat).end_
  ·rw [if_pos he,if_pos ⟨he.1,he.2,hst'⟩];refine⟨rfl,h.Bs hc hs h0 hk ⟨hrel.high,rfl,rfl,hrel.given,hrel.code,?_,rfl,hrel.there,hrel.data⟩⟩;show(c.r k.toNat).read+n=_;rfl
  ·rw [if_neg he,if_neg (fun h=>he ⟨h.1,h.2.1⟩)];refine⟨?_,h.Bs hc hs h0 hk ⟨hrel.high,rfl,rfl,hrel.given,hrel.code,?_,hrel.state,hrel.there,hrel.data⟩⟩
   ·rw [hst',if_neg Ci];show(_,0,0,0)=(_,(c.r k.toNat).state,0,0);rw [hst]
   ·show(c.r k.toNat).read+n=_;rfl
 ·have hst':¬(s.i k.toNat).state=0:=by rw [g.state];exact hst
  rw [if_neg hst,if_neg hst'];simp only [yj,yg,hst',and_false,if_false];refine⟨by rw [g.state,g.code],h.Bs hc hs h0 hk ⟨g.high,g.en,g.ended,g.given,g.code,g.read,g.state,g.there,g.data⟩⟩
def MM(xs:List UInt8):Nat→Nat
 |0=>0
 |i+1=>MM xs i*256+(xs.getD i 0).toNat
theorem qC(xs:List UInt8):∀i,MM xs i<2^(8*i)
 |0=>by simp [MM]
 |i+1=>by
  have h1:=qC xs i;have h2:=(xs.getD i 0).toNat_lt;simp only [MM];rw [show 8*(i+1)=8*i+8 by omega,Nat.pow_add,show(2:Nat)^8=256 by decide];omega
theorem kK(xs:List UInt8):∀i,i≤8→(be xs i).toNat=MM xs i
 |0,_=>rfl
 |i+1,h=>by
  have ih:=kK xs i Cg;have h1:=qC xs (i+1);have h5:2^(8*(i+1))≤2^64:=Nat.pow_le_pow_right Cg Cg;have h2:=(xs.getD i 0).toNat_lt;simp only [MM]at h1⊢;simp only [be,UInt64.toNat_or,UInt64.toNat_shiftLeft,ih,UInt8.toNat_toUInt64];rw [show(8:UInt64).toNat%64=8 from rfl,Nat.shiftLeft_eq,show(2:Nat)^8=256 by decide,yb Cg]
  have:=Nat.two_pow_add_eq_or_of_lt (i:=8) (b:=(xs.getD i 0).toNat) Cg (MM xs i)
  rw [show(2:Nat)^8=256 by decide,Nat.mul_comm]at this;exact this.symm
theorem Mf(n:UInt64)(k:UInt64)(j:Nat)(hk:k.toNat=j)(hj:j<64):((n>>> k).toUInt8).toNat=n.toNat/2^j%256:=by
 rw [xy,UInt64.toNat_shiftRight,hk,yb hj,Nat.shiftRight_eq_div_pow]
theorem j5(n:UInt64)(t:List UInt8):be (B0 n++t) 8=n:=by
 apply UInt64.toNat_inj.1;rw [kK _ 8 Cg];have hn:=n.toNat_lt;have b0:=Mf n 56 56 rfl Cg;have b1:=Mf n 48 48 rfl Cg;have b2:=Mf n 40 40 rfl Cg;have b3:=Mf n 32 32 rfl Cg;have b4:=Mf n 24 24 rfl Cg;have b5:=Mf n 16 16 rfl Cg;have b6:=Mf n 8 8 rfl Cg;have b7:n.toUInt8.toNat=n.toNat%256:=xy n;simp only [MM,B0,List.cons_append,List.getD_cons_zero,List.getD_cons_succ,b0,b1,b2,b3,b4,b5,b6,b7];omega
theorem j1(ks:List UInt8)(side:UInt8)(n:UInt64)(xs:List UInt8):C6 ks side n (C6 ks side n xs)=xs:=by
 have hl:∀m,(DA ks side n m).length=m:=fun m=>by simp [DA]
 have h1:(C6 ks side n xs).length=xs.length:=by rw [C6,LE _ _ (by rw [hl];exact g' _),hl]
 rw [C6,h1];apply ya
 ·rw [LE _ _ (by rw [hl,h1];exact g' _),hl]
 ·intro i h2 h3;simp only [CL,C6,List.getElem_zipWith];rw [UInt8.xor_assoc,UInt8.xor_self,UInt8.xor_zero]
theorem V_(ks:List UInt8)(side:UInt8)(n:UInt64)(xs:List UInt8)(hn:n.toNat≤4611686018427387903)(hl:16+xs.length≤300):Bj ks side (DK ks side n xs)=some (n,xs):=by
 have hs:∀m,(DA ks side n m).length=m:=fun m=>by simp [DA]
 have hm:(C6 ks side n xs).length=xs.length:=by rw [C6,LE _ _ (by rw [hs];exact g' _),hs]
 have ht:(Gg ks side n (C6 ks side n xs)).length=8:=rfl;have hbl:(B0 n).length=8:=rfl
 have hlen:(DK ks side n xs).length=16+xs.length:=by
  rw [DK,a_,a_,hm,ht,hbl];omega
 have hbe:be (DK ks side n xs) 8=n:=by rw [DK,t_];exact j5 n _
 have hdrop:(DK ks side n xs).drop (xs.length+8)=Gg ks side n (C6 ks side n xs):=by
  rw [DK,yf YW]
 have hbody:EL (DK ks side n xs)=C6 ks side n xs:=by
  rw [EL,hlen,show 16+xs.length-8=xs.length+8 by omega,DK,List.take_left' YW,yf hbl]
 unfold Bj;rw [hlen,if_neg Cg,hbe,hbody,show 16+xs.length-8=xs.length+8 by omega,hdrop,if_neg Cq,j1]
end Go.Proofs.YtgfdlpcdjklcoaaGreatDoor
