/- A part of this proof: steps of the program, plain facts; no condition. -/
import Derived.Test.YtgfdlpcdjklcoaaGreatDoorG10
namespace Go.Proofs.YtgfdlpcdjklcoaaGreatDoor
open Go Go.RowKit
open _root_.List renaming length_append→a_,getElem?_eq_some_iff→b_,getD_eq_getElem?_getD→c_,mem_singleton→d_,length_map→e_,getElem?_map→f_,getElem?_eq_getElem→g_,append_nil→h_,map_append→i_,length_singleton→j_,replicate_succ→kg,length_set→kh,mem_map→kj,replicate→km,getElem?_append_right→kn,append_assoc→ko,map_cons→kp,length_take→kq,length_eq_zero_iff→kr,map_set→kt,map_nil→kv,getElem?_set_self→kw,nil_append→ky,mem_append→k_,set_append_right→ld,eq_replicate_iff→lf,getElem?_set_ne→li,replicate_zero→lj,length_drop→ll,length→ln,map_map→lq
open _root_.UInt64 renaming ofNat→g'
open _root_.Nat renaming le_refl→kf,sub_self→ku,min_le_left→kx,zero_le→lh,le_add_right→lm,blt→lr
open _root_.Eq renaming mp→ki
set_option linter.unusedVariables false
set_option linter.unusedSimpArgs false
set_option maxRecDepth 20000
section
variable{B:World}
section
variable(db:Nat)(m:De)
instance:Cell (BU db m) db (0+0) (.slice m.a.p m.d.b.length m.a.c) True:=by unfold BU;infer_instance
instance:Cell (BU db m) db (0+1) (.slice m.f.p m.rs.length m.f.c) True:=by unfold BU;infer_instance
instance:Cell (BU db m) db (0+2) (iN m.d.room) True:=by unfold BU;infer_instance
instance:Cell (BU db m) db (0+3) (.bool (DE m.d.Ag)) True:=by unfold BU;infer_instance
end
section
variable{P:Program}{n:Nat}{E:A5}{D:B6}{H R:HP}{ops:Array Oper}{Q:Exit→Act→World→Prop}{fuel last:Nat}{ls:Array Bool}{op:Op}{ty:TypeId}{pos:String}{af:Array Edge}
theorem Tb(i:Nat){t j tj:Nat}{b want:Bool}(hr:Region.ready .any ops ls=[i])(hi:ops[i]?=some ⟨some t,op,ty,pos,af,some (j,want)⟩)(ht:lr t n=true)
  (hj:(ops[j]?).bind (·.dst)=some tj)(hb:lk E tj=some (.bool b))(hw:b= !want)(hR:last≤i∨Bz B H R)
  (next:WA P B ops Q R last fuel (ls.setIfInBounds i true) n ((t,undef)::E) D H):
  WA P B ops Q R last (fuel+1) ls n E D H:=by
 intro a w h1 h2 h3
 have hy:yielded ops a.tmps j=some b:=by
  have:=h1.2 _ _ hb
  simp [yielded,hj,this]
 have hn:(some b==some want)=false:=by rw [hw];cases want<;>rfl
 refine⟨(fun h0=>by rw [hr]at h0;cases h0),fun k hk=>?_⟩;rw [hr]at hk;obtain rfl:=d_.1 hk;unfold wpOp;rw [hi];have hg:=next _ w (h1.put WC undef) (by simp [Act.put,h2]) h3;simp only [Region.wanted,hy,hn,Bool.false_eq_true,if_false];exact⟨hR.imp id (fun h=>h.get w h3),hg⟩
theorem wL(i:Nat){t j tj:Nat}{b want:Bool}{v:Value}(hr:Region.ready .any ops ls=[i])(hi:ops[i]?=some ⟨some t,op,ty,pos,af,some (j,want)⟩)(ht:lr t n=true)
  (hj:(ops[j]?).bind (·.dst)=some tj)(hb:lk E tj=some (.bool b))(hw:b=want)
  (hv:Af P B n ⟨some t,op,ty,pos,af,some (j,want)⟩ E H v)(hR:last≤i∨Bz B H R)(next:WA P B ops Q R last fuel (ls.setIfInBounds i true) n ((t,v)::E) D H):
  WA P B ops Q R last (fuel+1) ls n E D H:=
 QJ i hr hi ht hj hb hw (Post:=fun v' H'=>v'=v∧H'=H) (fun a w h1 _ h3 K Q hk=>by simp only [Oper.wp,hv a w h1 h3,Oper.upon];exact hk _ _ _ BY h3) (by refine JR ?_;exact⟨hR,next⟩)
end
def C6(f:AM):RF:=⟨f,none,0,0,0,[]⟩
theorem OY{f:AM}(h1:f.ranges=[])(h2:f.data.size<100000000000):Hg (C6 f):=⟨⟨.inl rfl,by show f.ranges.length≤0;rw [h1];exact kf _⟩,by show f.ranges.length<_;rw [h1];decide,h2⟩
theorem Ro{f:AM}(h1:f.ranges=[])(H:HP):Ai B H (C6 f).b (C6 f).o (C6 f).f.ranges:=by
 show Ai B H 0 0 f.ranges;rw [h1];exact⟨fun i f v e hi=>absurd hi (Nat.not_lt_zero i)⟩
def ZC(o:Option (AR×BK))(w:AR)(d:BK)(v:Value)(w':AR)(d':BK):Prop:=
 match o with
 |none=>v=.bool false∧w'=w∧d'=d
 |some z=>v=.bool true∧w'=z.1∧d'=z.2
theorem x9(k lo:Nat)(fin:Bool)(ds:List UInt8):ds.length≤(Ak (Bw k lo fin ds)).length:=by
 have h:(AW ds).size=ds.length:=by simp
 have h2:(Ak (Bw k lo fin ds)).length=([if fin then(9:UInt8)else 8]++AS k++AS lo++AS (AW ds).size++(AW ds).data.toList).length:=by
  cases fin<;>rfl
 rw [h2];simp only [a_]
 have:(AW ds).data.toList.length=ds.length:=h
 omega
theorem gn(l:List AT)(hi:Nat):∀lo,lo≤hi→(AV lo hi l).2≤hi:=by
 induction l with
 |nil=>intro lo h;exact kf _
 |cons r rs ih=>
  intro lo h;unfold AV;split
  ·exact ih lo h
  ·split
   ·exact kx _ _
   ·by_cases h3:r.hi+1≤hi
    ·exact ih _ h3
    ·rename_i h1 h2
     have:∀(l:List AT) (a:Nat),(AV a hi l).2≤hi:=by
      intro l
      induction l with
      |nil=>intro a;exact kf _
      |cons r rs ih2=>
       intro a;unfold AV;split
       ·exact ih2 a
       ·split
        ·exact kx _ _
        ·exact ih2 _
     exact this rs _
theorem vJ{f:AM}:(Ak f).length≤64+16*f.ranges.length+f.data.size:=by
 have hd:f.data.data.toList.length=f.data.size:=by rw [Array.length_toList];rfl
 have v1:=C5 f.stream.toNat;have v2:=C5 f.code;have v3:=C5 f.offset;have v4:=C5 f.data.size;have v5:=QU f.ranges (f.ranges.length-1);have v6:=C5 (rg f.ranges 0).hi;have v7:=C5 (f.ranges.length-1);have v8:=C5 ((rg f.ranges 0).hi-(rg f.ranges 0).lo);unfold Ak Ku
 repeat' split
 all_goals (simp only [a_,List.length_cons,List.length_nil,hd];omega)
set_option maxHeartbeats 4000000 in
theorem al(cb db j AF:Nat)(ws:List Bi)(dm:De)(R:HP)(hl:ws.length=4)(hj:j<4)(hok:∀w∈ws,w.ok)(hw:CJ AF (ws.getD j AC.AK).w)(hd:dm.ok):
  Fn Tryz.prog B 140 [ptr cb 0,ptr db 0,iN j] (BB cb ws*(BU db dm*R)) (fun v H'=>∃(wm':Bi) (dm':De),wm'.ok∧dm'.ok∧ZC ((ws.getD j AC.AK).w.fill dm.d j) (ws.getD j AC.AK).w dm.d v wm'.w dm'.d∧H'=BB cb (ws.set j wm')*(BU db dm'*R)):=by
 refine mI Tryz.func140 ?_
 have hjl:j<ws.length:=by omega
 have hwm:=hok _ LD;refine Au (H':=HP.AA cb (0+43+j*10) (Bn (ws.getD j AC.AK))*(Bu (ws.getD j AC.AK)*(CI cb ws j*(BU db dm*R)))) (by rw [JZ cb ws j hjl];ac_rfl) ?_;generalize hwx:ws.getD j AC.AK=wm at hw hwm⊢;refine Au (H':=HP.AA cb (0+43+j*10) (Bn wm)*(AB wm.a.b wm.a.o wm.w.b wm.a.s*(AZ wm.sq wm.sa wm.w.AO*(AZ wm.cq wm.ca wm.w.AE*(CI cb ws j*(BU db dm*R)))))) OR ?_;have hbl:=hw.len;have hwh:=hw.high;have hwc:=hw.code;have hrm:=hd.room;have hdl:=hd.len;refine B1 ?_;refine JL N2 ?_;refine DV ?_;refine mc (fun hgv=>?_) (fun hgv=>?_)
 ·refine J2 ?_;refine ET (HP.AA cb (0+43+j*10) (Bn wm)*(AB wm.a.b wm.a.o wm.w.b wm.a.s*(AZ wm.sq wm.sa wm.w.AO*(AZ wm.cq wm.ca wm.w.AE*(CI cb ws j*R))))) 16 19 Ef rfl Cb ?_;refine K0 ?_;refine LO 27 rfl (fun hg1=>?_) (fun hg1=>?_)
  ·have htl:wm.w.BG=true:=hg1;refine JN 5 rfl hg1 ?_;refine RY ?_;refine JN 10 rfl hg1 ?_;refine JN 11 rfl hg1 ?_;refine JN 12 rfl hg1 ?_;refine JN 13 rfl hg1 ?_;refine JN 14 rfl hg1 ?_;refine JN 15 rfl hg1 ?_;refine YJ ?_;refine Tb 16 Cb rfl rfl rfl rfl hg1 EY ?_;refine Tb 17 Cb rfl rfl rfl rfl hg1 EY ?_;refine Ei 18 Cb rfl rfl J0 EY ?_;refine FG ?_;refine Gw ?_;refine J8 ?_
   have hfill:wm.w.fill dm.d j=none:=by
    unfold AR.fill;rw [if_pos hgv,if_pos htl]
   exact Ov
  have htl:wm.w.BG=false:=hg1;refine JY 5 rfl hg1 Bd ?_;refine JY 6 rfl hg1 Bd ?_;refine JY 7 rfl hg1 Bd ?_;refine JY 8 rfl hg1 CT ?_;refine JY 9 rfl hg1 BW ?_;refine JY 10 rfl hg1 Bg ?_;refine JY 11 rfl hg1 Bd ?_;refine JY 12 rfl hg1 CT ?_;refine JY 13 rfl hg1 BW ?_;refine JY 14 rfl hg1 Bg ?_;refine JY 15 rfl hg1 (FV (cs:=AQ (C6 (HL j wm.w.code wm.w.high))) rfl rfl rfl (AC.one (C6 (HL j wm.w.code wm.w.high)))) ?_;refine YJ ?_;refine QJ 16 Cb rfl rfl rfl rfl hg1 (BS rfl (TZ db dm (C6 (HL j wm.w.code wm.w.high)) _ hd (eK hj hwc Ca) ⟨by show(3:Int)≤4;decide,by show(4:Int)≤5;decide⟩ (OY rfl NZ) (hr:=Ro rfl _))) ?_;rintro _ _ ⟨dm2,hd2,hde2,rfl,rfl⟩;refine Dc ?_;refine wL 17 Cb rfl rfl rfl rfl hg1 LQ EY ?_;refine Ei 18 Cb rfl rfl ID EY ?_;refine FG ?_;refine mc (fun h41=>?_) (fun h41=>?_)
  ·refine J8 ?_
   have hadd:dm.d.add (HL j wm.w.code wm.w.high)=none:=by simpa [C6]using h41
   have hde3:dm2.d=dm.d:=by rw [hde2];show(dm.d.add (HL j wm.w.code wm.w.high)).getD dm.d=_;rw [hadd];rfl
   have hfill:wm.w.fill dm.d j=none:=by
    unfold AR.fill;rw [if_pos hgv,if_neg (by rw [htl];simp),hadd]
   exact mR [6] (BB cb (ws.set j wm)*(BU db dm2*R)) (hE:=gO) rfl rfl ⟨wm,dm2,hwm,hd2,Zw,rfl⟩
  refine vW ?_;obtain⟨d2,hadd⟩:∃d2,dm.d.add (HL j wm.w.code wm.w.high)=some d2:=Option.isSome_iff_exists.1 (by simpa [C6]using h41)
  have hde3:dm2.d=d2:=by rw [hde2];show(dm.d.add (HL j wm.w.code wm.w.high)).getD dm.d=_;rw [hadd];rfl
  have hfill:wm.w.fill dm.d j=some ({wm.w with BG:=true},d2):=by
   unfold AR.fill;rw [if_pos hgv,if_neg (by rw [htl];simp),hadd]
  obtain⟨w2,hw2⟩:∃w2:Bi,w2={wm with w:={wm.w with BG:=true}}:=Bl
  have hok2:w2.ok:=by rw [hw2];exact hwm
  exact mR [6] (BB cb (ws.set j w2)*(BU db dm2*R)) (hE:=⟨fun ww hw=>ki (by
   congr 1
   rw [LM cb ws j w2 hjl,hw2]
   unfold Bu
   show _=HP.AA cb (0+43+j*10) [.slice wm.a.p wm.w.b.length wm.a.c,ptr wm.sq 0,ptr wm.cq 0,uN wm.w.high,.bool wm.w.finished,.bool wm.w.ending,.bool wm.w.ended,.bool wm.w.given,uN wm.w.code,.bool true]*(AB wm.a.b wm.a.o wm.w.b wm.a.s*(AZ wm.sq wm.sa wm.w.AO*AZ wm.cq wm.ca wm.w.AE)*CI cb ws j)*(BU db dm2*R)
   ac_rfl) hw⟩) rfl rfl ⟨w2,dm2,hok2,hd2,by rw [hfill];exact⟨rfl,UX,hde3⟩,rfl⟩
 refine J9 ?_;refine JL Fy ?_;refine J4 ?_;obtain⟨ga,gb,gc,gd,ge⟩:=HS wm.w.AO.l 0 wm.w.b.length hw.so.inc EX;have gle:=gn wm.w.AO.l wm.w.b.length 0 EX;refine J6 ?_;refine mE rfl (Py wm.sq 0 wm.w.b.length wm.w.b.length wm.sa wm.w.AO _ hwm.2.1 hw.so Ca (by have h7:=hw.so.len;rw [hw.sm]at h7;omega)) ?_;refine JR ?_;refine DV ?_;refine JL Lh ?_;refine J2 ?_;refine DF (α:=Nat×Nat) (fun z=>[(9,uN z.1),(10,uN z.2),(7,ptr cb (0+43+j*10)),(8,uN wm.w.b.length),(0,ptr cb 0),(1,ptr db 0),(2,iN j)]) (fun _=>HP.AA cb (0+43+j*10) (Bn wm)*(AB wm.a.b wm.a.o wm.w.b wm.a.s*(AZ wm.sq wm.sa wm.w.AO*(AZ wm.cq wm.ca wm.w.AE*(CI cb ws j*(BU db dm*R)))))) (fun z=>wm.w.fill dm.d j=wm.w.I7 dm.d j z.1 z.2∧z.1≤z.2∧z.2≤wm.w.b.length) ?_ ?_
 ·refine mC (fun h62=>?_) (fun h62=>?_)
  ·refine J7 ?_;refine KF ?_;refine J1 ?_;refine DU 68 rfl (fun hg2=>?_) (fun hg2=>?_)
   ·skip
    have h66:wm.w.finished=false:=by simpa using hg2
    refine Wa ?_;refine JH hg2 ?_;refine JL OC ?_;refine J1 ?_;refine Kx ?_;refine Mc ?_;refine G8 ?_;refine J2 ?_;refine Gw ?_;refine J9 ?_
    have hfill:wm.w.fill dm.d j=none:=by
     unfold AR.fill;rw [if_neg Nd,if_pos h62,if_pos (.inl h66)]
    exact Ov
   have h66:wm.w.finished=true:=by simpa using hg2
   refine P9 ?_;refine P9 ?_;refine JL Ni ?_;refine J1 ?_;refine DU 74 rfl (fun hg3=>?_) (fun hg3=>?_)
   ·have h72:wm.w.ending=true:=hg3;refine SJ ?_;refine IP ?_;refine JL Rp ?_;refine J2 ?_;refine Gw ?_;refine J9 ?_
    have hfill:wm.w.fill dm.d j=none:=by
     unfold AR.fill;rw [if_neg Nd,if_pos h62,if_pos (.inr (.inl h72))]
    exact Ov
   have h72:wm.w.ending=false:=hg3;refine PP ?_;refine J1 ?_;refine GF ?_;refine J1 ?_;refine JL LB ?_;refine J2 ?_;refine mc (fun h78=>?_) (fun h78=>?_)
   ·refine J9 ?_
    have hfill:wm.w.fill dm.d j=none:=by
     unfold AR.fill;rw [if_neg Nd,if_pos h62,if_pos (.inr (.inr h78))]
    exact Ov
   refine J8 ?_;exact BJ (wm.w.b.length,wm.w.b.length) ⟨by unfold AR.fill;rw [if_neg Nd,if_pos h62,if_neg (by rw [h66,h72,h78];simp)],kf _,kf _⟩ Mb rfl
  refine J1 ?_;exact BJ ((AV 0 wm.w.b.length wm.w.AO.l).1,(AV 0 wm.w.b.length wm.w.AO.l).2) ⟨by unfold AR.fill;rw [if_neg Nd,if_neg h62],by dsimp only;omega,gle⟩ Mb rfl
 ·rintro⟨lo,hi⟩ ⟨hfe,hlh,hhb⟩;dsimp only at hfe hlh hhb⊢;refine B1 ?_;refine JL (Qe (k':=(cut wm.w.b lo hi).length) rfl rfl rfl fX (I3 hhb)) ?_;refine JL (My (xs:=cut wm.w.b lo hi) (b:=wm.a.b) (o:=wm.a.o+lo*1) rfl (by have:=hwm.1.1;exact E3 this hlh lT (I3 hhb)) (Ai.sub (xs:=wm.w.b) inferInstance lo hi hhb)) ?_;refine JL (FV (cs:=AQ (C6 (Bw j lo false (cut wm.w.b lo hi)))) rfl rfl rfl (AC.one (C6 (Bw j lo false (cut wm.w.b lo hi))))) ?_;refine BQ (H':=AB 0 0 ([]:List UInt8) []*(HP.AA cb (0+43+j*10) (Bn wm)*(AB wm.a.b wm.a.o wm.w.b wm.a.s*(AZ wm.sq wm.sa wm.w.AO*(AZ wm.cq wm.ca wm.w.AE*(CI cb ws j*(BU db dm*R))))))) M2 ?_;have hcl:=I3 (lo:=lo) hhb;refine mE rfl (WG (C6 (Bw j lo false (cut wm.w.b lo hi))) none 0 0 0 [] [] _ (OY rfl (by rw [Ld];omega)) (Ro rfl _) Gi rfl Cc (by show Dr 5;unfold Dr;decide) ⟨RS,by show(5:Int)≤5;decide⟩ (Vr hj Ca)) ?_;rintro _ _ ⟨p93,b93,o93,c93,s93,Q93,rfl,hs93,hc93,rfl,hk93⟩;have hhg:=x9 j lo false (cut wm.w.b lo hi)
  have hel:(Ak (Bw j lo false (cut wm.w.b lo hi))).length<100000:=by have:=vJ (f:=Bw j lo false (cut wm.w.b lo hi));rw [Ld]at this;have h9:(Bw j lo false (cut wm.w.b lo hi)).ranges.length=0:=rfl;omega
  rw [ky]at*;refine J3 ?_;refine JL H3 ?_;refine JL ML ?_;refine JL (Iy (i:=(Ak (Bw j lo false (cut wm.w.b lo hi))).length) (j:=hi-lo) rfl rfl Ca) ?_;refine J4 ?_;refine Hy (HP.AA cb (0+43+j*10) (Bn wm)*(AB wm.a.b wm.a.o wm.w.b wm.a.s*(AZ wm.sq wm.sa wm.w.AO*(AZ wm.cq wm.ca wm.w.AE*(CI cb ws j*(BU db dm*R)))))) ?_;refine mA 13 13 ?_;refine Jm 0 ?_;refine Jn 1 ?_;refine Jf 2 ?_;refine Jd 3 ?_;refine Lw ?_;refine JT 8 rfl Ft ?_;refine JT 9 rfl MU ?_;refine Jm 10 ?_;refine JT 11 rfl (P0 (i:=((dm.d.room-dm.d.b.length:Nat):Int)) (j:=(((Ak (Bw j lo false (cut wm.w.b lo hi))).length-(hi-lo)):Nat)) rfl rfl Ca) ?_;refine Ja 12 ?_;refine JK ?_
  refine DF (α:=Unit) (fun _=>[(118,.bool (decide (lo<hi∧((dm.d.room-dm.d.b.length:Nat):Int)-(((Ak (Bw j lo false (cut wm.w.b lo hi))).length-(hi-lo):Nat):Int)<1))),(12,.int .i64 (((dm.d.room-dm.d.b.length:Nat):Int)-(((Ak (Bw j lo false (cut wm.w.b lo hi))).length-(hi-lo):Nat):Int))),(9,uN lo),(10,uN hi),(7,ptr cb (0+43+j*10)),(8,uN wm.w.b.length),(0,ptr cb 0),(1,ptr db 0),(2,iN j)]) (fun _=>HP.AA cb (0+43+j*10) (Bn wm)*(AB wm.a.b wm.a.o wm.w.b wm.a.s*(AZ wm.sq wm.sa wm.w.AO*(AZ wm.cq wm.ca wm.w.AE*(CI cb ws j*(BU db dm*R)))))) (fun _=>True) ?_ ?_
  ·refine J3 ?_;refine JL IG ?_;refine J1 ?_;refine EV 115 rfl (fun hg4=>?_) (fun hg4=>?_)
   ·have h115:lo<hi:=hg4;refine JG T4 ?_;refine J1 ?_;refine JG T4 ?_;refine JL (L9 (i:=((dm.d.room-dm.d.b.length:Nat):Int)-(((Ak (Bw j lo false (cut wm.w.b lo hi))).length-(hi-lo)):Nat)) (j:=1) rfl rfl) ?_;refine JL VK ?_;refine J1 ?_;exact BJ () trivial (.cons (congrArg (fun bb=>some (Value.bool bb)) (decide_eq_decide.2 ⟨fun h=>⟨h115,h⟩,fun h=>h.2⟩)) Mr) rfl
   have h115:¬lo<hi:=hg4;refine JH F4 ?_;refine JH F4 ?_;refine JL Su ?_;refine J1 ?_;exact BJ () trivial (.cons (congrArg (fun bb=>some (Value.bool bb)) (decide_eq_false (fun h=>h115 h.1)).symm) Mr) rfl
  ·rintro _ _;refine J1 ?_;refine mC (fun h118=>?_) (fun h118=>?_)
   ·refine J7 ?_
    have hfill:wm.w.fill dm.d j=none:=by
     rw [hfe];unfold AR.I7;dsimp only;rw [if_pos Ca]
    exact Ov
   refine J3 ?_
   have hnb:¬(lo<hi∧dm.d.room<dm.d.b.length+((Ak (Bw j lo false (cut wm.w.b lo hi))).length-(hi-lo))+1):=by omega
   have hfe2:wm.w.fill dm.d j=match dm.d.add (C6 (Bw j lo (wm.w.finished&&decide ((min hi (lo+(dm.d.room-dm.d.b.length-((Ak (Bw j lo false (cut wm.w.b lo hi))).length-(hi-lo)))))=wm.w.b.length)) (cut wm.w.b lo (min hi (lo+(dm.d.room-dm.d.b.length-((Ak (Bw j lo false (cut wm.w.b lo hi))).length-(hi-lo)))))))).f with
     |none=>none
     |some d2=>some ({wm.w with AO:=if lo<(min hi (lo+(dm.d.room-dm.d.b.length-((Ak (Bw j lo false (cut wm.w.b lo hi))).length-(hi-lo)))))then wm.w.AO.add lo ((min hi (lo+(dm.d.room-dm.d.b.length-((Ak (Bw j lo false (cut wm.w.b lo hi))).length-(hi-lo)))))-1)else wm.w.AO,ending:=wm.w.ending||(wm.w.finished&&decide ((min hi (lo+(dm.d.room-dm.d.b.length-((Ak (Bw j lo false (cut wm.w.b lo hi))).length-(hi-lo)))))=wm.w.b.length)),high:=max wm.w.high (min hi (lo+(dm.d.room-dm.d.b.length-((Ak (Bw j lo false (cut wm.w.b lo hi))).length-(hi-lo)))))},d2):=by
    rw [hfe];unfold AR.I7;dsimp only;rw [if_neg hnb];rfl
   have hh2:lo≤(min hi (lo+(dm.d.room-dm.d.b.length-((Ak (Bw j lo false (cut wm.w.b lo hi))).length-(hi-lo)))))∧(min hi (lo+(dm.d.room-dm.d.b.length-((Ak (Bw j lo false (cut wm.w.b lo hi))).length-(hi-lo)))))≤hi:=⟨Ca,kx _ _⟩
   have hcl2:=I3 (lo:=lo) (show(min hi (lo+(dm.d.room-dm.d.b.length-((Ak (Bw j lo false (cut wm.w.b lo hi))).length-(hi-lo)))))≤wm.w.b.length by omega);refine J4 ?_;refine JL (A9 (v':=iN (dm.d.room-dm.d.b.length-((Ak (Bw j lo false (cut wm.w.b lo hi))).length-(hi-lo)))) (hJ (i:=((dm.d.room-dm.d.b.length:Nat):Int)-(((Ak (Bw j lo false (cut wm.w.b lo hi))).length-(hi-lo)):Nat)) (j:=0) rfl rfl) (by congr 1;split<;>omega)) ?_;refine JL Fy ?_;refine JL Kp ?_;refine JL PH ?_;generalize hhi2:(min hi (lo+(dm.d.room-dm.d.b.length-((Ak (Bw j lo false (cut wm.w.b lo hi))).length-(hi-lo)))))=hi2 at*;refine J4 ?_;refine DF (α:=Nat) (fun b13=>[(13,ptr b13 0),(9,uN lo),(10,uN hi2),(7,ptr cb (0+43+j*10)),(8,uN wm.w.b.length),(0,ptr cb 0),(1,ptr db 0),(2,iN j)]) (fun b13=>BU db dm*(HP.AA b13 0 (AQ (C6 (Bw j lo (wm.w.finished&&decide (hi2=wm.w.b.length)) (cut wm.w.b lo hi2))))*(HP.AA cb (0+43+j*10) (Bn wm)*(AB wm.a.b wm.a.o wm.w.b wm.a.s*(AZ wm.sq wm.sa wm.w.AO*(AZ wm.cq wm.ca wm.w.AE*(CI cb ws j*R))))))) (fun _=>True) ?_ ?_
   ·refine mA 21 22 ?_;refine El ?_;refine Jm 2 ?_;refine Jn 3 ?_;refine Jh ?_;refine Jm 6 ?_;refine LO 132 rfl (fun hg5=>?_) (fun hg5=>?_)
    ·have h132:wm.w.finished=true:=hg5;refine JY 7 rfl hg5 Bd ?_;refine JY 8 rfl hg5 Bd ?_;refine JY 9 rfl hg5 Np ?_;refine JT 10 rfl (Gd hg5 rfl rfl) ?_;refine kG ?_;rintro _ _ ⟨b13,rfl,rfl⟩;refine BL ?_;refine Dx 21 Cb rfl Kv ?_;refine Dh ?_;exact BJ b13 trivial Mr (by rw [show(wm.w.finished&&decide (hi2=wm.w.b.length))=decide (hi2=wm.w.b.length) by rw [h132,Bool.true_and]];ac_rfl)
    have h132:wm.w.finished=false:=hg5;refine JN 7 rfl hg5 ?_;refine JN 8 rfl hg5 ?_;refine JN 9 rfl hg5 ?_;refine JT 10 rfl (G9 hg5 rfl rfl) ?_;refine kG ?_;rintro _ _ ⟨b13,rfl,rfl⟩;refine BL ?_;refine Dx 21 Cb rfl Kv ?_;refine Dh ?_;exact BJ b13 trivial Mr (by rw [show(wm.w.finished&&decide (hi2=wm.w.b.length))=false by rw [h132,Bool.false_and]];ac_rfl)
   ·rintro b13 _;refine J5 ?_;refine JL (D6 (l:=AQ (C6 (Bw j lo (wm.w.finished&&decide (hi2=wm.w.b.length)) (cut wm.w.b lo hi2)))) rfl rfl) ?_;refine mE rfl (TZ db dm (C6 (Bw j lo (wm.w.finished&&decide (hi2=wm.w.b.length)) (cut wm.w.b lo hi2))) _ hd (Vr hj Ca) ⟨RS,by show(5:Int)≤5;decide⟩ (OY rfl (by rw [Ld];omega)) (hr:=Ro rfl _)) ?_;rintro _ _ ⟨dm2,hd2,hde2,rfl,rfl⟩;refine JP ?_;refine mc (fun h149=>?_) (fun h149=>?_)
    ·refine J7 ?_
     have hadd:dm.d.add (C6 (Bw j lo (wm.w.finished&&decide (hi2=wm.w.b.length)) (cut wm.w.b lo hi2))).f=none:=by simpa using h149
     have hde3:dm2.d=dm.d:=by rw [hde2,hadd];rfl
     have hfill:wm.w.fill dm.d j=none:=by
      rw [hfe2,hadd]
     exact mR [6] (BB cb (ws.set j wm)*(BU db dm2*R)) (hE:=⟨fun ww hw=>Sat.right (A:=HP.AA b13 0 (AQ (C6 (Bw j lo (wm.w.finished&&decide (hi2=wm.w.b.length)) (cut wm.w.b lo hi2))))) (ki bS hw)⟩) rfl rfl ⟨wm,dm2,hwm,hd2,Zw,rfl⟩
    refine J4 ?_;obtain⟨d2,hd2e⟩:∃d2,dm.d.add (C6 (Bw j lo (wm.w.finished&&decide (hi2=wm.w.b.length)) (cut wm.w.b lo hi2))).f=some d2:=Option.isSome_iff_exists.1 (by simpa using h149);rw [hd2e]at hfe2 hde2;dsimp only [Option.getD_some]at hfe2 hde2;refine Au (H':=AZ wm.sq wm.sa wm.w.AO*(HP.AA cb (0+43+j*10) (Bn wm)*(AB wm.a.b wm.a.o wm.w.b wm.a.s*(AZ wm.cq wm.ca wm.w.AE*(CI cb ws j*(BU db dm2*(HP.AA b13 0 (AQ (C6 (Bw j lo (wm.w.finished&&decide (hi2=wm.w.b.length)) (cut wm.w.b lo hi2))))*R))))))) Cg ?_;refine J3 ?_;refine Lq ?_;refine DF (α:=B9) (fun _=>[(13,ptr b13 0),(9,uN lo),(10,uN hi2),(7,ptr cb (0+43+j*10)),(8,uN wm.w.b.length),(0,ptr cb 0),(1,ptr db 0),(2,iN j)]) (fun a=>AZ wm.sq a (if lo<hi2 then wm.w.AO.add lo (hi2-1)else wm.w.AO)*(HP.AA cb (0+43+j*10) (Bn wm)*(AB wm.a.b wm.a.o wm.w.b wm.a.s*(AZ wm.cq wm.ca wm.w.AE*(CI cb ws j*(BU db dm2*(HP.AA b13 0 (AQ (C6 (Bw j lo (wm.w.finished&&decide (hi2=wm.w.b.length)) (cut wm.w.b lo hi2))))*R))))))) (fun a=>a.ok (if lo<hi2 then wm.w.AO.add lo (hi2-1)else wm.w.AO)) ?_ ?_
    ·refine mC (fun h152=>?_) (fun h152=>?_)
     ·refine J7 ?_;refine JL Ny ?_;refine mE rfl (KX wm.sq lo (hi2-1) wm.w.b.length wm.sa wm.w.AO _ hwm.2.1 hw.so Ca Ca (by rw [hw.sm];decide) (by rw [hw.sm];decide)) ?_;rintro _ _ ⟨a160,hs160,rfl⟩;refine J1 ?_;exact BJ a160 (by rw [if_pos h152];exact hs160) Mr (by rw [if_pos h152])
     refine J1 ?_;exact BJ wm.sa (by rw [if_neg h152];exact hwm.2.1) Mr (by rw [if_neg h152])
    ·rintro sa2 hsa2;refine J9 ?_;refine DU 166 rfl (fun hg6=>?_) (fun hg6=>?_)
     ·have h166:wm.w.ending=true:=hg6;refine JH hg6 ?_;refine JH hg6 ?_;refine JL (Gd hg6 rfl rfl) ?_;refine Fe ?_;refine JL Kk ?_;refine B1 ?_
      obtain⟨w2,hw2⟩:∃w2:Bi,w2={wm with w:={wm.w with AO:=(if lo<hi2 then wm.w.AO.add lo (hi2-1)else wm.w.AO),ending:=wm.w.ending||(wm.w.finished&&decide (hi2=wm.w.b.length)),high:=max wm.w.high hi2},sa:=sa2}:=Bl
      have hok2:w2.ok:=by rw [hw2];exact⟨hwm.1,hsa2,hwm.2.2⟩
      exact mR [6] (BB cb (ws.set j w2)*(BU db dm2*R)) (hE:=⟨fun ww hw=>Sat.right (A:=HP.AA b13 0 (AQ (C6 (Bw j lo (wm.w.finished&&decide (hi2=wm.w.b.length)) (cut wm.w.b lo hi2))))) (ki (by
       congr 1
       rw [LM cb ws j w2 hjl,hw2]
       unfold Bu
       refine Xm ?_
       rw [h166]
       simp only [Bool.true_or]
       ac_rfl) hw)⟩) rfl rfl ⟨w2,dm2,hok2,hd2,bC,rfl⟩
     have h166:wm.w.ending=false:=hg6;refine JG hg6 ?_;refine J1 ?_;refine JG hg6 ?_;refine J1 ?_;refine JL (G9 hg6 rfl rfl) ?_;refine Fe ?_;refine JL Kk ?_;refine B1 ?_
     obtain⟨w2,hw2⟩:∃w2:Bi,w2={wm with w:={wm.w with AO:=(if lo<hi2 then wm.w.AO.add lo (hi2-1)else wm.w.AO),ending:=wm.w.ending||(wm.w.finished&&decide (hi2=wm.w.b.length)),high:=max wm.w.high hi2},sa:=sa2}:=Bl
     have hok2:w2.ok:=by rw [hw2];exact⟨hwm.1,hsa2,hwm.2.2⟩
     exact mR [6] (BB cb (ws.set j w2)*(BU db dm2*R)) (hE:=⟨fun ww hw=>Sat.right (A:=HP.AA b13 0 (AQ (C6 (Bw j lo (wm.w.finished&&decide (hi2=wm.w.b.length)) (cut wm.w.b lo hi2))))) (ki (by
      congr 1
      rw [LM cb ws j w2 hjl,hw2]
      unfold Bu
      refine Xm ?_
      rw [h166]
      simp only [Bool.false_or]
      ac_rfl) hw)⟩) rfl rfl ⟨w2,dm2,hok2,hd2,bC,rfl⟩
end
section
variable{B:World}
structure GT where
 ys:List UInt8
 a:A8
@[reducible] def pF(m:GT):List Value:=[.slice m.a.p m.ys.length m.a.c]
@[reducible] instance:AC GT:=⟨1,pF,⟨[],⟨none,0,0,0,[]⟩⟩,fun _=>rfl,fun _ v h=>by
 simp at h;rcases h with rfl;rfl⟩
def GT.ok(m:GT):Prop:=m.a.ok m.ys
def HM(m:GT):HP:=AB m.a.b m.a.o m.ys m.a.s
structure Jz where
 l:List GT
 a:A8
structure Jz.ok(m:Jz)(xs:List (List UInt8)):Prop where
 a:m.a.ok m.l
 l:∀p∈m.l,p.ok
 map:m.l.map (·.ys)=xs
def DX(m:Jz):HP:=m.a.h m.l*AU HM m.l
def Jz.v(m:Jz):Value:=.slice m.a.p m.l.length m.a.c
def Pm(H:HP)(xs:List (List UInt8))(v:Value)(H':HP):Prop:=∃m:Jz,m.ok xs∧v=m.v∧H'=DX m*H
def Bc:A8:=⟨none,0,0,0,[]⟩
theorem D'{α:Type}[AC α]:Bc.ok ([]:List α):=⟨Gi,by show 0*_+0=0*_;omega⟩
theorem HB{α:Type}[AC α]:Bc.h ([]:List α)=HP.BN:=G7 ..
theorem Pm.nil(H:HP):Pm H [] (.slice none 0 0) H:=
 ⟨⟨[],Bc⟩,⟨D',(fun _ h=>nomatch h),rfl⟩,rfl,by unfold DX;rw [HB,FM];show H=HP.BN*HP.BN*H;rw [HP.BR,HP.BR]⟩
theorem r9{n:Nat}(h:n<18446744073709551616):uN n=u64 (g' n):=by
 show Value.int .u64 (n:Nat)=Value.int .u64 ((g' n).toNat:Nat);rw [UInt64.toNat_ofNat',Nat.mod_eq_of_lt Pc]
theorem vE(H:HP)(b:Nat)(f:AM)(hf:f.ranges=[])[hr:Ai B H b 0 [C6 f]]:IF B H (some ⟨b,0,none⟩) 1 [f] b 0 [C6 f]:=
 ⟨CS,hr,rfl,(fun r h=>by rw [d_.1 h];exact(OY (f:={f with data:=⟨#[]⟩}) hf NZ).ok),(fun r h=>by rw [d_.1 h];exact Ro hf H)⟩
theorem oE{code:Nat}(h:code≤4611686018427387903):Fu [ED code]=some (Ak (ED code)):=by
 unfold Fu;rw [if_pos ⟨Ce,fun f hf=>by rw [d_.1 hf];exact nU h⟩,Kb]
theorem TT(code:Nat):(Ak (ED code)).length≤9:=by
 have:=C5 code
 have e:Ak (ED code)=[28]++AS code:=rfl;rw [e,a_];simp only [j_];omega
set_option maxHeartbeats 2000000 in
theorem mY(cb t:Nat)(m:Aj)(R:HP)(hm:m.ok)(hi:AY t m.s)(ht:t<1000000):
  Fn Tryz.prog B 135 [ptr cb 0] (Ac cb m*R) (fun v H'=>∃m':Aj,m'.ok∧m'.s=m.s.HR.2∧Pm (Ac cb m'*R) m.s.HR.1 v H'):=by
 refine mI Tryz.func135 ?_;refine Au Nz ?_;have hks:m.x.ks.length=16:=hi.ks;have hcd:m.x.code≤4611686018427387903:=hi.code;have hnx:m.x.next≤20*t:=hi.nx;refine HI ?_;refine mc (fun h9=>?_) (fun h9=>?_)
 ·refine J7 ?_;exact mR [2] (Ac cb m*R) (hE:=by rw [Df];infer_instance) rfl rfl (by unfold AD.HR;rw [if_pos (show m.s.said=true from h9)];exact⟨m,hm,rfl,.nil _⟩)
 refine jO ?_;refine JL (FV (cs:=AQ (C6 (ED m.x.code))) rfl rfl rfl (AC.one (C6 (ED m.x.code)))) ?_;refine Am (HD (cs:=AQ (C6 (ED m.x.code))) rfl Cq rfl rfl) rfl ?_;rintro _ _ ⟨b19,rfl,rfl⟩;refine BQ (H':=AB b19 0 [C6 (ED m.x.code)] []*(AX cb {m.x with said:=true}*(AZ m.x.gq m.ga m.AI*(BB cb m.ws*(Be cb m.rs*(DS m*R)))))) (by unfold AB;rw [h_,show AG [C6 (ED m.x.code)]=AQ (C6 (ED m.x.code))from h_ _]) ?_;refine mE rfl (oM [ED m.x.code] (some ⟨b19,0,none⟩) 1 b19 0 [C6 (ED m.x.code)] _ (vE _ b19 _ rfl) (fun r h=>by rw [d_.1 h];exact OY rfl NZ) (by show(1:Nat)<_;decide) (by rw [Kb];have:=TT m.x.code;omega)) ?_;intro v20 H20 h20;rw [oE hcd]at h20;obtain⟨_,rfl,p20,b20,o20,c20,s20,rfl,hs20,hc20,rfl⟩:=h20;have hcl:=TT m.x.code;refine J8 ?_;refine mA 9 11 ?_;refine GZ ?_;refine Jn 1 ?_;refine Lm ?_;refine JT 3 rfl (D6 (l:=AG m.x.ks++[u8 (Ae m.x.first)]) rfl Y6) ?_;refine Lw ?_;refine Jm 8 ?_
 refine Av 9 Cb rfl rfl (BS (vs:=[.agg (AG m.x.ks++[u8 (Ae m.x.first)]).toArray,u64 (g' m.x.next),.slice p20 (Ak (ED m.x.code)).length c20]) gM (ZH m.x.ks hks (Ae m.x.first) (g' m.x.next) (Ak (ED m.x.code)) p20 b20 o20 c20 _ hs20 inferInstance Ca)) ?_;rintro _ _ ⟨p32,b32,o32,c32,s32,rfl,hs32,hc32,rfl⟩;refine Dc ?_;refine Ei 10 Cb rfl rfl F7 EY ?_;refine JD ?_;refine J7 ?_;refine JL (Jq (i:=m.x.next) (j:=1) rfl rfl Ca) ?_;refine J8 ?_;refine LF ?_;rintro _ _ ⟨b41,rfl,rfl⟩;refine J4 ?_
 have efw:m.s.HR=([Bk m.x.ks (Ae m.x.first) (g' m.x.next) (Ak (ED m.x.code))],{m.s with said:=true,next:=m.s.next+1}):=by
  unfold AD.HR;rw [if_neg (by rw [show m.s.said=false from h9];simp)];rfl
 generalize hzs:Bk m.x.ks (Ae m.x.first) (g' m.x.next) (Ak (ED m.x.code))=zs at*
 obtain⟨pk,hpk⟩:∃pk:Jz,pk=⟨[⟨zs,⟨p32,b32,o32,c32,s32⟩⟩],⟨some ⟨b41,0,none⟩,b41,0,1,[]⟩⟩:=Bl
 have hpok:pk.ok [zs]:=by
  rw [hpk];exact⟨⟨CS,rfl⟩,(fun p hp=>by rw [d_.1 hp];exact⟨hs32,hc32⟩),rfl⟩
 exact mR [2] (DX pk*(Ac cb (m.Aq {m.x with said:=true,next:=m.x.next+1})*R)) (hE:=⟨fun ww hw=>Sat.right (A:=AB b20 o20 (Ak (ED m.x.code)) s20*AB b19 0 [C6 (ED m.x.code)] []) (ki (by
  congr 1
  rw [Df,hpk]
  unfold DX
  rw [Fw,FM]
  show _=AB b20 o20 (Ak (ED m.x.code)) s20*AB b19 0 [C6 (ED m.x.code)] []*(HP.AA b41 0 [.slice p32 zs.length c32]*(AB b32 o32 zs s32*HP.BN)*(AX cb {m.x with said:=true,next:=m.x.next+1}*(AZ m.x.gq m.ga m.AI*(BB cb m.ws*(Be cb m.rs*(DS m*R))))))
  rw [HP.Ge]
  ac_rfl) hw)⟩) rfl rfl
  (by rw [efw];exact⟨m.Aq {m.x with said:=true,next:=m.x.next+1},⟨hm.g,hm.ws,hm.rs,hm.fl,hm.lo,hm.fa,hm.la,hm.fv,hm.lv⟩,rfl,pk,hpok,by rw [hpk];rfl,rfl⟩)
end
section
variable{B:World}
section
variable{P:Program}{n:Nat}{E:A5}{D:B6}{H:HP}{d:Option Tmp}{T T' ty:TypeId}{pos:String}{af:Array Edge}{g:Option (Nat×Bool)}{x y z u:Operand}
theorem H! {p:Option Addr}{k c sz h m:Nat}{e:TypeId}{jk mk:IntKind}[hT:Az P T (.slice e)][hz:Bp P e sz](hx:ev E x=some (.slice p k c))(hz':ev E z=some (.int jk h))(hu:ev E u=some (.int mk m))
  (hc:h≤m∧m≤c):Af P B n ⟨d,.slice T x none (some z) (some u),ty,pos,af,g⟩ E H (.slice p h m):=by
 intro a w he _;simp only [execOp,he.ev hx,Option.map_some,Option.map_none,he.ev hz',he.ev hu,Instr.sliceAt,Instr.slice,Instr.sliceBounds,Sem.run_bind,Br hT.get,Result.andThen_ok,Sem.run_pure,GQ hc.1,GQ hc.2,hz.get,Option.isSome_some,Option.isSome_none];cases p<;>simp [Addr.add]
end
instance drh_body(db:Nat)(m:De):Ai B (BU db m) m.a.b m.a.o m.d.b:=by unfold BU;infer_instance
theorem Qr{ws:List Bi}{k:Nat}(hk:k<ws.length):(ws.map (·.w)).getD k Ab=(ws.getD k AC.AK).w:=by
 simp only [c_,f_,g_ hk];rfl
theorem VG(d:BK)(ws:List AR){k:Nat}(hk:k<4):C7 d ws k (4-k)=C7 (Dj k (d.room+1) (ws.getD k Ab) d).2 (ws.set k (Dj k (d.room+1) (ws.getD k Ab) d).1) (k+1) (4-(k+1)):=by
 rw [show 4-k=4-(k+1)+1 by omega,C7]
theorem vP{k AF:Nat}(hk:k<4){ws:List AR}{d:BK}{w2:AR}{d2:BK}(hw:Dd AF ws)(hd:I8 ws d)(e:(ws.getD k Ab).fill d k=some (w2,d2)):
  C7 d ws k (4-k)=C7 d2 (ws.set k w2) k (4-k):=by
 rw [VG d ws hk,VG d2 _ hk,r6 hk hw hd e,set_set];rw [Bs,if_pos ⟨rfl,Te⟩]
theorem xZ{k:Nat}(hk:k<4){ws:List AR}{d:BK}(e:(ws.getD k Ab).fill d k=none):C7 d ws k (4-k)=C7 d ws (k+1) (4-(k+1)):=by
 rw [VG d ws hk,rW e,Q0]
structure PI(AF:Nat)(ws0:List AR)(d0:BK)(ws:List Bi)(dm:De):Prop where
 OM:∀w∈ws,w.ok
 Zy:dm.ok
 f:Ho AF ws0 d0 (ws.map (·.w)) dm.d
theorem PI.len{AF:Nat}{ws0:List AR}{d0:BK}{ws:List Bi}{dm:De}(h:PI AF ws0 d0 ws dm):ws.length=4:=by
 have:=h.f.Ey.len;simpa using this
def Aj.PN(m:Aj)(ws:List Bi):Aj:={m with ws:=ws}
theorem wM(cb:Nat)(m:Aj)(ws:List Bi)(R:HP):Ac cb (m.PN ws)*R=AX cb m.x*(BB cb ws*(Fs m cb*R)):=Hw cb (m.PN ws) R
set_option maxHeartbeats 8000000 in
theorem de(cb t:Nat)(m0:Aj)(R:HP)(hm:m0.ok)(hi:AY t m0.s)(ht:t<1000000):
  Fn Tryz.prog B 92 [ptr cb 0] (Ac cb m0*R) (fun v H'=>∃m':Aj,m'.ok∧m'.s=m0.s.As.2∧Pm (Ac cb m'*R) m0.s.As.1 v H'):=by
 refine mI Tryz.func92 ?_;have hks:m0.x.ks.length=16:=hi.ks;refine Au (Df cb m0 R) ?_;refine Pb ?_;refine mC (fun h12=>?_) (fun h12=>?_)
 ·refine J1 ?_;refine Au (Df cb m0 R).symm ?_;refine J2 ?_;refine mE rfl (mY cb t m0 R hm hi ht) ?_;rintro v14 H14 h14;refine J5 ?_;exact mR [2] H14 rfl rfl (by obtain⟨m',h1,h2,h3⟩:=h14;unfold AD.As;rw [if_pos (show m0.s.closed≠0 from h12)];exact⟨m',h1,h2,h3⟩)
 refine W3 ?_;refine DF (α:=List AT×A8) (fun z=>[(0,ptr cb 0),(3,.slice none 0 0),(4,z.2.v z.1.length)]) (fun z=>Ac cb (m0.Aq {m0.x with answer:=false})*(z.2.h z.1*R)) (fun z=>z.2.ok z.1∧z.1=if m0.s.answer then m0.s.AI.l.reverse else []) ?_ ?_
 ·refine mc (fun h18=>?_) (fun h18=>?_)
  ·refine Fe ?_;refine mE rfl (Vh m0.x.gq _) ?_;rintro _ _ ⟨b26,rfl,rfl⟩;refine mE rfl (oX 166 [ptr b26 0] m0.AI.l.reverse _ _ (by rintro ys ⟨mm,hmm,rfl⟩;have h7:=hi.AI.len;rw [hi.gm]at h7;have h8:m0.AI.l.length≤8:=h7;unfold Gl;simp;omega) (Tz m0.x.gq b26 m0.ga m0.AI _ hm.g (by have h7:=hi.AI.len;rw [hi.gm]at h7;have h8:m0.AI.l.length≤8:=h7;omega))) ?_;rintro _ _ ⟨p27,b27,o27,c27,s27,rfl,hs27,hc27,rfl⟩;refine J2 ?_;refine D2 (H':=HP.AA b26 0 [ptr m0.x.gq 0]*(Ac cb (m0.Aq {m0.x with answer:=false})*(AB b27 o27 m0.AI.l.reverse s27*R))) ?_ ?_
   ·rw [Df];show _=HP.AA b26 0 [ptr m0.x.gq 0]*(AX cb {m0.x with answer:=false}*(AZ m0.x.gq m0.ga m0.AI*(BB cb m0.ws*(Be cb m0.rs*(DS m0*(AB b27 o27 m0.AI.l.reverse s27*R))))));ac_rfl
   exact Bo _ (BJ (m0.AI.l.reverse,⟨p27,b27,o27,c27,s27⟩) ⟨⟨hs27,hc27⟩,by rw [if_pos (show m0.s.answer=true from h18)];rfl⟩ Ea rfl)
  refine J1 ?_;refine D2 (H':=Ac cb (m0.Aq {m0.x with answer:=false})*(Bc.h ([]:List AT)*R)) ?_ ?_
  ·rw [Df,HB,HP.BR];show _=AX cb {m0.x with answer:=false}*(AZ m0.x.gq m0.ga m0.AI*(BB cb m0.ws*(Be cb m0.rs*(DS m0*R))));rw [←h18]
  exact BJ ([],Bc) ⟨D',by rw [if_neg (by rw [show m0.s.answer=false from h18];simp)]⟩ Ea rfl
 ·rintro⟨tf,⟨tp,tb,ob,tc,ts⟩⟩ ⟨hta,htf⟩;dsimp only at hta htf⊢
  obtain⟨z0,hz0⟩:∃z0:A4,z0=⟨{m0.s with answer:=false},tf,[]⟩:=Bl
  have hz0k:Bx (t+1) z0:=by rw [hz0,htf];exact Bx.begin hi
  have hmu0:0+z0.mu≤18:=(by have h7:=hz0k.tl;unfold A4.mu;omega)
  rw [hz0]at hmu0
  have hep:m0.s.As=((B0 40 z0).out,(B0 40 z0).c):=by
   unfold AD.As;rw [if_neg (show ¬m0.s.closed≠0 from h12),hz0,htf]
  refine J2 ?_
  refine Bj (α:=Aj×Jz×List (List UInt8)×List AT×Option Addr×Nat×Nat) (fun z=>[(0,ptr cb 0),(3,z.2.1.v),(4,.slice z.2.2.2.2.1 z.2.2.2.1.length z.2.2.2.2.2.2)]) (fun z=>Ac cb z.1*(DX z.2.1*(AB tb ob tf ts*R))) (fun z=>z.1.ok∧z.2.1.ok z.2.2.1∧Bx (t+1) ⟨z.1.s,z.2.2.2.1,z.2.2.1⟩∧B0 40 ⟨z.1.s,z.2.2.2.1,z.2.2.1⟩=B0 40 z0∧Sl z.2.2.2.2.1 tb z.2.2.2.2.2.1 z.2.2.2.1.length z.2.2.2.2.2.2∧Ai B (AB tb ob tf ts) tb z.2.2.2.2.2.1 z.2.2.2.1∧z.2.2.1.length+(⟨z.1.s,z.2.2.2.1,z.2.2.1⟩:A4).mu≤18) (fun z=>(⟨z.1.s,z.2.2.2.1,z.2.2.1⟩:A4).mu) (m0.Aq {m0.x with answer:=false},⟨[],Bc⟩,[],tf,tp,ob,tc) ⟨⟨hm.g,hm.ws,hm.rs,hm.fl,hm.lo,hm.fa,hm.la,hm.fv,hm.lv⟩,⟨D',(fun _ h=>nomatch h),rfl⟩,by rw [hz0]at hz0k;exact hz0k,by rw [hz0];rfl,hta.1,inferInstance,hmu0⟩ Ea (by unfold DX;rw [HB,FM,HP.BR,HP.BR]) ?_
  rintro⟨m,pk,outs,told,q,to,cc⟩ ⟨hmk,hpk,hz,hzp,hqs,hqr,hmu⟩;dsimp only at hmk hpk hz hzp hqs hqr hmu⊢;have hci:=hz.c;have hks2:m.x.ks.length=16:=hci.ks;have hm1:64≤m.x.AJ:=hci.m1;have hm2:m.x.AJ≤300:=hci.m2;have hnx:m.x.next≤20*(t+1):=hci.nx;have htl:told.length≤8:=hz.tl;have htd:Told told:=hz.told;have hfil:=hz.filled;have Gb:=KL hci htd htl;refine Au (Df cb m _) ?_;refine J8 ?_;refine JL (Iy (j:=16) rfl rfl Ca) ?_;refine JL (FV (cs:=[.slice none 0 0,.slice none 0 0,iN (m.x.AJ-16),.bool false]) rfl rfl rfl Cf) ?_;refine Am (Dn (l:=[.slice none 0 0,.slice none 0 0,iN (m.x.AJ-16),.bool false]) rfl rfl) rfl ?_;rintro _ _ ⟨b35,rfl,rfl⟩;refine J5 ?_;refine Au (H':=BU b35 (⟨⟨[],m.x.AJ-16⟩,Bc,[],Bc⟩:De)*(Ac cb m*(DX pk*(AB tb ob tf ts*R)))) (by rw [Df];unfold BU;show _=HP.AA b35 0 [.slice none 0 0,.slice none 0 0,iN (m.x.AJ-16),.bool false]*(Bc.h ([]:List UInt8)*Bc.h ([]:List RF))*_;rw [HB,HB,HP.BR,HP.Ge]) ?_
  have hd0:De.ok (⟨⟨[],m.x.AJ-16⟩,Bc,[],Bc⟩:De):=⟨D',D',rfl,by show m.x.AJ-16≤284;omega,lh _⟩
  refine J9 ?_;refine JL Ur ?_;refine J2 ?_;refine DF (α:=De×List AT×Option Addr×Nat×Nat) (fun z=>[(5,ptr b35 0),(0,ptr cb 0),(3,pk.v),(4,.slice z.2.2.1 z.2.1.length z.2.2.2.2)]) (fun z=>BU b35 z.1*(Ac cb m*(DX pk*(AB tb ob tf ts*R)))) (fun z=>z.1.ok∧z.1.d=m.s.Bt told∧z.2.1=(⟨m.s,told,outs⟩:A4).Gh∧Sl z.2.2.1 tb z.2.2.2.1 z.2.1.length z.2.2.2.2∧Ai B (AB tb ob tf ts) tb z.2.2.2.1 z.2.1) ?_ ?_
  ·refine mC (fun h39=>?_) (fun h39=>?_)
   ·refine J2 ?_;have hne0:told≠ []:=List.length_pos_iff.1 h39;refine Bj (α:=Nat) (fun n=>[(6,iN n),(5,ptr b35 0),(0,ptr cb 0),(3,pk.v),(4,.slice q told.length cc)]) (fun _=>BU b35 (⟨⟨[],m.x.AJ-16⟩,Bc,[],Bc⟩:De)*(Ac cb m*(DX pk*(AB tb ob tf ts*R)))) (fun n=>(1≤n∧n≤told.length)∧DZ told (m.x.AJ-16) n=DZ told (m.x.AJ-16) told.length) (fun n=>n) told.length ⟨⟨h39,kf _⟩,rfl⟩ HK rfl ?_;rintro n ⟨hnl,hnA0⟩;dsimp only at hnl hnA0⊢
    have htn:(told.take n).length=n:=by rw [kq];omega
    have htne:told.take n≠ []:=fun h=>by rw [h]at htn;simp at htn;omega
    have hokA:CA (BT (told.take n)):=gT ((htd.take n).F8 htne);have hrdT:Ai B (AB tb ob tf ts) tb to (told.take n):=inferInstance;refine J2 ?_;refine DF (α:=Unit) (fun _=>[(54,.bool (decide (1<n∧(m.x.AJ-16)<(Ak (BT (told.take n))).length))),(6,iN n),(5,ptr b35 0),(0,ptr cb 0),(3,pk.v),(4,.slice q told.length cc)]) (fun _=>BU b35 (⟨⟨[],m.x.AJ-16⟩,Bc,[],Bc⟩:De)*(Ac cb m*(DX pk*(AB tb ob tf ts*R)))) (fun _=>True) ?_ ?_
    ·refine mA 15 15 ?_;refine GZ ?_;refine JT 1 rfl (Gj (j:=1) rfl rfl) ?_;refine Jm 2 ?_;refine Gv 42 rfl (fun hg1=>?_) (fun hg1=>?_)
     ·have h42:1<n:=hg1;refine JY 3 rfl T1 Bd ?_;refine JY 4 rfl T1 Bd ?_;refine JY 5 rfl T1 (PB (k':=(told.take n).length) rfl rfl Vm htn) ?_;refine JY 6 rfl T1 (FV (cs:=AQ (⟨BT (told.take n),q,tb,to,cc,[]⟩:RF)) rfl rfl rfl (AC.one (⟨BT (told.take n),q,tb,to,cc,[]⟩:RF))) ?_;refine JY 9 rfl T1 Bd ?_;refine JY 10 rfl T1 CT ?_;refine JY 11 rfl T1 BW ?_;refine JY 12 rfl T1 Bg ?_;refine jA ?_;refine QJ 7 Cb rfl rfl rfl rfl T1 (BS rfl (WG (⟨BT (told.take n),q,tb,to,cc,[]⟩:RF) none 0 0 0 [] [] _ ⟨⟨hqs.1,by show(told.take n).length≤cc;have:=hqs.2;omega⟩,cM,NZ⟩ (show Ai B _ tb to (told.take n)from(let _:=hrdT;inferInstance)) Gi rfl Cc (by show Dr 3;unfold Dr;decide) ⟨by show(3:Int)≤3;decide,RS⟩ hokA)) ?_;rintro _ _ ⟨p47,b47,o47,c47,s47,Q47,rfl,hs47,hc47,rfl,hk47⟩;rw [ky]at*;refine BL ?_;refine JY 8 rfl T1 Ft ?_
      refine JY 13 rfl T1 IG ?_;refine JT 14 rfl GM ?_;refine JD ?_;exact Bo (BU b35 (⟨⟨[],m.x.AJ-16⟩,Bc,[],Bc⟩:De)*(Ac cb m*(DX pk*(AB tb ob tf ts*R)))) (BJ () trivial (.cons (congrArg (fun bb=>some (Value.bool bb)) (decide_eq_decide.2 ⟨fun h=>⟨h42,h⟩,fun h=>h.2⟩)) HK) rfl)
     have h42:¬1<n:=hg1;refine JN 3 rfl F1 ?_;refine JN 4 rfl F1 ?_;refine JN 5 rfl F1 ?_;refine JN 6 rfl F1 ?_;refine JN 9 rfl F1 ?_;refine JN 10 rfl F1 ?_;refine JN 11 rfl F1 ?_;refine JN 12 rfl F1 ?_;refine jA ?_;refine Tb 7 Cb rfl rfl rfl rfl F1 Ti ?_;refine JN 8 rfl F1 ?_;refine JN 13 rfl F1 ?_;refine JT 14 rfl E9 ?_;refine JD ?_;exact BJ () trivial (.cons (congrArg (fun bb=>some (Value.bool bb)) (decide_eq_false (fun h=>h42 h.1)).symm) HK) M2
    ·rintro _ _;refine J1 ?_;refine mC (fun h54=>?_) (fun h54=>?_)
     ·refine J5 ?_;refine JL Oz ?_;refine J3 ?_;exact Ba (n-1) ⟨⟨Ca,Ca⟩,by rw [←hnA0];obtain⟨n2,rfl⟩:∃n2,n=n2+2:=⟨n-2,Ca⟩;rw [DZ,if_pos h54.2];rfl⟩ (by show n-1<n;omega) HK rfl
     have hnA:DZ told (m.x.AJ-16) told.length=n:=by
      rw [←hnA0]
      match n,hnl.1 with
      |1,_=>rfl
      |n2+2,_=>rw [DZ,if_neg (fun h=>h54 ⟨Ca,h⟩)]
     refine B1 ?_;refine JL (A9 (v':=.slice q (told.take n).length n) (H! rfl rfl rfl ⟨kf _,Vm⟩) (by rw [htn])) ?_;refine JL (FV (cs:=AQ (⟨BT (told.take n),q,tb,to,n,[]⟩:RF)) rfl rfl rfl (AC.one (⟨BT (told.take n),q,tb,to,n,[]⟩:RF))) ?_;refine mE rfl (TZ b35 (⟨⟨[],m.x.AJ-16⟩,Bc,[],Bc⟩:De) (⟨BT (told.take n),q,tb,to,n,[]⟩:RF) _ hd0 hokA ⟨by show(3:Int)≤3;decide,RS⟩ ⟨⟨.inr (hqs.1.resolve_left Vm),by show(told.take n).length≤n;omega⟩,cM,NZ⟩ (hr:=show Ai B _ tb to (told.take n)from(let _:=hrdT;inferInstance))) ?_;rintro _ _ ⟨dm2,hd2,hde2,rfl,rfl⟩;refine J5 ?_;refine JL (LK rfl rfl hnl.2) ?_;refine J2 ?_;refine BJ (dm2,told.drop n,sp q cc n 2,to+n*2,cc-n) ⟨hd2,?_,?_,E3 hqs hnl.2 hqs.2 (by rw [ll]),hqr.Ke n⟩ (.cons rfl (.cons rfl (.cons rfl (.cons ?_ .nil)))) rfl
     ·rw [hde2]
      have hadd:(⟨[],m.x.AJ-16⟩:BK).add (BT (told.take n))=some ⟨[]++[BT (told.take n)],m.x.AJ-16⟩:=by
       unfold BK.add
       rw [if_neg (by
        have h7:=Zz hci hne0
        have h8:(DZ told (m.s.AJ-16) told.length)=n:=hnA
        rw [h8]at h7
        have h9:m.s.AJ=m.x.AJ:=rfl
        rw [h9]at h7
        show ¬m.x.AJ-16<(([]:List UInt8)++Ak (BT (told.take n))).length
        rw [ky];omega)]
      show((⟨[],m.x.AJ-16⟩:BK).add (BT (told.take n))).getD _=_;rw [hadd];unfold AD.Bt;rw [if_neg hne0];have h8:(DZ told (m.s.AJ-16) told.length)=n:=hnA;rw [h8];rfl
     ·show _=told.drop (DZ told (m.s.AJ-16) told.length);have h8:(DZ told (m.s.AJ-16) told.length)=n:=hnA;rw [h8]
     ·show some (Value.slice _ _ _)=some (Value.slice _ _ _);rw [ll]
   refine J1 ?_;obtain rfl:told=[]:=kr.1 Ca;exact BJ ((⟨⟨[],m.x.AJ-16⟩,Bc,[],Bc⟩:De),[],q,to,cc) ⟨hd0,rfl,rfl,hqs,hqr⟩ Hq rfl
  ·rintro⟨dm,Gh,q2,to2,cc2⟩ ⟨hdm,hdd,htold2,hqs2,hqr2⟩;dsimp only at hdm hdd htold2 hqs2 hqr2⊢;refine J3 ?_;refine Au (H':=AX cb m.x*(BU b35 dm*(AZ m.x.gq m.ga m.AI*(BB cb m.ws*(Be cb m.rs*(DS m*(DX pk*(AB tb ob tf ts*R)))))))) (by rw [Df];ac_rfl) ?_
   have hfl10:m.fl.length≤10:=by have:=hci.fl;simpa [Aj.s]using this
   refine J4 ?_;refine JL (A9 ER hmk.fv) ?_;refine J1 ?_;refine JL (ES (i:=m.fl.length) (j:=10) rfl rfl) ?_;refine J2 ?_;refine DF (α:=List Bi×De) (fun z=>[(5,ptr b35 0),(0,ptr cb 0),(3,pk.v),(4,.slice q2 Gh.length cc2)]) (fun z=>BB cb z.1*(BU b35 z.2*(AX cb m.x*(Fs m cb*(DX pk*(AB tb ob tf ts*R)))))) (fun z=>(∀w∈z.1,w.ok)∧z.2.ok∧z.1.map (·.w)=(⟨m.s,told,outs⟩:A4).filled.1∧z.2.d=(⟨m.s,told,outs⟩:A4).filled.2) ?_ ?_
   ·refine mC (fun h72=>?_) (fun h72=>?_)
    ·refine J2 ?_;refine HQ ?_
     have hff:(⟨m.s,told,outs⟩:A4).filled=C7 (m.s.Bt told) m.s.ws 0 4:=by
      unfold A4.filled;rw [if_pos (by show(m.fl.map (·.An)).length<10;rw [e_];exact h72)]
     refine Bj (α:=Nat×List Bi×De) (fun z=>[(73,iN z.1),(5,ptr b35 0),(0,ptr cb 0),(3,pk.v),(4,.slice q2 Gh.length cc2)]) (fun z=>BB cb z.2.1*(BU b35 z.2.2*(AX cb m.x*(Fs m cb*(DX pk*(AB tb ob tf ts*R)))))) (fun z=>z.1≤4∧PI m.s.AF m.s.ws (m.s.Bt told) z.2.1 z.2.2∧C7 z.2.2.d (z.2.1.map (·.w)) z.1 (4-z.1)=C7 (m.s.Bt told) m.s.ws 0 4) (fun z=>4-z.1) (0,m.ws,dm) ⟨lh _,⟨hmk.ws,hdm,by rw [hdd];exact .refl hci.ws Gb⟩,by rw [hdd];rfl⟩ HK U2 ?_;rintro⟨k,wz,dz⟩ ⟨hk4,hF,hT⟩;dsimp only at hk4 hF hT⊢;refine J2 ?_;refine JL (ES (j:=4) rfl rfl) ?_;refine J3 ?_;refine mC (fun h74=>?_) (fun h74=>?_)
     ·refine B1 ?_;refine Bj (α:=List Bi×De) (fun z=>[(7,iN k),(73,iN k),(5,ptr b35 0),(0,ptr cb 0),(3,pk.v),(4,.slice q2 Gh.length cc2)]) (fun z=>BB cb z.1*(BU b35 z.2*(AX cb m.x*(Fs m cb*(DX pk*(AB tb ob tf ts*R)))))) (fun z=>PI m.s.AF m.s.ws (m.s.Bt told) z.1 z.2∧C7 z.2.d (z.1.map (·.w)) k (4-k)=C7 (m.s.Bt told) m.s.ws 0 4) (fun z=>z.2.d.room-z.2.d.b.length) (wz,dz) ⟨hF,hT⟩ GE rfl ?_;rintro⟨wz1,dz1⟩ ⟨hF1,hT1⟩;dsimp only at hF1 hT1⊢;have hl1:=hF1.len;have hwk:=hF1.f.Ey.ok k h74;rw [Qr Ca]at hwk;refine J6 ?_;refine mE rfl (al cb b35 k m.s.AF wz1 dz1 _ hl1 h74 hF1.OM hwk hF1.Zy) ?_;rintro v79 _ ⟨wm',dm',hwm',hdm',hfi,rfl⟩
      obtain⟨b79,rfl⟩:∃b79:Bool,v79=.bool b79:=by
       unfold ZC at hfi;split at hfi
       ·exact⟨_,hfi.1⟩
       ·exact⟨_,hfi.1⟩
      refine J2 ?_;refine mc (fun h79=>?_) (fun h79=>?_)
      ·subst h79;refine J5 ?_
       obtain⟨z79,hz79⟩:∃zz,(wz1.getD k AC.AK).w.fill dz1.d k=some zz:=by
        cases e:(wz1.getD k AC.AK).w.fill dz1.d k with
        |none=>rw [e]at hfi;obtain⟨e1,_,_⟩:=hfi;cases e1
        |some zz=>exact⟨zz,rfl⟩
       obtain⟨w2,d2⟩:=z79;rw [hz79]at hfi;obtain⟨_,hfi1,hfi2⟩:=hfi;dsimp only at hfi1 hfi2
       have e9:((wz1.map (·.w)).getD k Ab).fill dz1.d k=some (w2,d2):=by rw [Qr Ca];exact hz79
       obtain⟨hst1,hst2⟩:=hF1.f.step h74 e9
       have hms:(wz1.set k wm').map (·.w)=(wz1.map (·.w)).set k w2:=by rw [kt,hfi1]
       exact Ba (wz1.set k wm',dm') ⟨⟨fun a ha=>Kt (P:=Bi.ok) hF1.OM hwm' ha,hdm',by rw [hms,hfi2];exact hst1⟩,by rw [hms,hfi2,←hT1];exact(vP h74 hF1.f.Ey hF1.f.HV e9).symm⟩ (by show dm'.d.room-dm'.d.b.length<dz1.d.room-dz1.d.b.length;rw [hfi2];have h7:=hst1.room;have h8:=hF1.f.room;have h9:=hst1.HV.len;omega) GE rfl
      subst h79
      have h79n:(wz1.getD k AC.AK).w.fill dz1.d k=none:=by
       cases e:(wz1.getD k AC.AK).w.fill dz1.d k with
       |none=>rfl
       |some zz=>rw [e]at hfi;obtain⟨e1,_,_⟩:=hfi;cases e1
      rw [h79n]at hfi;obtain⟨_,hfi1,hfi2⟩:=hfi
      have e9:((wz1.map (·.w)).getD k Ab).fill dz1.d k=none:=by rw [Qr Ca];exact h79n
      have hms:(wz1.set k wm').map (·.w)=wz1.map (·.w):=by rw [kt,hfi1,←Qr Ca,Q0]
      have hF2:PI m.s.AF m.s.ws (m.s.Bt told) (wz1.set k wm') dm':=⟨fun a ha=>Kt (P:=Bi.ok) hF1.OM hwm' ha,hdm',by rw [hms,hfi2];exact hF1.f⟩
      have hT3:C7 dm'.d ((wz1.set k wm').map (·.w)) (k+1) (4-(k+1))=C7 (m.s.Bt told) m.s.ws 0 4:=by rw [hms,hfi2,←hT1];exact(xZ h74 e9).symm
      refine J7 ?_;refine D7 ?_;exact Ba (k+1,wz1.set k wm',dm') ⟨Ca,hF2,hT3⟩ Rv HK rfl
     obtain rfl:k=4:=by omega
     have hT:wz.map (·.w)=(⟨m.s,told,outs⟩:A4).filled.1∧dz.d=(⟨m.s,told,outs⟩:A4).filled.2:=by
      rw [hff,←hT];exact BY
     refine J4 ?_;exact BJ (wz,dz) ⟨hF.OM,hF.Zy,hT.1,hT.2⟩ Hq rfl
    refine J1 ?_
    have hff:(⟨m.s,told,outs⟩:A4).filled=(m.s.ws,m.s.Bt told):=by
     unfold A4.filled;rw [if_neg (by show ¬(m.fl.map (·.An)).length<10;rw [e_];exact h72)]
    exact BJ (m.ws,dm) ⟨hmk.ws,hdm,by rw [hff];rfl,by rw [hff];exact hdd⟩ Hq U2
   ·rintro⟨wz,dz⟩ ⟨hwz,hdz,hwf,hdf⟩;dsimp only at hwz hdz hwf hdf⊢;refine Au (H':=BU b35 dz*(AX cb m.x*(AZ m.x.gq m.ga m.AI*(BB cb wz*(Be cb m.rs*(DS m*(DX pk*(AB tb ob tf ts*R)))))))) U2 ?_;refine J8 ?_;refine JL (CN (i:=dz.rs.length) (j:=0) rfl rfl) ?_;refine J2 ?_;refine mC (fun h86=>?_) (fun h86=>?_)
    ·refine B1 ?_
     have hfr:(⟨m.s,told,outs⟩:A4).filled.2.Ag=[]:=by
      rw [←hdf,←hdz.map,kr.1 h86];rfl
     have hfin:m0.s.As=(outs,{m.s with ws:=wz.map (·.w)}):=by
      rw [hep,←hzp,gh hfr,hwf]
     exact mR [2] (DX pk*(Ac cb (m.PN wz)*R)) (hE:=⟨fun ww hw=>Sat.right (A:=BU b35 dz*AB tb ob tf ts) (ki (by
      congr 1
      rw [wM]
      unfold Fs
      ac_rfl) hw)⟩) rfl rfl (by rw [hfin];exact⟨m.PN wz,⟨hmk.g,hwz,hmk.rs,hmk.fl,hmk.lo,hmk.fa,hmk.la,hmk.fv,hmk.lv⟩,rfl,pk,hpk,rfl,rfl⟩)
    have hne:(⟨m.s,told,outs⟩:A4).filled.2.Ag≠ []:=by
     rw [←hdf,←hdz.map];intro h;exact h86 (by have:=congrArg ln h;simpa using this)
    have hbl:=hdz.len;have hbr:=hdz.room;refine J3 ?_;refine Au (H':=BU b35 dz*(AX cb m.x*(AZ m.x.gq m.ga m.AI*(BB cb wz*(Be cb m.rs*(DS m*(AB pk.a.b pk.a.o pk.l pk.a.s*(AU HM pk.l*(AB tb ob tf ts*R))))))))) (by unfold DX A8.h;ac_rfl) ?_;refine ET (BU b35 dz*(AX cb m.x*(AZ m.x.gq m.ga m.AI*(BB cb wz*(Be cb m.rs*(DS m*(AU HM pk.l*(AB tb ob tf ts*R)))))))) 15 17 Ef rfl Cb ?_;refine El ?_;refine Jr ?_;refine JT 4 rfl (D6 (l:=AG m.x.ks++[u8 (Ae m.x.first)]) rfl (by rw [a_,Gk hks2];rfl)) ?_;refine Jm 5 ?_;refine NH ?_;refine PJ ?_;refine Av 13 Cb rfl rfl (BS (vs:=[.agg (AG m.x.ks++[u8 (Ae m.x.first)]).toArray,u64 (g' m.x.next),.slice dz.a.p dz.d.b.length dz.a.c]) gM (ZH m.x.ks hks2 (Ae m.x.first) (g' m.x.next) dz.d.b dz.a.p dz.a.b dz.a.o dz.a.c _ hdz.a.1 inferInstance Ca)) ?_;rintro _ _ ⟨p101,b101,o101,c101,s101,rfl,hs101,hc101,rfl⟩;generalize hzs:Bk m.x.ks (Ae m.x.first) (g' m.x.next) dz.d.b=zs at*;refine BL ?_;refine Av 14 Cb rfl rfl (HD (cs:=[.slice p101 zs.length c101]) rfl Cq rfl rfl) ?_;rintro _ _ ⟨b102,rfl,rfl⟩;refine BL ?_
    refine E5 (H':=AB pk.a.b pk.a.o pk.l pk.a.s*(HP.AA b102 0 (AG [(⟨zs,⟨p101,b101,o101,c101,s101⟩⟩:GT)])*(AB b101 o101 zs s101*(BU b35 dz*(AX cb m.x*(AZ m.x.gq m.ga m.AI*(BB cb wz*(Be cb m.rs*(DS m*(AU HM pk.l*(AB tb ob tf ts*R))))))))))) (by show HP.AA b102 0 [.slice p101 zs.length c101]*_=_;rw [show AG [(⟨zs,⟨p101,b101,o101,c101,s101⟩⟩:GT)]=[.slice p101 zs.length c101]from rfl];ac_rfl) ?_
    have hpl:pk.l.length≤18:=(by have h7:=congrArg ln hpk.map;rw [e_]at h7;omega)
    refine Av 15 Cb rfl rfl (DG (ys:=[(⟨zs,⟨p101,b101,o101,c101,s101⟩⟩:GT)]) (bb:=b102) (oo:=0) (cc:=1) rfl hpk.a.1 hpk.a.2 rfl CS inferInstance rfl Cn Ca) ?_;rintro _ _ ⟨p103,b103,o103,c103,s103,rfl,hs103,hc103,rfl⟩;refine Dc ?_;refine Ei 16 Cb rfl rfl F7 EY ?_;refine JK ?_
    obtain⟨pk2,hpk2e⟩:∃pk2:Jz,pk2=⟨pk.l++[(⟨zs,⟨p101,b101,o101,c101,s101⟩⟩:GT)],⟨p103,b103,o103,c103,s103⟩⟩:=Bl
    have hpk2:pk2.ok (outs++[zs]):=by
     rw [hpk2e];refine⟨⟨hs103,hc103⟩,fun p hp=>?_,?_⟩
     ·rcases k_.1 hp with hp|hp
      ·exact hpk.l p hp
      ·rw [d_.1 hp];exact⟨hs101,hc101⟩
     ·show(pk.l++[_]).map GT.ys=_;rw [i_,hpk.map];rfl
    have hpv:(Value.slice p103 (pk.l++[(⟨zs,⟨p101,b101,o101,c101,s101⟩⟩:GT)]).length c103)=pk2.v:=by rw [hpk2e];rfl
    rw [hpv]
    refine Hy (DX pk2*(BU b35 dz*(AX cb m.x*(AZ m.x.gq m.ga m.AI*(BB cb wz*(Be cb m.rs*(DS m*(AB tb ob tf ts*R)))))))) (hE:=⟨fun ww hw=>Sat.right (A:=HP.AA b102 0 (AG [(⟨zs,⟨p101,b101,o101,c101,s101⟩⟩:GT)])) (ki (by
     congr 1
     rw [hpk2e]
     unfold DX
     rw [KH,Fw,FM]
     show _=HP.AA b102 0 (AG [(⟨zs,⟨p101,b101,o101,c101,s101⟩⟩:GT)])*(AB b103 o103 (pk.l++[(⟨zs,⟨p101,b101,o101,c101,s101⟩⟩:GT)]) s103*(AU HM pk.l*(AB b101 o101 zs s101*HP.BN))*_)
     rw [HP.Ge]
     ac_rfl) hw)⟩) ?_
    refine J7 ?_;refine DF (α:=CC×List BH×A8) (fun z=>[(0,ptr cb 0),(3,pk2.v),(4,.slice q2 Gh.length cc2)]) (fun z=>AX cb z.1*(AZ m.x.gq m.ga m.AI*(BB cb wz*(Be cb m.rs*(z.2.2.h z.2.1*(m.la.h m.lo*(AU A2 z.2.1*(AU A2 m.lo*(DX pk2*(AB tb ob tf ts*R)))))))))) (fun z=>z.2.2.ok z.2.1∧(∀p∈z.2.1,p.ok)∧z.1={m.x with fv:=z.2.2.v z.2.1.length}∧z.2.1.map (·.An)=if DE (⟨m.s,told,outs⟩:A4).filled.2.Ag then m.s.Aa++[⟨m.s.next,m.s.now,(⟨m.s,told,outs⟩:A4).filled.2.Ag⟩]else m.s.Aa) ?_ ?_
    ·refine mc (fun h107=>?_) (fun h107=>?_)
     ·refine Au (H':=AB m.fa.b m.fa.o m.fl m.fa.s*(AX cb m.x*(BU b35 dz*(AZ m.x.gq m.ga m.AI*(BB cb wz*(Be cb m.rs*(m.la.h m.lo*(AU A2 m.fl*(AU A2 m.lo*(DX pk2*(AB tb ob tf ts*R))))))))))) (by unfold DS A8.h;ac_rfl) ?_;refine ET (AX cb m.x*(BU b35 dz*(AZ m.x.gq m.ga m.AI*(BB cb wz*(Be cb m.rs*(m.la.h m.lo*(AU A2 m.fl*(AU A2 m.lo*(DX pk2*(AB tb ob tf ts*R)))))))))) 22 23 Ef rfl Cb ?_;refine El ?_;refine Jr ?_;refine JT 4 rfl (A9 ER hmk.fv) ?_;refine Jm 5 ?_;refine NH ?_;refine PJ ?_;refine Jm 13 ?_;refine Jn 14 ?_;refine Jf 15 ?_;refine Jd 16 ?_;refine JT 17 rfl (FV (cs:=B4 (⟨m.x.next,m.x.now,dz.rs,dz.f⟩:BH)) rfl rfl rfl (AC.one (⟨m.x.next,m.x.now,dz.rs,dz.f⟩:BH))) ?_;refine Av 18 Cb rfl rfl (HD (cs:=B4 (⟨m.x.next,m.x.now,dz.rs,dz.f⟩:BH)) rfl Cq rfl rfl) ?_;rintro _ _ ⟨b126,rfl,rfl⟩;refine BL ?_
      refine E5 (H':=AB m.fa.b m.fa.o m.fl m.fa.s*(HP.AA b126 0 (AG [(⟨m.x.next,m.x.now,dz.rs,dz.f⟩:BH)])*(AX cb m.x*(BU b35 dz*(AZ m.x.gq m.ga m.AI*(BB cb wz*(Be cb m.rs*(m.la.h m.lo*(AU A2 m.fl*(AU A2 m.lo*(DX pk2*(AB tb ob tf ts*R)))))))))))) (by show HP.AA b126 0 _*_=_;rw [show AG [(⟨m.x.next,m.x.now,dz.rs,dz.f⟩:BH)]=B4 (⟨m.x.next,m.x.now,dz.rs,dz.f⟩:BH)from h_ _];ac_rfl) ?_;refine Av 19 Cb rfl rfl (DG (ys:=[(⟨m.x.next,m.x.now,dz.rs,dz.f⟩:BH)]) (bb:=b126) (oo:=0) (cc:=1) rfl hmk.fa.1 hmk.fa.2 rfl CS inferInstance rfl Cn Ca) ?_;rintro _ _ ⟨p127,b127,o127,c127,s127,rfl,hs127,hc127,rfl⟩;refine BL ?_;refine Jn 20 ?_;refine Jf 21 ?_;refine Dx 22 Cb rfl FL ?_;refine Dh ?_;refine Bo _ (BJ ({m.x with fv:=.slice p127 (m.fl++[(⟨m.x.next,m.x.now,dz.rs,dz.f⟩:BH)]).length c127},m.fl++[(⟨m.x.next,m.x.now,dz.rs,dz.f⟩:BH)],⟨p127,b127,o127,c127,s127⟩) ⟨⟨hs127,hc127⟩,fun p hp=>?_,rfl,?_⟩ Dk rfl) (hE:=?_)
      ·exact⟨fun ww hw=>Sat.right (A:=HP.AA b126 0 (AG [(⟨m.x.next,m.x.now,dz.rs,dz.f⟩:BH)])*(HP.AA b35 0 (G2 dz)*dz.a.h dz.d.b)) (ki (by
        congr 1
        rw [KH,Fw,FM]
        show _=HP.AA b126 0 (AG [(⟨m.x.next,m.x.now,dz.rs,dz.f⟩:BH)])*(HP.AA b35 0 (G2 dz)*dz.a.h dz.d.b)*(AX cb {m.x with fv:=.slice p127 (m.fl++[(⟨m.x.next,m.x.now,dz.rs,dz.f⟩:BH)]).length c127}*(AZ m.x.gq m.ga m.AI*(BB cb wz*(Be cb m.rs*(AB b127 o127 (m.fl++[(⟨m.x.next,m.x.now,dz.rs,dz.f⟩:BH)]) s127*(m.la.h m.lo*(AU A2 m.fl*(dz.f.h dz.rs*HP.BN)*(AU A2 m.lo*(DX pk2*(AB tb ob tf ts*R))))))))))
        rw [HP.Ge]
        unfold BU
        ac_rfl) hw)⟩
      ·rcases k_.1 hp with hp|hp
       ·exact hmk.fl p hp
       ·rw [d_.1 hp];exact hdz.f
      ·rw [←hdf,if_pos h107,i_];show _++[(⟨m.x.next,m.x.now,dz.rs.map (·.f)⟩:DR)]=_;rw [hdz.map];rfl
     refine J1 ?_;refine Bo _ (BJ (m.x,m.fl,m.fa) ⟨hmk.fa,hmk.fl,?_,?_⟩ Dk rfl) (hE:=?_)
     ·exact⟨fun ww hw=>Sat.right (A:=BU b35 dz) (ki (by
       congr 1
       show _=BU b35 dz*(AX cb m.x*(AZ m.x.gq m.ga m.AI*(BB cb wz*(Be cb m.rs*(m.fa.h m.fl*(m.la.h m.lo*(AU A2 m.fl*(AU A2 m.lo*(DX pk2*(AB tb ob tf ts*R))))))))))
       unfold DS
       ac_rfl) hw)⟩
     ·show m.x={m.x with fv:=m.fa.v m.fl.length};rw [←hmk.fv]
     ·rw [←hdf,if_neg (by rw [h107];simp)];rfl
    ·rintro⟨x2,fl2,fa2⟩ ⟨hfa2,hfl2,hx2,hfm2⟩;dsimp only at hfa2 hfl2 hx2 hfm2⊢;refine J1 ?_
     obtain⟨m3,hm3⟩:∃m3:Aj,m3={m with x:={x2 with next:=x2.next+1},ws:=wz,fl:=fl2,fa:=fa2}:=Bl
     have hok3:m3.ok:=by rw [hm3];exact⟨hmk.g,hwz,hmk.rs,hfl2,hmk.lo,hfa2,hmk.la,by rw [hx2],by rw [hx2];exact hmk.lv⟩
     have hs3:m3.s=((⟨m.s,told,outs⟩:A4).step).c:=by
      rw [hm3];show(⟨x2.AJ,x2.AF,x2.ks,x2.first,x2.now,x2.closed,x2.code,x2.said,x2.next+1,m.AI,x2.answer,wz.map (·.w),m.rs.map (·.r),fl2.map (·.An),m.lo.map (·.An),x2.BF,x2.waits⟩:AD)=_;rw [hfm2,hwf,hx2];rfl
     have hzs:zs=Bk m.s.ks (Ae m.s.first) (g' m.s.next) (⟨m.s,told,outs⟩:A4).filled.2.b:=by rw [←hzs,←hdf];rfl
     refine J5 ?_;refine JL (Jq (i:=x2.next) (j:=1) rfl rfl (by rw [hx2];show m.x.next+1<_;omega)) ?_;refine J5 ?_
     have eps:(⟨m3.s,Gh,outs++[zs]⟩:A4)=A4.step ⟨m.s,told,outs⟩:=by
      rw [hs3,htold2,hzs];rfl
     obtain⟨hst1,hst2⟩:=hz.step hne;refine Bo (Ac cb m3*(DX pk2*(AB tb ob tf ts*R))) (hE:=?_) ?_
     ·have hgq:x2.gq=m.x.gq:=by rw [hx2]
      rw [Df,hm3]
      exact⟨fun ww hw=>ki (by
       congr 1
       show _=AX cb {x2 with next:=x2.next+1}*(AZ x2.gq m.ga m.AI*(BB cb wz*(Be cb m.rs*((fa2.h fl2*(m.la.h m.lo*(AU A2 fl2*AU A2 m.lo)))*(DX pk2*(AB tb ob tf ts*R))))))
       rw [hgq]
       ac_rfl) hw⟩
     exact Ba (m3,pk2,outs++[zs],Gh,q2,to2,cc2) ⟨hok3,hpk2,by rw [eps];exact hst1,by rw [eps,←pD hz hne];exact hzp,hqs2,hqr2,by rw [eps,a_];simp only [j_];omega⟩ (by rw [eps];exact hst2) Ea rfl
end
section
variable{B:World}
structure Nv where
 sq:Value
 cq:Value
 h1:sq.oneCell'=true
 h2:cq.oneCell'=true
def Wj:Nv:=⟨.pointer none,.pointer none,rfl,rfl⟩
def Tc(s c:Nat):Nv:=⟨ptr s 0,ptr c 0,rfl,rfl⟩
@[reducible] def cY(m:Nv):List Value:=[.slice none 0 0,m.sq,m.cq,uN 0,.bool false,.bool false,.bool false,.bool false,uN 0,.bool false]
@[reducible] instance:AC Nv:=⟨10,cY,Wj,fun _=>rfl,fun m v h=>by
 simp at h;rcases h with rfl|rfl|rfl|rfl|rfl|rfl|rfl|rfl|rfl|rfl<;>first|rfl|exact m.h1|exact m.h2⟩
structure OO where
 cq:Value
 h1:cq.oneCell'=true
def Ua:OO:=⟨.pointer none,rfl⟩
def WB(c:Nat):OO:=⟨ptr c 0,rfl⟩
@[reducible] def kV(m:OO):List Value:=[.slice none 0 0,m.cq,uN 0,uN 0,.bool false,.bool false,uN 0,uN 0,iN 0]
@[reducible] instance:AC OO:=⟨9,kV,Ua,fun _=>rfl,fun m v h=>by
 simp at h;rcases h with rfl|rfl|rfl|rfl|rfl|rfl|rfl|rfl|rfl<;>first|rfl|exact m.h1⟩
structure FI where
 s:Nat
 c:Nat
 r:Nat
def EU(l:List FI):List Nv:=l.map (fun z=>Tc z.s z.c)++km (4-l.length) Wj
def EQ(l:List FI):List OO:=l.map (fun z=>WB z.r)++km (4-l.length) Ua
def LV(z:FI):HP:=AZ z.s DM (.of 4096)*(AZ z.c DM (.of 4096)*AZ z.r DM (.of 4096))
theorem uD(l:List FI)(h:l.length≤4):(EU l).length=4:=by unfold EU;simp;omega
theorem mZ(l:List FI)(h:l.length≤4):(EQ l).length=4:=by unfold EQ;simp;omega
theorem mV(l:List FI)(z:FI)(h:l.length<4):EU (l++[z])=(EU l).set l.length (Tc z.s z.c):=by
 unfold EU;rw [ld _ _ Ce];simp only [i_,a_,j_,e_,ku,kp,kv];rw [show 4-l.length=(4-(l.length+1))+1 by omega,kg]
 simp
theorem cy(l:List FI)(z:FI)(h:l.length<4):EQ (l++[z])=(EQ l).set l.length (WB z.r):=by
 unfold EQ;rw [ld _ _ Ce];simp only [i_,a_,j_,e_,ku,kp,kv];rw [show 4-l.length=(4-(l.length+1))+1 by omega,kg]
 simp
theorem rE(l:List FI)(h:l.length<4):(EU l).getD l.length AC.AK=Wj:=by
 unfold EU;rw [c_,kn Ce];rw [show 4-l.length=(4-(l.length+1))+1 by omega,kg]
 simp
theorem l7(l:List FI)(h:l.length<4):(EQ l).getD l.length AC.AK=Ua:=by
 unfold EQ;rw [c_,kn Ce];rw [show 4-l.length=(4-(l.length+1))+1 by omega,kg]
 simp
def JO(z:FI):Bi:=⟨Ab,Bc,z.s,DM,z.c,DM⟩
def JW(z:FI):Dt:=⟨FD,Bc,z.r,DM⟩
theorem wP(l:List FI)(h:l.length=4):AG (EU l)=AG (l.map JO):=by
 unfold EU;rw [h,ku,lj,h_]
 have:∀l:List FI,AG (l.map fun z=>Tc z.s z.c)=AG (l.map JO):=by
  intro l
  induction l with
  |nil=>rfl
  |cons z l ih=>show cY _++AG (l.map _)=Bn _++AG (l.map JO);rw [ih];rfl
 exact this l
theorem yP(l:List FI)(h:l.length=4):AG (EQ l)=AG (l.map JW):=by
 unfold EQ;rw [h,ku,lj,h_]
 have:∀l:List FI,AG (l.map fun z=>WB z.r)=AG (l.map JW):=by
  intro l
  induction l with
  |nil=>rfl
  |cons z l ih=>show kV _++AG (l.map _)=Di _++AG (l.map JW);rw [ih];rfl
 exact this l
theorem rG(l:List FI):AU LV l=AU Bu (l.map JO)*AU CQ (l.map JW):=by
 induction l with
 |nil=>rw [kv,kv,FM,FM,FM,HP.BR]
 |cons z l ih=>
  rw [kp,kp,Fw,Fw,Fw,ih]
  have e1:Bu (JO z)=AZ z.s DM (.of 4096)*AZ z.c DM (.of 4096):=by
   show AB 0 0 ([]:List UInt8) []*(AZ z.s DM (.of 4096)*AZ z.c DM (.of 4096))=_;rw [G7,HP.BR]
  have e2:CQ (JW z)=AZ z.r DM (.of 4096):=by
   show AB 0 0 ([]:List UInt8) []*AZ z.r DM (.of 4096)=_;rw [G7,HP.BR]
  rw [e1,e2];unfold LV;ac_rfl
theorem GR{b o o':Nat}(l m:List Value)(h:o+l.length=o'):HP.AA b o (l++m)=HP.AA b o l*HP.AA b o' m:=by
 rw [HP.Fa,h]
def Jp(AJ AF:Nat)(ks:List UInt8)(first:Bool)(gq:Nat):CC:=⟨AJ,AF,ks,first,0,0,0,false,0,gq,false,.slice none 0 0,.slice none 0 0,0,0⟩
def LJ(AJ AF:Nat)(ks:List UInt8)(first:Bool)(gq:Nat):List Value:=
 [iN AJ,iN AF]++((AG ks++[u8 (Ae first)])++((AG ks++[u8 (Ae (!first))])++([uN 0]++([iN 0]++([uN 0]++([.bool false]++([uN 0]++([ptr gq 0]++([.bool false]++(AG (EU [])++(AG (EQ [])++([.slice none 0 0]++([.slice none 0 0]++([uN 0]++[uN 0]))))))))))))))
theorem br(b AJ AF:Nat)(ks:List UInt8)(hk:ks.length=16)(first:Bool)(gq:Nat):
  HP.AA b 0 (LJ AJ AF ks first gq)=AX b (Jp AJ AF ks first gq)*(AB b (0+43) (EU []) []*AB b (0+83) (EQ []) []):=by
 have h1:∀s:Value,(AG ks++[s]).length=17:=fun s=>by rw [a_,Gk hk];rfl
 unfold LJ
 rw [GR _ _ (rfl:0+2=0+2),GR (o:=0+2) (o':=0+19) _ _ (by rw [h1]),GR (o:=0+19) (o':=0+36) _ _ (by rw [h1]),
  GR (o:=0+36) (o':=0+37) _ _ rfl,GR (o:=0+37) (o':=0+38) _ _ rfl,GR (o:=0+38) (o':=0+39) _ _ rfl,GR (o:=0+39) (o':=0+40) _ _ rfl,GR (o:=0+40) (o':=0+41) _ _ rfl,GR (o:=0+41) (o':=0+42) _ _ rfl,
  GR (o:=0+42) (o':=0+43) _ _ rfl,GR (o:=0+43) (o':=0+83) _ _ rfl,GR (o:=0+83) (o':=0+119) _ _ rfl,GR (o:=0+119) (o':=0+120) _ _ rfl,GR (o:=0+120) (o':=0+121) _ _ rfl,GR (o:=0+121) (o':=0+122) _ _ rfl]
 unfold AX AB Jp;rw [h_,h_];ac_rfl
def Tl:List Value:=[.int .i64 0,.int .i64 0]++([.int .u8 0,.int .u8 0,.int .u8 0,.int .u8 0,.int .u8 0,.int .u8 0,.int .u8 0,.int .u8 0,.int .u8 0,.int .u8 0,.int .u8 0,.int .u8 0,.int .u8 0,.int .u8 0,.int .u8 0,.int .u8 0,.int .u8 0]++([.int .u8 0,.int .u8 0,.int .u8 0,.int .u8 0,.int .u8 0,.int .u8 0,.int .u8 0,.int .u8 0,.int .u8 0,.int .u8 0,.int .u8 0,.int .u8 0,.int .u8 0,.int .u8 0,.int .u8 0,.int .u8 0,.int .u8 0]++([uN 0]++([iN 0]++([uN 0]++([.bool false]++([uN 0]++([.pointer none]++([.bool false]++(AG (EU [])++(AG (EQ [])++([.slice none 0 0]++([.slice none 0 0]++([uN 0]++[uN 0]))))))))))))))
theorem sK:Bb Tryz.prog 184 (.agg Tl.toArray):=by
 have h:Bb Tryz.prog 184 _:=inferInstance;refine ki (congrArg (Bb Tryz.prog 184) ?_) h;kernel_rfl
theorem PS{ks:List UInt8}(hk:ks.length=16)(s:Value):(AG ks++[s]).length=17:=by
 rw [a_,Gk hk];rfl
theorem fo(mt wi:Nat)(ks:List UInt8)(hk:ks.length=16)(first:Bool)(q37:Nat):
  Im #[(0,2),(2,17),(19,17),(36,1),(37,1),(38,1),(39,1),(40,1),(41,1),(42,1),(43,40),(83,36),(119,1),(120,1),(121,1),(122,1)] Tl
   [(0,.agg [iN mt,iN wi].toArray),(1,.agg (AG ks++[u8 (Ae first)]).toArray),(2,.agg (AG ks++[u8 (Ae (!first))]).toArray),(8,ptr q37 0)] (LJ mt wi ks first q37):=by
 have hl1:=PS hk (u8 (Ae first));have hl2:=PS hk (u8 (Ae (!first)));unfold Tl
 exact(JJ [] [.int .i64 0,.int .i64 0] ([.int .u8 0,.int .u8 0,.int .u8 0,.int .u8 0,.int .u8 0,.int .u8 0,.int .u8 0,.int .u8 0,.int .u8 0,.int .u8 0,.int .u8 0,.int .u8 0,.int .u8 0,.int .u8 0,.int .u8 0,.int .u8 0,.int .u8 0]++([.int .u8 0,.int .u8 0,.int .u8 0,.int .u8 0,.int .u8 0,.int .u8 0,.int .u8 0,.int .u8 0,.int .u8 0,.int .u8 0,.int .u8 0,.int .u8 0,.int .u8 0,.int .u8 0,.int .u8 0,.int .u8 0,.int .u8 0]++([uN 0]++([iN 0]++([uN 0]++([.bool false]++([uN 0]++([.pointer none]++([.bool false]++(AG (EU [])++(AG (EQ [])++([.slice none 0 0]++([.slice none 0 0]++([uN 0]++[uN 0])))))))))))))) [iN mt,iN wi] rfl rfl rfl rfl
 (JJ [iN mt,iN wi] [.int .u8 0,.int .u8 0,.int .u8 0,.int .u8 0,.int .u8 0,.int .u8 0,.int .u8 0,.int .u8 0,.int .u8 0,.int .u8 0,.int .u8 0,.int .u8 0,.int .u8 0,.int .u8 0,.int .u8 0,.int .u8 0,.int .u8 0] ([.int .u8 0,.int .u8 0,.int .u8 0,.int .u8 0,.int .u8 0,.int .u8 0,.int .u8 0,.int .u8 0,.int .u8 0,.int .u8 0,.int .u8 0,.int .u8 0,.int .u8 0,.int .u8 0,.int .u8 0,.int .u8 0,.int .u8 0]++([uN 0]++([iN 0]++([uN 0]++([.bool false]++([uN 0]++([.pointer none]++([.bool false]++(AG (EU [])++(AG (EQ [])++([.slice none 0 0]++([.slice none 0 0]++([uN 0]++[uN 0]))))))))))))) (AG ks++[u8 (Ae first)]) (by rw [hl1];rfl) rfl (by rw [hl1];rfl) rfl
 (JJ ([iN mt,iN wi]++(AG ks++[u8 (Ae first)])) [.int .u8 0,.int .u8 0,.int .u8 0,.int .u8 0,.int .u8 0,.int .u8 0,.int .u8 0,.int .u8 0,.int .u8 0,.int .u8 0,.int .u8 0,.int .u8 0,.int .u8 0,.int .u8 0,.int .u8 0,.int .u8 0,.int .u8 0] ([uN 0]++([iN 0]++([uN 0]++([.bool false]++([uN 0]++([.pointer none]++([.bool false]++(AG (EU [])++(AG (EQ [])++([.slice none 0 0]++([.slice none 0 0]++([uN 0]++[uN 0])))))))))))) (AG ks++[u8 (Ae (!first))]) (by rw [a_,hl1,hl2];rfl) (by simp only [ko]) (by rw [hl2];rfl) rfl
 (JJ ([iN mt,iN wi]++((AG ks++[u8 (Ae first)])++((AG ks++[u8 (Ae (!first))])++[uN 0,iN 0,uN 0,.bool false,uN 0]))) [.pointer none] ([.bool false]++(AG (EU [])++(AG (EQ [])++[.slice none 0 0,.slice none 0 0,uN 0,uN 0]))) [ptr q37 0] (by simp only [a_,hl1,hl2];rfl) (by simp only [ko];rfl) rfl rfl
 (by unfold LJ;simp only [ko];exact RB)))))
set_option maxHeartbeats 4000000 in
theorem fu(AJ AF:Int)(ks:List UInt8)(hk:ks.length=16)(first:Bool)(H:HP):
  Fn Tryz.prog B 39 [.agg [.int .i64 AJ,.int .i64 AF].toArray,.agg (AG ks).toArray,.bool first] H (fun v H'=>
   (¬Ix AJ AF∧v=.tuple #[.pointer none,D5 1]∧H'=H)∨
   (Ix AJ AF∧∃cb m,m.ok∧m.s=AD.new AJ.toNat AF.toNat ks first∧v=.tuple #[ptr cb 0,.nilIface]∧H'=Ac cb m*H)):=by
 refine mI Tryz.func39 ?_;refine J2 ?_;refine Am eU rfl ?_;rintro _ _ ⟨b3,rfl,rfl⟩;refine KQ ?_;rintro _ _ ⟨b4,rfl,rfl⟩;refine J9 ?_;refine JL (L9 (i:=AJ) (j:=64) rfl rfl) ?_;refine J1 ?_;refine EV 13 rfl (fun hg1=>?_) (fun hg1=>?_)
 ·have g1:=hg1;refine NT ?_;refine JH T1 ?_;refine JL GM ?_;refine J1 ?_;refine Kx ?_;refine G8 ?_;refine J1 ?_;refine Kx ?_;refine G8 ?_;refine Vl ?_;exact Sb
 have g1:=hg1;refine Ph ?_;refine JL (eD (i:=AJ) (j:=300) rfl rfl) ?_;refine JL E9 ?_;refine J1 ?_;refine EV 18 rfl (fun hg2=>?_) (fun hg2=>?_)
 ·have g2:=hg2;refine JH T2 ?_;refine JH T2 ?_;refine JH T2 ?_;refine JL IY ?_;refine J1 ?_;refine Kx ?_;refine G8 ?_;refine Vl ?_;exact Sb
 have g2:=hg2;refine aU ?_;refine J1 ?_;refine JG F2 ?_;refine JL (L9 (i:=AF) (j:=16) rfl rfl) ?_;refine JL Hr ?_;refine J1 ?_;refine EV 23 rfl (fun hg3=>?_) (fun hg3=>?_)
 ·have g3:=hg3;refine JH T3 ?_;refine JH T3 ?_;refine JH T3 ?_;refine JL WU ?_;refine Vl ?_;exact Sb
 have g3:=hg3;refine JG F3 ?_;refine J1 ?_;refine JG F3 ?_;refine J1 ?_;refine JG F3 ?_;refine JL (eD (i:=AF) (j:=1024) rfl rfl) ?_;refine JL (G9 F3 rfl rfl) ?_;refine J2 ?_;refine mC (fun g4=>?_) (fun g4=>?_)
 ·refine J2 ?_;refine JL Z0 ?_;refine J6 ?_;exact Sb
 obtain⟨mt,rfl⟩:∃mt:Nat,AJ=mt:=⟨AJ.toNat,Ca⟩
 obtain⟨wi,rfl⟩:∃wi:Nat,AF=wi:=⟨AF.toNat,Ca⟩
 have hl1:=PS hk (u8 (Ae first));have hl2:=PS hk (u8 (Ae (!first)));refine J3 ?_;refine mA 10 12 ?_;refine JT 0 rfl (D6 (l:=[iN mt,iN wi]) rfl rfl) ?_;refine JT 1 rfl Ue ?_;refine Jm 2 ?_;refine JT 4 rfl Ue ?_;refine Jm 5 ?_;refine JT 6 rfl LQ ?_;refine Av 3 Cb rfl rfl (BS rfl (Ub ks hk first _)) ?_;refine Fm ?_;refine Av 7 Cb rfl rfl (BS rfl (Ub ks hk (!first) _)) ?_;refine Fm ?_;refine Av 8 Cb rfl rfl (BS rfl (gD 8 _ Ca)) ?_;rintro _ _ ⟨q37,rfl,rfl⟩;refine BL ?_;refine JT 9 rfl (Q5 (hz:=sK) (cs:=LJ mt wi ks first q37) rfl (fo mt wi ks hk first q37)) ?_;refine Av 10 Cb rfl rfl (Dn (l:=LJ mt wi ks first q37) rfl rfl) ?_;rintro _ _ ⟨b39,rfl,rfl⟩;refine Dc ?_;refine Ei 11 Cb rfl rfl F7 EY ?_;refine JK ?_;refine Hy (HP.AA b39 0 (LJ mt wi ks first q37)*(AZ q37 DM (.of 8)*H)) ?_;refine Au (H':=AX b39 (Jp mt wi ks first q37)*(AB b39 (0+43) (EU []) []*(AB b39 (0+83) (EQ []) []*(AU LV []*(AZ q37 DM (.of 8)*H))))) (by rw [br b39 mt wi ks hk,FM,HP.BR];ac_rfl) ?_;refine J1 ?_
 refine HQ ?_;refine Bj (α:=List FI) (fun l=>[(40,iN l.length),(8,ptr b39 0)]) (fun l=>AX b39 (Jp mt wi ks first q37)*(AB b39 (0+43) (EU l) []*(AB b39 (0+83) (EQ l) []*(AU LV l*(AZ q37 DM (.of 8)*H))))) (fun l=>l.length≤4) (fun l=>4-l.length) [] EX Hi rfl ?_;rintro l hl;dsimp only at hl⊢;refine J2 ?_;refine JL (ES (j:=4) rfl rfl) ?_;refine J3 ?_;refine mC (fun h41=>?_) (fun h41=>?_)
 ·refine Au (H':=AX b39 (Jp mt wi ks first q37)*(HP.AA b39 (0+43+l.length*10) [.slice none 0 0,.pointer none,.pointer none,uN 0,.bool false,.bool false,.bool false,.bool false,uN 0,.bool false]*(JE b39 (0+43) (EU l) [] l.length*(HP.AA b39 (0+83+l.length*9) [.slice none 0 0,.pointer none,uN 0,uN 0,.bool false,.bool false,uN 0,uN 0,iN 0]*(JE b39 (0+83) (EQ l) [] l.length*(AU LV l*(AZ q37 DM (.of 8)*H))))))) (by rw [OG b39 (0+43) (EU l) [] l.length AC.AK Yg,OG b39 (0+83) (EQ l) [] l.length AC.AK Yl,rE l h41,l7 l h41];show AX b39 _*(HP.AA b39 (0+43+l.length*10) _*_*(HP.AA b39 (0+83+l.length*9) _*_*_))=_;ac_rfl) ?_;refine B1 ?_;refine ET (AZ q37 DM (.of 8)*H) 15 16 Ef rfl Cb ?_;refine El ?_;refine Jm 2 ?_;refine Jm 3 ?_;refine Jn 6 ?_;refine Jf 7 ?_;refine Jn 11 ?_;refine Jf 12 ?_;refine Av 4 Cb rfl rfl Qs ?_;rintro _ _ ⟨q47,rfl,rfl⟩;refine BL ?_;refine Av 5 Cb rfl rfl Qs ?_;rintro _ _ ⟨q48,rfl,rfl⟩;refine BL ?_;refine JT 8 rfl Tt ?_;refine P3 ?_;refine Fm ?_
  refine JT 13 rfl Tt ?_;refine Jf 14 ?_;refine Dx 15 Cb rfl FL ?_;refine Dh ?_;refine J1 ?_;refine mA 7 8 ?_;refine El ?_;refine Jn 3 ?_;refine Jf 4 ?_;refine Av 2 Cb rfl rfl Qs ?_;rintro _ _ ⟨q59,rfl,rfl⟩;refine BL ?_;refine JT 5 rfl Tt ?_;refine Jf 6 ?_;refine Dx 7 Cb rfl FL ?_;refine Dh ?_;refine J3 ?_;refine D7 ?_;refine Bo (AX b39 (Jp mt wi ks first q37)*(AB b39 (0+43) (EU (l++[⟨q47,q48,q59⟩])) []*(AB b39 (0+83) (EQ (l++[⟨q47,q48,q59⟩])) []*(AU LV (l++[⟨q47,q48,q59⟩])*(AZ q37 DM (.of 8)*H))))) (hE:=?_) ?_
  ·rw [mV l _ h41,cy l _ h41,KH,Fw,FM,M4 b39 (0+43) (EU l) [] l.length _ Yg,M4 b39 (0+83) (EQ l) [] l.length _ Yl]
   exact⟨fun ww hw=>ki (by
    congr 1
    show _=AX b39 (Jp mt wi ks first q37)*(HP.AA b39 (0+43+l.length*10) [.slice none 0 0,ptr q47 0,ptr q48 0,uN 0,.bool false,.bool false,.bool false,.bool false,uN 0,.bool false]*JE b39 (0+43) (EU l) [] l.length*(HP.AA b39 (0+83+l.length*9) [.slice none 0 0,ptr q59 0,uN 0,uN 0,.bool false,.bool false,uN 0,uN 0,iN 0]*JE b39 (0+83) (EQ l) [] l.length*(AU LV l*((AZ q47 DM (.of 4096)*(AZ q48 DM (.of 4096)*AZ q59 DM (.of 4096)))*HP.BN)*(AZ q37 DM (.of 8)*H))))
    rw [HP.Ge]
    ac_rfl) hw⟩
  exact Ba (l++[⟨q47,q48,q59⟩]) (by rw [a_];exact h41) (by rw [a_];show 4-(l.length+1)<4-l.length;have:l.length<4:=h41;omega) (.cons ST PK) rfl
 have hl4:l.length=4:=by have:¬l.length<4:=h41;omega
 refine Fe ?_
 obtain⟨m,hm⟩:∃m:Aj,m=⟨(Jp mt wi ks first q37),.of 8,DM,l.map JO,l.map JW,[],[],Bc,Bc⟩:=Bl
 have hmok:m.ok:=by
  rw [hm]
  exact⟨Oe 8,(fun w hw=>by obtain⟨z,_,rfl⟩:=kj.1 hw;exact⟨D',Oe 4096,Oe 4096⟩),(fun r hr=>by obtain⟨z,_,rfl⟩:=kj.1 hr;exact⟨D',Oe 4096⟩),
   (fun _ h=>nomatch h),(fun _ h=>nomatch h),D',D',rfl,rfl⟩
 have hms:m.s=AD.new mt wi ks first:=by
  rw [hm];unfold Aj.s AD.new;dsimp only
  have e1:(l.map JO).map (·.w)=km 4 Ab:=by
   rw [lq,←hl4];exact lf.2 ⟨Ce,fun b hb=>by obtain⟨z,_,rfl⟩:=kj.1 hb;rfl⟩
  have e2:(l.map JW).map (·.r)=km 4 FD:=by
   rw [lq,←hl4];exact lf.2 ⟨Ce,fun b hb=>by obtain⟨z,_,rfl⟩:=kj.1 hb;rfl⟩
  rw [e1,e2];rfl
 exact mR [6,7] (Ac b39 m*H) (hE:=⟨fun ww hw=>ki (by
  congr 1
  rw [Df,hm,rG]
  unfold AB BB Be DS
  rw [wP l hl4,yP l hl4]
  show _=AX b39 (Jp mt wi ks first q37)*(AZ q37 DM (.of 8)*(AB b39 (0+43) (l.map JO) []*AU Bu (l.map JO)*(AB b39 (0+83) (l.map JW) []*AU CQ (l.map JW)*(Bc.h ([]:List BH)*(Bc.h ([]:List BH)*(AU A2 []*AU A2 []))*H))))
  rw [HB,FM,HP.BR,HP.BR,HP.BR,HP.BR]
  unfold AB
  ac_rfl) hw⟩) rfl rfl (.inr ⟨⟨Ca,Ca,Ca,Ca⟩,b39,m,hmok,by rw [hms];rfl,rfl,rfl⟩)
end
section
variable{B:World}
structure MN where
 kind:Int
 stream:Int
 AL:Int
 code:Nat
 data:ByteArray
structure EM where
 e:Nat
 at_:Int
 n:Nat
 code:Nat
 data:ByteArray
 As:List ByteArray
def AD.CD(c:AD)(q:MN):EM×AD:=
 if q.kind=1 then(⟨(c.write q.stream q.data.data.toList).1.2,-1,(c.write q.stream q.data.data.toList).1.1,0,⟨#[]⟩,[]⟩,(c.write q.stream q.data.data.toList).2)
 else if q.kind=2 then(⟨(c.finish q.stream).1,-1,0,0,⟨#[]⟩,[]⟩,(c.finish q.stream).2)
 else if q.kind=3 then(⟨(c.giveUp q.stream q.code).1,-1,0,0,⟨#[]⟩,[]⟩,(c.giveUp q.stream q.code).2)
 else if q.kind=4 then(⟨0,-1,0,0,⟨#[]⟩,[]⟩,c.tick)
 else if q.kind=5 then(⟨0,-1,0,0,⟨#[]⟩,c.As.1.map AW⟩,c.As.2)
 else if q.kind=6 then(⟨(c.BA q.data.data.toList).1.1,(c.BA q.data.data.toList).1.2,0,0,⟨#[]⟩,[]⟩,(c.BA q.data.data.toList).2)
 else if q.kind=7 then(⟨(c.read q.stream q.AL).1.2.2.2,-1,(c.read q.stream q.AL).1.2.1,(c.read q.stream q.AL).1.2.2.1,AW (c.read q.stream q.AL).1.1,[]⟩,(c.read q.stream q.AL).2)
 else if q.kind=8 then(⟨(c.close q.code).1,-1,0,0,⟨#[]⟩,[]⟩,(c.close q.code).2)
 else if q.kind=9 then(⟨(c.AE q.stream).2,-1,(c.AE q.stream).1,0,⟨#[]⟩,[]⟩,c)
 else(⟨0,-1,0,0,⟨#[]⟩,[]⟩,c)
theorem AY.CD{t:Nat}{c:AD}(h:AY t c)(q:MN):AY (t+1) (c.CD q).2:=by
 unfold AD.CD;split
 ·exact(h.write _ _).mono EN
 split
 ·exact(h.finish _).mono EN
 split
 ·exact(h.giveUp _ _).mono EN
 split
 ·exact h.tick
 split
 ·exact h.As
 split
 ·exact(h.BA _ (fun n b e=>by have:=(OH e).2.2;omega)).mono EN
 split
 ·exact h.read _ _
 split
 ·exact(h.close _).mono EN
 split
 ·exact h.mono EN
 ·exact h.mono EN
@[reducible] def D3(q:MN):List Value:=[.int .i64 q.kind,.int .i64 q.stream,.int .i64 q.AL,uN q.code,.string q.data]
@[reducible] instance:AC MN:=⟨5,D3,⟨0,0,0,0,⟨#[]⟩⟩,fun _=>rfl,fun _ v h=>by
 simp at h;rcases h with rfl|rfl|rfl|rfl|rfl<;>rfl⟩
@[reducible] instance layStr:AC ByteArray:=⟨1,fun s=>[.string s],⟨#[]⟩,fun _=>rfl,fun _ v h=>by
 simp at h;rcases h with rfl;rfl⟩
structure Nr(B:World)(v:Value)(EH:HP)(e:Nat)(at_:Int):Prop where
 told:∀R,Fn Tryz.prog B 44 [v] (EH*R) (fun v' H'=>v'=.tuple #[iN e,.int .i64 at_]∧H'=EH*R)
 num:∀R,Fn Tryz.prog B 40 [v] (EH*R) (fun v' H'=>v'=iN e∧H'=EH*R)
theorem Nr.of(hG:B.cell? ⟨0,0,none⟩=some (DH 106))(k:Nat):Nr B (D5 k) HP.BN k (-1):=by
 by_cases h:k=0
 ·subst h;exact⟨fun R=>by rw [HP.BR];exact Xh R,fun R=>by rw [HP.BR];exact bO R⟩
 ·rw [WW h];exact⟨fun R=>by rw [HP.BR];exact gG hG k R,fun R=>by rw [HP.BR];exact XE hG k R⟩
theorem MD.t(hG:B.cell? ⟨0,0,none⟩=some (DH 106)){e:Nat}{at_:Int}{H H':HP}{v:Value}(h:MD e at_ H v H'):∃EH,H'=EH*H∧Nr B v EH e at_:=by
 rcases h with⟨rfl,rfl,rfl⟩|⟨q,a,rfl,rfl,rfl,rfl⟩
 ·exact⟨HP.BN,Ck,.of hG e⟩
 ·exact⟨Ev q 5 (iN a),rfl,fun R=>Zs hG q 5 (iN a) R,fun R=>rK hG q 5 (iN a) R⟩
theorem oY{R H':HP}{xs:List UInt8}{sv:Value}(h:(xs=[]∧sv=.slice none 0 0∧H'=R)∨(xs≠ []∧CB R xs sv H')):CB R xs sv H':=by
 rcases h with⟨rfl,rfl,rfl⟩|⟨_,h⟩
 ·exact .nil _
 ·exact h
theorem qD(hG:B.cell? ⟨0,0,none⟩=some (DH 106))(AJ AF:Int)(ks:List UInt8)(hk:ks.length=16)(first:Bool)(H:HP):
  Fn Tryz.prog B 16 [.agg [.int .i64 AJ,.int .i64 AF].toArray,.agg (AG ks).toArray,.bool first] H (fun v H'=>
   (¬Ix AJ AF∧v=.tuple #[.pointer none,iN 1]∧H'=H)∨
   (Ix AJ AF∧∃cb m,m.ok∧m.s=AD.new AJ.toNat AF.toNat ks first∧v=.tuple #[ptr cb 0,iN 0]∧H'=Ac cb m*H)):=by
 refine mI Tryz.func16 ?_;refine J2 ?_;refine Am eU rfl ?_;rintro _ _ ⟨b3,rfl,rfl⟩;refine KQ ?_;rintro _ _ ⟨b4,rfl,rfl⟩;refine J1 ?_;refine FT ?_;refine J4 ?_;refine JL (D6 (l:=[.int .i64 AJ,.int .i64 AF]) rfl rfl) ?_;refine JL Ue ?_;refine J1 ?_;refine mE rfl (fu AJ AF ks hk first _) ?_;intro v14 H14 h14
 obtain⟨pv,ev,rfl,hev⟩:∃pv ev,v14=.tuple #[pv,ev]∧((¬Ix AJ AF∧pv=.pointer none∧ev=D5 1∧H14=HP.AA b4 0 (AG ks)*(HP.AA b3 0 [.int .i64 AJ,.int .i64 AF]*H))∨
   (Ix AJ AF∧ev=D5 0∧∃cb m,m.ok∧m.s=AD.new AJ.toNat AF.toNat ks first∧pv=ptr cb 0∧H14=Ac cb m*(HP.AA b4 0 (AG ks)*(HP.AA b3 0 [.int .i64 AJ,.int .i64 AF]*H)))):=by
  rcases h14 with⟨a1,rfl,a2⟩|⟨a1,cb,m,a2,a3,rfl,a4⟩
  ·exact⟨_,_,rfl,.inl ⟨a1,rfl,rfl,a2⟩⟩
  ·exact⟨_,_,rfl,.inr ⟨a1,rfl,cb,m,a2,a3,rfl,a4⟩⟩
 obtain⟨ek,hek⟩:∃ek,Nr B ev HP.BN ek (-1)∧ek=if Ix AJ AF then 0 else 1:=by
  rcases hev with⟨a1,_,rfl,_⟩|⟨a1,rfl,_⟩
  ·exact⟨1,.of hG 1,by rw [if_neg a1]⟩
  ·exact⟨0,.of hG 0,by rw [if_pos a1]⟩
 refine B1 ?_;refine BQ (H':=HP.BN*H14) Ck ?_;refine mE rfl (hek.1.num _) ?_;refine Kc ?_;rw [hek.2];rcases hev with⟨a1,rfl,rfl,rfl⟩|⟨a1,rfl,cb,m,a2,a3,rfl,rfl⟩
 ·exact mR [6,7] H rfl rfl (.inl ⟨a1,by rw [if_neg a1];rfl,rfl⟩)
 ·exact mR [6,7] (Ac cb m*H) rfl rfl (.inr ⟨a1,cb,m,a2,a3,by rw [if_pos a1];rfl,rfl⟩)
theorem Zl{t:Nat}:∀(n:Nat) (z:A4),Bx t z→(B0 n z).out.length≤z.out.length+z.mu
 |0,z,h=>lm _ _
 |n+1,z,h=>by
  rw [B0];split
  ·exact lm _ _
  ·rename_i hne;obtain⟨h1,h2⟩:=h.step hne;have h3:=Zl n _ h1
   have h4:z.step.out.length=z.out.length+1:=by show(z.out++[_]).length=_;rw [a_];rfl
   omega
theorem jF(ks:List UInt8)(side:UInt8)(n:UInt64)(xs:List UInt8):(Bk ks side n xs).length=xs.length+16:=by
 unfold Bk;rw [a_,a_,VJ,VA,cD];omega
theorem cE{t:Nat}:∀(n:Nat) (z:A4),Bx t z→(∀p∈z.out,p.length≤300)→∀p∈(B0 n z).out,p.length≤300
 |0,z,h,ho=>ho
 |n+1,z,h,ho=>by
  rw [B0];split
  ·exact ho
  ·rename_i hne;obtain⟨h1,h2⟩:=h.step hne;refine cE n _ h1 fun p hp=>?_;have hp':p∈z.out++[Bk z.c.ks (Ae z.c.first) (g' z.c.next) z.filled.2.b]:=hp;rcases k_.1 hp' with hp|hp
   ·exact ho p hp
   ·rw [d_.1 hp,jF];have h3:=h.filled.HV.len;have h4:=h.filled.HV.room;omega
theorem P? {t:Nat}{c:AD}(h:AY t c):∀p∈c.As.1,p.length≤300:=by
 unfold AD.As;split
 ·unfold AD.HR;split
  ·intro p hp;cases hp
  ·intro p hp;rw [d_.1 hp,jF]
   have:=TT c.code;omega
 ·exact cE 40 _ (Bx.begin h) (fun p hp=>nomatch hp)
theorem D! {t:Nat}{c:AD}(h:AY t c)(k AL:Int):(c.read k AL).1.1.length≤1000000:=by
 unfold AD.read;split
 ·exact Om
 ·rename_i hs;dsimp only;split
  ·show((c.Dz k.toNat).b.take _).length≤_;rw [kq];rename_i hst
   have hk:k.toNat<4:=by
    unfold AD.stream at hs;split at hs
    ·omega
    split at hs
    ·omega
    ·omega
   have hr:=h.rs _ hk;have hw2:=h.w2
   have hb:(c.Dz k.toNat).b.length≤1024:=by
    unfold AD.Dz at hst⊢;by_cases hg:(c.r k.toNat).given=true
    ·by_cases h0:(c.r k.toNat).state=0
     ·rw [if_pos ⟨hg,h0⟩];exact lh _
     ·rw [if_neg (fun h=>h0 h.2)]at hst;exact absurd hst h0
    ·rw [if_neg (fun h=>hg h.1)];have h1:=hr.len WD;have h2:=hr.hw;omega
   omega
  ·exact Om
theorem zN{t:Nat}{c:AD}(h:AY t c):c.As.1.length≤20:=by
 unfold AD.As;split
 ·unfold AD.HR;split<;>simp
 ·have hb:=Bx.begin h;have h8:=Zl 40 _ hb;have h9:=hb.tl
  have h10:(⟨{c with answer:=false},if c.answer then c.AI.l.reverse else [],[]⟩:A4).mu≤18:=by unfold A4.mu;omega
  have h11:(⟨{c with answer:=false},if c.answer then c.AI.l.reverse else [],[]⟩:A4).out.length=0:=rfl;dsimp only;omega
set_option maxHeartbeats 8000000 in
theorem F_(hG:B.cell? ⟨0,0,none⟩=some (DH 106))(cb t:Nat)(m:Aj)(q:MN)(R:HP)(hm:m.ok)(hi:AY t m.s)(ht:t<900000)(hd:q.data.size<90000000)(hmo2:q.AL<9223372036854775808):
  Fn Tryz.prog B 54 [ptr cb 0,.agg (D3 q).toArray] (Ac cb m*R) (fun v H'=>∃(m':Aj) (ps:A8),m'.ok∧m'.s=(m.s.CD q).2∧ps.ok (m.s.CD q).1.As∧
   v=.tuple #[iN (m.s.CD q).1.e,.int .i64 (m.s.CD q).1.at_,iN (m.s.CD q).1.n,uN (m.s.CD q).1.code,.string (m.s.CD q).1.data,.slice ps.p (m.s.CD q).1.As.length ps.c]∧H'=ps.h (m.s.CD q).1.As*(Ac cb m'*R)):=by
 refine mI Tryz.func54 ?_;refine J2 ?_;refine Am (Dn (l:=D3 q) rfl rfl) rfl ?_;rintro _ _ ⟨b3,rfl,rfl⟩;refine FT ?_;refine FT ?_;refine FT ?_;refine HE ?_;refine Fe ?_;refine Am (Vw rfl) rfl ?_;rintro _ _ ⟨p17,b17,o17,c17,s17,rfl,hs17,hc17,rfl⟩;refine J5 ?_
 have hxl:q.data.data.toList.length<90000000:=(by rw [Array.length_toList];exact hd)
 refine Au (H':=Ac cb m*(AB b17 o17 q.data.data.toList s17*(HP.AA b3 0 (D3 q)*R))) Cg ?_;refine J8 ?_;refine JL (DI (i:=q.kind) (j:=1) rfl rfl) ?_;refine J3 ?_;refine DF (α:=Aj×HP×Value×EM×A8) (fun z=>[(0,ptr cb 0),(11,.slice p17 q.data.data.toList.length c17),(10,z.2.2.1),(6,iN z.2.2.2.1.n),(7,uN z.2.2.2.1.code),(8,.string z.2.2.2.1.data),(9,.slice z.2.2.2.2.p z.2.2.2.1.As.length z.2.2.2.2.c)]) (fun z=>AB b17 o17 q.data.data.toList s17*(z.2.1*(z.2.2.2.2.h z.2.2.2.1.As*(Ac cb z.1*R)))) (fun z=>z.1.ok∧m.s.CD q=(z.2.2.2.1,z.1.s)∧Nr B z.2.2.1 z.2.1 z.2.2.2.1.e z.2.2.2.1.at_∧z.2.2.2.2.ok z.2.2.2.1.As) ?_ ?_
 ·refine mC (fun k1=>?_) (fun k1=>?_)
  ·refine J5 ?_;refine mE rfl (rL cb t m q.stream q.data.data.toList p17 b17 o17 c17 _ hm hi hs17 inferInstance) ?_;rintro _ _ ⟨m2,hmo,hms,rfl,rfl⟩;refine J6 ?_
   have hdo:m.s.CD q=((⟨(m.s.write q.stream q.data.data.toList).1.2,-1,(m.s.write q.stream q.data.data.toList).1.1,0,⟨#[]⟩,[]⟩:EM),m2.s):=by
    unfold AD.CD;rw [if_pos k1];rw [hms]
   exact Bo (AB b17 o17 q.data.data.toList s17*(HP.BN*(A8.h Bc ([]:List ByteArray)*(Ac cb m2*R)))) (hE:=LP) (BJ (m2,HP.BN,D5 (m.s.write q.stream q.data.data.toList).1.2,(⟨(m.s.write q.stream q.data.data.toList).1.2,-1,(m.s.write q.stream q.data.data.toList).1.1,0,⟨#[]⟩,[]⟩:EM),Bc) ⟨hmo,hdo,.of hG _,D'⟩ HN rfl)
  refine J2 ?_;refine JL (DI (i:=q.kind) (j:=2) rfl rfl) ?_;refine J3 ?_;refine mC (fun k2=>?_) (fun k2=>?_)
  ·refine J4 ?_;refine mE rfl (dr cb t m q.stream _ hm hi) ?_;rintro _ _ ⟨m2,hmo,hms,rfl,rfl⟩;refine J2 ?_
   have hdo:m.s.CD q=((⟨(m.s.finish q.stream).1,-1,0,0,⟨#[]⟩,[]⟩:EM),m2.s):=by
    unfold AD.CD;rw [if_neg k1,if_pos k2];rw [hms]
   exact Bo (AB b17 o17 q.data.data.toList s17*(HP.BN*(A8.h Bc ([]:List ByteArray)*(Ac cb m2*R)))) (hE:=LP) (BJ (m2,HP.BN,D5 (m.s.finish q.stream).1,(⟨(m.s.finish q.stream).1,-1,0,0,⟨#[]⟩,[]⟩:EM),Bc) ⟨hmo,hdo,.of hG _,D'⟩ HN rfl)
  refine J2 ?_;refine JL (DI (i:=q.kind) (j:=3) rfl rfl) ?_;refine J3 ?_;refine mC (fun k3=>?_) (fun k3=>?_)
  ·refine J6 ?_;refine mE rfl (zK cb t m q.stream q.code _ hm hi) ?_;rintro _ _ ⟨m2,hmo,hms,rfl,rfl⟩;refine J2 ?_
   have hdo:m.s.CD q=((⟨(m.s.giveUp q.stream q.code).1,-1,0,0,⟨#[]⟩,[]⟩:EM),m2.s):=by
    unfold AD.CD;rw [if_neg k1,if_neg k2,if_pos k3];rw [hms]
   exact Bo (AB b17 o17 q.data.data.toList s17*(HP.BN*(A8.h Bc ([]:List ByteArray)*(Ac cb m2*R)))) (hE:=LP) (BJ (m2,HP.BN,D5 (m.s.giveUp q.stream q.code).1,(⟨(m.s.giveUp q.stream q.code).1,-1,0,0,⟨#[]⟩,[]⟩:EM),Bc) ⟨hmo,hdo,.of hG _,D'⟩ HN rfl)
  refine J2 ?_;refine JL (DI (i:=q.kind) (j:=4) rfl rfl) ?_;refine J3 ?_;refine mC (fun k4=>?_) (fun k4=>?_)
  ·refine J2 ?_;refine mE rfl (rD cb t m _ hm hi Ca) ?_;rintro _ _ ⟨m2,hmo,hms,rfl⟩;refine J1 ?_
   have hdo:m.s.CD q=((⟨0,-1,0,0,⟨#[]⟩,[]⟩:EM),m2.s):=by
    unfold AD.CD;rw [if_neg k1,if_neg k2,if_neg k3,if_pos k4];rw [hms]
   exact Bo (AB b17 o17 q.data.data.toList s17*(HP.BN*(A8.h Bc ([]:List ByteArray)*(Ac cb m2*R)))) (hE:=LP) (BJ (m2,HP.BN,D5 0,(⟨0,-1,0,0,⟨#[]⟩,[]⟩:EM),Bc) ⟨hmo,hdo,.of hG 0,D'⟩ HN rfl)
  refine J2 ?_;refine JL (DI (i:=q.kind) (j:=5) rfl rfl) ?_;refine J3 ?_;refine mC (fun k5=>?_) (fun k5=>?_)
  ·refine J3 ?_;refine mE rfl (de cb t m _ hm hi Ca) ?_;rintro _ _ ⟨m2,hmo,hms,pk,hpk,rfl,rfl⟩
   have hpl:pk.l.length≤20:=(by have h7:=congrArg ln hpk.map;rw [e_]at h7;have h8:=zN hi;omega)
   refine Kg ?_
   refine Bj (α:=Nat×A8) (fun z=>[(53,iN z.1),(52,iN pk.l.length),(51,pk.v),(0,ptr cb 0),(10,.nilIface),(11,.slice p17 q.data.data.toList.length c17),(6,iN 0),(7,uN 0),(8,.string ⟨#[]⟩),(9,.slice z.2.p (((m.s.As.1).take z.1).map AW).length z.2.c)]) (fun z=>A8.h z.2 (((m.s.As.1).take z.1).map AW)*(pk.a.h pk.l*(AU HM (pk.l.drop z.1)*(Ac cb m2*(AB b17 o17 q.data.data.toList s17*(HP.AA b3 0 (D3 q)*R)))))) (fun z=>z.1≤pk.l.length∧z.2.ok (((m.s.As.1).take z.1).map AW)) (fun z=>pk.l.length-z.1) (0,Bc) ⟨lh _,D'⟩ (.cons rfl MR) (by
    show _=Bc.h ([]:List ByteArray)*(pk.a.h pk.l*(AU HM pk.l*_))
    rw [HB,HP.BR];unfold DX;ac_rfl) ?_
   rintro⟨i,sk⟩ ⟨hi1,hsk⟩;dsimp only at hi1 hsk⊢;refine J6 ?_;refine mC (fun h54=>?_) (fun h54=>?_)
   ·have hpkm:=hpk.l _ (JX (d:=AC.AK) h54)
    have hpyl:(pk.l.getD i AC.AK).ys.length<1000000:=by
     have h7:(pk.l.getD i AC.AK).ys∈m.s.As.1:=by rw [←hpk.map];exact kj.2 ⟨_,JX h54,rfl⟩
     have:=P? hi _ h7;omega
    have hsl:(((m.s.As.1).take i).map AW).length≤20:=by rw [e_,kq];have h7:i<pk.l.length:=h54;omega
    refine Au (H':=A8.h sk (((m.s.As.1).take i).map AW)*(pk.a.h pk.l*(AB (pk.l.getD i AC.AK).a.b (pk.l.getD i AC.AK).a.o (pk.l.getD i AC.AK).ys (pk.l.getD i AC.AK).a.s*(AU HM (pk.l.drop (i+1))*(Ac cb m2*(AB b17 o17 q.data.data.toList s17*(HP.AA b3 0 (D3 q)*R))))))) (by
     rw [List.drop_eq_getElem_cons h54,Fw]
     rw [show pk.l.getD i AC.AK=pk.l[i] by rw [c_,g_ h54];rfl]
     unfold HM
     ac_rfl) ?_
    refine J6 ?_;refine JL (DT rfl rfl hpk.a.1 h54) ?_;refine JL (A9 (v':=.slice (pk.l.getD i AC.AK).a.p (pk.l.getD i AC.AK).ys.length (pk.l.getD i AC.AK).a.c) (FQ (f:=0) (xs:=pk.l) rfl inferInstance rfl h54) rfl) ?_;refine J7 ?_;refine JL (My rfl hpkm.1 inferInstance) ?_;refine Am (HD (cs:=[.string (AW (pk.l.getD i AC.AK).ys)]) rfl Cq rfl rfl) rfl ?_;rintro _ _ ⟨b60,rfl,rfl⟩;refine BQ (H':=AB sk.b sk.o (((m.s.As.1).take i).map AW) sk.s*(HP.AA b60 0 (AG [AW (pk.l.getD i AC.AK).ys])*(AB (pk.l.getD i AC.AK).a.b (pk.l.getD i AC.AK).a.o (pk.l.getD i AC.AK).ys (pk.l.getD i AC.AK).a.s*(pk.a.h pk.l*(AU HM (pk.l.drop (i+1))*(Ac cb m2*(AB b17 o17 q.data.data.toList s17*(HP.AA b3 0 (D3 q)*R)))))))) (by show HP.AA b60 0 [_]*_=_;rw [show AG [AW (pk.l.getD i AC.AK).ys]=[.string (AW (pk.l.getD i AC.AK).ys)]from rfl];unfold A8.h;ac_rfl) ?_;refine Am (DG (ys:=[AW (pk.l.getD i AC.AK).ys]) (bb:=b60) (oo:=0) (cc:=1) rfl hsk.1 hsk.2 rfl CS inferInstance rfl Cn Ca) rfl ?_;rintro _ _ ⟨p61,b61,o61,c61,s61,rfl,hs61,hc61,rfl⟩;refine J5 ?_
    refine BQ (H':=AB (pk.l.getD i AC.AK).a.b (pk.l.getD i AC.AK).a.o (pk.l.getD i AC.AK).ys (pk.l.getD i AC.AK).a.s*(AB b61 o61 (((m.s.As.1).take i).map AW++[AW (pk.l.getD i AC.AK).ys]) s61*(HP.AA b60 0 (AG [AW (pk.l.getD i AC.AK).ys])*(pk.a.h pk.l*(AU HM (pk.l.drop (i+1))*(Ac cb m2*(AB b17 o17 q.data.data.toList s17*(HP.AA b3 0 (D3 q)*R)))))))) Cg ?_;refine mE rfl (N4 _ _ _ _ _ (pk.l.getD i AC.AK).ys _ _ hpkm.1 rfl Ca) ?_;rintro _ _ ⟨ys63,hys63,rfl⟩;refine Ic ?_
    have hpn:((m.s.As.1).take (i+1)).map AW=((m.s.As.1).take i).map AW++[AW (pk.l.getD i AC.AK).ys]:=by
     have h7:(m.s.As.1)[i]?=some (pk.l.getD i AC.AK).ys:=by
      rw [←hpk.map,f_,g_ h54,c_,g_ h54];rfl
     have h8:i<(m.s.As.1).length:=by rw [←hpk.map,e_];exact h54
     rw [List.take_succ_eq_append_getElem h8,i_];rw [g_ h8]at h7;rw [Option.some.inj h7];rfl
    refine Bo (A8.h ⟨p61,b61,o61,c61,s61⟩ (((m.s.As.1).take (i+1)).map AW)*(pk.a.h pk.l*(AU HM (pk.l.drop (i+1))*(Ac cb m2*(AB b17 o17 q.data.data.toList s17*(HP.AA b3 0 (D3 q)*R)))))) (hE:=⟨fun ww hw=>Sat.right (A:=HP.AA b60 0 (AG [AW (pk.l.getD i AC.AK).ys])*AB (pk.l.getD i AC.AK).a.b (pk.l.getD i AC.AK).a.o ys63 (pk.l.getD i AC.AK).a.s) (ki (by congr 1;rw [hpn];unfold A8.h;ac_rfl) hw)⟩) ?_;exact Ba (i+1,⟨p61,b61,o61,c61,s61⟩) ⟨h54,by rw [hpn];exact⟨hs61,hc61⟩⟩ (by show pk.l.length-(i+1)<pk.l.length-i;have h7:i<pk.l.length:=h54;omega) (.cons rfl (.cons rfl (.cons rfl (.cons rfl (.cons rfl (.cons rfl (.cons rfl (.cons rfl (.cons rfl (.cons (by rw [hpn];rfl) .nil)))))))))) rfl
   obtain rfl:i=pk.l.length:=by have h7:¬i<pk.l.length:=h54;omega
   obtain⟨psk,hpske⟩:∃psk:A8,psk=sk:=Bl
   have htk:(m.s.As.1).take pk.l.length=m.s.As.1:=by rw [List.take_of_length_le (by rw [←hpk.map,e_];exact kf _)]
   rw [htk]at hsk⊢
   have hpsk:psk.ok (m.s.As.1.map AW):=by rw [hpske];exact hsk
   rw [←hpske];refine J4 ?_
   have hdo:m.s.CD q=((⟨0,-1,0,0,⟨#[]⟩,m.s.As.1.map AW⟩:EM),m2.s):=by
    unfold AD.CD;rw [if_neg k1,if_neg k2,if_neg k3,if_neg k4,if_pos k5];rw [hms]
   exact Bo (AB b17 o17 q.data.data.toList s17*(HP.BN*(A8.h psk (m.s.As.1.map AW:List ByteArray)*(Ac cb m2*R)))) (hE:=⟨fun ww hw=>Sat.right (A:=HP.AA b3 0 (D3 q)*(pk.a.h pk.l*AU HM (pk.l.drop pk.l.length))) (ki (by congr 1;rw [HP.BR];ac_rfl) hw)⟩) (BJ (m2,HP.BN,D5 0,(⟨0,-1,0,0,⟨#[]⟩,m.s.As.1.map AW⟩:EM),psk) ⟨hmo,hdo,.of hG 0,hpsk⟩ HN rfl)
  refine J2 ?_;refine JL (DI (i:=q.kind) (j:=6) rfl rfl) ?_;refine J3 ?_;refine mC (fun k6=>?_) (fun k6=>?_)
  ·refine J3 ?_;refine mE rfl (xQ cb t m q.data.data.toList p17 b17 o17 c17 _ hm hi Ca hs17 inferInstance hxl) ?_;rintro ev _ ⟨m2,hmo,hms,her⟩;obtain⟨EH,rfl,heT⟩:=her.t hG;refine J2 ?_
   have hdo:m.s.CD q=((⟨(m.s.BA q.data.data.toList).1.1,(m.s.BA q.data.data.toList).1.2,0,0,⟨#[]⟩,[]⟩:EM),m2.s):=by
    unfold AD.CD;rw [if_neg k1,if_neg k2,if_neg k3,if_neg k4,if_neg k5,if_pos k6];rw [hms]
   exact Bo (AB b17 o17 q.data.data.toList s17*(EH*(A8.h Bc ([]:List ByteArray)*(Ac cb m2*R)))) (hE:=⟨fun ww hw=>Sat.right (A:=HP.AA b3 0 (D3 q)) (ki (by congr 1;rw [HB,HP.BR];ac_rfl) hw)⟩) (BJ (m2,EH,ev,(⟨(m.s.BA q.data.data.toList).1.1,(m.s.BA q.data.data.toList).1.2,0,0,⟨#[]⟩,[]⟩:EM),Bc) ⟨hmo,hdo,heT,D'⟩ HN rfl)
  refine J2 ?_;refine JL (DI (i:=q.kind) (j:=7) rfl rfl) ?_;refine J3 ?_;refine mC (fun k7=>?_) (fun k7=>?_)
  ·refine DV ?_;refine mE rfl (xN cb t m q.stream q.AL _ hm hi Ca hmo2) ?_;rintro _ _ ⟨m2,hmo,sv,hms,rfl,hsv⟩;obtain⟨p78,b78,o78,c78,s78,rfl,hs78,hc78,rfl⟩:=oY hsv;have hrl:=D! hi q.stream q.AL;refine HI ?_;refine JL (My rfl hs78 inferInstance) ?_;refine J5 ?_;refine mE rfl (N4 p78 b78 o78 c78 _ (m.s.read q.stream q.AL).1.1 _ _ hs78 rfl Ca) ?_;rintro _ _ ⟨ys86,hys86,rfl⟩;refine J1 ?_
   have hdo:m.s.CD q=((⟨(m.s.read q.stream q.AL).1.2.2.2,-1,(m.s.read q.stream q.AL).1.2.1,(m.s.read q.stream q.AL).1.2.2.1,AW (m.s.read q.stream q.AL).1.1,[]⟩:EM),m2.s):=by
    unfold AD.CD;rw [if_neg k1,if_neg k2,if_neg k3,if_neg k4,if_neg k5,if_neg k6,if_pos k7];rw [hms]
   exact Bo (AB b17 o17 q.data.data.toList s17*(HP.BN*(A8.h Bc ([]:List ByteArray)*(Ac cb m2*R)))) (hE:=⟨fun ww hw=>Sat.right (A:=HP.AA b3 0 (D3 q)*AB b78 o78 ys86 s78) (ki bA hw)⟩) (BJ (m2,HP.BN,D5 (m.s.read q.stream q.AL).1.2.2.2,(⟨(m.s.read q.stream q.AL).1.2.2.2,-1,(m.s.read q.stream q.AL).1.2.1,(m.s.read q.stream q.AL).1.2.2.1,AW (m.s.read q.stream q.AL).1.1,[]⟩:EM),Bc) ⟨hmo,hdo,.of hG _,D'⟩ HN rfl)
  refine J2 ?_;refine JL (DI (i:=q.kind) (j:=8) rfl rfl) ?_;refine J3 ?_;refine mC (fun k8=>?_) (fun k8=>?_)
  ·refine J4 ?_;refine mE rfl (g7 cb m q.code _ hm) ?_;rintro _ _ ⟨m2,hmo,hms,rfl,rfl⟩;refine J2 ?_
   have hdo:m.s.CD q=((⟨(m.s.close q.code).1,-1,0,0,⟨#[]⟩,[]⟩:EM),m2.s):=by
    unfold AD.CD;rw [if_neg k1,if_neg k2,if_neg k3,if_neg k4,if_neg k5,if_neg k6,if_neg k7,if_pos k8];rw [hms]
   exact Bo (AB b17 o17 q.data.data.toList s17*(HP.BN*(A8.h Bc ([]:List ByteArray)*(Ac cb m2*R)))) (hE:=LP) (BJ (m2,HP.BN,D5 (m.s.close q.code).1,(⟨(m.s.close q.code).1,-1,0,0,⟨#[]⟩,[]⟩:EM),Bc) ⟨hmo,hdo,.of hG _,D'⟩ HN rfl)
  refine J2 ?_;refine JL (DI (i:=q.kind) (j:=9) rfl rfl) ?_;refine J3 ?_;refine mC (fun k9=>?_) (fun k9=>?_)
  ·refine J4 ?_;refine mE rfl (qN cb t m q.stream _ hm hi) ?_;refine Hp ?_
   have hdo:m.s.CD q=((⟨(m.s.AE q.stream).2,-1,(m.s.AE q.stream).1,0,⟨#[]⟩,[]⟩:EM),m.s):=by
    unfold AD.CD;rw [if_neg k1,if_neg k2,if_neg k3,if_neg k4,if_neg k5,if_neg k6,if_neg k7,if_neg k8,if_pos k9]
   exact Bo (AB b17 o17 q.data.data.toList s17*(HP.BN*(A8.h Bc ([]:List ByteArray)*(Ac cb m*R)))) (hE:=LP) (BJ (m,HP.BN,D5 (m.s.AE q.stream).2,(⟨(m.s.AE q.stream).2,-1,(m.s.AE q.stream).1,0,⟨#[]⟩,[]⟩:EM),Bc) ⟨hm,hdo,.of hG _,D'⟩ HN rfl)
  refine J1 ?_
  have hdo:m.s.CD q=((⟨0,-1,0,0,⟨#[]⟩,[]⟩:EM),m.s):=by
   unfold AD.CD;rw [if_neg k1,if_neg k2,if_neg k3,if_neg k4,if_neg k5,if_neg k6,if_neg k7,if_neg k8,if_neg k9]
  exact Bo (AB b17 o17 q.data.data.toList s17*(HP.BN*(A8.h Bc ([]:List ByteArray)*(Ac cb m*R)))) (hE:=LP) (BJ (m,HP.BN,D5 0,(⟨0,-1,0,0,⟨#[]⟩,[]⟩:EM),Bc) ⟨hm,hdo,.of hG 0,D'⟩ HN rfl)
 ·rintro⟨m2,EH,ev,res,ps⟩ ⟨hmo,hdo,heT,hps⟩;dsimp only at hmo hdo heT hps⊢;refine J5 ?_;refine mE rfl (N4 p17 b17 o17 c17 _ q.data.data.toList s17 _ hs17 rfl Ca) ?_;rintro _ _ ⟨ys103,hys103,rfl⟩;refine J5 ?_;refine BQ (H':=EH*(AB b17 o17 ys103 s17*(ps.h res.As*(Ac cb m2*R)))) Cg ?_;refine mE rfl (heT.told _) ?_;refine JR ?_;refine zO ?_;exact mR [4,5,6,7,8,9] (ps.h res.As*(Ac cb m2*R)) rfl rfl ⟨m2,ps,hmo,by rw [hdo],by rw [hdo];exact hps,by rw [hdo];rfl,by rw [hdo]⟩
end
section
section
variable{P:Program}{B:World}{n:Nat}{E:A5}{D:B6}{H:HP}{d:Option Tmp}{T T' ty:TypeId}{pos:String}{af:Array Edge}{g:Option (Nat×Bool)}{x y z u:Operand}
theorem Vt{s t:List UInt8}(hx:ev E x=some (.string (AW s)))(hy:ev E y=some (.string (AW t)))(h:s.length+t.length<9223372036854775808):
  Af P B n ⟨d,.binOp .add T x y T',ty,pos,af,g⟩ E H (.string (AW (s++t))):=by
 intro a w he _
 have h2:¬((((AW s).size+(AW t).size:Nat):Int)> IntKind.i64.max):=by rw [EI,EI];have:IntKind.i64.max=9223372036854775807:=rfl;omega
 have h3:(binOp .add T (.string (AW s)) (.string (AW t))).run P w=.ok (.string (AW (s++t))) w:=by
  simp only [binOp_string_add,Op.stringOp,if_neg h2,Sem.run_pure];rw [show AW s++AW t=AW (s++t) by unfold AW;apply ByteArray.ext;rw [ByteArray.data_append];simp]
 have h1:(eqGuard .add T x y (.string (AW s)) (.string (AW t))).run P w=.ok () w:=rfl;simp only [execOp,he.ev hx,he.ev hy,Sem.run_bind,h1,Result.andThen_ok,h3,Sem.run_pure]
theorem S3{s:ByteArray}{i:Nat}{ik:IntKind}[hT:Az P T .string](hx:ev E x=some (.string s))(hy:ev E y=some (.int ik i))(hi:i<s.size):
  Af P B n ⟨d,.index T x y,ty,pos,af,g⟩ E H (u8 (s.data.toList.getD i 0)):=by
 intro a w he _
 have h0:(0:Int)≤(i:Nat):=by omega
 have h1:s[i]?=some s[i]:=by simp [hi]
 simp only [execOp,he.ev hx,he.ev hy,Instr.index,asIntOf,Sem.run_bind,Sem.run_pure,Result.andThen_ok,Br hT.get,h0,if_true,Int.toNat_natCast,h1]
 have h2:s.data.toList.getD i 0=s[i]:=by
  rw [c_,Array.getElem?_toList]
  have:s.data[i]?=some s[i]:=by
   have h3:i<s.data.size:=hi;rw [Array.getElem?_eq_getElem h3];rfl
  rw [this];rfl
 rw [h2]
end
theorem Rx(b:List UInt8)(l h:Nat)(hh:h≤b.length):(AW b).extract l h=AW ((b.take h).drop l):=by
 unfold AW;apply ByteArray.ext;rw [ByteArray.data_extract];apply Array.ext';simp only [Array.toList_extract,List.extract_eq_take_drop];rw [List.drop_take]
structure EF where
 q:Nat
 o:Du
@[reducible] instance layEnd:AC EF:=⟨1,fun m=>[ptr m.q 0],⟨0,Da⟩,fun _=>rfl,fun _ v h=>by simp at h;rcases h with rfl;rfl⟩
@[reducible] def N5(o:Du):List Value:=[.string (AW o.wrote),.bool o.finished,.bool o.given,uN o.code,iN o.read,iN o.state,iN o.AE]
def BX(q:Nat)(o:Du):HP:=HP.AA q 0 (N5 o)
section
variable(q:Nat)(o:Du)
instance:Cell (BX q o) q (0+0) (.string (AW o.wrote)) True:=by unfold BX;infer_instance
instance:Cell (BX q o) q (0+1) (.bool o.finished) True:=by unfold BX;infer_instance
instance:Cell (BX q o) q (0+2) (.bool o.given) True:=by unfold BX;infer_instance
instance:Cell (BX q o) q (0+3) (uN o.code) True:=by unfold BX;infer_instance
instance:Cell (BX q o) q (0+4) (iN o.read) True:=by unfold BX;infer_instance
instance:Cell (BX q o) q (0+5) (iN o.state) True:=by unfold BX;infer_instance
instance:Cell (BX q o) q (0+6) (iN o.AE) True:=by unfold BX;infer_instance
instance(v:List UInt8):C3 (BX q o) q (0+0) (.string (AW v)) (BX q {o with wrote:=v}) True:=by unfold BX;infer_instance
instance(v:Bool):C3 (BX q o) q (0+1) (.bool v) (BX q {o with finished:=v}) True:=by unfold BX;infer_instance
instance(v:Bool):C3 (BX q o) q (0+2) (.bool v) (BX q {o with given:=v}) True:=by unfold BX;infer_instance
instance(v:Nat):C3 (BX q o) q (0+3) (uN v) (BX q {o with code:=v}) True:=by unfold BX;infer_instance
instance(v:Nat):C3 (BX q o) q (0+4) (iN v) (BX q {o with read:=v}) True:=by unfold BX;infer_instance
instance(v:Nat):C3 (BX q o) q (0+5) (iN v) (BX q {o with state:=v}) True:=by unfold BX;infer_instance
instance(v:Nat):C3 (BX q o) q (0+6) (iN v) (BX q {o with AE:=v}) True:=by unfold BX;infer_instance
end
def GV(m:EF):HP:=BX m.q m.o
structure Dq where
 a:A8
 es:List EF
@[reducible] instance layRow:AC Dq:=⟨1,fun r=>[.slice r.a.p r.es.length r.a.c],⟨⟨none,0,0,0,[]⟩,[]⟩,fun _=>rfl,fun _ v h=>by simp at h;rcases h with rfl;rfl⟩
def CY(r:Dq):HP:=AB r.a.b r.a.o r.es r.a.s*AU GV r.es
structure CM where
 cb:Nat
 c:Aj
@[reducible] instance layCM:AC CM:=⟨1,fun m=>[ptr m.cb 0],⟨0,⟨⟨0,0,[],false,0,0,0,false,0,0,false,.nilIface,.nilIface,0,0⟩,.of 8,DM,[],[],[],[],⟨none,0,0,0,[]⟩,⟨none,0,0,0,[]⟩⟩⟩,fun _=>rfl,fun _ v h=>by simp at h;rcases h with rfl;rfl⟩
def CX(m:CM):HP:=Ac m.cb m.c
structure Ee where
 to:Nat
 b:ByteArray
@[reducible] def Gt(f:Ee):List Value:=[iN f.to,.string f.b]
@[reducible] instance layFlt:AC Ee:=⟨2,Gt,⟨0,⟨#[]⟩⟩,fun _=>rfl,fun _ v h=>by simp at h;rcases h with rfl|rfl<;>rfl⟩
structure NC where
 xv:Value
 ev:Value
 AJ:Nat
 AF:Nat
 ks:List UInt8
 bv:Value
 cv:Value
def A7(nb:Nat)(x:NC):HP:=
 HP.AA nb (0+0) [x.xv]*(HP.AA nb (0+1) [x.ev]*(HP.AA nb (0+2) [iN x.AJ,iN x.AF]*(HP.AA nb (0+4) (AG x.ks)*(HP.AA nb (0+20) [x.bv]*HP.AA nb (0+21) [x.cv]))))
section
variable(nb:Nat)(x:NC)
instance:Cell (A7 nb x) nb (0+0) x.xv True:=by unfold A7;infer_instance
instance:Cell (A7 nb x) nb (0+1) x.ev True:=by unfold A7;infer_instance
instance:Cell (A7 nb x) nb (0+2+0) (iN x.AJ) True:=by unfold A7;infer_instance
instance:Cell (A7 nb x) nb (0+2+1) (iN x.AF) True:=by unfold A7;infer_instance
instance:Cell (A7 nb x) nb (0+20) x.bv True:=by unfold A7;infer_instance
instance:Cell (A7 nb x) nb (0+21) x.cv True:=by unfold A7;infer_instance
instance(v:Value):C3 (A7 nb x) nb (0+0) v (A7 nb {x with xv:=v}) True:=by unfold A7;infer_instance
instance(v:Value):C3 (A7 nb x) nb (0+1) v (A7 nb {x with ev:=v}) True:=by unfold A7;infer_instance
instance(v:Value):C3 (A7 nb x) nb (0+20) v (A7 nb {x with bv:=v}) True:=by unfold A7;infer_instance
instance(v:Value):C3 (A7 nb x) nb (0+21) v (A7 nb {x with cv:=v}) True:=by unfold A7;infer_instance
end
instance rowNC(nb:Nat)(x:NC):H6 (A7 nb x) nb (0+4) (AG x.ks) (HP.AA nb (0+0) [x.xv]*(HP.AA nb (0+1) [x.ev]*(HP.AA nb (0+2) [iN x.AJ,iN x.AF]*(HP.AA nb (0+20) [x.bv]*HP.AA nb (0+21) [x.cv])))):=⟨by unfold A7;ac_rfl⟩
structure NM where
 x:NC
 cs:List CM
 rows:List Dq
 AN:List Ee
 cnt:List Ec
 xa:A8
 ea:A8
 ba:A8
 ca:A8
def NM.n(w:NM):AH:=⟨w.cs.map (·.c.s),w.rows.map (fun r=>r.es.map (·.o)),w.x.AJ,w.x.AF,w.x.ks,w.AN.map (fun f=>(f.to,f.b)),w.cnt.map (·.n)⟩
structure NM.ok(w:NM):Prop where
 xa:w.xa.ok w.cs
 ea:w.ea.ok w.rows
 ra:∀r∈w.rows,r.a.ok r.es
 ba:w.ba.ok w.AN
 ca:w.ca.ok w.cnt
 xv:w.x.xv=w.xa.v w.cs.length
 ev:w.x.ev=w.ea.v w.rows.length
 bv:w.x.bv=w.ba.v w.AN.length
 cv:w.x.cv=w.ca.v w.cnt.length
 F6:∀c∈w.cs,c.c.ok
 ks:w.x.ks.length=16
def Ay(nb:Nat)(w:NM):HP:=
 A7 nb w.x*(AB w.xa.b w.xa.o w.cs w.xa.s*(AB w.ea.b w.ea.o w.rows w.ea.s*(AB w.ba.b w.ba.o w.AN w.ba.s*(AB w.ca.b w.ca.o w.cnt w.ca.s*(AU CX w.cs*AU CY w.rows)))))
theorem VW{α:Type}(f:α→HP){l:List α}{k:Nat}{x:α}(h:l[k]?=some x):AU f l=f x*I' f l k:=by
 have hk:k<l.length:=(b_.1 h).1;rw [Pe f l k x hk,c_,h];rfl
theorem getD_some{α:Type}{l:List α}{i:Nat}{d x:α}(h:l[i]?=some x):l.getD i d=x:=by rw [c_,h];rfl
theorem Wl{α:Type}[AC α](b o:Nat){xs:List α}(s:List Value){k:Nat}{x y:α}(h:xs[k]?=some x)(e:AC.At y=AC.At x):AB b o (xs.set k y) s=AB b o xs s:=by
 have hk:k<xs.length:=(b_.1 h).1;rw [M4 b o xs s k y hk,OG b o xs s k x hk,getD_some h,e]
def Do(w:NM)(i j k:Nat)(r:Dq):HP:=I' CX w.cs i*(I' CY w.rows j*I' GV r.es k)
theorem GC(nb:Nat)(w:NM)(R:HP){i j k:Nat}{C:CM}{r:Dq}{E:EF}(hc:w.cs[i]?=some C)(hr:w.rows[j]?=some r)(he:r.es[k]?=some E):
  Ay nb w*R=A7 nb w.x*(AB w.xa.b w.xa.o w.cs w.xa.s*(AB w.ea.b w.ea.o w.rows w.ea.s*(AB w.ba.b w.ba.o w.AN w.ba.s*(AB w.ca.b w.ca.o w.cnt w.ca.s*(Ac C.cb C.c*(AB r.a.b r.a.o r.es r.a.s*(BX E.q E.o*(Do w i j k r*R)))))))):=by
 unfold Ay Do;rw [VW CX hc,VW CY hr];show _=_;unfold CY;rw [VW GV he];unfold CX GV;ac_rfl
def NM.put(w:NM)(i j k:Nat)(C:CM)(r:Dq)(E:EF):NM:={w with cs:=w.cs.set i C,rows:=w.rows.set j {r with es:=r.es.set k E}}
theorem LS(nb:Nat)(w:NM)(R:HP){i j k:Nat}{C:CM}{r:Dq}{E:EF}(hc:w.cs[i]?=some C)(hr:w.rows[j]?=some r)(he:r.es[k]?=some E)(c:Aj)(o:Du):
  Ay nb (w.put i j k ⟨C.cb,c⟩ r ⟨E.q,o⟩)*R=A7 nb w.x*(AB w.xa.b w.xa.o w.cs w.xa.s*(AB w.ea.b w.ea.o w.rows w.ea.s*(AB w.ba.b w.ba.o w.AN w.ba.s*(AB w.ca.b w.ca.o w.cnt w.ca.s*(Ac C.cb c*(AB r.a.b r.a.o r.es r.a.s*(BX E.q o*(Do w i j k r*R)))))))):=by
 have h1:i<w.cs.length:=(b_.1 hc).1;have h2:j<w.rows.length:=(b_.1 hr).1;have h3:k<r.es.length:=(b_.1 he).1;unfold Ay Do NM.put;show A7 nb w.x*(AB w.xa.b w.xa.o (w.cs.set i ⟨C.cb,c⟩) w.xa.s*(AB w.ea.b w.ea.o (w.rows.set j {r with es:=r.es.set k ⟨E.q,o⟩}) w.ea.s*(AB w.ba.b w.ba.o w.AN w.ba.s*(AB w.ca.b w.ca.o w.cnt w.ca.s*(AU CX (w.cs.set i ⟨C.cb,c⟩)*AU CY (w.rows.set j {r with es:=r.es.set k ⟨E.q,o⟩}))))))*R=_;rw [Wl w.xa.b w.xa.o w.xa.s hc (y:=⟨C.cb,c⟩) rfl,Wl w.ea.b w.ea.o w.ea.s hr (y:={r with es:=r.es.set k ⟨E.q,o⟩}) (by show [Value.slice r.a.p (r.es.set k _).length r.a.c]=_;rw [kh];rfl),Ma CX w.cs i _ h1,Ma CY w.rows j _ h2];unfold CY;show _*(_*(_*(_*(_*(_*_*(AB r.a.b r.a.o (r.es.set k ⟨E.q,o⟩) r.a.s*AU GV (r.es.set k ⟨E.q,o⟩)*_))))))*R=_;rw [Wl r.a.b r.a.o r.a.s he (y:=⟨E.q,o⟩) rfl,Ma GV r.es k _ h3];unfold CX GV;ac_rfl
theorem NM.ok.put{w:NM}(hw:w.ok){i j k:Nat}{C:CM}{r:Dq}{E:EF}(hc:w.cs[i]?=some C)(hr:w.rows[j]?=some r)(he:r.es[k]?=some E){c:Aj}(hk:c.ok)(o:Du):(w.put i j k ⟨C.cb,c⟩ r ⟨E.q,o⟩).ok:=by
 have l1:(w.cs.set i ⟨C.cb,c⟩).length=w.cs.length:=kh;have l2:(w.rows.set j {r with es:=r.es.set k ⟨E.q,o⟩}).length=w.rows.length:=kh;have l3:(r.es.set k ⟨E.q,o⟩).length=r.es.length:=kh;refine⟨?_,?_,fun q hq=>?_,hw.ba,hw.ca,?_,?_,hw.bv,hw.cv,fun q hq=>?_,hw.ks⟩
 ·have:=hw.xa;unfold A8.ok at this⊢;show Sl w.xa.p w.xa.b w.xa.o (w.cs.set i ⟨C.cb,c⟩).length w.xa.c∧(w.cs.set i ⟨C.cb,c⟩).length*_+_=_;rw [l1];exact this
 ·have:=hw.ea;unfold A8.ok at this⊢;show Sl w.ea.p w.ea.b w.ea.o (w.rows.set j {r with es:=r.es.set k ⟨E.q,o⟩}).length w.ea.c∧(w.rows.set j {r with es:=r.es.set k ⟨E.q,o⟩}).length*_+_=_;rw [l2];exact this
 ·refine Kt (P:=fun q:Dq=>q.a.ok q.es) hw.ra ?_ hq
  have:=hw.ra r Tu
  unfold A8.ok at this⊢;show Sl r.a.p r.a.b r.a.o (r.es.set k ⟨E.q,o⟩).length r.a.c∧(r.es.set k ⟨E.q,o⟩).length*_+_=_;rw [l3];exact this
 ·show w.x.xv=w.xa.v (w.cs.set i ⟨C.cb,c⟩).length;rw [l1];exact hw.xv
 ·show w.x.ev=w.ea.v (w.rows.set j {r with es:=r.es.set k ⟨E.q,o⟩}).length;rw [l2];exact hw.ev
 ·exact Kt (P:=fun q:CM=>q.c.ok) hw.F6 hk hq
theorem Se{α β:Type}(f:α→β)(l:List α)(i:Nat)(y:α):(l.set i y).map f=(l.map f).set i (f y):=kt
theorem NM.Hk(w:NM){i j k:Nat}{C:CM}{r:Dq}{E:EF}(hc:w.cs[i]?=some C)(hr:w.rows[j]?=some r)(c:Aj)(o:Du):(w.put i j k ⟨C.cb,c⟩ r ⟨E.q,o⟩).n=(w.n.Aq i c.s).C4 j k o:=by
 have e:w.n.ends.getD j []=r.es.map (·.o):=getD_some (by show(w.rows.map _)[j]?=_;rw [f_,hr];rfl);unfold NM.put NM.n AH.Aq AH.C4;show AH.mk ((w.cs.set i ⟨C.cb,c⟩).map _) ((w.rows.set j {r with es:=r.es.set k ⟨E.q,o⟩}).map _) _ _ _ _ _=AH.mk _ (w.n.ends.set j ((w.n.ends.getD j []).set k o)) _ _ _ _ _;rw [Se,Se,e,←Se (fun m:EF=>m.o) r.es k ⟨E.q,o⟩];rfl
theorem NM.Fc{w:NM}{i:Nat}{C:CM}(hc:w.cs[i]?=some C):w.n.x i=C.c.s:=getD_some (by show(w.cs.map _)[i]?=_;rw [f_,hc];rfl)
theorem NM.IT{w:NM}{j k:Nat}{r:Dq}{E:EF}(hr:w.rows[j]?=some r)(he:r.es[k]?=some E):w.n.e j k=E.o:=by
 have e:w.n.ends.getD j []=r.es.map (·.o):=getD_some (by show(w.rows.map _)[j]?=_;rw [f_,hr];rfl);unfold AH.e;rw [e];exact getD_some (by rw [f_,he];rfl)
theorem IX{α:Type}{l:List α}{i n:Nat}(h:l.length=n)(hi:i<n):∃x,l[i]?=some x:=⟨l[i]'Ca,g_ Ca⟩
theorem Ad.mem{t:Nat}{w:NM}{L:Nat→List (List AM)}{R:Nat→Nat→Prop}{T:Nat→Nat→List UInt8}(h:Ad t w.n L R T){i j k:Nat}(hi:i<2)(hj:j<2)(hk:k<4):
  ∃C r E,w.cs[i]?=some C∧w.rows[j]?=some r∧r.es[k]?=some E∧w.cs.length=2∧w.rows.length=2∧r.es.length=4:=by
 have l1:w.cs.length=2:=by have:=h.xl;unfold NM.n at this;simpa using this
 have l2:w.rows.length=2:=by have:=h.el;unfold NM.n at this;simpa using this
 obtain⟨C,hC⟩:=IX l1 hi;obtain⟨r,hr⟩:=IX l2 hj;have e:w.n.ends.getD j []=r.es.map (·.o):=getD_some (by show(w.rows.map _)[j]?=_;rw [f_,hr];rfl)
 have l3:r.es.length=4:=by have:=h.Dp j hj;rw [e]at this;simpa using this
 obtain⟨E,hE⟩:=IX l3 hk;exact⟨C,r,E,hC,hr,hE,l1,l2,l3⟩
theorem WI{w:NM}{i:Nat}{C:CM}(hc:w.cs[i]?=some C):w.n.Aq i C.c.s=w.n:=by
 have hk:i<w.n.xs.length:=by show i<(w.cs.map _).length;rw [e_];exact(b_.1 hc).1
 have:=NM.Fc hc
 unfold AH.Aq;rw [←this];unfold AH.x;rw [N3 w.n.xs i Jk hk]
theorem Kd{w:NM}{j k:Nat}{r:Dq}{E:EF}(hr:w.rows[j]?=some r)(he:r.es[k]?=some E)(xs:List AD):({w.n with xs:=xs}:AH).C4 j k E.o={w.n with xs:=xs}:=by
 have hj:j<w.n.ends.length:=by show j<(w.rows.map _).length;rw [e_];exact(b_.1 hr).1
 have e:w.n.ends.getD j []=r.es.map (·.o):=getD_some (by show(w.rows.map _)[j]?=_;rw [f_,hr];rfl)
 have hk:k<(r.es.map (·.o)).length:=by rw [e_];exact(b_.1 he).1
 have e2:(r.es.map (·.o)).getD k Da=E.o:=getD_some (by rw [f_,he];rfl);unfold AH.C4;show({w.n with xs:=xs,ends:=w.n.ends.set j ((w.n.ends.getD j []).set k E.o)}:AH)=_;rw [e,←e2,N3 _ k Da hk,←e,N3 _ j [] hj]
theorem ZS(xs:List Ec):AG xs=xs.map (fun x=>uN x.n):=by
 induction xs with
 |nil=>rfl
 |cons x xs ih=>show [uN x.n]++AG xs=_;rw [ih];rfl
instance updW64(b o i:Nat)(xs:List Ec)(s:List Value)(v:Nat):C3 (AB b o xs s) b (o+i*1) (uN v) (AB b o (xs.set i ⟨v⟩) s) (i<xs.length):=
 ⟨fun r hr hi=>by
  have hfl:(AG xs).length=xs.length:=by rw [By];show xs.length*1=_;omega
  have h:MM (AG xs++s) i (uN v) ((AG xs++s).set i (uN v)):=⟨Pt,rfl⟩
  have h2:=(inferInstance:C3 (HP.AA b o (AG xs++s)) b (o+i) (uN v) (HP.AA b o ((AG xs++s).set i (uN v))) True).upd r hr trivial
  rw [Nat.mul_one]
  refine⟨h2.1,?_⟩
  have e:AG (xs.set i ⟨v⟩)++s=(AG xs++s).set i (uN v):=by rw [List.set_append_left _ _ Ca];congr 1;rw [ZS,ZS,kt]
  unfold AB
  rw [e]
  exact h2.2⟩
theorem En(nb:Nat)(w:NM)(R:HP):Ay nb w*R=A7 nb w.x*(AB w.xa.b w.xa.o w.cs w.xa.s*(AB w.ea.b w.ea.o w.rows w.ea.s*(AB w.ba.b w.ba.o w.AN w.ba.s*(AB w.ca.b w.ca.o w.cnt w.ca.s*(AU CX w.cs*(AU CY w.rows*R)))))):=by
 unfold Ay;ac_rfl
def NM.send(w:NM)(i c:Nat)(f:Ee)(a:A8):NM:={w with x:={w.x with bv:=a.v (w.AN++[f]).length},cnt:=w.cnt.set i ⟨c⟩,AN:=w.AN++[f],ba:=a}
theorem H? (nb:Nat)(w:NM)(i c:Nat)(f:Ee)(a:A8)(R:HP):Ay nb (w.send i c f a)*R=A7 nb {w.x with bv:=a.v (w.AN++[f]).length}*(AB w.xa.b w.xa.o w.cs w.xa.s*(AB w.ea.b w.ea.o w.rows w.ea.s*(AB a.b a.o (w.AN++[f]) a.s*(AB w.ca.b w.ca.o (w.cnt.set i ⟨c⟩) w.ca.s*(AU CX w.cs*(AU CY w.rows*R)))))):=En nb (w.send i c f a) R
theorem NM.ok.send{w:NM}(hw:w.ok)(i c:Nat){f:Ee}{a:A8}(ha:a.ok (w.AN++[f])):(w.send i c f a).ok:=by
 have l1:(w.cnt.set i ⟨c⟩).length=w.cnt.length:=kh;refine⟨hw.xa,hw.ea,hw.ra,ha,?_,hw.xv,hw.ev,rfl,?_,hw.F6,hw.ks⟩
 ·have:=hw.ca;unfold A8.ok at this⊢;show Sl w.ca.p w.ca.b w.ca.o (w.cnt.set i ⟨c⟩).length w.ca.c∧(w.cnt.set i ⟨c⟩).length*_+_=_;rw [l1];exact this
 ·show w.x.cv=w.ca.v (w.cnt.set i ⟨c⟩).length;rw [l1];exact hw.cv
theorem NM.tP(w:NM)(i c:Nat)(f:Ee)(a:A8):(w.send i c f a).n={w.n with count:=w.n.count.set i c,AN:=w.n.AN++[(f.to,f.b)]}:=by
 unfold NM.send NM.n;dsimp only;rw [Se,i_];rfl
theorem P1(xs:List UInt8):(AW xs).data.toList=xs:=List.toList_toArray
theorem Yb(ks:List UInt8)(side:UInt8):∀(Ls:List (List AM)) (m j:Nat) (fs:List AM),Ls[j]?=some fs→(outs ks side m Ls)[j]?=some (Bk ks side (g' (m+j)) (Ar fs))
 |[],m,j,fs,h=>by cases h
 |g::Ls,m,0,fs,h=>by
  have h:some g=some fs:=h;cases h;rfl
 |g::Ls,m,j+1,fs,h=>by
  show(outs ks side (m+1) Ls)[j]?=_;rw [Yb ks side Ls (m+1) j fs h,show m+1+j=m+(j+1) by omega]
def I2(w w':NM):Prop:=∀(j k:Nat) (r:Dq) (E:EF),w.rows[j]?=some r→r.es[k]?=some E→∃r' E',w'.rows[j]?=some r'∧r'.es[k]?=some E'∧E'.q=E.q
theorem I2.refl(w:NM):I2 w w:=fun _ _ r E h g=>⟨r,E,h,g,rfl⟩
theorem I2.trans{a b c:NM}(h:I2 a b)(g:I2 b c):I2 a c:=fun j k r E h1 h2=>by
 obtain⟨r1,E1,a1,a2,a3⟩:=h j k r E h1 h2;obtain⟨r2,E2,b1,b2,b3⟩:=g j k r1 E1 a1 a2;exact⟨r2,E2,b1,b2,b3.trans a3⟩
theorem I2.put(w:NM){i j k:Nat}{r:Dq}{E:EF}(hr:w.rows[j]?=some r)(hE:r.es[k]?=some E)(C:CM)(o:Du):I2 w (w.put i j k C r ⟨E.q,o⟩):=fun j' k' r' E' h1 h2=>by
 have l1:j<w.rows.length:=(b_.1 hr).1;have l2:k<r.es.length:=(b_.1 hE).1;show ∃r'' E'',(w.rows.set j {r with es:=r.es.set k ⟨E.q,o⟩})[j']?=some r''∧_;by_cases e:j=j'
 ·subst e;rw [hr]at h1;cases h1;rw [kw l1];by_cases e2:k=k'
  ·subst e2;rw [hE]at h2;cases h2;exact⟨_,⟨E.q,o⟩,rfl,kw l2,rfl⟩
  ·exact⟨_,E',rfl,(li e2).trans h2,rfl⟩
 ·rw [li e];exact⟨r',E',h1,h2,rfl⟩
theorem cp(c:AD)(k:Int)(s:ByteArray):c.CD ⟨1,k,0,0,s⟩=(⟨(c.write k s.data.toList).1.2,-1,(c.write k s.data.toList).1.1,0,⟨#[]⟩,[]⟩,(c.write k s.data.toList).2):=rfl
theorem mK(c:AD)(k:Int):c.CD ⟨2,k,0,0,⟨#[]⟩⟩=(⟨(c.finish k).1,-1,0,0,⟨#[]⟩,[]⟩,(c.finish k).2):=rfl
theorem mJ(c:AD)(k:Int)(x:Nat):c.CD ⟨3,k,0,x,⟨#[]⟩⟩=(⟨(c.giveUp k x).1,-1,0,0,⟨#[]⟩,[]⟩,(c.giveUp k x).2):=rfl
theorem Xj(c:AD):c.CD ⟨4,0,0,0,⟨#[]⟩⟩=(⟨0,-1,0,0,⟨#[]⟩,[]⟩,c.tick):=rfl
theorem ab(c:AD):c.CD ⟨5,0,0,0,⟨#[]⟩⟩=(⟨0,-1,0,0,⟨#[]⟩,c.As.1.map AW⟩,c.As.2):=rfl
theorem jL(c:AD)(s:ByteArray):c.CD ⟨6,0,0,0,s⟩=(⟨(c.BA s.data.toList).1.1,(c.BA s.data.toList).1.2,0,0,⟨#[]⟩,[]⟩,(c.BA s.data.toList).2):=rfl
theorem wY(c:AD)(k AL:Int):c.CD ⟨7,k,AL,0,⟨#[]⟩⟩=(⟨(c.read k AL).1.2.2.2,-1,(c.read k AL).1.2.1,(c.read k AL).1.2.2.1,AW (c.read k AL).1.1,[]⟩,(c.read k AL).2):=rfl
theorem bj(c:AD)(k:Int):c.CD ⟨9,k,0,0,⟨#[]⟩⟩=(⟨(c.AE k).2,-1,(c.AE k).1,0,⟨#[]⟩,[]⟩,c):=rfl
@[reducible] def DC(a:EM)(v:Value):List Value:=[iN a.e,.int .i64 a.at_,iN a.n,uN a.code,.string a.data,v]
end
end Go.Proofs.YtgfdlpcdjklcoaaGreatDoor
