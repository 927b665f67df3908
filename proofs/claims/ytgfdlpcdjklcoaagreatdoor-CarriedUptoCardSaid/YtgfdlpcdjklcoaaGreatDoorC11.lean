/- A part of this proof: steps of the program, plain facts; no condition. -/
import Derived.Test.YtgfdlpcdjklcoaaGreatDoorC10
namespace Go.Proofs.YtgfdlpcdjklcoaaGreatDoor
open Go Go.RowKit
open _root_.List renaming length_append→A_,getElem?_eq_some_iff→A!,getD_eq_getElem?_getD→A?,mem_singleton→B_,length_map→B!,getElem?_map→B?,getElem?_eq_getElem→C_,append_nil→C?,map_append→D_,length_singleton→D!,replicate_succ→E_,length_set→E!,mem_map→F_,replicate→F!,getElem?_append_right→F?,append_assoc→G_,map_cons→G!,length_take→G?,length_eq_zero_iff→H_,map_set→H!,map_nil→I_,getElem?_set_self→I!,nil_append→J_,mem_append→J!,set_append_right→J?,eq_replicate_iff→K_,getElem?_set_ne→K?,replicate_zero→L_,length_drop→L!,length→M_,map_map→M!
open _root_.UInt64 renaming ofNat→C!
open _root_.Nat renaming le_refl→D?,sub_self→H?,min_le_left→I?,zero_le→K!,le_add_right→L?,blt→M?
open _root_.Eq renaming mp→E?
set_option linter.unusedVariables false
set_option linter.unusedSimpArgs false
set_option maxRecDepth 20000
section
variable{B:World}
section
variable(db:Nat)(m:DI)
instance:Cell (BK db m) db (0+0) (.slice m.a.p m.d.b.length m.a.c) True:=by unfold BK;infer_instance
instance:Cell (BK db m) db (0+1) (.slice m.f.p m.rs.length m.f.c) True:=by unfold BK;infer_instance
instance:Cell (BK db m) db (0+2) (iN m.d.room) True:=by unfold BK;infer_instance
instance:Cell (BK db m) db (0+3) (.bool (Dy m.d.As)) True:=by unfold BK;infer_instance
end
section
variable{P:Program}{n:Nat}{E:Ay}{D:Br}{H R:HP}{ops:Array Oper}{Q:Exit→Act→World→Prop}{fuel last:Nat}{ls:Array Bool}{op:Op}{ty:TypeId}{pos:String}{af:Array Edge}
theorem RU(i:Nat){t j tj:Nat}{b want:Bool}(hr:Region.ready .any ops ls=[i])(hi:ops[i]?=some ⟨some t,op,ty,pos,af,some (j,want)⟩)(ht:M? t n=true)
  (hj:(ops[j]?).bind (·.dst)=some tj)(hb:lk E tj=some (.bool b))(hw:b= !want)(hR:last≤i∨Bm B H R)
  (next:WA P B ops Q R last fuel (ls.setIfInBounds i true) n ((t,undef)::E) D H):
  WA P B ops Q R last (fuel+1) ls n E D H:=by
 intro a w h1 h2 h3
 have hy:yielded ops a.tmps j=some b:=by
  have:=h1.2 _ _ hb
  simp [yielded,hj,this]
 have hn:(some b==some want)=false:=by rw [hw];cases want<;>rfl
 refine⟨(fun h0=>by rw [hr]at h0;cases h0),fun k hk=>?_⟩;rw [hr]at hk;obtain rfl:=B_.1 hk;unfold wpOp;rw [hi];have hg:=next _ w (h1.put Sd undef) (by simp [Act.put,h2]) h3;simp only [Region.wanted,hy,hn,Bool.false_eq_true,if_false];exact⟨hR.imp id (fun h=>h.get w h3),hg⟩
theorem nR(i:Nat){t j tj:Nat}{b want:Bool}{v:Value}(hr:Region.ready .any ops ls=[i])(hi:ops[i]?=some ⟨some t,op,ty,pos,af,some (j,want)⟩)(ht:M? t n=true)
  (hj:(ops[j]?).bind (·.dst)=some tj)(hb:lk E tj=some (.bool b))(hw:b=want)
  (hv:Aa P B n ⟨some t,op,ty,pos,af,some (j,want)⟩ E H v)(hR:last≤i∨Bm B H R)(next:WA P B ops Q R last fuel (ls.setIfInBounds i true) n ((t,v)::E) D H):
  WA P B ops Q R last (fuel+1) ls n E D H:=
 Oo i hr hi ht hj hb hw (Post:=fun v' H'=>v'=v∧H'=H) (fun a w h1 _ h3 K Q hk=>by simp only [Oper.wp,hv a w h1 h3,Oper.upon];exact hk _ _ _ Ba h3) (by refine JR ?_;exact⟨hR,next⟩)
end
def CI(f:AT):RF:=⟨f,none,0,0,0,[]⟩
theorem NE{f:AT}(h1:f.ranges=[])(h2:f.data.size<100000000000):G1 (CI f):=⟨⟨.inl rfl,by show f.ranges.length≤0;rw [h1];exact D? _⟩,by show f.ranges.length<_;rw [h1];decide,h2⟩
theorem P4{f:AT}(h1:f.ranges=[])(H:HP):Ab B H (CI f).b (CI f).o (CI f).f.ranges:=by
 show Ab B H 0 0 f.ranges;rw [h1];exact⟨fun i f v e hi=>absurd hi (Nat.not_lt_zero i)⟩
def WN(o:Option (AX×BT))(w:AX)(d:BT)(v:Value)(w':AX)(d':BT):Prop:=
 match o with
 |none=>v=.bool false∧w'=w∧d'=d
 |some z=>v=.bool true∧w'=z.1∧d'=z.2
theorem sJ(k lo:Nat)(fin:Bool)(ds:List UInt8):ds.length≤(Ai (Bt k lo fin ds)).length:=by
 have h:(AW ds).size=ds.length:=by simp
 have h2:(Ai (Bt k lo fin ds)).length=([if fin then(9:UInt8)else 8]++AU k++AU lo++AU (AW ds).size++(AW ds).data.toList).length:=by
  cases fin<;>rfl
 rw [h2];simp only [A_]
 have:(AW ds).data.toList.length=ds.length:=h
 omega
theorem yZ(l:List AV)(hi:Nat):∀lo,lo≤hi→(AQ lo hi l).2≤hi:=by
 induction l with
 |nil=>intro lo h;exact D? _
 |cons r rs ih=>
  intro lo h;unfold AQ;split
  ·exact ih lo h
  ·split
   ·exact I? _ _
   ·by_cases h3:r.hi+1≤hi
    ·exact ih _ h3
    ·rename_i h1 h2
     have:∀(l:List AV) (a:Nat),(AQ a hi l).2≤hi:=by
      intro l
      induction l with
      |nil=>intro a;exact D? _
      |cons r rs ih2=>
       intro a;unfold AQ;split
       ·exact ih2 a
       ·split
        ·exact I? _ _
        ·exact ih2 _
     exact this rs _
theorem mT{f:AT}:(Ai f).length≤64+16*f.ranges.length+f.data.size:=by
 have hd:f.data.data.toList.length=f.data.size:=by rw [Array.length_toList];rfl
 have v1:=CO f.stream.toNat;have v2:=CO f.code;have v3:=CO f.offset;have v4:=CO f.data.size;have v5:=Ow f.ranges (f.ranges.length-1);have v6:=CO (rg f.ranges 0).hi;have v7:=CO (f.ranges.length-1);have v8:=CO ((rg f.ranges 0).hi-(rg f.ranges 0).lo);unfold Ai KD
 repeat' split
 all_goals (simp only [A_,List.length_cons,List.length_nil,hd];omega)
set_option maxHeartbeats 4000000 in
theorem vT(cb db j AF:Nat)(ws:List BU)(dm:DI)(R:HP)(hl:ws.length=4)(hj:j<4)(hok:∀w∈ws,w.ok)(hw:CW AF (ws.getD j AC.AH).w)(hd:dm.ok):
  Fn Tryz.prog B 140 [ptr cb 0,ptr db 0,iN j] (A1 cb ws*(BK db dm*R)) (fun v H'=>∃(wm':BU) (dm':DI),wm'.ok∧dm'.ok∧WN ((ws.getD j AC.AH).w.fill dm.d j) (ws.getD j AC.AH).w dm.d v wm'.w dm'.d∧H'=A1 cb (ws.set j wm')*(BK db dm'*R)):=by
 refine mI Tryz.func140 ?_
 have hjl:j<ws.length:=by omega
 have hwm:=hok _ KJ;refine Ao (H':=HP.AA cb (0+43+j*10) (Bd (ws.getD j AC.AH))*(Bi (ws.getD j AC.AH)*(B6 cb ws j*(BK db dm*R)))) (by rw [Im cb ws j hjl];ac_rfl) ?_;generalize hwx:ws.getD j AC.AH=wm at hw hwm⊢;refine Ao (H':=HP.AA cb (0+43+j*10) (Bd wm)*(AB wm.a.b wm.a.o wm.w.b wm.a.s*(AS wm.sq wm.sa wm.w.Ae*(AS wm.cq wm.ca wm.w.AE*(B6 cb ws j*(BK db dm*R)))))) MS ?_;have hbl:=hw.len;have hwh:=hw.high;have hwc:=hw.code;have hrm:=hd.room;have hdl:=hd.len;refine Bq ?_;refine JL MU ?_;refine DH ?_;refine mc (fun hgv=>?_) (fun hgv=>?_)
 ·refine J2 ?_;refine D5 (HP.AA cb (0+43+j*10) (Bd wm)*(AB wm.a.b wm.a.o wm.w.b wm.a.s*(AS wm.sq wm.sa wm.w.Ae*(AS wm.cq wm.ca wm.w.AE*(B6 cb ws j*R))))) 16 19 EI rfl Cb ?_;refine MJ ?_;refine Lc 27 rfl (fun hg1=>?_) (fun hg1=>?_)
  ·have htl:wm.w.C4=true:=hg1;refine JN 5 rfl hg1 ?_;refine Sm ?_;refine JN 11 rfl hg1 ?_;refine JN 12 rfl hg1 ?_;refine JN 13 rfl hg1 ?_;refine JN 14 rfl hg1 ?_;refine JN 15 rfl hg1 ?_;refine XH ?_;refine RU 16 Cb rfl rfl rfl rfl hg1 D2 ?_;refine RU 17 Cb rfl rfl rfl rfl hg1 D2 ?_;refine EL 18 Cb rfl rfl JS D2 ?_;refine Ei ?_;refine GJ ?_;refine J8 ?_
   have hfill:wm.w.fill dm.d j=none:=by
    unfold AX.fill;rw [if_pos hgv,if_pos htl]
   exact Mk
  have htl:wm.w.C4=false:=hg1;refine JY 5 rfl hg1 BZ ?_;refine JY 6 rfl hg1 BZ ?_;refine JY 7 rfl hg1 BZ ?_;refine JY 8 rfl hg1 CJ ?_;refine JY 9 rfl hg1 BL ?_;refine JY 10 rfl hg1 BX ?_;refine JY 11 rfl hg1 BZ ?_;refine JY 12 rfl hg1 CJ ?_;refine JY 13 rfl hg1 BL ?_;refine JY 14 rfl hg1 BX ?_;refine JY 15 rfl hg1 (Ex (cs:=AJ (CI (H2 j wm.w.code wm.w.high))) rfl rfl rfl (AC.one (CI (H2 j wm.w.code wm.w.high)))) ?_;refine XH ?_;refine Oo 16 Cb rfl rfl rfl rfl hg1 (BJ rfl (RQ db dm (CI (H2 j wm.w.code wm.w.high)) _ hd (ZC hj hwc Ca) ⟨by show(3:Int)≤4;decide,by show(4:Int)≤5;decide⟩ (NE rfl Nm) (hr:=P4 rfl _))) ?_;rintro _ _ ⟨dm2,hd2,hde2,rfl,rfl⟩;refine DK ?_;refine nR 17 Cb rfl rfl rfl rfl hg1 Ku D2 ?_;refine EL 18 Cb rfl rfl JC D2 ?_;refine Ei ?_;refine mc (fun h41=>?_) (fun h41=>?_)
  ·refine J8 ?_
   have hadd:dm.d.add (H2 j wm.w.code wm.w.high)=none:=by simpa [CI]using h41
   have hde3:dm2.d=dm.d:=by rw [hde2];show(dm.d.add (H2 j wm.w.code wm.w.high)).getD dm.d=_;rw [hadd];rfl
   have hfill:wm.w.fill dm.d j=none:=by
    unfold AX.fill;rw [if_pos hgv,if_neg (by rw [htl];simp),hadd]
   exact mR [6] (A1 cb (ws.set j wm)*(BK db dm2*R)) (hE:=aC) rfl rfl ⟨wm,dm2,hwm,hd2,cE,rfl⟩
  refine nC ?_;obtain⟨d2,hadd⟩:∃d2,dm.d.add (H2 j wm.w.code wm.w.high)=some d2:=Option.isSome_iff_exists.1 (by simpa [CI]using h41)
  have hde3:dm2.d=d2:=by rw [hde2];show(dm.d.add (H2 j wm.w.code wm.w.high)).getD dm.d=_;rw [hadd];rfl
  have hfill:wm.w.fill dm.d j=some ({wm.w with C4:=true},d2):=by
   unfold AX.fill;rw [if_pos hgv,if_neg (by rw [htl];simp),hadd]
  obtain⟨w2,hw2⟩:∃w2:BU,w2={wm with w:={wm.w with C4:=true}}:=Be
  have hok2:w2.ok:=by rw [hw2];exact hwm
  exact mR [6] (A1 cb (ws.set j w2)*(BK db dm2*R)) (hE:=⟨fun ww hw=>E? (by
   congr 1
   rw [KW cb ws j w2 hjl,hw2]
   unfold Bi
   show _=HP.AA cb (0+43+j*10) [.slice wm.a.p wm.w.b.length wm.a.c,ptr wm.sq 0,ptr wm.cq 0,uN wm.w.high,.bool wm.w.finished,.bool wm.w.ending,.bool wm.w.ended,.bool wm.w.given,uN wm.w.code,.bool true]*(AB wm.a.b wm.a.o wm.w.b wm.a.s*(AS wm.sq wm.sa wm.w.Ae*AS wm.cq wm.ca wm.w.AE)*B6 cb ws j)*(BK db dm2*R)
   ac_rfl) hw⟩) rfl rfl ⟨w2,dm2,hok2,hd2,by rw [hfill];exact⟨rfl,Sh,hde3⟩,rfl⟩
 refine J9 ?_;refine JL FC ?_;refine J4 ?_;obtain⟨ga,gb,gc,gd,ge⟩:=H9 wm.w.Ae.l 0 wm.w.b.length hw.so.inc FL;have gle:=yZ wm.w.Ae.l wm.w.b.length 0 FL;refine J6 ?_;refine mE rfl (OX wm.sq 0 wm.w.b.length wm.w.b.length wm.sa wm.w.Ae _ hwm.2.1 hw.so Ca (by have h7:=hw.so.len;rw [hw.sm]at h7;omega)) ?_;refine JR ?_;refine DH ?_;refine JL Ka ?_;refine J2 ?_;refine CR (α:=Nat×Nat) (fun z=>[(9,uN z.1),(10,uN z.2),(7,ptr cb (0+43+j*10)),(8,uN wm.w.b.length),(0,ptr cb 0),(1,ptr db 0),(2,iN j)]) (fun _=>HP.AA cb (0+43+j*10) (Bd wm)*(AB wm.a.b wm.a.o wm.w.b wm.a.s*(AS wm.sq wm.sa wm.w.Ae*(AS wm.cq wm.ca wm.w.AE*(B6 cb ws j*(BK db dm*R)))))) (fun z=>wm.w.fill dm.d j=wm.w.KE dm.d j z.1 z.2∧z.1≤z.2∧z.2≤wm.w.b.length) ?_ ?_
 ·refine mC (fun h62=>?_) (fun h62=>?_)
  ·refine J7 ?_;refine JO ?_;refine J1 ?_;refine DA 68 rfl (fun hg2=>?_) (fun hg2=>?_)
   ·skip
    have h66:wm.w.finished=false:=by simpa using hg2
    refine Sr ?_;refine JH hg2 ?_;refine JL MX ?_;refine J1 ?_;refine KZ ?_;refine MC ?_;refine JL G2 ?_;refine J2 ?_;refine GJ ?_;refine J9 ?_
    have hfill:wm.w.fill dm.d j=none:=by
     unfold AX.fill;rw [if_neg NB,if_pos h62,if_pos (.inl h66)]
    exact Mk
   have h66:wm.w.finished=true:=by simpa using hg2
   refine OL ?_;refine OL ?_;refine JL Mo ?_;refine J1 ?_;refine DA 74 rfl (fun hg3=>?_) (fun hg3=>?_)
   ·have h72:wm.w.ending=true:=hg3;refine Oe ?_;refine Hf ?_;refine JL OY ?_;refine J2 ?_;refine GJ ?_;refine J9 ?_
    have hfill:wm.w.fill dm.d j=none:=by
     unfold AX.fill;rw [if_neg NB,if_pos h62,if_pos (.inr (.inl h72))]
    exact Mk
   have h72:wm.w.ending=false:=hg3;refine OJ ?_;refine J1 ?_;refine F5z ?_;refine J1 ?_;refine JL KF ?_;refine J2 ?_;refine mc (fun h78=>?_) (fun h78=>?_)
   ·refine J9 ?_
    have hfill:wm.w.fill dm.d j=none:=by
     unfold AX.fill;rw [if_neg NB,if_pos h62,if_pos (.inr (.inr h78))]
    exact Mk
   refine J8 ?_;exact A8 (wm.w.b.length,wm.w.b.length) ⟨by unfold AX.fill;rw [if_neg NB,if_pos h62,if_neg (by rw [h66,h72,h78];simp)],D? _,D? _⟩ LX rfl
  refine J1 ?_;exact A8 ((AQ 0 wm.w.b.length wm.w.Ae.l).1,(AQ 0 wm.w.b.length wm.w.Ae.l).2) ⟨by unfold AX.fill;rw [if_neg NB,if_neg h62],by dsimp only;omega,gle⟩ LX rfl
 ·rintro⟨lo,hi⟩ ⟨hfe,hlh,hhb⟩;dsimp only at hfe hlh hhb⊢;refine Bq ?_;refine JL (O7 (k':=(cut wm.w.b lo hi).length) rfl rfl rfl Xa (MK hhb)) ?_;refine JL (Lp (xs:=cut wm.w.b lo hi) (b:=wm.a.b) (o:=wm.a.o+lo*1) rfl (by have:=hwm.1.1;exact EZ this hlh pH (MK hhb)) (Ab.sub (xs:=wm.w.b) inferInstance lo hi hhb)) ?_;refine JL (Ex (cs:=AJ (CI (Bt j lo false (cut wm.w.b lo hi)))) rfl rfl rfl (AC.one (CI (Bt j lo false (cut wm.w.b lo hi))))) ?_;refine BF (H':=AB 0 0 ([]:List UInt8) []*(HP.AA cb (0+43+j*10) (Bd wm)*(AB wm.a.b wm.a.o wm.w.b wm.a.s*(AS wm.sq wm.sa wm.w.Ae*(AS wm.cq wm.ca wm.w.AE*(B6 cb ws j*(BK db dm*R))))))) Lh ?_;have hcl:=MK (lo:=lo) hhb;refine mE rfl (Tq (CI (Bt j lo false (cut wm.w.b lo hi))) none 0 0 0 [] [] _ (NE rfl (by rw [Lr];omega)) (P4 rfl _) F8 rfl Cc (by show DU 5;unfold DU;decide) ⟨OR,by show(5:Int)≤5;decide⟩ (TY hj Ca)) ?_;rintro _ _ ⟨p93,b93,o93,c93,s93,Q93,rfl,hs93,hc93,rfl,hk93⟩;have hhg:=sJ j lo false (cut wm.w.b lo hi)
  have hel:(Ai (Bt j lo false (cut wm.w.b lo hi))).length<100000:=by have:=mT (f:=Bt j lo false (cut wm.w.b lo hi));rw [Lr]at this;have h9:(Bt j lo false (cut wm.w.b lo hi)).ranges.length=0:=rfl;omega
  rw [J_]at*;refine J3 ?_;refine JL G5 ?_;refine JL K9 ?_;refine JL (II (i:=(Ai (Bt j lo false (cut wm.w.b lo hi))).length) (j:=hi-lo) rfl rfl Ca) ?_;refine J4 ?_;refine HI (HP.AA cb (0+43+j*10) (Bd wm)*(AB wm.a.b wm.a.o wm.w.b wm.a.s*(AS wm.sq wm.sa wm.w.Ae*(AS wm.cq wm.ca wm.w.AE*(B6 cb ws j*(BK db dm*R)))))) ?_;refine mA 13 13 ?_;refine Jm 0 ?_;refine Jn 1 ?_;refine Jf 2 ?_;refine Jd 3 ?_;refine Kq ?_;refine JT 8 rfl FF ?_;refine JT 9 rfl LU ?_;refine Jm 10 ?_;refine JT 11 rfl (Ob (i:=((dm.d.room-dm.d.b.length:Nat):Int)) (j:=(((Ai (Bt j lo false (cut wm.w.b lo hi))).length-(hi-lo)):Nat)) rfl rfl Ca) ?_;refine Ja 12 ?_;refine IR ?_
  refine CR (α:=Unit) (fun _=>[(118,.bool (decide (lo<hi∧((dm.d.room-dm.d.b.length:Nat):Int)-(((Ai (Bt j lo false (cut wm.w.b lo hi))).length-(hi-lo):Nat):Int)<1))),(12,.int .i64 (((dm.d.room-dm.d.b.length:Nat):Int)-(((Ai (Bt j lo false (cut wm.w.b lo hi))).length-(hi-lo):Nat):Int))),(9,uN lo),(10,uN hi),(7,ptr cb (0+43+j*10)),(8,uN wm.w.b.length),(0,ptr cb 0),(1,ptr db 0),(2,iN j)]) (fun _=>HP.AA cb (0+43+j*10) (Bd wm)*(AB wm.a.b wm.a.o wm.w.b wm.a.s*(AS wm.sq wm.sa wm.w.Ae*(AS wm.cq wm.ca wm.w.AE*(B6 cb ws j*(BK db dm*R)))))) (fun _=>True) ?_ ?_
  ·refine J3 ?_;refine JL Hc ?_;refine J1 ?_;refine D8 115 rfl (fun hg4=>?_) (fun hg4=>?_)
   ·have h115:lo<hi:=hg4;refine JG T4 ?_;refine J1 ?_;refine JG T4 ?_;refine JL (K3 (i:=((dm.d.room-dm.d.b.length:Nat):Int)-(((Ai (Bt j lo false (cut wm.w.b lo hi))).length-(hi-lo)):Nat)) (j:=1) rfl rfl) ?_;refine JL SC ?_;refine J1 ?_;exact A8 () trivial (.cons (congrArg (fun bb=>some (Value.bool bb)) (decide_eq_decide.2 ⟨fun h=>⟨h115,h⟩,fun h=>h.2⟩)) MF) rfl
   have h115:¬lo<hi:=hg4;refine JH F4 ?_;refine JH F4 ?_;refine JL SR ?_;refine J1 ?_;exact A8 () trivial (.cons (congrArg (fun bb=>some (Value.bool bb)) (decide_eq_false (fun h=>h115 h.1)).symm) MF) rfl
  ·rintro _ _;refine J1 ?_;refine mC (fun h118=>?_) (fun h118=>?_)
   ·refine J7 ?_
    have hfill:wm.w.fill dm.d j=none:=by
     rw [hfe];unfold AX.KE;dsimp only;rw [if_pos Ca]
    exact Mk
   refine J3 ?_
   have hnb:¬(lo<hi∧dm.d.room<dm.d.b.length+((Ai (Bt j lo false (cut wm.w.b lo hi))).length-(hi-lo))+1):=by omega
   have hfe2:wm.w.fill dm.d j=match dm.d.add (CI (Bt j lo (wm.w.finished&&decide ((min hi (lo+(dm.d.room-dm.d.b.length-((Ai (Bt j lo false (cut wm.w.b lo hi))).length-(hi-lo)))))=wm.w.b.length)) (cut wm.w.b lo (min hi (lo+(dm.d.room-dm.d.b.length-((Ai (Bt j lo false (cut wm.w.b lo hi))).length-(hi-lo)))))))).f with
     |none=>none
     |some d2=>some ({wm.w with Ae:=if lo<(min hi (lo+(dm.d.room-dm.d.b.length-((Ai (Bt j lo false (cut wm.w.b lo hi))).length-(hi-lo)))))then wm.w.Ae.add lo ((min hi (lo+(dm.d.room-dm.d.b.length-((Ai (Bt j lo false (cut wm.w.b lo hi))).length-(hi-lo)))))-1)else wm.w.Ae,ending:=wm.w.ending||(wm.w.finished&&decide ((min hi (lo+(dm.d.room-dm.d.b.length-((Ai (Bt j lo false (cut wm.w.b lo hi))).length-(hi-lo)))))=wm.w.b.length)),high:=max wm.w.high (min hi (lo+(dm.d.room-dm.d.b.length-((Ai (Bt j lo false (cut wm.w.b lo hi))).length-(hi-lo)))))},d2):=by
    rw [hfe];unfold AX.KE;dsimp only;rw [if_neg hnb];rfl
   have hh2:lo≤(min hi (lo+(dm.d.room-dm.d.b.length-((Ai (Bt j lo false (cut wm.w.b lo hi))).length-(hi-lo)))))∧(min hi (lo+(dm.d.room-dm.d.b.length-((Ai (Bt j lo false (cut wm.w.b lo hi))).length-(hi-lo)))))≤hi:=⟨Ca,I? _ _⟩
   have hcl2:=MK (lo:=lo) (show(min hi (lo+(dm.d.room-dm.d.b.length-((Ai (Bt j lo false (cut wm.w.b lo hi))).length-(hi-lo)))))≤wm.w.b.length by omega);refine J4 ?_;refine JL (A2 (v':=iN (dm.d.room-dm.d.b.length-((Ai (Bt j lo false (cut wm.w.b lo hi))).length-(hi-lo)))) (Z4 (i:=((dm.d.room-dm.d.b.length:Nat):Int)-(((Ai (Bt j lo false (cut wm.w.b lo hi))).length-(hi-lo)):Nat)) (j:=0) rfl rfl) (by congr 1;split<;>omega)) ?_;refine JL FC ?_;refine JL JB ?_;refine JL Mn ?_;generalize hhi2:(min hi (lo+(dm.d.room-dm.d.b.length-((Ai (Bt j lo false (cut wm.w.b lo hi))).length-(hi-lo)))))=hi2 at*;refine J4 ?_;refine CR (α:=Nat) (fun b13=>[(13,ptr b13 0),(9,uN lo),(10,uN hi2),(7,ptr cb (0+43+j*10)),(8,uN wm.w.b.length),(0,ptr cb 0),(1,ptr db 0),(2,iN j)]) (fun b13=>BK db dm*(HP.AA b13 0 (AJ (CI (Bt j lo (wm.w.finished&&decide (hi2=wm.w.b.length)) (cut wm.w.b lo hi2))))*(HP.AA cb (0+43+j*10) (Bd wm)*(AB wm.a.b wm.a.o wm.w.b wm.a.s*(AS wm.sq wm.sa wm.w.Ae*(AS wm.cq wm.ca wm.w.AE*(B6 cb ws j*R))))))) (fun _=>True) ?_ ?_
   ·refine mA 21 22 ?_;refine EK ?_;refine Jm 2 ?_;refine Jn 3 ?_;refine I2 ?_;refine Jm 6 ?_;refine Lc 132 rfl (fun hg5=>?_) (fun hg5=>?_)
    ·have h132:wm.w.finished=true:=hg5;refine JY 7 rfl hg5 BZ ?_;refine JY 8 rfl hg5 BZ ?_;refine JY 9 rfl hg5 NZ ?_;refine JT 10 rfl (Fy hg5 rfl rfl) ?_;refine Zh ?_;rintro _ _ ⟨b13,rfl,rfl⟩;refine BA ?_;refine Db 21 Cb rfl KR ?_;refine DF ?_;exact A8 b13 trivial MF (by rw [show(wm.w.finished&&decide (hi2=wm.w.b.length))=decide (hi2=wm.w.b.length) by rw [h132,Bool.true_and]];ac_rfl)
    have h132:wm.w.finished=false:=hg5;refine JN 7 rfl hg5 ?_;refine JN 8 rfl hg5 ?_;refine JN 9 rfl hg5 ?_;refine JT 10 rfl (GW hg5 rfl rfl) ?_;refine Zh ?_;rintro _ _ ⟨b13,rfl,rfl⟩;refine BA ?_;refine Db 21 Cb rfl KR ?_;refine DF ?_;exact A8 b13 trivial MF (by rw [show(wm.w.finished&&decide (hi2=wm.w.b.length))=false by rw [h132,Bool.false_and]];ac_rfl)
   ·rintro b13 _;refine J5 ?_;refine JL (Di (l:=AJ (CI (Bt j lo (wm.w.finished&&decide (hi2=wm.w.b.length)) (cut wm.w.b lo hi2)))) rfl rfl) ?_;refine mE rfl (RQ db dm (CI (Bt j lo (wm.w.finished&&decide (hi2=wm.w.b.length)) (cut wm.w.b lo hi2))) _ hd (TY hj Ca) ⟨OR,by show(5:Int)≤5;decide⟩ (NE rfl (by rw [Lr];omega)) (hr:=P4 rfl _)) ?_;rintro _ _ ⟨dm2,hd2,hde2,rfl,rfl⟩;refine Ij ?_;refine mc (fun h149=>?_) (fun h149=>?_)
    ·refine J7 ?_
     have hadd:dm.d.add (CI (Bt j lo (wm.w.finished&&decide (hi2=wm.w.b.length)) (cut wm.w.b lo hi2))).f=none:=by simpa using h149
     have hde3:dm2.d=dm.d:=by rw [hde2,hadd];rfl
     have hfill:wm.w.fill dm.d j=none:=by
      rw [hfe2,hadd]
     exact mR [6] (A1 cb (ws.set j wm)*(BK db dm2*R)) (hE:=⟨fun ww hw=>Sat.right (A:=HP.AA b13 0 (AJ (CI (Bt j lo (wm.w.finished&&decide (hi2=wm.w.b.length)) (cut wm.w.b lo hi2))))) (E? cD hw)⟩) rfl rfl ⟨wm,dm2,hwm,hd2,cE,rfl⟩
    refine J4 ?_;obtain⟨d2,hd2e⟩:∃d2,dm.d.add (CI (Bt j lo (wm.w.finished&&decide (hi2=wm.w.b.length)) (cut wm.w.b lo hi2))).f=some d2:=Option.isSome_iff_exists.1 (by simpa using h149);rw [hd2e]at hfe2 hde2;dsimp only [Option.getD_some]at hfe2 hde2;refine Ao (H':=AS wm.sq wm.sa wm.w.Ae*(HP.AA cb (0+43+j*10) (Bd wm)*(AB wm.a.b wm.a.o wm.w.b wm.a.s*(AS wm.cq wm.ca wm.w.AE*(B6 cb ws j*(BK db dm2*(HP.AA b13 0 (AJ (CI (Bt j lo (wm.w.finished&&decide (hi2=wm.w.b.length)) (cut wm.w.b lo hi2))))*R))))))) Cf ?_;refine J3 ?_;refine Ke ?_;refine CR (α:=Bu) (fun _=>[(13,ptr b13 0),(9,uN lo),(10,uN hi2),(7,ptr cb (0+43+j*10)),(8,uN wm.w.b.length),(0,ptr cb 0),(1,ptr db 0),(2,iN j)]) (fun a=>AS wm.sq a (if lo<hi2 then wm.w.Ae.add lo (hi2-1)else wm.w.Ae)*(HP.AA cb (0+43+j*10) (Bd wm)*(AB wm.a.b wm.a.o wm.w.b wm.a.s*(AS wm.cq wm.ca wm.w.AE*(B6 cb ws j*(BK db dm2*(HP.AA b13 0 (AJ (CI (Bt j lo (wm.w.finished&&decide (hi2=wm.w.b.length)) (cut wm.w.b lo hi2))))*R))))))) (fun a=>a.ok (if lo<hi2 then wm.w.Ae.add lo (hi2-1)else wm.w.Ae)) ?_ ?_
    ·refine mC (fun h152=>?_) (fun h152=>?_)
     ·refine J7 ?_;refine JL Nv ?_;refine mE rfl (Jl wm.sq lo (hi2-1) wm.w.b.length wm.sa wm.w.Ae _ hwm.2.1 hw.so Ca Ca (by rw [hw.sm];decide) (by rw [hw.sm];decide)) ?_;rintro _ _ ⟨a160,hs160,rfl⟩;refine J1 ?_;exact A8 a160 (by rw [if_pos h152];exact hs160) MF (by rw [if_pos h152])
     refine J1 ?_;exact A8 wm.sa (by rw [if_neg h152];exact hwm.2.1) MF (by rw [if_neg h152])
    ·rintro sa2 hsa2;refine J9 ?_;refine DA 166 rfl (fun hg6=>?_) (fun hg6=>?_)
     ·have h166:wm.w.ending=true:=hg6;refine JH hg6 ?_;refine JH hg6 ?_;refine JL (Fy hg6 rfl rfl) ?_;refine Eu ?_;refine JL Jo ?_;refine Bq ?_
      obtain⟨w2,hw2⟩:∃w2:BU,w2={wm with w:={wm.w with Ae:=(if lo<hi2 then wm.w.Ae.add lo (hi2-1)else wm.w.Ae),ending:=wm.w.ending||(wm.w.finished&&decide (hi2=wm.w.b.length)),high:=max wm.w.high hi2},sa:=sa2}:=Be
      have hok2:w2.ok:=by rw [hw2];exact⟨hwm.1,hsa2,hwm.2.2⟩
      exact mR [6] (A1 cb (ws.set j w2)*(BK db dm2*R)) (hE:=⟨fun ww hw=>Sat.right (A:=HP.AA b13 0 (AJ (CI (Bt j lo (wm.w.finished&&decide (hi2=wm.w.b.length)) (cut wm.w.b lo hi2))))) (E? (by
       congr 1
       rw [KW cb ws j w2 hjl,hw2]
       unfold Bi
       refine Uu ?_
       rw [h166]
       simp only [Bool.true_or]
       ac_rfl) hw)⟩) rfl rfl ⟨w2,dm2,hok2,hd2,YB,rfl⟩
     have h166:wm.w.ending=false:=hg6;refine JG hg6 ?_;refine J1 ?_;refine JG hg6 ?_;refine J1 ?_;refine JL (GW hg6 rfl rfl) ?_;refine Eu ?_;refine JL Jo ?_;refine Bq ?_
     obtain⟨w2,hw2⟩:∃w2:BU,w2={wm with w:={wm.w with Ae:=(if lo<hi2 then wm.w.Ae.add lo (hi2-1)else wm.w.Ae),ending:=wm.w.ending||(wm.w.finished&&decide (hi2=wm.w.b.length)),high:=max wm.w.high hi2},sa:=sa2}:=Be
     have hok2:w2.ok:=by rw [hw2];exact⟨hwm.1,hsa2,hwm.2.2⟩
     exact mR [6] (A1 cb (ws.set j w2)*(BK db dm2*R)) (hE:=⟨fun ww hw=>Sat.right (A:=HP.AA b13 0 (AJ (CI (Bt j lo (wm.w.finished&&decide (hi2=wm.w.b.length)) (cut wm.w.b lo hi2))))) (E? (by
      congr 1
      rw [KW cb ws j w2 hjl,hw2]
      unfold Bi
      refine Uu ?_
      rw [h166]
      simp only [Bool.false_or]
      ac_rfl) hw)⟩) rfl rfl ⟨w2,dm2,hok2,hd2,YB,rfl⟩
end
section
variable{B:World}
structure Fk where
 ys:List UInt8
 a:Az
@[reducible] def gD(m:Fk):List Value:=[.slice m.a.p m.ys.length m.a.c]
@[reducible] instance:AC Fk:=⟨1,gD,⟨[],⟨none,0,0,0,[]⟩⟩,fun _=>rfl,fun _ v h=>by
 simp at h;rcases h with rfl;rfl⟩
def Fk.ok(m:Fk):Prop:=m.a.ok m.ys
def Gj(m:Fk):HP:=AB m.a.b m.a.o m.ys m.a.s
structure I6 where
 l:List Fk
 a:Az
structure I6.ok(m:I6)(xs:List (List UInt8)):Prop where
 a:m.a.ok m.l
 l:∀p∈m.l,p.ok
 map:m.l.map (·.ys)=xs
def DC(m:I6):HP:=m.a.h m.l*AO Gj m.l
def I6.v(m:I6):Value:=.slice m.a.p m.l.length m.a.c
def OF(H:HP)(xs:List (List UInt8))(v:Value)(H':HP):Prop:=∃m:I6,m.ok xs∧v=m.v∧H'=DC m*H
def BP:Az:=⟨none,0,0,0,[]⟩
theorem Dn{α:Type}[AC α]:BP.ok ([]:List α):=⟨F8,by show 0*_+0=0*_;omega⟩
theorem GX{α:Type}[AC α]:BP.h ([]:List α)=HP.BC:=GU ..
theorem OF.nil(H:HP):OF H [] (.slice none 0 0) H:=
 ⟨⟨[],BP⟩,⟨Dn,(fun _ h=>nomatch h),rfl⟩,rfl,by unfold DC;rw [GX,En];show H=HP.BC*HP.BC*H;rw [HP.BH,HP.BH]⟩
theorem rZ{n:Nat}(h:n<18446744073709551616):uN n=u64 (C! n):=by
 show Value.int .u64 (n:Nat)=Value.int .u64 ((C! n).toNat:Nat);rw [UInt64.toNat_ofNat',Nat.mod_eq_of_lt O9]
theorem mN(H:HP)(b:Nat)(f:AT)(hf:f.ranges=[])[hr:Ab B H b 0 [CI f]]:Hd B H (some ⟨b,0,none⟩) 1 [f] b 0 [CI f]:=
 ⟨CB,hr,rfl,(fun r h=>by rw [B_.1 h];exact(NE (f:={f with data:=⟨#[]⟩}) hf Nm).ok),(fun r h=>by rw [B_.1 h];exact P4 hf H)⟩
theorem fA{code:Nat}(h:code≤4611686018427387903):Gt [Do code]=some (Ai (Do code)):=by
 unfold Gt;rw [if_pos ⟨Cg,fun f hf=>by rw [B_.1 hf];exact eU h⟩,Lx]
theorem RJ(code:Nat):(Ai (Do code)).length≤9:=by
 have:=CO code
 have e:Ai (Do code)=[28]++AU code:=rfl;rw [e,A_];simp only [D!];omega
set_option maxHeartbeats 2000000 in
theorem dY(cb t:Nat)(m:Ac)(R:HP)(hm:m.ok)(hi:AZ t m.s)(ht:t<1000000):
  Fn Tryz.prog B 135 [ptr cb 0] (AY cb m*R) (fun v H'=>∃m':Ac,m'.ok∧m'.s=m.s.Gm.2∧OF (AY cb m'*R) m.s.Gm.1 v H'):=by
 refine mI Tryz.func135 ?_;refine Ao Nf ?_;have hks:m.x.ks.length=16:=hi.ks;have hcd:m.x.code≤4611686018427387903:=hi.code;have hnx:m.x.next≤20*t:=hi.nx;refine Gc ?_;refine mc (fun h9=>?_) (fun h9=>?_)
 ·refine J7 ?_;exact mR [2] (AY cb m*R) (hE:=by rw [DL];infer_instance) rfl rfl (by unfold AG.Gm;rw [if_pos (show m.s.said=true from h9)];exact⟨m,hm,rfl,.nil _⟩)
 refine bA ?_;refine JL (Ex (cs:=AJ (CI (Do m.x.code))) rfl rfl rfl (AC.one (CI (Do m.x.code)))) ?_;refine Af (GZ (cs:=AJ (CI (Do m.x.code))) rfl Cp rfl rfl) rfl ?_;rintro _ _ ⟨b19,rfl,rfl⟩;refine BF (H':=AB b19 0 [CI (Do m.x.code)] []*(AP cb {m.x with said:=true}*(AS m.x.gq m.ga m.AR*(A1 cb m.ws*(BS cb m.rs*(C9 m*R)))))) (by unfold AB;rw [C?,show AD [CI (Do m.x.code)]=AJ (CI (Do m.x.code))from C? _]) ?_;refine mE rfl (fJ [Do m.x.code] (some ⟨b19,0,none⟩) 1 b19 0 [CI (Do m.x.code)] _ (mN _ b19 _ rfl) (fun r h=>by rw [B_.1 h];exact NE rfl Nm) (by show(1:Nat)<_;decide) (by rw [Lx];have:=RJ m.x.code;omega)) ?_;intro v20 H20 h20;rw [fA hcd]at h20;obtain⟨_,rfl,p20,b20,o20,c20,s20,rfl,hs20,hc20,rfl⟩:=h20;have hcl:=RJ m.x.code;refine J8 ?_;refine mA 9 11 ?_;refine GF ?_;refine Jn 1 ?_;refine Jf 2 ?_;refine JT 3 rfl (Di (l:=AD m.x.ks++[u8 (Ag m.x.first)]) rfl Y1) ?_;refine Kq ?_;refine Jm 8 ?_
 refine An 9 Cb rfl rfl (BJ (vs:=[.agg (AD m.x.ks++[u8 (Ag m.x.first)]).toArray,u64 (C! m.x.next),.slice p20 (Ai (Do m.x.code)).length c20]) Zi (WT m.x.ks hks (Ag m.x.first) (C! m.x.next) (Ai (Do m.x.code)) p20 b20 o20 c20 _ hs20 inferInstance Ca)) ?_;rintro _ _ ⟨p32,b32,o32,c32,s32,rfl,hs32,hc32,rfl⟩;refine DK ?_;refine EL 10 Cb rfl rfl FQ D2 ?_;refine JD ?_;refine J7 ?_;refine JL (Iy (i:=m.x.next) (j:=1) rfl rfl Ca) ?_;refine J8 ?_;refine KX ?_;rintro _ _ ⟨b41,rfl,rfl⟩;refine J4 ?_
 have efw:m.s.Gm=([Bv m.x.ks (Ag m.x.first) (C! m.x.next) (Ai (Do m.x.code))],{m.s with said:=true,next:=m.s.next+1}):=by
  unfold AG.Gm;rw [if_neg (by rw [show m.s.said=false from h9];simp)];rfl
 generalize hzs:Bv m.x.ks (Ag m.x.first) (C! m.x.next) (Ai (Do m.x.code))=zs at*
 obtain⟨pk,hpk⟩:∃pk:I6,pk=⟨[⟨zs,⟨p32,b32,o32,c32,s32⟩⟩],⟨some ⟨b41,0,none⟩,b41,0,1,[]⟩⟩:=Be
 have hpok:pk.ok [zs]:=by
  rw [hpk];exact⟨⟨CB,rfl⟩,(fun p hp=>by rw [B_.1 hp];exact⟨hs32,hc32⟩),rfl⟩
 exact mR [2] (DC pk*(AY cb (m.A3 {m.x with said:=true,next:=m.x.next+1})*R)) (hE:=⟨fun ww hw=>Sat.right (A:=AB b20 o20 (Ai (Do m.x.code)) s20*AB b19 0 [CI (Do m.x.code)] []) (E? (by
  congr 1
  rw [DL,hpk]
  unfold DC
  rw [FM,En]
  show _=AB b20 o20 (Ai (Do m.x.code)) s20*AB b19 0 [CI (Do m.x.code)] []*(HP.AA b41 0 [.slice p32 zs.length c32]*(AB b32 o32 zs s32*HP.BC)*(AP cb {m.x with said:=true,next:=m.x.next+1}*(AS m.x.gq m.ga m.AR*(A1 cb m.ws*(BS cb m.rs*(C9 m*R))))))
  rw [HP.Fz]
  ac_rfl) hw)⟩) rfl rfl
  (by rw [efw];exact⟨m.A3 {m.x with said:=true,next:=m.x.next+1},⟨hm.g,hm.ws,hm.rs,hm.fl,hm.lo,hm.fa,hm.la,hm.fv,hm.lv⟩,rfl,pk,hpok,by rw [hpk];rfl,rfl⟩)
end
section
variable{B:World}
section
variable{P:Program}{n:Nat}{E:Ay}{D:Br}{H:HP}{d:Option Tmp}{T T' ty:TypeId}{pos:String}{af:Array Edge}{g:Option (Nat×Bool)}{x y z u:Operand}
theorem tF{p:Option Addr}{k c sz h m:Nat}{e:TypeId}{jk mk:IntKind}[hT:Ar P T (.slice e)][hz:Bg P e sz](hx:ev E x=some (.slice p k c))(hz':ev E z=some (.int jk h))(hu:ev E u=some (.int mk m))
  (hc:h≤m∧m≤c):Aa P B n ⟨d,.slice T x none (some z) (some u),ty,pos,af,g⟩ E H (.slice p h m):=by
 intro a w he _;simp only [execOp,he.ev hx,Option.map_some,Option.map_none,he.ev hz',he.ev hu,Instr.sliceAt,Instr.slice,Instr.sliceBounds,Sem.run_bind,Bh hT.get,Result.andThen_ok,Sem.run_pure,Fg hc.1,Fg hc.2,hz.get,Option.isSome_some,Option.isSome_none];cases p<;>simp [Addr.add]
end
instance drh_body(db:Nat)(m:DI):Ab B (BK db m) m.a.b m.a.o m.d.b:=by unfold BK;infer_instance
theorem PF{ws:List BU}{k:Nat}(hk:k<ws.length):(ws.map (·.w)).getD k Aq=(ws.getD k AC.AH).w:=by
 simp only [A?,B?,C_ hk];rfl
theorem S5(d:BT)(ws:List AX){k:Nat}(hk:k<4):EV d ws k (4-k)=EV (E8 k (d.room+1) (ws.getD k Aq) d).2 (ws.set k (E8 k (d.room+1) (ws.getD k Aq) d).1) (k+1) (4-(k+1)):=by
 rw [show 4-k=4-(k+1)+1 by omega,EV]
theorem mZ{k AF:Nat}(hk:k<4){ws:List AX}{d:BT}{w2:AX}{d2:BT}(hw:Dc AF ws)(hd:IS ws d)(e:(ws.getD k Aq).fill d k=some (w2,d2)):
  EV d ws k (4-k)=EV d2 (ws.set k w2) k (4-k):=by
 rw [S5 d ws hk,S5 d2 _ hk,rW hk hw hd e,set_set];rw [DN,if_pos ⟨rfl,Rb⟩]
theorem pA{k:Nat}(hk:k<4){ws:List AX}{d:BT}(e:(ws.getD k Aq).fill d k=none):EV d ws k (4-k)=EV d ws (k+1) (4-(k+1)):=by
 rw [S5 d ws hk,jL e,Sv]
structure Nx(AF:Nat)(ws0:List AX)(d0:BT)(ws:List BU)(dm:DI):Prop where
 M9:∀w∈ws,w.ok
 XB:dm.ok
 f:Hy AF ws0 d0 (ws.map (·.w)) dm.d
theorem Nx.len{AF:Nat}{ws0:List AX}{d0:BT}{ws:List BU}{dm:DI}(h:Nx AF ws0 d0 ws dm):ws.length=4:=by
 have:=h.f.HO.len;simpa using this
def Ac.N0(m:Ac)(ws:List BU):Ac:={m with ws:=ws}
theorem nS(cb:Nat)(m:Ac)(ws:List BU)(R:HP):AY cb (m.N0 ws)*R=AP cb m.x*(A1 cb ws*(FK m cb*R)):=HF cb (m.N0 ws) R
set_option maxHeartbeats 8000000 in
theorem xD(cb t:Nat)(m0:Ac)(R:HP)(hm:m0.ok)(hi:AZ t m0.s)(ht:t<1000000):
  Fn Tryz.prog B 92 [ptr cb 0] (AY cb m0*R) (fun v H'=>∃m':Ac,m'.ok∧m'.s=m0.s.A6.2∧OF (AY cb m'*R) m0.s.A6.1 v H'):=by
 refine mI Tryz.func92 ?_;have hks:m0.x.ks.length=16:=hi.ks;refine Ao (DL cb m0 R) ?_;refine P8 ?_;refine mC (fun h12=>?_) (fun h12=>?_)
 ·refine J1 ?_;refine Ao (DL cb m0 R).symm ?_;refine J2 ?_;refine mE rfl (dY cb t m0 R hm hi ht) ?_;rintro v14 H14 h14;refine J5 ?_;exact mR [2] H14 rfl rfl (by obtain⟨m',h1,h2,h3⟩:=h14;unfold AG.A6;rw [if_pos (show m0.s.closed≠0 from h12)];exact⟨m',h1,h2,h3⟩)
 refine UW ?_;refine CR (α:=List AV×Az) (fun z=>[(0,ptr cb 0),(3,.slice none 0 0),(4,z.2.v z.1.length)]) (fun z=>AY cb (m0.A3 {m0.x with answer:=false})*(z.2.h z.1*R)) (fun z=>z.2.ok z.1∧z.1=if m0.s.answer then m0.s.AR.l.reverse else []) ?_ ?_
 ·refine mc (fun h18=>?_) (fun h18=>?_)
  ·refine Eu ?_;refine mE rfl (TO m0.x.gq _) ?_;rintro _ _ ⟨b26,rfl,rfl⟩;refine mE rfl (fT 166 [ptr b26 0] m0.AR.l.reverse _ _ (by rintro ys ⟨mm,hmm,rfl⟩;have h7:=hi.AR.len;rw [hi.gm]at h7;have h8:m0.AR.l.length≤8:=h7;unfold F9;simp;omega) (Rq m0.x.gq b26 m0.ga m0.AR _ hm.g (by have h7:=hi.AR.len;rw [hi.gm]at h7;have h8:m0.AR.l.length≤8:=h7;omega))) ?_;rintro _ _ ⟨p27,b27,o27,c27,s27,rfl,hs27,hc27,rfl⟩;refine J2 ?_;refine Dl (H':=HP.AA b26 0 [ptr m0.x.gq 0]*(AY cb (m0.A3 {m0.x with answer:=false})*(AB b27 o27 m0.AR.l.reverse s27*R))) ?_ ?_
   ·rw [DL];show _=HP.AA b26 0 [ptr m0.x.gq 0]*(AP cb {m0.x with answer:=false}*(AS m0.x.gq m0.ga m0.AR*(A1 cb m0.ws*(BS cb m0.rs*(C9 m0*(AB b27 o27 m0.AR.l.reverse s27*R))))));ac_rfl
   exact Bf _ (A8 (m0.AR.l.reverse,⟨p27,b27,o27,c27,s27⟩) ⟨⟨hs27,hc27⟩,by rw [if_pos (show m0.s.answer=true from h18)];rfl⟩ EB rfl)
  refine J1 ?_;refine Dl (H':=AY cb (m0.A3 {m0.x with answer:=false})*(BP.h ([]:List AV)*R)) ?_ ?_
  ·rw [DL,GX,HP.BH];show _=AP cb {m0.x with answer:=false}*(AS m0.x.gq m0.ga m0.AR*(A1 cb m0.ws*(BS cb m0.rs*(C9 m0*R))));rw [←h18]
  exact A8 ([],BP) ⟨Dn,by rw [if_neg (by rw [show m0.s.answer=false from h18];simp)]⟩ EB rfl
 ·rintro⟨tf,⟨tp,tb,ob,tc,ts⟩⟩ ⟨hta,htf⟩;dsimp only at hta htf⊢
  obtain⟨z0,hz0⟩:∃z0:BR,z0=⟨{m0.s with answer:=false},tf,[]⟩:=Be
  have hz0k:DE (t+1) z0:=by rw [hz0,htf];exact DE.begin hi
  have hmu0:0+z0.mu≤18:=(by have h7:=hz0k.tl;unfold BR.mu;omega)
  rw [hz0]at hmu0
  have hep:m0.s.A6=((DT 40 z0).out,(DT 40 z0).c):=by
   unfold AG.A6;rw [if_neg (show ¬m0.s.closed≠0 from h12),hz0,htf]
  refine J2 ?_
  refine Bk (α:=Ac×I6×List (List UInt8)×List AV×Option Addr×Nat×Nat) (fun z=>[(0,ptr cb 0),(3,z.2.1.v),(4,.slice z.2.2.2.2.1 z.2.2.2.1.length z.2.2.2.2.2.2)]) (fun z=>AY cb z.1*(DC z.2.1*(AB tb ob tf ts*R))) (fun z=>z.1.ok∧z.2.1.ok z.2.2.1∧DE (t+1) ⟨z.1.s,z.2.2.2.1,z.2.2.1⟩∧DT 40 ⟨z.1.s,z.2.2.2.1,z.2.2.1⟩=DT 40 z0∧Sl z.2.2.2.2.1 tb z.2.2.2.2.2.1 z.2.2.2.1.length z.2.2.2.2.2.2∧Ab B (AB tb ob tf ts) tb z.2.2.2.2.2.1 z.2.2.2.1∧z.2.2.1.length+(⟨z.1.s,z.2.2.2.1,z.2.2.1⟩:BR).mu≤18) (fun z=>(⟨z.1.s,z.2.2.2.1,z.2.2.1⟩:BR).mu) (m0.A3 {m0.x with answer:=false},⟨[],BP⟩,[],tf,tp,ob,tc) ⟨⟨hm.g,hm.ws,hm.rs,hm.fl,hm.lo,hm.fa,hm.la,hm.fv,hm.lv⟩,⟨Dn,(fun _ h=>nomatch h),rfl⟩,by rw [hz0]at hz0k;exact hz0k,by rw [hz0];rfl,hta.1,inferInstance,hmu0⟩ EB (by unfold DC;rw [GX,En,HP.BH,HP.BH]) ?_
  rintro⟨m,pk,outs,told,q,to,cc⟩ ⟨hmk,hpk,hz,hzp,hqs,hqr,hmu⟩;dsimp only at hmk hpk hz hzp hqs hqr hmu⊢;have hci:=hz.c;have hks2:m.x.ks.length=16:=hci.ks;have hm1:64≤m.x.AI:=hci.m1;have hm2:m.x.AI≤300:=hci.m2;have hnx:m.x.next≤20*(t+1):=hci.nx;have htl:told.length≤8:=hz.tl;have htd:Told told:=hz.told;have hfil:=hz.filled;have Fx:=Of hci htd htl;refine Ao (DL cb m _) ?_;refine J8 ?_;refine JL (II (j:=16) rfl rfl Ca) ?_;refine JL (Ex (cs:=[.slice none 0 0,.slice none 0 0,iN (m.x.AI-16),.bool false]) rfl rfl rfl Ce) ?_;refine Af (DP (l:=[.slice none 0 0,.slice none 0 0,iN (m.x.AI-16),.bool false]) rfl rfl) rfl ?_;rintro _ _ ⟨b35,rfl,rfl⟩;refine J5 ?_;refine Ao (H':=BK b35 (⟨⟨[],m.x.AI-16⟩,BP,[],BP⟩:DI)*(AY cb m*(DC pk*(AB tb ob tf ts*R)))) (by rw [DL];unfold BK;show _=HP.AA b35 0 [.slice none 0 0,.slice none 0 0,iN (m.x.AI-16),.bool false]*(BP.h ([]:List UInt8)*BP.h ([]:List RF))*_;rw [GX,GX,HP.BH,HP.Fz]) ?_
  have hd0:DI.ok (⟨⟨[],m.x.AI-16⟩,BP,[],BP⟩:DI):=⟨Dn,Dn,rfl,by show m.x.AI-16≤284;omega,K! _⟩
  refine J9 ?_;refine JL RG ?_;refine J2 ?_;refine CR (α:=DI×List AV×Option Addr×Nat×Nat) (fun z=>[(5,ptr b35 0),(0,ptr cb 0),(3,pk.v),(4,.slice z.2.2.1 z.2.1.length z.2.2.2.2)]) (fun z=>BK b35 z.1*(AY cb m*(DC pk*(AB tb ob tf ts*R)))) (fun z=>z.1.ok∧z.1.d=m.s.DY told∧z.2.1=(⟨m.s,told,outs⟩:BR).Io∧Sl z.2.2.1 tb z.2.2.2.1 z.2.1.length z.2.2.2.2∧Ab B (AB tb ob tf ts) tb z.2.2.2.1 z.2.1) ?_ ?_
  ·refine mC (fun h39=>?_) (fun h39=>?_)
   ·refine J2 ?_;have hne0:told≠ []:=List.length_pos_iff.1 h39;refine Bk (α:=Nat) (fun n=>[(6,iN n),(5,ptr b35 0),(0,ptr cb 0),(3,pk.v),(4,.slice q told.length cc)]) (fun _=>BK b35 (⟨⟨[],m.x.AI-16⟩,BP,[],BP⟩:DI)*(AY cb m*(DC pk*(AB tb ob tf ts*R)))) (fun n=>(1≤n∧n≤told.length)∧Eg told (m.x.AI-16) n=Eg told (m.x.AI-16) told.length) (fun n=>n) told.length ⟨⟨h39,D? _⟩,rfl⟩ Gd rfl ?_;rintro n ⟨hnl,hnA0⟩;dsimp only at hnl hnA0⊢
    have htn:(told.take n).length=n:=by rw [G?];omega
    have htne:told.take n≠ []:=fun h=>by rw [h]at htn;simp at htn;omega
    have hokA:B0 (EN (told.take n)):=Zx ((htd.take n).GH htne);have hrdT:Ab B (AB tb ob tf ts) tb to (told.take n):=inferInstance;refine J2 ?_;refine CR (α:=Unit) (fun _=>[(54,.bool (decide (1<n∧(m.x.AI-16)<(Ai (EN (told.take n))).length))),(6,iN n),(5,ptr b35 0),(0,ptr cb 0),(3,pk.v),(4,.slice q told.length cc)]) (fun _=>BK b35 (⟨⟨[],m.x.AI-16⟩,BP,[],BP⟩:DI)*(AY cb m*(DC pk*(AB tb ob tf ts*R)))) (fun _=>True) ?_ ?_
    ·refine mA 15 15 ?_;refine GF ?_;refine JT 1 rfl (F6 (j:=1) rfl rfl) ?_;refine Jm 2 ?_;refine GK 42 rfl (fun hg1=>?_) (fun hg1=>?_)
     ·have h42:1<n:=hg1;refine JY 3 rfl T1 BZ ?_;refine JY 4 rfl T1 BZ ?_;refine JY 5 rfl T1 (Nr (k':=(told.take n).length) rfl rfl Q4 htn) ?_;refine JY 6 rfl T1 (Ex (cs:=AJ (⟨EN (told.take n),q,tb,to,cc,[]⟩:RF)) rfl rfl rfl (AC.one (⟨EN (told.take n),q,tb,to,cc,[]⟩:RF))) ?_;refine JY 9 rfl T1 BZ ?_;refine JY 10 rfl T1 CJ ?_;refine JY 11 rfl T1 BL ?_;refine JY 12 rfl T1 BX ?_;refine cB ?_;refine Oo 7 Cb rfl rfl rfl rfl T1 (BJ rfl (Tq (⟨EN (told.take n),q,tb,to,cc,[]⟩:RF) none 0 0 0 [] [] _ ⟨⟨hqs.1,by show(told.take n).length≤cc;have:=hqs.2;omega⟩,Ww,Nm⟩ (show Ab B _ tb to (told.take n)from(let _:=hrdT;inferInstance)) F8 rfl Cc (by show DU 3;unfold DU;decide) ⟨by show(3:Int)≤3;decide,OR⟩ hokA)) ?_;rintro _ _ ⟨p47,b47,o47,c47,s47,Q47,rfl,hs47,hc47,rfl,hk47⟩;rw [J_]at*;refine BA ?_;refine JY 8 rfl T1 FF ?_
      refine JY 13 rfl T1 Hc ?_;refine JT 14 rfl Fd ?_;refine JD ?_;exact Bf (BK b35 (⟨⟨[],m.x.AI-16⟩,BP,[],BP⟩:DI)*(AY cb m*(DC pk*(AB tb ob tf ts*R)))) (A8 () trivial (.cons (congrArg (fun bb=>some (Value.bool bb)) (decide_eq_decide.2 ⟨fun h=>⟨h42,h⟩,fun h=>h.2⟩)) Gd) rfl)
     have h42:¬1<n:=hg1;refine JN 3 rfl F1 ?_;refine JN 4 rfl F1 ?_;refine JN 5 rfl F1 ?_;refine JN 6 rfl F1 ?_;refine JN 9 rfl F1 ?_;refine JN 10 rfl F1 ?_;refine JN 11 rfl F1 ?_;refine JN 12 rfl F1 ?_;refine cB ?_;refine RU 7 Cb rfl rfl rfl rfl F1 UD ?_;refine JN 8 rfl F1 ?_;refine JN 13 rfl F1 ?_;refine JT 14 rfl Ec ?_;refine JD ?_;exact A8 () trivial (.cons (congrArg (fun bb=>some (Value.bool bb)) (decide_eq_false (fun h=>h42 h.1)).symm) Gd) Lh
    ·rintro _ _;refine J1 ?_;refine mC (fun h54=>?_) (fun h54=>?_)
     ·refine J5 ?_;refine JL Nn ?_;refine J3 ?_;exact BW (n-1) ⟨⟨Ca,Ca⟩,by rw [←hnA0];obtain⟨n2,rfl⟩:∃n2,n=n2+2:=⟨n-2,Ca⟩;rw [Eg,if_pos h54.2];rfl⟩ (by show n-1<n;omega) Gd rfl
     have hnA:Eg told (m.x.AI-16) told.length=n:=by
      rw [←hnA0]
      match n,hnl.1 with
      |1,_=>rfl
      |n2+2,_=>rw [Eg,if_neg (fun h=>h54 ⟨Ca,h⟩)]
     refine Bq ?_;refine JL (A2 (v':=.slice q (told.take n).length n) (tF rfl rfl rfl ⟨D? _,Q4⟩) (by rw [htn])) ?_;refine JL (Ex (cs:=AJ (⟨EN (told.take n),q,tb,to,n,[]⟩:RF)) rfl rfl rfl (AC.one (⟨EN (told.take n),q,tb,to,n,[]⟩:RF))) ?_;refine mE rfl (RQ b35 (⟨⟨[],m.x.AI-16⟩,BP,[],BP⟩:DI) (⟨EN (told.take n),q,tb,to,n,[]⟩:RF) _ hd0 hokA ⟨by show(3:Int)≤3;decide,OR⟩ ⟨⟨.inr (hqs.1.resolve_left Q4),by show(told.take n).length≤n;omega⟩,Ww,Nm⟩ (hr:=show Ab B _ tb to (told.take n)from(let _:=hrdT;inferInstance))) ?_;rintro _ _ ⟨dm2,hd2,hde2,rfl,rfl⟩;refine J5 ?_;refine JL (KU rfl rfl hnl.2) ?_;refine J2 ?_;refine A8 (dm2,told.drop n,sp q cc n 2,to+n*2,cc-n) ⟨hd2,?_,?_,EZ hqs hnl.2 hqs.2 (by rw [L!]),hqr.Jr n⟩ (.cons rfl (.cons rfl (.cons rfl (.cons ?_ .nil)))) rfl
     ·rw [hde2]
      have hadd:(⟨[],m.x.AI-16⟩:BT).add (EN (told.take n))=some ⟨[]++[EN (told.take n)],m.x.AI-16⟩:=by
       unfold BT.add
       rw [if_neg (by
        have h7:=XC hci hne0
        have h8:(Eg told (m.s.AI-16) told.length)=n:=hnA
        rw [h8]at h7
        have h9:m.s.AI=m.x.AI:=rfl
        rw [h9]at h7
        show ¬m.x.AI-16<(([]:List UInt8)++Ai (EN (told.take n))).length
        rw [J_];omega)]
      show((⟨[],m.x.AI-16⟩:BT).add (EN (told.take n))).getD _=_;rw [hadd];unfold AG.DY;rw [if_neg hne0];have h8:(Eg told (m.s.AI-16) told.length)=n:=hnA;rw [h8];rfl
     ·show _=told.drop (Eg told (m.s.AI-16) told.length);have h8:(Eg told (m.s.AI-16) told.length)=n:=hnA;rw [h8]
     ·show some (Value.slice _ _ _)=some (Value.slice _ _ _);rw [L!]
   refine J1 ?_;obtain rfl:told=[]:=H_.1 Ca;exact A8 ((⟨⟨[],m.x.AI-16⟩,BP,[],BP⟩:DI),[],q,to,cc) ⟨hd0,rfl,rfl,hqs,hqr⟩ IK rfl
  ·rintro⟨dm,Io,q2,to2,cc2⟩ ⟨hdm,hdd,htold2,hqs2,hqr2⟩;dsimp only at hdm hdd htold2 hqs2 hqr2⊢;refine J3 ?_;refine Ao (H':=AP cb m.x*(BK b35 dm*(AS m.x.gq m.ga m.AR*(A1 cb m.ws*(BS cb m.rs*(C9 m*(DC pk*(AB tb ob tf ts*R)))))))) (by rw [DL];ac_rfl) ?_
   have hfl10:m.fl.length≤10:=by have:=hci.fl;simpa [Ac.s]using this
   refine J4 ?_;refine JL (A2 ES hmk.fv) ?_;refine J1 ?_;refine JL (Dr (i:=m.fl.length) (j:=10) rfl rfl) ?_;refine J2 ?_;refine CR (α:=List BU×DI) (fun z=>[(5,ptr b35 0),(0,ptr cb 0),(3,pk.v),(4,.slice q2 Io.length cc2)]) (fun z=>A1 cb z.1*(BK b35 z.2*(AP cb m.x*(FK m cb*(DC pk*(AB tb ob tf ts*R)))))) (fun z=>(∀w∈z.1,w.ok)∧z.2.ok∧z.1.map (·.w)=(⟨m.s,told,outs⟩:BR).filled.1∧z.2.d=(⟨m.s,told,outs⟩:BR).filled.2) ?_ ?_
   ·refine mC (fun h72=>?_) (fun h72=>?_)
    ·refine J2 ?_;refine Gi ?_
     have hff:(⟨m.s,told,outs⟩:BR).filled=EV (m.s.DY told) m.s.ws 0 4:=by
      unfold BR.filled;rw [if_pos (by show(m.fl.map (·.Am)).length<10;rw [B!];exact h72)]
     refine Bk (α:=Nat×List BU×DI) (fun z=>[(73,iN z.1),(5,ptr b35 0),(0,ptr cb 0),(3,pk.v),(4,.slice q2 Io.length cc2)]) (fun z=>A1 cb z.2.1*(BK b35 z.2.2*(AP cb m.x*(FK m cb*(DC pk*(AB tb ob tf ts*R)))))) (fun z=>z.1≤4∧Nx m.s.AF m.s.ws (m.s.DY told) z.2.1 z.2.2∧EV z.2.2.d (z.2.1.map (·.w)) z.1 (4-z.1)=EV (m.s.DY told) m.s.ws 0 4) (fun z=>4-z.1) (0,m.ws,dm) ⟨K! _,⟨hmk.ws,hdm,by rw [hdd];exact .refl hci.ws Fx⟩,by rw [hdd];rfl⟩ Gd TK ?_;rintro⟨k,wz,dz⟩ ⟨hk4,hF,hT⟩;dsimp only at hk4 hF hT⊢;refine J2 ?_;refine JL (Dr (j:=4) rfl rfl) ?_;refine J3 ?_;refine mC (fun h74=>?_) (fun h74=>?_)
     ·refine Bq ?_;refine Bk (α:=List BU×DI) (fun z=>[(7,iN k),(73,iN k),(5,ptr b35 0),(0,ptr cb 0),(3,pk.v),(4,.slice q2 Io.length cc2)]) (fun z=>A1 cb z.1*(BK b35 z.2*(AP cb m.x*(FK m cb*(DC pk*(AB tb ob tf ts*R)))))) (fun z=>Nx m.s.AF m.s.ws (m.s.DY told) z.1 z.2∧EV z.2.d (z.1.map (·.w)) k (4-k)=EV (m.s.DY told) m.s.ws 0 4) (fun z=>z.2.d.room-z.2.d.b.length) (wz,dz) ⟨hF,hT⟩ FT rfl ?_;rintro⟨wz1,dz1⟩ ⟨hF1,hT1⟩;dsimp only at hF1 hT1⊢;have hl1:=hF1.len;have hwk:=hF1.f.HO.ok k h74;rw [PF Ca]at hwk;refine J6 ?_;refine mE rfl (vT cb b35 k m.s.AF wz1 dz1 _ hl1 h74 hF1.M9 hwk hF1.XB) ?_;rintro v79 _ ⟨wm',dm',hwm',hdm',hfi,rfl⟩
      obtain⟨b79,rfl⟩:∃b79:Bool,v79=.bool b79:=by
       unfold WN at hfi;split at hfi
       ·exact⟨_,hfi.1⟩
       ·exact⟨_,hfi.1⟩
      refine J2 ?_;refine mc (fun h79=>?_) (fun h79=>?_)
      ·subst h79;refine J5 ?_
       obtain⟨z79,hz79⟩:∃zz,(wz1.getD k AC.AH).w.fill dz1.d k=some zz:=by
        cases e:(wz1.getD k AC.AH).w.fill dz1.d k with
        |none=>rw [e]at hfi;obtain⟨e1,_,_⟩:=hfi;cases e1
        |some zz=>exact⟨zz,rfl⟩
       obtain⟨w2,d2⟩:=z79;rw [hz79]at hfi;obtain⟨_,hfi1,hfi2⟩:=hfi;dsimp only at hfi1 hfi2
       have e9:((wz1.map (·.w)).getD k Aq).fill dz1.d k=some (w2,d2):=by rw [PF Ca];exact hz79
       obtain⟨hst1,hst2⟩:=hF1.f.step h74 e9
       have hms:(wz1.set k wm').map (·.w)=(wz1.map (·.w)).set k w2:=by rw [H!,hfi1]
       exact BW (wz1.set k wm',dm') ⟨⟨fun a ha=>KC (P:=BU.ok) hF1.M9 hwm' ha,hdm',by rw [hms,hfi2];exact hst1⟩,by rw [hms,hfi2,←hT1];exact(mZ h74 hF1.f.HO hF1.f.Hq e9).symm⟩ (by show dm'.d.room-dm'.d.b.length<dz1.d.room-dz1.d.b.length;rw [hfi2];have h7:=hst1.room;have h8:=hF1.f.room;have h9:=hst1.Hq.len;omega) FT rfl
      subst h79
      have h79n:(wz1.getD k AC.AH).w.fill dz1.d k=none:=by
       cases e:(wz1.getD k AC.AH).w.fill dz1.d k with
       |none=>rfl
       |some zz=>rw [e]at hfi;obtain⟨e1,_,_⟩:=hfi;cases e1
      rw [h79n]at hfi;obtain⟨_,hfi1,hfi2⟩:=hfi
      have e9:((wz1.map (·.w)).getD k Aq).fill dz1.d k=none:=by rw [PF Ca];exact h79n
      have hms:(wz1.set k wm').map (·.w)=wz1.map (·.w):=by rw [H!,hfi1,←PF Ca,Sv]
      have hF2:Nx m.s.AF m.s.ws (m.s.DY told) (wz1.set k wm') dm':=⟨fun a ha=>KC (P:=BU.ok) hF1.M9 hwm' ha,hdm',by rw [hms,hfi2];exact hF1.f⟩
      have hT3:EV dm'.d ((wz1.set k wm').map (·.w)) (k+1) (4-(k+1))=EV (m.s.DY told) m.s.ws 0 4:=by rw [hms,hfi2,←hT1];exact(pA h74 e9).symm
      refine J7 ?_;refine Es ?_;exact BW (k+1,wz1.set k wm',dm') ⟨Ca,hF2,hT3⟩ W8 Gd rfl
     obtain rfl:k=4:=by omega
     have hT:wz.map (·.w)=(⟨m.s,told,outs⟩:BR).filled.1∧dz.d=(⟨m.s,told,outs⟩:BR).filled.2:=by
      rw [hff,←hT];exact Ba
     refine J4 ?_;exact A8 (wz,dz) ⟨hF.M9,hF.XB,hT.1,hT.2⟩ IK rfl
    refine J1 ?_
    have hff:(⟨m.s,told,outs⟩:BR).filled=(m.s.ws,m.s.DY told):=by
     unfold BR.filled;rw [if_neg (by show ¬(m.fl.map (·.Am)).length<10;rw [B!];exact h72)]
    exact A8 (m.ws,dm) ⟨hmk.ws,hdm,by rw [hff];rfl,by rw [hff];exact hdd⟩ IK TK
   ·rintro⟨wz,dz⟩ ⟨hwz,hdz,hwf,hdf⟩;dsimp only at hwz hdz hwf hdf⊢;refine Ao (H':=BK b35 dz*(AP cb m.x*(AS m.x.gq m.ga m.AR*(A1 cb wz*(BS cb m.rs*(C9 m*(DC pk*(AB tb ob tf ts*R)))))))) TK ?_;refine J8 ?_;refine JL (CD (i:=dz.rs.length) (j:=0) rfl rfl) ?_;refine J2 ?_;refine mC (fun h86=>?_) (fun h86=>?_)
    ·refine Bq ?_
     have hfr:(⟨m.s,told,outs⟩:BR).filled.2.As=[]:=by
      rw [←hdf,←hdz.map,H_.1 h86];rfl
     have hfin:m0.s.A6=(outs,{m.s with ws:=wz.map (·.w)}):=by
      rw [hep,←hzp,yX hfr,hwf]
     exact mR [2] (DC pk*(AY cb (m.N0 wz)*R)) (hE:=⟨fun ww hw=>Sat.right (A:=BK b35 dz*AB tb ob tf ts) (E? (by
      congr 1
      rw [nS]
      unfold FK
      ac_rfl) hw)⟩) rfl rfl (by rw [hfin];exact⟨m.N0 wz,⟨hmk.g,hwz,hmk.rs,hmk.fl,hmk.lo,hmk.fa,hmk.la,hmk.fv,hmk.lv⟩,rfl,pk,hpk,rfl,rfl⟩)
    have hne:(⟨m.s,told,outs⟩:BR).filled.2.As≠ []:=by
     rw [←hdf,←hdz.map];intro h;exact h86 (by have:=congrArg M_ h;simpa using this)
    have hbl:=hdz.len;have hbr:=hdz.room;refine J3 ?_;refine Ao (H':=BK b35 dz*(AP cb m.x*(AS m.x.gq m.ga m.AR*(A1 cb wz*(BS cb m.rs*(C9 m*(AB pk.a.b pk.a.o pk.l pk.a.s*(AO Gj pk.l*(AB tb ob tf ts*R))))))))) (by unfold DC Az.h;ac_rfl) ?_;refine D5 (BK b35 dz*(AP cb m.x*(AS m.x.gq m.ga m.AR*(A1 cb wz*(BS cb m.rs*(C9 m*(AO Gj pk.l*(AB tb ob tf ts*R)))))))) 15 17 EI rfl Cb ?_;refine EK ?_;refine IZ ?_;refine JT 4 rfl (Di (l:=AD m.x.ks++[u8 (Ag m.x.first)]) rfl (by rw [A_,F7 hks2];rfl)) ?_;refine Jm 5 ?_;refine LG ?_;refine PV ?_;refine An 13 Cb rfl rfl (BJ (vs:=[.agg (AD m.x.ks++[u8 (Ag m.x.first)]).toArray,u64 (C! m.x.next),.slice dz.a.p dz.d.b.length dz.a.c]) Zi (WT m.x.ks hks2 (Ag m.x.first) (C! m.x.next) dz.d.b dz.a.p dz.a.b dz.a.o dz.a.c _ hdz.a.1 inferInstance Ca)) ?_;rintro _ _ ⟨p101,b101,o101,c101,s101,rfl,hs101,hc101,rfl⟩;generalize hzs:Bv m.x.ks (Ag m.x.first) (C! m.x.next) dz.d.b=zs at*;refine BA ?_;refine An 14 Cb rfl rfl (GZ (cs:=[.slice p101 zs.length c101]) rfl Cp rfl rfl) ?_;rintro _ _ ⟨b102,rfl,rfl⟩;refine BA ?_
    refine Ea (H':=AB pk.a.b pk.a.o pk.l pk.a.s*(HP.AA b102 0 (AD [(⟨zs,⟨p101,b101,o101,c101,s101⟩⟩:Fk)])*(AB b101 o101 zs s101*(BK b35 dz*(AP cb m.x*(AS m.x.gq m.ga m.AR*(A1 cb wz*(BS cb m.rs*(C9 m*(AO Gj pk.l*(AB tb ob tf ts*R))))))))))) (by show HP.AA b102 0 [.slice p101 zs.length c101]*_=_;rw [show AD [(⟨zs,⟨p101,b101,o101,c101,s101⟩⟩:Fk)]=[.slice p101 zs.length c101]from rfl];ac_rfl) ?_
    have hpl:pk.l.length≤18:=(by have h7:=congrArg M_ hpk.map;rw [B!]at h7;omega)
    refine An 15 Cb rfl rfl (CS (ys:=[(⟨zs,⟨p101,b101,o101,c101,s101⟩⟩:Fk)]) (bb:=b102) (oo:=0) (cc:=1) rfl hpk.a.1 hpk.a.2 rfl CB inferInstance rfl Cm Ca) ?_;rintro _ _ ⟨p103,b103,o103,c103,s103,rfl,hs103,hc103,rfl⟩;refine DK ?_;refine EL 16 Cb rfl rfl FQ D2 ?_;refine IR ?_
    obtain⟨pk2,hpk2e⟩:∃pk2:I6,pk2=⟨pk.l++[(⟨zs,⟨p101,b101,o101,c101,s101⟩⟩:Fk)],⟨p103,b103,o103,c103,s103⟩⟩:=Be
    have hpk2:pk2.ok (outs++[zs]):=by
     rw [hpk2e];refine⟨⟨hs103,hc103⟩,fun p hp=>?_,?_⟩
     ·rcases J!.1 hp with hp|hp
      ·exact hpk.l p hp
      ·rw [B_.1 hp];exact⟨hs101,hc101⟩
     ·show(pk.l++[_]).map Fk.ys=_;rw [D_,hpk.map];rfl
    have hpv:(Value.slice p103 (pk.l++[(⟨zs,⟨p101,b101,o101,c101,s101⟩⟩:Fk)]).length c103)=pk2.v:=by rw [hpk2e];rfl
    rw [hpv]
    refine HI (DC pk2*(BK b35 dz*(AP cb m.x*(AS m.x.gq m.ga m.AR*(A1 cb wz*(BS cb m.rs*(C9 m*(AB tb ob tf ts*R)))))))) (hE:=⟨fun ww hw=>Sat.right (A:=HP.AA b102 0 (AD [(⟨zs,⟨p101,b101,o101,c101,s101⟩⟩:Fk)])) (E? (by
     congr 1
     rw [hpk2e]
     unfold DC
     rw [JE,FM,En]
     show _=HP.AA b102 0 (AD [(⟨zs,⟨p101,b101,o101,c101,s101⟩⟩:Fk)])*(AB b103 o103 (pk.l++[(⟨zs,⟨p101,b101,o101,c101,s101⟩⟩:Fk)]) s103*(AO Gj pk.l*(AB b101 o101 zs s101*HP.BC))*_)
     rw [HP.Fz]
     ac_rfl) hw)⟩) ?_
    refine J7 ?_;refine CR (α:=CC×List A5×Az) (fun z=>[(0,ptr cb 0),(3,pk2.v),(4,.slice q2 Io.length cc2)]) (fun z=>AP cb z.1*(AS m.x.gq m.ga m.AR*(A1 cb wz*(BS cb m.rs*(z.2.2.h z.2.1*(m.la.h m.lo*(AO Au z.2.1*(AO Au m.lo*(DC pk2*(AB tb ob tf ts*R)))))))))) (fun z=>z.2.2.ok z.2.1∧(∀p∈z.2.1,p.ok)∧z.1={m.x with fv:=z.2.2.v z.2.1.length}∧z.2.1.map (·.Am)=if Dy (⟨m.s,told,outs⟩:BR).filled.2.As then m.s.BG++[⟨m.s.next,m.s.now,(⟨m.s,told,outs⟩:BR).filled.2.As⟩]else m.s.BG) ?_ ?_
    ·refine mc (fun h107=>?_) (fun h107=>?_)
     ·refine Ao (H':=AB m.fa.b m.fa.o m.fl m.fa.s*(AP cb m.x*(BK b35 dz*(AS m.x.gq m.ga m.AR*(A1 cb wz*(BS cb m.rs*(m.la.h m.lo*(AO Au m.fl*(AO Au m.lo*(DC pk2*(AB tb ob tf ts*R))))))))))) (by unfold C9 Az.h;ac_rfl) ?_;refine D5 (AP cb m.x*(BK b35 dz*(AS m.x.gq m.ga m.AR*(A1 cb wz*(BS cb m.rs*(m.la.h m.lo*(AO Au m.fl*(AO Au m.lo*(DC pk2*(AB tb ob tf ts*R)))))))))) 22 23 EI rfl Cb ?_;refine EK ?_;refine IZ ?_;refine JT 4 rfl (A2 ES hmk.fv) ?_;refine Jm 5 ?_;refine LG ?_;refine PV ?_;refine Jm 13 ?_;refine Jn 14 ?_;refine Jf 15 ?_;refine Jd 16 ?_;refine JT 17 rfl (Ex (cs:=Bo (⟨m.x.next,m.x.now,dz.rs,dz.f⟩:A5)) rfl rfl rfl (AC.one (⟨m.x.next,m.x.now,dz.rs,dz.f⟩:A5))) ?_;refine An 18 Cb rfl rfl (GZ (cs:=Bo (⟨m.x.next,m.x.now,dz.rs,dz.f⟩:A5)) rfl Cp rfl rfl) ?_;rintro _ _ ⟨b126,rfl,rfl⟩;refine BA ?_
      refine Ea (H':=AB m.fa.b m.fa.o m.fl m.fa.s*(HP.AA b126 0 (AD [(⟨m.x.next,m.x.now,dz.rs,dz.f⟩:A5)])*(AP cb m.x*(BK b35 dz*(AS m.x.gq m.ga m.AR*(A1 cb wz*(BS cb m.rs*(m.la.h m.lo*(AO Au m.fl*(AO Au m.lo*(DC pk2*(AB tb ob tf ts*R)))))))))))) (by show HP.AA b126 0 _*_=_;rw [show AD [(⟨m.x.next,m.x.now,dz.rs,dz.f⟩:A5)]=Bo (⟨m.x.next,m.x.now,dz.rs,dz.f⟩:A5)from C? _];ac_rfl) ?_;refine An 19 Cb rfl rfl (CS (ys:=[(⟨m.x.next,m.x.now,dz.rs,dz.f⟩:A5)]) (bb:=b126) (oo:=0) (cc:=1) rfl hmk.fa.1 hmk.fa.2 rfl CB inferInstance rfl Cm Ca) ?_;rintro _ _ ⟨p127,b127,o127,c127,s127,rfl,hs127,hc127,rfl⟩;refine BA ?_;refine Jn 20 ?_;refine Jf 21 ?_;refine Db 22 Cb rfl Er ?_;refine DF ?_;refine Bf _ (A8 ({m.x with fv:=.slice p127 (m.fl++[(⟨m.x.next,m.x.now,dz.rs,dz.f⟩:A5)]).length c127},m.fl++[(⟨m.x.next,m.x.now,dz.rs,dz.f⟩:A5)],⟨p127,b127,o127,c127,s127⟩) ⟨⟨hs127,hc127⟩,fun p hp=>?_,rfl,?_⟩ Du rfl) (hE:=?_)
      ·exact⟨fun ww hw=>Sat.right (A:=HP.AA b126 0 (AD [(⟨m.x.next,m.x.now,dz.rs,dz.f⟩:A5)])*(HP.AA b35 0 (GO dz)*dz.a.h dz.d.b)) (E? (by
        congr 1
        rw [JE,FM,En]
        show _=HP.AA b126 0 (AD [(⟨m.x.next,m.x.now,dz.rs,dz.f⟩:A5)])*(HP.AA b35 0 (GO dz)*dz.a.h dz.d.b)*(AP cb {m.x with fv:=.slice p127 (m.fl++[(⟨m.x.next,m.x.now,dz.rs,dz.f⟩:A5)]).length c127}*(AS m.x.gq m.ga m.AR*(A1 cb wz*(BS cb m.rs*(AB b127 o127 (m.fl++[(⟨m.x.next,m.x.now,dz.rs,dz.f⟩:A5)]) s127*(m.la.h m.lo*(AO Au m.fl*(dz.f.h dz.rs*HP.BC)*(AO Au m.lo*(DC pk2*(AB tb ob tf ts*R))))))))))
        rw [HP.Fz]
        unfold BK
        ac_rfl) hw)⟩
      ·rcases J!.1 hp with hp|hp
       ·exact hmk.fl p hp
       ·rw [B_.1 hp];exact hdz.f
      ·rw [←hdf,if_pos h107,D_];show _++[(⟨m.x.next,m.x.now,dz.rs.map (·.f)⟩:Da)]=_;rw [hdz.map];rfl
     refine J1 ?_;refine Bf _ (A8 (m.x,m.fl,m.fa) ⟨hmk.fa,hmk.fl,?_,?_⟩ Du rfl) (hE:=?_)
     ·exact⟨fun ww hw=>Sat.right (A:=BK b35 dz) (E? (by
       congr 1
       show _=BK b35 dz*(AP cb m.x*(AS m.x.gq m.ga m.AR*(A1 cb wz*(BS cb m.rs*(m.fa.h m.fl*(m.la.h m.lo*(AO Au m.fl*(AO Au m.lo*(DC pk2*(AB tb ob tf ts*R))))))))))
       unfold C9
       ac_rfl) hw)⟩
     ·show m.x={m.x with fv:=m.fa.v m.fl.length};rw [←hmk.fv]
     ·rw [←hdf,if_neg (by rw [h107];simp)];rfl
    ·rintro⟨x2,fl2,fa2⟩ ⟨hfa2,hfl2,hx2,hfm2⟩;dsimp only at hfa2 hfl2 hx2 hfm2⊢;refine J1 ?_
     obtain⟨m3,hm3⟩:∃m3:Ac,m3={m with x:={x2 with next:=x2.next+1},ws:=wz,fl:=fl2,fa:=fa2}:=Be
     have hok3:m3.ok:=by rw [hm3];exact⟨hmk.g,hwz,hmk.rs,hfl2,hmk.lo,hfa2,hmk.la,by rw [hx2],by rw [hx2];exact hmk.lv⟩
     have hs3:m3.s=((⟨m.s,told,outs⟩:BR).step).c:=by
      rw [hm3];show(⟨x2.AI,x2.AF,x2.ks,x2.first,x2.now,x2.closed,x2.code,x2.said,x2.next+1,m.AR,x2.answer,wz.map (·.w),m.rs.map (·.r),fl2.map (·.Am),m.lo.map (·.Am),x2.BV,x2.waits⟩:AG)=_;rw [hfm2,hwf,hx2];rfl
     have hzs:zs=Bv m.s.ks (Ag m.s.first) (C! m.s.next) (⟨m.s,told,outs⟩:BR).filled.2.b:=by rw [←hzs,←hdf];rfl
     refine J5 ?_;refine JL (Iy (i:=x2.next) (j:=1) rfl rfl (by rw [hx2];show m.x.next+1<_;omega)) ?_;refine J5 ?_
     have eps:(⟨m3.s,Io,outs++[zs]⟩:BR)=BR.step ⟨m.s,told,outs⟩:=by
      rw [hs3,htold2,hzs];rfl
     obtain⟨hst1,hst2⟩:=hz.step hne;refine Bf (AY cb m3*(DC pk2*(AB tb ob tf ts*R))) (hE:=?_) ?_
     ·have hgq:x2.gq=m.x.gq:=by rw [hx2]
      rw [DL,hm3]
      exact⟨fun ww hw=>E? (by
       congr 1
       show _=AP cb {x2 with next:=x2.next+1}*(AS x2.gq m.ga m.AR*(A1 cb wz*(BS cb m.rs*((fa2.h fl2*(m.la.h m.lo*(AO Au fl2*AO Au m.lo)))*(DC pk2*(AB tb ob tf ts*R))))))
       rw [hgq]
       ac_rfl) hw⟩
     exact BW (m3,pk2,outs++[zs],Io,q2,to2,cc2) ⟨hok3,hpk2,by rw [eps];exact hst1,by rw [eps,←gA hz hne];exact hzp,hqs2,hqr2,by rw [eps,A_];simp only [D!];omega⟩ (by rw [eps];exact hst2) EB rfl
end
section
variable{B:World}
structure Ml where
 sq:Value
 cq:Value
 h1:sq.oneCell'=true
 h2:cq.oneCell'=true
def UI:Ml:=⟨.pointer none,.pointer none,rfl,rfl⟩
def RV(s c:Nat):Ml:=⟨ptr s 0,ptr c 0,rfl,rfl⟩
@[reducible] def Ya(m:Ml):List Value:=[.slice none 0 0,m.sq,m.cq,uN 0,.bool false,.bool false,.bool false,.bool false,uN 0,.bool false]
@[reducible] instance:AC Ml:=⟨10,Ya,UI,fun _=>rfl,fun m v h=>by
 simp at h;rcases h with rfl|rfl|rfl|rfl|rfl|rfl|rfl|rfl|rfl|rfl<;>first|rfl|exact m.h1|exact m.h2⟩
structure M' where
 cq:Value
 h1:cq.oneCell'=true
def SO:M':=⟨.pointer none,rfl⟩
def Tn(c:Nat):M':=⟨ptr c 0,rfl⟩
@[reducible] def cC(m:M'):List Value:=[.slice none 0 0,m.cq,uN 0,uN 0,.bool false,.bool false,uN 0,uN 0,iN 0]
@[reducible] instance:AC M':=⟨9,cC,SO,fun _=>rfl,fun m v h=>by
 simp at h;rcases h with rfl|rfl|rfl|rfl|rfl|rfl|rfl|rfl|rfl<;>first|rfl|exact m.h1⟩
structure Ek where
 s:Nat
 c:Nat
 r:Nat
def D6(l:List Ek):List Ml:=l.map (fun z=>RV z.s z.c)++F! (4-l.length) UI
def D4(l:List Ek):List M':=l.map (fun z=>Tn z.r)++F! (4-l.length) SO
def Kg(z:Ek):HP:=AS z.s CZ (.of 4096)*(AS z.c CZ (.of 4096)*AS z.r CZ (.of 4096))
theorem lM(l:List Ek)(h:l.length≤4):(D6 l).length=4:=by unfold D6;simp;omega
theorem dZ(l:List Ek)(h:l.length≤4):(D4 l).length=4:=by unfold D4;simp;omega
theorem dW(l:List Ek)(z:Ek)(h:l.length<4):D6 (l++[z])=(D6 l).set l.length (RV z.s z.c):=by
 unfold D6;rw [J? _ _ Cg];simp only [D_,A_,D!,B!,H?,G!,I_];rw [show 4-l.length=(4-(l.length+1))+1 by omega,E_]
 simp
theorem wZ(l:List Ek)(z:Ek)(h:l.length<4):D4 (l++[z])=(D4 l).set l.length (Tn z.r):=by
 unfold D4;rw [J? _ _ Cg];simp only [D_,A_,D!,B!,H?,G!,I_];rw [show 4-l.length=(4-(l.length+1))+1 by omega,E_]
 simp
theorem iU(l:List Ek)(h:l.length<4):(D6 l).getD l.length AC.AH=UI:=by
 unfold D6;rw [A?,F? Cg];rw [show 4-l.length=(4-(l.length+1))+1 by omega,E_]
 simp
theorem rI(l:List Ek)(h:l.length<4):(D4 l).getD l.length AC.AH=SO:=by
 unfold D4;rw [A?,F? Cg];rw [show 4-l.length=(4-(l.length+1))+1 by omega,E_]
 simp
def Ig(z:Ek):BU:=⟨Aq,BP,z.s,CZ,z.c,CZ⟩
def Ik(z:Ek):DV:=⟨E6,BP,z.r,CZ⟩
theorem nT(l:List Ek)(h:l.length=4):AD (D6 l)=AD (l.map Ig):=by
 unfold D6;rw [h,H?,L_,C?]
 have:∀l:List Ek,AD (l.map fun z=>RV z.s z.c)=AD (l.map Ig):=by
  intro l
  induction l with
  |nil=>rfl
  |cons z l ih=>show Ya _++AD (l.map _)=Bd _++AD (l.map Ig);rw [ih];rfl
 exact this l
theorem pQ(l:List Ek)(h:l.length=4):AD (D4 l)=AD (l.map Ik):=by
 unfold D4;rw [h,H?,L_,C?]
 have:∀l:List Ek,AD (l.map fun z=>Tn z.r)=AD (l.map Ik):=by
  intro l
  induction l with
  |nil=>rfl
  |cons z l ih=>show cC _++AD (l.map _)=DM _++AD (l.map Ik);rw [ih];rfl
 exact this l
theorem iW(l:List Ek):AO Kg l=AO Bi (l.map Ig)*AO B' (l.map Ik):=by
 induction l with
 |nil=>rw [I_,I_,En,En,En,HP.BH]
 |cons z l ih=>
  rw [G!,G!,FM,FM,FM,ih]
  have e1:Bi (Ig z)=AS z.s CZ (.of 4096)*AS z.c CZ (.of 4096):=by
   show AB 0 0 ([]:List UInt8) []*(AS z.s CZ (.of 4096)*AS z.c CZ (.of 4096))=_;rw [GU,HP.BH]
  have e2:B' (Ik z)=AS z.r CZ (.of 4096):=by
   show AB 0 0 ([]:List UInt8) []*AS z.r CZ (.of 4096)=_;rw [GU,HP.BH]
  rw [e1,e2];unfold Kg;ac_rfl
theorem Fi{b o o':Nat}(l m:List Value)(h:o+l.length=o'):HP.AA b o (l++m)=HP.AA b o l*HP.AA b o' m:=by
 rw [HP.E3,h]
def Iw(AI AF:Nat)(ks:List UInt8)(first:Bool)(gq:Nat):CC:=⟨AI,AF,ks,first,0,0,0,false,0,gq,false,.slice none 0 0,.slice none 0 0,0,0⟩
def KS(AI AF:Nat)(ks:List UInt8)(first:Bool)(gq:Nat):List Value:=
 [iN AI,iN AF]++((AD ks++[u8 (Ag first)])++((AD ks++[u8 (Ag (!first))])++([uN 0]++([iN 0]++([uN 0]++([.bool false]++([uN 0]++([ptr gq 0]++([.bool false]++(AD (D6 [])++(AD (D4 [])++([.slice none 0 0]++([.slice none 0 0]++([uN 0]++[uN 0]))))))))))))))
theorem wO(b AI AF:Nat)(ks:List UInt8)(hk:ks.length=16)(first:Bool)(gq:Nat):
  HP.AA b 0 (KS AI AF ks first gq)=AP b (Iw AI AF ks first gq)*(AB b (0+43) (D6 []) []*AB b (0+83) (D4 []) []):=by
 have h1:∀s:Value,(AD ks++[s]).length=17:=fun s=>by rw [A_,F7 hk];rfl
 unfold KS
 rw [Fi _ _ (rfl:0+2=0+2),Fi (o:=0+2) (o':=0+19) _ _ (by rw [h1]),Fi (o:=0+19) (o':=0+36) _ _ (by rw [h1]),
  Fi (o:=0+36) (o':=0+37) _ _ rfl,Fi (o:=0+37) (o':=0+38) _ _ rfl,Fi (o:=0+38) (o':=0+39) _ _ rfl,Fi (o:=0+39) (o':=0+40) _ _ rfl,Fi (o:=0+40) (o':=0+41) _ _ rfl,Fi (o:=0+41) (o':=0+42) _ _ rfl,
  Fi (o:=0+42) (o':=0+43) _ _ rfl,Fi (o:=0+43) (o':=0+83) _ _ rfl,Fi (o:=0+83) (o':=0+119) _ _ rfl,Fi (o:=0+119) (o':=0+120) _ _ rfl,Fi (o:=0+120) (o':=0+121) _ _ rfl,Fi (o:=0+121) (o':=0+122) _ _ rfl]
 unfold AP AB Iw;rw [C?,C?];ac_rfl
def Re:List Value:=[.int .i64 0,.int .i64 0]++([.int .u8 0,.int .u8 0,.int .u8 0,.int .u8 0,.int .u8 0,.int .u8 0,.int .u8 0,.int .u8 0,.int .u8 0,.int .u8 0,.int .u8 0,.int .u8 0,.int .u8 0,.int .u8 0,.int .u8 0,.int .u8 0,.int .u8 0]++([.int .u8 0,.int .u8 0,.int .u8 0,.int .u8 0,.int .u8 0,.int .u8 0,.int .u8 0,.int .u8 0,.int .u8 0,.int .u8 0,.int .u8 0,.int .u8 0,.int .u8 0,.int .u8 0,.int .u8 0,.int .u8 0,.int .u8 0]++([uN 0]++([iN 0]++([uN 0]++([.bool false]++([uN 0]++([.pointer none]++([.bool false]++(AD (D6 [])++(AD (D4 [])++([.slice none 0 0]++([.slice none 0 0]++([uN 0]++[uN 0]))))))))))))))
theorem jY:BO Tryz.prog 184 (.agg Re.toArray):=by
 have h:BO Tryz.prog 184 _:=inferInstance;refine E? (congrArg (BO Tryz.prog 184) ?_) h;kernel_rfl
theorem N7{ks:List UInt8}(hk:ks.length=16)(s:Value):(AD ks++[s]).length=17:=by
 rw [A_,F7 hk];rfl
theorem yO(mt wi:Nat)(ks:List UInt8)(hk:ks.length=16)(first:Bool)(q37:Nat):
  H3 #[(0,2),(2,17),(19,17),(36,1),(37,1),(38,1),(39,1),(40,1),(41,1),(42,1),(43,40),(83,36),(119,1),(120,1),(121,1),(122,1)] Re
   [(0,.agg [iN mt,iN wi].toArray),(1,.agg (AD ks++[u8 (Ag first)]).toArray),(2,.agg (AD ks++[u8 (Ag (!first))]).toArray),(8,ptr q37 0)] (KS mt wi ks first q37):=by
 have hl1:=N7 hk (u8 (Ag first));have hl2:=N7 hk (u8 (Ag (!first)));unfold Re
 exact(Ie [] [.int .i64 0,.int .i64 0] ([.int .u8 0,.int .u8 0,.int .u8 0,.int .u8 0,.int .u8 0,.int .u8 0,.int .u8 0,.int .u8 0,.int .u8 0,.int .u8 0,.int .u8 0,.int .u8 0,.int .u8 0,.int .u8 0,.int .u8 0,.int .u8 0,.int .u8 0]++([.int .u8 0,.int .u8 0,.int .u8 0,.int .u8 0,.int .u8 0,.int .u8 0,.int .u8 0,.int .u8 0,.int .u8 0,.int .u8 0,.int .u8 0,.int .u8 0,.int .u8 0,.int .u8 0,.int .u8 0,.int .u8 0,.int .u8 0]++([uN 0]++([iN 0]++([uN 0]++([.bool false]++([uN 0]++([.pointer none]++([.bool false]++(AD (D6 [])++(AD (D4 [])++([.slice none 0 0]++([.slice none 0 0]++([uN 0]++[uN 0])))))))))))))) [iN mt,iN wi] rfl rfl rfl rfl
 (Ie [iN mt,iN wi] [.int .u8 0,.int .u8 0,.int .u8 0,.int .u8 0,.int .u8 0,.int .u8 0,.int .u8 0,.int .u8 0,.int .u8 0,.int .u8 0,.int .u8 0,.int .u8 0,.int .u8 0,.int .u8 0,.int .u8 0,.int .u8 0,.int .u8 0] ([.int .u8 0,.int .u8 0,.int .u8 0,.int .u8 0,.int .u8 0,.int .u8 0,.int .u8 0,.int .u8 0,.int .u8 0,.int .u8 0,.int .u8 0,.int .u8 0,.int .u8 0,.int .u8 0,.int .u8 0,.int .u8 0,.int .u8 0]++([uN 0]++([iN 0]++([uN 0]++([.bool false]++([uN 0]++([.pointer none]++([.bool false]++(AD (D6 [])++(AD (D4 [])++([.slice none 0 0]++([.slice none 0 0]++([uN 0]++[uN 0]))))))))))))) (AD ks++[u8 (Ag first)]) (by rw [hl1];rfl) rfl (by rw [hl1];rfl) rfl
 (Ie ([iN mt,iN wi]++(AD ks++[u8 (Ag first)])) [.int .u8 0,.int .u8 0,.int .u8 0,.int .u8 0,.int .u8 0,.int .u8 0,.int .u8 0,.int .u8 0,.int .u8 0,.int .u8 0,.int .u8 0,.int .u8 0,.int .u8 0,.int .u8 0,.int .u8 0,.int .u8 0,.int .u8 0] ([uN 0]++([iN 0]++([uN 0]++([.bool false]++([uN 0]++([.pointer none]++([.bool false]++(AD (D6 [])++(AD (D4 [])++([.slice none 0 0]++([.slice none 0 0]++([uN 0]++[uN 0])))))))))))) (AD ks++[u8 (Ag (!first))]) (by rw [A_,hl1,hl2];rfl) (by simp only [G_]) (by rw [hl2];rfl) rfl
 (Ie ([iN mt,iN wi]++((AD ks++[u8 (Ag first)])++((AD ks++[u8 (Ag (!first))])++[uN 0,iN 0,uN 0,.bool false,uN 0]))) [.pointer none] ([.bool false]++(AD (D6 [])++(AD (D4 [])++[.slice none 0 0,.slice none 0 0,uN 0,uN 0]))) [ptr q37 0] (by simp only [A_,hl1,hl2];rfl) (by simp only [G_];rfl) rfl rfl
 (by unfold KS;simp only [G_];exact PU)))))
set_option maxHeartbeats 4000000 in
theorem yS(AI AF:Int)(ks:List UInt8)(hk:ks.length=16)(first:Bool)(H:HP):
  Fn Tryz.prog B 39 [.agg [.int .i64 AI,.int .i64 AF].toArray,.agg (AD ks).toArray,.bool first] H (fun v H'=>
   (¬IH AI AF∧v=.tuple #[.pointer none,Dh 1]∧H'=H)∨
   (IH AI AF∧∃cb m,m.ok∧m.s=AG.new AI.toNat AF.toNat ks first∧v=.tuple #[ptr cb 0,.nilIface]∧H'=AY cb m*H)):=by
 refine mI Tryz.func39 ?_;refine J2 ?_;refine Af W7 rfl ?_;rintro _ _ ⟨b3,rfl,rfl⟩;refine KA ?_;rintro _ _ ⟨b4,rfl,rfl⟩;refine J9 ?_;refine JL (K3 (i:=AI) (j:=64) rfl rfl) ?_;refine J1 ?_;refine D8 13 rfl (fun hg1=>?_) (fun hg1=>?_)
 ·have g1:=hg1;refine LL ?_;refine JH T1 ?_;refine JL Fd ?_;refine J1 ?_;refine KZ ?_;refine JL G2 ?_;refine J1 ?_;refine KZ ?_;refine JL G2 ?_;refine Rw ?_;exact Ox
 have g1:=hg1;refine N3 ?_;refine JL (Y3 (i:=AI) (j:=300) rfl rfl) ?_;refine JL Ec ?_;refine J1 ?_;refine D8 18 rfl (fun hg2=>?_) (fun hg2=>?_)
 ·have g2:=hg2;refine JH T2 ?_;refine JH T2 ?_;refine JH T2 ?_;refine JL Ht ?_;refine J1 ?_;refine KZ ?_;refine JL G2 ?_;refine Rw ?_;exact Ox
 have g2:=hg2;refine ZI ?_;refine J1 ?_;refine JG F2 ?_;refine JL (K3 (i:=AF) (j:=16) rfl rfl) ?_;refine JL HK ?_;refine J1 ?_;refine D8 23 rfl (fun hg3=>?_) (fun hg3=>?_)
 ·have g3:=hg3;refine JH T3 ?_;refine JH T3 ?_;refine JH T3 ?_;refine JL RC ?_;refine Rw ?_;exact Ox
 have g3:=hg3;refine JG F3 ?_;refine J1 ?_;refine JG F3 ?_;refine J1 ?_;refine JG F3 ?_;refine JL (Y3 (i:=AF) (j:=1024) rfl rfl) ?_;refine JL (GW F3 rfl rfl) ?_;refine J2 ?_;refine mC (fun g4=>?_) (fun g4=>?_)
 ·refine J2 ?_;refine JL Yu ?_;refine J6 ?_;exact Ox
 obtain⟨mt,rfl⟩:∃mt:Nat,AI=mt:=⟨AI.toNat,Ca⟩
 obtain⟨wi,rfl⟩:∃wi:Nat,AF=wi:=⟨AF.toNat,Ca⟩
 have hl1:=N7 hk (u8 (Ag first));have hl2:=N7 hk (u8 (Ag (!first)));refine J3 ?_;refine mA 10 12 ?_;refine JT 0 rfl (Di (l:=[iN mt,iN wi]) rfl rfl) ?_;refine JT 1 rfl SH ?_;refine Jm 2 ?_;refine JT 4 rfl SH ?_;refine Jm 5 ?_;refine JT 6 rfl Ku ?_;refine An 3 Cb rfl rfl (BJ rfl (SP ks hk first _)) ?_;refine FB ?_;refine An 7 Cb rfl rfl (BJ rfl (SP ks hk (!first) _)) ?_;refine FB ?_;refine An 8 Cb rfl rfl (BJ rfl (Zm 8 _ Ca)) ?_;rintro _ _ ⟨q37,rfl,rfl⟩;refine BA ?_;refine JT 9 rfl (PO (hz:=jY) (cs:=KS mt wi ks first q37) rfl (yO mt wi ks hk first q37)) ?_;refine An 10 Cb rfl rfl (DP (l:=KS mt wi ks first q37) rfl rfl) ?_;rintro _ _ ⟨b39,rfl,rfl⟩;refine DK ?_;refine EL 11 Cb rfl rfl FQ D2 ?_;refine IR ?_;refine HI (HP.AA b39 0 (KS mt wi ks first q37)*(AS q37 CZ (.of 8)*H)) ?_;refine Ao (H':=AP b39 (Iw mt wi ks first q37)*(AB b39 (0+43) (D6 []) []*(AB b39 (0+83) (D4 []) []*(AO Kg []*(AS q37 CZ (.of 8)*H))))) (by rw [wO b39 mt wi ks hk,En,HP.BH];ac_rfl) ?_;refine J1 ?_
 refine Gi ?_;refine Bk (α:=List Ek) (fun l=>[(40,iN l.length),(8,ptr b39 0)]) (fun l=>AP b39 (Iw mt wi ks first q37)*(AB b39 (0+43) (D6 l) []*(AB b39 (0+83) (D4 l) []*(AO Kg l*(AS q37 CZ (.of 8)*H))))) (fun l=>l.length≤4) (fun l=>4-l.length) [] FL G8 rfl ?_;rintro l hl;dsimp only at hl⊢;refine J2 ?_;refine JL (Dr (j:=4) rfl rfl) ?_;refine J3 ?_;refine mC (fun h41=>?_) (fun h41=>?_)
 ·refine Ao (H':=AP b39 (Iw mt wi ks first q37)*(HP.AA b39 (0+43+l.length*10) [.slice none 0 0,.pointer none,.pointer none,uN 0,.bool false,.bool false,.bool false,.bool false,uN 0,.bool false]*(Ib b39 (0+43) (D6 l) [] l.length*(HP.AA b39 (0+83+l.length*9) [.slice none 0 0,.pointer none,uN 0,uN 0,.bool false,.bool false,uN 0,uN 0,iN 0]*(Ib b39 (0+83) (D4 l) [] l.length*(AO Kg l*(AS q37 CZ (.of 8)*H))))))) (by rw [M1 b39 (0+43) (D6 l) [] l.length AC.AH Zc,M1 b39 (0+83) (D4 l) [] l.length AC.AH YR,iU l h41,rI l h41];show AP b39 _*(HP.AA b39 (0+43+l.length*10) _*_*(HP.AA b39 (0+83+l.length*9) _*_*_))=_;ac_rfl) ?_;refine Bq ?_;refine D5 (AS q37 CZ (.of 8)*H) 15 16 EI rfl Cb ?_;refine EK ?_;refine Jm 2 ?_;refine Jm 3 ?_;refine Jn 6 ?_;refine Jf 7 ?_;refine Jn 11 ?_;refine Jf 12 ?_;refine An 4 Cb rfl rfl PK ?_;rintro _ _ ⟨q47,rfl,rfl⟩;refine BA ?_;refine An 5 Cb rfl rfl PK ?_;rintro _ _ ⟨q48,rfl,rfl⟩;refine BA ?_;refine JT 8 rfl TC ?_;refine Pe ?_;refine FB ?_
  refine JT 13 rfl TC ?_;refine Jf 14 ?_;refine Db 15 Cb rfl Er ?_;refine DF ?_;refine J1 ?_;refine mA 7 8 ?_;refine EK ?_;refine Jn 3 ?_;refine Jf 4 ?_;refine An 2 Cb rfl rfl PK ?_;rintro _ _ ⟨q59,rfl,rfl⟩;refine BA ?_;refine JT 5 rfl TC ?_;refine Jf 6 ?_;refine Db 7 Cb rfl Er ?_;refine DF ?_;refine J3 ?_;refine Es ?_;refine Bf (AP b39 (Iw mt wi ks first q37)*(AB b39 (0+43) (D6 (l++[⟨q47,q48,q59⟩])) []*(AB b39 (0+83) (D4 (l++[⟨q47,q48,q59⟩])) []*(AO Kg (l++[⟨q47,q48,q59⟩])*(AS q37 CZ (.of 8)*H))))) (hE:=?_) ?_
  ·rw [dW l _ h41,wZ l _ h41,JE,FM,En,Lw b39 (0+43) (D6 l) [] l.length _ Zc,Lw b39 (0+83) (D4 l) [] l.length _ YR]
   exact⟨fun ww hw=>E? (by
    congr 1
    show _=AP b39 (Iw mt wi ks first q37)*(HP.AA b39 (0+43+l.length*10) [.slice none 0 0,ptr q47 0,ptr q48 0,uN 0,.bool false,.bool false,.bool false,.bool false,uN 0,.bool false]*Ib b39 (0+43) (D6 l) [] l.length*(HP.AA b39 (0+83+l.length*9) [.slice none 0 0,ptr q59 0,uN 0,uN 0,.bool false,.bool false,uN 0,uN 0,iN 0]*Ib b39 (0+83) (D4 l) [] l.length*(AO Kg l*((AS q47 CZ (.of 4096)*(AS q48 CZ (.of 4096)*AS q59 CZ (.of 4096)))*HP.BC)*(AS q37 CZ (.of 8)*H))))
    rw [HP.Fz]
    ac_rfl) hw⟩
  exact BW (l++[⟨q47,q48,q59⟩]) (by rw [A_];exact h41) (by rw [A_];show 4-(l.length+1)<4-l.length;have:l.length<4:=h41;omega) (.cons Pg PG) rfl
 have hl4:l.length=4:=by have:¬l.length<4:=h41;omega
 refine Eu ?_
 obtain⟨m,hm⟩:∃m:Ac,m=⟨(Iw mt wi ks first q37),.of 8,CZ,l.map Ig,l.map Ik,[],[],BP,BP⟩:=Be
 have hmok:m.ok:=by
  rw [hm]
  exact⟨NJ 8,(fun w hw=>by obtain⟨z,_,rfl⟩:=F_.1 hw;exact⟨Dn,NJ 4096,NJ 4096⟩),(fun r hr=>by obtain⟨z,_,rfl⟩:=F_.1 hr;exact⟨Dn,NJ 4096⟩),
   (fun _ h=>nomatch h),(fun _ h=>nomatch h),Dn,Dn,rfl,rfl⟩
 have hms:m.s=AG.new mt wi ks first:=by
  rw [hm];unfold Ac.s AG.new;dsimp only
  have e1:(l.map Ig).map (·.w)=F! 4 Aq:=by
   rw [M!,←hl4];exact K_.2 ⟨Cg,fun b hb=>by obtain⟨z,_,rfl⟩:=F_.1 hb;rfl⟩
  have e2:(l.map Ik).map (·.r)=F! 4 E6:=by
   rw [M!,←hl4];exact K_.2 ⟨Cg,fun b hb=>by obtain⟨z,_,rfl⟩:=F_.1 hb;rfl⟩
  rw [e1,e2];rfl
 exact mR [6,7] (AY b39 m*H) (hE:=⟨fun ww hw=>E? (by
  congr 1
  rw [DL,hm,iW]
  unfold AB A1 BS C9
  rw [nT l hl4,pQ l hl4]
  show _=AP b39 (Iw mt wi ks first q37)*(AS q37 CZ (.of 8)*(AB b39 (0+43) (l.map Ig) []*AO Bi (l.map Ig)*(AB b39 (0+83) (l.map Ik) []*AO B' (l.map Ik)*(BP.h ([]:List A5)*(BP.h ([]:List A5)*(AO Au []*AO Au []))*H))))
  rw [GX,En,HP.BH,HP.BH,HP.BH,HP.BH]
  unfold AB
  ac_rfl) hw⟩) rfl rfl (.inr ⟨⟨Ca,Ca,Ca,Ca⟩,b39,m,hmok,by rw [hms];rfl,rfl,rfl⟩)
end
section
variable{B:World}
structure LH where
 kind:Int
 stream:Int
 AL:Int
 code:Nat
 data:ByteArray
structure Dw where
 e:Nat
 at_:Int
 n:Nat
 code:Nat
 data:ByteArray
 A6:List ByteArray
def AG.B2(c:AG)(q:LH):Dw×AG:=
 if q.kind=1 then(⟨(c.write q.stream q.data.data.toList).1.2,-1,(c.write q.stream q.data.data.toList).1.1,0,⟨#[]⟩,[]⟩,(c.write q.stream q.data.data.toList).2)
 else if q.kind=2 then(⟨(c.finish q.stream).1,-1,0,0,⟨#[]⟩,[]⟩,(c.finish q.stream).2)
 else if q.kind=3 then(⟨(c.giveUp q.stream q.code).1,-1,0,0,⟨#[]⟩,[]⟩,(c.giveUp q.stream q.code).2)
 else if q.kind=4 then(⟨0,-1,0,0,⟨#[]⟩,[]⟩,c.tick)
 else if q.kind=5 then(⟨0,-1,0,0,⟨#[]⟩,c.A6.1.map AW⟩,c.A6.2)
 else if q.kind=6 then(⟨(c.A9 q.data.data.toList).1.1,(c.A9 q.data.data.toList).1.2,0,0,⟨#[]⟩,[]⟩,(c.A9 q.data.data.toList).2)
 else if q.kind=7 then(⟨(c.read q.stream q.AL).1.2.2.2,-1,(c.read q.stream q.AL).1.2.1,(c.read q.stream q.AL).1.2.2.1,AW (c.read q.stream q.AL).1.1,[]⟩,(c.read q.stream q.AL).2)
 else if q.kind=8 then(⟨(c.close q.code).1,-1,0,0,⟨#[]⟩,[]⟩,(c.close q.code).2)
 else if q.kind=9 then(⟨(c.AE q.stream).2,-1,(c.AE q.stream).1,0,⟨#[]⟩,[]⟩,c)
 else(⟨0,-1,0,0,⟨#[]⟩,[]⟩,c)
theorem AZ.B2{t:Nat}{c:AG}(h:AZ t c)(q:LH):AZ (t+1) (c.B2 q).2:=by
 unfold AG.B2;split
 ·exact(h.write _ _).mono ER
 split
 ·exact(h.finish _).mono ER
 split
 ·exact(h.giveUp _ _).mono ER
 split
 ·exact h.tick
 split
 ·exact h.A6
 split
 ·exact(h.A9 _ (fun n b e=>by have:=(O8 e).2.2;omega)).mono ER
 split
 ·exact h.read _ _
 split
 ·exact(h.close _).mono ER
 split
 ·exact h.mono ER
 ·exact h.mono ER
@[reducible] def De(q:LH):List Value:=[.int .i64 q.kind,.int .i64 q.stream,.int .i64 q.AL,uN q.code,.string q.data]
@[reducible] instance:AC LH:=⟨5,De,⟨0,0,0,0,⟨#[]⟩⟩,fun _=>rfl,fun _ v h=>by
 simp at h;rcases h with rfl|rfl|rfl|rfl|rfl<;>rfl⟩
@[reducible] instance layStr:AC ByteArray:=⟨1,fun s=>[.string s],⟨#[]⟩,fun _=>rfl,fun _ v h=>by
 simp at h;rcases h with rfl;rfl⟩
structure Mg(B:World)(v:Value)(EH:HP)(e:Nat)(at_:Int):Prop where
 told:∀R,Fn Tryz.prog B 44 [v] (EH*R) (fun v' H'=>v'=.tuple #[iN e,.int .i64 at_]∧H'=EH*R)
 num:∀R,Fn Tryz.prog B 40 [v] (EH*R) (fun v' H'=>v'=iN e∧H'=EH*R)
theorem Mg.of(hG:B.cell? ⟨0,0,none⟩=some (C3 106))(k:Nat):Mg B (Dh k) HP.BC k (-1):=by
 by_cases h:k=0
 ·subst h;exact⟨fun R=>by rw [HP.BH];exact U5 R,fun R=>by rw [HP.BH];exact X2 R⟩
 ·rw [T8 h];exact⟨fun R=>by rw [HP.BH];exact Zp hG k R,fun R=>by rw [HP.BH];exact Ud hG k R⟩
theorem K8.t(hG:B.cell? ⟨0,0,none⟩=some (C3 106)){e:Nat}{at_:Int}{H H':HP}{v:Value}(h:K8 e at_ H v H'):∃EH,H'=EH*H∧Mg B v EH e at_:=by
 rcases h with⟨rfl,rfl,rfl⟩|⟨q,a,rfl,rfl,rfl,rfl⟩
 ·exact⟨HP.BC,Cj,.of hG e⟩
 ·exact⟨EU q 5 (iN a),rfl,fun R=>W3 hG q 5 (iN a) R,fun R=>jC hG q 5 (iN a) R⟩
theorem fU{R H':HP}{xs:List UInt8}{sv:Value}(h:(xs=[]∧sv=.slice none 0 0∧H'=R)∨(xs≠ []∧B1 R xs sv H')):B1 R xs sv H':=by
 rcases h with⟨rfl,rfl,rfl⟩|⟨_,h⟩
 ·exact .nil _
 ·exact h
theorem hM(hG:B.cell? ⟨0,0,none⟩=some (C3 106))(AI AF:Int)(ks:List UInt8)(hk:ks.length=16)(first:Bool)(H:HP):
  Fn Tryz.prog B 16 [.agg [.int .i64 AI,.int .i64 AF].toArray,.agg (AD ks).toArray,.bool first] H (fun v H'=>
   (¬IH AI AF∧v=.tuple #[.pointer none,iN 1]∧H'=H)∨
   (IH AI AF∧∃cb m,m.ok∧m.s=AG.new AI.toNat AF.toNat ks first∧v=.tuple #[ptr cb 0,iN 0]∧H'=AY cb m*H)):=by
 refine mI Tryz.func16 ?_;refine J2 ?_;refine Af W7 rfl ?_;rintro _ _ ⟨b3,rfl,rfl⟩;refine KA ?_;rintro _ _ ⟨b4,rfl,rfl⟩;refine J1 ?_;refine FN ?_;refine J4 ?_;refine JL (Di (l:=[.int .i64 AI,.int .i64 AF]) rfl rfl) ?_;refine JL SH ?_;refine J1 ?_;refine mE rfl (yS AI AF ks hk first _) ?_;intro v14 H14 h14
 obtain⟨pv,ev,rfl,hev⟩:∃pv ev,v14=.tuple #[pv,ev]∧((¬IH AI AF∧pv=.pointer none∧ev=Dh 1∧H14=HP.AA b4 0 (AD ks)*(HP.AA b3 0 [.int .i64 AI,.int .i64 AF]*H))∨
   (IH AI AF∧ev=Dh 0∧∃cb m,m.ok∧m.s=AG.new AI.toNat AF.toNat ks first∧pv=ptr cb 0∧H14=AY cb m*(HP.AA b4 0 (AD ks)*(HP.AA b3 0 [.int .i64 AI,.int .i64 AF]*H)))):=by
  rcases h14 with⟨a1,rfl,a2⟩|⟨a1,cb,m,a2,a3,rfl,a4⟩
  ·exact⟨_,_,rfl,.inl ⟨a1,rfl,rfl,a2⟩⟩
  ·exact⟨_,_,rfl,.inr ⟨a1,rfl,cb,m,a2,a3,rfl,a4⟩⟩
 obtain⟨ek,hek⟩:∃ek,Mg B ev HP.BC ek (-1)∧ek=if IH AI AF then 0 else 1:=by
  rcases hev with⟨a1,_,rfl,_⟩|⟨a1,rfl,_⟩
  ·exact⟨1,.of hG 1,by rw [if_neg a1]⟩
  ·exact⟨0,.of hG 0,by rw [if_pos a1]⟩
 refine Bq ?_;refine BF (H':=HP.BC*H14) Cj ?_;refine mE rfl (hek.1.num _) ?_;refine J0 ?_;rw [hek.2];rcases hev with⟨a1,rfl,rfl,rfl⟩|⟨a1,rfl,cb,m,a2,a3,rfl,rfl⟩
 ·exact mR [6,7] H rfl rfl (.inl ⟨a1,by rw [if_neg a1];rfl,rfl⟩)
 ·exact mR [6,7] (AY cb m*H) rfl rfl (.inr ⟨a1,cb,m,a2,a3,by rw [if_pos a1];rfl,rfl⟩)
theorem Wt{t:Nat}:∀(n:Nat) (z:BR),DE t z→(DT n z).out.length≤z.out.length+z.mu
 |0,z,h=>L? _ _
 |n+1,z,h=>by
  rw [DT];split
  ·exact L? _ _
  ·rename_i hne;obtain⟨h1,h2⟩:=h.step hne;have h3:=Wt n _ h1
   have h4:z.step.out.length=z.out.length+1:=by show(z.out++[_]).length=_;rw [A_];rfl
   omega
theorem aO(ks:List UInt8)(side:UInt8)(n:UInt64)(xs:List UInt8):(Bv ks side n xs).length=xs.length+16:=by
 unfold Bv;rw [A_,A_,S7,Sx,YD];omega
theorem YF{t:Nat}:∀(n:Nat) (z:BR),DE t z→(∀p∈z.out,p.length≤300)→∀p∈(DT n z).out,p.length≤300
 |0,z,h,ho=>ho
 |n+1,z,h,ho=>by
  rw [DT];split
  ·exact ho
  ·rename_i hne;obtain⟨h1,h2⟩:=h.step hne;refine YF n _ h1 fun p hp=>?_;have hp':p∈z.out++[Bv z.c.ks (Ag z.c.first) (C! z.c.next) z.filled.2.b]:=hp;rcases J!.1 hp' with hp|hp
   ·exact ho p hp
   ·rw [B_.1 hp,aO];have h3:=h.filled.Hq.len;have h4:=h.filled.Hq.room;omega
theorem uE{t:Nat}{c:AG}(h:AZ t c):∀p∈c.A6.1,p.length≤300:=by
 unfold AG.A6;split
 ·unfold AG.Gm;split
  ·intro p hp;cases hp
  ·intro p hp;rw [B_.1 hp,aO]
   have:=RJ c.code;omega
 ·exact YF 40 _ (DE.begin h) (fun p hp=>nomatch hp)
theorem sV{t:Nat}{c:AG}(h:AZ t c)(k AL:Int):(c.read k AL).1.1.length≤1000000:=by
 unfold AG.read;split
 ·exact Mb
 ·rename_i hs;dsimp only;split
  ·show((c.EX k.toNat).b.take _).length≤_;rw [G?];rename_i hst
   have hk:k.toNat<4:=by
    unfold AG.stream at hs;split at hs
    ·omega
    split at hs
    ·omega
    ·omega
   have hr:=h.rs _ hk;have hw2:=h.w2
   have hb:(c.EX k.toNat).b.length≤1024:=by
    unfold AG.EX at hst⊢;by_cases hg:(c.r k.toNat).given=true
    ·by_cases h0:(c.r k.toNat).state=0
     ·rw [if_pos ⟨hg,h0⟩];exact K! _
     ·rw [if_neg (fun h=>h0 h.2)]at hst;exact absurd hst h0
    ·rw [if_neg (fun h=>hg h.1)];have h1:=hr.len RY;have h2:=hr.hw;omega
   omega
  ·exact Mb
theorem qM{t:Nat}{c:AG}(h:AZ t c):c.A6.1.length≤20:=by
 unfold AG.A6;split
 ·unfold AG.Gm;split<;>simp
 ·have hb:=DE.begin h;have h8:=Wt 40 _ hb;have h9:=hb.tl
  have h10:(⟨{c with answer:=false},if c.answer then c.AR.l.reverse else [],[]⟩:BR).mu≤18:=by unfold BR.mu;omega
  have h11:(⟨{c with answer:=false},if c.answer then c.AR.l.reverse else [],[]⟩:BR).out.length=0:=rfl;dsimp only;omega
set_option maxHeartbeats 8000000 in
theorem sZ(hG:B.cell? ⟨0,0,none⟩=some (C3 106))(cb t:Nat)(m:Ac)(q:LH)(R:HP)(hm:m.ok)(hi:AZ t m.s)(ht:t<900000)(hd:q.data.size<90000000)(hmo2:q.AL<9223372036854775808):
  Fn Tryz.prog B 54 [ptr cb 0,.agg (De q).toArray] (AY cb m*R) (fun v H'=>∃(m':Ac) (ps:Az),m'.ok∧m'.s=(m.s.B2 q).2∧ps.ok (m.s.B2 q).1.A6∧
   v=.tuple #[iN (m.s.B2 q).1.e,.int .i64 (m.s.B2 q).1.at_,iN (m.s.B2 q).1.n,uN (m.s.B2 q).1.code,.string (m.s.B2 q).1.data,.slice ps.p (m.s.B2 q).1.A6.length ps.c]∧H'=ps.h (m.s.B2 q).1.A6*(AY cb m'*R)):=by
 refine mI Tryz.func54 ?_;refine J2 ?_;refine Af (DP (l:=De q) rfl rfl) rfl ?_;rintro _ _ ⟨b3,rfl,rfl⟩;refine FN ?_;refine FN ?_;refine FN ?_;refine GR ?_;refine Eu ?_;refine Af (Td rfl) rfl ?_;rintro _ _ ⟨p17,b17,o17,c17,s17,rfl,hs17,hc17,rfl⟩;refine J5 ?_
 have hxl:q.data.data.toList.length<90000000:=(by rw [Array.length_toList];exact hd)
 refine Ao (H':=AY cb m*(AB b17 o17 q.data.data.toList s17*(HP.AA b3 0 (De q)*R))) Cf ?_;refine J8 ?_;refine JL (CT (i:=q.kind) (j:=1) rfl rfl) ?_;refine J3 ?_;refine CR (α:=Ac×HP×Value×Dw×Az) (fun z=>[(0,ptr cb 0),(11,.slice p17 q.data.data.toList.length c17),(10,z.2.2.1),(6,iN z.2.2.2.1.n),(7,uN z.2.2.2.1.code),(8,.string z.2.2.2.1.data),(9,.slice z.2.2.2.2.p z.2.2.2.1.A6.length z.2.2.2.2.c)]) (fun z=>AB b17 o17 q.data.data.toList s17*(z.2.1*(z.2.2.2.2.h z.2.2.2.1.A6*(AY cb z.1*R)))) (fun z=>z.1.ok∧m.s.B2 q=(z.2.2.2.1,z.1.s)∧Mg B z.2.2.1 z.2.1 z.2.2.2.1.e z.2.2.2.1.at_∧z.2.2.2.2.ok z.2.2.2.1.A6) ?_ ?_
 ·refine mC (fun k1=>?_) (fun k1=>?_)
  ·refine J5 ?_;refine mE rfl (jD cb t m q.stream q.data.data.toList p17 b17 o17 c17 _ hm hi hs17 inferInstance) ?_;rintro _ _ ⟨m2,hmo,hms,rfl,rfl⟩;refine J6 ?_
   have hdo:m.s.B2 q=((⟨(m.s.write q.stream q.data.data.toList).1.2,-1,(m.s.write q.stream q.data.data.toList).1.1,0,⟨#[]⟩,[]⟩:Dw),m2.s):=by
    unfold AG.B2;rw [if_pos k1];rw [hms]
   exact Bf (AB b17 o17 q.data.data.toList s17*(HP.BC*(Az.h BP ([]:List ByteArray)*(AY cb m2*R)))) (hE:=KN) (A8 (m2,HP.BC,Dh (m.s.write q.stream q.data.data.toList).1.2,(⟨(m.s.write q.stream q.data.data.toList).1.2,-1,(m.s.write q.stream q.data.data.toList).1.1,0,⟨#[]⟩,[]⟩:Dw),BP) ⟨hmo,hdo,.of hG _,Dn⟩ Ge rfl)
  refine J2 ?_;refine JL (CT (i:=q.kind) (j:=2) rfl rfl) ?_;refine J3 ?_;refine mC (fun k2=>?_) (fun k2=>?_)
  ·refine J4 ?_;refine mE rfl (xK cb t m q.stream _ hm hi) ?_;rintro _ _ ⟨m2,hmo,hms,rfl,rfl⟩;refine J2 ?_
   have hdo:m.s.B2 q=((⟨(m.s.finish q.stream).1,-1,0,0,⟨#[]⟩,[]⟩:Dw),m2.s):=by
    unfold AG.B2;rw [if_neg k1,if_pos k2];rw [hms]
   exact Bf (AB b17 o17 q.data.data.toList s17*(HP.BC*(Az.h BP ([]:List ByteArray)*(AY cb m2*R)))) (hE:=KN) (A8 (m2,HP.BC,Dh (m.s.finish q.stream).1,(⟨(m.s.finish q.stream).1,-1,0,0,⟨#[]⟩,[]⟩:Dw),BP) ⟨hmo,hdo,.of hG _,Dn⟩ Ge rfl)
  refine J2 ?_;refine JL (CT (i:=q.kind) (j:=3) rfl rfl) ?_;refine J3 ?_;refine mC (fun k3=>?_) (fun k3=>?_)
  ·refine J6 ?_;refine mE rfl (qJ cb t m q.stream q.code _ hm hi) ?_;rintro _ _ ⟨m2,hmo,hms,rfl,rfl⟩;refine J2 ?_
   have hdo:m.s.B2 q=((⟨(m.s.giveUp q.stream q.code).1,-1,0,0,⟨#[]⟩,[]⟩:Dw),m2.s):=by
    unfold AG.B2;rw [if_neg k1,if_neg k2,if_pos k3];rw [hms]
   exact Bf (AB b17 o17 q.data.data.toList s17*(HP.BC*(Az.h BP ([]:List ByteArray)*(AY cb m2*R)))) (hE:=KN) (A8 (m2,HP.BC,Dh (m.s.giveUp q.stream q.code).1,(⟨(m.s.giveUp q.stream q.code).1,-1,0,0,⟨#[]⟩,[]⟩:Dw),BP) ⟨hmo,hdo,.of hG _,Dn⟩ Ge rfl)
  refine J2 ?_;refine JL (CT (i:=q.kind) (j:=4) rfl rfl) ?_;refine J3 ?_;refine mC (fun k4=>?_) (fun k4=>?_)
  ·refine J2 ?_;refine mE rfl (iS cb t m _ hm hi Ca) ?_;rintro _ _ ⟨m2,hmo,hms,rfl⟩;refine J1 ?_
   have hdo:m.s.B2 q=((⟨0,-1,0,0,⟨#[]⟩,[]⟩:Dw),m2.s):=by
    unfold AG.B2;rw [if_neg k1,if_neg k2,if_neg k3,if_pos k4];rw [hms]
   exact Bf (AB b17 o17 q.data.data.toList s17*(HP.BC*(Az.h BP ([]:List ByteArray)*(AY cb m2*R)))) (hE:=KN) (A8 (m2,HP.BC,Dh 0,(⟨0,-1,0,0,⟨#[]⟩,[]⟩:Dw),BP) ⟨hmo,hdo,.of hG 0,Dn⟩ Ge rfl)
  refine J2 ?_;refine JL (CT (i:=q.kind) (j:=5) rfl rfl) ?_;refine J3 ?_;refine mC (fun k5=>?_) (fun k5=>?_)
  ·refine J3 ?_;refine mE rfl (xD cb t m _ hm hi Ca) ?_;rintro _ _ ⟨m2,hmo,hms,pk,hpk,rfl,rfl⟩
   have hpl:pk.l.length≤20:=(by have h7:=congrArg M_ hpk.map;rw [B!]at h7;have h8:=qM hi;omega)
   refine Jb ?_
   refine Bk (α:=Nat×Az) (fun z=>[(53,iN z.1),(52,iN pk.l.length),(51,pk.v),(0,ptr cb 0),(10,.nilIface),(11,.slice p17 q.data.data.toList.length c17),(6,iN 0),(7,uN 0),(8,.string ⟨#[]⟩),(9,.slice z.2.p (((m.s.A6.1).take z.1).map AW).length z.2.c)]) (fun z=>Az.h z.2 (((m.s.A6.1).take z.1).map AW)*(pk.a.h pk.l*(AO Gj (pk.l.drop z.1)*(AY cb m2*(AB b17 o17 q.data.data.toList s17*(HP.AA b3 0 (De q)*R)))))) (fun z=>z.1≤pk.l.length∧z.2.ok (((m.s.A6.1).take z.1).map AW)) (fun z=>pk.l.length-z.1) (0,BP) ⟨K! _,Dn⟩ (.cons rfl Lt) (by
    show _=BP.h ([]:List ByteArray)*(pk.a.h pk.l*(AO Gj pk.l*_))
    rw [GX,HP.BH];unfold DC;ac_rfl) ?_
   rintro⟨i,sk⟩ ⟨hi1,hsk⟩;dsimp only at hi1 hsk⊢;refine J6 ?_;refine mC (fun h54=>?_) (fun h54=>?_)
   ·have hpkm:=hpk.l _ (Il (d:=AC.AH) h54)
    have hpyl:(pk.l.getD i AC.AH).ys.length<1000000:=by
     have h7:(pk.l.getD i AC.AH).ys∈m.s.A6.1:=by rw [←hpk.map];exact F_.2 ⟨_,Il h54,rfl⟩
     have:=uE hi _ h7;omega
    have hsl:(((m.s.A6.1).take i).map AW).length≤20:=by rw [B!,G?];have h7:i<pk.l.length:=h54;omega
    refine Ao (H':=Az.h sk (((m.s.A6.1).take i).map AW)*(pk.a.h pk.l*(AB (pk.l.getD i AC.AH).a.b (pk.l.getD i AC.AH).a.o (pk.l.getD i AC.AH).ys (pk.l.getD i AC.AH).a.s*(AO Gj (pk.l.drop (i+1))*(AY cb m2*(AB b17 o17 q.data.data.toList s17*(HP.AA b3 0 (De q)*R))))))) (by
     rw [List.drop_eq_getElem_cons h54,FM]
     rw [show pk.l.getD i AC.AH=pk.l[i] by rw [A?,C_ h54];rfl]
     unfold Gj
     ac_rfl) ?_
    refine J6 ?_;refine JL (DG rfl rfl hpk.a.1 h54) ?_;refine JL (A2 (v':=.slice (pk.l.getD i AC.AH).a.p (pk.l.getD i AC.AH).ys.length (pk.l.getD i AC.AH).a.c) (Ep (f:=0) (xs:=pk.l) rfl inferInstance rfl h54) rfl) ?_;refine J7 ?_;refine JL (Lp rfl hpkm.1 inferInstance) ?_;refine Af (GZ (cs:=[.string (AW (pk.l.getD i AC.AH).ys)]) rfl Cp rfl rfl) rfl ?_;rintro _ _ ⟨b60,rfl,rfl⟩;refine BF (H':=AB sk.b sk.o (((m.s.A6.1).take i).map AW) sk.s*(HP.AA b60 0 (AD [AW (pk.l.getD i AC.AH).ys])*(AB (pk.l.getD i AC.AH).a.b (pk.l.getD i AC.AH).a.o (pk.l.getD i AC.AH).ys (pk.l.getD i AC.AH).a.s*(pk.a.h pk.l*(AO Gj (pk.l.drop (i+1))*(AY cb m2*(AB b17 o17 q.data.data.toList s17*(HP.AA b3 0 (De q)*R)))))))) (by show HP.AA b60 0 [_]*_=_;rw [show AD [AW (pk.l.getD i AC.AH).ys]=[.string (AW (pk.l.getD i AC.AH).ys)]from rfl];unfold Az.h;ac_rfl) ?_;refine Af (CS (ys:=[AW (pk.l.getD i AC.AH).ys]) (bb:=b60) (oo:=0) (cc:=1) rfl hsk.1 hsk.2 rfl CB inferInstance rfl Cm Ca) rfl ?_;rintro _ _ ⟨p61,b61,o61,c61,s61,rfl,hs61,hc61,rfl⟩;refine J5 ?_
    refine BF (H':=AB (pk.l.getD i AC.AH).a.b (pk.l.getD i AC.AH).a.o (pk.l.getD i AC.AH).ys (pk.l.getD i AC.AH).a.s*(AB b61 o61 (((m.s.A6.1).take i).map AW++[AW (pk.l.getD i AC.AH).ys]) s61*(HP.AA b60 0 (AD [AW (pk.l.getD i AC.AH).ys])*(pk.a.h pk.l*(AO Gj (pk.l.drop (i+1))*(AY cb m2*(AB b17 o17 q.data.data.toList s17*(HP.AA b3 0 (De q)*R)))))))) Cf ?_;refine mE rfl (Mu _ _ _ _ _ (pk.l.getD i AC.AH).ys _ _ hpkm.1 rfl Ca) ?_;rintro _ _ ⟨ys63,hys63,rfl⟩;refine HZ ?_
    have hpn:((m.s.A6.1).take (i+1)).map AW=((m.s.A6.1).take i).map AW++[AW (pk.l.getD i AC.AH).ys]:=by
     have h7:(m.s.A6.1)[i]?=some (pk.l.getD i AC.AH).ys:=by
      rw [←hpk.map,B?,C_ h54,A?,C_ h54];rfl
     have h8:i<(m.s.A6.1).length:=by rw [←hpk.map,B!];exact h54
     rw [List.take_succ_eq_append_getElem h8,D_];rw [C_ h8]at h7;rw [Option.some.inj h7];rfl
    refine Bf (Az.h ⟨p61,b61,o61,c61,s61⟩ (((m.s.A6.1).take (i+1)).map AW)*(pk.a.h pk.l*(AO Gj (pk.l.drop (i+1))*(AY cb m2*(AB b17 o17 q.data.data.toList s17*(HP.AA b3 0 (De q)*R)))))) (hE:=⟨fun ww hw=>Sat.right (A:=HP.AA b60 0 (AD [AW (pk.l.getD i AC.AH).ys])*AB (pk.l.getD i AC.AH).a.b (pk.l.getD i AC.AH).a.o ys63 (pk.l.getD i AC.AH).a.s) (E? (by congr 1;rw [hpn];unfold Az.h;ac_rfl) hw)⟩) ?_;exact BW (i+1,⟨p61,b61,o61,c61,s61⟩) ⟨h54,by rw [hpn];exact⟨hs61,hc61⟩⟩ (by show pk.l.length-(i+1)<pk.l.length-i;have h7:i<pk.l.length:=h54;omega) (.cons rfl (.cons rfl (.cons rfl (.cons rfl (.cons rfl (.cons rfl (.cons rfl (.cons rfl (.cons rfl (.cons (by rw [hpn];rfl) .nil)))))))))) rfl
   obtain rfl:i=pk.l.length:=by have h7:¬i<pk.l.length:=h54;omega
   obtain⟨psk,hpske⟩:∃psk:Az,psk=sk:=Be
   have htk:(m.s.A6.1).take pk.l.length=m.s.A6.1:=by rw [List.take_of_length_le (by rw [←hpk.map,B!];exact D? _)]
   rw [htk]at hsk⊢
   have hpsk:psk.ok (m.s.A6.1.map AW):=by rw [hpske];exact hsk
   rw [←hpske];refine J4 ?_
   have hdo:m.s.B2 q=((⟨0,-1,0,0,⟨#[]⟩,m.s.A6.1.map AW⟩:Dw),m2.s):=by
    unfold AG.B2;rw [if_neg k1,if_neg k2,if_neg k3,if_neg k4,if_pos k5];rw [hms]
   exact Bf (AB b17 o17 q.data.data.toList s17*(HP.BC*(Az.h psk (m.s.A6.1.map AW:List ByteArray)*(AY cb m2*R)))) (hE:=⟨fun ww hw=>Sat.right (A:=HP.AA b3 0 (De q)*(pk.a.h pk.l*AO Gj (pk.l.drop pk.l.length))) (E? (by congr 1;rw [HP.BH];ac_rfl) hw)⟩) (A8 (m2,HP.BC,Dh 0,(⟨0,-1,0,0,⟨#[]⟩,m.s.A6.1.map AW⟩:Dw),psk) ⟨hmo,hdo,.of hG 0,hpsk⟩ Ge rfl)
  refine J2 ?_;refine JL (CT (i:=q.kind) (j:=6) rfl rfl) ?_;refine J3 ?_;refine mC (fun k6=>?_) (fun k6=>?_)
  ·refine J3 ?_;refine mE rfl (oT cb t m q.data.data.toList p17 b17 o17 c17 _ hm hi Ca hs17 inferInstance hxl) ?_;rintro ev _ ⟨m2,hmo,hms,her⟩;obtain⟨EH,rfl,heT⟩:=her.t hG;refine J2 ?_
   have hdo:m.s.B2 q=((⟨(m.s.A9 q.data.data.toList).1.1,(m.s.A9 q.data.data.toList).1.2,0,0,⟨#[]⟩,[]⟩:Dw),m2.s):=by
    unfold AG.B2;rw [if_neg k1,if_neg k2,if_neg k3,if_neg k4,if_neg k5,if_pos k6];rw [hms]
   exact Bf (AB b17 o17 q.data.data.toList s17*(EH*(Az.h BP ([]:List ByteArray)*(AY cb m2*R)))) (hE:=⟨fun ww hw=>Sat.right (A:=HP.AA b3 0 (De q)) (E? (by congr 1;rw [GX,HP.BH];ac_rfl) hw)⟩) (A8 (m2,EH,ev,(⟨(m.s.A9 q.data.data.toList).1.1,(m.s.A9 q.data.data.toList).1.2,0,0,⟨#[]⟩,[]⟩:Dw),BP) ⟨hmo,hdo,heT,Dn⟩ Ge rfl)
  refine J2 ?_;refine JL (CT (i:=q.kind) (j:=7) rfl rfl) ?_;refine J3 ?_;refine mC (fun k7=>?_) (fun k7=>?_)
  ·refine DH ?_;refine mE rfl (oR cb t m q.stream q.AL _ hm hi Ca hmo2) ?_;rintro _ _ ⟨m2,hmo,sv,hms,rfl,hsv⟩;obtain⟨p78,b78,o78,c78,s78,rfl,hs78,hc78,rfl⟩:=fU hsv;have hrl:=sV hi q.stream q.AL;refine Gc ?_;refine JL (Lp rfl hs78 inferInstance) ?_;refine J5 ?_;refine mE rfl (Mu p78 b78 o78 c78 _ (m.s.read q.stream q.AL).1.1 _ _ hs78 rfl Ca) ?_;rintro _ _ ⟨ys86,hys86,rfl⟩;refine J1 ?_
   have hdo:m.s.B2 q=((⟨(m.s.read q.stream q.AL).1.2.2.2,-1,(m.s.read q.stream q.AL).1.2.1,(m.s.read q.stream q.AL).1.2.2.1,AW (m.s.read q.stream q.AL).1.1,[]⟩:Dw),m2.s):=by
    unfold AG.B2;rw [if_neg k1,if_neg k2,if_neg k3,if_neg k4,if_neg k5,if_neg k6,if_pos k7];rw [hms]
   exact Bf (AB b17 o17 q.data.data.toList s17*(HP.BC*(Az.h BP ([]:List ByteArray)*(AY cb m2*R)))) (hE:=⟨fun ww hw=>Sat.right (A:=HP.AA b3 0 (De q)*AB b78 o78 ys86 s78) (E? bW hw)⟩) (A8 (m2,HP.BC,Dh (m.s.read q.stream q.AL).1.2.2.2,(⟨(m.s.read q.stream q.AL).1.2.2.2,-1,(m.s.read q.stream q.AL).1.2.1,(m.s.read q.stream q.AL).1.2.2.1,AW (m.s.read q.stream q.AL).1.1,[]⟩:Dw),BP) ⟨hmo,hdo,.of hG _,Dn⟩ Ge rfl)
  refine J2 ?_;refine JL (CT (i:=q.kind) (j:=8) rfl rfl) ?_;refine J3 ?_;refine mC (fun k8=>?_) (fun k8=>?_)
  ·refine J4 ?_;refine mE rfl (rB cb m q.code _ hm) ?_;rintro _ _ ⟨m2,hmo,hms,rfl,rfl⟩;refine J2 ?_
   have hdo:m.s.B2 q=((⟨(m.s.close q.code).1,-1,0,0,⟨#[]⟩,[]⟩:Dw),m2.s):=by
    unfold AG.B2;rw [if_neg k1,if_neg k2,if_neg k3,if_neg k4,if_neg k5,if_neg k6,if_neg k7,if_pos k8];rw [hms]
   exact Bf (AB b17 o17 q.data.data.toList s17*(HP.BC*(Az.h BP ([]:List ByteArray)*(AY cb m2*R)))) (hE:=KN) (A8 (m2,HP.BC,Dh (m.s.close q.code).1,(⟨(m.s.close q.code).1,-1,0,0,⟨#[]⟩,[]⟩:Dw),BP) ⟨hmo,hdo,.of hG _,Dn⟩ Ge rfl)
  refine J2 ?_;refine JL (CT (i:=q.kind) (j:=9) rfl rfl) ?_;refine J3 ?_;refine mC (fun k9=>?_) (fun k9=>?_)
  ·refine J4 ?_;refine mE rfl (iE cb t m q.stream _ hm hi) ?_;refine IE ?_
   have hdo:m.s.B2 q=((⟨(m.s.AE q.stream).2,-1,(m.s.AE q.stream).1,0,⟨#[]⟩,[]⟩:Dw),m.s):=by
    unfold AG.B2;rw [if_neg k1,if_neg k2,if_neg k3,if_neg k4,if_neg k5,if_neg k6,if_neg k7,if_neg k8,if_pos k9]
   exact Bf (AB b17 o17 q.data.data.toList s17*(HP.BC*(Az.h BP ([]:List ByteArray)*(AY cb m*R)))) (hE:=KN) (A8 (m,HP.BC,Dh (m.s.AE q.stream).2,(⟨(m.s.AE q.stream).2,-1,(m.s.AE q.stream).1,0,⟨#[]⟩,[]⟩:Dw),BP) ⟨hm,hdo,.of hG _,Dn⟩ Ge rfl)
  refine J1 ?_
  have hdo:m.s.B2 q=((⟨0,-1,0,0,⟨#[]⟩,[]⟩:Dw),m.s):=by
   unfold AG.B2;rw [if_neg k1,if_neg k2,if_neg k3,if_neg k4,if_neg k5,if_neg k6,if_neg k7,if_neg k8,if_neg k9]
  exact Bf (AB b17 o17 q.data.data.toList s17*(HP.BC*(Az.h BP ([]:List ByteArray)*(AY cb m*R)))) (hE:=KN) (A8 (m,HP.BC,Dh 0,(⟨0,-1,0,0,⟨#[]⟩,[]⟩:Dw),BP) ⟨hm,hdo,.of hG 0,Dn⟩ Ge rfl)
 ·rintro⟨m2,EH,ev,res,ps⟩ ⟨hmo,hdo,heT,hps⟩;dsimp only at hmo hdo heT hps⊢;refine J5 ?_;refine mE rfl (Mu p17 b17 o17 c17 _ q.data.data.toList s17 _ hs17 rfl Ca) ?_;rintro _ _ ⟨ys103,hys103,rfl⟩;refine J5 ?_;refine BF (H':=EH*(AB b17 o17 ys103 s17*(ps.h res.A6*(AY cb m2*R)))) Cf ?_;refine mE rfl (heT.told _) ?_;refine JR ?_;refine qN ?_;exact mR [4,5,6,7,8,9] (ps.h res.A6*(AY cb m2*R)) rfl rfl ⟨m2,ps,hmo,by rw [hdo],by rw [hdo];exact hps,by rw [hdo];rfl,by rw [hdo]⟩
end
section
section
variable{P:Program}{B:World}{n:Nat}{E:Ay}{D:Br}{H:HP}{d:Option Tmp}{T T' ty:TypeId}{pos:String}{af:Array Edge}{g:Option (Nat×Bool)}{x y z u:Operand}
theorem Ta{s t:List UInt8}(hx:ev E x=some (.string (AW s)))(hy:ev E y=some (.string (AW t)))(h:s.length+t.length<9223372036854775808):
  Aa P B n ⟨d,.binOp .add T x y T',ty,pos,af,g⟩ E H (.string (AW (s++t))):=by
 intro a w he _
 have h2:¬((((AW s).size+(AW t).size:Nat):Int)> IntKind.i64.max):=by rw [Em,Em];have:IntKind.i64.max=9223372036854775807:=rfl;omega
 have h3:(binOp .add T (.string (AW s)) (.string (AW t))).run P w=.ok (.string (AW (s++t))) w:=by
  simp only [binOp_string_add,Op.stringOp,if_neg h2,Sem.run_pure];rw [show AW s++AW t=AW (s++t) by unfold AW;apply ByteArray.ext;rw [ByteArray.data_append];simp]
 have h1:(eqGuard .add T x y (.string (AW s)) (.string (AW t))).run P w=.ok () w:=rfl;simp only [execOp,he.ev hx,he.ev hy,Sem.run_bind,h1,Result.andThen_ok,h3,Sem.run_pure]
theorem Qx{s:ByteArray}{i:Nat}{ik:IntKind}[hT:Ar P T .string](hx:ev E x=some (.string s))(hy:ev E y=some (.int ik i))(hi:i<s.size):
  Aa P B n ⟨d,.index T x y,ty,pos,af,g⟩ E H (u8 (s.data.toList.getD i 0)):=by
 intro a w he _
 have h0:(0:Int)≤(i:Nat):=by omega
 have h1:s[i]?=some s[i]:=by simp [hi]
 simp only [execOp,he.ev hx,he.ev hy,Instr.index,asIntOf,Sem.run_bind,Sem.run_pure,Result.andThen_ok,Bh hT.get,h0,if_true,Int.toNat_natCast,h1]
 have h2:s.data.toList.getD i 0=s[i]:=by
  rw [A?,Array.getElem?_toList]
  have:s.data[i]?=some s[i]:=by
   have h3:i<s.data.size:=hi;rw [Array.getElem?_eq_getElem h3];rfl
  rw [this];rfl
 rw [h2]
end
theorem P9(b:List UInt8)(l h:Nat)(hh:h≤b.length):(AW b).extract l h=AW ((b.take h).drop l):=by
 unfold AW;apply ByteArray.ext;rw [ByteArray.data_extract];apply Array.ext';simp only [Array.toList_extract,List.extract_eq_take_drop];rw [List.drop_take]
structure Dp where
 q:Nat
 o:Ds
@[reducible] instance layEnd:AC Dp:=⟨1,fun m=>[ptr m.q 0],⟨0,Df⟩,fun _=>rfl,fun _ v h=>by simp at h;rcases h with rfl;rfl⟩
@[reducible] def Mw(o:Ds):List Value:=[.string (AW o.wrote),.bool o.finished,.bool o.given,uN o.code,iN o.read,iN o.state,iN o.AE]
def BN(q:Nat)(o:Ds):HP:=HP.AA q 0 (Mw o)
section
variable(q:Nat)(o:Ds)
instance:Cell (BN q o) q (0+0) (.string (AW o.wrote)) True:=by unfold BN;infer_instance
instance:Cell (BN q o) q (0+1) (.bool o.finished) True:=by unfold BN;infer_instance
instance:Cell (BN q o) q (0+2) (.bool o.given) True:=by unfold BN;infer_instance
instance:Cell (BN q o) q (0+3) (uN o.code) True:=by unfold BN;infer_instance
instance:Cell (BN q o) q (0+4) (iN o.read) True:=by unfold BN;infer_instance
instance:Cell (BN q o) q (0+5) (iN o.state) True:=by unfold BN;infer_instance
instance:Cell (BN q o) q (0+6) (iN o.AE) True:=by unfold BN;infer_instance
instance(v:List UInt8):CH (BN q o) q (0+0) (.string (AW v)) (BN q {o with wrote:=v}) True:=by unfold BN;infer_instance
instance(v:Bool):CH (BN q o) q (0+1) (.bool v) (BN q {o with finished:=v}) True:=by unfold BN;infer_instance
instance(v:Bool):CH (BN q o) q (0+2) (.bool v) (BN q {o with given:=v}) True:=by unfold BN;infer_instance
instance(v:Nat):CH (BN q o) q (0+3) (uN v) (BN q {o with code:=v}) True:=by unfold BN;infer_instance
instance(v:Nat):CH (BN q o) q (0+4) (iN v) (BN q {o with read:=v}) True:=by unfold BN;infer_instance
instance(v:Nat):CH (BN q o) q (0+5) (iN v) (BN q {o with state:=v}) True:=by unfold BN;infer_instance
instance(v:Nat):CH (BN q o) q (0+6) (iN v) (BN q {o with AE:=v}) True:=by unfold BN;infer_instance
end
def Fo(m:Dp):HP:=BN m.q m.o
structure DS where
 a:Az
 es:List Dp
@[reducible] instance layRow:AC DS:=⟨1,fun r=>[.slice r.a.p r.es.length r.a.c],⟨⟨none,0,0,0,[]⟩,[]⟩,fun _=>rfl,fun _ v h=>by simp at h;rcases h with rfl;rfl⟩
def CN(r:DS):HP:=AB r.a.b r.a.o r.es r.a.s*AO Fo r.es
structure CM where
 cb:Nat
 c:Ac
@[reducible] instance layCM:AC CM:=⟨1,fun m=>[ptr m.cb 0],⟨0,⟨⟨0,0,[],false,0,0,0,false,0,0,false,.nilIface,.nilIface,0,0⟩,.of 8,CZ,[],[],[],[],⟨none,0,0,0,[]⟩,⟨none,0,0,0,[]⟩⟩⟩,fun _=>rfl,fun _ v h=>by simp at h;rcases h with rfl;rfl⟩
def CL(m:CM):HP:=AY m.cb m.c
structure EG where
 to:Nat
 b:ByteArray
@[reducible] def GI(f:EG):List Value:=[iN f.to,.string f.b]
@[reducible] instance layFlt:AC EG:=⟨2,GI,⟨0,⟨#[]⟩⟩,fun _=>rfl,fun _ v h=>by simp at h;rcases h with rfl|rfl<;>rfl⟩
structure NC where
 xv:Value
 ev:Value
 AI:Nat
 AF:Nat
 ks:List UInt8
 bv:Value
 cv:Value
def A0(nb:Nat)(x:NC):HP:=
 HP.AA nb (0+0) [x.xv]*(HP.AA nb (0+1) [x.ev]*(HP.AA nb (0+2) [iN x.AI,iN x.AF]*(HP.AA nb (0+4) (AD x.ks)*(HP.AA nb (0+20) [x.bv]*HP.AA nb (0+21) [x.cv]))))
section
variable(nb:Nat)(x:NC)
instance:Cell (A0 nb x) nb (0+0) x.xv True:=by unfold A0;infer_instance
instance:Cell (A0 nb x) nb (0+1) x.ev True:=by unfold A0;infer_instance
instance:Cell (A0 nb x) nb (0+2+0) (iN x.AI) True:=by unfold A0;infer_instance
instance:Cell (A0 nb x) nb (0+2+1) (iN x.AF) True:=by unfold A0;infer_instance
instance:Cell (A0 nb x) nb (0+20) x.bv True:=by unfold A0;infer_instance
instance:Cell (A0 nb x) nb (0+21) x.cv True:=by unfold A0;infer_instance
instance(v:Value):CH (A0 nb x) nb (0+0) v (A0 nb {x with xv:=v}) True:=by unfold A0;infer_instance
instance(v:Value):CH (A0 nb x) nb (0+1) v (A0 nb {x with ev:=v}) True:=by unfold A0;infer_instance
instance(v:Value):CH (A0 nb x) nb (0+20) v (A0 nb {x with bv:=v}) True:=by unfold A0;infer_instance
instance(v:Value):CH (A0 nb x) nb (0+21) v (A0 nb {x with cv:=v}) True:=by unfold A0;infer_instance
end
instance rowNC(nb:Nat)(x:NC):HR (A0 nb x) nb (0+4) (AD x.ks) (HP.AA nb (0+0) [x.xv]*(HP.AA nb (0+1) [x.ev]*(HP.AA nb (0+2) [iN x.AI,iN x.AF]*(HP.AA nb (0+20) [x.bv]*HP.AA nb (0+21) [x.cv])))):=⟨by unfold A0;ac_rfl⟩
structure NM where
 x:NC
 cs:List CM
 rows:List DS
 AN:List EG
 cnt:List ED
 xa:Az
 ea:Az
 ba:Az
 ca:Az
def NM.n(w:NM):AM:=⟨w.cs.map (·.c.s),w.rows.map (fun r=>r.es.map (·.o)),w.x.AI,w.x.AF,w.x.ks,w.AN.map (fun f=>(f.to,f.b)),w.cnt.map (·.n)⟩
structure NM.ok(w:NM):Prop where
 xa:w.xa.ok w.cs
 ea:w.ea.ok w.rows
 ra:∀r∈w.rows,r.a.ok r.es
 ba:w.ba.ok w.AN
 ca:w.ca.ok w.cnt
 xv:w.x.xv=w.xa.v w.cs.length
 ev:w.x.ev=w.ea.v w.rows.length
 bv:w.x.bv=w.ba.v w.AN.length
 cv:w.x.cv=w.ca.v w.cnt.length
 FP:∀c∈w.cs,c.c.ok
 ks:w.x.ks.length=16
def Aw(nb:Nat)(w:NM):HP:=
 A0 nb w.x*(AB w.xa.b w.xa.o w.cs w.xa.s*(AB w.ea.b w.ea.o w.rows w.ea.s*(AB w.ba.b w.ba.o w.AN w.ba.s*(AB w.ca.b w.ca.o w.cnt w.ca.s*(AO CL w.cs*AO CN w.rows)))))
theorem TF{α:Type}(f:α→HP){l:List α}{k:Nat}{x:α}(h:l[k]?=some x):AO f l=f x*IT f l k:=by
 have hk:k<l.length:=(A!.1 h).1;rw [OE f l k x hk,A?,h];rfl
theorem getD_some{α:Type}{l:List α}{i:Nat}{d x:α}(h:l[i]?=some x):l.getD i d=x:=by rw [A?,h];rfl
theorem UK{α:Type}[AC α](b o:Nat){xs:List α}(s:List Value){k:Nat}{x y:α}(h:xs[k]?=some x)(e:AC.Al y=AC.Al x):AB b o (xs.set k y) s=AB b o xs s:=by
 have hk:k<xs.length:=(A!.1 h).1;rw [Lw b o xs s k y hk,M1 b o xs s k x hk,getD_some h,e]
def DW(w:NM)(i j k:Nat)(r:DS):HP:=IT CL w.cs i*(IT CN w.rows j*IT Fo r.es k)
theorem GM(nb:Nat)(w:NM)(R:HP){i j k:Nat}{C:CM}{r:DS}{E:Dp}(hc:w.cs[i]?=some C)(hr:w.rows[j]?=some r)(he:r.es[k]?=some E):
  Aw nb w*R=A0 nb w.x*(AB w.xa.b w.xa.o w.cs w.xa.s*(AB w.ea.b w.ea.o w.rows w.ea.s*(AB w.ba.b w.ba.o w.AN w.ba.s*(AB w.ca.b w.ca.o w.cnt w.ca.s*(AY C.cb C.c*(AB r.a.b r.a.o r.es r.a.s*(BN E.q E.o*(DW w i j k r*R)))))))):=by
 unfold Aw DW;rw [TF CL hc,TF CN hr];show _=_;unfold CN;rw [TF Fo he];unfold CL Fo;ac_rfl
def NM.put(w:NM)(i j k:Nat)(C:CM)(r:DS)(E:Dp):NM:={w with cs:=w.cs.set i C,rows:=w.rows.set j {r with es:=r.es.set k E}}
theorem Kd(nb:Nat)(w:NM)(R:HP){i j k:Nat}{C:CM}{r:DS}{E:Dp}(hc:w.cs[i]?=some C)(hr:w.rows[j]?=some r)(he:r.es[k]?=some E)(c:Ac)(o:Ds):
  Aw nb (w.put i j k ⟨C.cb,c⟩ r ⟨E.q,o⟩)*R=A0 nb w.x*(AB w.xa.b w.xa.o w.cs w.xa.s*(AB w.ea.b w.ea.o w.rows w.ea.s*(AB w.ba.b w.ba.o w.AN w.ba.s*(AB w.ca.b w.ca.o w.cnt w.ca.s*(AY C.cb c*(AB r.a.b r.a.o r.es r.a.s*(BN E.q o*(DW w i j k r*R)))))))):=by
 have h1:i<w.cs.length:=(A!.1 hc).1;have h2:j<w.rows.length:=(A!.1 hr).1;have h3:k<r.es.length:=(A!.1 he).1;unfold Aw DW NM.put;show A0 nb w.x*(AB w.xa.b w.xa.o (w.cs.set i ⟨C.cb,c⟩) w.xa.s*(AB w.ea.b w.ea.o (w.rows.set j {r with es:=r.es.set k ⟨E.q,o⟩}) w.ea.s*(AB w.ba.b w.ba.o w.AN w.ba.s*(AB w.ca.b w.ca.o w.cnt w.ca.s*(AO CL (w.cs.set i ⟨C.cb,c⟩)*AO CN (w.rows.set j {r with es:=r.es.set k ⟨E.q,o⟩}))))))*R=_;rw [UK w.xa.b w.xa.o w.xa.s hc (y:=⟨C.cb,c⟩) rfl,UK w.ea.b w.ea.o w.ea.s hr (y:={r with es:=r.es.set k ⟨E.q,o⟩}) (by show [Value.slice r.a.p (r.es.set k _).length r.a.c]=_;rw [E!];rfl),LQ CL w.cs i _ h1,LQ CN w.rows j _ h2];unfold CN;show _*(_*(_*(_*(_*(_*_*(AB r.a.b r.a.o (r.es.set k ⟨E.q,o⟩) r.a.s*AO Fo (r.es.set k ⟨E.q,o⟩)*_))))))*R=_;rw [UK r.a.b r.a.o r.a.s he (y:=⟨E.q,o⟩) rfl,LQ Fo r.es k _ h3];unfold CL Fo;ac_rfl
theorem NM.ok.put{w:NM}(hw:w.ok){i j k:Nat}{C:CM}{r:DS}{E:Dp}(hc:w.cs[i]?=some C)(hr:w.rows[j]?=some r)(he:r.es[k]?=some E){c:Ac}(hk:c.ok)(o:Ds):(w.put i j k ⟨C.cb,c⟩ r ⟨E.q,o⟩).ok:=by
 have l1:(w.cs.set i ⟨C.cb,c⟩).length=w.cs.length:=E!;have l2:(w.rows.set j {r with es:=r.es.set k ⟨E.q,o⟩}).length=w.rows.length:=E!;have l3:(r.es.set k ⟨E.q,o⟩).length=r.es.length:=E!;refine⟨?_,?_,fun q hq=>?_,hw.ba,hw.ca,?_,?_,hw.bv,hw.cv,fun q hq=>?_,hw.ks⟩
 ·have:=hw.xa;unfold Az.ok at this⊢;show Sl w.xa.p w.xa.b w.xa.o (w.cs.set i ⟨C.cb,c⟩).length w.xa.c∧(w.cs.set i ⟨C.cb,c⟩).length*_+_=_;rw [l1];exact this
 ·have:=hw.ea;unfold Az.ok at this⊢;show Sl w.ea.p w.ea.b w.ea.o (w.rows.set j {r with es:=r.es.set k ⟨E.q,o⟩}).length w.ea.c∧(w.rows.set j {r with es:=r.es.set k ⟨E.q,o⟩}).length*_+_=_;rw [l2];exact this
 ·refine KC (P:=fun q:DS=>q.a.ok q.es) hw.ra ?_ hq
  have:=hw.ra r QD
  unfold Az.ok at this⊢;show Sl r.a.p r.a.b r.a.o (r.es.set k ⟨E.q,o⟩).length r.a.c∧(r.es.set k ⟨E.q,o⟩).length*_+_=_;rw [l3];exact this
 ·show w.x.xv=w.xa.v (w.cs.set i ⟨C.cb,c⟩).length;rw [l1];exact hw.xv
 ·show w.x.ev=w.ea.v (w.rows.set j {r with es:=r.es.set k ⟨E.q,o⟩}).length;rw [l2];exact hw.ev
 ·exact KC (P:=fun q:CM=>q.c.ok) hw.FP hk hq
theorem Qc{α β:Type}(f:α→β)(l:List α)(i:Nat)(y:α):(l.set i y).map f=(l.map f).set i (f y):=H!
theorem NM.G3(w:NM){i j k:Nat}{C:CM}{r:DS}{E:Dp}(hc:w.cs[i]?=some C)(hr:w.rows[j]?=some r)(c:Ac)(o:Ds):(w.put i j k ⟨C.cb,c⟩ r ⟨E.q,o⟩).n=(w.n.A3 i c.s).DJ j k o:=by
 have e:w.n.ends.getD j []=r.es.map (·.o):=getD_some (by show(w.rows.map _)[j]?=_;rw [B?,hr];rfl);unfold NM.put NM.n AM.A3 AM.DJ;show AM.mk ((w.cs.set i ⟨C.cb,c⟩).map _) ((w.rows.set j {r with es:=r.es.set k ⟨E.q,o⟩}).map _) _ _ _ _ _=AM.mk _ (w.n.ends.set j ((w.n.ends.getD j []).set k o)) _ _ _ _ _;rw [Qc,Qc,e,←Qc (fun m:Dp=>m.o) r.es k ⟨E.q,o⟩];rfl
theorem NM.E5{w:NM}{i:Nat}{C:CM}(hc:w.cs[i]?=some C):w.n.x i=C.c.s:=getD_some (by show(w.cs.map _)[i]?=_;rw [B?,hc];rfl)
theorem NM.Ih{w:NM}{j k:Nat}{r:DS}{E:Dp}(hr:w.rows[j]?=some r)(he:r.es[k]?=some E):w.n.e j k=E.o:=by
 have e:w.n.ends.getD j []=r.es.map (·.o):=getD_some (by show(w.rows.map _)[j]?=_;rw [B?,hr];rfl);unfold AM.e;rw [e];exact getD_some (by rw [B?,he];rfl)
theorem Hp{α:Type}{l:List α}{i n:Nat}(h:l.length=n)(hi:i<n):∃x,l[i]?=some x:=⟨l[i]'Ca,C_ Ca⟩
theorem Ak.mem{t:Nat}{w:NM}{L:Nat→List (List AT)}{R:Nat→Nat→Prop}{T:Nat→Nat→List UInt8}(h:Ak t w.n L R T){i j k:Nat}(hi:i<2)(hj:j<2)(hk:k<4):
  ∃C r E,w.cs[i]?=some C∧w.rows[j]?=some r∧r.es[k]?=some E∧w.cs.length=2∧w.rows.length=2∧r.es.length=4:=by
 have l1:w.cs.length=2:=by have:=h.xl;unfold NM.n at this;simpa using this
 have l2:w.rows.length=2:=by have:=h.el;unfold NM.n at this;simpa using this
 obtain⟨C,hC⟩:=Hp l1 hi;obtain⟨r,hr⟩:=Hp l2 hj;have e:w.n.ends.getD j []=r.es.map (·.o):=getD_some (by show(w.rows.map _)[j]?=_;rw [B?,hr];rfl)
 have l3:r.es.length=4:=by have:=h.D7 j hj;rw [e]at this;simpa using this
 obtain⟨E,hE⟩:=Hp l3 hk;exact⟨C,r,E,hC,hr,hE,l1,l2,l3⟩
theorem Tt{w:NM}{i:Nat}{C:CM}(hc:w.cs[i]?=some C):w.n.A3 i C.c.s=w.n:=by
 have hk:i<w.n.xs.length:=by show i<(w.cs.map _).length;rw [B!];exact(A!.1 hc).1
 have:=NM.E5 hc
 unfold AM.A3;rw [←this];unfold AM.x;rw [Mt w.n.xs i TP hk]
theorem Jq{w:NM}{j k:Nat}{r:DS}{E:Dp}(hr:w.rows[j]?=some r)(he:r.es[k]?=some E)(xs:List AG):({w.n with xs:=xs}:AM).DJ j k E.o={w.n with xs:=xs}:=by
 have hj:j<w.n.ends.length:=by show j<(w.rows.map _).length;rw [B!];exact(A!.1 hr).1
 have e:w.n.ends.getD j []=r.es.map (·.o):=getD_some (by show(w.rows.map _)[j]?=_;rw [B?,hr];rfl)
 have hk:k<(r.es.map (·.o)).length:=by rw [B!];exact(A!.1 he).1
 have e2:(r.es.map (·.o)).getD k Df=E.o:=getD_some (by rw [B?,he];rfl);unfold AM.DJ;show({w.n with xs:=xs,ends:=w.n.ends.set j ((w.n.ends.getD j []).set k E.o)}:AM)=_;rw [e,←e2,Mt _ k Df hk,←e,Mt _ j [] hj]
theorem We(xs:List ED):AD xs=xs.map (fun x=>uN x.n):=by
 induction xs with
 |nil=>rfl
 |cons x xs ih=>show [uN x.n]++AD xs=_;rw [ih];rfl
instance updW64(b o i:Nat)(xs:List ED)(s:List Value)(v:Nat):CH (AB b o xs s) b (o+i*1) (uN v) (AB b o (xs.set i ⟨v⟩) s) (i<xs.length):=
 ⟨fun r hr hi=>by
  have hfl:(AD xs).length=xs.length:=by rw [Bl];show xs.length*1=_;omega
  have h:LE (AD xs++s) i (uN v) ((AD xs++s).set i (uN v)):=⟨PE,rfl⟩
  have h2:=(inferInstance:CH (HP.AA b o (AD xs++s)) b (o+i) (uN v) (HP.AA b o ((AD xs++s).set i (uN v))) True).upd r hr trivial
  rw [Nat.mul_one]
  refine⟨h2.1,?_⟩
  have e:AD (xs.set i ⟨v⟩)++s=(AD xs++s).set i (uN v):=by rw [List.set_append_left _ _ Ca];congr 1;rw [We,We,H!]
  unfold AB
  rw [e]
  exact h2.2⟩
theorem FW(nb:Nat)(w:NM)(R:HP):Aw nb w*R=A0 nb w.x*(AB w.xa.b w.xa.o w.cs w.xa.s*(AB w.ea.b w.ea.o w.rows w.ea.s*(AB w.ba.b w.ba.o w.AN w.ba.s*(AB w.ca.b w.ca.o w.cnt w.ca.s*(AO CL w.cs*(AO CN w.rows*R)))))):=by
 unfold Aw;ac_rfl
def NM.send(w:NM)(i c:Nat)(f:EG)(a:Az):NM:={w with x:={w.x with bv:=a.v (w.AN++[f]).length},cnt:=w.cnt.set i ⟨c⟩,AN:=w.AN++[f],ba:=a}
theorem tG(nb:Nat)(w:NM)(i c:Nat)(f:EG)(a:Az)(R:HP):Aw nb (w.send i c f a)*R=A0 nb {w.x with bv:=a.v (w.AN++[f]).length}*(AB w.xa.b w.xa.o w.cs w.xa.s*(AB w.ea.b w.ea.o w.rows w.ea.s*(AB a.b a.o (w.AN++[f]) a.s*(AB w.ca.b w.ca.o (w.cnt.set i ⟨c⟩) w.ca.s*(AO CL w.cs*(AO CN w.rows*R)))))):=FW nb (w.send i c f a) R
theorem NM.ok.send{w:NM}(hw:w.ok)(i c:Nat){f:EG}{a:Az}(ha:a.ok (w.AN++[f])):(w.send i c f a).ok:=by
 have l1:(w.cnt.set i ⟨c⟩).length=w.cnt.length:=E!;refine⟨hw.xa,hw.ea,hw.ra,ha,?_,hw.xv,hw.ev,rfl,?_,hw.FP,hw.ks⟩
 ·have:=hw.ca;unfold Az.ok at this⊢;show Sl w.ca.p w.ca.b w.ca.o (w.cnt.set i ⟨c⟩).length w.ca.c∧(w.cnt.set i ⟨c⟩).length*_+_=_;rw [l1];exact this
 ·show w.x.cv=w.ca.v (w.cnt.set i ⟨c⟩).length;rw [l1];exact hw.cv
theorem NM.lA(w:NM)(i c:Nat)(f:EG)(a:Az):(w.send i c f a).n={w.n with count:=w.n.count.set i c,AN:=w.n.AN++[(f.to,f.b)]}:=by
 unfold NM.send NM.n;dsimp only;rw [Qc,D_];rfl
theorem Oc(xs:List UInt8):(AW xs).data.toList=xs:=List.toList_toArray
theorem Vt(ks:List UInt8)(side:UInt8):∀(Ls:List (List AT)) (m j:Nat) (fs:List AT),Ls[j]?=some fs→(outs ks side m Ls)[j]?=some (Bv ks side (C! (m+j)) (Av fs))
 |[],m,j,fs,h=>by cases h
 |g::Ls,m,0,fs,h=>by
  have h:some g=some fs:=h;cases h;rfl
 |g::Ls,m,j+1,fs,h=>by
  show(outs ks side (m+1) Ls)[j]?=_;rw [Vt ks side Ls (m+1) j fs h,show m+1+j=m+(j+1) by omega]
def IN(w w':NM):Prop:=∀(j k:Nat) (r:DS) (E:Dp),w.rows[j]?=some r→r.es[k]?=some E→∃r' E',w'.rows[j]?=some r'∧r'.es[k]?=some E'∧E'.q=E.q
theorem IN.refl(w:NM):IN w w:=fun _ _ r E h g=>⟨r,E,h,g,rfl⟩
theorem IN.trans{a b c:NM}(h:IN a b)(g:IN b c):IN a c:=fun j k r E h1 h2=>by
 obtain⟨r1,E1,a1,a2,a3⟩:=h j k r E h1 h2;obtain⟨r2,E2,b1,b2,b3⟩:=g j k r1 E1 a1 a2;exact⟨r2,E2,b1,b2,b3.trans a3⟩
theorem IN.put(w:NM){i j k:Nat}{r:DS}{E:Dp}(hr:w.rows[j]?=some r)(hE:r.es[k]?=some E)(C:CM)(o:Ds):IN w (w.put i j k C r ⟨E.q,o⟩):=fun j' k' r' E' h1 h2=>by
 have l1:j<w.rows.length:=(A!.1 hr).1;have l2:k<r.es.length:=(A!.1 hE).1;show ∃r'' E'',(w.rows.set j {r with es:=r.es.set k ⟨E.q,o⟩})[j']?=some r''∧_;by_cases e:j=j'
 ·subst e;rw [hr]at h1;cases h1;rw [I! l1];by_cases e2:k=k'
  ·subst e2;rw [hE]at h2;cases h2;exact⟨_,⟨E.q,o⟩,rfl,I! l2,rfl⟩
  ·exact⟨_,E',rfl,(K? e2).trans h2,rfl⟩
 ·rw [K? e];exact⟨r',E',h1,h2,rfl⟩
theorem wW(c:AG)(k:Int)(s:ByteArray):c.B2 ⟨1,k,0,0,s⟩=(⟨(c.write k s.data.toList).1.2,-1,(c.write k s.data.toList).1.1,0,⟨#[]⟩,[]⟩,(c.write k s.data.toList).2):=rfl
theorem dO(c:AG)(k:Int):c.B2 ⟨2,k,0,0,⟨#[]⟩⟩=(⟨(c.finish k).1,-1,0,0,⟨#[]⟩,[]⟩,(c.finish k).2):=rfl
theorem dN(c:AG)(k:Int)(x:Nat):c.B2 ⟨3,k,0,x,⟨#[]⟩⟩=(⟨(c.giveUp k x).1,-1,0,0,⟨#[]⟩,[]⟩,(c.giveUp k x).2):=rfl
theorem U7(c:AG):c.B2 ⟨4,0,0,0,⟨#[]⟩⟩=(⟨0,-1,0,0,⟨#[]⟩,[]⟩,c.tick):=rfl
theorem vJ(c:AG):c.B2 ⟨5,0,0,0,⟨#[]⟩⟩=(⟨0,-1,0,0,⟨#[]⟩,c.A6.1.map AW⟩,c.A6.2):=rfl
theorem aX(c:AG)(s:ByteArray):c.B2 ⟨6,0,0,0,s⟩=(⟨(c.A9 s.data.toList).1.1,(c.A9 s.data.toList).1.2,0,0,⟨#[]⟩,[]⟩,(c.A9 s.data.toList).2):=rfl
theorem oA(c:AG)(k AL:Int):c.B2 ⟨7,k,AL,0,⟨#[]⟩⟩=(⟨(c.read k AL).1.2.2.2,-1,(c.read k AL).1.2.1,(c.read k AL).1.2.2.1,AW (c.read k AL).1.1,[]⟩,(c.read k AL).2):=rfl
theorem wJ(c:AG)(k:Int):c.B2 ⟨9,k,0,0,⟨#[]⟩⟩=(⟨(c.AE k).2,-1,(c.AE k).1,0,⟨#[]⟩,[]⟩,c):=rfl
@[reducible] def CQ(a:Dw)(v:Value):List Value:=[iN a.e,.int .i64 a.at_,iN a.n,uN a.code,.string a.data,v]
end
end Go.Proofs.YtgfdlpcdjklcoaaGreatDoor
