/- A part of this proof: steps of the program, plain facts; no condition. -/
import Derived.Test.YtgfdlpcdjklcoaaGreatDoorL10
namespace Go.Proofs.YtgfdlpcdjklcoaaGreatDoor
open Go Go.RowKit
open _root_.List renaming length_append→J!,getElem?_eq_some_iff→J?,getD_eq_getElem?_getD→K_,mem_singleton→K!,length_map→K?,getElem?_map→L_,getElem?_eq_getElem→L!,append_nil→M_,map_append→M!,length_singleton→M?,replicate_succ→N!,length_set→N?,mem_map→O!,replicate→O?,getElem?_append_right→P_,append_assoc→P!,map_cons→P?,length_take→Q_,length_eq_zero_iff→Q!,map_set→Q?,map_nil→R!,getElem?_set_self→R?,nil_append→S!,mem_append→S?,set_append_right→T_,eq_replicate_iff→T!,getElem?_set_ne→U_,replicate_zero→U!,length_drop→U?,length→V!,map_map→V?
open _root_.UInt64 renaming ofNat→L?
open _root_.Nat renaming le_refl→N_,sub_self→R_,min_le_left→S_,zero_le→T?,le_add_right→V_,blt→W_
open _root_.Eq renaming mp→O_
set_option linter.unusedVariables false
set_option linter.unusedSimpArgs false
set_option maxRecDepth 20000
section
variable{B:World}
section
variable(db:Nat)(m:DX)
instance:Cell (BM db m) db (0+0) (.slice m.a.p m.d.b.length m.a.c) True:=by unfold BM;infer_instance
instance:Cell (BM db m) db (0+1) (.slice m.f.p m.rs.length m.f.c) True:=by unfold BM;infer_instance
instance:Cell (BM db m) db (0+2) (iN m.d.room) True:=by unfold BM;infer_instance
instance:Cell (BM db m) db (0+3) (.bool (EC m.d.Aw)) True:=by unfold BM;infer_instance
end
section
variable{P:Program}{n:Nat}{E:A2}{D:Bu}{H R:HP}{ops:Array Oper}{Q:Exit→Act→World→Prop}{fuel last:Nat}{ls:Array Bool}{op:Op}{ty:TypeId}{pos:String}{af:Array Edge}
theorem Rs(i:Nat){t j tj:Nat}{b want:Bool}(hr:Region.ready .any ops ls=[i])(hi:ops[i]?=some ⟨some t,op,ty,pos,af,some (j,want)⟩)(ht:W_ t n=true)
  (hj:(ops[j]?).bind (·.dst)=some tj)(hb:lk E tj=some (.bool b))(hw:b= !want)(hR:last≤i∨Bq B H R)
  (next:WA P B ops Q R last fuel (ls.setIfInBounds i true) n ((t,undef)::E) D H):
  WA P B ops Q R last (fuel+1) ls n E D H:=by
 intro a w h1 h2 h3
 have hy:yielded ops a.tmps j=some b:=by
  have:=h1.2 _ _ hb
  simp [yielded,hj,this]
 have hn:(some b==some want)=false:=by rw [hw];cases want<;>rfl
 refine⟨(fun h0=>by rw [hr]at h0;cases h0),fun k hk=>?_⟩;rw [hr]at hk;obtain rfl:=K!.1 hk;unfold wpOp;rw [hi];have hg:=next _ w (h1.put Sd undef) (by simp [Act.put,h2]) h3;simp only [Region.wanted,hy,hn,Bool.false_eq_true,if_false];exact⟨hR.imp id (fun h=>h.get w h3),hg⟩
theorem pL(i:Nat){t j tj:Nat}{b want:Bool}{v:Value}(hr:Region.ready .any ops ls=[i])(hi:ops[i]?=some ⟨some t,op,ty,pos,af,some (j,want)⟩)(ht:W_ t n=true)
  (hj:(ops[j]?).bind (·.dst)=some tj)(hb:lk E tj=some (.bool b))(hw:b=want)
  (hv:Aa P B n ⟨some t,op,ty,pos,af,some (j,want)⟩ E H v)(hR:last≤i∨Bq B H R)(next:WA P B ops Q R last fuel (ls.setIfInBounds i true) n ((t,v)::E) D H):
  WA P B ops Q R last (fuel+1) ls n E D H:=
 PC i hr hi ht hj hb hw (Post:=fun v' H'=>v'=v∧H'=H) (fun a w h1 _ h3 K Q hk=>by simp only [Oper.wp,hv a w h1 h3,Oper.upon];exact hk _ _ _ BW h3) (by refine JR ?_;exact⟨hR,next⟩)
end
def CQ(f:AU):RF:=⟨f,none,0,0,0,[]⟩
theorem NZ{f:AU}(h1:f.ranges=[])(h2:f.data.size<100000000000):HI (CQ f):=⟨⟨.inl rfl,by show f.ranges.length≤0;rw [h1];exact N_ _⟩,by show f.ranges.length<_;rw [h1];decide,h2⟩
theorem QV{f:AU}(h1:f.ranges=[])(H:HP):Ad B H (CQ f).b (CQ f).o (CQ f).f.ranges:=by
 show Ad B H 0 0 f.ranges;rw [h1];exact⟨fun i f v e hi=>absurd hi (Nat.not_lt_zero i)⟩
def W2(o:Option (AY×BV))(w:AY)(d:BV)(v:Value)(w':AY)(d':BV):Prop:=
 match o with
 |none=>v=.bool false∧w'=w∧d'=d
 |some z=>v=.bool true∧w'=z.1∧d'=z.2
theorem uO(k lo:Nat)(fin:Bool)(ds:List UInt8):ds.length≤(Ah (Bx k lo fin ds)).length:=by
 have h:(AX ds).size=ds.length:=by simp
 have h2:(Ah (Bx k lo fin ds)).length=([if fin then(9:UInt8)else 8]++AV k++AV lo++AV (AX ds).size++(AX ds).data.toList).length:=by
  cases fin<;>rfl
 rw [h2];simp only [J!]
 have:(AX ds).data.toList.length=ds.length:=h
 omega
theorem q6(l:List AW)(hi:Nat):∀lo,lo≤hi→(AR lo hi l).2≤hi:=by
 induction l with
 |nil=>intro lo h;exact N_ _
 |cons r rs ih=>
  intro lo h;unfold AR;split
  ·exact ih lo h
  ·split
   ·exact S_ _ _
   ·by_cases h3:r.hi+1≤hi
    ·exact ih _ h3
    ·rename_i h1 h2
     have:∀(l:List AW) (a:Nat),(AR a hi l).2≤hi:=by
      intro l
      induction l with
      |nil=>intro a;exact N_ _
      |cons r rs ih2=>
       intro a;unfold AR;split
       ·exact ih2 a
       ·split
        ·exact S_ _ _
        ·exact ih2 _
     exact this rs _
theorem oO{f:AU}:(Ah f).length≤64+16*f.ranges.length+f.data.size:=by
 have hd:f.data.data.toList.length=f.data.size:=by rw [Array.length_toList];rfl
 have v1:=CS f.stream.toNat;have v2:=CS f.code;have v3:=CS f.offset;have v4:=CS f.data.size;have v5:=PK f.ranges (f.ranges.length-1);have v6:=CS (rg f.ranges 0).hi;have v7:=CS (f.ranges.length-1);have v8:=CS ((rg f.ranges 0).hi-(rg f.ranges 0).lo);unfold Ah KT
 repeat' split
 all_goals (simp only [J!,List.length_cons,List.length_nil,hd];omega)
set_option maxHeartbeats 4000000 in
theorem yC(cb db j AG:Nat)(ws:List BY)(dm:DX)(R:HP)(hl:ws.length=4)(hj:j<4)(hok:∀w∈ws,w.ok)(hw:C7 AG (ws.getD j AC.AH).w)(hd:dm.ok):
  Fn Tryz.prog B 140 [ptr cb 0,ptr db 0,iN j] (A4 cb ws*(BM db dm*R)) (fun v H'=>∃(wm':BY) (dm':DX),wm'.ok∧dm'.ok∧W2 ((ws.getD j AC.AH).w.fill dm.d j) (ws.getD j AC.AH).w dm.d v wm'.w dm'.d∧H'=A4 cb (ws.set j wm')*(BM db dm'*R)):=by
 refine mI Tryz.func140 ?_
 have hjl:j<ws.length:=by omega
 have hwm:=hok _ Ka;refine Ai (H':=HP.AA cb (0+43+j*10) (Bg (ws.getD j AC.AH))*(Bl (ws.getD j AC.AH)*(B' cb ws j*(BM db dm*R)))) (by rw [JA cb ws j hjl];ac_rfl) ?_;generalize hwx:ws.getD j AC.AH=wm at hw hwm⊢;refine Ai (H':=HP.AA cb (0+43+j*10) (Bg wm)*(AB wm.a.b wm.a.o wm.w.b wm.a.s*(AS wm.sq wm.sa wm.w.Ae*(AS wm.cq wm.ca wm.w.AE*(B' cb ws j*(BM db dm*R)))))) Mm ?_;have hbl:=hw.len;have hwh:=hw.high;have hwc:=hw.code;have hrm:=hd.room;have hdl:=hd.len;refine Bt ?_;refine JL NK ?_;refine DP ?_;refine mc (fun hgv=>?_) (fun hgv=>?_)
 ·refine J2 ?_;refine Dx (HP.AA cb (0+43+j*10) (Bg wm)*(AB wm.a.b wm.a.o wm.w.b wm.a.s*(AS wm.sq wm.sa wm.w.Ae*(AS wm.cq wm.ca wm.w.AE*(B' cb ws j*R))))) 16 19 Dy rfl Cb ?_;refine Lo ?_;refine Lu 27 rfl (fun hg1=>?_) (fun hg1=>?_)
  ·have htl:wm.w.DE=true:=hg1;refine JN 5 rfl hg1 ?_;refine Su ?_;refine JN 11 rfl hg1 ?_;refine JN 12 rfl hg1 ?_;refine JN 13 rfl hg1 ?_;refine JN 14 rfl hg1 ?_;refine JN 15 rfl hg1 ?_;refine WF ?_;refine Rs 16 Cb rfl rfl rfl rfl hg1 ED ?_;refine Rs 17 Cb rfl rfl rfl rfl hg1 ED ?_;refine EV 18 Cb rfl rfl Jp ED ?_;refine FC ?_;refine GZ ?_;refine J8 ?_
   have hfill:wm.w.fill dm.d j=none:=by
    unfold AY.fill;rw [if_pos hgv,if_pos htl]
   exact NV
  have htl:wm.w.DE=false:=hg1;refine JY 5 rfl hg1 Be ?_;refine JY 6 rfl hg1 Be ?_;refine JY 7 rfl hg1 Be ?_;refine JY 8 rfl hg1 CT ?_;refine JY 9 rfl hg1 BO ?_;refine JY 10 rfl hg1 BX ?_;refine JY 11 rfl hg1 Be ?_;refine JY 12 rfl hg1 CT ?_;refine JY 13 rfl hg1 BO ?_;refine JY 14 rfl hg1 BX ?_;refine JY 15 rfl hg1 (Ex (cs:=AM (CQ (IJ j wm.w.code wm.w.high))) rfl rfl rfl (AC.one (CQ (IJ j wm.w.code wm.w.high)))) ?_;refine WF ?_;refine PC 16 Cb rfl rfl rfl rfl hg1 (BJ rfl (Rp db dm (CQ (IJ j wm.w.code wm.w.high)) _ hd (Zh hj hwc Ca) ⟨by show(3:Int)≤4;decide,by show(4:Int)≤5;decide⟩ (NZ rfl N8) (hr:=QV rfl _))) ?_;rintro _ _ ⟨dm2,hd2,hde2,rfl,rfl⟩;refine DW ?_;refine pL 17 Cb rfl rfl rfl rfl hg1 LD ED ?_;refine EV 18 Cb rfl rfl Ia ED ?_;refine FC ?_;refine mc (fun h41=>?_) (fun h41=>?_)
  ·refine J8 ?_
   have hadd:dm.d.add (IJ j wm.w.code wm.w.high)=none:=by simpa [CQ]using h41
   have hde3:dm2.d=dm.d:=by rw [hde2];show(dm.d.add (IJ j wm.w.code wm.w.high)).getD dm.d=_;rw [hadd];rfl
   have hfill:wm.w.fill dm.d j=none:=by
    unfold AY.fill;rw [if_pos hgv,if_neg (by rw [htl];simp),hadd]
   exact mR [6] (A4 cb (ws.set j wm)*(BM db dm2*R)) (hE:=bC) rfl rfl ⟨wm,dm2,hwm,hd2,XP,rfl⟩
  refine oX ?_;obtain⟨d2,hadd⟩:∃d2,dm.d.add (IJ j wm.w.code wm.w.high)=some d2:=Option.isSome_iff_exists.1 (by simpa [CQ]using h41)
  have hde3:dm2.d=d2:=by rw [hde2];show(dm.d.add (IJ j wm.w.code wm.w.high)).getD dm.d=_;rw [hadd];rfl
  have hfill:wm.w.fill dm.d j=some ({wm.w with DE:=true},d2):=by
   unfold AY.fill;rw [if_pos hgv,if_neg (by rw [htl];simp),hadd]
  obtain⟨w2,hw2⟩:∃w2:BY,w2={wm with w:={wm.w with DE:=true}}:=Bh
  have hok2:w2.ok:=by rw [hw2];exact hwm
  exact mR [6] (A4 cb (ws.set j w2)*(BM db dm2*R)) (hE:=⟨fun ww hw=>O_ (by
   congr 1
   rw [Kl cb ws j w2 hjl,hw2]
   unfold Bl
   show _=HP.AA cb (0+43+j*10) [.slice wm.a.p wm.w.b.length wm.a.c,ptr wm.sq 0,ptr wm.cq 0,uN wm.w.high,.bool wm.w.finished,.bool wm.w.ending,.bool wm.w.ended,.bool wm.w.given,uN wm.w.code,.bool true]*(AB wm.a.b wm.a.o wm.w.b wm.a.s*(AS wm.sq wm.sa wm.w.Ae*AS wm.cq wm.ca wm.w.AE)*B' cb ws j)*(BM db dm2*R)
   ac_rfl) hw⟩) rfl rfl ⟨w2,dm2,hok2,hd2,by rw [hfill];exact⟨rfl,Rc,hde3⟩,rfl⟩
 refine J9 ?_;refine JL FD ?_;refine J4 ?_;obtain⟨ga,gb,gc,gd,ge⟩:=IW wm.w.Ae.l 0 wm.w.b.length hw.so.inc Ff;have gle:=q6 wm.w.Ae.l wm.w.b.length 0 Ff;refine J6 ?_;refine mE rfl (Ot wm.sq 0 wm.w.b.length wm.w.b.length wm.sa wm.w.Ae _ hwm.2.1 hw.so Ca (by have h7:=hw.so.len;rw [hw.sm]at h7;omega)) ?_;refine JR ?_;refine DP ?_;refine JL LH ?_;refine J2 ?_;refine CO (α:=Nat×Nat) (fun z=>[(9,uN z.1),(10,uN z.2),(7,ptr cb (0+43+j*10)),(8,uN wm.w.b.length),(0,ptr cb 0),(1,ptr db 0),(2,iN j)]) (fun _=>HP.AA cb (0+43+j*10) (Bg wm)*(AB wm.a.b wm.a.o wm.w.b wm.a.s*(AS wm.sq wm.sa wm.w.Ae*(AS wm.cq wm.ca wm.w.AE*(B' cb ws j*(BM db dm*R)))))) (fun z=>wm.w.fill dm.d j=wm.w.KU dm.d j z.1 z.2∧z.1≤z.2∧z.2≤wm.w.b.length) ?_ ?_
 ·refine mC (fun h62=>?_) (fun h62=>?_)
  ·refine J7 ?_;refine KG ?_;refine J1 ?_;refine DO 68 rfl (fun hg2=>?_) (fun hg2=>?_)
   ·skip
    have h66:wm.w.finished=false:=by simpa using hg2
    refine UU ?_;refine JH hg2 ?_;refine JL Mo ?_;refine J1 ?_;refine Kb ?_;refine LN ?_;refine Ga ?_;refine J2 ?_;refine GZ ?_;refine J9 ?_
    have hfill:wm.w.fill dm.d j=none:=by
     unfold AY.fill;rw [if_neg NW,if_pos h62,if_pos (.inl h66)]
    exact NV
   have h66:wm.w.finished=true:=by simpa using hg2
   refine Pw ?_;refine Pw ?_;refine JL NA ?_;refine J1 ?_;refine DO 74 rfl (fun hg3=>?_) (fun hg3=>?_)
   ·have h72:wm.w.ending=true:=hg3;refine Og ?_;refine Hj ?_;refine JL Oj ?_;refine J2 ?_;refine GZ ?_;refine J9 ?_
    have hfill:wm.w.fill dm.d j=none:=by
     unfold AY.fill;rw [if_neg NW,if_pos h62,if_pos (.inr (.inl h72))]
    exact NV
   have h72:wm.w.ending=false:=hg3;refine OI ?_;refine J1 ?_;refine Fo ?_;refine J1 ?_;refine JL Kc ?_;refine J2 ?_;refine mc (fun h78=>?_) (fun h78=>?_)
   ·refine J9 ?_
    have hfill:wm.w.fill dm.d j=none:=by
     unfold AY.fill;rw [if_neg NW,if_pos h62,if_pos (.inr (.inr h78))]
    exact NV
   refine J8 ?_;exact A8 (wm.w.b.length,wm.w.b.length) ⟨by unfold AY.fill;rw [if_neg NW,if_pos h62,if_neg (by rw [h66,h72,h78];simp)],N_ _,N_ _⟩ Mj rfl
  refine J1 ?_;exact A8 ((AR 0 wm.w.b.length wm.w.Ae.l).1,(AR 0 wm.w.b.length wm.w.Ae.l).2) ⟨by unfold AY.fill;rw [if_neg NW,if_neg h62],by dsimp only;omega,gle⟩ Mj rfl
 ·rintro⟨lo,hi⟩ ⟨hfe,hlh,hhb⟩;dsimp only at hfe hlh hhb⊢;refine Bt ?_;refine JL (PV (k':=(cut wm.w.b lo hi).length) rfl rfl rfl VH (Mf hhb)) ?_;refine JL (MF (xs:=cut wm.w.b lo hi) (b:=wm.a.b) (o:=wm.a.o+lo*1) rfl (by have:=hwm.1.1;exact Ei this hlh vD (Mf hhb)) (Ad.sub (xs:=wm.w.b) inferInstance lo hi hhb)) ?_;refine JL (Ex (cs:=AM (CQ (Bx j lo false (cut wm.w.b lo hi)))) rfl rfl rfl (AC.one (CQ (Bx j lo false (cut wm.w.b lo hi))))) ?_;refine A9 (H':=AB 0 0 ([]:List UInt8) []*(HP.AA cb (0+43+j*10) (Bg wm)*(AB wm.a.b wm.a.o wm.w.b wm.a.s*(AS wm.sq wm.sa wm.w.Ae*(AS wm.cq wm.ca wm.w.AE*(B' cb ws j*(BM db dm*R))))))) MA ?_;have hcl:=Mf (lo:=lo) hhb;refine mE rfl (UH (CQ (Bx j lo false (cut wm.w.b lo hi))) none 0 0 0 [] [] _ (NZ rfl (by rw [MJ];omega)) (QV rfl _) Fx rfl Cc (by show Dd 5;unfold Dd;decide) ⟨Om,by show(5:Int)≤5;decide⟩ (Tq hj Ca)) ?_;rintro _ _ ⟨p93,b93,o93,c93,s93,Q93,rfl,hs93,hc93,rfl,hk93⟩;have hhg:=uO j lo false (cut wm.w.b lo hi)
  have hel:(Ah (Bx j lo false (cut wm.w.b lo hi))).length<100000:=by have:=oO (f:=Bx j lo false (cut wm.w.b lo hi));rw [MJ]at this;have h9:(Bx j lo false (cut wm.w.b lo hi)).ranges.length=0:=rfl;omega
  rw [S!]at*;refine J3 ?_;refine JL HJ ?_;refine JL Ma ?_;refine JL (Ie (i:=(Ah (Bx j lo false (cut wm.w.b lo hi))).length) (j:=hi-lo) rfl rfl Ca) ?_;refine J4 ?_;refine HW (HP.AA cb (0+43+j*10) (Bg wm)*(AB wm.a.b wm.a.o wm.w.b wm.a.s*(AS wm.sq wm.sa wm.w.Ae*(AS wm.cq wm.ca wm.w.AE*(B' cb ws j*(BM db dm*R)))))) ?_;refine mA 13 13 ?_;refine Jm 0 ?_;refine Jn 1 ?_;refine Jf 2 ?_;refine Jd 3 ?_;refine LA ?_;refine JT 8 rfl FT ?_;refine JT 9 rfl MK ?_;refine Jm 10 ?_;refine JT 11 rfl (Ow (i:=((dm.d.room-dm.d.b.length:Nat):Int)) (j:=(((Ah (Bx j lo false (cut wm.w.b lo hi))).length-(hi-lo)):Nat)) rfl rfl Ca) ?_;refine Ja 12 ?_;refine JQ ?_
  refine CO (α:=Unit) (fun _=>[(118,.bool (decide (lo<hi∧((dm.d.room-dm.d.b.length:Nat):Int)-(((Ah (Bx j lo false (cut wm.w.b lo hi))).length-(hi-lo):Nat):Int)<1))),(12,.int .i64 (((dm.d.room-dm.d.b.length:Nat):Int)-(((Ah (Bx j lo false (cut wm.w.b lo hi))).length-(hi-lo):Nat):Int))),(9,uN lo),(10,uN hi),(7,ptr cb (0+43+j*10)),(8,uN wm.w.b.length),(0,ptr cb 0),(1,ptr db 0),(2,iN j)]) (fun _=>HP.AA cb (0+43+j*10) (Bg wm)*(AB wm.a.b wm.a.o wm.w.b wm.a.s*(AS wm.sq wm.sa wm.w.Ae*(AS wm.cq wm.ca wm.w.AE*(B' cb ws j*(BM db dm*R)))))) (fun _=>True) ?_ ?_
  ·refine J3 ?_;refine JL H9 ?_;refine J1 ?_;refine EL 115 rfl (fun hg4=>?_) (fun hg4=>?_)
   ·have h115:lo<hi:=hg4;refine JG T4 ?_;refine J1 ?_;refine JG T4 ?_;refine JL (LJ (i:=((dm.d.room-dm.d.b.length:Nat):Int)-(((Ah (Bx j lo false (cut wm.w.b lo hi))).length-(hi-lo)):Nat)) (j:=1) rfl rfl) ?_;refine JL Ue ?_;refine J1 ?_;exact A8 () trivial (.cons (congrArg (fun bb=>some (Value.bool bb)) (decide_eq_decide.2 ⟨fun h=>⟨h115,h⟩,fun h=>h.2⟩)) MQ) rfl
   have h115:¬lo<hi:=hg4;refine JH F4 ?_;refine JH F4 ?_;refine JL TJ ?_;refine J1 ?_;exact A8 () trivial (.cons (congrArg (fun bb=>some (Value.bool bb)) (decide_eq_false (fun h=>h115 h.1)).symm) MQ) rfl
  ·rintro _ _;refine J1 ?_;refine mC (fun h118=>?_) (fun h118=>?_)
   ·refine J7 ?_
    have hfill:wm.w.fill dm.d j=none:=by
     rw [hfe];unfold AY.KU;dsimp only;rw [if_pos Ca]
    exact NV
   refine J3 ?_
   have hnb:¬(lo<hi∧dm.d.room<dm.d.b.length+((Ah (Bx j lo false (cut wm.w.b lo hi))).length-(hi-lo))+1):=by omega
   have hfe2:wm.w.fill dm.d j=match dm.d.add (CQ (Bx j lo (wm.w.finished&&decide ((min hi (lo+(dm.d.room-dm.d.b.length-((Ah (Bx j lo false (cut wm.w.b lo hi))).length-(hi-lo)))))=wm.w.b.length)) (cut wm.w.b lo (min hi (lo+(dm.d.room-dm.d.b.length-((Ah (Bx j lo false (cut wm.w.b lo hi))).length-(hi-lo)))))))).f with
     |none=>none
     |some d2=>some ({wm.w with Ae:=if lo<(min hi (lo+(dm.d.room-dm.d.b.length-((Ah (Bx j lo false (cut wm.w.b lo hi))).length-(hi-lo)))))then wm.w.Ae.add lo ((min hi (lo+(dm.d.room-dm.d.b.length-((Ah (Bx j lo false (cut wm.w.b lo hi))).length-(hi-lo)))))-1)else wm.w.Ae,ending:=wm.w.ending||(wm.w.finished&&decide ((min hi (lo+(dm.d.room-dm.d.b.length-((Ah (Bx j lo false (cut wm.w.b lo hi))).length-(hi-lo)))))=wm.w.b.length)),high:=max wm.w.high (min hi (lo+(dm.d.room-dm.d.b.length-((Ah (Bx j lo false (cut wm.w.b lo hi))).length-(hi-lo)))))},d2):=by
    rw [hfe];unfold AY.KU;dsimp only;rw [if_neg hnb];rfl
   have hh2:lo≤(min hi (lo+(dm.d.room-dm.d.b.length-((Ah (Bx j lo false (cut wm.w.b lo hi))).length-(hi-lo)))))∧(min hi (lo+(dm.d.room-dm.d.b.length-((Ah (Bx j lo false (cut wm.w.b lo hi))).length-(hi-lo)))))≤hi:=⟨Ca,S_ _ _⟩
   have hcl2:=Mf (lo:=lo) (show(min hi (lo+(dm.d.room-dm.d.b.length-((Ah (Bx j lo false (cut wm.w.b lo hi))).length-(hi-lo)))))≤wm.w.b.length by omega);refine J4 ?_;refine JL (Ay (v':=iN (dm.d.room-dm.d.b.length-((Ah (Bx j lo false (cut wm.w.b lo hi))).length-(hi-lo)))) (bL (i:=((dm.d.room-dm.d.b.length:Nat):Int)-(((Ah (Bx j lo false (cut wm.w.b lo hi))).length-(hi-lo)):Nat)) (j:=0) rfl rfl) (by congr 1;split<;>omega)) ?_;refine JL FD ?_;refine JL Jr ?_;refine JL No ?_;generalize hhi2:(min hi (lo+(dm.d.room-dm.d.b.length-((Ah (Bx j lo false (cut wm.w.b lo hi))).length-(hi-lo)))))=hi2 at*;refine J4 ?_;refine CO (α:=Nat) (fun b13=>[(13,ptr b13 0),(9,uN lo),(10,uN hi2),(7,ptr cb (0+43+j*10)),(8,uN wm.w.b.length),(0,ptr cb 0),(1,ptr db 0),(2,iN j)]) (fun b13=>BM db dm*(HP.AA b13 0 (AM (CQ (Bx j lo (wm.w.finished&&decide (hi2=wm.w.b.length)) (cut wm.w.b lo hi2))))*(HP.AA cb (0+43+j*10) (Bg wm)*(AB wm.a.b wm.a.o wm.w.b wm.a.s*(AS wm.sq wm.sa wm.w.Ae*(AS wm.cq wm.ca wm.w.AE*(B' cb ws j*R))))))) (fun _=>True) ?_ ?_
   ·refine mA 21 22 ?_;refine EX ?_;refine Jm 2 ?_;refine Jn 3 ?_;refine I5 ?_;refine Jm 6 ?_;refine Lu 132 rfl (fun hg5=>?_) (fun hg5=>?_)
    ·have h132:wm.w.finished=true:=hg5;refine JY 7 rfl hg5 Be ?_;refine JY 8 rfl hg5 Be ?_;refine JY 9 rfl hg5 N4 ?_;refine JT 10 rfl (GK hg5 rfl rfl) ?_;refine Vh ?_;rintro _ _ ⟨b13,rfl,rfl⟩;refine A6 ?_;refine DV 21 Cb rfl Kj ?_;refine DB ?_;exact A8 b13 trivial MQ (by rw [show(wm.w.finished&&decide (hi2=wm.w.b.length))=decide (hi2=wm.w.b.length) by rw [h132,Bool.true_and]];ac_rfl)
    have h132:wm.w.finished=false:=hg5;refine JN 7 rfl hg5 ?_;refine JN 8 rfl hg5 ?_;refine JN 9 rfl hg5 ?_;refine JT 10 rfl (Gl hg5 rfl rfl) ?_;refine Vh ?_;rintro _ _ ⟨b13,rfl,rfl⟩;refine A6 ?_;refine DV 21 Cb rfl Kj ?_;refine DB ?_;exact A8 b13 trivial MQ (by rw [show(wm.w.finished&&decide (hi2=wm.w.b.length))=false by rw [h132,Bool.false_and]];ac_rfl)
   ·rintro b13 _;refine J5 ?_;refine JL (Ds (l:=AM (CQ (Bx j lo (wm.w.finished&&decide (hi2=wm.w.b.length)) (cut wm.w.b lo hi2)))) rfl rfl) ?_;refine mE rfl (Rp db dm (CQ (Bx j lo (wm.w.finished&&decide (hi2=wm.w.b.length)) (cut wm.w.b lo hi2))) _ hd (Tq hj Ca) ⟨Om,by show(5:Int)≤5;decide⟩ (NZ rfl (by rw [MJ];omega)) (hr:=QV rfl _)) ?_;rintro _ _ ⟨dm2,hd2,hde2,rfl,rfl⟩;refine I1 ?_;refine mc (fun h149=>?_) (fun h149=>?_)
    ·refine J7 ?_
     have hadd:dm.d.add (CQ (Bx j lo (wm.w.finished&&decide (hi2=wm.w.b.length)) (cut wm.w.b lo hi2))).f=none:=by simpa using h149
     have hde3:dm2.d=dm.d:=by rw [hde2,hadd];rfl
     have hfill:wm.w.fill dm.d j=none:=by
      rw [hfe2,hadd]
     exact mR [6] (A4 cb (ws.set j wm)*(BM db dm2*R)) (hE:=⟨fun ww hw=>Sat.right (A:=HP.AA b13 0 (AM (CQ (Bx j lo (wm.w.finished&&decide (hi2=wm.w.b.length)) (cut wm.w.b lo hi2))))) (O_ Vt hw)⟩) rfl rfl ⟨wm,dm2,hwm,hd2,XP,rfl⟩
    refine J4 ?_;obtain⟨d2,hd2e⟩:∃d2,dm.d.add (CQ (Bx j lo (wm.w.finished&&decide (hi2=wm.w.b.length)) (cut wm.w.b lo hi2))).f=some d2:=Option.isSome_iff_exists.1 (by simpa using h149);rw [hd2e]at hfe2 hde2;dsimp only [Option.getD_some]at hfe2 hde2;refine Ai (H':=AS wm.sq wm.sa wm.w.Ae*(HP.AA cb (0+43+j*10) (Bg wm)*(AB wm.a.b wm.a.o wm.w.b wm.a.s*(AS wm.cq wm.ca wm.w.AE*(B' cb ws j*(BM db dm2*(HP.AA b13 0 (AM (CQ (Bx j lo (wm.w.finished&&decide (hi2=wm.w.b.length)) (cut wm.w.b lo hi2))))*R))))))) Cf ?_;refine J3 ?_;refine LC ?_;refine CO (α:=By) (fun _=>[(13,ptr b13 0),(9,uN lo),(10,uN hi2),(7,ptr cb (0+43+j*10)),(8,uN wm.w.b.length),(0,ptr cb 0),(1,ptr db 0),(2,iN j)]) (fun a=>AS wm.sq a (if lo<hi2 then wm.w.Ae.add lo (hi2-1)else wm.w.Ae)*(HP.AA cb (0+43+j*10) (Bg wm)*(AB wm.a.b wm.a.o wm.w.b wm.a.s*(AS wm.cq wm.ca wm.w.AE*(B' cb ws j*(BM db dm2*(HP.AA b13 0 (AM (CQ (Bx j lo (wm.w.finished&&decide (hi2=wm.w.b.length)) (cut wm.w.b lo hi2))))*R))))))) (fun a=>a.ok (if lo<hi2 then wm.w.Ae.add lo (hi2-1)else wm.w.Ae)) ?_ ?_
    ·refine mC (fun h152=>?_) (fun h152=>?_)
     ·refine J7 ?_;refine JL NI ?_;refine mE rfl (KF wm.sq lo (hi2-1) wm.w.b.length wm.sa wm.w.Ae _ hwm.2.1 hw.so Ca Ca (by rw [hw.sm];decide) (by rw [hw.sm];decide)) ?_;rintro _ _ ⟨a160,hs160,rfl⟩;refine J1 ?_;exact A8 a160 (by rw [if_pos h152];exact hs160) MQ (by rw [if_pos h152])
     refine J1 ?_;exact A8 wm.sa (by rw [if_neg h152];exact hwm.2.1) MQ (by rw [if_neg h152])
    ·rintro sa2 hsa2;refine J9 ?_;refine DO 166 rfl (fun hg6=>?_) (fun hg6=>?_)
     ·have h166:wm.w.ending=true:=hg6;refine JH hg6 ?_;refine JH hg6 ?_;refine JL (GK hg6 rfl rfl) ?_;refine F5z ?_;refine JL Jg ?_;refine Bt ?_
      obtain⟨w2,hw2⟩:∃w2:BY,w2={wm with w:={wm.w with Ae:=(if lo<hi2 then wm.w.Ae.add lo (hi2-1)else wm.w.Ae),ending:=wm.w.ending||(wm.w.finished&&decide (hi2=wm.w.b.length)),high:=max wm.w.high hi2},sa:=sa2}:=Bh
      have hok2:w2.ok:=by rw [hw2];exact⟨hwm.1,hsa2,hwm.2.2⟩
      exact mR [6] (A4 cb (ws.set j w2)*(BM db dm2*R)) (hE:=⟨fun ww hw=>Sat.right (A:=HP.AA b13 0 (AM (CQ (Bx j lo (wm.w.finished&&decide (hi2=wm.w.b.length)) (cut wm.w.b lo hi2))))) (O_ (by
       congr 1
       rw [Kl cb ws j w2 hjl,hw2]
       unfold Bl
       refine U5 ?_
       rw [h166]
       simp only [Bool.true_or]
       ac_rfl) hw)⟩) rfl rfl ⟨w2,dm2,hok2,hd2,Wk,rfl⟩
     have h166:wm.w.ending=false:=hg6;refine JG hg6 ?_;refine J1 ?_;refine JG hg6 ?_;refine J1 ?_;refine JL (Gl hg6 rfl rfl) ?_;refine F5z ?_;refine JL Jg ?_;refine Bt ?_
     obtain⟨w2,hw2⟩:∃w2:BY,w2={wm with w:={wm.w with Ae:=(if lo<hi2 then wm.w.Ae.add lo (hi2-1)else wm.w.Ae),ending:=wm.w.ending||(wm.w.finished&&decide (hi2=wm.w.b.length)),high:=max wm.w.high hi2},sa:=sa2}:=Bh
     have hok2:w2.ok:=by rw [hw2];exact⟨hwm.1,hsa2,hwm.2.2⟩
     exact mR [6] (A4 cb (ws.set j w2)*(BM db dm2*R)) (hE:=⟨fun ww hw=>Sat.right (A:=HP.AA b13 0 (AM (CQ (Bx j lo (wm.w.finished&&decide (hi2=wm.w.b.length)) (cut wm.w.b lo hi2))))) (O_ (by
      congr 1
      rw [Kl cb ws j w2 hjl,hw2]
      unfold Bl
      refine U5 ?_
      rw [h166]
      simp only [Bool.false_or]
      ac_rfl) hw)⟩) rfl rfl ⟨w2,dm2,hok2,hd2,Wk,rfl⟩
end
section
variable{B:World}
structure GA where
 ys:List UInt8
 a:A1
@[reducible] def iS(m:GA):List Value:=[.slice m.a.p m.ys.length m.a.c]
@[reducible] instance:AC GA:=⟨1,iS,⟨[],⟨none,0,0,0,[]⟩⟩,fun _=>rfl,fun _ v h=>by
 simp at h;rcases h with rfl;rfl⟩
def GA.ok(m:GA):Prop:=m.a.ok m.ys
def Gz(m:GA):HP:=AB m.a.b m.a.o m.ys m.a.s
structure JX where
 l:List GA
 a:A1
structure JX.ok(m:JX)(xs:List (List UInt8)):Prop where
 a:m.a.ok m.l
 l:∀p∈m.l,p.ok
 map:m.l.map (·.ys)=xs
def DS(m:JX):HP:=m.a.h m.l*AO Gz m.l
def JX.v(m:JX):Value:=.slice m.a.p m.l.length m.a.c
def Od(H:HP)(xs:List (List UInt8))(v:Value)(H':HP):Prop:=∃m:JX,m.ok xs∧v=m.v∧H'=DS m*H
def BR:A1:=⟨none,0,0,0,[]⟩
theorem Dz{α:Type}[AC α]:BR.ok ([]:List α):=⟨Fx,by show 0*_+0=0*_;omega⟩
theorem Gm{α:Type}[AC α]:BR.h ([]:List α)=HP.BD:=Gk ..
theorem Od.nil(H:HP):Od H [] (.slice none 0 0) H:=
 ⟨⟨[],BR⟩,⟨Dz,(fun _ h=>nomatch h),rfl⟩,rfl,by unfold DS;rw [Gm,E9];show H=HP.BD*HP.BD*H;rw [HP.BI,HP.BI]⟩
theorem uC{n:Nat}(h:n<18446744073709551616):uN n=u64 (L? n):=by
 show Value.int .u64 (n:Nat)=Value.int .u64 ((L? n).toNat:Nat);rw [UInt64.toNat_ofNat',Nat.mod_eq_of_lt Ox]
theorem oM(H:HP)(b:Nat)(f:AU)(hf:f.ranges=[])[hr:Ad B H b 0 [CQ f]]:Hq B H (some ⟨b,0,none⟩) 1 [f] b 0 [CQ f]:=
 ⟨CG,hr,rfl,(fun r h=>by rw [K!.1 h];exact(NZ (f:={f with data:=⟨#[]⟩}) hf N8).ok),(fun r h=>by rw [K!.1 h];exact QV hf H)⟩
theorem gQ{code:Nat}(h:code≤4611686018427387903):GN [Bn code]=some (Ah (Bn code)):=by
 unfold GN;rw [if_pos ⟨Cg,fun f hf=>by rw [K!.1 hf];exact VP h⟩,MP]
theorem Rj(code:Nat):(Ah (Bn code)).length≤9:=by
 have:=CS code
 have e:Ah (Bn code)=[28]++AV code:=rfl;rw [e,J!];simp only [M?];omega
set_option maxHeartbeats 2000000 in
theorem fR(cb t:Nat)(m:Ab)(R:HP)(hm:m.ok)(hi:AZ t m.s)(ht:t<1000000):
  Fn Tryz.prog B 135 [ptr cb 0] (AT cb m*R) (fun v H'=>∃m':Ab,m'.ok∧m'.s=m.s.Fm.2∧Od (AT cb m'*R) m.s.Fm.1 v H'):=by
 refine mI Tryz.func135 ?_;refine Ai L9 ?_;have hks:m.x.ks.length=16:=hi.ks;have hcd:m.x.code≤4611686018427387903:=hi.code;have hnx:m.x.next≤20*t:=hi.nx;refine Gt ?_;refine mc (fun h9=>?_) (fun h9=>?_)
 ·refine J7 ?_;exact mR [2] (AT cb m*R) (hE:=by rw [DJ];infer_instance) rfl rfl (by unfold AF.Fm;rw [if_pos (show m.s.said=true from h9)];exact⟨m,hm,rfl,.nil _⟩)
 refine cU ?_;refine JL (Ex (cs:=AM (CQ (Bn m.x.code))) rfl rfl rfl (AC.one (CQ (Bn m.x.code)))) ?_;refine Ag (Gq (cs:=AM (CQ (Bn m.x.code))) rfl Cp rfl rfl) rfl ?_;rintro _ _ ⟨b19,rfl,rfl⟩;refine A9 (H':=AB b19 0 [CQ (Bn m.x.code)] []*(AQ cb {m.x with said:=true}*(AS m.x.gq m.ga m.AP*(A4 cb m.ws*(BU cb m.rs*(DN m*R)))))) (by unfold AB;rw [M_,show AD [CQ (Bn m.x.code)]=AM (CQ (Bn m.x.code))from M_ _]) ?_;refine mE rfl (hJ [Bn m.x.code] (some ⟨b19,0,none⟩) 1 b19 0 [CQ (Bn m.x.code)] _ (oM _ b19 _ rfl) (fun r h=>by rw [K!.1 h];exact NZ rfl N8) (by show(1:Nat)<_;decide) (by rw [MP];have:=Rj m.x.code;omega)) ?_;intro v20 H20 h20;rw [gQ hcd]at h20;obtain⟨_,rfl,p20,b20,o20,c20,s20,rfl,hs20,hc20,rfl⟩:=h20;have hcl:=Rj m.x.code;refine J8 ?_;refine mA 9 11 ?_;refine FX ?_;refine Mv ?_;refine I3 ?_;refine JT 3 rfl (Ds (l:=AD m.x.ks++[u8 (Af m.x.first)]) rfl ZY) ?_;refine LA ?_;refine Jm 8 ?_
 refine Am 9 Cb rfl rfl (BJ (vs:=[.agg (AD m.x.ks++[u8 (Af m.x.first)]).toArray,u64 (L? m.x.next),.slice p20 (Ah (Bn m.x.code)).length c20]) bQ (W7 m.x.ks hks (Af m.x.first) (L? m.x.next) (Ah (Bn m.x.code)) p20 b20 o20 c20 _ hs20 inferInstance Ca)) ?_;rintro _ _ ⟨p32,b32,o32,c32,s32,rfl,hs32,hc32,rfl⟩;refine DW ?_;refine EV 10 Cb rfl rfl Fg ED ?_;refine JD ?_;refine J7 ?_;refine JL (JO (i:=m.x.next) (j:=1) rfl rfl Ca) ?_;refine J8 ?_;refine LE ?_;rintro _ _ ⟨b41,rfl,rfl⟩;refine J4 ?_
 have efw:m.s.Fm=([Bc m.x.ks (Af m.x.first) (L? m.x.next) (Ah (Bn m.x.code))],{m.s with said:=true,next:=m.s.next+1}):=by
  unfold AF.Fm;rw [if_neg (by rw [show m.s.said=false from h9];simp)];rfl
 generalize hzs:Bc m.x.ks (Af m.x.first) (L? m.x.next) (Ah (Bn m.x.code))=zs at*
 obtain⟨pk,hpk⟩:∃pk:JX,pk=⟨[⟨zs,⟨p32,b32,o32,c32,s32⟩⟩],⟨some ⟨b41,0,none⟩,b41,0,1,[]⟩⟩:=Bh
 have hpok:pk.ok [zs]:=by
  rw [hpk];exact⟨⟨CG,rfl⟩,(fun p hp=>by rw [K!.1 hp];exact⟨hs32,hc32⟩),rfl⟩
 exact mR [2] (DS pk*(AT cb (m.Aq {m.x with said:=true,next:=m.x.next+1})*R)) (hE:=⟨fun ww hw=>Sat.right (A:=AB b20 o20 (Ah (Bn m.x.code)) s20*AB b19 0 [CQ (Bn m.x.code)] []) (O_ (by
  congr 1
  rw [DJ,hpk]
  unfold DS
  rw [Fc,E9]
  show _=AB b20 o20 (Ah (Bn m.x.code)) s20*AB b19 0 [CQ (Bn m.x.code)] []*(HP.AA b41 0 [.slice p32 zs.length c32]*(AB b32 o32 zs s32*HP.BD)*(AQ cb {m.x with said:=true,next:=m.x.next+1}*(AS m.x.gq m.ga m.AP*(A4 cb m.ws*(BU cb m.rs*(DN m*R))))))
  rw [HP.GL]
  ac_rfl) hw)⟩) rfl rfl
  (by rw [efw];exact⟨m.Aq {m.x with said:=true,next:=m.x.next+1},⟨hm.g,hm.ws,hm.rs,hm.fl,hm.lo,hm.fa,hm.la,hm.fv,hm.lv⟩,rfl,pk,hpok,by rw [hpk];rfl,rfl⟩)
end
section
variable{B:World}
section
variable{P:Program}{n:Nat}{E:A2}{D:Bu}{H:HP}{d:Option Tmp}{T T' ty:TypeId}{pos:String}{af:Array Edge}{g:Option (Nat×Bool)}{x y z u:Operand}
theorem vP{p:Option Addr}{k c sz h m:Nat}{e:TypeId}{jk mk:IntKind}[hT:Au P T (.slice e)][hz:Bj P e sz](hx:ev E x=some (.slice p k c))(hz':ev E z=some (.int jk h))(hu:ev E u=some (.int mk m))
  (hc:h≤m∧m≤c):Aa P B n ⟨d,.slice T x none (some z) (some u),ty,pos,af,g⟩ E H (.slice p h m):=by
 intro a w he _;simp only [execOp,he.ev hx,Option.map_some,Option.map_none,he.ev hz',he.ev hu,Instr.sliceAt,Instr.slice,Instr.sliceBounds,Sem.run_bind,Bk hT.get,Result.andThen_ok,Sem.run_pure,F0 hc.1,F0 hc.2,hz.get,Option.isSome_some,Option.isSome_none];cases p<;>simp [Addr.add]
end
instance drh_body(db:Nat)(m:DX):Ad B (BM db m) m.a.b m.a.o m.d.b:=by unfold BM;infer_instance
theorem Ph{ws:List BY}{k:Nat}(hk:k<ws.length):(ws.map (·.w)).getD k As=(ws.getD k AC.AH).w:=by
 simp only [K_,L_,L! hk];rfl
theorem TL(d:BV)(ws:List AY){k:Nat}(hk:k<4):Ed d ws k (4-k)=Ed (FR k (d.room+1) (ws.getD k As) d).2 (ws.set k (FR k (d.room+1) (ws.getD k As) d).1) (k+1) (4-(k+1)):=by
 rw [show 4-k=4-(k+1)+1 by omega,Ed]
theorem oU{k AG:Nat}(hk:k<4){ws:List AY}{d:BV}{w2:AY}{d2:BV}(hw:Dm AG ws)(hd:Ip ws d)(e:(ws.getD k As).fill d k=some (w2,d2)):
  Ed d ws k (4-k)=Ed d2 (ws.set k w2) k (4-k):=by
 rw [TL d ws hk,TL d2 _ hk,tX hk hw hd e,set_set];rw [CY,if_pos ⟨rfl,Tf⟩]
theorem qV{k:Nat}(hk:k<4){ws:List AY}{d:BV}(e:(ws.getD k As).fill d k=none):Ed d ws k (4-k)=Ed d ws (k+1) (4-(k+1)):=by
 rw [TL d ws hk,lB e,TC]
structure OG(AG:Nat)(ws0:List AY)(d0:BV)(ws:List BY)(dm:DX):Prop where
 NS:∀w∈ws,w.ok
 Xd:dm.ok
 f:IG AG ws0 d0 (ws.map (·.w)) dm.d
theorem OG.len{AG:Nat}{ws0:List AY}{d0:BV}{ws:List BY}{dm:DX}(h:OG AG ws0 d0 ws dm):ws.length=4:=by
 have:=h.f.Hf.len;simpa using this
def Ab.OJ(m:Ab)(ws:List BY):Ab:={m with ws:=ws}
theorem pM(cb:Nat)(m:Ab)(ws:List BY)(R:HP):AT cb (m.OJ ws)*R=AQ cb m.x*(A4 cb ws*(Fb m cb*R)):=HT cb (m.OJ ws) R
set_option maxHeartbeats 8000000 in
theorem zK(cb t:Nat)(m0:Ab)(R:HP)(hm:m0.ok)(hi:AZ t m0.s)(ht:t<1000000):
  Fn Tryz.prog B 92 [ptr cb 0] (AT cb m0*R) (fun v H'=>∃m':Ab,m'.ok∧m'.s=m0.s.A3.2∧Od (AT cb m'*R) m0.s.A3.1 v H'):=by
 refine mI Tryz.func92 ?_;have hks:m0.x.ks.length=16:=hi.ks;refine Ai (DJ cb m0 R) ?_;refine QA ?_;refine mC (fun h12=>?_) (fun h12=>?_)
 ·refine J1 ?_;refine Ai (DJ cb m0 R).symm ?_;refine J2 ?_;refine mE rfl (fR cb t m0 R hm hi ht) ?_;rintro v14 H14 h14;refine J5 ?_;exact mR [2] H14 rfl rfl (by obtain⟨m',h1,h2,h3⟩:=h14;unfold AF.A3;rw [if_pos (show m0.s.closed≠0 from h12)];exact⟨m',h1,h2,h3⟩)
 refine Uw ?_;refine CO (α:=List AW×A1) (fun z=>[(0,ptr cb 0),(3,.slice none 0 0),(4,z.2.v z.1.length)]) (fun z=>AT cb (m0.Aq {m0.x with answer:=false})*(z.2.h z.1*R)) (fun z=>z.2.ok z.1∧z.1=if m0.s.answer then m0.s.AP.l.reverse else []) ?_ ?_
 ·refine mc (fun h18=>?_) (fun h18=>?_)
  ·refine F5z ?_;refine mE rfl (Ti m0.x.gq _) ?_;rintro _ _ ⟨b26,rfl,rfl⟩;refine mE rfl (iG 166 [ptr b26 0] m0.AP.l.reverse _ _ (by rintro ys ⟨mm,hmm,rfl⟩;have h7:=hi.AP.len;rw [hi.gm]at h7;have h8:m0.AP.l.length≤8:=h7;unfold GP;simp;omega) (SG m0.x.gq b26 m0.ga m0.AP _ hm.g (by have h7:=hi.AP.len;rw [hi.gm]at h7;have h8:m0.AP.l.length≤8:=h7;omega))) ?_;rintro _ _ ⟨p27,b27,o27,c27,s27,rfl,hs27,hc27,rfl⟩;refine J2 ?_;refine Dg (H':=HP.AA b26 0 [ptr m0.x.gq 0]*(AT cb (m0.Aq {m0.x with answer:=false})*(AB b27 o27 m0.AP.l.reverse s27*R))) ?_ ?_
   ·rw [DJ];show _=HP.AA b26 0 [ptr m0.x.gq 0]*(AQ cb {m0.x with answer:=false}*(AS m0.x.gq m0.ga m0.AP*(A4 cb m0.ws*(BU cb m0.rs*(DN m0*(AB b27 o27 m0.AP.l.reverse s27*R))))));ac_rfl
   exact Bd _ (A8 (m0.AP.l.reverse,⟨p27,b27,o27,c27,s27⟩) ⟨⟨hs27,hc27⟩,by rw [if_pos (show m0.s.answer=true from h18)];rfl⟩ EG rfl)
  refine J1 ?_;refine Dg (H':=AT cb (m0.Aq {m0.x with answer:=false})*(BR.h ([]:List AW)*R)) ?_ ?_
  ·rw [DJ,Gm,HP.BI];show _=AQ cb {m0.x with answer:=false}*(AS m0.x.gq m0.ga m0.AP*(A4 cb m0.ws*(BU cb m0.rs*(DN m0*R))));rw [←h18]
  exact A8 ([],BR) ⟨Dz,by rw [if_neg (by rw [show m0.s.answer=false from h18];simp)]⟩ EG rfl
 ·rintro⟨tf,⟨tp,tb,ob,tc,ts⟩⟩ ⟨hta,htf⟩;dsimp only at hta htf⊢
  obtain⟨z0,hz0⟩:∃z0:BP,z0=⟨{m0.s with answer:=false},tf,[]⟩:=Bh
  have hz0k:DU (t+1) z0:=by rw [hz0,htf];exact DU.begin hi
  have hmu0:0+z0.mu≤18:=(by have h7:=hz0k.tl;unfold BP.mu;omega)
  rw [hz0]at hmu0
  have hep:m0.s.A3=((DM 40 z0).out,(DM 40 z0).c):=by
   unfold AF.A3;rw [if_neg (show ¬m0.s.closed≠0 from h12),hz0,htf]
  refine J2 ?_
  refine Bm (α:=Ab×JX×List (List UInt8)×List AW×Option Addr×Nat×Nat) (fun z=>[(0,ptr cb 0),(3,z.2.1.v),(4,.slice z.2.2.2.2.1 z.2.2.2.1.length z.2.2.2.2.2.2)]) (fun z=>AT cb z.1*(DS z.2.1*(AB tb ob tf ts*R))) (fun z=>z.1.ok∧z.2.1.ok z.2.2.1∧DU (t+1) ⟨z.1.s,z.2.2.2.1,z.2.2.1⟩∧DM 40 ⟨z.1.s,z.2.2.2.1,z.2.2.1⟩=DM 40 z0∧Sl z.2.2.2.2.1 tb z.2.2.2.2.2.1 z.2.2.2.1.length z.2.2.2.2.2.2∧Ad B (AB tb ob tf ts) tb z.2.2.2.2.2.1 z.2.2.2.1∧z.2.2.1.length+(⟨z.1.s,z.2.2.2.1,z.2.2.1⟩:BP).mu≤18) (fun z=>(⟨z.1.s,z.2.2.2.1,z.2.2.1⟩:BP).mu) (m0.Aq {m0.x with answer:=false},⟨[],BR⟩,[],tf,tp,ob,tc) ⟨⟨hm.g,hm.ws,hm.rs,hm.fl,hm.lo,hm.fa,hm.la,hm.fv,hm.lv⟩,⟨Dz,(fun _ h=>nomatch h),rfl⟩,by rw [hz0]at hz0k;exact hz0k,by rw [hz0];rfl,hta.1,inferInstance,hmu0⟩ EG (by unfold DS;rw [Gm,E9,HP.BI,HP.BI]) ?_
  rintro⟨m,pk,outs,told,q,to,cc⟩ ⟨hmk,hpk,hz,hzp,hqs,hqr,hmu⟩;dsimp only at hmk hpk hz hzp hqs hqr hmu⊢;have hci:=hz.c;have hks2:m.x.ks.length=16:=hci.ks;have hm1:64≤m.x.AI:=hci.m1;have hm2:m.x.AI≤300:=hci.m2;have hnx:m.x.next≤20*(t+1):=hci.nx;have htl:told.length≤8:=hz.tl;have htd:Told told:=hz.told;have hfil:=hz.filled;have GJ:=O1 hci htd htl;refine Ai (DJ cb m _) ?_;refine J8 ?_;refine JL (Ie (j:=16) rfl rfl Ca) ?_;refine JL (Ex (cs:=[.slice none 0 0,.slice none 0 0,iN (m.x.AI-16),.bool false]) rfl rfl rfl Ce) ?_;refine Ag (Db (l:=[.slice none 0 0,.slice none 0 0,iN (m.x.AI-16),.bool false]) rfl rfl) rfl ?_;rintro _ _ ⟨b35,rfl,rfl⟩;refine J5 ?_;refine Ai (H':=BM b35 (⟨⟨[],m.x.AI-16⟩,BR,[],BR⟩:DX)*(AT cb m*(DS pk*(AB tb ob tf ts*R)))) (by rw [DJ];unfold BM;show _=HP.AA b35 0 [.slice none 0 0,.slice none 0 0,iN (m.x.AI-16),.bool false]*(BR.h ([]:List UInt8)*BR.h ([]:List RF))*_;rw [Gm,Gm,HP.BI,HP.GL]) ?_
  have hd0:DX.ok (⟨⟨[],m.x.AI-16⟩,BR,[],BR⟩:DX):=⟨Dz,Dz,rfl,by show m.x.AI-16≤284;omega,T? _⟩
  refine J9 ?_;refine JL Tj ?_;refine J2 ?_;refine CO (α:=DX×List AW×Option Addr×Nat×Nat) (fun z=>[(5,ptr b35 0),(0,ptr cb 0),(3,pk.v),(4,.slice z.2.2.1 z.2.1.length z.2.2.2.2)]) (fun z=>BM b35 z.1*(AT cb m*(DS pk*(AB tb ob tf ts*R)))) (fun z=>z.1.ok∧z.1.d=m.s.Dj told∧z.2.1=(⟨m.s,told,outs⟩:BP).JB∧Sl z.2.2.1 tb z.2.2.2.1 z.2.1.length z.2.2.2.2∧Ad B (AB tb ob tf ts) tb z.2.2.2.1 z.2.1) ?_ ?_
  ·refine mC (fun h39=>?_) (fun h39=>?_)
   ·refine J2 ?_;have hne0:told≠ []:=List.length_pos_iff.1 h39;refine Bm (α:=Nat) (fun n=>[(6,iN n),(5,ptr b35 0),(0,ptr cb 0),(3,pk.v),(4,.slice q told.length cc)]) (fun _=>BM b35 (⟨⟨[],m.x.AI-16⟩,BR,[],BR⟩:DX)*(AT cb m*(DS pk*(AB tb ob tf ts*R)))) (fun n=>(1≤n∧n≤told.length)∧Es told (m.x.AI-16) n=Es told (m.x.AI-16) told.length) (fun n=>n) told.length ⟨⟨h39,N_ _⟩,rfl⟩ HD rfl ?_;rintro n ⟨hnl,hnA0⟩;dsimp only at hnl hnA0⊢
    have htn:(told.take n).length=n:=by rw [Q_];omega
    have htne:told.take n≠ []:=fun h=>by rw [h]at htn;simp at htn;omega
    have hokA:B4 (EY (told.take n)):=bF ((htd.take n).GW htne);have hrdT:Ad B (AB tb ob tf ts) tb to (told.take n):=inferInstance;refine J2 ?_;refine CO (α:=Unit) (fun _=>[(54,.bool (decide (1<n∧(m.x.AI-16)<(Ah (EY (told.take n))).length))),(6,iN n),(5,ptr b35 0),(0,ptr cb 0),(3,pk.v),(4,.slice q told.length cc)]) (fun _=>BM b35 (⟨⟨[],m.x.AI-16⟩,BR,[],BR⟩:DX)*(AT cb m*(DS pk*(AB tb ob tf ts*R)))) (fun _=>True) ?_ ?_
    ·refine mA 15 15 ?_;refine FX ?_;refine JT 1 rfl (GM (j:=1) rfl rfl) ?_;refine Jm 2 ?_;refine Gb 42 rfl (fun hg1=>?_) (fun hg1=>?_)
     ·have h42:1<n:=hg1;refine JY 3 rfl T1 Be ?_;refine JY 4 rfl T1 Be ?_;refine JY 5 rfl T1 (OB (k':=(told.take n).length) rfl rfl Sz htn) ?_;refine JY 6 rfl T1 (Ex (cs:=AM (⟨EY (told.take n),q,tb,to,cc,[]⟩:RF)) rfl rfl rfl (AC.one (⟨EY (told.take n),q,tb,to,cc,[]⟩:RF))) ?_;refine JY 9 rfl T1 Be ?_;refine JY 10 rfl T1 CT ?_;refine JY 11 rfl T1 BO ?_;refine JY 12 rfl T1 BX ?_;refine X8 ?_;refine PC 7 Cb rfl rfl rfl rfl T1 (BJ rfl (UH (⟨EY (told.take n),q,tb,to,cc,[]⟩:RF) none 0 0 0 [] [] _ ⟨⟨hqs.1,by show(told.take n).length≤cc;have:=hqs.2;omega⟩,VK,N8⟩ (show Ad B _ tb to (told.take n)from(let _:=hrdT;inferInstance)) Fx rfl Cc (by show Dd 3;unfold Dd;decide) ⟨by show(3:Int)≤3;decide,Om⟩ hokA)) ?_;rintro _ _ ⟨p47,b47,o47,c47,s47,Q47,rfl,hs47,hc47,rfl,hk47⟩;rw [S!]at*;refine A6 ?_;refine JY 8 rfl T1 FT ?_
      refine JY 13 rfl T1 H9 ?_;refine JT 14 rfl Fu ?_;refine JD ?_;exact Bd (BM b35 (⟨⟨[],m.x.AI-16⟩,BR,[],BR⟩:DX)*(AT cb m*(DS pk*(AB tb ob tf ts*R)))) (A8 () trivial (.cons (congrArg (fun bb=>some (Value.bool bb)) (decide_eq_decide.2 ⟨fun h=>⟨h42,h⟩,fun h=>h.2⟩)) HD) rfl)
     have h42:¬1<n:=hg1;refine JN 3 rfl F1 ?_;refine JN 4 rfl F1 ?_;refine JN 5 rfl F1 ?_;refine JN 6 rfl F1 ?_;refine JN 9 rfl F1 ?_;refine JN 10 rfl F1 ?_;refine JN 11 rfl F1 ?_;refine JN 12 rfl F1 ?_;refine X8 ?_;refine Rs 7 Cb rfl rfl rfl rfl F1 TU ?_;refine JN 8 rfl F1 ?_;refine JN 13 rfl F1 ?_;refine JT 14 rfl Eo ?_;refine JD ?_;exact A8 () trivial (.cons (congrArg (fun bb=>some (Value.bool bb)) (decide_eq_false (fun h=>h42 h.1)).symm) HD) MA
    ·rintro _ _;refine J1 ?_;refine mC (fun h54=>?_) (fun h54=>?_)
     ·refine J5 ?_;refine JL Ns ?_;refine J3 ?_;exact Ba (n-1) ⟨⟨Ca,Ca⟩,by rw [←hnA0];obtain⟨n2,rfl⟩:∃n2,n=n2+2:=⟨n-2,Ca⟩;rw [Es,if_pos h54.2];rfl⟩ (by show n-1<n;omega) HD rfl
     have hnA:Es told (m.x.AI-16) told.length=n:=by
      rw [←hnA0]
      match n,hnl.1 with
      |1,_=>rfl
      |n2+2,_=>rw [Es,if_neg (fun h=>h54 ⟨Ca,h⟩)]
     refine Bt ?_;refine JL (Ay (v':=.slice q (told.take n).length n) (vP rfl rfl rfl ⟨N_ _,Sz⟩) (by rw [htn])) ?_;refine JL (Ex (cs:=AM (⟨EY (told.take n),q,tb,to,n,[]⟩:RF)) rfl rfl rfl (AC.one (⟨EY (told.take n),q,tb,to,n,[]⟩:RF))) ?_;refine mE rfl (Rp b35 (⟨⟨[],m.x.AI-16⟩,BR,[],BR⟩:DX) (⟨EY (told.take n),q,tb,to,n,[]⟩:RF) _ hd0 hokA ⟨by show(3:Int)≤3;decide,Om⟩ ⟨⟨.inr (hqs.1.resolve_left Sz),by show(told.take n).length≤n;omega⟩,VK,N8⟩ (hr:=show Ad B _ tb to (told.take n)from(let _:=hrdT;inferInstance))) ?_;rintro _ _ ⟨dm2,hd2,hde2,rfl,rfl⟩;refine J5 ?_;refine JL (Kk rfl rfl hnl.2) ?_;refine J2 ?_;refine A8 (dm2,told.drop n,sp q cc n 2,to+n*2,cc-n) ⟨hd2,?_,?_,Ei hqs hnl.2 hqs.2 (by rw [U?]),hqr.KH n⟩ (.cons rfl (.cons rfl (.cons rfl (.cons ?_ .nil)))) rfl
     ·rw [hde2]
      have hadd:(⟨[],m.x.AI-16⟩:BV).add (EY (told.take n))=some ⟨[]++[EY (told.take n)],m.x.AI-16⟩:=by
       unfold BV.add
       rw [if_neg (by
        have h7:=Xe hci hne0
        have h8:(Es told (m.s.AI-16) told.length)=n:=hnA
        rw [h8]at h7
        have h9:m.s.AI=m.x.AI:=rfl
        rw [h9]at h7
        show ¬m.x.AI-16<(([]:List UInt8)++Ah (EY (told.take n))).length
        rw [S!];omega)]
      show((⟨[],m.x.AI-16⟩:BV).add (EY (told.take n))).getD _=_;rw [hadd];unfold AF.Dj;rw [if_neg hne0];have h8:(Es told (m.s.AI-16) told.length)=n:=hnA;rw [h8];rfl
     ·show _=told.drop (Es told (m.s.AI-16) told.length);have h8:(Es told (m.s.AI-16) told.length)=n:=hnA;rw [h8]
     ·show some (Value.slice _ _ _)=some (Value.slice _ _ _);rw [U?]
   refine J1 ?_;obtain rfl:told=[]:=Q!.1 Ca;exact A8 ((⟨⟨[],m.x.AI-16⟩,BR,[],BR⟩:DX),[],q,to,cc) ⟨hd0,rfl,rfl,hqs,hqr⟩ IK rfl
  ·rintro⟨dm,JB,q2,to2,cc2⟩ ⟨hdm,hdd,htold2,hqs2,hqr2⟩;dsimp only at hdm hdd htold2 hqs2 hqr2⊢;refine J3 ?_;refine Ai (H':=AQ cb m.x*(BM b35 dm*(AS m.x.gq m.ga m.AP*(A4 cb m.ws*(BU cb m.rs*(DN m*(DS pk*(AB tb ob tf ts*R)))))))) (by rw [DJ];ac_rfl) ?_
   have hfl10:m.fl.length≤10:=by have:=hci.fl;simpa [Ab.s]using this
   refine J4 ?_;refine JL (Ay Dn hmk.fv) ?_;refine J1 ?_;refine JL (D4 (i:=m.fl.length) (j:=10) rfl rfl) ?_;refine J2 ?_;refine CO (α:=List BY×DX) (fun z=>[(5,ptr b35 0),(0,ptr cb 0),(3,pk.v),(4,.slice q2 JB.length cc2)]) (fun z=>A4 cb z.1*(BM b35 z.2*(AQ cb m.x*(Fb m cb*(DS pk*(AB tb ob tf ts*R)))))) (fun z=>(∀w∈z.1,w.ok)∧z.2.ok∧z.1.map (·.w)=(⟨m.s,told,outs⟩:BP).filled.1∧z.2.d=(⟨m.s,told,outs⟩:BP).filled.2) ?_ ?_
   ·refine mC (fun h72=>?_) (fun h72=>?_)
    ·refine J2 ?_;refine G3 ?_
     have hff:(⟨m.s,told,outs⟩:BP).filled=Ed (m.s.Dj told) m.s.ws 0 4:=by
      unfold BP.filled;rw [if_pos (by show(m.fl.map (·.Ao)).length<10;rw [K?];exact h72)]
     refine Bm (α:=Nat×List BY×DX) (fun z=>[(73,iN z.1),(5,ptr b35 0),(0,ptr cb 0),(3,pk.v),(4,.slice q2 JB.length cc2)]) (fun z=>A4 cb z.2.1*(BM b35 z.2.2*(AQ cb m.x*(Fb m cb*(DS pk*(AB tb ob tf ts*R)))))) (fun z=>z.1≤4∧OG m.s.AG m.s.ws (m.s.Dj told) z.2.1 z.2.2∧Ed z.2.2.d (z.2.1.map (·.w)) z.1 (4-z.1)=Ed (m.s.Dj told) m.s.ws 0 4) (fun z=>4-z.1) (0,m.ws,dm) ⟨T? _,⟨hmk.ws,hdm,by rw [hdd];exact .refl hci.ws GJ⟩,by rw [hdd];rfl⟩ HD Tr ?_;rintro⟨k,wz,dz⟩ ⟨hk4,hF,hT⟩;dsimp only at hk4 hF hT⊢;refine J2 ?_;refine JL (D4 (j:=4) rfl rfl) ?_;refine J3 ?_;refine mC (fun h74=>?_) (fun h74=>?_)
     ·refine Bt ?_;refine Bm (α:=List BY×DX) (fun z=>[(7,iN k),(73,iN k),(5,ptr b35 0),(0,ptr cb 0),(3,pk.v),(4,.slice q2 JB.length cc2)]) (fun z=>A4 cb z.1*(BM b35 z.2*(AQ cb m.x*(Fb m cb*(DS pk*(AB tb ob tf ts*R)))))) (fun z=>OG m.s.AG m.s.ws (m.s.Dj told) z.1 z.2∧Ed z.2.d (z.1.map (·.w)) k (4-k)=Ed (m.s.Dj told) m.s.ws 0 4) (fun z=>z.2.d.room-z.2.d.b.length) (wz,dz) ⟨hF,hT⟩ Fi rfl ?_;rintro⟨wz1,dz1⟩ ⟨hF1,hT1⟩;dsimp only at hF1 hT1⊢;have hl1:=hF1.len;have hwk:=hF1.f.Hf.ok k h74;rw [Ph Ca]at hwk;refine J6 ?_;refine mE rfl (yC cb b35 k m.s.AG wz1 dz1 _ hl1 h74 hF1.NS hwk hF1.Xd) ?_;rintro v79 _ ⟨wm',dm',hwm',hdm',hfi,rfl⟩
      obtain⟨b79,rfl⟩:∃b79:Bool,v79=.bool b79:=by
       unfold W2 at hfi;split at hfi
       ·exact⟨_,hfi.1⟩
       ·exact⟨_,hfi.1⟩
      refine J2 ?_;refine mc (fun h79=>?_) (fun h79=>?_)
      ·subst h79;refine J5 ?_
       obtain⟨z79,hz79⟩:∃zz,(wz1.getD k AC.AH).w.fill dz1.d k=some zz:=by
        cases e:(wz1.getD k AC.AH).w.fill dz1.d k with
        |none=>rw [e]at hfi;obtain⟨e1,_,_⟩:=hfi;cases e1
        |some zz=>exact⟨zz,rfl⟩
       obtain⟨w2,d2⟩:=z79;rw [hz79]at hfi;obtain⟨_,hfi1,hfi2⟩:=hfi;dsimp only at hfi1 hfi2
       have e9:((wz1.map (·.w)).getD k As).fill dz1.d k=some (w2,d2):=by rw [Ph Ca];exact hz79
       obtain⟨hst1,hst2⟩:=hF1.f.step h74 e9
       have hms:(wz1.set k wm').map (·.w)=(wz1.map (·.w)).set k w2:=by rw [Q?,hfi1]
       exact Ba (wz1.set k wm',dm') ⟨⟨fun a ha=>KS (P:=BY.ok) hF1.NS hwm' ha,hdm',by rw [hms,hfi2];exact hst1⟩,by rw [hms,hfi2,←hT1];exact(oU h74 hF1.f.Hf hF1.f.H7 e9).symm⟩ (by show dm'.d.room-dm'.d.b.length<dz1.d.room-dz1.d.b.length;rw [hfi2];have h7:=hst1.room;have h8:=hF1.f.room;have h9:=hst1.H7.len;omega) Fi rfl
      subst h79
      have h79n:(wz1.getD k AC.AH).w.fill dz1.d k=none:=by
       cases e:(wz1.getD k AC.AH).w.fill dz1.d k with
       |none=>rfl
       |some zz=>rw [e]at hfi;obtain⟨e1,_,_⟩:=hfi;cases e1
      rw [h79n]at hfi;obtain⟨_,hfi1,hfi2⟩:=hfi
      have e9:((wz1.map (·.w)).getD k As).fill dz1.d k=none:=by rw [Ph Ca];exact h79n
      have hms:(wz1.set k wm').map (·.w)=wz1.map (·.w):=by rw [Q?,hfi1,←Ph Ca,TC]
      have hF2:OG m.s.AG m.s.ws (m.s.Dj told) (wz1.set k wm') dm':=⟨fun a ha=>KS (P:=BY.ok) hF1.NS hwm' ha,hdm',by rw [hms,hfi2];exact hF1.f⟩
      have hT3:Ed dm'.d ((wz1.set k wm').map (·.w)) (k+1) (4-(k+1))=Ed (m.s.Dj told) m.s.ws 0 4:=by rw [hms,hfi2,←hT1];exact(qV h74 e9).symm
      refine J7 ?_;refine E7 ?_;exact Ba (k+1,wz1.set k wm',dm') ⟨Ca,hF2,hT3⟩ Ww HD rfl
     obtain rfl:k=4:=by omega
     have hT:wz.map (·.w)=(⟨m.s,told,outs⟩:BP).filled.1∧dz.d=(⟨m.s,told,outs⟩:BP).filled.2:=by
      rw [hff,←hT];exact BW
     refine J4 ?_;exact A8 (wz,dz) ⟨hF.NS,hF.Xd,hT.1,hT.2⟩ IK rfl
    refine J1 ?_
    have hff:(⟨m.s,told,outs⟩:BP).filled=(m.s.ws,m.s.Dj told):=by
     unfold BP.filled;rw [if_neg (by show ¬(m.fl.map (·.Ao)).length<10;rw [K?];exact h72)]
    exact A8 (m.ws,dm) ⟨hmk.ws,hdm,by rw [hff];rfl,by rw [hff];exact hdd⟩ IK Tr
   ·rintro⟨wz,dz⟩ ⟨hwz,hdz,hwf,hdf⟩;dsimp only at hwz hdz hwf hdf⊢;refine Ai (H':=BM b35 dz*(AQ cb m.x*(AS m.x.gq m.ga m.AP*(A4 cb wz*(BU cb m.rs*(DN m*(DS pk*(AB tb ob tf ts*R)))))))) Tr ?_;refine J8 ?_;refine JL (B6 (i:=dz.rs.length) (j:=0) rfl rfl) ?_;refine J2 ?_;refine mC (fun h86=>?_) (fun h86=>?_)
    ·refine Bt ?_
     have hfr:(⟨m.s,told,outs⟩:BP).filled.2.Aw=[]:=by
      rw [←hdf,←hdz.map,Q!.1 h86];rfl
     have hfin:m0.s.A3=(outs,{m.s with ws:=wz.map (·.w)}):=by
      rw [hep,←hzp,p6 hfr,hwf]
     exact mR [2] (DS pk*(AT cb (m.OJ wz)*R)) (hE:=⟨fun ww hw=>Sat.right (A:=BM b35 dz*AB tb ob tf ts) (O_ (by
      congr 1
      rw [pM]
      unfold Fb
      ac_rfl) hw)⟩) rfl rfl (by rw [hfin];exact⟨m.OJ wz,⟨hmk.g,hwz,hmk.rs,hmk.fl,hmk.lo,hmk.fa,hmk.la,hmk.fv,hmk.lv⟩,rfl,pk,hpk,rfl,rfl⟩)
    have hne:(⟨m.s,told,outs⟩:BP).filled.2.Aw≠ []:=by
     rw [←hdf,←hdz.map];intro h;exact h86 (by have:=congrArg V! h;simpa using this)
    have hbl:=hdz.len;have hbr:=hdz.room;refine J3 ?_;refine Ai (H':=BM b35 dz*(AQ cb m.x*(AS m.x.gq m.ga m.AP*(A4 cb wz*(BU cb m.rs*(DN m*(AB pk.a.b pk.a.o pk.l pk.a.s*(AO Gz pk.l*(AB tb ob tf ts*R))))))))) (by unfold DS A1.h;ac_rfl) ?_;refine Dx (BM b35 dz*(AQ cb m.x*(AS m.x.gq m.ga m.AP*(A4 cb wz*(BU cb m.rs*(DN m*(AO Gz pk.l*(AB tb ob tf ts*R)))))))) 15 17 Dy rfl Cb ?_;refine EX ?_;refine JF ?_;refine JT 4 rfl (Ds (l:=AD m.x.ks++[u8 (Af m.x.first)]) rfl (by rw [J!,GO hks2];rfl)) ?_;refine Jm 5 ?_;refine LQ ?_;refine Qk ?_;refine Am 13 Cb rfl rfl (BJ (vs:=[.agg (AD m.x.ks++[u8 (Af m.x.first)]).toArray,u64 (L? m.x.next),.slice dz.a.p dz.d.b.length dz.a.c]) bQ (W7 m.x.ks hks2 (Af m.x.first) (L? m.x.next) dz.d.b dz.a.p dz.a.b dz.a.o dz.a.c _ hdz.a.1 inferInstance Ca)) ?_;rintro _ _ ⟨p101,b101,o101,c101,s101,rfl,hs101,hc101,rfl⟩;generalize hzs:Bc m.x.ks (Af m.x.first) (L? m.x.next) dz.d.b=zs at*;refine A6 ?_;refine Am 14 Cb rfl rfl (Gq (cs:=[.slice p101 zs.length c101]) rfl Cp rfl rfl) ?_;rintro _ _ ⟨b102,rfl,rfl⟩;refine A6 ?_
    refine EI (H':=AB pk.a.b pk.a.o pk.l pk.a.s*(HP.AA b102 0 (AD [(⟨zs,⟨p101,b101,o101,c101,s101⟩⟩:GA)])*(AB b101 o101 zs s101*(BM b35 dz*(AQ cb m.x*(AS m.x.gq m.ga m.AP*(A4 cb wz*(BU cb m.rs*(DN m*(AO Gz pk.l*(AB tb ob tf ts*R))))))))))) (by show HP.AA b102 0 [.slice p101 zs.length c101]*_=_;rw [show AD [(⟨zs,⟨p101,b101,o101,c101,s101⟩⟩:GA)]=[.slice p101 zs.length c101]from rfl];ac_rfl) ?_
    have hpl:pk.l.length≤18:=(by have h7:=congrArg V! hpk.map;rw [K?]at h7;omega)
    refine Am 15 Cb rfl rfl (CX (ys:=[(⟨zs,⟨p101,b101,o101,c101,s101⟩⟩:GA)]) (bb:=b102) (oo:=0) (cc:=1) rfl hpk.a.1 hpk.a.2 rfl CG inferInstance rfl Cn Ca) ?_;rintro _ _ ⟨p103,b103,o103,c103,s103,rfl,hs103,hc103,rfl⟩;refine DW ?_;refine EV 16 Cb rfl rfl Fg ED ?_;refine JQ ?_
    obtain⟨pk2,hpk2e⟩:∃pk2:JX,pk2=⟨pk.l++[(⟨zs,⟨p101,b101,o101,c101,s101⟩⟩:GA)],⟨p103,b103,o103,c103,s103⟩⟩:=Bh
    have hpk2:pk2.ok (outs++[zs]):=by
     rw [hpk2e];refine⟨⟨hs103,hc103⟩,fun p hp=>?_,?_⟩
     ·rcases S?.1 hp with hp|hp
      ·exact hpk.l p hp
      ·rw [K!.1 hp];exact⟨hs101,hc101⟩
     ·show(pk.l++[_]).map GA.ys=_;rw [M!,hpk.map];rfl
    have hpv:(Value.slice p103 (pk.l++[(⟨zs,⟨p101,b101,o101,c101,s101⟩⟩:GA)]).length c103)=pk2.v:=by rw [hpk2e];rfl
    rw [hpv]
    refine HW (DS pk2*(BM b35 dz*(AQ cb m.x*(AS m.x.gq m.ga m.AP*(A4 cb wz*(BU cb m.rs*(DN m*(AB tb ob tf ts*R)))))))) (hE:=⟨fun ww hw=>Sat.right (A:=HP.AA b102 0 (AD [(⟨zs,⟨p101,b101,o101,c101,s101⟩⟩:GA)])) (O_ (by
     congr 1
     rw [hpk2e]
     unfold DS
     rw [Ji,Fc,E9]
     show _=HP.AA b102 0 (AD [(⟨zs,⟨p101,b101,o101,c101,s101⟩⟩:GA)])*(AB b103 o103 (pk.l++[(⟨zs,⟨p101,b101,o101,c101,s101⟩⟩:GA)]) s103*(AO Gz pk.l*(AB b101 o101 zs s101*HP.BD))*_)
     rw [HP.GL]
     ac_rfl) hw)⟩) ?_
    refine J7 ?_;refine CO (α:=CC×List BB×A1) (fun z=>[(0,ptr cb 0),(3,pk2.v),(4,.slice q2 JB.length cc2)]) (fun z=>AQ cb z.1*(AS m.x.gq m.ga m.AP*(A4 cb wz*(BU cb m.rs*(z.2.2.h z.2.1*(m.la.h m.lo*(AO A0 z.2.1*(AO A0 m.lo*(DS pk2*(AB tb ob tf ts*R)))))))))) (fun z=>z.2.2.ok z.2.1∧(∀p∈z.2.1,p.ok)∧z.1={m.x with fv:=z.2.2.v z.2.1.length}∧z.2.1.map (·.Ao)=if EC (⟨m.s,told,outs⟩:BP).filled.2.Aw then m.s.BK++[⟨m.s.next,m.s.now,(⟨m.s,told,outs⟩:BP).filled.2.Aw⟩]else m.s.BK) ?_ ?_
    ·refine mc (fun h107=>?_) (fun h107=>?_)
     ·refine Ai (H':=AB m.fa.b m.fa.o m.fl m.fa.s*(AQ cb m.x*(BM b35 dz*(AS m.x.gq m.ga m.AP*(A4 cb wz*(BU cb m.rs*(m.la.h m.lo*(AO A0 m.fl*(AO A0 m.lo*(DS pk2*(AB tb ob tf ts*R))))))))))) (by unfold DN A1.h;ac_rfl) ?_;refine Dx (AQ cb m.x*(BM b35 dz*(AS m.x.gq m.ga m.AP*(A4 cb wz*(BU cb m.rs*(m.la.h m.lo*(AO A0 m.fl*(AO A0 m.lo*(DS pk2*(AB tb ob tf ts*R)))))))))) 22 23 Dy rfl Cb ?_;refine EX ?_;refine JF ?_;refine JT 4 rfl (Ay Dn hmk.fv) ?_;refine Jm 5 ?_;refine LQ ?_;refine Qk ?_;refine Jm 13 ?_;refine Jn 14 ?_;refine Jf 15 ?_;refine Jd 16 ?_;refine JT 17 rfl (Ex (cs:=Br (⟨m.x.next,m.x.now,dz.rs,dz.f⟩:BB)) rfl rfl rfl (AC.one (⟨m.x.next,m.x.now,dz.rs,dz.f⟩:BB))) ?_;refine Am 18 Cb rfl rfl (Gq (cs:=Br (⟨m.x.next,m.x.now,dz.rs,dz.f⟩:BB)) rfl Cp rfl rfl) ?_;rintro _ _ ⟨b126,rfl,rfl⟩;refine A6 ?_
      refine EI (H':=AB m.fa.b m.fa.o m.fl m.fa.s*(HP.AA b126 0 (AD [(⟨m.x.next,m.x.now,dz.rs,dz.f⟩:BB)])*(AQ cb m.x*(BM b35 dz*(AS m.x.gq m.ga m.AP*(A4 cb wz*(BU cb m.rs*(m.la.h m.lo*(AO A0 m.fl*(AO A0 m.lo*(DS pk2*(AB tb ob tf ts*R)))))))))))) (by show HP.AA b126 0 _*_=_;rw [show AD [(⟨m.x.next,m.x.now,dz.rs,dz.f⟩:BB)]=Br (⟨m.x.next,m.x.now,dz.rs,dz.f⟩:BB)from M_ _];ac_rfl) ?_;refine Am 19 Cb rfl rfl (CX (ys:=[(⟨m.x.next,m.x.now,dz.rs,dz.f⟩:BB)]) (bb:=b126) (oo:=0) (cc:=1) rfl hmk.fa.1 hmk.fa.2 rfl CG inferInstance rfl Cn Ca) ?_;rintro _ _ ⟨p127,b127,o127,c127,s127,rfl,hs127,hc127,rfl⟩;refine A6 ?_;refine Jn 20 ?_;refine Jf 21 ?_;refine DV 22 Cb rfl Eu ?_;refine DB ?_;refine Bd _ (A8 ({m.x with fv:=.slice p127 (m.fl++[(⟨m.x.next,m.x.now,dz.rs,dz.f⟩:BB)]).length c127},m.fl++[(⟨m.x.next,m.x.now,dz.rs,dz.f⟩:BB)],⟨p127,b127,o127,c127,s127⟩) ⟨⟨hs127,hc127⟩,fun p hp=>?_,rfl,?_⟩ D6 rfl) (hE:=?_)
      ·exact⟨fun ww hw=>Sat.right (A:=HP.AA b126 0 (AD [(⟨m.x.next,m.x.now,dz.rs,dz.f⟩:BB)])*(HP.AA b35 0 (Gd dz)*dz.a.h dz.d.b)) (O_ (by
        congr 1
        rw [Ji,Fc,E9]
        show _=HP.AA b126 0 (AD [(⟨m.x.next,m.x.now,dz.rs,dz.f⟩:BB)])*(HP.AA b35 0 (Gd dz)*dz.a.h dz.d.b)*(AQ cb {m.x with fv:=.slice p127 (m.fl++[(⟨m.x.next,m.x.now,dz.rs,dz.f⟩:BB)]).length c127}*(AS m.x.gq m.ga m.AP*(A4 cb wz*(BU cb m.rs*(AB b127 o127 (m.fl++[(⟨m.x.next,m.x.now,dz.rs,dz.f⟩:BB)]) s127*(m.la.h m.lo*(AO A0 m.fl*(dz.f.h dz.rs*HP.BD)*(AO A0 m.lo*(DS pk2*(AB tb ob tf ts*R))))))))))
        rw [HP.GL]
        unfold BM
        ac_rfl) hw)⟩
      ·rcases S?.1 hp with hp|hp
       ·exact hmk.fl p hp
       ·rw [K!.1 hp];exact hdz.f
      ·rw [←hdf,if_pos h107,M!];show _++[(⟨m.x.next,m.x.now,dz.rs.map (·.f)⟩:Dl)]=_;rw [hdz.map];rfl
     refine J1 ?_;refine Bd _ (A8 (m.x,m.fl,m.fa) ⟨hmk.fa,hmk.fl,?_,?_⟩ D6 rfl) (hE:=?_)
     ·exact⟨fun ww hw=>Sat.right (A:=BM b35 dz) (O_ (by
       congr 1
       show _=BM b35 dz*(AQ cb m.x*(AS m.x.gq m.ga m.AP*(A4 cb wz*(BU cb m.rs*(m.fa.h m.fl*(m.la.h m.lo*(AO A0 m.fl*(AO A0 m.lo*(DS pk2*(AB tb ob tf ts*R))))))))))
       unfold DN
       ac_rfl) hw)⟩
     ·show m.x={m.x with fv:=m.fa.v m.fl.length};rw [←hmk.fv]
     ·rw [←hdf,if_neg (by rw [h107];simp)];rfl
    ·rintro⟨x2,fl2,fa2⟩ ⟨hfa2,hfl2,hx2,hfm2⟩;dsimp only at hfa2 hfl2 hx2 hfm2⊢;refine J1 ?_
     obtain⟨m3,hm3⟩:∃m3:Ab,m3={m with x:={x2 with next:=x2.next+1},ws:=wz,fl:=fl2,fa:=fa2}:=Bh
     have hok3:m3.ok:=by rw [hm3];exact⟨hmk.g,hwz,hmk.rs,hfl2,hmk.lo,hfa2,hmk.la,by rw [hx2],by rw [hx2];exact hmk.lv⟩
     have hs3:m3.s=((⟨m.s,told,outs⟩:BP).step).c:=by
      rw [hm3];show(⟨x2.AI,x2.AG,x2.ks,x2.first,x2.now,x2.closed,x2.code,x2.said,x2.next+1,m.AP,x2.answer,wz.map (·.w),m.rs.map (·.r),fl2.map (·.Ao),m.lo.map (·.Ao),x2.BZ,x2.waits⟩:AF)=_;rw [hfm2,hwf,hx2];rfl
     have hzs:zs=Bc m.s.ks (Af m.s.first) (L? m.s.next) (⟨m.s,told,outs⟩:BP).filled.2.b:=by rw [←hzs,←hdf];rfl
     refine J5 ?_;refine JL (JO (i:=x2.next) (j:=1) rfl rfl (by rw [hx2];show m.x.next+1<_;omega)) ?_;refine J5 ?_
     have eps:(⟨m3.s,JB,outs++[zs]⟩:BP)=BP.step ⟨m.s,told,outs⟩:=by
      rw [hs3,htold2,hzs];rfl
     obtain⟨hst1,hst2⟩:=hz.step hne;refine Bd (AT cb m3*(DS pk2*(AB tb ob tf ts*R))) (hE:=?_) ?_
     ·have hgq:x2.gq=m.x.gq:=by rw [hx2]
      rw [DJ,hm3]
      exact⟨fun ww hw=>O_ (by
       congr 1
       show _=AQ cb {x2 with next:=x2.next+1}*(AS x2.gq m.ga m.AP*(A4 cb wz*(BU cb m.rs*((fa2.h fl2*(m.la.h m.lo*(AO A0 fl2*AO A0 m.lo)))*(DS pk2*(AB tb ob tf ts*R))))))
       rw [hgq]
       ac_rfl) hw⟩
     exact Ba (m3,pk2,outs++[zs],JB,q2,to2,cc2) ⟨hok3,hpk2,by rw [eps];exact hst1,by rw [eps,←iQ hz hne];exact hzp,hqs2,hqr2,by rw [eps,J!];simp only [M?];omega⟩ (by rw [eps];exact hst2) EG rfl
end
section
variable{B:World}
structure M3 where
 sq:Value
 cq:Value
 h1:sq.oneCell'=true
 h2:cq.oneCell'=true
def Ud:M3:=⟨.pointer none,.pointer none,rfl,rfl⟩
def Rt(s c:Nat):M3:=⟨ptr s 0,ptr c 0,rfl,rfl⟩
@[reducible] def Y'(m:M3):List Value:=[.slice none 0 0,m.sq,m.cq,uN 0,.bool false,.bool false,.bool false,.bool false,uN 0,.bool false]
@[reducible] instance:AC M3:=⟨10,Y',Ud,fun _=>rfl,fun m v h=>by
 simp at h;rcases h with rfl|rfl|rfl|rfl|rfl|rfl|rfl|rfl|rfl|rfl<;>first|rfl|exact m.h1|exact m.h2⟩
structure NT where
 cq:Value
 h1:cq.oneCell'=true
def Si:NT:=⟨.pointer none,rfl⟩
def UC(c:Nat):NT:=⟨ptr c 0,rfl⟩
@[reducible] def dY(m:NT):List Value:=[.slice none 0 0,m.cq,uN 0,uN 0,.bool false,.bool false,uN 0,uN 0,iN 0]
@[reducible] instance:AC NT:=⟨9,dY,Si,fun _=>rfl,fun m v h=>by
 simp at h;rcases h with rfl|rfl|rfl|rfl|rfl|rfl|rfl|rfl|rfl<;>first|rfl|exact m.h1⟩
structure E4 where
 s:Nat
 c:Nat
 r:Nat
def EJ(l:List E4):List M3:=l.map (fun z=>Rt z.s z.c)++O? (4-l.length) Ud
def EF(l:List E4):List NT:=l.map (fun z=>UC z.r)++O? (4-l.length) Si
def Kq(z:E4):HP:=AS z.s DC (.of 4096)*(AS z.c DC (.of 4096)*AS z.r DC (.of 4096))
theorem nO(l:List E4)(h:l.length≤4):(EJ l).length=4:=by unfold EJ;simp;omega
theorem fS(l:List E4)(h:l.length≤4):(EF l).length=4:=by unfold EF;simp;omega
theorem fP(l:List E4)(z:E4)(h:l.length<4):EJ (l++[z])=(EJ l).set l.length (Rt z.s z.c):=by
 unfold EJ;rw [T_ _ _ Cg];simp only [M!,J!,M?,K?,R_,P?,R!];rw [show 4-l.length=(4-(l.length+1))+1 by omega,N!]
 simp
theorem zF(l:List E4)(z:E4)(h:l.length<4):EF (l++[z])=(EF l).set l.length (UC z.r):=by
 unfold EF;rw [T_ _ _ Cg];simp only [M!,J!,M?,K?,R_,P?,R!];rw [show 4-l.length=(4-(l.length+1))+1 by omega,N!]
 simp
theorem kM(l:List E4)(h:l.length<4):(EJ l).getD l.length AC.AH=Ud:=by
 unfold EJ;rw [K_,P_ Cg];rw [show 4-l.length=(4-(l.length+1))+1 by omega,N!]
 simp
theorem tI(l:List E4)(h:l.length<4):(EF l).getD l.length AC.AH=Si:=by
 unfold EF;rw [K_,P_ Cg];rw [show 4-l.length=(4-(l.length+1))+1 by omega,N!]
 simp
def I0(z:E4):BY:=⟨As,BR,z.s,DC,z.c,DC⟩
def I9(z:E4):Df:=⟨FQ,BR,z.r,DC⟩
theorem pO(l:List E4)(h:l.length=4):AD (EJ l)=AD (l.map I0):=by
 unfold EJ;rw [h,R_,U!,M_]
 have:∀l:List E4,AD (l.map fun z=>Rt z.s z.c)=AD (l.map I0):=by
  intro l
  induction l with
  |nil=>rfl
  |cons z l ih=>show Y' _++AD (l.map _)=Bg _++AD (l.map I0);rw [ih];rfl
 exact this l
theorem rN(l:List E4)(h:l.length=4):AD (EF l)=AD (l.map I9):=by
 unfold EF;rw [h,R_,U!,M_]
 have:∀l:List E4,AD (l.map fun z=>UC z.r)=AD (l.map I9):=by
  intro l
  induction l with
  |nil=>rfl
  |cons z l ih=>show dY _++AD (l.map _)=DY _++AD (l.map I9);rw [ih];rfl
 exact this l
theorem kO(l:List E4):AO Kq l=AO Bl (l.map I0)*AO CE (l.map I9):=by
 induction l with
 |nil=>rw [R!,R!,E9,E9,E9,HP.BI]
 |cons z l ih=>
  rw [P?,P?,Fc,Fc,Fc,ih]
  have e1:Bl (I0 z)=AS z.s DC (.of 4096)*AS z.c DC (.of 4096):=by
   show AB 0 0 ([]:List UInt8) []*(AS z.s DC (.of 4096)*AS z.c DC (.of 4096))=_;rw [Gk,HP.BI]
  have e2:CE (I9 z)=AS z.r DC (.of 4096):=by
   show AB 0 0 ([]:List UInt8) []*AS z.r DC (.of 4096)=_;rw [Gk,HP.BI]
  rw [e1,e2];unfold Kq;ac_rfl
theorem F7{b o o':Nat}(l m:List Value)(h:o+l.length=o'):HP.AA b o (l++m)=HP.AA b o l*HP.AA b o' m:=by
 rw [HP.FM,h]
def JM(AI AG:Nat)(ks:List UInt8)(first:Bool)(gq:Nat):CC:=⟨AI,AG,ks,first,0,0,0,false,0,gq,false,.slice none 0 0,.slice none 0 0,0,0⟩
def Ki(AI AG:Nat)(ks:List UInt8)(first:Bool)(gq:Nat):List Value:=
 [iN AI,iN AG]++((AD ks++[u8 (Af first)])++((AD ks++[u8 (Af (!first))])++([uN 0]++([iN 0]++([uN 0]++([.bool false]++([uN 0]++([ptr gq 0]++([.bool false]++(AD (EJ [])++(AD (EF [])++([.slice none 0 0]++([.slice none 0 0]++([uN 0]++[uN 0]))))))))))))))
theorem yU(b AI AG:Nat)(ks:List UInt8)(hk:ks.length=16)(first:Bool)(gq:Nat):
  HP.AA b 0 (Ki AI AG ks first gq)=AQ b (JM AI AG ks first gq)*(AB b (0+43) (EJ []) []*AB b (0+83) (EF []) []):=by
 have h1:∀s:Value,(AD ks++[s]).length=17:=fun s=>by rw [J!,GO hk];rfl
 unfold Ki
 rw [F7 _ _ (rfl:0+2=0+2),F7 (o:=0+2) (o':=0+19) _ _ (by rw [h1]),F7 (o:=0+19) (o':=0+36) _ _ (by rw [h1]),
  F7 (o:=0+36) (o':=0+37) _ _ rfl,F7 (o:=0+37) (o':=0+38) _ _ rfl,F7 (o:=0+38) (o':=0+39) _ _ rfl,F7 (o:=0+39) (o':=0+40) _ _ rfl,F7 (o:=0+40) (o':=0+41) _ _ rfl,F7 (o:=0+41) (o':=0+42) _ _ rfl,
  F7 (o:=0+42) (o':=0+43) _ _ rfl,F7 (o:=0+43) (o':=0+83) _ _ rfl,F7 (o:=0+83) (o':=0+119) _ _ rfl,F7 (o:=0+119) (o':=0+120) _ _ rfl,F7 (o:=0+120) (o':=0+121) _ _ rfl,F7 (o:=0+121) (o':=0+122) _ _ rfl]
 unfold AQ AB JM;rw [M_,M_];ac_rfl
def Ry:List Value:=[.int .i64 0,.int .i64 0]++([.int .u8 0,.int .u8 0,.int .u8 0,.int .u8 0,.int .u8 0,.int .u8 0,.int .u8 0,.int .u8 0,.int .u8 0,.int .u8 0,.int .u8 0,.int .u8 0,.int .u8 0,.int .u8 0,.int .u8 0,.int .u8 0,.int .u8 0]++([.int .u8 0,.int .u8 0,.int .u8 0,.int .u8 0,.int .u8 0,.int .u8 0,.int .u8 0,.int .u8 0,.int .u8 0,.int .u8 0,.int .u8 0,.int .u8 0,.int .u8 0,.int .u8 0,.int .u8 0,.int .u8 0,.int .u8 0]++([uN 0]++([iN 0]++([uN 0]++([.bool false]++([uN 0]++([.pointer none]++([.bool false]++(AD (EJ [])++(AD (EF [])++([.slice none 0 0]++([.slice none 0 0]++([uN 0]++[uN 0]))))))))))))))
theorem lO:BQ Tryz.prog 184 (.agg Ry.toArray):=by
 have h:BQ Tryz.prog 184 _:=inferInstance;refine O_ (congrArg (BQ Tryz.prog 184) ?_) h;kernel_rfl
theorem OQ{ks:List UInt8}(hk:ks.length=16)(s:Value):(AD ks++[s]).length=17:=by
 rw [J!,GO hk];rfl
theorem j8(mt wi:Nat)(ks:List UInt8)(hk:ks.length=16)(first:Bool)(q37:Nat):
  IL #[(0,2),(2,17),(19,17),(36,1),(37,1),(38,1),(39,1),(40,1),(41,1),(42,1),(43,40),(83,36),(119,1),(120,1),(121,1),(122,1)] Ry
   [(0,.agg [iN mt,iN wi].toArray),(1,.agg (AD ks++[u8 (Af first)]).toArray),(2,.agg (AD ks++[u8 (Af (!first))]).toArray),(8,ptr q37 0)] (Ki mt wi ks first q37):=by
 have hl1:=OQ hk (u8 (Af first));have hl2:=OQ hk (u8 (Af (!first)));unfold Ry
 exact(Iz [] [.int .i64 0,.int .i64 0] ([.int .u8 0,.int .u8 0,.int .u8 0,.int .u8 0,.int .u8 0,.int .u8 0,.int .u8 0,.int .u8 0,.int .u8 0,.int .u8 0,.int .u8 0,.int .u8 0,.int .u8 0,.int .u8 0,.int .u8 0,.int .u8 0,.int .u8 0]++([.int .u8 0,.int .u8 0,.int .u8 0,.int .u8 0,.int .u8 0,.int .u8 0,.int .u8 0,.int .u8 0,.int .u8 0,.int .u8 0,.int .u8 0,.int .u8 0,.int .u8 0,.int .u8 0,.int .u8 0,.int .u8 0,.int .u8 0]++([uN 0]++([iN 0]++([uN 0]++([.bool false]++([uN 0]++([.pointer none]++([.bool false]++(AD (EJ [])++(AD (EF [])++([.slice none 0 0]++([.slice none 0 0]++([uN 0]++[uN 0])))))))))))))) [iN mt,iN wi] rfl rfl rfl rfl
 (Iz [iN mt,iN wi] [.int .u8 0,.int .u8 0,.int .u8 0,.int .u8 0,.int .u8 0,.int .u8 0,.int .u8 0,.int .u8 0,.int .u8 0,.int .u8 0,.int .u8 0,.int .u8 0,.int .u8 0,.int .u8 0,.int .u8 0,.int .u8 0,.int .u8 0] ([.int .u8 0,.int .u8 0,.int .u8 0,.int .u8 0,.int .u8 0,.int .u8 0,.int .u8 0,.int .u8 0,.int .u8 0,.int .u8 0,.int .u8 0,.int .u8 0,.int .u8 0,.int .u8 0,.int .u8 0,.int .u8 0,.int .u8 0]++([uN 0]++([iN 0]++([uN 0]++([.bool false]++([uN 0]++([.pointer none]++([.bool false]++(AD (EJ [])++(AD (EF [])++([.slice none 0 0]++([.slice none 0 0]++([uN 0]++[uN 0]))))))))))))) (AD ks++[u8 (Af first)]) (by rw [hl1];rfl) rfl (by rw [hl1];rfl) rfl
 (Iz ([iN mt,iN wi]++(AD ks++[u8 (Af first)])) [.int .u8 0,.int .u8 0,.int .u8 0,.int .u8 0,.int .u8 0,.int .u8 0,.int .u8 0,.int .u8 0,.int .u8 0,.int .u8 0,.int .u8 0,.int .u8 0,.int .u8 0,.int .u8 0,.int .u8 0,.int .u8 0,.int .u8 0] ([uN 0]++([iN 0]++([uN 0]++([.bool false]++([uN 0]++([.pointer none]++([.bool false]++(AD (EJ [])++(AD (EF [])++([.slice none 0 0]++([.slice none 0 0]++([uN 0]++[uN 0])))))))))))) (AD ks++[u8 (Af (!first))]) (by rw [J!,hl1,hl2];rfl) (by simp only [P!]) (by rw [hl2];rfl) rfl
 (Iz ([iN mt,iN wi]++((AD ks++[u8 (Af first)])++((AD ks++[u8 (Af (!first))])++[uN 0,iN 0,uN 0,.bool false,uN 0]))) [.pointer none] ([.bool false]++(AD (EJ [])++(AD (EF [])++[.slice none 0 0,.slice none 0 0,uN 0,uN 0]))) [ptr q37 0] (by simp only [J!,hl1,hl2];rfl) (by simp only [P!];rfl) rfl rfl
 (by unfold Ki;simp only [P!];exact Pz)))))
set_option maxHeartbeats 4000000 in
theorem m6(AI AG:Int)(ks:List UInt8)(hk:ks.length=16)(first:Bool)(H:HP):
  Fn Tryz.prog B 39 [.agg [.int .i64 AI,.int .i64 AG].toArray,.agg (AD ks).toArray,.bool first] H (fun v H'=>
   (¬Ic AI AG∧v=.tuple #[.pointer none,DZ 1]∧H'=H)∨
   (Ic AI AG∧∃cb m,m.ok∧m.s=AF.new AI.toNat AG.toNat ks first∧v=.tuple #[ptr cb 0,.nilIface]∧H'=AT cb m*H)):=by
 refine mI Tryz.func39 ?_;refine J2 ?_;refine Ag U6 rfl ?_;rintro _ _ ⟨b3,rfl,rfl⟩;refine KR ?_;rintro _ _ ⟨b4,rfl,rfl⟩;refine J9 ?_;refine JL (LJ (i:=AI) (j:=64) rfl rfl) ?_;refine J1 ?_;refine EL 13 rfl (fun hg1=>?_) (fun hg1=>?_)
 ·have g1:=hg1;refine MI ?_;refine JH T1 ?_;refine JL Fu ?_;refine J1 ?_;refine Kb ?_;refine Ga ?_;refine J1 ?_;refine Kb ?_;refine Ga ?_;refine Uf ?_;exact PP
 have g1:=hg1;refine PX ?_;refine JL (Za (i:=AI) (j:=300) rfl rfl) ?_;refine JL Eo ?_;refine J1 ?_;refine EL 18 rfl (fun hg2=>?_) (fun hg2=>?_)
 ·have g2:=hg2;refine JH T2 ?_;refine JH T2 ?_;refine JH T2 ?_;refine JL Hr ?_;refine J1 ?_;refine Kb ?_;refine Ga ?_;refine Uf ?_;exact PP
 have g2:=hg2;refine Yr ?_;refine J1 ?_;refine JG F2 ?_;refine JL (LJ (i:=AG) (j:=16) rfl rfl) ?_;refine JL HZ ?_;refine J1 ?_;refine EL 23 rfl (fun hg3=>?_) (fun hg3=>?_)
 ·have g3:=hg3;refine JH T3 ?_;refine JH T3 ?_;refine JH T3 ?_;refine JL S2 ?_;refine Uf ?_;exact PP
 have g3:=hg3;refine JG F3 ?_;refine J1 ?_;refine JG F3 ?_;refine J1 ?_;refine JG F3 ?_;refine JL (Za (i:=AG) (j:=1024) rfl rfl) ?_;refine JL (Gl F3 rfl rfl) ?_;refine J2 ?_;refine mC (fun g4=>?_) (fun g4=>?_)
 ·refine J2 ?_;refine JL Yt ?_;refine J6 ?_;exact PP
 obtain⟨mt,rfl⟩:∃mt:Nat,AI=mt:=⟨AI.toNat,Ca⟩
 obtain⟨wi,rfl⟩:∃wi:Nat,AG=wi:=⟨AG.toNat,Ca⟩
 have hl1:=OQ hk (u8 (Af first));have hl2:=OQ hk (u8 (Af (!first)));refine J3 ?_;refine mA 10 12 ?_;refine JT 0 rfl (Ds (l:=[iN mt,iN wi]) rfl rfl) ?_;refine JT 1 rfl SH ?_;refine Jm 2 ?_;refine JT 4 rfl SH ?_;refine Jm 5 ?_;refine JT 6 rfl LD ?_;refine Am 3 Cb rfl rfl (BJ rfl (Sj ks hk first _)) ?_;refine Ev ?_;refine Am 7 Cb rfl rfl (BJ rfl (Sj ks hk (!first) _)) ?_;refine Ev ?_;refine Am 8 Cb rfl rfl (BJ rfl (aS 8 _ Ca)) ?_;rintro _ _ ⟨q37,rfl,rfl⟩;refine A6 ?_;refine JT 9 rfl (Pu (hz:=lO) (cs:=Ki mt wi ks first q37) rfl (j8 mt wi ks hk first q37)) ?_;refine Am 10 Cb rfl rfl (Db (l:=Ki mt wi ks first q37) rfl rfl) ?_;rintro _ _ ⟨b39,rfl,rfl⟩;refine DW ?_;refine EV 11 Cb rfl rfl Fg ED ?_;refine JQ ?_;refine HW (HP.AA b39 0 (Ki mt wi ks first q37)*(AS q37 DC (.of 8)*H)) ?_;refine Ai (H':=AQ b39 (JM mt wi ks first q37)*(AB b39 (0+43) (EJ []) []*(AB b39 (0+83) (EF []) []*(AO Kq []*(AS q37 DC (.of 8)*H))))) (by rw [yU b39 mt wi ks hk,E9,HP.BI];ac_rfl) ?_;refine J1 ?_
 refine G3 ?_;refine Bm (α:=List E4) (fun l=>[(40,iN l.length),(8,ptr b39 0)]) (fun l=>AQ b39 (JM mt wi ks first q37)*(AB b39 (0+43) (EJ l) []*(AB b39 (0+83) (EF l) []*(AO Kq l*(AS q37 DC (.of 8)*H))))) (fun l=>l.length≤4) (fun l=>4-l.length) [] Ff Hd rfl ?_;rintro l hl;dsimp only at hl⊢;refine J2 ?_;refine JL (D4 (j:=4) rfl rfl) ?_;refine J3 ?_;refine mC (fun h41=>?_) (fun h41=>?_)
 ·refine Ai (H':=AQ b39 (JM mt wi ks first q37)*(HP.AA b39 (0+43+l.length*10) [.slice none 0 0,.pointer none,.pointer none,uN 0,.bool false,.bool false,.bool false,.bool false,uN 0,.bool false]*(Ix b39 (0+43) (EJ l) [] l.length*(HP.AA b39 (0+83+l.length*9) [.slice none 0 0,.pointer none,uN 0,uN 0,.bool false,.bool false,uN 0,uN 0,iN 0]*(Ix b39 (0+83) (EF l) [] l.length*(AO Kq l*(AS q37 DC (.of 8)*H))))))) (by rw [NN b39 (0+43) (EJ l) [] l.length AC.AH bW,NN b39 (0+83) (EF l) [] l.length AC.AH Um,kM l h41,tI l h41];show AQ b39 _*(HP.AA b39 (0+43+l.length*10) _*_*(HP.AA b39 (0+83+l.length*9) _*_*_))=_;ac_rfl) ?_;refine Bt ?_;refine Dx (AS q37 DC (.of 8)*H) 15 16 Dy rfl Cb ?_;refine EX ?_;refine Jm 2 ?_;refine Jm 3 ?_;refine Jn 6 ?_;refine Jf 7 ?_;refine Jn 11 ?_;refine Jf 12 ?_;refine Am 4 Cb rfl rfl PN ?_;rintro _ _ ⟨q47,rfl,rfl⟩;refine A6 ?_;refine Am 5 Cb rfl rfl PN ?_;rintro _ _ ⟨q48,rfl,rfl⟩;refine A6 ?_;refine JT 8 rfl Uk ?_;refine PH ?_;refine Ev ?_
  refine JT 13 rfl Uk ?_;refine Jf 14 ?_;refine DV 15 Cb rfl Eu ?_;refine DB ?_;refine J1 ?_;refine mA 7 8 ?_;refine EX ?_;refine Jn 3 ?_;refine Jf 4 ?_;refine Am 2 Cb rfl rfl PN ?_;rintro _ _ ⟨q59,rfl,rfl⟩;refine A6 ?_;refine JT 5 rfl Uk ?_;refine Jf 6 ?_;refine DV 7 Cb rfl Eu ?_;refine DB ?_;refine J3 ?_;refine E7 ?_;refine Bd (AQ b39 (JM mt wi ks first q37)*(AB b39 (0+43) (EJ (l++[⟨q47,q48,q59⟩])) []*(AB b39 (0+83) (EF (l++[⟨q47,q48,q59⟩])) []*(AO Kq (l++[⟨q47,q48,q59⟩])*(AS q37 DC (.of 8)*H))))) (hE:=?_) ?_
  ·rw [fP l _ h41,zF l _ h41,Ji,Fc,E9,MO b39 (0+43) (EJ l) [] l.length _ bW,MO b39 (0+83) (EF l) [] l.length _ Um]
   exact⟨fun ww hw=>O_ (by
    congr 1
    show _=AQ b39 (JM mt wi ks first q37)*(HP.AA b39 (0+43+l.length*10) [.slice none 0 0,ptr q47 0,ptr q48 0,uN 0,.bool false,.bool false,.bool false,.bool false,uN 0,.bool false]*Ix b39 (0+43) (EJ l) [] l.length*(HP.AA b39 (0+83+l.length*9) [.slice none 0 0,ptr q59 0,uN 0,uN 0,.bool false,.bool false,uN 0,uN 0,iN 0]*Ix b39 (0+83) (EF l) [] l.length*(AO Kq l*((AS q47 DC (.of 4096)*(AS q48 DC (.of 4096)*AS q59 DC (.of 4096)))*HP.BD)*(AS q37 DC (.of 8)*H))))
    rw [HP.GL]
    ac_rfl) hw⟩
  exact Ba (l++[⟨q47,q48,q59⟩]) (by rw [J!];exact h41) (by rw [J!];show 4-(l.length+1)<4-l.length;have:l.length<4:=h41;omega) (.cons P' OP) rfl
 have hl4:l.length=4:=by have:¬l.length<4:=h41;omega
 refine F5z ?_
 obtain⟨m,hm⟩:∃m:Ab,m=⟨(JM mt wi ks first q37),.of 8,DC,l.map I0,l.map I9,[],[],BR,BR⟩:=Bh
 have hmok:m.ok:=by
  rw [hm]
  exact⟨Nd 8,(fun w hw=>by obtain⟨z,_,rfl⟩:=O!.1 hw;exact⟨Dz,Nd 4096,Nd 4096⟩),(fun r hr=>by obtain⟨z,_,rfl⟩:=O!.1 hr;exact⟨Dz,Nd 4096⟩),
   (fun _ h=>nomatch h),(fun _ h=>nomatch h),Dz,Dz,rfl,rfl⟩
 have hms:m.s=AF.new mt wi ks first:=by
  rw [hm];unfold Ab.s AF.new;dsimp only
  have e1:(l.map I0).map (·.w)=O? 4 As:=by
   rw [V?,←hl4];exact T!.2 ⟨Cg,fun b hb=>by obtain⟨z,_,rfl⟩:=O!.1 hb;rfl⟩
  have e2:(l.map I9).map (·.r)=O? 4 FQ:=by
   rw [V?,←hl4];exact T!.2 ⟨Cg,fun b hb=>by obtain⟨z,_,rfl⟩:=O!.1 hb;rfl⟩
  rw [e1,e2];rfl
 exact mR [6,7] (AT b39 m*H) (hE:=⟨fun ww hw=>O_ (by
  congr 1
  rw [DJ,hm,kO]
  unfold AB A4 BU DN
  rw [pO l hl4,rN l hl4]
  show _=AQ b39 (JM mt wi ks first q37)*(AS q37 DC (.of 8)*(AB b39 (0+43) (l.map I0) []*AO Bl (l.map I0)*(AB b39 (0+83) (l.map I9) []*AO CE (l.map I9)*(BR.h ([]:List BB)*(BR.h ([]:List BB)*(AO A0 []*AO A0 []))*H))))
  rw [Gm,E9,HP.BI,HP.BI,HP.BI,HP.BI]
  unfold AB
  ac_rfl) hw⟩) rfl rfl (.inr ⟨⟨Ca,Ca,Ca,Ca⟩,b39,m,hmok,by rw [hms];rfl,rfl,rfl⟩)
end
section
variable{B:World}
structure La where
 kind:Int
 stream:Int
 AL:Int
 code:Nat
 data:ByteArray
structure D' where
 e:Nat
 at_:Int
 n:Nat
 code:Nat
 data:ByteArray
 A3:List ByteArray
def AF.Bv(c:AF)(q:La):D'×AF:=
 if q.kind=1 then(⟨(c.write q.stream q.data.data.toList).1.2,-1,(c.write q.stream q.data.data.toList).1.1,0,⟨#[]⟩,[]⟩,(c.write q.stream q.data.data.toList).2)
 else if q.kind=2 then(⟨(c.finish q.stream).1,-1,0,0,⟨#[]⟩,[]⟩,(c.finish q.stream).2)
 else if q.kind=3 then(⟨(c.giveUp q.stream q.code).1,-1,0,0,⟨#[]⟩,[]⟩,(c.giveUp q.stream q.code).2)
 else if q.kind=4 then(⟨0,-1,0,0,⟨#[]⟩,[]⟩,c.tick)
 else if q.kind=5 then(⟨0,-1,0,0,⟨#[]⟩,c.A3.1.map AX⟩,c.A3.2)
 else if q.kind=6 then(⟨(c.A5 q.data.data.toList).1.1,(c.A5 q.data.data.toList).1.2,0,0,⟨#[]⟩,[]⟩,(c.A5 q.data.data.toList).2)
 else if q.kind=7 then(⟨(c.read q.stream q.AL).1.2.2.2,-1,(c.read q.stream q.AL).1.2.1,(c.read q.stream q.AL).1.2.2.1,AX (c.read q.stream q.AL).1.1,[]⟩,(c.read q.stream q.AL).2)
 else if q.kind=8 then(⟨(c.close q.code).1,-1,0,0,⟨#[]⟩,[]⟩,(c.close q.code).2)
 else if q.kind=9 then(⟨(c.AE q.stream).2,-1,(c.AE q.stream).1,0,⟨#[]⟩,[]⟩,c)
 else(⟨0,-1,0,0,⟨#[]⟩,[]⟩,c)
theorem AZ.Bv{t:Nat}{c:AF}(h:AZ t c)(q:La):AZ (t+1) (c.Bv q).2:=by
 unfold AF.Bv;split
 ·exact(h.write _ _).mono ET
 split
 ·exact(h.finish _).mono ET
 split
 ·exact(h.giveUp _ _).mono ET
 split
 ·exact h.tick
 split
 ·exact h.A3
 split
 ·exact(h.A5 _ (fun n b e=>by have:=(PW e).2.2;omega)).mono ET
 split
 ·exact h.read _ _
 split
 ·exact(h.close _).mono ET
 split
 ·exact h.mono ET
 ·exact h.mono ET
@[reducible] def DT(q:La):List Value:=[.int .i64 q.kind,.int .i64 q.stream,.int .i64 q.AL,uN q.code,.string q.data]
@[reducible] instance:AC La:=⟨5,DT,⟨0,0,0,0,⟨#[]⟩⟩,fun _=>rfl,fun _ v h=>by
 simp at h;rcases h with rfl|rfl|rfl|rfl|rfl<;>rfl⟩
@[reducible] instance layStr:AC ByteArray:=⟨1,fun s=>[.string s],⟨#[]⟩,fun _=>rfl,fun _ v h=>by
 simp at h;rcases h with rfl;rfl⟩
structure Lg(B:World)(v:Value)(EH:HP)(e:Nat)(at_:Int):Prop where
 told:∀R,Fn Tryz.prog B 44 [v] (EH*R) (fun v' H'=>v'=.tuple #[iN e,.int .i64 at_]∧H'=EH*R)
 num:∀R,Fn Tryz.prog B 40 [v] (EH*R) (fun v' H'=>v'=iN e∧H'=EH*R)
theorem Lg.of(hG:B.cell? ⟨0,0,none⟩=some (CZ 106))(k:Nat):Lg B (DZ k) HP.BD k (-1):=by
 by_cases h:k=0
 ·subst h;exact⟨fun R=>by rw [HP.BI];exact VZ R,fun R=>by rw [HP.BI];exact YY R⟩
 ·rw [Qr h];exact⟨fun R=>by rw [HP.BI];exact aW hG k R,fun R=>by rw [HP.BI];exact U4 hG k R⟩
theorem LR.t(hG:B.cell? ⟨0,0,none⟩=some (CZ 106)){e:Nat}{at_:Int}{H H':HP}{v:Value}(h:LR e at_ H v H'):∃EH,H'=EH*H∧Lg B v EH e at_:=by
 rcases h with⟨rfl,rfl,rfl⟩|⟨q,a,rfl,rfl,rfl,rfl⟩
 ·exact⟨HP.BD,Cj,.of hG e⟩
 ·exact⟨Ec q 5 (iN a),rfl,fun R=>XY hG q 5 (iN a) R,fun R=>kT hG q 5 (iN a) R⟩
theorem iH{R H':HP}{xs:List UInt8}{sv:Value}(h:(xs=[]∧sv=.slice none 0 0∧H'=R)∨(xs≠ []∧B5 R xs sv H')):B5 R xs sv H':=by
 rcases h with⟨rfl,rfl,rfl⟩|⟨_,h⟩
 ·exact .nil _
 ·exact h
theorem jP(hG:B.cell? ⟨0,0,none⟩=some (CZ 106))(AI AG:Int)(ks:List UInt8)(hk:ks.length=16)(first:Bool)(H:HP):
  Fn Tryz.prog B 16 [.agg [.int .i64 AI,.int .i64 AG].toArray,.agg (AD ks).toArray,.bool first] H (fun v H'=>
   (¬Ic AI AG∧v=.tuple #[.pointer none,iN 1]∧H'=H)∨
   (Ic AI AG∧∃cb m,m.ok∧m.s=AF.new AI.toNat AG.toNat ks first∧v=.tuple #[ptr cb 0,iN 0]∧H'=AT cb m*H)):=by
 refine mI Tryz.func16 ?_;refine J2 ?_;refine Ag U6 rfl ?_;rintro _ _ ⟨b3,rfl,rfl⟩;refine KR ?_;rintro _ _ ⟨b4,rfl,rfl⟩;refine J1 ?_;refine Fd ?_;refine J4 ?_;refine JL (Ds (l:=[.int .i64 AI,.int .i64 AG]) rfl rfl) ?_;refine JL SH ?_;refine J1 ?_;refine mE rfl (m6 AI AG ks hk first _) ?_;intro v14 H14 h14
 obtain⟨pv,ev,rfl,hev⟩:∃pv ev,v14=.tuple #[pv,ev]∧((¬Ic AI AG∧pv=.pointer none∧ev=DZ 1∧H14=HP.AA b4 0 (AD ks)*(HP.AA b3 0 [.int .i64 AI,.int .i64 AG]*H))∨
   (Ic AI AG∧ev=DZ 0∧∃cb m,m.ok∧m.s=AF.new AI.toNat AG.toNat ks first∧pv=ptr cb 0∧H14=AT cb m*(HP.AA b4 0 (AD ks)*(HP.AA b3 0 [.int .i64 AI,.int .i64 AG]*H)))):=by
  rcases h14 with⟨a1,rfl,a2⟩|⟨a1,cb,m,a2,a3,rfl,a4⟩
  ·exact⟨_,_,rfl,.inl ⟨a1,rfl,rfl,a2⟩⟩
  ·exact⟨_,_,rfl,.inr ⟨a1,rfl,cb,m,a2,a3,rfl,a4⟩⟩
 obtain⟨ek,hek⟩:∃ek,Lg B ev HP.BD ek (-1)∧ek=if Ic AI AG then 0 else 1:=by
  rcases hev with⟨a1,_,rfl,_⟩|⟨a1,rfl,_⟩
  ·exact⟨1,.of hG 1,by rw [if_neg a1]⟩
  ·exact⟨0,.of hG 0,by rw [if_pos a1]⟩
 refine Bt ?_;refine A9 (H':=HP.BD*H14) Cj ?_;refine mE rfl (hek.1.num _) ?_;refine Il ?_;rw [hek.2];rcases hev with⟨a1,rfl,rfl,rfl⟩|⟨a1,rfl,cb,m,a2,a3,rfl,rfl⟩
 ·exact mR [6,7] H rfl rfl (.inl ⟨a1,by rw [if_neg a1];rfl,rfl⟩)
 ·exact mR [6,7] (AT cb m*H) rfl rfl (.inr ⟨a1,cb,m,a2,a3,by rw [if_pos a1];rfl,rfl⟩)
theorem WG(hG:B.cell? ⟨0,0,none⟩=some (CZ 106))(cb:Nat)(m:Ab)(R:HP):
  Fn Tryz.prog B 26 [ptr cb 0] (AT cb m*R) (fun v H'=>v=iN m.s.closed∧H'=AT cb m*R):=by
 refine mI Tryz.func26 ?_;refine Kh ?_;refine mE rfl (rZ cb m R) ?_;refine JR ?_;refine A9 (H':=HP.BD*(AT cb m*R)) Cj ?_;refine mE rfl ((Lg.of hG m.s.closed).num _) ?_;refine FB ?_;exact mR [2] (AT cb m*R) (hE:=by rw [HP.BI];infer_instance) rfl rfl BW
theorem XS{t:Nat}:∀(n:Nat) (z:BP),DU t z→(DM n z).out.length≤z.out.length+z.mu
 |0,z,h=>V_ _ _
 |n+1,z,h=>by
  rw [DM];split
  ·exact V_ _ _
  ·rename_i hne;obtain⟨h1,h2⟩:=h.step hne;have h3:=XS n _ h1
   have h4:z.step.out.length=z.out.length+1:=by show(z.out++[_]).length=_;rw [J!];rfl
   omega
theorem cL(ks:List UInt8)(side:UInt8)(n:UInt64)(xs:List UInt8):(Bc ks side n xs).length=xs.length+16:=by
 unfold Bc;rw [J!,J!,TN,TF,Yl];omega
theorem Ym{t:Nat}:∀(n:Nat) (z:BP),DU t z→(∀p∈z.out,p.length≤300)→∀p∈(DM n z).out,p.length≤300
 |0,z,h,ho=>ho
 |n+1,z,h,ho=>by
  rw [DM];split
  ·exact ho
  ·rename_i hne;obtain⟨h1,h2⟩:=h.step hne;refine Ym n _ h1 fun p hp=>?_;have hp':p∈z.out++[Bc z.c.ks (Af z.c.first) (L? z.c.next) z.filled.2.b]:=hp;rcases S?.1 hp' with hp|hp
   ·exact ho p hp
   ·rw [K!.1 hp,cL];have h3:=h.filled.H7.len;have h4:=h.filled.H7.room;omega
theorem wO{t:Nat}{c:AF}(h:AZ t c):∀p∈c.A3.1,p.length≤300:=by
 unfold AF.A3;split
 ·unfold AF.Fm;split
  ·intro p hp;cases hp
  ·intro p hp;rw [K!.1 hp,cL]
   have:=Rj c.code;omega
 ·exact Ym 40 _ (DU.begin h) (fun p hp=>nomatch hp)
theorem vF{t:Nat}{c:AF}(h:AZ t c)(k AL:Int):(c.read k AL).1.1.length≤1000000:=by
 unfold AF.read;split
 ·exact Mz
 ·rename_i hs;dsimp only;split
  ·show((c.Eg k.toNat).b.take _).length≤_;rw [Q_];rename_i hst
   have hk:k.toNat<4:=by
    unfold AF.stream at hs;split at hs
    ·omega
    split at hs
    ·omega
    ·omega
   have hr:=h.rs _ hk;have hw2:=h.w2
   have hb:(c.Eg k.toNat).b.length≤1024:=by
    unfold AF.Eg at hst⊢;by_cases hg:(c.r k.toNat).given=true
    ·by_cases h0:(c.r k.toNat).state=0
     ·rw [if_pos ⟨hg,h0⟩];exact T? _
     ·rw [if_neg (fun h=>h0 h.2)]at hst;exact absurd hst h0
    ·rw [if_neg (fun h=>hg h.1)];have h1:=hr.len T7;have h2:=hr.hw;omega
   omega
  ·exact Mz
theorem sL{t:Nat}{c:AF}(h:AZ t c):c.A3.1.length≤20:=by
 unfold AF.A3;split
 ·unfold AF.Fm;split<;>simp
 ·have hb:=DU.begin h;have h8:=XS 40 _ hb;have h9:=hb.tl
  have h10:(⟨{c with answer:=false},if c.answer then c.AP.l.reverse else [],[]⟩:BP).mu≤18:=by unfold BP.mu;omega
  have h11:(⟨{c with answer:=false},if c.answer then c.AP.l.reverse else [],[]⟩:BP).out.length=0:=rfl;dsimp only;omega
set_option maxHeartbeats 8000000 in
theorem vJ(hG:B.cell? ⟨0,0,none⟩=some (CZ 106))(cb t:Nat)(m:Ab)(q:La)(R:HP)(hm:m.ok)(hi:AZ t m.s)(ht:t<900000)(hd:q.data.size<90000000)(hmo2:q.AL<9223372036854775808):
  Fn Tryz.prog B 54 [ptr cb 0,.agg (DT q).toArray] (AT cb m*R) (fun v H'=>∃(m':Ab) (ps:A1),m'.ok∧m'.s=(m.s.Bv q).2∧ps.ok (m.s.Bv q).1.A3∧
   v=.tuple #[iN (m.s.Bv q).1.e,.int .i64 (m.s.Bv q).1.at_,iN (m.s.Bv q).1.n,uN (m.s.Bv q).1.code,.string (m.s.Bv q).1.data,.slice ps.p (m.s.Bv q).1.A3.length ps.c]∧H'=ps.h (m.s.Bv q).1.A3*(AT cb m'*R)):=by
 refine mI Tryz.func54 ?_;refine J2 ?_;refine Ag (Db (l:=DT q) rfl rfl) rfl ?_;rintro _ _ ⟨b3,rfl,rfl⟩;refine Fd ?_;refine Fd ?_;refine Fd ?_;refine Gu ?_;refine F5z ?_;refine Ag (Tw rfl) rfl ?_;rintro _ _ ⟨p17,b17,o17,c17,s17,rfl,hs17,hc17,rfl⟩;refine J5 ?_
 have hxl:q.data.data.toList.length<90000000:=(by rw [Array.length_toList];exact hd)
 refine Ai (H':=AT cb m*(AB b17 o17 q.data.data.toList s17*(HP.AA b3 0 (DT q)*R))) Cf ?_;refine J8 ?_;refine JL (C4 (i:=q.kind) (j:=1) rfl rfl) ?_;refine J3 ?_;refine CO (α:=Ab×HP×Value×D'×A1) (fun z=>[(0,ptr cb 0),(11,.slice p17 q.data.data.toList.length c17),(10,z.2.2.1),(6,iN z.2.2.2.1.n),(7,uN z.2.2.2.1.code),(8,.string z.2.2.2.1.data),(9,.slice z.2.2.2.2.p z.2.2.2.1.A3.length z.2.2.2.2.c)]) (fun z=>AB b17 o17 q.data.data.toList s17*(z.2.1*(z.2.2.2.2.h z.2.2.2.1.A3*(AT cb z.1*R)))) (fun z=>z.1.ok∧m.s.Bv q=(z.2.2.2.1,z.1.s)∧Lg B z.2.2.1 z.2.1 z.2.2.2.1.e z.2.2.2.1.at_∧z.2.2.2.2.ok z.2.2.2.1.A3) ?_ ?_
 ·refine mC (fun k1=>?_) (fun k1=>?_)
  ·refine J5 ?_;refine mE rfl (kU cb t m q.stream q.data.data.toList p17 b17 o17 c17 _ hm hi hs17 inferInstance) ?_;rintro _ _ ⟨m2,hmo,hms,rfl,rfl⟩;refine J6 ?_
   have hdo:m.s.Bv q=((⟨(m.s.write q.stream q.data.data.toList).1.2,-1,(m.s.write q.stream q.data.data.toList).1.1,0,⟨#[]⟩,[]⟩:D'),m2.s):=by
    unfold AF.Bv;rw [if_pos k1];rw [hms]
   exact Bd (AB b17 o17 q.data.data.toList s17*(HP.BD*(A1.h BR ([]:List ByteArray)*(AT cb m2*R)))) (hE:=LG) (A8 (m2,HP.BD,DZ (m.s.write q.stream q.data.data.toList).1.2,(⟨(m.s.write q.stream q.data.data.toList).1.2,-1,(m.s.write q.stream q.data.data.toList).1.1,0,⟨#[]⟩,[]⟩:D'),BR) ⟨hmo,hdo,.of hG _,Dz⟩ Gv rfl)
  refine J2 ?_;refine JL (C4 (i:=q.kind) (j:=2) rfl rfl) ?_;refine J3 ?_;refine mC (fun k2=>?_) (fun k2=>?_)
  ·refine J4 ?_;refine mE rfl (zQ cb t m q.stream _ hm hi) ?_;rintro _ _ ⟨m2,hmo,hms,rfl,rfl⟩;refine J2 ?_
   have hdo:m.s.Bv q=((⟨(m.s.finish q.stream).1,-1,0,0,⟨#[]⟩,[]⟩:D'),m2.s):=by
    unfold AF.Bv;rw [if_neg k1,if_pos k2];rw [hms]
   exact Bd (AB b17 o17 q.data.data.toList s17*(HP.BD*(A1.h BR ([]:List ByteArray)*(AT cb m2*R)))) (hE:=LG) (A8 (m2,HP.BD,DZ (m.s.finish q.stream).1,(⟨(m.s.finish q.stream).1,-1,0,0,⟨#[]⟩,[]⟩:D'),BR) ⟨hmo,hdo,.of hG _,Dz⟩ Gv rfl)
  refine J2 ?_;refine JL (C4 (i:=q.kind) (j:=3) rfl rfl) ?_;refine J3 ?_;refine mC (fun k3=>?_) (fun k3=>?_)
  ·refine J6 ?_;refine mE rfl (sI cb t m q.stream q.code _ hm hi) ?_;rintro _ _ ⟨m2,hmo,hms,rfl,rfl⟩;refine J2 ?_
   have hdo:m.s.Bv q=((⟨(m.s.giveUp q.stream q.code).1,-1,0,0,⟨#[]⟩,[]⟩:D'),m2.s):=by
    unfold AF.Bv;rw [if_neg k1,if_neg k2,if_pos k3];rw [hms]
   exact Bd (AB b17 o17 q.data.data.toList s17*(HP.BD*(A1.h BR ([]:List ByteArray)*(AT cb m2*R)))) (hE:=LG) (A8 (m2,HP.BD,DZ (m.s.giveUp q.stream q.code).1,(⟨(m.s.giveUp q.stream q.code).1,-1,0,0,⟨#[]⟩,[]⟩:D'),BR) ⟨hmo,hdo,.of hG _,Dz⟩ Gv rfl)
  refine J2 ?_;refine JL (C4 (i:=q.kind) (j:=4) rfl rfl) ?_;refine J3 ?_;refine mC (fun k4=>?_) (fun k4=>?_)
  ·refine J2 ?_;refine mE rfl (kL cb t m _ hm hi Ca) ?_;rintro _ _ ⟨m2,hmo,hms,rfl⟩;refine J1 ?_
   have hdo:m.s.Bv q=((⟨0,-1,0,0,⟨#[]⟩,[]⟩:D'),m2.s):=by
    unfold AF.Bv;rw [if_neg k1,if_neg k2,if_neg k3,if_pos k4];rw [hms]
   exact Bd (AB b17 o17 q.data.data.toList s17*(HP.BD*(A1.h BR ([]:List ByteArray)*(AT cb m2*R)))) (hE:=LG) (A8 (m2,HP.BD,DZ 0,(⟨0,-1,0,0,⟨#[]⟩,[]⟩:D'),BR) ⟨hmo,hdo,.of hG 0,Dz⟩ Gv rfl)
  refine J2 ?_;refine JL (C4 (i:=q.kind) (j:=5) rfl rfl) ?_;refine J3 ?_;refine mC (fun k5=>?_) (fun k5=>?_)
  ·refine J3 ?_;refine mE rfl (zK cb t m _ hm hi Ca) ?_;rintro _ _ ⟨m2,hmo,hms,pk,hpk,rfl,rfl⟩
   have hpl:pk.l.length≤20:=(by have h7:=congrArg V! hpk.map;rw [K?]at h7;have h8:=sL hi;omega)
   refine Je ?_
   refine Bm (α:=Nat×A1) (fun z=>[(53,iN z.1),(52,iN pk.l.length),(51,pk.v),(0,ptr cb 0),(10,.nilIface),(11,.slice p17 q.data.data.toList.length c17),(6,iN 0),(7,uN 0),(8,.string ⟨#[]⟩),(9,.slice z.2.p (((m.s.A3.1).take z.1).map AX).length z.2.c)]) (fun z=>A1.h z.2 (((m.s.A3.1).take z.1).map AX)*(pk.a.h pk.l*(AO Gz (pk.l.drop z.1)*(AT cb m2*(AB b17 o17 q.data.data.toList s17*(HP.AA b3 0 (DT q)*R)))))) (fun z=>z.1≤pk.l.length∧z.2.ok (((m.s.A3.1).take z.1).map AX)) (fun z=>pk.l.length-z.1) (0,BR) ⟨T? _,Dz⟩ (.cons rfl LY) (by
    show _=BR.h ([]:List ByteArray)*(pk.a.h pk.l*(AO Gz pk.l*_))
    rw [Gm,HP.BI];unfold DS;ac_rfl) ?_
   rintro⟨i,sk⟩ ⟨hi1,hsk⟩;dsimp only at hi1 hsk⊢;refine J6 ?_;refine mC (fun h54=>?_) (fun h54=>?_)
   ·have hpkm:=hpk.l _ (I' (d:=AC.AH) h54)
    have hpyl:(pk.l.getD i AC.AH).ys.length<1000000:=by
     have h7:(pk.l.getD i AC.AH).ys∈m.s.A3.1:=by rw [←hpk.map];exact O!.2 ⟨_,I' h54,rfl⟩
     have:=wO hi _ h7;omega
    have hsl:(((m.s.A3.1).take i).map AX).length≤20:=by rw [K?,Q_];have h7:i<pk.l.length:=h54;omega
    refine Ai (H':=A1.h sk (((m.s.A3.1).take i).map AX)*(pk.a.h pk.l*(AB (pk.l.getD i AC.AH).a.b (pk.l.getD i AC.AH).a.o (pk.l.getD i AC.AH).ys (pk.l.getD i AC.AH).a.s*(AO Gz (pk.l.drop (i+1))*(AT cb m2*(AB b17 o17 q.data.data.toList s17*(HP.AA b3 0 (DT q)*R))))))) (by
     rw [List.drop_eq_getElem_cons h54,Fc]
     rw [show pk.l.getD i AC.AH=pk.l[i] by rw [K_,L! h54];rfl]
     unfold Gz
     ac_rfl) ?_
    refine J6 ?_;refine JL (CU rfl rfl hpk.a.1 h54) ?_;refine JL (Ay (v':=.slice (pk.l.getD i AC.AH).a.p (pk.l.getD i AC.AH).ys.length (pk.l.getD i AC.AH).a.c) (D8 (f:=0) (xs:=pk.l) rfl inferInstance rfl h54) rfl) ?_;refine J7 ?_;refine JL (MF rfl hpkm.1 inferInstance) ?_;refine Ag (Gq (cs:=[.string (AX (pk.l.getD i AC.AH).ys)]) rfl Cp rfl rfl) rfl ?_;rintro _ _ ⟨b60,rfl,rfl⟩;refine A9 (H':=AB sk.b sk.o (((m.s.A3.1).take i).map AX) sk.s*(HP.AA b60 0 (AD [AX (pk.l.getD i AC.AH).ys])*(AB (pk.l.getD i AC.AH).a.b (pk.l.getD i AC.AH).a.o (pk.l.getD i AC.AH).ys (pk.l.getD i AC.AH).a.s*(pk.a.h pk.l*(AO Gz (pk.l.drop (i+1))*(AT cb m2*(AB b17 o17 q.data.data.toList s17*(HP.AA b3 0 (DT q)*R)))))))) (by show HP.AA b60 0 [_]*_=_;rw [show AD [AX (pk.l.getD i AC.AH).ys]=[.string (AX (pk.l.getD i AC.AH).ys)]from rfl];unfold A1.h;ac_rfl) ?_;refine Ag (CX (ys:=[AX (pk.l.getD i AC.AH).ys]) (bb:=b60) (oo:=0) (cc:=1) rfl hsk.1 hsk.2 rfl CG inferInstance rfl Cn Ca) rfl ?_;rintro _ _ ⟨p61,b61,o61,c61,s61,rfl,hs61,hc61,rfl⟩;refine J5 ?_
    refine A9 (H':=AB (pk.l.getD i AC.AH).a.b (pk.l.getD i AC.AH).a.o (pk.l.getD i AC.AH).ys (pk.l.getD i AC.AH).a.s*(AB b61 o61 (((m.s.A3.1).take i).map AX++[AX (pk.l.getD i AC.AH).ys]) s61*(HP.AA b60 0 (AD [AX (pk.l.getD i AC.AH).ys])*(pk.a.h pk.l*(AO Gz (pk.l.drop (i+1))*(AT cb m2*(AB b17 o17 q.data.data.toList s17*(HP.AA b3 0 (DT q)*R)))))))) Cf ?_;refine mE rfl (M8 _ _ _ _ _ (pk.l.getD i AC.AH).ys _ _ hpkm.1 rfl Ca) ?_;rintro _ _ ⟨ys63,hys63,rfl⟩;refine Hp ?_
    have hpn:((m.s.A3.1).take (i+1)).map AX=((m.s.A3.1).take i).map AX++[AX (pk.l.getD i AC.AH).ys]:=by
     have h7:(m.s.A3.1)[i]?=some (pk.l.getD i AC.AH).ys:=by
      rw [←hpk.map,L_,L! h54,K_,L! h54];rfl
     have h8:i<(m.s.A3.1).length:=by rw [←hpk.map,K?];exact h54
     rw [List.take_succ_eq_append_getElem h8,M!];rw [L! h8]at h7;rw [Option.some.inj h7];rfl
    refine Bd (A1.h ⟨p61,b61,o61,c61,s61⟩ (((m.s.A3.1).take (i+1)).map AX)*(pk.a.h pk.l*(AO Gz (pk.l.drop (i+1))*(AT cb m2*(AB b17 o17 q.data.data.toList s17*(HP.AA b3 0 (DT q)*R)))))) (hE:=⟨fun ww hw=>Sat.right (A:=HP.AA b60 0 (AD [AX (pk.l.getD i AC.AH).ys])*AB (pk.l.getD i AC.AH).a.b (pk.l.getD i AC.AH).a.o ys63 (pk.l.getD i AC.AH).a.s) (O_ (by congr 1;rw [hpn];unfold A1.h;ac_rfl) hw)⟩) ?_;exact Ba (i+1,⟨p61,b61,o61,c61,s61⟩) ⟨h54,by rw [hpn];exact⟨hs61,hc61⟩⟩ (by show pk.l.length-(i+1)<pk.l.length-i;have h7:i<pk.l.length:=h54;omega) (.cons rfl (.cons rfl (.cons rfl (.cons rfl (.cons rfl (.cons rfl (.cons rfl (.cons rfl (.cons rfl (.cons (by rw [hpn];rfl) .nil)))))))))) rfl
   obtain rfl:i=pk.l.length:=by have h7:¬i<pk.l.length:=h54;omega
   obtain⟨psk,hpske⟩:∃psk:A1,psk=sk:=Bh
   have htk:(m.s.A3.1).take pk.l.length=m.s.A3.1:=by rw [List.take_of_length_le (by rw [←hpk.map,K?];exact N_ _)]
   rw [htk]at hsk⊢
   have hpsk:psk.ok (m.s.A3.1.map AX):=by rw [hpske];exact hsk
   rw [←hpske];refine J4 ?_
   have hdo:m.s.Bv q=((⟨0,-1,0,0,⟨#[]⟩,m.s.A3.1.map AX⟩:D'),m2.s):=by
    unfold AF.Bv;rw [if_neg k1,if_neg k2,if_neg k3,if_neg k4,if_pos k5];rw [hms]
   exact Bd (AB b17 o17 q.data.data.toList s17*(HP.BD*(A1.h psk (m.s.A3.1.map AX:List ByteArray)*(AT cb m2*R)))) (hE:=⟨fun ww hw=>Sat.right (A:=HP.AA b3 0 (DT q)*(pk.a.h pk.l*AO Gz (pk.l.drop pk.l.length))) (O_ (by congr 1;rw [HP.BI];ac_rfl) hw)⟩) (A8 (m2,HP.BD,DZ 0,(⟨0,-1,0,0,⟨#[]⟩,m.s.A3.1.map AX⟩:D'),psk) ⟨hmo,hdo,.of hG 0,hpsk⟩ Gv rfl)
  refine J2 ?_;refine JL (C4 (i:=q.kind) (j:=6) rfl rfl) ?_;refine J3 ?_;refine mC (fun k6=>?_) (fun k6=>?_)
  ·refine J3 ?_;refine mE rfl (qO cb t m q.data.data.toList p17 b17 o17 c17 _ hm hi Ca hs17 inferInstance hxl) ?_;rintro ev _ ⟨m2,hmo,hms,her⟩;obtain⟨EH,rfl,heT⟩:=her.t hG;refine J2 ?_
   have hdo:m.s.Bv q=((⟨(m.s.A5 q.data.data.toList).1.1,(m.s.A5 q.data.data.toList).1.2,0,0,⟨#[]⟩,[]⟩:D'),m2.s):=by
    unfold AF.Bv;rw [if_neg k1,if_neg k2,if_neg k3,if_neg k4,if_neg k5,if_pos k6];rw [hms]
   exact Bd (AB b17 o17 q.data.data.toList s17*(EH*(A1.h BR ([]:List ByteArray)*(AT cb m2*R)))) (hE:=⟨fun ww hw=>Sat.right (A:=HP.AA b3 0 (DT q)) (O_ (by congr 1;rw [Gm,HP.BI];ac_rfl) hw)⟩) (A8 (m2,EH,ev,(⟨(m.s.A5 q.data.data.toList).1.1,(m.s.A5 q.data.data.toList).1.2,0,0,⟨#[]⟩,[]⟩:D'),BR) ⟨hmo,hdo,heT,Dz⟩ Gv rfl)
  refine J2 ?_;refine JL (C4 (i:=q.kind) (j:=7) rfl rfl) ?_;refine J3 ?_;refine mC (fun k7=>?_) (fun k7=>?_)
  ·refine DP ?_;refine mE rfl (qM cb t m q.stream q.AL _ hm hi Ca hmo2) ?_;rintro _ _ ⟨m2,hmo,sv,hms,rfl,hsv⟩;obtain⟨p78,b78,o78,c78,s78,rfl,hs78,hc78,rfl⟩:=iH hsv;have hrl:=vF hi q.stream q.AL;refine Gt ?_;refine JL (MF rfl hs78 inferInstance) ?_;refine J5 ?_;refine mE rfl (M8 p78 b78 o78 c78 _ (m.s.read q.stream q.AL).1.1 _ _ hs78 rfl Ca) ?_;rintro _ _ ⟨ys86,hys86,rfl⟩;refine J1 ?_
   have hdo:m.s.Bv q=((⟨(m.s.read q.stream q.AL).1.2.2.2,-1,(m.s.read q.stream q.AL).1.2.1,(m.s.read q.stream q.AL).1.2.2.1,AX (m.s.read q.stream q.AL).1.1,[]⟩:D'),m2.s):=by
    unfold AF.Bv;rw [if_neg k1,if_neg k2,if_neg k3,if_neg k4,if_neg k5,if_neg k6,if_pos k7];rw [hms]
   exact Bd (AB b17 o17 q.data.data.toList s17*(HP.BD*(A1.h BR ([]:List ByteArray)*(AT cb m2*R)))) (hE:=⟨fun ww hw=>Sat.right (A:=HP.AA b3 0 (DT q)*AB b78 o78 ys86 s78) (O_ Z5 hw)⟩) (A8 (m2,HP.BD,DZ (m.s.read q.stream q.AL).1.2.2.2,(⟨(m.s.read q.stream q.AL).1.2.2.2,-1,(m.s.read q.stream q.AL).1.2.1,(m.s.read q.stream q.AL).1.2.2.1,AX (m.s.read q.stream q.AL).1.1,[]⟩:D'),BR) ⟨hmo,hdo,.of hG _,Dz⟩ Gv rfl)
  refine J2 ?_;refine JL (C4 (i:=q.kind) (j:=8) rfl rfl) ?_;refine J3 ?_;refine mC (fun k8=>?_) (fun k8=>?_)
  ·refine J4 ?_;refine mE rfl (tB cb m q.code _ hm) ?_;rintro _ _ ⟨m2,hmo,hms,rfl,rfl⟩;refine J2 ?_
   have hdo:m.s.Bv q=((⟨(m.s.close q.code).1,-1,0,0,⟨#[]⟩,[]⟩:D'),m2.s):=by
    unfold AF.Bv;rw [if_neg k1,if_neg k2,if_neg k3,if_neg k4,if_neg k5,if_neg k6,if_neg k7,if_pos k8];rw [hms]
   exact Bd (AB b17 o17 q.data.data.toList s17*(HP.BD*(A1.h BR ([]:List ByteArray)*(AT cb m2*R)))) (hE:=LG) (A8 (m2,HP.BD,DZ (m.s.close q.code).1,(⟨(m.s.close q.code).1,-1,0,0,⟨#[]⟩,[]⟩:D'),BR) ⟨hmo,hdo,.of hG _,Dz⟩ Gv rfl)
  refine J2 ?_;refine JL (C4 (i:=q.kind) (j:=9) rfl rfl) ?_;refine J3 ?_;refine mC (fun k9=>?_) (fun k9=>?_)
  ·refine J4 ?_;refine mE rfl (jW cb t m q.stream _ hm hi) ?_;refine Ik ?_
   have hdo:m.s.Bv q=((⟨(m.s.AE q.stream).2,-1,(m.s.AE q.stream).1,0,⟨#[]⟩,[]⟩:D'),m.s):=by
    unfold AF.Bv;rw [if_neg k1,if_neg k2,if_neg k3,if_neg k4,if_neg k5,if_neg k6,if_neg k7,if_neg k8,if_pos k9]
   exact Bd (AB b17 o17 q.data.data.toList s17*(HP.BD*(A1.h BR ([]:List ByteArray)*(AT cb m*R)))) (hE:=LG) (A8 (m,HP.BD,DZ (m.s.AE q.stream).2,(⟨(m.s.AE q.stream).2,-1,(m.s.AE q.stream).1,0,⟨#[]⟩,[]⟩:D'),BR) ⟨hm,hdo,.of hG _,Dz⟩ Gv rfl)
  refine J1 ?_
  have hdo:m.s.Bv q=((⟨0,-1,0,0,⟨#[]⟩,[]⟩:D'),m.s):=by
   unfold AF.Bv;rw [if_neg k1,if_neg k2,if_neg k3,if_neg k4,if_neg k5,if_neg k6,if_neg k7,if_neg k8,if_neg k9]
  exact Bd (AB b17 o17 q.data.data.toList s17*(HP.BD*(A1.h BR ([]:List ByteArray)*(AT cb m*R)))) (hE:=LG) (A8 (m,HP.BD,DZ 0,(⟨0,-1,0,0,⟨#[]⟩,[]⟩:D'),BR) ⟨hm,hdo,.of hG 0,Dz⟩ Gv rfl)
 ·rintro⟨m2,EH,ev,res,ps⟩ ⟨hmo,hdo,heT,hps⟩;dsimp only at hmo hdo heT hps⊢;refine J5 ?_;refine mE rfl (M8 p17 b17 o17 c17 _ q.data.data.toList s17 _ hs17 rfl Ca) ?_;rintro _ _ ⟨ys103,hys103,rfl⟩;refine J5 ?_;refine A9 (H':=EH*(AB b17 o17 ys103 s17*(ps.h res.A3*(AT cb m2*R)))) Cf ?_;refine mE rfl (heT.told _) ?_;refine JR ?_;refine sM ?_;exact mR [4,5,6,7,8,9] (ps.h res.A3*(AT cb m2*R)) rfl rfl ⟨m2,ps,hmo,by rw [hdo],by rw [hdo];exact hps,by rw [hdo];rfl,by rw [hdo]⟩
end
section
section
variable{P:Program}{B:World}{n:Nat}{E:A2}{D:Bu}{H:HP}{d:Option Tmp}{T T' ty:TypeId}{pos:String}{af:Array Edge}{g:Option (Nat×Bool)}{x y z u:Operand}
theorem Tt{s t:List UInt8}(hx:ev E x=some (.string (AX s)))(hy:ev E y=some (.string (AX t)))(h:s.length+t.length<9223372036854775808):
  Aa P B n ⟨d,.binOp .add T x y T',ty,pos,af,g⟩ E H (.string (AX (s++t))):=by
 intro a w he _
 have h2:¬((((AX s).size+(AX t).size:Nat):Int)> IntKind.i64.max):=by rw [En,En];have:IntKind.i64.max=9223372036854775807:=rfl;omega
 have h3:(binOp .add T (.string (AX s)) (.string (AX t))).run P w=.ok (.string (AX (s++t))) w:=by
  simp only [binOp_string_add,Op.stringOp,if_neg h2,Sem.run_pure];rw [show AX s++AX t=AX (s++t) by unfold AX;apply ByteArray.ext;rw [ByteArray.data_append];simp]
 have h1:(eqGuard .add T x y (.string (AX s)) (.string (AX t))).run P w=.ok () w:=rfl;simp only [execOp,he.ev hx,he.ev hy,Sem.run_bind,h1,Result.andThen_ok,h3,Sem.run_pure]
theorem RN{s:ByteArray}{i:Nat}{ik:IntKind}[hT:Au P T .string](hx:ev E x=some (.string s))(hy:ev E y=some (.int ik i))(hi:i<s.size):
  Aa P B n ⟨d,.index T x y,ty,pos,af,g⟩ E H (u8 (s.data.toList.getD i 0)):=by
 intro a w he _
 have h0:(0:Int)≤(i:Nat):=by omega
 have h1:s[i]?=some s[i]:=by simp [hi]
 simp only [execOp,he.ev hx,he.ev hy,Instr.index,asIntOf,Sem.run_bind,Sem.run_pure,Result.andThen_ok,Bk hT.get,h0,if_true,Int.toNat_natCast,h1]
 have h2:s.data.toList.getD i 0=s[i]:=by
  rw [K_,Array.getElem?_toList]
  have:s.data[i]?=some s[i]:=by
   have h3:i<s.data.size:=hi;rw [Array.getElem?_eq_getElem h3];rfl
  rw [this];rfl
 rw [h2]
end
theorem QX(b:List UInt8)(l h:Nat)(hh:h≤b.length):(AX b).extract l h=AX ((b.take h).drop l):=by
 unfold AX;apply ByteArray.ext;rw [ByteArray.data_extract];apply Array.ext';simp only [Array.toList_extract,List.extract_eq_take_drop];rw [List.drop_take]
structure D2 where
 q:Nat
 o:D5
@[reducible] instance layEnd:AC D2:=⟨1,fun m=>[ptr m.q 0],⟨0,Dq⟩,fun _=>rfl,fun _ v h=>by simp at h;rcases h with rfl;rfl⟩
@[reducible] def ND(o:D5):List Value:=[.string (AX o.wrote),.bool o.finished,.bool o.given,uN o.code,iN o.read,iN o.state,iN o.AE]
def A7(q:Nat)(o:D5):HP:=HP.AA q 0 (ND o)
section
variable(q:Nat)(o:D5)
instance:Cell (A7 q o) q (0+0) (.string (AX o.wrote)) True:=by unfold A7;infer_instance
instance:Cell (A7 q o) q (0+1) (.bool o.finished) True:=by unfold A7;infer_instance
instance:Cell (A7 q o) q (0+2) (.bool o.given) True:=by unfold A7;infer_instance
instance:Cell (A7 q o) q (0+3) (uN o.code) True:=by unfold A7;infer_instance
instance:Cell (A7 q o) q (0+4) (iN o.read) True:=by unfold A7;infer_instance
instance:Cell (A7 q o) q (0+5) (iN o.state) True:=by unfold A7;infer_instance
instance:Cell (A7 q o) q (0+6) (iN o.AE) True:=by unfold A7;infer_instance
instance(v:List UInt8):CP (A7 q o) q (0+0) (.string (AX v)) (A7 q {o with wrote:=v}) True:=by unfold A7;infer_instance
instance(v:Bool):CP (A7 q o) q (0+1) (.bool v) (A7 q {o with finished:=v}) True:=by unfold A7;infer_instance
instance(v:Bool):CP (A7 q o) q (0+2) (.bool v) (A7 q {o with given:=v}) True:=by unfold A7;infer_instance
instance(v:Nat):CP (A7 q o) q (0+3) (uN v) (A7 q {o with code:=v}) True:=by unfold A7;infer_instance
instance(v:Nat):CP (A7 q o) q (0+4) (iN v) (A7 q {o with read:=v}) True:=by unfold A7;infer_instance
instance(v:Nat):CP (A7 q o) q (0+5) (iN v) (A7 q {o with state:=v}) True:=by unfold A7;infer_instance
instance(v:Nat):CP (A7 q o) q (0+6) (iN v) (A7 q {o with AE:=v}) True:=by unfold A7;infer_instance
end
def GD(m:D2):HP:=A7 m.q m.o
structure Dc where
 a:A1
 es:List D2
@[reducible] instance layRow:AC Dc:=⟨1,fun r=>[.slice r.a.p r.es.length r.a.c],⟨⟨none,0,0,0,[]⟩,[]⟩,fun _=>rfl,fun _ v h=>by simp at h;rcases h with rfl;rfl⟩
def CK(r:Dc):HP:=AB r.a.b r.a.o r.es r.a.s*AO GD r.es
structure CM where
 cb:Nat
 c:Ab
@[reducible] instance layCM:AC CM:=⟨1,fun m=>[ptr m.cb 0],⟨0,⟨⟨0,0,[],false,0,0,0,false,0,0,false,.nilIface,.nilIface,0,0⟩,.of 8,DC,[],[],[],[],⟨none,0,0,0,[]⟩,⟨none,0,0,0,[]⟩⟩⟩,fun _=>rfl,fun _ v h=>by simp at h;rcases h with rfl;rfl⟩
def CJ(m:CM):HP:=AT m.cb m.c
structure ES where
 to:Nat
 b:ByteArray
@[reducible] def GX(f:ES):List Value:=[iN f.to,.string f.b]
@[reducible] instance layFlt:AC ES:=⟨2,GX,⟨0,⟨#[]⟩⟩,fun _=>rfl,fun _ v h=>by simp at h;rcases h with rfl|rfl<;>rfl⟩
structure NC where
 xv:Value
 ev:Value
 AI:Nat
 AG:Nat
 ks:List UInt8
 bv:Value
 cv:Value
def At(nb:Nat)(x:NC):HP:=
 HP.AA nb (0+0) [x.xv]*(HP.AA nb (0+1) [x.ev]*(HP.AA nb (0+2) [iN x.AI,iN x.AG]*(HP.AA nb (0+4) (AD x.ks)*(HP.AA nb (0+20) [x.bv]*HP.AA nb (0+21) [x.cv]))))
section
variable(nb:Nat)(x:NC)
instance:Cell (At nb x) nb (0+0) x.xv True:=by unfold At;infer_instance
instance:Cell (At nb x) nb (0+1) x.ev True:=by unfold At;infer_instance
instance:Cell (At nb x) nb (0+2+0) (iN x.AI) True:=by unfold At;infer_instance
instance:Cell (At nb x) nb (0+2+1) (iN x.AG) True:=by unfold At;infer_instance
instance:Cell (At nb x) nb (0+20) x.bv True:=by unfold At;infer_instance
instance:Cell (At nb x) nb (0+21) x.cv True:=by unfold At;infer_instance
instance(v:Value):CP (At nb x) nb (0+0) v (At nb {x with xv:=v}) True:=by unfold At;infer_instance
instance(v:Value):CP (At nb x) nb (0+1) v (At nb {x with ev:=v}) True:=by unfold At;infer_instance
instance(v:Value):CP (At nb x) nb (0+20) v (At nb {x with bv:=v}) True:=by unfold At;infer_instance
instance(v:Value):CP (At nb x) nb (0+21) v (At nb {x with cv:=v}) True:=by unfold At;infer_instance
end
instance rowNC(nb:Nat)(x:NC):Hh (At nb x) nb (0+4) (AD x.ks) (HP.AA nb (0+0) [x.xv]*(HP.AA nb (0+1) [x.ev]*(HP.AA nb (0+2) [iN x.AI,iN x.AG]*(HP.AA nb (0+20) [x.bv]*HP.AA nb (0+21) [x.cv])))):=⟨by unfold At;ac_rfl⟩
structure NM where
 x:NC
 cs:List CM
 rows:List Dc
 AJ:List ES
 cnt:List EQ
 xa:A1
 ea:A1
 ba:A1
 ca:A1
def NM.n(w:NM):AN:=⟨w.cs.map (·.c.s),w.rows.map (fun r=>r.es.map (·.o)),w.x.AI,w.x.AG,w.x.ks,w.AJ.map (fun f=>(f.to,f.b)),w.cnt.map (·.n)⟩
structure NM.ok(w:NM):Prop where
 xa:w.xa.ok w.cs
 ea:w.ea.ok w.rows
 ra:∀r∈w.rows,r.a.ok r.es
 ba:w.ba.ok w.AJ
 ca:w.ca.ok w.cnt
 xv:w.x.xv=w.xa.v w.cs.length
 ev:w.x.ev=w.ea.v w.rows.length
 bv:w.x.bv=w.ba.v w.AJ.length
 cv:w.x.cv=w.ca.v w.cnt.length
 Ef:∀c∈w.cs,c.c.ok
 ks:w.x.ks.length=16
def Av(nb:Nat)(w:NM):HP:=
 At nb w.x*(AB w.xa.b w.xa.o w.cs w.xa.s*(AB w.ea.b w.ea.o w.rows w.ea.s*(AB w.ba.b w.ba.o w.AJ w.ba.s*(AB w.ca.b w.ca.o w.cnt w.ca.s*(AO CJ w.cs*AO CK w.rows)))))
theorem TZ{α:Type}(f:α→HP){l:List α}{k:Nat}{x:α}(h:l[k]?=some x):AO f l=f x*Iq f l k:=by
 have hk:k<l.length:=(J?.1 h).1;rw [Oa f l k x hk,K_,h];rfl
theorem getD_some{α:Type}{l:List α}{i:Nat}{d x:α}(h:l[i]?=some x):l.getD i d=x:=by rw [K_,h];rfl
theorem Ug{α:Type}[AC α](b o:Nat){xs:List α}(s:List Value){k:Nat}{x y:α}(h:xs[k]?=some x)(e:AC.An y=AC.An x):AB b o (xs.set k y) s=AB b o xs s:=by
 have hk:k<xs.length:=(J?.1 h).1;rw [MO b o xs s k y hk,NN b o xs s k x hk,getD_some h,e]
def B2(w:NM)(i j k:Nat)(r:Dc):HP:=Iq CJ w.cs i*(Iq CK w.rows j*Iq GD r.es k)
theorem Ej(nb:Nat)(w:NM)(R:HP){i j k:Nat}{C:CM}{r:Dc}{E:D2}(hc:w.cs[i]?=some C)(hr:w.rows[j]?=some r)(he:r.es[k]?=some E):
  Av nb w*R=At nb w.x*(AB w.xa.b w.xa.o w.cs w.xa.s*(AB w.ea.b w.ea.o w.rows w.ea.s*(AB w.ba.b w.ba.o w.AJ w.ba.s*(AB w.ca.b w.ca.o w.cnt w.ca.s*(AT C.cb C.c*(AB r.a.b r.a.o r.es r.a.s*(A7 E.q E.o*(B2 w i j k r*R)))))))):=by
 unfold Av B2;rw [TZ CJ hc,TZ CK hr];show _=_;unfold CK;rw [TZ GD he];unfold CJ GD;ac_rfl
def NM.put(w:NM)(i j k:Nat)(C:CM)(r:Dc)(E:D2):NM:={w with cs:=w.cs.set i C,rows:=w.rows.set j {r with es:=r.es.set k E}}
theorem IT(nb:Nat)(w:NM)(R:HP){i j k:Nat}{C:CM}{r:Dc}{E:D2}(hc:w.cs[i]?=some C)(hr:w.rows[j]?=some r)(he:r.es[k]?=some E)(c:Ab)(o:D5):
  Av nb (w.put i j k ⟨C.cb,c⟩ r ⟨E.q,o⟩)*R=At nb w.x*(AB w.xa.b w.xa.o w.cs w.xa.s*(AB w.ea.b w.ea.o w.rows w.ea.s*(AB w.ba.b w.ba.o w.AJ w.ba.s*(AB w.ca.b w.ca.o w.cnt w.ca.s*(AT C.cb c*(AB r.a.b r.a.o r.es r.a.s*(A7 E.q o*(B2 w i j k r*R)))))))):=by
 have h1:i<w.cs.length:=(J?.1 hc).1;have h2:j<w.rows.length:=(J?.1 hr).1;have h3:k<r.es.length:=(J?.1 he).1;unfold Av B2 NM.put;show At nb w.x*(AB w.xa.b w.xa.o (w.cs.set i ⟨C.cb,c⟩) w.xa.s*(AB w.ea.b w.ea.o (w.rows.set j {r with es:=r.es.set k ⟨E.q,o⟩}) w.ea.s*(AB w.ba.b w.ba.o w.AJ w.ba.s*(AB w.ca.b w.ca.o w.cnt w.ca.s*(AO CJ (w.cs.set i ⟨C.cb,c⟩)*AO CK (w.rows.set j {r with es:=r.es.set k ⟨E.q,o⟩}))))))*R=_;rw [Ug w.xa.b w.xa.o w.xa.s hc (y:=⟨C.cb,c⟩) rfl,Ug w.ea.b w.ea.o w.ea.s hr (y:={r with es:=r.es.set k ⟨E.q,o⟩}) (by show [Value.slice r.a.p (r.es.set k _).length r.a.c]=_;rw [N?];rfl),Lj CJ w.cs i _ h1,Lj CK w.rows j _ h2];unfold CK;show _*(_*(_*(_*(_*(_*_*(AB r.a.b r.a.o (r.es.set k ⟨E.q,o⟩) r.a.s*AO GD (r.es.set k ⟨E.q,o⟩)*_))))))*R=_;rw [Ug r.a.b r.a.o r.a.s he (y:=⟨E.q,o⟩) rfl,Lj GD r.es k _ h3];unfold CJ GD;ac_rfl
theorem NM.ok.put{w:NM}(hw:w.ok){i j k:Nat}{C:CM}{r:Dc}{E:D2}(hc:w.cs[i]?=some C)(hr:w.rows[j]?=some r)(he:r.es[k]?=some E){c:Ab}(hk:c.ok)(o:D5):(w.put i j k ⟨C.cb,c⟩ r ⟨E.q,o⟩).ok:=by
 have l1:(w.cs.set i ⟨C.cb,c⟩).length=w.cs.length:=N?;have l2:(w.rows.set j {r with es:=r.es.set k ⟨E.q,o⟩}).length=w.rows.length:=N?;have l3:(r.es.set k ⟨E.q,o⟩).length=r.es.length:=N?;refine⟨?_,?_,fun q hq=>?_,hw.ba,hw.ca,?_,?_,hw.bv,hw.cv,fun q hq=>?_,hw.ks⟩
 ·have:=hw.xa;unfold A1.ok at this⊢;show Sl w.xa.p w.xa.b w.xa.o (w.cs.set i ⟨C.cb,c⟩).length w.xa.c∧(w.cs.set i ⟨C.cb,c⟩).length*_+_=_;rw [l1];exact this
 ·have:=hw.ea;unfold A1.ok at this⊢;show Sl w.ea.p w.ea.b w.ea.o (w.rows.set j {r with es:=r.es.set k ⟨E.q,o⟩}).length w.ea.c∧(w.rows.set j {r with es:=r.es.set k ⟨E.q,o⟩}).length*_+_=_;rw [l2];exact this
 ·refine KS (P:=fun q:Dc=>q.a.ok q.es) hw.ra ?_ hq
  have:=hw.ra r Ps
  unfold A1.ok at this⊢;show Sl r.a.p r.a.b r.a.o (r.es.set k ⟨E.q,o⟩).length r.a.c∧(r.es.set k ⟨E.q,o⟩).length*_+_=_;rw [l3];exact this
 ·show w.x.xv=w.xa.v (w.cs.set i ⟨C.cb,c⟩).length;rw [l1];exact hw.xv
 ·show w.x.ev=w.ea.v (w.rows.set j {r with es:=r.es.set k ⟨E.q,o⟩}).length;rw [l2];exact hw.ev
 ·exact KS (P:=fun q:CM=>q.c.ok) hw.Ef hk hq
theorem Q3{α β:Type}(f:α→β)(l:List α)(i:Nat)(y:α):(l.set i y).map f=(l.map f).set i (f y):=Q?
theorem NM.Fw(w:NM){i j k:Nat}{C:CM}{r:Dc}{E:D2}(hc:w.cs[i]?=some C)(hr:w.rows[j]?=some r)(c:Ab)(o:D5):(w.put i j k ⟨C.cb,c⟩ r ⟨E.q,o⟩).n=(w.n.Aq i c.s).DQ j k o:=by
 have e:w.n.ends.getD j []=r.es.map (·.o):=getD_some (by show(w.rows.map _)[j]?=_;rw [L_,hr];rfl);unfold NM.put NM.n AN.Aq AN.DQ;show AN.mk ((w.cs.set i ⟨C.cb,c⟩).map _) ((w.rows.set j {r with es:=r.es.set k ⟨E.q,o⟩}).map _) _ _ _ _ _=AN.mk _ (w.n.ends.set j ((w.n.ends.getD j []).set k o)) _ _ _ _ _;rw [Q3,Q3,e,←Q3 (fun m:D2=>m.o) r.es k ⟨E.q,o⟩];rfl
theorem NM.EO{w:NM}{i:Nat}{C:CM}(hc:w.cs[i]?=some C):w.n.x i=C.c.s:=getD_some (by show(w.cs.map _)[i]?=_;rw [L_,hc];rfl)
theorem NM.I7{w:NM}{j k:Nat}{r:Dc}{E:D2}(hr:w.rows[j]?=some r)(he:r.es[k]?=some E):w.n.e j k=E.o:=by
 have e:w.n.ends.getD j []=r.es.map (·.o):=getD_some (by show(w.rows.map _)[j]?=_;rw [L_,hr];rfl);unfold AN.e;rw [e];exact getD_some (by rw [L_,he];rfl)
theorem Ha{α:Type}{l:List α}{i n:Nat}(h:l.length=n)(hi:i<n):∃x,l[i]?=some x:=⟨l[i]'Ca,L! Ca⟩
theorem Al.mem{t:Nat}{w:NM}{L:Nat→List (List AU)}{R:Nat→Nat→Prop}{T:Nat→Nat→List UInt8}(h:Al t w.n L R T){i j k:Nat}(hi:i<2)(hj:j<2)(hk:k<4):
  ∃C r E,w.cs[i]?=some C∧w.rows[j]?=some r∧r.es[k]?=some E∧w.cs.length=2∧w.rows.length=2∧r.es.length=4:=by
 have l1:w.cs.length=2:=by have:=h.xl;unfold NM.n at this;simpa using this
 have l2:w.rows.length=2:=by have:=h.el;unfold NM.n at this;simpa using this
 obtain⟨C,hC⟩:=Ha l1 hi;obtain⟨r,hr⟩:=Ha l2 hj;have e:w.n.ends.getD j []=r.es.map (·.o):=getD_some (by show(w.rows.map _)[j]?=_;rw [L_,hr];rfl)
 have l3:r.es.length=4:=by have:=h.EK j hj;rw [e]at this;simpa using this
 obtain⟨E,hE⟩:=Ha l3 hk;exact⟨C,r,E,hC,hr,hE,l1,l2,l3⟩
theorem Qn{w:NM}{i:Nat}{C:CM}(hc:w.cs[i]?=some C):w.n.Aq i C.c.s=w.n:=by
 have hk:i<w.n.xs.length:=by show i<(w.cs.map _).length;rw [K?];exact(J?.1 hc).1
 have:=NM.EO hc
 unfold AN.Aq;rw [←this];unfold AN.x;rw [M7 w.n.xs i QU hk]
theorem H6{w:NM}{j k:Nat}{r:Dc}{E:D2}(hr:w.rows[j]?=some r)(he:r.es[k]?=some E)(xs:List AF):({w.n with xs:=xs}:AN).DQ j k E.o={w.n with xs:=xs}:=by
 have hj:j<w.n.ends.length:=by show j<(w.rows.map _).length;rw [K?];exact(J?.1 hr).1
 have e:w.n.ends.getD j []=r.es.map (·.o):=getD_some (by show(w.rows.map _)[j]?=_;rw [L_,hr];rfl)
 have hk:k<(r.es.map (·.o)).length:=by rw [K?];exact(J?.1 he).1
 have e2:(r.es.map (·.o)).getD k Dq=E.o:=getD_some (by rw [L_,he];rfl);unfold AN.DQ;show({w.n with xs:=xs,ends:=w.n.ends.set j ((w.n.ends.getD j []).set k E.o)}:AN)=_;rw [e,←e2,M7 _ k Dq hk,←e,M7 _ j [] hj]
theorem XG(xs:List EQ):AD xs=xs.map (fun x=>uN x.n):=by
 induction xs with
 |nil=>rfl
 |cons x xs ih=>show [uN x.n]++AD xs=_;rw [ih];rfl
instance updW64(b o i:Nat)(xs:List EQ)(s:List Value)(v:Nat):CP (AB b o xs s) b (o+i*1) (uN v) (AB b o (xs.set i ⟨v⟩) s) (i<xs.length):=
 ⟨fun r hr hi=>by
  have hfl:(AD xs).length=xs.length:=by rw [Bp];show xs.length*1=_;omega
  have h:LZ (AD xs++s) i (uN v) ((AD xs++s).set i (uN v)):=⟨Pg,rfl⟩
  have h2:=(inferInstance:CP (HP.AA b o (AD xs++s)) b (o+i) (uN v) (HP.AA b o ((AD xs++s).set i (uN v))) True).upd r hr trivial
  rw [Nat.mul_one]
  refine⟨h2.1,?_⟩
  have e:AD (xs.set i ⟨v⟩)++s=(AD xs++s).set i (uN v):=by rw [List.set_append_left _ _ Ca];congr 1;rw [XG,XG,Q?]
  unfold AB
  rw [e]
  exact h2.2⟩
theorem Em(nb:Nat)(w:NM)(R:HP):Av nb w*R=At nb w.x*(AB w.xa.b w.xa.o w.cs w.xa.s*(AB w.ea.b w.ea.o w.rows w.ea.s*(AB w.ba.b w.ba.o w.AJ w.ba.s*(AB w.ca.b w.ca.o w.cnt w.ca.s*(AO CJ w.cs*(AO CK w.rows*R)))))):=by
 unfold Av;ac_rfl
def NM.send(w:NM)(i c:Nat)(f:ES)(a:A1):NM:={w with x:={w.x with bv:=a.v (w.AJ++[f]).length},cnt:=w.cnt.set i ⟨c⟩,AJ:=w.AJ++[f],ba:=a}
theorem vQ(nb:Nat)(w:NM)(i c:Nat)(f:ES)(a:A1)(R:HP):Av nb (w.send i c f a)*R=At nb {w.x with bv:=a.v (w.AJ++[f]).length}*(AB w.xa.b w.xa.o w.cs w.xa.s*(AB w.ea.b w.ea.o w.rows w.ea.s*(AB a.b a.o (w.AJ++[f]) a.s*(AB w.ca.b w.ca.o (w.cnt.set i ⟨c⟩) w.ca.s*(AO CJ w.cs*(AO CK w.rows*R)))))):=Em nb (w.send i c f a) R
theorem NM.ok.send{w:NM}(hw:w.ok)(i c:Nat){f:ES}{a:A1}(ha:a.ok (w.AJ++[f])):(w.send i c f a).ok:=by
 have l1:(w.cnt.set i ⟨c⟩).length=w.cnt.length:=N?;refine⟨hw.xa,hw.ea,hw.ra,ha,?_,hw.xv,hw.ev,rfl,?_,hw.Ef,hw.ks⟩
 ·have:=hw.ca;unfold A1.ok at this⊢;show Sl w.ca.p w.ca.b w.ca.o (w.cnt.set i ⟨c⟩).length w.ca.c∧(w.cnt.set i ⟨c⟩).length*_+_=_;rw [l1];exact this
 ·show w.x.cv=w.ca.v (w.cnt.set i ⟨c⟩).length;rw [l1];exact hw.cv
theorem NM.nB(w:NM)(i c:Nat)(f:ES)(a:A1):(w.send i c f a).n={w.n with count:=w.n.count.set i c,AJ:=w.n.AJ++[(f.to,f.b)]}:=by
 unfold NM.send NM.n;dsimp only;rw [Q3,M!];rfl
theorem M1(xs:List UInt8):(AX xs).data.toList=xs:=List.toList_toArray
theorem WR(ks:List UInt8)(side:UInt8):∀(Ls:List (List AU)) (m j:Nat) (fs:List AU),Ls[j]?=some fs→(outs ks side m Ls)[j]?=some (Bc ks side (L? (m+j)) (Ap fs))
 |[],m,j,fs,h=>by cases h
 |g::Ls,m,0,fs,h=>by
  have h:some g=some fs:=h;cases h;rfl
 |g::Ls,m,j+1,fs,h=>by
  show(outs ks side (m+1) Ls)[j]?=_;rw [WR ks side Ls (m+1) j fs h,show m+1+j=m+(j+1) by omega]
def Ij(w w':NM):Prop:=∀(j k:Nat) (r:Dc) (E:D2),w.rows[j]?=some r→r.es[k]?=some E→∃r' E',w'.rows[j]?=some r'∧r'.es[k]?=some E'∧E'.q=E.q
theorem Ij.refl(w:NM):Ij w w:=fun _ _ r E h g=>⟨r,E,h,g,rfl⟩
theorem Ij.trans{a b c:NM}(h:Ij a b)(g:Ij b c):Ij a c:=fun j k r E h1 h2=>by
 obtain⟨r1,E1,a1,a2,a3⟩:=h j k r E h1 h2;obtain⟨r2,E2,b1,b2,b3⟩:=g j k r1 E1 a1 a2;exact⟨r2,E2,b1,b2,b3.trans a3⟩
theorem Ij.put(w:NM){i j k:Nat}{r:Dc}{E:D2}(hr:w.rows[j]?=some r)(hE:r.es[k]?=some E)(C:CM)(o:D5):Ij w (w.put i j k C r ⟨E.q,o⟩):=fun j' k' r' E' h1 h2=>by
 have l1:j<w.rows.length:=(J?.1 hr).1;have l2:k<r.es.length:=(J?.1 hE).1;show ∃r'' E'',(w.rows.set j {r with es:=r.es.set k ⟨E.q,o⟩})[j']?=some r''∧_;by_cases e:j=j'
 ·subst e;rw [hr]at h1;cases h1;rw [R? l1];by_cases e2:k=k'
  ·subst e2;rw [hE]at h2;cases h2;exact⟨_,⟨E.q,o⟩,rfl,R? l2,rfl⟩
  ·exact⟨_,E',rfl,(U_ e2).trans h2,rfl⟩
 ·rw [U_ e];exact⟨r',E',h1,h2,rfl⟩
theorem cM(c:AF)(k:Int)(s:ByteArray):c.Bv ⟨1,k,0,0,s⟩=(⟨(c.write k s.data.toList).1.2,-1,(c.write k s.data.toList).1.1,0,⟨#[]⟩,[]⟩,(c.write k s.data.toList).2):=rfl
theorem fI(c:AF)(k:Int):c.Bv ⟨2,k,0,0,⟨#[]⟩⟩=(⟨(c.finish k).1,-1,0,0,⟨#[]⟩,[]⟩,(c.finish k).2):=rfl
theorem fH(c:AF)(k:Int)(x:Nat):c.Bv ⟨3,k,0,x,⟨#[]⟩⟩=(⟨(c.giveUp k x).1,-1,0,0,⟨#[]⟩,[]⟩,(c.giveUp k x).2):=rfl
theorem Vb(c:AF):c.Bv ⟨4,0,0,0,⟨#[]⟩⟩=(⟨0,-1,0,0,⟨#[]⟩,[]⟩,c.tick):=rfl
theorem xQ(c:AF):c.Bv ⟨5,0,0,0,⟨#[]⟩⟩=(⟨0,-1,0,0,⟨#[]⟩,c.A3.1.map AX⟩,c.A3.2):=rfl
theorem UO(c:AF)(s:ByteArray):c.Bv ⟨6,0,0,0,s⟩=(⟨(c.A5 s.data.toList).1.1,(c.A5 s.data.toList).1.2,0,0,⟨#[]⟩,[]⟩,(c.A5 s.data.toList).2):=rfl
theorem YD(c:AF)(k AL:Int):c.Bv ⟨7,k,AL,0,⟨#[]⟩⟩=(⟨(c.read k AL).1.2.2.2,-1,(c.read k AL).1.2.1,(c.read k AL).1.2.2.1,AX (c.read k AL).1.1,[]⟩,(c.read k AL).2):=rfl
theorem yR(c:AF)(k:Int):c.Bv ⟨9,k,0,0,⟨#[]⟩⟩=(⟨(c.AE k).2,-1,(c.AE k).1,0,⟨#[]⟩,[]⟩,c):=rfl
@[reducible] def BG(a:D')(v:Value):List Value:=[iN a.e,.int .i64 a.at_,iN a.n,uN a.code,.string a.data,v]
end
end Go.Proofs.YtgfdlpcdjklcoaaGreatDoor
