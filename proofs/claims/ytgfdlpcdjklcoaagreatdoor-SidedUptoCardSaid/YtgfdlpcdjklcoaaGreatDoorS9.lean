/- A part of this proof: steps of the program, plain facts; no condition. -/
import Derived.Test.YtgfdlpcdjklcoaaGreatDoorS8
namespace Go.Proofs.YtgfdlpcdjklcoaaGreatDoor
open Go Go.RowKit
open _root_.UInt8 renaming ofNat→a_,toNat_inj→j_
open _root_.Nat renaming zero_le→b_,two_pow_add_eq_or_of_lt→j',reduceEqDiff→t_,sub_zero→v_,ble→w_,blt→xr
open _root_.List renaming replicate→c_,getElem?_append_left→e_,append_assoc→f_,getElem?_append_right→g_,getElem?_cons_zero→g',getElem?_toArray→i_,length_append→l_,getD_eq_getElem?_getD→n_,getElem?_drop→o_,getElem?_eq_some_iff→p_,getElem?_cons_succ→q_,getElem?_replicate→q',append_nil→r_,length_singleton→s_,length_drop→u_
open _root_.Option renaming some→d_
open _root_.Prod renaming mk→h_
open _root_.UInt64 renaming ofNat→k_
open _root_.Go.Result renaming andThen→m_
set_option linter.unusedVariables false
set_option maxRecDepth 20000
section
variable{B:World}
abbrev Cd(rb:Nat)(p:Option Addr)(c:Nat)(xs:List UInt8)(a:Nat):HP:=HP.AA rb 0 [.slice p xs.length c,iN a]
abbrev HL:List PanicEntry:=pn (.iface 320 (.agg #[]))
theorem RV{p:Option Addr}{b o k c a n:Nat}(hs:Sl p b o k c)(h:a+n≤k):Sl (sp p c a 1) b (o+a*1) n (c-a):=by
 have:=I9 (sz:=1) hs (l:=a) (h:=a+n) Cg Cp
 rwa [Nat.add_sub_cancel_left]at this
theorem iZ(x:Nat):x&&&63=x%64:=Nat.and_two_pow_sub_one_eq_mod x 6
theorem fu(n x:Nat)(hn:n<72057594037927936)(hx:x<256):(n*2^8%18446744073709551616)|||x=n*256+x:=by
 have h:n*2^8%18446744073709551616=2^8*n:=by omega
 rw [h,←j' (by omega:x<2^8)];omega
theorem vS(xs:List UInt8)(a:Nat):1*2^((xs.getD a 0).toNat/2^6)%18446744073709551616=CW xs a:=by
 have h:=Sj xs a
 have e:1*2^((xs.getD a 0).toNat/2^6)=CW xs a:=by rw [Nat.one_mul];rfl
 rw [e];omega
section
variable{P:Program}{n:Nat}{E:A6}{D:CK}{H:HP}{d:Option Tmp}{T T' ty:TypeId}{pos:String}{af:Array Edge}{g:Option (Nat×Bool)}{x y z:Operand}
theorem P5{b o i:Nat}{xs:List UInt8}[hT:CQ P T](hx:ev E x=some (.pointer (some ⟨b,o+i*1,none⟩)))(hr:AW B H b o xs)(hi:i<xs.length):
  Aa P B n ⟨d,.load T x,ty,pos,af,g⟩ E H (u8 (xs.getD i 0)):=DT (f:=0) hx hr rfl hi
end
theorem Z1(rb:Nat)(H:HP):Fv Tryz.prog B 176 [ptr rb 0] H (fun _ _=>False) (fun c H'=>c=HL∧H'=H):=by
 refine Ik Tryz.func176 rfl rfl rfl ?_;refine J1 ?_;refine JL (E7 (cs:=[]) rfl rfl rfl Cl) ?_;refine JL IW ?_;refine mf (M! (Post:=fun _ _=>False) rfl) ?_ ?_;rotate_left
 ·refine JR ?_;exact Np CO
 exact Ku
theorem TD(n:Nat)(hn:n<9223372036854775808)(rb:Nat)(p:Option Addr)(b o c:Nat)(xs:List UInt8)(a:Nat)(R:HP)(hs:Sl p b o xs.length c)(hr:AW B R b o xs)(hx:xs.length<100000000000)(ha:a≤xs.length):
  Fv Tryz.prog B 177 [ptr rb 0,uN n] (Cd rb p c xs a*R) (fun v H'=>n≤xs.length-a∧v=.slice (sp p c a 1) n (c-a)∧H'=Cd rb p c xs (a+n)*R) (fun ch H'=>xs.length-a<n∧ch=HL∧H'=R):=by
 refine Ik Tryz.func177 rfl rfl rfl ?_;refine J7 ?_;refine mA 13 13 ?_;refine NC ?_;refine JT 5 rfl Dm ?_;refine OY ?_;refine JT 10 rfl Kq ?_;refine JT 11 rfl EM ?_;refine JT 12 rfl HU ?_;refine EU ?_;refine mC (fun hbad=>?_) (fun hok=>?_)
 ·refine J2 ?_;refine D9 PY rfl ?_ ?_;rotate_left
  ·refine JR ?_;refine F0 ?_;exact Gi R ⟨Cg,rfl,rfl⟩
  exact Ku
 refine Mc ?_;refine JL I2 ?_;refine J7 ?_;refine mA 17 17 ?_;refine KA ?_;refine Jm 8 ?_;refine JT 9 rfl I2 ?_;refine JT 10 rfl Kq ?_;refine Re ?_;refine JT 15 rfl (Nx (l:=a+n-n) (h:=a+n) (k':=n) rfl rfl rfl Cp Cg) ?_;refine Ja 16 ?_;refine C3 ?_;refine Tp (ts:=[4]) rfl rfl ⟨Cg,?_,rfl⟩;rw [Nat.add_sub_cancel];rfl
theorem Nw(rb:Nat)(p:Option Addr)(b o c:Nat)(xs:List UInt8)(a:Nat)(R:HP)(hs:Sl p b o xs.length c)(hr:AW B R b o xs)(hx:xs.length<100000000000)(ha:a≤xs.length):
  Fv Tryz.prog B 197 [ptr rb 0] (Cd rb p c xs a*R) (fun v H'=>∃n a',B1 xs a=some (n,a')∧v=uN n∧H'=Cd rb p c xs a'*R) (fun ch H'=>B1 xs a=none∧ch=HL∧H'=R):=by
 refine Ik Tryz.func197 rfl rfl rfl ?_;have hz:=vS xs a;have hzc:=Sj xs a;have hb:=(xs.getD a 0).toNat_lt;refine Jc ?_;refine J5 ?_;refine D9 (HI rfl (TD 1 Cg rb p b o c xs a R hs hr hx ha)) rfl ?_ ?_;rotate_left
 ·rintro _ _ ⟨h1,rfl,rfl⟩;refine F0 ?_;exact Np ⟨ZF,rfl,rfl⟩
 rintro _ _ ⟨h1,rfl,rfl⟩;refine JL (FT (i:=0) (b:=b) (o:=o+a*1) (q:=o+a*1) rfl rfl (RV hs Cg) Cg Cg) ?_;refine JL XL ?_;refine J6 ?_;refine JL (a7 (j:=63) rfl rfl ⟨Cg,Cg⟩) ?_;refine JL (Gt rfl (HK (by rw [iZ];omega))) ?_;refine J8 ?_;refine JL (y8 (j:=6) rfl rfl Cg) ?_;refine JL (TB (i:=1) rfl rfl Cg) ?_;refine JL (LT (j:=1) rfl rfl (by rw [hz];omega)) ?_;refine D9 (HI (vs:=[ptr rb 0,uN (CW xs a-1)]) (by rw [←hz];rfl) (TD (CW xs a-1) Cg rb p b o c xs (a+1) R hs hr hx Cg)) rfl ?_ ?_;rotate_left
 ·rintro _ _ ⟨h2,rfl,rfl⟩;refine F0 ?_;refine F0 ?_;exact Np ⟨ZF,rfl,rfl⟩
 rintro _ _ ⟨h2,rfl,rfl⟩;refine Lm ?_;refine BL (fun i:Nat=>[(4,uN (Gy xs a i)),(19,.slice (sp p c (a+1) 1) (CW xs a-1) (c-(a+1))),(20,iN (CW xs a-1)),(21,iN i)]) (fun _=>Cd rb p c xs (a+1+(CW xs a-1))*R) (fun i=>i≤CW xs a-1) (fun i=>CW xs a-1-i) 0 C9 (.cons (congrArg (fun z=>some (uN z)) (iZ _)) CS) rfl ?_;rintro i hi;dsimp only at hi⊢;have hnl:=UQ xs a i
 have hnl2:Gy xs a i<72057594037927936∨CW xs a-1≤i:=by
  rcases(by omega:CW xs a-1≤i∨i=0∨i=1∨i=2∨i=3∨i=4∨i=5∨i=6)with h|rfl|rfl|rfl|rfl|rfl|rfl|rfl
  ·exact .inr h
  all_goals (left;simp only [Nat.reducePow,Nat.reduceMul]at hnl;omega)
 have hb2:=Rp xs (a+i+1);refine J6 ?_;refine mC (fun hlt=>?_) (fun hlt=>?_)
 ·refine J6 ?_;refine JL (FT (b:=b) (o:=o+(a+1)*1) (q:=o+(a+i+1)*1) rfl rfl (RV hs Cg) hlt Cg) ?_;refine JL (P5 (i:=a+i+1) (xs:=xs) rfl inferInstance Cg) ?_;refine J5 ?_;refine JL (TB (j:=8) rfl rfl Cg) ?_;refine J1 ?_;refine JL (Gt rfl (HK mZ)) ?_;refine JL (bC rfl rfl ⟨Cg,mZ⟩) ?_;refine Fu ?_;exact At (i+1) (by show i+1≤_;omega) (by show CW xs a-1-(i+1)<CW xs a-1-i;omega) (.cons (congrArg (fun z=>some (uN z)) (fu _ _ Cg hb2)) CS) rfl
 obtain rfl:i=CW xs a-1:=by omega
 refine CR ?_;refine Tp (ts:=[2]) rfl rfl ⟨_,_,by unfold B1;rw [if_pos Cg],rfl,?_⟩;rw [show a+1+(CW xs a-1)=a+CW xs a by omega]
theorem ai(rb:Nat)(p:Option Addr)(b o c:Nat)(xs:List UInt8)(a:Nat)(R:HP)(hs:Sl p b o xs.length c)(hr:AW B R b o xs)(hx:xs.length<100000000000)(ha:a≤xs.length):
  Fv Tryz.prog B 196 [ptr rb 0] (Cd rb p c xs a*R) (fun v H'=>∃n a',GW xs a=some (n,a')∧v=iN n∧H'=Cd rb p c xs a'*R) (fun ch H'=>GW xs a=none∧ch=HL∧H'=R):=by
 refine Ik Tryz.func196 rfl rfl rfl ?_;refine LH ?_;refine D9 Qw rfl ?_ ?_;rotate_left
 ·rintro _ _ ⟨e5,rfl,rfl⟩;refine F0 ?_;exact Np ⟨by unfold GW;rw [e5],rfl,rfl⟩
 rintro _ _ ⟨n5,a5,e5,rfl,rfl⟩;have g5:=Dy e5;refine J7 ?_;refine JL (L9 (j:=4) rfl rfl) ?_;refine J2 ?_;refine mC (fun hbig=>?_) (fun hbig=>?_)
 ·refine J2 ?_;refine D9 PY rfl ?_ ?_;rotate_left
  ·refine JR ?_;refine F0 ?_;exact Gi R ⟨by unfold GW;rw [e5];exact if_neg Cg,rfl,rfl⟩
  exact Ku
 refine J5 ?_;refine JL I2 ?_;refine J4 ?_;exact Tp (ts:=[2]) rfl rfl ⟨n5,a5,by unfold GW;rw [e5];exact if_pos Cg,rfl,rfl⟩
theorem kj(rb:Nat)(p:Option Addr)(b o c:Nat)(xs:List UInt8)(a:Nat)(R:HP)(hs:Sl p b o xs.length c)(hr:AW B R b o xs)(hx:xs.length<100000000000)(ha:a≤xs.length):
  Fv Tryz.prog B 202 [ptr rb 0] (Cd rb p c xs a*R) (fun v H'=>∃d a',Gf xs a=some (d,a')∧v=.string (BI d)∧H'=Cd rb p c xs a'*R) (fun ch H'=>Gf xs a=none∧ch=HL∧H'=R):=by
 refine Ik Tryz.func202 rfl rfl rfl ?_;refine J9 ?_;refine D9 Qw rfl ?_ ?_;rotate_left
 ·rintro _ _ ⟨e5,rfl,rfl⟩;refine F0 ?_;exact Np ⟨by unfold Gf;rw [e5],rfl,rfl⟩
 rintro _ _ ⟨n5,a5,e5,rfl,rfl⟩;have g5:=Dy e5;refine D9 (HI rfl (TD n5 Cg rb p b o c xs a5 R hs hr hx Cg)) rfl ?_ ?_;rotate_left
 ·rintro _ _ ⟨h6,rfl,rfl⟩;refine F0 ?_;exact Np ⟨by unfold Gf;rw [e5];exact if_neg Cg,rfl,rfl⟩
 rintro _ _ ⟨h6,rfl,rfl⟩
 have hl6:((xs.drop a5).take n5).length=n5:=by simp;omega
 refine JL (Hq (xs:=(xs.drop a5).take n5) (b:=b) (o:=o+a5*1) (by rw [hl6];rfl) Zm inferInstance) ?_;refine J4 ?_;exact Tp (ts:=[2]) rfl rfl ⟨_,_,by unfold Gf;rw [e5];exact if_pos Cg,rfl,rfl⟩
end
section
section
variable{P:Program}{B:World}{n:Nat}{E:A6}{D:CK}{H R:HP}{d:Option Tmp}{T T' ty:TypeId}{pos:String}{af:Array Edge}{g:Option (Nat×Bool)}{x y z:Operand}
 {ops:Array Oper} {Q:Exit→Act→World→Prop} {rest:List Oper} {op:Op}
theorem um{ds:List Deferred}{t:Operand}{f:FuncId}{us:List Value}{ats:Array TypeId}(ht:ev E t=some (.func (.func f) #[] us.toArray))
  (next:WL P B ops Q rest n E ⟨{target:=.fn (.func f) us.toArray,args:= #[]}::ds,none⟩ H):WL P B ops Q (⟨none,.defer ⟨.value t,#[],ats⟩,ty,pos,af,none⟩::rest) n E ⟨ds,none⟩ H:=by
 intro a w h1 h2 h3;unfold wpListIn;rw [if_pos RN];refine⟨fun _ _=>trivial,?_⟩
 have hrun:(execOp a.eval ⟨none,.defer ⟨.value t,#[],ats⟩,ty,pos,af,none⟩).run P w=.ok (.defer {target:=.fn (.func f) us.toArray,args:= #[]}) w:=by
  simp [execOp,resolve,h1.ev ht,Deferred.ofValue]
 have hs:(Oper.semAt (fr none).round a.eval (⟨none,.defer ⟨.value t,#[],ats⟩,ty,pos,af,none⟩:Oper)).run P w=.ok (.defer {target:=.fn (.func f) us.toArray,args:= #[]}) w:=by
  rw [show(fr none).round=none from rfl,Oper.semAt_none];exact hrun
 rw [hs];show wpListIn (fr none) 0 P ops Q rest _ w;exact next _ w h1 (by simp [Act.put,h2]) h3
def Qk(P:Program)(B:World)(fn:Func)(Post:Value→HP→Prop):Exit→Act→World→Prop:=
 bodyPostDIn (fr none) 0 P fn fun e w'=>∃v H',e=.returned v∧Post v H'∧Sat B H' w'
theorem ne{c:Code}{f:FuncId}{fn:Func}{args:List Value}{Post:Value→HP→Prop}(hf:P.funcs[f]?=some fn)(hb:fn.body=some c)(hn:fn.ntmps=n)
  (ha:w_ args.length n=true)(h:WP P B c (Qk P B fn Post) n (KN 0 args) ⟨[],none⟩ H):Fn P B f args H Post:=by
 intro w hw;refine(callsIn_wide (n:=0)).1 (callsIn_of_wp_defers (F:=fr none) (n:=0) hf hb trivial (h _ w ⟨?_,?_⟩ rfl hw))
 ·have:args.length≤n:=by simpa using ha
  simp [hn];omega
 ·intro t v e;obtain⟨_,h2⟩:=NQ args 0 t v e;simp only [v_]at h2;have hlt:t<args.length:=(p_.1 h2).1;simp only [];rw [Array.getElem?_append_left (by simpa using hlt)];simpa using h2
def OU(P:Program)(B:World)(f:FuncId)(args:List Value)(u u':FrameMode)(H:HP)(Post:HP→Prop):Prop:=
 ∀w,Sat B H w→CallsDIn (fr none) 0 P f args.toArray u w fun e u2 w'=>∃v H',e=.returned v∧u2=u'∧Post H'∧Sat B H' w'
theorem bE{fn:Func}{f:FuncId}{us:List Value}{u u':FrameMode}{rs:List ResultVar}{Post:Value→HP→Prop}{PD:HP→Prop}[hok:AX P f](hu:u≠ .run)
  (hd:OU P B f us u u' H PD)(hset:settle u'=.returning)(hr:fn.results=rs.toArray)(hv:∀H',PD H'→∃vs H'',LF P B n E H' rs vs∧Post (Fk vs) H''∧CE B H' H''):
  ∀a w,DR n E a→Sat B H w→LeavesIn (fr none) 0 P fn a.tmps (fun e w'=>∃v H',e=.returned v∧Post v H'∧Sat B H' w') [{target:=.fn (.func f) us.toArray,args:= #[]}] u w:=by
 intro a w h1 h3;refine leavesIn_cons (f:=f) (args:=us.toArray) hu (by simp [fr,Fence.wide]) ?_ (fun _ _=>trivial) ?_
 ·have:=hok.get us.toArray w
  simpa [invoke]using this
 ·refine CallsDIn.mono (F:=fr none) (n:=0) (hd w h3) ?_;rintro e u2 w' ⟨v,H',rfl,rfl,hp,hs⟩;obtain⟨vs,H'',hv1,hv2,hv3⟩:=hv H' hp;show LeavesIn _ _ _ _ _ _ [] (settle u2) w';rw [hset];exact⟨_,rH hr h1 hv1 hs,_,_,rfl,hv2,hv3.get w' hs⟩
theorem ie{fn:Func}{f:FuncId}{us:List Value}{u':FrameMode}{rs:List ResultVar}{Post:Value→HP→Prop}{PD:HP→Prop}[hok:AX P f]
  (hd:OU P B f us .returning u' H PD)(hset:settle u'=.returning)(hr:fn.results=rs.toArray)(hv:∀H',PD H'→∃vs H'',LF P B n E H' rs vs∧Post (Fk vs) H''∧CE B H' H''):
  BT B (Qk P B fn Post) .ret n E ⟨[{target:=.fn (.func f) us.toArray,args:= #[]}],none⟩ H:=by
 intro a w h1 h2 h3;show LeavesIn _ _ _ _ _ _ _ _ _;rw [h2];exact bE Cl hd hset hr hv a w h1 h3
theorem vU{c:List PanicEntry}{fn:Func}{f:FuncId}{us:List Value}{u':FrameMode}{rs:List ResultVar}{Post:Value→HP→Prop}{PD:HP→Prop}[hok:AX P f]
  (hd:OU P B f us (.panicking c) u' H PD)(hset:settle u'=.returning)(hr:fn.results=rs.toArray)(hv:∀H',PD H'→∃vs H'',LF P B n E H' rs vs∧Post (Fk vs) H''∧CE B H' H''):
  BT B (Qk P B fn Post) (.panic c) n E ⟨[{target:=.fn (.func f) us.toArray,args:= #[]}],none⟩ H:=by
 intro a w h1 h2 h3;show LeavesIn _ _ _ _ _ _ _ _ _;rw [h2];exact bE Cl hd hset hr hv a w h1 h3
theorem L! {e:Operand→Value}{ats:Array TypeId}(w:World):(execOp e ⟨d,.call ⟨.builtin .recover,#[],ats⟩,ty,pos,af,g⟩).run P w=.ok .recover w:=by
 simp [execOp,resolve,invoke,builtin]
theorem yO{id t t2:Nat}{pos2:String}{af2:Array Edge}{ats:Array TypeId}{QS:Exit→Act→List Frame→World→Prop}{a:Act}{cs cs':List Frame}{w:World}{v:Value}
  (hrec:recoverD cs=some (v,cs')∨(recoverD cs=none∧v=.nilIface∧cs'=cs))(ht:t<a.tmps.size)
  (h:QS .normal ((a.put (some t) v).put (some t2) v) cs' w):
  (Code.region id #[⟨some t,.call ⟨.builtin .recover,#[],ats⟩,ty,pos,af,none⟩,⟨some t2,.assign (.tmp t),T,pos2,af2,none⟩] false).wpSIn (fr none) 0 P QS a cs w:=by
 refine wpSIn_region ?_;show wpOpsSIn (fr none) 0 P _ QS [0,1] a cs w
 have e2:∀(cs:List Frame) (v:Value),(execOp (Act.eval (a.put (some t) v)) ⟨some t2,.assign (.tmp t),T,pos2,af2,none⟩).run P w=.ok (.value v) w:=by
  intro cs v;simp [execOp,Act.eval,Act.put,ht]
 unfold wpOpsSIn;simp only [i_,g'];refine⟨fun _ _=>trivial,?_⟩;rw [if_pos RN,L!];rcases hrec with h0|⟨h0,rfl,rfl⟩
 ·simp only [h0];unfold wpOpsSIn;simp only [i_,q_,g'];refine⟨fun _ _=>trivial,?_⟩;rw [if_pos RN,e2 cs'];exact h
 ·simp only [h0];unfold wpOpsSIn;simp only [i_,q_,g'];refine⟨fun _ _=>trivial,?_⟩;rw [if_pos RN,e2 cs'];exact h
theorem ZU{f:FuncId}{fn:Func}{args:List Value}{u u':FrameMode}{id t t2:Nat}{pos2:String}{af2:Array Edge}{ats:Array TypeId}{c2:Code}{v:Value}{Post:HP→Prop}
  (hf:P.funcs[f]?=some fn)(hb:fn.body=some (.seq (.region id #[⟨some t,.call ⟨.builtin .recover,#[],ats⟩,ty,pos,af,none⟩,⟨some t2,.assign (.tmp t),T,pos2,af2,none⟩] false) c2))(hn:fn.ntmps=n)
  (ha:w_ args.length n=true)(ht:xr t n=true)(ht2:xr t2 n=true)(hres:fn.results= #[])
  (hv:(u=.returning∧u'=.returning∧v=.nilIface)∨(∃older,u=.panicking ({v:=v,recovered:=false,goexit:=false}::older)∧u'=.panicking ({v:=v,recovered:=true}::older)))
  (h:∀Q:Exit→Act→World→Prop,(∀E H',Post H'→BT B Q .normal n E ⟨[],none⟩ H')→WP P B c2 Q n ((t2,v)::(t,v)::KN 0 args) ⟨[],none⟩ H):OU P B f args u u' H Post:=by
 intro w hw;refine callsDIn_of_wpSIn (F:=fr none) (n:=0) hf hb trivial fun c₀ cs hu=>?_
 have hE0:DR n (KN 0 args) {tmps:=args.toArray++Array.replicate (fn.ntmps-args.toArray.size) undef,defers:=[]}:=by
  refine⟨?_,?_⟩
  ·have:args.length≤n:=by simpa using ha
   simp [hn];omega
  ·intro t v e;obtain⟨_,h2⟩:=NQ args 0 t v e;simp only [v_]at h2;have hlt:t<args.length:=(p_.1 h2).1;simp only [];rw [Array.getElem?_append_left (by simpa using hlt)];simpa using h2
 have hE1:=(hE0.put VZ v).put (t:=t2) (by simpa using ht2) v;refine wpSIn_seq ?_
 have hrec:recoverD (c₀::cs)=some (v,{c₀ with mode:=u'}::cs)∨(recoverD (c₀::cs)=none∧v=.nilIface∧({c₀ with mode:=u'}::cs)=c₀::cs):=by
  rcases hv with⟨h1,h2,h3⟩|⟨older,h1,h2⟩
  ·right;refine⟨by simp [recoverD,hu,h1],h3,?_⟩;rw [h2,←h1,←hu]
  ·left;simp [recoverD,hu,h1,h2]
 refine yO (v:=v) (cs':={c₀ with mode:=u'}::cs) hrec (by rw [hE0.1];simpa using ht) ?_;show Code.wpSIn _ _ _ _ _ _ _ _;refine wpSIn_of_wpIn rfl ?_;refine h _ (fun E H' hp a w h1 h2 h3=>?_) _ w hE1 (by rfl) hw;refine⟨h2,u',rfl,.tuple #[],?_,.tuple #[],H',rfl,rfl,hp,h3⟩;simp [results,hres]
end
end
section
variable{B:World}
abbrev r0(k:Int)(fin:Bool):RF:=⟨⟨k,0,0,0,fin,⟨#[]⟩,[]⟩,none,0,0,0,[]⟩
theorem KE(t:UInt8):Db t=if t.toNat=0 then 1 else if t.toNat=1 then 2 else if t.toNat=2 then 3 else if t.toNat=4 then 4 else if t.toNat=8∨t.toNat=9 then 5 else if t.toNat=28 then 6 else 0:=by
 unfold Db;simp only [←j_];rfl
theorem dr(t:UInt8)(h:Db t≠0):Dh (Db t):=by
 rw [KE]at*;unfold Dh
 repeat' split
 all_goals first|omega|(exfalso;simp_all)
theorem cg(t:UInt8)(H:HP):Fn Tryz.prog B 178 [u8 t] H (fun v H'=>v=.tuple #[iN (Db t),.bool (decide (Db t≠0))]∧H'=H):=by
 refine mI Tryz.func178 ?_;refine GA ?_;refine CR ?_;refine JL (CV (i:=t.toNat) (j:=0) rfl rfl) ?_;refine J3 ?_;refine mC (fun yt5=>?_) (fun nt5=>?_)
 ·refine J2 ?_;refine JL ND ?_;refine J6 ?_
  first|(exfalso;omega)|exact mr [2,3] rfl rfl ⟨JX,rfl⟩
 refine J2 ?_;refine JL (CV (i:=t.toNat) (j:=1) rfl rfl) ?_;refine J3 ?_;refine mC (fun yt7=>?_) (fun nt7=>?_)
 ·refine J2 ?_;refine JL Su ?_;refine J6 ?_
  first|(exfalso;omega)|exact mr [2,3] rfl rfl ⟨JX,rfl⟩
 refine J2 ?_;refine JL (CV (i:=t.toNat) (j:=2) rfl rfl) ?_;refine J3 ?_;refine mC (fun yt9=>?_) (fun nt9=>?_)
 ·refine J2 ?_;refine JL nO ?_;refine J6 ?_
  first|(exfalso;omega)|exact mr [2,3] rfl rfl ⟨JX,rfl⟩
 refine J2 ?_;refine JL (CV (i:=t.toNat) (j:=4) rfl rfl) ?_;refine J3 ?_;refine mC (fun yt11=>?_) (fun nt11=>?_)
 ·refine J2 ?_;refine JL XK ?_;refine J6 ?_
  first|(exfalso;omega)|exact mr [2,3] rfl rfl ⟨JX,rfl⟩
 refine J3 ?_;refine JL (CV (i:=t.toNat) (j:=8) rfl rfl) ?_;refine J3 ?_;refine mC (fun yt13=>?_) (fun nt13=>?_)
 ·refine J2 ?_;refine mC (fun yt13=>?_) (fun nt13=>?_)
  ·refine J2 ?_;refine JL Nt ?_;refine J6 ?_
   first|(exfalso;omega)|exact mr [2,3] rfl rfl ⟨JX,rfl⟩
  refine J2 ?_;refine JL (CV (i:=t.toNat) (j:=28) rfl rfl) ?_;refine J3 ?_;refine mC (fun yt16=>?_) (fun nt16=>?_)
  ·refine J2 ?_;refine JL UW ?_;refine J6 ?_
   first|(exfalso;omega)|exact mr [2,3] rfl rfl ⟨JX,rfl⟩
  refine J5 ?_;refine Kz ?_
  first|(exfalso;omega)|exact mr [2,3] rfl rfl ⟨JX,rfl⟩
 refine J1 ?_;refine JL (CV (i:=t.toNat) (j:=9) rfl rfl) ?_;refine J3 ?_;refine mC (fun yt13=>?_) (fun nt13=>?_)
 ·refine J2 ?_;refine JL Nt ?_;refine J6 ?_
  first|(exfalso;omega)|exact mr [2,3] rfl rfl ⟨JX,rfl⟩
 refine J2 ?_;refine JL (CV (i:=t.toNat) (j:=28) rfl rfl) ?_;refine J3 ?_;refine mC (fun yt16=>?_) (fun nt16=>?_)
 ·refine J2 ?_;refine JL UW ?_;refine J6 ?_
  first|(exfalso;omega)|exact mr [2,3] rfl rfl ⟨JX,rfl⟩
 refine J5 ?_;refine Kz ?_
 first|(exfalso;omega)|exact mr [2,3] rfl rfl ⟨JX,rfl⟩
theorem Ei{r:RF}(h:r.f.ranges=[])(hc:r.c=0)(hs:r.s=[]):r.ok∧r.own∧Dn r=HP.BQ:=by
 refine⟨?_,?_,?_⟩
 ·unfold RF.ok;rw [h,hc];exact DG
 ·unfold RF.own;rw [h,hc,hs];rfl
 ·unfold Dn;rw [h,hs,FI]
theorem kg(rb fb:Nat)(fin:Bool)(p:Option Addr)(b o c:Nat)(xs:List UInt8)(a:Nat)(R:HP)(hs:Sl p b o xs.length c)(hr:AW B R b o xs)(hx:xs.length<100000000000)(ha:a≤xs.length):
  Fv Tryz.prog B 218 [ptr rb 0,ptr fb 0] (Cd rb p c xs a*(HP.AA fb 0 (AI (r0 1 fin))*R)) (fun _ H'=>∃r a',B5 xs 1 fin a=some (r.f,a')∧r.ok∧r.own∧H'=Cd rb p c xs a'*(HP.AA fb 0 (AI r)*(Dn r*R))) (fun ch H'=>B5 xs 1 fin a=none∧ch=HL∧H'=R):=by
 refine Ik Tryz.func218 rfl rfl rfl ?_;refine J1 ?_;exact Pw (ts:=[]) rfl rfl ⟨r0 1 fin,_,rfl,(Ei rfl rfl rfl).1,(Ei rfl rfl rfl).2.1,by rw [(Ei (r:=r0 1 fin) rfl rfl rfl).2.2,HP.BA]⟩
theorem zO(rb fb:Nat)(fin:Bool)(p:Option Addr)(b o c:Nat)(xs:List UInt8)(a:Nat)(R:HP)(hs:Sl p b o xs.length c)(hr:AW B R b o xs)(hx:xs.length<100000000000)(ha:a≤xs.length):
  Fv Tryz.prog B 218 [ptr rb 0,ptr fb 0] (Cd rb p c xs a*(HP.AA fb 0 (AI (r0 2 fin))*R)) (fun _ H'=>∃r a',B5 xs 2 fin a=some (r.f,a')∧r.ok∧r.own∧H'=Cd rb p c xs a'*(HP.AA fb 0 (AI r)*(Dn r*R))) (fun ch H'=>B5 xs 2 fin a=none∧ch=HL∧H'=R):=by
 refine Ik Tryz.func218 rfl rfl rfl ?_;refine J1 ?_;exact Pw (ts:=[]) rfl rfl ⟨r0 2 fin,_,rfl,(Ei rfl rfl rfl).1,(Ei rfl rfl rfl).2.1,by rw [(Ei (r:=r0 2 fin) rfl rfl rfl).2.2,HP.BA]⟩
theorem jw(rb fb:Nat)(fin:Bool)(p:Option Addr)(b o c:Nat)(xs:List UInt8)(a:Nat)(R:HP)(hs:Sl p b o xs.length c)(hr:AW B R b o xs)(hx:xs.length<100000000000)(ha:a≤xs.length):
  Fv Tryz.prog B 195 [ptr rb 0,ptr fb 0] (Cd rb p c xs a*(HP.AA fb 0 (AI (r0 4 fin))*R)) (fun _ H'=>∃r a',B5 xs 4 fin a=some (r.f,a')∧r.ok∧r.own∧H'=Cd rb p c xs a'*(HP.AA fb 0 (AI r)*(Dn r*R))) (fun ch H'=>B5 xs 4 fin a=none∧ch=HL∧H'=R):=by
 refine Ik Tryz.func195 rfl rfl rfl ?_;refine J5 ?_;refine D9 ZS rfl ?_ ?_;rotate_left
 ·rintro _ _ ⟨e8,rfl,rfl⟩;exact Gi R ⟨mX,rfl,rfl⟩
 rintro _ _ ⟨n8,a8,e8,rfl,rfl⟩;have g8:=NB e8;refine J1 ?_;refine D9 eC rfl ?_ ?_;rotate_left
 ·rintro _ _ ⟨e10,rfl,rfl⟩;exact Gi R ⟨ZA,rfl,rfl⟩
 rintro _ _ ⟨n10,a10,e10,rfl,rfl⟩;have g10:=Dy e10;refine J1 ?_;refine D9 eH rfl ?_ ?_;rotate_left
 ·rintro _ _ ⟨e12,rfl,rfl⟩;exact Gi R ⟨Sd,rfl,rfl⟩
 rintro _ _ ⟨n12,a12,e12,rfl,rfl⟩;have g12:=Dy e12;refine By ?_;exact Pw (ts:=[]) rfl rfl ⟨⟨⟨4,(n8:Nat),n12,n10,fin,⟨#[]⟩,[]⟩,none,0,0,0,[]⟩,a12,Sd,(Ei rfl rfl rfl).1,(Ei rfl rfl rfl).2.1,by rw [(Ei (r:=⟨⟨4,(n8:Nat),n12,n10,fin,⟨#[]⟩,[]⟩,none,0,0,0,[]⟩) rfl rfl rfl).2.2,HP.BA]⟩
theorem ag(rb fb:Nat)(fin:Bool)(p:Option Addr)(b o c:Nat)(xs:List UInt8)(a:Nat)(R:HP)(hs:Sl p b o xs.length c)(hr:AW B R b o xs)(hx:xs.length<100000000000)(ha:a≤xs.length):
  Fv Tryz.prog B 201 [ptr rb 0,ptr fb 0] (Cd rb p c xs a*(HP.AA fb 0 (AI (r0 5 fin))*R)) (fun _ H'=>∃r a',B5 xs 5 fin a=some (r.f,a')∧r.ok∧r.own∧H'=Cd rb p c xs a'*(HP.AA fb 0 (AI r)*(Dn r*R))) (fun ch H'=>B5 xs 5 fin a=none∧ch=HL∧H'=R):=by
 refine Ik Tryz.func201 rfl rfl rfl ?_;refine J5 ?_;refine D9 ZS rfl ?_ ?_;rotate_left
 ·rintro _ _ ⟨e8,rfl,rfl⟩;exact Gi R ⟨mX,rfl,rfl⟩
 rintro _ _ ⟨n8,a8,e8,rfl,rfl⟩;have g8:=NB e8;refine J1 ?_;refine D9 eC rfl ?_ ?_;rotate_left
 ·rintro _ _ ⟨e10,rfl,rfl⟩;exact Gi R ⟨ZA,rfl,rfl⟩
 rintro _ _ ⟨n10,a10,e10,rfl,rfl⟩;have g10:=Dy e10;refine J1 ?_;refine D9 (HI rfl (kj rb p b o c xs a10 _ hs inferInstance hx Cg)) rfl ?_ ?_;rotate_left
 ·rintro _ _ ⟨e12,rfl,rfl⟩;exact Gi R ⟨Sd,rfl,rfl⟩
 rintro _ _ ⟨n12,a12,e12,rfl,rfl⟩;have g12:=Vx e12;refine By ?_;exact Pw (ts:=[]) rfl rfl ⟨⟨⟨5,(n8:Nat),n10,0,fin,BI n12,[]⟩,none,0,0,0,[]⟩,a12,Sd,(Ei rfl rfl rfl).1,(Ei rfl rfl rfl).2.1,by rw [(Ei (r:=⟨⟨5,(n8:Nat),n10,0,fin,BI n12,[]⟩,none,0,0,0,[]⟩) rfl rfl rfl).2.2,HP.BA]⟩
theorem Z_(bq:Nat)(rb fb:Nat)(fin:Bool)(p:Option Addr)(b o c:Nat)(xs:List UInt8)(a:Nat)(R:HP)(hs:Sl p b o xs.length c)(hr:AW B R b o xs)(hx:xs.length<100000000000)(ha:a≤xs.length)[hq:Rd B R bq 0 (GV 205 []) True]:
  Fv Tryz.prog B 220 [ptr rb 0,ptr fb 0,ptr bq 0] (Cd rb p c xs a*(HP.AA fb 0 (AI (r0 6 fin))*R)) (fun _ H'=>∃r a',B5 xs 6 fin a=some (r.f,a')∧r.ok∧r.own∧H'=Cd rb p c xs a'*(HP.AA fb 0 (AI r)*(Dn r*R))) (fun ch H'=>B5 xs 6 fin a=none∧ch=HL∧H'=R):=by
 refine Ik Tryz.func220 rfl rfl rfl ?_;refine J1 ?_;refine DY ?_;refine J1 ?_;refine AV (Iz rfl rfl (rO fb _)) rfl ?_;refine Fq ?_;refine D9 Qw rfl ?_ ?_;rotate_left
 ·rintro _ _ ⟨e9,rfl,rfl⟩;exact Gi R ⟨pA,rfl,rfl⟩
 rintro _ _ ⟨n9,a9,e9,rfl,rfl⟩;have g9:=Dy e9;refine J3 ?_;exact Pw (ts:=[]) rfl rfl ⟨⟨⟨6,0,0,n9,fin,⟨#[]⟩,[]⟩,none,0,0,0,[]⟩,a9,pA,(Ei rfl rfl rfl).1,(Ei rfl rfl rfl).2.1,by rw [(Ei (r:=⟨⟨6,0,0,n9,fin,⟨#[]⟩,[]⟩,none,0,0,0,[]⟩) rfl rfl rfl).2.2,HP.BA]⟩
structure Gz where
 rs:List AP
 hi:Nat
 n:Nat
 size:Nat
 a:Nat
 p:Option Addr
 b:Nat
 o:Nat
 c:Nat
 s:List Value
abbrev Gz.rf(z:Gz)(fin:Bool):RF:=⟨⟨3,0,0,0,fin,⟨#[]⟩,z.rs⟩,z.p,z.b,z.o,z.c,z.s⟩
def GD(xs:List UInt8)(z:Gz):Option (List AP×Nat):=
 if z.size≤z.hi then match Ee xs z.n (z.hi-z.size) z.a with
  |some (rs',a4)=>some (z.rs++⟨z.hi-z.size,z.hi⟩::rs',a4)
  |none=>none
 else none
theorem ky{xs:List UInt8}{a hi a1 n a2 size a3:Nat}(e1:B1 xs a=some (hi,a1))(e2:B1 xs a1=some (n,a2))(e3:B1 xs a2=some (size,a3)):
  CG xs a=GD xs ⟨[],hi,n,size,a3,none,0,0,0,[]⟩:=by
 simp only [CG,e1,e2,e3,GD,List.nil_append];split
 ·cases Ee xs n (hi-size) a3<;>rfl
 ·rfl
theorem qp{xs:List UInt8}{z:Gz}(h:¬z.size≤z.hi):GD xs z=none:=by rw [GD,if_neg h]
theorem wS{xs:List UInt8}{z:Gz}(h:z.size≤z.hi)(hn:z.n=0):GD xs z=some (z.rs++[(⟨z.hi-z.size,z.hi⟩:AP)],z.a):=by
 rw [GD,if_pos h,hn];rfl
theorem kh{xs:List UInt8}{z:Gz}{m:Nat}(hn:z.n=m+1)(e:B1 xs z.a=none):GD xs z=none:=by
 rw [GD];split
 ·simp only [hn,Ee,e]
 ·rfl
theorem tM{xs:List UInt8}{z:Gz}{m gap a1:Nat}(hn:z.n=m+1)(e:B1 xs z.a=some (gap,a1))(e2:B1 xs a1=none):GD xs z=none:=by
 rw [GD];split
 ·simp only [hn,Ee,e,e2]
 ·rfl
theorem nk{xs:List UInt8}{z:Gz}{m gap a1 size a2:Nat}(hn:z.n=m+1)(e:B1 xs z.a=some (gap,a1))(e2:B1 xs a1=some (size,a2))(h:z.hi-z.size<2∨z.hi-z.size-2<gap):GD xs z=none:=by
 rw [GD];split
 ·simp only [hn,Ee,e,e2];rw [if_neg Cg]
 ·rfl
theorem jt{xs:List UInt8}{z:Gz}{m gap a1 size a2:Nat}(hle:z.size≤z.hi)(hn:z.n=m+1)(e:B1 xs z.a=some (gap,a1))(e2:B1 xs a1=some (size,a2))(h:2≤z.hi-z.size)(hg:gap≤z.hi-z.size-2)
  (p:Option Addr)(b o c:Nat)(s:List Value):
  GD xs z=GD xs ⟨z.rs++[(⟨z.hi-z.size,z.hi⟩:AP)],z.hi-z.size-2-gap,m,size,a2,p,b,o,c,s⟩:=by
 rw [GD,if_pos hle,GD];simp only [hn,Ee,e,e2];by_cases h2:size≤z.hi-z.size-2-gap
 ·rw [if_pos Cg,if_pos h2]
  cases Ee xs m (z.hi-z.size-2-gap-size) a2 with
  |none=>rfl
  |some w=>obtain⟨rs',a4⟩:=w;simp
 ·rw [if_neg Cg,if_neg h2]
theorem kQ{xs:List UInt8}{fin:Bool}{a:Nat}{rs:List AP}{a':Nat}(h:CG xs a=some (rs,a')):B5 xs 3 fin a=some (⟨3,0,0,0,fin,⟨#[]⟩,rs⟩,a'):=by
 unfold B5;simp only [t_,if_false,if_true,h]
theorem MC{xs:List UInt8}{fin:Bool}{a:Nat}(h:CG xs a=none):B5 xs 3 fin a=none:=by
 unfold B5;simp only [t_,if_false,if_true,h]
theorem fi(rb fb:Nat)(fin:Bool)(p:Option Addr)(b o c:Nat)(xs:List UInt8)(a:Nat)(R:HP)(hs:Sl p b o xs.length c)(hr:AW B R b o xs)(hx:xs.length<100000000000)(ha:a≤xs.length):
  Fv Tryz.prog B 191 [ptr rb 0,ptr fb 0] (Cd rb p c xs a*(HP.AA fb 0 (AI (r0 3 fin))*R)) (fun _ H'=>∃r a',B5 xs 3 fin a=some (r.f,a')∧r.ok∧r.own∧H'=Cd rb p c xs a'*(HP.AA fb 0 (AI r)*(Dn r*R))) (fun ch H'=>B5 xs 3 fin a=none∧ch=HL∧H'=R):=by
 refine Ik Tryz.func191 rfl rfl rfl ?_;refine J3 ?_;refine D9 Qw rfl ?_ ?_;rotate_left
 ·rintro _ _ ⟨e10,rfl,rfl⟩;refine F0 ?_;exact Gi R ⟨MC (by simp only [CG,e10]),rfl,rfl⟩
 rintro _ _ ⟨n10,a10,e10,rfl,rfl⟩;have g10:=Dy e10;refine J1 ?_;refine D9 eH rfl ?_ ?_;rotate_left
 ·rintro _ _ ⟨e12,rfl,rfl⟩;refine F0 ?_;exact Gi R ⟨MC (by simp only [CG,e10,e12]),rfl,rfl⟩
 rintro _ _ ⟨n12,a12,e12,rfl,rfl⟩;have g12:=Dy e12;refine J1 ?_;refine D9 (HI rfl (Nw rb p b o c xs a12 _ hs inferInstance hx Cg)) rfl ?_ ?_;rotate_left
 ·rintro _ _ ⟨e14,rfl,rfl⟩;refine F0 ?_;exact Gi R ⟨MC (by simp only [CG,e10,e12,e14]),rfl,rfl⟩
 rintro _ _ ⟨n14,a14,e14,rfl,rfl⟩;have g14:=Dy e14;refine J6 ?_
 refine BL (α:=Gz) (fun z=>[(0,ptr rb 0),(1,ptr fb 0),(4,uN z.hi),(5,uN z.n),(6,uN z.size)]) (fun z=>Cd rb p c xs z.a*(HP.AA fb 0 (AI (z.rf fin))*(AD z.b z.o z.rs z.s*R))) (fun z=>z.hi≤4611686018427387903∧z.n≤4611686018427387903∧z.size≤4611686018427387903∧z.a≤xs.length∧z.rs.length≤z.a∧Sl z.p z.b z.o z.rs.length z.c∧z.rs.length*2+z.s.length=z.c*2∧CG xs a=GD xs z) (fun z=>z.n) ⟨[],n10,n12,n14,a14,none,0,0,0,[]⟩ ⟨g10.1,g12.1,g14.1,g14.2.2,b_ _,DG,rfl,ky e10 e12 e14⟩ GE (by show _=Cd rb p c xs a14*(HP.AA fb 0 (AI (r0 3 fin))*(AD 0 0 ([]:List AP) []*R));rw [FI,HP.BA]) ?_
 rintro z ⟨hhi,hn,hsz,hza,hzl,hzs,hzc,hinv⟩;refine J6 ?_;refine Hv ?_;refine mC (fun hbad=>?_) (fun hle=>?_)
 ·refine J2 ?_;refine D9 PY rfl ?_ ?_;rotate_left
  ·refine JR ?_;refine Kk ?_;exact Gi R ⟨MC (by rw [hinv];exact qp Cg),rfl,rfl⟩
  exact Ku
 refine J6 ?_;refine JL Ez ?_;refine J9 ?_;refine DY ?_;refine J2 ?_;refine JL (E7 (cs:=[uN (z.hi-z.size),uN z.hi]) rfl rfl rfl Ck) ?_;refine AV (E4 (cs:=[uN (z.hi-z.size),uN z.hi]) rfl Cr rfl rfl) rfl ?_;rintro _ _ ⟨b31,rfl,rfl⟩;refine Aw (H':=AD z.b z.o z.rs z.s*(HP.AA b31 0 (AE [(⟨z.hi-z.size,z.hi⟩:AP)])*(Cd rb p c xs z.a*(HP.AA fb 0 (AI (z.rf fin))*R)))) (by show HP.AA b31 0 (AE [(⟨z.hi-z.size,z.hi⟩:AP)])*_=_;ac_rfl) ?_;refine AV (Bf (ys:=[(⟨z.hi-z.size,z.hi⟩:AP)]) (bb:=b31) (oo:=0) (cc:=1) rfl hzs hzc rfl Bc inferInstance rfl Cs Cg) rfl ?_;rintro _ _ ⟨p32,b32,o32,c32,s32,rfl,hs32,hc32,rfl⟩;refine J7 ?_;refine Aq (H':=Cd rb p c xs z.a*(HP.AA fb 0 (AI (Gz.rf ⟨z.rs++[(⟨z.hi-z.size,z.hi⟩:AP)],0,0,0,0,p32,b32,o32,c32,s32⟩ fin))*(AD b32 o32 (z.rs++[(⟨z.hi-z.size,z.hi⟩:AP)]) s32*(HP.AA b31 0 (AE [(⟨z.hi-z.size,z.hi⟩:AP)])*R)))) (by show _=_;ac_rfl) ?_;refine J2 ?_;refine Kr ?_;refine mC (fun hz=>?_) (fun hz=>?_)
 ·refine J5 ?_;exact uH (ts:=[]) (Cd rb p c xs z.a*(HP.AA fb 0 (AI (Gz.rf ⟨z.rs++[(⟨z.hi-z.size,z.hi⟩:AP)],0,0,0,0,p32,b32,o32,c32,s32⟩ fin))*(AD b32 o32 (z.rs++[(⟨z.hi-z.size,z.hi⟩:AP)]) s32*R))) rfl rfl ⟨Gz.rf ⟨z.rs++[(⟨z.hi-z.size,z.hi⟩:AP)],0,0,0,0,p32,b32,o32,c32,s32⟩ fin,z.a,kQ (by rw [hinv];exact wS Cg hz),hs32,hc32,rfl⟩
 obtain⟨m,hm⟩:∃m,z.n=m+1:=⟨z.n-1,Cg⟩
 refine J5 ?_;refine JL Nm ?_;refine J6 ?_;refine D9 (HI rfl (Nw rb p b o c xs z.a _ hs inferInstance hx Cg)) rfl ?_ ?_;rotate_left
 ·rintro _ _ ⟨e40,rfl,rfl⟩;refine Kk ?_;exact Gi R ⟨MC (by rw [hinv];exact kh hm e40),rfl,rfl⟩
 rintro _ _ ⟨n40,a40,e40,rfl,rfl⟩;have g40:=Dy e40;refine J6 ?_;refine D9 (HI rfl (Nw rb p b o c xs a40 _ hs inferInstance hx Cg)) rfl ?_ ?_;rotate_left
 ·rintro _ _ ⟨e42,rfl,rfl⟩;refine Kk ?_;exact Gi R ⟨MC (by rw [hinv];exact tM hm e40 e42),rfl,rfl⟩
 rintro _ _ ⟨n42,a42,e42,rfl,rfl⟩;have g42:=Dy e42;refine J7 ?_;refine JL Oy ?_;refine J1 ?_;refine CJ 45 rfl (fun hg1=>?_) (fun hg1=>?_)
 ·refine I8 ?_;refine JV ?_;refine OC ?_;refine J2 ?_;refine D9 PY rfl ?_ ?_;rotate_left
  ·refine JR ?_;refine Kk ?_;exact fQ
  exact Ku
 refine KO ?_;refine Ir ?_;refine JL Lc ?_;refine Ir ?_;refine K1 ?_;refine Iq ?_;refine mC (fun hb5=>?_) (fun hb5=>?_)
 ·refine J2 ?_;refine D9 PY rfl ?_ ?_;rotate_left
  ·refine JR ?_;refine Kk ?_;exact fQ
  exact Ku
 refine J4 ?_;refine JL Lc ?_;refine J1 ?_;refine JL Ez ?_;refine J3 ?_;refine Au (Cd rb p c xs a42*(HP.AA fb 0 (AI (Gz.rf ⟨z.rs++[(⟨z.hi-z.size,z.hi⟩:AP)],z.hi-z.size-2-n40,m,n42,a42,p32,b32,o32,c32,s32⟩ fin))*(AD b32 o32 (z.rs++[(⟨z.hi-z.size,z.hi⟩:AP)]) s32*R))) ?_;exact At (⟨z.rs++[(⟨z.hi-z.size,z.hi⟩:AP)],z.hi-z.size-2-n40,m,n42,a42,p32,b32,o32,c32,s32⟩:Gz) ⟨by show z.hi-z.size-2-n40≤_;omega,by show m≤_;omega,g42.1,g42.2.2,by show(z.rs++[_]).length≤a42;rw [l_,s_];omega,hs32,hc32,by rw [hinv];exact jt Cg hm e40 e42 Cg Cg _ _ _ _ _⟩ (by show m<z.n;omega) (.cons rfl (.cons rfl (.cons rfl (.cons (by rw [hm];rfl) Ix)))) rfl
theorem O? {k:Nat}{f1 f2 f3:FuncId}{us1 us2 us3:List Value}{C:HP}(h:Fc k f1 us1 f2 us2 f3 us3 C)(rb fb:Nat)(fin:Bool)(p:Option Addr)(b o c:Nat)(xs:List UInt8)(a:Nat)(R:HP)(hs:Sl p b o xs.length c)(hr:AW B R b o xs)(hx:xs.length<100000000000)(ha:a≤xs.length):
  AX Tryz.prog f2∧Fv Tryz.prog B f2 ([ptr rb 0,ptr fb 0]++us2) (Cd rb p c xs a*(HP.AA fb 0 (AI (r0 k fin))*(C*R))) (fun _ H'=>∃r a',B5 xs k fin a=some (r.f,a')∧r.ok∧r.own∧H'=Cd rb p c xs a'*(HP.AA fb 0 (AI r)*(Dn r*(C*R)))) (fun ch H'=>B5 xs k fin a=none∧ch=HL∧H'=C*R):=by
 generalize hk:(k:Int)=kk at h
 cases h with
 |pad bt=>
  obtain rfl:k=1:=by omega
  exact⟨inferInstance,kg rb fb fin p b o c xs a _ hs inferInstance hx ha⟩
 |ping bt=>
  obtain rfl:k=2:=by omega
  exact⟨inferInstance,zO rb fb fin p b o c xs a _ hs inferInstance hx ha⟩
 |ack=>
  obtain rfl:k=3:=by omega
  exact⟨inferInstance,fi rb fb fin p b o c xs a _ hs inferInstance hx ha⟩
 |reset=>
  obtain rfl:k=4:=by omega
  exact⟨inferInstance,jw rb fb fin p b o c xs a _ hs inferInstance hx ha⟩
 |data=>
  obtain rfl:k=5:=by omega
  exact⟨inferInstance,ag rb fb fin p b o c xs a _ hs inferInstance hx ha⟩
 |bye bt bq=>
  obtain rfl:k=6:=by omega
  exact⟨inferInstance,Z_ bq rb fb fin p b o c xs a _ hs inferInstance hx ha⟩
end
section
open Go Go.RowKit Go.Extern.Stop Go.Stop Go.Extern
set_option linter.unusedVariables false
theorem xP(k:Addr)(w:World):(ReflectliteValue.unpack (.iface 191 (.pointer (some k)))).run Tryz.prog w
  = .ok (.agg #[.pointer (some ⟨1,191,none⟩),.pointer (some ⟨w.heap.size,0,none⟩),.int .u64 150]) (w.alloc (.cells #[.pointer (some k)] 191)):=by kernel_rfl
theorem u7(v:Value)(w:World):(ReflectliteType.typeOf #[.iface 191 v]).run Tryz.prog w=.ok (.iface 282 (.agg #[.pointer (some ⟨1,191,none⟩)])) w:=by kernel_rfl
theorem D! (w :World) :(ReflectliteType.relation "AssignableTo" ReflectliteType.assignableTo #[.agg #[.pointer (some ⟨1,191,none⟩)],.iface 282 (.agg #[.pointer (some ⟨1,191,none⟩)])]).run Tryz.prog w =.ok (.bool true) w :=by kernel_rfl
theorem qd(w:World):(Rtype.elem? 193).run Tryz.prog w=.ok (some 191) w:=by kernel_rfl
theorem wQ(p:Addr)(w:World):(ReflectliteValue.mk 191 p ReflectliteValue.flagAddr).run Tryz.prog w=.ok (.agg #[.pointer (some ⟨1,191,none⟩),.pointer (some p),.int .u64 406]) w:=by kernel_rfl
theorem vE(a p:Addr)(W:World)(ha:W.cell? a=some (.pointer (some p))):
  (ReflectliteValue.method (ReflectliteValue.valueError "reflectlite.Value.Elem" 0) ReflectliteValue.elem #[.agg #[.pointer (some ⟨1,193,none⟩),.pointer (some a),.int .u64 150]]).run Tryz.prog W
   = .ok (.agg #[.pointer (some ⟨1,191,none⟩),.pointer (some p),.int .u64 406]) W:=by
 rw [TM];simp only [Sem.run_bind,mB,m_];simp [ReflectliteValue.elem,loadVar,isAgg,underlying,Tryz.underlying193,ha,m_,qd,wQ]
theorem kw(a:Addr)(w:World):(ReflectliteValue.parts (.agg #[.pointer (some ⟨1,191,none⟩),.pointer (some a),.int .u64 406])).run Tryz.prog w=.ok (some (191,a,406)) w:=by kernel_rfl
theorem G? (a:Addr)(w:World):(ReflectliteValue.parts (.agg #[.pointer (some ⟨1,191,none⟩),.pointer (some a),.int .u64 150])).run Tryz.prog w=.ok (some (191,a,150)) w:=by kernel_rfl
theorem yG(w:World):(Rtype.directlyAssignable 191 191).run Tryz.prog w=.ok true w:=by kernel_rfl
theorem ri(ta b:Addr)(k:Addr)(old:Value)(W:World)(hb:W.cell? b=some (.pointer (some k)))(ht:W.cell? ta=some old)(hf:W.frozen? ta=false):
  (ReflectliteValue.set #[.agg #[.pointer (some ⟨1,191,none⟩),.pointer (some ta),.int .u64 406],.agg #[.pointer (some ⟨1,191,none⟩),.pointer (some b),.int .u64 150]]).run Tryz.prog W
   = .ok (.tuple #[]) (W.setCell ta (.pointer (some k))):=by
 rw [cU];simp only [Sem.run_bind,kw,G?,m_];simp [ReflectliteValue.flagAddr,loadVar,isAgg,underlying,Tryz.underlying191,hb,m_,yG,storeVar,Value.cells,storeCells,Addr.add];rw [run_store Tryz.prog W ta _ _ (by rfl)];simp [ht,hf]
end
section
variable{B:World}
theorem N5(x:UInt64)(k:Nat)(h0:0<k)(h63:k≤63)(H:HP):Fn Tryz.prog B 216 [u64 x,iN k] H (fun v H'=>v=u64 (KT x k)∧H'=H):=by
 refine mI Tryz.func216 ?_;refine Jc ?_;refine MH ?_;refine BL (fun j:Nat=>[(0,u64 (Oi j x)),(1,iN k),(5,iN j)]) (fun _=>H) (fun j=>j≤k) (fun j=>k-j) 0 C9 CS rfl ?_;intro j hj;refine J8 ?_;refine mC (fun hc=>?_) (fun hc=>?_)
 ·refine J7 ?_;refine JL (Jk (j:=63) rfl rfl Cg) ?_;refine J5 ?_;refine JL (YI (b:=2) rfl rfl) ?_;refine J1 ?_;refine JL LR ?_;refine KG ?_;exact At (j+1) Cg Cg CS rfl
 obtain rfl:j=k:=by omega
 refine CR ?_;exact mr [4] rfl rfl ⟨by rw [←ke x j h0 h63];rfl,rfl⟩
set_option maxHeartbeats 1000000 in
theorem Ua(v:S4)(H:HP):Fn Tryz.prog B 186 [.agg (s4 v).toArray] H (fun r H'=>r=.agg (s4 (Tr v)).toArray∧H'=H):=by
 refine mI Tryz.func186 ?_;refine J2 ?_;refine AV (DP (l:=s4 v) rfl rfl) rfl ?_;rintro _ _ ⟨b1,rfl,rfl⟩;refine AV bF rfl ?_;rintro _ _ ⟨b2,rfl,rfl⟩;refine J4 ?_;refine JL E8 ?_;refine J1 ?_;refine JL HS ?_;refine J1 ?_;refine JL LR ?_;refine JL E8 ?_;refine TV ?_;refine mE rfl (N5 _ 13 Ci Ci _) ?_;refine JR ?_;refine JL HS ?_;refine TV ?_;refine JL E8 ?_;refine J1 ?_;refine JL He ?_;refine JL HS ?_;refine J5 ?_;refine JL E8 ?_;refine J1 ?_;refine mE rfl (N5 _ 32 Ci Ci _) ?_;refine JR ?_;refine JL E8 ?_;refine J5 ?_;refine MB ?_;refine JL Fy ?_;refine J1 ?_;refine JL LR ?_
 refine JL HG ?_;refine SW ?_;refine mE rfl (N5 _ 16 Ci Ci _) ?_;refine JR ?_;refine JL Fy ?_;refine SW ?_;refine MB ?_;refine JL He ?_;refine JL Fy ?_;refine J5 ?_;refine JL E8 ?_;refine J1 ?_;refine JL Fy ?_;refine J1 ?_;refine JL LR ?_;refine JL E8 ?_;refine SW ?_;refine mE rfl (N5 _ 21 Ci Ci _) ?_;refine JR ?_;refine JL Fy ?_;refine SW ?_;refine JL E8 ?_;refine J1 ?_;refine JL He ?_;refine JL Fy ?_;refine J5 ?_;refine MB ?_
 refine JL HS ?_;refine J1 ?_;refine JL LR ?_;refine JL HG ?_;refine TV ?_;refine mE rfl (N5 _ 17 Ci Ci _) ?_;refine JR ?_;refine JL HS ?_;refine TV ?_;refine MB ?_;refine JL He ?_;refine JL HS ?_;refine J5 ?_;refine MB ?_;refine mE rfl (N5 _ 32 Ci Ci _) ?_;refine JR ?_;refine JL HG ?_;refine J6 ?_;refine Jr ?_;exact nR
theorem WV(p:Option Addr)(b o c:Nat)(k:Nat)(xs:List UInt8)(H:HP)(hs:Sl p b o k c)(hr:AW B H b o xs)(h8:8≤k)(hx:k≤xs.length):
  Fn Tryz.prog B 185 [.slice p k c] H (fun v H'=>v=u64 (le xs 8)∧H'=H):=by
 refine mI Tryz.func185 ?_;have ir:=OS (B:=B) hr;refine Jc ?_;refine J4 ?_;refine Fz ?_;refine J5 ?_;refine JL PX ?_;refine J3 ?_;refine BL (fun j:Nat=>[(0,.slice p k c),(3,u64 (Qo xs 8 j)),(4,.int .i64 (7-(j:Int)))]) (fun _=>H) (fun j=>j≤8) (fun j=>8-j) 0 C9 CS rfl ?_;intro j hj;refine J4 ?_;refine JL (Jb (i:=7-(j:Int)) (j:=0) rfl rfl) ?_;refine J2 ?_;refine mC (fun hc=>?_) (fun hc=>?_)
 ·skip
  have e7:7-(j:Int)=((7-j:Nat):Int):=by omega
  refine J6 ?_;refine JL (YI (b:=256) rfl rfl) ?_;refine J2 ?_;refine JL (Bm (i:=7-j) rfl (by rw [←e7];rfl) (b:=b) (o:=o) hs Cg) ?_;refine JL UA ?_;refine JL (SP rfl) ?_;refine JL LR ?_;refine J6 ?_;refine JL (LW (i:=7-(j:Int)) (j:=1) rfl rfl Cg) ?_;refine J2 ?_;exact At (j+1) Cg Cg (.cons rfl (.cons rfl (.cons (by show some (Value.int _ _)=some _;congr 2;omega) .nil))) rfl
 obtain rfl:j=8:=by omega
 refine CR ?_;exact mr [2] rfl rfl ⟨by rw [←cd];rfl,rfl⟩
theorem ox(n:UInt64)(j:Nat)(h:j<8):(B0 n).take (j+1)=(B0 n).take j++[(n>>> k_ (56-8*j)).toUInt8]:=by
 have:j=0∨j=1∨j=2∨j=3∨j=4∨j=5∨j=6∨j=7:=by omega
 rcases this with h|h|h|h|h|h|h|h<;>subst h<;>first|rfl|simp [B0]
theorem U3(n:UInt64)(p:Option Addr)(b o c:Nat)(xs:List UInt8)(s:List Value)(R:HP)(hs:Sl p b o xs.length c)(hc:xs.length*1+s.length=c*1)(hx:xs.length<100000000):
  Fn Tryz.prog B 109 [.slice p xs.length c,u64 n] (AD b o xs s*R) (fun v H'=>CH R (xs++B0 n) v H'):=by
 refine mI Tryz.func109 ?_;refine J8 ?_;refine JL (FK (v:=.int .i64 (56:Nat)) rfl) ?_;refine J3 ?_
 refine BL (α:=Nat×Option Addr×Nat×Nat×Nat×List Value) (fun z=>[(0,.slice z.2.1 (xs++(B0 n).take z.1).length z.2.2.2.2.1),(1,u64 n),(5,.int .i64 (56-8*(z.1:Int)))]) (fun z=>AD z.2.2.1 z.2.2.2.1 (xs++(B0 n).take z.1) z.2.2.2.2.2*R) (fun z=>z.1≤8∧Sl z.2.1 z.2.2.1 z.2.2.2.1 (xs++(B0 n).take z.1).length z.2.2.2.2.1∧(xs++(B0 n).take z.1).length*1+z.2.2.2.2.2.length=z.2.2.2.2.1*1) (fun z=>8-z.1) (0,p,b,o,c,s) ⟨b_ _,by simpa using hs,by simpa using hc⟩ (.cons (by simp only [List.take_zero,r_];rfl) FX) Cl ?_
 rintro⟨j,q,b',o',c',s'⟩ ⟨hj,hq1,hq2⟩;dsimp only at hj hq1 hq2⊢;refine J4 ?_;refine JL (Jb (i:=56-8*(j:Int)) (j:=0) rfl rfl) ?_;refine J2 ?_;refine mC (fun hc=>?_) (fun hc=>?_)
 ·skip
  have e7:56-8*(j:Int)=((56-8*j:Nat):Int):=by omega
  refine J8 ?_;refine JL (Gt (i:=56-8*j) (by rw [←e7];rfl) (HK Cg)) ?_;refine JL (Jk (j:=56-8*j) rfl rfl Cg) ?_;refine JL WS ?_;refine FM ?_;rintro _ _ ⟨b16,rfl,rfl⟩;refine Aw (H':=AD b' o' (xs++(B0 n).take j) s'*(HP.AA b16 0 (AE [(n>>> k_ (56-8*j)).toUInt8])*R)) I0 ?_;refine AV (Bf (ys:=[(n>>> k_ (56-8*j)).toUInt8]) (bb:=b16) (oo:=0) rfl hq1 hq2 rfl Bc inferInstance rfl Cq Cg) rfl ?_;rintro _ _ ⟨q2,b2,o2,c2,s2,rfl,h2,h3,rfl⟩;refine J6 ?_;refine JL (LW (i:=56-8*(j:Int)) (j:=8) rfl rfl Cg) ?_;refine J2 ?_;refine Au (AD b2 o2 (xs++(B0 n).take j++[(n>>> k_ (56-8*j)).toUInt8]) s2*R) ?_
  have e:xs++(B0 n).take (j+1)=xs++(B0 n).take j++[(n>>> k_ (56-8*j)).toUInt8]:=by rw [ox n j Cg,f_]
  exact At (j+1,q2,b2,o2,c2,s2) ⟨Cg,by rw [e];exact h2,by rw [e];exact h3⟩ (by show 8-(j+1)<8-j;omega) (.cons TO (.cons rfl (.cons (by show some (Value.int _ _)=some _;congr 2;simp only [];omega) .nil))) (by simp only [e])
 obtain rfl:j=8:=by omega
 refine CR ?_;exact mr [4] rfl rfl ⟨q,b',o',c',s',rfl,hq1,hq2,rfl⟩
theorem Xr(n:UInt64)(R:HP):Fn Tryz.prog B 109 [.slice none 0 0,u64 n] R (fun v H'=>CH R (B0 n) v H'):=by
 have h:=U3 (B:=B) n none 0 0 0 [] [] R DG rfl Cl;rw [FI,HP.BA]at h;exact h
def ER(xs:List UInt8):List UInt8:=xs++c_ (7-xs.length%8) 0++[a_ (xs.length%256)]
theorem ja(xs:List UInt8):(ER xs).length=8*(xs.length/8+1):=by simp [ER];omega
def fM(ks xs:List UInt8):UInt64:=
 let v:=FP (ER xs) (xs.length/8+1) (EZ ks)
 let v:=I6 4 {v with c:=v.c ^^^255}
 v.a ^^^v.b ^^^v.c ^^^v.d
theorem nL(xs:List UInt8)(v:S4):∀k,k≤xs.length/8→FP (ER xs) k v=FP xs k v
 |0,_=>rfl
 |k+1,h=>by
  simp only [FP];rw [nL xs v k Cg];congr 1;refine XC 8 fun j hj=>?_;simp only [n_,o_,ER,f_];rw [e_ Cg]
theorem xR(xs:List UInt8):le ((ER xs).drop (8*(xs.length/8))) 8=le (KP xs) 8:=by
 refine XC 8 fun j hj=>?_
 have hn:a_ (xs.length%256)=a_ xs.length:=by
  apply j_.1;simp
 simp only [n_,o_,ER,KP,MQ,List.getElem?_set,l_,u_,List.length_replicate];by_cases h1:8*(xs.length/8)+j<xs.length
 ·rw [f_,e_ h1,if_neg Cg,e_ Cq,o_]
 ·by_cases h2:j=7
  ·subst h2;rw [if_pos rfl,if_pos Cg,g_ Cq];simp [show 8*(xs.length/8)+7-(xs.length+(7-xs.length%8))=0 by omega,hn]
  ·rw [f_,g_ Cg,e_ Cq,if_neg Cg,g_ Cq,
    q',q',if_pos Cg,if_pos Cq]
theorem j7(ks xs:List UInt8):fM ks xs=G4 ks xs:=by
 simp only [fM,G4,FP,xR,nL xs (EZ ks) (xs.length/8) D3]
set_option maxHeartbeats 2000000 in
theorem oE(ks xs:List UInt8)(p:Option Addr)(b o c:Nat)(H:HP)(hk:ks.length=16)(hs:Sl p b o xs.length c)(hr:AW B H b o xs)(hx:xs.length<100000000):
  Fn Tryz.prog B 157 [.agg (AE ks).toArray,.slice p xs.length c] H (fun v H'=>v=u64 (G4 ks xs)∧H'=H):=by
 refine mI Tryz.func157 ?_;refine K2 ?_;rintro _ _ ⟨b2,rfl,rfl⟩;refine Fz ?_;refine J4 ?_;refine JL (ZC (h:=8) rfl rfl Cg) ?_;refine mE rfl (WV _ b2 0 16 8 ks _ PG inferInstance Cg Cg) ?_;refine JE ?_;refine JL (kI (l:=8) rfl rfl Cg) ?_;refine mE rfl (WV _ b2 (0+8*1) (16-8) (16-8) (ks.drop 8) _ (I9 (k:=16) PG Cg Cg) inferInstance Cg Cq) ?_;refine Ha ?_;refine qD ?_;rintro _ _ ⟨b7,rfl,rfl⟩;refine Fi ?_;refine J5 ?_;refine Aw (H':=AD 0 0 ([]:List UInt8) []*(HP.AA b7 0 (s4 (EZ ks))*(HP.AA b2 0 (AE ks)*H))) (by rw [FI,HP.BA];rfl) ?_;refine AV (Bf (p:=none) (c:=0) (ys:=xs) (bb:=b) (oo:=o) rfl DG rfl rfl hs inferInstance rfl Cq Cg) rfl ?_
 rintro _ _ ⟨p26,b26,o26,c26,s26,rfl,hs26,hc26,rfl⟩;refine J5 ?_
 refine BL (α:=Nat×Option Addr×Nat×Nat×Nat×List Value) (fun z=>[(1,.slice p xs.length c),(7,ptr b7 0),(8,.slice z.2.1 (xs++c_ z.1 0).length z.2.2.2.2.1)]) (fun z=>AD z.2.2.1 z.2.2.2.1 (xs++c_ z.1 0) z.2.2.2.2.2*(HP.AA b7 0 (s4 (EZ ks))*(HP.AA b2 0 (AE ks)*H))) (fun z=>z.1≤7-xs.length%8∧Sl z.2.1 z.2.2.1 z.2.2.2.1 (xs++c_ z.1 0).length z.2.2.2.2.1∧(xs++c_ z.1 0).length*1+z.2.2.2.2.2.length=z.2.2.2.2.1*1) (fun z=>7-xs.length%8-z.1) (0,p26,b26,o26,c26,s26) ⟨b_ _,by simpa using hs26,by simpa using hc26⟩ (.cons rfl (.cons rfl (.cons (by simp only [List.replicate_zero,r_];rfl) .nil))) Cl ?_
 rintro⟨j,q,b',o',c',s'⟩ ⟨hj,hq1,hq2⟩;dsimp only at hj hq1 hq2⊢
 have hlj:(xs++c_ j (0:UInt8)).length=xs.length+j:=by simp
 refine J5 ?_;refine JL (QT (j:=8) rfl rfl Cg) ?_;refine JL (GP (j:=7) rfl rfl) ?_;refine J2 ?_;refine mC (fun hc=>?_) (fun hc=>?_)
 ·refine J5 ?_;refine FM ?_;rintro _ _ ⟨b32,rfl,rfl⟩;refine Aw (H':=AD b' o' (xs++c_ j 0) s'*(HP.AA b32 0 (AE [(0:UInt8)])*(HP.AA b7 0 (s4 (EZ ks))*(HP.AA b2 0 (AE ks)*H)))) I0 ?_;refine AV (Bf (ys:=[(0:UInt8)]) (bb:=b32) (oo:=0) rfl hq1 hq2 rfl Bc inferInstance rfl (by rw [hlj];simp;omega) Cg) rfl ?_;rintro _ _ ⟨q2,b2',o2,c2,s2,rfl,h2,h3,rfl⟩;refine J3 ?_;refine Au (AD b2' o2 (xs++c_ j 0++[0]) s2*(HP.AA b7 0 (s4 (EZ ks))*(HP.AA b2 0 (AE ks)*H))) ?_
  have e:xs++c_ (j+1) (0:UInt8)=xs++c_ j 0++[0]:=by rw [List.replicate_succ',f_]
  exact At (j+1,q2,b2',o2,c2,s2) ⟨by simp only [hlj]at hc;omega,by rw [e];exact h2,by rw [e];exact h3⟩ (by simp only [hlj]at hc;show 7-xs.length%8-(j+1)<7-xs.length%8-j;omega) (.cons rfl (.cons rfl (.cons TO .nil))) (by simp only [e])
 obtain rfl:j=7-xs.length%8:=by simp only [hlj]at hc;omega
 refine By ?_;refine JL (dP (j:=256) rfl rfl Cg) ?_;refine JL OM ?_;refine FM ?_;rintro _ _ ⟨b39,rfl,rfl⟩;refine Aw (H':=AD b' o' (xs++c_ (7-xs.length%8) 0) s'*(HP.AA b39 0 (AE [a_ (xs.length%256)])*(HP.AA b7 0 (s4 (EZ ks))*(HP.AA b2 0 (AE ks)*H)))) I0 ?_;refine AV (Bf (ys:=[a_ (xs.length%256)]) (bb:=b39) (oo:=0) rfl hq1 hq2 rfl Bc inferInstance rfl (by rw [hlj];simp;omega) Cg) rfl ?_;rintro _ _ ⟨q3,b3,o3,c3,s3,rfl,h5,h6,rfl⟩;refine J6 ?_;refine CZ ?_;have hPl:=ja xs
 refine BL (fun k:Nat=>[(7,ptr b7 0),(8,.slice q3 (ER xs).length c3),(9,iN (8*k))]) (fun k=>HP.AA b7 0 (s4 (FP (ER xs) k (EZ ks)))*(AD b3 o3 (ER xs) s3*(HP.AA b39 0 (AE [a_ (xs.length%256)])*(HP.AA b2 0 (AE ks)*H)))) (fun k=>k≤xs.length/8+1) (fun k=>xs.length/8+1-k) 0 C9 CS (by show AD b3 o3 (ER xs) s3*(_*(HP.AA b7 0 (s4 (EZ ks))*_))=HP.AA b7 0 (s4 (EZ ks))*_;ac_rfl) ?_
 intro k hk2;refine J9 ?_;refine mC (fun hc=>?_) (fun hc=>?_)
 ·refine J8 ?_;refine JL (Kt (l:=8*k) rfl rfl Cg) ?_;refine mE rfl (WV _ b3 (o3+8*k*1) (c3-8*k) ((ER xs).length-8*k) ((ER xs).drop (8*k)) _ (I9 h5 Cg (h5.2)) inferInstance Cg Cl) ?_;refine JE ?_;refine JL Fy ?_;refine J2 ?_;refine JL He ?_;refine JL Fy ?_;refine J6 ?_;refine mE rfl (Ua {FP (ER xs) k (EZ ks)with d:=(FP (ER xs) k (EZ ks)).d ^^^le ((ER xs).drop (8*k)) 8} _) ?_;refine JR ?_;refine Fi ?_;refine J5 ?_;refine mE rfl (Ua (Tr {FP (ER xs) k (EZ ks)with d:=(FP (ER xs) k (EZ ks)).d ^^^le ((ER xs).drop (8*k)) 8}) _) ?_;refine JR ?_;refine Jr ?_;refine JL E8 ?_;refine J2 ?_;refine JL He ?_;refine JL E8 ?_;refine J6 ?_;refine JL (Kb (j:=8) rfl rfl Cg) ?_;refine J2 ?_;exact At (k+1) Cg Cg CS rfl
 obtain rfl:k=xs.length/8+1:=by omega
 refine J7 ?_;refine MB ?_;refine JL (M7 (b:=255) rfl rfl) ?_;refine JL HG ?_;refine J6 ?_;refine CZ ?_
 refine BL (fun j:Nat=>[(7,ptr b7 0),(11,iN j)]) (fun j=>HP.AA b7 0 (s4 (I6 j {FP (ER xs) (xs.length/8+1) (EZ ks)with c:=(FP (ER xs) (xs.length/8+1) (EZ ks)).c ^^^255}))*(AD b3 o3 (ER xs) s3*(HP.AA b39 0 (AE [a_ (xs.length%256)])*(HP.AA b2 0 (AE ks)*H)))) (fun j=>j≤4) (fun j=>4-j) 0 C9 FX rfl ?_
 intro j hj2;refine J4 ?_;refine JL Te ?_;refine J2 ?_;refine mC (fun hc=>?_) (fun hc=>?_)
 ·refine J6 ?_;refine mE rfl (Ua (I6 j {FP (ER xs) (xs.length/8+1) (EZ ks)with c:=(FP (ER xs) (xs.length/8+1) (EZ ks)).c ^^^255}) _) ?_;refine JR ?_;refine Fi ?_;refine Fu ?_;exact At (j+1) Cg Cg FX (by rw [kX])
 obtain rfl:j=4:=by omega
 refine J7 ?_;refine dG ?_;refine JL He ?_;refine J4 ?_;exact mR [4] H rfl rfl ⟨by rw [←j7];rfl,rfl⟩
theorem zQ(ks:List UInt8)(side:UInt8)(n:UInt64)(xs:List UInt8)(i:Nat)(h:i<xs.length):CL xs (DA ks side n (i+1))=CL xs (DA ks side n i)++[xs.getD i 0 ^^^Qd ks side n i]:=by
 rw [←oK,Z' _ _ _ (by rw [KL];exact h),KL]
set_option maxHeartbeats 1000000 in
theorem YZ(ks:List UInt8)(hk:ks.length=16)(sd:Nat)(number:UInt64)(xs:List UInt8)(p:Option Addr)(b o c:Nat)(H:HP)(hs:Sl p b o xs.length c)(hr:AW B H b o xs)(hx:xs.length<100000000):
  Fn Tryz.prog B 106 [.agg (AE ks).toArray,iN sd,u64 number,.slice p xs.length c] H (fun v H'=>CH H (C6 ks (a_ sd) number xs) v H'):=by
 refine mI Tryz.func106 ?_;refine K2 ?_;rintro _ _ ⟨b4,rfl,rfl⟩;refine BV ?_;refine CZ ?_
 refine BL (α:=Nat×It) (fun z=>[(1,iN sd),(2,u64 number),(3,.slice p xs.length c),(4,ptr b4 0),(9,.slice z.2.1 (CL xs (DA ks (a_ sd) number z.1)).length z.2.2.2.2.1),(10,iN z.1)]) (fun z=>AD z.2.2.1 z.2.2.2.1 (CL xs (DA ks (a_ sd) number z.1)) z.2.2.2.2.2*(HP.AA b4 0 (AE ks)*H)) (fun z=>z.1≤xs.length∧z.2.ok (CL xs (DA ks (a_ sd) number z.1)).length) (fun z=>xs.length-z.1) (0,none,0,0,0,[]) ⟨b_ _,by rw [show DA ks (a_ sd) number 0=[]from rfl];simp [CL,It.ok,Sl]⟩ (.cons rfl (.cons rfl (.cons rfl (.cons rfl (.cons (by rw [show DA ks (a_ sd) number 0=[]from rfl];simp [CL];rfl) Ix))))) (by rw [show DA ks (a_ sd) number 0=[]from rfl];simp only [CL,List.zipWith_nil_right];rw [FI,HP.BA]) ?_
 rintro⟨i,q,bq,oq,cq,sq⟩ ⟨hi,hq1,hq2⟩;dsimp only at hi hq1 hq2⊢
 have hxl:(CL xs (DA ks (a_ sd) number i)).length=i:=by rw [LE _ _ R_,KL]
 have ir:=OS (B:=B) hr;refine J9 ?_;refine mC (fun hc=>?_) (fun hc=>?_)
 ·refine J7 ?_;refine JL OM ?_;refine FM ?_;rintro _ _ ⟨b22,rfl,rfl⟩;refine Aw (H':=AD b22 0 [a_ sd,1] []*(AD bq oq (CL xs (DA ks (a_ sd) number i)) sq*(HP.AA b4 0 (AE ks)*H))) rfl ?_;refine J1 ?_;refine mE rfl (U3 number (some ⟨b22,0,none⟩) b22 0 2 [a_ sd,1] [] _ Bc rfl Cl) ?_;rintro _ _ ⟨p24,b24,o24,c24,s24,rfl,hs24,hc24,rfl⟩;refine J7 ?_;refine JL (tt (j:=8) rfl rfl Cg) ?_;refine JL OM ?_;refine FM ?_;rintro _ _ ⟨b29,rfl,rfl⟩;refine Aw (H':=AD b24 o24 ([a_ sd,1]++B0 number) s24*(HP.AA b29 0 (AE [a_ (i/8)])*(AD bq oq (CL xs (DA ks (a_ sd) number i)) sq*(HP.AA b4 0 (AE ks)*H)))) I0 ?_;refine AV (Bf (ys:=[a_ (i/8)]) (bb:=b29) (oo:=0) rfl hs24 hc24 rfl Bc inferInstance rfl So Cg) rfl ?_;rintro _ _ ⟨p30,b30,o30,c30,s30,rfl,hs30,hc30,rfl⟩;refine J5 ?_;refine JL Lh ?_;refine J1 ?_;refine mE rfl (oE ks (([a_ sd,1]++B0 number)++[a_ (i/8)]) p30 b30 o30 c30 _ hk hs30 inferInstance So) ?_;refine Ha ?_;refine mE rfl (Xr _ _) ?_;rintro _ _ ⟨p35,b35,o35,c35,s35,rfl,hs35,hc35,rfl⟩
  refine J3 ?_;refine Hs (AD b35 o35 (B0 (G4 ks (([a_ sd,1]++B0 number)++[a_ (i/8)]))) s35*(AD bq oq (CL xs (DA ks (a_ sd) number i)) sq*(HP.AA b4 0 (AE ks)*H))) ?_;refine mA 12 14 ?_;refine LX ?_;refine JT 3 rfl fI ?_;refine JT 4 rfl (Fo rfl hc) ?_;refine Jm 5 ?_;refine Jm 6 ?_;refine JT 7 rfl (dP (j:=8) rfl rfl Cg) ?_;refine JT 8 rfl (Bm rfl rfl (b:=b35) (o:=o35) hs35 TW) ?_;refine JT 9 rfl (Fo rfl TW) ?_;refine JT 10 rfl (aT rfl rfl) ?_;refine Al 11 Ch rfl rfl I3 ?_;rintro _ _ ⟨b47,rfl,rfl⟩;refine BF ?_;refine FB (H':=AD bq oq (CL xs (DA ks (a_ sd) number i)) sq*(HP.AA b47 0 (AE [xs.getD i 0 ^^^(B0 (G4 ks (([a_ sd,1]++B0 number)++[a_ (i/8)]))).getD (i%8) 0])*(AD b35 o35 (B0 (G4 ks (([a_ sd,1]++B0 number)++[a_ (i/8)]))) s35*(HP.AA b4 0 (AE ks)*H)))) (by show HP.AA b47 0 (AE [xs.getD i 0 ^^^(B0 (G4 ks (([a_ sd,1]++B0 number)++[a_ (i/8)]))).getD (i%8) 0])*_=_;ac_rfl) ?_
  refine Al 12 Ch rfl rfl (Bf (ys:=[xs.getD i 0 ^^^(B0 (G4 ks (([a_ sd,1]++B0 number)++[a_ (i/8)]))).getD (i%8) 0]) (bb:=b47) (oo:=0) rfl hq1 hq2 rfl Bc inferInstance rfl (by rw [hxl];simp;omega) Cg) ?_;rintro _ _ ⟨q48,b48,o48,c48,s48,rfl,h5,h6,rfl⟩;refine DS ?_;refine Ec 13 Ch rfl rfl Fl EO ?_;refine JD ?_;refine Fb ?_;refine Au (AD b48 o48 ((CL xs (DA ks (a_ sd) number i))++[xs.getD i 0 ^^^(B0 (G4 ks (([a_ sd,1]++B0 number)++[a_ (i/8)]))).getD (i%8) 0]) s48*(HP.AA b4 0 (AE ks)*H)) ?_;have e:=zQ ks (a_ sd) number xs i hc;exact At (i+1,q48,b48,o48,c48,s48) ⟨hc,by rw [e];exact⟨h5,h6⟩⟩ (by show xs.length-(i+1)<xs.length-i;omega) (.cons rfl (.cons rfl (.cons rfl (.cons rfl (.cons TO Ix))))) (by simp only [e];rfl)
 obtain rfl:i=xs.length:=by omega
 refine CR ?_;exact mR [8] (AD bq oq (CL xs (DA ks (a_ sd) number xs.length)) sq*H) rfl rfl ⟨q,bq,oq,cq,sq,rfl,hq1,hq2,rfl⟩
theorem gM(ks:List UInt8)(hk:ks.length=16)(sd:Nat)(number:UInt64)(xs:List UInt8)(p:Option Addr)(b o c:Nat)(H:HP)(hs:Sl p b o xs.length c)(hr:AW B H b o xs)(hx:xs.length<90000000):
  Fn Tryz.prog B 105 [.agg (AE ks).toArray,iN sd,u64 number,.slice p xs.length c] H (fun v H'=>CH H (Gg ks (a_ sd) number xs) v H'):=by
 refine mI Tryz.func105 ?_;refine K2 ?_;rintro _ _ ⟨b4,rfl,rfl⟩;refine J6 ?_;refine JL OM ?_;refine FM ?_;rintro _ _ ⟨b13,rfl,rfl⟩;refine Aw (H':=AD b13 0 [a_ sd,2] []*(HP.AA b4 0 (AE ks)*H)) rfl ?_;refine J1 ?_;refine mE rfl (U3 number (some ⟨b13,0,none⟩) b13 0 2 [a_ sd,2] [] _ Bc rfl Cl) ?_;rintro _ _ ⟨p15,b15,o15,c15,s15,rfl,hs15,hc15,rfl⟩;refine J7 ?_;refine AV jV rfl ?_;rintro _ _ ⟨p18,b18,o18,c18,s18,rfl,hs18,hc18,rfl⟩;refine J5 ?_;refine JL Lh ?_;refine J1 ?_;refine mE rfl (oE ks ([a_ sd,2]++B0 number++xs) p18 b18 o18 c18 _ hk hs18 inferInstance TE) ?_;refine Ha ?_;refine mE rfl (Xr _ _) ?_;rintro _ _ ⟨p23,b23,o23,c23,s23,rfl,hs23,hc23,rfl⟩;refine J4 ?_;exact mR [8] (AD b23 o23 (B0 (G4 ks ([a_ sd,2]++B0 number++xs))) s23*H) rfl rfl ⟨p23,b23,o23,c23,s23,rfl,hs23,hc23,rfl⟩
theorem dL(ks:List UInt8)(hk:ks.length=16)(sd:Nat)(number:UInt64)(xs:List UInt8)(p:Option Addr)(b o c:Nat)(H:HP)(hs:Sl p b o xs.length c)(hr:AW B H b o xs)(hx:xs.length<90000000):
  Fn Tryz.prog B 68 [.agg (AE ks).toArray,iN sd,u64 number,.slice p xs.length c] H (fun v H'=>CH H (DK ks (a_ sd) number xs) v H'):=by
 refine mI Tryz.func68 ?_;have hml:=XH ks (a_ sd) number xs;refine K2 ?_;rintro _ _ ⟨b4,rfl,rfl⟩;refine J6 ?_;refine mE rfl (Xr _ _) ?_;rintro _ _ ⟨p13,b13,o13,c13,s13,rfl,hs13,hc13,rfl⟩;refine J5 ?_;refine JL Lh ?_;refine J3 ?_;refine mE rfl (YZ ks hk sd number xs p b o c _ hs inferInstance Cg) ?_;rintro _ _ ⟨p18,b18,o18,c18,s18,rfl,hs18,hc18,rfl⟩;refine J7 ?_;refine Nk ?_;refine AV (Bf (ys:=C6 ks (a_ sd) number xs) (bb:=b18) (oo:=o18) rfl hs13 hc13 rfl hs18 inferInstance rfl TW Cg) rfl ?_;rintro _ _ ⟨p21,b21,o21,c21,s21,rfl,hs21,hc21,rfl⟩;refine J5 ?_;refine JL Lh ?_;refine J3 ?_;refine mE rfl (gM ks hk sd number (C6 ks (a_ sd) number xs) p18 b18 o18 c18 _ hs18 inferInstance Cg) ?_;rintro _ _ ⟨p26,b26,o26,c26,s26,rfl,hs26,hc26,rfl⟩;refine J7 ?_;refine Nk ?_;refine AV (Bf (ys:=Gg ks (a_ sd) number (C6 ks (a_ sd) number xs)) (bb:=b26) (oo:=o26) rfl hs21 hc21 rfl hs26 inferInstance rfl aX Cg) rfl ?_;rintro _ _ ⟨p29,b29,o29,c29,s29,rfl,hs29,hc29,rfl⟩;refine J4 ?_
 exact mR [8] (AD b29 o29 (B0 number++C6 ks (a_ sd) number xs++Gg ks (a_ sd) number (C6 ks (a_ sd) number xs)) s29*H) rfl rfl ⟨p29,b29,o29,c29,s29,rfl,hs29,hc29,rfl⟩
def UD(xs:List UInt8):Nat→UInt64
 |0=>0
 |i+1=>UD xs i*256+(xs.getD i 0).toUInt64
theorem wA(x:UInt64)(y:UInt8):x<<< 8|||y.toUInt64=x*256+y.toUInt64:=by
 apply UInt64.toNat_inj.1;have hy:=y.toNat_lt;rw [UInt64.toNat_or,UInt64.toNat_shiftLeft,UInt64.toNat_add,UInt64.toNat_mul,UInt8.toNat_toUInt64,show(8:UInt64).toNat%64=8 from rfl,show(256:UInt64).toNat=256 from rfl,Nat.shiftLeft_eq];generalize x.toNat=n;rw [show n*2^8%2^64=2^8*(n%2^56) by rw [show(2:Nat)^64=2^56*2^8 by decide,Nat.mul_mod_mul_right,Nat.mul_comm],←j' (by omega:y.toNat<2^8)];omega
theorem hM(xs:List UInt8):∀i,UD xs i=be xs i
 |0=>rfl
 |i+1=>by simp only [UD,be,wA,hM xs i]
theorem Qs{xs ys:List UInt8}:BI xs=BI ys↔xs=ys:=⟨fun h=>by simpa [BI]using h,fun h=>by rw [h]⟩
set_option maxHeartbeats 1000000 in
theorem Uh(ks:List UInt8)(hk:ks.length=16)(sd:Nat)(xs:List UInt8)(p:Option Addr)(b o c:Nat)(H:HP)(hs:Sl p b o xs.length c)(hr:AW B H b o xs)(hx:xs.length<90000000):
  Fn Tryz.prog B 65 [.agg (AE ks).toArray,iN sd,.slice p xs.length c] H (fun v H'=>match Bj ks (a_ sd) xs with
   |none=>v=.tuple #[u64 0,.slice none 0 0,.bool false]∧H'=H
   |some (n,ys)=>∃sv,v=.tuple #[u64 n,sv,.bool true]∧CH H ys sv H'):=by
 refine mI Tryz.func65 ?_;refine K2 ?_;rintro _ _ ⟨b3,rfl,rfl⟩;refine Fz ?_;refine J9 ?_;refine JL (GH (j:=16) rfl rfl) ?_;refine J1 ?_;refine CJ 17 rfl (fun hg1=>?_) (fun hg1=>?_)
 ·refine I8 ?_;refine OC ?_;refine K6 ?_;exact mR [6,7,8] H rfl rfl aL
 refine KO ?_;refine Ir ?_;refine JL (I' (j:=300) rfl rfl) ?_;refine Iq ?_;refine mC (fun hc=>?_) (fun hc=>?_)
 ·refine K6 ?_;exact mR [6,7,8] H rfl rfl aL
 have h16:16≤xs.length:=by omega
 have h300:xs.length≤300:=by omega
 have hbl:(EL xs).length=xs.length-16:=by simp [EL];omega
 have hop:¬(xs.length<16∨300<xs.length):=by omega
 have ir:=OS (B:=B) hr
 have hsB:Sl (sp p c 8 1) b (o+8*1) (EL xs).length (c-8):=by
  have:=I9 (sz:=1) (l:=8) (h:=xs.length-8) hs Cg Cp
  rw [hbl,show xs.length-16=xs.length-8-8 by omega];exact this
 have hrB:AW B H b (o+8*1) (EL xs):=hr.sub 8 (xs.length-8) Cg
 have hsT:Sl (sp p c (xs.length-8) 1) b (o+(xs.length-8)*1) (xs.drop (xs.length-8)).length (c-(xs.length-8)):=by
  have:=I9 (sz:=1) (l:=xs.length-8) (h:=xs.length) hs Cg hs.2
  rw [u_];exact this
 have hrT:AW B H b (o+(xs.length-8)*1) (xs.drop (xs.length-8)):=hr.LB (xs.length-8);refine J4 ?_;refine Fz ?_;refine MH ?_
 refine BL (fun j:Nat=>[(1,iN sd),(2,.slice p xs.length c),(3,ptr b3 0),(10,iN j),(9,u64 (UD xs j))]) (fun _=>HP.AA b3 0 (AE ks)*H) (fun j=>j≤8) (fun j=>8-j) 0 C9
  GE rfl ?_
 intro j hj;refine J4 ?_;refine JL (GH (j:=8) rfl rfl) ?_;refine J2 ?_;refine mC (fun hc=>?_) (fun hc=>?_)
 ·refine J6 ?_;refine JL (YI (b:=256) rfl rfl) ?_;refine J2 ?_;refine JL Yx ?_;refine JL UA ?_;refine JL (SP rfl) ?_;refine JL LR ?_;refine KG ?_;exact At (j+1) Cg Cg GE rfl
 obtain rfl:j=8:=by omega
 rw [hM];refine By ?_;refine JL (Ia (j:=8) rfl rfl Cg) ?_;refine JL Wo ?_;refine J5 ?_;refine JL Lh ?_;refine J3 ?_;refine mE rfl (gM ks hk sd (be xs 8) (EL xs) (sp p c 8 1) b (o+8*1) (c-8) _ hsB inferInstance Cg) ?_;rintro _ _ ⟨p43,b43,o43,c43,s43,rfl,hs43,hc43,rfl⟩;refine J5 ?_;refine mA 13 13 ?_;refine Jm 0 ?_;refine JT 1 rfl (Hq rfl hs43 inferInstance) ?_;refine Jm 2 ?_;refine Jm 3 ?_;refine JT 4 rfl Dm ?_;refine JT 5 rfl (Ia (j:=8) rfl rfl Cg) ?_;refine JT 6 rfl jZ ?_;refine JT 7 rfl (Hq rfl hsT inferInstance) ?_;refine JT 8 rfl (Va rfl rfl) ?_;refine Jm 9 ?_;refine DM 53 rfl (fun hg2=>?_) (fun hg2=>?_)
 ·refine JN 10 rfl T2 ?_;refine JN 11 rfl T2 ?_;refine JT 12 rfl FR ?_;refine Jw ?_;refine K6 ?_;exact mR [6,7,8] H rfl rfl (by rw [show Bj ks (a_ sd) xs=none from by rw [Bj,if_neg hop,if_pos (.inr (fun h=>hg2 (Qs.2 h)))]];exact CO)
 refine JY 10 rfl F2 A4 ?_;refine JY 11 rfl F2 fP ?_;refine JT 12 rfl FQ ?_;refine EU ?_;refine mC (fun hc=>?_) (fun hc=>?_)
 ·refine K6 ?_;exact mR [6,7,8] H rfl rfl (by rw [show Bj ks (a_ sd) xs=none from by rw [Bj,if_neg hop,if_pos (.inl hc)]];exact CO)
 refine J4 ?_;refine JL Lh ?_;refine J3 ?_;refine mE rfl (YZ ks hk sd (be xs 8) (EL xs) (sp p c 8 1) b (o+8*1) (c-8) _ hsB inferInstance Cg) ?_;rintro _ _ ⟨p61,b61,o61,c61,s61,rfl,hs61,hc61,rfl⟩;refine EP ?_;exact mR [6,7,8] (AD b61 o61 (C6 ks (a_ sd) (be xs 8) (EL xs)) s61*H) rfl rfl (by rw [show Bj ks (a_ sd) xs=some (be xs 8,C6 ks (a_ sd) (be xs 8) (EL xs)) by rw [Bj,if_neg hop,if_neg (fun h=>h.elim hc (fun h=>hg2 (fun h2=>h (Qs.1 h2))))]];exact⟨_,rfl,p61,b61,o61,c61,s61,rfl,hs61,hc61,rfl⟩)
end
section
variable{B:World}
theorem Vm(p:Option Addr)(b o c k:Nat)(xs:List UInt8)(s:List Value)(R:HP)(hs:Sl p b o k c)(hx:xs.length=k)(hk:k<1000000000):
  Fn Tryz.prog B 93 [.slice p k c] (AD b o xs s*R) (fun _ H'=>∃ys:List UInt8,ys.length=k∧H'=AD b o ys s*R):=by
 refine mI Tryz.func93 ?_;refine J4 ?_;refine Hy ?_;refine BL (α:=Nat×List UInt8) (fun z=>[(0,.slice p k c),(4,iN k),(5,iN z.1)]) (fun z=>AD b o z.2 s*R) (fun z=>z.1≤k∧z.2.length=k) (fun z=>k-z.1) (0,xs) ⟨b_ _,hx⟩ CS rfl ?_;rintro⟨j,ys⟩ ⟨hj,hy⟩;dsimp only at hj hy⊢;refine J6 ?_;refine mC (fun hc=>?_) (fun hc=>?_)
 ·refine EP ?_;refine JL fI ?_;refine Bv (EG (v:=u8 33) rfl rfl rfl Cg) ?_;refine E5 ?_;refine FO ?_;exact At (j+1,ys.set j 33) ⟨hc,by simp [hy]⟩ (by show k-(j+1)<k-j;omega) CS rfl
 refine J4 ?_;exact RD (ts:=[]) rfl rfl ⟨ys,hy,rfl⟩
theorem x4{ks:List UInt8}(hk:ks.length=16){side:UInt8}{xs:List UInt8}(p:Option Addr)(b o c:Nat)(H:HP)(hs:Sl p b o xs.length c)(hr:AW B H b o xs)(hx:xs.length<90000000)(hop:Bj ks side xs=none):
  Fn Tryz.prog B 142 [.agg (AE ks++[u8 side]).toArray,.slice p xs.length c] H (fun v H'=>v=.tuple #[u64 0,.slice none 0 0,.bool false]∧H'=H):=by
 have h:=Z2 ks hk side xs p b o c H hs hr hx;rw [hop]at h;exact h
theorem x9{ks:List UInt8}(hk:ks.length=16){side:UInt8}{xs:List UInt8}{n:UInt64}{ys:List UInt8}(p:Option Addr)(b o c:Nat)(H:HP)(hs:Sl p b o xs.length c)(hr:AW B H b o xs)(hx:xs.length<90000000)(hop:Bj ks side xs=some (n,ys)):
  Fn Tryz.prog B 142 [.agg (AE ks++[u8 side]).toArray,.slice p xs.length c] H (fun v H'=>∃q b' o' c' s',v=.tuple #[u64 n,.slice q ys.length c',.bool true]∧Sl q b' o' ys.length c'∧ys.length*1+s'.length=c'*1∧H'=AD b' o' ys s'*H):=by
 have h:=Z2 ks hk side xs p b o c H hs hr hx;rw [hop]at h;exact h.mono (by rintro v H' ⟨sv,rfl,q,b',o',c',s',rfl,h1,h2,rfl⟩;exact⟨q,b',o',c',s',rfl,h1,h2,rfl⟩)
def Fg(c:Int)(n:Nat):Nat:=(if c<0 then(-(c+1)).toNat else c.toNat)%n
theorem pZ(c:Int)(hr: -9223372036854775808≤c∧c<9223372036854775808)(n:Nat)(hn:0<n)(H:HP):Fn Tryz.prog B 19 [.int .i64 c,iN n] H (fun v H'=>v=iN (Fg c n)∧H'=H):=by
 refine mI Tryz.func19 ?_;refine GA ?_;refine J6 ?_;refine JL (JQ (i:=c) (j:=0) rfl rfl) ?_;refine J2 ?_;refine mC (fun hc=>?_) (fun hc=>?_)
 ·skip
  have e: -(c+1)=(((-(c+1)).toNat:Nat):Int):=by omega
  refine J2 ?_;refine JL (S_ (i:=c) (j:=1) rfl rfl Cg) ?_;refine JL (tU (i:=c+1) rfl Cg) ?_;refine J7 ?_;refine JL Yq ?_;refine J4 ?_;exact Ol
 have e:c=((c.toNat:Nat):Int):=by omega
 refine J6 ?_;refine JL Yq ?_;refine J4 ?_;exact Ol
theorem ZV(H:HP):Fn Tryz.prog B 44 [.nilIface] H (fun v H'=>v=.tuple #[.int .i64 0,.int .i64 (-1)]∧H'=H):=by
 refine Uu ?_;rintro _ _ ⟨b4,rfl,rfl⟩;refine J4 ?_;refine P7 ?_;rintro _ _ ⟨b5,rfl,rfl⟩;refine J7 ?_;refine JL PT ?_;refine J3 ?_;refine mc (fun hc=>?_) (fun hc=>?_);rotate_left
 ·cases hc
 refine GA ?_;refine J6 ?_;exact mR [2,3] H rfl rfl CO
theorem X? (H:HP):Fn Tryz.prog B 40 [.nilIface] H (fun v H'=>v=.int .i64 0∧H'=H):=by
 refine mI Tryz.func40 ?_;refine LH ?_;refine mE rfl (ZV _) ?_;refine JR ?_;refine FL ?_;exact NJ
end
section
open Go Go.RowKit Go.Extern.Stop Go.Stop Go.Extern
set_option linter.unusedVariables false
set_option maxRecDepth 20000
set_option maxHeartbeats 1000000
variable{B:World}
abbrev Gd(q:Nat):Value:=.iface 191 (ptr q 0)
abbrev FJ(q k:Nat)(at_:Value):HP:=HP.AA q 0 [.int .i64 (k:Nat),at_]
theorem l3(q k:Nat)(at_:Value)(R:HP):Fn Tryz.prog B 249 [ptr q 0] (FJ q k at_*R) (fun v H'=>v=Ek k∧H'=FJ q k at_*R):=by
 refine mI Tryz.func249 ?_;refine By ?_;refine DY ?_;refine JL IW ?_;refine J4 ?_;exact NJ
theorem j4(q:Nat)(tg old:Value)(b5 b14:Nat)(R:HP):Fn Tryz.prog B 123 [Gd q,tg,.agg #[.pointer (some ⟨1,193,none⟩),ptr b14 0,.int .u64 150],Eg 191] (HP.AA b5 0 [old]*(HP.AA b14 0 [ptr b5 0]*R))
  (fun v H'=>v=.bool true∧H'=HP.AA b5 0 [ptr q 0]*(HP.AA b14 0 [ptr b5 0]*R)):=by
 refine mI Tryz.func123 ?_;refine J2 ?_;refine AV (DP (l:=[.pointer (some ⟨1,193,none⟩),ptr b14 0,.int .u64 150]) rfl rfl) rfl ?_;rintro _ _ ⟨b6,rfl,rfl⟩;refine J4 ?_;refine BL (fun _:Unit=>[(0,Gd q),(1,tg),(3,Eg 191),(6,ptr b6 0)]) (fun _=>(HP.AA b6 0 [.pointer (some ⟨1,193,none⟩),ptr b14 0,.int .u64 150]*(HP.AA b5 0 [old]*(HP.AA b14 0 [ptr b5 0]*R)))) (fun _=>True) (fun _=>0) () trivial B4 rfl ?_;intro _ _;refine J5 ?_;refine JL (KW rfl (fun w _=>u7 _ w)) ?_;refine J1 ?_;refine JL (IC rfl rfl (fun w _=>D! w)) ?_;refine J2 ?_;refine mc (fun hc=>?_) (fun hc=>?_);rotate_left
 ·cases hc
 refine J3 ?_;refine JL (KW (v:=.agg #[.pointer (some ⟨1,191,none⟩),ptr b5 0,.int .u64 406]) rfl (fun w hw=>vE ⟨b14,0,none⟩ ⟨b5,0,none⟩ w ((inferInstance:Rd B (HP.AA b6 0 [.pointer (some ⟨1,193,none⟩),ptr b14 0,.int .u64 150]*(HP.AA b5 0 [old]*(HP.AA b14 0 [ptr b5 0]*R))) b14 0 (ptr b5 0) True).get w hw trivial))) ?_;refine J1 ?_;refine AV (NR (Post:=fun v H'=>∃b,v=.agg #[.pointer (some ⟨1,191,none⟩),ptr b 0,.int .u64 150]∧H'=HP.AA b 0 [ptr q 0]*(HP.AA b6 0 [.pointer (some ⟨1,193,none⟩),ptr b14 0,.int .u64 150]*(HP.AA b5 0 [old]*(HP.AA b14 0 [ptr b5 0]*R)))) rfl (fun w hw=>⟨_,_,_,xP _ w,⟨w.heap.size,rfl,rfl⟩,hw.alloc _ _⟩)) rfl ?_;rintro _ _ ⟨b23,rfl,rfl⟩
 refine AV (NR (Post:=fun v H'=>H'=HP.AA b23 0 [ptr q 0]*(HP.AA b6 0 [.pointer (some ⟨1,193,none⟩),ptr b14 0,.int .u64 150]*(HP.AA b5 0 [ptr q 0]*(HP.AA b14 0 [ptr b5 0]*R)))) rfl (fun w hw=>by
 have hb:=(inferInstance:Rd B (HP.AA b23 0 [ptr q 0]*(HP.AA b6 0 [.pointer (some ⟨1,193,none⟩),ptr b14 0,.int .u64 150]*(HP.AA b5 0 [old]*(HP.AA b14 0 [ptr b5 0]*R)))) b23 0 (ptr q 0) True).get w hw trivial
 obtain⟨⟨u,hu⟩,hf,hs⟩:=Sat.store (v:=ptr q 0) (H':=HP.AA b23 0 [ptr q 0]*(HP.AA b6 0 [.pointer (some ⟨1,193,none⟩),ptr b14 0,.int .u64 150]*(HP.AA b5 0 [ptr q 0]*(HP.AA b14 0 [ptr b5 0]*R)))) (s:=True) (b:=b5) (i:=0) inferInstance hw trivial
 exact⟨_,_,_,ri ⟨b5,0,none⟩ ⟨b23,0,none⟩ ⟨q,0,none⟩ u w hb hu hf,rfl,hs⟩)) rfl ?_
 rintro _ _ rfl;refine CR ?_;exact mR [8] (HP.AA b5 0 [ptr q 0]*(HP.AA b14 0 [ptr b5 0]*R)) rfl rfl CO
theorem n0(hG:B.cell? ⟨0,0,none⟩=some (Eg 106))(q:Nat)(old:Value)(b4:Nat)(R:HP):Fn Tryz.prog B 79 [Gd q,.iface 193 (ptr b4 0)] (HP.AA b4 0 [old]*R) (fun v H'=>v=.bool true∧H'=HP.AA b4 0 [ptr q 0]*R):=by
 refine V4 ?_;refine mc (fun hc=>?_) (fun hc=>?_)
 ·cases hc
 refine J6 ?_;refine ME ?_;refine mc (fun hc=>?_) (fun hc=>?_)
 ·cases hc
 refine J5 ?_;refine AV iV rfl ?_;rintro _ _ ⟨b14,rfl,rfl⟩;refine Me ?_;rintro _ _ ⟨b5,rfl,rfl⟩;refine nA ?_;refine CJ 20 rfl (fun hg1=>?_) (fun hg1=>?_)
 ·exact absurd rfl hg1
 refine JA ?_;refine JL kV ?_;refine Iq ?_;refine mc (fun hc=>?_) (fun hc=>?_)
 ·cases hc
 refine eW ?_;refine CJ 30 rfl (fun hg2=>?_) (fun hg2=>?_)
 ·refine KV ?_;refine JL YS ?_;refine JC ?_;refine JL tC ?_;refine UJ ?_;refine mc (fun hc=>?_) (fun hc=>?_)
  ·cases hc
  refine J8 ?_;refine Aw (H':=HP.AA b4 0 [old]*(HP.AA b14 0 [ptr b4 0]*(HP.AA b5 0 [.pointer (some ⟨1,193,none⟩),ptr b14 0,.int .u64 150]*R))) Cm ?_;refine mE rfl (j4 q _ old b4 b14 (HP.AA b5 0 [.pointer (some ⟨1,193,none⟩),ptr b14 0,.int .u64 150]*R)) ?_;refine E5 ?_;exact mR [4] (HP.AA b4 0 [ptr q 0]*R) rfl rfl CO
 exact absurd Ci hg2
theorem zB(q:Value)(k:Int)(w:World):(binOp .eql 106 (.iface 191 q) (.iface 41 (.int .i64 k))).run Tryz.prog w=.ok (.bool false) w:=by kernel_rfl
theorem je(q k:Nat)(at_:Value)(R:HP):Fn Tryz.prog B 125 [Gd q,Ek k,.bool true] (FJ q k at_*R) (fun v H'=>v=.bool true∧H'=FJ q k at_*R):=by
 refine mI Tryz.func125 ?_;refine J6 ?_;refine BL (fun z:Bool=>[(0,bif z then Gd q else Ek k),(1,Ek k),(2,.bool true)]) (fun _=>FJ q k at_*R) (fun _=>True) (fun z=>bif z then 1 else 0) true trivial CS rfl ?_;intro z _
 have hne:(bif z then Gd q else Ek k)=Gd q∨z=false:=by cases z<;>simp
 cases z;rotate_left
 ·dsimp only [cond_true]at*;refine J6 ?_;refine CU 15 rfl (fun hg1=>?_) (fun hg1=>?_)
  ·refine Im ?_;refine JL (Lu (r:=.bool false) rfl rfl (fun w=>by kernel_rfl) (fun w=>by rw [zB])) ?_;refine GO ?_;refine J2 ?_;refine mc (fun hc=>?_) (fun hc=>?_)
   ·cases hc
   refine J6 ?_;refine JL Tc ?_;refine BV ?_;refine CU 26 rfl (fun hg2=>?_) (fun hg2=>?_)
   ·cases hg2
   refine Ub ?_;refine JH hg2 ?_;refine JL Nd ?_;refine J2 ?_;refine JJ ?_;refine By ?_;refine JL (Vk (v:=.tuple #[Gd q,.bool true]) rfl (run_typeAssert_hasB Ar.get Ch _ _)) ?_;refine J4 ?_;refine mc (fun hc=>?_) (fun hc=>?_);rotate_left
   ·cases hc
   refine J8 ?_;refine AV (jj rfl rfl (l3 q k at_ R)) rfl ?_;refine Ha ?_;refine ME ?_;refine mc (fun hc=>?_) (fun hc=>?_)
   ·cases hc
   refine J3 ?_;exact At false trivial Ci CS rfl
  cases hg1
 dsimp only [cond_false]at*;refine J6 ?_;refine CU 15 rfl (fun hg1=>?_) (fun hg1=>?_)
 ·refine Im ?_;refine JL ZL ?_;refine GO ?_;refine J2 ?_;refine mc (fun hc=>?_) (fun hc=>?_);rotate_left
  ·cases hc
  refine By ?_;exact mr [6] rfl rfl CO
 cases hg1
theorem vK(q k:Nat)(at_:Value)(R:HP):Fn Tryz.prog B 80 [Gd q,Ek k] (FJ q k at_*R) (fun v H'=>v=.bool true∧H'=FJ q k at_*R):=by
 refine mI Tryz.func80 ?_;refine J9 ?_;refine Ka ?_;refine J1 ?_;refine CU 8 rfl (fun hg1=>?_) (fun hg1=>?_)
 ·cases hg1
 refine Ky ?_;refine Ka ?_;refine JK ?_;refine mc (fun hc=>?_) (fun hc=>?_)
 ·cases hc
 refine J5 ?_;refine JL RU ?_;refine JL jM ?_;refine J8 ?_;refine mE rfl (je q k at_ R) ?_;refine E5 ?_;exact Ol
theorem nY(hG:B.cell? ⟨0,0,none⟩=some (Eg 106))(k:Nat)(H:HP):Fn Tryz.prog B 44 [Ek k] H (fun v H'=>v=.tuple #[.int .i64 k,.int .i64 (-1)]∧H'=H):=by
 refine Uu ?_;rintro _ _ ⟨b4,rfl,rfl⟩;refine J4 ?_;refine P7 ?_;rintro _ _ ⟨b5,rfl,rfl⟩;refine J7 ?_;refine Ka ?_;refine J3 ?_;refine mc (fun hc=>?_) (fun hc=>?_)
 ·cases hc
 refine J3 ?_;refine JL IW ?_;refine Nk ?_;refine mE rfl (wI hG k _ b4 _) ?_;refine Fq ?_;refine CU 13 rfl (fun hg1=>?_) (fun hg1=>?_)
 ·cases hg1
 refine Fh ?_;refine Fh ?_;refine G8 ?_;refine NH ?_;refine J3 ?_;refine JJ ?_;refine J3 ?_;refine JL IW ?_;refine Nk ?_;refine mE rfl (l7 hG k _ b5 _) ?_;refine Fq ?_;refine CU 34 rfl (fun hg2=>?_) (fun hg2=>?_)
 ·refine X8 ?_;refine DY ?_;refine JG hg2 ?_;refine JL IW ?_;refine JG hg2 ?_;refine mE rfl (dh k _) ?_;refine JR ?_;refine JL Nv ?_;refine J3 ?_;refine mc (fun hc=>?_) (fun hc=>?_);rotate_left
  ·cases hc
  refine J2 ?_;refine DY ?_;refine J7 ?_;exact mR [2,3] H rfl rfl CO
 cases hg2
theorem uG(hG:B.cell? ⟨0,0,none⟩=some (Eg 106))(k:Nat)(H:HP):Fn Tryz.prog B 40 [Ek k] H (fun v H'=>v=.int .i64 k∧H'=H):=by
 refine mI Tryz.func40 ?_;refine LH ?_;refine mE rfl (nY hG k _) ?_;refine JR ?_;refine FL ?_;exact NJ
theorem eB(hG:B.cell? ⟨0,0,none⟩=some (Eg 106))(q k:Nat)(at_:Value)(R:HP):Fn Tryz.prog B 44 [Gd q] (FJ q k at_*R) (fun v H'=>v=.tuple #[.int .i64 k,at_]∧H'=FJ q k at_*R):=by
 refine Uu ?_;rintro _ _ ⟨b4,rfl,rfl⟩;refine J4 ?_;refine P7 ?_;rintro _ _ ⟨b5,rfl,rfl⟩;refine J7 ?_;refine Ka ?_;refine J3 ?_;refine mc (fun hc=>?_) (fun hc=>?_)
 ·cases hc
 refine J3 ?_;refine JL IW ?_;refine Nk ?_;refine mE rfl (n0 hG q _ b4 _) ?_;refine Fq ?_;refine CU 13 rfl (fun hg1=>?_) (fun hg1=>?_)
 ·refine Ky ?_;refine DY ?_;refine Im ?_;refine DY ?_;refine H4 ?_;refine JL IW ?_;refine Aw (H':=FJ q k at_*(HP.AA b4 0 [ptr q 0]*(HP.AA b5 0 [.int .i64 0]*R))) Cm ?_;refine H4 ?_;refine mE rfl (vK q k at_ _) ?_;refine JR ?_;refine GO ?_;refine J3 ?_;refine mc (fun hc=>?_) (fun hc=>?_);rotate_left
  ·cases hc
  refine J1 ?_;refine mA 10 10 ?_;refine Mo ?_;refine JW ?_;refine Jn 5 ?_;refine Hk ?_;refine Jd 7 ?_;refine Ja 8 ?_;refine Ja 9 ?_;refine M6 ?_;exact mR [2,3] (FJ q k at_*R) rfl rfl CO
 cases hg1
theorem zP(hG:B.cell? ⟨0,0,none⟩=some (Eg 106))(q k:Nat)(at_:Value)(R:HP):Fn Tryz.prog B 40 [Gd q] (FJ q k at_*R) (fun v H'=>v=.int .i64 k∧H'=FJ q k at_*R):=by
 refine mI Tryz.func40 ?_;refine LH ?_;refine mE rfl (eB hG q k at_ _) ?_;refine JR ?_;refine FL ?_;exact NJ
end
section
variable{B:World}
abbrev nQ(b5 b2 b3:Nat):Deferred:={target:=.fn (.func 175) [ptr b5 0,ptr b2 0,ptr b3 0].toArray,args:= #[]}
theorem ap(b5 b2 b3:Nat)(H:HP):OU Tryz.prog B 175 [ptr b5 0,ptr b2 0,ptr b3 0] .returning .returning H (fun H'=>H'=H):=by
 refine ZU Tryz.func175 rfl rfl rfl rfl rfl rfl (.inl ⟨rfl,rfl,rfl⟩) fun Q hq=>?_;refine J3 ?_;refine ME ?_;refine mc (fun hc=>?_) (fun hc=>?_)
 ·cases hc
 refine J1 ?_;exact hq _ _ rfl
theorem ow(b5 b2 b3 e5:Nat)(lv ev:Value)(R:HP):OU Tryz.prog B 175 [ptr b5 0,ptr b2 0,ptr b3 0] (.panicking HL) (.panicking [{v:=.iface 320 (.agg #[]),recovered:=true}]) (HP.AA b5 0 [iN e5]*(HP.AA b2 0 [lv]*(HP.AA b3 0 [ev]*R)))
  (fun H'=>∃q,H'=FJ q 5 (iN e5)*(HP.AA b5 0 [iN e5]*(HP.AA b2 0 [.slice none 0 0]*(HP.AA b3 0 [Gd q]*R)))):=by
 refine ZU Tryz.func175 rfl rfl rfl rfl rfl rfl (.inr ⟨[],rfl,rfl⟩) fun Q hq=>?_;refine J3 ?_;refine JL PT ?_;refine J2 ?_;refine mc (fun hc=>?_) (fun hc=>?_);rotate_left
 ·cases hc
 refine J4 ?_;refine JL (Vk (v:=.tuple #[.agg #[],.bool true]) rfl (fun w=>by kernel_rfl)) ?_;refine J3 ?_;refine AV (GX (l:=[]) rfl) rfl ?_;rintro _ _ ⟨b4,rfl,rfl⟩;refine Bv (GS (cs:=[]) rfl rfl CO Cl) ?_;refine Ha ?_;refine Eb ?_;refine mc (fun hc=>?_) (fun hc=>?_)
 ·cases hc
 refine J3 ?_;refine DY ?_;refine JL (E7 (cs:=[.int .i64 (5:Nat),iN e5]) rfl rfl rfl Ck) ?_;refine AV (DP (l:=[.int .i64 (5:Nat),iN e5]) rfl rfl) rfl ?_;rintro _ _ ⟨b19,rfl,rfl⟩;refine JL IW ?_;refine J3 ?_;exact fun a w h1 h2 h3=>hq _ _ ⟨b19,rfl⟩ a w h1 h2 (by rw [HP.eZ]at h3;simp only [HP.BA]at h3;exact h3)
section
variable{n:Nat}{E:A6}{Post:Value→HP→Prop}
theorem Tn{b5 b2 b3:Nat}{e5:Nat}{lv ev:Value}{R:HP}(h2:lk E 2=some (ptr b2 0))(h3:lk E 3=some (ptr b3 0))(hp:∀q,Post (.tuple #[.slice none 0 0,Gd q]) (FJ q 5 (iN e5)*R)):
  BT B (Qk Tryz.prog B Tryz.f144 Post) (.panic HL) n E ⟨[nQ b5 b2 b3],none⟩ (HP.AA b5 0 [iN e5]*(HP.AA b2 0 [lv]*(HP.AA b3 0 [ev]*R))):=
 vU (rs:=[.cell 2 92,.cell 3 106]) (ow b5 b2 b3 e5 lv ev R) rfl rfl (fun H' ⟨q,e⟩=>⟨[.slice none 0 0,Gd q],FJ q 5 (iN e5)*R,e▸Iv (RP h2 trivial) (Iv (RP h3 trivial) KX),hp q,e▸inferInstance⟩)
theorem zY{b5 b2 b3:Nat}{lv ev:Value}{H R:HP}(h2:lk E 2=some (ptr b2 0))(h3:lk E 3=some (ptr b3 0))[hr2:Rd B H b2 0 lv True][hr3:Rd B H b3 0 ev True][hE:CE B H R](hp:Post (.tuple #[lv,ev]) R):
  BT B (Qk Tryz.prog B Tryz.f144 Post) .ret n E ⟨[nQ b5 b2 b3],none⟩ H:=
 ie (rs:=[.cell 2 92,.cell 3 106]) (ap b5 b2 b3 H) rfl rfl (fun H' e=>⟨[lv,ev],R,e▸Iv (RP h2 trivial) (Iv (RP h3 trivial) KX),hp,e▸hE⟩)
end
theorem Yc{xs:List UInt8}{k a a':Nat}{fin:Bool}{f:AZ}(h:B5 xs k fin a=some (f,a')):f.ranges.length≤xs.length∧f.data.size≤xs.length:=by
 unfold B5 at h;split at h
 ·simp only [d_.injEq,h_.injEq]at h;obtain⟨rfl,-⟩:=h;exact⟨b_ _,b_ _⟩
 split at h
 ·simp only [d_.injEq,h_.injEq]at h;obtain⟨rfl,-⟩:=h;exact⟨b_ _,b_ _⟩
 split at h
 ·split at h
  ·rename_i e;simp only [d_.injEq,h_.injEq]at h;obtain⟨rfl,-⟩:=h;exact⟨(V0 e).2.2.2,b_ _⟩
  ·cases h
 split at h
 ·split at h
  ·split at h
   ·split at h
    ·simp only [d_.injEq,h_.injEq]at h;obtain⟨rfl,-⟩:=h;exact⟨b_ _,b_ _⟩
    ·cases h
   ·cases h
  ·cases h
 split at h
 ·split at h
  ·split at h
   ·split at h
    ·rename_i e3;simp only [d_.injEq,h_.injEq]at h;obtain⟨rfl,-⟩:=h;exact⟨b_ _,by have:=(Vx e3).2.2;simpa using this⟩
    ·cases h
   ·cases h
  ·cases h
 split at h
 ·split at h
  ·simp only [d_.injEq,h_.injEq]at h;obtain⟨rfl,-⟩:=h;exact⟨b_ _,b_ _⟩
  ·cases h
 ·cases h
theorem nb{xs:List UInt8}{k a a':Nat}{fin:Bool}{f:AZ}(h:B5 xs k fin a=some (f,a')):f.kind=k:=by
 unfold B5 at h;split at h
 ·simp only [d_.injEq,h_.injEq]at h;obtain⟨rfl,-⟩:=h;rename_i hk;rw [hk];rfl
 split at h
 ·simp only [d_.injEq,h_.injEq]at h;obtain⟨rfl,-⟩:=h;rename_i hk;rw [hk];rfl
 split at h
 ·rename_i hk;split at h
  ·simp only [d_.injEq,h_.injEq]at h;obtain⟨rfl,-⟩:=h;rw [hk];rfl
  ·cases h
 split at h
 ·rename_i hk;split at h
  ·split at h
   ·split at h
    ·simp only [d_.injEq,h_.injEq]at h;obtain⟨rfl,-⟩:=h;rw [hk];rfl
    ·cases h
   ·cases h
  ·cases h
 split at h
 ·rename_i hk;split at h
  ·split at h
   ·split at h
    ·simp only [d_.injEq,h_.injEq]at h;obtain⟨rfl,-⟩:=h;rw [hk];rfl
    ·cases h
   ·cases h
  ·cases h
 split at h
 ·rename_i hk;split at h
  ·simp only [d_.injEq,h_.injEq]at h;obtain⟨rfl,-⟩:=h;rw [hk];rfl
  ·cases h
 ·cases h
theorem gk{xs:List UInt8}{a:Nat}(h:Db (xs.getD a 0)=0):EJ xs a=none:=by
 unfold EJ B5;rw [h];rfl
structure RZ where
 a:Nat
 av:Nat
 p:Option Addr
 b:Nat
 o:Nat
 c:Nat
 s:List Value
 rs:List RF
def LS(l:List AZ):Except Nat (List AZ)→Except Nat (List AZ)
 | .ok m=>.ok (l++m)
 | .error e=>.error e
theorem N! (x:Except Nat (List AZ)):LS [] x=x:=by cases x<;>rfl
theorem fK(l:List AZ)(f:AZ)(x:Except Nat (List AZ)):LS l (match x with| .ok m=>.ok (f::m)| .error e=>.error e)=LS (l++[f]) x:=by
 cases x with
 |ok m=>simp [LS]
 |error e=>rfl
theorem ua(p:Option Addr)(b o c:Nat)(xs:List UInt8)(R:HP)(hs:Sl p b o xs.length c)(hr:AW B R b o xs)(hx:xs.length<10000000000):
  Fn Tryz.prog B 144 [.slice p xs.length c] R (fun v H'=>match DZ xs with
   | .error e=>∃q,v=.tuple #[.slice none 0 0,Gd q]∧H'=FJ q 5 (iN e)*R
   | .ok fs=>∃sv,v=.tuple #[sv,.nilIface]∧Pr R fs sv H'):=by
 refine ne Tryz.func144 rfl rfl rfl ?_;refine J2 ?_;refine AV (GX (l:=[.slice none 0 0]) rfl) rfl ?_;rintro _ _ ⟨b2,rfl,rfl⟩;refine AV (GX (l:=[.nilIface]) rfl) rfl ?_;rintro _ _ ⟨b3,rfl,rfl⟩;refine J5 ?_;refine JL (E7 (cs:=[.slice p xs.length c,iN 0]) rfl rfl rfl Ck) ?_;refine AV (DP (l:=[.slice p xs.length c,iN 0]) rfl rfl) rfl ?_;rintro _ _ ⟨b13,rfl,rfl⟩;refine J5 ?_;refine AV (GX (l:=[iN 0]) rfl) rfl ?_;rintro _ _ ⟨b5,rfl,rfl⟩;refine Bv (EG (v:=iN 0) rfl rfl rfl trivial) ?_;refine E5 ?_;refine JL Gs ?_;refine um rfl ?_;refine J4 ?_;refine Aq (H':=Cd b13 p c xs 0*(HP.AA b5 0 [iN 0]*(HP.AA b2 0 [.slice none 0 0]*(HP.AA b3 0 [.nilIface]*(R))))) (by unfold Cd;ac_rfl) ?_;refine J3 ?_;refine Kr ?_;refine mC (fun h0=>?_) (fun h0=>?_)
 ·refine J2 ?_;refine D9 VO rfl ?_ ?_;rotate_left
  ·refine JR ?_;refine F0 ?_;refine Au (HP.AA b5 0 [iN 0]*(HP.AA b2 0 [.slice none 0 0]*(HP.AA b3 0 [.nilIface]*R))) ?_;exact Tn rfl rfl (fun q=>(by rw [DZ,if_pos V7];exact L2))
  exact Ku
 refine J4 ?_
 refine BL (α:=RZ) (fun z=>[(0,.slice p xs.length c),(2,ptr b2 0),(3,ptr b3 0),(4,ptr b13 0),(5,ptr b5 0)]) (fun z=>Cd b13 p c xs z.a*(HP.AA b5 0 [iN z.av]*(HP.AA b2 0 [.slice z.p z.rs.length z.c]*(HP.AA b3 0 [.nilIface]*(AD z.b z.o z.rs z.s*(A0 z.rs*R)))))) (fun z=>z.a≤xs.length∧z.rs.length≤z.a∧Sl z.p z.b z.o z.rs.length z.c∧z.rs.length*7+z.s.length=z.c*7∧(∀r∈z.rs,r.ok∧r.own)∧DZ xs=LS (z.rs.map (·.f)) (Ew xs z.a)) (fun z=>xs.length-z.a) ⟨0,0,none,0,0,0,[],[]⟩ ⟨b_ _,b_ _,DG,rfl,(fun r h=>by simp at h),bU⟩ GE (by show _=Cd b13 p c xs 0*(HP.AA b5 0 [iN 0]*(HP.AA b2 0 [.slice none 0 0]*(HP.AA b3 0 [.nilIface]*(AD 0 0 ([]:List RF) []*(A0 []*R)))));rw [FI,Qj,HP.BA,HP.BA]) ?_
 rintro z ⟨hza,hzl,hzs,hzc,hzo,hdec⟩;refine LP ?_;refine J5 ?_;refine mC (fun hlt=>?_) (fun hlt=>?_)
 ·refine Ke ?_;refine J6 ?_;refine D9 (HI rfl (TD 1 Cg b13 p b o c xs z.a _ hs inferInstance Cg hza)) rfl ?_ ?_;rotate_left
  ·rintro _ _ ⟨h1,rfl,rfl⟩;refine Kk ?_;refine F0 ?_;exact absurd h1 Cg
  rintro _ _ ⟨h1,rfl,rfl⟩;refine JL (FT (i:=0) (b:=b) (o:=o+z.a*1) (q:=o+z.a*1) rfl rfl (RV hs Cg) Cg Cg) ?_;refine JL (P5 (i:=z.a) (xs:=xs) rfl inferInstance Cg) ?_;refine J6 ?_;refine mE rfl (cg (xs.getD z.a 0) _) ?_;refine JR ?_;refine FL ?_;refine mC (fun hk0=>?_) (fun hk0=>?_)
  ·refine J2 ?_;refine D9 VO rfl ?_ ?_;rotate_left
   ·refine JR ?_;refine Kk ?_;refine F0 ?_;refine WD ?_;exact Tn rfl rfl (fun q=>(by have hd:=hdec;rw [Rm hlt (gk (Classical.not_not.1 hk0))]at hd;rw [hd];exact L2))
   exact Ku
  have hk1:Db (xs.getD z.a 0)≠0:=Classical.not_not.1 hk0;refine J6 ?_;refine JL (CV (i:=(xs.getD z.a 0).toNat) (j:=9) rfl rfl) ?_;refine JL (E7 (cs:=AI (r0 (Db (xs.getD z.a 0)) (decide ((xs.getD z.a 0).toNat=9)))) rfl rfl rfl Ck) ?_;refine AV O9 rfl ?_;rintro _ _ ⟨b9,rfl,rfl⟩;refine Bv (GS (cs:=AI (r0 (Db (xs.getD z.a 0)) (decide ((xs.getD z.a 0).toNat=9)))) rfl rfl Cn Ck) ?_;refine JE ?_;refine mE rfl (Le (Db (xs.getD z.a 0)) (dr _ hk1) _) ?_;rintro _ _ ⟨bc,f1,us1,f2,us2,f3,us3,C,hF0,rfl,rfl⟩;refine Ke ?_;refine J1 ?_;refine Aw (H':=Cd b13 p c xs (z.a+1)*(HP.AA b9 0 (AI (r0 (Db (xs.getD z.a 0)) (decide ((xs.getD z.a 0).toNat=9))))*(C*(DO bc f1 f2 f3 us1 us2 us3*(HP.AA b5 0 [iN z.a]*(HP.AA b2 0 [.slice z.p z.rs.length z.c]*(HP.AA b3 0 [.nilIface]*(AD z.b z.o z.rs z.s*(A0 z.rs*R))))))))) Cm ?_;have hcr:=O? (B:=B) hF0 b13 b9 (decide ((xs.getD z.a 0).toNat=9)) p b o c xs (z.a+1) (DO bc f1 f2 f3 us1 us2 us3*(HP.AA b5 0 [iN z.a]*(HP.AA b2 0 [.slice z.p z.rs.length z.c]*(HP.AA b3 0 [.nilIface]*(AD z.b z.o z.rs z.s*(A0 z.rs*R)))))) hs inferInstance Cg Cg;have hc2:=hcr.1;refine D9 (uh rfl rfl hcr.2) rfl ?_ ?_
  rotate_left
  ·rintro _ _ ⟨hrk,rfl,rfl⟩;refine Kk ?_;refine F0 ?_;have hnine:decide ((xs.getD z.a 0).toNat=9)=decide (xs.getD z.a 0=9):=decide_eq_decide.2 ⟨fun h=>j_.1 h,fun h=>by rw [h];rfl⟩;rw [hnine]at hrk;refine WD ?_;exact Tn rfl rfl (fun q=>(by have hd:=hdec;rw [Rm hlt (by unfold EJ;rw [hrk])]at hd;rw [hd];exact L2))
  rintro _ _ ⟨r,a55,hrk,hrok,hrown,rfl⟩;have hkind:=nb hrk;have hrsz:=Yc hrk
  have hmod:FU r:=⟨hrok,Cg,Cg⟩
  have hnine:decide ((xs.getD z.a 0).toNat=9)=decide (xs.getD z.a 0=9):=decide_eq_decide.2 ⟨fun h=>j_.1 h,fun h=>by rw [h];rfl⟩;rw [hnine]at hrk;refine J6 ?_;refine Aw (H':=HP.AA b9 0 (AI r)*(C*(DO bc f1 f2 f3 us1 us2 us3*(Dn r*(Cd b13 p c xs a55*(HP.AA b5 0 [iN z.a]*(HP.AA b2 0 [.slice z.p z.rs.length z.c]*(HP.AA b3 0 [.nilIface]*(AD z.b z.o z.rs z.s*(A0 z.rs*R)))))))))) Cm ?_;have hF1:Fc r.f.kind f1 us1 f2 us2 f3 us3 C:=hkind▸hF0
  have hro:AW B (Dn r*(Cd b13 p c xs a55*(HP.AA b5 0 [iN z.a]*(HP.AA b2 0 [.slice z.p z.rs.length z.c]*(HP.AA b3 0 [.nilIface]*(AD z.b z.o z.rs z.s*(A0 z.rs*R))))))) r.b r.o r.f.ranges:=(inferInstance:AW B (AD r.b r.o r.f.ranges r.s*(Cd b13 p c xs a55*(HP.AA b5 0 [iN z.a]*(HP.AA b2 0 [.slice z.p z.rs.length z.c]*(HP.AA b3 0 [.nilIface]*(AD z.b z.o z.rs z.s*(A0 z.rs*R))))))) r.b r.o r.f.ranges)
  refine mE rfl (lT r b9 bc f1 f2 f3 us1 us2 us3 C _ hF1 hF1.Wu rfl hmod hro) ?_;refine G6 ?_;refine mC (fun hok0=>?_) (fun hok0=>?_)
  ·refine J2 ?_;refine D9 VO rfl ?_ ?_;rotate_left
   ·refine JR ?_;refine Kk ?_;refine F0 ?_;refine WD ?_;exact Tn rfl rfl (fun q=>(by have hd:=hdec;rw [Rm hlt (by unfold EJ;rw [hrk];exact if_neg hok0)]at hd;rw [hd];exact L2))
   exact Ku
  have hokf:Bh r.f:=Classical.not_not.1 hok0
  have hF:EJ xs z.a=some (r.f,a55):=by unfold EJ;rw [hrk];exact if_pos hokf
  have hf3:=Uc hF hlt;refine J3 ?_;refine DY ?_;refine J1 ?_;refine AV Wx rfl ?_;rintro _ _ ⟨b63,rfl,rfl⟩;refine Aw (H':=AD z.b z.o z.rs z.s*(HP.AA b63 0 (AE [r])*(HP.AA b9 0 (AI r)*(C*(DO bc f1 f2 f3 us1 us2 us3*(Dn r*(Cd b13 p c xs a55*(HP.AA b5 0 [iN z.a]*(HP.AA b2 0 [.slice z.p z.rs.length z.c]*(HP.AA b3 0 [.nilIface]*(A0 z.rs*R))))))))))) (by show HP.AA b63 0 (AE [r])*_=_;ac_rfl) ?_;refine AV (Bf (ys:=[r]) (bb:=b63) (oo:=0) (cc:=1) rfl hzs hzc rfl Bc inferInstance rfl Cs Cg) rfl ?_;rintro _ _ ⟨p64,b64,o64,c64,s64,rfl,hs64,hc64,rfl⟩;refine J1 ?_;refine Aw (H':=Cd b13 p c xs a55*(HP.AA b5 0 [iN z.a]*(HP.AA b2 0 [.slice p64 (z.rs++[r]).length c64]*(HP.AA b3 0 [.nilIface]*(AD b64 o64 (z.rs++[r]) s64*(A0 (z.rs++[r])*R)))))*(HP.AA b63 0 (AE [r])*(HP.AA b9 0 (AI r)*(C*DO bc f1 f2 f3 us1 us2 us3)))) jC ?_;refine J2 ?_;refine Au (Cd b13 p c xs a55*(HP.AA b5 0 [iN z.a]*(HP.AA b2 0 [.slice p64 (z.rs++[r]).length c64]*(HP.AA b3 0 [.nilIface]*(AD b64 o64 (z.rs++[r]) s64*(A0 (z.rs++[r])*R)))))) ?_
  exact At (⟨a55,z.a,p64,b64,o64,c64,s64,z.rs++[r]⟩:RZ) ⟨hf3.2.1,by show(z.rs++[r]).length≤a55;rw [l_,s_];omega,hs64,hc64,(by
   intro r' hr'
   rcases List.mem_append.1 hr' with h|h
   ·exact hzo r' h
   ·rw [List.mem_singleton.1 h];exact⟨hrok,hrown⟩),by rw [hdec,XV hlt hF];show _=LS ((z.rs++[r]).map (·.f)) _;rw [List.map_append];exact fK _ _ _⟩ (by show xs.length-a55<xs.length-z.a;omega) GE rfl
 refine IA ?_;refine J5 ?_
 exact zY (R:=AD z.b z.o z.rs z.s*(A0 z.rs*R)) rfl rfl (by
  have hd:=hdec
  rw [Uw hlt]at hd
  rw [hd]
  show ∃sv,_∧Pr R (z.rs.map (·.f)++[]) sv _
  rw [r_]
  exact⟨_,rfl,z.p,z.b,z.o,z.c,z.s,z.rs,by rw [List.length_map],sH,eQ,rfl,hzo,rfl⟩)
end
end Go.Proofs.YtgfdlpcdjklcoaaGreatDoor
