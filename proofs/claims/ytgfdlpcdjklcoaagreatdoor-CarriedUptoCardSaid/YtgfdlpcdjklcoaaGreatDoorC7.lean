/- A part of this proof: steps of the program, plain facts; no condition. -/
import Derived.Test.YtgfdlpcdjklcoaaGreatDoorC6
namespace Go.Proofs.YtgfdlpcdjklcoaaGreatDoor
open Go Go.RowKit
open _root_.List renaming getD_eq_getElem?_getD→A_,getElem?_eq_getElem→A!,length_take→B_,set_eq_take_append_cons_drop→B!,filter_cons_of_neg→B?,filter_cons_of_pos→C_,filter_append→C!,append_assoc→D_,take_length→D?,filter_nil→E_,length_append→E!,mem_map→E?,foldl_append→F_,take_succ_eq_append_getElem→F!,append_nil→F?,getElem_of_mem→G_,drop_drop→H_,getElem?_map→H!,mem_filter→I!,map_append→I?,length_map→J_,mem_of_mem_take→J?,getElem?_drop→K_,map_set→K!,length_drop→K?,foldl_cons→L?,foldl_nil→M_,take_zero→M!,drop→N!
open _root_.Int renaming toNat_natCast→A?
open _root_.Nat renaming min_eq_left→C?,mod_eq_of_lt→L_,zero_le→L!,add_zero→M?,lt_or_ge→N_
open _root_.Option renaming getD_some→D!
open _root_.Bool renaming not_false→G!,and_false→G?,not_true→H?,and_true→I_
open _root_.Eq renaming mp→J!
set_option linter.unusedVariables false
set_option maxRecDepth 20000
set_option linter.unusedSimpArgs false
section
def AO{α:Type}(f:α→HP)(l:List α):HP:=l.foldr (fun a H=>f a*H) HP.BC
theorem En{α:Type}(f:α→HP):AO f []=HP.BC:=rfl
theorem FM{α:Type}(f:α→HP)(a:α)(l:List α):AO f (a::l)=f a*AO f l:=rfl
theorem JE{α:Type}(f:α→HP)(l m:List α):AO f (l++m)=AO f l*AO f m:=by
 induction l with
 |nil=>rw [List.nil_append,En,HP.BH]
 |cons a l ih=>rw [List.cons_append,FM,FM,ih,HP.assoc]
def IT{α:Type}(f:α→HP)(l:List α)(k:Nat):HP:=AO f (l.take k)*AO f (l.drop (k+1))
theorem LQ{α:Type}(f:α→HP)(l:List α)(k:Nat)(y:α)(hk:k<l.length):AO f (l.set k y)=f y*IT f l k:=by
 rw [B!,if_pos hk,JE,FM,IT,HP.CF]
theorem Mt{α:Type}(l:List α)(k:Nat)(d:α)(hk:k<l.length):l.set k (l.getD k d)=l:=by
 rw [A_,A! hk,D!,List.set_getElem_self]
theorem OE{α:Type}(f:α→HP)(l:List α)(k:Nat)(d:α)(hk:k<l.length):AO f l=f (l.getD k d)*IT f l k:=by
 conv=>lhs;rw [←Mt l k d hk]
 exact LQ f l k _ hk
def Ib{α:Type}[AC α](b o:Nat)(xs:List α)(s:List Value)(k:Nat):HP:=HP.AA b o (AD (xs.take k))*HP.AA b (o+(k+1)*AC.sz α) (AD (xs.drop (k+1))++s)
theorem Lw{α:Type}[AC α](b o:Nat)(xs:List α)(s:List Value)(k:Nat)(y:α)(hk:k<xs.length):AB b o (xs.set k y) s=HP.AA b (o+k*AC.sz α) (AC.Al y)*Ib b o xs s k:=by
 unfold AB Ib;rw [B!,if_pos hk,Ef,D_,HP.E3]
 have e1:(AD (xs.take k)).length=k*AC.sz α:=by rw [Bl,B_,C? Ca]
 have e2:AD (y::xs.drop (k+1))++s=AC.Al y++(AD (xs.drop (k+1))++s):=by simp [AD]
 rw [e2,HP.E3,e1,AC.len,HP.CF,Nat.add_assoc o,←Nat.succ_mul]
theorem M1{α:Type}[AC α](b o:Nat)(xs:List α)(s:List Value)(k:Nat)(d:α)(hk:k<xs.length):AB b o xs s=HP.AA b (o+k*AC.sz α) (AC.Al (xs.getD k d))*Ib b o xs s k:=by
 conv=>lhs;rw [←Mt xs k d hk]
 exact Lw b o xs s k _ hk
def Dh(n:Nat):Value:=if n=0 then .nilIface else D9 n
theorem T8{n:Nat}(h:n≠0):Dh n=D9 n:=by unfold Dh;rw [if_neg h]
section
variable{B:World}{n:Nat}{E:Ay}{H:HP}{d:Option Tmp}{T' ty:TypeId}{pos:String}{af:Array Edge}{g:Option (Nat×Bool)}{x y:Operand}
theorem xF{t k:Nat}(hx:ev E (.tmp t)=some (Dh k)):Aa Tryz.prog B n ⟨d,.binOp .neq 106 (.tmp t) (.const .nilIface) T',ty,pos,af,g⟩ E H (.bool (decide (k≠0))):=by
 by_cases h:k=0
 ·subst h;exact Jg (u:=.nilIface) (v:=.nilIface) (r:=.bool false) hx rfl (fun w=>by kernel_rfl) (fun w=>by kernel_rfl)
 ·rw [T8 h]at hx;rw [show decide (k≠0)=true by simpa using h];exact Jg (u:=D9 k) (v:=.nilIface) (r:=.bool true) hx rfl (fun w=>by kernel_rfl) (fun w=>by kernel_rfl)
end
structure Az where
 p:Option Addr
 b:Nat
 o:Nat
 c:Nat
 s:List Value
def Az.ok{α:Type}[AC α](a:Az)(xs:List α):Prop:=Sl a.p a.b a.o xs.length a.c∧xs.length*AC.sz α+a.s.length=a.c*AC.sz α
abbrev Az.v(a:Az)(k:Nat):Value:=.slice a.p k a.c
abbrev Az.h{α:Type}[AC α](a:Az)(xs:List α):HP:=AB a.b a.o xs a.s
structure BU where
 w:AX
 a:Az
 sq:Nat
 sa:Bu
 cq:Nat
 ca:Bu
@[reducible] def Bd(m:BU):List Value:=[.slice m.a.p m.w.b.length m.a.c,ptr m.sq 0,ptr m.cq 0,uN m.w.high,.bool m.w.finished,.bool m.w.ending,.bool m.w.ended,.bool m.w.given,uN m.w.code,.bool m.w.C4]
@[reducible] instance:AC BU:=⟨10,Bd,⟨Aq,⟨none,0,0,0,[]⟩,0,CZ,0,CZ⟩,fun _=>rfl,fun _ v h=>by
 simp at h;rcases h with rfl|rfl|rfl|rfl|rfl|rfl|rfl|rfl|rfl|rfl<;>rfl⟩
def Bi(m:BU):HP:=AB m.a.b m.a.o m.w.b m.a.s*(AS m.sq m.sa m.w.Ae*AS m.cq m.ca m.w.AE)
def BU.ok(m:BU):Prop:=m.a.ok m.w.b∧m.sa.ok m.w.Ae∧m.ca.ok m.w.AE
def A1(cb:Nat)(ws:List BU):HP:=AB cb (0+43) ws []*AO Bi ws
def B6(cb:Nat)(ws:List BU)(k:Nat):HP:=Ib cb (0+43) ws [] k*IT Bi ws k
theorem Im(cb:Nat)(ws:List BU)(k:Nat)(hk:k<ws.length):A1 cb ws=HP.AA cb (0+43+k*10) (Bd (ws.getD k AC.AH))*(Bi (ws.getD k AC.AH)*B6 cb ws k):=by
 unfold A1 B6;rw [M1 cb (0+43) ws [] k AC.AH hk,OE Bi ws k AC.AH hk];show HP.AA cb (0+43+k*10) (Bd (ws.getD k AC.AH))*_*_=_;ac_rfl
theorem KW(cb:Nat)(ws:List BU)(k:Nat)(y:BU)(hk:k<ws.length):A1 cb (ws.set k y)=HP.AA cb (0+43+k*10) (Bd y)*(Bi y*B6 cb ws k):=by
 unfold A1 B6;rw [Lw cb (0+43) ws [] k y hk,LQ Bi ws k y hk];show HP.AA cb (0+43+k*10) (Bd y)*_*_=_;ac_rfl
structure DV where
 r:Bb
 a:Az
 cq:Nat
 ca:Bu
@[reducible] def DM(m:DV):List Value:=[.slice m.a.p m.r.b.length m.a.c,ptr m.cq 0,uN m.r.high,uN m.r.end_,.bool m.r.ended,.bool m.r.given,uN m.r.code,uN m.r.read,iN m.r.state]
@[reducible] instance:AC DV:=⟨9,DM,⟨E6,⟨none,0,0,0,[]⟩,0,CZ⟩,fun _=>rfl,fun _ v h=>by
 simp at h;rcases h with rfl|rfl|rfl|rfl|rfl|rfl|rfl|rfl|rfl<;>rfl⟩
def B'(m:DV):HP:=AB m.a.b m.a.o m.r.b m.a.s*AS m.cq m.ca m.r.AE
def DV.ok(m:DV):Prop:=m.a.ok m.r.b∧m.ca.ok m.r.AE
def BS(cb:Nat)(rs:List DV):HP:=AB cb (0+83) rs []*AO B' rs
def EC(cb:Nat)(rs:List DV)(k:Nat):HP:=Ib cb (0+83) rs [] k*IT B' rs k
theorem eB(cb:Nat)(rs:List DV)(k:Nat)(hk:k<rs.length):BS cb rs=HP.AA cb (0+83+k*9) (DM (rs.getD k AC.AH))*(B' (rs.getD k AC.AH)*EC cb rs k):=by
 unfold BS EC;rw [M1 cb (0+83) rs [] k AC.AH hk,OE B' rs k AC.AH hk];show HP.AA cb (0+83+k*9) (DM (rs.getD k AC.AH))*_*_=_;ac_rfl
theorem jW(cb:Nat)(rs:List DV)(k:Nat)(y:DV)(hk:k<rs.length):BS cb (rs.set k y)=HP.AA cb (0+83+k*9) (DM y)*(B' y*EC cb rs k):=by
 unfold BS EC;rw [Lw cb (0+83) rs [] k y hk,LQ B' rs k y hk];show HP.AA cb (0+83+k*9) (DM y)*_*_=_;ac_rfl
structure A5 where
 number:Nat
 at_:Nat
 fs:List RF
 a:Az
@[reducible] def Bo(m:A5):List Value:=[uN m.number,uN m.at_,.slice m.a.p m.fs.length m.a.c]
@[reducible] instance:AC A5:=⟨3,Bo,⟨0,0,[],⟨none,0,0,0,[]⟩⟩,fun _=>rfl,fun _ v h=>by
 simp at h;rcases h with rfl|rfl|rfl<;>rfl⟩
def A5.Am(m:A5):Da:=⟨m.number,m.at_,m.fs.map (·.f)⟩
def Au(m:A5):HP:=AB m.a.b m.a.o m.fs m.a.s
def A5.ok(m:A5):Prop:=m.a.ok m.fs
structure CC where
 AI:Nat
 AF:Nat
 ks:List UInt8
 first:Bool
 now:Nat
 closed:Nat
 code:Nat
 said:Bool
 next:Nat
 gq:Nat
 answer:Bool
 fv:Value
 lv:Value
 BV:Nat
 waits:Nat
def AP(cb:Nat)(x:CC):HP:=
 HP.AA cb (0+0) [iN x.AI,iN x.AF]*(HP.AA cb (0+2) (AD x.ks++[u8 (Ag x.first)])*(HP.AA cb (0+19) (AD x.ks++[u8 (Ag (!x.first))])*(HP.AA cb (0+36) [uN x.now]*
 (HP.AA cb (0+37) [iN x.closed]*(HP.AA cb (0+38) [uN x.code]*(HP.AA cb (0+39) [.bool x.said]*(HP.AA cb (0+40) [uN x.next]*(HP.AA cb (0+41) [ptr x.gq 0]*(HP.AA cb (0+42) [.bool x.answer]*
 (HP.AA cb (0+119) [x.fv]*(HP.AA cb (0+120) [x.lv]*(HP.AA cb (0+121) [uN x.BV]*HP.AA cb (0+122) [uN x.waits]))))))))))))
section
variable(cb:Nat)(x:CC)
instance:Cell (AP cb x) cb (0+0+0) (iN x.AI) True:=by unfold AP;infer_instance
instance:Cell (AP cb x) cb (0+0+1) (iN x.AF) True:=by unfold AP;infer_instance
instance:Cell (AP cb x) cb (0+36) (uN x.now) True:=by unfold AP;infer_instance
instance:Cell (AP cb x) cb (0+37) (iN x.closed) True:=by unfold AP;infer_instance
instance:Cell (AP cb x) cb (0+38) (uN x.code) True:=by unfold AP;infer_instance
instance:Cell (AP cb x) cb (0+39) (.bool x.said) True:=by unfold AP;infer_instance
instance:Cell (AP cb x) cb (0+40) (uN x.next) True:=by unfold AP;infer_instance
instance:Cell (AP cb x) cb (0+41) (ptr x.gq 0) True:=by unfold AP;infer_instance
instance:Cell (AP cb x) cb (0+42) (.bool x.answer) True:=by unfold AP;infer_instance
instance:Cell (AP cb x) cb (0+119) x.fv True:=by unfold AP;infer_instance
instance:Cell (AP cb x) cb (0+120) x.lv True:=by unfold AP;infer_instance
instance:Cell (AP cb x) cb (0+121) (uN x.BV) True:=by unfold AP;infer_instance
instance:Cell (AP cb x) cb (0+122) (uN x.waits) True:=by unfold AP;infer_instance
instance(v:Nat):CH (AP cb x) cb (0+36) (uN v) (AP cb {x with now:=v}) True:=by unfold AP;infer_instance
instance(v:Nat):CH (AP cb x) cb (0+37) (iN v) (AP cb {x with closed:=v}) True:=by unfold AP;infer_instance
instance(v:Nat):CH (AP cb x) cb (0+38) (uN v) (AP cb {x with code:=v}) True:=by unfold AP;infer_instance
instance(v:Bool):CH (AP cb x) cb (0+39) (.bool v) (AP cb {x with said:=v}) True:=by unfold AP;infer_instance
instance(v:Nat):CH (AP cb x) cb (0+40) (uN v) (AP cb {x with next:=v}) True:=by unfold AP;infer_instance
instance(v:Bool):CH (AP cb x) cb (0+42) (.bool v) (AP cb {x with answer:=v}) True:=by unfold AP;infer_instance
instance(v:Value):CH (AP cb x) cb (0+119) v (AP cb {x with fv:=v}) True:=by unfold AP;infer_instance
instance(v:Value):CH (AP cb x) cb (0+120) v (AP cb {x with lv:=v}) True:=by unfold AP;infer_instance
instance(v:Nat):CH (AP cb x) cb (0+121) (uN v) (AP cb {x with BV:=v}) True:=by unfold AP;infer_instance
instance(v:Nat):CH (AP cb x) cb (0+122) (uN v) (AP cb {x with waits:=v}) True:=by unfold AP;infer_instance
end
structure Ac where
 x:CC
 AR:BE
 ga:Bu
 ws:List BU
 rs:List DV
 fl:List A5
 lo:List A5
 fa:Az
 la:Az
def Ac.s(m:Ac):AG:=
 ⟨m.x.AI,m.x.AF,m.x.ks,m.x.first,m.x.now,m.x.closed,m.x.code,m.x.said,m.x.next,m.AR,m.x.answer,m.ws.map (·.w),m.rs.map (·.r),m.fl.map (·.Am),m.lo.map (·.Am),m.x.BV,m.x.waits⟩
structure Ac.ok(m:Ac):Prop where
 g:m.ga.ok m.AR
 ws:∀w∈m.ws,w.ok
 rs:∀r∈m.rs,r.ok
 fl:∀p∈m.fl,p.ok
 lo:∀p∈m.lo,p.ok
 fa:m.fa.ok m.fl
 la:m.la.ok m.lo
 fv:m.x.fv=m.fa.v m.fl.length
 lv:m.x.lv=m.la.v m.lo.length
def C9(m:Ac):HP:=m.fa.h m.fl*(m.la.h m.lo*(AO Au m.fl*AO Au m.lo))
def AY(cb:Nat)(m:Ac):HP:=AP cb m.x*(AS m.x.gq m.ga m.AR*(A1 cb m.ws*(BS cb m.rs*C9 m)))
theorem Ac.LN(m:Ac)(k:Nat)(hk:k<m.ws.length):m.s.w k=(m.ws.getD k AC.AH).w:=by
 unfold AG.w Ac.s;simp only [A_,H!,A! hk];rfl
theorem Ac.O'(m:Ac)(k:Nat)(hk:k<m.rs.length):m.s.r k=(m.rs.getD k AC.AH).r:=by
 unfold AG.r Ac.s;simp only [A_,H!,A! hk];rfl
theorem Il{α:Type}{l:List α}{k:Nat}{d:α}(hk:k<l.length):l.getD k d∈l:=by
 rw [A_,A! hk];exact List.getElem_mem hk
theorem KC{α:Type}{l:List α}{k:Nat}{y a:α}{P:α→Prop}(h:∀a∈l,P a)(hy:P y)(ha:a∈l.set k y):P a:=by
 rcases List.mem_or_eq_of_mem_set ha with h1|rfl
 ·exact h a h1
 ·exact hy
end
section
variable{B:World}
def Ey(closed:Nat)(k:Int):Nat:=if closed≠0 then 9 else if k<0∨4≤k then 2 else 0
theorem Ln{closed:Nat}{k:Int}(h:Ey closed k=0):closed=0∧∃j:Nat,k=j∧j<4:=by
 unfold Ey at h;split at h
 ·cases h
 split at h
 ·cases h
 ·exact⟨Ca,k.toNat,Ca,Ca⟩
theorem Gr(m:Ac)(k:Int):m.s.stream k=Ey m.x.closed k:=rfl
theorem jS(cb closed:Nat)(k:Int)(H:HP)[hc:Rd B H cb (0+37) (iN closed) True]:
  Fn Tryz.prog B 132 [ptr cb 0,.int .i64 k] H (fun v H'=>v=Dh (Ey closed k)∧H'=H):=by
 refine mI Tryz.func132 ?_;refine Eu ?_;refine JL Ou ?_;refine J3 ?_;refine mC (fun h5=>?_) (fun h5=>?_)
 ·refine J2 ?_;refine JL NG ?_;refine J6 ?_;exact mr [4] rfl rfl ⟨by rw [Ey,if_pos h5];rfl,rfl⟩
 refine J3 ?_;refine JL (K3 (i:=k) (j:=0) rfl rfl) ?_;refine J1 ?_;refine D8 15 rfl (fun hg1=>?_) (fun hg1=>?_)
 ·refine LL ?_;refine JL Fd ?_;refine J3 ?_;refine GJ ?_;refine J2 ?_;refine JL XR ?_;refine J6 ?_;exact mr [4] rfl rfl ⟨aT,rfl⟩
 refine Mq ?_;refine JL (ON (i:=k) (j:=4) rfl rfl) ?_;refine JL Ec ?_;refine J3 ?_;refine mC (fun h12=>?_) (fun h12=>?_)
 ·refine J2 ?_;refine JL XR ?_;refine J6 ?_;exact mr [4] rfl rfl ⟨aT,rfl⟩
 refine J9 ?_;exact mr [4] rfl rfl ⟨by rw [Ey,if_neg h5,if_neg Ca];rfl,rfl⟩
theorem bF(b o AF:Nat)(wm:BU)(R:HP)(hok:wm.ok)(hw:CW AF wm.w):
  Fn Tryz.prog B 131 [ptr b o] (HP.AA b o (Bd wm)*(Bi wm*R)) (fun v H'=>v=iN wm.w.A4∧H'=HP.AA b o (Bd wm)*(Bi wm*R)):=by
 refine mI Tryz.func131 ?_;refine Gv ?_;refine J3 ?_;refine Ao (H':=HP.AA b o (Bd wm)*(AB wm.a.b wm.a.o wm.w.b wm.a.s*(AS wm.sq wm.sa wm.w.Ae*(AS wm.cq wm.ca wm.w.AE*R)))) MS ?_;have hl:=hw.len;have hpl:=hw.Nw;refine US ?_;refine An 10 Cb rfl rfl (BJ rfl (OX wm.cq 0 wm.w.b.length wm.w.b.length wm.ca wm.w.AE _ hok.2.2 hw.co Ca (by have h7:=hw.co.len;rw [hw.cm]at h7;omega))) ?_;refine FB ?_;refine Jm 11 ?_;refine JT 12 rfl MP ?_;refine JT 13 rfl MP ?_;refine Ja 14 ?_;refine Ja 15 ?_;refine Kf ?_;refine JL (JX rfl (Qv (by show(AQ 0 wm.w.b.length wm.w.AE.l).1<_;have h8:(AQ 0 wm.w.b.length wm.w.AE.l).1≤wm.w.b.length:=hpl;omega))) ?_;refine J4 ?_;exact mR [2] (HP.AA b o (Bd wm)*(Bi wm*R)) (hE:=by unfold Bi;infer_instance) rfl rfl Ba
def Lu(cb e:Nat)(k:Int):Value:=if e=0 then ptr cb (0+43+k.toNat*10)else .pointer none
theorem pY(m:Ac)(k:Int)(j:Nat)(hl:m.ws.length=4)(hs:Ey m.x.closed k=0)(hk:k=j)(hj:j<4):
  m.s.D3 k=if(m.ws.getD j AC.AH).w.finished=true∨(m.ws.getD j AC.AH).w.given=true then 3 else 0:=by
 subst hk;unfold AG.D3;rw [Gr,if_neg Ca,A?,m.LN j Ca]
theorem Xm(m:Ac)(k:Int)(hs:Ey m.x.closed k≠0):m.s.D3 k=Ey m.x.closed k:=by
 unfold AG.D3;rw [Gr,if_pos hs]
theorem eW(cb:Nat)(m:Ac)(k:Int)(R:HP)(hl:m.ws.length=4):
  Fn Tryz.prog B 130 [ptr cb 0,.int .i64 k] (AP cb m.x*(A1 cb m.ws*R)) (fun v H'=>v=.tuple #[Lu cb (m.s.D3 k) k,Dh (m.s.D3 k)]∧H'=AP cb m.x*(A1 cb m.ws*R)):=by
 refine mI Tryz.func130 ?_;refine Bq ?_;refine OW ?_;refine mC (fun h12=>?_) (fun h12=>?_)
 ·refine J9 ?_;exact mr [4,5] rfl rfl ⟨by rw [Xm m k h12];unfold Lu;rw [if_neg h12];rfl,rfl⟩
 obtain⟨hcl,j,rfl,hj⟩:=Ln (by simpa using h12:Ey m.x.closed k=0)
 have hjl:j<m.ws.length:=by omega
 refine J3 ?_;refine Ao (H':=AP cb m.x*(HP.AA cb (0+43+j*10) (Bd (m.ws.getD j AC.AH))*(Bi (m.ws.getD j AC.AH)*(B6 cb m.ws j*R)))) (by rw [Im cb m.ws j hjl];ac_rfl) ?_;have hoe:=pY m (j:Int) j hl (by simpa using h12) rfl hj;refine J5 ?_;refine JL MU ?_;refine Bq ?_;refine DA 23 rfl (fun hg1=>?_) (fun hg1=>?_)
 ·refine Ha ?_;refine Oy ?_;refine J2 ?_;refine JL Md ?_;refine J6 ?_;exact mR [4,5] (AP cb m.x*(A1 cb m.ws*R)) (hE:=by rw [Im cb m.ws j hjl];infer_instance) rfl rfl ⟨by rw [hoe,if_pos (.inl hg1)];rfl,rfl⟩
 refine Ho ?_;refine J1 ?_;refine K6 ?_;refine Iz ?_;refine mc (fun h28=>?_) (fun h28=>?_)
 ·refine J2 ?_;refine JL Md ?_;refine J6 ?_;exact mR [4,5] (AP cb m.x*(A1 cb m.ws*R)) (hE:=by rw [Im cb m.ws j hjl];infer_instance) rfl rfl ⟨by rw [hoe,if_pos (.inr h28)];rfl,rfl⟩
 refine B8 ?_;exact mR [4,5] (AP cb m.x*(A1 cb m.ws*R)) (hE:=by rw [Im cb m.ws j hjl];infer_instance) rfl rfl ⟨by rw [hoe,if_neg (by rw [hg1,h28];simp)];rfl,rfl⟩
theorem Ac.L7{t:Nat}{m:Ac}(h:AZ t m.s):m.ws.length=4:=by have:=h.ws.len;simpa [Ac.s]using this
theorem Ac.OB{t:Nat}{m:Ac}(h:AZ t m.s):m.rs.length=4:=by have:=h.rl;simpa [Ac.s]using this
theorem Ac.QT{t:Nat}{m:Ac}(h:AZ t m.s){k:Nat}(hk:k<4):CW m.x.AF (m.ws.getD k AC.AH).w:=by
 have:=h.ws.ok k hk
 have e:m.s.ws.getD k Aq=(m.ws.getD k AC.AH).w:=m.LN k (by rw [Ac.L7 h];exact hk);rw [e]at this;exact this
theorem Ac.RK{t:Nat}{m:Ac}(h:AZ t m.s){k:Nat}(hk:k<4):FG m.x.AF t (m.rs.getD k AC.AH).r:=by
 have:=h.rs k hk
 rw [m.O' k (by rw [Ac.OB h];exact hk)]at this;exact this
def Ac.Bp(m:Ac)(k:Nat)(w:BU):Ac:={m with ws:=m.ws.set k w}
theorem Ac.SE(m:Ac)(k:Nat)(w:BU):(m.Bp k w).s=m.s.Bp k w.w:=by
 unfold Ac.Bp Ac.s AG.Bp;simp only [K!]
theorem Ac.ok.Bp{m:Ac}(h:m.ok){k:Nat}{w:BU}(hw:w.ok):(m.Bp k w).ok:=
 ⟨h.g,fun a ha=>KC (P:=BU.ok) h.ws hw ha,h.rs,h.fl,h.lo,h.fa,h.la,h.fv,h.lv⟩
def Ac.BQ(m:Ac)(k:Nat)(r:DV):Ac:={m with rs:=m.rs.set k r}
theorem Ac.PS(m:Ac)(k:Nat)(r:DV):(m.BQ k r).s=m.s.BQ k r.r:=by
 unfold Ac.BQ Ac.s AG.BQ;simp only [K!]
theorem Ac.ok.BQ{m:Ac}(h:m.ok){k:Nat}{r:DV}(hr:r.ok):(m.BQ k r).ok:=
 ⟨h.g,h.ws,fun a ha=>KC (P:=DV.ok) h.rs hr ha,h.fl,h.lo,h.fa,h.la,h.fv,h.lv⟩
theorem cA{m:Ac}{k:Int}(h:m.s.D3 k=0):Ey m.x.closed k=0:=by
 by_cases hs:Ey m.x.closed k=0
 ·exact hs
 ·rw [Xm m k hs]at h;exact absurd h hs
def FK(m:Ac)(cb:Nat):HP:=AS m.x.gq m.ga m.AR*(BS cb m.rs*C9 m)
theorem HF(cb:Nat)(m:Ac)(R:HP):AY cb m*R=AP cb m.x*(A1 cb m.ws*(FK m cb*R)):=by
 unfold AY FK;ac_rfl
theorem Nb(cb:Nat)(m:Ac)(R:HP)(j:Nat)(hj:j<m.ws.length):AY cb m*R=AP cb m.x*(HP.AA cb (0+43+j*10) (Bd (m.ws.getD j AC.AH))*(Bi (m.ws.getD j AC.AH)*(B6 cb m.ws j*(FK m cb*R)))):=by
 rw [HF,Im cb m.ws j hj];ac_rfl
theorem Qo(cb:Nat)(m:Ac)(R:HP)(j:Nat)(hj:j<m.ws.length)(y:BU):AY cb (m.Bp j y)*R=AP cb m.x*(HP.AA cb (0+43+j*10) (Bd y)*(Bi y*(B6 cb m.ws j*(FK m cb*R)))):=by
 rw [HF];show AP cb m.x*(A1 cb (m.ws.set j y)*(FK (m.Bp j y) cb*R))=_;rw [KW cb m.ws j y hj];show AP cb m.x*(HP.AA cb (0+43+j*10) (Bd y)*(Bi y*B6 cb m.ws j)*(FK m cb*R))=_;ac_rfl
theorem jD(cb t:Nat)(m:Ac)(k:Int)(xs:List UInt8)(p:Option Addr)(b o c:Nat)(R:HP)(hm:m.ok)(hi:AZ t m.s)(hs:Sl p b o xs.length c)(hr:Ab B R b o xs):
  Fn Tryz.prog B 88 [ptr cb 0,.int .i64 k,.slice p xs.length c] (AY cb m*R)
   (fun v H'=>∃m':Ac,m'.ok∧m'.s=(m.s.write k xs).2∧v=.tuple #[iN (m.s.write k xs).1.1,Dh (m.s.write k xs).1.2]∧H'=AY cb m'*R):=by
 refine mI Tryz.func88 ?_;refine Ao NX ?_;refine Gv ?_;refine J7 ?_;refine YY ?_;refine mC (fun h18=>?_) (fun h18=>?_)
 ·refine J3 ?_;refine FN ?_;refine J5 ?_;refine mR [6,7] (AY cb m*R) (hE:=by rw [HF];infer_instance) rfl rfl ⟨m,hm,?_,?_,rfl⟩
  ·unfold AG.write;rw [if_pos h18]
  ·unfold AG.write;rw [if_pos h18];rfl
 have h18:m.s.D3 k=0:=by simpa using h18
 obtain⟨hcl,j,rfl,hj⟩:=Ln (cA h18)
 have hjl:j<m.ws.length:=by rw [Ac.L7 hi];exact hj
 have hwok:=Ac.QT hi hj;have hwm:=hm.ws _ KJ;have ewj:=m.LN j hjl
 have hp0:Lu cb (m.s.D3 (j:Int)) (j:Int)=ptr cb (0+43+j*10):=by unfold Lu;rw [if_pos h18,A?]
 generalize hwx:m.ws.getD j AC.AH=wm at hwok hwm ewj;have hbl:=hwok.len;have hpr:=hwok.Nw;have hrm:=hwok.room;have hw2:=hi.w2;have hw2':m.x.AF≤1024:=hw2;refine Pz (E':=[(8,ptr cb (0+43+j*10)),(0,ptr cb 0),(2,.slice p xs.length c)]) (.cons (by rw [←hp0];rfl) G8) ?_;refine Ao (H':=HP.AA cb (0+43+j*10) (Bd wm)*(Bi wm*(AP cb m.x*(B6 cb m.ws j*(FK m cb*R))))) S' ?_;refine J3 ?_;refine mA 24 24 ?_;refine Jm 0 ?_;refine Jn 1 ?_;refine Jf 2 ?_;refine Jf 3 ?_;refine Jd 4 ?_;refine Jm 5 ?_;refine LG ?_;refine JT 9 rfl FF ?_;refine Jm 10 ?_;refine Jm 14 ?_;refine Jn 15 ?_;refine Jf 16 ?_;refine Jd 17 ?_;refine JT 18 rfl FF ?_;refine JT 19 rfl (II (i:=4096) rfl rfl Ca) ?_;refine Jm 20 ?_;refine JT 21 rfl FF ?_;refine An 11 Cb rfl rfl (BJ rfl (bF cb (0+43+j*10) m.x.AF wm _ hwm hwok)) ?_;refine JR ?_;refine⟨.inr inferInstance,?_⟩;refine JT 12 rfl LU ?_;refine JT 13 rfl LU ?_;refine JT 22 rfl (sG rfl rfl rfl) ?_;refine Ja 23 ?_;refine DO ?_;have hnm:(min (min (m.x.AF-(wm.w.b.length-wm.w.A4)) (4096-wm.w.b.length)) xs.length)≤xs.length:=Nat.min_le_right _ _
 refine Ao (H':=AB wm.a.b wm.a.o wm.w.b wm.a.s*(HP.AA cb (0+43+j*10) (Bd wm)*(AP cb m.x*((AS wm.sq wm.sa wm.w.Ae*AS wm.cq wm.ca wm.w.AE)*(B6 cb m.ws j*(FK m cb*R)))))) MS ?_
 have htl:(xs.take (min (min (m.x.AF-(wm.w.b.length-wm.w.A4)) (4096-wm.w.b.length)) xs.length)).length=(min (min (m.x.AF-(wm.w.b.length-wm.w.A4)) (4096-wm.w.b.length)) xs.length):=by rw [B_];omega
 refine D5 (HP.AA cb (0+43+j*10) (Bd wm)*(AP cb m.x*((AS wm.sq wm.sa wm.w.Ae*AS wm.cq wm.ca wm.w.AE)*(B6 cb m.ws j*(FK m cb*R))))) 11 12 EI rfl Cb ?_;refine LY ?_;refine Jm 5 ?_;refine Jm 6 ?_;refine JT 7 rfl (Nr (k':=(xs.take (min (min (m.x.AF-(wm.w.b.length-wm.w.A4)) (4096-wm.w.b.length)) xs.length)).length) rfl rfl Ci htl) ?_;refine An 8 Cb rfl rfl (CS (ys:=xs.take (min (min (m.x.AF-(wm.w.b.length-wm.w.A4)) (4096-wm.w.b.length)) xs.length)) (bb:=b) (oo:=o) rfl hwm.1.1 hwm.1.2 rfl ⟨hs.1,Ci⟩ (let _:=hr;inferInstance) rfl Ca Ca) ?_;rintro _ _ ⟨p51,b51,o51,c51,s51,rfl,hs51,hc51,rfl⟩;refine BA ?_;refine Jn 9 ?_;refine Jf 10 ?_;refine MY ?_;refine DF ?_;refine J9 ?_
 have ewr:m.s.write (j:Int) xs=(((min (min (m.x.AF-(wm.w.b.length-wm.w.A4)) (4096-wm.w.b.length)) xs.length),0),m.s.Bp j {wm.w with b:=wm.w.b++xs.take (min (min (m.x.AF-(wm.w.b.length-wm.w.A4)) (4096-wm.w.b.length)) xs.length)}):=by
  unfold AG.write;rw [if_neg Ca,A?];unfold AG.GT;rw [ewj];rfl
 obtain⟨w2,hw2⟩:∃w2:BU,w2={wm with w:={wm.w with b:=wm.w.b++xs.take (min (min (m.x.AF-(wm.w.b.length-wm.w.A4)) (4096-wm.w.b.length)) xs.length)},a:=⟨p51,b51,o51,c51,s51⟩}:=Be
 have hok2:w2.ok:=by rw [hw2];exact⟨⟨hs51,hc51⟩,hwm.2⟩
 have hew:w2.w={wm.w with b:=wm.w.b++xs.take (min (min (m.x.AF-(wm.w.b.length-wm.w.A4)) (4096-wm.w.b.length)) xs.length)}:=by rw [hw2]
 refine mR [6,7] (AY cb (m.Bp j w2)*R) (hE:=?_) rfl rfl ⟨m.Bp j w2,hm.Bp hok2,?_,?_,rfl⟩
 ·rw [Qo cb m R j hjl,hw2];refine⟨fun ww hw=>?_⟩;unfold Bi;refine J! ?_ hw;congr 1;show AB b51 o51 _ s51*_=AP cb m.x*(HP.AA cb (0+43+j*10) [.slice p51 (wm.w.b++xs.take (min (min (m.x.AF-(wm.w.b.length-wm.w.A4)) (4096-wm.w.b.length)) xs.length)).length c51,ptr wm.sq 0,ptr wm.cq 0,uN wm.w.high,.bool wm.w.finished,.bool wm.w.ending,.bool wm.w.ended,.bool wm.w.given,uN wm.w.code,.bool wm.w.C4]*(AB b51 o51 (wm.w.b++xs.take (min (min (m.x.AF-(wm.w.b.length-wm.w.A4)) (4096-wm.w.b.length)) xs.length)) s51*(AS wm.sq wm.sa wm.w.Ae*AS wm.cq wm.ca wm.w.AE)*_));ac_rfl
 ·rw [Ac.SE,ewr,hew]
 ·rw [ewr];rfl
theorem xK(cb t:Nat)(m:Ac)(k:Int)(R:HP)(hm:m.ok)(hi:AZ t m.s):
  Fn Tryz.prog B 89 [ptr cb 0,.int .i64 k] (AY cb m*R)
   (fun v H'=>∃m':Ac,m'.ok∧m'.s=(m.s.finish k).2∧v=Dh (m.s.finish k).1∧H'=AY cb m'*R):=by
 refine mI Tryz.func89 ?_;refine Ao NX ?_;refine J9 ?_;refine YY ?_;refine mC (fun h18=>?_) (fun h18=>?_)
 ·refine J8 ?_;refine mR [4] (AY cb m*R) (hE:=by first|(rw [HF];infer_instance)|(rw [Nb cb m R j hjl,hwx];exact⟨fun ww hw=>by refine J! ?_ hw;congr 1;ac_rfl⟩)) rfl rfl ⟨m,hm,?_,?_,rfl⟩
  ·unfold AG.finish;rw [if_pos h18]
  ·unfold AG.finish;rw [if_pos h18];rfl
 have h18:m.s.D3 k=0:=by simpa using h18
 obtain⟨hcl,j,rfl,hj⟩:=Ln (cA h18)
 have hjl:j<m.ws.length:=by rw [Ac.L7 hi];exact hj
 have hwok:=Ac.QT hi hj;have hwm:=hm.ws _ KJ;have ewj:=m.LN j hjl
 have hp0:Lu cb (m.s.D3 (j:Int)) (j:Int)=ptr cb (0+43+j*10):=by unfold Lu;rw [if_pos h18,A?]
 generalize hwx:m.ws.getD j AC.AH=wm at hwok hwm ewj;refine Pz (E':=[(5,ptr cb (0+43+j*10)),(0,ptr cb 0)]) (.cons (by rw [←hp0];rfl) vV) ?_;refine Ao (H':=HP.AA cb (0+43+j*10) (Bd wm)*(Bi wm*(AP cb m.x*(B6 cb m.ws j*(FK m cb*R))))) S' ?_;refine bA ?_
 obtain⟨w2,hw2⟩:∃w2:BU,w2={wm with w:={wm.w with finished:=true}}:=Be
 have hok2:w2.ok:=by rw [hw2];exact hwm
 have hew:w2.w={wm.w with finished:=true}:=by rw [hw2]
 have ewr:m.s.finish (j:Int)=(0,m.s.Bp j {wm.w with finished:=true}):=by
  unfold AG.finish;rw [if_neg Ca,A?,ewj]
 refine mR [4] (AY cb (m.Bp j w2)*R) (hE:=?_) rfl rfl ⟨m.Bp j w2,hm.Bp hok2,by rw [Ac.SE,ewr,hew],Cq,rfl⟩;rw [Qo cb m R j hjl,hw2];refine⟨fun ww hw=>?_⟩;refine J! ?_ hw;congr 1;show _=AP cb m.x*(HP.AA cb (0+43+j*10) [.slice wm.a.p wm.w.b.length wm.a.c,ptr wm.sq 0,ptr wm.cq 0,uN wm.w.high,.bool true,.bool wm.w.ending,.bool wm.w.ended,.bool wm.w.given,uN wm.w.code,.bool wm.w.C4]*(Bi wm*_));ac_rfl
theorem qJ(cb t:Nat)(m:Ac)(k:Int)(code:Nat)(R:HP)(hm:m.ok)(hi:AZ t m.s):
  Fn Tryz.prog B 90 [ptr cb 0,.int .i64 k,uN code] (AY cb m*R)
   (fun v H'=>∃m':Ac,m'.ok∧m'.s=(m.s.giveUp k code).2∧v=Dh (m.s.giveUp k code).1∧H'=AY cb m'*R):=by
 refine mI Tryz.func90 ?_;refine Ao NX ?_;refine B8 ?_;refine OW ?_;refine mC (fun h13=>?_) (fun h13=>?_)
 ·refine J8 ?_;refine mR [6] (AY cb m*R) (hE:=by first|(rw [HF];infer_instance)|(rw [Nb cb m R j hjl,hwx];exact⟨fun ww hw=>by refine J! ?_ hw;congr 1;ac_rfl⟩)) rfl rfl ⟨m,hm,?_,?_,rfl⟩
  ·unfold AG.giveUp;rw [Gr,if_pos h13]
  ·unfold AG.giveUp;rw [Gr,if_pos h13];rfl
 obtain⟨hcl,j,rfl,hj⟩:=Ln (by simpa using h13:Ey m.x.closed k=0)
 have h13:Ey m.x.closed (j:Int)=0:=by simpa using h13
 have hjl:j<m.ws.length:=by rw [Ac.L7 hi];exact hj
 have hwok:=Ac.QT hi hj;have hwm:=hm.ws _ KJ;have ewj:=m.LN j hjl;generalize hwx:m.ws.getD j AC.AH=wm at hwok hwm ewj;refine W9 ?_;refine J8 ?_;refine JL MU ?_;refine Bq ?_;refine DA 24 rfl (fun hg1=>?_) (fun hg1=>?_)
 ·refine HW ?_;refine Oy ?_;refine J2 ?_;refine JL Md ?_;refine J5 ?_;refine mR [6] (AY cb m*R) (hE:=by first|(rw [HF];infer_instance)|(rw [Nb cb m R j hjl,hwx];exact⟨fun ww hw=>by refine J! ?_ hw;congr 1;ac_rfl⟩)) rfl rfl ⟨m,hm,?_,?_,rfl⟩
  ·unfold AG.giveUp;rw [Gr,if_neg Ca,A?,ewj,if_pos (.inl hg1)]
  ·unfold AG.giveUp;rw [Gr,if_neg Ca,A?,ewj,if_pos (.inl hg1)];rfl
 refine ML ?_;refine JL O2 ?_;refine Iz ?_;refine mC (fun h27=>?_) (fun h27=>?_)
 ·refine J2 ?_;refine JL Md ?_;refine J5 ?_;refine mR [6] (AY cb m*R) (hE:=by first|(rw [HF];infer_instance)|(rw [Nb cb m R j hjl,hwx];exact⟨fun ww hw=>by refine J! ?_ hw;congr 1;ac_rfl⟩)) rfl rfl ⟨m,hm,?_,?_,rfl⟩
  ·unfold AG.giveUp;rw [Gr,if_neg Ca,A?,ewj,if_pos (.inr h27)]
  ·unfold AG.giveUp;rw [Gr,if_neg Ca,A?,ewj,if_pos (.inr h27)];rfl
 refine UW ?_
 obtain⟨w2,hw2⟩:∃w2:BU,w2={wm with w:={wm.w with given:=true,code:=code}}:=Be
 have hok2:w2.ok:=by rw [hw2];exact hwm
 have hew:w2.w={wm.w with given:=true,code:=code}:=by rw [hw2]
 have ewr:m.s.giveUp (j:Int) code=(0,m.s.Bp j {wm.w with given:=true,code:=code}):=by
  unfold AG.giveUp;rw [Gr,if_neg Ca,A?,ewj,if_neg (by rw [hg1];simpa using h27)]
 refine mR [6] (AY cb (m.Bp j w2)*R) (hE:=?_) rfl rfl ⟨m.Bp j w2,hm.Bp hok2,by rw [Ac.SE,ewr,hew],Cq,rfl⟩;rw [Qo cb m R j hjl,hw2];refine⟨fun ww hw=>?_⟩;refine J! ?_ hw;congr 1;show _=AP cb m.x*(HP.AA cb (0+43+j*10) [.slice wm.a.p wm.w.b.length wm.a.c,ptr wm.sq 0,ptr wm.cq 0,uN wm.w.high,.bool wm.w.finished,.bool wm.w.ending,.bool wm.w.ended,.bool true,uN code,.bool wm.w.C4]*(Bi wm*_));ac_rfl
theorem iE(cb t:Nat)(m:Ac)(k:Int)(R:HP)(hm:m.ok)(hi:AZ t m.s):
  Fn Tryz.prog B 97 [ptr cb 0,.int .i64 k] (AY cb m*R)
   (fun v H'=>v=.tuple #[iN (m.s.AE k).1,Dh (m.s.AE k).2]∧H'=AY cb m*R):=by
 refine mI Tryz.func97 ?_;refine Ao NX ?_;refine Gv ?_;refine J8 ?_;refine OW ?_;refine mC (fun h13=>?_) (fun h13=>?_)
 ·refine J3 ?_;refine FN ?_;refine J5 ?_;exact mR [4,5] (AY cb m*R) (hE:=by rw [HF];infer_instance) rfl rfl ⟨by unfold AG.AE;rw [Gr,if_pos h13];rfl,rfl⟩
 obtain⟨hcl,j,rfl,hj⟩:=Ln (by simpa using h13:Ey m.x.closed k=0)
 have h13:Ey m.x.closed (j:Int)=0:=by simpa using h13
 have hjl:j<m.ws.length:=by rw [Ac.L7 hi];exact hj
 have hwok:=Ac.QT hi hj;have hwm:=hm.ws _ KJ;have ewj:=m.LN j hjl;generalize hwx:m.ws.getD j AC.AH=wm at hwok hwm ewj;refine W9 ?_;refine J8 ?_;refine JL MU ?_;refine mE rfl (bF cb (0+43+j*10) m.x.AF wm _ hwm hwok) ?_;refine J0 ?_;exact mR [4,5] (AY cb m*R) (hE:=by rw [Nb cb m R j hjl,hwx];exact⟨fun ww hw=>by refine J! ?_ hw;congr 1;ac_rfl⟩) rfl rfl ⟨by unfold AG.AE;rw [Gr,if_neg Ca,A?,ewj];rfl,rfl⟩
def Ac.A3(m:Ac)(x:CC):Ac:={m with x:=x}
theorem DL(cb:Nat)(m:Ac)(R:HP):AY cb m*R=AP cb m.x*(AS m.x.gq m.ga m.AR*(A1 cb m.ws*(BS cb m.rs*(C9 m*R)))):=by
 unfold AY;ac_rfl
theorem rB(cb:Nat)(m:Ac)(code:Nat)(R:HP)(hm:m.ok):
  Fn Tryz.prog B 96 [ptr cb 0,uN code] (AY cb m*R)
   (fun v H'=>∃m':Ac,m'.ok∧m'.s=(m.s.close code).2∧v=Dh (m.s.close code).1∧H'=AY cb m'*R):=by
 refine mI Tryz.func96 ?_;refine Ao Nf ?_;refine Eu ?_;refine JL Ou ?_;refine J3 ?_;refine mC (fun h5=>?_) (fun h5=>?_)
 ·have h5:m.s.closed≠0:=h5;refine J2 ?_;refine JL NG ?_;refine J6 ?_;exact mR [4] (AY cb m*R) (hE:=by rw [DL];infer_instance) rfl rfl ⟨m,hm,by unfold AG.close;rw [if_pos h5],by unfold AG.close;rw [if_pos h5];rfl,rfl⟩
 have h5:¬m.s.closed≠0:=h5;refine J3 ?_;refine JL O2 ?_;refine J3 ?_;refine mC (fun h12=>?_) (fun h12=>?_)
 ·refine J2 ?_;refine JL Md ?_;refine J6 ?_;exact mR [4] (AY cb m*R) (hE:=by rw [DL];infer_instance) rfl rfl ⟨m,hm,by unfold AG.close;rw [if_neg h5,if_pos h12],by unfold AG.close;rw [if_neg h5,if_pos h12];rfl,rfl⟩
 refine B8 ?_;refine Bj (EY (v:=.int .i64 (9:Nat)) rfl rfl rfl Cd) ?_;refine JR ?_;refine Bq ?_
 have ewr:m.s.close code=(0,{m.s with closed:=9,code:=code}):=by unfold AG.close;rw [if_neg h5,if_neg h12]
 exact mR [4] (AY cb (m.A3 {m.x with closed:=9,code:=code})*R) (hE:=by rw [DL];exact⟨fun ww hw=>hw⟩) rfl rfl ⟨m.A3 {m.x with closed:=9,code:=code},⟨hm.g,hm.ws,hm.rs,hm.fl,hm.lo,hm.fa,hm.la,hm.fv,hm.lv⟩,Cq,Cq,rfl⟩
end
section
variable{B:World}
theorem Fb{α:Type}{p:α→Prop}{A:α→HP}{R H G:HP}(z:α)(hp:p z)(e:H=G*(A z*R))(w:World)(hw:Sat B H w):Sat B ((HP.ex fun z=>HP.pr (p z)*A z)*R) w:=
 Hk z hp rfl w (Sat.right (e▸hw))
theorem Yk(lo hi:Nat)(s:BE)(r:AV):Dd lo hi s r=if hi≤r.hi then(if r.lo<lo then s.add r.lo (min r.hi (lo-1))else s).add (max r.lo hi) r.hi else if r.lo<lo then s.add r.lo (min r.hi (lo-1))else s:=rfl
theorem ZH{l:List AV}{m:Nat}(hm:m≤l.length):∀r∈F9 l m,r∈l:=by
 intro r hr;obtain⟨j,hj,rfl⟩:=E?.1 hr;have hj':j<m:=List.mem_range.1 hj;exact HE (P:=fun r=>r∈l) (fun r h=>h) _ Ca
set_option maxHeartbeats 1000000 in
theorem wU(cb j AF:Nat)(wm:BU)(r:RF)(R:HP)(hst:r.f.stream=(j:Int))(hj:j<4)(hok:wm.ok)(hw:CW AF wm.w)(hf:r.f.kind=5→r.f.offset+r.f.data.size≤wm.w.b.length):
  Fn Tryz.prog B 163 [ptr cb 0,.agg (AJ r).toArray] (HP.AA cb (0+43+j*10) (Bd wm)*(Bi wm*R))
   (fun _ H'=>∃w2:BU,w2.ok∧w2.w=wm.w.again r.f∧H'=HP.AA cb (0+43+j*10) (Bd w2)*(Bi w2*R)):=by
 refine Pb Tryz.func163 rfl rfl rfl ?_;refine Ao (H':=HP.AA cb (0+43+j*10) (Bd wm)*(AB wm.a.b wm.a.o wm.w.b wm.a.s*(AS wm.sq wm.sa wm.w.Ae*(AS wm.cq wm.ca wm.w.AE*R)))) MS ?_;have hbl:=hw.len;refine Ky ?_;rintro _ _ ⟨b3,rfl,rfl⟩;refine J3 ?_;refine mA 7 8 ?_;refine GF ?_;refine QO ?_;refine An 6 Cb rfl rfl LF ?_;rintro _ _ ⟨b4,rfl,rfl⟩;refine BA ?_;refine Db 7 Cb rfl Er ?_;refine DF ?_;refine B8 ?_;refine JL (CT (i:=r.f.kind) (j:=5) rfl rfl) ?_;refine J3 ?_;refine mC (fun hk5=>?_) (fun hk5=>?_)
 ·refine J1 ?_;refine CR (α:=Nat×Nat) (fun z=>[(3,ptr b3 0),(4,ptr b4 0),(5,ptr z.1 0),(6,ptr z.2 0)]) (fun z=>HP.AA z.1 0 [uN r.f.offset]*(HP.AA z.2 0 [uN (r.f.offset+r.f.data.size)]*(HP.AA b4 0 [ptr cb (0+43+j*10)]*(HP.AA b3 0 (AJ r)*(HP.AA cb (0+43+j*10) (Bd wm)*(AB wm.a.b wm.a.o wm.w.b wm.a.s*(AS wm.sq wm.sa wm.w.Ae*(AS wm.cq wm.ca wm.w.AE*R)))))))) (fun _=>True) ?_ ?_
  ·refine mA 12 13 ?_;refine IV ?_;refine Jf 2 ?_;refine KK ?_;refine I2 ?_;refine JT 6 rfl Gg ?_;refine JT 7 rfl (JX rfl (Lm (by have:=hf hk5;omega))) ?_;refine JT 8 rfl (Iy rfl rfl (by have:=hf hk5;omega)) ?_;refine zD 9 10 Cb rfl rfl rfl rfl rfl rfl rfl rfl LF LF ?_ ?_
   ·rintro _ _ ⟨b5,rfl,rfl⟩;refine BA ?_;refine An 10 Cb rfl rfl LF ?_;rintro _ _ ⟨b6,rfl,rfl⟩;refine BA ?_;refine MY ?_;refine FB ?_;refine RB ?_;refine DF ?_;exact A8 (b5,b6) trivial CY Xi
   rintro _ _ ⟨b6,rfl,rfl⟩;refine BA ?_;refine An 9 Cb rfl rfl LF ?_;rintro _ _ ⟨b5,rfl,rfl⟩;refine BA ?_;refine MY ?_;refine FB ?_;refine RB ?_;refine DF ?_;exact A8 (b5,b6) trivial CY Xi
  ·rintro⟨b5,b6⟩ _;dsimp only;refine Bq ?_;refine mA 4 5 ?_;refine Jd 0 ?_;refine An 1 Cb rfl rfl PK ?_;rintro _ _ ⟨q34,rfl,rfl⟩;refine BA ?_;refine IZ ?_;refine Db 4 Cb rfl Er ?_;refine DF ?_;refine J5 ?_;refine mE rfl (TO wm.sq _) ?_;rintro _ _ ⟨b38,rfl,rfl⟩;refine J3 ?_
   refine ST (α:=AV) He (fun xs=>xs=wm.w.Ae.l.reverse) (fun ys=>∃mm,mm≤wm.w.Ae.l.length∧F9 wm.w.Ae.l mm=ys) (fun _=>True) (fun pre=>HP.ex fun za:Bu=>HP.pr (za.ok (pre.foldl (Dd r.f.offset (r.f.offset+r.f.data.size)) (.of 4096)))*(AS q34 za (pre.foldl (Dd r.f.offset (r.f.offset+r.f.data.size)) (.of 4096))*(HP.AA b4 0 [ptr cb (0+43+j*10)]*(HP.AA b5 0 [uN r.f.offset]*(HP.AA b6 0 [uN (r.f.offset+r.f.data.size)]*HP.AA cb (0+43+j*10) [.slice wm.a.p wm.w.b.length wm.a.c,ptr q34 0,ptr wm.cq 0,uN wm.w.high,.bool wm.w.finished,.bool wm.w.ending,.bool wm.w.ended,.bool wm.w.given,uN wm.w.code,.bool wm.w.C4]))))) (fun cx pre=>HP.pr False) ((AS wm.sq wm.sa wm.w.Ae*HP.AA b38 0 [ptr wm.sq 0])*(AB wm.a.b wm.a.o wm.w.b wm.a.s*(AS wm.cq wm.ca wm.w.AE*(HP.AA b3 0 (AJ r)*R)))) ((AS wm.sq wm.sa wm.w.Ae*HP.AA b38 0 [ptr wm.sq 0])*(AB wm.a.b wm.a.o wm.w.b wm.a.s*(AS wm.cq wm.ca wm.w.AE*(HP.AA b3 0 (AJ r)*R)))) (fun y x=>[(3,ptr b3 0),(4,ptr b4 0),(5,ptr b5 0),(6,ptr b6 0),(8,ptr y 0)]) (fun y x=>HP.AA y 0 [uN x.lo,uN x.hi]) rfl rfl rfl ?_ (Rq wm.sq b38 wm.sa wm.w.Ae _ hok.2.1 (by have:=hw.so.len;rw [hw.sm]at this;omega)) ?_ ?_ ?_ ?_
   ·refine Hk CZ (NJ 4096) ?_;show _=AS q34 CZ (.of 4096)*(HP.AA b4 0 [ptr cb (0+43+j*10)]*(HP.AA b5 0 [uN r.f.offset]*(HP.AA b6 0 [uN (r.f.offset+r.f.data.size)]*HP.AA cb (0+43+j*10) [.slice wm.a.p wm.w.b.length wm.a.c,ptr q34 0,ptr wm.cq 0,uN wm.w.high,.bool wm.w.finished,.bool wm.w.ending,.bool wm.w.ended,.bool wm.w.given,uN wm.w.code,.bool wm.w.C4])))*((AS wm.sq wm.sa wm.w.Ae*HP.AA b38 0 [ptr wm.sq 0])*(AB wm.a.b wm.a.o wm.w.b wm.a.s*(AS wm.cq wm.ca wm.w.AE*(HP.AA b3 0 (AJ r)*R))));ac_rfl
   ·intro pre x l R;refine J1 ?_;refine Af Mf rfl ?_;rintro _ _ ⟨b8,rfl,rfl⟩;refine Bj KR ?_;refine Hw ?_;exact Ps b8 Gh rfl
   ·intro y pre x l R0 hsp;refine Ao (H':=(HP.ex fun za:Bu=>HP.pr (za.ok (pre.foldl (Dd r.f.offset (r.f.offset+r.f.data.size)) (.of 4096)))*(AS q34 za (pre.foldl (Dd r.f.offset (r.f.offset+r.f.data.size)) (.of 4096))*(HP.AA b4 0 [ptr cb (0+43+j*10)]*(HP.AA b5 0 [uN r.f.offset]*(HP.AA b6 0 [uN (r.f.offset+r.f.data.size)]*HP.AA cb (0+43+j*10) [.slice wm.a.p wm.w.b.length wm.a.c,ptr q34 0,ptr wm.cq 0,uN wm.w.high,.bool wm.w.finished,.bool wm.w.ending,.bool wm.w.ended,.bool wm.w.given,uN wm.w.code,.bool wm.w.C4])))))*(HP.AA y 0 [uN x.lo,uN x.hi]*R0)) Cf ?_;refine LK ?_;rintro zq hzq;obtain⟨mm,hmm,hds⟩:=hsp;have hmem:=ZH hmm;rw [hds]at hmem;have hxm:x∈wm.w.Ae.l:=hmem x Cg;have hxhi:=hw.so.hi x hxm;obtain⟨cd1,cd2,cd3⟩:=Pv (lo:=r.f.offset) (hi:=(r.f.offset+r.f.data.size)) hw.len pre (.of 4096) .of rfl rfl (fun s hs=>hw.so.hi s (hmem s La));refine Ao (H':=AS q34 zq (pre.foldl (Dd r.f.offset (r.f.offset+r.f.data.size)) (.of 4096))*((HP.AA b4 0 [ptr cb (0+43+j*10)]*(HP.AA b5 0 [uN r.f.offset]*(HP.AA b6 0 [uN (r.f.offset+r.f.data.size)]*HP.AA cb (0+43+j*10) [.slice wm.a.p wm.w.b.length wm.a.c,ptr q34 0,ptr wm.cq 0,uN wm.w.high,.bool wm.w.finished,.bool wm.w.ending,.bool wm.w.ended,.bool wm.w.given,uN wm.w.code,.bool wm.w.C4])))*(HP.AA y 0 [uN x.lo,uN x.hi]*R0))) Cf ?_;refine B8 ?_;refine mC (fun h43=>?_) (fun h43=>?_)
    ·refine mA 11 12 ?_;refine Jd 0 ?_;refine K0 ?_;refine I2 ?_;refine Jf 6 ?_;refine Jd 7 ?_;refine Jd 8 ?_;refine JT 9 rfl Nv ?_;refine JT 10 rfl Mn ?_;refine An 11 Cb rfl rfl (BJ rfl (Jl q34 x.lo _ wm.w.b.length zq _ _ hzq cd1 Ca Ca (by rw [cd3];omega) (by rw [cd3];omega))) ?_;rintro _ _ ⟨a55,hs55,rfl⟩;obtain⟨e1,e2,e3,_⟩:=Je (lo:=x.lo) (hi:=min x.hi (r.f.offset-1)) cd1 cd2 cd3 hw.len Ca;refine DK ?_;refine DO ?_
     first
      |(have hT:=hs55;have f1:=e1;have f2:=e2;have f3:=e3)
      |(have hT:=hzq;have f1:=cd1;have f2:=cd2;have f3:=cd3)
     refine J4 ?_;refine JL Ka ?_;refine J2 ?_;refine mC (fun h59=>?_) (fun h59=>?_)
     ·refine Vd ?_;rintro _ _ ⟨a70,hs70,rfl⟩;refine DK ?_;refine Ei ?_
      first
       |exact Ff trivial (Fb (G:=HP.AA y 0 [uN x.lo,uN x.hi]) (a70:Bu) Ct Cu)
       |exact Ff trivial (Fb (G:=HP.AA y 0 [uN x.lo,uN x.hi]) (a55:Bu) Ct Cu)
       |exact Ff trivial (Fb (G:=HP.AA y 0 [uN x.lo,uN x.hi]) (zq:Bu) Ct Cu)
     refine J2 ?_
     first
      |exact Ff trivial (Fb (G:=HP.AA y 0 [uN x.lo,uN x.hi]) (a70:Bu) Ct Cu)
      |exact Ff trivial (Fb (G:=HP.AA y 0 [uN x.lo,uN x.hi]) (a55:Bu) Ct Cu)
      |exact Ff trivial (Fb (G:=HP.AA y 0 [uN x.lo,uN x.hi]) (zq:Bu) Ct Cu)
    refine J3 ?_
    first
     |(have hT:=hs55;have f1:=e1;have f2:=e2;have f3:=e3)
     |(have hT:=hzq;have f1:=cd1;have f2:=cd2;have f3:=cd3)
    refine J4 ?_;refine JL Ka ?_;refine J2 ?_;refine mC (fun h59=>?_) (fun h59=>?_)
    ·refine Vd ?_;rintro _ _ ⟨a70,hs70,rfl⟩;refine DK ?_;refine Ei ?_
     first
      |exact Ff trivial (Fb (G:=HP.AA y 0 [uN x.lo,uN x.hi]) (a70:Bu) Ct Cu)
      |exact Ff trivial (Fb (G:=HP.AA y 0 [uN x.lo,uN x.hi]) (a55:Bu) Ct Cu)
      |exact Ff trivial (Fb (G:=HP.AA y 0 [uN x.lo,uN x.hi]) (zq:Bu) Ct Cu)
    refine J2 ?_
    first
     |exact Ff trivial (Fb (G:=HP.AA y 0 [uN x.lo,uN x.hi]) (a70:Bu) Ct Cu)
     |exact Ff trivial (Fb (G:=HP.AA y 0 [uN x.lo,uN x.hi]) (a55:Bu) Ct Cu)
     |exact Ff trivial (Fb (G:=HP.AA y 0 [uN x.lo,uN x.hi]) (zq:Bu) Ct Cu)
   ·intro d xs hS;subst hS;refine Pw ?_;rintro zq hzq;obtain⟨cd1,cd2,cd3⟩:=Pv (lo:=r.f.offset) (hi:=(r.f.offset+r.f.data.size)) hw.len wm.w.Ae.l.reverse (.of 4096) .of rfl rfl (fun s hs=>hw.so.hi s (by simpa using hs));refine Dl (H':=(HP.AA b4 0 [ptr cb (0+43+j*10)]*(HP.AA b5 0 [uN r.f.offset]*(HP.AA b6 0 [uN (r.f.offset+r.f.data.size)]*HP.AA cb (0+43+j*10) [.slice wm.a.p wm.w.b.length wm.a.c,ptr q34 0,ptr wm.cq 0,uN wm.w.high,.bool wm.w.finished,.bool wm.w.ending,.bool wm.w.ended,.bool wm.w.given,uN wm.w.code,.bool wm.w.C4])))*(AS q34 zq (wm.w.Ae.l.reverse.foldl (Dd r.f.offset (r.f.offset+r.f.data.size)) (.of 4096))*(AS wm.cq wm.ca wm.w.AE*(AB wm.a.b wm.a.o wm.w.b wm.a.s*(AS wm.sq wm.sa wm.w.Ae*(HP.AA b38 0 [ptr wm.sq 0]*(HP.obj d (.deferred (some []))*(HP.AA b3 0 (AJ r)*R)))))))) Cf ?_;refine J9 ?_;refine mE rfl (TO wm.cq _) ?_;rintro _ _ ⟨b75,rfl,rfl⟩;refine J3 ?_
    refine ST (α:=AV) He (fun xs=>xs=wm.w.AE.l.reverse) (fun ys=>∃mm,mm≤wm.w.AE.l.length∧F9 wm.w.AE.l mm=ys) (fun _=>True) (fun pre=>HP.ex fun za:Bu=>HP.pr (za.ok (pre.foldl (fun s r=>s.add r.lo r.hi) (wm.w.Ae.l.reverse.foldl (Dd r.f.offset (r.f.offset+r.f.data.size)) (.of 4096))))*(AS q34 za (pre.foldl (fun s r=>s.add r.lo r.hi) (wm.w.Ae.l.reverse.foldl (Dd r.f.offset (r.f.offset+r.f.data.size)) (.of 4096)))*(HP.AA b4 0 [ptr cb (0+43+j*10)]*(HP.AA b5 0 [uN r.f.offset]*(HP.AA b6 0 [uN (r.f.offset+r.f.data.size)]*HP.AA cb (0+43+j*10) [.slice wm.a.p wm.w.b.length wm.a.c,ptr q34 0,ptr wm.cq 0,uN wm.w.high,.bool wm.w.finished,.bool wm.w.ending,.bool wm.w.ended,.bool wm.w.given,uN wm.w.code,.bool wm.w.C4]))))) (fun cx pre=>HP.pr False) ((AS wm.cq wm.ca wm.w.AE*HP.AA b75 0 [ptr wm.cq 0])*(AB wm.a.b wm.a.o wm.w.b wm.a.s*(AS wm.sq wm.sa wm.w.Ae*(HP.AA b38 0 [ptr wm.sq 0]*(HP.obj d (.deferred (some []))*(HP.AA b3 0 (AJ r)*R)))))) ((AS wm.cq wm.ca wm.w.AE*HP.AA b75 0 [ptr wm.cq 0])*(AB wm.a.b wm.a.o wm.w.b wm.a.s*(AS wm.sq wm.sa wm.w.Ae*(HP.AA b38 0 [ptr wm.sq 0]*(HP.obj d (.deferred (some []))*(HP.AA b3 0 (AJ r)*R)))))) (fun y x=>[(3,ptr b3 0),(4,ptr b4 0),(9,ptr y 0)]) (fun y x=>HP.AA y 0 [uN x.lo,uN x.hi]) rfl rfl rfl ?_ (Rq wm.cq b75 wm.ca wm.w.AE _ hok.2.2 (by have:=hw.co.len;rw [hw.cm]at this;omega)) ?_ ?_ ?_ ?_
    ·refine Hk zq hzq ?_;show _=AS q34 zq (wm.w.Ae.l.reverse.foldl (Dd r.f.offset (r.f.offset+r.f.data.size)) (.of 4096))*(HP.AA b4 0 [ptr cb (0+43+j*10)]*(HP.AA b5 0 [uN r.f.offset]*(HP.AA b6 0 [uN (r.f.offset+r.f.data.size)]*HP.AA cb (0+43+j*10) [.slice wm.a.p wm.w.b.length wm.a.c,ptr q34 0,ptr wm.cq 0,uN wm.w.high,.bool wm.w.finished,.bool wm.w.ending,.bool wm.w.ended,.bool wm.w.given,uN wm.w.code,.bool wm.w.C4])))*((AS wm.cq wm.ca wm.w.AE*HP.AA b75 0 [ptr wm.cq 0])*(AB wm.a.b wm.a.o wm.w.b wm.a.s*(AS wm.sq wm.sa wm.w.Ae*(HP.AA b38 0 [ptr wm.sq 0]*(HP.obj d (.deferred (some []))*(HP.AA b3 0 (AJ r)*R))))));ac_rfl
    ·intro pre x l R;refine J1 ?_;refine Af Mf rfl ?_;rintro _ _ ⟨b9,rfl,rfl⟩;refine Bj KR ?_;refine Hw ?_;exact Ps b9 EB rfl
    ·intro y pre x l R0 hsp;refine Ao (H':=(HP.ex fun za:Bu=>HP.pr (za.ok (pre.foldl (fun s r=>s.add r.lo r.hi) (wm.w.Ae.l.reverse.foldl (Dd r.f.offset (r.f.offset+r.f.data.size)) (.of 4096))))*(AS q34 za (pre.foldl (fun s r=>s.add r.lo r.hi) (wm.w.Ae.l.reverse.foldl (Dd r.f.offset (r.f.offset+r.f.data.size)) (.of 4096)))*(HP.AA b4 0 [ptr cb (0+43+j*10)]*(HP.AA b5 0 [uN r.f.offset]*(HP.AA b6 0 [uN (r.f.offset+r.f.data.size)]*HP.AA cb (0+43+j*10) [.slice wm.a.p wm.w.b.length wm.a.c,ptr q34 0,ptr wm.cq 0,uN wm.w.high,.bool wm.w.finished,.bool wm.w.ending,.bool wm.w.ended,.bool wm.w.given,uN wm.w.code,.bool wm.w.C4])))))*(HP.AA y 0 [uN x.lo,uN x.hi]*R0)) Cf ?_;refine LK ?_;rintro zq hzq;obtain⟨mm,hmm,hds⟩:=hsp;have hmem:=ZH hmm;rw [hds]at hmem;have hxm:x∈wm.w.AE.l:=hmem x Cg;have hxhi:=hw.co.hi x hxm;obtain⟨ad1,ad2,ad3⟩:=Sq hw.len pre (wm.w.Ae.l.reverse.foldl (Dd r.f.offset (r.f.offset+r.f.data.size)) (.of 4096)) cd1 cd2 cd3 (fun s hs=>hw.co.hi s (hmem s La))
     refine Ao (H':=AS q34 zq (pre.foldl (fun s r=>s.add r.lo r.hi) (wm.w.Ae.l.reverse.foldl (Dd r.f.offset (r.f.offset+r.f.data.size)) (.of 4096)))*((HP.AA b4 0 [ptr cb (0+43+j*10)]*(HP.AA b5 0 [uN r.f.offset]*(HP.AA b6 0 [uN (r.f.offset+r.f.data.size)]*HP.AA cb (0+43+j*10) [.slice wm.a.p wm.w.b.length wm.a.c,ptr q34 0,ptr wm.cq 0,uN wm.w.high,.bool wm.w.finished,.bool wm.w.ending,.bool wm.w.ended,.bool wm.w.given,uN wm.w.code,.bool wm.w.C4])))*(HP.AA y 0 [uN x.lo,uN x.hi]*R0))) Cf ?_;refine J1 ?_;refine mA 8 9 ?_;refine Jd 0 ?_;refine K0 ?_;refine I2 ?_;refine Jf 6 ?_;refine Jd 7 ?_;refine An 8 Cb rfl rfl (BJ rfl (Jl q34 x.lo x.hi wm.w.b.length zq _ _ hzq ad1 Ca Ca (by rw [ad3];omega) (by rw [ad3];omega))) ?_;rintro _ _ ⟨a85,hs85,rfl⟩;refine DK ?_;refine Ei ?_;exact Ff trivial (Fb (G:=HP.AA y 0 [uN x.lo,uN x.hi]) (a85:Bu) (by rw [F_,L?,M_];exact hs85) (by rw [F_,L?,M_];ac_rfl))
    ·intro d2 xs hS;subst hS;refine Pw ?_;rintro zq hzq;refine Dl (H':=(HP.AA b4 0 [ptr cb (0+43+j*10)]*(HP.AA b5 0 [uN r.f.offset]*(HP.AA b6 0 [uN (r.f.offset+r.f.data.size)]*HP.AA cb (0+43+j*10) [.slice wm.a.p wm.w.b.length wm.a.c,ptr q34 0,ptr wm.cq 0,uN wm.w.high,.bool wm.w.finished,.bool wm.w.ending,.bool wm.w.ended,.bool wm.w.given,uN wm.w.code,.bool wm.w.C4])))*(AS q34 zq (wm.w.AE.l.reverse.foldl (fun s r=>s.add r.lo r.hi) (wm.w.Ae.l.reverse.foldl (Dd r.f.offset (r.f.offset+r.f.data.size)) (.of 4096)))*(HP.obj d2 (.deferred (some []))*(AS wm.cq wm.ca wm.w.AE*(HP.AA b75 0 [ptr wm.cq 0]*(AB wm.a.b wm.a.o wm.w.b wm.a.s*(AS wm.sq wm.sa wm.w.Ae*(HP.AA b38 0 [ptr wm.sq 0]*(HP.obj d (.deferred (some []))*(HP.AA b3 0 (AJ r)*R)))))))))) Cf ?_
     have eag:wm.w.again r.f={wm.w with Ae:=wm.w.AE.l.reverse.foldl (fun s r=>s.add r.lo r.hi) (wm.w.Ae.l.reverse.foldl (Dd r.f.offset (r.f.offset+r.f.data.size)) (.of 4096)),ending:=wm.w.ending&& !r.f.fin}:=by unfold AX.again;rw [if_pos hk5]
     refine J8 ?_;refine mc (fun h87=>?_) (fun h87=>?_)
     ·refine J7 ?_;refine Dl (H':=HP.obj d2 (.deferred (some []))*(HP.obj d (.deferred (some []))*(HP.AA cb (0+43+j*10) [.slice wm.a.p wm.w.b.length wm.a.c,ptr q34 0,ptr wm.cq 0,uN wm.w.high,.bool wm.w.finished,.bool false,.bool wm.w.ended,.bool wm.w.given,uN wm.w.code,.bool wm.w.C4]*(AB wm.a.b wm.a.o wm.w.b wm.a.s*(AS q34 zq (wm.w.AE.l.reverse.foldl (fun s r=>s.add r.lo r.hi) (wm.w.Ae.l.reverse.foldl (Dd r.f.offset (r.f.offset+r.f.data.size)) (.of 4096)))*(AS wm.cq wm.ca wm.w.AE*(R*(HP.AA b4 0 [ptr cb (0+43+j*10)]*(HP.AA b5 0 [uN r.f.offset]*(HP.AA b6 0 [uN (r.f.offset+r.f.data.size)]*(HP.AA b75 0 [ptr wm.cq 0]*(AS wm.sq wm.sa wm.w.Ae*(HP.AA b38 0 [ptr wm.sq 0]*HP.AA b3 0 (AJ r)))))))))))))) Cf ?_
      obtain⟨w2,hw2⟩:∃w2:BU,w2={wm with w:=wm.w.again r.f,sq:=q34,sa:=zq}:=Be
      have hok2:w2.ok:=by rw [hw2];unfold BU.ok;dsimp only;rw [eag];exact⟨hok.1,hzq,hok.2.2⟩
      refine Bf (HP.obj d2 (.deferred (some []))*(HP.obj d (.deferred (some []))*(HP.AA cb (0+43+j*10) (Bd w2)*(Bi w2*R)))) (hE:=?_) ?_
      ·rw [hw2,eag,h87];unfold Bi;dsimp only [H?,G!,G?,I_];simp only [H?,G!,G?,I_];infer_instance
      exact aV
     refine J2 ?_;refine Dl (H':=HP.obj d2 (.deferred (some []))*(HP.obj d (.deferred (some []))*(HP.AA cb (0+43+j*10) [.slice wm.a.p wm.w.b.length wm.a.c,ptr q34 0,ptr wm.cq 0,uN wm.w.high,.bool wm.w.finished,.bool wm.w.ending,.bool wm.w.ended,.bool wm.w.given,uN wm.w.code,.bool wm.w.C4]*(AB wm.a.b wm.a.o wm.w.b wm.a.s*(AS q34 zq (wm.w.AE.l.reverse.foldl (fun s r=>s.add r.lo r.hi) (wm.w.Ae.l.reverse.foldl (Dd r.f.offset (r.f.offset+r.f.data.size)) (.of 4096)))*(AS wm.cq wm.ca wm.w.AE*(R*(HP.AA b4 0 [ptr cb (0+43+j*10)]*(HP.AA b5 0 [uN r.f.offset]*(HP.AA b6 0 [uN (r.f.offset+r.f.data.size)]*(HP.AA b75 0 [ptr wm.cq 0]*(AS wm.sq wm.sa wm.w.Ae*(HP.AA b38 0 [ptr wm.sq 0]*HP.AA b3 0 (AJ r)))))))))))))) Cf ?_
     obtain⟨w2,hw2⟩:∃w2:BU,w2={wm with w:=wm.w.again r.f,sq:=q34,sa:=zq}:=Be
     have hok2:w2.ok:=by rw [hw2];unfold BU.ok;dsimp only;rw [eag];exact⟨hok.1,hzq,hok.2.2⟩
     refine Bf (HP.obj d2 (.deferred (some []))*(HP.obj d (.deferred (some []))*(HP.AA cb (0+43+j*10) (Bd w2)*(Bi w2*R)))) (hE:=?_) ?_
     ·rw [hw2,eag,h87];unfold Bi;dsimp only [H?,G!,G?,I_];simp only [H?,G!,G?,I_];infer_instance
     exact aV
    rintro d2 pre id _ aa ww _ _ h3;exact Qn
    -- no other way
   rintro d pre id _ aa ww _ _ h3;exact Qn
   -- no other way
 refine J2 ?_;refine JL (CT (i:=r.f.kind) (j:=4) rfl rfl) ?_;refine J3 ?_;refine mC (fun hk4=>?_) (fun hk4=>?_)
 ·refine J7 ?_
  obtain⟨w2,hw2⟩:∃w2:BU,w2={wm with w:=wm.w.again r.f}:=Be
  have eag:wm.w.again r.f={wm.w with C4:=false}:=by unfold AX.again;rw [if_neg hk5,if_pos hk4]
  have hok2:w2.ok:=by rw [hw2];unfold BU.ok;dsimp only;rw [eag];exact hok
  refine Dl (H':=HP.AA cb (0+43+j*10) (Bd {wm with w:={wm.w with C4:=false}})*(AB wm.a.b wm.a.o wm.w.b wm.a.s*(AS wm.sq wm.sa wm.w.Ae*(AS wm.cq wm.ca wm.w.AE*(R*(HP.AA b4 0 [ptr cb (0+43+j*10)]*HP.AA b3 0 (AJ r))))))) (by show _=HP.AA cb (0+43+j*10) [.slice wm.a.p wm.w.b.length wm.a.c,ptr wm.sq 0,ptr wm.cq 0,uN wm.w.high,.bool wm.w.finished,.bool wm.w.ending,.bool wm.w.ended,.bool wm.w.given,uN wm.w.code,.bool false]*_;ac_rfl) ?_;refine bJ ?_;exact ZL
 refine J2 ?_
 obtain⟨w2,hw2⟩:∃w2:BU,w2={wm with w:=wm.w.again r.f}:=Be
 have eag:wm.w.again r.f=wm.w:=by unfold AX.again;rw [if_neg hk5,if_neg hk4]
 have hok2:w2.ok:=by rw [hw2];unfold BU.ok;dsimp only;rw [eag];exact hok
 refine Dl (H':=HP.AA cb (0+43+j*10) (Bd {wm with w:=wm.w})*(AB wm.a.b wm.a.o wm.w.b wm.a.s*(AS wm.sq wm.sa wm.w.Ae*(AS wm.cq wm.ca wm.w.AE*(R*(HP.AA b4 0 [ptr cb (0+43+j*10)]*HP.AA b3 0 (AJ r))))))) (by show _=HP.AA cb (0+43+j*10) [.slice wm.a.p wm.w.b.length wm.a.c,ptr wm.sq 0,ptr wm.cq 0,uN wm.w.high,.bool wm.w.finished,.bool wm.w.ending,.bool wm.w.ended,.bool wm.w.given,uN wm.w.code,.bool wm.w.C4]*_;ac_rfl) ?_;refine bJ ?_;exact ZL
end
section
theorem Sat.fP{P:Program}{B:World}{α:Type}[AC α]{b o k:Nat}{xs:List α}{s:List Value}{R:HP}{w:World}(y:α)(hk:k<xs.length)(h:Sat B (AB b o xs s*R) w):
  ∃w',(storeCells ⟨b,o+k*AC.sz α,none⟩ (AC.Al y)).run P w=.ok () w'∧Sat B (AB b o (xs.set k y) s*R) w':=by
 have hd:xs.drop k=xs[k]::xs.drop (k+1):=List.drop_eq_getElem_cons hk
 have e1:AD xs++s=AD (xs.take k)++(AD (xs.drop k)++s):=by rw [←D_,←Ef,List.take_append_drop]
 have hl:(AD (xs.take k)).length=k*AC.sz α:=by rw [Bl,B_,C? Ca]
 have h2:Sat B (HP.AA b (o+k*AC.sz α+0) (AD (xs.drop k)++s)*(HP.AA b o (AD (xs.take k))*R)) w:=by
  rw [HP.CF,←HP.assoc,M?,←hl,←HP.E3,←e1];exact h
 have hle:(AC.Al y).length≤(AD (xs.drop k)++s).length:=by
  rw [E!,Bl,AC.len,K?]
  have:=Nat.mul_le_mul_right (AC.sz α) (show 1≤xs.length-k by omega)
  omega
 obtain⟨w',h3,h4⟩:=Sat.I5 (P:=P) (AC.Al y) (o+k*AC.sz α) 0 (AD (xs.drop k)++s) _ w hle (AC.one y) h2;refine⟨w',h3,?_⟩
 have e2:(AD (xs.drop k)++s).drop (AC.Al y).length=AD (xs.drop (k+1))++s:=by
  rw [hd];show(AC.Al xs[k]++AD (xs.drop (k+1))++s).drop _=_;rw [D_,AC.len,←AC.len xs[k],List.drop_left]
 rw [e2,HP.CF,←HP.assoc,M?,←hl,←HP.E3]at h4
 have e3:AD (xs.set k y)++s=AD (xs.take k)++(AC.Al y++(AD (xs.drop (k+1))++s)):=by
  rw [B!,if_pos hk,Ef];show _++(AC.Al y++AD (xs.drop (k+1)))++s=_;simp only [D_]
 unfold AB;rw [e3];exact h4
section
variable{P:Program}{B:World}{n:Nat}{E:Ay}{D:Br}{H R:HP}{d:Option Tmp}{T T' ty:TypeId}{pos:String}{af:Array Edge}{g:Option (Nat×Bool)}{x y z:Operand}
theorem rO{α:Type}[AC α]{b o k:Nat}{xs:List α}{s:List Value}(v:α)[hT:EQ P T (AC.sz α)](hx:ev E x=some (.pointer (some ⟨b,o+k*AC.sz α,none⟩)))(hy:ev E y=some (.agg (AC.Al v).toArray))(hk:k<xs.length):
  CE P B n ⟨d,.store T x y,ty,pos,af,g⟩ E D (AB b o xs s*R) (fun v' H''=>v'=undef∧H''=AB b o (xs.set k v) s*R):=by
 intro a w h1 _ h3 K Q hkk;obtain⟨w',hw1,hw2⟩:=Sat.fP (P:=P) v hk h3;have hl:(AC.Al v).length=AC.sz α:=AC.len v
 have hrun:(execOp a.eval ⟨d,.store T x y,ty,pos,af,g⟩).run P w=.ok .skip w':=by
  simp only [execOp,h1.ev hx,h1.ev hy,Instr.storeAt,Instr.sureAddr,Sem.run_bind,Sem.run_pure,Result.andThen_ok,storeVar,hT.size,Value.cells];simp [hl,hw1]
 simp only [Oper.wp,hrun,Oper.upon];exact hkk undef _ _ Ba hw2
end
end
section
variable{B:World}
abbrev Ll(m:A5):Value:=.agg (Bo m).toArray
def PZ(B:World)(f:FuncId)(us:List Value)(l:List A5)(P:A5→Bool)(G:List A5→HP):Prop:=
 ∀pre x R,(∃m,m≤l.length∧l.take m=pre++[x])→Fn Tryz.prog B f (Ll x::us) (G pre*R) (fun v H'=>v=.bool (P x)∧H'=G (pre++[x])*R)
theorem KQ{l:List A5}{i:Nat}(h:i<l.length):l.take (i+1)=l.take i++[l.getD i AC.AH]:=by
 rw [A_,A! h,D!,F! h]
theorem rK(l:List A5)(p:Option Addr)(b o c:Nat)(s:List Value)(f:FuncId)(us:List Value)(P:A5→Bool)(G:List A5→HP)(R:HP)[Ad Tryz.prog f](hs:Sl p b o l.length c)(hl:l.length<1000000000)(hf:PZ B f us l P G):
  Fn Tryz.prog B 187 [.slice p l.length c,CG f us] (G []*(AB b o l s*R))
   (fun v H'=>∃(kz:Int) (mz:Nat),v=.int .i64 kz∧((kz= -1∧mz=l.length∧∀j,j<l.length→P (l.getD j AC.AH)=false)∨(∃k:Nat,kz=k∧k<l.length∧mz=k+1∧P (l.getD k AC.AH)=true∧∀j,j<k→P (l.getD j AC.AH)=false))∧
    H'=G (l.take mz)*(AB b o l s*R)):=by
 refine mI Tryz.func187 ?_;refine Gv ?_;refine J7 ?_;refine Gi ?_;refine Bk (α:=Nat) (fun i=>[(0,.slice p l.length c),(1,CG f us),(7,iN l.length),(8,iN i)]) (fun i=>G (l.take i)*(AB b o l s*R)) (fun i=>i≤l.length∧∀j,j<i→P (l.getD j AC.AH)=false) (fun i=>l.length-i) 0 ⟨L! _,(fun j h=>absurd h OC)⟩ CY (by rw [M!]) ?_;rintro i ⟨hi1,hi2⟩;refine J6 ?_;refine mC (fun h9=>?_) (fun h9=>?_)
 ·refine Oq ?_;refine JL LM ?_;refine JL (IA (xs:=l) rfl inferInstance Ca) ?_;refine Af (Hg rfl rfl (hf (l.take i) (l.getD i AC.AH) _ ⟨i+1,Ca,KQ h9⟩)) rfl ?_;refine JR ?_;refine J2 ?_;refine mc (fun h16=>?_) (fun h16=>?_)
  ·refine DH ?_;exact mr [4] rfl rfl ⟨(i:Nat),i+1,rfl,.inr ⟨i,rfl,h9,rfl,h16,hi2⟩,by rw [KQ h9]⟩
  refine HZ ?_;exact BW (i+1) ⟨Ca,fun j hj=>by rcases N_ j i with h|h;exact hi2 j h;obtain rfl:j=i:=Ca;exact h16⟩ Ca CY (by rw [KQ h9])
 refine Bq ?_;exact mr [4] rfl rfl ⟨-1,l.length,rfl,.inl ⟨rfl,rfl,fun j hj=>hi2 j Ca⟩,by rw [show i=l.length by omega]⟩
theorem cP{l:List A5}{P:A5→Bool}{k:Nat}(hk:k≤l.length)(h:∀j,j<k→P (l.getD j AC.AH)=false):(l.take k).filter (fun x=> !P x)=l.take k:=by
 rw [List.filter_eq_self];intro a ha;obtain⟨j,hj,rfl⟩:=G_ ha
 have hj2:j<k∧j<l.length:=by rw [B_]at hj;omega
 have:=h j hj2.1
 rw [A_,A! hj2.2,D!]at this;rw [List.getElem_take,this];rfl
structure Gs where
 i:Nat
 j:Nat
 L:List A5
def Gs.ok(z:Gs)(l:List A5)(P:A5→Bool):Prop:=
 z.j≤l.length∧z.i<z.j∧z.L.length=l.length∧z.L.take z.i=(l.take z.j).filter (fun x=> !P x)∧z.L.drop z.j=l.drop z.j
theorem Qw{l m:List A5}{j:Nat}(h:m.drop j=l.drop j)(hl:m.length=l.length)(hj:j<l.length):m.getD j AC.AH=l.getD j AC.AH:=by
 have:(m.drop j)[0]?=(l.drop j)[0]?:=by rw [h]
 rw [K_,K_]at this;simp only [A_];rw [show j=j+0 from rfl,this]
theorem Gs.VP{z:Gs}{l:List A5}{P:A5→Bool}(h:z.ok l P)(hj:z.j<l.length)(hP:P (z.L.getD z.j AC.AH)=false):(⟨z.i+1,z.j+1,z.L.set z.i (z.L.getD z.j AC.AH)⟩:Gs).ok l P:=by
 obtain⟨h1,h2,h3,h4,h5⟩:=h;have e:=Qw h5 h3 hj;refine⟨hj,by show z.i+1<z.j+1;omega,by show(z.L.set _ _).length=_;rw [List.length_set];exact h3,?_,?_⟩
 ·show(z.L.set z.i (z.L.getD z.j AC.AH)).take (z.i+1)=_
  have h6:z.i<z.L.length:=by omega
  rw [B!,if_pos h6,List.take_append,List.take_of_length_le MW,B_,C? Ca,show z.i+1-z.i=0+1 by omega,List.take_succ_cons,M!,h4,KQ hj,C!,←e,C_ (by show(!P _)=true;rw [hP];rfl),E_]
 ·show(z.L.set z.i (z.L.getD z.j AC.AH)).drop (z.j+1)=_;rw [List.drop_set_of_lt Ca]
  have:=congrArg (N! 1) h5
  rwa [H_,H_]at this
theorem Gs.skip{z:Gs}{l:List A5}{P:A5→Bool}(h:z.ok l P)(hj:z.j<l.length)(hP:P (z.L.getD z.j AC.AH)=true):(⟨z.i,z.j+1,z.L⟩:Gs).ok l P:=by
 obtain⟨h1,h2,h3,h4,h5⟩:=h;have e:=Qw h5 h3 hj;refine⟨hj,by show z.i<z.j+1;omega,h3,?_,?_⟩
 ·show z.L.take z.i=(l.take (z.j+1)).filter _;rw [h4,KQ hj,C!,←e,B? (by show ¬(!P _)=true;rw [hP];simp),E_,F?]
 ·show z.L.drop (z.j+1)=_
  have:=congrArg (N! 1) h5
  rwa [H_,H_]at this
set_option maxHeartbeats 1000000 in
theorem RD(l:List A5)(p:Option Addr)(b o c:Nat)(s:List Value)(f:FuncId)(us:List Value)(P:A5→Bool)(G:List A5→HP)(R:HP)[Ad Tryz.prog f](hs:Sl p b o l.length c)(hc:l.length*3+s.length=c*3)(hl:l.length<1000000000)(hf:PZ B f us l P G):
  Fn Tryz.prog B 161 [.slice p l.length c,CG f us] (G []*(AB b o l s*R)) (fun v H'=>B1 (G l*R) (l.filter (fun x=> !P x)) v H'):=by
 refine mI Tryz.func161 ?_;refine J9 ?_;refine mE rfl (rK l p b o c s f us P G R hs hl hf) ?_;rintro _ _ ⟨kz,mz,rfl,hkz,rfl⟩;refine J7 ?_;refine JL (CT (i:=kz) (j:= -1) rfl rfl) ?_;refine J2 ?_;refine mC (fun h12=>?_) (fun h12=>?_)
 ·obtain⟨_,rfl,hk3⟩:=hkz.resolve_right (fun⟨k,h,_⟩=>by omega)
  have hnone:l.filter (fun x=> !P x)=l:=by have:=cP C8 hk3;rwa [D?]at this
  refine J8 ?_;exact mr [4] rfl rfl ⟨p,b,o,c,s,RH,by rw [hnone];exact hs,by rw [hnone];exact hc,by rw [hnone,D?];ac_rfl⟩
 obtain⟨k,rfl,hk1,rfl,hk2,hk3⟩:=hkz.resolve_left (fun h=>h12 h.1);refine Pz (E':=[(5,iN k),(0,.slice p l.length c),(1,CG f us)]) EB ?_;refine J6 ?_;refine JJ ?_;refine J4 ?_
 refine Bk (α:=Gs) (fun z=>[(0,.slice p l.length c),(1,CG f us),(5,iN z.i),(6,iN z.j)]) (fun z=>G (l.take z.j)*(AB b o z.L s*R)) (fun z=>z.ok l P) (fun z=>l.length-z.j) ⟨k,k+1,l⟩ ⟨by show k+1≤l.length;omega,by show k<k+1;omega,rfl,by show l.take k=(l.take (k+1)).filter _;rw [KQ hk1,C!,cP Ca hk3,B? (by show ¬(!P _)=true;rw [hk2];simp),E_,F?],rfl⟩ CY rfl ?_
 rintro z hz;have hz1:=hz.1;have hz2:=hz.2.1;have hz3:=hz.2.2.1;refine J9 ?_;refine mC (fun h19=>?_) (fun h19=>?_)
 ·have hgd:=Qw hz.2.2.2.2 hz3 h19
  have ets:l.take (z.j+1)=l.take z.j++[z.L.getD z.j AC.AH]:=by rw [KQ h19,hgd]
  refine J8 ?_;refine JL LM ?_;refine JL (IA (xs:=z.L) rfl inferInstance Ca) ?_;refine K1 ?_;rintro _ _ ⟨b7,rfl,rfl⟩;refine Bj (Dz rfl rfl Ch (AC.one _)) ?_;refine J0 ?_;refine JL Zd ?_;refine BF (H':=G (l.take z.j)*(AB b o z.L s*(HP.AA b7 0 (Bo (z.L.getD z.j AC.AH))*R))) Cf ?_;refine Af (Hg rfl rfl (hf (l.take z.j) (z.L.getD z.j AC.AH) _ ⟨z.j+1,Ca,ets⟩)) rfl ?_;refine JR ?_;refine Ij ?_;refine mc (fun h29=>?_) (fun h29=>?_)
  ·skip
   have h29:P (z.L.getD z.j AC.AH)=false:=by simpa using h29
   refine J4 ?_;refine JL Zd ?_;refine JL LM ?_;refine BF (H':=AB b o z.L s*(HP.AA b7 0 (Bo (z.L.getD z.j AC.AH))*(G (l.take z.j++[z.L.getD z.j AC.AH])*R))) Cf ?_;refine Bj (rO (z.L.getD z.j AC.AH) (k:=z.i) rfl rfl Ca) ?_;refine JR ?_;refine J2 ?_;refine HI (AB b o (z.L.set z.i (z.L.getD z.j AC.AH)) s*(G (l.take z.j++[z.L.getD z.j AC.AH])*R)) ?_;refine J2 ?_;refine JJ ?_;refine J6 ?_;refine Es ?_
   first
    |exact BW ⟨z.i+1,z.j+1,z.L.set z.i (z.L.getD z.j AC.AH)⟩ (Gs.VP hz h19 h29) N2 CY VC
    |exact BW ⟨z.i,z.j+1,z.L⟩ (Gs.skip hz h19 h29) N2 CY aP
  have h29:P (z.L.getD z.j AC.AH)=true:=by simpa using h29
  refine HI (G (l.take z.j++[z.L.getD z.j AC.AH])*(AB b o z.L s*R)) ?_;refine KT ?_
  first
   |exact BW ⟨z.i+1,z.j+1,z.L.set z.i (z.L.getD z.j AC.AH)⟩ (Gs.VP hz h19 h29) N2 CY VC
   |exact BW ⟨z.i,z.j+1,z.L⟩ (Gs.skip hz h19 h29) N2 CY aP
 refine J6 ?_
 obtain rfl':z.j=l.length:=by omega
 refine Ao (H':=HP.AA b o (AD z.L++s)*(G (l.take z.j)*R)) OM ?_
 have hfl:(AD z.L++s).length=c*3:=by rw [E!,Bl,hz3];exact hc
 have hfi:z.L.take z.i=l.filter (fun x=> !P x):=by rw [hz.2.2.2.1,rfl',D?]
 refine J3 ?_;refine JL H5 ?_;refine Bj (Nk (sz:=3) (b:=b) (o:=o) (k:=z.i) rfl (EZ (k:=l.length) hs (by omega:z.i≤l.length) hs.2 rfl) (by rw [hfl];have:=hs.2;omega) rfl Cc) ?_;rintro _ _ ⟨L',k1,k2,k3,rfl⟩;refine J6 ?_;refine JL SY ?_;refine J4 ?_;exact mR [4] (HP.AA b o L'*(G l*R)) (hE:=by rw [rfl',D?];infer_instance) rfl rfl ⟨p,b,o,c,L'.drop (z.i*3),by rw [←hfi,B_,C? Ca];rfl,⟨hs.1,by rw [←hfi,B_,C? Ca];have:=hs.2;omega⟩,by rw [←hfi,B_,C? Ca,K?,k1,hfl];show z.i*3+_=c*3;have:=hs.2;omega,by congr 1;refine Mi ?_;refine NT (α:=A5) (k:=z.i) ?_;refine Eq.trans k2 ?_;rw [←hfi];exact My z.L z.i s Ca⟩
end
section
variable{B:World}
theorem RP{m:A5}{l:List A5}(h:m∈l):Ab B (AO Au l) m.a.b m.a.o m.fs:=by
 obtain⟨k,hk,rfl⟩:=G_ h;rw [OE Au l k AC.AH hk,A_,A! hk,D!];unfold Au;infer_instance
structure MI where
 ws:List BU
 la:Az
 lo:List A5
structure MI.Ok(z:MI)(ws0:List AX)(lo0:List A5)(P:Da→Bool)(pre:List A5):Prop where
 ws:∀w∈z.ws,w.ok
 mw:z.ws.map (·.w)=((pre.filter (fun m=>P m.Am)).map (·.Am)).foldl Lz ws0
 la:z.la.ok z.lo
 lo:z.lo=lo0++pre.filter (fun m=>P m.Am)
def H6(cb:Nat)(x:CC)(ws0:List AX)(lo0:List A5)(P:Da→Bool)(K:HP)(pre:List A5):HP:=
 HP.ex fun z:MI=>HP.pr (z.Ok ws0 lo0 P pre)*(AP cb {x with lv:=z.la.v z.lo.length}*(A1 cb z.ws*(z.la.h z.lo*K)))
set_option maxHeartbeats 2000000 in
theorem xA(cb AF bl bc:Nat)(x:CC)(ws0:List AX)(lo0 l:List A5)(lost:Da→Bool)(f:FuncId)(us:List Value)(G0:HP)[Ad Tryz.prog f](hw0:Dc AF ws0)(hlok:∀m∈l,m.ok)
  (hfr:∀m∈l,∀g∈m.Am.As,EJ ws0 g)(hlen:l.length+lo0.length<100000000)(hfl:∀m∈l,m.fs.length<100000000)
  (hf0:∀(x':CC) (m:A5) (R':HP),x'.BV=x.BV→m∈l→Fn Tryz.prog B f (Ll m::us) (AP cb x'*(G0*R')) (fun v H'=>v=.bool (lost m.Am)∧H'=AP cb x'*(G0*R'))):
  PZ B 162 [ptr bl 0,ptr bc 0] l (fun m=>lost m.Am) (H6 cb x ws0 lo0 lost (G0*(HP.AA bl 0 [CG f us]*(HP.AA bc 0 [ptr cb 0]*AO Au l)))):=by
 intro pre fm R hpre;obtain⟨mm,hmm,hpre⟩:=hpre;have hmem:fm∈l:=J? (i:=mm) (by rw [hpre];simp);have hsub:∀m∈pre,m∈l:=fun m hm=>J? (i:=mm) (by rw [hpre];simp [hm]);have hfm:=hlok fm hmem;have hfl2:=hfl fm hmem;have hrd:=RP (B:=B) hmem;refine mI Tryz.func162 ?_;unfold H6;refine LK ?_;rintro⟨ws,la,lo⟩ ⟨hz1,hz2,hz3,hz4⟩;dsimp only at hz1 hz2 hz3 hz4⊢
 obtain⟨wo1,wo2,_⟩:=MN (AF:=AF) ((pre.filter (fun m=>lost m.Am)).map (·.Am)) ws0 hw0 (fun p hp g hg=>by
  obtain⟨m,hm,rfl⟩:=E?.1 hp
  exact hfr m (hsub m (I!.1 hm).1) g hg)
 rw [←hz2]at wo1 wo2;refine Ao (H':=AP cb {x with lv:=la.v lo.length}*(A1 cb ws*(AB la.b la.o lo la.s*(G0*(HP.AA bl 0 [CG f us]*(HP.AA bc 0 [ptr cb 0]*(AO Au l*R))))))) Cf ?_;refine J2 ?_;refine Af (DP (l:=Bo fm) rfl rfl) rfl ?_;rintro _ _ ⟨b3,rfl,rfl⟩;refine J7 ?_;refine JL (Di (l:=Bo fm) rfl rfl) ?_;refine BF (H':=AP cb {x with lv:=la.v lo.length}*(G0*(A1 cb ws*(AB la.b la.o lo la.s*(HP.AA bl 0 [CG f us]*(HP.AA bc 0 [ptr cb 0]*(AO Au l*(HP.AA b3 0 (Bo fm)*R)))))))) Cf ?_;refine Af (Hg rfl rfl (hf0 _ fm _ rfl hmem)) rfl ?_;refine JR ?_;refine JL Ku ?_;refine J2 ?_;refine mc (fun h10=>?_) (fun h10=>?_)
 ·skip
  have h10:lost fm.Am=false:=by simpa using h10
  refine J7 ?_
  have hfe:(pre++[fm]).filter (fun m=>lost m.Am)=pre.filter (fun m=>lost m.Am):=by
   rw [C!,B? (by rw [h10];simp),E_,F?]
  exact mR [4] (H6 cb x ws0 lo0 lost (G0*(HP.AA bl 0 [CG f us]*(HP.AA bc 0 [ptr cb 0]*AO Au l))) (pre++[fm])*R) (hE:=⟨fun ww hw=>Fb (G:=HP.AA b3 0 (Bo fm)) (⟨ws,la,lo⟩:MI) ⟨hz1,by rw [hfe];exact hz2,hz3,by rw [hfe];exact hz4⟩ (by show _=HP.AA b3 0 (Bo fm)*(AP cb {x with lv:=la.v lo.length}*(A1 cb ws*(AB la.b la.o lo la.s*(G0*(HP.AA bl 0 [CG f us]*(HP.AA bc 0 [ptr cb 0]*AO Au l)))))*R);ac_rfl) ww hw⟩) rfl rfl ⟨by rw [h10];rfl,rfl⟩
 have h10:lost fm.Am=true:=by simpa using h10
 refine Ao (H':=AP cb {x with lv:=la.v lo.length}*(A1 cb ws*(AB la.b la.o lo la.s*(G0*(HP.AA bl 0 [CG f us]*(HP.AA bc 0 [ptr cb 0]*(AO Au l*(HP.AA b3 0 (Bo fm)*R)))))))) Cf ?_;refine J8 ?_;refine Gi ?_
 refine Bk (α:=Nat×List BU) (fun z=>[(1,ptr bl 0),(2,ptr bc 0),(3,ptr b3 0),(12,.slice fm.a.p fm.fs.length fm.a.c),(13,iN fm.fs.length),(14,iN z.1)]) (fun z=>AP cb {x with lv:=la.v lo.length}*(A1 cb z.2*(AB la.b la.o lo la.s*(G0*(HP.AA bl 0 [CG f us]*(HP.AA bc 0 [ptr cb 0]*(AO Au l*(HP.AA b3 0 (Bo fm)*R)))))))) (fun z=>z.1≤fm.fs.length∧(∀w∈z.2,w.ok)∧z.2.map (·.w)=((fm.fs.take z.1).map (·.f)).foldl HD (ws.map (·.w))) (fun z=>fm.fs.length-z.1) (0,ws) ⟨L! _,hz1,rfl⟩ Ur rfl ?_
 rintro⟨i,wz⟩ ⟨q1,q2,q3⟩;dsimp only at q1 q2 q3⊢
 obtain⟨ag1,ag2,_⟩:=S0 (AF:=AF) ((fm.fs.take i).map (·.f)) (ws.map (·.w)) wo1 (fun g hg=>by
  obtain⟨rr,hrr,rfl⟩:=E?.1 hg
  exact(hfr fm hmem rr.f YV).same wo2)
 rw [←q3]at ag1 ag2
 have hwl:wz.length=4:=by have:=ag1.len;simpa using this
 refine J6 ?_;refine mC (fun h15=>?_) (fun h15=>?_)
 ·skip
  have hgd:fm.fs.getD i AC.AH=fm.fs[i]:=by rw [A_,A! h15];rfl
  have hfo:EJ (wz.map (·.w)) (fm.fs.getD i AC.AH).f:=by
   rw [hgd];exact((hfr fm hmem _ Xf).same wo2).same ag2
  obtain⟨j,hst⟩:∃j:Nat,(fm.fs.getD i AC.AH).f.stream=(j:Int):=⟨_,(Int.toNat_of_nonneg hfo.1).symm⟩
  have hj:j<4:=by have:=hfo.2.1;omega
  have hgw:(wz.map (·.w)).getD j Aq=(wz.getD j AC.AH).w:=by
   simp only [A_,H!,A! Sk];rfl
  have hwj:=ag1.ok j hj;rw [hgw]at hwj;refine J6 ?_;refine JL (Gz rfl rfl hfm.1 Ca rfl) ?_;refine JL Wl ?_;refine Af TG rfl ?_;rintro _ _ ⟨b6,rfl,rfl⟩;refine Bj (Dz rfl rfl Ch (AC.one _)) ?_;refine E9 ?_;refine JL (Di (l:=AJ (fm.fs.getD i AC.AH)) rfl rfl) ?_;refine BF (H':=HP.AA cb (0+43+j*10) (Bd (wz.getD j AC.AH))*(Bi (wz.getD j AC.AH)*(B6 cb wz j*(AP cb {x with lv:=la.v lo.length}*(HP.AA b6 0 (AJ (fm.fs.getD i AC.AH))*(AB la.b la.o lo la.s*(G0*(HP.AA bl 0 [CG f us]*(HP.AA bc 0 [ptr cb 0]*(AO Au l*(HP.AA b3 0 (Bo fm)*R))))))))))) (by rw [Im cb wz j Ca];show HP.AA b6 0 (AJ _)*_=_;ac_rfl) ?_;refine mE rfl (wU cb j AF (wz.getD j AC.AH) (fm.fs.getD i AC.AH) _ hst hj (q2 _ (Il Ca)) hwj (fun hk=>by have:=hfo.2.2 hk;rw [hst,A?,hgw]at this;exact this)) ?_;rintro _ _ ⟨w2,hw2,hw2e,rfl⟩;refine HZ ?_;refine Bf (AP cb {x with lv:=la.v lo.length}*(A1 cb (wz.set j w2)*(AB la.b la.o lo la.s*(G0*(HP.AA bl 0 [CG f us]*(HP.AA bc 0 [ptr cb 0]*(AO Au l*(HP.AA b3 0 (Bo fm)*R)))))))) (hE:=?_) ?_
  ·rw [KW cb wz j w2 Ca];exact⟨fun ww hw=>Sat.right (A:=HP.AA b6 0 (AJ (fm.fs.getD i AC.AH))) (J! Cn hw)⟩
  exact BW (i+1,wz.set j w2) ⟨Ca,fun a ha=>KC (P:=BU.ok) q2 hw2 ha,by
   show(wz.set j w2).map (·.w)=((fm.fs.take (i+1)).map (·.f)).foldl HD (ws.map (·.w))
   rw [K!,hw2e,F! h15,I?,F_,←q3]
   show _=HD (wz.map (·.w)) (fm.fs[i]).f
   rw [←hgd]
   unfold HD
   rw [hst,A?,hgw]⟩ Wp Ur rfl
 refine J6 ?_
 obtain rfl':i=fm.fs.length:=by omega
 rw [rfl',D?]at q3;refine Ao (H':=AB la.b la.o lo la.s*(AP cb {x with lv:=la.v lo.length}*(A1 cb wz*(G0*(HP.AA bl 0 [CG f us]*(HP.AA bc 0 [ptr cb 0]*(AO Au l*(HP.AA b3 0 (Bo fm)*R)))))))) Cf ?_
 have hlol:lo.length≤lo0.length+l.length:=by
  rw [hz4,E!];have h1:=List.length_filter_le (fun m:A5=>lost m.Am) pre;have h2:=congrArg List.length hpre;rw [E!,B_]at h2;omega
 refine D5 (AP cb {x with lv:=la.v lo.length}*(A1 cb wz*(G0*(HP.AA bl 0 [CG f us]*(HP.AA bc 0 [ptr cb 0]*(AO Au l*(HP.AA b3 0 (Bo fm)*R))))))) 10 11 EI rfl Cb ?_;refine Ji ?_;refine JT 5 rfl (Di (l:=Bo fm) rfl rfl) ?_;refine An 6 Cb rfl rfl (GZ (cs:=Bo fm) rfl Cp rfl rfl) ?_;rintro _ _ ⟨b28,rfl,rfl⟩;refine BA ?_;refine Ea (H':=AB la.b la.o lo la.s*(HP.AA b28 0 (AD [fm])*(AP cb {x with lv:=la.v lo.length}*(A1 cb wz*(G0*(HP.AA bl 0 [CG f us]*(HP.AA bc 0 [ptr cb 0]*(AO Au l*(HP.AA b3 0 (Bo fm)*R))))))))) (by show HP.AA b28 0 _*_=_;rw [show AD [fm]=Bo fm from F? _];ac_rfl) ?_;refine An 7 Cb rfl rfl (CS (ys:=[fm]) (bb:=b28) (oo:=0) (cc:=1) rfl hz3.1 hz3.2 rfl CB inferInstance rfl Cm Ca) ?_;rintro _ _ ⟨p29,b29,o29,c29,s29,rfl,hs29,hc29,rfl⟩;refine BA ?_;refine Jn 8 ?_;refine Pe ?_;refine DF ?_;refine J7 ?_
 have hfe:(pre++[fm]).filter (fun m=>lost m.Am)=pre.filter (fun m=>lost m.Am)++[fm]:=by
  rw [C!,C_ (p:=fun m:A5=>lost m.Am) (a:=fm) h10,E_]
 exact mR [4] (H6 cb x ws0 lo0 lost (G0*(HP.AA bl 0 [CG f us]*(HP.AA bc 0 [ptr cb 0]*AO Au l))) (pre++[fm])*R) (hE:=⟨fun ww hw=>Fb (G:=HP.AA b3 0 (Bo fm)*HP.AA b28 0 (AD [fm])) (⟨wz,⟨p29,b29,o29,c29,s29⟩,lo++[fm]⟩:MI) ⟨q2,by show wz.map (·.w)=_;rw [hfe,I?,F_,←hz2,q3];rfl,⟨hs29,hc29⟩,by show lo++[fm]=_;rw [hfe,hz4,D_]⟩ (by show _=HP.AA b3 0 (Bo fm)*HP.AA b28 0 (AD [fm])*(AP cb {x with lv:=.slice p29 (lo++[fm]).length c29}*(A1 cb wz*(AB b29 o29 (lo++[fm]) s29*(G0*(HP.AA bl 0 [CG f us]*(HP.AA bc 0 [ptr cb 0]*AO Au l)))))*R);ac_rfl) ww hw⟩) rfl rfl ⟨by rw [h10];rfl,rfl⟩
theorem A2{P:Program}{n:Nat}{o:Oper}{E:Ay}{H:HP}{v v':Value}(h:Aa P B n o E H v)(e:v=v'):Aa P B n o E H v':=e▸h
theorem nG{cb:Nat}{x:CC}{ws0:List AX}{lo0 pre:List A5}{P:Da→Bool}{K R:HP}{w:World}(h:Sat B (H6 cb x ws0 lo0 P K pre*R) w):Sat B (K*R) w:=by
 unfold H6 at h;rw [HP.Gb]at h;obtain⟨z,h⟩:=Sat.ex.1 h;rw [HP.assoc]at h;have h2:=(Sat.pr.1 h).2;refine Sat.right (A:=AP cb {x with lv:=z.la.v z.lo.length}*(A1 cb z.ws*z.la.h z.lo)) ?_;refine J! ?_ h2;congr 1;ac_rfl
theorem SZ{P:Program}{n:Nat}{E:Ay}{D:Br}{ops:Array Oper}{Q:Exit→Act→World→Prop}{R0:HP}{last fuel:Nat}{ls:Array Bool}{α:Type}{p:α→Prop}{A:α→HP}{R:HP}(h:∀z,p z→WA P B ops Q R0 last fuel ls n E D (A z*R)):WA P B ops Q R0 last fuel ls n E D ((HP.ex fun z=>HP.pr (p z)*A z)*R):=by
 intro a w h1 h2 h3;rw [HP.Gb]at h3;obtain⟨z,h4⟩:=Sat.ex.1 h3;rw [HP.assoc]at h4;obtain⟨hp,h5⟩:=Sat.pr.1 h4;exact h z hp a w h1 h2 h5
theorem RL{P:Program}{n:Nat}{E:Ay}{D:Br}{ops:Array Oper}{Q:Exit→Act→World→Prop}{R0 H:HP}{last fuel:Nat}{ls:Array Bool}(H':HP)[hE:Bm B H H'](h:WA P B ops Q R0 last fuel ls n E D H'):WA P B ops Q R0 last fuel ls n E D H:=
 fun a w h1 h2 h3=>h a w h1 h2 (hE.get w h3)
theorem Ot{α:Type}(f:α→HP)(P:α→Bool):∀l:List α,AO f l=AO f (l.filter (fun x=> !P x))*AO f (l.filter P)
 |[]=>by simp [En]
 |a::l=>by
  rw [FM,Ot f P l];cases h:P a
  ·rw [C_ Pn,B? (by rw [h];simp),FM];ac_rfl
  ·rw [B? (by rw [h];simp),C_ h,FM];ac_rfl
theorem QC(l:List A5)(P:Da→Bool):(l.filter (fun m=>P m.Am)).map (·.Am)=(l.map (·.Am)).filter P:=by
 induction l with
 |nil=>rfl
 |cons a l ih=>cases h:P a.Am<;>simp [h,ih]
theorem Z'{t:Nat}{m:Ac}(hi:AZ t m.s):∀a∈m.fl,∀g∈a.Am.As,EJ m.s.ws g:=fun a ha=>(hi.Am a.Am Qu).fr
theorem Zs{t:Nat}{m:Ac}(hi:AZ t m.s):∀a∈m.lo,∀g∈a.Am.As,EJ m.s.ws g:=fun a ha=>(hi.Am a.Am Tv).fr
theorem Xv{t:Nat}{m:Ac}(hi:AZ t m.s):∀a∈m.fl,a.fs.length<100000000:=fun a ha=>by
 have:=(hi.Am a.Am Qu).len
 have e:a.Am.As.length=a.fs.length:=J_ _;omega
theorem Tr{t:Nat}{m:Ac}(hi:AZ t m.s)(ht:t<1000000):m.fl.length+m.lo.length<100000000:=by
 have h1:=hi.cnt;have h2:=hi.nx;have e1:m.s.BG.length=m.fl.length:=J_ _;have e2:m.s.lost.length=m.lo.length:=J_ _;omega
set_option maxHeartbeats 2000000 in
theorem Z7(cb t:Nat)(m:Ac)(lost:Da→Bool)(f:FuncId)(us:List Value)(G0 R:HP)[Ad Tryz.prog f](hm:m.ok)(hi:AZ t m.s)(ht:t<1000000)
  (hf0:∀(x':CC) (a:A5) (R':HP),x'.BV=m.x.BV→a∈m.fl→Fn Tryz.prog B f (Ll a::us) (AP cb x'*(G0*R')) (fun v H'=>v=.bool (lost a.Am)∧H'=AP cb x'*(G0*R'))):
  Fn Tryz.prog B 133 [ptr cb 0,CG f us] (AY cb m*(G0*R)) (fun _ H'=>∃m':Ac,m'.ok∧m'.s=m.s.Fm lost∧H'=AY cb m'*(G0*R)):=by
 refine mI Tryz.func133 ?_;have hlen:=Tr hi ht
 have ex:({m.x with lv:=m.la.v m.lo.length}:CC)=m.x:=by rw [←hm.lv]
 refine Jp ?_;rintro _ _ ⟨b2,rfl,rfl⟩;refine KL ?_;rintro _ _ ⟨b3,rfl,rfl⟩;refine J2 ?_;refine Ao (H':=HP.AA b3 0 [CG f us]*(HP.AA b2 0 [ptr cb 0]*(AP cb m.x*(AS m.x.gq m.ga m.AR*(A1 cb m.ws*(BS cb m.rs*(AB m.fa.b m.fa.o m.fl m.fa.s*(AB m.la.b m.la.o m.lo m.la.s*(AO Au m.fl*(AO Au m.lo*(G0*R))))))))))) Rm ?_;refine D5 (HP.AA b3 0 [CG f us]*HP.AA b2 0 [ptr cb 0]) 9 10 EI rfl Cb ?_;refine Jd 0 ?_;refine Jd 1 ?_;refine IZ ?_;refine JT 5 rfl F0 ?_;refine EL 4 Cb rfl rfl Qb UD ?_;refine RL (H6 cb m.x m.s.ws m.lo lost (G0*(HP.AA b3 0 [CG f us]*(HP.AA b2 0 [ptr cb 0]*AO Au m.fl))) []*(AB m.fa.b m.fa.o m.fl m.fa.s*(AS m.x.gq m.ga m.AR*(BS cb m.rs*(AO Au m.lo*R))))) (hE:=⟨fun ww hw=>?_⟩) ?_
 ·refine Hk (⟨m.ws,m.la,m.lo⟩:MI) ⟨hm.ws,rfl,hm.la,Cg⟩ ?_ ww hw;dsimp only;rw [ex];unfold Az.h;ac_rfl
 refine An 6 Cb rfl rfl (BJ rfl (RD m.fl m.fa.p m.fa.b m.fa.o m.fa.c m.fa.s _ [ptr b3 0,ptr b2 0] (fun a=>lost a.Am) (H6 cb m.x m.s.ws m.lo lost (G0*(HP.AA b3 0 [CG f us]*(HP.AA b2 0 [ptr cb 0]*AO Au m.fl)))) (AS m.x.gq m.ga m.AR*(BS cb m.rs*(AO Au m.lo*R))) hm.fa.1 hm.fa.2 Ca (xA cb m.x.AF b3 b2 m.x m.s.ws m.lo m.fl lost f us G0 hi.ws hm.fl (Z' hi) Ca (Xv hi) hf0))) ?_;rintro _ _ ⟨p10,b10,o10,c10,s10,rfl,hs10,hc10,rfl⟩;refine⟨.inr ⟨fun ww hw=>Bm.get (B:=B) (H:=(G0*(HP.AA b3 0 [CG f us]*(HP.AA b2 0 [ptr cb 0]*AO Au m.fl)))*(AB b10 o10 (m.fl.filter (fun x=> !lost x.Am)) s10*(AS m.x.gq m.ga m.AR*(BS cb m.rs*(AO Au m.lo*R))))) ww (nG (J! Cn hw))⟩,?_⟩;refine Ea (H':=H6 cb m.x m.s.ws m.lo lost (G0*(HP.AA b3 0 [CG f us]*(HP.AA b2 0 [ptr cb 0]*AO Au m.fl))) m.fl*(AB b10 o10 (m.fl.filter (fun x=> !lost x.Am)) s10*(AS m.x.gq m.ga m.AR*(BS cb m.rs*(AO Au m.lo*R))))) Cf ?_;unfold H6;refine SZ ?_;rintro⟨ws,la,lo⟩ ⟨hz1,hz2,hz3,hz4⟩;dsimp only at hz1 hz2 hz3 hz4⊢;refine Jn 7 ?_;refine Jf 8 ?_;refine Db 9 Cb rfl (EY (v:=.slice p10 (m.fl.filter (fun x=> !lost x.Am)).length c10) rfl rfl rfl trivial) ?_;refine DF ?_
 obtain⟨m2,hm2⟩:∃m2:Ac,m2=⟨{m.x with lv:=la.v lo.length,fv:=.slice p10 (m.fl.filter (fun x=> !lost x.Am)).length c10},m.AR,m.ga,ws,m.rs,m.fl.filter (fun x=> !lost x.Am),lo,⟨p10,b10,o10,c10,s10⟩,la⟩:=Be
 refine Lg (ts:=[]) (AY cb m2*(G0*R)) (hE:=?_) rfl rfl ⟨m2,?_,?_,rfl⟩
 ·rw [hm2];refine⟨fun ww hw=>?_⟩;refine Sat.right (A:=HP.AA b2 0 [ptr cb 0]*HP.AA b3 0 [CG f us]) ?_;refine J! ?_ hw;congr 1;show _=HP.AA b2 0 [ptr cb 0]*HP.AA b3 0 [CG f us]*(AP cb {m.x with lv:=la.v lo.length,fv:=.slice p10 (m.fl.filter (fun x=> !lost x.Am)).length c10}*(AS m.x.gq m.ga m.AR*(A1 cb ws*(BS cb m.rs*(AB b10 o10 (m.fl.filter (fun x=> !lost x.Am)) s10*(AB la.b la.o lo la.s*(AO Au (m.fl.filter (fun x=> !lost x.Am))*AO Au lo))))))*(G0*R));rw [hz4,JE,Ot Au (fun a:A5=>lost a.Am) m.fl];unfold Az.h;ac_rfl
 ·rw [hm2]
  exact⟨hm.g,hz1,hm.rs,fun a ha=>hm.fl a (I!.1 ha).1,fun a ha=>by
   rw [hz4]at ha
   rcases List.mem_append.1 ha with h|h
   ·exact hm.lo a h
   ·exact hm.fl a (I!.1 h).1,⟨hs10,hc10⟩,hz3,rfl,rfl⟩
 ·rw [hm2];unfold AG.Fm Ac.s;dsimp only;have e1:=QC m.fl lost;have e2:=QC m.fl (fun p=> !lost p);rw [e1]at hz2;rw [hz2,e2,hz4,I?,e1];rfl
theorem qK(cb:Nat)(x:CC)(a:A5)(R:HP):
  Fn Tryz.prog B 134 [Ll a] (AP cb x*(HP.BC*R)) (fun v H'=>v=.bool ((fun _:Da=>true) a.Am)∧H'=AP cb x*(HP.BC*R)):=by
 refine mI Tryz.func134 ?_;refine J2 ?_;refine Af (DP (l:=Bo a) rfl rfl) rfl ?_;rintro _ _ ⟨b1,rfl,rfl⟩;refine J9 ?_;exact mR [2] (AP cb x*(HP.BC*R)) rfl rfl Ba
theorem AZ.now{t:Nat}{c:AG}(h:AZ t c):AZ (t+1) {c with now:=c.now+1}:=
 {h.mono ER with nw:=by have:=h.nw;show c.now+1≤t+1;omega,Am:=fun p hp=>let g:=h.Am p hp;⟨g.num,Nat.le_succ_of_le g.at_,g.len,g.fr⟩}
theorem kO{l:List A5}{P:Da→Bool}{i:Nat}(hi:i<l.length)(h:P (l.getD i AC.AH).Am=true):(l.map (·.Am)).any P=true:=by
 rw [List.any_eq_true];exact⟨_,E?.2 ⟨l.getD i AC.AH,Il hi,rfl⟩,h⟩
theorem zM{l:List A5}{P:Da→Bool}(h:∀j,j<l.length→P (l.getD j AC.AH).Am=false):(l.map (·.Am)).any P=false:=by
 rw [List.any_eq_false];intro p hp;obtain⟨a,ha,rfl⟩:=E?.1 hp;obtain⟨j,hj,rfl⟩:=G_ ha
 have:=h j hj
 rw [A_,A! hj,D!]at this;rw [this];simp
set_option maxHeartbeats 2000000 in
theorem iS(cb t:Nat)(m:Ac)(R:HP)(hm:m.ok)(hi:AZ t m.s)(ht:t<900000):
  Fn Tryz.prog B 91 [ptr cb 0] (AY cb m*R) (fun _ H'=>∃m':Ac,m'.ok∧m'.s=m.s.tick∧H'=AY cb m'*R):=by
 refine mI Tryz.func91 ?_;refine Ao (H':=AP cb m.x*(AS m.x.gq m.ga m.AR*(A1 cb m.ws*(BS cb m.rs*(AB m.fa.b m.fa.o m.fl m.fa.s*(AB m.la.b m.la.o m.lo m.la.s*(AO Au m.fl*(AO Au m.lo*R)))))))) Rm ?_;have hcnt:=Tr hi Ca;have hnw:m.x.now≤t:=hi.nw;have hwt:m.x.waits≤8:=hi.wt;have hpw:2^m.x.waits≤2^8:=Nat.pow_le_pow_right Ca hwt
 obtain⟨m1,hm1⟩:∃m1:Ac,m1=m.A3 {m.x with now:=m.x.now+1}:=Be
 have hok1:m1.ok:=by rw [hm1];exact⟨hm.g,hm.ws,hm.rs,hm.fl,hm.lo,hm.fa,hm.la,hm.fv,hm.lv⟩
 have hs1:m1.s={m.s with now:=m.s.now+1}:=by rw [hm1];rfl
 have hi1:AZ (t+1) m1.s:=by rw [hs1];exact hi.now
 have hH1:∀R':HP,AY cb m1*R'=AP cb {m.x with now:=m.x.now+1}*(AS m.x.gq m.ga m.AR*(A1 cb m.ws*(BS cb m.rs*(AB m.fa.b m.fa.o m.fl m.fa.s*(AB m.la.b m.la.o m.lo m.la.s*(AO Au m.fl*(AO Au m.lo*R'))))))):=by
  intro R';rw [hm1,DL];show AP cb _*(AS m.x.gq m.ga m.AR*(A1 cb m.ws*(BS cb m.rs*(C9 m*R'))))=_;unfold C9 Az.h;ac_rfl
 refine J6 ?_;refine JL Qj ?_;refine B8 ?_;refine JL Qb ?_;refine Jb ?_;refine Bk (α:=Nat) (fun i=>[(0,ptr cb 0),(14,.slice m.fa.p m.fl.length m.fa.c),(15,iN m.fl.length),(16,iN i)]) (fun i=>AP cb {m.x with now:=m.x.now+1}*(AS m.x.gq m.ga m.AR*(A1 cb m.ws*(BS cb m.rs*(AB m.fa.b m.fa.o m.fl m.fa.s*(AB m.la.b m.la.o m.lo m.la.s*(AO Au m.fl*(AO Au m.lo*R)))))))) (fun i=>i≤m.fl.length∧∀j,j<i→decide ((m.fl.getD j AC.AH).Am.at_+Lq m.s.waits≤m.s.now+1)=false) (fun i=>m.fl.length-i) 0 ⟨L! _,(fun j h=>absurd h OC)⟩ CY rfl ?_;rintro i ⟨hi1',hi2'⟩;refine J6 ?_;refine mC (fun h17=>?_) (fun h17=>?_)
 ·skip
  have hat:(m.fl.getD i AC.AH).at_≤t:=by
   have hmem:m.fl.getD i AC.AH∈m.fl:=Il h17
   have:=(hi.Am _ (.inl (E?.2 ⟨_,hmem,rfl⟩))).at_
   exact Nat.le_trans this hi.nw
  refine J6 ?_;refine JL (Gz rfl rfl hm.fa.1 Ca rfl) ?_;refine JL (A2 (v':=Ll (m.fl.getD i AC.AH)) (IA (xs:=m.fl) rfl inferInstance Ca) rfl) ?_;refine K1 ?_;rintro _ _ ⟨b3,rfl,rfl⟩;refine Bj (Dz rfl rfl Ch (AC.one (m.fl.getD i AC.AH))) ?_;refine Fs ?_;refine mA 14 14 ?_;refine IV ?_;refine Jm 2 ?_;refine Jn 3 ?_;refine I2 ?_;refine JT 6 rfl (Pc (i:=4) (j:=m.x.waits) rfl rfl Ca) ?_;refine JT 7 rfl (Rv (j:=32) rfl rfl) ?_;refine JT 8 rfl JB ?_;refine PV ?_;refine JT 13 rfl Kc ?_;refine Ei ?_;refine mC (fun hexp=>?_) (fun hexp=>?_)
  ·skip
   have hexp:(m.fl.getD i AC.AH).at_+Lq m.s.waits≤m.s.now+1:=by
    have e1:4*2^m.x.waits%18446744073709551616=4*2^m.x.waits:=L_ Ca;have h0:(m.fl.getD i AC.AH).at_+min (4*2^m.x.waits%18446744073709551616) 32≤m.x.now+1:=hexp;rw [e1]at h0;exact h0
   have hany:m.s.BG.any (fun p=>decide (p.at_+Lq m.s.waits≤m.s.now+1))=true:=kO h17 (decide_eq_true hexp);refine J3 ?_;refine pZ (AY cb m1*(HP.BC*R)) (hE:=by rw [HP.BH,hH1 R];infer_instance) ?_;refine mE rfl (Z7 cb (t+1) m1 (fun _=>true) _ [] HP.BC R hok1 hi1 Ca (fun x a R2 _ _=>qK cb x a R2)) ?_;rintro _ _ ⟨m2,hok2,hs2,rfl⟩;refine J3 ?_;refine Ao (H':=AP cb m2.x*(AS m2.x.gq m2.ga m2.AR*(A1 cb m2.ws*(BS cb m2.rs*(C9 m2*R))))) (by rw [HP.BH,DL]) ?_
   have hw2:m2.x.waits=m.x.waits:=by
    have h1:m2.s.waits=m1.s.waits:=by rw [hs2];rfl
    have h2:m1.s.waits=m.s.waits:=by rw [hs1]
    exact h1.trans h2
   refine J6 ?_;refine JL Qj ?_;refine JL (Rv (j:=8) rfl rfl) ?_;refine B8 ?_
   have ewr:m.s.tick={m2.s with waits:=min (m2.s.waits+1) 8}:=by
    unfold AG.tick;rw [if_pos hany,hs2,hs1];rfl
   refine mR [] (AY cb (m2.A3 {m2.x with waits:=min (m2.x.waits+1) 8})*R) (hE:=by rw [DL];exact⟨fun ww hw=>hw⟩) rfl rfl ⟨m2.A3 {m2.x with waits:=min (m2.x.waits+1) 8},⟨hok2.g,hok2.ws,hok2.rs,hok2.fl,hok2.lo,hok2.fa,hok2.la,hok2.fv,hok2.lv⟩,Cq,rfl⟩
  have hexp:¬((m.fl.getD i AC.AH).at_+Lq m.s.waits≤m.s.now+1):=by
   have e1:4*2^m.x.waits%18446744073709551616=4*2^m.x.waits:=L_ Ca;have h0:¬(m.fl.getD i AC.AH).at_+min (4*2^m.x.waits%18446744073709551616) 32≤m.x.now+1:=hexp;rw [e1]at h0;exact h0
  refine HZ ?_;refine Bf (AP cb {m.x with now:=m.x.now+1}*(AS m.x.gq m.ga m.AR*(A1 cb m.ws*(BS cb m.rs*(AB m.fa.b m.fa.o m.fl m.fa.s*(AB m.la.b m.la.o m.lo m.la.s*(AO Au m.fl*(AO Au m.lo*R)))))))) ?_;exact BW (i+1) ⟨Ca,fun j hj=>by rcases N_ j i with h|h;exact hi2' j h;obtain rfl:j=i:=Ca;exact decide_eq_false hexp⟩ Ca CY rfl
 refine J4 ?_;have hno:m.s.BG.any (fun p=>decide (p.at_+Lq m.s.waits≤m.s.now+1))=false:=zM (fun j hj=>hi2' j Ca)
 have ewr:m.s.tick=m1.s:=by
  unfold AG.tick;rw [if_neg (by rw [hno];simp),hs1]
 exact Lg (ts:=[]) (AY cb m1*R) (hE:=by rw [hH1 R];infer_instance) rfl rfl ⟨m1,hok1,ewr.symm,rfl⟩
end
end Go.Proofs.YtgfdlpcdjklcoaaGreatDoor
