/- A part of this proof: steps of the program, plain facts; no condition. -/
import Derived.Test.YtgfdlpcdjklcoaaGreatDoorL6
namespace Go.Proofs.YtgfdlpcdjklcoaaGreatDoor
open Go Go.RowKit
open _root_.List renaming getD_eq_getElem?_getD→J!,getElem?_eq_getElem→J?,length_take→K!,set_eq_take_append_cons_drop→K?,filter_cons_of_neg→L_,filter_cons_of_pos→L!,filter_append→L?,append_assoc→M!,take_length→N_,filter_nil→N!,length_append→N?,mem_map→O_,foldl_append→O!,take_succ_eq_append_getElem→O?,append_nil→P_,getElem_of_mem→P!,drop_drop→Q!,getElem?_map→Q?,mem_filter→R?,map_append→S_,length_map→S!,mem_of_mem_take→T_,getElem?_drop→T!,map_set→T?,length_drop→U_,foldl_cons→V_,foldl_nil→V!,take_zero→V?,drop→W?
open _root_.Int renaming toNat_natCast→K_
open _root_.Nat renaming min_eq_left→M_,mod_eq_of_lt→U!,zero_le→U?,add_zero→W_,lt_or_ge→W!
open _root_.Option renaming getD_some→M?
open _root_.Bool renaming not_false→P?,and_false→Q_,not_true→R_,and_true→R!
open _root_.Eq renaming mp→S?
set_option linter.unusedVariables false
set_option maxRecDepth 20000
set_option linter.unusedSimpArgs false
section
def AO{α:Type}(f:α→HP)(l:List α):HP:=l.foldr (fun a H=>f a*H) HP.BD
theorem E9{α:Type}(f:α→HP):AO f []=HP.BD:=rfl
theorem Fc{α:Type}(f:α→HP)(a:α)(l:List α):AO f (a::l)=f a*AO f l:=rfl
theorem Ji{α:Type}(f:α→HP)(l m:List α):AO f (l++m)=AO f l*AO f m:=by
 induction l with
 |nil=>rw [List.nil_append,E9,HP.BI]
 |cons a l ih=>rw [List.cons_append,Fc,Fc,ih,HP.assoc]
def Iq{α:Type}(f:α→HP)(l:List α)(k:Nat):HP:=AO f (l.take k)*AO f (l.drop (k+1))
theorem Lj{α:Type}(f:α→HP)(l:List α)(k:Nat)(y:α)(hk:k<l.length):AO f (l.set k y)=f y*Iq f l k:=by
 rw [K?,if_pos hk,Ji,Fc,Iq,HP.CI]
theorem M7{α:Type}(l:List α)(k:Nat)(d:α)(hk:k<l.length):l.set k (l.getD k d)=l:=by
 rw [J!,J? hk,M?,List.set_getElem_self]
theorem Oa{α:Type}(f:α→HP)(l:List α)(k:Nat)(d:α)(hk:k<l.length):AO f l=f (l.getD k d)*Iq f l k:=by
 conv=>lhs;rw [←M7 l k d hk]
 exact Lj f l k _ hk
def Ix{α:Type}[AC α](b o:Nat)(xs:List α)(s:List Value)(k:Nat):HP:=HP.AA b o (AD (xs.take k))*HP.AA b (o+(k+1)*AC.sz α) (AD (xs.drop (k+1))++s)
theorem MO{α:Type}[AC α](b o:Nat)(xs:List α)(s:List Value)(k:Nat)(y:α)(hk:k<xs.length):AB b o (xs.set k y) s=HP.AA b (o+k*AC.sz α) (AC.An y)*Ix b o xs s k:=by
 unfold AB Ix;rw [K?,if_pos hk,Er,M!,HP.FM]
 have e1:(AD (xs.take k)).length=k*AC.sz α:=by rw [Bp,K!,M_ Ca]
 have e2:AD (y::xs.drop (k+1))++s=AC.An y++(AD (xs.drop (k+1))++s):=by simp [AD]
 rw [e2,HP.FM,e1,AC.len,HP.CI,Nat.add_assoc o,←Nat.succ_mul]
theorem NN{α:Type}[AC α](b o:Nat)(xs:List α)(s:List Value)(k:Nat)(d:α)(hk:k<xs.length):AB b o xs s=HP.AA b (o+k*AC.sz α) (AC.An (xs.getD k d))*Ix b o xs s k:=by
 conv=>lhs;rw [←M7 xs k d hk]
 exact MO b o xs s k _ hk
def DZ(n:Nat):Value:=if n=0 then .nilIface else EM n
theorem Qr{n:Nat}(h:n≠0):DZ n=EM n:=by unfold DZ;rw [if_neg h]
section
variable{B:World}{n:Nat}{E:A2}{H:HP}{d:Option Tmp}{T' ty:TypeId}{pos:String}{af:Array Edge}{g:Option (Nat×Bool)}{x y:Operand}
theorem zM{t k:Nat}(hx:ev E (.tmp t)=some (DZ k)):Aa Tryz.prog B n ⟨d,.binOp .neq 106 (.tmp t) (.const .nilIface) T',ty,pos,af,g⟩ E H (.bool (decide (k≠0))):=by
 by_cases h:k=0
 ·subst h;exact J0 (u:=.nilIface) (v:=.nilIface) (r:=.bool false) hx rfl (fun w=>by kernel_rfl) (fun w=>by kernel_rfl)
 ·rw [Qr h]at hx;rw [show decide (k≠0)=true by simpa using h];exact J0 (u:=EM k) (v:=.nilIface) (r:=.bool true) hx rfl (fun w=>by kernel_rfl) (fun w=>by kernel_rfl)
end
structure A1 where
 p:Option Addr
 b:Nat
 o:Nat
 c:Nat
 s:List Value
def A1.ok{α:Type}[AC α](a:A1)(xs:List α):Prop:=Sl a.p a.b a.o xs.length a.c∧xs.length*AC.sz α+a.s.length=a.c*AC.sz α
abbrev A1.v(a:A1)(k:Nat):Value:=.slice a.p k a.c
abbrev A1.h{α:Type}[AC α](a:A1)(xs:List α):HP:=AB a.b a.o xs a.s
structure BY where
 w:AY
 a:A1
 sq:Nat
 sa:By
 cq:Nat
 ca:By
@[reducible] def Bg(m:BY):List Value:=[.slice m.a.p m.w.b.length m.a.c,ptr m.sq 0,ptr m.cq 0,uN m.w.high,.bool m.w.finished,.bool m.w.ending,.bool m.w.ended,.bool m.w.given,uN m.w.code,.bool m.w.DE]
@[reducible] instance:AC BY:=⟨10,Bg,⟨As,⟨none,0,0,0,[]⟩,0,DC,0,DC⟩,fun _=>rfl,fun _ v h=>by
 simp at h;rcases h with rfl|rfl|rfl|rfl|rfl|rfl|rfl|rfl|rfl|rfl<;>rfl⟩
def Bl(m:BY):HP:=AB m.a.b m.a.o m.w.b m.a.s*(AS m.sq m.sa m.w.Ae*AS m.cq m.ca m.w.AE)
def BY.ok(m:BY):Prop:=m.a.ok m.w.b∧m.sa.ok m.w.Ae∧m.ca.ok m.w.AE
def A4(cb:Nat)(ws:List BY):HP:=AB cb (0+43) ws []*AO Bl ws
def B'(cb:Nat)(ws:List BY)(k:Nat):HP:=Ix cb (0+43) ws [] k*Iq Bl ws k
theorem JA(cb:Nat)(ws:List BY)(k:Nat)(hk:k<ws.length):A4 cb ws=HP.AA cb (0+43+k*10) (Bg (ws.getD k AC.AH))*(Bl (ws.getD k AC.AH)*B' cb ws k):=by
 unfold A4 B';rw [NN cb (0+43) ws [] k AC.AH hk,Oa Bl ws k AC.AH hk];show HP.AA cb (0+43+k*10) (Bg (ws.getD k AC.AH))*_*_=_;ac_rfl
theorem Kl(cb:Nat)(ws:List BY)(k:Nat)(y:BY)(hk:k<ws.length):A4 cb (ws.set k y)=HP.AA cb (0+43+k*10) (Bg y)*(Bl y*B' cb ws k):=by
 unfold A4 B';rw [MO cb (0+43) ws [] k y hk,Lj Bl ws k y hk];show HP.AA cb (0+43+k*10) (Bg y)*_*_=_;ac_rfl
structure Df where
 r:Bf
 a:A1
 cq:Nat
 ca:By
@[reducible] def DY(m:Df):List Value:=[.slice m.a.p m.r.b.length m.a.c,ptr m.cq 0,uN m.r.high,uN m.r.end_,.bool m.r.ended,.bool m.r.given,uN m.r.code,uN m.r.read,iN m.r.state]
@[reducible] instance:AC Df:=⟨9,DY,⟨FQ,⟨none,0,0,0,[]⟩,0,DC⟩,fun _=>rfl,fun _ v h=>by
 simp at h;rcases h with rfl|rfl|rfl|rfl|rfl|rfl|rfl|rfl|rfl<;>rfl⟩
def CE(m:Df):HP:=AB m.a.b m.a.o m.r.b m.a.s*AS m.cq m.ca m.r.AE
def Df.ok(m:Df):Prop:=m.a.ok m.r.b∧m.ca.ok m.r.AE
def BU(cb:Nat)(rs:List Df):HP:=AB cb (0+83) rs []*AO CE rs
def EP(cb:Nat)(rs:List Df)(k:Nat):HP:=Ix cb (0+83) rs [] k*Iq CE rs k
theorem fU(cb:Nat)(rs:List Df)(k:Nat)(hk:k<rs.length):BU cb rs=HP.AA cb (0+83+k*9) (DY (rs.getD k AC.AH))*(CE (rs.getD k AC.AH)*EP cb rs k):=by
 unfold BU EP;rw [NN cb (0+83) rs [] k AC.AH hk,Oa CE rs k AC.AH hk];show HP.AA cb (0+83+k*9) (DY (rs.getD k AC.AH))*_*_=_;ac_rfl
theorem lM(cb:Nat)(rs:List Df)(k:Nat)(y:Df)(hk:k<rs.length):BU cb (rs.set k y)=HP.AA cb (0+83+k*9) (DY y)*(CE y*EP cb rs k):=by
 unfold BU EP;rw [MO cb (0+83) rs [] k y hk,Lj CE rs k y hk];show HP.AA cb (0+83+k*9) (DY y)*_*_=_;ac_rfl
structure BB where
 number:Nat
 at_:Nat
 fs:List RF
 a:A1
@[reducible] def Br(m:BB):List Value:=[uN m.number,uN m.at_,.slice m.a.p m.fs.length m.a.c]
@[reducible] instance:AC BB:=⟨3,Br,⟨0,0,[],⟨none,0,0,0,[]⟩⟩,fun _=>rfl,fun _ v h=>by
 simp at h;rcases h with rfl|rfl|rfl<;>rfl⟩
def BB.Ao(m:BB):Dl:=⟨m.number,m.at_,m.fs.map (·.f)⟩
def A0(m:BB):HP:=AB m.a.b m.a.o m.fs m.a.s
def BB.ok(m:BB):Prop:=m.a.ok m.fs
structure CC where
 AI:Nat
 AG:Nat
 ks:List UInt8
 first:Bool
 now:Nat
 closed:Nat
 code:Nat
 said:Bool
 next:Nat
 gq:Nat
 answer:Bool
 fv:Value
 lv:Value
 BZ:Nat
 waits:Nat
def AQ(cb:Nat)(x:CC):HP:=
 HP.AA cb (0+0) [iN x.AI,iN x.AG]*(HP.AA cb (0+2) (AD x.ks++[u8 (Af x.first)])*(HP.AA cb (0+19) (AD x.ks++[u8 (Af (!x.first))])*(HP.AA cb (0+36) [uN x.now]*
 (HP.AA cb (0+37) [iN x.closed]*(HP.AA cb (0+38) [uN x.code]*(HP.AA cb (0+39) [.bool x.said]*(HP.AA cb (0+40) [uN x.next]*(HP.AA cb (0+41) [ptr x.gq 0]*(HP.AA cb (0+42) [.bool x.answer]*
 (HP.AA cb (0+119) [x.fv]*(HP.AA cb (0+120) [x.lv]*(HP.AA cb (0+121) [uN x.BZ]*HP.AA cb (0+122) [uN x.waits]))))))))))))
section
variable(cb:Nat)(x:CC)
instance:Cell (AQ cb x) cb (0+0+0) (iN x.AI) True:=by unfold AQ;infer_instance
instance:Cell (AQ cb x) cb (0+0+1) (iN x.AG) True:=by unfold AQ;infer_instance
instance:Cell (AQ cb x) cb (0+36) (uN x.now) True:=by unfold AQ;infer_instance
instance:Cell (AQ cb x) cb (0+37) (iN x.closed) True:=by unfold AQ;infer_instance
instance:Cell (AQ cb x) cb (0+38) (uN x.code) True:=by unfold AQ;infer_instance
instance:Cell (AQ cb x) cb (0+39) (.bool x.said) True:=by unfold AQ;infer_instance
instance:Cell (AQ cb x) cb (0+40) (uN x.next) True:=by unfold AQ;infer_instance
instance:Cell (AQ cb x) cb (0+41) (ptr x.gq 0) True:=by unfold AQ;infer_instance
instance:Cell (AQ cb x) cb (0+42) (.bool x.answer) True:=by unfold AQ;infer_instance
instance:Cell (AQ cb x) cb (0+119) x.fv True:=by unfold AQ;infer_instance
instance:Cell (AQ cb x) cb (0+120) x.lv True:=by unfold AQ;infer_instance
instance:Cell (AQ cb x) cb (0+121) (uN x.BZ) True:=by unfold AQ;infer_instance
instance:Cell (AQ cb x) cb (0+122) (uN x.waits) True:=by unfold AQ;infer_instance
instance(v:Nat):CP (AQ cb x) cb (0+36) (uN v) (AQ cb {x with now:=v}) True:=by unfold AQ;infer_instance
instance(v:Nat):CP (AQ cb x) cb (0+37) (iN v) (AQ cb {x with closed:=v}) True:=by unfold AQ;infer_instance
instance(v:Nat):CP (AQ cb x) cb (0+38) (uN v) (AQ cb {x with code:=v}) True:=by unfold AQ;infer_instance
instance(v:Bool):CP (AQ cb x) cb (0+39) (.bool v) (AQ cb {x with said:=v}) True:=by unfold AQ;infer_instance
instance(v:Nat):CP (AQ cb x) cb (0+40) (uN v) (AQ cb {x with next:=v}) True:=by unfold AQ;infer_instance
instance(v:Bool):CP (AQ cb x) cb (0+42) (.bool v) (AQ cb {x with answer:=v}) True:=by unfold AQ;infer_instance
instance(v:Value):CP (AQ cb x) cb (0+119) v (AQ cb {x with fv:=v}) True:=by unfold AQ;infer_instance
instance(v:Value):CP (AQ cb x) cb (0+120) v (AQ cb {x with lv:=v}) True:=by unfold AQ;infer_instance
instance(v:Nat):CP (AQ cb x) cb (0+121) (uN v) (AQ cb {x with BZ:=v}) True:=by unfold AQ;infer_instance
instance(v:Nat):CP (AQ cb x) cb (0+122) (uN v) (AQ cb {x with waits:=v}) True:=by unfold AQ;infer_instance
end
structure Ab where
 x:CC
 AP:BH
 ga:By
 ws:List BY
 rs:List Df
 fl:List BB
 lo:List BB
 fa:A1
 la:A1
def Ab.s(m:Ab):AF:=
 ⟨m.x.AI,m.x.AG,m.x.ks,m.x.first,m.x.now,m.x.closed,m.x.code,m.x.said,m.x.next,m.AP,m.x.answer,m.ws.map (·.w),m.rs.map (·.r),m.fl.map (·.Ao),m.lo.map (·.Ao),m.x.BZ,m.x.waits⟩
structure Ab.ok(m:Ab):Prop where
 g:m.ga.ok m.AP
 ws:∀w∈m.ws,w.ok
 rs:∀r∈m.rs,r.ok
 fl:∀p∈m.fl,p.ok
 lo:∀p∈m.lo,p.ok
 fa:m.fa.ok m.fl
 la:m.la.ok m.lo
 fv:m.x.fv=m.fa.v m.fl.length
 lv:m.x.lv=m.la.v m.lo.length
def DN(m:Ab):HP:=m.fa.h m.fl*(m.la.h m.lo*(AO A0 m.fl*AO A0 m.lo))
def AT(cb:Nat)(m:Ab):HP:=AQ cb m.x*(AS m.x.gq m.ga m.AP*(A4 cb m.ws*(BU cb m.rs*DN m)))
theorem Ab.Le(m:Ab)(k:Nat)(hk:k<m.ws.length):m.s.w k=(m.ws.getD k AC.AH).w:=by
 unfold AF.w Ab.s;simp only [J!,Q?,J? hk];rfl
theorem Ab.PY(m:Ab)(k:Nat)(hk:k<m.rs.length):m.s.r k=(m.rs.getD k AC.AH).r:=by
 unfold AF.r Ab.s;simp only [J!,Q?,J? hk];rfl
theorem I'{α:Type}{l:List α}{k:Nat}{d:α}(hk:k<l.length):l.getD k d∈l:=by
 rw [J!,J? hk];exact List.getElem_mem hk
theorem KS{α:Type}{l:List α}{k:Nat}{y a:α}{P:α→Prop}(h:∀a∈l,P a)(hy:P y)(ha:a∈l.set k y):P a:=by
 rcases List.mem_or_eq_of_mem_set ha with h1|rfl
 ·exact h a h1
 ·exact hy
end
section
variable{B:World}
def FI(closed:Nat)(k:Int):Nat:=if closed≠0 then 9 else if k<0∨4≤k then 2 else 0
theorem MD{closed:Nat}{k:Int}(h:FI closed k=0):closed=0∧∃j:Nat,k=j∧j<4:=by
 unfold FI at h;split at h
 ·cases h
 split at h
 ·cases h
 ·exact⟨Ca,k.toNat,Ca,Ca⟩
theorem G9(m:Ab)(k:Int):m.s.stream k=FI m.x.closed k:=rfl
theorem lI(cb closed:Nat)(k:Int)(H:HP)[hc:Rd B H cb (0+37) (iN closed) True]:
  Fn Tryz.prog B 132 [ptr cb 0,.int .i64 k] H (fun v H'=>v=DZ (FI closed k)∧H'=H):=by
 refine mI Tryz.func132 ?_;refine F5z ?_;refine JL Qm ?_;refine J3 ?_;refine mC (fun h5=>?_) (fun h5=>?_)
 ·refine J2 ?_;refine JL Nx ?_;refine J6 ?_;exact mr [4] rfl rfl ⟨by rw [FI,if_pos h5];rfl,rfl⟩
 refine J3 ?_;refine JL (LJ (i:=k) (j:=0) rfl rfl) ?_;refine J1 ?_;refine EL 15 rfl (fun hg1=>?_) (fun hg1=>?_)
 ·refine MI ?_;refine JL Fu ?_;refine J3 ?_;refine GZ ?_;refine J2 ?_;refine JL VM ?_;refine J6 ?_;exact mr [4] rfl rfl ⟨eA,rfl⟩
 refine Mw ?_;refine JL (Oi (i:=k) (j:=4) rfl rfl) ?_;refine JL Eo ?_;refine J3 ?_;refine mC (fun h12=>?_) (fun h12=>?_)
 ·refine J2 ?_;refine JL VM ?_;refine J6 ?_;exact mr [4] rfl rfl ⟨eA,rfl⟩
 refine J9 ?_;exact mr [4] rfl rfl ⟨by rw [FI,if_neg h5,if_neg Ca];rfl,rfl⟩
theorem dD(b o AG:Nat)(wm:BY)(R:HP)(hok:wm.ok)(hw:C7 AG wm.w):
  Fn Tryz.prog B 131 [ptr b o] (HP.AA b o (Bg wm)*(Bl wm*R)) (fun v H'=>v=iN wm.w.BA∧H'=HP.AA b o (Bg wm)*(Bl wm*R)):=by
 refine mI Tryz.func131 ?_;refine IR ?_;refine J3 ?_;refine Ai (H':=HP.AA b o (Bg wm)*(AB wm.a.b wm.a.o wm.w.b wm.a.s*(AS wm.sq wm.sa wm.w.Ae*(AS wm.cq wm.ca wm.w.AE*R)))) Mm ?_;have hl:=hw.len;have hpl:=hw.OF;refine WY ?_;refine Am 10 Cb rfl rfl (BJ rfl (Ot wm.cq 0 wm.w.b.length wm.w.b.length wm.ca wm.w.AE _ hok.2.2 hw.co Ca (by have h7:=hw.co.len;rw [hw.cm]at h7;omega))) ?_;refine Ev ?_;refine Jm 11 ?_;refine JT 12 rfl MW ?_;refine JT 13 rfl MW ?_;refine Ja 14 ?_;refine Ja 15 ?_;refine K4 ?_;refine JL (Jv rfl (RK (by show(AR 0 wm.w.b.length wm.w.AE.l).1<_;have h8:(AR 0 wm.w.b.length wm.w.AE.l).1≤wm.w.b.length:=hpl;omega))) ?_;refine J4 ?_;exact mR [2] (HP.AA b o (Bg wm)*(Bl wm*R)) (hE:=by unfold Bl;infer_instance) rfl rfl BW
def MM(cb e:Nat)(k:Int):Value:=if e=0 then ptr cb (0+43+k.toNat*10)else .pointer none
theorem rW(m:Ab)(k:Int)(j:Nat)(hl:m.ws.length=4)(hs:FI m.x.closed k=0)(hk:k=j)(hj:j<4):
  m.s.Dt k=if(m.ws.getD j AC.AH).w.finished=true∨(m.ws.getD j AC.AH).w.given=true then 3 else 0:=by
 subst hk;unfold AF.Dt;rw [G9,if_neg Ca,K_,m.Le j Ca]
theorem YG(m:Ab)(k:Int)(hs:FI m.x.closed k≠0):m.s.Dt k=FI m.x.closed k:=by
 unfold AF.Dt;rw [G9,if_pos hs]
theorem gM(cb:Nat)(m:Ab)(k:Int)(R:HP)(hl:m.ws.length=4):
  Fn Tryz.prog B 130 [ptr cb 0,.int .i64 k] (AQ cb m.x*(A4 cb m.ws*R)) (fun v H'=>v=.tuple #[MM cb (m.s.Dt k) k,DZ (m.s.Dt k)]∧H'=AQ cb m.x*(A4 cb m.ws*R)):=by
 refine mI Tryz.func130 ?_;refine Bt ?_;refine Oz ?_;refine mC (fun h12=>?_) (fun h12=>?_)
 ·refine J9 ?_;exact mr [4,5] rfl rfl ⟨by rw [YG m k h12];unfold MM;rw [if_neg h12];rfl,rfl⟩
 obtain⟨hcl,j,rfl,hj⟩:=MD (by simpa using h12:FI m.x.closed k=0)
 have hjl:j<m.ws.length:=by omega
 refine J3 ?_;refine Ai (H':=AQ cb m.x*(HP.AA cb (0+43+j*10) (Bg (m.ws.getD j AC.AH))*(Bl (m.ws.getD j AC.AH)*(B' cb m.ws j*R)))) (by rw [JA cb m.ws j hjl];ac_rfl) ?_;have hoe:=rW m (j:Int) j hl (by simpa using h12) rfl hj;refine J5 ?_;refine JL NK ?_;refine Bt ?_;refine DO 23 rfl (fun hg1=>?_) (fun hg1=>?_)
 ·refine H3 ?_;refine Po ?_;refine J2 ?_;refine JL Mx ?_;refine J6 ?_;exact mR [4,5] (AQ cb m.x*(A4 cb m.ws*R)) (hE:=by rw [JA cb m.ws j hjl];infer_instance) rfl rfl ⟨by rw [hoe,if_pos (.inl hg1)];rfl,rfl⟩
 refine Hx ?_;refine J1 ?_;refine MZ ?_;refine LI ?_;refine mc (fun h28=>?_) (fun h28=>?_)
 ·refine J2 ?_;refine JL Mx ?_;refine J6 ?_;exact mR [4,5] (AQ cb m.x*(A4 cb m.ws*R)) (hE:=by rw [JA cb m.ws j hjl];infer_instance) rfl rfl ⟨by rw [hoe,if_pos (.inr h28)];rfl,rfl⟩
 refine CB ?_;exact mR [4,5] (AQ cb m.x*(A4 cb m.ws*R)) (hE:=by rw [JA cb m.ws j hjl];infer_instance) rfl rfl ⟨by rw [hoe,if_neg (by rw [hg1,h28];simp)];rfl,rfl⟩
theorem Ab.MT{t:Nat}{m:Ab}(h:AZ t m.s):m.ws.length=4:=by have:=h.ws.len;simpa [Ab.s]using this
theorem Ab.OV{t:Nat}{m:Ab}(h:AZ t m.s):m.rs.length=4:=by have:=h.rl;simpa [Ab.s]using this
theorem Ab.Qs{t:Nat}{m:Ab}(h:AZ t m.s){k:Nat}(hk:k<4):C7 m.x.AG (m.ws.getD k AC.AH).w:=by
 have:=h.ws.ok k hk
 have e:m.s.ws.getD k As=(m.ws.getD k AC.AH).w:=m.Le k (by rw [Ab.MT h];exact hk);rw [e]at this;exact this
theorem Ab.Rk{t:Nat}{m:Ab}(h:AZ t m.s){k:Nat}(hk:k<4):FY m.x.AG t (m.rs.getD k AC.AH).r:=by
 have:=h.rs k hk
 rw [m.PY k (by rw [Ab.OV h];exact hk)]at this;exact this
def Ab.Bs(m:Ab)(k:Nat)(w:BY):Ab:={m with ws:=m.ws.set k w}
theorem Ab.SZ(m:Ab)(k:Nat)(w:BY):(m.Bs k w).s=m.s.Bs k w.w:=by
 unfold Ab.Bs Ab.s AF.Bs;simp only [T?]
theorem Ab.ok.Bs{m:Ab}(h:m.ok){k:Nat}{w:BY}(hw:w.ok):(m.Bs k w).ok:=
 ⟨h.g,fun a ha=>KS (P:=BY.ok) h.ws hw ha,h.rs,h.fl,h.lo,h.fa,h.la,h.fv,h.lv⟩
def Ab.BS(m:Ab)(k:Nat)(r:Df):Ab:={m with rs:=m.rs.set k r}
theorem Ab.Py(m:Ab)(k:Nat)(r:Df):(m.BS k r).s=m.s.BS k r.r:=by
 unfold Ab.BS Ab.s AF.BS;simp only [T?]
theorem Ab.ok.BS{m:Ab}(h:m.ok){k:Nat}{r:Df}(hr:r.ok):(m.BS k r).ok:=
 ⟨h.g,h.ws,fun a ha=>KS (P:=Df.ok) h.rs hr ha,h.fl,h.lo,h.fa,h.la,h.fv,h.lv⟩
theorem dV{m:Ab}{k:Int}(h:m.s.Dt k=0):FI m.x.closed k=0:=by
 by_cases hs:FI m.x.closed k=0
 ·exact hs
 ·rw [YG m k hs]at h;exact absurd h hs
def Fb(m:Ab)(cb:Nat):HP:=AS m.x.gq m.ga m.AP*(BU cb m.rs*DN m)
theorem HT(cb:Nat)(m:Ab)(R:HP):AT cb m*R=AQ cb m.x*(A4 cb m.ws*(Fb m cb*R)):=by
 unfold AT Fb;ac_rfl
theorem Nv(cb:Nat)(m:Ab)(R:HP)(j:Nat)(hj:j<m.ws.length):AT cb m*R=AQ cb m.x*(HP.AA cb (0+43+j*10) (Bg (m.ws.getD j AC.AH))*(Bl (m.ws.getD j AC.AH)*(B' cb m.ws j*(Fb m cb*R)))):=by
 rw [HT,JA cb m.ws j hj];ac_rfl
theorem RD(cb:Nat)(m:Ab)(R:HP)(j:Nat)(hj:j<m.ws.length)(y:BY):AT cb (m.Bs j y)*R=AQ cb m.x*(HP.AA cb (0+43+j*10) (Bg y)*(Bl y*(B' cb m.ws j*(Fb m cb*R)))):=by
 rw [HT];show AQ cb m.x*(A4 cb (m.ws.set j y)*(Fb (m.Bs j y) cb*R))=_;rw [Kl cb m.ws j y hj];show AQ cb m.x*(HP.AA cb (0+43+j*10) (Bg y)*(Bl y*B' cb m.ws j)*(Fb m cb*R))=_;ac_rfl
theorem kU(cb t:Nat)(m:Ab)(k:Int)(xs:List UInt8)(p:Option Addr)(b o c:Nat)(R:HP)(hm:m.ok)(hi:AZ t m.s)(hs:Sl p b o xs.length c)(hr:Ad B R b o xs):
  Fn Tryz.prog B 88 [ptr cb 0,.int .i64 k,.slice p xs.length c] (AT cb m*R)
   (fun v H'=>∃m':Ab,m'.ok∧m'.s=(m.s.write k xs).2∧v=.tuple #[iN (m.s.write k xs).1.1,DZ (m.s.write k xs).1.2]∧H'=AT cb m'*R):=by
 refine mI Tryz.func88 ?_;refine Ai N0 ?_;refine IR ?_;refine J7 ?_;refine Vl ?_;refine mC (fun h18=>?_) (fun h18=>?_)
 ·refine J3 ?_;refine Fd ?_;refine J5 ?_;refine mR [6,7] (AT cb m*R) (hE:=by rw [HT];infer_instance) rfl rfl ⟨m,hm,?_,?_,rfl⟩
  ·unfold AF.write;rw [if_pos h18]
  ·unfold AF.write;rw [if_pos h18];rfl
 have h18:m.s.Dt k=0:=by simpa using h18
 obtain⟨hcl,j,rfl,hj⟩:=MD (dV h18)
 have hjl:j<m.ws.length:=by rw [Ab.MT hi];exact hj
 have hwok:=Ab.Qs hi hj;have hwm:=hm.ws _ Ka;have ewj:=m.Le j hjl
 have hp0:MM cb (m.s.Dt (j:Int)) (j:Int)=ptr cb (0+43+j*10):=by unfold MM;rw [if_pos h18,K_]
 generalize hwx:m.ws.getD j AC.AH=wm at hwok hwm ewj;have hbl:=hwok.len;have hpr:=hwok.OF;have hrm:=hwok.room;have hw2:=hi.w2;have hw2':m.x.AG≤1024:=hw2;refine QP (E':=[(8,ptr cb (0+43+j*10)),(0,ptr cb 0),(2,.slice p xs.length c)]) (.cons (by rw [←hp0];rfl) Hd) ?_;refine Ai (H':=HP.AA cb (0+43+j*10) (Bg wm)*(Bl wm*(AQ cb m.x*(B' cb m.ws j*(Fb m cb*R))))) TQ ?_;refine J3 ?_;refine mA 24 24 ?_;refine Jm 0 ?_;refine Jn 1 ?_;refine Jf 2 ?_;refine Jf 3 ?_;refine Jd 4 ?_;refine Jm 5 ?_;refine LQ ?_;refine JT 9 rfl FT ?_;refine Jm 10 ?_;refine Jm 14 ?_;refine Jn 15 ?_;refine Jf 16 ?_;refine Jd 17 ?_;refine JT 18 rfl FT ?_;refine JT 19 rfl (Ie (i:=4096) rfl rfl Ca) ?_;refine Jm 20 ?_;refine JT 21 rfl FT ?_;refine Am 11 Cb rfl rfl (BJ rfl (dD cb (0+43+j*10) m.x.AG wm _ hwm hwok)) ?_;refine JR ?_;refine⟨.inr inferInstance,?_⟩;refine JT 12 rfl MK ?_;refine JT 13 rfl MK ?_;refine JT 22 rfl (uJ rfl rfl rfl) ?_;refine Ja 23 ?_;refine Da ?_;have hnm:(min (min (m.x.AG-(wm.w.b.length-wm.w.BA)) (4096-wm.w.b.length)) xs.length)≤xs.length:=Nat.min_le_right _ _
 refine Ai (H':=AB wm.a.b wm.a.o wm.w.b wm.a.s*(HP.AA cb (0+43+j*10) (Bg wm)*(AQ cb m.x*((AS wm.sq wm.sa wm.w.Ae*AS wm.cq wm.ca wm.w.AE)*(B' cb m.ws j*(Fb m cb*R)))))) Mm ?_
 have htl:(xs.take (min (min (m.x.AG-(wm.w.b.length-wm.w.BA)) (4096-wm.w.b.length)) xs.length)).length=(min (min (m.x.AG-(wm.w.b.length-wm.w.BA)) (4096-wm.w.b.length)) xs.length):=by rw [K!];omega
 refine Dx (HP.AA cb (0+43+j*10) (Bg wm)*(AQ cb m.x*((AS wm.sq wm.sa wm.w.Ae*AS wm.cq wm.ca wm.w.AE)*(B' cb m.ws j*(Fb m cb*R))))) 11 12 Dy rfl Cb ?_;refine LT ?_;refine Jm 5 ?_;refine Jm 6 ?_;refine JT 7 rfl (OB (k':=(xs.take (min (min (m.x.AG-(wm.w.b.length-wm.w.BA)) (4096-wm.w.b.length)) xs.length)).length) rfl rfl Ci htl) ?_;refine Am 8 Cb rfl rfl (CX (ys:=xs.take (min (min (m.x.AG-(wm.w.b.length-wm.w.BA)) (4096-wm.w.b.length)) xs.length)) (bb:=b) (oo:=o) rfl hwm.1.1 hwm.1.2 rfl ⟨hs.1,Ci⟩ (let _:=hr;inferInstance) rfl Ca Ca) ?_;rintro _ _ ⟨p51,b51,o51,c51,s51,rfl,hs51,hc51,rfl⟩;refine A6 ?_;refine Jn 9 ?_;refine Jf 10 ?_;refine Nh ?_;refine DB ?_;refine J9 ?_
 have ewr:m.s.write (j:Int) xs=(((min (min (m.x.AG-(wm.w.b.length-wm.w.BA)) (4096-wm.w.b.length)) xs.length),0),m.s.Bs j {wm.w with b:=wm.w.b++xs.take (min (min (m.x.AG-(wm.w.b.length-wm.w.BA)) (4096-wm.w.b.length)) xs.length)}):=by
  unfold AF.write;rw [if_neg Ca,K_];unfold AF.Gj;rw [ewj];rfl
 obtain⟨w2,hw2⟩:∃w2:BY,w2={wm with w:={wm.w with b:=wm.w.b++xs.take (min (min (m.x.AG-(wm.w.b.length-wm.w.BA)) (4096-wm.w.b.length)) xs.length)},a:=⟨p51,b51,o51,c51,s51⟩}:=Bh
 have hok2:w2.ok:=by rw [hw2];exact⟨⟨hs51,hc51⟩,hwm.2⟩
 have hew:w2.w={wm.w with b:=wm.w.b++xs.take (min (min (m.x.AG-(wm.w.b.length-wm.w.BA)) (4096-wm.w.b.length)) xs.length)}:=by rw [hw2]
 refine mR [6,7] (AT cb (m.Bs j w2)*R) (hE:=?_) rfl rfl ⟨m.Bs j w2,hm.Bs hok2,?_,?_,rfl⟩
 ·rw [RD cb m R j hjl,hw2];refine⟨fun ww hw=>?_⟩;unfold Bl;refine S? ?_ hw;congr 1;show AB b51 o51 _ s51*_=AQ cb m.x*(HP.AA cb (0+43+j*10) [.slice p51 (wm.w.b++xs.take (min (min (m.x.AG-(wm.w.b.length-wm.w.BA)) (4096-wm.w.b.length)) xs.length)).length c51,ptr wm.sq 0,ptr wm.cq 0,uN wm.w.high,.bool wm.w.finished,.bool wm.w.ending,.bool wm.w.ended,.bool wm.w.given,uN wm.w.code,.bool wm.w.DE]*(AB b51 o51 (wm.w.b++xs.take (min (min (m.x.AG-(wm.w.b.length-wm.w.BA)) (4096-wm.w.b.length)) xs.length)) s51*(AS wm.sq wm.sa wm.w.Ae*AS wm.cq wm.ca wm.w.AE)*_));ac_rfl
 ·rw [Ab.SZ,ewr,hew]
 ·rw [ewr];rfl
theorem zQ(cb t:Nat)(m:Ab)(k:Int)(R:HP)(hm:m.ok)(hi:AZ t m.s):
  Fn Tryz.prog B 89 [ptr cb 0,.int .i64 k] (AT cb m*R)
   (fun v H'=>∃m':Ab,m'.ok∧m'.s=(m.s.finish k).2∧v=DZ (m.s.finish k).1∧H'=AT cb m'*R):=by
 refine mI Tryz.func89 ?_;refine Ai N0 ?_;refine J9 ?_;refine Vl ?_;refine mC (fun h18=>?_) (fun h18=>?_)
 ·refine J8 ?_;refine mR [4] (AT cb m*R) (hE:=by first|(rw [HT];infer_instance)|(rw [Nv cb m R j hjl,hwx];exact⟨fun ww hw=>by refine S? ?_ hw;congr 1;ac_rfl⟩)) rfl rfl ⟨m,hm,?_,?_,rfl⟩
  ·unfold AF.finish;rw [if_pos h18]
  ·unfold AF.finish;rw [if_pos h18];rfl
 have h18:m.s.Dt k=0:=by simpa using h18
 obtain⟨hcl,j,rfl,hj⟩:=MD (dV h18)
 have hjl:j<m.ws.length:=by rw [Ab.MT hi];exact hj
 have hwok:=Ab.Qs hi hj;have hwm:=hm.ws _ Ka;have ewj:=m.Le j hjl
 have hp0:MM cb (m.s.Dt (j:Int)) (j:Int)=ptr cb (0+43+j*10):=by unfold MM;rw [if_pos h18,K_]
 generalize hwx:m.ws.getD j AC.AH=wm at hwok hwm ewj;refine QP (E':=[(5,ptr cb (0+43+j*10)),(0,ptr cb 0)]) (.cons (by rw [←hp0];rfl) sX) ?_;refine Ai (H':=HP.AA cb (0+43+j*10) (Bg wm)*(Bl wm*(AQ cb m.x*(B' cb m.ws j*(Fb m cb*R))))) TQ ?_;refine cU ?_
 obtain⟨w2,hw2⟩:∃w2:BY,w2={wm with w:={wm.w with finished:=true}}:=Bh
 have hok2:w2.ok:=by rw [hw2];exact hwm
 have hew:w2.w={wm.w with finished:=true}:=by rw [hw2]
 have ewr:m.s.finish (j:Int)=(0,m.s.Bs j {wm.w with finished:=true}):=by
  unfold AF.finish;rw [if_neg Ca,K_,ewj]
 refine mR [4] (AT cb (m.Bs j w2)*R) (hE:=?_) rfl rfl ⟨m.Bs j w2,hm.Bs hok2,by rw [Ab.SZ,ewr,hew],Cq,rfl⟩;rw [RD cb m R j hjl,hw2];refine⟨fun ww hw=>?_⟩;refine S? ?_ hw;congr 1;show _=AQ cb m.x*(HP.AA cb (0+43+j*10) [.slice wm.a.p wm.w.b.length wm.a.c,ptr wm.sq 0,ptr wm.cq 0,uN wm.w.high,.bool true,.bool wm.w.ending,.bool wm.w.ended,.bool wm.w.given,uN wm.w.code,.bool wm.w.DE]*(Bl wm*_));ac_rfl
theorem sI(cb t:Nat)(m:Ab)(k:Int)(code:Nat)(R:HP)(hm:m.ok)(hi:AZ t m.s):
  Fn Tryz.prog B 90 [ptr cb 0,.int .i64 k,uN code] (AT cb m*R)
   (fun v H'=>∃m':Ab,m'.ok∧m'.s=(m.s.giveUp k code).2∧v=DZ (m.s.giveUp k code).1∧H'=AT cb m'*R):=by
 refine mI Tryz.func90 ?_;refine Ai N0 ?_;refine CB ?_;refine Oz ?_;refine mC (fun h13=>?_) (fun h13=>?_)
 ·refine J8 ?_;refine mR [6] (AT cb m*R) (hE:=by first|(rw [HT];infer_instance)|(rw [Nv cb m R j hjl,hwx];exact⟨fun ww hw=>by refine S? ?_ hw;congr 1;ac_rfl⟩)) rfl rfl ⟨m,hm,?_,?_,rfl⟩
  ·unfold AF.giveUp;rw [G9,if_pos h13]
  ·unfold AF.giveUp;rw [G9,if_pos h13];rfl
 obtain⟨hcl,j,rfl,hj⟩:=MD (by simpa using h13:FI m.x.closed k=0)
 have h13:FI m.x.closed (j:Int)=0:=by simpa using h13
 have hjl:j<m.ws.length:=by rw [Ab.MT hi];exact hj
 have hwok:=Ab.Qs hi hj;have hwm:=hm.ws _ Ka;have ewj:=m.Le j hjl;generalize hwx:m.ws.getD j AC.AH=wm at hwok hwm ewj;refine Zz ?_;refine J8 ?_;refine JL NK ?_;refine Bt ?_;refine DO 24 rfl (fun hg1=>?_) (fun hg1=>?_)
 ·refine Hw ?_;refine Po ?_;refine J2 ?_;refine JL Mx ?_;refine J5 ?_;refine mR [6] (AT cb m*R) (hE:=by first|(rw [HT];infer_instance)|(rw [Nv cb m R j hjl,hwx];exact⟨fun ww hw=>by refine S? ?_ hw;congr 1;ac_rfl⟩)) rfl rfl ⟨m,hm,?_,?_,rfl⟩
  ·unfold AF.giveUp;rw [G9,if_neg Ca,K_,ewj,if_pos (.inl hg1)]
  ·unfold AF.giveUp;rw [G9,if_neg Ca,K_,ewj,if_pos (.inl hg1)];rfl
 refine LO ?_;refine JL O4 ?_;refine LI ?_;refine mC (fun h27=>?_) (fun h27=>?_)
 ·refine J2 ?_;refine JL Mx ?_;refine J5 ?_;refine mR [6] (AT cb m*R) (hE:=by first|(rw [HT];infer_instance)|(rw [Nv cb m R j hjl,hwx];exact⟨fun ww hw=>by refine S? ?_ hw;congr 1;ac_rfl⟩)) rfl rfl ⟨m,hm,?_,?_,rfl⟩
  ·unfold AF.giveUp;rw [G9,if_neg Ca,K_,ewj,if_pos (.inr h27)]
  ·unfold AF.giveUp;rw [G9,if_neg Ca,K_,ewj,if_pos (.inr h27)];rfl
 refine Uw ?_
 obtain⟨w2,hw2⟩:∃w2:BY,w2={wm with w:={wm.w with given:=true,code:=code}}:=Bh
 have hok2:w2.ok:=by rw [hw2];exact hwm
 have hew:w2.w={wm.w with given:=true,code:=code}:=by rw [hw2]
 have ewr:m.s.giveUp (j:Int) code=(0,m.s.Bs j {wm.w with given:=true,code:=code}):=by
  unfold AF.giveUp;rw [G9,if_neg Ca,K_,ewj,if_neg (by rw [hg1];simpa using h27)]
 refine mR [6] (AT cb (m.Bs j w2)*R) (hE:=?_) rfl rfl ⟨m.Bs j w2,hm.Bs hok2,by rw [Ab.SZ,ewr,hew],Cq,rfl⟩;rw [RD cb m R j hjl,hw2];refine⟨fun ww hw=>?_⟩;refine S? ?_ hw;congr 1;show _=AQ cb m.x*(HP.AA cb (0+43+j*10) [.slice wm.a.p wm.w.b.length wm.a.c,ptr wm.sq 0,ptr wm.cq 0,uN wm.w.high,.bool wm.w.finished,.bool wm.w.ending,.bool wm.w.ended,.bool true,uN code,.bool wm.w.DE]*(Bl wm*_));ac_rfl
theorem jW(cb t:Nat)(m:Ab)(k:Int)(R:HP)(hm:m.ok)(hi:AZ t m.s):
  Fn Tryz.prog B 97 [ptr cb 0,.int .i64 k] (AT cb m*R)
   (fun v H'=>v=.tuple #[iN (m.s.AE k).1,DZ (m.s.AE k).2]∧H'=AT cb m*R):=by
 refine mI Tryz.func97 ?_;refine Ai N0 ?_;refine IR ?_;refine J8 ?_;refine Oz ?_;refine mC (fun h13=>?_) (fun h13=>?_)
 ·refine J3 ?_;refine Fd ?_;refine J5 ?_;exact mR [4,5] (AT cb m*R) (hE:=by rw [HT];infer_instance) rfl rfl ⟨by unfold AF.AE;rw [G9,if_pos h13];rfl,rfl⟩
 obtain⟨hcl,j,rfl,hj⟩:=MD (by simpa using h13:FI m.x.closed k=0)
 have h13:FI m.x.closed (j:Int)=0:=by simpa using h13
 have hjl:j<m.ws.length:=by rw [Ab.MT hi];exact hj
 have hwok:=Ab.Qs hi hj;have hwm:=hm.ws _ Ka;have ewj:=m.Le j hjl;generalize hwx:m.ws.getD j AC.AH=wm at hwok hwm ewj;refine Zz ?_;refine J8 ?_;refine JL NK ?_;refine mE rfl (dD cb (0+43+j*10) m.x.AG wm _ hwm hwok) ?_;refine Il ?_;exact mR [4,5] (AT cb m*R) (hE:=by rw [Nv cb m R j hjl,hwx];exact⟨fun ww hw=>by refine S? ?_ hw;congr 1;ac_rfl⟩) rfl rfl ⟨by unfold AF.AE;rw [G9,if_neg Ca,K_,ewj];rfl,rfl⟩
def Ab.Aq(m:Ab)(x:CC):Ab:={m with x:=x}
theorem DJ(cb:Nat)(m:Ab)(R:HP):AT cb m*R=AQ cb m.x*(AS m.x.gq m.ga m.AP*(A4 cb m.ws*(BU cb m.rs*(DN m*R)))):=by
 unfold AT;ac_rfl
theorem tB(cb:Nat)(m:Ab)(code:Nat)(R:HP)(hm:m.ok):
  Fn Tryz.prog B 96 [ptr cb 0,uN code] (AT cb m*R)
   (fun v H'=>∃m':Ab,m'.ok∧m'.s=(m.s.close code).2∧v=DZ (m.s.close code).1∧H'=AT cb m'*R):=by
 refine mI Tryz.func96 ?_;refine Ai L9 ?_;refine F5z ?_;refine JL Qm ?_;refine J3 ?_;refine mC (fun h5=>?_) (fun h5=>?_)
 ·have h5:m.s.closed≠0:=h5;refine J2 ?_;refine JL Nx ?_;refine J6 ?_;exact mR [4] (AT cb m*R) (hE:=by rw [DJ];infer_instance) rfl rfl ⟨m,hm,by unfold AF.close;rw [if_pos h5],by unfold AF.close;rw [if_pos h5];rfl,rfl⟩
 have h5:¬m.s.closed≠0:=h5;refine J3 ?_;refine JL O4 ?_;refine J3 ?_;refine mC (fun h12=>?_) (fun h12=>?_)
 ·refine J2 ?_;refine JL Mx ?_;refine J6 ?_;exact mR [4] (AT cb m*R) (hE:=by rw [DJ];infer_instance) rfl rfl ⟨m,hm,by unfold AF.close;rw [if_neg h5,if_pos h12],by unfold AF.close;rw [if_neg h5,if_pos h12];rfl,rfl⟩
 refine CB ?_;refine Bi (Eh (v:=.int .i64 (9:Nat)) rfl rfl rfl Cd) ?_;refine JR ?_;refine Bt ?_
 have ewr:m.s.close code=(0,{m.s with closed:=9,code:=code}):=by unfold AF.close;rw [if_neg h5,if_neg h12]
 exact mR [4] (AT cb (m.Aq {m.x with closed:=9,code:=code})*R) (hE:=by rw [DJ];exact⟨fun ww hw=>hw⟩) rfl rfl ⟨m.Aq {m.x with closed:=9,code:=code},⟨hm.g,hm.ws,hm.rs,hm.fl,hm.lo,hm.fa,hm.la,hm.fv,hm.lv⟩,Cq,Cq,rfl⟩
theorem rZ(cb:Nat)(m:Ab)(R:HP):
  Fn Tryz.prog B 56 [ptr cb 0] (AT cb m*R) (fun v H'=>v=DZ m.s.closed∧H'=AT cb m*R):=by
 refine mI Tryz.func56 ?_;refine Ai L9 ?_;refine DP ?_;refine Iu ?_;refine mC (fun h7=>?_) (fun h7=>?_)
 ·refine J7 ?_;exact mR [2] (AT cb m*R) (hE:=by rw [DJ];infer_instance) rfl rfl ⟨by show _=DZ m.x.closed;rw [h7];rfl,rfl⟩
 refine J8 ?_;refine JL G8 ?_;refine J4 ?_;exact mR [2] (AT cb m*R) (hE:=by rw [DJ];infer_instance) rfl rfl ⟨by show _=DZ m.x.closed;rw [Qr h7];rfl,rfl⟩
end
section
variable{B:World}
theorem Ft{α:Type}{p:α→Prop}{A:α→HP}{R H G:HP}(z:α)(hp:p z)(e:H=G*(A z*R))(w:World)(hw:Sat B H w):Sat B ((HP.ex fun z=>HP.pr (p z)*A z)*R) w:=
 Hy z hp rfl w (Sat.right (e▸hw))
theorem ZJ(lo hi:Nat)(s:BH)(r:AW):Dp lo hi s r=if hi≤r.hi then(if r.lo<lo then s.add r.lo (min r.hi (lo-1))else s).add (max r.lo hi) r.hi else if r.lo<lo then s.add r.lo (min r.hi (lo-1))else s:=rfl
theorem Zl{l:List AW}{m:Nat}(hm:m≤l.length):∀r∈GP l m,r∈l:=by
 intro r hr;obtain⟨j,hj,rfl⟩:=O_.1 hr;have hj':j<m:=List.mem_range.1 hj;exact HS (P:=fun r=>r∈l) (fun r h=>h) _ Ca
set_option maxHeartbeats 1000000 in
theorem zA(cb j AG:Nat)(wm:BY)(r:RF)(R:HP)(hst:r.f.stream=(j:Int))(hj:j<4)(hok:wm.ok)(hw:C7 AG wm.w)(hf:r.f.kind=5→r.f.offset+r.f.data.size≤wm.w.b.length):
  Fn Tryz.prog B 163 [ptr cb 0,.agg (AM r).toArray] (HP.AA cb (0+43+j*10) (Bg wm)*(Bl wm*R))
   (fun _ H'=>∃w2:BY,w2.ok∧w2.w=wm.w.again r.f∧H'=HP.AA cb (0+43+j*10) (Bg w2)*(Bl w2*R)):=by
 refine P6 Tryz.func163 rfl rfl rfl ?_;refine Ai (H':=HP.AA cb (0+43+j*10) (Bg wm)*(AB wm.a.b wm.a.o wm.w.b wm.a.s*(AS wm.sq wm.sa wm.w.Ae*(AS wm.cq wm.ca wm.w.AE*R)))) Mm ?_;have hbl:=hw.len;refine K' ?_;rintro _ _ ⟨b3,rfl,rfl⟩;refine J3 ?_;refine mA 7 8 ?_;refine FX ?_;refine PG ?_;refine Am 6 Cb rfl rfl Mb ?_;rintro _ _ ⟨b4,rfl,rfl⟩;refine A6 ?_;refine DV 7 Cb rfl Eu ?_;refine DB ?_;refine CB ?_;refine JL (C4 (i:=r.f.kind) (j:=5) rfl rfl) ?_;refine J3 ?_;refine mC (fun hk5=>?_) (fun hk5=>?_)
 ·refine J1 ?_;refine CO (α:=Nat×Nat) (fun z=>[(3,ptr b3 0),(4,ptr b4 0),(5,ptr z.1 0),(6,ptr z.2 0)]) (fun z=>HP.AA z.1 0 [uN r.f.offset]*(HP.AA z.2 0 [uN (r.f.offset+r.f.data.size)]*(HP.AA b4 0 [ptr cb (0+43+j*10)]*(HP.AA b3 0 (AM r)*(HP.AA cb (0+43+j*10) (Bg wm)*(AB wm.a.b wm.a.o wm.w.b wm.a.s*(AS wm.sq wm.sa wm.w.Ae*(AS wm.cq wm.ca wm.w.AE*R)))))))) (fun _=>True) ?_ ?_
  ·refine mA 12 13 ?_;refine It ?_;refine I3 ?_;refine Kf ?_;refine I5 ?_;refine JT 6 rfl G6 ?_;refine JT 7 rfl (Jv rfl (MC (by have:=hf hk5;omega))) ?_;refine JT 8 rfl (JO rfl rfl (by have:=hf hk5;omega)) ?_;refine Q5 9 10 Cb rfl rfl rfl rfl rfl rfl rfl rfl Mb Mb ?_ ?_
   ·rintro _ _ ⟨b5,rfl,rfl⟩;refine A6 ?_;refine Am 10 Cb rfl rfl Mb ?_;rintro _ _ ⟨b6,rfl,rfl⟩;refine A6 ?_;refine Nh ?_;refine Ev ?_;refine RL ?_;refine DB ?_;exact A8 (b5,b6) trivial C9 XH
   rintro _ _ ⟨b6,rfl,rfl⟩;refine A6 ?_;refine Am 9 Cb rfl rfl Mb ?_;rintro _ _ ⟨b5,rfl,rfl⟩;refine A6 ?_;refine Nh ?_;refine Ev ?_;refine RL ?_;refine DB ?_;exact A8 (b5,b6) trivial C9 XH
  ·rintro⟨b5,b6⟩ _;dsimp only;refine Bt ?_;refine mA 4 5 ?_;refine Jd 0 ?_;refine Am 1 Cb rfl rfl PN ?_;rintro _ _ ⟨q34,rfl,rfl⟩;refine A6 ?_;refine JF ?_;refine DV 4 Cb rfl Eu ?_;refine DB ?_;refine J5 ?_;refine mE rfl (Ti wm.sq _) ?_;rintro _ _ ⟨b38,rfl,rfl⟩;refine J3 ?_
   refine Sn (α:=AW) Hs (fun xs=>xs=wm.w.Ae.l.reverse) (fun ys=>∃mm,mm≤wm.w.Ae.l.length∧GP wm.w.Ae.l mm=ys) (fun _=>True) (fun pre=>HP.ex fun za:By=>HP.pr (za.ok (pre.foldl (Dp r.f.offset (r.f.offset+r.f.data.size)) (.of 4096)))*(AS q34 za (pre.foldl (Dp r.f.offset (r.f.offset+r.f.data.size)) (.of 4096))*(HP.AA b4 0 [ptr cb (0+43+j*10)]*(HP.AA b5 0 [uN r.f.offset]*(HP.AA b6 0 [uN (r.f.offset+r.f.data.size)]*HP.AA cb (0+43+j*10) [.slice wm.a.p wm.w.b.length wm.a.c,ptr q34 0,ptr wm.cq 0,uN wm.w.high,.bool wm.w.finished,.bool wm.w.ending,.bool wm.w.ended,.bool wm.w.given,uN wm.w.code,.bool wm.w.DE]))))) (fun cx pre=>HP.pr False) ((AS wm.sq wm.sa wm.w.Ae*HP.AA b38 0 [ptr wm.sq 0])*(AB wm.a.b wm.a.o wm.w.b wm.a.s*(AS wm.cq wm.ca wm.w.AE*(HP.AA b3 0 (AM r)*R)))) ((AS wm.sq wm.sa wm.w.Ae*HP.AA b38 0 [ptr wm.sq 0])*(AB wm.a.b wm.a.o wm.w.b wm.a.s*(AS wm.cq wm.ca wm.w.AE*(HP.AA b3 0 (AM r)*R)))) (fun y x=>[(3,ptr b3 0),(4,ptr b4 0),(5,ptr b5 0),(6,ptr b6 0),(8,ptr y 0)]) (fun y x=>HP.AA y 0 [uN x.lo,uN x.hi]) rfl rfl rfl ?_ (SG wm.sq b38 wm.sa wm.w.Ae _ hok.2.1 (by have:=hw.so.len;rw [hw.sm]at this;omega)) ?_ ?_ ?_ ?_
   ·refine Hy DC (Nd 4096) ?_;show _=AS q34 DC (.of 4096)*(HP.AA b4 0 [ptr cb (0+43+j*10)]*(HP.AA b5 0 [uN r.f.offset]*(HP.AA b6 0 [uN (r.f.offset+r.f.data.size)]*HP.AA cb (0+43+j*10) [.slice wm.a.p wm.w.b.length wm.a.c,ptr q34 0,ptr wm.cq 0,uN wm.w.high,.bool wm.w.finished,.bool wm.w.ending,.bool wm.w.ended,.bool wm.w.given,uN wm.w.code,.bool wm.w.DE])))*((AS wm.sq wm.sa wm.w.Ae*HP.AA b38 0 [ptr wm.sq 0])*(AB wm.a.b wm.a.o wm.w.b wm.a.s*(AS wm.cq wm.ca wm.w.AE*(HP.AA b3 0 (AM r)*R))));ac_rfl
   ·intro pre x l R;refine J1 ?_;refine Ag M2 rfl ?_;rintro _ _ ⟨b8,rfl,rfl⟩;refine Bi Kj ?_;refine H5 ?_;exact QI b8 G4 rfl
   ·intro y pre x l R0 hsp;refine Ai (H':=(HP.ex fun za:By=>HP.pr (za.ok (pre.foldl (Dp r.f.offset (r.f.offset+r.f.data.size)) (.of 4096)))*(AS q34 za (pre.foldl (Dp r.f.offset (r.f.offset+r.f.data.size)) (.of 4096))*(HP.AA b4 0 [ptr cb (0+43+j*10)]*(HP.AA b5 0 [uN r.f.offset]*(HP.AA b6 0 [uN (r.f.offset+r.f.data.size)]*HP.AA cb (0+43+j*10) [.slice wm.a.p wm.w.b.length wm.a.c,ptr q34 0,ptr wm.cq 0,uN wm.w.high,.bool wm.w.finished,.bool wm.w.ending,.bool wm.w.ended,.bool wm.w.given,uN wm.w.code,.bool wm.w.DE])))))*(HP.AA y 0 [uN x.lo,uN x.hi]*R0)) Cf ?_;refine Ld ?_;rintro zq hzq;obtain⟨mm,hmm,hds⟩:=hsp;have hmem:=Zl hmm;rw [hds]at hmem;have hxm:x∈wm.w.Ae.l:=hmem x Cg;have hxhi:=hw.so.hi x hxm;obtain⟨cd1,cd2,cd3⟩:=QM (lo:=r.f.offset) (hi:=(r.f.offset+r.f.data.size)) hw.len pre (.of 4096) .of rfl rfl (fun s hs=>hw.so.hi s (hmem s Lt));refine Ai (H':=AS q34 zq (pre.foldl (Dp r.f.offset (r.f.offset+r.f.data.size)) (.of 4096))*((HP.AA b4 0 [ptr cb (0+43+j*10)]*(HP.AA b5 0 [uN r.f.offset]*(HP.AA b6 0 [uN (r.f.offset+r.f.data.size)]*HP.AA cb (0+43+j*10) [.slice wm.a.p wm.w.b.length wm.a.c,ptr q34 0,ptr wm.cq 0,uN wm.w.high,.bool wm.w.finished,.bool wm.w.ending,.bool wm.w.ended,.bool wm.w.given,uN wm.w.code,.bool wm.w.DE])))*(HP.AA y 0 [uN x.lo,uN x.hi]*R0))) Cf ?_;refine CB ?_;refine mC (fun h43=>?_) (fun h43=>?_)
    ·refine mA 11 12 ?_;refine Jd 0 ?_;refine K7 ?_;refine I5 ?_;refine Jf 6 ?_;refine Jd 7 ?_;refine Jd 8 ?_;refine JT 9 rfl NI ?_;refine JT 10 rfl No ?_;refine Am 11 Cb rfl rfl (BJ rfl (KF q34 x.lo _ wm.w.b.length zq _ _ hzq cd1 Ca Ca (by rw [cd3];omega) (by rw [cd3];omega))) ?_;rintro _ _ ⟨a55,hs55,rfl⟩;obtain⟨e1,e2,e3,_⟩:=Jz (lo:=x.lo) (hi:=min x.hi (r.f.offset-1)) cd1 cd2 cd3 hw.len Ca;refine DW ?_;refine Da ?_
     first
      |(have hT:=hs55;have f1:=e1;have f2:=e2;have f3:=e3)
      |(have hT:=hzq;have f1:=cd1;have f2:=cd2;have f3:=cd3)
     refine J4 ?_;refine JL LH ?_;refine J2 ?_;refine mC (fun h59=>?_) (fun h59=>?_)
     ·refine Yi ?_;rintro _ _ ⟨a70,hs70,rfl⟩;refine DW ?_;refine FC ?_
      first
       |exact Fz trivial (Ft (G:=HP.AA y 0 [uN x.lo,uN x.hi]) (a70:By) Cu Cv)
       |exact Fz trivial (Ft (G:=HP.AA y 0 [uN x.lo,uN x.hi]) (a55:By) Cu Cv)
       |exact Fz trivial (Ft (G:=HP.AA y 0 [uN x.lo,uN x.hi]) (zq:By) Cu Cv)
     refine J2 ?_
     first
      |exact Fz trivial (Ft (G:=HP.AA y 0 [uN x.lo,uN x.hi]) (a70:By) Cu Cv)
      |exact Fz trivial (Ft (G:=HP.AA y 0 [uN x.lo,uN x.hi]) (a55:By) Cu Cv)
      |exact Fz trivial (Ft (G:=HP.AA y 0 [uN x.lo,uN x.hi]) (zq:By) Cu Cv)
    refine J3 ?_
    first
     |(have hT:=hs55;have f1:=e1;have f2:=e2;have f3:=e3)
     |(have hT:=hzq;have f1:=cd1;have f2:=cd2;have f3:=cd3)
    refine J4 ?_;refine JL LH ?_;refine J2 ?_;refine mC (fun h59=>?_) (fun h59=>?_)
    ·refine Yi ?_;rintro _ _ ⟨a70,hs70,rfl⟩;refine DW ?_;refine FC ?_
     first
      |exact Fz trivial (Ft (G:=HP.AA y 0 [uN x.lo,uN x.hi]) (a70:By) Cu Cv)
      |exact Fz trivial (Ft (G:=HP.AA y 0 [uN x.lo,uN x.hi]) (a55:By) Cu Cv)
      |exact Fz trivial (Ft (G:=HP.AA y 0 [uN x.lo,uN x.hi]) (zq:By) Cu Cv)
    refine J2 ?_
    first
     |exact Fz trivial (Ft (G:=HP.AA y 0 [uN x.lo,uN x.hi]) (a70:By) Cu Cv)
     |exact Fz trivial (Ft (G:=HP.AA y 0 [uN x.lo,uN x.hi]) (a55:By) Cu Cv)
     |exact Fz trivial (Ft (G:=HP.AA y 0 [uN x.lo,uN x.hi]) (zq:By) Cu Cv)
   ·intro d xs hS;subst hS;refine QO ?_;rintro zq hzq;obtain⟨cd1,cd2,cd3⟩:=QM (lo:=r.f.offset) (hi:=(r.f.offset+r.f.data.size)) hw.len wm.w.Ae.l.reverse (.of 4096) .of rfl rfl (fun s hs=>hw.so.hi s (by simpa using hs));refine Dg (H':=(HP.AA b4 0 [ptr cb (0+43+j*10)]*(HP.AA b5 0 [uN r.f.offset]*(HP.AA b6 0 [uN (r.f.offset+r.f.data.size)]*HP.AA cb (0+43+j*10) [.slice wm.a.p wm.w.b.length wm.a.c,ptr q34 0,ptr wm.cq 0,uN wm.w.high,.bool wm.w.finished,.bool wm.w.ending,.bool wm.w.ended,.bool wm.w.given,uN wm.w.code,.bool wm.w.DE])))*(AS q34 zq (wm.w.Ae.l.reverse.foldl (Dp r.f.offset (r.f.offset+r.f.data.size)) (.of 4096))*(AS wm.cq wm.ca wm.w.AE*(AB wm.a.b wm.a.o wm.w.b wm.a.s*(AS wm.sq wm.sa wm.w.Ae*(HP.AA b38 0 [ptr wm.sq 0]*(HP.obj d (.deferred (some []))*(HP.AA b3 0 (AM r)*R)))))))) Cf ?_;refine J9 ?_;refine mE rfl (Ti wm.cq _) ?_;rintro _ _ ⟨b75,rfl,rfl⟩;refine J3 ?_
    refine Sn (α:=AW) Hs (fun xs=>xs=wm.w.AE.l.reverse) (fun ys=>∃mm,mm≤wm.w.AE.l.length∧GP wm.w.AE.l mm=ys) (fun _=>True) (fun pre=>HP.ex fun za:By=>HP.pr (za.ok (pre.foldl (fun s r=>s.add r.lo r.hi) (wm.w.Ae.l.reverse.foldl (Dp r.f.offset (r.f.offset+r.f.data.size)) (.of 4096))))*(AS q34 za (pre.foldl (fun s r=>s.add r.lo r.hi) (wm.w.Ae.l.reverse.foldl (Dp r.f.offset (r.f.offset+r.f.data.size)) (.of 4096)))*(HP.AA b4 0 [ptr cb (0+43+j*10)]*(HP.AA b5 0 [uN r.f.offset]*(HP.AA b6 0 [uN (r.f.offset+r.f.data.size)]*HP.AA cb (0+43+j*10) [.slice wm.a.p wm.w.b.length wm.a.c,ptr q34 0,ptr wm.cq 0,uN wm.w.high,.bool wm.w.finished,.bool wm.w.ending,.bool wm.w.ended,.bool wm.w.given,uN wm.w.code,.bool wm.w.DE]))))) (fun cx pre=>HP.pr False) ((AS wm.cq wm.ca wm.w.AE*HP.AA b75 0 [ptr wm.cq 0])*(AB wm.a.b wm.a.o wm.w.b wm.a.s*(AS wm.sq wm.sa wm.w.Ae*(HP.AA b38 0 [ptr wm.sq 0]*(HP.obj d (.deferred (some []))*(HP.AA b3 0 (AM r)*R)))))) ((AS wm.cq wm.ca wm.w.AE*HP.AA b75 0 [ptr wm.cq 0])*(AB wm.a.b wm.a.o wm.w.b wm.a.s*(AS wm.sq wm.sa wm.w.Ae*(HP.AA b38 0 [ptr wm.sq 0]*(HP.obj d (.deferred (some []))*(HP.AA b3 0 (AM r)*R)))))) (fun y x=>[(3,ptr b3 0),(4,ptr b4 0),(9,ptr y 0)]) (fun y x=>HP.AA y 0 [uN x.lo,uN x.hi]) rfl rfl rfl ?_ (SG wm.cq b75 wm.ca wm.w.AE _ hok.2.2 (by have:=hw.co.len;rw [hw.cm]at this;omega)) ?_ ?_ ?_ ?_
    ·refine Hy zq hzq ?_;show _=AS q34 zq (wm.w.Ae.l.reverse.foldl (Dp r.f.offset (r.f.offset+r.f.data.size)) (.of 4096))*(HP.AA b4 0 [ptr cb (0+43+j*10)]*(HP.AA b5 0 [uN r.f.offset]*(HP.AA b6 0 [uN (r.f.offset+r.f.data.size)]*HP.AA cb (0+43+j*10) [.slice wm.a.p wm.w.b.length wm.a.c,ptr q34 0,ptr wm.cq 0,uN wm.w.high,.bool wm.w.finished,.bool wm.w.ending,.bool wm.w.ended,.bool wm.w.given,uN wm.w.code,.bool wm.w.DE])))*((AS wm.cq wm.ca wm.w.AE*HP.AA b75 0 [ptr wm.cq 0])*(AB wm.a.b wm.a.o wm.w.b wm.a.s*(AS wm.sq wm.sa wm.w.Ae*(HP.AA b38 0 [ptr wm.sq 0]*(HP.obj d (.deferred (some []))*(HP.AA b3 0 (AM r)*R))))));ac_rfl
    ·intro pre x l R;refine J1 ?_;refine Ag M2 rfl ?_;rintro _ _ ⟨b9,rfl,rfl⟩;refine Bi Kj ?_;refine H5 ?_;exact QI b9 EG rfl
    ·intro y pre x l R0 hsp;refine Ai (H':=(HP.ex fun za:By=>HP.pr (za.ok (pre.foldl (fun s r=>s.add r.lo r.hi) (wm.w.Ae.l.reverse.foldl (Dp r.f.offset (r.f.offset+r.f.data.size)) (.of 4096))))*(AS q34 za (pre.foldl (fun s r=>s.add r.lo r.hi) (wm.w.Ae.l.reverse.foldl (Dp r.f.offset (r.f.offset+r.f.data.size)) (.of 4096)))*(HP.AA b4 0 [ptr cb (0+43+j*10)]*(HP.AA b5 0 [uN r.f.offset]*(HP.AA b6 0 [uN (r.f.offset+r.f.data.size)]*HP.AA cb (0+43+j*10) [.slice wm.a.p wm.w.b.length wm.a.c,ptr q34 0,ptr wm.cq 0,uN wm.w.high,.bool wm.w.finished,.bool wm.w.ending,.bool wm.w.ended,.bool wm.w.given,uN wm.w.code,.bool wm.w.DE])))))*(HP.AA y 0 [uN x.lo,uN x.hi]*R0)) Cf ?_;refine Ld ?_;rintro zq hzq;obtain⟨mm,hmm,hds⟩:=hsp;have hmem:=Zl hmm;rw [hds]at hmem;have hxm:x∈wm.w.AE.l:=hmem x Cg;have hxhi:=hw.co.hi x hxm;obtain⟨ad1,ad2,ad3⟩:=S9 hw.len pre (wm.w.Ae.l.reverse.foldl (Dp r.f.offset (r.f.offset+r.f.data.size)) (.of 4096)) cd1 cd2 cd3 (fun s hs=>hw.co.hi s (hmem s Lt))
     refine Ai (H':=AS q34 zq (pre.foldl (fun s r=>s.add r.lo r.hi) (wm.w.Ae.l.reverse.foldl (Dp r.f.offset (r.f.offset+r.f.data.size)) (.of 4096)))*((HP.AA b4 0 [ptr cb (0+43+j*10)]*(HP.AA b5 0 [uN r.f.offset]*(HP.AA b6 0 [uN (r.f.offset+r.f.data.size)]*HP.AA cb (0+43+j*10) [.slice wm.a.p wm.w.b.length wm.a.c,ptr q34 0,ptr wm.cq 0,uN wm.w.high,.bool wm.w.finished,.bool wm.w.ending,.bool wm.w.ended,.bool wm.w.given,uN wm.w.code,.bool wm.w.DE])))*(HP.AA y 0 [uN x.lo,uN x.hi]*R0))) Cf ?_;refine J1 ?_;refine mA 8 9 ?_;refine Jd 0 ?_;refine K7 ?_;refine I5 ?_;refine Jf 6 ?_;refine Jd 7 ?_;refine Am 8 Cb rfl rfl (BJ rfl (KF q34 x.lo x.hi wm.w.b.length zq _ _ hzq ad1 Ca Ca (by rw [ad3];omega) (by rw [ad3];omega))) ?_;rintro _ _ ⟨a85,hs85,rfl⟩;refine DW ?_;refine FC ?_;exact Fz trivial (Ft (G:=HP.AA y 0 [uN x.lo,uN x.hi]) (a85:By) (by rw [O!,V_,V!];exact hs85) (by rw [O!,V_,V!];ac_rfl))
    ·intro d2 xs hS;subst hS;refine QO ?_;rintro zq hzq;refine Dg (H':=(HP.AA b4 0 [ptr cb (0+43+j*10)]*(HP.AA b5 0 [uN r.f.offset]*(HP.AA b6 0 [uN (r.f.offset+r.f.data.size)]*HP.AA cb (0+43+j*10) [.slice wm.a.p wm.w.b.length wm.a.c,ptr q34 0,ptr wm.cq 0,uN wm.w.high,.bool wm.w.finished,.bool wm.w.ending,.bool wm.w.ended,.bool wm.w.given,uN wm.w.code,.bool wm.w.DE])))*(AS q34 zq (wm.w.AE.l.reverse.foldl (fun s r=>s.add r.lo r.hi) (wm.w.Ae.l.reverse.foldl (Dp r.f.offset (r.f.offset+r.f.data.size)) (.of 4096)))*(HP.obj d2 (.deferred (some []))*(AS wm.cq wm.ca wm.w.AE*(HP.AA b75 0 [ptr wm.cq 0]*(AB wm.a.b wm.a.o wm.w.b wm.a.s*(AS wm.sq wm.sa wm.w.Ae*(HP.AA b38 0 [ptr wm.sq 0]*(HP.obj d (.deferred (some []))*(HP.AA b3 0 (AM r)*R)))))))))) Cf ?_
     have eag:wm.w.again r.f={wm.w with Ae:=wm.w.AE.l.reverse.foldl (fun s r=>s.add r.lo r.hi) (wm.w.Ae.l.reverse.foldl (Dp r.f.offset (r.f.offset+r.f.data.size)) (.of 4096)),ending:=wm.w.ending&& !r.f.fin}:=by unfold AY.again;rw [if_pos hk5]
     refine J8 ?_;refine mc (fun h87=>?_) (fun h87=>?_)
     ·refine J7 ?_;refine Dg (H':=HP.obj d2 (.deferred (some []))*(HP.obj d (.deferred (some []))*(HP.AA cb (0+43+j*10) [.slice wm.a.p wm.w.b.length wm.a.c,ptr q34 0,ptr wm.cq 0,uN wm.w.high,.bool wm.w.finished,.bool false,.bool wm.w.ended,.bool wm.w.given,uN wm.w.code,.bool wm.w.DE]*(AB wm.a.b wm.a.o wm.w.b wm.a.s*(AS q34 zq (wm.w.AE.l.reverse.foldl (fun s r=>s.add r.lo r.hi) (wm.w.Ae.l.reverse.foldl (Dp r.f.offset (r.f.offset+r.f.data.size)) (.of 4096)))*(AS wm.cq wm.ca wm.w.AE*(R*(HP.AA b4 0 [ptr cb (0+43+j*10)]*(HP.AA b5 0 [uN r.f.offset]*(HP.AA b6 0 [uN (r.f.offset+r.f.data.size)]*(HP.AA b75 0 [ptr wm.cq 0]*(AS wm.sq wm.sa wm.w.Ae*(HP.AA b38 0 [ptr wm.sq 0]*HP.AA b3 0 (AM r)))))))))))))) Cf ?_
      obtain⟨w2,hw2⟩:∃w2:BY,w2={wm with w:=wm.w.again r.f,sq:=q34,sa:=zq}:=Bh
      have hok2:w2.ok:=by rw [hw2];unfold BY.ok;dsimp only;rw [eag];exact⟨hok.1,hzq,hok.2.2⟩
      refine Bd (HP.obj d2 (.deferred (some []))*(HP.obj d (.deferred (some []))*(HP.AA cb (0+43+j*10) (Bg w2)*(Bl w2*R)))) (hE:=?_) ?_
      ·rw [hw2,eag,h87];unfold Bl;dsimp only [R_,P?,Q_,R!];simp only [R_,P?,Q_,R!];infer_instance
      exact Vf
     refine J2 ?_;refine Dg (H':=HP.obj d2 (.deferred (some []))*(HP.obj d (.deferred (some []))*(HP.AA cb (0+43+j*10) [.slice wm.a.p wm.w.b.length wm.a.c,ptr q34 0,ptr wm.cq 0,uN wm.w.high,.bool wm.w.finished,.bool wm.w.ending,.bool wm.w.ended,.bool wm.w.given,uN wm.w.code,.bool wm.w.DE]*(AB wm.a.b wm.a.o wm.w.b wm.a.s*(AS q34 zq (wm.w.AE.l.reverse.foldl (fun s r=>s.add r.lo r.hi) (wm.w.Ae.l.reverse.foldl (Dp r.f.offset (r.f.offset+r.f.data.size)) (.of 4096)))*(AS wm.cq wm.ca wm.w.AE*(R*(HP.AA b4 0 [ptr cb (0+43+j*10)]*(HP.AA b5 0 [uN r.f.offset]*(HP.AA b6 0 [uN (r.f.offset+r.f.data.size)]*(HP.AA b75 0 [ptr wm.cq 0]*(AS wm.sq wm.sa wm.w.Ae*(HP.AA b38 0 [ptr wm.sq 0]*HP.AA b3 0 (AM r)))))))))))))) Cf ?_
     obtain⟨w2,hw2⟩:∃w2:BY,w2={wm with w:=wm.w.again r.f,sq:=q34,sa:=zq}:=Bh
     have hok2:w2.ok:=by rw [hw2];unfold BY.ok;dsimp only;rw [eag];exact⟨hok.1,hzq,hok.2.2⟩
     refine Bd (HP.obj d2 (.deferred (some []))*(HP.obj d (.deferred (some []))*(HP.AA cb (0+43+j*10) (Bg w2)*(Bl w2*R)))) (hE:=?_) ?_
     ·rw [hw2,eag,h87];unfold Bl;dsimp only [R_,P?,Q_,R!];simp only [R_,P?,Q_,R!];infer_instance
     exact Vf
    rintro d2 pre id _ aa ww _ _ h3;exact Ts
    -- no other way
   rintro d pre id _ aa ww _ _ h3;exact Ts
   -- no other way
 refine J2 ?_;refine JL (C4 (i:=r.f.kind) (j:=4) rfl rfl) ?_;refine J3 ?_;refine mC (fun hk4=>?_) (fun hk4=>?_)
 ·refine J7 ?_
  obtain⟨w2,hw2⟩:∃w2:BY,w2={wm with w:=wm.w.again r.f}:=Bh
  have eag:wm.w.again r.f={wm.w with DE:=false}:=by unfold AY.again;rw [if_neg hk5,if_pos hk4]
  have hok2:w2.ok:=by rw [hw2];unfold BY.ok;dsimp only;rw [eag];exact hok
  refine Dg (H':=HP.AA cb (0+43+j*10) (Bg {wm with w:={wm.w with DE:=false}})*(AB wm.a.b wm.a.o wm.w.b wm.a.s*(AS wm.sq wm.sa wm.w.Ae*(AS wm.cq wm.ca wm.w.AE*(R*(HP.AA b4 0 [ptr cb (0+43+j*10)]*HP.AA b3 0 (AM r))))))) (by show _=HP.AA cb (0+43+j*10) [.slice wm.a.p wm.w.b.length wm.a.c,ptr wm.sq 0,ptr wm.cq 0,uN wm.w.high,.bool wm.w.finished,.bool wm.w.ending,.bool wm.w.ended,.bool wm.w.given,uN wm.w.code,.bool false]*_;ac_rfl) ?_;refine VN ?_;exact VQ
 refine J2 ?_
 obtain⟨w2,hw2⟩:∃w2:BY,w2={wm with w:=wm.w.again r.f}:=Bh
 have eag:wm.w.again r.f=wm.w:=by unfold AY.again;rw [if_neg hk5,if_neg hk4]
 have hok2:w2.ok:=by rw [hw2];unfold BY.ok;dsimp only;rw [eag];exact hok
 refine Dg (H':=HP.AA cb (0+43+j*10) (Bg {wm with w:=wm.w})*(AB wm.a.b wm.a.o wm.w.b wm.a.s*(AS wm.sq wm.sa wm.w.Ae*(AS wm.cq wm.ca wm.w.AE*(R*(HP.AA b4 0 [ptr cb (0+43+j*10)]*HP.AA b3 0 (AM r))))))) (by show _=HP.AA cb (0+43+j*10) [.slice wm.a.p wm.w.b.length wm.a.c,ptr wm.sq 0,ptr wm.cq 0,uN wm.w.high,.bool wm.w.finished,.bool wm.w.ending,.bool wm.w.ended,.bool wm.w.given,uN wm.w.code,.bool wm.w.DE]*_;ac_rfl) ?_;refine VN ?_;exact VQ
end
section
theorem Sat.iC{P:Program}{B:World}{α:Type}[AC α]{b o k:Nat}{xs:List α}{s:List Value}{R:HP}{w:World}(y:α)(hk:k<xs.length)(h:Sat B (AB b o xs s*R) w):
  ∃w',(storeCells ⟨b,o+k*AC.sz α,none⟩ (AC.An y)).run P w=.ok () w'∧Sat B (AB b o (xs.set k y) s*R) w':=by
 have hd:xs.drop k=xs[k]::xs.drop (k+1):=List.drop_eq_getElem_cons hk
 have e1:AD xs++s=AD (xs.take k)++(AD (xs.drop k)++s):=by rw [←M!,←Er,List.take_append_drop]
 have hl:(AD (xs.take k)).length=k*AC.sz α:=by rw [Bp,K!,M_ Ca]
 have h2:Sat B (HP.AA b (o+k*AC.sz α+0) (AD (xs.drop k)++s)*(HP.AA b o (AD (xs.take k))*R)) w:=by
  rw [HP.CI,←HP.assoc,W_,←hl,←HP.FM,←e1];exact h
 have hle:(AC.An y).length≤(AD (xs.drop k)++s).length:=by
  rw [N?,Bp,AC.len,U_]
  have:=Nat.mul_le_mul_right (AC.sz α) (show 1≤xs.length-k by omega)
  omega
 obtain⟨w',h3,h4⟩:=Sat.JW (P:=P) (AC.An y) (o+k*AC.sz α) 0 (AD (xs.drop k)++s) _ w hle (AC.one y) h2;refine⟨w',h3,?_⟩
 have e2:(AD (xs.drop k)++s).drop (AC.An y).length=AD (xs.drop (k+1))++s:=by
  rw [hd];show(AC.An xs[k]++AD (xs.drop (k+1))++s).drop _=_;rw [M!,AC.len,←AC.len xs[k],List.drop_left]
 rw [e2,HP.CI,←HP.assoc,W_,←hl,←HP.FM]at h4
 have e3:AD (xs.set k y)++s=AD (xs.take k)++(AC.An y++(AD (xs.drop (k+1))++s)):=by
  rw [K?,if_pos hk,Er];show _++(AC.An y++AD (xs.drop (k+1)))++s=_;simp only [M!]
 unfold AB;rw [e3];exact h4
section
variable{P:Program}{B:World}{n:Nat}{E:A2}{D:Bu}{H R:HP}{d:Option Tmp}{T T' ty:TypeId}{pos:String}{af:Array Edge}{g:Option (Nat×Bool)}{x y z:Operand}
theorem tO{α:Type}[AC α]{b o k:Nat}{xs:List α}{s:List Value}(v:α)[hT:Ea P T (AC.sz α)](hx:ev E x=some (.pointer (some ⟨b,o+k*AC.sz α,none⟩)))(hy:ev E y=some (.agg (AC.An v).toArray))(hk:k<xs.length):
  CH P B n ⟨d,.store T x y,ty,pos,af,g⟩ E D (AB b o xs s*R) (fun v' H''=>v'=undef∧H''=AB b o (xs.set k v) s*R):=by
 intro a w h1 _ h3 K Q hkk;obtain⟨w',hw1,hw2⟩:=Sat.iC (P:=P) v hk h3;have hl:(AC.An v).length=AC.sz α:=AC.len v
 have hrun:(execOp a.eval ⟨d,.store T x y,ty,pos,af,g⟩).run P w=.ok .skip w':=by
  simp only [execOp,h1.ev hx,h1.ev hy,Instr.storeAt,Instr.sureAddr,Sem.run_bind,Sem.run_pure,Result.andThen_ok,storeVar,hT.size,Value.cells];simp [hl,hw1]
 simp only [Oper.wp,hrun,Oper.upon];exact hkk undef _ _ BW hw2
end
end
section
variable{B:World}
abbrev MB(m:BB):Value:=.agg (Br m).toArray
def P3(B:World)(f:FuncId)(us:List Value)(l:List BB)(P:BB→Bool)(G:List BB→HP):Prop:=
 ∀pre x R,(∃m,m≤l.length∧l.take m=pre++[x])→Fn Tryz.prog B f (MB x::us) (G pre*R) (fun v H'=>v=.bool (P x)∧H'=G (pre++[x])*R)
theorem Kg{l:List BB}{i:Nat}(h:i<l.length):l.take (i+1)=l.take i++[l.getD i AC.AH]:=by
 rw [J!,J? h,M?,O? h]
theorem tK(l:List BB)(p:Option Addr)(b o c:Nat)(s:List Value)(f:FuncId)(us:List Value)(P:BB→Bool)(G:List BB→HP)(R:HP)[Ac Tryz.prog f](hs:Sl p b o l.length c)(hl:l.length<1000000000)(hf:P3 B f us l P G):
  Fn Tryz.prog B 187 [.slice p l.length c,CN f us] (G []*(AB b o l s*R))
   (fun v H'=>∃(kz:Int) (mz:Nat),v=.int .i64 kz∧((kz= -1∧mz=l.length∧∀j,j<l.length→P (l.getD j AC.AH)=false)∨(∃k:Nat,kz=k∧k<l.length∧mz=k+1∧P (l.getD k AC.AH)=true∧∀j,j<k→P (l.getD j AC.AH)=false))∧
    H'=G (l.take mz)*(AB b o l s*R)):=by
 refine mI Tryz.func187 ?_;refine IR ?_;refine J7 ?_;refine G3 ?_;refine Bm (α:=Nat) (fun i=>[(0,.slice p l.length c),(1,CN f us),(7,iN l.length),(8,iN i)]) (fun i=>G (l.take i)*(AB b o l s*R)) (fun i=>i≤l.length∧∀j,j<i→P (l.getD j AC.AH)=false) (fun i=>l.length-i) 0 ⟨U? _,(fun j h=>absurd h O7)⟩ C9 (by rw [V?]) ?_;rintro i ⟨hi1,hi2⟩;refine J6 ?_;refine mC (fun h9=>?_) (fun h9=>?_)
 ·refine PE ?_;refine JL Lm ?_;refine JL (IX (xs:=l) rfl inferInstance Ca) ?_;refine Ag (Ht rfl rfl (hf (l.take i) (l.getD i AC.AH) _ ⟨i+1,Ca,Kg h9⟩)) rfl ?_;refine JR ?_;refine J2 ?_;refine mc (fun h16=>?_) (fun h16=>?_)
  ·refine DP ?_;exact mr [4] rfl rfl ⟨(i:Nat),i+1,rfl,.inr ⟨i,rfl,h9,rfl,h16,hi2⟩,by rw [Kg h9]⟩
  refine Hp ?_;exact Ba (i+1) ⟨Ca,fun j hj=>by rcases W! j i with h|h;exact hi2 j h;obtain rfl:j=i:=Ca;exact h16⟩ Ca C9 (by rw [Kg h9])
 refine Bt ?_;exact mr [4] rfl rfl ⟨-1,l.length,rfl,.inl ⟨rfl,rfl,fun j hj=>hi2 j Ca⟩,by rw [show i=l.length by omega]⟩
theorem eI{l:List BB}{P:BB→Bool}{k:Nat}(hk:k≤l.length)(h:∀j,j<k→P (l.getD j AC.AH)=false):(l.take k).filter (fun x=> !P x)=l.take k:=by
 rw [List.filter_eq_self];intro a ha;obtain⟨j,hj,rfl⟩:=P! ha
 have hj2:j<k∧j<l.length:=by rw [K!]at hj;omega
 have:=h j hj2.1
 rw [J!,J? hj2.2,M?]at this;rw [List.getElem_take,this];rfl
structure HB where
 i:Nat
 j:Nat
 L:List BB
def HB.ok(z:HB)(l:List BB)(P:BB→Bool):Prop:=
 z.j≤l.length∧z.i<z.j∧z.L.length=l.length∧z.L.take z.i=(l.take z.j).filter (fun x=> !P x)∧z.L.drop z.j=l.drop z.j
theorem RM{l m:List BB}{j:Nat}(h:m.drop j=l.drop j)(hl:m.length=l.length)(hj:j<l.length):m.getD j AC.AH=l.getD j AC.AH:=by
 have:(m.drop j)[0]?=(l.drop j)[0]?:=by rw [h]
 rw [T!,T!]at this;simp only [J!];rw [show j=j+0 from rfl,this]
theorem HB.Vv{z:HB}{l:List BB}{P:BB→Bool}(h:z.ok l P)(hj:z.j<l.length)(hP:P (z.L.getD z.j AC.AH)=false):(⟨z.i+1,z.j+1,z.L.set z.i (z.L.getD z.j AC.AH)⟩:HB).ok l P:=by
 obtain⟨h1,h2,h3,h4,h5⟩:=h;have e:=RM h5 h3 hj;refine⟨hj,by show z.i+1<z.j+1;omega,by show(z.L.set _ _).length=_;rw [List.length_set];exact h3,?_,?_⟩
 ·show(z.L.set z.i (z.L.getD z.j AC.AH)).take (z.i+1)=_
  have h6:z.i<z.L.length:=by omega
  rw [K?,if_pos h6,List.take_append,List.take_of_length_le NQ,K!,M_ Ca,show z.i+1-z.i=0+1 by omega,List.take_succ_cons,V?,h4,Kg hj,L?,←e,L! (by show(!P _)=true;rw [hP];rfl),N!]
 ·show(z.L.set z.i (z.L.getD z.j AC.AH)).drop (z.j+1)=_;rw [List.drop_set_of_lt Ca]
  have:=congrArg (W? 1) h5
  rwa [Q!,Q!]at this
theorem HB.skip{z:HB}{l:List BB}{P:BB→Bool}(h:z.ok l P)(hj:z.j<l.length)(hP:P (z.L.getD z.j AC.AH)=true):(⟨z.i,z.j+1,z.L⟩:HB).ok l P:=by
 obtain⟨h1,h2,h3,h4,h5⟩:=h;have e:=RM h5 h3 hj;refine⟨hj,by show z.i<z.j+1;omega,h3,?_,?_⟩
 ·show z.L.take z.i=(l.take (z.j+1)).filter _;rw [h4,Kg hj,L?,←e,L_ (by show ¬(!P _)=true;rw [hP];simp),N!,P_]
 ·show z.L.drop (z.j+1)=_
  have:=congrArg (W? 1) h5
  rwa [Q!,Q!]at this
set_option maxHeartbeats 1000000 in
theorem Rb(l:List BB)(p:Option Addr)(b o c:Nat)(s:List Value)(f:FuncId)(us:List Value)(P:BB→Bool)(G:List BB→HP)(R:HP)[Ac Tryz.prog f](hs:Sl p b o l.length c)(hc:l.length*3+s.length=c*3)(hl:l.length<1000000000)(hf:P3 B f us l P G):
  Fn Tryz.prog B 161 [.slice p l.length c,CN f us] (G []*(AB b o l s*R)) (fun v H'=>B5 (G l*R) (l.filter (fun x=> !P x)) v H'):=by
 refine mI Tryz.func161 ?_;refine J9 ?_;refine mE rfl (tK l p b o c s f us P G R hs hl hf) ?_;rintro _ _ ⟨kz,mz,rfl,hkz,rfl⟩;refine J7 ?_;refine JL (C4 (i:=kz) (j:= -1) rfl rfl) ?_;refine J2 ?_;refine mC (fun h12=>?_) (fun h12=>?_)
 ·obtain⟨_,rfl,hk3⟩:=hkz.resolve_right (fun⟨k,h,_⟩=>by omega)
  have hnone:l.filter (fun x=> !P x)=l:=by have:=eI DH hk3;rwa [N_]at this
  refine J8 ?_;exact mr [4] rfl rfl ⟨p,b,o,c,s,SX,by rw [hnone];exact hs,by rw [hnone];exact hc,by rw [hnone,N_];ac_rfl⟩
 obtain⟨k,rfl,hk1,rfl,hk2,hk3⟩:=hkz.resolve_left (fun h=>h12 h.1);refine QP (E':=[(5,iN k),(0,.slice p l.length c),(1,CN f us)]) EG ?_;refine J6 ?_;refine KC ?_;refine J4 ?_
 refine Bm (α:=HB) (fun z=>[(0,.slice p l.length c),(1,CN f us),(5,iN z.i),(6,iN z.j)]) (fun z=>G (l.take z.j)*(AB b o z.L s*R)) (fun z=>z.ok l P) (fun z=>l.length-z.j) ⟨k,k+1,l⟩ ⟨by show k+1≤l.length;omega,by show k<k+1;omega,rfl,by show l.take k=(l.take (k+1)).filter _;rw [Kg hk1,L?,eI Ca hk3,L_ (by show ¬(!P _)=true;rw [hk2];simp),N!,P_],rfl⟩ C9 rfl ?_
 rintro z hz;have hz1:=hz.1;have hz2:=hz.2.1;have hz3:=hz.2.2.1;refine J9 ?_;refine mC (fun h19=>?_) (fun h19=>?_)
 ·have hgd:=RM hz.2.2.2.2 hz3 h19
  have ets:l.take (z.j+1)=l.take z.j++[z.L.getD z.j AC.AH]:=by rw [Kg h19,hgd]
  refine J8 ?_;refine JL Lm ?_;refine JL (IX (xs:=z.L) rfl inferInstance Ca) ?_;refine Kr ?_;rintro _ _ ⟨b7,rfl,rfl⟩;refine Bi (De rfl rfl Ch (AC.one _)) ?_;refine Il ?_;refine JL bY ?_;refine A9 (H':=G (l.take z.j)*(AB b o z.L s*(HP.AA b7 0 (Br (z.L.getD z.j AC.AH))*R))) Cf ?_;refine Ag (Ht rfl rfl (hf (l.take z.j) (z.L.getD z.j AC.AH) _ ⟨z.j+1,Ca,ets⟩)) rfl ?_;refine JR ?_;refine I1 ?_;refine mc (fun h29=>?_) (fun h29=>?_)
  ·skip
   have h29:P (z.L.getD z.j AC.AH)=false:=by simpa using h29
   refine J4 ?_;refine JL bY ?_;refine JL Lm ?_;refine A9 (H':=AB b o z.L s*(HP.AA b7 0 (Br (z.L.getD z.j AC.AH))*(G (l.take z.j++[z.L.getD z.j AC.AH])*R))) Cf ?_;refine Bi (tO (z.L.getD z.j AC.AH) (k:=z.i) rfl rfl Ca) ?_;refine JR ?_;refine J2 ?_;refine HW (AB b o (z.L.set z.i (z.L.getD z.j AC.AH)) s*(G (l.take z.j++[z.L.getD z.j AC.AH])*R)) ?_;refine J2 ?_;refine KC ?_;refine J6 ?_;refine E7 ?_
   first
    |exact Ba ⟨z.i+1,z.j+1,z.L.set z.i (z.L.getD z.j AC.AH)⟩ (HB.Vv hz h19 h29) OK C9 cH
    |exact Ba ⟨z.i,z.j+1,z.L⟩ (HB.skip hz h19 h29) OK C9 XR
  have h29:P (z.L.getD z.j AC.AH)=true:=by simpa using h29
  refine HW (G (l.take z.j++[z.L.getD z.j AC.AH])*(AB b o z.L s*R)) ?_;refine Kv ?_
  first
   |exact Ba ⟨z.i+1,z.j+1,z.L.set z.i (z.L.getD z.j AC.AH)⟩ (HB.Vv hz h19 h29) OK C9 cH
   |exact Ba ⟨z.i,z.j+1,z.L⟩ (HB.skip hz h19 h29) OK C9 XR
 refine J6 ?_
 obtain rfl':z.j=l.length:=by omega
 refine Ai (H':=HP.AA b o (AD z.L++s)*(G (l.take z.j)*R)) Oh ?_
 have hfl:(AD z.L++s).length=c*3:=by rw [N?,Bp,hz3];exact hc
 have hfi:z.L.take z.i=l.filter (fun x=> !P x):=by rw [hz.2.2.2.1,rfl',N_]
 refine J3 ?_;refine JL Ih ?_;refine Bi (N6 (sz:=3) (b:=b) (o:=o) (k:=z.i) rfl (Ei (k:=l.length) hs (by omega:z.i≤l.length) hs.2 rfl) (by rw [hfl];have:=hs.2;omega) rfl Cc) ?_;rintro _ _ ⟨L',k1,k2,k3,rfl⟩;refine J6 ?_;refine JL SW ?_;refine J4 ?_;exact mR [4] (HP.AA b o L'*(G l*R)) (hE:=by rw [rfl',N_];infer_instance) rfl rfl ⟨p,b,o,c,L'.drop (z.i*3),by rw [←hfi,K!,M_ Ca];rfl,⟨hs.1,by rw [←hfi,K!,M_ Ca];have:=hs.2;omega⟩,by rw [←hfi,K!,M_ Ca,U_,k1,hfl];show z.i*3+_=c*3;have:=hs.2;omega,by congr 1;refine M0 ?_;refine Nn (α:=BB) (k:=z.i) ?_;refine Eq.trans k2 ?_;rw [←hfi];exact NH z.L z.i s Ca⟩
end
section
variable{B:World}
theorem Ro{m:BB}{l:List BB}(h:m∈l):Ad B (AO A0 l) m.a.b m.a.o m.fs:=by
 obtain⟨k,hk,rfl⟩:=P! h;rw [Oa A0 l k AC.AH hk,J!,J? hk,M?];unfold A0;infer_instance
structure Me where
 ws:List BY
 la:A1
 lo:List BB
structure Me.Ok(z:Me)(ws0:List AY)(lo0:List BB)(P:Dl→Bool)(pre:List BB):Prop where
 ws:∀w∈z.ws,w.ok
 mw:z.ws.map (·.w)=((pre.filter (fun m=>P m.Ao)).map (·.Ao)).foldl MS ws0
 la:z.la.ok z.lo
 lo:z.lo=lo0++pre.filter (fun m=>P m.Ao)
def IU(cb:Nat)(x:CC)(ws0:List AY)(lo0:List BB)(P:Dl→Bool)(K:HP)(pre:List BB):HP:=
 HP.ex fun z:Me=>HP.pr (z.Ok ws0 lo0 P pre)*(AQ cb {x with lv:=z.la.v z.lo.length}*(A4 cb z.ws*(z.la.h z.lo*K)))
set_option maxHeartbeats 2000000 in
theorem zG(cb AG bl bc:Nat)(x:CC)(ws0:List AY)(lo0 l:List BB)(lost:Dl→Bool)(f:FuncId)(us:List Value)(G0:HP)[Ac Tryz.prog f](hw0:Dm AG ws0)(hlok:∀m∈l,m.ok)
  (hfr:∀m∈l,∀g∈m.Ao.Aw,EU ws0 g)(hlen:l.length+lo0.length<100000000)(hfl:∀m∈l,m.fs.length<100000000)
  (hf0:∀(x':CC) (m:BB) (R':HP),x'.BZ=x.BZ→m∈l→Fn Tryz.prog B f (MB m::us) (AQ cb x'*(G0*R')) (fun v H'=>v=.bool (lost m.Ao)∧H'=AQ cb x'*(G0*R'))):
  P3 B 162 [ptr bl 0,ptr bc 0] l (fun m=>lost m.Ao) (IU cb x ws0 lo0 lost (G0*(HP.AA bl 0 [CN f us]*(HP.AA bc 0 [ptr cb 0]*AO A0 l)))):=by
 intro pre fm R hpre;obtain⟨mm,hmm,hpre⟩:=hpre;have hmem:fm∈l:=T_ (i:=mm) (by rw [hpre];simp);have hsub:∀m∈pre,m∈l:=fun m hm=>T_ (i:=mm) (by rw [hpre];simp [hm]);have hfm:=hlok fm hmem;have hfl2:=hfl fm hmem;have hrd:=Ro (B:=B) hmem;refine mI Tryz.func162 ?_;unfold IU;refine Ld ?_;rintro⟨ws,la,lo⟩ ⟨hz1,hz2,hz3,hz4⟩;dsimp only at hz1 hz2 hz3 hz4⊢
 obtain⟨wo1,wo2,_⟩:=Mh (AG:=AG) ((pre.filter (fun m=>lost m.Ao)).map (·.Ao)) ws0 hw0 (fun p hp g hg=>by
  obtain⟨m,hm,rfl⟩:=O_.1 hp
  exact hfr m (hsub m (R?.1 hm).1) g hg)
 rw [←hz2]at wo1 wo2;refine Ai (H':=AQ cb {x with lv:=la.v lo.length}*(A4 cb ws*(AB la.b la.o lo la.s*(G0*(HP.AA bl 0 [CN f us]*(HP.AA bc 0 [ptr cb 0]*(AO A0 l*R))))))) Cf ?_;refine J2 ?_;refine Ag (Db (l:=Br fm) rfl rfl) rfl ?_;rintro _ _ ⟨b3,rfl,rfl⟩;refine J7 ?_;refine JL (Ds (l:=Br fm) rfl rfl) ?_;refine A9 (H':=AQ cb {x with lv:=la.v lo.length}*(G0*(A4 cb ws*(AB la.b la.o lo la.s*(HP.AA bl 0 [CN f us]*(HP.AA bc 0 [ptr cb 0]*(AO A0 l*(HP.AA b3 0 (Br fm)*R)))))))) Cf ?_;refine Ag (Ht rfl rfl (hf0 _ fm _ rfl hmem)) rfl ?_;refine JR ?_;refine JL LD ?_;refine J2 ?_;refine mc (fun h10=>?_) (fun h10=>?_)
 ·skip
  have h10:lost fm.Ao=false:=by simpa using h10
  refine J7 ?_
  have hfe:(pre++[fm]).filter (fun m=>lost m.Ao)=pre.filter (fun m=>lost m.Ao):=by
   rw [L?,L_ (by rw [h10];simp),N!,P_]
  exact mR [4] (IU cb x ws0 lo0 lost (G0*(HP.AA bl 0 [CN f us]*(HP.AA bc 0 [ptr cb 0]*AO A0 l))) (pre++[fm])*R) (hE:=⟨fun ww hw=>Ft (G:=HP.AA b3 0 (Br fm)) (⟨ws,la,lo⟩:Me) ⟨hz1,by rw [hfe];exact hz2,hz3,by rw [hfe];exact hz4⟩ (by show _=HP.AA b3 0 (Br fm)*(AQ cb {x with lv:=la.v lo.length}*(A4 cb ws*(AB la.b la.o lo la.s*(G0*(HP.AA bl 0 [CN f us]*(HP.AA bc 0 [ptr cb 0]*AO A0 l)))))*R);ac_rfl) ww hw⟩) rfl rfl ⟨by rw [h10];rfl,rfl⟩
 have h10:lost fm.Ao=true:=by simpa using h10
 refine Ai (H':=AQ cb {x with lv:=la.v lo.length}*(A4 cb ws*(AB la.b la.o lo la.s*(G0*(HP.AA bl 0 [CN f us]*(HP.AA bc 0 [ptr cb 0]*(AO A0 l*(HP.AA b3 0 (Br fm)*R)))))))) Cf ?_;refine J8 ?_;refine G3 ?_
 refine Bm (α:=Nat×List BY) (fun z=>[(1,ptr bl 0),(2,ptr bc 0),(3,ptr b3 0),(12,.slice fm.a.p fm.fs.length fm.a.c),(13,iN fm.fs.length),(14,iN z.1)]) (fun z=>AQ cb {x with lv:=la.v lo.length}*(A4 cb z.2*(AB la.b la.o lo la.s*(G0*(HP.AA bl 0 [CN f us]*(HP.AA bc 0 [ptr cb 0]*(AO A0 l*(HP.AA b3 0 (Br fm)*R)))))))) (fun z=>z.1≤fm.fs.length∧(∀w∈z.2,w.ok)∧z.2.map (·.w)=((fm.fs.take z.1).map (·.f)).foldl HR (ws.map (·.w))) (fun z=>fm.fs.length-z.1) (0,ws) ⟨U? _,hz1,rfl⟩ V9 rfl ?_
 rintro⟨i,wz⟩ ⟨q1,q2,q3⟩;dsimp only at q1 q2 q3⊢
 obtain⟨ag1,ag2,_⟩:=TI (AG:=AG) ((fm.fs.take i).map (·.f)) (ws.map (·.w)) wo1 (fun g hg=>by
  obtain⟨rr,hrr,rfl⟩:=O_.1 hg
  exact(hfr fm hmem rr.f dT).same wo2)
 rw [←q3]at ag1 ag2
 have hwl:wz.length=4:=by have:=ag1.len;simpa using this
 refine J6 ?_;refine mC (fun h15=>?_) (fun h15=>?_)
 ·skip
  have hgd:fm.fs.getD i AC.AH=fm.fs[i]:=by rw [J!,J? h15];rfl
  have hfo:EU (wz.map (·.w)) (fm.fs.getD i AC.AH).f:=by
   rw [hgd];exact((hfr fm hmem _ bD).same wo2).same ag2
  obtain⟨j,hst⟩:∃j:Nat,(fm.fs.getD i AC.AH).f.stream=(j:Int):=⟨_,(Int.toNat_of_nonneg hfo.1).symm⟩
  have hj:j<4:=by have:=hfo.2.1;omega
  have hgw:(wz.map (·.w)).getD j As=(wz.getD j AC.AH).w:=by
   simp only [J!,Q?,J? SK];rfl
  have hwj:=ag1.ok j hj;rw [hgw]at hwj;refine J6 ?_;refine JL (HG rfl rfl hfm.1 Ca rfl) ?_;refine JL Y5 ?_;refine Ag RR rfl ?_;rintro _ _ ⟨b6,rfl,rfl⟩;refine Bi (De rfl rfl Ch (AC.one _)) ?_;refine FB ?_;refine JL (Ds (l:=AM (fm.fs.getD i AC.AH)) rfl rfl) ?_;refine A9 (H':=HP.AA cb (0+43+j*10) (Bg (wz.getD j AC.AH))*(Bl (wz.getD j AC.AH)*(B' cb wz j*(AQ cb {x with lv:=la.v lo.length}*(HP.AA b6 0 (AM (fm.fs.getD i AC.AH))*(AB la.b la.o lo la.s*(G0*(HP.AA bl 0 [CN f us]*(HP.AA bc 0 [ptr cb 0]*(AO A0 l*(HP.AA b3 0 (Br fm)*R))))))))))) (by rw [JA cb wz j Ca];show HP.AA b6 0 (AM _)*_=_;ac_rfl) ?_;refine mE rfl (zA cb j AG (wz.getD j AC.AH) (fm.fs.getD i AC.AH) _ hst hj (q2 _ (I' Ca)) hwj (fun hk=>by have:=hfo.2.2 hk;rw [hst,K_,hgw]at this;exact this)) ?_;rintro _ _ ⟨w2,hw2,hw2e,rfl⟩;refine Hp ?_;refine Bd (AQ cb {x with lv:=la.v lo.length}*(A4 cb (wz.set j w2)*(AB la.b la.o lo la.s*(G0*(HP.AA bl 0 [CN f us]*(HP.AA bc 0 [ptr cb 0]*(AO A0 l*(HP.AA b3 0 (Br fm)*R)))))))) (hE:=?_) ?_
  ·rw [Kl cb wz j w2 Ca];exact⟨fun ww hw=>Sat.right (A:=HP.AA b6 0 (AM (fm.fs.getD i AC.AH))) (S? Cm hw)⟩
  exact Ba (i+1,wz.set j w2) ⟨Ca,fun a ha=>KS (P:=BY.ok) q2 hw2 ha,by
   show(wz.set j w2).map (·.w)=((fm.fs.take (i+1)).map (·.f)).foldl HR (ws.map (·.w))
   rw [T?,hw2e,O? h15,S_,O!,←q3]
   show _=HR (wz.map (·.w)) (fm.fs[i]).f
   rw [←hgd]
   unfold HR
   rw [hst,K_,hgw]⟩ Xh V9 rfl
 refine J6 ?_
 obtain rfl':i=fm.fs.length:=by omega
 rw [rfl',N_]at q3;refine Ai (H':=AB la.b la.o lo la.s*(AQ cb {x with lv:=la.v lo.length}*(A4 cb wz*(G0*(HP.AA bl 0 [CN f us]*(HP.AA bc 0 [ptr cb 0]*(AO A0 l*(HP.AA b3 0 (Br fm)*R)))))))) Cf ?_
 have hlol:lo.length≤lo0.length+l.length:=by
  rw [hz4,N?];have h1:=List.length_filter_le (fun m:BB=>lost m.Ao) pre;have h2:=congrArg List.length hpre;rw [N?,K!]at h2;omega
 refine Dx (AQ cb {x with lv:=la.v lo.length}*(A4 cb wz*(G0*(HP.AA bl 0 [CN f us]*(HP.AA bc 0 [ptr cb 0]*(AO A0 l*(HP.AA b3 0 (Br fm)*R))))))) 10 11 Dy rfl Cb ?_;refine Jh ?_;refine JT 5 rfl (Ds (l:=Br fm) rfl rfl) ?_;refine Am 6 Cb rfl rfl (Gq (cs:=Br fm) rfl Cp rfl rfl) ?_;rintro _ _ ⟨b28,rfl,rfl⟩;refine A6 ?_;refine EI (H':=AB la.b la.o lo la.s*(HP.AA b28 0 (AD [fm])*(AQ cb {x with lv:=la.v lo.length}*(A4 cb wz*(G0*(HP.AA bl 0 [CN f us]*(HP.AA bc 0 [ptr cb 0]*(AO A0 l*(HP.AA b3 0 (Br fm)*R))))))))) (by show HP.AA b28 0 _*_=_;rw [show AD [fm]=Br fm from P_ _];ac_rfl) ?_;refine Am 7 Cb rfl rfl (CX (ys:=[fm]) (bb:=b28) (oo:=0) (cc:=1) rfl hz3.1 hz3.2 rfl CG inferInstance rfl Cn Ca) ?_;rintro _ _ ⟨p29,b29,o29,c29,s29,rfl,hs29,hc29,rfl⟩;refine A6 ?_;refine Jn 8 ?_;refine PH ?_;refine DB ?_;refine J7 ?_
 have hfe:(pre++[fm]).filter (fun m=>lost m.Ao)=pre.filter (fun m=>lost m.Ao)++[fm]:=by
  rw [L?,L! (p:=fun m:BB=>lost m.Ao) (a:=fm) h10,N!]
 exact mR [4] (IU cb x ws0 lo0 lost (G0*(HP.AA bl 0 [CN f us]*(HP.AA bc 0 [ptr cb 0]*AO A0 l))) (pre++[fm])*R) (hE:=⟨fun ww hw=>Ft (G:=HP.AA b3 0 (Br fm)*HP.AA b28 0 (AD [fm])) (⟨wz,⟨p29,b29,o29,c29,s29⟩,lo++[fm]⟩:Me) ⟨q2,by show wz.map (·.w)=_;rw [hfe,S_,O!,←hz2,q3];rfl,⟨hs29,hc29⟩,by show lo++[fm]=_;rw [hfe,hz4,M!]⟩ (by show _=HP.AA b3 0 (Br fm)*HP.AA b28 0 (AD [fm])*(AQ cb {x with lv:=.slice p29 (lo++[fm]).length c29}*(A4 cb wz*(AB b29 o29 (lo++[fm]) s29*(G0*(HP.AA bl 0 [CN f us]*(HP.AA bc 0 [ptr cb 0]*AO A0 l)))))*R);ac_rfl) ww hw⟩) rfl rfl ⟨by rw [h10];rfl,rfl⟩
theorem Ay{P:Program}{n:Nat}{o:Oper}{E:A2}{H:HP}{v v':Value}(h:Aa P B n o E H v)(e:v=v'):Aa P B n o E H v':=e▸h
theorem pA{cb:Nat}{x:CC}{ws0:List AY}{lo0 pre:List BB}{P:Dl→Bool}{K R:HP}{w:World}(h:Sat B (IU cb x ws0 lo0 P K pre*R) w):Sat B (K*R) w:=by
 unfold IU at h;rw [HP.Gs]at h;obtain⟨z,h⟩:=Sat.ex.1 h;rw [HP.assoc]at h;have h2:=(Sat.pr.1 h).2;refine Sat.right (A:=AQ cb {x with lv:=z.la.v z.lo.length}*(A4 cb z.ws*z.la.h z.lo)) ?_;refine S? ?_ h2;congr 1;ac_rfl
theorem Sv{P:Program}{n:Nat}{E:A2}{D:Bu}{ops:Array Oper}{Q:Exit→Act→World→Prop}{R0:HP}{last fuel:Nat}{ls:Array Bool}{α:Type}{p:α→Prop}{A:α→HP}{R:HP}(h:∀z,p z→WA P B ops Q R0 last fuel ls n E D (A z*R)):WA P B ops Q R0 last fuel ls n E D ((HP.ex fun z=>HP.pr (p z)*A z)*R):=by
 intro a w h1 h2 h3;rw [HP.Gs]at h3;obtain⟨z,h4⟩:=Sat.ex.1 h3;rw [HP.assoc]at h4;obtain⟨hp,h5⟩:=Sat.pr.1 h4;exact h z hp a w h1 h2 h5
theorem Rm{P:Program}{n:Nat}{E:A2}{D:Bu}{ops:Array Oper}{Q:Exit→Act→World→Prop}{R0 H:HP}{last fuel:Nat}{ls:Array Bool}(H':HP)[hE:Bq B H H'](h:WA P B ops Q R0 last fuel ls n E D H'):WA P B ops Q R0 last fuel ls n E D H:=
 fun a w h1 h2 h3=>h a w h1 h2 (hE.get w h3)
theorem PF{α:Type}(f:α→HP)(P:α→Bool):∀l:List α,AO f l=AO f (l.filter (fun x=> !P x))*AO f (l.filter P)
 |[]=>by simp [E9]
 |a::l=>by
  rw [Fc,PF f P l];cases h:P a
  ·rw [L! PZ,L_ (by rw [h];simp),Fc];ac_rfl
  ·rw [L_ (by rw [h];simp),L! h,Fc];ac_rfl
theorem Qc(l:List BB)(P:Dl→Bool):(l.filter (fun m=>P m.Ao)).map (·.Ao)=(l.map (·.Ao)).filter P:=by
 induction l with
 |nil=>rfl
 |cons a l ih=>cases h:P a.Ao<;>simp [h,ih]
theorem bX{t:Nat}{m:Ab}(hi:AZ t m.s):∀a∈m.fl,∀g∈a.Ao.Aw,EU m.s.ws g:=fun a ha=>(hi.Ao a.Ao UX).fr
theorem aZ{t:Nat}{m:Ab}(hi:AZ t m.s):∀a∈m.lo,∀g∈a.Ao.Aw,EU m.s.ws g:=fun a ha=>(hi.Ao a.Ao Sb).fr
theorem YQ{t:Nat}{m:Ab}(hi:AZ t m.s):∀a∈m.fl,a.fs.length<100000000:=fun a ha=>by
 have:=(hi.Ao a.Ao UX).len
 have e:a.Ao.Aw.length=a.fs.length:=S! _;omega
theorem UJ{t:Nat}{m:Ab}(hi:AZ t m.s)(ht:t<1000000):m.fl.length+m.lo.length<100000000:=by
 have h1:=hi.cnt;have h2:=hi.nx;have e1:m.s.BK.length=m.fl.length:=S! _;have e2:m.s.lost.length=m.lo.length:=S! _;omega
set_option maxHeartbeats 2000000 in
theorem bT(cb t:Nat)(m:Ab)(lost:Dl→Bool)(f:FuncId)(us:List Value)(G0 R:HP)[Ac Tryz.prog f](hm:m.ok)(hi:AZ t m.s)(ht:t<1000000)
  (hf0:∀(x':CC) (a:BB) (R':HP),x'.BZ=m.x.BZ→a∈m.fl→Fn Tryz.prog B f (MB a::us) (AQ cb x'*(G0*R')) (fun v H'=>v=.bool (lost a.Ao)∧H'=AQ cb x'*(G0*R'))):
  Fn Tryz.prog B 133 [ptr cb 0,CN f us] (AT cb m*(G0*R)) (fun _ H'=>∃m':Ab,m'.ok∧m'.s=m.s.GC lost∧H'=AT cb m'*(G0*R)):=by
 refine mI Tryz.func133 ?_;have hlen:=UJ hi ht
 have ex:({m.x with lv:=m.la.v m.lo.length}:CC)=m.x:=by rw [←hm.lv]
 refine KD ?_;rintro _ _ ⟨b2,rfl,rfl⟩;refine Ky ?_;rintro _ _ ⟨b3,rfl,rfl⟩;refine J2 ?_;refine Ai (H':=HP.AA b3 0 [CN f us]*(HP.AA b2 0 [ptr cb 0]*(AQ cb m.x*(AS m.x.gq m.ga m.AP*(A4 cb m.ws*(BU cb m.rs*(AB m.fa.b m.fa.o m.fl m.fa.s*(AB m.la.b m.la.o m.lo m.la.s*(AO A0 m.fl*(AO A0 m.lo*(G0*R))))))))))) SI ?_;refine Dx (HP.AA b3 0 [CN f us]*HP.AA b2 0 [ptr cb 0]) 9 10 Dy rfl Cb ?_;refine Jd 0 ?_;refine Jd 1 ?_;refine JF ?_;refine JT 5 rfl GT ?_;refine EV 4 Cb rfl rfl Qy TU ?_;refine Rm (IU cb m.x m.s.ws m.lo lost (G0*(HP.AA b3 0 [CN f us]*(HP.AA b2 0 [ptr cb 0]*AO A0 m.fl))) []*(AB m.fa.b m.fa.o m.fl m.fa.s*(AS m.x.gq m.ga m.AP*(BU cb m.rs*(AO A0 m.lo*R))))) (hE:=⟨fun ww hw=>?_⟩) ?_
 ·refine Hy (⟨m.ws,m.la,m.lo⟩:Me) ⟨hm.ws,rfl,hm.la,Cg⟩ ?_ ww hw;dsimp only;rw [ex];unfold A1.h;ac_rfl
 refine Am 6 Cb rfl rfl (BJ rfl (Rb m.fl m.fa.p m.fa.b m.fa.o m.fa.c m.fa.s _ [ptr b3 0,ptr b2 0] (fun a=>lost a.Ao) (IU cb m.x m.s.ws m.lo lost (G0*(HP.AA b3 0 [CN f us]*(HP.AA b2 0 [ptr cb 0]*AO A0 m.fl)))) (AS m.x.gq m.ga m.AP*(BU cb m.rs*(AO A0 m.lo*R))) hm.fa.1 hm.fa.2 Ca (zG cb m.x.AG b3 b2 m.x m.s.ws m.lo m.fl lost f us G0 hi.ws hm.fl (bX hi) Ca (YQ hi) hf0))) ?_;rintro _ _ ⟨p10,b10,o10,c10,s10,rfl,hs10,hc10,rfl⟩;refine⟨.inr ⟨fun ww hw=>Bq.get (B:=B) (H:=(G0*(HP.AA b3 0 [CN f us]*(HP.AA b2 0 [ptr cb 0]*AO A0 m.fl)))*(AB b10 o10 (m.fl.filter (fun x=> !lost x.Ao)) s10*(AS m.x.gq m.ga m.AP*(BU cb m.rs*(AO A0 m.lo*R))))) ww (pA (S? Cm hw))⟩,?_⟩;refine EI (H':=IU cb m.x m.s.ws m.lo lost (G0*(HP.AA b3 0 [CN f us]*(HP.AA b2 0 [ptr cb 0]*AO A0 m.fl))) m.fl*(AB b10 o10 (m.fl.filter (fun x=> !lost x.Ao)) s10*(AS m.x.gq m.ga m.AP*(BU cb m.rs*(AO A0 m.lo*R))))) Cf ?_;unfold IU;refine Sv ?_;rintro⟨ws,la,lo⟩ ⟨hz1,hz2,hz3,hz4⟩;dsimp only at hz1 hz2 hz3 hz4⊢;refine Jn 7 ?_;refine Jf 8 ?_;refine DV 9 Cb rfl (Eh (v:=.slice p10 (m.fl.filter (fun x=> !lost x.Ao)).length c10) rfl rfl rfl trivial) ?_;refine DB ?_
 obtain⟨m2,hm2⟩:∃m2:Ab,m2=⟨{m.x with lv:=la.v lo.length,fv:=.slice p10 (m.fl.filter (fun x=> !lost x.Ao)).length c10},m.AP,m.ga,ws,m.rs,m.fl.filter (fun x=> !lost x.Ao),lo,⟨p10,b10,o10,c10,s10⟩,la⟩:=Bh
 refine Ly (ts:=[]) (AT cb m2*(G0*R)) (hE:=?_) rfl rfl ⟨m2,?_,?_,rfl⟩
 ·rw [hm2];refine⟨fun ww hw=>?_⟩;refine Sat.right (A:=HP.AA b2 0 [ptr cb 0]*HP.AA b3 0 [CN f us]) ?_;refine S? ?_ hw;congr 1;show _=HP.AA b2 0 [ptr cb 0]*HP.AA b3 0 [CN f us]*(AQ cb {m.x with lv:=la.v lo.length,fv:=.slice p10 (m.fl.filter (fun x=> !lost x.Ao)).length c10}*(AS m.x.gq m.ga m.AP*(A4 cb ws*(BU cb m.rs*(AB b10 o10 (m.fl.filter (fun x=> !lost x.Ao)) s10*(AB la.b la.o lo la.s*(AO A0 (m.fl.filter (fun x=> !lost x.Ao))*AO A0 lo))))))*(G0*R));rw [hz4,Ji,PF A0 (fun a:BB=>lost a.Ao) m.fl];unfold A1.h;ac_rfl
 ·rw [hm2]
  exact⟨hm.g,hz1,hm.rs,fun a ha=>hm.fl a (R?.1 ha).1,fun a ha=>by
   rw [hz4]at ha
   rcases List.mem_append.1 ha with h|h
   ·exact hm.lo a h
   ·exact hm.fl a (R?.1 h).1,⟨hs10,hc10⟩,hz3,rfl,rfl⟩
 ·rw [hm2];unfold AF.GC Ab.s;dsimp only;have e1:=Qc m.fl lost;have e2:=Qc m.fl (fun p=> !lost p);rw [e1]at hz2;rw [hz2,e2,hz4,S_,e1];rfl
theorem sJ(cb:Nat)(x:CC)(a:BB)(R:HP):
  Fn Tryz.prog B 134 [MB a] (AQ cb x*(HP.BD*R)) (fun v H'=>v=.bool ((fun _:Dl=>true) a.Ao)∧H'=AQ cb x*(HP.BD*R)):=by
 refine mI Tryz.func134 ?_;refine J2 ?_;refine Ag (Db (l:=Br a) rfl rfl) rfl ?_;rintro _ _ ⟨b1,rfl,rfl⟩;refine J9 ?_;exact mR [2] (AQ cb x*(HP.BD*R)) rfl rfl BW
theorem AZ.now{t:Nat}{c:AF}(h:AZ t c):AZ (t+1) {c with now:=c.now+1}:=
 {h.mono ET with nw:=by have:=h.nw;show c.now+1≤t+1;omega,Ao:=fun p hp=>let g:=h.Ao p hp;⟨g.num,Nat.le_succ_of_le g.at_,g.len,g.fr⟩}
theorem mJ{l:List BB}{P:Dl→Bool}{i:Nat}(hi:i<l.length)(h:P (l.getD i AC.AH).Ao=true):(l.map (·.Ao)).any P=true:=by
 rw [List.any_eq_true];exact⟨_,O_.2 ⟨l.getD i AC.AH,I' hi,rfl⟩,h⟩
theorem t8{l:List BB}{P:Dl→Bool}(h:∀j,j<l.length→P (l.getD j AC.AH).Ao=false):(l.map (·.Ao)).any P=false:=by
 rw [List.any_eq_false];intro p hp;obtain⟨a,ha,rfl⟩:=O_.1 hp;obtain⟨j,hj,rfl⟩:=P! ha
 have:=h j hj
 rw [J!,J? hj,M?]at this;rw [this];simp
set_option maxHeartbeats 2000000 in
theorem kL(cb t:Nat)(m:Ab)(R:HP)(hm:m.ok)(hi:AZ t m.s)(ht:t<900000):
  Fn Tryz.prog B 91 [ptr cb 0] (AT cb m*R) (fun _ H'=>∃m':Ab,m'.ok∧m'.s=m.s.tick∧H'=AT cb m'*R):=by
 refine mI Tryz.func91 ?_;refine Ai (H':=AQ cb m.x*(AS m.x.gq m.ga m.AP*(A4 cb m.ws*(BU cb m.rs*(AB m.fa.b m.fa.o m.fl m.fa.s*(AB m.la.b m.la.o m.lo m.la.s*(AO A0 m.fl*(AO A0 m.lo*R)))))))) SI ?_;have hcnt:=UJ hi Ca;have hnw:m.x.now≤t:=hi.nw;have hwt:m.x.waits≤8:=hi.wt;have hpw:2^m.x.waits≤2^8:=Nat.pow_le_pow_right Ca hwt
 obtain⟨m1,hm1⟩:∃m1:Ab,m1=m.Aq {m.x with now:=m.x.now+1}:=Bh
 have hok1:m1.ok:=by rw [hm1];exact⟨hm.g,hm.ws,hm.rs,hm.fl,hm.lo,hm.fa,hm.la,hm.fv,hm.lv⟩
 have hs1:m1.s={m.s with now:=m.s.now+1}:=by rw [hm1];rfl
 have hi1:AZ (t+1) m1.s:=by rw [hs1];exact hi.now
 have hH1:∀R':HP,AT cb m1*R'=AQ cb {m.x with now:=m.x.now+1}*(AS m.x.gq m.ga m.AP*(A4 cb m.ws*(BU cb m.rs*(AB m.fa.b m.fa.o m.fl m.fa.s*(AB m.la.b m.la.o m.lo m.la.s*(AO A0 m.fl*(AO A0 m.lo*R'))))))):=by
  intro R';rw [hm1,DJ];show AQ cb _*(AS m.x.gq m.ga m.AP*(A4 cb m.ws*(BU cb m.rs*(DN m*R'))))=_;unfold DN A1.h;ac_rfl
 refine J6 ?_;refine JL Ra ?_;refine CB ?_;refine JL Qy ?_;refine Je ?_;refine Bm (α:=Nat) (fun i=>[(0,ptr cb 0),(14,.slice m.fa.p m.fl.length m.fa.c),(15,iN m.fl.length),(16,iN i)]) (fun i=>AQ cb {m.x with now:=m.x.now+1}*(AS m.x.gq m.ga m.AP*(A4 cb m.ws*(BU cb m.rs*(AB m.fa.b m.fa.o m.fl m.fa.s*(AB m.la.b m.la.o m.lo m.la.s*(AO A0 m.fl*(AO A0 m.lo*R)))))))) (fun i=>i≤m.fl.length∧∀j,j<i→decide ((m.fl.getD j AC.AH).Ao.at_+MG m.s.waits≤m.s.now+1)=false) (fun i=>m.fl.length-i) 0 ⟨U? _,(fun j h=>absurd h O7)⟩ C9 rfl ?_;rintro i ⟨hi1',hi2'⟩;refine J6 ?_;refine mC (fun h17=>?_) (fun h17=>?_)
 ·skip
  have hat:(m.fl.getD i AC.AH).at_≤t:=by
   have hmem:m.fl.getD i AC.AH∈m.fl:=I' h17
   have:=(hi.Ao _ (.inl (O_.2 ⟨_,hmem,rfl⟩))).at_
   exact Nat.le_trans this hi.nw
  refine J6 ?_;refine JL (HG rfl rfl hm.fa.1 Ca rfl) ?_;refine JL (Ay (v':=MB (m.fl.getD i AC.AH)) (IX (xs:=m.fl) rfl inferInstance Ca) rfl) ?_;refine Kr ?_;rintro _ _ ⟨b3,rfl,rfl⟩;refine Bi (De rfl rfl Ch (AC.one (m.fl.getD i AC.AH))) ?_;refine Ep ?_;refine mA 14 14 ?_;refine It ?_;refine Jm 2 ?_;refine Jn 3 ?_;refine I5 ?_;refine JT 6 rfl (P7 (i:=4) (j:=m.x.waits) rfl rfl Ca) ?_;refine JT 7 rfl (SL (j:=32) rfl rfl) ?_;refine JT 8 rfl Jr ?_;refine Qk ?_;refine JT 13 rfl KV ?_;refine FC ?_;refine mC (fun hexp=>?_) (fun hexp=>?_)
  ·skip
   have hexp:(m.fl.getD i AC.AH).at_+MG m.s.waits≤m.s.now+1:=by
    have e1:4*2^m.x.waits%18446744073709551616=4*2^m.x.waits:=U! Ca;have h0:(m.fl.getD i AC.AH).at_+min (4*2^m.x.waits%18446744073709551616) 32≤m.x.now+1:=hexp;rw [e1]at h0;exact h0
   have hany:m.s.BK.any (fun p=>decide (p.at_+MG m.s.waits≤m.s.now+1))=true:=mJ h17 (decide_eq_true hexp);refine J3 ?_;refine rX (AT cb m1*(HP.BD*R)) (hE:=by rw [HP.BI,hH1 R];infer_instance) ?_;refine mE rfl (bT cb (t+1) m1 (fun _=>true) _ [] HP.BD R hok1 hi1 Ca (fun x a R2 _ _=>sJ cb x a R2)) ?_;rintro _ _ ⟨m2,hok2,hs2,rfl⟩;refine J3 ?_;refine Ai (H':=AQ cb m2.x*(AS m2.x.gq m2.ga m2.AP*(A4 cb m2.ws*(BU cb m2.rs*(DN m2*R))))) (by rw [HP.BI,DJ]) ?_
   have hw2:m2.x.waits=m.x.waits:=by
    have h1:m2.s.waits=m1.s.waits:=by rw [hs2];rfl
    have h2:m1.s.waits=m.s.waits:=by rw [hs1]
    exact h1.trans h2
   refine J6 ?_;refine JL Ra ?_;refine JL (SL (j:=8) rfl rfl) ?_;refine CB ?_
   have ewr:m.s.tick={m2.s with waits:=min (m2.s.waits+1) 8}:=by
    unfold AF.tick;rw [if_pos hany,hs2,hs1];rfl
   refine mR [] (AT cb (m2.Aq {m2.x with waits:=min (m2.x.waits+1) 8})*R) (hE:=by rw [DJ];exact⟨fun ww hw=>hw⟩) rfl rfl ⟨m2.Aq {m2.x with waits:=min (m2.x.waits+1) 8},⟨hok2.g,hok2.ws,hok2.rs,hok2.fl,hok2.lo,hok2.fa,hok2.la,hok2.fv,hok2.lv⟩,Cq,rfl⟩
  have hexp:¬((m.fl.getD i AC.AH).at_+MG m.s.waits≤m.s.now+1):=by
   have e1:4*2^m.x.waits%18446744073709551616=4*2^m.x.waits:=U! Ca;have h0:¬(m.fl.getD i AC.AH).at_+min (4*2^m.x.waits%18446744073709551616) 32≤m.x.now+1:=hexp;rw [e1]at h0;exact h0
  refine Hp ?_;refine Bd (AQ cb {m.x with now:=m.x.now+1}*(AS m.x.gq m.ga m.AP*(A4 cb m.ws*(BU cb m.rs*(AB m.fa.b m.fa.o m.fl m.fa.s*(AB m.la.b m.la.o m.lo m.la.s*(AO A0 m.fl*(AO A0 m.lo*R)))))))) ?_;exact Ba (i+1) ⟨Ca,fun j hj=>by rcases W! j i with h|h;exact hi2' j h;obtain rfl:j=i:=Ca;exact decide_eq_false hexp⟩ Ca C9 rfl
 refine J4 ?_;have hno:m.s.BK.any (fun p=>decide (p.at_+MG m.s.waits≤m.s.now+1))=false:=t8 (fun j hj=>hi2' j Ca)
 have ewr:m.s.tick=m1.s:=by
  unfold AF.tick;rw [if_neg (by rw [hno];simp),hs1]
 exact Ly (ts:=[]) (AT cb m1*R) (hE:=by rw [hH1 R];infer_instance) rfl rfl ⟨m1,hok1,ewr.symm,rfl⟩
end
end Go.Proofs.YtgfdlpcdjklcoaaGreatDoor
