/- A part of this proof: steps of the program, plain facts; no condition. -/
import Derived.Test.YtgfdlpcdjklcoaaGreatDoorG6
namespace Go.Proofs.YtgfdlpcdjklcoaaGreatDoor
open Go Go.RowKit
open _root_.List renaming getD_eq_getElem?_getD→a_,getElem?_eq_getElem→b_,length_take→d_,set_eq_take_append_cons_drop→e_,filter_cons_of_neg→f_,filter_cons_of_pos→g_,filter_append→g',append_assoc→i_,take_length→kf,filter_nil→kg,length_append→kh,mem_map→ki,foldl_append→kj,take_succ_eq_append_getElem→km,append_nil→kn,getElem_of_mem→ko,drop_drop→kr,getElem?_map→kt,mem_filter→kw,map_append→kx,length_map→ky,mem_of_mem_take→ld,getElem?_drop→lf,map_set→lh,length_drop→li,foldl_cons→lm,foldl_nil→ln,take_zero→lq,drop→lw
open _root_.Int renaming toNat_natCast→c_
open _root_.Nat renaming min_eq_left→h_,mod_eq_of_lt→lj,zero_le→ll,add_zero→lr,lt_or_ge→lu
open _root_.Option renaming getD_some→j_
open _root_.Bool renaming not_false→kp,and_false→kq,not_true→ku,and_true→kv
open _root_.Eq renaming mp→k_
set_option linter.unusedVariables false
set_option maxRecDepth 20000
set_option linter.unusedSimpArgs false
section
def AU{α:Type}(f:α→HP)(l:List α):HP:=l.foldr (fun a H=>f a*H) HP.BN
theorem FM{α:Type}(f:α→HP):AU f []=HP.BN:=rfl
theorem Fw{α:Type}(f:α→HP)(a:α)(l:List α):AU f (a::l)=f a*AU f l:=rfl
theorem KH{α:Type}(f:α→HP)(l m:List α):AU f (l++m)=AU f l*AU f m:=by
 induction l with
 |nil=>rw [List.nil_append,FM,HP.BR]
 |cons a l ih=>rw [List.cons_append,Fw,Fw,ih,HP.assoc]
def I'{α:Type}(f:α→HP)(l:List α)(k:Nat):HP:=AU f (l.take k)*AU f (l.drop (k+1))
theorem Ma{α:Type}(f:α→HP)(l:List α)(k:Nat)(y:α)(hk:k<l.length):AU f (l.set k y)=f y*I' f l k:=by
 rw [e_,if_pos hk,KH,Fw,I',HP.CV]
theorem N3{α:Type}(l:List α)(k:Nat)(d:α)(hk:k<l.length):l.set k (l.getD k d)=l:=by
 rw [a_,b_ hk,j_,List.set_getElem_self]
theorem Pe{α:Type}(f:α→HP)(l:List α)(k:Nat)(d:α)(hk:k<l.length):AU f l=f (l.getD k d)*I' f l k:=by
 conv=>lhs;rw [←N3 l k d hk]
 exact Ma f l k _ hk
def JE{α:Type}[AC α](b o:Nat)(xs:List α)(s:List Value)(k:Nat):HP:=HP.AA b o (AG (xs.take k))*HP.AA b (o+(k+1)*AC.sz α) (AG (xs.drop (k+1))++s)
theorem M4{α:Type}[AC α](b o:Nat)(xs:List α)(s:List Value)(k:Nat)(y:α)(hk:k<xs.length):AB b o (xs.set k y) s=HP.AA b (o+k*AC.sz α) (AC.At y)*JE b o xs s k:=by
 unfold AB JE;rw [e_,if_pos hk,E7,i_,HP.Fa]
 have e1:(AG (xs.take k)).length=k*AC.sz α:=by rw [By,d_,h_ Ca]
 have e2:AG (y::xs.drop (k+1))++s=AC.At y++(AG (xs.drop (k+1))++s):=by simp [AG]
 rw [e2,HP.Fa,e1,AC.len,HP.CV,Nat.add_assoc o,←Nat.succ_mul]
theorem OG{α:Type}[AC α](b o:Nat)(xs:List α)(s:List Value)(k:Nat)(d:α)(hk:k<xs.length):AB b o xs s=HP.AA b (o+k*AC.sz α) (AC.At (xs.getD k d))*JE b o xs s k:=by
 conv=>lhs;rw [←N3 xs k d hk]
 exact M4 b o xs s k _ hk
def D5(n:Nat):Value:=if n=0 then .nilIface else EW n
theorem WW{n:Nat}(h:n≠0):D5 n=EW n:=by unfold D5;rw [if_neg h]
section
variable{B:World}{n:Nat}{E:A5}{H:HP}{d:Option Tmp}{T' ty:TypeId}{pos:String}{af:Array Edge}{g:Option (Nat×Bool)}{x y:Operand}
theorem dg{t k:Nat}(hx:ev E (.tmp t)=some (D5 k)):Af Tryz.prog B n ⟨d,.binOp .neq 106 (.tmp t) (.const .nilIface) T',ty,pos,af,g⟩ E H (.bool (decide (k≠0))):=by
 by_cases h:k=0
 ·subst h;exact KR (u:=.nilIface) (v:=.nilIface) (r:=.bool false) hx rfl (fun w=>by kernel_rfl) (fun w=>by kernel_rfl)
 ·rw [WW h]at hx;rw [show decide (k≠0)=true by simpa using h];exact KR (u:=EW k) (v:=.nilIface) (r:=.bool true) hx rfl (fun w=>by kernel_rfl) (fun w=>by kernel_rfl)
end
structure A8 where
 p:Option Addr
 b:Nat
 o:Nat
 c:Nat
 s:List Value
def A8.ok{α:Type}[AC α](a:A8)(xs:List α):Prop:=Sl a.p a.b a.o xs.length a.c∧xs.length*AC.sz α+a.s.length=a.c*AC.sz α
abbrev A8.v(a:A8)(k:Nat):Value:=.slice a.p k a.c
abbrev A8.h{α:Type}[AC α](a:A8)(xs:List α):HP:=AB a.b a.o xs a.s
structure Bi where
 w:AR
 a:A8
 sq:Nat
 sa:B9
 cq:Nat
 ca:B9
@[reducible] def Bn(m:Bi):List Value:=[.slice m.a.p m.w.b.length m.a.c,ptr m.sq 0,ptr m.cq 0,uN m.w.high,.bool m.w.finished,.bool m.w.ending,.bool m.w.ended,.bool m.w.given,uN m.w.code,.bool m.w.BG]
@[reducible] instance:AC Bi:=⟨10,Bn,⟨Ab,⟨none,0,0,0,[]⟩,0,DM,0,DM⟩,fun _=>rfl,fun _ v h=>by
 simp at h;rcases h with rfl|rfl|rfl|rfl|rfl|rfl|rfl|rfl|rfl|rfl<;>rfl⟩
def Bu(m:Bi):HP:=AB m.a.b m.a.o m.w.b m.a.s*(AZ m.sq m.sa m.w.AO*AZ m.cq m.ca m.w.AE)
def Bi.ok(m:Bi):Prop:=m.a.ok m.w.b∧m.sa.ok m.w.AO∧m.ca.ok m.w.AE
def BB(cb:Nat)(ws:List Bi):HP:=AB cb (0+43) ws []*AU Bu ws
def CI(cb:Nat)(ws:List Bi)(k:Nat):HP:=JE cb (0+43) ws [] k*I' Bu ws k
theorem JZ(cb:Nat)(ws:List Bi)(k:Nat)(hk:k<ws.length):BB cb ws=HP.AA cb (0+43+k*10) (Bn (ws.getD k AC.AK))*(Bu (ws.getD k AC.AK)*CI cb ws k):=by
 unfold BB CI;rw [OG cb (0+43) ws [] k AC.AK hk,Pe Bu ws k AC.AK hk];show HP.AA cb (0+43+k*10) (Bn (ws.getD k AC.AK))*_*_=_;ac_rfl
theorem LM(cb:Nat)(ws:List Bi)(k:Nat)(y:Bi)(hk:k<ws.length):BB cb (ws.set k y)=HP.AA cb (0+43+k*10) (Bn y)*(Bu y*CI cb ws k):=by
 unfold BB CI;rw [M4 cb (0+43) ws [] k y hk,Ma Bu ws k y hk];show HP.AA cb (0+43+k*10) (Bn y)*_*_=_;ac_rfl
structure Dt where
 r:Bf
 a:A8
 cq:Nat
 ca:B9
@[reducible] def Di(m:Dt):List Value:=[.slice m.a.p m.r.b.length m.a.c,ptr m.cq 0,uN m.r.high,uN m.r.end_,.bool m.r.ended,.bool m.r.given,uN m.r.code,uN m.r.read,iN m.r.state]
@[reducible] instance:AC Dt:=⟨9,Di,⟨FD,⟨none,0,0,0,[]⟩,0,DM⟩,fun _=>rfl,fun _ v h=>by
 simp at h;rcases h with rfl|rfl|rfl|rfl|rfl|rfl|rfl|rfl|rfl<;>rfl⟩
def CQ(m:Dt):HP:=AB m.a.b m.a.o m.r.b m.a.s*AZ m.cq m.ca m.r.AE
def Dt.ok(m:Dt):Prop:=m.a.ok m.r.b∧m.ca.ok m.r.AE
def Be(cb:Nat)(rs:List Dt):HP:=AB cb (0+83) rs []*AU CQ rs
def Eb(cb:Nat)(rs:List Dt)(k:Nat):HP:=JE cb (0+83) rs [] k*I' CQ rs k
theorem nB(cb:Nat)(rs:List Dt)(k:Nat)(hk:k<rs.length):Be cb rs=HP.AA cb (0+83+k*9) (Di (rs.getD k AC.AK))*(CQ (rs.getD k AC.AK)*Eb cb rs k):=by
 unfold Be Eb;rw [OG cb (0+83) rs [] k AC.AK hk,Pe CQ rs k AC.AK hk];show HP.AA cb (0+83+k*9) (Di (rs.getD k AC.AK))*_*_=_;ac_rfl
theorem sI(cb:Nat)(rs:List Dt)(k:Nat)(y:Dt)(hk:k<rs.length):Be cb (rs.set k y)=HP.AA cb (0+83+k*9) (Di y)*(CQ y*Eb cb rs k):=by
 unfold Be Eb;rw [M4 cb (0+83) rs [] k y hk,Ma CQ rs k y hk];show HP.AA cb (0+83+k*9) (Di y)*_*_=_;ac_rfl
structure BH where
 number:Nat
 at_:Nat
 fs:List RF
 a:A8
@[reducible] def B4(m:BH):List Value:=[uN m.number,uN m.at_,.slice m.a.p m.fs.length m.a.c]
@[reducible] instance:AC BH:=⟨3,B4,⟨0,0,[],⟨none,0,0,0,[]⟩⟩,fun _=>rfl,fun _ v h=>by
 simp at h;rcases h with rfl|rfl|rfl<;>rfl⟩
def BH.An(m:BH):DR:=⟨m.number,m.at_,m.fs.map (·.f)⟩
def A2(m:BH):HP:=AB m.a.b m.a.o m.fs m.a.s
def BH.ok(m:BH):Prop:=m.a.ok m.fs
structure CC where
 AJ:Nat
 AF:Nat
 ks:List UInt8
 first:Bool
 now:Nat
 closed:Nat
 code:Nat
 said:Bool
 next:Nat
 gq:Nat
 answer:Bool
 fv:Value
 lv:Value
 BF:Nat
 waits:Nat
def AX(cb:Nat)(x:CC):HP:=
 HP.AA cb (0+0) [iN x.AJ,iN x.AF]*(HP.AA cb (0+2) (AG x.ks++[u8 (Ae x.first)])*(HP.AA cb (0+19) (AG x.ks++[u8 (Ae (!x.first))])*(HP.AA cb (0+36) [uN x.now]*
 (HP.AA cb (0+37) [iN x.closed]*(HP.AA cb (0+38) [uN x.code]*(HP.AA cb (0+39) [.bool x.said]*(HP.AA cb (0+40) [uN x.next]*(HP.AA cb (0+41) [ptr x.gq 0]*(HP.AA cb (0+42) [.bool x.answer]*
 (HP.AA cb (0+119) [x.fv]*(HP.AA cb (0+120) [x.lv]*(HP.AA cb (0+121) [uN x.BF]*HP.AA cb (0+122) [uN x.waits]))))))))))))
section
variable(cb:Nat)(x:CC)
instance:Cell (AX cb x) cb (0+0+0) (iN x.AJ) True:=by unfold AX;infer_instance
instance:Cell (AX cb x) cb (0+0+1) (iN x.AF) True:=by unfold AX;infer_instance
instance:Cell (AX cb x) cb (0+36) (uN x.now) True:=by unfold AX;infer_instance
instance:Cell (AX cb x) cb (0+37) (iN x.closed) True:=by unfold AX;infer_instance
instance:Cell (AX cb x) cb (0+38) (uN x.code) True:=by unfold AX;infer_instance
instance:Cell (AX cb x) cb (0+39) (.bool x.said) True:=by unfold AX;infer_instance
instance:Cell (AX cb x) cb (0+40) (uN x.next) True:=by unfold AX;infer_instance
instance:Cell (AX cb x) cb (0+41) (ptr x.gq 0) True:=by unfold AX;infer_instance
instance:Cell (AX cb x) cb (0+42) (.bool x.answer) True:=by unfold AX;infer_instance
instance:Cell (AX cb x) cb (0+119) x.fv True:=by unfold AX;infer_instance
instance:Cell (AX cb x) cb (0+120) x.lv True:=by unfold AX;infer_instance
instance:Cell (AX cb x) cb (0+121) (uN x.BF) True:=by unfold AX;infer_instance
instance:Cell (AX cb x) cb (0+122) (uN x.waits) True:=by unfold AX;infer_instance
instance(v:Nat):C3 (AX cb x) cb (0+36) (uN v) (AX cb {x with now:=v}) True:=by unfold AX;infer_instance
instance(v:Nat):C3 (AX cb x) cb (0+37) (iN v) (AX cb {x with closed:=v}) True:=by unfold AX;infer_instance
instance(v:Nat):C3 (AX cb x) cb (0+38) (uN v) (AX cb {x with code:=v}) True:=by unfold AX;infer_instance
instance(v:Bool):C3 (AX cb x) cb (0+39) (.bool v) (AX cb {x with said:=v}) True:=by unfold AX;infer_instance
instance(v:Nat):C3 (AX cb x) cb (0+40) (uN v) (AX cb {x with next:=v}) True:=by unfold AX;infer_instance
instance(v:Bool):C3 (AX cb x) cb (0+42) (.bool v) (AX cb {x with answer:=v}) True:=by unfold AX;infer_instance
instance(v:Value):C3 (AX cb x) cb (0+119) v (AX cb {x with fv:=v}) True:=by unfold AX;infer_instance
instance(v:Value):C3 (AX cb x) cb (0+120) v (AX cb {x with lv:=v}) True:=by unfold AX;infer_instance
instance(v:Nat):C3 (AX cb x) cb (0+121) (uN v) (AX cb {x with BF:=v}) True:=by unfold AX;infer_instance
instance(v:Nat):C3 (AX cb x) cb (0+122) (uN v) (AX cb {x with waits:=v}) True:=by unfold AX;infer_instance
end
structure Aj where
 x:CC
 AI:BD
 ga:B9
 ws:List Bi
 rs:List Dt
 fl:List BH
 lo:List BH
 fa:A8
 la:A8
def Aj.s(m:Aj):AD:=
 ⟨m.x.AJ,m.x.AF,m.x.ks,m.x.first,m.x.now,m.x.closed,m.x.code,m.x.said,m.x.next,m.AI,m.x.answer,m.ws.map (·.w),m.rs.map (·.r),m.fl.map (·.An),m.lo.map (·.An),m.x.BF,m.x.waits⟩
structure Aj.ok(m:Aj):Prop where
 g:m.ga.ok m.AI
 ws:∀w∈m.ws,w.ok
 rs:∀r∈m.rs,r.ok
 fl:∀p∈m.fl,p.ok
 lo:∀p∈m.lo,p.ok
 fa:m.fa.ok m.fl
 la:m.la.ok m.lo
 fv:m.x.fv=m.fa.v m.fl.length
 lv:m.x.lv=m.la.v m.lo.length
def DS(m:Aj):HP:=m.fa.h m.fl*(m.la.h m.lo*(AU A2 m.fl*AU A2 m.lo))
def Ac(cb:Nat)(m:Aj):HP:=AX cb m.x*(AZ m.x.gq m.ga m.AI*(BB cb m.ws*(Be cb m.rs*DS m)))
theorem Aj.MV(m:Aj)(k:Nat)(hk:k<m.ws.length):m.s.w k=(m.ws.getD k AC.AK).w:=by
 unfold AD.w Aj.s;simp only [a_,kt,b_ hk];rfl
theorem Aj.Qf(m:Aj)(k:Nat)(hk:k<m.rs.length):m.s.r k=(m.rs.getD k AC.AK).r:=by
 unfold AD.r Aj.s;simp only [a_,kt,b_ hk];rfl
theorem JX{α:Type}{l:List α}{k:Nat}{d:α}(hk:k<l.length):l.getD k d∈l:=by
 rw [a_,b_ hk];exact List.getElem_mem hk
theorem Kt{α:Type}{l:List α}{k:Nat}{y a:α}{P:α→Prop}(h:∀a∈l,P a)(hy:P y)(ha:a∈l.set k y):P a:=by
 rcases List.mem_or_eq_of_mem_set ha with h1|rfl
 ·exact h a h1
 ·exact hy
end
section
variable{B:World}
def FY(closed:Nat)(k:Int):Nat:=if closed≠0 then 9 else if k<0∨4≤k then 2 else 0
theorem Mw{closed:Nat}{k:Int}(h:FY closed k=0):closed=0∧∃j:Nat,k=j∧j<4:=by
 unfold FY at h;split at h
 ·cases h
 split at h
 ·cases h
 ·exact⟨Ca,k.toNat,Ca,Ca⟩
theorem HU(m:Aj)(k:Int):m.s.stream k=FY m.x.closed k:=rfl
theorem sD(cb closed:Nat)(k:Int)(H:HP)[hc:Rd B H cb (0+37) (iN closed) True]:
  Fn Tryz.prog B 132 [ptr cb 0,.int .i64 k] H (fun v H'=>v=D5 (FY closed k)∧H'=H):=by
 refine mI Tryz.func132 ?_;refine Fe ?_;refine JL Rm ?_;refine J3 ?_;refine mC (fun h5=>?_) (fun h5=>?_)
 ·refine J2 ?_;refine JL Nn ?_;refine J6 ?_;exact mr [4] rfl rfl ⟨by rw [FY,if_pos h5];rfl,rfl⟩
 refine J3 ?_;refine JL (L9 (i:=k) (j:=0) rfl rfl) ?_;refine J1 ?_;refine EV 15 rfl (fun hg1=>?_) (fun hg1=>?_)
 ·refine NT ?_;refine JL GM ?_;refine J3 ?_;refine Gw ?_;refine J2 ?_;refine JL Xk ?_;refine J6 ?_;exact mr [4] rfl rfl ⟨fZ,rfl⟩
 refine O7 ?_;refine JL (Pr (i:=k) (j:=4) rfl rfl) ?_;refine JL E9 ?_;refine J3 ?_;refine mC (fun h12=>?_) (fun h12=>?_)
 ·refine J2 ?_;refine JL Xk ?_;refine J6 ?_;exact mr [4] rfl rfl ⟨fZ,rfl⟩
 refine J9 ?_;exact mr [4] rfl rfl ⟨by rw [FY,if_neg h5,if_neg Ca];rfl,rfl⟩
theorem jX(b o AF:Nat)(wm:Bi)(R:HP)(hok:wm.ok)(hw:CJ AF wm.w):
  Fn Tryz.prog B 131 [ptr b o] (HP.AA b o (Bn wm)*(Bu wm*R)) (fun v H'=>v=iN wm.w.A0∧H'=HP.AA b o (Bn wm)*(Bu wm*R)):=by
 refine mI Tryz.func131 ?_;refine J2 ?_;refine E4 ?_;refine Au (H':=HP.AA b o (Bn wm)*(AB wm.a.b wm.a.o wm.w.b wm.a.s*(AZ wm.sq wm.sa wm.w.AO*(AZ wm.cq wm.ca wm.w.AE*R)))) OR ?_;have hl:=hw.len;have hpl:=hw.NV;refine Zu ?_;refine Av 10 Cb rfl rfl (BS rfl (Py wm.cq 0 wm.w.b.length wm.w.b.length wm.ca wm.w.AE _ hok.2.2 hw.co Ca (by have h7:=hw.co.len;rw [hw.cm]at h7;omega))) ?_;refine Fm ?_;refine Jm 11 ?_;refine JT 12 rfl M5 ?_;refine JT 13 rfl M5 ?_;refine Ja 14 ?_;refine Ja 15 ?_;refine K8 ?_;refine JL (KP rfl (PY (by show(AV 0 wm.w.b.length wm.w.AE.l).1<_;have h8:(AV 0 wm.w.b.length wm.w.AE.l).1≤wm.w.b.length:=hpl;omega))) ?_;refine J4 ?_;exact mR [2] (HP.AA b o (Bn wm)*(Bu wm*R)) (hE:=by unfold Bu;infer_instance) rfl rfl BY
def M1(cb e:Nat)(k:Int):Value:=if e=0 then ptr cb (0+43+k.toNat*10)else .pointer none
theorem yY(m:Aj)(k:Int)(j:Nat)(hl:m.ws.length=4)(hs:FY m.x.closed k=0)(hk:k=j)(hj:j<4):
  m.s.EP k=if(m.ws.getD j AC.AK).w.finished=true∨(m.ws.getD j AC.AK).w.given=true then 3 else 0:=by
 subst hk;unfold AD.EP;rw [HU,if_neg Ca,c_,m.MV j Ca]
theorem aX(m:Aj)(k:Int)(hs:FY m.x.closed k≠0):m.s.EP k=FY m.x.closed k:=by
 unfold AD.EP;rw [HU,if_pos hs]
theorem nZ(cb:Nat)(m:Aj)(k:Int)(R:HP)(hl:m.ws.length=4):
  Fn Tryz.prog B 130 [ptr cb 0,.int .i64 k] (AX cb m.x*(BB cb m.ws*R)) (fun v H'=>v=.tuple #[M1 cb (m.s.EP k) k,D5 (m.s.EP k)]∧H'=AX cb m.x*(BB cb m.ws*R)):=by
 refine mI Tryz.func130 ?_;refine B1 ?_;refine QP ?_;refine mC (fun h12=>?_) (fun h12=>?_)
 ·refine J9 ?_;exact mr [4,5] rfl rfl ⟨by rw [aX m k h12];unfold M1;rw [if_neg h12];rfl,rfl⟩
 obtain⟨hcl,j,rfl,hj⟩:=Mw (by simpa using h12:FY m.x.closed k=0)
 have hjl:j<m.ws.length:=by omega
 refine J3 ?_;refine Au (H':=AX cb m.x*(HP.AA cb (0+43+j*10) (Bn (m.ws.getD j AC.AK))*(Bu (m.ws.getD j AC.AK)*(CI cb m.ws j*R)))) (by rw [JZ cb m.ws j hjl];ac_rfl) ?_;have hoe:=yY m (j:Int) j hl (by simpa using h12) rfl hj;refine J5 ?_;refine JL N2 ?_;refine B1 ?_;refine DU 23 rfl (fun hg1=>?_) (fun hg1=>?_)
 ·refine IE ?_;refine Qw ?_;refine J2 ?_;refine JL Nf ?_;refine J6 ?_;exact mR [4,5] (AX cb m.x*(BB cb m.ws*R)) (hE:=by rw [JZ cb m.ws j hjl];infer_instance) rfl rfl ⟨by rw [hoe,if_pos (.inl hg1)];rfl,rfl⟩
 refine Ia ?_;refine J1 ?_;refine Ml ?_;refine La ?_;refine mc (fun h28=>?_) (fun h28=>?_)
 ·refine J2 ?_;refine JL Nf ?_;refine J6 ?_;exact mR [4,5] (AX cb m.x*(BB cb m.ws*R)) (hE:=by rw [JZ cb m.ws j hjl];infer_instance) rfl rfl ⟨by rw [hoe,if_pos (.inr h28)];rfl,rfl⟩
 refine CL ?_;exact mR [4,5] (AX cb m.x*(BB cb m.ws*R)) (hE:=by rw [JZ cb m.ws j hjl];infer_instance) rfl rfl ⟨by rw [hoe,if_neg (by rw [hg1,h28];simp)];rfl,rfl⟩
theorem Aj.M8{t:Nat}{m:Aj}(h:AY t m.s):m.ws.length=4:=by have:=h.ws.len;simpa [Aj.s]using this
theorem Aj.PZ{t:Nat}{m:Aj}(h:AY t m.s):m.rs.length=4:=by have:=h.rl;simpa [Aj.s]using this
theorem Aj.SR{t:Nat}{m:Aj}(h:AY t m.s){k:Nat}(hk:k<4):CJ m.x.AF (m.ws.getD k AC.AK).w:=by
 have:=h.ws.ok k hk
 have e:m.s.ws.getD k Ab=(m.ws.getD k AC.AK).w:=m.MV k (by rw [Aj.M8 h];exact hk);rw [e]at this;exact this
theorem Aj.TU{t:Nat}{m:Aj}(h:AY t m.s){k:Nat}(hk:k<4):Fo m.x.AF t (m.rs.getD k AC.AK).r:=by
 have:=h.rs k hk
 rw [m.Qf k (by rw [Aj.PZ h];exact hk)]at this;exact this
def Aj.Bm(m:Aj)(k:Nat)(w:Bi):Aj:={m with ws:=m.ws.set k w}
theorem Aj.UL(m:Aj)(k:Nat)(w:Bi):(m.Bm k w).s=m.s.Bm k w.w:=by
 unfold Aj.Bm Aj.s AD.Bm;simp only [lh]
theorem Aj.ok.Bm{m:Aj}(h:m.ok){k:Nat}{w:Bi}(hw:w.ok):(m.Bm k w).ok:=
 ⟨h.g,fun a ha=>Kt (P:=Bi.ok) h.ws hw ha,h.rs,h.fl,h.lo,h.fa,h.la,h.fv,h.lv⟩
def Aj.BV(m:Aj)(k:Nat)(r:Dt):Aj:={m with rs:=m.rs.set k r}
theorem Aj.Q'(m:Aj)(k:Nat)(r:Dt):(m.BV k r).s=m.s.BV k r.r:=by
 unfold Aj.BV Aj.s AD.BV;simp only [lh]
theorem Aj.ok.BV{m:Aj}(h:m.ok){k:Nat}{r:Dt}(hr:r.ok):(m.BV k r).ok:=
 ⟨h.g,h.ws,fun a ha=>Kt (P:=Dt.ok) h.rs hr ha,h.fl,h.lo,h.fa,h.la,h.fv,h.lv⟩
theorem kS{m:Aj}{k:Int}(h:m.s.EP k=0):FY m.x.closed k=0:=by
 by_cases hs:FY m.x.closed k=0
 ·exact hs
 ·rw [aX m k hs]at h;exact absurd h hs
def Fs(m:Aj)(cb:Nat):HP:=AZ m.x.gq m.ga m.AI*(Be cb m.rs*DS m)
theorem Hw(cb:Nat)(m:Aj)(R:HP):Ac cb m*R=AX cb m.x*(BB cb m.ws*(Fs m cb*R)):=by
 unfold Ac Fs;ac_rfl
theorem O2(cb:Nat)(m:Aj)(R:HP)(j:Nat)(hj:j<m.ws.length):Ac cb m*R=AX cb m.x*(HP.AA cb (0+43+j*10) (Bn (m.ws.getD j AC.AK))*(Bu (m.ws.getD j AC.AK)*(CI cb m.ws j*(Fs m cb*R)))):=by
 rw [Hw,JZ cb m.ws j hj];ac_rfl
theorem Sr(cb:Nat)(m:Aj)(R:HP)(j:Nat)(hj:j<m.ws.length)(y:Bi):Ac cb (m.Bm j y)*R=AX cb m.x*(HP.AA cb (0+43+j*10) (Bn y)*(Bu y*(CI cb m.ws j*(Fs m cb*R)))):=by
 rw [Hw];show AX cb m.x*(BB cb (m.ws.set j y)*(Fs (m.Bm j y) cb*R))=_;rw [LM cb m.ws j y hj];show AX cb m.x*(HP.AA cb (0+43+j*10) (Bn y)*(Bu y*CI cb m.ws j)*(Fs m cb*R))=_;ac_rfl
theorem rL(cb t:Nat)(m:Aj)(k:Int)(xs:List UInt8)(p:Option Addr)(b o c:Nat)(R:HP)(hm:m.ok)(hi:AY t m.s)(hs:Sl p b o xs.length c)(hr:Ai B R b o xs):
  Fn Tryz.prog B 88 [ptr cb 0,.int .i64 k,.slice p xs.length c] (Ac cb m*R)
   (fun v H'=>∃m':Aj,m'.ok∧m'.s=(m.s.write k xs).2∧v=.tuple #[iN (m.s.write k xs).1.1,D5 (m.s.write k xs).1.2]∧H'=Ac cb m'*R):=by
 refine mI Tryz.func88 ?_;refine Au Nb ?_;refine Hb ?_;refine J7 ?_;refine ZX ?_;refine mC (fun h18=>?_) (fun h18=>?_)
 ·refine J3 ?_;refine FT ?_;refine J5 ?_;refine mR [6,7] (Ac cb m*R) (hE:=by rw [Hw];infer_instance) rfl rfl ⟨m,hm,?_,?_,rfl⟩
  ·unfold AD.write;rw [if_pos h18]
  ·unfold AD.write;rw [if_pos h18];rfl
 have h18:m.s.EP k=0:=by simpa using h18
 obtain⟨hcl,j,rfl,hj⟩:=Mw (kS h18)
 have hjl:j<m.ws.length:=by rw [Aj.M8 hi];exact hj
 have hwok:=Aj.SR hi hj;have hwm:=hm.ws _ LD;have ewj:=m.MV j hjl
 have hp0:M1 cb (m.s.EP (j:Int)) (j:Int)=ptr cb (0+43+j*10):=by unfold M1;rw [if_pos h18,c_]
 generalize hwx:m.ws.getD j AC.AK=wm at hwok hwm ewj;have hbl:=hwok.len;have hpr:=hwok.NV;have hrm:=hwok.room;have hw2:=hi.w2;have hw2':m.x.AF≤1024:=hw2;refine Rj (E':=[(8,ptr cb (0+43+j*10)),(0,ptr cb 0),(2,.slice p xs.length c)]) (.cons (by rw [←hp0];rfl) Hi) ?_;refine Au (H':=HP.AA cb (0+43+j*10) (Bn wm)*(Bu wm*(AX cb m.x*(CI cb m.ws j*(Fs m cb*R))))) VP ?_;refine J3 ?_;refine mA 24 24 ?_;refine Jm 0 ?_;refine Jn 1 ?_;refine Jf 2 ?_;refine Jf 3 ?_;refine Jd 4 ?_;refine Jm 5 ?_;refine NH ?_;refine JT 9 rfl Ft ?_;refine Jm 10 ?_;refine Jm 14 ?_;refine Jn 15 ?_;refine Jf 16 ?_;refine Jd 17 ?_;refine JT 18 rfl Ft ?_;refine JT 19 rfl (Iy (i:=4096) rfl rfl Ca) ?_;refine Jm 20 ?_;refine JT 21 rfl Ft ?_;refine Av 11 Cb rfl rfl (BS rfl (jX cb (0+43+j*10) m.x.AF wm _ hwm hwok)) ?_;refine JR ?_;refine⟨.inr inferInstance,?_⟩;refine JT 12 rfl MU ?_;refine JT 13 rfl MU ?_;refine JT 22 rfl (w8 rfl rfl rfl) ?_;refine Ja 23 ?_;refine Dm ?_;have hnm:(min (min (m.x.AF-(wm.w.b.length-wm.w.A0)) (4096-wm.w.b.length)) xs.length)≤xs.length:=Nat.min_le_right _ _
 refine Au (H':=AB wm.a.b wm.a.o wm.w.b wm.a.s*(HP.AA cb (0+43+j*10) (Bn wm)*(AX cb m.x*((AZ wm.sq wm.sa wm.w.AO*AZ wm.cq wm.ca wm.w.AE)*(CI cb m.ws j*(Fs m cb*R)))))) OR ?_
 have htl:(xs.take (min (min (m.x.AF-(wm.w.b.length-wm.w.A0)) (4096-wm.w.b.length)) xs.length)).length=(min (min (m.x.AF-(wm.w.b.length-wm.w.A0)) (4096-wm.w.b.length)) xs.length):=by rw [d_];omega
 refine ET (HP.AA cb (0+43+j*10) (Bn wm)*(AX cb m.x*((AZ wm.sq wm.sa wm.w.AO*AZ wm.cq wm.ca wm.w.AE)*(CI cb m.ws j*(Fs m cb*R))))) 11 12 Ef rfl Cb ?_;refine Me ?_;refine Jm 5 ?_;refine Jm 6 ?_;refine JT 7 rfl (PB (k':=(xs.take (min (min (m.x.AF-(wm.w.b.length-wm.w.A0)) (4096-wm.w.b.length)) xs.length)).length) rfl rfl Cj htl) ?_;refine Av 8 Cb rfl rfl (DG (ys:=xs.take (min (min (m.x.AF-(wm.w.b.length-wm.w.A0)) (4096-wm.w.b.length)) xs.length)) (bb:=b) (oo:=o) rfl hwm.1.1 hwm.1.2 rfl ⟨hs.1,Cj⟩ (let _:=hr;inferInstance) rfl Ca Ca) ?_;rintro _ _ ⟨p51,b51,o51,c51,s51,rfl,hs51,hc51,rfl⟩;refine BL ?_;refine Jn 9 ?_;refine Jf 10 ?_;refine Oj ?_;refine Dh ?_;refine J9 ?_
 have ewr:m.s.write (j:Int) xs=(((min (min (m.x.AF-(wm.w.b.length-wm.w.A0)) (4096-wm.w.b.length)) xs.length),0),m.s.Bm j {wm.w with b:=wm.w.b++xs.take (min (min (m.x.AF-(wm.w.b.length-wm.w.A0)) (4096-wm.w.b.length)) xs.length)}):=by
  unfold AD.write;rw [if_neg Ca,c_];unfold AD.G6;rw [ewj];rfl
 obtain⟨w2,hw2⟩:∃w2:Bi,w2={wm with w:={wm.w with b:=wm.w.b++xs.take (min (min (m.x.AF-(wm.w.b.length-wm.w.A0)) (4096-wm.w.b.length)) xs.length)},a:=⟨p51,b51,o51,c51,s51⟩}:=Bl
 have hok2:w2.ok:=by rw [hw2];exact⟨⟨hs51,hc51⟩,hwm.2⟩
 have hew:w2.w={wm.w with b:=wm.w.b++xs.take (min (min (m.x.AF-(wm.w.b.length-wm.w.A0)) (4096-wm.w.b.length)) xs.length)}:=by rw [hw2]
 refine mR [6,7] (Ac cb (m.Bm j w2)*R) (hE:=?_) rfl rfl ⟨m.Bm j w2,hm.Bm hok2,?_,?_,rfl⟩
 ·rw [Sr cb m R j hjl,hw2];refine⟨fun ww hw=>?_⟩;unfold Bu;refine k_ ?_ hw;congr 1;show AB b51 o51 _ s51*_=AX cb m.x*(HP.AA cb (0+43+j*10) [.slice p51 (wm.w.b++xs.take (min (min (m.x.AF-(wm.w.b.length-wm.w.A0)) (4096-wm.w.b.length)) xs.length)).length c51,ptr wm.sq 0,ptr wm.cq 0,uN wm.w.high,.bool wm.w.finished,.bool wm.w.ending,.bool wm.w.ended,.bool wm.w.given,uN wm.w.code,.bool wm.w.BG]*(AB b51 o51 (wm.w.b++xs.take (min (min (m.x.AF-(wm.w.b.length-wm.w.A0)) (4096-wm.w.b.length)) xs.length)) s51*(AZ wm.sq wm.sa wm.w.AO*AZ wm.cq wm.ca wm.w.AE)*_));ac_rfl
 ·rw [Aj.UL,ewr,hew]
 ·rw [ewr];rfl
theorem dr(cb t:Nat)(m:Aj)(k:Int)(R:HP)(hm:m.ok)(hi:AY t m.s):
  Fn Tryz.prog B 89 [ptr cb 0,.int .i64 k] (Ac cb m*R)
   (fun v H'=>∃m':Aj,m'.ok∧m'.s=(m.s.finish k).2∧v=D5 (m.s.finish k).1∧H'=Ac cb m'*R):=by
 refine mI Tryz.func89 ?_;refine Au Nb ?_;refine J9 ?_;refine ZX ?_;refine mC (fun h18=>?_) (fun h18=>?_)
 ·refine J8 ?_;refine mR [4] (Ac cb m*R) (hE:=by first|(rw [Hw];infer_instance)|(rw [O2 cb m R j hjl,hwx];exact⟨fun ww hw=>by refine k_ ?_ hw;congr 1;ac_rfl⟩)) rfl rfl ⟨m,hm,?_,?_,rfl⟩
  ·unfold AD.finish;rw [if_pos h18]
  ·unfold AD.finish;rw [if_pos h18];rfl
 have h18:m.s.EP k=0:=by simpa using h18
 obtain⟨hcl,j,rfl,hj⟩:=Mw (kS h18)
 have hjl:j<m.ws.length:=by rw [Aj.M8 hi];exact hj
 have hwok:=Aj.SR hi hj;have hwm:=hm.ws _ LD;have ewj:=m.MV j hjl
 have hp0:M1 cb (m.s.EP (j:Int)) (j:Int)=ptr cb (0+43+j*10):=by unfold M1;rw [if_pos h18,c_]
 generalize hwx:m.ws.getD j AC.AK=wm at hwok hwm ewj;refine Rj (E':=[(5,ptr cb (0+43+j*10)),(0,ptr cb 0)]) (.cons (by rw [←hp0];rfl) tD) ?_;refine Au (H':=HP.AA cb (0+43+j*10) (Bn wm)*(Bu wm*(AX cb m.x*(CI cb m.ws j*(Fs m cb*R))))) VP ?_;refine jO ?_
 obtain⟨w2,hw2⟩:∃w2:Bi,w2={wm with w:={wm.w with finished:=true}}:=Bl
 have hok2:w2.ok:=by rw [hw2];exact hwm
 have hew:w2.w={wm.w with finished:=true}:=by rw [hw2]
 have ewr:m.s.finish (j:Int)=(0,m.s.Bm j {wm.w with finished:=true}):=by
  unfold AD.finish;rw [if_neg Ca,c_,ewj]
 refine mR [4] (Ac cb (m.Bm j w2)*R) (hE:=?_) rfl rfl ⟨m.Bm j w2,hm.Bm hok2,by rw [Aj.UL,ewr,hew],Cr,rfl⟩;rw [Sr cb m R j hjl,hw2];refine⟨fun ww hw=>?_⟩;refine k_ ?_ hw;congr 1;show _=AX cb m.x*(HP.AA cb (0+43+j*10) [.slice wm.a.p wm.w.b.length wm.a.c,ptr wm.sq 0,ptr wm.cq 0,uN wm.w.high,.bool true,.bool wm.w.ending,.bool wm.w.ended,.bool wm.w.given,uN wm.w.code,.bool wm.w.BG]*(Bu wm*_));ac_rfl
theorem zK(cb t:Nat)(m:Aj)(k:Int)(code:Nat)(R:HP)(hm:m.ok)(hi:AY t m.s):
  Fn Tryz.prog B 90 [ptr cb 0,.int .i64 k,uN code] (Ac cb m*R)
   (fun v H'=>∃m':Aj,m'.ok∧m'.s=(m.s.giveUp k code).2∧v=D5 (m.s.giveUp k code).1∧H'=Ac cb m'*R):=by
 refine mI Tryz.func90 ?_;refine Au Nb ?_;refine CL ?_;refine QP ?_;refine mC (fun h13=>?_) (fun h13=>?_)
 ·refine J8 ?_;refine mR [6] (Ac cb m*R) (hE:=by first|(rw [Hw];infer_instance)|(rw [O2 cb m R j hjl,hwx];exact⟨fun ww hw=>by refine k_ ?_ hw;congr 1;ac_rfl⟩)) rfl rfl ⟨m,hm,?_,?_,rfl⟩
  ·unfold AD.giveUp;rw [HU,if_pos h13]
  ·unfold AD.giveUp;rw [HU,if_pos h13];rfl
 obtain⟨hcl,j,rfl,hj⟩:=Mw (by simpa using h13:FY m.x.closed k=0)
 have h13:FY m.x.closed (j:Int)=0:=by simpa using h13
 have hjl:j<m.ws.length:=by rw [Aj.M8 hi];exact hj
 have hwok:=Aj.SR hi hj;have hwm:=hm.ws _ LD;have ewj:=m.MV j hjl;generalize hwx:m.ws.getD j AC.AK=wm at hwok hwm ewj;refine X3 ?_;refine J8 ?_;refine JL N2 ?_;refine B1 ?_;refine DU 24 rfl (fun hg1=>?_) (fun hg1=>?_)
 ·refine IL ?_;refine Qw ?_;refine J2 ?_;refine JL Nf ?_;refine J5 ?_;refine mR [6] (Ac cb m*R) (hE:=by first|(rw [Hw];infer_instance)|(rw [O2 cb m R j hjl,hwx];exact⟨fun ww hw=>by refine k_ ?_ hw;congr 1;ac_rfl⟩)) rfl rfl ⟨m,hm,?_,?_,rfl⟩
  ·unfold AD.giveUp;rw [HU,if_neg Ca,c_,ewj,if_pos (.inl hg1)]
  ·unfold AD.giveUp;rw [HU,if_neg Ca,c_,ewj,if_pos (.inl hg1)];rfl
 refine MQ ?_;refine JL Qq ?_;refine La ?_;refine mC (fun h27=>?_) (fun h27=>?_)
 ·refine J2 ?_;refine JL Nf ?_;refine J5 ?_;refine mR [6] (Ac cb m*R) (hE:=by first|(rw [Hw];infer_instance)|(rw [O2 cb m R j hjl,hwx];exact⟨fun ww hw=>by refine k_ ?_ hw;congr 1;ac_rfl⟩)) rfl rfl ⟨m,hm,?_,?_,rfl⟩
  ·unfold AD.giveUp;rw [HU,if_neg Ca,c_,ewj,if_pos (.inr h27)]
  ·unfold AD.giveUp;rw [HU,if_neg Ca,c_,ewj,if_pos (.inr h27)];rfl
 refine W3 ?_
 obtain⟨w2,hw2⟩:∃w2:Bi,w2={wm with w:={wm.w with given:=true,code:=code}}:=Bl
 have hok2:w2.ok:=by rw [hw2];exact hwm
 have hew:w2.w={wm.w with given:=true,code:=code}:=by rw [hw2]
 have ewr:m.s.giveUp (j:Int) code=(0,m.s.Bm j {wm.w with given:=true,code:=code}):=by
  unfold AD.giveUp;rw [HU,if_neg Ca,c_,ewj,if_neg (by rw [hg1];simpa using h27)]
 refine mR [6] (Ac cb (m.Bm j w2)*R) (hE:=?_) rfl rfl ⟨m.Bm j w2,hm.Bm hok2,by rw [Aj.UL,ewr,hew],Cr,rfl⟩;rw [Sr cb m R j hjl,hw2];refine⟨fun ww hw=>?_⟩;refine k_ ?_ hw;congr 1;show _=AX cb m.x*(HP.AA cb (0+43+j*10) [.slice wm.a.p wm.w.b.length wm.a.c,ptr wm.sq 0,ptr wm.cq 0,uN wm.w.high,.bool wm.w.finished,.bool wm.w.ending,.bool wm.w.ended,.bool true,uN code,.bool wm.w.BG]*(Bu wm*_));ac_rfl
theorem qN(cb t:Nat)(m:Aj)(k:Int)(R:HP)(hm:m.ok)(hi:AY t m.s):
  Fn Tryz.prog B 97 [ptr cb 0,.int .i64 k] (Ac cb m*R)
   (fun v H'=>v=.tuple #[iN (m.s.AE k).1,D5 (m.s.AE k).2]∧H'=Ac cb m*R):=by
 refine mI Tryz.func97 ?_;refine Au Nb ?_;refine Hb ?_;refine J8 ?_;refine QP ?_;refine mC (fun h13=>?_) (fun h13=>?_)
 ·refine J3 ?_;refine FT ?_;refine J5 ?_;exact mR [4,5] (Ac cb m*R) (hE:=by rw [Hw];infer_instance) rfl rfl ⟨by unfold AD.AE;rw [HU,if_pos h13];rfl,rfl⟩
 obtain⟨hcl,j,rfl,hj⟩:=Mw (by simpa using h13:FY m.x.closed k=0)
 have h13:FY m.x.closed (j:Int)=0:=by simpa using h13
 have hjl:j<m.ws.length:=by rw [Aj.M8 hi];exact hj
 have hwok:=Aj.SR hi hj;have hwm:=hm.ws _ LD;have ewj:=m.MV j hjl;generalize hwx:m.ws.getD j AC.AK=wm at hwok hwm ewj;refine X3 ?_;refine J8 ?_;refine JL N2 ?_;refine mE rfl (jX cb (0+43+j*10) m.x.AF wm _ hwm hwok) ?_;refine Kc ?_;exact mR [4,5] (Ac cb m*R) (hE:=by rw [O2 cb m R j hjl,hwx];exact⟨fun ww hw=>by refine k_ ?_ hw;congr 1;ac_rfl⟩) rfl rfl ⟨by unfold AD.AE;rw [HU,if_neg Ca,c_,ewj];rfl,rfl⟩
def Aj.Aq(m:Aj)(x:CC):Aj:={m with x:=x}
theorem Df(cb:Nat)(m:Aj)(R:HP):Ac cb m*R=AX cb m.x*(AZ m.x.gq m.ga m.AI*(BB cb m.ws*(Be cb m.rs*(DS m*R)))):=by
 unfold Ac;ac_rfl
theorem g7(cb:Nat)(m:Aj)(code:Nat)(R:HP)(hm:m.ok):
  Fn Tryz.prog B 96 [ptr cb 0,uN code] (Ac cb m*R)
   (fun v H'=>∃m':Aj,m'.ok∧m'.s=(m.s.close code).2∧v=D5 (m.s.close code).1∧H'=Ac cb m'*R):=by
 refine mI Tryz.func96 ?_;refine Au Nz ?_;refine Fe ?_;refine JL Rm ?_;refine J3 ?_;refine mC (fun h5=>?_) (fun h5=>?_)
 ·have h5:m.s.closed≠0:=h5;refine J2 ?_;refine JL Nn ?_;refine J6 ?_;exact mR [4] (Ac cb m*R) (hE:=by rw [Df];infer_instance) rfl rfl ⟨m,hm,by unfold AD.close;rw [if_pos h5],by unfold AD.close;rw [if_pos h5];rfl,rfl⟩
 have h5:¬m.s.closed≠0:=h5;refine J3 ?_;refine JL Qq ?_;refine J3 ?_;refine mC (fun h12=>?_) (fun h12=>?_)
 ·refine J2 ?_;refine JL Nf ?_;refine J6 ?_;exact mR [4] (Ac cb m*R) (hE:=by rw [Df];infer_instance) rfl rfl ⟨m,hm,by unfold AD.close;rw [if_neg h5,if_pos h12],by unfold AD.close;rw [if_neg h5,if_pos h12];rfl,rfl⟩
 refine CL ?_;refine Bv (Ez (v:=.int .i64 (9:Nat)) rfl rfl rfl Cd) ?_;refine JR ?_;refine B1 ?_
 have ewr:m.s.close code=(0,{m.s with closed:=9,code:=code}):=by unfold AD.close;rw [if_neg h5,if_neg h12]
 exact mR [4] (Ac cb (m.Aq {m.x with closed:=9,code:=code})*R) (hE:=by rw [Df];exact⟨fun ww hw=>hw⟩) rfl rfl ⟨m.Aq {m.x with closed:=9,code:=code},⟨hm.g,hm.ws,hm.rs,hm.fl,hm.lo,hm.fa,hm.la,hm.fv,hm.lv⟩,Cr,Cr,rfl⟩
end
section
variable{B:World}
theorem GK{α:Type}{p:α→Prop}{A:α→HP}{R H G:HP}(z:α)(hp:p z)(e:H=G*(A z*R))(w:World)(hw:Sat B H w):Sat B ((HP.ex fun z=>HP.pr (p z)*A z)*R) w:=
 IS z hp rfl w (Sat.right (e▸hw))
theorem dL(lo hi:Nat)(s:BD)(r:AT):Dg lo hi s r=if hi≤r.hi then(if r.lo<lo then s.add r.lo (min r.hi (lo-1))else s).add (max r.lo hi) r.hi else if r.lo<lo then s.add r.lo (min r.hi (lo-1))else s:=rfl
theorem eP{l:List AT}{m:Nat}(hm:m≤l.length):∀r∈Gl l m,r∈l:=by
 intro r hr;obtain⟨j,hj,rfl⟩:=ki.1 hr;have hj':j<m:=List.mem_range.1 hj;exact Hu (P:=fun r=>r∈l) (fun r h=>h) _ Ca
set_option maxHeartbeats 1000000 in
theorem ci(cb j AF:Nat)(wm:Bi)(r:RF)(R:HP)(hst:r.f.stream=(j:Int))(hj:j<4)(hok:wm.ok)(hw:CJ AF wm.w)(hf:r.f.kind=5→r.f.offset+r.f.data.size≤wm.w.b.length):
  Fn Tryz.prog B 163 [ptr cb 0,.agg (AQ r).toArray] (HP.AA cb (0+43+j*10) (Bn wm)*(Bu wm*R))
   (fun _ H'=>∃w2:Bi,w2.ok∧w2.w=wm.w.again r.f∧H'=HP.AA cb (0+43+j*10) (Bn w2)*(Bu w2*R)):=by
 refine RJ Tryz.func163 rfl rfl rfl ?_;refine Au (H':=HP.AA cb (0+43+j*10) (Bn wm)*(AB wm.a.b wm.a.o wm.w.b wm.a.s*(AZ wm.sq wm.sa wm.w.AO*(AZ wm.cq wm.ca wm.w.AE*R)))) OR ?_;have hbl:=hw.len;refine Lx ?_;rintro _ _ ⟨b3,rfl,rfl⟩;refine J3 ?_;refine mA 7 8 ?_;refine GZ ?_;refine P5 ?_;refine Av 6 Cb rfl rfl Mp ?_;rintro _ _ ⟨b4,rfl,rfl⟩;refine BL ?_;refine Dx 7 Cb rfl FL ?_;refine Dh ?_;refine CL ?_;refine JL (DI (i:=r.f.kind) (j:=5) rfl rfl) ?_;refine J3 ?_;refine mC (fun hk5=>?_) (fun hk5=>?_)
 ·refine J1 ?_;refine DF (α:=Nat×Nat) (fun z=>[(3,ptr b3 0),(4,ptr b4 0),(5,ptr z.1 0),(6,ptr z.2 0)]) (fun z=>HP.AA z.1 0 [uN r.f.offset]*(HP.AA z.2 0 [uN (r.f.offset+r.f.data.size)]*(HP.AA b4 0 [ptr cb (0+43+j*10)]*(HP.AA b3 0 (AQ r)*(HP.AA cb (0+43+j*10) (Bn wm)*(AB wm.a.b wm.a.o wm.w.b wm.a.s*(AZ wm.sq wm.sa wm.w.AO*(AZ wm.cq wm.ca wm.w.AE*R)))))))) (fun _=>True) ?_ ?_
  ·refine mA 12 13 ?_;refine Jy ?_;refine Lm ?_;refine K7 ?_;refine Jh ?_;refine JT 6 rfl Gf ?_;refine JT 7 rfl (KP rfl (Mv (by have:=hf hk5;omega))) ?_;refine JT 8 rfl (Jq rfl rfl (by have:=hf hk5;omega)) ?_;refine gt 9 10 Cb rfl rfl rfl rfl rfl rfl rfl rfl Mp Mp ?_ ?_
   ·rintro _ _ ⟨b5,rfl,rfl⟩;refine BL ?_;refine Av 10 Cb rfl rfl Mp ?_;rintro _ _ ⟨b6,rfl,rfl⟩;refine BL ?_;refine Oj ?_;refine Fm ?_;refine Sv ?_;refine Dh ?_;exact BJ (b5,b6) trivial DN Wt
   rintro _ _ ⟨b6,rfl,rfl⟩;refine BL ?_;refine Av 9 Cb rfl rfl Mp ?_;rintro _ _ ⟨b5,rfl,rfl⟩;refine BL ?_;refine Oj ?_;refine Fm ?_;refine Sv ?_;refine Dh ?_;exact BJ (b5,b6) trivial DN Wt
  ·rintro⟨b5,b6⟩ _;dsimp only;refine B1 ?_;refine mA 4 5 ?_;refine Jd 0 ?_;refine Av 1 Cb rfl rfl Qs ?_;rintro _ _ ⟨q34,rfl,rfl⟩;refine BL ?_;refine Jr ?_;refine Dx 4 Cb rfl FL ?_;refine Dh ?_;refine J5 ?_;refine mE rfl (Vh wm.sq _) ?_;rintro _ _ ⟨b38,rfl,rfl⟩;refine J3 ?_
   refine Uk (α:=AT) IH (fun xs=>xs=wm.w.AO.l.reverse) (fun ys=>∃mm,mm≤wm.w.AO.l.length∧Gl wm.w.AO.l mm=ys) (fun _=>True) (fun pre=>HP.ex fun za:B9=>HP.pr (za.ok (pre.foldl (Dg r.f.offset (r.f.offset+r.f.data.size)) (.of 4096)))*(AZ q34 za (pre.foldl (Dg r.f.offset (r.f.offset+r.f.data.size)) (.of 4096))*(HP.AA b4 0 [ptr cb (0+43+j*10)]*(HP.AA b5 0 [uN r.f.offset]*(HP.AA b6 0 [uN (r.f.offset+r.f.data.size)]*HP.AA cb (0+43+j*10) [.slice wm.a.p wm.w.b.length wm.a.c,ptr q34 0,ptr wm.cq 0,uN wm.w.high,.bool wm.w.finished,.bool wm.w.ending,.bool wm.w.ended,.bool wm.w.given,uN wm.w.code,.bool wm.w.BG]))))) (fun cx pre=>HP.pr False) ((AZ wm.sq wm.sa wm.w.AO*HP.AA b38 0 [ptr wm.sq 0])*(AB wm.a.b wm.a.o wm.w.b wm.a.s*(AZ wm.cq wm.ca wm.w.AE*(HP.AA b3 0 (AQ r)*R)))) ((AZ wm.sq wm.sa wm.w.AO*HP.AA b38 0 [ptr wm.sq 0])*(AB wm.a.b wm.a.o wm.w.b wm.a.s*(AZ wm.cq wm.ca wm.w.AE*(HP.AA b3 0 (AQ r)*R)))) (fun y x=>[(3,ptr b3 0),(4,ptr b4 0),(5,ptr b5 0),(6,ptr b6 0),(8,ptr y 0)]) (fun y x=>HP.AA y 0 [uN x.lo,uN x.hi]) rfl rfl rfl ?_ (Tz wm.sq b38 wm.sa wm.w.AO _ hok.2.1 (by have:=hw.so.len;rw [hw.sm]at this;omega)) ?_ ?_ ?_ ?_
   ·refine IS DM (Oe 4096) ?_;show _=AZ q34 DM (.of 4096)*(HP.AA b4 0 [ptr cb (0+43+j*10)]*(HP.AA b5 0 [uN r.f.offset]*(HP.AA b6 0 [uN (r.f.offset+r.f.data.size)]*HP.AA cb (0+43+j*10) [.slice wm.a.p wm.w.b.length wm.a.c,ptr q34 0,ptr wm.cq 0,uN wm.w.high,.bool wm.w.finished,.bool wm.w.ending,.bool wm.w.ended,.bool wm.w.given,uN wm.w.code,.bool wm.w.BG])))*((AZ wm.sq wm.sa wm.w.AO*HP.AA b38 0 [ptr wm.sq 0])*(AB wm.a.b wm.a.o wm.w.b wm.a.s*(AZ wm.cq wm.ca wm.w.AE*(HP.AA b3 0 (AQ r)*R))));ac_rfl
   ·intro pre x l R;refine J1 ?_;refine Am N8 rfl ?_;rintro _ _ ⟨b8,rfl,rfl⟩;refine Bv Kv ?_;refine IN ?_;exact Ra b8 HZ rfl
   ·intro y pre x l R0 hsp;refine Au (H':=(HP.ex fun za:B9=>HP.pr (za.ok (pre.foldl (Dg r.f.offset (r.f.offset+r.f.data.size)) (.of 4096)))*(AZ q34 za (pre.foldl (Dg r.f.offset (r.f.offset+r.f.data.size)) (.of 4096))*(HP.AA b4 0 [ptr cb (0+43+j*10)]*(HP.AA b5 0 [uN r.f.offset]*(HP.AA b6 0 [uN (r.f.offset+r.f.data.size)]*HP.AA cb (0+43+j*10) [.slice wm.a.p wm.w.b.length wm.a.c,ptr q34 0,ptr wm.cq 0,uN wm.w.high,.bool wm.w.finished,.bool wm.w.ending,.bool wm.w.ended,.bool wm.w.given,uN wm.w.code,.bool wm.w.BG])))))*(HP.AA y 0 [uN x.lo,uN x.hi]*R0)) Cg ?_;refine MT ?_;rintro zq hzq;obtain⟨mm,hmm,hds⟩:=hsp;have hmem:=eP hmm;rw [hds]at hmem;have hxm:x∈wm.w.AO.l:=hmem x Ce;have hxhi:=hw.so.hi x hxm;obtain⟨cd1,cd2,cd3⟩:=Rf (lo:=r.f.offset) (hi:=(r.f.offset+r.f.data.size)) hw.len pre (.of 4096) .of rfl rfl (fun s hs=>hw.so.hi s (hmem s K6));refine Au (H':=AZ q34 zq (pre.foldl (Dg r.f.offset (r.f.offset+r.f.data.size)) (.of 4096))*((HP.AA b4 0 [ptr cb (0+43+j*10)]*(HP.AA b5 0 [uN r.f.offset]*(HP.AA b6 0 [uN (r.f.offset+r.f.data.size)]*HP.AA cb (0+43+j*10) [.slice wm.a.p wm.w.b.length wm.a.c,ptr q34 0,ptr wm.cq 0,uN wm.w.high,.bool wm.w.finished,.bool wm.w.ending,.bool wm.w.ended,.bool wm.w.given,uN wm.w.code,.bool wm.w.BG])))*(HP.AA y 0 [uN x.lo,uN x.hi]*R0))) Cg ?_;refine CL ?_;refine mC (fun h43=>?_) (fun h43=>?_)
    ·refine mA 11 12 ?_;refine Jd 0 ?_;refine Lr ?_;refine Jh ?_;refine Jf 6 ?_;refine Jd 7 ?_;refine Jd 8 ?_;refine JT 9 rfl Ny ?_;refine JT 10 rfl PH ?_;refine Av 11 Cb rfl rfl (BS rfl (KX q34 x.lo _ wm.w.b.length zq _ _ hzq cd1 Ca Ca (by rw [cd3];omega) (by rw [cd3];omega))) ?_;rintro _ _ ⟨a55,hs55,rfl⟩;obtain⟨e1,e2,e3,_⟩:=IR (lo:=x.lo) (hi:=min x.hi (r.f.offset-1)) cd1 cd2 cd3 hw.len Ca;refine Dc ?_;refine Dm ?_
     first
      |(have hT:=hs55;have f1:=e1;have f2:=e2;have f3:=e3)
      |(have hT:=hzq;have f1:=cd1;have f2:=cd2;have f3:=cd3)
     refine J4 ?_;refine JL Lh ?_;refine J2 ?_;refine mC (fun h59=>?_) (fun h59=>?_)
     ·refine dH ?_;rintro _ _ ⟨a70,hs70,rfl⟩;refine Dc ?_;refine FG ?_
      first
       |exact GP trivial (GK (G:=HP.AA y 0 [uN x.lo,uN x.hi]) (a70:B9) Cu Cv)
       |exact GP trivial (GK (G:=HP.AA y 0 [uN x.lo,uN x.hi]) (a55:B9) Cu Cv)
       |exact GP trivial (GK (G:=HP.AA y 0 [uN x.lo,uN x.hi]) (zq:B9) Cu Cv)
     refine J2 ?_
     first
      |exact GP trivial (GK (G:=HP.AA y 0 [uN x.lo,uN x.hi]) (a70:B9) Cu Cv)
      |exact GP trivial (GK (G:=HP.AA y 0 [uN x.lo,uN x.hi]) (a55:B9) Cu Cv)
      |exact GP trivial (GK (G:=HP.AA y 0 [uN x.lo,uN x.hi]) (zq:B9) Cu Cv)
    refine J3 ?_
    first
     |(have hT:=hs55;have f1:=e1;have f2:=e2;have f3:=e3)
     |(have hT:=hzq;have f1:=cd1;have f2:=cd2;have f3:=cd3)
    refine J4 ?_;refine JL Lh ?_;refine J2 ?_;refine mC (fun h59=>?_) (fun h59=>?_)
    ·refine dH ?_;rintro _ _ ⟨a70,hs70,rfl⟩;refine Dc ?_;refine FG ?_
     first
      |exact GP trivial (GK (G:=HP.AA y 0 [uN x.lo,uN x.hi]) (a70:B9) Cu Cv)
      |exact GP trivial (GK (G:=HP.AA y 0 [uN x.lo,uN x.hi]) (a55:B9) Cu Cv)
      |exact GP trivial (GK (G:=HP.AA y 0 [uN x.lo,uN x.hi]) (zq:B9) Cu Cv)
    refine J2 ?_
    first
     |exact GP trivial (GK (G:=HP.AA y 0 [uN x.lo,uN x.hi]) (a70:B9) Cu Cv)
     |exact GP trivial (GK (G:=HP.AA y 0 [uN x.lo,uN x.hi]) (a55:B9) Cu Cv)
     |exact GP trivial (GK (G:=HP.AA y 0 [uN x.lo,uN x.hi]) (zq:B9) Cu Cv)
   ·intro d xs hS;subst hS;refine Rh ?_;rintro zq hzq;obtain⟨cd1,cd2,cd3⟩:=Rf (lo:=r.f.offset) (hi:=(r.f.offset+r.f.data.size)) hw.len wm.w.AO.l.reverse (.of 4096) .of rfl rfl (fun s hs=>hw.so.hi s (by simpa using hs));refine D2 (H':=(HP.AA b4 0 [ptr cb (0+43+j*10)]*(HP.AA b5 0 [uN r.f.offset]*(HP.AA b6 0 [uN (r.f.offset+r.f.data.size)]*HP.AA cb (0+43+j*10) [.slice wm.a.p wm.w.b.length wm.a.c,ptr q34 0,ptr wm.cq 0,uN wm.w.high,.bool wm.w.finished,.bool wm.w.ending,.bool wm.w.ended,.bool wm.w.given,uN wm.w.code,.bool wm.w.BG])))*(AZ q34 zq (wm.w.AO.l.reverse.foldl (Dg r.f.offset (r.f.offset+r.f.data.size)) (.of 4096))*(AZ wm.cq wm.ca wm.w.AE*(AB wm.a.b wm.a.o wm.w.b wm.a.s*(AZ wm.sq wm.sa wm.w.AO*(HP.AA b38 0 [ptr wm.sq 0]*(HP.obj d (.deferred (some []))*(HP.AA b3 0 (AQ r)*R)))))))) Cg ?_;refine J9 ?_;refine mE rfl (Vh wm.cq _) ?_;rintro _ _ ⟨b75,rfl,rfl⟩;refine J3 ?_
    refine Uk (α:=AT) IH (fun xs=>xs=wm.w.AE.l.reverse) (fun ys=>∃mm,mm≤wm.w.AE.l.length∧Gl wm.w.AE.l mm=ys) (fun _=>True) (fun pre=>HP.ex fun za:B9=>HP.pr (za.ok (pre.foldl (fun s r=>s.add r.lo r.hi) (wm.w.AO.l.reverse.foldl (Dg r.f.offset (r.f.offset+r.f.data.size)) (.of 4096))))*(AZ q34 za (pre.foldl (fun s r=>s.add r.lo r.hi) (wm.w.AO.l.reverse.foldl (Dg r.f.offset (r.f.offset+r.f.data.size)) (.of 4096)))*(HP.AA b4 0 [ptr cb (0+43+j*10)]*(HP.AA b5 0 [uN r.f.offset]*(HP.AA b6 0 [uN (r.f.offset+r.f.data.size)]*HP.AA cb (0+43+j*10) [.slice wm.a.p wm.w.b.length wm.a.c,ptr q34 0,ptr wm.cq 0,uN wm.w.high,.bool wm.w.finished,.bool wm.w.ending,.bool wm.w.ended,.bool wm.w.given,uN wm.w.code,.bool wm.w.BG]))))) (fun cx pre=>HP.pr False) ((AZ wm.cq wm.ca wm.w.AE*HP.AA b75 0 [ptr wm.cq 0])*(AB wm.a.b wm.a.o wm.w.b wm.a.s*(AZ wm.sq wm.sa wm.w.AO*(HP.AA b38 0 [ptr wm.sq 0]*(HP.obj d (.deferred (some []))*(HP.AA b3 0 (AQ r)*R)))))) ((AZ wm.cq wm.ca wm.w.AE*HP.AA b75 0 [ptr wm.cq 0])*(AB wm.a.b wm.a.o wm.w.b wm.a.s*(AZ wm.sq wm.sa wm.w.AO*(HP.AA b38 0 [ptr wm.sq 0]*(HP.obj d (.deferred (some []))*(HP.AA b3 0 (AQ r)*R)))))) (fun y x=>[(3,ptr b3 0),(4,ptr b4 0),(9,ptr y 0)]) (fun y x=>HP.AA y 0 [uN x.lo,uN x.hi]) rfl rfl rfl ?_ (Tz wm.cq b75 wm.ca wm.w.AE _ hok.2.2 (by have:=hw.co.len;rw [hw.cm]at this;omega)) ?_ ?_ ?_ ?_
    ·refine IS zq hzq ?_;show _=AZ q34 zq (wm.w.AO.l.reverse.foldl (Dg r.f.offset (r.f.offset+r.f.data.size)) (.of 4096))*(HP.AA b4 0 [ptr cb (0+43+j*10)]*(HP.AA b5 0 [uN r.f.offset]*(HP.AA b6 0 [uN (r.f.offset+r.f.data.size)]*HP.AA cb (0+43+j*10) [.slice wm.a.p wm.w.b.length wm.a.c,ptr q34 0,ptr wm.cq 0,uN wm.w.high,.bool wm.w.finished,.bool wm.w.ending,.bool wm.w.ended,.bool wm.w.given,uN wm.w.code,.bool wm.w.BG])))*((AZ wm.cq wm.ca wm.w.AE*HP.AA b75 0 [ptr wm.cq 0])*(AB wm.a.b wm.a.o wm.w.b wm.a.s*(AZ wm.sq wm.sa wm.w.AO*(HP.AA b38 0 [ptr wm.sq 0]*(HP.obj d (.deferred (some []))*(HP.AA b3 0 (AQ r)*R))))));ac_rfl
    ·intro pre x l R;refine J1 ?_;refine Am N8 rfl ?_;rintro _ _ ⟨b9,rfl,rfl⟩;refine Bv Kv ?_;refine IN ?_;exact Ra b9 Ea rfl
    ·intro y pre x l R0 hsp;refine Au (H':=(HP.ex fun za:B9=>HP.pr (za.ok (pre.foldl (fun s r=>s.add r.lo r.hi) (wm.w.AO.l.reverse.foldl (Dg r.f.offset (r.f.offset+r.f.data.size)) (.of 4096))))*(AZ q34 za (pre.foldl (fun s r=>s.add r.lo r.hi) (wm.w.AO.l.reverse.foldl (Dg r.f.offset (r.f.offset+r.f.data.size)) (.of 4096)))*(HP.AA b4 0 [ptr cb (0+43+j*10)]*(HP.AA b5 0 [uN r.f.offset]*(HP.AA b6 0 [uN (r.f.offset+r.f.data.size)]*HP.AA cb (0+43+j*10) [.slice wm.a.p wm.w.b.length wm.a.c,ptr q34 0,ptr wm.cq 0,uN wm.w.high,.bool wm.w.finished,.bool wm.w.ending,.bool wm.w.ended,.bool wm.w.given,uN wm.w.code,.bool wm.w.BG])))))*(HP.AA y 0 [uN x.lo,uN x.hi]*R0)) Cg ?_;refine MT ?_;rintro zq hzq;obtain⟨mm,hmm,hds⟩:=hsp;have hmem:=eP hmm;rw [hds]at hmem;have hxm:x∈wm.w.AE.l:=hmem x Ce;have hxhi:=hw.co.hi x hxm;obtain⟨ad1,ad2,ad3⟩:=U8 hw.len pre (wm.w.AO.l.reverse.foldl (Dg r.f.offset (r.f.offset+r.f.data.size)) (.of 4096)) cd1 cd2 cd3 (fun s hs=>hw.co.hi s (hmem s K6))
     refine Au (H':=AZ q34 zq (pre.foldl (fun s r=>s.add r.lo r.hi) (wm.w.AO.l.reverse.foldl (Dg r.f.offset (r.f.offset+r.f.data.size)) (.of 4096)))*((HP.AA b4 0 [ptr cb (0+43+j*10)]*(HP.AA b5 0 [uN r.f.offset]*(HP.AA b6 0 [uN (r.f.offset+r.f.data.size)]*HP.AA cb (0+43+j*10) [.slice wm.a.p wm.w.b.length wm.a.c,ptr q34 0,ptr wm.cq 0,uN wm.w.high,.bool wm.w.finished,.bool wm.w.ending,.bool wm.w.ended,.bool wm.w.given,uN wm.w.code,.bool wm.w.BG])))*(HP.AA y 0 [uN x.lo,uN x.hi]*R0))) Cg ?_;refine J1 ?_;refine mA 8 9 ?_;refine Jd 0 ?_;refine Lr ?_;refine Jh ?_;refine Jf 6 ?_;refine Jd 7 ?_;refine Av 8 Cb rfl rfl (BS rfl (KX q34 x.lo x.hi wm.w.b.length zq _ _ hzq ad1 Ca Ca (by rw [ad3];omega) (by rw [ad3];omega))) ?_;rintro _ _ ⟨a85,hs85,rfl⟩;refine Dc ?_;refine FG ?_;exact GP trivial (GK (G:=HP.AA y 0 [uN x.lo,uN x.hi]) (a85:B9) (by rw [kj,lm,ln];exact hs85) (by rw [kj,lm,ln];ac_rfl))
    ·intro d2 xs hS;subst hS;refine Rh ?_;rintro zq hzq;refine D2 (H':=(HP.AA b4 0 [ptr cb (0+43+j*10)]*(HP.AA b5 0 [uN r.f.offset]*(HP.AA b6 0 [uN (r.f.offset+r.f.data.size)]*HP.AA cb (0+43+j*10) [.slice wm.a.p wm.w.b.length wm.a.c,ptr q34 0,ptr wm.cq 0,uN wm.w.high,.bool wm.w.finished,.bool wm.w.ending,.bool wm.w.ended,.bool wm.w.given,uN wm.w.code,.bool wm.w.BG])))*(AZ q34 zq (wm.w.AE.l.reverse.foldl (fun s r=>s.add r.lo r.hi) (wm.w.AO.l.reverse.foldl (Dg r.f.offset (r.f.offset+r.f.data.size)) (.of 4096)))*(HP.obj d2 (.deferred (some []))*(AZ wm.cq wm.ca wm.w.AE*(HP.AA b75 0 [ptr wm.cq 0]*(AB wm.a.b wm.a.o wm.w.b wm.a.s*(AZ wm.sq wm.sa wm.w.AO*(HP.AA b38 0 [ptr wm.sq 0]*(HP.obj d (.deferred (some []))*(HP.AA b3 0 (AQ r)*R)))))))))) Cg ?_
     have eag:wm.w.again r.f={wm.w with AO:=wm.w.AE.l.reverse.foldl (fun s r=>s.add r.lo r.hi) (wm.w.AO.l.reverse.foldl (Dg r.f.offset (r.f.offset+r.f.data.size)) (.of 4096)),ending:=wm.w.ending&& !r.f.fin}:=by unfold AR.again;rw [if_pos hk5]
     refine J8 ?_;refine mc (fun h87=>?_) (fun h87=>?_)
     ·refine J7 ?_;refine D2 (H':=HP.obj d2 (.deferred (some []))*(HP.obj d (.deferred (some []))*(HP.AA cb (0+43+j*10) [.slice wm.a.p wm.w.b.length wm.a.c,ptr q34 0,ptr wm.cq 0,uN wm.w.high,.bool wm.w.finished,.bool false,.bool wm.w.ended,.bool wm.w.given,uN wm.w.code,.bool wm.w.BG]*(AB wm.a.b wm.a.o wm.w.b wm.a.s*(AZ q34 zq (wm.w.AE.l.reverse.foldl (fun s r=>s.add r.lo r.hi) (wm.w.AO.l.reverse.foldl (Dg r.f.offset (r.f.offset+r.f.data.size)) (.of 4096)))*(AZ wm.cq wm.ca wm.w.AE*(R*(HP.AA b4 0 [ptr cb (0+43+j*10)]*(HP.AA b5 0 [uN r.f.offset]*(HP.AA b6 0 [uN (r.f.offset+r.f.data.size)]*(HP.AA b75 0 [ptr wm.cq 0]*(AZ wm.sq wm.sa wm.w.AO*(HP.AA b38 0 [ptr wm.sq 0]*HP.AA b3 0 (AQ r)))))))))))))) Cg ?_
      obtain⟨w2,hw2⟩:∃w2:Bi,w2={wm with w:=wm.w.again r.f,sq:=q34,sa:=zq}:=Bl
      have hok2:w2.ok:=by rw [hw2];unfold Bi.ok;dsimp only;rw [eag];exact⟨hok.1,hzq,hok.2.2⟩
      refine Bo (HP.obj d2 (.deferred (some []))*(HP.obj d (.deferred (some []))*(HP.AA cb (0+43+j*10) (Bn w2)*(Bu w2*R)))) (hE:=?_) ?_
      ·rw [hw2,eag,h87];unfold Bu;dsimp only [ku,kp,kq,kv];simp only [ku,kp,kq,kv];infer_instance
      exact Xz
     refine J2 ?_;refine D2 (H':=HP.obj d2 (.deferred (some []))*(HP.obj d (.deferred (some []))*(HP.AA cb (0+43+j*10) [.slice wm.a.p wm.w.b.length wm.a.c,ptr q34 0,ptr wm.cq 0,uN wm.w.high,.bool wm.w.finished,.bool wm.w.ending,.bool wm.w.ended,.bool wm.w.given,uN wm.w.code,.bool wm.w.BG]*(AB wm.a.b wm.a.o wm.w.b wm.a.s*(AZ q34 zq (wm.w.AE.l.reverse.foldl (fun s r=>s.add r.lo r.hi) (wm.w.AO.l.reverse.foldl (Dg r.f.offset (r.f.offset+r.f.data.size)) (.of 4096)))*(AZ wm.cq wm.ca wm.w.AE*(R*(HP.AA b4 0 [ptr cb (0+43+j*10)]*(HP.AA b5 0 [uN r.f.offset]*(HP.AA b6 0 [uN (r.f.offset+r.f.data.size)]*(HP.AA b75 0 [ptr wm.cq 0]*(AZ wm.sq wm.sa wm.w.AO*(HP.AA b38 0 [ptr wm.sq 0]*HP.AA b3 0 (AQ r)))))))))))))) Cg ?_
     obtain⟨w2,hw2⟩:∃w2:Bi,w2={wm with w:=wm.w.again r.f,sq:=q34,sa:=zq}:=Bl
     have hok2:w2.ok:=by rw [hw2];unfold Bi.ok;dsimp only;rw [eag];exact⟨hok.1,hzq,hok.2.2⟩
     refine Bo (HP.obj d2 (.deferred (some []))*(HP.obj d (.deferred (some []))*(HP.AA cb (0+43+j*10) (Bn w2)*(Bu w2*R)))) (hE:=?_) ?_
     ·rw [hw2,eag,h87];unfold Bu;dsimp only [ku,kp,kq,kv];simp only [ku,kp,kq,kv];infer_instance
     exact Xz
    rintro d2 pre id _ aa ww _ _ h3;exact VZ
    -- no other way
   rintro d pre id _ aa ww _ _ h3;exact VZ
   -- no other way
 refine J2 ?_;refine JL (DI (i:=r.f.kind) (j:=4) rfl rfl) ?_;refine J3 ?_;refine mC (fun hk4=>?_) (fun hk4=>?_)
 ·refine J7 ?_
  obtain⟨w2,hw2⟩:∃w2:Bi,w2={wm with w:=wm.w.again r.f}:=Bl
  have eag:wm.w.again r.f={wm.w with BG:=false}:=by unfold AR.again;rw [if_neg hk5,if_pos hk4]
  have hok2:w2.ok:=by rw [hw2];unfold Bi.ok;dsimp only;rw [eag];exact hok
  refine D2 (H':=HP.AA cb (0+43+j*10) (Bn {wm with w:={wm.w with BG:=false}})*(AB wm.a.b wm.a.o wm.w.b wm.a.s*(AZ wm.sq wm.sa wm.w.AO*(AZ wm.cq wm.ca wm.w.AE*(R*(HP.AA b4 0 [ptr cb (0+43+j*10)]*HP.AA b3 0 (AQ r))))))) (by show _=HP.AA cb (0+43+j*10) [.slice wm.a.p wm.w.b.length wm.a.c,ptr wm.sq 0,ptr wm.cq 0,uN wm.w.high,.bool wm.w.finished,.bool wm.w.ending,.bool wm.w.ended,.bool wm.w.given,uN wm.w.code,.bool false]*_;ac_rfl) ?_;refine iQ ?_;exact jU
 refine J2 ?_
 obtain⟨w2,hw2⟩:∃w2:Bi,w2={wm with w:=wm.w.again r.f}:=Bl
 have eag:wm.w.again r.f=wm.w:=by unfold AR.again;rw [if_neg hk5,if_neg hk4]
 have hok2:w2.ok:=by rw [hw2];unfold Bi.ok;dsimp only;rw [eag];exact hok
 refine D2 (H':=HP.AA cb (0+43+j*10) (Bn {wm with w:=wm.w})*(AB wm.a.b wm.a.o wm.w.b wm.a.s*(AZ wm.sq wm.sa wm.w.AO*(AZ wm.cq wm.ca wm.w.AE*(R*(HP.AA b4 0 [ptr cb (0+43+j*10)]*HP.AA b3 0 (AQ r))))))) (by show _=HP.AA cb (0+43+j*10) [.slice wm.a.p wm.w.b.length wm.a.c,ptr wm.sq 0,ptr wm.cq 0,uN wm.w.high,.bool wm.w.finished,.bool wm.w.ending,.bool wm.w.ended,.bool wm.w.given,uN wm.w.code,.bool wm.w.BG]*_;ac_rfl) ?_;refine iQ ?_;exact jU
end
section
theorem Sat.oT{P:Program}{B:World}{α:Type}[AC α]{b o k:Nat}{xs:List α}{s:List Value}{R:HP}{w:World}(y:α)(hk:k<xs.length)(h:Sat B (AB b o xs s*R) w):
  ∃w',(storeCells ⟨b,o+k*AC.sz α,none⟩ (AC.At y)).run P w=.ok () w'∧Sat B (AB b o (xs.set k y) s*R) w':=by
 have hd:xs.drop k=xs[k]::xs.drop (k+1):=List.drop_eq_getElem_cons hk
 have e1:AG xs++s=AG (xs.take k)++(AG (xs.drop k)++s):=by rw [←i_,←E7,List.take_append_drop]
 have hl:(AG (xs.take k)).length=k*AC.sz α:=by rw [By,d_,h_ Ca]
 have h2:Sat B (HP.AA b (o+k*AC.sz α+0) (AG (xs.drop k)++s)*(HP.AA b o (AG (xs.take k))*R)) w:=by
  rw [HP.CV,←HP.assoc,lr,←hl,←HP.Fa,←e1];exact h
 have hle:(AC.At y).length≤(AG (xs.drop k)++s).length:=by
  rw [kh,By,AC.len,li]
  have:=Nat.mul_le_mul_right (AC.sz α) (show 1≤xs.length-k by omega)
  omega
 obtain⟨w',h3,h4⟩:=Sat.Jw (P:=P) (AC.At y) (o+k*AC.sz α) 0 (AG (xs.drop k)++s) _ w hle (AC.one y) h2;refine⟨w',h3,?_⟩
 have e2:(AG (xs.drop k)++s).drop (AC.At y).length=AG (xs.drop (k+1))++s:=by
  rw [hd];show(AC.At xs[k]++AG (xs.drop (k+1))++s).drop _=_;rw [i_,AC.len,←AC.len xs[k],List.drop_left]
 rw [e2,HP.CV,←HP.assoc,lr,←hl,←HP.Fa]at h4
 have e3:AG (xs.set k y)++s=AG (xs.take k)++(AC.At y++(AG (xs.drop (k+1))++s)):=by
  rw [e_,if_pos hk,E7];show _++(AC.At y++AG (xs.drop (k+1)))++s=_;simp only [i_]
 unfold AB;rw [e3];exact h4
section
variable{P:Program}{B:World}{n:Nat}{E:A5}{D:B6}{H R:HP}{d:Option Tmp}{T T' ty:TypeId}{pos:String}{af:Array Edge}{g:Option (Nat×Bool)}{x y z:Operand}
theorem o0{α:Type}[AC α]{b o k:Nat}{xs:List α}{s:List Value}(v:α)[hT:Ep P T (AC.sz α)](hx:ev E x=some (.pointer (some ⟨b,o+k*AC.sz α,none⟩)))(hy:ev E y=some (.agg (AC.At v).toArray))(hk:k<xs.length):
  CU P B n ⟨d,.store T x y,ty,pos,af,g⟩ E D (AB b o xs s*R) (fun v' H''=>v'=undef∧H''=AB b o (xs.set k v) s*R):=by
 intro a w h1 _ h3 K Q hkk;obtain⟨w',hw1,hw2⟩:=Sat.oT (P:=P) v hk h3;have hl:(AC.At v).length=AC.sz α:=AC.len v
 have hrun:(execOp a.eval ⟨d,.store T x y,ty,pos,af,g⟩).run P w=.ok .skip w':=by
  simp only [execOp,h1.ev hx,h1.ev hy,Instr.storeAt,Instr.sureAddr,Sem.run_bind,Sem.run_pure,Result.andThen_ok,storeVar,hT.size,Value.cells];simp [hl,hw1]
 simp only [Oper.wp,hrun,Oper.upon];exact hkk undef _ _ BY hw2
end
end
section
variable{B:World}
abbrev Mu(m:BH):Value:=.agg (B4 m).toArray
def RE(B:World)(f:FuncId)(us:List Value)(l:List BH)(P:BH→Bool)(G:List BH→HP):Prop:=
 ∀pre x R,(∃m,m≤l.length∧l.take m=pre++[x])→Fn Tryz.prog B f (Mu x::us) (G pre*R) (fun v H'=>v=.bool (P x)∧H'=G (pre++[x])*R)
theorem LH{l:List BH}{i:Nat}(h:i<l.length):l.take (i+1)=l.take i++[l.getD i AC.AK]:=by
 rw [a_,b_ h,j_,km h]
theorem l9(l:List BH)(p:Option Addr)(b o c:Nat)(s:List Value)(f:FuncId)(us:List Value)(P:BH→Bool)(G:List BH→HP)(R:HP)[Ah Tryz.prog f](hs:Sl p b o l.length c)(hl:l.length<1000000000)(hf:RE B f us l P G):
  Fn Tryz.prog B 187 [.slice p l.length c,CZ f us] (G []*(AB b o l s*R))
   (fun v H'=>∃(kz:Int) (mz:Nat),v=.int .i64 kz∧((kz= -1∧mz=l.length∧∀j,j<l.length→P (l.getD j AC.AK)=false)∨(∃k:Nat,kz=k∧k<l.length∧mz=k+1∧P (l.getD k AC.AK)=true∧∀j,j<k→P (l.getD j AC.AK)=false))∧
    H'=G (l.take mz)*(AB b o l s*R)):=by
 refine mI Tryz.func187 ?_;refine Hb ?_;refine J7 ?_;refine HQ ?_;refine Bj (α:=Nat) (fun i=>[(0,.slice p l.length c),(1,CZ f us),(7,iN l.length),(8,iN i)]) (fun i=>G (l.take i)*(AB b o l s*R)) (fun i=>i≤l.length∧∀j,j<i→P (l.getD j AC.AK)=false) (fun i=>l.length-i) 0 ⟨ll _,(fun j h=>absurd h Ly)⟩ DN (by rw [lq]) ?_;rintro i ⟨hi1,hi2⟩;refine J6 ?_;refine mC (fun h9=>?_) (fun h9=>?_)
 ·refine QL ?_;refine JL NG ?_;refine JL (It (xs:=l) rfl inferInstance Ca) ?_;refine Am (IJ rfl rfl (hf (l.take i) (l.getD i AC.AK) _ ⟨i+1,Ca,LH h9⟩)) rfl ?_;refine JR ?_;refine J2 ?_;refine mc (fun h16=>?_) (fun h16=>?_)
  ·refine DV ?_;exact mr [4] rfl rfl ⟨(i:Nat),i+1,rfl,.inr ⟨i,rfl,h9,rfl,h16,hi2⟩,by rw [LH h9]⟩
  refine Ic ?_;exact Ba (i+1) ⟨Ca,fun j hj=>by rcases lu j i with h|h;exact hi2 j h;obtain rfl:j=i:=Ca;exact h16⟩ Ca DN (by rw [LH h9])
 refine B1 ?_;exact mr [4] rfl rfl ⟨-1,l.length,rfl,.inl ⟨rfl,rfl,fun j hj=>hi2 j Ca⟩,by rw [show i=l.length by omega]⟩
theorem lG{l:List BH}{P:BH→Bool}{k:Nat}(hk:k≤l.length)(h:∀j,j<k→P (l.getD j AC.AK)=false):(l.take k).filter (fun x=> !P x)=l.take k:=by
 rw [List.filter_eq_self];intro a ha;obtain⟨j,hj,rfl⟩:=ko ha
 have hj2:j<k∧j<l.length:=by rw [d_]at hj;omega
 have:=h j hj2.1
 rw [a_,b_ hj2.2,j_]at this;rw [List.getElem_take,this];rfl
structure HW where
 i:Nat
 j:Nat
 L:List BH
def HW.ok(z:HW)(l:List BH)(P:BH→Bool):Prop:=
 z.j≤l.length∧z.i<z.j∧z.L.length=l.length∧z.L.take z.i=(l.take z.j).filter (fun x=> !P x)∧z.L.drop z.j=l.drop z.j
theorem S2{l m:List BH}{j:Nat}(h:m.drop j=l.drop j)(hl:m.length=l.length)(hj:j<l.length):m.getD j AC.AK=l.getD j AC.AK:=by
 have:(m.drop j)[0]?=(l.drop j)[0]?:=by rw [h]
 rw [lf,lf]at this;simp only [a_];rw [show j=j+0 from rfl,this]
theorem HW.X4{z:HW}{l:List BH}{P:BH→Bool}(h:z.ok l P)(hj:z.j<l.length)(hP:P (z.L.getD z.j AC.AK)=false):(⟨z.i+1,z.j+1,z.L.set z.i (z.L.getD z.j AC.AK)⟩:HW).ok l P:=by
 obtain⟨h1,h2,h3,h4,h5⟩:=h;have e:=S2 h5 h3 hj;refine⟨hj,by show z.i+1<z.j+1;omega,by show(z.L.set _ _).length=_;rw [List.length_set];exact h3,?_,?_⟩
 ·show(z.L.set z.i (z.L.getD z.j AC.AK)).take (z.i+1)=_
  have h6:z.i<z.L.length:=by omega
  rw [e_,if_pos h6,List.take_append,List.take_of_length_le ON,d_,h_ Ca,show z.i+1-z.i=0+1 by omega,List.take_succ_cons,lq,h4,LH hj,g',←e,g_ (by show(!P _)=true;rw [hP];rfl),kg]
 ·show(z.L.set z.i (z.L.getD z.j AC.AK)).drop (z.j+1)=_;rw [List.drop_set_of_lt Ca]
  have:=congrArg (lw 1) h5
  rwa [kr,kr]at this
theorem HW.skip{z:HW}{l:List BH}{P:BH→Bool}(h:z.ok l P)(hj:z.j<l.length)(hP:P (z.L.getD z.j AC.AK)=true):(⟨z.i,z.j+1,z.L⟩:HW).ok l P:=by
 obtain⟨h1,h2,h3,h4,h5⟩:=h;have e:=S2 h5 h3 hj;refine⟨hj,by show z.i<z.j+1;omega,h3,?_,?_⟩
 ·show z.L.take z.i=(l.take (z.j+1)).filter _;rw [h4,LH hj,g',←e,f_ (by show ¬(!P _)=true;rw [hP];simp),kg,kn]
 ·show z.L.drop (z.j+1)=_
  have:=congrArg (lw 1) h5
  rwa [kr,kr]at this
set_option maxHeartbeats 1000000 in
theorem TO(l:List BH)(p:Option Addr)(b o c:Nat)(s:List Value)(f:FuncId)(us:List Value)(P:BH→Bool)(G:List BH→HP)(R:HP)[Ah Tryz.prog f](hs:Sl p b o l.length c)(hc:l.length*3+s.length=c*3)(hl:l.length<1000000000)(hf:RE B f us l P G):
  Fn Tryz.prog B 161 [.slice p l.length c,CZ f us] (G []*(AB b o l s*R)) (fun v H'=>CB (G l*R) (l.filter (fun x=> !P x)) v H'):=by
 refine mI Tryz.func161 ?_;refine J9 ?_;refine mE rfl (l9 l p b o c s f us P G R hs hl hf) ?_;rintro _ _ ⟨kz,mz,rfl,hkz,rfl⟩;refine J7 ?_;refine JL (DI (i:=kz) (j:= -1) rfl rfl) ?_;refine J2 ?_;refine mC (fun h12=>?_) (fun h12=>?_)
 ·obtain⟨_,rfl,hk3⟩:=hkz.resolve_right (fun⟨k,h,_⟩=>by omega)
  have hnone:l.filter (fun x=> !P x)=l:=by have:=lG CW hk3;rwa [kf]at this
  refine J8 ?_;exact mr [4] rfl rfl ⟨p,b,o,c,s,Vc,by rw [hnone];exact hs,by rw [hnone];exact hc,by rw [hnone,kf];ac_rfl⟩
 obtain⟨k,rfl,hk1,rfl,hk2,hk3⟩:=hkz.resolve_left (fun h=>h12 h.1);refine Rj (E':=[(5,iN k),(0,.slice p l.length c),(1,CZ f us)]) Ea ?_;refine J6 ?_;refine KC ?_;refine J4 ?_
 refine Bj (α:=HW) (fun z=>[(0,.slice p l.length c),(1,CZ f us),(5,iN z.i),(6,iN z.j)]) (fun z=>G (l.take z.j)*(AB b o z.L s*R)) (fun z=>z.ok l P) (fun z=>l.length-z.j) ⟨k,k+1,l⟩ ⟨by show k+1≤l.length;omega,by show k<k+1;omega,rfl,by show l.take k=(l.take (k+1)).filter _;rw [LH hk1,g',lG Ca hk3,f_ (by show ¬(!P _)=true;rw [hk2];simp),kg,kn],rfl⟩ DN rfl ?_
 rintro z hz;have hz1:=hz.1;have hz2:=hz.2.1;have hz3:=hz.2.2.1;refine J9 ?_;refine mC (fun h19=>?_) (fun h19=>?_)
 ·have hgd:=S2 hz.2.2.2.2 hz3 h19
  have ets:l.take (z.j+1)=l.take z.j++[z.L.getD z.j AC.AK]:=by rw [LH h19,hgd]
  refine J8 ?_;refine JL NG ?_;refine JL (It (xs:=z.L) rfl inferInstance Ca) ?_;refine LE ?_;rintro _ _ ⟨b7,rfl,rfl⟩;refine Bv (EO rfl rfl Ch (AC.one _)) ?_;refine Kc ?_;refine JL ZA ?_;refine BQ (H':=G (l.take z.j)*(AB b o z.L s*(HP.AA b7 0 (B4 (z.L.getD z.j AC.AK))*R))) Cg ?_;refine Am (IJ rfl rfl (hf (l.take z.j) (z.L.getD z.j AC.AK) _ ⟨z.j+1,Ca,ets⟩)) rfl ?_;refine JR ?_;refine JP ?_;refine mc (fun h29=>?_) (fun h29=>?_)
  ·skip
   have h29:P (z.L.getD z.j AC.AK)=false:=by simpa using h29
   refine J4 ?_;refine JL ZA ?_;refine JL NG ?_;refine BQ (H':=AB b o z.L s*(HP.AA b7 0 (B4 (z.L.getD z.j AC.AK))*(G (l.take z.j++[z.L.getD z.j AC.AK])*R))) Cg ?_;refine Bv (o0 (z.L.getD z.j AC.AK) (k:=z.i) rfl rfl Ca) ?_;refine JR ?_;refine J2 ?_;refine Hy (AB b o (z.L.set z.i (z.L.getD z.j AC.AK)) s*(G (l.take z.j++[z.L.getD z.j AC.AK])*R)) ?_;refine J2 ?_;refine KC ?_;refine J6 ?_;refine D7 ?_
   first
    |exact Ba ⟨z.i+1,z.j+1,z.L.set z.i (z.L.getD z.j AC.AK)⟩ (HW.X4 hz h19 h29) RM DN kC
    |exact Ba ⟨z.i,z.j+1,z.L⟩ (HW.skip hz h19 h29) RM DN dR
  have h29:P (z.L.getD z.j AC.AK)=true:=by simpa using h29
  refine Hy (G (l.take z.j++[z.L.getD z.j AC.AK])*(AB b o z.L s*R)) ?_;refine J5 ?_;refine D7 ?_
  first
   |exact Ba ⟨z.i+1,z.j+1,z.L.set z.i (z.L.getD z.j AC.AK)⟩ (HW.X4 hz h19 h29) RM DN kC
   |exact Ba ⟨z.i,z.j+1,z.L⟩ (HW.skip hz h19 h29) RM DN dR
 refine J6 ?_
 obtain rfl':z.j=l.length:=by omega
 refine Au (H':=HP.AA b o (AG z.L++s)*(G (l.take z.j)*R)) R8 ?_
 have hfl:(AG z.L++s).length=c*3:=by rw [kh,By,hz3];exact hc
 have hfi:z.L.take z.i=l.filter (fun x=> !P x):=by rw [hz.2.2.2.1,rfl',kf]
 refine J3 ?_;refine JL Ij ?_;refine Bv (O8 (sz:=3) (b:=b) (o:=o) (k:=z.i) rfl (E3 (k:=l.length) hs (by omega:z.i≤l.length) hs.2 rfl) (by rw [hfl];have:=hs.2;omega) rfl Cc) ?_;rintro _ _ ⟨L',k1,k2,k3,rfl⟩;refine J6 ?_;refine JL VI ?_;refine J4 ?_;exact mR [4] (HP.AA b o L'*(G l*R)) (hE:=by rw [rfl',kf];infer_instance) rfl rfl ⟨p,b,o,c,L'.drop (z.i*3),by rw [←hfi,d_,h_ Ca];rfl,⟨hs.1,by rw [←hfi,d_,h_ Ca];have:=hs.2;omega⟩,by rw [←hfi,d_,h_ Ca,li,k1,hfl];show z.i*3+_=c*3;have:=hs.2;omega,by congr 1;refine Nu ?_;refine Ou (α:=BH) (k:=z.i) ?_;refine Eq.trans k2 ?_;rw [←hfi];exact OB z.L z.i s Ca⟩
end
section
variable{B:World}
theorem TY{m:BH}{l:List BH}(h:m∈l):Ai B (AU A2 l) m.a.b m.a.o m.fs:=by
 obtain⟨k,hk,rfl⟩:=ko h;rw [Pe A2 l k AC.AK hk,a_,b_ hk,j_];unfold A2;infer_instance
structure NQ where
 ws:List Bi
 la:A8
 lo:List BH
structure NQ.Ok(z:NQ)(ws0:List AR)(lo0:List BH)(P:DR→Bool)(pre:List BH):Prop where
 ws:∀w∈z.ws,w.ok
 mw:z.ws.map (·.w)=((pre.filter (fun m=>P m.An)).map (·.An)).foldl IW ws0
 la:z.la.ok z.lo
 lo:z.lo=lo0++pre.filter (fun m=>P m.An)
def Ip(cb:Nat)(x:CC)(ws0:List AR)(lo0:List BH)(P:DR→Bool)(K:HP)(pre:List BH):HP:=
 HP.ex fun z:NQ=>HP.pr (z.Ok ws0 lo0 P pre)*(AX cb {x with lv:=z.la.v z.lo.length}*(BB cb z.ws*(z.la.h z.lo*K)))
set_option maxHeartbeats 2000000 in
theorem cz(cb AF bl bc:Nat)(x:CC)(ws0:List AR)(lo0 l:List BH)(lost:DR→Bool)(f:FuncId)(us:List Value)(G0:HP)[Ah Tryz.prog f](hw0:Dd AF ws0)(hlok:∀m∈l,m.ok)
  (hfr:∀m∈l,∀g∈m.An.Ag,EC ws0 g)(hlen:l.length+lo0.length<100000000)(hfl:∀m∈l,m.fs.length<100000000)
  (hf0:∀(x':CC) (m:BH) (R':HP),x'.BF=x.BF→m∈l→Fn Tryz.prog B f (Mu m::us) (AX cb x'*(G0*R')) (fun v H'=>v=.bool (lost m.An)∧H'=AX cb x'*(G0*R'))):
  RE B 162 [ptr bl 0,ptr bc 0] l (fun m=>lost m.An) (Ip cb x ws0 lo0 lost (G0*(HP.AA bl 0 [CZ f us]*(HP.AA bc 0 [ptr cb 0]*AU A2 l)))):=by
 intro pre fm R hpre;obtain⟨mm,hmm,hpre⟩:=hpre;have hmem:fm∈l:=ld (i:=mm) (by rw [hpre];simp);have hsub:∀m∈pre,m∈l:=fun m hm=>ld (i:=mm) (by rw [hpre];simp [hm]);have hfm:=hlok fm hmem;have hfl2:=hfl fm hmem;have hrd:=TY (B:=B) hmem;refine mI Tryz.func162 ?_;unfold Ip;refine MT ?_;rintro⟨ws,la,lo⟩ ⟨hz1,hz2,hz3,hz4⟩;dsimp only at hz1 hz2 hz3 hz4⊢
 obtain⟨wo1,wo2,_⟩:=NU (AF:=AF) ((pre.filter (fun m=>lost m.An)).map (·.An)) ws0 hw0 (fun p hp g hg=>by
  obtain⟨m,hm,rfl⟩:=ki.1 hp
  exact hfr m (hsub m (kw.1 hm).1) g hg)
 rw [←hz2]at wo1 wo2;refine Au (H':=AX cb {x with lv:=la.v lo.length}*(BB cb ws*(AB la.b la.o lo la.s*(G0*(HP.AA bl 0 [CZ f us]*(HP.AA bc 0 [ptr cb 0]*(AU A2 l*R))))))) Cg ?_;refine J2 ?_;refine Am (Dn (l:=B4 fm) rfl rfl) rfl ?_;rintro _ _ ⟨b3,rfl,rfl⟩;refine J7 ?_;refine JL (D6 (l:=B4 fm) rfl rfl) ?_;refine BQ (H':=AX cb {x with lv:=la.v lo.length}*(G0*(BB cb ws*(AB la.b la.o lo la.s*(HP.AA bl 0 [CZ f us]*(HP.AA bc 0 [ptr cb 0]*(AU A2 l*(HP.AA b3 0 (B4 fm)*R)))))))) Cg ?_;refine Am (IJ rfl rfl (hf0 _ fm _ rfl hmem)) rfl ?_;refine JR ?_;refine JL LQ ?_;refine J2 ?_;refine mc (fun h10=>?_) (fun h10=>?_)
 ·skip
  have h10:lost fm.An=false:=by simpa using h10
  refine J7 ?_
  have hfe:(pre++[fm]).filter (fun m=>lost m.An)=pre.filter (fun m=>lost m.An):=by
   rw [g',f_ (by rw [h10];simp),kg,kn]
  exact mR [4] (Ip cb x ws0 lo0 lost (G0*(HP.AA bl 0 [CZ f us]*(HP.AA bc 0 [ptr cb 0]*AU A2 l))) (pre++[fm])*R) (hE:=⟨fun ww hw=>GK (G:=HP.AA b3 0 (B4 fm)) (⟨ws,la,lo⟩:NQ) ⟨hz1,by rw [hfe];exact hz2,hz3,by rw [hfe];exact hz4⟩ (by show _=HP.AA b3 0 (B4 fm)*(AX cb {x with lv:=la.v lo.length}*(BB cb ws*(AB la.b la.o lo la.s*(G0*(HP.AA bl 0 [CZ f us]*(HP.AA bc 0 [ptr cb 0]*AU A2 l)))))*R);ac_rfl) ww hw⟩) rfl rfl ⟨by rw [h10];rfl,rfl⟩
 have h10:lost fm.An=true:=by simpa using h10
 refine Au (H':=AX cb {x with lv:=la.v lo.length}*(BB cb ws*(AB la.b la.o lo la.s*(G0*(HP.AA bl 0 [CZ f us]*(HP.AA bc 0 [ptr cb 0]*(AU A2 l*(HP.AA b3 0 (B4 fm)*R)))))))) Cg ?_;refine J8 ?_;refine HQ ?_
 refine Bj (α:=Nat×List Bi) (fun z=>[(1,ptr bl 0),(2,ptr bc 0),(3,ptr b3 0),(12,.slice fm.a.p fm.fs.length fm.a.c),(13,iN fm.fs.length),(14,iN z.1)]) (fun z=>AX cb {x with lv:=la.v lo.length}*(BB cb z.2*(AB la.b la.o lo la.s*(G0*(HP.AA bl 0 [CZ f us]*(HP.AA bc 0 [ptr cb 0]*(AU A2 l*(HP.AA b3 0 (B4 fm)*R)))))))) (fun z=>z.1≤fm.fs.length∧(∀w∈z.2,w.ok)∧z.2.map (·.w)=((fm.fs.take z.1).map (·.f)).foldl FZ (ws.map (·.w))) (fun z=>fm.fs.length-z.1) (0,ws) ⟨ll _,hz1,rfl⟩ eI rfl ?_
 rintro⟨i,wz⟩ ⟨q1,q2,q3⟩;dsimp only at q1 q2 q3⊢
 obtain⟨ag1,ag2,_⟩:=VD (AF:=AF) ((fm.fs.take i).map (·.f)) (ws.map (·.w)) wo1 (fun g hg=>by
  obtain⟨rr,hrr,rfl⟩:=ki.1 hg
  exact(hfr fm hmem rr.f fA).same wo2)
 rw [←q3]at ag1 ag2
 have hwl:wz.length=4:=by have:=ag1.len;simpa using this
 refine J6 ?_;refine mC (fun h15=>?_) (fun h15=>?_)
 ·skip
  have hgd:fm.fs.getD i AC.AK=fm.fs[i]:=by rw [a_,b_ h15];rfl
  have hfo:EC (wz.map (·.w)) (fm.fs.getD i AC.AK).f:=by
   rw [hgd];exact((hfr fm hmem _ lC).same wo2).same ag2
  obtain⟨j,hst⟩:∃j:Nat,(fm.fs.getD i AC.AK).f.stream=(j:Int):=⟨_,(Int.toNat_of_nonneg hfo.1).symm⟩
  have hj:j<4:=by have:=hfo.2.1;omega
  have hgw:(wz.map (·.w)).getD j Ab=(wz.getD j AC.AK).w:=by
   simp only [a_,kt,b_ TQ];rfl
  have hwj:=ag1.ok j hj;rw [hgw]at hwj;refine J6 ?_;refine JL (Hf rfl rfl hfm.1 Ca rfl) ?_;refine JL cK ?_;refine Am S0 rfl ?_;rintro _ _ ⟨b6,rfl,rfl⟩;refine Bv (EO rfl rfl Ch (AC.one _)) ?_;refine Fg ?_;refine JL (D6 (l:=AQ (fm.fs.getD i AC.AK)) rfl rfl) ?_;refine BQ (H':=HP.AA cb (0+43+j*10) (Bn (wz.getD j AC.AK))*(Bu (wz.getD j AC.AK)*(CI cb wz j*(AX cb {x with lv:=la.v lo.length}*(HP.AA b6 0 (AQ (fm.fs.getD i AC.AK))*(AB la.b la.o lo la.s*(G0*(HP.AA bl 0 [CZ f us]*(HP.AA bc 0 [ptr cb 0]*(AU A2 l*(HP.AA b3 0 (B4 fm)*R))))))))))) (by rw [JZ cb wz j Ca];show HP.AA b6 0 (AQ _)*_=_;ac_rfl) ?_;refine mE rfl (ci cb j AF (wz.getD j AC.AK) (fm.fs.getD i AC.AK) _ hst hj (q2 _ (JX Ca)) hwj (fun hk=>by have:=hfo.2.2 hk;rw [hst,c_,hgw]at this;exact this)) ?_;rintro _ _ ⟨w2,hw2,hw2e,rfl⟩;refine Ic ?_;refine Bo (AX cb {x with lv:=la.v lo.length}*(BB cb (wz.set j w2)*(AB la.b la.o lo la.s*(G0*(HP.AA bl 0 [CZ f us]*(HP.AA bc 0 [ptr cb 0]*(AU A2 l*(HP.AA b3 0 (B4 fm)*R)))))))) (hE:=?_) ?_
  ·rw [LM cb wz j w2 Ca];exact⟨fun ww hw=>Sat.right (A:=HP.AA b6 0 (AQ (fm.fs.getD i AC.AK))) (k_ Co hw)⟩
  exact Ba (i+1,wz.set j w2) ⟨Ca,fun a ha=>Kt (P:=Bi.ok) q2 hw2 ha,by
   show(wz.set j w2).map (·.w)=((fm.fs.take (i+1)).map (·.f)).foldl FZ (ws.map (·.w))
   rw [lh,hw2e,km h15,kx,kj,←q3]
   show _=FZ (wz.map (·.w)) (fm.fs[i]).f
   rw [←hgd]
   unfold FZ
   rw [hst,c_,hgw]⟩ Zt eI rfl
 refine J6 ?_
 obtain rfl':i=fm.fs.length:=by omega
 rw [rfl',kf]at q3;refine Au (H':=AB la.b la.o lo la.s*(AX cb {x with lv:=la.v lo.length}*(BB cb wz*(G0*(HP.AA bl 0 [CZ f us]*(HP.AA bc 0 [ptr cb 0]*(AU A2 l*(HP.AA b3 0 (B4 fm)*R)))))))) Cg ?_
 have hlol:lo.length≤lo0.length+l.length:=by
  rw [hz4,kh];have h1:=List.length_filter_le (fun m:BH=>lost m.An) pre;have h2:=congrArg List.length hpre;rw [kh,d_]at h2;omega
 refine ET (AX cb {x with lv:=la.v lo.length}*(BB cb wz*(G0*(HP.AA bl 0 [CZ f us]*(HP.AA bc 0 [ptr cb 0]*(AU A2 l*(HP.AA b3 0 (B4 fm)*R))))))) 10 11 Ef rfl Cb ?_;refine KY ?_;refine JT 5 rfl (D6 (l:=B4 fm) rfl rfl) ?_;refine Av 6 Cb rfl rfl (HD (cs:=B4 fm) rfl Cq rfl rfl) ?_;rintro _ _ ⟨b28,rfl,rfl⟩;refine BL ?_;refine E5 (H':=AB la.b la.o lo la.s*(HP.AA b28 0 (AG [fm])*(AX cb {x with lv:=la.v lo.length}*(BB cb wz*(G0*(HP.AA bl 0 [CZ f us]*(HP.AA bc 0 [ptr cb 0]*(AU A2 l*(HP.AA b3 0 (B4 fm)*R))))))))) (by show HP.AA b28 0 _*_=_;rw [show AG [fm]=B4 fm from kn _];ac_rfl) ?_;refine Av 7 Cb rfl rfl (DG (ys:=[fm]) (bb:=b28) (oo:=0) (cc:=1) rfl hz3.1 hz3.2 rfl CS inferInstance rfl Cn Ca) ?_;rintro _ _ ⟨p29,b29,o29,c29,s29,rfl,hs29,hc29,rfl⟩;refine BL ?_;refine Jn 8 ?_;refine P3 ?_;refine Dh ?_;refine J7 ?_
 have hfe:(pre++[fm]).filter (fun m=>lost m.An)=pre.filter (fun m=>lost m.An)++[fm]:=by
  rw [g',g_ (p:=fun m:BH=>lost m.An) (a:=fm) h10,kg]
 exact mR [4] (Ip cb x ws0 lo0 lost (G0*(HP.AA bl 0 [CZ f us]*(HP.AA bc 0 [ptr cb 0]*AU A2 l))) (pre++[fm])*R) (hE:=⟨fun ww hw=>GK (G:=HP.AA b3 0 (B4 fm)*HP.AA b28 0 (AG [fm])) (⟨wz,⟨p29,b29,o29,c29,s29⟩,lo++[fm]⟩:NQ) ⟨q2,by show wz.map (·.w)=_;rw [hfe,kx,kj,←hz2,q3];rfl,⟨hs29,hc29⟩,by show lo++[fm]=_;rw [hfe,hz4,i_]⟩ (by show _=HP.AA b3 0 (B4 fm)*HP.AA b28 0 (AG [fm])*(AX cb {x with lv:=.slice p29 (lo++[fm]).length c29}*(BB cb wz*(AB b29 o29 (lo++[fm]) s29*(G0*(HP.AA bl 0 [CZ f us]*(HP.AA bc 0 [ptr cb 0]*AU A2 l)))))*R);ac_rfl) ww hw⟩) rfl rfl ⟨by rw [h10];rfl,rfl⟩
theorem A9{P:Program}{n:Nat}{o:Oper}{E:A5}{H:HP}{v v':Value}(h:Af P B n o E H v)(e:v=v'):Af P B n o E H v':=e▸h
theorem vZ{cb:Nat}{x:CC}{ws0:List AR}{lo0 pre:List BH}{P:DR→Bool}{K R:HP}{w:World}(h:Sat B (Ip cb x ws0 lo0 P K pre*R) w):Sat B (K*R) w:=by
 unfold Ip at h;rw [HP.HG]at h;obtain⟨z,h⟩:=Sat.ex.1 h;rw [HP.assoc]at h;have h2:=(Sat.pr.1 h).2;refine Sat.right (A:=AX cb {x with lv:=z.la.v z.lo.length}*(BB cb z.ws*z.la.h z.lo)) ?_;refine k_ ?_ h2;congr 1;ac_rfl
theorem Us{P:Program}{n:Nat}{E:A5}{D:B6}{ops:Array Oper}{Q:Exit→Act→World→Prop}{R0:HP}{last fuel:Nat}{ls:Array Bool}{α:Type}{p:α→Prop}{A:α→HP}{R:HP}(h:∀z,p z→WA P B ops Q R0 last fuel ls n E D (A z*R)):WA P B ops Q R0 last fuel ls n E D ((HP.ex fun z=>HP.pr (p z)*A z)*R):=by
 intro a w h1 h2 h3;rw [HP.HG]at h3;obtain⟨z,h4⟩:=Sat.ex.1 h3;rw [HP.assoc]at h4;obtain⟨hp,h5⟩:=Sat.pr.1 h4;exact h z hp a w h1 h2 h5
theorem TV{P:Program}{n:Nat}{E:A5}{D:B6}{ops:Array Oper}{Q:Exit→Act→World→Prop}{R0 H:HP}{last fuel:Nat}{ls:Array Bool}(H':HP)[hE:Bz B H H'](h:WA P B ops Q R0 last fuel ls n E D H'):WA P B ops Q R0 last fuel ls n E D H:=
 fun a w h1 h2 h3=>h a w h1 h2 (hE.get w h3)
theorem QM{α:Type}(f:α→HP)(P:α→Bool):∀l:List α,AU f l=AU f (l.filter (fun x=> !P x))*AU f (l.filter P)
 |[]=>by simp [FM]
 |a::l=>by
  rw [Fw,QM f P l];cases h:P a
  ·rw [g_ P7,f_ (by rw [h];simp),Fw];ac_rfl
  ·rw [f_ (by rw [h];simp),g_ h,Fw];ac_rfl
theorem R7(l:List BH)(P:DR→Bool):(l.filter (fun m=>P m.An)).map (·.An)=(l.map (·.An)).filter P:=by
 induction l with
 |nil=>rfl
 |cons a l ih=>cases h:P a.An<;>simp [h,ih]
theorem iI{t:Nat}{m:Aj}(hi:AY t m.s):∀a∈m.fl,∀g∈a.An.Ag,EC m.s.ws g:=fun a ha=>(hi.An a.An WE).fr
theorem gL{t:Nat}{m:Aj}(hi:AY t m.s):∀a∈m.lo,∀g∈a.An.Ag,EC m.s.ws g:=fun a ha=>(hi.An a.An S7).fr
theorem bI{t:Nat}{m:Aj}(hi:AY t m.s):∀a∈m.fl,a.fs.length<100000000:=fun a ha=>by
 have:=(hi.An a.An WE).len
 have e:a.An.Ag.length=a.fs.length:=ky _;omega
theorem WH{t:Nat}{m:Aj}(hi:AY t m.s)(ht:t<1000000):m.fl.length+m.lo.length<100000000:=by
 have h1:=hi.cnt;have h2:=hi.nx;have e1:m.s.Aa.length=m.fl.length:=ky _;have e2:m.s.lost.length=m.lo.length:=ky _;omega
set_option maxHeartbeats 2000000 in
theorem iD(cb t:Nat)(m:Aj)(lost:DR→Bool)(f:FuncId)(us:List Value)(G0 R:HP)[Ah Tryz.prog f](hm:m.ok)(hi:AY t m.s)(ht:t<1000000)
  (hf0:∀(x':CC) (a:BH) (R':HP),x'.BF=m.x.BF→a∈m.fl→Fn Tryz.prog B f (Mu a::us) (AX cb x'*(G0*R')) (fun v H'=>v=.bool (lost a.An)∧H'=AX cb x'*(G0*R'))):
  Fn Tryz.prog B 133 [ptr cb 0,CZ f us] (Ac cb m*(G0*R)) (fun _ H'=>∃m':Aj,m'.ok∧m'.s=m.s.Eg lost∧H'=Ac cb m'*(G0*R)):=by
 refine mI Tryz.func133 ?_;have hlen:=WH hi ht
 have ex:({m.x with lv:=m.la.v m.lo.length}:CC)=m.x:=by rw [←hm.lv]
 refine Ka ?_;rintro _ _ ⟨b2,rfl,rfl⟩;refine K9 ?_;rintro _ _ ⟨b3,rfl,rfl⟩;refine J2 ?_;refine Au (H':=HP.AA b3 0 [CZ f us]*(HP.AA b2 0 [ptr cb 0]*(AX cb m.x*(AZ m.x.gq m.ga m.AI*(BB cb m.ws*(Be cb m.rs*(AB m.fa.b m.fa.o m.fl m.fa.s*(AB m.la.b m.la.o m.lo m.la.s*(AU A2 m.fl*(AU A2 m.lo*(G0*R))))))))))) Sz ?_;refine ET (HP.AA b3 0 [CZ f us]*HP.AA b2 0 [ptr cb 0]) 9 10 Ef rfl Cb ?_;refine Jd 0 ?_;refine Jd 1 ?_;refine Jr ?_;refine JT 5 rfl GW ?_;refine Ei 4 Cb rfl rfl SM Ti ?_;refine TV (Ip cb m.x m.s.ws m.lo lost (G0*(HP.AA b3 0 [CZ f us]*(HP.AA b2 0 [ptr cb 0]*AU A2 m.fl))) []*(AB m.fa.b m.fa.o m.fl m.fa.s*(AZ m.x.gq m.ga m.AI*(Be cb m.rs*(AU A2 m.lo*R))))) (hE:=⟨fun ww hw=>?_⟩) ?_
 ·refine IS (⟨m.ws,m.la,m.lo⟩:NQ) ⟨hm.ws,rfl,hm.la,Ce⟩ ?_ ww hw;dsimp only;rw [ex];unfold A8.h;ac_rfl
 refine Av 6 Cb rfl rfl (BS rfl (TO m.fl m.fa.p m.fa.b m.fa.o m.fa.c m.fa.s _ [ptr b3 0,ptr b2 0] (fun a=>lost a.An) (Ip cb m.x m.s.ws m.lo lost (G0*(HP.AA b3 0 [CZ f us]*(HP.AA b2 0 [ptr cb 0]*AU A2 m.fl)))) (AZ m.x.gq m.ga m.AI*(Be cb m.rs*(AU A2 m.lo*R))) hm.fa.1 hm.fa.2 Ca (cz cb m.x.AF b3 b2 m.x m.s.ws m.lo m.fl lost f us G0 hi.ws hm.fl (iI hi) Ca (bI hi) hf0))) ?_;rintro _ _ ⟨p10,b10,o10,c10,s10,rfl,hs10,hc10,rfl⟩;refine⟨.inr ⟨fun ww hw=>Bz.get (B:=B) (H:=(G0*(HP.AA b3 0 [CZ f us]*(HP.AA b2 0 [ptr cb 0]*AU A2 m.fl)))*(AB b10 o10 (m.fl.filter (fun x=> !lost x.An)) s10*(AZ m.x.gq m.ga m.AI*(Be cb m.rs*(AU A2 m.lo*R))))) ww (vZ (k_ Co hw))⟩,?_⟩;refine E5 (H':=Ip cb m.x m.s.ws m.lo lost (G0*(HP.AA b3 0 [CZ f us]*(HP.AA b2 0 [ptr cb 0]*AU A2 m.fl))) m.fl*(AB b10 o10 (m.fl.filter (fun x=> !lost x.An)) s10*(AZ m.x.gq m.ga m.AI*(Be cb m.rs*(AU A2 m.lo*R))))) Cg ?_;unfold Ip;refine Us ?_;rintro⟨ws,la,lo⟩ ⟨hz1,hz2,hz3,hz4⟩;dsimp only at hz1 hz2 hz3 hz4⊢;refine Jn 7 ?_;refine Jf 8 ?_;refine Dx 9 Cb rfl (Ez (v:=.slice p10 (m.fl.filter (fun x=> !lost x.An)).length c10) rfl rfl rfl trivial) ?_;refine Dh ?_
 obtain⟨m2,hm2⟩:∃m2:Aj,m2=⟨{m.x with lv:=la.v lo.length,fv:=.slice p10 (m.fl.filter (fun x=> !lost x.An)).length c10},m.AI,m.ga,ws,m.rs,m.fl.filter (fun x=> !lost x.An),lo,⟨p10,b10,o10,c10,s10⟩,la⟩:=Bl
 refine Mq (ts:=[]) (Ac cb m2*(G0*R)) (hE:=?_) rfl rfl ⟨m2,?_,?_,rfl⟩
 ·rw [hm2];refine⟨fun ww hw=>?_⟩;refine Sat.right (A:=HP.AA b2 0 [ptr cb 0]*HP.AA b3 0 [CZ f us]) ?_;refine k_ ?_ hw;congr 1;show _=HP.AA b2 0 [ptr cb 0]*HP.AA b3 0 [CZ f us]*(AX cb {m.x with lv:=la.v lo.length,fv:=.slice p10 (m.fl.filter (fun x=> !lost x.An)).length c10}*(AZ m.x.gq m.ga m.AI*(BB cb ws*(Be cb m.rs*(AB b10 o10 (m.fl.filter (fun x=> !lost x.An)) s10*(AB la.b la.o lo la.s*(AU A2 (m.fl.filter (fun x=> !lost x.An))*AU A2 lo))))))*(G0*R));rw [hz4,KH,QM A2 (fun a:BH=>lost a.An) m.fl];unfold A8.h;ac_rfl
 ·rw [hm2]
  exact⟨hm.g,hz1,hm.rs,fun a ha=>hm.fl a (kw.1 ha).1,fun a ha=>by
   rw [hz4]at ha
   rcases List.mem_append.1 ha with h|h
   ·exact hm.lo a h
   ·exact hm.fl a (kw.1 h).1,⟨hs10,hc10⟩,hz3,rfl,rfl⟩
 ·rw [hm2];unfold AD.Eg Aj.s;dsimp only;have e1:=R7 m.fl lost;have e2:=R7 m.fl (fun p=> !lost p);rw [e1]at hz2;rw [hz2,e2,hz4,kx,e1];rfl
theorem zL(cb:Nat)(x:CC)(a:BH)(R:HP):
  Fn Tryz.prog B 134 [Mu a] (AX cb x*(HP.BN*R)) (fun v H'=>v=.bool ((fun _:DR=>true) a.An)∧H'=AX cb x*(HP.BN*R)):=by
 refine mI Tryz.func134 ?_;refine J2 ?_;refine Am (Dn (l:=B4 a) rfl rfl) rfl ?_;rintro _ _ ⟨b1,rfl,rfl⟩;refine J9 ?_;exact mR [2] (AX cb x*(HP.BN*R)) rfl rfl BY
theorem AY.now{t:Nat}{c:AD}(h:AY t c):AY (t+1) {c with now:=c.now+1}:=
 {h.mono EN with nw:=by have:=h.nw;show c.now+1≤t+1;omega,An:=fun p hp=>let g:=h.An p hp;⟨g.num,Nat.le_succ_of_le g.at_,g.len,g.fr⟩}
theorem sZ{l:List BH}{P:DR→Bool}{i:Nat}(hi:i<l.length)(h:P (l.getD i AC.AK).An=true):(l.map (·.An)).any P=true:=by
 rw [List.any_eq_true];exact⟨_,ki.2 ⟨l.getD i AC.AK,JX hi,rfl⟩,h⟩
theorem ie{l:List BH}{P:DR→Bool}(h:∀j,j<l.length→P (l.getD j AC.AK).An=false):(l.map (·.An)).any P=false:=by
 rw [List.any_eq_false];intro p hp;obtain⟨a,ha,rfl⟩:=ki.1 hp;obtain⟨j,hj,rfl⟩:=ko ha
 have:=h j hj
 rw [a_,b_ hj,j_]at this;rw [this];simp
set_option maxHeartbeats 2000000 in
theorem rD(cb t:Nat)(m:Aj)(R:HP)(hm:m.ok)(hi:AY t m.s)(ht:t<900000):
  Fn Tryz.prog B 91 [ptr cb 0] (Ac cb m*R) (fun _ H'=>∃m':Aj,m'.ok∧m'.s=m.s.tick∧H'=Ac cb m'*R):=by
 refine mI Tryz.func91 ?_;refine Au (H':=AX cb m.x*(AZ m.x.gq m.ga m.AI*(BB cb m.ws*(Be cb m.rs*(AB m.fa.b m.fa.o m.fl m.fa.s*(AB m.la.b m.la.o m.lo m.la.s*(AU A2 m.fl*(AU A2 m.lo*R)))))))) Sz ?_;have hcnt:=WH hi Ca;have hnw:m.x.now≤t:=hi.nw;have hwt:m.x.waits≤8:=hi.wt;have hpw:2^m.x.waits≤2^8:=Nat.pow_le_pow_right Ca hwt
 obtain⟨m1,hm1⟩:∃m1:Aj,m1=m.Aq {m.x with now:=m.x.now+1}:=Bl
 have hok1:m1.ok:=by rw [hm1];exact⟨hm.g,hm.ws,hm.rs,hm.fl,hm.lo,hm.fa,hm.la,hm.fv,hm.lv⟩
 have hs1:m1.s={m.s with now:=m.s.now+1}:=by rw [hm1];rfl
 have hi1:AY (t+1) m1.s:=by rw [hs1];exact hi.now
 have hH1:∀R':HP,Ac cb m1*R'=AX cb {m.x with now:=m.x.now+1}*(AZ m.x.gq m.ga m.AI*(BB cb m.ws*(Be cb m.rs*(AB m.fa.b m.fa.o m.fl m.fa.s*(AB m.la.b m.la.o m.lo m.la.s*(AU A2 m.fl*(AU A2 m.lo*R'))))))):=by
  intro R';rw [hm1,Df];show AX cb _*(AZ m.x.gq m.ga m.AI*(BB cb m.ws*(Be cb m.rs*(DS m*R'))))=_;unfold DS A8.h;ac_rfl
 refine J6 ?_;refine JL UG ?_;refine CL ?_;refine JL SM ?_;refine Kg ?_;refine Bj (α:=Nat) (fun i=>[(0,ptr cb 0),(14,.slice m.fa.p m.fl.length m.fa.c),(15,iN m.fl.length),(16,iN i)]) (fun i=>AX cb {m.x with now:=m.x.now+1}*(AZ m.x.gq m.ga m.AI*(BB cb m.ws*(Be cb m.rs*(AB m.fa.b m.fa.o m.fl m.fa.s*(AB m.la.b m.la.o m.lo m.la.s*(AU A2 m.fl*(AU A2 m.lo*R)))))))) (fun i=>i≤m.fl.length∧∀j,j<i→decide ((m.fl.getD j AC.AK).An.at_+Is m.s.waits≤m.s.now+1)=false) (fun i=>m.fl.length-i) 0 ⟨ll _,(fun j h=>absurd h Ly)⟩ DN rfl ?_;rintro i ⟨hi1',hi2'⟩;refine J6 ?_;refine mC (fun h17=>?_) (fun h17=>?_)
 ·skip
  have hat:(m.fl.getD i AC.AK).at_≤t:=by
   have hmem:m.fl.getD i AC.AK∈m.fl:=JX h17
   have:=(hi.An _ (.inl (ki.2 ⟨_,hmem,rfl⟩))).at_
   exact Nat.le_trans this hi.nw
  refine J6 ?_;refine JL (Hf rfl rfl hm.fa.1 Ca rfl) ?_;refine JL (A9 (v':=Mu (m.fl.getD i AC.AK)) (It (xs:=m.fl) rfl inferInstance Ca) rfl) ?_;refine LE ?_;rintro _ _ ⟨b3,rfl,rfl⟩;refine Bv (EO rfl rfl Ch (AC.one (m.fl.getD i AC.AK))) ?_;refine Gr ?_;refine mA 14 14 ?_;refine Jy ?_;refine Jm 2 ?_;refine Jn 3 ?_;refine Jh ?_;refine JT 6 rfl (RK (i:=4) (j:=m.x.waits) rfl rfl Ca) ?_;refine JT 7 rfl (T7 (j:=32) rfl rfl) ?_;refine JT 8 rfl Kp ?_;refine PJ ?_;refine JT 13 rfl Lz ?_;refine FG ?_;refine mC (fun hexp=>?_) (fun hexp=>?_)
  ·skip
   have hexp:(m.fl.getD i AC.AK).at_+Is m.s.waits≤m.s.now+1:=by
    have e1:4*2^m.x.waits%18446744073709551616=4*2^m.x.waits:=lj Ca;have h0:(m.fl.getD i AC.AK).at_+min (4*2^m.x.waits%18446744073709551616) 32≤m.x.now+1:=hexp;rw [e1]at h0;exact h0
   have hany:m.s.Aa.any (fun p=>decide (p.at_+Is m.s.waits≤m.s.now+1))=true:=sZ h17 (decide_eq_true hexp);refine J3 ?_;refine zA (Ac cb m1*(HP.BN*R)) (hE:=by rw [HP.BR,hH1 R];infer_instance) ?_;refine mE rfl (iD cb (t+1) m1 (fun _=>true) _ [] HP.BN R hok1 hi1 Ca (fun x a R2 _ _=>zL cb x a R2)) ?_;rintro _ _ ⟨m2,hok2,hs2,rfl⟩;refine J3 ?_;refine Au (H':=AX cb m2.x*(AZ m2.x.gq m2.ga m2.AI*(BB cb m2.ws*(Be cb m2.rs*(DS m2*R))))) (by rw [HP.BR,Df]) ?_
   have hw2:m2.x.waits=m.x.waits:=by
    have h1:m2.s.waits=m1.s.waits:=by rw [hs2];rfl
    have h2:m1.s.waits=m.s.waits:=by rw [hs1]
    exact h1.trans h2
   refine J6 ?_;refine JL UG ?_;refine JL (T7 (j:=8) rfl rfl) ?_;refine CL ?_
   have ewr:m.s.tick={m2.s with waits:=min (m2.s.waits+1) 8}:=by
    unfold AD.tick;rw [if_pos hany,hs2,hs1];rfl
   refine mR [] (Ac cb (m2.Aq {m2.x with waits:=min (m2.x.waits+1) 8})*R) (hE:=by rw [Df];exact⟨fun ww hw=>hw⟩) rfl rfl ⟨m2.Aq {m2.x with waits:=min (m2.x.waits+1) 8},⟨hok2.g,hok2.ws,hok2.rs,hok2.fl,hok2.lo,hok2.fa,hok2.la,hok2.fv,hok2.lv⟩,Cr,rfl⟩
  have hexp:¬((m.fl.getD i AC.AK).at_+Is m.s.waits≤m.s.now+1):=by
   have e1:4*2^m.x.waits%18446744073709551616=4*2^m.x.waits:=lj Ca;have h0:¬(m.fl.getD i AC.AK).at_+min (4*2^m.x.waits%18446744073709551616) 32≤m.x.now+1:=hexp;rw [e1]at h0;exact h0
  refine Ic ?_;refine Bo (AX cb {m.x with now:=m.x.now+1}*(AZ m.x.gq m.ga m.AI*(BB cb m.ws*(Be cb m.rs*(AB m.fa.b m.fa.o m.fl m.fa.s*(AB m.la.b m.la.o m.lo m.la.s*(AU A2 m.fl*(AU A2 m.lo*R)))))))) ?_;exact Ba (i+1) ⟨Ca,fun j hj=>by rcases lu j i with h|h;exact hi2' j h;obtain rfl:j=i:=Ca;exact decide_eq_false hexp⟩ Ca DN rfl
 refine J4 ?_;have hno:m.s.Aa.any (fun p=>decide (p.at_+Is m.s.waits≤m.s.now+1))=false:=ie (fun j hj=>hi2' j Ca)
 have ewr:m.s.tick=m1.s:=by
  unfold AD.tick;rw [if_neg (by rw [hno];simp),hs1]
 exact Mq (ts:=[]) (Ac cb m1*R) (hE:=by rw [hH1 R];infer_instance) rfl rfl ⟨m1,hok1,ewr.symm,rfl⟩
end
end Go.Proofs.YtgfdlpcdjklcoaaGreatDoor
