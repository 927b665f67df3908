/- A part of this proof: steps of the program, plain facts; no condition. -/
import Derived.Test.YtgfdlpcdjklcoaaGreatDoorL9
namespace Go.Proofs.YtgfdlpcdjklcoaaGreatDoor
open Go Go.RowKit
open _root_.List renaming length_append→J!,getElem?_eq_getElem→K_,append_nil→L_,getD_eq_getElem?_getD→L!,length_map→L?,length_pos_iff→M_,length_set→M?,length_cons→N!,length_drop→N?,mem_map→O!,map_append→P_,mem_append_right→P!,append_assoc→Q_,mem_append→Q!,mem_cons→Q?
open _root_.Nat renaming zero_le→J?,le_trans→O?,lt_or_ge→P?
open _root_.UInt64 renaming ofNat→K!
open _root_.Option renaming some→K?,getD_some→O_
open _root_.Prod renaming mk→M!
open _root_.Bool renaming false_ne_true→N_,false_or→R_,true_or→R!
set_option linter.unusedVariables false
set_option maxRecDepth 20000
set_option linter.unusedSimpArgs false
section
variable{B:World}
abbrev aP(b5 b2 b3:Nat):Deferred:={target:=.fn (.func 175) [ptr b5 0,ptr b2 0,ptr b3 0].toArray,args:= #[]}
theorem rI(b5 b2 b3:Nat)(H:HP):Mc Tryz.prog B 175 [ptr b5 0,ptr b2 0,ptr b3 0] .returning .returning H (fun H'=>H'=H):=by
 refine VX Tryz.func175 rfl rfl rfl rfl rfl rfl (.inl ⟨rfl,rfl,rfl⟩) fun Q hq=>?_;refine J3 ?_;refine KK ?_;refine mc (fun hc=>?_) (fun hc=>?_)
 ·cases hc
 refine J1 ?_;exact hq _ _ rfl
theorem yK(b5 b2 b3 e5:Nat)(lv ev:Value)(R:HP):Mc Tryz.prog B 175 [ptr b5 0,ptr b2 0,ptr b3 0] (.panicking Gg) (.panicking [{v:=.iface 320 (.agg #[]),recovered:=true}]) (HP.AA b5 0 [iN e5]*(HP.AA b2 0 [lv]*(HP.AA b3 0 [ev]*R)))
  (fun H'=>∃q,H'=Ec q 5 (iN e5)*(HP.AA b5 0 [iN e5]*(HP.AA b2 0 [.slice none 0 0]*(HP.AA b3 0 [Fq q]*R)))):=by
 refine VX Tryz.func175 rfl rfl rfl rfl rfl rfl (.inr ⟨[],rfl,rfl⟩) fun Q hq=>?_;refine J3 ?_;refine JL M9 ?_;refine J2 ?_;refine mc (fun hc=>?_) (fun hc=>?_);rotate_left
 ·cases hc
 refine J4 ?_;refine JL (SF (v:=.tuple #[.agg #[],.bool true]) rfl (fun w=>by kernel_rfl)) ?_;refine J3 ?_;refine Ag (FV (l:=[]) rfl) rfl ?_;rintro _ _ ⟨b4,rfl,rfl⟩;refine Bi (De (cs:=[]) rfl rfl BW Cg) ?_;refine Ik ?_;refine I1 ?_;refine mc (fun hc=>?_) (fun hc=>?_)
 ·cases hc
 refine J3 ?_;refine Dw ?_;refine JL (Ex (cs:=[.int .i64 (5:Nat),iN e5]) rfl rfl rfl Ce) ?_;refine Ag (Db (l:=[.int .i64 (5:Nat),iN e5]) rfl rfl) rfl ?_;rintro _ _ ⟨b19,rfl,rfl⟩;refine JL G8 ?_;refine J3 ?_;exact fun a w h1 h2 h3=>hq _ _ ⟨b19,rfl⟩ a w h1 h2 (by rw [HP.Xs]at h3;simp only [HP.BI]at h3;exact h3)
section
variable{n:Nat}{E:A2}{Post:Value→HP→Prop}
theorem Qe{b5 b2 b3:Nat}{e5:Nat}{lv ev:Value}{R:HP}(h2:lk E 2=some (ptr b2 0))(h3:lk E 3=some (ptr b3 0))(hp:∀q,Post (.tuple #[.slice none 0 0,Fq q]) (Ec q 5 (iN e5)*R)):
  BC B (OC Tryz.prog B Tryz.f144 Post) (.panic Gg) n E ⟨[aP b5 b2 b3],none⟩ (HP.AA b5 0 [iN e5]*(HP.AA b2 0 [lv]*(HP.AA b3 0 [ev]*R))):=
 gL (rs:=[.cell 2 92,.cell 3 106]) (yK b5 b2 b3 e5 lv ev R) rfl rfl (fun H' ⟨q,e⟩=>⟨[.slice none 0 0,Fq q],Ec q 5 (iN e5)*R,e▸IM (Of h2 trivial) (IM (Of h3 trivial) Jc),hp q,e▸inferInstance⟩)
theorem kW{b5 b2 b3:Nat}{lv ev:Value}{H R:HP}(h2:lk E 2=some (ptr b2 0))(h3:lk E 3=some (ptr b3 0))[hr2:Rd B H b2 0 lv True][hr3:Rd B H b3 0 ev True][hE:Bq B H R](hp:Post (.tuple #[lv,ev]) R):
  BC B (OC Tryz.prog B Tryz.f144 Post) .ret n E ⟨[aP b5 b2 b3],none⟩ H:=
 uP (rs:=[.cell 2 92,.cell 3 106]) (rI b5 b2 b3 H) rfl rfl (fun H' e=>⟨[lv,ev],R,e▸IM (Of h2 trivial) (IM (Of h3 trivial) Jc),hp,e▸hE⟩)
end
theorem eR{xs:List UInt8}{k a a':Nat}{fin:Bool}{f:AU}(h:CF xs k fin a=some (f,a')):f.ranges.length≤xs.length∧f.data.size≤xs.length:=by
 unfold CF at h;split at h
 ·simp only [K?.injEq,M!.injEq]at h;obtain⟨rfl,-⟩:=h;exact⟨J? _,J? _⟩
 split at h
 ·simp only [K?.injEq,M!.injEq]at h;obtain⟨rfl,-⟩:=h;exact⟨J? _,J? _⟩
 split at h
 ·split at h
  ·rename_i e;simp only [K?.injEq,M!.injEq]at h;obtain⟨rfl,-⟩:=h;exact⟨(XV e).2.2.2,J? _⟩
  ·cases h
 split at h
 ·split at h
  ·split at h
   ·split at h
    ·simp only [K?.injEq,M!.injEq]at h;obtain⟨rfl,-⟩:=h;exact⟨J? _,J? _⟩
    ·cases h
   ·cases h
  ·cases h
 split at h
 ·split at h
  ·split at h
   ·split at h
    ·rename_i e3;simp only [K?.injEq,M!.injEq]at h;obtain⟨rfl,-⟩:=h;exact⟨J? _,by have:=(SR e3).2.2;simpa using this⟩
    ·cases h
   ·cases h
  ·cases h
 split at h
 ·split at h
  ·simp only [K?.injEq,M!.injEq]at h;obtain⟨rfl,-⟩:=h;exact⟨J? _,J? _⟩
  ·cases h
 ·cases h
theorem xM{xs:List UInt8}{k a a':Nat}{fin:Bool}{f:AU}(h:CF xs k fin a=some (f,a')):f.kind=k:=by
 unfold CF at h;split at h
 ·simp only [K?.injEq,M!.injEq]at h;obtain⟨rfl,-⟩:=h;rename_i hk;rw [hk];rfl
 split at h
 ·simp only [K?.injEq,M!.injEq]at h;obtain⟨rfl,-⟩:=h;rename_i hk;rw [hk];rfl
 split at h
 ·rename_i hk;split at h
  ·simp only [K?.injEq,M!.injEq]at h;obtain⟨rfl,-⟩:=h;rw [hk];rfl
  ·cases h
 split at h
 ·rename_i hk;split at h
  ·split at h
   ·split at h
    ·simp only [K?.injEq,M!.injEq]at h;obtain⟨rfl,-⟩:=h;rw [hk];rfl
    ·cases h
   ·cases h
  ·cases h
 split at h
 ·rename_i hk;split at h
  ·split at h
   ·split at h
    ·simp only [K?.injEq,M!.injEq]at h;obtain⟨rfl,-⟩:=h;rw [hk];rfl
    ·cases h
   ·cases h
  ·cases h
 split at h
 ·rename_i hk;split at h
  ·simp only [K?.injEq,M!.injEq]at h;obtain⟨rfl,-⟩:=h;rw [hk];rfl
  ·cases h
 ·cases h
theorem uA{xs:List UInt8}{a:Nat}(h:Et (xs.getD a 0)=0):GB xs a=none:=by
 unfold GB CF;rw [h];rfl
structure WB where
 a:Nat
 av:Nat
 p:Option Addr
 b:Nat
 o:Nat
 c:Nat
 s:List Value
 rs:List RF
def LX(l:List AU):Except Nat (List AU)→Except Nat (List AU)
 | .ok m=>.ok (l++m)
 | .error e=>.error e
theorem pV(x:Except Nat (List AU)):LX [] x=x:=by cases x<;>rfl
theorem pB(l:List AU)(f:AU)(x:Except Nat (List AU)):LX l (match x with| .ok m=>.ok (f::m)| .error e=>.error e)=LX (l++[f]) x:=by
 cases x with
 |ok m=>simp [LX]
 |error e=>rfl
theorem j9(p:Option Addr)(b o c:Nat)(xs:List UInt8)(R:HP)(hs:Sl p b o xs.length c)(hr:Ad B R b o xs)(hx:xs.length<10000000000):
  Fn Tryz.prog B 144 [.slice p xs.length c] R (fun v H'=>match FL xs with
   | .error e=>∃q,v=.tuple #[.slice none 0 0,Fq q]∧H'=Ec q 5 (iN e)*R
   | .ok fs=>∃sv,v=.tuple #[sv,.nilIface]∧Nf R fs sv H'):=by
 refine xO Tryz.func144 rfl rfl rfl ?_;refine J2 ?_;refine Ag (FV (l:=[.slice none 0 0]) rfl) rfl ?_;rintro _ _ ⟨b2,rfl,rfl⟩;refine Ag (FV (l:=[.nilIface]) rfl) rfl ?_;rintro _ _ ⟨b3,rfl,rfl⟩;refine J5 ?_;refine JL (Ex (cs:=[.slice p xs.length c,iN 0]) rfl rfl rfl Ce) ?_;refine Ag (Db (l:=[.slice p xs.length c,iN 0]) rfl rfl) rfl ?_;rintro _ _ ⟨b13,rfl,rfl⟩;refine J5 ?_;refine Ag (FV (l:=[iN 0]) rfl) rfl ?_;rintro _ _ ⟨b5,rfl,rfl⟩;refine Bi (Eh (v:=iN 0) rfl rfl rfl trivial) ?_;refine FB ?_;refine JL GT ?_;refine q9 rfl ?_;refine J4 ?_;refine Ai (H':=CA b13 p c xs 0*(HP.AA b5 0 [iN 0]*(HP.AA b2 0 [.slice none 0 0]*(HP.AA b3 0 [.nilIface]*(R))))) (by unfold CA;ac_rfl) ?_;refine J3 ?_;refine Iu ?_;refine mC (fun h0=>?_) (fun h0=>?_)
 ·refine J2 ?_;refine Dk Tx rfl ?_ ?_;rotate_left
  ·refine JR ?_;refine FP ?_;refine Bd (HP.AA b5 0 [iN 0]*(HP.AA b2 0 [.slice none 0 0]*(HP.AA b3 0 [.nilIface]*R))) ?_;exact Qe rfl rfl (fun q=>(by rw [FL,if_pos (List.length_eq_zero_iff.1 h0)];exact NL))
  exact Ir
 refine J4 ?_
 refine Bm (α:=WB) (fun z=>[(0,.slice p xs.length c),(2,ptr b2 0),(3,ptr b3 0),(4,ptr b13 0),(5,ptr b5 0)]) (fun z=>CA b13 p c xs z.a*(HP.AA b5 0 [iN z.av]*(HP.AA b2 0 [.slice z.p z.rs.length z.c]*(HP.AA b3 0 [.nilIface]*(AB z.b z.o z.rs z.s*(B8 z.rs*R)))))) (fun z=>z.a≤xs.length∧z.rs.length≤z.a∧Sl z.p z.b z.o z.rs.length z.c∧z.rs.length*7+z.s.length=z.c*7∧(∀r∈z.rs,r.ok∧r.own)∧FL xs=LX (z.rs.map (·.f)) (Fa xs z.a)) (fun z=>xs.length-z.a) ⟨0,0,none,0,0,0,[],[]⟩ ⟨J? _,J? _,Fx,rfl,(fun r h=>by simp at h),by rw [FL,if_neg (fun h=>h0 PZ)];exact(pV _).symm⟩ G4 (by show _=CA b13 p c xs 0*(HP.AA b5 0 [iN 0]*(HP.AA b2 0 [.slice none 0 0]*(HP.AA b3 0 [.nilIface]*(AB 0 0 ([]:List RF) []*(B8 []*R)))));rw [Gk,Qw,HP.BI,HP.BI]) ?_
 rintro z ⟨hza,hzl,hzs,hzc,hzo,hdec⟩;refine J6 ?_;refine Dw ?_;refine J5 ?_;refine mC (fun hlt=>?_) (fun hlt=>?_)
 ·refine J8 ?_;refine Dw ?_;refine J6 ?_;refine Dk (Gc rfl (P8 1 Ca b13 p b o c xs z.a _ hs inferInstance Ca hza)) rfl ?_ ?_;rotate_left
  ·rintro _ _ ⟨h1,rfl,rfl⟩;refine Io ?_;refine FP ?_;exact absurd h1 Ca
  rintro _ _ ⟨h1,rfl,rfl⟩;refine JL (HG (i:=0) (b:=b) (o:=o+z.a*1) (q:=o+z.a*1) rfl rfl (Oq hs Ca) Ca Ca) ?_;refine JL (Tc (i:=z.a) (xs:=xs) rfl inferInstance Ca) ?_;refine J6 ?_;refine mE rfl (sA (xs.getD z.a 0) _) ?_;refine JR ?_;refine Gt ?_;refine mC (fun hk0=>?_) (fun hk0=>?_)
  ·refine J2 ?_;refine Dk Tx rfl ?_ ?_;rotate_left
   ·refine JR ?_;refine Io ?_;refine FP ?_;refine RH ?_;exact Qe rfl rfl (fun q=>(by have hd:=hdec;rw [Rv hlt (uA (Classical.not_not.1 hk0))]at hd;rw [hd];exact NL))
   exact Ir
  have hk1:Et (xs.getD z.a 0)≠0:=Classical.not_not.1 hk0;refine J6 ?_;refine JL (B6 (i:=(xs.getD z.a 0).toNat) (j:=9) rfl rfl) ?_;refine JL (Ex (cs:=AM (r0 (Et (xs.getD z.a 0)) (decide ((xs.getD z.a 0).toNat=9)))) rfl rfl rfl Ce) ?_;refine Ag Vw rfl ?_;rintro _ _ ⟨b9,rfl,rfl⟩;refine Bi (De (cs:=AM (r0 (Et (xs.getD z.a 0)) (decide ((xs.getD z.a 0).toNat=9)))) rfl rfl Ch Ce) ?_;refine Il ?_;refine mE rfl (SS (Et (xs.getD z.a 0)) (sS _ hk1) _) ?_;rintro _ _ ⟨bc,f1,us1,f2,us2,f3,us3,C,hF0,rfl,rfl⟩;refine J8 ?_;refine LF ?_;refine A9 (H':=CA b13 p c xs (z.a+1)*(HP.AA b9 0 (AM (r0 (Et (xs.getD z.a 0)) (decide ((xs.getD z.a 0).toNat=9))))*(C*(CV bc f1 f2 f3 us1 us2 us3*(HP.AA b5 0 [iN z.a]*(HP.AA b2 0 [.slice z.p z.rs.length z.c]*(HP.AA b3 0 [.nilIface]*(AB z.b z.o z.rs z.s*(B8 z.rs*R))))))))) Cf ?_;have hcr:=pZ (B:=B) hF0 b13 b9 (decide ((xs.getD z.a 0).toNat=9)) p b o c xs (z.a+1) (CV bc f1 f2 f3 us1 us2 us3*(HP.AA b5 0 [iN z.a]*(HP.AA b2 0 [.slice z.p z.rs.length z.c]*(HP.AA b3 0 [.nilIface]*(AB z.b z.o z.rs z.s*(B8 z.rs*R)))))) hs inferInstance Ca Ca;have hc2:=hcr.1;refine Dk (o6 rfl rfl hcr.2) rfl ?_ ?_
  rotate_left
  ·rintro _ _ ⟨hrk,rfl,rfl⟩;refine Io ?_;refine FP ?_;have hnine:decide ((xs.getD z.a 0).toNat=9)=decide (xs.getD z.a 0=9):=decide_eq_decide.2 ⟨fun h=>UInt8.toNat_inj.1 h,fun h=>by rw [h];rfl⟩;rw [hnine]at hrk;refine RH ?_;exact Qe rfl rfl (fun q=>(by have hd:=hdec;rw [Rv hlt (by unfold GB;rw [hrk])]at hd;rw [hd];exact NL))
  rintro _ _ ⟨r,a55,hrk,hrok,hrown,rfl⟩;have hkind:=xM hrk;have hrsz:=eR hrk
  have hmod:HI r:=⟨hrok,Ca,Ca⟩
  have hnine:decide ((xs.getD z.a 0).toNat=9)=decide (xs.getD z.a 0=9):=decide_eq_decide.2 ⟨fun h=>UInt8.toNat_inj.1 h,fun h=>by rw [h];rfl⟩;rw [hnine]at hrk;refine J6 ?_;refine A9 (H':=HP.AA b9 0 (AM r)*(C*(CV bc f1 f2 f3 us1 us2 us3*(Fs r*(CA b13 p c xs a55*(HP.AA b5 0 [iN z.a]*(HP.AA b2 0 [.slice z.p z.rs.length z.c]*(HP.AA b3 0 [.nilIface]*(AB z.b z.o z.rs z.s*(B8 z.rs*R)))))))))) Cf ?_;have hF1:E5 r.f.kind f1 us1 f2 us2 f3 us3 C:=hkind▸hF0
  have hro:Ad B (Fs r*(CA b13 p c xs a55*(HP.AA b5 0 [iN z.a]*(HP.AA b2 0 [.slice z.p z.rs.length z.c]*(HP.AA b3 0 [.nilIface]*(AB z.b z.o z.rs z.s*(B8 z.rs*R))))))) r.b r.o r.f.ranges:=(inferInstance:Ad B (AB r.b r.o r.f.ranges r.s*(CA b13 p c xs a55*(HP.AA b5 0 [iN z.a]*(HP.AA b2 0 [.slice z.p z.rs.length z.c]*(HP.AA b3 0 [.nilIface]*(AB z.b z.o z.rs z.s*(B8 z.rs*R))))))) r.b r.o r.f.ranges)
  refine mE rfl (Zk r b9 bc f1 f2 f3 us1 us2 us3 C _ hF1 hF1.S8 rfl hmod hro) ?_;refine Ep ?_;refine mC (fun hok0=>?_) (fun hok0=>?_)
  ·refine J2 ?_;refine Dk Tx rfl ?_ ?_;rotate_left
   ·refine JR ?_;refine Io ?_;refine FP ?_;refine RH ?_;exact Qe rfl rfl (fun q=>(by have hd:=hdec;rw [Rv hlt (by unfold GB;rw [hrk];exact if_neg hok0)]at hd;rw [hd];exact NL))
   exact Ir
  have hokf:B4 r.f:=Classical.not_not.1 hok0
  have hF:GB xs z.a=some (r.f,a55):=by unfold GB;rw [hrk];exact if_pos hokf
  have hf3:=U1 hF hlt;refine J3 ?_;refine LF ?_;refine Ag Zu rfl ?_;rintro _ _ ⟨b63,rfl,rfl⟩;refine A9 (H':=AB z.b z.o z.rs z.s*(HP.AA b63 0 (AD [r])*(HP.AA b9 0 (AM r)*(C*(CV bc f1 f2 f3 us1 us2 us3*(Fs r*(CA b13 p c xs a55*(HP.AA b5 0 [iN z.a]*(HP.AA b2 0 [.slice z.p z.rs.length z.c]*(HP.AA b3 0 [.nilIface]*(B8 z.rs*R))))))))))) (by show HP.AA b63 0 (AD [r])*_=_;ac_rfl) ?_;refine Ag (CX (ys:=[r]) (bb:=b63) (oo:=0) (cc:=1) rfl hzs hzc rfl CG inferInstance rfl Cn Ca) rfl ?_;rintro _ _ ⟨p64,b64,o64,c64,s64,rfl,hs64,hc64,rfl⟩;refine J1 ?_;refine A9 (H':=CA b13 p c xs a55*(HP.AA b5 0 [iN z.a]*(HP.AA b2 0 [.slice p64 (z.rs++[r]).length c64]*(HP.AA b3 0 [.nilIface]*(AB b64 o64 (z.rs++[r]) s64*(B8 (z.rs++[r])*R)))))*(HP.AA b63 0 (AD [r])*(HP.AA b9 0 (AM r)*(C*CV bc f1 f2 f3 us1 us2 us3)))) (by rw [iB,Ov,Qw,HP.GL];ac_rfl) ?_;refine J2 ?_;refine Bd (CA b13 p c xs a55*(HP.AA b5 0 [iN z.a]*(HP.AA b2 0 [.slice p64 (z.rs++[r]).length c64]*(HP.AA b3 0 [.nilIface]*(AB b64 o64 (z.rs++[r]) s64*(B8 (z.rs++[r])*R)))))) ?_
  exact Ba (⟨a55,z.a,p64,b64,o64,c64,s64,z.rs++[r]⟩:WB) ⟨hf3.2.1,by show(z.rs++[r]).length≤a55;rw [J!,List.length_singleton];omega,hs64,hc64,(by
   intro r' hr'
   rcases Q!.1 hr' with h|h
   ·exact hzo r' h
   ·rw [List.mem_singleton.1 h];exact⟨hrok,hrown⟩),by rw [hdec,Z0 hlt hF];show _=LX ((z.rs++[r]).map (·.f)) _;rw [P_];exact pB _ _ _⟩ (by show xs.length-a55<xs.length-z.a;omega) G4 rfl
 refine J7 ?_;refine Dw ?_;refine J5 ?_
 exact kW (R:=AB z.b z.o z.rs z.s*(B8 z.rs*R)) rfl rfl (by
  have hd:=hdec
  rw [Vk hlt]at hd
  rw [hd]
  show ∃sv,_∧Nf R (z.rs.map (·.f)++[]) sv _
  rw [L_]
  exact⟨_,rfl,z.p,z.b,z.o,z.c,z.s,z.rs,by rw [L?],by rw [L?];exact hzs,by rw [L?];exact hzc,rfl,hzo,rfl⟩)
end
section
variable{B:World}
def LR(e:Nat)(at_:Int)(H:HP)(v:Value)(H':HP):Prop:=
 (at_= -1∧v=DZ e∧H'=H)∨(∃q a:Nat,at_=a∧e=5∧v=Fq q∧H'=Ec q 5 (iN a)*H)
theorem AZ.wI{t:Nat}{c:AF}(h:AZ t c){n:Nat}(hn:n<4611686018427387904):AZ t {c with AP:=c.AP.add n n}:=
 have hg:=h.AP.add n n hn (by rw [h.gm];omega)
 {h with AP:=hg.1,gm:=hg.2.trans h.gm}
theorem qF{xs:List UInt8}{a a':Nat}{rs:List AW}(h:Fy xs a=some (rs,a')):rs.length≤xs.length:=by
 unfold Fy at h;split at h
 ·rename_i hi a1 e1;split at h
  ·rename_i n a2 e2;split at h
   ·rename_i size a3 e3;split at h
    ·split at h
     ·rename_i rs' a4 e4;cases h;have h1:=D7 e1;have h3:=D7 e3;have h4:=V4 e4 h3.2.2;simp only [N!];omega
     ·cases h
    ·cases h
   ·cases h
  ·cases h
 ·cases h
theorem oW{xs:List UInt8}{k:Nat}{fin:Bool}{a a':Nat}{f:AU}(h:CF xs k fin a=some (f,a')):f.ranges.length≤xs.length:=by
 unfold CF at h;split at h
 ·cases h;exact J? _
 split at h
 ·cases h;exact J? _
 split at h
 ·split at h
  ·rename_i rs a1 e;cases h;exact qF e
  ·cases h
 split at h
 ·split at h
  ·split at h
   ·split at h
    ·cases h;exact J? _
    ·cases h
   ·cases h
  ·cases h
 split at h
 ·split at h
  ·split at h
   ·split at h
    ·cases h;exact J? _
    ·cases h
   ·cases h
  ·cases h
 split at h
 ·split at h
  ·cases h;exact J? _
  ·cases h
 ·cases h
theorem qS(xs:List UInt8):∀(fuel a:Nat) (fs:List AU),xs.length-a≤fuel→Fa xs a=.ok fs→fs.length≤xs.length-a∧∀f∈fs,f.ranges.length≤xs.length:=by
 intro fuel
 induction fuel with
 |zero=>
  intro a fs hl h;rw [Fa,if_neg Ca]at h;cases h;exact⟨J? _,fun f hf=>nomatch hf⟩
 |succ n ih=>
  intro a fs hl h;rw [Fa]at h;split at h
  ·split at h
   ·rename_i f a' e;split at h
    ·rename_i hcc;split at h
     ·rename_i l e2;cases h;obtain⟨i1,i2⟩:=ih a' l Ca e2;refine⟨by simp only [N!];omega,fun g hg=>?_⟩;rcases Q?.1 hg with rfl|hg
      ·unfold GB at e;split at e
       ·rename_i f2 a2 e3;split at e
        ·cases e;exact oW e3
        ·cases e
       ·cases e
      ·exact i2 g hg
     ·cases h
    ·cases h
   ·cases h
  ·cases h;exact⟨J? _,fun f hf=>nomatch hf⟩
theorem qY{xs:List UInt8}{fs:List AU}(h:FL xs=.ok fs):fs.length≤xs.length∧∀f∈fs,f.ranges.length≤xs.length:=by
 unfold FL at h;split at h
 ·cases h
 ·have:=qS xs _ 0 fs DH h
  exact⟨Ca,this.2⟩
theorem PW{ks:List UInt8}{side:UInt8}{xs ys:List UInt8}{n:UInt64}(h:Bz ks side xs=some (n,ys)):ys.length≤xs.length∧xs.length≤300∧n.toNat<4611686018427387904:=by
 unfold Bz at h;split at h
 ·cases h
 ·rename_i h1;split at h
  ·cases h
  ·rename_i h2;cases h;refine⟨?_,Ca,Ca⟩
   have e:(DI ks side (be xs 8) (FZ xs)).length=(FZ xs).length:=by rw [DI,KI _ _ YJ,MY]
   rw [e];unfold FZ;rw [N?,List.length_take];omega
instance rowC2(cb:Nat)(x:CC):Hh (AQ cb x) cb (0+19) (AD x.ks++[u8 (Af (!x.first))]) (HP.AA cb (0+0) [iN x.AI,iN x.AG]*(HP.AA cb (0+2) (AD x.ks++[u8 (Af x.first)])*(HP.AA cb (0+36) [uN x.now]*
 (HP.AA cb (0+37) [iN x.closed]*(HP.AA cb (0+38) [uN x.code]*(HP.AA cb (0+39) [.bool x.said]*(HP.AA cb (0+40) [uN x.next]*(HP.AA cb (0+41) [ptr x.gq 0]*(HP.AA cb (0+42) [.bool x.answer]*
 (HP.AA cb (0+119) [x.fv]*(HP.AA cb (0+120) [x.lv]*(HP.AA cb (0+121) [uN x.BZ]*HP.AA cb (0+122) [uN x.waits])))))))))))):=⟨by unfold AQ;ac_rfl⟩
instance rowC1(cb:Nat)(x:CC):Hh (AQ cb x) cb (0+2) (AD x.ks++[u8 (Af x.first)]) (HP.AA cb (0+0) [iN x.AI,iN x.AG]*(HP.AA cb (0+19) (AD x.ks++[u8 (Af (!x.first))])*(HP.AA cb (0+36) [uN x.now]*
 (HP.AA cb (0+37) [iN x.closed]*(HP.AA cb (0+38) [uN x.code]*(HP.AA cb (0+39) [.bool x.said]*(HP.AA cb (0+40) [uN x.next]*(HP.AA cb (0+41) [ptr x.gq 0]*(HP.AA cb (0+42) [.bool x.answer]*
 (HP.AA cb (0+119) [x.fv]*(HP.AA cb (0+120) [x.lv]*(HP.AA cb (0+121) [uN x.BZ]*HP.AA cb (0+122) [uN x.waits])))))))))))):=⟨by unfold AQ;ac_rfl⟩
set_option maxHeartbeats 4000000 in
theorem wC(cb t:Nat)(m:Ab)(xs:List UInt8)(p:Option Addr)(b o c:Nat)(R:HP)(hm:m.ok)(hi:AZ t m.s)(ht:t<1000000)(hs:Sl p b o xs.length c)(hr:Ad B R b o xs)(hx:xs.length<90000000)(hop:Bz m.x.ks (Af (!m.x.first)) xs=none):
  Fn Tryz.prog B 94 [ptr cb 0,.slice p xs.length c] (AT cb m*R) (fun v H'=>∃m':Ab,m'.ok∧m'.s=(m.s.A5 xs).2∧LR (m.s.A5 xs).1.1 (m.s.A5 xs).1.2 (AT cb m'*R) v H'):=by
 refine mI Tryz.func94 ?_;refine Ai L9 ?_;have hks:m.x.ks.length=16:=hi.ks;refine QA ?_;refine mC (fun h20=>?_) (fun h20=>?_)
 ·have h20:m.s.closed≠0:=h20;refine J2 ?_;refine JL Nx ?_;refine J5 ?_
  have ewr:m.s.A5 xs=((9,-1),m.s):=by unfold AF.A5;rw [if_pos h20]
  exact LP
 have h20:¬m.s.closed≠0:=h20;refine J7 ?_;refine JL ZR ?_;refine J1 ?_;refine mE rfl (Xi hks p b o c _ hs inferInstance hx hop) ?_;refine JR ?_;refine Gt ?_;refine KG ?_;refine J3 ?_;refine mc (fun hc=>?_) (fun hc=>?_);rotate_left
 ·cases hc
 refine J2 ?_;refine JL (Kz (v:=.int .i64 (4:Nat)) Cb rfl) ?_;refine J6 ?_
 have ewr:m.s.A5 xs=((4,-1),m.s):=by unfold AF.A5;rw [if_neg h20];rw [show Bz m.s.ks (Af (!m.s.first)) xs=none from hop]
 exact LP
set_option maxHeartbeats 4000000 in
theorem xI(cb t:Nat)(m:Ab)(xs:List UInt8)(p:Option Addr)(b o c:Nat)(R:HP)(hm:m.ok)(hi:AZ t m.s)(ht:t<1000000)(hs:Sl p b o xs.length c)(hr:Ad B R b o xs)(hx:xs.length<90000000)(n:UInt64)(ys:List UInt8)(hop:Bz m.x.ks (Af (!m.x.first)) xs=some (n,ys))(a:Nat)(hdec:FL ys=.error a):
  Fn Tryz.prog B 94 [ptr cb 0,.slice p xs.length c] (AT cb m*R) (fun v H'=>∃m':Ab,m'.ok∧m'.s=(m.s.A5 xs).2∧LR (m.s.A5 xs).1.1 (m.s.A5 xs).1.2 (AT cb m'*R) v H'):=by
 refine mI Tryz.func94 ?_;refine Ai L9 ?_;have hks:m.x.ks.length=16:=hi.ks;refine QA ?_;refine mC (fun h20=>?_) (fun h20=>?_)
 ·have h20:m.s.closed≠0:=h20;refine J2 ?_;refine JL Nx ?_;refine J5 ?_
  have ewr:m.s.A5 xs=((9,-1),m.s):=by unfold AF.A5;rw [if_pos h20]
  exact LP
 have h20:¬m.s.closed≠0:=h20;refine dM ?_;rintro _ _ ⟨q28,b28,o28,c28,s28,rfl,hq28,hc28,rfl⟩;obtain⟨hyl,hx300,hn62⟩:=PW hop;refine Gt ?_;refine KG ?_;refine J3 ?_;refine mc (fun hc=>?_) (fun hc=>?_)
 ·cases hc
 refine J7 ?_;refine VC ?_;refine Ep ?_;refine mC (fun h36=>?_) (fun h36=>?_)
 ·have h36:m.s.AP.has n.toNat:=h36;refine J8 ?_
  have ewr:m.s.A5 xs=((0,-1),m.s):=by unfold AF.A5;rw [if_neg h20];rw [show Bz m.s.ks (Af (!m.s.first)) xs=some (n,ys)from hop];dsimp only;rw [if_pos h36]
  exact LP
 have h36:¬m.s.AP.has n.toNat:=h36;refine V7 ?_;intro v45 H45 h45;rw [hdec]at h45;obtain⟨q45,rfl,rfl⟩:=h45;refine Bt ?_;refine JL M9 ?_;refine J2 ?_;refine mc (fun hc=>?_) (fun hc=>?_);rotate_left
 ·cases hc
 refine J6 ?_;refine Bi (Eh (v:=.int .i64 (5:Nat)) rfl rfl rfl Cd) ?_;refine JR ?_;refine J2 ?_;refine Bi (Eh (v:=.int .u64 (5:Nat)) rfl rfl rfl Cd) ?_;refine JR ?_;refine CB ?_
 have ewr:m.s.A5 xs=((5,(a:Int)),{m.s with closed:=5,code:=5}):=by unfold AF.A5;rw [if_neg h20];rw [show Bz m.s.ks (Af (!m.s.first)) xs=some (n,ys)from hop];dsimp only;rw [if_neg h36,hdec]
 exact mR [4] (Ec q45 5 (iN a)*(AT cb (m.Aq {m.x with closed:=5,code:=5})*R)) (hE:=by rw [DJ];exact⟨fun ww hw=>Sat.right (A:=AB b28 o28 ys s28) (Eq.mp (by congr 1;show _=AB b28 o28 ys s28*(Ec q45 5 (iN a)*(AQ cb {m.x with closed:=5,code:=5}*(AS m.x.gq m.ga m.AP*(A4 cb m.ws*(BU cb m.rs*(DN m*R))))));ac_rfl) hw)⟩) rfl rfl ⟨m.Aq {m.x with closed:=5,code:=5},⟨hm.g,hm.ws,hm.rs,hm.fl,hm.lo,hm.fa,hm.la,hm.fv,hm.lv⟩,Cq,by rw [ewr];exact .inr ⟨q45,a,rfl,rfl,rfl,rfl⟩⟩
theorem gI{c c':AF}{g:AU}(b:∀k,GG (c.r k) (c'.r k))(e:c'.AG=c.AG)(h:¬c.busy g):¬c'.busy g:=by
 rintro⟨k1,k2,k3⟩;refine h ⟨k1,?_,?_⟩
 ·cases e2:(c.r g.stream.toNat).given
  ·rfl
  ·have:=(b g.stream.toNat).given e2
   rw [this]at k2;cases k2
 ·rw [(b g.stream.toNat).read,e]at k3;exact k3
set_option maxHeartbeats 4000000 in
theorem sY(cb t:Nat)(m:Ab)(xs:List UInt8)(p:Option Addr)(b o c:Nat)(R:HP)(hm:m.ok)(hi:AZ t m.s)(ht:t<1000000)(hs:Sl p b o xs.length c)(hr:Ad B R b o xs)(hx:xs.length<90000000)(n:UInt64)(ys:List UInt8)(hop:Bz m.x.ks (Af (!m.x.first)) xs=some (n,ys))(fs:List AU)(hdec:FL ys=.ok fs):
  Fn Tryz.prog B 94 [ptr cb 0,.slice p xs.length c] (AT cb m*R) (fun v H'=>∃m':Ab,m'.ok∧m'.s=(m.s.A5 xs).2∧LR (m.s.A5 xs).1.1 (m.s.A5 xs).1.2 (AT cb m'*R) v H'):=by
 refine mI Tryz.func94 ?_;refine Ai L9 ?_;have hks:m.x.ks.length=16:=hi.ks;refine QA ?_;refine mC (fun h20=>?_) (fun h20=>?_)
 ·have h20:m.s.closed≠0:=h20;refine J2 ?_;refine JL Nx ?_;refine J5 ?_
  have ewr:m.s.A5 xs=((9,-1),m.s):=by unfold AF.A5;rw [if_pos h20]
  exact LP
 have h20:¬m.s.closed≠0:=h20;refine dM ?_;rintro _ _ ⟨q28,b28,o28,c28,s28,rfl,hq28,hc28,rfl⟩;obtain⟨hyl,hx300,hn62⟩:=PW hop;refine Gt ?_;refine KG ?_;refine J3 ?_;refine mc (fun hc=>?_) (fun hc=>?_)
 ·cases hc
 refine J7 ?_;refine VC ?_;refine Ep ?_;refine mC (fun h36=>?_) (fun h36=>?_)
 ·have h36:m.s.AP.has n.toNat:=h36;refine J8 ?_
  have ewr:m.s.A5 xs=((0,-1),m.s):=by unfold AF.A5;rw [if_neg h20];rw [show Bz m.s.ks (Af (!m.s.first)) xs=some (n,ys)from hop];dsimp only;rw [if_pos h36]
  exact LP
 have h36:¬m.s.AP.has n.toNat:=h36;refine V7 ?_;intro v45 H45 h45;rw [hdec]at h45;obtain⟨sv,rfl,p45,b45,o45,c45,s45,rs,rfl,hs45,hc45,hmap,hro,rfl⟩:=h45
 have hrl:rs.length=fs.length:=by rw [←hmap,L?]
 obtain⟨hdl1,hdl2⟩:=qY hdec;refine Bt ?_;refine KK ?_;refine mc (fun hc=>?_) (fun hc=>?_)
 ·cases hc
 refine J7 ?_;refine G3 ?_;refine Bm (α:=Nat) (fun i=>[(58,iN fs.length),(59,iN i),(57,.slice p45 fs.length c45),(0,ptr cb 0),(5,u64 n),(8,.slice p45 fs.length c45)]) (fun i=>AB b45 o45 rs s45*(B8 rs*(AB b28 o28 ys s28*(AT cb m*R)))) (fun i=>i≤fs.length∧∀k,k<i→¬m.s.busy (rs.getD k AC.AH).f) (fun i=>fs.length-i) 0 ⟨J? _,(fun k h=>absurd h (Nat.not_lt_zero k))⟩ Fi (by rw [DJ]) ?_;rintro i ⟨hi1,hi2⟩;refine J6 ?_;refine mC (fun h60=>?_) (fun h60=>?_)
 ·have hgd:rs.getD i AC.AH∈rs:=I' Ca
  have hff:(rs.getD i AC.AH).f∈fs:=by rw [←hmap];exact O!.2 ⟨_,hgd,rfl⟩
  have hfin:=JI.of (Sa hdec _ hff)
  obtain⟨j,hst⟩:∃j:Nat,(rs.getD i AC.AH).f.stream=(j:Int):=⟨_,(Int.toNat_of_nonneg hfin.1).symm⟩
  have hj:j<4:=by have:=hfin.2.1;omega
  have hjl:j<m.rs.length:=by rw [Ab.OV hi];exact hj
  have hrok:=Ab.Rk hi hj;have hwn:m.x.AG≤1024:=hi.w2;have hfo:=hfin.2.2.2.1;have hfe:=hfin.2.2.2.2.1;have hrt:=hrok.rt
  have erj:m.s.r (rs.getD i AC.AH).f.stream.toNat=(m.rs.getD j AC.AH).r:=by rw [hst,Int.toNat_natCast];exact m.PY j hjl
  refine Ai (H':=AB b45 o45 rs s45*(B8 rs*(AB b28 o28 ys s28*(AQ cb m.x*(HP.AA cb (0+83+j*9) (DY (m.rs.getD j AC.AH))*(CE (m.rs.getD j AC.AH)*(EP cb m.rs j*(Eb m cb*R)))))))) (by rw [Lc cb m R j hjl]) ?_;generalize hrm:m.rs.getD j AC.AH=rm at*;refine WN ?_;rintro _ _ ⟨b11,rfl,rfl⟩;refine Bi Va ?_;refine Ep ?_;refine mA 7 7 ?_;refine FX ?_;refine PG ?_;refine Ja 6 ?_;refine Da ?_;refine CO (α:=Unit) (fun _=>[(99,.bool (decide (m.s.busy (rs.getD i AC.AH).f))),(58,iN fs.length),(59,iN i),(57,.slice p45 fs.length c45),(0,ptr cb 0),(5,u64 n),(8,.slice p45 fs.length c45)]) (fun _=>HP.AA b11 0 (AM (rs.getD i AC.AH))*(AB b45 o45 rs s45*(B8 rs*(AB b28 o28 ys s28*(AQ cb m.x*(HP.AA cb (0+83+j*9) (DY rm)*(CE rm*(EP cb m.rs j*(Eb m cb*R))))))))) (fun _=>True) ?_ ?_
  ·refine mA 31 31 ?_;refine It ?_;refine JT 2 rfl ON ?_;refine Jm 3 ?_;refine Gb 72 rfl (fun hg1=>?_) (fun hg1=>?_)
   ·have hk5:(rs.getD i AC.AH).f.kind=5:=hg1;have hfe5:=hfe hk5;refine JY 4 rfl T1 Be ?_;refine JY 5 rfl T1 CT ?_;refine JY 6 rfl T1 BO ?_;refine JY 7 rfl T1 BX ?_;refine JY 8 rfl T1 LD ?_;refine JT 9 rfl Fu ?_;refine Jm 10 ?_;refine Lu 79 rfl (fun hg2=>?_) (fun hg2=>?_)
    ·skip
     have hgv:rm.r.given=false:=by simpa using hg2
     refine JY 11 rfl hg2 BO ?_;refine JY 12 rfl hg2 BX ?_;refine JY 13 rfl hg2 BO ?_;refine JY 14 rfl hg2 BX ?_;refine JY 15 rfl hg2 G6 ?_;refine JY 16 rfl hg2 FD ?_;refine JY 17 rfl hg2 Jr ?_;refine JY 18 rfl hg2 Be ?_;refine JY 19 rfl hg2 CT ?_;refine JY 20 rfl hg2 BO ?_;refine JY 21 rfl hg2 BX ?_;refine JY 22 rfl hg2 Be ?_;refine JY 23 rfl hg2 CT ?_;refine JY 24 rfl hg2 BO ?_;refine JY 25 rfl hg2 BO ?_;refine JY 26 rfl hg2 BX ?_;refine JY 27 rfl hg2 FD ?_;refine JY 28 rfl hg2 Jr ?_;refine JY 29 rfl hg2 H9 ?_;refine JT 30 rfl Mo ?_;refine JD ?_;refine A8 () trivial (.cons ?_ Fi) rfl;refine Ew ?_;congr 2
     have hbd:m.s.busy (rs.getD i AC.AH).f↔(rs.getD i AC.AH).f.kind=5∧rm.r.given=false∧rm.r.read+m.x.AG<(rs.getD i AC.AH).f.offset+(rs.getD i AC.AH).f.data.size:=by unfold AF.busy;rw [erj];exact Iff.rfl
     first
      |exact decide_eq_decide.2 ⟨fun h=>hbd.2 ⟨hk5,hgv,h⟩,fun h=>(hbd.1 h).2.2⟩
      |exact(decide_eq_false (fun h=>N_ ((hbd.1 h).2.1.symm.trans hgv))).symm
      |exact(decide_eq_false (fun h=>hk5 (hbd.1 h).1)).symm
    have hgv:rm.r.given=true:=by simpa using hg2
    refine JN 11 rfl hg2 ?_;refine JN 12 rfl hg2 ?_;refine JN 13 rfl hg2 ?_;refine JN 14 rfl hg2 ?_;refine JN 15 rfl hg2 ?_;refine JN 16 rfl hg2 ?_;refine JN 17 rfl hg2 ?_;refine JN 18 rfl hg2 ?_;refine JN 19 rfl hg2 ?_;refine JN 20 rfl hg2 ?_;refine JN 21 rfl hg2 ?_;refine JN 22 rfl hg2 ?_;refine JN 23 rfl hg2 ?_;refine JN 24 rfl hg2 ?_;refine JN 25 rfl hg2 ?_;refine JN 26 rfl hg2 ?_;refine JN 27 rfl hg2 ?_;refine JN 28 rfl hg2 ?_;refine JN 29 rfl hg2 ?_;refine JT 30 rfl NA ?_;refine JD ?_;refine A8 () trivial (.cons ?_ Fi) rfl;refine Ew ?_;congr 2
    have hbd:m.s.busy (rs.getD i AC.AH).f↔(rs.getD i AC.AH).f.kind=5∧rm.r.given=false∧rm.r.read+m.x.AG<(rs.getD i AC.AH).f.offset+(rs.getD i AC.AH).f.data.size:=by unfold AF.busy;rw [erj];exact Iff.rfl
    first
     |exact decide_eq_decide.2 ⟨fun h=>hbd.2 ⟨hk5,hgv,h⟩,fun h=>(hbd.1 h).2.2⟩
     |exact(decide_eq_false (fun h=>N_ ((hbd.1 h).2.1.symm.trans hgv))).symm
     |exact(decide_eq_false (fun h=>hk5 (hbd.1 h).1)).symm
   have hk5:¬(rs.getD i AC.AH).f.kind=5:=hg1;refine JN 4 rfl F1 ?_;refine JN 5 rfl F1 ?_;refine JN 6 rfl F1 ?_;refine JN 7 rfl F1 ?_;refine JN 8 rfl F1 ?_;refine JT 9 rfl Eo ?_;refine cY ?_;refine U7 ?_;refine EW 26 rfl Cb rfl rfl rfl rfl ?_;refine EW 27 rfl Cb rfl rfl rfl rfl ?_;refine EW 28 rfl Cb rfl rfl rfl rfl ?_;refine EW 29 rfl Cb rfl rfl rfl rfl ?_;refine JT 30 rfl Dh ?_;refine JD ?_
   refine A8 () trivial (.cons ?_ Fi) rfl;refine Ew ?_;congr 2
   have hbd:m.s.busy (rs.getD i AC.AH).f↔(rs.getD i AC.AH).f.kind=5∧rm.r.given=false∧rm.r.read+m.x.AG<(rs.getD i AC.AH).f.offset+(rs.getD i AC.AH).f.data.size:=by unfold AF.busy;rw [erj];exact Iff.rfl
   first
    |exact decide_eq_decide.2 ⟨fun h=>hbd.2 ⟨hk5,hgv,h⟩,fun h=>(hbd.1 h).2.2⟩
    |exact(decide_eq_false (fun h=>N_ ((hbd.1 h).2.1.symm.trans hgv))).symm
    |exact(decide_eq_false (fun h=>hk5 (hbd.1 h).1)).symm
  ·rintro _ _;refine J1 ?_;refine mC (fun h99=>?_) (fun h99=>?_)
   ·refine J2 ?_;refine JL (Kz (v:=.int .i64 (6:Nat)) Cb rfl) ?_;refine J9 ?_
    have ewr:m.s.A5 xs=((6,-1),m.s):=by
     unfold AF.A5;rw [if_neg h20];rw [show Bz m.s.ks (Af (!m.s.first)) xs=some (n,ys)from hop];dsimp only;rw [if_neg h36,hdec];dsimp only;rw [if_pos ⟨_,hff,h99⟩]
    exact mR [4] (AT cb m*R) (hE:=⟨fun ww hw=>Sat.right (A:=HP.AA b11 0 (AM (rs.getD i AC.AH))*(AB b45 o45 rs s45*(B8 rs*AB b28 o28 ys s28))) (Eq.mp Vn hw)⟩) rfl rfl ⟨m,hm,Ct,RP⟩
   refine Hp ?_;refine Bd (AB b45 o45 rs s45*(B8 rs*(AB b28 o28 ys s28*(AT cb m*R)))) (hE:=⟨fun ww hw=>Sat.right (A:=HP.AA b11 0 (AM (rs.getD i AC.AH))) (Eq.mp (by congr 1;rw [Lc cb m R j hjl,hrm]<;>ac_rfl) hw)⟩) ?_;exact Ba (i+1) ⟨Ca,fun k hk=>by rcases P? k i with h|h;exact hi2 k h;obtain rfl:k=i:=Ca;exact h99⟩ Ca Fi rfl
 refine J6 ?_
 have hnb:∀f∈fs,¬m.s.busy f:=by
  intro f hf;rw [←hmap]at hf;obtain⟨r,hr',rfl⟩:=O!.1 hf;obtain⟨k,hk,rfl⟩:=List.getElem_of_mem hr'
  have:=hi2 k Ca
  rw [L!,K_ hk,O_]at this;exact this
 refine Ai (H':=AS m.x.gq m.ga m.AP*(AQ cb m.x*(A4 cb m.ws*(BU cb m.rs*(DN m*(AB b45 o45 rs s45*(B8 rs*(AB b28 o28 ys s28*(R))))))))) (by rw [DJ];ac_rfl) ?_;refine J7 ?_;refine mE rfl (KF m.x.gq n.toNat n.toNat 4611686018427387904 m.ga m.AP _ hm.g hi.AP Ca Ca (by have h7:m.AP.AL=8:=hi.gm;omega) (by have h7:m.AP.AL=8:=hi.gm;omega)) ?_;rintro _ _ ⟨a108,hs108,rfl⟩;refine J4 ?_
 obtain⟨m1,hm1⟩:∃m1:Ab,m1={m with AP:=m.AP.add n.toNat n.toNat,ga:=a108}:=Bh
 have hok1:m1.ok:=by rw [hm1];exact⟨hs108,hm.ws,hm.rs,hm.fl,hm.lo,hm.fa,hm.la,hm.fv,hm.lv⟩
 have hs1:m1.s={m.s with AP:=m.s.AP.add n.toNat n.toNat}:=by rw [hm1];rfl
 have hi1':AZ t m1.s:=by rw [hs1];exact hi.wI hn62
 have hnb1:∀f∈fs,¬m1.s.busy f:=by rw [hs1];exact hnb
 have hnbx:¬∃f∈fs,m.s.busy f:=fun⟨f,hf,hb⟩=>hnb f hf hb
 have erc:m.s.A5 xs=(((m1.s.BT fs).1,-1),(m1.s.BT fs).2):=by
  unfold AF.A5;rw [if_neg h20];rw [show Bz m.s.ks (Af (!m.s.first)) xs=some (n,ys)from hop];dsimp only;rw [if_neg h36,hdec];dsimp only;rw [if_neg hnbx,hs1]
 refine Ai (H':=AB b45 o45 rs s45*(B8 rs*(AB b28 o28 ys s28*(AT cb m1*R)))) (by rw [DJ,hm1];show _=AB b45 o45 rs s45*(B8 rs*(AB b28 o28 ys s28*(AQ cb m.x*(AS m.x.gq a108 (m.AP.add n.toNat n.toNat)*(A4 cb m.ws*(BU cb m.rs*(DN m*R)))))));ac_rfl) ?_;refine J3 ?_;refine G3 ?_;refine Bm (α:=Nat×Ab) (fun z=>[(110,iN fs.length),(111,iN z.1),(109,.slice p45 fs.length c45),(0,ptr cb 0),(5,u64 n),(8,.slice p45 fs.length c45)]) (fun z=>AB b45 o45 rs s45*(B8 rs*(AB b28 o28 ys s28*(AT cb z.2*R)))) (fun z=>z.1≤fs.length∧z.2.ok∧AZ t z.2.s∧z.2.s.BT (fs.drop z.1)=m1.s.BT fs∧∀f∈fs.drop z.1,¬z.2.s.busy f) (fun z=>fs.length-z.1) (0,m1) ⟨J? _,hok1,hi1',rfl,hnb1⟩ Fi rfl ?_;rintro⟨i,mi⟩ ⟨q1,q2,q3,q4,q5⟩;dsimp only at q1 q2 q3 q4 q5⊢;refine J6 ?_;refine mC (fun h112=>?_) (fun h112=>?_)
 ·have hgd:rs.getD i AC.AH∈rs:=I' Ca
  have hff:(rs.getD i AC.AH).f∈fs:=by rw [←hmap];exact O!.2 ⟨_,hgd,rfl⟩
  have hfin:=JI.of (Sa hdec _ hff)
  obtain⟨j,hst⟩:∃j:Nat,(rs.getD i AC.AH).f.stream=(j:Int):=⟨_,(Int.toNat_of_nonneg hfin.1).symm⟩
  have hj:j<4:=by have:=hfin.2.1;omega
  have GJ:fs.drop i=(rs.getD i AC.AH).f::fs.drop (i+1):=by
   have h7:i<fs.length:=h112;rw [List.drop_eq_getElem_cons h7];congr 1
   have h8:fs[i]?=(rs.map RF.f)[i]?:=by rw [hmap]
   rw [K_ h7,List.getElem?_map,K_ Ca]at h8;rw [L!,K_ Ca];simpa using h8
  have hbi:=q5 (rs.getD i AC.AH).f (by rw [GJ];simp);have hci:=q3.take (rs.getD i AC.AH).f hfin hbi;have howr:=XD (B:=B) hgd;have hrl2:=hdl2 _ hff;refine WN ?_;rintro _ _ ⟨b14,rfl,rfl⟩;refine Bi Va ?_;refine Ik ?_;refine JL (Ds (l:=AM (rs.getD i AC.AH)) rfl rfl) ?_;refine A9 (H':=AT cb mi*(HP.AA b14 0 (AM (rs.getD i AC.AH))*(AB b45 o45 rs s45*(B8 rs*(AB b28 o28 ys s28*(R)))))) Cf ?_;refine mE rfl (sD cb t mi (rs.getD i AC.AH) _ q2 q3 ht hfin hbi (hro _ hgd).1 inferInstance Ca) ?_;rintro _ _ ⟨m2,hm2,hs2,rfl,rfl⟩;have hte:=RX (c:=mi.s) (rs.getD i AC.AH).f;refine J6 ?_;refine JL Qm ?_;refine J2 ?_;refine mC (fun h119=>?_) (fun h119=>?_)
  ·refine J1 ?_;refine Ai (H':=AQ cb m2.x*(AS m2.x.gq m2.ga m2.AP*(A4 cb m2.ws*(BU cb m2.rs*(DN m2*(HP.AA b14 0 (AM (rs.getD i AC.AH))*(AB b45 o45 rs s45*(B8 rs*(AB b28 o28 ys s28*(R)))))))))) (by rw [DJ]) ?_;refine J5 ?_;refine JL FD ?_;refine DP ?_;refine JL (B6 (j:=10) rfl rfl) ?_;refine J8 ?_;refine JL G8 ?_;refine CB ?_
   have ewr:m.s.A5 xs=(((mi.s.take (rs.getD i AC.AH).f).1,-1),(mi.s.take (rs.getD i AC.AH).f).2.shut (mi.s.take (rs.getD i AC.AH).f).1):=by
    rw [erc,←q4,GJ,AF.BT,if_pos h119]
   exact mR [4] (AT cb (m2.Aq {m2.x with closed:=(mi.s.take (rs.getD i AC.AH).f).1,code:=(mi.s.take (rs.getD i AC.AH).f).1,said:=decide ((mi.s.take (rs.getD i AC.AH).f).1=10)})*R) (hE:=by rw [DJ];exact⟨fun ww hw=>Sat.right (A:=HP.AA b14 0 (AM (rs.getD i AC.AH))*(AB b45 o45 rs s45*(B8 rs*AB b28 o28 ys s28))) (Eq.mp (by congr 1;show _=HP.AA b14 0 (AM (rs.getD i AC.AH))*(AB b45 o45 rs s45*(B8 rs*AB b28 o28 ys s28))*(AQ cb {m2.x with closed:=(mi.s.take (rs.getD i AC.AH).f).1,code:=(mi.s.take (rs.getD i AC.AH).f).1,said:=decide ((mi.s.take (rs.getD i AC.AH).f).1=10)}*(AS m2.x.gq m2.ga m2.AP*(A4 cb m2.ws*(BU cb m2.rs*(DN m2*R)))));ac_rfl) hw)⟩) rfl rfl ⟨m2.Aq {m2.x with closed:=(mi.s.take (rs.getD i AC.AH).f).1,code:=(mi.s.take (rs.getD i AC.AH).f).1,said:=decide ((mi.s.take (rs.getD i AC.AH).f).1=10)},⟨hm2.g,hm2.ws,hm2.rs,hm2.fl,hm2.lo,hm2.fa,hm2.la,hm2.fv,hm2.lv⟩,by rw [ewr,←hs2];rfl,by rw [ewr];exact .inl ⟨rfl,by rw [Qr h119];rfl,rfl⟩⟩
  refine J2 ?_;refine Vj ?_;refine CO (α:=Ab) (fun _=>[(110,iN fs.length),(111,iN i),(109,.slice p45 fs.length c45),(0,ptr cb 0),(5,u64 n),(8,.slice p45 fs.length c45)]) (fun m3=>AT cb m3*(HP.AA b14 0 (AM (rs.getD i AC.AH))*(AB b45 o45 rs s45*(B8 rs*(AB b28 o28 ys s28*(R)))))) (fun m3=>m3.ok∧m3.s={(mi.s.take (rs.getD i AC.AH).f).2 with answer:=(mi.s.take (rs.getD i AC.AH).f).2.answer||(decide ((rs.getD i AC.AH).f.kind≠3)&&decide ((rs.getD i AC.AH).f.kind≠1))}) ?_ ?_
  ·refine Vj ?_;refine J7 ?_;refine DO 141 rfl (fun hg3=>?_) (fun hg3=>?_)
   ·have ha:m2.x.answer=true:=hg3;refine Og ?_;refine Hj ?_;refine GV ?_;refine GV ?_;refine GV ?_;refine Hj ?_;refine JL Oj ?_;refine J4 ?_
    obtain⟨an,han⟩:∃an:Bool,an=(m2.x.answer||(decide ((rs.getD i AC.AH).f.kind≠3)&&decide ((rs.getD i AC.AH).f.kind≠1))):=Bh
    refine Dg (H':=AT cb (m2.Aq {m2.x with answer:=an})*(HP.AA b14 0 (AM (rs.getD i AC.AH))*(AB b45 o45 rs s45*(B8 rs*(AB b28 o28 ys s28*(R)))))) ?_ ?_
    ·rw [DJ];show AQ cb {m2.x with answer:=_}*_=AQ cb {m2.x with answer:=an}*_;rw [han];refine congrArg (fun bb:Bool=>AQ cb {m2.x with answer:=bb}*_) ?_
     first
      |(rw [ha];rfl)
      |(rw [ha,decide_eq_true hk3];rfl)
      |(rw [ha,decide_eq_false hk3];rfl)
    exact Td
   have ha:m2.x.answer=false:=hg3;refine OI ?_;refine JL (UF (j:=3) rfl rfl) ?_;refine Fo ?_;refine J1 ?_;refine EL 145 rfl (fun hg4=>?_) (fun hg4=>?_)
   ·have hk3:(rs.getD i AC.AH).f.kind≠3:=hg4;refine JG T4 ?_;refine J1 ?_;refine JG T4 ?_;refine J1 ?_;refine JG T4 ?_;refine JL (UF (j:=1) rfl rfl) ?_;refine Fo ?_;refine JL Ue ?_;refine JL Kc ?_;refine J4 ?_
    obtain⟨an,han⟩:∃an:Bool,an=(m2.x.answer||(decide ((rs.getD i AC.AH).f.kind≠3)&&decide ((rs.getD i AC.AH).f.kind≠1))):=Bh
    refine Dg (H':=AT cb (m2.Aq {m2.x with answer:=an})*(HP.AA b14 0 (AM (rs.getD i AC.AH))*(AB b45 o45 rs s45*(B8 rs*(AB b28 o28 ys s28*(R)))))) ?_ ?_
    ·rw [DJ];show AQ cb {m2.x with answer:=_}*_=AQ cb {m2.x with answer:=an}*_;rw [han];refine congrArg (fun bb:Bool=>AQ cb {m2.x with answer:=bb}*_) ?_
     first
      |(rw [ha];rfl)
      |(rw [ha,decide_eq_true hk3];rfl)
      |(rw [ha,decide_eq_false hk3];rfl)
    exact Td
   have hk3:¬(rs.getD i AC.AH).f.kind≠3:=hg4;refine JH F4 ?_;refine JH F4 ?_;refine JH F4 ?_;refine Fo ?_;refine JL TJ ?_;refine JL Kc ?_;refine J4 ?_
   obtain⟨an,han⟩:∃an:Bool,an=(m2.x.answer||(decide ((rs.getD i AC.AH).f.kind≠3)&&decide ((rs.getD i AC.AH).f.kind≠1))):=Bh
   refine Dg (H':=AT cb (m2.Aq {m2.x with answer:=an})*(HP.AA b14 0 (AM (rs.getD i AC.AH))*(AB b45 o45 rs s45*(B8 rs*(AB b28 o28 ys s28*(R)))))) ?_ ?_
   ·rw [DJ];show AQ cb {m2.x with answer:=_}*_=AQ cb {m2.x with answer:=an}*_;rw [han];refine congrArg (fun bb:Bool=>AQ cb {m2.x with answer:=bb}*_) ?_
    first
     |(rw [ha];rfl)
     |(rw [ha,decide_eq_true hk3];rfl)
     |(rw [ha,decide_eq_false hk3];rfl)
   exact Td
  ·rintro m3 ⟨hok3,hs3⟩;refine J3 ?_;refine E7 ?_;refine Bd (AB b45 o45 rs s45*(B8 rs*(AB b28 o28 ys s28*(AT cb m3*R)))) (hE:=⟨fun ww hw=>Sat.right (A:=HP.AA b14 0 (AM (rs.getD i AC.AH))) (Eq.mp Cm hw)⟩) ?_
   exact Ba (i+1,m3) ⟨Ca,hok3,by rw [hs3];exact {hci.1 with},by
    rw [←q4,GJ,AF.BT,if_neg Ca,hs3],fun f hf=>by
    rw [hs3]
    exact gI (c:=mi.s) hci.2.1 hci.2.2 (q5 f (by rw [GJ];exact List.mem_cons_of_mem _ hf))⟩ XZ Fi rfl
 refine Bt ?_
 have ewr:m.s.A5 xs=((0,-1),mi.s):=by
  rw [erc,←q4,List.drop_eq_nil_of_le Ca];rfl
 exact mR [4] (AT cb mi*R) (hE:=⟨fun ww hw=>Sat.right (A:=AB b45 o45 rs s45*(B8 rs*AB b28 o28 ys s28)) (Eq.mp Cm hw)⟩) rfl rfl ⟨mi,q2,Ct,RP⟩
theorem qO(cb t:Nat)(m:Ab)(xs:List UInt8)(p:Option Addr)(b o c:Nat)(R:HP)(hm:m.ok)(hi:AZ t m.s)(ht:t<1000000)(hs:Sl p b o xs.length c)(hr:Ad B R b o xs)(hx:xs.length<90000000):
  Fn Tryz.prog B 94 [ptr cb 0,.slice p xs.length c] (AT cb m*R) (fun v H'=>∃m':Ab,m'.ok∧m'.s=(m.s.A5 xs).2∧LR (m.s.A5 xs).1.1 (m.s.A5 xs).1.2 (AT cb m'*R) v H'):=by
 cases hop:Bz m.x.ks (Af (!m.x.first)) xs with
 |none=>exact wC cb t m xs p b o c R hm hi ht hs hr hx hop
 |some ny=>
  obtain⟨n,ys⟩:=ny
  cases hdec:FL ys with
  |error a=>exact xI cb t m xs p b o c R hm hi ht hs hr hx n ys hop a hdec
  |ok fs=>exact sY cb t m xs p b o c R hm hi ht hs hr hx n ys hop fs hdec
end
section
variable{t:Nat}{n:AN}{L:Nat→List (List AU)}{R:Nat→Nat→Prop}
abbrev Bb:Nat→Nat→List UInt8:=fun _ _=>[]
theorem Al.G2(h:Al t n L R Bb){i:Nat}(hi:i<2){c:AF}{n':AN}{t':Nat}(ht:t≤t'){T':Nat→Nat→List UInt8}(hc:AZ t' c)(g:EB (n.x i) c)
  (hxs:n'.xs=n.xs.set i c)(hel:n'.ends.length=2)(hel4:∀j,j<2→(n'.ends.getD j []).length=4)(hn:n'.AI=n.AI∧n'.AG=n.AG∧n'.ks=n.ks∧n'.AJ=n.AJ∧n'.count=n.count)
  (he:∀k,k<4→IZ (c.w k) ((n.x (1-i)).r k) (n'.e i k) (T' i k))(he':∀k,k<4→n'.e (1-i) k=n.e (1-i) k∧T' (1-i) k=[]):Al t' n' L R T':=by
 obtain⟨h1,h2,h3,h4,h5⟩:=hn
 have ho:1-i<2:=by omega
 refine h.Mn hi ht hxs hel hel4 (by rw [h5];exact h.cl) h1 h2 h3 hc ((h.at hi).G2 (h.c i hi) (h.c _ ho) g) ((h.g i hi).G2 g.AP) ?_ he (fun k hk=>?_) (by rw [h4];exact h.AJ) (fun j hj=>by unfold AN.cnt;rw [h5];exact h.cnt j hj) g.ks g.first g.AI g.AG (by rw [h4];exact h.bl)
 ·have:=h.g _ ho
  rw [show 1-(1-i)=i by omega]at this;exact this
 ·have:=h.e (1-i) k ho hk
  rw [show 1-(1-i)=i by omega]at this;rw [(he' k hk).1,(he' k hk).2,show c.r k=(n.x i).r k by unfold AF.r;rw [g.rs]];exact this
theorem Al.Sh(h:Al t n L R Bb){i:Nat}(hi:i<2){c:AF}{t':Nat}(ht:t≤t')(hc:AZ t' c)(g:EB (n.x i) c)
  (hs:∀k,Gh ((n.x i).w k) (c.w k)):Al t' (n.Aq i c) L R Bb:=by
 refine h.G2 hi ht hc g rfl h.el h.EK If (fun k hk=>?_) (fun k hk=>BW);have o:=h.e i k hi hk;have s:=hs k
 have hp:(c.w k).BA=((n.x i).w k).BA:=by unfold AY.BA;rw [s.b,(g.w k).2]
 exact dZ
theorem Qv{c:AF}(h:c.closed=0){k:Nat}(hk:k<4):c.Dt (k:Int)=if(c.w k).finished=true∨(c.w k).given=true then 3 else 0:=by
 unfold AF.Dt;rw [if_neg (by rw [M6 h hk];simp)];rfl
theorem Lw{t:Nat}{c:AF}(h:AZ t c)(k j:Nat)(w:AY)(hk:k<4):(c.Bs k w).w j=if k=j then w else c.w j:=by
 show(c.ws.set k w).getD j As=_;rw [CY,h.ws.len];by_cases e:k=j
 ·rw [if_pos ⟨e,hk⟩,if_pos e]
 ·rw [if_neg (fun x=>e x.1),if_neg e];rfl
theorem UT(n:AN)(i k:Nat)(o:D5)(he:n.ends.length=2)(h4:∀j,j<2→(n.ends.getD j []).length=4)(hi:i<2)(hk:k<4):
  (n.DQ i k o).ends.length=2∧∀j,j<2→((n.DQ i k o).ends.getD j []).length=4:=by
 refine⟨by show(n.ends.set _ _).length=2;rw [M?];exact he,fun j hj=>?_⟩;show((n.ends.set i ((n.ends.getD i []).set k o)).getD j []).length=4;rw [CY];split
 ·rw [M?];exact h4 i hi
 ·exact h4 j hj
theorem WQ{AG:Nat}{w w':AY}(h:C7 AG w)(h':C7 AG w')(hc:w'.AE=w.AE)(hb:w.b.length≤w'.b.length):w.BA≤w'.BA∧w'.BA≤w.b.length:=by
 refine⟨QK h.co.inc h'.co.inc h'.co.hi (fun m hm=>by rw [hc];exact hm),?_⟩;rcases P? w.b.length w'.BA with hlt|hge
 ·have:=h'.dH hlt
  rw [hc]at this;exact absurd (PS this h.co.hi) (Nat.lt_irrefl _)
 ·exact hge
theorem Al.wr(h:Al t n L R Bb){i k:Nat}(hi:i<2)(hk:k<4)(s:ByteArray):(n.wr i k s).1=true∧Al t (n.wr i k s).2 L R Bb:=by
 have h2:=h.at hi;have o:=h.e i k hi hk;have hc:=h.c i hi;have hE:=Qv h2.o hk;unfold AN.wr;dsimp only;by_cases hf:(n.e i k).finished=true∨(n.e i k).given=true
 ·rw [if_pos hf]
  have e:(n.x i).write (k:Int) s.data.toList=((0,3),n.x i):=by
   unfold AF.write;rw [o.finished,o.given]at hf;rw [hE,if_pos hf];rfl
  rw [e];exact OL
 ·rw [if_neg hf]
  have e0:(n.x i).Dt (k:Int)=0:=by
   rw [o.finished,o.given]at hf;rw [hE,if_neg hf]
  have g:=EB.write hc (k:Int) s.data.toList;have hc':=hc.write (k:Int) s.data.toList
  have e:(n.x i).write (k:Int) s.data.toList=(((n.x i).Gj k s.size,0),(n.x i).Bs k {(n.x i).w k with b:=((n.x i).w k).b++s.data.toList.take ((n.x i).Gj k s.size)}):=by
   unfold AF.write;rw [if_neg (by rw [e0];simp)];rfl
  rw [e]at g hc'⊢;generalize hN:(n.x i).Gj k s.size=N at g hc'⊢;dsimp only at g hc'⊢
  have hNle:N≤s.size∧N≤(n.x i).AG-(((n.x i).w k).b.length-((n.x i).w k).BA):=by
   unfold AF.Gj at hN;omega
  have hwk:=Lw hc k k {(n.x i).w k with b:=((n.x i).w k).b++s.data.toList.take N} hk;rw [if_pos rfl]at hwk;have w0:C7 _ ((n.x i).w k):=hc.ws.ok k hk;have w1:=hc'.ws.ok k hk
  have w1':C7 (n.x i).AG {(n.x i).w k with b:=((n.x i).w k).b++s.data.toList.take N}:=by rw [←hwk];exact w1
  obtain⟨p1,p2⟩:=WQ w0 w1' rfl Pg
  have hwl:(n.e i k).wrote.length=((n.x i).w k).b.length:=by have:=congrArg List.length o.wrote;rw [L_]at this;exact this.symm
  have h1:Al t (n.Aq i ((n.x i).Bs k {(n.x i).w k with b:=((n.x i).w k).b++s.data.toList.take N})) L R (fun j m=>if j=i∧m=k then s.data.toList.take N else []):=by
   refine h.G2 hi Mt hc' g rfl h.el h.EK If (fun m hm=>?_) (fun m hm=>⟨rfl,by rw [if_neg Ca]⟩);show IZ _ _ (n.e i m) _;rw [Lw hc k m _ hk];by_cases e2:k=m
   ·subst e2;rw [if_pos rfl,if_pos BW];exact⟨X6,by rw [hwl];exact p2,o.finished,o.given,o.code,o.read,o.state,O? o.AE p1⟩
   ·rw [if_neg e2,if_neg (fun x=>e2 x.2.symm)];exact h.e i m hi hm
  obtain⟨a,b,f,q,w,w2⟩:=Al.CR hi 4 0 _ h1 DH
  have hx1:(n.Aq i ((n.x i).Bs k {(n.x i).w k with b:=((n.x i).w k).b++s.data.toList.take N})).x i=(n.x i).Bs k {(n.x i).w k with b:=((n.x i).w k).b++s.data.toList.take N}:=by
   rw [KL n i i _ h.xl hi,if_pos rfl]
  have q1:=q i k;rw [if_pos ⟨rfl,J? _,Ca⟩,hx1,hwk]at q1
  obtain⟨q0,q1,hq0⟩:∃q0,(Go.Proofs.YtgfdlpcdjklcoaaGreatDoor.CR i 0 4 (n.Aq i ((n.x i).Bs k {(n.x i).w k with b:=((n.x i).w k).b++s.data.toList.take N}))).2.e i k={n.e i k with AE:=q0}∧((n.x i).w k).BA≤q0:=⟨_,q1,p1⟩
  have hroom:=w0.room;have hwin:=h.AG i hi;rw [q1];dsimp only
  rw [if_neg (by
   rintro(x|x|x|x)
   ·rw [a]at x;cases x
   ·exact x rfl
   ·omega
   ·omega)]
  refine⟨rfl,b.DQ hi hk (T':=Bb) (fun j m hjm=>?_) ?_⟩
  ·rw [if_neg (fun x=>hjm ⟨x.1.symm,x.2.symm⟩)]
  ·have ob:=b.e i k hi hk;rw [q1,if_pos BW]at ob;exact⟨by rw [L_];exact ob.wrote,by have:=ob.pre;show _≤((n.e i k).wrote++_).length;rw [J!];exact O? this SV,ob.finished,ob.given,ob.code,ob.read,ob.state,ob.AE⟩
theorem Al.fin(h:Al t n L R Bb){i k:Nat}(hi:i<2)(hk:k<4):(n.fin i k).1=true∧Al t (n.fin i k).2 L R Bb:=by
 have h2:=h.at hi;have o:=h.e i k hi hk;have hc:=h.c i hi;have hE:=Qv h2.o hk;unfold AN.fin;dsimp only;by_cases hf:(n.e i k).finished=true∨(n.e i k).given=true
 ·rw [if_pos hf]
  have e:(n.x i).finish (k:Int)=(3,n.x i):=by
   unfold AF.finish;rw [o.finished,o.given]at hf;rw [hE,if_pos hf];rfl
  rw [e];exact OL
 ·rw [if_neg hf];have g:=EB.finish hc (k:Int);have hc':=hc.finish (k:Int)
  have e:(n.x i).finish (k:Int)=(0,(n.x i).Bs k {(n.x i).w k with finished:=true}):=by
   unfold AF.finish;rw [o.finished,o.given]at hf;rw [hE,if_neg hf];rfl
  rw [e]at g hc'⊢;obtain⟨l1,l2⟩:=UT (n.Aq i ((n.x i).Bs k {(n.x i).w k with finished:=true})) i k {n.e i k with finished:=true} h.el h.EK hi hk
  have he:∀j m,((n.Aq i ((n.x i).Bs k {(n.x i).w k with finished:=true})).DQ i k {n.e i k with finished:=true}).e j m=if i=j∧k=m then {n.e i k with finished:=true}else n.e j m:=
   fun j m=>Nu _ i k j m _ h.el (h.EK i hi) hi hk
  refine⟨rfl,h.G2 hi Mt hc' g rfl l1 l2 If (fun m hm=>?_) (fun m hm=>⟨by rw [he,if_neg Ca],rfl⟩)⟩;rw [he,Lw hc k m _ hk];by_cases e2:k=m
  ·subst e2;rw [if_pos rfl,if_pos BW];exact⟨o.wrote,o.pre,rfl,o.given,o.code,o.read,o.state,o.AE⟩
  ·rw [if_neg e2,if_neg (fun x=>e2 x.2)];exact h.e i m hi hm
theorem Al.CL(h:Al t n L R Bb){i k:Nat}(hi:i<2)(hk:k<4){x:Nat}(hx:x<1000):(n.CL i k x).1=true∧Al t (n.CL i k x).2 L R Bb:=by
 have h2:=h.at hi;have o:=h.e i k hi hk;have hc:=h.c i hi;unfold AN.CL;dsimp only
 have e0:¬((n.x i).stream (k:Int)≠0):=by rw [M6 h2.o hk];simp
 by_cases hf:(n.e i k).given=true
 ·rw [if_pos hf]
  have e:(n.x i).giveUp (k:Int) x=(3,n.x i):=by
   unfold AF.giveUp;rw [o.given]at hf;rw [if_neg e0,if_pos (.inl hf)]
  rw [e];exact OL
 ·rw [if_neg hf];have g:=EB.giveUp hc (k:Int) x;have hc':=hc.giveUp (k:Int) x
  have e:(n.x i).giveUp (k:Int) x=(0,(n.x i).Bs k {(n.x i).w k with given:=true,code:=x}):=by
   unfold AF.giveUp;rw [o.given]at hf;rw [if_neg e0,if_neg (by rintro(y|y);exact hf y;omega)];rfl
  rw [e]at g hc'⊢;obtain⟨l1,l2⟩:=UT (n.Aq i ((n.x i).Bs k {(n.x i).w k with given:=true,code:=x})) i k {n.e i k with given:=true,code:=x} h.el h.EK hi hk
  have he:∀j m,((n.Aq i ((n.x i).Bs k {(n.x i).w k with given:=true,code:=x})).DQ i k {n.e i k with given:=true,code:=x}).e j m=if i=j∧k=m then {n.e i k with given:=true,code:=x}else n.e j m:=
   fun j m=>Nu _ i k j m _ h.el (h.EK i hi) hi hk
  refine⟨rfl,h.G2 hi Mt hc' g rfl l1 l2 If (fun m hm=>?_) (fun m hm=>⟨by rw [he,if_neg Ca],rfl⟩)⟩;rw [he,Lw hc k m _ hk];by_cases e2:k=m
  ·subst e2;rw [if_pos rfl,if_pos BW];exact⟨o.wrote,o.pre,o.finished,rfl,fun _=>rfl,o.read,o.state,o.AE⟩
  ·rw [if_neg e2,if_neg (fun x=>e2 x.2)];exact h.e i m hi hm
theorem YP{c:AF}(h:AZ t c)(k:Nat):Gh (c.w k) (c.tick.w k):=by
 have h1:AZ (t+1) {c with now:=c.now+1}:=
  {h.mono ET with nw:=by have:=h.nw;show c.now+1≤t+1;omega,Ao:=fun p hp=>let g:=h.Ao p hp;⟨g.num,Nat.le_succ_of_le g.at_,g.len,g.fr⟩}
 unfold AF.tick;split
 ·exact(Mh (({c with now:=c.now+1}:AF).BK.filter (fun _=>true)) c.ws h1.ws (fun p hp f hf=>(h1.Ao p Ou).fr f hf)).2.1.same k
 ·exact .refl _
theorem Al.tick(h:Al t n L R Bb):Al (t+1) n.tick L R Bb:=by
 have h0:=h.c 0 Ca;have a:=h.Sh (i:=0) Ca ET h0.tick (.tick h0) (YP h0)
 have e:(n.Aq 0 (n.x 0).tick).x 1=n.x 1:=by rw [KL n 0 1 _ h.xl Ca,if_neg Ca]
 have h1:=h.c 1 Ca
 have:=a.Sh (i:=1) (c:=(n.x 1).tick) Ca DH h1.tick (by rw [e];exact .tick h1) (by rw [e];exact YP h1)
 exact this
theorem N7(ks:List UInt8)(side:UInt8)(m:UInt64)(xs:List UInt8):(Bc ks side m xs).length=16+xs.length:=by
 rw [Bc,J!,J!,TN,show(Gn ks side m (DI ks side m xs)).length=8 from rfl,show(D9 m).length=8 from rfl];omega
theorem oP{i:Nat}{AI:Nat}(hm:AI≤300)(n:AN)(fs:List AU)(Ls:List (List AU))(m:Nat)(hc:n.cnt i=m)(hmt:n.AI=AI)(hb:m≤4611686018427387903)(hf:fs≠ []∧(Ap fs).length+16≤AI):
  Bz n.ks (Af (decide (i=0))) (Bc n.ks (Af (decide (i=0))) (K! m) (Ap fs))=some (K! m,Ap fs)∧Ap fs≠ []∧
  GY i (outs n.ks (Af (decide (i=0))) m (fs::Ls)) n=GY i (outs n.ks (Af (decide (i=0))) (m+1) Ls) {n with count:=n.count.set i (m+1),AJ:=n.AJ++[(1-i,AX (Bc n.ks (Af (decide (i=0))) (K! m) (Ap fs)))]}:=by
 obtain⟨a,b⟩:=hf;have ho:=Pa n.ks (Af (decide (i=0))) (K! m) (Ap fs) (by rw [I6 hb];exact hb) Ca
 have hne:Ap fs≠ []:=fun e=>by
  have h1:=O5 fs;rw [e]at h1;have h2:=M_.2 a;have h1:fs.length≤0:=h1;omega
 refine⟨ho,hne,?_⟩;refine Yy ?_;rw [GY,ho];dsimp only
 rw [I6 hb,hc,if_neg (by
  rintro(x|x|x)
  ·rw [N7]at x;omega
  ·exact x rfl
  ·exact hne x)]
theorem S7{i:Nat}{ks:List UInt8}{AI:Nat}(hm:AI≤300):∀(Ls:List (List AU)) (n:AN) (m:Nat),n.cnt i=m→n.ks=ks→n.AI=AI→i<n.count.length→m+Ls.length≤4611686018427387903→(∀fs∈Ls,fs≠ []∧(Ap fs).length+16≤AI)→
  GY i (outs ks (Af (decide (i=0))) m Ls) n=(true,{n with count:=n.count.set i (m+Ls.length),AJ:=n.AJ++(outs ks (Af (decide (i=0))) m Ls).map (fun p=>(1-i,AX p))})
 |[],n,m,hc,_,_,hi,_,_=>by
  show(true,n)=(true,_)
  have:n.count.set i (m+0)=n.count:=by
   rw [←hc];unfold AN.cnt;rw [Nat.add_zero,L!,K_ hi,O_,List.set_getElem_self]
  show _=(true,({n with count:=n.count.set i (m+0),AJ:=n.AJ++[]}:AN));rw [this,L_]
 |fs::Ls,n,m,hc,hk,hmt,hi,hb,hf=>by
  subst hk;obtain⟨a,b⟩:=hf fs Cg;have hb':m+(Ls.length+1)≤4611686018427387903:=hb
  have hmm:m≤4611686018427387903:=by omega
  refine Yy ?_;rw [GY,Pa _ _ _ _ (by rw [I6 hmm];exact hmm) Ca];dsimp only
  have hne:Ap fs≠ []:=fun e=>by
   have h1:=O5 fs;rw [e]at h1;have h2:=M_.2 a;have h1:fs.length≤0:=h1;omega
  rw [I6 hmm,hc,if_neg (by
   rintro(x|x|x)
   ·rw [N7]at x;omega
   ·exact x rfl
   ·exact hne x)]
  refine(S7 (i:=i) hm Ls {n with count:=n.count.set i (m+1),AJ:=n.AJ++[(1-i,AX (Bc n.ks (Af (decide (i=0))) (K! m) (Ap fs)))]} (m+1) (by show(n.count.set i (m+1)).getD i 0=_;rw [CY,if_pos ⟨rfl,hi⟩]) rfl hmt (by show i<(n.count.set i _).length;rw [M?];exact hi) Ca (fun gs hgs=>hf gs (by simp [hgs]))).trans ?_;show(true,({n with count:=(n.count.set i (m+1)).set i (m+1+Ls.length),AJ:=(n.AJ++[_])++_}:AN))=(true,{n with count:=n.count.set i (m+(Ls.length+1)),AJ:=n.AJ++(_::_)});rw [List.set_set,Q_,show m+1+Ls.length=m+(Ls.length+1) by omega];rfl
theorem Ss(ks:List UInt8)(side:UInt8):∀(Ls:List (List AU)) (m:Nat),(outs ks side m Ls).length=Ls.length
 |[],m=>rfl
 |fs::Ls,m=>by show(outs ks side (m+1) Ls).length+1=_;rw [Ss ks side Ls (m+1)];rfl
theorem Xz{ks:List UInt8}{side:UInt8}:∀(Ls:List (List AU)) (m:Nat) (p:List UInt8),p∈outs ks side m Ls→∃j fs,Ls[j]?=some fs∧p=Bc ks side (K! (m+j)) (Ap fs)
 |[],m,p,h=>nomatch h
 |fs::Ls,m,p,h=>by
  have h:p∈Bc ks side (K! m) (Ap fs)::outs ks side (m+1) Ls:=h;rcases Q?.1 h with h|h
  ·exact⟨0,fs,rfl,h⟩
  ·obtain⟨j,gs,a,b⟩:=Xz Ls (m+1) p h;exact⟨j+1,gs,a,by rw [b,show m+1+j=m+(j+1) by omega]⟩
theorem Al.Uo(h:Al t n L R Bb){i:Nat}(hi:i<2):∃Ls,(n.x i).A3.1=outs n.ks (Af (decide (i=0))) (L i).length Ls∧n.AI≤300∧(L i).length+Ls.length≤20*(t+1)∧∀fs∈Ls,fs≠ []∧(Ap fs).length+16≤n.AI:=by
 have h2:=h.at hi
 have ho:1-i<2:=by omega
 have hc:=h.c i hi;obtain⟨Ls,a,b,e⟩:=h2.A3 hc (h.c _ ho) (h.g i hi);have hnx:=hc.A3.nx;have hlen:=a.s.len;rw [J!]at hlen;have hm2:=hc.m2;rw [h.AI i hi]at hm2;rw [h.ks i hi,h.first i hi]at e
 exact⟨Ls,e,hm2,Ca,fun fs hfs=>by
  have:=a.s.ne fs (P! _ hfs)
  rw [b.AI,h.AI i hi]at this;exact this⟩
theorem Al.flush(h:Al t n L R Bb){i:Nat}(hi:i<2)(ht:t≤1000000000):(n.flush i).1=true∧∃L',Al (t+1) (n.flush i).2 L' R Bb:=by
 have h2:=h.at hi
 have ho:1-i<2:=by omega
 have hc:=h.c i hi;obtain⟨Ls,a,b,e⟩:=h2.A3 hc (h.c _ ho) (h.g i hi);have hc':=hc.A3;have hnx:=hc'.nx;have hlen:=a.s.len;rw [J!]at hlen;have hm2:=hc.m2;rw [h.AI i hi]at hm2;unfold AN.flush;rw [e,h.ks i hi,h.first i hi]
 rw [S7 (ks:=n.ks) hm2 Ls (n.Aq i (n.x i).A3.2) (L i).length (h.cnt i hi) rfl rfl WM Ca (fun fs hfs=>by
  have:=a.s.ne fs (P! _ hfs)
  rw [b.AI,h.AI i hi]at this;exact this)]
 refine⟨rfl,fun j=>if j=i then L i++Ls else L j,?_⟩;have e1:(if i=i then L i++Ls else L i)=L i++Ls:=if_pos rfl;have e2:(if 1-i=i then L i++Ls else L (1-i))=L (1-i):=if_neg Ca;have hg:=h.g i hi;have hg':=h.g _ ho;rw [show 1-(1-i)=i by omega]at hg'
 refine h.Mn hi ET (T':=Bb) (R':=R) (L':=fun j=>if j=i then L i++Ls else L j) rfl h.el h.EK ?_ rfl rfl rfl hc' ?_ ?_ ?_ (fun k hk=>?_) (fun k hk=>?_) (fun f hf=>?_) (fun j hj=>?_) b.ks b.first b.AI b.AG ?_
 ·show(n.count.set i _).length=2;rw [M?];exact h.cl
 ·rw [e1,e2];exact a
 ·rw [e2];exact hg.G2 b.AP
 ·rw [e1,J!];exact⟨hg'.AP,O? hg'.fl SV⟩
 ·have o:=h.e i k hi hk;have s:=b.w k
  have hp:((n.x i).A3.2.w k).BA=((n.x i).w k).BA:=by unfold AY.BA;rw [s.b,s.AE]
  exact dZ
 ·have:=h.e (1-i) k ho hk
  rw [show 1-(1-i)=i by omega]at this;rw [show(n.x i).A3.2.r k=(n.x i).r k by unfold AF.r;rw [b.rs]];exact this
 ·have hf:f∈n.AJ++_:=hf;rcases Q!.1 hf with hf|hf
  ·obtain⟨j,m,fs,a1,a2,a3,a4⟩:=h.AJ f hf;refine⟨j,m,fs,a1,a2,?_,a4⟩;split
   ·rename_i ej;subst ej
    have hlt:m<(L j).length:=by
     rcases P? m (L j).length with x|x
     ·exact x
     ·rw [List.getElem?_eq_none x]at a3;cases a3
    rw [List.getElem?_append_left hlt];exact a3
   ·exact a3
  ·obtain⟨p,hp,hpe⟩:=O!.1 hf;obtain⟨j,fs,b1,b2⟩:=Xz Ls _ p hp;refine⟨i,(L i).length+j,fs,hi,by rw [←hpe],?_,by rw [←hpe,b2]⟩;rw [if_pos rfl,List.getElem?_append_right SV,Nat.add_sub_cancel_left];exact b1
 ·show(n.count.set i _).getD j 0=_;rw [CY,h.cl];by_cases ej:i=j
  ·subst ej;rw [if_pos ⟨rfl,hi⟩,if_pos rfl,J!]
  ·rw [if_neg (fun x=>ej x.1),if_neg (fun x=>ej x.symm)];exact h.cnt j hj
 ·show(n.AJ++_).length=(if 0=i then L i++Ls else L 0).length+(if 1=i then L i++Ls else L 1).length;rw [J!,L?,Ss,h.bl];rcases IE hi with rfl|rfl
  ·rw [if_pos rfl,if_neg Ca,J!];omega
  ·rw [if_neg Ca,if_pos rfl,J!];omega
theorem oL(c:AF)(f:AU):(c.take f).2.AI=c.AI∧(c.take f).2.ks=c.ks∧(c.take f).2.first=c.first:=by
 unfold AF.take;split
 ·unfold AF.B0;split<;>exact IP
 split
 ·split<;>exact IP
 split
 ·exact IP
 split<;>exact IP
theorem V8:∀(fs:List AU) (c:AF),(c.BT fs).2.AI=c.AI∧(c.BT fs).2.ks=c.ks∧(c.BT fs).2.first=c.first
 |[],c=>IP
 |f::fs,c=>by
  obtain⟨a,b,e⟩:=oL c f;rw [AF.BT];split
  ·exact⟨a,b,e⟩
  ·obtain⟨a',b',e'⟩:=V8 fs ({(c.take f).2 with answer:=(c.take f).2.answer||(decide (f.kind≠3)&&decide (f.kind≠1))}:AF);exact⟨a'.trans a,b'.trans b,e'.trans e⟩
theorem zS(c:AF)(p:List UInt8):(c.A5 p).2.AI=c.AI∧(c.A5 p).2.ks=c.ks∧(c.A5 p).2.first=c.first:=by
 unfold AF.A5;split
 ·exact IP
 split
 ·exact IP
 split
 ·exact IP
 split
 ·exact IP
 split
 ·exact IP
 ·exact V8 _ _
theorem Al.recv(h:Al t n L R Bb){f:Nat×ByteArray}(hf:f∈n.AJ)(ht:t≤1000000000):f.1<2∧f.2.size≤300∧(((n.x f.1).A5 f.2.data.toList).1.1=0∨((n.x f.1).A5 f.2.data.toList).1.1=6)∧∃R',Al t (n.Aq f.1 ((n.x f.1).A5 f.2.data.toList).2) L R' Bb:=by
 obtain⟨j,m,fs,a1,a2,a3,a4⟩:=h.AJ f hf;generalize hi':f.1=i at*
 have hi:i<2:=by omega
 have hj:j=1-i:=by omega
 subst hj
 have ho:1-i<2:=by omega
 have h2:=h.at hi;have hc:=h.c i hi
 have hp:f.2.data.toList=Bc (n.x (1-i)).ks (Af (n.x (1-i)).first) (K! m) (Ap fs):=by
  rw [a4,h.ks _ ho,h.first _ ho];exact List.toList_toArray
 obtain⟨R2,b1,b2,b3,b4⟩:=h2.A5 hc (h.c _ ho) (h.g i hi) a3 ht;have hc':=hc.A5 (Bc (n.x (1-i)).ks (Af (n.x (1-i)).first) (K! m) (Ap fs)) (fun n b e=>Nat.le_of_lt_succ (PW e).2.2);have hk:=zS (n.x i) (Bc (n.x (1-i)).ks (Af (n.x (1-i)).first) (K! m) (Ap fs))
 have hsz:f.2.size≤300:=by
  have h7:=h2.s'.ne fs (List.mem_of_getElem? a3);have h8:=(h.c _ ho).m2;rw [a4,En,N7];omega
 rw [hp];generalize(n.x i).A5 (Bc (n.x (1-i)).ks (Af (n.x (1-i)).first) (K! m) (Ap fs))=r at b1 b2 b3 b4 hc' hk⊢;have e1:(if i=1-i then R2 else R i)=R i:=if_neg Ca;have e2:(if 1-i=1-i then R2 else R (1-i))=R2:=if_pos rfl;have hg':=h.g _ ho;rw [show 1-(1-i)=i by omega]at hg'
 have hx:Al t (n.Aq i r.2) L (fun j=>if j=1-i then R2 else R j) Bb:=by
  refine h.Mn hi Mt rfl h.el h.EK h.cl rfl rfl rfl hc' (by rw [e1,e2];exact b2) (by rw [e2];exact b3) (by rw [e1];exact hg') (fun k hk=>?_) (fun k hk=>?_) h.AJ h.cnt hk.2.1 hk.2.2 hk.1 b4.Gw h.bl
  ·have o:=h.e i k hi hk;have s:=b4.w.same k;have w1:=hc'.ws.ok k hk;have w0:C7 _ ((n.x i).w k):=hc.ws.ok k hk;have hpm:((n.x i).w k).BA≤(r.2.w k).BA:=QK w0.co.inc w1.co.inc w1.co.hi (fun p x=>b4.w.AE k p x);have hpl:(r.2.w k).BA≤(r.2.w k).b.length:=w1.OF
   have hwl:((n.x i).w k).b.length=(n.e i k).wrote.length:=by rw [o.wrote,L_]
   exact⟨We,by show _≤(n.e i k).wrote.length;rw [s.b]at hpl;omega,U9,VL,X5,o.read,o.state,O? o.AE hpm⟩
  ·have o:=h.e (1-i) k ho hk;rw [show 1-(1-i)=i by omega]at o;have s:=b4.r k;exact⟨o.wrote,o.pre,o.finished,o.given,o.code,o.read.trans s.read.symm,o.state.trans s.state.symm,o.AE⟩
 exact⟨hi,hsz,b1,_,hx⟩
theorem Al.comes(h:Al t n L R Bb){f:Nat×ByteArray}(hf:f∈n.AJ)(ht:t≤1000000000):f.1<2∧(n.comes f.1 f.2).1=true∧∃R',Al t (n.comes f.1 f.2).2 L R' Bb∧(n.comes f.1 f.2).2.AJ=n.AJ:=by
 obtain⟨hi,_,b1,R',hx⟩:=h.recv hf ht;obtain⟨c1,c2,c3,c4,c5,c6⟩:=Al.CR hi 4 0 _ hx DH;unfold AN.comes;dsimp only;refine⟨hi,?_,_,c2,c6⟩;rw [c1];simpa using b1
theorem Al.Y0(h:Al t n L R Bb){i:Nat}(hi:i<2){b:List UInt8}(e:Bz n.ks (Af (decide (i≠0))) b=none):(n.x i).A5 b=((4,-1),n.x i):=by
 have h2:=h.at hi;unfold AF.A5;rw [if_neg (by have:=h2.o;omega),h.ks i hi,h.first i hi,show(!decide (i=0))=decide (i≠0) by rcases IE hi with rfl|rfl<;>rfl,e]
theorem Al.Do(h:Al t n L R Bb){i:Nat}(hi:i<2)(b:List UInt8):(n.Do i b).1=true∧Al t (n.Do i b).2 L R Bb:=by
 have h2:=h.at hi;have hc:=h.c i hi;unfold AN.Do
 cases e:Bz n.ks (Af (decide (i≠0))) b with
 |some x=>exact⟨rfl,h⟩
 |none=>
  have e1:=h.Y0 hi e;dsimp only;rw [e1];exact OL
theorem Al.carry(h:Al t n L R Bb)(ht:t≤1000000000)(s:DL):(n.carry s).1=true∧∃R',Al t (n.carry s).2 L R' Bb:=by
 unfold AN.carry;by_cases hb:n.AJ=[]
 ·rw [if_pos hb];exact⟨rfl,R,h⟩
 rw [if_neg hb];dsimp only
 have hm:n.AJ.getD (AK s.a n.AJ.length) (0,⟨#[]⟩)∈n.AJ:=by
  have:=FF s.a (M_.2 hb)
  rw [L!,K_ this,O_];exact List.getElem_mem this
 generalize n.AJ.getD (AK s.a n.AJ.length) (0,⟨#[]⟩)=f at hm⊢;have hf:f.1<2:=(h.comes hm ht).1;split
 ·obtain⟨_,a,R',b,_⟩:=h.comes hm ht;exact⟨a,R',b⟩
 split
 ·exact⟨(h.Do Ca _).1,R,(h.Do Ca _).2⟩
 split
 ·exact⟨(h.Do hf _).1,R,(h.Do hf _).2⟩
 ·exact⟨rfl,R,h⟩
structure dE(o:D5)(AL:Nat)(a:List UInt8×Nat×Nat×Nat):Prop where
 e:a.2.2.2=0
 len:a.1.length≤AL
 fits:o.read+a.1.length≤o.wrote.length
 data:(o.wrote.drop o.read).take a.1.length=a.1
 shut:o.state≠0→a.1=[]∧a.2.1=o.state
 open_:a.2.1=0→a.2.2.1=0
 fin:a.2.1=1→o.finished=true∧o.read+a.1.length=o.wrote.length∧a.2.2.1=0
 CL:a.2.1=2→o.given=true∧a.2.2.1=o.code
 st:a.2.1≤2
theorem Al.reads(h:Al t n L R Bb){i k:Nat}(hi:i<2)(hk:k<4)(AL:Nat):dE (n.e (1-i) k) AL ((n.x i).read k AL).1∧
  Al (t+1) ((n.Aq i ((n.x i).read k AL).2).DQ (1-i) k {n.e (1-i) k with read:=(n.e (1-i) k).read+((n.x i).read k AL).1.1.length,state:=((n.x i).read k AL).1.2.1}) L R Bb:=by
 have h2:=h.at hi;have hc:=h.c i hi
 have ho:1-i<2:=by omega
 have o:=h.e (1-i) k ho hk;rw [show 1-(1-i)=i by omega]at o;obtain⟨a1,a2,a3,a4,a5⟩:=h2.read hc (h.c _ ho) hk AL;have hc':=hc.read (k:Int) (AL:Int)
 have hwin:((n.x i).read (k:Int) (AL:Int)).2.AG=(n.x i).AG∧((n.x i).read (k:Int) (AL:Int)).2.AI=(n.x i).AI∧((n.x i).read (k:Int) (AL:Int)).2.ks=(n.x i).ks∧((n.x i).read (k:Int) (AL:Int)).2.first=(n.x i).first:=by
  unfold AF.read;split
  ·exact⟨rfl,rfl,rfl,rfl⟩
  dsimp only;split<;>exact⟨rfl,rfl,rfl,rfl⟩
 have hww:∀j,((n.x i).read (k:Int) (AL:Int)).2.w j=(n.x i).w j:=fun j=>by unfold AF.w;rw [a2]
 generalize(n.x i).read (k:Int) (AL:Int)=r at a1 a2 a3 a4 a5 hc' hwin hww⊢
 have hwb:((n.x (1-i)).w k).b=(n.e (1-i) k).wrote:=by rw [o.wrote,L_]
 have hfit:=a5.fits;have hdat:=a5.data;rw [hwb,←o.read]at hfit hdat
 have hO:IZ ((n.x (1-i)).w k) (r.2.r k) {n.e (1-i) k with read:=(n.e (1-i) k).read+r.1.1.length,state:=r.1.2.1} []:=
  ⟨o.wrote,o.pre,o.finished,o.given,o.code,by rw [a5.read,←o.read],a5.state.symm,o.AE⟩
 refine⟨⟨a5.e,a5.len,hfit,hdat.symm,fun x=>a5.shut (by rw [←o.state];exact x)|>.imp id (fun y=>y.trans o.state.symm),a5.open_,fun e=>?_,fun e=>?_,a5.st⟩,?_⟩
 ·obtain⟨b1,b2,b3⟩:=a5.fin e;refine⟨o.finished.trans b1,?_,b3⟩;rw [←hwb,←b2,a5.read,←o.read]
 ·obtain⟨b1,b2⟩:=a5.CL e;exact⟨o.given.trans b1,b2.trans (o.code (o.given.trans b1)).symm⟩
 ·obtain⟨l1,l2⟩:=UT (n.Aq i r.2) (1-i) k {n.e (1-i) k with read:=(n.e (1-i) k).read+r.1.1.length,state:=r.1.2.1} h.el h.EK ho hk
  have he:∀j m,((n.Aq i r.2).DQ (1-i) k {n.e (1-i) k with read:=(n.e (1-i) k).read+r.1.1.length,state:=r.1.2.1}).e j m=if 1-i=j∧k=m then {n.e (1-i) k with read:=(n.e (1-i) k).read+r.1.1.length,state:=r.1.2.1}else n.e j m:=
   fun j m=>Nu _ (1-i) k j m _ h.el (h.EK _ ho) ho hk
  have hg':=h.g _ ho;rw [show 1-(1-i)=i by omega]at hg';refine h.Mn hi ET (T':=Bb) rfl l1 l2 h.cl rfl rfl rfl hc' a1 ((h.g i hi).G2 a3) hg' (fun m hm=>?_) (fun m hm=>?_) h.AJ h.cnt hwin.2.2.1 hwin.2.2.2 hwin.2.1 hwin.1 h.bl
  ·rw [he,if_neg Ca,hww];exact h.e i m hi hm
  ·rw [he];by_cases e:k=m
   ·subst e;rw [if_pos BW];exact hO
   ·rw [if_neg (fun x=>e x.2),a4 m (fun x=>e x.symm)]
    have:=h.e (1-i) m ho hm
    rw [show 1-(1-i)=i by omega]at this;exact this
theorem Wj(n:AN)(i k AL:Nat)(h:dE (n.e (1-i) k) AL ((n.x i).read k AL).1):n.read i k AL=
  (true,(n.Aq i ((n.x i).read k AL).2).DQ (1-i) k {n.e (1-i) k with read:=(n.e (1-i) k).read+((n.x i).read k AL).1.1.length,state:=((n.x i).read k AL).1.2.1}):=by
 unfold AN.read;dsimp only;have hst:=h.st
 rw [if_neg (by
  rintro(x|x|x|x|⟨x,y⟩)
  ·exact x h.e
  ·have:=h.len;omega
  ·have:=h.fits;omega
  ·exact x h.data
  ·obtain⟨b1,b2⟩:=h.shut x
   rcases y with y|y
   ·exact y b1
   ·exact y b2)]
 split
 ·rename_i e;rw [decide_eq_true (h.open_ e)]
 split
 ·rename_i e;rw [decide_eq_true (h.fin e)]
 split
 ·rename_i e;rw [decide_eq_true (h.CL e)]
 ·omega
theorem Al.read(h:Al t n L R Bb){i k:Nat}(hi:i<2)(hk:k<4)(AL:Nat):(n.read i k AL).1=true∧Al (t+1) (n.read i k AL).2 L R Bb:=by
 obtain⟨a,b⟩:=h.reads hi hk AL;rw [Wj n i k AL a];exact⟨rfl,b⟩
theorem Al.step(h:Al t n L R Bb)(ht:t≤1000000000)(s:DL):(n.step s).1=true∧∃L' R',Al (t+1) (n.step s).2 L' R' Bb:=by
 have p2:AK s.side 2<2:=FF _ Ca
 have up:∀{n L R},Al t n L R Bb→Al (t+1) n L R Bb:=fun h=>{h with c:=fun i hi=>(h.c i hi).mono ET}
 unfold AN.step;split
 ·obtain⟨a,b⟩:=h.wr p2 (FF s.a Ca) s.s;exact Pd
 split
 ·obtain⟨a,b⟩:=h.fin p2 (FF s.a Ca);exact Pd
 split
 ·obtain⟨a,b⟩:=h.CL p2 (FF s.a Ca) (FF s.b (by omega:0<1000));exact Pd
 split
 ·exact⟨rfl,L,R,h.tick⟩
 split
 ·obtain⟨a,L',b⟩:=h.flush p2 ht;exact⟨a,L',R,b⟩
 split
 ·obtain⟨a,b⟩:=h.read p2 (FF s.b Ca) (AK s.a 200);exact⟨a,L,R,b⟩
 split
 ·obtain⟨a,b⟩:=h.Do p2 s.s.data.toList;exact Pd
 ·obtain⟨a,R',b⟩:=h.carry ht s;exact⟨a,L,R',up b⟩
theorem Al.run(w:Int):∀(l:List DL) (t:Nat) (n:AN) (L:Nat→List (List AU)) (R:Nat→Nat→Prop),Al t n L R Bb→t+l.length≤1000000000→∃n' L' R',AN.run w l n=some n'∧Al (t+l.length) n' L' R' Bb
 |[],t,n,L,R,h,_=>⟨n,L,R,rfl,h⟩
 |s::l,t,n,L,R,h,ht=>by
  have ht':t+(l.length+1)≤1000000000:=ht;rw [AN.run];split
  ·obtain⟨n',L',R',a,b⟩:=Al.run w l t n L R h Ca;exact⟨n',L',R',a,{b with c:=fun i hi=>(b.c i hi).mono (by show t+l.length≤t+(l.length+1);omega)}⟩
  ·obtain⟨a,L1,R1,b⟩:=h.step Ca s;rw [if_pos a];obtain⟨n',L',R',a',b'⟩:=Al.run w l (t+1) _ L1 R1 b Ca;exact⟨n',L',R',a',by rw [show t+(s::l).length=t+1+l.length by simp;omega];exact b'⟩
theorem Al.new{AI AG:Nat}(h1:64≤AI)(h2:AI≤300)(h3:16≤AG)(h4:AG≤1024):Al 0 (.new AI AG) (fun _=>[]) (fun _ _=>False) Bb:=by
 have hr:HK As FQ:=⟨Nat.le_refl _,(fun e=>by cases e),(fun e=>by cases e),(fun e=>by cases e),(fun _ p hp=>absurd hp (Qt p)),fun e=>by cases e⟩
 have hs:∀b,Ln (.new AI AG Du b) [] (fun _=>False):=fun b=>⟨rfl,(fun p hp=>by rcases hp with hp|hp<;>cases hp),(fun _ h=>nomatch h),fun _ h=>nomatch h⟩
 have hw:∀b k,k<4→(AF.new AI AG Du b).w k=As:=fun b k hk=>Ml (P:=fun k=>(AF.new AI AG Du b).w k=As) rfl rfl rfl rfl k hk;have hrr:∀b k,k<4→(AF.new AI AG Du b).r k=FQ:=fun b k hk=>Ml (P:=fun k=>(AF.new AI AG Du b).r k=FQ) rfl rfl rfl rfl k hk
 have hp:∀b b',Uj (.new AI AG Du b) (.new AI AG Du b') [] (fun _=>False):=fun b b'=>
  ⟨(fun _ h=>h.elim),(fun _ _ h=>h.elim),(fun k hk=>by rw [hw b k hk,hrr b' k hk];exact hr),fun k p hk hp=>by rw [hw b k hk]at hp;exact absurd hp (Qt p),fun _ _ h=>h.elim⟩
 have hc:∀b,AZ 0 (.new AI AG Du b):=fun b=>.new h1 h2 h3 h4 rfl
 have two:∀(P:Nat→Prop),P 0→P 1→∀i,i<2→P i:=fun P a b i hi=>by rcases IE hi with rfl|rfl;exact a;exact b
 refine⟨rfl,rfl,two _ rfl rfl,rfl,two _ (hc _) (hc _),⟨hs _,hs _,hp _ _,hp _ _,rfl,rfl,rfl,rfl,rfl⟩,two _ ?_ ?_,fun i k hi hk=>?_,(fun _ h=>nomatch h),two _ rfl rfl,two _ rfl rfl,two _ rfl rfl,two _ rfl rfl,two _ rfl rfl,rfl⟩
 ·exact XC
 ·exact XC
 ·have he:(AN.new AI AG).e i k=Dq:=by
   rcases IE hi with rfl|rfl
   ·exact Ml (P:=fun k=>(AN.new AI AG).e 0 k=Dq) rfl rfl rfl rfl k hk
   ·exact Ml (P:=fun k=>(AN.new AI AG).e 1 k=Dq) rfl rfl rfl rfl k hk
  have hx:((AN.new AI AG).x i).w k=As∧((AN.new AI AG).x (1-i)).r k=FQ:=by
   rcases IE hi with rfl|rfl
   ·exact⟨hw _ k hk,hrr _ k hk⟩
   ·exact⟨hw _ k hk,hrr _ k hk⟩
  rw [he,hx.1,hx.2];exact⟨rfl,J? _,rfl,rfl,(fun e=>by cases e),rfl,rfl,J? _⟩
end
section
variable{B:World}
def Kept(b o:Nat)(xs:List UInt8)(n:Nat)(b' o':Nat)(ys:List UInt8)(n':Nat)(Q:HP):Prop:=
 ∀s1:List Value,s1.length=n'→∃s2 D,s2.length=n∧AB b' o' ys s1*Q=D*AB b o xs s2
theorem Kept.refl(b o:Nat)(xs:List UInt8)(n:Nat):Kept b o xs n b o xs n HP.BD:=fun s1 h=>⟨s1,HP.BD,h,Cf⟩
theorem Kept.trans{b o n b1 o1 n1 b2 o2 n2:Nat}{xs ys zs:List UInt8}{Q1 Q2:HP}(h1:Kept b o xs n b1 o1 ys n1 Q1)(h2:Kept b1 o1 ys n1 b2 o2 zs n2 Q2):Kept b o xs n b2 o2 zs n2 (Q2*Q1):=by
 intro s2 hs2;obtain⟨s1,D1,e1,e2⟩:=h2 s2 hs2;obtain⟨s0,D0,e3,e4⟩:=h1 s1 e1;refine⟨s0,D1*D0,e3,?_⟩;rw [←HP.assoc,e2,HP.assoc,e4,HP.assoc]
def Dv(b o:Nat)(xs:List UInt8)(s:List Value)(R:HP)(ys:List UInt8)(v:Value)(H':HP):Prop:=
 ∃p' b' o' c' s' Q,v=.slice p' ys.length c'∧Sl p' b' o' ys.length c'∧ys.length*1+s'.length=c'*1∧H'=AB b' o' ys s'*(Q*R)∧Kept b o xs s.length b' o' ys s'.length Q
theorem Dv.after{b o n b1 o1:Nat}{xs ys zs:List UInt8}{s s1:List Value}{Q1 R H':HP}{v:Value}(h1:Kept b o xs s.length b1 o1 ys s1.length Q1)(h:Dv b1 o1 ys s1 (Q1*R) zs v H'):Dv b o xs s R zs v H':=by
 obtain⟨p',b',o',c',s',Q,rfl,h2,h3,rfl,h4⟩:=h;exact⟨p',b',o',c',s',Q*Q1,rfl,h2,h3,by rw [HP.assoc],h1.trans h4⟩
theorem O'.YH{p:Option Addr}{b o c:Nat}{xs ys:List UInt8}{s:List Value}{R H':HP}{v:Value}(hs:Sl p b o xs.length c)(hc:xs.length*1+s.length=c*1)(h:O' p b o c xs s R ys v H'):Dv b o xs s R (xs++ys) v H':=by
 rcases h with⟨h1,rfl,rfl⟩|⟨h1,b',c',s',rfl,h2,h3,rfl⟩
 ·refine⟨p,b,o,c,s.drop (ys.length*AC.sz UInt8),HP.BD,by rw [J!],⟨?_,by rw [J!];exact h1⟩,?_,Cj,?_⟩
  ·exact hs.1
  ·have:AC.sz UInt8=1:=rfl
   rw [J!,N?,this];omega
  ·intro s1 hs1;refine⟨AD ys++s1,HP.BD,?_,?_⟩
   ·have:AC.sz UInt8=1:=rfl
    rw [N?,this]at hs1;rw [J!,Bp,this];omega
   ·unfold AB;rw [Er,Q_];ac_rfl
 ·refine⟨_,b',0,c',s',AB b o xs s,by rw [J!],⟨.inr rfl,by rw [J!];exact h2⟩,?_,rfl,?_⟩
  ·rw [J!];exact h3
  ·intro s1 hs1;exact⟨s,AB b' 0 (xs++ys) s1,rfl,rfl⟩
section
variable{P:Program}{n:Nat}{E:A2}{D:Bu}{d:Option Tmp}{ty:TypeId}{pos:String}{af:Array Edge}{g:Option (Nat×Bool)}{x y:Operand}
theorem Ks{R:HP}{sT xT e by_:Nat}{b o bb oo cc c:Nat}{p pp:Option Addr}
  {xs ys:List UInt8}{s:List Value}{z:Value}[hT:Au P sT (.slice e)][hT2:Au P xT (.slice e)][hz:Bj P e 1][hi:FA P e by_][h0:BQ P e z]
  (hx:ev E x=some (.slice p xs.length c))(hs:Sl p b o xs.length c)(hc:xs.length*1+s.length=c*1)
  (hy:ev E y=some (.slice pp ys.length cc))(hs2:Sl pp bb oo ys.length cc)(hr:Ad B (AB b o xs s*R) bb oo ys)(hzc:z.cells.size=1)
  (hb:(xs.length+ys.length)*by_≤140737488355328)(hby:0<by_):
  CH P B n ⟨d,.call ⟨.builtin .append,#[x,y],#[sT,xT]⟩,ty,pos,af,g⟩ E D (AB b o xs s*R) (fun v H'=>Dv b o xs s R (xs++ys) v H'):=by
 intro a w h1 h2 h3 K Q hk;exact X0 (α:=UInt8) (hT:=hT) (hT2:=hT2) (hz:=hz) (hi:=hi) (h0:=h0) hx hs hc hy hs2 hr hzc hb hby a w h1 h2 h3 K Q (fun v H' w' h=>hk v H' w' (h.YH hs hc))
theorem eW{R:HP}{sT xT e by_:Nat}{b o c:Nat}{p:Option Addr}{xs:List UInt8}{s:List Value}{zv:Value}{str:ByteArray}
  [hT:Au P sT (.slice e)][hT2:Au P xT .string][hz:Bj P e 1][hi:FA P e by_][h0:BQ P e zv]
  (hx:ev E x=some (.slice p xs.length c))(hs:Sl p b o xs.length c)(hc:xs.length*1+s.length=c*1)
  (hy:ev E y=some (.string str))(hzc:zv.cells.size=1)
  (hb:(xs.length+str.size)*by_≤140737488355328)(hby:0<by_):
  CH P B n ⟨d,.call ⟨.builtin .append,#[x,y],#[sT,xT]⟩,ty,pos,af,g⟩ E D (AB b o xs s*R) (fun v H'=>Dv b o xs s R (xs++str.data.toList) v H'):=by
 intro a w h1 _ h3 K Q hk
 have hl:str.data.toList.length=str.size:=by rw [Array.length_toList];rfl
 have hf:∀w',Sat B (AB b o xs s*R) w'→(Builtin.firstCells (AC.sz UInt8) str.data.toList.length (.string str)).run P w'=.ok (AD str.data.toList).toArray w':=by
  intro w' _
  have e1:(str.extract 0 str.data.toList.length).data=str.data:=by
   rw [hl]
   have:str.extract 0 str.size=str:=ByteArray.extract_zero_size
   rw [this]
  simp only [Builtin.firstCells,e1,Lp,Sem.run_pure];congr 1;apply Array.toList_inj.1;rw [Array.toList_map]
 obtain⟨v,w',hrun,H',hH,hw'⟩:=V0 (P:=P) (B:=B) (R:=R) (b:=b) (o:=o) (p:=p) (c:=c) (xs:=xs) (ys:=str.data.toList) (s:=s) (sT:=sT) (xT:=xT) (ats:= #[sT,xT]) (e:=e) (by_:=by_) (ty:=ty) (x:=.string str) (w:=w) (z:=zv) hT.get rfl rfl (fun k h=>by rw [hT2.get]at h;cases h) ⟨_,hT2.get⟩ hz.get hi.get h0.get hzc hs hc Cz (fun w2 hw2=>hf w2 hw2) (by rw [hl];exact hb) hby h3
 have hrun2:(execOp a.eval ⟨d,.call ⟨.builtin .append,#[x,y],#[sT,xT]⟩,ty,pos,af,g⟩).run P w=.ok (.value v) w':=by
  simp [execOp,resolve,h1.ev hx,h1.ev hy,invoke,builtin,hrun]
 simp only [Oper.wp,hrun2,Oper.upon];exact hk v H' w' (hH.YH hs hc) hw'
end
theorem Hi(n:Nat)(hn:n≤4611686018427387903)(p:Option Addr)(b o c:Nat)(xs:List UInt8)(s:List Value)(R:HP)(hs:Sl p b o xs.length c)(hc:xs.length*1+s.length=c*1)(hx:xs.length<1000000000000):
  Fn Tryz.prog B 194 [.slice p xs.length c,uN n] (AB b o xs s*R) (fun v H'=>Dv b o xs s R (xs++AV n) v H'):=by
 refine ZK ?_;refine mC (fun hc0=>?_) (fun hc0=>?_)
 ·refine J4 ?_;refine Gy ?_;refine LE ?_;rintro _ _ ⟨b11,rfl,rfl⟩;refine A9 (H':=AB b o xs s*(HP.AA b11 0 (AD (AV n))*R)) Yv ?_
  have hl:(AV n).length=1:=by simp [AV, *]
  refine Ag (Ks (ys:=AV n) (bb:=b11) (oo:=0) (cc:=1) rfl hs hc Cz Ju inferInstance rfl KP Ca) rfl ?_;rintro _ _ ⟨q,b',o',c',s',Q,rfl,h1,h2,rfl,hk⟩;refine J6 ?_;exact P9
 refine J3 ?_;refine JL (D4 (j:=16384) rfl rfl) ?_;refine J3 ?_;refine mC (fun hc1=>?_) (fun hc1=>?_)
 ·refine dL ?_;rintro _ _ ⟨b23,rfl,rfl⟩;refine A9 (H':=AB b o xs s*(HP.AA b23 0 (AD (AV n))*R)) Wt ?_
  have hl:(AV n).length=2:=by simp [AV, *]
  refine Ag (Ks (ys:=AV n) (bb:=b23) (oo:=0) (cc:=2) rfl hs hc Cz Ju inferInstance rfl KP Ca) rfl ?_;rintro _ _ ⟨q,b',o',c',s',Q,rfl,h1,h2,rfl,hk⟩;refine J6 ?_;exact P9
 refine J3 ?_;refine JL (D4 (j:=1073741824) rfl rfl) ?_;refine J3 ?_;refine mC (fun hc2=>?_) (fun hc2=>?_)
 ·refine Xu ?_;rintro _ _ ⟨b41,rfl,rfl⟩;refine A9 (H':=AB b o xs s*(HP.AA b41 0 (AD (AV n))*R)) YO ?_
  have hl:(AV n).length=4:=by simp [AV, *]
  refine Ag (Ks (ys:=AV n) (bb:=b41) (oo:=0) (cc:=4) rfl hs hc Cz Ju inferInstance rfl KP Ca) rfl ?_;rintro _ _ ⟨q,b',o',c',s',Q,rfl,h1,h2,rfl,hk⟩;refine J6 ?_;exact P9
 refine Zn ?_;rintro _ _ ⟨b68,rfl,rfl⟩;refine A9 (H':=AB b o xs s*(HP.AA b68 0 (AD (AV n))*R)) X9 ?_
 have hl:(AV n).length=8:=by simp [AV, *]
 refine Ag (Ks (ys:=AV n) (bb:=b68) (oo:=0) (cc:=8) rfl hs hc Cz Ju inferInstance rfl KP Ca) rfl ?_;rintro _ _ ⟨q,b',o',c',s',Q,rfl,h1,h2,rfl,hk⟩;refine J4 ?_;exact P9
theorem sR(d:ByteArray)(hd:d.size<1000000000000)(p:Option Addr)(b o c:Nat)(xs:List UInt8)(s:List Value)(R:HP)(hs:Sl p b o xs.length c)(hc:xs.length*1+s.length=c*1)(hx:xs.length<1000000000000):
  Fn Tryz.prog B 200 [.slice p xs.length c,.string d] (AB b o xs s*R) (fun v H'=>Dv b o xs s R (xs++AV d.size++d.data.toList) v H'):=by
 refine mI Tryz.func200 ?_;refine CB ?_;refine JL FD ?_;refine mE rfl (Hi d.size Ca p b o c xs s R hs hc Ca) ?_;rintro _ _ ⟨p9,b9,o9,c9,s9,Q9,rfl,hs9,hc9,rfl,hk9⟩;refine J1 ?_;refine Ag (eW (str:=d) rfl hs9 hc9 rfl rfl WD Ca) rfl ?_;rintro _ _ hG11;obtain⟨p11,b11,o11,c11,s11,Q11,rfl,hs11,hc11,rfl,hk11⟩:=Dv.after (n:=0) hk9 hG11;refine J4 ?_;exact mR [4] (AB b11 o11 (xs++AV d.size++d.data.toList) s11*(Q11*R)) rfl rfl ⟨p11,b11,o11,c11,s11,Q11,rfl,hs11,hc11,rfl,hk11⟩
theorem sE(r:RF)(fb:Nat)(p:Option Addr)(b o c:Nat)(xs:List UInt8)(s:List Value)(R:HP)(hs:Sl p b o xs.length c)(hc:xs.length*1+s.length=c*1)(hx:xs.length<100000000000)(st:Nat)(hst:r.f.stream=(st:Nat))(hst4:st<4)(hcd:r.f.code≤4611686018427387903)(hof:r.f.offset≤4611686018427387903):
  Fn Tryz.prog B 193 [.slice p xs.length c,ptr fb 0] (AB b o xs s*(HP.AA fb 0 (AM r)*R)) (fun v H'=>Dv b o xs s (HP.AA fb 0 (AM r)*R) (xs++[4]++AV st++AV r.f.code++AV r.f.offset) v H'):=by
 refine mI Tryz.func193 ?_;have q1:=CS st;have q2:=CS r.f.code;have q3:=CS r.f.offset;refine bZ ?_;rintro _ _ ⟨b6,rfl,rfl⟩;refine A6 ?_;refine ZX ?_;refine Am 2 Cb rfl rfl (Ks (ys:=[4]) (bb:=b6) (oo:=0) (cc:=1) rfl hs hc rfl CG inferInstance rfl Ck Ca) ?_;rintro _ _ ⟨p7,b7,o7,c7,s7,Q7,rfl,hs7,hc7,rfl,hk7⟩;refine A6 ?_;refine Am 8 Cb rfl rfl (BJ rfl (Hi (st) Ca p7 b7 o7 c7 (xs++[4]) s7 _ hs7 hc7 Co)) ?_;rintro _ _ hG13;obtain⟨p13,b13,o13,c13,s13,Q13,rfl,hs13,hc13,rfl,hk13⟩:=Dv.after (n:=0) hk7 hG13;refine A6 ?_
 refine Am 13 Cb rfl rfl (BJ rfl (Hi (r.f.code) hcd p13 b13 o13 c13 (xs++[4]++AV st) s13 _ hs13 hc13 Co)) ?_;rintro _ _ hG18;obtain⟨p18,b18,o18,c18,s18,Q18,rfl,hs18,hc18,rfl,hk18⟩:=Dv.after (n:=0) hk13 hG18;refine A6 ?_;refine Am 18 Cb rfl rfl (BJ rfl (Hi (r.f.offset) hof p18 b18 o18 c18 (xs++[4]++AV st++AV r.f.code) s18 _ hs18 hc18 Co)) ?_;rintro _ _ hG23;obtain⟨p23,b23,o23,c23,s23,Q23,rfl,hs23,hc23,rfl,hk23⟩:=Dv.after (n:=0) hk18 hG23;refine DW ?_;refine EV 19 Cb rfl rfl Fg ED ?_;refine Da ?_;exact mR [4] (AB b23 o23 (xs++[4]++AV st++AV r.f.code++AV r.f.offset) s23*(Q23*(HP.AA fb 0 (AM r)*R))) rfl rfl ⟨p23,b23,o23,c23,s23,Q23,rfl,hs23,hc23,rfl,hk23⟩
theorem vV(r:RF)(fb:Nat)(p:Option Addr)(b o c:Nat)(xs:List UInt8)(s:List Value)(R:HP)(hs:Sl p b o xs.length c)(hc:xs.length*1+s.length=c*1)(hx:xs.length<100000000000)(st:Nat)(hst:r.f.stream=(st:Nat))(hst4:st<4)(hof:r.f.offset≤4611686018427387903)(hds:r.f.data.size<1000000000000):
  Fn Tryz.prog B 199 [.slice p xs.length c,ptr fb 0] (AB b o xs s*(HP.AA fb 0 (AM r)*R)) (fun v H'=>Dv b o xs s (HP.AA fb 0 (AM r)*R) (xs++[bif r.f.fin then 9 else 8]++AV st++AV r.f.offset++AV r.f.data.size++r.f.data.data.toList) v H'):=by
 refine mI Tryz.func199 ?_;have q1:=CS st;have q2:=CS r.f.code;have q3:=CS r.f.offset;refine J7 ?_;refine JL cR ?_;refine J8 ?_;refine Dw ?_;refine J2 ?_;refine CO (α:=Unit) (fun _=>[(0,.slice p xs.length c),(1,ptr fb 0),(5,u8 (bif r.f.fin then 9 else 8))]) (fun _=>AB b o xs s*(HP.AA fb 0 (AM r)*R)) (fun _=>True) ?_ ?_
 ·refine mc (fun hc0=>?_) (fun hc0=>?_)
  ·refine J1 ?_;refine JL WU ?_;refine J1 ?_;exact Pe
  refine J1 ?_;exact Pe
 ·rintro z hz;refine cD ?_;rintro _ _ ⟨b12,rfl,rfl⟩;refine A6 ?_;refine XK ?_;refine Am 3 Cb rfl rfl (Ks (ys:=[(bif r.f.fin then(9:UInt8)else 8)]) (bb:=b12) (oo:=0) (cc:=1) rfl hs hc rfl CG inferInstance rfl Ck Ca) ?_;rintro _ _ ⟨p13,b13,o13,c13,s13,Q13,rfl,hs13,hc13,rfl,hk13⟩;refine A6 ?_;refine Am 9 Cb rfl rfl (BJ rfl (Hi (st) Ca p13 b13 o13 c13 (xs++[bif r.f.fin then 9 else 8]) s13 _ hs13 hc13 Co)) ?_;rintro _ _ hG19;obtain⟨p19,b19,o19,c19,s19,Q19,rfl,hs19,hc19,rfl,hk19⟩:=Dv.after (n:=0) hk13 hG19;refine A6 ?_
  refine Am 14 Cb rfl rfl (BJ rfl (Hi (r.f.offset) hof p19 b19 o19 c19 (xs++[bif r.f.fin then 9 else 8]++AV st) s19 _ hs19 hc19 Co)) ?_;rintro _ _ hG24;obtain⟨p24,b24,o24,c24,s24,Q24,rfl,hs24,hc24,rfl,hk24⟩:=Dv.after (n:=0) hk19 hG24;refine A6 ?_;refine Am 19 Cb rfl rfl (BJ rfl (sR r.f.data hds p24 b24 o24 c24 (xs++[bif r.f.fin then 9 else 8]++AV st++AV r.f.offset) s24 _ hs24 hc24 Ck)) ?_;rintro _ _ hG29;obtain⟨p29,b29,o29,c29,s29,Q29,rfl,hs29,hc29,rfl,hk29⟩:=Dv.after (n:=0) hk24 hG29;refine DW ?_;refine O3 ?_;refine Da ?_;exact mR [4] (AB b29 o29 (xs++[bif r.f.fin then 9 else 8]++AV st++AV r.f.offset++AV r.f.data.size++r.f.data.data.toList) s29*(Q29*(HP.AA fb 0 (AM r)*R))) rfl rfl ⟨p29,b29,o29,c29,s29,Q29,rfl,hs29,hc29,rfl,hk29⟩
theorem vT(r:RF)(fb:Nat)(p:Option Addr)(b o c:Nat)(xs:List UInt8)(s:List Value)(R:HP)(hs:Sl p b o xs.length c)(hc:xs.length*1+s.length=c*1)(hx:xs.length<100000000000)(hrok:r.ok)(hrd:Ad B R r.b r.o r.f.ranges)(hok:GW r.f.ranges)(hrl:r.f.ranges.length<10000000000):
  Fn Tryz.prog B 190 [.slice p xs.length c,ptr fb 0] (AB b o xs s*(HP.AA fb 0 (AM r)*R)) (fun v H'=>Dv b o xs s (HP.AA fb 0 (AM r)*R) (xs++[2]++AV (rg r.f.ranges 0).hi++AV (r.f.ranges.length-1)++AV ((rg r.f.ranges 0).hi-(rg r.f.ranges 0).lo)++B3 r.f.ranges (r.f.ranges.length-1)) v H'):=by
 refine mI Tryz.func190 ?_;have hne:0<r.f.ranges.length:=M_.2 hok.1;have h0:=hok.2 0 hne;unfold Fr at h0;have q1:=CS (rg r.f.ranges 0).hi;have q2:=CS (r.f.ranges.length-1);have q3:=CS ((rg r.f.ranges 0).hi-(rg r.f.ranges 0).lo);refine CB ?_;refine Dw ?_;refine JL XT ?_;refine JL Zb ?_;refine K2 ?_;rintro _ _ ⟨b5,rfl,rfl⟩;refine cP ?_;rintro _ _ ⟨b15,rfl,rfl⟩;refine A6 ?_
 refine bM ?_;refine Am 2 Cb rfl rfl (Ks (ys:=[2]) (bb:=b15) (oo:=0) (cc:=1) rfl hs hc rfl CG inferInstance rfl Ck Ca) ?_;rintro _ _ ⟨p16,b16,o16,c16,s16,Q16,rfl,hs16,hc16,rfl,hk16⟩;refine A6 ?_;refine Am 5 Cb rfl rfl (BJ rfl (Hi ((rg r.f.ranges 0).hi) h0.2.1 p16 b16 o16 c16 (xs++[2]) s16 _ hs16 hc16 Co)) ?_;rintro _ _ hG19;obtain⟨p19,b19,o19,c19,s19,Q19,rfl,hs19,hc19,rfl,hk19⟩:=Dv.after (n:=0) hk16 hG19;refine A6 ?_;refine Am 13 Cb rfl rfl (BJ rfl (Hi (r.f.ranges.length-1) Ca p19 b19 o19 c19 (xs++[2]++AV (rg r.f.ranges 0).hi) s19 _ hs19 hc19 Co)) ?_;rintro _ _ hG27;obtain⟨p27,b27,o27,c27,s27,Q27,rfl,hs27,hc27,rfl,hk27⟩:=Dv.after (n:=0) hk19 hG27;refine A6 ?_;refine Am 19 Cb rfl rfl (BJ rfl (Hi ((rg r.f.ranges 0).hi-(rg r.f.ranges 0).lo) Ca p27 b27 o27 c27 (xs++[2]++AV (rg r.f.ranges 0).hi++AV (r.f.ranges.length-1)) s27 _ hs27 hc27 Co)) ?_;rintro _ _ hG33;obtain⟨p33,b33,o33,c33,s33,Q33,rfl,hs33,hc33,rfl,hk33⟩:=Dv.after (n:=0) hk27 hG33
 refine DW ?_;refine O3 ?_;refine JQ ?_;refine HW (AB b33 o33 (xs++[2]++AV (rg r.f.ranges 0).hi++AV (r.f.ranges.length-1)++AV ((rg r.f.ranges 0).hi-(rg r.f.ranges 0).lo)) s33*(Q33*(HP.AA fb 0 (AM r)*R))) ?_;refine J4 ?_;refine Dw ?_;refine JL Zv ?_;refine Je ?_;generalize hpre:(xs++[2]++AV (rg r.f.ranges 0).hi++AV (r.f.ranges.length-1)++AV ((rg r.f.ranges 0).hi-(rg r.f.ranges 0).lo))=pre at*
 have hpl:pre.length<200000000000:=by rw [←hpre];simp only [J!,N!,List.length_nil];omega
 refine Bm (α:=Nat×Option Addr×Nat×Nat×Nat×List Value×HP) (fun z=>[(0,.slice z.2.1 (pre++B3 r.f.ranges z.1).length z.2.2.2.2.1),(1,ptr fb 0),(38,.slice (sp r.p r.c 1 2) (r.f.ranges.length-1) (r.c-1)),(39,iN (r.f.ranges.length-1)),(40,iN z.1)]) (fun z=>AB z.2.2.1 z.2.2.2.1 (pre++B3 r.f.ranges z.1) z.2.2.2.2.2.1*(z.2.2.2.2.2.2*(HP.AA fb 0 (AM r)*R))) (fun z=>z.1≤r.f.ranges.length-1∧Sl z.2.1 z.2.2.1 z.2.2.2.1 (pre++B3 r.f.ranges z.1).length z.2.2.2.2.1∧(pre++B3 r.f.ranges z.1).length*1+z.2.2.2.2.2.1.length=z.2.2.2.2.1*1∧Kept b o xs s.length z.2.2.1 z.2.2.2.1 (pre++B3 r.f.ranges z.1) z.2.2.2.2.2.1.length z.2.2.2.2.2.2) (fun z=>r.f.ranges.length-1-z.1) (0,p33,b33,o33,c33,s33,Q33) ⟨J? _,by simpa [B3]using hs33,by simpa [B3]using hc33,by simpa only [B3,L_]using hk33⟩ VF eC ?_
 rintro⟨i,p9,b9,o9,c9,s9,Q9⟩ ⟨hi,hs9,hc9,hk9⟩;dsimp only at hi hs9 hc9 hk9⊢;have hel:=PK r.f.ranges i
 have hyl:(pre++B3 r.f.ranges i).length<900000000000:=by simp;omega
 generalize hys:pre++B3 r.f.ranges i=ys at*;refine J6 ?_;refine mC (fun hlt=>?_) (fun hlt=>?_)
 ·have hk:=hok.2 (i+1) Ca;have hk0:=hok.2 i Ca;unfold Fr at hk hk0;simp only [Nat.add_sub_cancel]at hk;refine J7 ?_;refine JL V3 ?_;refine JL aT ?_;refine K2 ?_;rintro _ _ ⟨b7,rfl,rfl⟩;refine J1 ?_;refine IF ?_;refine J2 ?_;refine Ai (H':=AB b9 o9 ys s9*(Q9*(HP.AA b7 0 [uN (rg r.f.ranges (i+1)).lo,uN (rg r.f.ranges (i+1)).hi]*(HP.AA fb 0 (AM r)*R)))) Cf ?_;have v1:=CS ((rg r.f.ranges i).lo-(rg r.f.ranges (i+1)).hi-2);refine Wn ?_;refine EX ?_;refine dF ?_;refine Sx ?_
  refine Am 13 Cb rfl rfl (BJ rfl (Hi ((rg r.f.ranges i).lo-(rg r.f.ranges (i+1)).hi-2) Ca p9 b9 o9 c9 (ys) s9 _ hs9 hc9 Co)) ?_;rintro _ _ hG58;obtain⟨p58,b58,o58,c58,s58,Q58,rfl,hs58,hc58,rfl,hk58⟩:=Dv.after (n:=0) hk9 hG58;refine A6 ?_;refine Am 19 Cb rfl rfl (BJ rfl (Hi ((rg r.f.ranges (i+1)).hi-(rg r.f.ranges (i+1)).lo) Ca p58 b58 o58 c58 (ys++AV ((rg r.f.ranges i).lo-(rg r.f.ranges (i+1)).hi-2)) s58 _ hs58 hc58 Ck)) ?_;rintro _ _ hG64;obtain⟨p64,b64,o64,c64,s64,Q64,rfl,hs64,hc64,rfl,hk64⟩:=Dv.after (n:=0) hk58 hG64;rw [←hys,Yp]at hs64 hc64 hk64⊢;refine A6 ?_;refine Ja 20 ?_;refine JQ ?_;refine E7 ?_;exact Bd (AB b64 o64 (pre++B3 r.f.ranges (i+1)) s64*(Q64*(HP.AA fb 0 (AM r)*R))) (Ba (i+1,p64,b64,o64,c64,s64,Q64) ⟨Ca,hs64,hc64,hk64⟩ cK G4 rfl)
 have hie:i=r.f.ranges.length-1:=by omega
 refine DP ?_;subst hie;rw [←hys]at hs9 hc9 hk9⊢;exact mR [4] (AB b9 o9 (pre++B3 r.f.ranges (r.f.ranges.length-1)) s9*(Q9*(HP.AA fb 0 (AM r)*R))) rfl rfl (by rw [←hpre]at hs9 hc9 hk9⊢;exact⟨p9,b9,o9,c9,s9,Q9,rfl,hs9,hc9,rfl,hk9⟩)
theorem E5.sP{k:Int}{f1 f2 f3:FuncId}{us1 us2 us3:List Value}{C:HP}(h:E5 k f1 us1 f2 us2 f3 us3 C)(hk:3≤k∧k≤5)(r:RF)(fb:Nat)(p:Option Addr)(b o c:Nat)(xs:List UInt8)(s:List Value)(R:HP)(hm:HI r)(hrk:r.f.kind=k)(hok:B4 r.f)(hr:Ad B R r.b r.o r.f.ranges)
  (hs:Sl p b o xs.length c)(hc:xs.length*1+s.length=c*1)(hx:xs.length<100000000000):
  Fn Tryz.prog B f1 ([.slice p xs.length c,ptr fb 0]++us1) (AB b o xs s*(HP.AA fb 0 (AM r)*(C*R))) (fun v H'=>Dv b o xs s (HP.AA fb 0 (AM r)*(C*R)) (xs++Ah r.f) v H'):=by
 cases h
 ·omega
 ·omega
 ·have e:xs++Ah r.f=xs++[2]++AV (rg r.f.ranges 0).hi++AV (r.f.ranges.length-1)++AV ((rg r.f.ranges 0).hi-(rg r.f.ranges 0).lo)++B3 r.f.ranges (r.f.ranges.length-1):=by
   simp [Ah,hrk,KT]
  rw [e,HP.BI];exact vT r fb p b o c xs s R hs hc hx hm.ok hr (hok.2.2.2.2.1.1 hrk) hm.len
 ·obtain⟨h1,h2,h3,h4,h5,h6⟩:=hok
  have e:xs++Ah r.f=xs++[4]++AV r.f.stream.toNat++AV r.f.code++AV r.f.offset:=by simp [Ah,hrk]
  rw [e,HP.BI];exact sE r fb p b o c xs s R hs hc hx r.f.stream.toNat Ca Ca h2 h1
 ·obtain⟨h1,h2,h3,h4,h5,h6⟩:=hok
  have e:xs++Ah r.f=xs++[bif r.f.fin then 9 else 8]++AV r.f.stream.toNat++AV r.f.offset++AV r.f.data.size++r.f.data.data.toList:=by simp [Ah,hrk]
  rw [e,HP.BI];exact vV r fb p b o c xs s R hs hc hx r.f.stream.toNat Ca Ca h1 S6
 ·omega
theorem UH(r:RF)(p:Option Addr)(b o c:Nat)(xs:List UInt8)(s:List Value)(R:HP)(hm:HI r)(hr:Ad B R r.b r.o r.f.ranges)(hs:Sl p b o xs.length c)(hc:xs.length*1+s.length=c*1)(hx:xs.length<100000000000)(hk:Dd r.f.kind)(hk35:3≤r.f.kind∧r.f.kind≤5)(hok:B4 r.f):
  Fn Tryz.prog B 138 [.slice p xs.length c,.agg (AM r).toArray] (AB b o xs s*R) (fun v H'=>Dv b o xs s R (xs++Ah r.f) v H'):=by
 refine mI Tryz.func138 ?_;refine K' ?_;rintro _ _ ⟨b3,rfl,rfl⟩;refine J6 ?_;refine Dw ?_;refine mE rfl (SS r.f.kind hk _) ?_;rintro _ _ ⟨bc,f1,us1,f2,us2,f3,us3,C,hF,rfl,rfl⟩;have hw:=hF.S8 (B:=B);have hq1:=hw.W4;refine J7 ?_;refine JZ ?_;refine J1 ?_;refine DO 11 rfl (fun hg1=>?_) (fun hg1=>?_)
 ·cases hg1
 refine aD ?_;refine mC (fun hcc=>?_) (fun hcc=>?_)
 ·refine J7 ?_
  first
  |exact absurd hok hcc
  |exact mR [4] (AB b21 o21 (xs++Ah r.f) s21*(Q21*R)) rfl rfl ⟨p21,b21,o21,c21,s21,Q21,rfl,hs21,hc21,rfl,hk21⟩
 refine J7 ?_;refine LF ?_;refine Vq ?_;refine Ag (Ht rfl rfl (hF.sP hk35 r b3 p b o c xs s _ hm rfl hok inferInstance hs hc hx)) rfl ?_;rintro _ _ ⟨p21,b21,o21,c21,s21,Q21,rfl,hs21,hc21,rfl,hk21⟩;refine J4 ?_
 first
 |exact absurd hok hcc
 |exact mR [4] (AB b21 o21 (xs++Ah r.f) s21*(Q21*R)) rfl rfl ⟨p21,b21,o21,c21,s21,Q21,rfl,hs21,hc21,rfl,hk21⟩
end
section
variable{B:World}
structure DX where
 d:BV
 a:A1
 rs:List RF
 f:A1
@[reducible] def Gd(m:DX):List Value:=[.slice m.a.p m.d.b.length m.a.c,.slice m.f.p m.rs.length m.f.c,iN m.d.room,.bool (EC m.d.Aw)]
def BM(db:Nat)(m:DX):HP:=HP.AA db 0 (Gd m)*(m.a.h m.d.b*m.f.h m.rs)
structure DX.ok(m:DX):Prop where
 a:m.a.ok m.d.b
 f:m.f.ok m.rs
 map:m.rs.map (·.f)=m.d.Aw
 room:m.d.room≤284
 len:m.d.b.length≤m.d.room
theorem DX.ok.rl{m:DX}(h:m.ok):m.rs.length≤284:=by
 have h1:=O5 m.d.Aw;have h2:=h.len;have h3:=h.room
 have h4:m.rs.length=m.d.Aw.length:=by rw [←h.map,L?]
 have h5:m.d.b.length=(Ap m.d.Aw).length:=rfl;omega
theorem Yc(fs:List AU)(f:AU):EC (fs++[f])=(EC fs||decide (f.kind≠3)):=by simp [EC]
theorem dQ(d:BV)(f:AU):({d with Aw:=d.Aw++[f]}:BV).b=d.b++Ah f:=by
 show Ap (d.Aw++[f])=_;rw [SP,MP];rfl
set_option maxHeartbeats 2000000 in
theorem Rp(db:Nat)(m:DX)(r:RF)(R:HP)(hok:m.ok)(hf:B4 r.f)(hk35:3≤r.f.kind∧r.f.kind≤5)(hmd:HI r)[hr:Ad B R r.b r.o r.f.ranges]:
  Fn Tryz.prog B 139 [ptr db 0,.agg (AM r).toArray] (BM db m*R) (fun v H'=>∃m':DX,m'.ok∧m'.d=(m.d.add r.f).getD m.d∧v=.bool (m.d.add r.f).isSome∧H'=BM db m'*R):=by
 refine mI Tryz.func139 ?_;refine Ai (H':=HP.AA db 0 (Gd m)*(AB m.a.b m.a.o m.d.b m.a.s*(AB m.f.b m.f.o m.rs m.f.s*R))) (by unfold BM;ac_rfl) ?_;have hbl:=hok.len;have hrm:=hok.room;have hrl:=hok.rl;refine K' ?_;rintro _ _ ⟨b3,rfl,rfl⟩;refine J4 ?_;refine Dx (HP.AA b3 0 (AM r)*(HP.AA db 0 (Gd m)*(AB m.a.b m.a.o m.d.b m.a.s*(AB m.f.b m.f.o m.rs m.f.s*R)))) 5 7 Dy rfl Cb ?_;refine IN ?_;refine JT 4 rfl SN ?_;refine EI (H':=AB m.a.b m.a.o m.d.b m.a.s*(HP.AA b3 0 (AM r)*(HP.AA db 0 (Gd m)*(AB m.f.b m.f.o m.rs m.f.s*R)))) Cf ?_;refine Am 5 Cb rfl rfl (BJ rfl (UH r m.a.p m.a.b m.a.o m.a.c m.d.b m.a.s _ hmd inferInstance hok.a.1 hok.a.2 Ca Yd hk35 hf)) ?_;rintro _ _ ⟨p11,b11,o11,c11,s11,Q11,rfl,hs11,hc11,rfl,hk11⟩;refine DW ?_;refine EV 6 Cb rfl rfl Fg ED ?_;refine JD ?_;refine CB ?_;refine LC ?_;refine mC (fun h18=>?_) (fun h18=>?_)
 ·refine J7 ?_
  have hnone:m.d.add r.f=none:=by unfold BV.add;rw [if_pos h18]
  obtain⟨s2,DD,hl2,he2⟩:=hk11 s11 rfl;refine Dg (H':=DD*(HP.AA b3 0 (AM r)*(HP.AA db 0 (Gd m)*(AB m.a.b m.a.o m.d.b s2*(AB m.f.b m.f.o m.rs m.f.s*R))))) ?_ ?_
  ·have e3:AB b11 o11 (m.d.b++Ah r.f) s11*(Q11*(HP.AA b3 0 (AM r)*(HP.AA db 0 (Gd m)*(AB m.f.b m.f.o m.rs m.f.s*R))))=(AB b11 o11 (m.d.b++Ah r.f) s11*Q11)*(HP.AA b3 0 (AM r)*(HP.AA db 0 (Gd m)*(AB m.f.b m.f.o m.rs m.f.s*R))):=by ac_rfl
   first
    |(rw [e3,he2];ac_rfl)
    |(refine Eq.trans Cf (Eq.trans e3 ?_);rw [he2];ac_rfl)
  exact mR [4] (BM db {m with a:={m.a with s:=s2}}*R) (hE:=⟨fun ww hw=>Sat.right (A:=DD*HP.AA b3 0 (AM r)) (Eq.mp (by congr 1;unfold BM;show _=DD*HP.AA b3 0 (AM r)*(HP.AA db 0 (Gd m)*(AB m.a.b m.a.o m.d.b s2*AB m.f.b m.f.o m.rs m.f.s)*R);ac_rfl) hw)⟩) rfl rfl ⟨{m with a:={m.a with s:=s2}},⟨⟨hok.a.1,by have:=hok.a.2;show _+s2.length=_;rw [hl2];exact this⟩,hok.f,hok.map,hok.room,hok.len⟩,SX,SX,rfl⟩
 refine DP ?_;refine Ai (H':=HP.AA db 0 [.slice p11 (m.d.b++Ah r.f).length c11,.slice m.f.p m.rs.length m.f.c,iN m.d.room,.bool (EC m.d.Aw)]*(AB b11 o11 (m.d.b++Ah r.f) s11*(HP.AA b3 0 (AM r)*(AB m.f.b m.f.o m.rs m.f.s*(Q11*R))))) Cf ?_;refine Dx (HP.AA db 0 [.slice p11 (m.d.b++Ah r.f).length c11,.slice m.f.p m.rs.length m.f.c,iN m.d.room,.bool (EC m.d.Aw)]*(AB b11 o11 (m.d.b++Ah r.f) s11*(HP.AA b3 0 (AM r)*(Q11*R)))) 10 11 Dy rfl Cb ?_;refine LT ?_;refine JT 5 rfl SN ?_;refine Am 6 Cb rfl rfl Zu ?_;rintro _ _ ⟨b29,rfl,rfl⟩;refine A6 ?_;refine EI (H':=AB m.f.b m.f.o m.rs m.f.s*(HP.AA b29 0 (AD [r])*(HP.AA db 0 [.slice p11 (m.d.b++Ah r.f).length c11,.slice m.f.p m.rs.length m.f.c,iN m.d.room,.bool (EC m.d.Aw)]*(AB b11 o11 (m.d.b++Ah r.f) s11*(HP.AA b3 0 (AM r)*(Q11*R)))))) (by show HP.AA b29 0 _*_=_;rw [show AD [r]=AM r from L_ _];ac_rfl) ?_;refine Am 7 Cb rfl rfl (CX (ys:=[r]) (bb:=b29) (oo:=0) (cc:=1) rfl hok.f.1 hok.f.2 rfl CG inferInstance rfl Cn Ca) ?_;rintro _ _ ⟨p30,b30,o30,c30,s30,rfl,hs30,hc30,rfl⟩;refine A6 ?_;refine Jn 8 ?_
 refine PH ?_;refine DB ?_;refine J9 ?_;refine DO 38 rfl (fun hg1=>?_) (fun hg1=>?_)
 ·have hwn:EC m.d.Aw=true:=hg1;refine H3 ?_;refine JL Jp ?_;refine Bt ?_
  have hsome:m.d.add r.f=some {m.d with Aw:=m.d.Aw++[r.f]}:=by unfold BV.add;rw [if_neg h18]
  obtain⟨m2,hm2⟩:∃m2:DX,m2=⟨{m.d with Aw:=m.d.Aw++[r.f]},⟨p11,b11,o11,c11,s11⟩,m.rs++[r],⟨p30,b30,o30,c30,s30⟩⟩:=Bh
  have hb2:m2.d.b=m.d.b++Ah r.f:=by rw [hm2];exact dQ _ _
  have hok2:m2.ok:=by
   refine⟨?_,?_,?_,?_,?_⟩
   ·rw [hb2,hm2];exact⟨hs11,hc11⟩
   ·rw [hm2];exact⟨hs30,hc30⟩
   ·rw [hm2];show(m.rs++[r]).map (·.f)=m.d.Aw++[r.f];rw [P_,hok.map];rfl
   ·rw [hm2];exact hrm
   ·rw [hb2,hm2];show _≤m.d.room;omega
  have hE2:Gd m2=[.slice p11 (m.d.b++Ah r.f).length c11,.slice p30 (m.rs++[r]).length c30,iN m.d.room,.bool (EC m.d.Aw||decide (r.f.kind≠3))]:=by
   unfold Gd;rw [hb2,hm2];dsimp only;rw [Yc]
  refine Dg (H':=HP.AA b3 0 (AM r)*(HP.AA b29 0 (AD [r])*(Q11*(BM db m2*R)))) ?_ ?_
  ·unfold BM;rw [hE2,hb2]
   have e4:m2.a.h (m.d.b++Ah r.f)=AB b11 o11 (m.d.b++Ah r.f) s11:=by rw [hm2]
   have e5:m2.f.h m2.rs=AB b30 o30 (m.rs++[r]) s30:=by rw [hm2]
   rw [e4,e5,hwn]
   try simp only [R!,R_]
   ac_rfl
  exact dX
 have hwn:EC m.d.Aw=false:=hg1;refine Hx ?_;refine JL (UF (j:=3) rfl rfl) ?_;refine JL Ia ?_;refine Bt ?_
 have hsome:m.d.add r.f=some {m.d with Aw:=m.d.Aw++[r.f]}:=by unfold BV.add;rw [if_neg h18]
 obtain⟨m2,hm2⟩:∃m2:DX,m2=⟨{m.d with Aw:=m.d.Aw++[r.f]},⟨p11,b11,o11,c11,s11⟩,m.rs++[r],⟨p30,b30,o30,c30,s30⟩⟩:=Bh
 have hb2:m2.d.b=m.d.b++Ah r.f:=by rw [hm2];exact dQ _ _
 have hok2:m2.ok:=by
  refine⟨?_,?_,?_,?_,?_⟩
  ·rw [hb2,hm2];exact⟨hs11,hc11⟩
  ·rw [hm2];exact⟨hs30,hc30⟩
  ·rw [hm2];show(m.rs++[r]).map (·.f)=m.d.Aw++[r.f];rw [P_,hok.map];rfl
  ·rw [hm2];exact hrm
  ·rw [hb2,hm2];show _≤m.d.room;omega
 have hE2:Gd m2=[.slice p11 (m.d.b++Ah r.f).length c11,.slice p30 (m.rs++[r]).length c30,iN m.d.room,.bool (EC m.d.Aw||decide (r.f.kind≠3))]:=by
  unfold Gd;rw [hb2,hm2];dsimp only;rw [Yc]
 refine Dg (H':=HP.AA b3 0 (AM r)*(HP.AA b29 0 (AD [r])*(Q11*(BM db m2*R)))) ?_ ?_
 ·unfold BM;rw [hE2,hb2]
  have e4:m2.a.h (m.d.b++Ah r.f)=AB b11 o11 (m.d.b++Ah r.f) s11:=by rw [hm2]
  have e5:m2.f.h m2.rs=AB b30 o30 (m.rs++[r]) s30:=by rw [hm2]
  rw [e4,e5,hwn]
  try simp only [R!,R_]
  ac_rfl
 exact dX
end
end Go.Proofs.YtgfdlpcdjklcoaaGreatDoor
