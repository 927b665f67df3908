/- A part of this proof: steps of the program, plain facts; no condition. -/
import Derived.Test.YtgfdlpcdjklcoaaGreatDoorG9
namespace Go.Proofs.YtgfdlpcdjklcoaaGreatDoor
open Go Go.RowKit
open _root_.List renaming length_append→a_,getElem?_eq_getElem→c_,append_nil→f_,getD_eq_getElem?_getD→g_,length_map→g',length_set→i_,length_pos_iff→j_,length_cons→kg,length_drop→kh,mem_map→kj,map_append→kn,append_assoc→kp,mem_append→kq,mem_cons→kr
open _root_.Nat renaming zero_le→b_,le_trans→km,lt_or_ge→ko
open _root_.UInt64 renaming ofNat→d_
open _root_.Option renaming some→e_,getD_some→ki
open _root_.Prod renaming mk→h_
open _root_.Bool renaming false_ne_true→kf,false_or→kt,true_or→ku
set_option linter.unusedVariables false
set_option maxRecDepth 20000
set_option linter.unusedSimpArgs false
section
variable{B:World}
abbrev gB(b5 b2 b3:Nat):Deferred:={target:=.fn (.func 175) [ptr b5 0,ptr b2 0,ptr b3 0].toArray,args:= #[]}
theorem yL(b5 b2 b3:Nat)(H:HP):NO Tryz.prog B 175 [ptr b5 0,ptr b2 0,ptr b3 0] .returning .returning H (fun H'=>H'=H):=by
 refine Xf Tryz.func175 rfl rfl rfl rfl rfl rfl (.inl ⟨rfl,rfl,rfl⟩) fun Q hq=>?_;refine J3 ?_;refine Km ?_;refine mc (fun hc=>?_) (fun hc=>?_)
 ·cases hc
 refine J1 ?_;exact hq _ _ rfl
theorem ay(b5 b2 b3 e5:Nat)(lv ev:Value)(R:HP):NO Tryz.prog B 175 [ptr b5 0,ptr b2 0,ptr b3 0] (.panicking G5) (.panicking [{v:=.iface 320 (.agg #[]),recovered:=true}]) (HP.AA b5 0 [iN e5]*(HP.AA b2 0 [lv]*(HP.AA b3 0 [ev]*R)))
  (fun H'=>∃q,H'=Ev q 5 (iN e5)*(HP.AA b5 0 [iN e5]*(HP.AA b2 0 [.slice none 0 0]*(HP.AA b3 0 [GG q]*R)))):=by
 refine Xf Tryz.func175 rfl rfl rfl rfl rfl rfl (.inr ⟨[],rfl,rfl⟩) fun Q hq=>?_;refine J3 ?_;refine JL OW ?_;refine J2 ?_;refine mc (fun hc=>?_) (fun hc=>?_);rotate_left
 ·cases hc
 refine J4 ?_;refine JL (Ty (v:=.tuple #[.agg #[],.bool true]) rfl (fun w=>by kernel_rfl)) ?_;refine J3 ?_;refine Am (Fj (l:=[]) rfl) rfl ?_;rintro _ _ ⟨b4,rfl,rfl⟩;refine Bv (EO (cs:=[]) rfl rfl BY Ce) ?_;refine Hp ?_;refine JP ?_;refine mc (fun hc=>?_) (fun hc=>?_)
 ·cases hc
 refine J3 ?_;refine D9 ?_;refine JL (FV (cs:=[.int .i64 (5:Nat),iN e5]) rfl rfl rfl Cf) ?_;refine Am (Dn (l:=[.int .i64 (5:Nat),iN e5]) rfl rfl) rfl ?_;rintro _ _ ⟨b19,rfl,rfl⟩;refine JL Hn ?_;refine J3 ?_;exact fun a w h1 h2 h3=>hq _ _ ⟨b19,rfl⟩ a w h1 h2 (by rw [HP.aD]at h3;simp only [HP.BR]at h3;exact h3)
section
variable{n:Nat}{E:A5}{Post:Value→HP→Prop}
theorem R9{b5 b2 b3:Nat}{e5:Nat}{lv ev:Value}{R:HP}(h2:lk E 2=some (ptr b2 0))(h3:lk E 3=some (ptr b3 0))(hp:∀q,Post (.tuple #[.slice none 0 0,GG q]) (Ev q 5 (iN e5)*R)):
  BI B (PC Tryz.prog B Tryz.f144 Post) (.panic G5) n E ⟨[gB b5 b2 b3],none⟩ (HP.AA b5 0 [iN e5]*(HP.AA b2 0 [lv]*(HP.AA b3 0 [ev]*R))):=
 nY (rs:=[.cell 2 92,.cell 3 106]) (ay b5 b2 b3 e5 lv ev R) rfl rfl (fun H' ⟨q,e⟩=>⟨[.slice none 0 0,GG q],Ev q 5 (iN e5)*R,e▸Io (Pp h2 trivial) (Io (Pp h3 trivial) KE),hp q,e▸inferInstance⟩)
theorem rO{b5 b2 b3:Nat}{lv ev:Value}{H R:HP}(h2:lk E 2=some (ptr b2 0))(h3:lk E 3=some (ptr b3 0))[hr2:Rd B H b2 0 lv True][hr3:Rd B H b3 0 ev True][hE:Bz B H R](hp:Post (.tuple #[lv,ev]) R):
  BI B (PC Tryz.prog B Tryz.f144 Post) .ret n E ⟨[gB b5 b2 b3],none⟩ H:=
 y6 (rs:=[.cell 2 92,.cell 3 106]) (yL b5 b2 b3 H) rfl rfl (fun H' e=>⟨[lv,ev],R,e▸Io (Pp h2 trivial) (Io (Pp h3 trivial) KE),hp,e▸hE⟩)
end
theorem lQ{xs:List UInt8}{k a a':Nat}{fin:Bool}{f:AM}(h:CR xs k fin a=some (f,a')):f.ranges.length≤xs.length∧f.data.size≤xs.length:=by
 unfold CR at h;split at h
 ·simp only [e_.injEq,h_.injEq]at h;obtain⟨rfl,-⟩:=h;exact⟨b_ _,b_ _⟩
 split at h
 ·simp only [e_.injEq,h_.injEq]at h;obtain⟨rfl,-⟩:=h;exact⟨b_ _,b_ _⟩
 split at h
 ·split at h
  ·rename_i e;simp only [e_.injEq,h_.injEq]at h;obtain⟨rfl,-⟩:=h;exact⟨(Zp e).2.2.2,b_ _⟩
  ·cases h
 split at h
 ·split at h
  ·split at h
   ·split at h
    ·simp only [e_.injEq,h_.injEq]at h;obtain⟨rfl,-⟩:=h;exact⟨b_ _,b_ _⟩
    ·cases h
   ·cases h
  ·cases h
 split at h
 ·split at h
  ·split at h
   ·split at h
    ·rename_i e3;simp only [e_.injEq,h_.injEq]at h;obtain⟨rfl,-⟩:=h;exact⟨b_ _,by have:=(UB e3).2.2;simpa using this⟩
    ·cases h
   ·cases h
  ·cases h
 split at h
 ·split at h
  ·simp only [e_.injEq,h_.injEq]at h;obtain⟨rfl,-⟩:=h;exact⟨b_ _,b_ _⟩
  ·cases h
 ·cases h
theorem Y_{xs:List UInt8}{k a a':Nat}{fin:Bool}{f:AM}(h:CR xs k fin a=some (f,a')):f.kind=k:=by
 unfold CR at h;split at h
 ·simp only [e_.injEq,h_.injEq]at h;obtain⟨rfl,-⟩:=h;rename_i hk;rw [hk];rfl
 split at h
 ·simp only [e_.injEq,h_.injEq]at h;obtain⟨rfl,-⟩:=h;rename_i hk;rw [hk];rfl
 split at h
 ·rename_i hk;split at h
  ·simp only [e_.injEq,h_.injEq]at h;obtain⟨rfl,-⟩:=h;rw [hk];rfl
  ·cases h
 split at h
 ·rename_i hk;split at h
  ·split at h
   ·split at h
    ·simp only [e_.injEq,h_.injEq]at h;obtain⟨rfl,-⟩:=h;rw [hk];rfl
    ·cases h
   ·cases h
  ·cases h
 split at h
 ·rename_i hk;split at h
  ·split at h
   ·split at h
    ·simp only [e_.injEq,h_.injEq]at h;obtain⟨rfl,-⟩:=h;rw [hk];rfl
    ·cases h
   ·cases h
  ·cases h
 split at h
 ·rename_i hk;split at h
  ·simp only [e_.injEq,h_.injEq]at h;obtain⟨rfl,-⟩:=h;rw [hk];rfl
  ·cases h
 ·cases h
theorem r8{xs:List UInt8}{a:Nat}(h:FE (xs.getD a 0)=0):GU xs a=none:=by
 unfold GU CR;rw [h];rfl
structure YO where
 a:Nat
 av:Nat
 p:Option Addr
 b:Nat
 o:Nat
 c:Nat
 s:List Value
 rs:List RF
def MK(l:List AM):Except Nat (List AM)→Except Nat (List AM)
 | .ok m=>.ok (l++m)
 | .error e=>.error e
theorem wW(x:Except Nat (List AM)):MK [] x=x:=by cases x<;>rfl
theorem wA(l:List AM)(f:AM)(x:Except Nat (List AM)):MK l (match x with| .ok m=>.ok (f::m)| .error e=>.error e)=MK (l++[f]) x:=by
 cases x with
 |ok m=>simp [MK]
 |error e=>rfl
theorem fp(p:Option Addr)(b o c:Nat)(xs:List UInt8)(R:HP)(hs:Sl p b o xs.length c)(hr:Ai B R b o xs)(hx:xs.length<10000000000):
  Fn Tryz.prog B 144 [.slice p xs.length c] R (fun v H'=>match FN xs with
   | .error e=>∃q,v=.tuple #[.slice none 0 0,GG q]∧H'=Ev q 5 (iN e)*R
   | .ok fs=>∃sv,v=.tuple #[sv,.nilIface]∧Of R fs sv H'):=by
 refine Z_ Tryz.func144 rfl rfl rfl ?_;refine J2 ?_;refine Am (Fj (l:=[.slice none 0 0]) rfl) rfl ?_;rintro _ _ ⟨b2,rfl,rfl⟩;refine Am (Fj (l:=[.nilIface]) rfl) rfl ?_;rintro _ _ ⟨b3,rfl,rfl⟩;refine J5 ?_;refine JL (FV (cs:=[.slice p xs.length c,iN 0]) rfl rfl rfl Cf) ?_;refine Am (Dn (l:=[.slice p xs.length c,iN 0]) rfl rfl) rfl ?_;rintro _ _ ⟨b13,rfl,rfl⟩;refine J5 ?_;refine Am (Fj (l:=[iN 0]) rfl) rfl ?_;rintro _ _ ⟨b5,rfl,rfl⟩;refine Bv (Ez (v:=iN 0) rfl rfl rfl trivial) ?_;refine Fg ?_;refine JL GW ?_;refine gp rfl ?_;refine J4 ?_;refine Au (H':=CK b13 p c xs 0*(HP.AA b5 0 [iN 0]*(HP.AA b2 0 [.slice none 0 0]*(HP.AA b3 0 [.nilIface]*(R))))) (by unfold CK;ac_rfl) ?_;refine J3 ?_;refine KZ ?_;refine mC (fun h0=>?_) (fun h0=>?_)
 ·refine J2 ?_;refine Dw VO rfl ?_ ?_;rotate_left
  ·refine JR ?_;refine FX ?_;refine Bo (HP.AA b5 0 [iN 0]*(HP.AA b2 0 [.slice none 0 0]*(HP.AA b3 0 [.nilIface]*R))) ?_;exact R9 rfl rfl (fun q=>(by rw [FN,if_pos (List.length_eq_zero_iff.1 h0)];exact Nq))
  exact JV
 refine J4 ?_
 refine Bj (α:=YO) (fun z=>[(0,.slice p xs.length c),(2,ptr b2 0),(3,ptr b3 0),(4,ptr b13 0),(5,ptr b5 0)]) (fun z=>CK b13 p c xs z.a*(HP.AA b5 0 [iN z.av]*(HP.AA b2 0 [.slice z.p z.rs.length z.c]*(HP.AA b3 0 [.nilIface]*(AB z.b z.o z.rs z.s*(CG z.rs*R)))))) (fun z=>z.a≤xs.length∧z.rs.length≤z.a∧Sl z.p z.b z.o z.rs.length z.c∧z.rs.length*7+z.s.length=z.c*7∧(∀r∈z.rs,r.ok∧r.own)∧FN xs=MK (z.rs.map (·.f)) (Fq xs z.a)) (fun z=>xs.length-z.a) ⟨0,0,none,0,0,0,[],[]⟩ ⟨b_ _,b_ _,Gi,rfl,(fun r h=>by simp at h),by rw [FN,if_neg (fun h=>h0 P7)];exact(wW _).symm⟩ HZ (by show _=CK b13 p c xs 0*(HP.AA b5 0 [iN 0]*(HP.AA b2 0 [.slice none 0 0]*(HP.AA b3 0 [.nilIface]*(AB 0 0 ([]:List RF) []*(CG []*R)))));rw [G7,SV,HP.BR,HP.BR]) ?_
 rintro z ⟨hza,hzl,hzs,hzc,hzo,hdec⟩;refine J6 ?_;refine D9 ?_;refine J5 ?_;refine mC (fun hlt=>?_) (fun hlt=>?_)
 ·refine J8 ?_;refine D9 ?_;refine J6 ?_;refine Dw (G1 rfl (RL 1 Ca b13 p b o c xs z.a _ hs inferInstance Ca hza)) rfl ?_ ?_;rotate_left
  ·rintro _ _ ⟨h1,rfl,rfl⟩;refine Jb ?_;refine FX ?_;exact absurd h1 Ca
  rintro _ _ ⟨h1,rfl,rfl⟩;refine JL (Hf (i:=0) (b:=b) (o:=o+z.a*1) (q:=o+z.a*1) rfl rfl (Pw hs Ca) Ca Ca) ?_;refine JL (Vb (i:=z.a) (xs:=xs) rfl inferInstance Ca) ?_;refine J6 ?_;refine mE rfl (zC (xs.getD z.a 0) _) ?_;refine JR ?_;refine HI ?_;refine mC (fun hk0=>?_) (fun hk0=>?_)
  ·refine J2 ?_;refine Dw VO rfl ?_ ?_;rotate_left
   ·refine JR ?_;refine Jb ?_;refine FX ?_;refine VN ?_;exact R9 rfl rfl (fun q=>(by have hd:=hdec;rw [Tf hlt (r8 (Classical.not_not.1 hk0))]at hd;rw [hd];exact Nq))
   exact JV
  have hk1:FE (xs.getD z.a 0)≠0:=Classical.not_not.1 hk0;refine J6 ?_;refine JL (CN (i:=(xs.getD z.a 0).toNat) (j:=9) rfl rfl) ?_;refine JL (FV (cs:=AQ (r0 (FE (xs.getD z.a 0)) (decide ((xs.getD z.a 0).toNat=9)))) rfl rfl rfl Cf) ?_;refine Am eH rfl ?_;rintro _ _ ⟨b9,rfl,rfl⟩;refine Bv (EO (cs:=AQ (r0 (FE (xs.getD z.a 0)) (decide ((xs.getD z.a 0).toNat=9)))) rfl rfl Ch Cf) ?_;refine Kc ?_;refine mE rfl (UC (FE (xs.getD z.a 0)) (zU _ hk1) _) ?_;rintro _ _ ⟨bc,f1,us1,f2,us2,f3,us3,C,hF0,rfl,rfl⟩;refine J8 ?_;refine Kw ?_;refine BQ (H':=CK b13 p c xs (z.a+1)*(HP.AA b9 0 (AQ (r0 (FE (xs.getD z.a 0)) (decide ((xs.getD z.a 0).toNat=9))))*(C*(C9 bc f1 f2 f3 us1 us2 us3*(HP.AA b5 0 [iN z.a]*(HP.AA b2 0 [.slice z.p z.rs.length z.c]*(HP.AA b3 0 [.nilIface]*(AB z.b z.o z.rs z.s*(CG z.rs*R))))))))) Cg ?_;have hcr:=xB (B:=B) hF0 b13 b9 (decide ((xs.getD z.a 0).toNat=9)) p b o c xs (z.a+1) (C9 bc f1 f2 f3 us1 us2 us3*(HP.AA b5 0 [iN z.a]*(HP.AA b2 0 [.slice z.p z.rs.length z.c]*(HP.AA b3 0 [.nilIface]*(AB z.b z.o z.rs z.s*(CG z.rs*R)))))) hs inferInstance Ca Ca;have hc2:=hcr.1;refine Dw (fx rfl rfl hcr.2) rfl ?_ ?_
  rotate_left
  ·rintro _ _ ⟨hrk,rfl,rfl⟩;refine Jb ?_;refine FX ?_;have hnine:decide ((xs.getD z.a 0).toNat=9)=decide (xs.getD z.a 0=9):=decide_eq_decide.2 ⟨fun h=>UInt8.toNat_inj.1 h,fun h=>by rw [h];rfl⟩;rw [hnine]at hrk;refine VN ?_;exact R9 rfl rfl (fun q=>(by have hd:=hdec;rw [Tf hlt (by unfold GU;rw [hrk])]at hd;rw [hd];exact Nq))
  rintro _ _ ⟨r,a55,hrk,hrok,hrown,rfl⟩;have hkind:=Y_ hrk;have hrsz:=lQ hrk
  have hmod:Hg r:=⟨hrok,Ca,Ca⟩
  have hnine:decide ((xs.getD z.a 0).toNat=9)=decide (xs.getD z.a 0=9):=decide_eq_decide.2 ⟨fun h=>UInt8.toNat_inj.1 h,fun h=>by rw [h];rfl⟩;rw [hnine]at hrk;refine J6 ?_;refine BQ (H':=HP.AA b9 0 (AQ r)*(C*(C9 bc f1 f2 f3 us1 us2 us3*(GJ r*(CK b13 p c xs a55*(HP.AA b5 0 [iN z.a]*(HP.AA b2 0 [.slice z.p z.rs.length z.c]*(HP.AA b3 0 [.nilIface]*(AB z.b z.o z.rs z.s*(CG z.rs*R)))))))))) Cg ?_;have hF1:FK r.f.kind f1 us1 f2 us2 f3 us3 C:=hkind▸hF0
  have hro:Ai B (GJ r*(CK b13 p c xs a55*(HP.AA b5 0 [iN z.a]*(HP.AA b2 0 [.slice z.p z.rs.length z.c]*(HP.AA b3 0 [.nilIface]*(AB z.b z.o z.rs z.s*(CG z.rs*R))))))) r.b r.o r.f.ranges:=(inferInstance:Ai B (AB r.b r.o r.f.ranges r.s*(CK b13 p c xs a55*(HP.AA b5 0 [iN z.a]*(HP.AA b2 0 [.slice z.p z.rs.length z.c]*(HP.AA b3 0 [.nilIface]*(AB z.b z.o z.rs z.s*(CG z.rs*R))))))) r.b r.o r.f.ranges)
  refine mE rfl (eO r b9 bc f1 f2 f3 us1 us2 us3 C _ hF1 hF1.U7 rfl hmod hro) ?_;refine Gr ?_;refine mC (fun hok0=>?_) (fun hok0=>?_)
  ·refine J2 ?_;refine Dw VO rfl ?_ ?_;rotate_left
   ·refine JR ?_;refine Jb ?_;refine FX ?_;refine VN ?_;exact R9 rfl rfl (fun q=>(by have hd:=hdec;rw [Tf hlt (by unfold GU;rw [hrk];exact if_neg hok0)]at hd;rw [hd];exact Nq))
   exact JV
  have hokf:CA r.f:=Classical.not_not.1 hok0
  have hF:GU xs z.a=some (r.f,a55):=by unfold GU;rw [hrk];exact if_pos hokf
  have hf3:=XA hF hlt;refine J3 ?_;refine Kw ?_;refine Am Xx rfl ?_;rintro _ _ ⟨b63,rfl,rfl⟩;refine BQ (H':=AB z.b z.o z.rs z.s*(HP.AA b63 0 (AG [r])*(HP.AA b9 0 (AQ r)*(C*(C9 bc f1 f2 f3 us1 us2 us3*(GJ r*(CK b13 p c xs a55*(HP.AA b5 0 [iN z.a]*(HP.AA b2 0 [.slice z.p z.rs.length z.c]*(HP.AA b3 0 [.nilIface]*(CG z.rs*R))))))))))) (by show HP.AA b63 0 (AG [r])*_=_;ac_rfl) ?_;refine Am (DG (ys:=[r]) (bb:=b63) (oo:=0) (cc:=1) rfl hzs hzc rfl CS inferInstance rfl Cn Ca) rfl ?_;rintro _ _ ⟨p64,b64,o64,c64,s64,rfl,hs64,hc64,rfl⟩;refine J1 ?_;refine BQ (H':=CK b13 p c xs a55*(HP.AA b5 0 [iN z.a]*(HP.AA b2 0 [.slice p64 (z.rs++[r]).length c64]*(HP.AA b3 0 [.nilIface]*(AB b64 o64 (z.rs++[r]) s64*(CG (z.rs++[r])*R)))))*(HP.AA b63 0 (AG [r])*(HP.AA b9 0 (AQ r)*(C*C9 bc f1 f2 f3 us1 us2 us3)))) (by rw [oS,Pz,SV,HP.Ge];ac_rfl) ?_;refine J2 ?_;refine Bo (CK b13 p c xs a55*(HP.AA b5 0 [iN z.a]*(HP.AA b2 0 [.slice p64 (z.rs++[r]).length c64]*(HP.AA b3 0 [.nilIface]*(AB b64 o64 (z.rs++[r]) s64*(CG (z.rs++[r])*R)))))) ?_
  exact Ba (⟨a55,z.a,p64,b64,o64,c64,s64,z.rs++[r]⟩:YO) ⟨hf3.2.1,by show(z.rs++[r]).length≤a55;rw [a_,List.length_singleton];omega,hs64,hc64,(by
   intro r' hr'
   rcases kq.1 hr' with h|h
   ·exact hzo r' h
   ·rw [List.mem_singleton.1 h];exact⟨hrok,hrown⟩),by rw [hdec,fD hlt hF];show _=MK ((z.rs++[r]).map (·.f)) _;rw [kn];exact wA _ _ _⟩ (by show xs.length-a55<xs.length-z.a;omega) HZ rfl
 refine J7 ?_;refine D9 ?_;refine J5 ?_
 exact rO (R:=AB z.b z.o z.rs z.s*(CG z.rs*R)) rfl rfl (by
  have hd:=hdec
  rw [Xt hlt]at hd
  rw [hd]
  show ∃sv,_∧Of R (z.rs.map (·.f)++[]) sv _
  rw [f_]
  exact⟨_,rfl,z.p,z.b,z.o,z.c,z.s,z.rs,by rw [g'],by rw [g'];exact hzs,by rw [g'];exact hzc,rfl,hzo,rfl⟩)
end
section
variable{B:World}
def MD(e:Nat)(at_:Int)(H:HP)(v:Value)(H':HP):Prop:=
 (at_= -1∧v=D5 e∧H'=H)∨(∃q a:Nat,at_=a∧e=5∧v=GG q∧H'=Ev q 5 (iN a)*H)
theorem AY.O! {t:Nat}{c:AD}(h:AY t c){n:Nat}(hn:n<4611686018427387904):AY t {c with AI:=c.AI.add n n}:=
 have hg:=h.AI.add n n hn (by rw [h.gm];omega)
 {h with AI:=hg.1,gm:=hg.2.trans h.gm}
theorem xF{xs:List UInt8}{a a':Nat}{rs:List AT}(h:GO xs a=some (rs,a')):rs.length≤xs.length:=by
 unfold GO at h;split at h
 ·rename_i hi a1 e1;split at h
  ·rename_i n a2 e2;split at h
   ·rename_i size a3 e3;split at h
    ·split at h
     ·rename_i rs' a4 e4;cases h;have h1:=EK e1;have h3:=EK e3;have h4:=YF e4 h3.2.2;simp only [kg];omega
     ·cases h
    ·cases h
   ·cases h
  ·cases h
 ·cases h
theorem vU{xs:List UInt8}{k:Nat}{fin:Bool}{a a':Nat}{f:AM}(h:CR xs k fin a=some (f,a')):f.ranges.length≤xs.length:=by
 unfold CR at h;split at h
 ·cases h;exact b_ _
 split at h
 ·cases h;exact b_ _
 split at h
 ·split at h
  ·rename_i rs a1 e;cases h;exact xF e
  ·cases h
 split at h
 ·split at h
  ·split at h
   ·split at h
    ·cases h;exact b_ _
    ·cases h
   ·cases h
  ·cases h
 split at h
 ·split at h
  ·split at h
   ·split at h
    ·cases h;exact b_ _
    ·cases h
   ·cases h
  ·cases h
 split at h
 ·split at h
  ·cases h;exact b_ _
  ·cases h
 ·cases h
theorem xU(xs:List UInt8):∀(fuel a:Nat) (fs:List AM),xs.length-a≤fuel→Fq xs a=.ok fs→fs.length≤xs.length-a∧∀f∈fs,f.ranges.length≤xs.length:=by
 intro fuel
 induction fuel with
 |zero=>
  intro a fs hl h;rw [Fq,if_neg Ca]at h;cases h;exact⟨b_ _,fun f hf=>nomatch hf⟩
 |succ n ih=>
  intro a fs hl h;rw [Fq]at h;split at h
  ·split at h
   ·rename_i f a' e;split at h
    ·rename_i hcc;split at h
     ·rename_i l e2;cases h;obtain⟨i1,i2⟩:=ih a' l Ca e2;refine⟨by simp only [kg];omega,fun g hg=>?_⟩;rcases kr.1 hg with rfl|hg
      ·unfold GU at e;split at e
       ·rename_i f2 a2 e3;split at e
        ·cases e;exact vU e3
        ·cases e
       ·cases e
      ·exact i2 g hg
     ·cases h
    ·cases h
   ·cases h
  ·cases h;exact⟨b_ _,fun f hf=>nomatch hf⟩
theorem yA{xs:List UInt8}{fs:List AM}(h:FN xs=.ok fs):fs.length≤xs.length∧∀f∈fs,f.ranges.length≤xs.length:=by
 unfold FN at h;split at h
 ·cases h
 ·have:=xU xs _ 0 fs CW h
  exact⟨Ca,this.2⟩
theorem OH{ks:List UInt8}{side:UInt8}{xs ys:List UInt8}{n:UInt64}(h:B3 ks side xs=some (n,ys)):ys.length≤xs.length∧xs.length≤300∧n.toNat<4611686018427387904:=by
 unfold B3 at h;split at h
 ·cases h
 ·rename_i h1;split at h
  ·cases h
  ·rename_i h2;cases h;refine⟨?_,Ca,Ca⟩
   have e:(DQ ks side (be xs 8) (Fp xs)).length=(Fp xs).length:=by rw [DQ,Kh _ _ XT,NI]
   rw [e];unfold Fp;rw [kh,List.length_take];omega
instance rowC2(cb:Nat)(x:CC):H6 (AX cb x) cb (0+19) (AG x.ks++[u8 (Ae (!x.first))]) (HP.AA cb (0+0) [iN x.AJ,iN x.AF]*(HP.AA cb (0+2) (AG x.ks++[u8 (Ae x.first)])*(HP.AA cb (0+36) [uN x.now]*
 (HP.AA cb (0+37) [iN x.closed]*(HP.AA cb (0+38) [uN x.code]*(HP.AA cb (0+39) [.bool x.said]*(HP.AA cb (0+40) [uN x.next]*(HP.AA cb (0+41) [ptr x.gq 0]*(HP.AA cb (0+42) [.bool x.answer]*
 (HP.AA cb (0+119) [x.fv]*(HP.AA cb (0+120) [x.lv]*(HP.AA cb (0+121) [uN x.BF]*HP.AA cb (0+122) [uN x.waits])))))))))))):=⟨by unfold AX;ac_rfl⟩
instance rowC1(cb:Nat)(x:CC):H6 (AX cb x) cb (0+2) (AG x.ks++[u8 (Ae x.first)]) (HP.AA cb (0+0) [iN x.AJ,iN x.AF]*(HP.AA cb (0+19) (AG x.ks++[u8 (Ae (!x.first))])*(HP.AA cb (0+36) [uN x.now]*
 (HP.AA cb (0+37) [iN x.closed]*(HP.AA cb (0+38) [uN x.code]*(HP.AA cb (0+39) [.bool x.said]*(HP.AA cb (0+40) [uN x.next]*(HP.AA cb (0+41) [ptr x.gq 0]*(HP.AA cb (0+42) [.bool x.answer]*
 (HP.AA cb (0+119) [x.fv]*(HP.AA cb (0+120) [x.lv]*(HP.AA cb (0+121) [uN x.BF]*HP.AA cb (0+122) [uN x.waits])))))))))))):=⟨by unfold AX;ac_rfl⟩
set_option maxHeartbeats 4000000 in
theorem M_(cb t:Nat)(m:Aj)(xs:List UInt8)(p:Option Addr)(b o c:Nat)(R:HP)(hm:m.ok)(hi:AY t m.s)(ht:t<1000000)(hs:Sl p b o xs.length c)(hr:Ai B R b o xs)(hx:xs.length<90000000)(hop:B3 m.x.ks (Ae (!m.x.first)) xs=none):
  Fn Tryz.prog B 94 [ptr cb 0,.slice p xs.length c] (Ac cb m*R) (fun v H'=>∃m':Aj,m'.ok∧m'.s=(m.s.BA xs).2∧MD (m.s.BA xs).1.1 (m.s.BA xs).1.2 (Ac cb m'*R) v H'):=by
 refine mI Tryz.func94 ?_;refine Au Nz ?_;have hks:m.x.ks.length=16:=hi.ks;refine Pb ?_;refine mC (fun h20=>?_) (fun h20=>?_)
 ·have h20:m.s.closed≠0:=h20;refine J2 ?_;refine JL Nn ?_;refine J5 ?_
  have ewr:m.s.BA xs=((9,-1),m.s):=by unfold AD.BA;rw [if_pos h20]
  exact M6
 have h20:¬m.s.closed≠0:=h20;refine J7 ?_;refine JL cZ ?_;refine J1 ?_;refine mE rfl (Z4 hks p b o c _ hs inferInstance hx hop) ?_;refine JR ?_;refine HI ?_;refine KF ?_;refine J3 ?_;refine mc (fun hc=>?_) (fun hc=>?_);rotate_left
 ·cases hc
 refine J2 ?_;refine JL (Li (v:=.int .i64 (4:Nat)) Cb rfl) ?_;refine J6 ?_
 have ewr:m.s.BA xs=((4,-1),m.s):=by unfold AD.BA;rw [if_neg h20];rw [show B3 m.s.ks (Ae (!m.s.first)) xs=none from hop]
 exact M6
set_option maxHeartbeats 4000000 in
theorem W? (cb t:Nat)(m:Aj)(xs:List UInt8)(p:Option Addr)(b o c:Nat)(R:HP)(hm:m.ok)(hi:AY t m.s)(ht:t<1000000)(hs:Sl p b o xs.length c)(hr:Ai B R b o xs)(hx:xs.length<90000000)(n:UInt64)(ys:List UInt8)(hop:B3 m.x.ks (Ae (!m.x.first)) xs=some (n,ys))(a:Nat)(hdec:FN ys=.error a):
  Fn Tryz.prog B 94 [ptr cb 0,.slice p xs.length c] (Ac cb m*R) (fun v H'=>∃m':Aj,m'.ok∧m'.s=(m.s.BA xs).2∧MD (m.s.BA xs).1.1 (m.s.BA xs).1.2 (Ac cb m'*R) v H'):=by
 refine mI Tryz.func94 ?_;refine Au Nz ?_;have hks:m.x.ks.length=16:=hi.ks;refine Pb ?_;refine mC (fun h20=>?_) (fun h20=>?_)
 ·have h20:m.s.closed≠0:=h20;refine J2 ?_;refine JL Nn ?_;refine J5 ?_
  have ewr:m.s.BA xs=((9,-1),m.s):=by unfold AD.BA;rw [if_pos h20]
  exact M6
 have h20:¬m.s.closed≠0:=h20;refine dM ?_;rintro _ _ ⟨q28,b28,o28,c28,s28,rfl,hq28,hc28,rfl⟩;obtain⟨hyl,hx300,hn62⟩:=OH hop;refine HI ?_;refine KF ?_;refine J3 ?_;refine mc (fun hc=>?_) (fun hc=>?_)
 ·cases hc
 refine J7 ?_;refine Xo ?_;refine Gr ?_;refine mC (fun h36=>?_) (fun h36=>?_)
 ·have h36:m.s.AI.has n.toNat:=h36;refine J8 ?_
  have ewr:m.s.BA xs=((0,-1),m.s):=by unfold AD.BA;rw [if_neg h20];rw [show B3 m.s.ks (Ae (!m.s.first)) xs=some (n,ys)from hop];dsimp only;rw [if_pos h36]
  exact M6
 have h36:¬m.s.AI.has n.toNat:=h36;refine Zi ?_;intro v45 H45 h45;rw [hdec]at h45;obtain⟨q45,rfl,rfl⟩:=h45;refine B1 ?_;refine JL OW ?_;refine J2 ?_;refine mc (fun hc=>?_) (fun hc=>?_);rotate_left
 ·cases hc
 refine J6 ?_;refine Bv (Ez (v:=.int .i64 (5:Nat)) rfl rfl rfl Cd) ?_;refine JR ?_;refine J2 ?_;refine Bv (Ez (v:=.int .u64 (5:Nat)) rfl rfl rfl Cd) ?_;refine JR ?_;refine CL ?_
 have ewr:m.s.BA xs=((5,(a:Int)),{m.s with closed:=5,code:=5}):=by unfold AD.BA;rw [if_neg h20];rw [show B3 m.s.ks (Ae (!m.s.first)) xs=some (n,ys)from hop];dsimp only;rw [if_neg h36,hdec]
 exact mR [4] (Ev q45 5 (iN a)*(Ac cb (m.Aq {m.x with closed:=5,code:=5})*R)) (hE:=by rw [Df];exact⟨fun ww hw=>Sat.right (A:=AB b28 o28 ys s28) (Eq.mp (by congr 1;show _=AB b28 o28 ys s28*(Ev q45 5 (iN a)*(AX cb {m.x with closed:=5,code:=5}*(AZ m.x.gq m.ga m.AI*(BB cb m.ws*(Be cb m.rs*(DS m*R))))));ac_rfl) hw)⟩) rfl rfl ⟨m.Aq {m.x with closed:=5,code:=5},⟨hm.g,hm.ws,hm.rs,hm.fl,hm.lo,hm.fa,hm.la,hm.fv,hm.lv⟩,Cr,by rw [ewr];exact .inr ⟨q45,a,rfl,rfl,rfl,rfl⟩⟩
theorem nS{c c':AD}{g:AM}(b:∀k,Fk (c.r k) (c'.r k))(e:c'.AF=c.AF)(h:¬c.busy g):¬c'.busy g:=by
 rintro⟨k1,k2,k3⟩;refine h ⟨k1,?_,?_⟩
 ·cases e2:(c.r g.stream.toNat).given
  ·rfl
  ·have:=(b g.stream.toNat).given e2
   rw [this]at k2;cases k2
 ·rw [(b g.stream.toNat).read,e]at k3;exact k3
set_option maxHeartbeats 4000000 in
theorem zZ(cb t:Nat)(m:Aj)(xs:List UInt8)(p:Option Addr)(b o c:Nat)(R:HP)(hm:m.ok)(hi:AY t m.s)(ht:t<1000000)(hs:Sl p b o xs.length c)(hr:Ai B R b o xs)(hx:xs.length<90000000)(n:UInt64)(ys:List UInt8)(hop:B3 m.x.ks (Ae (!m.x.first)) xs=some (n,ys))(fs:List AM)(hdec:FN ys=.ok fs):
  Fn Tryz.prog B 94 [ptr cb 0,.slice p xs.length c] (Ac cb m*R) (fun v H'=>∃m':Aj,m'.ok∧m'.s=(m.s.BA xs).2∧MD (m.s.BA xs).1.1 (m.s.BA xs).1.2 (Ac cb m'*R) v H'):=by
 refine mI Tryz.func94 ?_;refine Au Nz ?_;have hks:m.x.ks.length=16:=hi.ks;refine Pb ?_;refine mC (fun h20=>?_) (fun h20=>?_)
 ·have h20:m.s.closed≠0:=h20;refine J2 ?_;refine JL Nn ?_;refine J5 ?_
  have ewr:m.s.BA xs=((9,-1),m.s):=by unfold AD.BA;rw [if_pos h20]
  exact M6
 have h20:¬m.s.closed≠0:=h20;refine dM ?_;rintro _ _ ⟨q28,b28,o28,c28,s28,rfl,hq28,hc28,rfl⟩;obtain⟨hyl,hx300,hn62⟩:=OH hop;refine HI ?_;refine KF ?_;refine J3 ?_;refine mc (fun hc=>?_) (fun hc=>?_)
 ·cases hc
 refine J7 ?_;refine Xo ?_;refine Gr ?_;refine mC (fun h36=>?_) (fun h36=>?_)
 ·have h36:m.s.AI.has n.toNat:=h36;refine J8 ?_
  have ewr:m.s.BA xs=((0,-1),m.s):=by unfold AD.BA;rw [if_neg h20];rw [show B3 m.s.ks (Ae (!m.s.first)) xs=some (n,ys)from hop];dsimp only;rw [if_pos h36]
  exact M6
 have h36:¬m.s.AI.has n.toNat:=h36;refine Zi ?_;intro v45 H45 h45;rw [hdec]at h45;obtain⟨sv,rfl,p45,b45,o45,c45,s45,rs,rfl,hs45,hc45,hmap,hro,rfl⟩:=h45
 have hrl:rs.length=fs.length:=by rw [←hmap,g']
 obtain⟨hdl1,hdl2⟩:=yA hdec;refine B1 ?_;refine Km ?_;refine mc (fun hc=>?_) (fun hc=>?_)
 ·cases hc
 refine J7 ?_;refine HQ ?_;refine Bj (α:=Nat) (fun i=>[(58,iN fs.length),(59,iN i),(57,.slice p45 fs.length c45),(0,ptr cb 0),(5,u64 n),(8,.slice p45 fs.length c45)]) (fun i=>AB b45 o45 rs s45*(CG rs*(AB b28 o28 ys s28*(Ac cb m*R)))) (fun i=>i≤fs.length∧∀k,k<i→¬m.s.busy (rs.getD k AC.AK).f) (fun i=>fs.length-i) 0 ⟨b_ _,(fun k h=>absurd h (Nat.not_lt_zero k))⟩ GE (by rw [Df]) ?_;rintro i ⟨hi1,hi2⟩;refine J6 ?_;refine mC (fun h60=>?_) (fun h60=>?_)
 ·have hgd:rs.getD i AC.AK∈rs:=JX Ca
  have hff:(rs.getD i AC.AK).f∈fs:=by rw [←hmap];exact kj.2 ⟨_,hgd,rfl⟩
  have hfin:=Jj.of (UN hdec _ hff)
  obtain⟨j,hst⟩:∃j:Nat,(rs.getD i AC.AK).f.stream=(j:Int):=⟨_,(Int.toNat_of_nonneg hfin.1).symm⟩
  have hj:j<4:=by have:=hfin.2.1;omega
  have hjl:j<m.rs.length:=by rw [Aj.PZ hi];exact hj
  have hrok:=Aj.TU hi hj;have hwn:m.x.AF≤1024:=hi.w2;have hfo:=hfin.2.2.2.1;have hfe:=hfin.2.2.2.2.1;have hrt:=hrok.rt
  have erj:m.s.r (rs.getD i AC.AK).f.stream.toNat=(m.rs.getD j AC.AK).r:=by rw [hst,Int.toNat_natCast];exact m.Qf j hjl
  refine Au (H':=AB b45 o45 rs s45*(CG rs*(AB b28 o28 ys s28*(AX cb m.x*(HP.AA cb (0+83+j*9) (Di (m.rs.getD j AC.AK))*(CQ (m.rs.getD j AC.AK)*(Eb cb m.rs j*(Et m cb*R)))))))) (by rw [MS cb m R j hjl]) ?_;generalize hrm:m.rs.getD j AC.AK=rm at*;refine iR ?_;rintro _ _ ⟨b11,rfl,rfl⟩;refine Bv bB ?_;refine Gr ?_;refine mA 7 7 ?_;refine GZ ?_;refine P5 ?_;refine Ja 6 ?_;refine Dm ?_;refine DF (α:=Unit) (fun _=>[(99,.bool (decide (m.s.busy (rs.getD i AC.AK).f))),(58,iN fs.length),(59,iN i),(57,.slice p45 fs.length c45),(0,ptr cb 0),(5,u64 n),(8,.slice p45 fs.length c45)]) (fun _=>HP.AA b11 0 (AQ (rs.getD i AC.AK))*(AB b45 o45 rs s45*(CG rs*(AB b28 o28 ys s28*(AX cb m.x*(HP.AA cb (0+83+j*9) (Di rm)*(CQ rm*(Eb cb m.rs j*(Et m cb*R))))))))) (fun _=>True) ?_ ?_
  ·refine mA 31 31 ?_;refine Jy ?_;refine JT 2 rfl SZ ?_;refine Jm 3 ?_;refine Gv 72 rfl (fun hg1=>?_) (fun hg1=>?_)
   ·have hk5:(rs.getD i AC.AK).f.kind=5:=hg1;have hfe5:=hfe hk5;refine JY 4 rfl T1 Bd ?_;refine JY 5 rfl T1 CT ?_;refine JY 6 rfl T1 BW ?_;refine JY 7 rfl T1 Bg ?_;refine JY 8 rfl T1 LQ ?_;refine JT 9 rfl GM ?_;refine Jm 10 ?_;refine LO 79 rfl (fun hg2=>?_) (fun hg2=>?_)
    ·skip
     have hgv:rm.r.given=false:=by simpa using hg2
     refine JY 11 rfl hg2 BW ?_;refine JY 12 rfl hg2 Bg ?_;refine JY 13 rfl hg2 BW ?_;refine JY 14 rfl hg2 Bg ?_;refine JY 15 rfl hg2 Gf ?_;refine JY 16 rfl hg2 Fy ?_;refine JY 17 rfl hg2 Kp ?_;refine JY 18 rfl hg2 Bd ?_;refine JY 19 rfl hg2 CT ?_;refine JY 20 rfl hg2 BW ?_;refine JY 21 rfl hg2 Bg ?_;refine JY 22 rfl hg2 Bd ?_;refine JY 23 rfl hg2 CT ?_;refine JY 24 rfl hg2 BW ?_;refine JY 25 rfl hg2 BW ?_;refine JY 26 rfl hg2 Bg ?_;refine JY 27 rfl hg2 Fy ?_;refine JY 28 rfl hg2 Kp ?_;refine JY 29 rfl hg2 IG ?_;refine JT 30 rfl OC ?_;refine JD ?_;refine BJ () trivial (.cons ?_ GE) rfl;refine FJ ?_;congr 2
     have hbd:m.s.busy (rs.getD i AC.AK).f↔(rs.getD i AC.AK).f.kind=5∧rm.r.given=false∧rm.r.read+m.x.AF<(rs.getD i AC.AK).f.offset+(rs.getD i AC.AK).f.data.size:=by unfold AD.busy;rw [erj];exact Iff.rfl
     first
      |exact decide_eq_decide.2 ⟨fun h=>hbd.2 ⟨hk5,hgv,h⟩,fun h=>(hbd.1 h).2.2⟩
      |exact(decide_eq_false (fun h=>kf ((hbd.1 h).2.1.symm.trans hgv))).symm
      |exact(decide_eq_false (fun h=>hk5 (hbd.1 h).1)).symm
    have hgv:rm.r.given=true:=by simpa using hg2
    refine JN 11 rfl hg2 ?_;refine JN 12 rfl hg2 ?_;refine JN 13 rfl hg2 ?_;refine JN 14 rfl hg2 ?_;refine JN 15 rfl hg2 ?_;refine JN 16 rfl hg2 ?_;refine JN 17 rfl hg2 ?_;refine JN 18 rfl hg2 ?_;refine JN 19 rfl hg2 ?_;refine JN 20 rfl hg2 ?_;refine JN 21 rfl hg2 ?_;refine JN 22 rfl hg2 ?_;refine JN 23 rfl hg2 ?_;refine JN 24 rfl hg2 ?_;refine JN 25 rfl hg2 ?_;refine JN 26 rfl hg2 ?_;refine JN 27 rfl hg2 ?_;refine JN 28 rfl hg2 ?_;refine JN 29 rfl hg2 ?_;refine JT 30 rfl Ni ?_;refine JD ?_;refine BJ () trivial (.cons ?_ GE) rfl;refine FJ ?_;congr 2
    have hbd:m.s.busy (rs.getD i AC.AK).f↔(rs.getD i AC.AK).f.kind=5∧rm.r.given=false∧rm.r.read+m.x.AF<(rs.getD i AC.AK).f.offset+(rs.getD i AC.AK).f.data.size:=by unfold AD.busy;rw [erj];exact Iff.rfl
    first
     |exact decide_eq_decide.2 ⟨fun h=>hbd.2 ⟨hk5,hgv,h⟩,fun h=>(hbd.1 h).2.2⟩
     |exact(decide_eq_false (fun h=>kf ((hbd.1 h).2.1.symm.trans hgv))).symm
     |exact(decide_eq_false (fun h=>hk5 (hbd.1 h).1)).symm
   have hk5:¬(rs.getD i AC.AK).f.kind=5:=hg1;refine JN 4 rfl F1 ?_;refine JN 5 rfl F1 ?_;refine JN 6 rfl F1 ?_;refine JN 7 rfl F1 ?_;refine JN 8 rfl F1 ?_;refine JT 9 rfl E9 ?_;refine jK ?_;refine Zq ?_;refine Ek 26 rfl Cb rfl rfl rfl rfl ?_;refine Ek 27 rfl Cb rfl rfl rfl rfl ?_;refine Ek 28 rfl Cb rfl rfl rfl rfl ?_;refine Ek 29 rfl Cb rfl rfl rfl rfl ?_;refine JT 30 rfl EB ?_;refine JD ?_
   refine BJ () trivial (.cons ?_ GE) rfl;refine FJ ?_;congr 2
   have hbd:m.s.busy (rs.getD i AC.AK).f↔(rs.getD i AC.AK).f.kind=5∧rm.r.given=false∧rm.r.read+m.x.AF<(rs.getD i AC.AK).f.offset+(rs.getD i AC.AK).f.data.size:=by unfold AD.busy;rw [erj];exact Iff.rfl
   first
    |exact decide_eq_decide.2 ⟨fun h=>hbd.2 ⟨hk5,hgv,h⟩,fun h=>(hbd.1 h).2.2⟩
    |exact(decide_eq_false (fun h=>kf ((hbd.1 h).2.1.symm.trans hgv))).symm
    |exact(decide_eq_false (fun h=>hk5 (hbd.1 h).1)).symm
  ·rintro _ _;refine J1 ?_;refine mC (fun h99=>?_) (fun h99=>?_)
   ·refine J2 ?_;refine JL (Li (v:=.int .i64 (6:Nat)) Cb rfl) ?_;refine J9 ?_
    have ewr:m.s.BA xs=((6,-1),m.s):=by
     unfold AD.BA;rw [if_neg h20];rw [show B3 m.s.ks (Ae (!m.s.first)) xs=some (n,ys)from hop];dsimp only;rw [if_neg h36,hdec];dsimp only;rw [if_pos ⟨_,hff,h99⟩]
    exact mR [4] (Ac cb m*R) (hE:=⟨fun ww hw=>Sat.right (A:=HP.AA b11 0 (AQ (rs.getD i AC.AK))*(AB b45 o45 rs s45*(CG rs*AB b28 o28 ys s28))) (Eq.mp cJ hw)⟩) rfl rfl ⟨m,hm,Ct,Uu⟩
   refine Ic ?_;refine Bo (AB b45 o45 rs s45*(CG rs*(AB b28 o28 ys s28*(Ac cb m*R)))) (hE:=⟨fun ww hw=>Sat.right (A:=HP.AA b11 0 (AQ (rs.getD i AC.AK))) (Eq.mp (by congr 1;rw [MS cb m R j hjl,hrm]<;>ac_rfl) hw)⟩) ?_;exact Ba (i+1) ⟨Ca,fun k hk=>by rcases ko k i with h|h;exact hi2 k h;obtain rfl:k=i:=Ca;exact h99⟩ Ca GE rfl
 refine J6 ?_
 have hnb:∀f∈fs,¬m.s.busy f:=by
  intro f hf;rw [←hmap]at hf;obtain⟨r,hr',rfl⟩:=kj.1 hf;obtain⟨k,hk,rfl⟩:=List.getElem_of_mem hr'
  have:=hi2 k Ca
  rw [g_,c_ hk,ki]at this;exact this
 refine Au (H':=AZ m.x.gq m.ga m.AI*(AX cb m.x*(BB cb m.ws*(Be cb m.rs*(DS m*(AB b45 o45 rs s45*(CG rs*(AB b28 o28 ys s28*(R))))))))) (by rw [Df];ac_rfl) ?_;refine J7 ?_;refine mE rfl (KX m.x.gq n.toNat n.toNat 4611686018427387904 m.ga m.AI _ hm.g hi.AI Ca Ca (by have h7:m.AI.AL=8:=hi.gm;omega) (by have h7:m.AI.AL=8:=hi.gm;omega)) ?_;rintro _ _ ⟨a108,hs108,rfl⟩;refine J4 ?_
 obtain⟨m1,hm1⟩:∃m1:Aj,m1={m with AI:=m.AI.add n.toNat n.toNat,ga:=a108}:=Bl
 have hok1:m1.ok:=by rw [hm1];exact⟨hs108,hm.ws,hm.rs,hm.fl,hm.lo,hm.fa,hm.la,hm.fv,hm.lv⟩
 have hs1:m1.s={m.s with AI:=m.s.AI.add n.toNat n.toNat}:=by rw [hm1];rfl
 have hi1':AY t m1.s:=by rw [hs1];exact hi.O! hn62
 have hnb1:∀f∈fs,¬m1.s.busy f:=by rw [hs1];exact hnb
 have hnbx:¬∃f∈fs,m.s.busy f:=fun⟨f,hf,hb⟩=>hnb f hf hb
 have erc:m.s.BA xs=(((m1.s.BO fs).1,-1),(m1.s.BO fs).2):=by
  unfold AD.BA;rw [if_neg h20];rw [show B3 m.s.ks (Ae (!m.s.first)) xs=some (n,ys)from hop];dsimp only;rw [if_neg h36,hdec];dsimp only;rw [if_neg hnbx,hs1]
 refine Au (H':=AB b45 o45 rs s45*(CG rs*(AB b28 o28 ys s28*(Ac cb m1*R)))) (by rw [Df,hm1];show _=AB b45 o45 rs s45*(CG rs*(AB b28 o28 ys s28*(AX cb m.x*(AZ m.x.gq a108 (m.AI.add n.toNat n.toNat)*(BB cb m.ws*(Be cb m.rs*(DS m*R)))))));ac_rfl) ?_;refine J3 ?_;refine HQ ?_;refine Bj (α:=Nat×Aj) (fun z=>[(110,iN fs.length),(111,iN z.1),(109,.slice p45 fs.length c45),(0,ptr cb 0),(5,u64 n),(8,.slice p45 fs.length c45)]) (fun z=>AB b45 o45 rs s45*(CG rs*(AB b28 o28 ys s28*(Ac cb z.2*R)))) (fun z=>z.1≤fs.length∧z.2.ok∧AY t z.2.s∧z.2.s.BO (fs.drop z.1)=m1.s.BO fs∧∀f∈fs.drop z.1,¬z.2.s.busy f) (fun z=>fs.length-z.1) (0,m1) ⟨b_ _,hok1,hi1',rfl,hnb1⟩ GE rfl ?_;rintro⟨i,mi⟩ ⟨q1,q2,q3,q4,q5⟩;dsimp only at q1 q2 q3 q4 q5⊢;refine J6 ?_;refine mC (fun h112=>?_) (fun h112=>?_)
 ·have hgd:rs.getD i AC.AK∈rs:=JX Ca
  have hff:(rs.getD i AC.AK).f∈fs:=by rw [←hmap];exact kj.2 ⟨_,hgd,rfl⟩
  have hfin:=Jj.of (UN hdec _ hff)
  obtain⟨j,hst⟩:∃j:Nat,(rs.getD i AC.AK).f.stream=(j:Int):=⟨_,(Int.toNat_of_nonneg hfin.1).symm⟩
  have hj:j<4:=by have:=hfin.2.1;omega
  have Gb:fs.drop i=(rs.getD i AC.AK).f::fs.drop (i+1):=by
   have h7:i<fs.length:=h112;rw [List.drop_eq_getElem_cons h7];congr 1
   have h8:fs[i]?=(rs.map RF.f)[i]?:=by rw [hmap]
   rw [c_ h7,List.getElem?_map,c_ Ca]at h8;rw [g_,c_ Ca];simpa using h8
  have hbi:=q5 (rs.getD i AC.AK).f (by rw [Gb];simp);have hci:=q3.take (rs.getD i AC.AK).f hfin hbi;have howr:=ZM (B:=B) hgd;have hrl2:=hdl2 _ hff;refine iR ?_;rintro _ _ ⟨b14,rfl,rfl⟩;refine Bv bB ?_;refine Hp ?_;refine JL (D6 (l:=AQ (rs.getD i AC.AK)) rfl rfl) ?_;refine BQ (H':=Ac cb mi*(HP.AA b14 0 (AQ (rs.getD i AC.AK))*(AB b45 o45 rs s45*(CG rs*(AB b28 o28 ys s28*(R)))))) Cg ?_;refine mE rfl (zG cb t mi (rs.getD i AC.AK) _ q2 q3 ht hfin hbi (hro _ hgd).1 inferInstance Ca) ?_;rintro _ _ ⟨m2,hm2,hs2,rfl,rfl⟩;have hte:=TJ (c:=mi.s) (rs.getD i AC.AK).f;refine J6 ?_;refine JL Rm ?_;refine J2 ?_;refine mC (fun h119=>?_) (fun h119=>?_)
  ·refine J1 ?_;refine Au (H':=AX cb m2.x*(AZ m2.x.gq m2.ga m2.AI*(BB cb m2.ws*(Be cb m2.rs*(DS m2*(HP.AA b14 0 (AQ (rs.getD i AC.AK))*(AB b45 o45 rs s45*(CG rs*(AB b28 o28 ys s28*(R)))))))))) (by rw [Df]) ?_;refine J5 ?_;refine JL Fy ?_;refine DV ?_;refine JL (CN (j:=10) rfl rfl) ?_;refine J8 ?_;refine JL Hn ?_;refine CL ?_
   have ewr:m.s.BA xs=(((mi.s.take (rs.getD i AC.AK).f).1,-1),(mi.s.take (rs.getD i AC.AK).f).2.shut (mi.s.take (rs.getD i AC.AK).f).1):=by
    rw [erc,←q4,Gb,AD.BO,if_pos h119]
   exact mR [4] (Ac cb (m2.Aq {m2.x with closed:=(mi.s.take (rs.getD i AC.AK).f).1,code:=(mi.s.take (rs.getD i AC.AK).f).1,said:=decide ((mi.s.take (rs.getD i AC.AK).f).1=10)})*R) (hE:=by rw [Df];exact⟨fun ww hw=>Sat.right (A:=HP.AA b14 0 (AQ (rs.getD i AC.AK))*(AB b45 o45 rs s45*(CG rs*AB b28 o28 ys s28))) (Eq.mp (by congr 1;show _=HP.AA b14 0 (AQ (rs.getD i AC.AK))*(AB b45 o45 rs s45*(CG rs*AB b28 o28 ys s28))*(AX cb {m2.x with closed:=(mi.s.take (rs.getD i AC.AK).f).1,code:=(mi.s.take (rs.getD i AC.AK).f).1,said:=decide ((mi.s.take (rs.getD i AC.AK).f).1=10)}*(AZ m2.x.gq m2.ga m2.AI*(BB cb m2.ws*(Be cb m2.rs*(DS m2*R)))));ac_rfl) hw)⟩) rfl rfl ⟨m2.Aq {m2.x with closed:=(mi.s.take (rs.getD i AC.AK).f).1,code:=(mi.s.take (rs.getD i AC.AK).f).1,said:=decide ((mi.s.take (rs.getD i AC.AK).f).1=10)},⟨hm2.g,hm2.ws,hm2.rs,hm2.fl,hm2.lo,hm2.fa,hm2.la,hm2.fv,hm2.lv⟩,by rw [ewr,←hs2];rfl,by rw [ewr];exact .inl ⟨rfl,by rw [WW h119];rfl,rfl⟩⟩
  refine J2 ?_;refine aZ ?_;refine DF (α:=Aj) (fun _=>[(110,iN fs.length),(111,iN i),(109,.slice p45 fs.length c45),(0,ptr cb 0),(5,u64 n),(8,.slice p45 fs.length c45)]) (fun m3=>Ac cb m3*(HP.AA b14 0 (AQ (rs.getD i AC.AK))*(AB b45 o45 rs s45*(CG rs*(AB b28 o28 ys s28*(R)))))) (fun m3=>m3.ok∧m3.s={(mi.s.take (rs.getD i AC.AK).f).2 with answer:=(mi.s.take (rs.getD i AC.AK).f).2.answer||(decide ((rs.getD i AC.AK).f.kind≠3)&&decide ((rs.getD i AC.AK).f.kind≠1))}) ?_ ?_
  ·refine aZ ?_;refine J7 ?_;refine DU 141 rfl (fun hg3=>?_) (fun hg3=>?_)
   ·have ha:m2.x.answer=true:=hg3;refine SJ ?_;refine IP ?_;refine HJ ?_;refine HJ ?_;refine HJ ?_;refine IP ?_;refine JL Rp ?_;refine J4 ?_
    obtain⟨an,han⟩:∃an:Bool,an=(m2.x.answer||(decide ((rs.getD i AC.AK).f.kind≠3)&&decide ((rs.getD i AC.AK).f.kind≠1))):=Bl
    refine D2 (H':=Ac cb (m2.Aq {m2.x with answer:=an})*(HP.AA b14 0 (AQ (rs.getD i AC.AK))*(AB b45 o45 rs s45*(CG rs*(AB b28 o28 ys s28*(R)))))) ?_ ?_
    ·rw [Df];show AX cb {m2.x with answer:=_}*_=AX cb {m2.x with answer:=an}*_;rw [han];refine congrArg (fun bb:Bool=>AX cb {m2.x with answer:=bb}*_) ?_
     first
      |(rw [ha];rfl)
      |(rw [ha,decide_eq_true hk3];rfl)
      |(rw [ha,decide_eq_false hk3];rfl)
    exact U6
   have ha:m2.x.answer=false:=hg3;refine PP ?_;refine JL (WF (j:=3) rfl rfl) ?_;refine GF ?_;refine J1 ?_;refine EV 145 rfl (fun hg4=>?_) (fun hg4=>?_)
   ·have hk3:(rs.getD i AC.AK).f.kind≠3:=hg4;refine JG T4 ?_;refine J1 ?_;refine JG T4 ?_;refine J1 ?_;refine JG T4 ?_;refine JL (WF (j:=1) rfl rfl) ?_;refine GF ?_;refine JL VK ?_;refine JL LB ?_;refine J4 ?_
    obtain⟨an,han⟩:∃an:Bool,an=(m2.x.answer||(decide ((rs.getD i AC.AK).f.kind≠3)&&decide ((rs.getD i AC.AK).f.kind≠1))):=Bl
    refine D2 (H':=Ac cb (m2.Aq {m2.x with answer:=an})*(HP.AA b14 0 (AQ (rs.getD i AC.AK))*(AB b45 o45 rs s45*(CG rs*(AB b28 o28 ys s28*(R)))))) ?_ ?_
    ·rw [Df];show AX cb {m2.x with answer:=_}*_=AX cb {m2.x with answer:=an}*_;rw [han];refine congrArg (fun bb:Bool=>AX cb {m2.x with answer:=bb}*_) ?_
     first
      |(rw [ha];rfl)
      |(rw [ha,decide_eq_true hk3];rfl)
      |(rw [ha,decide_eq_false hk3];rfl)
    exact U6
   have hk3:¬(rs.getD i AC.AK).f.kind≠3:=hg4;refine JH F4 ?_;refine JH F4 ?_;refine JH F4 ?_;refine GF ?_;refine JL Su ?_;refine JL LB ?_;refine J4 ?_
   obtain⟨an,han⟩:∃an:Bool,an=(m2.x.answer||(decide ((rs.getD i AC.AK).f.kind≠3)&&decide ((rs.getD i AC.AK).f.kind≠1))):=Bl
   refine D2 (H':=Ac cb (m2.Aq {m2.x with answer:=an})*(HP.AA b14 0 (AQ (rs.getD i AC.AK))*(AB b45 o45 rs s45*(CG rs*(AB b28 o28 ys s28*(R)))))) ?_ ?_
   ·rw [Df];show AX cb {m2.x with answer:=_}*_=AX cb {m2.x with answer:=an}*_;rw [han];refine congrArg (fun bb:Bool=>AX cb {m2.x with answer:=bb}*_) ?_
    first
     |(rw [ha];rfl)
     |(rw [ha,decide_eq_true hk3];rfl)
     |(rw [ha,decide_eq_false hk3];rfl)
   exact U6
  ·rintro m3 ⟨hok3,hs3⟩;refine J3 ?_;refine D7 ?_;refine Bo (AB b45 o45 rs s45*(CG rs*(AB b28 o28 ys s28*(Ac cb m3*R)))) (hE:=⟨fun ww hw=>Sat.right (A:=HP.AA b14 0 (AQ (rs.getD i AC.AK))) (Eq.mp Co hw)⟩) ?_
   exact Ba (i+1,m3) ⟨Ca,hok3,by rw [hs3];exact {hci.1 with},by
    rw [←q4,Gb,AD.BO,if_neg Ca,hs3],fun f hf=>by
    rw [hs3]
    exact nS (c:=mi.s) hci.2.1 hci.2.2 (q5 f (by rw [Gb];exact List.mem_cons_of_mem _ hf))⟩ kX GE rfl
 refine B1 ?_
 have ewr:m.s.BA xs=((0,-1),mi.s):=by
  rw [erc,←q4,List.drop_eq_nil_of_le Ca];rfl
 exact mR [4] (Ac cb mi*R) (hE:=⟨fun ww hw=>Sat.right (A:=AB b45 o45 rs s45*(CG rs*AB b28 o28 ys s28)) (Eq.mp Co hw)⟩) rfl rfl ⟨mi,q2,Ct,Uu⟩
theorem xQ(cb t:Nat)(m:Aj)(xs:List UInt8)(p:Option Addr)(b o c:Nat)(R:HP)(hm:m.ok)(hi:AY t m.s)(ht:t<1000000)(hs:Sl p b o xs.length c)(hr:Ai B R b o xs)(hx:xs.length<90000000):
  Fn Tryz.prog B 94 [ptr cb 0,.slice p xs.length c] (Ac cb m*R) (fun v H'=>∃m':Aj,m'.ok∧m'.s=(m.s.BA xs).2∧MD (m.s.BA xs).1.1 (m.s.BA xs).1.2 (Ac cb m'*R) v H'):=by
 cases hop:B3 m.x.ks (Ae (!m.x.first)) xs with
 |none=>exact M_ cb t m xs p b o c R hm hi ht hs hr hx hop
 |some ny=>
  obtain⟨n,ys⟩:=ny
  cases hdec:FN ys with
  |error a=>exact W? cb t m xs p b o c R hm hi ht hs hr hx n ys hop a hdec
  |ok fs=>exact zZ cb t m xs p b o c R hm hi ht hs hr hx n ys hop fs hdec
end
section
variable{t:Nat}{n:AH}{L:Nat→List (List AM)}{R:Nat→Nat→Prop}
abbrev A3:Nat→Nat→List UInt8:=fun _ _=>[]
theorem Ad.G3(h:Ad t n L R A3){i:Nat}(hi:i<2){c:AD}{n':AH}{t':Nat}(ht:t≤t'){T':Nat→Nat→List UInt8}(hc:AY t' c)(g:Ds (n.x i) c)
  (hxs:n'.xs=n.xs.set i c)(hel:n'.ends.length=2)(hel4:∀j,j<2→(n'.ends.getD j []).length=4)(hn:n'.AJ=n.AJ∧n'.AF=n.AF∧n'.ks=n.ks∧n'.AN=n.AN∧n'.count=n.count)
  (he:∀k,k<4→Iv (c.w k) ((n.x (1-i)).r k) (n'.e i k) (T' i k))(he':∀k,k<4→n'.e (1-i) k=n.e (1-i) k∧T' (1-i) k=[]):Ad t' n' L R T':=by
 obtain⟨h1,h2,h3,h4,h5⟩:=hn
 have ho:1-i<2:=by omega
 refine h.MG hi ht hxs hel hel4 (by rw [h5];exact h.cl) h1 h2 h3 hc ((h.at hi).G3 (h.c i hi) (h.c _ ho) g) ((h.g i hi).G3 g.AI) ?_ he (fun k hk=>?_) (by rw [h4];exact h.AN) (fun j hj=>by unfold AH.cnt;rw [h5];exact h.cnt j hj) g.ks g.first g.AJ g.AF (by rw [h4];exact h.bl)
 ·have:=h.g _ ho
  rw [show 1-(1-i)=i by omega]at this;exact this
 ·have:=h.e (1-i) k ho hk
  rw [show 1-(1-i)=i by omega]at this;rw [(he' k hk).1,(he' k hk).2,show c.r k=(n.x i).r k by unfold AD.r;rw [g.rs]];exact this
theorem Ad.UZ(h:Ad t n L R A3){i:Nat}(hi:i<2){c:AD}{t':Nat}(ht:t≤t')(hc:AY t' c)(g:Ds (n.x i) c)
  (hs:∀k,Gg ((n.x i).w k) (c.w k)):Ad t' (n.Aq i c) L R A3:=by
 refine h.G3 hi ht hc g rfl h.el h.Dp Gz (fun k hk=>?_) (fun k hk=>BY);have o:=h.e i k hi hk;have s:=hs k
 have hp:(c.w k).A0=((n.x i).w k).A0:=by unfold AR.A0;rw [s.b,(g.w k).2]
 exact Uc
theorem SU{c:AD}(h:c.closed=0){k:Nat}(hk:k<4):c.EP (k:Int)=if(c.w k).finished=true∨(c.w k).given=true then 3 else 0:=by
 unfold AD.EP;rw [if_neg (by rw [Mg h hk];simp)];rfl
theorem Mn{t:Nat}{c:AD}(h:AY t c)(k j:Nat)(w:AR)(hk:k<4):(c.Bm k w).w j=if k=j then w else c.w j:=by
 show(c.ws.set k w).getD j Ab=_;rw [Bs,h.ws.len];by_cases e:k=j
 ·rw [if_pos ⟨e,hk⟩,if_pos e]
 ·rw [if_neg (fun x=>e x.1),if_neg e];rfl
theorem WY(n:AH)(i k:Nat)(o:Du)(he:n.ends.length=2)(h4:∀j,j<2→(n.ends.getD j []).length=4)(hi:i<2)(hk:k<4):
  (n.C4 i k o).ends.length=2∧∀j,j<2→((n.C4 i k o).ends.getD j []).length=4:=by
 refine⟨by show(n.ends.set _ _).length=2;rw [i_];exact he,fun j hj=>?_⟩;show((n.ends.set i ((n.ends.getD i []).set k o)).getD j []).length=4;rw [Bs];split
 ·rw [i_];exact h4 i hi
 ·exact h4 j hj
theorem YX{AF:Nat}{w w':AR}(h:CJ AF w)(h':CJ AF w')(hc:w'.AE=w.AE)(hb:w.b.length≤w'.b.length):w.A0≤w'.A0∧w'.A0≤w.b.length:=by
 refine⟨Rb h.co.inc h'.co.inc h'.co.hi (fun m hm=>by rw [hc];exact hm),?_⟩;rcases ko w.b.length w'.A0 with hlt|hge
 ·have:=h'.Wd hlt
  rw [hc]at this;exact absurd (Qb this h.co.hi) (Nat.lt_irrefl _)
 ·exact hge
theorem Ad.wr(h:Ad t n L R A3){i k:Nat}(hi:i<2)(hk:k<4)(s:ByteArray):(n.wr i k s).1=true∧Ad t (n.wr i k s).2 L R A3:=by
 have h2:=h.at hi;have o:=h.e i k hi hk;have hc:=h.c i hi;have hE:=SU h2.o hk;unfold AH.wr;dsimp only;by_cases hf:(n.e i k).finished=true∨(n.e i k).given=true
 ·rw [if_pos hf]
  have e:(n.x i).write (k:Int) s.data.toList=((0,3),n.x i):=by
   unfold AD.write;rw [o.finished,o.given]at hf;rw [hE,if_pos hf];rfl
  rw [e];exact SX
 ·rw [if_neg hf]
  have e0:(n.x i).EP (k:Int)=0:=by
   rw [o.finished,o.given]at hf;rw [hE,if_neg hf]
  have g:=Ds.write hc (k:Int) s.data.toList;have hc':=hc.write (k:Int) s.data.toList
  have e:(n.x i).write (k:Int) s.data.toList=(((n.x i).G6 k s.size,0),(n.x i).Bm k {(n.x i).w k with b:=((n.x i).w k).b++s.data.toList.take ((n.x i).G6 k s.size)}):=by
   unfold AD.write;rw [if_neg (by rw [e0];simp)];rfl
  rw [e]at g hc'⊢;generalize hN:(n.x i).G6 k s.size=N at g hc'⊢;dsimp only at g hc'⊢
  have hNle:N≤s.size∧N≤(n.x i).AF-(((n.x i).w k).b.length-((n.x i).w k).A0):=by
   unfold AD.G6 at hN;omega
  have hwk:=Mn hc k k {(n.x i).w k with b:=((n.x i).w k).b++s.data.toList.take N} hk;rw [if_pos rfl]at hwk;have w0:CJ _ ((n.x i).w k):=hc.ws.ok k hk;have w1:=hc'.ws.ok k hk
  have w1':CJ (n.x i).AF {(n.x i).w k with b:=((n.x i).w k).b++s.data.toList.take N}:=by rw [←hwk];exact w1
  obtain⟨p1,p2⟩:=YX w0 w1' rfl Pt
  have hwl:(n.e i k).wrote.length=((n.x i).w k).b.length:=by have:=congrArg List.length o.wrote;rw [f_]at this;exact this.symm
  have h1:Ad t (n.Aq i ((n.x i).Bm k {(n.x i).w k with b:=((n.x i).w k).b++s.data.toList.take N})) L R (fun j m=>if j=i∧m=k then s.data.toList.take N else []):=by
   refine h.G3 hi Nc hc' g rfl h.el h.Dp Gz (fun m hm=>?_) (fun m hm=>⟨rfl,by rw [if_neg Ca]⟩);show Iv _ _ (n.e i m) _;rw [Mn hc k m _ hk];by_cases e2:k=m
   ·subst e2;rw [if_pos rfl,if_pos BY];exact⟨Ze,by rw [hwl];exact p2,o.finished,o.given,o.code,o.read,o.state,km o.AE p1⟩
   ·rw [if_neg e2,if_neg (fun x=>e2 x.2.symm)];exact h.e i m hi hm
  obtain⟨a,b,f,q,w,w2⟩:=Ad.CO hi 4 0 _ h1 CW
  have hx1:(n.Aq i ((n.x i).Bm k {(n.x i).w k with b:=((n.x i).w k).b++s.data.toList.take N})).x i=(n.x i).Bm k {(n.x i).w k with b:=((n.x i).w k).b++s.data.toList.take N}:=by
   rw [H2 n i i _ h.xl hi,if_pos rfl]
  have q1:=q i k;rw [if_pos Ug,hx1,hwk]at q1
  obtain⟨q0,q1,hq0⟩:∃q0,(Go.Proofs.YtgfdlpcdjklcoaaGreatDoor.CO i 0 4 (n.Aq i ((n.x i).Bm k {(n.x i).w k with b:=((n.x i).w k).b++s.data.toList.take N}))).2.e i k={n.e i k with AE:=q0}∧((n.x i).w k).A0≤q0:=⟨_,q1,p1⟩
  have hroom:=w0.room;have hwin:=h.AF i hi;rw [q1];dsimp only
  rw [if_neg (by
   rintro(x|x|x|x)
   ·rw [a]at x;cases x
   ·exact x rfl
   ·omega
   ·omega)]
  refine⟨rfl,b.C4 hi hk (T':=A3) (fun j m hjm=>?_) ?_⟩
  ·rw [if_neg (fun x=>hjm ⟨x.1.symm,x.2.symm⟩)]
  ·have ob:=b.e i k hi hk;rw [q1,if_pos BY]at ob;exact⟨by rw [f_];exact ob.wrote,by have:=ob.pre;show _≤((n.e i k).wrote++_).length;rw [a_];exact km this Ms,ob.finished,ob.given,ob.code,ob.read,ob.state,ob.AE⟩
theorem Ad.fin(h:Ad t n L R A3){i k:Nat}(hi:i<2)(hk:k<4):(n.fin i k).1=true∧Ad t (n.fin i k).2 L R A3:=by
 have h2:=h.at hi;have o:=h.e i k hi hk;have hc:=h.c i hi;have hE:=SU h2.o hk;unfold AH.fin;dsimp only;by_cases hf:(n.e i k).finished=true∨(n.e i k).given=true
 ·rw [if_pos hf]
  have e:(n.x i).finish (k:Int)=(3,n.x i):=by
   unfold AD.finish;rw [o.finished,o.given]at hf;rw [hE,if_pos hf];rfl
  rw [e];exact SX
 ·rw [if_neg hf];have g:=Ds.finish hc (k:Int);have hc':=hc.finish (k:Int)
  have e:(n.x i).finish (k:Int)=(0,(n.x i).Bm k {(n.x i).w k with finished:=true}):=by
   unfold AD.finish;rw [o.finished,o.given]at hf;rw [hE,if_neg hf];rfl
  rw [e]at g hc'⊢;obtain⟨l1,l2⟩:=WY (n.Aq i ((n.x i).Bm k {(n.x i).w k with finished:=true})) i k {n.e i k with finished:=true} h.el h.Dp hi hk
  have he:∀j m,((n.Aq i ((n.x i).Bm k {(n.x i).w k with finished:=true})).C4 i k {n.e i k with finished:=true}).e j m=if i=j∧k=m then {n.e i k with finished:=true}else n.e j m:=
   fun j m=>ND _ i k j m _ h.el (h.Dp i hi) hi hk
  refine⟨rfl,h.G3 hi Nc hc' g rfl l1 l2 Gz (fun m hm=>?_) (fun m hm=>⟨by rw [he,if_neg Ca],rfl⟩)⟩;rw [he,Mn hc k m _ hk];by_cases e2:k=m
  ·subst e2;rw [if_pos rfl,if_pos BY];exact⟨o.wrote,o.pre,rfl,o.given,o.code,o.read,o.state,o.AE⟩
  ·rw [if_neg e2,if_neg (fun x=>e2 x.2)];exact h.e i m hi hm
theorem Ad.B'(h:Ad t n L R A3){i k:Nat}(hi:i<2)(hk:k<4){x:Nat}(hx:x<1000):(n.B' i k x).1=true∧Ad t (n.B' i k x).2 L R A3:=by
 have h2:=h.at hi;have o:=h.e i k hi hk;have hc:=h.c i hi;unfold AH.B';dsimp only
 have e0:¬((n.x i).stream (k:Int)≠0):=by rw [Mg h2.o hk];simp
 by_cases hf:(n.e i k).given=true
 ·rw [if_pos hf]
  have e:(n.x i).giveUp (k:Int) x=(3,n.x i):=by
   unfold AD.giveUp;rw [o.given]at hf;rw [if_neg e0,if_pos (.inl hf)]
  rw [e];exact SX
 ·rw [if_neg hf];have g:=Ds.giveUp hc (k:Int) x;have hc':=hc.giveUp (k:Int) x
  have e:(n.x i).giveUp (k:Int) x=(0,(n.x i).Bm k {(n.x i).w k with given:=true,code:=x}):=by
   unfold AD.giveUp;rw [o.given]at hf;rw [if_neg e0,if_neg (by rintro(y|y);exact hf y;omega)];rfl
  rw [e]at g hc'⊢;obtain⟨l1,l2⟩:=WY (n.Aq i ((n.x i).Bm k {(n.x i).w k with given:=true,code:=x})) i k {n.e i k with given:=true,code:=x} h.el h.Dp hi hk
  have he:∀j m,((n.Aq i ((n.x i).Bm k {(n.x i).w k with given:=true,code:=x})).C4 i k {n.e i k with given:=true,code:=x}).e j m=if i=j∧k=m then {n.e i k with given:=true,code:=x}else n.e j m:=
   fun j m=>ND _ i k j m _ h.el (h.Dp i hi) hi hk
  refine⟨rfl,h.G3 hi Nc hc' g rfl l1 l2 Gz (fun m hm=>?_) (fun m hm=>⟨by rw [he,if_neg Ca],rfl⟩)⟩;rw [he,Mn hc k m _ hk];by_cases e2:k=m
  ·subst e2;rw [if_pos rfl,if_pos BY];exact⟨o.wrote,o.pre,o.finished,rfl,fun _=>rfl,o.read,o.state,o.AE⟩
  ·rw [if_neg e2,if_neg (fun x=>e2 x.2)];exact h.e i m hi hm
theorem Up{c:AD}(h:AY t c)(k:Nat):Gg (c.w k) (c.tick.w k):=by
 have h1:AY (t+1) {c with now:=c.now+1}:=
  {h.mono EN with nw:=by have:=h.nw;show c.now+1≤t+1;omega,An:=fun p hp=>let g:=h.An p hp;⟨g.num,Nat.le_succ_of_le g.at_,g.len,g.fr⟩}
 unfold AD.tick;split
 ·exact(NU (({c with now:=c.now+1}:AD).Aa.filter (fun _=>true)) c.ws h1.ws (fun p hp f hf=>(h1.An p Og).fr f hf)).2.1.same k
 ·exact .refl _
theorem Ad.tick(h:Ad t n L R A3):Ad (t+1) n.tick L R A3:=by
 have h0:=h.c 0 Ca;have a:=h.UZ (i:=0) Ca EN h0.tick (.tick h0) (Up h0)
 have e:(n.Aq 0 (n.x 0).tick).x 1=n.x 1:=by rw [H2 n 0 1 _ h.xl Ca,if_neg Ca]
 have h1:=h.c 1 Ca
 have:=a.UZ (i:=1) (c:=(n.x 1).tick) Ca CW h1.tick (by rw [e];exact .tick h1) (by rw [e];exact Up h1)
 exact this
theorem O9(ks:List UInt8)(side:UInt8)(m:UInt64)(xs:List UInt8):(Bk ks side m xs).length=16+xs.length:=by
 rw [Bk,a_,a_,VJ,show(HC ks side m (DQ ks side m xs)).length=8 from rfl,show(EL m).length=8 from rfl];omega
theorem vK{i:Nat}{AJ:Nat}(hm:AJ≤300)(n:AH)(fs:List AM)(Ls:List (List AM))(m:Nat)(hc:n.cnt i=m)(hmt:n.AJ=AJ)(hb:m≤4611686018427387903)(hf:fs≠ []∧(Ar fs).length+16≤AJ):
  B3 n.ks (Ae (decide (i=0))) (Bk n.ks (Ae (decide (i=0))) (d_ m) (Ar fs))=some (d_ m,Ar fs)∧Ar fs≠ []∧
  Fh i (outs n.ks (Ae (decide (i=0))) m (fs::Ls)) n=Fh i (outs n.ks (Ae (decide (i=0))) (m+1) Ls) {n with count:=n.count.set i (m+1),AN:=n.AN++[(1-i,AW (Bk n.ks (Ae (decide (i=0))) (d_ m) (Ar fs)))]}:=by
 obtain⟨a,b⟩:=hf;have ho:=OL n.ks (Ae (decide (i=0))) (d_ m) (Ar fs) (by rw [JQ hb];exact hb) Ca
 have hne:Ar fs≠ []:=fun e=>by
  have h1:=N0 fs;rw [e]at h1;have h2:=j_.2 a;have h1:fs.length≤0:=h1;omega
 refine⟨ho,hne,?_⟩;refine iS ?_;rw [Fh,ho];dsimp only
 rw [JQ hb,hc,if_neg (by
  rintro(x|x|x)
  ·rw [O9]at x;omega
  ·exact x rfl
  ·exact hne x)]
theorem Qn{i:Nat}{ks:List UInt8}{AJ:Nat}(hm:AJ≤300):∀(Ls:List (List AM)) (n:AH) (m:Nat),n.cnt i=m→n.ks=ks→n.AJ=AJ→i<n.count.length→m+Ls.length≤4611686018427387903→(∀fs∈Ls,fs≠ []∧(Ar fs).length+16≤AJ)→
  Fh i (outs ks (Ae (decide (i=0))) m Ls) n=(true,{n with count:=n.count.set i (m+Ls.length),AN:=n.AN++(outs ks (Ae (decide (i=0))) m Ls).map (fun p=>(1-i,AW p))})
 |[],n,m,hc,_,_,hi,_,_=>by
  show(true,n)=(true,_)
  have:n.count.set i (m+0)=n.count:=by
   rw [←hc];unfold AH.cnt;rw [Nat.add_zero,g_,c_ hi,ki,List.set_getElem_self]
  show _=(true,({n with count:=n.count.set i (m+0),AN:=n.AN++[]}:AH));rw [this,f_]
 |fs::Ls,n,m,hc,hk,hmt,hi,hb,hf=>by
  subst hk;obtain⟨a,b⟩:=hf fs Ce;have hb':m+(Ls.length+1)≤4611686018427387903:=hb
  have hmm:m≤4611686018427387903:=by omega
  refine iS ?_;rw [Fh,OL _ _ _ _ (by rw [JQ hmm];exact hmm) Ca];dsimp only
  have hne:Ar fs≠ []:=fun e=>by
   have h1:=N0 fs;rw [e]at h1;have h2:=j_.2 a;have h1:fs.length≤0:=h1;omega
  rw [JQ hmm,hc,if_neg (by
   rintro(x|x|x)
   ·rw [O9]at x;omega
   ·exact x rfl
   ·exact hne x)]
  refine(Qn (i:=i) hm Ls {n with count:=n.count.set i (m+1),AN:=n.AN++[(1-i,AW (Bk n.ks (Ae (decide (i=0))) (d_ m) (Ar fs)))]} (m+1) (by show(n.count.set i (m+1)).getD i 0=_;rw [Bs,if_pos Ot]) rfl hmt (by show i<(n.count.set i _).length;rw [i_];exact hi) Ca (fun gs hgs=>hf gs (by simp [hgs]))).trans ?_;show(true,({n with count:=(n.count.set i (m+1)).set i (m+1+Ls.length),AN:=(n.AN++[_])++_}:AH))=(true,{n with count:=n.count.set i (m+(Ls.length+1)),AN:=n.AN++(_::_)});rw [List.set_set,kp,show m+1+Ls.length=m+(Ls.length+1) by omega];rfl
theorem QY(ks:List UInt8)(side:UInt8):∀(Ls:List (List AM)) (m:Nat),(outs ks side m Ls).length=Ls.length
 |[],m=>rfl
 |fs::Ls,m=>by show(outs ks side (m+1) Ls).length+1=_;rw [QY ks side Ls (m+1)];rfl
theorem Ud{ks:List UInt8}{side:UInt8}:∀(Ls:List (List AM)) (m:Nat) (p:List UInt8),p∈outs ks side m Ls→∃j fs,Ls[j]?=some fs∧p=Bk ks side (d_ (m+j)) (Ar fs)
 |[],m,p,h=>nomatch h
 |fs::Ls,m,p,h=>by
  have h:p∈Bk ks side (d_ m) (Ar fs)::outs ks side (m+1) Ls:=h;rcases kr.1 h with h|h
  ·exact⟨0,fs,rfl,h⟩
  ·obtain⟨j,gs,a,b⟩:=Ud Ls (m+1) p h;exact⟨j+1,gs,a,by rw [b,show m+1+j=m+(j+1) by omega]⟩
theorem Ad.Ws(h:Ad t n L R A3){i:Nat}(hi:i<2):∃Ls,(n.x i).As.1=outs n.ks (Ae (decide (i=0))) (L i).length Ls∧n.AJ≤300∧(L i).length+Ls.length≤20*(t+1)∧∀fs∈Ls,fs≠ []∧(Ar fs).length+16≤n.AJ:=by
 have h2:=h.at hi
 have ho:1-i<2:=by omega
 have hc:=h.c i hi;obtain⟨Ls,a,b,e⟩:=h2.As hc (h.c _ ho) (h.g i hi);have hnx:=hc.As.nx;have hlen:=a.s.len;rw [a_]at hlen;have hm2:=hc.m2;rw [h.AJ i hi]at hm2;rw [h.ks i hi,h.first i hi]at e
 exact⟨Ls,e,hm2,Ca,fun fs hfs=>by
  have:=a.s.ne fs TL
  rw [b.AJ,h.AJ i hi]at this;exact this⟩
theorem Ad.flush(h:Ad t n L R A3){i:Nat}(hi:i<2)(ht:t≤1000000000):(n.flush i).1=true∧∃L',Ad (t+1) (n.flush i).2 L' R A3:=by
 have h2:=h.at hi
 have ho:1-i<2:=by omega
 have hc:=h.c i hi;obtain⟨Ls,a,b,e⟩:=h2.As hc (h.c _ ho) (h.g i hi);have hc':=hc.As;have hnx:=hc'.nx;have hlen:=a.s.len;rw [a_]at hlen;have hm2:=hc.m2;rw [h.AJ i hi]at hm2;unfold AH.flush;rw [e,h.ks i hi,h.first i hi]
 rw [Qn (ks:=n.ks) hm2 Ls (n.Aq i (n.x i).As.2) (L i).length (h.cnt i hi) rfl rfl S1 Ca (fun fs hfs=>by
  have:=a.s.ne fs TL
  rw [b.AJ,h.AJ i hi]at this;exact this)]
 refine⟨rfl,fun j=>if j=i then L i++Ls else L j,?_⟩;have e1:(if i=i then L i++Ls else L i)=L i++Ls:=if_pos rfl;have e2:(if 1-i=i then L i++Ls else L (1-i))=L (1-i):=if_neg Ca;have hg:=h.g i hi;have hg':=h.g _ ho;rw [show 1-(1-i)=i by omega]at hg'
 refine h.MG hi EN (T':=A3) (R':=R) (L':=fun j=>if j=i then L i++Ls else L j) rfl h.el h.Dp ?_ rfl rfl rfl hc' ?_ ?_ ?_ (fun k hk=>?_) (fun k hk=>?_) (fun f hf=>?_) (fun j hj=>?_) b.ks b.first b.AJ b.AF ?_
 ·show(n.count.set i _).length=2;rw [i_];exact h.cl
 ·rw [e1,e2];exact a
 ·rw [e2];exact hg.G3 b.AI
 ·rw [e1,a_];exact⟨hg'.AI,km hg'.fl Ms⟩
 ·have o:=h.e i k hi hk;have s:=b.w k
  have hp:((n.x i).As.2.w k).A0=((n.x i).w k).A0:=by unfold AR.A0;rw [s.b,s.AE]
  exact Uc
 ·have:=h.e (1-i) k ho hk
  rw [show 1-(1-i)=i by omega]at this;rw [show(n.x i).As.2.r k=(n.x i).r k by unfold AD.r;rw [b.rs]];exact this
 ·have hf:f∈n.AN++_:=hf;rcases kq.1 hf with hf|hf
  ·obtain⟨j,m,fs,a1,a2,a3,a4⟩:=h.AN f hf;refine⟨j,m,fs,a1,a2,?_,a4⟩;split
   ·rename_i ej;subst ej
    have hlt:m<(L j).length:=by
     rcases ko m (L j).length with x|x
     ·exact x
     ·rw [List.getElem?_eq_none x]at a3;cases a3
    rw [List.getElem?_append_left hlt];exact a3
   ·exact a3
  ·obtain⟨p,hp,hpe⟩:=kj.1 hf;obtain⟨j,fs,b1,b2⟩:=Ud Ls _ p hp;refine⟨i,(L i).length+j,fs,hi,by rw [←hpe],?_,by rw [←hpe,b2]⟩;rw [if_pos rfl,List.getElem?_append_right Ms,Nat.add_sub_cancel_left];exact b1
 ·show(n.count.set i _).getD j 0=_;rw [Bs,h.cl];by_cases ej:i=j
  ·subst ej;rw [if_pos Ot,if_pos rfl,a_]
  ·rw [if_neg (fun x=>ej x.1),if_neg (fun x=>ej x.symm)];exact h.cnt j hj
 ·refine W0 ?_;rw [a_,g',QY,h.bl];rcases FF hi with rfl|rfl
  ·rw [if_pos rfl,if_neg Ca,a_];omega
  ·rw [if_neg Ca,if_pos rfl,a_];omega
theorem vD(c:AD)(f:AM):(c.take f).2.AJ=c.AJ∧(c.take f).2.ks=c.ks∧(c.take f).2.first=c.first:=by
 unfold AD.take;split
 ·unfold AD.BM;split<;>exact HY
 split
 ·split<;>exact HY
 split
 ·exact HY
 split<;>exact HY
theorem YN:∀(fs:List AM) (c:AD),(c.BO fs).2.AJ=c.AJ∧(c.BO fs).2.ks=c.ks∧(c.BO fs).2.first=c.first
 |[],c=>HY
 |f::fs,c=>by
  obtain⟨a,b,e⟩:=vD c f;rw [AD.BO];split
  ·exact⟨a,b,e⟩
  ·obtain⟨a',b',e'⟩:=YN fs ({(c.take f).2 with answer:=(c.take f).2.answer||(decide (f.kind≠3)&&decide (f.kind≠1))}:AD);exact⟨a'.trans a,b'.trans b,e'.trans e⟩
theorem du(c:AD)(p:List UInt8):(c.BA p).2.AJ=c.AJ∧(c.BA p).2.ks=c.ks∧(c.BA p).2.first=c.first:=by
 unfold AD.BA;split
 ·exact HY
 split
 ·exact HY
 split
 ·exact HY
 split
 ·exact HY
 split
 ·exact HY
 ·exact YN _ _
theorem Ad.recv(h:Ad t n L R A3){f:Nat×ByteArray}(hf:f∈n.AN)(ht:t≤1000000000):f.1<2∧f.2.size≤300∧(((n.x f.1).BA f.2.data.toList).1.1=0∨((n.x f.1).BA f.2.data.toList).1.1=6)∧∃R',Ad t (n.Aq f.1 ((n.x f.1).BA f.2.data.toList).2) L R' A3:=by
 obtain⟨j,m,fs,a1,a2,a3,a4⟩:=h.AN f hf;generalize hi':f.1=i at*
 have hi:i<2:=by omega
 have hj:j=1-i:=by omega
 subst hj
 have ho:1-i<2:=by omega
 have h2:=h.at hi;have hc:=h.c i hi
 have hp:f.2.data.toList=Bk (n.x (1-i)).ks (Ae (n.x (1-i)).first) (d_ m) (Ar fs):=by
  rw [a4,h.ks _ ho,h.first _ ho];exact List.toList_toArray
 obtain⟨R2,b1,b2,b3,b4⟩:=h2.BA hc (h.c _ ho) (h.g i hi) a3 ht;have hc':=hc.BA (Bk (n.x (1-i)).ks (Ae (n.x (1-i)).first) (d_ m) (Ar fs)) (fun n b e=>Nat.le_of_lt_succ (OH e).2.2);have hk:=du (n.x i) (Bk (n.x (1-i)).ks (Ae (n.x (1-i)).first) (d_ m) (Ar fs))
 have hsz:f.2.size≤300:=by
  have h7:=h2.s'.ne fs (List.mem_of_getElem? a3);have h8:=(h.c _ ho).m2;rw [a4,EI,O9];omega
 rw [hp];generalize(n.x i).BA (Bk (n.x (1-i)).ks (Ae (n.x (1-i)).first) (d_ m) (Ar fs))=r at b1 b2 b3 b4 hc' hk⊢;have e1:(if i=1-i then R2 else R i)=R i:=if_neg Ca;have e2:(if 1-i=1-i then R2 else R (1-i))=R2:=if_pos rfl;have hg':=h.g _ ho;rw [show 1-(1-i)=i by omega]at hg'
 have hx:Ad t (n.Aq i r.2) L (fun j=>if j=1-i then R2 else R j) A3:=by
  refine h.MG hi Nc rfl h.el h.Dp h.cl rfl rfl rfl hc' (by rw [e1,e2];exact b2) (by rw [e2];exact b3) (by rw [e1];exact hg') (fun k hk=>?_) (fun k hk=>?_) h.AN h.cnt hk.2.1 hk.2.2 hk.1 b4.Dy h.bl
  ·have o:=h.e i k hi hk;have s:=b4.w.same k;have w1:=hc'.ws.ok k hk;have w0:CJ _ ((n.x i).w k):=hc.ws.ok k hk;have hpm:((n.x i).w k).A0≤(r.2.w k).A0:=Rb w0.co.inc w1.co.inc w1.co.hi (fun p x=>b4.w.AE k p x);have hpl:(r.2.w k).A0≤(r.2.w k).b.length:=w1.NV
   have hwl:((n.x i).w k).b.length=(n.e i k).wrote.length:=by rw [o.wrote,f_]
   exact⟨Z',by show _≤(n.e i k).wrote.length;rw [s.b]at hpl;omega,jN,bJ,Yx,o.read,o.state,km o.AE hpm⟩
  ·have o:=h.e (1-i) k ho hk;rw [show 1-(1-i)=i by omega]at o;have s:=b4.r k;exact⟨o.wrote,o.pre,o.finished,o.given,o.code,o.read.trans s.read.symm,o.state.trans s.state.symm,o.AE⟩
 exact⟨hi,hsz,b1,_,hx⟩
theorem Ad.comes(h:Ad t n L R A3){f:Nat×ByteArray}(hf:f∈n.AN)(ht:t≤1000000000):f.1<2∧(n.comes f.1 f.2).1=true∧∃R',Ad t (n.comes f.1 f.2).2 L R' A3∧(n.comes f.1 f.2).2.AN=n.AN:=by
 obtain⟨hi,_,b1,R',hx⟩:=h.recv hf ht;obtain⟨c1,c2,c3,c4,c5,c6⟩:=Ad.CO hi 4 0 _ hx CW;unfold AH.comes;dsimp only;refine⟨hi,?_,_,c2,c6⟩;rw [c1];simpa using b1
theorem Ad.Qt(h:Ad t n L R A3){i:Nat}(hi:i<2){b:List UInt8}(e:B3 n.ks (Ae (decide (i≠0))) b=none):(n.x i).BA b=((4,-1),n.x i):=by
 have h2:=h.at hi;unfold AD.BA;rw [if_neg (by have:=h2.o;omega),h.ks i hi,h.first i hi,show(!decide (i=0))=decide (i≠0) by rcases FF hi with rfl|rfl<;>rfl,e]
theorem Ad.DO(h:Ad t n L R A3){i:Nat}(hi:i<2)(b:List UInt8):(n.DO i b).1=true∧Ad t (n.DO i b).2 L R A3:=by
 have h2:=h.at hi;have hc:=h.c i hi;unfold AH.DO
 cases e:B3 n.ks (Ae (decide (i≠0))) b with
 |some x=>exact⟨rfl,h⟩
 |none=>
  have e1:=h.Qt hi e;dsimp only;rw [e1];exact SX
theorem Ad.carry(h:Ad t n L R A3)(ht:t≤1000000000)(s:DB):(n.carry s).1=true∧∃R',Ad t (n.carry s).2 L R' A3:=by
 unfold AH.carry;by_cases hb:n.AN=[]
 ·rw [if_pos hb];exact⟨rfl,R,h⟩
 rw [if_neg hb];dsimp only
 have hm:n.AN.getD (AP s.a n.AN.length) (0,⟨#[]⟩)∈n.AN:=by
  have:=Db s.a We
  rw [g_,c_ this,ki];exact List.getElem_mem this
 generalize n.AN.getD (AP s.a n.AN.length) (0,⟨#[]⟩)=f at hm⊢;have hf:f.1<2:=(h.comes hm ht).1;split
 ·obtain⟨_,a,R',b,_⟩:=h.comes hm ht;exact⟨a,R',b⟩
 split
 ·exact⟨(h.DO Ca _).1,R,(h.DO Ca _).2⟩
 split
 ·exact⟨(h.DO hf _).1,R,(h.DO hf _).2⟩
 ·exact⟨rfl,R,h⟩
structure jZ(o:Du)(AL:Nat)(a:List UInt8×Nat×Nat×Nat):Prop where
 e:a.2.2.2=0
 len:a.1.length≤AL
 fits:o.read+a.1.length≤o.wrote.length
 data:(o.wrote.drop o.read).take a.1.length=a.1
 shut:o.state≠0→a.1=[]∧a.2.1=o.state
 open_:a.2.1=0→a.2.2.1=0
 fin:a.2.1=1→o.finished=true∧o.read+a.1.length=o.wrote.length∧a.2.2.1=0
 B':a.2.1=2→o.given=true∧a.2.2.1=o.code
 st:a.2.1≤2
theorem Ad.reads(h:Ad t n L R A3){i k:Nat}(hi:i<2)(hk:k<4)(AL:Nat):jZ (n.e (1-i) k) AL ((n.x i).read k AL).1∧
  Ad (t+1) ((n.Aq i ((n.x i).read k AL).2).C4 (1-i) k {n.e (1-i) k with read:=(n.e (1-i) k).read+((n.x i).read k AL).1.1.length,state:=((n.x i).read k AL).1.2.1}) L R A3:=by
 have h2:=h.at hi;have hc:=h.c i hi
 have ho:1-i<2:=by omega
 have o:=h.e (1-i) k ho hk;rw [show 1-(1-i)=i by omega]at o;obtain⟨a1,a2,a3,a4,a5⟩:=h2.read hc (h.c _ ho) hk AL;have hc':=hc.read (k:Int) (AL:Int)
 have hwin:((n.x i).read (k:Int) (AL:Int)).2.AF=(n.x i).AF∧((n.x i).read (k:Int) (AL:Int)).2.AJ=(n.x i).AJ∧((n.x i).read (k:Int) (AL:Int)).2.ks=(n.x i).ks∧((n.x i).read (k:Int) (AL:Int)).2.first=(n.x i).first:=by
  unfold AD.read;split
  ·exact⟨rfl,rfl,rfl,rfl⟩
  dsimp only;split<;>exact⟨rfl,rfl,rfl,rfl⟩
 have hww:∀j,((n.x i).read (k:Int) (AL:Int)).2.w j=(n.x i).w j:=fun j=>by unfold AD.w;rw [a2]
 generalize(n.x i).read (k:Int) (AL:Int)=r at a1 a2 a3 a4 a5 hc' hwin hww⊢
 have hwb:((n.x (1-i)).w k).b=(n.e (1-i) k).wrote:=by rw [o.wrote,f_]
 have hfit:=a5.fits;have hdat:=a5.data;rw [hwb,←o.read]at hfit hdat
 have hO:Iv ((n.x (1-i)).w k) (r.2.r k) {n.e (1-i) k with read:=(n.e (1-i) k).read+r.1.1.length,state:=r.1.2.1} []:=
  ⟨o.wrote,o.pre,o.finished,o.given,o.code,by rw [a5.read,←o.read],a5.state.symm,o.AE⟩
 refine⟨⟨a5.e,a5.len,hfit,hdat.symm,fun x=>a5.shut (by rw [←o.state];exact x)|>.imp id (fun y=>y.trans o.state.symm),a5.open_,fun e=>?_,fun e=>?_,a5.st⟩,?_⟩
 ·obtain⟨b1,b2,b3⟩:=a5.fin e;refine⟨o.finished.trans b1,?_,b3⟩;rw [←hwb,←b2,a5.read,←o.read]
 ·obtain⟨b1,b2⟩:=a5.B' e;exact⟨o.given.trans b1,b2.trans (o.code (o.given.trans b1)).symm⟩
 ·obtain⟨l1,l2⟩:=WY (n.Aq i r.2) (1-i) k {n.e (1-i) k with read:=(n.e (1-i) k).read+r.1.1.length,state:=r.1.2.1} h.el h.Dp ho hk
  have he:∀j m,((n.Aq i r.2).C4 (1-i) k {n.e (1-i) k with read:=(n.e (1-i) k).read+r.1.1.length,state:=r.1.2.1}).e j m=if 1-i=j∧k=m then {n.e (1-i) k with read:=(n.e (1-i) k).read+r.1.1.length,state:=r.1.2.1}else n.e j m:=
   fun j m=>ND _ (1-i) k j m _ h.el (h.Dp _ ho) ho hk
  have hg':=h.g _ ho;rw [show 1-(1-i)=i by omega]at hg';refine h.MG hi EN (T':=A3) rfl l1 l2 h.cl rfl rfl rfl hc' a1 ((h.g i hi).G3 a3) hg' (fun m hm=>?_) (fun m hm=>?_) h.AN h.cnt hwin.2.2.1 hwin.2.2.2 hwin.2.1 hwin.1 h.bl
  ·rw [he,if_neg Ca,hww];exact h.e i m hi hm
  ·rw [he];by_cases e:k=m
   ·subst e;rw [if_pos BY];exact hO
   ·rw [if_neg (fun x=>e x.2),a4 m (fun x=>e x.symm)]
    have:=h.e (1-i) m ho hm
    rw [show 1-(1-i)=i by omega]at this;exact this
theorem Nx(n:AH)(i k AL:Nat)(h:jZ (n.e (1-i) k) AL ((n.x i).read k AL).1):n.read i k AL=
  (true,(n.Aq i ((n.x i).read k AL).2).C4 (1-i) k {n.e (1-i) k with read:=(n.e (1-i) k).read+((n.x i).read k AL).1.1.length,state:=((n.x i).read k AL).1.2.1}):=by
 unfold AH.read;dsimp only;have hst:=h.st
 rw [if_neg (by
  rintro(x|x|x|x|⟨x,y⟩)
  ·exact x h.e
  ·have:=h.len;omega
  ·have:=h.fits;omega
  ·exact x h.data
  ·obtain⟨b1,b2⟩:=h.shut x
   rcases y with y|y
   ·exact y b1
   ·exact y b2)]
 split
 ·rename_i e;rw [decide_eq_true (h.open_ e)]
 split
 ·rename_i e;rw [decide_eq_true (h.fin e)]
 split
 ·rename_i e;rw [decide_eq_true (h.B' e)]
 ·omega
theorem Ad.read(h:Ad t n L R A3){i k:Nat}(hi:i<2)(hk:k<4)(AL:Nat):(n.read i k AL).1=true∧Ad (t+1) (n.read i k AL).2 L R A3:=by
 obtain⟨a,b⟩:=h.reads hi hk AL;rw [Nx n i k AL a];exact⟨rfl,b⟩
theorem Ad.step(h:Ad t n L R A3)(ht:t≤1000000000)(s:DB):(n.step s).1=true∧∃L' R',Ad (t+1) (n.step s).2 L' R' A3:=by
 have p2:AP s.side 2<2:=Db _ Ca
 have up:∀{n L R},Ad t n L R A3→Ad (t+1) n L R A3:=fun h=>{h with c:=fun i hi=>(h.c i hi).mono EN}
 unfold AH.step;split
 ·obtain⟨a,b⟩:=h.wr p2 (Db s.a Ca) s.s;exact QX
 split
 ·obtain⟨a,b⟩:=h.fin p2 (Db s.a Ca);exact QX
 split
 ·obtain⟨a,b⟩:=h.B' p2 (Db s.a Ca) (Db s.b (by omega:0<1000));exact QX
 split
 ·exact⟨rfl,L,R,h.tick⟩
 split
 ·obtain⟨a,L',b⟩:=h.flush p2 ht;exact⟨a,L',R,b⟩
 split
 ·obtain⟨a,b⟩:=h.read p2 (Db s.b Ca) (AP s.a 200);exact⟨a,L,R,b⟩
 split
 ·obtain⟨a,b⟩:=h.DO p2 s.s.data.toList;exact QX
 ·obtain⟨a,R',b⟩:=h.carry ht s;exact⟨a,L,R',up b⟩
theorem Ad.run(w:Int):∀(l:List DB) (t:Nat) (n:AH) (L:Nat→List (List AM)) (R:Nat→Nat→Prop),Ad t n L R A3→t+l.length≤1000000000→∃n' L' R',AH.run w l n=some n'∧Ad (t+l.length) n' L' R' A3
 |[],t,n,L,R,h,_=>⟨n,L,R,rfl,h⟩
 |s::l,t,n,L,R,h,ht=>by
  have ht':t+(l.length+1)≤1000000000:=ht;rw [AH.run];split
  ·obtain⟨n',L',R',a,b⟩:=Ad.run w l t n L R h Ca;exact⟨n',L',R',a,{b with c:=fun i hi=>(b.c i hi).mono Y5}⟩
  ·obtain⟨a,L1,R1,b⟩:=h.step Ca s;rw [if_pos a];obtain⟨n',L',R',a',b'⟩:=Ad.run w l (t+1) _ L1 R1 b Ca;exact⟨n',L',R',a',by rw [show t+(s::l).length=t+1+l.length by simp;omega];exact b'⟩
theorem Ad.new{AJ AF:Nat}(h1:64≤AJ)(h2:AJ≤300)(h3:16≤AF)(h4:AF≤1024):Ad 0 (.new AJ AF) (fun _=>[]) (fun _ _=>False) A3:=by
 have hr:Hl Ab FD:=⟨Nat.le_refl _,(fun e=>by cases e),(fun e=>by cases e),(fun e=>by cases e),(fun _ p hp=>absurd hp (L7 p)),fun e=>by cases e⟩
 have hs:∀b,Mf (.new AJ AF Dl b) [] (fun _=>False):=fun b=>⟨rfl,(fun p hp=>by rcases hp with hp|hp<;>cases hp),(fun _ h=>nomatch h),fun _ h=>nomatch h⟩
 have hw:∀b k,k<4→(AD.new AJ AF Dl b).w k=Ab:=fun b k hk=>Ih (P:=fun k=>(AD.new AJ AF Dl b).w k=Ab) rfl rfl rfl rfl k hk;have hrr:∀b k,k<4→(AD.new AJ AF Dl b).r k=FD:=fun b k hk=>Ih (P:=fun k=>(AD.new AJ AF Dl b).r k=FD) rfl rfl rfl rfl k hk
 have hp:∀b b',Wq (.new AJ AF Dl b) (.new AJ AF Dl b') [] (fun _=>False):=fun b b'=>
  ⟨(fun _ h=>h.elim),(fun _ _ h=>h.elim),(fun k hk=>by rw [hw b k hk,hrr b' k hk];exact hr),fun k p hk hp=>by rw [hw b k hk]at hp;exact absurd hp (L7 p),fun _ _ h=>h.elim⟩
 have hc:∀b,AY 0 (.new AJ AF Dl b):=fun b=>.new h1 h2 h3 h4 rfl
 have two:∀(P:Nat→Prop),P 0→P 1→∀i,i<2→P i:=fun P a b i hi=>by rcases FF hi with rfl|rfl;exact a;exact b
 refine⟨rfl,rfl,two _ rfl rfl,rfl,two _ (hc _) (hc _),⟨hs _,hs _,hp _ _,hp _ _,rfl,rfl,rfl,rfl,rfl⟩,two _ ?_ ?_,fun i k hi hk=>?_,(fun _ h=>nomatch h),two _ rfl rfl,two _ rfl rfl,two _ rfl rfl,two _ rfl rfl,two _ rfl rfl,rfl⟩
 ·exact W9
 ·exact W9
 ·have he:(AH.new AJ AF).e i k=Da:=by
   rcases FF hi with rfl|rfl
   ·exact Ys
   ·exact jV
  have hx:((AH.new AJ AF).x i).w k=Ab∧((AH.new AJ AF).x (1-i)).r k=FD:=by
   rcases FF hi with rfl|rfl
   ·exact⟨hw _ k hk,hrr _ k hk⟩
   ·exact⟨hw _ k hk,hrr _ k hk⟩
  rw [he,hx.1,hx.2];exact⟨rfl,b_ _,rfl,rfl,(fun e=>by cases e),rfl,rfl,b_ _⟩
end
section
variable{B:World}
def Kept(b o:Nat)(xs:List UInt8)(n:Nat)(b' o':Nat)(ys:List UInt8)(n':Nat)(Q:HP):Prop:=
 ∀s1:List Value,s1.length=n'→∃s2 D,s2.length=n∧AB b' o' ys s1*Q=D*AB b o xs s2
theorem Kept.refl(b o:Nat)(xs:List UInt8)(n:Nat):Kept b o xs n b o xs n HP.BN:=fun s1 h=>⟨s1,HP.BN,h,Cg⟩
theorem Kept.trans{b o n b1 o1 n1 b2 o2 n2:Nat}{xs ys zs:List UInt8}{Q1 Q2:HP}(h1:Kept b o xs n b1 o1 ys n1 Q1)(h2:Kept b1 o1 ys n1 b2 o2 zs n2 Q2):Kept b o xs n b2 o2 zs n2 (Q2*Q1):=by
 intro s2 hs2;obtain⟨s1,D1,e1,e2⟩:=h2 s2 hs2;obtain⟨s0,D0,e3,e4⟩:=h1 s1 e1;refine⟨s0,D1*D0,e3,?_⟩;rw [←HP.assoc,e2,HP.assoc,e4,HP.assoc]
def D8(b o:Nat)(xs:List UInt8)(s:List Value)(R:HP)(ys:List UInt8)(v:Value)(H':HP):Prop:=
 ∃p' b' o' c' s' Q,v=.slice p' ys.length c'∧Sl p' b' o' ys.length c'∧ys.length*1+s'.length=c'*1∧H'=AB b' o' ys s'*(Q*R)∧Kept b o xs s.length b' o' ys s'.length Q
theorem D8.after{b o n b1 o1:Nat}{xs ys zs:List UInt8}{s s1:List Value}{Q1 R H':HP}{v:Value}(h1:Kept b o xs s.length b1 o1 ys s1.length Q1)(h:D8 b1 o1 ys s1 (Q1*R) zs v H'):D8 b o xs s R zs v H':=by
 obtain⟨p',b',o',c',s',Q,rfl,h2,h3,rfl,h4⟩:=h;exact⟨p',b',o',c',s',Q*Q1,rfl,h2,h3,by rw [HP.assoc],h1.trans h4⟩
theorem QD.aY{p:Option Addr}{b o c:Nat}{xs ys:List UInt8}{s:List Value}{R H':HP}{v:Value}(hs:Sl p b o xs.length c)(hc:xs.length*1+s.length=c*1)(h:QD p b o c xs s R ys v H'):D8 b o xs s R (xs++ys) v H':=by
 rcases h with⟨h1,rfl,rfl⟩|⟨h1,b',c',s',rfl,h2,h3,rfl⟩
 ·refine⟨p,b,o,c,s.drop (ys.length*AC.sz UInt8),HP.BN,by rw [a_],⟨?_,by rw [a_];exact h1⟩,?_,Ck,?_⟩
  ·exact hs.1
  ·have:AC.sz UInt8=1:=rfl
   rw [a_,kh,this];omega
  ·intro s1 hs1;refine⟨AG ys++s1,HP.BN,?_,?_⟩
   ·have:AC.sz UInt8=1:=rfl
    rw [kh,this]at hs1;rw [a_,By,this];omega
   ·unfold AB;rw [E7,kp];ac_rfl
 ·refine⟨_,b',0,c',s',AB b o xs s,by rw [a_],⟨.inr rfl,by rw [a_];exact h2⟩,?_,rfl,?_⟩
  ·rw [a_];exact h3
  ·intro s1 hs1;exact⟨s,AB b' 0 (xs++ys) s1,rfl,rfl⟩
section
variable{P:Program}{n:Nat}{E:A5}{D:B6}{d:Option Tmp}{ty:TypeId}{pos:String}{af:Array Edge}{g:Option (Nat×Bool)}{x y:Operand}
theorem LY{R:HP}{sT xT e by_:Nat}{b o bb oo cc c:Nat}{p pp:Option Addr}
  {xs ys:List UInt8}{s:List Value}{z:Value}[hT:Az P sT (.slice e)][hT2:Az P xT (.slice e)][hz:Bp P e 1][hi:FP P e by_][h0:Bb P e z]
  (hx:ev E x=some (.slice p xs.length c))(hs:Sl p b o xs.length c)(hc:xs.length*1+s.length=c*1)
  (hy:ev E y=some (.slice pp ys.length cc))(hs2:Sl pp bb oo ys.length cc)(hr:Ai B (AB b o xs s*R) bb oo ys)(hzc:z.cells.size=1)
  (hb:(xs.length+ys.length)*by_≤140737488355328)(hby:0<by_):
  CU P B n ⟨d,.call ⟨.builtin .append,#[x,y],#[sT,xT]⟩,ty,pos,af,g⟩ E D (AB b o xs s*R) (fun v H'=>D8 b o xs s R (xs++ys) v H'):=by
 intro a w h1 h2 h3 K Q hk;exact aH (α:=UInt8) (hT:=hT) (hT2:=hT2) (hz:=hz) (hi:=hi) (h0:=h0) hx hs hc hy hs2 hr hzc hb hby a w h1 h2 h3 K Q (fun v H' w' h=>hk v H' w' (h.aY hs hc))
theorem lV{R:HP}{sT xT e by_:Nat}{b o c:Nat}{p:Option Addr}{xs:List UInt8}{s:List Value}{zv:Value}{str:ByteArray}
  [hT:Az P sT (.slice e)][hT2:Az P xT .string][hz:Bp P e 1][hi:FP P e by_][h0:Bb P e zv]
  (hx:ev E x=some (.slice p xs.length c))(hs:Sl p b o xs.length c)(hc:xs.length*1+s.length=c*1)
  (hy:ev E y=some (.string str))(hzc:zv.cells.size=1)
  (hb:(xs.length+str.size)*by_≤140737488355328)(hby:0<by_):
  CU P B n ⟨d,.call ⟨.builtin .append,#[x,y],#[sT,xT]⟩,ty,pos,af,g⟩ E D (AB b o xs s*R) (fun v H'=>D8 b o xs s R (xs++str.data.toList) v H'):=by
 intro a w h1 _ h3 K Q hk
 have hl:str.data.toList.length=str.size:=by rw [Array.length_toList];rfl
 have hf:∀w',Sat B (AB b o xs s*R) w'→(Builtin.firstCells (AC.sz UInt8) str.data.toList.length (.string str)).run P w'=.ok (AG str.data.toList).toArray w':=by
  intro w' _
  have e1:(str.extract 0 str.data.toList.length).data=str.data:=by
   rw [hl]
   have:str.extract 0 str.size=str:=ByteArray.extract_zero_size
   rw [this]
  simp only [Builtin.firstCells,e1,Mi,Sem.run_pure];congr 1;apply Array.toList_inj.1;rw [Array.toList_map]
 obtain⟨v,w',hrun,H',hH,hw'⟩:=YA (P:=P) (B:=B) (R:=R) (b:=b) (o:=o) (p:=p) (c:=c) (xs:=xs) (ys:=str.data.toList) (s:=s) (sT:=sT) (xT:=xT) (ats:= #[sT,xT]) (e:=e) (by_:=by_) (ty:=ty) (x:=.string str) (w:=w) (z:=zv) hT.get rfl rfl (fun k h=>by rw [hT2.get]at h;cases h) ⟨_,hT2.get⟩ hz.get hi.get h0.get hzc hs hc Cx (fun w2 hw2=>hf w2 hw2) (by rw [hl];exact hb) hby h3
 have hrun2:(execOp a.eval ⟨d,.call ⟨.builtin .append,#[x,y],#[sT,xT]⟩,ty,pos,af,g⟩).run P w=.ok (.value v) w':=by
  simp [execOp,resolve,h1.ev hx,h1.ev hy,invoke,builtin,hrun]
 simp only [Oper.wp,hrun2,Oper.upon];exact hk v H' w' (hH.aY hs hc) hw'
end
theorem H8(n:Nat)(hn:n≤4611686018427387903)(p:Option Addr)(b o c:Nat)(xs:List UInt8)(s:List Value)(R:HP)(hs:Sl p b o xs.length c)(hc:xs.length*1+s.length=c*1)(hx:xs.length<1000000000000):
  Fn Tryz.prog B 194 [.slice p xs.length c,uN n] (AB b o xs s*R) (fun v H'=>D8 b o xs s R (xs++AS n) v H'):=by
 refine W8 ?_;refine mC (fun hc0=>?_) (fun hc0=>?_)
 ·refine J4 ?_;refine Hc ?_;refine LF ?_;rintro _ _ ⟨b11,rfl,rfl⟩;refine BQ (H':=AB b o xs s*(HP.AA b11 0 (AG (AS n))*R)) fQ ?_
  have hl:(AS n).length=1:=by simp [AS, *]
  refine Am (LY (ys:=AS n) (bb:=b11) (oo:=0) (cc:=1) rfl hs hc Cx KG inferInstance rfl KJ Ca) rfl ?_;rintro _ _ ⟨q,b',o',c',s',Q,rfl,h1,h2,rfl,hk⟩;refine J6 ?_;exact SY
 refine J3 ?_;refine JL (ES (j:=16384) rfl rfl) ?_;refine J3 ?_;refine mC (fun hc1=>?_) (fun hc1=>?_)
 ·refine bQ ?_;rintro _ _ ⟨b23,rfl,rfl⟩;refine BQ (H':=AB b o xs s*(HP.AA b23 0 (AG (AS n))*R)) bR ?_
  have hl:(AS n).length=2:=by simp [AS, *]
  refine Am (LY (ys:=AS n) (bb:=b23) (oo:=0) (cc:=2) rfl hs hc Cx KG inferInstance rfl KJ Ca) rfl ?_;rintro _ _ ⟨q,b',o',c',s',Q,rfl,h1,h2,rfl,hk⟩;refine J6 ?_;exact SY
 refine J3 ?_;refine JL (ES (j:=1073741824) rfl rfl) ?_;refine J3 ?_;refine mC (fun hc2=>?_) (fun hc2=>?_)
 ·refine fK ?_;rintro _ _ ⟨b41,rfl,rfl⟩;refine BQ (H':=AB b o xs s*(HP.AA b41 0 (AG (AS n))*R)) Xa ?_
  have hl:(AS n).length=4:=by simp [AS, *]
  refine Am (LY (ys:=AS n) (bb:=b41) (oo:=0) (cc:=4) rfl hs hc Cx KG inferInstance rfl KJ Ca) rfl ?_;rintro _ _ ⟨q,b',o',c',s',Q,rfl,h1,h2,rfl,hk⟩;refine J6 ?_;exact SY
 refine Zv ?_;rintro _ _ ⟨b68,rfl,rfl⟩;refine BQ (H':=AB b o xs s*(HP.AA b68 0 (AG (AS n))*R)) Zo ?_
 have hl:(AS n).length=8:=by simp [AS, *]
 refine Am (LY (ys:=AS n) (bb:=b68) (oo:=0) (cc:=8) rfl hs hc Cx KG inferInstance rfl KJ Ca) rfl ?_;rintro _ _ ⟨q,b',o',c',s',Q,rfl,h1,h2,rfl,hk⟩;refine J4 ?_;exact SY
theorem zT(d:ByteArray)(hd:d.size<1000000000000)(p:Option Addr)(b o c:Nat)(xs:List UInt8)(s:List Value)(R:HP)(hs:Sl p b o xs.length c)(hc:xs.length*1+s.length=c*1)(hx:xs.length<1000000000000):
  Fn Tryz.prog B 200 [.slice p xs.length c,.string d] (AB b o xs s*R) (fun v H'=>D8 b o xs s R (xs++AS d.size++d.data.toList) v H'):=by
 refine mI Tryz.func200 ?_;refine CL ?_;refine JL Fy ?_;refine mE rfl (H8 d.size Ca p b o c xs s R hs hc Ca) ?_;rintro _ _ ⟨p9,b9,o9,c9,s9,Q9,rfl,hs9,hc9,rfl,hk9⟩;refine J1 ?_;refine Am (lV (str:=d) rfl hs9 hc9 rfl rfl fU Ca) rfl ?_;rintro _ _ hG11;obtain⟨p11,b11,o11,c11,s11,Q11,rfl,hs11,hc11,rfl,hk11⟩:=D8.after (n:=0) hk9 hG11;refine J4 ?_;exact mR [4] (AB b11 o11 (xs++AS d.size++d.data.toList) s11*(Q11*R)) rfl rfl ⟨p11,b11,o11,c11,s11,Q11,rfl,hs11,hc11,rfl,hk11⟩
theorem zH(r:RF)(fb:Nat)(p:Option Addr)(b o c:Nat)(xs:List UInt8)(s:List Value)(R:HP)(hs:Sl p b o xs.length c)(hc:xs.length*1+s.length=c*1)(hx:xs.length<100000000000)(st:Nat)(hst:r.f.stream=(st:Nat))(hst4:st<4)(hcd:r.f.code≤4611686018427387903)(hof:r.f.offset≤4611686018427387903):
  Fn Tryz.prog B 193 [.slice p xs.length c,ptr fb 0] (AB b o xs s*(HP.AA fb 0 (AQ r)*R)) (fun v H'=>D8 b o xs s (HP.AA fb 0 (AQ r)*R) (xs++[4]++AS st++AS r.f.code++AS r.f.offset) v H'):=by
 refine mI Tryz.func193 ?_;have q1:=C5 st;have q2:=C5 r.f.code;have q3:=C5 r.f.offset;refine YD ?_;rintro _ _ ⟨b6,rfl,rfl⟩;refine BL ?_;refine iH ?_;refine Av 2 Cb rfl rfl (LY (ys:=[4]) (bb:=b6) (oo:=0) (cc:=1) rfl hs hc rfl CS inferInstance rfl Cl Ca) ?_;rintro _ _ ⟨p7,b7,o7,c7,s7,Q7,rfl,hs7,hc7,rfl,hk7⟩;refine BL ?_;refine Av 8 Cb rfl rfl (BS rfl (H8 (st) Ca p7 b7 o7 c7 (xs++[4]) s7 _ hs7 hc7 Cp)) ?_;rintro _ _ hG13;obtain⟨p13,b13,o13,c13,s13,Q13,rfl,hs13,hc13,rfl,hk13⟩:=D8.after (n:=0) hk7 hG13;refine BL ?_
 refine Av 13 Cb rfl rfl (BS rfl (H8 (r.f.code) hcd p13 b13 o13 c13 (xs++[4]++AS st) s13 _ hs13 hc13 Cp)) ?_;rintro _ _ hG18;obtain⟨p18,b18,o18,c18,s18,Q18,rfl,hs18,hc18,rfl,hk18⟩:=D8.after (n:=0) hk13 hG18;refine BL ?_;refine Av 18 Cb rfl rfl (BS rfl (H8 (r.f.offset) hof p18 b18 o18 c18 (xs++[4]++AS st++AS r.f.code) s18 _ hs18 hc18 Cp)) ?_;rintro _ _ hG23;obtain⟨p23,b23,o23,c23,s23,Q23,rfl,hs23,hc23,rfl,hk23⟩:=D8.after (n:=0) hk18 hG23;refine Dc ?_;refine Ei 19 Cb rfl rfl F7 EY ?_;refine Dm ?_;exact mR [4] (AB b23 o23 (xs++[4]++AS st++AS r.f.code++AS r.f.offset) s23*(Q23*(HP.AA fb 0 (AQ r)*R))) rfl rfl ⟨p23,b23,o23,c23,s23,Q23,rfl,hs23,hc23,rfl,hk23⟩
theorem J! (r:RF)(fb:Nat)(p:Option Addr)(b o c:Nat)(xs:List UInt8)(s:List Value)(R:HP)(hs:Sl p b o xs.length c)(hc:xs.length*1+s.length=c*1)(hx:xs.length<100000000000)(st:Nat)(hst:r.f.stream=(st:Nat))(hst4:st<4)(hof:r.f.offset≤4611686018427387903)(hds:r.f.data.size<1000000000000):
  Fn Tryz.prog B 199 [.slice p xs.length c,ptr fb 0] (AB b o xs s*(HP.AA fb 0 (AQ r)*R)) (fun v H'=>D8 b o xs s (HP.AA fb 0 (AQ r)*R) (xs++[bif r.f.fin then 9 else 8]++AS st++AS r.f.offset++AS r.f.data.size++r.f.data.data.toList) v H'):=by
 refine mI Tryz.func199 ?_;have q1:=C5 st;have q2:=C5 r.f.code;have q3:=C5 r.f.offset;refine J7 ?_;refine JL Xi ?_;refine J8 ?_;refine D9 ?_;refine J2 ?_;refine DF (α:=Unit) (fun _=>[(0,.slice p xs.length c),(1,ptr fb 0),(5,u8 (bif r.f.fin then 9 else 8))]) (fun _=>AB b o xs s*(HP.AA fb 0 (AQ r)*R)) (fun _=>True) ?_ ?_
 ·refine mc (fun hc0=>?_) (fun hc0=>?_)
  ·refine J1 ?_;refine JL jB ?_;refine J1 ?_;exact SK
  refine J1 ?_;exact SK
 ·rintro z hz;refine YL ?_;rintro _ _ ⟨b12,rfl,rfl⟩;refine BL ?_;refine eR ?_;refine Av 3 Cb rfl rfl (LY (ys:=[(bif r.f.fin then(9:UInt8)else 8)]) (bb:=b12) (oo:=0) (cc:=1) rfl hs hc rfl CS inferInstance rfl Cl Ca) ?_;rintro _ _ ⟨p13,b13,o13,c13,s13,Q13,rfl,hs13,hc13,rfl,hk13⟩;refine BL ?_;refine Av 9 Cb rfl rfl (BS rfl (H8 (st) Ca p13 b13 o13 c13 (xs++[bif r.f.fin then 9 else 8]) s13 _ hs13 hc13 Cp)) ?_;rintro _ _ hG19;obtain⟨p19,b19,o19,c19,s19,Q19,rfl,hs19,hc19,rfl,hk19⟩:=D8.after (n:=0) hk13 hG19;refine BL ?_
  refine Av 14 Cb rfl rfl (BS rfl (H8 (r.f.offset) hof p19 b19 o19 c19 (xs++[bif r.f.fin then 9 else 8]++AS st) s19 _ hs19 hc19 Cp)) ?_;rintro _ _ hG24;obtain⟨p24,b24,o24,c24,s24,Q24,rfl,hs24,hc24,rfl,hk24⟩:=D8.after (n:=0) hk19 hG24;refine BL ?_;refine Av 19 Cb rfl rfl (BS rfl (zT r.f.data hds p24 b24 o24 c24 (xs++[bif r.f.fin then 9 else 8]++AS st++AS r.f.offset) s24 _ hs24 hc24 Cl)) ?_;rintro _ _ hG29;obtain⟨p29,b29,o29,c29,s29,Q29,rfl,hs29,hc29,rfl,hk29⟩:=D8.after (n:=0) hk24 hG29;refine Dc ?_;refine Pa ?_;refine Dm ?_;exact mR [4] (AB b29 o29 (xs++[bif r.f.fin then 9 else 8]++AS st++AS r.f.offset++AS r.f.data.size++r.f.data.data.toList) s29*(Q29*(HP.AA fb 0 (AQ r)*R))) rfl rfl ⟨p29,b29,o29,c29,s29,Q29,rfl,hs29,hc29,rfl,hk29⟩
theorem I? (r:RF)(fb:Nat)(p:Option Addr)(b o c:Nat)(xs:List UInt8)(s:List Value)(R:HP)(hs:Sl p b o xs.length c)(hc:xs.length*1+s.length=c*1)(hx:xs.length<100000000000)(hrok:r.ok)(hrd:Ai B R r.b r.o r.f.ranges)(hok:F8 r.f.ranges)(hrl:r.f.ranges.length<10000000000):
  Fn Tryz.prog B 190 [.slice p xs.length c,ptr fb 0] (AB b o xs s*(HP.AA fb 0 (AQ r)*R)) (fun v H'=>D8 b o xs s (HP.AA fb 0 (AQ r)*R) (xs++[2]++AS (rg r.f.ranges 0).hi++AS (r.f.ranges.length-1)++AS ((rg r.f.ranges 0).hi-(rg r.f.ranges 0).lo)++B5 r.f.ranges (r.f.ranges.length-1)) v H'):=by
 refine mI Tryz.func190 ?_;have hne:0<r.f.ranges.length:=j_.2 hok.1;have h0:=hok.2 0 hne;unfold GH at h0;have q1:=C5 (rg r.f.ranges 0).hi;have q2:=C5 (r.f.ranges.length-1);have q3:=C5 ((rg r.f.ranges 0).hi-(rg r.f.ranges 0).lo);refine CL ?_;refine D9 ?_;refine JL Zk ?_;refine JL YM ?_;refine Ky ?_;rintro _ _ ⟨b5,rfl,rfl⟩;refine XN ?_;rintro _ _ ⟨b15,rfl,rfl⟩;refine BL ?_
 refine XI ?_;refine Av 2 Cb rfl rfl (LY (ys:=[2]) (bb:=b15) (oo:=0) (cc:=1) rfl hs hc rfl CS inferInstance rfl Cl Ca) ?_;rintro _ _ ⟨p16,b16,o16,c16,s16,Q16,rfl,hs16,hc16,rfl,hk16⟩;refine BL ?_;refine Av 5 Cb rfl rfl (BS rfl (H8 ((rg r.f.ranges 0).hi) h0.2.1 p16 b16 o16 c16 (xs++[2]) s16 _ hs16 hc16 Cp)) ?_;rintro _ _ hG19;obtain⟨p19,b19,o19,c19,s19,Q19,rfl,hs19,hc19,rfl,hk19⟩:=D8.after (n:=0) hk16 hG19;refine BL ?_;refine Av 13 Cb rfl rfl (BS rfl (H8 (r.f.ranges.length-1) Ca p19 b19 o19 c19 (xs++[2]++AS (rg r.f.ranges 0).hi) s19 _ hs19 hc19 Cp)) ?_;rintro _ _ hG27;obtain⟨p27,b27,o27,c27,s27,Q27,rfl,hs27,hc27,rfl,hk27⟩:=D8.after (n:=0) hk19 hG27;refine BL ?_;refine Av 19 Cb rfl rfl (BS rfl (H8 ((rg r.f.ranges 0).hi-(rg r.f.ranges 0).lo) Ca p27 b27 o27 c27 (xs++[2]++AS (rg r.f.ranges 0).hi++AS (r.f.ranges.length-1)) s27 _ hs27 hc27 Cp)) ?_;rintro _ _ hG33;obtain⟨p33,b33,o33,c33,s33,Q33,rfl,hs33,hc33,rfl,hk33⟩:=D8.after (n:=0) hk27 hG33
 refine Dc ?_;refine Pa ?_;refine JK ?_;refine Hy (AB b33 o33 (xs++[2]++AS (rg r.f.ranges 0).hi++AS (r.f.ranges.length-1)++AS ((rg r.f.ranges 0).hi-(rg r.f.ranges 0).lo)) s33*(Q33*(HP.AA fb 0 (AQ r)*R))) ?_;refine J4 ?_;refine D9 ?_;refine JL XG ?_;refine Kg ?_;generalize hpre:(xs++[2]++AS (rg r.f.ranges 0).hi++AS (r.f.ranges.length-1)++AS ((rg r.f.ranges 0).hi-(rg r.f.ranges 0).lo))=pre at*
 have hpl:pre.length<200000000000:=by rw [←hpre];simp only [a_,kg,List.length_nil];omega
 refine Bj (α:=Nat×Option Addr×Nat×Nat×Nat×List Value×HP) (fun z=>[(0,.slice z.2.1 (pre++B5 r.f.ranges z.1).length z.2.2.2.2.1),(1,ptr fb 0),(38,.slice (sp r.p r.c 1 2) (r.f.ranges.length-1) (r.c-1)),(39,iN (r.f.ranges.length-1)),(40,iN z.1)]) (fun z=>AB z.2.2.1 z.2.2.2.1 (pre++B5 r.f.ranges z.1) z.2.2.2.2.2.1*(z.2.2.2.2.2.2*(HP.AA fb 0 (AQ r)*R))) (fun z=>z.1≤r.f.ranges.length-1∧Sl z.2.1 z.2.2.1 z.2.2.2.1 (pre++B5 r.f.ranges z.1).length z.2.2.2.2.1∧(pre++B5 r.f.ranges z.1).length*1+z.2.2.2.2.2.1.length=z.2.2.2.2.1*1∧Kept b o xs s.length z.2.2.1 z.2.2.2.1 (pre++B5 r.f.ranges z.1) z.2.2.2.2.2.1.length z.2.2.2.2.2.2) (fun z=>r.f.ranges.length-1-z.1) (0,p33,b33,o33,c33,s33,Q33) ⟨b_ _,by simpa [B5]using hs33,by simpa [B5]using hc33,by simpa only [B5,f_]using hk33⟩ XP Yq ?_
 rintro⟨i,p9,b9,o9,c9,s9,Q9⟩ ⟨hi,hs9,hc9,hk9⟩;dsimp only at hi hs9 hc9 hk9⊢;have hel:=QU r.f.ranges i
 have hyl:(pre++B5 r.f.ranges i).length<900000000000:=by simp;omega
 generalize hys:pre++B5 r.f.ranges i=ys at*;refine J6 ?_;refine mC (fun hlt=>?_) (fun hlt=>?_)
 ·have hk:=hok.2 (i+1) Ca;have hk0:=hok.2 i Ca;unfold GH at hk hk0;simp only [Nat.add_sub_cancel]at hk;refine J7 ?_;refine JL cR ?_;refine JL gP ?_;refine Ky ?_;rintro _ _ ⟨b7,rfl,rfl⟩;refine J1 ?_;refine Gc ?_;refine J2 ?_;refine Au (H':=AB b9 o9 ys s9*(Q9*(HP.AA b7 0 [uN (rg r.f.ranges (i+1)).lo,uN (rg r.f.ranges (i+1)).hi]*(HP.AA fb 0 (AQ r)*R)))) Cg ?_;have v1:=C5 ((rg r.f.ranges i).lo-(rg r.f.ranges (i+1)).hi-2);refine cN ?_;refine El ?_;refine Y8 ?_;refine TB ?_
  refine Av 13 Cb rfl rfl (BS rfl (H8 ((rg r.f.ranges i).lo-(rg r.f.ranges (i+1)).hi-2) Ca p9 b9 o9 c9 (ys) s9 _ hs9 hc9 Cp)) ?_;rintro _ _ hG58;obtain⟨p58,b58,o58,c58,s58,Q58,rfl,hs58,hc58,rfl,hk58⟩:=D8.after (n:=0) hk9 hG58;refine BL ?_;refine Av 19 Cb rfl rfl (BS rfl (H8 ((rg r.f.ranges (i+1)).hi-(rg r.f.ranges (i+1)).lo) Ca p58 b58 o58 c58 (ys++AS ((rg r.f.ranges i).lo-(rg r.f.ranges (i+1)).hi-2)) s58 _ hs58 hc58 Cl)) ?_;rintro _ _ hG64;obtain⟨p64,b64,o64,c64,s64,Q64,rfl,hs64,hc64,rfl,hk64⟩:=D8.after (n:=0) hk58 hG64;rw [←hys,cF]at hs64 hc64 hk64⊢;refine BL ?_;refine Ja 20 ?_;refine JK ?_;refine D7 ?_;exact Bo (AB b64 o64 (pre++B5 r.f.ranges (i+1)) s64*(Q64*(HP.AA fb 0 (AQ r)*R))) (Ba (i+1,p64,b64,o64,c64,s64,Q64) ⟨Ca,hs64,hc64,hk64⟩ Y7 HZ rfl)
 have hie:i=r.f.ranges.length-1:=by omega
 refine DV ?_;subst hie;rw [←hys]at hs9 hc9 hk9⊢;exact mR [4] (AB b9 o9 (pre++B5 r.f.ranges (r.f.ranges.length-1)) s9*(Q9*(HP.AA fb 0 (AQ r)*R))) rfl rfl (by rw [←hpre]at hs9 hc9 hk9⊢;exact⟨p9,b9,o9,c9,s9,Q9,rfl,hs9,hc9,rfl,hk9⟩)
theorem FK.zS{k:Int}{f1 f2 f3:FuncId}{us1 us2 us3:List Value}{C:HP}(h:FK k f1 us1 f2 us2 f3 us3 C)(hk:3≤k∧k≤5)(r:RF)(fb:Nat)(p:Option Addr)(b o c:Nat)(xs:List UInt8)(s:List Value)(R:HP)(hm:Hg r)(hrk:r.f.kind=k)(hok:CA r.f)(hr:Ai B R r.b r.o r.f.ranges)
  (hs:Sl p b o xs.length c)(hc:xs.length*1+s.length=c*1)(hx:xs.length<100000000000):
  Fn Tryz.prog B f1 ([.slice p xs.length c,ptr fb 0]++us1) (AB b o xs s*(HP.AA fb 0 (AQ r)*(C*R))) (fun v H'=>D8 b o xs s (HP.AA fb 0 (AQ r)*(C*R)) (xs++Ak r.f) v H'):=by
 cases h
 ·omega
 ·omega
 ·have e:xs++Ak r.f=xs++[2]++AS (rg r.f.ranges 0).hi++AS (r.f.ranges.length-1)++AS ((rg r.f.ranges 0).hi-(rg r.f.ranges 0).lo)++B5 r.f.ranges (r.f.ranges.length-1):=by
   simp [Ak,hrk,Ku]
  rw [e,HP.BR];exact I? r fb p b o c xs s R hs hc hx hm.ok hr (hok.2.2.2.2.1.1 hrk) hm.len
 ·obtain⟨h1,h2,h3,h4,h5,h6⟩:=hok
  have e:xs++Ak r.f=xs++[4]++AS r.f.stream.toNat++AS r.f.code++AS r.f.offset:=by simp [Ak,hrk]
  rw [e,HP.BR];exact zH r fb p b o c xs s R hs hc hx r.f.stream.toNat Ca Ca h2 h1
 ·obtain⟨h1,h2,h3,h4,h5,h6⟩:=hok
  have e:xs++Ak r.f=xs++[bif r.f.fin then 9 else 8]++AS r.f.stream.toNat++AS r.f.offset++AS r.f.data.size++r.f.data.data.toList:=by simp [Ak,hrk]
  rw [e,HP.BR];exact J! r fb p b o c xs s R hs hc hx r.f.stream.toNat Ca Ca h1 V7
 ·omega
theorem WG(r:RF)(p:Option Addr)(b o c:Nat)(xs:List UInt8)(s:List Value)(R:HP)(hm:Hg r)(hr:Ai B R r.b r.o r.f.ranges)(hs:Sl p b o xs.length c)(hc:xs.length*1+s.length=c*1)(hx:xs.length<100000000000)(hk:Dr r.f.kind)(hk35:3≤r.f.kind∧r.f.kind≤5)(hok:CA r.f):
  Fn Tryz.prog B 138 [.slice p xs.length c,.agg (AQ r).toArray] (AB b o xs s*R) (fun v H'=>D8 b o xs s R (xs++Ak r.f) v H'):=by
 refine mI Tryz.func138 ?_;refine Lx ?_;rintro _ _ ⟨b3,rfl,rfl⟩;refine J6 ?_;refine D9 ?_;refine mE rfl (UC r.f.kind hk _) ?_;rintro _ _ ⟨bc,f1,us1,f2,us2,f3,us3,C,hF,rfl,rfl⟩;have hw:=hF.U7 (B:=B);have hq1:=hw.ZG;refine J7 ?_;refine KA ?_;refine J1 ?_;refine DU 11 rfl (fun hg1=>?_) (fun hg1=>?_)
 ·cases hg1
 refine Xb ?_;refine mC (fun hcc=>?_) (fun hcc=>?_)
 ·refine J7 ?_
  first
  |exact absurd hok hcc
  |exact mR [4] (AB b21 o21 (xs++Ak r.f) s21*(Q21*R)) rfl rfl ⟨p21,b21,o21,c21,s21,Q21,rfl,hs21,hc21,rfl,hk21⟩
 refine J7 ?_;refine Kw ?_;refine dO ?_;refine Am (IJ rfl rfl (hF.zS hk35 r b3 p b o c xs s _ hm rfl hok inferInstance hs hc hx)) rfl ?_;rintro _ _ ⟨p21,b21,o21,c21,s21,Q21,rfl,hs21,hc21,rfl,hk21⟩;refine J4 ?_
 first
 |exact absurd hok hcc
 |exact mR [4] (AB b21 o21 (xs++Ak r.f) s21*(Q21*R)) rfl rfl ⟨p21,b21,o21,c21,s21,Q21,rfl,hs21,hc21,rfl,hk21⟩
end
section
variable{B:World}
structure De where
 d:BK
 a:A8
 rs:List RF
 f:A8
@[reducible] def G2(m:De):List Value:=[.slice m.a.p m.d.b.length m.a.c,.slice m.f.p m.rs.length m.f.c,iN m.d.room,.bool (DE m.d.Ag)]
def BU(db:Nat)(m:De):HP:=HP.AA db 0 (G2 m)*(m.a.h m.d.b*m.f.h m.rs)
structure De.ok(m:De):Prop where
 a:m.a.ok m.d.b
 f:m.f.ok m.rs
 map:m.rs.map (·.f)=m.d.Ag
 room:m.d.room≤284
 len:m.d.b.length≤m.d.room
theorem De.ok.rl{m:De}(h:m.ok):m.rs.length≤284:=by
 have h1:=N0 m.d.Ag;have h2:=h.len;have h3:=h.room
 have h4:m.rs.length=m.d.Ag.length:=by rw [←h.map,g']
 have h5:m.d.b.length=(Ar m.d.Ag).length:=rfl;omega
theorem bT(fs:List AM)(f:AM):DE (fs++[f])=(DE fs||decide (f.kind≠3)):=by simp [DE]
theorem kL(d:BK)(f:AM):({d with Ag:=d.Ag++[f]}:BK).b=d.b++Ak f:=by
 show Ar (d.Ag++[f])=_;rw [Mh,Kb];rfl
set_option maxHeartbeats 2000000 in
theorem TZ(db:Nat)(m:De)(r:RF)(R:HP)(hok:m.ok)(hf:CA r.f)(hk35:3≤r.f.kind∧r.f.kind≤5)(hmd:Hg r)[hr:Ai B R r.b r.o r.f.ranges]:
  Fn Tryz.prog B 139 [ptr db 0,.agg (AQ r).toArray] (BU db m*R) (fun v H'=>∃m':De,m'.ok∧m'.d=(m.d.add r.f).getD m.d∧v=.bool (m.d.add r.f).isSome∧H'=BU db m'*R):=by
 refine mI Tryz.func139 ?_;refine Au (H':=HP.AA db 0 (G2 m)*(AB m.a.b m.a.o m.d.b m.a.s*(AB m.f.b m.f.o m.rs m.f.s*R))) (by unfold BU;ac_rfl) ?_;have hbl:=hok.len;have hrm:=hok.room;have hrl:=hok.rl;refine Lx ?_;rintro _ _ ⟨b3,rfl,rfl⟩;refine J4 ?_;refine ET (HP.AA b3 0 (AQ r)*(HP.AA db 0 (G2 m)*(AB m.a.b m.a.o m.d.b m.a.s*(AB m.f.b m.f.o m.rs m.f.s*R)))) 5 7 Ef rfl Cb ?_;refine Ir ?_;refine JT 4 rfl V6 ?_;refine E5 (H':=AB m.a.b m.a.o m.d.b m.a.s*(HP.AA b3 0 (AQ r)*(HP.AA db 0 (G2 m)*(AB m.f.b m.f.o m.rs m.f.s*R)))) Cg ?_;refine Av 5 Cb rfl rfl (BS rfl (WG r m.a.p m.a.b m.a.o m.a.c m.d.b m.a.s _ hmd inferInstance hok.a.1 hok.a.2 Ca X2 hk35 hf)) ?_;rintro _ _ ⟨p11,b11,o11,c11,s11,Q11,rfl,hs11,hc11,rfl,hk11⟩;refine Dc ?_;refine Ei 6 Cb rfl rfl F7 EY ?_;refine JD ?_;refine CL ?_;refine Lq ?_;refine mC (fun h18=>?_) (fun h18=>?_)
 ·refine J7 ?_
  have hnone:m.d.add r.f=none:=by unfold BK.add;rw [if_pos h18]
  obtain⟨s2,DD,hl2,he2⟩:=hk11 s11 rfl;refine D2 (H':=DD*(HP.AA b3 0 (AQ r)*(HP.AA db 0 (G2 m)*(AB m.a.b m.a.o m.d.b s2*(AB m.f.b m.f.o m.rs m.f.s*R))))) ?_ ?_
  ·have e3:AB b11 o11 (m.d.b++Ak r.f) s11*(Q11*(HP.AA b3 0 (AQ r)*(HP.AA db 0 (G2 m)*(AB m.f.b m.f.o m.rs m.f.s*R))))=(AB b11 o11 (m.d.b++Ak r.f) s11*Q11)*(HP.AA b3 0 (AQ r)*(HP.AA db 0 (G2 m)*(AB m.f.b m.f.o m.rs m.f.s*R))):=by ac_rfl
   first
    |(rw [e3,he2];ac_rfl)
    |(refine Eq.trans Cg (Eq.trans e3 ?_);rw [he2];ac_rfl)
  exact mR [4] (BU db {m with a:={m.a with s:=s2}}*R) (hE:=⟨fun ww hw=>Sat.right (A:=DD*HP.AA b3 0 (AQ r)) (Eq.mp (by congr 1;unfold BU;show _=DD*HP.AA b3 0 (AQ r)*(HP.AA db 0 (G2 m)*(AB m.a.b m.a.o m.d.b s2*AB m.f.b m.f.o m.rs m.f.s)*R);ac_rfl) hw)⟩) rfl rfl ⟨{m with a:={m.a with s:=s2}},⟨⟨hok.a.1,by have:=hok.a.2;show _+s2.length=_;rw [hl2];exact this⟩,hok.f,hok.map,hok.room,hok.len⟩,Vc,Vc,rfl⟩
 refine DV ?_;refine Au (H':=HP.AA db 0 [.slice p11 (m.d.b++Ak r.f).length c11,.slice m.f.p m.rs.length m.f.c,iN m.d.room,.bool (DE m.d.Ag)]*(AB b11 o11 (m.d.b++Ak r.f) s11*(HP.AA b3 0 (AQ r)*(AB m.f.b m.f.o m.rs m.f.s*(Q11*R))))) Cg ?_;refine ET (HP.AA db 0 [.slice p11 (m.d.b++Ak r.f).length c11,.slice m.f.p m.rs.length m.f.c,iN m.d.room,.bool (DE m.d.Ag)]*(AB b11 o11 (m.d.b++Ak r.f) s11*(HP.AA b3 0 (AQ r)*(Q11*R)))) 10 11 Ef rfl Cb ?_;refine Me ?_;refine JT 5 rfl V6 ?_;refine Av 6 Cb rfl rfl Xx ?_;rintro _ _ ⟨b29,rfl,rfl⟩;refine BL ?_;refine E5 (H':=AB m.f.b m.f.o m.rs m.f.s*(HP.AA b29 0 (AG [r])*(HP.AA db 0 [.slice p11 (m.d.b++Ak r.f).length c11,.slice m.f.p m.rs.length m.f.c,iN m.d.room,.bool (DE m.d.Ag)]*(AB b11 o11 (m.d.b++Ak r.f) s11*(HP.AA b3 0 (AQ r)*(Q11*R)))))) (by show HP.AA b29 0 _*_=_;rw [show AG [r]=AQ r from f_ _];ac_rfl) ?_;refine Av 7 Cb rfl rfl (DG (ys:=[r]) (bb:=b29) (oo:=0) (cc:=1) rfl hok.f.1 hok.f.2 rfl CS inferInstance rfl Cn Ca) ?_;rintro _ _ ⟨p30,b30,o30,c30,s30,rfl,hs30,hc30,rfl⟩;refine BL ?_;refine Jn 8 ?_
 refine P3 ?_;refine Dh ?_;refine J9 ?_;refine DU 38 rfl (fun hg1=>?_) (fun hg1=>?_)
 ·have hwn:DE m.d.Ag=true:=hg1;refine IE ?_;refine JL J0 ?_;refine B1 ?_
  have hsome:m.d.add r.f=some {m.d with Ag:=m.d.Ag++[r.f]}:=by unfold BK.add;rw [if_neg h18]
  obtain⟨m2,hm2⟩:∃m2:De,m2=⟨{m.d with Ag:=m.d.Ag++[r.f]},⟨p11,b11,o11,c11,s11⟩,m.rs++[r],⟨p30,b30,o30,c30,s30⟩⟩:=Bl
  have hb2:m2.d.b=m.d.b++Ak r.f:=by rw [hm2];exact kL _ _
  have hok2:m2.ok:=by
   refine⟨?_,?_,?_,?_,?_⟩
   ·rw [hb2,hm2];exact⟨hs11,hc11⟩
   ·rw [hm2];exact⟨hs30,hc30⟩
   ·rw [hm2];show(m.rs++[r]).map (·.f)=m.d.Ag++[r.f];rw [kn,hok.map];rfl
   ·rw [hm2];exact hrm
   ·rw [hb2,hm2];show _≤m.d.room;omega
  have hE2:G2 m2=[.slice p11 (m.d.b++Ak r.f).length c11,.slice p30 (m.rs++[r]).length c30,iN m.d.room,.bool (DE m.d.Ag||decide (r.f.kind≠3))]:=by
   unfold G2;rw [hb2,hm2];dsimp only;rw [bT]
  refine D2 (H':=HP.AA b3 0 (AQ r)*(HP.AA b29 0 (AG [r])*(Q11*(BU db m2*R)))) ?_ ?_
  ·unfold BU;rw [hE2,hb2]
   have e4:m2.a.h (m.d.b++Ak r.f)=AB b11 o11 (m.d.b++Ak r.f) s11:=by rw [hm2]
   have e5:m2.f.h m2.rs=AB b30 o30 (m.rs++[r]) s30:=by rw [hm2]
   rw [e4,e5,hwn]
   try simp only [ku,kt]
   ac_rfl
  exact W5
 have hwn:DE m.d.Ag=false:=hg1;refine Ia ?_;refine JL (WF (j:=3) rfl rfl) ?_;refine JL ID ?_;refine B1 ?_
 have hsome:m.d.add r.f=some {m.d with Ag:=m.d.Ag++[r.f]}:=by unfold BK.add;rw [if_neg h18]
 obtain⟨m2,hm2⟩:∃m2:De,m2=⟨{m.d with Ag:=m.d.Ag++[r.f]},⟨p11,b11,o11,c11,s11⟩,m.rs++[r],⟨p30,b30,o30,c30,s30⟩⟩:=Bl
 have hb2:m2.d.b=m.d.b++Ak r.f:=by rw [hm2];exact kL _ _
 have hok2:m2.ok:=by
  refine⟨?_,?_,?_,?_,?_⟩
  ·rw [hb2,hm2];exact⟨hs11,hc11⟩
  ·rw [hm2];exact⟨hs30,hc30⟩
  ·rw [hm2];show(m.rs++[r]).map (·.f)=m.d.Ag++[r.f];rw [kn,hok.map];rfl
  ·rw [hm2];exact hrm
  ·rw [hb2,hm2];show _≤m.d.room;omega
 have hE2:G2 m2=[.slice p11 (m.d.b++Ak r.f).length c11,.slice p30 (m.rs++[r]).length c30,iN m.d.room,.bool (DE m.d.Ag||decide (r.f.kind≠3))]:=by
  unfold G2;rw [hb2,hm2];dsimp only;rw [bT]
 refine D2 (H':=HP.AA b3 0 (AQ r)*(HP.AA b29 0 (AG [r])*(Q11*(BU db m2*R)))) ?_ ?_
 ·unfold BU;rw [hE2,hb2]
  have e4:m2.a.h (m.d.b++Ak r.f)=AB b11 o11 (m.d.b++Ak r.f) s11:=by rw [hm2]
  have e5:m2.f.h m2.rs=AB b30 o30 (m.rs++[r]) s30:=by rw [hm2]
  rw [e4,e5,hwn]
  try simp only [ku,kt]
  ac_rfl
 exact W5
end
end Go.Proofs.YtgfdlpcdjklcoaaGreatDoor
