/- A part of this proof: steps of the program, plain facts; no condition. -/
import Derived.Test.YtgfdlpcdjklcoaaGreatDoorC9
namespace Go.Proofs.YtgfdlpcdjklcoaaGreatDoor
open Go Go.RowKit
open _root_.List renaming length_append→A_,getElem?_eq_getElem→A?,append_nil→B?,getD_eq_getElem?_getD→C_,length_map→C!,length_pos_iff→C?,length_set→D!,length_cons→E_,length_drop→E!,mem_map→F_,map_append→F?,mem_append_right→G_,append_assoc→G?,mem_append→H_,mem_cons→H!
open _root_.Nat renaming zero_le→A!,le_trans→F!,lt_or_ge→G!
open _root_.UInt64 renaming ofNat→B_
open _root_.Option renaming some→B!,getD_some→E?
open _root_.Prod renaming mk→D_
open _root_.Bool renaming false_ne_true→D?,false_or→H?,true_or→I_
set_option linter.unusedVariables false
set_option maxRecDepth 20000
set_option linter.unusedSimpArgs false
section
variable{B:World}
abbrev Zl(b5 b2 b3:Nat):Deferred:={target:=.fn (.func 175) [ptr b5 0,ptr b2 0,ptr b3 0].toArray,args:= #[]}
theorem pM(b5 b2 b3:Nat)(H:HP):MG Tryz.prog B 175 [ptr b5 0,ptr b2 0,ptr b3 0] .returning .returning H (fun H'=>H'=H):=by
 refine U3 Tryz.func175 rfl rfl rfl rfl rfl rfl (.inl ⟨rfl,rfl,rfl⟩) fun Q hq=>?_;refine J3 ?_;refine JV ?_;refine mc (fun hc=>?_) (fun hc=>?_)
 ·cases hc
 refine J1 ?_;exact hq _ _ rfl
theorem wC(b5 b2 b3 e5:Nat)(lv ev:Value)(R:HP):MG Tryz.prog B 175 [ptr b5 0,ptr b2 0,ptr b3 0] (.panicking GQ) (.panicking [{v:=.iface 320 (.agg #[]),recovered:=true}]) (HP.AA b5 0 [iN e5]*(HP.AA b2 0 [lv]*(HP.AA b3 0 [ev]*R)))
  (fun H'=>∃q,H'=EU q 5 (iN e5)*(HP.AA b5 0 [iN e5]*(HP.AA b2 0 [.slice none 0 0]*(HP.AA b3 0 [FY q]*R)))):=by
 refine U3 Tryz.func175 rfl rfl rfl rfl rfl rfl (.inr ⟨[],rfl,rfl⟩) fun Q hq=>?_;refine J3 ?_;refine JL NR ?_;refine J2 ?_;refine mc (fun hc=>?_) (fun hc=>?_);rotate_left
 ·cases hc
 refine J4 ?_;refine JL (Rp (v:=.tuple #[.agg #[],.bool true]) rfl (fun w=>by kernel_rfl)) ?_;refine J3 ?_;refine Af (FD (l:=[]) rfl) rfl ?_;rintro _ _ ⟨b4,rfl,rfl⟩;refine Bj (Dz (cs:=[]) rfl rfl Ba Cg) ?_;refine IE ?_;refine Ij ?_;refine mc (fun hc=>?_) (fun hc=>?_)
 ·cases hc
 refine J3 ?_;refine Dm ?_;refine JL (Ex (cs:=[.int .i64 (5:Nat),iN e5]) rfl rfl rfl Ce) ?_;refine Af (DP (l:=[.int .i64 (5:Nat),iN e5]) rfl rfl) rfl ?_;rintro _ _ ⟨b19,rfl,rfl⟩;refine JL HM ?_;refine J3 ?_;exact fun a w h1 h2 h3=>hq _ _ ⟨b19,rfl⟩ a w h1 h2 (by rw [HP.XO]at h3;simp only [HP.BH]at h3;exact h3)
section
variable{n:Nat}{E:Ay}{Post:Value→HP→Prop}
theorem QF{b5 b2 b3:Nat}{e5:Nat}{lv ev:Value}{R:HP}(h2:lk E 2=some (ptr b2 0))(h3:lk E 3=some (ptr b3 0))(hp:∀q,Post (.tuple #[.slice none 0 0,FY q]) (EU q 5 (iN e5)*R)):
  A7 B (Ns Tryz.prog B Tryz.f144 Post) (.panic GQ) n E ⟨[Zl b5 b2 b3],none⟩ (HP.AA b5 0 [iN e5]*(HP.AA b2 0 [lv]*(HP.AA b3 0 [ev]*R))):=
 eV (rs:=[.cell 2 92,.cell 3 106]) (wC b5 b2 b3 e5 lv ev R) rfl rfl (fun H' ⟨q,e⟩=>⟨[.slice none 0 0,FY q],EU q 5 (iN e5)*R,e▸H4 (OK h2 trivial) (H4 (OK h3 trivial) JA),hp q,e▸inferInstance⟩)
theorem jF{b5 b2 b3:Nat}{lv ev:Value}{H R:HP}(h2:lk E 2=some (ptr b2 0))(h3:lk E 3=some (ptr b3 0))[hr2:Rd B H b2 0 lv True][hr3:Rd B H b3 0 ev True][hE:Bm B H R](hp:Post (.tuple #[lv,ev]) R):
  A7 B (Ns Tryz.prog B Tryz.f144 Post) .ret n E ⟨[Zl b5 b2 b3],none⟩ H:=
 sL (rs:=[.cell 2 92,.cell 3 106]) (pM b5 b2 b3 H) rfl rfl (fun H' e=>⟨[lv,ev],R,e▸H4 (OK h2 trivial) (H4 (OK h3 trivial) JA),hp,e▸hE⟩)
end
theorem cY{xs:List UInt8}{k a a':Nat}{fin:Bool}{f:AT}(h:CA xs k fin a=some (f,a')):f.ranges.length≤xs.length∧f.data.size≤xs.length:=by
 unfold CA at h;split at h
 ·simp only [B!.injEq,D_.injEq]at h;obtain⟨rfl,-⟩:=h;exact⟨A! _,A! _⟩
 split at h
 ·simp only [B!.injEq,D_.injEq]at h;obtain⟨rfl,-⟩:=h;exact⟨A! _,A! _⟩
 split at h
 ·split at h
  ·rename_i e;simp only [B!.injEq,D_.injEq]at h;obtain⟨rfl,-⟩:=h;exact⟨(Wz e).2.2.2,A! _⟩
  ·cases h
 split at h
 ·split at h
  ·split at h
   ·split at h
    ·simp only [B!.injEq,D_.injEq]at h;obtain⟨rfl,-⟩:=h;exact⟨A! _,A! _⟩
    ·cases h
   ·cases h
  ·cases h
 split at h
 ·split at h
  ·split at h
   ·split at h
    ·rename_i e3;simp only [B!.injEq,D_.injEq]at h;obtain⟨rfl,-⟩:=h;exact⟨A! _,by have:=(R8 e3).2.2;simpa using this⟩
    ·cases h
   ·cases h
  ·cases h
 split at h
 ·split at h
  ·simp only [B!.injEq,D_.injEq]at h;obtain⟨rfl,-⟩:=h;exact⟨A! _,A! _⟩
  ·cases h
 ·cases h
theorem vF{xs:List UInt8}{k a a':Nat}{fin:Bool}{f:AT}(h:CA xs k fin a=some (f,a')):f.kind=k:=by
 unfold CA at h;split at h
 ·simp only [B!.injEq,D_.injEq]at h;obtain⟨rfl,-⟩:=h;rename_i hk;rw [hk];rfl
 split at h
 ·simp only [B!.injEq,D_.injEq]at h;obtain⟨rfl,-⟩:=h;rename_i hk;rw [hk];rfl
 split at h
 ·rename_i hk;split at h
  ·simp only [B!.injEq,D_.injEq]at h;obtain⟨rfl,-⟩:=h;rw [hk];rfl
  ·cases h
 split at h
 ·rename_i hk;split at h
  ·split at h
   ·split at h
    ·simp only [B!.injEq,D_.injEq]at h;obtain⟨rfl,-⟩:=h;rw [hk];rfl
    ·cases h
   ·cases h
  ·cases h
 split at h
 ·rename_i hk;split at h
  ·split at h
   ·split at h
    ·simp only [B!.injEq,D_.injEq]at h;obtain⟨rfl,-⟩:=h;rw [hk];rfl
    ·cases h
   ·cases h
  ·cases h
 split at h
 ·rename_i hk;split at h
  ·simp only [B!.injEq,D_.injEq]at h;obtain⟨rfl,-⟩:=h;rw [hk];rfl
  ·cases h
 ·cases h
theorem rY{xs:List UInt8}{a:Nat}(h:Eh (xs.getD a 0)=0):Fl xs a=none:=by
 unfold Fl CA;rw [h];rfl
structure Vg where
 a:Nat
 av:Nat
 p:Option Addr
 b:Nat
 o:Nat
 c:Nat
 s:List Value
 rs:List RF
def LD(l:List AT):Except Nat (List AT)→Except Nat (List AT)
 | .ok m=>.ok (l++m)
 | .error e=>.error e
theorem nZ(x:Except Nat (List AT)):LD [] x=x:=by cases x<;>rfl
theorem nH(l:List AT)(f:AT)(x:Except Nat (List AT)):LD l (match x with| .ok m=>.ok (f::m)| .error e=>.error e)=LD (l++[f]) x:=by
 cases x with
 |ok m=>simp [LD]
 |error e=>rfl
theorem yP(p:Option Addr)(b o c:Nat)(xs:List UInt8)(R:HP)(hs:Sl p b o xs.length c)(hr:Ab B R b o xs)(hx:xs.length<10000000000):
  Fn Tryz.prog B 144 [.slice p xs.length c] R (fun v H'=>match FI xs with
   | .error e=>∃q,v=.tuple #[.slice none 0 0,FY q]∧H'=EU q 5 (iN e)*R
   | .ok fs=>∃sv,v=.tuple #[sv,.nilIface]∧NK R fs sv H'):=by
 refine vH Tryz.func144 rfl rfl rfl ?_;refine J2 ?_;refine Af (FD (l:=[.slice none 0 0]) rfl) rfl ?_;rintro _ _ ⟨b2,rfl,rfl⟩;refine Af (FD (l:=[.nilIface]) rfl) rfl ?_;rintro _ _ ⟨b3,rfl,rfl⟩;refine J5 ?_;refine JL (Ex (cs:=[.slice p xs.length c,iN 0]) rfl rfl rfl Ce) ?_;refine Af (DP (l:=[.slice p xs.length c,iN 0]) rfl rfl) rfl ?_;rintro _ _ ⟨b13,rfl,rfl⟩;refine J5 ?_;refine Af (FD (l:=[iN 0]) rfl) rfl ?_;rintro _ _ ⟨b5,rfl,rfl⟩;refine Bj (EY (v:=iN 0) rfl rfl rfl trivial) ?_;refine E9 ?_;refine JL F0 ?_;refine zB rfl ?_;refine J4 ?_;refine Ao (H':=B7 b13 p c xs 0*(HP.AA b5 0 [iN 0]*(HP.AA b2 0 [.slice none 0 0]*(HP.AA b3 0 [.nilIface]*(R))))) (by unfold B7;ac_rfl) ?_;refine J3 ?_;refine I' ?_;refine mC (fun h0=>?_) (fun h0=>?_)
 ·refine J2 ?_;refine DZ RX rfl ?_ ?_;rotate_left
  ·refine JR ?_;refine Ez ?_;refine Bf (HP.AA b5 0 [iN 0]*(HP.AA b2 0 [.slice none 0 0]*(HP.AA b3 0 [.nilIface]*R))) ?_;exact QF rfl rfl (fun q=>(by rw [FI,if_pos (List.length_eq_zero_iff.1 h0)];exact Mz))
  exact Ix
 refine J4 ?_
 refine Bk (α:=Vg) (fun z=>[(0,.slice p xs.length c),(2,ptr b2 0),(3,ptr b3 0),(4,ptr b13 0),(5,ptr b5 0)]) (fun z=>B7 b13 p c xs z.a*(HP.AA b5 0 [iN z.av]*(HP.AA b2 0 [.slice z.p z.rs.length z.c]*(HP.AA b3 0 [.nilIface]*(AB z.b z.o z.rs z.s*(B4 z.rs*R)))))) (fun z=>z.a≤xs.length∧z.rs.length≤z.a∧Sl z.p z.b z.o z.rs.length z.c∧z.rs.length*7+z.s.length=z.c*7∧(∀r∈z.rs,r.ok∧r.own)∧FI xs=LD (z.rs.map (·.f)) (FJ xs z.a)) (fun z=>xs.length-z.a) ⟨0,0,none,0,0,0,[],[]⟩ ⟨A! _,A! _,F8,rfl,(fun r h=>by simp at h),by rw [FI,if_neg (fun h=>h0 Pn)];exact(nZ _).symm⟩ Gh (by show _=B7 b13 p c xs 0*(HP.AA b5 0 [iN 0]*(HP.AA b2 0 [.slice none 0 0]*(HP.AA b3 0 [.nilIface]*(AB 0 0 ([]:List RF) []*(B4 []*R)))));rw [GU,QX,HP.BH,HP.BH]) ?_
 rintro z ⟨hza,hzl,hzs,hzc,hzo,hdec⟩;refine J6 ?_;refine Dm ?_;refine J5 ?_;refine mC (fun hlt=>?_) (fun hlt=>?_)
 ·refine J8 ?_;refine Dm ?_;refine J6 ?_;refine DZ (GN rfl (Pd 1 Ca b13 p b o c xs z.a _ hs inferInstance Ca hza)) rfl ?_ ?_;rotate_left
  ·rintro _ _ ⟨h1,rfl,rfl⟩;refine IY ?_;refine Ez ?_;exact absurd h1 Ca
  rintro _ _ ⟨h1,rfl,rfl⟩;refine JL (Gz (i:=0) (b:=b) (o:=o+z.a*1) (q:=o+z.a*1) rfl rfl (OV hs Ca) Ca Ca) ?_;refine JL (TJ (i:=z.a) (xs:=xs) rfl inferInstance Ca) ?_;refine J6 ?_;refine mE rfl (qB (xs.getD z.a 0) _) ?_;refine JR ?_;refine Gc ?_;refine mC (fun hk0=>?_) (fun hk0=>?_)
  ·refine J2 ?_;refine DZ RX rfl ?_ ?_;rotate_left
   ·refine JR ?_;refine IY ?_;refine Ez ?_;refine S3 ?_;exact QF rfl rfl (fun q=>(by have hd:=hdec;rw [RZ hlt (rY (Classical.not_not.1 hk0))]at hd;rw [hd];exact Mz))
   exact Ix
  have hk1:Eh (xs.getD z.a 0)≠0:=Classical.not_not.1 hk0;refine J6 ?_;refine JL (CD (i:=(xs.getD z.a 0).toNat) (j:=9) rfl rfl) ?_;refine JL (Ex (cs:=AJ (r0 (Eh (xs.getD z.a 0)) (decide ((xs.getD z.a 0).toNat=9)))) rfl rfl rfl Ce) ?_;refine Af aA rfl ?_;rintro _ _ ⟨b9,rfl,rfl⟩;refine Bj (Dz (cs:=AJ (r0 (Eh (xs.getD z.a 0)) (decide ((xs.getD z.a 0).toNat=9)))) rfl rfl Ch Ce) ?_;refine J0 ?_;refine mE rfl (R9 (Eh (xs.getD z.a 0)) (qS _ hk1) _) ?_;rintro _ _ ⟨bc,f1,us1,f2,us2,f3,us3,C,hF0,rfl,rfl⟩;refine J8 ?_;refine Ks ?_;refine BF (H':=B7 b13 p c xs (z.a+1)*(HP.AA b9 0 (AJ (r0 (Eh (xs.getD z.a 0)) (decide ((xs.getD z.a 0).toNat=9))))*(C*(CK bc f1 f2 f3 us1 us2 us3*(HP.AA b5 0 [iN z.a]*(HP.AA b2 0 [.slice z.p z.rs.length z.c]*(HP.AA b3 0 [.nilIface]*(AB z.b z.o z.rs z.s*(B4 z.rs*R))))))))) Cf ?_;have hcr:=oG (B:=B) hF0 b13 b9 (decide ((xs.getD z.a 0).toNat=9)) p b o c xs (z.a+1) (CK bc f1 f2 f3 us1 us2 us3*(HP.AA b5 0 [iN z.a]*(HP.AA b2 0 [.slice z.p z.rs.length z.c]*(HP.AA b3 0 [.nilIface]*(AB z.b z.o z.rs z.s*(B4 z.rs*R)))))) hs inferInstance Ca Ca;have hc2:=hcr.1;refine DZ (yU rfl rfl hcr.2) rfl ?_ ?_
  rotate_left
  ·rintro _ _ ⟨hrk,rfl,rfl⟩;refine IY ?_;refine Ez ?_;have hnine:decide ((xs.getD z.a 0).toNat=9)=decide (xs.getD z.a 0=9):=decide_eq_decide.2 ⟨fun h=>UInt8.toNat_inj.1 h,fun h=>by rw [h];rfl⟩;rw [hnine]at hrk;refine S3 ?_;exact QF rfl rfl (fun q=>(by have hd:=hdec;rw [RZ hlt (by unfold Fl;rw [hrk])]at hd;rw [hd];exact Mz))
  rintro _ _ ⟨r,a55,hrk,hrok,hrown,rfl⟩;have hkind:=vF hrk;have hrsz:=cY hrk
  have hmod:G1 r:=⟨hrok,Ca,Ca⟩
  have hnine:decide ((xs.getD z.a 0).toNat=9)=decide (xs.getD z.a 0=9):=decide_eq_decide.2 ⟨fun h=>UInt8.toNat_inj.1 h,fun h=>by rw [h];rfl⟩;rw [hnine]at hrk;refine J6 ?_;refine BF (H':=HP.AA b9 0 (AJ r)*(C*(CK bc f1 f2 f3 us1 us2 us3*(Fa r*(B7 b13 p c xs a55*(HP.AA b5 0 [iN z.a]*(HP.AA b2 0 [.slice z.p z.rs.length z.c]*(HP.AA b3 0 [.nilIface]*(AB z.b z.o z.rs z.s*(B4 z.rs*R)))))))))) Cf ?_;have hF1:El r.f.kind f1 us1 f2 us2 f3 us3 C:=hkind▸hF0
  have hro:Ab B (Fa r*(B7 b13 p c xs a55*(HP.AA b5 0 [iN z.a]*(HP.AA b2 0 [.slice z.p z.rs.length z.c]*(HP.AA b3 0 [.nilIface]*(AB z.b z.o z.rs z.s*(B4 z.rs*R))))))) r.b r.o r.f.ranges:=(inferInstance:Ab B (AB r.b r.o r.f.ranges r.s*(B7 b13 p c xs a55*(HP.AA b5 0 [iN z.a]*(HP.AA b2 0 [.slice z.p z.rs.length z.c]*(HP.AA b3 0 [.nilIface]*(AB z.b z.o z.rs z.s*(B4 z.rs*R))))))) r.b r.o r.f.ranges)
  refine mE rfl (ZG r b9 bc f1 f2 f3 us1 us2 us3 C _ hF1 hF1.So rfl hmod hro) ?_;refine Fs ?_;refine mC (fun hok0=>?_) (fun hok0=>?_)
  ·refine J2 ?_;refine DZ RX rfl ?_ ?_;rotate_left
   ·refine JR ?_;refine IY ?_;refine Ez ?_;refine S3 ?_;exact QF rfl rfl (fun q=>(by have hd:=hdec;rw [RZ hlt (by unfold Fl;rw [hrk];exact if_neg hok0)]at hd;rw [hd];exact Mz))
   exact Ix
  have hokf:B0 r.f:=Classical.not_not.1 hok0
  have hF:Fl xs z.a=some (r.f,a55):=by unfold Fl;rw [hrk];exact if_pos hokf
  have hf3:=Ua hF hlt;refine J3 ?_;refine Ks ?_;refine Af aS rfl ?_;rintro _ _ ⟨b63,rfl,rfl⟩;refine BF (H':=AB z.b z.o z.rs z.s*(HP.AA b63 0 (AD [r])*(HP.AA b9 0 (AJ r)*(C*(CK bc f1 f2 f3 us1 us2 us3*(Fa r*(B7 b13 p c xs a55*(HP.AA b5 0 [iN z.a]*(HP.AA b2 0 [.slice z.p z.rs.length z.c]*(HP.AA b3 0 [.nilIface]*(B4 z.rs*R))))))))))) (by show HP.AA b63 0 (AD [r])*_=_;ac_rfl) ?_;refine Af (CS (ys:=[r]) (bb:=b63) (oo:=0) (cc:=1) rfl hzs hzc rfl CB inferInstance rfl Cm Ca) rfl ?_;rintro _ _ ⟨p64,b64,o64,c64,s64,rfl,hs64,hc64,rfl⟩;refine J1 ?_;refine BF (H':=B7 b13 p c xs a55*(HP.AA b5 0 [iN z.a]*(HP.AA b2 0 [.slice p64 (z.rs++[r]).length c64]*(HP.AA b3 0 [.nilIface]*(AB b64 o64 (z.rs++[r]) s64*(B4 (z.rs++[r])*R)))))*(HP.AA b63 0 (AD [r])*(HP.AA b9 0 (AJ r)*(C*CK bc f1 f2 f3 us1 us2 us3)))) (by rw [fO,Oa,QX,HP.Fz];ac_rfl) ?_;refine J2 ?_;refine Bf (B7 b13 p c xs a55*(HP.AA b5 0 [iN z.a]*(HP.AA b2 0 [.slice p64 (z.rs++[r]).length c64]*(HP.AA b3 0 [.nilIface]*(AB b64 o64 (z.rs++[r]) s64*(B4 (z.rs++[r])*R)))))) ?_
  exact BW (⟨a55,z.a,p64,b64,o64,c64,s64,z.rs++[r]⟩:Vg) ⟨hf3.2.1,by show(z.rs++[r]).length≤a55;rw [A_,List.length_singleton];omega,hs64,hc64,(by
   intro r' hr'
   rcases H_.1 hr' with h|h
   ·exact hzo r' h
   ·rw [List.mem_singleton.1 h];exact⟨hrok,hrown⟩),by rw [hdec,ZS hlt hF];show _=LD ((z.rs++[r]).map (·.f)) _;rw [F?];exact nH _ _ _⟩ (by show xs.length-a55<xs.length-z.a;omega) Gh rfl
 refine J7 ?_;refine Dm ?_;refine J5 ?_
 exact jF (R:=AB z.b z.o z.rs z.s*(B4 z.rs*R)) rfl rfl (by
  have hd:=hdec
  rw [VG hlt]at hd
  rw [hd]
  show ∃sv,_∧NK R (z.rs.map (·.f)++[]) sv _
  rw [B?]
  exact⟨_,rfl,z.p,z.b,z.o,z.c,z.s,z.rs,by rw [C!],by rw [C!];exact hzs,by rw [C!];exact hzc,rfl,hzo,rfl⟩)
end
section
variable{B:World}
def K8(e:Nat)(at_:Int)(H:HP)(v:Value)(H':HP):Prop:=
 (at_= -1∧v=Dh e∧H'=H)∨(∃q a:Nat,at_=a∧e=5∧v=FY q∧H'=EU q 5 (iN a)*H)
theorem AZ.tZ{t:Nat}{c:AG}(h:AZ t c){n:Nat}(hn:n<4611686018427387904):AZ t {c with AR:=c.AR.add n n}:=
 have hg:=h.AR.add n n hn (by rw [h.gm];omega)
 {h with AR:=hg.1,gm:=hg.2.trans h.gm}
theorem oJ{xs:List UInt8}{a a':Nat}{rs:List AV}(h:Fe xs a=some (rs,a')):rs.length≤xs.length:=by
 unfold Fe at h;split at h
 ·rename_i hi a1 e1;split at h
  ·rename_i n a2 e2;split at h
   ·rename_i size a3 e3;split at h
    ·split at h
     ·rename_i rs' a4 e4;cases h;have h1:=Dt e1;have h3:=Dt e3;have h4:=Vb e4 h3.2.2;simp only [E_];omega
     ·cases h
    ·cases h
   ·cases h
  ·cases h
 ·cases h
theorem nB{xs:List UInt8}{k:Nat}{fin:Bool}{a a':Nat}{f:AT}(h:CA xs k fin a=some (f,a')):f.ranges.length≤xs.length:=by
 unfold CA at h;split at h
 ·cases h;exact A! _
 split at h
 ·cases h;exact A! _
 split at h
 ·split at h
  ·rename_i rs a1 e;cases h;exact oJ e
  ·cases h
 split at h
 ·split at h
  ·split at h
   ·split at h
    ·cases h;exact A! _
    ·cases h
   ·cases h
  ·cases h
 split at h
 ·split at h
  ·split at h
   ·split at h
    ·cases h;exact A! _
    ·cases h
   ·cases h
  ·cases h
 split at h
 ·split at h
  ·cases h;exact A! _
  ·cases h
 ·cases h
theorem oW(xs:List UInt8):∀(fuel a:Nat) (fs:List AT),xs.length-a≤fuel→FJ xs a=.ok fs→fs.length≤xs.length-a∧∀f∈fs,f.ranges.length≤xs.length:=by
 intro fuel
 induction fuel with
 |zero=>
  intro a fs hl h;rw [FJ,if_neg Ca]at h;cases h;exact⟨A! _,fun f hf=>nomatch hf⟩
 |succ n ih=>
  intro a fs hl h;rw [FJ]at h;split at h
  ·split at h
   ·rename_i f a' e;split at h
    ·rename_i hcc;split at h
     ·rename_i l e2;cases h;obtain⟨i1,i2⟩:=ih a' l Ca e2;refine⟨by simp only [E_];omega,fun g hg=>?_⟩;rcases H!.1 hg with rfl|hg
      ·unfold Fl at e;split at e
       ·rename_i f2 a2 e3;split at e
        ·cases e;exact nB e3
        ·cases e
       ·cases e
      ·exact i2 g hg
     ·cases h
    ·cases h
   ·cases h
  ·cases h;exact⟨A! _,fun f hf=>nomatch hf⟩
theorem pB{xs:List UInt8}{fs:List AT}(h:FI xs=.ok fs):fs.length≤xs.length∧∀f∈fs,f.ranges.length≤xs.length:=by
 unfold FI at h;split at h
 ·cases h
 ·have:=oW xs _ 0 fs C8 h
  exact⟨Ca,this.2⟩
theorem O8{ks:List UInt8}{side:UInt8}{xs ys:List UInt8}{n:UInt64}(h:Bx ks side xs=some (n,ys)):ys.length≤xs.length∧xs.length≤300∧n.toNat<4611686018427387904:=by
 unfold Bx at h;split at h
 ·cases h
 ·rename_i h1;split at h
  ·cases h
  ·rename_i h2;cases h;refine⟨?_,Ca,Ca⟩
   have e:(C7 ks side (be xs 8) (FH xs)).length=(FH xs).length:=by rw [C7,Ju _ _ Vo,ME]
   rw [e];unfold FH;rw [E!,List.length_take];omega
instance rowC2(cb:Nat)(x:CC):HR (AP cb x) cb (0+19) (AD x.ks++[u8 (Ag (!x.first))]) (HP.AA cb (0+0) [iN x.AI,iN x.AF]*(HP.AA cb (0+2) (AD x.ks++[u8 (Ag x.first)])*(HP.AA cb (0+36) [uN x.now]*
 (HP.AA cb (0+37) [iN x.closed]*(HP.AA cb (0+38) [uN x.code]*(HP.AA cb (0+39) [.bool x.said]*(HP.AA cb (0+40) [uN x.next]*(HP.AA cb (0+41) [ptr x.gq 0]*(HP.AA cb (0+42) [.bool x.answer]*
 (HP.AA cb (0+119) [x.fv]*(HP.AA cb (0+120) [x.lv]*(HP.AA cb (0+121) [uN x.BV]*HP.AA cb (0+122) [uN x.waits])))))))))))):=⟨by unfold AP;ac_rfl⟩
instance rowC1(cb:Nat)(x:CC):HR (AP cb x) cb (0+2) (AD x.ks++[u8 (Ag x.first)]) (HP.AA cb (0+0) [iN x.AI,iN x.AF]*(HP.AA cb (0+19) (AD x.ks++[u8 (Ag (!x.first))])*(HP.AA cb (0+36) [uN x.now]*
 (HP.AA cb (0+37) [iN x.closed]*(HP.AA cb (0+38) [uN x.code]*(HP.AA cb (0+39) [.bool x.said]*(HP.AA cb (0+40) [uN x.next]*(HP.AA cb (0+41) [ptr x.gq 0]*(HP.AA cb (0+42) [.bool x.answer]*
 (HP.AA cb (0+119) [x.fv]*(HP.AA cb (0+120) [x.lv]*(HP.AA cb (0+121) [uN x.BV]*HP.AA cb (0+122) [uN x.waits])))))))))))):=⟨by unfold AP;ac_rfl⟩
set_option maxHeartbeats 4000000 in
theorem tU(cb t:Nat)(m:Ac)(xs:List UInt8)(p:Option Addr)(b o c:Nat)(R:HP)(hm:m.ok)(hi:AZ t m.s)(ht:t<1000000)(hs:Sl p b o xs.length c)(hr:Ab B R b o xs)(hx:xs.length<90000000)(hop:Bx m.x.ks (Ag (!m.x.first)) xs=none):
  Fn Tryz.prog B 94 [ptr cb 0,.slice p xs.length c] (AY cb m*R) (fun v H'=>∃m':Ac,m'.ok∧m'.s=(m.s.A9 xs).2∧K8 (m.s.A9 xs).1.1 (m.s.A9 xs).1.2 (AY cb m'*R) v H'):=by
 refine mI Tryz.func94 ?_;refine Ao Nf ?_;have hks:m.x.ks.length=16:=hi.ks;refine P8 ?_;refine mC (fun h20=>?_) (fun h20=>?_)
 ·have h20:m.s.closed≠0:=h20;refine J2 ?_;refine JL NG ?_;refine J5 ?_
  have ewr:m.s.A9 xs=((9,-1),m.s):=by unfold AG.A9;rw [if_pos h20]
  exact Lb
 have h20:¬m.s.closed≠0:=h20;refine J7 ?_;refine JL Wk ?_;refine J1 ?_;refine mE rfl (XG hks p b o c _ hs inferInstance hx hop) ?_;refine JR ?_;refine Gc ?_;refine JO ?_;refine J3 ?_;refine mc (fun hc=>?_) (fun hc=>?_);rotate_left
 ·cases hc
 refine J2 ?_;refine JL (Kn (v:=.int .i64 (4:Nat)) Cb rfl) ?_;refine J6 ?_
 have ewr:m.s.A9 xs=((4,-1),m.s):=by unfold AG.A9;rw [if_neg h20];rw [show Bx m.s.ks (Ag (!m.s.first)) xs=none from hop]
 exact Lb
set_option maxHeartbeats 4000000 in
theorem vA(cb t:Nat)(m:Ac)(xs:List UInt8)(p:Option Addr)(b o c:Nat)(R:HP)(hm:m.ok)(hi:AZ t m.s)(ht:t<1000000)(hs:Sl p b o xs.length c)(hr:Ab B R b o xs)(hx:xs.length<90000000)(n:UInt64)(ys:List UInt8)(hop:Bx m.x.ks (Ag (!m.x.first)) xs=some (n,ys))(a:Nat)(hdec:FI ys=.error a):
  Fn Tryz.prog B 94 [ptr cb 0,.slice p xs.length c] (AY cb m*R) (fun v H'=>∃m':Ac,m'.ok∧m'.s=(m.s.A9 xs).2∧K8 (m.s.A9 xs).1.1 (m.s.A9 xs).1.2 (AY cb m'*R) v H'):=by
 refine mI Tryz.func94 ?_;refine Ao Nf ?_;have hks:m.x.ks.length=16:=hi.ks;refine P8 ?_;refine mC (fun h20=>?_) (fun h20=>?_)
 ·have h20:m.s.closed≠0:=h20;refine J2 ?_;refine JL NG ?_;refine J5 ?_
  have ewr:m.s.A9 xs=((9,-1),m.s):=by unfold AG.A9;rw [if_pos h20]
  exact Lb
 have h20:¬m.s.closed≠0:=h20;refine V2 ?_;rintro _ _ ⟨q28,b28,o28,c28,s28,rfl,hq28,hc28,rfl⟩;obtain⟨hyl,hx300,hn62⟩:=O8 hop;refine Gc ?_;refine JO ?_;refine J3 ?_;refine mc (fun hc=>?_) (fun hc=>?_)
 ·cases hc
 refine J7 ?_;refine Zg ?_;refine Fs ?_;refine mC (fun h36=>?_) (fun h36=>?_)
 ·have h36:m.s.AR.has n.toNat:=h36;refine J8 ?_
  have ewr:m.s.A9 xs=((0,-1),m.s):=by unfold AG.A9;rw [if_neg h20];rw [show Bx m.s.ks (Ag (!m.s.first)) xs=some (n,ys)from hop];dsimp only;rw [if_pos h36]
  exact Lb
 have h36:¬m.s.AR.has n.toNat:=h36;refine Xo ?_;intro v45 H45 h45;rw [hdec]at h45;obtain⟨q45,rfl,rfl⟩:=h45;refine Bq ?_;refine JL NR ?_;refine J2 ?_;refine mc (fun hc=>?_) (fun hc=>?_);rotate_left
 ·cases hc
 refine J6 ?_;refine Bj (EY (v:=.int .i64 (5:Nat)) rfl rfl rfl Cd) ?_;refine JR ?_;refine J2 ?_;refine Bj (EY (v:=.int .u64 (5:Nat)) rfl rfl rfl Cd) ?_;refine JR ?_;refine B8 ?_
 have ewr:m.s.A9 xs=((5,(a:Int)),{m.s with closed:=5,code:=5}):=by unfold AG.A9;rw [if_neg h20];rw [show Bx m.s.ks (Ag (!m.s.first)) xs=some (n,ys)from hop];dsimp only;rw [if_neg h36,hdec]
 exact mR [4] (EU q45 5 (iN a)*(AY cb (m.A3 {m.x with closed:=5,code:=5})*R)) (hE:=by rw [DL];exact⟨fun ww hw=>Sat.right (A:=AB b28 o28 ys s28) (Eq.mp (by congr 1;show _=AB b28 o28 ys s28*(EU q45 5 (iN a)*(AP cb {m.x with closed:=5,code:=5}*(AS m.x.gq m.ga m.AR*(A1 cb m.ws*(BS cb m.rs*(C9 m*R))))));ac_rfl) hw)⟩) rfl rfl ⟨m.A3 {m.x with closed:=5,code:=5},⟨hm.g,hm.ws,hm.rs,hm.fl,hm.lo,hm.fa,hm.la,hm.fv,hm.lv⟩,Cq,by rw [ewr];exact .inr ⟨q45,a,rfl,rfl,rfl,rfl⟩⟩
theorem eS{c c':AG}{g:AT}(b:∀k,Ft (c.r k) (c'.r k))(e:c'.AF=c.AF)(h:¬c.busy g):¬c'.busy g:=by
 rintro⟨k1,k2,k3⟩;refine h ⟨k1,?_,?_⟩
 ·cases e2:(c.r g.stream.toNat).given
  ·rfl
  ·have:=(b g.stream.toNat).given e2
   rw [this]at k2;cases k2
 ·rw [(b g.stream.toNat).read,e]at k3;exact k3
set_option maxHeartbeats 4000000 in
theorem qX(cb t:Nat)(m:Ac)(xs:List UInt8)(p:Option Addr)(b o c:Nat)(R:HP)(hm:m.ok)(hi:AZ t m.s)(ht:t<1000000)(hs:Sl p b o xs.length c)(hr:Ab B R b o xs)(hx:xs.length<90000000)(n:UInt64)(ys:List UInt8)(hop:Bx m.x.ks (Ag (!m.x.first)) xs=some (n,ys))(fs:List AT)(hdec:FI ys=.ok fs):
  Fn Tryz.prog B 94 [ptr cb 0,.slice p xs.length c] (AY cb m*R) (fun v H'=>∃m':Ac,m'.ok∧m'.s=(m.s.A9 xs).2∧K8 (m.s.A9 xs).1.1 (m.s.A9 xs).1.2 (AY cb m'*R) v H'):=by
 refine mI Tryz.func94 ?_;refine Ao Nf ?_;have hks:m.x.ks.length=16:=hi.ks;refine P8 ?_;refine mC (fun h20=>?_) (fun h20=>?_)
 ·have h20:m.s.closed≠0:=h20;refine J2 ?_;refine JL NG ?_;refine J5 ?_
  have ewr:m.s.A9 xs=((9,-1),m.s):=by unfold AG.A9;rw [if_pos h20]
  exact Lb
 have h20:¬m.s.closed≠0:=h20;refine V2 ?_;rintro _ _ ⟨q28,b28,o28,c28,s28,rfl,hq28,hc28,rfl⟩;obtain⟨hyl,hx300,hn62⟩:=O8 hop;refine Gc ?_;refine JO ?_;refine J3 ?_;refine mc (fun hc=>?_) (fun hc=>?_)
 ·cases hc
 refine J7 ?_;refine Zg ?_;refine Fs ?_;refine mC (fun h36=>?_) (fun h36=>?_)
 ·have h36:m.s.AR.has n.toNat:=h36;refine J8 ?_
  have ewr:m.s.A9 xs=((0,-1),m.s):=by unfold AG.A9;rw [if_neg h20];rw [show Bx m.s.ks (Ag (!m.s.first)) xs=some (n,ys)from hop];dsimp only;rw [if_pos h36]
  exact Lb
 have h36:¬m.s.AR.has n.toNat:=h36;refine Xo ?_;intro v45 H45 h45;rw [hdec]at h45;obtain⟨sv,rfl,p45,b45,o45,c45,s45,rs,rfl,hs45,hc45,hmap,hro,rfl⟩:=h45
 have hrl:rs.length=fs.length:=by rw [←hmap,C!]
 obtain⟨hdl1,hdl2⟩:=pB hdec;refine Bq ?_;refine JV ?_;refine mc (fun hc=>?_) (fun hc=>?_)
 ·cases hc
 refine J7 ?_;refine Gi ?_;refine Bk (α:=Nat) (fun i=>[(58,iN fs.length),(59,iN i),(57,.slice p45 fs.length c45),(0,ptr cb 0),(5,u64 n),(8,.slice p45 fs.length c45)]) (fun i=>AB b45 o45 rs s45*(B4 rs*(AB b28 o28 ys s28*(AY cb m*R)))) (fun i=>i≤fs.length∧∀k,k<i→¬m.s.busy (rs.getD k AC.AH).f) (fun i=>fs.length-i) 0 ⟨A! _,(fun k h=>absurd h (Nat.not_lt_zero k))⟩ FT (by rw [DL]) ?_;rintro i ⟨hi1,hi2⟩;refine J6 ?_;refine mC (fun h60=>?_) (fun h60=>?_)
 ·have hgd:rs.getD i AC.AH∈rs:=Il Ca
  have hff:(rs.getD i AC.AH).f∈fs:=by rw [←hmap];exact F_.2 ⟨_,hgd,rfl⟩
  have hfin:=Ir.of (SG hdec _ hff)
  obtain⟨j,hst⟩:∃j:Nat,(rs.getD i AC.AH).f.stream=(j:Int):=⟨_,(Int.toNat_of_nonneg hfin.1).symm⟩
  have hj:j<4:=by have:=hfin.2.1;omega
  have hjl:j<m.rs.length:=by rw [Ac.OB hi];exact hj
  have hrok:=Ac.RK hi hj;have hwn:m.x.AF≤1024:=hi.w2;have hfo:=hfin.2.2.2.1;have hfe:=hfin.2.2.2.2.1;have hrt:=hrok.rt
  have erj:m.s.r (rs.getD i AC.AH).f.stream.toNat=(m.rs.getD j AC.AH).r:=by rw [hst,Int.toNat_natCast];exact m.O' j hjl
  refine Ao (H':=AB b45 o45 rs s45*(B4 rs*(AB b28 o28 ys s28*(AP cb m.x*(HP.AA cb (0+83+j*9) (DM (m.rs.getD j AC.AH))*(B' (m.rs.getD j AC.AH)*(EC cb m.rs j*(ET m cb*R)))))))) (by rw [LJ cb m R j hjl]) ?_;generalize hrm:m.rs.getD j AC.AH=rm at*;refine bR ?_;rintro _ _ ⟨b11,rfl,rfl⟩;refine Bj Y5 ?_;refine Fs ?_;refine mA 7 7 ?_;refine GF ?_;refine QO ?_;refine Ja 6 ?_;refine DO ?_;refine CR (α:=Unit) (fun _=>[(99,.bool (decide (m.s.busy (rs.getD i AC.AH).f))),(58,iN fs.length),(59,iN i),(57,.slice p45 fs.length c45),(0,ptr cb 0),(5,u64 n),(8,.slice p45 fs.length c45)]) (fun _=>HP.AA b11 0 (AJ (rs.getD i AC.AH))*(AB b45 o45 rs s45*(B4 rs*(AB b28 o28 ys s28*(AP cb m.x*(HP.AA cb (0+83+j*9) (DM rm)*(B' rm*(EC cb m.rs j*(ET m cb*R))))))))) (fun _=>True) ?_ ?_
  ·refine mA 31 31 ?_;refine IV ?_;refine JT 2 rfl O1 ?_;refine Jm 3 ?_;refine GK 72 rfl (fun hg1=>?_) (fun hg1=>?_)
   ·have hk5:(rs.getD i AC.AH).f.kind=5:=hg1;have hfe5:=hfe hk5;refine JY 4 rfl T1 BZ ?_;refine JY 5 rfl T1 CJ ?_;refine JY 6 rfl T1 BL ?_;refine JY 7 rfl T1 BX ?_;refine JY 8 rfl T1 Ku ?_;refine JT 9 rfl Fd ?_;refine Jm 10 ?_;refine Lc 79 rfl (fun hg2=>?_) (fun hg2=>?_)
    ·skip
     have hgv:rm.r.given=false:=by simpa using hg2
     refine JY 11 rfl hg2 BL ?_;refine JY 12 rfl hg2 BX ?_;refine JY 13 rfl hg2 BL ?_;refine JY 14 rfl hg2 BX ?_;refine JY 15 rfl hg2 Gg ?_;refine JY 16 rfl hg2 FC ?_;refine JY 17 rfl hg2 JB ?_;refine JY 18 rfl hg2 BZ ?_;refine JY 19 rfl hg2 CJ ?_;refine JY 20 rfl hg2 BL ?_;refine JY 21 rfl hg2 BX ?_;refine JY 22 rfl hg2 BZ ?_;refine JY 23 rfl hg2 CJ ?_;refine JY 24 rfl hg2 BL ?_;refine JY 25 rfl hg2 BL ?_;refine JY 26 rfl hg2 BX ?_;refine JY 27 rfl hg2 FC ?_;refine JY 28 rfl hg2 JB ?_;refine JY 29 rfl hg2 Hc ?_;refine JT 30 rfl MX ?_;refine JD ?_;refine A8 () trivial (.cons ?_ FT) rfl;refine Et ?_;congr 2
     have hbd:m.s.busy (rs.getD i AC.AH).f↔(rs.getD i AC.AH).f.kind=5∧rm.r.given=false∧rm.r.read+m.x.AF<(rs.getD i AC.AH).f.offset+(rs.getD i AC.AH).f.data.size:=by unfold AG.busy;rw [erj];exact Iff.rfl
     first
      |exact decide_eq_decide.2 ⟨fun h=>hbd.2 ⟨hk5,hgv,h⟩,fun h=>(hbd.1 h).2.2⟩
      |exact(decide_eq_false (fun h=>D? ((hbd.1 h).2.1.symm.trans hgv))).symm
      |exact(decide_eq_false (fun h=>hk5 (hbd.1 h).1)).symm
    have hgv:rm.r.given=true:=by simpa using hg2
    refine JN 11 rfl hg2 ?_;refine JN 12 rfl hg2 ?_;refine JN 13 rfl hg2 ?_;refine JN 14 rfl hg2 ?_;refine JN 15 rfl hg2 ?_;refine JN 16 rfl hg2 ?_;refine JN 17 rfl hg2 ?_;refine JN 18 rfl hg2 ?_;refine JN 19 rfl hg2 ?_;refine JN 20 rfl hg2 ?_;refine JN 21 rfl hg2 ?_;refine JN 22 rfl hg2 ?_;refine JN 23 rfl hg2 ?_;refine JN 24 rfl hg2 ?_;refine JN 25 rfl hg2 ?_;refine JN 26 rfl hg2 ?_;refine JN 27 rfl hg2 ?_;refine JN 28 rfl hg2 ?_;refine JN 29 rfl hg2 ?_;refine JT 30 rfl Mo ?_;refine JD ?_;refine A8 () trivial (.cons ?_ FT) rfl;refine Et ?_;congr 2
    have hbd:m.s.busy (rs.getD i AC.AH).f↔(rs.getD i AC.AH).f.kind=5∧rm.r.given=false∧rm.r.read+m.x.AF<(rs.getD i AC.AH).f.offset+(rs.getD i AC.AH).f.data.size:=by unfold AG.busy;rw [erj];exact Iff.rfl
    first
     |exact decide_eq_decide.2 ⟨fun h=>hbd.2 ⟨hk5,hgv,h⟩,fun h=>(hbd.1 h).2.2⟩
     |exact(decide_eq_false (fun h=>D? ((hbd.1 h).2.1.symm.trans hgv))).symm
     |exact(decide_eq_false (fun h=>hk5 (hbd.1 h).1)).symm
   have hk5:¬(rs.getD i AC.AH).f.kind=5:=hg1;refine JN 4 rfl F1 ?_;refine JN 5 rfl F1 ?_;refine JN 6 rfl F1 ?_;refine JN 7 rfl F1 ?_;refine JN 8 rfl F1 ?_;refine JT 9 rfl Ec ?_;refine XU ?_;refine VA ?_;refine EM 26 rfl Cb rfl rfl rfl rfl ?_;refine EM 27 rfl Cb rfl rfl rfl rfl ?_;refine EM 28 rfl Cb rfl rfl rfl rfl ?_;refine EM 29 rfl Cb rfl rfl rfl rfl ?_;refine JT 30 rfl EP ?_;refine JD ?_
   refine A8 () trivial (.cons ?_ FT) rfl;refine Et ?_;congr 2
   have hbd:m.s.busy (rs.getD i AC.AH).f↔(rs.getD i AC.AH).f.kind=5∧rm.r.given=false∧rm.r.read+m.x.AF<(rs.getD i AC.AH).f.offset+(rs.getD i AC.AH).f.data.size:=by unfold AG.busy;rw [erj];exact Iff.rfl
   first
    |exact decide_eq_decide.2 ⟨fun h=>hbd.2 ⟨hk5,hgv,h⟩,fun h=>(hbd.1 h).2.2⟩
    |exact(decide_eq_false (fun h=>D? ((hbd.1 h).2.1.symm.trans hgv))).symm
    |exact(decide_eq_false (fun h=>hk5 (hbd.1 h).1)).symm
  ·rintro _ _;refine J1 ?_;refine mC (fun h99=>?_) (fun h99=>?_)
   ·refine J2 ?_;refine JL (Kn (v:=.int .i64 (6:Nat)) Cb rfl) ?_;refine J9 ?_
    have ewr:m.s.A9 xs=((6,-1),m.s):=by
     unfold AG.A9;rw [if_neg h20];rw [show Bx m.s.ks (Ag (!m.s.first)) xs=some (n,ys)from hop];dsimp only;rw [if_neg h36,hdec];dsimp only;rw [if_pos ⟨_,hff,h99⟩]
    exact mR [4] (AY cb m*R) (hE:=⟨fun ww hw=>Sat.right (A:=HP.AA b11 0 (AJ (rs.getD i AC.AH))*(AB b45 o45 rs s45*(B4 rs*AB b28 o28 ys s28))) (Eq.mp VJ hw)⟩) rfl rfl ⟨m,hm,Cs,SX⟩
   refine HZ ?_;refine Bf (AB b45 o45 rs s45*(B4 rs*(AB b28 o28 ys s28*(AY cb m*R)))) (hE:=⟨fun ww hw=>Sat.right (A:=HP.AA b11 0 (AJ (rs.getD i AC.AH))) (Eq.mp (by congr 1;rw [LJ cb m R j hjl,hrm]<;>ac_rfl) hw)⟩) ?_;exact BW (i+1) ⟨Ca,fun k hk=>by rcases G! k i with h|h;exact hi2 k h;obtain rfl:k=i:=Ca;exact h99⟩ Ca FT rfl
 refine J6 ?_
 have hnb:∀f∈fs,¬m.s.busy f:=by
  intro f hf;rw [←hmap]at hf;obtain⟨r,hr',rfl⟩:=F_.1 hf;obtain⟨k,hk,rfl⟩:=List.getElem_of_mem hr'
  have:=hi2 k Ca
  rw [C_,A? hk,E?]at this;exact this
 refine Ao (H':=AS m.x.gq m.ga m.AR*(AP cb m.x*(A1 cb m.ws*(BS cb m.rs*(C9 m*(AB b45 o45 rs s45*(B4 rs*(AB b28 o28 ys s28*(R))))))))) (by rw [DL];ac_rfl) ?_;refine J7 ?_;refine mE rfl (Jl m.x.gq n.toNat n.toNat 4611686018427387904 m.ga m.AR _ hm.g hi.AR Ca Ca (by have h7:m.AR.AL=8:=hi.gm;omega) (by have h7:m.AR.AL=8:=hi.gm;omega)) ?_;rintro _ _ ⟨a108,hs108,rfl⟩;refine J4 ?_
 obtain⟨m1,hm1⟩:∃m1:Ac,m1={m with AR:=m.AR.add n.toNat n.toNat,ga:=a108}:=Be
 have hok1:m1.ok:=by rw [hm1];exact⟨hs108,hm.ws,hm.rs,hm.fl,hm.lo,hm.fa,hm.la,hm.fv,hm.lv⟩
 have hs1:m1.s={m.s with AR:=m.s.AR.add n.toNat n.toNat}:=by rw [hm1];rfl
 have hi1':AZ t m1.s:=by rw [hs1];exact hi.tZ hn62
 have hnb1:∀f∈fs,¬m1.s.busy f:=by rw [hs1];exact hnb
 have hnbx:¬∃f∈fs,m.s.busy f:=fun⟨f,hf,hb⟩=>hnb f hf hb
 have erc:m.s.A9 xs=(((m1.s.Bc fs).1,-1),(m1.s.Bc fs).2):=by
  unfold AG.A9;rw [if_neg h20];rw [show Bx m.s.ks (Ag (!m.s.first)) xs=some (n,ys)from hop];dsimp only;rw [if_neg h36,hdec];dsimp only;rw [if_neg hnbx,hs1]
 refine Ao (H':=AB b45 o45 rs s45*(B4 rs*(AB b28 o28 ys s28*(AY cb m1*R)))) (by rw [DL,hm1];show _=AB b45 o45 rs s45*(B4 rs*(AB b28 o28 ys s28*(AP cb m.x*(AS m.x.gq a108 (m.AR.add n.toNat n.toNat)*(A1 cb m.ws*(BS cb m.rs*(C9 m*R)))))));ac_rfl) ?_;refine J3 ?_;refine Gi ?_;refine Bk (α:=Nat×Ac) (fun z=>[(110,iN fs.length),(111,iN z.1),(109,.slice p45 fs.length c45),(0,ptr cb 0),(5,u64 n),(8,.slice p45 fs.length c45)]) (fun z=>AB b45 o45 rs s45*(B4 rs*(AB b28 o28 ys s28*(AY cb z.2*R)))) (fun z=>z.1≤fs.length∧z.2.ok∧AZ t z.2.s∧z.2.s.Bc (fs.drop z.1)=m1.s.Bc fs∧∀f∈fs.drop z.1,¬z.2.s.busy f) (fun z=>fs.length-z.1) (0,m1) ⟨A! _,hok1,hi1',rfl,hnb1⟩ FT rfl ?_;rintro⟨i,mi⟩ ⟨q1,q2,q3,q4,q5⟩;dsimp only at q1 q2 q3 q4 q5⊢;refine J6 ?_;refine mC (fun h112=>?_) (fun h112=>?_)
 ·have hgd:rs.getD i AC.AH∈rs:=Il Ca
  have hff:(rs.getD i AC.AH).f∈fs:=by rw [←hmap];exact F_.2 ⟨_,hgd,rfl⟩
  have hfin:=Ir.of (SG hdec _ hff)
  obtain⟨j,hst⟩:∃j:Nat,(rs.getD i AC.AH).f.stream=(j:Int):=⟨_,(Int.toNat_of_nonneg hfin.1).symm⟩
  have hj:j<4:=by have:=hfin.2.1;omega
  have Fx:fs.drop i=(rs.getD i AC.AH).f::fs.drop (i+1):=by
   have h7:i<fs.length:=h112;rw [List.drop_eq_getElem_cons h7];congr 1
   have h8:fs[i]?=(rs.map RF.f)[i]?:=by rw [hmap]
   rw [A? h7,List.getElem?_map,A? Ca]at h8;rw [C_,A? Ca];simpa using h8
  have hbi:=q5 (rs.getD i AC.AH).f (by rw [Fx];simp);have hci:=q3.take (rs.getD i AC.AH).f hfin hbi;have howr:=WZ (B:=B) hgd;have hrl2:=hdl2 _ hff;refine bR ?_;rintro _ _ ⟨b14,rfl,rfl⟩;refine Bj Y5 ?_;refine IE ?_;refine JL (Di (l:=AJ (rs.getD i AC.AH)) rfl rfl) ?_;refine BF (H':=AY cb mi*(HP.AA b14 0 (AJ (rs.getD i AC.AH))*(AB b45 o45 rs s45*(B4 rs*(AB b28 o28 ys s28*(R)))))) Cf ?_;refine mE rfl (qF cb t mi (rs.getD i AC.AH) _ q2 q3 ht hfin hbi (hro _ hgd).1 inferInstance Ca) ?_;rintro _ _ ⟨m2,hm2,hs2,rfl,rfl⟩;have hte:=Q8 (c:=mi.s) (rs.getD i AC.AH).f;refine J6 ?_;refine JL Ou ?_;refine J2 ?_;refine mC (fun h119=>?_) (fun h119=>?_)
  ·refine J1 ?_;refine Ao (H':=AP cb m2.x*(AS m2.x.gq m2.ga m2.AR*(A1 cb m2.ws*(BS cb m2.rs*(C9 m2*(HP.AA b14 0 (AJ (rs.getD i AC.AH))*(AB b45 o45 rs s45*(B4 rs*(AB b28 o28 ys s28*(R)))))))))) (by rw [DL]) ?_;refine J5 ?_;refine JL FC ?_;refine DH ?_;refine JL (CD (j:=10) rfl rfl) ?_;refine J8 ?_;refine JL HM ?_;refine B8 ?_
   have ewr:m.s.A9 xs=(((mi.s.take (rs.getD i AC.AH).f).1,-1),(mi.s.take (rs.getD i AC.AH).f).2.shut (mi.s.take (rs.getD i AC.AH).f).1):=by
    rw [erc,←q4,Fx,AG.Bc,if_pos h119]
   exact mR [4] (AY cb (m2.A3 {m2.x with closed:=(mi.s.take (rs.getD i AC.AH).f).1,code:=(mi.s.take (rs.getD i AC.AH).f).1,said:=decide ((mi.s.take (rs.getD i AC.AH).f).1=10)})*R) (hE:=by rw [DL];exact⟨fun ww hw=>Sat.right (A:=HP.AA b14 0 (AJ (rs.getD i AC.AH))*(AB b45 o45 rs s45*(B4 rs*AB b28 o28 ys s28))) (Eq.mp (by congr 1;show _=HP.AA b14 0 (AJ (rs.getD i AC.AH))*(AB b45 o45 rs s45*(B4 rs*AB b28 o28 ys s28))*(AP cb {m2.x with closed:=(mi.s.take (rs.getD i AC.AH).f).1,code:=(mi.s.take (rs.getD i AC.AH).f).1,said:=decide ((mi.s.take (rs.getD i AC.AH).f).1=10)}*(AS m2.x.gq m2.ga m2.AR*(A1 cb m2.ws*(BS cb m2.rs*(C9 m2*R)))));ac_rfl) hw)⟩) rfl rfl ⟨m2.A3 {m2.x with closed:=(mi.s.take (rs.getD i AC.AH).f).1,code:=(mi.s.take (rs.getD i AC.AH).f).1,said:=decide ((mi.s.take (rs.getD i AC.AH).f).1=10)},⟨hm2.g,hm2.ws,hm2.rs,hm2.fl,hm2.lo,hm2.fa,hm2.la,hm2.fv,hm2.lv⟩,by rw [ewr,←hs2];rfl,by rw [ewr];exact .inl ⟨rfl,by rw [T8 h119];rfl,rfl⟩⟩
  refine J2 ?_;refine Ux ?_;refine CR (α:=Ac) (fun _=>[(110,iN fs.length),(111,iN i),(109,.slice p45 fs.length c45),(0,ptr cb 0),(5,u64 n),(8,.slice p45 fs.length c45)]) (fun m3=>AY cb m3*(HP.AA b14 0 (AJ (rs.getD i AC.AH))*(AB b45 o45 rs s45*(B4 rs*(AB b28 o28 ys s28*(R)))))) (fun m3=>m3.ok∧m3.s={(mi.s.take (rs.getD i AC.AH).f).2 with answer:=(mi.s.take (rs.getD i AC.AH).f).2.answer||(decide ((rs.getD i AC.AH).f.kind≠3)&&decide ((rs.getD i AC.AH).f.kind≠1))}) ?_ ?_
  ·refine Ux ?_;refine J7 ?_;refine DA 141 rfl (fun hg3=>?_) (fun hg3=>?_)
   ·have ha:m2.x.answer=true:=hg3;refine Oe ?_;refine Hf ?_;refine GV ?_;refine GV ?_;refine GV ?_;refine Hf ?_;refine JL OY ?_;refine J4 ?_
    obtain⟨an,han⟩:∃an:Bool,an=(m2.x.answer||(decide ((rs.getD i AC.AH).f.kind≠3)&&decide ((rs.getD i AC.AH).f.kind≠1))):=Be
    refine Dl (H':=AY cb (m2.A3 {m2.x with answer:=an})*(HP.AA b14 0 (AJ (rs.getD i AC.AH))*(AB b45 o45 rs s45*(B4 rs*(AB b28 o28 ys s28*(R)))))) ?_ ?_
    ·rw [DL];show AP cb {m2.x with answer:=_}*_=AP cb {m2.x with answer:=an}*_;rw [han];refine congrArg (fun bb:Bool=>AP cb {m2.x with answer:=bb}*_) ?_
     first
      |(rw [ha];rfl)
      |(rw [ha,decide_eq_true hk3];rfl)
      |(rw [ha,decide_eq_false hk3];rfl)
    exact Ro
   have ha:m2.x.answer=false:=hg3;refine OJ ?_;refine JL (Tp (j:=3) rfl rfl) ?_;refine F5z ?_;refine J1 ?_;refine D8 145 rfl (fun hg4=>?_) (fun hg4=>?_)
   ·have hk3:(rs.getD i AC.AH).f.kind≠3:=hg4;refine JG T4 ?_;refine J1 ?_;refine JG T4 ?_;refine J1 ?_;refine JG T4 ?_;refine JL (Tp (j:=1) rfl rfl) ?_;refine F5z ?_;refine JL SC ?_;refine JL KF ?_;refine J4 ?_
    obtain⟨an,han⟩:∃an:Bool,an=(m2.x.answer||(decide ((rs.getD i AC.AH).f.kind≠3)&&decide ((rs.getD i AC.AH).f.kind≠1))):=Be
    refine Dl (H':=AY cb (m2.A3 {m2.x with answer:=an})*(HP.AA b14 0 (AJ (rs.getD i AC.AH))*(AB b45 o45 rs s45*(B4 rs*(AB b28 o28 ys s28*(R)))))) ?_ ?_
    ·rw [DL];show AP cb {m2.x with answer:=_}*_=AP cb {m2.x with answer:=an}*_;rw [han];refine congrArg (fun bb:Bool=>AP cb {m2.x with answer:=bb}*_) ?_
     first
      |(rw [ha];rfl)
      |(rw [ha,decide_eq_true hk3];rfl)
      |(rw [ha,decide_eq_false hk3];rfl)
    exact Ro
   have hk3:¬(rs.getD i AC.AH).f.kind≠3:=hg4;refine JH F4 ?_;refine JH F4 ?_;refine JH F4 ?_;refine F5z ?_;refine JL SR ?_;refine JL KF ?_;refine J4 ?_
   obtain⟨an,han⟩:∃an:Bool,an=(m2.x.answer||(decide ((rs.getD i AC.AH).f.kind≠3)&&decide ((rs.getD i AC.AH).f.kind≠1))):=Be
   refine Dl (H':=AY cb (m2.A3 {m2.x with answer:=an})*(HP.AA b14 0 (AJ (rs.getD i AC.AH))*(AB b45 o45 rs s45*(B4 rs*(AB b28 o28 ys s28*(R)))))) ?_ ?_
   ·rw [DL];show AP cb {m2.x with answer:=_}*_=AP cb {m2.x with answer:=an}*_;rw [han];refine congrArg (fun bb:Bool=>AP cb {m2.x with answer:=bb}*_) ?_
    first
     |(rw [ha];rfl)
     |(rw [ha,decide_eq_true hk3];rfl)
     |(rw [ha,decide_eq_false hk3];rfl)
   exact Ro
  ·rintro m3 ⟨hok3,hs3⟩;refine J3 ?_;refine Es ?_;refine Bf (AB b45 o45 rs s45*(B4 rs*(AB b28 o28 ys s28*(AY cb m3*R)))) (hE:=⟨fun ww hw=>Sat.right (A:=HP.AA b14 0 (AJ (rs.getD i AC.AH))) (Eq.mp Cn hw)⟩) ?_
   exact BW (i+1,m3) ⟨Ca,hok3,by rw [hs3];exact {hci.1 with},by
    rw [←q4,Fx,AG.Bc,if_neg Ca,hs3],fun f hf=>by
    rw [hs3]
    exact eS (c:=mi.s) hci.2.1 hci.2.2 (q5 f (by rw [Fx];exact List.mem_cons_of_mem _ hf))⟩ Wr FT rfl
 refine Bq ?_
 have ewr:m.s.A9 xs=((0,-1),mi.s):=by
  rw [erc,←q4,List.drop_eq_nil_of_le Ca];rfl
 exact mR [4] (AY cb mi*R) (hE:=⟨fun ww hw=>Sat.right (A:=AB b45 o45 rs s45*(B4 rs*AB b28 o28 ys s28)) (Eq.mp Cn hw)⟩) rfl rfl ⟨mi,q2,Cs,SX⟩
theorem oT(cb t:Nat)(m:Ac)(xs:List UInt8)(p:Option Addr)(b o c:Nat)(R:HP)(hm:m.ok)(hi:AZ t m.s)(ht:t<1000000)(hs:Sl p b o xs.length c)(hr:Ab B R b o xs)(hx:xs.length<90000000):
  Fn Tryz.prog B 94 [ptr cb 0,.slice p xs.length c] (AY cb m*R) (fun v H'=>∃m':Ac,m'.ok∧m'.s=(m.s.A9 xs).2∧K8 (m.s.A9 xs).1.1 (m.s.A9 xs).1.2 (AY cb m'*R) v H'):=by
 cases hop:Bx m.x.ks (Ag (!m.x.first)) xs with
 |none=>exact tU cb t m xs p b o c R hm hi ht hs hr hx hop
 |some ny=>
  obtain⟨n,ys⟩:=ny
  cases hdec:FI ys with
  |error a=>exact vA cb t m xs p b o c R hm hi ht hs hr hx n ys hop a hdec
  |ok fs=>exact qX cb t m xs p b o c R hm hi ht hs hr hx n ys hop fs hdec
end
section
variable{t:Nat}{n:AM}{L:Nat→List (List AT)}{R:Nat→Nat→Prop}
abbrev BY:Nat→Nat→List UInt8:=fun _ _=>[]
theorem Ak.Gl(h:Ak t n L R BY){i:Nat}(hi:i<2){c:AG}{n':AM}{t':Nat}(ht:t≤t'){T':Nat→Nat→List UInt8}(hc:AZ t' c)(g:Dx (n.x i) c)
  (hxs:n'.xs=n.xs.set i c)(hel:n'.ends.length=2)(hel4:∀j,j<2→(n'.ends.getD j []).length=4)(hn:n'.AI=n.AI∧n'.AF=n.AF∧n'.ks=n.ks∧n'.AN=n.AN∧n'.count=n.count)
  (he:∀k,k<4→IF (c.w k) ((n.x (1-i)).r k) (n'.e i k) (T' i k))(he':∀k,k<4→n'.e (1-i) k=n.e (1-i) k∧T' (1-i) k=[]):Ak t' n' L R T':=by
 obtain⟨h1,h2,h3,h4,h5⟩:=hn
 have ho:1-i<2:=by omega
 refine h.MT hi ht hxs hel hel4 (by rw [h5];exact h.cl) h1 h2 h3 hc ((h.at hi).Gl (h.c i hi) (h.c _ ho) g) ((h.g i hi).Gl g.AR) ?_ he (fun k hk=>?_) (by rw [h4];exact h.AN) (fun j hj=>by unfold AM.cnt;rw [h5];exact h.cnt j hj) g.ks g.first g.AI g.AF (by rw [h4];exact h.bl)
 ·have:=h.g _ ho
  rw [show 1-(1-i)=i by omega]at this;exact this
 ·have:=h.e (1-i) k ho hk
  rw [show 1-(1-i)=i by omega]at this;rw [(he' k hk).1,(he' k hk).2,show c.r k=(n.x i).r k by unfold AG.r;rw [g.rs]];exact this
theorem Ak.SN(h:Ak t n L R BY){i:Nat}(hi:i<2){c:AG}{t':Nat}(ht:t≤t')(hc:AZ t' c)(g:Dx (n.x i) c)
  (hs:∀k,GS ((n.x i).w k) (c.w k)):Ak t' (n.A3 i c) L R BY:=by
 refine h.Gl hi ht hc g rfl h.el h.D7 IM (fun k hk=>?_) (fun k hk=>Ba);have o:=h.e i k hi hk;have s:=hs k
 have hp:(c.w k).A4=((n.x i).w k).A4:=by unfold AX.A4;rw [s.b,(g.w k).2]
 exact Xc
theorem QW{c:AG}(h:c.closed=0){k:Nat}(hk:k<4):c.D3 (k:Int)=if(c.w k).finished=true∨(c.w k).given=true then 3 else 0:=by
 unfold AG.D3;rw [if_neg (by rw [Ms h hk];simp)];rfl
theorem Le{t:Nat}{c:AG}(h:AZ t c)(k j:Nat)(w:AX)(hk:k<4):(c.Bp k w).w j=if k=j then w else c.w j:=by
 show(c.ws.set k w).getD j Aq=_;rw [DN,h.ws.len];by_cases e:k=j
 ·rw [if_pos ⟨e,hk⟩,if_pos e]
 ·rw [if_neg (fun x=>e x.1),if_neg e];rfl
theorem UA(n:AM)(i k:Nat)(o:Ds)(he:n.ends.length=2)(h4:∀j,j<2→(n.ends.getD j []).length=4)(hi:i<2)(hk:k<4):
  (n.DJ i k o).ends.length=2∧∀j,j<2→((n.DJ i k o).ends.getD j []).length=4:=by
 refine⟨by show(n.ends.set _ _).length=2;rw [D!];exact he,fun j hj=>?_⟩;show((n.ends.set i ((n.ends.getD i []).set k o)).getD j []).length=4;rw [DN];split
 ·rw [D!];exact h4 i hi
 ·exact h4 j hj
theorem Vr{AF:Nat}{w w':AX}(h:CW AF w)(h':CW AF w')(hc:w'.AE=w.AE)(hb:w.b.length≤w'.b.length):w.A4≤w'.A4∧w'.A4≤w.b.length:=by
 refine⟨Pt h.co.inc h'.co.inc h'.co.hi (fun m hm=>by rw [hc];exact hm),?_⟩;rcases G! w.b.length w'.A4 with hlt|hge
 ·have:=h'.bI hlt
  rw [hc]at this;exact absurd (O5 this h.co.hi) (Nat.lt_irrefl _)
 ·exact hge
theorem Ak.wr(h:Ak t n L R BY){i k:Nat}(hi:i<2)(hk:k<4)(s:ByteArray):(n.wr i k s).1=true∧Ak t (n.wr i k s).2 L R BY:=by
 have h2:=h.at hi;have o:=h.e i k hi hk;have hc:=h.c i hi;have hE:=QW h2.o hk;unfold AM.wr;dsimp only;by_cases hf:(n.e i k).finished=true∨(n.e i k).given=true
 ·rw [if_pos hf]
  have e:(n.x i).write (k:Int) s.data.toList=((0,3),n.x i):=by
   unfold AG.write;rw [o.finished,o.given]at hf;rw [hE,if_pos hf];rfl
  rw [e];exact N5
 ·rw [if_neg hf]
  have e0:(n.x i).D3 (k:Int)=0:=by
   rw [o.finished,o.given]at hf;rw [hE,if_neg hf]
  have g:=Dx.write hc (k:Int) s.data.toList;have hc':=hc.write (k:Int) s.data.toList
  have e:(n.x i).write (k:Int) s.data.toList=(((n.x i).GT k s.size,0),(n.x i).Bp k {(n.x i).w k with b:=((n.x i).w k).b++s.data.toList.take ((n.x i).GT k s.size)}):=by
   unfold AG.write;rw [if_neg (by rw [e0];simp)];rfl
  rw [e]at g hc'⊢;generalize hN:(n.x i).GT k s.size=N at g hc'⊢;dsimp only at g hc'⊢
  have hNle:N≤s.size∧N≤(n.x i).AF-(((n.x i).w k).b.length-((n.x i).w k).A4):=by
   unfold AG.GT at hN;omega
  have hwk:=Le hc k k {(n.x i).w k with b:=((n.x i).w k).b++s.data.toList.take N} hk;rw [if_pos rfl]at hwk;have w0:CW _ ((n.x i).w k):=hc.ws.ok k hk;have w1:=hc'.ws.ok k hk
  have w1':CW (n.x i).AF {(n.x i).w k with b:=((n.x i).w k).b++s.data.toList.take N}:=by rw [←hwk];exact w1
  obtain⟨p1,p2⟩:=Vr w0 w1' rfl PE
  have hwl:(n.e i k).wrote.length=((n.x i).w k).b.length:=by have:=congrArg List.length o.wrote;rw [B?]at this;exact this.symm
  have h1:Ak t (n.A3 i ((n.x i).Bp k {(n.x i).w k with b:=((n.x i).w k).b++s.data.toList.take N})) L R (fun j m=>if j=i∧m=k then s.data.toList.take N else []):=by
   refine h.Gl hi M2 hc' g rfl h.el h.D7 IM (fun m hm=>?_) (fun m hm=>⟨rfl,by rw [if_neg Ca]⟩);show IF _ _ (n.e i m) _;rw [Le hc k m _ hk];by_cases e2:k=m
   ·subst e2;rw [if_pos rfl,if_pos Ba];exact⟨YC,by rw [hwl];exact p2,o.finished,o.given,o.code,o.read,o.state,F! o.AE p1⟩
   ·rw [if_neg e2,if_neg (fun x=>e2 x.2.symm)];exact h.e i m hi hm
  obtain⟨a,b,f,q,w,w2⟩:=Ak.DQ hi 4 0 _ h1 C8
  have hx1:(n.A3 i ((n.x i).Bp k {(n.x i).w k with b:=((n.x i).w k).b++s.data.toList.take N})).x i=(n.x i).Bp k {(n.x i).w k with b:=((n.x i).w k).b++s.data.toList.take N}:=by
   rw [QH n i i _ h.xl hi,if_pos rfl]
  have q1:=q i k;rw [if_pos ⟨rfl,A! _,Ca⟩,hx1,hwk]at q1
  obtain⟨q0,q1,hq0⟩:∃q0,(Go.Proofs.YtgfdlpcdjklcoaaGreatDoor.DQ i 0 4 (n.A3 i ((n.x i).Bp k {(n.x i).w k with b:=((n.x i).w k).b++s.data.toList.take N}))).2.e i k={n.e i k with AE:=q0}∧((n.x i).w k).A4≤q0:=⟨_,q1,p1⟩
  have hroom:=w0.room;have hwin:=h.AF i hi;rw [q1];dsimp only
  rw [if_neg (by
   rintro(x|x|x|x)
   ·rw [a]at x;cases x
   ·exact x rfl
   ·omega
   ·omega)]
  refine⟨rfl,b.DJ hi hk (T':=BY) (fun j m hjm=>?_) ?_⟩
  ·rw [if_neg (fun x=>hjm ⟨x.1.symm,x.2.symm⟩)]
  ·have ob:=b.e i k hi hk;rw [q1,if_pos Ba]at ob;exact⟨by rw [B?];exact ob.wrote,by have:=ob.pre;show _≤((n.e i k).wrote++_).length;rw [A_];exact F! this UC,ob.finished,ob.given,ob.code,ob.read,ob.state,ob.AE⟩
theorem Ak.fin(h:Ak t n L R BY){i k:Nat}(hi:i<2)(hk:k<4):(n.fin i k).1=true∧Ak t (n.fin i k).2 L R BY:=by
 have h2:=h.at hi;have o:=h.e i k hi hk;have hc:=h.c i hi;have hE:=QW h2.o hk;unfold AM.fin;dsimp only;by_cases hf:(n.e i k).finished=true∨(n.e i k).given=true
 ·rw [if_pos hf]
  have e:(n.x i).finish (k:Int)=(3,n.x i):=by
   unfold AG.finish;rw [o.finished,o.given]at hf;rw [hE,if_pos hf];rfl
  rw [e];exact N5
 ·rw [if_neg hf];have g:=Dx.finish hc (k:Int);have hc':=hc.finish (k:Int)
  have e:(n.x i).finish (k:Int)=(0,(n.x i).Bp k {(n.x i).w k with finished:=true}):=by
   unfold AG.finish;rw [o.finished,o.given]at hf;rw [hE,if_neg hf];rfl
  rw [e]at g hc'⊢;obtain⟨l1,l2⟩:=UA (n.A3 i ((n.x i).Bp k {(n.x i).w k with finished:=true})) i k {n.e i k with finished:=true} h.el h.D7 hi hk
  have he:∀j m,((n.A3 i ((n.x i).Bp k {(n.x i).w k with finished:=true})).DJ i k {n.e i k with finished:=true}).e j m=if i=j∧k=m then {n.e i k with finished:=true}else n.e j m:=
   fun j m=>Na _ i k j m _ h.el (h.D7 i hi) hi hk
  refine⟨rfl,h.Gl hi M2 hc' g rfl l1 l2 IM (fun m hm=>?_) (fun m hm=>⟨by rw [he,if_neg Ca],rfl⟩)⟩;rw [he,Le hc k m _ hk];by_cases e2:k=m
  ·subst e2;rw [if_pos rfl,if_pos Ba];exact⟨o.wrote,o.pre,rfl,o.given,o.code,o.read,o.state,o.AE⟩
  ·rw [if_neg e2,if_neg (fun x=>e2 x.2)];exact h.e i m hi hm
theorem Ak.CU(h:Ak t n L R BY){i k:Nat}(hi:i<2)(hk:k<4){x:Nat}(hx:x<1000):(n.CU i k x).1=true∧Ak t (n.CU i k x).2 L R BY:=by
 have h2:=h.at hi;have o:=h.e i k hi hk;have hc:=h.c i hi;unfold AM.CU;dsimp only
 have e0:¬((n.x i).stream (k:Int)≠0):=by rw [Ms h2.o hk];simp
 by_cases hf:(n.e i k).given=true
 ·rw [if_pos hf]
  have e:(n.x i).giveUp (k:Int) x=(3,n.x i):=by
   unfold AG.giveUp;rw [o.given]at hf;rw [if_neg e0,if_pos (.inl hf)]
  rw [e];exact N5
 ·rw [if_neg hf];have g:=Dx.giveUp hc (k:Int) x;have hc':=hc.giveUp (k:Int) x
  have e:(n.x i).giveUp (k:Int) x=(0,(n.x i).Bp k {(n.x i).w k with given:=true,code:=x}):=by
   unfold AG.giveUp;rw [o.given]at hf;rw [if_neg e0,if_neg (by rintro(y|y);exact hf y;omega)];rfl
  rw [e]at g hc'⊢;obtain⟨l1,l2⟩:=UA (n.A3 i ((n.x i).Bp k {(n.x i).w k with given:=true,code:=x})) i k {n.e i k with given:=true,code:=x} h.el h.D7 hi hk
  have he:∀j m,((n.A3 i ((n.x i).Bp k {(n.x i).w k with given:=true,code:=x})).DJ i k {n.e i k with given:=true,code:=x}).e j m=if i=j∧k=m then {n.e i k with given:=true,code:=x}else n.e j m:=
   fun j m=>Na _ i k j m _ h.el (h.D7 i hi) hi hk
  refine⟨rfl,h.Gl hi M2 hc' g rfl l1 l2 IM (fun m hm=>?_) (fun m hm=>⟨by rw [he,if_neg Ca],rfl⟩)⟩;rw [he,Le hc k m _ hk];by_cases e2:k=m
  ·subst e2;rw [if_pos rfl,if_pos Ba];exact⟨o.wrote,o.pre,o.finished,rfl,fun _=>rfl,o.read,o.state,o.AE⟩
  ·rw [if_neg e2,if_neg (fun x=>e2 x.2)];exact h.e i m hi hm
theorem Xu{c:AG}(h:AZ t c)(k:Nat):GS (c.w k) (c.tick.w k):=by
 have h1:AZ (t+1) {c with now:=c.now+1}:=
  {h.mono ER with nw:=by have:=h.nw;show c.now+1≤t+1;omega,Am:=fun p hp=>let g:=h.Am p hp;⟨g.num,Nat.le_succ_of_le g.at_,g.len,g.fr⟩}
 unfold AG.tick;split
 ·exact(MN (({c with now:=c.now+1}:AG).BG.filter (fun _=>true)) c.ws h1.ws (fun p hp f hf=>(h1.Am p QB).fr f hf)).2.1.same k
 ·exact .refl _
theorem Ak.tick(h:Ak t n L R BY):Ak (t+1) n.tick L R BY:=by
 have h0:=h.c 0 Ca;have a:=h.SN (i:=0) Ca ER h0.tick (.tick h0) (Xu h0)
 have e:(n.A3 0 (n.x 0).tick).x 1=n.x 1:=by rw [QH n 0 1 _ h.xl Ca,if_neg Ca]
 have h1:=h.c 1 Ca
 have:=a.SN (i:=1) (c:=(n.x 1).tick) Ca C8 h1.tick (by rw [e];exact .tick h1) (by rw [e];exact Xu h1)
 exact this
theorem Nl(ks:List UInt8)(side:UInt8)(m:UInt64)(xs:List UInt8):(Bv ks side m xs).length=16+xs.length:=by
 rw [Bv,A_,A_,S7,show(GY ks side m (C7 ks side m xs)).length=8 from rfl,show(Dv m).length=8 from rfl];omega
theorem mU{i:Nat}{AI:Nat}(hm:AI≤300)(n:AM)(fs:List AT)(Ls:List (List AT))(m:Nat)(hc:n.cnt i=m)(hmt:n.AI=AI)(hb:m≤4611686018427387903)(hf:fs≠ []∧(Av fs).length+16≤AI):
  Bx n.ks (Ag (decide (i=0))) (Bv n.ks (Ag (decide (i=0))) (B_ m) (Av fs))=some (B_ m,Av fs)∧Av fs≠ []∧
  IX i (outs n.ks (Ag (decide (i=0))) m (fs::Ls)) n=IX i (outs n.ks (Ag (decide (i=0))) (m+1) Ls) {n with count:=n.count.set i (m+1),AN:=n.AN++[(1-i,AW (Bv n.ks (Ag (decide (i=0))) (B_ m) (Av fs)))]}:=by
 obtain⟨a,b⟩:=hf;have ho:=Sc n.ks (Ag (decide (i=0))) (B_ m) (Av fs) (by rw [Ki hb];exact hb) Ca
 have hne:Av fs≠ []:=fun e=>by
  have h1:=Oh fs;rw [e]at h1;have h2:=C?.2 a;have h1:fs.length≤0:=h1;omega
 refine⟨ho,hne,?_⟩;refine Yh ?_;rw [IX,ho];dsimp only
 rw [Ki hb,hc,if_neg (by
  rintro(x|x|x)
  ·rw [Nl]at x;omega
  ·exact x rfl
  ·exact hne x)]
theorem Sj{i:Nat}{ks:List UInt8}{AI:Nat}(hm:AI≤300):∀(Ls:List (List AT)) (n:AM) (m:Nat),n.cnt i=m→n.ks=ks→n.AI=AI→i<n.count.length→m+Ls.length≤4611686018427387903→(∀fs∈Ls,fs≠ []∧(Av fs).length+16≤AI)→
  IX i (outs ks (Ag (decide (i=0))) m Ls) n=(true,{n with count:=n.count.set i (m+Ls.length),AN:=n.AN++(outs ks (Ag (decide (i=0))) m Ls).map (fun p=>(1-i,AW p))})
 |[],n,m,hc,_,_,hi,_,_=>by
  show(true,n)=(true,_)
  have:n.count.set i (m+0)=n.count:=by
   rw [←hc];unfold AM.cnt;rw [Nat.add_zero,C_,A? hi,E?,List.set_getElem_self]
  show _=(true,({n with count:=n.count.set i (m+0),AN:=n.AN++[]}:AM));rw [this,B?]
 |fs::Ls,n,m,hc,hk,hmt,hi,hb,hf=>by
  subst hk;obtain⟨a,b⟩:=hf fs Cg;have hb':m+(Ls.length+1)≤4611686018427387903:=hb
  have hmm:m≤4611686018427387903:=by omega
  refine Yh ?_;rw [IX,Sc _ _ _ _ (by rw [Ki hmm];exact hmm) Ca];dsimp only
  have hne:Av fs≠ []:=fun e=>by
   have h1:=Oh fs;rw [e]at h1;have h2:=C?.2 a;have h1:fs.length≤0:=h1;omega
  rw [Ki hmm,hc,if_neg (by
   rintro(x|x|x)
   ·rw [Nl]at x;omega
   ·exact x rfl
   ·exact hne x)]
  refine(Sj (i:=i) hm Ls {n with count:=n.count.set i (m+1),AN:=n.AN++[(1-i,AW (Bv n.ks (Ag (decide (i=0))) (B_ m) (Av fs)))]} (m+1) (by show(n.count.set i (m+1)).getD i 0=_;rw [DN,if_pos ⟨rfl,hi⟩]) rfl hmt (by show i<(n.count.set i _).length;rw [D!];exact hi) Ca (fun gs hgs=>hf gs (by simp [hgs]))).trans ?_;show(true,({n with count:=(n.count.set i (m+1)).set i (m+1+Ls.length),AN:=(n.AN++[_])++_}:AM))=(true,{n with count:=n.count.set i (m+(Ls.length+1)),AN:=n.AN++(_::_)});rw [List.set_set,G?,show m+1+Ls.length=m+(Ls.length+1) by omega];rfl
theorem SW(ks:List UInt8)(side:UInt8):∀(Ls:List (List AT)) (m:Nat),(outs ks side m Ls).length=Ls.length
 |[],m=>rfl
 |fs::Ls,m=>by show(outs ks side (m+1) Ls).length+1=_;rw [SW ks side Ls (m+1)];rfl
theorem XT{ks:List UInt8}{side:UInt8}:∀(Ls:List (List AT)) (m:Nat) (p:List UInt8),p∈outs ks side m Ls→∃j fs,Ls[j]?=some fs∧p=Bv ks side (B_ (m+j)) (Av fs)
 |[],m,p,h=>nomatch h
 |fs::Ls,m,p,h=>by
  have h:p∈Bv ks side (B_ m) (Av fs)::outs ks side (m+1) Ls:=h;rcases H!.1 h with h|h
  ·exact⟨0,fs,rfl,h⟩
  ·obtain⟨j,gs,a,b⟩:=XT Ls (m+1) p h;exact⟨j+1,gs,a,by rw [b,show m+1+j=m+(j+1) by omega]⟩
theorem Ak.UQ(h:Ak t n L R BY){i:Nat}(hi:i<2):∃Ls,(n.x i).A6.1=outs n.ks (Ag (decide (i=0))) (L i).length Ls∧n.AI≤300∧(L i).length+Ls.length≤20*(t+1)∧∀fs∈Ls,fs≠ []∧(Av fs).length+16≤n.AI:=by
 have h2:=h.at hi
 have ho:1-i<2:=by omega
 have hc:=h.c i hi;obtain⟨Ls,a,b,e⟩:=h2.A6 hc (h.c _ ho) (h.g i hi);have hnx:=hc.A6.nx;have hlen:=a.s.len;rw [A_]at hlen;have hm2:=hc.m2;rw [h.AI i hi]at hm2;rw [h.ks i hi,h.first i hi]at e
 exact⟨Ls,e,hm2,Ca,fun fs hfs=>by
  have:=a.s.ne fs (G_ _ hfs)
  rw [b.AI,h.AI i hi]at this;exact this⟩
theorem Ak.flush(h:Ak t n L R BY){i:Nat}(hi:i<2)(ht:t≤1000000000):(n.flush i).1=true∧∃L',Ak (t+1) (n.flush i).2 L' R BY:=by
 have h2:=h.at hi
 have ho:1-i<2:=by omega
 have hc:=h.c i hi;obtain⟨Ls,a,b,e⟩:=h2.A6 hc (h.c _ ho) (h.g i hi);have hc':=hc.A6;have hnx:=hc'.nx;have hlen:=a.s.len;rw [A_]at hlen;have hm2:=hc.m2;rw [h.AI i hi]at hm2;unfold AM.flush;rw [e,h.ks i hi,h.first i hi]
 rw [Sj (ks:=n.ks) hm2 Ls (n.A3 i (n.x i).A6.2) (L i).length (h.cnt i hi) rfl rfl WX Ca (fun fs hfs=>by
  have:=a.s.ne fs (G_ _ hfs)
  rw [b.AI,h.AI i hi]at this;exact this)]
 refine⟨rfl,fun j=>if j=i then L i++Ls else L j,?_⟩;have e1:(if i=i then L i++Ls else L i)=L i++Ls:=if_pos rfl;have e2:(if 1-i=i then L i++Ls else L (1-i))=L (1-i):=if_neg Ca;have hg:=h.g i hi;have hg':=h.g _ ho;rw [show 1-(1-i)=i by omega]at hg'
 refine h.MT hi ER (T':=BY) (R':=R) (L':=fun j=>if j=i then L i++Ls else L j) rfl h.el h.D7 ?_ rfl rfl rfl hc' ?_ ?_ ?_ (fun k hk=>?_) (fun k hk=>?_) (fun f hf=>?_) (fun j hj=>?_) b.ks b.first b.AI b.AF ?_
 ·show(n.count.set i _).length=2;rw [D!];exact h.cl
 ·rw [e1,e2];exact a
 ·rw [e2];exact hg.Gl b.AR
 ·rw [e1,A_];exact⟨hg'.AR,F! hg'.fl UC⟩
 ·have o:=h.e i k hi hk;have s:=b.w k
  have hp:((n.x i).A6.2.w k).A4=((n.x i).w k).A4:=by unfold AX.A4;rw [s.b,s.AE]
  exact Xc
 ·have:=h.e (1-i) k ho hk
  rw [show 1-(1-i)=i by omega]at this;rw [show(n.x i).A6.2.r k=(n.x i).r k by unfold AG.r;rw [b.rs]];exact this
 ·have hf:f∈n.AN++_:=hf;rcases H_.1 hf with hf|hf
  ·obtain⟨j,m,fs,a1,a2,a3,a4⟩:=h.AN f hf;refine⟨j,m,fs,a1,a2,?_,a4⟩;split
   ·rename_i ej;subst ej
    have hlt:m<(L j).length:=by
     rcases G! m (L j).length with x|x
     ·exact x
     ·rw [List.getElem?_eq_none x]at a3;cases a3
    rw [List.getElem?_append_left hlt];exact a3
   ·exact a3
  ·obtain⟨p,hp,hpe⟩:=F_.1 hf;obtain⟨j,fs,b1,b2⟩:=XT Ls _ p hp;refine⟨i,(L i).length+j,fs,hi,by rw [←hpe],?_,by rw [←hpe,b2]⟩;rw [if_pos rfl,List.getElem?_append_right UC,Nat.add_sub_cancel_left];exact b1
 ·show(n.count.set i _).getD j 0=_;rw [DN,h.cl];by_cases ej:i=j
  ·subst ej;rw [if_pos ⟨rfl,hi⟩,if_pos rfl,A_]
  ·rw [if_neg (fun x=>ej x.1),if_neg (fun x=>ej x.symm)];exact h.cnt j hj
 ·show(n.AN++_).length=(if 0=i then L i++Ls else L 0).length+(if 1=i then L i++Ls else L 1).length;rw [A_,C!,SW,h.bl];rcases IU hi with rfl|rfl
  ·rw [if_pos rfl,if_neg Ca,A_];omega
  ·rw [if_neg Ca,if_pos rfl,A_];omega
theorem mM(c:AG)(f:AT):(c.take f).2.AI=c.AI∧(c.take f).2.ks=c.ks∧(c.take f).2.first=c.first:=by
 unfold AG.take;split
 ·unfold AG.By;split<;>exact ID
 split
 ·split<;>exact ID
 split
 ·exact ID
 split<;>exact ID
theorem Vf:∀(fs:List AT) (c:AG),(c.Bc fs).2.AI=c.AI∧(c.Bc fs).2.ks=c.ks∧(c.Bc fs).2.first=c.first
 |[],c=>ID
 |f::fs,c=>by
  obtain⟨a,b,e⟩:=mM c f;rw [AG.Bc];split
  ·exact⟨a,b,e⟩
  ·obtain⟨a',b',e'⟩:=Vf fs ({(c.take f).2 with answer:=(c.take f).2.answer||(decide (f.kind≠3)&&decide (f.kind≠1))}:AG);exact⟨a'.trans a,b'.trans b,e'.trans e⟩
theorem xM(c:AG)(p:List UInt8):(c.A9 p).2.AI=c.AI∧(c.A9 p).2.ks=c.ks∧(c.A9 p).2.first=c.first:=by
 unfold AG.A9;split
 ·exact ID
 split
 ·exact ID
 split
 ·exact ID
 split
 ·exact ID
 split
 ·exact ID
 ·exact Vf _ _
theorem Ak.recv(h:Ak t n L R BY){f:Nat×ByteArray}(hf:f∈n.AN)(ht:t≤1000000000):f.1<2∧f.2.size≤300∧(((n.x f.1).A9 f.2.data.toList).1.1=0∨((n.x f.1).A9 f.2.data.toList).1.1=6)∧∃R',Ak t (n.A3 f.1 ((n.x f.1).A9 f.2.data.toList).2) L R' BY:=by
 obtain⟨j,m,fs,a1,a2,a3,a4⟩:=h.AN f hf;generalize hi':f.1=i at*
 have hi:i<2:=by omega
 have hj:j=1-i:=by omega
 subst hj
 have ho:1-i<2:=by omega
 have h2:=h.at hi;have hc:=h.c i hi
 have hp:f.2.data.toList=Bv (n.x (1-i)).ks (Ag (n.x (1-i)).first) (B_ m) (Av fs):=by
  rw [a4,h.ks _ ho,h.first _ ho];exact List.toList_toArray
 obtain⟨R2,b1,b2,b3,b4⟩:=h2.A9 hc (h.c _ ho) (h.g i hi) a3 ht;have hc':=hc.A9 (Bv (n.x (1-i)).ks (Ag (n.x (1-i)).first) (B_ m) (Av fs)) (fun n b e=>Nat.le_of_lt_succ (O8 e).2.2);have hk:=xM (n.x i) (Bv (n.x (1-i)).ks (Ag (n.x (1-i)).first) (B_ m) (Av fs))
 have hsz:f.2.size≤300:=by
  have h7:=h2.s'.ne fs (List.mem_of_getElem? a3);have h8:=(h.c _ ho).m2;rw [a4,Em,Nl];omega
 rw [hp];generalize(n.x i).A9 (Bv (n.x (1-i)).ks (Ag (n.x (1-i)).first) (B_ m) (Av fs))=r at b1 b2 b3 b4 hc' hk⊢;have e1:(if i=1-i then R2 else R i)=R i:=if_neg Ca;have e2:(if 1-i=1-i then R2 else R (1-i))=R2:=if_pos rfl;have hg':=h.g _ ho;rw [show 1-(1-i)=i by omega]at hg'
 have hx:Ak t (n.A3 i r.2) L (fun j=>if j=1-i then R2 else R j) BY:=by
  refine h.MT hi M2 rfl h.el h.D7 h.cl rfl rfl rfl hc' (by rw [e1,e2];exact b2) (by rw [e2];exact b3) (by rw [e1];exact hg') (fun k hk=>?_) (fun k hk=>?_) h.AN h.cnt hk.2.1 hk.2.2 hk.1 b4.Gf h.bl
  ·have o:=h.e i k hi hk;have s:=b4.w.same k;have w1:=hc'.ws.ok k hk;have w0:CW _ ((n.x i).w k):=hc.ws.ok k hk;have hpm:((n.x i).w k).A4≤(r.2.w k).A4:=Pt w0.co.inc w1.co.inc w1.co.hi (fun p x=>b4.w.AE k p x);have hpl:(r.2.w k).A4≤(r.2.w k).b.length:=w1.Nw
   have hwl:((n.x i).w k).b.length=(n.e i k).wrote.length:=by rw [o.wrote,B?]
   exact⟨VM,by show _≤(n.e i k).wrote.length;rw [s.b]at hpl;omega,U0,Xk,XW,o.read,o.state,F! o.AE hpm⟩
  ·have o:=h.e (1-i) k ho hk;rw [show 1-(1-i)=i by omega]at o;have s:=b4.r k;exact⟨o.wrote,o.pre,o.finished,o.given,o.code,o.read.trans s.read.symm,o.state.trans s.state.symm,o.AE⟩
 exact⟨hi,hsz,b1,_,hx⟩
theorem Ak.comes(h:Ak t n L R BY){f:Nat×ByteArray}(hf:f∈n.AN)(ht:t≤1000000000):f.1<2∧(n.comes f.1 f.2).1=true∧∃R',Ak t (n.comes f.1 f.2).2 L R' BY∧(n.comes f.1 f.2).2.AN=n.AN:=by
 obtain⟨hi,_,b1,R',hx⟩:=h.recv hf ht;obtain⟨c1,c2,c3,c4,c5,c6⟩:=Ak.DQ hi 4 0 _ hx C8;unfold AM.comes;dsimp only;refine⟨hi,?_,_,c2,c6⟩;rw [c1];simpa using b1
theorem Ak.YS(h:Ak t n L R BY){i:Nat}(hi:i<2){b:List UInt8}(e:Bx n.ks (Ag (decide (i≠0))) b=none):(n.x i).A9 b=((4,-1),n.x i):=by
 have h2:=h.at hi;unfold AG.A9;rw [if_neg (by have:=h2.o;omega),h.ks i hi,h.first i hi,show(!decide (i=0))=decide (i≠0) by rcases IU hi with rfl|rfl<;>rfl,e]
theorem Ak.Ee(h:Ak t n L R BY){i:Nat}(hi:i<2)(b:List UInt8):(n.Ee i b).1=true∧Ak t (n.Ee i b).2 L R BY:=by
 have h2:=h.at hi;have hc:=h.c i hi;unfold AM.Ee
 cases e:Bx n.ks (Ag (decide (i≠0))) b with
 |some x=>exact⟨rfl,h⟩
 |none=>
  have e1:=h.YS hi e;dsimp only;rw [e1];exact N5
theorem Ak.carry(h:Ak t n L R BY)(ht:t≤1000000000)(s:DR):(n.carry s).1=true∧∃R',Ak t (n.carry s).2 L R' BY:=by
 unfold AM.carry;by_cases hb:n.AN=[]
 ·rw [if_pos hb];exact⟨rfl,R,h⟩
 rw [if_neg hb];dsimp only
 have hm:n.AN.getD (AK s.a n.AN.length) (0,⟨#[]⟩)∈n.AN:=by
  have:=E7 s.a (C?.2 hb)
  rw [C_,A? this,E?];exact List.getElem_mem this
 generalize n.AN.getD (AK s.a n.AN.length) (0,⟨#[]⟩)=f at hm⊢;have hf:f.1<2:=(h.comes hm ht).1;split
 ·obtain⟨_,a,R',b,_⟩:=h.comes hm ht;exact⟨a,R',b⟩
 split
 ·exact⟨(h.Ee Ca _).1,R,(h.Ee Ca _).2⟩
 split
 ·exact⟨(h.Ee hf _).1,R,(h.Ee hf _).2⟩
 ·exact⟨rfl,R,h⟩
structure bG(o:Ds)(AL:Nat)(a:List UInt8×Nat×Nat×Nat):Prop where
 e:a.2.2.2=0
 len:a.1.length≤AL
 fits:o.read+a.1.length≤o.wrote.length
 data:(o.wrote.drop o.read).take a.1.length=a.1
 shut:o.state≠0→a.1=[]∧a.2.1=o.state
 open_:a.2.1=0→a.2.2.1=0
 fin:a.2.1=1→o.finished=true∧o.read+a.1.length=o.wrote.length∧a.2.2.1=0
 CU:a.2.1=2→o.given=true∧a.2.2.1=o.code
 st:a.2.1≤2
theorem Ak.reads(h:Ak t n L R BY){i k:Nat}(hi:i<2)(hk:k<4)(AL:Nat):bG (n.e (1-i) k) AL ((n.x i).read k AL).1∧
  Ak (t+1) ((n.A3 i ((n.x i).read k AL).2).DJ (1-i) k {n.e (1-i) k with read:=(n.e (1-i) k).read+((n.x i).read k AL).1.1.length,state:=((n.x i).read k AL).1.2.1}) L R BY:=by
 have h2:=h.at hi;have hc:=h.c i hi
 have ho:1-i<2:=by omega
 have o:=h.e (1-i) k ho hk;rw [show 1-(1-i)=i by omega]at o;obtain⟨a1,a2,a3,a4,a5⟩:=h2.read hc (h.c _ ho) hk AL;have hc':=hc.read (k:Int) (AL:Int)
 have hwin:((n.x i).read (k:Int) (AL:Int)).2.AF=(n.x i).AF∧((n.x i).read (k:Int) (AL:Int)).2.AI=(n.x i).AI∧((n.x i).read (k:Int) (AL:Int)).2.ks=(n.x i).ks∧((n.x i).read (k:Int) (AL:Int)).2.first=(n.x i).first:=by
  unfold AG.read;split
  ·exact⟨rfl,rfl,rfl,rfl⟩
  dsimp only;split<;>exact⟨rfl,rfl,rfl,rfl⟩
 have hww:∀j,((n.x i).read (k:Int) (AL:Int)).2.w j=(n.x i).w j:=fun j=>by unfold AG.w;rw [a2]
 generalize(n.x i).read (k:Int) (AL:Int)=r at a1 a2 a3 a4 a5 hc' hwin hww⊢
 have hwb:((n.x (1-i)).w k).b=(n.e (1-i) k).wrote:=by rw [o.wrote,B?]
 have hfit:=a5.fits;have hdat:=a5.data;rw [hwb,←o.read]at hfit hdat
 have hO:IF ((n.x (1-i)).w k) (r.2.r k) {n.e (1-i) k with read:=(n.e (1-i) k).read+r.1.1.length,state:=r.1.2.1} []:=
  ⟨o.wrote,o.pre,o.finished,o.given,o.code,by rw [a5.read,←o.read],a5.state.symm,o.AE⟩
 refine⟨⟨a5.e,a5.len,hfit,hdat.symm,fun x=>a5.shut (by rw [←o.state];exact x)|>.imp id (fun y=>y.trans o.state.symm),a5.open_,fun e=>?_,fun e=>?_,a5.st⟩,?_⟩
 ·obtain⟨b1,b2,b3⟩:=a5.fin e;refine⟨o.finished.trans b1,?_,b3⟩;rw [←hwb,←b2,a5.read,←o.read]
 ·obtain⟨b1,b2⟩:=a5.CU e;exact⟨o.given.trans b1,b2.trans (o.code (o.given.trans b1)).symm⟩
 ·obtain⟨l1,l2⟩:=UA (n.A3 i r.2) (1-i) k {n.e (1-i) k with read:=(n.e (1-i) k).read+r.1.1.length,state:=r.1.2.1} h.el h.D7 ho hk
  have he:∀j m,((n.A3 i r.2).DJ (1-i) k {n.e (1-i) k with read:=(n.e (1-i) k).read+r.1.1.length,state:=r.1.2.1}).e j m=if 1-i=j∧k=m then {n.e (1-i) k with read:=(n.e (1-i) k).read+r.1.1.length,state:=r.1.2.1}else n.e j m:=
   fun j m=>Na _ (1-i) k j m _ h.el (h.D7 _ ho) ho hk
  have hg':=h.g _ ho;rw [show 1-(1-i)=i by omega]at hg';refine h.MT hi ER (T':=BY) rfl l1 l2 h.cl rfl rfl rfl hc' a1 ((h.g i hi).Gl a3) hg' (fun m hm=>?_) (fun m hm=>?_) h.AN h.cnt hwin.2.2.1 hwin.2.2.2 hwin.2.1 hwin.1 h.bl
  ·rw [he,if_neg Ca,hww];exact h.e i m hi hm
  ·rw [he];by_cases e:k=m
   ·subst e;rw [if_pos Ba];exact hO
   ·rw [if_neg (fun x=>e x.2),a4 m (fun x=>e x.symm)]
    have:=h.e (1-i) m ho hm
    rw [show 1-(1-i)=i by omega]at this;exact this
theorem V4(n:AM)(i k AL:Nat)(h:bG (n.e (1-i) k) AL ((n.x i).read k AL).1):n.read i k AL=
  (true,(n.A3 i ((n.x i).read k AL).2).DJ (1-i) k {n.e (1-i) k with read:=(n.e (1-i) k).read+((n.x i).read k AL).1.1.length,state:=((n.x i).read k AL).1.2.1}):=by
 unfold AM.read;dsimp only;have hst:=h.st
 rw [if_neg (by
  rintro(x|x|x|x|⟨x,y⟩)
  ·exact x h.e
  ·have:=h.len;omega
  ·have:=h.fits;omega
  ·exact x h.data
  ·obtain⟨b1,b2⟩:=h.shut x
   rcases y with y|y
   ·exact y b1
   ·exact y b2)]
 split
 ·rename_i e;rw [decide_eq_true (h.open_ e)]
 split
 ·rename_i e;rw [decide_eq_true (h.fin e)]
 split
 ·rename_i e;rw [decide_eq_true (h.CU e)]
 ·omega
theorem Ak.read(h:Ak t n L R BY){i k:Nat}(hi:i<2)(hk:k<4)(AL:Nat):(n.read i k AL).1=true∧Ak (t+1) (n.read i k AL).2 L R BY:=by
 obtain⟨a,b⟩:=h.reads hi hk AL;rw [V4 n i k AL a];exact⟨rfl,b⟩
theorem Ak.step(h:Ak t n L R BY)(ht:t≤1000000000)(s:DR):(n.step s).1=true∧∃L' R',Ak (t+1) (n.step s).2 L' R' BY:=by
 have p2:AK s.side 2<2:=E7 _ Ca
 have up:∀{n L R},Ak t n L R BY→Ak (t+1) n L R BY:=fun h=>{h with c:=fun i hi=>(h.c i hi).mono ER}
 unfold AM.step;split
 ·obtain⟨a,b⟩:=h.wr p2 (E7 s.a Ca) s.s;exact N6
 split
 ·obtain⟨a,b⟩:=h.fin p2 (E7 s.a Ca);exact N6
 split
 ·obtain⟨a,b⟩:=h.CU p2 (E7 s.a Ca) (E7 s.b (by omega:0<1000));exact N6
 split
 ·exact⟨rfl,L,R,h.tick⟩
 split
 ·obtain⟨a,L',b⟩:=h.flush p2 ht;exact⟨a,L',R,b⟩
 split
 ·obtain⟨a,b⟩:=h.read p2 (E7 s.b Ca) (AK s.a 200);exact⟨a,L,R,b⟩
 split
 ·obtain⟨a,b⟩:=h.Ee p2 s.s.data.toList;exact N6
 ·obtain⟨a,R',b⟩:=h.carry ht s;exact⟨a,L,R',up b⟩
theorem Ak.run(w:Int):∀(l:List DR) (t:Nat) (n:AM) (L:Nat→List (List AT)) (R:Nat→Nat→Prop),Ak t n L R BY→t+l.length≤1000000000→∃n' L' R',AM.run w l n=some n'∧Ak (t+l.length) n' L' R' BY
 |[],t,n,L,R,h,_=>⟨n,L,R,rfl,h⟩
 |s::l,t,n,L,R,h,ht=>by
  have ht':t+(l.length+1)≤1000000000:=ht;rw [AM.run];split
  ·obtain⟨n',L',R',a,b⟩:=Ak.run w l t n L R h Ca;exact⟨n',L',R',a,{b with c:=fun i hi=>(b.c i hi).mono (by show t+l.length≤t+(l.length+1);omega)}⟩
  ·obtain⟨a,L1,R1,b⟩:=h.step Ca s;rw [if_pos a];obtain⟨n',L',R',a',b'⟩:=Ak.run w l (t+1) _ L1 R1 b Ca;exact⟨n',L',R',a',by rw [show t+(s::l).length=t+1+l.length by simp;omega];exact b'⟩
theorem Ak.new{AI AF:Nat}(h1:64≤AI)(h2:AI≤300)(h3:16≤AF)(h4:AF≤1024):Ak 0 (.new AI AF) (fun _=>[]) (fun _ _=>False) BY:=by
 have hr:G4 Aq E6:=⟨Nat.le_refl _,(fun e=>by cases e),(fun e=>by cases e),(fun e=>by cases e),(fun _ p hp=>absurd hp (QU p)),fun e=>by cases e⟩
 have hs:∀b,LT (.new AI AF Dj b) [] (fun _=>False):=fun b=>⟨rfl,(fun p hp=>by rcases hp with hp|hp<;>cases hp),(fun _ h=>nomatch h),fun _ h=>nomatch h⟩
 have hw:∀b k,k<4→(AG.new AI AF Dj b).w k=Aq:=fun b k hk=>MR (P:=fun k=>(AG.new AI AF Dj b).w k=Aq) rfl rfl rfl rfl k hk;have hrr:∀b k,k<4→(AG.new AI AF Dj b).r k=E6:=fun b k hk=>MR (P:=fun k=>(AG.new AI AF Dj b).r k=E6) rfl rfl rfl rfl k hk
 have hp:∀b b',UN (.new AI AF Dj b) (.new AI AF Dj b') [] (fun _=>False):=fun b b'=>
  ⟨(fun _ h=>h.elim),(fun _ _ h=>h.elim),(fun k hk=>by rw [hw b k hk,hrr b' k hk];exact hr),fun k p hk hp=>by rw [hw b k hk]at hp;exact absurd hp (QU p),fun _ _ h=>h.elim⟩
 have hc:∀b,AZ 0 (.new AI AF Dj b):=fun b=>.new h1 h2 h3 h4 rfl
 have two:∀(P:Nat→Prop),P 0→P 1→∀i,i<2→P i:=fun P a b i hi=>by rcases IU hi with rfl|rfl;exact a;exact b
 refine⟨rfl,rfl,two _ rfl rfl,rfl,two _ (hc _) (hc _),⟨hs _,hs _,hp _ _,hp _ _,rfl,rfl,rfl,rfl,rfl⟩,two _ ?_ ?_,fun i k hi hk=>?_,(fun _ h=>nomatch h),two _ rfl rfl,two _ rfl rfl,two _ rfl rfl,two _ rfl rfl,two _ rfl rfl,rfl⟩
 ·exact ZO
 ·exact ZO
 ·have he:(AM.new AI AF).e i k=Df:=by
   rcases IU hi with rfl|rfl
   ·exact MR (P:=fun k=>(AM.new AI AF).e 0 k=Df) rfl rfl rfl rfl k hk
   ·exact MR (P:=fun k=>(AM.new AI AF).e 1 k=Df) rfl rfl rfl rfl k hk
  have hx:((AM.new AI AF).x i).w k=Aq∧((AM.new AI AF).x (1-i)).r k=E6:=by
   rcases IU hi with rfl|rfl
   ·exact⟨hw _ k hk,hrr _ k hk⟩
   ·exact⟨hw _ k hk,hrr _ k hk⟩
  rw [he,hx.1,hx.2];exact⟨rfl,A! _,rfl,rfl,(fun e=>by cases e),rfl,rfl,A! _⟩
end
section
variable{B:World}
def Kept(b o:Nat)(xs:List UInt8)(n:Nat)(b' o':Nat)(ys:List UInt8)(n':Nat)(Q:HP):Prop:=
 ∀s1:List Value,s1.length=n'→∃s2 D,s2.length=n∧AB b' o' ys s1*Q=D*AB b o xs s2
theorem Kept.refl(b o:Nat)(xs:List UInt8)(n:Nat):Kept b o xs n b o xs n HP.BC:=fun s1 h=>⟨s1,HP.BC,h,Cf⟩
theorem Kept.trans{b o n b1 o1 n1 b2 o2 n2:Nat}{xs ys zs:List UInt8}{Q1 Q2:HP}(h1:Kept b o xs n b1 o1 ys n1 Q1)(h2:Kept b1 o1 ys n1 b2 o2 zs n2 Q2):Kept b o xs n b2 o2 zs n2 (Q2*Q1):=by
 intro s2 hs2;obtain⟨s1,D1,e1,e2⟩:=h2 s2 hs2;obtain⟨s0,D0,e3,e4⟩:=h1 s1 e1;refine⟨s0,D1*D0,e3,?_⟩;rw [←HP.assoc,e2,HP.assoc,e4,HP.assoc]
def Dk(b o:Nat)(xs:List UInt8)(s:List Value)(R:HP)(ys:List UInt8)(v:Value)(H':HP):Prop:=
 ∃p' b' o' c' s' Q,v=.slice p' ys.length c'∧Sl p' b' o' ys.length c'∧ys.length*1+s'.length=c'*1∧H'=AB b' o' ys s'*(Q*R)∧Kept b o xs s.length b' o' ys s'.length Q
theorem Dk.after{b o n b1 o1:Nat}{xs ys zs:List UInt8}{s s1:List Value}{Q1 R H':HP}{v:Value}(h1:Kept b o xs s.length b1 o1 ys s1.length Q1)(h:Dk b1 o1 ys s1 (Q1*R) zs v H'):Dk b o xs s R zs v H':=by
 obtain⟨p',b',o',c',s',Q,rfl,h2,h3,rfl,h4⟩:=h;exact⟨p',b',o',c',s',Q*Q1,rfl,h2,h3,by rw [HP.assoc],h1.trans h4⟩
theorem Ol.Xn{p:Option Addr}{b o c:Nat}{xs ys:List UInt8}{s:List Value}{R H':HP}{v:Value}(hs:Sl p b o xs.length c)(hc:xs.length*1+s.length=c*1)(h:Ol p b o c xs s R ys v H'):Dk b o xs s R (xs++ys) v H':=by
 rcases h with⟨h1,rfl,rfl⟩|⟨h1,b',c',s',rfl,h2,h3,rfl⟩
 ·refine⟨p,b,o,c,s.drop (ys.length*AC.sz UInt8),HP.BC,by rw [A_],⟨?_,by rw [A_];exact h1⟩,?_,Cj,?_⟩
  ·exact hs.1
  ·have:AC.sz UInt8=1:=rfl
   rw [A_,E!,this];omega
  ·intro s1 hs1;refine⟨AD ys++s1,HP.BC,?_,?_⟩
   ·have:AC.sz UInt8=1:=rfl
    rw [E!,this]at hs1;rw [A_,Bl,this];omega
   ·unfold AB;rw [Ef,G?];ac_rfl
 ·refine⟨_,b',0,c',s',AB b o xs s,by rw [A_],⟨.inr rfl,by rw [A_];exact h2⟩,?_,rfl,?_⟩
  ·rw [A_];exact h3
  ·intro s1 hs1;exact⟨s,AB b' 0 (xs++ys) s1,rfl,rfl⟩
section
variable{P:Program}{n:Nat}{E:Ay}{D:Br}{d:Option Tmp}{ty:TypeId}{pos:String}{af:Array Edge}{g:Option (Nat×Bool)}{x y:Operand}
theorem Kh{R:HP}{sT xT e by_:Nat}{b o bb oo cc c:Nat}{p pp:Option Addr}
  {xs ys:List UInt8}{s:List Value}{z:Value}[hT:Ar P sT (.slice e)][hT2:Ar P xT (.slice e)][hz:Bg P e 1][hi:Eo P e by_][h0:BO P e z]
  (hx:ev E x=some (.slice p xs.length c))(hs:Sl p b o xs.length c)(hc:xs.length*1+s.length=c*1)
  (hy:ev E y=some (.slice pp ys.length cc))(hs2:Sl pp bb oo ys.length cc)(hr:Ab B (AB b o xs s*R) bb oo ys)(hzc:z.cells.size=1)
  (hb:(xs.length+ys.length)*by_≤140737488355328)(hby:0<by_):
  CE P B n ⟨d,.call ⟨.builtin .append,#[x,y],#[sT,xT]⟩,ty,pos,af,g⟩ E D (AB b o xs s*R) (fun v H'=>Dk b o xs s R (xs++ys) v H'):=by
 intro a w h1 h2 h3 K Q hk;exact XV (α:=UInt8) (hT:=hT) (hT2:=hT2) (hz:=hz) (hi:=hi) (h0:=h0) hx hs hc hy hs2 hr hzc hb hby a w h1 h2 h3 K Q (fun v H' w' h=>hk v H' w' (h.Xn hs hc))
theorem dF{R:HP}{sT xT e by_:Nat}{b o c:Nat}{p:Option Addr}{xs:List UInt8}{s:List Value}{zv:Value}{str:ByteArray}
  [hT:Ar P sT (.slice e)][hT2:Ar P xT .string][hz:Bg P e 1][hi:Eo P e by_][h0:BO P e zv]
  (hx:ev E x=some (.slice p xs.length c))(hs:Sl p b o xs.length c)(hc:xs.length*1+s.length=c*1)
  (hy:ev E y=some (.string str))(hzc:zv.cells.size=1)
  (hb:(xs.length+str.size)*by_≤140737488355328)(hby:0<by_):
  CE P B n ⟨d,.call ⟨.builtin .append,#[x,y],#[sT,xT]⟩,ty,pos,af,g⟩ E D (AB b o xs s*R) (fun v H'=>Dk b o xs s R (xs++str.data.toList) v H'):=by
 intro a w h1 _ h3 K Q hk
 have hl:str.data.toList.length=str.size:=by rw [Array.length_toList];rfl
 have hf:∀w',Sat B (AB b o xs s*R) w'→(Builtin.firstCells (AC.sz UInt8) str.data.toList.length (.string str)).run P w'=.ok (AD str.data.toList).toArray w':=by
  intro w' _
  have e1:(str.extract 0 str.data.toList.length).data=str.data:=by
   rw [hl]
   have:str.extract 0 str.size=str:=ByteArray.extract_zero_size
   rw [this]
  simp only [Builtin.firstCells,e1,LV,Sem.run_pure];congr 1;apply Array.toList_inj.1;rw [Array.toList_map]
 obtain⟨v,w',hrun,H',hH,hw'⟩:=VW (P:=P) (B:=B) (R:=R) (b:=b) (o:=o) (p:=p) (c:=c) (xs:=xs) (ys:=str.data.toList) (s:=s) (sT:=sT) (xT:=xT) (ats:= #[sT,xT]) (e:=e) (by_:=by_) (ty:=ty) (x:=.string str) (w:=w) (z:=zv) hT.get rfl rfl (fun k h=>by rw [hT2.get]at h;cases h) ⟨_,hT2.get⟩ hz.get hi.get h0.get hzc hs hc Cx (fun w2 hw2=>hf w2 hw2) (by rw [hl];exact hb) hby h3
 have hrun2:(execOp a.eval ⟨d,.call ⟨.builtin .append,#[x,y],#[sT,xT]⟩,ty,pos,af,g⟩).run P w=.ok (.value v) w':=by
  simp [execOp,resolve,h1.ev hx,h1.ev hy,invoke,builtin,hrun]
 simp only [Oper.wp,hrun2,Oper.upon];exact hk v H' w' (hH.Xn hs hc) hw'
end
theorem HS(n:Nat)(hn:n≤4611686018427387903)(p:Option Addr)(b o c:Nat)(xs:List UInt8)(s:List Value)(R:HP)(hs:Sl p b o xs.length c)(hc:xs.length*1+s.length=c*1)(hx:xs.length<1000000000000):
  Fn Tryz.prog B 194 [.slice p xs.length c,uN n] (AB b o xs s*R) (fun v H'=>Dk b o xs s R (xs++AU n) v H'):=by
 refine W6 ?_;refine mC (fun hc0=>?_) (fun hc0=>?_)
 ·refine J4 ?_;refine Gx ?_;refine KX ?_;rintro _ _ ⟨b11,rfl,rfl⟩;refine BF (H':=AB b o xs s*(HP.AA b11 0 (AD (AU n))*R)) Um ?_
  have hl:(AU n).length=1:=by simp [AU, *]
  refine Af (Kh (ys:=AU n) (bb:=b11) (oo:=0) (cc:=1) rfl hs hc Cx Js inferInstance rfl JZ Ca) rfl ?_;rintro _ _ ⟨q,b',o',c',s',Q,rfl,h1,h2,rfl,hk⟩;refine J6 ?_;exact OG
 refine J3 ?_;refine JL (Dr (j:=16384) rfl rfl) ?_;refine J3 ?_;refine mC (fun hc1=>?_) (fun hc1=>?_)
 ·refine VQ ?_;rintro _ _ ⟨b23,rfl,rfl⟩;refine BF (H':=AB b o xs s*(HP.AA b23 0 (AD (AU n))*R)) V1 ?_
  have hl:(AU n).length=2:=by simp [AU, *]
  refine Af (Kh (ys:=AU n) (bb:=b23) (oo:=0) (cc:=2) rfl hs hc Cx Js inferInstance rfl JZ Ca) rfl ?_;rintro _ _ ⟨q,b',o',c',s',Q,rfl,h1,h2,rfl,hk⟩;refine J6 ?_;exact OG
 refine J3 ?_;refine JL (Dr (j:=1073741824) rfl rfl) ?_;refine J3 ?_;refine mC (fun hc2=>?_) (fun hc2=>?_)
 ·refine aG ?_;rintro _ _ ⟨b41,rfl,rfl⟩;refine BF (H':=AB b o xs s*(HP.AA b41 0 (AD (AU n))*R)) Xe ?_
  have hl:(AU n).length=4:=by simp [AU, *]
  refine Af (Kh (ys:=AU n) (bb:=b41) (oo:=0) (cc:=4) rfl hs hc Cx Js inferInstance rfl JZ Ca) rfl ?_;rintro _ _ ⟨q,b',o',c',s',Q,rfl,h1,h2,rfl,hk⟩;refine J6 ?_;exact OG
 refine Yg ?_;rintro _ _ ⟨b68,rfl,rfl⟩;refine BF (H':=AB b o xs s*(HP.AA b68 0 (AD (AU n))*R)) Wf ?_
 have hl:(AU n).length=8:=by simp [AU, *]
 refine Af (Kh (ys:=AU n) (bb:=b68) (oo:=0) (cc:=8) rfl hs hc Cx Js inferInstance rfl JZ Ca) rfl ?_;rintro _ _ ⟨q,b',o',c',s',Q,rfl,h1,h2,rfl,hk⟩;refine J4 ?_;exact OG
theorem qR(d:ByteArray)(hd:d.size<1000000000000)(p:Option Addr)(b o c:Nat)(xs:List UInt8)(s:List Value)(R:HP)(hs:Sl p b o xs.length c)(hc:xs.length*1+s.length=c*1)(hx:xs.length<1000000000000):
  Fn Tryz.prog B 200 [.slice p xs.length c,.string d] (AB b o xs s*R) (fun v H'=>Dk b o xs s R (xs++AU d.size++d.data.toList) v H'):=by
 refine mI Tryz.func200 ?_;refine B8 ?_;refine JL FC ?_;refine mE rfl (HS d.size Ca p b o c xs s R hs hc Ca) ?_;rintro _ _ ⟨p9,b9,o9,c9,s9,Q9,rfl,hs9,hc9,rfl,hk9⟩;refine J1 ?_;refine Af (dF (str:=d) rfl hs9 hc9 rfl rfl Zj Ca) rfl ?_;rintro _ _ hG11;obtain⟨p11,b11,o11,c11,s11,Q11,rfl,hs11,hc11,rfl,hk11⟩:=Dk.after (n:=0) hk9 hG11;refine J4 ?_;exact mR [4] (AB b11 o11 (xs++AU d.size++d.data.toList) s11*(Q11*R)) rfl rfl ⟨p11,b11,o11,c11,s11,Q11,rfl,hs11,hc11,rfl,hk11⟩
theorem qG(r:RF)(fb:Nat)(p:Option Addr)(b o c:Nat)(xs:List UInt8)(s:List Value)(R:HP)(hs:Sl p b o xs.length c)(hc:xs.length*1+s.length=c*1)(hx:xs.length<100000000000)(st:Nat)(hst:r.f.stream=(st:Nat))(hst4:st<4)(hcd:r.f.code≤4611686018427387903)(hof:r.f.offset≤4611686018427387903):
  Fn Tryz.prog B 193 [.slice p xs.length c,ptr fb 0] (AB b o xs s*(HP.AA fb 0 (AJ r)*R)) (fun v H'=>Dk b o xs s (HP.AA fb 0 (AJ r)*R) (xs++[4]++AU st++AU r.f.code++AU r.f.offset) v H'):=by
 refine mI Tryz.func193 ?_;have q1:=CO st;have q2:=CO r.f.code;have q3:=CO r.f.offset;refine U' ?_;rintro _ _ ⟨b6,rfl,rfl⟩;refine BA ?_;refine WH ?_;refine An 2 Cb rfl rfl (Kh (ys:=[4]) (bb:=b6) (oo:=0) (cc:=1) rfl hs hc rfl CB inferInstance rfl Ck Ca) ?_;rintro _ _ ⟨p7,b7,o7,c7,s7,Q7,rfl,hs7,hc7,rfl,hk7⟩;refine BA ?_;refine An 8 Cb rfl rfl (BJ rfl (HS (st) Ca p7 b7 o7 c7 (xs++[4]) s7 _ hs7 hc7 Co)) ?_;rintro _ _ hG13;obtain⟨p13,b13,o13,c13,s13,Q13,rfl,hs13,hc13,rfl,hk13⟩:=Dk.after (n:=0) hk7 hG13;refine BA ?_
 refine An 13 Cb rfl rfl (BJ rfl (HS (r.f.code) hcd p13 b13 o13 c13 (xs++[4]++AU st) s13 _ hs13 hc13 Co)) ?_;rintro _ _ hG18;obtain⟨p18,b18,o18,c18,s18,Q18,rfl,hs18,hc18,rfl,hk18⟩:=Dk.after (n:=0) hk13 hG18;refine BA ?_;refine An 18 Cb rfl rfl (BJ rfl (HS (r.f.offset) hof p18 b18 o18 c18 (xs++[4]++AU st++AU r.f.code) s18 _ hs18 hc18 Co)) ?_;rintro _ _ hG23;obtain⟨p23,b23,o23,c23,s23,Q23,rfl,hs23,hc23,rfl,hk23⟩:=Dk.after (n:=0) hk18 hG23;refine DK ?_;refine EL 19 Cb rfl rfl FQ D2 ?_;refine DO ?_;exact mR [4] (AB b23 o23 (xs++[4]++AU st++AU r.f.code++AU r.f.offset) s23*(Q23*(HP.AA fb 0 (AJ r)*R))) rfl rfl ⟨p23,b23,o23,c23,s23,Q23,rfl,hs23,hc23,rfl,hk23⟩
theorem tL(r:RF)(fb:Nat)(p:Option Addr)(b o c:Nat)(xs:List UInt8)(s:List Value)(R:HP)(hs:Sl p b o xs.length c)(hc:xs.length*1+s.length=c*1)(hx:xs.length<100000000000)(st:Nat)(hst:r.f.stream=(st:Nat))(hst4:st<4)(hof:r.f.offset≤4611686018427387903)(hds:r.f.data.size<1000000000000):
  Fn Tryz.prog B 199 [.slice p xs.length c,ptr fb 0] (AB b o xs s*(HP.AA fb 0 (AJ r)*R)) (fun v H'=>Dk b o xs s (HP.AA fb 0 (AJ r)*R) (xs++[bif r.f.fin then 9 else 8]++AU st++AU r.f.offset++AU r.f.data.size++r.f.data.data.toList) v H'):=by
 refine mI Tryz.func199 ?_;have q1:=CO st;have q2:=CO r.f.code;have q3:=CO r.f.offset;refine J7 ?_;refine JL YE ?_;refine J8 ?_;refine Dm ?_;refine J2 ?_;refine CR (α:=Unit) (fun _=>[(0,.slice p xs.length c),(1,ptr fb 0),(5,u8 (bif r.f.fin then 9 else 8))]) (fun _=>AB b o xs s*(HP.AA fb 0 (AJ r)*R)) (fun _=>True) ?_ ?_
 ·refine mc (fun hc0=>?_) (fun hc0=>?_)
  ·refine J1 ?_;refine JL X0 ?_;refine J1 ?_;exact OZ
  refine J1 ?_;exact OZ
 ·rintro z hz;refine V5 ?_;rintro _ _ ⟨b12,rfl,rfl⟩;refine BA ?_;refine aL ?_;refine An 3 Cb rfl rfl (Kh (ys:=[(bif r.f.fin then(9:UInt8)else 8)]) (bb:=b12) (oo:=0) (cc:=1) rfl hs hc rfl CB inferInstance rfl Ck Ca) ?_;rintro _ _ ⟨p13,b13,o13,c13,s13,Q13,rfl,hs13,hc13,rfl,hk13⟩;refine BA ?_;refine An 9 Cb rfl rfl (BJ rfl (HS (st) Ca p13 b13 o13 c13 (xs++[bif r.f.fin then 9 else 8]) s13 _ hs13 hc13 Co)) ?_;rintro _ _ hG19;obtain⟨p19,b19,o19,c19,s19,Q19,rfl,hs19,hc19,rfl,hk19⟩:=Dk.after (n:=0) hk13 hG19;refine BA ?_
  refine An 14 Cb rfl rfl (BJ rfl (HS (r.f.offset) hof p19 b19 o19 c19 (xs++[bif r.f.fin then 9 else 8]++AU st) s19 _ hs19 hc19 Co)) ?_;rintro _ _ hG24;obtain⟨p24,b24,o24,c24,s24,Q24,rfl,hs24,hc24,rfl,hk24⟩:=Dk.after (n:=0) hk19 hG24;refine BA ?_;refine An 19 Cb rfl rfl (BJ rfl (qR r.f.data hds p24 b24 o24 c24 (xs++[bif r.f.fin then 9 else 8]++AU st++AU r.f.offset) s24 _ hs24 hc24 Ck)) ?_;rintro _ _ hG29;obtain⟨p29,b29,o29,c29,s29,Q29,rfl,hs29,hc29,rfl,hk29⟩:=Dk.after (n:=0) hk24 hG29;refine DK ?_;refine PT ?_;refine DO ?_;exact mR [4] (AB b29 o29 (xs++[bif r.f.fin then 9 else 8]++AU st++AU r.f.offset++AU r.f.data.size++r.f.data.data.toList) s29*(Q29*(HP.AA fb 0 (AJ r)*R))) rfl rfl ⟨p29,b29,o29,c29,s29,Q29,rfl,hs29,hc29,rfl,hk29⟩
theorem tJ(r:RF)(fb:Nat)(p:Option Addr)(b o c:Nat)(xs:List UInt8)(s:List Value)(R:HP)(hs:Sl p b o xs.length c)(hc:xs.length*1+s.length=c*1)(hx:xs.length<100000000000)(hrok:r.ok)(hrd:Ab B R r.b r.o r.f.ranges)(hok:GH r.f.ranges)(hrl:r.f.ranges.length<10000000000):
  Fn Tryz.prog B 190 [.slice p xs.length c,ptr fb 0] (AB b o xs s*(HP.AA fb 0 (AJ r)*R)) (fun v H'=>Dk b o xs s (HP.AA fb 0 (AJ r)*R) (xs++[2]++AU (rg r.f.ranges 0).hi++AU (r.f.ranges.length-1)++AU ((rg r.f.ranges 0).hi-(rg r.f.ranges 0).lo)++Bz r.f.ranges (r.f.ranges.length-1)) v H'):=by
 refine mI Tryz.func190 ?_;have hne:0<r.f.ranges.length:=C?.2 hok.1;have h0:=hok.2 0 hne;unfold FZ at h0;have q1:=CO (rg r.f.ranges 0).hi;have q2:=CO (r.f.ranges.length-1);have q3:=CO ((rg r.f.ranges 0).hi-(rg r.f.ranges 0).lo);refine B8 ?_;refine Dm ?_;refine JL W0 ?_;refine JL Z3 ?_;refine Kl ?_;rintro _ _ ⟨b5,rfl,rfl⟩;refine WG ?_;rintro _ _ ⟨b15,rfl,rfl⟩;refine BA ?_
 refine Yc ?_;refine An 2 Cb rfl rfl (Kh (ys:=[2]) (bb:=b15) (oo:=0) (cc:=1) rfl hs hc rfl CB inferInstance rfl Ck Ca) ?_;rintro _ _ ⟨p16,b16,o16,c16,s16,Q16,rfl,hs16,hc16,rfl,hk16⟩;refine BA ?_;refine An 5 Cb rfl rfl (BJ rfl (HS ((rg r.f.ranges 0).hi) h0.2.1 p16 b16 o16 c16 (xs++[2]) s16 _ hs16 hc16 Co)) ?_;rintro _ _ hG19;obtain⟨p19,b19,o19,c19,s19,Q19,rfl,hs19,hc19,rfl,hk19⟩:=Dk.after (n:=0) hk16 hG19;refine BA ?_;refine An 13 Cb rfl rfl (BJ rfl (HS (r.f.ranges.length-1) Ca p19 b19 o19 c19 (xs++[2]++AU (rg r.f.ranges 0).hi) s19 _ hs19 hc19 Co)) ?_;rintro _ _ hG27;obtain⟨p27,b27,o27,c27,s27,Q27,rfl,hs27,hc27,rfl,hk27⟩:=Dk.after (n:=0) hk19 hG27;refine BA ?_;refine An 19 Cb rfl rfl (BJ rfl (HS ((rg r.f.ranges 0).hi-(rg r.f.ranges 0).lo) Ca p27 b27 o27 c27 (xs++[2]++AU (rg r.f.ranges 0).hi++AU (r.f.ranges.length-1)) s27 _ hs27 hc27 Co)) ?_;rintro _ _ hG33;obtain⟨p33,b33,o33,c33,s33,Q33,rfl,hs33,hc33,rfl,hk33⟩:=Dk.after (n:=0) hk27 hG33
 refine DK ?_;refine PT ?_;refine IR ?_;refine HI (AB b33 o33 (xs++[2]++AU (rg r.f.ranges 0).hi++AU (r.f.ranges.length-1)++AU ((rg r.f.ranges 0).hi-(rg r.f.ranges 0).lo)) s33*(Q33*(HP.AA fb 0 (AJ r)*R))) ?_;refine J4 ?_;refine Dm ?_;refine JL cN ?_;refine Jb ?_;generalize hpre:(xs++[2]++AU (rg r.f.ranges 0).hi++AU (r.f.ranges.length-1)++AU ((rg r.f.ranges 0).hi-(rg r.f.ranges 0).lo))=pre at*
 have hpl:pre.length<200000000000:=by rw [←hpre];simp only [A_,E_,List.length_nil];omega
 refine Bk (α:=Nat×Option Addr×Nat×Nat×Nat×List Value×HP) (fun z=>[(0,.slice z.2.1 (pre++Bz r.f.ranges z.1).length z.2.2.2.2.1),(1,ptr fb 0),(38,.slice (sp r.p r.c 1 2) (r.f.ranges.length-1) (r.c-1)),(39,iN (r.f.ranges.length-1)),(40,iN z.1)]) (fun z=>AB z.2.2.1 z.2.2.2.1 (pre++Bz r.f.ranges z.1) z.2.2.2.2.2.1*(z.2.2.2.2.2.2*(HP.AA fb 0 (AJ r)*R))) (fun z=>z.1≤r.f.ranges.length-1∧Sl z.2.1 z.2.2.1 z.2.2.2.1 (pre++Bz r.f.ranges z.1).length z.2.2.2.2.1∧(pre++Bz r.f.ranges z.1).length*1+z.2.2.2.2.2.1.length=z.2.2.2.2.1*1∧Kept b o xs s.length z.2.2.1 z.2.2.2.1 (pre++Bz r.f.ranges z.1) z.2.2.2.2.2.1.length z.2.2.2.2.2.2) (fun z=>r.f.ranges.length-1-z.1) (0,p33,b33,o33,c33,s33,Q33) ⟨A! _,by simpa [Bz]using hs33,by simpa [Bz]using hc33,by simpa only [Bz,B?]using hk33⟩ X7 bZ ?_
 rintro⟨i,p9,b9,o9,c9,s9,Q9⟩ ⟨hi,hs9,hc9,hk9⟩;dsimp only at hi hs9 hc9 hk9⊢;have hel:=Ow r.f.ranges i
 have hyl:(pre++Bz r.f.ranges i).length<900000000000:=by simp;omega
 generalize hys:pre++Bz r.f.ranges i=ys at*;refine J6 ?_;refine mC (fun hlt=>?_) (fun hlt=>?_)
 ·have hk:=hok.2 (i+1) Ca;have hk0:=hok.2 i Ca;unfold FZ at hk hk0;simp only [Nat.add_sub_cancel]at hk;refine J7 ?_;refine JL Vv ?_;refine JL Wg ?_;refine Kl ?_;rintro _ _ ⟨b7,rfl,rfl⟩;refine J1 ?_;refine GA ?_;refine J2 ?_;refine Ao (H':=AB b9 o9 ys s9*(Q9*(HP.AA b7 0 [uN (rg r.f.ranges (i+1)).lo,uN (rg r.f.ranges (i+1)).hi]*(HP.AA fb 0 (AJ r)*R)))) Cf ?_;have v1:=CO ((rg r.f.ranges i).lo-(rg r.f.ranges (i+1)).hi-2);refine U9 ?_;refine EK ?_;refine YI ?_;refine Qg ?_
  refine An 13 Cb rfl rfl (BJ rfl (HS ((rg r.f.ranges i).lo-(rg r.f.ranges (i+1)).hi-2) Ca p9 b9 o9 c9 (ys) s9 _ hs9 hc9 Co)) ?_;rintro _ _ hG58;obtain⟨p58,b58,o58,c58,s58,Q58,rfl,hs58,hc58,rfl,hk58⟩:=Dk.after (n:=0) hk9 hG58;refine BA ?_;refine An 19 Cb rfl rfl (BJ rfl (HS ((rg r.f.ranges (i+1)).hi-(rg r.f.ranges (i+1)).lo) Ca p58 b58 o58 c58 (ys++AU ((rg r.f.ranges i).lo-(rg r.f.ranges (i+1)).hi-2)) s58 _ hs58 hc58 Ck)) ?_;rintro _ _ hG64;obtain⟨p64,b64,o64,c64,s64,Q64,rfl,hs64,hc64,rfl,hk64⟩:=Dk.after (n:=0) hk58 hG64;rw [←hys,YG]at hs64 hc64 hk64⊢;refine BA ?_;refine Ja 20 ?_;refine IR ?_;refine Es ?_;exact Bf (AB b64 o64 (pre++Bz r.f.ranges (i+1)) s64*(Q64*(HP.AA fb 0 (AJ r)*R))) (BW (i+1,p64,b64,o64,c64,s64,Q64) ⟨Ca,hs64,hc64,hk64⟩ aK Gh rfl)
 have hie:i=r.f.ranges.length-1:=by omega
 refine DH ?_;subst hie;rw [←hys]at hs9 hc9 hk9⊢;exact mR [4] (AB b9 o9 (pre++Bz r.f.ranges (r.f.ranges.length-1)) s9*(Q9*(HP.AA fb 0 (AJ r)*R))) rfl rfl (by rw [←hpre]at hs9 hc9 hk9⊢;exact⟨p9,b9,o9,c9,s9,Q9,rfl,hs9,hc9,rfl,hk9⟩)
theorem El.qQ{k:Int}{f1 f2 f3:FuncId}{us1 us2 us3:List Value}{C:HP}(h:El k f1 us1 f2 us2 f3 us3 C)(hk:3≤k∧k≤5)(r:RF)(fb:Nat)(p:Option Addr)(b o c:Nat)(xs:List UInt8)(s:List Value)(R:HP)(hm:G1 r)(hrk:r.f.kind=k)(hok:B0 r.f)(hr:Ab B R r.b r.o r.f.ranges)
  (hs:Sl p b o xs.length c)(hc:xs.length*1+s.length=c*1)(hx:xs.length<100000000000):
  Fn Tryz.prog B f1 ([.slice p xs.length c,ptr fb 0]++us1) (AB b o xs s*(HP.AA fb 0 (AJ r)*(C*R))) (fun v H'=>Dk b o xs s (HP.AA fb 0 (AJ r)*(C*R)) (xs++Ai r.f) v H'):=by
 cases h
 ·omega
 ·omega
 ·have e:xs++Ai r.f=xs++[2]++AU (rg r.f.ranges 0).hi++AU (r.f.ranges.length-1)++AU ((rg r.f.ranges 0).hi-(rg r.f.ranges 0).lo)++Bz r.f.ranges (r.f.ranges.length-1):=by
   simp [Ai,hrk,KD]
  rw [e,HP.BH];exact tJ r fb p b o c xs s R hs hc hx hm.ok hr (hok.2.2.2.2.1.1 hrk) hm.len
 ·obtain⟨h1,h2,h3,h4,h5,h6⟩:=hok
  have e:xs++Ai r.f=xs++[4]++AU r.f.stream.toNat++AU r.f.code++AU r.f.offset:=by simp [Ai,hrk]
  rw [e,HP.BH];exact qG r fb p b o c xs s R hs hc hx r.f.stream.toNat Ca Ca h2 h1
 ·obtain⟨h1,h2,h3,h4,h5,h6⟩:=hok
  have e:xs++Ai r.f=xs++[bif r.f.fin then 9 else 8]++AU r.f.stream.toNat++AU r.f.offset++AU r.f.data.size++r.f.data.data.toList:=by simp [Ai,hrk]
  rw [e,HP.BH];exact tL r fb p b o c xs s R hs hc hx r.f.stream.toNat Ca Ca h1 Qt
 ·omega
theorem Tq(r:RF)(p:Option Addr)(b o c:Nat)(xs:List UInt8)(s:List Value)(R:HP)(hm:G1 r)(hr:Ab B R r.b r.o r.f.ranges)(hs:Sl p b o xs.length c)(hc:xs.length*1+s.length=c*1)(hx:xs.length<100000000000)(hk:DU r.f.kind)(hk35:3≤r.f.kind∧r.f.kind≤5)(hok:B0 r.f):
  Fn Tryz.prog B 138 [.slice p xs.length c,.agg (AJ r).toArray] (AB b o xs s*R) (fun v H'=>Dk b o xs s R (xs++Ai r.f) v H'):=by
 refine mI Tryz.func138 ?_;refine Ky ?_;rintro _ _ ⟨b3,rfl,rfl⟩;refine J6 ?_;refine Dm ?_;refine mE rfl (R9 r.f.kind hk _) ?_;rintro _ _ ⟨bc,f1,us1,f2,us2,f3,us3,C,hF,rfl,rfl⟩;have hw:=hF.So (B:=B);have hq1:=hw.WR;refine J7 ?_;refine I7 ?_;refine J1 ?_;refine DA 11 rfl (fun hg1=>?_) (fun hg1=>?_)
 ·cases hg1
 refine cG ?_;refine mC (fun hcc=>?_) (fun hcc=>?_)
 ·refine J7 ?_
  first
  |exact absurd hok hcc
  |exact mR [4] (AB b21 o21 (xs++Ai r.f) s21*(Q21*R)) rfl rfl ⟨p21,b21,o21,c21,s21,Q21,rfl,hs21,hc21,rfl,hk21⟩
 refine J7 ?_;refine Ks ?_;refine Ui ?_;refine Af (Hg rfl rfl (hF.qQ hk35 r b3 p b o c xs s _ hm rfl hok inferInstance hs hc hx)) rfl ?_;rintro _ _ ⟨p21,b21,o21,c21,s21,Q21,rfl,hs21,hc21,rfl,hk21⟩;refine J4 ?_
 first
 |exact absurd hok hcc
 |exact mR [4] (AB b21 o21 (xs++Ai r.f) s21*(Q21*R)) rfl rfl ⟨p21,b21,o21,c21,s21,Q21,rfl,hs21,hc21,rfl,hk21⟩
end
section
variable{B:World}
structure DI where
 d:BT
 a:Az
 rs:List RF
 f:Az
@[reducible] def GO(m:DI):List Value:=[.slice m.a.p m.d.b.length m.a.c,.slice m.f.p m.rs.length m.f.c,iN m.d.room,.bool (Dy m.d.As)]
def BK(db:Nat)(m:DI):HP:=HP.AA db 0 (GO m)*(m.a.h m.d.b*m.f.h m.rs)
structure DI.ok(m:DI):Prop where
 a:m.a.ok m.d.b
 f:m.f.ok m.rs
 map:m.rs.map (·.f)=m.d.As
 room:m.d.room≤284
 len:m.d.b.length≤m.d.room
theorem DI.ok.rl{m:DI}(h:m.ok):m.rs.length≤284:=by
 have h1:=Oh m.d.As;have h2:=h.len;have h3:=h.room
 have h4:m.rs.length=m.d.As.length:=by rw [←h.map,C!]
 have h5:m.d.b.length=(Av m.d.As).length:=rfl;omega
theorem X6(fs:List AT)(f:AT):Dy (fs++[f])=(Dy fs||decide (f.kind≠3)):=by simp [Dy]
theorem bV(d:BT)(f:AT):({d with As:=d.As++[f]}:BT).b=d.b++Ai f:=by
 show Av (d.As++[f])=_;rw [Rz,Lx];rfl
set_option maxHeartbeats 2000000 in
theorem RQ(db:Nat)(m:DI)(r:RF)(R:HP)(hok:m.ok)(hf:B0 r.f)(hk35:3≤r.f.kind∧r.f.kind≤5)(hmd:G1 r)[hr:Ab B R r.b r.o r.f.ranges]:
  Fn Tryz.prog B 139 [ptr db 0,.agg (AJ r).toArray] (BK db m*R) (fun v H'=>∃m':DI,m'.ok∧m'.d=(m.d.add r.f).getD m.d∧v=.bool (m.d.add r.f).isSome∧H'=BK db m'*R):=by
 refine mI Tryz.func139 ?_;refine Ao (H':=HP.AA db 0 (GO m)*(AB m.a.b m.a.o m.d.b m.a.s*(AB m.f.b m.f.o m.rs m.f.s*R))) (by unfold BK;ac_rfl) ?_;have hbl:=hok.len;have hrm:=hok.room;have hrl:=hok.rl;refine Ky ?_;rintro _ _ ⟨b3,rfl,rfl⟩;refine J4 ?_;refine D5 (HP.AA b3 0 (AJ r)*(HP.AA db 0 (GO m)*(AB m.a.b m.a.o m.d.b m.a.s*(AB m.f.b m.f.o m.rs m.f.s*R)))) 5 7 EI rfl Cb ?_;refine IC ?_;refine JT 4 rfl SS ?_;refine Ea (H':=AB m.a.b m.a.o m.d.b m.a.s*(HP.AA b3 0 (AJ r)*(HP.AA db 0 (GO m)*(AB m.f.b m.f.o m.rs m.f.s*R)))) Cf ?_;refine An 5 Cb rfl rfl (BJ rfl (Tq r m.a.p m.a.b m.a.o m.a.c m.d.b m.a.s _ hmd inferInstance hok.a.1 hok.a.2 Ca VF hk35 hf)) ?_;rintro _ _ ⟨p11,b11,o11,c11,s11,Q11,rfl,hs11,hc11,rfl,hk11⟩;refine DK ?_;refine EL 6 Cb rfl rfl FQ D2 ?_;refine JD ?_;refine B8 ?_;refine Ke ?_;refine mC (fun h18=>?_) (fun h18=>?_)
 ·refine J7 ?_
  have hnone:m.d.add r.f=none:=by unfold BT.add;rw [if_pos h18]
  obtain⟨s2,DD,hl2,he2⟩:=hk11 s11 rfl;refine Dl (H':=DD*(HP.AA b3 0 (AJ r)*(HP.AA db 0 (GO m)*(AB m.a.b m.a.o m.d.b s2*(AB m.f.b m.f.o m.rs m.f.s*R))))) ?_ ?_
  ·have e3:AB b11 o11 (m.d.b++Ai r.f) s11*(Q11*(HP.AA b3 0 (AJ r)*(HP.AA db 0 (GO m)*(AB m.f.b m.f.o m.rs m.f.s*R))))=(AB b11 o11 (m.d.b++Ai r.f) s11*Q11)*(HP.AA b3 0 (AJ r)*(HP.AA db 0 (GO m)*(AB m.f.b m.f.o m.rs m.f.s*R))):=by ac_rfl
   first
    |(rw [e3,he2];ac_rfl)
    |(refine Eq.trans Cf (Eq.trans e3 ?_);rw [he2];ac_rfl)
  exact mR [4] (BK db {m with a:={m.a with s:=s2}}*R) (hE:=⟨fun ww hw=>Sat.right (A:=DD*HP.AA b3 0 (AJ r)) (Eq.mp (by congr 1;unfold BK;show _=DD*HP.AA b3 0 (AJ r)*(HP.AA db 0 (GO m)*(AB m.a.b m.a.o m.d.b s2*AB m.f.b m.f.o m.rs m.f.s)*R);ac_rfl) hw)⟩) rfl rfl ⟨{m with a:={m.a with s:=s2}},⟨⟨hok.a.1,by have:=hok.a.2;show _+s2.length=_;rw [hl2];exact this⟩,hok.f,hok.map,hok.room,hok.len⟩,RH,RH,rfl⟩
 refine DH ?_;refine Ao (H':=HP.AA db 0 [.slice p11 (m.d.b++Ai r.f).length c11,.slice m.f.p m.rs.length m.f.c,iN m.d.room,.bool (Dy m.d.As)]*(AB b11 o11 (m.d.b++Ai r.f) s11*(HP.AA b3 0 (AJ r)*(AB m.f.b m.f.o m.rs m.f.s*(Q11*R))))) Cf ?_;refine D5 (HP.AA db 0 [.slice p11 (m.d.b++Ai r.f).length c11,.slice m.f.p m.rs.length m.f.c,iN m.d.room,.bool (Dy m.d.As)]*(AB b11 o11 (m.d.b++Ai r.f) s11*(HP.AA b3 0 (AJ r)*(Q11*R)))) 10 11 EI rfl Cb ?_;refine LY ?_;refine JT 5 rfl SS ?_;refine An 6 Cb rfl rfl aS ?_;rintro _ _ ⟨b29,rfl,rfl⟩;refine BA ?_;refine Ea (H':=AB m.f.b m.f.o m.rs m.f.s*(HP.AA b29 0 (AD [r])*(HP.AA db 0 [.slice p11 (m.d.b++Ai r.f).length c11,.slice m.f.p m.rs.length m.f.c,iN m.d.room,.bool (Dy m.d.As)]*(AB b11 o11 (m.d.b++Ai r.f) s11*(HP.AA b3 0 (AJ r)*(Q11*R)))))) (by show HP.AA b29 0 _*_=_;rw [show AD [r]=AJ r from B? _];ac_rfl) ?_;refine An 7 Cb rfl rfl (CS (ys:=[r]) (bb:=b29) (oo:=0) (cc:=1) rfl hok.f.1 hok.f.2 rfl CB inferInstance rfl Cm Ca) ?_;rintro _ _ ⟨p30,b30,o30,c30,s30,rfl,hs30,hc30,rfl⟩;refine BA ?_;refine Jn 8 ?_
 refine Pe ?_;refine DF ?_;refine J9 ?_;refine DA 38 rfl (fun hg1=>?_) (fun hg1=>?_)
 ·have hwn:Dy m.d.As=true:=hg1;refine Ha ?_;refine JL JS ?_;refine Bq ?_
  have hsome:m.d.add r.f=some {m.d with As:=m.d.As++[r.f]}:=by unfold BT.add;rw [if_neg h18]
  obtain⟨m2,hm2⟩:∃m2:DI,m2=⟨{m.d with As:=m.d.As++[r.f]},⟨p11,b11,o11,c11,s11⟩,m.rs++[r],⟨p30,b30,o30,c30,s30⟩⟩:=Be
  have hb2:m2.d.b=m.d.b++Ai r.f:=by rw [hm2];exact bV _ _
  have hok2:m2.ok:=by
   refine⟨?_,?_,?_,?_,?_⟩
   ·rw [hb2,hm2];exact⟨hs11,hc11⟩
   ·rw [hm2];exact⟨hs30,hc30⟩
   ·rw [hm2];show(m.rs++[r]).map (·.f)=m.d.As++[r.f];rw [F?,hok.map];rfl
   ·rw [hm2];exact hrm
   ·rw [hb2,hm2];show _≤m.d.room;omega
  have hE2:GO m2=[.slice p11 (m.d.b++Ai r.f).length c11,.slice p30 (m.rs++[r]).length c30,iN m.d.room,.bool (Dy m.d.As||decide (r.f.kind≠3))]:=by
   unfold GO;rw [hb2,hm2];dsimp only;rw [X6]
  refine Dl (H':=HP.AA b3 0 (AJ r)*(HP.AA b29 0 (AD [r])*(Q11*(BK db m2*R)))) ?_ ?_
  ·unfold BK;rw [hE2,hb2]
   have e4:m2.a.h (m.d.b++Ai r.f)=AB b11 o11 (m.d.b++Ai r.f) s11:=by rw [hm2]
   have e5:m2.f.h m2.rs=AB b30 o30 (m.rs++[r]) s30:=by rw [hm2]
   rw [e4,e5,hwn]
   try simp only [I_,H?]
   ac_rfl
  exact ZM
 have hwn:Dy m.d.As=false:=hg1;refine Ho ?_;refine JL (Tp (j:=3) rfl rfl) ?_;refine JL JC ?_;refine Bq ?_
 have hsome:m.d.add r.f=some {m.d with As:=m.d.As++[r.f]}:=by unfold BT.add;rw [if_neg h18]
 obtain⟨m2,hm2⟩:∃m2:DI,m2=⟨{m.d with As:=m.d.As++[r.f]},⟨p11,b11,o11,c11,s11⟩,m.rs++[r],⟨p30,b30,o30,c30,s30⟩⟩:=Be
 have hb2:m2.d.b=m.d.b++Ai r.f:=by rw [hm2];exact bV _ _
 have hok2:m2.ok:=by
  refine⟨?_,?_,?_,?_,?_⟩
  ·rw [hb2,hm2];exact⟨hs11,hc11⟩
  ·rw [hm2];exact⟨hs30,hc30⟩
  ·rw [hm2];show(m.rs++[r]).map (·.f)=m.d.As++[r.f];rw [F?,hok.map];rfl
  ·rw [hm2];exact hrm
  ·rw [hb2,hm2];show _≤m.d.room;omega
 have hE2:GO m2=[.slice p11 (m.d.b++Ai r.f).length c11,.slice p30 (m.rs++[r]).length c30,iN m.d.room,.bool (Dy m.d.As||decide (r.f.kind≠3))]:=by
  unfold GO;rw [hb2,hm2];dsimp only;rw [X6]
 refine Dl (H':=HP.AA b3 0 (AJ r)*(HP.AA b29 0 (AD [r])*(Q11*(BK db m2*R)))) ?_ ?_
 ·unfold BK;rw [hE2,hb2]
  have e4:m2.a.h (m.d.b++Ai r.f)=AB b11 o11 (m.d.b++Ai r.f) s11:=by rw [hm2]
  have e5:m2.f.h m2.rs=AB b30 o30 (m.rs++[r]) s30:=by rw [hm2]
  rw [e4,e5,hwn]
  try simp only [I_,H?]
  ac_rfl
 exact ZM
end
end Go.Proofs.YtgfdlpcdjklcoaaGreatDoor
