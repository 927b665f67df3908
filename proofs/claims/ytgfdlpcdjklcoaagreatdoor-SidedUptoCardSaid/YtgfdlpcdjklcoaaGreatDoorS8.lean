/- A part of this proof: steps of the program, plain facts; no condition. -/
import Derived.Test.YtgfdlpcdjklcoaaGreatDoorS7
namespace Go.Proofs.YtgfdlpcdjklcoaaGreatDoor
open Go Go.RowKit
open _root_.List renaming replicate→a_,length_append→d_,length_eq_zero_iff→g_,replicate_zero→g',append_assoc→h_,append_nil→i_,length_replicate→j_,length_pos_iff→k_,flatMap_append→l_,length_take→n_,length_nil→o_
open _root_.Bool renaming false_ne_true→b_
open _root_.Go.Value renaming bool→c_
open _root_.Int renaming toNat_natCast→e_
open _root_.Nat renaming lt_succ_iff_lt_or_eq→f_,zero_le→j',add_sub_cancel→m_,lt_or_ge→p_,mul_one→q_
set_option linter.unusedVariables false
set_option linter.unusedSimpArgs false
set_option maxRecDepth 20000
section
variable{B:World}
theorem vI(d:ByteArray)(l h n dl:Nat)(hl:l≤h)(hh:h≤d.size)(hn:n=h-l)(hd:n≤dl):(d.data.toList.drop l).take n=(d.extract l h).data.toList.take (min (d.extract l h).size dl):=by
 have hsz:(d.extract l h).size=n:=by rw [ByteArray.size_extract];omega
 rw [hsz,Nat.min_eq_left hd,bA,List.drop_take,List.take_take,hn,Nat.min_self]
structure QR where
 n:Nat
 lo:Nat
 b:List UInt8
 AF:BH
 ca:B9
set_option maxHeartbeats 4000000 in
theorem l1(b o t AG:Nat)(rm:D4)(r:RF)(R:HP)(hok:rm.ok)(hr:GK AG t rm.r)(hw:AG≤1024)(hf:E1 r.f)(hk5:r.f.kind=5)(hb:rm.r.given=false→r.f.offset+r.f.data.size≤rm.r.read+AG)(ht:t<1000000):
  Fn Tryz.prog B 184 [ptr b o,.agg (AI r).toArray] (HP.AA b o (Dr rm)*(C1 rm*R))
   (fun v H'=>∃rm2:D4,rm2.ok∧rm2.r=(rm.r.data r.f).2∧v=iN (rm.r.data r.f).1∧H'=HP.AA b o (Dr rm2)*(C1 rm2*R)):=by
 refine mI Tryz.func184 ?_;have hl:=hr.len;have hrh:=hr.rh;have hhw:=hr.hw;have hrt:=hr.rt;have hoff:=hf.2.2.2.1;have hoe:=hf.2.2.2.2.1 hk5;refine Hj ?_;rintro _ _ ⟨b3,rfl,rfl⟩;refine FC ?_;refine J9 ?_;refine Qf ?_;refine J7 ?_;refine BO (α:=Unit) (fun _=>[(15,.bool (decide (rm.r.ended=true∧(rm.r.end_<(r.f.offset+r.f.data.size)∨r.f.fin=true∧(r.f.offset+r.f.data.size)≠rm.r.end_)))),(0,ptr b o),(3,ptr b3 0),(5,uN (r.f.offset+r.f.data.size))]) (fun _=>HP.AA b3 0 (AI r)*(HP.AA b o (Dr rm)*(C1 rm*R))) (fun _=>True) ?_ ?_
 ·refine J6 ?_;refine CU 20 rfl (fun hg1=>?_) (fun hg1=>?_)
  ·have he:rm.r.ended=true:=hg1;refine LQ ?_;refine Im ?_;refine K1 ?_;refine Mn ?_;refine CJ 27 rfl (fun hg2=>?_) (fun hg2=>?_)
   ·have hgt:rm.r.end_<(r.f.offset+r.f.data.size):=hg2;refine rQ ?_;refine J2 ?_;refine AU () trivial (.cons ?_ CN) rfl;refine FZ ?_;congr 2
    first
     |exact(decide_eq_false (fun h=>b_ (he.symm.trans h.1))).symm
     |exact(decide_eq_true ⟨he,.inl hgt⟩).symm
     |exact decide_eq_decide.2 ⟨fun h=>⟨he,.inr ⟨hfn,h⟩⟩,fun h=>h.2.elim (fun h=>absurd h hgt) (fun h=>h.2)⟩
     |exact(decide_eq_false (fun h=>h.2.elim (fun h=>absurd h hgt) (fun h=>b_ (hfn.symm.trans h.1)))).symm
   have hgt:¬rm.r.end_<(r.f.offset+r.f.data.size):=hg2;refine UH ?_;refine J1 ?_;refine JG F2 ?_;refine J1 ?_;refine CU 30 rfl (fun hg3=>?_) (fun hg3=>?_)
   ·have hfn:r.f.fin=true:=hg3;refine cB ?_;refine J2 ?_;refine AU () trivial (.cons ?_ CN) rfl;refine FZ ?_;congr 2
    first
     |exact(decide_eq_false (fun h=>b_ (he.symm.trans h.1))).symm
     |exact(decide_eq_true ⟨he,.inl hgt⟩).symm
     |exact decide_eq_decide.2 ⟨fun h=>⟨he,.inr ⟨hfn,h⟩⟩,fun h=>h.2.elim (fun h=>absurd h hgt) (fun h=>h.2)⟩
     |exact(decide_eq_false (fun h=>h.2.elim (fun h=>absurd h hgt) (fun h=>b_ (hfn.symm.trans h.1)))).symm
   have hfn:r.f.fin=false:=hg3;refine ZZ ?_;refine J2 ?_;refine AU () trivial (.cons ?_ CN) rfl;refine FZ ?_;congr 2
   first
    |exact(decide_eq_false (fun h=>b_ (he.symm.trans h.1))).symm
    |exact(decide_eq_true ⟨he,.inl hgt⟩).symm
    |exact decide_eq_decide.2 ⟨fun h=>⟨he,.inr ⟨hfn,h⟩⟩,fun h=>h.2.elim (fun h=>absurd h hgt) (fun h=>h.2)⟩
    |exact(decide_eq_false (fun h=>h.2.elim (fun h=>absurd h hgt) (fun h=>b_ (hfn.symm.trans h.1)))).symm
  have he:rm.r.ended=false:=hg1;refine Fh ?_;refine Fh ?_;refine G8 ?_;refine Kl ?_;refine Kl ?_;refine G8 ?_;refine JK ?_;refine AU () trivial (.cons ?_ CN) rfl;refine FZ ?_;congr 2
  first
   |exact(decide_eq_false (fun h=>b_ (he.symm.trans h.1))).symm
   |exact(decide_eq_true ⟨he,.inl hgt⟩).symm
   |exact decide_eq_decide.2 ⟨fun h=>⟨he,.inr ⟨hfn,h⟩⟩,fun h=>h.2.elim (fun h=>absurd h hgt) (fun h=>h.2)⟩
   |exact(decide_eq_false (fun h=>h.2.elim (fun h=>absurd h hgt) (fun h=>b_ (hfn.symm.trans h.1)))).symm
 ·rintro _ _;refine J1 ?_;refine BO (α:=Unit) (fun _=>[(15,.bool (decide (Ma rm.r.ended rm.r.end_ rm.r.high r.f))),(0,ptr b o),(3,ptr b3 0),(5,uN (r.f.offset+r.f.data.size))]) (fun _=>HP.AA b3 0 (AI r)*(HP.AA b o (Dr rm)*(C1 rm*R))) (fun _=>True) ?_ ?_
  ·refine mC (fun h15=>?_) (fun h15=>?_)
   ·refine J1 ?_;exact AU () trivial (.cons (by show some (c_ _)=some (c_ _);congr 2;exact((decide_eq_true h15).trans (decide_eq_true (.inl h15)).symm)) CN) rfl
   refine BO (α:=Unit) (fun _=>[(15,.bool (decide (r.f.fin=true∧(r.f.offset+r.f.data.size)<rm.r.high))),(0,ptr b o),(3,ptr b3 0),(5,uN (r.f.offset+r.f.data.size))]) (fun _=>HP.AA b3 0 (AI r)*(HP.AA b o (Dr rm)*(C1 rm*R))) (fun _=>True) ?_ ?_
   ·refine J4 ?_;refine CU 42 rfl (fun hg4=>?_) (fun hg4=>?_)
    ·have hfn:r.f.fin=true:=hg4;refine W5 ?_;refine J1 ?_;refine W5 ?_;refine J1 ?_;refine JL Xk ?_;refine J2 ?_;refine AU () trivial (.cons ?_ CN) rfl;refine FZ ?_;congr 2
     first
      |exact decide_eq_decide.2 ⟨fun h=>⟨hfn,h⟩,fun h=>h.2⟩
      |exact(decide_eq_false (fun h=>b_ (hfn.symm.trans h.1))).symm
    have hfn:r.f.fin=false:=hg4;refine WN ?_;refine WN ?_;refine JL TY ?_;refine J2 ?_;refine AU () trivial (.cons ?_ CN) rfl;refine FZ ?_;congr 2
    first
     |exact decide_eq_decide.2 ⟨fun h=>⟨hfn,h⟩,fun h=>h.2⟩
     |exact(decide_eq_false (fun h=>b_ (hfn.symm.trans h.1))).symm
   ·rintro _ _;exact AU () trivial (.cons (by show some (c_ _)=some (c_ _);congr 2;exact decide_eq_decide.2 ⟨.inr,fun h=>h.resolve_left h15⟩) CN) rfl
  ·rintro _ _;refine J1 ?_;refine mC (fun hbad=>?_) (fun hbad=>?_)
   ·refine J2 ?_;refine JL PX ?_;refine J5 ?_;exact mR [4] (HP.AA b o (Dr rm)*(C1 rm*R)) rfl rfl ⟨rm,hok,by unfold Ce.data;rw [if_pos hbad],by unfold Ce.data;rw [if_pos hbad];rfl,rfl⟩
   refine J9 ?_;refine mc (fun h50=>?_) (fun h50=>?_)
   ·refine LH ?_;exact mR [4] (HP.AA b o (Dr rm)*(C1 rm*R)) rfl rfl ⟨rm,hok,by unfold Ce.data;rw [if_neg hbad,if_pos h50],by unfold Ce.data;rw [if_neg hbad,if_pos h50];rfl,rfl⟩
   refine J4 ?_;have hb2:=hb h50;have hl2:=hl h50;refine Aq (H':=HP.AA b o (Dr rm)*(AD rm.a.b rm.a.o rm.r.b rm.a.s*(HP.AA b3 0 (AI r)*(AH rm.cq rm.ca rm.r.AF*R)))) (by unfold C1;ac_rfl) ?_;refine J7 ?_;refine JL Ll ?_;refine CR ?_;refine BO (α:=Unit) (fun _=>[(0,ptr b o),(3,ptr b3 0),(5,uN (r.f.offset+r.f.data.size))]) (fun _=>AD rm.a.b rm.a.o (rm.r.b++a_ 0 0) rm.a.s*(HP.AA b o [.slice rm.a.p (rm.r.b++a_ 0 (0:UInt8)).length rm.a.c,ptr rm.cq 0,uN (max rm.r.high (r.f.offset+r.f.data.size)),uN (if r.f.fin then(r.f.offset+r.f.data.size)else rm.r.end_),.bool (rm.r.ended||r.f.fin),.bool rm.r.given,uN rm.r.code,uN rm.r.read,iN rm.r.state]*(HP.AA b3 0 (AI r)*(AH rm.cq rm.ca rm.r.AF*R)))) (fun _=>True) ?_ ?_
   ·refine mc (fun h65=>?_) (fun h65=>?_)
    ·refine BV ?_;exact AU () trivial CN (by rw [h65];show _=AD rm.a.b rm.a.o (rm.r.b++a_ 0 0) rm.a.s*(HP.AA b o [.slice rm.a.p (rm.r.b++a_ 0 (0:UInt8)).length rm.a.c,ptr rm.cq 0,uN (max rm.r.high (r.f.offset+r.f.data.size)),uN (r.f.offset+r.f.data.size),.bool (rm.r.ended||true),.bool rm.r.given,uN rm.r.code,uN rm.r.read,iN rm.r.state]*_);rw [g',i_,Bool.or_true];ac_rfl)
    refine J1 ?_;exact AU () trivial CN (by rw [h65];show _=AD rm.a.b rm.a.o (rm.r.b++a_ 0 0) rm.a.s*(HP.AA b o [.slice rm.a.p (rm.r.b++a_ 0 (0:UInt8)).length rm.a.c,ptr rm.cq 0,uN (max rm.r.high (r.f.offset+r.f.data.size)),uN rm.r.end_,.bool (rm.r.ended||false),.bool rm.r.given,uN rm.r.code,uN rm.r.read,iN rm.r.state]*_);rw [g',i_,Bool.or_false];ac_rfl)
   ·rintro _ _;refine J3 ?_;refine BL (α:=Nat×Ae) (fun z=>[(0,ptr b o),(3,ptr b3 0),(5,uN (r.f.offset+r.f.data.size))]) (fun z=>AD z.2.b z.2.o (rm.r.b++a_ z.1 0) z.2.s*(HP.AA b o [.slice z.2.p (rm.r.b++a_ z.1 (0:UInt8)).length z.2.c,ptr rm.cq 0,uN (max rm.r.high (r.f.offset+r.f.data.size)),uN (if r.f.fin then(r.f.offset+r.f.data.size)else rm.r.end_),.bool (rm.r.ended||r.f.fin),.bool rm.r.given,uN rm.r.code,uN rm.r.read,iN rm.r.state]*(HP.AA b3 0 (AI r)*(AH rm.cq rm.ca rm.r.AF*R)))) (fun z=>z.1≤((max rm.r.high (r.f.offset+r.f.data.size))-(rm.r.read+rm.r.b.length))∧z.2.ok (rm.r.b++a_ z.1 (0:UInt8))) (fun z=>((max rm.r.high (r.f.offset+r.f.data.size))-(rm.r.read+rm.r.b.length))-z.1) (0,rm.a) ⟨j' _,by show Ae.ok rm.a (rm.r.b++a_ 0 (0:UInt8));rw [g',i_];exact hok.1⟩ CN rfl ?_;rintro⟨nz,a1⟩ ⟨hnz,ha1⟩;dsimp only at hnz ha1⊢
    have hbl:(rm.r.b++a_ nz (0:UInt8)).length=rm.r.b.length+nz:=by rw [d_,j_]
    refine J2 ?_;refine mA 16 16 ?_;refine KA ?_;refine JT 8 rfl Dm ?_;refine JT 9 rfl EM ?_;refine JT 10 rfl IU ?_;refine Re ?_;refine JT 15 rfl MI ?_;refine EU ?_;refine mC (fun h88=>?_) (fun h88=>?_)
    ·skip
     have erep:rm.r.b++a_ nz (0:UInt8)++[0]=rm.r.b++a_ (nz+1) 0:=by rw [List.replicate_succ',h_]
     refine J9 ?_;refine AV aD rfl ?_;rintro _ _ ⟨b94,rfl,rfl⟩;refine Aw (H':=AD a1.b a1.o (rm.r.b++a_ nz 0) a1.s*(HP.AA b94 0 (AE [(0:UInt8)])*(HP.AA b o [.slice a1.p (rm.r.b++a_ nz (0:UInt8)).length a1.c,ptr rm.cq 0,uN (max rm.r.high (r.f.offset+r.f.data.size)),uN (if r.f.fin then(r.f.offset+r.f.data.size)else rm.r.end_),.bool (rm.r.ended||r.f.fin),.bool rm.r.given,uN rm.r.code,uN rm.r.read,iN rm.r.state]*(HP.AA b3 0 (AI r)*(AH rm.cq rm.ca rm.r.AF*R))))) (by show HP.AA b94 0 _*_=_;ac_rfl) ?_;refine AV (Bf (ys:=[(0:UInt8)]) (bb:=b94) (oo:=0) (cc:=1) rfl ha1.1 ha1.2 rfl Bc inferInstance rfl Cs Cg) rfl ?_;rintro _ _ ⟨p95,b95,o95,c95,s95,rfl,hs95,hc95,rfl⟩;refine J5 ?_
     refine D8 (H':=HP.AA b94 0 (AE [(0:UInt8)])*(AD (⟨p95,b95,o95,c95,s95⟩:Ae).b (⟨p95,b95,o95,c95,s95⟩:Ae).o (rm.r.b++a_ (nz+1) 0) (⟨p95,b95,o95,c95,s95⟩:Ae).s*(HP.AA b o [.slice (⟨p95,b95,o95,c95,s95⟩:Ae).p (rm.r.b++a_ (nz+1) (0:UInt8)).length (⟨p95,b95,o95,c95,s95⟩:Ae).c,ptr rm.cq 0,uN (max rm.r.high (r.f.offset+r.f.data.size)),uN (if r.f.fin then(r.f.offset+r.f.data.size)else rm.r.end_),.bool (rm.r.ended||r.f.fin),.bool rm.r.given,uN rm.r.code,uN rm.r.read,iN rm.r.state]*(HP.AA b3 0 (AI r)*(AH rm.cq rm.ca rm.r.AF*R))))) (by dsimp only;rw [←erep];ac_rfl) ?_;refine Au (AD (⟨p95,b95,o95,c95,s95⟩:Ae).b (⟨p95,b95,o95,c95,s95⟩:Ae).o (rm.r.b++a_ (nz+1) 0) (⟨p95,b95,o95,c95,s95⟩:Ae).s*(HP.AA b o [.slice (⟨p95,b95,o95,c95,s95⟩:Ae).p (rm.r.b++a_ (nz+1) (0:UInt8)).length (⟨p95,b95,o95,c95,s95⟩:Ae).c,ptr rm.cq 0,uN (max rm.r.high (r.f.offset+r.f.data.size)),uN (if r.f.fin then(r.f.offset+r.f.data.size)else rm.r.end_),.bool (rm.r.ended||r.f.fin),.bool rm.r.given,uN rm.r.code,uN rm.r.read,iN rm.r.state]*(HP.AA b3 0 (AI r)*(AH rm.cq rm.ca rm.r.AF*R)))) ?_
     exact At (nz+1,(⟨p95,b95,o95,c95,s95⟩:Ae)) ⟨by show nz+1≤_;omega,by show Ae.ok _ (rm.r.b++a_ (nz+1) (0:UInt8));rw [←erep];exact⟨hs95,hc95⟩⟩ (by show((max rm.r.high (r.f.offset+r.f.data.size))-(rm.r.read+rm.r.b.length))-(nz+1)<((max rm.r.high (r.f.offset+r.f.data.size))-(rm.r.read+rm.r.b.length))-nz;omega) CN rfl
    refine J7 ?_
    obtain rfl:nz=((max rm.r.high (r.f.offset+r.f.data.size))-(rm.r.read+rm.r.b.length)):=by omega
    refine Aq (H':=AH rm.cq rm.ca rm.r.AF*(HP.AA a1.b a1.o (AE (rm.r.b++a_ ((max rm.r.high (r.f.offset+r.f.data.size))-(rm.r.read+rm.r.b.length)) 0)++a1.s)*(HP.AA b o [.slice a1.p (rm.r.b++a_ ((max rm.r.high (r.f.offset+r.f.data.size))-(rm.r.read+rm.r.b.length)) 0).length a1.c,ptr rm.cq 0,uN (max rm.r.high (r.f.offset+r.f.data.size)),uN (if r.f.fin then(r.f.offset+r.f.data.size)else rm.r.end_),.bool (rm.r.ended||r.f.fin),.bool rm.r.given,uN rm.r.code,uN rm.r.read,iN rm.r.state]*(HP.AA b3 0 (AI r)*R)))) UC ?_;refine mA 8 8 ?_;refine O6 ?_;refine HB ?_;refine JT 6 rfl Ll ?_;refine Ja 7 ?_;refine C3 ?_
    refine BL (α:=QR) (fun z=>[(6,uN z.lo),(0,ptr b o),(3,ptr b3 0),(5,uN (r.f.offset+r.f.data.size))]) (fun z=>AH rm.cq z.ca z.AF*(HP.AA a1.b a1.o (AE z.b++a1.s)*(HP.AA b o [.slice a1.p (rm.r.b++a_ ((max rm.r.high (r.f.offset+r.f.data.size))-(rm.r.read+rm.r.b.length)) 0).length a1.c,ptr rm.cq 0,uN (max rm.r.high (r.f.offset+r.f.data.size)),uN (if r.f.fin then(r.f.offset+r.f.data.size)else rm.r.end_),.bool (rm.r.ended||r.f.fin),.bool rm.r.given,uN rm.r.code,uN rm.r.read,iN rm.r.state]*(HP.AA b3 0 (AI r)*R)))) (fun z=>Gn z.n r.f.offset (r.f.offset+r.f.data.size) r.f.data.data.toList rm.r.read z.lo z.b z.AF=rm.r.filled r.f∧(r.f.offset+r.f.data.size)-z.lo<z.n∧r.f.offset≤z.lo∧rm.r.read≤z.lo∧z.lo<9000000000000000000∧z.b.length=(rm.r.b++a_ ((max rm.r.high (r.f.offset+r.f.data.size))-(rm.r.read+rm.r.b.length)) 0).length∧(C2 z.AF (max rm.r.high (r.f.offset+r.f.data.size))∧z.AF.floor=0∧z.AF.AN=4096)∧(∀n,n<rm.r.read→A3 n z.AF.l)∧z.ca.ok z.AF) (fun z=>z.n) ⟨(r.f.offset+r.f.data.size)+1,max r.f.offset rm.r.read,(rm.r.b++a_ ((max rm.r.high (r.f.offset+r.f.data.size))-(rm.r.read+rm.r.b.length)) 0),rm.r.AF,rm.ca⟩ ⟨rfl,by show(r.f.offset+r.f.data.size)-max r.f.offset rm.r.read<(r.f.offset+r.f.data.size)+1;omega,Nat.le_max_left _ _,Nat.le_max_right _ _,by show max r.f.offset rm.r.read<_;omega,rfl,⟨hr.co.mono Ri,hr.cf,hr.cm⟩,hr.pre,hok.2⟩ BR rfl ?_
    rintro z ⟨z1,z2,z3,z4,z5,z6,z7,z8,z9⟩
    have hb1l:(rm.r.b++a_ ((max rm.r.high (r.f.offset+r.f.data.size))-(rm.r.read+rm.r.b.length)) 0).length=(max rm.r.high (r.f.offset+r.f.data.size))-rm.r.read:=by rw [d_,j_];omega
    have hcl:=U4 z7.1.inc z8 z7.1.hi (by omega:(max rm.r.high (r.f.offset+r.f.data.size))≤rm.r.read+1024);refine J8 ?_;refine mC (fun h107=>?_) (fun h107=>?_)
    ·obtain⟨ga,gb,gc,gd,ge⟩:=HM z.AF.l z.lo (r.f.offset+r.f.data.size) z7.1.inc Cg;refine J5 ?_;refine Fz ?_;refine BV ?_;refine mE rfl (Ra rm.cq z.lo (r.f.offset+r.f.data.size) (max rm.r.high (r.f.offset+r.f.data.size)) z.ca z.AF _ z9 z7.1 Cg Cg) ?_;refine JR ?_;refine BV ?_;refine JL MD ?_;refine J2 ?_;refine mC (fun hgx=>?_) (fun hgx=>?_)
     ·skip
      have hstop:Gn z.n r.f.offset (r.f.offset+r.f.data.size) r.f.data.data.toList rm.r.read z.lo z.b z.AF=(z.b,z.AF):=by
       obtain⟨nn,hnn⟩:∃nn,z.n=nn+1:=⟨z.n-1,Cg⟩
       rw [hnn,Gn];simp only [h107,if_true,hgx]
      refine J8 ?_;refine CZ ?_
      have hfin:rm.r.filled r.f=(z.b,z.AF):=by rw [←z1,hstop]
      have ewr:rm.r.data r.f=(0,rm.r.Kx r.f):=by unfold Ce.data;rw [if_neg hbad,if_neg (by rw [h50];simp)]
      obtain⟨rm2,hrm2⟩:∃rm2:D4,rm2=⟨rm.r.Kx r.f,a1,rm.cq,z.ca⟩:=Bg
      have hdo:rm.r.Kx r.f={rm.r with high:=(max rm.r.high (r.f.offset+r.f.data.size)),ended:=(rm.r.ended||r.f.fin),end_:=(if r.f.fin then(r.f.offset+r.f.data.size)else rm.r.end_),b:=z.b,AF:=z.AF}:=by unfold Ce.Kx;rw [hfin]
      exact mR [4] (HP.AA b o (Dr rm2)*(C1 rm2*R)) (hE:=⟨fun ww hw=>Sat.right (A:=HP.AA b3 0 (AI r)) (Eq.mp (by
       congr 1
       rw [hrm2,hdo]
       unfold C1 AD
       refine bW ?_
       rw [z6]
       ac_rfl) hw)⟩) rfl rfl ⟨rm2,nP,by rw [hrm2,ewr],Cu,rfl⟩
     have hglt:(AR z.lo (r.f.offset+r.f.data.size) z.AF.l).1<(AR z.lo (r.f.offset+r.f.data.size) z.AF.l).2:=by
      rcases p_ (AR z.lo (r.f.offset+r.f.data.size) z.AF.l).1 (AR z.lo (r.f.offset+r.f.data.size) z.AF.l).2 with h|h
      ·exact h
      ·exact absurd (ge h) hgx
     have hdl:((r.f.data.data.toList.drop ((AR z.lo (r.f.offset+r.f.data.size) z.AF.l).1-r.f.offset)).take ((AR z.lo (r.f.offset+r.f.data.size) z.AF.l).2-(AR z.lo (r.f.offset+r.f.data.size) z.AF.l).1)).length=(AR z.lo (r.f.offset+r.f.data.size) z.AF.l).2-(AR z.lo (r.f.offset+r.f.data.size) z.AF.l).1:=by
      rw [n_,List.length_drop,N8];omega
     have hzb:z.b.length=(max rm.r.high (r.f.offset+r.f.data.size))-rm.r.read:=z6.trans hb1l
     have hcap:(max rm.r.high (r.f.offset+r.f.data.size))-rm.r.read≤a1.c:=by have:=ha1.1.2;rw [hb1l]at this;exact this
     have hfl:(AE z.b++a1.s).length=a1.c:=by rw [d_,CD,z6];have:=ha1.2;simp only [Tf,q_]at this⊢;omega
     refine J3 ?_;refine Aq (H':=HP.AA a1.b a1.o (AE z.b++a1.s)*(AH rm.cq z.ca z.AF*(HP.AA b o [.slice a1.p (rm.r.b++a_ ((max rm.r.high (r.f.offset+r.f.data.size))-(rm.r.read+rm.r.b.length)) 0).length a1.c,ptr rm.cq 0,uN (max rm.r.high (r.f.offset+r.f.data.size)),uN (if r.f.fin then(r.f.offset+r.f.data.size)else rm.r.end_),.bool (rm.r.ended||r.f.fin),.bool rm.r.given,uN rm.r.code,uN rm.r.read,iN rm.r.state]*(HP.AA b3 0 (AI r)*R)))) Cm ?_;refine mA 28 29 ?_;refine JF ?_;refine ML ?_;refine JT 9 rfl Ez ?_;refine Jm 10 ?_;refine Re ?_;refine JT 15 rfl Ez ?_;refine JT 16 rfl (PS rfl rfl rfl Cg) ?_;refine Jf 17 ?_;refine Jd 18 ?_;refine Jm 19 ?_;refine Jf 20 ?_;refine Jd 21 ?_;refine JT 22 rfl Ez ?_;refine Jm 23 ?_;refine Jf 24 ?_;refine Jd 25 ?_;refine JT 26 rfl Ez ?_;refine JT 27 rfl (lH rfl rfl rfl Cg) ?_
     refine Al 28 Ch rfl rfl (J_ (b:=a1.b) (o:=a1.o) (k:=(AR z.lo (r.f.offset+r.f.data.size) z.AF.l).1-rm.r.read) (ys:=(r.f.data.data.toList.drop ((AR z.lo (r.f.offset+r.f.data.size) z.AF.l).1-r.f.offset)).take ((AR z.lo (r.f.offset+r.f.data.size) z.AF.l).2-(AR z.lo (r.f.offset+r.f.data.size) z.AF.l).1)) rfl (Er ha1.1 Cg Cg rfl) rfl (vI r.f.data _ _ _ _ Cg (by have:=N8 r.f;omega) Cg Cg) (by rw [hfl];omega)) ?_;refine Lr ?_
     have eput:(AE z.b++a1.s).take ((AR z.lo (r.f.offset+r.f.data.size) z.AF.l).1-rm.r.read)++AE ((r.f.data.data.toList.drop ((AR z.lo (r.f.offset+r.f.data.size) z.AF.l).1-r.f.offset)).take ((AR z.lo (r.f.offset+r.f.data.size) z.AF.l).2-(AR z.lo (r.f.offset+r.f.data.size) z.AF.l).1))++(AE z.b++a1.s).drop ((AR z.lo (r.f.offset+r.f.data.size) z.AF.l).1-rm.r.read+((r.f.data.data.toList.drop ((AR z.lo (r.f.offset+r.f.data.size) z.AF.l).1-r.f.offset)).take ((AR z.lo (r.f.offset+r.f.data.size) z.AF.l).2-(AR z.lo (r.f.offset+r.f.data.size) z.AF.l).1)).length)=AE (G3 z.b ((AR z.lo (r.f.offset+r.f.data.size) z.AF.l).1-rm.r.read) ((r.f.data.data.toList.drop ((AR z.lo (r.f.offset+r.f.data.size) z.AF.l).1-r.f.offset)).take ((AR z.lo (r.f.offset+r.f.data.size) z.AF.l).2-(AR z.lo (r.f.offset+r.f.data.size) z.AF.l).1)))++a1.s:=by
      have h3:=PI z.b ((AR z.lo (r.f.offset+r.f.data.size) z.AF.l).1-rm.r.read) a1.s Cg;have h4:=Uq z.b ((AR z.lo (r.f.offset+r.f.data.size) z.AF.l).1-rm.r.read+((r.f.data.data.toList.drop ((AR z.lo (r.f.offset+r.f.data.size) z.AF.l).1-r.f.offset)).take ((AR z.lo (r.f.offset+r.f.data.size) z.AF.l).2-(AR z.lo (r.f.offset+r.f.data.size) z.AF.l).1)).length) a1.s (by rw [hdl];omega);simp only [Tf,q_]at h3 h4;rw [h3,h4];unfold G3;simp only [E0,h_]
     refine Aq (H':=AH rm.cq z.ca z.AF*(HP.AA a1.b a1.o (AE (G3 z.b ((AR z.lo (r.f.offset+r.f.data.size) z.AF.l).1-rm.r.read) ((r.f.data.data.toList.drop ((AR z.lo (r.f.offset+r.f.data.size) z.AF.l).1-r.f.offset)).take ((AR z.lo (r.f.offset+r.f.data.size) z.AF.l).2-(AR z.lo (r.f.offset+r.f.data.size) z.AF.l).1)))++a1.s)*(HP.AA b o [.slice a1.p (rm.r.b++a_ ((max rm.r.high (r.f.offset+r.f.data.size))-(rm.r.read+rm.r.b.length)) 0).length a1.c,ptr rm.cq 0,uN (max rm.r.high (r.f.offset+r.f.data.size)),uN (if r.f.fin then(r.f.offset+r.f.data.size)else rm.r.end_),.bool (rm.r.ended||r.f.fin),.bool rm.r.given,uN rm.r.code,uN rm.r.read,iN rm.r.state]*(HP.AA b3 0 (AI r)*R)))) (by rw [←eput];ac_rfl) ?_;refine J7 ?_;refine JL Nm ?_;refine mE rfl (L0 rm.cq _ _ (max rm.r.high (r.f.offset+r.f.data.size)) z.ca z.AF _ z9 z7.1 Cg Cg (by rw [z7.2.2];omega) (by rw [z7.2.2];omega)) ?_;rintro _ _ ⟨a157,hs157,rfl⟩;refine J7 ?_;obtain⟨f1,f2,f3,f4⟩:=aU (lo:=(AR z.lo (r.f.offset+r.f.data.size) z.AF.l).1) (hi:=(AR z.lo (r.f.offset+r.f.data.size) z.AF.l).2-1) z7.1 z7.2.1 z7.2.2 Cg Cg Cg
     refine D8 (H':=AH rm.cq (⟨z.n-1,(AR z.lo (r.f.offset+r.f.data.size) z.AF.l).2,G3 z.b ((AR z.lo (r.f.offset+r.f.data.size) z.AF.l).1-rm.r.read) ((r.f.data.data.toList.drop ((AR z.lo (r.f.offset+r.f.data.size) z.AF.l).1-r.f.offset)).take ((AR z.lo (r.f.offset+r.f.data.size) z.AF.l).2-(AR z.lo (r.f.offset+r.f.data.size) z.AF.l).1)),z.AF.add (AR z.lo (r.f.offset+r.f.data.size) z.AF.l).1 ((AR z.lo (r.f.offset+r.f.data.size) z.AF.l).2-1),a157⟩:QR).ca (⟨z.n-1,(AR z.lo (r.f.offset+r.f.data.size) z.AF.l).2,G3 z.b ((AR z.lo (r.f.offset+r.f.data.size) z.AF.l).1-rm.r.read) ((r.f.data.data.toList.drop ((AR z.lo (r.f.offset+r.f.data.size) z.AF.l).1-r.f.offset)).take ((AR z.lo (r.f.offset+r.f.data.size) z.AF.l).2-(AR z.lo (r.f.offset+r.f.data.size) z.AF.l).1)),z.AF.add (AR z.lo (r.f.offset+r.f.data.size) z.AF.l).1 ((AR z.lo (r.f.offset+r.f.data.size) z.AF.l).2-1),a157⟩:QR).AF*(HP.AA a1.b a1.o (AE (⟨z.n-1,(AR z.lo (r.f.offset+r.f.data.size) z.AF.l).2,G3 z.b ((AR z.lo (r.f.offset+r.f.data.size) z.AF.l).1-rm.r.read) ((r.f.data.data.toList.drop ((AR z.lo (r.f.offset+r.f.data.size) z.AF.l).1-r.f.offset)).take ((AR z.lo (r.f.offset+r.f.data.size) z.AF.l).2-(AR z.lo (r.f.offset+r.f.data.size) z.AF.l).1)),z.AF.add (AR z.lo (r.f.offset+r.f.data.size) z.AF.l).1 ((AR z.lo (r.f.offset+r.f.data.size) z.AF.l).2-1),a157⟩:QR).b++a1.s)*(HP.AA b o [.slice a1.p (rm.r.b++a_ ((max rm.r.high (r.f.offset+r.f.data.size))-(rm.r.read+rm.r.b.length)) 0).length a1.c,ptr rm.cq 0,uN (max rm.r.high (r.f.offset+r.f.data.size)),uN (if r.f.fin then(r.f.offset+r.f.data.size)else rm.r.end_),.bool (rm.r.ended||r.f.fin),.bool rm.r.given,uN rm.r.code,uN rm.r.read,iN rm.r.state]*(HP.AA b3 0 (AI r)*R)))) rfl ?_
     refine At (⟨z.n-1,(AR z.lo (r.f.offset+r.f.data.size) z.AF.l).2,G3 z.b ((AR z.lo (r.f.offset+r.f.data.size) z.AF.l).1-rm.r.read) ((r.f.data.data.toList.drop ((AR z.lo (r.f.offset+r.f.data.size) z.AF.l).1-r.f.offset)).take ((AR z.lo (r.f.offset+r.f.data.size) z.AF.l).2-(AR z.lo (r.f.offset+r.f.data.size) z.AF.l).1)),z.AF.add (AR z.lo (r.f.offset+r.f.data.size) z.AF.l).1 ((AR z.lo (r.f.offset+r.f.data.size) z.AF.l).2-1),a157⟩:QR) ⟨?_,?_,?_,?_,?_,?_,⟨f1,f2.trans rfl,f3⟩,fun n hn=>(f4 n).2 (.inr (z8 n hn)),hs157⟩ (by show z.n-1<z.n;omega) BR rfl
     ·obtain⟨nn,hnn⟩:∃nn,z.n=nn+1:=⟨z.n-1,Cg⟩
      rw [←z1,hnn,Gn];simp only [h107,if_true,hgx,if_false,m_]
     ·show(r.f.offset+r.f.data.size)-(AR z.lo (r.f.offset+r.f.data.size) z.AF.l).2<z.n-1;omega
     ·show r.f.offset≤(AR z.lo (r.f.offset+r.f.data.size) z.AF.l).2;omega
     ·show rm.r.read≤(AR z.lo (r.f.offset+r.f.data.size) z.AF.l).2;omega
     ·show(AR z.lo (r.f.offset+r.f.data.size) z.AF.l).2<_;omega
     ·show(G3 _ _ _).length=_;rw [kO (by rw [hdl];omega)];exact z6
    have hstop:Gn z.n r.f.offset (r.f.offset+r.f.data.size) r.f.data.data.toList rm.r.read z.lo z.b z.AF=(z.b,z.AF):=by
     cases z.n with
     |zero=>rfl
     |succ nn=>rw [Gn];simp only [h107,if_false]
    refine J7 ?_;refine CZ ?_
    have hfin:rm.r.filled r.f=(z.b,z.AF):=by rw [←z1,hstop]
    have ewr:rm.r.data r.f=(0,rm.r.Kx r.f):=by unfold Ce.data;rw [if_neg hbad,if_neg (by rw [h50];simp)]
    obtain⟨rm2,hrm2⟩:∃rm2:D4,rm2=⟨rm.r.Kx r.f,a1,rm.cq,z.ca⟩:=Bg
    have hdo:rm.r.Kx r.f={rm.r with high:=(max rm.r.high (r.f.offset+r.f.data.size)),ended:=(rm.r.ended||r.f.fin),end_:=(if r.f.fin then(r.f.offset+r.f.data.size)else rm.r.end_),b:=z.b,AF:=z.AF}:=by unfold Ce.Kx;rw [hfin]
    exact mR [4] (HP.AA b o (Dr rm2)*(C1 rm2*R)) (hE:=⟨fun ww hw=>Sat.right (A:=HP.AA b3 0 (AI r)) (Eq.mp (by
     congr 1
     rw [hrm2,hdo]
     unfold C1 AD
     refine bW ?_
     rw [z6]
     ac_rfl) hw)⟩) rfl rfl ⟨rm2,nP,by rw [hrm2,ewr],Cu,rfl⟩
def FE(m:Ah)(cb:Nat):HP:=AH m.x.gq m.ga m.AO*(BG cb m.ws*Di m)
theorem Nb(cb:Nat)(m:Ah)(R:HP)(j:Nat)(hj:j<m.rs.length):Ac cb m*R=AT cb m.x*(HP.AA cb (0+83+j*9) (Dr (m.rs.getD j AB.AC))*(C1 (m.rs.getD j AB.AC)*(Eo cb m.rs j*(FE m cb*R)))):=by
 unfold Ac FE;rw [uV cb m.rs j hj];ac_rfl
theorem Q4(cb:Nat)(m:Ah)(R:HP)(j:Nat)(hj:j<m.rs.length)(y:D4):Ac cb (m.Bs j y)*R=AT cb m.x*(HP.AA cb (0+83+j*9) (Dr y)*(C1 y*(Eo cb m.rs j*(FE m cb*R)))):=by
 unfold Ac;show AT cb m.x*(AH m.x.gq m.ga m.AO*(BG cb m.ws*(Bl cb (m.rs.set j y)*Di m)))*R=_;rw [i5 cb m.rs j y hj];unfold FE;ac_rfl
set_option maxHeartbeats 4000000 in
theorem cl(cb t:Nat)(m:Ah)(r:RF)(R:HP)(hm:m.ok)(hi:Ak t m.s)(ht:t<1000000)(hf:E1 r.f)(hb:¬m.s.busy r.f)(hro:r.ok)(hrr:AW B R r.b r.o r.f.ranges)(hrl:r.f.ranges.length<100000000):
  Fn Tryz.prog B 146 [ptr cb 0,.agg (AI r).toArray] (Ac cb m*R)
   (fun v H'=>∃m':Ah,m'.ok∧m'.s=(m.s.take r.f).2∧v=iN (m.s.take r.f).1∧H'=Ac cb m'*R):=by
 refine mI Tryz.func146 ?_
 obtain⟨j,hst⟩:∃j:Nat,r.f.stream=(j:Int):=⟨_,(Int.toNat_of_nonneg hf.1).symm⟩
 have hj:j<4:=by have:=hf.2.1;omega
 have hjl:j<m.rs.length:=by rw [Ah.RA hi];exact hj
 have hrok:=Ah.VE hi hj;have hrm2:=hm.rs _ GI
 have erj:m.s.r r.f.stream.toNat=(m.rs.getD j AB.AC).r:=by rw [hst,e_];exact m.Sc j hjl
 have esj:r.f.stream.toNat=j:=by rw [hst,e_]
 refine Hj ?_;rintro _ _ ⟨b3,rfl,rfl⟩;refine CZ ?_;generalize hrm:m.rs.getD j AB.AC=rm at*;refine Aq (H':=HP.AA b3 0 (AI r)*(HP.AA cb (0+83+j*9) (Dr rm)*(C1 rm*(AT cb m.x*(Eo cb m.rs j*(FE m cb*R)))))) (by rw [Nb cb m R j hjl,hrm];show HP.AA b3 0 _*_=_;ac_rfl) ?_;refine mA 7 7 ?_;refine Fr ?_;refine S0 ?_;refine Ja 6 ?_;refine JD ?_;refine BV ?_;refine JL (CI (j:=3) rfl rfl) ?_;refine J3 ?_;refine mC (fun hk3=>?_) (fun hk3=>?_)
 ·have hok3:=hf.2.2.2.2.2 hk3
  have hne3:0<r.f.ranges.length:=by
   rcases Nat.eq_zero_or_pos r.f.ranges.length with h|h
   ·exact absurd (g_.1 h) hok3.1
   ·exact h
  have hhi3:=(hok3.2 0 hne3).2.1;refine J5 ?_;refine Aw (H':=Ac cb m*(HP.AA b3 0 (AI r)*R)) (by rw [Nb cb m _ j hjl,hrm];ac_rfl) ?_;have hrr3:=hrr;refine mE rfl (om cb t m r.f.ranges r.p r.b r.o r.c _ hm hi ht hro inferInstance hne3 hrl Cg) ?_;rintro _ _ ⟨m2,hm2,hs2,rfl,rfl⟩;refine J6 ?_
  have ewr:m.s.take r.f=m.s.Dj r.f.ranges:=by unfold AL.take;rw [if_pos hk3]
  exact mR [4] (Ac cb m2*R) (hE:=⟨fun ww hw=>Sat.right (A:=HP.AA b3 0 (AI r)) (Eq.mp Cv hw)⟩) rfl rfl ⟨m2,hm2,by rw [ewr,hs2],Cu,rfl⟩
 refine J2 ?_;refine JL (CI (j:=4) rfl rfl) ?_;refine J3 ?_;refine mC (fun hk4=>?_) (fun hk4=>?_)
 ·refine J2 ?_;refine BO (α:=Unit) (fun _=>[(43,.bool (decide (rm.r.ended=true∧rm.r.end_≠r.f.offset∨r.f.offset<rm.r.high))),(5,ptr cb (0+83+j*9)),(3,ptr b3 0),(0,ptr cb 0)]) (fun _=>HP.AA b3 0 (AI r)*(HP.AA cb (0+83+j*9) (Dr rm)*(C1 rm*(AT cb m.x*(Eo cb m.rs j*(FE m cb*R)))))) (fun _=>True) ?_ ?_
  ·refine mA 22 22 ?_;refine JF ?_;refine GF 26 rfl (fun hg1=>?_) (fun hg1=>?_)
   ·have he:rm.r.ended=true:=hg1;refine fN ?_;refine DM 35 rfl (fun hg2=>?_) (fun hg2=>?_)
    ·have hne:rm.r.end_≠r.f.offset:=hg2;refine JN 14 rfl T2 ?_;refine YE ?_;refine JT 21 rfl FR ?_;refine JD ?_;refine AU () trivial (.cons ?_ CS) rfl;refine FZ ?_;congr 2
     first
      |exact(decide_eq_true (.inl ⟨he,hne⟩)).symm
      |exact decide_eq_decide.2 ⟨.inr,fun h=>h.elim (fun h=>absurd h.2 hne) id⟩
      |exact decide_eq_decide.2 ⟨.inr,fun h=>h.elim (fun h=>absurd (he.symm.trans h.1) b_) id⟩
    have hne:¬rm.r.end_≠r.f.offset:=hg2;refine kL ?_;refine AU () trivial (.cons ?_ CS) rfl;refine FZ ?_;congr 2
    first
     |exact(decide_eq_true (.inl ⟨he,hne⟩)).symm
     |exact decide_eq_decide.2 ⟨.inr,fun h=>h.elim (fun h=>absurd h.2 hne) id⟩
     |exact decide_eq_decide.2 ⟨.inr,fun h=>h.elim (fun h=>absurd (he.symm.trans h.1) b_) id⟩
   have he:rm.r.ended=false:=hg1;refine QD ?_;refine eG ?_;refine JT 21 rfl GU ?_;refine JD ?_;refine AU () trivial (.cons ?_ CS) rfl;refine FZ ?_;congr 2
   first
    |exact(decide_eq_true (.inl ⟨he,hne⟩)).symm
    |exact decide_eq_decide.2 ⟨.inr,fun h=>h.elim (fun h=>absurd h.2 hne) id⟩
    |exact decide_eq_decide.2 ⟨.inr,fun h=>h.elim (fun h=>absurd (he.symm.trans h.1) b_) id⟩
  ·rintro _ _;refine J1 ?_;refine mC (fun h43=>?_) (fun h43=>?_)
   ·refine J2 ?_;refine JL PX ?_;refine J6 ?_
    have ewr:m.s.take r.f=(7,m.s):=by unfold AL.take;rw [if_neg hk3,if_pos hk4,erj,if_pos h43]
    exact U9
   refine J9 ?_;refine Eb ?_;refine BO (α:=Unit) (fun _=>[(5,ptr cb (0+83+j*9)),(3,ptr b3 0),(0,ptr cb 0)]) (fun _=>HP.AA cb (0+83+j*9) [.slice rm.a.p rm.r.b.length rm.a.c,ptr rm.cq 0,uN rm.r.high,uN rm.r.end_,.bool rm.r.ended,.bool rm.r.given,uN (if rm.r.given then rm.r.code else r.f.code),uN rm.r.read,iN rm.r.state]*(HP.AA b3 0 (AI r)*(C1 rm*(AT cb m.x*(Eo cb m.rs j*(FE m cb*R)))))) (fun _=>True) ?_ ?_
   ·refine mc (fun h48=>?_) (fun h48=>?_)
    ·refine J8 ?_;exact AU () trivial CS (by have h9:rm.r.given=false:=(by simpa using h48);rw [h9];show _=HP.AA cb (0+83+j*9) [.slice rm.a.p rm.r.b.length rm.a.c,ptr rm.cq 0,uN rm.r.high,uN rm.r.end_,.bool rm.r.ended,.bool false,uN r.f.code,uN rm.r.read,iN rm.r.state]*_;rw [←h9];ac_rfl)
    refine J1 ?_;exact AU () trivial CS (by have h9:rm.r.given=true:=(by simpa using h48);rw [if_pos h9];show HP.AA b3 0 _*(HP.AA cb (0+83+j*9) [.slice rm.a.p rm.r.b.length rm.a.c,ptr rm.cq 0,uN rm.r.high,uN rm.r.end_,.bool rm.r.ended,.bool rm.r.given,uN rm.r.code,uN rm.r.read,iN rm.r.state]*_)=_;ac_rfl)
   ·rintro _ _;refine J1 ?_;refine Dc (HP.AA b3 0 (AI r)*(C1 rm*(AT cb m.x*(Eo cb m.rs j*(FE m cb*R))))) 13 14 Dg rfl Ch ?_;refine LX ?_;refine Lb ?_;refine JW ?_;refine Jn 5 ?_;refine Hk ?_;refine D' 7 Ch rfl Fm ?_;refine Gj ?_;refine Jn 8 ?_;refine UK ?_;refine Gj ?_;refine Jn 11 ?_;refine Jf 12 ?_;refine On ?_;refine Dw ?_;refine J4 ?_;refine CZ ?_
    have ewr:m.s.take r.f=(0,m.s.Bs j {rm.r with code:=(if rm.r.given then rm.r.code else r.f.code),given:=true,ended:=true,end_:=r.f.offset}):=by unfold AL.take;rw [if_neg hk3,if_pos hk4,erj,if_neg h43,esj]
    obtain⟨rd2,hrd2⟩:∃rd2:D4,rd2={rm with r:={rm.r with code:=(if rm.r.given then rm.r.code else r.f.code),given:=true,ended:=true,end_:=r.f.offset}}:=Bg
    exact mR [4] (Ac cb (m.Bs j rd2)*R) (hE:=⟨fun ww hw=>Sat.right (A:=HP.AA b3 0 (AI r)) (Eq.mp (by
     congr 1
     rw [Q4 cb m R j hjl,hrd2]
     show _=HP.AA b3 0 (AI r)*(AT cb m.x*(HP.AA cb (0+83+j*9) [.slice rm.a.p rm.r.b.length rm.a.c,ptr rm.cq 0,uN rm.r.high,uN r.f.offset,.bool true,.bool true,uN (if rm.r.given then rm.r.code else r.f.code),uN rm.r.read,iN rm.r.state]*(C1 rm*_)))
     ac_rfl) hw)⟩) rfl rfl ⟨m.Bs j rd2,hm.Bs (by rw [hrd2];exact hrm2),VI,Cu,rfl⟩
 refine J2 ?_;refine JL RG ?_;refine J3 ?_;refine mC (fun hk5=>?_) (fun hk5=>?_)
 ·refine J3 ?_;refine JL N6 ?_;refine Aw (H':=HP.AA cb (0+83+j*9) (Dr rm)*(C1 rm*(HP.AA b3 0 (AI r)*(AT cb m.x*(Eo cb m.rs j*(FE m cb*R)))))) Cm ?_;refine mE rfl (l1 cb (0+83+j*9) t m.x.AG rm r _ hrm2 hrok hi.w2 hf hk5 (fun hg=>by rcases p_ (rm.r.read+m.x.AG) (r.f.offset+r.f.data.size)with h|h;exact absurd ⟨hk5,by rw [erj];exact hg,by rw [erj];exact h⟩ hb;exact h) ht) ?_;rintro _ _ ⟨rd2,hrd2,hrd2e,rfl,rfl⟩;refine J6 ?_
  have ewr:m.s.take r.f=((rm.r.data r.f).1,m.s.Bs j (rm.r.data r.f).2):=by unfold AL.take;rw [if_neg hk3,if_neg hk4,if_pos hk5,erj,esj]
  exact mR [4] (Ac cb (m.Bs j rd2)*R) (hE:=⟨fun ww hw=>Sat.right (A:=HP.AA b3 0 (AI r)) (Eq.mp X2 hw)⟩) rfl rfl ⟨m.Bs j rd2,hm.Bs hrd2,by rw [Ah.S8,ewr,hrd2e],Cu,rfl⟩
 refine J2 ?_;refine JL (CI (j:=6) rfl rfl) ?_;refine J3 ?_;refine mC (fun hk6=>?_) (fun hk6=>?_)
 ·refine J2 ?_;refine JL gV ?_;refine J5 ?_
  have ewr:m.s.take r.f=(10,m.s):=by unfold AL.take;rw [if_neg hk3,if_neg hk4,if_neg hk5,if_pos hk6]
  exact U9
 refine MH ?_
 have ewr:m.s.take r.f=(0,m.s):=by unfold AL.take;rw [if_neg hk3,if_neg hk4,if_neg hk5,if_neg hk6]
 exact U9
end
section
variable{B:World}
theorem CH.of{α:Type}[AB α]{R:HP}{xs:List α}{p:Option Addr}{b o c:Nat}{s:List Value}(h:Sl p b o xs.length c)(h2:xs.length*AB.sz α+s.length=c*AB.sz α):CH R xs (.slice p xs.length c) (AD b o xs s*R):=⟨p,b,o,c,s,rfl,h,h2,rfl⟩
theorem CH.nil(R:HP):CH R ([]:List UInt8) (.slice none 0 0) R:=⟨none,0,0,0,[],rfl,DG,rfl,Cx⟩
theorem gn(xs:List UInt8)(b o c:Nat)(H:HP)(hs:Sl none b o xs.length c)(hr:AW B H b o xs)(hx:xs.length<100000000000):
  Fn Tryz.prog B 148 [.slice none xs.length c] H (fun v H'=>CH H xs v H'):=by
 refine mI Tryz.func148 ?_;refine J9 ?_;refine JL PT ?_;refine J2 ?_;refine mc (fun hc=>?_) (fun hc=>?_);rotate_left
 ·cases hc
 refine J7 ?_;have hx:xs=[]:=g_.1 (by have h1:=hs.1;have h2:=hs.2;rcases h1 with h1|h1;omega;cases h1);exact mr [2] rfl rfl (by rw [hx];exact CH.nil H)
theorem E! (a:Addr)(xs:List UInt8)(b o c:Nat)(H:HP)(hs:Sl (some a) b o xs.length c)(hr:AW B H b o xs)(hx:xs.length<100000000000):
  Fn Tryz.prog B 148 [.slice (some a) xs.length c] H (fun v H'=>CH H xs v H'):=by
 refine mI Tryz.func148 ?_;refine J9 ?_;refine ME ?_;refine mc (fun hc=>?_) (fun hc=>?_)
 ·cases hc
 refine J4 ?_;refine AV (yF) rfl ?_;rintro _ _ ⟨b5,rfl,rfl⟩;refine J1 ?_;refine AV (Bf (α:=UInt8) (xs:=[]) (ys:=xs) (b:=b5) (o:=0) (c:=0) (s:=[]) (bb:=b) (oo:=o) rfl Bc rfl rfl hs inferInstance rfl (by simp only [o_];omega) Cg) rfl ?_;rintro _ _ ⟨p7,b7,o7,c7,s7,rfl,hs7,hc7,rfl⟩;refine J4 ?_;exact mr [2] rfl rfl ⟨p7,b7,o7,c7,s7,rfl,hs7,hc7,rfl⟩
theorem U! (xs:List UInt8)(p:Option Addr)(b o c:Nat)(H:HP)(hs:Sl p b o xs.length c)(hr:AW B H b o xs)(hx:xs.length<100000000000):
  Fn Tryz.prog B 148 [.slice p xs.length c] H (fun v H'=>CH H xs v H'):=by
 cases p with
 |none=>exact gn xs b o c H hs hr hx
 |some a=>exact E! a xs b o c H hs hr hx
set_option maxHeartbeats 4000000 in
theorem U_(cb t:Nat)(m:Ah)(k AN:Int)(R:HP)(hm:m.ok)(hi:Ak t m.s)(ht:t<1000000)(hmo:AN<9223372036854775808):
  Fn Tryz.prog B 95 [ptr cb 0,.int .i64 k,.int .i64 AN] (Ac cb m*R)
   (fun v H'=>∃m':Ah,m'.ok∧∃sv,m'.s=(m.s.read k AN).2∧v=.tuple #[sv,iN (m.s.read k AN).1.2.1,uN (m.s.read k AN).1.2.2.1,Dt (m.s.read k AN).1.2.2.2]∧
    (((m.s.read k AN).1.1=[]∧sv=.slice none 0 0∧H'=Ac cb m'*R)∨((m.s.read k AN).1.1≠ []∧CH (Ac cb m'*R) (m.s.read k AN).1.1 sv H'))):=by
 refine mI Tryz.func95 ?_;have hw2:m.x.AG≤1024:=hi.w2;refine Aq PM ?_;refine L1 ?_;refine Fz ?_;refine J8 ?_;refine TI ?_;refine mC (fun h20=>?_) (fun h20=>?_)
 ·refine J4 ?_;refine FC ?_;refine Fz ?_;refine J5 ?_;refine mR [6,7,8,9] (Ac cb m*R) (hE:=by rw [IS];infer_instance) rfl rfl ⟨m,hm,.slice none 0 0,?_,?_,.inl ⟨?_,rfl,rfl⟩⟩
  ·unfold AL.read;rw [if_pos Vr]
  ·unfold AL.read;rw [if_pos Vr];rfl
  ·unfold AL.read;rw [if_pos Vr]
 have h20:EI m.x.closed k=0:=by simpa using h20
 obtain⟨hcl,j,rfl,hj⟩:=I1 h20
 have hjl:j<m.rs.length:=by rw [Ah.RA hi];exact hj
 have hrok:=Ah.VE hi hj;have hrm2:=hm.rs _ GI;have erj:=m.Sc j hjl;refine Aq (H':=HP.AA cb (0+83+j*9) (Dr (m.rs.getD j AB.AC))*(C1 (m.rs.getD j AB.AC)*(AT cb m.x*(Eo cb m.rs j*(FE m cb*R))))) (by rw [←IS,Nb cb m R j hjl];ac_rfl) ?_;generalize hrm:m.rs.getD j AB.AC=rm at*;refine J8 ?_;refine JL PA ?_;refine J5 ?_;refine BO (α:=Unit) (fun _=>[(37,.bool (decide (rm.r.given=true∧rm.r.state=0))),(11,ptr cb (0+83+j*9)),(2,.int .i64 AN)]) (fun _=>HP.AA cb (0+83+j*9) (Dr rm)*(C1 rm*(AT cb m.x*(Eo cb m.rs j*(FE m cb*R))))) (fun _=>True) ?_ ?_
 ·refine J6 ?_;refine CU 31 rfl (fun hg1=>?_) (fun hg1=>?_)
  ·have hgv:rm.r.given=true:=hg1;refine LQ ?_;refine Ky ?_;refine JL qS ?_;refine GO ?_;refine J1 ?_;refine AU () trivial (.cons ?_ FX) rfl;refine FZ ?_;congr 2
   first
    |exact decide_eq_decide.2 ⟨fun h=>⟨hgv,h⟩,fun h=>h.2⟩
    |exact(decide_eq_false (fun h=>b_ (hgv.symm.trans h.1))).symm
  have hgv:rm.r.given=false:=hg1;refine Fh ?_;refine WX ?_;refine AU () trivial (.cons ?_ FX) rfl;refine FZ ?_;congr 2
  first
   |exact decide_eq_decide.2 ⟨fun h=>⟨hgv,h⟩,fun h=>h.2⟩
   |exact(decide_eq_false (fun h=>b_ (hgv.symm.trans h.1))).symm
 ·rintro _ _;refine J1 ?_;refine BO (α:=D4) (fun _=>[(11,ptr cb (0+83+j*9)),(2,.int .i64 AN)]) (fun z=>HP.AA cb (0+83+j*9) (Dr z)*(C1 z*(AT cb m.x*(Eo cb m.rs j*(FE m cb*R))))) (fun z=>z.ok∧z.r=m.s.GC j) ?_ ?_
  ·refine mC (fun h37=>?_) (fun h37=>?_)
   ·refine J5 ?_;refine Bv jD ?_;refine E5 ?_
    refine Au (HP.AA cb (0+83+j*9) (Dr ⟨{rm.r with state:=2,b:=[]},⟨none,0,0,0,[]⟩,rm.cq,rm.ca⟩)*(C1 ⟨{rm.r with state:=2,b:=[]},⟨none,0,0,0,[]⟩,rm.cq,rm.ca⟩*(AT cb m.x*(Eo cb m.rs j*(FE m cb*R))))) (hE:=⟨fun ww hw=>Sat.right (A:=AD rm.a.b rm.a.o rm.r.b rm.a.s) (Eq.mp (by
     congr 1
     unfold C1
     show _=AD rm.a.b rm.a.o rm.r.b rm.a.s*(HP.AA cb (0+83+j*9) [.slice none 0 0,ptr rm.cq 0,uN rm.r.high,uN rm.r.end_,.bool rm.r.ended,.bool rm.r.given,uN rm.r.code,uN rm.r.read,iN 2]*(AD 0 0 ([]:List UInt8) []*AH rm.cq rm.ca rm.r.AF*(AT cb m.x*(Eo cb m.rs j*(FE m cb*R)))))
     rw [FI,HP.BA]
     ac_rfl) hw)⟩) ?_
    exact AU (⟨{rm.r with state:=2,b:=[]},⟨none,0,0,0,[]⟩,rm.cq,rm.ca⟩:D4) ⟨⟨⟨DG,rfl⟩,hrm2.2⟩,by unfold AL.GC;rw [erj,if_pos h37]⟩ FX rfl
   refine J1 ?_;exact AU rm ⟨hrm2,by unfold AL.GC;rw [erj,if_neg h37]⟩ FX rfl
  ·rintro rm1 ⟨hok1,hrm1⟩;refine J2 ?_
   have hrok1:GK m.x.AG t rm1.r:=by
    rw [hrm1];unfold AL.GC;rw [erj];split
    ·rename_i hc;exact⟨hrok.co,hrok.cf,hrok.cm,hrok.rh,hrok.hw,hrok.pre,(fun h=>by rw [hc.1]at h;cases h),hrok.rt,hrok.en,hrok.code,Nat.le_refl _,fun _=>hc.1⟩
    ·exact hrok
   have hgv0:rm1.r.state=0→rm1.r.given=false:=by
    intro h0;rw [hrm1]at h0⊢;unfold AL.GC at h0⊢;rw [erj]at h0⊢;split at h0
    ·cases h0
    ·rename_i hc;rw [if_neg hc];cases hg:rm.r.given
     ·rfl
     ·exact absurd ⟨hg,h0⟩ hc
   refine BV ?_;refine Kr ?_;refine mC (fun h48=>?_) (fun h48=>?_)
   ·have hlen1:=hrok1.len (hgv0 h48);have hrh1:=hrok1.rh;have hhw1:=hrok1.hw;have hrt1:=hrok1.rt;have hgf:=Jv hrok1.co.inc hrok1.rh hrok1.co.hi;have hgs:=(HM rm1.r.AF.l rm1.r.read rm1.r.high hrok1.co.inc hrok1.rh).1;have hcl:=U4 hrok1.co.inc hrok1.pre hrok1.co.hi (by omega:rm1.r.high≤rm1.r.read+1024)
    have hNle:(min ((AR rm1.r.read rm1.r.high rm1.r.AF.l).1-rm1.r.read) AN.toNat)≤rm1.r.b.length:=by omega
    refine Aq (H':=HP.AA cb (0+83+j*9) (Dr rm1)*(AD rm1.a.b rm1.a.o rm1.r.b rm1.a.s*(AH rm1.cq rm1.ca rm1.r.AF*(AT cb m.x*(Eo cb m.rs j*(FE m cb*R)))))) (by unfold C1;ac_rfl) ?_;refine J1 ?_;refine iU ?_;refine Al 12 Ch rfl rfl (BK rfl (Ra rm1.cq rm1.r.read rm1.r.high rm1.r.high rm1.ca rm1.r.AF _ hok1.2 hrok1.co Cg Cg)) ?_;refine Gj ?_;refine Jm 13 ?_;refine JT 14 rfl Gk ?_;refine JT 15 rfl Gk ?_;refine Ja 16 ?_;refine Ja 17 ?_;refine JD ?_;refine J8 ?_;refine JL Ez ?_;refine J1 ?_;refine JL (Br (v':=iN AN.toNat) (oY (i:=AN) (j:=0) rfl rfl) (by congr 1;split<;>omega)) ?_;refine JL EM ?_;refine JL P' ?_;refine By ?_;refine JL (Qi (k':=(rm1.r.b.take (min ((AR rm1.r.read rm1.r.high rm1.r.AF.l).1-rm1.r.read) AN.toNat)).length) rfl rfl (by have h7:rm1.r.b.length≤rm1.a.c:=hok1.1.1.2;omega) QH) ?_
    refine mE rfl (U! (rm1.r.b.take (min ((AR rm1.r.read rm1.r.high rm1.r.AF.l).1-rm1.r.read) AN.toNat)) rm1.a.p rm1.a.b rm1.a.o rm1.a.c _ ⟨hok1.1.1.1,by have h7:rm1.r.b.length≤rm1.a.c:=hok1.1.1.2;rw [n_];omega⟩ inferInstance QH) ?_;rintro _ _ ⟨p81,b81,o81,c81,s81,rfl,hs81,hc81,rfl⟩;refine BV ?_;refine JL I2 ?_;refine Aw (H':=AD rm1.a.b rm1.a.o rm1.r.b rm1.a.s*(AD b81 o81 (rm1.r.b.take (min ((AR rm1.r.read rm1.r.high rm1.r.AF.l).1-rm1.r.read) AN.toNat)) s81*(HP.AA cb (0+83+j*9) (Dr rm1)*(AH rm1.cq rm1.ca rm1.r.AF*(AT cb m.x*(Eo cb m.rs j*(FE m cb*R))))))) Cm ?_;refine mE rfl (bf rm1.r.b 0 (min ((AR rm1.r.read rm1.r.high rm1.r.AF.l).1-rm1.r.read) AN.toNat) rm1.a.p rm1.a.b rm1.a.o rm1.a.c rm1.a.s _ hok1.1.1 hok1.1.2 C9 hNle Cg) ?_;rintro _ _ ⟨p89,b89,o89,c89,s89,rfl,hs89,hc89,rfl⟩;rw [List.take_zero,List.nil_append]at hs89 hc89⊢;refine CR ?_;refine JL IU ?_;refine J6 ?_
    refine BO (α:=Unit) (fun _=>[(114,.bool (decide (rm1.r.ended=true∧rm1.r.read+(min ((AR rm1.r.read rm1.r.high rm1.r.AF.l).1-rm1.r.read) AN.toNat)=rm1.r.end_))),(11,ptr cb (0+83+j*9)),(12,.slice p81 (rm1.r.b.take (min ((AR rm1.r.read rm1.r.high rm1.r.AF.l).1-rm1.r.read) AN.toNat)).length c81)]) (fun _=>HP.AA cb (0+83+j*9) [.slice p89 (rm1.r.b.drop (min ((AR rm1.r.read rm1.r.high rm1.r.AF.l).1-rm1.r.read) AN.toNat)).length c89,ptr rm1.cq 0,uN rm1.r.high,uN rm1.r.end_,.bool rm1.r.ended,.bool rm1.r.given,uN rm1.r.code,uN (rm1.r.read+(min ((AR rm1.r.read rm1.r.high rm1.r.AF.l).1-rm1.r.read) AN.toNat)),iN rm1.r.state]*(AD b81 o81 (rm1.r.b.take (min ((AR rm1.r.read rm1.r.high rm1.r.AF.l).1-rm1.r.read) AN.toNat)) s81*(AD b89 o89 (rm1.r.b.drop (min ((AR rm1.r.read rm1.r.high rm1.r.AF.l).1-rm1.r.read) AN.toNat)) s89*(AH rm1.cq rm1.ca rm1.r.AF*(AT cb m.x*(Eo cb m.rs j*(FE m cb*R))))))) (fun _=>True) ?_ ?_
    ·refine mA 15 15 ?_;refine JF ?_;refine GF 104 rfl (fun hg2=>?_) (fun hg2=>?_)
     ·have hed:rm1.r.ended=true:=hg2;refine JY 5 rfl hg2 A4 ?_;refine JY 6 rfl hg2 CP ?_;refine JY 7 rfl hg2 A7 ?_;refine JY 8 rfl hg2 Bb ?_;refine JY 9 rfl hg2 A4 ?_;refine JY 10 rfl hg2 CP ?_;refine JY 11 rfl hg2 A7 ?_;refine JY 12 rfl hg2 Bb ?_;refine JY 13 rfl hg2 MO ?_;refine JT 14 rfl Nv ?_;refine JD ?_;refine AU () trivial (.cons ?_ FX) Cm;refine FZ ?_;congr 2
      first
       |exact decide_eq_decide.2 ⟨fun h=>⟨hed,h⟩,fun h=>h.2⟩
       |exact(decide_eq_false (fun h=>b_ (hed.symm.trans h.1))).symm
     have hed:rm1.r.ended=false:=hg2;refine JN 5 rfl hg2 ?_;refine JN 6 rfl hg2 ?_;refine JN 7 rfl hg2 ?_;refine JN 8 rfl hg2 ?_;refine JN 9 rfl hg2 ?_;refine JN 10 rfl hg2 ?_;refine JN 11 rfl hg2 ?_;refine JN 12 rfl hg2 ?_;refine JN 13 rfl hg2 ?_;refine JT 14 rfl Nd ?_;refine JD ?_;refine AU () trivial (.cons ?_ FX) Cm;refine FZ ?_;congr 2
     first
      |exact decide_eq_decide.2 ⟨fun h=>⟨hed,h⟩,fun h=>h.2⟩
      |exact(decide_eq_false (fun h=>b_ (hed.symm.trans h.1))).symm
    ·rintro _ _;refine J1 ?_;refine BO (α:=Unit) (fun _=>[(11,ptr cb (0+83+j*9)),(12,.slice p81 (rm1.r.b.take (min ((AR rm1.r.read rm1.r.high rm1.r.AF.l).1-rm1.r.read) AN.toNat)).length c81)]) (fun _=>AD b81 o81 (rm1.r.b.take (min ((AR rm1.r.read rm1.r.high rm1.r.AF.l).1-rm1.r.read) AN.toNat)) s81*(HP.AA cb (0+83+j*9) [.slice p89 (rm1.r.b.drop (min ((AR rm1.r.read rm1.r.high rm1.r.AF.l).1-rm1.r.read) AN.toNat)).length c89,ptr rm1.cq 0,uN rm1.r.high,uN rm1.r.end_,.bool rm1.r.ended,.bool rm1.r.given,uN rm1.r.code,uN (rm1.r.read+(min ((AR rm1.r.read rm1.r.high rm1.r.AF.l).1-rm1.r.read) AN.toNat)),iN (if rm1.r.ended=true∧rm1.r.read+(min ((AR rm1.r.read rm1.r.high rm1.r.AF.l).1-rm1.r.read) AN.toNat)=rm1.r.end_ then 1 else rm1.r.state)]*(AD b89 o89 (rm1.r.b.drop (min ((AR rm1.r.read rm1.r.high rm1.r.AF.l).1-rm1.r.read) AN.toNat)) s89*(AH rm1.cq rm1.ca rm1.r.AF*(AT cb m.x*(Eo cb m.rs j*(FE m cb*R))))))) (fun _=>True) ?_ ?_
     ·refine mC (fun h114=>?_) (fun h114=>?_)
      ·refine J4 ?_;refine Bv WQ ?_;refine Fq ?_;exact AU () trivial FX (by rw [if_pos h114];ac_rfl)
      refine J1 ?_;exact AU () trivial FX (by rw [if_neg h114];ac_rfl)
     ·rintro _ _;refine J6 ?_;refine Kr ?_;refine mC (fun h120=>?_) (fun h120=>?_)
      ·refine BV ?_;refine JL U0 ?_;refine J2 ?_;refine mC (fun h125=>?_) (fun h125=>?_)
       ·exfalso;split at h125<;>omega
       refine U' ?_
       have ewr:m.s.read (j:Int) AN=((rm1.r.b.take (min ((AR rm1.r.read rm1.r.high rm1.r.AF.l).1-rm1.r.read) AN.toNat),(if rm1.r.ended=true∧rm1.r.read+(min ((AR rm1.r.read rm1.r.high rm1.r.AF.l).1-rm1.r.read) AN.toNat)=rm1.r.end_ then 1 else rm1.r.state),0,0),m.s.Bs j {rm1.r with b:=rm1.r.b.drop (min ((AR rm1.r.read rm1.r.high rm1.r.AF.l).1-rm1.r.read) AN.toNat),read:=rm1.r.read+(min ((AR rm1.r.read rm1.r.high rm1.r.AF.l).1-rm1.r.read) AN.toNat),state:=(if rm1.r.ended=true∧rm1.r.read+(min ((AR rm1.r.read rm1.r.high rm1.r.AF.l).1-rm1.r.read) AN.toNat)=rm1.r.end_ then 1 else rm1.r.state)}):=by
        unfold AL.read;rw [if_neg Rc,e_,←hrm1];dsimp only;rw [if_pos h48];unfold AL.Hl;by_cases hc:rm1.r.ended=true∧rm1.r.read+(min ((AR rm1.r.read rm1.r.high rm1.r.AF.l).1-rm1.r.read) AN.toNat)=rm1.r.end_
        ·rw [if_pos hc,if_pos hc]
        ·rw [if_neg hc,if_neg hc]
       obtain⟨rd2,hrd2⟩:∃rd2:D4,rd2=⟨{rm1.r with b:=rm1.r.b.drop (min ((AR rm1.r.read rm1.r.high rm1.r.AF.l).1-rm1.r.read) AN.toNat),read:=rm1.r.read+(min ((AR rm1.r.read rm1.r.high rm1.r.AF.l).1-rm1.r.read) AN.toNat),state:=(if rm1.r.ended=true∧rm1.r.read+(min ((AR rm1.r.read rm1.r.high rm1.r.AF.l).1-rm1.r.read) AN.toNat)=rm1.r.end_ then 1 else rm1.r.state)},⟨p89,b89,o89,c89,s89⟩,rm1.cq,rm1.ca⟩:=Bg
       have hrk2:rd2.ok:=by rw [hrd2];exact⟨⟨hs89,hc89⟩,hok1.2⟩
       have hnil:rm1.r.b.take (min ((AR rm1.r.read rm1.r.high rm1.r.AF.l).1-rm1.r.read) AN.toNat)=[]:=g_.1 h120
       exact mR [6,7,8,9] (Ac cb (m.Bs j rd2)*R) (hE:=⟨fun ww hw=>Sat.right (A:=AD b81 o81 (rm1.r.b.take (min ((AR rm1.r.read rm1.r.high rm1.r.AF.l).1-rm1.r.read) AN.toNat)) s81) (Eq.mp (by
        congr 1
        rw [Q4 cb m R j hjl,hrd2]
        unfold C1
        refine fU ?_
        ac_rfl) hw)⟩) rfl rfl ⟨m.Bs j rd2,hm.Bs hrk2,.slice none 0 0,VI,Cu,.inl ⟨by rw [ewr];exact hnil,rfl,rfl⟩⟩
      refine J9 ?_;refine JL U0 ?_;refine J2 ?_;refine mC (fun h125=>?_) (fun h125=>?_)
      ·exfalso;split at h125<;>omega
      refine U' ?_
      have ewr:m.s.read (j:Int) AN=((rm1.r.b.take (min ((AR rm1.r.read rm1.r.high rm1.r.AF.l).1-rm1.r.read) AN.toNat),(if rm1.r.ended=true∧rm1.r.read+(min ((AR rm1.r.read rm1.r.high rm1.r.AF.l).1-rm1.r.read) AN.toNat)=rm1.r.end_ then 1 else rm1.r.state),0,0),m.s.Bs j {rm1.r with b:=rm1.r.b.drop (min ((AR rm1.r.read rm1.r.high rm1.r.AF.l).1-rm1.r.read) AN.toNat),read:=rm1.r.read+(min ((AR rm1.r.read rm1.r.high rm1.r.AF.l).1-rm1.r.read) AN.toNat),state:=(if rm1.r.ended=true∧rm1.r.read+(min ((AR rm1.r.read rm1.r.high rm1.r.AF.l).1-rm1.r.read) AN.toNat)=rm1.r.end_ then 1 else rm1.r.state)}):=by
       unfold AL.read;rw [if_neg Rc,e_,←hrm1];dsimp only;rw [if_pos h48];unfold AL.Hl;by_cases hc:rm1.r.ended=true∧rm1.r.read+(min ((AR rm1.r.read rm1.r.high rm1.r.AF.l).1-rm1.r.read) AN.toNat)=rm1.r.end_
       ·rw [if_pos hc,if_pos hc]
       ·rw [if_neg hc,if_neg hc]
      obtain⟨rd2,hrd2⟩:∃rd2:D4,rd2=⟨{rm1.r with b:=rm1.r.b.drop (min ((AR rm1.r.read rm1.r.high rm1.r.AF.l).1-rm1.r.read) AN.toNat),read:=rm1.r.read+(min ((AR rm1.r.read rm1.r.high rm1.r.AF.l).1-rm1.r.read) AN.toNat),state:=(if rm1.r.ended=true∧rm1.r.read+(min ((AR rm1.r.read rm1.r.high rm1.r.AF.l).1-rm1.r.read) AN.toNat)=rm1.r.end_ then 1 else rm1.r.state)},⟨p89,b89,o89,c89,s89⟩,rm1.cq,rm1.ca⟩:=Bg
      have hrk2:rd2.ok:=by rw [hrd2];exact⟨⟨hs89,hc89⟩,hok1.2⟩
      exact mR [6,7,8,9] (AD b81 o81 (rm1.r.b.take (min ((AR rm1.r.read rm1.r.high rm1.r.AF.l).1-rm1.r.read) AN.toNat)) s81*(Ac cb (m.Bs j rd2)*R)) (hE:=⟨fun ww hw=>(Eq.mp (by
       congr 1
       rw [Q4 cb m R j hjl,hrd2]
       unfold C1
       refine fU ?_
       ac_rfl) hw)⟩) rfl rfl ⟨m.Bs j rd2,hm.Bs hrk2,.slice p81 (rm1.r.b.take (min ((AR rm1.r.read rm1.r.high rm1.r.AF.l).1-rm1.r.read) AN.toNat)).length c81,VI,Cu,.inr ⟨by rw [ewr];exact fun h=>h120 (congrArg List.length h),by rw [ewr];exact⟨p81,b81,o81,c81,s81,rfl,hs81,hc81,rfl⟩⟩⟩
   refine J7 ?_;refine Kr ?_;refine mC (fun h120=>?_) (fun h120=>?_);rotate_left
   ·exact absurd rfl h120
   refine BV ?_;refine JL U0 ?_;refine J2 ?_;refine mC (fun h125=>?_) (fun h125=>?_)
   ·refine J1 ?_;refine mA 13 13 ?_;refine NC ?_;refine ML ?_;refine Ja 9 ?_;refine Ja 10 ?_;refine Ja 11 ?_;refine Ja 12 ?_;refine HN ?_
    have ewr:m.s.read (j:Int) AN=(([],rm1.r.state,(if rm1.r.state=2 then rm1.r.code else 0),0),m.s.Bs j rm1.r):=by
     unfold AL.read;rw [if_neg Rc,e_,←hrm1];dsimp only;rw [if_neg h48]
    exact mR [6,7,8,9] (Ac cb (m.Bs j rm1)*R) (hE:=⟨fun ww hw=>Eq.mp X2 hw⟩) rfl rfl ⟨m.Bs j rm1,hm.Bs hok1,.slice none 0 0,by rw [Ah.S8,ewr],by rw [ewr,if_pos h125];rfl,.inl ⟨Cy,rfl,rfl⟩⟩
   refine U' ?_
   have ewr:m.s.read (j:Int) AN=(([],rm1.r.state,(if rm1.r.state=2 then rm1.r.code else 0),0),m.s.Bs j rm1.r):=by
    unfold AL.read;rw [if_neg Rc,e_,←hrm1];dsimp only;rw [if_neg h48]
   exact mR [6,7,8,9] (Ac cb (m.Bs j rm1)*R) (hE:=⟨fun ww hw=>Eq.mp X2 hw⟩) rfl rfl ⟨m.Bs j rm1,hm.Bs hok1,.slice none 0 0,by rw [Ah.S8,ewr],by rw [ewr,if_neg h125];rfl,.inl ⟨Cy,rfl,rfl⟩⟩
end
section
variable{B:World}
theorem II(n:Nat)(hn:n≤4611686018427387903)(p:Option Addr)(b o c:Nat)(xs:List UInt8)(s:List Value)(R:HP)(hs:Sl p b o xs.length c)(hc:xs.length*1+s.length=c*1)(hx:xs.length<1000000000000):
  Fn Tryz.prog B 194 [.slice p xs.length c,uN n] (AD b o xs s*R) (fun v H'=>CH R (xs++AQ n) v H'):=by
 refine mD ?_;refine mC (fun hc0=>?_) (fun hc0=>?_)
 ·refine J4 ?_;refine H8 ?_;refine FM ?_;rintro _ _ ⟨b11,rfl,rfl⟩;refine Aw (H':=AD b o xs s*(HP.AA b11 0 (AE (AQ n))*R)) Y7 ?_
  have hl:(AQ n).length=1:=by simp [AQ, *]
  refine AV (Bf (ys:=AQ n) (bb:=b11) (oo:=0) (cc:=1) rfl hs hc KR LY inferInstance rfl Lj Cg) rfl ?_;rintro _ _ ⟨q,b',o',c',s',rfl,h1,h2,rfl⟩;refine J6 ?_;exact S1
 refine J3 ?_;refine JL (GH (j:=16384) rfl rfl) ?_;refine J3 ?_;refine mC (fun hc1=>?_) (fun hc1=>?_)
 ·refine bM ?_;rintro _ _ ⟨b23,rfl,rfl⟩;refine Aw (H':=AD b o xs s*(HP.AA b23 0 (AE (AQ n))*R)) lW ?_
  have hl:(AQ n).length=2:=by simp [AQ, *]
  refine AV (Bf (ys:=AQ n) (bb:=b23) (oo:=0) (cc:=2) rfl hs hc KR LY inferInstance rfl Lj Cg) rfl ?_;rintro _ _ ⟨q,b',o',c',s',rfl,h1,h2,rfl⟩;refine J6 ?_;exact S1
 refine J3 ?_;refine JL (GH (j:=1073741824) rfl rfl) ?_;refine J3 ?_;refine mC (fun hc2=>?_) (fun hc2=>?_)
 ·refine YY ?_;rintro _ _ ⟨b41,rfl,rfl⟩;refine Aw (H':=AD b o xs s*(HP.AA b41 0 (AE (AQ n))*R)) rZ ?_
  have hl:(AQ n).length=4:=by simp [AQ, *]
  refine AV (Bf (ys:=AQ n) (bb:=b41) (oo:=0) (cc:=4) rfl hs hc KR LY inferInstance rfl Lj Cg) rfl ?_;rintro _ _ ⟨q,b',o',c',s',rfl,h1,h2,rfl⟩;refine J6 ?_;exact S1
 refine kZ ?_;rintro _ _ ⟨b68,rfl,rfl⟩;refine Aw (H':=AD b o xs s*(HP.AA b68 0 (AE (AQ n))*R)) Ya ?_
 have hl:(AQ n).length=8:=by simp [AQ, *]
 refine AV (Bf (ys:=AQ n) (bb:=b68) (oo:=0) (cc:=8) rfl hs hc KR LY inferInstance rfl Lj Cg) rfl ?_;rintro _ _ ⟨q,b',o',c',s',rfl,h1,h2,rfl⟩;refine J4 ?_;exact S1
theorem yR(d:ByteArray)(hd:d.size<1000000000000)(p:Option Addr)(b o c:Nat)(xs:List UInt8)(s:List Value)(R:HP)(hs:Sl p b o xs.length c)(hc:xs.length*1+s.length=c*1)(hx:xs.length<1000000000000):
  Fn Tryz.prog B 200 [.slice p xs.length c,.string d] (AD b o xs s*R) (fun v H'=>CH R (xs++AQ d.size++d.data.toList) v H'):=by
 refine mI Tryz.func200 ?_;refine By ?_;refine JL EM ?_;refine mE rfl (II d.size Cg p b o c xs s R hs hc Cg) ?_;rintro _ _ ⟨p9,b9,o9,c9,s9,rfl,hs9,hc9,rfl⟩;refine J1 ?_;refine AV (kW (str:=d) rfl hs9 hc9 rfl rfl Z0 Cg) rfl ?_;rintro _ _ ⟨q,b',o',c',s',rfl,h1,h2,rfl⟩;refine J4 ?_;exact mR [4] (AD b' o' (xs++AQ d.size++d.data.toList) s'*R) rfl rfl ⟨q,b',o',c',s',rfl,h1,h2,rfl⟩
theorem sg(t:UInt8)(bt:Nat)(r:RF)(fb:Nat)(p:Option Addr)(b o c:Nat)(xs:List UInt8)(s:List Value)(R:HP)(hs:Sl p b o xs.length c)(hc:xs.length*1+s.length=c*1)(hx:xs.length<100000000000):
  Fn Tryz.prog B 217 [.slice p xs.length c,ptr fb 0,ptr bt 0] (AD b o xs s*(HP.AA fb 0 (AI r)*(HP.AA bt 0 [u8 t]*R))) (fun v H'=>CH (HP.AA fb 0 (AI r)*(HP.AA bt 0 [u8 t]*R)) (xs++[t]) v H'):=by
 refine mI Tryz.func217 ?_;refine Ke ?_;refine FM ?_;rintro _ _ ⟨b8,rfl,rfl⟩;refine Aw (H':=AD b o xs s*(HP.AA b8 0 (AE [t])*(HP.AA fb 0 (AI r)*(HP.AA bt 0 [u8 t]*R)))) I0 ?_;refine AV (Bf (ys:=[t]) (bb:=b8) (oo:=0) (cc:=1) rfl hs hc rfl Bc inferInstance rfl Cq Cg) rfl ?_;rintro _ _ ⟨p9,b9,o9,c9,s9,rfl,hs9,hc9,rfl⟩;refine J4 ?_;exact mR [5] (AD b9 o9 (xs++[t]) s9*(HP.AA fb 0 (AI r)*(HP.AA bt 0 [u8 t]*R))) rfl rfl ⟨p9,b9,o9,c9,s9,rfl,hs9,hc9,rfl⟩
theorem rO(fb:Nat)(H:HP):Fn Tryz.prog B 205 [ptr fb 0] H (fun v H'=>v=ptr fb (0+3)∧H'=H):=by
 refine mI Tryz.func205 ?_;refine FL ?_;exact NJ
theorem bz(bt bq:Nat)(r:RF)(fb:Nat)(p:Option Addr)(b o c:Nat)(xs:List UInt8)(s:List Value)(R:HP)(hs:Sl p b o xs.length c)(hc:xs.length*1+s.length=c*1)(hx:xs.length<100000000000)(hcd:r.f.code≤4611686018427387903):
  Fn Tryz.prog B 219 [.slice p xs.length c,ptr fb 0,ptr bt 0,ptr bq 0] (AD b o xs s*(HP.AA fb 0 (AI r)*(HP.AA bt 0 [u8 28]*(HP.AA bq 0 [.func (.func 205) #[] #[]]*R)))) (fun v H'=>CH (HP.AA fb 0 (AI r)*(HP.AA bt 0 [u8 28]*(HP.AA bq 0 [.func (.func 205) #[] #[]]*R))) (xs++[28]++AQ r.f.code) v H'):=by
 refine mI Tryz.func219 ?_;refine J6 ?_;refine Dc (HP.AA fb 0 (AI r)*(HP.AA bt 0 [u8 28]*(HP.AA bq 0 [.func (.func 205) #[] #[]]*R))) 6 11 Dg rfl Ch ?_;refine Fr ?_;refine Jd 1 ?_;refine JW ?_;refine Jm 5 ?_;refine Al 2 Ch rfl rfl I3 ?_;rintro _ _ ⟨b9,rfl,rfl⟩;refine BF ?_;refine FB (H':=AD b o xs s*(HP.AA b9 0 (AE [(28:UInt8)])*(HP.AA fb 0 (AI r)*(HP.AA bt 0 [u8 28]*(HP.AA bq 0 [.func (.func 205) #[] #[]]*R))))) I0 ?_;refine Al 3 Ch rfl rfl (Bf (ys:=[28]) (bb:=b9) (oo:=0) (cc:=1) rfl hs hc rfl Bc inferInstance rfl Cq Cg) ?_;rintro _ _ ⟨p10,b10,o10,c10,s10,rfl,hs10,hc10,rfl⟩;refine BF ?_;refine Al 6 Ch rfl rfl (Iz rfl rfl (rO fb _)) ?_;refine JR ?_;refine DS ?_;refine Ec 7 Ch rfl rfl CP EO ?_;refine Ec 8 Ch rfl rfl D7 EO ?_;refine Al 9 Ch rfl rfl (BK rfl (II r.f.code hcd p10 b10 o10 c10 (xs++[28]) s10 _ hs10 hc10 Cq)) ?_;rintro _ _ ⟨p16,b16,o16,c16,s16,rfl,hs16,hc16,rfl⟩;refine UX ?_;refine C3 ?_
 exact mR [6] (AD b16 o16 (xs++[28]++AQ r.f.code) s16*(HP.AA fb 0 (AI r)*(HP.AA bt 0 [u8 28]*(HP.AA bq 0 [.func (.func 205) #[] #[]]*R)))) rfl rfl ⟨p16,b16,o16,c16,s16,rfl,hs16,hc16,rfl⟩
theorem gz(r:RF)(fb:Nat)(p:Option Addr)(b o c:Nat)(xs:List UInt8)(s:List Value)(R:HP)(hs:Sl p b o xs.length c)(hc:xs.length*1+s.length=c*1)(hx:xs.length<100000000000)(st:Nat)(hst:r.f.stream=(st:Nat))(hst4:st<4)(hcd:r.f.code≤4611686018427387903)(hof:r.f.offset≤4611686018427387903):
  Fn Tryz.prog B 193 [.slice p xs.length c,ptr fb 0] (AD b o xs s*(HP.AA fb 0 (AI r)*R)) (fun v H'=>CH (HP.AA fb 0 (AI r)*R) (xs++[4]++AQ st++AQ r.f.code++AQ r.f.offset) v H'):=by
 refine mI Tryz.func193 ?_;have q1:=B8 st;have q2:=B8 r.f.code;have q3:=B8 r.f.offset;refine eF ?_;rintro _ _ ⟨b6,rfl,rfl⟩;refine BF ?_;refine oF ?_;refine Al 2 Ch rfl rfl (Bf (ys:=[4]) (bb:=b6) (oo:=0) (cc:=1) rfl hs hc rfl Bc inferInstance rfl Cq Cg) ?_;rintro _ _ ⟨p7,b7,o7,c7,s7,rfl,hs7,hc7,rfl⟩;refine BF ?_;refine Al 8 Ch rfl rfl (BK rfl (II (st) Cg p7 b7 o7 c7 (xs++[4]) s7 _ hs7 hc7 Cz)) ?_;rintro _ _ ⟨p13,b13,o13,c13,s13,rfl,hs13,hc13,rfl⟩;refine BF ?_;refine Al 13 Ch rfl rfl (BK rfl (II (r.f.code) hcd p13 b13 o13 c13 (xs++[4]++AQ st) s13 _ hs13 hc13 Cz)) ?_
 rintro _ _ ⟨p18,b18,o18,c18,s18,rfl,hs18,hc18,rfl⟩;refine BF ?_;refine Al 18 Ch rfl rfl (BK rfl (II (r.f.offset) hof p18 b18 o18 c18 (xs++[4]++AQ st++AQ r.f.code) s18 _ hs18 hc18 Cz)) ?_;rintro _ _ ⟨p23,b23,o23,c23,s23,rfl,hs23,hc23,rfl⟩;refine DS ?_;refine Ec 19 Ch rfl rfl Fl EO ?_;refine C3 ?_;exact mR [4] (AD b23 o23 (xs++[4]++AQ st++AQ r.f.code++AQ r.f.offset) s23*(HP.AA fb 0 (AI r)*R)) rfl rfl ⟨p23,b23,o23,c23,s23,rfl,hs23,hc23,rfl⟩
theorem i8(r:RF)(fb:Nat)(p:Option Addr)(b o c:Nat)(xs:List UInt8)(s:List Value)(R:HP)(hs:Sl p b o xs.length c)(hc:xs.length*1+s.length=c*1)(hx:xs.length<100000000000)(st:Nat)(hst:r.f.stream=(st:Nat))(hst4:st<4)(hof:r.f.offset≤4611686018427387903)(hds:r.f.data.size<1000000000000):
  Fn Tryz.prog B 199 [.slice p xs.length c,ptr fb 0] (AD b o xs s*(HP.AA fb 0 (AI r)*R)) (fun v H'=>CH (HP.AA fb 0 (AI r)*R) (xs++[bif r.f.fin then 9 else 8]++AQ st++AQ r.f.offset++AQ r.f.data.size++r.f.data.data.toList) v H'):=by
 refine mI Tryz.func199 ?_;have q1:=B8 st;have q2:=B8 r.f.code;have q3:=B8 r.f.offset;refine J7 ?_;refine JL Wr ?_;refine Ke ?_;refine J2 ?_;refine BO (α:=Unit) (fun _=>[(0,.slice p xs.length c),(1,ptr fb 0),(5,u8 (bif r.f.fin then 9 else 8))]) (fun _=>AD b o xs s*(HP.AA fb 0 (AI r)*R)) (fun _=>True) ?_ ?_
 ·refine mc (fun hc0=>?_) (fun hc0=>?_)
  ·refine J1 ?_;refine JL VV ?_;refine J1 ?_;exact OP
  refine J1 ?_;exact OP
 ·rintro z hz;refine kC ?_;rintro _ _ ⟨b12,rfl,rfl⟩;refine BF ?_;refine Zb ?_;refine Al 3 Ch rfl rfl (Bf (ys:=[(bif r.f.fin then(9:UInt8)else 8)]) (bb:=b12) (oo:=0) (cc:=1) rfl hs hc rfl Bc inferInstance rfl Cq Cg) ?_;rintro _ _ ⟨p13,b13,o13,c13,s13,rfl,hs13,hc13,rfl⟩;refine BF ?_;refine Al 9 Ch rfl rfl (BK rfl (II (st) Cg p13 b13 o13 c13 (xs++[bif r.f.fin then 9 else 8]) s13 _ hs13 hc13 Cz)) ?_;rintro _ _ ⟨p19,b19,o19,c19,s19,rfl,hs19,hc19,rfl⟩;refine BF ?_;refine Al 14 Ch rfl rfl (BK rfl (II (r.f.offset) hof p19 b19 o19 c19 (xs++[bif r.f.fin then 9 else 8]++AQ st) s19 _ hs19 hc19 Cz)) ?_
  rintro _ _ ⟨p24,b24,o24,c24,s24,rfl,hs24,hc24,rfl⟩;refine BF ?_;refine Al 19 Ch rfl rfl (BK rfl (yR r.f.data hds p24 b24 o24 c24 (xs++[bif r.f.fin then 9 else 8]++AQ st++AQ r.f.offset) s24 _ hs24 hc24 Cq)) ?_;rintro _ _ ⟨p29,b29,o29,c29,s29,rfl,hs29,hc29,rfl⟩;refine DS ?_;refine Sx ?_;refine C3 ?_;exact mR [4] (AD b29 o29 (xs++[bif r.f.fin then 9 else 8]++AQ st++AQ r.f.offset++AQ r.f.data.size++r.f.data.data.toList) s29*(HP.AA fb 0 (AI r)*R)) rfl rfl ⟨p29,b29,o29,c29,s29,rfl,hs29,hc29,rfl⟩
theorem C! (fb:Nat)(H:HP):Fn Tryz.prog B 198 [ptr fb 0] H (fun v H'=>v=.bool true∧H'=H):=by
 refine mI Tryz.func198 ?_;refine BV ?_;exact NJ
theorem Q_(r:RF)(fb:Nat)(R:HP)(hof:r.f.offset≤4611686018427387903)(hds:r.f.data.size<1000000000000):
  Fn Tryz.prog B 203 [ptr fb 0] (HP.AA fb 0 (AI r)*R) (fun v H'=>v=.bool (decide (r.f.data.size+r.f.offset≤4611686018427387903))∧H'=HP.AA fb 0 (AI r)*R):=by
 refine mI Tryz.func203 ?_;refine J6 ?_;refine mA 13 13 ?_;refine MK ?_;refine JT 4 rfl IG ?_;refine JT 5 rfl EM ?_;refine OY ?_;refine JT 10 rfl gF ?_;refine JT 11 rfl Ge ?_;refine Ja 12 ?_;refine C3 ?_;exact mR [2] (HP.AA fb 0 (AI r)*R) rfl rfl ⟨congrArg c_ u0,rfl⟩
theorem ix(r:RF)(fb:Nat)(p:Option Addr)(b o c:Nat)(xs:List UInt8)(s:List Value)(R:HP)(hs:Sl p b o xs.length c)(hc:xs.length*1+s.length=c*1)(hx:xs.length<100000000000)(hrok:r.ok)(hrd:AW B R r.b r.o r.f.ranges)(hok:HY r.f.ranges)(hrl:r.f.ranges.length<10000000000):
  Fn Tryz.prog B 190 [.slice p xs.length c,ptr fb 0] (AD b o xs s*(HP.AA fb 0 (AI r)*R)) (fun v H'=>CH (HP.AA fb 0 (AI r)*R) (xs++[2]++AQ (rg r.f.ranges 0).hi++AQ (r.f.ranges.length-1)++AQ ((rg r.f.ranges 0).hi-(rg r.f.ranges 0).lo)++Bu r.f.ranges (r.f.ranges.length-1)) v H'):=by
 refine mI Tryz.func190 ?_;have hne:0<r.f.ranges.length:=k_.2 hok.1;have h0:=hok.2 0 hne;unfold Em at h0;have q1:=B8 (rg r.f.ranges 0).hi;have q2:=B8 (r.f.ranges.length-1);have q3:=B8 ((rg r.f.ranges 0).hi-(rg r.f.ranges 0).lo);refine By ?_;refine DY ?_;refine JL sS ?_;refine JL kP ?_;refine LD ?_;rintro _ _ ⟨b5,rfl,rfl⟩;refine Jr ?_;refine cH ?_;refine lB ?_;rintro _ _ ⟨b15,rfl,rfl⟩;refine BF ?_
 refine Zj ?_;refine Al 2 Ch rfl rfl (Bf (ys:=[2]) (bb:=b15) (oo:=0) (cc:=1) rfl hs hc rfl Bc inferInstance rfl Cq Cg) ?_;rintro _ _ ⟨p16,b16,o16,c16,s16,rfl,hs16,hc16,rfl⟩;refine BF ?_;refine Al 5 Ch rfl rfl (BK rfl (II ((rg r.f.ranges 0).hi) h0.2.1 p16 b16 o16 c16 (xs++[2]) s16 _ hs16 hc16 Cz)) ?_;rintro _ _ ⟨p19,b19,o19,c19,s19,rfl,hs19,hc19,rfl⟩;refine BF ?_;refine Al 13 Ch rfl rfl (BK rfl (II (r.f.ranges.length-1) Cg p19 b19 o19 c19 (xs++[2]++AQ (rg r.f.ranges 0).hi) s19 _ hs19 hc19 Cz)) ?_;rintro _ _ ⟨p27,b27,o27,c27,s27,rfl,hs27,hc27,rfl⟩;refine BF ?_;refine Al 19 Ch rfl rfl (BK rfl (II ((rg r.f.ranges 0).hi-(rg r.f.ranges 0).lo) Cg p27 b27 o27 c27 (xs++[2]++AQ (rg r.f.ranges 0).hi++AQ (r.f.ranges.length-1)) s27 _ hs27 hc27 Cz)) ?_;rintro _ _ ⟨p33,b33,o33,c33,s33,rfl,hs33,hc33,rfl⟩;refine DS ?_;refine Sx ?_;refine HN ?_
 refine Hs (AD b33 o33 (xs++[2]++AQ (rg r.f.ranges 0).hi++AQ (r.f.ranges.length-1)++AQ ((rg r.f.ranges 0).hi-(rg r.f.ranges 0).lo)) s33*(HP.AA fb 0 (AI r)*R)) ?_;refine J4 ?_;refine DY ?_;refine JL cG ?_;refine Lm ?_;generalize hpre:(xs++[2]++AQ (rg r.f.ranges 0).hi++AQ (r.f.ranges.length-1)++AQ ((rg r.f.ranges 0).hi-(rg r.f.ranges 0).lo))=pre at*
 have hpl:pre.length<200000000000:=by rw [←hpre];simp only [d_,List.length_cons,o_];omega
 refine BL (α:=Nat×Option Addr×Nat×Nat×Nat×List Value) (fun z=>[(0,.slice z.2.1 (pre++Bu r.f.ranges z.1).length z.2.2.2.2.1),(1,ptr fb 0),(38,.slice (sp r.p r.c 1 2) (r.f.ranges.length-1) (r.c-1)),(39,iN (r.f.ranges.length-1)),(40,iN z.1)]) (fun z=>AD z.2.2.1 z.2.2.2.1 (pre++Bu r.f.ranges z.1) z.2.2.2.2.2*(HP.AA fb 0 (AI r)*R)) (fun z=>z.1≤r.f.ranges.length-1∧Sl z.2.1 z.2.2.1 z.2.2.2.1 (pre++Bu r.f.ranges z.1).length z.2.2.2.2.1∧(pre++Bu r.f.ranges z.1).length*1+z.2.2.2.2.2.length=z.2.2.2.2.1*1) (fun z=>r.f.ranges.length-1-z.1) (0,p33,b33,o33,c33,s33) ⟨j' _,by simpa [Bu]using hs33,by simpa [Bu]using hc33⟩ gO WR ?_
 rintro⟨i,p9,b9,o9,c9,s9⟩ ⟨hi,hs9,hc9⟩;dsimp only at hi hs9 hc9⊢;have hel:=Nr r.f.ranges i
 have hyl:(pre++Bu r.f.ranges i).length<900000000000:=by simp;omega
 generalize hys:pre++Bu r.f.ranges i=ys at*;refine J6 ?_;refine mC (fun hlt=>?_) (fun hlt=>?_)
 ·have hk:=hok.2 (i+1) Cg;have hk0:=hok.2 i Cg;unfold Em at hk hk0;simp only [m_]at hk;refine J7 ?_;refine JL sP ?_;refine JL oN ?_;refine LD ?_;rintro _ _ ⟨b7,rfl,rfl⟩;refine J1 ?_;refine Fi ?_;refine J2 ?_;refine Aq (H':=AD b9 o9 ys s9*(HP.AA b7 0 [uN (rg r.f.ranges (i+1)).lo,uN (rg r.f.ranges (i+1)).hi]*(HP.AA fb 0 (AI r)*R))) (HP.C8 _ _ _) ?_;have v1:=B8 ((rg r.f.ranges i).lo-(rg r.f.ranges (i+1)).hi-2);refine Y8 ?_;refine EQ ?_;refine nD ?_;refine Xl ?_
  refine Al 13 Ch rfl rfl (BK rfl (II ((rg r.f.ranges i).lo-(rg r.f.ranges (i+1)).hi-2) Cg p9 b9 o9 c9 (ys) s9 _ hs9 hc9 Cz)) ?_;rintro _ _ ⟨p58,b58,o58,c58,s58,rfl,hs58,hc58,rfl⟩;refine BF ?_;refine Al 19 Ch rfl rfl (BK rfl (II ((rg r.f.ranges (i+1)).hi-(rg r.f.ranges (i+1)).lo) Cg p58 b58 o58 c58 (ys++AQ ((rg r.f.ranges i).lo-(rg r.f.ranges (i+1)).hi-2)) s58 _ hs58 hc58 Cq)) ?_;rintro _ _ ⟨p64,b64,o64,c64,s64,rfl,hs64,hc64,rfl⟩;rw [←hys,Wp]at hs64 hc64⊢;refine BF ?_;refine Ja 20 ?_;refine HN ?_;refine FO ?_;exact Au (AD b64 o64 (pre++Bu r.f.ranges (i+1)) s64*(HP.AA fb 0 (AI r)*R)) (At (i+1,p64,b64,o64,c64,s64) ⟨Cg,hs64,hc64⟩ VK GE rfl)
 have hie:i=r.f.ranges.length-1:=by omega
 refine CR ?_;subst hie;rw [←hys]at hs9 hc9⊢;exact mR [4] (AD b9 o9 (pre++Bu r.f.ranges (r.f.ranges.length-1)) s9*(HP.AA fb 0 (AI r)*R)) rfl rfl (by rw [←hpre]at hs9 hc9⊢;exact⟨p9,b9,o9,c9,s9,rfl,hs9,hc9,rfl⟩)
theorem i4(r:RF)(fb:Nat)(R:HP)(hrok:r.ok)(hrd:AW B R r.b r.o r.f.ranges)(hrl:r.f.ranges.length<10000000000):
  Fn Tryz.prog B 192 [ptr fb 0] (HP.AA fb 0 (AI r)*R) (fun v H'=>v=.bool (decide (HY r.f.ranges))∧H'=HP.AA fb 0 (AI r)*R):=by
 refine mI Tryz.func192 ?_;refine BV ?_;refine DY ?_;refine Lm ?_;refine BL (fun i:Nat=>[(0,ptr fb 0),(8,.slice r.p r.f.ranges.length r.c),(9,iN r.f.ranges.length),(10,iN i)]) (fun _=>(HP.AA fb 0 (AI r)*R)) (fun i=>i≤r.f.ranges.length∧∀j,j<i→Em r.f.ranges j) (fun i=>r.f.ranges.length-i) 0 ⟨j' _,fun j hj=>by omega⟩ B4 rfl ?_;rintro i ⟨hi,hall⟩;dsimp only at hi hall⊢;refine J6 ?_;refine mC (fun hlt=>?_) (fun hlt=>?_)
 ·refine J7 ?_;refine JL (Bm (b:=r.b) (o:=r.o) rfl rfl hrok hlt) ?_;refine JL nF ?_;refine LD ?_;rintro _ _ ⟨b4,rfl,rfl⟩;refine J1 ?_;refine Jr ?_;refine mA 41 41 ?_;refine WK ?_;refine JT 4 rfl HU ?_;refine Jm 5 ?_;refine DM 20 rfl (fun hg1=>?_) (fun hg1=>?_)
  ·refine JN 6 rfl T1 ?_;refine JN 7 rfl T1 ?_;refine JN 8 rfl T1 ?_;refine JT 9 rfl LC ?_;refine Wa ?_;refine TQ ?_;refine RR ?_;refine JU 38 ?_;refine DU 39 rfl Ch rfl rfl rfl rfl ?_;refine JT 40 rfl PO ?_;refine Jw ?_;refine BV ?_
   first|exact mR [2] (HP.AA fb 0 (AI r)*R) rfl rfl PC|exact mR [2] (HP.AA fb 0 (AI r)*R) rfl rfl QM
  refine JY 6 rfl F1 A7 ?_;refine JY 7 rfl F1 D7 ?_;refine JY 8 rfl F1 Ml ?_;refine JT 9 rfl Jl ?_;refine Jm 10 ?_;refine DM 25 rfl (fun hg2=>?_) (fun hg2=>?_)
  ·refine JN 11 rfl T2 ?_;refine JN 12 rfl T2 ?_;refine JN 13 rfl T2 ?_;refine TQ ?_;refine RR ?_;refine JU 38 ?_;refine JN 39 rfl T2 ?_;refine JT 40 rfl FR ?_;refine Jw ?_;refine BV ?_
   first|exact mR [2] (HP.AA fb 0 (AI r)*R) rfl rfl PC|exact mR [2] (HP.AA fb 0 (AI r)*R) rfl rfl QM
  refine JY 11 rfl F2 A4 ?_;refine JY 12 rfl F2 Ld ?_;refine JY 13 rfl F2 A4 ?_;refine DM 28 rfl (fun hg3=>?_) (fun hg3=>?_)
  ·refine JY 14 rfl T3 A4 ?_;refine JY 15 rfl T3 CP ?_;refine JY 16 rfl T3 A7 ?_;refine JY 17 rfl T3 D7 ?_;refine JY 18 rfl T3 A4 ?_;refine JY 19 rfl T3 LZ ?_;refine JY 20 rfl T3 XT ?_;refine JY 21 rfl T3 A7 ?_;refine JY 22 rfl T3 R5 ?_;refine JY 23 rfl T3 Oy ?_;refine JY 24 rfl T3 A4 ?_;refine DM 39 rfl (fun hg4=>?_) (fun hg4=>?_)
   ·refine JN 25 rfl T4 ?_;refine JN 26 rfl T4 ?_;refine JN 27 rfl T4 ?_;refine JN 28 rfl T4 ?_;refine JN 29 rfl T4 ?_;refine JN 30 rfl T4 ?_;refine JN 31 rfl T4 ?_;refine JN 32 rfl T4 ?_;refine JN 33 rfl T4 ?_;refine JN 34 rfl T4 ?_;refine JN 35 rfl T4 ?_;refine JN 36 rfl T4 ?_;refine JN 37 rfl T4 ?_;refine JY 38 rfl T3 Io ?_;refine JY 39 rfl F2 OZ ?_;refine JT 40 rfl FQ ?_;refine Jw ?_;refine BV ?_
    first|exact mR [2] (HP.AA fb 0 (AI r)*R) rfl rfl PC|exact mR [2] (HP.AA fb 0 (AI r)*R) rfl rfl QM
   refine JY 25 rfl F4 A7 ?_;refine JY 26 rfl F4 D7 ?_;refine JY 27 rfl F4 A4 ?_;refine JY 28 rfl F4 CP ?_;refine JY 29 rfl F4 A7 ?_;refine JY 30 rfl F4 D7 ?_;refine JY 31 rfl F4 A4 ?_;refine JY 32 rfl F4 LZ ?_;refine JY 33 rfl F4 XT ?_;refine JY 34 rfl F4 A7 ?_;refine JY 35 rfl F4 R5 ?_;refine JY 36 rfl F4 (LT (j:=2) rfl rfl iD) ?_;refine JY 37 rfl F4 HU ?_;refine JY 38 rfl T3 IE ?_;refine JY 39 rfl F2 OZ ?_;refine JT 40 rfl FQ ?_;refine EU ?_;refine mC (fun hbad=>?_) (fun hbad=>?_)
   ·refine BV ?_
    first|exact mR [2] (HP.AA fb 0 (AI r)*R) rfl rfl PC|exact mR [2] (HP.AA fb 0 (AI r)*R) rfl rfl QM
   refine Fb ?_;refine Au (HP.AA fb 0 (AI r)*R) (At (i+1) ⟨hlt,fun j hj=>?_⟩ Cg B4 rfl);rcases f_.1 hj with h|rfl
   ·exact hall j h
   ·unfold Em;omega
  refine rX ?_;refine JN 21 rfl F3 ?_;refine JN 22 rfl F3 ?_;refine JN 23 rfl F3 ?_;refine JN 24 rfl F3 ?_;refine aW ?_;refine Ox ?_;refine RR ?_;refine JN 38 rfl F3 ?_;refine JY 39 rfl F2 Oh ?_;refine JT 40 rfl FQ ?_;refine EU ?_;refine JJ ?_;refine Fb ?_;refine Au (HP.AA fb 0 (AI r)*R) (At (i+1) ⟨hlt,fun j hj=>?_⟩ Cg B4 rfl);rcases f_.1 hj with h|rfl
  ·exact hall j h
  ·unfold Em;omega
 have hie:i=r.f.ranges.length:=by omega
 have hdone:∀j,j<r.f.ranges.length→Em r.f.ranges j:=hie▸hall;refine By ?_;refine DY ?_;refine J1 ?_;refine JL Ld ?_;refine J4 ?_
 first|exact mR [2] (HP.AA fb 0 (AI r)*R) rfl rfl PC|exact mR [2] (HP.AA fb 0 (AI r)*R) rfl rfl QM
end
section
variable{B:World}
abbrev GV(f:FuncId)(us:List Value):Value:=.func (.func f) #[] us.toArray
structure FU(r:RF):Prop where
 ok:r.ok
 len:r.f.ranges.length<10000000000
 size:r.f.data.size<100000000000
structure Mz(B:World)(k:Int)(f1:FuncId)(us1:List Value)(f3:FuncId)(us3:List Value)(C:HP):Prop where
 bT:AX Tryz.prog f1
 call3:AX Tryz.prog f3
 write:∀(r:RF) (fb:Nat) (p:Option Addr) (b o c:Nat) (xs:List UInt8) (s:List Value) (R:HP),FU r→r.f.kind=k→Bh r.f→AW B R r.b r.o r.f.ranges→Sl p b o xs.length c→xs.length*1+s.length=c*1→xs.length<100000000000→
  Fn Tryz.prog B f1 ([.slice p xs.length c,ptr fb 0]++us1) (AD b o xs s*(HP.AA fb 0 (AI r)*(C*R))) (fun v H'=>CH (HP.AA fb 0 (AI r)*(C*R)) (xs++Aj r.f) v H')
 sound:∀(r:RF) (fb:Nat) (R:HP),FU r→r.f.kind=k→r.f.offset≤4611686018427387903→AW B R r.b r.o r.f.ranges→
  Fn Tryz.prog B f3 ([ptr fb 0]++us3) (HP.AA fb 0 (AI r)*(C*R)) (fun v H'=>v=.bool (decide (Ib r.f))∧H'=HP.AA fb 0 (AI r)*(C*R))
theorem jh{f:AZ}(h3:f.kind≠3)(h5:f.kind≠5):Ib f:=⟨fun h=>absurd h h3,fun h=>absurd h h5⟩
theorem UY(k:Int)(h3:k≠3)(h5:k≠5)(C:HP)(r:RF)(fb:Nat)(R:HP)(hk:r.f.kind=k):
  Fn Tryz.prog B 198 ([ptr fb 0]++[]) (HP.AA fb 0 (AI r)*(C*R)) (fun v H'=>v=.bool (decide (Ib r.f))∧H'=HP.AA fb 0 (AI r)*(C*R)):=by
 refine(C! fb _).mono ?_;rintro v H' ⟨rfl,rfl⟩;exact⟨congrArg c_ (decide_eq_true (jh (hk▸h3) (hk▸h5))).symm,rfl⟩
theorem sC(k:Int)(t:UInt8)(bt:Nat)(hk:(k=1∧t=0)∨(k=2∧t=1)):Mz B k 217 [ptr bt 0] 198 [] (HP.AA bt 0 [u8 t]):=by
 refine⟨inferInstance,inferInstance,?_,?_⟩
 ·intro r fb p b o c xs s R hm hrk hok hr hs hc hx
  have e:Aj r.f=[t]:=by
   rcases hk with⟨rfl,rfl⟩|⟨rfl,rfl⟩<;>simp [Aj,hrk]
  rw [e];have h:=sg t bt r fb p b o c xs s R hs hc hx (B:=B);exact h
 ·intro r fb R hm hrk _ _;exact UY k iI iI _ r fb R hrk
theorem u5(bt bq:Nat):Mz B 6 219 [ptr bt 0,ptr bq 0] 198 [] (HP.AA bt 0 [u8 28]*HP.AA bq 0 [GV 205 []]):=by
 refine⟨inferInstance,inferInstance,?_,?_⟩
 ·intro r fb p b o c xs s R hm hrk hok hr hs hc hx
  have e:Aj r.f=[28]++AQ r.f.code:=by simp [Aj,hrk]
  rw [e,←h_,HP.assoc];exact bz bt bq r fb p b o c xs s R hs hc hx hok.2.1
 ·intro r fb R hm hrk _ _;exact UY 6 Ci Ci _ r fb R hrk
theorem x6:Mz B 3 190 [] 192 [] HP.BQ:=by
 refine⟨inferInstance,inferInstance,?_,?_⟩
 ·intro r fb p b o c xs s R hm hrk hok hr hs hc hx
  have e:xs++Aj r.f=xs++[2]++AQ (rg r.f.ranges 0).hi++AQ (r.f.ranges.length-1)++AQ ((rg r.f.ranges 0).hi-(rg r.f.ranges 0).lo)++Bu r.f.ranges (r.f.ranges.length-1):=by
   simp [Aj,hrk,KU]
  rw [e,HP.BA];exact ix r fb p b o c xs s R hs hc hx hm.ok hr (hok.2.2.2.2.1.1 hrk) hm.len
 ·intro r fb R hm hrk _ hr;rw [HP.BA];refine(i4 r fb R hm.ok hr hm.len).mono ?_;rintro v H' ⟨rfl,rfl⟩;exact⟨congrArg c_ (decide_eq_decide.2 ⟨fun h=>⟨fun _=>h,fun h5=>by rw [hrk]at h5;cases h5⟩,fun h=>h.1 hrk⟩),rfl⟩
theorem qg:Mz B 4 193 [] 198 [] HP.BQ:=by
 refine⟨inferInstance,inferInstance,?_,?_⟩
 ·intro r fb p b o c xs s R hm hrk hok hr hs hc hx;obtain⟨h1,h2,h3,h4,h5,h6⟩:=hok
  have e:xs++Aj r.f=xs++[4]++AQ r.f.stream.toNat++AQ r.f.code++AQ r.f.offset:=by simp [Aj,hrk]
  rw [e,HP.BA];exact gz r fb p b o c xs s R hs hc hx r.f.stream.toNat Cg Cg h2 h1
 ·intro r fb R hm hrk _ _;rw [HP.BA]
  have:=UY (B:=B) 4 Ci Ci HP.BQ r fb R hrk
  rwa [HP.BA]at this
theorem ki:Mz B 5 199 [] 203 [] HP.BQ:=by
 refine⟨inferInstance,inferInstance,?_,?_⟩
 ·intro r fb p b o c xs s R hm hrk hok hr hs hc hx;obtain⟨h1,h2,h3,h4,h5,h6⟩:=hok
  have e:xs++Aj r.f=xs++[bif r.f.fin then 9 else 8]++AQ r.f.stream.toNat++AQ r.f.offset++AQ r.f.data.size++r.f.data.data.toList:=by simp [Aj,hrk]
  rw [e,HP.BA];exact i8 r fb p b o c xs s R hs hc hx r.f.stream.toNat Cg Cg h1 NW
 ·intro r fb R hm hrk hof _;rw [HP.BA];refine(Q_ r fb R hof NW).mono ?_;rintro v H' ⟨rfl,rfl⟩;exact⟨congrArg c_ (decide_eq_decide.2 ⟨fun h=>⟨fun h3=>(by rw [hrk]at h3;cases h3),fun _=>h⟩,fun h=>h.2 hrk⟩),rfl⟩
theorem sJ(t:UInt8)(H:HP):Fn Tryz.prog B 189 [u8 t] H (fun v H'=>∃bt,v=.agg [GV 217 [ptr bt 0],GV 218 [],GV 198 []].toArray∧H'=HP.AA bt 0 [u8 t]*H):=by
 refine mI Tryz.func189 ?_;refine J2 ?_;refine AV (DP (l:=[u8 t]) rfl rfl) rfl ?_;rintro _ _ ⟨b1,rfl,rfl⟩;refine Me ?_;rintro _ _ ⟨b2,rfl,rfl⟩;refine J4 ?_;refine JL Gs ?_;refine JL H7 ?_;refine Jr ?_;exact NA (HP.AA b1 0 [u8 t]*H) rfl (Iv (NI rfl rfl) KX) ⟨b1,rfl,rfl⟩
theorem ro(H:HP):Fn Tryz.prog B 204 [u8 28,GV 205 []] H (fun v H'=>∃bt bq,v=.agg [GV 219 [ptr bt 0,ptr bq 0],GV 220 [ptr bq 0],GV 198 []].toArray∧H'=HP.AA bt 0 [u8 28]*(HP.AA bq 0 [GV 205 []]*H)):=by
 refine mI Tryz.func204 ?_;refine J2 ?_;refine AV (DP (l:=[u8 28]) rfl rfl) rfl ?_;rintro _ _ ⟨b2,rfl,rfl⟩;refine AV (DP (l:=[GV 205 []]) rfl rfl) rfl ?_;rintro _ _ ⟨b3,rfl,rfl⟩;refine Me ?_;rintro _ _ ⟨b4,rfl,rfl⟩;refine J4 ?_;refine JL Gs ?_;refine JL Gs ?_;refine JL H7 ?_;refine Jr ?_;exact NA (HP.AA b3 0 [GV 205 []]*(HP.AA b2 0 [u8 28]*H)) rfl (Iv (NI rfl rfl) KX) ⟨b2,b3,rfl,HP.C8 _ _ _⟩
inductive Fc:Int→FuncId→List Value→FuncId→List Value→FuncId→List Value→HP→Prop
 |pad (bt:Nat):Fc 1 217 [ptr bt 0] 218 [] 198 [] (HP.AA bt 0 [u8 0])
 |ping (bt:Nat):Fc 2 217 [ptr bt 0] 218 [] 198 [] (HP.AA bt 0 [u8 1])
 |ack:Fc 3 190 [] 191 [] 192 [] HP.BQ
 |reset:Fc 4 193 [] 195 [] 198 [] HP.BQ
 |data:Fc 5 199 [] 201 [] 203 [] HP.BQ
 |bye (bt bq:Nat):Fc 6 219 [ptr bt 0,ptr bq 0] 220 [ptr bq 0] 198 [] (HP.AA bt 0 [u8 28]*HP.AA bq 0 [GV 205 []])
theorem Fc.Wu{k:Int}{f1 f2 f3:FuncId}{us1 us2 us3:List Value}{C:HP}(h:Fc k f1 us1 f2 us2 f3 us3 C):Mz B k f1 us1 f3 us3 C:=by
 cases h
 ·exact sC 1 0 _ (.inl CO)
 ·exact sC 2 1 _ (.inr CO)
 ·exact x6
 ·exact qg
 ·exact ki
 ·exact u5 _ _
theorem Fc.kind{k:Int}{f1 f2 f3:FuncId}{us1 us2 us3:List Value}{C:HP}(h:Fc k f1 us1 f2 us2 f3 us3 C):Dh k:=by cases h<;>(unfold Dh;decide)
abbrev DO(bc:Nat)(f1 f2 f3:FuncId)(us1 us2 us3:List Value):HP:=HP.AA bc 0 [GV f1 us1,GV f2 us2,GV f3 us3]
theorem CX{P:Program}{n:Nat}{E:A6}{H:HP}{r:Option Nat}{fn:Func}{k:Int}{bc:Nat}{f1 f2 f3:FuncId}{us1 us2 us3:List Value}{C H0:HP}(hr:fn.results=([2].map ResultVar.tmp).toArray)(hv:Dk E ([2].map Operand.tmp)=some [ptr bc 0])
  (h:Fc k f1 us1 f2 us2 f3 us3 C)(e:H=DO bc f1 f2 f3 us1 us2 us3*(C*H0)):BT B (Ip P B fn (fun v H'=>(¬Dh k∧v=.pointer none∧H'=H0)∨(∃bc f1 us1 f2 us2 f3 us3 C,Fc k f1 us1 f2 us2 f3 us3 C∧v=ptr bc 0∧H'=DO bc f1 f2 f3 us1 us2 us3*(C*H0)))) .ret n E ⟨[],r⟩ H:=
 lQ hr hv (.inr ⟨bc,f1,us1,f2,us2,f3,us3,C,h,rfl,e⟩)
theorem Y'(k:Int)(H:HP):Fn Tryz.prog B 168 [.int .i64 k] H (fun v H'=>(¬Dh k∧v=.pointer none∧H'=H)∨(∃bc f1 us1 f2 us2 f3 us3 C,Fc k f1 us1 f2 us2 f3 us3 C∧v=ptr bc 0∧H'=DO bc f1 f2 f3 us1 us2 us3*(C*H))):=by
 refine mI Tryz.func168 ?_;refine J7 ?_;refine AV (GX (l:=[.nilFunc,.nilFunc,.nilFunc]) rfl) rfl ?_;rintro _ _ ⟨b3,rfl,rfl⟩;refine BV ?_;refine JL (CI (i:=k) (j:=1) rfl rfl) ?_;refine J3 ?_;refine mC (fun hc=>?_) (fun hnt5=>?_)
 ·refine J1 ?_;refine mE rfl (sJ 0 _) ?_;rintro _ _ ⟨bt,rfl,rfl⟩;refine Fi ?_;refine J9 ?_
  first
  |exact mR [2] H rfl rfl MY
  |(subst hc;first|exact CX (bc:=b3) rfl rfl (.pad bt) Cw|exact CX (bc:=b3) rfl rfl (.ping bt) Cw|exact CX rfl rfl .ack Ct|exact CX rfl rfl .reset Ct|exact CX rfl rfl .data Ct|exact CX (bc:=b3) rfl rfl (.bye bt bq) Cw)
 refine J2 ?_;refine JL (CI (i:=k) (j:=2) rfl rfl) ?_;refine J3 ?_;refine mC (fun hc=>?_) (fun hnt8=>?_)
 ·refine J1 ?_;refine mE rfl (sJ 1 _) ?_;rintro _ _ ⟨bt,rfl,rfl⟩;refine Fi ?_;refine J9 ?_
  first
  |exact mR [2] H rfl rfl MY
  |(subst hc;first|exact CX (bc:=b3) rfl rfl (.pad bt) Cw|exact CX (bc:=b3) rfl rfl (.ping bt) Cw|exact CX rfl rfl .ack Ct|exact CX rfl rfl .reset Ct|exact CX rfl rfl .data Ct|exact CX (bc:=b3) rfl rfl (.bye bt bq) Cw)
 refine J2 ?_;refine JL (CI (i:=k) (j:=3) rfl rfl) ?_;refine J3 ?_;refine mC (fun hc=>?_) (fun hnt11=>?_)
 ·refine YA ?_
  first
  |exact mR [2] H rfl rfl MY
  |(subst hc;first|exact CX (bc:=b3) rfl rfl (.pad bt) Cw|exact CX (bc:=b3) rfl rfl (.ping bt) Cw|exact CX rfl rfl .ack Ct|exact CX rfl rfl .reset Ct|exact CX rfl rfl .data Ct|exact CX (bc:=b3) rfl rfl (.bye bt bq) Cw)
 refine J2 ?_;refine JL (CI (i:=k) (j:=4) rfl rfl) ?_;refine J3 ?_;refine mC (fun hc=>?_) (fun hnt14=>?_)
 ·refine YA ?_
  first
  |exact mR [2] H rfl rfl MY
  |(subst hc;first|exact CX (bc:=b3) rfl rfl (.pad bt) Cw|exact CX (bc:=b3) rfl rfl (.ping bt) Cw|exact CX rfl rfl .ack Ct|exact CX rfl rfl .reset Ct|exact CX rfl rfl .data Ct|exact CX (bc:=b3) rfl rfl (.bye bt bq) Cw)
 refine J2 ?_;refine JL (CI (i:=k) (j:=5) rfl rfl) ?_;refine J3 ?_;refine mC (fun hc=>?_) (fun hnt17=>?_)
 ·refine YA ?_
  first
  |exact mR [2] H rfl rfl MY
  |(subst hc;first|exact CX (bc:=b3) rfl rfl (.pad bt) Cw|exact CX (bc:=b3) rfl rfl (.ping bt) Cw|exact CX rfl rfl .ack Ct|exact CX rfl rfl .reset Ct|exact CX rfl rfl .data Ct|exact CX (bc:=b3) rfl rfl (.bye bt bq) Cw)
 refine J2 ?_;refine JL (CI (i:=k) (j:=6) rfl rfl) ?_;refine J3 ?_;refine mC (fun hc=>?_) (fun hnt20=>?_)
 ·refine J1 ?_;refine mE rfl (ro _) ?_;rintro _ _ ⟨bt,bq,rfl,rfl⟩;refine Fi ?_;refine J9 ?_
  first
  |exact mR [2] H rfl rfl MY
  |(subst hc;first|exact CX (bc:=b3) rfl rfl (.pad bt) Cw|exact CX (bc:=b3) rfl rfl (.ping bt) Cw|exact CX rfl rfl .ack Ct|exact CX rfl rfl .reset Ct|exact CX rfl rfl .data Ct|exact CX (bc:=b3) rfl rfl (.bye bt bq) Cw)
 refine J8 ?_
 first
 |exact mR [2] H rfl rfl MY
 |(subst hc;first|exact CX (bc:=b3) rfl rfl (.pad bt) Cw|exact CX (bc:=b3) rfl rfl (.ping bt) Cw|exact CX rfl rfl .ack Ct|exact CX rfl rfl .reset Ct|exact CX rfl rfl .data Ct|exact CX (bc:=b3) rfl rfl (.bye bt bq) Cw)
theorem lT(r:RF)(fb bc:Nat)(f1 f2 f3:FuncId)(us1 us2 us3:List Value)(C R:HP)(hF:Fc r.f.kind f1 us1 f2 us2 f3 us3 C)(hw:Mz B r.f.kind f1 us1 f3 us3 C)(hrk:r.f.kind=r.f.kind)(hm:FU r)(hr:AW B R r.b r.o r.f.ranges):
  Fn Tryz.prog B 169 [ptr fb 0,ptr bc 0] (HP.AA fb 0 (AI r)*(C*(DO bc f1 f2 f3 us1 us2 us3*R))) (fun v H'=>v=.bool (decide (Bh r.f))∧H'=HP.AA fb 0 (AI r)*(C*(DO bc f1 f2 f3 us1 us2 us3*R))):=by
 refine mI Tryz.func169 ?_;refine J7 ?_;refine Dc (HP.AA fb 0 (AI r)*(C*(DO bc f1 f2 f3 us1 us2 us3*R))) 11 11 Dg rfl Ch ?_;refine KA ?_;refine JT 10 rfl Xa ?_;refine Al 8 Ch rfl rfl I3 ?_;rintro _ _ ⟨b15,rfl,rfl⟩;refine BF ?_;refine JT 9 rfl Dm ?_;refine C3 ?_;refine Aq (H':=AD b15 0 [Ay.mk r.f.offset,Ay.mk r.f.code] []*(HP.AA fb 0 (AI r)*(C*(DO bc f1 f2 f3 us1 us2 us3*R)))) rfl ?_;refine BL (fun i:Nat=>[(0,ptr fb 0),(1,ptr bc 0),(15,.slice (some ⟨b15,0,none⟩) 2 2),(16,iN 2),(17,iN i)]) (fun _=>AD b15 0 [Ay.mk r.f.offset,Ay.mk r.f.code] []*(HP.AA fb 0 (AI r)*(C*(DO bc f1 f2 f3 us1 us2 us3*R)))) (fun i=>i≤2∧(1≤i→r.f.offset≤4611686018427387903)∧(2≤i→r.f.code≤4611686018427387903)) (fun i=>2-i) 0 ⟨Cg,Cg,Cg⟩ GE rfl ?_;rintro i ⟨hi,ho1,ho2⟩;dsimp only at hi ho1 ho2⊢;refine J2 ?_;refine JL Oy ?_;refine J3 ?_;refine mC (fun hlt=>?_) (fun hlt=>?_)
 ·refine J6 ?_;refine JL (YL rfl rfl hlt) ?_;refine JL (md (xs:=[Ay.mk r.f.offset,Ay.mk r.f.code]) rfl inferInstance hlt) ?_;refine J6 ?_;refine JL Ml ?_;refine J2 ?_;refine mC (fun hbig=>?_) (fun hbig=>?_)
  ·refine BV ?_
   first
   |exact mR [4] (HP.AA fb 0 (AI r)*(C*(DO bc f1 f2 f3 us1 us2 us3*R))) rfl rfl Rf
   |exact mR [4] (HP.AA fb 0 (AI r)*(C*(DO bc f1 f2 f3 us1 us2 us3*R))) rfl rfl RE
   |exact mR [4] (HP.AA fb 0 (AI r)*(C*(DO bc f1 f2 f3 us1 us2 us3*R))) rfl rfl Tw
   |exact mR [4] (HP.AA fb 0 (AI r)*(C*(DO bc f1 f2 f3 us1 us2 us3*R))) rfl rfl ⟨congrArg c_ (decide_eq_false (fun h=>by
     have h1:=h.1
     have h2:=h.2.1
     rcases(by omega:i=0∨i=1)with rfl|rfl
     ·simp at hbig;omega
     ·simp at hbig;omega)).symm,rfl⟩
  refine Fb ?_;refine At (i+1) ⟨Cg,fun h=>?_,fun h=>?_⟩ Cg GE rfl
  ·rcases(by omega:i=0∨1≤i)with rfl|h1
   ·simpa using hbig
   ·exact ho1 h1
  ·obtain rfl:i=1:=by omega
   simpa using hbig
 have hof:=ho1 Cg;have hcd:=ho2 Cg;refine J6 ?_;refine Hs (HP.AA fb 0 (AI r)*(C*(DO bc f1 f2 f3 us1 us2 us3*R))) ?_;refine J4 ?_;refine DY ?_;refine JL (Jb (i:=r.f.stream) (j:=0) rfl rfl) ?_;refine J1 ?_;refine CJ 29 rfl (fun hg1=>?_) (fun hg1=>?_)
 ·refine Ou ?_;refine DY ?_;refine Hh ?_;refine JL (JQ (i:=r.f.stream) (j:=4) rfl rfl) ?_;refine JP ?_;refine J1 ?_;refine CJ 36 rfl (fun hg2=>?_) (fun hg2=>?_)
  ·refine SL ?_;refine DY ?_;refine KV ?_;refine AV (Iz (hf:=hw.call3) rfl rfl (hw.sound r fb _ hm hrk hof inferInstance)) rfl ?_;refine JR ?_;refine JL FR ?_;refine J4 ?_
   first
   |exact mR [4] (HP.AA fb 0 (AI r)*(C*(DO bc f1 f2 f3 us1 us2 us3*R))) rfl rfl Rf
   |exact mR [4] (HP.AA fb 0 (AI r)*(C*(DO bc f1 f2 f3 us1 us2 us3*R))) rfl rfl RE
   |exact mR [4] (HP.AA fb 0 (AI r)*(C*(DO bc f1 f2 f3 us1 us2 us3*R))) rfl rfl Tw
   |exact mR [4] (HP.AA fb 0 (AI r)*(C*(DO bc f1 f2 f3 us1 us2 us3*R))) rfl rfl ⟨congrArg c_ (decide_eq_false (fun h=>by
     have h1:=h.1
     have h2:=h.2.1
     rcases(by omega:i=0∨i=1)with rfl|rfl
     ·simp at hbig;omega
     ·simp at hbig;omega)).symm,rfl⟩
  refine Mg ?_;refine Mg ?_;refine JL FQ ?_;refine J4 ?_
  first
  |exact mR [4] (HP.AA fb 0 (AI r)*(C*(DO bc f1 f2 f3 us1 us2 us3*R))) rfl rfl Rf
  |exact mR [4] (HP.AA fb 0 (AI r)*(C*(DO bc f1 f2 f3 us1 us2 us3*R))) rfl rfl RE
  |exact mR [4] (HP.AA fb 0 (AI r)*(C*(DO bc f1 f2 f3 us1 us2 us3*R))) rfl rfl Tw
  |exact mR [4] (HP.AA fb 0 (AI r)*(C*(DO bc f1 f2 f3 us1 us2 us3*R))) rfl rfl ⟨congrArg c_ (decide_eq_false (fun h=>by
    have h1:=h.1
    have h2:=h.2.1
    rcases(by omega:i=0∨i=1)with rfl|rfl
    ·simp at hbig;omega
    ·simp at hbig;omega)).symm,rfl⟩
 refine N2 ?_;refine Ie ?_;refine Jq ?_;refine Hc ?_;refine Oa ?_;refine JL GU ?_;refine J4 ?_
 first
 |exact mR [4] (HP.AA fb 0 (AI r)*(C*(DO bc f1 f2 f3 us1 us2 us3*R))) rfl rfl Rf
 |exact mR [4] (HP.AA fb 0 (AI r)*(C*(DO bc f1 f2 f3 us1 us2 us3*R))) rfl rfl RE
 |exact mR [4] (HP.AA fb 0 (AI r)*(C*(DO bc f1 f2 f3 us1 us2 us3*R))) rfl rfl Tw
 |exact mR [4] (HP.AA fb 0 (AI r)*(C*(DO bc f1 f2 f3 us1 us2 us3*R))) rfl rfl ⟨congrArg c_ (decide_eq_false (fun h=>by
   have h1:=h.1
   have h2:=h.2.1
   rcases(by omega:i=0∨i=1)with rfl|rfl
   ·simp at hbig;omega
   ·simp at hbig;omega)).symm,rfl⟩
end
section
variable{B:World}
theorem Le(k:Int)(hk:Dh k)(H:HP):Fn Tryz.prog B 168 [.int .i64 k] H (fun v H'=>∃bc f1 us1 f2 us2 f3 us3 C,Fc k f1 us1 f2 us2 f3 us3 C∧v=ptr bc 0∧H'=DO bc f1 f2 f3 us1 us2 us3*(C*H)):=
 (Y' k H).mono fun _ _ h=>h.resolve_left fun h=>h.1 hk
theorem ey(k:Int)(hk:¬Dh k)(H:HP):Fn Tryz.prog B 168 [.int .i64 k] H (fun v H'=>v=.pointer none∧H'=H):=
 (Y' k H).mono fun _ _ h=>(h.resolve_right fun⟨_,_,_,_,_,_,_,_,h,_⟩=>hk h.kind).2
theorem aq(f:AZ):Aj f≠ []:=by
 unfold Aj
 repeat' split
 all_goals first|exact fun h=>by cases h|(unfold KU;simp)|simp
section
variable{P:Program}{n:Nat}{E:A6}{D:CK}{H:HP}{d:Option Tmp}{T T' ty:TypeId}{pos:String}{af:Array Edge}{g:Option (Nat×Bool)}{x y z:Operand}
theorem du{p:Option Addr}{k c:Nat}(hx:ev E x=some (.slice p k c))(hy:ev E y=some (.slice none 0 0)):
  Aa Tryz.prog B n ⟨d,.binOp .eql 121 x y 121,ty,pos,af,g⟩ E H (.bool p.isNone):=by
 cases p with
 |none=>exact Lu hx hy (fun w=>by kernel_rfl) (fun w=>by kernel_rfl)
 |some a=>exact Lu hx hy (fun w=>by kernel_rfl) (fun w=>by kernel_rfl)
end
theorem iz(r:RF)(p:Option Addr)(b o c:Nat)(xs:List UInt8)(s:List Value)(R:HP)(hm:FU r)(hr:AW B R r.b r.o r.f.ranges)(hs:Sl p b o xs.length c)(hc:xs.length*1+s.length=c*1)(hx:xs.length<100000000000)(hk:¬Dh r.f.kind):
  Fn Tryz.prog B 138 [.slice p xs.length c,.agg (AI r).toArray] (AD b o xs s*R) (fun v H'=>v=.slice none 0 0∧H'=AD b o xs s*R):=by
 refine mI Tryz.func138 ?_;refine Hj ?_;rintro _ _ ⟨b3,rfl,rfl⟩;refine LP ?_;refine mE rfl (ey r.f.kind hk _) ?_;refine JR ?_;refine J7 ?_;refine JL PT ?_;refine J1 ?_;refine CU 11 rfl (fun hg1=>?_) (fun hg1=>?_)
 ·refine Fh ?_;refine GO ?_;refine Gv ?_;refine J7 ?_;exact mR [4] (AD b o xs s*R) rfl rfl CO
 cases hg1
theorem sh(r:RF)(p:Option Addr)(b o c:Nat)(xs:List UInt8)(s:List Value)(R:HP)(hm:FU r)(hr:AW B R r.b r.o r.f.ranges)(hs:Sl p b o xs.length c)(hc:xs.length*1+s.length=c*1)(hx:xs.length<100000000000)(hk:Dh r.f.kind):
  Fn Tryz.prog B 138 [.slice p xs.length c,.agg (AI r).toArray] (AD b o xs s*R) (fun v H'=>(Bh r.f∧CH R (xs++Aj r.f) v H')∨(¬Bh r.f∧v=.slice none 0 0∧H'=AD b o xs s*R)):=by
 refine mI Tryz.func138 ?_;refine Hj ?_;rintro _ _ ⟨b3,rfl,rfl⟩;refine LP ?_;refine mE rfl (Le r.f.kind hk _) ?_;rintro _ _ ⟨bc,f1,us1,f2,us2,f3,us3,C,hF,rfl,rfl⟩;have hw:=hF.Wu (B:=B);have hq1:=hw.bT;refine J7 ?_;refine Ka ?_;refine J1 ?_;refine CU 11 rfl (fun hg1=>?_) (fun hg1=>?_)
 ·cases hg1
 refine dK ?_;refine mC (fun hcc=>?_) (fun hcc=>?_)
 ·refine J7 ?_
  first
  |exact mR [4] (AD b o xs s*R) rfl rfl (.inr ⟨hcc,rfl,rfl⟩)
  |exact mR [4] (AD b21 o21 (xs++Aj r.f) s21*R) rfl rfl dJ
 have hok:Bh r.f:=Classical.not_not.1 hcc;refine Mc ?_;refine cK ?_;refine AV (Iz rfl rfl (hw.write r b3 p b o c xs s _ hm rfl hok inferInstance hs hc hx)) rfl ?_;rintro _ _ ⟨p21,b21,o21,c21,s21,rfl,hs21,hc21,rfl⟩;refine J4 ?_
 first
 |exact mR [4] (AD b o xs s*R) rfl rfl (.inr ⟨hcc,rfl,rfl⟩)
 |exact mR [4] (AD b21 o21 (xs++Aj r.f) s21*R) rfl rfl dJ
theorem vW(r:RF)(p:Option Addr)(b o c:Nat)(xs:List UInt8)(s:List Value)(R:HP)(hm:FU r)(hr:AW B R r.b r.o r.f.ranges)(hs:Sl p b o xs.length c)(hc:xs.length*1+s.length=c*1)(hx:xs.length<100000000000):
  Fn Tryz.prog B 138 [.slice p xs.length c,.agg (AI r).toArray] (AD b o xs s*R) (fun v H'=>(Bh r.f∧CH R (xs++Aj r.f) v H')∨(¬Bh r.f∧v=.slice none 0 0∧H'=AD b o xs s*R)):=by
 by_cases hk:Dh r.f.kind
 ·exact sh r p b o c xs s R hm hr hs hc hx hk
 ·exact(iz r p b o c xs s R hm hr hs hc hx hk).mono fun v H' h=>.inr ⟨fun ho=>hk ho.2.2.2.2.2,h⟩
theorem tn(r:RF)(p:Option Addr)(b o c:Nat)(xs:List UInt8)(s:List Value)(R:HP)(hm:FU r)(hr:AW B R r.b r.o r.f.ranges)(hs:Sl p b o xs.length c)(hc:xs.length*1+s.length=c*1)(hx:xs.length<100000000000):
  Fn Tryz.prog B 138 [.slice p xs.length c,.agg (AI r).toArray] (AD b o xs s*R) (fun v H'=>∃p' b' o' c' s' ys,v=.slice p' ys.length c'∧Sl p' b' o' ys.length c'∧ys.length*1+s'.length=c'*1∧H'=AD b' o' ys s'*R∧
   ((Bh r.f∧ys=xs++Aj r.f∧p'.isNone=false)∨(¬Bh r.f∧p'.isNone=true))):=by
 refine(vW r p b o c xs s R hm hr hs hc hx).drop ?_;rintro v H' (⟨hok,p',b',o',c',s',rfl,h1,h2,rfl⟩|⟨hok,rfl,rfl⟩)
 ·refine⟨_,⟨p',b',o',c',s',_,rfl,h1,h2,rfl,.inl ⟨hok,rfl,?_⟩⟩,fun _ h=>h⟩
  have hne:0<(xs++Aj r.f).length:=by have:=k_.2 (aq r.f);simp only [d_];omega
  rw [h1.1.resolve_left (by have:=h1.2;omega)];rfl
 ·exact⟨R,⟨none,0,0,0,[],[],rfl,DG,rfl,Cx,.inr ⟨hok,rfl⟩⟩,fun _ h=>h.right⟩
theorem Wl(fs:List AZ)(i:Nat)(h:i<fs.length):BN (fs.take i)++Aj (fs[i])=BN (fs.take (i+1)):=by
 unfold BN;rw [List.take_succ_eq_append_getElem h,l_]
 simp
theorem YR(fs:List AZ)(i:Nat):(BN (fs.take i)).length≤(BN fs).length:=by
 have h:BN fs=BN (fs.take i)++BN (fs.drop i):=by unfold BN;rw [←l_,List.take_append_drop]
 rw [h,d_];omega
theorem H2{α:Type}(xs:List α)(i:Nat)(d:α)(h:i<xs.length):xs.getD i d=xs[i]:=by simp [List.getD,h]
theorem wM(fs:List AZ)(p:Option Addr)(c b o:Nat)(rs:List RF)(H:HP)(hfs:Hi B H p c fs b o rs)(hmd:∀r∈rs,FU r)(hn:fs.length<100000000000)(hel:(BN fs).length<100000000000):
  Fn Tryz.prog B 164 [.slice p fs.length c] H (fun v H'=>match EV fs with
   |none=>v=.tuple #[.slice none 0 0,.iface 41 (.int .i64 5)]∧H'=H
   |some ys=>∃sv,v=.tuple #[sv,.nilIface]∧CH H ys sv H'):=by
 refine mI Tryz.func164 ?_;have hrl:=hfs.len;refine BV ?_;refine Kr ?_;refine mC (fun h0=>?_) (fun h0=>?_)
 ·refine J2 ?_;refine JL IW ?_;refine J6 ?_
  exact mR [2,3] H rfl rfl (by
    rw [EV,if_neg (fun h=>h.1 V7)];exact CO)
 refine CR ?_;refine Hy ?_
 refine BL (α:=Nat×Option Addr×Nat×Nat×Nat×List Value) (fun z=>[(4,.slice z.2.1 (BN (fs.take z.1)).length z.2.2.2.2.1),(11,.slice p fs.length c),(12,iN fs.length),(13,iN z.1)]) (fun z=>AD z.2.2.1 z.2.2.2.1 (BN (fs.take z.1)) z.2.2.2.2.2*H) (fun z=>z.1≤fs.length∧(∀j,j<z.1→Bh (rs.getD j AB.AC).f)∧Sl z.2.1 z.2.2.1 z.2.2.2.1 (BN (fs.take z.1)).length z.2.2.2.2.1∧(BN (fs.take z.1)).length*1+z.2.2.2.2.2.length=z.2.2.2.2.1*1) (fun z=>fs.length-z.1) (0,none,0,0,0,[]) ⟨j' _,fun j hj=>absurd hj TN,DG,rfl⟩ B4 qJ ?_
 rintro⟨i,q,qb,qo,qc,qs⟩ ⟨hi,hall,hqs,hqc⟩;dsimp only at hi hall hqs hqc⊢;have hql:=YR fs i;refine J6 ?_;refine mC (fun hlt=>?_) (fun hlt=>?_)
 ·skip
  have hmem:rs.getD i AB.AC∈rs:=by rw [H2 _ _ _ Cg];exact Ty
  have hri:(rs.getD i AB.AC).f=fs[i]:=by
   have:=hfs.map;subst this
   rw [H2 _ _ _ Cg,List.getElem_map]
  have hrr:=hfs.MG _ hmem;refine J6 ?_;refine JL SD ?_;refine JL RX ?_;refine AV O9 rfl ?_;rintro _ _ ⟨b6,rfl,rfl⟩;refine Bv (GS (cs:=AI (rs.getD i AB.AC)) rfl rfl Cn (AB.one (rs.getD i AB.AC))) ?_;refine Ha ?_;refine Aw (H':=AD qb qo (BN (fs.take i)) qs*(HP.AA b6 0 (AI (rs.getD i AB.AC))*H)) (HP.C8 _ _ _) ?_;refine mE rfl (tn (rs.getD i AB.AC) q qb qo qc (BN (fs.take i)) qs _ (hmd _ hmem) inferInstance hqs hqc Cg) ?_;rintro _ _ ⟨p',b',o',c',s',ys,rfl,hs',hc',rfl,hcase⟩;refine J6 ?_;refine JL (du rfl rfl) ?_;refine J2 ?_;refine mc (fun hpn=>?_) (fun hpn=>?_)
  ·skip
   have hbad:¬Bh (rs.getD i AB.AC).f:=by
    rcases hcase with h|h
    ·rw [h.2.2]at hpn;cases hpn
    ·exact h.1
   refine J2 ?_;refine JL IW ?_;refine By ?_
   exact mR [2,3] H rfl rfl (by
     rw [EV,if_neg (fun h=>hbad (by rw [hri];exact h.2 _ (List.getElem_mem _)))];exact CO)
  obtain⟨hok,rfl,_⟩:Bh (rs.getD i AB.AC).f∧ys=BN (fs.take i)++Aj (rs.getD i AB.AC).f∧p'.isNone=false:=by
   rcases hcase with h|h
   ·exact h
   ·rw [h.2]at hpn;cases hpn
  rw [hri,Wl fs i hlt]at hs' hc'⊢;refine J4 ?_;refine JL OQ ?_;refine J2 ?_;refine Au (AD b' o' (BN (fs.take (i+1))) s'*H) (At (i+1,p',b',o',c',s') ⟨Cg,fun j hj=>?_,hs',hc'⟩ Lq B4 rfl);rcases f_.1 hj with h|rfl
  ·exact hall j h
  ·exact hok
 refine EP ?_
 exact mR [2,3] (AD qb qo (BN (fs.take i)) qs*H) rfl rfl (by
   obtain rfl:i=fs.length:=by omega
   rw [List.take_length]at hqs hqc⊢
   have hgood:fs≠ []∧∀f∈fs,Bh f:=⟨fun h=>h0 Qa,fun f hf=>by
    have hm2:=hfs.map
    subst hm2
    obtain⟨r,hr,rfl⟩:=List.mem_map.1 hf
    obtain⟨j,hj,rfl⟩:=List.getElem_of_mem hr
    have:=hall j Cg
    rwa [H2 _ _ _ hj]at this⟩
   rw [EV,if_pos hgood]
   exact Ve)
end
end Go.Proofs.YtgfdlpcdjklcoaaGreatDoor
