/- A part of this proof: steps of the program, plain facts; no condition. -/
import Derived.Test.YtgfdlpcdjklcoaaGreatDoorP12
namespace Go.Proofs.YtgfdlpcdjklcoaaGreatDoor
open Go Go.RowKit
open _root_.List renaming take_succ_eq_append_getElem→a_,length_pos_iff→c_,getD_eq_getElem?_getD→d_,getElem?_eq_getElem→e_,length_append→f_,foldl_append→g',getElem_map→i_,mem_map→k_,foldl_cons→m_,nil_append→n_,getElem_of_mem→o_,foldl_nil→q_,take_length→r_,length_drop→s_,cons_append→t_,take_of_length_le→v_,length_map→w_,append_nil→xt,mem_of_mem_take→xu,length_take→ya,length_cons→yb,getElem_mem→yc,length_nil→yd,map_set→ye
open _root_.Go.Value renaming bool→b_
open _root_.Int renaming toNat_natCast→g_,toNat_of_nonneg→xw
open _root_.UInt8 renaming ofNat→h_,toNat_ofNat'→x_
open _root_.Nat renaming add_zero→j_,lt_succ_iff_lt_or_eq→j',zero_le→l_,pow_zero→p_,div_one→q',reduceEqDiff→u_,one_ne_zero→xr,reduceSub→xx,reduceMul→xy,reducePow→xz,le_refl→yf
set_option linter.unusedVariables false
set_option linter.unusedSimpArgs false
set_option maxRecDepth 20000
section
variable{B:World}
def Ad.Ey(m:Ad)(outs:List DF):Ad:={m with outs:=outs}
theorem td{p:DV}{l:List DV}(h:p∈l):AW B (AM B3 l) p.a.b p.a.o p.fs:=by
 obtain⟨i,hi,rfl⟩:=o_ h;have e:=MR B3 l i AB.AC hi;rw [d_,e_ hi]at e;rw [e];show AW B (AD l[i].a.b l[i].a.o l[i].fs l[i].a.s*_) _ _ _;infer_instance
theorem NZ(l:List AP)(k n:Nat)(hk:k<l.length):A8 (l.take (k+1)) n=(A8 (l.take k) n||(decide ((rg l k).lo≤n)&&decide (n≤(rg l k).hi))):=by
 rw [a_ hk,A8,List.any_append,←Hr hk];simp [A8]
theorem sA{l:List DV}{i:Nat}(h:i<l.length):(l.map DV.s).take (i+1)=(l.map DV.s).take i++[(l.getD i AB.AC).s]:=by
 rw [a_ qX,i_,d_,e_ h];rfl
theorem RM{l:List RF}{i:Nat}(h:i<l.length):(l.map RF.f).take (i+1)=(l.map RF.f).take i++[(l.getD i AB.AC).f]:=by
 rw [a_ qX,i_,d_,e_ h];rfl
structure fW(m:Ad)(l:List AP)(i:Nat)(outs:List DF):Prop where
 ok:(m.Ey outs).ok
 e:outs.map (·.o)=((m.AJ.map DV.s).take i).foldl (Gl l) (m.outs.map (·.o))
structure zR(m:Ad)(outs0:List DF)(fs:List RF)(k:Nat)(outs:List DF):Prop where
 ok:(m.Ey outs).ok
 e:outs.map (·.o)=((fs.map RF.f).take k).foldl G5 (outs0.map (·.o))
theorem Q3{outs:List DF}{j:Nat}(hj:j<outs.length):(outs.map (·.o)).getD j B'=(outs.getD j AB.AC).o:=by
 simp only [d_,List.getElem?_map,e_ hj];rfl
set_option maxHeartbeats 8000000 in
theorem sw(sb t:Nat)(m:Ad)(l:List AP)(p:Option Addr)(b o c:Nat)(R:HP)(hm:m.ok)(hi:Ag t m.s)(ht:t<1000000)(hs:Sl p b o l.length c)(hr:AW B R b o l)(hll:l.length<1000000000000):
  Fn Tryz.prog B 126 [ptr sb 0,.slice p l.length c] (AS sb m*R)
   (fun _ H'=>∃m':Ad,m'.ok∧m'.s=m.s.Dj l∧H'=AS sb m'*R):=by
 refine mI Tryz.func126 ?_;refine J2 ?_;refine CZ ?_
 have hsl:m.AJ.length≤20000000:=(by have h7:=hi.sl;have h8:=hi.nx;have h9:m.s.AJ.length=m.AJ.length:=w_ ..;omega)
 refine BL (α:=Nat×List DF) (fun z=>[(0,ptr sb 0),(1,.slice p l.length c),(4,iN z.1)]) (fun z=>AS sb (m.Ey z.2)*R) (fun z=>z.1≤m.AJ.length∧fW m l z.1 z.2) (fun z=>m.AJ.length-z.1) (0,m.outs) ⟨l_ _,⟨hm,rfl⟩⟩ CN rfl ?_;rintro⟨i,outs⟩ ⟨hi1,hA⟩;dsimp only at hi1 hA⊢;refine Ap (H':=Ab sb m.x*(AH m.x.gq m.ga m.AO*(AH m.x.eq m.ea m.Ao*(m.da.h (m.due.map Ay.mk)*(m.oa.h outs*(AM BJ outs*(m.ia.h m.ins*(AM BC m.ins*(AD m.sa.b m.sa.o m.AJ m.sa.s*(AM B3 m.AJ*R)))))))))) (by rw [DJ];rfl) ?_;refine J7 ?_;refine JL QJ ?_;refine J4 ?_;refine mC (fun h15=>?_) (fun h15=>?_)
 ·have h15:i<m.AJ.length:=h15;have hsm:=Ex (d:=AB.AC) h15;have hsn:=td (B:=B) hsm;have hsok:=hm.AJ _ hsm;have hsO:=hi.AJ (m.AJ.getD i AB.AC).s (k_.2 ⟨_,hsm,rfl⟩)
  have hfl:(m.AJ.getD i AB.AC).fs.length≤300:=(by have h7:=hsO.len;have h8:(m.AJ.getD i AB.AC).s.Aq.length=(m.AJ.getD i AB.AC).fs.length:=w_ ..;omega)
  refine CR ?_;refine CZ ?_;refine BL (α:=Nat) (fun k=>[(5,.bool (A8 (l.take k) (m.AJ.getD i AB.AC).number)),(6,iN k),(0,ptr sb 0),(1,.slice p l.length c),(4,iN i)]) (fun _=>Ab sb m.x*(AH m.x.gq m.ga m.AO*(AH m.x.eq m.ea m.Ao*(m.da.h (m.due.map Ay.mk)*(m.oa.h outs*(AM BJ outs*(m.ia.h m.ins*(AM BC m.ins*(AD m.sa.b m.sa.o m.AJ m.sa.s*(AM B3 m.AJ*R)))))))))) (fun k=>k≤l.length) (fun k=>l.length-k) 0 C9 D' rfl ?_;rintro k hk1;dsimp only at hk1⊢;refine J9 ?_;refine mC (fun h21=>?_) (fun h21=>?_)
  ·have h21:k<l.length:=h21;refine J4 ?_;refine BO (α:=Unit) (fun _=>[(5,.bool (A8 (l.take (k+1)) (m.AJ.getD i AB.AC).number)),(6,iN k),(0,ptr sb 0),(1,.slice p l.length c),(4,iN i)]) (fun _=>Ab sb m.x*(AH m.x.gq m.ga m.AO*(AH m.x.eq m.ea m.Ao*(m.da.h (m.due.map Ay.mk)*(m.oa.h outs*(AM BJ outs*(m.ia.h m.ins*(AM BC m.ins*(AD m.sa.b m.sa.o m.AJ m.sa.s*(AM B3 m.AJ*R)))))))))) (fun _=>True) ?_ ?_
   ·refine mA 34 34 ?_;refine EQ ?_;refine GF 25 rfl (fun hg1=>?_) (fun hg1=>?_)
    ·have h24:=hg1;refine Yh ?_;refine Vo ?_;refine JN 31 rfl hg1 ?_;refine JT 32 rfl L8 ?_;refine OE ?_;exact AU () trivial (.cons (congrArg (fun bb=>some (b_ bb)) (by rw [NZ l k _ h21,h24,Bool.true_or])) B4) rfl
    have h24:=hg1;refine JY 2 rfl hg1 A4 ?_;refine JY 3 rfl hg1 A4 ?_;refine JY 4 rfl hg1 (Bm rfl rfl hs h21) ?_;refine JY 5 rfl hg1 A7 ?_;refine JY 6 rfl hg1 (H6 (i:=k) (xs:=l) rfl inferInstance h21) ?_;refine XI ?_;refine JY 10 rfl hg1 QJ ?_;refine JY 11 rfl hg1 A4 ?_;refine JY 12 rfl hg1 Rx ?_;refine JY 13 rfl hg1 A7 ?_;refine JY 14 rfl hg1 jQ ?_;refine JY 15 rfl hg1 Ge ?_;refine JY 16 rfl hg1 A4 ?_;refine DM 40 rfl (fun hg2=>?_) (fun hg2=>?_)
    ·have h40:=hg2;refine JY 17 rfl T2 A4 ?_;refine JY 18 rfl T2 CP ?_;refine JY 19 rfl T2 A7 ?_;refine JY 20 rfl T2 QJ ?_;refine JY 21 rfl T2 A4 ?_;refine JY 22 rfl T2 Rx ?_;refine JY 23 rfl T2 A7 ?_;refine JY 24 rfl T2 jQ ?_;refine JY 25 rfl T2 A4 ?_;refine JY 26 rfl T2 A4 ?_;refine JY 27 rfl T2 (Bm rfl rfl hs h21) ?_;refine JY 28 rfl T2 A7 ?_;refine JY 29 rfl T2 (HO (i:=k) (xs:=l) rfl inferInstance h21) ?_;refine JY 30 rfl T2 Ge ?_;refine JY 31 rfl hg1 FR ?_;refine JT 32 rfl Ju ?_;refine OE ?_;exact AU () trivial (.cons (congrArg (fun bb=>some (b_ bb)) (by rw [NZ l k _ h21,h24,decide_eq_true h40,Bool.false_or,Bool.true_and])) B4) rfl
    have h40:=hg2;refine JN 17 rfl F2 ?_;refine JN 18 rfl F2 ?_;refine JN 19 rfl F2 ?_;refine JN 20 rfl F2 ?_;refine dD ?_;refine JN 30 rfl F2 ?_;refine JY 31 rfl hg1 FQ ?_;refine JT 32 rfl Ju ?_;refine OE ?_;exact AU () trivial (.cons (congrArg (fun bb=>some (b_ bb)) (by rw [NZ l k _ h21,h24,decide_eq_false h40,Bool.false_or,Bool.false_and])) B4) rfl
   ·rintro _ _;refine Fb ?_;exact At (k+1) (by show k+1≤l.length;omega) (by show l.length-(k+1)<l.length-k;omega) D' rfl
  obtain rfl:k=l.length:=by have h7:¬k<l.length:=h21;omega
  rw [r_];refine J9 ?_;refine N3 ?_;refine mc (fun h57=>?_) (fun h57=>?_)
  ·skip
   have h57:A8 l (m.AJ.getD i AB.AC).number=false:=by simpa using h57
   refine KG ?_
   first
    |exact Au (AS sb (m.Ey outs4)*R) (hE:=by rw [DJ];exact Il) gE
    |exact Au (AS sb (m.Ey outs)*R) (hE:=by rw [DJ];exact Il) Y5
  have h57:A8 l (m.AJ.getD i AB.AC).number=true:=by simpa using h57
  refine J4 ?_;refine CZ ?_;refine BL (α:=Nat×List DF) (fun z=>[(7,iN z.1),(0,ptr sb 0),(1,.slice p l.length c),(4,iN i)]) (fun z=>Ab sb m.x*(AH m.x.gq m.ga m.AO*(AH m.x.eq m.ea m.Ao*(m.da.h (m.due.map Ay.mk)*(m.oa.h z.2*(AM BJ z.2*(m.ia.h m.ins*(AM BC m.ins*(AD m.sa.b m.sa.o m.AJ m.sa.s*(AM B3 m.AJ*R)))))))))) (fun z=>z.1≤(m.AJ.getD i AB.AC).fs.length∧zR m outs (m.AJ.getD i AB.AC).fs z.1 z.2) (fun z=>(m.AJ.getD i AB.AC).fs.length-z.1) (0,outs) ⟨l_ _,⟨hA.ok,rfl⟩⟩ BR rfl ?_;rintro⟨k,outs3⟩ ⟨hk1,hF⟩;dsimp only at hk1 hF⊢;refine J7 ?_;refine JL QJ ?_;refine J1 ?_;refine JL Rx ?_;refine J1 ?_;refine JL sY ?_;refine J4 ?_;refine mC (fun h69=>?_) (fun h69=>?_)
  ·have h69:k<(m.AJ.getD i AB.AC).fs.length:=h69;refine J9 ?_;refine JL QJ ?_;refine J1 ?_;refine JL Rx ?_;refine J1 ?_;refine JL sY ?_;refine J1 ?_;refine JL (FT rfl rfl hsok.1 h69 rfl) ?_;refine JL (Br (v':=.agg (AI ((m.AJ.getD i AB.AC).fs.getD k AB.AC)).toArray) (I5 (xs:=(m.AJ.getD i AB.AC).fs) rfl inferInstance h69) rfl) ?_;refine AV O4 rfl ?_;rintro _ _ ⟨b8,rfl,rfl⟩;refine Bv (GS rfl rfl Cn (AB.one ((m.AJ.getD i AB.AC).fs.getD k AB.AC))) ?_;refine G6 ?_;refine BO (α:=Unit) (fun _=>[(91,.bool (decide (((m.AJ.getD i AB.AC).fs.getD k AB.AC).f.kind=5∧0<((m.AJ.getD i AB.AC).fs.getD k AB.AC).f.data.size))),(8,ptr b8 0),(7,iN k),(0,ptr sb 0),(1,.slice p l.length c),(4,iN i)]) (fun _=>HP.AA b8 0 (AI ((m.AJ.getD i AB.AC).fs.getD k AB.AC))*(Ab sb m.x*(AH m.x.gq m.ga m.AO*(AH m.x.eq m.ea m.Ao*(m.da.h (m.due.map Ay.mk)*(m.oa.h outs3*(AM BJ outs3*(m.ia.h m.ins*(AM BC m.ins*(AD m.sa.b m.sa.o m.AJ m.sa.s*(AM B3 m.AJ*R))))))))))) (fun _=>True) ?_ ?_
   ·refine J3 ?_;refine JL (CI (i:=((m.AJ.getD i AB.AC).fs.getD k AB.AC).f.kind) (j:=5) rfl rfl) ?_;refine J1 ?_;refine CJ 86 rfl (fun hg3=>?_) (fun hg3=>?_)
    ·have h86:=hg3;refine JG T3 ?_;refine J1 ?_;refine JG T3 ?_;refine J1 ?_;refine JG T3 ?_;refine J1 ?_;refine JG T3 ?_;refine JL (I' (i:=((m.AJ.getD i AB.AC).fs.getD k AB.AC).f.data.size) (j:=0) rfl rfl) ?_;refine JL OZ ?_;refine J1 ?_;exact AU () trivial (.cons (congrArg (fun bb=>some (b_ bb)) (decide_eq_decide.2 ⟨fun h=>⟨h86,h⟩,fun h=>h.2⟩)) D') rfl
    have h86:=hg3;refine JH F3 ?_;refine JH F3 ?_;refine JH F3 ?_;refine JH F3 ?_;refine JL Oh ?_;refine J1 ?_;exact AU () trivial (.cons (congrArg (fun bb=>some (b_ bb)) (decide_eq_false (fun h=>h86 h.1)).symm) D') rfl
   ·rintro _ _;refine J1 ?_;refine mC (fun h91=>?_) (fun h91=>?_)
    ·skip
     obtain⟨eOs,eSame⟩:GB m.s.AG (outs3.map (·.o))∧∀k,IR (m.s.outs.getD k B') ((outs3.map (·.o)).getD k B'):=by
      obtain⟨a1,a2⟩:=ST (l:=l) ((m.AJ.map DV.s).take i) m.s.outs hi.outs (fun p hp f hf=>(hi.AJ p (xu hp)).fr f hf);rw [show((m.AJ.map DV.s).take i).foldl (Gl l) m.s.outs=outs.map (·.o)from hA.e.symm]at a1 a2;obtain⟨b1,b2⟩:=VR (((m.AJ.getD i AB.AC).fs.map RF.f).take k) (outs.map (·.o)) a1 (fun f hf=>(hsO.fr f (xu hf)).same a2);rw [←hF.e]at b1 b2;exact⟨b1,fun k=>(a2 k).trans (b2 k)⟩
     have hfo:FV (outs3.map (·.o)) ((m.AJ.getD i AB.AC).fs.getD k AB.AC).f:=(hsO.fr ((m.AJ.getD i AB.AC).fs.getD k AB.AC).f (k_.2 ⟨_,Ex h69,rfl⟩)).same eSame
     obtain⟨j,hst⟩:∃j:Nat,((m.AJ.getD i AB.AC).fs.getD k AB.AC).f.stream=(j:Int):=⟨_,(xw hfo.1).symm⟩
     have hj:j<4:=(by have:=hfo.2.1;omega)
     have hjl:j<outs3.length:=(by have h7:=eOs.len;rw [w_]at h7;omega)
     have hoo:=eOs.ok j hj;rw [Q3 hjl]at hoo;have hfe:=hfo.2.2 h91.1;rw [hst,g_,Q3 hjl]at hfe;have hom:=hF.ok.outs _ GI;have hbl:=hoo.len;have hclen:=hoo.Us;have hoa3:m.oa.ok outs3:=hF.ok.oa;have hov3:m.x.ov=m.oa.v outs3.length:=hF.ok.ov;obtain⟨e1,e2,e3⟩:=QO (lo:=((m.AJ.getD i AB.AC).fs.getD k AB.AC).f.offset) (hi:=((m.AJ.getD i AB.AC).fs.getD k AB.AC).f.offset+((m.AJ.getD i AB.AC).fs.getD k AB.AC).f.data.size-1) hoo.co hoo.cf Cg Cg (by rw [hoo.cm];show _<1073741824;omega)
     refine Ap (H':=AH (outs3.getD j AB.AC).cq (outs3.getD j AB.AC).ca (outs3.getD j AB.AC).o.AF*(HP.AA (outs3.getD j AB.AC).q 0 (F5z (outs3.getD j AB.AC))*(Ab sb m.x*(AD m.oa.b m.oa.o outs3 m.oa.s*(HP.AA b8 0 (AI ((m.AJ.getD i AB.AC).fs.getD k AB.AC))*(BX BJ outs3 j*(Et (m.Ey outs3) sb*R))))))) (by
      have h7:=J0 sb (m.Ey outs3) R j hjl
      rw [DJ]at h7
      refine Eq.trans (congrArg (fun hh=>HP.AA b8 0 (AI ((m.AJ.getD i AB.AC).fs.getD k AB.AC))*hh) (show Ab sb m.x*(AH m.x.gq m.ga m.AO*(AH m.x.eq m.ea m.Ao*(m.da.h (m.due.map Ay.mk)*(m.oa.h outs3*(AM BJ outs3*(m.ia.h m.ins*(AM BC m.ins*(AD m.sa.b m.sa.o m.AJ m.sa.s*(AM B3 m.AJ*R)))))))))=_ from h7)) ?_
      show HP.AA b8 0 (AI ((m.AJ.getD i AB.AC).fs.getD k AB.AC))*(Ab sb m.x*(AD m.oa.b m.oa.o outs3 m.oa.s*(HP.AA (outs3.getD j AB.AC).q 0 (F5z (outs3.getD j AB.AC))*(AH (outs3.getD j AB.AC).cq (outs3.getD j AB.AC).ca (outs3.getD j AB.AC).o.AF*(BX BJ outs3 j*(Et (m.Ey outs3) sb*R))))))=_
      ac_rfl) ?_
     refine Dc (HP.AA (outs3.getD j AB.AC).q 0 (F5z (outs3.getD j AB.AC))*(Ab sb m.x*(AD m.oa.b m.oa.o outs3 m.oa.s*(HP.AA b8 0 (AI ((m.AJ.getD i AB.AC).fs.getD k AB.AC))*(BX BJ outs3 j*(Et (m.Ey outs3) sb*R)))))) 22 22 Dg rfl Ch ?_;refine Hu ?_;refine JT 3 rfl (Br D7 hov3) ?_;refine HB ?_;refine JT 6 rfl (Bm (i:=j) rfl ib hoa3.1 hjl) ?_;refine JT 7 rfl (DT (f:=0) (xs:=outs3) rfl inferInstance rfl hjl) ?_;refine Jn 8 ?_;refine Jf 9 ?_;refine Jd 10 ?_;refine Jf 11 ?_;refine Jd 12 ?_;refine Jf 13 ?_;refine Jd 14 ?_;refine Jf 15 ?_;refine Jd 16 ?_;refine JT 17 rfl IG ?_;refine JT 18 rfl EM ?_;refine JT 19 rfl IU ?_;refine JT 20 rfl Nm ?_;refine Al 21 Ch rfl rfl (BK rfl (Ui (outs3.getD j AB.AC).cq ((m.AJ.getD i AB.AC).fs.getD k AB.AC).f.offset (((m.AJ.getD i AB.AC).fs.getD k AB.AC).f.offset+((m.AJ.getD i AB.AC).fs.getD k AB.AC).f.data.size-1) (outs3.getD j AB.AC).o.data.length (outs3.getD j AB.AC).ca (outs3.getD j AB.AC).o.AF _ hom hoo.co Cg Cg (by rw [hoo.cm];exact yf _))) ?_;rintro _ _ ⟨a113,hs113,rfl⟩
     obtain⟨o2,ho2⟩:∃o2:DF,o2={(outs3.getD j AB.AC)with o:={(outs3.getD j AB.AC).o with AF:=(outs3.getD j AB.AC).o.AF.add ((m.AJ.getD i AB.AC).fs.getD k AB.AC).f.offset (((m.AJ.getD i AB.AC).fs.getD k AB.AC).f.offset+((m.AJ.getD i AB.AC).fs.getD k AB.AC).f.data.size-1)},ca:=a113}:=Bg
     have hok2:(m.Ey (outs3.set j o2)).ok:=Ad.ok.C0 (m:=m.Ey outs3) hF.ok (k:=j) (o:=o2) (by rw [ho2];exact hs113);refine BF ?_;refine JD ?_;refine Fb ?_
     first
      |exact Au (Ab sb m.x*(AH m.x.gq m.ga m.AO*(AH m.x.eq m.ea m.Ao*(m.da.h (m.due.map Ay.mk)*(m.oa.h (outs3.set j o2)*(AM BJ (outs3.set j o2)*(m.ia.h m.ins*(AM BC m.ins*(AD m.sa.b m.sa.o m.AJ m.sa.s*(AM B3 m.AJ*R)))))))))) (hE:=⟨fun ww hw=>Sat.right (A:=HP.AA b8 0 (AI ((m.AJ.getD i AB.AC).fs.getD k AB.AC))) (Eq.mp (by
        congr 1
        have h7:=OW sb (m.Ey outs3) R j hjl o2 (by rw [ho2];rfl)
        rw [DJ]at h7
        refine pN ?_
        refine Eq.trans ?_ iK
        rw [ho2]
        refine oX ?_
        ac_rfl) hw)⟩) (At (k+1,outs3.set j o2) ⟨h69,hok2,by
         rw [RM h69,g',←hF.e,m_,q_]
         unfold G5
         rw [if_pos h91,hst,g_,Q3 hjl,ye,ho2]⟩ TK BR rfl)
      |exact Au (Ab sb m.x * (AH m.x.gq m.ga m.AO * (AH m.x.eq m.ea m.Ao * (m.da.h (m.due.map Ay.mk) * (m.oa.h outs3 * (AM BJ outs3 * (m.ia.h m.ins * (AM BC m.ins * (AD m.sa.b m.sa.o m.AJ m.sa.s * (AM B3 m.AJ * R)))))))))) (At (k + 1,outs3) ⟨h69,hF.ok,by
         rw [RM h69,g',←hF.e,m_,q_]
         unfold G5
         rw [if_neg h91]⟩ TK BR rfl)
    refine Fu ?_
    first
     |exact Au (Ab sb m.x*(AH m.x.gq m.ga m.AO*(AH m.x.eq m.ea m.Ao*(m.da.h (m.due.map Ay.mk)*(m.oa.h (outs3.set j o2)*(AM BJ (outs3.set j o2)*(m.ia.h m.ins*(AM BC m.ins*(AD m.sa.b m.sa.o m.AJ m.sa.s*(AM B3 m.AJ*R)))))))))) (hE:=⟨fun ww hw=>Sat.right (A:=HP.AA b8 0 (AI ((m.AJ.getD i AB.AC).fs.getD k AB.AC))) (Eq.mp (by
       congr 1
       have h7:=OW sb (m.Ey outs3) R j hjl o2 (by rw [ho2];rfl)
       rw [DJ]at h7
       refine pN ?_
       refine Eq.trans ?_ iK
       rw [ho2]
       refine oX ?_
       ac_rfl) hw)⟩) (At (k+1,outs3.set j o2) ⟨h69,hok2,by
        rw [RM h69,g',←hF.e,m_,q_]
        unfold G5
        rw [if_pos h91,hst,g_,Q3 hjl,ye,ho2]⟩ TK BR rfl)
     |exact Au (Ab sb m.x * (AH m.x.gq m.ga m.AO * (AH m.x.eq m.ea m.Ao * (m.da.h (m.due.map Ay.mk) * (m.oa.h outs3 * (AM BJ outs3 * (m.ia.h m.ins * (AM BC m.ins * (AD m.sa.b m.sa.o m.AJ m.sa.s * (AM B3 m.AJ * R)))))))))) (At (k + 1,outs3) ⟨h69,hF.ok,by
        rw [RM h69,g',←hF.e,m_,q_]
        unfold G5
        rw [if_neg h91]⟩ TK BR rfl)
  obtain rfl:k=(m.AJ.getD i AB.AC).fs.length:=by have h7:¬k<(m.AJ.getD i AB.AC).fs.length:=h69;omega
  obtain⟨outs4,ho4⟩:∃o,o=outs3:=Bg
  have hF4:fW m l (i+1) outs4:=by
   rw [ho4];refine⟨hF.ok,?_⟩;rw [hF.e,sA h15,g',←hA.e,v_ dB];show _=Gl l _ _;unfold Gl;rw [if_pos (by show A8 l (m.AJ.getD i AB.AC).number=true;exact h57)];rfl
  rw [←ho4];refine J8 ?_;refine JL OQ ?_;refine J2 ?_
  first
   |exact Au (AS sb (m.Ey outs4)*R) (hE:=by rw [DJ];exact Il) gE
   |exact Au (AS sb (m.Ey outs)*R) (hE:=by rw [DJ];exact Il) Y5
 obtain rfl:i=m.AJ.length:=by have h7:¬i<m.AJ.length:=h15;omega
 refine J4 ?_
 exact Kw (ts:=[]) (AS sb (m.Ey outs)*R) (hE:=by rw [DJ];exact Il) rfl rfl ⟨m.Ey outs,hA.ok,by
  have h7:=hA.e
  rw [v_ dB]at h7
  unfold AK.Dj Ad.Ey Ad.s
  dsimp only
  rw [h7],rfl⟩
end
section
variable{B:World}
set_option maxHeartbeats 4000000 in
theorem wZ(sb t:Nat)(m:Ad)(r:RF)(R:HP)(hm:m.ok)(hi:Ag t m.s)(ht:t<1000000)(hf:E1 r.f)(hb:¬m.s.busy r.f)(hrok:r.ok)(hr:AW B R r.b r.o r.f.ranges)(hrl:r.f.ranges.length<1000000000000):
  Fn Tryz.prog B 85 [ptr sb 0,.agg (AI r).toArray] (AS sb m*R)
   (fun v H'=>∃m':Ad,m'.ok∧m'.s=(m.s.take r.f).2∧v=iN (m.s.take r.f).1∧H'=AS sb m'*R):=by
 refine mI Tryz.func85 ?_;refine Hj ?_;rintro _ _ ⟨b3,rfl,rfl⟩;refine FC ?_;refine CR ?_;refine JL Sh ?_;refine J3 ?_;refine mC (fun k3=>?_) (fun k3=>?_)
 ·have hokr:=hf.2.2.2.2.2 k3;have hrp:=c_.2 hokr.1;refine Ap (H':=Ab sb m.x*(HP.AA b3 0 (AI r)*(AD m.oa.b m.oa.o m.outs m.oa.s*(AM BJ m.outs*(Et m sb*R))))) (by rw [Gu];ac_rfl) ?_;refine J2 ?_;refine mA 10 10 ?_;refine Jf 0 ?_;refine Jd 1 ?_;refine JT 2 rfl (Bm (i:=0) rfl rfl hrok hrp) ?_;refine Lb ?_;refine JT 4 rfl (HO (i:=0) (xs:=r.f.ranges) rfl inferInstance hrp) ?_;refine ML ?_;refine JT 9 rfl MD ?_;refine EU ?_;refine mC (fun h19=>?_) (fun h19=>?_)
  ·refine J2 ?_;refine JL Xj ?_;refine J6 ?_
   have etk:m.s.take r.f=(8,m.s):=by unfold AK.take;rw [if_pos k3,if_pos (show m.s.next≤(rg r.f.ranges 0).hi from h19)]
   exact mR [4] (AS sb m*R) (hE:=by rw [Gu];infer_instance) rfl rfl ⟨m,hm,by rw [etk],QW,rfl⟩
  refine J2 ?_;refine Ap (H':=AS sb m*(HP.AA b3 0 (AI r)*R)) (by rw [Gu];ac_rfl) ?_;refine J4 ?_;refine mE rfl (sw sb t m r.f.ranges r.p r.b r.o r.c _ hm hi ht hrok inferInstance hrl) ?_;rintro _ _ ⟨m2,hm2,hs2,rfl⟩;refine MH ?_
  have etk:m.s.take r.f=(0,m.s.Dj r.f.ranges):=by unfold AK.take;rw [if_pos k3,if_neg (show ¬m.s.next≤(rg r.f.ranges 0).hi from h19)]
  exact lO
 refine Qq ?_;refine mC (fun k4=>?_) (fun k4=>?_)
 ·skip
  obtain⟨j,hst⟩:∃j:Nat,r.f.stream=(j:Int):=⟨_,(xw hf.1).symm⟩
  have hj:j<4:=(by have:=hf.2.1;omega)
  have hjl:j<m.ins.length:=by rw [Ad.QZ hi];exact hj
  have hxm:=hm.ins _ GI;have exj:=m.PK j hjl
  have hsj:r.f.stream.toNat=j:=by rw [hst,g_]
  refine Ap (H':=Ab sb m.x*(AD m.ia.b m.ia.o m.ins m.ia.s*(HP.AA (m.ins.getD j AB.AC).q 0 (Hx (m.ins.getD j AB.AC))*(AD (m.ins.getD j AB.AC).a.b (m.ins.getD j AB.AC).a.o (m.ins.getD j AB.AC).x.data (m.ins.getD j AB.AC).a.s*(AD (m.ins.getD j AB.AC).b.b (m.ins.getD j AB.AC).b.o (m.ins.getD j AB.AC).x.there (m.ins.getD j AB.AC).b.s*(BX BC m.ins j*(HP.AA b3 0 (AI r)*(Do m sb*R)))))))) jU ?_;refine J1 ?_;refine mA 9 9 ?_;refine Hu ?_;refine XQ ?_;refine HN ?_
  refine BO (α:=Unit) (fun _=>[(55,.bool (decide ((((m.ins.getD j AB.AC).x.ended=true∧(m.ins.getD j AB.AC).x.end_≠r.f.offset)∨r.f.offset<(m.ins.getD j AB.AC).x.high)))),(5,ptr (m.ins.getD j AB.AC).q 0),(3,ptr b3 0),(0,ptr sb 0)]) (fun _=>Ab sb m.x*(AD m.ia.b m.ia.o m.ins m.ia.s*(HP.AA (m.ins.getD j AB.AC).q 0 (Hx (m.ins.getD j AB.AC))*(AD (m.ins.getD j AB.AC).a.b (m.ins.getD j AB.AC).a.o (m.ins.getD j AB.AC).x.data (m.ins.getD j AB.AC).a.s*(AD (m.ins.getD j AB.AC).b.b (m.ins.getD j AB.AC).b.o (m.ins.getD j AB.AC).x.there (m.ins.getD j AB.AC).b.s*(BX BC m.ins j*(HP.AA b3 0 (AI r)*(Do m sb*R)))))))) (fun _=>True) ?_ ?_
  ·refine mA 22 22 ?_;refine JF ?_;refine GF 38 rfl (fun hg1=>?_) (fun hg1=>?_)
   ·have hed:=hg1;refine fN ?_;refine DM 47 rfl (fun hg2=>?_) (fun hg2=>?_)
    ·have h47:=hg2;refine JN 14 rfl T2 ?_;refine YE ?_;refine JT 21 rfl FR ?_;refine JD ?_;exact AU () trivial (.cons (congrArg (fun bb=>some (b_ bb)) ((decide_eq_true (.inl ⟨hed,h47⟩)).symm)) CN) rfl
    have h47:=hg2;refine kL ?_;exact AU () trivial (.cons (congrArg (fun bb=>some (b_ bb)) (decide_eq_decide.2 ⟨fun h=>.inr h,fun h=>by rcases h with h|h;exact absurd h.2 h47;exact h⟩)) CN) rfl
   have hed:=hg1;refine QD ?_;refine eG ?_;refine JT 21 rfl GU ?_;refine JD ?_;exact AU () trivial (.cons (congrArg (fun bb=>some (b_ bb)) (decide_eq_decide.2 ⟨fun h=>.inr h,fun h=>by rcases h with h|h;rw [hed]at h;cases h.1;exact h⟩)) CN) rfl
  ·rintro _ _;refine J1 ?_;refine mC (fun h55=>?_) (fun h55=>?_)
   ·refine J2 ?_;refine JL PX ?_;refine J6 ?_
    have etk:m.s.take r.f=(7,m.s):=by unfold AK.take;rw [if_neg k3,if_pos k4,hsj,exj,if_pos h55]
    exact mR [4] (AS sb m*R) (hE:=cR) rfl rfl ⟨m,hm,by rw [etk],QW,rfl⟩
   refine Z? ?_;refine Eb ?_;refine BO (α:=Unit) (fun _=>[(5,ptr (m.ins.getD j AB.AC).q 0),(3,ptr b3 0),(0,ptr sb 0)]) (fun _=>Ab sb m.x*(AD m.ia.b m.ia.o m.ins m.ia.s*(HP.AA (m.ins.getD j AB.AC).q 0 [.slice (m.ins.getD j AB.AC).a.p (m.ins.getD j AB.AC).x.data.length (m.ins.getD j AB.AC).a.c,.slice (m.ins.getD j AB.AC).b.p (m.ins.getD j AB.AC).x.there.length (m.ins.getD j AB.AC).b.c,uN (m.ins.getD j AB.AC).x.high,uN r.f.offset,.bool true,.bool (m.ins.getD j AB.AC).x.given,uN (if(m.ins.getD j AB.AC).x.given then(m.ins.getD j AB.AC).x.code else r.f.code),uN (m.ins.getD j AB.AC).x.read,iN (m.ins.getD j AB.AC).x.state]*(AD (m.ins.getD j AB.AC).a.b (m.ins.getD j AB.AC).a.o (m.ins.getD j AB.AC).x.data (m.ins.getD j AB.AC).a.s*(AD (m.ins.getD j AB.AC).b.b (m.ins.getD j AB.AC).b.o (m.ins.getD j AB.AC).x.there (m.ins.getD j AB.AC).b.s*(BX BC m.ins j*(HP.AA b3 0 (AI r)*(Do m sb*R)))))))) (fun _=>True) ?_ ?_
   ·refine mc (fun h68=>?_) (fun h68=>?_)
    ·refine J8 ?_;exact AU () trivial CN (by rw [if_neg (by have h7:(!(m.ins.getD j AB.AC).x.given)=true:=h68;intro h8;rw [h8]at h7;cases h7)])
    refine J1 ?_;exact AU () trivial CN (by rw [if_pos (by have h7:(!(m.ins.getD j AB.AC).x.given)=false:=h68;simpa using h7)])
   ·rintro _ _;refine BV ?_;refine CZ ?_
    have etk:m.s.take r.f=(0,m.s.Cb j {(m.ins.getD j AB.AC).x with code:=if(m.ins.getD j AB.AC).x.given then(m.ins.getD j AB.AC).x.code else r.f.code,given:=true,ended:=true,end_:=r.f.offset}):=by unfold AK.take;rw [if_neg k3,if_pos k4,hsj,exj,if_neg h55]
    obtain⟨x2,hx2⟩:∃x2:D6,x2={(m.ins.getD j AB.AC)with x:={(m.ins.getD j AB.AC).x with code:=if(m.ins.getD j AB.AC).x.given then(m.ins.getD j AB.AC).x.code else r.f.code,given:=true,ended:=true,end_:=r.f.offset}}:=Bg
    have hok2:x2.ok:=by rw [hx2];exact hxm
    exact mR [4] (AS sb (m.Cb j x2)*R) (hE:=⟨fun ww hw=>Sat.right (A:=HP.AA b3 0 (AI r)) (Eq.mp (by
     congr 1
     rw [YO sb m R j hjl x2 (by rw [hx2]),hx2]
     unfold Ae.h
     show _=HP.AA b3 0 (AI r)*(Ab sb m.x*(AD m.ia.b m.ia.o m.ins m.ia.s*(HP.AA (m.ins.getD j AB.AC).q 0 [.slice (m.ins.getD j AB.AC).a.p (m.ins.getD j AB.AC).x.data.length (m.ins.getD j AB.AC).a.c,.slice (m.ins.getD j AB.AC).b.p (m.ins.getD j AB.AC).x.there.length (m.ins.getD j AB.AC).b.c,uN (m.ins.getD j AB.AC).x.high,uN r.f.offset,.bool true,.bool true,uN (if(m.ins.getD j AB.AC).x.given then(m.ins.getD j AB.AC).x.code else r.f.code),uN (m.ins.getD j AB.AC).x.read,iN (m.ins.getD j AB.AC).x.state]*(AD (m.ins.getD j AB.AC).a.b (m.ins.getD j AB.AC).a.o (m.ins.getD j AB.AC).x.data (m.ins.getD j AB.AC).a.s*(AD (m.ins.getD j AB.AC).b.b (m.ins.getD j AB.AC).b.o (m.ins.getD j AB.AC).x.there (m.ins.getD j AB.AC).b.s*(BX BC m.ins j*(Do m sb*R)))))))
     ac_rfl) hw)⟩) rfl rfl ⟨m.Cb j x2,hm.Cb hok2,by rw [etk,Ad.XD,hx2],QW,rfl⟩
 refine SI ?_;refine mC (fun k5=>?_) (fun k5=>?_)
 ·refine J1 ?_
  have hb5:(m.s.i r.f.stream.toNat).given=false→r.f.offset+r.f.data.size≤(m.s.i r.f.stream.toNat).read+m.s.AG:=fun hg=>by
   have hk4:r.f.stream.toNat<4:=by have:=hf.1;have:=hf.2.1;omega
   have g:=hi.ins _ hk4;rcases Nat.lt_or_ge ((m.s.i r.f.stream.toNat).read+m.s.AG) (r.f.offset+r.f.data.size)with hlt|hge
   ·exact absurd ⟨k5,fun h2=>qO,hg,hlt⟩ hb
   ·exact hge
  refine J2 ?_;refine JL N6 ?_;refine Ux ?_;refine mE rfl (U! sb t m r _ hm hi ht hf k5 hb5) ?_;rintro _ _ ⟨m2,hm2,hs2,rfl,rfl⟩;refine J6 ?_
  have etk:m.s.take r.f=(((m.s.i r.f.stream.toNat).bytes r.f).1,m.s.Cb r.f.stream.toNat ((m.s.i r.f.stream.toNat).bytes r.f).2):=by unfold AK.take;rw [if_neg k3,if_neg k4,if_pos k5]
  exact lO
 refine J2 ?_;refine JL (CI (i:=r.f.kind) (j:=6) rfl rfl) ?_;refine J3 ?_;refine mC (fun k6=>?_) (fun k6=>?_)
 ·refine J2 ?_;refine JL gV ?_;refine J5 ?_
  have etk:m.s.take r.f=(10,m.s):=by unfold AK.take;rw [if_neg k3,if_neg k4,if_neg k5,if_pos k6]
  exact bB
 refine MH ?_
 have etk:m.s.take r.f=(0,m.s):=by unfold AK.take;rw [if_neg k3,if_neg k4,if_neg k5,if_neg k6]
 exact bB
set_option maxHeartbeats 4000000 in
theorem qj(sb t:Nat)(m:Ad)(k AN:Int)(R:HP)(hm:m.ok)(hi:Ag t m.s)(ht:t<1000000):
  Fn Tryz.prog B 49 [ptr sb 0,.int .i64 k,.int .i64 AN] (AS sb m*R)
   (fun v H'=>∃m':Ad,m'.ok∧m'.s=(m.s.read k AN).2∧v=.tuple #[.string (BI (m.s.read k AN).1.1),iN (m.s.read k AN).1.2.1,uN (m.s.read k AN).1.2.2.1,iN (m.s.read k AN).1.2.2.2]∧H'=AS sb m'*R):=by
 refine mI Tryz.func49 ?_;refine Ap (QV sb m R) ?_;refine L1 ?_;refine Fz ?_;refine FC ?_;refine PH ?_;refine mC (fun h18=>?_) (fun h18=>?_)
 ·refine J4 ?_;refine FC ?_;refine Fz ?_;refine J5 ?_;exact mR [6,7,8,9] (AS sb m*R) (hE:=by rw [QV];infer_instance) rfl rfl ⟨m,hm,by unfold AK.read;rw [if_pos (show m.s.of k≠0 from h18)],by unfold AK.read;rw [if_pos (show m.s.of k≠0 from h18)];rfl,rfl⟩
 obtain⟨hcl,j,rfl,hj⟩:=I1 (by simpa using h18:EI m.x.closed k=0);have hst:(j:Int)=(j:Int):=rfl
 have hjl:j<m.ins.length:=by rw [Ad.QZ hi];exact hj
 have hxo:=Ad.We hi hj;have hxm:=hm.ins _ GI;have exj:=m.PK j hjl
 have hof:¬m.s.of (j:Int)≠0:=by rw [QA];simpa using h18
 have hdl:=hxo.dl;have htl:=hxo.tl;have hrh:=hxo.rh;have hhw:=hxo.hw;have hrt:=hxo.rt;have hst2:=hxo.st;have hw2:m.x.AG≤1024:=hi.w2;refine Ap (H':=Ab sb m.x*(AD m.ia.b m.ia.o m.ins m.ia.s*(HP.AA (m.ins.getD j AB.AC).q 0 (Hx (m.ins.getD j AB.AC))*(AD (m.ins.getD j AB.AC).a.b (m.ins.getD j AB.AC).a.o (m.ins.getD j AB.AC).x.data (m.ins.getD j AB.AC).a.s*(AD (m.ins.getD j AB.AC).b.b (m.ins.getD j AB.AC).b.o (m.ins.getD j AB.AC).x.there (m.ins.getD j AB.AC).b.s*(BX BC m.ins j*(Do m sb*R))))))) (by rw [←QV,Oj sb m R j hjl]) ?_;refine J7 ?_;refine JL jF ?_;refine J1 ?_;refine JL gN ?_;refine JL Yk ?_;refine J5 ?_;refine BO (α:=Unit) (fun _=>[(37,.bool (decide ((m.ins.getD j AB.AC).x.given=true∧(m.ins.getD j AB.AC).x.state=0))),(11,ptr (m.ins.getD j AB.AC).q 0),(2,.int .i64 AN),(0,ptr sb 0)]) (fun _=>Ab sb m.x*(AD m.ia.b m.ia.o m.ins m.ia.s*(HP.AA (m.ins.getD j AB.AC).q 0 (Hx (m.ins.getD j AB.AC))*(AD (m.ins.getD j AB.AC).a.b (m.ins.getD j AB.AC).a.o (m.ins.getD j AB.AC).x.data (m.ins.getD j AB.AC).a.s*(AD (m.ins.getD j AB.AC).b.b (m.ins.getD j AB.AC).b.o (m.ins.getD j AB.AC).x.there (m.ins.getD j AB.AC).b.s*(BX BC m.ins j*(Do m sb*R))))))) (fun _=>True) ?_ ?_
 ·refine J6 ?_;refine CU 31 rfl (fun hg1=>?_) (fun hg1=>?_)
  ·have h31:=hg1;refine LQ ?_;refine Ky ?_;refine JL (CV (i:=(m.ins.getD j AB.AC).x.state) (j:=0) rfl rfl) ?_;refine GO ?_;refine J1 ?_;exact AU () trivial pD rfl
  have h31:=hg1;refine Fh ?_;refine WX ?_;exact AU () trivial (.cons (congrArg (fun bb=>some (b_ bb)) (decide_eq_false (fun h=>by rw [h31]at h;cases h.1)).symm) CN) rfl
 ·rintro _ _;refine J1 ?_;refine BO (α:=Unit) (fun _=>[(11,ptr (m.ins.getD j AB.AC).q 0),(2,.int .i64 AN),(0,ptr sb 0)]) (fun _=>Ab sb m.x*(AD m.ia.b m.ia.o m.ins m.ia.s*(HP.AA (m.ins.getD j AB.AC).q 0 [.slice (m.ins.getD j AB.AC).a.p (m.ins.getD j AB.AC).x.data.length (m.ins.getD j AB.AC).a.c,.slice (m.ins.getD j AB.AC).b.p (m.ins.getD j AB.AC).x.there.length (m.ins.getD j AB.AC).b.c,uN (m.ins.getD j AB.AC).x.high,uN (m.ins.getD j AB.AC).x.end_,.bool (m.ins.getD j AB.AC).x.ended,.bool (m.ins.getD j AB.AC).x.given,uN (m.ins.getD j AB.AC).x.code,uN (m.ins.getD j AB.AC).x.read,iN (if(m.ins.getD j AB.AC).x.given=true∧(m.ins.getD j AB.AC).x.state=0 then 2 else(m.ins.getD j AB.AC).x.state)]*(AD (m.ins.getD j AB.AC).a.b (m.ins.getD j AB.AC).a.o (m.ins.getD j AB.AC).x.data (m.ins.getD j AB.AC).a.s*(AD (m.ins.getD j AB.AC).b.b (m.ins.getD j AB.AC).b.o (m.ins.getD j AB.AC).x.there (m.ins.getD j AB.AC).b.s*(BX BC m.ins j*(Do m sb*R))))))) (fun _=>True) ?_ ?_
  ·refine mC (fun h37=>?_) (fun h37=>?_)
   ·refine J4 ?_;refine Bv jD ?_;refine Fq ?_;exact AU () trivial CN (by rw [if_pos h37])
   refine J1 ?_;exact AU () trivial CN (by rw [if_neg h37])
  ·rintro _ _
   have hs1:(if(m.ins.getD j AB.AC).x.given=true∧(m.ins.getD j AB.AC).x.state=0 then 2 else(m.ins.getD j AB.AC).x.state)≤2:=by split;exact yf _;exact hst2
   obtain⟨s1,es1⟩:∃s1,s1=(if(m.ins.getD j AB.AC).x.given=true∧(m.ins.getD j AB.AC).x.state=0 then 2 else(m.ins.getD j AB.AC).x.state):=Bg
   rw [←es1]at hs1⊢;refine J8 ?_
   refine BL (α:=Nat) (fun i=>[(12,.string (BI (((m.ins.getD j AB.AC).x.data.drop (m.ins.getD j AB.AC).x.read).take i))),(11,ptr (m.ins.getD j AB.AC).q 0),(2,.int .i64 AN),(0,ptr sb 0)]) (fun i=>Ab sb m.x*(AD m.ia.b m.ia.o m.ins m.ia.s*(HP.AA (m.ins.getD j AB.AC).q 0 [.slice (m.ins.getD j AB.AC).a.p (m.ins.getD j AB.AC).x.data.length (m.ins.getD j AB.AC).a.c,.slice (m.ins.getD j AB.AC).b.p (m.ins.getD j AB.AC).x.there.length (m.ins.getD j AB.AC).b.c,uN (m.ins.getD j AB.AC).x.high,uN (m.ins.getD j AB.AC).x.end_,.bool (m.ins.getD j AB.AC).x.ended,.bool (m.ins.getD j AB.AC).x.given,uN (m.ins.getD j AB.AC).x.code,uN ((m.ins.getD j AB.AC).x.read+i),iN s1]*(AD (m.ins.getD j AB.AC).a.b (m.ins.getD j AB.AC).a.o (m.ins.getD j AB.AC).x.data (m.ins.getD j AB.AC).a.s*(AD (m.ins.getD j AB.AC).b.b (m.ins.getD j AB.AC).b.o (m.ins.getD j AB.AC).x.there (m.ins.getD j AB.AC).b.s*(BX BC m.ins j*(Do m sb*R))))))) (fun i=>(m.ins.getD j AB.AC).x.read+i≤(m.ins.getD j AB.AC).x.high∧(if s1=0 then GQ (m.ins.getD j AB.AC).x.there (m.ins.getD j AB.AC).x.high AN.toNat (m.ins.getD j AB.AC).x.read else 0)=i+(if s1=0 then GQ (m.ins.getD j AB.AC).x.there (m.ins.getD j AB.AC).x.high (AN.toNat-i) ((m.ins.getD j AB.AC).x.read+i)else 0)∧(i:Int)≤max AN 0) (fun i=>(m.ins.getD j AB.AC).x.high-((m.ins.getD j AB.AC).x.read+i)) 0 ⟨by show(m.ins.getD j AB.AC).x.read+0≤(m.ins.getD j AB.AC).x.high;omega,Cl,by show(0:Int)≤max AN 0;omega⟩ (.cons (by rw [List.take_zero];rfl) CN) (by rw [j_]) ?_
   rintro i ⟨hi1,hi2,hi3⟩;dsimp only at hi1 hi2 hi3⊢
   have hln:(((m.ins.getD j AB.AC).x.data.drop (m.ins.getD j AB.AC).x.read).take i).length=i:=by rw [ya,s_];omega
   refine J2 ?_;refine BO (α:=Unit) (fun _=>[(74,.bool (decide ((i:Int)<AN∧s1=0∧(m.ins.getD j AB.AC).x.read+i<(m.ins.getD j AB.AC).x.high∧(m.ins.getD j AB.AC).x.there.getD ((m.ins.getD j AB.AC).x.read+i) false=true))),(12,.string (BI (((m.ins.getD j AB.AC).x.data.drop (m.ins.getD j AB.AC).x.read).take i))),(11,ptr (m.ins.getD j AB.AC).q 0),(2,.int .i64 AN),(0,ptr sb 0)]) (fun _=>Ab sb m.x*(AD m.ia.b m.ia.o m.ins m.ia.s*(HP.AA (m.ins.getD j AB.AC).q 0 [.slice (m.ins.getD j AB.AC).a.p (m.ins.getD j AB.AC).x.data.length (m.ins.getD j AB.AC).a.c,.slice (m.ins.getD j AB.AC).b.p (m.ins.getD j AB.AC).x.there.length (m.ins.getD j AB.AC).b.c,uN (m.ins.getD j AB.AC).x.high,uN (m.ins.getD j AB.AC).x.end_,.bool (m.ins.getD j AB.AC).x.ended,.bool (m.ins.getD j AB.AC).x.given,uN (m.ins.getD j AB.AC).x.code,uN ((m.ins.getD j AB.AC).x.read+i),iN s1]*(AD (m.ins.getD j AB.AC).a.b (m.ins.getD j AB.AC).a.o (m.ins.getD j AB.AC).x.data (m.ins.getD j AB.AC).a.s*(AD (m.ins.getD j AB.AC).b.b (m.ins.getD j AB.AC).b.o (m.ins.getD j AB.AC).x.there (m.ins.getD j AB.AC).b.s*(BX BC m.ins j*(Do m sb*R))))))) (fun _=>True) ?_ ?_
   ·refine mA 34 34 ?_;refine Fr ?_;refine JT 1 rfl (Br IG (by rw [K4,hln])) ?_;refine Jm 2 ?_;refine JT 3 rfl (JQ (i:=(i:Int)) (j:=AN) rfl rfl) ?_;refine HD ?_;refine DM 45 rfl (fun hg2=>?_) (fun hg2=>?_)
    ·have g1:=hg2;refine JY 5 rfl T2 A4 ?_;refine JY 6 rfl T2 CP ?_;refine JY 7 rfl T2 A7 ?_;refine JY 8 rfl T2 Bb ?_;refine JY 9 rfl T2 (CV (i:=s1) (j:=0) rfl rfl) ?_;refine JT 10 rfl FR ?_;refine Jm 11 ?_;refine DM 52 rfl (fun hg3=>?_) (fun hg3=>?_)
     ·have g2:=hg3;refine JY 12 rfl T3 A4 ?_;refine JY 13 rfl T3 CP ?_;refine JY 14 rfl T3 A7 ?_;refine JY 15 rfl T3 Bb ?_;refine JY 16 rfl T3 A4 ?_;refine JY 17 rfl T3 CP ?_;refine JY 18 rfl T3 A7 ?_;refine JY 19 rfl T3 Bb ?_;refine JY 20 rfl T3 MI ?_;refine JT 21 rfl OZ ?_;refine Jm 22 ?_;refine DM 63 rfl (fun hg4=>?_) (fun hg4=>?_)
      ·have g3:=hg4;refine JY 23 rfl T4 A4 ?_;refine JY 24 rfl T4 CP ?_;refine JY 25 rfl T4 A7 ?_;refine JY 26 rfl T4 Bb ?_;refine JY 27 rfl T4 A4 ?_;refine JY 28 rfl T4 CP ?_;refine JY 29 rfl T4 A7 ?_;refine JY 30 rfl T4 Bb ?_;refine JY 31 rfl T4 (Bm (i:=(m.ins.getD j AB.AC).x.read+i) rfl rfl (show Sl (m.ins.getD j AB.AC).b.p (m.ins.getD j AB.AC).b.b (m.ins.getD j AB.AC).b.o (m.ins.getD j AB.AC).x.there.length (m.ins.getD j AB.AC).b.c from hxm.2.1) Cg) ?_;refine JY 32 rfl T4 (DT (f:=0) (xs:=(m.ins.getD j AB.AC).x.there) rfl inferInstance rfl Cg) ?_;refine JT 33 rfl Io ?_;refine JD ?_;exact AU () trivial (.cons (congrArg (fun bb=>some (b_ bb)) (by apply Bool.eq_iff_iff.2;simp only [decide_eq_true_eq];exact⟨fun h=>⟨g1,g2,g3,h⟩,fun h=>h.2.2.2⟩)) BR) rfl
      have g3:=hg4;refine fR ?_;refine JN 31 rfl F4 ?_;refine JN 32 rfl F4 ?_;refine JT 33 rfl IE ?_;refine JD ?_;exact AU () trivial (.cons (congrArg (fun bb=>some (b_ bb)) ((decide_eq_false (fun h=>g3 h.2.2.1)).symm)) BR) rfl
     have g2:=hg3;refine JN 12 rfl F3 ?_;refine JN 13 rfl F3 ?_;refine rX ?_;refine JT 21 rfl Oh ?_;refine Z6 ?_;exact AU () trivial Zr rfl
    have g1:=hg2;refine JN 5 rfl F2 ?_;refine JN 6 rfl F2 ?_;refine JN 7 rfl F2 ?_;refine JN 8 rfl F2 ?_;refine JN 9 rfl F2 ?_;refine JT 10 rfl FQ ?_;refine Jm 11 ?_;refine oZ ?_;refine U7 ?_;refine Wb ?_;refine Pv ?_;refine JT 21 rfl GU ?_;refine Z6 ?_
    exact AU () trivial bK rfl
   ·rintro _ _;refine J1 ?_;refine mC (fun h74=>?_) (fun h74=>?_)
    ·skip
     have hrl:(m.ins.getD j AB.AC).x.read+i+1≤(m.ins.getD j AB.AC).x.data.length:=(by have h7:=h74.2.2.1;omega)
     have hcx:(((m.ins.getD j AB.AC).x.data.take ((m.ins.getD j AB.AC).x.read+i+1)).drop ((m.ins.getD j AB.AC).x.read+i)).length=1:=(by rw [s_,ya];omega)
     refine J4 ?_;refine mA 18 18 ?_;refine NC ?_;refine ML ?_;refine P3 ?_;refine JT 13 rfl ON ?_;refine JT 14 rfl (Nx (k':=(((m.ins.getD j AB.AC).x.data.take ((m.ins.getD j AB.AC).x.read+i+1)).drop ((m.ins.getD j AB.AC).x.read+i)).length) rfl rfl rfl lL (by rw [hcx];omega)) ?_
     refine JT 15 rfl (Hq (xs:=(((m.ins.getD j AB.AC).x.data.take ((m.ins.getD j AB.AC).x.read+i+1)).drop ((m.ins.getD j AB.AC).x.read+i))) (b:=(m.ins.getD j AB.AC).a.b) (o:=(m.ins.getD j AB.AC).a.o+((m.ins.getD j AB.AC).x.read+i)*1) rfl (Er (h:=(m.ins.getD j AB.AC).x.read+i+1) (show Sl (m.ins.getD j AB.AC).a.p (m.ins.getD j AB.AC).a.b (m.ins.getD j AB.AC).a.o (m.ins.getD j AB.AC).x.data.length (m.ins.getD j AB.AC).a.c from hxm.1.1) Cg lL (by rw [hcx];omega)) (AW.sub (xs:=(m.ins.getD j AB.AC).x.data) inferInstance ((m.ins.getD j AB.AC).x.read+i) ((m.ins.getD j AB.AC).x.read+i+1) hrl)) ?_;refine JT 16 rfl (Br (v':=.string (BI (((m.ins.getD j AB.AC).x.data.drop (m.ins.getD j AB.AC).x.read).take i++(((m.ins.getD j AB.AC).x.data.take ((m.ins.getD j AB.AC).x.read+i+1)).drop ((m.ins.getD j AB.AC).x.read+i))))) (pT rfl rfl (by rw [K4,K4,hln,hcx];omega)) (by rw [Zq])) ?_;refine Ja 17 ?_;refine JD ?_;refine J6 ?_;refine JL ON ?_;refine J5 ?_;obtain⟨c1,c2,c3,c4⟩:=h74
     have hmo:0<AN.toNat-i:=by omega
     obtain⟨nn,hnn⟩:∃nn,AN.toNat-i=nn+1:=⟨AN.toNat-i-1,Cg⟩
     refine At (i+1) ⟨c3,?_,by show((i+1:Nat):Int)≤max AN 0;omega⟩ (by show(m.ins.getD j AB.AC).x.high-((m.ins.getD j AB.AC).x.read+(i+1))<(m.ins.getD j AB.AC).x.high-((m.ins.getD j AB.AC).x.read+i);omega) (.cons (congrArg (fun z=>some (Value.string (BI z))) ?_) CN) rfl
     ·rw [hi2,if_pos c2,if_pos c2,hnn,GQ,if_pos ⟨c3,c4⟩];rw [show AN.toNat-(i+1)=nn by omega,Nat.add_assoc (m.ins.getD j AB.AC).x.read i 1];omega
     ·have h7:i<((m.ins.getD j AB.AC).x.data.drop (m.ins.getD j AB.AC).x.read).length:=by rw [s_];omega
      rw [a_ h7]
      rw [show((m.ins.getD j AB.AC).x.data.take ((m.ins.getD j AB.AC).x.read+i+1)).drop ((m.ins.getD j AB.AC).x.read+i)=[((m.ins.getD j AB.AC).x.data.drop (m.ins.getD j AB.AC).x.read)[i]] by
       rw [List.getElem_drop,List.drop_take]
       rw [show(m.ins.getD j AB.AC).x.read+i+1-((m.ins.getD j AB.AC).x.read+i)=1 by omega,List.drop_eq_getElem_cons (show(m.ins.getD j AB.AC).x.read+i<(m.ins.getD j AB.AC).x.data.length by omega)];rfl]
    have hfin:(if s1=0 then GQ (m.ins.getD j AB.AC).x.there (m.ins.getD j AB.AC).x.high AN.toNat (m.ins.getD j AB.AC).x.read else 0)=i:=by
     rw [hi2];by_cases c2:s1=0
     ·rw [if_pos c2]
      cases hmo:AN.toNat-i with
      |zero=>rfl
      |succ nn=>
       rw [GQ,if_neg (fun h=>h74 ⟨Cg,c2,h.1,h.2⟩),j_]
     ·rw [if_neg c2,j_]
    refine J7 ?_;refine BO (α:=Unit) (fun _=>[(120,.bool (decide ((m.ins.getD j AB.AC).x.ended=true∧(m.ins.getD j AB.AC).x.read+i=(m.ins.getD j AB.AC).x.end_∧s1=0))),(12,.string (BI (((m.ins.getD j AB.AC).x.data.drop (m.ins.getD j AB.AC).x.read).take i))),(11,ptr (m.ins.getD j AB.AC).q 0),(2,.int .i64 AN),(0,ptr sb 0)]) (fun _=>Ab sb m.x*(AD m.ia.b m.ia.o m.ins m.ia.s*(HP.AA (m.ins.getD j AB.AC).q 0 [.slice (m.ins.getD j AB.AC).a.p (m.ins.getD j AB.AC).x.data.length (m.ins.getD j AB.AC).a.c,.slice (m.ins.getD j AB.AC).b.p (m.ins.getD j AB.AC).x.there.length (m.ins.getD j AB.AC).b.c,uN (m.ins.getD j AB.AC).x.high,uN (m.ins.getD j AB.AC).x.end_,.bool (m.ins.getD j AB.AC).x.ended,.bool (m.ins.getD j AB.AC).x.given,uN (m.ins.getD j AB.AC).x.code,uN ((m.ins.getD j AB.AC).x.read+i),iN s1]*(AD (m.ins.getD j AB.AC).a.b (m.ins.getD j AB.AC).a.o (m.ins.getD j AB.AC).x.data (m.ins.getD j AB.AC).a.s*(AD (m.ins.getD j AB.AC).b.b (m.ins.getD j AB.AC).b.o (m.ins.getD j AB.AC).x.there (m.ins.getD j AB.AC).b.s*(BX BC m.ins j*(Do m sb*R))))))) (fun _=>True) ?_ ?_
    ·refine mA 22 22 ?_;refine JF ?_;refine GF 103 rfl (fun hg5=>?_) (fun hg5=>?_)
     ·have e1:=hg5;refine JY 5 rfl hg5 A4 ?_;refine JY 6 rfl hg5 CP ?_;refine JY 7 rfl hg5 A7 ?_;refine JY 8 rfl hg5 Bb ?_;refine JY 9 rfl hg5 A4 ?_;refine JY 10 rfl hg5 CP ?_;refine JY 11 rfl hg5 A7 ?_;refine JY 12 rfl hg5 Bb ?_;refine JY 13 rfl hg5 MO ?_;refine JT 14 rfl WI ?_;refine Jm 15 ?_;refine DM 114 rfl (fun hg6=>?_) (fun hg6=>?_)
      ·have e2:=hg6;refine JY 16 rfl T6 A4 ?_;refine JY 17 rfl T6 CP ?_;refine JY 18 rfl T6 A7 ?_;refine JY 19 rfl T6 Bb ?_;refine JY 20 rfl T6 (CV (i:=s1) (j:=0) rfl rfl) ?_;refine JT 21 rfl W8 ?_;refine JD ?_;exact AU () trivial (.cons (congrArg (fun bb=>some (b_ bb)) (decide_eq_decide.2 ⟨fun h=>⟨e1,e2,h⟩,fun h=>h.2.2⟩)) BR) rfl
      have e2:=hg6;refine nU ?_;refine JT 21 rfl (Fe F6 rfl rfl) ?_;refine JD ?_;exact AU () trivial (.cons (congrArg (fun bb=>some (b_ bb)) ((decide_eq_false (fun h=>e2 h.2.1)).symm)) BR) rfl
     have e1:=hg5;refine JN 5 rfl hg5 ?_;refine JN 6 rfl hg5 ?_;refine JN 7 rfl hg5 ?_;refine JN 8 rfl hg5 ?_;refine JN 9 rfl hg5 ?_;refine JN 10 rfl hg5 ?_;refine JN 11 rfl hg5 ?_;refine JN 12 rfl hg5 ?_;refine JN 13 rfl hg5 ?_;refine JT 14 rfl YQ ?_;refine Jm 15 ?_;refine lY ?_;refine lJ ?_;refine jH ?_;refine nS ?_;refine mO ?_;refine JT 21 rfl GU ?_;refine JD ?_;exact AU () trivial (.cons (congrArg (fun bb=>some (b_ bb)) ((decide_eq_false (fun h=>by rw [e1]at h;cases h.1)).symm)) BR) rfl
    ·rintro _ _;refine J1 ?_;refine BO (α:=Unit) (fun _=>[(12,.string (BI (((m.ins.getD j AB.AC).x.data.drop (m.ins.getD j AB.AC).x.read).take i))),(11,ptr (m.ins.getD j AB.AC).q 0),(2,.int .i64 AN),(0,ptr sb 0)]) (fun _=>Ab sb m.x*(AD m.ia.b m.ia.o m.ins m.ia.s*(HP.AA (m.ins.getD j AB.AC).q 0 [.slice (m.ins.getD j AB.AC).a.p (m.ins.getD j AB.AC).x.data.length (m.ins.getD j AB.AC).a.c,.slice (m.ins.getD j AB.AC).b.p (m.ins.getD j AB.AC).x.there.length (m.ins.getD j AB.AC).b.c,uN (m.ins.getD j AB.AC).x.high,uN (m.ins.getD j AB.AC).x.end_,.bool (m.ins.getD j AB.AC).x.ended,.bool (m.ins.getD j AB.AC).x.given,uN (m.ins.getD j AB.AC).x.code,uN ((m.ins.getD j AB.AC).x.read+i),iN (if(m.ins.getD j AB.AC).x.ended=true∧(m.ins.getD j AB.AC).x.read+i=(m.ins.getD j AB.AC).x.end_∧s1=0 then 1 else s1)]*(AD (m.ins.getD j AB.AC).a.b (m.ins.getD j AB.AC).a.o (m.ins.getD j AB.AC).x.data (m.ins.getD j AB.AC).a.s*(AD (m.ins.getD j AB.AC).b.b (m.ins.getD j AB.AC).b.o (m.ins.getD j AB.AC).x.there (m.ins.getD j AB.AC).b.s*(BX BC m.ins j*(Do m sb*R))))))) (fun _=>True) ?_ ?_
     ·refine mC (fun h120=>?_) (fun h120=>?_)
      ·refine J4 ?_;refine Bv WQ ?_;refine Fq ?_;exact AU () trivial BR (by rw [if_pos h120])
      refine J1 ?_;exact AU () trivial BR (by rw [if_neg h120])
     ·rintro _ _
      obtain⟨s3,es3⟩:∃s3,s3=(if(m.ins.getD j AB.AC).x.ended=true∧(m.ins.getD j AB.AC).x.read+i=(m.ins.getD j AB.AC).x.end_∧s1=0 then 1 else s1):=Bg
      rw [←es3];refine J3 ?_;refine JL YP ?_;refine J9 ?_;refine JL (CV (i:=s3) (j:=2) rfl rfl) ?_;refine J2 ?_;refine BO (α:=Unit) (fun _=>[(13,uN (if s3=2 then(m.ins.getD j AB.AC).x.code else 0)),(12,.string (BI (((m.ins.getD j AB.AC).x.data.drop (m.ins.getD j AB.AC).x.read).take i))),(11,ptr (m.ins.getD j AB.AC).q 0),(2,.int .i64 AN),(0,ptr sb 0)]) (fun _=>Ab sb m.x*(AD m.ia.b m.ia.o m.ins m.ia.s*(HP.AA (m.ins.getD j AB.AC).q 0 [.slice (m.ins.getD j AB.AC).a.p (m.ins.getD j AB.AC).x.data.length (m.ins.getD j AB.AC).a.c,.slice (m.ins.getD j AB.AC).b.p (m.ins.getD j AB.AC).x.there.length (m.ins.getD j AB.AC).b.c,uN (m.ins.getD j AB.AC).x.high,uN (m.ins.getD j AB.AC).x.end_,.bool (m.ins.getD j AB.AC).x.ended,.bool (m.ins.getD j AB.AC).x.given,uN (m.ins.getD j AB.AC).x.code,uN ((m.ins.getD j AB.AC).x.read+i),iN s3]*(AD (m.ins.getD j AB.AC).a.b (m.ins.getD j AB.AC).a.o (m.ins.getD j AB.AC).x.data (m.ins.getD j AB.AC).a.s*(AD (m.ins.getD j AB.AC).b.b (m.ins.getD j AB.AC).b.o (m.ins.getD j AB.AC).x.there (m.ins.getD j AB.AC).b.s*(BX BC m.ins j*(Do m sb*R))))))) (fun _=>True) ?_ ?_
      ·refine mC (fun h128=>?_) (fun h128=>?_)
       ·refine J7 ?_;exact AU () trivial (.cons (by rw [if_pos h128];rfl) BR) rfl
       refine J1 ?_;exact AU () trivial (.cons (by rw [if_neg h128];rfl) BR) rfl
      ·rintro _ _;refine J2 ?_;refine mA 10 10 ?_;refine NC ?_;refine Jm 5 ?_;refine Ja 6 ?_;refine Ja 7 ?_;refine Ja 8 ?_;refine JT 9 rfl MX ?_;refine C3 ?_
       have hrd:m.s.read (j:Int) AN=((((m.ins.getD j AB.AC).x.data.drop (m.ins.getD j AB.AC).x.read).take i,s3,(if s3=2 then(m.ins.getD j AB.AC).x.code else 0),0),m.s.Cb j {(m.ins.getD j AB.AC).x with read:=(m.ins.getD j AB.AC).x.read+i,state:=s3}):=by
        unfold AK.read;rw [if_neg hof,g_,exj];generalize(m.ins.getD j AB.AC).x=x at*;by_cases c1:x.given=true∧x.state=0
        ·rw [if_pos c1]at es1
         have c2:¬s1=0:=by omega
         rw [if_neg c2]at hfin;subst hfin;simp only [if_pos c1];rw [if_neg (fun h=>c2 h.2.2)]at es3
         have c3:s3=2:=by omega
         subst c3
         simp
        ·rw [if_neg c1]at es1;subst es1;simp only [if_neg c1];rw [show(if x.state=0 then GQ x.there x.high AN.toNat x.read else 0)=i from hfin];by_cases c4:x.ended=true∧x.read+i=x.end_∧x.state=0
         ·rw [if_pos c4]at es3;subst es3;simp only [if_pos c4]
          try simp
         ·rw [if_neg c4]at es3;subst es3;simp only [if_neg c4]
          try rfl
       obtain⟨x2,hx2⟩:∃x2:D6,x2={(m.ins.getD j AB.AC)with x:={(m.ins.getD j AB.AC).x with read:=(m.ins.getD j AB.AC).x.read+i,state:=s3}}:=Bg
       have hok2:x2.ok:=by rw [hx2];exact hxm
       exact mR [6,7,8,9] (AS sb (m.Cb j x2)*R) (hE:=⟨fun ww hw=>Eq.mp (by
        congr 1
        rw [YO sb m R j hjl x2 (by rw [hx2]),hx2]) hw⟩) rfl rfl ⟨m.Cb j x2,hm.Cb hok2,by rw [hrd,Ad.XD,hx2],by rw [hrd];rfl,rfl⟩
end
section
variable{B:World}
def ES(n size head:Nat):Nat→List UInt8
 |0=>[]
 |k+1=>ES n size head k++[h_ (n/256^(size-1-k)%256+(if k=0 then head*64 else 0))]
def Bp(n:Nat):Nat:=if n<64 then 1 else if n<16384 then 2 else if n<1073741824 then 4 else 8
def DN(n:Nat):Nat:=if n<64 then 0 else if n<16384 then 1 else if n<1073741824 then 2 else 3
theorem UR(a:Nat):h_ (a%256)=h_ a:=by
 apply UInt8.toNat_inj.1;simp [x_]
theorem y8(n:Nat)(h:n≤4611686018427387903):ES n (Bp n) (DN n) (Bp n)=AQ n:=by
 unfold Bp DN AQ;split
 ·simp only [ES,if_true,n_,Nat.sub_self,p_,q',Nat.zero_mul,j_,UR]
 split
 ·simp only [ES,if_true,if_false,n_,t_,xx,p_,q',xy,j_,UR,u_,xz,xr];rw [show n/256%256+64=n/256+64 by omega]
 split
 ·simp only [ES,if_true,if_false,n_,t_,xx,p_,q',xy,j_,UR,u_,xz,xr];rw [show n/16777216%256+128=n/16777216+128 by omega]
 ·simp only [ES,if_true,if_false,n_,t_,xx,p_,q',xy,j_,UR,u_,xz,xr];rw [show n/72057594037927936%256+192=n/72057594037927936+192 by omega]
theorem kS(n size head:Nat):∀k,(ES n size head k).length=k
 |0=>rfl
 |k+1=>by simp [ES,kS n size head k]
section
variable{P:Program}{n:Nat}{E:A6}{H:HP}{d:Option Tmp}{T T' ty:TypeId}{pos:String}{af:Array Edge}{g:Option (Nat×Bool)}{x y:Operand}
theorem Z3{i j:Nat}(hx:ev E x=some (.int .u64 i))(hy:ev E y=some (.int .u64 j))(h:i*j<18446744073709551616):
  Aa P B n ⟨d,.binOp .mul T x y T',ty,pos,af,g⟩ E H (.int .u64 (i*j:Nat)):=by
 have:=nB (P:=P) (B:=B) (n:=n) (H:=H) (d:=d) (T:=T) (T':=T') (ty:=ty) (pos:=pos) (af:=af) (g:=g) hx hy
 rwa [Nat.mod_eq_of_lt h]at this
theorem lr{i:Nat}[h1:Ar P T (.int .u64)][h2:Ar P T' (.int .u8)](hx:ev E x=some (.int .u64 i)):Aa P B n ⟨d,.convert T T' x,ty,pos,af,g⟩ E H (u8 (h_ i)):=by
 have:=TF (P:=P) (B:=B) (n:=n) (H:=H) (d:=d) (T:=T) (T':=T') (ty:=ty) (pos:=pos) (af:=af) (g:=g) hx
 rw [show u8 (h_ i)=.int .u8 (i%256:Nat) by rw [u8,x_]];exact this
end
theorem H9(n:Nat)(hn:n≤4611686018427387903)(p:Option Addr)(b o c:Nat)(xs:List UInt8)(s:List Value)(R:HP)(hs:Sl p b o xs.length c)(hc:xs.length*1+s.length=c*1)(hx:xs.length<1000000000000):
  Fn Tryz.prog B 158 [.slice p xs.length c,uN n] (AD b o xs s*R) (fun v H'=>CH R (xs++AQ n) v H'):=by
 refine mI Tryz.func158 ?_;refine J7 ?_;refine JL ND ?_;refine J4 ?_;refine Fz ?_;refine J7 ?_;refine JL (L9 (j:=1073741824) rfl rfl) ?_;refine J3 ?_;refine BO (α:=Unit) (fun _=>[(0,.slice p xs.length c),(1,uN n),(5,iN (Bp n)),(6,uN (DN n))]) (fun _=>AD b o xs s*R) (fun _=>True) ?_ ?_
 ·refine mC (fun g30=>?_) (fun g30=>?_)
  ·refine J1 ?_;refine JL Xj ?_;refine JL (FK (v:=.int .u64 (3:Nat)) rfl) ?_;refine J1 ?_;exact AU () trivial (by rw [show Bp n=8 by unfold Bp;rw [if_neg Cg,if_neg Cg,if_neg Cg],show DN n=3 by unfold DN;rw [if_neg Cg,if_neg Cg,if_neg Cg]];exact .cons rfl CS) rfl
  refine J3 ?_;refine JL (L9 (j:=16384) rfl rfl) ?_;refine J3 ?_;refine mC (fun g14=>?_) (fun g14=>?_)
  ·refine J1 ?_;refine JL XK ?_;refine JL (FK (v:=.int .u64 (2:Nat)) rfl) ?_;refine J1 ?_;exact AU () trivial (by rw [show Bp n=4 by unfold Bp;rw [if_neg Cg,if_neg Cg,if_pos Cg],show DN n=2 by unfold DN;rw [if_neg Cg,if_neg Cg,if_pos Cg]];exact .cons rfl CS) rfl
  refine J3 ?_;refine JL (L9 (j:=64) rfl rfl) ?_;refine J3 ?_;refine mC (fun g6=>?_) (fun g6=>?_)
  ·refine J1 ?_;refine JL Su ?_;refine JL (FK (v:=.int .u64 (1:Nat)) rfl) ?_;refine J1 ?_;exact AU () trivial (by rw [show Bp n=2 by unfold Bp;rw [if_neg Cg,if_pos Cg],show DN n=1 by unfold DN;rw [if_neg Cg,if_pos Cg]];exact .cons rfl CS) rfl
  refine J1 ?_;exact AU () trivial (by rw [show Bp n=1 by unfold Bp;rw [if_pos Cg],show DN n=0 by unfold DN;rw [if_pos Cg]];exact .cons rfl CS) rfl
 ·rintro z hz
  have hsz:Bp n=1∨Bp n=2∨Bp n=4∨Bp n=8:=by
   unfold Bp;repeat' split
   all_goals simp
  have hhd:DN n≤3:=by
   unfold DN;repeat' split
   all_goals simp
  refine J6 ?_;refine JL (LW (i:=(Bp n:Nat)) (j:=1) rfl rfl Cg) ?_;refine J4 ?_
  refine BL (α:=Nat×Option Addr×Nat×Nat×Nat×List Value) (fun z=>[(0,.slice z.2.1 (xs++ES n (Bp n) (DN n) z.1).length z.2.2.2.2.1),(1,uN n),(5,iN (Bp n)),(6,uN (DN n)),(7,.int .i64 ((Bp n:Nat)-1-(z.1:Nat)))]) (fun z=>AD z.2.2.1 z.2.2.2.1 (xs++ES n (Bp n) (DN n) z.1) z.2.2.2.2.2*R) (fun z=>z.1≤Bp n∧Sl z.2.1 z.2.2.1 z.2.2.2.1 (xs++ES n (Bp n) (DN n) z.1).length z.2.2.2.2.1∧(xs++ES n (Bp n) (DN n) z.1).length*1+z.2.2.2.2.2.length=z.2.2.2.2.1*1) (fun z=>Bp n-z.1) (0,p,b,o,c,s) ⟨l_ _,by simpa [ES]using hs,by simpa [ES]using hc⟩ (by simp only [ES,xt];exact .cons rfl gn) (by simp only [ES,xt]) ?_
  rintro⟨k,q,qb,qo,qc,qs⟩ ⟨hk,hqs,hqc⟩;dsimp only at hk hqs hqc⊢;refine J4 ?_;refine JL (Jb (i:=(Bp n:Nat)-1-(k:Nat)) (j:=0) rfl rfl) ?_;refine J2 ?_;refine mC (fun hge=>?_) (fun hge=>?_)
  ·skip
   have hkl:k<Bp n:=by omega
   refine OI (E':=[(0,.slice q (xs++ES n (Bp n) (DN n) k).length qc),(1,uN n),(5,iN (Bp n)),(6,uN (DN n)),(7,iN (Bp n-1-k))]) mM ?_;refine EP ?_;refine CZ ?_;refine BL (fun j:Nat=>[(0,.slice q (xs++ES n (Bp n) (DN n) k).length qc),(1,uN n),(5,iN (Bp n)),(6,uN (DN n)),(7,iN (Bp n-1-k)),(8,uN (n/256^j)),(9,iN j)]) (fun _=>AD qb qo (xs++ES n (Bp n) (DN n) k) qs*R) (fun j=>j≤Bp n-1-k) (fun j=>Bp n-1-k-j) 0 C9 (.cons rfl (.cons rfl (.cons rfl (.cons rfl (.cons rfl (.cons (congrArg (fun z=>some (uN z)) (by rw [p_,q'])) Ix)))))) rfl ?_;rintro j hj;dsimp only at hj⊢;have hjn:n/256^j≤n:=Nat.div_le_self _ _;refine J8 ?_;refine mC (fun hjl=>?_) (fun hjl=>?_)
   ·refine J6 ?_;refine JL (ll (j:=256) rfl rfl ⟨Cg,Cg⟩) ?_;refine KG ?_;exact At (j+1) Wm (by show Bp n-1-k-(j+1)<Bp n-1-k-j;omega) (.cons rfl (.cons rfl (.cons rfl (.cons rfl (.cons rfl (.cons (congrArg (fun z=>some (uN z)) (by rw [Nat.pow_succ,Nat.div_div_eq_div_mul])) Ix)))))) rfl
   obtain rfl:j=Bp n-1-k:=by omega
   refine J8 ?_;refine JL (QT (j:=256) rfl rfl Cg) ?_;refine J8 ?_;refine JL LZ ?_;refine Mj ?_;refine BO (α:=Unit) (fun _=>[(0,.slice q (xs++ES n (Bp n) (DN n) k).length qc),(1,uN n),(5,iN (Bp n)),(6,uN (DN n)),(7,iN (Bp n-1-k)),(8,uN (n/256^(Bp n-1-k)%256+(if k=0 then DN n*64 else 0)))]) (fun _=>AD qb qo (xs++ES n (Bp n) (DN n) k) qs*R) (fun _=>True) ?_ ?_
   ·refine mC (fun hk0=>?_) (fun hk0=>?_)
    ·refine J3 ?_;refine JL (Z3 (j:=64) rfl rfl Cg) ?_;refine JL IU ?_;refine J2 ?_;exact AU () trivial (by rw [if_pos Cg];exact .cons rfl GE) rfl
    refine J1 ?_;exact AU () trivial (by rw [if_neg Cg];exact .cons rfl GE) rfl
   ·rintro z hz;refine J4 ?_;refine JL (lr rfl) ?_;refine FM ?_;rintro _ _ ⟨b46,rfl,rfl⟩;refine Aw (H':=AD qb qo (xs++ES n (Bp n) (DN n) k) qs*(HP.AA b46 0 (AE [h_ (n/256^(Bp n-1-k)%256+(if k=0 then DN n*64 else 0))])*R)) I0 ?_;refine AV (Bf (ys:=[h_ (n/256^(Bp n-1-k)%256+(if k=0 then DN n*64 else 0))]) (bb:=b46) (oo:=0) (cc:=1) rfl hqs hqc rfl Bc inferInstance rfl (by have:=kS n (Bp n) (DN n) k;simp only [f_,List.length_singleton];omega) Cg) rfl ?_;rintro _ _ ⟨p47,b47,o47,c47,s47,rfl,hs47,hc47,rfl⟩;rw [List.append_assoc]at hs47 hc47⊢;refine Aw (H':=AD b47 o47 (xs++ES n (Bp n) (DN n) (k+1)) s47*(HP.AA b46 0 (AE [h_ (n/256^(Bp n-1-k)%256+(if k=0 then DN n*64 else 0))])*R)) rfl ?_;refine J6 ?_;refine JL (LW (i:=((Bp n-1-k:Nat):Int)) (j:=1) rfl rfl Cg) ?_;refine J2 ?_;exact Au (AD b47 o47 (xs++ES n (Bp n) (DN n) (k+1)) s47*R) (At (k+1,p47,b47,o47,c47,s47) ⟨Cg,hs47,hc47⟩ (by show Bp n-(k+1)<Bp n-k;omega) mM rfl)
  obtain rfl:k=Bp n:=by omega
  refine CR ?_;rw [y8 n hn]at hqs hqc⊢;exact mR [4] (AD qb qo (xs++AQ n) qs*R) rfl rfl ⟨q,qb,qo,qc,qs,rfl,hqs,hqc,rfl⟩
end
section
variable{B:World}
theorem eU(r:RF)(H:HP)(hm:FU r)(hr:AW B H r.b r.o r.f.ranges):
  Fn Tryz.prog B 107 [.agg (AI r).toArray] H (fun v H'=>v=.bool (decide (Bh r.f))∧H'=H):=by
 refine mI Tryz.func107 ?_;refine Hj ?_;rintro _ _ ⟨b1,rfl,rfl⟩;refine IA ?_;refine JL Ml ?_;refine J1 ?_;refine CJ 8 rfl (fun hg1=>?_) (fun hg1=>?_)
 ·refine Um ?_;refine J7 ?_
  first
  |exact mR [2] H rfl rfl IK
  |exact mR [2] H rfl rfl IM
  |exact mR [2] H rfl rfl IH
  |exact mR [2] H rfl rfl IZ
  |exact mR [2] H rfl rfl If
  |exact mR [2] H rfl rfl IL
 refine JA ?_;refine DY ?_;refine Ir ?_;refine JL Ml ?_;refine Jq ?_;refine J1 ?_;refine CJ 13 rfl (fun hg2=>?_) (fun hg2=>?_)
 ·refine Vp ?_;refine J7 ?_
  first
  |exact mR [2] H rfl rfl IK
  |exact mR [2] H rfl rfl IM
  |exact mR [2] H rfl rfl IH
  |exact mR [2] H rfl rfl IZ
  |exact mR [2] H rfl rfl If
  |exact mR [2] H rfl rfl IL
 refine UH ?_;refine DY ?_;refine JG F2 ?_;refine JL (JQ (i:=r.f.stream) (j:=0) rfl rfl) ?_;refine JL FQ ?_;refine J1 ?_;refine CJ 18 rfl (fun hg3=>?_) (fun hg3=>?_)
 ·refine XW ?_;refine J7 ?_
  first
  |exact mR [2] H rfl rfl IK
  |exact mR [2] H rfl rfl IM
  |exact mR [2] H rfl rfl IH
  |exact mR [2] H rfl rfl IZ
  |exact mR [2] H rfl rfl If
  |exact mR [2] H rfl rfl IL
 refine jR ?_;refine DY ?_;refine JG F3 ?_;refine JL (Jb (i:=r.f.stream) (j:=4) rfl rfl) ?_;refine JL Oh ?_;refine J2 ?_;refine mC (fun hs4=>?_) (fun hs4=>?_)
 ·refine J7 ?_
  first
  |exact mR [2] H rfl rfl IK
  |exact mR [2] H rfl rfl IM
  |exact mR [2] H rfl rfl IH
  |exact mR [2] H rfl rfl IZ
  |exact mR [2] H rfl rfl If
  |exact mR [2] H rfl rfl IL
 refine LP ?_;refine J5 ?_;refine JL Sh ?_;refine J3 ?_;refine mC (fun hk3=>?_) (fun hk3=>?_)
 ·refine J3 ?_;refine CZ ?_;refine BL (fun i:Nat=>[(1,ptr b1 0),(3,iN i)]) (fun _=>HP.AA b1 0 (AI r)*H) (fun i=>i≤r.f.ranges.length∧∀j,j<i→Em r.f.ranges j) (fun i=>r.f.ranges.length-i) 0 ⟨l_ _,fun j hj=>by omega⟩ FX rfl ?_;rintro i ⟨hi,hall⟩;dsimp only at hi hall⊢;refine J5 ?_;refine DY ?_;refine J4 ?_;refine mC (fun hlt=>?_) (fun hlt=>?_)
  ·refine Mc ?_;refine JL (Bm (b:=r.b) (o:=r.o) rfl rfl hm.ok hlt) ?_;refine JL nF ?_;refine LD ?_;rintro _ _ ⟨b4,rfl,rfl⟩;refine Jr ?_;refine mA 37 37 ?_;refine WK ?_;refine JT 4 rfl HU ?_;refine Jm 5 ?_;refine DM 44 rfl (fun hg4=>?_) (fun hg4=>?_)
   ·refine JN 6 rfl T4 ?_;refine JN 7 rfl T4 ?_;refine JN 8 rfl T4 ?_;refine JT 9 rfl Io ?_;refine Wa ?_;refine TQ ?_;refine DU 35 rfl Ch rfl rfl rfl rfl ?_;refine JT 36 rfl PO ?_;refine Jw ?_;refine EP ?_
    first
    |exact mR [2] H rfl rfl IK
    |exact mR [2] H rfl rfl IM
    |exact mR [2] H rfl rfl IH
    |exact mR [2] H rfl rfl IZ
    |exact mR [2] H rfl rfl If
    |exact mR [2] H rfl rfl IL
   refine JY 6 rfl F4 A7 ?_;refine JY 7 rfl F4 D7 ?_;refine JY 8 rfl F4 Ml ?_;refine JT 9 rfl IE ?_;refine Jm 10 ?_;refine DM 49 rfl (fun hg5=>?_) (fun hg5=>?_)
   ·refine JN 11 rfl T5 ?_;refine JN 12 rfl T5 ?_;refine JN 13 rfl T5 ?_;refine TQ ?_;refine JN 35 rfl T5 ?_;refine JT 36 rfl OA ?_;refine Jw ?_;refine EP ?_
    first
    |exact mR [2] H rfl rfl IK
    |exact mR [2] H rfl rfl IM
    |exact mR [2] H rfl rfl IH
    |exact mR [2] H rfl rfl IZ
    |exact mR [2] H rfl rfl If
    |exact mR [2] H rfl rfl IL
   refine JY 11 rfl F5 A4 ?_;refine JY 12 rfl F5 Ld ?_;refine JY 13 rfl F5 A4 ?_;refine DM 52 rfl (fun hg6=>?_) (fun hg6=>?_)
   ·refine JY 14 rfl T6 A7 ?_;refine JY 15 rfl T6 D7 ?_;refine JY 16 rfl T6 A4 ?_;refine JY 17 rfl T6 (Ia (j:=1) rfl rfl Si) ?_;refine JY 18 rfl T6 mW ?_;refine JY 19 rfl T6 A7 ?_;refine JY 20 rfl T6 R5 ?_;refine JY 21 rfl T6 Oy ?_;refine JY 22 rfl T6 A4 ?_;refine DM 61 rfl (fun hg7=>?_) (fun hg7=>?_)
    ·refine JN 23 rfl T7 ?_;refine JN 24 rfl T7 ?_;refine JN 25 rfl T7 ?_;refine JN 26 rfl T7 ?_;refine JN 27 rfl T7 ?_;refine JN 28 rfl T7 ?_;refine JN 29 rfl T7 ?_;refine JN 30 rfl T7 ?_;refine JN 31 rfl T7 ?_;refine JN 32 rfl T7 ?_;refine JN 33 rfl T7 ?_;refine JY 34 rfl T6 (Fs T7 rfl rfl) ?_;refine JY 35 rfl F5 W8 ?_;refine JT 36 rfl L6 ?_;refine Jw ?_;refine EP ?_
     first
     |exact mR [2] H rfl rfl IK
     |exact mR [2] H rfl rfl IM
     |exact mR [2] H rfl rfl IH
     |exact mR [2] H rfl rfl IZ
     |exact mR [2] H rfl rfl If
     |exact mR [2] H rfl rfl IL
    refine JY 23 rfl F7 A7 ?_;refine JY 24 rfl F7 D7 ?_;refine JY 25 rfl F7 A7 ?_;refine JY 26 rfl F7 D7 ?_;refine JY 27 rfl F7 A4 ?_;refine JY 28 rfl F7 (Ia (j:=1) rfl rfl Si) ?_;refine JY 29 rfl F7 mW ?_;refine JY 30 rfl F7 A7 ?_;refine JY 31 rfl F7 R5 ?_;refine JY 32 rfl F7 (LT (j:=2) rfl rfl iD) ?_;refine JY 33 rfl F7 HU ?_;refine JY 34 rfl T6 (Fe F7 rfl rfl) ?_;refine JY 35 rfl F5 W8 ?_;refine JT 36 rfl L6 ?_;refine EU ?_;refine mC (fun hbad=>?_) (fun hbad=>?_)
    ·refine EP ?_
     first
     |exact mR [2] H rfl rfl IK
     |exact mR [2] H rfl rfl IM
     |exact mR [2] H rfl rfl IH
     |exact mR [2] H rfl rfl IZ
     |exact mR [2] H rfl rfl If
     |exact mR [2] H rfl rfl IL
    refine J5 ?_;refine JL (Kb (j:=1) rfl rfl Si) ?_;refine J2 ?_;refine Au (HP.AA b1 0 (AI r)*H) (At (i+1) ⟨hlt,fun j hj=>?_⟩ Cg FX rfl);rcases j'.1 hj with h|rfl
    ·exact hall j h
    ·unfold Em;omega
   refine JN 14 rfl F6 ?_;refine JN 15 rfl F6 ?_;refine nU ?_;refine JN 21 rfl F6 ?_;refine JN 22 rfl F6 ?_;refine JU 23 ?_;refine JU 24 ?_;refine aW ?_;refine JU 31 ?_;refine JU 32 ?_;refine JU 33 ?_;refine JN 34 rfl F6 ?_;refine JY 35 rfl F5 (Fe F6 rfl rfl) ?_;refine JT 36 rfl L6 ?_;refine EU ?_;refine JJ ?_;refine J5 ?_;refine JL (Kb (j:=1) rfl rfl Si) ?_;refine J2 ?_;refine Au (HP.AA b1 0 (AI r)*H) (At (i+1) ⟨hlt,fun j hj=>?_⟩ Cg FX rfl);rcases j'.1 hj with h|rfl
   ·exact hall j h
   ·unfold Em;omega
  have hie:i=r.f.ranges.length:=by omega
  have hdone:∀j,j<r.f.ranges.length→Em r.f.ranges j:=hie▸hall;refine Ke ?_;refine J1 ?_;refine JL Ld ?_;refine J6 ?_
  first
  |exact mR [2] H rfl rfl IK
  |exact mR [2] H rfl rfl IM
  |exact mR [2] H rfl rfl IH
  |exact mR [2] H rfl rfl IZ
  |exact mR [2] H rfl rfl If
  |exact mR [2] H rfl rfl IL
 refine SI ?_;refine mC (fun hk5=>?_) (fun hk5=>?_)
 ·refine J3 ?_;refine DY ?_;refine J1 ?_;refine JL (Gt rfl (HK NW)) ?_;refine J1 ?_;refine DY ?_;refine JL gF ?_;refine JL Ge ?_;refine J6 ?_
  first
  |exact mR [2] H rfl rfl IK
  |exact mR [2] H rfl rfl IM
  |exact mR [2] H rfl rfl IH
  |exact mR [2] H rfl rfl IZ
  |exact mR [2] H rfl rfl If
  |exact mR [2] H rfl rfl IL
 refine LP ?_;refine JL (Jb (i:=r.f.kind) (j:=1) rfl rfl) ?_;refine J1 ?_;refine CJ 93 rfl (fun hg8=>?_) (fun hg8=>?_)
 ·refine JG T8 ?_;refine J1 ?_;refine JG T8 ?_;refine DY ?_;refine JG T8 ?_;refine JL (S_ (i:=r.f.kind) (j:=6) rfl rfl) ?_;refine JL (Fs T8 rfl rfl) ?_;refine J4 ?_
  first
  |exact mR [2] H rfl rfl IK
  |exact mR [2] H rfl rfl IM
  |exact mR [2] H rfl rfl IH
  |exact mR [2] H rfl rfl IZ
  |exact mR [2] H rfl rfl If
  |exact mR [2] H rfl rfl IL
 refine JH F8 ?_;refine JH F8 ?_;refine JH F8 ?_;refine JL (Fe F8 rfl rfl) ?_;refine J4 ?_
 first
 |exact mR [2] H rfl rfl IK
 |exact mR [2] H rfl rfl IM
 |exact mR [2] H rfl rfl IH
 |exact mR [2] H rfl rfl IZ
 |exact mR [2] H rfl rfl If
 |exact mR [2] H rfl rfl IL
theorem I! (r:RF)(p:Option Addr)(b o c:Nat)(xs:List UInt8)(s:List Value)(H:HP)(hm:FU r)(hokf:Bh r.f)(hr:AW B H r.b r.o r.f.ranges)(hs:Sl p b o xs.length c)(hc:xs.length*1+s.length=c*1)(hx:xs.length<100000000000):
  Fn Tryz.prog B 108 [.slice p xs.length c,.agg (AI r).toArray] (AD b o xs s*H) (fun v H'=>CH H (xs++Aj r.f) v H'):=by
 refine mI Tryz.func108 ?_;obtain⟨hof,hcd,hs0,hs4,hok,hkk⟩:=hokf
 have hst:r.f.stream=((r.f.stream.toNat:Nat):Int):=by omega
 have q1:=B8 r.f.stream.toNat;have q2:=B8 r.f.code;have q3:=B8 r.f.offset;have q4:=B8 r.f.data.size;refine Hj ?_;rintro _ _ ⟨b3,rfl,rfl⟩;refine IA ?_;refine J5 ?_;refine JL (CI (i:=r.f.kind) (j:=1) rfl rfl) ?_;refine J3 ?_;refine mC (fun hk1=>?_) (fun hk1=>?_)
 ·refine J3 ?_;refine FM ?_;rintro _ _ ⟨b12,rfl,rfl⟩;refine Aw (H':=AD b o xs s*(HP.AA b12 0 (AE [(0:UInt8)])*(HP.AA b3 0 (AI r)*H))) (by show HP.AA b12 0 (AE [(0:UInt8)])*_=_;ac_rfl) ?_;refine AV (Bf (ys:=[(0:UInt8)]) (bb:=b12) (oo:=0) (cc:=1) rfl hs hc rfl Bc inferInstance rfl Cs Cg) rfl ?_;rintro _ _ ⟨p13,b13,o13,c13,s13,rfl,hs13,hc13,rfl⟩;refine J6 ?_;exact mR [4] (AD b13 o13 (xs++[0]) s13*H) rfl rfl (by rw [show Aj r.f=[0] by simp [Aj,hk1]];exact⟨p13,b13,o13,c13,s13,rfl,hs13,hc13,rfl⟩)
 refine J2 ?_;refine JL (CI (i:=r.f.kind) (j:=2) rfl rfl) ?_;refine J3 ?_;refine mC (fun hk2=>?_) (fun hk2=>?_)
 ·refine J3 ?_;refine FM ?_;rintro _ _ ⟨b17,rfl,rfl⟩;refine Aw (H':=AD b o xs s*(HP.AA b17 0 (AE [(1:UInt8)])*(HP.AA b3 0 (AI r)*H))) (by show HP.AA b17 0 (AE [(1:UInt8)])*_=_;ac_rfl) ?_;refine AV (Bf (ys:=[(1:UInt8)]) (bb:=b17) (oo:=0) (cc:=1) rfl hs hc rfl Bc inferInstance rfl Cs Cg) rfl ?_;rintro _ _ ⟨p18,b18,o18,c18,s18,rfl,hs18,hc18,rfl⟩;refine J6 ?_;exact mR [4] (AD b18 o18 (xs++[1]) s18*H) rfl rfl (by rw [show Aj r.f=[1] by simp [Aj,hk2]];exact⟨p18,b18,o18,c18,s18,rfl,hs18,hc18,rfl⟩)
 refine J2 ?_;refine JL Sh ?_;refine J3 ?_;refine mC (fun hk3=>?_) (fun hk3=>?_)
 ·have hra:=hok.1 hk3;have hne:0<r.f.ranges.length:=c_.2 hra.1;have h0:=hra.2 0 hne;unfold Em at h0;have q5:=B8 (rg r.f.ranges 0).hi;have q6:=B8 (r.f.ranges.length-1);have q7:=B8 ((rg r.f.ranges 0).hi-(rg r.f.ranges 0).lo);have hml:=hm.len;refine J3 ?_;refine FM ?_;rintro _ _ ⟨b22,rfl,rfl⟩;refine Aw (H':=AD b o xs s*(HP.AA b22 0 (AE [(2:UInt8)])*(HP.AA b3 0 (AI r)*H))) (by show HP.AA b22 0 (AE [(2:UInt8)])*_=_;ac_rfl) ?_;refine AV (Bf (ys:=[(2:UInt8)]) (bb:=b22) (oo:=0) (cc:=1) rfl hs hc rfl Bc inferInstance rfl Cs Cg) rfl ?_;rintro _ _ ⟨p23,b23,o23,c23,s23,rfl,hs23,hc23,rfl⟩;refine IA ?_;refine JL VQ ?_;refine J1 ?_;refine JL Y1 ?_;refine mE rfl (H9 ((rg r.f.ranges 0).hi) h0.2.1 p23 b23 o23 c23 (xs++[2]) s23 _ hs23 hc23 KD) ?_;rintro _ _ ⟨p30,b30,o30,c30,s30,rfl,hs30,hc30,rfl⟩;refine Mc ?_;refine JL LZ ?_;refine JL EM ?_
  refine mE rfl (H9 (r.f.ranges.length-1) Cg p30 b30 o30 c30 (xs++[2]++AQ (rg r.f.ranges 0).hi) s30 _ hs30 hc30 KD) ?_;rintro _ _ ⟨p37,b37,o37,c37,s37,rfl,hs37,hc37,rfl⟩;refine J4 ?_;refine Hs (AD b37 o37 (xs++[2]++AQ (rg r.f.ranges 0).hi++AQ (r.f.ranges.length-1)) s37*(HP.AA b3 0 (AI r)*H)) ?_;refine Dc (HP.AA b3 0 (AI r)*H) 12 14 Dg rfl Ch ?_;refine Fr ?_;refine Jf 1 ?_;refine Jd 2 ?_;refine JT 3 rfl VQ ?_;refine Jf 4 ?_;refine JT 5 rfl Y1 ?_;refine Hk ?_;refine Jd 7 ?_;refine JT 8 rfl VQ ?_;refine Jf 9 ?_;refine JT 10 rfl (H6 (i:=0) (xs:=r.f.ranges) rfl inferInstance hne) ?_;refine JT 11 rfl Ez ?_;refine Al 12 Ch rfl rfl (BK rfl (H9 ((rg r.f.ranges 0).hi-(rg r.f.ranges 0).lo) Cg p37 b37 o37 c37 (xs++[2]++AQ (rg r.f.ranges 0).hi++AQ (r.f.ranges.length-1)) s37 _ hs37 hc37 KD)) ?_;rintro _ _ ⟨p50,b50,o50,c50,s50,rfl,hs50,hc50,rfl⟩;refine DS ?_;refine Ec 13 Ch rfl rfl Fl EO ?_;refine M6 ?_;refine JL ND ?_
  refine J3 ?_;generalize hpre:xs++[2]++AQ (rg r.f.ranges 0).hi++AQ (r.f.ranges.length-1)++AQ ((rg r.f.ranges 0).hi-(rg r.f.ranges 0).lo)=pre at*
  have hpl:pre.length<200000000000:=by rw [←hpre];simp only [f_,yb,yd];omega
  refine BL (α:=Nat×Option Addr×Nat×Nat×Nat×List Value) (fun z=>[(0,.slice z.2.1 (pre++Bu r.f.ranges z.1).length z.2.2.2.2.1),(3,ptr b3 0),(5,iN (z.1+1))]) (fun z=>AD z.2.2.1 z.2.2.2.1 (pre++Bu r.f.ranges z.1) z.2.2.2.2.2*(HP.AA b3 0 (AI r)*H)) (fun z=>z.1≤r.f.ranges.length-1∧Sl z.2.1 z.2.2.1 z.2.2.2.1 (pre++Bu r.f.ranges z.1).length z.2.2.2.2.1∧(pre++Bu r.f.ranges z.1).length*1+z.2.2.2.2.2.length=z.2.2.2.2.1*1) (fun z=>r.f.ranges.length-1-z.1) (0,p50,b50,o50,c50,s50) ⟨l_ _,by simpa [Bu]using hs50,by simpa [Bu]using hc50⟩ (by simp only [Bu,xt];exact .cons rfl FX) WR ?_
  rintro⟨i,p9,b9,o9,c9,s9⟩ ⟨hi,hs9,hc9⟩;dsimp only at hi hs9 hc9⊢;have hel:=Nr r.f.ranges i
  have hyl:(pre++Bu r.f.ranges i).length<900000000000:=by simp only [f_];omega
  generalize hys:pre++Bu r.f.ranges i=ys at*;refine J5 ?_;refine JL D7 ?_;refine J4 ?_;refine mC (fun hlt=>?_) (fun hlt=>?_)
  ·have hk:=hra.2 (i+1) Cg;have hk0:=hra.2 i Cg;unfold Em at hk hk0;simp only [Nat.add_sub_cancel]at hk;have v1:=B8 ((rg r.f.ranges i).lo-(rg r.f.ranges (i+1)).hi-2);refine J5 ?_;refine Dc (HP.AA b3 0 (AI r)*H) 16 18 Dg rfl Ch ?_;refine Fr ?_;refine Jf 1 ?_;refine Jd 2 ?_;refine Jm 3 ?_;refine JT 4 rfl (Ia (i:=i+1) (j:=1) rfl rfl Cg) ?_;refine JT 5 rfl (FT (i:=i+1-1) (b:=r.b) (o:=r.o) (q:=r.o+i*2) rfl rfl hm.ok Cg Cg) ?_;refine Hk ?_;refine JT 7 rfl qA ?_;refine Jf 8 ?_;refine Jd 9 ?_;refine Jm 10 ?_;refine JT 11 rfl YF ?_;refine Jf 12 ?_;refine JT 13 rfl pJ ?_;refine JT 14 rfl Ez ?_;refine JT 15 rfl Lc ?_;refine Al 16 Ch rfl rfl (BK rfl (H9 ((rg r.f.ranges i).lo-(rg r.f.ranges (i+1)).hi-2) Cg p9 b9 o9 c9 ys s9 _ hs9 hc9 Cg)) ?_;rintro _ _ ⟨p74,b74,o74,c74,s74,rfl,hs74,hc74,rfl⟩;refine DS ?_;refine Ec 17 Ch rfl rfl Fl EO ?_;refine EU ?_;refine Dc (HP.AA b3 0 (AI r)*H) 14 16 Dg rfl Ch ?_;refine Fr ?_;refine Jf 1 ?_;refine Jd 2 ?_;refine Jm 3 ?_
   refine JT 4 rfl YF ?_;refine Jf 5 ?_;refine JT 6 rfl pJ ?_;refine Jf 7 ?_;refine Jd 8 ?_;refine Jm 9 ?_;refine JT 10 rfl YF ?_;refine Jf 11 ?_;refine JT 12 rfl (H6 (i:=i+1) (xs:=r.f.ranges) rfl inferInstance Cg) ?_;refine JT 13 rfl Ez ?_;refine Al 14 Ch rfl rfl (BK rfl (H9 ((rg r.f.ranges (i+1)).hi-(rg r.f.ranges (i+1)).lo) Cg p74 b74 o74 c74 (ys++AQ ((rg r.f.ranges i).lo-(rg r.f.ranges (i+1)).hi-2)) s74 _ hs74 hc74 (by simp only [f_];omega))) ?_;rintro _ _ ⟨p89,b89,o89,c89,s89,rfl,hs89,hc89,rfl⟩;rw [←hys,Wp]at hs89 hc89⊢;refine DS ?_;refine Ec 15 Ch rfl rfl Fl EO ?_;refine M6 ?_;refine JL (Kb (i:=i+1) (j:=1) rfl rfl Cg) ?_;refine J2 ?_;exact Au (AD b89 o89 (pre++Bu r.f.ranges (i+1)) s89*(HP.AA b3 0 (AI r)*H)) (At (i+1,p89,b89,o89,c89,s89) ⟨Cg,hs89,hc89⟩ VK CS rfl)
  have hie:i=r.f.ranges.length-1:=by omega
  refine FL ?_;subst hie;rw [←hys]at hs9 hc9⊢;rw [←hpre]at hs9 hc9⊢;exact mR [4] (AD b9 o9 (xs++[2]++AQ (rg r.f.ranges 0).hi++AQ (r.f.ranges.length-1)++AQ ((rg r.f.ranges 0).hi-(rg r.f.ranges 0).lo)++Bu r.f.ranges (r.f.ranges.length-1)) s9*H) rfl rfl (by rw [show xs++Aj r.f=xs++[2]++AQ (rg r.f.ranges 0).hi++AQ (r.f.ranges.length-1)++AQ ((rg r.f.ranges 0).hi-(rg r.f.ranges 0).lo)++Bu r.f.ranges (r.f.ranges.length-1) by simp [Aj,hk3,KU]];exact⟨p9,b9,o9,c9,s9,rfl,hs9,hc9,rfl⟩)
 refine Qq ?_;refine mC (fun hk4=>?_) (fun hk4=>?_)
 ·refine J3 ?_;refine FM ?_;rintro _ _ ⟨b94,rfl,rfl⟩;refine Aw (H':=AD b o xs s*(HP.AA b94 0 (AE [(4:UInt8)])*(HP.AA b3 0 (AI r)*H))) (by show HP.AA b94 0 (AE [(4:UInt8)])*_=_;ac_rfl) ?_;refine AV (Bf (ys:=[(4:UInt8)]) (bb:=b94) (oo:=0) (cc:=1) rfl hs hc rfl Bc inferInstance rfl Cs Cg) rfl ?_;rintro _ _ ⟨p95,b95,o95,c95,s95,rfl,hs95,hc95,rfl⟩;refine IA ?_;refine JL ZJ ?_;refine mE rfl (H9 (r.f.stream.toNat) Cg p95 b95 o95 c95 (xs++[4]) s95 _ hs95 hc95 KD) ?_;rintro _ _ ⟨p100,b100,o100,c100,s100,rfl,hs100,hc100,rfl⟩;refine IA ?_;refine mE rfl (H9 (r.f.code) hcd p100 b100 o100 c100 (xs++[4]++AQ r.f.stream.toNat) s100 _ hs100 hc100 KD) ?_;rintro _ _ ⟨p104,b104,o104,c104,s104,rfl,hs104,hc104,rfl⟩;refine IA ?_
  refine mE rfl (H9 (r.f.offset) hof p104 b104 o104 c104 (xs++[4]++AQ r.f.stream.toNat++AQ r.f.code) s104 _ hs104 hc104 KD) ?_;rintro _ _ ⟨p108,b108,o108,c108,s108,rfl,hs108,hc108,rfl⟩;refine J6 ?_;exact mR [4] (AD b108 o108 (xs++[4]++AQ r.f.stream.toNat++AQ r.f.code++AQ r.f.offset) s108*H) rfl rfl (by rw [show xs++Aj r.f=xs++[4]++AQ r.f.stream.toNat++AQ r.f.code++AQ r.f.offset by simp [Aj,hk4]];exact⟨p108,b108,o108,c108,s108,rfl,hs108,hc108,rfl⟩)
 refine SI ?_;refine mC (fun hk5=>?_) (fun hk5=>?_)
 ·refine J2 ?_;refine JL Wr ?_;refine LP ?_;refine J2 ?_;refine BO (α:=Unit) (fun _=>[(0,.slice p xs.length c),(3,ptr b3 0),(6,u8 (bif r.f.fin then 9 else 8))]) (fun _=>HP.AA b3 0 (AI r)*(AD b o xs s*H)) (fun _=>True) ?_ ?_
  ·refine mc (fun hc0=>?_) (fun hc0=>?_)
   ·refine J1 ?_;refine JL VV ?_;refine J1 ?_;exact OP
   refine J1 ?_;exact OP
  ·rintro z hz;refine J5 ?_;refine FM ?_;rintro _ _ ⟨b115,rfl,rfl⟩;refine Aw (H':=AD b o xs s*(HP.AA b115 0 (AE [(bif r.f.fin then(9:UInt8)else 8)])*(HP.AA b3 0 (AI r)*H))) (by show HP.AA b115 0 (AE [(bif r.f.fin then(9:UInt8)else 8)])*_=_;ac_rfl) ?_;refine AV (Bf (ys:=[(bif r.f.fin then(9:UInt8)else 8)]) (bb:=b115) (oo:=0) (cc:=1) rfl hs hc rfl Bc inferInstance rfl Cs Cg) rfl ?_;rintro _ _ ⟨p116,b116,o116,c116,s116,rfl,hs116,hc116,rfl⟩;refine IA ?_;refine JL ZJ ?_;refine mE rfl (H9 (r.f.stream.toNat) Cg p116 b116 o116 c116 (xs++[bif r.f.fin then 9 else 8]) s116 _ hs116 hc116 KD) ?_;rintro _ _ ⟨p121,b121,o121,c121,s121,rfl,hs121,hc121,rfl⟩;refine IA ?_;refine mE rfl (H9 (r.f.offset) hof p121 b121 o121 c121 (xs++[bif r.f.fin then 9 else 8]++AQ r.f.stream.toNat) s121 _ hs121 hc121 KD) ?_;rintro _ _ ⟨p125,b125,o125,c125,s125,rfl,hs125,hc125,rfl⟩;refine Mc ?_
   refine JL (Gt rfl (HK NW)) ?_;refine mE rfl (H9 (r.f.data.size) NW p125 b125 o125 c125 (xs++[bif r.f.fin then 9 else 8]++AQ r.f.stream.toNat++AQ r.f.offset) s125 _ hs125 hc125 KD) ?_;rintro _ _ ⟨p131,b131,o131,c131,s131,rfl,hs131,hc131,rfl⟩;refine IA ?_;refine AV (kW (str:=r.f.data) rfl hs131 hc131 rfl rfl (by have:=hm.size;simp only [f_,yb,yd];omega) Cg) rfl ?_;rintro _ _ ⟨p135,b135,o135,c135,s135,rfl,hs135,hc135,rfl⟩;refine J6 ?_;exact mR [4] (AD b135 o135 (xs++[bif r.f.fin then 9 else 8]++AQ r.f.stream.toNat++AQ r.f.offset++AQ r.f.data.size++r.f.data.data.toList) s135*H) rfl rfl (by rw [show xs++Aj r.f=xs++[bif r.f.fin then 9 else 8]++AQ r.f.stream.toNat++AQ r.f.offset++AQ r.f.data.size++r.f.data.data.toList by simp [Aj,hk5]];exact⟨p135,b135,o135,c135,s135,rfl,hs135,hc135,rfl⟩)
 refine J6 ?_;refine FM ?_;rintro _ _ ⟨b137,rfl,rfl⟩;refine Aw (H':=AD b o xs s*(HP.AA b137 0 (AE [(28:UInt8)])*(HP.AA b3 0 (AI r)*H))) (by show HP.AA b137 0 (AE [(28:UInt8)])*_=_;ac_rfl) ?_;refine AV (Bf (ys:=[(28:UInt8)]) (bb:=b137) (oo:=0) (cc:=1) rfl hs hc rfl Bc inferInstance rfl Cs Cg) rfl ?_;rintro _ _ ⟨p138,b138,o138,c138,s138,rfl,hs138,hc138,rfl⟩;refine IA ?_;refine mE rfl (H9 (r.f.code) hcd p138 b138 o138 c138 (xs++[28]) s138 _ hs138 hc138 KD) ?_;rintro _ _ ⟨p142,b142,o142,c142,s142,rfl,hs142,hc142,rfl⟩;refine J4 ?_;exact mR [4] (AD b142 o142 (xs++[28]++AQ r.f.code) s142*H) rfl rfl (by rw [show xs++Aj r.f=xs++[28]++AQ r.f.code by simp [Aj,hk1,hk2,hk3,hk4,hk5]];exact⟨p142,b142,o142,c142,s142,rfl,hs142,hc142,rfl⟩)
theorem eE(fs:List AZ)(p:Option Addr)(c b o:Nat)(rs:List RF)(H:HP)(hfs:Hi B H p c fs b o rs)(hmd:∀r∈rs,FU r)(hn:fs.length<10000000000)(hel:(BN fs).length<100000000000):
  Fn Tryz.prog B 67 [.slice p fs.length c] H (fun v H'=>match EV fs with
   |none=>v=.tuple #[.slice none 0 0,.int .i64 5]∧H'=H
   |some ys=>∃sv,v=.tuple #[sv,.int .i64 0]∧CH H ys sv H'):=by
 refine mI Tryz.func67 ?_;have hrl:=hfs.len;refine L1 ?_;refine J6 ?_;refine JL Ld ?_;refine J6 ?_;refine CZ ?_;refine BL (α:=Nat×Bool) (fun z=>[(0,.slice p fs.length c),(4,.bool z.2),(5,iN z.1)]) (fun _=>H) (fun z=>z.1≤fs.length∧(z.2=true↔(0<fs.length∧∀j,j<z.1→Bh (rs.getD j AB.AC).f))) (fun z=>fs.length-z.1) (0,decide (0<fs.length)) ⟨l_ _,Cl⟩ CS rfl ?_;rintro⟨i,ok⟩ ⟨hi,hokk⟩;dsimp only at hi hokk⊢;refine J8 ?_;refine CJ 15 rfl (fun hg1=>?_) (fun hg1=>?_)
 ·have hlt:=hg1;refine Hh ?_;refine J1 ?_;refine JP ?_;refine J2 ?_;refine mc (fun hgo=>?_) (fun hgo=>?_)
  ·skip
   have hmem:(rs.getD i AB.AC)∈rs:=by rw [H2 _ _ _ Cg];exact Ty
   have hri:(rs.getD i AB.AC).f=fs[i]:=by
    have:=hfs.map;subst this
    rw [H2 _ _ _ Cg,i_]
   have hrr:=hfs.MG _ hmem;refine J7 ?_;refine JL SD ?_;refine JL RX ?_;refine mE rfl (eU (rs.getD i AB.AC) H (hmd _ hmem) hrr) ?_;refine Ha ?_;refine FO ?_;refine At (i+1,decide (Bh (rs.getD i AB.AC).f)) ⟨Cg,?_⟩ Lq CS rfl;rw [decide_eq_true_iff];constructor
   ·intro h;refine⟨Cg,fun j hj=>?_⟩;rcases j'.1 hj with h2|rfl
    ·exact(hokk.1 hgo).2 j h2
    ·exact h
   ·intro h;exact h.2 i Cg
  skip;refine J9 ?_;refine N3 ?_;refine mc (fun hno=>?_) (fun hno=>?_)
  ·skip
   have hbad:EV fs=none:=by
    rw [EV,if_neg];intro h
    have hok2:ok=false:=by cases ok<;>simp_all
    rw [hok2]at hokk
    have:false=true:=hokk.2 ⟨c_.2 h.1,fun j hj=>by
     have hj2:j<rs.length:=by omega
     rw [H2 _ _ _ hj2]
     exact h.2 _ (hfs.map▸k_.2 ⟨_,yc hj2,rfl⟩)⟩
    cases this
   refine J3 ?_;refine JL Nt ?_;refine J4 ?_;exact mR [2,3] H rfl rfl qL
  have hall:0<fs.length∧∀j,j<fs.length→Bh (rs.getD j AB.AC).f:=by
   have hok2:ok=true:=by cases ok<;>simp_all
   have h1:=hokk.1 hok2;refine⟨h1.1,fun j hj=>h1.2 j ?_⟩
   first
   |omega
   |(exfalso;simp_all)
  clear hno hokk;refine By ?_;refine JL MX ?_;refine J3 ?_
  refine oV ?_
  rintro⟨i,q,qb,qo,qc,qs⟩ ⟨hi,hqs,hqc⟩;dsimp only at hi hqs hqc⊢;have hql:=YR fs i;refine J9 ?_;refine mC (fun hlt=>?_) (fun hlt=>?_)
  ·skip
   have hmem:(rs.getD i AB.AC)∈rs:=by rw [H2 _ _ _ Cg];exact Ty
   have hri:(rs.getD i AB.AC).f=fs[i]:=by
    have:=hfs.map;subst this
    rw [H2 _ _ _ Cg,i_]
   have hrr:=hfs.MG _ hmem;refine J8 ?_;refine JL SD ?_;refine JL RX ?_;refine aM ?_;rintro _ _ ⟨p38,b38,o38,c38,s38,rfl,hs38,hc38,rfl⟩;rw [hri,Wl fs i hlt]at hs38 hc38⊢;refine KG ?_;refine At (i+1,p38,b38,o38,c38,s38) ⟨Cg,hs38,hc38⟩ Lq CS rfl
  refine J9 ?_;refine CZ ?_
  exact mR [2,3] (AD qb qo (BN (fs.take i)) qs*H) rfl rfl (by
    obtain rfl:i=fs.length:=by omega
    rw [r_]at hqs hqc⊢
    have hgood:fs≠ []∧∀f∈fs,Bh f:=⟨c_.1 hall.1,fun f hf=>by
     have hm2:=hfs.map
     subst hm2
     obtain⟨r,hr,rfl⟩:=k_.1 hf
     obtain⟨j,hj,rfl⟩:=o_ hr
     have:=hall.2 j Cg
     rwa [H2 _ _ _ hj]at this⟩
    rw [EV,if_pos hgood]
    exact Ve)
 have hlt:=hg1;refine Ie ?_;refine Iq ?_;refine JJ ?_;refine J9 ?_;refine Eb ?_;refine mc (fun hno=>?_) (fun hno=>?_)
 ·skip
  have hbad:EV fs=none:=by
   rw [EV,if_neg];intro h
   have hok2:ok=false:=by cases ok<;>simp_all
   rw [hok2]at hokk
   have:false=true:=hokk.2 ⟨c_.2 h.1,fun j hj=>by
    have hj2:j<rs.length:=by omega
    rw [H2 _ _ _ hj2]
    exact h.2 _ (hfs.map▸k_.2 ⟨_,yc hj2,rfl⟩)⟩
   cases this
  refine J3 ?_;refine JL Nt ?_;refine J4 ?_;exact mR [2,3] H rfl rfl qL
 have hall:0<fs.length∧∀j,j<fs.length→Bh (rs.getD j AB.AC).f:=by
  have hok2:ok=true:=by cases ok<;>simp_all
  have h1:=hokk.1 hok2;refine⟨h1.1,fun j hj=>h1.2 j ?_⟩
  first
  |omega
  |(exfalso;simp_all)
 clear hno hokk;refine By ?_;refine JL MX ?_;refine J3 ?_
 refine oV ?_
 rintro⟨i,q,qb,qo,qc,qs⟩ ⟨hi,hqs,hqc⟩;dsimp only at hi hqs hqc⊢;have hql:=YR fs i;refine J9 ?_;refine mC (fun hlt=>?_) (fun hlt=>?_)
 ·skip
  have hmem:(rs.getD i AB.AC)∈rs:=by rw [H2 _ _ _ Cg];exact Ty
  have hri:(rs.getD i AB.AC).f=fs[i]:=by
   have:=hfs.map;subst this
   rw [H2 _ _ _ Cg,i_]
  have hrr:=hfs.MG _ hmem;refine J8 ?_;refine JL SD ?_;refine JL RX ?_;refine aM ?_;rintro _ _ ⟨p38,b38,o38,c38,s38,rfl,hs38,hc38,rfl⟩;rw [hri,Wl fs i hlt]at hs38 hc38⊢;refine KG ?_;refine At (i+1,p38,b38,o38,c38,s38) ⟨Cg,hs38,hc38⟩ Lq CS rfl
 refine J9 ?_;refine CZ ?_
 exact mR [2,3] (AD qb qo (BN (fs.take i)) qs*H) rfl rfl (by
   obtain rfl:i=fs.length:=by omega
   rw [r_]at hqs hqc⊢
   have hgood:fs≠ []∧∀f∈fs,Bh f:=⟨c_.1 hall.1,fun f hf=>by
    have hm2:=hfs.map
    subst hm2
    obtain⟨r,hr,rfl⟩:=k_.1 hf
    obtain⟨j,hj,rfl⟩:=o_ hr
    have:=hall.2 j Cg
    rwa [H2 _ _ _ hj]at this⟩
   rw [EV,if_pos hgood]
   exact Ve)
end
end Go.Proofs.YtgfdlpcdjklcoaaGreatDoor
