/- A part of this proof: steps of the program, plain facts; no condition. -/
import Derived.Test.YtgfdlpcdjklcoaaGreatDoorP11
namespace Go.Proofs.YtgfdlpcdjklcoaaGreatDoor
open Go Go.RowKit
open _root_.List renaming replicate→a_,getD_eq_getElem?_getD→c_,getElem?_eq_getElem→e_,mem_singleton→g_,append_assoc→g',length_set→i_,append_nil→j_,set_eq_take_append_cons_drop→j',mem_append→m_,drop_eq_getElem_cons→n_,getElem_mem→o_,length_replicate→s_,mem_of_mem_take→t_,replicate_succ'→u_,map_congr_left→v_,length_append→w_,map_set→xr,getElem?_map→xt,cons_append→xu,mem_reverse→xw,drop_length→xx,length_cons→xy,mem_filter→xz,map_id→x_
open _root_.Int renaming toNat_natCast→b_
open _root_.UInt64 renaming ofNat→d_
open _root_.Nat renaming le_of_not_lt→f_,le_of_lt→k_,zero_le→l_,max_eq_right→p_,min_eq_right→q_,max_eq_left→q',min_eq_left→r_
open _root_.Go.Value renaming bool→h_
set_option linter.unusedVariables false
set_option linter.unusedSimpArgs false
set_option maxRecDepth 20000
theorem fS{s:AK}{fs:List AZ}(hne:fs≠ [])(hf:∀f∈fs,Bh f∧EF f=f∧f.ranges.length≤8)(hl:(BN fs).length+16≤s.AY)(hm:s.AY≤300)(hn:s.next<4000000000):
  s.opened (DK s.ks (BM s.first) (d_ s.next) (BN fs))=(some fs,{s with next:=s.next+1}):=by
 have hnn:(d_ s.next).toNat=s.next:=by rw [UInt64.toNat_ofNat'];omega
 have h1:=U? s.ks (BM s.first) (d_ s.next) (BN fs) (by rw [hnn];omega) Cg
 have he:EV fs=some (BN fs):=by unfold EV;rw [if_pos ⟨hne,fun f hf'=>(hf f hf').1⟩]
 have h2:=(y9 he (fun f hf'=>by have:=(hf f hf').2.2;omega)).1
 have h3:fs.map EF=fs:=by
  conv=>rhs;rw [←x_ fs]
  exact v_ fun f hf'=>(hf f hf').2.1
 rw [h3]at h2;unfold AK.opened;rw [h1];dsimp only;rw [if_neg (by rw [Qb,hnn];omega),h2];dsimp only;rw [if_pos he]
theorem qu{c:AL}{s:AK}{t:Nat}(hc:Ak t c)(ht:t<100000000)(h:HZ c s):(s.CT c.CT.1).1=true∧HZ c.CT.2 (s.CT c.CT.1).2:=by
 unfold AK.CT AL.CT;rw [h.said];by_cases hs:c.said=true
 ·rw [if_pos hs,if_pos hs];exact Ep
 rw [if_neg hs,if_neg hs];rw [if_neg Cl]
 have e:(([DK c.ks (BM c.first) (d_ c.next) (Aj (CY c.code))]:List (List UInt8)).getD 0 [])=DK ({s with said:=true}:AK).ks (BM ({s with said:=true}:AK).first) (d_ ({s with said:=true}:AK).next) (BN [CY c.code]):=by
  show DK c.ks (BM c.first) (d_ c.next) (Aj (CY c.code))=DK s.ks (BM s.first) (d_ s.next) (BN [CY c.code]);rw [L3,h.ks,h.first,h.next]
 have hlen:(BN [CY c.code]).length≤30:=by
  have v:=B8 c.code;have v0:=B8 0;rw [L3]
  have:(Aj (CY c.code)).length≤1+(AQ c.code).length+(AQ 0).length+(AQ 0).length:=by
   show(Aj (CY c.code)).length≤_;simp [Aj,CY];omega
  omega
 have hm1:=hc.m1;have hm2:=hc.m2;have hnx:=hc.nx;have hmt:=h.AY;have hnt:=h.next;rw [e,fS Cl (fun f hf=>by rw [g_.1 hf];exact⟨ZK hc.code,rfl,l_ _⟩) (by show _≤s.AY;omega) (by show s.AY≤300;omega) (by show s.next<_;omega)];dsimp only;refine⟨?_,h.AY,h.AG,h.ks,h.first,h.closed,h.code,rfl,by show s.next+1=c.next+1;rw [h.next]⟩;rw [decide_eq_true_eq];exact⟨rfl,rfl,by show c.code=s.code;rw [h.code]⟩
theorem fZ:∀(l:List AZ) (s:AK) (f:AZ),(s.Cf l).1=true→s.Cf (l++[f])=(s.Cf l).2.may f
 |[],s,f,h=>by
  show(if(s.may f).1=true then(true,(s.may f).2)else(false,(s.may f).2))=s.may f
  rcases hm:s.may f with⟨b,s2⟩
  cases b<;>rfl
 |g::l,s,f,h=>by
  rw [xu,AK.Cf];rw [AK.Cf]at h;by_cases hg:(s.may g).1=true
  ·rw [if_pos hg]at h⊢;rw [fZ l _ f h,AK.Cf,if_pos hg]
  ·rw [if_neg hg]at h;cases h
theorem pB:∀(l:List (List UInt8)) (s:AK) (b:List UInt8),(s.Df l).1=true→s.Df (l++[b])=(s.Df l).2.emit b
 |[],s,f,h=>by
  show(if(s.emit f).1=true then(true,(s.emit f).2)else(false,(s.emit f).2))=s.emit f
  rcases hm:s.emit f with⟨b,s2⟩
  cases b<;>rfl
 |g::l,s,f,h=>by
  rw [xu,AK.Df];rw [AK.Df]at h;by_cases hg:(s.emit g).1=true
  ·rw [if_pos hg]at h⊢;rw [pB l _ f h,AK.Df,if_pos hg]
  ·rw [if_neg hg]at h;cases h
theorem pd(b:List UInt8)(k lo hi:Nat)(fin:Bool):(B7 k lo fin (cut b lo hi)).data.data.toList=cut b lo hi:=by simp [B7,BI]
theorem qt{AG:Nat}{ws:List Ai}{s:AK}{k:Nat}{w':Ai}{f:AZ}(hw:Du AG ws)(ho:s.outs.length=4)(hk:k<4)(hp:Lv (ws.getD k BD) w' k f)
  (hr:∀j,j<4→Hp (ws.getD j BD) (s.o j)):∃outs,s.may f=(true,{s with outs:=outs})∧outs.length=4∧∀j,j<4→Hp ((ws.set k w').getD j BD) (outs.getD j B'):=by
 have g:=hr k hk
 have hset:∀(o':CA),Hp w' o'→∀j,j<4→Hp ((ws.set k w').getD j BD) ((s.outs.set k o').getD j B'):=by
  intro o' ho' j hj;rw [Ed,Ed];by_cases e:k=j
  ·subst e;rw [if_pos ⟨rfl,Th⟩,if_pos ⟨rfl,by rw [ho];exact hk⟩];exact ho'
  ·rw [if_neg (fun h=>e h.1),if_neg (fun h=>e h.1)];exact hr j hj
 rcases hp with⟨h1,h2,rfl,rfl⟩|⟨h1,lo,hi,h2,h3,rfl,h4,h5,h6,rfl⟩
 ·refine⟨s.outs,?_,ho,?_⟩
  ·have hkk:((Hd k (ws.getD k BD).code (ws.getD k BD).high).stream).toNat=k:=by show((k:Int)).toNat=k;rw [b_]
   unfold AK.may;rw [if_neg (by show ¬(4:Int)=3;decide),if_pos (by show(4:Int)=4;rfl),hkk]
   rw [show(decide ((s.o k).given=true∧(Hd k (ws.getD k BD).code (ws.getD k BD).high).offset=(s.o k).end_∧(Hd k (ws.getD k BD).code (ws.getD k BD).high).code=(s.o k).code))=true from
    decide_eq_true ⟨by rw [g.given];exact h1,by rw [g.en h1];rfl,by rw [g.code];rfl⟩]
  ·have:s.outs=s.outs.set k (s.o k):=by
    apply List.ext_getElem?;intro i;rw [List.getElem?_set];by_cases e:k=i
    ·subst e;rw [if_pos rfl,if_pos Cg];show _=some (s.outs.getD k B');simp only [c_];rw [e_ Cg];rfl
    ·rw [if_neg e]
   rw [this];exact hset _ ⟨g.b,g.fin,g.given,g.code,g.high,g.en,g.AF⟩
 ·have hcl:=OX (lo:=lo) h3
  have hkk:((B7 k lo ((ws.getD k BD).finished&&decide (hi=(ws.getD k BD).b.length)) (cut (ws.getD k BD).b lo hi)).stream).toNat=k:=by show((k:Int)).toNat=k;rw [b_]
  have hsz:(B7 k lo ((ws.getD k BD).finished&&decide (hi=(ws.getD k BD).b.length)) (cut (ws.getD k BD).b lo hi)).data.size=hi-lo:=by rw [N7,hcl]
  have hof:(B7 k lo ((ws.getD k BD).finished&&decide (hi=(ws.getD k BD).b.length)) (cut (ws.getD k BD).b lo hi)).offset=lo:=rfl;have hfi:(B7 k lo ((ws.getD k BD).finished&&decide (hi=(ws.getD k BD).b.length)) (cut (ws.getD k BD).b lo hi)).fin=((ws.getD k BD).finished&&decide (hi=(ws.getD k BD).b.length)):=rfl;rw [hfi]at h4
  have hend:lo+(hi-lo)=hi:=by omega
  have hob:(s.o k).data=(ws.getD k BD).b:=g.b;refine⟨s.outs.set k {s.o k with high:=max (s.o k).high hi},?_,by rw [i_];exact ho,hset _ ⟨g.b,g.fin,g.given,g.code,by show max (s.o k).high hi=max _ hi;rw [g.high],(fun hx=>by rw [h1]at hx;cases hx),g.AF⟩⟩;unfold AK.may;rw [if_neg (by show ¬(5:Int)=3;decide),if_neg (by show ¬(5:Int)=4;decide),if_pos (by show(5:Int)=5;rfl)];unfold AK.sends;dsimp only;rw [hkk,hof,hsz,hend,pd,hfi,g.given,h1,g.fin,hob];rw [if_neg,if_neg]
  ·rfl
  ·rintro(h7|h7)
   ·exact h7 rfl
   ·rcases h4 with h4|h4
    ·omega
    ·rw [h7.2]at h4;cases h4
  ·rintro(h7|h7|h7)
   ·cases h7
   ·omega
   ·exact h7 rfl
structure Ht(z:Be)(s:AK):Prop where
 base:HZ z.c s
 GG:Open z.c s
 told:∀r∈z.told,r∈z.c.AO.l
 due:∀n∈s.due,n<z.c.AO.floor∨A3 n z.told
 closed:z.c.closed=0
 outs:s.outs.length=4
 Ao:DQ s.Ao.l
theorem tr{n:Nat}{l:List AP}(k:Nat)(h:A3 n l):A3 n (l.take k)∨A3 n (l.drop k):=by
 obtain⟨r,hr,h2⟩:=h;rw [←List.take_append_drop k l]at hr;rcases m_.1 hr with hr|hr
 ·exact .inl ⟨r,hr,h2⟩
 ·exact .inr ⟨r,hr,h2⟩
theorem w6{n:Nat}{l:List AP}(h:A3 n l):A8 l n=true:=by
 obtain⟨r,hr,h2⟩:=h;unfold A8;rw [List.any_eq_true];exact⟨r,hr,M0⟩
structure Pc(AG:Nat)(s1 s2:AK)(ws:List Ai)(d:Bn):Prop where
 ok:Du AG ws
 out:∃outs,s1.Cf d.Aq=(true,{s2 with outs:=outs})∧outs.length=4∧∀j,j<4→Hp (ws.getD j BD) (outs.getD j B')
theorem Pc.fill{AG:Nat}{s1 s2:AK}{ws:List Ai}{d:Bn}(h:Pc AG s1 s2 ws d):Pc AG s1 s2 (En d ws 0 4).1 (En d ws 0 4).2:=by
 refine Xx (fun ws d=>Pc AG s1 s2 ws d) (fun ws d h=>h.ok.len) ?_ 4 0 ws d D3 h;intro ws d k w' d' hm hk e;obtain⟨f,e1,hp⟩:=rI (hm.ok.ok k hk) e;obtain⟨outs,m1,m2,m3⟩:=hm.out;obtain⟨a,b,c,_⟩:=iC e1;obtain⟨outs',n1,n2,n3⟩:=qt (s:={s2 with outs:=outs}) hm.ok m2 hk hp m3;refine⟨hm.ok.set (hp.AJ (hm.ok.ok k hk)).2,outs',?_,n2,n3⟩;rw [a,fZ _ _ _ (by rw [m1]),m1];exact n1
theorem wF{z:Be}{s:AK}(h:Ht z s)(ht:Told z.told)(m:Nat):
  ({s with next:=s.next+1}:AK).may (Eh (z.told.take m))=(true,{s with next:=s.next+1,due:=s.due.filter (fun n=> !(decide (n<s.AO.floor)||A8 (z.told.take m) n))}):=by
 unfold AK.may;rw [if_pos (by show(3:Int)=3;rfl)];unfold AK.HC;rw [if_pos]
 ·rfl
 ·intro r hr;have hr':r∈z.told.take m:=hr;have h1:=h.told r (t_ hr');have h2:=(ht.r r (t_ hr')).1;exact j8 h.Ao h2 fun n h3 h4=>h.GG.Ao n ⟨r,h1,h3,h4⟩
theorem Ht.Aq{t:Nat}{z:Be}{s:AK}(hz:Dz t z)(h:Ht z s):
  ∃outs due,({s with next:=s.next+1}:AK).Cf z.filled.2.Aq=(true,{s with next:=s.next+1,outs:=outs,due:=due})∧outs.length=4∧
   (∀j,j<4→Hp (z.filled.1.getD j BD) (outs.getD j B'))∧(∀n∈due,n<z.c.AO.floor∨A3 n z.IX)∧(∀n∈due,n∈s.due):=by
 have hw0:∀j,j<4→Hp (z.c.ws.getD j BD) (s.outs.getD j B'):=h.GG.ws
 have key:∃due,Pc z.c.AG {s with next:=s.next+1} {s with next:=s.next+1,due:=due} z.c.ws (z.c.El z.told)∧(∀n∈due,n<z.c.AO.floor∨A3 n z.IX)∧(∀n∈due,n∈s.due):=by
  by_cases ht:z.told=[]
  ·refine⟨s.due,⟨hz.c.ws,s.outs,?_,h.outs,hw0⟩,fun n hn=>?_,fun n hn=>hn⟩
   ·rw [ht,eP];rfl
   ·have:=h.due n hn
    unfold Be.IX;rw [ht]at this⊢;simpa using this
  ·refine⟨s.due.filter (fun n=> !(decide (n<s.AO.floor)||A8 (z.told.take (E2 z.told (z.c.AY-16) z.told.length)) n)),⟨hz.c.ws,s.outs,?_,h.outs,hw0⟩,fun n hn=>?_,fun n hn=>(xz.1 hn).1⟩
   ·rw [gC _ ht];rw [AK.Cf,wF h hz.told _];rfl
   ·obtain⟨h1,h2⟩:=xz.1 hn;simp only [Bool.not_eq_true',Bool.or_eq_false_iff,decide_eq_false_iff_not]at h2;rw [h.GG.AO]at h2;rcases h.due n h1 with h3|h3
    ·exact absurd h3 h2.1
    ·rcases tr (E2 z.told (z.c.AY-16) z.told.length) h3 with h4|h4
     ·rw [w6 h4]at h2;cases h2.2
     ·exact .inr h4
 obtain⟨due,hm,k1,k2⟩:=key;unfold Be.filled;split
 ·obtain⟨_,outs,a,b,c⟩:=hm.fill;exact⟨outs,due,a,b,c,k1,k2⟩
 ·obtain⟨_,outs,a,b,c⟩:=hm;exact⟨outs,due,a,b,c,k1,k2⟩
theorem ij{fs:List AZ}(h:D2 fs=false)(k n:Nat):¬Ic fs k n:=by
 rintro⟨f,hf,h5,_⟩;unfold D2 at h;rw [List.any_eq_false]at h
 have:=h f hf
 rw [h5]at this;exact this Ci
theorem Ht.step{t:Nat}{z:Be}{s:AK}(hz:Dz t z)(ht:t<100000000)(h:Ht z s)(hne:z.filled.2.Aq≠ []):
  ∃s',s.emit (DK z.c.ks (BM z.c.first) (d_ z.c.next) z.filled.2.b)=(true,s')∧Ht z.step s':=by
 obtain⟨outs,due,m1,m2,m3,m4,m5⟩:=h.Aq hz;have hf:=hz.filled;have hm1:=hz.c.m1;have hm2:=hz.c.m2;have hmt:=h.base.AY;have hnt:=h.base.next;have hnx:=hz.c.nx;have hdl:=hf.KI.len;have FF:z.filled.2.room=z.c.AY-16:=hf.room.trans rfl
 have hop:s.opened (DK z.c.ks (BM z.c.first) (d_ z.c.next) z.filled.2.b)=(some z.filled.2.Aq,{s with next:=s.next+1}):=by
  rw [←h.base.ks,←h.base.first,←h.base.next];refine fS hne (fun f hf'=>let g:=hf.KI.fr f hf';⟨g.ok,g.nm,g.rg⟩) ?_ Cg Cg
  have:(BN z.filled.2.Aq).length=z.filled.2.b.length:=rfl
  omega
 refine⟨{s with next:=s.next+1,outs:=outs,due:=due,AJ:=s.AJ++[⟨s.next,z.filled.2.Aq⟩]},?_,?_⟩
 ·unfold AK.emit;rw [hop];dsimp only;rw [m1];rfl
 ·have hb:=h.base;have ho:=h.GG;have hfl:z.step.c.BY=if D2 z.filled.2.Aq then z.c.BY++[⟨z.c.next,z.c.now,z.filled.2.Aq⟩]else z.c.BY:=rfl;refine⟨⟨hb.AY,hb.AG,hb.ks,hb.first,hb.closed,hb.code,hb.said,by show s.next+1=z.c.next+1;rw [hb.next]⟩,⟨ho.AO,ho.Ao,m3,ho.rs,fun p hp=>?_,fun q hq=>?_⟩,fun r hr=>h.told r (List.mem_of_mem_drop hr),m4,h.closed,m2,h.Ao⟩
  ·show _∈s.AJ++[_];rw [hfl]at hp;have hp':p∈(if D2 z.filled.2.Aq=true then z.c.BY++[⟨z.c.next,z.c.now,z.filled.2.Aq⟩]else z.c.BY)∨p∈z.c.lost:=hp;rw [m_];split at hp'
   ·rcases hp' with hp'|hp'
    ·rcases m_.1 hp' with hp'|hp'
     ·exact .inl (ho.f1 p (.inl hp'))
     ·rw [g_.1 hp'];right;rw [g_];show(⟨z.c.next,z.filled.2.Aq⟩:Kn)=⟨s.next,_⟩;rw [hb.next]
    ·exact .inl (ho.f1 p (.inr hp'))
   ·exact .inl (ho.f1 p hp')
  ·have hq':q∈s.AJ++[⟨s.next,z.filled.2.Aq⟩]:=hq
   have hold:∀p,(p∈z.c.BY∨p∈z.c.lost)→(p∈z.step.c.BY∨p∈z.step.c.lost):=by
    intro p hp;rw [hfl];rcases hp with hp|hp
    ·left;split
     ·exact List.mem_append_left _ hp
     ·exact hp
    ·exact .inr hp
   have hcame:∀k,(z.step.c.w k).AF=(z.c.w k).AF:=fun k=>(hf.AJ k).AF;rcases m_.1 hq' with hq'|hq'
   ·rcases ho.f2 q hq' with⟨p,hp,g⟩|g
    ·exact .inl ⟨p,hold p hp,g⟩
    ·exact .inr fun k n hk hn=>by rw [hcame];exact g k n hk hn
   ·rw [g_.1 hq'];by_cases hw:D2 z.filled.2.Aq=true
    ·refine .inl ⟨⟨z.c.next,z.c.now,z.filled.2.Aq⟩,.inl ?_,by show z.c.next=s.next;rw [hb.next],rfl⟩;rw [hfl,if_pos hw];exact List.mem_append_right _ (g_.2 rfl)
    ·exact .inr fun k n _ hn=>absurd hn (ij (by simpa using hw) k n)
theorem Ht.stop{t:Nat}{z:Be}{s:AK}(hz:Dz t z)(h:Ht z s)(e:z.filled.2.Aq=[]):
  z.told=[]∧HZ {z.c with ws:=z.filled.1} s∧Open {z.c with ws:=z.filled.1} s:=by
 obtain⟨outs,due,m1,m2,m3,m4,m5⟩:=h.Aq hz;have hf:=hz.filled;have hb:=h.base;have ho:=h.GG;refine⟨?_,⟨hb.AY,hb.AG,hb.ks,hb.first,hb.closed,hb.code,hb.said,hb.next⟩,⟨ho.AO,ho.Ao,?_,ho.rs,ho.f1,fun q hq=>?_⟩⟩
 ·by_cases ht:z.told=[]
  ·exact ht
  ·obtain⟨l,e1,_⟩:=hf.Aq;rw [e,gC _ ht]at e1;cases e1
 ·rw [e]at m1
  have:outs=s.outs:=by
   have:=congrArg (fun z:Bool×AK=>z.2.outs) m1
   exact this.symm
  intro k hk
  have:=m3 k hk
  rw [‹outs=s.outs›]at this;exact this
 ·rcases ho.f2 q hq with g|g
  ·exact .inl g
  ·refine .inr fun k n hk hn=>?_;show A3 n ((z.filled.1.getD k BD)).AF.l;rw [(hf.AJ k).AF];exact g k n hk hn
theorem Ht.DW{t:Nat}(ht:t<100000000):∀(n:Nat) (z:Be) (s0:AK),z.mu<n→Dz t z→(s0.Df z.out).1=true→Ht z (s0.Df z.out).2→
  (s0.Df (Go.Proofs.YtgfdlpcdjklcoaaGreatDoor.DW n z).out).1=true∧(∀m∈(s0.Df (Go.Proofs.YtgfdlpcdjklcoaaGreatDoor.DW n z).out).2.due,m<(Go.Proofs.YtgfdlpcdjklcoaaGreatDoor.DW n z).c.AO.floor)∧
  HZ (Go.Proofs.YtgfdlpcdjklcoaaGreatDoor.DW n z).c (s0.Df (Go.Proofs.YtgfdlpcdjklcoaaGreatDoor.DW n z).out).2∧Open (Go.Proofs.YtgfdlpcdjklcoaaGreatDoor.DW n z).c (s0.Df (Go.Proofs.YtgfdlpcdjklcoaaGreatDoor.DW n z).out).2∧(Go.Proofs.YtgfdlpcdjklcoaaGreatDoor.DW n z).c.closed=0
 |0,z,s0,hn,hz,he,h=>absurd hn (Nat.not_lt_zero _)
 |n+1,z,s0,hn,hz,he,h=>by
  rw [Go.Proofs.YtgfdlpcdjklcoaaGreatDoor.DW];by_cases hne:z.filled.2.Aq=[]
  ·rw [if_pos hne];obtain⟨a,b,c⟩:=h.stop hz hne;refine⟨he,fun m hm=>?_,b,c,h.closed⟩;rcases h.due m hm with g|g
   ·exact g
   ·rw [a]at g;exact absurd g (Qe _)
  ·rw [if_neg hne];obtain⟨h1,h2⟩:=hz.step hne;obtain⟨s',e1,e2⟩:=h.step hz ht hne;have hout:z.step.out=z.out++[DK z.c.ks (BM z.c.first) (d_ z.c.next) z.filled.2.b]:=rfl
   have he2:s0.Df z.step.out=(true,s'):=by rw [hout,pB _ _ _ he];exact e1
   exact Ht.DW ht n z.step s0 Cg h1 (by rw [he2]) (by rw [he2];exact e2)
theorem jh{c:AL}{s:AK}{t t':Nat}(hc:Ak t c)(hs:Ag t' s)(ht:t<90000000)(h:Rel c s):(s.E3 c.BE.1).1=true∧Rel c.BE.2 (s.E3 c.BE.1).2:=by
 unfold AK.E3 AL.BE;rw [h.base.closed];by_cases h0:c.closed≠0
 ·rw [if_pos h0,if_pos h0];obtain⟨a,b⟩:=qu hc Cg h.base
  have hcl:c.CT.2.closed=c.closed:=by unfold AL.CT;split<;>rfl
  exact⟨a,b,fun e=>absurd (hcl.symm.trans e) h0,fun e=>absurd (hcl.symm.trans e) h0⟩
 rw [if_neg h0,if_neg h0]
 have h0:c.closed=0:=by omega
 have hz:=Dz.begin hc;have ho:=h.GG h0;have hb:=h.base;have hd:=h.due h0
 have hp:Ht ⟨{c with answer:=false},if c.answer then c.AO.l.reverse else [],[]⟩ s:=by
  refine⟨⟨hb.AY,hb.AG,hb.ks,hb.first,hb.closed,hb.code,hb.said,hb.next⟩,⟨ho.AO,ho.Ao,ho.ws,ho.rs,ho.f1,ho.f2⟩,fun r hr=>?_,fun n hn=>?_,h0,hs.outs.len,hs.Ao.inc⟩
  ·have hr':r∈(if c.answer=true then c.AO.l.reverse else []):=hr;split at hr'
   ·exact xw.1 hr'
   ·cases hr'
  ·obtain⟨d1,d2⟩:=hd n hn;rcases d2 with d2|⟨r,d2,d3⟩
   ·exact .inl d2
   ·refine .inr ⟨r,?_,d3⟩;show r∈(if c.answer=true then c.AO.l.reverse else []);rw [if_pos d1];exact xw.2 d2
 have hmu:(⟨{c with answer:=false},if c.answer then c.AO.l.reverse else [],[]⟩:Be).mu<40:=by have:=hz.tl;unfold Be.mu;omega
 obtain⟨a1,a2,a3,a4,a5⟩:=Ht.DW Cg 40 _ s hmu hz rfl hp;dsimp only;rw [if_pos a1,if_neg]
 ·exact⟨rfl,⟨a3.AY,a3.AG,a3.ks,a3.first,a3.closed,a3.code,a3.said,a3.next⟩,fun _=>⟨a4.AO,a4.Ao,a4.ws,a4.rs,a4.f1,a4.f2⟩,fun _ n hn=>nomatch hn⟩
 ·rintro⟨n,hn,h2⟩;have h3:=a2 n hn;rw [a4.AO]at h2;omega
def AK.asks(s:AK)(q:FN):Bd×AK:=
 if q.kind=1 then(⟨(s.write q.stream q.data.data.toList).1.2,-1,(s.write q.stream q.data.data.toList).1.1,0,⟨#[]⟩,[]⟩,(s.write q.stream q.data.data.toList).2)
 else if q.kind=2 then(⟨(s.finish q.stream).1,-1,0,0,⟨#[]⟩,[]⟩,(s.finish q.stream).2)
 else if q.kind=3 then(⟨(s.giveUp q.stream q.code).1,-1,0,0,⟨#[]⟩,[]⟩,(s.giveUp q.stream q.code).2)
 else if q.kind=6 then(⟨(s.BB q.data.data.toList).1.1,(s.BB q.data.data.toList).1.2,0,0,⟨#[]⟩,[]⟩,(s.BB q.data.data.toList).2)
 else if q.kind=7 then(⟨(s.read q.stream q.AN).1.2.2.2,-1,(s.read q.stream q.AN).1.2.1,(s.read q.stream q.AN).1.2.2.1,BI (s.read q.stream q.AN).1.1,[]⟩,(s.read q.stream q.AN).2)
 else if q.kind=8 then(⟨(s.close q.code).1,-1,0,0,⟨#[]⟩,[]⟩,(s.close q.code).2)
 else if q.kind=9 then(⟨(s.AF q.stream).2,-1,(s.AF q.stream).1,0,⟨#[]⟩,[]⟩,s)
 else(⟨0,-1,0,0,⟨#[]⟩,[]⟩,s)
def AK.Av(s:AK)(q:FN)(l:List (List UInt8)):AK:=if q.kind=5 then(s.E3 l).2 else(s.asks q).2
theorem ec{c:AL}{s:AK}{t:Nat}(hc:Ak t c)(hs:Ag t s)(ht:t<90000000)(h:Rel c s)(q:FN):
  (s.asks q).1.e=(c.Av q).1.e∧(s.asks q).1.at_=(c.Av q).1.at_∧(s.asks q).1.n=(c.Av q).1.n∧(s.asks q).1.code=(c.Av q).1.code∧(s.asks q).1.data=(c.Av q).1.data∧
  (q.kind≠5→(c.Av q).1.BE=[]∧Rel (c.Av q).2 (s.asks q).2)∧
  (q.kind=5→(s.asks q).2=s∧(s.E3 ((c.Av q).1.BE.map (fun b=>b.data.toList))).1=true∧Rel (c.Av q).2 (s.E3 ((c.Av q).1.BE.map (fun b=>b.data.toList))).2):=by
 unfold AK.asks AL.Av;by_cases h1:q.kind=1
 ·rw [if_pos h1,if_pos h1];obtain⟨a,b⟩:=wW hc hs h q.stream q.data.data.toList;rw [a];exact⟨rfl,rfl,rfl,rfl,rfl,fun _=>NU,fun e=>absurd (h1.symm.trans e) Ci⟩
 rw [if_neg h1,if_neg h1];by_cases h2:q.kind=2
 ·rw [if_pos h2,if_pos h2];obtain⟨a,b⟩:=ig hc hs h q.stream;rw [a];exact⟨rfl,rfl,rfl,rfl,rfl,fun _=>NU,fun e=>absurd (h2.symm.trans e) Ci⟩
 rw [if_neg h2,if_neg h2];by_cases h3:q.kind=3
 ·rw [if_pos h3,if_pos h3];obtain⟨a,b⟩:=zU hc hs h q.stream q.code;rw [a];exact⟨rfl,rfl,rfl,rfl,rfl,fun _=>NU,fun e=>absurd (h3.symm.trans e) Ci⟩
 rw [if_neg h3,if_neg h3];by_cases h4:q.kind=4
 ·rw [if_pos h4,if_neg Cg,if_neg Cg,if_neg Cg,if_neg Cg];exact⟨rfl,rfl,rfl,rfl,rfl,fun _=>⟨rfl,x9 hc h⟩,fun e=>absurd (h4.symm.trans e) Ci⟩
 rw [if_neg h4];by_cases h5:q.kind=5
 ·rw [if_pos h5,if_neg Cg,if_neg Cg,if_neg Cg,if_neg Cg];obtain⟨a,b⟩:=jh hc hs ht h
  have e:(c.BE.1.map BI).map (fun b=>b.data.toList)=c.BE.1:=by
   rw [List.map_map]
   conv=>rhs;rw [←x_ c.BE.1]
   exact v_ fun x _=>by simp [BI]
  refine⟨rfl,rfl,rfl,rfl,rfl,fun e=>absurd h5 e,fun _=>⟨rfl,?_⟩⟩;dsimp only;rw [e];exact⟨a,b⟩
 rw [if_neg h5];by_cases h6:q.kind=6
 ·rw [if_pos h6,if_pos h6];obtain⟨a,b⟩:=N! hc hs Cg h q.data.data.toList;rw [a];exact⟨rfl,rfl,rfl,rfl,rfl,fun _=>NU,fun e=>absurd (h6.symm.trans e) Ci⟩
 rw [if_neg h6,if_neg h6];by_cases h7:q.kind=7
 ·rw [if_pos h7,if_pos h7];obtain⟨a,b⟩:=Y_ hc hs h q.stream q.AN;rw [a];exact⟨rfl,rfl,rfl,rfl,rfl,fun _=>NU,fun e=>absurd (h7.symm.trans e) Ci⟩
 rw [if_neg h7,if_neg h7];by_cases h8:q.kind=8
 ·rw [if_pos h8,if_pos h8];obtain⟨a,b⟩:=wH h q.code;rw [a];exact⟨rfl,rfl,rfl,rfl,rfl,fun _=>NU,fun e=>absurd (h8.symm.trans e) Ci⟩
 rw [if_neg h8,if_neg h8];by_cases h9:q.kind=9
 ·rw [if_pos h9,if_pos h9];rw [nv hc hs h q.stream];exact⟨rfl,rfl,rfl,rfl,rfl,fun _=>Ep,fun e=>absurd (h9.symm.trans e) Ci⟩
 rw [if_neg h9,if_neg h9];exact⟨rfl,rfl,rfl,rfl,rfl,fun _=>Ep,fun e=>absurd e h5⟩
theorem Ag.asks{t:Nat}{s:AK}(h:Ag t s)(ht:t<1000000000)(q:FN):Ag (t+1) (s.asks q).2:=by
 unfold AK.asks;split
 ·exact(h.write _ _).mono De
 split
 ·exact(h.finish _).mono De
 split
 ·exact(h.giveUp _ _).mono De
 split
 ·exact h.BB ht _
 split
 ·exact h.read _ _
 split
 ·exact(h.close _).mono De
 split
 ·exact h.mono De
 ·exact h.mono De
section
structure DF where
 q:Nat
 o:CA
 cq:Nat
 ca:B9
@[reducible] def F5z(m:DF):List Value:=[.string (BI m.o.data),ptr m.cq 0,.bool m.o.finished,.bool m.o.given,uN m.o.code,uN m.o.end_,uN m.o.high]
@[reducible] instance layOut:AB DF:=⟨1,fun m=>[ptr m.q 0],⟨0,B',0,Bi⟩,fun _=>rfl,fun _ v h=>by simp at h;rcases h with rfl;rfl⟩
def BJ(m:DF):HP:=HP.AA m.q 0 (F5z m)*AH m.cq m.ca m.o.AF
def DF.ok(m:DF):Prop:=m.ca.ok m.o.AF
@[reducible] instance layBool:AB Bool:=⟨1,fun b=>[.bool b],false,fun _=>rfl,fun _ v h=>by simp at h;rcases h with rfl;rfl⟩
structure D6 where
 q:Nat
 x:DI
 a:Ae
 b:Ae
@[reducible] def Hx(m:D6):List Value:=[.slice m.a.p m.x.data.length m.a.c,.slice m.b.p m.x.there.length m.b.c,uN m.x.high,uN m.x.end_,.bool m.x.ended,.bool m.x.given,uN m.x.code,uN m.x.read,iN m.x.state]
@[reducible] instance layIn:AB D6:=⟨1,fun m=>[ptr m.q 0],⟨0,IF,BP,BP⟩,fun _=>rfl,fun _ v h=>by simp at h;rcases h with rfl;rfl⟩
def BC(m:D6):HP:=HP.AA m.q 0 (Hx m)*(m.a.h m.x.data*m.b.h m.x.there)
def D6.ok(m:D6):Prop:=m.a.ok m.x.data∧m.b.ok m.x.there
structure DV where
 number:Nat
 fs:List RF
 a:Ae
@[reducible] def Rj(m:DV):List Value:=[uN m.number,.slice m.a.p m.fs.length m.a.c]
@[reducible] instance laySn:AB DV:=⟨2,Rj,⟨0,[],BP⟩,fun _=>rfl,fun _ v h=>by simp at h;rcases h with rfl|rfl<;>rfl⟩
def DV.s(m:DV):Kn:=⟨m.number,m.fs.map (·.f)⟩
def B3(m:DV):HP:=m.a.h m.fs
def DV.ok(m:DV):Prop:=m.a.ok m.fs
structure SC where
 AY:Nat
 AG:Nat
 ks:List UInt8
 first:Bool
 closed:Nat
 code:Nat
 said:Bool
 next:Nat
 gq:Nat
 eq:Nat
 dv:Value
 ov:Value
 iv:Value
 sv:Value
def Mb(first:Bool):Nat:=if first then 0 else 1
def Ab(sb:Nat)(x:SC):HP:=
 HP.AA sb (0+0) [iN x.AY,iN x.AG]*(HP.AA sb (0+2) (AE x.ks)*(HP.AA sb (0+18) [iN (Mb x.first)]*(HP.AA sb (0+19) [iN x.closed]*(HP.AA sb (0+20) [uN x.code]*(HP.AA sb (0+21) [.bool x.said]*
 (HP.AA sb (0+22) [uN x.next]*(HP.AA sb (0+23) [ptr x.gq 0]*(HP.AA sb (0+24) [ptr x.eq 0]*(HP.AA sb (0+25) [x.dv]*(HP.AA sb (0+26) [x.ov]*(HP.AA sb (0+27) [x.iv]*HP.AA sb (0+28) [x.sv])))))))))))
section
variable(sb:Nat)(x:SC)
instance:Cell (Ab sb x) sb (0+0+0) (iN x.AY) True:=by unfold Ab;infer_instance
instance:Cell (Ab sb x) sb (0+0+1) (iN x.AG) True:=by unfold Ab;infer_instance
instance:Cell (Ab sb x) sb (0+18) (iN (Mb x.first)) True:=by unfold Ab;infer_instance
instance:Cell (Ab sb x) sb (0+19) (iN x.closed) True:=by unfold Ab;infer_instance
instance:Cell (Ab sb x) sb (0+20) (uN x.code) True:=by unfold Ab;infer_instance
instance:Cell (Ab sb x) sb (0+21) (.bool x.said) True:=by unfold Ab;infer_instance
instance:Cell (Ab sb x) sb (0+22) (uN x.next) True:=by unfold Ab;infer_instance
instance:Cell (Ab sb x) sb (0+23) (ptr x.gq 0) True:=by unfold Ab;infer_instance
instance:Cell (Ab sb x) sb (0+24) (ptr x.eq 0) True:=by unfold Ab;infer_instance
instance:Cell (Ab sb x) sb (0+25) x.dv True:=by unfold Ab;infer_instance
instance:Cell (Ab sb x) sb (0+26) x.ov True:=by unfold Ab;infer_instance
instance:Cell (Ab sb x) sb (0+27) x.iv True:=by unfold Ab;infer_instance
instance:Cell (Ab sb x) sb (0+28) x.sv True:=by unfold Ab;infer_instance
instance(v:Nat):C5 (Ab sb x) sb (0+19) (iN v) (Ab sb {x with closed:=v}) True:=by unfold Ab;infer_instance
instance(v:Nat):C5 (Ab sb x) sb (0+20) (uN v) (Ab sb {x with code:=v}) True:=by unfold Ab;infer_instance
instance(v:Bool):C5 (Ab sb x) sb (0+21) (.bool v) (Ab sb {x with said:=v}) True:=by unfold Ab;infer_instance
instance(v:Nat):C5 (Ab sb x) sb (0+22) (uN v) (Ab sb {x with next:=v}) True:=by unfold Ab;infer_instance
instance(v:Value):C5 (Ab sb x) sb (0+25) v (Ab sb {x with dv:=v}) True:=by unfold Ab;infer_instance
instance(v:Value):C5 (Ab sb x) sb (0+26) v (Ab sb {x with ov:=v}) True:=by unfold Ab;infer_instance
instance(v:Value):C5 (Ab sb x) sb (0+27) v (Ab sb {x with iv:=v}) True:=by unfold Ab;infer_instance
instance(v:Value):C5 (Ab sb x) sb (0+28) v (Ab sb {x with sv:=v}) True:=by unfold Ab;infer_instance
instance:C5 (Ab sb x) sb (0+18) (iN 1) (Ab sb {x with first:=false}) True:=by unfold Ab Mb;infer_instance
end
instance rowS(sb:Nat)(x:SC):Row (Ab sb x) sb (0+2) (AE x.ks) (HP.AA sb (0+0) [iN x.AY,iN x.AG]*(HP.AA sb (0+18) [iN (Mb x.first)]*(HP.AA sb (0+19) [iN x.closed]*(HP.AA sb (0+20) [uN x.code]*(HP.AA sb (0+21) [.bool x.said]*
 (HP.AA sb (0+22) [uN x.next]*(HP.AA sb (0+23) [ptr x.gq 0]*(HP.AA sb (0+24) [ptr x.eq 0]*(HP.AA sb (0+25) [x.dv]*(HP.AA sb (0+26) [x.ov]*(HP.AA sb (0+27) [x.iv]*HP.AA sb (0+28) [x.sv]))))))))))):=⟨by unfold Ab;ac_rfl⟩
structure Ad where
 x:SC
 AO:BH
 ga:B9
 Ao:BH
 ea:B9
 due:List Nat
 da:Ae
 outs:List DF
 oa:Ae
 ins:List D6
 ia:Ae
 AJ:List DV
 sa:Ae
def Ad.s(m:Ad):AK:=
 ⟨m.x.AY,m.x.AG,m.x.ks,m.x.first,m.x.closed,m.x.code,m.x.said,m.x.next,m.AO,m.Ao,m.due,m.outs.map (·.o),m.ins.map (·.x),m.AJ.map (·.s)⟩
structure Ad.ok(m:Ad):Prop where
 g:m.ga.ok m.AO
 e:m.ea.ok m.Ao
 d:m.da.ok (m.due.map Ay.mk)
 oa:m.oa.ok m.outs
 ia:m.ia.ok m.ins
 sa:m.sa.ok m.AJ
 outs:∀o∈m.outs,o.ok
 ins:∀x∈m.ins,x.ok
 AJ:∀p∈m.AJ,p.ok
 dv:m.x.dv=m.da.v m.due.length
 ov:m.x.ov=m.oa.v m.outs.length
 iv:m.x.iv=m.ia.v m.ins.length
 sv:m.x.sv=m.sa.v m.AJ.length
def AS(sb:Nat)(m:Ad):HP:=
 Ab sb m.x*(AH m.x.gq m.ga m.AO*(AH m.x.eq m.ea m.Ao*(m.da.h (m.due.map Ay.mk)*(m.oa.h m.outs*(AM BJ m.outs*(m.ia.h m.ins*(AM BC m.ins*(m.sa.h m.AJ*AM B3 m.AJ))))))))
theorem DJ(sb:Nat)(m:Ad)(R:HP):AS sb m*R=Ab sb m.x*(AH m.x.gq m.ga m.AO*(AH m.x.eq m.ea m.Ao*(m.da.h (m.due.map Ay.mk)*(m.oa.h m.outs*(AM BJ m.outs*(m.ia.h m.ins*(AM BC m.ins*(m.sa.h m.AJ*(AM B3 m.AJ*R))))))))):=by
 unfold AS;ac_rfl
theorem j3{α:Type}[AB α](l:List α)(k:Nat)(y:α)(hk:k<l.length)(h:AB.Am y=AB.Am (l.getD k AB.AC)):AE (l.set k y)=AE l:=by
 conv=>rhs;rw [←O8 l k AB.AC hk]
 rw [j',if_pos hk,j',if_pos hk,E0,E0];congr 1;show AB.Am y++AE _=AB.Am _++AE _;rw [h]
theorem lD{α:Type}[AB α](b o:Nat)(l:List α)(s:List Value)(k:Nat)(y:α)(hk:k<l.length)(h:AB.Am y=AB.Am (l.getD k AB.AC)):AD b o (l.set k y) s=AD b o l s:=by
 unfold AD;rw [j3 l k y hk h]
def Et(m:Ad)(sb:Nat):HP:=AH m.x.gq m.ga m.AO*(AH m.x.eq m.ea m.Ao*(m.da.h (m.due.map Ay.mk)*(m.ia.h m.ins*(AM BC m.ins*(m.sa.h m.AJ*AM B3 m.AJ)))))
theorem Gu(sb:Nat)(m:Ad)(R:HP):AS sb m*R=Ab sb m.x*(AD m.oa.b m.oa.o m.outs m.oa.s*(AM BJ m.outs*(Et m sb*R))):=by
 unfold AS Et Ae.h;ac_rfl
theorem J0(sb:Nat)(m:Ad)(R:HP)(j:Nat)(hj:j<m.outs.length):AS sb m*R=Ab sb m.x*(AD m.oa.b m.oa.o m.outs m.oa.s*(HP.AA (m.outs.getD j AB.AC).q 0 (F5z (m.outs.getD j AB.AC))*(AH (m.outs.getD j AB.AC).cq (m.outs.getD j AB.AC).ca (m.outs.getD j AB.AC).o.AF*(BX BJ m.outs j*(Et m sb*R))))):=by
 rw [Gu,MR BJ m.outs j AB.AC hj];unfold BJ;ac_rfl
def Ad.C0(m:Ad)(k:Nat)(o:DF):Ad:={m with outs:=m.outs.set k o}
theorem Ad.jY(m:Ad)(k:Nat)(o:DF):(m.C0 k o).s=m.s.C0 k o.o:=by
 unfold Ad.C0 Ad.s AK.C0;simp only [xr]
theorem OW(sb:Nat)(m:Ad)(R:HP)(j:Nat)(hj:j<m.outs.length)(y:DF)(hy:y.q=(m.outs.getD j AB.AC).q):
  AS sb (m.C0 j y)*R=Ab sb m.x*(AD m.oa.b m.oa.o m.outs m.oa.s*(HP.AA y.q 0 (F5z y)*(AH y.cq y.ca y.o.AF*(BX BJ m.outs j*(Et m sb*R))))):=by
 rw [Gu];show Ab sb m.x*(AD m.oa.b m.oa.o (m.outs.set j y) m.oa.s*(AM BJ (m.outs.set j y)*(Et (m.C0 j y) sb*R)))=_;rw [lD _ _ _ _ j y hj aB,Md BJ m.outs j y hj];show Ab sb m.x*(AD m.oa.b m.oa.o m.outs m.oa.s*(HP.AA y.q 0 (F5z y)*AH y.cq y.ca y.o.AF*BX BJ m.outs j*(Et m sb*R)))=_;ac_rfl
theorem Ad.ok.C0{m:Ad}(h:m.ok){k:Nat}{o:DF}(ho:o.ok):(m.C0 k o).ok:=
 {h with oa:=by have:=h.oa;show m.oa.ok (m.outs.set k o);unfold Ae.ok at*;rw [i_];exact this,outs:=fun a ha=>JS (P:=DF.ok) h.outs ho ha,ov:=by show m.x.ov=m.oa.v (m.outs.set k o).length;rw [i_];exact h.ov}
theorem Ad.MZ(m:Ad)(k:Nat)(hk:k<m.outs.length):m.s.o k=(m.outs.getD k AB.AC).o:=by
 unfold AK.o Ad.s;simp only [c_,xt,e_ hk];rfl
def Do(m:Ad)(sb:Nat):HP:=AH m.x.gq m.ga m.AO*(AH m.x.eq m.ea m.Ao*(m.da.h (m.due.map Ay.mk)*(m.oa.h m.outs*(AM BJ m.outs*(m.sa.h m.AJ*AM B3 m.AJ)))))
theorem QV(sb:Nat)(m:Ad)(R:HP):AS sb m*R=Ab sb m.x*(AD m.ia.b m.ia.o m.ins m.ia.s*(AM BC m.ins*(Do m sb*R))):=by
 unfold AS Do Ae.h;ac_rfl
theorem Oj(sb:Nat)(m:Ad)(R:HP)(j:Nat)(hj:j<m.ins.length):AS sb m*R=Ab sb m.x*(AD m.ia.b m.ia.o m.ins m.ia.s*(HP.AA (m.ins.getD j AB.AC).q 0 (Hx (m.ins.getD j AB.AC))*((m.ins.getD j AB.AC).a.h (m.ins.getD j AB.AC).x.data*((m.ins.getD j AB.AC).b.h (m.ins.getD j AB.AC).x.there*(BX BC m.ins j*(Do m sb*R)))))):=by
 rw [QV,MR BC m.ins j AB.AC hj];unfold BC;ac_rfl
def Ad.Cb(m:Ad)(k:Nat)(o:D6):Ad:={m with ins:=m.ins.set k o}
theorem Ad.XD(m:Ad)(k:Nat)(o:D6):(m.Cb k o).s=m.s.Cb k o.x:=by
 unfold Ad.Cb Ad.s AK.Cb;simp only [xr]
theorem YO(sb:Nat)(m:Ad)(R:HP)(j:Nat)(hj:j<m.ins.length)(y:D6)(hy:y.q=(m.ins.getD j AB.AC).q):
  AS sb (m.Cb j y)*R=Ab sb m.x*(AD m.ia.b m.ia.o m.ins m.ia.s*(HP.AA y.q 0 (Hx y)*(y.a.h y.x.data*(y.b.h y.x.there*(BX BC m.ins j*(Do m sb*R)))))):=by
 rw [QV];show Ab sb m.x*(AD m.ia.b m.ia.o (m.ins.set j y) m.ia.s*(AM BC (m.ins.set j y)*(Do (m.Cb j y) sb*R)))=_;rw [lD _ _ _ _ j y hj aB,Md BC m.ins j y hj];show Ab sb m.x*(AD m.ia.b m.ia.o m.ins m.ia.s*(HP.AA y.q 0 (Hx y)*(y.a.h y.x.data*y.b.h y.x.there)*BX BC m.ins j*(Do m sb*R)))=_;ac_rfl
theorem Ad.ok.Cb{m:Ad}(h:m.ok){k:Nat}{o:D6}(ho:o.ok):(m.Cb k o).ok:=
 {h with ia:=by have:=h.ia;show m.ia.ok (m.ins.set k o);unfold Ae.ok at*;rw [i_];exact this,ins:=fun a ha=>JS (P:=D6.ok) h.ins ho ha,iv:=by show m.x.iv=m.ia.v (m.ins.set k o).length;rw [i_];exact h.iv}
theorem Ad.PK(m:Ad)(k:Nat)(hk:k<m.ins.length):m.s.i k=(m.ins.getD k AB.AC).x:=by
 unfold AK.i Ad.s;simp only [c_,xt,e_ hk];rfl
def Ad.CF(m:Ad)(x:SC):Ad:={m with x:=x}
theorem Ad.Mv{t:Nat}{m:Ad}(h:Ag t m.s):m.outs.length=4:=by have:=h.outs.len;simpa [Ad.s]using this
theorem Ad.QZ{t:Nat}{m:Ad}(h:Ag t m.s):m.ins.length=4:=by have:=h.il;simpa [Ad.s]using this
theorem Ad.NV{t:Nat}{m:Ad}(h:Ag t m.s){k:Nat}(hk:k<4):KK m.x.AG (m.outs.getD k AB.AC).o:=by
 have:=h.outs.ok k hk
 have e:m.s.outs.getD k B'=(m.outs.getD k AB.AC).o:=m.MZ k (by rw [Ad.Mv h];exact hk);rw [e]at this;exact this
theorem Ad.We{t:Nat}{m:Ad}(h:Ag t m.s){k:Nat}(hk:k<4):HE m.x.AG t (m.ins.getD k AB.AC).x:=by
 have:=h.ins k hk
 rw [m.PK k (by rw [Ad.QZ h];exact hk)]at this;exact this
end
section
variable{B:World}
theorem sG(AN:Nat)(H:HP)(hm:1≤AN):
  Fn Tryz.prog B 41 [iN AN] H (fun v H'=>∃q,v=ptr q 0∧H'=AH q Bi (.of AN)*H):=by
 refine mI Tryz.func41 ?_;refine J9 ?_;refine JL (GH (i:=AN) (j:=1) rfl rfl) ?_;refine J2 ?_;refine mC (fun hx=>?_) (fun hx=>?_)
 ·(have h7:AN<1:=by assumption);omega
 refine J5 ?_;refine JL (E7 (cs:=[.slice none 0 0,uN 0,iN AN]) rfl rfl rfl Ck) ?_;refine AV (DP (l:=[.slice none 0 0,uN 0,iN AN]) rfl rfl) rfl ?_;rintro _ _ ⟨q7,rfl,rfl⟩;refine J4 ?_;exact mr [2] rfl rfl ⟨q7,rfl,by unfold AH;show _=HP.AA q7 0 _*AD 0 0 ([]:List AP) []*H;rw [FI,HP.Gb];rfl⟩
theorem km(q n:Nat)(a:B9)(z:BH)(H:HP)[hz:Fd B H q a z](hs:a.ok z)(hlen:z.l.length<4611686018427387904):
  Fn Tryz.prog B 83 [ptr q 0,uN n] H (fun v H'=>v=.bool (decide (z.has n))∧H'=H):=by
 refine mI Tryz.func83 ?_
 have:=hz.l
 have:=hz.f
 have:=hz.r
 have hsl:=hs.1;refine YB ?_;refine mC (fun h11=>?_) (fun h11=>?_)
 ·refine J7 ?_;exact mr [4] rfl rfl ⟨by rw [decide_eq_true (show z.has n from .inl h11)];rfl,rfl⟩
 refine MH ?_;refine BL (α:=Nat) (fun i=>[(0,ptr q 0),(1,uN n),(5,iN i)]) (fun _=>H) (fun i=>i≤z.l.length∧∀k,k<i→¬((rg z.l k).lo≤n∧n≤(rg z.l k).hi)) (fun i=>z.l.length-i) 0 ⟨l_ _,fun k h=>absurd h TG⟩ CN rfl ?_;rintro i ⟨hi1,hi2⟩;dsimp only at hi1 hi2⊢;refine CR ?_;refine mC (fun h18=>?_) (fun h18=>?_)
 ·refine J5 ?_;refine BO (α:=Unit) (fun _=>[(42,.bool (decide ((rg z.l i).lo≤n∧n≤(rg z.l i).hi))),(0,ptr q 0),(1,uN n),(5,iN i)]) (fun _=>H) (fun _=>True) ?_ ?_
  ·refine J6 ?_;refine JL (Bm rfl rfl hsl h18) ?_;refine J1 ?_;refine JL (H6 (i:=i) (xs:=z.l) rfl inferInstance h18) ?_;refine J1 ?_;refine JL Ge ?_;refine J1 ?_;refine CJ 31 rfl (fun hg1=>?_) (fun hg1=>?_)
   ·have h31:=hg1;refine Y6 ?_;refine J1 ?_;refine Ou ?_;refine JL (Bm rfl rfl hsl h18) ?_;refine Hh ?_;refine J1 ?_;refine Hh ?_;refine JL (HO (i:=i) (xs:=z.l) rfl inferInstance h18) ?_;refine Hh ?_;refine JL Ge ?_;refine JP ?_;refine J1 ?_;exact AU () trivial pD rfl
   have h31:=hg1;refine N2 ?_;refine N2 ?_;refine Ie ?_;refine Ie ?_;refine Jq ?_;refine J1 ?_;exact AU () trivial (.cons (congrArg (fun bb=>some (h_ bb)) (decide_eq_false (fun h=>h31 h.1)).symm) CN) rfl
  ·rintro _ _;refine J1 ?_;refine mC (fun h42=>?_) (fun h42=>?_)
   ·refine BV ?_;exact mr [4] rfl rfl ⟨by rw [decide_eq_true (show z.has n from .inr ⟨rg z.l i,by rw [Hr h18];exact o_ h18,h42⟩)];rfl,rfl⟩
   refine J5 ?_;refine JL (Kb (j:=1) rfl rfl (by have h7:i<z.l.length:=h18;omega)) ?_;refine J2 ?_;exact At (i+1) ⟨h18,fun k hk=>by rcases Nat.lt_or_ge k i with h|h;exact hi2 k h;obtain rfl:k=i:=Cg;exact h42⟩ (by show z.l.length-(i+1)<z.l.length-i;have h7:i<z.l.length:=h18;omega) CN rfl
 refine BV ?_
 exact mr [4] rfl rfl ⟨by
  rw [decide_eq_false (show ¬z.has n from fun h=>by
   rcases h with h|⟨r,hr,h⟩
   ·exact h11 h
   ·obtain⟨k,hk,rfl⟩:=List.getElem_of_mem hr
    have h7:¬i<z.l.length:=h18
    have:=hi2 k Cg
    rw [Hr hk]at this
    exact this h)];rfl,rfl⟩
structure Eu(lo0 hi0:Nat)(l:List AP)(i lo hi:Nat)(dn:Bool)(out:List AP):Prop where
 bm:i≤l.length
 lh:lo≤hi
 nd:dn=false→BW lo0 hi0 l=out++BW lo hi (l.drop i)
 dd:dn=true→BW lo0 hi0 l=out++l.drop i∧∀r∈l.drop i,hi+1<r.lo
 len:out.length≤i+1
 hb:hi<4611686018427387904
theorem J_{lo hi:Nat}{r:AP}{rs:List AP}(h:r.hi+1<lo):BW lo hi (r::rs)=r::BW lo hi rs:=by rw [BW,if_pos h]
theorem qm{lo hi:Nat}{r:AP}{rs:List AP}(h1:¬r.hi+1<lo)(h:hi+1<r.lo):BW lo hi (r::rs)=⟨lo,hi⟩::r::rs:=by rw [BW,if_neg h1,if_pos h]
theorem bo{lo hi:Nat}{r:AP}{rs:List AP}(h1:¬r.hi+1<lo)(h:¬hi+1<r.lo):BW lo hi (r::rs)=BW (min lo r.lo) (max hi r.hi) rs:=by rw [BW,if_neg h1,if_neg h]
theorem K0{l:List AP}{i:Nat}(h:i<l.length):l.drop i=rg l i::l.drop (i+1):=by
 rw [n_ h,Hr h]
theorem Eu.begin{lo hi:Nat}{l:List AP}(h:lo≤hi)(hb:hi<4611686018427387904):Eu lo hi l 0 lo hi false []:=
 ⟨l_ _,h,fun _=>rfl,(fun h=>by cases h),l_ _,hb⟩
theorem mG{l:List AP}:∀(i:Nat),DQ l→DQ (l.drop i):=by
 intro i
 induction i generalizing l with
 |zero=>exact id
 |succ i ih=>
  intro h
  cases l with
  |nil=>exact h
  |cons r rs=>exact ih h.2.2
theorem Eu.mn{lo0 hi0:Nat}{l:List AP}{i lo hi:Nat}{dn:Bool}{out:List AP}(h:Eu lo0 hi0 l i lo hi dn out)(hI:DQ l)(hi':i<l.length)(hk:(rg l i).hi+1<lo):dn=false:=by
 cases dn
 ·rfl
 ·have:=(h.dd rfl).2 (rg l i) (by rw [K0 hi'];simp)
  have h2:=mG i hI;rw [K0 hi']at h2
  have:=h2.1
  have:=h.lh
  omega
theorem Eu.ID{lo0 hi0:Nat}{l:List AP}{i lo hi:Nat}{dn:Bool}{out:List AP}(h:Eu lo0 hi0 l i lo hi dn out)(hI:DQ l)(hi':i<l.length)(hk:(rg l i).hi+1<lo):Eu lo0 hi0 l (i+1) lo hi dn (out++[rg l i]):=by
 have e:=h.mn hI hi' hk;subst e;refine⟨hi',h.lh,fun _=>?_,(fun h=>by cases h),by have:=h.len;simp;omega,h.hb⟩;rw [h.nd rfl,K0 hi',J_ hk,g'];rfl
theorem Eu.put{lo0 hi0:Nat}{l:List AP}{i lo hi:Nat}{out:List AP}(h:Eu lo0 hi0 l i lo hi false out)(hI:DQ l)(hi':i<l.length)(hk:¬(rg l i).hi+1<lo)(hp:hi+1<(rg l i).lo)(ho:out.length≤i):Eu lo0 hi0 l (i+1) lo hi true (out++[⟨lo,hi⟩]++[rg l i]):=by
 refine⟨hi',h.lh,(fun h=>by cases h),fun _=>⟨?_,fun r hr=>?_⟩,Cq,h.hb⟩
 ·rw [h.nd rfl,K0 hi',qm hk hp];simp
 ·have h2:=mG i hI;rw [K0 hi']at h2
  have:=h2.1
  have:=h2.2.1 r hr
  omega
theorem Eu.more{lo0 hi0:Nat}{l:List AP}{i lo hi:Nat}{out:List AP}(h:Eu lo0 hi0 l i lo hi true out)(hi':i<l.length):Eu lo0 hi0 l (i+1) lo hi true (out++[rg l i]):=by
 refine⟨hi',h.lh,(fun h=>by cases h),fun _=>⟨?_,fun r hr=>(h.dd rfl).2 r (by rw [K0 hi'];exact List.mem_cons_of_mem _ hr)⟩,by have:=h.len;simp;omega,h.hb⟩;rw [(h.dd rfl).1,K0 hi',g'];rfl
theorem Eu.meet{lo0 hi0:Nat}{l:List AP}{i lo hi:Nat}{dn:Bool}{out:List AP}(h:Eu lo0 hi0 l i lo hi dn out)(hi':i<l.length)(hk:¬(rg l i).hi+1<lo)(hp:¬hi+1<(rg l i).lo)(hb:(rg l i).hi<4611686018427387904):Eu lo0 hi0 l (i+1) (min lo (rg l i).lo) (max hi (rg l i).hi) dn out:=by
 have e:dn=false:=by
  cases dn
  ·rfl
  ·exact absurd ((h.dd rfl).2 (rg l i) (by rw [K0 hi'];simp)) hp
 subst e
 have:=h.lh
 have:=h.hb
 refine⟨hi',Cg,fun _=>?_,(fun h=>by cases h),by have:=h.len;omega,Cg⟩;rw [h.nd rfl,K0 hi',bo hk hp]
theorem Eu.fin{lo0 hi0:Nat}{l:List AP}{lo hi:Nat}{dn:Bool}{out:List AP}(h:Eu lo0 hi0 l l.length lo hi dn out):BW lo0 hi0 l=if dn then out else out++[⟨lo,hi⟩]:=by
 cases dn
 ·rw [h.nd rfl,xx];rfl
 ·rw [(h.dd rfl).1,xx,j_];rfl
set_option maxHeartbeats 4000000 in
theorem Ui(q lo hi m:Nat)(a:B9)(z:BH)(R:HP)(hs:a.ok z)(ho:C2 z m)(hm:m≤4611686018427387904)(hhi:hi<m)(hmost:z.AN≤1073741824):
  Fn Tryz.prog B 84 [ptr q 0,uN lo,uN hi] (AH q a z*R) (fun _ H'=>∃a':B9,a'.ok (z.add lo hi)∧H'=AH q a' (z.add lo hi)*R):=by
 refine mI Tryz.func84 ?_
 have hlen:z.l.length<2000000000:=by have:=ho.len;omega
 have hsl:=hs.1;have hflo:=ho.fl;have hzs:Fd B (AH q a z*R) q a z:=inferInstance;have hzr:=hzs.r;refine BV ?_;refine BO (α:=Unit) (fun _=>[(0,ptr q 0),(1,uN (max lo z.floor)),(2,uN hi)]) (fun _=>(AH q a z*R)) (fun _=>True) ?_ ?_
 ·refine mC (fun h15=>?_) (fun h15=>?_)
  ·refine J7 ?_;exact AU () trivial (.cons rfl (.cons (congrArg (fun k=>some (uN k)) (p_ (k_ h15)).symm) Ix)) rfl
  refine J1 ?_;exact AU () trivial (.cons rfl (.cons (congrArg (fun k=>some (uN k)) (q' (f_ h15)).symm) Ix)) rfl
 ·rintro _ _;refine J6 ?_;refine Hv ?_;refine mC (fun h22=>?_) (fun h22=>?_)
  ·refine J2 ?_
   have e0:z.add lo hi=z:=by unfold BH.add;rw [if_pos Cg]
   exact mr [] rfl rfl ⟨a,by rw [e0];exact hs,by rw [e0]⟩
  refine Iw ?_;refine CZ ?_;refine BL (α:=Nat×Nat×Nat×Bool×List AP×Ae) (fun y=>[(0,ptr q 0),(1,uN y.2.1),(2,uN y.2.2.1),(7,.bool y.2.2.2.1),(6,y.2.2.2.2.2.v y.2.2.2.2.1.length),(8,iN y.1)]) (fun y=>AD y.2.2.2.2.2.b y.2.2.2.2.2.o y.2.2.2.2.1 y.2.2.2.2.2.s*(AH q a z*R)) (fun y=>Eu (max lo z.floor) hi z.l y.1 y.2.1 y.2.2.1 y.2.2.2.1 y.2.2.2.2.1∧y.2.2.2.2.2.ok y.2.2.2.2.1∧(y.2.2.2.1=false→y.2.2.2.2.1.length≤y.1)) (fun y=>z.l.length-y.1) (0,(max lo z.floor),hi,false,[],BP) ⟨Eu.begin Cg Cg,DX,fun _=>l_ _⟩ G9 (by show(AH q a z*R)=AD 0 0 ([]:List AP) []*(AH q a z*R);rw [FI,HP.BA]) ?_;rintro⟨i,lo1,hi1,dn,out,oa⟩ ⟨hA,hoa,hon⟩;dsimp only at hA hoa hon⊢;have hAl:=hA.len;have hAi:=hA.bm;have hAh:=hA.lh;have hAb:=hA.hb;refine CR ?_;refine mC (fun h29=>?_) (fun h29=>?_)
  ·have h29:i<z.l.length:=h29;have hrb:=ho.hi (rg z.l i) oI
   have hrb:(rg z.l i).hi<4611686018427387904:=by omega
   have hrl:=YT z.l ho.inc (rg z.l i) oI;have hrl2:z.l.length≤z.AN:=ho.len;refine BV ?_;refine JL (Bm rfl rfl hsl h29) ?_;refine JL (OD (i:=i) (xs:=z.l) rfl inferInstance h29) ?_;refine LD ?_;rintro _ _ ⟨b9,rfl,rfl⟩;refine Fi ?_;refine J4 ?_;refine BO (α:=Unit) (fun _=>(49,.bool (decide ((rg z.l i).hi+1<lo1)))::(9,ptr b9 0):: [(0,ptr q 0),(1,uN lo1),(2,uN hi1),(7,.bool dn),(6,oa.v out.length),(8,iN i)]) (fun _=>HP.AA b9 0 [uN (rg z.l i).lo,uN (rg z.l i).hi]*(AD oa.b oa.o out oa.s*(AH q a z*R))) (fun _=>True) ?_ ?_
   ·refine J6 ?_;refine CJ 43 rfl (fun hg1=>?_) (fun hg1=>?_)
    ·have h43:=hg1;refine Ou ?_;refine JL Ez ?_;refine Hh ?_;refine JL SE ?_;refine JP ?_;refine J1 ?_;exact AU () trivial rG rfl
    have h43:=hg1;refine N2 ?_;refine Ie ?_;refine Jq ?_;refine J1 ?_;exact AU () trivial Yl rfl
   ·rintro _ _;refine J1 ?_;refine mC (fun h49=>?_) (fun h49=>?_)
    ·refine J3 ?_;refine JL Xt ?_;refine AV VN rfl ?_;rintro _ _ ⟨b52,rfl,rfl⟩;refine Aw (H':=AD oa.b oa.o out oa.s*(HP.AA b52 0 (AE [(rg z.l i)])*(HP.AA b9 0 [uN (rg z.l i).lo,uN (rg z.l i).hi]*(AH q a z*R)))) (by show HP.AA b52 0 _*_=_;rw [show AE [(rg z.l i)]=[uN (rg z.l i).lo,uN (rg z.l i).hi]from j_ _];ac_rfl) ?_;refine AV (Bf (ys:=[(rg z.l i)]) (bb:=b52) (oo:=0) (cc:=1) rfl hoa.1 hoa.2 rfl Bc inferInstance rfl QE Cg) rfl ?_;rintro _ _ ⟨p53,b53,o53,c53,s53,rfl,hs53,hc53,rfl⟩
     have ho53:(⟨p53,b53,o53,c53,s53⟩:Ae).ok (out++[(rg z.l i)]):=⟨hs53,hc53⟩
     refine J9 ?_;refine FO ?_
     first
      |exact Au (AD b53 o53 (out++[(rg z.l i)]) s53*(AH q a z*R)) TH
      |exact Au (AD b76 o76 (out++[⟨lo1,hi1⟩]++[(rg z.l i)]) s76*(AH q a z*R)) R8
      |exact Au (AD b76 o76 (out++[(rg z.l i)]) s76*(AH q a z*R)) Qv
      |exact Au (AD oa.b oa.o out oa.s*(AH q a z*R)) RO
    refine J4 ?_;refine BO (α:=Unit) (fun _=>(64,.bool (decide (hi1+1<(rg z.l i).lo)))::(9,ptr b9 0):: [(0,ptr q 0),(1,uN lo1),(2,uN hi1),(7,.bool dn),(6,oa.v out.length),(8,iN i)]) (fun _=>HP.AA b9 0 [uN (rg z.l i).lo,uN (rg z.l i).hi]*(AD oa.b oa.o out oa.s*(AH q a z*R))) (fun _=>True) ?_ ?_
    ·refine J4 ?_;refine K1 ?_;refine J1 ?_;refine CJ 58 rfl (fun hg2=>?_) (fun hg2=>?_)
     ·have h58:=hg2;refine SL ?_;refine JL Ez ?_;refine JC ?_;refine JL SE ?_;refine JL FR ?_;refine J1 ?_;exact AU () trivial rG rfl
     have h58:=hg2;refine Mg ?_;refine R7 ?_;refine J1 ?_;exact AU () trivial Yl rfl
    ·rintro _ _;refine J1 ?_;refine mC (fun h64=>?_) (fun h64=>?_)
     ·refine J4 ?_;refine Eb ?_;refine mc (fun h66=>?_) (fun h66=>?_)
      ·skip
       have h66:dn=false:=by simpa using h66
       refine J5 ?_;refine JL dX ?_;refine AV dY rfl ?_;rintro _ _ ⟨b71,rfl,rfl⟩;refine Aw (H':=AD oa.b oa.o out oa.s*(HP.AA b71 0 (AE [(⟨lo1,hi1⟩:AP)])*(HP.AA b9 0 [uN (rg z.l i).lo,uN (rg z.l i).hi]*(AH q a z*R)))) (by show HP.AA b71 0 _*_=_;rw [show AE [(⟨lo1,hi1⟩:AP)]=[uN lo1,uN hi1]from j_ _];ac_rfl) ?_;refine AV (Bf (ys:=[(⟨lo1,hi1⟩:AP)]) (bb:=b71) (oo:=0) (cc:=1) rfl hoa.1 hoa.2 rfl Bc inferInstance rfl QE Cg) rfl ?_;rintro _ _ ⟨p72,b72,o72,c72,s72,rfl,hs72,hc72,rfl⟩
       have ho72:(⟨p72,b72,o72,c72,s72⟩:Ae).ok (out++[(⟨lo1,hi1⟩:AP)]):=⟨hs72,hc72⟩
       refine By ?_;refine JL Xt ?_;refine AV VN rfl ?_;rintro _ _ ⟨b75,rfl,rfl⟩
       first
        |refine Aw (H':=AD b72 o72 (out++[(⟨lo1,hi1⟩:AP)]) s72*(HP.AA b75 0 (AE [(rg z.l i)])*(HP.AA b71 0 (AE [(⟨lo1,hi1⟩:AP)])*(HP.AA b9 0 [uN (rg z.l i).lo,uN (rg z.l i).hi]*(AH q a z*R))))) Sb ?_
        |refine Aw (H':=AD oa.b oa.o out oa.s*(HP.AA b75 0 (AE [(rg z.l i)])*(HP.AA b9 0 [uN (rg z.l i).lo,uN (rg z.l i).hi]*(AH q a z*R)))) Sb ?_
       have hsel:True:=trivial
       first
        |refine AV iB rfl ?_
        |refine AV iS rfl ?_
       rintro _ _ ⟨p76,b76,o76,c76,s76,rfl,hs76,hc76,rfl⟩
       first
        |have ho76:(⟨p76,b76,o76,c76,s76⟩:Ae).ok (out++[(⟨lo1,hi1⟩:AP)]++[(rg z.l i)]):=⟨hs76,hc76⟩
        |have ho76:(⟨p76,b76,o76,c76,s76⟩:Ae).ok (out++[(rg z.l i)]):=⟨hs76,hc76⟩
       refine J9 ?_;refine FO ?_
       first
        |exact Au (AD b53 o53 (out++[(rg z.l i)]) s53*(AH q a z*R)) TH
        |exact Au (AD b76 o76 (out++[⟨lo1,hi1⟩]++[(rg z.l i)]) s76*(AH q a z*R)) R8
        |exact Au (AD b76 o76 (out++[(rg z.l i)]) s76*(AH q a z*R)) Qv
        |exact Au (AD oa.b oa.o out oa.s*(AH q a z*R)) RO
      have h66:dn=true:=by simpa using h66
      refine J5 ?_;refine JL Xt ?_;refine AV VN rfl ?_;rintro _ _ ⟨b75,rfl,rfl⟩
      first
       |refine Aw (H':=AD b72 o72 (out++[(⟨lo1,hi1⟩:AP)]) s72*(HP.AA b75 0 (AE [(rg z.l i)])*(HP.AA b71 0 (AE [(⟨lo1,hi1⟩:AP)])*(HP.AA b9 0 [uN (rg z.l i).lo,uN (rg z.l i).hi]*(AH q a z*R))))) Sb ?_
       |refine Aw (H':=AD oa.b oa.o out oa.s*(HP.AA b75 0 (AE [(rg z.l i)])*(HP.AA b9 0 [uN (rg z.l i).lo,uN (rg z.l i).hi]*(AH q a z*R)))) Sb ?_
      have hsel:True:=trivial
      first
       |refine AV iB rfl ?_
       |refine AV iS rfl ?_
      rintro _ _ ⟨p76,b76,o76,c76,s76,rfl,hs76,hc76,rfl⟩
      first
       |have ho76:(⟨p76,b76,o76,c76,s76⟩:Ae).ok (out++[(⟨lo1,hi1⟩:AP)]++[(rg z.l i)]):=⟨hs76,hc76⟩
       |have ho76:(⟨p76,b76,o76,c76,s76⟩:Ae).ok (out++[(rg z.l i)]):=⟨hs76,hc76⟩
      refine J9 ?_;refine FO ?_
      first
       |exact Au (AD b53 o53 (out++[(rg z.l i)]) s53*(AH q a z*R)) TH
       |exact Au (AD b76 o76 (out++[⟨lo1,hi1⟩]++[(rg z.l i)]) s76*(AH q a z*R)) R8
       |exact Au (AD b76 o76 (out++[(rg z.l i)]) s76*(AH q a z*R)) Qv
       |exact Au (AD oa.b oa.o out oa.s*(AH q a z*R)) RO
     refine BV ?_;refine BO (α:=Unit) (fun _=>(9,ptr b9 0):: [(0,ptr q 0),(1,uN (min lo1 (rg z.l i).lo)),(2,uN hi1),(7,.bool dn),(6,oa.v out.length),(8,iN i)]) (fun _=>HP.AA b9 0 [uN (rg z.l i).lo,uN (rg z.l i).hi]*(AD oa.b oa.o out oa.s*(AH q a z*R))) (fun _=>True) ?_ ?_
     ·refine mC (fun h80=>?_) (fun h80=>?_)
      ·refine J5 ?_;exact AU () trivial (.cons rfl (.cons rfl (.cons (congrArg (fun k=>some (uN k)) (q_ (k_ h80)).symm) B4))) rfl
      refine J1 ?_;exact AU () trivial (.cons rfl (.cons rfl (.cons (congrArg (fun k=>some (uN k)) (r_ (f_ h80)).symm) B4))) rfl
     ·rintro _ _;refine J6 ?_;refine Hv ?_;refine BO (α:=Unit) (fun _=>(9,ptr b9 0):: [(0,ptr q 0),(1,uN (min lo1 (rg z.l i).lo)),(2,uN (max hi1 (rg z.l i).hi)),(7,.bool dn),(6,oa.v out.length),(8,iN i)]) (fun _=>HP.AA b9 0 [uN (rg z.l i).lo,uN (rg z.l i).hi]*(AD oa.b oa.o out oa.s*(AH q a z*R))) (fun _=>True) ?_ ?_
      ·refine mC (fun h86=>?_) (fun h86=>?_)
       ·refine J5 ?_;exact AU () trivial (.cons rfl (.cons rfl (.cons rfl (.cons (congrArg (fun k=>some (uN k)) (p_ (k_ h86)).symm) CS)))) rfl
       refine J1 ?_;exact AU () trivial (.cons rfl (.cons rfl (.cons rfl (.cons (congrArg (fun k=>some (uN k)) (q' (f_ h86)).symm) CS)))) rfl
      ·rintro _ _;refine Fb ?_
       first
        |exact Au (AD b53 o53 (out++[(rg z.l i)]) s53*(AH q a z*R)) TH
        |exact Au (AD b76 o76 (out++[⟨lo1,hi1⟩]++[(rg z.l i)]) s76*(AH q a z*R)) R8
        |exact Au (AD b76 o76 (out++[(rg z.l i)]) s76*(AH q a z*R)) Qv
        |exact Au (AD oa.b oa.o out oa.s*(AH q a z*R)) RO
  obtain rfl:i=z.l.length:=by have h7:¬i<z.l.length:=h29;omega
  refine J9 ?_;refine Eb ?_;refine BO (α:=Ae) (fun oa=>[(0,ptr q 0),(6,oa.v (BW (max lo z.floor) hi z.l).length)]) (fun oa=>AD oa.b oa.o (BW (max lo z.floor) hi z.l) oa.s*(AH q a z*R)) (fun oa=>oa.ok (BW (max lo z.floor) hi z.l)) ?_ ?_
  ·refine mc (fun h90=>?_) (fun h90=>?_)
   ·refine J4 ?_;refine JL dX ?_;refine AV dY rfl ?_;rintro _ _ ⟨b95,rfl,rfl⟩;refine Aw (H':=AD oa.b oa.o out oa.s*(HP.AA b95 0 (AE [(⟨lo1,hi1⟩:AP)])*((AH q a z*R)))) (by show HP.AA b95 0 _*_=_;rw [show AE [(⟨lo1,hi1⟩:AP)]=[uN lo1,uN hi1]from j_ _];ac_rfl) ?_;refine AV (Bf (ys:=[(⟨lo1,hi1⟩:AP)]) (bb:=b95) (oo:=0) (cc:=1) rfl hoa.1 hoa.2 rfl Bc inferInstance rfl QE Cg) rfl ?_;rintro _ _ ⟨p96,b96,o96,c96,s96,rfl,hs96,hc96,rfl⟩
    have ho96:(⟨p96,b96,o96,c96,s96⟩:Ae).ok (out++[(⟨lo1,hi1⟩:AP)]):=⟨hs96,hc96⟩
    refine J2 ?_;have hfin:=hA.fin;rw [show dn=false by simpa using h90,if_neg Cl]at hfin;exact Au (AD b96 o96 (BW (max lo z.floor) hi z.l) s96*(AH q a z*R)) (hE:=by rw [hfin];infer_instance) (AU ⟨p96,b96,o96,c96,s96⟩ (by rw [hfin];exact ho96) qB rfl)
   refine J1 ?_;have hfin:=hA.fin;rw [show dn=true by simpa using h90,if_pos rfl]at hfin;exact AU oa (by rw [hfin];exact hoa) qB (by rw [hfin])
  ·rintro oa2 hoa2;dsimp only;have hLl:=Mu z.l (max lo z.floor) hi;have hrl2:z.l.length≤z.AN:=ho.len;have hLh:=KZ z.l (max lo z.floor) hi (m-1) Cg (fun r hr=>by have:=ho.hi r hr;omega);have hLne:=N' z.l (max lo z.floor) hi;have hLp:=List.length_pos_iff.2 hLne
   have hadd:z.add lo hi=if z.AN<(BW (max lo z.floor) hi z.l).length then⟨(BW (max lo z.floor) hi z.l).tail,((BW (max lo z.floor) hi z.l).headD ⟨0,0⟩).hi+1,z.AN⟩else⟨(BW (max lo z.floor) hi z.l),z.floor,z.AN⟩:=by
    unfold BH.add;rw [if_neg Cg]
   refine EC (H':=HP.AA q 0 [.slice a.p z.l.length a.c,uN z.floor,iN z.AN]*(AD oa2.b oa2.o (BW (max lo z.floor) hi z.l) oa2.s*(AD a.b a.o z.l a.s*R))) (by unfold AH;ac_rfl) ?_;generalize hLL:(BW (max lo z.floor) hi z.l)=L at*;refine By ?_;refine Hv ?_;refine mC (fun h103=>?_) (fun h103=>?_)
   ·refine J4 ?_;refine JL (Bm (i:=0) rfl rfl hoa2.1 hLp) ?_;refine J1 ?_;refine JL (HO (i:=0) (xs:=L) rfl inferInstance hLp) ?_;refine JL (KM (i:=(rg L 0).hi) (j:=1) rfl rfl (by have h7:=hLh (rg L 0) (by rw [Hr hLp];exact o_ hLp);omega)) ?_;refine J7 ?_;refine JL (Kt (l:=1) rfl rfl hLp) ?_;refine By ?_
    obtain⟨r0,Lt,rfl⟩:∃r0 Lt,L=r0::Lt:=by cases L with|nil=>cases hLp|cons r0 Lt=>exact⟨r0,Lt,rfl⟩
    rw [if_pos h103]at hadd
    exact Kw (ts:=[]) (AH q ⟨sp oa2.p oa2.c 1 2,oa2.b,oa2.o+1*2,oa2.c-1,oa2.s⟩ (z.add lo hi)*R) (hE:=⟨fun ww hw=>Sat.right (A:=HP.AA oa2.b oa2.o [uN r0.lo,uN r0.hi]*AD a.b a.o z.l a.s) (Eq.mp (by
     congr 1
     rw [hadd]
     unfold AH
     show HP.AA q 0 [.slice (sp oa2.p oa2.c 1 2) ((r0::Lt).length-1) (oa2.c-1),uN ((rg (r0::Lt) 0).hi+1),iN z.AN]*(AD oa2.b oa2.o (r0::Lt) oa2.s*(AD a.b a.o z.l a.s*R))=_
     rw [show AD oa2.b oa2.o (r0::Lt) oa2.s=HP.AA oa2.b oa2.o [uN r0.lo,uN r0.hi]*AD oa2.b (oa2.o+1*2) Lt oa2.s by
      unfold AD
      rw [show AE (r0::Lt)=[uN r0.lo,uN r0.hi]++AE Lt from rfl,g',HP.Ft];rfl]
     show _=HP.AA oa2.b oa2.o [uN r0.lo,uN r0.hi]*AD a.b a.o z.l a.s*(HP.AA q 0 [.slice (sp oa2.p oa2.c 1 2) Lt.length (oa2.c-1),uN (r0.hi+1),iN z.AN]*AD oa2.b (oa2.o+1*2) Lt oa2.s*R)
     rw [show(rg (r0::Lt) 0).hi=r0.hi from rfl,show(r0::Lt).length-1=Lt.length from rfl]
     ac_rfl) hw)⟩) rfl rfl ⟨⟨sp oa2.p oa2.c 1 2,oa2.b,oa2.o+1*2,oa2.c-1,oa2.s⟩,by
     rw [hadd]
     refine⟨Er hoa2.1 Cl hoa2.1.2 Cl,?_⟩
     have h7:=hoa2.2
     have h8:=hoa2.1.2
     show Lt.length*2+oa2.s.length=(oa2.c-1)*2
     have h9:AB.sz AP=2:=rfl
     rw [h9,xy]at h7
     rw [xy]at h8
     omega,rfl⟩
   refine J9 ?_;rw [if_neg h103]at hadd
   exact Kw (ts:=[]) (AH q ⟨oa2.p,oa2.b,oa2.o,oa2.c,oa2.s⟩ (z.add lo hi)*R) (hE:=⟨fun ww hw=>Sat.right (A:=AD a.b a.o z.l a.s) (Eq.mp (by
    congr 1
    rw [hadd]
    unfold AH;dsimp only
    ac_rfl) hw)⟩) rfl rfl ⟨⟨oa2.p,oa2.b,oa2.o,oa2.c,oa2.s⟩,by rw [hadd];exact hoa2,rfl⟩
end
section
variable{B:World}
section
variable{P:Program}{n:Nat}{E:A6}{D:CK}{H:HP}{d:Option Tmp}{T T' ty:TypeId}{pos:String}{af:Array Edge}{g:Option (Nat×Bool)}{x y z u:Operand}
theorem pT{s t:ByteArray}(hx:ev E x=some (.string s))(hy:ev E y=some (.string t))(h:s.size+t.size<9223372036854775808):
  Aa P B n ⟨d,.binOp .add T x y T',ty,pos,af,g⟩ E H (.string (s++t)):=by
 intro a w he _
 have h2:¬(((s.size+t.size:Nat):Int)> IntKind.i64.max):=by have:IntKind.i64.max=9223372036854775807:=rfl;omega
 have h3:(binOp .add T (.string s) (.string t)).run P w=.ok (.string (s++t)) w:=by
  simp only [binOp_string_add,Op.stringOp,if_neg h2,Sem.run_pure]
 have h1:(eqGuard .add T x y (.string s) (.string t)).run P w=.ok () w:=rfl;simp only [execOp,he.ev hx,he.ev hy,Sem.run_bind,h1,Result.andThen_ok,h3,Sem.run_pure]
theorem Zq(a b:List UInt8):BI a++BI b=BI (a++b):=by
 unfold BI;apply ByteArray.ext;rw [ByteArray.data_append]
 simp
end
theorem QA(m:Ad)(k:Int):m.s.of k=EI m.x.closed k:=rfl
theorem jf(sb closed:Nat)(k:Int)(H:HP)[hc:Rd B H sb (0+19) (iN closed) True]:
  Fn Tryz.prog B 81 [ptr sb 0,.int .i64 k] H (fun v H'=>v=iN (EI closed k)∧H'=H):=by
 refine mI Tryz.func81 ?_;refine GA ?_;refine J9 ?_;refine JZ ?_;refine mC (fun h5=>?_) (fun h5=>?_)
 ·refine J2 ?_;refine JL Tk ?_;refine J4 ?_;exact mS
 refine J6 ?_;refine JL (JQ (i:=k) (j:=0) rfl rfl) ?_;refine J1 ?_;refine CJ 12 rfl (fun hg1=>?_) (fun hg1=>?_)
 ·refine JV ?_;refine JV ?_;refine OC ?_;refine J2 ?_;refine JL Su ?_;refine J4 ?_;exact Rw
 refine JA ?_;refine JL (Jb (i:=k) (j:=4) rfl rfl) ?_;refine Iq ?_;refine mC (fun h12=>?_) (fun h12=>?_)
 ·refine J2 ?_;refine JL Su ?_;refine J4 ?_;exact Rw
 refine J4 ?_;refine CZ ?_;exact mr [4] rfl rfl ⟨aS,rfl⟩
theorem L! (m:DF)(R:HP)(hok:m.ok)(hb:∀r∈m.o.AF.l,r.hi<4611686018427387904):
  Fn Tryz.prog B 82 [ptr m.q 0] (HP.AA m.q 0 (F5z m)*(AH m.cq m.ca m.o.AF*R)) (fun v H'=>v=uN m.o.B2∧H'=HP.AA m.q 0 (F5z m)*(AH m.cq m.ca m.o.AF*R)):=by
 refine mI Tryz.func82 ?_;have hzs:Fd B (HP.AA m.q 0 (F5z m)*(AH m.cq m.ca m.o.AF*R)) m.cq m.ca m.o.AF:=inferInstance;have hzl:=hzs.l;have hzr:=hzs.r;have hsl:=hok.1;refine Jc ?_;refine EP ?_;refine JL (CV (i:=m.o.AF.l.length) (j:=0) rfl rfl) ?_;refine J1 ?_;refine CJ 12 rfl (fun hg1=>?_) (fun hg1=>?_)
 ·have h12:=hg1;refine I8 ?_;refine I8 ?_;refine I8 ?_;refine JV ?_;refine JV ?_;refine OC ?_;refine Jc ?_;refine J4 ?_;exact mr [2] rfl rfl ⟨by unfold CA.B2;rw [if_pos (.inl (List.length_eq_zero_iff.1 h12))];rfl,rfl⟩
 have h12:=hg1
 have hpos:0<m.o.AF.l.length:=by omega
 refine KO ?_;refine KO ?_;refine KO ?_;refine JA ?_;refine JL pS ?_;refine JA ?_;refine JL (H6 (i:=0) (xs:=m.o.AF.l) rfl inferInstance hpos) ?_;refine Ir ?_;refine JL Ld ?_;refine Iq ?_;refine mC (fun h24=>?_) (fun h24=>?_)
 ·refine Jc ?_;refine J4 ?_;exact mr [2] rfl rfl ⟨by unfold CA.B2;rw [if_pos (.inr h24)];rfl,rfl⟩
 refine BV ?_;refine JL pS ?_;refine J1 ?_;refine JL (HO (i:=0) (xs:=m.o.AF.l) rfl inferInstance hpos) ?_;refine JL (KM (j:=1) rfl rfl (by have:=hb (rg m.o.AF.l 0) (by rw [Hr hpos];exact o_ hpos);omega)) ?_;refine J4 ?_;exact mr [2] rfl rfl ⟨by unfold CA.B2;rw [if_neg (fun h=>by rcases h with h|h;exact h12 Qa;exact h24 h)];rfl,rfl⟩
set_option maxHeartbeats 2000000 in
theorem zD(sb t:Nat)(m:Ad)(k:Int)(d:ByteArray)(R:HP)(hm:m.ok)(hi:Ag t m.s)(hd:d.size<1000000000):
  Fn Tryz.prog B 45 [ptr sb 0,.int .i64 k,.string d] (AS sb m*R)
   (fun v H'=>∃m':Ad,m'.ok∧m'.s=(m.s.write k d.data.toList).2∧v=.tuple #[iN (m.s.write k d.data.toList).1.1,iN (m.s.write k d.data.toList).1.2]∧H'=AS sb m'*R):=by
 refine mI Tryz.func45 ?_;refine Ap Zu ?_;have hdl:d.data.toList.length=d.size:=rfl;refine GA ?_;refine FC ?_;refine PH ?_;refine mC (fun h16=>?_) (fun h16=>?_)
 ·refine L1 ?_;refine J5 ?_;exact mR [6,7] (AS sb m*R) (hE:=by rw [Gu];infer_instance) rfl rfl ⟨m,hm,by unfold AK.write;rw [if_pos Mh],by unfold AK.write;rw [if_pos Mh];rfl,rfl⟩
 obtain⟨hcl,j,rfl,hj⟩:=I1 (by simpa using h16:EI m.x.closed k=0)
 have hjl:j<m.outs.length:=by rw [Ad.Mv hi];exact hj
 have hoo:=Ad.NV hi hj;have hom:=hm.outs _ GI;have eoj:=m.MZ j hjl;have hbl:=hoo.len
 have hof:¬m.s.of (j:Int)≠0:=by rw [QA];simpa using h16
 refine RY ?_;have hpr:=hoo.NK;have hrm:=hoo.room;have hw2:m.x.AG≤1024:=hi.w2;refine J7 ?_;refine Ps ?_;refine BV ?_;refine CU 29 rfl (fun hg1=>?_) (fun hg1=>?_)
 ·have h29:=hg1;refine Fh ?_;refine G8 ?_;refine GO ?_;refine Gv ?_;refine GA ?_;refine M4 ?_;exact mR [6,7] (AS sb m*R) (hE:=by rw [J0 sb m R j hjl];infer_instance) rfl rfl ⟨m,hm,by unfold AK.write;rw [if_neg hof,b_,eoj,if_pos Ns],by unfold AK.write;rw [if_neg hof,b_,eoj,if_pos Ns];rfl,rfl⟩
 have h29:=hg1;refine LQ ?_;refine Mn ?_;refine JK ?_;refine mc (fun h34=>?_) (fun h34=>?_)
 ·refine GA ?_;refine M4 ?_;exact mR [6,7] (AS sb m*R) (hE:=by rw [J0 sb m R j hjl];infer_instance) rfl rfl ⟨m,hm,by unfold AK.write;rw [if_neg hof,b_,eoj,if_pos Nh],by unfold AK.write;rw [if_neg hof,b_,eoj,if_pos Nh];rfl,rfl⟩
 refine J5 ?_;refine Zs ?_;refine gW ?_;refine E5 ?_;refine Ap (H':=Ab sb m.x*(AD m.oa.b m.oa.o m.outs m.oa.s*(HP.AA (m.outs.getD j AB.AC).q 0 (F5z (m.outs.getD j AB.AC))*(AH (m.outs.getD j AB.AC).cq (m.outs.getD j AB.AC).ca (m.outs.getD j AB.AC).o.AF*(BX BJ m.outs j*(Et m sb*R)))))) Cm ?_;refine mA 15 15 ?_;refine Hu ?_;refine Lb ?_;refine JW ?_;refine ML ?_;refine JT 9 rfl Ql ?_;refine Jm 10 ?_;refine JT 11 rfl I2 ?_;refine JT 12 rfl Kq ?_;refine JT 13 rfl Kq ?_;refine Ja 14 ?_;refine JD ?_;refine J9 ?_;refine JL Ql ?_;refine JL YK ?_;refine Hv ?_
 refine BO (α:=Unit) (fun _=>[(11,iN (min (m.x.AG-((m.outs.getD j AB.AC).o.data.length-(m.outs.getD j AB.AC).o.B2)) (4096-(m.outs.getD j AB.AC).o.data.length))),(9,ptr (m.outs.getD j AB.AC).q 0),(0,ptr sb 0),(2,.string d)]) (fun _=>Ab sb m.x*(AD m.oa.b m.oa.o m.outs m.oa.s*(HP.AA (m.outs.getD j AB.AC).q 0 (F5z (m.outs.getD j AB.AC))*(AH (m.outs.getD j AB.AC).cq (m.outs.getD j AB.AC).ca (m.outs.getD j AB.AC).o.AF*(BX BJ m.outs j*(Et m sb*R)))))) (fun _=>True) ?_ ?_
 ·refine mC (fun h58=>?_) (fun h58=>?_)
  ·refine J5 ?_;refine JL Ql ?_;refine JL YK ?_;refine J2 ?_;exact AU () trivial (.cons (congrArg (fun k=>some (iN k)) (q_ (k_ h58)).symm) CN) rfl
  refine J1 ?_;exact AU () trivial (.cons (congrArg (fun k=>some (iN k)) (r_ (f_ h58)).symm) CN) rfl
 ·rintro _ _;refine J7 ?_;refine JL (I' (i:=(min (m.x.AG-((m.outs.getD j AB.AC).o.data.length-(m.outs.getD j AB.AC).o.B2)) (4096-(m.outs.getD j AB.AC).o.data.length))) (j:=d.data.toList.length) rfl rfl) ?_;refine J2 ?_;refine BO (α:=Unit) (fun _=>[(11,iN (min (min (m.x.AG-((m.outs.getD j AB.AC).o.data.length-(m.outs.getD j AB.AC).o.B2)) (4096-(m.outs.getD j AB.AC).o.data.length)) d.data.toList.length)),(9,ptr (m.outs.getD j AB.AC).q 0),(0,ptr sb 0),(2,.string d)]) (fun _=>Ab sb m.x*(AD m.oa.b m.oa.o m.outs m.oa.s*(HP.AA (m.outs.getD j AB.AC).q 0 (F5z (m.outs.getD j AB.AC))*(AH (m.outs.getD j AB.AC).cq (m.outs.getD j AB.AC).ca (m.outs.getD j AB.AC).o.AF*(BX BJ m.outs j*(Et m sb*R)))))) (fun _=>True) ?_ ?_
  ·refine mC (fun h68=>?_) (fun h68=>?_)
   ·refine J5 ?_;exact AU () trivial (.cons (congrArg (fun k=>some (iN k)) (q_ (k_ h68)).symm) CN) rfl
   refine J1 ?_;exact AU () trivial (.cons (congrArg (fun k=>some (iN k)) (r_ (f_ h68)).symm) CN) rfl
  ·rintro _ _;have hnm:(min (min (m.x.AG-((m.outs.getD j AB.AC).o.data.length-(m.outs.getD j AB.AC).o.B2)) (4096-(m.outs.getD j AB.AC).o.data.length)) d.data.toList.length)≤d.data.toList.length:=Nat.min_le_right _ _;refine J2 ?_;refine mA 11 12 ?_;refine NC ?_;refine Jm 5 ?_;refine Jm 6 ?_;refine JT 7 rfl (kn rfl rfl hnm) ?_;refine JT 8 rfl (Br (v':=.string (BI ((m.outs.getD j AB.AC).o.data++d.data.toList.take (min (min (m.x.AG-((m.outs.getD j AB.AC).o.data.length-(m.outs.getD j AB.AC).o.B2)) (4096-(m.outs.getD j AB.AC).o.data.length)) d.data.toList.length)))) (pT rfl rfl (by rw [K4,show(d.extract 0 (min (min (m.x.AG-((m.outs.getD j AB.AC).o.data.length-(m.outs.getD j AB.AC).o.B2)) (4096-(m.outs.getD j AB.AC).o.data.length)) d.data.toList.length)).size=min (min (min (m.x.AG-((m.outs.getD j AB.AC).o.data.length-(m.outs.getD j AB.AC).o.B2)) (4096-(m.outs.getD j AB.AC).o.data.length)) d.data.toList.length) d.size-0 from ByteArray.size_extract];omega)) (by rw [←Zq];congr 2;rw [←Ry d,Xe,Ry];rfl)) ?_;refine YH ?_;refine J5 ?_
   refine CZ ?_
   have ewr:m.s.write (j:Int) d.data.toList=(((min (min (m.x.AG-((m.outs.getD j AB.AC).o.data.length-(m.outs.getD j AB.AC).o.B2)) (4096-(m.outs.getD j AB.AC).o.data.length)) d.data.toList.length),0),m.s.C0 j {(m.outs.getD j AB.AC).o with data:=(m.outs.getD j AB.AC).o.data++d.data.toList.take (min (min (m.x.AG-((m.outs.getD j AB.AC).o.data.length-(m.outs.getD j AB.AC).o.B2)) (4096-(m.outs.getD j AB.AC).o.data.length)) d.data.toList.length)}):=by
    unfold AK.write;rw [if_neg hof,b_,eoj,if_neg (by rw [h29,h34];simp)];unfold AK.GL;rw [eoj];rfl
   obtain⟨o2,ho2⟩:∃o2:DF,o2={(m.outs.getD j AB.AC)with o:={(m.outs.getD j AB.AC).o with data:=(m.outs.getD j AB.AC).o.data++d.data.toList.take (min (min (m.x.AG-((m.outs.getD j AB.AC).o.data.length-(m.outs.getD j AB.AC).o.B2)) (4096-(m.outs.getD j AB.AC).o.data.length)) d.data.toList.length)}}:=Bg
   have hok2:o2.ok:=by rw [ho2];exact hom
   exact mR [6,7] (AS sb (m.C0 j o2)*R) (hE:=⟨fun ww hw=>Eq.mp (by
    congr 1
    rw [OW sb m R j hjl o2 (by rw [ho2]),ho2]) hw⟩) rfl rfl ⟨m.C0 j o2,hm.C0 hok2,Vd,Cu,rfl⟩
theorem cw(sb t:Nat)(m:Ad)(k:Int)(R:HP)(hm:m.ok)(hi:Ag t m.s):
  Fn Tryz.prog B 46 [ptr sb 0,.int .i64 k] (AS sb m*R)
   (fun v H'=>∃m':Ad,m'.ok∧m'.s=(m.s.finish k).2∧v=iN (m.s.finish k).1∧H'=AS sb m'*R):=by
 refine mI Tryz.func46 ?_;refine Qn ?_;refine PH ?_;refine mC (fun h16=>?_) (fun h16=>?_)
 ·refine J8 ?_;exact mR [4] (AS sb m*R) (hE:=by rw [Gu];infer_instance) rfl rfl ⟨m,hm,by unfold AK.finish;rw [if_pos Mh],by unfold AK.finish;rw [if_pos Mh];rfl,rfl⟩
 obtain⟨hcl,j,rfl,hj⟩:=I1 (by simpa using h16:EI m.x.closed k=0)
 have hjl:j<m.outs.length:=by rw [Ad.Mv hi];exact hj
 have hoo:=Ad.NV hi hj;have hom:=hm.outs _ GI;have eoj:=m.MZ j hjl;have hbl:=hoo.len
 have hof:¬m.s.of (j:Int)≠0:=by rw [QA];simpa using h16
 refine RY ?_;refine J8 ?_;refine Ps ?_;refine J4 ?_;refine CU 22 rfl (fun hg1=>?_) (fun hg1=>?_)
 ·have h29:=hg1;refine Fh ?_;refine Fh ?_;refine Fh ?_;refine SJ ?_;refine M4 ?_;exact mR [4] (AS sb m*R) (hE:=by rw [J0 sb m R j hjl];infer_instance) rfl rfl ⟨m,hm,by unfold AK.finish;rw [if_neg hof,b_,eoj,if_pos Ns],by unfold AK.finish;rw [if_neg hof,b_,eoj,if_pos Ns];rfl,rfl⟩
 have h29:=hg1;refine LQ ?_;refine H4 ?_;refine JL Wi ?_;refine Ky ?_;refine JL Zh ?_;refine H4 ?_;refine JL W9 ?_;refine LQ ?_;refine JK ?_;refine mc (fun h34=>?_) (fun h34=>?_)
 ·refine J2 ?_;refine M4 ?_;exact mR [4] (AS sb m*R) (hE:=by rw [J0 sb m R j hjl];infer_instance) rfl rfl ⟨m,hm,by unfold AK.finish;rw [if_neg hof,b_,eoj,if_pos Nh],by unfold AK.finish;rw [if_neg hof,b_,eoj,if_pos Nh];rfl,rfl⟩
 refine J7 ?_;refine Ps ?_;refine J7 ?_;refine CZ ?_
 have ewr:m.s.finish (j:Int)=(0,m.s.C0 j {(m.outs.getD j AB.AC).o with finished:=true}):=by
  unfold AK.finish;rw [if_neg hof,b_,eoj,if_neg (by rw [h29,h34];simp)]
 obtain⟨o2,ho2⟩:∃o2:DF,o2={(m.outs.getD j AB.AC)with o:={(m.outs.getD j AB.AC).o with finished:=true}}:=Bg
 have hok2:o2.ok:=by rw [ho2];exact hom
 exact mR [4] (AS sb (m.C0 j o2)*R) (hE:=⟨fun ww hw=>Eq.mp (by
  congr 1
  rw [OW sb m R j hjl o2 (by rw [ho2]),ho2]) hw⟩) rfl rfl ⟨m.C0 j o2,hm.C0 hok2,Vd,Cu,rfl⟩
theorem yZ(sb t:Nat)(m:Ad)(k:Int)(code:Nat)(R:HP)(hm:m.ok)(hi:Ag t m.s):
  Fn Tryz.prog B 47 [ptr sb 0,.int .i64 k,uN code] (AS sb m*R)
   (fun v H'=>∃m':Ad,m'.ok∧m'.s=(m.s.giveUp k code).2∧v=iN (m.s.giveUp k code).1∧H'=AS sb m'*R):=by
 refine mI Tryz.func47 ?_;refine Qn ?_;refine PH ?_;refine mC (fun h16=>?_) (fun h16=>?_)
 ·refine J8 ?_;exact mR [6] (AS sb m*R) (hE:=by rw [Gu];infer_instance) rfl rfl ⟨m,hm,by unfold AK.giveUp;rw [if_pos Mh],by unfold AK.giveUp;rw [if_pos Mh];rfl,rfl⟩
 obtain⟨hcl,j,rfl,hj⟩:=I1 (by simpa using h16:EI m.x.closed k=0)
 have hjl:j<m.outs.length:=by rw [Ad.Mv hi];exact hj
 have hoo:=Ad.NV hi hj;have hom:=hm.outs _ GI;have eoj:=m.MZ j hjl;have hbl:=hoo.len
 have hof:¬m.s.of (j:Int)≠0:=by rw [QA];simpa using h16
 refine RY ?_;refine J7 ?_;refine Ps ?_;refine BV ?_;refine CU 26 rfl (fun hg1=>?_) (fun hg1=>?_)
 ·have h29:=hg1;refine G8 ?_;refine SJ ?_;refine M4 ?_;exact mR [6] (AS sb m*R) (hE:=by rw [J0 sb m R j hjl];infer_instance) rfl rfl ⟨m,hm,by unfold AK.giveUp;rw [if_neg hof,b_,eoj,if_pos Ns],by unfold AK.giveUp;rw [if_neg hof,b_,eoj,if_pos Ns];rfl,rfl⟩
 have h29:=hg1;refine Ky ?_;refine JL qN ?_;refine JK ?_;refine mC (fun h34=>?_) (fun h34=>?_)
 ·refine J2 ?_;refine M4 ?_;exact mR [6] (AS sb m*R) (hE:=by rw [J0 sb m R j hjl];infer_instance) rfl rfl ⟨m,hm,by unfold AK.giveUp;rw [if_neg hof,b_,eoj,if_pos Nh],by unfold AK.giveUp;rw [if_neg hof,b_,eoj,if_pos Nh];rfl,rfl⟩
 refine V? ?_;refine CZ ?_
 have ewr:m.s.giveUp (j:Int) code=(0,m.s.C0 j {(m.outs.getD j AB.AC).o with given:=true,code:=code,end_:=(m.outs.getD j AB.AC).o.high}):=by
  unfold AK.giveUp;rw [if_neg hof,b_,eoj,if_neg (fun h=>by rcases h with h|h;rw [h29]at h;cases h;exact h34 h)]
 obtain⟨o2,ho2⟩:∃o2:DF,o2={(m.outs.getD j AB.AC)with o:={(m.outs.getD j AB.AC).o with given:=true,code:=code,end_:=(m.outs.getD j AB.AC).o.high}}:=Bg
 have hok2:o2.ok:=by rw [ho2];exact hom
 exact mR [6] (AS sb (m.C0 j o2)*R) (hE:=⟨fun ww hw=>Eq.mp (by
  congr 1
  rw [OW sb m R j hjl o2 (by rw [ho2]),ho2]) hw⟩) rfl rfl ⟨m.C0 j o2,hm.C0 hok2,Vd,Cu,rfl⟩
theorem yK(sb t:Nat)(m:Ad)(k:Int)(R:HP)(hm:m.ok)(hi:Ag t m.s):
  Fn Tryz.prog B 51 [ptr sb 0,.int .i64 k] (AS sb m*R)
   (fun v H'=>v=.tuple #[iN (m.s.AF k).1,iN (m.s.AF k).2]∧H'=AS sb m*R):=by
 refine mI Tryz.func51 ?_;refine Qn ?_;refine FC ?_;refine PH ?_;refine mC (fun h16=>?_) (fun h16=>?_)
 ·refine L1 ?_;refine J5 ?_;exact mR [4,5] (AS sb m*R) (hE:=by rw [Gu];infer_instance) rfl rfl ⟨by unfold AK.AF;rw [if_pos Mh];rfl,rfl⟩
 obtain⟨hcl,j,rfl,hj⟩:=I1 (by simpa using h16:EI m.x.closed k=0)
 have hjl:j<m.outs.length:=by rw [Ad.Mv hi];exact hj
 have hoo:=Ad.NV hi hj;have hom:=hm.outs _ GI;have eoj:=m.MZ j hjl;have hbl:=hoo.len
 have hof:¬m.s.of (j:Int)≠0:=by rw [QA];simpa using h16
 refine RY ?_;have hpr:=hoo.NK;refine J7 ?_;refine Ps ?_;refine Zs ?_;refine gW ?_;refine Ha ?_;refine JL I2 ?_;refine J1 ?_;refine CZ ?_;exact mR [4,5] (AS sb m*R) (hE:=⟨fun ww hw=>Eq.mp Yz hw⟩) rfl rfl ⟨by unfold AK.AF;rw [if_neg hof,b_,eoj];rfl,rfl⟩
theorem wJ(sb:Nat)(m:Ad)(code:Nat)(R:HP)(hm:m.ok):
  Fn Tryz.prog B 50 [ptr sb 0,uN code] (AS sb m*R)
   (fun v H'=>∃m':Ad,m'.ok∧m'.s=(m.s.close code).2∧v=iN (m.s.close code).1∧H'=AS sb m'*R):=by
 refine mI Tryz.func50 ?_;refine Qn ?_;refine J9 ?_;refine JZ ?_;refine mC (fun h9=>?_) (fun h9=>?_)
 ·refine J2 ?_;refine JL Tk ?_;refine J4 ?_;exact mR [4] (AS sb m*R) (hE:=by rw [Gu];infer_instance) rfl rfl ⟨m,hm,by unfold AK.close;rw [if_pos (show m.s.closed≠0 from h9)],by unfold AK.close;rw [if_pos (show m.s.closed≠0 from h9)];rfl,rfl⟩
 refine J6 ?_;refine JL qN ?_;refine J2 ?_;refine mC (fun h11=>?_) (fun h11=>?_)
 ·refine J2 ?_;refine M4 ?_;exact mR [4] (AS sb m*R) (hE:=by rw [Gu];infer_instance) rfl rfl ⟨m,hm,by unfold AK.close;rw [if_neg (show ¬m.s.closed≠0 from h9),if_pos h11],by unfold AK.close;rw [if_neg (show ¬m.s.closed≠0 from h9),if_pos h11];rfl,rfl⟩
 refine J7 ?_;refine Bv gZ ?_;refine JR ?_;refine EP ?_;refine CZ ?_;exact mR [4] (AS sb (m.CF {m.x with closed:=9,code:=code})*R) (hE:=by rw [Gu];exact Il) rfl rfl ⟨m.CF {m.x with closed:=9,code:=code},{hm with},aE,aE,rfl⟩
theorem ZY(sb:Nat)(m:Ad)(R:HP):
  Fn Tryz.prog B 69 [ptr sb 0] (AS sb m*R) (fun v H'=>v=iN m.s.closed∧H'=AS sb m*R):=by
 refine mI Tryz.func69 ?_;refine Qn ?_;refine CR ?_;exact mR [2] (AS sb m*R) (hE:=by rw [Gu];infer_instance) rfl rfl CO
end
section
variable{B:World}
theorem eX(xs:List Bool):AE xs=xs.map h_:=by
 induction xs with
 |nil=>rfl
 |cons x xs ih=>show [h_ x]++AE xs=_;rw [ih];rfl
instance updBool(b o i:Nat)(xs:List Bool)(s:List Value)(v:Bool):C5 (AD b o xs s) b (o+i*1) (.bool v) (AD b o (xs.set i v) s) (i<xs.length):=
 ⟨fun r hr hi=>by
  have hfl:(AE xs).length=xs.length:=by rw [CD];show xs.length*1=_;omega
  have h:NT (AE xs++s) i (.bool v) ((AE xs++s).set i (.bool v)):=⟨aC,rfl⟩
  have h2:=(inferInstance:C5 (HP.AA b o (AE xs++s)) b (o+i) (.bool v) (HP.AA b o ((AE xs++s).set i (.bool v))) True).upd r hr trivial
  rw [Nat.mul_one]
  refine⟨h2.1,?_⟩
  have e:AE (xs.set i v)++s=(AE xs++s).set i (.bool v):=by rw [List.set_append_left _ _ Cg];congr 1;rw [eX,eX,xr]
  unfold AD
  rw [e]
  exact h2.2⟩
section
variable{P:Program}{n:Nat}{E:A6}{D:CK}{H:HP}{d:Option Tmp}{T T' ty:TypeId}{pos:String}{af:Array Edge}{g:Option (Nat×Bool)}{x y z u:Operand}
theorem xW{s:ByteArray}{i:Nat}{ik:IntKind}[hT:Ar P T .string](hx:ev E x=some (.string s))(hy:ev E y=some (.int ik i))(hi:i<s.size):
  Aa P B n ⟨d,.index T x y,ty,pos,af,g⟩ E H (u8 (s.data.toList.getD i 0)):=by
 intro a w he _
 have h0:(0:Int)≤(i:Nat):=by omega
 have h1:s[i]?=some s[i]:=by simp [hi]
 simp only [execOp,he.ev hx,he.ev hy,Instr.index,asIntOf,Sem.run_bind,Sem.run_pure,Result.andThen_ok,Bx hT.get,h0,if_true,b_,h1]
 have h2:s.data.toList.getD i 0=s[i]:=by
  rw [c_,Array.getElem?_toList]
  have:s.data[i]?=some s[i]:=by
   have h3:i<s.data.size:=hi;rw [Array.getElem?_eq_getElem h3];rfl
  rw [this];rfl
 rw [h2]
end
theorem aG(ds:List UInt8)(off:Nat)(data:List UInt8)(there:List Bool)(i:Nat)(hi:i<ds.length):
  GR (ds.drop i) (off+i) data there=if there.getD (off+i) false then GR (ds.drop (i+1)) (off+(i+1)) data there else GR (ds.drop (i+1)) (off+(i+1)) (data.set (off+i) (ds.getD i 0)) (there.set (off+i) true):=by
 have e:ds.getD i 0=ds[i]:=by rw [c_,e_ hi];rfl
 rw [n_ hi,GR,e];rfl
set_option maxHeartbeats 4000000 in
theorem U! (sb t:Nat)(m:Ad)(r:RF)(R:HP)(hm:m.ok)(hi:Ag t m.s)(ht:t<1000000)(hf:E1 r.f)(h5:r.f.kind=5)(hb:(m.s.i r.f.stream.toNat).given=false→r.f.offset+r.f.data.size≤(m.s.i r.f.stream.toNat).read+m.s.AG):
  Fn Tryz.prog B 127 [ptr sb 0,.agg (AI r).toArray] (AS sb m*R)
   (fun v H'=>∃m':Ad,m'.ok∧m'.s=m.s.Cb r.f.stream.toNat ((m.s.i r.f.stream.toNat).bytes r.f).2∧v=iN ((m.s.i r.f.stream.toNat).bytes r.f).1∧H'=AS sb m'*R):=by
 refine mI Tryz.func127 ?_;refine Ap (H':=AS sb m*R) rfl ?_
 obtain⟨j,hst⟩:∃j:Nat,r.f.stream=(j:Int):=⟨_,(Int.toNat_of_nonneg hf.1).symm⟩
 have hj:j<4:=(by have:=hf.2.1;omega)
 have hjl:j<m.ins.length:=by rw [Ad.QZ hi];exact hj
 have hxo:=Ad.We hi hj;have hxm:=hm.ins _ GI;have exj:=m.PK j hjl;have hof:=hf.2.2.2.1;have hoe:=hf.2.2.2.2.1 h5;have hdsz:r.f.data.data.toList.length=r.f.data.size:=rfl;have hrt:=hxo.rt;have hhw:=hxo.hw;have hw2:m.x.AG≤1024:=hi.w2;have hdl:=hxo.dl;have htl:=hxo.tl;have hen:=hxo.en
 have eby:m.s.i r.f.stream.toNat=(m.ins.getD j AB.AC).x:=by rw [hst,b_,exj]
 rw [eby]at hb⊢;rw [show r.f.stream.toNat=j by rw [hst,b_]];have hb:(m.ins.getD j AB.AC).x.given=false→(r.f.offset+r.f.data.size)≤(m.ins.getD j AB.AC).x.read+m.x.AG:=hb;refine J2 ?_;refine AV cI rfl ?_;rintro _ _ ⟨b3,rfl,rfl⟩;refine JL MX ?_;refine J3 ?_;refine Ap (H':=Ab sb m.x*(AD m.ia.b m.ia.o m.ins m.ia.s*(HP.AA (m.ins.getD j AB.AC).q 0 (Hx (m.ins.getD j AB.AC))*(AD (m.ins.getD j AB.AC).a.b (m.ins.getD j AB.AC).a.o (m.ins.getD j AB.AC).x.data (m.ins.getD j AB.AC).a.s*(AD (m.ins.getD j AB.AC).b.b (m.ins.getD j AB.AC).b.o (m.ins.getD j AB.AC).x.there (m.ins.getD j AB.AC).b.s*(BX BC m.ins j*(HP.AA b3 0 (AI r)*(Do m sb*R)))))))) jU ?_;refine mA 9 9 ?_;refine Jm 0 ?_;refine Jn 1 ?_;refine Jf 2 ?_;refine XQ ?_;refine JD ?_;refine J8 ?_;refine Qf ?_;refine J5 ?_
 refine BO (α:=Unit) (fun _=>[(59,.bool (decide (Ma (m.ins.getD j AB.AC).x.ended (m.ins.getD j AB.AC).x.end_ (m.ins.getD j AB.AC).x.high r.f))),(5,ptr (m.ins.getD j AB.AC).q 0),(6,uN (r.f.offset+r.f.data.size)),(3,ptr b3 0),(0,ptr sb 0)]) (fun _=>Ab sb m.x*(AD m.ia.b m.ia.o m.ins m.ia.s*(HP.AA (m.ins.getD j AB.AC).q 0 (Hx (m.ins.getD j AB.AC))*(AD (m.ins.getD j AB.AC).a.b (m.ins.getD j AB.AC).a.o (m.ins.getD j AB.AC).x.data (m.ins.getD j AB.AC).a.s*(AD (m.ins.getD j AB.AC).b.b (m.ins.getD j AB.AC).b.o (m.ins.getD j AB.AC).x.there (m.ins.getD j AB.AC).b.s*(BX BC m.ins j*(HP.AA b3 0 (AI r)*(Do m sb*R)))))))) (fun _=>True) ?_ ?_
 ·refine J6 ?_;refine CU 28 rfl (fun hg1=>?_) (fun hg1=>?_)
  ·have hed:=hg1;refine LQ ?_;refine Im ?_;refine K1 ?_;refine Mn ?_;refine CJ 35 rfl (fun hg2=>?_) (fun hg2=>?_)
   ·have h35:=hg2;refine rQ ?_;refine Hc ?_;refine Kl ?_;refine IY ?_;refine Ga ?_;refine Ig ?_;refine J1 ?_;exact AU () trivial (.cons (congrArg (fun bb=>some (h_ bb)) ((decide_eq_true (.inl ⟨hed,.inl h35⟩)).symm)) BR) rfl
   have h35:=hg2;refine UH ?_;refine J1 ?_;refine JG F2 ?_;refine J1 ?_;refine CU 38 rfl (fun hg3=>?_) (fun hg3=>?_)
   ·have hfi:=hg3;refine cB ?_;refine J1 ?_;refine CJ 48 rfl (fun hg4=>?_) (fun hg4=>?_)
    ·have h48:=hg4;refine XJ ?_;refine Kl ?_;refine IY ?_;refine JH T4 ?_;refine JL Io ?_;refine J1 ?_;exact AU () trivial (.cons (congrArg (fun bb=>some (h_ bb)) ((decide_eq_true (.inl ⟨hed,.inr ⟨hfi,h48⟩⟩)).symm)) BR) rfl
    have h48:=hg4;refine Rv ?_;refine J1 ?_;refine JG F4 ?_;refine J1 ?_;refine CU 51 rfl (fun hg5=>?_) (fun hg5=>?_)
    ·have hf2:=hg5;refine nG ?_;refine nG ?_;refine JG F4 ?_;refine JL WI ?_;refine JL IE ?_;refine J1 ?_;exact AU () trivial (.cons (congrArg (fun bb=>some (h_ bb)) (decide_eq_decide.2 ⟨fun h=>.inr ⟨hfi,h⟩,fun h=>by rcases h with⟨_,h|h⟩|h;exact absurd h h35;exact absurd h.2 h48;exact h.2⟩)) BR) rfl
    have hf2:=hg5;refine lN ?_;refine lN ?_;refine JG F4 ?_;refine JL YQ ?_;refine JL IE ?_;refine J1 ?_;exact AU () trivial Yt rfl
   have hfi:=hg3;refine ZZ ?_;refine UI ?_;refine Mk ?_;refine CU 51 rfl (fun hg6=>?_) (fun hg6=>?_)
   ·have hf2:=hg6;refine SN ?_;refine SN ?_;refine SN ?_;refine KB ?_;refine JL Uf ?_;refine M' ?_;exact AU () trivial Yt rfl
   have hf2:=hg6;refine jJ ?_;refine jJ ?_;refine KB ?_;refine JL Qz ?_;refine M' ?_;exact AU () trivial (.cons (congrArg (fun bb=>some (h_ bb)) ((decide_eq_false (fun h=>by rcases h with⟨_,h|h⟩|h;exact h35 h;rw [hfi]at h;cases h.1;rw [hfi]at h;cases h.1)).symm)) BR) rfl
  have hed:=hg1;refine Fh ?_;refine Fh ?_;refine G8 ?_;refine Kl ?_;refine Kl ?_;refine G8 ?_;refine NH ?_;refine UI ?_;refine Mk ?_;refine CU 51 rfl (fun hg7=>?_) (fun hg7=>?_)
  ·have hf2:=hg7;refine YX ?_;refine YX ?_;refine KB ?_;refine JL (Fs hg7 rfl rfl) ?_;refine M' ?_;exact AU () trivial (.cons (congrArg (fun bb=>some (h_ bb)) (decide_eq_decide.2 ⟨fun h=>.inr ⟨hf2,h⟩,fun h=>by rcases h with⟨h,_⟩|h;rw [hed]at h;cases h;exact h.2⟩)) BR) rfl
  have hf2:=hg7;refine cQ ?_;refine cQ ?_;refine KB ?_;refine JL (Fe hg7 rfl rfl) ?_;refine M' ?_;exact AU () trivial (.cons (congrArg (fun bb=>some (h_ bb)) ((decide_eq_false (fun h=>by rcases h with⟨h,_⟩|h;rw [hed]at h;cases h;rw [hf2]at h;cases h.1)).symm)) BR) rfl
 ·rintro _ _;refine J1 ?_;refine mC (fun h59=>?_) (fun h59=>?_)
  ·refine J2 ?_;refine JL PX ?_;refine J4 ?_
   have hsame:m.s.Cb j (m.ins.getD j AB.AC).x=m.s:=by
    unfold AK.Cb
    have h7:m.s.ins.set j (m.ins.getD j AB.AC).x=m.s.ins:=by
     rw [←exj];show m.s.ins.set j (m.s.ins.getD j IF)=_;exact O8 _ _ _ (by rw [hi.il];exact hj)
    rw [h7]
   have ebt:(m.ins.getD j AB.AC).x.bytes r.f=(7,(m.ins.getD j AB.AC).x):=by unfold DI.bytes;rw [if_pos h59]
   exact rA
  refine BV ?_;refine mc (fun h63=>?_) (fun h63=>?_)
  ·refine GA ?_;refine J4 ?_
   have hsame:m.s.Cb j (m.ins.getD j AB.AC).x=m.s:=by
    unfold AK.Cb
    have h7:m.s.ins.set j (m.ins.getD j AB.AC).x=m.s.ins:=by
     rw [←exj];show m.s.ins.set j (m.s.ins.getD j IF)=_;exact O8 _ _ _ (by rw [hi.il];exact hj)
    rw [h7]
   have ebt:(m.ins.getD j AB.AC).x.bytes r.f=(0,(m.ins.getD j AB.AC).x):=by unfold DI.bytes;rw [if_neg h59,if_pos h63]
   exact rA
  have hble:=hb h63;refine By ?_;refine Hv ?_;refine BO (α:=Unit) (fun _=>[(5,ptr (m.ins.getD j AB.AC).q 0),(6,uN (r.f.offset+r.f.data.size)),(3,ptr b3 0),(0,ptr sb 0)]) (fun _=>Ab sb m.x*(AD m.ia.b m.ia.o m.ins m.ia.s*(HP.AA (m.ins.getD j AB.AC).q 0 [.slice (m.ins.getD j AB.AC).a.p (m.ins.getD j AB.AC).x.data.length (m.ins.getD j AB.AC).a.c,.slice (m.ins.getD j AB.AC).b.p (m.ins.getD j AB.AC).x.there.length (m.ins.getD j AB.AC).b.c,uN (max (m.ins.getD j AB.AC).x.high (r.f.offset+r.f.data.size)),uN (m.ins.getD j AB.AC).x.end_,.bool (m.ins.getD j AB.AC).x.ended,.bool (m.ins.getD j AB.AC).x.given,uN (m.ins.getD j AB.AC).x.code,uN (m.ins.getD j AB.AC).x.read,iN (m.ins.getD j AB.AC).x.state]*(AD (m.ins.getD j AB.AC).a.b (m.ins.getD j AB.AC).a.o (m.ins.getD j AB.AC).x.data (m.ins.getD j AB.AC).a.s*(AD (m.ins.getD j AB.AC).b.b (m.ins.getD j AB.AC).b.o (m.ins.getD j AB.AC).x.there (m.ins.getD j AB.AC).b.s*(BX BC m.ins j*(HP.AA b3 0 (AI r)*(Do m sb*R)))))))) (fun _=>True) ?_ ?_
  ·refine mC (fun h69=>?_) (fun h69=>?_)
   ·refine J7 ?_;exact AU () trivial BR (by rw [p_ (k_ h69)])
   refine J1 ?_;exact AU () trivial BR (by rw [q' (f_ h69)])
  ·rintro _ _;refine J8 ?_;refine BO (α:=Unit) (fun _=>[(5,ptr (m.ins.getD j AB.AC).q 0),(6,uN (r.f.offset+r.f.data.size)),(3,ptr b3 0),(0,ptr sb 0)]) (fun _=>Ab sb m.x*(AD m.ia.b m.ia.o m.ins m.ia.s*(HP.AA (m.ins.getD j AB.AC).q 0 [.slice (m.ins.getD j AB.AC).a.p (m.ins.getD j AB.AC).x.data.length (m.ins.getD j AB.AC).a.c,.slice (m.ins.getD j AB.AC).b.p (m.ins.getD j AB.AC).x.there.length (m.ins.getD j AB.AC).b.c,uN (max (m.ins.getD j AB.AC).x.high (r.f.offset+r.f.data.size)),uN (if r.f.fin then(r.f.offset+r.f.data.size)else(m.ins.getD j AB.AC).x.end_),.bool ((m.ins.getD j AB.AC).x.ended||r.f.fin),.bool (m.ins.getD j AB.AC).x.given,uN (m.ins.getD j AB.AC).x.code,uN (m.ins.getD j AB.AC).x.read,iN (m.ins.getD j AB.AC).x.state]*(AD (m.ins.getD j AB.AC).a.b (m.ins.getD j AB.AC).a.o (m.ins.getD j AB.AC).x.data (m.ins.getD j AB.AC).a.s*(AD (m.ins.getD j AB.AC).b.b (m.ins.getD j AB.AC).b.o (m.ins.getD j AB.AC).x.there (m.ins.getD j AB.AC).b.s*(BX BC m.ins j*(HP.AA b3 0 (AI r)*(Do m sb*R)))))))) (fun _=>True) ?_ ?_
   ·refine mc (fun h75=>?_) (fun h75=>?_)
    ·refine Iw ?_;exact AU () trivial BR (by rw [h75,Bool.or_true];rfl)
    refine J1 ?_;exact AU () trivial BR (by rw [h75,Bool.or_false];rfl)
   ·rintro _ _;refine J3 ?_
    refine BL (α:=Nat×Ae×Ae) (fun z=>[(5,ptr (m.ins.getD j AB.AC).q 0),(6,uN (r.f.offset+r.f.data.size)),(3,ptr b3 0),(0,ptr sb 0)]) (fun z=>Ab sb m.x*(AD m.ia.b m.ia.o m.ins m.ia.s*(HP.AA (m.ins.getD j AB.AC).q 0 [.slice z.2.1.p ((m.ins.getD j AB.AC).x.data++a_ z.1 (0:UInt8)).length z.2.1.c,.slice z.2.2.p ((m.ins.getD j AB.AC).x.there++a_ z.1 false).length z.2.2.c,uN (max (m.ins.getD j AB.AC).x.high (r.f.offset+r.f.data.size)),uN (if r.f.fin then(r.f.offset+r.f.data.size)else(m.ins.getD j AB.AC).x.end_),.bool ((m.ins.getD j AB.AC).x.ended||r.f.fin),.bool (m.ins.getD j AB.AC).x.given,uN (m.ins.getD j AB.AC).x.code,uN (m.ins.getD j AB.AC).x.read,iN (m.ins.getD j AB.AC).x.state]*(AD z.2.1.b z.2.1.o ((m.ins.getD j AB.AC).x.data++a_ z.1 (0:UInt8)) z.2.1.s*(AD z.2.2.b z.2.2.o ((m.ins.getD j AB.AC).x.there++a_ z.1 false) z.2.2.s*(BX BC m.ins j*(HP.AA b3 0 (AI r)*(Do m sb*R)))))))) (fun z=>(m.ins.getD j AB.AC).x.data.length+z.1≤(max (m.ins.getD j AB.AC).x.high (r.f.offset+r.f.data.size))∧z.2.1.ok ((m.ins.getD j AB.AC).x.data++a_ z.1 (0:UInt8))∧z.2.2.ok ((m.ins.getD j AB.AC).x.there++a_ z.1 false)) (fun z=>(max (m.ins.getD j AB.AC).x.high (r.f.offset+r.f.data.size))-((m.ins.getD j AB.AC).x.data.length+z.1)) (0,(m.ins.getD j AB.AC).a,(m.ins.getD j AB.AC).b) ⟨by show(m.ins.getD j AB.AC).x.data.length+0≤(max (m.ins.getD j AB.AC).x.high (r.f.offset+r.f.data.size));omega,by simpa using hxm.1,by simpa using hxm.2⟩ BR (by simp only [List.replicate_zero,j_]) ?_
    rintro⟨k,a1,b1⟩ ⟨hk1,ha1,hb1⟩;dsimp only at hk1 ha1 hb1⊢
    have hl1:((m.ins.getD j AB.AC).x.data++a_ k (0:UInt8)).length=(m.ins.getD j AB.AC).x.data.length+k:=by rw [w_,s_]
    have hl2:((m.ins.getD j AB.AC).x.there++a_ k false).length=(m.ins.getD j AB.AC).x.there.length+k:=by rw [w_,s_]
    refine J2 ?_;refine mA 11 11 ?_;refine MK ?_;refine JT 4 rfl (Br Dm (by rw [hl1])) ?_;refine JT 5 rfl EM ?_;refine OY ?_;refine JT 10 rfl MI ?_;refine EU ?_;refine mC (fun h93=>?_) (fun h93=>?_)
    ·have h93:(m.ins.getD j AB.AC).x.data.length+k<(max (m.ins.getD j AB.AC).x.high (r.f.offset+r.f.data.size)):=h93;refine By ?_;refine AV aD rfl ?_;rintro _ _ ⟨b99,rfl,rfl⟩;refine Aw (H':=AD a1.b a1.o ((m.ins.getD j AB.AC).x.data++a_ k (0:UInt8)) a1.s*(HP.AA b99 0 (AE [(0:UInt8)])*(Ab sb m.x*(AD m.ia.b m.ia.o m.ins m.ia.s*(HP.AA (m.ins.getD j AB.AC).q 0 [.slice a1.p ((m.ins.getD j AB.AC).x.data++a_ k (0:UInt8)).length a1.c,.slice b1.p ((m.ins.getD j AB.AC).x.there++a_ k false).length b1.c,uN (max (m.ins.getD j AB.AC).x.high (r.f.offset+r.f.data.size)),uN (if r.f.fin then(r.f.offset+r.f.data.size)else(m.ins.getD j AB.AC).x.end_),.bool ((m.ins.getD j AB.AC).x.ended||r.f.fin),.bool (m.ins.getD j AB.AC).x.given,uN (m.ins.getD j AB.AC).x.code,uN (m.ins.getD j AB.AC).x.read,iN (m.ins.getD j AB.AC).x.state]*(AD b1.b b1.o ((m.ins.getD j AB.AC).x.there++a_ k false) b1.s*(BX BC m.ins j*(HP.AA b3 0 (AI r)*(Do m sb*R))))))))) (by show HP.AA b99 0 _*_=_;ac_rfl) ?_;refine AV (Bf (ys:=[(0:UInt8)]) (bb:=b99) (oo:=0) (cc:=1) rfl ha1.1 ha1.2 rfl Bc inferInstance rfl Cs Cg) rfl ?_;rintro _ _ ⟨p100,b100,o100,c100,s100,rfl,hs100,hc100,rfl⟩;refine BV ?_
     refine AV (E4 (cs:=[.bool false]) rfl Cr rfl rfl) rfl ?_;rintro _ _ ⟨b108,rfl,rfl⟩;refine Aw (H':=AD b1.b b1.o ((m.ins.getD j AB.AC).x.there++a_ k false) b1.s*(HP.AA b108 0 (AE [false])*(AD b100 o100 (((m.ins.getD j AB.AC).x.data++a_ k (0:UInt8))++[0]) s100*(HP.AA b99 0 (AE [(0:UInt8)])*(Ab sb m.x*(AD m.ia.b m.ia.o m.ins m.ia.s*(HP.AA (m.ins.getD j AB.AC).q 0 [.slice p100 (((m.ins.getD j AB.AC).x.data++a_ k (0:UInt8))++[0]).length c100,.slice b1.p ((m.ins.getD j AB.AC).x.there++a_ k false).length b1.c,uN (max (m.ins.getD j AB.AC).x.high (r.f.offset+r.f.data.size)),uN (if r.f.fin then(r.f.offset+r.f.data.size)else(m.ins.getD j AB.AC).x.end_),.bool ((m.ins.getD j AB.AC).x.ended||r.f.fin),.bool (m.ins.getD j AB.AC).x.given,uN (m.ins.getD j AB.AC).x.code,uN (m.ins.getD j AB.AC).x.read,iN (m.ins.getD j AB.AC).x.state]*(BX BC m.ins j*(HP.AA b3 0 (AI r)*(Do m sb*R)))))))))) (by show HP.AA b108 0 _*_=_;ac_rfl) ?_;refine AV (Bf (ys:=[false]) (bb:=b108) (oo:=0) (cc:=1) rfl hb1.1 hb1.2 rfl Bc inferInstance rfl Cs Cg) rfl ?_;rintro _ _ ⟨p109,b109,o109,c109,s109,rfl,hs109,hc109,rfl⟩;refine J5 ?_
     have e1:((m.ins.getD j AB.AC).x.data++a_ k (0:UInt8))++[0]=((m.ins.getD j AB.AC).x.data++a_ (k+1) (0:UInt8)):=by rw [g',u_]
     have e2:((m.ins.getD j AB.AC).x.there++a_ k false)++[false]=((m.ins.getD j AB.AC).x.there++a_ (k+1) false):=by rw [g',u_]
     rw [e1]at hs100 hc100;rw [e2]at hs109 hc109;refine Au (Ab sb m.x*(AD m.ia.b m.ia.o m.ins m.ia.s*(HP.AA (m.ins.getD j AB.AC).q 0 [.slice (⟨p100,b100,o100,c100,s100⟩:Ae).p ((m.ins.getD j AB.AC).x.data++a_ (k+1) (0:UInt8)).length (⟨p100,b100,o100,c100,s100⟩:Ae).c,.slice (⟨p109,b109,o109,c109,s109⟩:Ae).p ((m.ins.getD j AB.AC).x.there++a_ (k+1) false).length (⟨p109,b109,o109,c109,s109⟩:Ae).c,uN (max (m.ins.getD j AB.AC).x.high (r.f.offset+r.f.data.size)),uN (if r.f.fin then(r.f.offset+r.f.data.size)else(m.ins.getD j AB.AC).x.end_),.bool ((m.ins.getD j AB.AC).x.ended||r.f.fin),.bool (m.ins.getD j AB.AC).x.given,uN (m.ins.getD j AB.AC).x.code,uN (m.ins.getD j AB.AC).x.read,iN (m.ins.getD j AB.AC).x.state]*(AD (⟨p100,b100,o100,c100,s100⟩:Ae).b (⟨p100,b100,o100,c100,s100⟩:Ae).o ((m.ins.getD j AB.AC).x.data++a_ (k+1) (0:UInt8)) (⟨p100,b100,o100,c100,s100⟩:Ae).s*(AD (⟨p109,b109,o109,c109,s109⟩:Ae).b (⟨p109,b109,o109,c109,s109⟩:Ae).o ((m.ins.getD j AB.AC).x.there++a_ (k+1) false) (⟨p109,b109,o109,c109,s109⟩:Ae).s*(BX BC m.ins j*(HP.AA b3 0 (AI r)*(Do m sb*R)))))))) (hE:=⟨fun ww hw=>Sat.right (A:=HP.AA b99 0 (AE [(0:UInt8)])*HP.AA b108 0 (AE [false])) (Eq.mp (by congr 1;rw [e1,e2];ac_rfl) hw)⟩) ?_
     exact At (k+1,⟨p100,b100,o100,c100,s100⟩,⟨p109,b109,o109,c109,s109⟩) ⟨by show(m.ins.getD j AB.AC).x.data.length+(k+1)≤(max (m.ins.getD j AB.AC).x.high (r.f.offset+r.f.data.size));omega,⟨hs100,hc100⟩,⟨hs109,hc109⟩⟩ (by show(max (m.ins.getD j AB.AC).x.high (r.f.offset+r.f.data.size))-((m.ins.getD j AB.AC).x.data.length+(k+1))<(max (m.ins.getD j AB.AC).x.high (r.f.offset+r.f.data.size))-((m.ins.getD j AB.AC).x.data.length+k);omega) BR rfl
    have h93:¬(m.ins.getD j AB.AC).x.data.length+k<(max (m.ins.getD j AB.AC).x.high (r.f.offset+r.f.data.size)):=h93
    obtain rfl:k=(max (m.ins.getD j AB.AC).x.high (r.f.offset+r.f.data.size))-(m.ins.getD j AB.AC).x.data.length:=by omega
    have hl1:((m.ins.getD j AB.AC).x.data++a_ ((max (m.ins.getD j AB.AC).x.high (r.f.offset+r.f.data.size))-(m.ins.getD j AB.AC).x.data.length) (0:UInt8)).length=(max (m.ins.getD j AB.AC).x.high (r.f.offset+r.f.data.size)):=by rw [hl1];omega
    have hl2:((m.ins.getD j AB.AC).x.there++a_ ((max (m.ins.getD j AB.AC).x.high (r.f.offset+r.f.data.size))-(m.ins.getD j AB.AC).x.data.length) false).length=(max (m.ins.getD j AB.AC).x.high (r.f.offset+r.f.data.size)):=by rw [hl2];omega
    generalize hD0:((m.ins.getD j AB.AC).x.data++a_ ((max (m.ins.getD j AB.AC).x.high (r.f.offset+r.f.data.size))-(m.ins.getD j AB.AC).x.data.length) (0:UInt8))=D0 at*;generalize hT0:((m.ins.getD j AB.AC).x.there++a_ ((max (m.ins.getD j AB.AC).x.high (r.f.offset+r.f.data.size))-(m.ins.getD j AB.AC).x.data.length) false)=T0 at*;refine J8 ?_;refine JL MX ?_;refine J3 ?_
    refine BL (α:=Nat×List UInt8×List Bool) (fun z=>[(7,iN z.1),(5,ptr (m.ins.getD j AB.AC).q 0),(6,uN (r.f.offset+r.f.data.size)),(3,ptr b3 0),(0,ptr sb 0)]) (fun z=>Ab sb m.x*(AD m.ia.b m.ia.o m.ins m.ia.s*(HP.AA (m.ins.getD j AB.AC).q 0 [.slice a1.p D0.length a1.c,.slice b1.p T0.length b1.c,uN (max (m.ins.getD j AB.AC).x.high (r.f.offset+r.f.data.size)),uN (if r.f.fin then(r.f.offset+r.f.data.size)else(m.ins.getD j AB.AC).x.end_),.bool ((m.ins.getD j AB.AC).x.ended||r.f.fin),.bool (m.ins.getD j AB.AC).x.given,uN (m.ins.getD j AB.AC).x.code,uN (m.ins.getD j AB.AC).x.read,iN (m.ins.getD j AB.AC).x.state]*(AD a1.b a1.o z.2.1 a1.s*(AD b1.b b1.o z.2.2 b1.s*(BX BC m.ins j*(HP.AA b3 0 (AI r)*(Do m sb*R)))))))) (fun z=>z.1≤r.f.data.size∧z.2.1.length=(max (m.ins.getD j AB.AC).x.high (r.f.offset+r.f.data.size))∧z.2.2.length=(max (m.ins.getD j AB.AC).x.high (r.f.offset+r.f.data.size))∧GR (r.f.data.data.toList.drop z.1) (r.f.offset+z.1) z.2.1 z.2.2=GR r.f.data.data.toList r.f.offset D0 T0) (fun z=>r.f.data.size-z.1) (0,D0,T0) ⟨l_ _,hl1,hl2,rfl⟩ D' rfl ?_;rintro⟨i,d1,t1⟩ ⟨hi1,hd1,ht1,hpu⟩;dsimp only at hi1 hd1 ht1 hpu⊢;refine By ?_;refine mC (fun h116=>?_) (fun h116=>?_)
    ·have h116:i<r.f.data.size:=h116;refine J9 ?_;refine Qf ?_;refine By ?_;refine JL rJ ?_;refine JL (DT (f:=0) (xs:=t1) rfl inferInstance rfl Cg) ?_;refine Eb ?_;refine mc (fun h131=>?_) (fun h131=>?_)
     ·skip
      have h131:¬t1.getD (r.f.offset+i) false=true:=(by intro h7;have h8:(!t1.getD (r.f.offset+i) false)=true:=h131;rw [h7]at h8;cases h8)
      refine J1 ?_;refine Dc (Ab sb m.x*(AD m.ia.b m.ia.o m.ins m.ia.s*(HP.AA (m.ins.getD j AB.AC).q 0 [.slice a1.p D0.length a1.c,.slice b1.p T0.length b1.c,uN (max (m.ins.getD j AB.AC).x.high (r.f.offset+r.f.data.size)),uN (if r.f.fin then(r.f.offset+r.f.data.size)else(m.ins.getD j AB.AC).x.end_),.bool ((m.ins.getD j AB.AC).x.ended||r.f.fin),.bool (m.ins.getD j AB.AC).x.given,uN (m.ins.getD j AB.AC).x.code,uN (m.ins.getD j AB.AC).x.read,iN (m.ins.getD j AB.AC).x.state]*(AD b1.b b1.o t1 b1.s*(BX BC m.ins j*(HP.AA b3 0 (AI r)*(Do m sb*R))))))) 10 11 Dg rfl Ch ?_;refine JF ?_;refine Jf 5 ?_;refine Jd 6 ?_;refine Jm 7 ?_;refine JT 8 rfl (xW rfl rfl h116) ?_;refine JT 9 rfl (Bm (i:=r.f.offset+i) rfl rfl (show Sl a1.p a1.b a1.o D0.length a1.c from ha1.1) Cg) ?_;refine D9 10 Ch rfl (EG (v:=u8 (r.f.data.data.toList.getD i 0)) rfl rfl rfl Cg) ?_;refine Dw ?_;refine J7 ?_;refine JL rJ ?_;refine Bv (EG (v:=.bool true) rfl rfl rfl Cg) ?_;refine JR ?_;refine Fu ?_
      first
       |exact At (i+1,d1.set (r.f.offset+i) (r.f.data.data.toList.getD i 0),t1.set (r.f.offset+i) true) ⟨Cg,eJ,nC,aQ⟩ Tx D' rfl
       |exact At (i+1,d1,t1) ⟨Cg,hd1,ht1,Y4⟩ Tx D' rfl
     have h131:t1.getD (r.f.offset+i) false=true:=(by have h8:(!t1.getD (r.f.offset+i) false)=false:=h131;simpa using h8)
     refine Fu ?_
     first
      |exact At (i+1,d1.set (r.f.offset+i) (r.f.data.data.toList.getD i 0),t1.set (r.f.offset+i) true) ⟨Cg,eJ,nC,aQ⟩ Tx D' rfl
      |exact At (i+1,d1,t1) ⟨Cg,hd1,ht1,Y4⟩ Tx D' rfl
    obtain rfl:i=r.f.data.size:=by have h7:¬i<r.f.data.size:=h116;omega
    refine J7 ?_;refine CZ ?_;rw [show r.f.data.data.toList.drop r.f.data.size=[]from List.drop_eq_nil_of_le D3]at hpu
    have hpu2:(m.ins.getD j AB.AC).x.put r.f=(d1,t1):=by
     unfold DI.put
     have e7:(m.ins.getD j AB.AC).x.there.length=(m.ins.getD j AB.AC).x.data.length:=by rw [htl,hdl]
     rw [hD0,hT0,←hpu];rfl
    have ebt:(m.ins.getD j AB.AC).x.bytes r.f=(0,(m.ins.getD j AB.AC).x.Rq r.f):=by unfold DI.bytes;rw [if_neg h59,if_neg (by rw [h63];simp)]
    obtain⟨x2,hx2⟩:∃x2:D6,x2={(m.ins.getD j AB.AC)with x:=(m.ins.getD j AB.AC).x.Rq r.f,a:=a1,b:=b1}:=Bg
    have hok2:x2.ok:=by
     rw [hx2];refine⟨?_,?_⟩
     ·show a1.ok ((m.ins.getD j AB.AC).x.put r.f).1;rw [hpu2];unfold Ae.ok at ha1⊢;rw [hl1]at ha1;rw [hd1];exact ha1
     ·show b1.ok ((m.ins.getD j AB.AC).x.put r.f).2;rw [hpu2];unfold Ae.ok at hb1⊢;rw [hl2]at hb1;rw [ht1];exact hb1
    exact mR [4] (AS sb (m.Cb j x2)*R) (hE:=⟨fun ww hw=>Sat.right (A:=HP.AA b3 0 (AI r)) (Eq.mp (by
     congr 1
     rw [YO sb m R j hjl x2 (by rw [hx2]),hx2]
     unfold Hx DI.Rq
     dsimp only
     rw [hpu2,hl1,hl2]
     dsimp only
     rw [hd1,ht1]
     unfold Ae.h
     ac_rfl) hw)⟩) rfl rfl ⟨m.Cb j x2,hm.Cb hok2,by rw [ebt,Ad.XD,hx2],by rw [ebt];rfl,rfl⟩
end
end Go.Proofs.YtgfdlpcdjklcoaaGreatDoor
