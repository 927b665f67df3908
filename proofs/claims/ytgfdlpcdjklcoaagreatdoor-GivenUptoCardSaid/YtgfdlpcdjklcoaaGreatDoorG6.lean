/- A part of this proof: steps of the program, plain facts; no condition. -/
import Derived.Test.YtgfdlpcdjklcoaaGreatDoorG5
import Derived.Lib.Overlaps
import Derived.LaidEql
import Derived.Stop.Asserts
namespace Go.Proofs.YtgfdlpcdjklcoaaGreatDoor
open Go Go.RowKit
open _root_.List renaming length_append→a_,length_drop→b_,length_take→c_,length_cons→d_,append_assoc→f_,drop_eq_nil_of_le→g_,getD_eq_getElem?_getD→g',getElem?_eq_getElem→h_,take_left'→i_,nil_append→j_,take_append_drop→ki,drop_append→kn,length_eq_zero_iff→kp,drop_length→kq,drop_succ_cons→kv,drop_drop→kx,take_zero→ky,map_toArray→lh,length_singleton→lj,take_succ_cons→ll,getElem_of_mem→lm,drop_left'→lz,map_cons→l_,drop_one→ma,map_nil→me,range→mh
open _root_.Go.Builtin renaming zeroCells→e_,firstCells→kf,append_→ly,min_→mf,min2→mg
open _root_.Go.Result renaming andThen→kg,andThen_ok→lf
open _root_.Prod renaming snd→kh
open _root_.Nat renaming mul_le_mul_right→kj,eq_or_lt_of_le→ko,add_mul→kr,min_eq_left→kt,add_sub_cancel→k_,le_mul_of_pos_right→li,lt_or_ge→ln,min_eq_right→lu,zero_lt_succ→lw,zero_le→lx,blt→mb,le_trans→md
open _root_.Go.Sem renaming run_bind→km,run_pure→lq
open _root_.Bool renaming eq_iff_iff→ku,false_eq_true→ld,true_eq→lr
open _root_.Go.Question renaming appendCap→kw,cut→mj
set_option linter.unusedVariables false
set_option linter.unusedSimpArgs false
set_option maxRecDepth 20000
section
theorem Sat.qY{B:World}{b o:Nat}{l:List Value}{R:HP}{w:World}(hl:l≠ [])(h:Sat B (HP.AA b o l*R) w):b<w.heap.size:=by
 obtain⟨_,r,hr,hlies⟩:=h.left;obtain rfl:r=_:=hr
 cases l with
 |nil=>exact absurd rfl hl
 |cons v vs=>
  have h2:=hlies.cell b o v Ce;rcases ln b w.heap.size with h3|h3
  ·exact h3
  ·simp [World.cell?,Array.getElem?_eq_none h3]at h2
theorem Sat.oL{B:World}{b o:Nat}{l:List Value}{R:HP}{w:World}(hl:l≠ [])(h:Sat B (HP.AA b o l*R) w):∃t k,w.shape? b=some (t,k)∧k≠0:=by
 obtain⟨_,r,hr,hlies⟩:=h.left;obtain rfl:r=_:=hr
 cases l with
 |nil=>exact absurd rfl hl
 |cons v vs=>
  have h2:=hlies.cell b o v Ce;unfold World.cell? at h2;unfold World.shape?;split at h2
  ·rename_i c t f e;simp only []at e;rw [e];refine⟨t,c.size,rfl,?_⟩;intro h0
   have:c= #[]:=by simpa using h0
   subst this;simp at h2
  ·cases h2
section
variable{P:Program}{B:World}{n:Nat}{E:A5}{D:B6}{H R:HP}{d:Option Tmp}{T T' ty:TypeId}{pos:String}{af:Array Edge}{g:Option (Nat×Bool)}{x y z:Operand}
theorem lN{len sz e:Nat}{ps:List (Nat×Operand)}{vs:List (Nat×Value)}{zv:Value}{cs:List Value}[hT:Az P T (.slice e)][hz:Bp P e sz][h0:Bb P e zv]
  (hx:Jv E ps=some vs)(hf:Instr.fill (fun i=>some (i*sz,sz)) ((Array.range (len*sz)).map fun i=>zv.cells[i%zv.cells.size]!) vs=some cs.toArray)(hb:Nat.ble (len*sz) 16777216=true)(hp:mb 0 (len*sz)=true):
  CU P B n ⟨d,.buildSlice T len ps.toArray,ty,pos,af,g⟩ E D H (fun v H'=>∃b,v=.slice (some ⟨b,0,none⟩) len len∧(∀b2 o2 l2 R2,l2≠ []→H=HP.AA b2 o2 l2*R2→b≠b2)∧H'=HP.fresh b*(HP.AA b 0 cs*H)):=by
 intro a w h1 _ h3 K Q hk
 have hb':¬len*sz> 2^24:=by have:=Nat.le_of_ble_eq_true hb;omega
 have hp':¬len*sz=0:=by
  have:0<len*sz:=by simpa using hp
  omega
 have hm:(ps.toArray.map fun(i,x)=>(i,a.eval x)).toList=vs:=by
  rw [lh];exact UD h1 hx
 have hrun:(execOp a.eval ⟨d,.buildSlice T len ps.toArray,ty,pos,af,g⟩).run P w=.ok (.value (.slice (some ⟨w.heap.size,0,none⟩) len len)) (w.alloc (.cells cs.toArray e)):=by
  simp only [execOp,Instr.buildSlice,km,Br hT.get,lf,hz.get,hb',if_false,hp',h0.get,lq,hm,hf,newRow];rfl
 simp only [Oper.wp,hrun,Oper.upon];refine hk _ _ _ ⟨w.heap.size,rfl,?_,rfl⟩ (h3.sQ cs.toArray e);intro b2 o2 l2 R2 hl he;subst he
 have:=h3.qY hl
 omega
theorem zW{b b2 o2:Nat}{la ca lb cb:Nat}{l2:List Value}{R2:HP}{tS tR e sz:Nat}(hT:P.underlying tS=some (.slice e))(hz:∀w,(Go.sizeOf e).run P w=.ok sz w)(hne:b≠b2)(hl:l2≠ [])
  (h:H=HP.fresh b*(HP.AA b2 o2 l2*R2)){oo:Nat}(w:World)(hw:Sat B H w):
  (Extern.SlicesOverlaps.overlaps #[tS,tS] #[tR] #[.slice (some ⟨b,0,none⟩) la ca,.slice (some ⟨b2,oo,none⟩) lb cb]).run P w=.ok (.bool false) w:=by
 subst h;obtain⟨c,t,lo,hb⟩:=hw.fresh;obtain⟨t2,k2,hs2,hk2⟩:=hw.right.oL hl;refine Lib.run_overlaps_apart w tS tR e hT sz hz ⟨b,0,none⟩ ⟨b2,oo,none⟩ la ca lb cb hne t t2 c.size k2 ?_ hs2 hk2 ?_ ?_
 ·simp [World.shape?,hb]
 ·simp [World.frozen?,hb]
 ·simp [World.frozen?,hb]
end
section
variable{P:Program}{B:World}{n:Nat}{E:A5}{D:B6}{R:HP}{α:Type}[AC α]
theorem wT{d:Option Tmp}{sT xT ty e by_ m:Nat}{pos:String}{af:Array Edge}{g:Option (Nat×Bool)}{x y:Operand}{b o c:Nat}{p:Option Addr}
  {xs:List α}{s:List Value}{z:Value}[hT:Az P sT (.slice e)][hT2:Az P xT (.int .i64)][hz:Bp P e (AC.sz α)][hi:FP P e by_][h0:Bb P e z]
  (hx:ev E x=some (.slice p xs.length c))(hs:Sl p b o xs.length c)
  (hy:ev E y=some (.int .i64 m))(hzc:z.cells.size=AC.sz α)(hzp:0<AC.sz α)
  (hb:(xs.length+m)*by_≤140737488355328)(hby:0<by_)(hm:0<m)(hgr:c<xs.length+m):
  CU P B n ⟨d,.call ⟨.builtin .append,#[x,y],#[sT,xT]⟩,ty,pos,af,g⟩ E D (AB b o xs s*R)
   (fun v H'=>∃b' c' s',v=.slice (some ⟨b',0,none⟩) (xs.length+m) c'∧xs.length+m≤c'∧(AG xs++s').length=c'*AC.sz α∧H'=HP.AA b' 0 (AG xs++s')*(AB b o xs s*R)):=by
 intro a w h1 _ h3 K Q hk;obtain⟨inf,hinf,rfl⟩:=hi.get;have hmb:m≤m*inf.bytes:=li m hby;have hb2:m*inf.bytes≤(xs.length+m)*inf.bytes:=kj _ Ca
 have hg:¬281474976710656<Builtin.nextslicecap (xs.length+m) c*inf.bytes:=by
  have:=growslice_fits (old:=c) Ca hb;omega
 have hfo:(kw (xs.length+m) c e).forced=false:=rfl
 have hold:(kf (AC.sz α) xs.length (.slice p xs.length c)).run P w.drew=.ok (AG xs).toArray w.drew:=by
  have hwd:Sat B (AB b o xs s*R) w.drew:=h3.Il;rcases hs.1 with h4|rfl
  ·have hx0:xs=[]:=kp.1 Cj;subst hx0;cases p<;>simp [kf,AG,loadCells,loadCellsFrom]
  ·simp only [kf];exact Ai.run (H:=AB b o xs s*R) inferInstance hwd
 obtain⟨N,hN⟩:∃N,N=(kw (xs.length+m) c e).cut (w.tape w.drawn (kw (xs.length+m) c e)):=Bl
 have hle:xs.length+m≤N:=by rw [hN];simp [mj]
 have hw1:IntKind.i64.wrap (m:Int)=m:=IntWalk.i64_in _ Ca
 have hneg:¬((m:Int)<0):=by omega
 have hn0:m≠0:=by omega
 have hns:¬(m*AC.sz α=0):=Nat.mul_ne_zero Ca Ca;have hxb:xs.length+m≤(xs.length+m)*inf.bytes:=li _ hby
 have h63':¬(9223372036854775807<(xs.length:Int)+(m:Int)):=by omega
 have hnn:¬(xs.length+m≤c):=by omega
 have h48:¬(281474976710656<(m:Int)*(inf.bytes:Int)):=by rw [←Int.natCast_mul];omega
 have hrun:(ly #[sT,xT] ty #[.slice p xs.length c,.int .i64 m]).run P w=.ok (.slice (some ⟨w.heap.size,0,none⟩) (xs.length+m) N) (w.drew.alloc (.cells ((AG xs).toArray++(e_ z.cells m++e_ z.cells (N-(xs.length+m)))) e)):=by
  simp [ly,Br hT.get,Br hT2.get,asInt,asIntOf,hw1,hz.get,hinf,h0.get,hneg,hn0,h63',h48,hns,hnn,hg,hfo,hold,newRow,←hN]
 have hrun2:(execOp a.eval ⟨d,.call ⟨.builtin .append,#[x,y],#[sT,xT]⟩,ty,pos,af,g⟩).run P w=.ok (.value (.slice (some ⟨w.heap.size,0,none⟩) (xs.length+m) N)) (w.drew.alloc (.cells ((AG xs).toArray++(e_ z.cells m++e_ z.cells (N-(xs.length+m)))) e)):=by
  simp [execOp,resolve,h1.ev hx,h1.ev hy,invoke,builtin,hrun]
 simp only [Oper.wp,hrun2,Oper.upon];have hall:=(show Sat B (AB b o xs s*R) w.drew from h3.Il).alloc ((AG xs).toArray++(e_ z.cells m++e_ z.cells (N-(xs.length+m)))) e;refine hk _ _ _ ⟨w.heap.size,N,(e_ z.cells m++e_ z.cells (N-(xs.length+m))).toList,rfl,hle,?_,rfl⟩ ?_
 ·rw [a_,Array.toList_append,a_,Vg hzc,Vg hzc,By,←kr,←kr];congr 1;omega
 ·have e2:((AG xs).toArray++(e_ z.cells m++e_ z.cells (N-(xs.length+m)))).toList=AG xs++(e_ z.cells m++e_ z.cells (N-(xs.length+m))).toList:=by simp
  rw [e2]at hall;exact hall
theorem TI(b o m:Nat)(L:List Value)(h:m≤L.length):HP.AA b o L=HP.AA b o (L.take m)*HP.AA b (o+m) (L.drop m):=by
 conv=>lhs;rw [←ki m L]
 rw [HP.Fa,c_,kt h]
theorem NB{d:Option Tmp}{sT xT ty e:Nat}{pos:String}{af:Array Edge}{g:Option (Nat×Bool)}{x y:Operand}{b o bb oo dl dc cc k k2:Nat}{p pp:Option Addr}{ys:List α}{L:List Value}[hT:Az P sT (.slice e)][hz:Bp P e (AC.sz α)]
  (hx:ev E x=some (.slice p dl dc))(hs:Sl p b (o+k*AC.sz α) dl dc)(hy:ev E y=some (.slice pp k2 cc))(hs2:Sl pp bb oo k2 cc)(hr:Ai B (HP.AA b o L*R) bb oo ys)(hm:ys.length=min k2 dl)
  (hl:(k+dl)*AC.sz α≤L.length):
  CU P B n ⟨d,.call ⟨.builtin .copy,#[x,y],#[sT,xT]⟩,ty,pos,af,g⟩ E D (HP.AA b o L*R)
   (fun v H'=>v=.int .i64 (ys.length:Nat)∧H'=HP.AA b o (L.take (k*AC.sz α)++AG ys++L.drop ((k+ys.length)*AC.sz α))*R):=by
 intro a w h1 _ h3 K Q hk;have hm2:Nat.min k2 dl=ys.length:=hm.symm;have hkl:k*AC.sz α≤L.length:=md (kj _ Ca) hl
 have hf:(kf (AC.sz α) ys.length (.slice pp k2 cc)).run P w=.ok (AG ys).toArray w:=by
  rcases hs2.1 with h4|rfl
  ·have hx0:ys=[]:=kp.1 (by have:=hs2.2;omega);subst hx0;cases pp<;>simp [kf,AG,loadCells,loadCellsFrom]
  ·simp only [kf];exact hr.run (P:=P) h3
 have hw2:∃w',((match p with|some q=>storeCells q (AG ys)|none=>pure ()).run P w)=.ok () w'∧
   Sat B (HP.AA b o (L.take (k*AC.sz α)++AG ys++L.drop ((k+ys.length)*AC.sz α))*R) w':=by
  rcases hs.1 with h4|rfl
  ·have hd0:ys=[]:=kp.1 Cj;subst hd0;refine⟨w,?_,by simpa [AG]using h3⟩;cases p<;>simp [AG,storeCells]
  ·rw [TI b o (k*AC.sz α) L hkl,HP.assoc,HP.CV]at h3
   have hle:(AG ys).length≤(L.drop (k*AC.sz α)).length:=by
    rw [By,b_]
    have:ys.length*AC.sz α≤dl*AC.sz α:=kj _ Ca
    rw [kr]at hl;omega
   obtain⟨w',k1,k2⟩:=Sat.Jw (P:=P) (AG ys) (o+k*AC.sz α) 0 (L.drop (k*AC.sz α)) _ w hle (KS _) h3;refine⟨w',k1,?_⟩;rw [HP.CV,←HP.assoc,kx]at k2
   have e1:(k+ys.length)*AC.sz α=k*AC.sz α+(AG ys).length:=by rw [By,kr]
   have e2:(L.take (k*AC.sz α)).length=k*AC.sz α:=by rw [c_];omega
   have e3:HP.AA b o (L.take (k*AC.sz α)++AG ys++L.drop ((k+ys.length)*AC.sz α))=HP.AA b o (L.take (k*AC.sz α))*HP.AA b (o+k*AC.sz α) (AG ys++L.drop (k*AC.sz α+(AG ys).length)):=by
    rw [e1,f_,HP.Fa,e2]
   rw [e3]
   first|exact k2|(rw [Nat.add_comm]at k2;exact k2)
 obtain⟨w',k1,k2⟩:=hw2
 have hrun:(execOp a.eval ⟨d,.call ⟨.builtin .copy,#[x,y],#[sT,xT]⟩,ty,pos,af,g⟩).run P w=.ok (.value (.int .i64 (ys.length:Nat))) w':=by
  simp only [execOp,resolve,lh,l_,me,h1.ev hx,h1.ev hy,km,lq,lf,invoke,builtin];simp only [Builtin.copy_];simp [Br hT.get,Builtin.lenOf,hm2,hz.get,hf];cases p<;>simp_all [goInt]
 simp only [Oper.wp,hrun,Oper.upon];exact hk _ _ _ BY k2
theorem O8{sT ty e b o k m c sz:Nat}{pos:String}{af:Array Edge}{g:Option (Nat×Bool)}{x:Operand}{p:Option Addr}{L:List Value}{zv:Value}[hT:Az P sT (.slice e)][hz:Bp P e sz][h0:Bb P e zv]
  (hx:ev E x=some (.slice p m c))(hs:Sl p b (o+k*sz) m c)(hl:(k+m)*sz≤L.length)(hzc:zv.cells.size=sz)(hone:∀v∈zv.cells.toList,v.oneCell'=true):
  CU P B n ⟨none,.call ⟨.builtin .clear,#[x],#[sT]⟩,ty,pos,af,g⟩ E D (HP.AA b o L*R) (fun v H'=>∃L',L'.length=L.length∧L'.take (k*sz)=L.take (k*sz)∧L'.drop ((k+m)*sz)=L.drop ((k+m)*sz)∧H'=HP.AA b o L'*R):=by
 intro a w h1 h2 h3 K Q hk;have hkl:k*sz≤L.length:=md (kj _ Ca) hl;rw [kr]at hl;rw [TI b o (k*sz) L hkl,HP.assoc,HP.CV]at h3;refine r7 (P:=P) (B:=B) (n:=n) (E:=E) (D:=D) (hT:=hT) (hz:=hz) (h0:=h0) (ty:=ty) (b:=b) (o:=o+k*sz) (l:=L.drop (k*sz)) hx hs Q6 hzc hone a w h1 h2 h3 K Q fun v H' w' hp hw'=>?_;obtain⟨l',k1,k2,rfl⟩:=hp
 have e2:(L.take (k*sz)).length=k*sz:=by rw [c_];omega
 refine hk v _ w' ⟨L.take (k*sz)++l',by rw [a_,e2,k1,b_];omega,by rw [i_ e2],?_,rfl⟩ ?_
 ·rw [kr,kn,g_ Ca,e2,j_,show k*sz+m*sz-k*sz=m*sz by omega,k2,kx]
 ·rw [HP.Fa,e2,HP.assoc,HP.CV];exact hw'
theorem u7(b o c l sz:Nat):∃oo,sp (some ⟨b,o,none⟩) c l sz=some ⟨b,oo,none⟩:=by
 unfold sp;split
 ·exact⟨o,rfl⟩
 ·by_cases e2:l*sz=0
  ·exact⟨o,by simp [Addr.add,e2]⟩
  ·exact⟨o+l*sz,by simp [Addr.add,e2]⟩
end
section
variable{P:Program}{B:World}{n:Nat}{E:A5}{H:HP}{d:Option Tmp}{T T' T'' ty:TypeId}{pos:String}{af:Array Edge}{g:Option (Nat×Bool)}{x y u:Operand}
theorem T7{k:IntKind}{i j:Nat}(hx:ev E x=some (.int k i))(hy:ev E y=some (.int k j)):Af P B n ⟨d,.call ⟨.builtin .min,#[x,y],#[T,T']⟩,ty,pos,af,g⟩ E H (.int k (min i j:Nat)):=by
 intro a w he _
 have h1:(if(i:Int)≤j then Value.int k i else Value.int k j)=.int k (min i j:Nat):=by
  by_cases h:i≤j
  ·rw [if_pos Ca,kt h]
  ·rw [if_neg Ca,lu Ca]
 simp [execOp,he.ev hx,he.ev hy,resolve,invoke,builtin,mf,mg,←h1]
 try split<;>simp_all<;>omega
theorem w8{k:IntKind}{i j m:Nat}(hx:ev E x=some (.int k i))(hy:ev E y=some (.int k j))(hu:ev E u=some (.int k m)):Af P B n ⟨d,.call ⟨.builtin .min,#[x,y,u],#[T,T',T'']⟩,ty,pos,af,g⟩ E H (.int k (min (min i j) m:Nat)):=by
 intro a w he _
 have h0:∀i j:Nat,(if(j:Int)<i then(j:Int)else i)=(min i j:Nat):=by
  intro i j;by_cases h:j<i
  ·rw [if_pos Ca,lu Ca]
  ·rw [if_neg Ca,kt Ca]
 simp only [execOp,he.ev hx,he.ev hy,he.ev hu,resolve,invoke,builtin,mf,lh,l_,me,List.foldlM_cons,List.foldlM_nil,mg,pure_bind,km,lq,lf,h0]
theorem jR{k:IntKind}{i j:Nat}(hx:ev E x=some (.int k i))(hy:ev E y=some (.int k j)):Af P B n ⟨d,.call ⟨.builtin .max,#[x,y],#[T,T']⟩,ty,pos,af,g⟩ E H (.int k (max i j:Nat)):=by
 intro a w he _
 have h1:(if(j:Int)≤i then Value.int k i else Value.int k j)=.int k (max i j:Nat):=by
  by_cases h:j≤i
  ·rw [if_pos Ca,Nat.max_eq_left h]
  ·rw [if_neg Ca,Nat.max_eq_right Ca]
 simp [execOp,he.ev hx,he.ev hy,resolve,invoke,builtin,Builtin.max_,Builtin.max2,←h1]
 try split<;>simp_all<;>omega
end
end
section
variable{B:World}
instance:Gq Tryz.prog 209 (Extern.SlicesOverlaps.overlaps #[142,142] #[4]):=
 ⟨@run_callFunc_extern Tryz.prog 209 _ _ Tryz.func209 Cb Cb Cb Cb⟩
theorem OB{α:Type}[AC α](l:List α)(k:Nat)(s:List Value)(h:k≤l.length):(AG l++s).take (k*AC.sz α)=AG (l.take k):=by
 conv=>lhs;rw [←ki k l,E7,f_]
 exact i_ ZT
theorem S5{α:Type}[AC α](l:List α)(k:Nat)(s:List Value)(h:k≤l.length):(AG l++s).drop (k*AC.sz α)=AG (l.drop k)++s:=by
 conv=>lhs;rw [←ki k l,E7,f_]
 exact lz ZT
theorem Nu{α:Type}[AC α]{b o:Nat}{L s:List Value}{xs:List α}(h:L=AG xs++s):HP.AA b o L=AB b o xs s:=by unfold AB;rw [h]
theorem Ou{α:Type}[AC α]{L:List Value}{xs:List α}{k:Nat}(h:L.take (k*AC.sz α)=AG xs):L=AG xs++L.drop (k*AC.sz α):=by
 conv=>lhs;rw [←ki (k*AC.sz α) L,h]
theorem E3{p:Option Addr}{b o k c l h sz m:Nat}(hs:Sl p b o k c)(hl:l≤h)(hh:h≤c)(hm:m=h-l):Sl (sp p c l sz) b (o+l*sz) m (c-l):=by
 subst hm;exact Ln hs hl hh
theorem K_(l:List AT)(r:AT)(i:Nat)(p:Option Addr)(b o c bv:Nat)(s:List Value)(R:HP)(hs:Sl p b o l.length c)(hc:l.length*2+s.length=c*2)(hi:i≤l.length)(hl:l.length<100000)(hne:0<c→bv≠b):
  Fn Tryz.prog B 208 [.slice p l.length c,iN i,.slice (some ⟨bv,0,none⟩) 1 1] (HP.fresh bv*(HP.AA bv 0 (AG [r])*(AB b o l s*R))) (fun v H'=>CB R (l.take i++r::l.drop i) v H'):=by
 refine mI Tryz.func208 ?_;refine J9 ?_;refine JL (LK rfl rfl hi) ?_;refine Fe ?_;refine JL (CN (i:=1) (j:=0) rfl rfl) ?_;refine J2 ?_;refine mC (fun h16=>?_) (fun h16=>?_)
 ·omega
 refine HI ?_;refine JL Np ?_;refine J2 ?_;refine mC (fun he=>?_) (fun he=>?_)
 ·refine J4 ?_;refine BQ (H':=AB b o l s*(HP.fresh bv*(HP.AA bv 0 (AG [r])*R))) Cg ?_;refine Am (DG (ys:=[r]) (bb:=bv) (oo:=0) (cc:=1) rfl hs hc rfl CS inferInstance rfl Cn Ca) rfl ?_;rintro _ _ ⟨p',b',o',c',s',rfl,hs',hc',rfl⟩;refine J5 ?_;exact mR [6] (AB b' o' (l++[r]) s'*R) rfl rfl ⟨p',b',o',c',s',by rw [he];simp;rfl,by rw [he];simpa using hs',by rw [he];simpa using hc',by rw [he];simp⟩
 refine J7 ?_;refine D7 ?_;refine Lq ?_;refine mC (fun hg=>?_) (fun hg=>?_)
 ·refine J4 ?_;refine JL VL ?_;refine J2 ?_;refine KC ?_;refine J1 ?_;refine JL MU ?_
  have hti:(l.take i).length=i:=by rw [c_];omega
  refine BQ (H':=AB b o (l.take i) (AG (l.drop i)++s)*(HP.fresh bv*(HP.AA bv 0 (AG [r])*R))) Y9 ?_;refine Am (wT (α:=AT) (xs:=l.take i) (m:=l.length+1-i) rfl ⟨hs.1,Cj⟩ rfl rfl Cc Ca Ca Ca Ca) rfl ?_;rintro _ _ ⟨b',c',s',rfl,hc1,hc2,rfl⟩;rw [hti]at hc1;rw [hti];refine BQ (H':=HP.AA b' 0 (AG (l.take i)++s')*(AB b o l s*(HP.fresh bv*(HP.AA bv 0 (AG [r])*R)))) eT ?_
  have hls:i*2+s'.length=c'*2:=by
   have:=hc2
   rw [a_,By,hti]at this;exact this
  refine J7 ?_;refine JL Ij ?_;refine J1 ?_;refine Am (NB (α:=AT) (ys:=[r]) (k:=i) (bb:=bv) (oo:=0) (b:=b') (o:=0) rfl (E3 (h:=i+(l.length+1-i)) (⟨.inr rfl,hc1⟩:Sl (some ⟨b',0,none⟩) b' 0 (i+(l.length+1-i)) c') Ca hc1 Ca) rfl CS inferInstance Cn (by rw [a_,By,hti];show(i+(i+(l.length+1-i)-i))*2≤i*2+s'.length;omega)) rfl ?_;refine JR ?_
  have e45:(AG (l.take i)++s').take (i*2)++AG [r]++(AG (l.take i)++s').drop ((i+1)*2)=AG (l.take i++[r])++s'.drop 2:=by
   have h1:(AG (l.take i)).length=i*2:=by rw [By,hti];rfl
   rw [i_ h1,kn,g_ Ca,h1,show(i+1)*2-i*2=2 by omega,j_,E7]
  refine BQ (H':=HP.AA b' 0 (AG (l.take i++[r])++s'.drop 2)*(AB b o l s*(HP.fresh bv*(HP.AA bv 0 (AG [r])*R)))) (by rw [←e45];rfl) ?_;refine J3 ?_;refine Yy ?_;refine JT 7 rfl (LK rfl rfl hi) ?_;refine Av 8 Cb rfl rfl (NB (α:=AT) (ys:=l.drop i) (k:=i+1) (b:=b') (o:=0) (bb:=b) (oo:=o+i*2) (k2:=l.length-i) (cc:=c-i) (pp:=sp p c i 2) rfl (E3 (h:=i+(l.length+1-i)) (⟨.inr rfl,hc1⟩:Sl (some ⟨b',0,none⟩) b' 0 (i+(l.length+1-i)) c') Ca hc1 rfl) rfl (E3 hs hi hs.2 rfl) (let _:Ai B (HP.AA b' 0 (AG (l.take i++[r])++s'.drop 2)*(AB b o l s*(HP.fresh bv*(HP.AA bv 0 (AG [r])*R)))) b o l:=inferInstance;Ai.Ke (α:=AT) inferInstance i) Q6 (by rw [a_,By,a_,hti,b_];show(i+1+(i+(l.length+1-i)-(i+1)))*2≤(i+1)*2+(s'.length-2);omega)) ?_;refine JR ?_;have hld:(l.drop i).length=l.length-i:=b_
  have e54:(AG (l.take i++[r])++s'.drop 2).take ((i+1)*2)++AG (l.drop i)++(AG (l.take i++[r])++s'.drop 2).drop ((i+1+(l.drop i).length)*2)=AG (l.take i++r::l.drop i)++s'.drop (2+(l.length-i)*2):=by
   have h1:(AG (l.take i++[r])).length=(i+1)*2:=by rw [By,a_,hti];rfl
   have h5:(AG (l.take i++[r])).drop ((i+1+(l.length-i))*2)=[]:=g_ (by rw [h1];omega);rw [i_ h1,hld,kn,h5,h1,show(i+1+(l.length-i))*2-(i+1)*2=(l.length-i)*2 by omega,j_,kx,←E7,f_];rfl
  refine Dc ?_;refine Dm ?_;refine Au (H':=AB b' 0 (l.take i++r::l.drop i) (s'.drop (2+(l.length-i)*2))*(AB b o l s*(HP.fresh bv*(HP.AA bv 0 (AG [r])*R)))) (by unfold AB;rw [←e54];rfl) ?_;refine J7 ?_;exact mR [6] (AB b' 0 (l.take i++r::l.drop i) (s'.drop (2+(l.length-i)*2))*R) rfl rfl ⟨some ⟨b',0,none⟩,b',0,c',_,by show Value.slice _ _ _=_;congr 1;rw [a_,hti,d_,hld];omega,⟨.inr rfl,by rw [a_,hti,d_,hld];omega⟩,by rw [a_,hti,d_,hld,b_];show(i+(l.length-i+1))*2+_=c'*2;omega,rfl⟩
 refine J7 ?_;refine KC ?_;refine JL (PB (k':=l.length+1) rfl rfl Ca rfl) ?_;refine J6 ?_
 have hcp:0<c:=by omega
 obtain rfl:p=some ⟨b,o,none⟩:=hs.1.resolve_left Ca;refine J4 ?_;refine KC ?_;refine JL Ij ?_;obtain⟨oo,eoo⟩:=u7 b o c (i+1) 2;refine JL (I6 (v:=.bool false) rfl (fun w hw=>by have:=zW (tR:=4) (la:=1) (ca:=1) (lb:=l.length+1-(i+1)) (cb:=c-(i+1)) (oo:=oo) Tryz.underlying142 (Bp.get) (hne hcp) (l2:=AG l++s) (by intro h0;have:=congrArg List.length h0;rw [a_,By]at this;have h7:l.length*2+s.length=0:=this;omega) (R2:=HP.AA bv 0 (AG [r])*R) R8 w hw;rw [eoo];exact this)) ?_;refine JP ?_;refine mc (fun h68=>?_) (fun h68=>?_);rotate_left
 ·cases h68
 refine J1 ?_;refine Yv ?_;refine Yy ?_;refine JT 7 rfl Ij ?_;refine Av 8 Cb rfl rfl (NB (α:=AT) (ys:=l.drop i) (k:=i+1) (b:=b) (o:=o) (bb:=b) (oo:=o+i*2) (k2:=l.length+1-i) (cc:=c-i) rfl (E3 (k:=l.length) (h:=l.length+1) hs Ca Ca rfl) rfl (E3 (k:=l.length) (h:=l.length+1) hs Ca Ca rfl) (let _:Ai B (HP.AA b o (AG l++s)*(HP.fresh bv*(HP.AA bv 0 (AG [r])*R))) b o l:=(inferInstance:Ai B (AB b o l s*_) b o l);Ai.Ke (α:=AT) inferInstance i) Q6 (by rw [a_,By];show(i+1+(l.length+1-(i+1)))*2≤l.length*2+s.length;omega)) ?_;refine Kf ?_;have hld:(l.drop i).length=l.length-i:=b_;have h1:(AG l).length=l.length*2:=By l
 refine Au (H':=HP.AA b o ((AG l++s).take ((i+1)*2)++AG (l.drop i)++s.drop 2)*(HP.fresh bv*(HP.AA bv 0 (AG [r])*R))) (by congr 2;rw [hld];show _=(AG l++s).take ((i+1)*2)++AG (l.drop i)++s.drop 2;congr 1;show(AG l++s).drop ((i+1+(l.length-i))*2)=_;rw [kn,g_ Ca,h1,show(i+1+(l.length-i))*2-l.length*2=2 by omega,j_]) ?_;refine J3 ?_;refine JL Ij ?_;refine J1 ?_;refine Am (NB (α:=AT) (ys:=[r]) (k:=i) (b:=b) (o:=o) (bb:=bv) (oo:=0) rfl (E3 (k:=l.length) (h:=l.length+1) hs Ca Ca rfl) rfl CS inferInstance Cn (by rw [a_,a_,c_,a_,By,By,hld,b_];show(i+(l.length+1-i))*2≤min ((i+1)*2) (l.length*2+s.length)+(l.length-i)*2+(s.length-2);omega)) rfl ?_;refine Gr ?_
 have e82:((AG l++s).take ((i+1)*2)++AG (l.drop i)++s.drop 2).take (i*2)++AG [r]++((AG l++s).take ((i+1)*2)++AG (l.drop i)++s.drop 2).drop ((i+1)*2)=AG (l.take i++r::l.drop i)++s.drop 2:=by
  have h2:((AG l++s).take ((i+1)*2)).length=(i+1)*2:=by rw [c_,a_,h1];omega
  have h3:(AG l++s).take (i*2)=AG (l.take i):=OB l i s hi;rw [f_ ((AG l++s).take ((i+1)*2)),List.take_append_of_le_length Ca,List.take_take,kt Ca,h3,lz h2,f_,←f_ (AG [r]),←E7,←f_,←E7];rfl
 refine Au (H':=AB b o (l.take i++r::l.drop i) (s.drop 2)*(HP.fresh bv*(HP.AA bv 0 (AG [r])*R))) (by unfold AB;rw [←e82];rfl) ?_;refine J7 ?_;exact mR [6] (AB b o (l.take i++r::l.drop i) (s.drop 2)*R) rfl rfl ⟨_,b,o,c,_,by show Value.slice _ _ _=_;congr 1;rw [a_,c_,d_,hld];omega,⟨.inr rfl,by rw [a_,c_,d_,hld];omega⟩,by rw [a_,c_,d_,hld,b_];show(min i l.length+(l.length-i+1))*2+_=c*2;omega,rfl⟩
theorem wZ(l:List AT)(i j:Nat)(p:Option Addr)(b o c:Nat)(s:List Value)(R:HP)(hs:Sl p b o l.length c)(hc:l.length*2+s.length=c*2)(hij:i≤j)(hj:j≤l.length)(hl:l.length<1000000000):
  Fn Tryz.prog B 182 [.slice p l.length c,iN i,iN j] (AB b o l s*R) (fun v H'=>CB R (l.take i++l.drop j) v H'):=by
 refine mI Tryz.func182 ?_;refine DV ?_;refine JL kQ ?_;refine PM ?_;refine mC (fun he=>?_) (fun he=>?_)
 ·refine J8 ?_;exact kU
 refine CL ?_
 have hti:(l.take i).length=i:=by rw [c_];omega
 have hdj:(l.drop j).length=l.length-j:=b_;refine iB ?_;refine Av 6 Cb rfl rfl (VF (α:=AT) (ys:=l.drop j) (bb:=b) (oo:=o+j*2) rfl ⟨hs.1,Cj⟩ jD rfl (E3 hs hj hs.2 hdj) (let _:Ai B (AB b o (l.take i) (AG (l.drop i)++s)*R) b o l:=Yp;Ai.Ke (α:=AT) inferInstance j) rfl Ca Ca Cj) ?_;refine JR ?_;refine Dc ?_;refine Ei 7 Cb rfl rfl F7 EY ?_;refine Dm ?_
 have h1:(AG (l.take i++l.drop j)).length=(i+(l.length-j))*2:=by rw [By,a_,hti,hdj];rfl
 have h2:((AG (l.drop i)++s).drop ((l.drop j).length*2)).length=(c-(i+(l.length-j)))*2:=by rw [b_,a_,By,b_,hdj];show(l.length-i)*2+s.length-(l.length-j)*2=_;have:=hs.2;omega
 have e31:(l.take i).length+(l.drop j).length=i+(l.length-j):=by rw [hti,hdj]
 refine J5 ?_;refine JL (OK rfl rfl rfl Cj) ?_;refine Bv (O8 (sz:=2) (b:=b) (o:=o) (k:=(l.take i).length+(l.drop j).length) (L:=AG (l.take i++l.drop j)++(AG (l.drop i)++s).drop ((l.drop j).length*2)) rfl (E3 (k:=l.length) hs (by omega:(l.take i).length+(l.drop j).length≤l.length) hs.2 rfl) Tv rfl Cc) ?_;rintro _ _ ⟨L',k1,k2,k3,rfl⟩;rw [e31]at k2 k3;refine J9 ?_;exact mR [6] (HP.AA b o L'*R) rfl rfl ⟨p,b,o,c,L'.drop ((i+(l.length-j))*2),ST,⟨hs.1,cL⟩,by rw [a_,hti,hdj,b_,k1,a_,h1,h2];show _*2+_=c*2;have:=hs.2;omega,by congr 1;refine Nu ?_;refine Ou (α:=AT) (k:=i+(l.length-j)) ?_;refine Eq.trans k2 ?_;exact i_ h1⟩
theorem yR(l:List UInt8)(i j:Nat)(p:Option Addr)(b o c:Nat)(s:List Value)(R:HP)(hs:Sl p b o l.length c)(hc:l.length*1+s.length=c*1)(hij:i≤j)(hj:j≤l.length)(hl:l.length<1000000000):
  Fn Tryz.prog B 149 [.slice p l.length c,iN i,iN j] (AB b o l s*R) (fun v H'=>CB R (l.take i++l.drop j) v H'):=by
 refine mI Tryz.func149 ?_;refine DV ?_;refine JL kQ ?_;refine PM ?_;refine mC (fun he=>?_) (fun he=>?_)
 ·refine J8 ?_;exact kU
 refine CL ?_
 have hti:(l.take i).length=i:=by rw [c_];omega
 have hdj:(l.drop j).length=l.length-j:=b_;refine iB ?_;refine Av 6 Cb rfl rfl (VF (α:=UInt8) (ys:=l.drop j) (bb:=b) (oo:=o+j*1) rfl ⟨hs.1,Cj⟩ (by rw [hti,a_,By,b_];show i*1+((l.length-i)*1+s.length)=c*1;omega) rfl (E3 hs hj hs.2 hdj) (let _:Ai B (AB b o (l.take i) (AG (l.drop i)++s)*R) b o l:=Yp;Ai.Ke (α:=UInt8) inferInstance j) rfl Ca Ca Cj) ?_;refine JR ?_;refine Dc ?_;refine Ei 7 Cb rfl rfl F7 EY ?_;refine Dm ?_
 have h1:(AG (l.take i++l.drop j)).length=(i+(l.length-j))*1:=by rw [By,a_,hti,hdj];rfl
 have h2:((AG (l.drop i)++s).drop ((l.drop j).length*1)).length=(c-(i+(l.length-j)))*1:=by rw [b_,a_,By,b_,hdj];show(l.length-i)*1+s.length-(l.length-j)*1=_;have:=hs.2;omega
 have e31:(l.take i).length+(l.drop j).length=i+(l.length-j):=by rw [hti,hdj]
 refine J5 ?_;refine JL (OK rfl rfl rfl Cj) ?_;refine Bv (O8 (sz:=1) (b:=b) (o:=o) (k:=(l.take i).length+(l.drop j).length) (L:=AG (l.take i++l.drop j)++(AG (l.drop i)++s).drop ((l.drop j).length*1)) rfl (E3 (k:=l.length) hs (by omega:(l.take i).length+(l.drop j).length≤l.length) hs.2 rfl) Tv rfl Cc) ?_;rintro _ _ ⟨L',k1,k2,k3,rfl⟩;rw [e31]at k2 k3;refine J9 ?_;exact mR [6] (HP.AA b o L'*R) rfl rfl ⟨p,b,o,c,L'.drop ((i+(l.length-j))*1),ST,⟨hs.1,cL⟩,by rw [a_,hti,hdj,b_,k1,a_,h1,h2];show _*1+_=c*1;have:=hs.2;omega,by congr 1;refine Nu ?_;refine Ou (α:=UInt8) (k:=i+(l.length-j)) ?_;refine Eq.trans k2 ?_;exact i_ h1⟩
theorem yU(l:List AT)(r:AT)(i j:Nat)(p:Option Addr)(b o c bv:Nat)(s:List Value)(R:HP)(hs:Sl p b o l.length c)(hc:l.length*2+s.length=c*2)(hij:i≤j)(hj:j≤l.length)(hl:l.length<100000)(hne:0<c→bv≠b):
  Fn Tryz.prog B 181 [.slice p l.length c,iN i,iN j,.slice (some ⟨bv,0,none⟩) 1 1] (HP.fresh bv*(HP.AA bv 0 (AG [r])*(AB b o l s*R))) (fun v H'=>CB R (l.take i++r::l.drop j) v H'):=by
 refine mI Tryz.func181 ?_;refine CL ?_;refine JL (OK rfl rfl rfl ⟨hij,Cj⟩) ?_;refine PM ?_;refine mC (fun he=>?_) (fun he=>?_)
 ·refine J5 ?_;refine mE rfl (K_ l r i p b o c bv s R hs hc Ca hl hne) ?_;rintro _ _ ⟨p',b',o',c',s',rfl,hs',hc',rfl⟩;refine J5 ?_;exact mR [8] (AB b' o' (l.take i++r::l.drop i) s'*R) rfl rfl ⟨p',b',o',c',s',by subst he;rfl,by subst he;exact hs',by subst he;exact hc',by subst he;rfl⟩
 refine J8 ?_;refine JL Np ?_;refine J2 ?_;refine mC (fun hjn=>?_) (fun hjn=>?_)
 ·refine J1 ?_
  have hti:(l.take i).length=i:=by rw [c_];omega
  refine Au (H':=AB b o (l.take i) (AG (l.drop i)++s)*(HP.fresh bv*(HP.AA bv 0 (AG [r])*R))) Y9 ?_;refine J3 ?_;refine JL VL ?_;refine J1 ?_;refine Am (VF (α:=AT) (ys:=[r]) (bb:=bv) (oo:=0) (cc:=1) rfl ⟨hs.1,Cj⟩ jD rfl CS inferInstance rfl Cn Ca (by simp only [lj];have:=hs.2;omega)) rfl ?_;refine Kc ?_
  have h1:(AG (l.take i++[r])).length=(i+1)*2:=by rw [By,a_,hti];rfl
  have h2:((AG (l.drop i)++s).drop ([r].length*2)).length=(c-(i+1))*2:=by rw [b_,a_,By,b_];show(l.length-i)*2+s.length-1*2=_;have:=hs.2;omega
  have e31:(l.take i).length+[r].length=i+1:=by rw [hti];rfl
  refine J8 ?_;refine mC (fun hlt=>?_) (fun hlt=>?_)
  ·refine J4 ?_;refine JL Ij ?_;refine Bv (O8 (sz:=2) (b:=b) (o:=o) (k:=(l.take i).length+[r].length) (L:=AG (l.take i++[r])++(AG (l.drop i)++s).drop ([r].length*2)) rfl (E3 (k:=l.length) hs (by omega:(l.take i).length+[r].length≤l.length) hs.2 rfl) Tv rfl Cc) ?_;rintro _ _ ⟨L',k1,k2,k3,rfl⟩;rw [e31]at k2 k3;refine CL ?_;exact mR [8] (HP.AA b o L'*R) rfl rfl ⟨p,b,o,c,L'.drop ((i+1)*2),fS,⟨hs.1,aL⟩,by rw [hjn,kq,a_,hti,b_,k1,a_,h1,h2];show(i+1)*2+_=c*2;have:=hs.2;omega,by congr 1;refine Nu ?_;refine Ou (α:=AT) (k:=i+1) ?_;rw [hjn,kq];refine Eq.trans k2 ?_;exact i_ h1⟩
  refine CL ?_;exact mR [8] (AB b o (l.take i++[r]) ((AG (l.drop i)++s).drop ([r].length*2))*R) rfl rfl ⟨p,b,o,c,(AG (l.drop i)++s).drop ([r].length*2),fS,⟨hs.1,aL⟩,by rw [hjn,kq,a_,hti];have:=h2;show(i+1)*2+_=c*2;have:=hs.2;omega,by rw [hjn,kq]⟩
 refine J3 ?_;refine mA 13 13 ?_;refine El ?_;refine JT 2 rfl VI ?_;refine JT 3 rfl Ft ?_;refine Jm 4 ?_;refine JT 5 rfl Ft ?_;refine JT 6 rfl NY ?_;refine Jm 7 ?_;refine Jm 8 ?_;refine JT 9 rfl (LK rfl rfl hj) ?_;refine JT 10 rfl Ft ?_;refine JT 11 rfl (Ff rfl rfl Ca) ?_;refine Ja 12 ?_;refine JD ?_;refine J7 ?_;refine Lq ?_;refine mC (fun h60=>?_) (fun h60=>?_)
 ·have:=hs.2;omega
 refine J6 ?_;refine JL VI ?_;refine J9 ?_;refine KC ?_;refine J1 ?_;refine JL Lz ?_;refine J2 ?_;refine mC (fun h92=>?_) (fun h92=>?_);rotate_left
 ·omega
 refine J1 ?_;refine Yv ?_;refine J3 ?_;refine JL Ij ?_;refine J1 ?_;refine Am (NB (α:=AT) (ys:=[r]) (k:=i) (b:=b) (o:=o) (bb:=bv) (oo:=0) rfl (E3 (k:=l.length) (h:=i+1+(l.length-j)) hs Ca Cj rfl) rfl CS inferInstance Cn (by rw [a_,By];show(i+(i+1+(l.length-j)-i))*2≤l.length*2+s.length;omega)) rfl ?_;refine Gr ?_
 have hti:(l.take i).length=i:=by rw [c_];omega
 have e97:(AG l++s).take (i*2)++AG [r]++(AG l++s).drop ((i+1)*2)=AG (l.take i++r::l.drop (i+1))++s:=by
  have h3:(AG l++s).take (i*2)=AG (l.take i):=OB l i s Ca;have h4:(AG l++s).drop ((i+1)*2)=AG (l.drop (i+1))++s:=S5 l (i+1) s Ca;rw [h3,h4,←E7,←f_,←E7,f_];rfl
 refine Au (H':=HP.AA b o (AG (l.take i++r::l.drop (i+1))++s)*(HP.fresh bv*(HP.AA bv 0 (AG [r])*R))) (by rw [←e97];rfl) ?_
 have hll:(l.take i++r::l.drop (i+1)).length=l.length:=by rw [a_,d_,hti,b_];omega
 have hdj:(l.take i++r::l.drop (i+1)).drop j=l.drop j:=by
  rw [kn,g_ (by rw [hti];omega),hti,j_,show j-i=(j-i-1)+1 by omega,kv,kx];congr 1;omega
 refine mA 9 10 ?_;refine El ?_;refine Jm 2 ?_;refine JT 3 rfl Ft ?_;refine JT 4 rfl NY ?_;refine JT 5 rfl Ij ?_;refine Jm 6 ?_;refine Jm 7 ?_;refine JT 8 rfl (LK rfl rfl hj) ?_;refine Av 9 Cb rfl rfl (NB (α:=AT) (ys:=l.drop j) (k:=i+1) (b:=b) (o:=o) (bb:=b) (oo:=o+j*2) (k2:=l.length-j) (cc:=c-j) rfl (E3 (k:=l.length) (h:=i+1+(l.length-j)) hs Ca Cj rfl) rfl (E3 hs hj hs.2 rfl) (let _:Ai B (HP.AA b o (AG (l.take i++r::l.drop (i+1))++s)*(HP.fresh bv*(HP.AA bv 0 (AG [r])*R))) b o (l.take i++r::l.drop (i+1)):=(inferInstance:Ai B (AB b o (l.take i++r::l.drop (i+1)) s*_) b o _);by have:=Ai.Ke (α:=AT) (B:=B) (H:=HP.AA b o (AG (l.take i++r::l.drop (i+1))++s)*(HP.fresh bv*(HP.AA bv 0 (AG [r])*R))) (b:=b) (o:=o) (xs:=l.take i++r::l.drop (i+1)) inferInstance j;rw [hdj]at this;exact this) Q6 (by rw [a_,By,hll];show(i+1+(i+1+(l.length-j)-(i+1)))*2≤l.length*2+s.length;omega)) ?_;refine Kf ?_;have hdl:(l.drop j).length=l.length-j:=b_
 have e107:(AG (l.take i++r::l.drop (i+1))++s).take ((i+1)*2)++AG (l.drop j)++(AG (l.take i++r::l.drop (i+1))++s).drop ((i+1+(l.drop j).length)*2)=AG (l.take i++r::l.drop j)++(AG ((l.take i++r::l.drop (i+1)).drop (i+1+(l.length-j)))++s):=by
  have h3:(AG (l.take i++r::l.drop (i+1))++s).take ((i+1)*2)=AG ((l.take i++r::l.drop (i+1)).take (i+1)):=OB _ (i+1) s (by rw [hll];omega)
  have h4:(AG (l.take i++r::l.drop (i+1))++s).drop ((i+1+(l.drop j).length)*2)=AG ((l.take i++r::l.drop (i+1)).drop (i+1+(l.length-j)))++s:=by rw [hdl];exact S5 _ (i+1+(l.length-j)) s (by rw [hll];omega)
  have h5:(l.take i++r::l.drop (i+1)).take (i+1)=l.take i++[r]:=by
   rw [List.take_append,List.take_of_length_le Ca,hti,show i+1-i=0+1 by omega,ll,ky]
  rw [h3,h4,h5,←E7,f_ (l.take i)];rfl
 refine Au (H':=HP.AA b o (AG (l.take i++r::l.drop j)++(AG ((l.take i++r::l.drop (i+1)).drop (i+1+(l.length-j)))++s))*(HP.fresh bv*(HP.AA bv 0 (AG [r])*R))) (by rw [←e107];rfl) ?_
 have h1:(AG (l.take i++r::l.drop j)).length=(i+1+(l.length-j))*2:=by rw [By,a_,hti,d_,hdl];show(i+(l.length-j+1))*2=_;omega
 have h2:(AG ((l.take i++r::l.drop (i+1)).drop (i+1+(l.length-j)))++s).length=(c-(i+1+(l.length-j)))*2:=by rw [a_,By,b_,hll];show(l.length-(i+1+(l.length-j)))*2+s.length=_;omega
 refine J3 ?_;refine JL Ij ?_;refine Bv (O8 (sz:=2) (b:=b) (o:=o) (k:=i+1+(l.length-j)) rfl (E3 (k:=l.length) hs (by omega:i+1+(l.length-j)≤l.length) hs.2 rfl) (by rw [a_,h1,h2];have:=hs.2;omega) rfl Cc) ?_;rintro _ _ ⟨L',k1,k2,k3,rfl⟩;refine CL ?_;exact mR [8] (HP.AA b o L'*R) rfl rfl ⟨p,b,o,c,L'.drop ((i+1+(l.length-j))*2),by show Value.slice _ _ _=_;congr 1;rw [a_,hti,d_,hdl];omega,⟨hs.1,by rw [a_,hti,d_,hdl];have:=hs.2;omega⟩,by rw [a_,hti,d_,hdl,b_,k1,a_,h1,h2];show(i+(l.length-j+1))*2+_=c*2;have:=hs.2;omega,by congr 1;refine Nu ?_;refine Ou (α:=AT) (k:=i+1+(l.length-j)) ?_;refine Eq.trans k2 ?_;exact i_ h1⟩
end
section
variable{B:World}
theorem Hx(r:AT)(rs:List AT)(i:Nat):rg (r::rs) (i+1)=rg rs i:=by simp [rg]
theorem Jc(r:AT)(rs:List AT):rg (r::rs) 0=r:=by simp [rg]
theorem O4:∀(l:List AT),Es l→∀i j,i<j→j<l.length→(rg l i).hi+1<(rg l j).lo
 |[],_,i,j,_,h=>by simp at h
 |r::rs,⟨h1,h2,h3⟩,i,j,hij,hj=>by
  obtain⟨j,rfl⟩:∃k,j=k+1:=⟨j-1,Ca⟩
  rw [Hx]
  have hj':j<rs.length:=by simpa using hj
  cases i with
  |zero=>rw [Jc];exact Hu (P:=fun s=>r.hi+1<s.lo) h2 j hj'
  |succ i=>rw [Hx];exact O4 rs h3 i j Ca hj'
theorem Ll:∀(l:List AT),Es l→∀i,i<l.length→(rg l i).lo≤(rg l i).hi
 |[],_,i,h=>by simp at h
 |r::rs,⟨h1,h2,h3⟩,i,hi=>by
  cases i with
  |zero=>rw [Jc];exact h1
  |succ i=>rw [Hx];exact Ll rs h3 i (by simpa using hi)
theorem pA(l:List AT)(n:Nat):Ao n l↔∃i,i<l.length∧(rg l i).lo≤n∧n≤(rg l i).hi:=by
 constructor
 ·rintro⟨r,hr,h⟩;obtain⟨i,hi,rfl⟩:=lm hr;refine⟨i,hi,?_⟩;unfold rg;rw [g',h_ hi];exact h
 ·rintro⟨i,hi,h⟩;refine⟨rg l i,?_,h⟩;unfold rg;rw [g',h_ hi];exact List.getElem_mem hi
theorem pG{l:List AT}{n k:Nat}(hI:Es l)(hk:k≤l.length)(h1:∀i,i<k→¬n≤(rg l i).hi)(h2:∀i,k≤i→i<l.length→n≤(rg l i).hi):Ao n l↔k<l.length∧(rg l k).lo≤n:=by
 rw [pA];constructor
 ·rintro⟨i,hi,h3,h4⟩
  have hki:k≤i:=by
   rcases ln i k with h|h
   ·exact absurd h4 (h1 i h)
   ·exact h
  rcases ko hki with rfl|h5
  ·exact⟨hi,h3⟩
  ·have:=O4 l hI k i h5 hi
   have:=h2 k CW Ca
   omega
 ·rintro⟨h3,h4⟩;exact⟨k,h3,h4,h2 k CW h3⟩
theorem UA:∀(l:List AT) (lo hi fr to:Nat),Es l→lo≤hi→fr≤l.length→to≤l.length→(∀i,i<fr→¬lo≤(rg l i).hi+1)→(∀i,fr≤i→i<l.length→lo≤(rg l i).hi+1)→
  (∀i,i<to→¬hi+1<(rg l i).lo)→(∀i,to≤i→i<l.length→hi+1<(rg l i).lo)→
  fr≤to∧B2 lo hi l=l.take fr++⟨if fr<to then min lo (rg l fr).lo else lo,if fr<to then max hi (rg l (to-1)).hi else hi⟩::l.drop to
 |[],lo,hi,fr,to,_,_,hf,ht,_,_,_,_=>by
  obtain rfl:fr=0:=by simpa using hf
  obtain rfl:to=0:=by simpa using ht
  simp [B2]
 |r::rs,lo,hi,fr,to,⟨g1,g2,g3⟩,hl,hf,ht,f1,f2,t1,t2=>by
  cases fr with
  |zero=>
   have a1:=f2 0 CW Ce;rw [Jc]at a1
   cases to with
   |zero=>
    have a2:=t2 0 CW Ce;rw [Jc]at a2;refine⟨Nat.le_refl _,?_⟩;rw [B2,if_neg Ca,if_pos a2];simp
   |succ t=>
    have a2:=t1 0 Ca;rw [Jc]at a2
    have ht':t≤rs.length:=by simpa using ht
    obtain⟨_,e⟩:=UA rs (min lo r.lo) (max hi r.hi) 0 t g3 Ca EX ht' (fun i h=>by omega) (fun i _ h=>by have h5:r.hi+1<(rg rs i).lo:=Hu (P:=fun s=>r.hi+1<s.lo) g2 i h;have:=Ll rs g3 i h;omega) (fun i h h5=>by have:=t1 (i+1) Ca;rw [Hx]at this;omega) (fun i h1 h=>by have h5:r.hi+1<(rg rs i).lo:=Hu (P:=fun s=>r.hi+1<s.lo) g2 i h;have:=t2 (i+1) Ca Pc;rw [Hx]at this;omega)
    refine⟨lx _,?_⟩;rw [B2,if_neg Ca,if_neg a2,e];simp only [ky,j_,kv,lw,if_true,k_,Jc];congr 2
    ·split
     ·rename_i h0;have h5:r.hi+1<(rg rs 0).lo:=Hu (P:=fun s=>r.hi+1<s.lo) g2 0 Ca;omega
     ·rfl
    ·cases t with
     |zero=>simp [Jc]
     |succ t=>
      rw [Hx];simp only [lw,if_true,k_];have h5:r.hi+1<(rg rs t).lo:=Hu (P:=fun s=>r.hi+1<s.lo) g2 t Ca
      have:=Ll rs g3 t Ca
      omega
  |succ f=>
   have a1:=f1 0 Ca;rw [Jc]at a1
   have hf':f≤rs.length:=by simpa using hf
   cases to with
   |zero=>
    have a2:=t2 0 CW Ce;rw [Jc]at a2;omega
   |succ t=>
    have ht':t≤rs.length:=by simpa using ht
    obtain⟨e0,e⟩:=UA rs lo hi f t g3 hl hf' ht' (fun i h=>by have:=f1 (i+1) Ca;rwa [Hx]at this) (fun i h1 h=>by have:=f2 (i+1) Ca Pc;rwa [Hx]at this) (fun i h=>by have:=t1 (i+1) Ca;rwa [Hx]at this) (fun i h1 h=>by have:=t2 (i+1) Ca Pc;rwa [Hx]at this)
    refine⟨Ca,?_⟩;rw [B2,if_pos Ca,e];simp only [ll,List.cons_append,kv,Hx,Nat.add_lt_add_iff_right,k_];congr 3;split
    ·obtain⟨t',rfl⟩:∃k,t=k+1:=⟨t-1,Ca⟩
     rw [Hx];simp
    ·rfl
abbrev DM:B9:=⟨none,0,0,0,[]⟩
theorem Oe(AL:Nat):DM.ok (.of AL):=⟨Gi,rfl⟩
theorem gD(AL:Nat)(H:HP)(hm:1≤AL):
  Fn Tryz.prog B 76 [iN AL] H (fun v H'=>∃q,v=ptr q 0∧H'=AZ q DM (.of AL)*H):=by
 refine mI Tryz.func76 ?_;refine J8 ?_;refine JL (jR (j:=1) rfl rfl) ?_;refine JL (FV (cs:=[.slice none 0 0,uN 0,iN (max AL 1)]) rfl rfl rfl Cf) ?_;refine Am (Dn (l:=[.slice none 0 0,uN 0,iN (max AL 1)]) rfl rfl) rfl ?_;rintro _ _ ⟨b6,rfl,rfl⟩;refine J4 ?_;exact mr [2] rfl rfl ⟨b6,rfl,by unfold AZ;rw [show max AL 1=AL by omega];show _=HP.AA b6 0 _*AB 0 0 ([]:List AT) []*H;rw [G7,HP.Ge];rfl⟩
theorem Py(q lo hi m:Nat)(a:B9)(z:BD)(H:HP)[hz:G4 B H q a z](hs:a.ok z)(ho:DK z m)(hm:m≤4611686018427387904)(hlen:z.l.length<100000):
  Fn Tryz.prog B 147 [ptr q 0,uN lo,uN hi] H (fun v H'=>v=.tuple #[uN (AV lo hi z.l).1,uN (AV lo hi z.l).2]∧H'=H):=by
 have:=hz.l
 have:=hz.r
 have:=hz.f
 have hsl:=hs.1;refine mI Tryz.func147 ?_;refine J2 ?_;refine HE ?_;refine HE ?_;refine CL ?_;refine HQ ?_
 refine Bj (α:=Nat×Nat) (fun z'=>[(1,uN z'.1),(2,uN hi),(13,.slice a.p z.l.length a.c),(14,iN z.l.length),(15,iN z'.2)]) (fun _=>H) (fun z'=>z'.2≤z.l.length∧AV lo hi z.l=AV z'.1 hi (z.l.drop z'.2)) (fun z'=>z.l.length-z'.2) (lo,0) ⟨lx _,rfl⟩ HZ rfl ?_
 rintro z' ⟨hi1,hinv⟩;refine J6 ?_;refine mC (fun h16=>?_) (fun h16=>?_)
 ·skip
  have Gb:z.l.drop z'.2=rg z.l z'.2::z.l.drop (z'.2+1):=by
   unfold rg;rw [g',h_ h16];exact List.drop_eq_getElem_cons h16
  have hbh:(rg z.l z'.2).hi<m:=Hu (P:=fun r=>r.hi<m) ho.hi z'.2 h16;refine J6 ?_;refine JL K' ?_;refine JL (Oo rfl inferInstance Ca) ?_;refine Ky ?_;rintro _ _ ⟨b9,rfl,rfl⟩;refine Gc ?_;refine B1 ?_;refine mC (fun h22=>?_) (fun h22=>?_)
  ·refine J5 ?_;refine D7 ?_;refine Bo H ?_
   first
    |exact Ba (z'.1,z'.2+1) ⟨Ca,cP⟩ RO HZ rfl
    |exact Ba ((rg z.l z'.2).hi+1,z'.2+1) ⟨Ca,eF⟩ RO HZ rfl
  refine J8 ?_;refine Lq ?_;refine mC (fun h26=>?_) (fun h26=>?_)
  ·refine J1 ?_;refine mA 7 7 ?_;refine El ?_;refine Lm ?_;refine K7 ?_;refine JT 4 rfl PH ?_;refine Ja 5 ?_;refine Ja 6 ?_;refine JD ?_;refine J8 ?_;exact mR [6,7] H rfl rfl ⟨by rw [hinv,Gb,AV,if_neg h22,if_pos h26];rfl,rfl⟩
  refine J5 ?_;refine JL UG ?_;refine J5 ?_;refine D7 ?_;refine Bo H ?_
  first
   |exact Ba (z'.1,z'.2+1) ⟨Ca,cP⟩ RO HZ rfl
   |exact Ba ((rg z.l z'.2).hi+1,z'.2+1) ⟨Ca,eF⟩ RO HZ rfl
 refine HI ?_;exact mR [6,7] H rfl rfl ⟨by rw [hinv,g_ Ca,AV];rfl,rfl⟩
theorem lU(q n m:Nat)(a:B9)(z:BD)(H:HP)[hz:G4 B H q a z](hs:a.ok z)(ho:DK z m)(hlen:z.l.length<100000):
  Fn Tryz.prog B 143 [ptr q 0,uN n] H (fun v H'=>v=.bool (decide (z.has n))∧H'=H):=by
 have:=hz.l
 have:=hz.r
 have:=hz.f
 have hsl:=hs.1;refine mI Tryz.func143 ?_;refine Ka ?_;rintro _ _ ⟨b2,rfl,rfl⟩;refine K9 ?_;rintro _ _ ⟨b3,rfl,rfl⟩;refine CL ?_;refine JL GW ?_;refine mE rfl (U' z.l.length _ [ptr b2 0,ptr b3 0] (fun i=>n≤(rg z.l i).hi) _ Ca (fun i j hij hj h=>by rcases ko hij with rfl|hlt;exact h;have h5:=O4 z.l ho.inc i j hlt hj;have h6:=Ll z.l ho.inc j hj;show n≤(rg z.l j).hi;have h7:n≤(rg z.l i).hi:=h;omega) (fun i hi=>nE b2 b3 q n i a z _ hs hi)) ?_;rintro _ _ ⟨k,rfl,hk1,hk2,hk3,rfl⟩;have hhas:=pG ho.inc hk1 hk2 hk3;refine J4 ?_;refine mA 28 28 ?_;refine KY ?_;refine JT 5 rfl OD ?_;refine Jm 6 ?_;refine Gv 19 rfl (fun hg1=>?_) (fun hg1=>?_)
 ·refine JN 7 rfl T1 ?_;refine JN 8 rfl T1 ?_;refine JN 9 rfl T1 ?_;refine JN 10 rfl T1 ?_;refine gQ ?_;refine Vy ?_;refine JU 24 ?_;refine JN 25 rfl T1 ?_;refine JT 26 rfl GM ?_;refine Ja 27 ?_;refine Dm ?_;refine mR [4] H rfl rfl ⟨?_,rfl⟩;refine M0 ?_;congr 1;apply ku.2;simp only [decide_eq_true_eq,lr,ld,iff_true,iff_false,true_iff,false_iff,eq_self,BD.has,hhas];omega
 refine JY 7 rfl F1 Bd ?_;refine JY 8 rfl F1 Bg ?_;refine JY 9 rfl F1 CT ?_;refine JY 10 rfl F1 BW ?_;refine JY 11 rfl F1 Bg ?_;refine JY 12 rfl F1 Ft ?_;refine JY 13 rfl F1 OD ?_;refine JY 14 rfl F1 Bd ?_;refine Gv 27 rfl (fun hg2=>?_) (fun hg2=>?_)
 ·refine JY 15 rfl T2 Bg ?_;refine Wv ?_;refine JY 20 rfl T2 K' ?_;refine JY 21 rfl T2 BW ?_;refine JY 22 rfl T2 Vz ?_;refine JY 23 rfl T2 Bg ?_;refine JY 24 rfl T2 Lz ?_;refine JY 25 rfl F1 IY ?_;refine JT 26 rfl E9 ?_;refine Ja 27 ?_;refine Dm ?_;refine mR [4] H rfl rfl ⟨?_,rfl⟩;refine M0 ?_;congr 1;apply ku.2;simp only [decide_eq_true_eq,lr,ld,iff_true,iff_false,true_iff,false_iff,eq_self,BD.has,hhas];omega
 refine gA ?_;refine JN 24 rfl F2 ?_;refine JY 25 rfl F1 Hr ?_;refine JT 26 rfl E9 ?_;refine Ja 27 ?_;refine Dm ?_;refine mR [4] H rfl rfl ⟨?_,rfl⟩;refine M0 ?_;congr 1;apply ku.2;simp only [decide_eq_true_eq,lr,ld,iff_true,iff_false,true_iff,false_iff,eq_self,BD.has,hhas];omega
instance rd_setL{B:World}{H:HP}(q:Nat)(a:B9)(z:BD)[h:G4 B H q a z]:Rd B H q 0 (.slice a.p z.l.length a.c) True:=h.l
instance rd_setL0{B:World}{H:HP}(q:Nat)(a:B9)(z:BD)[h:G4 B H q a z]:Rd B H q (0+0) (.slice a.p z.l.length a.c) True:=h.l
instance rd_setF{B:World}{H:HP}(q:Nat)(a:B9)(z:BD)[h:G4 B H q a z]:Rd B H q (0+1) (uN z.floor) True:=h.f
theorem KX(q lo hi m:Nat)(a:B9)(z:BD)(R:HP)(hs:a.ok z)(ho:DK z m)(hm:m≤4611686018427387904)(hhi:hi<m)(h1:1≤z.AL)(hmost:z.AL<50000):
  Fn Tryz.prog B 145 [ptr q 0,uN lo,uN hi] (AZ q a z*R) (fun _ H'=>∃a':B9,a'.ok (z.add lo hi)∧H'=AZ q a' (z.add lo hi)*R):=by
 have hsl:=hs.1;have hzl:=ho.len;refine mI Tryz.func145 ?_;refine Ka ?_;rintro _ _ ⟨b3,rfl,rfl⟩;refine K9 ?_;rintro _ _ ⟨b4,rfl,rfl⟩;refine K9 ?_;rintro _ _ ⟨b5,rfl,rfl⟩;refine J3 ?_;refine mA 6 7 ?_;refine KY ?_;refine JT 5 rfl Kk ?_;refine Dx 6 Cb rfl FL ?_;refine Dh ?_;refine J6 ?_;refine Lq ?_;refine mC (fun h17=>?_) (fun h17=>?_)
 ·refine J2 ?_;exact mR [] (AZ q a z*R) rfl rfl ⟨a,by unfold BD.add;rw [if_pos h17];exact hs,by unfold BD.add;rw [if_pos h17]⟩
 refine J9 ?_;refine JL GW ?_;refine mE rfl (U' z.l.length _ [ptr b3 0,ptr b4 0] (fun i=>max lo z.floor≤(rg z.l i).hi+1) _ Ca (fun i j hij hj h=>by rcases ko hij with rfl|hlt;exact h;have h5:=O4 z.l ho.inc i j hlt hj;have h6:=Ll z.l ho.inc j hj;show max lo z.floor≤(rg z.l j).hi+1;have h7:max lo z.floor≤(rg z.l i).hi+1:=h;omega) (fun i hi=>tH b3 b4 q (max lo z.floor) i a z _ hs hi Ca)) ?_;rintro _ _ ⟨fr,rfl,hf1,hf2,hf3,rfl⟩;refine CL ?_;refine JL GW ?_;refine mE rfl (U' z.l.length _ [ptr b3 0,ptr b5 0] (fun i=>hi+1<(rg z.l i).lo) _ Ca (fun i j hij hj h=>by rcases ko hij with rfl|hlt;exact h;have h5:=O4 z.l ho.inc i j hlt hj;have h6:=Ll z.l ho.inc i Ca;show hi+1<(rg z.l j).lo;have h7:hi+1<(rg z.l i).lo:=h;omega) (fun i hi2=>eg b3 b5 q hi i a z _ hs hi2 (by have h5:(rg z.l i).hi<m:=Hu (P:=fun s=>s.hi<m) ho.hi i hi2;have:=Ll z.l ho.inc i hi2;omega))) ?_;rintro _ _ ⟨to,rfl,ht1,ht2,ht3,rfl⟩;obtain⟨hft,hadd⟩:=UA z.l (max lo z.floor) hi fr to ho.inc Ca hf1 ht1 hf2 hf3 ht2 ht3
 obtain⟨r,hr⟩:∃r:AT,r=⟨if fr<to then min (max lo z.floor) (rg z.l fr).lo else max lo z.floor,if fr<to then max hi (rg z.l (to-1)).hi else hi⟩:=Bl
 rw [←hr]at hadd
 have hnl:(z.l.take fr++r::z.l.drop to).length≤z.l.length+1:=by rw [a_,c_,d_,b_];omega
 have hok2:=ho.add lo hi hhi h1;refine J7 ?_;refine JL (FV (cs:=[uN (max lo z.floor),uN hi]) rfl rfl rfl Cf) ?_;refine Ky ?_;rintro _ _ ⟨b8,rfl,rfl⟩;refine Gc ?_;refine CL ?_;refine mC (fun h37=>?_) (fun h37=>?_)
 ·refine Au (H':=HP.AA b8 0 [uN (max lo z.floor),uN hi]*(HP.AA q 0 [.slice a.p z.l.length a.c,uN z.floor,iN z.AL]*(AB a.b a.o z.l a.s*(HP.AA b5 0 [uN hi]*(HP.AA b4 0 [uN (max lo z.floor)]*(HP.AA b3 0 [ptr q 0]*R)))))) (by unfold AZ;ac_rfl) ?_;refine ET (HP.AA q 0 [.slice a.p z.l.length a.c,uN z.floor,iN z.AL]*(AB a.b a.o z.l a.s*(HP.AA b5 0 [uN hi]*(HP.AA b4 0 [uN (max lo z.floor)]*(HP.AA b3 0 [ptr q 0]*R))))) 24 25 Ef rfl Cb ?_;refine KY ?_;refine Jm 5 ?_;refine JT 6 rfl K' ?_;refine Jf 7 ?_;refine JT 8 rfl (Sd (xs:=z.l) rfl inferInstance Ca) ?_;refine JT 9 rfl PH ?_;refine Jd 10 ?_;refine Jd 11 ?_;refine Jn 12 ?_;refine Jf 13 ?_;refine Jd 14 ?_;refine Jm 15 ?_;refine JT 16 rfl Oz ?_;refine JT 17 rfl K' ?_;refine Jf 18 ?_;refine JT 19 rfl (RH (xs:=z.l) rfl inferInstance Ca) ?_;refine JT 20 rfl Kk ?_;refine Jf 21 ?_;refine Dx 22 Cb rfl FL ?_;refine Fm ?_;refine Jf 23 ?_;refine Dx 24 Cb rfl FL ?_;refine Kf ?_
  refine iK ?_;rintro _ _ ⟨b69,rfl,hne,rfl⟩;refine BL ?_
  refine Av 9 Cb rfl rfl Y' ?_;rintro _ _ ⟨p70,b70,o70,c70,s70,rfl,hs70,hc70,rfl⟩;refine BL ?_;refine TK ?_;refine dD ?_;refine JD ?_
  refine J1 ?_;refine mC (fun h82=>?_) (fun h82=>?_)
  ·skip
   have hpos:0<(z.l.take fr++r::z.l.drop to).length:=by rw [a_,d_];omega
   refine Yu ?_
   refine KO 8 rfl Cb rfl (Jq (j:=1) rfl rfl (by
  have h5:∀s∈B2 (max lo z.floor) hi z.l,s.hi≤m:=Kz z.l _ hi m Ca (fun s hs=>by have:=ho.hi s hs;omega)
  rw [hadd]at h5
  have h6:(rg (z.l.take fr++r::z.l.drop to) 0).hi≤m:=Hu (P:=fun s=>s.hi≤m) h5 0 hpos
  omega)) ?_
   refine cH ?_;rintro _ _ ⟨p99,b99,o99,c99,s99,rfl,hs99,hc99,rfl⟩;refine BL ?_;refine Jn 6 ?_;refine Jf 7 ?_;refine Dx 8 Cb rfl FL ?_
   refine Dh ?_
   have hz1:z.add lo hi=⟨(z.l.take fr++r::z.l.drop to).tail,(rg (z.l.take fr++r::z.l.drop to) 0).hi+1,z.AL⟩:=by
    unfold BD.add;rw [if_neg Ca,hadd,if_pos h82];congr 2;unfold rg;cases(z.l.take fr++r::z.l.drop to)<;>rfl
   have e99:(z.l.take fr++r::z.l.drop to).take 0++(z.l.take fr++r::z.l.drop to).drop 1=(z.l.take fr++r::z.l.drop to).tail:=by rw [ky,j_,ma]
   rw [e99]at hs99 hc99⊢;refine D2 (H':=HP.AA q 0 [.slice p99 (z.l.take fr++r::z.l.drop to).tail.length c99,uN ((rg (z.l.take fr++r::z.l.drop to) 0).hi+1),iN z.AL]*(AB b99 o99 (z.l.take fr++r::z.l.drop to).tail s99*(HP.AA b8 0 [uN r.lo,uN r.hi]*(HP.AA b5 0 [uN hi]*(HP.AA b4 0 [uN (max lo z.floor)]*(HP.AA b3 0 [ptr q 0]*R)))))) Cg ?_;refine Mq (ts:=[]) (AZ q ⟨p99,b99,o99,c99,s99⟩ (z.add lo hi)*R) (hE:=?_) rfl rfl ⟨⟨p99,b99,o99,c99,s99⟩,iG,rfl⟩;rw [hz1];unfold AZ;infer_instance
  refine J1 ?_
  have hz1:z.add lo hi=⟨z.l.take fr++r::z.l.drop to,z.floor,z.AL⟩:=by
   unfold BD.add;rw [if_neg Ca,hadd,if_neg h82]
  refine Mq (ts:=[]) (AZ q ⟨p70,b70,o70,c70,s70⟩ (z.add lo hi)*R) (hE:=?_) rfl rfl ⟨⟨p70,b70,o70,c70,s70⟩,Wr,rfl⟩;rw [hz1];unfold AZ;infer_instance
 refine J3 ?_;refine iK ?_;rintro _ _ ⟨b69,rfl,hne,rfl⟩;refine BL ?_
 refine Av 9 Cb rfl rfl Y' ?_;rintro _ _ ⟨p70,b70,o70,c70,s70,rfl,hs70,hc70,rfl⟩;refine BL ?_;refine TK ?_;refine dD ?_;refine JD ?_
 refine J1 ?_;refine mC (fun h82=>?_) (fun h82=>?_)
 ·skip
  have hpos:0<(z.l.take fr++r::z.l.drop to).length:=by rw [a_,d_];omega
  refine Yu ?_
  refine KO 8 rfl Cb rfl (Jq (j:=1) rfl rfl (by
  have h5:∀s∈B2 (max lo z.floor) hi z.l,s.hi≤m:=Kz z.l _ hi m Ca (fun s hs=>by have:=ho.hi s hs;omega)
  rw [hadd]at h5
  have h6:(rg (z.l.take fr++r::z.l.drop to) 0).hi≤m:=Hu (P:=fun s=>s.hi≤m) h5 0 hpos
  omega)) ?_
  refine cH ?_;rintro _ _ ⟨p99,b99,o99,c99,s99,rfl,hs99,hc99,rfl⟩;refine BL ?_;refine Jn 6 ?_;refine Jf 7 ?_;refine Dx 8 Cb rfl FL ?_
  refine Dh ?_
  have hz1:z.add lo hi=⟨(z.l.take fr++r::z.l.drop to).tail,(rg (z.l.take fr++r::z.l.drop to) 0).hi+1,z.AL⟩:=by
   unfold BD.add;rw [if_neg Ca,hadd,if_pos h82];congr 2;unfold rg;cases(z.l.take fr++r::z.l.drop to)<;>rfl
  have e99:(z.l.take fr++r::z.l.drop to).take 0++(z.l.take fr++r::z.l.drop to).drop 1=(z.l.take fr++r::z.l.drop to).tail:=by rw [ky,j_,ma]
  rw [e99]at hs99 hc99⊢;refine D2 (H':=HP.AA q 0 [.slice p99 (z.l.take fr++r::z.l.drop to).tail.length c99,uN ((rg (z.l.take fr++r::z.l.drop to) 0).hi+1),iN z.AL]*(AB b99 o99 (z.l.take fr++r::z.l.drop to).tail s99*(HP.AA b8 0 [uN r.lo,uN r.hi]*(HP.AA b5 0 [uN hi]*(HP.AA b4 0 [uN (max lo z.floor)]*(HP.AA b3 0 [ptr q 0]*R)))))) Cg ?_;refine Mq (ts:=[]) (AZ q ⟨p99,b99,o99,c99,s99⟩ (z.add lo hi)*R) (hE:=?_) rfl rfl ⟨⟨p99,b99,o99,c99,s99⟩,iG,rfl⟩;rw [hz1];unfold AZ;infer_instance
 refine J1 ?_
 have hz1:z.add lo hi=⟨z.l.take fr++r::z.l.drop to,z.floor,z.AL⟩:=by
  unfold BD.add;rw [if_neg Ca,hadd,if_neg h82]
 refine Mq (ts:=[]) (AZ q ⟨p70,b70,o70,c70,s70⟩ (z.add lo hi)*R) (hE:=?_) rfl rfl ⟨⟨p70,b70,o70,c70,s70⟩,Wr,rfl⟩;rw [hz1];unfold AZ;infer_instance
end
section
def gX(P:Program)(B:World){α:Type}(gf:FuncId)(lb:List Value)(At enc2:α→Value)(S Sp G:List α→Prop)(F F':HP):Prop:=
 ∀(l:Nat) (J Jx:List α→HP),(∀pre x R,Sp (pre++[x])→Yn P B l [At x,enc2 x] (J pre*R) (fun v H'=>∃g:Bool,v=.bool g∧(g=true→G (pre++[x]))∧H'=(bif g then J (pre++[x])else Jx (pre++[x]))*R))→
  Fn P B gf (.func (.yield l) #[] #[]::lb) (J []*F) (fun _ H'=>(∃xs,S xs∧H'=J xs*F')∨∃pre,Sp pre∧H'=Jx pre*F')
def bD:Option Nat→Exit
 |some id=>.exit id
 |none=>.ret
def EG:Option Nat→Code
 |some id=>.exit id
 |none=>.ret
def SO(B:World)(n:Nat)(E:Nat→A5)(H:Nat→HP):Exit→Act→World→Prop
 | .normal,a,w=>∃y,DA n (E y) a∧a.defers=[]∧Sat B (H y) w
 |_,_,_=>False
instance{B:World}{n:Nat}{E:Nat→A5}{H:Nat→HP}:PQ (SO B n E H):=⟨fun _ _ _ _ _ h=>h,fun _ _ h=>h⟩
def Oi(B:World)(Gp:Prop)(H:HP)(HX:Option Nat→HP):Exit→Act→World→Prop
 | .normal,_,w=>Gp∧Sat B H w
 | .exit id,_,w=>Sat B (HX (some id)) w
 | .ret,_,w=>Sat B (HX none) w
 |_,_,_=>False
instance{B:World}{Gp:Prop}{H:HP}{HX:Option Nat→HP}:PQ (Oi B Gp H HX):=⟨fun _ _ _ _ _ h=>h,fun _ _ h=>h⟩
section
variable{P:Program}{B:World}{n:Nat}{E:A5}{D:B6}{H:HP}{Q:Exit→Act→World→Prop}
theorem Ra{E':Nat→A5}{r:Option Nat}{H':Nat→HP}(y:Nat)(s:Sub E (E' y))(e:H=H' y):BI B (SO B n E' H') .normal n E ⟨[],r⟩ H:=fun _ _ h1 h2 h3=>⟨y,h1.sub s,h2,e▸h3⟩
theorem UJ{r:Option Nat}{fn:Func}{Post:Value→HP→Prop}{ts:List Nat}{vs:List Value}(ms:List Nat)(H':HP)(hr:fn.results=(ts.map ResultVar.tmp).toArray)(hv:DW E (ts.map Operand.tmp)=some vs)
  (hp:Post (FU vs) H')(e:H=ms.foldr (fun d H=>HP.obj d (.deferred (some []))*H) H'):BI B (PV P B fn Post) .normal n E ⟨ms.map H5,r⟩ H:=by
 intro a w h1 h2 h3;show LeavesInM _ _ _ _ _ _ _ _ _;rw [h2]
 exact UP ms w H' (e▸h3) fun w' hw'=>⟨_,Ju hr h1 hv w',_,_,rfl,hp,hw'⟩
theorem GP{Gp:Prop}{H':HP}{HX:Option Nat→HP}(g:Gp)(e:∀w,Sat B H w→Sat B H' w):BI B (Oi B Gp H' HX) .normal n E D H:=fun _ w _ _ h3=>⟨g,e w h3⟩
theorem j8{Gp:Prop}{H':HP}{HX:Option Nat→HP}(e:∀w,Sat B H w→Sat B (HX none) w):BI B (Oi B Gp H' HX) .ret n E D H:=fun a w _ _ h3=>e w h3
theorem sC{α:Type}{gf:FuncId}{lb:List Value}{p p2:Nat}{g:Operand}{assign body:Code}[hok:Ah P gf]
  (At enc2:α→Value)(S Sp G:List α→Prop)(J:List α→HP)(Jx:Option Nat→List α→HP)(F F':HP)(EA:Nat→α→A5)(HA:Nat→α→HP)
  (hg:ev E g=some (.func (.func gf) #[] lb.toArray))(hp:mb p n=true)(hp2:mb p2 n=true)(hr:D.r=none)(hH:∀w,Sat B H w→Sat B (J []*F) w)(hit:gX P B gf lb At enc2 S Sp G F F')
  (hasg:∀pre x l R,WP P B assign (SO B n (fun y=>EA y x) (fun y=>HA y x*(J pre*R))) n ((p2,enc2 x)::(p,At x)::E) ⟨[],some l⟩ (J pre*R))
  (hbody:∀y pre x l R,Sp (pre++[x])→WP P B body (Oi B (G (pre++[x])) (J (pre++[x])*R) (fun id=>Jx id (pre++[x])*R)) n (EA y x) ⟨[],some l⟩ (HA y x*(J pre*R)))
  (hdone:∀d xs,S xs→BI B Q .normal n E ⟨H5 d::D.ds,none⟩ (J xs*(HP.obj d (.deferred (some []))*F')))
  (hstop:∀d pre id,Sp pre→BI B Q (bD id) n E ⟨H5 d::D.ds,none⟩ (Jx id pre*(HP.obj d (.deferred (some []))*F'))):
  WP P B (.rangeFunc g #[p,p2] assign body) Q n E D H:=by
 intro a w h1 h2 h3;rw [hr];refine wpIn_rangeFunc fun fn _=>?_;have h3:=hH w h3
 let rec_:LoopState→Option Code→Obj:=fun st pe=>.loop {state:=st,pending:=pe,fn,tmps:=a.tmps,params:= #[p,p2],assign,body,defers:=w.heap.size}
 let l:=w.heap.size+1
 have hl1:Sat B (HP.obj l (rec_ .ready none)*(HP.obj w.heap.size (.deferred (some []))*(J []*F))) ((w.alloc (.deferred (some []))).alloc (rec_ .ready none)):=by
  have:=(h3.MZ (.deferred (some [])) Ce).MZ (rec_ .ready none) Cs
  rwa [World.Ox]at this
 let J':List α→HP:=fun pre=>J pre*(HP.obj w.heap.size (.deferred (some []))*HP.obj l (rec_ .ready none))
 let Jx':List α→HP:=fun pre=>HP.ex fun id=>Jx id pre*(HP.obj w.heap.size (.deferred (some []))*HP.obj l (rec_ .done (some (EG id))))
 have hY:∀pre x R,Sp (pre++[x])→Yn P B l [At x,enc2 x] (J' pre*R) (fun v H'=>∃g:Bool,v=.bool g∧(g=true→G (pre++[x]))∧H'=(bif g then J' (pre++[x])else Jx' (pre++[x]))*R):=by
  intro pre x R hsp W hW
  have e1:J' pre*R=HP.obj l (rec_ .ready none)*(J pre*(HP.obj w.heap.size (.deferred (some []))*R)):=by
   show J pre*(_*_)*R=_;ac_rfl
  rw [e1]at hW;obtain⟨hW1,_,_⟩:=hW.Em;refine⟨fn,_,assign,body,run_yield hW1 rfl,?_⟩;refine roundIn_of_wpIn trivial ?_
  have hE:DA n ((p2,enc2 x)::(p,At x)::E) {tmps:=((#[p,p2]:Array Nat).zip [At x,enc2 x].toArray).foldl (fun t (p,v)=>t.setIfInBounds p v) a.tmps,defers:=[]}:=by
   have h5:=(h1.put (t:=p) (by simpa using hp) (At x)).put (t:=p2) (by simpa using hp2) (enc2 x)
   have e:((#[p,p2]:Array Nat).zip [At x,enc2 x].toArray).foldl (fun t (p,v)=>t.setIfInBounds p v) a.tmps=(a.tmps.setIfInBounds p (At x)).setIfInBounds p2 (enc2 x):=by
    have e0:(#[p,p2]:Array Nat).zip [At x,enc2 x].toArray= #[(p,At x),(p2,enc2 x)]:=by simp [Array.zip]
    rw [e0];simp
   rw [e];exact h5
  have e2:HP.obj l (rec_ .ready none)*(J pre*(HP.obj w.heap.size (.deferred (some []))*R))=J pre*(HP.obj l (rec_ .ready none)*(HP.obj w.heap.size (.deferred (some []))*R)):=by ac_rfl
  refine Yj ?_;intro e a1 w1 hq
  cases e with
  |normal=>
   obtain⟨y,k1,k2,k3⟩:=hq;dsimp only at k1 k3;rw [show HA y x*(J pre*(HP.obj l (rec_ .ready none)*(HP.obj w.heap.size (.deferred (some []))*R)))=HP.obj l (rec_ .ready none)*(HA y x*(J pre*(HP.obj w.heap.size (.deferred (some []))*R))) by ac_rfl]at k3;obtain⟨hb1,_,_⟩:=k3.Em;refine⟨_,run_beginRound hb1 rfl,?_⟩;have k4:=k3.F5z (y:=rec_ .busy none) Cs
   have e3:HP.obj l (rec_ .busy none)*(HA y x*(J pre*(HP.obj w.heap.size (.deferred (some []))*R)))=HA y x*(J pre*(HP.obj l (rec_ .busy none)*(HP.obj w.heap.size (.deferred (some []))*R))):=by ac_rfl
   rw [e3]at k4;refine wpIn_mono (hbody y pre x l _ hsp a1 _ k1 k2 k4) ?_;intro e a2 w2 hq
   cases e with
   |normal=>
    obtain⟨hG,hq⟩:=hq;have hq':Sat B (J (pre++[x])*(HP.obj l (rec_ .busy none)*(HP.obj w.heap.size (.deferred (some []))*R))) w2:=hq;rw [HP.CV]at hq';obtain⟨hb2,_,_⟩:=hq'.Em;refine iP ?_
    have:=hq'.F5z (y:=rec_ .ready none) Cs
    show Sat B (J (pre++[x])*(_*_)*R) _
    have e4:J (pre++[x])*(HP.obj w.heap.size (.deferred (some []))*HP.obj l (rec_ .ready none))*R=HP.obj l (rec_ .ready none)*(J (pre++[x])*(HP.obj w.heap.size (.deferred (some []))*R)):=by ac_rfl
    rw [e4];exact this
   |exit id0=>
    obtain⟨id,hid⟩:∃id:Option Nat,id=some id0:=Bl
    have hq':Sat B (Jx (some id0) (pre++[x])*(HP.obj l (rec_ .busy none)*(HP.obj w.heap.size (.deferred (some []))*R))) w2:=hq;rw [HP.CV]at hq';obtain⟨hb2,_,_⟩:=hq'.Em;refine aB ?_
    have:=hq'.F5z (y:=rec_ .done (some (EG (some id0)))) Cs
    show Sat B (HP.ex _*R) _;rw [HP.HG];refine Sat.ex.2 ⟨some id0,?_⟩
    have e4:Jx (some id0) (pre++[x])*(HP.obj w.heap.size (.deferred (some []))*HP.obj l (rec_ .done (some (EG (some id0)))))*R=HP.obj l (rec_ .done (some (EG (some id0))))*(Jx (some id0) (pre++[x])*(HP.obj w.heap.size (.deferred (some []))*R)):=by ac_rfl
    rw [e4];exact this
   |ret=>
    have hq':Sat B (Jx none (pre++[x])*(HP.obj l (rec_ .busy none)*(HP.obj w.heap.size (.deferred (some []))*R))) w2:=hq;rw [HP.CV]at hq';obtain⟨hb2,_,_⟩:=hq'.Em;refine dZ ?_
    have:=hq'.F5z (y:=rec_ .done (some (EG none))) Cs
    show Sat B (HP.ex _*R) _;rw [HP.HG];refine Sat.ex.2 ⟨none,?_⟩
    have e4:Jx none (pre++[x])*(HP.obj w.heap.size (.deferred (some []))*HP.obj l (rec_ .done (some (EG none))))*R=HP.obj l (rec_ .done (some (EG none)))*(Jx none (pre++[x])*(HP.obj w.heap.size (.deferred (some []))*R)):=by ac_rfl
    rw [e4];exact this
   |goto t=>exact hq.elim
   |panic ch=>exact hq.elim
   |outgrown=>exact hq.elim
  |exit id=>exact hq.elim
  |goto t=>exact hq.elim
  |ret=>exact hq.elim
  |panic ch=>exact hq.elim
  |outgrown=>exact hq.elim
 have hcall:=hit l J' Jx' hY _ (by
  have e5:J' []*F=HP.obj l (rec_ .ready none)*(HP.obj w.heap.size (.deferred (some []))*(J []*F)):=by
   show J []*(_*_)*F=_
   ac_rfl
  rw [e5];exact hl1)
 let W1:World:=(w.alloc (.deferred (some []))).alloc (rec_ .ready none)
 refine⟨l,[H5 w.heap.size],W1,{target:=.fn (.func gf) lb.toArray,args:= #[.func (.yield l) #[] #[]]},W1,gf,(.func (.yield l) #[] #[]::lb).toArray,W1,run_enterLoop_outer _ _ _ _ _,?_,fun f' _=>(show(fr none).fn f' from trivial),?_,fun h0=>by simp [fr,Fence.wide]at h0,?_⟩
 ·simp only [resolve,h1.ev hg];simp [go_sem]
 ·have:=hok.get (.func (.yield l) #[] #[]::lb).toArray W1
  simpa [invoke]using this
 ·refine CallsIn.mono (Re (r:=none) (n:=0-1) hcall) ?_;rintro e w3 ⟨v,H',rfl,hp3,hs3⟩;rcases hp3 with⟨xs,hS,rfl⟩|⟨pre,hS,rfl⟩
  ·have e6:J' xs*F'=HP.obj l (rec_ .ready none)*(J xs*(HP.obj w.heap.size (.deferred (some []))*F')):=by
    show J xs*(_*_)*F'=_;ac_rfl
   rw [e6]at hs3;obtain⟨hb3,_,_⟩:=hs3.Em;refine⟨_,_,run_endLoop hb3 Ce,?_⟩
   have:=(hs3.F5z (y:=rec_ .exhausted none) Cs).right
   exact hdone _ xs hS _ _ h1 NR this
  ·have hs4:Sat B (HP.ex (fun id=>Jx id pre*(HP.obj w.heap.size (.deferred (some []))*HP.obj l (rec_ .done (some (EG id)))))*F') w3:=hs3;rw [HP.HG]at hs4;obtain⟨id,hs5⟩:=Sat.ex.1 hs4
   have e6:Jx id pre*(HP.obj w.heap.size (.deferred (some []))*HP.obj l (rec_ .done (some (EG id))))*F'=HP.obj l (rec_ .done (some (EG id)))*(Jx id pre*(HP.obj w.heap.size (.deferred (some []))*F')):=by ac_rfl
   rw [e6]at hs5;obtain⟨hb3,_,_⟩:=hs5.Em;refine⟨_,_,run_endLoop hb3 Ce,?_⟩
   have:=(hs5.F5z (y:=rec_ .exhausted (some (EG id))) Cs).right
   cases id with
   |none=>exact wpIn_ret (hstop _ pre none hS _ _ h1 NR this)
   |some id=>exact wpIn_exit (hstop _ pre (some id) hS _ _ h1 NR this)
theorem Uk{α:Type}{gf:FuncId}{lb:List Value}{p:Nat}{g:Operand}{assign body:Code}[hok:Ah P gf]
  (At:α→Value)(S Sp G:List α→Prop)(J:List α→HP)(Jx:Option Nat→List α→HP)(F F':HP)(EA:Nat→α→A5)(HA:Nat→α→HP)
  (hg:ev E g=some (.func (.func gf) #[] lb.toArray))(hp:mb p n=true)(hr:D.r=none)(hH:∀w,Sat B H w→Sat B (J []*F) w)(hit:NW P B gf lb At S Sp G F F')
  (hasg:∀pre x l R,WP P B assign (SO B n (fun y=>EA y x) (fun y=>HA y x*(J pre*R))) n ((p,At x)::E) ⟨[],some l⟩ (J pre*R))
  (hbody:∀y pre x l R,Sp (pre++[x])→WP P B body (Oi B (G (pre++[x])) (J (pre++[x])*R) (fun id=>Jx id (pre++[x])*R)) n (EA y x) ⟨[],some l⟩ (HA y x*(J pre*R)))
  (hdone:∀d xs,S xs→BI B Q .normal n E ⟨H5 d::D.ds,none⟩ (J xs*(HP.obj d (.deferred (some []))*F')))
  (hstop:∀d pre id,Sp pre→BI B Q (bD id) n E ⟨H5 d::D.ds,none⟩ (Jx id pre*(HP.obj d (.deferred (some []))*F'))):
  WP P B (.rangeFunc g #[p] assign body) Q n E D H:=by
 intro a w h1 h2 h3;rw [hr];refine wpIn_rangeFunc fun fn _=>?_;have h3:=hH w h3
 let rec_:LoopState→Option Code→Obj:=fun st pe=>.loop {state:=st,pending:=pe,fn,tmps:=a.tmps,params:= #[p],assign,body,defers:=w.heap.size}
 let l:=w.heap.size+1
 have hl1:Sat B (HP.obj l (rec_ .ready none)*(HP.obj w.heap.size (.deferred (some []))*(J []*F))) ((w.alloc (.deferred (some []))).alloc (rec_ .ready none)):=by
  have:=(h3.MZ (.deferred (some [])) Ce).MZ (rec_ .ready none) Cs
  rwa [World.Ox]at this
 let J':List α→HP:=fun pre=>J pre*(HP.obj w.heap.size (.deferred (some []))*HP.obj l (rec_ .ready none))
 let Jx':List α→HP:=fun pre=>HP.ex fun id=>Jx id pre*(HP.obj w.heap.size (.deferred (some []))*HP.obj l (rec_ .done (some (EG id))))
 have hY:∀pre x R,Sp (pre++[x])→Yn P B l [At x] (J' pre*R) (fun v H'=>∃g:Bool,v=.bool g∧(g=true→G (pre++[x]))∧H'=(bif g then J' (pre++[x])else Jx' (pre++[x]))*R):=by
  intro pre x R hsp W hW
  have e1:J' pre*R=HP.obj l (rec_ .ready none)*(J pre*(HP.obj w.heap.size (.deferred (some []))*R)):=by
   show J pre*(_*_)*R=_;ac_rfl
  rw [e1]at hW;obtain⟨hW1,_,_⟩:=hW.Em;refine⟨fn,_,assign,body,run_yield hW1 rfl,?_⟩;refine roundIn_of_wpIn trivial ?_
  have hE:DA n ((p,At x)::E) {tmps:=((#[p]:Array Nat).zip [At x].toArray).foldl (fun t (p,v)=>t.setIfInBounds p v) a.tmps,defers:=[]}:=by
   have h5:=h1.put (t:=p) (by simpa using hp) (At x)
   have e:((#[p]:Array Nat).zip [At x].toArray).foldl (fun t (p,v)=>t.setIfInBounds p v) a.tmps=a.tmps.setIfInBounds p (At x):=by
    have e0:(#[p]:Array Nat).zip [At x].toArray= #[(p,At x)]:=by simp [Array.zip]
    rw [e0];simp
   rw [e];exact h5
  have e2:HP.obj l (rec_ .ready none)*(J pre*(HP.obj w.heap.size (.deferred (some []))*R))=J pre*(HP.obj l (rec_ .ready none)*(HP.obj w.heap.size (.deferred (some []))*R)):=by ac_rfl
  refine Yj ?_;intro e a1 w1 hq
  cases e with
  |normal=>
   obtain⟨y,k1,k2,k3⟩:=hq;dsimp only at k1 k3;rw [show HA y x*(J pre*(HP.obj l (rec_ .ready none)*(HP.obj w.heap.size (.deferred (some []))*R)))=HP.obj l (rec_ .ready none)*(HA y x*(J pre*(HP.obj w.heap.size (.deferred (some []))*R))) by ac_rfl]at k3;obtain⟨hb1,_,_⟩:=k3.Em;refine⟨_,run_beginRound hb1 rfl,?_⟩;have k4:=k3.F5z (y:=rec_ .busy none) Cs
   have e3:HP.obj l (rec_ .busy none)*(HA y x*(J pre*(HP.obj w.heap.size (.deferred (some []))*R)))=HA y x*(J pre*(HP.obj l (rec_ .busy none)*(HP.obj w.heap.size (.deferred (some []))*R))):=by ac_rfl
   rw [e3]at k4;refine wpIn_mono (hbody y pre x l _ hsp a1 _ k1 k2 k4) ?_;intro e a2 w2 hq
   cases e with
   |normal=>
    obtain⟨hG,hq⟩:=hq;have hq':Sat B (J (pre++[x])*(HP.obj l (rec_ .busy none)*(HP.obj w.heap.size (.deferred (some []))*R))) w2:=hq;rw [HP.CV]at hq';obtain⟨hb2,_,_⟩:=hq'.Em;refine iP ?_
    have:=hq'.F5z (y:=rec_ .ready none) Cs
    show Sat B (J (pre++[x])*(_*_)*R) _
    have e4:J (pre++[x])*(HP.obj w.heap.size (.deferred (some []))*HP.obj l (rec_ .ready none))*R=HP.obj l (rec_ .ready none)*(J (pre++[x])*(HP.obj w.heap.size (.deferred (some []))*R)):=by ac_rfl
    rw [e4];exact this
   |exit id0=>
    obtain⟨id,hid⟩:∃id:Option Nat,id=some id0:=Bl
    have hq':Sat B (Jx (some id0) (pre++[x])*(HP.obj l (rec_ .busy none)*(HP.obj w.heap.size (.deferred (some []))*R))) w2:=hq;rw [HP.CV]at hq';obtain⟨hb2,_,_⟩:=hq'.Em;refine aB ?_
    have:=hq'.F5z (y:=rec_ .done (some (EG (some id0)))) Cs
    show Sat B (HP.ex _*R) _;rw [HP.HG];refine Sat.ex.2 ⟨some id0,?_⟩
    have e4:Jx (some id0) (pre++[x])*(HP.obj w.heap.size (.deferred (some []))*HP.obj l (rec_ .done (some (EG (some id0)))))*R=HP.obj l (rec_ .done (some (EG (some id0))))*(Jx (some id0) (pre++[x])*(HP.obj w.heap.size (.deferred (some []))*R)):=by ac_rfl
    rw [e4];exact this
   |ret=>
    have hq':Sat B (Jx none (pre++[x])*(HP.obj l (rec_ .busy none)*(HP.obj w.heap.size (.deferred (some []))*R))) w2:=hq;rw [HP.CV]at hq';obtain⟨hb2,_,_⟩:=hq'.Em;refine dZ ?_
    have:=hq'.F5z (y:=rec_ .done (some (EG none))) Cs
    show Sat B (HP.ex _*R) _;rw [HP.HG];refine Sat.ex.2 ⟨none,?_⟩
    have e4:Jx none (pre++[x])*(HP.obj w.heap.size (.deferred (some []))*HP.obj l (rec_ .done (some (EG none))))*R=HP.obj l (rec_ .done (some (EG none)))*(Jx none (pre++[x])*(HP.obj w.heap.size (.deferred (some []))*R)):=by ac_rfl
    rw [e4];exact this
   |goto t=>exact hq.elim
   |panic ch=>exact hq.elim
   |outgrown=>exact hq.elim
  |exit id=>exact hq.elim
  |goto t=>exact hq.elim
  |ret=>exact hq.elim
  |panic ch=>exact hq.elim
  |outgrown=>exact hq.elim
 have hcall:=hit l J' Jx' hY _ (by
  have e5:J' []*F=HP.obj l (rec_ .ready none)*(HP.obj w.heap.size (.deferred (some []))*(J []*F)):=by
   show J []*(_*_)*F=_
   ac_rfl
  rw [e5];exact hl1)
 let W1:World:=(w.alloc (.deferred (some []))).alloc (rec_ .ready none)
 refine⟨l,[H5 w.heap.size],W1,{target:=.fn (.func gf) lb.toArray,args:= #[.func (.yield l) #[] #[]]},W1,gf,(.func (.yield l) #[] #[]::lb).toArray,W1,run_enterLoop_outer _ _ _ _ _,?_,fun f' _=>(show(fr none).fn f' from trivial),?_,fun h0=>by simp [fr,Fence.wide]at h0,?_⟩
 ·simp only [resolve,h1.ev hg];simp [go_sem]
 ·have:=hok.get (.func (.yield l) #[] #[]::lb).toArray W1
  simpa [invoke]using this
 ·refine CallsIn.mono (Re (r:=none) (n:=0-1) hcall) ?_;rintro e w3 ⟨v,H',rfl,hp3,hs3⟩;rcases hp3 with⟨xs,hS,rfl⟩|⟨pre,hS,rfl⟩
  ·have e6:J' xs*F'=HP.obj l (rec_ .ready none)*(J xs*(HP.obj w.heap.size (.deferred (some []))*F')):=by
    show J xs*(_*_)*F'=_;ac_rfl
   rw [e6]at hs3;obtain⟨hb3,_,_⟩:=hs3.Em;refine⟨_,_,run_endLoop hb3 Ce,?_⟩
   have:=(hs3.F5z (y:=rec_ .exhausted none) Cs).right
   exact hdone _ xs hS _ _ h1 NR this
  ·have hs4:Sat B (HP.ex (fun id=>Jx id pre*(HP.obj w.heap.size (.deferred (some []))*HP.obj l (rec_ .done (some (EG id)))))*F') w3:=hs3;rw [HP.HG]at hs4;obtain⟨id,hs5⟩:=Sat.ex.1 hs4
   have e6:Jx id pre*(HP.obj w.heap.size (.deferred (some []))*HP.obj l (rec_ .done (some (EG id))))*F'=HP.obj l (rec_ .done (some (EG id)))*(Jx id pre*(HP.obj w.heap.size (.deferred (some []))*F')):=by ac_rfl
   rw [e6]at hs5;obtain⟨hb3,_,_⟩:=hs5.Em;refine⟨_,_,run_endLoop hb3 Ce,?_⟩
   have:=(hs5.F5z (y:=rec_ .exhausted (some (EG id))) Cs).right
   cases id with
   |none=>exact wpIn_ret (hstop _ pre none hS _ _ h1 NR this)
   |some id=>exact wpIn_exit (hstop _ pre (some id) hS _ _ h1 NR this)
end
end
section
variable{B:World}
abbrev IH(r:AT):Value:=.agg #[uN r.lo,uN r.hi]
theorem uY{n:Nat}{E:A5}{D:B6}{H:HP}{Q:Exit→Act→World→Prop}{e:Exit}{aa:Act}{ww:World}(h1:DA n E aa)(h2:aa.defers=D.ds)(h4:Sat B H ww)(h:BI B Q e n E D H):Q e aa ww:=h aa ww h1 h2 h4
def dn(l:List AT)(j:Nat):AT:=rg l (l.length-1-j)
def Gl(l:List AT)(m:Nat):List AT:=(mh m).map (dn l)
def Ha(l:List AT)(m:Nat):List (Nat×AT):=(mh m).map (fun j=>(l.length-1-j,dn l j))
theorem TG(l:List AT)(m:Nat):(Ha l m).map kh=Gl l m:=by simp [Ha,Gl,Function.comp_def]
theorem wE(l:List AT)(m:Nat):Ha l (m+1)=Ha l m++[(l.length-1-m,dn l m)]:=by simp [Ha,List.range_succ]
theorem F! (l:List AT):Gl l l.length=l.reverse:=by
 apply List.ext_getElem
 ·simp [Gl]
 ·intro i h1 h2;simp only [Gl,List.getElem_map,List.getElem_range,List.getElem_reverse,dn,rg]
  have h3:i<l.length:=by simpa [Gl]using h1
  rw [g',h_ Ca];rfl
theorem pW(p:Option Addr)(k c:Nat)(H:HP):
  Fn Tryz.prog B 167 [.slice p k c] H (fun v H'=>∃b1,v=CZ 188 [ptr b1 0]∧H'=HP.AA b1 0 [.slice p k c]*H):=by
 refine mI Tryz.func167 ?_;refine Ka ?_;rintro _ _ ⟨b1,rfl,rfl⟩;refine J5 ?_;refine JL GW ?_;refine J4 ?_;exact mr [2] rfl rfl ⟨b1,rfl,rfl⟩
theorem tZ(l:List AT)(p:Option Addr)(b o c b1:Nat)(F:HP)(hs:Sl p b o l.length c)(hl:l.length<100000)[h1:Rd B F b1 0 (.slice p l.length c) True][h2:Ai B F b o l]:
  gX Tryz.prog B 188 [ptr b1 0] (fun x:Nat×AT=>iN x.1) (fun x=>IH x.2) (fun xs=>xs=Ha l l.length) (fun ys=>∃m,m≤l.length∧Ha l m=ys) (fun _=>True) F F:=by
 intro L J Jx hy;refine mI Tryz.func188 ?_;refine J4 ?_;refine JL (P0 (i:=(l.length:Nat)) (j:=1) rfl rfl Ca) ?_;refine J4 ?_;refine Bj (α:=Nat) (fun k=>[(0,.func (.yield L) #[] #[]),(1,ptr b1 0),(3,.int .i64 ((k:Int)-1))]) (fun k=>J (Ha l (l.length-k))*F) (fun k=>k≤l.length) (fun k=>k) l.length CW Ea (by rw [Nat.sub_self];rfl) ?_;intro k hk;refine J4 ?_;refine JL (Pr (j:=0) rfl rfl) ?_;refine J2 ?_;refine mC (fun h8=>?_) (fun h8=>?_)
 ·skip
  obtain⟨k',rfl⟩:∃k',k=k'+1:=⟨k-1,Ca⟩
  refine Rj (E':=[(0,.func (.yield L) #[] #[]),(1,ptr b1 0),(3,iN k')]) (.cons rfl (.cons rfl (.cons (by show some (Value.int .i64 (((k'+1:Nat):Int)-1))=some (.int .i64 (k':Nat));congr 2;omega) .nil))) ?_
  have hix:l.length-1-(l.length-(k'+1))=k':=by omega
  have hsn:Ha l (l.length-(k'+1)+1)=Ha l (l.length-(k'+1))++[(k',rg l k')]:=by rw [wE,dn,hix]
  refine CL ?_;refine JL NG ?_;refine JL Yi ?_;refine Nk (Ts rfl rfl (hy (Ha l (l.length-(k'+1))) (k',rg l k') _ ⟨l.length-(k'+1)+1,Ca,by rw [hsn]⟩)) rfl ?_;rintro _ _ ⟨g,rfl,hg,rfl⟩;refine JP ?_;refine mc (fun h18=>?_) (fun h18=>?_)
  ·skip
   obtain rfl:g=false:=by simpa using h18
   refine J5 ?_;exact mr [] rfl rfl (.inr ⟨_,⟨l.length-(k'+1)+1,Ca,hsn⟩,rfl⟩)
  refine J5 ?_;refine JL (P0 (i:=(k':Nat)) (j:=1) rfl rfl Ca) ?_;refine J2 ?_
  obtain rfl:g=true:=by simpa using h18
  exact Ba k' Ca Ca Ea (by rw [show l.length-k'=(l.length-(k'+1))+1 by omega,hsn];rfl)
 obtain rfl:k=0:=by omega
 refine J4 ?_;exact Pd (ts:=[]) rfl rfl (.inl ⟨_,rfl,by rw [Nat.sub_zero]⟩)
theorem Vh(q:Nat)(H:HP):
  Fn Tryz.prog B 137 [ptr q 0] H (fun v H'=>∃b1,v=CZ 166 [ptr b1 0]∧H'=HP.AA b1 0 [ptr q 0]*H):=by
 refine mI Tryz.func137 ?_;refine Ka ?_;rintro _ _ ⟨b1,rfl,rfl⟩;refine J5 ?_;refine JL GW ?_;refine J4 ?_;exact mr [2] rfl rfl ⟨b1,rfl,rfl⟩
set_option maxHeartbeats 1000000 in
theorem Tz(q b1:Nat)(a:B9)(z:BD)(F:HP)(hs:a.ok z)(hl:z.l.length<100000)[h1:Rd B F b1 0 (ptr q 0) True][hz:G4 B F q a z]:
  NW Tryz.prog B 166 [ptr b1 0] IH (fun xs=>xs=z.l.reverse) (fun ys=>∃m,m≤z.l.length∧Gl z.l m=ys) (fun _=>True) F F:=by
 intro L J Jx hy
 have:=hz.l
 have:=hz.r
 refine RJ Tryz.func166 rfl rfl rfl ?_;refine Ka ?_;rintro _ _ ⟨b2,rfl,rfl⟩;refine J8 ?_;refine mE rfl (pW _ _ _ _) ?_;rintro _ _ ⟨b9,rfl,rfl⟩;refine J3 ?_
 refine sC (α:=Nat×AT) (fun x=>iN x.1) (fun x=>IH x.2) (fun xs=>xs=Ha z.l z.l.length) (fun ys=>∃m,m≤z.l.length∧Ha z.l m=ys) (fun _=>True) (fun pre=>J (pre.map kh)*HP.AA b2 0 [.func (.yield L) #[] #[]]) (fun cx pre=>HP.pr (cx=none)*(Jx (pre.map kh)*HP.AA b2 0 [.func (.yield L) #[] #[]])) (HP.AA b9 0 [.slice a.p z.l.length a.c]*F) (HP.AA b9 0 [.slice a.p z.l.length a.c]*F) (fun y x=>[(2,ptr b2 0),(4,ptr y 0)]) (fun y x=>HP.AA y 0 [uN x.2.lo,uN x.2.hi]) rfl rfl rfl rfl ?_ (tZ z.l a.p a.b a.o a.c b9 _ hs.1 hl) ?_ ?_ ?_ ?_
 ·intro w hw;show Sat B (J ([]:List AT)*HP.AA b2 0 _*(HP.AA b9 0 _*F)) w;rw [show J ([]:List AT)*HP.AA b2 0 [.func (.yield L) #[] #[]]*(HP.AA b9 0 [.slice a.p z.l.length a.c]*F)=HP.AA b9 0 [.slice a.p z.l.length a.c]*(HP.AA b2 0 [.func (.yield L) #[] #[]]*(J []*F)) by ac_rfl];exact hw
 ·intro pre x l R;refine J1 ?_;refine Am N8 rfl ?_;rintro _ _ ⟨b4,rfl,rfl⟩;refine Bv Kv ?_;refine IN ?_;exact Ra b4 Hi rfl
 ·intro y pre x l R hsp;obtain⟨m,hm,hmm⟩:=hsp
  have hpre:pre.map kh++[x.2]=(pre++[x]).map kh:=by simp
  rw [show HP.AA y 0 [uN x.2.lo,uN x.2.hi]*(J (pre.map kh)*HP.AA b2 0 [.func (.yield L) #[] #[]]*R)=J (pre.map kh)*(HP.AA y 0 [uN x.2.lo,uN x.2.hi]*(HP.AA b2 0 [.func (.yield L) #[] #[]]*R)) by ac_rfl];refine J4 ?_;refine JL (D6 (l:=[uN x.2.lo,uN x.2.hi]) rfl rfl) ?_;refine Nk (Ts rfl rfl (hy (pre.map kh) x.2 _ ⟨m,hm,by rw [hpre,←hmm,TG]⟩)) rfl ?_;rintro _ _ ⟨g,rfl,hg,rfl⟩;refine JL LQ ?_;refine J2 ?_;refine mc (fun h15=>?_) (fun h15=>?_)
  ·skip
   obtain rfl:g=false:=by simpa using h15
   refine J2 ?_;refine j8 ?_;intro w hw;show Sat B (HP.pr (none=none)*(Jx ((pre++[x]).map kh)*HP.AA b2 0 [.func (.yield L) #[] #[]])*R) w;rw [HP.assoc,Sat.pr];refine⟨rfl,?_⟩;refine Bz.get (B:=B) (H:=Jx ((pre++[x]).map kh)*(HP.AA b2 0 [.func (.yield L) #[] #[]]*(HP.AA y 0 [uN x.2.lo,uN x.2.hi]*R))) w ?_;rw [←hpre,show Jx (pre.map kh++[x.2])*(HP.AA b2 0 [.func (.yield L) #[] #[]]*(HP.AA y 0 [uN x.2.lo,uN x.2.hi]*R))=Jx (pre.map kh++[x.2])*(HP.AA y 0 [uN x.2.lo,uN x.2.hi]*(HP.AA b2 0 [.func (.yield L) #[] #[]]*R)) by ac_rfl];exact hw
  refine J2 ?_
  obtain rfl:g=true:=by simpa using h15
  refine GP trivial ?_;intro w hw;refine Bz.get (B:=B) (H:=J ((pre++[x]).map kh)*(HP.AA b2 0 [.func (.yield L) #[] #[]]*(HP.AA y 0 [uN x.2.lo,uN x.2.hi]*R))) w ?_;rw [←hpre,show J (pre.map kh++[x.2])*(HP.AA b2 0 [.func (.yield L) #[] #[]]*(HP.AA y 0 [uN x.2.lo,uN x.2.hi]*R))=J (pre.map kh++[x.2])*(HP.AA y 0 [uN x.2.lo,uN x.2.hi]*(HP.AA b2 0 [.func (.yield L) #[] #[]]*R)) by ac_rfl];exact hw
 ·intro d xs hS;subst hS;refine J1 ?_;rw [TG,F!];refine Bo (HP.obj d (.deferred (some []))*(J z.l.reverse*F)) (hE:=⟨fun w hw=>?_⟩) ?_
  ·refine Bz.get (B:=B) (H:=HP.obj d (.deferred (some []))*(J z.l.reverse*(F*(HP.AA b9 0 [.slice a.p z.l.length a.c]*HP.AA b2 0 [.func (.yield L) #[] #[]])))) w ?_;rw [show HP.obj d (.deferred (some []))*(J z.l.reverse*(F*(HP.AA b9 0 [.slice a.p z.l.length a.c]*HP.AA b2 0 [.func (.yield L) #[] #[]])))=J z.l.reverse*HP.AA b2 0 [.func (.yield L) #[] #[]]*(HP.obj d (.deferred (some []))*(HP.AA b9 0 [.slice a.p z.l.length a.c]*F)) by ac_rfl];exact hw
  exact UJ (ts:=[]) [d] _ rfl rfl (.inl Nq) rfl
 rintro d pre (_|id) ⟨m,hm,rfl⟩;rotate_left
 ·intro aa ww _ _ h3;rw [HP.assoc]at h3;exact absurd (Sat.pr.1 h3).1 Ce
 intro aa ww h1 h2 h3;rw [HP.assoc]at h3;have h4:=(Sat.pr.1 h3).2;rw [TG]at h4;refine uY h1 h2 h4 ?_;refine Bo (HP.obj d (.deferred (some []))*(Jx (Gl z.l m)*F)) (hE:=⟨fun w hw=>?_⟩) ?_
 ·refine Bz.get (B:=B) (H:=HP.obj d (.deferred (some []))*(Jx (Gl z.l m)*(F*(HP.AA b9 0 [.slice a.p z.l.length a.c]*HP.AA b2 0 [.func (.yield L) #[] #[]])))) w ?_;rw [show HP.obj d (.deferred (some []))*(Jx (Gl z.l m)*(F*(HP.AA b9 0 [.slice a.p z.l.length a.c]*HP.AA b2 0 [.func (.yield L) #[] #[]])))=Jx (Gl z.l m)*HP.AA b2 0 [.func (.yield L) #[] #[]]*(HP.obj d (.deferred (some []))*(HP.AA b9 0 [.slice a.p z.l.length a.c]*F)) by ac_rfl];exact hw
 exact QA (ts:=[]) [d] _ rfl rfl (.inr ⟨_,⟨m,hm,rfl⟩,rfl⟩) rfl
set_option maxHeartbeats 1000000 in
theorem mO(gf:FuncId)(lb:List Value)(l:List AT)(Sp:List AT→Prop)(F:HP)[Ah Tryz.prog gf](hSp:∀ys,Sp ys→ys.length≤100000)(hit:NW Tryz.prog B gf lb IH (fun xs=>xs=l) Sp (fun _=>True) F F):
  Fn Tryz.prog B 165 [.slice none 0 0,CZ gf lb] F (fun v H'=>CB F l v H'):=by
 refine RJ Tryz.func165 rfl rfl rfl ?_;refine Ka ?_;rintro _ _ ⟨b2,rfl,rfl⟩;refine CL ?_
 refine Uk (α:=AT) IH (fun xs=>xs=l) Sp (fun _=>True) (fun pre=>HP.ex fun z:B9=>HP.pr (Sl z.p z.b z.o pre.length z.c∧pre.length*2+z.s.length=z.c*2)*(HP.AA b2 0 [.slice z.p pre.length z.c]*AB z.b z.o pre z.s)) (fun cx pre=>HP.pr False) F F (fun y x=>[(2,ptr b2 0),(5,ptr y 0)]) (fun y x=>HP.AA y 0 [uN x.lo,uN x.hi]) rfl rfl rfl ?_ hit ?_ ?_ ?_ ?_
 ·refine IS ⟨none,0,0,0,[]⟩ ⟨Gi,rfl⟩ ?_;rw [G7,HP.Ge];rfl
 ·intro pre x l R;refine J1 ?_;refine Am N8 rfl ?_;rintro _ _ ⟨b5,rfl,rfl⟩;refine Bv Kv ?_;refine IN ?_;exact Ra b5 Hi rfl
 ·intro y pre x l R hsp;refine Au (H':=(HP.ex fun z:B9=>HP.pr (Sl z.p z.b z.o pre.length z.c∧pre.length*2+z.s.length=z.c*2)*(HP.AA b2 0 [.slice z.p pre.length z.c]*AB z.b z.o pre z.s))*(HP.AA y 0 [uN x.lo,uN x.hi]*R)) Cg ?_;refine MT ?_;rintro⟨pq,bq,oq,cq,sq⟩ ⟨hq1,hq2⟩;dsimp only at hq1 hq2⊢;have hpl:(pre++[x]).length≤100000:=hSp _ hsp;rw [a_,lj]at hpl;refine J3 ?_;refine JL (D6 (l:=[uN x.lo,uN x.hi]) rfl rfl) ?_;refine Am (HD (cs:=[uN x.lo,uN x.hi]) rfl Cq rfl rfl) rfl ?_;rintro _ _ ⟨b10,rfl,rfl⟩;refine BQ (H':=AB bq oq pre sq*(HP.AA b10 0 (AG [x])*(HP.AA b2 0 [.slice pq pre.length cq]*(HP.AA y 0 [uN x.lo,uN x.hi]*R)))) (by show HP.AA b10 0 _*_=_;ac_rfl) ?_;refine Am (DG (ys:=[x]) (bb:=b10) (oo:=0) (cc:=1) rfl hq1 hq2 rfl CS inferInstance rfl Cn Ca) rfl ?_;rintro _ _ ⟨p11,b11,o11,c11,s11,rfl,hs11,hc11,rfl⟩;refine J3 ?_;refine Bo (AB b11 o11 (pre++[x]) s11*(HP.AA b2 0 [.slice p11 (pre++[x]).length c11]*R)) ?_;exact GP trivial (IS (⟨p11,b11,o11,c11,s11⟩:B9) ⟨hs11,hc11⟩ Cg)
 ·intro d xs hS;subst hS;refine Rh ?_;rintro⟨pq,bq,oq,cq,sq⟩ ⟨hq1,hq2⟩;dsimp only at hq1 hq2⊢;refine J9 ?_;refine D2 (H':=HP.AA b2 0 [.slice pq xs.length cq]*(HP.obj d (.deferred (some []))*(AB bq oq xs sq*F))) Cg ?_;refine Bo (HP.obj d (.deferred (some []))*(AB bq oq xs sq*F)) ?_;exact QA (ts:=[4]) [d] _ rfl rfl ⟨pq,bq,oq,cq,sq,rfl,hq1,hq2,rfl⟩ rfl
 rintro d pre id _ aa ww _ _ h3;exact VZ
 -- no other way
theorem oX(gf:FuncId)(lb:List Value)(l:List AT)(Sp:List AT→Prop)(F:HP)[Ah Tryz.prog gf](hSp:∀ys,Sp ys→ys.length≤100000)(hit:NW Tryz.prog B gf lb IH (fun xs=>xs=l) Sp (fun _=>True) F F):
  Fn Tryz.prog B 136 [CZ gf lb] F (fun v H'=>CB F l v H'):=by
 refine mI Tryz.func136 ?_;refine J8 ?_;refine mE rfl (mO gf lb l Sp F hSp hit) ?_;rintro _ _ ⟨p4,b4,o4,c4,s4,rfl,hs4,hc4,rfl⟩;refine J4 ?_;exact mr [2] rfl rfl ⟨p4,b4,o4,c4,s4,rfl,hs4,hc4,rfl⟩
theorem em(l:List AT)(p:Option Addr)(b o c:Nat)(f:FuncId)(us:List Value)(P:AT→Prop)[DecidablePred P](H:HP)[Ah Tryz.prog f](hs:Sl p b o l.length c)[hr:Ai B H b o l](hl:l.length<4611686018427387904)
  (hf:∀r,r∈l→Fn Tryz.prog B f (IH r::us) H (fun v H'=>v=.bool (decide (P r))∧H'=H)):
  Fn Tryz.prog B 226 [.slice p l.length c,CZ f us] H (fun v H'=>∃k:Int,v=.int .i64 k∧ -1≤k∧k<4611686018427387904∧(0≤k↔∃r∈l,P r)∧H'=H):=by
 refine mI Tryz.func226 ?_;refine Hb ?_;refine J7 ?_;refine HQ ?_;refine Bj (α:=Nat) (fun i=>[(0,.slice p l.length c),(1,CZ f us),(7,iN l.length),(8,iN i)]) (fun _=>H) (fun i=>i≤l.length∧∀j,j<i→¬P (rg l j)) (fun i=>l.length-i) 0 ⟨lx _,(fun j h=>absurd h Ly)⟩ DN rfl ?_;rintro i ⟨hi1,hi2⟩;refine J6 ?_;refine mC (fun h9=>?_) (fun h9=>?_)
 ·refine QL ?_;refine JL NG ?_;refine JL Yi ?_;refine Am (IJ rfl rfl (hf (rg l i) (Hu (P:=fun r=>r∈l) (fun r h=>h) i Ca))) rfl ?_;refine JR ?_;refine J2 ?_;refine mC (fun h16=>?_) (fun h16=>?_)
  ·refine DV ?_;exact mr [4] rfl rfl ⟨(i:Nat),rfl,Ca,Ca,⟨fun _=>⟨rg l i,Hu (P:=fun r=>r∈l) (fun r h=>h) i Ca,by simpa using h16⟩,fun _=>by omega⟩,rfl⟩
  refine Ic ?_;exact Ba (i+1) ⟨Ca,fun j hj=>by rcases ln j i with h|h;exact hi2 j h;obtain rfl:j=i:=Ca;simpa using h16⟩ Ca DN rfl
 refine B1 ?_;exact mr [4] rfl rfl ⟨-1,rfl,Ca,Ca,⟨fun h=>by omega,fun⟨r,hr,hp⟩=>by obtain⟨j,hj,rfl⟩:=lm hr;have h7:=hi2 j Ca;unfold rg at h7;rw [g',h_ hj]at h7;exact absurd hp h7⟩,rfl⟩
theorem zF(l:List AT)(p:Option Addr)(b o c:Nat)(f:FuncId)(us:List Value)(P:AT→Prop)[DecidablePred P](H:HP)[Ah Tryz.prog f](hs:Sl p b o l.length c)[hr:Ai B H b o l](hl:l.length<4611686018427387904)
  (hf:∀r,r∈l→Fn Tryz.prog B f (IH r::us) H (fun v H'=>v=.bool (decide (P r))∧H'=H)):
  Fn Tryz.prog B 213 [.slice p l.length c,CZ f us] H (fun v H'=>v=.bool (decide (∃r∈l,P r))∧H'=H):=by
 refine mI Tryz.func213 ?_;refine J9 ?_;refine mE rfl (em l p b o c f us P H hs hl hf) ?_;rintro _ _ ⟨k,rfl,hk1,hk2,hk3,rfl⟩;refine JL (Pr (j:=0) rfl rfl) ?_;refine J4 ?_;refine mr [4] rfl rfl ⟨?_,rfl⟩;refine M0 ?_;congr 1;exact ku.2 (by simp only [decide_eq_true_eq];exact hk3)
end
section
open Go Go.RowKit Go.Extern.Stop Go.Stop Go.Extern
set_option linter.unusedVariables false
set_option maxRecDepth 20000
instance:Gq Tryz.prog 120 (fun args=>ReflectliteValue.unpack (args.getD 0 (.tuple #[]))):=⟨@run_callFunc_extern Tryz.prog 120 _ _ Tryz.func120 Cb Cb Cb Cb⟩
instance :Gq Tryz.prog 121 (ReflectliteValue.methodAny (ReflectliteValue.valueError "reflectlite.Value.Type" 0) (fun t _ _ _ =>ReflectliteType.toType t)) :=⟨@run_callFunc_extern Tryz.prog 121 _ _ Tryz.func121 Cb Cb Cb Cb⟩
instance :Gq Tryz.prog 122 (ReflectliteValue.method (ReflectliteValue.valueError "reflectlite.Value.IsNil" 0) ReflectliteValue.isNil) :=⟨@run_callFunc_extern Tryz.prog 122 _ _ Tryz.func122 Cb Cb Cb Cb⟩
instance:Gq Tryz.prog 243 (ReflectliteType.abiMethod fun t=>do pure (.int .u8 (←Rtype.kind t))):=⟨@run_callFunc_extern Tryz.prog 243 _ _ Tryz.func243 Cb Cb Cb Cb⟩
instance:Gq Tryz.prog 256 (ReflectliteType.method ReflectliteType.elem):=⟨@run_callFunc_extern Tryz.prog 256 _ _ Tryz.func256 Cb Cb Cb Cb⟩
instance :Gq Tryz.prog 257 (ReflectliteType.relation "Implements" ReflectliteType.implements_) :=⟨@run_callFunc_extern Tryz.prog 257 _ _ Tryz.func257 Cb Cb Cb Cb⟩
instance:Gq Tryz.prog 124 ReflectliteType.typeOf:=⟨@run_callFunc_extern Tryz.prog 124 _ _ Tryz.func124 Cb Cb Cb Cb⟩
instance :Gq Tryz.prog 254 (ReflectliteType.relation "AssignableTo" ReflectliteType.assignableTo) :=⟨@run_callFunc_extern Tryz.prog 254 _ _ Tryz.func254 Cb Cb Cb Cb⟩
instance :Gq Tryz.prog 159 (ReflectliteValue.method (ReflectliteValue.valueError "reflectlite.Value.Elem" 0) ReflectliteValue.elem) :=⟨@run_callFunc_extern Tryz.prog 159 _ _ Tryz.func159 Cb Cb Cb Cb⟩
instance:Gq Tryz.prog 160 ReflectliteValue.set:=⟨@run_callFunc_extern Tryz.prog 160 _ _ Tryz.func160 Cb Cb Cb Cb⟩
instance(h :Value) :JS Tryz.prog 282 (.agg #[h]) "Kind" 243 h :=⟨fun w =>by kernel_rfl⟩
instance(h :Value) :JS Tryz.prog 282 (.agg #[h]) "Elem" 256 (.agg #[h]) :=⟨fun w =>by kernel_rfl⟩
instance(h :Value) :JS Tryz.prog 282 (.agg #[h]) "Implements" 257 (.agg #[h]) :=⟨fun w =>by kernel_rfl⟩
instance(h :Value) :JS Tryz.prog 282 (.agg #[h]) "AssignableTo" 254 (.agg #[h]) :=⟨fun w =>by kernel_rfl⟩
instance(h :Value) :JS Tryz.prog 282 (.agg #[h]) "Comparable" 255 (.agg #[h]) :=⟨fun w =>by kernel_rfl⟩
instance(h :Value) :JS Tryz.prog 191 h "Unwrap" 249 h :=⟨fun w =>by kernel_rfl⟩
end
section
open Go Go.RowKit Go.Extern.Stop Go.Stop Go.Extern
set_option linter.unusedVariables false
theorem tX(t:Addr)(w:World):(ReflectliteValue.unpack (.iface 193 (.pointer (some t)))).run Tryz.prog w
  = .ok (.agg #[.pointer (some ⟨1,193,none⟩),.pointer (some ⟨w.heap.size,0,none⟩),.int .u64 150]) (w.alloc (.cells #[.pointer (some t)] 193)):=by kernel_rfl
theorem xA(t:Addr)(w:World):(ReflectliteValue.unpack (.iface 197 (.pointer (some t)))).run Tryz.prog w
  = .ok (.agg #[.pointer (some ⟨1,197,none⟩),.pointer (some ⟨w.heap.size,0,none⟩),.int .u64 150]) (w.alloc (.cells #[.pointer (some t)] 197)):=by kernel_rfl
theorem pH(k:Int)(w:World):(ReflectliteValue.unpack (.iface 41 (.int .i64 k))).run Tryz.prog w
  = .ok (.agg #[.pointer (some ⟨1,41,none⟩),.pointer (some ⟨w.heap.size,0,none⟩),.int .u64 130]) (w.alloc (.cells #[.int .i64 k] 41)):=by kernel_rfl
theorem eo(v:Value)(w:World):(ReflectliteType.typeOf #[.iface 41 v]).run Tryz.prog w=.ok (.iface 282 (.agg #[.pointer (some ⟨1,41,none⟩)])) w:=by kernel_rfl
theorem oZ(w :World) :(ReflectliteType.relation "AssignableTo" ReflectliteType.assignableTo #[.agg #[.pointer (some ⟨1,41,none⟩)],.iface 282 (.agg #[.pointer (some ⟨1,191,none⟩)])]).run Tryz.prog w =.ok (.bool false) w :=by kernel_rfl
theorem wB(w :World) :(ReflectliteType.relation "AssignableTo" ReflectliteType.assignableTo #[.agg #[.pointer (some ⟨1,41,none⟩)],.iface 282 (.agg #[.pointer (some ⟨1,41,none⟩)])]).run Tryz.prog w =.ok (.bool true) w :=by kernel_rfl
theorem RV(z:Sem Value)(f:TypeId→Addr→Nat→Nat→Sem Value)(v:Value):
  ReflectliteValue.method z f #[v]=(do match ←ReflectliteValue.parts v with|none=>z|some (t,a,fl)=>f t a fl (fl%32)):=rfl
theorem lE(a:Addr)(w:World):(ReflectliteValue.parts (.agg #[.pointer (some ⟨1,197,none⟩),.pointer (some a),.int .u64 150])).run Tryz.prog w=.ok (some (197,a,150)) w:=by kernel_rfl
theorem tA(w:World):(Rtype.elem? 197).run Tryz.prog w=.ok (some 41) w:=by kernel_rfl
theorem qP(p:Addr)(w:World):(ReflectliteValue.mk 41 p ReflectliteValue.flagAddr).run Tryz.prog w=.ok (.agg #[.pointer (some ⟨1,41,none⟩),.pointer (some p),.int .u64 386]) w:=by kernel_rfl
theorem tT(a p:Addr)(W:World)(ha:W.cell? a=some (.pointer (some p))):
  (ReflectliteValue.method (ReflectliteValue.valueError "reflectlite.Value.Elem" 0) ReflectliteValue.elem #[.agg #[.pointer (some ⟨1,197,none⟩),.pointer (some a),.int .u64 150]]).run Tryz.prog W
   = .ok (.agg #[.pointer (some ⟨1,41,none⟩),.pointer (some p),.int .u64 386]) W:=by
 rw [RV];simp only [km,lE,kg];simp [ReflectliteValue.elem,loadVar,isAgg,underlying,Tryz.underlying197,ha,kg,tA,qP]
theorem ZZ(v x:Value):ReflectliteValue.set #[v,x]=(do
  let(some (dst,a,fl),some (src,b,_)):=(←ReflectliteValue.parts v,←ReflectliteValue.parts x)
   |unsupported (.noEntry "extern/(internal/reflectlite.Value).Set.zeroValue")
  if fl/ReflectliteValue.flagAddr%2 ==0 then unsupported (.noEntry "extern/(internal/reflectlite.Value).Set.unaddressable")
  let val ←loadVar src b
  if ←Rtype.directlyAssignable dst src then storeVar dst a val
  else if ←Rtype.implements dst src then
   if(←Rtype.kind src)==20 then
    match val with
    | .nilIface =>unsupported (.noEntry "extern/reflectlite: a nil value of one interface type handed on as a value of another")
    |_=>storeVar dst a val
   else storeVar dst a (.iface src val)
  else panicString ("reflectlite.Set: value of type " ++ (← Rtype.spelt src) ++ " is not assignable to type " ++ (← Rtype.spelt dst))
  pure (.tuple #[])):=rfl
theorem uJ(a:Addr)(w:World):(ReflectliteValue.parts (.agg #[.pointer (some ⟨1,41,none⟩),.pointer (some a),.int .u64 386])).run Tryz.prog w=.ok (some (41,a,386)) w:=by kernel_rfl
theorem sR(a:Addr)(w:World):(ReflectliteValue.parts (.agg #[.pointer (some ⟨1,41,none⟩),.pointer (some a),.int .u64 130])).run Tryz.prog w=.ok (some (41,a,130)) w:=by kernel_rfl
theorem xX(w:World):(Rtype.directlyAssignable 41 41).run Tryz.prog w=.ok true w:=by kernel_rfl
theorem j6(ta b:Addr)(k:Int)(old:Value)(W:World)(hb:W.cell? b=some (.int .i64 k))(ht:W.cell? ta=some old)(hf:W.frozen? ta=false):
  (ReflectliteValue.set #[.agg #[.pointer (some ⟨1,41,none⟩),.pointer (some ta),.int .u64 386],.agg #[.pointer (some ⟨1,41,none⟩),.pointer (some b),.int .u64 130]]).run Tryz.prog W
   = .ok (.tuple #[]) (W.setCell ta (.int .i64 k)):=by
 rw [ZZ];simp only [km,uJ,sR,kg];simp [ReflectliteValue.flagAddr,loadVar,isAgg,underlying,Tryz.underlying41,hb,kg,xX,storeVar,Value.cells,storeCells,Addr.add];rw [run_store Tryz.prog W ta _ _ (by rfl)];simp [ht,hf]
theorem sB(a :Addr)(w :World) :(ReflectliteValue.methodAny (ReflectliteValue.valueError "reflectlite.Value.Type" 0) (fun t _ _ _ =>ReflectliteType.toType t) #[.agg #[.pointer (some ⟨1,197,none⟩),.pointer (some a),.int .u64 150]]).run Tryz.prog w
  = .ok (.iface 282 (.agg #[.pointer (some ⟨1,197,none⟩)])) w:=by kernel_rfl
theorem bm(w:World):((ReflectliteType.abiMethod fun t=>do pure (.int .u8 (←Rtype.kind t))) #[.pointer (some ⟨1,197,none⟩)]).run Tryz.prog w=.ok (.int .u8 22) w:=by kernel_rfl
theorem mW(w:World):(ReflectliteType.method ReflectliteType.elem #[.agg #[.pointer (some ⟨1,197,none⟩)]]).run Tryz.prog w=.ok (.iface 282 (.agg #[.pointer (some ⟨1,41,none⟩)])) w:=by kernel_rfl
theorem fc(w :World) :(ReflectliteType.relation "Implements" ReflectliteType.implements_ #[.agg #[.pointer (some ⟨1,41,none⟩)],.iface 282 (.agg #[.pointer (some ⟨1,106,none⟩)])]).run Tryz.prog w =.ok (.bool true) w :=by kernel_rfl
theorem uL(a :Addr)(w :World) :(ReflectliteValue.methodAny (ReflectliteValue.valueError "reflectlite.Value.Type" 0) (fun t _ _ _ =>ReflectliteType.toType t) #[.agg #[.pointer (some ⟨1,193,none⟩),.pointer (some a),.int .u64 150]]).run Tryz.prog w
  = .ok (.iface 282 (.agg #[.pointer (some ⟨1,193,none⟩)])) w:=by kernel_rfl
theorem yC(w:World):((ReflectliteType.abiMethod fun t=>do pure (.int .u8 (←Rtype.kind t))) #[.pointer (some ⟨1,193,none⟩)]).run Tryz.prog w=.ok (.int .u8 22) w:=by kernel_rfl
theorem lJ(w:World):(ReflectliteType.method ReflectliteType.elem #[.agg #[.pointer (some ⟨1,193,none⟩)]]).run Tryz.prog w=.ok (.iface 282 (.agg #[.pointer (some ⟨1,191,none⟩)])) w:=by kernel_rfl
theorem pT(w :World) :(ReflectliteType.relation "Implements" ReflectliteType.implements_ #[.agg #[.pointer (some ⟨1,191,none⟩)],.iface 282 (.agg #[.pointer (some ⟨1,106,none⟩)])]).run Tryz.prog w =.ok (.bool true) w :=by kernel_rfl
theorem nC(w:World):((ReflectliteType.abiMethod fun t=>do pure (.int .u8 (←Rtype.kind t))) #[.pointer (some ⟨1,41,none⟩)]).run Tryz.prog w=.ok (.int .u8 2) w:=by kernel_rfl
theorem qQ(w:World):((ReflectliteType.abiMethod fun t=>do pure (.int .u8 (←Rtype.kind t))) #[.pointer (some ⟨1,191,none⟩)]).run Tryz.prog w=.ok (.int .u8 22) w:=by kernel_rfl
theorem eW(a:Addr)(w:World):(ReflectliteValue.parts (.agg #[.pointer (some ⟨1,193,none⟩),.pointer (some a),.int .u64 150])).run Tryz.prog w=.ok (some (193,a,150)) w:=by kernel_rfl
theorem au(a p:Addr)(W:World)(ha:W.cell? a=some (.pointer (some p))):
  (ReflectliteValue.method (ReflectliteValue.valueError "reflectlite.Value.IsNil" 0) ReflectliteValue.isNil #[.agg #[.pointer (some ⟨1,197,none⟩),.pointer (some a),.int .u64 150]]).run Tryz.prog W =.ok (.bool false) W :=by
 rw [RV];simp only [km,lE,kg];simp [ReflectliteValue.isNil,loadVar,isAgg,underlying,Tryz.underlying197,ha,kg]
theorem mB(a p:Addr)(W:World)(ha:W.cell? a=some (.pointer (some p))):
  (ReflectliteValue.method (ReflectliteValue.valueError "reflectlite.Value.IsNil" 0) ReflectliteValue.isNil #[.agg #[.pointer (some ⟨1,193,none⟩),.pointer (some a),.int .u64 150]]).run Tryz.prog W =.ok (.bool false) W :=by
 rw [RV];simp only [km,eW,kg];simp [ReflectliteValue.isNil,loadVar,isAgg,underlying,Tryz.underlying193,ha,kg]
instance :Gq Tryz.prog 255 (ReflectliteType.method fun t =>do Rtype.noPackHeld "Comparable" t; pure (.bool (← typeInfo t).comparable)) :=⟨@run_callFunc_extern Tryz.prog 255 _ _ Tryz.func255 Cb Cb Cb Cb⟩
theorem yE(w :World) :((ReflectliteType.method fun t =>do Rtype.noPackHeld "Comparable" t; pure (.bool (← typeInfo t).comparable)) #[.agg #[.pointer (some ⟨1,41,none⟩)]]).run Tryz.prog w =.ok (.bool true) w :=by kernel_rfl
end
section
open Go Go.RowKit Go.Extern.Stop Go.Stop Go.Extern
set_option linter.unusedVariables false
set_option maxRecDepth 20000
set_option maxHeartbeats 800000
variable{B:World}
abbrev EW(k:Nat):Value:=.iface 41 (.int .i64 k)
abbrev DH(t:TypeId):Value:=.iface 282 (.agg #[.pointer (some ⟨1,t,none⟩)])
theorem xS(k:Nat)(tg a1 a2 a3:Value)(H:HP):Fn Tryz.prog B 123 [EW k,tg,.agg #[a1,a2,a3],DH 191] H (fun v H'=>v=.bool false∧H'=H):=by
 refine mI Tryz.func123 ?_;refine J2 ?_;refine Am (Dn (l:=[a1,a2,a3]) rfl rfl) rfl ?_;rintro _ _ ⟨b6,rfl,rfl⟩;refine J4 ?_;refine Bj (fun _:Unit=>[(0,EW k),(1,tg),(3,DH 191),(6,ptr b6 0)]) (fun _=>HP.AA b6 0 [a1,a2,a3]*H) (fun _=>True) (fun _=>0) () trivial DN rfl ?_;intro _ _;refine J5 ?_;refine JL Qd ?_;refine J1 ?_;refine JL (Hm rfl rfl (fun w _=>oZ w)) ?_;refine J2 ?_;refine mc (fun hc=>?_) (fun hc=>?_)
 ·cases hc
 refine J6 ?_;refine JL PR ?_;refine B1 ?_;refine DU 31 rfl (fun hg1=>?_) (fun hg1=>?_)
 ·cases hg1
 refine IE ?_;refine JL ID ?_;refine I4 ?_;refine CL ?_;refine JL PR ?_;refine J4 ?_;refine mc (fun hc=>?_) (fun hc=>?_)
 ·cases hc
 refine J2 ?_;refine JL PR ?_;refine J4 ?_;refine mc (fun hc=>?_) (fun hc=>?_)
 ·cases hc
 refine QL ?_;exact mR [8] H rfl rfl BY
theorem l8(k:Nat)(tg old:Value)(b5 b14:Nat)(R:HP):Fn Tryz.prog B 123 [EW k,tg,.agg #[.pointer (some ⟨1,197,none⟩),ptr b14 0,.int .u64 150],DH 41] (HP.AA b5 0 [old]*(HP.AA b14 0 [ptr b5 0]*R))
  (fun v H'=>v=.bool true∧H'=HP.AA b5 0 [.int .i64 k]*(HP.AA b14 0 [ptr b5 0]*R)):=by
 refine mI Tryz.func123 ?_;refine J2 ?_;refine Am (Dn (l:=[.pointer (some ⟨1,197,none⟩),ptr b14 0,.int .u64 150]) rfl rfl) rfl ?_;rintro _ _ ⟨b6,rfl,rfl⟩;refine J4 ?_;refine Bj (fun _:Unit=>[(0,EW k),(1,tg),(3,DH 41),(6,ptr b6 0)]) (fun _=>HP.AA b6 0 [.pointer (some ⟨1,197,none⟩),ptr b14 0,.int .u64 150]*(HP.AA b5 0 [old]*(HP.AA b14 0 [ptr b5 0]*R))) (fun _=>True) (fun _=>0) () trivial DN rfl ?_;intro _ _;refine J5 ?_;refine JL Qd ?_;refine J1 ?_;refine JL (Hm rfl rfl (fun w _=>wB w)) ?_;refine J2 ?_;refine mc (fun hc=>?_) (fun hc=>?_);rotate_left
 ·cases hc
 refine J3 ?_;refine JL (I6 (v:=.agg #[.pointer (some ⟨1,41,none⟩),ptr b5 0,.int .u64 386]) rfl (fun w hw=>tT ⟨b14,0,none⟩ ⟨b5,0,none⟩ w ((inferInstance:Rd B (HP.AA b6 0 [.pointer (some ⟨1,197,none⟩),ptr b14 0,.int .u64 150]*(HP.AA b5 0 [old]*(HP.AA b14 0 [ptr b5 0]*R))) b14 0 (ptr b5 0) True).get w hw trivial))) ?_;refine J1 ?_;refine Am (MI (Post:=fun v H'=>∃b,v=.agg #[.pointer (some ⟨1,41,none⟩),ptr b 0,.int .u64 130]∧H'=HP.AA b 0 [.int .i64 k]*(HP.AA b6 0 [.pointer (some ⟨1,197,none⟩),ptr b14 0,.int .u64 150]*(HP.AA b5 0 [old]*(HP.AA b14 0 [ptr b5 0]*R)))) rfl (fun w hw=>⟨_,_,_,pH _ w,⟨w.heap.size,rfl,rfl⟩,hw.alloc _ _⟩)) rfl ?_;rintro _ _ ⟨b23,rfl,rfl⟩
 refine Am (MI (Post:=fun v H'=>H'=HP.AA b23 0 [.int .i64 k]*(HP.AA b6 0 [.pointer (some ⟨1,197,none⟩),ptr b14 0,.int .u64 150]*(HP.AA b5 0 [.int .i64 k]*(HP.AA b14 0 [ptr b5 0]*R)))) rfl (fun w hw=>by
 have hb:=(inferInstance:Rd B (HP.AA b23 0 [.int .i64 k]*(HP.AA b6 0 [.pointer (some ⟨1,197,none⟩),ptr b14 0,.int .u64 150]*(HP.AA b5 0 [old]*(HP.AA b14 0 [ptr b5 0]*R)))) b23 0 (.int .i64 k) True).get w hw trivial
 obtain⟨⟨u,hu⟩,hf,hs⟩:=Sat.store (v:=.int .i64 k) (H':=HP.AA b23 0 [.int .i64 k]*(HP.AA b6 0 [.pointer (some ⟨1,197,none⟩),ptr b14 0,.int .u64 150]*(HP.AA b5 0 [.int .i64 k]*(HP.AA b14 0 [ptr b5 0]*R)))) (s:=True) (b:=b5) (i:=0) inferInstance hw trivial
 exact⟨_,_,_,j6 ⟨b5,0,none⟩ ⟨b23,0,none⟩ k u w hb hu hf,rfl,hs⟩)) rfl ?_
 rintro _ _ rfl;refine DV ?_;exact mR [8] (HP.AA b5 0 [.int .i64 k]*(HP.AA b14 0 [ptr b5 0]*R)) rfl rfl BY
theorem oK(hG:B.cell? ⟨0,0,none⟩=some (DH 106))(k:Nat)(old:Value)(b4:Nat)(R:HP):Fn Tryz.prog B 79 [EW k,.iface 193 (ptr b4 0)] (HP.AA b4 0 [old]*R) (fun v H'=>v=.bool false∧H'=HP.AA b4 0 [old]*R):=by
 refine Un ?_;refine mc (fun hc=>?_) (fun hc=>?_)
 ·cases hc
 refine J6 ?_;refine Km ?_;refine mc (fun hc=>?_) (fun hc=>?_)
 ·cases hc
 refine J5 ?_;refine Am Zm rfl ?_;rintro _ _ ⟨b14,rfl,rfl⟩;refine LE ?_;rintro _ _ ⟨b5,rfl,rfl⟩;refine jE ?_;refine EV 20 rfl (fun hg1=>?_) (fun hg1=>?_)
 ·exact absurd rfl hg1
 refine O7 ?_;refine JL YE ?_;refine JL E9 ?_;refine J2 ?_;refine mc (fun hc=>?_) (fun hc=>?_)
 ·cases hc
 refine jS ?_;refine EV 30 rfl (fun hg2=>?_) (fun hg2=>?_)
 ·refine fF ?_;refine mc (fun hc=>?_) (fun hc=>?_)
  ·cases hc
  refine J8 ?_;refine mE rfl (xS k _ _ _ _ _) ?_;refine Fg ?_;exact mR [4] (HP.AA b4 0 [old]*R) rfl rfl BY
 exact absurd Cc hg2
theorem tE(hG:B.cell? ⟨0,0,none⟩=some (DH 106))(k:Nat)(old:Value)(b4:Nat)(R:HP):Fn Tryz.prog B 79 [EW k,.iface 197 (ptr b4 0)] (HP.AA b4 0 [old]*R) (fun v H'=>v=.bool true∧H'=HP.AA b4 0 [.int .i64 k]*R):=by
 refine Un ?_;refine mc (fun hc=>?_) (fun hc=>?_)
 ·cases hc
 refine J6 ?_;refine Km ?_;refine mc (fun hc=>?_) (fun hc=>?_)
 ·cases hc
 refine J5 ?_;refine Am (MI (Post:=fun v H'=>∃b,v=.agg #[.pointer (some ⟨1,197,none⟩),ptr b 0,.int .u64 150]∧H'=HP.AA b 0 [ptr b4 0]*(HP.AA b4 0 [old]*R)) rfl (fun w hw=>⟨_,_,_,xA _ w,⟨w.heap.size,rfl,rfl⟩,hw.alloc _ _⟩)) rfl ?_;rintro _ _ ⟨b14,rfl,rfl⟩;refine LE ?_;rintro _ _ ⟨b5,rfl,rfl⟩;refine Gc ?_;refine J5 ?_;refine JL (I6 rfl (fun w _=>sB _ w)) ?_;refine J7 ?_;refine JL (Hm rfl rfl (fun w _=>bm w)) ?_;refine JL ZW ?_;refine J1 ?_;refine EV 20 rfl (fun hg1=>?_) (fun hg1=>?_)
 ·exact absurd rfl hg1
 refine O7 ?_;refine JL (I6 rfl (fun w hw=>au ⟨b14,0,none⟩ ⟨b4,0,none⟩ w ((inferInstance:Rd B _ b14 0 (ptr b4 0) True).get w hw trivial))) ?_;refine JL E9 ?_;refine J2 ?_;refine mc (fun hc=>?_) (fun hc=>?_)
 ·cases hc
 refine J5 ?_;refine JL (Hm rfl rfl (fun w _=>mW w)) ?_;refine J7 ?_;refine JL (Hm rfl rfl (fun w _=>nC w)) ?_;refine JL (FB (i:=2) (j:=20) rfl rfl) ?_;refine J1 ?_;refine EV 30 rfl (fun hg2=>?_) (fun hg2=>?_)
 ·refine NN ?_;refine JL lH ?_;refine JG T2 ?_;refine JL (Hm rfl rfl (fun w _=>fc w)) ?_;refine JG T2 ?_;refine KF ?_;refine JL IY ?_;refine J2 ?_;refine mc (fun hc=>?_) (fun hc=>?_)
  ·cases hc
  refine J8 ?_;refine BQ (H':=HP.AA b4 0 [old]*(HP.AA b14 0 [ptr b4 0]*(HP.AA b5 0 [.pointer (some ⟨1,197,none⟩),ptr b14 0,.int .u64 150]*R))) Cg ?_;refine mE rfl (l8 k _ old b4 b14 (HP.AA b5 0 [.pointer (some ⟨1,197,none⟩),ptr b14 0,.int .u64 150]*R)) ?_;refine Fg ?_;exact mR [4] (HP.AA b4 0 [.int .i64 k]*R) rfl rfl BY
 exact absurd Cc hg2
theorem fy(j k:Int)(w:World):(binOp .eql 106 (.iface 41 (.int .i64 j)) (.iface 41 (.int .i64 k))).run Tryz.prog w=.ok (.bool (j==k)) w:=by kernel_rfl
theorem pB(k:Nat)(H:HP):Fn Tryz.prog B 125 [EW k,EW k,.bool true] H (fun v H'=>v=.bool true∧H'=H):=by
 refine mI Tryz.func125 ?_;refine J6 ?_;refine Bj (fun _:Unit=>[(0,EW k),(1,EW k),(2,.bool true)]) (fun _=>H) (fun _=>True) (fun _=>0) () trivial Ea rfl ?_;intro _ _;refine J6 ?_;refine DU 15 rfl (fun hg1=>?_) (fun hg1=>?_)
 ·refine Ia ?_;refine JL cG ?_;refine Ks ?_;refine mc (fun hc=>?_) (fun hc=>?_);rotate_left
  ·cases hc
  refine CL ?_;exact mr [6] rfl rfl BY
 cases hg1
theorem zQ(k:Nat)(H:HP):Fn Tryz.prog B 80 [EW k,EW k] H (fun v H'=>v=.bool true∧H'=H):=by
 refine mI Tryz.func80 ?_;refine J9 ?_;refine KA ?_;refine J1 ?_;refine DU 8 rfl (fun hg1=>?_) (fun hg1=>?_)
 ·cases hg1
 refine MQ ?_;refine KA ?_;refine La ?_;refine mc (fun hc=>?_) (fun hc=>?_)
 ·cases hc
 refine J5 ?_;refine JL Qd ?_;refine JL X6 ?_;refine J8 ?_;refine mE rfl (pB k _) ?_;refine Fg ?_;exact mr [4] rfl rfl BY
end
end Go.Proofs.YtgfdlpcdjklcoaaGreatDoor
