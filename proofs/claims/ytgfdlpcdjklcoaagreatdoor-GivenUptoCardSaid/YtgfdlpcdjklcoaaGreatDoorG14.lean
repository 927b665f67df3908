/- A part of this proof: steps of the program, plain facts; no condition. -/
import Derived.Test.YtgfdlpcdjklcoaaGreatDoorG13
namespace Go.Proofs.YtgfdlpcdjklcoaaGreatDoor
open Go Go.RowKit
open _root_.List renaming length_append→a_,mem_append_right→b_,append_nil→c_,mem_cons_self→d_,any_eq_true→e_,length_set→f_,mem_append→g_,getElem?_append_right→h_,set_set→kf,filter_eq_nil_iff→kg,length_map→kh,getElem?_eq_none→ki,mem_cons_of_mem→kj,take_succ_cons→km,ne_nil_of_mem→ko,length→kp,mem_filter→kq,nil_append→kr
open _root_.Nat renaming lt_or_ge→g',le_refl→i_,add_sub_cancel_left→j_,div_le_div_left→kn,le_trans→kt,zero_le→ku
set_option linter.unusedVariables false
set_option linter.unusedSimpArgs false
set_option maxRecDepth 20000
section
section
variable{c d:AD}{L L':List (List AM)}{R R':Nat→Prop}{t u:Nat}
theorem pR{l:List AT}{c:AD}(hl:(rg l 0).hi<c.next):∀p∈(c.BM l).2.Aa,A6 l p.number=false:=by
 intro p hp;unfold AD.BM at hp;rw [if_neg Ca]at hp;have h1:=(kq.1 YZ).1;have h2:=(kq.1 (show p∈c.Aa.filter (fun p=> !A6 l p.number)from h1)).2;simpa using h2
theorem pV(hd:AY u d){rs:List AT}{rest:List AM}{c:AD}(h0:BC c d L L' R R')(hc:AY t c)(hf:∀f∈BT rs::rest,Eu d.ws f∧Fv R d.ws f∧¬c.busy f){mc:Nat}(hn:mc≤c.next)(hh:(rg rs 0).hi<mc):
  (∀p∈(c.BO (BT rs::rest)).2.Aa,A6 rs p.number=false)∧
  ((∀p∈c.Aa,A6 rs p.number=true∨mc≤p.number)→c.BF≤mc→(∀f∈rest,f.kind=3→(rg f.ranges 0).hi<mc)→U4 (c.BO (BT rs::rest)).2.ws≤U4 c.ws∧H7 mc (c.BO (BT rs::rest)).2):=by
 obtain⟨h1,h2,h3⟩:=hf (BT rs) Ce;obtain⟨a,b,_⟩:=h0.take hc hd h1 h2 h3;obtain⟨a',b',e'⟩:=hc.take (BT rs) (.of h1.ok) h3;obtain⟨t1,t2,t3,t4⟩:=UF c (BT rs)
 have hta:c.take (BT rs)=c.BM rs:=by unfold AD.take;rw [if_pos (show(BT rs).kind=3 from rfl)];rfl
 have hx:BC ({(c.take (BT rs)).2 with answer:=(c.take (BT rs)).2.answer||(decide ((BT rs).kind≠3)&&decide ((BT rs).kind≠1))}:AD) d L L' R R':=
  ⟨⟨b.s.len,b.s.An,b.s.ne,b.s.fr⟩,b.s',⟨b.p.num,b.p.proc,b.p.rd,b.p.BM,b.p.full⟩,⟨b.p'.num,b.p'.proc,b.p'.rd,b.p'.BM,b.p'.full⟩,b.Dy,b.ks,b.first,b.o,b.o'⟩
 have hcx:AY t ({(c.take (BT rs)).2 with answer:=(c.take (BT rs)).2.answer||(decide ((BT rs).kind≠3)&&decide ((BT rs).kind≠1))}:AD):={a' with}
 have hfx:∀g∈rest,Eu d.ws g∧Fv R d.ws g∧¬({(c.take (BT rs)).2 with answer:=(c.take (BT rs)).2.answer||(decide ((BT rs).kind≠3)&&decide ((BT rs).kind≠1))}:AD).busy g:=
  fun g hg=>⟨(hf g Ci).1,(hf g Ci).2.1,K2 (c:=c) (fun k=>b' k) e' (hf g Ci).2.2⟩
 have tk:=V9 (t:=t) hd rest _ hx hcx hfx;rw [AD.BO,if_neg Ca];refine⟨fun p hp=>?_,fun x1 x2 x3=>?_⟩
 ·have:=tk.fl.subset hp
  rw [show(({(c.take (BT rs)).2 with answer:=(c.take (BT rs)).2.answer||(decide ((BT rs).kind≠3)&&decide ((BT rs).kind≠1))}:AD)).Aa=(c.BM rs).2.Aa by rw [hta]]at this;exact pR Ca p this
 ·obtain⟨y1,y2⟩:=iZ hc hh hn x1 x2;rw [←hta]at y1 y2;obtain⟨z1,z2⟩:=Ve (t:=t) (mc:=mc) hd rest _ hx hcx hfx x3 (by show mc≤(c.take (BT rs)).2.next;rw [t2];exact hn) ⟨y2.fl,y2.lg⟩;exact TN
theorem j7(h:BC c d L L' R R')(hd:AY u d)(hu:u≤1000000000)(g:Ej c L'.length R'){m:Nat}(hw:LC t m c){rs:List AT}{rest:List AM}{Ls:List (List AM)}(hn:∀j fs,((BT rs::rest)::Ls)[j]?=some fs→L'[m+j]?=some fs)(hnb:∀fs∈(BT rs::rest)::Ls,∀f∈fs,¬c.busy f){mc:Nat}(hmc:mc≤c.next)(hh:(rg rs 0).hi<mc):
  (∀p∈(Eh (outs d.ks (Ae d.first) m ((BT rs::rest)::Ls)) c).Aa,A6 rs p.number=false)∧
  ((∀p∈c.Aa,A6 rs p.number=true∨mc≤p.number)→c.BF≤mc→(∀fs∈(BT rs::rest)::Ls,∀f∈fs,f.kind=3→(rg f.ranges 0).hi<mc)→U4 (Eh (outs d.ks (Ae d.first) m ((BT rs::rest)::Ls)) c).ws≤U4 c.ws∧H7 mc (Eh (outs d.ks (Ae d.first) m ((BT rs::rest)::Ls)) c)):=by
 have hn0:=hn 0 (BT rs::rest) rfl;rw [Nat.add_zero]at hn0;obtain⟨c',R2,e,b2,b3,b4,b5⟩:=ZL h hd g mc hw hn0 hu (hnb _ Ce)
 have hnew:¬c.AI.has m:=by
  rintro(x|x)
  ·have:=hw.fl;omega
  ·have:=hw.lt m x;omega
 have hmem:(BT rs::rest)∈L':=List.mem_of_getElem? hn0;have hfr:=h.s'.fr _ hmem;have hlen:=h.s'.len
 have hlt:m<L'.length:=by
  rcases g' m L'.length with h|h
  ·exact h
  ·rw [ki h]at hn0;cases hn0
 have hnx:=hd.nx;have hg':=hw.inv.AI.add m m Ca UR
 have hc2:AY t ({c with AI:=c.AI.add m m}:AD):={hw.inv with AI:=hg'.1,gm:=hg'.2.trans hw.inv.gm}
 have e1:=cV h hd hn0 hu hnew (hnb _ Ce);obtain⟨f1,f2⟩:=pV (t:=t) hd (bP h (c.AI.add m m)) hc2 (fun f hf=>⟨(hfr f hf).1,(hfr f hf).2,hnb _ Ce f hf⟩) hmc hh;rw [←e1,←e]at f1 f2
 have e2:Eh (outs d.ks (Ae d.first) m ((BT rs::rest)::Ls)) c=Eh (outs d.ks (Ae d.first) (m+1) Ls) c':=by rw [e];rfl
 rw [e2];by_cases hl:Ls=[]
 ·subst hl;exact⟨f1,fun x1 x2 x3=>f2 x1 x2 (fun f hf=>x3 (BT rs::rest) d_ f (kj _ hf))⟩
 ·obtain⟨R3,i1,i2,i3,i4⟩:=Qa (t:=t) hd hu mc Ls (m+1) c' R2 hl b2 b3 b4 (fun j gs hj=>by
   have:=hn (j+1) gs hj
   rw [show m+(j+1)=m+1+j by omega]at this;exact this) (fun gs hg f hf=>K2 (c:=c) b5.r b5.Dy (hnb gs Ci f hf))
  refine⟨fun p hp=>f1 p (i4.fl.subset hp),fun x1 x2 x3=>?_⟩;obtain⟨y1,y2⟩:=f2 x1 x2 (fun f hf=>x3 (BT rs::rest) d_ f (kj _ hf));obtain⟨z1,z2⟩:=i4.clear (by rw [b5.next];exact hmc) (fun gs hg=>x3 gs Ci) y2;exact TN
end
end
section
variable{t:Nat}{n:AH}{L:Nat→List (List AM)}{R:Nat→Nat→Prop}
def KW(L:Nat→List (List AM))(i:Nat)(Ls:List (List AM))(j:Nat):List (List AM):=if j=i then L i++Ls else L j
theorem Ad.Pv(h:Ad t n L R A3){i:Nat}(hi:i<2)(ht:t≤1000000000):Ad (t+1) (n.flush i).2 (KW L i (Hz (n.x i))) R A3∧
  (n.flush i).2.xs=n.xs.set i (n.x i).As.2∧(n.flush i).2.AN=n.AN++((n.x i).As.1).map (fun p=>(1-i,AW p)):=by
 have h2:=h.at hi
 have ho:1-i<2:=by omega
 have hc:=h.c i hi;obtain⟨Ls0,a0,b,e0⟩:=h2.As hc (h.c _ ho) (h.g i hi);obtain⟨a,e⟩:=h2.Uq hc (h.c _ ho) (h.g i hi);generalize hLs:Hz (n.x i)=Ls at a e⊢;have hc':=hc.As;have hnx:=hc'.nx;have hlen:=a.s.len;rw [a_]at hlen;have hm2:=hc.m2;rw [h.AJ i hi]at hm2;have e9:=e;rw [h.ks i hi,h.first i hi]at e9
 have hput:=Qn (ks:=n.ks) (i:=i) hm2 Ls (n.Aq i (n.x i).As.2) (L i).length (h.cnt i hi) rfl rfl S1 Ca (fun fs hfs=>by
  have:=a.s.ne fs TL
  rw [b.AJ,h.AJ i hi]at this;exact this)
 have hfl:n.flush i=(true,{(n.Aq i (n.x i).As.2)with count:=(n.Aq i (n.x i).As.2).count.set i ((L i).length+Ls.length),AN:=(n.Aq i (n.x i).As.2).AN++(outs n.ks (Ae (decide (i=0))) (L i).length Ls).map (fun p=>(1-i,AW p))}):=by
  unfold AH.flush;rw [e9];exact hput
 rw [hfl];refine⟨?_,rfl,by rw [e9];rfl⟩;have e1:KW L i Ls i=L i++Ls:=if_pos rfl;have e2:KW L i Ls (1-i)=L (1-i):=if_neg Ca;have hg:=h.g i hi;have hg':=h.g _ ho;rw [show 1-(1-i)=i by omega]at hg'
 refine h.MG hi EN (T':=A3) (R':=R) (L':=KW L i Ls) rfl h.el h.Dp ?_ rfl rfl rfl hc' ?_ ?_ ?_ (fun k hk=>?_) (fun k hk=>?_) (fun f hf=>?_) (fun j hj=>?_) b.ks b.first b.AJ b.AF ?_
 ·show(n.count.set i _).length=2;rw [f_];exact h.cl
 ·rw [e1,e2];exact a
 ·rw [e2];exact hg.G3 b.AI
 ·rw [e1,a_];exact⟨hg'.AI,kt hg'.fl Ms⟩
 ·have o:=h.e i k hi hk;have s:=b.w k
  have hp:((n.x i).As.2.w k).A0=((n.x i).w k).A0:=by unfold AR.A0;rw [s.b,s.AE]
  exact Uc
 ·have:=h.e (1-i) k ho hk
  rw [show 1-(1-i)=i by omega]at this;rw [show(n.x i).As.2.r k=(n.x i).r k by unfold AD.r;rw [b.rs]];exact this
 ·have hf:f∈n.AN++_:=hf;rcases g_.1 hf with hf|hf
  ·obtain⟨j,m,fs,a1,a2,a3,a4⟩:=h.AN f hf;refine⟨j,m,fs,a1,a2,?_,a4⟩;unfold KW;split
   ·rename_i ej;subst ej
    have hlt:m<(L j).length:=by
     rcases g' m (L j).length with x|x
     ·exact x
     ·rw [ki x]at a3;cases a3
    rw [List.getElem?_append_left hlt];exact a3
   ·exact a3
  ·obtain⟨p,hp,hpe⟩:=List.mem_map.1 hf;obtain⟨j,fs,b1,b2⟩:=Ud Ls _ p hp;refine⟨i,(L i).length+j,fs,hi,by rw [←hpe],?_,by rw [←hpe,b2]⟩;rw [e1,h_ Ms,j_];exact b1
 ·show(n.count.set i _).getD j 0=_;rw [Bs,h.cl];unfold KW;by_cases ej:i=j
  ·subst ej;rw [if_pos Ot,if_pos rfl,a_]
  ·rw [if_neg (fun x=>ej x.1),if_neg (fun x=>ej x.symm)];exact h.cnt j hj
 ·refine W0 ?_;rw [a_,kh,QY,h.bl];rcases FF hi with rfl|rfl
  ·rw [if_pos rfl,if_neg Ca,a_];omega
  ·rw [if_neg Ca,if_pos rfl,a_];omega
theorem fV:∀(a b:List (Nat×ByteArray)) (n:AH),DY (a++b) n=DY b (DY a n)
 |[],b,n=>rfl
 |f::a,b,n=>fV a b _
theorem ap(n:AH)(i:Nat)(b:ByteArray):(n.comes i b).2.xs=n.xs.set i ((n.x i).BA b.data.toList).2:=O0 4 0 _
theorem Mk{xs:List AD}{i:Nat}(hi:i<xs.length)(c:AD):(xs.set i c).getD i Jk=c:=by rw [Bs,if_pos Ot]
theorem VQ{i:Nat}:∀(ps:List (List UInt8)) (n:AH),i<n.xs.length→(DY (ps.map (fun p=>(i,AW p))) n).xs=n.xs.set i (Eh ps (n.x i))
 |[],n,hi=>by
  show n.xs=n.xs.set i (n.x i);unfold AH.x;rw [List.getD_eq_getElem?_getD,List.getElem?_eq_getElem hi,Option.getD_some,List.set_getElem_self]
 |p::ps,n,hi=>by
  have e:=ap n i (AW p);rw [bstr_data p]at e
  have hl:i<(n.comes i (AW p)).2.xs.length:=by rw [e,f_];exact hi
  have ih:=VQ ps (n.comes i (AW p)).2 hl
  have hx:(n.comes i (AW p)).2.x i=((n.x i).BA p).2:=by unfold AH.x;rw [e];exact Mk hi _
  rw [hx,e,kf]at ih;exact ih
 where bstr_data (p:List UInt8):(AW p).data.toList=p:=List.toList_toArray
theorem Ad.DY(ht:t≤1000000000):∀(fs:List (Nat×ByteArray)) (n:AH) (R:Nat→Nat→Prop),Ad t n L R A3→(∀f∈fs,f∈n.AN)→∃R',Ad t (DY fs n) L R' A3∧(DY fs n).AN=n.AN
 |[],n,R,h,_=>⟨R,h,rfl⟩
 |f::fs,n,R,h,hf=>by
  obtain⟨_,_,R1,a,b⟩:=h.comes (hf f Ce) ht;obtain⟨R2,c,e⟩:=Ad.DY ht fs _ R1 a (fun g hg=>by rw [b];exact hf g Ci);exact⟨R2,c,e.trans b⟩
def Ew(c:AD):AD:=((((c.read (0:Nat) (5000:Nat)).2.read (1:Nat) (5000:Nat)).2.read (2:Nat) (5000:Nat)).2.read (3:Nat) (5000:Nat)).2
theorem P4(h:Ad t n L R A3){i k:Nat}(hi:i<2)(hk:k<4)(AL:Nat):(n.read i k AL).2.xs=n.xs.set i ((n.x i).read k AL).2:=by
 rw [Nx n i k AL (h.reads hi hk AL).1];rfl
theorem Rc(n:AH)(i:Nat):C8 i 0 4 n=((((n.read i 0 5000).2.read i 1 5000).2.read i 2 5000).2.read i 3 5000).2:=by
 rw [show(4:Nat)=0+1+1+1+1 from rfl,C8,C8,C8,C8,C8]
theorem bM(h:BE t n){i:Nat}(hi:i<2):(C8 i 0 4 n).xs=n.xs.set i (Ew (n.x i)):=by
 obtain⟨L0,R0,h0⟩:=h
 have l0:i<n.xs.length:=by rw [h0.xl];exact hi
 have e0:=P4 h0 hi MX 5000;have k1:=(BE.read ⟨L0,R0,h0⟩ hi MX 5000).2;obtain⟨L1,R1,h1⟩:=k1
 have x1:(n.read i 0 5000).2.x i=((n.x i).read (0:Nat) (5000:Nat)).2:=by unfold AH.x;rw [e0];exact Mk l0 _
 have e1:=P4 h1 hi UI 5000;rw [x1,e0,kf]at e1;obtain⟨L2,R2,h2⟩:=(BE.read ⟨L1,R1,h1⟩ hi UI 5000).2
 have x2:((n.read i 0 5000).2.read i 1 5000).2.x i=(((n.x i).read (0:Nat) (5000:Nat)).2.read (1:Nat) (5000:Nat)).2:=by unfold AH.x;rw [e1];exact Mk l0 _
 have e2:=P4 h2 hi Vx 5000;rw [x2,e1,kf]at e2;obtain⟨L3,R3,h3⟩:=(BE.read ⟨L2,R2,h2⟩ hi Vx 5000).2
 have x3:(((n.read i 0 5000).2.read i 1 5000).2.read i 2 5000).2.x i=((((n.x i).read (0:Nat) (5000:Nat)).2.read (1:Nat) (5000:Nat)).2.read (2:Nat) (5000:Nat)).2:=by unfold AH.x;rw [e2];exact Mk l0 _
 have e3:=P4 h3 hi (show 3<4 by omega) 5000;rw [x3,e2,kf]at e3;rw [Rc];exact e3
end
section
structure St(T0:Nat)(c d:AD):Prop where
 fl:∀p∈c.Aa,p.at_≤T0∨(p.at_=c.now∧∃r,d.AI.l.getLast?=some r∧r.lo≤p.number∧p.number≤r.hi)
 an:(∃p∈c.Aa,T0<p.at_)→d.answer=true
 rd:∀k,k<4→GN (d.r k)
def Ru(T0:Nat)(c:AD):Prop:=∀p∈c.Aa,T0<p.at_
theorem On(c:AD):(c.tick.Aa=[]∨(c.tick.Aa=c.Aa∧c.tick.ws=c.ws))∧c.tick.now=c.now+1∧c.tick.AI=c.AI∧c.tick.answer=c.answer∧c.tick.next=c.next∧c.tick.BF=c.BF∧c.tick.rs=c.rs∧
  ((∃p∈c.Aa,p.at_+32≤c.now+1)→c.tick.Aa=[])∧((∀p∈c.Aa,p.at_=c.now)→c.tick.Aa=c.Aa∧c.tick.ws=c.ws):=by
 have hw:∀k,4≤Is k∧Is k≤32:=fun k=>by
  unfold Is
  have:1≤2^k:=Nat.one_le_two_pow
  omega
 unfold AD.tick;by_cases h:(c.Aa.any fun p=>decide (p.at_+Is c.waits≤c.now+1))=true
 ·rw [if_pos h]
  have hfl:(c.Aa.filter (fun p=> !((fun _:DR=>true) p)))=[]:=by
   rw [kg];intro p _;simp
  refine⟨.inl hfl,rfl,rfl,rfl,rfl,rfl,rfl,fun _=>hfl,fun hall=>?_⟩;obtain⟨p,hp,e⟩:=e_.1 h;have e:=of_decide_eq_true e
  have:=hall p hp
  have:=(hw c.waits).1
  omega
 ·rw [if_neg h];refine⟨.inr BY,rfl,rfl,rfl,rfl,rfl,rfl,fun⟨p,hp,e⟩=>?_,fun _=>BY⟩;refine absurd (e_.2 ⟨p,hp,decide_eq_true ?_⟩) h
  have:=(hw c.waits).2
  omega
theorem oO{l:List AT}{r:AT}(h:l.getLast?=some r):∃tl,l.reverse=r::tl:=by
 have e:l.reverse.head?=some r:=by rw [List.head?_reverse];exact h
 cases hl:l.reverse with
 |nil=>rw [hl]at e;cases e
 |cons a tl=>rw [hl]at e;cases e;exact⟨tl,rfl⟩
structure Cmm9(m:Nat)(c2 c3:AD)(D:List (List AM)):Prop where
 now:c3.now=c2.now
 next:c3.next=c2.next
 fl:c3.Aa.Sublist c2.Aa
 an:c3.answer=true↔c2.answer=true∨∃fs∈D,∃f∈fs,f.kind≠3
 r:∀k,Fk (c2.r k) (c3.r k)
 top:D≠ []→∃r',c3.AI.l.getLast?=some r'∧r'.hi+1=m+D.length∧r'.lo≤m
 same:D=[]→c3=c2
section
variable{c d:AD}{L L':List (List AM)}{R R':Nat→Prop}{t u:Nat}
theorem nM(h:BC c d L L' R R')(hd:AY u d)(hu:u≤1000000000)(g:Ej c L'.length R'){m:Nat}(hw:LC t m c){D:List (List AM)}(hn:∀j fs,D[j]?=some fs→L'[m+j]?=some fs)(hnb:∀fs∈D,∀f∈fs,¬c.busy f):
  Cmm9 m c (Eh (outs d.ks (Ae d.first) m D) c) D:=by
 by_cases hD:D=[]
 ·subst hD;exact⟨rfl,rfl,List.Sublist.refl _,⟨.inl,fun x=>x.elim id (fun⟨_,y,_⟩=>nomatch y)⟩,fun _=>.refl _,fun x=>absurd rfl x,fun _=>rfl⟩
 ·obtain⟨R2,_,_,_,q⟩:=Qa hd hu 0 D m c R' hD h g hw hn hnb;exact⟨q.now,q.next,q.fl,q.an,q.r,fun x=>by obtain⟨r',a,b,e,_⟩:=q.top x;exact⟨r',a,b,e⟩,fun x=>absurd x hD⟩
end
end
section
def AH.pk(n:AH)(j:Nat):List (List UInt8):=(n.x j).tick.As.1
def AH.FW(n:AH):AH:=DY ((n.pk 0).map (fun p=>(1,AW p))) n.AO
def AH.fl(n:AH)(j:Nat):List (List AM):=Hz (n.x j).tick
def L3(n:AH)(L:Nat→List (List AM)):Nat→List (List AM):=KW (KW L 0 (n.fl 0)) 1 (n.fl 1)
theorem V'(n:AH)(L:Nat→List (List AM)){j:Nat}(hj:j<2):L3 n L j=L j++n.fl j:=by
 rcases FF hj with rfl|rfl<;>rfl
structure tO(t:Nat)(n:AH)(L:Nat→List (List AM))(R:Nat→Nat→Prop):Prop where
 s:Ad (t+3) n.AO (L3 n L) R A3
 m:∃R4,Ad (t+3) n.FW (L3 n L) R4 A3
 so:BZ n→BZ n.AO
 mo:BZ n→BZ n.FW
 sx:∀j,j<2→n.AO.x j=(n.x j).tick.As.2
 m0:n.FW.x 0=n.AO.x 0
 m1:n.FW.x 1=Eh (n.pk 0) (n.AO.x 1)
 g0:n.AI.x 0=Eh (n.pk 1) (n.AO.x 0)
 g1:n.AI.x 1=n.FW.x 1
 p:∀j,j<2→n.pk j=outs n.ks (Ae (decide (j=0))) (L j).length (n.fl j)
 r:∀j,j<2→n.round.2.x j=Ew (n.AI.x j)
 Wx:BE (t+3) n.AI
 AN:n.AO.AN=n.AN++((n.pk 0).map (fun p=>(1,AW p))++(n.pk 1).map (fun p=>(0,AW p)))
variable{t:Nat}{n:AH}{L:Nat→List (List AM)}{R:Nat→Nat→Prop}
theorem M9(h:Ad t n L R A3){j:Nat}(hj:j<2):n.tick.x j=(n.x j).tick:=by
 have e:n.tick=(n.Aq 0 (n.x 0).tick).Aq 1 (n.x 1).tick:=rfl
 have hl:(n.Aq 0 (n.x 0).tick).xs.length=2:=by show(n.xs.set _ _).length=2;rw [f_];exact h.xl
 rw [e,H2 _ 1 j _ hl Ca];rcases FF hj with rfl|rfl
 ·rw [if_neg Ca,H2 _ 0 0 _ h.xl Ca,if_pos rfl]
 ·rw [if_pos rfl]
theorem BZ.DY(ht:t≤1000000000):∀(fs:List (Nat×ByteArray)) (n:AH) (R:Nat→Nat→Prop),BZ n→Ad t n L R A3→(∀f∈fs,f∈n.AN)→BZ (DY fs n)
 |[],n,R,o,h,_=>o
 |f::fs,n,R,o,h,hf=>by
  obtain⟨_,_,R1,a,b⟩:=h.comes (hf f Ce) ht;exact BZ.DY ht fs _ R1 (o.comes h (hf f Ce) ht) a (fun g hg=>by rw [b];exact hf g Ci)
theorem Ad.parts(h:Ad t n L R A3)(ht:t≤900000000):tO t n L R:=by
 have h1:=h.tick;have x1:=fun {j:Nat} (hj:j<2)=>M9 h hj;obtain⟨h2,e2,b2⟩:=h1.Pv (i:=0) Ca Ca;rw [x1 Wo]at h2 e2 b2
 have hx2:(n.tick.flush 0).2.x 1=(n.x 1).tick:=by
  unfold AH.x;rw [e2,Bs,if_neg Ca];exact x1 Ca
 obtain⟨h3,e3,b3⟩:=h2.Pv (i:=1) Ca Ca;rw [hx2]at h3 e3 b3;have hs:Ad (t+3) n.AO (L3 n L) R A3:=h3
 have hks1:∀j,j<2→(n.x j).tick.ks=n.ks∧(n.x j).tick.first=decide (j=0):=fun j hj=>by
  have a:=h1.ks j hj
  have b:=h1.first j hj
  rw [x1 hj]at a b;exact⟨a,b⟩
 have hp:∀j,j<2→n.pk j=outs n.ks (Ae (decide (j=0))) (L j).length (n.fl j):=fun j hj=>by
  have a:=((h1.at hj).Uq (h1.c j hj) (h1.c (1-j) Ca) (h1.g j hj)).2;rw [x1 hj,(hks1 j hj).1,(hks1 j hj).2]at a;exact a
 have hxl2:(n.tick.flush 0).2.xs.length=2:=h2.xl
 have hsx:∀j,j<2→n.AO.x j=(n.x j).tick.As.2:=fun j hj=>by
  show n.AO.xs.getD j Jk=_;have e:n.AO.xs=(n.tick.flush 0).2.xs.set 1 (n.x 1).tick.As.2:=e3;rw [e,Bs,hxl2];rcases FF hj with rfl|rfl
  ·rw [if_neg Ca,e2,Bs,if_pos ⟨rfl,by rw [h1.xl];omega⟩]
  ·rw [if_pos OV]
 have hbag:n.AO.AN=n.AN++((n.pk 0).map (fun p=>(1,AW p))++(n.pk 1).map (fun p=>(0,AW p))):=by
  have a:n.AO.AN=(n.tick.flush 0).2.AN++((n.x 1).tick.As.1).map (fun p=>(1-1,AW p)):=b3;have b:(n.tick.flush 0).2.AN=n.AN++((n.x 0).tick.As.1).map (fun p=>(1-0,AW p)):=b2;rw [a,b,List.append_assoc];rfl
 have hin0:∀f∈(n.pk 0).map (fun p=>((1:Nat),AW p)),f∈n.AO.AN:=fun f hf=>by rw [hbag];exact b_ _ (List.mem_append_left _ hf)
 have hin1:∀f∈(n.pk 1).map (fun p=>((0:Nat),AW p)),f∈n.AO.AN:=fun f hf=>by rw [hbag];exact b_ _ (b_ _ hf)
 obtain⟨R4,hm,hmb⟩:=Ad.DY Ca _ n.AO R hs hin0
 have hgot:n.AI=Go.Proofs.YtgfdlpcdjklcoaaGreatDoor.DY ((n.pk 1).map (fun p=>(0,AW p))) n.FW:=by
  unfold AH.AI;rw [hbag,List.drop_left,fV];rfl
 obtain⟨R5,hg5,_⟩:=Ad.DY Ca ((n.pk 1).map (fun p=>((0:Nat),AW p))) n.FW R4 hm (fun f hf=>by
  have:n.FW.AN=n.AO.AN:=hmb
  rw [this];exact hin1 f hf)
 have hmx:n.FW.xs=n.AO.xs.set 1 (Eh (n.pk 0) (n.AO.x 1)):=VQ (n.pk 0) n.AO (by rw [hs.xl];omega)
 have hgx:n.AI.xs=n.FW.xs.set 0 (Eh (n.pk 1) (n.FW.x 0)):=by
  rw [hgot];exact VQ (n.pk 1) n.FW (by have:n.FW.xs.length=2:=hm.xl;omega)
 have hm0:n.FW.x 0=n.AO.x 0:=by
  unfold AH.x;rw [hmx,Bs,if_neg Ca]
 have hm1:n.FW.x 1=Eh (n.pk 0) (n.AO.x 1):=by
  show n.FW.xs.getD 1 Jk=_;rw [hmx];exact Mk (by rw [hs.xl];omega) _
 have hg0:n.AI.x 0=Eh (n.pk 1) (n.AO.x 0):=by
  show n.AI.xs.getD 0 Jk=_;rw [hgx,hm0];exact Mk (by have:n.FW.xs.length=2:=hm.xl;omega) _
 have hg1:n.AI.x 1=n.FW.x 1:=by
  unfold AH.x;rw [hgx,Bs,if_neg Ca]
 have hok:BE (t+3) n.AI:=⟨L3 n L,R5,by rw [hgot];exact hg5⟩
 have hr0:(C8 0 0 4 n.AI).xs=n.AI.xs.set 0 (Ew (n.AI.x 0)):=bM hok Ca;have hok1:=(BE.GD (i:=0) Ca 4 0 (t+3) n.AI hok Ca).2;have hr1:(C8 1 0 4 (C8 0 0 4 n.AI)).xs=(C8 0 0 4 n.AI).xs.set 1 (Ew ((C8 0 0 4 n.AI).x 1)):=bM hok1 Ca
 have hgl:n.AI.xs.length=2:=by obtain⟨_,_,q⟩:=hok;exact q.xl
 have hx1:(C8 0 0 4 n.AI).x 1=n.AI.x 1:=by unfold AH.x;rw [hr0,Bs,if_neg Ca]
 refine⟨hs,⟨R4,hm⟩,fun o=>?_,fun o=>?_,hsx,hm0,hm1,hg0,hg1,hp,fun j hj=>?_,hok,hbag⟩
 ·exact((o.tick h).flush h1 (i:=0) Ca).flush h2 Ca
 ·exact BZ.DY Ca _ n.AO R (((o.tick h).flush h1 (i:=0) Ca).flush h2 Ca) hs hin0
 ·rw [Nm];show(C8 1 0 4 (C8 0 0 4 n.AI)).xs.getD j Jk=_;rw [hr1,hx1,hr0,Bs,f_,hgl];rcases FF hj with rfl|rfl
  ·rw [if_neg Ca,Bs,hgl,if_pos OV]
  ·rw [if_pos OV]
end
section
variable{t:Nat}{n:AH}{L:Nat→List (List AM)}{R:Nat→Nat→Prop}
theorem K4(c:AD)(k AL:Int):(c.read k AL).2.ws=c.ws∧(c.read k AL).2.Aa=c.Aa∧(c.read k AL).2.now=c.now∧(c.read k AL).2.AI=c.AI∧(c.read k AL).2.answer=c.answer∧(c.read k AL).2.closed=c.closed∧(c.read k AL).2.next=c.next∧(c.read k AL).2.BF=c.BF:=by
 unfold AD.read;split
 ·exact gJ
 dsimp only;split<;>exact gJ
theorem Tp(c:AD):(Ew c).ws=c.ws∧(Ew c).Aa=c.Aa∧(Ew c).now=c.now∧(Ew c).AI=c.AI∧(Ew c).answer=c.answer∧(Ew c).closed=c.closed∧(Ew c).next=c.next∧(Ew c).BF=c.BF:=by
 unfold Ew;obtain⟨a1,a2,a3,a4,a5,a6,a7,a8⟩:=K4 c (0:Nat) (5000:Nat);obtain⟨b1,b2,b3,b4,b5,b6,b7,b8⟩:=K4 (c.read (0:Nat) (5000:Nat)).2 (1:Nat) (5000:Nat);obtain⟨c1,c2,c3,c4,c5,c6,c7,c8⟩:=K4 ((c.read (0:Nat) (5000:Nat)).2.read (1:Nat) (5000:Nat)).2 (2:Nat) (5000:Nat);obtain⟨d1,d2,d3,d4,d5,d6,d7,d8⟩:=K4 (((c.read (0:Nat) (5000:Nat)).2.read (1:Nat) (5000:Nat)).2.read (2:Nat) (5000:Nat)).2 (3:Nat) (5000:Nat);exact⟨d1.trans (c1.trans (b1.trans a1)),d2.trans (c2.trans (b2.trans a2)),d3.trans (c3.trans (b3.trans a3)),d4.trans (c4.trans (b4.trans a4)),d5.trans (c5.trans (b5.trans a5)),d6.trans (c6.trans (b6.trans a6)),d7.trans (c7.trans (b7.trans a7)),d8.trans (c8.trans (b8.trans a8))⟩
theorem kW{u:Nat}{c:AD}(hc:AY u c)(h0:c.closed=0)(hh:∀k,k<4→(c.r k).high≤4096):∀k,k<4→GN ((Ew c).r k):=by
 have e0:=RA hc h0 MX (hh 0 Ca);have c1:=hc.read (0:Nat) (5000:Nat)
 have o1:(c.read (0:Nat) (5000:Nat)).2.closed=0:=by rw [(K4 c (0:Nat) (5000:Nat)).2.2.2.2.2.1];exact h0
 have e1:=RA c1 o1 UI (by rw [e0.2 1 Ca];exact hh 1 Ca);have c2:=c1.read (1:Nat) (5000:Nat)
 have o2:((c.read (0:Nat) (5000:Nat)).2.read (1:Nat) (5000:Nat)).2.closed=0:=by rw [(K4 _ (1:Nat) (5000:Nat)).2.2.2.2.2.1];exact o1
 have e2:=RA c2 o2 Vx (by rw [e1.2 2 Ca,e0.2 2 Ca];exact hh 2 Ca);have c3:=c2.read (2:Nat) (5000:Nat)
 have o3:(((c.read (0:Nat) (5000:Nat)).2.read (1:Nat) (5000:Nat)).2.read (2:Nat) (5000:Nat)).2.closed=0:=by rw [(K4 _ (2:Nat) (5000:Nat)).2.2.2.2.2.1];exact o2
 have e3:=RA c3 o3 (show 3<4 by omega) (by rw [e2.2 3 Ca,e1.2 3 Ca,e0.2 3 Ca];exact hh 3 Ca);refine Ih (P:=fun k=>GN ((Ew c).r k)) ?_ ?_ ?_ ?_
 ·show GN ((Ew c).r 0);unfold Ew;rw [e3.2 0 Ca,e2.2 0 Ca,e1.2 0 Ca];exact e0.1
 ·show GN ((Ew c).r 1);unfold Ew;rw [e3.2 1 Ca,e2.2 1 Ca];exact e1.1
 ·show GN ((Ew c).r 2);unfold Ew;rw [e3.2 2 Ca];exact e2.1
 ·exact e3.1
structure Sx(c c2:AD):Prop where
 rs:c2.rs=c.rs
 AI:c2.AI=c.AI
 ks:c2.ks=c.ks
 now:c2.now=c.now+1
 next:c2.next=c.next+(Hz c.tick).length
 lg:c2.BF=c.BF
 an:c2.answer=false
 fl:∃new,c2.Aa=c.tick.Aa++new∧(∀p∈new,p.at_=c.now+1∧c.next≤p.number∧p.number<c.next+(Hz c.tick).length)∧(new≠ []→∃fs∈Hz c.tick,DE fs=true)
 FO:∀fs∈Hz c.tick,∀f∈fs,f.kind=3→∀r∈f.ranges,r∈Hh c
theorem Ad.sx(h:Ad t n L R A3){j:Nat}(hj:j<2):Sx (n.x j) (n.x j).tick.As.2:=by
 have h1:=h.tick;have h2:=h1.at hj;have hc1:=h1.c j hj;obtain⟨Ls0,a0,b,e0⟩:=h2.As hc1 (h1.c (1-j) Ca) (h1.g j hj);rw [M9 h hj]at h2 hc1 b;obtain⟨_,k2,k3,k4,k5,k6,k7,_,_⟩:=On (n.x j);have hp:=Ui h2.o;have f:=dB 40 (E6 (n.x j).tick) (Bx.begin hc1);have hks:(n.x j).tick.ks=(n.x j).ks:=(Ds.tick (h.c j hj)).ks
 have e:(n.x j).tick.As.2=(B0 40 (E6 (n.x j).tick)).c:=by rw [hp]
 have htold:Hh (n.x j).tick=Hh (n.x j):=by unfold Hh;rw [k3,k4]
 refine⟨b.rs.trans k7,b.AI.trans k3,b.ks.trans hks,by rw [e,f.now];exact k2,by rw [e,f.nx];show(n.x j).tick.next+_=_;rw [k5];rfl,by rw [e,f.lg];exact k6,by rw [e,f.an];rfl,?_,fun fs hfs g hg hk r hr=>?_⟩
 ·obtain⟨new,q1,q2,q3⟩:=f.fl;refine⟨new,by rw [e,q1];rfl,fun p hp=>?_,q3⟩;obtain⟨y1,y2,y3⟩:=q2 p hp;have z:(E6 (n.x j).tick).c.next=(n.x j).next:=k5;rw [z]at y2 y3;exact⟨by rw [y1];exact k2,y2,y3⟩
 ·rw [←htold];exact f.FO fs hfs g hg hk r hr
structure Coo9(n:AH)(L:Nat→List (List AM))(j:Nat):Prop where
 cm:Cmm9 (L (1-j)).length (n.AO.x j) (n.AI.x j) (n.fl (1-j))
 first:∀rs rest Ls mc,n.fl (1-j)=(BT rs::rest)::Ls→mc≤(n.AO.x j).next→(rg rs 0).hi<mc→(∀p∈(n.AI.x j).Aa,A6 rs p.number=false)∧
  ((∀p∈(n.AO.x j).Aa,A6 rs p.number=true∨mc≤p.number)→(n.AO.x j).BF≤mc→(∀fs∈n.fl (1-j),∀f∈fs,f.kind=3→(rg f.ranges 0).hi<mc)→U4 (n.AI.x j).ws≤U4 (n.AO.x j).ws∧H7 mc (n.AI.x j))
 clear:∀mc,mc≤(n.AO.x j).next→(∀fs∈n.fl (1-j),∀f∈fs,f.kind=3→(rg f.ranges 0).hi<mc)→H7 mc (n.AO.x j)→U4 (n.AI.x j).ws≤U4 (n.AO.x j).ws∧H7 mc (n.AI.x j)
theorem Zf(h:Ad t n L R A3)(ht:t≤900000000)(hrd:∀j,j<2→∀k,k<4→GN ((n.x j).r k)){j:Nat}(hj:j<2){N:AH}{RN:Nat→Nat→Prop}(hN:Ad (t+3) N (L3 n L) RN A3)(oN:BZ N)(hx:N.x j=n.AO.x j)(hg:n.AI.x j=Eh (n.pk (1-j)) (n.AO.x j)):Coo9 n L j:=by
 have P:=h.parts ht
 have ho:1-j<2:=by omega
 have sx:=h.sx hj;rw [←P.sx j hj,←hx]at sx;have h2:=hN.at hj;have h2':=hN.at ho;rw [show 1-(1-j)=j by omega]at h2'
 have hks:N.ks=n.ks:=by rw [←hN.ks j hj,sx.ks];exact h.ks j hj
 have hpk:n.pk (1-j)=outs (N.x (1-j)).ks (Ae (N.x (1-j)).first) (L (1-j)).length (n.fl (1-j)):=by
  rw [P.p _ ho,hN.ks _ ho,hN.first _ ho,hks]
 have gg:=hN.g j hj;have hgot:=h.g j hj
 have hnum:∀x,Ao x (n.x j).AI.l→x<(L (1-j)).length:=fun x hx=>by
  have:=(h.at ho).p.num x (hgot.AI x hx)
  exact this
 have hwt:LC (t+3) (L (1-j)).length (N.x j):=⟨hN.c j hj,fun x hx=>hnum x (by rw [sx.AI]at hx;exact hx),by rw [sx.AI];exact hgot.fl⟩
 have hn:∀q fs,(n.fl (1-j))[q]?=some fs→(L3 n L (1-j))[(L (1-j)).length+q]?=some fs:=fun q fs hq=>by
  rw [V' n L ho,h_ Ms,j_];exact hq
 have oo:=oN (1-j) ho;rw [show 1-(1-j)=j by omega]at oo
 have hrd2:∀k,k<4→GN ((N.x j).r k):=fun k hk=>by
  have:(N.x j).r k=(n.x j).r k:=by unfold AD.r;rw [sx.rs]
  rw [this];exact hrd j hj k hk
 have hnb:∀fs∈n.fl (1-j),∀f∈fs,¬(N.x j).busy f:=fun fs hfs f hf=>by
  have hm:fs∈L3 n L (1-j):=by rw [V' n L ho];exact b_ _ hfs
  obtain⟨a,b⟩:=h2'.s.fr fs hm f hf;exact j3 h2' (hN.c _ ho) (hN.c j hj) oo hrd2 a b
 have e:n.AI.x j=Eh (outs (N.x (1-j)).ks (Ae (N.x (1-j)).first) (L (1-j)).length (n.fl (1-j))) (N.x j):=by rw [hg,hpk,hx]
 refine⟨?_,fun rs rest Ls mc hfl hmc hhi=>?_,fun mc hmc hh hcl=>?_⟩
 ·rw [e,←hx];exact nM h2 (hN.c _ ho) Ca gg hwt hn hnb
 ·rw [←hx]at hmc⊢;rw [e];rw [hfl]at hn hnb⊢;exact j7 h2 (hN.c _ ho) Ca gg hwt hn hnb hmc hhi
 ·rw [←hx]at hmc hcl⊢;rw [e];by_cases hD:n.fl (1-j)=[]
  ·rw [hD];exact⟨i_ _,hcl⟩
  ·obtain⟨R2,_,_,_,q⟩:=Qa (t:=t+3) (hN.c _ ho) Ca mc (n.fl (1-j)) (L (1-j)).length (N.x j) _ hD h2 gg hwt hn hnb;exact q.clear hmc hh hcl
theorem Ad.co(h:Ad t n L R A3)(ht:t≤900000000)(o:BZ n)(hrd:∀j,j<2→∀k,k<4→GN ((n.x j).r k)){j:Nat}(hj:j<2):Coo9 n L j:=by
 have P:=h.parts ht;obtain⟨R4,hm⟩:=P.m;rcases FF hj with rfl|rfl
 ·exact Zf h ht hrd hj hm (P.mo o) P.m0 P.g0
 ·exact Zf h ht hrd hj P.s (P.so o) rfl (by rw [P.g1,P.m1])
end
section
variable{t:Nat}{n:AH}{L:Nat→List (List AM)}{R:Nat→Nat→Prop}
theorem Zn{fs:List AM}(h:DE fs=true):∃f∈fs,f.kind≠3:=by
 unfold DE at h;obtain⟨f,hf,e⟩:=e_.1 h;exact⟨f,hf,of_decide_eq_true e⟩
structure SB(T0:Nat)(c d c' d':AD):Prop where
 st:St T0 c' d'
 now:c'.now=c.now+1
 fresh:T0≤c.now→(Ru T0 c∨T0+32≤c.now+1)→Ru T0 c'
 unit:Ru T0 c→U4 c'.ws≤U4 c.ws∧(U4 c'.ws=0∨7*U4 c'.ws+360≤80+7*U4 c.ws+36*c.Aa.length)∧c'.Aa.length+c.Aa.length≤10
theorem St.round(h:Ad t n L R A3)(ht:t≤50000000)(o:BZ n)(hrd:∀j,j<2→∀k,k<4→GN ((n.x j).r k)){i:Nat}(hi:i<2){T0:Nat}(hst:St T0 (n.x i) (n.x (1-i))):
  SB T0 (n.x i) (n.x (1-i)) (n.round.2.x i) (n.round.2.x (1-i)):=by
 have P:=h.parts Ca
 have ho:1-i<2:=by omega
 have sx:=h.sx hi;have sd:=h.sx ho;have hci:=h.c i hi;have hcd:=h.c _ ho;have coc:=h.co Ca o hrd hi;have cod:=(h.co Ca o hrd ho).cm;rw [show 1-(1-i)=i by omega]at cod;rw [←P.sx i hi]at sx;rw [←P.sx _ ho]at sd;have e1:n.fl i=Hz (n.x i).tick:=rfl;have e2:n.fl (1-i)=Hz (n.x (1-i)).tick:=rfl;have hr:=P.r i hi;have hr':=P.r _ ho;obtain⟨k1,k2,k3,k4,k5,k6,k7,k8⟩:=Tp (n.AI.x i);obtain⟨q1,q2,q3,q4,q5,q6,q7,q8⟩:=Tp (n.AI.x (1-i));rw [←hr]at k1 k2 k3 k4 k5 k6 k7 k8;rw [←hr']at q1 q2 q3 q4 q5 q6 q7 q8;have hlen:(L i).length=(n.x i).next:=(h.at hi).s.len;have hgd:=h.g _ ho;rw [show 1-(1-i)=i by omega]at hgd
 have hnum:∀x,Ao x (n.x (1-i)).AI.l→x<(n.x i).next:=fun x hx=>by
  have:=(h.at hi).p.num x (hgd.AI x hx)
  omega
 have htn:∀r∈Hh (n.x (1-i)),r∈(n.x (1-i)).AI.l:=fun r hr=>by
  unfold Hh at hr;split at hr
  ·simpa using hr
  ·cases hr
 have hhi:∀r∈(n.x (1-i)).AI.l,r.hi<(n.x i).next:=fun r hr=>hnum r.hi ⟨r,hr,NX _ hcd.AI.inc r hr,i_ _⟩
 have hacks:∀fs∈n.fl (1-i),∀f∈fs,f.kind=3→(rg f.ranges 0).hi<(n.x i).next:=fun fs hfs f hf hk=>by
  have hm:fs∈L3 n L (1-i):=by rw [V' n L ho];exact b_ _ hfs
  have hp:=((P.s.at ho).s.fr fs hm f hf).1;have hok:F8 f.ranges:=hp.ok.2.2.2.2.1.1 hk;exact hhi _ (htn _ (sd.FO fs hfs f hf hk _ (YY hok.1)))
 obtain⟨new,f1,f2,f3⟩:=sx.fl;obtain⟨t1,t2,t3,t4,t5,t6,t7,t8,t9⟩:=On (n.x i)
 have hmc:(n.x i).next≤(n.AO.x i).next:=by rw [sx.next];omega
 have htsub:∀p∈(n.x i).tick.Aa,p∈(n.x i).Aa:=fun p hp=>by
  rcases t1 with e|e
  ·rw [e]at hp;cases hp
  ·rw [e.1]at hp;exact hp
 -- the first FO
 have hfirst:(n.x (1-i)).answer=true→∀r,(n.x (1-i)).AI.l.getLast?=some r→∃rs rest Ls,n.fl (1-i)=(BT rs::rest)::Ls∧r∈rs∧(rg rs 0).hi<(n.x i).next:=fun ha r hrl=>by
  obtain⟨tl,htl⟩:=oO hrl;obtain⟨d1,d2,d3,d4,d5,d6,d7,d8,d9⟩:=On (n.x (1-i))
  have htold:(E6 (n.x (1-i)).tick).told=r::tl:=by
   show Hh (n.x (1-i)).tick=_;unfold Hh;rw [d4,d3,if_pos ha,htl]
  have hc1:=h.tick.c _ ho;rw [M9 h ho]at hc1;obtain⟨k,rest,Ls,hk⟩:=qX (Bx.begin hc1) 39 (z:=E6 (n.x (1-i)).tick) (by rw [htold];simp);rw [htold]at hk;refine⟨(r::tl).take (k+1),rest,Ls,hk,by rw [km];exact d_,?_⟩;rw [km]
  exact hhi r (by simpa using (show r ∈ (n.x (1-i)).AI.l.reverse from by rw [htl];exact d_))
 have hinR:∀{rs:List AT} {r:AT} {x:Nat},r∈rs→r.lo≤x→x≤r.hi→A6 rs x=true:=fun {rs r x} a b c=>by
  unfold A6;exact e_.2 ⟨r,a,by rw [decide_eq_true b,decide_eq_true c];rfl⟩
 have gone:∀p∈(n.AI.x i).Aa,p∈(n.x i).Aa→p.at_≤T0:=fun p hp hpc=>by
  rcases g' T0 p.at_ with hlt|hge
  ·exfalso;have ha:=hst.an ⟨p,hpc,hlt⟩;rcases hst.fl p hpc with x|⟨_,r,x1,x2,x3⟩
   ·omega
   ·obtain⟨rs,rest,Ls,y1,y2,y3⟩:=hfirst ha r x1
    have:=(coc.first rs rest Ls _ y1 hmc y3).1 p hp
    rw [hinR y2 x2 x3]at this;cases this
  ·exact hge
 have hsplit:∀p∈(n.AI.x i).Aa,p∈(n.x i).tick.Aa∨p∈new:=fun p hp=>by
  have:=coc.cm.fl.subset hp
  rw [f1]at this;exact g_.1 this
 have hnow:(n.round.2.x i).now=(n.x i).now+1:=by rw [k3,coc.cm.now,sx.now]
 have hgotok:=P.Wx;obtain⟨LG,RG,hG⟩:=hgotok
 have hdone:∀k,k<4→GN ((n.round.2.x (1-i)).r k):=by
  rw [hr'];refine kW (hG.c _ ho) (hG.at ho).o (fun k hk=>?_);have a:=((hG.at hi).p.rd k hk).high;have b:=(hG.c i hi).high hk;have c:=((hG.c i hi).ws.ok k hk).len;have c:((n.AI.x i).w k).b.length≤4096:=c;omega
 refine⟨⟨fun p hp=>?_,fun⟨p,hp,hlt⟩=>?_,hdone⟩,hnow,fun hT hF p hp=>?_,fun hF=>?_⟩
 ·rw [k2]at hp;rcases hsplit p hp with hp2|hp2
  ·exact .inl (gone p hp (htsub p hp2))
  ·right;obtain⟨a,b,c⟩:=f2 p hp2
   have hne:n.fl i≠ []:=fun e=>by rw [e1]at e;rw [e]at c;simp at c;omega
   obtain⟨r',y1,y2,y3⟩:=cod.top hne;refine⟨by rw [hnow,a],r',by rw [q4];exact y1,Ca,?_⟩;rw [←e1]at c;omega
 ·rw [k2]at hp;rcases hsplit p hp with hp2|hp2
  ·have:=gone p hp (htsub p hp2);omega
  ·obtain⟨fs,hfs,hw⟩:=f3 (ko hp2);obtain⟨f,hf,hk⟩:=Zn hw;rw [q5];exact cod.an.2 (.inr ⟨fs,hfs,f,hf,hk⟩)
 ·rw [k2]at hp;rcases hsplit p hp with hp2|hp2
  ·exfalso;have hpc:=htsub p hp2;have hg:=gone p hp hpc;rcases hF with hF|hF
   ·have:=hF p hpc;omega
   ·have:(n.x i).tick.Aa=[]:=t8 ⟨p,hpc,Ca⟩
    rw [this]at hp2;cases hp2
  ·have:=(f2 p hp2).1;omega
 ·have hat:∀p∈(n.x i).Aa,p.at_=(n.x i).now:=fun p hp=>by
   rcases hst.fl p hp with x|x
   ·have:=hF p hp;omega
   ·exact x.1
  obtain⟨g1,g2⟩:=t9 hat;rw [g1]at f1
  -- what is paid
  have hc1:=h.tick.c i hi;rw [M9 h hi]at hc1;have hz:Bx (t+1+1) (E6 (n.x i).tick):=Bx.begin hc1;have hnd:(n.x (1-i)).next=(L (1-i)).length:=((h.at ho).s.len).symm
  have hsm:QQ (E6 (n.x i).tick).told:=fun r hr=>by
   have hr:r∈Hh (n.x i).tick:=hr
   have hr2:r∈(n.x i).AI.l:=by
    unfold Hh at hr;rw [t3]at hr;split at hr
    ·simpa using hr
    ·cases hr
   have hle:=NX _ hci.AI.inc r hr2
   have:=(h.at ho).p.num r.hi ((h.g i hi).AI r.hi ⟨r,hr2,hle,i_ _⟩)
   have hnx:=hcd.nx;omega
  have hpay:=X' 40 (E6 (n.x i).tick) hz hsm (by have:=hz.tl;unfold A4.mu;omega)
  have hpk:n.AO.x i=(B0 40 (E6 (n.x i).tick)).c:=by
   rw [P.sx i hi];have ho2:=(h.tick.at hi).o;rw [M9 h hi]at ho2;rw [Ui ho2]
  rw [←hpk]at hpay;obtain⟨p1,p2,p3⟩:=hpay;have hw0:(E6 (n.x i).tick).c.ws=(n.x i).ws:=g2;have hf0:(E6 (n.x i).tick).c.Aa=(n.x i).Aa:=g1
  have hF0:(E6 (n.x i).tick).F≤80+7*U4 (n.x i).ws:=by
   unfold A4.F;rw [hw0]
   have:=hz.tl
   have:(E6 (n.x i).tick).told.length≤8:=this
   omega
  rw [hw0]at p1;rw [hf0]at p2 p3;have h10:(n.AO.x i).Aa.length≤10:=(P.s.c i hi).fl
  have hlg:(n.AO.x i).BF≤(n.x i).next:=by rw [sx.lg];exact hci.lg
  have hclear:U4 (n.AI.x i).ws≤U4 (n.AO.x i).ws∧H7 (n.x i).next (n.AI.x i):=by
   by_cases hne:(n.x i).Aa=[]
   ·refine coc.clear _ hmc hacks ⟨fun p hp=>?_,hlg⟩;rw [f1,hne,kr]at hp;exact(f2 p hp).2.1
   ·obtain⟨p,hp⟩:=List.exists_mem_of_ne_nil _ hne;have ha:=hst.an ⟨p,hp,hF p hp⟩;rcases hst.fl p hp with x|⟨_,r,x1,x2,x3⟩
    ·have:=hF p hp;omega
    ·obtain⟨rs,rest,Ls,y1,y2,y3⟩:=hfirst ha r x1;refine(coc.first rs rest Ls _ y1 hmc y3).2 (fun s hs=>?_) hlg hacks;rw [f1]at hs;rcases g_.1 hs with hs|hs
     ·left;rcases hst.fl s hs with z|⟨_,r2,z1,z2,z3⟩
      ·have:=hF s hs;omega
      ·have:r=r2:=Option.some.inj (x1.symm.trans z1)
       subst this;exact hinR y2 z2 z3
     ·exact .inr (f2 s hs).2.1
  have hnew:(n.AI.x i).Aa.length≤new.length:=by
   have hs:=(coc.cm.fl).filter (fun p=>decide ((n.x i).next≤p.number));have hself:(n.AI.x i).Aa.filter (fun p=>decide ((n.x i).next≤p.number))=(n.AI.x i).Aa:=List.filter_eq_self.2 (fun p hp=>decide_eq_true (hclear.2.fl p hp))
   rw [hself,f1,List.filter_append,show(n.x i).Aa.filter (fun p=>decide ((n.x i).next≤p.number))=[]from kg.2 (fun p hp=>by
    have:=(hci.An p Ii).num
    simp;omega),kr]at hs
   exact kt hs.length_le (List.length_filter_le _ _)
  have hfl2:(n.AO.x i).Aa.length=(n.x i).Aa.length+new.length:=by rw [f1,a_]
  rw [k1,k2];refine⟨Ca,?_,Ca⟩;rcases p3 with z|⟨z1,z2⟩
  ·left;omega
  ·right;omega
end
theorem B7.tick{t:Nat}{n:AH}(h:B7 t n):B7 (t+1) n.tick:=by
 obtain⟨L,R,hi⟩:=h.ok;exact⟨⟨L,R,hi.tick⟩,h.out.tick hi,h.AE.tick hi⟩
theorem B7.flush{t:Nat}{n:AH}(h:B7 t n){i:Nat}(h2:i<2)(ht:t≤1000000000):B7 (t+1) (n.flush i).2:=by
 obtain⟨L,R,hi⟩:=h.ok;exact⟨(BE.flush ⟨L,R,hi⟩ h2 ht).2,h.out.flush hi h2,h.AE.flush hi h2⟩
theorem B7.read{t:Nat}{n:AH}(h:B7 t n){i k:Nat}(h2:i<2)(hk:k<4)(AL:Nat):B7 (t+1) (n.read i k AL).2:=by
 obtain⟨L,R,hi⟩:=h.ok;exact⟨(BE.read ⟨L,R,hi⟩ h2 hk AL).2,h.out.read hi h2 hk AL,h.AE.read hi h2 hk AL⟩
theorem B7.DY{t:Nat}(ht:t≤1000000000):∀(fs:List (Nat×ByteArray)) (n:AH),B7 t n→(∀f∈fs,f∈n.AN)→B7 t (DY fs n)
 |[],n,h,_=>h
 |f::fs,n,h,hf=>by
  obtain⟨L,R,hi⟩:=h.ok;obtain⟨_,b,e⟩:=BE.comes ⟨L,R,hi⟩ ht (hf f Ce);exact B7.DY ht fs _ ⟨b,h.out.comes hi (hf f Ce) ht,h.AE.comes hi (hf f Ce) ht⟩ (fun g hg=>by rw [e];exact hf g Ci)
theorem B7.C8{t:Nat}{n:AH}(h:B7 t n){i:Nat}(h2:i<2):B7 (t+4) (C8 i 0 4 n):=by
 rw [Rc];exact(((h.read h2 Ca 5000).read h2 Ca 5000).read h2 Ca 5000).read h2 Ca 5000
theorem B7.round{t:Nat}{n:AH}(h:B7 t n)(ht:t≤900000000):n.round.1=true∧B7 (t+11) n.round.2:=by
 refine⟨(h.ok.round ht).1,?_⟩;have h3:B7 (t+3) n.AO:=(h.tick.flush (i:=0) Ca Ca).flush Ca Ca;have h4:B7 (t+3) n.AI:=B7.DY Ca _ _ h3 (fun f hf=>List.mem_of_mem_drop hf);rw [Nm,show t+11=t+3+4+4 by omega];exact(h4.C8 Ca).C8 Ca
theorem Lc{t:Nat}{n:AH}(h:B7 t n)(ht:t≤900000000)(k:Nat):Bh (k+1) n=Bh k n.round.2:=by
 rw [Bh,if_pos (h.round ht).1]
theorem Q3{t:Nat}{n:AH}(h:B7 t n)(ht:t≤900000000):(Bh 1 n).2=n.round.2:=by
 rw [show(1:Nat)=0+1 from rfl,Lc h ht 0,Bh]
structure Fair(T0:Nat→Nat)(t:Nat)(n:AH):Prop where
 ok:B7 t n
 st:∀i,i<2→St (T0 i) (n.x i) (n.x (1-i))
theorem Fair.rd{T0:Nat→Nat}{t:Nat}{n:AH}(h:Fair T0 t n):∀j,j<2→∀k,k<4→GN ((n.x j).r k):=fun j hj k hk=>by
 have:=(h.st (1-j) Ca).rd k hk
 rw [show 1-(1-j)=j by omega]at this;exact this
theorem xW{t:Nat}{n:AH}(h:BE t n)(ht:t≤900000000){j:Nat}(hj:j<2):∀k,k<4→GN ((n.round.2.x j).r k):=by
 obtain⟨L,R,hi⟩:=h;have P:=hi.parts ht;obtain⟨LG,RG,hG⟩:=P.Wx;rw [P.r j hj]
 have ho:1-j<2:=by omega
 refine kW (hG.c j hj) (hG.at hj).o (fun k hk=>?_);have h2:=hG.at ho;rw [show 1-(1-j)=j by omega]at h2;have a:=(h2.p.rd k hk).high;have b:=(hG.c _ ho).high hk;have c:=((hG.c _ ho).ws.ok k hk).len;have c:((n.AI.x (1-j)).w k).b.length≤4096:=c;omega
theorem Fair.first{t:Nat}{n:AH}(h:B7 t n)(ht:t≤900000000):Fair (fun i=>(n.round.2.x i).now) (t+11) n.round.2:=by
 have h1:=(h.round ht).2;refine⟨h1,fun i hi=>?_⟩;obtain⟨L,R,hN⟩:=h1.ok;have hc:=hN.c i hi;exact⟨fun p hp=>.inl (hc.An p Ii).at_,fun⟨p,hp,hlt⟩=>absurd (hc.An p Ii).at_ (Nat.not_le.2 hlt),xW h.ok ht Ca⟩
theorem Fair.round{T0:Nat→Nat}{t:Nat}{n:AH}(h:Fair T0 t n)(ht:t≤50000000):Fair T0 (t+11) n.round.2∧∀i,i<2→SB (T0 i) (n.x i) (n.x (1-i)) (n.round.2.x i) (n.round.2.x (1-i)):=by
 obtain⟨L,R,hN⟩:=h.ok.ok;have hr:∀i,i<2→SB (T0 i) (n.x i) (n.x (1-i)) (n.round.2.x i) (n.round.2.x (1-i)):=fun i hi=>St.round hN ht h.ok.out h.rd hi (h.st i hi);exact⟨⟨(h.ok.round Ca).2,fun i hi=>(hr i hi).st⟩,hr⟩
theorem Fair.rounds{T0:Nat→Nat}:∀(k t:Nat) (n:AH),Fair T0 t n→t+11*k≤50000000→Fair T0 (t+11*k) (Bh k n).2∧∀i,i<2→((Bh k n).2.x i).now=(n.x i).now+k
 |0,t,n,h,_=>⟨h,fun _ _=>rfl⟩
 |k+1,t,n,h,ht=>by
  rw [Lc h.ok Ca];obtain⟨a,b⟩:=h.round Ca;obtain⟨c,d⟩:=Fair.rounds k (t+11) _ a Ca;refine⟨by rw [show t+11*(k+1)=t+11+11*k by omega];exact c,fun i hi=>?_⟩;rw [d i hi,(b i hi).now];omega
theorem LN{t:Nat}:∀(a b:Nat) (n:AH),B7 t n→t+11*a≤50000000→Bh (a+b) n=Bh b (Bh a n).2
 |0,b,n,h,_=>by rw [Nat.zero_add];rfl
 |a+1,b,n,h,ht=>by
  have h1:=(h.round Ca).2;rw [show a+1+b=a+b+1 by omega,Lc h Ca,Lc h Ca];exact LN (t:=t+11) a b n.round.2 h1 Ca
structure Er(T0:Nat→Nat)(t:Nat)(n:AH):Prop where
 f:Fair T0 t n
 fr:∀i,i<2→Ru (T0 i) (n.x i)∧T0 i≤(n.x i).now
theorem Er.round{T0:Nat→Nat}{t:Nat}{n:AH}(h:Er T0 t n)(ht:t≤50000000):Er T0 (t+11) n.round.2∧∀i,i<2→SB (T0 i) (n.x i) (n.x (1-i)) (n.round.2.x i) (n.round.2.x (1-i)):=by
 obtain⟨a,b⟩:=h.f.round ht;refine⟨⟨a,fun i hi=>⟨(b i hi).fresh (h.fr i hi).2 (.inl (h.fr i hi).1),by rw [(b i hi).now];have:=(h.fr i hi).2;omega⟩⟩,b⟩
theorem Er.of{T0:Nat→Nat}{t:Nat}{n:AH}(h:Fair T0 t n)(hn:∀i,i<2→(n.x i).now=T0 i)(ht:t≤40000000):Er T0 (t+11*32) (Bh 32 n).2:=by
 obtain⟨a,b⟩:=Fair.rounds 31 t n h Ca;obtain⟨c,d⟩:=a.round Ca
 have e:(Bh 32 n).2=(Bh 31 n).2.round.2:=by
  rw [show(32:Nat)=31+1 from rfl,LN 31 1 n h.ok Ca,Q3 a.ok Ca]
 rw [e];refine⟨by rw [show t+11*32=t+11*31+11 by omega];exact c,fun i hi=>?_⟩;have hb:=b i hi;rw [hn i hi]at hb;exact⟨(d i hi).fresh Ca (.inr Ca),by rw [(d i hi).now];omega⟩
theorem Er.two{T0:Nat→Nat}{t:Nat}{n:AH}(h:Er T0 t n)(ht:t≤40000000):Er T0 (t+22) (Bh 2 n).2∧∀i,i<2→U4 ((Bh 2 n).2.x i).ws=0∨7*U4 ((Bh 2 n).2.x i).ws+200≤7*U4 (n.x i).ws:=by
 obtain⟨a,b⟩:=h.round Ca;obtain⟨c,d⟩:=a.round Ca
 have e:(Bh 2 n).2=n.round.2.round.2:=by
  rw [show(2:Nat)=1+1 from rfl,Lc h.f.ok Ca,Q3 a.f.ok Ca]
 rw [e];refine⟨c,fun i hi=>?_⟩;obtain⟨u1,u2,u3⟩:=(b i hi).unit (h.fr i hi).1;obtain⟨v1,v2,v3⟩:=(d i hi).unit (a.fr i hi).1;omega
theorem Er.less{T0:Nat→Nat}:∀(k t:Nat) (n:AH),Er T0 t n→t+22*k≤40000000→Er T0 (t+22*k) (Bh (2*k) n).2∧∀i,i<2→U4 ((Bh (2*k) n).2.x i).ws=0∨7*U4 ((Bh (2*k) n).2.x i).ws+200*k≤7*U4 (n.x i).ws
 |0,t,n,h,_=>⟨h,fun i _=>.inr (by show 7*U4 (n.x i).ws+200*0≤_;omega)⟩
 |k+1,t,n,h,ht=>by
  obtain⟨a,b⟩:=h.two Ca;obtain⟨c,d⟩:=Er.less k (t+22) _ a Ca
  have e:Bh (2*(k+1)) n=Bh (2*k) (Bh 2 n).2:=by
   rw [show 2*(k+1)=2+2*k by omega];exact LN 2 (2*k) n h.f.ok Ca
  rw [e];refine⟨by rw [show t+22*(k+1)=t+22+22*k by omega];exact c,fun i hi=>?_⟩;have x:=b i hi;have y:=d i hi;omega
theorem yZ{t:Nat}{z:A4}(h:Bx t z)(h0:U4 z.c.ws=0):z.filled.2.Ag=(z.c.Bt z.told).Ag∧U4 z.filled.1=0:=by
 unfold A4.filled;by_cases hf:z.c.Aa.length<10
 ·rw [if_pos hf];have a:=(Gm.C7 (AF:=z.c.AF) (ws0:=z.c.ws) (d0:=z.c.Bt z.told) 4 0 z.c.ws (z.c.Bt z.told) rfl ⟨.refl h.c.ws (KL h.c h.told h.tl),i_ _⟩ (fun j hj=>absurd hj Ly)).1;have hp:=a.Mz;obtain⟨l,hl,_⟩:=a.f.Ag
  have hb:(C7 (z.c.Bt z.told) z.c.ws 0 4).2.b.length=(z.c.Bt z.told).b.length+(Ar l).length:=by
   show(Ar _).length=(Ar _).length+_;rw [hl,Mh,a_]
  have hle:=N0 l;have hn:l=[]:=List.length_eq_zero_iff.1 Ca;exact⟨by rw [hl,hn,c_],Ca⟩
 ·rw [if_neg hf];exact⟨rfl,h0⟩
theorem Vj{t:Nat}:∀(n:Nat) (z:A4),Bx t z→U4 z.c.ws=0→(∀fs∈Gu n z,∀f∈fs,f.kind=3)∧(z.told=[]→Gu n z=[])
 |0,z,_,_=>⟨(fun _ h=>nomatch h),fun _=>rfl⟩
 |n+1,z,h,h0=>by
  obtain⟨a,b⟩:=yZ h h0;rw [Gu];by_cases hne:z.filled.2.Ag=[]
  ·rw [if_pos hne];exact⟨(fun _ h=>nomatch h),fun _=>rfl⟩
  ·rw [if_neg hne];refine⟨fun fs hfs=>?_,fun ht=>absurd (a.trans (by unfold AD.Bt;rw [if_pos ht])) hne⟩;rcases List.mem_cons.1 hfs with e|e
   ·rw [e,a];intro f hf;by_cases ht:z.told=[]
    ·unfold AD.Bt at hf;rw [if_pos ht]at hf;cases hf
    ·rw [OE _ ht]at hf;rw [List.mem_singleton.1 hf];rfl
   ·exact(Vj n z.step (h.step hne).1 b).1 fs e
structure MA(c:AD):Prop where
 u:U4 c.ws=0
 fl:c.Aa=[]
 an:c.answer=false
theorem gU{T0:Nat→Nat}{t:Nat}{n:AH}(h:Er T0 t n)(ht:t≤40000000)(h0:∀i,i<2→U4 (n.x i).ws=0):∀i,i<2→MA (n.round.2.x i):=by
 obtain⟨L,R,hN⟩:=h.f.ok.ok;have P:=hN.parts Ca;obtain⟨a,b⟩:=h.round Ca
 have hall:∀j,j<2→∀p∈(n.x j).Aa,p.at_=(n.x j).now:=fun j hj p hp=>by
  rcases(h.f.st j hj).fl p hp with x|x
  ·have:=(h.fr j hj).1 p hp;omega
  ·exact x.1
 have hk3:∀j,j<2→∀fs∈n.fl j,∀f∈fs,f.kind=3:=fun j hj=>by
  have hc1:=hN.tick.c j hj;rw [M9 hN hj]at hc1;obtain⟨_,_,_,_,_,_,_,_,t9⟩:=On (n.x j);have hw:(E6 (n.x j).tick).c.ws=(n.x j).ws:=(t9 (hall j hj)).2;exact(Vj 40 (E6 (n.x j).tick) (Bx.begin hc1) (by rw [hw];exact h0 j hj)).1
 intro i hi
 have ho:1-i<2:=by omega
 have sx:=hN.sx hi;rw [←P.sx i hi]at sx;have co:=hN.co Ca h.f.ok.out h.f.rd hi;obtain⟨k1,k2,k3,k4,k5,k6,k7,k8⟩:=Tp (n.AI.x i);rw [←P.r i hi]at k1 k2 k3 k4 k5 k6 k7 k8;have hu:=((b i hi).unit (h.fr i hi).1).1;refine⟨by have:=h0 i hi;omega,?_,?_⟩
 ·rw [k2];refine List.eq_nil_iff_forall_not_mem.2 fun p hp=>?_;obtain⟨new,f1,f2,f3⟩:=sx.fl;have hs:=co.cm.fl.subset hp;rw [f1]at hs;rcases g_.1 hs with hs|hs
  ·obtain⟨_,_,_,_,_,_,_,_,t9⟩:=On (n.x i);rw [(t9 (hall i hi)).1]at hs;have e1:=hall i hi p hs
   have hp':p∈(n.round.2.x i).Aa:=by rw [k2];exact hp
   rcases((b i hi).st).fl p hp' with x|x
   ·have:=(a.fr i hi).1 p hp';omega
   ·have:=(b i hi).now;omega
  ·obtain⟨fs,hfs,hw⟩:=f3 (ko hs);obtain⟨f,hf,hk⟩:=Zn hw;exact hk (hk3 i hi fs hfs f hf)
 ·rw [k5]
  cases e:(n.AI.x i).answer with
  |false=>rfl
  |true=>
   rcases co.cm.an.1 e with x|⟨fs,hfs,f,hf,hk⟩
   ·rw [sx.an]at x;cases x
   ·exact absurd (hk3 _ ho fs hfs f hf) hk
theorem dX{t:Nat}{n:AH}{L:Nat→List (List AM)}{R:Nat→Nat→Prop}(hN:Ad t n L R A3){i:Nat}(hi:i<2)(h:MA (n.x i)):(n.x i).As.1=[]:=by
 have h2:=hN.at hi;have hc:=hN.c i hi;rw [(h2.Uq hc (hN.c (1-i) Ca) (hN.g i hi)).2]
 have:Hz (n.x i)=[]:=(Vj 40 (E6 (n.x i)) (Bx.begin hc) h.u).2 (by show Hh (n.x i)=[];unfold Hh;rw [h.an];rfl)
 rw [this];rfl
theorem x8{t:Nat}{n:AH}(h:BE t n)(ht:t≤900000000)(hq:∀i,i<2→MA (n.x i)):((n.flush 0).2.flush 1).2.AN=n.AN:=by
 obtain⟨L,R,hN⟩:=h;obtain⟨a,b,c⟩:=hN.Pv (i:=0) Ca Ca;have e0:=dX hN Wo (hq 0 Ca);rw [e0]at c
 have hx:(n.flush 0).2.x 1=n.x 1:=by
  unfold AH.x;rw [b,Bs,if_neg Ca]
 obtain⟨a',b',c'⟩:=Ad.Pv a (i:=1) Ca Ca;have e1:=dX a (show 1<2 by omega) (by rw [hx];exact hq 1 Ca);rw [e1]at c';rw [c',c];show(n.AN++[])++[]=n.AN;rw [c_,c_]
theorem Er.idle{T0:Nat→Nat}:∀(k t:Nat) (n:AH),Er T0 t n→t+11*k≤40000000→(∀i,i<2→MA (n.x i))→Er T0 (t+11*k) (Bh k n).2∧∀i,i<2→MA ((Bh k n).2.x i)
 |0,t,n,h,_,hq=>⟨h,hq⟩
 |k+1,t,n,h,ht,hq=>by
  rw [Lc h.f.ok Ca];have hq2:=gU h Ca (fun i hi=>(hq i hi).u);obtain⟨a,b⟩:=Er.idle k (t+11) _ (h.round Ca).1 Ca hq2;exact⟨by rw [show t+11*(k+1)=t+11+11*k by omega];exact a,b⟩
def V8(o:Du):Prop:=(o.given=true→o.state≠0)∧(o.given=false→(o.finished=true→o.state=1)∧o.read=o.wrote.length∧o.AE=o.wrote.length)
theorem mT{T0:Nat→Nat}{t:Nat}{n:AH}(h:Fair T0 t n)(hq:∀i,i<2→MA (n.x i)){i k:Nat}(hi:i<2)(hk:k<4):V8 (n.e i k):=by
 obtain⟨L,R,hN⟩:=h.ok.ok
 have ho:1-i<2:=by omega
 have o:=hN.e i k hi hk;have h2:=hN.at hi;have hw:CJ (n.x i).AF ((n.x i).w k):=(hN.c i hi).ws.ok k hk;have hr:=(hN.c _ ho).rs k hk;have rd:=h2.p.rd k hk;have out:=h.ok.out i hi;have done:=h.rd (1-i) ho k hk;have q:=hq i hi;have hu:((n.x i).w k).unit=0:=o8 q.u k hk
 have hfl:∀P:List AM→Prop,¬∃fs∈Hj (n.x i),P fs:=fun P ⟨fs,hfs,_⟩=>by
  obtain⟨p,hp,_⟩:=OA.1 hfs;rw [q.fl]at hp;cases hp
 have hwl:((n.x i).w k).b.length=(n.e i k).wrote.length:=by have:=congrArg kp o.wrote;rw [c_]at this;exact this
 refine⟨fun hg=>?_,fun hg=>?_⟩
 ·have hg':((n.x i).w k).given=true:=by rw [←o.given];exact hg
  have ht:((n.x i).w k).BG=true:=by
   unfold AR.unit at hu;rw [if_pos hg']at hu;by_cases e:((n.x i).w k).BG=true
   ·exact e
   ·rw [if_neg e]at hu;omega
  have hrg:((n.x (1-i)).r k).given=true:=(out.BG k hk ht).resolve_right (hfl _);rw [o.state];exact done.B' hrg
 ·have hg':((n.x i).w k).given=false:=by rw [←o.given];exact hg
  have hrg:((n.x (1-i)).r k).given=false:=by
   cases e:((n.x (1-i)).r k).given with
   |false=>rfl
   |true=>have:=(rd.B' e).1;rw [hg']at this;cases this
  unfold AR.unit at hu;rw [if_neg (by rw [hg'];decide)]at hu
  have hcnt:GX (fun m=>decide (¬Ao m ((n.x i).w k).AO.l)) ((n.x i).w k).b.length=0:=by omega
  have hcame:∀m,m<((n.x i).w k).b.length→Ao m ((n.x i).w k).AE.l:=fun m hm=>by
   have:=dE hcnt m hm
   have hs:Ao m ((n.x i).w k).AO.l:=Decidable.not_not.1 (of_decide_eq_false this);exact(out.AO k m hk hs).resolve_right (hfl _)
  have hpre:((n.x i).w k).A0=((n.x i).w k).b.length:=by
   have a:=hw.NV;rcases g' ((n.x i).w k).A0 ((n.x i).w k).b.length with x|x
   ·exact absurd (hcame _ x) hw.wG
   ·omega
  have hrc:∀m,m<((n.x i).w k).b.length→Ao m ((n.x (1-i)).r k).AE.l:=fun m hm=>(out.Fz k m hk (hcame m hm)).resolve_left (by rw [hrg];decide);have hst:=hr.st
  have hn2:((n.x (1-i)).r k).state≠2:=fun e=>by have:=hr.MW e;rw [hrg]at this;cases this
  have hread:((n.x (1-i)).r k).read=((n.x i).w k).b.length:=by
   by_cases h0:((n.x (1-i)).r k).state=0
   ·have a:=done.FA hrg h0;have b:=hr.rh;have c:=rd.high;have d:=hw.high;rcases g' ((n.x (1-i)).r k).read ((n.x i).w k).b.length with x|x
    ·exact absurd (hrc _ x) a
    ·omega
   ·exact(rd.ME Ca).2
  refine⟨fun hf=>?_,by rw [o.read,hread,hwl],by rw [h.ok.AE i k hi hk,hpre,hwl]⟩;rw [o.state]
  have hf':((n.x i).w k).finished=true:=by rw [←o.finished];exact hf
  by_cases h0:((n.x (1-i)).r k).state=0
  ·exfalso
   have hend:((n.x i).w k).ended=true:=by
    by_cases he:((n.x i).w k).ended=true
    ·exact he
    ·by_cases hg2:((n.x i).w k).ending=true
     ·exact(out.ending k hk hg2).resolve_right (hfl _)
     ·rw [if_pos ⟨hf',by simpa using hg2,by simpa using he⟩]at hu;omega
   have hre:((n.x (1-i)).r k).ended=true:=(out.ended k hk hend).resolve_left (by rw [hrg];decide);have a:=(rd.en hre).2;have b:=(rd.fin hre hrg).2;exact done.en hrg h0 hre (by rw [hread,a,b])
  ·omega
theorem XD(n:AH)(i k j m:Nat)(o:Du)(h:o.wrote=(n.e i k).wrote):((n.C4 i k o).e j m).wrote=(n.e j m).wrote:=by
 show((((n.ends.set i ((n.ends.getD i []).set k o)).getD j []).getD m Da)).wrote=_;rw [Bs];split
 ·rename_i e;rw [Bs];split
  ·rename_i e2;rw [h,e.1,e2.1]
  ·rw [e.1];rfl
 ·rfl
theorem eV{i:Nat}(j l:Nat):∀(m k:Nat) (n:AH),((CO i k m n).2.e j l).wrote=(n.e j l).wrote
 |0,k,n=>rfl
 |m+1,k,n=>by
  rw [CO];split
  ·rfl
  ·rw [eV j l m (k+1)];exact XD n i k j l _ rfl
theorem jY(n:AH)(i j l:Nat):((n.flush i).2.e j l).wrote=(n.e j l).wrote:=by
 have e:=(Sc (i:=i) (n.x i).As.1 (n.Aq i (n.x i).As.2)).2;show(((Fh i (n.x i).As.1 (n.Aq i (n.x i).As.2)).2.ends.getD j []).getD l Da).wrote=_;rw [e];rfl
theorem uE(n:AH)(i:Nat)(b:ByteArray)(j l:Nat):((n.comes i b).2.e j l).wrote=(n.e j l).wrote:=eV j l 4 0 _
theorem Yf(j l:Nat):∀(fs:List (Nat×ByteArray)) (n:AH),((DY fs n).e j l).wrote=(n.e j l).wrote
 |[],n=>rfl
 |f::fs,n=>by
  show((DY fs (n.comes f.1 f.2).2).e j l).wrote=_;rw [Yf j l fs,uE]
theorem KD(n:AH)(i k AL j l:Nat):((n.read i k AL).2.e j l).wrote=(n.e j l).wrote:=by
 unfold AH.read;dsimp only;split
 ·rfl
 split
 ·exact Qp
 split
 ·exact Qp
 split
 ·exact Qp
 ·exact Qp
theorem Mx(n:AH)(j l:Nat):(n.round.2.e j l).wrote=(n.e j l).wrote:=by
 rw [Nm,Rc,Rc,KD,KD,KD,KD,KD,KD,KD,KD];unfold AH.AI;rw [Yf];unfold AH.AO;rw [jY,jY];rfl
theorem Oq(j l:Nat):∀(k:Nat) (n:AH),((Bh k n).2.e j l).wrote=(n.e j l).wrote
 |0,n=>rfl
 |k+1,n=>by
  rw [Bh];split
  ·rw [Oq j l k,Mx]
  ·have h:=Mx n j l;generalize n.round=r at h⊢;exact h
def FC(n:AH)(i:Nat):Nat:=(n.e i 0).wrote.length+(n.e i 1).wrote.length+(n.e i 2).wrote.length+(n.e i 3).wrote.length
def I1(n:AH):Nat:=FC n 0+FC n 1
theorem Qh(w:AR):w.unit≤w.b.length+2:=by
 have hc:=cB (fun n=>decide (¬Ao n w.AO.l)) w.b.length;unfold AR.unit;by_cases hg:w.given=true
 ·rw [if_pos hg];by_cases ht:w.BG=true
  ·rw [if_pos ht];omega
  ·rw [if_neg ht];omega
 ·rw [if_neg hg];by_cases hf:w.finished=true∧w.ending=false∧w.ended=false
  ·rw [if_pos hf];omega
  ·rw [if_neg hf];omega
theorem WT{t:Nat}{n:AH}(h:BE t n){i:Nat}(hi:i<2):U4 (n.x i).ws≤FC n i+8∧FC n i≤16384:=by
 obtain⟨L,R,hN⟩:=h
 have hl:∀k,k<4→((n.x i).ws.getD k Ab).b.length=(n.e i k).wrote.length∧(n.e i k).wrote.length≤4096:=fun k hk=>by
  have o:=hN.e i k hi hk;have a:=congrArg kp o.wrote;rw [c_]at a;have b:=((hN.c i hi).ws.ok k hk).len;have b:((n.x i).w k).b.length≤4096:=b;exact⟨a,Ca⟩
 have u0:=Qh ((n.x i).ws.getD 0 Ab);have u1:=Qh ((n.x i).ws.getD 1 Ab);have u2:=Qh ((n.x i).ws.getD 2 Ab);have u3:=Qh ((n.x i).ws.getD 3 Ab);have h0:=hl 0 Ca;have h1:=hl 1 Ca;have h2:=hl 2 Ca;have h3:=hl 3 Ca;unfold U4 FC;omega
theorem B7.rounds{t:Nat}{n:AH}(h:B7 t n)(k:Nat)(ht:t+11*k≤900000000):(Bh k n).1=true∧B7 (t+11*k) (Bh k n).2:=by
 refine⟨(h.ok.Bh k t n ht).1,?_⟩
 induction k generalizing t n with
 |zero=>exact h
 |succ k ih=>
  rw [Lc h Ca,show t+11*(k+1)=t+11+11*k by omega];exact ih (h.round Ca).2 Ca
theorem dk{t:Nat}{n:AH}(h:B7 t n)(ht:t≤1000000){K:Nat}(hK:36+2*(7*(max (FC n 0) (FC n 1)+8)/200)≤K)(hK2:K≤1000000):∃T0,Er T0 (t+11*K) (Bh K n).2∧∀i,i<2→MA ((Bh K n).2.x i):=by
 obtain⟨m,hm⟩:∃m,m=7*(max (FC n 0) (FC n 1)+8)/200+1:=Bl
 obtain⟨r,hr⟩:∃r,K=1+(32+(2*m+(1+r))):=⟨K-(34+2*m),Ca⟩
 have f1:=Fair.first h Ca
 have e1:=Q3 h Ca;have hnow:∀i,i<2→(n.round.2.x i).now=(n.round.2.x i).now:=fun _ _=>rfl;have f2:=Er.of f1 hnow Ca;generalize hT:(fun i=>(n.round.2.x i).now)=T0 at f1 f2;obtain⟨f3,u3⟩:=Er.less m _ _ f2 Ca
 have hz:∀i,i<2→U4 ((Bh (2*m) (Bh 32 n.round.2).2).2.x i).ws=0:=fun i hi=>by
  rcases u3 i hi with x|x
  ·exact x
  ·have a:=(WT f2.f.ok.ok hi).1
   have b:FC (Bh 32 n.round.2).2 i=FC n i:=by
    unfold FC;rw [Oq,Oq,Oq,Oq,Mx,Mx,Mx,Mx]
   have c:FC n i≤max (FC n 0) (FC n 1):=by
    rcases FF hi with rfl|rfl<;>omega
   omega
 have hq:=gU f3 Ca hz;have f4:=(f3.round Ca).1;obtain⟨f5,hq5⟩:=Er.idle r _ _ f4 Ca hq
 have e:(Bh K n).2=(Bh r ((Bh (2*m) (Bh 32 n.round.2).2).2).round.2).2:=by
  rw [hr,LN 1 _ n h Ca,e1,LN 32 _ n.round.2 f1.ok Ca,LN (2*m) _ _ f2.f.ok Ca,LN 1 r _ f3.f.ok Ca,Q3 f3.f.ok Ca]
 rw [e];exact⟨T0,by rw [show t+11*K=t+11+11*32+22*m+11+11*r by omega];exact f5,hq5⟩
def Jg(n:AH):Nat:=120+3*(I1 n/n.AF+1)+I1 n/16
theorem VR{t:Nat}{n:AH}(h:BE t n):36+2*(7*(max (FC n 0) (FC n 1)+8)/200)≤Jg n∧Jg n≤10000∧16≤n.AF∧I1 n≤32768:=by
 obtain⟨L,R,hN⟩:=id h
 have w1:16≤n.AF:=by rw [←hN.AF 0 Ca];exact(hN.c 0 Ca).w1
 have w2:n.AF≤1024:=by rw [←hN.AF 0 Ca];exact(hN.c 0 Ca).w2
 have a:=(WT h Wo).2;have b:=(WT h (show 1<2 by omega)).2;have hs:I1 n=FC n 0+FC n 1:=rfl;have d1:I1 n/1024≤I1 n/n.AF:=kn w2 Ca;have d2:I1 n/n.AF≤I1 n/16:=kn w1 Ca;unfold Jg;refine⟨?_,Ca,w1,Ca⟩;omega
theorem bo{t:Nat}{n:AH}(h:B7 t n)(ht:t≤1000000):(∀i k,i<2→k<4→V8 ((Bh (Jg n) n).2.e i k))∧(((Bh 40 (Bh (Jg n) n).2).2.flush 0).2.flush 1).2.AN=(Bh 40 (Bh (Jg n) n).2).2.AN:=by
 obtain⟨a,b,_,_⟩:=VR h.ok;obtain⟨T0,f,q⟩:=dk h ht a Ca;refine⟨fun i k hi hk=>mT f.f q hi hk,?_⟩;obtain⟨f2,q2⟩:=Er.idle 40 _ _ f Ca q;exact x8 f2.f.ok.ok Ca q2
section
variable{B:World}
def N'(n:AH)(i:Nat):Nat→Nat
 |0=>0
 |k+1=>N' n i k+(n.e i k).wrote.length
def Rg(n:AH):Nat→Nat
 |0=>0
 |i+1=>Rg n i+N' n i 4
theorem pM(n:AH):Rg n 2=I1 n:=by
 show 0+(0+(n.e 0 0).wrote.length+(n.e 0 1).wrote.length+(n.e 0 2).wrote.length+(n.e 0 3).wrote.length)+(0+(n.e 1 0).wrote.length+(n.e 1 1).wrote.length+(n.e 1 2).wrote.length+(n.e 1 3).wrote.length)=_;unfold I1 FC;omega
theorem zP{t:Nat}{n:AH}(h:BE t n){i k:Nat}(hi:i<2)(hk:k<4):(n.e i k).wrote.length≤4096:=by
 obtain⟨L,R,hN⟩:=h;have o:=hN.e i k hi hk;have a:=congrArg kp o.wrote;rw [c_]at a;have b:=((hN.c i hi).ws.ok k hk).len;have b:((n.x i).w k).b.length≤4096:=b;omega
set_option maxHeartbeats 8000000 in
theorem oC(nb t:Nat)(w:NM)(H:HP)(hok:w.ok)(hw:BE t w.n):
  Fn Tryz.prog B 37 [ptr nb 0] (Ay nb w*H) (fun v H'=>v=iN (Jg w.n)∧H'=Ay nb w*H):=by
 refine mI Tryz.func37 ?_;obtain⟨L0,R0,hw0⟩:=id hw;obtain⟨_,hen,hw16,hs32⟩:=VR hw;refine Hb ?_;refine J4 ?_;refine FT ?_;refine J5 ?_;refine E4 ?_;refine Bj (α:=Nat×Nat) (fun z=>[(4,iN z.1),(3,iN z.2),(0,ptr nb 0)]) (fun _=>Ay nb w*H) (fun z=>z.1≤2∧z.2=Rg w.n z.1∧z.2≤16384*z.1) (fun z=>2-z.1) (0,0) ⟨ku _,rfl,i_ _⟩ Dk rfl ?_;rintro⟨i,b⟩ ⟨q1,q2,q3⟩;dsimp only at q1 q2 q3⊢;refine SN ?_;refine mC (fun hi=>?_) (fun hi=>?_)
 ·refine J6 ?_;refine E4 ?_;refine Bj (α:=Nat×Nat) (fun z=>[(5,iN z.1),(4,iN i),(3,iN z.2),(0,ptr nb 0)]) (fun _=>Ay nb w*H) (fun z=>z.1≤4∧z.2=b+N' w.n i z.1∧z.2≤b+4096*z.1) (fun z=>4-z.1) (0,b) ⟨ku _,rfl,by show b≤b+4096*0;omega⟩ Hq rfl ?_;rintro⟨k,b2⟩ ⟨x1,x2,x3⟩;dsimp only at x1 x2 x3⊢;refine J4 ?_;refine JL TE ?_;refine J2 ?_;refine mC (fun hk=>?_) (fun hk=>?_)
  ·obtain⟨C,r,E,hC,hr,hE,l1,l2,l3⟩:=hw0.mem (i:=0) (j:=i) (k:=k) Ca hi hk;have hE9:=NM.IT hr hE;have hwl:=zP hw hi hk;rw [hE9]at hwl;refine J4 ?_;refine aT ?_;refine J5 ?_;refine JL QE ?_;refine J1 ?_;refine JL aE ?_;refine Td ?_;refine J4 ?_;refine JL (Ff (i:=b2) (j:=(AW E.o.wrote).size) rfl rfl Kq) ?_;refine J6 ?_;refine Qi ?_;exact Ba (k+1,b2+(AW E.o.wrote).size) ⟨WN,by show _=b+(N' w.n i k+(w.n.e i k).wrote.length);rw [hE9,EI];omega,by show _≤b+4096*(k+1);rw [EI];omega⟩ Rv Hq rfl
  refine J8 ?_;refine JL OI ?_;refine J2 ?_
  have hk4:k=4:=by omega
  subst hk4;exact Ba (i+1,b2) ⟨RI,by show b2=Rg w.n i+N' w.n i 4;omega,by show b2≤16384*(i+1);omega⟩ SA Dk rfl
 refine J6 ?_
 have hi2:i=2:=by omega
 subst hi2;rw [pM]at q2;have hdq:b/w.x.AF≤b:=Nat.div_le_self _ _;have hw16:16≤w.x.AF:=hw16;refine Au (H':=A7 nb w.x*(AB w.xa.b w.xa.o w.cs w.xa.s*(AB w.ea.b w.ea.o w.rows w.ea.s*(AB w.ba.b w.ba.o w.AN w.ba.s*(AB w.ca.b w.ca.o w.cnt w.ca.s*(AU CX w.cs*(AU CY w.rows*H))))))) (En nb w _) ?_;refine J7 ?_;refine JL (kH (i:=b) (j:=w.x.AF) rfl rfl Ca) ?_;refine JL (Ff (i:=b/w.x.AF) (j:=1) rfl rfl Ca) ?_;refine JL (hB (i:=3) (j:=b/w.x.AF+1) rfl rfl Ca) ?_;refine JL (Ff (i:=120) (j:=3*(b/w.x.AF+1)) rfl rfl Ca) ?_;refine J1 ?_;refine JL (kH (i:=b) (j:=16) rfl rfl Ca) ?_;refine JL (Ff (i:=120+3*(b/w.x.AF+1)) (j:=b/16) rfl rfl Ca) ?_;refine J4 ?_;exact mR [2] (Ay nb w*H) (hE:=⟨fun ww hw=>Eq.mp (by congr 1;rw [En]) hw⟩) rfl rfl ⟨by rw [q2];rfl,rfl⟩
set_option maxHeartbeats 8000000 in
theorem qW(nb t:Nat)(w:NM)(H:HP)(hok:w.ok)(hw:BE t w.n)(hth:∀i k,i<2→k<4→V8 (w.n.e i k)):
  Fn Tryz.prog B 38 [ptr nb 0] (Ay nb w*H) (fun v H'=>v=.bool true∧H'=Ay nb w*H):=by
 refine mI Tryz.func38 ?_;obtain⟨L0,R0,hw0⟩:=id hw;refine J8 ?_;refine E4 ?_;refine Bj (α:=Nat) (fun z=>[(3,iN z),(0,ptr nb 0)]) (fun _=>Ay nb w*H) (fun z=>z≤2) (fun z=>2-z) 0 EX gR rfl ?_;rintro i q1;dsimp only at q1⊢;refine SN ?_;refine mC (fun hi=>?_) (fun hi=>?_)
 ·refine J6 ?_;refine E4 ?_;refine Bj (α:=Nat) (fun z=>[(4,iN z),(3,iN i),(0,ptr nb 0)]) (fun _=>Ay nb w*H) (fun z=>z≤4) (fun z=>4-z) 0 EX Dk rfl ?_;rintro k x1;dsimp only at x1⊢;refine J4 ?_;refine JL TE ?_;refine J2 ?_;refine mC (fun hk=>?_) (fun hk=>?_)
  ·obtain⟨C,r,E,hC,hr,hE,l1,l2,l3⟩:=hw0.mem (i:=0) (j:=i) (k:=k) Ca hi hk;have hE9:=NM.IT hr hE;obtain⟨th1,th2⟩:=hth i k hi hk;rw [hE9]at th1 th2;refine J5 ?_;refine aT ?_;refine J4 ?_;refine JL QE ?_;refine J1 ?_;refine JL aE ?_;refine Td ?_;refine DV ?_;refine mc (fun hg=>?_) (fun hg=>?_)
   ·refine J7 ?_;refine JL (A9 (v':=.bool false) fL (by rw [decide_eq_false (th1 hg)])) ?_;refine I4 ?_;refine J8 ?_;refine Qi ?_;exact TR
   obtain⟨th3,th4,th5⟩:=th2 hg;refine J3 ?_;refine mA 35 35 ?_;refine K0 ?_;refine LO 37 rfl (fun hg1=>?_) (fun hg1=>?_)
   ·refine XJ ?_;refine JY 9 rfl hg1 (A9 (v':=.bool false) (FB (i:=E.o.state) (j:=1) rfl rfl) (by rw [decide_eq_false (fun x=>x (th3 hg1))])) ?_;refine JT 10 rfl J0 ?_;refine Zx ?_
    refine To ?_;refine Um ?_;refine Al 28 rfl Cb rfl rfl rfl rfl Bd ?_;refine Y0 ?_;refine J5 ?_;refine Qi ?_;exact TR
   refine JN 5 rfl hg1 ?_;refine RY ?_;refine JT 10 rfl ID ?_;refine Zx ?_;refine To ?_;refine Um ?_;refine Al 28 rfl Cb rfl rfl rfl rfl Bd ?_
   refine Y0 ?_;refine J5 ?_;refine Qi ?_;exact TR
  refine J8 ?_;refine JL OI ?_;refine J2 ?_;exact Ba (i+1) RI SA gR rfl
 refine B1 ?_;exact mR [2] (Ay nb w*H) rfl rfl BY
set_option maxHeartbeats 8000000 in
theorem vF(hG:B.cell? ⟨0,0,none⟩=some (DH 106))(nb t:Nat)(w:NM)(H:HP)(hok:w.ok)(hw:B7 t w.n)(ht:t≤100000):
  Fn Tryz.prog B 15 [ptr nb 0] (Ay nb w*H) (fun v H'=>v=.bool true∧H'=H):=by
 refine mI Tryz.func15 ?_;have hen:=VR hw.ok;obtain⟨hthru,hlast⟩:=bo hw Ca;have hk1:=(hw.rounds (Jg w.n) Ca).2;have hk2:=(hk1.rounds 40 Ca).2;refine J8 ?_;refine mE rfl (oC nb t w _ hok hw.ok) ?_;refine JR ?_;refine J7 ?_;refine mE rfl (UQ hG nb t (Jg w.n) w _ hok hw.ok Ca) ?_;rintro _ _ ⟨rfl,w1,hok1,hn1,rfl⟩;rw [←hn1]at hk1 hk2 hthru hlast;refine J7 ?_;refine RP ?_;refine mE rfl (qW nb _ w1 _ hok1 hk1.ok hthru) ?_;refine Hp ?_;refine mE rfl (UQ hG nb _ 40 w1 _ hok1 hk1.ok Ca) ?_;rintro _ _ ⟨rfl,w2,hok2,hn2,rfl⟩;rw [←hn2]at hk2 hlast;obtain⟨L2,R2,hw2⟩:=id hk2.ok;obtain⟨Ls,hfl⟩:=hw2.Nt (i:=0) Ca Ca;refine J4 ?_;refine Au (H':=A7 nb w2.x*(AB w2.xa.b w2.xa.o w2.cs w2.xa.s*(AB w2.ea.b w2.ea.o w2.rows w2.ea.s*(AB w2.ba.b w2.ba.o w2.AN w2.ba.s*(AB w2.ca.b w2.ca.o w2.cnt w2.ca.s*(AU CX w2.cs*(AU CY w2.rows*H))))))) (En nb w2 _) ?_;refine J4 ?_;refine JL (A9 ER hok2.bv) ?_;refine J5 ?_;refine Au (H':=Ay nb w2*H) (En nb w2 _).symm ?_;refine J2 ?_;refine mE rfl (P8 hG nb _ 0 w2 Ls _ hok2 hfl Ca Ca) ?_;rintro _ _ ⟨rfl,w3,hok3,hn3,rfl⟩
 have hk3:=(hk2.ok.flush (i:=0) Ca Ca).2;rw [←hn3]at hk3 hlast;obtain⟨L3,R3,hw3⟩:=hk3;obtain⟨Ls3,hfl3⟩:=hw3.Nt (i:=1) Ca Ca;refine J6 ?_;refine mE rfl (P8 hG nb _ 1 w3 Ls3 _ hok3 hfl3 Ca Ca) ?_;rintro _ _ ⟨rfl,w4,hok4,hn4,rfl⟩;rw [←hn4]at hlast
 have hbl:w4.AN.length=w2.AN.length:=by
  have e4:w4.n.AN.length=w4.AN.length:=kh ..;have e2:w2.n.AN.length=w2.AN.length:=kh ..;rw [←e4,←e2,hlast]
 refine J4 ?_;refine Au (H':=A7 nb w4.x*(AB w4.xa.b w4.xa.o w4.cs w4.xa.s*(AB w4.ea.b w4.ea.o w4.rows w4.ea.s*(AB w4.ba.b w4.ba.o w4.AN w4.ba.s*(AB w4.ca.b w4.ca.o w4.cnt w4.ca.s*(AU CX w4.cs*(AU CY w4.rows*H))))))) (En nb w4 _) ?_;refine J3 ?_;refine Ns ?_;refine QK ?_;refine G8 ?_;refine QK ?_;refine G8 ?_;refine Lf ?_;refine J1 ?_;refine F0 ?_;refine JL (A9 ER hok4.bv) ?_;refine F0 ?_;refine KU ?_;refine JL (A9 (v':=.bool true) (CN (i:=w4.AN.length) (j:=w2.AN.length) rfl rfl) (by rw [decide_eq_true hbl])) ?_;refine G8 ?_;refine J4 ?_;exact mR [2] H (hE:=⟨fun ww hw=>Sat.right (A:=Ay nb w4) (Eq.mp (by congr 1;rw [En]) hw)⟩) rfl rfl BY
set_option maxHeartbeats 8000000 in
theorem Q! (hG:B.cell? ⟨0,0,none⟩=some (DH 106))(l:List DB)(AJ AF:Int)(hmtu:IQ AJ)(hwin:IQ AF)(p:Option Addr)(b o c:Nat)(H:HP)(hs:Sl p b o l.length c)(hr:Ai B H b o l)(hl:l.length<2000000)(hst:∀s∈l,K1 s):
  Fn Tryz.prog B 7 [.slice p l.length c,.int .i64 AJ,.int .i64 AF] H (fun v H'=>v=.bool true∧H'=H):=by
 refine mI Tryz.func7 ?_;refine J8 ?_;refine mE rfl (rX l p b o c _ hs hr hl (fun s h=>(hst s h).s)) ?_;rintro _ H10 ⟨bb,rfl,hbb,h10⟩;rw [h10];refine J5 ?_;refine mE rfl (oB hG _) ?_;rintro _ H11 ⟨rfl,h11⟩;rw [h11];refine J7 ?_;refine KF ?_;refine J1 ?_;refine DU 15 rfl (fun hg1=>?_) (fun hg1=>?_)
 ·refine IL ?_;refine Qw ?_;refine J8 ?_;exact mR [6] H rfl rfl BY
 have hb1:bb=true:=by cases bb;cases hg1;rfl
 have hl8:=hbb hb1;refine MQ ?_;refine JL T6 ?_;refine JL ID ?_;refine I4 ?_;refine J7 ?_;refine mE rfl (qU hG l 0 AJ AF hmtu hwin p b o c _ hs hr hl8 hst) ?_;rintro _ _ ⟨nb,w,rfl,hok,hk,hrun,rfl⟩;have hL:=B7.run 0 l 0 _ _ (B7.new AJ AF) Ca hrun;refine B1 ?_;refine RP ?_;refine mE rfl (vF hG nb (0+l.length) w _ hok hL Ca) ?_;rintro _ H30 ⟨rfl,h30⟩;rw [h30];refine J4 ?_;exact mR [6] H rfl rfl BY
end
end Go.Proofs.YtgfdlpcdjklcoaaGreatDoor
