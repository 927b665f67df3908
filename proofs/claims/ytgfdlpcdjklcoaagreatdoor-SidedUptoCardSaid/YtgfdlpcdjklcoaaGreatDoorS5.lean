/- A part of this proof: steps of the program, plain facts; no condition. -/
import Derived.Test.YtgfdlpcdjklcoaaGreatDoorS4
import Derived.Lib.Overlaps
namespace Go.Proofs.YtgfdlpcdjklcoaaGreatDoor
open Go Go.RowKit
open _root_.List renaming length_append→a_,length_drop→b_,append_assoc→c_,length_take→e_,length_cons→f_,take_left'→g',drop_eq_nil_of_le→h_,getD_eq_getElem?_getD→i_,nil_append→j',take_append_drop→l_,drop_drop→m_,drop_append→o_,length_pos_iff→p_,getElem?_eq_getElem→q_,getElem?_drop→q',mem_singleton→r_,length_eq_zero_iff→s_,length_singleton→t_,drop_length→u_,mem_append→xr,getElem?_append_right→xw,getElem?_append_left→xy,getElem?_take_of_lt→ya,map_cons→yb,map_toArray→yc,range_succ_eq_map→ye,length_filter_le→yf,map_congr_left→yh,length_reverse→yi,cons_eq_cons→yj,flatMap_cons→yk,getElem_mem→ym,length_set→yo,mem_filter→yp,length_nil→yq,drop_left'→yt,replicate→yu,mem_cons→yv,getD→yw,map_map→yx,map_nil→yy,length→y',range→zb
open _root_.Nat renaming zero_le→d_,le_trans→k_,mul_le_mul_right→n_,add_mul→v_,not_lt_zero→w_,min_eq_left→xt,lt_or_ge→xu,lt_succ_of_lt→x_,le_mul_of_pos_right→yd,le_refl→yg,le_max_right→yl,min_eq_right→yn
open _root_.Go.Builtin renaming zeroCells→g_,firstCells→j_,append_→yr,min_→yz,min2→y_
open _root_.Go.Question renaming appendCap→xx,cut→zd
open _root_.Option renaming some→xz
set_option linter.unusedVariables false
set_option maxRecDepth 20000
set_option linter.unusedSimpArgs false
theorem U4{l:List AP}{read high:Nat}(hI:DQ l)(hp:∀n,n<read→A3 n l)(hh:∀r∈l,r.hi<high)(hw:high≤read+1024):l.length≤514:=by
 cases l with
 |nil=>simp
 |cons r rs=>
  obtain⟨h1,h2,h3⟩:=hI
  have h4:read≤r.hi+1:=by
   rcases xu (r.hi+1) read with h|h
   ·rcases(FD (r.hi+1) r rs).1 (hp _ h)with h5|⟨s,hs,h5⟩
    ·omega
    ·have:=h2 s hs;omega
   ·exact h
  rcases Tj rs (r.hi+2) high h3 (fun s hs=>by have:=h2 s hs;omega) (fun s hs=>hh s NP)with h5|rfl
  ·simp;omega
  ·simp
theorem aU{s:BH}{m lo hi:Nat}(h:C2 s m)(hf:s.floor=0)(hm:s.AN=4096)(hl:s.l.length≤600)(hlo:lo≤hi)(hhi:hi<m):
  C2 (s.add lo hi) m∧(s.add lo hi).floor=0∧(s.add lo hi).AN=4096∧∀n,A3 n (s.add lo hi).l↔(lo≤n∧n≤hi)∨A3 n s.l:=by
 have h1:=MU s.l lo hi hlo h.inc;have h2:=KZ s.l lo hi (m-1) Cg (fun r hr=>by have:=h.hi r hr;omega);have h3:=Mu s.l lo hi;have e:=BH.Wz hf hlo (by omega:(BW lo hi s.l).length≤s.AN);rw [e];exact⟨⟨h1,fun _ _=>d_ _,fun r hr=>by have:=h2 r hr;omega,by show(BW lo hi s.l).length≤s.AN;omega,d_ _⟩,rfl,hm,fun n=>Mp s.l lo hi n hlo⟩
theorem kO{b ds:List UInt8}{o:Nat}(h:o+ds.length≤b.length):(G3 b o ds).length=b.length:=by
 unfold G3;simp;omega
theorem zF{b ds:List UInt8}{o i:Nat}(h:o+ds.length≤b.length):(G3 b o ds).getD i 0=if o≤i∧i<o+ds.length then ds.getD (i-o) 0 else b.getD i 0:=by
 unfold G3;simp only [i_]
 have hl:(b.take o).length=o:=by rw [e_];omega
 split
 ·rename_i hc;rw [c_,xw Cg,hl,xy Cg]
 ·rename_i hc;rcases xu i o with h1|h1
  ·rw [c_,xy Cg,ya h1]
  ·rw [xw Cq,q'];congr 2;simp;omega
theorem T? {off e:Nat}{ds:List UInt8}{read high:Nat}(he:e=off+ds.length)(heh:e≤high)(hw:high≤read+1024):
  ∀(fuel lo:Nat) (b:List UInt8) (AF:BH),C2 AF high→AF.floor=0→AF.AN=4096→(∀n,n<read→A3 n AF.l)→b.length=high-read→off≤lo→read≤lo→e-lo<fuel→
   C2 (Gn fuel off e ds read lo b AF).2 high∧(Gn fuel off e ds read lo b AF).2.floor=0∧(Gn fuel off e ds read lo b AF).2.AN=4096∧
   (Gn fuel off e ds read lo b AF).1.length=b.length∧(∀n,A3 n (Gn fuel off e ds read lo b AF).2.l↔A3 n AF.l∨(lo≤n∧n<e))∧
   (∀n,read≤n→n<high→(Gn fuel off e ds read lo b AF).1.getD (n-read) 0=if lo≤n∧n<e∧¬A3 n AF.l then ds.getD (n-off) 0 else b.getD (n-read) 0):=by
 intro fuel
 induction fuel with
 |zero=>intro lo b AF _ _ _ _ _ _ _ h;omega
 |succ fuel ih=>
  intro lo b AF ho hf hm hp hb hol hrl hfu;rw [Gn];by_cases hlo:lo<e
  ·simp only [hlo,if_true];obtain⟨ga,gb,gc,gd,ge⟩:=HM AF.l lo e ho.inc Cg;by_cases hg:e≤(AR lo e AF.l).1
   ·simp only [hg,if_true];refine⟨ho,hf,hm,trivial,fun n=>⟨.inl,fun h=>?_⟩,fun n h1 h2=>?_⟩
    ·rcases h with h|h
     ·exact h
     ·exact gb n h.1 Cg
    ·rw [if_neg];rintro⟨h3,h4,h5⟩;exact h5 (gb n h3 Cg)
   ·simp only [hg,if_false]
    have hlt:(AR lo e AF.l).1<(AR lo e AF.l).2:=by
     rcases xu (AR lo e AF.l).1 (AR lo e AF.l).2 with h|h
     ·exact h
     ·exact absurd (ge h) hg
    have hds:((ds.drop ((AR lo e AF.l).1-off)).take ((AR lo e AF.l).2-(AR lo e AF.l).1)).length=(AR lo e AF.l).2-(AR lo e AF.l).1:=by
     rw [e_,b_];omega
    have hpl:(G3 b ((AR lo e AF.l).1-read) ((ds.drop ((AR lo e AF.l).1-off)).take ((AR lo e AF.l).2-(AR lo e AF.l).1))).length=b.length:=kO (by rw [hds];omega);have hcl:=U4 ho.inc hp ho.hi hw;obtain⟨a1,a2,a3,a4⟩:=aU (lo:=(AR lo e AF.l).1) (hi:=(AR lo e AF.l).2-1) ho hf hm Cg Cg Cg
    obtain⟨b1,b2,b3,b4,b5,b6⟩:=ih (AR lo e AF.l).2 (G3 b ((AR lo e AF.l).1-read) ((ds.drop ((AR lo e AF.l).1-off)).take ((AR lo e AF.l).2-(AR lo e AF.l).1))) (AF.add (AR lo e AF.l).1 ((AR lo e AF.l).2-1)) a1 a2 a3 (fun n hn=>(a4 n).2 (.inr (hp n hn))) (by rw [hpl];exact hb) Cg Cg Cg
    refine⟨b1,b2,b3,b4.trans hpl,fun n=>?_,fun n h1 h2=>?_⟩
    ·rw [b5 n,a4 n];constructor
     ·rintro((h|h)|h)
      ·exact .inr Cg
      ·exact .inl h
      ·exact .inr Cg
     ·rintro(h|h)
      ·exact .inl (.inr h)
      ·by_cases h3:n<(AR lo e AF.l).1
       ·exact .inl (.inr (gb n h.1 h3))
       ·by_cases h4:n<(AR lo e AF.l).2
        ·exact .inl (.inl Cg)
        ·exact .inr Cg
    ·rw [b6 n h1 h2,zF (by rw [hds];omega),hds];by_cases h3:n<(AR lo e AF.l).1
     ·rw [if_neg Cg,if_neg Cg];rw [if_neg];rintro⟨h5,h6,h7⟩;exact h7 (gb n h5 h3)
     ·by_cases h4:n<(AR lo e AF.l).2
      ·have h5:¬A3 n AF.l:=gd hlt n Cg h4;rw [if_neg Cg,if_pos Cg,if_pos ⟨Cg,Cg,h5⟩];simp only [i_];rw [ya Cg,q'];congr 2;omega
      ·have h6:A3 n (AF.add (AR lo e AF.l).1 ((AR lo e AF.l).2-1)).l↔A3 n AF.l:=by
        rw [a4 n];constructor
        ·rintro(h|h)
         ·omega
         ·exact h
        ·exact .inr
       by_cases h7:(AR lo e AF.l).2≤n∧n<e∧¬A3 n AF.l
       ·rw [if_pos ⟨h7.1,h7.2.1,fun h=>h7.2.2 (h6.1 h)⟩,if_pos ⟨Cg,h7.2.1,h7.2.2⟩]
       ·rw [if_neg (fun h=>h7 ⟨h.1,h.2.1,fun g=>h.2.2 (h6.2 g)⟩),if_neg Cg,if_neg];rintro⟨h8,h9,h10⟩;exact h7 ⟨Cg,h9,h10⟩
  ·simp only [hlo,if_false];refine⟨ho,hf,hm,trivial,fun n=>⟨.inl,fun h=>?_⟩,fun n h1 h2=>?_⟩
   ·rcases h with h|h
    ·exact h
    ·omega
   ·rw [if_neg Cg]
structure GK(AG t:Nat)(r:Ce):Prop where
 co:C2 r.AF r.high
 cf:r.AF.floor=0
 cm:r.AF.AN=4096
 rh:r.read≤r.high
 hw:r.high≤r.read+AG
 pre:∀n,n<r.read→A3 n r.AF.l
 len:r.given=false→r.b.length=r.high-r.read
 rt:r.read≤1024*t
 en:r.end_≤4611686018427387903
 code:r.code≤4611686018427387903
 st:r.state≤2
 Jg:r.state=2→r.given=true
theorem GK.mono{AG t t':Nat}{r:Ce}(h:GK AG t r)(ht:t≤t'):GK AG t' r:=
 ⟨h.co,h.cf,h.cm,h.rh,h.hw,h.pre,h.len,by have:=h.rt;omega,h.en,h.code,h.st,h.Jg⟩
def E1(f:AZ):Prop:=0≤f.stream∧f.stream<4∧f.code≤4611686018427387903∧f.offset≤4611686018427387903∧(f.kind=5→f.offset+f.data.size≤4611686018427387903)∧(f.kind=3→HY f.ranges)
theorem E1.of{f:AZ}(h:Bh f):E1 f:=⟨h.2.2.1,h.2.2.2.1,h.2.1,h.1,fun hk=>by have:=h.2.2.2.2.1.2 hk;omega,h.2.2.2.2.1.1⟩
structure Hn(r r':Ce):Prop where
 read:r'.read=r.read
 state:r'.state=r.state
 given:r.given=true→r'.given=true
theorem N8(f:AZ):f.data.data.toList.length=f.data.size:=rfl
theorem Ce.rY{AG t:Nat}(r:Ce)(h:GK AG t r)(hwi:AG≤1024)(f:AZ)(hg:r.given=false)(hb:f.offset+f.data.size≤r.read+AG):
  C2 (r.filled f).2 (max r.high (f.offset+f.data.size))∧(r.filled f).2.floor=0∧(r.filled f).2.AN=4096∧(r.filled f).1.length=max r.high (f.offset+f.data.size)-r.read∧
  (∀n,A3 n (r.filled f).2.l↔A3 n r.AF.l∨(max f.offset r.read≤n∧n<f.offset+f.data.size))∧
  (∀n,r.read≤n→n<max r.high (f.offset+f.data.size)→(r.filled f).1.getD (n-r.read) 0=if max f.offset r.read≤n∧n<f.offset+f.data.size∧¬A3 n r.AF.l then f.data.data.toList.getD (n-f.offset) 0
   else(r.b++yu (max r.high (f.offset+f.data.size)-(r.read+r.b.length)) 0).getD (n-r.read) 0):=by
 have hl:=h.len hg;have hh:=h.hw;have hrh:=h.rh
 have hb0:(r.b++yu (max r.high (f.offset+f.data.size)-(r.read+r.b.length)) 0).length=max r.high (f.offset+f.data.size)-r.read:=by rw [a_,List.length_replicate];omega
 obtain⟨a1,a2,a3,a4,a5,a6⟩:=T? (off:=f.offset) (e:=f.offset+f.data.size) (ds:=f.data.data.toList) (read:=r.read) (high:=max r.high (f.offset+f.data.size)) (by rw [N8]) (yl _ _) Cg (f.offset+f.data.size+1) (max f.offset r.read) _ r.AF (h.co.mono Ri) h.cf h.cm h.pre hb0 Ri (yl _ _) Cg
 exact⟨a1,a2,a3,a4.trans hb0,a5,a6⟩
theorem GK.data{AG t:Nat}{r:Ce}(h:GK AG t r)(hwi:AG≤1024)(f:AZ)(hf:E1 f)(hk:f.kind=5)(hb:r.given=false→f.offset+f.data.size≤r.read+AG):
  GK AG t (r.data f).2∧Hn r (r.data f).2:=by
 unfold Ce.data;split
 ·exact⟨h,rfl,rfl,id⟩
 split
 ·exact⟨h,rfl,rfl,id⟩
 ·rename_i hc hg
  have hg':r.given=false:=by simpa using hg
  have hb:=hb hg';have hl:=h.len hg';have hh:=h.hw;have hrh:=h.rh;have hco:C2 r.AF (max r.high (f.offset+f.data.size)):=h.co.mono Cg;obtain⟨a1,a2,a3,a4,a5,a6⟩:=r.rY h hwi f hg' hb;refine⟨⟨a1,a2,a3,k_ hrh Ri,by show max r.high _≤r.read+AG;omega,fun n hn=>(a5 n).2 (.inl (h.pre n hn)),fun _=>a4,h.rt,?_,h.code,h.st,h.Jg⟩,rfl,rfl,id⟩;show(if f.fin then f.offset+f.data.size else r.end_)≤_;split
  ·exact hf.2.2.2.2.1 hk
  ·exact h.en
structure XR(next now:Nat)(ws:List Ai)(p:EN):Prop where
 num:p.number<next
 at_:p.at_≤now
 len:p.Ap.length≤300
 fr:∀f∈p.Ap,Es ws f
structure Ak(t:Nat)(c:AL):Prop where
 m1:64≤c.AY
 m2:c.AY≤300
 w1:16≤c.AG
 w2:c.AG≤1024
 ks:c.ks.length=16
 closed:c.closed≤10
 code:c.code≤4611686018427387903
 AO:C2 c.AO 4611686018427387904
 gm:c.AO.AN=8
 ws:Du c.AG c.ws
 rl:c.rs.length=4
 rs:∀k,k<4→GK c.AG t (c.r k)
 fl:c.BY.length≤10
 A5:∀p,p∈c.BY∨p∈c.lost→XR c.next c.now c.ws p
 cnt:c.BY.length+c.lost.length≤c.next
 nx:c.next≤20*t
 nw:c.now≤t
 wt:c.waits≤8
 lg:c.Bq≤c.next
theorem Ak.mono{t t':Nat}{c:AL}(h:Ak t c)(ht:t≤t'):Ak t' c:=
 {h with rs:=fun k hk=>(h.rs k hk).mono ht,nx:=by have:=h.nx;omega,nw:=by have:=h.nw;omega}
theorem Tq{AG:Nat}:EY AG BD:=⟨d_ _,.of,rfl,rfl,.of,rfl,rfl,d_ _,d_ _,d_ _⟩
theorem Sw{AG t:Nat}:GK AG t KQ:=⟨.of,rfl,rfl,d_ _,d_ _,(fun n h=>absurd h (w_ n)),(fun _=>rfl),d_ _,d_ _,d_ _,d_ _,(fun h=>absurd h Ci)⟩
theorem Og{P:Nat→Prop}(h0:P 0)(h1:P 1)(h2:P 2)(h3:P 3)(k:Nat)(hk:k<4):P k:=by
 match k,hk with
 |0,_=>exact h0
 |1,_=>exact h1
 |2,_=>exact h2
 |3,_=>exact h3
theorem Ak.new{AY AG:Nat}{ks:List UInt8}{first:Bool}(h1:64≤AY)(h2:AY≤300)(h3:16≤AG)(h4:AG≤1024)(hk:ks.length=16):Ak 0 (.new AY AG ks first):=
 ⟨h1,h2,h3,h4,hk,d_ _,d_ _,.of,rfl,⟨rfl,Og Tq Tq Tq Tq⟩,rfl,Og Sw Sw Sw Sw,d_ _,(fun p h=>by rcases h with h|h<;>cases h),d_ _,d_ _,d_ _,d_ _,d_ _⟩
theorem Ak.Zo{t:Nat}{c:AL}(h:Ak t c){ws:List Ai}(hw:Du c.AG ws)(hf:∀f,Es c.ws f→Es ws f):Ak t {c with ws:=ws}:=
 {h with ws:=hw,A5:=fun p hp=>let g:=h.A5 p hp;⟨g.num,g.at_,g.len,fun f hfr=>hf f (g.fr f hfr)⟩}
theorem Es.set{ws:List Ai}{k:Nat}{w:Ai}(hb:(ws.getD k BD).b.length≤w.b.length)(f:AZ)(h:Es ws f):Es (ws.set k w) f:=by
 refine⟨h.1,h.2.1,fun hk=>?_⟩
 have:=h.2.2 hk
 rw [Ed];split
 ·rename_i e;rw [e.1]at hb;omega
 ·exact this
theorem Ak.C4{t:Nat}{c:AL}(h:Ak t c){k:Nat}{w:Ai}(hw:EY c.AG w)(hb:(c.w k).b.length≤w.b.length):Ak t (c.C4 k w):=
 h.Zo (h.ws.set hw) (Es.set hb)
theorem Ak.Bs{t:Nat}{c:AL}(h:Ak t c){k:Nat}{r:Ce}(hr:GK c.AG t r):Ak t (c.Bs k r):=by
 refine {h with rl:=by show(c.rs.set k r).length=4;rw [yo];exact h.rl,rs:=fun j hj=>?_};show GK c.AG t ((c.rs.set k r).getD j KQ);rw [Ed];split
 ·exact hr
 ·exact h.rs j hj
theorem K9{c:AL}{k:Int}(h:c.stream k=0):c.closed=0∧0≤k∧k.toNat<4:=by
 unfold AL.stream at h;split at h
 ·cases h
 split at h
 ·cases h
 ·rename_i h1 h2;refine⟨by simpa using h1,?_,?_⟩<;>omega
theorem gG{c:AL}{k:Int}(h:c.E9 k=0):c.stream k=0∧(c.w k.toNat).finished=false∧(c.w k.toNat).given=false:=by
 unfold AL.E9 at h;split at h
 ·rename_i h1;exact absurd h h1
 split at h
 ·cases h
 ·rename_i h1 h2;refine⟨by simpa using h1,?_,?_⟩<;>simp_all
theorem EY.write{AG:Nat}{w:Ai}(h:EY AG w)(n:Nat)(xs:List UInt8)(hn:n≤AG-(w.b.length-w.B2))(hn2:n≤4096-w.b.length):EY AG {w with b:=w.b++xs.take n}:=by
 have hl:(w.b++xs.take n).length≤w.b.length+n:=by simp;omega
 have h1:=h.NK;have h2:=h.len;have h3:=h.room;have hp:w.B2≤({w with b:=w.b++xs.take n}:Ai).B2:=mP h.co.inc h.co.inc (fun r hr=>by have:=h.co.hi r hr;show r.hi<(w.b++xs.take n).length;simp;omega) (fun _ h=>h);refine⟨by show(w.b++xs.take n).length≤_;omega,h.so.mono Cl,h.sf,h.sm,h.co.mono Cl,h.cf,h.cm,?_,k_ h.high Cl,h.code⟩;show(w.b++xs.take n).length≤_;omega
theorem Ak.write{t:Nat}{c:AL}(h:Ak t c)(k:Int)(xs:List UInt8):Ak t (c.write k xs).2:=by
 unfold AL.write;split
 ·exact h
 ·rename_i h1;obtain⟨h2,h3,h4⟩:=gG (by simpa using h1:c.E9 k=0);obtain⟨h5,h6,h7⟩:=K9 h2;refine h.C4 (EY.write (h.ws.ok _ h7) _ _ ?_ ?_) Cl
  ·show min (min _ _) _≤_;exact k_ Uj Uj
  ·show min (min _ _) _≤_;exact k_ Uj (Nat.min_le_right _ _)
theorem Ak.finish{t:Nat}{c:AL}(h:Ak t c)(k:Int):Ak t (c.finish k).2:=by
 unfold AL.finish;split
 ·exact h
 ·rename_i h1;obtain⟨h2,h3,h4⟩:=gG (by simpa using h1:c.E9 k=0);obtain⟨h5,h6,h7⟩:=K9 h2;have g:=h.ws.ok _ h7;exact h.C4 ⟨g.len,g.so,g.sf,g.sm,g.co,g.cf,g.cm,g.room,g.high,g.code⟩ D3
theorem Ak.giveUp{t:Nat}{c:AL}(h:Ak t c)(k:Int)(code:Nat):Ak t (c.giveUp k code).2:=by
 unfold AL.giveUp;split
 ·exact h
 split
 ·exact h
 ·rename_i h1 h2;obtain⟨h5,h6,h7⟩:=K9 (by simpa using h1:c.stream k=0);have g:=h.ws.ok _ h7;exact h.C4 ⟨g.len,g.so,g.sf,g.sm,g.co,g.cf,g.cm,g.room,g.high,by show code≤_;omega⟩ D3
theorem Ak.close{t:Nat}{c:AL}(h:Ak t c)(code:Nat):Ak t (c.close code).2:=by
 unfold AL.close;split
 ·exact h
 split
 ·exact h
 ·exact {h with closed:=by show 9≤10;omega,code:=by show code≤_;omega}
theorem Ak.GY{t:Nat}{c:AL}(h:Ak t c)(lost:EN→Bool):Ak t (c.GY lost):=by
 obtain⟨a,b,_⟩:=UL (c.BY.filter lost) c.ws h.ws (fun p hp f hf=>(h.A5 p (.inl (yp.1 hp).1)).fr f hf)
 have hl:(c.BY.filter (fun p=> !lost p)).length+(c.BY.filter lost).length=c.BY.length:=by
  clear a b
  induction c.BY with
  |nil=>rfl
  |cons p ps ih=>cases e:lost p<;>simp [e]<;>omega
 refine {h with ws:=a,fl:=by show(c.BY.filter _).length≤10;have:=h.fl;omega,A5:=fun p hp=>?_,cnt:=?_}
 ·have hp':p∈c.BY∨p∈c.lost:=by
   rcases hp with hp|hp
   ·exact SK
   ·rcases xr.1 hp with hp|hp
    ·exact .inr hp
    ·exact SK
  have g:=h.A5 p hp';exact⟨g.num,g.at_,g.len,fun f hf=>(g.fr f hf).same b⟩
 ·show(c.BY.filter _).length+(c.lost++c.BY.filter lost).length≤c.next
  have:=h.cnt
  rw [a_];omega
theorem Ak.tick{t:Nat}{c:AL}(h:Ak t c):Ak (t+1) c.tick:=by
 have h1:Ak (t+1) {c with now:=c.now+1}:=
  {h.mono De with nw:=by have:=h.nw;show c.now+1≤t+1;omega,A5:=fun p hp=>let g:=h.A5 p hp;⟨g.num,Nat.le_succ_of_le g.at_,g.len,g.fr⟩}
 unfold AL.tick;split
 ·exact {h1.GY _ with wt:=by show min (c.waits+1) 8≤8;omega}
 ·exact h1
theorem Ak.HF{t:Nat}{c:AL}(h:Ak t c)(l:List AP)(hl:(rg l 0).hi<c.next):Ak t (c.HF l)∧Gc c.ws (c.HF l).ws∧
  ∀k n,A3 n ((c.HF l).w k).AF.l↔A3 n (c.w k).AF.l∨∃p,(p∈c.lost∨p∈c.BY)∧A8 l p.number=true∧Ic p.Ap k n:=by
 obtain⟨a,b,e⟩:=PB (l:=l) c.lost c.ws h.ws (fun p hp f hf=>(h.A5 p (.inr hp)).fr f hf);obtain⟨a',b',e'⟩:=PB (l:=l) c.BY _ a (fun p hp f hf=>((h.A5 p (.inl hp)).fr f hf).same b);refine⟨{h with ws:=a',fl:=k_ Xw h.fl,A5:=fun p hp=>?_,cnt:=?_,wt:=?_,lg:=?_},b.trans b',fun k n=>?_⟩
 ·have hp':p∈c.BY∨p∈c.lost:=by
   rcases hp with hp|hp
   ·exact SK
   ·exact .inr (yp.1 hp).1
  have g:=h.A5 p hp';exact⟨g.num,g.at_,g.len,fun f hf=>(g.fr f hf).same (b.trans b')⟩
 ·have h1:=yf (fun p:EN=> !A8 l p.number) c.BY;have h2:=yf (fun p:EN=> !A8 l p.number) c.lost
  have:=h.cnt
  show(c.BY.filter _).length+(c.lost.filter _).length≤c.next;omega
 ·show(if _ then 0 else c.waits)≤8;split
  ·omega
  ·exact h.wt
 ·show max c.Bq (rg l 0).hi≤c.next
  have:=h.lg;omega
 ·have:=e' k n
  rw [show((c.HF l).w k)=(c.BY.foldl (Jy l) (c.lost.foldl (Jy l) c.ws)).getD k BD from rfl,this,e k n];constructor
  ·rintro((g|⟨p,hp,g⟩)|⟨p,hp,g⟩)
   ·exact .inl g
   ·exact .inr ⟨p,.inl hp,g⟩
   ·exact .inr ⟨p,.inr hp,g⟩
  ·rintro(g|⟨p,hp|hp,g⟩)
   ·exact .inl (.inl g)
   ·exact .inl (.inr ⟨p,hp,g⟩)
   ·exact .inr ⟨p,hp,g⟩
theorem Ak.Dj{t:Nat}{c:AL}(h:Ak t c)(l:List AP):Ak t (c.Dj l).2:=by
 unfold AL.Dj;split
 ·exact h
 ·exact(h.HF l Cg).1.GY _
theorem Hn.refl(r:Ce):Hn r r:=Ko
theorem Hn.trans{a b c:Ce}(h:Hn a b)(g:Hn b c):Hn a c:=⟨g.read.trans h.read,g.state.trans h.state,fun e=>g.given (h.given e)⟩
theorem Ak.take{t:Nat}{c:AL}(h:Ak t c)(f:AZ)(hf:E1 f)(hb:¬c.busy f):Ak t (c.take f).2∧(∀k,Hn (c.r k) ((c.take f).2.r k))∧(c.take f).2.AG=c.AG:=by
 have hk4:f.stream.toNat<4:=by have:=hf.1;have:=hf.2.1;omega
 have g:=h.rs _ hk4
 have hset:∀r,Hn (c.r f.stream.toNat) r→∀k,Hn (c.r k) ((c.Bs f.stream.toNat r).r k):=by
  intro r hr k;show Hn (c.r k) ((c.rs.set f.stream.toNat r).getD k KQ);rw [Ed];split
  ·rename_i e;rw [←e.1];exact hr
  ·exact .refl _
 unfold AL.take;split
 ·refine⟨h.Dj _,fun k=>?_,?_⟩
  ·unfold AL.Dj;split<;>exact .refl _
  ·unfold AL.Dj;split<;>rfl
 split
 ·split
  ·exact⟨h,fun _=>.refl _,rfl⟩
  ·refine⟨h.Bs ⟨g.co,g.cf,g.cm,g.rh,g.hw,g.pre,(fun h=>by cases h),g.rt,?_,?_,g.st,fun _=>rfl⟩,hset _ ⟨rfl,rfl,fun _=>rfl⟩,rfl⟩
   ·exact hf.2.2.2.1
   ·show(if _ then _ else _)≤_;split
    ·exact g.code
    ·exact hf.2.2.1
 split
 ·rename_i h5
  obtain⟨a,b⟩:=g.data h.w2 f hf h5 (fun hg=>by
   rcases xu ((c.r f.stream.toNat).read+c.AG) (f.offset+f.data.size)with hlt|hge
   ·exact absurd ⟨h5,hg,hlt⟩ hb
   ·exact hge)
  exact⟨h.Bs a,hset _ b,rfl⟩
 split<;>exact⟨h,fun _=>.refl _,rfl⟩
theorem U2{c:AL}(f:AZ):(c.take f).1≤10:=by
 unfold AL.take AL.Dj Ce.data
 repeat' split
 all_goals simp
theorem Ak.Bt{t:Nat}:∀(fs:List AZ) (c:AL),Ak t c→(∀f∈fs,E1 f∧¬c.busy f)→Ak t (c.Bt fs).2
 |[],c,h,_=>h
 |f::fs,c,h,hf=>by
  obtain⟨a,b,e⟩:=h.take f (hf f Cl).1 (hf f Cl).2;rw [AL.Bt];split
  ·exact {a with closed:=U2 f,code:=by have:=U2 (c:=c) f;show(c.take f).1≤_;omega}
  ·refine Ak.Bt fs _ {a with} (fun g hg=>⟨(hf g IP).1,?_⟩);have h2:=(hf g IP).2;rintro⟨k1,k2,k3⟩;refine h2 ⟨k1,?_,?_⟩
   ·have:=(b g.stream.toNat).given
    cases e:(c.r g.stream.toNat).given
    ·rfl
    ·rw [e]at this
     have:=this rfl
     have k2':((c.take f).2.r g.stream.toNat).given=false:=k2;rw [this]at k2';cases k2'
   ·have h4:((c.take f).2.r g.stream.toNat).read+(c.take f).2.AG<g.offset+g.data.size:=k3;rw [(b g.stream.toNat).read,e]at h4;exact h4
theorem yA(xs:List UInt8):∀(fuel a:Nat) (fs:List AZ),xs.length-a≤fuel→Ew xs a=.ok fs→∀f∈fs,Bh f:=by
 intro fuel
 induction fuel with
 |zero=>
  intro a fs hl h;rw [Ew,if_neg Cg]at h;cases h;intro f hf;cases hf
 |succ n ih=>
  intro a fs hl h;rw [Ew]at h;split at h
  ·split at h
   ·rename_i f a' e;split at h
    ·split at h
     ·rename_i l e2;cases h;intro g hg;rcases yv.1 hg with rfl|hg
      ·unfold EJ at e;split at e
       ·split at e
        ·cases e;assumption
        ·cases e
       ·cases e
      ·exact ih a' l Cg e2 g hg
     ·cases h
    ·cases h
   ·cases h
  ·cases h;intro f hf;cases hf
theorem Ks{xs:List UInt8}{fs:List AZ}(h:DZ xs=.ok fs):∀f∈fs,Bh f:=by
 unfold DZ at h;split at h
 ·cases h
 ·exact yA xs _ 0 fs D3 h
theorem Ak.BB{t:Nat}{c:AL}(h:Ak t c)(p:List UInt8)(hn:∀n b,Bj c.ks (BM (!c.first)) p=some (n,b)→n.toNat≤4611686018427387903):Ak t (c.BB p).2:=by
 unfold AL.BB;split
 ·exact h
 split
 ·exact h
 ·rename_i number b e;split
  ·exact h
  split
  ·exact {h with closed:=by show 5≤10;omega,code:=by show 5≤_;omega}
  ·rename_i fs e2;split
   ·exact h
   ·rename_i hb;have hg:=h.AO.add number.toNat number.toNat (by have:=hn number b e;omega) V5;refine Ak.Bt fs _ {h with AO:=hg.1,gm:=hg.2.trans h.gm} (fun f hf=>⟨.of (Ks e2 f hf),fun hbf=>hb ⟨f,hf,hbf⟩⟩)
theorem Ak.read{t:Nat}{c:AL}(h:Ak t c)(k AN:Int):Ak (t+1) (c.read k AN).2:=by
 unfold AL.read;split
 ·exact h.mono De
 ·rename_i h1;obtain⟨h5,h6,h7⟩:=K9 (by simpa using h1:c.stream k=0);have g:=h.rs _ h7
  have g1:GK c.AG t (c.GC k.toNat):=by
   unfold AL.GC;split
   ·rename_i hc;exact⟨g.co,g.cf,g.cm,g.rh,g.hw,g.pre,(fun h=>by rw [hc.1]at h;cases h),g.rt,g.en,g.code,yg _,fun _=>hc.1⟩
   ·exact g
  generalize hr:c.GC k.toNat=r at g1⊢;dsimp only
  have ho:(c.r k.toNat).given=true→r.state≠0:=by
   intro hg h0
   have:r.state=(c.GC k.toNat).state:=by rw [hr]
   unfold AL.GC at this;split at this
   ·simp at this;omega
   ·rename_i hc;exact hc ⟨hg,this▸h0⟩
  have hgr:r.given=(c.r k.toNat).given:=by
   have:r.given=(c.GC k.toNat).given:=by rw [hr]
   rw [this];unfold AL.GC;split<;>rfl
  split
  ·rename_i h0
   have hg:r.given=false:=by
    cases e:r.given
    ·rfl
    ·exact absurd h0 (ho (hgr▸e))
   obtain⟨p1,p2⟩:=Jv g1.co.inc g1.rh g1.co.hi
   have p3:=(HM r.AF.l r.read r.high g1.co.inc g1.rh)
   have hn:AL.Hl r AN≤(AR r.read r.high r.AF.l).1-r.read:=Nat.min_le_left _ _;have hl:=g1.len hg;have hw:=g1.hw;have hrh:=g1.rh;have hrt:=g1.rt;have hw2:=h.w2
   have hbase:GK c.AG (t+1) {r with b:=r.b.drop (AL.Hl r AN),read:=r.read+AL.Hl r AN}:=by
    refine⟨g1.co,g1.cf,g1.cm,by show r.read+AL.Hl r AN≤r.high;omega,by show r.high≤r.read+AL.Hl r AN+c.AG;omega,fun n hnn=>?_,fun _=>?_,by show r.read+AL.Hl r AN≤1024*(t+1);omega,g1.en,g1.code,g1.st,g1.Jg⟩
    ·by_cases hq:n<r.read
     ·exact g1.pre n hq
     ·exact p3.2.1 n Cg (by have:n<r.read+AL.Hl r AN:=hnn;omega)
    ·show(r.b.drop _).length=r.high-(r.read+_);rw [b_];omega
   refine(h.mono De).Bs ?_;split
   ·exact⟨hbase.co,hbase.cf,hbase.cm,hbase.rh,hbase.hw,hbase.pre,hbase.len,hbase.rt,hbase.en,hbase.code,by show 1≤2;omega,(fun h=>by cases h)⟩
   ·exact hbase
  ·exact(h.mono De).Bs (g1.mono De)
theorem ld{xs ys:List UInt8}{a:Nat}(h:xs.drop a=ys)(i:Nat):HT xs (a+i)=(ys.getD i 0).toNat:=by
 subst h;unfold HT;simp only [yw,q']
theorem cD{xs ys:List UInt8}{a:Nat}(h:xs.drop a=ys)(h0:0<ys.length):a+ys.length=xs.length:=by
 subst h;rw [b_]at h0⊢;omega
theorem JM{xs ys r:List UInt8}{a:Nat}(h:xs.drop a=ys++r):xs.drop (a+ys.length)=r:=by
 rw [←m_,h,List.drop_left]
theorem a0(n:Nat):0<(AQ n).length:=by
 unfold AQ
 repeat' split
 all_goals simp
theorem I7{xs r:List UInt8}{a n:Nat}(hn:n≤4611686018427387903)(h:xs.drop a=AQ n++r):B1 xs a=some (n,a+(AQ n).length):=by
 have hb:=ld h;have hl:a+(AQ n++r).length=xs.length:=cD h (by have:=a0 n;rw [a_];omega);rw [a_]at hl;have b0:=hb 0;rw [Nat.add_zero]at b0;unfold AQ at hb b0 hl⊢;split at hl
 ·rename_i h1;rw [if_pos h1]at b0⊢;simp at b0 hl⊢
  have e:HT xs a=n:=by omega
  have es:CW xs a=1:=by unfold CW;rw [e,show n/64=0 by omega]
  unfold B1;rw [es,if_pos ⟨Cg,Cg⟩];simp [Gy,e];omega
 ·rename_i h1;rw [if_neg h1]at b0 hb⊢;split at hl
  ·rename_i h2;rw [if_pos h2]at b0 hb⊢;have b1:=hb 1;simp at b0 b1 hl⊢
   have e:HT xs a=n/256+64:=by omega
   have es:CW xs a=2:=by unfold CW;rw [e,show(n/256+64)/64=1 by omega]
   unfold B1;rw [es,if_pos ⟨Cg,Cg⟩];simp [Gy,e,b1];omega
  ·rename_i h2;rw [if_neg h2]at b0 hb⊢;split at hl
   ·rename_i h3;rw [if_pos h3]at b0 hb⊢;have b1:=hb 1;have b2:=hb 2;have b3:=hb 3;simp at b0 b1 b2 b3 hl⊢
    have e:HT xs a=n/16777216+128:=by omega
    have es:CW xs a=4:=by unfold CW;rw [e,show(n/16777216+128)/64=2 by omega]
    unfold B1;rw [es,if_pos ⟨Cg,Cg⟩];simp [Gy,e,b1,b2,b3];omega
   ·rename_i h3;rw [if_neg h3]at b0 hb⊢;have b1:=hb 1;have b2:=hb 2;have b3:=hb 3;have b4:=hb 4;have b5:=hb 5;have b6:=hb 6;have b7:=hb 7;simp at b0 b1 b2 b3 b4 b5 b6 b7 hl⊢
    have e:HT xs a=n/72057594037927936+192:=by omega
    have es:CW xs a=8:=by unfold CW;rw [e,show(n/72057594037927936+192)/64=3 by omega]
    unfold B1;rw [es,if_pos ⟨Cg,Cg⟩];simp [Gy,e,b1,b2,b3,b4,b5,b6,b7];omega
theorem bG{xs r:List UInt8}{a n:Nat}(hn:n<4)(h:xs.drop a=AQ n++r):GW xs a=some (n,a+(AQ n).length):=by
 unfold GW;rw [I7 Cg h];simp [hn]
theorem ak{xs ds r:List UInt8}{a:Nat}(hn:ds.length≤4611686018427387903)(h:xs.drop a=AQ ds.length++(ds++r)):Gf xs a=some (ds,a+(AQ ds.length).length+ds.length):=by
 unfold Gf;rw [I7 hn h];have h2:=JM h
 have h3:xs.length-(a+(AQ ds.length).length)=(ds++r).length:=by rw [←h2,b_]
 rw [a_]at h3;simp only [];rw [if_pos Cg,h2,g' rfl]
def LO(rs:List AP):Nat→Nat→List UInt8
 |_,0=>[]
 |j,n+1=>AQ ((rg rs j).lo-(rg rs (j+1)).hi-2)++(AQ ((rg rs (j+1)).hi-(rg rs (j+1)).lo)++LO rs (j+1) n)
theorem Yw(rs:List AP):∀n j,Bu rs j++LO rs j n=Bu rs (j+n)
 |0,j=>by simp [LO]
 |n+1,j=>by
  have:=Yw rs n (j+1)
  rw [show j+1+n=j+(n+1) by omega]at this;rw [←this,LO,Bu];simp only [c_]
theorem eY{xs r:List UInt8}{rs:List AP}:∀(n j a:Nat),(∀i,i≤j+n→Em rs i)→xs.drop a=LO rs j n++r→Ee xs n (rg rs j).lo a=some ((zb n).map (fun i=>rg rs (j+1+i)),a+(LO rs j n).length)
 |0,j,a,_,_=>by simp [Ee,LO]
 |n+1,j,a,hok,h=>by
  have h0:=hok j Cg;have h1:=hok (j+1) Cg;unfold Em at h0 h1;rw [Nat.add_sub_cancel]at h1
  have h12:2≤(rg rs j).lo∧(rg rs (j+1)).hi+2≤(rg rs j).lo:=by
   rcases h1.2.2 with h|h
   ·omega
   ·exact h
  rw [LO,c_,c_]at h;have e1:=I7 Cg h;have g1:=JM h;have e2:=I7 Cg g1;have g2:=JM g1;have ih:=eY n (j+1) _ (fun i hi=>hok i Cg) g2
  have el:(rg rs j).lo-2-((rg rs j).lo-(rg rs (j+1)).hi-2)-((rg rs (j+1)).hi-(rg rs (j+1)).lo)=(rg rs (j+1)).lo:=by omega
  have eh:(rg rs j).lo-2-((rg rs j).lo-(rg rs (j+1)).hi-2)=(rg rs (j+1)).hi:=by omega
  rw [Ee,e1];simp only [];rw [e2];simp only [];rw [if_pos Cg,el,ih,eh];simp only [xz.injEq,Prod.mk.injEq];refine⟨?_,by rw [LO,a_,a_];omega⟩;rw [ye,yb,yx];refine yj.2 ⟨rfl,yh fun i _=>?_⟩;simp only [Function.comp];rw [show j+1+1+i=j+1+(i+1) by omega]
theorem f0(rs:List AP):(zb rs.length).map (rg rs)=rs:=by
 apply List.ext_getElem Cl;intro i h1 h2;simp [rg,yw,q_ h2]
theorem t8{xs r:List UInt8}{rs:List AP}{a:Nat}(hok:HY rs)(hl:rs.length≤4611686018427387903)
  (h:xs.drop a=AQ (rg rs 0).hi++AQ (rs.length-1)++AQ ((rg rs 0).hi-(rg rs 0).lo)++Bu rs (rs.length-1)++r):
  CG xs a=some (rs,a+(AQ (rg rs 0).hi++AQ (rs.length-1)++AQ ((rg rs 0).hi-(rg rs 0).lo)++Bu rs (rs.length-1)).length):=by
 have hne:0<rs.length:=p_.2 hok.1;have h0:=hok.2 0 hne;unfold Em at h0;have hf:=Yw rs (rs.length-1) 0;rw [show Bu rs 0=[]from rfl,j',Nat.zero_add]at hf;rw [←hf]at h⊢;rw [c_,c_,c_]at h;have e1:=I7 Cg h;have g1:=JM h;have e2:=I7 Cg g1;have g2:=JM g1;have e3:=I7 Cg g2;have g3:=JM g2;have e4:=eY (rs.length-1) 0 _ (fun i hi=>hok.2 i Cg) g3
 have el:(rg rs 0).hi-((rg rs 0).hi-(rg rs 0).lo)=(rg rs 0).lo:=by omega
 unfold CG;rw [e1];simp only [];rw [e2];simp only [];rw [e3];simp only [];rw [if_pos Cg,el,e4];simp only [xz.injEq,Prod.mk.injEq,a_];refine⟨?_,Cg⟩
 conv=>rhs;rw [←f0 rs,show rs.length=(rs.length-1)+1 by omega]
 rw [ye,yb,yx];refine yj.2 ⟨rfl,yh fun i _=>?_⟩;simp only [Function.comp];rw [show 0+1+i=i+1 by omega]
def EF(f:AZ):AZ:=
 if f.kind=1 then⟨1,0,0,0,false,⟨#[]⟩,[]⟩else if f.kind=2 then⟨2,0,0,0,false,⟨#[]⟩,[]⟩
 else if f.kind=3 then⟨3,0,0,0,false,⟨#[]⟩,f.ranges⟩else if f.kind=4 then⟨4,f.stream,f.offset,f.code,false,⟨#[]⟩,[]⟩
 else if f.kind=5 then⟨5,f.stream,f.offset,0,f.fin,f.data,[]⟩else⟨6,0,0,f.code,false,⟨#[]⟩,[]⟩
theorem VU{f:AZ}(h:Dh f.kind):f.kind=1∨f.kind=2∨f.kind=3∨f.kind=4∨f.kind=5∨f.kind=6:=by unfold Dh at h;omega
theorem ip{f:AZ}(h:Bh f):Aj (EF f)=Aj f:=by
 rcases VU h.2.2.2.2.2 with e|e|e|e|e|e<;>simp [EF,Aj,e]
theorem rL{f:AZ}(h:Bh f):Bh (EF f):=by
 obtain⟨h1,h2,h3,h4,⟨h5,h6⟩,h7⟩:=h;rcases VU h7 with e|e|e|e|e|e
 ·simp [EF,e,Bh,Ib,Dh]
 ·simp [EF,e,Bh,Ib,Dh]
 ·simp [EF,e,Bh,Ib,Dh,h5 e]
 ·simp [EF,e,Bh,Ib,Dh];omega
 ·have:=h6 e
  simp [EF,e,Bh,Ib,Dh];omega
 ·simp [EF,e,Bh,Ib,Dh];omega
theorem pg{xs r:List UInt8}{f:AZ}{a:Nat}(hok:Bh f)(hl:f.ranges.length≤4611686018427387903)(h:xs.drop a=Aj f++r):EJ xs a=some (EF f,a+(Aj f).length):=by
 have hno:=rL hok
 suffices hk:B5 xs (Db (xs.getD a 0)) (decide (xs.getD a 0=9)) (a+1)=some (EF f,a+(Aj f).length) by
  unfold EJ;rw [hk];simp only [];rw [if_pos hno]
 have hd:∀t ys,Aj f=t::ys→xs.getD a 0=t∧xs.drop (a+1)=ys++r:=by
  intro t ys e;rw [e]at h;constructor
  ·have:(xs.drop a).getD 0 0=t:=by rw [h];rfl
   simpa [yw,q']using this
  ·rw [←m_,h];rfl
 obtain⟨h1,h2,h3,h4,⟨h5,h6⟩,h7⟩:=hok;rcases VU h7 with e|e|e|e|e|e
 ·have ee:Aj f=0:: []:=by simp [Aj,e]
  obtain⟨t1,t2⟩:=hd _ _ ee;rw [t1,ee];simp [B5,Db,EF,e]
 ·have ee:Aj f=1:: []:=by simp [Aj,e]
  obtain⟨t1,t2⟩:=hd _ _ ee;rw [t1,ee];simp [B5,Db,EF,e]
 ·have ee:Aj f=2::(AQ (rg f.ranges 0).hi++AQ (f.ranges.length-1)++AQ ((rg f.ranges 0).hi-(rg f.ranges 0).lo)++Bu f.ranges (f.ranges.length-1)):=by simp [Aj,e,KU]
  obtain⟨t1,t2⟩:=hd _ _ ee;have er:=t8 (h5 e) hl t2;rw [t1,ee,f_];simp only [B5,Db,EF,e];simp only [er]
  simp
  omega
 ·have ee:Aj f=4::(AQ f.stream.toNat++AQ f.code++AQ f.offset):=by simp [Aj,e]
  obtain⟨t1,t2⟩:=hd _ _ ee;rw [c_,c_]at t2;have e1:=bG Cg t2;have g1:=JM t2;have e2:=I7 h2 g1;have g2:=JM g1;have e3:=I7 h1 g2;rw [t1,ee,f_,a_,a_];simp only [B5,Db,EF,e];simp only [e1,e2,e3]
  simp
  omega
 ·have hdl:f.data.data.toList.length=f.data.size:=by rw [Array.length_toList];rfl
  have ee:Aj f=(bif f.fin then 9 else 8)::(AQ f.stream.toNat++AQ f.offset++AQ f.data.size++f.data.data.toList):=by simp [Aj,e]
  obtain⟨t1,t2⟩:=hd _ _ ee;rw [c_,c_,c_,←hdl]at t2;have e1:=bG Cg t2;have g1:=JM t2;have e2:=I7 h1 g1;have g2:=JM g1;have h6':=h6 e;have e3:=ak Cg g2
  have hk:Db (bif f.fin then 9 else 8)=5:=by cases f.fin<;>rfl
  have h9:decide ((bif f.fin then(9:UInt8)else 8)=9)=f.fin:=by cases f.fin<;>rfl
  rw [t1,ee,hk,h9,f_,a_,a_,a_];simp only [B5,EF,e];simp only [e1,e2,e3];simp [BI];omega
 ·have ee:Aj f=28::AQ f.code:=by simp [Aj,e]
  obtain⟨t1,t2⟩:=hd _ _ ee;have e1:=I7 h2 t2;rw [t1,ee,f_];simp only [B5,Db,EF,e];simp only [e1]
  simp
  omega
theorem SA(f:AZ):0<(Aj f).length:=by
 unfold Aj
 repeat' split
 all_goals first|simp|(unfold KU;simp)
theorem aK{xs:List UInt8}:∀(fs:List AZ) (a:Nat),(∀f∈fs,Bh f∧f.ranges.length≤4611686018427387903)→xs.drop a=BN fs→Ew xs a=.ok (fs.map EF)
 |[],a,_,h=>by
  have:xs.length≤a:=List.drop_eq_nil_iff.1 h
  exact Uw Cg
 |f::fs,a,hok,h=>by
  have h':xs.drop a=Aj f++BN fs:=h;have h1:=pg (hok f Cl).1 (hok f Cl).2 h';have hp:=SA f;have hl:=cD h' aC;rw [a_]at hl;rw [XV Cg h1,aK fs _ (fun g hg=>hok g IP) (JM h')];rfl
theorem A_{fs:List AZ}{ys:List UInt8}(he:EV fs=some ys)(hl:∀f∈fs,f.ranges.length≤4611686018427387903):DZ ys=.ok (fs.map EF)∧EV (fs.map EF)=some ys∧BN (fs.map EF)=BN fs:=by
 unfold EV at he;split at he
 ·rename_i hc;obtain rfl:=xz.inj he
  have hall:∀f∈fs,Bh f∧f.ranges.length≤4611686018427387903:=fun f hf=>⟨hc.2 f hf,hl f hf⟩
  have hsame:BN (fs.map EF)=BN fs:=by
   unfold BN;rw [List.flatMap_map];clear he hall hl;obtain⟨-,hc⟩:=hc
   induction fs with
   |nil=>rfl
   |cons f fs ih=>simp only [yk];rw [ip (hc f Cl),ih (fun g hg=>hc g IP)]
  have hne:BN fs≠ []:=by
   cases fs with
   |nil=>exact absurd rfl hc.1
   |cons f fs=>
    intro h;have hp:=SA f
    have:(Aj f++BN fs).length=0:=by rw [show Aj f++BN fs=BN (f::fs)from rfl,h];rfl
    rw [a_]at this;omega
  refine⟨?_,?_,hsame⟩
  ·unfold DZ;rw [if_neg hne];exact aK fs 0 hall rfl
  ·unfold EV
   rw [if_pos ⟨by simpa using hc.1,fun g hg=>by
    obtain⟨f,hf,rfl⟩:=List.mem_map.1 hg
    exact rL (hc.2 f hf)⟩,hsame]
 ·cases he
theorem Vu(l m:List AZ):BN (l++m)=BN l++BN m:=by simp [BN]
theorem L3(f:AZ):BN [f]=Aj f:=by simp [BN]
theorem bX(l:List AZ):l.length≤(BN l).length:=by
 induction l with
 |nil=>simp
 |cons f l ih=>have:=SA f;simp only [BN,yk,a_,f_]at*;omega
structure Pg(ws:List Ai)(f:AZ):Prop where
 ok:Bh f
 nm:EF f=f
 fr:Es ws f
 rg:f.ranges.length≤8
structure KY(ws:List Ai)(d:Bn):Prop where
 room:d.room≤284
 len:d.b.length≤d.room
 fr:∀f∈d.Ap,Pg ws f
structure KF(w w':Ai):Prop where
 b:w'.b=w.b
 AF:w'.AF=w.AF
 finished:w'.finished=w.finished
 ended:w'.ended=w.ended
 given:w'.given=w.given
 code:w'.code=w.code
 high:w.high≤w'.high
theorem KF.refl(w:Ai):KF w w:=mK
theorem KF.trans{a b c:Ai}(h:KF a b)(g:KF b c):KF a c:=
 ⟨g.b.trans h.b,g.AF.trans h.AF,g.finished.trans h.finished,g.ended.trans h.ended,g.given.trans h.given,g.code.trans h.code,k_ h.high g.high⟩
def Lv(w w':Ai)(k:Nat)(f:AZ):Prop:=
 (w.given=true∧w.Da=false∧f=Hd k w.code w.high∧w'={w with Da:=true})∨
 (w.given=false∧∃lo hi,lo≤hi∧hi≤w.b.length∧f=B7 k lo (w.finished&&decide (hi=w.b.length)) (cut w.b lo hi)∧(lo<hi∨f.fin=true)∧
  (∀n,lo≤n→n<hi→¬A3 n w.AJ.l)∧(lo=hi→w.ending=false∧w.ended=false)∧
  w'={w with AJ:=if lo<hi then w.AJ.add lo (hi-1)else w.AJ,ending:=w.ending||f.fin,high:=max w.high hi})
theorem OX{b:List UInt8}{lo hi:Nat}(h:hi≤b.length):(cut b lo hi).length=hi-lo:=by unfold cut;simp;omega
theorem rT{AG:Nat}{w w':Ai}{d d':Bn}{k lo hi:Nat}(hlo:lo≤hi)(hhi:hi≤w.b.length)(hg:w.given=false)
  (hs:∀n,lo≤n→n<hi→¬A3 n w.AJ.l)(he:lo=hi→w.finished=true∧hi=w.b.length∧w.ending=false∧w.ended=false)
  (h:w.MP d k lo hi=some (w',d')):∃f,d.add f=some d'∧Lv w w' k f:=by
 unfold Ai.MP at h;dsimp only at h;split at h
 ·cases h
 ·rename_i hc;split at h
  ·cases h
  ·rename_i d2 e;simp only [xz.injEq,Prod.mk.injEq]at h;obtain⟨rfl,rfl⟩:=h;refine⟨_,e,.inr ⟨hg,lo,_,?_,?_,rfl,?_,?_,?_,rfl⟩⟩
   ·omega
   ·omega
   ·by_cases hl:lo<hi
    ·left;omega
    ·right;obtain⟨h1,h2,_⟩:=he Cg
     have:min hi (lo+(d.room-d.b.length-((Aj (B7 k lo false (cut w.b lo hi))).length-(hi-lo))))=w.b.length:=by omega
     show(w.finished&&decide _)=true;rw [h1,this];simp
   ·intro n h1 h2;exact hs n h1 Cg
   ·intro h1;by_cases hl:lo<hi
    ·omega
    ·exact(he Cg).2.2
theorem rI{AG:Nat}{w w':Ai}{d d':Bn}{k:Nat}(hw:EY AG w)(h:w.fill d k=some (w',d')):∃f,d.add f=some d'∧Lv w w' k f:=by
 unfold Ai.fill at h;split at h
 ·rename_i hg;split at h
  ·cases h
  ·rename_i ht;split at h
   ·cases h
   ·rename_i d2 e;simp only [xz.injEq,Prod.mk.injEq]at h;obtain⟨rfl,rfl⟩:=h;exact⟨_,e,.inl ⟨hg,VZ,rfl,rfl⟩⟩
 ·rename_i hg;obtain⟨ga,gb,gc,gd,ge⟩:=HM w.AJ.l 0 w.b.length hw.so.inc C9;split at h
  ·split at h
   ·cases h
   ·rename_i h1 h2;exact rT (AG:=AG) D3 D3 Rl (fun n h3 h4=>by omega) (fun _=>⟨by simp_all,rfl,by simp_all,by simp_all⟩) h
  ·rename_i h1;exact rT (AG:=AG) Cg gc Rl (gd Cg) (fun h=>by omega) h
theorem ll(rs:List AP):EF (Eh rs)=Eh rs:=by rfl
theorem N7(k off:Nat)(fin:Bool)(ds:List UInt8):(B7 k off fin ds).data.size=ds.length:=by simp [B7]
theorem Xo{k off:Nat}{fin:Bool}{ds:List UInt8}(hk:k<4)(h:off+ds.length≤4611686018427387903):Bh (B7 k off fin ds):=by
 refine⟨by show off≤_;omega,d_ _,SO,Sq,⟨(fun h=>by cases h),fun _=>?_⟩,⟨by show(1:Int)≤5;omega,by show(5:Int)≤6;omega⟩⟩;rw [N7];show ds.length+off≤_;omega
theorem lR{k code off:Nat}(hk:k<4)(hc:code≤4611686018427387903)(ho:off≤4611686018427387903):Bh (Hd k code off):=
 ⟨ho,hc,SO,Sq,⟨(fun h=>by cases h),(fun h=>by cases h)⟩,⟨by show(1:Int)≤4;omega,by show(4:Int)≤6;omega⟩⟩
theorem ZK{code:Nat}(hc:code≤4611686018427387903):Bh (CY code):=
 ⟨d_ _,hc,by show(0:Int)≤0;omega,by show(0:Int)<4;omega,⟨(fun h=>by cases h),(fun h=>by cases h)⟩,⟨by show(1:Int)≤6;omega,by show(6:Int)≤6;omega⟩⟩
theorem oJ{rs:List AP}(h:HY rs):Bh (Eh rs):=
 ⟨d_ _,d_ _,by show(0:Int)≤0;omega,by show(0:Int)<4;omega,⟨fun _=>h,(fun h=>by cases h)⟩,⟨by show(1:Int)≤3;omega,by show(3:Int)≤6;omega⟩⟩
theorem Lv.AJ{AG:Nat}{w w':Ai}{k:Nat}{f:AZ}(hw:EY AG w)(h:Lv w w' k f):KF w w'∧EY AG w':=by
 rcases h with⟨h1,h2,rfl,rfl⟩|⟨h1,lo,hi,h2,h3,rfl,h4,h5,h6,rfl⟩
 ·exact⟨mK,⟨hw.len,hw.so,hw.sf,hw.sm,hw.co,hw.cf,hw.cm,hw.room,hw.high,hw.code⟩⟩
 ·refine⟨⟨rfl,rfl,rfl,rfl,rfl,rfl,Nat.le_max_left _ _⟩,?_⟩
  have hs:C2 (if lo<hi then w.AJ.add lo (hi-1)else w.AJ) w.b.length∧(if lo<hi then w.AJ.add lo (hi-1)else w.AJ).floor=0∧(if lo<hi then w.AJ.add lo (hi-1)else w.AJ).AN=4096:=by
   split
   ·obtain⟨a,b,c,_⟩:=Ls (lo:=lo) (hi:=hi-1) hw.so hw.sf hw.sm hw.len Cg;exact⟨a,b,c⟩
   ·exact⟨hw.so,hw.sf,hw.sm⟩
  exact⟨hw.len,hs.1,hs.2.1,hs.2.2,hw.co,hw.cf,hw.cm,hw.room,by have:=hw.high;show max w.high hi≤w.b.length;omega,hw.code⟩
theorem Lv.put{AG:Nat}{ws:List Ai}{w':Ai}{k:Nat}{f:AZ}(hw:Du AG ws)(hk:k<4)(h:Lv (ws.getD k BD) w' k f):Pg ws f∧(f.kind=4∨f.kind=5):=by
 have g:=hw.ok k hk;rcases h with⟨h1,h2,rfl,rfl⟩|⟨h1,lo,hi,h2,h3,rfl,h4,h5,h6,rfl⟩
 ·have hh:=g.high;have hl:=g.len;exact⟨⟨lR hk g.code Cg,rfl,⟨SO,Sq,(fun h=>by cases h)⟩,d_ _⟩,.inl rfl⟩
 ·have hl:=g.len;have hcl:=OX (lo:=lo) h3;refine⟨⟨Xo hk Cg,rfl,⟨SO,Sq,fun _=>?_⟩,d_ _⟩,.inr rfl⟩;rw [N7,hcl];show lo+(hi-lo)≤(ws.getD (k:Int).toNat BD).b.length;rw [Int.toNat_natCast];omega
theorem Pg.AJ{ws:List Ai}{k:Nat}{w':Ai}{f:AZ}(h:Pg ws f)(hs:KF (ws.getD k BD) w'):Pg (ws.set k w') f:=
 ⟨h.ok,h.nm,Es.set (by rw [hs.b];exact yg _) f h.fr,h.rg⟩
theorem iC{d d':Bn}{f:AZ}(h:d.add f=some d'):d'.Ap=d.Ap++[f]∧d'.room=d.room∧d'.b=d.b++Aj f∧d'.b.length≤d.room:=by
 unfold Bn.add at h;split at h
 ·cases h
 ·rename_i hc;cases h;refine⟨rfl,rfl,?_,?_⟩
  ·show BN (d.Ap++[f])=_;rw [Vu,L3];rfl
  ·have:({d with Ap:=d.Ap++[f]}:Bn).b=d.b++Aj f:=by show BN (d.Ap++[f])=_;rw [Vu,L3];rfl
   rw [this];omega
theorem XX{AG:Nat}{ws:List Ai}{w':Ai}{d d':Bn}{k:Nat}(hw:Du AG ws)(hd:KY ws d)(hk:k<4)(h:(ws.getD k BD).fill d k=some (w',d')):
  Du AG (ws.set k w')∧KY (ws.set k w') d'∧d'.room=d.room∧d.b.length<d'.b.length∧KF (ws.getD k BD) w'∧
  ∃f,d'.Ap=d.Ap++[f]∧Lv (ws.getD k BD) w' k f∧(f.kind=4∨f.kind=5):=by
 obtain⟨f,h1,h2⟩:=rI (hw.ok k hk) h;obtain⟨h3,h4⟩:=h2.AJ (hw.ok k hk);obtain⟨h5,h6⟩:=h2.put hw hk;obtain⟨a,b,c,e⟩:=iC h1;refine⟨hw.set h4,⟨by rw [b];exact hd.room,by rw [b];exact e,fun g hg=>?_⟩,b,?_,h3,f,a,h2,h6⟩
 ·rw [a]at hg;rcases xr.1 hg with hg|hg
  ·exact(hd.fr g hg).AJ h3
  ·rw [r_.1 hg];exact h5.AJ h3
 ·rw [c,a_];have:=SA f;omega
theorem Ym{k:Nat}(Φ:Ai→Bn→Prop)(hstep:∀w d w' d',Φ w d→w.fill d k=some (w',d')→Φ w' d'):∀(n:Nat) (w:Ai) (d:Bn),Φ w d→Φ (F9 k n w d).1 (F9 k n w d).2
 |0,w,d,h=>h
 |n+1,w,d,h=>by
  rw [F9];split
  ·exact h
  ·rename_i w2 d2 e;exact Ym Φ hstep n w2 d2 (hstep _ _ _ _ h e)
theorem tH{α:Type}(l:List α)(k:Nat)(x y:α):(l.set k x).set k y=l.set k y:=by simp
theorem Wy(ws:List Ai)(k:Nat):ws.set k (ws.getD k BD)=ws:=by
 apply List.ext_getElem?;intro i;rw [List.getElem?_set];by_cases h:k=i
 ·subst h;by_cases h2:k<ws.length
  ·simp [h2]
  ·simp [h2]
 ·simp [h]
theorem Xx(Φ:List Ai→Bn→Prop)(hl:∀ws d,Φ ws d→ws.length=4)(hstep:∀ws d k w' d',Φ ws d→k<4→(ws.getD k BD).fill d k=some (w',d')→Φ (ws.set k w') d'):
  ∀(n k:Nat) (ws:List Ai) (d:Bn),k+n≤4→Φ ws d→Φ (En d ws k n).1 (En d ws k n).2
 |0,k,ws,d,_,h=>h
 |n+1,k,ws,d,hk,h=>by
  rw [En];refine Xx Φ hl hstep n (k+1) _ _ Cg ?_
  have:=Ym (k:=k) (fun w d=>Φ (ws.set k w) d) (fun w d w' d' h1 h2=>?_) (d.room+1) (ws.getD k BD) d (by rw [Wy];exact h)
  ·exact this
  ·have h3:=hl _ _ h1
   have h4:(ws.set k w).getD k BD=w:=by rw [Ed,if_pos ⟨rfl,by rw [yo]at h3;omega⟩]
   have h5:=hstep (ws.set k w) d k w' d' h1 Cg (by rw [h4];exact h2);rw [tH]at h5;exact h5
structure Told(l:List AP):Prop where
 p:l.Pairwise (fun a b=>b.hi+2≤a.lo)
 r:∀r∈l,r.lo≤r.hi∧r.hi≤4611686018427387903
theorem Told.nil:Told []:=⟨.nil,fun _ h=>nomatch h⟩
theorem Told.take{l:List AP}(h:Told l)(n:Nat):Told (l.take n):=⟨h.p.sublist (List.take_sublist n l),fun r hr=>h.r r (List.mem_of_mem_take hr)⟩
theorem Told.drop{l:List AP}(h:Told l)(n:Nat):Told (l.drop n):=⟨h.p.sublist (List.drop_sublist n l),fun r hr=>h.r r (List.mem_of_mem_drop hr)⟩
theorem Hr{l:List AP}{i:Nat}(h:i<l.length):rg l i=l[i]:=by
 unfold rg;rw [i_,q_ h,Option.getD_some]
theorem Told.HY{l:List AP}(h:Told l)(hne:l≠ []):HY l:=by
 refine⟨hne,fun i hi=>?_⟩;have h1:=h.r (rg l i) (by rw [Hr hi];exact ym hi);refine⟨h1.1,h1.2,?_⟩;by_cases h0:i=0
 ·exact .inl h0
 ·right;have h2:=List.pairwise_iff_getElem.1 h.p (i-1) i Cg hi Cg;rw [Hr hi,Hr (show i-1<l.length by omega)];exact⟨Cg,h2⟩
theorem fG:∀(l:List AP),DQ l→l.Pairwise (fun a b=>a.hi+2≤b.lo)
 |[],_=>.nil
 |r::l,h=>List.Pairwise.cons (fun s hs=>by have:=h.2.1 s hs;omega) (fG l h.2.2)
theorem YT:∀(l:List AP),DQ l→∀r∈l,r.lo≤r.hi
 |[],_,r,hr=>nomatch hr
 |s::l,h,r,hr=>by
  rcases yv.1 hr with rfl|hr
  ·exact h.1
  ·exact YT l h.2.2 r hr
theorem Told.of{s:BH}(h:C2 s 4611686018427387904):Told s.l.reverse:=
 ⟨List.pairwise_reverse.2 (fG _ h.inc),fun r hr=>by
  have hr':=List.mem_reverse.1 hr
  have:=h.hi r hr'
  exact⟨YT _ h.inc r hr',Cg⟩⟩
theorem Tm(told:List AP)(room:Nat):∀n,0<n→0<E2 told room n
 |0,h=>h
 |1,_=>Nat.one_pos
 |n+2,_=>by
  rw [E2];split
  ·exact Tm told room (n+1) Cg
  ·omega
theorem aI(told:List AP)(room:Nat):∀n,E2 told room n≤1∨(Aj (Eh (told.take (E2 told room n)))).length≤room
 |0=>.inl C9
 |1=>.inl D3
 |n+2=>by
  rw [E2];split
  ·exact aI told room (n+1)
  ·rename_i h;right;omega
theorem js(r:AP):(Aj (Eh [r])).length≤26:=by
 have v1:=B8 r.hi;have v2:=B8 0;have v3:=B8 (r.hi-r.lo)
 have:Aj (Eh [r])=[2]++AQ r.hi++AQ 0++AQ (r.hi-r.lo)++[]:=by rfl
 rw [this];simp only [a_,f_,yq];omega
theorem uw{l:List AP}(h:0<l.length):∃r,l.take 1=[r]:=by
 cases l with
 |nil=>cases h
 |cons r l=>exact⟨r,rfl⟩
theorem eL{c:AL}{t:Nat}(h:Ak t c){told:List AP}(hne:told≠ []):(Aj (Eh (told.take (E2 told (c.AY-16) told.length)))).length≤c.AY-16:=by
 have hl:0<told.length:=p_.2 hne;rcases aI told (c.AY-16) told.length with h1|h1
 ·have h2:=Tm told (c.AY-16) told.length hl
  have h3:E2 told (c.AY-16) told.length=1:=by omega
  rw [h3];obtain⟨r,e⟩:=uw hl;rw [e]
  have:=js r
  have:=h.m1
  omega
 ·exact h1
theorem Vc{c:AL}{t:Nat}(h:Ak t c){told:List AP}(ht:Told told)(hl:told.length≤8):KY c.ws (c.El told):=by
 have hm2:=h.m2;refine⟨by show c.AY-16≤284;omega,?_,?_⟩
 ·show(BN _).length≤c.AY-16;unfold AL.El;dsimp only;split
  ·exact Nn
  ·rename_i hne;rw [L3];exact eL h hne
 ·intro f hf;unfold AL.El at hf;dsimp only at hf;split at hf
  ·cases hf
  ·rename_i hne;rw [r_.1 hf];have h1:0<told.length:=p_.2 hne;have h2:=Tm told (c.AY-16) told.length h1;refine⟨oJ ((ht.take _).HY ?_),ll _,⟨by show(0:Int)≤0;decide,by show(0:Int)<4;decide,(fun h=>by cases h)⟩,?_⟩
   ·intro h3;have h4:=congrArg y' h3;rw [e_,yq]at h4;omega
   ·show(told.take _).length≤8;rw [e_];omega
structure Kg(AG:Nat)(ws0:List Ai)(d0:Bn)(ws:List Ai)(d:Bn):Prop where
 Oe:Du AG ws
 KI:KY ws d
 room:d.room=d0.room
 AJ:∀k,KF (ws0.getD k BD) (ws.getD k BD)
 Ap:∃l,d.Ap=d0.Ap++l∧∀f∈l,f.kind=4∨f.kind=5
theorem Kg.refl{AG:Nat}{ws:List Ai}{d:Bn}(hw:Du AG ws)(hd:KY ws d):Kg AG ws d ws d:=
 ⟨hw,hd,rfl,fun k=>.refl _,[],(List.append_nil _).symm,fun _ h=>nomatch h⟩
theorem Kg.step{AG:Nat}{ws0:List Ai}{d0:Bn}{ws:List Ai}{d:Bn}(h:Kg AG ws0 d0 ws d){k:Nat}{w':Ai}{d':Bn}(hk:k<4)
  (e:(ws.getD k BD).fill d k=some (w',d')):Kg AG ws0 d0 (ws.set k w') d'∧d.b.length<d'.b.length:=by
 obtain⟨h1,h2,h3,h4,h5,f,h6,h7,h8⟩:=XX h.Oe h.KI hk e;refine⟨⟨h1,h2,h3.trans h.room,fun j=>?_,?_⟩,h4⟩
 ·rw [Ed];split
  ·rename_i e2;exact(h.AJ j).trans (by rw [←e2.1];exact h5)
  ·exact h.AJ j
 ·obtain⟨l,e1,e2⟩:=h.Ap;refine⟨l++[f],by rw [h6,e1,c_],fun g hg=>?_⟩;rcases xr.1 hg with hg|hg
  ·exact e2 g hg
  ·rw [r_.1 hg];exact h8
theorem de{AG:Nat}{ws:List Ai}{d:Bn}(hw:Du AG ws)(hd:KY ws d):Kg AG ws d (En d ws 0 4).1 (En d ws 0 4).2:=
 Xx (Kg AG ws d) (fun ws' d' h=>h.Oe.len) (fun ws' d' k w' d2 h hk e=>(h.step hk e).1) 4 0 ws d D3 (.refl hw hd)
def Be.mu(z:Be):Nat:=z.told.length+(10-z.c.BY.length)
structure Dz(t:Nat)(z:Be):Prop where
 c:Ak t z.c
 told:Told z.told
 tl:z.told.length≤8
 nx:z.c.next+z.mu≤20*t
theorem Dz.filled{t:Nat}{z:Be}(h:Dz t z):Kg z.c.AG z.c.ws (z.c.El z.told) z.filled.1 z.filled.2:=by
 unfold Be.filled;split
 ·exact de h.c.ws (Vc h.c h.told h.tl)
 ·exact .refl h.c.ws (Vc h.c h.told h.tl)
theorem Dz.stop{t:Nat}{z:Be}(h:Dz t z):Ak t {z.c with ws:=z.filled.1}:=by
 have hf:=h.filled
 exact h.c.Zo hf.Oe fun f hfr=>⟨hfr.1,hfr.2.1,fun hk=>by
  have:=hfr.2.2 hk
  rw [(hf.AJ f.stream.toNat).b];exact this⟩
theorem eP(c:AL):(c.El []).Ap=[]:=rfl
theorem gC(c:AL){told:List AP}(h:told≠ []):(c.El told).Ap=[Eh (told.take (E2 told (c.AY-16) told.length))]:=by
 unfold AL.El;rw [if_neg h]
theorem zL(c:AL)(told:List AP):D2 (c.El told).Ap=false:=by
 unfold AL.El;dsimp only;split
 ·rfl
 ·rfl
theorem Dz.ZI{t:Nat}{z:Be}(h:Dz t z)(hw:D2 z.filled.2.Ap=true):z.c.BY.length<10:=by
 by_cases hc:z.c.BY.length<10
 ·exact hc
 ·exfalso
  have:z.filled=(z.c.ws,z.c.El z.told):=by unfold Be.filled;rw [if_neg hc]
  rw [this,zL]at hw;cases hw
theorem zM(l:List AZ):l.length≤(BN l).length:=bX l
theorem Dz.step{t:Nat}{z:Be}(h:Dz t z)(hne:z.filled.2.Ap≠ []):Dz t z.step∧z.step.mu<z.mu:=by
 have hf:=h.filled;have hs:=h.stop;have hc:=h.c
 have hmu:z.step.mu+1≤z.mu:=by
  have htl:z.step.told.length+(if z.told=[]then 0 else 1)≤z.told.length:=by
   show(z.told.drop _).length+_≤_;rw [b_];split
   ·omega
   ·rename_i h1;have h2:=p_.2 h1;have h3:=Tm z.told (z.c.AY-16) z.told.length h2;omega
  unfold Be.mu;by_cases hw:D2 z.filled.2.Ap=true
  ·have h10:=h.ZI hw
   have hfl:z.step.c.BY.length=z.c.BY.length+1:=by
    show(if D2 z.filled.2.Ap=true then _ else _:List EN).length=_;rw [if_pos hw,a_];rfl
   rw [hfl];omega
  ·have hfl:z.step.c.BY.length=z.c.BY.length:=by
    show(if D2 z.filled.2.Ap=true then _ else _:List EN).length=_;rw [if_neg hw]
   have htn:z.told≠ []:=by
    intro h0;obtain⟨l,e1,e2⟩:=hf.Ap;rw [h0,eP,j']at e1
    cases hl:l with
    |nil=>rw [hl]at e1;exact hne e1
    |cons f l'=>
     apply hw;rw [e1,hl]
     have:=e2 f (by rw [hl];simp)
     simp only [D2,List.any_cons,Bool.or_eq_true,decide_eq_true_eq]
     left;rcases this with h|h<;>rw [h]<;>decide
   rw [if_neg htn]at htl;rw [hfl];omega
 have hnx:=h.nx
 have hlen:z.filled.2.Ap.length≤284:=by
  have h1:=zM z.filled.2.Ap;have h2:=hf.KI.len;have h3:=hf.KI.room;have h4:z.filled.2.b.length=(BN z.filled.2.Ap).length:=rfl;omega
 refine⟨⟨?_,h.told.drop _,?_,?_⟩,hmu⟩
 ·by_cases hw:D2 z.filled.2.Ap=true
  ·have h10:=h.ZI hw
   have e:z.step.c={z.c with ws:=z.filled.1,next:=z.c.next+1,BY:=z.c.BY++[⟨z.c.next,z.c.now,z.filled.2.Ap⟩]}:=by
    refine gQ ?_;rw [if_pos hw]
   rw [e];refine {hs with fl:=?_,A5:=?_,cnt:=?_,nx:=?_,lg:=?_}
   ·show(z.c.BY++[_]).length≤10;rw [a_];simp only [t_];omega
   ·intro p hp;show XR (z.c.next+1) z.c.now z.filled.1 p
    have old:∀p,p∈z.c.BY∨p∈z.c.lost→XR (z.c.next+1) z.c.now z.filled.1 p:=fun p hp=>
     let g:=hs.A5 p hp
     ⟨x_ g.num,g.at_,g.len,g.fr⟩
    rcases hp with hp|hp
    ·rcases xr.1 hp with hp|hp
     ·exact old p (.inl hp)
     ·rw [r_.1 hp];exact⟨Nat.lt_succ_self _,yg _,by show z.filled.2.Ap.length≤300;omega,fun f hfr=>(hf.KI.fr f hfr).fr⟩
    ·exact old p (.inr hp)
   ·show(z.c.BY++[_]).length+z.c.lost.length≤z.c.next+1
    have:=hc.cnt
    rw [a_];simp only [t_];omega
   ·show z.c.next+1≤20*t;omega
   ·show z.c.Bq≤z.c.next+1
    have:=hc.lg;omega
  ·have e:z.step.c={z.c with ws:=z.filled.1,next:=z.c.next+1}:=by
    refine gQ ?_;rw [if_neg hw]
   rw [e];refine {hs with A5:=?_,cnt:=?_,nx:=?_,lg:=?_}
   ·intro p hp;have g:=hs.A5 p hp;exact⟨x_ g.num,g.at_,g.len,g.fr⟩
   ·show z.c.BY.length+z.c.lost.length≤z.c.next+1
    have:=hc.cnt;omega
   ·show z.c.next+1≤20*t;omega
   ·show z.c.Bq≤z.c.next+1
    have:=hc.lg;omega
 ·show(z.told.drop _).length≤8
  have:=h.tl
  rw [b_];omega
 ·show z.c.next+1+z.step.mu≤20*t;omega
theorem aR{t:Nat}:∀(n:Nat) (z:Be),Dz t z→z.mu<n→DW n z=DW (n+1) z
 |0,z,_,h=>absurd h (w_ _)
 |n+1,z,h,hn=>by
  rw [DW]
  conv=>rhs;rw [DW]
  split
  ·rfl
  ·rename_i hne;obtain⟨h1,h2⟩:=h.step hne;exact aR n _ h1 Cg
theorem xG{t:Nat}{z:Be}(h:Dz t z)(hne:z.filled.2.Ap≠ []):DW 40 z=DW 40 z.step:=by
 obtain⟨h1,h2⟩:=h.step hne
 have hmu:z.mu≤18:=by have:=h.tl;unfold Be.mu;omega
 rw [DW,if_neg hne];exact aR 39 _ h1 Cg
theorem uj{z:Be}(e:z.filled.2.Ap=[]):DW 40 z={z with c:={z.c with ws:=z.filled.1}}:=by
 rw [DW,if_pos e]
theorem cE{t:Nat}:∀(n:Nat) (z:Be),Dz t z→Ak t (DW n z).c
 |0,z,h=>h.c
 |n+1,z,h=>by
  rw [DW];split
  ·exact h.stop
  ·rename_i hne;exact cE n _ (h.step hne).1
theorem Dz.begin{t:Nat}{c:AL}(h:Ak t c):Dz (t+1) ⟨{c with answer:=false},if c.answer then c.AO.l.reverse else [],[]⟩:=by
 have hn:=h.nx
 have hgl:c.AO.l.length≤8:=by have:=h.AO.len;rw [h.gm]at this;exact this
 have hm:=h.mono De;refine⟨{hm with},?_,?_,?_⟩
 ·show Told (if c.answer=true then c.AO.l.reverse else []);split
  ·exact Told.of h.AO
  ·exact Told.nil
 ·show(if c.answer=true then c.AO.l.reverse else []).length≤8;split
  ·rw [yi];exact hgl
  ·exact Nn
 ·show c.next+((if c.answer=true then c.AO.l.reverse else []).length+(10-c.BY.length))≤20*(t+1)
  have:(if c.answer=true then c.AO.l.reverse else []).length≤8:=by
   split
   ·rw [yi];exact hgl
   ·exact Nn
  omega
theorem Ak.CT{t:Nat}{c:AL}(h:Ak t c):Ak (t+1) c.CT.2:=by
 have hm:=h.mono De;have hn:=h.nx;unfold AL.CT;split
 ·exact hm
 ·refine {hm with A5:=?_,cnt:=?_,nx:=?_,lg:=?_}
  ·intro p hp;have g:=hm.A5 p hp;exact⟨x_ g.num,g.at_,g.len,g.fr⟩
  ·show c.BY.length+c.lost.length≤c.next+1
   have:=h.cnt;omega
  ·show c.next+1≤20*(t+1);omega
  ·show c.Bq≤c.next+1
   have:=h.lg;omega
theorem Ak.BE{t:Nat}{c:AL}(h:Ak t c):Ak (t+1) c.BE.2:=by
 unfold AL.BE;split
 ·exact h.CT
 ·exact cE 40 _ (Dz.begin h)
theorem cM{k AG:Nat}(hk:k<4):∀(n:Nat) (ws:List Ai) (w:Ai) (d:Bn),Du AG ws→ws.getD k BD=w→KY ws d→d.room-d.b.length<n→F9 k n w d=F9 k (n+1) w d
 |0,ws,w,d,_,_,_,h=>absurd h (w_ _)
 |n+1,ws,w,d,hw,he,hd,hn=>by
  rw [F9]
  conv=>rhs;rw [F9]
  cases e:w.fill d k with
  |none=>rfl
  |some z=>
   obtain⟨w2,d2⟩:=z;dsimp only;rw [←he]at e;obtain⟨h1,h2,h3,h4,_⟩:=XX hw hd hk e;have h5:=h2.len;refine cM hk n (ws.set k w2) w2 d2 h1 ?_ h2 fB;rw [Ed,if_pos ⟨rfl,Th⟩]
theorem gg{k AG:Nat}(hk:k<4){ws:List Ai}{d:Bn}{w2:Ai}{d2:Bn}(hw:Du AG ws)(hd:KY ws d)(e:(ws.getD k BD).fill d k=some (w2,d2)):
  F9 k (d.room+1) (ws.getD k BD) d=F9 k (d2.room+1) w2 d2:=by
 obtain⟨h1,h2,h3,h4,_⟩:=XX hw hd hk e;rw [F9,e];dsimp only;have h5:=h2.len;rw [h3];exact cM hk d.room (ws.set k w2) w2 d2 h1 (by rw [Ed,if_pos ⟨rfl,Th⟩]) h2 fB
theorem d7{k:Nat}{w:Ai}{d:Bn}{n:Nat}(e:w.fill d k=none):F9 k n w d=(w,d):=by
 cases n with
 |zero=>rfl
 |succ n=>rw [F9,e]
section
variable{B:World}
abbrev DC(f:Nat)(us:List Value):Value:=.func (.func f) #[] us.toArray
structure B9 where
 p:Option Addr
 b:Nat
 o:Nat
 c:Nat
 s:List Value
def AH(q:Nat)(a:B9)(z:BH):HP:=HP.AA q 0 [.slice a.p z.l.length a.c,uN z.floor,iN z.AN]*AD a.b a.o z.l a.s
def B9.ok(a:B9)(z:BH):Prop:=Sl a.p a.b a.o z.l.length a.c∧z.l.length*2+a.s.length=a.c*2
class Fd(B:World)(H:HP)(q:Nat)(a:outParam B9)(z:outParam BH):Prop where
 l:Rd B H q 0 (.slice a.p z.l.length a.c) True
 f:Rd B H q (0+1) (uN z.floor) True
 r:AW B H a.b a.o z.l
instance(q:Nat)(a:B9)(z:BH):Fd B (AH q a z) q a z:=by
 unfold AH;exact⟨inferInstance,inferInstance,inferInstance⟩
instance(q:Nat)(a:B9)(z:BH)(A C:HP)[h:Fd B A q a z]:Fd B (A*C) q a z:=let _:=h.l;let _:=h.f;let _:=h.r;⟨inferInstance,inferInstance,inferInstance⟩
instance(q:Nat)(a:B9)(z:BH)(A C:HP)[h:Fd B C q a z]:Fd B (A*C) q a z:=let _:=h.l;let _:=h.f;let _:=h.r;⟨inferInstance,inferInstance,inferInstance⟩
theorem IQ{l:List AP}{P:AP→Prop}(h:∀r∈l,P r)(i:Nat)(hi:i<l.length):P (rg l i):=by
 unfold rg;rw [i_,q_ hi];exact h _ (ym hi)
theorem W0(n:Nat)(f:FuncId)(us:List Value)(p:Nat→Prop)[DecidablePred p](H:HP)[AX Tryz.prog f](hn:n<4611686018427387904)(hmono:∀i j,i≤j→j<n→p i→p j)
  (hf:∀i,i<n→Fn Tryz.prog B f (iN i::us) H (fun v H'=>v=.bool (decide (p i))∧H'=H)):
  Fn Tryz.prog B 173 [iN n,DC f us] H (fun v H'=>∃k,v=iN k∧k≤n∧(∀i,i<k→¬p i)∧(∀i,k≤i→i<n→p i)∧H'=H):=by
 refine mI Tryz.func173 ?_;refine LH ?_;refine FC ?_;refine J5 ?_
 refine BL (α:=Nat×Nat) (fun z=>[(0,iN n),(1,DC f us),(5,iN z.1),(6,iN z.2)]) (fun _=>H) (fun z=>z.1≤z.2∧z.2≤n∧(∀i,i<z.1→¬p i)∧(∀i,z.2≤i→i<n→p i)) (fun z=>z.2-z.1) (0,n) ⟨d_ _,yg _,(fun i h=>absurd h (w_ i)),(fun i h1 h2=>by omega)⟩ B4 rfl ?_
 rintro⟨i,j⟩ ⟨h1,h2,h3,h4⟩;refine J8 ?_;refine mC (fun hc=>?_) (fun hc=>?_)
 ·refine J8 ?_;refine JL EM ?_;refine JL (LA (j:=1) rfl rfl Cg) ?_;refine JL I2 ?_;refine J7 ?_;refine AV (Iz rfl rfl (hf _ Cg)) rfl ?_;refine G6 ?_;refine mC (fun h5=>?_) (fun h5=>?_)
  ·refine J2 ?_;refine Ki ?_;refine J3 ?_
   first
    |exact At ((i+j)/2^1+1,j) ⟨Za,h2,fun k hk hp=>h5 (hmono k _ (by have:k<(i+j)/2^1+1:=hk;omega) Cg hp),h4⟩ dU B4 rfl
    |exact At (i,(i+j)/2^1) ⟨lV,sK,h3,fun k hk1 hk2=>hmono _ k hk1 hk2 (by simpa using h5)⟩ jI B4 rfl
  refine J5 ?_
  first
   |exact At ((i+j)/2^1+1,j) ⟨Za,h2,fun k hk hp=>h5 (hmono k _ (by have:k<(i+j)/2^1+1:=hk;omega) Cg hp),h4⟩ dU B4 rfl
   |exact At (i,(i+j)/2^1) ⟨lV,sK,h3,fun k hk1 hk2=>hmono _ k hk1 hk2 (by simpa using h5)⟩ jI B4 rfl
 refine CR ?_;exact mr [4] rfl rfl ⟨i,rfl,Cg,h3,(fun k hk1 hk2=>h4 k Cg hk2),rfl⟩
theorem uY(bs bn q n i:Nat)(a:B9)(z:BH)(H:HP)[h1:Rd B H bs 0 (ptr q 0) True][h2:Rd B H bn 0 (uN n) True][hz:Fd B H q a z](hs:a.ok z)(hi:i<z.l.length):
  Fn Tryz.prog B 174 [iN i,ptr bs 0,ptr bn 0] H (fun v H'=>v=.bool (decide (n≤(rg z.l i).hi))∧H'=H):=by
 have:=hz.l
 have:=hz.r
 have hsl:=hs.1;refine mI Tryz.func174 ?_;refine J6 ?_;refine mA 11 11 ?_;refine qR ?_;refine Ja 10 ?_;refine C3 ?_;exact Ol
theorem l8(bs bn q n i:Nat)(a:B9)(z:BH)(H:HP)[h1:Rd B H bs 0 (ptr q 0) True][h2:Rd B H bn 0 (uN n) True][hz:Fd B H q a z](hs:a.ok z)(hi:i<z.l.length)(hn:n<4611686018427387904):
  Fn Tryz.prog B 179 [iN i,ptr bs 0,ptr bn 0] H (fun v H'=>v=.bool (decide (n≤(rg z.l i).hi+1))∧H'=H):=by
 have:=hz.l
 have:=hz.r
 have hsl:=hs.1;refine mI Tryz.func179 ?_;refine J6 ?_;refine mA 24 24 ?_;refine qR ?_;refine Jm 10 ?_;refine DM 15 rfl (fun hg1=>?_) (fun hg1=>?_)
 ·refine iA ?_;refine JN 15 rfl T1 ?_;refine JN 16 rfl T1 ?_;refine JN 17 rfl T1 ?_;refine JN 18 rfl T1 ?_;refine JN 19 rfl T1 ?_;refine JN 20 rfl T1 ?_;refine JN 21 rfl T1 ?_;refine JT 22 rfl LC ?_;refine Ja 23 ?_;refine C3 ?_;exact Qu
 refine JY 11 rfl F1 Bb ?_;refine JY 12 rfl F1 Bb ?_;refine JY 13 rfl F1 CP ?_;refine JY 14 rfl F1 A7 ?_;refine JY 15 rfl F1 Bb ?_;refine JY 16 rfl F1 A4 ?_;refine JY 17 rfl F1 LV ?_;refine JY 18 rfl F1 A7 ?_;refine JY 19 rfl F1 Ze ?_;refine JY 20 rfl F1 Ez ?_;refine JY 21 rfl F1 (CV (j:=1) rfl rfl) ?_;refine JT 22 rfl Jl ?_;refine Ja 23 ?_;refine C3 ?_;exact Qu
theorem rx(bs bn q n i:Nat)(a:B9)(z:BH)(H:HP)[h1:Rd B H bs 0 (ptr q 0) True][h2:Rd B H bn 0 (uN n) True][hz:Fd B H q a z](hs:a.ok z)(hi:i<z.l.length)(hl:(rg z.l i).lo<4611686018427387904):
  Fn Tryz.prog B 180 [iN i,ptr bs 0,ptr bn 0] H (fun v H'=>v=.bool (decide (n+1<(rg z.l i).lo))∧H'=H):=by
 have:=hz.l
 have:=hz.r
 have hsl:=hs.1;refine mI Tryz.func180 ?_;refine J6 ?_;refine mA 24 24 ?_;refine Mo ?_;refine HD ?_;refine JT 5 rfl LV ?_;refine Hk ?_;refine JT 7 rfl Xy ?_;refine Jd 8 ?_;refine JT 9 rfl HU ?_;refine Jm 10 ?_;refine DM 15 rfl (fun hg1=>?_) (fun hg1=>?_)
 ·refine JY 11 rfl T1 Bb ?_;refine JY 12 rfl T1 CP ?_;refine JY 13 rfl T1 A7 ?_;refine JY 14 rfl T1 Bb ?_;refine JY 15 rfl T1 A4 ?_;refine JY 16 rfl T1 LV ?_;refine JY 17 rfl T1 A7 ?_;refine JY 18 rfl T1 Xy ?_;refine JY 19 rfl T1 Bb ?_;refine JY 20 rfl T1 Ez ?_;refine JY 21 rfl T1 SE ?_;refine JT 22 rfl LC ?_;refine Ja 23 ?_;refine C3 ?_;exact Qu
 refine JN 11 rfl F1 ?_;refine JN 12 rfl F1 ?_;refine JN 13 rfl F1 ?_;refine JN 14 rfl F1 ?_;refine JN 15 rfl F1 ?_;refine JN 16 rfl F1 ?_;refine JN 17 rfl F1 ?_;refine JN 18 rfl F1 ?_;refine JN 19 rfl F1 ?_;refine JN 20 rfl F1 ?_;refine JN 21 rfl F1 ?_;refine JT 22 rfl Jl ?_;refine Ja 23 ?_;refine C3 ?_;exact Qu
end
section
theorem Sat.zA{B:World}{b o:Nat}{l:List Value}{R:HP}{w:World}(hl:l≠ [])(h:Sat B (HP.AA b o l*R) w):b<w.heap.size:=by
 obtain⟨_,r,hr,hlies⟩:=h.left;obtain rfl:r=_:=hr
 cases l with
 |nil=>exact absurd rfl hl
 |cons v vs=>
  have h2:=hlies.cell b o v Cl;rcases xu b w.heap.size with h3|h3
  ·exact h3
  ·simp [World.cell?,Array.getElem?_eq_none h3]at h2
theorem Sat.wK{B:World}{b o:Nat}{l:List Value}{R:HP}{w:World}(hl:l≠ [])(h:Sat B (HP.AA b o l*R) w):∃t k,w.shape? b=some (t,k)∧k≠0:=by
 obtain⟨_,r,hr,hlies⟩:=h.left;obtain rfl:r=_:=hr
 cases l with
 |nil=>exact absurd rfl hl
 |cons v vs=>
  have h2:=hlies.cell b o v Cl;unfold World.cell? at h2;unfold World.shape?;split at h2
  ·rename_i c t f e;simp only []at e;rw [e];refine⟨t,c.size,rfl,?_⟩;intro h0
   have:c= #[]:=by simpa using h0
   subst this;simp at h2
  ·cases h2
section
variable{P:Program}{B:World}{n:Nat}{E:A6}{D:CK}{H R:HP}{d:Option Tmp}{T T' ty:TypeId}{pos:String}{af:Array Edge}{g:Option (Nat×Bool)}{x y z:Operand}
theorem tQ{len sz e:Nat}{ps:List (Nat×Operand)}{vs:List (Nat×Value)}{zv:Value}{cs:List Value}[hT:Ar P T (.slice e)][hz:Bw P e sz][h0:BZ P e zv]
  (hx:LL E ps=some vs)(hf:Instr.fill (fun i=>some (i*sz,sz)) ((Array.range (len*sz)).map fun i=>zv.cells[i%zv.cells.size]!) vs=some cs.toArray)(hb:Nat.ble (len*sz) 16777216=true)(hp:Nat.blt 0 (len*sz)=true):
  C7 P B n ⟨d,.buildSlice T len ps.toArray,ty,pos,af,g⟩ E D H (fun v H'=>∃b,v=.slice (some ⟨b,0,none⟩) len len∧(∀b2 o2 l2 R2,l2≠ []→H=HP.AA b2 o2 l2*R2→b≠b2)∧H'=HP.fresh b*(HP.AA b 0 cs*H)):=by
 intro a w h1 _ h3 K Q hk
 have hb':¬len*sz> 2^24:=by have:=Nat.le_of_ble_eq_true hb;omega
 have hp':¬len*sz=0:=by
  have:0<len*sz:=by simpa using hp
  omega
 have hm:(ps.toArray.map fun(i,x)=>(i,a.eval x)).toList=vs:=by
  rw [yc];exact Vy h1 hx
 have hrun:(execOp a.eval ⟨d,.buildSlice T len ps.toArray,ty,pos,af,g⟩).run P w=.ok (.value (.slice (some ⟨w.heap.size,0,none⟩) len len)) (w.alloc (.cells cs.toArray e)):=by
  simp only [execOp,Instr.buildSlice,Sem.run_bind,Bx hT.get,Result.andThen_ok,hz.get,hb',if_false,hp',h0.get,Sem.run_pure,hm,hf,newRow];rfl
 simp only [Oper.wp,hrun,Oper.upon];refine hk _ _ _ ⟨w.heap.size,rfl,?_,rfl⟩ (h3.i9 cs.toArray e);intro b2 o2 l2 R2 hl he;subst he
 have:=h3.zA hl
 omega
theorem dt{b b2 o2:Nat}{la ca lb cb:Nat}{l2:List Value}{R2:HP}{tS tR e sz:Nat}(hT:P.underlying tS=some (.slice e))(hz:∀w,(Go.sizeOf e).run P w=.ok sz w)(hne:b≠b2)(hl:l2≠ [])
  (h:H=HP.fresh b*(HP.AA b2 o2 l2*R2)){oo:Nat}(w:World)(hw:Sat B H w):
  (Extern.SlicesOverlaps.overlaps #[tS,tS] #[tR] #[.slice (some ⟨b,0,none⟩) la ca,.slice (some ⟨b2,oo,none⟩) lb cb]).run P w=.ok (.bool false) w:=by
 subst h;obtain⟨c,t,lo,hb⟩:=hw.fresh;obtain⟨t2,k2,hs2,hk2⟩:=hw.right.wK hl;refine Lib.run_overlaps_apart w tS tR e hT sz hz ⟨b,0,none⟩ ⟨b2,oo,none⟩ la ca lb cb hne t t2 c.size k2 ?_ hs2 hk2 ?_ ?_
 ·simp [World.shape?,hb]
 ·simp [World.frozen?,hb]
 ·simp [World.frozen?,hb]
end
section
variable{P:Program}{B:World}{n:Nat}{E:A6}{D:CK}{R:HP}{α:Type}[AB α]
theorem M? {d:Option Tmp}{sT xT ty e by_ m:Nat}{pos:String}{af:Array Edge}{g:Option (Nat×Bool)}{x y:Operand}{b o c:Nat}{p:Option Addr}
  {xs:List α}{s:List Value}{z:Value}[hT:Ar P sT (.slice e)][hT2:Ar P xT (.int .i64)][hz:Bw P e (AB.sz α)][hi:FH P e by_][h0:BZ P e z]
  (hx:ev E x=some (.slice p xs.length c))(hs:Sl p b o xs.length c)
  (hy:ev E y=some (.int .i64 m))(hzc:z.cells.size=AB.sz α)(hzp:0<AB.sz α)
  (hb:(xs.length+m)*by_≤140737488355328)(hby:0<by_)(hm:0<m)(hgr:c<xs.length+m):
  C7 P B n ⟨d,.call ⟨.builtin .append,#[x,y],#[sT,xT]⟩,ty,pos,af,g⟩ E D (AD b o xs s*R)
   (fun v H'=>∃b' c' s',v=.slice (some ⟨b',0,none⟩) (xs.length+m) c'∧xs.length+m≤c'∧(AE xs++s').length=c'*AB.sz α∧H'=HP.AA b' 0 (AE xs++s')*(AD b o xs s*R)):=by
 intro a w h1 _ h3 K Q hk;obtain⟨inf,hinf,rfl⟩:=hi.get;have hmb:m≤m*inf.bytes:=yd m hby;have hb2:m*inf.bytes≤(xs.length+m)*inf.bytes:=n_ _ Cg
 have hg:¬281474976710656<Builtin.nextslicecap (xs.length+m) c*inf.bytes:=by
  have:=growslice_fits (old:=c) Cg hb;omega
 have hfo:(xx (xs.length+m) c e).forced=false:=rfl
 have hold:(j_ (AB.sz α) xs.length (.slice p xs.length c)).run P w.drew=.ok (AE xs).toArray w.drew:=by
  have hwd:Sat B (AD b o xs s*R) w.drew:=h3.Jp;rcases hs.1 with h4|rfl
  ·have hx0:xs=[]:=s_.1 Cp;subst hx0;cases p<;>simp [j_,AE,loadCells,loadCellsFrom]
  ·simp only [j_];exact AW.run (H:=AD b o xs s*R) inferInstance hwd
 obtain⟨N,hN⟩:∃N,N=(xx (xs.length+m) c e).cut (w.tape w.drawn (xx (xs.length+m) c e)):=Bg
 have hle:xs.length+m≤N:=by rw [hN];simp [zd]
 have hw1:IntKind.i64.wrap (m:Int)=m:=IntWalk.i64_in _ Cg
 have hneg:¬((m:Int)<0):=by omega
 have hn0:m≠0:=by omega
 have hns:¬(m*AB.sz α=0):=Nat.mul_ne_zero Cg Cg;have hxb:xs.length+m≤(xs.length+m)*inf.bytes:=yd _ hby
 have h63':¬(9223372036854775807<(xs.length:Int)+(m:Int)):=by omega
 have hnn:¬(xs.length+m≤c):=by omega
 have h48:¬(281474976710656<(m:Int)*(inf.bytes:Int)):=by rw [←Int.natCast_mul];omega
 have hrun:(yr #[sT,xT] ty #[.slice p xs.length c,.int .i64 m]).run P w=.ok (.slice (some ⟨w.heap.size,0,none⟩) (xs.length+m) N) (w.drew.alloc (.cells ((AE xs).toArray++(g_ z.cells m++g_ z.cells (N-(xs.length+m)))) e)):=by
  simp [yr,Bx hT.get,Bx hT2.get,asInt,asIntOf,hw1,hz.get,hinf,h0.get,hneg,hn0,h63',h48,hns,hnn,hg,hfo,hold,newRow,←hN]
 have hrun2:(execOp a.eval ⟨d,.call ⟨.builtin .append,#[x,y],#[sT,xT]⟩,ty,pos,af,g⟩).run P w=.ok (.value (.slice (some ⟨w.heap.size,0,none⟩) (xs.length+m) N)) (w.drew.alloc (.cells ((AE xs).toArray++(g_ z.cells m++g_ z.cells (N-(xs.length+m)))) e)):=by
  simp [execOp,resolve,h1.ev hx,h1.ev hy,invoke,builtin,hrun]
 simp only [Oper.wp,hrun2,Oper.upon];have hall:=(show Sat B (AD b o xs s*R) w.drew from h3.Jp).alloc ((AE xs).toArray++(g_ z.cells m++g_ z.cells (N-(xs.length+m)))) e;refine hk _ _ _ ⟨w.heap.size,N,(g_ z.cells m++g_ z.cells (N-(xs.length+m))).toList,rfl,hle,?_,rfl⟩ ?_
 ·rw [a_,Array.toList_append,a_,Xf hzc,Xf hzc,CD,←v_,←v_];congr 1;omega
 ·have e2:((AE xs).toArray++(g_ z.cells m++g_ z.cells (N-(xs.length+m)))).toList=AE xs++(g_ z.cells m++g_ z.cells (N-(xs.length+m))).toList:=by simp
  rw [e2]at hall;exact hall
theorem U1(b o m:Nat)(L:List Value)(h:m≤L.length):HP.AA b o L=HP.AA b o (L.take m)*HP.AA b (o+m) (L.drop m):=by
 conv=>lhs;rw [←l_ m L]
 rw [HP.Ft,e_,xt h]
theorem OJ{d:Option Tmp}{sT xT ty e:Nat}{pos:String}{af:Array Edge}{g:Option (Nat×Bool)}{x y:Operand}{b o bb oo dl dc cc k k2:Nat}{p pp:Option Addr}{ys:List α}{L:List Value}[hT:Ar P sT (.slice e)][hz:Bw P e (AB.sz α)]
  (hx:ev E x=some (.slice p dl dc))(hs:Sl p b (o+k*AB.sz α) dl dc)(hy:ev E y=some (.slice pp k2 cc))(hs2:Sl pp bb oo k2 cc)(hr:AW B (HP.AA b o L*R) bb oo ys)(hm:ys.length=min k2 dl)
  (hl:(k+dl)*AB.sz α≤L.length):
  C7 P B n ⟨d,.call ⟨.builtin .copy,#[x,y],#[sT,xT]⟩,ty,pos,af,g⟩ E D (HP.AA b o L*R)
   (fun v H'=>v=.int .i64 (ys.length:Nat)∧H'=HP.AA b o (L.take (k*AB.sz α)++AE ys++L.drop ((k+ys.length)*AB.sz α))*R):=by
 intro a w h1 _ h3 K Q hk;have hm2:Nat.min k2 dl=ys.length:=hm.symm;have hkl:k*AB.sz α≤L.length:=k_ (n_ _ Cg) hl
 have hf:(j_ (AB.sz α) ys.length (.slice pp k2 cc)).run P w=.ok (AE ys).toArray w:=by
  rcases hs2.1 with h4|rfl
  ·have hx0:ys=[]:=s_.1 (by have:=hs2.2;omega);subst hx0;cases pp<;>simp [j_,AE,loadCells,loadCellsFrom]
  ·simp only [j_];exact hr.run (P:=P) h3
 have hw2:∃w',((match p with|some q=>storeCells q (AE ys)|none=>pure ()).run P w)=.ok () w'∧
   Sat B (HP.AA b o (L.take (k*AB.sz α)++AE ys++L.drop ((k+ys.length)*AB.sz α))*R) w':=by
  rcases hs.1 with h4|rfl
  ·have hd0:ys=[]:=s_.1 Cp;subst hd0;refine⟨w,?_,by simpa [AE]using h3⟩;cases p<;>simp [AE,storeCells]
  ·rw [U1 b o (k*AB.sz α) L hkl,HP.assoc,HP.C8]at h3
   have hle:(AE ys).length≤(L.drop (k*AB.sz α)).length:=by
    rw [CD,b_]
    have:ys.length*AB.sz α≤dl*AB.sz α:=n_ _ Cg
    rw [v_]at hl;omega
   obtain⟨w',k1,k2⟩:=Sat.LM (P:=P) (AE ys) (o+k*AB.sz α) 0 (L.drop (k*AB.sz α)) _ w hle (Lw _) h3;refine⟨w',k1,?_⟩;rw [HP.C8,←HP.assoc,m_]at k2
   have e1:(k+ys.length)*AB.sz α=k*AB.sz α+(AE ys).length:=by rw [CD,v_]
   have e2:(L.take (k*AB.sz α)).length=k*AB.sz α:=by rw [e_];omega
   have e3:HP.AA b o (L.take (k*AB.sz α)++AE ys++L.drop ((k+ys.length)*AB.sz α))=HP.AA b o (L.take (k*AB.sz α))*HP.AA b (o+k*AB.sz α) (AE ys++L.drop (k*AB.sz α+(AE ys).length)):=by
    rw [e1,c_,HP.Ft,e2]
   rw [e3]
   first|exact k2|(rw [Nat.add_comm]at k2;exact k2)
 obtain⟨w',k1,k2⟩:=hw2
 have hrun:(execOp a.eval ⟨d,.call ⟨.builtin .copy,#[x,y],#[sT,xT]⟩,ty,pos,af,g⟩).run P w=.ok (.value (.int .i64 (ys.length:Nat))) w':=by
  simp only [execOp,resolve,yc,yb,yy,h1.ev hx,h1.ev hy,Sem.run_bind,Sem.run_pure,Result.andThen_ok,invoke,builtin];simp only [Builtin.copy_];simp [Bx hT.get,Builtin.lenOf,hm2,hz.get,hf];cases p<;>simp_all [goInt]
 simp only [Oper.wp,hrun,Oper.upon];exact hk _ _ _ CO k2
theorem QY{sT ty e b o k m c sz:Nat}{pos:String}{af:Array Edge}{g:Option (Nat×Bool)}{x:Operand}{p:Option Addr}{L:List Value}{zv:Value}[hT:Ar P sT (.slice e)][hz:Bw P e sz][h0:BZ P e zv]
  (hx:ev E x=some (.slice p m c))(hs:Sl p b (o+k*sz) m c)(hl:(k+m)*sz≤L.length)(hzc:zv.cells.size=sz)(hone:∀v∈zv.cells.toList,v.oneCell'=true):
  C7 P B n ⟨none,.call ⟨.builtin .clear,#[x],#[sT]⟩,ty,pos,af,g⟩ E D (HP.AA b o L*R) (fun v H'=>∃L',L'.length=L.length∧L'.take (k*sz)=L.take (k*sz)∧L'.drop ((k+m)*sz)=L.drop ((k+m)*sz)∧H'=HP.AA b o L'*R):=by
 intro a w h1 h2 h3 K Q hk;have hkl:k*sz≤L.length:=k_ (n_ _ Cg) hl;rw [v_]at hl;rw [U1 b o (k*sz) L hkl,HP.assoc,HP.C8]at h3;refine gh (P:=P) (B:=B) (n:=n) (E:=E) (D:=D) (hT:=hT) (hz:=hz) (h0:=h0) (ty:=ty) (b:=b) (o:=o+k*sz) (l:=L.drop (k*sz)) hx hs Rn hzc hone a w h1 h2 h3 K Q fun v H' w' hp hw'=>?_;obtain⟨l',k1,k2,rfl⟩:=hp
 have e2:(L.take (k*sz)).length=k*sz:=by rw [e_];omega
 refine hk v _ w' ⟨L.take (k*sz)++l',by rw [a_,e2,k1,b_];omega,by rw [g' e2],?_,rfl⟩ ?_
 ·rw [v_,o_,h_ Cg,e2,j',show k*sz+m*sz-k*sz=m*sz by omega,k2,m_]
 ·rw [HP.Ft,e2,HP.assoc,HP.C8];exact hw'
theorem gt(b o c l sz:Nat):∃oo,sp (some ⟨b,o,none⟩) c l sz=some ⟨b,oo,none⟩:=by
 unfold sp;split
 ·exact⟨o,rfl⟩
 ·by_cases e2:l*sz=0
  ·exact⟨o,by simp [Addr.add,e2]⟩
  ·exact⟨o+l*sz,by simp [Addr.add,e2]⟩
end
section
variable{P:Program}{B:World}{n:Nat}{E:A6}{H:HP}{d:Option Tmp}{T T' T'' ty:TypeId}{pos:String}{af:Array Edge}{g:Option (Nat×Bool)}{x y u:Operand}
theorem Vq{k:IntKind}{i j:Nat}(hx:ev E x=some (.int k i))(hy:ev E y=some (.int k j)):Aa P B n ⟨d,.call ⟨.builtin .min,#[x,y],#[T,T']⟩,ty,pos,af,g⟩ E H (.int k (min i j:Nat)):=by
 intro a w he _
 have h1:(if(i:Int)≤j then Value.int k i else Value.int k j)=.int k (min i j:Nat):=by
  by_cases h:i≤j
  ·rw [if_pos Cg,xt h]
  ·rw [if_neg Cg,yn Cg]
 simp [execOp,he.ev hx,he.ev hy,resolve,invoke,builtin,yz,y_,←h1]
 try split<;>simp_all<;>omega
theorem gx{k:IntKind}{i j m:Nat}(hx:ev E x=some (.int k i))(hy:ev E y=some (.int k j))(hu:ev E u=some (.int k m)):Aa P B n ⟨d,.call ⟨.builtin .min,#[x,y,u],#[T,T',T'']⟩,ty,pos,af,g⟩ E H (.int k (min (min i j) m:Nat)):=by
 intro a w he _
 have h0:∀i j:Nat,(if(j:Int)<i then(j:Int)else i)=(min i j:Nat):=by
  intro i j;by_cases h:j<i
  ·rw [if_pos Cg,yn Cg]
  ·rw [if_neg Cg,xt Cg]
 simp only [execOp,he.ev hx,he.ev hy,he.ev hu,resolve,invoke,builtin,yz,yc,yb,yy,List.foldlM_cons,List.foldlM_nil,y_,pure_bind,Sem.run_bind,Sem.run_pure,Result.andThen_ok,h0]
theorem rF{k:IntKind}{i j:Nat}(hx:ev E x=some (.int k i))(hy:ev E y=some (.int k j)):Aa P B n ⟨d,.call ⟨.builtin .max,#[x,y],#[T,T']⟩,ty,pos,af,g⟩ E H (.int k (max i j:Nat)):=by
 intro a w he _
 have h1:(if(j:Int)≤i then Value.int k i else Value.int k j)=.int k (max i j:Nat):=by
  by_cases h:j≤i
  ·rw [if_pos Cg,Nat.max_eq_left h]
  ·rw [if_neg Cg,Nat.max_eq_right Cg]
 simp [execOp,he.ev hx,he.ev hy,resolve,invoke,builtin,Builtin.max_,Builtin.max2,←h1]
 try split<;>simp_all<;>omega
end
end
section
variable{B:World}
instance:G1 Tryz.prog 209 (Extern.SlicesOverlaps.overlaps #[142,142] #[4]):=
 ⟨@run_callFunc_extern Tryz.prog 209 _ _ Tryz.func209 Ch Ch Ch Ch⟩
theorem PI{α:Type}[AB α](l:List α)(k:Nat)(s:List Value)(h:k≤l.length):(AE l++s).take (k*AB.sz α)=AE (l.take k):=by
 conv=>lhs;rw [←l_ k l,E0,c_]
 exact g' qK
theorem Uq{α:Type}[AB α](l:List α)(k:Nat)(s:List Value)(h:k≤l.length):(AE l++s).drop (k*AB.sz α)=AE (l.drop k)++s:=by
 conv=>lhs;rw [←l_ k l,E0,c_]
 exact yt qK
theorem Oz{α:Type}[AB α]{b o:Nat}{L s:List Value}{xs:List α}(h:L=AE xs++s):HP.AA b o L=AD b o xs s:=by unfold AD;rw [h]
theorem P4{α:Type}[AB α]{L:List Value}{xs:List α}{k:Nat}(h:L.take (k*AB.sz α)=AE xs):L=AE xs++L.drop (k*AB.sz α):=by
 conv=>lhs;rw [←l_ (k*AB.sz α) L,h]
theorem Er{p:Option Addr}{b o k c l h sz m:Nat}(hs:Sl p b o k c)(hl:l≤h)(hh:h≤c)(hm:m=h-l):Sl (sp p c l sz) b (o+l*sz) m (c-l):=by
 subst hm;exact I9 hs hl hh
theorem kd(l:List AP)(r:AP)(i:Nat)(p:Option Addr)(b o c bv:Nat)(s:List Value)(R:HP)(hs:Sl p b o l.length c)(hc:l.length*2+s.length=c*2)(hi:i≤l.length)(hl:l.length<100000)(hne:0<c→bv≠b):
  Fn Tryz.prog B 208 [.slice p l.length c,iN i,.slice (some ⟨bv,0,none⟩) 1 1] (HP.fresh bv*(HP.AA bv 0 (AE [r])*(AD b o l s*R))) (fun v H'=>CH R (l.take i++r::l.drop i) v H'):=by
 refine mI Tryz.func208 ?_;refine J9 ?_;refine JL (Kt rfl rfl hi) ?_;refine EP ?_;refine JL (CV (i:=1) (j:=0) rfl rfl) ?_;refine J2 ?_;refine mC (fun h16=>?_) (fun h16=>?_)
 ·omega
 refine FL ?_;refine Mj ?_;refine mC (fun he=>?_) (fun he=>?_)
 ·refine J4 ?_;refine Aw (H':=AD b o l s*(HP.fresh bv*(HP.AA bv 0 (AE [r])*R))) Cm ?_;refine AV (Bf (ys:=[r]) (bb:=bv) (oo:=0) (cc:=1) rfl hs hc rfl Bc inferInstance rfl Cs Cg) rfl ?_;rintro _ _ ⟨p',b',o',c',s',rfl,hs',hc',rfl⟩;refine J5 ?_;exact mR [6] (AD b' o' (l++[r]) s'*R) rfl rfl ⟨p',b',o',c',s',by rw [he];simp;rfl,by rw [he];simpa using hs',by rw [he];simpa using hc',by rw [he];simp⟩
 refine J7 ?_;refine FO ?_;refine Hv ?_;refine mC (fun hg=>?_) (fun hg=>?_)
 ·refine J4 ?_;refine JL XM ?_;refine J2 ?_;refine Ki ?_;refine J1 ?_;refine JL Kq ?_
  have hti:(l.take i).length=i:=by rw [e_];omega
  refine Aw (H':=AD b o (l.take i) (AE (l.drop i)++s)*(HP.fresh bv*(HP.AA bv 0 (AE [r])*R))) rD ?_;refine AV (M? (α:=AP) (xs:=l.take i) (m:=l.length+1-i) rfl ⟨hs.1,Cp⟩ rfl rfl Ci Cg Cg Cg Cg) rfl ?_;rintro _ _ ⟨b',c',s',rfl,hc1,hc2,rfl⟩;rw [hti]at hc1;rw [hti];refine Aw (H':=HP.AA b' 0 (AE (l.take i)++s')*(AD b o l s*(HP.fresh bv*(HP.AA bv 0 (AE [r])*R)))) dH ?_
  have hls:i*2+s'.length=c'*2:=by
   have:=hc2
   rw [a_,CD,hti]at this;exact this
  refine J7 ?_;refine JL Je ?_;refine J1 ?_;refine AV (OJ (α:=AP) (ys:=[r]) (k:=i) (bb:=bv) (oo:=0) (b:=b') (o:=0) rfl (Er (h:=i+(l.length+1-i)) (⟨.inr rfl,hc1⟩:Sl (some ⟨b',0,none⟩) b' 0 (i+(l.length+1-i)) c') Cg hc1 Cg) rfl Bc inferInstance Cs (by rw [a_,CD,hti];show(i+(i+(l.length+1-i)-i))*2≤i*2+s'.length;omega)) rfl ?_;refine JR ?_
  have e45:(AE (l.take i)++s').take (i*2)++AE [r]++(AE (l.take i)++s').drop ((i+1)*2)=AE (l.take i++[r])++s'.drop 2:=by
   have h1:(AE (l.take i)).length=i*2:=by rw [CD,hti];rfl
   rw [g' h1,o_,h_ Cg,h1,show(i+1)*2-i*2=2 by omega,j',E0]
  refine Aw (H':=HP.AA b' 0 (AE (l.take i++[r])++s'.drop 2)*(AD b o l s*(HP.fresh bv*(HP.AA bv 0 (AE [r])*R)))) (by rw [←e45];rfl) ?_;refine J3 ?_;refine rC ?_;refine JT 7 rfl (Kt rfl rfl hi) ?_;refine Al 8 Ch rfl rfl (OJ (α:=AP) (ys:=l.drop i) (k:=i+1) (b:=b') (o:=0) (bb:=b) (oo:=o+i*2) (k2:=l.length-i) (cc:=c-i) (pp:=sp p c i 2) rfl (Er (h:=i+(l.length+1-i)) (⟨.inr rfl,hc1⟩:Sl (some ⟨b',0,none⟩) b' 0 (i+(l.length+1-i)) c') Cg hc1 rfl) rfl (Er hs hi hs.2 rfl) (let _:AW B (HP.AA b' 0 (AE (l.take i++[r])++s'.drop 2)*(AD b o l s*(HP.fresh bv*(HP.AA bv 0 (AE [r])*R)))) b o l:=inferInstance;AW.LB (α:=AP) inferInstance i) Rn (by rw [a_,CD,a_,hti,b_];show(i+1+(i+(l.length+1-i)-(i+1)))*2≤(i+1)*2+(s'.length-2);omega)) ?_;refine JR ?_;have hld:(l.drop i).length=l.length-i:=b_
  have e54:(AE (l.take i++[r])++s'.drop 2).take ((i+1)*2)++AE (l.drop i)++(AE (l.take i++[r])++s'.drop 2).drop ((i+1+(l.drop i).length)*2)=AE (l.take i++r::l.drop i)++s'.drop (2+(l.length-i)*2):=by
   have h1:(AE (l.take i++[r])).length=(i+1)*2:=by rw [CD,a_,hti];rfl
   have h5:(AE (l.take i++[r])).drop ((i+1+(l.length-i))*2)=[]:=h_ (by rw [h1];omega);rw [g' h1,hld,o_,h5,h1,show(i+1+(l.length-i))*2-(i+1)*2=(l.length-i)*2 by omega,j',m_,←E0,c_];rfl
  refine DS ?_;refine C3 ?_;refine Aq (H':=AD b' 0 (l.take i++r::l.drop i) (s'.drop (2+(l.length-i)*2))*(AD b o l s*(HP.fresh bv*(HP.AA bv 0 (AE [r])*R)))) (by unfold AD;rw [←e54];rfl) ?_;refine J7 ?_;exact mR [6] (AD b' 0 (l.take i++r::l.drop i) (s'.drop (2+(l.length-i)*2))*R) rfl rfl ⟨some ⟨b',0,none⟩,b',0,c',_,by show Value.slice _ _ _=_;congr 1;rw [a_,hti,f_,hld];omega,⟨.inr rfl,by rw [a_,hti,f_,hld];omega⟩,by rw [a_,hti,f_,hld,b_];show(i+(l.length-i+1))*2+_=c'*2;omega,rfl⟩
 refine J7 ?_;refine Ki ?_;refine JL (Qi (k':=l.length+1) rfl rfl Cg rfl) ?_;refine J6 ?_
 have hcp:0<c:=by omega
 obtain rfl:p=some ⟨b,o,none⟩:=hs.1.resolve_left Cg;refine J4 ?_;refine Ki ?_;refine JL Je ?_;obtain⟨oo,eoo⟩:=gt b o c (i+1) 2;refine JL (KW (v:=.bool false) rfl (fun w hw=>by have:=dt (tR:=4) (la:=1) (ca:=1) (lb:=l.length+1-(i+1)) (cb:=c-(i+1)) (oo:=oo) Tryz.underlying142 (Bw.get) (hne hcp) (l2:=AE l++s) (by intro h0;have:=congrArg y' h0;rw [a_,CD]at this;have h7:l.length*2+s.length=0:=this;omega) (R2:=HP.AA bv 0 (AE [r])*R) UC w hw;rw [eoo];exact this)) ?_;refine Eb ?_;refine mc (fun h68=>?_) (fun h68=>?_);rotate_left
 ·cases h68
 refine J1 ?_;refine dN ?_;refine rC ?_;refine JT 7 rfl Je ?_;refine Al 8 Ch rfl rfl (OJ (α:=AP) (ys:=l.drop i) (k:=i+1) (b:=b) (o:=o) (bb:=b) (oo:=o+i*2) (k2:=l.length+1-i) (cc:=c-i) rfl (Er (k:=l.length) (h:=l.length+1) hs Cg Cg rfl) rfl (Er (k:=l.length) (h:=l.length+1) hs Cg Cg rfl) (let _:AW B (HP.AA b o (AE l++s)*(HP.fresh bv*(HP.AA bv 0 (AE [r])*R))) b o l:=(inferInstance:AW B (AD b o l s*_) b o l);AW.LB (α:=AP) inferInstance i) Rn (by rw [a_,CD];show(i+1+(l.length+1-(i+1)))*2≤l.length*2+s.length;omega)) ?_;refine Lr ?_;have hld:(l.drop i).length=l.length-i:=b_;have h1:(AE l).length=l.length*2:=CD l
 refine Aq (H':=HP.AA b o ((AE l++s).take ((i+1)*2)++AE (l.drop i)++s.drop 2)*(HP.fresh bv*(HP.AA bv 0 (AE [r])*R))) (by congr 2;rw [hld];show _=(AE l++s).take ((i+1)*2)++AE (l.drop i)++s.drop 2;congr 1;show(AE l++s).drop ((i+1+(l.length-i))*2)=_;rw [o_,h_ Cg,h1,show(i+1+(l.length-i))*2-l.length*2=2 by omega,j']) ?_;refine J3 ?_;refine JL Je ?_;refine J1 ?_;refine AV (OJ (α:=AP) (ys:=[r]) (k:=i) (b:=b) (o:=o) (bb:=bv) (oo:=0) rfl (Er (k:=l.length) (h:=l.length+1) hs Cg Cg rfl) rfl Bc inferInstance Cs (by rw [a_,a_,e_,a_,CD,CD,hld,b_];show(i+(l.length+1-i))*2≤min ((i+1)*2) (l.length*2+s.length)+(l.length-i)*2+(s.length-2);omega)) rfl ?_;refine G6 ?_
 have e82:((AE l++s).take ((i+1)*2)++AE (l.drop i)++s.drop 2).take (i*2)++AE [r]++((AE l++s).take ((i+1)*2)++AE (l.drop i)++s.drop 2).drop ((i+1)*2)=AE (l.take i++r::l.drop i)++s.drop 2:=by
  have h2:((AE l++s).take ((i+1)*2)).length=(i+1)*2:=by rw [e_,a_,h1];omega
  have h3:(AE l++s).take (i*2)=AE (l.take i):=PI l i s hi;rw [c_ ((AE l++s).take ((i+1)*2)),List.take_append_of_le_length Cg,List.take_take,xt Cg,h3,yt h2,c_,←c_ (AE [r]),←E0,←c_,←E0];rfl
 refine Aq (H':=AD b o (l.take i++r::l.drop i) (s.drop 2)*(HP.fresh bv*(HP.AA bv 0 (AE [r])*R))) (by unfold AD;rw [←e82];rfl) ?_;refine J7 ?_;exact mR [6] (AD b o (l.take i++r::l.drop i) (s.drop 2)*R) rfl rfl ⟨_,b,o,c,_,by show Value.slice _ _ _=_;congr 1;rw [a_,e_,f_,hld];omega,⟨.inr rfl,by rw [a_,e_,f_,hld];omega⟩,by rw [a_,e_,f_,hld,b_];show(min i l.length+(l.length-i+1))*2+_=c*2;omega,rfl⟩
theorem O_(l:List AP)(i j:Nat)(p:Option Addr)(b o c:Nat)(s:List Value)(R:HP)(hs:Sl p b o l.length c)(hc:l.length*2+s.length=c*2)(hij:i≤j)(hj:j≤l.length)(hl:l.length<1000000000):
  Fn Tryz.prog B 182 [.slice p l.length c,iN i,iN j] (AD b o l s*R) (fun v H'=>CH R (l.take i++l.drop j) v H'):=by
 refine mI Tryz.func182 ?_;refine CR ?_;refine JL mF ?_;refine J7 ?_;refine Mj ?_;refine mC (fun he=>?_) (fun he=>?_)
 ·refine J8 ?_;exact cX
 refine By ?_
 have hti:(l.take i).length=i:=by rw [e_];omega
 have hdj:(l.drop j).length=l.length-j:=b_;refine eA ?_;refine Al 6 Ch rfl rfl (XB (α:=AP) (ys:=l.drop j) (bb:=b) (oo:=o+j*2) rfl ⟨hs.1,Cp⟩ sX rfl (Er hs hj hs.2 hdj) (let _:AW B (AD b o (l.take i) (AE (l.drop i)++s)*R) b o l:=YU;AW.LB (α:=AP) inferInstance j) rfl Cg Cg Cp) ?_;refine JR ?_;refine DS ?_;refine Ec 7 Ch rfl rfl Fl EO ?_;refine C3 ?_
 have h1:(AE (l.take i++l.drop j)).length=(i+(l.length-j))*2:=by rw [CD,a_,hti,hdj];rfl
 have h2:((AE (l.drop i)++s).drop ((l.drop j).length*2)).length=(c-(i+(l.length-j)))*2:=by rw [b_,a_,CD,b_,hdj];show(l.length-i)*2+s.length-(l.length-j)*2=_;have:=hs.2;omega
 have e31:(l.take i).length+(l.drop j).length=i+(l.length-j):=by rw [hti,hdj]
 refine J5 ?_;refine JL (PS rfl rfl rfl Cp) ?_;refine Bv (QY (sz:=2) (b:=b) (o:=o) (k:=(l.take i).length+(l.drop j).length) (L:=AE (l.take i++l.drop j)++(AE (l.drop i)++s).drop ((l.drop j).length*2)) rfl (Er (k:=l.length) hs (by omega:(l.take i).length+(l.drop j).length≤l.length) hs.2 rfl) Un rfl Ci) ?_;rintro _ _ ⟨L',k1,k2,k3,rfl⟩;rw [e31]at k2 k3;refine J9 ?_;exact mR [6] (HP.AA b o L'*R) rfl rfl ⟨p,b,o,c,L'.drop ((i+(l.length-j))*2),X3,⟨hs.1,pR⟩,by rw [a_,hti,hdj,b_,k1,a_,h1,h2];show _*2+_=c*2;have:=hs.2;omega,by congr 1;refine Oz ?_;refine P4 (α:=AP) (k:=i+(l.length-j)) ?_;refine Eq.trans k2 ?_;exact g' h1⟩
theorem bf(l:List UInt8)(i j:Nat)(p:Option Addr)(b o c:Nat)(s:List Value)(R:HP)(hs:Sl p b o l.length c)(hc:l.length*1+s.length=c*1)(hij:i≤j)(hj:j≤l.length)(hl:l.length<1000000000):
  Fn Tryz.prog B 149 [.slice p l.length c,iN i,iN j] (AD b o l s*R) (fun v H'=>CH R (l.take i++l.drop j) v H'):=by
 refine mI Tryz.func149 ?_;refine CR ?_;refine JL mF ?_;refine J7 ?_;refine Mj ?_;refine mC (fun he=>?_) (fun he=>?_)
 ·refine J8 ?_;exact cX
 refine By ?_
 have hti:(l.take i).length=i:=by rw [e_];omega
 have hdj:(l.drop j).length=l.length-j:=b_;refine eA ?_;refine Al 6 Ch rfl rfl (XB (α:=UInt8) (ys:=l.drop j) (bb:=b) (oo:=o+j*1) rfl ⟨hs.1,Cp⟩ (by rw [hti,a_,CD,b_];show i*1+((l.length-i)*1+s.length)=c*1;omega) rfl (Er hs hj hs.2 hdj) (let _:AW B (AD b o (l.take i) (AE (l.drop i)++s)*R) b o l:=YU;AW.LB (α:=UInt8) inferInstance j) rfl Cg Cg Cp) ?_;refine JR ?_;refine DS ?_;refine Ec 7 Ch rfl rfl Fl EO ?_;refine C3 ?_
 have h1:(AE (l.take i++l.drop j)).length=(i+(l.length-j))*1:=by rw [CD,a_,hti,hdj];rfl
 have h2:((AE (l.drop i)++s).drop ((l.drop j).length*1)).length=(c-(i+(l.length-j)))*1:=by rw [b_,a_,CD,b_,hdj];show(l.length-i)*1+s.length-(l.length-j)*1=_;have:=hs.2;omega
 have e31:(l.take i).length+(l.drop j).length=i+(l.length-j):=by rw [hti,hdj]
 refine J5 ?_;refine JL (PS rfl rfl rfl Cp) ?_;refine Bv (QY (sz:=1) (b:=b) (o:=o) (k:=(l.take i).length+(l.drop j).length) (L:=AE (l.take i++l.drop j)++(AE (l.drop i)++s).drop ((l.drop j).length*1)) rfl (Er (k:=l.length) hs (by omega:(l.take i).length+(l.drop j).length≤l.length) hs.2 rfl) Un rfl Ci) ?_;rintro _ _ ⟨L',k1,k2,k3,rfl⟩;rw [e31]at k2 k3;refine J9 ?_;exact mR [6] (HP.AA b o L'*R) rfl rfl ⟨p,b,o,c,L'.drop ((i+(l.length-j))*1),X3,⟨hs.1,pR⟩,by rw [a_,hti,hdj,b_,k1,a_,h1,h2];show _*1+_=c*1;have:=hs.2;omega,by congr 1;refine Oz ?_;refine P4 (α:=UInt8) (k:=i+(l.length-j)) ?_;refine Eq.trans k2 ?_;exact g' h1⟩
theorem bh(l:List AP)(r:AP)(i j:Nat)(p:Option Addr)(b o c bv:Nat)(s:List Value)(R:HP)(hs:Sl p b o l.length c)(hc:l.length*2+s.length=c*2)(hij:i≤j)(hj:j≤l.length)(hl:l.length<100000)(hne:0<c→bv≠b):
  Fn Tryz.prog B 181 [.slice p l.length c,iN i,iN j,.slice (some ⟨bv,0,none⟩) 1 1] (HP.fresh bv*(HP.AA bv 0 (AE [r])*(AD b o l s*R))) (fun v H'=>CH R (l.take i++r::l.drop j) v H'):=by
 refine mI Tryz.func181 ?_;refine By ?_;refine JL (PS rfl rfl rfl ⟨hij,Cp⟩) ?_;refine J7 ?_;refine Mj ?_;refine mC (fun he=>?_) (fun he=>?_)
 ·refine J5 ?_;refine mE rfl (kd l r i p b o c bv s R hs hc Cg hl hne) ?_;rintro _ _ ⟨p',b',o',c',s',rfl,hs',hc',rfl⟩;refine J5 ?_;exact mR [8] (AD b' o' (l.take i++r::l.drop i) s'*R) rfl rfl ⟨p',b',o',c',s',by subst he;rfl,by subst he;exact hs',by subst he;exact hc',by subst he;rfl⟩
 refine J8 ?_;refine Mj ?_;refine mC (fun hjn=>?_) (fun hjn=>?_)
 ·refine J1 ?_
  have hti:(l.take i).length=i:=by rw [e_];omega
  refine Aq (H':=AD b o (l.take i) (AE (l.drop i)++s)*(HP.fresh bv*(HP.AA bv 0 (AE [r])*R))) rD ?_;refine J3 ?_;refine JL XM ?_;refine J1 ?_;refine AV (XB (α:=AP) (ys:=[r]) (bb:=bv) (oo:=0) (cc:=1) rfl ⟨hs.1,Cp⟩ sX rfl Bc inferInstance rfl Cs Cg (by simp only [t_];have:=hs.2;omega)) rfl ?_;refine JE ?_
  have h1:(AE (l.take i++[r])).length=(i+1)*2:=by rw [CD,a_,hti];rfl
  have h2:((AE (l.drop i)++s).drop ([r].length*2)).length=(c-(i+1))*2:=by rw [b_,a_,CD,b_];show(l.length-i)*2+s.length-1*2=_;have:=hs.2;omega
  have e31:(l.take i).length+[r].length=i+1:=by rw [hti];rfl
  refine J8 ?_;refine mC (fun hlt=>?_) (fun hlt=>?_)
  ·refine J4 ?_;refine JL Je ?_;refine Bv (QY (sz:=2) (b:=b) (o:=o) (k:=(l.take i).length+[r].length) (L:=AE (l.take i++[r])++(AE (l.drop i)++s).drop ([r].length*2)) rfl (Er (k:=l.length) hs (by omega:(l.take i).length+[r].length≤l.length) hs.2 rfl) Un rfl Ci) ?_;rintro _ _ ⟨L',k1,k2,k3,rfl⟩;rw [e31]at k2 k3;refine By ?_;exact mR [8] (HP.AA b o L'*R) rfl rfl ⟨p,b,o,c,L'.drop ((i+1)*2),fX,⟨hs.1,dQ⟩,by rw [hjn,u_,a_,hti,b_,k1,a_,h1,h2];show(i+1)*2+_=c*2;have:=hs.2;omega,by congr 1;refine Oz ?_;refine P4 (α:=AP) (k:=i+1) ?_;rw [hjn,u_];refine Eq.trans k2 ?_;exact g' h1⟩
  refine By ?_;exact mR [8] (AD b o (l.take i++[r]) ((AE (l.drop i)++s).drop ([r].length*2))*R) rfl rfl ⟨p,b,o,c,(AE (l.drop i)++s).drop ([r].length*2),fX,⟨hs.1,dQ⟩,by rw [hjn,u_,a_,hti];have:=h2;show(i+1)*2+_=c*2;have:=hs.2;omega,by rw [hjn,u_]⟩
 refine J3 ?_;refine mA 13 13 ?_;refine EQ ?_;refine JT 2 rfl Xz ?_;refine JT 3 rfl Dm ?_;refine HD ?_;refine JT 5 rfl Dm ?_;refine JT 6 rfl OQ ?_;refine Jm 7 ?_;refine Jm 8 ?_;refine JT 9 rfl (Kt rfl rfl hj) ?_;refine JT 10 rfl Dm ?_;refine JT 11 rfl Kd ?_;refine Ja 12 ?_;refine JD ?_;refine J7 ?_;refine Hv ?_;refine mC (fun h60=>?_) (fun h60=>?_)
 ·have:=hs.2;omega
 refine J6 ?_;refine JL Xz ?_;refine J9 ?_;refine Ki ?_;refine J1 ?_;refine JL Ge ?_;refine J2 ?_;refine mC (fun h92=>?_) (fun h92=>?_);rotate_left
 ·omega
 refine J1 ?_;refine dN ?_;refine J3 ?_;refine JL Je ?_;refine J1 ?_;refine AV (OJ (α:=AP) (ys:=[r]) (k:=i) (b:=b) (o:=o) (bb:=bv) (oo:=0) rfl (Er (k:=l.length) (h:=i+1+(l.length-j)) hs Cg Cp rfl) rfl Bc inferInstance Cs (by rw [a_,CD];show(i+(i+1+(l.length-j)-i))*2≤l.length*2+s.length;omega)) rfl ?_;refine G6 ?_
 have hti:(l.take i).length=i:=by rw [e_];omega
 have e97:(AE l++s).take (i*2)++AE [r]++(AE l++s).drop ((i+1)*2)=AE (l.take i++r::l.drop (i+1))++s:=by
  have h3:(AE l++s).take (i*2)=AE (l.take i):=PI l i s Cg;have h4:(AE l++s).drop ((i+1)*2)=AE (l.drop (i+1))++s:=Uq l (i+1) s Cg;rw [h3,h4,←E0,←c_,←E0,c_];rfl
 refine Aq (H':=HP.AA b o (AE (l.take i++r::l.drop (i+1))++s)*(HP.fresh bv*(HP.AA bv 0 (AE [r])*R))) (by rw [←e97];rfl) ?_
 have hll:(l.take i++r::l.drop (i+1)).length=l.length:=by rw [a_,f_,hti,b_];omega
 have hdj:(l.take i++r::l.drop (i+1)).drop j=l.drop j:=by
  rw [o_,h_ (by rw [hti];omega),hti,j',show j-i=(j-i-1)+1 by omega,List.drop_succ_cons,m_];congr 1;omega
 refine mA 9 10 ?_;refine LX ?_;refine JT 3 rfl Dm ?_;refine JT 4 rfl OQ ?_;refine JT 5 rfl Je ?_;refine Jm 6 ?_;refine Jm 7 ?_;refine JT 8 rfl (Kt rfl rfl hj) ?_;refine Al 9 Ch rfl rfl (OJ (α:=AP) (ys:=l.drop j) (k:=i+1) (b:=b) (o:=o) (bb:=b) (oo:=o+j*2) (k2:=l.length-j) (cc:=c-j) rfl (Er (k:=l.length) (h:=i+1+(l.length-j)) hs Cg Cp rfl) rfl (Er hs hj hs.2 rfl) (let _:AW B (HP.AA b o (AE (l.take i++r::l.drop (i+1))++s)*(HP.fresh bv*(HP.AA bv 0 (AE [r])*R))) b o (l.take i++r::l.drop (i+1)):=(inferInstance:AW B (AD b o (l.take i++r::l.drop (i+1)) s*_) b o _);by have:=AW.LB (α:=AP) (B:=B) (H:=HP.AA b o (AE (l.take i++r::l.drop (i+1))++s)*(HP.fresh bv*(HP.AA bv 0 (AE [r])*R))) (b:=b) (o:=o) (xs:=l.take i++r::l.drop (i+1)) inferInstance j;rw [hdj]at this;exact this) Rn (by rw [a_,CD,hll];show(i+1+(i+1+(l.length-j)-(i+1)))*2≤l.length*2+s.length;omega)) ?_;refine Lr ?_;have hdl:(l.drop j).length=l.length-j:=b_
 have e107:(AE (l.take i++r::l.drop (i+1))++s).take ((i+1)*2)++AE (l.drop j)++(AE (l.take i++r::l.drop (i+1))++s).drop ((i+1+(l.drop j).length)*2)=AE (l.take i++r::l.drop j)++(AE ((l.take i++r::l.drop (i+1)).drop (i+1+(l.length-j)))++s):=by
  have h3:(AE (l.take i++r::l.drop (i+1))++s).take ((i+1)*2)=AE ((l.take i++r::l.drop (i+1)).take (i+1)):=PI _ (i+1) s (by rw [hll];omega)
  have h4:(AE (l.take i++r::l.drop (i+1))++s).drop ((i+1+(l.drop j).length)*2)=AE ((l.take i++r::l.drop (i+1)).drop (i+1+(l.length-j)))++s:=by rw [hdl];exact Uq _ (i+1+(l.length-j)) s (by rw [hll];omega)
  have h5:(l.take i++r::l.drop (i+1)).take (i+1)=l.take i++[r]:=by
   rw [List.take_append,List.take_of_length_le Cg,hti,show i+1-i=0+1 by omega,List.take_succ_cons,List.take_zero]
  rw [h3,h4,h5,←E0,c_ (l.take i)];rfl
 refine Aq (H':=HP.AA b o (AE (l.take i++r::l.drop j)++(AE ((l.take i++r::l.drop (i+1)).drop (i+1+(l.length-j)))++s))*(HP.fresh bv*(HP.AA bv 0 (AE [r])*R))) (by rw [←e107];rfl) ?_
 have h1:(AE (l.take i++r::l.drop j)).length=(i+1+(l.length-j))*2:=by rw [CD,a_,hti,f_,hdl];show(i+(l.length-j+1))*2=_;omega
 have h2:(AE ((l.take i++r::l.drop (i+1)).drop (i+1+(l.length-j)))++s).length=(c-(i+1+(l.length-j)))*2:=by rw [a_,CD,b_,hll];show(l.length-(i+1+(l.length-j)))*2+s.length=_;omega
 refine J3 ?_;refine JL Je ?_;refine Bv (QY (sz:=2) (b:=b) (o:=o) (k:=i+1+(l.length-j)) rfl (Er (k:=l.length) hs (by omega:i+1+(l.length-j)≤l.length) hs.2 rfl) (by rw [a_,h1,h2];have:=hs.2;omega) rfl Ci) ?_;rintro _ _ ⟨L',k1,k2,k3,rfl⟩;refine By ?_;exact mR [8] (HP.AA b o L'*R) rfl rfl ⟨p,b,o,c,L'.drop ((i+1+(l.length-j))*2),by show Value.slice _ _ _=_;congr 1;rw [a_,hti,f_,hdl];omega,⟨hs.1,by rw [a_,hti,f_,hdl];have:=hs.2;omega⟩,by rw [a_,hti,f_,hdl,b_,k1,a_,h1,h2];show(i+(l.length-j+1))*2+_=c*2;have:=hs.2;omega,by congr 1;refine Oz ?_;refine P4 (α:=AP) (k:=i+1+(l.length-j)) ?_;refine Eq.trans k2 ?_;exact g' h1⟩
end
end Go.Proofs.YtgfdlpcdjklcoaaGreatDoor
