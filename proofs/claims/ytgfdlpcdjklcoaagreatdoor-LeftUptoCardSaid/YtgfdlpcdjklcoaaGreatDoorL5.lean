/- A part of this proof: steps of the program, plain facts; no condition. -/
import Derived.Test.YtgfdlpcdjklcoaaGreatDoorL4
namespace Go.Proofs.YtgfdlpcdjklcoaaGreatDoor
open Go Go.RowKit
open _root_.List renaming length_append→J!,getD_eq_getElem?_getD→J?,append_assoc→K!,mem_singleton→L_,append_nil→L!,getElem?_eq_getElem→L?,mem_append→M!,getElem?_append_left→M?,length_pos_iff→N_,length_drop→N!,length_cons→N?,length_set→O_,getElem?_drop→O?,length_filter_le→P!,length_take→P?,ext_getElem→R!,range_succ_eq_map→R?,length_singleton→S_,mem_of_mem_take→S!,mem_of_mem_drop→S?,map_congr_left→T!,length_reverse→T?,mem_cons→U_,map_cons→U!,cons_eq_cons→V_,flatMap_cons→V!,getElem_take→V?,getElem_mem→W!,mem_filter→X_,take_left'→X!,nil_append→X?,length_nil→Y!,drop_left'→Y?,drop_drop→Z_,replicate→Z!,getD→Z?,map_map→ab,range→ac
open _root_.Nat renaming zero_le→K_,le_refl→K?,le_trans→O!,not_lt_zero→Q_,lt_or_ge→Q!,lt_succ_of_lt→R_,le_succ_of_le→U?,mod_eq_of_lt→W?,le_max_left→Y_
open _root_.UInt64 renaming ofNat→M_,toNat_toUInt8→T_
open _root_.Option renaming some→P_,getD_some→W_
open _root_.Int renaming toNat_natCast→Q?
set_option linter.unusedVariables false
set_option maxRecDepth 20000
structure TW(next now:Nat)(ws:List AY)(p:Dl):Prop where
 num:p.number<next
 at_:p.at_≤now
 len:p.Aw.length≤300
 fr:∀f∈p.Aw,EU ws f
structure AZ(t:Nat)(c:AF):Prop where
 m1:64≤c.AI
 m2:c.AI≤300
 w1:16≤c.AG
 w2:c.AG≤1024
 ks:c.ks.length=16
 closed:c.closed≤10
 code:c.code≤4611686018427387903
 AP:DF c.AP 4611686018427387904
 gm:c.AP.AL=8
 ws:Dm c.AG c.ws
 rl:c.rs.length=4
 rs:∀k,k<4→FY c.AG t (c.r k)
 fl:c.BK.length≤10
 Ao:∀p,p∈c.BK∨p∈c.lost→TW c.next c.now c.ws p
 cnt:c.BK.length+c.lost.length≤c.next
 nx:c.next≤20*t
 nw:c.now≤t
 wt:c.waits≤8
 lg:c.BZ≤c.next
theorem AZ.mono{t t':Nat}{c:AF}(h:AZ t c)(ht:t≤t'):AZ t' c:=
 {h with rs:=fun k hk=>(h.rs k hk).mono ht,nx:=by have:=h.nx;omega,nw:=by have:=h.nw;omega}
theorem Qh{AG:Nat}:C7 AG As:=⟨K_ _,.of,rfl,rfl,.of,rfl,rfl,K_ _,K_ _,K_ _⟩
theorem Pp{AG t:Nat}:FY AG t FQ:=⟨.of,rfl,rfl,K_ _,K_ _,(fun n h=>absurd h (Q_ n)),(fun _=>rfl),K_ _,K_ _,K_ _,K_ _,(fun h=>absurd h Cc)⟩
theorem Ml{P:Nat→Prop}(h0:P 0)(h1:P 1)(h2:P 2)(h3:P 3)(k:Nat)(hk:k<4):P k:=by
 match k,hk with
 |0,_=>exact h0
 |1,_=>exact h1
 |2,_=>exact h2
 |3,_=>exact h3
theorem AZ.new{AI AG:Nat}{ks:List UInt8}{first:Bool}(h1:64≤AI)(h2:AI≤300)(h3:16≤AG)(h4:AG≤1024)(hk:ks.length=16):AZ 0 (.new AI AG ks first):=
 ⟨h1,h2,h3,h4,hk,K_ _,K_ _,.of,rfl,⟨rfl,Ml Qh Qh Qh Qh⟩,rfl,Ml Pp Pp Pp Pp,K_ _,(fun p h=>by rcases h with h|h<;>cases h),K_ _,K_ _,K_ _,K_ _,K_ _⟩
theorem AZ.Vp{t:Nat}{c:AF}(h:AZ t c){ws:List AY}(hw:Dm c.AG ws)(hf:∀f,EU c.ws f→EU ws f):AZ t {c with ws:=ws}:=
 {h with ws:=hw,Ao:=fun p hp=>let g:=h.Ao p hp;⟨g.num,g.at_,g.len,fun f hfr=>hf f (g.fr f hfr)⟩}
theorem EU.set{ws:List AY}{k:Nat}{w:AY}(hb:(ws.getD k As).b.length≤w.b.length)(f:AU)(h:EU ws f):EU (ws.set k w) f:=by
 refine⟨h.1,h.2.1,fun hk=>?_⟩
 have:=h.2.2 hk
 rw [CY];split
 ·rename_i e;rw [e.1]at hb;omega
 ·exact this
theorem AZ.Bs{t:Nat}{c:AF}(h:AZ t c){k:Nat}{w:AY}(hw:C7 c.AG w)(hb:(c.w k).b.length≤w.b.length):AZ t (c.Bs k w):=
 h.Vp (h.ws.set hw) (EU.set hb)
theorem AZ.BS{t:Nat}{c:AF}(h:AZ t c){k:Nat}{r:Bf}(hr:FY c.AG t r):AZ t (c.BS k r):=by
 refine {h with rl:=by show(c.rs.set k r).length=4;rw [O_];exact h.rl,rs:=fun j hj=>?_};show FY c.AG t ((c.rs.set k r).getD j FQ);rw [CY];split
 ·exact hr
 ·exact h.rs j hj
theorem QH{c:AF}{k:Int}(h:c.stream k=0):c.closed=0∧0≤k∧k.toNat<4:=by
 unfold AF.stream at h;split at h
 ·cases h
 split at h
 ·cases h
 ·rename_i h1 h2;refine⟨by simpa using h1,?_,?_⟩<;>omega
theorem Sr{c:AF}{k:Int}(h:c.Dt k=0):c.stream k=0∧(c.w k.toNat).finished=false∧(c.w k.toNat).given=false:=by
 unfold AF.Dt at h;split at h
 ·rename_i h1;exact absurd h h1
 split at h
 ·cases h
 ·rename_i h1 h2;refine⟨by simpa using h1,?_,?_⟩<;>simp_all
theorem C7.write{AG:Nat}{w:AY}(h:C7 AG w)(n:Nat)(xs:List UInt8)(hn:n≤AG-(w.b.length-w.BA))(hn2:n≤4096-w.b.length):C7 AG {w with b:=w.b++xs.take n}:=by
 have hl:(w.b++xs.take n).length≤w.b.length+n:=by simp;omega
 have h1:=h.OF;have h2:=h.len;have h3:=h.room;have hp:w.BA≤({w with b:=w.b++xs.take n}:AY).BA:=QK h.co.inc h.co.inc (fun r hr=>by have:=h.co.hi r hr;show r.hi<(w.b++xs.take n).length;simp;omega) (fun _ h=>h);refine⟨by show(w.b++xs.take n).length≤_;omega,h.so.mono Cg,h.sf,h.sm,h.co.mono Cg,h.cf,h.cm,?_,O! h.high Cg,h.code⟩;show(w.b++xs.take n).length≤_;omega
theorem AZ.write{t:Nat}{c:AF}(h:AZ t c)(k:Int)(xs:List UInt8):AZ t (c.write k xs).2:=by
 unfold AF.write;split
 ·exact h
 ·rename_i h1;obtain⟨h2,h3,h4⟩:=Sr (by simpa using h1:c.Dt k=0);obtain⟨h5,h6,h7⟩:=QH h2;refine h.Bs (C7.write (h.ws.ok _ h7) _ _ ?_ ?_) Cg
  ·show min (min _ _) _≤_;exact O! SQ SQ
  ·show min (min _ _) _≤_;exact O! SQ (Nat.min_le_right _ _)
theorem AZ.finish{t:Nat}{c:AF}(h:AZ t c)(k:Int):AZ t (c.finish k).2:=by
 unfold AF.finish;split
 ·exact h
 ·rename_i h1;obtain⟨h2,h3,h4⟩:=Sr (by simpa using h1:c.Dt k=0);obtain⟨h5,h6,h7⟩:=QH h2;have g:=h.ws.ok _ h7;exact h.Bs ⟨g.len,g.so,g.sf,g.sm,g.co,g.cf,g.cm,g.room,g.high,g.code⟩ DH
theorem AZ.giveUp{t:Nat}{c:AF}(h:AZ t c)(k:Int)(code:Nat):AZ t (c.giveUp k code).2:=by
 unfold AF.giveUp;split
 ·exact h
 split
 ·exact h
 ·rename_i h1 h2;obtain⟨h5,h6,h7⟩:=QH (by simpa using h1:c.stream k=0);have g:=h.ws.ok _ h7;exact h.Bs ⟨g.len,g.so,g.sf,g.sm,g.co,g.cf,g.cm,g.room,g.high,by show code≤_;omega⟩ DH
theorem AZ.close{t:Nat}{c:AF}(h:AZ t c)(code:Nat):AZ t (c.close code).2:=by
 unfold AF.close;split
 ·exact h
 split
 ·exact h
 ·exact {h with closed:=by show 9≤10;omega,code:=by show code≤_;omega}
theorem AZ.GC{t:Nat}{c:AF}(h:AZ t c)(lost:Dl→Bool):AZ t (c.GC lost):=by
 obtain⟨a,b,_⟩:=Mh (c.BK.filter lost) c.ws h.ws (fun p hp f hf=>(h.Ao p Ou).fr f hf)
 have hl:(c.BK.filter (fun p=> !lost p)).length+(c.BK.filter lost).length=c.BK.length:=by
  clear a b
  induction c.BK with
  |nil=>rfl
  |cons p ps ih=>cases e:lost p<;>simp [e]<;>omega
 refine {h with ws:=a,fl:=by show(c.BK.filter _).length≤10;have:=h.fl;omega,Ao:=fun p hp=>?_,cnt:=?_}
 ·have hp':p∈c.BK∨p∈c.lost:=by
   rcases hp with hp|hp
   ·exact L7
   ·rcases M!.1 hp with hp|hp
    ·exact .inr hp
    ·exact L7
  have g:=h.Ao p hp';exact⟨g.num,g.at_,g.len,fun f hf=>(g.fr f hf).same b⟩
 ·show(c.BK.filter _).length+(c.lost++c.BK.filter lost).length≤c.next
  have:=h.cnt
  rw [J!];omega
theorem AZ.tick{t:Nat}{c:AF}(h:AZ t c):AZ (t+1) c.tick:=by
 have h1:AZ (t+1) {c with now:=c.now+1}:=
  {h.mono ET with nw:=by have:=h.nw;show c.now+1≤t+1;omega,Ao:=fun p hp=>let g:=h.Ao p hp;⟨g.num,U? g.at_,g.len,g.fr⟩}
 unfold AF.tick;split
 ·exact {h1.GC _ with wt:=by show min (c.waits+1) 8≤8;omega}
 ·exact h1
theorem AZ.Ek{t:Nat}{c:AF}(h:AZ t c)(l:List AW)(hl:(rg l 0).hi<c.next):AZ t (c.Ek l)∧Fp c.ws (c.Ek l).ws∧
  ∀k n,BE n ((c.Ek l).w k).AE.l↔BE n (c.w k).AE.l∨∃p,(p∈c.lost∨p∈c.BK)∧BL l p.number=true∧K6 p.Aw k n:=by
 obtain⟨a,b,e⟩:=M' (l:=l) c.lost c.ws h.ws (fun p hp f hf=>(h.Ao p (.inr hp)).fr f hf);obtain⟨a',b',e'⟩:=M' (l:=l) c.BK _ a (fun p hp f hf=>((h.Ao p (.inl hp)).fr f hf).same b);refine⟨{h with ws:=a',fl:=O! (P! _ _) h.fl,Ao:=fun p hp=>?_,cnt:=?_,wt:=?_,lg:=?_},b.trans b',fun k n=>?_⟩
 ·have hp':p∈c.BK∨p∈c.lost:=by
   rcases hp with hp|hp
   ·exact L7
   ·exact .inr (X_.1 hp).1
  have g:=h.Ao p hp';exact⟨g.num,g.at_,g.len,fun f hf=>(g.fr f hf).same (b.trans b')⟩
 ·have h1:=P! (fun p:Dl=> !BL l p.number) c.BK;have h2:=P! (fun p:Dl=> !BL l p.number) c.lost
  have:=h.cnt
  show(c.BK.filter _).length+(c.lost.filter _).length≤c.next;omega
 ·show(if _ then 0 else c.waits)≤8;split
  ·omega
  ·exact h.wt
 ·show max c.BZ (rg l 0).hi≤c.next
  have:=h.lg;omega
 ·have:=e' k n
  rw [show((c.Ek l).w k)=(c.BK.foldl (IV l) (c.lost.foldl (IV l) c.ws)).getD k As from rfl,this,e k n];constructor
  ·rintro((g|⟨p,hp,g⟩)|⟨p,hp,g⟩)
   ·exact .inl g
   ·exact .inr ⟨p,.inl hp,g⟩
   ·exact .inr ⟨p,.inr hp,g⟩
  ·rintro(g|⟨p,hp|hp,g⟩)
   ·exact .inl (.inl g)
   ·exact .inl (.inr ⟨p,hp,g⟩)
   ·exact .inr ⟨p,hp,g⟩
theorem AZ.B0{t:Nat}{c:AF}(h:AZ t c)(l:List AW):AZ t (c.B0 l).2:=by
 unfold AF.B0;split
 ·exact h
 ·exact(h.Ek l Ca).1.GC _
theorem GG.refl(r:Bf):GG r r:=⟨rfl,rfl,id⟩
theorem GG.trans{a b c:Bf}(h:GG a b)(g:GG b c):GG a c:=⟨g.read.trans h.read,g.state.trans h.state,fun e=>g.given (h.given e)⟩
theorem AZ.take{t:Nat}{c:AF}(h:AZ t c)(f:AU)(hf:JI f)(hb:¬c.busy f):AZ t (c.take f).2∧(∀k,GG (c.r k) ((c.take f).2.r k))∧(c.take f).2.AG=c.AG:=by
 have hk4:f.stream.toNat<4:=by have:=hf.1;have:=hf.2.1;omega
 have g:=h.rs _ hk4
 have hset:∀r,GG (c.r f.stream.toNat) r→∀k,GG (c.r k) ((c.BS f.stream.toNat r).r k):=by
  intro r hr k;show GG (c.r k) ((c.rs.set f.stream.toNat r).getD k FQ);rw [CY];split
  ·rename_i e;rw [←e.1];exact hr
  ·exact .refl _
 unfold AF.take;split
 ·refine⟨h.B0 _,fun k=>?_,?_⟩
  ·unfold AF.B0;split<;>exact .refl _
  ·unfold AF.B0;split<;>rfl
 split
 ·split
  ·exact⟨h,fun _=>.refl _,rfl⟩
  ·refine⟨h.BS ⟨g.co,g.cf,g.cm,g.rh,g.hw,g.pre,(fun h=>by cases h),g.rt,?_,?_,g.st,fun _=>rfl⟩,hset _ ⟨rfl,rfl,fun _=>rfl⟩,rfl⟩
   ·exact hf.2.2.2.1
   ·show(if _ then _ else _)≤_;split
    ·exact g.code
    ·exact hf.2.2.1
 split
 ·rename_i h5
  obtain⟨a,b⟩:=g.data h.w2 f hf h5 (fun hg=>by
   rcases Q! ((c.r f.stream.toNat).read+c.AG) (f.offset+f.data.size)with hlt|hge
   ·exact absurd ⟨h5,hg,hlt⟩ hb
   ·exact hge)
  exact⟨h.BS a,hset _ b,rfl⟩
 split<;>exact⟨h,fun _=>.refl _,rfl⟩
theorem RX{c:AF}(f:AU):(c.take f).1≤10:=by
 unfold AF.take AF.B0 Bf.data
 repeat' split
 all_goals simp
theorem AZ.BT{t:Nat}:∀(fs:List AU) (c:AF),AZ t c→(∀f∈fs,JI f∧¬c.busy f)→AZ t (c.BT fs).2
 |[],c,h,_=>h
 |f::fs,c,h,hf=>by
  obtain⟨a,b,e⟩:=h.take f (hf f Cg).1 (hf f Cg).2;rw [AF.BT];split
  ·exact {a with closed:=RX f,code:=by have:=RX (c:=c) f;show(c.take f).1≤_;omega}
  ·refine AZ.BT fs _ {a with} (fun g hg=>⟨(hf g Cx).1,?_⟩);have h2:=(hf g Cx).2;rintro⟨k1,k2,k3⟩;refine h2 ⟨k1,?_,?_⟩
   ·have:=(b g.stream.toNat).given
    cases e:(c.r g.stream.toNat).given
    ·rfl
    ·rw [e]at this
     have:=this rfl
     have k2':((c.take f).2.r g.stream.toNat).given=false:=k2;rw [this]at k2';cases k2'
   ·have h4:((c.take f).2.r g.stream.toNat).read+(c.take f).2.AG<g.offset+g.data.size:=k3;rw [(b g.stream.toNat).read,e]at h4;exact h4
theorem jJ(xs:List UInt8):∀(fuel a:Nat) (fs:List AU),xs.length-a≤fuel→Fa xs a=.ok fs→∀f∈fs,B4 f:=by
 intro fuel
 induction fuel with
 |zero=>
  intro a fs hl h;rw [Fa,if_neg Ca]at h;cases h;intro f hf;cases hf
 |succ n ih=>
  intro a fs hl h;rw [Fa]at h;split at h
  ·split at h
   ·rename_i f a' e;split at h
    ·split at h
     ·rename_i l e2;cases h;intro g hg;rcases U_.1 hg with rfl|hg
      ·unfold GB at e;split at e
       ·split at e
        ·cases e;assumption
        ·cases e
       ·cases e
      ·exact ih a' l Ca e2 g hg
     ·cases h
    ·cases h
   ·cases h
  ·cases h;intro f hf;cases hf
theorem Sa{xs:List UInt8}{fs:List AU}(h:FL xs=.ok fs):∀f∈fs,B4 f:=by
 unfold FL at h;split at h
 ·cases h
 ·exact jJ xs _ 0 fs DH h
theorem AZ.A5{t:Nat}{c:AF}(h:AZ t c)(p:List UInt8)(hn:∀n b,Bz c.ks (Af (!c.first)) p=some (n,b)→n.toNat≤4611686018427387903):AZ t (c.A5 p).2:=by
 unfold AF.A5;split
 ·exact h
 split
 ·exact h
 ·rename_i number b e;split
  ·exact h
  split
  ·exact {h with closed:=by show 5≤10;omega,code:=by show 5≤_;omega}
  ·rename_i fs e2;split
   ·exact h
   ·rename_i hb;have hg:=h.AP.add number.toNat number.toNat (by have:=hn number b e;omega) (by rw [h.gm];omega);refine AZ.BT fs _ {h with AP:=hg.1,gm:=hg.2.trans h.gm} (fun f hf=>⟨.of (Sa e2 f hf),fun hbf=>hb ⟨f,hf,hbf⟩⟩)
theorem AZ.read{t:Nat}{c:AF}(h:AZ t c)(k AL:Int):AZ (t+1) (c.read k AL).2:=by
 unfold AF.read;split
 ·exact h.mono ET
 ·rename_i h1;obtain⟨h5,h6,h7⟩:=QH (by simpa using h1:c.stream k=0);have g:=h.rs _ h7
  have g1:FY c.AG t (c.Eg k.toNat):=by
   unfold AF.Eg;split
   ·rename_i hc;exact⟨g.co,g.cf,g.cm,g.rh,g.hw,g.pre,(fun h=>by rw [hc.1]at h;cases h),g.rt,g.en,g.code,K? _,fun _=>hc.1⟩
   ·exact g
  generalize hr:c.Eg k.toNat=r at g1⊢;dsimp only
  have ho:(c.r k.toNat).given=true→r.state≠0:=by
   intro hg h0
   have:r.state=(c.Eg k.toNat).state:=by rw [hr]
   unfold AF.Eg at this;split at this
   ·simp at this;omega
   ·rename_i hc;exact hc ⟨hg,this▸h0⟩
  have hgr:r.given=(c.r k.toNat).given:=by
   have:r.given=(c.Eg k.toNat).given:=by rw [hr]
   rw [this];unfold AF.Eg;split<;>rfl
  split
  ·rename_i h0
   have hg:r.given=false:=by
    cases e:r.given
    ·rfl
    ·exact absurd h0 (ho (hgr▸e))
   obtain⟨p1,p2⟩:=NR g1.co.inc g1.rh g1.co.hi
   have p3:=(IW r.AE.l r.read r.high g1.co.inc g1.rh)
   have hn:AF.HO r AL≤(AR r.read r.high r.AE.l).1-r.read:=Nat.min_le_left _ _;have hl:=g1.len hg;have hw:=g1.hw;have hrh:=g1.rh;have hrt:=g1.rt;have hw2:=h.w2
   have hbase:FY c.AG (t+1) {r with b:=r.b.drop (AF.HO r AL),read:=r.read+AF.HO r AL}:=by
    refine⟨g1.co,g1.cf,g1.cm,by show r.read+AF.HO r AL≤r.high;omega,by show r.high≤r.read+AF.HO r AL+c.AG;omega,fun n hnn=>?_,fun _=>?_,by show r.read+AF.HO r AL≤1024*(t+1);omega,g1.en,g1.code,g1.st,g1.On⟩
    ·by_cases hq:n<r.read
     ·exact g1.pre n hq
     ·exact p3.2.1 n Ca (by have:n<r.read+AF.HO r AL:=hnn;omega)
    ·show(r.b.drop _).length=r.high-(r.read+_);rw [N!];omega
   refine(h.mono ET).BS ?_;split
   ·exact⟨hbase.co,hbase.cf,hbase.cm,hbase.rh,hbase.hw,hbase.pre,hbase.len,hbase.rt,hbase.en,hbase.code,by show 1≤2;omega,(fun h=>by cases h)⟩
   ·exact hbase
  ·exact(h.mono ET).BS (g1.mono ET)
theorem wM{xs ys:List UInt8}{a:Nat}(h:xs.drop a=ys)(i:Nat):Gr xs (a+i)=(ys.getD i 0).toNat:=by
 subst h;unfold Gr;simp only [Z?,O?]
theorem W8{xs ys:List UInt8}{a:Nat}(h:xs.drop a=ys)(h0:0<ys.length):a+ys.length=xs.length:=by
 subst h;rw [N!]at h0⊢;omega
theorem IB{xs ys r:List UInt8}{a:Nat}(h:xs.drop a=ys++r):xs.drop (a+ys.length)=r:=by
 rw [←Z_,h,List.drop_left]
theorem kY(n:Nat):0<(AV n).length:=by
 unfold AV
 repeat' split
 all_goals simp
theorem H1{xs r:List UInt8}{a n:Nat}(hn:n≤4611686018427387903)(h:xs.drop a=AV n++r):DG xs a=some (n,a+(AV n).length):=by
 have hb:=wM h;have hl:a+(AV n++r).length=xs.length:=W8 h (by have:=kY n;rw [J!];omega);rw [J!]at hl;have b0:=hb 0;rw [Nat.add_zero]at b0;unfold AV at hb b0 hl⊢;split at hl
 ·rename_i h1;rw [if_pos h1]at b0⊢;simp at b0 hl⊢
  have e:Gr xs a=n:=by omega
  have es:C5 xs a=1:=by unfold C5;rw [e,show n/64=0 by omega]
  unfold DG;rw [es,if_pos ⟨Ca,Ca⟩];simp [IA,e];omega
 ·rename_i h1;rw [if_neg h1]at b0 hb⊢;split at hl
  ·rename_i h2;rw [if_pos h2]at b0 hb⊢;have b1:=hb 1;simp at b0 b1 hl⊢
   have e:Gr xs a=n/256+64:=by omega
   have es:C5 xs a=2:=by unfold C5;rw [e,show(n/256+64)/64=1 by omega]
   unfold DG;rw [es,if_pos ⟨Ca,Ca⟩];simp [IA,e,b1];omega
  ·rename_i h2;rw [if_neg h2]at b0 hb⊢;split at hl
   ·rename_i h3;rw [if_pos h3]at b0 hb⊢;have b1:=hb 1;have b2:=hb 2;have b3:=hb 3;simp at b0 b1 b2 b3 hl⊢
    have e:Gr xs a=n/16777216+128:=by omega
    have es:C5 xs a=4:=by unfold C5;rw [e,show(n/16777216+128)/64=2 by omega]
    unfold DG;rw [es,if_pos ⟨Ca,Ca⟩];simp [IA,e,b1,b2,b3];omega
   ·rename_i h3;rw [if_neg h3]at b0 hb⊢;have b1:=hb 1;have b2:=hb 2;have b3:=hb 3;have b4:=hb 4;have b5:=hb 5;have b6:=hb 6;have b7:=hb 7;simp at b0 b1 b2 b3 b4 b5 b6 b7 hl⊢
    have e:Gr xs a=n/72057594037927936+192:=by omega
    have es:C5 xs a=8:=by unfold C5;rw [e,show(n/72057594037927936+192)/64=3 by omega]
    unfold DG;rw [es,if_pos ⟨Ca,Ca⟩];simp [IA,e,b1,b2,b3,b4,b5,b6,b7];omega
theorem Wq{xs r:List UInt8}{a n:Nat}(hn:n<4)(h:xs.drop a=AV n++r):Ho xs a=some (n,a+(AV n).length):=by
 unfold Ho;rw [H1 Ca h];simp [hn]
theorem rG{xs ds r:List UInt8}{a:Nat}(hn:ds.length≤4611686018427387903)(h:xs.drop a=AV ds.length++(ds++r)):Ig xs a=some (ds,a+(AV ds.length).length+ds.length):=by
 unfold Ig;rw [H1 hn h];have h2:=IB h
 have h3:xs.length-(a+(AV ds.length).length)=(ds++r).length:=by rw [←h2,N!]
 rw [J!]at h3;simp only [];rw [if_pos Ca,h2,X! rfl]
def Jb(rs:List AW):Nat→Nat→List UInt8
 |_,0=>[]
 |j,n+1=>AV ((rg rs j).lo-(rg rs (j+1)).hi-2)++(AV ((rg rs (j+1)).hi-(rg rs (j+1)).lo)++Jb rs (j+1) n)
theorem U8(rs:List AW):∀n j,B3 rs j++Jb rs j n=B3 rs (j+n)
 |0,j=>by simp [Jb]
 |n+1,j=>by
  have:=U8 rs n (j+1)
  rw [show j+1+n=j+(n+1) by omega]at this;rw [←this,Jb,B3];simp only [K!]
theorem Xr{xs r:List UInt8}{rs:List AW}:∀(n j a:Nat),(∀i,i≤j+n→Fr rs i)→xs.drop a=Jb rs j n++r→GF xs n (rg rs j).lo a=some ((ac n).map (fun i=>rg rs (j+1+i)),a+(Jb rs j n).length)
 |0,j,a,_,_=>by simp [GF,Jb]
 |n+1,j,a,hok,h=>by
  have h0:=hok j Ca;have h1:=hok (j+1) Ca;unfold Fr at h0 h1;rw [Nat.add_sub_cancel]at h1
  have h12:2≤(rg rs j).lo∧(rg rs (j+1)).hi+2≤(rg rs j).lo:=by
   rcases h1.2.2 with h|h
   ·omega
   ·exact h
  rw [Jb,K!,K!]at h;have e1:=H1 Ca h;have g1:=IB h;have e2:=H1 Ca g1;have g2:=IB g1;have ih:=Xr n (j+1) _ (fun i hi=>hok i Ca) g2
  have el:(rg rs j).lo-2-((rg rs j).lo-(rg rs (j+1)).hi-2)-((rg rs (j+1)).hi-(rg rs (j+1)).lo)=(rg rs (j+1)).lo:=by omega
  have eh:(rg rs j).lo-2-((rg rs j).lo-(rg rs (j+1)).hi-2)=(rg rs (j+1)).hi:=by omega
  rw [GF,e1];simp only [];rw [e2];simp only [];rw [if_pos Ca,el,ih,eh];simp only [P_.injEq,Prod.mk.injEq];refine⟨?_,by rw [Jb,J!,J!];omega⟩;rw [R?,U!,ab];refine V_.2 ⟨rfl,T! fun i _=>?_⟩;simp only [Function.comp];rw [show j+1+1+i=j+1+(i+1) by omega]
theorem lF(rs:List AW):(ac rs.length).map (rg rs)=rs:=by
 apply R! Cg;intro i h1 h2;simp [rg,Z?,L? h2]
theorem nQ{xs r:List UInt8}{rs:List AW}{a:Nat}(hok:GW rs)(hl:rs.length≤4611686018427387903)
  (h:xs.drop a=AV (rg rs 0).hi++AV (rs.length-1)++AV ((rg rs 0).hi-(rg rs 0).lo)++B3 rs (rs.length-1)++r):
  Fy xs a=some (rs,a+(AV (rg rs 0).hi++AV (rs.length-1)++AV ((rg rs 0).hi-(rg rs 0).lo)++B3 rs (rs.length-1)).length):=by
 have hne:0<rs.length:=N_.2 hok.1;have h0:=hok.2 0 hne;unfold Fr at h0;have hf:=U8 rs (rs.length-1) 0;rw [show B3 rs 0=[]from rfl,X?,Nat.zero_add]at hf;rw [←hf]at h⊢;rw [K!,K!,K!]at h;have e1:=H1 Ca h;have g1:=IB h;have e2:=H1 Ca g1;have g2:=IB g1;have e3:=H1 Ca g2;have g3:=IB g2;have e4:=Xr (rs.length-1) 0 _ (fun i hi=>hok.2 i Ca) g3
 have el:(rg rs 0).hi-((rg rs 0).hi-(rg rs 0).lo)=(rg rs 0).lo:=by omega
 unfold Fy;rw [e1];simp only [];rw [e2];simp only [];rw [e3];simp only [];rw [if_pos Ca,el,e4];simp only [P_.injEq,Prod.mk.injEq,J!];refine⟨?_,Ca⟩
 conv=>rhs;rw [←lF rs,show rs.length=(rs.length-1)+1 by omega]
 rw [R?,U!,ab];refine V_.2 ⟨rfl,T! fun i _=>?_⟩;simp only [Function.comp];rw [show 0+1+i=i+1 by omega]
def Dr(f:AU):AU:=
 if f.kind=1 then⟨1,0,0,0,false,⟨#[]⟩,[]⟩else if f.kind=2 then⟨2,0,0,0,false,⟨#[]⟩,[]⟩
 else if f.kind=3 then⟨3,0,0,0,false,⟨#[]⟩,f.ranges⟩else if f.kind=4 then⟨4,f.stream,f.offset,f.code,false,⟨#[]⟩,[]⟩
 else if f.kind=5 then⟨5,f.stream,f.offset,0,f.fin,f.data,[]⟩else⟨6,0,0,f.code,false,⟨#[]⟩,[]⟩
theorem Rw{f:AU}(h:Dd f.kind):f.kind=1∨f.kind=2∨f.kind=3∨f.kind=4∨f.kind=5∨f.kind=6:=by unfold Dd at h;omega
theorem uX{f:AU}(h:B4 f):Ah (Dr f)=Ah f:=by
 rcases Rw h.2.2.2.2.2 with e|e|e|e|e|e<;>simp [Dr,Ah,e]
theorem dC{f:AU}(h:B4 f):B4 (Dr f):=by
 obtain⟨h1,h2,h3,h4,⟨h5,h6⟩,h7⟩:=h;rcases Rw h7 with e|e|e|e|e|e
 ·simp [Dr,e,B4,Hb,Dd]
 ·simp [Dr,e,B4,Hb,Dd]
 ·simp [Dr,e,B4,Hb,Dd,h5 e]
 ·simp [Dr,e,B4,Hb,Dd];omega
 ·have:=h6 e
  simp [Dr,e,B4,Hb,Dd];omega
 ·simp [Dr,e,B4,Hb,Dd];omega
theorem yO{xs r:List UInt8}{f:AU}{a:Nat}(hok:B4 f)(hl:f.ranges.length≤4611686018427387903)(h:xs.drop a=Ah f++r):GB xs a=some (Dr f,a+(Ah f).length):=by
 have hno:=dC hok
 suffices hk:CF xs (Et (xs.getD a 0)) (decide (xs.getD a 0=9)) (a+1)=some (Dr f,a+(Ah f).length) by
  unfold GB;rw [hk];simp only [];rw [if_pos hno]
 have hd:∀t ys,Ah f=t::ys→xs.getD a 0=t∧xs.drop (a+1)=ys++r:=by
  intro t ys e;rw [e]at h;constructor
  ·have:(xs.drop a).getD 0 0=t:=by rw [h];rfl
   simpa [Z?,O?]using this
  ·rw [←Z_,h];rfl
 obtain⟨h1,h2,h3,h4,⟨h5,h6⟩,h7⟩:=hok;rcases Rw h7 with e|e|e|e|e|e
 ·have ee:Ah f=0:: []:=by simp [Ah,e]
  obtain⟨t1,t2⟩:=hd _ _ ee;rw [t1,ee];simp [CF,Et,Dr,e]
 ·have ee:Ah f=1:: []:=by simp [Ah,e]
  obtain⟨t1,t2⟩:=hd _ _ ee;rw [t1,ee];simp [CF,Et,Dr,e]
 ·have ee:Ah f=2::(AV (rg f.ranges 0).hi++AV (f.ranges.length-1)++AV ((rg f.ranges 0).hi-(rg f.ranges 0).lo)++B3 f.ranges (f.ranges.length-1)):=by simp [Ah,e,KT]
  obtain⟨t1,t2⟩:=hd _ _ ee;have er:=nQ (h5 e) hl t2;rw [t1,ee,N?];simp only [CF,Et,Dr,e];simp only [er]
  simp
  omega
 ·have ee:Ah f=4::(AV f.stream.toNat++AV f.code++AV f.offset):=by simp [Ah,e]
  obtain⟨t1,t2⟩:=hd _ _ ee;rw [K!,K!]at t2;have e1:=Wq Ca t2;have g1:=IB t2;have e2:=H1 h2 g1;have g2:=IB g1;have e3:=H1 h1 g2;rw [t1,ee,N?,J!,J!];simp only [CF,Et,Dr,e];simp only [e1,e2,e3]
  simp
  omega
 ·have hdl:f.data.data.toList.length=f.data.size:=by rw [Array.length_toList];rfl
  have ee:Ah f=(bif f.fin then 9 else 8)::(AV f.stream.toNat++AV f.offset++AV f.data.size++f.data.data.toList):=by simp [Ah,e]
  obtain⟨t1,t2⟩:=hd _ _ ee;rw [K!,K!,K!,←hdl]at t2;have e1:=Wq Ca t2;have g1:=IB t2;have e2:=H1 h1 g1;have g2:=IB g1;have h6':=h6 e;have e3:=rG Ca g2
  have hk:Et (bif f.fin then 9 else 8)=5:=by cases f.fin<;>rfl
  have h9:decide ((bif f.fin then(9:UInt8)else 8)=9)=f.fin:=by cases f.fin<;>rfl
  rw [t1,ee,hk,h9,N?,J!,J!,J!];simp only [CF,Dr,e];simp only [e1,e2,e3];simp [AX];omega
 ·have ee:Ah f=28::AV f.code:=by simp [Ah,e]
  obtain⟨t1,t2⟩:=hd _ _ ee;have e1:=H1 h2 t2;rw [t1,ee,N?];simp only [CF,Et,Dr,e];simp only [e1]
  simp
  omega
theorem PA(f:AU):0<(Ah f).length:=by
 unfold Ah
 repeat' split
 all_goals first|simp|(unfold KT;simp)
theorem WK{xs:List UInt8}:∀(fs:List AU) (a:Nat),(∀f∈fs,B4 f∧f.ranges.length≤4611686018427387903)→xs.drop a=Ap fs→Fa xs a=.ok (fs.map Dr)
 |[],a,_,h=>by
  have:xs.length≤a:=List.drop_eq_nil_iff.1 h
  exact Vk Ca
 |f::fs,a,hok,h=>by
  have h':xs.drop a=Ah f++Ap fs:=h;have h1:=yO (hok f Cg).1 (hok f Cg).2 h';have hp:=PA f;have hl:=W8 h' Pg;rw [J!]at hl;rw [Z0 Ca h1,WK fs _ (fun g hg=>hok g Cx) (IB h')];rfl
theorem Xp{fs:List AU}{ys:List UInt8}(he:GN fs=some ys)(hl:∀f∈fs,f.ranges.length≤4611686018427387903):FL ys=.ok (fs.map Dr)∧GN (fs.map Dr)=some ys∧Ap (fs.map Dr)=Ap fs:=by
 unfold GN at he;split at he
 ·rename_i hc;obtain rfl:=P_.inj he
  have hall:∀f∈fs,B4 f∧f.ranges.length≤4611686018427387903:=fun f hf=>⟨hc.2 f hf,hl f hf⟩
  have hsame:Ap (fs.map Dr)=Ap fs:=by
   unfold Ap;rw [List.flatMap_map];clear he hall hl;obtain⟨-,hc⟩:=hc
   induction fs with
   |nil=>rfl
   |cons f fs ih=>simp only [V!];rw [uX (hc f Cg),ih (fun g hg=>hc g Cx)]
  have hne:Ap fs≠ []:=by
   cases fs with
   |nil=>exact absurd rfl hc.1
   |cons f fs=>
    intro h;have hp:=PA f
    have:(Ah f++Ap fs).length=0:=by rw [show Ah f++Ap fs=Ap (f::fs)from rfl,h];rfl
    rw [J!]at this;omega
  refine⟨?_,?_,hsame⟩
  ·unfold FL;rw [if_neg hne];exact WK fs 0 hall rfl
  ·unfold GN
   rw [if_pos ⟨by simpa using hc.1,fun g hg=>by
    obtain⟨f,hf,rfl⟩:=List.mem_map.1 hg
    exact dC (hc.2 f hf)⟩,hsame]
 ·cases he
theorem SP(l m:List AU):Ap (l++m)=Ap l++Ap m:=by simp [Ap]
theorem MP(f:AU):Ap [f]=Ah f:=by simp [Ap]
theorem O5(l:List AU):l.length≤(Ap l).length:=by
 induction l with
 |nil=>simp
 |cons f l ih=>have:=PA f;simp only [Ap,V!,J!,N?]at*;omega
structure G5(ws:List AY)(f:AU):Prop where
 ok:B4 f
 nm:Dr f=f
 fr:EU ws f
 rg:f.ranges.length≤8
structure Ip(ws:List AY)(d:BV):Prop where
 room:d.room≤284
 len:d.b.length≤d.room
 fr:∀f∈d.Aw,G5 ws f
structure H4(w w':AY):Prop where
 b:w'.b=w.b
 AE:w'.AE=w.AE
 finished:w'.finished=w.finished
 ended:w'.ended=w.ended
 given:w'.given=w.given
 code:w'.code=w.code
 high:w.high≤w'.high
theorem H4.refl(w:AY):H4 w w:=bU
theorem H4.trans{a b c:AY}(h:H4 a b)(g:H4 b c):H4 a c:=
 ⟨g.b.trans h.b,g.AE.trans h.AE,g.finished.trans h.finished,g.ended.trans h.ended,g.given.trans h.given,g.code.trans h.code,O! h.high g.high⟩
def Hz(w w':AY)(k:Nat)(f:AU):Prop:=
 (w.given=true∧w.DE=false∧f=IJ k w.code w.high∧w'={w with DE:=true})∨
 (w.given=false∧∃lo hi,lo≤hi∧hi≤w.b.length∧f=Bx k lo (w.finished&&decide (hi=w.b.length)) (cut w.b lo hi)∧(lo<hi∨f.fin=true)∧
  (∀n,lo≤n→n<hi→¬BE n w.Ae.l)∧(lo=hi→w.ending=false∧w.ended=false)∧
  w'={w with Ae:=if lo<hi then w.Ae.add lo (hi-1)else w.Ae,ending:=w.ending||f.fin,high:=max w.high hi})
theorem Mf{b:List UInt8}{lo hi:Nat}(h:hi≤b.length):(cut b lo hi).length=hi-lo:=by unfold cut;simp;omega
theorem dK{AG:Nat}{w w':AY}{d d':BV}{k lo hi:Nat}(hlo:lo≤hi)(hhi:hi≤w.b.length)(hg:w.given=false)
  (hs:∀n,lo≤n→n<hi→¬BE n w.Ae.l)(he:lo=hi→w.finished=true∧hi=w.b.length∧w.ending=false∧w.ended=false)
  (h:w.KU d k lo hi=some (w',d')):∃f,d.add f=some d'∧Hz w w' k f:=by
 unfold AY.KU at h;dsimp only at h;split at h
 ·cases h
 ·rename_i hc;split at h
  ·cases h
  ·rename_i d2 e;simp only [P_.injEq,Prod.mk.injEq]at h;obtain⟨rfl,rfl⟩:=h;refine⟨_,e,.inr ⟨hg,lo,_,?_,?_,rfl,?_,?_,?_,rfl⟩⟩
   ·omega
   ·omega
   ·by_cases hl:lo<hi
    ·left;omega
    ·right;obtain⟨h1,h2,_⟩:=he Ca
     have:min hi (lo+(d.room-d.b.length-((Ah (Bx k lo false (cut w.b lo hi))).length-(hi-lo))))=w.b.length:=by omega
     show(w.finished&&decide _)=true;rw [h1,this];simp
   ·intro n h1 h2;exact hs n h1 Ca
   ·intro h1;by_cases hl:lo<hi
    ·omega
    ·exact(he Ca).2.2
theorem dA{AG:Nat}{w w':AY}{d d':BV}{k:Nat}(hw:C7 AG w)(h:w.fill d k=some (w',d')):∃f,d.add f=some d'∧Hz w w' k f:=by
 unfold AY.fill at h;split at h
 ·rename_i hg;split at h
  ·cases h
  ·rename_i ht;split at h
   ·cases h
   ·rename_i d2 e;simp only [P_.injEq,Prod.mk.injEq]at h;obtain⟨rfl,rfl⟩:=h;exact⟨_,e,.inl ⟨hg,Sd,rfl,rfl⟩⟩
 ·rename_i hg;obtain⟨ga,gb,gc,gd,ge⟩:=IW w.Ae.l 0 w.b.length hw.so.inc Ff;split at h
  ·split at h
   ·cases h
   ·rename_i h1 h2;exact dK (AG:=AG) DH DH T7 (fun n h3 h4=>by omega) (fun _=>⟨by simp_all,rfl,by simp_all,by simp_all⟩) h
  ·rename_i h1;exact dK (AG:=AG) Ca gc T7 (gd Ca) (fun h=>by omega) h
theorem wS(rs:List AW):Dr (EY rs)=EY rs:=by rfl
theorem MJ(k off:Nat)(fin:Bool)(ds:List UInt8):(Bx k off fin ds).data.size=ds.length:=by simp [Bx]
theorem Tq{k off:Nat}{fin:Bool}{ds:List UInt8}(hk:k<4)(h:off+ds.length≤4611686018427387903):B4 (Bx k off fin ds):=by
 refine⟨by show off≤_;omega,K_ _,P0,Pv,⟨(fun h=>by cases h),fun _=>?_⟩,⟨by show(1:Int)≤5;omega,by show(5:Int)≤6;omega⟩⟩;rw [MJ];show ds.length+off≤_;omega
theorem Zh{k code off:Nat}(hk:k<4)(hc:code≤4611686018427387903)(ho:off≤4611686018427387903):B4 (IJ k code off):=
 ⟨ho,hc,P0,Pv,⟨(fun h=>by cases h),(fun h=>by cases h)⟩,⟨by show(1:Int)≤4;omega,by show(4:Int)≤6;omega⟩⟩
theorem VP{code:Nat}(hc:code≤4611686018427387903):B4 (Bn code):=
 ⟨K_ _,hc,by show(0:Int)≤0;omega,by show(0:Int)<4;omega,⟨(fun h=>by cases h),(fun h=>by cases h)⟩,⟨by show(1:Int)≤6;omega,by show(6:Int)≤6;omega⟩⟩
theorem bF{rs:List AW}(h:GW rs):B4 (EY rs):=
 ⟨K_ _,K_ _,by show(0:Int)≤0;omega,by show(0:Int)<4;omega,⟨fun _=>h,(fun h=>by cases h)⟩,⟨by show(1:Int)≤3;omega,by show(3:Int)≤6;omega⟩⟩
theorem Hz.Ae{AG:Nat}{w w':AY}{k:Nat}{f:AU}(hw:C7 AG w)(h:Hz w w' k f):H4 w w'∧C7 AG w':=by
 rcases h with⟨h1,h2,rfl,rfl⟩|⟨h1,lo,hi,h2,h3,rfl,h4,h5,h6,rfl⟩
 ·exact⟨bU,⟨hw.len,hw.so,hw.sf,hw.sm,hw.co,hw.cf,hw.cm,hw.room,hw.high,hw.code⟩⟩
 ·refine⟨⟨rfl,rfl,rfl,rfl,rfl,rfl,Y_ _ _⟩,?_⟩
  have hs:DF (if lo<hi then w.Ae.add lo (hi-1)else w.Ae) w.b.length∧(if lo<hi then w.Ae.add lo (hi-1)else w.Ae).floor=0∧(if lo<hi then w.Ae.add lo (hi-1)else w.Ae).AL=4096:=by
   split
   ·obtain⟨a,b,c,_⟩:=Jz (lo:=lo) (hi:=hi-1) hw.so hw.sf hw.sm hw.len Ca;exact⟨a,b,c⟩
   ·exact⟨hw.so,hw.sf,hw.sm⟩
  exact⟨hw.len,hs.1,hs.2.1,hs.2.2,hw.co,hw.cf,hw.cm,hw.room,by have:=hw.high;show max w.high hi≤w.b.length;omega,hw.code⟩
theorem Hz.put{AG:Nat}{ws:List AY}{w':AY}{k:Nat}{f:AU}(hw:Dm AG ws)(hk:k<4)(h:Hz (ws.getD k As) w' k f):G5 ws f∧(f.kind=4∨f.kind=5):=by
 have g:=hw.ok k hk;rcases h with⟨h1,h2,rfl,rfl⟩|⟨h1,lo,hi,h2,h3,rfl,h4,h5,h6,rfl⟩
 ·have hh:=g.high;have hl:=g.len;exact⟨⟨Zh hk g.code Ca,rfl,⟨P0,Pv,(fun h=>by cases h)⟩,K_ _⟩,.inl rfl⟩
 ·have hl:=g.len;have hcl:=Mf (lo:=lo) h3;refine⟨⟨Tq hk Ca,rfl,⟨P0,Pv,fun _=>?_⟩,K_ _⟩,.inr rfl⟩;rw [MJ,hcl];show lo+(hi-lo)≤(ws.getD (k:Int).toNat As).b.length;rw [Q?];omega
theorem G5.Ae{ws:List AY}{k:Nat}{w':AY}{f:AU}(h:G5 ws f)(hs:H4 (ws.getD k As) w'):G5 (ws.set k w') f:=
 ⟨h.ok,h.nm,EU.set (by rw [hs.b];exact K? _) f h.fr,h.rg⟩
theorem YZ{d d':BV}{f:AU}(h:d.add f=some d'):d'.Aw=d.Aw++[f]∧d'.room=d.room∧d'.b=d.b++Ah f∧d'.b.length≤d.room:=by
 unfold BV.add at h;split at h
 ·cases h
 ·rename_i hc;cases h;refine⟨rfl,rfl,?_,?_⟩
  ·show Ap (d.Aw++[f])=_;rw [SP,MP];rfl
  ·have:({d with Aw:=d.Aw++[f]}:BV).b=d.b++Ah f:=by show Ap (d.Aw++[f])=_;rw [SP,MP];rfl
   rw [this];omega
theorem Ta{AG:Nat}{ws:List AY}{w':AY}{d d':BV}{k:Nat}(hw:Dm AG ws)(hd:Ip ws d)(hk:k<4)(h:(ws.getD k As).fill d k=some (w',d')):
  Dm AG (ws.set k w')∧Ip (ws.set k w') d'∧d'.room=d.room∧d.b.length<d'.b.length∧H4 (ws.getD k As) w'∧
  ∃f,d'.Aw=d.Aw++[f]∧Hz (ws.getD k As) w' k f∧(f.kind=4∨f.kind=5):=by
 obtain⟨f,h1,h2⟩:=dA (hw.ok k hk) h;obtain⟨h3,h4⟩:=h2.Ae (hw.ok k hk);obtain⟨h5,h6⟩:=h2.put hw hk;obtain⟨a,b,c,e⟩:=YZ h1;refine⟨hw.set h4,⟨by rw [b];exact hd.room,by rw [b];exact e,fun g hg=>?_⟩,b,?_,h3,f,a,h2,h6⟩
 ·rw [a]at hg;rcases M!.1 hg with hg|hg
  ·exact(hd.fr g hg).Ae h3
  ·rw [L_.1 hg];exact h5.Ae h3
 ·rw [c,J!];have:=PA f;omega
theorem Uv{k:Nat}(Φ:AY→BV→Prop)(hstep:∀w d w' d',Φ w d→w.fill d k=some (w',d')→Φ w' d'):∀(n:Nat) (w:AY) (d:BV),Φ w d→Φ (FR k n w d).1 (FR k n w d).2
 |0,w,d,h=>h
 |n+1,w,d,h=>by
  rw [FR];split
  ·exact h
  ·rename_i w2 d2 e;exact Uv Φ hstep n w2 d2 (hstep _ _ _ _ h e)
theorem set_set{α:Type}(l:List α)(k:Nat)(x y:α):(l.set k x).set k y=l.set k y:=by simp
theorem TC(ws:List AY)(k:Nat):ws.set k (ws.getD k As)=ws:=by
 apply List.ext_getElem?;intro i;rw [List.getElem?_set];by_cases h:k=i
 ·subst h;by_cases h2:k<ws.length
  ·simp [h2]
  ·simp [h2]
 ·simp [h]
theorem T8(Φ:List AY→BV→Prop)(hl:∀ws d,Φ ws d→ws.length=4)(hstep:∀ws d k w' d',Φ ws d→k<4→(ws.getD k As).fill d k=some (w',d')→Φ (ws.set k w') d'):
  ∀(n k:Nat) (ws:List AY) (d:BV),k+n≤4→Φ ws d→Φ (Ed d ws k n).1 (Ed d ws k n).2
 |0,k,ws,d,_,h=>h
 |n+1,k,ws,d,hk,h=>by
  rw [Ed];refine T8 Φ hl hstep n (k+1) _ _ Ca ?_
  have:=Uv (k:=k) (fun w d=>Φ (ws.set k w) d) (fun w d w' d' h1 h2=>?_) (d.room+1) (ws.getD k As) d (by rw [TC];exact h)
  ·exact this
  ·have h3:=hl _ _ h1
   have h4:(ws.set k w).getD k As=w:=by rw [CY,if_pos ⟨rfl,by rw [O_]at h3;omega⟩]
   have h5:=hstep (ws.set k w) d k w' d' h1 Ca (by rw [h4];exact h2);rw [set_set]at h5;exact h5
structure Told(l:List AW):Prop where
 p:l.Pairwise (fun a b=>b.hi+2≤a.lo)
 r:∀r∈l,r.lo≤r.hi∧r.hi≤4611686018427387903
theorem Told.nil:Told []:=⟨.nil,fun _ h=>nomatch h⟩
theorem Told.take{l:List AW}(h:Told l)(n:Nat):Told (l.take n):=⟨h.p.sublist (List.take_sublist n l),fun r hr=>h.r r (S! hr)⟩
theorem Told.drop{l:List AW}(h:Told l)(n:Nat):Told (l.drop n):=⟨h.p.sublist (List.drop_sublist n l),fun r hr=>h.r r (S? hr)⟩
theorem TB{l:List AW}{i:Nat}(h:i<l.length):rg l i=l[i]:=by
 unfold rg;rw [J?,L? h,W_]
theorem Told.GW{l:List AW}(h:Told l)(hne:l≠ []):GW l:=by
 refine⟨hne,fun i hi=>?_⟩;have h1:=h.r (rg l i) (by rw [TB hi];exact W! hi);refine⟨h1.1,h1.2,?_⟩;by_cases h0:i=0
 ·exact .inl h0
 ·right;have h2:=List.pairwise_iff_getElem.1 h.p (i-1) i Ca hi Ca;rw [TB hi,TB (show i-1<l.length by omega)];exact⟨Ca,h2⟩
theorem Xy:∀(l:List AW),El l→l.Pairwise (fun a b=>a.hi+2≤b.lo)
 |[],_=>.nil
 |r::l,h=>List.Pairwise.cons (fun s hs=>by have:=h.2.1 s hs;omega) (Xy l h.2.2)
theorem Ul:∀(l:List AW),El l→∀r∈l,r.lo≤r.hi
 |[],_,r,hr=>nomatch hr
 |s::l,h,r,hr=>by
  rcases U_.1 hr with rfl|hr
  ·exact h.1
  ·exact Ul l h.2.2 r hr
theorem Told.of{s:BH}(h:DF s 4611686018427387904):Told s.l.reverse:=
 ⟨List.pairwise_reverse.2 (Xy _ h.inc),fun r hr=>by
  have hr':=List.mem_reverse.1 hr
  have:=h.hi r hr'
  exact⟨Ul _ h.inc r hr',Ca⟩⟩
theorem Qd(told:List AW)(room:Nat):∀n,0<n→0<Es told room n
 |0,h=>h
 |1,_=>Nat.one_pos
 |n+2,_=>by
  rw [Es];split
  ·exact Qd told room (n+1) Ca
  ·omega
theorem WH(told:List AW)(room:Nat):∀n,Es told room n≤1∨(Ah (EY (told.take (Es told room n)))).length≤room
 |0=>.inl Ff
 |1=>.inl DH
 |n+2=>by
  rw [Es];split
  ·exact WH told room (n+1)
  ·rename_i h;right;omega
theorem vN(r:AW):(Ah (EY [r])).length≤26:=by
 have v1:=CS r.hi;have v2:=CS 0;have v3:=CS (r.hi-r.lo)
 have:Ah (EY [r])=[2]++AV r.hi++AV 0++AV (r.hi-r.lo)++[]:=by rfl
 rw [this];simp only [J!,N?,Y!];omega
theorem t6{l:List AW}(h:0<l.length):∃r,l.take 1=[r]:=by
 cases l with
 |nil=>cases h
 |cons r l=>exact⟨r,rfl⟩
theorem Xe{c:AF}{t:Nat}(h:AZ t c){told:List AW}(hne:told≠ []):(Ah (EY (told.take (Es told (c.AI-16) told.length)))).length≤c.AI-16:=by
 have hl:0<told.length:=N_.2 hne;rcases WH told (c.AI-16) told.length with h1|h1
 ·have h2:=Qd told (c.AI-16) told.length hl
  have h3:Es told (c.AI-16) told.length=1:=by omega
  rw [h3];obtain⟨r,e⟩:=t6 hl;rw [e]
  have:=vN r
  have:=h.m1
  omega
 ·exact h1
theorem O1{c:AF}{t:Nat}(h:AZ t c){told:List AW}(ht:Told told)(hl:told.length≤8):Ip c.ws (c.Dj told):=by
 have hm2:=h.m2;refine⟨by show c.AI-16≤284;omega,?_,?_⟩
 ·show(Ap _).length≤c.AI-16;unfold AF.Dj;dsimp only;split
  ·exact Mz
  ·rename_i hne;rw [MP];exact Xe h hne
 ·intro f hf;unfold AF.Dj at hf;dsimp only at hf;split at hf
  ·cases hf
  ·rename_i hne;rw [L_.1 hf];have h1:0<told.length:=N_.2 hne;have h2:=Qd told (c.AI-16) told.length h1;refine⟨bF ((ht.take _).GW ?_),wS _,⟨by show(0:Int)≤0;decide,by show(0:Int)<4;decide,(fun h=>by cases h)⟩,?_⟩
   ·intro h3;have h4:=congrArg List.length h3;rw [P?,Y!]at h4;omega
   ·show(told.take _).length≤8;rw [P?];omega
structure IG(AG:Nat)(ws0:List AY)(d0:BV)(ws:List AY)(d:BV):Prop where
 Hf:Dm AG ws
 H7:Ip ws d
 room:d.room=d0.room
 Ae:∀k,H4 (ws0.getD k As) (ws.getD k As)
 Aw:∃l,d.Aw=d0.Aw++l∧∀f∈l,f.kind=4∨f.kind=5
theorem IG.refl{AG:Nat}{ws:List AY}{d:BV}(hw:Dm AG ws)(hd:Ip ws d):IG AG ws d ws d:=
 ⟨hw,hd,rfl,fun k=>.refl _,[],(L! _).symm,fun _ h=>nomatch h⟩
theorem IG.step{AG:Nat}{ws0:List AY}{d0:BV}{ws:List AY}{d:BV}(h:IG AG ws0 d0 ws d){k:Nat}{w':AY}{d':BV}(hk:k<4)
  (e:(ws.getD k As).fill d k=some (w',d')):IG AG ws0 d0 (ws.set k w') d'∧d.b.length<d'.b.length:=by
 obtain⟨h1,h2,h3,h4,h5,f,h6,h7,h8⟩:=Ta h.Hf h.H7 hk e;refine⟨⟨h1,h2,h3.trans h.room,fun j=>?_,?_⟩,h4⟩
 ·rw [CY];split
  ·rename_i e2;exact(h.Ae j).trans (by rw [←e2.1];exact h5)
  ·exact h.Ae j
 ·obtain⟨l,e1,e2⟩:=h.Aw;refine⟨l++[f],by rw [h6,e1,K!],fun g hg=>?_⟩;rcases M!.1 hg with hg|hg
  ·exact e2 g hg
  ·rw [L_.1 hg];exact h8
theorem sK{AG:Nat}{ws:List AY}{d:BV}(hw:Dm AG ws)(hd:Ip ws d):IG AG ws d (Ed d ws 0 4).1 (Ed d ws 0 4).2:=
 T8 (IG AG ws d) (fun ws' d' h=>h.Hf.len) (fun ws' d' k w' d2 h hk e=>(h.step hk e).1) 4 0 ws d DH (.refl hw hd)
def BP.mu(z:BP):Nat:=z.told.length+(10-z.c.BK.length)
structure DU(t:Nat)(z:BP):Prop where
 c:AZ t z.c
 told:Told z.told
 tl:z.told.length≤8
 nx:z.c.next+z.mu≤20*t
theorem DU.filled{t:Nat}{z:BP}(h:DU t z):IG z.c.AG z.c.ws (z.c.Dj z.told) z.filled.1 z.filled.2:=by
 unfold BP.filled;split
 ·exact sK h.c.ws (O1 h.c h.told h.tl)
 ·exact .refl h.c.ws (O1 h.c h.told h.tl)
theorem DU.stop{t:Nat}{z:BP}(h:DU t z):AZ t {z.c with ws:=z.filled.1}:=by
 have hf:=h.filled
 exact h.c.Vp hf.Hf fun f hfr=>⟨hfr.1,hfr.2.1,fun hk=>by
  have:=hfr.2.2 hk
  rw [(hf.Ae f.stream.toNat).b];exact this⟩
theorem oG(c:AF):(c.Dj []).Aw=[]:=rfl
theorem pW(c:AF){told:List AW}(h:told≠ []):(c.Dj told).Aw=[EY (told.take (Es told (c.AI-16) told.length))]:=by
 unfold AF.Dj;rw [if_neg h]
theorem kP(c:AF)(told:List AW):EC (c.Dj told).Aw=false:=by
 unfold AF.Dj;dsimp only;split
 ·rfl
 ·rfl
theorem DU.VO{t:Nat}{z:BP}(h:DU t z)(hw:EC z.filled.2.Aw=true):z.c.BK.length<10:=by
 by_cases hc:z.c.BK.length<10
 ·exact hc
 ·exfalso
  have:z.filled=(z.c.ws,z.c.Dj z.told):=by unfold BP.filled;rw [if_neg hc]
  rw [this,kP]at hw;cases hw
theorem kR(l:List AU):l.length≤(Ap l).length:=O5 l
theorem DU.step{t:Nat}{z:BP}(h:DU t z)(hne:z.filled.2.Aw≠ []):DU t z.step∧z.step.mu<z.mu:=by
 have hf:=h.filled;have hs:=h.stop;have hc:=h.c
 have hmu:z.step.mu+1≤z.mu:=by
  have htl:z.step.told.length+(if z.told=[]then 0 else 1)≤z.told.length:=by
   show(z.told.drop _).length+_≤_;rw [N!];split
   ·omega
   ·rename_i h1;have h2:=N_.2 h1;have h3:=Qd z.told (z.c.AI-16) z.told.length h2;omega
  unfold BP.mu;by_cases hw:EC z.filled.2.Aw=true
  ·have h10:=h.VO hw
   have hfl:z.step.c.BK.length=z.c.BK.length+1:=by
    show(if EC z.filled.2.Aw=true then _ else _:List Dl).length=_;rw [if_pos hw,J!];rfl
   rw [hfl];omega
  ·have hfl:z.step.c.BK.length=z.c.BK.length:=by
    show(if EC z.filled.2.Aw=true then _ else _:List Dl).length=_;rw [if_neg hw]
   have htn:z.told≠ []:=by
    intro h0;obtain⟨l,e1,e2⟩:=hf.Aw;rw [h0,oG,X?]at e1
    cases hl:l with
    |nil=>rw [hl]at e1;exact hne e1
    |cons f l'=>
     apply hw;rw [e1,hl]
     have:=e2 f (by rw [hl];simp)
     simp only [EC,List.any_cons,Bool.or_eq_true,decide_eq_true_eq]
     left;rcases this with h|h<;>rw [h]<;>decide
   rw [if_neg htn]at htl;rw [hfl];omega
 have hnx:=h.nx
 have hlen:z.filled.2.Aw.length≤284:=by
  have h1:=kR z.filled.2.Aw;have h2:=hf.H7.len;have h3:=hf.H7.room;have h4:z.filled.2.b.length=(Ap z.filled.2.Aw).length:=rfl;omega
 refine⟨⟨?_,h.told.drop _,?_,?_⟩,hmu⟩
 ·by_cases hw:EC z.filled.2.Aw=true
  ·have h10:=h.VO hw
   have e:z.step.c={z.c with ws:=z.filled.1,next:=z.c.next+1,BK:=z.c.BK++[⟨z.c.next,z.c.now,z.filled.2.Aw⟩]}:=by
    refine ZN ?_;rw [if_pos hw]
   rw [e];refine {hs with fl:=?_,Ao:=?_,cnt:=?_,nx:=?_,lg:=?_}
   ·show(z.c.BK++[_]).length≤10;rw [J!];simp only [S_];omega
   ·intro p hp;show TW (z.c.next+1) z.c.now z.filled.1 p
    have old:∀p,p∈z.c.BK∨p∈z.c.lost→TW (z.c.next+1) z.c.now z.filled.1 p:=fun p hp=>
     let g:=hs.Ao p hp
     ⟨R_ g.num,g.at_,g.len,g.fr⟩
    rcases hp with hp|hp
    ·rcases M!.1 hp with hp|hp
     ·exact old p (.inl hp)
     ·rw [L_.1 hp];exact⟨Nat.lt_succ_self _,K? _,by show z.filled.2.Aw.length≤300;omega,fun f hfr=>(hf.H7.fr f hfr).fr⟩
    ·exact old p (.inr hp)
   ·show(z.c.BK++[_]).length+z.c.lost.length≤z.c.next+1
    have:=hc.cnt
    rw [J!];simp only [S_];omega
   ·show z.c.next+1≤20*t;omega
   ·show z.c.BZ≤z.c.next+1
    have:=hc.lg;omega
  ·have e:z.step.c={z.c with ws:=z.filled.1,next:=z.c.next+1}:=by
    refine ZN ?_;rw [if_neg hw]
   rw [e];refine {hs with Ao:=?_,cnt:=?_,nx:=?_,lg:=?_}
   ·intro p hp;have g:=hs.Ao p hp;exact⟨R_ g.num,g.at_,g.len,g.fr⟩
   ·show z.c.BK.length+z.c.lost.length≤z.c.next+1
    have:=hc.cnt;omega
   ·show z.c.next+1≤20*t;omega
   ·show z.c.BZ≤z.c.next+1
    have:=hc.lg;omega
 ·show(z.told.drop _).length≤8
  have:=h.tl
  rw [N!];omega
 ·show z.c.next+1+z.step.mu≤20*t;omega
theorem WW{t:Nat}:∀(n:Nat) (z:BP),DU t z→z.mu<n→DM n z=DM (n+1) z
 |0,z,_,h=>absurd h (Q_ _)
 |n+1,z,h,hn=>by
  rw [DM]
  conv=>rhs;rw [DM]
  split
  ·rfl
  ·rename_i hne;obtain⟨h1,h2⟩:=h.step hne;exact WW n _ h1 Ca
theorem iQ{t:Nat}{z:BP}(h:DU t z)(hne:z.filled.2.Aw≠ []):DM 40 z=DM 40 z.step:=by
 obtain⟨h1,h2⟩:=h.step hne
 have hmu:z.mu≤18:=by have:=h.tl;unfold BP.mu;omega
 rw [DM,if_neg hne];exact WW 39 _ h1 Ca
theorem p6{z:BP}(e:z.filled.2.Aw=[]):DM 40 z={z with c:={z.c with ws:=z.filled.1}}:=by
 rw [DM,if_pos e]
theorem W9{t:Nat}:∀(n:Nat) (z:BP),DU t z→AZ t (DM n z).c
 |0,z,h=>h.c
 |n+1,z,h=>by
  rw [DM];split
  ·exact h.stop
  ·rename_i hne;exact W9 n _ (h.step hne).1
theorem DU.begin{t:Nat}{c:AF}(h:AZ t c):DU (t+1) ⟨{c with answer:=false},if c.answer then c.AP.l.reverse else [],[]⟩:=by
 have hn:=h.nx
 have hgl:c.AP.l.length≤8:=by have:=h.AP.len;rw [h.gm]at this;exact this
 have hm:=h.mono ET;refine⟨{hm with},?_,?_,?_⟩
 ·show Told (if c.answer=true then c.AP.l.reverse else []);split
  ·exact Told.of h.AP
  ·exact Told.nil
 ·show(if c.answer=true then c.AP.l.reverse else []).length≤8;split
  ·rw [T?];exact hgl
  ·exact Mz
 ·show c.next+((if c.answer=true then c.AP.l.reverse else []).length+(10-c.BK.length))≤20*(t+1)
  have:(if c.answer=true then c.AP.l.reverse else []).length≤8:=by
   split
   ·rw [T?];exact hgl
   ·exact Mz
  omega
theorem AZ.Fm{t:Nat}{c:AF}(h:AZ t c):AZ (t+1) c.Fm.2:=by
 have hm:=h.mono ET;have hn:=h.nx;unfold AF.Fm;split
 ·exact hm
 ·refine {hm with Ao:=?_,cnt:=?_,nx:=?_,lg:=?_}
  ·intro p hp;have g:=hm.Ao p hp;exact⟨R_ g.num,g.at_,g.len,g.fr⟩
  ·show c.BK.length+c.lost.length≤c.next+1
   have:=h.cnt;omega
  ·show c.next+1≤20*(t+1);omega
  ·show c.BZ≤c.next+1
   have:=h.lg;omega
theorem AZ.A3{t:Nat}{c:AF}(h:AZ t c):AZ (t+1) c.A3.2:=by
 unfold AF.A3;split
 ·exact h.Fm
 ·exact W9 40 _ (DU.begin h)
theorem XF{k AG:Nat}(hk:k<4):∀(n:Nat) (ws:List AY) (w:AY) (d:BV),Dm AG ws→ws.getD k As=w→Ip ws d→d.room-d.b.length<n→FR k n w d=FR k (n+1) w d
 |0,ws,w,d,_,_,_,h=>absurd h (Q_ _)
 |n+1,ws,w,d,hw,he,hd,hn=>by
  rw [FR]
  conv=>rhs;rw [FR]
  cases e:w.fill d k with
  |none=>rfl
  |some z=>
   obtain⟨w2,d2⟩:=z;dsimp only;rw [←he]at e;obtain⟨h1,h2,h3,h4,_⟩:=Ta hw hd hk e;have h5:=h2.len;refine XF hk n (ws.set k w2) w2 d2 h1 ?_ h2 cJ;rw [CY,if_pos ⟨rfl,Tf⟩]
theorem tX{k AG:Nat}(hk:k<4){ws:List AY}{d:BV}{w2:AY}{d2:BV}(hw:Dm AG ws)(hd:Ip ws d)(e:(ws.getD k As).fill d k=some (w2,d2)):
  FR k (d.room+1) (ws.getD k As) d=FR k (d2.room+1) w2 d2:=by
 obtain⟨h1,h2,h3,h4,_⟩:=Ta hw hd hk e;rw [FR,e];dsimp only;have h5:=h2.len;rw [h3];exact XF hk d.room (ws.set k w2) w2 d2 h1 (by rw [CY,if_pos ⟨rfl,Tf⟩]) h2 cJ
theorem lB{k:Nat}{w:AY}{d:BV}{n:Nat}(e:w.fill d k=none):FR k n w d=(w,d):=by
 cases n with
 |zero=>rfl
 |succ n=>rw [FR,e]
def Nr(w:AY):Prop:=w.given=true∨(w.finished=true∧w.high=w.b.length)
structure Di(w w':AY):Prop where
 b:∃xs,w'.b=w.b++xs
 high:w.high≤w'.high
 fin:w.finished=true→w'.finished=true∧w'.b=w.b
 CL:w.given=true→w'.given=true∧w'.code=w.code
 fz:Nr w→w'.high=w.high
theorem Di.refl(w:AY):Di w w:=⟨⟨[],(L! _).symm⟩,K? _,fun h=>⟨h,rfl⟩,fun h=>⟨h,rfl⟩,fun _=>rfl⟩
theorem Di.frozen{w w':AY}(h:Di w w')(f:Nr w):Nr w':=by
 have h2:=h.fz f;rcases f with f|⟨f1,f2⟩
 ·exact .inl (h.CL f).1
 ·exact .inr ⟨(h.fin f1).1,by rw [h2,(h.fin f1).2,f2]⟩
theorem Di.trans{a b c:AY}(h:Di a b)(g:Di b c):Di a c:=by
 refine⟨?_,O! h.high g.high,fun e=>?_,fun e=>?_,fun e=>(g.fz (h.frozen e)).trans (h.fz e)⟩
 ·obtain⟨xs,e1⟩:=h.b;obtain⟨ys,e2⟩:=g.b;exact⟨xs++ys,by rw [e2,e1,K!]⟩
 ·obtain⟨e1,e2⟩:=h.fin e;obtain⟨e3,e4⟩:=g.fin e1;exact⟨e3,e4.trans e2⟩
 ·obtain⟨e1,e2⟩:=h.CL e;obtain⟨e3,e4⟩:=g.CL e1;exact⟨e3,e4.trans e2⟩
theorem Di.same{w w':AY}(h:Gh w w'):Di w w':=
 ⟨⟨[],by rw [h.b,L!]⟩,Nat.le_of_eq h.high.symm,fun e=>⟨h.finished.trans e,h.b⟩,fun e=>⟨h.given.trans e,h.code⟩,fun _=>h.high⟩
theorem Di.len{w w':AY}(h:Di w w'):w.b.length≤w'.b.length:=by
 obtain⟨xs,e⟩:=h.b;rw [e,J!];omega
theorem Di.get{w w':AY}(h:Di w w'){p:Nat}(hp:p<w.b.length):w'.b.getD p 0=w.b.getD p 0:=by
 obtain⟨xs,e⟩:=h.b;rw [e,J?,J?,M? hp]
theorem Di.cut{w w':AY}(h:Di w w'){lo hi:Nat}(hp:hi≤w.b.length):cut w'.b lo hi=cut w.b lo hi:=by
 obtain⟨xs,e⟩:=h.b;unfold Go.Proofs.YtgfdlpcdjklcoaaGreatDoor.cut;rw [e,List.take_append_of_le_length hp]
structure JJ(R:Nat→Prop)(ws:List AY)(f:AU):Prop where
 kind:f.kind=3∨f.kind=4∨f.kind=5
 HY:f.kind=3→∀r∈f.ranges,∀n,r.lo≤n→n≤r.hi→R n
 reset:f.kind=4→(ws.getD f.stream.toNat As).given=true∧f.code=(ws.getD f.stream.toNat As).code∧f.offset=(ws.getD f.stream.toNat As).high
 data:f.kind=5→f.offset+f.data.size≤(ws.getD f.stream.toNat As).high∧f.data.data.toList=cut (ws.getD f.stream.toNat As).b f.offset (f.offset+f.data.size)
 fin:f.kind=5→f.fin=true→(ws.getD f.stream.toNat As).finished=true∧(ws.getD f.stream.toNat As).high=(ws.getD f.stream.toNat As).b.length∧f.offset+f.data.size=(ws.getD f.stream.toNat As).b.length
theorem JJ.grow{R R':Nat→Prop}{ws ws':List AY}{f:AU}(h:JJ R ws f)(hR:∀n,R n→R' n)(hg:∀k,Di (ws.getD k As) (ws'.getD k As))
  (hh:f.kind=5→(ws.getD f.stream.toNat As).high≤(ws.getD f.stream.toNat As).b.length):JJ R' ws' f:=by
 have g:=hg f.stream.toNat;refine⟨h.kind,fun e r hr n a b=>hR n (h.HY e r hr n a b),fun e=>?_,fun e=>?_,fun e e2=>?_⟩
 ·obtain⟨a,b,c⟩:=h.reset e;exact⟨(g.CL a).1,b.trans (g.CL a).2.symm,c.trans (g.fz (.inl a)).symm⟩
 ·obtain⟨a,b⟩:=h.data e
  have:=g.high
  exact⟨Ca,b.trans (g.cut (by have:=hh e;omega)).symm⟩
 ·obtain⟨a,b,c⟩:=h.fin e e2;have e3:=g.fz (.inr ⟨a,b⟩);obtain⟨e4,e5⟩:=g.fin a;exact⟨e4,by rw [e3,e5,b],by rw [e5,c]⟩
structure Ln(c:AF)(L:List (List AU))(R:Nat→Prop):Prop where
 len:L.length=c.next
 Ao:∀p,p∈c.BK∨p∈c.lost→L[p.number]?=some p.Aw
 ne:∀fs∈L,fs≠ []∧(Ap fs).length+16≤c.AI
 fr:∀fs∈L,∀f∈fs,G5 c.ws f∧JJ R c.ws f
structure HK(w:AY)(r:Bf):Prop where
 high:r.high≤w.high
 en:r.ended=true→Nr w∧r.end_=w.high
 CL:r.given=true→w.given=true∧r.code=w.code
 fin:r.ended=true→r.given=false→w.finished=true∧w.high=w.b.length
 b:r.given=false→∀p,BE p r.AE.l→r.read≤p→r.b.getD (p-r.read) 0=w.b.getD p 0
 OM:r.state=1→w.finished=true∧r.read=w.b.length
theorem HK.grow{w w':AY}{r:Bf}(h:HK w r)(g:Di w w')(hh:w.high≤w.b.length)(hr:∀p,BE p r.AE.l→p<r.high):HK w' r:=by
 refine⟨O! h.high g.high,fun e=>?_,fun e=>?_,fun e e2=>?_,fun e p hp h2=>?_,fun e=>?_⟩
 ·obtain⟨a,b⟩:=h.en e;exact⟨g.frozen a,b.trans (g.fz a).symm⟩
 ·obtain⟨a,b⟩:=h.CL e;exact⟨(g.CL a).1,b.trans (g.CL a).2.symm⟩
 ·obtain⟨a,b⟩:=h.fin e e2;exact⟨(g.fin a).1,by rw [g.fz (.inr ⟨a,b⟩),(g.fin a).2,b]⟩
 ·rw [h.b e p hp h2];exact(g.get (by have:=hr p hp;have:=h.high;omega)).symm
 ·obtain⟨a,b⟩:=h.OM e;exact⟨(g.fin a).1,by rw [(g.fin a).2,b]⟩
def ME(r:Bf)(f:AU):Prop:=(f.kind=5→r.given=true∨((∀p,f.offset≤p→p<f.offset+f.data.size→BE p r.AE.l)∧(f.fin=true→r.ended=true)))∧(f.kind=4→r.given=true)
structure GR(r r':Bf):Prop where
 given:r.given=true→r'.given=true
 AE:∀p,BE p r.AE.l→BE p r'.AE.l
 ended:r.ended=true→r'.ended=true
theorem GR.refl(r:Bf):GR r r:=⟨fun x=>x,fun _ x=>x,fun x=>x⟩
theorem GR.trans{a b c:Bf}(h:GR a b)(g:GR b c):GR a c:=⟨fun x=>g.given (h.given x),fun p x=>g.AE p (h.AE p x),fun x=>g.ended (h.ended x)⟩
theorem ME.more{r r':Bf}{f:AU}(h:ME r f)(g:GR r r'):ME r' f:=
 ⟨fun e=>(h.1 e).elim (fun x=>.inl (g.given x)) (fun x=>.inr ⟨fun p a b=>g.AE p (x.1 p a b),fun y=>g.ended (x.2 y)⟩),fun e=>g.given (h.2 e)⟩
structure Uj(c d:AF)(L:List (List AU))(R:Nat→Prop):Prop where
 num:∀n,R n→n<L.length
 proc:∀n fs,R n→L[n]?=some fs→∀f∈fs,f.kind=5→(d.r f.stream.toNat).given=true∨f.offset+f.data.size≤(d.r f.stream.toNat).read+d.AG
 rd:∀k,k<4→HK (c.w k) (d.r k)
 B0:∀k p,k<4→BE p (c.w k).AE.l→(d.r k).given=true∨p<(d.r k).read+d.AG
 full:∀n fs,R n→L[n]?=some fs→∀f∈fs,ME (d.r f.stream.toNat) f
structure Fj(d:AF)(n:Nat)(R:Nat→Prop):Prop where
 AP:∀m,BE m d.AP.l→R m
 fl:d.AP.floor≤n
structure Bo(c d:AF)(L L':List (List AU))(R R':Nat→Prop):Prop where
 s:Ln c L R'
 s':Ln d L' R
 p:Uj c d L R
 p':Uj d c L' R'
 Gw:c.AG=d.AG
 ks:c.ks=d.ks
 first:d.first= !c.first
 o:c.closed=0
 o':d.closed=0
theorem Bo.symm{c d:AF}{L L':List (List AU)}{R R':Nat→Prop}(h:Bo c d L L' R R'):Bo d c L' L R' R:=
 ⟨h.s',h.s,h.p',h.p,h.Gw.symm,h.ks.symm,by rw [h.first];cases c.first<;>rfl,h.o',h.o⟩
theorem AZ.high{t:Nat}{c:AF}(h:AZ t c){k:Nat}(hk:k<4):(c.w k).high≤(c.w k).b.length:=(h.ws.ok k hk).high
theorem PS{n m:Nat}{l:List AW}(h:BE n l)(hl:∀r∈l,r.hi<m):n<m:=by
 obtain⟨r,hr,_,b⟩:=h
 have:=hl r hr;omega
theorem AZ.Zx{t:Nat}{c:AF}(h:AZ t c){k:Nat}(hk:k<4)(p:Nat)(hp:BE p (c.r k).AE.l):p<(c.r k).high:=PS hp (h.rs k hk).co.hi
structure EB(c c':AF):Prop where
 rs:c'.rs=c.rs
 AP:c'.AP=c.AP
 next:c'.next=c.next
 AI:c'.AI=c.AI
 AG:c'.AG=c.AG
 ks:c'.ks=c.ks
 first:c'.first=c.first
 closed:c'.closed=c.closed
 Ao:∀p,p∈c'.BK∨p∈c'.lost→p∈c.BK∨p∈c.lost
 len:c'.ws.length=4
 w:∀k,Di (c.w k) (c'.w k)∧(c'.w k).AE=(c.w k).AE
theorem G5.grow{ws ws':List AY}{f:AU}(h:G5 ws f)(hg:∀k,Di (ws.getD k As) (ws'.getD k As)):G5 ws' f:=
 ⟨h.ok,h.nm,⟨h.fr.1,h.fr.2.1,fun hk=>by have:=h.fr.2.2 hk;have:=(hg f.stream.toNat).len;omega⟩,h.rg⟩
theorem G5.s4{ws:List AY}{f:AU}(h:G5 ws f):f.stream.toNat<4:=by have:=h.fr.1;have:=h.fr.2.1;omega
theorem Ln.grow{c c':AF}{L:List (List AU)}{R R':Nat→Prop}{t:Nat}(hc:AZ t c)(h:Ln c L R)(hR:∀n,R n→R' n)(hn:c'.next=c.next)(hm:c'.AI=c.AI)
  (hf:∀p,p∈c'.BK∨p∈c'.lost→p∈c.BK∨p∈c.lost)(hg:∀k,Di (c.w k) (c'.w k)):Ln c' L R':=
 ⟨h.len.trans hn.symm,fun p hp=>h.Ao p (hf p hp),fun fs hfs=>by rw [hm];exact h.ne fs hfs,fun fs hfs f hfr=>
  ⟨(h.fr fs hfs f hfr).1.grow hg,(h.fr fs hfs f hfr).2.grow hR hg (fun _=>hc.high (h.fr fs hfs f hfr).1.s4)⟩⟩
theorem Bo.G2{c d c':AF}{L L':List (List AU)}{R R':Nat→Prop}{t u:Nat}(h:Bo c d L L' R R')(hc:AZ t c)(hd:AZ u d)(g:EB c c'):Bo c' d L L' R R':=by
 have hr:∀k,c'.r k=c.r k:=fun k=>by unfold AF.r;rw [g.rs]
 refine⟨h.s.grow hc (fun _ x=>x) g.next g.AI g.Ao (fun k=>(g.w k).1),h.s',⟨h.p.num,h.p.proc,fun k hk=>?_,fun k p hk hp=>?_,h.p.full⟩,⟨h.p'.num,?_,?_,?_,?_⟩,g.AG.trans h.Gw,g.ks.trans h.ks,by rw [g.first];exact h.first,g.closed.trans h.o,h.o'⟩
 ·exact(h.p.rd k hk).grow (g.w k).1 (hc.high hk) (hd.Zx hk)
 ·rw [(g.w k).2]at hp;exact h.p.B0 k p hk hp
 ·intro n fs a b f hf hk;rw [hr,g.AG];exact h.p'.proc n fs a b f hf hk
 ·intro k hk;rw [hr];exact h.p'.rd k hk
 ·intro k p hk hp;rw [hr,g.AG];exact h.p'.B0 k p hk hp
 ·intro n fs a b f hf;rw [hr];exact h.p'.full n fs a b f hf
theorem Fj.G2{c c':AF}{n:Nat}{R:Nat→Prop}(h:Fj c n R)(g:c'.AP=c.AP):Fj c' n R:=⟨by rw [g];exact h.AP,by rw [g];exact h.fl⟩
theorem EB.refl{t:Nat}{c:AF}(h:AZ t c):EB c c:=Xq
theorem EB.Bs{t:Nat}{c:AF}(h:AZ t c){k:Nat}{w:AY}(g:Di (c.w k) w)(e:w.AE=(c.w k).AE):EB c (c.Bs k w):=by
 refine⟨rfl,rfl,rfl,rfl,rfl,rfl,rfl,rfl,fun _ x=>x,by show(c.ws.set k w).length=4;rw [O_];exact h.ws.len,fun j=>?_⟩;show Di (c.w j) ((c.ws.set k w).getD j As)∧((c.ws.set k w).getD j As).AE=(c.w j).AE;rw [CY];split
 ·rename_i e2;rw [←e2.1];exact⟨g,e⟩
 ·exact⟨.refl _,rfl⟩
theorem EB.write{t:Nat}{c:AF}(h:AZ t c)(k:Int)(xs:List UInt8):EB c (c.write k xs).2:=by
 unfold AF.write;split
 ·exact .refl h
 ·rename_i h0;obtain⟨a,b,e⟩:=Sr (Decidable.not_not.1 h0);refine .Bs h ⟨Bh,K? _,fun h=>?_,fun h=>?_,fun _=>rfl⟩ rfl
  ·rw [b]at h;cases h
  ·rw [e]at h;cases h
theorem EB.finish{t:Nat}{c:AF}(h:AZ t c)(k:Int):EB c (c.finish k).2:=by
 unfold AF.finish;split
 ·exact .refl h
 ·exact .Bs h ⟨⟨[],(L! _).symm⟩,K? _,fun h=>BW,fun h=>⟨h,rfl⟩,fun _=>rfl⟩ rfl
theorem EB.giveUp{t:Nat}{c:AF}(h:AZ t c)(k:Int)(code:Nat):EB c (c.giveUp k code).2:=by
 unfold AF.giveUp;split
 ·exact .refl h
 split
 ·exact .refl h
 ·rename_i h0;refine .Bs h ⟨⟨[],(L! _).symm⟩,K? _,fun h=>⟨h,rfl⟩,fun h=>absurd (.inl h) h0,fun _=>rfl⟩ rfl
theorem fO{c:AF}{lost:Dl→Bool}(p:Dl)(hp:p∈(c.GC lost).BK∨p∈(c.GC lost).lost):p∈c.BK∨p∈c.lost:=by
 rcases hp with hp|hp
 ·exact L7
 ·rcases M!.1 hp with hp|hp
  ·exact .inr hp
  ·exact L7
theorem EB.GC{t:Nat}{c:AF}(h:AZ t c)(lost:Dl→Bool):EB c (c.GC lost):=by
 obtain⟨a,b,e⟩:=Mh (c.BK.filter lost) c.ws h.ws (fun p hp f hf=>(h.Ao p Ou).fr f hf);exact⟨rfl,rfl,rfl,rfl,rfl,rfl,rfl,rfl,fO,a.len,fun k=>⟨.same (b.same k),e k⟩⟩
theorem EB.tick{t:Nat}{c:AF}(h:AZ t c):EB c c.tick:=by
 have h1:AZ (t+1) {c with now:=c.now+1}:=
  {h.mono ET with nw:=by have:=h.nw;show c.now+1≤t+1;omega,Ao:=fun p hp=>let g:=h.Ao p hp;⟨g.num,U? g.at_,g.len,g.fr⟩}
 unfold AF.tick;split
 ·have g:=EB.GC h1 (fun _=>true);exact⟨g.rs,g.AP,g.next,g.AI,g.AG,g.ks,g.first,g.closed,g.Ao,g.len,g.w⟩
 ·exact Xq
def KQ(xs:List UInt8):Nat→Nat
 |0=>0
 |i+1=>KQ xs i*256+(xs.getD i 0).toNat
theorem cC(xs:List UInt8):∀i,KQ xs i<2^(8*i)
 |0=>by simp [KQ]
 |i+1=>by
  have h1:=cC xs i;have h2:=(xs.getD i 0).toNat_lt;simp only [KQ];rw [show 8*(i+1)=8*i+8 by omega,Nat.pow_add,show(2:Nat)^8=256 by decide];omega
theorem ZI(xs:List UInt8):∀i,i≤8→(be xs i).toNat=KQ xs i
 |0,_=>rfl
 |i+1,h=>by
  have ih:=ZI xs i Ca;have h1:=cC xs (i+1);have h5:2^(8*(i+1))≤2^64:=Nat.pow_le_pow_right Ca Ca;have h2:=(xs.getD i 0).toNat_lt;simp only [KQ]at h1⊢;simp only [be,UInt64.toNat_or,UInt64.toNat_shiftLeft,ih,UInt8.toNat_toUInt64];rw [show(8:UInt64).toNat%64=8 from rfl,Nat.shiftLeft_eq,show(2:Nat)^8=256 by decide,W? Ca]
  have:=Nat.two_pow_add_eq_or_of_lt (i:=8) (b:=(xs.getD i 0).toNat) Ca (KQ xs i)
  rw [show(2:Nat)^8=256 by decide,Nat.mul_comm]at this;exact this.symm
theorem Ke(n:UInt64)(k:UInt64)(j:Nat)(hk:k.toNat=j)(hj:j<64):((n>>> k).toUInt8).toNat=n.toNat/2^j%256:=by
 rw [T_,UInt64.toNat_shiftRight,hk,W? hj,Nat.shiftRight_eq_div_pow]
theorem mD(n:UInt64)(t:List UInt8):be (D9 n++t) 8=n:=by
 apply UInt64.toNat_inj.1;rw [ZI _ 8 Ca];have hn:=n.toNat_lt;have b0:=Ke n 56 56 rfl Ca;have b1:=Ke n 48 48 rfl Ca;have b2:=Ke n 40 40 rfl Ca;have b3:=Ke n 32 32 rfl Ca;have b4:=Ke n 24 24 rfl Ca;have b5:=Ke n 16 16 rfl Ca;have b6:=Ke n 8 8 rfl Ca;have b7:n.toUInt8.toNat=n.toNat%256:=T_ n;simp only [KQ,D9,List.cons_append,List.getD_cons_zero,List.getD_cons_succ,b0,b1,b2,b3,b4,b5,b6,b7];omega
theorem lX(ks:List UInt8)(side:UInt8)(n:UInt64)(xs:List UInt8):DI ks side n (DI ks side n xs)=xs:=by
 have hl:∀m,(ER ks side n m).length=m:=fun m=>by simp [ER]
 have h1:(DI ks side n xs).length=xs.length:=by rw [DI,KI _ _ (by rw [hl];exact K? _),hl]
 rw [DI,h1];apply R!
 ·rw [KI _ _ (by rw [hl,h1];exact K? _),hl]
 ·intro i h2 h3;simp only [DA,DI,List.getElem_zipWith];rw [UInt8.xor_assoc,UInt8.xor_self,UInt8.xor_zero]
theorem Pa(ks:List UInt8)(side:UInt8)(n:UInt64)(xs:List UInt8)(hn:n.toNat≤4611686018427387903)(hl:16+xs.length≤300):Bz ks side (Bc ks side n xs)=some (n,xs):=by
 have hs:∀m,(ER ks side n m).length=m:=fun m=>by simp [ER]
 have hm:(DI ks side n xs).length=xs.length:=by rw [DI,KI _ _ (by rw [hs];exact K? _),hs]
 have ht:(Gn ks side n (DI ks side n xs)).length=8:=rfl;have hbl:(D9 n).length=8:=rfl
 have hlen:(Bc ks side n xs).length=16+xs.length:=by
  rw [Bc,J!,J!,hm,ht,hbl];omega
 have hbe:be (Bc ks side n xs) 8=n:=by rw [Bc,K!];exact mD n _
 have hdrop:(Bc ks side n xs).drop (xs.length+8)=Gn ks side n (DI ks side n xs):=by
  rw [Bc,Y? Wc]
 have hbody:FZ (Bc ks side n xs)=DI ks side n xs:=by
  rw [FZ,hlen,show 16+xs.length-8=xs.length+8 by omega,Bc,X! Wc,Y? hbl]
 unfold Bz;rw [hlen,if_neg Ca,hbe,hbody,show 16+xs.length-8=xs.length+8 by omega,hdrop,if_neg Ck,lX]
section
variable{c d:AF}{L L':List (List AU)}{R R':Nat→Prop}{t u:Nat}
theorem Bo.BS(h:Bo c d L L' R R')(hc:AZ t c){k:Nat}{r:Bf}(hk:k<4)(hr:HK (d.w k) r)(h1:(c.r k).read≤r.read)(h2:GR (c.r k) r):Bo (c.BS k r) d L L' R R':=by
 have e:∀j,((c.BS k r).r j)=if k=j∧k<4 then r else c.r j:=fun j=>by
  show(c.rs.set k r).getD j FQ=_;rw [CY,hc.rl];rfl
 refine⟨⟨h.s.len,h.s.Ao,h.s.ne,h.s.fr⟩,h.s',⟨h.p.num,h.p.proc,h.p.rd,h.p.B0,h.p.full⟩,⟨h.p'.num,?_,?_,?_,?_⟩,h.Gw,h.ks,h.first,h.o,h.o'⟩
 ·intro n fs a b f hf h5
  have:=h.p'.proc n fs a b f hf h5
  rw [e];split
  ·rename_i e2;rw [←e2.1]at this;rcases this with g|g
   ·exact .inl (h2.given g)
   ·exact .inr (by show f.offset+f.data.size≤r.read+c.AG;omega)
  ·exact this
 ·intro j hj;rw [e];split
  ·rename_i e2;rw [←e2.1];exact hr
  ·exact h.p'.rd j hj
 ·intro j p hj hp
  have:=h.p'.B0 j p hj hp
  rw [e];split
  ·rename_i e2;rw [←e2.1]at this;rcases this with g|g
   ·exact .inl (h2.given g)
   ·exact .inr (by show p<r.read+c.AG;omega)
  ·exact this
 ·intro n fs a b f hf
  have:=h.p'.full n fs a b f hf
  rw [e];split
  ·rename_i e2;rw [←e2.1]at this;exact this.more h2
  ·exact this
theorem kF{l:List AW}(h:l≠ []):rg l 0∈l:=by
 cases l with
 |nil=>exact absurd rfl h
 |cons a l=>exact List.mem_cons_self
theorem fX{l:List AW}{n:Nat}(h:BL l n=true):∃r∈l,r.lo≤n∧n≤r.hi:=by
 unfold BL at h;obtain⟨r,hr,e⟩:=List.any_eq_true.1 h;simp at e;exact⟨r,hr,e.1,e.2⟩
structure Ib(c c':AF):Prop where
 same:∀k,Gh (c.w k) (c'.w k)
 AE:∀k p,BE p (c.w k).AE.l→BE p (c'.w k).AE.l
theorem Ib.refl(c:AF):Ib c c:=⟨fun _=>.refl _,fun _ _ x=>x⟩
theorem Ib.trans{a b c:AF}(h:Ib a b)(g:Ib b c):Ib a c:=⟨fun k=>(h.same k).trans (g.same k),fun k p x=>g.AE k p (h.AE k p x)⟩
theorem Bo.SE(h:Bo c d L L' R R')(hc:AZ t c)(hd:AZ u d){l:List AW}(hl:GW l)(hR:∀r∈l,∀n,r.lo≤n→n≤r.hi→R n):
  (c.B0 l).1=0∧Bo (c.B0 l).2 d L L' R R'∧(c.B0 l).2.AP=c.AP∧(c.B0 l).2.rs=c.rs∧Ib c (c.B0 l).2:=by
 have h0:=hl.2 0 (N_.2 hl.1)
 have hn:(rg l 0).hi<c.next:=by
  rw [←h.s.len];exact h.p.num _ (hR _ (kF hl.1) _ h0.1 DH)
 unfold AF.B0;rw [if_neg Ca];obtain⟨a,b,e⟩:=hc.Ek l hn
 have hfl:∀p,p∈(c.Ek l).BK∨p∈(c.Ek l).lost→p∈c.BK∨p∈c.lost:=by
  intro p hp;rcases hp with hp|hp
  ·exact L7
  ·exact .inr (X_.1 hp).1
 have h1:Bo (c.Ek l) d L L' R R':=by
  refine⟨h.s.grow hc (fun _ x=>x) rfl rfl hfl (fun k=>.same (b.same k)),h.s',⟨h.p.num,h.p.proc,fun k hk=>?_,fun k p hk hp=>?_,h.p.full⟩,⟨h.p'.num,h.p'.proc,h.p'.rd,h.p'.B0,h.p'.full⟩,h.Gw,h.ks,h.first,h.o,h.o'⟩
  ·exact(h.p.rd k hk).grow (.same (b.same k)) (hc.high hk) (hd.Zx hk)
  ·rcases(e k p).1 hp with g|⟨q,hq,h2,f,hf,h3,h4,h5,h6,h7⟩
   ·exact h.p.B0 k p hk g
   ·obtain⟨r,hr,h8,h9⟩:=fX h2;have h10:=h.p.proc q.number q.Aw (hR r hr _ h8 h9) (h.s.Ao q hq.symm) f hf h3;rw [h5]at h10;rcases h10 with g|g
    ·exact .inl g
    ·exact .inr Ca
 have g:=EB.GC a (fun p=>decide (p.number+3≤(c.Ek l).BZ));obtain⟨a2,b2,e2⟩:=Mh ((c.Ek l).BK.filter (fun p=>decide (p.number+3≤(c.Ek l).BZ))) (c.Ek l).ws a.ws (fun p hp f hf=>(a.Ao p Ou).fr f hf);refine⟨rfl,h1.G2 a hd g,rfl,rfl,⟨fun k=>(b.same k).trans (b2.same k),fun k p hp=>?_⟩⟩;show BE p (((c.Ek l).GC _).w k).AE.l;rw [(g.w k).2];exact(e k p).2 (.inl hp)
theorem nL{w:AY}{r:Bf}(h:HK w r)(hw:w.high≤w.b.length){f:AU}(h1:f.offset+f.data.size≤w.high)(h2:f.fin=true→w.finished=true∧w.high=w.b.length∧f.offset+f.data.size=w.b.length):¬Lf r.ended r.end_ r.high f:=by
 have hh:=h.high;rintro(⟨e,e2⟩|⟨e,e2⟩)
 ·obtain⟨_,b⟩:=h.en e;rcases e2 with e2|⟨e2,e3⟩
  ·omega
  ·have:=h2 e2;omega
 ·have:=h2 e;omega
theorem oB{b:List UInt8}{lo hi p:Nat}(h1:lo≤p)(h2:p<hi):(cut b lo hi).getD (p-lo) 0=b.getD p 0:=by
 unfold cut;rw [J?,J?,O?,List.getElem?_take_of_lt Ca];congr 2;omega
theorem HK.data{w:AY}{r:Bf}{AG:Nat}(h:HK w r)(ho:FY AG t r)(hwi:AG≤1024)(hw:w.high≤w.b.length){f:AU}(hg:r.given=false)(hb:f.offset+f.data.size≤r.read+AG)
  (h1:f.offset+f.data.size≤w.high)(h2:f.data.data.toList=cut w.b f.offset (f.offset+f.data.size))(h3:f.fin=true→w.finished=true∧w.high=w.b.length∧f.offset+f.data.size=w.b.length):HK w (r.Hu f):=by
 have hh:=h.high;obtain⟨a1,a2,a3,a4,a5,a6⟩:=r.Uc ho hwi f hg hb;have hl:=ho.len hg;refine⟨?_,fun e=>?_,fun e=>?_,fun e _=>?_,fun _ p hp hrp=>?_,h.OM⟩
 ·show max r.high (f.offset+f.data.size)≤w.high;omega
 ·show Nr w∧(if f.fin=true then f.offset+f.data.size else r.end_)=w.high;by_cases hf:f.fin=true
  ·rw [if_pos hf];obtain⟨b1,b2,b3⟩:=h3 hf;exact⟨.inr ⟨b1,b2⟩,Ca⟩
  ·rw [if_neg hf];have e':(r.ended||f.fin)=true:=e;rw [show f.fin=false by simpa using hf,Bool.or_false]at e';exact h.en e'
 ·have:r.given=true:=e
  rw [hg]at this;cases this
 ·have e':(r.ended||f.fin)=true:=e;rcases Bool.or_eq_true_iff.1 e' with e'|e'
  ·exact h.fin e' hg
  ·exact⟨(h3 e').1,(h3 e').2.1⟩
 ·have hp':BE p (r.filled f).2.l:=hp;have hrp':r.read≤p:=hrp;have hlt:=PS hp' a1.hi;show(r.filled f).1.getD (p-r.read) 0=_;rw [a6 p hrp' hlt];split
  ·rename_i hc;rw [h2];exact oB Ca hc.2.1
  ·rename_i hc
   have hin:BE p r.AE.l:=by
    rcases(a5 p).1 hp' with g|g
    ·exact g
    ·exact Decidable.not_not.1 fun g2=>hc ⟨g.1,g.2,g2⟩
   have hph:=PS hin ho.co.hi;rw [←h.b hg p hin hrp',J?,J?,M? Ca]
theorem yQ{t:Nat}{c:AF}(h:AZ t c)(k:Nat):c.BS k (c.r k)=c:=by
 unfold AF.BS AF.r
 have:c.rs.set k (c.rs.getD k FQ)=c.rs:=by
  by_cases hk:k<c.rs.length
  ·rw [J?,L? hk,W_,List.set_getElem_self]
  ·rw [List.set_eq_of_length_le Ca]
 rw [this]
theorem RI{t:Nat}{c:AF}(h:AZ t c){k:Nat}(hk:k<4){r:Bf}:(c.BS k r).r k=r:=by
 show(c.rs.set k r).getD k FQ=_;rw [CY,h.rl,if_pos ⟨rfl,hk⟩]
theorem Y4{t:Nat}{c:AF}(h:AZ t c){k:Nat}(hk:k<4){r:Bf}(hr:GR (c.r k) r)(j:Nat):GR (c.r j) ((c.BS k r).r j):=by
 show GR _ ((c.rs.set k r).getD j FQ);rw [CY];split
 ·rename_i e;rw [←e.1];exact hr
 ·exact .refl _
theorem Bo.take(h:Bo c d L L' R R')(hc:AZ t c)(hd:AZ u d){f:AU}(hp:G5 d.ws f)(hs:JJ R d.ws f)(hb:¬c.busy f):
  (c.take f).1=0∧Bo (c.take f).2 d L L' R R'∧(c.take f).2.AP=c.AP∧Ib c (c.take f).2∧(∀k,GR (c.r k) ((c.take f).2.r k))∧ME ((c.take f).2.r f.stream.toNat) f:=by
 have hk4:=hp.s4;have g:=h.p'.rd _ hk4;have ho:=hc.rs _ hk4;have hw:=hd.high hk4;rcases hs.kind with e|e|e
 ·have:c.take f=c.B0 f.ranges:=by unfold AF.take;rw [if_pos e]
  rw [this];obtain⟨a,b,e1,e2,e3⟩:=h.SE hc hd (hp.ok.2.2.2.2.1.1 e) (hs.HY e);exact⟨a,b,e1,e3,fun k=>by show GR (c.r k) ((c.B0 f.ranges).2.rs.getD k FQ);rw [e2];exact .refl _,fun x=>by omega,fun x=>by omega⟩
 ·obtain⟨s1,s2,s3⟩:=hs.reset e
  have hno:¬((c.r f.stream.toNat).ended=true∧(c.r f.stream.toNat).end_≠f.offset∨f.offset<(c.r f.stream.toNat).high):=by
   have:=g.high
   have s3':f.offset=(d.w f.stream.toNat).high:=s3;rintro(⟨e1,e2⟩|e1)
   ·exact e2 ((g.en e1).2.trans s3.symm)
   ·omega
  unfold AF.take;rw [if_neg Ca,if_pos e,if_neg hno];refine⟨rfl,h.BS hc hk4 ⟨g.high,fun _=>⟨.inl s1,s3⟩,fun _=>⟨s1,?_⟩,(fun _ e=>by cases e),(fun e=>by cases e),g.OM⟩ DH ⟨fun _=>rfl,fun _ x=>x,fun _=>rfl⟩,rfl,⟨fun _=>.refl _,fun _ _ x=>x⟩,Y4 hc hk4 ⟨fun _=>rfl,fun _ x=>x,fun _=>rfl⟩,fun x=>by omega,fun _=>by rw [RI hc hk4]⟩;show(if(c.r f.stream.toNat).given=true then(c.r f.stream.toNat).code else f.code)=_;split
  ·rename_i e1;exact(g.CL e1).2
  ·exact s2
 ·obtain⟨s1,s2⟩:=hs.data e;have s3:=hs.fin e;unfold AF.take;rw [if_neg Ca,if_neg Ca,if_pos e];unfold Bf.data;rw [if_neg (nL g hw s1 s3)];by_cases hg:(c.r f.stream.toNat).given=true
  ·rw [if_pos hg,yQ hc];exact⟨rfl,h,rfl,.refl _,fun _=>.refl _,fun _=>.inl hg,fun x=>by omega⟩
  ·rw [if_neg hg]
   have hg':(c.r f.stream.toNat).given=false:=by simpa using hg
   have hb':f.offset+f.data.size≤(c.r f.stream.toNat).read+c.AG:=by
    rcases Q! ((c.r f.stream.toNat).read+c.AG) (f.offset+f.data.size)with hlt|hge
    ·exact absurd ⟨e,hg',hlt⟩ hb
    ·exact hge
   obtain⟨a1,a2,a3,a4,a5,a6⟩:=(c.r f.stream.toNat).Uc ho hc.w2 f hg' hb'
   have hm:GR (c.r f.stream.toNat) ((c.r f.stream.toNat).Hu f):=⟨fun x=>x,fun p x=>(a5 p).2 (.inl x),fun x=>by show(_||_)=true;rw [x];rfl⟩
   refine⟨rfl,h.BS hc hk4 (g.data ho hc.w2 hw hg' hb' s1 s2 s3) DH hm,rfl,⟨fun _=>.refl _,fun _ _ x=>x⟩,Y4 hc hk4 hm,fun _=>.inr ⟨fun p h1 h2=>?_,fun x=>?_⟩,fun x=>by omega⟩
   ·rw [RI hc hk4];refine(a5 p).2 ?_;rcases Q! p (c.r f.stream.toNat).read with h3|h3
    ·exact .inl (ho.pre p h3)
    ·exact .inr ⟨Ca,h2⟩
   ·rw [RI hc hk4];show(_||f.fin)=true;rw [x,Bool.or_true]
theorem hK{c c':AF}(hr:∀k,GG (c.r k) (c'.r k))(hw:c'.AG=c.AG){g:AU}(h:¬c.busy g):¬c'.busy g:=by
 rintro⟨k1,k2,k3⟩;refine h ⟨k1,?_,?_⟩
 ·have:=(hr g.stream.toNat).given
  cases e:(c.r g.stream.toNat).given
  ·rfl
  ·rw [e]at this;rw [this rfl]at k2;cases k2
 ·rw [(hr g.stream.toNat).read,hw]at k3;exact k3
theorem Bo.BT(hd:AZ u d):∀(fs:List AU) (c:AF),Bo c d L L' R R'→AZ t c→(∀f∈fs,G5 d.ws f∧JJ R d.ws f∧¬c.busy f)→
  (c.BT fs).1=0∧Bo (c.BT fs).2 d L L' R R'∧(c.BT fs).2.AP=c.AP∧Ib c (c.BT fs).2∧(∀k,GG (c.r k) ((c.BT fs).2.r k))∧(c.BT fs).2.AG=c.AG∧(∀k,GR (c.r k) ((c.BT fs).2.r k))∧(∀f∈fs,ME ((c.BT fs).2.r f.stream.toNat) f)
 |[],c,h,_,_=>⟨rfl,h,rfl,.refl _,fun _=>.refl _,rfl,fun _=>.refl _,(fun _ h=>nomatch h)⟩
 |f::fs,c,h,hc,hf=>by
  obtain⟨h1,h2,h3⟩:=hf f Cg;obtain⟨a,b,e1,e2,e3,e4⟩:=h.take hc hd h1 h2 h3;obtain⟨a',b',e'⟩:=hc.take f (.of h1.ok) h3;rw [AF.BT,if_neg Ca]
  have hx:Bo ({(c.take f).2 with answer:=(c.take f).2.answer||(decide (f.kind≠3)&&decide (f.kind≠1))}:AF) d L L' R R':=
   ⟨⟨b.s.len,b.s.Ao,b.s.ne,b.s.fr⟩,b.s',⟨b.p.num,b.p.proc,b.p.rd,b.p.B0,b.p.full⟩,⟨b.p'.num,b.p'.proc,b.p'.rd,b.p'.B0,b.p'.full⟩,b.Gw,b.ks,b.first,b.o,b.o'⟩
  obtain⟨i1,i2,i3,i4,i5,i6,i7,i8⟩:=Bo.BT hd fs ({(c.take f).2 with answer:=(c.take f).2.answer||(decide (f.kind≠3)&&decide (f.kind≠1))}:AF) hx {a' with}
   (fun g hg=>⟨(hf g Cx).1,(hf g Cx).2.1,hK (c:=c) (fun k=>b' k) e' (hf g Cx).2.2⟩)
  exact⟨i1,i2,i3.trans e1,e2.trans ⟨i4.same,i4.AE⟩,fun k=>(b' k).trans (i5 k),i6.trans e',fun k=>(e3 k).trans (i7 k),fun g hg=>(U_.1 hg).elim (fun x=>by rw [x];exact e4.more (i7 _)) (i8 g)⟩
theorem Fj.add{n m:Nat}(g:Fj c n R')(hn:∀m,R' m→m<n)(ho:DF c.AP 4611686018427387904)(hm:m<n):Fj ({c with AP:=c.AP.add m m}:AF) n (fun x=>R' x∨x=m):=by
 have hin:∀x,BE x c.AP.l∨(m≤x∧x≤m)→x<n:=fun x hx=>by
  rcases hx with hx|hx
  ·exact hn x (g.AP x hx)
  ·omega
 refine⟨fun x hx=>?_,?_⟩
 ·rcases BH.rM hx with h|h
  ·exact .inl (g.AP x h)
  ·exact .inr Ca
 ·show(c.AP.add m m).floor≤n;unfold BH.add;split
  ·exact g.fl
  ·rename_i h0;split
   ·show((B1 (max m c.AP.floor) m c.AP.l).headD ⟨0,0⟩).hi+1≤n
    have hmm:max m c.AP.floor=m:=by omega
    rw [hmm];have hI:=Lb c.AP.l m m DH ho.inc
    cases e:B1 m m c.AP.l with
    |nil=>exact absurd e (Ng _ _ _)
    |cons r rs=>
     show r.hi+1≤n;have h1:=Ul _ hI r (by rw [e];simp)
     have h2:BE r.hi (B1 m m c.AP.l):=⟨r,by rw [e];simp,h1,K? _⟩
     have:=hin r.hi (((Lr c.AP.l m m r.hi DH).1 h2).symm)
     omega
   ·exact g.fl
theorem I6{n:Nat}(h:n≤4611686018427387903):(M_ n).toNat=n:=by
 rw [UInt64.toNat_ofNat'];omega
theorem xN{fs:List AU}(h:∀f∈fs,Dr f=f):fs.map Dr=fs:=by
 induction fs with
 |nil=>rfl
 |cons f fs ih=>rw [U!,h f Cg,ih (fun g hg=>h g Cx)]
structure jR(c c':AF):Prop where
 w:Ib c c'
 r:∀k,GG (c.r k) (c'.r k)
 Gw:c'.AG=c.AG
theorem Bo.A5(h:Bo c d L L' R R')(hc:AZ t c)(hd:AZ u d)(g:Fj c L'.length R'){n:Nat}{fs:List AU}(hn:L'[n]?=some fs)(hu:u≤1000000000):
  ∃R2,((c.A5 (Bc d.ks (Af d.first) (M_ n) (Ap fs))).1.1=0∨(c.A5 (Bc d.ks (Af d.first) (M_ n) (Ap fs))).1.1=6)∧
   Bo (c.A5 (Bc d.ks (Af d.first) (M_ n) (Ap fs))).2 d L L' R R2∧Fj (c.A5 (Bc d.ks (Af d.first) (M_ n) (Ap fs))).2 L'.length R2∧
   jR c (c.A5 (Bc d.ks (Af d.first) (M_ n) (Ap fs))).2:=by
 have hlt:n<L'.length:=by
  rcases Q! n L'.length with h|h
  ·exact h
  ·rw [List.getElem?_eq_none h]at hn;cases hn
 have hmem:fs∈L':=List.mem_of_getElem? hn;obtain⟨ne,nl⟩:=h.s'.ne fs hmem;have hfr:=h.s'.fr fs hmem;have hnx:=hd.nx
 have hnL:n≤4611686018427387903:=by have:=h.s'.len;omega
 have ho:Bz c.ks (Af (!c.first)) (Bc d.ks (Af d.first) (M_ n) (Ap fs))=some (M_ n,Ap fs):=by
  rw [h.ks,h.first];exact Pa _ _ _ _ (by rw [I6 hnL];exact hnL) (by have:=hd.m2;omega)
 have hdec:FL (Ap fs)=.ok fs:=by
  have he:GN fs=some (Ap fs):=by unfold GN;rw [if_pos ⟨ne,fun f hf=>(hfr f hf).1.ok⟩]
  have:=(Xp he (fun f hf=>by have:=(hfr f hf).1.rg;omega)).1
  rw [xN (fun f hf=>(hfr f hf).1.nm)]at this;exact this
 unfold AF.A5;rw [if_neg (by have:=h.o;omega),ho];dsimp only;rw [I6 hnL];by_cases hh:c.AP.has n
 ·rw [if_pos hh];exact⟨R',.inl rfl,h,g,⟨.refl _,fun _=>.refl _,rfl⟩⟩
 rw [if_neg hh,hdec];dsimp only;by_cases hb:∃f∈fs,c.busy f
 ·rw [if_pos hb];exact⟨R',.inr rfl,h,g,⟨.refl _,fun _=>.refl _,rfl⟩⟩
 rw [if_neg hb];have hg':=hc.AP.add n n Ca (by rw [hc.gm];omega)
 have hc2:AZ t ({c with AP:=c.AP.add n n}:AF):={hc with AP:=hg'.1,gm:=hg'.2.trans hc.gm}
 have h2:Bo ({c with AP:=c.AP.add n n}:AF) d L L' R R':=
  ⟨⟨h.s.len,h.s.Ao,h.s.ne,h.s.fr⟩,h.s',⟨h.p.num,h.p.proc,h.p.rd,h.p.B0,h.p.full⟩,⟨h.p'.num,h.p'.proc,h.p'.rd,h.p'.B0,h.p'.full⟩,h.Gw,h.ks,h.first,h.o,h.o'⟩
 obtain⟨a1,a2,a3,a4,a5,a6,a7,a8⟩:=Bo.BT (t:=t) hd fs ({c with AP:=c.AP.add n n}:AF) h2 hc2 (fun f hf=>⟨(hfr f hf).1,(hfr f hf).2,fun e=>hb ⟨f,hf,e⟩⟩);refine⟨fun x=>R' x∨x=n,.inl a1,?_,?_,⟨⟨a4.same,a4.AE⟩,a5,a6⟩⟩
 ·refine⟨⟨a2.s.len,a2.s.Ao,a2.s.ne,fun fs hfs f hf=>⟨(a2.s.fr fs hfs f hf).1,?_⟩⟩,a2.s',a2.p,⟨?_,?_,a2.p'.rd,a2.p'.B0,?_⟩,a2.Gw,a2.ks,a2.first,a2.o,a2.o'⟩
  ·have s:=(a2.s.fr fs hfs f hf).2;exact⟨s.kind,fun e r hr m x y=>.inl (s.HY e r hr m x y),s.reset,s.data,s.fin⟩
  ·intro m hm;rcases hm with hm|hm
   ·exact a2.p'.num m hm
   ·omega
  ·intro m gs hm e f hf h5;rcases hm with hm|hm
   ·exact a2.p'.proc m gs hm e f hf h5
   ·subst hm;rw [hn]at e;obtain rfl:fs=gs:=P_.inj e;have hnb:¬c.busy f:=fun e=>hb ⟨f,hf,e⟩;rw [(a5 f.stream.toNat).read,a6];cases e2:(c.r f.stream.toNat).given
    ·right;rcases Q! ((c.r f.stream.toNat).read+c.AG) (f.offset+f.data.size)with hlt|hge
     ·exact absurd ⟨h5,e2,hlt⟩ hnb
     ·exact hge
    ·exact .inl ((a5 f.stream.toNat).given e2)
  ·intro m gs hm e f hf;rcases hm with hm|hm
   ·exact a2.p'.full m gs hm e f hf
   ·subst hm;rw [hn]at e;obtain rfl:fs=gs:=P_.inj e;exact a8 f hf
 ·have:=g.add h.p'.num hc.AP hlt
  exact⟨by rw [a3];exact this.AP,by rw [a3];exact this.fl⟩
end
section
variable{c d:AF}{L L':List (List AU)}{R R':Nat→Prop}{t u:Nat}
structure t7(w:AY)(r r':Bf)(AL:Nat)(a:List UInt8×Nat×Nat×Nat):Prop where
 len:a.1.length≤AL
 data:a.1=(w.b.drop r.read).take a.1.length
 fits:r.read+a.1.length≤w.b.length
 read:r'.read=r.read+a.1.length
 state:r'.state=a.2.1
 shut:r.state≠0→a.1=[]∧a.2.1=r.state
 e:a.2.2.2=0
 open_:a.2.1=0→a.2.2.1=0
 fin:a.2.1=1→w.finished=true∧r'.read=w.b.length∧a.2.2.1=0
 CL:a.2.1=2→w.given=true∧a.2.2.1=w.code
 st:a.2.1≤2
theorem M6{c:AF}{k:Nat}(h:c.closed=0)(hk:k<4):c.stream (k:Int)=0:=by
 unfold AF.stream;rw [if_neg Ca,if_neg Ca]
theorem Bo.read(h:Bo c d L L' R R')(hc:AZ t c)(hd:AZ u d){k:Nat}(hk:k<4)(AL:Nat):
  Bo (c.read k AL).2 d L L' R R'∧(c.read k AL).2.ws=c.ws∧(c.read k AL).2.AP=c.AP∧(∀j,j≠k→(c.read k AL).2.r j=c.r j)∧t7 (d.w k) (c.r k) ((c.read k AL).2.r k) AL (c.read k AL).1:=by
 have g:=h.p'.rd k hk;have ho:=hc.rs k hk;have hw:=hd.high hk
 have hset:∀(r:Bf) j,((c.BS k r).r j)=if k=j∧k<4 then r else c.r j:=fun r j=>by
  show(c.rs.set k r).getD j FQ=_;rw [CY,hc.rl];rfl
 have hself:∀r:Bf,(c.BS k r).r k=r:=fun r=>by rw [hset,if_pos ⟨rfl,hk⟩]
 have hoth:∀(r:Bf) j,j≠k→(c.BS k r).r j=c.r j:=fun r j hj=>by rw [hset,if_neg (fun e=>hj e.1.symm)]
 have hrh:=ho.rh;unfold AF.read;rw [if_neg (by rw [M6 h.o hk];simp)];dsimp only;rw [Q?];by_cases hgs:(c.r k).given=true∧(c.r k).state=0
 ·have e:c.Eg k={c.r k with state:=2,b:=[]}:=by unfold AF.Eg;rw [if_pos hgs]
  rw [e];dsimp only;rw [if_neg Cc,if_pos rfl]
  have g1:HK (d.w k) {c.r k with state:=2,b:=[]}:=⟨g.high,g.en,g.CL,g.fin,(fun e=>by rw [show(c.r k).given=false from e]at hgs;exact absurd hgs.1 Cc),fun e=>by cases e⟩
  refine⟨h.BS hc hk g1 DH ⟨fun x=>x,fun _ x=>x,fun x=>x⟩,rfl,rfl,hoth _,?_⟩;rw [hself];obtain⟨b1,b2⟩:=g.CL hgs.1;refine⟨K_ _,rfl,?_,rfl,rfl,(fun e=>absurd hgs.2 e),rfl,(fun e=>by cases e),(fun e=>by cases e),fun _=>⟨b1,b2⟩,K? _⟩
  have:=g.high
  show(c.r k).read+0≤_;omega
 ·have e:c.Eg k=c.r k:=by unfold AF.Eg;rw [if_neg hgs]
  rw [e];by_cases h0:(c.r k).state=0
  ·have hg:(c.r k).given=false:=by
    cases e2:(c.r k).given
    ·rfl
    ·exact absurd ⟨e2,h0⟩ hgs
   rw [if_pos h0];generalize hn:AF.HO (c.r k) (AL:Int)=n;have hgap:=IW (c.r k).AE.l (c.r k).read (c.r k).high ho.co.inc hrh;have hfirst:=NR (lo:=(c.r k).read) (hi:=(c.r k).high) ho.co.inc hrh ho.co.hi
   have hn1:n≤(AR (c.r k).read (c.r k).high (c.r k).AE.l).1-(c.r k).read∧n≤AL:=by
    unfold AF.HO at hn;rw [Q?]at hn;omega
   have hl:=ho.len hg;have hh:=g.high
   have hnb:n≤(c.r k).b.length:=by omega
   have hin:∀p,(c.r k).read≤p→p<(c.r k).read+n→BE p (c.r k).AE.l:=fun p h1 h2=>hgap.2.1 p h1 Ca
   have htl:((c.r k).b.take n).length=n:=by rw [P?];omega
   have hd2:(c.r k).b.take n=((d.w k).b.drop (c.r k).read).take n:=by
    refine R! (by rw [htl,P?,N!];omega) fun i h1 h2=>?_
    have hi:i<n:=by rw [htl]at h1;exact h1
    have:=g.b hg ((c.r k).read+i) (hin _ Ca Ca) Ca
    rw [Nat.add_sub_cancel_left,J?,J?,L? Ca,L? Ca]at this;rw [V?,V?,List.getElem_drop];exact this
   have hrel:∀r3:Bf,r3={c.r k with b:=(c.r k).b.drop n,read:=(c.r k).read+n}∨(r3={({c.r k with b:=(c.r k).b.drop n,read:=(c.r k).read+n}:Bf)with state:=1}∧(c.r k).ended=true∧(c.r k).read+n=(c.r k).end_)→HK (d.w k) r3:=by
    intro r3 hr3
    have hb:∀p,BE p (c.r k).AE.l→(c.r k).read+n≤p→((c.r k).b.drop n).getD (p-((c.r k).read+n)) 0=(d.w k).b.getD p 0:=fun p hp h1=>by
     rw [←g.b hg p hp Ca,J?,J?,O?];congr 2;omega
    rcases hr3 with rfl|⟨rfl,e1,e2⟩
    ·exact⟨g.high,g.en,g.CL,g.fin,fun _=>hb,fun e=>by rw [show(c.r k).state=1 from e]at h0;cases h0⟩
    ·obtain⟨b1,b2⟩:=g.fin e1 hg;refine⟨g.high,g.en,g.CL,g.fin,fun _=>hb,fun _=>⟨b1,?_⟩⟩;show(c.r k).read+n=_;rw [e2,(g.en e1).2,b2]
   by_cases hfin:(c.r k).ended=true∧(c.r k).read+n=(c.r k).end_
   ·rw [if_pos hfin];refine⟨h.BS hc hk (hrel _ (.inr ⟨rfl,hfin.1,hfin.2⟩)) Up ⟨fun x=>x,fun _ x=>x,fun x=>x⟩,rfl,rfl,hoth _,?_⟩;rw [hself];obtain⟨b1,b2⟩:=g.fin hfin.1 hg;refine⟨WT,VG,Yu,bH,rfl,fun e=>absurd h0 e,rfl,fun _=>rfl,fun _=>⟨b1,?_,rfl⟩,(fun e=>by cases e),by show 1≤2;omega⟩;show(c.r k).read+n=_;rw [hfin.2,(g.en hfin.1).2,b2]
   ·rw [if_neg hfin];refine⟨h.BS hc hk (hrel _ (.inl rfl)) Up ⟨fun x=>x,fun _ x=>x,fun x=>x⟩,rfl,rfl,hoth _,?_⟩;rw [hself];refine⟨WT,VG,Yu,bH,rfl,fun e=>absurd h0 e,rfl,fun _=>rfl,(fun e=>by rw [show(c.r k).state=1 from e]at h0;cases h0),(fun e=>by rw [show(c.r k).state=2 from e]at h0;cases h0),ho.st⟩
  ·rw [if_neg h0];refine⟨h.BS hc hk g DH ⟨fun x=>x,fun _ x=>x,fun x=>x⟩,rfl,rfl,hoth _,?_⟩;rw [hself];have hh:=g.high;refine⟨K_ _,rfl,by show(c.r k).read+0≤_;omega,rfl,rfl,fun _=>BW,rfl,fun e=>absurd e h0,fun e=>?_,fun e=>?_,ho.st⟩
   ·obtain⟨b1,b2⟩:=g.OM e;refine⟨b1,b2,?_⟩;show(if(c.r k).state=2 then(c.r k).code else 0)=0;rw [if_neg (by rw [show(c.r k).state=1 from e];decide)]
   ·obtain⟨b1,b2⟩:=g.CL (ho.On e);refine⟨b1,?_⟩;show(if(c.r k).state=2 then(c.r k).code else 0)=_;rw [if_pos (show(c.r k).state=2 from e),b2]
theorem Hz.grow{w w':AY}{k:Nat}{f:AU}(hw:w.high≤w.b.length)(h:Hz w w' k f):Di w w'∧w'.AE=w.AE:=by
 rcases h with⟨h1,h2,h3,h4⟩|⟨h1,lo,hi,h2,h3,h4,h5,h6,h7,h8⟩
 ·subst h4;exact⟨⟨⟨[],(L! _).symm⟩,K? _,fun e=>⟨e,rfl⟩,fun e=>⟨e,rfl⟩,fun _=>rfl⟩,rfl⟩
 ·subst h8;refine⟨⟨⟨[],(L! _).symm⟩,Y_ _ _,fun e=>⟨e,rfl⟩,(fun e=>by rw [h1]at e;cases e),fun e=>?_⟩,rfl⟩;rcases e with e|⟨e1,e2⟩
  ·rw [h1]at e;cases e
  ·show max w.high hi=w.high;omega
theorem Hz.jD{ws:List AY}{w':AY}{k:Nat}{f:AU}(hl:ws.length=4)(hk:k<4)(hw:(ws.getD k As).high≤(ws.getD k As).b.length)(h:Hz (ws.getD k As) w' k f):JJ R (ws.set k w') f:=by
 have e:(ws.set k w').getD k As=w':=by rw [CY,if_pos ⟨rfl,Ca⟩]
 rcases h with⟨h1,h2,h3,h4⟩|⟨h1,lo,hi,h2,h3,h4,h5,h6,h7,h8⟩
 ·subst h3;refine⟨.inr (.inl rfl),(fun e=>by cases e),fun _=>?_,(fun e=>by cases e),fun e=>by cases e⟩;show((ws.set k w').getD k As).given=true∧(ws.getD k As).code=((ws.set k w').getD k As).code∧(ws.getD k As).high=((ws.set k w').getD k As).high;rw [e,h4];exact⟨h1,rfl,rfl⟩
 ·have hsz:f.offset+f.data.size=hi:=by
   rw [h4,MJ,Mf h3];show lo+(hi-lo)=hi;omega
  have hst:f.stream.toNat=k:=by rw [h4];rfl
  have hoff:f.offset=lo:=by rw [h4];rfl
  have hdat:f.data.data.toList=cut (ws.getD k As).b lo hi:=by rw [h4];exact List.toList_toArray
  have hfin:f.fin=true→(ws.getD k As).finished=true∧hi=(ws.getD k As).b.length:=fun e=>by
   rw [h4]at e;have e':((ws.getD k As).finished&&decide (hi=(ws.getD k As).b.length))=true:=e;simpa using e'
  have hkd:f.kind=5:=by rw [h4];rfl
  refine⟨.inr (.inr hkd),fun e=>by omega,fun e=>by omega,fun _=>?_,fun _ e2=>?_⟩
  ·rw [hst,e,hsz,hoff,h8];exact⟨Nat.le_max_right _ _,hdat⟩
  ·rw [hst,e,hsz,h8];obtain⟨b1,b2⟩:=hfin e2;refine⟨b1,?_,b2⟩;show max (ws.getD k As).high hi=(ws.getD k As).b.length;omega
structure LS(R:Nat→Prop)(AG:Nat)(ws0:List AY)(d0:BV)(ws:List AY)(d:BV):Prop where
 f:IG AG ws0 d0 ws d
 g:∀k,Di (ws0.getD k As) (ws.getD k As)∧(ws.getD k As).AE=(ws0.getD k As).AE
 s:∀f∈d.Aw,JJ R ws f
theorem vU{ws:List AY}{k:Nat}{w':AY}(h:Di (ws.getD k As) w')(e:w'.AE=(ws.getD k As).AE)(j:Nat):Di (ws.getD j As) ((ws.set k w').getD j As)∧((ws.set k w').getD j As).AE=(ws.getD j As).AE:=by
 rw [CY];split
 ·rename_i e2;rw [←e2.1];exact⟨h,e⟩
 ·exact⟨.refl _,rfl⟩
theorem LS.step{AG:Nat}{ws0 ws:List AY}{d0 d d':BV}(h:LS R AG ws0 d0 ws d){k:Nat}{w':AY}(hk:k<4)(e:(ws.getD k As).fill d k=some (w',d')):LS R AG ws0 d0 (ws.set k w') d':=by
 obtain⟨f,h1,h2⟩:=dA (h.f.Hf.ok k hk) e;have hw:=(h.f.Hf.ok k hk).high;obtain⟨g1,g2⟩:=h2.grow hw;have hg:=vU g1 g2;refine⟨(h.f.step hk e).1,fun j=>⟨(h.g j).1.trans (hg j).1,(hg j).2.trans (h.g j).2⟩,fun f' hf=>?_⟩;rw [(YZ h1).1]at hf;rcases M!.1 hf with hf|hf
 ·exact(h.s f' hf).grow (fun _ x=>x) (fun j=>(hg j).1) (fun _=>(h.f.Hf.ok _ (h.f.H7.fr f' hf).s4).high)
 ·rw [L_.1 hf];exact h2.jD h.f.Hf.len hk hw
theorem zD{c:AF}{told:List AW}(ht:∀r∈told,∀n,r.lo≤n→n≤r.hi→R n)(ws:List AY):∀f∈(c.Dj told).Aw,JJ R ws f:=by
 intro f hf;by_cases h:told=[]
 ·subst h;cases hf
 ·rw [pW c h]at hf;rw [L_.1 hf];exact⟨.inl rfl,fun _ r hr n a b=>ht r (S! hr) n a b,(fun e=>by cases e),(fun e=>by cases e),fun e=>by cases e⟩
theorem DU.XM{z:BP}(h:DU t z)(ht:∀r∈z.told,∀n,r.lo≤n→n≤r.hi→R n):LS R z.c.AG z.c.ws (z.c.Dj z.told) z.filled.1 z.filled.2:=by
 have h0:LS R z.c.AG z.c.ws (z.c.Dj z.told) z.c.ws (z.c.Dj z.told):=⟨.refl h.c.ws (O1 h.c h.told h.tl),fun k=>⟨.refl _,rfl⟩,zD ht _⟩
 unfold BP.filled;split
 ·exact T8 (LS R z.c.AG z.c.ws (z.c.Dj z.told)) (fun ws' d' h=>h.f.Hf.len) (fun ws' d' k w' d2 h hk e=>h.step hk e) 4 0 _ _ DH h0
 ·exact h0
def outs(ks:List UInt8)(side:UInt8):Nat→List (List AU)→List (List UInt8)
 |_,[]=>[]
 |n,fs::l=>Bc ks side (M_ n) (Ap fs)::outs ks side (n+1) l
structure Iy(c c':AF):Prop where
 rs:c'.rs=c.rs
 AP:c'.AP=c.AP
 ks:c'.ks=c.ks
 first:c'.first=c.first
 AI:c'.AI=c.AI
 AG:c'.AG=c.AG
 w:∀k,H4 (c.w k) (c'.w k)
theorem Iy.refl(c:AF):Iy c c:=⟨rfl,rfl,rfl,rfl,rfl,rfl,fun _=>.refl _⟩
theorem Iy.trans{a b c:AF}(h:Iy a b)(g:Iy b c):Iy a c:=
 ⟨g.rs.trans h.rs,g.AP.trans h.AP,g.ks.trans h.ks,g.first.trans h.first,g.AI.trans h.AI,g.AG.trans h.AG,fun k=>(h.w k).trans (g.w k)⟩
theorem Bo.fill{z:BP}(h:Bo z.c d L L' R R')(hz:DU t z)(hd:AZ u d)(ht:∀r∈z.told,∀n,r.lo≤n→n≤r.hi→R' n):Bo ({z.c with ws:=z.filled.1}:AF) d L L' R R':=by
 have g:=hz.XM ht;exact h.G2 hz.c hd ⟨rfl,rfl,rfl,rfl,rfl,rfl,rfl,rfl,fun _ x=>x,g.f.Hf.len,g.g⟩
theorem Bo.j0{z:BP}(h:Bo z.c d L L' R R')(hz:DU t z)(hd:AZ u d)(ht:∀r∈z.told,∀n,r.lo≤n→n≤r.hi→R' n)(hne:z.filled.2.Aw≠ []):Bo z.step.c d (L++[z.filled.2.Aw]) L' R R':=by
 have g:=hz.XM ht;have h1:=h.fill hz hd ht;have hlen:=h.s.len;have hroom:z.filled.2.room=z.c.AI-16:=g.f.room;have hb:(Ap z.filled.2.Aw).length≤z.filled.2.room:=g.f.H7.len;have hm:=hz.c.m1;refine⟨⟨?_,?_,?_,?_⟩,h1.s',⟨?_,?_,h1.p.rd,h1.p.B0,?_⟩,⟨h1.p'.num,h1.p'.proc,h1.p'.rd,h1.p'.B0,h1.p'.full⟩,h1.Gw,h1.ks,h1.first,h1.o,h1.o'⟩
 ·show(L++[_]).length=z.c.next+1;rw [J!,hlen];rfl
 ·intro p hp
  have hp':(p∈z.c.BK∨p∈z.c.lost)∨p=⟨z.c.next,z.c.now,z.filled.2.Aw⟩:=by
   rcases hp with hp|hp
   ·have hp:p∈(if EC z.filled.2.Aw then z.c.BK++[⟨z.c.next,z.c.now,z.filled.2.Aw⟩]else z.c.BK):=hp;split at hp
    ·rcases M!.1 hp with hp|hp
     ·exact .inl (.inl hp)
     ·exact .inr (L_.1 hp)
    ·exact .inl (.inl hp)
   ·exact .inl (.inr hp)
  rcases hp' with hp'|hp'
  ·have:=(hz.c.Ao p hp').num
   rw [M? Ca];exact h.s.Ao p hp'
  ·rw [hp'];show(L++[z.filled.2.Aw])[z.c.next]?=_;rw [←hlen,List.getElem?_append_right DH,Nat.sub_self];rfl
 ·intro fs hfs;rcases M!.1 hfs with hfs|hfs
  ·exact h.s.ne fs hfs
  ·rw [L_.1 hfs];exact⟨hne,by show _≤z.c.AI;omega⟩
 ·intro fs hfs f hf;rcases M!.1 hfs with hfs|hfs
  ·exact h1.s.fr fs hfs f hf
  ·rw [L_.1 hfs]at hf;exact⟨g.f.H7.fr f hf,g.s f hf⟩
 ·intro n hn
  have:=h.p.num n hn
  rw [J!];omega
 ·intro n fs hn e f hf h5;rw [M? (h.p.num n hn)]at e;exact h.p.proc n fs hn e f hf h5
 ·intro n fs hn e f hf;rw [M? (h.p.num n hn)]at e;exact h.p.full n fs hn e f hf
theorem BP.sends{z:BP}(hz:DU t z):Iy z.c z.step.c:=ZH
theorem Bo.DM(hd:AZ u d):∀(n:Nat) (z:BP) (L:List (List AU)),Bo z.c d L L' R R'→DU t z→(∀r∈z.told,∀n,r.lo≤n→n≤r.hi→R' n)→
  ∃Ls,Bo (DM n z).c d (L++Ls) L' R R'∧Iy z.c (DM n z).c∧(DM n z).out=z.out++outs z.c.ks (Af z.c.first) L.length Ls
 |0,z,L,h,hz,ht=>⟨[],by rw [L!];exact h,.refl _,(L! _).symm⟩
 |n+1,z,L,h,hz,ht=>by
  rw [Go.Proofs.YtgfdlpcdjklcoaaGreatDoor.DM];split
  ·exact⟨[],by rw [L!];exact h.fill hz hd ht,ZH,(L! _).symm⟩
  ·rename_i hne;obtain⟨Ls,a,b,e⟩:=Bo.DM hd n z.step (L++[z.filled.2.Aw]) (h.j0 hz hd ht hne) (hz.step hne).1 (fun r hr=>ht r (S? hr));refine⟨z.filled.2.Aw::Ls,?_,(BP.sends hz).trans b,?_⟩
   ·rw [K!]at a;exact a
   ·rw [e];show(z.out++[Bc z.c.ks (Af z.c.first) (M_ z.c.next) z.filled.2.b])++outs z.c.ks (Af z.c.first) (L++[_]).length Ls=_;rw [K!,←h.s.len,J!];rfl
theorem Bo.A3(h:Bo c d L L' R R')(hc:AZ t c)(hd:AZ u d)(g:Fj c L'.length R'):
  ∃Ls,Bo c.A3.2 d (L++Ls) L' R R'∧Iy c c.A3.2∧c.A3.1=outs c.ks (Af c.first) L.length Ls:=by
 unfold AF.A3;rw [if_neg (by have:=h.o;omega)]
 have h0:Bo ({c with answer:=false}:AF) d L L' R R':=
  ⟨⟨h.s.len,h.s.Ao,h.s.ne,h.s.fr⟩,h.s',⟨h.p.num,h.p.proc,h.p.rd,h.p.B0,h.p.full⟩,⟨h.p'.num,h.p'.proc,h.p'.rd,h.p'.B0,h.p'.full⟩,h.Gw,h.ks,h.first,h.o,h.o'⟩
 obtain⟨Ls,a,b,e⟩:=Bo.DM hd 40 ⟨{c with answer:=false},if c.answer then c.AP.l.reverse else [],[]⟩ L h0 (DU.begin hc) (by
  intro r hr n h1 h2
  have hr:r∈(if c.answer then c.AP.l.reverse else []):=hr
  split at hr
  ·exact g.AP n ⟨r,Rh,h1,h2⟩
  ·cases hr)
 exact⟨Ls,a,⟨b.rs,b.AP,b.ks,b.first,b.AI,b.AG,b.w⟩,e⟩
end
section
structure D5 where
 wrote:List UInt8
 finished:Bool
 given:Bool
 code:Nat
 read:Nat
 state:Nat
 AE:Nat
def Dq:D5:=⟨[],false,false,0,0,0,0⟩
structure DL where
 kind:Int
 side:Int
 a:Int
 b:Int
 s:ByteArray
def AK(c:Int)(n:Nat):Nat:=((if c<0 then -(c+1)else c)%(n:Int)).toNat
structure AN where
 xs:List AF
 ends:List (List D5)
 AI:Nat
 AG:Nat
 ks:List UInt8
 AJ:List (Nat×ByteArray)
 count:List Nat
def QU:AF:=.new 64 16 [] false
def AN.x(n:AN)(i:Nat):AF:=n.xs.getD i QU
def AN.e(n:AN)(i k:Nat):D5:=(n.ends.getD i []).getD k Dq
def AN.cnt(n:AN)(i:Nat):Nat:=n.count.getD i 0
def AN.Aq(n:AN)(i:Nat)(c:AF):AN:={n with xs:=n.xs.set i c}
def AN.DQ(n:AN)(i k:Nat)(o:D5):AN:={n with ends:=n.ends.set i ((n.ends.getD i []).set k o)}
def D5.bad(o:D5)(AG:Nat)(a:Nat×Nat):Prop:=a.2≠0∨a.1<o.AE∨o.wrote.length<a.1∨(o.given=false∧o.state=0∧o.read+AG<a.1)
instance(o:D5)(AG:Nat)(a:Nat×Nat):Decidable (o.bad AG a):=by unfold D5.bad;infer_instance
def CR(i:Nat):Nat→Nat→AN→Bool×AN
 |_,0,n=>(true,n)
 |k,m+1,n=>if(n.e i k).bad n.AG ((n.x i).AE k)then(false,n)else CR i (k+1) m (n.DQ i k {n.e i k with AE:=((n.x i).AE k).1})
def AN.wr(n:AN)(i k:Nat)(s:ByteArray):Bool×AN:=
 let r:=(n.x i).write k s.data.toList
 let n1:=n.Aq i r.2
 if(n.e i k).finished=true∨(n.e i k).given=true then(decide (r.1.2=3∧r.1.1=0),n1)
 else
  let z:=CR i 0 4 n1
  if z.1=false∨r.1.2≠0∨s.size<r.1.1∨n.AG+(z.2.e i k).AE<(z.2.e i k).wrote.length+r.1.1 then(false,z.2)
  else(true,z.2.DQ i k {z.2.e i k with wrote:=(z.2.e i k).wrote++s.data.toList.take r.1.1})
def AN.fin(n:AN)(i k:Nat):Bool×AN:=
 let r:=(n.x i).finish k
 let n1:=n.Aq i r.2
 if(n.e i k).finished=true∨(n.e i k).given=true then(decide (r.1=3),n1)else(decide (r.1=0),n1.DQ i k {n.e i k with finished:=true})
def AN.CL(n:AN)(i k c:Nat):Bool×AN:=
 let r:=(n.x i).giveUp k c
 let n1:=n.Aq i r.2
 if(n.e i k).given=true then(decide (r.1=3),n1)else(decide (r.1=0),n1.DQ i k {n.e i k with given:=true,code:=c})
def AN.tick(n:AN):AN:=(n.Aq 0 (n.x 0).tick).Aq 1 (n.x 1).tick
def GY(i:Nat):List (List UInt8)→AN→Bool×AN
 |[],n=>(true,n)
 |p::ps,n=>match Bz n.ks (Af (decide (i=0))) p with
  |none=>(false,n)
  |some (m,b)=>if n.AI<p.length∨m.toNat≠n.cnt i∨b=[]then(false,n)
   else GY i ps {n with count:=n.count.set i (n.cnt i+1),AJ:=n.AJ++[(1-i,AX p)]}
def AN.flush(n:AN)(i:Nat):Bool×AN:=GY i (n.x i).A3.1 (n.Aq i (n.x i).A3.2)
def AN.comes(n:AN)(i:Nat)(b:ByteArray):Bool×AN:=
 let r:=(n.x i).A5 b.data.toList
 let z:=CR i 0 4 (n.Aq i r.2)
 (z.1&&decide (r.1.1=0∨r.1.1=6),z.2)
def AN.Do(n:AN)(i:Nat)(b:List UInt8):Bool×AN:=
 match Bz n.ks (Af (decide (i≠0))) b with
 |some _=>(true,n)
 |none=>(decide (((n.x i).A5 b).1.1=4),n.Aq i ((n.x i).A5 b).2)
def Xn(b:List UInt8)(at_:Nat)(s:List UInt8):List UInt8:=
 b.take at_++[b.getD at_ 0 ^^^(if s≠ []∧s.getD 0 0≠0 then s.getD 0 0 else 1)]++b.drop (at_+1)
def AN.carry(n:AN)(s:DL):Bool×AN:=
 if n.AJ=[]then(true,n)
 else
  let f:=n.AJ.getD (AK s.a n.AJ.length) (0,⟨#[]⟩)
  if s.kind=6 then n.comes f.1 f.2
  else if s.kind=9 then n.Do (1-f.1) f.2.data.toList
  else if s.kind=8 then n.Do f.1 (Xn f.2.data.toList (AK s.b f.2.size) s.s.data.toList)
  else(true,n)
def AN.read(n:AN)(i k:Nat)(AL:Nat):Bool×AN:=
 let o:=n.e (1-i) k
 let r:=(n.x i).read k AL
 let n1:=n.Aq i r.2
 if r.1.2.2.2≠0∨AL<r.1.1.length∨o.wrote.length<o.read+r.1.1.length∨(o.wrote.drop o.read).take r.1.1.length≠r.1.1∨(o.state≠0∧(r.1.1≠ []∨r.1.2.1≠o.state))then(false,n1)
 else
  let o2:D5:={o with read:=o.read+r.1.1.length,state:=r.1.2.1}
  let n2:=n1.DQ (1-i) k o2
  if r.1.2.1=0 then(decide (r.1.2.2.1=0),n2)
  else if r.1.2.1=1 then(decide (o2.finished=true∧o2.read=o2.wrote.length∧r.1.2.2.1=0),n2)
  else if r.1.2.1=2 then(decide (o2.given=true∧r.1.2.2.1=o2.code),n2)else(false,n2)
def AN.step(n:AN)(s:DL):Bool×AN:=
 if s.kind=1 then n.wr (AK s.side 2) (AK s.a 4) s.s
 else if s.kind=2 then n.fin (AK s.side 2) (AK s.a 4)
 else if s.kind=3 then n.CL (AK s.side 2) (AK s.a 4) (AK s.b 1000)
 else if s.kind=4 then(true,n.tick)
 else if s.kind=5 then n.flush (AK s.side 2)
 else if s.kind=10 then n.read (AK s.side 2) (AK s.b 4) (AK s.a 200)
 else if s.kind=7 then n.Do (AK s.side 2) s.s.data.toList
 else n.carry s
def AN.run(without:Int):List DL→AN→Option AN
 |[],n=>some n
 |s::l,n=>if s.kind=without then AN.run without l n else if(n.step s).1=true then AN.run without l (n.step s).2 else none
def Du:List UInt8:=[3,1,4,1,5,0,0,0,0,0,0,0,0,0,0,0]
def AN.new(AI AG:Nat):AN:=
 ⟨[.new AI AG Du true,.new AI AG Du false],Z! 2 (Z! 4 Dq),AI,AG,Du,[],[0,0]⟩
def Jo(AI AG:Int):AN:=.new (64+AK AI 237) (16+AK AG 300)
def th(z:Bool×AN)(f:AN→Bool×AN):Bool×AN:=(z.1&&(f z.2).1,(f z.2).2)
def G1:List (Nat×ByteArray)→Bool×AN→Bool×AN
 |[],z=>z
 |f::fs,z=>G1 fs (th z (·.comes f.1 f.2))
def GI(i:Nat):Nat→Nat→Bool×AN→Bool×AN
 |_,0,z=>z
 |k,m+1,z=>GI i (k+1) m (th z (·.read i k 5000))
def AN.round(n:AN):Bool×AN:=
 let z:=th (th (true,n.tick) (·.flush 0)) (·.flush 1)
 GI 1 0 4 (GI 0 0 4 (G1 (z.2.AJ.drop n.AJ.length) z))
def G7:Nat→AN→Bool×AN
 |0,n=>(true,n)
 |t+1,n=>if n.round.1=true then G7 t n.round.2 else(false,n.round.2)
theorem FF(c:Int){n:Nat}(h:0<n):AK c n<n:=by
 unfold AK
 have h1:0≤(if c<0 then -(c+1)else c):=by split<;>omega
 have h2:=Int.emod_lt_of_pos (if c<0 then -(c+1)else c) (show(0:Int)<n by omega);have h3:=Int.emod_nonneg (if c<0 then -(c+1)else c) (show(n:Int)≠0 by omega);omega
structure IZ(w:AY)(r:Bf)(o:D5)(T:List UInt8):Prop where
 wrote:w.b=o.wrote++T
 pre:w.BA≤o.wrote.length
 finished:o.finished=w.finished
 given:o.given=w.given
 code:o.given=true→o.code=w.code
 read:o.read=r.read
 state:o.state=r.state
 AE:o.AE≤w.BA
structure Al(t:Nat)(n:AN)(L:Nat→List (List AU))(R:Nat→Nat→Prop)(T:Nat→Nat→List UInt8):Prop where
 xl:n.xs.length=2
 el:n.ends.length=2
 EK:∀i,i<2→(n.ends.getD i []).length=4
 cl:n.count.length=2
 c:∀i,i<2→AZ t (n.x i)
 two:Bo (n.x 0) (n.x 1) (L 0) (L 1) (R 0) (R 1)
 g:∀i,i<2→Fj (n.x i) (L (1-i)).length (R (1-i))
 e:∀i k,i<2→k<4→IZ ((n.x i).w k) ((n.x (1-i)).r k) (n.e i k) (T i k)
 AJ:∀f∈n.AJ,∃i m fs,i<2∧f.1=1-i∧(L i)[m]?=some fs∧f.2=AX (Bc n.ks (Af (decide (i=0))) (M_ m) (Ap fs))
 cnt:∀i,i<2→n.cnt i=(L i).length
 ks:∀i,i<2→(n.x i).ks=n.ks
 first:∀i,i<2→(n.x i).first=decide (i=0)
 AI:∀i,i<2→(n.x i).AI=n.AI
 AG:∀i,i<2→(n.x i).AG=n.AG
 bl:n.AJ.length=(L 0).length+(L 1).length
theorem IE{i:Nat}(h:i<2):i=0∨i=1:=by omega
theorem Al.at{t:Nat}{n:AN}{L:Nat→List (List AU)}{R:Nat→Nat→Prop}{T:Nat→Nat→List UInt8}(h:Al t n L R T){i:Nat}(hi:i<2):Bo (n.x i) (n.x (1-i)) (L i) (L (1-i)) (R i) (R (1-i)):=by
 rcases IE hi with rfl|rfl
 ·exact h.two
 ·exact h.two.symm
theorem KL(n:AN)(i j:Nat)(c:AF)(hl:n.xs.length=2)(hi:i<2):(n.Aq i c).x j=if i=j then c else n.x j:=by
 show(n.xs.set i c).getD j QU=_;rw [CY,hl];by_cases e:i=j
 ·rw [if_pos ⟨e,hi⟩,if_pos e]
 ·rw [if_neg (fun h=>e h.1),if_neg e];rfl
theorem Nu(n:AN)(i k j m:Nat)(o:D5)(hl:n.ends.length=2)(h4:(n.ends.getD i []).length=4)(hi:i<2)(hk:k<4):(n.DQ i k o).e j m=if i=j∧k=m then o else n.e j m:=by
 show((n.ends.set i ((n.ends.getD i []).set k o)).getD j []).getD m Dq=_;rw [CY,hl];by_cases e:i=j
 ·subst e;rw [if_pos ⟨rfl,hi⟩,CY,h4];by_cases e2:k=m
  ·rw [if_pos ⟨e2,hk⟩,if_pos ⟨rfl,e2⟩]
  ·rw [if_neg (fun h=>e2 h.1),if_neg (fun h=>e2 h.2)];rfl
 ·rw [if_neg (fun h=>e h.1),if_neg (fun h=>e h.1)];rfl
section
variable{t:Nat}{n:AN}{L:Nat→List (List AU)}{R:Nat→Nat→Prop}{T:Nat→Nat→List UInt8}
theorem Al.Mn(h:Al t n L R T){i:Nat}(hi:i<2){c:AF}{n':AN}{t':Nat}(ht:t≤t'){L':Nat→List (List AU)}{R':Nat→Nat→Prop}{T':Nat→Nat→List UInt8}
  (hxs:n'.xs=n.xs.set i c)(hel:n'.ends.length=2)(hel4:∀j,j<2→(n'.ends.getD j []).length=4)(hcl:n'.count.length=2)(hnm:n'.AI=n.AI)(hnw:n'.AG=n.AG)(hnk:n'.ks=n.ks)(hc:AZ t' c)
  (h2:Bo c (n.x (1-i)) (L' i) (L' (1-i)) (R' i) (R' (1-i)))(hg:Fj c (L' (1-i)).length (R' (1-i)))(hg':Fj (n.x (1-i)) (L' i).length (R' i))
  (he:∀k,k<4→IZ (c.w k) ((n.x (1-i)).r k) (n'.e i k) (T' i k))(he':∀k,k<4→IZ ((n.x (1-i)).w k) (c.r k) (n'.e (1-i) k) (T' (1-i) k))
  (hbag:∀f∈n'.AJ,∃j m fs,j<2∧f.1=1-j∧(L' j)[m]?=some fs∧f.2=AX (Bc n.ks (Af (decide (j=0))) (M_ m) (Ap fs)))
  (hcnt:∀j,j<2→n'.cnt j=(L' j).length)(hks:c.ks=(n.x i).ks)(hf:c.first=(n.x i).first)(hm:c.AI=(n.x i).AI)(hw:c.AG=(n.x i).AG)(hbl:n'.AJ.length=(L' 0).length+(L' 1).length):Al t' n' L' R' T':=by
 have hx:∀j,n'.x j=if i=j then c else n.x j:=fun j=>by
  have:=KL n i j c h.xl hi
  unfold AN.x at this⊢;rw [hxs];exact this
 have hxi:n'.x i=c:=by rw [hx,if_pos rfl]
 have hxo:n'.x (1-i)=n.x (1-i):=by rw [hx,if_neg Ca]
 have all:∀(P:Nat→AF→Prop),P i c→P (1-i) (n.x (1-i))→∀j,j<2→P j (n'.x j):=by
  intro P h1 h2 j hj;by_cases e:i=j
  ·subst e;rw [hxi];exact h1
  ·have:j=1-i:=by omega
   subst this;rw [hxo];exact h2
 have ho:1-i<2:=by omega
 refine⟨by rw [hxs,O_];exact h.xl,hel,hel4,hcl,all (fun _ c=>AZ t' c) hc ((h.c _ ho).mono ht),?_,?_,?_,?_,hcnt,
  all (fun _ c=>c.ks=n'.ks) (by rw [hnk];exact hks.trans (h.ks i hi)) (by rw [hnk];exact h.ks _ ho),all (fun j c=>c.first=decide (j=0)) (hf.trans (h.first i hi)) (h.first _ ho),all (fun _ c=>c.AI=n'.AI) (by rw [hnm];exact hm.trans (h.AI i hi)) (by rw [hnm];exact h.AI _ ho),
  all (fun _ c=>c.AG=n'.AG) (by rw [hnw];exact hw.trans (h.AG i hi)) (by rw [hnw];exact h.AG _ ho),hbl⟩
 ·rcases IE hi with rfl|rfl
  ·rw [hxi,hxo];exact h2
  ·rw [hxi,hxo];exact h2.symm
 ·rcases IE hi with rfl|rfl
  ·exact Zt
  ·exact Zt
 ·intro j k hj hk;by_cases e:i=j
  ·subst e;rw [hxi,hxo];exact he k hk
  ·have:j=1-i:=by omega
   subst this;rw [hxo,show 1-(1-i)=i by omega,hxi];exact he' k hk
 ·intro f hf;rw [hnk];exact hbag f hf
theorem Al.Aq(h:Al t n L R T){i:Nat}(hi:i<2){c:AF}{t':Nat}(ht:t≤t'){R':Nat→Nat→Prop}{T':Nat→Nat→List UInt8}(hc:AZ t' c)
  (h2:Bo c (n.x (1-i)) (L i) (L (1-i)) (R' i) (R' (1-i)))(hg:Fj c (L (1-i)).length (R' (1-i)))(hg':Fj (n.x (1-i)) (L i).length (R' i))
  (he:∀k,k<4→IZ (c.w k) ((n.x (1-i)).r k) (n.e i k) (T' i k))(he':∀k,k<4→IZ ((n.x (1-i)).w k) (c.r k) (n.e (1-i) k) (T' (1-i) k))
  (hks:c.ks=(n.x i).ks)(hf:c.first=(n.x i).first)(hm:c.AI=(n.x i).AI)(hw:c.AG=(n.x i).AG):Al t' (n.Aq i c) L R' T':=
 h.Mn hi ht rfl h.el h.EK h.cl rfl rfl rfl hc h2 hg hg' he he' h.AJ h.cnt hks hf hm hw h.bl
theorem Al.DQ(h:Al t n L R T){i k:Nat}(hi:i<2)(hk:k<4){o:D5}{T':Nat→Nat→List UInt8}(hT:∀j m,¬(i=j∧k=m)→T' j m=T j m)(ho:IZ ((n.x i).w k) ((n.x (1-i)).r k) o (T' i k)):Al t (n.DQ i k o) L R T':=by
 have he:∀j m,(n.DQ i k o).e j m=if i=j∧k=m then o else n.e j m:=fun j m=>Nu n i k j m o h.el (h.EK i hi) hi hk;refine⟨h.xl,by show(n.ends.set _ _).length=2;rw [O_];exact h.el,fun j hj=>?_,h.cl,h.c,h.two,h.g,fun j m hj hm=>?_,h.AJ,h.cnt,h.ks,h.first,h.AI,h.AG,h.bl⟩
 ·show((n.ends.set i ((n.ends.getD i []).set k o)).getD j []).length=4;rw [CY];split
  ·rw [O_];exact h.EK i hi
  ·exact h.EK j hj
 ·rw [he];split
  ·rename_i e;obtain⟨rfl,rfl⟩:=e;exact ho
  ·rename_i e;rw [hT j m e];exact h.e j m hj hm
theorem Al.RG(h:Al t n L R T){i k:Nat}(hi:i<2)(hk:k<4):¬(n.e i k).bad n.AG ((n.x i).AE k):=by
 have h2:=h.at hi;have o:=h.e i k hi hk;have hw:C7 (n.x i).AG ((n.x i).w k):=(h.c i hi).ws.ok k hk
 have e:(n.x i).AE k=(((n.x i).w k).BA,0):=by
  unfold AF.AE;rw [if_neg (by rw [M6 h2.o hk];simp)];rfl
 rw [e];have hp:=o.pre;have hc:=o.AE;rintro(b|b|b|⟨b1,b2,b3⟩)
 ·exact b rfl
 ·have b:((n.x i).w k).BA<(n.e i k).AE:=b;omega
 ·have b:(n.e i k).wrote.length<((n.x i).w k).BA:=b;omega
 ·have b3:(n.e i k).read+n.AG<((n.x i).w k).BA:=b3;rcases h2.p.B0 k (((n.x i).w k).BA-1) hk (hw.dH Ca)with g|g
  ·have:=((h2.p.rd k hk).CL g).1
   rw [←o.given,b1]at this;cases this
  ·rw [h.AG _ Ca,←o.read]at g;omega
theorem Al.fJ(h:Al t n L R T){i k:Nat}(hi:i<2)(hk4:k<4):(n.x i).AE k=(((n.x i).w k).BA,0)∧Al t (n.DQ i k {n.e i k with AE:=((n.x i).w k).BA}) L R T:=by
 have o:=h.e i k hi hk4;have h2:=h.at hi;refine⟨?_,h.DQ hi hk4 (fun _ _ _=>rfl) ⟨o.wrote,o.pre,o.finished,o.given,o.code,o.read,o.state,K? _⟩⟩;unfold AF.AE;rw [if_neg aK];rfl
theorem Al.CR{i:Nat}(hi:i<2):∀(m k:Nat) (n:AN),Al t n L R T→k+m≤4→(CR i k m n).1=true∧Al t (CR i k m n).2 L R T∧(CR i k m n).2.xs=n.xs∧
  (∀j l,(CR i k m n).2.e j l=if j=i∧k≤l∧l<k+m then {n.e j l with AE:=((n.x i).w l).BA}else n.e j l)∧(CR i k m n).2.AG=n.AG∧(CR i k m n).2.AJ=n.AJ
 |0,k,n,h,_=>⟨rfl,h,rfl,fun j l=>by rw [if_neg Ca];rfl,rfl,rfl⟩
 |m+1,k,n,h,hk=>by
  have hk4:k<4:=by omega
  have o:=h.e i k hi hk4;have h2:=h.at hi
  have e:(n.x i).AE k=(((n.x i).w k).BA,0):=by
   unfold AF.AE;rw [if_neg aK];rfl
  rw [Go.Proofs.YtgfdlpcdjklcoaaGreatDoor.CR,if_neg (h.RG hi hk4)]
  have h3:Al t (n.DQ i k {n.e i k with AE:=((n.x i).AE k).1}) L R T:=
   h.DQ hi hk4 (fun _ _ _=>rfl) ⟨o.wrote,o.pre,o.finished,o.given,o.code,o.read,o.state,by rw [e];exact K? _⟩
  obtain⟨a,b,f,g,w,w2⟩:=Al.CR hi m (k+1) _ h3 Ca;refine⟨a,b,f,fun j l=>?_,w,w2⟩;rw [g j l,Nu n i k j l _ h.el (h.EK i hi) hi hk4];show(if j=i∧k+1≤l∧l<k+1+m then {(if i=j∧k=l then _ else n.e j l:D5)with AE:=((n.x i).w l).BA}else(if i=j∧k=l then _ else n.e j l))=_;by_cases e1:j=i
  ·subst e1;by_cases e2:k=l
   ·subst e2;rw [if_neg Ca,if_pos BW,if_pos Ca,e]
   ·rw [if_neg (by omega:¬(j=j∧k=l))];by_cases e3:k+1≤l∧l<k+1+m
    ·rw [if_pos ⟨rfl,e3⟩,if_pos Ca]
    ·rw [if_neg (fun x=>e3 x.2),if_neg Ca]
  ·rw [if_neg (fun x=>e1 x.1),if_neg (fun x=>e1 x.1.symm),if_neg (fun x=>e1 x.1)]
end
end
section
variable{B:World}
abbrev CN(f:Nat)(us:List Value):Value:=.func (.func f) #[] us.toArray
structure By where
 p:Option Addr
 b:Nat
 o:Nat
 c:Nat
 s:List Value
def AS(q:Nat)(a:By)(z:BH):HP:=HP.AA q 0 [.slice a.p z.l.length a.c,uN z.floor,iN z.AL]*AB a.b a.o z.l a.s
def By.ok(a:By)(z:BH):Prop:=Sl a.p a.b a.o z.l.length a.c∧z.l.length*2+a.s.length=a.c*2
class Gf(B:World)(H:HP)(q:Nat)(a:outParam By)(z:outParam BH):Prop where
 l:Rd B H q 0 (.slice a.p z.l.length a.c) True
 f:Rd B H q (0+1) (uN z.floor) True
 r:Ad B H a.b a.o z.l
instance(q:Nat)(a:By)(z:BH):Gf B (AS q a z) q a z:=by
 unfold AS;exact⟨inferInstance,inferInstance,inferInstance⟩
instance(q:Nat)(a:By)(z:BH)(A C:HP)[h:Gf B A q a z]:Gf B (A*C) q a z:=let _:=h.l;let _:=h.f;let _:=h.r;⟨inferInstance,inferInstance,inferInstance⟩
instance(q:Nat)(a:By)(z:BH)(A C:HP)[h:Gf B C q a z]:Gf B (A*C) q a z:=let _:=h.l;let _:=h.f;let _:=h.r;⟨inferInstance,inferInstance,inferInstance⟩
theorem HS{l:List AW}{P:AW→Prop}(h:∀r∈l,P r)(i:Nat)(hi:i<l.length):P (rg l i):=by
 unfold rg;rw [J?,L? hi];exact h _ (W! hi)
theorem TE(n:Nat)(f:FuncId)(us:List Value)(p:Nat→Prop)[DecidablePred p](H:HP)[Ac Tryz.prog f](hn:n<4611686018427387904)(hmono:∀i j,i≤j→j<n→p i→p j)
  (hf:∀i,i<n→Fn Tryz.prog B f (iN i::us) H (fun v H'=>v=.bool (decide (p i))∧H'=H)):
  Fn Tryz.prog B 173 [iN n,CN f us] H (fun v H'=>∃k,v=iN k∧k≤n∧(∀i,i<k→¬p i)∧(∀i,k≤i→i<n→p i)∧H'=H):=by
 refine mI Tryz.func173 ?_;refine Kh ?_;refine Fd ?_;refine J5 ?_
 refine Bm (α:=Nat×Nat) (fun z=>[(0,iN n),(1,CN f us),(5,iN z.1),(6,iN z.2)]) (fun _=>H) (fun z=>z.1≤z.2∧z.2≤n∧(∀i,i<z.1→¬p i)∧(∀i,z.2≤i→i<n→p i)) (fun z=>z.2-z.1) (0,n) ⟨K_ _,K? _,(fun i h=>absurd h (Q_ i)),(fun i h1 h2=>by omega)⟩ C9 rfl ?_
 rintro⟨i,j⟩ ⟨h1,h2,h3,h4⟩;refine J8 ?_;refine mC (fun hc=>?_) (fun hc=>?_)
 ·refine J8 ?_;refine JL FD ?_;refine JL (JE (j:=1) rfl rfl Ca) ?_;refine JL Ma ?_;refine J7 ?_;refine Ag (Ht rfl rfl (hf _ Ca)) rfl ?_;refine Ep ?_;refine mC (fun h5=>?_) (fun h5=>?_)
  ·refine J2 ?_;refine KC ?_;refine J3 ?_
   first
    |exact Ba ((i+j)/2^1+1,j) ⟨Xb,h2,fun k hk hp=>h5 (hmono k _ (by have:k<(i+j)/2^1+1:=hk;omega) Ca hp),h4⟩ aN C9 rfl
    |exact Ba (i,(i+j)/2^1) ⟨Wf,bP,h3,fun k hk1 hk2=>hmono _ k hk1 hk2 (by simpa using h5)⟩ Us C9 rfl
  refine J5 ?_
  first
   |exact Ba ((i+j)/2^1+1,j) ⟨Xb,h2,fun k hk hp=>h5 (hmono k _ (by have:k<(i+j)/2^1+1:=hk;omega) Ca hp),h4⟩ aN C9 rfl
   |exact Ba (i,(i+j)/2^1) ⟨Wf,bP,h3,fun k hk1 hk2=>hmono _ k hk1 hk2 (by simpa using h5)⟩ Us C9 rfl
 refine DP ?_;exact mr [4] rfl rfl ⟨i,rfl,Ca,h3,(fun k hk1 hk2=>h4 k Ca hk2),rfl⟩
theorem fY(bs bn q n i:Nat)(a:By)(z:BH)(H:HP)[h1:Rd B H bs 0 (ptr q 0) True][h2:Rd B H bn 0 (uN n) True][hz:Gf B H q a z](hs:a.ok z)(hi:i<z.l.length):
  Fn Tryz.prog B 174 [iN i,ptr bs 0,ptr bn 0] H (fun v H'=>v=.bool (decide (n≤(rg z.l i).hi))∧H'=H):=by
 have:=hz.l
 have:=hz.r
 have hsl:=hs.1;refine mI Tryz.func174 ?_;refine J6 ?_;refine mA 11 11 ?_;refine UB ?_;refine JT 7 rfl Rg ?_;refine Jd 8 ?_;refine JT 9 rfl LH ?_;refine Ja 10 ?_;refine Da ?_;exact mr [4] rfl rfl BW
theorem mP(bs bn q n i:Nat)(a:By)(z:BH)(H:HP)[h1:Rd B H bs 0 (ptr q 0) True][h2:Rd B H bn 0 (uN n) True][hz:Gf B H q a z](hs:a.ok z)(hi:i<z.l.length)(hn:n<4611686018427387904):
  Fn Tryz.prog B 179 [iN i,ptr bs 0,ptr bn 0] H (fun v H'=>v=.bool (decide (n≤(rg z.l i).hi+1))∧H'=H):=by
 have:=hz.l
 have:=hz.r
 have hsl:=hs.1;refine mI Tryz.func179 ?_;refine J6 ?_;refine mA 24 24 ?_;refine UB ?_;refine JT 7 rfl Rg ?_;refine Jd 8 ?_;refine JT 9 rfl LH ?_;refine Jm 10 ?_;refine Gb 15 rfl (fun hg1=>?_) (fun hg1=>?_)
 ·refine Wd ?_;refine JN 15 rfl T1 ?_;refine JN 16 rfl T1 ?_;refine JN 17 rfl T1 ?_;refine JN 18 rfl T1 ?_;refine JN 19 rfl T1 ?_;refine JN 20 rfl T1 ?_;refine JN 21 rfl T1 ?_;refine JT 22 rfl Fu ?_;refine Ja 23 ?_;refine Da ?_;exact Qa
 refine JY 11 rfl F1 BX ?_;refine JY 12 rfl F1 BX ?_;refine JY 13 rfl F1 CT ?_;refine JY 14 rfl F1 BO ?_;refine JY 15 rfl F1 BX ?_;refine JY 16 rfl F1 Be ?_;refine JY 17 rfl F1 Ko ?_;refine JY 18 rfl F1 BO ?_;refine JY 19 rfl F1 Rg ?_;refine JY 20 rfl F1 HJ ?_;refine JY 21 rfl F1 (B6 (j:=1) rfl rfl) ?_;refine JT 22 rfl Eo ?_;refine Ja 23 ?_;refine Da ?_;exact Qa
theorem a0(bs bn q n i:Nat)(a:By)(z:BH)(H:HP)[h1:Rd B H bs 0 (ptr q 0) True][h2:Rd B H bn 0 (uN n) True][hz:Gf B H q a z](hs:a.ok z)(hi:i<z.l.length)(hl:(rg z.l i).lo<4611686018427387904):
  Fn Tryz.prog B 180 [iN i,ptr bs 0,ptr bn 0] H (fun v H'=>v=.bool (decide (n+1<(rg z.l i).lo))∧H'=H):=by
 have:=hz.l
 have:=hz.r
 have hsl:=hs.1;refine mI Tryz.func180 ?_;refine J6 ?_;refine mA 24 24 ?_;refine UB ?_;refine JT 7 rfl Ty ?_;refine Jd 8 ?_;refine JT 9 rfl H9 ?_;refine Jm 10 ?_;refine Gb 15 rfl (fun hg1=>?_) (fun hg1=>?_)
 ·refine JY 11 rfl T1 BX ?_;refine JY 12 rfl T1 CT ?_;refine JY 13 rfl T1 BO ?_;refine JY 14 rfl T1 BX ?_;refine JY 15 rfl T1 Be ?_;refine JY 16 rfl T1 Ko ?_;refine JY 17 rfl T1 BO ?_;refine JY 18 rfl T1 Ty ?_;refine JY 19 rfl T1 BX ?_;refine JY 20 rfl T1 HJ ?_;refine JY 21 rfl T1 (GM (j:=1) rfl rfl) ?_;refine JT 22 rfl Fu ?_;refine Ja 23 ?_;refine Da ?_;exact Qa
 refine JN 11 rfl F1 ?_;refine JN 12 rfl F1 ?_;refine JN 13 rfl F1 ?_;refine JN 14 rfl F1 ?_;refine JN 15 rfl F1 ?_;refine JN 16 rfl F1 ?_;refine JN 17 rfl F1 ?_;refine JN 18 rfl F1 ?_;refine JN 19 rfl F1 ?_;refine JN 20 rfl F1 ?_;refine JN 21 rfl F1 ?_;refine JT 22 rfl Eo ?_;refine Ja 23 ?_;refine Da ?_;exact Qa
end
end Go.Proofs.YtgfdlpcdjklcoaaGreatDoor
