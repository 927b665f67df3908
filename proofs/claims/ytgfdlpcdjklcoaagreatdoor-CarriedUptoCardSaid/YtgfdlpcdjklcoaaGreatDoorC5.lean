/- A part of this proof: steps of the program, plain facts; no condition. -/
import Derived.Test.YtgfdlpcdjklcoaaGreatDoorC4
namespace Go.Proofs.YtgfdlpcdjklcoaaGreatDoor
open Go Go.RowKit
open _root_.List renaming length_append→A_,getD_eq_getElem?_getD→A!,append_assoc→B_,mem_singleton→B?,append_nil→C_,getElem?_eq_getElem→C!,mem_append→D_,getElem?_append_left→D!,length_pos_iff→D?,length_drop→E_,length_cons→E!,length_set→E?,getElem?_drop→F!,length_filter_le→G_,length_take→G!,ext_getElem→I_,range_succ_eq_map→I!,length_singleton→I?,mem_of_mem_take→J_,mem_of_mem_drop→J!,map_congr_left→K_,length_reverse→K!,mem_cons→K?,map_cons→L_,cons_eq_cons→L?,flatMap_cons→M_,getElem_take→M!,getElem_mem→N_,mem_filter→N?,take_left'→O_,nil_append→O!,length_nil→P_,drop_left'→P!,drop_drop→P?,replicate→Q_,getD→Q!,map_map→Q?,range→R_
open _root_.Nat renaming zero_le→A?,le_refl→B!,le_trans→F_,not_lt_zero→G?,lt_or_ge→H_,lt_succ_of_lt→H?,le_succ_of_le→L!,mod_eq_of_lt→N!,le_max_left→O?
open _root_.UInt64 renaming ofNat→C?,toNat_toUInt8→J?
open _root_.Option renaming some→F?,getD_some→M?
open _root_.Int renaming toNat_natCast→H!
set_option linter.unusedVariables false
set_option maxRecDepth 20000
structure TE(next now:Nat)(ws:List AX)(p:Da):Prop where
 num:p.number<next
 at_:p.at_≤now
 len:p.As.length≤300
 fr:∀f∈p.As,EJ ws f
structure AZ(t:Nat)(c:AG):Prop where
 m1:64≤c.AI
 m2:c.AI≤300
 w1:16≤c.AF
 w2:c.AF≤1024
 ks:c.ks.length=16
 closed:c.closed≤10
 code:c.code≤4611686018427387903
 AR:C5 c.AR 4611686018427387904
 gm:c.AR.AL=8
 ws:Dc c.AF c.ws
 rl:c.rs.length=4
 rs:∀k,k<4→FG c.AF t (c.r k)
 fl:c.BG.length≤10
 Am:∀p,p∈c.BG∨p∈c.lost→TE c.next c.now c.ws p
 cnt:c.BG.length+c.lost.length≤c.next
 nx:c.next≤20*t
 nw:c.now≤t
 wt:c.waits≤8
 lg:c.BV≤c.next
theorem AZ.mono{t t':Nat}{c:AG}(h:AZ t c)(ht:t≤t'):AZ t' c:=
 {h with rs:=fun k hk=>(h.rs k hk).mono ht,nx:=by have:=h.nx;omega,nw:=by have:=h.nw;omega}
theorem QJ{AF:Nat}:CW AF Aq:=⟨A? _,.of,rfl,rfl,.of,rfl,rfl,A? _,A? _,A? _⟩
theorem PI{AF t:Nat}:FG AF t E6:=⟨.of,rfl,rfl,A? _,A? _,(fun n h=>absurd h (G? n)),(fun _=>rfl),A? _,A? _,A? _,A? _,(fun h=>absurd h Cc)⟩
theorem MR{P:Nat→Prop}(h0:P 0)(h1:P 1)(h2:P 2)(h3:P 3)(k:Nat)(hk:k<4):P k:=by
 match k,hk with
 |0,_=>exact h0
 |1,_=>exact h1
 |2,_=>exact h2
 |3,_=>exact h3
theorem AZ.new{AI AF:Nat}{ks:List UInt8}{first:Bool}(h1:64≤AI)(h2:AI≤300)(h3:16≤AF)(h4:AF≤1024)(hk:ks.length=16):AZ 0 (.new AI AF ks first):=
 ⟨h1,h2,h3,h4,hk,A? _,A? _,.of,rfl,⟨rfl,MR QJ QJ QJ QJ⟩,rfl,MR PI PI PI PI,A? _,(fun p h=>by rcases h with h|h<;>cases h),A? _,A? _,A? _,A? _,A? _⟩
theorem AZ.VL{t:Nat}{c:AG}(h:AZ t c){ws:List AX}(hw:Dc c.AF ws)(hf:∀f,EJ c.ws f→EJ ws f):AZ t {c with ws:=ws}:=
 {h with ws:=hw,Am:=fun p hp=>let g:=h.Am p hp;⟨g.num,g.at_,g.len,fun f hfr=>hf f (g.fr f hfr)⟩}
theorem EJ.set{ws:List AX}{k:Nat}{w:AX}(hb:(ws.getD k Aq).b.length≤w.b.length)(f:AT)(h:EJ ws f):EJ (ws.set k w) f:=by
 refine⟨h.1,h.2.1,fun hk=>?_⟩
 have:=h.2.2 hk
 rw [DN];split
 ·rename_i e;rw [e.1]at hb;omega
 ·exact this
theorem AZ.Bp{t:Nat}{c:AG}(h:AZ t c){k:Nat}{w:AX}(hw:CW c.AF w)(hb:(c.w k).b.length≤w.b.length):AZ t (c.Bp k w):=
 h.VL (h.ws.set hw) (EJ.set hb)
theorem AZ.BQ{t:Nat}{c:AG}(h:AZ t c){k:Nat}{r:Bb}(hr:FG c.AF t r):AZ t (c.BQ k r):=by
 refine {h with rl:=by show(c.rs.set k r).length=4;rw [E?];exact h.rl,rs:=fun j hj=>?_};show FG c.AF t ((c.rs.set k r).getD j E6);rw [DN];split
 ·exact hr
 ·exact h.rs j hj
theorem Pq{c:AG}{k:Int}(h:c.stream k=0):c.closed=0∧0≤k∧k.toNat<4:=by
 unfold AG.stream at h;split at h
 ·cases h
 split at h
 ·cases h
 ·rename_i h1 h2;refine⟨by simpa using h1,?_,?_⟩<;>omega
theorem SV{c:AG}{k:Int}(h:c.D3 k=0):c.stream k=0∧(c.w k.toNat).finished=false∧(c.w k.toNat).given=false:=by
 unfold AG.D3 at h;split at h
 ·rename_i h1;exact absurd h h1
 split at h
 ·cases h
 ·rename_i h1 h2;refine⟨by simpa using h1,?_,?_⟩<;>simp_all
theorem CW.write{AF:Nat}{w:AX}(h:CW AF w)(n:Nat)(xs:List UInt8)(hn:n≤AF-(w.b.length-w.A4))(hn2:n≤4096-w.b.length):CW AF {w with b:=w.b++xs.take n}:=by
 have hl:(w.b++xs.take n).length≤w.b.length+n:=by simp;omega
 have h1:=h.Nw;have h2:=h.len;have h3:=h.room;have hp:w.A4≤({w with b:=w.b++xs.take n}:AX).A4:=Pt h.co.inc h.co.inc (fun r hr=>by have:=h.co.hi r hr;show r.hi<(w.b++xs.take n).length;simp;omega) (fun _ h=>h);refine⟨by show(w.b++xs.take n).length≤_;omega,h.so.mono Cg,h.sf,h.sm,h.co.mono Cg,h.cf,h.cm,?_,F_ h.high Cg,h.code⟩;show(w.b++xs.take n).length≤_;omega
theorem AZ.write{t:Nat}{c:AG}(h:AZ t c)(k:Int)(xs:List UInt8):AZ t (c.write k xs).2:=by
 unfold AG.write;split
 ·exact h
 ·rename_i h1;obtain⟨h2,h3,h4⟩:=SV (by simpa using h1:c.D3 k=0);obtain⟨h5,h6,h7⟩:=Pq h2;refine h.Bp (CW.write (h.ws.ok _ h7) _ _ ?_ ?_) Cg
  ·show min (min _ _) _≤_;exact F_ Tf Tf
  ·show min (min _ _) _≤_;exact F_ Tf (Nat.min_le_right _ _)
theorem AZ.finish{t:Nat}{c:AG}(h:AZ t c)(k:Int):AZ t (c.finish k).2:=by
 unfold AG.finish;split
 ·exact h
 ·rename_i h1;obtain⟨h2,h3,h4⟩:=SV (by simpa using h1:c.D3 k=0);obtain⟨h5,h6,h7⟩:=Pq h2;have g:=h.ws.ok _ h7;exact h.Bp ⟨g.len,g.so,g.sf,g.sm,g.co,g.cf,g.cm,g.room,g.high,g.code⟩ C8
theorem AZ.giveUp{t:Nat}{c:AG}(h:AZ t c)(k:Int)(code:Nat):AZ t (c.giveUp k code).2:=by
 unfold AG.giveUp;split
 ·exact h
 split
 ·exact h
 ·rename_i h1 h2;obtain⟨h5,h6,h7⟩:=Pq (by simpa using h1:c.stream k=0);have g:=h.ws.ok _ h7;exact h.Bp ⟨g.len,g.so,g.sf,g.sm,g.co,g.cf,g.cm,g.room,g.high,by show code≤_;omega⟩ C8
theorem AZ.close{t:Nat}{c:AG}(h:AZ t c)(code:Nat):AZ t (c.close code).2:=by
 unfold AG.close;split
 ·exact h
 split
 ·exact h
 ·exact {h with closed:=by show 9≤10;omega,code:=by show code≤_;omega}
theorem AZ.Fm{t:Nat}{c:AG}(h:AZ t c)(lost:Da→Bool):AZ t (c.Fm lost):=by
 obtain⟨a,b,_⟩:=MN (c.BG.filter lost) c.ws h.ws (fun p hp f hf=>(h.Am p QB).fr f hf)
 have hl:(c.BG.filter (fun p=> !lost p)).length+(c.BG.filter lost).length=c.BG.length:=by
  clear a b
  induction c.BG with
  |nil=>rfl
  |cons p ps ih=>cases e:lost p<;>simp [e]<;>omega
 refine {h with ws:=a,fl:=by show(c.BG.filter _).length≤10;have:=h.fl;omega,Am:=fun p hp=>?_,cnt:=?_}
 ·have hp':p∈c.BG∨p∈c.lost:=by
   rcases hp with hp|hp
   ·exact MB
   ·rcases D_.1 hp with hp|hp
    ·exact .inr hp
    ·exact MB
  have g:=h.Am p hp';exact⟨g.num,g.at_,g.len,fun f hf=>(g.fr f hf).same b⟩
 ·show(c.BG.filter _).length+(c.lost++c.BG.filter lost).length≤c.next
  have:=h.cnt
  rw [A_];omega
theorem AZ.tick{t:Nat}{c:AG}(h:AZ t c):AZ (t+1) c.tick:=by
 have h1:AZ (t+1) {c with now:=c.now+1}:=
  {h.mono ER with nw:=by have:=h.nw;show c.now+1≤t+1;omega,Am:=fun p hp=>let g:=h.Am p hp;⟨g.num,L! g.at_,g.len,g.fr⟩}
 unfold AG.tick;split
 ·exact {h1.Fm _ with wt:=by show min (c.waits+1) 8≤8;omega}
 ·exact h1
theorem AZ.Eb{t:Nat}{c:AG}(h:AZ t c)(l:List AV)(hl:(rg l 0).hi<c.next):AZ t (c.Eb l)∧FX c.ws (c.Eb l).ws∧
  ∀k n,BB n ((c.Eb l).w k).AE.l↔BB n (c.w k).AE.l∨∃p,(p∈c.lost∨p∈c.BG)∧BI l p.number=true∧Kw p.As k n:=by
 obtain⟨a,b,e⟩:=Mv (l:=l) c.lost c.ws h.ws (fun p hp f hf=>(h.Am p (.inr hp)).fr f hf);obtain⟨a',b',e'⟩:=Mv (l:=l) c.BG _ a (fun p hp f hf=>((h.Am p (.inl hp)).fr f hf).same b);refine⟨{h with ws:=a',fl:=F_ (G_ _ _) h.fl,Am:=fun p hp=>?_,cnt:=?_,wt:=?_,lg:=?_},b.trans b',fun k n=>?_⟩
 ·have hp':p∈c.BG∨p∈c.lost:=by
   rcases hp with hp|hp
   ·exact MB
   ·exact .inr (N?.1 hp).1
  have g:=h.Am p hp';exact⟨g.num,g.at_,g.len,fun f hf=>(g.fr f hf).same (b.trans b')⟩
 ·have h1:=G_ (fun p:Da=> !BI l p.number) c.BG;have h2:=G_ (fun p:Da=> !BI l p.number) c.lost
  have:=h.cnt
  show(c.BG.filter _).length+(c.lost.filter _).length≤c.next;omega
 ·show(if _ then 0 else c.waits)≤8;split
  ·omega
  ·exact h.wt
 ·show max c.BV (rg l 0).hi≤c.next
  have:=h.lg;omega
 ·have:=e' k n
  rw [show((c.Eb l).w k)=(c.BG.foldl (H8 l) (c.lost.foldl (H8 l) c.ws)).getD k Aq from rfl,this,e k n];constructor
  ·rintro((g|⟨p,hp,g⟩)|⟨p,hp,g⟩)
   ·exact .inl g
   ·exact .inr ⟨p,.inl hp,g⟩
   ·exact .inr ⟨p,.inr hp,g⟩
  ·rintro(g|⟨p,hp|hp,g⟩)
   ·exact .inl (.inl g)
   ·exact .inl (.inr ⟨p,hp,g⟩)
   ·exact .inr ⟨p,hp,g⟩
theorem AZ.By{t:Nat}{c:AG}(h:AZ t c)(l:List AV):AZ t (c.By l).2:=by
 unfold AG.By;split
 ·exact h
 ·exact(h.Eb l Ca).1.Fm _
theorem Ft.refl(r:Bb):Ft r r:=⟨rfl,rfl,id⟩
theorem Ft.trans{a b c:Bb}(h:Ft a b)(g:Ft b c):Ft a c:=⟨g.read.trans h.read,g.state.trans h.state,fun e=>g.given (h.given e)⟩
theorem AZ.take{t:Nat}{c:AG}(h:AZ t c)(f:AT)(hf:Ir f)(hb:¬c.busy f):AZ t (c.take f).2∧(∀k,Ft (c.r k) ((c.take f).2.r k))∧(c.take f).2.AF=c.AF:=by
 have hk4:f.stream.toNat<4:=by have:=hf.1;have:=hf.2.1;omega
 have g:=h.rs _ hk4
 have hset:∀r,Ft (c.r f.stream.toNat) r→∀k,Ft (c.r k) ((c.BQ f.stream.toNat r).r k):=by
  intro r hr k;show Ft (c.r k) ((c.rs.set f.stream.toNat r).getD k E6);rw [DN];split
  ·rename_i e;rw [←e.1];exact hr
  ·exact .refl _
 unfold AG.take;split
 ·refine⟨h.By _,fun k=>?_,?_⟩
  ·unfold AG.By;split<;>exact .refl _
  ·unfold AG.By;split<;>rfl
 split
 ·split
  ·exact⟨h,fun _=>.refl _,rfl⟩
  ·refine⟨h.BQ ⟨g.co,g.cf,g.cm,g.rh,g.hw,g.pre,(fun h=>by cases h),g.rt,?_,?_,g.st,fun _=>rfl⟩,hset _ ⟨rfl,rfl,fun _=>rfl⟩,rfl⟩
   ·exact hf.2.2.2.1
   ·show(if _ then _ else _)≤_;split
    ·exact g.code
    ·exact hf.2.2.1
 split
 ·rename_i h5
  obtain⟨a,b⟩:=g.data h.w2 f hf h5 (fun hg=>by
   rcases H_ ((c.r f.stream.toNat).read+c.AF) (f.offset+f.data.size)with hlt|hge
   ·exact absurd ⟨h5,hg,hlt⟩ hb
   ·exact hge)
  exact⟨h.BQ a,hset _ b,rfl⟩
 split<;>exact⟨h,fun _=>.refl _,rfl⟩
theorem Q8{c:AG}(f:AT):(c.take f).1≤10:=by
 unfold AG.take AG.By Bb.data
 repeat' split
 all_goals simp
theorem AZ.Bc{t:Nat}:∀(fs:List AT) (c:AG),AZ t c→(∀f∈fs,Ir f∧¬c.busy f)→AZ t (c.Bc fs).2
 |[],c,h,_=>h
 |f::fs,c,h,hf=>by
  obtain⟨a,b,e⟩:=h.take f (hf f Cg).1 (hf f Cg).2;rw [AG.Bc];split
  ·exact {a with closed:=Q8 f,code:=by have:=Q8 (c:=c) f;show(c.take f).1≤_;omega}
  ·refine AZ.Bc fs _ {a with} (fun g hg=>⟨(hf g Cv).1,?_⟩);have h2:=(hf g Cv).2;rintro⟨k1,k2,k3⟩;refine h2 ⟨k1,?_,?_⟩
   ·have:=(b g.stream.toNat).given
    cases e:(c.r g.stream.toNat).given
    ·rfl
    ·rw [e]at this
     have:=this rfl
     have k2':((c.take f).2.r g.stream.toNat).given=false:=k2;rw [this]at k2';cases k2'
   ·have h4:((c.take f).2.r g.stream.toNat).read+(c.take f).2.AF<g.offset+g.data.size:=k3;rw [(b g.stream.toNat).read,e]at h4;exact h4
theorem gU(xs:List UInt8):∀(fuel a:Nat) (fs:List AT),xs.length-a≤fuel→FJ xs a=.ok fs→∀f∈fs,B0 f:=by
 intro fuel
 induction fuel with
 |zero=>
  intro a fs hl h;rw [FJ,if_neg Ca]at h;cases h;intro f hf;cases hf
 |succ n ih=>
  intro a fs hl h;rw [FJ]at h;split at h
  ·split at h
   ·rename_i f a' e;split at h
    ·split at h
     ·rename_i l e2;cases h;intro g hg;rcases K?.1 hg with rfl|hg
      ·unfold Fl at e;split at e
       ·split at e
        ·cases e;assumption
        ·cases e
       ·cases e
      ·exact ih a' l Ca e2 g hg
     ·cases h
    ·cases h
   ·cases h
  ·cases h;intro f hf;cases hf
theorem SG{xs:List UInt8}{fs:List AT}(h:FI xs=.ok fs):∀f∈fs,B0 f:=by
 unfold FI at h;split at h
 ·cases h
 ·exact gU xs _ 0 fs C8 h
theorem AZ.A9{t:Nat}{c:AG}(h:AZ t c)(p:List UInt8)(hn:∀n b,Bx c.ks (Ag (!c.first)) p=some (n,b)→n.toNat≤4611686018427387903):AZ t (c.A9 p).2:=by
 unfold AG.A9;split
 ·exact h
 split
 ·exact h
 ·rename_i number b e;split
  ·exact h
  split
  ·exact {h with closed:=by show 5≤10;omega,code:=by show 5≤_;omega}
  ·rename_i fs e2;split
   ·exact h
   ·rename_i hb;have hg:=h.AR.add number.toNat number.toNat (by have:=hn number b e;omega) (by rw [h.gm];omega);refine AZ.Bc fs _ {h with AR:=hg.1,gm:=hg.2.trans h.gm} (fun f hf=>⟨.of (SG e2 f hf),fun hbf=>hb ⟨f,hf,hbf⟩⟩)
theorem AZ.read{t:Nat}{c:AG}(h:AZ t c)(k AL:Int):AZ (t+1) (c.read k AL).2:=by
 unfold AG.read;split
 ·exact h.mono ER
 ·rename_i h1;obtain⟨h5,h6,h7⟩:=Pq (by simpa using h1:c.stream k=0);have g:=h.rs _ h7
  have g1:FG c.AF t (c.EX k.toNat):=by
   unfold AG.EX;split
   ·rename_i hc;exact⟨g.co,g.cf,g.cm,g.rh,g.hw,g.pre,(fun h=>by rw [hc.1]at h;cases h),g.rt,g.en,g.code,B! _,fun _=>hc.1⟩
   ·exact g
  generalize hr:c.EX k.toNat=r at g1⊢;dsimp only
  have ho:(c.r k.toNat).given=true→r.state≠0:=by
   intro hg h0
   have:r.state=(c.EX k.toNat).state:=by rw [hr]
   unfold AG.EX at this;split at this
   ·simp at this;omega
   ·rename_i hc;exact hc ⟨hg,this▸h0⟩
  have hgr:r.given=(c.r k.toNat).given:=by
   have:r.given=(c.EX k.toNat).given:=by rw [hr]
   rw [this];unfold AG.EX;split<;>rfl
  split
  ·rename_i h0
   have hg:r.given=false:=by
    cases e:r.given
    ·rfl
    ·exact absurd h0 (ho (hgr▸e))
   obtain⟨p1,p2⟩:=M8 g1.co.inc g1.rh g1.co.hi
   have p3:=(H9 r.AE.l r.read r.high g1.co.inc g1.rh)
   have hn:AG.HB r AL≤(AQ r.read r.high r.AE.l).1-r.read:=Nat.min_le_left _ _;have hl:=g1.len hg;have hw:=g1.hw;have hrh:=g1.rh;have hrt:=g1.rt;have hw2:=h.w2
   have hbase:FG c.AF (t+1) {r with b:=r.b.drop (AG.HB r AL),read:=r.read+AG.HB r AL}:=by
    refine⟨g1.co,g1.cf,g1.cm,by show r.read+AG.HB r AL≤r.high;omega,by show r.high≤r.read+AG.HB r AL+c.AF;omega,fun n hnn=>?_,fun _=>?_,by show r.read+AG.HB r AL≤1024*(t+1);omega,g1.en,g1.code,g1.st,g1.OS⟩
    ·by_cases hq:n<r.read
     ·exact g1.pre n hq
     ·exact p3.2.1 n Ca (by have:n<r.read+AG.HB r AL:=hnn;omega)
    ·show(r.b.drop _).length=r.high-(r.read+_);rw [E_];omega
   refine(h.mono ER).BQ ?_;split
   ·exact⟨hbase.co,hbase.cf,hbase.cm,hbase.rh,hbase.hw,hbase.pre,hbase.len,hbase.rt,hbase.en,hbase.code,by show 1≤2;omega,(fun h=>by cases h)⟩
   ·exact hbase
  ·exact(h.mono ER).BQ (g1.mono ER)
theorem uC{xs ys:List UInt8}{a:Nat}(h:xs.drop a=ys)(i:Nat):Ga xs (a+i)=(ys.getD i 0).toNat:=by
 subst h;unfold Ga;simp only [Q!,F!]
theorem WU{xs ys:List UInt8}{a:Nat}(h:xs.drop a=ys)(h0:0<ys.length):a+ys.length=xs.length:=by
 subst h;rw [E_]at h0⊢;omega
theorem Hu{xs ys r:List UInt8}{a:Nat}(h:xs.drop a=ys++r):xs.drop (a+ys.length)=r:=by
 rw [←P?,h,List.drop_left]
theorem jH(n:Nat):0<(AU n).length:=by
 unfold AU
 repeat' split
 all_goals simp
theorem Hm{xs r:List UInt8}{a n:Nat}(hn:n≤4611686018427387903)(h:xs.drop a=AU n++r):C6 xs a=some (n,a+(AU n).length):=by
 have hb:=uC h;have hl:a+(AU n++r).length=xs.length:=WU h (by have:=jH n;rw [A_];omega);rw [A_]at hl;have b0:=hb 0;rw [Nat.add_zero]at b0;unfold AU at hb b0 hl⊢;split at hl
 ·rename_i h1;rw [if_pos h1]at b0⊢;simp at b0 hl⊢
  have e:Ga xs a=n:=by omega
  have es:CV xs a=1:=by unfold CV;rw [e,show n/64=0 by omega]
  unfold C6;rw [es,if_pos ⟨Ca,Ca⟩];simp [Hs,e];omega
 ·rename_i h1;rw [if_neg h1]at b0 hb⊢;split at hl
  ·rename_i h2;rw [if_pos h2]at b0 hb⊢;have b1:=hb 1;simp at b0 b1 hl⊢
   have e:Ga xs a=n/256+64:=by omega
   have es:CV xs a=2:=by unfold CV;rw [e,show(n/256+64)/64=1 by omega]
   unfold C6;rw [es,if_pos ⟨Ca,Ca⟩];simp [Hs,e,b1];omega
  ·rename_i h2;rw [if_neg h2]at b0 hb⊢;split at hl
   ·rename_i h3;rw [if_pos h3]at b0 hb⊢;have b1:=hb 1;have b2:=hb 2;have b3:=hb 3;simp at b0 b1 b2 b3 hl⊢
    have e:Ga xs a=n/16777216+128:=by omega
    have es:CV xs a=4:=by unfold CV;rw [e,show(n/16777216+128)/64=2 by omega]
    unfold C6;rw [es,if_pos ⟨Ca,Ca⟩];simp [Hs,e,b1,b2,b3];omega
   ·rename_i h3;rw [if_neg h3]at b0 hb⊢;have b1:=hb 1;have b2:=hb 2;have b3:=hb 3;have b4:=hb 4;have b5:=hb 5;have b6:=hb 6;have b7:=hb 7;simp at b0 b1 b2 b3 b4 b5 b6 b7 hl⊢
    have e:Ga xs a=n/72057594037927936+192:=by omega
    have es:CV xs a=8:=by unfold CV;rw [e,show(n/72057594037927936+192)/64=3 by omega]
    unfold C6;rw [es,if_pos ⟨Ca,Ca⟩];simp [Hs,e,b1,b2,b3,b4,b5,b6,b7];omega
theorem WB{xs r:List UInt8}{a n:Nat}(hn:n<4)(h:xs.drop a=AU n++r):HY xs a=some (n,a+(AU n).length):=by
 unfold HY;rw [Hm Ca h];simp [hn]
theorem pI{xs ds r:List UInt8}{a:Nat}(hn:ds.length≤4611686018427387903)(h:xs.drop a=AU ds.length++(ds++r)):IJ xs a=some (ds,a+(AU ds.length).length+ds.length):=by
 unfold IJ;rw [Hm hn h];have h2:=Hu h
 have h3:xs.length-(a+(AU ds.length).length)=(ds++r).length:=by rw [←h2,E_]
 rw [A_]at h3;simp only [];rw [if_pos Ca,h2,O_ rfl]
def I9(rs:List AV):Nat→Nat→List UInt8
 |_,0=>[]
 |j,n+1=>AU ((rg rs j).lo-(rg rs (j+1)).hi-2)++(AU ((rg rs (j+1)).hi-(rg rs (j+1)).lo)++I9 rs (j+1) n)
theorem Uf(rs:List AV):∀n j,Bz rs j++I9 rs j n=Bz rs (j+n)
 |0,j=>by simp [I9]
 |n+1,j=>by
  have:=Uf rs n (j+1)
  rw [show j+1+n=j+(n+1) by omega]at this;rw [←this,I9,Bz];simp only [B_]
theorem XN{xs r:List UInt8}{rs:List AV}:∀(n j a:Nat),(∀i,i≤j+n→FZ rs i)→xs.drop a=I9 rs j n++r→Fr xs n (rg rs j).lo a=some ((R_ n).map (fun i=>rg rs (j+1+i)),a+(I9 rs j n).length)
 |0,j,a,_,_=>by simp [Fr,I9]
 |n+1,j,a,hok,h=>by
  have h0:=hok j Ca;have h1:=hok (j+1) Ca;unfold FZ at h0 h1;rw [Nat.add_sub_cancel]at h1
  have h12:2≤(rg rs j).lo∧(rg rs (j+1)).hi+2≤(rg rs j).lo:=by
   rcases h1.2.2 with h|h
   ·omega
   ·exact h
  rw [I9,B_,B_]at h;have e1:=Hm Ca h;have g1:=Hu h;have e2:=Hm Ca g1;have g2:=Hu g1;have ih:=XN n (j+1) _ (fun i hi=>hok i Ca) g2
  have el:(rg rs j).lo-2-((rg rs j).lo-(rg rs (j+1)).hi-2)-((rg rs (j+1)).hi-(rg rs (j+1)).lo)=(rg rs (j+1)).lo:=by omega
  have eh:(rg rs j).lo-2-((rg rs j).lo-(rg rs (j+1)).hi-2)=(rg rs (j+1)).hi:=by omega
  rw [Fr,e1];simp only [];rw [e2];simp only [];rw [if_pos Ca,el,ih,eh];simp only [F?.injEq,Prod.mk.injEq];refine⟨?_,by rw [I9,A_,A_];omega⟩;rw [I!,L_,Q?];refine L?.2 ⟨rfl,K_ fun i _=>?_⟩;simp only [Function.comp];rw [show j+1+1+i=j+1+(i+1) by omega]
theorem jP(rs:List AV):(R_ rs.length).map (rg rs)=rs:=by
 apply I_ Cg;intro i h1 h2;simp [rg,Q!,C! h2]
theorem lO{xs r:List UInt8}{rs:List AV}{a:Nat}(hok:GH rs)(hl:rs.length≤4611686018427387903)
  (h:xs.drop a=AU (rg rs 0).hi++AU (rs.length-1)++AU ((rg rs 0).hi-(rg rs 0).lo)++Bz rs (rs.length-1)++r):
  Fe xs a=some (rs,a+(AU (rg rs 0).hi++AU (rs.length-1)++AU ((rg rs 0).hi-(rg rs 0).lo)++Bz rs (rs.length-1)).length):=by
 have hne:0<rs.length:=D?.2 hok.1;have h0:=hok.2 0 hne;unfold FZ at h0;have hf:=Uf rs (rs.length-1) 0;rw [show Bz rs 0=[]from rfl,O!,Nat.zero_add]at hf;rw [←hf]at h⊢;rw [B_,B_,B_]at h;have e1:=Hm Ca h;have g1:=Hu h;have e2:=Hm Ca g1;have g2:=Hu g1;have e3:=Hm Ca g2;have g3:=Hu g2;have e4:=XN (rs.length-1) 0 _ (fun i hi=>hok.2 i Ca) g3
 have el:(rg rs 0).hi-((rg rs 0).hi-(rg rs 0).lo)=(rg rs 0).lo:=by omega
 unfold Fe;rw [e1];simp only [];rw [e2];simp only [];rw [e3];simp only [];rw [if_pos Ca,el,e4];simp only [F?.injEq,Prod.mk.injEq,A_];refine⟨?_,Ca⟩
 conv=>rhs;rw [←jP rs,show rs.length=(rs.length-1)+1 by omega]
 rw [I!,L_,Q?];refine L?.2 ⟨rfl,K_ fun i _=>?_⟩;simp only [Function.comp];rw [show 0+1+i=i+1 by omega]
def Dg(f:AT):AT:=
 if f.kind=1 then⟨1,0,0,0,false,⟨#[]⟩,[]⟩else if f.kind=2 then⟨2,0,0,0,false,⟨#[]⟩,[]⟩
 else if f.kind=3 then⟨3,0,0,0,false,⟨#[]⟩,f.ranges⟩else if f.kind=4 then⟨4,f.stream,f.offset,f.code,false,⟨#[]⟩,[]⟩
 else if f.kind=5 then⟨5,f.stream,f.offset,0,f.fin,f.data,[]⟩else⟨6,0,0,f.code,false,⟨#[]⟩,[]⟩
theorem Ra{f:AT}(h:DU f.kind):f.kind=1∨f.kind=2∨f.kind=3∨f.kind=4∨f.kind=5∨f.kind=6:=by unfold DU at h;omega
theorem sO{f:AT}(h:B0 f):Ai (Dg f)=Ai f:=by
 rcases Ra h.2.2.2.2.2 with e|e|e|e|e|e<;>simp [Dg,Ai,e]
theorem bE{f:AT}(h:B0 f):B0 (Dg f):=by
 obtain⟨h1,h2,h3,h4,⟨h5,h6⟩,h7⟩:=h;rcases Ra h7 with e|e|e|e|e|e
 ·simp [Dg,e,B0,HL,DU]
 ·simp [Dg,e,B0,HL,DU]
 ·simp [Dg,e,B0,HL,DU,h5 e]
 ·simp [Dg,e,B0,HL,DU];omega
 ·have:=h6 e
  simp [Dg,e,B0,HL,DU];omega
 ·simp [Dg,e,B0,HL,DU];omega
theorem wG{xs r:List UInt8}{f:AT}{a:Nat}(hok:B0 f)(hl:f.ranges.length≤4611686018427387903)(h:xs.drop a=Ai f++r):Fl xs a=some (Dg f,a+(Ai f).length):=by
 have hno:=bE hok
 suffices hk:CA xs (Eh (xs.getD a 0)) (decide (xs.getD a 0=9)) (a+1)=some (Dg f,a+(Ai f).length) by
  unfold Fl;rw [hk];simp only [];rw [if_pos hno]
 have hd:∀t ys,Ai f=t::ys→xs.getD a 0=t∧xs.drop (a+1)=ys++r:=by
  intro t ys e;rw [e]at h;constructor
  ·have:(xs.drop a).getD 0 0=t:=by rw [h];rfl
   simpa [Q!,F!]using this
  ·rw [←P?,h];rfl
 obtain⟨h1,h2,h3,h4,⟨h5,h6⟩,h7⟩:=hok;rcases Ra h7 with e|e|e|e|e|e
 ·have ee:Ai f=0:: []:=by simp [Ai,e]
  obtain⟨t1,t2⟩:=hd _ _ ee;rw [t1,ee];simp [CA,Eh,Dg,e]
 ·have ee:Ai f=1:: []:=by simp [Ai,e]
  obtain⟨t1,t2⟩:=hd _ _ ee;rw [t1,ee];simp [CA,Eh,Dg,e]
 ·have ee:Ai f=2::(AU (rg f.ranges 0).hi++AU (f.ranges.length-1)++AU ((rg f.ranges 0).hi-(rg f.ranges 0).lo)++Bz f.ranges (f.ranges.length-1)):=by simp [Ai,e,KD]
  obtain⟨t1,t2⟩:=hd _ _ ee;have er:=lO (h5 e) hl t2;rw [t1,ee,E!];simp only [CA,Eh,Dg,e];simp only [er]
  simp
  omega
 ·have ee:Ai f=4::(AU f.stream.toNat++AU f.code++AU f.offset):=by simp [Ai,e]
  obtain⟨t1,t2⟩:=hd _ _ ee;rw [B_,B_]at t2;have e1:=WB Ca t2;have g1:=Hu t2;have e2:=Hm h2 g1;have g2:=Hu g1;have e3:=Hm h1 g2;rw [t1,ee,E!,A_,A_];simp only [CA,Eh,Dg,e];simp only [e1,e2,e3]
  simp
  omega
 ·have hdl:f.data.data.toList.length=f.data.size:=by rw [Array.length_toList];rfl
  have ee:Ai f=(bif f.fin then 9 else 8)::(AU f.stream.toNat++AU f.offset++AU f.data.size++f.data.data.toList):=by simp [Ai,e]
  obtain⟨t1,t2⟩:=hd _ _ ee;rw [B_,B_,B_,←hdl]at t2;have e1:=WB Ca t2;have g1:=Hu t2;have e2:=Hm h1 g1;have g2:=Hu g1;have h6':=h6 e;have e3:=pI Ca g2
  have hk:Eh (bif f.fin then 9 else 8)=5:=by cases f.fin<;>rfl
  have h9:decide ((bif f.fin then(9:UInt8)else 8)=9)=f.fin:=by cases f.fin<;>rfl
  rw [t1,ee,hk,h9,E!,A_,A_,A_];simp only [CA,Dg,e];simp only [e1,e2,e3];simp [AW];omega
 ·have ee:Ai f=28::AU f.code:=by simp [Ai,e]
  obtain⟨t1,t2⟩:=hd _ _ ee;have e1:=Hm h2 t2;rw [t1,ee,E!];simp only [CA,Eh,Dg,e];simp only [e1]
  simp
  omega
theorem Om(f:AT):0<(Ai f).length:=by
 unfold Ai
 repeat' split
 all_goals first|simp|(unfold KD;simp)
theorem Vm{xs:List UInt8}:∀(fs:List AT) (a:Nat),(∀f∈fs,B0 f∧f.ranges.length≤4611686018427387903)→xs.drop a=Av fs→FJ xs a=.ok (fs.map Dg)
 |[],a,_,h=>by
  have:xs.length≤a:=List.drop_eq_nil_iff.1 h
  exact VG Ca
 |f::fs,a,hok,h=>by
  have h':xs.drop a=Ai f++Av fs:=h;have h1:=wG (hok f Cg).1 (hok f Cg).2 h';have hp:=Om f;have hl:=WU h' PE;rw [A_]at hl;rw [ZS Ca h1,Vm fs _ (fun g hg=>hok g Cv) (Hu h')];rfl
theorem mS{fs:List AT}{ys:List UInt8}(he:Gt fs=some ys)(hl:∀f∈fs,f.ranges.length≤4611686018427387903):FI ys=.ok (fs.map Dg)∧Gt (fs.map Dg)=some ys∧Av (fs.map Dg)=Av fs:=by
 unfold Gt at he;split at he
 ·rename_i hc;obtain rfl:=F?.inj he
  have hall:∀f∈fs,B0 f∧f.ranges.length≤4611686018427387903:=fun f hf=>⟨hc.2 f hf,hl f hf⟩
  have hsame:Av (fs.map Dg)=Av fs:=by
   unfold Av;rw [List.flatMap_map];clear he hall hl;obtain⟨-,hc⟩:=hc
   induction fs with
   |nil=>rfl
   |cons f fs ih=>simp only [M_];rw [sO (hc f Cg),ih (fun g hg=>hc g Cv)]
  have hne:Av fs≠ []:=by
   cases fs with
   |nil=>exact absurd rfl hc.1
   |cons f fs=>
    intro h;have hp:=Om f
    have:(Ai f++Av fs).length=0:=by rw [show Ai f++Av fs=Av (f::fs)from rfl,h];rfl
    rw [A_]at this;omega
  refine⟨?_,?_,hsame⟩
  ·unfold FI;rw [if_neg hne];exact Vm fs 0 hall rfl
  ·unfold Gt
   rw [if_pos ⟨by simpa using hc.1,fun g hg=>by
    obtain⟨f,hf,rfl⟩:=List.mem_map.1 hg
    exact bE (hc.2 f hf)⟩,hsame]
 ·cases he
theorem Rz(l m:List AT):Av (l++m)=Av l++Av m:=by simp [Av]
theorem Lx(f:AT):Av [f]=Ai f:=by simp [Av]
theorem Oh(l:List AT):l.length≤(Av l).length:=by
 induction l with
 |nil=>simp
 |cons f l ih=>have:=Om f;simp only [Av,M_,A_,E!]at*;omega
structure Gn(ws:List AX)(f:AT):Prop where
 ok:B0 f
 nm:Dg f=f
 fr:EJ ws f
 rg:f.ranges.length≤8
structure IS(ws:List AX)(d:BT):Prop where
 room:d.room≤284
 len:d.b.length≤d.room
 fr:∀f∈d.As,Gn ws f
structure Hn(w w':AX):Prop where
 b:w'.b=w.b
 AE:w'.AE=w.AE
 finished:w'.finished=w.finished
 ended:w'.ended=w.ended
 given:w'.given=w.given
 code:w'.code=w.code
 high:w.high≤w'.high
theorem Hn.refl(w:AX):Hn w w:=aZ
theorem Hn.trans{a b c:AX}(h:Hn a b)(g:Hn b c):Hn a c:=
 ⟨g.b.trans h.b,g.AE.trans h.AE,g.finished.trans h.finished,g.ended.trans h.ended,g.given.trans h.given,g.code.trans h.code,F_ h.high g.high⟩
def Hl(w w':AX)(k:Nat)(f:AT):Prop:=
 (w.given=true∧w.C4=false∧f=H2 k w.code w.high∧w'={w with C4:=true})∨
 (w.given=false∧∃lo hi,lo≤hi∧hi≤w.b.length∧f=Bt k lo (w.finished&&decide (hi=w.b.length)) (cut w.b lo hi)∧(lo<hi∨f.fin=true)∧
  (∀n,lo≤n→n<hi→¬BB n w.Ae.l)∧(lo=hi→w.ending=false∧w.ended=false)∧
  w'={w with Ae:=if lo<hi then w.Ae.add lo (hi-1)else w.Ae,ending:=w.ending||f.fin,high:=max w.high hi})
theorem MK{b:List UInt8}{lo hi:Nat}(h:hi≤b.length):(cut b lo hi).length=hi-lo:=by unfold cut;simp;omega
theorem bN{AF:Nat}{w w':AX}{d d':BT}{k lo hi:Nat}(hlo:lo≤hi)(hhi:hi≤w.b.length)(hg:w.given=false)
  (hs:∀n,lo≤n→n<hi→¬BB n w.Ae.l)(he:lo=hi→w.finished=true∧hi=w.b.length∧w.ending=false∧w.ended=false)
  (h:w.KE d k lo hi=some (w',d')):∃f,d.add f=some d'∧Hl w w' k f:=by
 unfold AX.KE at h;dsimp only at h;split at h
 ·cases h
 ·rename_i hc;split at h
  ·cases h
  ·rename_i d2 e;simp only [F?.injEq,Prod.mk.injEq]at h;obtain⟨rfl,rfl⟩:=h;refine⟨_,e,.inr ⟨hg,lo,_,?_,?_,rfl,?_,?_,?_,rfl⟩⟩
   ·omega
   ·omega
   ·by_cases hl:lo<hi
    ·left;omega
    ·right;obtain⟨h1,h2,_⟩:=he Ca
     have:min hi (lo+(d.room-d.b.length-((Ai (Bt k lo false (cut w.b lo hi))).length-(hi-lo))))=w.b.length:=by omega
     show(w.finished&&decide _)=true;rw [h1,this];simp
   ·intro n h1 h2;exact hs n h1 Ca
   ·intro h1;by_cases hl:lo<hi
    ·omega
    ·exact(he Ca).2.2
theorem bD{AF:Nat}{w w':AX}{d d':BT}{k:Nat}(hw:CW AF w)(h:w.fill d k=some (w',d')):∃f,d.add f=some d'∧Hl w w' k f:=by
 unfold AX.fill at h;split at h
 ·rename_i hg;split at h
  ·cases h
  ·rename_i ht;split at h
   ·cases h
   ·rename_i d2 e;simp only [F?.injEq,Prod.mk.injEq]at h;obtain⟨rfl,rfl⟩:=h;exact⟨_,e,.inl ⟨hg,Sd,rfl,rfl⟩⟩
 ·rename_i hg;obtain⟨ga,gb,gc,gd,ge⟩:=H9 w.Ae.l 0 w.b.length hw.so.inc FL;split at h
  ·split at h
   ·cases h
   ·rename_i h1 h2;exact bN (AF:=AF) C8 C8 RY (fun n h3 h4=>by omega) (fun _=>⟨by simp_all,rfl,by simp_all,by simp_all⟩) h
  ·rename_i h1;exact bN (AF:=AF) Ca gc RY (gd Ca) (fun h=>by omega) h
theorem uI(rs:List AV):Dg (EN rs)=EN rs:=by rfl
theorem Lr(k off:Nat)(fin:Bool)(ds:List UInt8):(Bt k off fin ds).data.size=ds.length:=by simp [Bt]
theorem TY{k off:Nat}{fin:Bool}{ds:List UInt8}(hk:k<4)(h:off+ds.length≤4611686018427387903):B0 (Bt k off fin ds):=by
 refine⟨by show off≤_;omega,A? _,PW,PP,⟨(fun h=>by cases h),fun _=>?_⟩,⟨by show(1:Int)≤5;omega,by show(5:Int)≤6;omega⟩⟩;rw [Lr];show ds.length+off≤_;omega
theorem ZC{k code off:Nat}(hk:k<4)(hc:code≤4611686018427387903)(ho:off≤4611686018427387903):B0 (H2 k code off):=
 ⟨ho,hc,PW,PP,⟨(fun h=>by cases h),(fun h=>by cases h)⟩,⟨by show(1:Int)≤4;omega,by show(4:Int)≤6;omega⟩⟩
theorem eU{code:Nat}(hc:code≤4611686018427387903):B0 (Do code):=
 ⟨A? _,hc,by show(0:Int)≤0;omega,by show(0:Int)<4;omega,⟨(fun h=>by cases h),(fun h=>by cases h)⟩,⟨by show(1:Int)≤6;omega,by show(6:Int)≤6;omega⟩⟩
theorem Zx{rs:List AV}(h:GH rs):B0 (EN rs):=
 ⟨A? _,A? _,by show(0:Int)≤0;omega,by show(0:Int)<4;omega,⟨fun _=>h,(fun h=>by cases h)⟩,⟨by show(1:Int)≤3;omega,by show(3:Int)≤6;omega⟩⟩
theorem Hl.Ae{AF:Nat}{w w':AX}{k:Nat}{f:AT}(hw:CW AF w)(h:Hl w w' k f):Hn w w'∧CW AF w':=by
 rcases h with⟨h1,h2,rfl,rfl⟩|⟨h1,lo,hi,h2,h3,rfl,h4,h5,h6,rfl⟩
 ·exact⟨aZ,⟨hw.len,hw.so,hw.sf,hw.sm,hw.co,hw.cf,hw.cm,hw.room,hw.high,hw.code⟩⟩
 ·refine⟨⟨rfl,rfl,rfl,rfl,rfl,rfl,O? _ _⟩,?_⟩
  have hs:C5 (if lo<hi then w.Ae.add lo (hi-1)else w.Ae) w.b.length∧(if lo<hi then w.Ae.add lo (hi-1)else w.Ae).floor=0∧(if lo<hi then w.Ae.add lo (hi-1)else w.Ae).AL=4096:=by
   split
   ·obtain⟨a,b,c,_⟩:=Je (lo:=lo) (hi:=hi-1) hw.so hw.sf hw.sm hw.len Ca;exact⟨a,b,c⟩
   ·exact⟨hw.so,hw.sf,hw.sm⟩
  exact⟨hw.len,hs.1,hs.2.1,hs.2.2,hw.co,hw.cf,hw.cm,hw.room,by have:=hw.high;show max w.high hi≤w.b.length;omega,hw.code⟩
theorem Hl.put{AF:Nat}{ws:List AX}{w':AX}{k:Nat}{f:AT}(hw:Dc AF ws)(hk:k<4)(h:Hl (ws.getD k Aq) w' k f):Gn ws f∧(f.kind=4∨f.kind=5):=by
 have g:=hw.ok k hk;rcases h with⟨h1,h2,rfl,rfl⟩|⟨h1,lo,hi,h2,h3,rfl,h4,h5,h6,rfl⟩
 ·have hh:=g.high;have hl:=g.len;exact⟨⟨ZC hk g.code Ca,rfl,⟨PW,PP,(fun h=>by cases h)⟩,A? _⟩,.inl rfl⟩
 ·have hl:=g.len;have hcl:=MK (lo:=lo) h3;refine⟨⟨TY hk Ca,rfl,⟨PW,PP,fun _=>?_⟩,A? _⟩,.inr rfl⟩;rw [Lr,hcl];show lo+(hi-lo)≤(ws.getD (k:Int).toNat Aq).b.length;rw [H!];omega
theorem Gn.Ae{ws:List AX}{k:Nat}{w':AX}{f:AT}(h:Gn ws f)(hs:Hn (ws.getD k Aq) w'):Gn (ws.set k w') f:=
 ⟨h.ok,h.nm,EJ.set (by rw [hs.b];exact B! _) f h.fr,h.rg⟩
theorem X4{d d':BT}{f:AT}(h:d.add f=some d'):d'.As=d.As++[f]∧d'.room=d.room∧d'.b=d.b++Ai f∧d'.b.length≤d.room:=by
 unfold BT.add at h;split at h
 ·cases h
 ·rename_i hc;cases h;refine⟨rfl,rfl,?_,?_⟩
  ·show Av (d.As++[f])=_;rw [Rz,Lx];rfl
  ·have:({d with As:=d.As++[f]}:BT).b=d.b++Ai f:=by show Av (d.As++[f])=_;rw [Rz,Lx];rfl
   rw [this];omega
theorem TH{AF:Nat}{ws:List AX}{w':AX}{d d':BT}{k:Nat}(hw:Dc AF ws)(hd:IS ws d)(hk:k<4)(h:(ws.getD k Aq).fill d k=some (w',d')):
  Dc AF (ws.set k w')∧IS (ws.set k w') d'∧d'.room=d.room∧d.b.length<d'.b.length∧Hn (ws.getD k Aq) w'∧
  ∃f,d'.As=d.As++[f]∧Hl (ws.getD k Aq) w' k f∧(f.kind=4∨f.kind=5):=by
 obtain⟨f,h1,h2⟩:=bD (hw.ok k hk) h;obtain⟨h3,h4⟩:=h2.Ae (hw.ok k hk);obtain⟨h5,h6⟩:=h2.put hw hk;obtain⟨a,b,c,e⟩:=X4 h1;refine⟨hw.set h4,⟨by rw [b];exact hd.room,by rw [b];exact e,fun g hg=>?_⟩,b,?_,h3,f,a,h2,h6⟩
 ·rw [a]at hg;rcases D_.1 hg with hg|hg
  ·exact(hd.fr g hg).Ae h3
  ·rw [B?.1 hg];exact h5.Ae h3
 ·rw [c,A_];have:=Om f;omega
theorem UV{k:Nat}(Φ:AX→BT→Prop)(hstep:∀w d w' d',Φ w d→w.fill d k=some (w',d')→Φ w' d'):∀(n:Nat) (w:AX) (d:BT),Φ w d→Φ (E8 k n w d).1 (E8 k n w d).2
 |0,w,d,h=>h
 |n+1,w,d,h=>by
  rw [E8];split
  ·exact h
  ·rename_i w2 d2 e;exact UV Φ hstep n w2 d2 (hstep _ _ _ _ h e)
theorem set_set{α:Type}(l:List α)(k:Nat)(x y:α):(l.set k x).set k y=l.set k y:=by simp
theorem Sv(ws:List AX)(k:Nat):ws.set k (ws.getD k Aq)=ws:=by
 apply List.ext_getElem?;intro i;rw [List.getElem?_set];by_cases h:k=i
 ·subst h;by_cases h2:k<ws.length
  ·simp [h2]
  ·simp [h2]
 ·simp [h]
theorem Tk(Φ:List AX→BT→Prop)(hl:∀ws d,Φ ws d→ws.length=4)(hstep:∀ws d k w' d',Φ ws d→k<4→(ws.getD k Aq).fill d k=some (w',d')→Φ (ws.set k w') d'):
  ∀(n k:Nat) (ws:List AX) (d:BT),k+n≤4→Φ ws d→Φ (EV d ws k n).1 (EV d ws k n).2
 |0,k,ws,d,_,h=>h
 |n+1,k,ws,d,hk,h=>by
  rw [EV];refine Tk Φ hl hstep n (k+1) _ _ Ca ?_
  have:=UV (k:=k) (fun w d=>Φ (ws.set k w) d) (fun w d w' d' h1 h2=>?_) (d.room+1) (ws.getD k Aq) d (by rw [Sv];exact h)
  ·exact this
  ·have h3:=hl _ _ h1
   have h4:(ws.set k w).getD k Aq=w:=by rw [DN,if_pos ⟨rfl,by rw [E?]at h3;omega⟩]
   have h5:=hstep (ws.set k w) d k w' d' h1 Ca (by rw [h4];exact h2);rw [set_set]at h5;exact h5
structure Told(l:List AV):Prop where
 p:l.Pairwise (fun a b=>b.hi+2≤a.lo)
 r:∀r∈l,r.lo≤r.hi∧r.hi≤4611686018427387903
theorem Told.nil:Told []:=⟨.nil,fun _ h=>nomatch h⟩
theorem Told.take{l:List AV}(h:Told l)(n:Nat):Told (l.take n):=⟨h.p.sublist (List.take_sublist n l),fun r hr=>h.r r (J_ hr)⟩
theorem Told.drop{l:List AV}(h:Told l)(n:Nat):Told (l.drop n):=⟨h.p.sublist (List.drop_sublist n l),fun r hr=>h.r r (J! hr)⟩
theorem Su{l:List AV}{i:Nat}(h:i<l.length):rg l i=l[i]:=by
 unfold rg;rw [A!,C! h,M?]
theorem Told.GH{l:List AV}(h:Told l)(hne:l≠ []):GH l:=by
 refine⟨hne,fun i hi=>?_⟩;have h1:=h.r (rg l i) (by rw [Su hi];exact N_ hi);refine⟨h1.1,h1.2,?_⟩;by_cases h0:i=0
 ·exact .inl h0
 ·right;have h2:=List.pairwise_iff_getElem.1 h.p (i-1) i Ca hi Ca;rw [Su hi,Su (show i-1<l.length by omega)];exact⟨Ca,h2⟩
theorem XS:∀(l:List AV),Ed l→l.Pairwise (fun a b=>a.hi+2≤b.lo)
 |[],_=>.nil
 |r::l,h=>List.Pairwise.cons (fun s hs=>by have:=h.2.1 s hs;omega) (XS l h.2.2)
theorem UO:∀(l:List AV),Ed l→∀r∈l,r.lo≤r.hi
 |[],_,r,hr=>nomatch hr
 |s::l,h,r,hr=>by
  rcases K?.1 hr with rfl|hr
  ·exact h.1
  ·exact UO l h.2.2 r hr
theorem Told.of{s:BE}(h:C5 s 4611686018427387904):Told s.l.reverse:=
 ⟨List.pairwise_reverse.2 (XS _ h.inc),fun r hr=>by
  have hr':=List.mem_reverse.1 hr
  have:=h.hi r hr'
  exact⟨UO _ h.inc r hr',Ca⟩⟩
theorem QE(told:List AV)(room:Nat):∀n,0<n→0<Eg told room n
 |0,h=>h
 |1,_=>Nat.one_pos
 |n+2,_=>by
  rw [Eg];split
  ·exact QE told room (n+1) Ca
  ·omega
theorem Vj(told:List AV)(room:Nat):∀n,Eg told room n≤1∨(Ai (EN (told.take (Eg told room n)))).length≤room
 |0=>.inl FL
 |1=>.inl C8
 |n+2=>by
  rw [Eg];split
  ·exact Vj told room (n+1)
  ·rename_i h;right;omega
theorem tD(r:AV):(Ai (EN [r])).length≤26:=by
 have v1:=CO r.hi;have v2:=CO 0;have v3:=CO (r.hi-r.lo)
 have:Ai (EN [r])=[2]++AU r.hi++AU 0++AU (r.hi-r.lo)++[]:=by rfl
 rw [this];simp only [A_,E!,P_];omega
theorem zK{l:List AV}(h:0<l.length):∃r,l.take 1=[r]:=by
 cases l with
 |nil=>cases h
 |cons r l=>exact⟨r,rfl⟩
theorem XC{c:AG}{t:Nat}(h:AZ t c){told:List AV}(hne:told≠ []):(Ai (EN (told.take (Eg told (c.AI-16) told.length)))).length≤c.AI-16:=by
 have hl:0<told.length:=D?.2 hne;rcases Vj told (c.AI-16) told.length with h1|h1
 ·have h2:=QE told (c.AI-16) told.length hl
  have h3:Eg told (c.AI-16) told.length=1:=by omega
  rw [h3];obtain⟨r,e⟩:=zK hl;rw [e]
  have:=tD r
  have:=h.m1
  omega
 ·exact h1
theorem Of{c:AG}{t:Nat}(h:AZ t c){told:List AV}(ht:Told told)(hl:told.length≤8):IS c.ws (c.DY told):=by
 have hm2:=h.m2;refine⟨by show c.AI-16≤284;omega,?_,?_⟩
 ·show(Av _).length≤c.AI-16;unfold AG.DY;dsimp only;split
  ·exact Mb
  ·rename_i hne;rw [Lx];exact XC h hne
 ·intro f hf;unfold AG.DY at hf;dsimp only at hf;split at hf
  ·cases hf
  ·rename_i hne;rw [B?.1 hf];have h1:0<told.length:=D?.2 hne;have h2:=QE told (c.AI-16) told.length h1;refine⟨Zx ((ht.take _).GH ?_),uI _,⟨by show(0:Int)≤0;decide,by show(0:Int)<4;decide,(fun h=>by cases h)⟩,?_⟩
   ·intro h3;have h4:=congrArg List.length h3;rw [G!,P_]at h4;omega
   ·show(told.take _).length≤8;rw [G!];omega
structure Hy(AF:Nat)(ws0:List AX)(d0:BT)(ws:List AX)(d:BT):Prop where
 HO:Dc AF ws
 Hq:IS ws d
 room:d.room=d0.room
 Ae:∀k,Hn (ws0.getD k Aq) (ws.getD k Aq)
 As:∃l,d.As=d0.As++l∧∀f∈l,f.kind=4∨f.kind=5
theorem Hy.refl{AF:Nat}{ws:List AX}{d:BT}(hw:Dc AF ws)(hd:IS ws d):Hy AF ws d ws d:=
 ⟨hw,hd,rfl,fun k=>.refl _,[],(C_ _).symm,fun _ h=>nomatch h⟩
theorem Hy.step{AF:Nat}{ws0:List AX}{d0:BT}{ws:List AX}{d:BT}(h:Hy AF ws0 d0 ws d){k:Nat}{w':AX}{d':BT}(hk:k<4)
  (e:(ws.getD k Aq).fill d k=some (w',d')):Hy AF ws0 d0 (ws.set k w') d'∧d.b.length<d'.b.length:=by
 obtain⟨h1,h2,h3,h4,h5,f,h6,h7,h8⟩:=TH h.HO h.Hq hk e;refine⟨⟨h1,h2,h3.trans h.room,fun j=>?_,?_⟩,h4⟩
 ·rw [DN];split
  ·rename_i e2;exact(h.Ae j).trans (by rw [←e2.1];exact h5)
  ·exact h.Ae j
 ·obtain⟨l,e1,e2⟩:=h.As;refine⟨l++[f],by rw [h6,e1,B_],fun g hg=>?_⟩;rcases D_.1 hg with hg|hg
  ·exact e2 g hg
  ·rw [B?.1 hg];exact h8
theorem qL{AF:Nat}{ws:List AX}{d:BT}(hw:Dc AF ws)(hd:IS ws d):Hy AF ws d (EV d ws 0 4).1 (EV d ws 0 4).2:=
 Tk (Hy AF ws d) (fun ws' d' h=>h.HO.len) (fun ws' d' k w' d2 h hk e=>(h.step hk e).1) 4 0 ws d C8 (.refl hw hd)
def BR.mu(z:BR):Nat:=z.told.length+(10-z.c.BG.length)
structure DE(t:Nat)(z:BR):Prop where
 c:AZ t z.c
 told:Told z.told
 tl:z.told.length≤8
 nx:z.c.next+z.mu≤20*t
theorem DE.filled{t:Nat}{z:BR}(h:DE t z):Hy z.c.AF z.c.ws (z.c.DY z.told) z.filled.1 z.filled.2:=by
 unfold BR.filled;split
 ·exact qL h.c.ws (Of h.c h.told h.tl)
 ·exact .refl h.c.ws (Of h.c h.told h.tl)
theorem DE.stop{t:Nat}{z:BR}(h:DE t z):AZ t {z.c with ws:=z.filled.1}:=by
 have hf:=h.filled
 exact h.c.VL hf.HO fun f hfr=>⟨hfr.1,hfr.2.1,fun hk=>by
  have:=hfr.2.2 hk
  rw [(hf.Ae f.stream.toNat).b];exact this⟩
theorem mG(c:AG):(c.DY []).As=[]:=rfl
theorem oC(c:AG){told:List AV}(h:told≠ []):(c.DY told).As=[EN (told.take (Eg told (c.AI-16) told.length))]:=by
 unfold AG.DY;rw [if_neg h]
theorem iX(c:AG)(told:List AV):Dy (c.DY told).As=false:=by
 unfold AG.DY;dsimp only;split
 ·rfl
 ·rfl
theorem DE.Ut{t:Nat}{z:BR}(h:DE t z)(hw:Dy z.filled.2.As=true):z.c.BG.length<10:=by
 by_cases hc:z.c.BG.length<10
 ·exact hc
 ·exfalso
  have:z.filled=(z.c.ws,z.c.DY z.told):=by unfold BR.filled;rw [if_neg hc]
  rw [this,iX]at hw;cases hw
theorem iZ(l:List AT):l.length≤(Av l).length:=Oh l
theorem DE.step{t:Nat}{z:BR}(h:DE t z)(hne:z.filled.2.As≠ []):DE t z.step∧z.step.mu<z.mu:=by
 have hf:=h.filled;have hs:=h.stop;have hc:=h.c
 have hmu:z.step.mu+1≤z.mu:=by
  have htl:z.step.told.length+(if z.told=[]then 0 else 1)≤z.told.length:=by
   show(z.told.drop _).length+_≤_;rw [E_];split
   ·omega
   ·rename_i h1;have h2:=D?.2 h1;have h3:=QE z.told (z.c.AI-16) z.told.length h2;omega
  unfold BR.mu;by_cases hw:Dy z.filled.2.As=true
  ·have h10:=h.Ut hw
   have hfl:z.step.c.BG.length=z.c.BG.length+1:=by
    show(if Dy z.filled.2.As=true then _ else _:List Da).length=_;rw [if_pos hw,A_];rfl
   rw [hfl];omega
  ·have hfl:z.step.c.BG.length=z.c.BG.length:=by
    show(if Dy z.filled.2.As=true then _ else _:List Da).length=_;rw [if_neg hw]
   have htn:z.told≠ []:=by
    intro h0;obtain⟨l,e1,e2⟩:=hf.As;rw [h0,mG,O!]at e1
    cases hl:l with
    |nil=>rw [hl]at e1;exact hne e1
    |cons f l'=>
     apply hw;rw [e1,hl]
     have:=e2 f (by rw [hl];simp)
     simp only [Dy,List.any_cons,Bool.or_eq_true,decide_eq_true_eq]
     left;rcases this with h|h<;>rw [h]<;>decide
   rw [if_neg htn]at htl;rw [hfl];omega
 have hnx:=h.nx
 have hlen:z.filled.2.As.length≤284:=by
  have h1:=iZ z.filled.2.As;have h2:=hf.Hq.len;have h3:=hf.Hq.room;have h4:z.filled.2.b.length=(Av z.filled.2.As).length:=rfl;omega
 refine⟨⟨?_,h.told.drop _,?_,?_⟩,hmu⟩
 ·by_cases hw:Dy z.filled.2.As=true
  ·have h10:=h.Ut hw
   have e:z.step.c={z.c with ws:=z.filled.1,next:=z.c.next+1,BG:=z.c.BG++[⟨z.c.next,z.c.now,z.filled.2.As⟩]}:=by
    refine Z8 ?_;rw [if_pos hw]
   rw [e];refine {hs with fl:=?_,Am:=?_,cnt:=?_,nx:=?_,lg:=?_}
   ·show(z.c.BG++[_]).length≤10;rw [A_];simp only [I?];omega
   ·intro p hp;show TE (z.c.next+1) z.c.now z.filled.1 p
    have old:∀p,p∈z.c.BG∨p∈z.c.lost→TE (z.c.next+1) z.c.now z.filled.1 p:=fun p hp=>
     let g:=hs.Am p hp
     ⟨H? g.num,g.at_,g.len,g.fr⟩
    rcases hp with hp|hp
    ·rcases D_.1 hp with hp|hp
     ·exact old p (.inl hp)
     ·rw [B?.1 hp];exact⟨Nat.lt_succ_self _,B! _,by show z.filled.2.As.length≤300;omega,fun f hfr=>(hf.Hq.fr f hfr).fr⟩
    ·exact old p (.inr hp)
   ·show(z.c.BG++[_]).length+z.c.lost.length≤z.c.next+1
    have:=hc.cnt
    rw [A_];simp only [I?];omega
   ·show z.c.next+1≤20*t;omega
   ·show z.c.BV≤z.c.next+1
    have:=hc.lg;omega
  ·have e:z.step.c={z.c with ws:=z.filled.1,next:=z.c.next+1}:=by
    refine Z8 ?_;rw [if_neg hw]
   rw [e];refine {hs with Am:=?_,cnt:=?_,nx:=?_,lg:=?_}
   ·intro p hp;have g:=hs.Am p hp;exact⟨H? g.num,g.at_,g.len,g.fr⟩
   ·show z.c.BG.length+z.c.lost.length≤z.c.next+1
    have:=hc.cnt;omega
   ·show z.c.next+1≤20*t;omega
   ·show z.c.BV≤z.c.next+1
    have:=hc.lg;omega
 ·show(z.told.drop _).length≤8
  have:=h.tl
  rw [E_];omega
 ·show z.c.next+1+z.step.mu≤20*t;omega
theorem Vy{t:Nat}:∀(n:Nat) (z:BR),DE t z→z.mu<n→DT n z=DT (n+1) z
 |0,z,_,h=>absurd h (G? _)
 |n+1,z,h,hn=>by
  rw [DT]
  conv=>rhs;rw [DT]
  split
  ·rfl
  ·rename_i hne;obtain⟨h1,h2⟩:=h.step hne;exact Vy n _ h1 Ca
theorem gA{t:Nat}{z:BR}(h:DE t z)(hne:z.filled.2.As≠ []):DT 40 z=DT 40 z.step:=by
 obtain⟨h1,h2⟩:=h.step hne
 have hmu:z.mu≤18:=by have:=h.tl;unfold BR.mu;omega
 rw [DT,if_neg hne];exact Vy 39 _ h1 Ca
theorem yX{z:BR}(e:z.filled.2.As=[]):DT 40 z={z with c:={z.c with ws:=z.filled.1}}:=by
 rw [DT,if_pos e]
theorem WV{t:Nat}:∀(n:Nat) (z:BR),DE t z→AZ t (DT n z).c
 |0,z,h=>h.c
 |n+1,z,h=>by
  rw [DT];split
  ·exact h.stop
  ·rename_i hne;exact WV n _ (h.step hne).1
theorem DE.begin{t:Nat}{c:AG}(h:AZ t c):DE (t+1) ⟨{c with answer:=false},if c.answer then c.AR.l.reverse else [],[]⟩:=by
 have hn:=h.nx
 have hgl:c.AR.l.length≤8:=by have:=h.AR.len;rw [h.gm]at this;exact this
 have hm:=h.mono ER;refine⟨{hm with},?_,?_,?_⟩
 ·show Told (if c.answer=true then c.AR.l.reverse else []);split
  ·exact Told.of h.AR
  ·exact Told.nil
 ·show(if c.answer=true then c.AR.l.reverse else []).length≤8;split
  ·rw [K!];exact hgl
  ·exact Mb
 ·show c.next+((if c.answer=true then c.AR.l.reverse else []).length+(10-c.BG.length))≤20*(t+1)
  have:(if c.answer=true then c.AR.l.reverse else []).length≤8:=by
   split
   ·rw [K!];exact hgl
   ·exact Mb
  omega
theorem AZ.Gm{t:Nat}{c:AG}(h:AZ t c):AZ (t+1) c.Gm.2:=by
 have hm:=h.mono ER;have hn:=h.nx;unfold AG.Gm;split
 ·exact hm
 ·refine {hm with Am:=?_,cnt:=?_,nx:=?_,lg:=?_}
  ·intro p hp;have g:=hm.Am p hp;exact⟨H? g.num,g.at_,g.len,g.fr⟩
  ·show c.BG.length+c.lost.length≤c.next+1
   have:=h.cnt;omega
  ·show c.next+1≤20*(t+1);omega
  ·show c.BV≤c.next+1
   have:=h.lg;omega
theorem AZ.A6{t:Nat}{c:AG}(h:AZ t c):AZ (t+1) c.A6.2:=by
 unfold AG.A6;split
 ·exact h.Gm
 ·exact WV 40 _ (DE.begin h)
theorem Wd{k AF:Nat}(hk:k<4):∀(n:Nat) (ws:List AX) (w:AX) (d:BT),Dc AF ws→ws.getD k Aq=w→IS ws d→d.room-d.b.length<n→E8 k n w d=E8 k (n+1) w d
 |0,ws,w,d,_,_,_,h=>absurd h (G? _)
 |n+1,ws,w,d,hw,he,hd,hn=>by
  rw [E8]
  conv=>rhs;rw [E8]
  cases e:w.fill d k with
  |none=>rfl
  |some z=>
   obtain⟨w2,d2⟩:=z;dsimp only;rw [←he]at e;obtain⟨h1,h2,h3,h4,_⟩:=TH hw hd hk e;have h5:=h2.len;refine Wd hk n (ws.set k w2) w2 d2 h1 ?_ h2 ZZ;rw [DN,if_pos ⟨rfl,Rb⟩]
theorem rW{k AF:Nat}(hk:k<4){ws:List AX}{d:BT}{w2:AX}{d2:BT}(hw:Dc AF ws)(hd:IS ws d)(e:(ws.getD k Aq).fill d k=some (w2,d2)):
  E8 k (d.room+1) (ws.getD k Aq) d=E8 k (d2.room+1) w2 d2:=by
 obtain⟨h1,h2,h3,h4,_⟩:=TH hw hd hk e;rw [E8,e];dsimp only;have h5:=h2.len;rw [h3];exact Wd hk d.room (ws.set k w2) w2 d2 h1 (by rw [DN,if_pos ⟨rfl,Rb⟩]) h2 ZZ
theorem jL{k:Nat}{w:AX}{d:BT}{n:Nat}(e:w.fill d k=none):E8 k n w d=(w,d):=by
 cases n with
 |zero=>rfl
 |succ n=>rw [E8,e]
def NW(w:AX):Prop:=w.given=true∨(w.finished=true∧w.high=w.b.length)
structure DX(w w':AX):Prop where
 b:∃xs,w'.b=w.b++xs
 high:w.high≤w'.high
 fin:w.finished=true→w'.finished=true∧w'.b=w.b
 CU:w.given=true→w'.given=true∧w'.code=w.code
 fz:NW w→w'.high=w.high
theorem DX.refl(w:AX):DX w w:=⟨⟨[],(C_ _).symm⟩,B! _,fun h=>⟨h,rfl⟩,fun h=>⟨h,rfl⟩,fun _=>rfl⟩
theorem DX.frozen{w w':AX}(h:DX w w')(f:NW w):NW w':=by
 have h2:=h.fz f;rcases f with f|⟨f1,f2⟩
 ·exact .inl (h.CU f).1
 ·exact .inr ⟨(h.fin f1).1,by rw [h2,(h.fin f1).2,f2]⟩
theorem DX.trans{a b c:AX}(h:DX a b)(g:DX b c):DX a c:=by
 refine⟨?_,F_ h.high g.high,fun e=>?_,fun e=>?_,fun e=>(g.fz (h.frozen e)).trans (h.fz e)⟩
 ·obtain⟨xs,e1⟩:=h.b;obtain⟨ys,e2⟩:=g.b;exact⟨xs++ys,by rw [e2,e1,B_]⟩
 ·obtain⟨e1,e2⟩:=h.fin e;obtain⟨e3,e4⟩:=g.fin e1;exact⟨e3,e4.trans e2⟩
 ·obtain⟨e1,e2⟩:=h.CU e;obtain⟨e3,e4⟩:=g.CU e1;exact⟨e3,e4.trans e2⟩
theorem DX.same{w w':AX}(h:GS w w'):DX w w':=
 ⟨⟨[],by rw [h.b,C_]⟩,Nat.le_of_eq h.high.symm,fun e=>⟨h.finished.trans e,h.b⟩,fun e=>⟨h.given.trans e,h.code⟩,fun _=>h.high⟩
theorem DX.len{w w':AX}(h:DX w w'):w.b.length≤w'.b.length:=by
 obtain⟨xs,e⟩:=h.b;rw [e,A_];omega
theorem DX.get{w w':AX}(h:DX w w'){p:Nat}(hp:p<w.b.length):w'.b.getD p 0=w.b.getD p 0:=by
 obtain⟨xs,e⟩:=h.b;rw [e,A!,A!,D! hp]
theorem DX.cut{w w':AX}(h:DX w w'){lo hi:Nat}(hp:hi≤w.b.length):cut w'.b lo hi=cut w.b lo hi:=by
 obtain⟨xs,e⟩:=h.b;unfold Go.Proofs.YtgfdlpcdjklcoaaGreatDoor.cut;rw [e,List.take_append_of_le_length hp]
structure Is(R:Nat→Prop)(ws:List AX)(f:AT):Prop where
 kind:f.kind=3∨f.kind=4∨f.kind=5
 HJ:f.kind=3→∀r∈f.ranges,∀n,r.lo≤n→n≤r.hi→R n
 reset:f.kind=4→(ws.getD f.stream.toNat Aq).given=true∧f.code=(ws.getD f.stream.toNat Aq).code∧f.offset=(ws.getD f.stream.toNat Aq).high
 data:f.kind=5→f.offset+f.data.size≤(ws.getD f.stream.toNat Aq).high∧f.data.data.toList=cut (ws.getD f.stream.toNat Aq).b f.offset (f.offset+f.data.size)
 fin:f.kind=5→f.fin=true→(ws.getD f.stream.toNat Aq).finished=true∧(ws.getD f.stream.toNat Aq).high=(ws.getD f.stream.toNat Aq).b.length∧f.offset+f.data.size=(ws.getD f.stream.toNat Aq).b.length
theorem Is.grow{R R':Nat→Prop}{ws ws':List AX}{f:AT}(h:Is R ws f)(hR:∀n,R n→R' n)(hg:∀k,DX (ws.getD k Aq) (ws'.getD k Aq))
  (hh:f.kind=5→(ws.getD f.stream.toNat Aq).high≤(ws.getD f.stream.toNat Aq).b.length):Is R' ws' f:=by
 have g:=hg f.stream.toNat;refine⟨h.kind,fun e r hr n a b=>hR n (h.HJ e r hr n a b),fun e=>?_,fun e=>?_,fun e e2=>?_⟩
 ·obtain⟨a,b,c⟩:=h.reset e;exact⟨(g.CU a).1,b.trans (g.CU a).2.symm,c.trans (g.fz (.inl a)).symm⟩
 ·obtain⟨a,b⟩:=h.data e
  have:=g.high
  exact⟨Ca,b.trans (g.cut (by have:=hh e;omega)).symm⟩
 ·obtain⟨a,b,c⟩:=h.fin e e2;have e3:=g.fz (.inr ⟨a,b⟩);obtain⟨e4,e5⟩:=g.fin a;exact⟨e4,by rw [e3,e5,b],by rw [e5,c]⟩
structure LT(c:AG)(L:List (List AT))(R:Nat→Prop):Prop where
 len:L.length=c.next
 Am:∀p,p∈c.BG∨p∈c.lost→L[p.number]?=some p.As
 ne:∀fs∈L,fs≠ []∧(Av fs).length+16≤c.AI
 fr:∀fs∈L,∀f∈fs,Gn c.ws f∧Is R c.ws f
structure G4(w:AX)(r:Bb):Prop where
 high:r.high≤w.high
 en:r.ended=true→NW w∧r.end_=w.high
 CU:r.given=true→w.given=true∧r.code=w.code
 fin:r.ended=true→r.given=false→w.finished=true∧w.high=w.b.length
 b:r.given=false→∀p,BB p r.AE.l→r.read≤p→r.b.getD (p-r.read) 0=w.b.getD p 0
 N4:r.state=1→w.finished=true∧r.read=w.b.length
theorem G4.grow{w w':AX}{r:Bb}(h:G4 w r)(g:DX w w')(hh:w.high≤w.b.length)(hr:∀p,BB p r.AE.l→p<r.high):G4 w' r:=by
 refine⟨F_ h.high g.high,fun e=>?_,fun e=>?_,fun e e2=>?_,fun e p hp h2=>?_,fun e=>?_⟩
 ·obtain⟨a,b⟩:=h.en e;exact⟨g.frozen a,b.trans (g.fz a).symm⟩
 ·obtain⟨a,b⟩:=h.CU e;exact⟨(g.CU a).1,b.trans (g.CU a).2.symm⟩
 ·obtain⟨a,b⟩:=h.fin e e2;exact⟨(g.fin a).1,by rw [g.fz (.inr ⟨a,b⟩),(g.fin a).2,b]⟩
 ·rw [h.b e p hp h2];exact(g.get (by have:=hr p hp;have:=h.high;omega)).symm
 ·obtain⟨a,b⟩:=h.N4 e;exact⟨(g.fin a).1,by rw [(g.fin a).2,b]⟩
def Lo(r:Bb)(f:AT):Prop:=(f.kind=5→r.given=true∨((∀p,f.offset≤p→p<f.offset+f.data.size→BB p r.AE.l)∧(f.fin=true→r.ended=true)))∧(f.kind=4→r.given=true)
structure GC(r r':Bb):Prop where
 given:r.given=true→r'.given=true
 AE:∀p,BB p r.AE.l→BB p r'.AE.l
 ended:r.ended=true→r'.ended=true
theorem GC.refl(r:Bb):GC r r:=⟨fun x=>x,fun _ x=>x,fun x=>x⟩
theorem GC.trans{a b c:Bb}(h:GC a b)(g:GC b c):GC a c:=⟨fun x=>g.given (h.given x),fun p x=>g.AE p (h.AE p x),fun x=>g.ended (h.ended x)⟩
theorem Lo.more{r r':Bb}{f:AT}(h:Lo r f)(g:GC r r'):Lo r' f:=
 ⟨fun e=>(h.1 e).elim (fun x=>.inl (g.given x)) (fun x=>.inr ⟨fun p a b=>g.AE p (x.1 p a b),fun y=>g.ended (x.2 y)⟩),fun e=>g.given (h.2 e)⟩
structure UN(c d:AG)(L:List (List AT))(R:Nat→Prop):Prop where
 num:∀n,R n→n<L.length
 proc:∀n fs,R n→L[n]?=some fs→∀f∈fs,f.kind=5→(d.r f.stream.toNat).given=true∨f.offset+f.data.size≤(d.r f.stream.toNat).read+d.AF
 rd:∀k,k<4→G4 (c.w k) (d.r k)
 By:∀k p,k<4→BB p (c.w k).AE.l→(d.r k).given=true∨p<(d.r k).read+d.AF
 full:∀n fs,R n→L[n]?=some fs→∀f∈fs,Lo (d.r f.stream.toNat) f
structure Fp(d:AG)(n:Nat)(R:Nat→Prop):Prop where
 AR:∀m,BB m d.AR.l→R m
 fl:d.AR.floor≤n
structure Bn(c d:AG)(L L':List (List AT))(R R':Nat→Prop):Prop where
 s:LT c L R'
 s':LT d L' R
 p:UN c d L R
 p':UN d c L' R'
 Gf:c.AF=d.AF
 ks:c.ks=d.ks
 first:d.first= !c.first
 o:c.closed=0
 o':d.closed=0
theorem Bn.symm{c d:AG}{L L':List (List AT)}{R R':Nat→Prop}(h:Bn c d L L' R R'):Bn d c L' L R' R:=
 ⟨h.s',h.s,h.p',h.p,h.Gf.symm,h.ks.symm,by rw [h.first];cases c.first<;>rfl,h.o',h.o⟩
theorem AZ.high{t:Nat}{c:AG}(h:AZ t c){k:Nat}(hk:k<4):(c.w k).high≤(c.w k).b.length:=(h.ws.ok k hk).high
theorem O5{n m:Nat}{l:List AV}(h:BB n l)(hl:∀r∈l,r.hi<m):n<m:=by
 obtain⟨r,hr,_,b⟩:=h
 have:=hl r hr;omega
theorem AZ.ZQ{t:Nat}{c:AG}(h:AZ t c){k:Nat}(hk:k<4)(p:Nat)(hp:BB p (c.r k).AE.l):p<(c.r k).high:=O5 hp (h.rs k hk).co.hi
structure Dx(c c':AG):Prop where
 rs:c'.rs=c.rs
 AR:c'.AR=c.AR
 next:c'.next=c.next
 AI:c'.AI=c.AI
 AF:c'.AF=c.AF
 ks:c'.ks=c.ks
 first:c'.first=c.first
 closed:c'.closed=c.closed
 Am:∀p,p∈c'.BG∨p∈c'.lost→p∈c.BG∨p∈c.lost
 len:c'.ws.length=4
 w:∀k,DX (c.w k) (c'.w k)∧(c'.w k).AE=(c.w k).AE
theorem Gn.grow{ws ws':List AX}{f:AT}(h:Gn ws f)(hg:∀k,DX (ws.getD k Aq) (ws'.getD k Aq)):Gn ws' f:=
 ⟨h.ok,h.nm,⟨h.fr.1,h.fr.2.1,fun hk=>by have:=h.fr.2.2 hk;have:=(hg f.stream.toNat).len;omega⟩,h.rg⟩
theorem Gn.s4{ws:List AX}{f:AT}(h:Gn ws f):f.stream.toNat<4:=by have:=h.fr.1;have:=h.fr.2.1;omega
theorem LT.grow{c c':AG}{L:List (List AT)}{R R':Nat→Prop}{t:Nat}(hc:AZ t c)(h:LT c L R)(hR:∀n,R n→R' n)(hn:c'.next=c.next)(hm:c'.AI=c.AI)
  (hf:∀p,p∈c'.BG∨p∈c'.lost→p∈c.BG∨p∈c.lost)(hg:∀k,DX (c.w k) (c'.w k)):LT c' L R':=
 ⟨h.len.trans hn.symm,fun p hp=>h.Am p (hf p hp),fun fs hfs=>by rw [hm];exact h.ne fs hfs,fun fs hfs f hfr=>
  ⟨(h.fr fs hfs f hfr).1.grow hg,(h.fr fs hfs f hfr).2.grow hR hg (fun _=>hc.high (h.fr fs hfs f hfr).1.s4)⟩⟩
theorem Bn.Gl{c d c':AG}{L L':List (List AT)}{R R':Nat→Prop}{t u:Nat}(h:Bn c d L L' R R')(hc:AZ t c)(hd:AZ u d)(g:Dx c c'):Bn c' d L L' R R':=by
 have hr:∀k,c'.r k=c.r k:=fun k=>by unfold AG.r;rw [g.rs]
 refine⟨h.s.grow hc (fun _ x=>x) g.next g.AI g.Am (fun k=>(g.w k).1),h.s',⟨h.p.num,h.p.proc,fun k hk=>?_,fun k p hk hp=>?_,h.p.full⟩,⟨h.p'.num,?_,?_,?_,?_⟩,g.AF.trans h.Gf,g.ks.trans h.ks,by rw [g.first];exact h.first,g.closed.trans h.o,h.o'⟩
 ·exact(h.p.rd k hk).grow (g.w k).1 (hc.high hk) (hd.ZQ hk)
 ·rw [(g.w k).2]at hp;exact h.p.By k p hk hp
 ·intro n fs a b f hf hk;rw [hr,g.AF];exact h.p'.proc n fs a b f hf hk
 ·intro k hk;rw [hr];exact h.p'.rd k hk
 ·intro k p hk hp;rw [hr,g.AF];exact h.p'.By k p hk hp
 ·intro n fs a b f hf;rw [hr];exact h.p'.full n fs a b f hf
theorem Fp.Gl{c c':AG}{n:Nat}{R:Nat→Prop}(h:Fp c n R)(g:c'.AR=c.AR):Fp c' n R:=⟨by rw [g];exact h.AR,by rw [g];exact h.fl⟩
theorem Dx.refl{t:Nat}{c:AG}(h:AZ t c):Dx c c:=Uh
theorem Dx.Bp{t:Nat}{c:AG}(h:AZ t c){k:Nat}{w:AX}(g:DX (c.w k) w)(e:w.AE=(c.w k).AE):Dx c (c.Bp k w):=by
 refine⟨rfl,rfl,rfl,rfl,rfl,rfl,rfl,rfl,fun _ x=>x,by show(c.ws.set k w).length=4;rw [E?];exact h.ws.len,fun j=>?_⟩;show DX (c.w j) ((c.ws.set k w).getD j Aq)∧((c.ws.set k w).getD j Aq).AE=(c.w j).AE;rw [DN];split
 ·rename_i e2;rw [←e2.1];exact⟨g,e⟩
 ·exact⟨.refl _,rfl⟩
theorem Dx.write{t:Nat}{c:AG}(h:AZ t c)(k:Int)(xs:List UInt8):Dx c (c.write k xs).2:=by
 unfold AG.write;split
 ·exact .refl h
 ·rename_i h0;obtain⟨a,b,e⟩:=SV (Decidable.not_not.1 h0);refine .Bp h ⟨Be,B! _,fun h=>?_,fun h=>?_,fun _=>rfl⟩ rfl
  ·rw [b]at h;cases h
  ·rw [e]at h;cases h
theorem Dx.finish{t:Nat}{c:AG}(h:AZ t c)(k:Int):Dx c (c.finish k).2:=by
 unfold AG.finish;split
 ·exact .refl h
 ·exact .Bp h ⟨⟨[],(C_ _).symm⟩,B! _,fun h=>Ba,fun h=>⟨h,rfl⟩,fun _=>rfl⟩ rfl
theorem Dx.giveUp{t:Nat}{c:AG}(h:AZ t c)(k:Int)(code:Nat):Dx c (c.giveUp k code).2:=by
 unfold AG.giveUp;split
 ·exact .refl h
 split
 ·exact .refl h
 ·rename_i h0;refine .Bp h ⟨⟨[],(C_ _).symm⟩,B! _,fun h=>⟨h,rfl⟩,fun h=>absurd (.inl h) h0,fun _=>rfl⟩ rfl
theorem dV{c:AG}{lost:Da→Bool}(p:Da)(hp:p∈(c.Fm lost).BG∨p∈(c.Fm lost).lost):p∈c.BG∨p∈c.lost:=by
 rcases hp with hp|hp
 ·exact MB
 ·rcases D_.1 hp with hp|hp
  ·exact .inr hp
  ·exact MB
theorem Dx.Fm{t:Nat}{c:AG}(h:AZ t c)(lost:Da→Bool):Dx c (c.Fm lost):=by
 obtain⟨a,b,e⟩:=MN (c.BG.filter lost) c.ws h.ws (fun p hp f hf=>(h.Am p QB).fr f hf);exact⟨rfl,rfl,rfl,rfl,rfl,rfl,rfl,rfl,dV,a.len,fun k=>⟨.same (b.same k),e k⟩⟩
theorem Dx.tick{t:Nat}{c:AG}(h:AZ t c):Dx c c.tick:=by
 have h1:AZ (t+1) {c with now:=c.now+1}:=
  {h.mono ER with nw:=by have:=h.nw;show c.now+1≤t+1;omega,Am:=fun p hp=>let g:=h.Am p hp;⟨g.num,L! g.at_,g.len,g.fr⟩}
 unfold AG.tick;split
 ·have g:=Dx.Fm h1 (fun _=>true);exact⟨g.rs,g.AR,g.next,g.AI,g.AF,g.ks,g.first,g.closed,g.Am,g.len,g.w⟩
 ·exact Uh
def KB(xs:List UInt8):Nat→Nat
 |0=>0
 |i+1=>KB xs i*256+(xs.getD i 0).toNat
theorem aD(xs:List UInt8):∀i,KB xs i<2^(8*i)
 |0=>by simp [KB]
 |i+1=>by
  have h1:=aD xs i;have h2:=(xs.getD i 0).toNat_lt;simp only [KB];rw [show 8*(i+1)=8*i+8 by omega,Nat.pow_add,show(2:Nat)^8=256 by decide];omega
theorem Yj(xs:List UInt8):∀i,i≤8→(be xs i).toNat=KB xs i
 |0,_=>rfl
 |i+1,h=>by
  have ih:=Yj xs i Ca;have h1:=aD xs (i+1);have h5:2^(8*(i+1))≤2^64:=Nat.pow_le_pow_right Ca Ca;have h2:=(xs.getD i 0).toNat_lt;simp only [KB]at h1⊢;simp only [be,UInt64.toNat_or,UInt64.toNat_shiftLeft,ih,UInt8.toNat_toUInt64];rw [show(8:UInt64).toNat%64=8 from rfl,Nat.shiftLeft_eq,show(2:Nat)^8=256 by decide,N! Ca]
  have:=Nat.two_pow_add_eq_or_of_lt (i:=8) (b:=(xs.getD i 0).toNat) Ca (KB xs i)
  rw [show(2:Nat)^8=256 by decide,Nat.mul_comm]at this;exact this.symm
theorem KP(n:UInt64)(k:UInt64)(j:Nat)(hk:k.toNat=j)(hj:j<64):((n>>> k).toUInt8).toNat=n.toNat/2^j%256:=by
 rw [J?,UInt64.toNat_shiftRight,hk,N! hj,Nat.shiftRight_eq_div_pow]
theorem kL(n:UInt64)(t:List UInt8):be (Dv n++t) 8=n:=by
 apply UInt64.toNat_inj.1;rw [Yj _ 8 Ca];have hn:=n.toNat_lt;have b0:=KP n 56 56 rfl Ca;have b1:=KP n 48 48 rfl Ca;have b2:=KP n 40 40 rfl Ca;have b3:=KP n 32 32 rfl Ca;have b4:=KP n 24 24 rfl Ca;have b5:=KP n 16 16 rfl Ca;have b6:=KP n 8 8 rfl Ca;have b7:n.toUInt8.toNat=n.toNat%256:=J? n;simp only [KB,Dv,List.cons_append,List.getD_cons_zero,List.getD_cons_succ,b0,b1,b2,b3,b4,b5,b6,b7];omega
theorem kH(ks:List UInt8)(side:UInt8)(n:UInt64)(xs:List UInt8):C7 ks side n (C7 ks side n xs)=xs:=by
 have hl:∀m,(EF ks side n m).length=m:=fun m=>by simp [EF]
 have h1:(C7 ks side n xs).length=xs.length:=by rw [C7,Ju _ _ (by rw [hl];exact B! _),hl]
 rw [C7,h1];apply I_
 ·rw [Ju _ _ (by rw [hl,h1];exact B! _),hl]
 ·intro i h2 h3;simp only [CX,C7,List.getElem_zipWith];rw [UInt8.xor_assoc,UInt8.xor_self,UInt8.xor_zero]
theorem Sc(ks:List UInt8)(side:UInt8)(n:UInt64)(xs:List UInt8)(hn:n.toNat≤4611686018427387903)(hl:16+xs.length≤300):Bx ks side (Bv ks side n xs)=some (n,xs):=by
 have hs:∀m,(EF ks side n m).length=m:=fun m=>by simp [EF]
 have hm:(C7 ks side n xs).length=xs.length:=by rw [C7,Ju _ _ (by rw [hs];exact B! _),hs]
 have ht:(GY ks side n (C7 ks side n xs)).length=8:=rfl;have hbl:(Dv n).length=8:=rfl
 have hlen:(Bv ks side n xs).length=16+xs.length:=by
  rw [Bv,A_,A_,hm,ht,hbl];omega
 have hbe:be (Bv ks side n xs) 8=n:=by rw [Bv,B_];exact kL n _
 have hdrop:(Bv ks side n xs).drop (xs.length+8)=GY ks side n (C7 ks side n xs):=by
  rw [Bv,P! Y7]
 have hbody:FH (Bv ks side n xs)=C7 ks side n xs:=by
  rw [FH,hlen,show 16+xs.length-8=xs.length+8 by omega,Bv,O_ Y7,P! hbl]
 unfold Bx;rw [hlen,if_neg Ca,hbe,hbody,show 16+xs.length-8=xs.length+8 by omega,hdrop,if_neg Ck,kH]
section
variable{c d:AG}{L L':List (List AT)}{R R':Nat→Prop}{t u:Nat}
theorem Bn.BQ(h:Bn c d L L' R R')(hc:AZ t c){k:Nat}{r:Bb}(hk:k<4)(hr:G4 (d.w k) r)(h1:(c.r k).read≤r.read)(h2:GC (c.r k) r):Bn (c.BQ k r) d L L' R R':=by
 have e:∀j,((c.BQ k r).r j)=if k=j∧k<4 then r else c.r j:=fun j=>by
  show(c.rs.set k r).getD j E6=_;rw [DN,hc.rl];rfl
 refine⟨⟨h.s.len,h.s.Am,h.s.ne,h.s.fr⟩,h.s',⟨h.p.num,h.p.proc,h.p.rd,h.p.By,h.p.full⟩,⟨h.p'.num,?_,?_,?_,?_⟩,h.Gf,h.ks,h.first,h.o,h.o'⟩
 ·intro n fs a b f hf h5
  have:=h.p'.proc n fs a b f hf h5
  rw [e];split
  ·rename_i e2;rw [←e2.1]at this;rcases this with g|g
   ·exact .inl (h2.given g)
   ·exact .inr (by show f.offset+f.data.size≤r.read+c.AF;omega)
  ·exact this
 ·intro j hj;rw [e];split
  ·rename_i e2;rw [←e2.1];exact hr
  ·exact h.p'.rd j hj
 ·intro j p hj hp
  have:=h.p'.By j p hj hp
  rw [e];split
  ·rename_i e2;rw [←e2.1]at this;rcases this with g|g
   ·exact .inl (h2.given g)
   ·exact .inr (by show p<r.read+c.AF;omega)
  ·exact this
 ·intro n fs a b f hf
  have:=h.p'.full n fs a b f hf
  rw [e];split
  ·rename_i e2;rw [←e2.1]at this;exact this.more h2
  ·exact this
theorem iL{l:List AV}(h:l≠ []):rg l 0∈l:=by
 cases l with
 |nil=>exact absurd rfl h
 |cons a l=>exact List.mem_cons_self
theorem eG{l:List AV}{n:Nat}(h:BI l n=true):∃r∈l,r.lo≤n∧n≤r.hi:=by
 unfold BI at h;obtain⟨r,hr,e⟩:=List.any_eq_true.1 h;simp at e;exact⟨r,hr,e.1,e.2⟩
structure IG(c c':AG):Prop where
 same:∀k,GS (c.w k) (c'.w k)
 AE:∀k p,BB p (c.w k).AE.l→BB p (c'.w k).AE.l
theorem IG.refl(c:AG):IG c c:=⟨fun _=>.refl _,fun _ _ x=>x⟩
theorem IG.trans{a b c:AG}(h:IG a b)(g:IG b c):IG a c:=⟨fun k=>(h.same k).trans (g.same k),fun k p x=>g.AE k p (h.AE k p x)⟩
theorem Bn.Rn(h:Bn c d L L' R R')(hc:AZ t c)(hd:AZ u d){l:List AV}(hl:GH l)(hR:∀r∈l,∀n,r.lo≤n→n≤r.hi→R n):
  (c.By l).1=0∧Bn (c.By l).2 d L L' R R'∧(c.By l).2.AR=c.AR∧(c.By l).2.rs=c.rs∧IG c (c.By l).2:=by
 have h0:=hl.2 0 (D?.2 hl.1)
 have hn:(rg l 0).hi<c.next:=by
  rw [←h.s.len];exact h.p.num _ (hR _ (iL hl.1) _ h0.1 C8)
 unfold AG.By;rw [if_neg Ca];obtain⟨a,b,e⟩:=hc.Eb l hn
 have hfl:∀p,p∈(c.Eb l).BG∨p∈(c.Eb l).lost→p∈c.BG∨p∈c.lost:=by
  intro p hp;rcases hp with hp|hp
  ·exact MB
  ·exact .inr (N?.1 hp).1
 have h1:Bn (c.Eb l) d L L' R R':=by
  refine⟨h.s.grow hc (fun _ x=>x) rfl rfl hfl (fun k=>.same (b.same k)),h.s',⟨h.p.num,h.p.proc,fun k hk=>?_,fun k p hk hp=>?_,h.p.full⟩,⟨h.p'.num,h.p'.proc,h.p'.rd,h.p'.By,h.p'.full⟩,h.Gf,h.ks,h.first,h.o,h.o'⟩
  ·exact(h.p.rd k hk).grow (.same (b.same k)) (hc.high hk) (hd.ZQ hk)
  ·rcases(e k p).1 hp with g|⟨q,hq,h2,f,hf,h3,h4,h5,h6,h7⟩
   ·exact h.p.By k p hk g
   ·obtain⟨r,hr,h8,h9⟩:=eG h2;have h10:=h.p.proc q.number q.As (hR r hr _ h8 h9) (h.s.Am q hq.symm) f hf h3;rw [h5]at h10;rcases h10 with g|g
    ·exact .inl g
    ·exact .inr Ca
 have g:=Dx.Fm a (fun p=>decide (p.number+3≤(c.Eb l).BV));obtain⟨a2,b2,e2⟩:=MN ((c.Eb l).BG.filter (fun p=>decide (p.number+3≤(c.Eb l).BV))) (c.Eb l).ws a.ws (fun p hp f hf=>(a.Am p QB).fr f hf);refine⟨rfl,h1.Gl a hd g,rfl,rfl,⟨fun k=>(b.same k).trans (b2.same k),fun k p hp=>?_⟩⟩;show BB p (((c.Eb l).Fm _).w k).AE.l;rw [(g.w k).2];exact(e k p).2 (.inl hp)
theorem lJ{w:AX}{r:Bb}(h:G4 w r)(hw:w.high≤w.b.length){f:AT}(h1:f.offset+f.data.size≤w.high)(h2:f.fin=true→w.finished=true∧w.high=w.b.length∧f.offset+f.data.size=w.b.length):¬LO r.ended r.end_ r.high f:=by
 have hh:=h.high;rintro(⟨e,e2⟩|⟨e,e2⟩)
 ·obtain⟨_,b⟩:=h.en e;rcases e2 with e2|⟨e2,e3⟩
  ·omega
  ·have:=h2 e2;omega
 ·have:=h2 e;omega
theorem lY{b:List UInt8}{lo hi p:Nat}(h1:lo≤p)(h2:p<hi):(cut b lo hi).getD (p-lo) 0=b.getD p 0:=by
 unfold cut;rw [A!,A!,F!,List.getElem?_take_of_lt Ca];congr 2;omega
theorem G4.data{w:AX}{r:Bb}{AF:Nat}(h:G4 w r)(ho:FG AF t r)(hwi:AF≤1024)(hw:w.high≤w.b.length){f:AT}(hg:r.given=false)(hb:f.offset+f.data.size≤r.read+AF)
  (h1:f.offset+f.data.size≤w.high)(h2:f.data.data.toList=cut w.b f.offset (f.offset+f.data.size))(h3:f.fin=true→w.finished=true∧w.high=w.b.length∧f.offset+f.data.size=w.b.length):G4 w (r.Hh f):=by
 have hh:=h.high;obtain⟨a1,a2,a3,a4,a5,a6⟩:=r.UG ho hwi f hg hb;have hl:=ho.len hg;refine⟨?_,fun e=>?_,fun e=>?_,fun e _=>?_,fun _ p hp hrp=>?_,h.N4⟩
 ·show max r.high (f.offset+f.data.size)≤w.high;omega
 ·show NW w∧(if f.fin=true then f.offset+f.data.size else r.end_)=w.high;by_cases hf:f.fin=true
  ·rw [if_pos hf];obtain⟨b1,b2,b3⟩:=h3 hf;exact⟨.inr ⟨b1,b2⟩,Ca⟩
  ·rw [if_neg hf];have e':(r.ended||f.fin)=true:=e;rw [show f.fin=false by simpa using hf,Bool.or_false]at e';exact h.en e'
 ·have:r.given=true:=e
  rw [hg]at this;cases this
 ·have e':(r.ended||f.fin)=true:=e;rcases Bool.or_eq_true_iff.1 e' with e'|e'
  ·exact h.fin e' hg
  ·exact⟨(h3 e').1,(h3 e').2.1⟩
 ·have hp':BB p (r.filled f).2.l:=hp;have hrp':r.read≤p:=hrp;have hlt:=O5 hp' a1.hi;show(r.filled f).1.getD (p-r.read) 0=_;rw [a6 p hrp' hlt];split
  ·rename_i hc;rw [h2];exact lY Ca hc.2.1
  ·rename_i hc
   have hin:BB p r.AE.l:=by
    rcases(a5 p).1 hp' with g|g
    ·exact g
    ·exact Decidable.not_not.1 fun g2=>hc ⟨g.1,g.2,g2⟩
   have hph:=O5 hin ho.co.hi;rw [←h.b hg p hin hrp',A!,A!,D! Ca]
theorem wI{t:Nat}{c:AG}(h:AZ t c)(k:Nat):c.BQ k (c.r k)=c:=by
 unfold AG.BQ AG.r
 have:c.rs.set k (c.rs.getD k E6)=c.rs:=by
  by_cases hk:k<c.rs.length
  ·rw [A!,C! hk,M?,List.set_getElem_self]
  ·rw [List.set_eq_of_length_le Ca]
 rw [this]
theorem Qr{t:Nat}{c:AG}(h:AZ t c){k:Nat}(hk:k<4){r:Bb}:(c.BQ k r).r k=r:=by
 show(c.rs.set k r).getD k E6=_;rw [DN,h.rl,if_pos ⟨rfl,hk⟩]
theorem YW{t:Nat}{c:AG}(h:AZ t c){k:Nat}(hk:k<4){r:Bb}(hr:GC (c.r k) r)(j:Nat):GC (c.r j) ((c.BQ k r).r j):=by
 show GC _ ((c.rs.set k r).getD j E6);rw [DN];split
 ·rename_i e;rw [←e.1];exact hr
 ·exact .refl _
theorem Bn.take(h:Bn c d L L' R R')(hc:AZ t c)(hd:AZ u d){f:AT}(hp:Gn d.ws f)(hs:Is R d.ws f)(hb:¬c.busy f):
  (c.take f).1=0∧Bn (c.take f).2 d L L' R R'∧(c.take f).2.AR=c.AR∧IG c (c.take f).2∧(∀k,GC (c.r k) ((c.take f).2.r k))∧Lo ((c.take f).2.r f.stream.toNat) f:=by
 have hk4:=hp.s4;have g:=h.p'.rd _ hk4;have ho:=hc.rs _ hk4;have hw:=hd.high hk4;rcases hs.kind with e|e|e
 ·have:c.take f=c.By f.ranges:=by unfold AG.take;rw [if_pos e]
  rw [this];obtain⟨a,b,e1,e2,e3⟩:=h.Rn hc hd (hp.ok.2.2.2.2.1.1 e) (hs.HJ e);exact⟨a,b,e1,e3,fun k=>by show GC (c.r k) ((c.By f.ranges).2.rs.getD k E6);rw [e2];exact .refl _,fun x=>by omega,fun x=>by omega⟩
 ·obtain⟨s1,s2,s3⟩:=hs.reset e
  have hno:¬((c.r f.stream.toNat).ended=true∧(c.r f.stream.toNat).end_≠f.offset∨f.offset<(c.r f.stream.toNat).high):=by
   have:=g.high
   have s3':f.offset=(d.w f.stream.toNat).high:=s3;rintro(⟨e1,e2⟩|e1)
   ·exact e2 ((g.en e1).2.trans s3.symm)
   ·omega
  unfold AG.take;rw [if_neg Ca,if_pos e,if_neg hno];refine⟨rfl,h.BQ hc hk4 ⟨g.high,fun _=>⟨.inl s1,s3⟩,fun _=>⟨s1,?_⟩,(fun _ e=>by cases e),(fun e=>by cases e),g.N4⟩ C8 ⟨fun _=>rfl,fun _ x=>x,fun _=>rfl⟩,rfl,⟨fun _=>.refl _,fun _ _ x=>x⟩,YW hc hk4 ⟨fun _=>rfl,fun _ x=>x,fun _=>rfl⟩,fun x=>by omega,fun _=>by rw [Qr hc hk4]⟩;show(if(c.r f.stream.toNat).given=true then(c.r f.stream.toNat).code else f.code)=_;split
  ·rename_i e1;exact(g.CU e1).2
  ·exact s2
 ·obtain⟨s1,s2⟩:=hs.data e;have s3:=hs.fin e;unfold AG.take;rw [if_neg Ca,if_neg Ca,if_pos e];unfold Bb.data;rw [if_neg (lJ g hw s1 s3)];by_cases hg:(c.r f.stream.toNat).given=true
  ·rw [if_pos hg,wI hc];exact⟨rfl,h,rfl,.refl _,fun _=>.refl _,fun _=>.inl hg,fun x=>by omega⟩
  ·rw [if_neg hg]
   have hg':(c.r f.stream.toNat).given=false:=by simpa using hg
   have hb':f.offset+f.data.size≤(c.r f.stream.toNat).read+c.AF:=by
    rcases H_ ((c.r f.stream.toNat).read+c.AF) (f.offset+f.data.size)with hlt|hge
    ·exact absurd ⟨e,hg',hlt⟩ hb
    ·exact hge
   obtain⟨a1,a2,a3,a4,a5,a6⟩:=(c.r f.stream.toNat).UG ho hc.w2 f hg' hb'
   have hm:GC (c.r f.stream.toNat) ((c.r f.stream.toNat).Hh f):=⟨fun x=>x,fun p x=>(a5 p).2 (.inl x),fun x=>by show(_||_)=true;rw [x];rfl⟩
   refine⟨rfl,h.BQ hc hk4 (g.data ho hc.w2 hw hg' hb' s1 s2 s3) C8 hm,rfl,⟨fun _=>.refl _,fun _ _ x=>x⟩,YW hc hk4 hm,fun _=>.inr ⟨fun p h1 h2=>?_,fun x=>?_⟩,fun x=>by omega⟩
   ·rw [Qr hc hk4];refine(a5 p).2 ?_;rcases H_ p (c.r f.stream.toNat).read with h3|h3
    ·exact .inl (ho.pre p h3)
    ·exact .inr ⟨Ca,h2⟩
   ·rw [Qr hc hk4];show(_||f.fin)=true;rw [x,Bool.or_true]
theorem fK{c c':AG}(hr:∀k,Ft (c.r k) (c'.r k))(hw:c'.AF=c.AF){g:AT}(h:¬c.busy g):¬c'.busy g:=by
 rintro⟨k1,k2,k3⟩;refine h ⟨k1,?_,?_⟩
 ·have:=(hr g.stream.toNat).given
  cases e:(c.r g.stream.toNat).given
  ·rfl
  ·rw [e]at this;rw [this rfl]at k2;cases k2
 ·rw [(hr g.stream.toNat).read,hw]at k3;exact k3
theorem Bn.Bc(hd:AZ u d):∀(fs:List AT) (c:AG),Bn c d L L' R R'→AZ t c→(∀f∈fs,Gn d.ws f∧Is R d.ws f∧¬c.busy f)→
  (c.Bc fs).1=0∧Bn (c.Bc fs).2 d L L' R R'∧(c.Bc fs).2.AR=c.AR∧IG c (c.Bc fs).2∧(∀k,Ft (c.r k) ((c.Bc fs).2.r k))∧(c.Bc fs).2.AF=c.AF∧(∀k,GC (c.r k) ((c.Bc fs).2.r k))∧(∀f∈fs,Lo ((c.Bc fs).2.r f.stream.toNat) f)
 |[],c,h,_,_=>⟨rfl,h,rfl,.refl _,fun _=>.refl _,rfl,fun _=>.refl _,(fun _ h=>nomatch h)⟩
 |f::fs,c,h,hc,hf=>by
  obtain⟨h1,h2,h3⟩:=hf f Cg;obtain⟨a,b,e1,e2,e3,e4⟩:=h.take hc hd h1 h2 h3;obtain⟨a',b',e'⟩:=hc.take f (.of h1.ok) h3;rw [AG.Bc,if_neg Ca]
  have hx:Bn ({(c.take f).2 with answer:=(c.take f).2.answer||(decide (f.kind≠3)&&decide (f.kind≠1))}:AG) d L L' R R':=
   ⟨⟨b.s.len,b.s.Am,b.s.ne,b.s.fr⟩,b.s',⟨b.p.num,b.p.proc,b.p.rd,b.p.By,b.p.full⟩,⟨b.p'.num,b.p'.proc,b.p'.rd,b.p'.By,b.p'.full⟩,b.Gf,b.ks,b.first,b.o,b.o'⟩
  obtain⟨i1,i2,i3,i4,i5,i6,i7,i8⟩:=Bn.Bc hd fs ({(c.take f).2 with answer:=(c.take f).2.answer||(decide (f.kind≠3)&&decide (f.kind≠1))}:AG) hx {a' with}
   (fun g hg=>⟨(hf g Cv).1,(hf g Cv).2.1,fK (c:=c) (fun k=>b' k) e' (hf g Cv).2.2⟩)
  exact⟨i1,i2,i3.trans e1,e2.trans ⟨i4.same,i4.AE⟩,fun k=>(b' k).trans (i5 k),i6.trans e',fun k=>(e3 k).trans (i7 k),fun g hg=>(K?.1 hg).elim (fun x=>by rw [x];exact e4.more (i7 _)) (i8 g)⟩
theorem Fp.add{n m:Nat}(g:Fp c n R')(hn:∀m,R' m→m<n)(ho:C5 c.AR 4611686018427387904)(hm:m<n):Fp ({c with AR:=c.AR.add m m}:AG) n (fun x=>R' x∨x=m):=by
 have hin:∀x,BB x c.AR.l∨(m≤x∧x≤m)→x<n:=fun x hx=>by
  rcases hx with hx|hx
  ·exact hn x (g.AR x hx)
  ·omega
 refine⟨fun x hx=>?_,?_⟩
 ·rcases BE.pP hx with h|h
  ·exact .inl (g.AR x h)
  ·exact .inr Ca
 ·show(c.AR.add m m).floor≤n;unfold BE.add;split
  ·exact g.fl
  ·rename_i h0;split
   ·show((Bw (max m c.AR.floor) m c.AR.l).headD ⟨0,0⟩).hi+1≤n
    have hmm:max m c.AR.floor=m:=by omega
    rw [hmm];have hI:=LI c.AR.l m m C8 ho.inc
    cases e:Bw m m c.AR.l with
    |nil=>exact absurd e (NL _ _ _)
    |cons r rs=>
     show r.hi+1≤n;have h1:=UO _ hI r (by rw [e];simp)
     have h2:BB r.hi (Bw m m c.AR.l):=⟨r,by rw [e];simp,h1,B! _⟩
     have:=hin r.hi (((LZ c.AR.l m m r.hi C8).1 h2).symm)
     omega
   ·exact g.fl
theorem Ki{n:Nat}(h:n≤4611686018427387903):(C? n).toNat=n:=by
 rw [UInt64.toNat_ofNat'];omega
theorem vG{fs:List AT}(h:∀f∈fs,Dg f=f):fs.map Dg=fs:=by
 induction fs with
 |nil=>rfl
 |cons f fs ih=>rw [L_,h f Cg,ih (fun g hg=>h g Cv)]
structure iA(c c':AG):Prop where
 w:IG c c'
 r:∀k,Ft (c.r k) (c'.r k)
 Gf:c'.AF=c.AF
theorem Bn.A9(h:Bn c d L L' R R')(hc:AZ t c)(hd:AZ u d)(g:Fp c L'.length R'){n:Nat}{fs:List AT}(hn:L'[n]?=some fs)(hu:u≤1000000000):
  ∃R2,((c.A9 (Bv d.ks (Ag d.first) (C? n) (Av fs))).1.1=0∨(c.A9 (Bv d.ks (Ag d.first) (C? n) (Av fs))).1.1=6)∧
   Bn (c.A9 (Bv d.ks (Ag d.first) (C? n) (Av fs))).2 d L L' R R2∧Fp (c.A9 (Bv d.ks (Ag d.first) (C? n) (Av fs))).2 L'.length R2∧
   iA c (c.A9 (Bv d.ks (Ag d.first) (C? n) (Av fs))).2:=by
 have hlt:n<L'.length:=by
  rcases H_ n L'.length with h|h
  ·exact h
  ·rw [List.getElem?_eq_none h]at hn;cases hn
 have hmem:fs∈L':=List.mem_of_getElem? hn;obtain⟨ne,nl⟩:=h.s'.ne fs hmem;have hfr:=h.s'.fr fs hmem;have hnx:=hd.nx
 have hnL:n≤4611686018427387903:=by have:=h.s'.len;omega
 have ho:Bx c.ks (Ag (!c.first)) (Bv d.ks (Ag d.first) (C? n) (Av fs))=some (C? n,Av fs):=by
  rw [h.ks,h.first];exact Sc _ _ _ _ (by rw [Ki hnL];exact hnL) (by have:=hd.m2;omega)
 have hdec:FI (Av fs)=.ok fs:=by
  have he:Gt fs=some (Av fs):=by unfold Gt;rw [if_pos ⟨ne,fun f hf=>(hfr f hf).1.ok⟩]
  have:=(mS he (fun f hf=>by have:=(hfr f hf).1.rg;omega)).1
  rw [vG (fun f hf=>(hfr f hf).1.nm)]at this;exact this
 unfold AG.A9;rw [if_neg (by have:=h.o;omega),ho];dsimp only;rw [Ki hnL];by_cases hh:c.AR.has n
 ·rw [if_pos hh];exact⟨R',.inl rfl,h,g,⟨.refl _,fun _=>.refl _,rfl⟩⟩
 rw [if_neg hh,hdec];dsimp only;by_cases hb:∃f∈fs,c.busy f
 ·rw [if_pos hb];exact⟨R',.inr rfl,h,g,⟨.refl _,fun _=>.refl _,rfl⟩⟩
 rw [if_neg hb];have hg':=hc.AR.add n n Ca (by rw [hc.gm];omega)
 have hc2:AZ t ({c with AR:=c.AR.add n n}:AG):={hc with AR:=hg'.1,gm:=hg'.2.trans hc.gm}
 have h2:Bn ({c with AR:=c.AR.add n n}:AG) d L L' R R':=
  ⟨⟨h.s.len,h.s.Am,h.s.ne,h.s.fr⟩,h.s',⟨h.p.num,h.p.proc,h.p.rd,h.p.By,h.p.full⟩,⟨h.p'.num,h.p'.proc,h.p'.rd,h.p'.By,h.p'.full⟩,h.Gf,h.ks,h.first,h.o,h.o'⟩
 obtain⟨a1,a2,a3,a4,a5,a6,a7,a8⟩:=Bn.Bc (t:=t) hd fs ({c with AR:=c.AR.add n n}:AG) h2 hc2 (fun f hf=>⟨(hfr f hf).1,(hfr f hf).2,fun e=>hb ⟨f,hf,e⟩⟩);refine⟨fun x=>R' x∨x=n,.inl a1,?_,?_,⟨⟨a4.same,a4.AE⟩,a5,a6⟩⟩
 ·refine⟨⟨a2.s.len,a2.s.Am,a2.s.ne,fun fs hfs f hf=>⟨(a2.s.fr fs hfs f hf).1,?_⟩⟩,a2.s',a2.p,⟨?_,?_,a2.p'.rd,a2.p'.By,?_⟩,a2.Gf,a2.ks,a2.first,a2.o,a2.o'⟩
  ·have s:=(a2.s.fr fs hfs f hf).2;exact⟨s.kind,fun e r hr m x y=>.inl (s.HJ e r hr m x y),s.reset,s.data,s.fin⟩
  ·intro m hm;rcases hm with hm|hm
   ·exact a2.p'.num m hm
   ·omega
  ·intro m gs hm e f hf h5;rcases hm with hm|hm
   ·exact a2.p'.proc m gs hm e f hf h5
   ·subst hm;rw [hn]at e;obtain rfl:fs=gs:=F?.inj e;have hnb:¬c.busy f:=fun e=>hb ⟨f,hf,e⟩;rw [(a5 f.stream.toNat).read,a6];cases e2:(c.r f.stream.toNat).given
    ·right;rcases H_ ((c.r f.stream.toNat).read+c.AF) (f.offset+f.data.size)with hlt|hge
     ·exact absurd ⟨h5,e2,hlt⟩ hnb
     ·exact hge
    ·exact .inl ((a5 f.stream.toNat).given e2)
  ·intro m gs hm e f hf;rcases hm with hm|hm
   ·exact a2.p'.full m gs hm e f hf
   ·subst hm;rw [hn]at e;obtain rfl:fs=gs:=F?.inj e;exact a8 f hf
 ·have:=g.add h.p'.num hc.AR hlt
  exact⟨by rw [a3];exact this.AR,by rw [a3];exact this.fl⟩
end
section
variable{c d:AG}{L L':List (List AT)}{R R':Nat→Prop}{t u:Nat}
structure zL(w:AX)(r r':Bb)(AL:Nat)(a:List UInt8×Nat×Nat×Nat):Prop where
 len:a.1.length≤AL
 data:a.1=(w.b.drop r.read).take a.1.length
 fits:r.read+a.1.length≤w.b.length
 read:r'.read=r.read+a.1.length
 state:r'.state=a.2.1
 shut:r.state≠0→a.1=[]∧a.2.1=r.state
 e:a.2.2.2=0
 open_:a.2.1=0→a.2.2.1=0
 fin:a.2.1=1→w.finished=true∧r'.read=w.b.length∧a.2.2.1=0
 CU:a.2.1=2→w.given=true∧a.2.2.1=w.code
 st:a.2.1≤2
theorem Ms{c:AG}{k:Nat}(h:c.closed=0)(hk:k<4):c.stream (k:Int)=0:=by
 unfold AG.stream;rw [if_neg Ca,if_neg Ca]
theorem Bn.read(h:Bn c d L L' R R')(hc:AZ t c)(hd:AZ u d){k:Nat}(hk:k<4)(AL:Nat):
  Bn (c.read k AL).2 d L L' R R'∧(c.read k AL).2.ws=c.ws∧(c.read k AL).2.AR=c.AR∧(∀j,j≠k→(c.read k AL).2.r j=c.r j)∧zL (d.w k) (c.r k) ((c.read k AL).2.r k) AL (c.read k AL).1:=by
 have g:=h.p'.rd k hk;have ho:=hc.rs k hk;have hw:=hd.high hk
 have hset:∀(r:Bb) j,((c.BQ k r).r j)=if k=j∧k<4 then r else c.r j:=fun r j=>by
  show(c.rs.set k r).getD j E6=_;rw [DN,hc.rl];rfl
 have hself:∀r:Bb,(c.BQ k r).r k=r:=fun r=>by rw [hset,if_pos ⟨rfl,hk⟩]
 have hoth:∀(r:Bb) j,j≠k→(c.BQ k r).r j=c.r j:=fun r j hj=>by rw [hset,if_neg (fun e=>hj e.1.symm)]
 have hrh:=ho.rh;unfold AG.read;rw [if_neg (by rw [Ms h.o hk];simp)];dsimp only;rw [H!];by_cases hgs:(c.r k).given=true∧(c.r k).state=0
 ·have e:c.EX k={c.r k with state:=2,b:=[]}:=by unfold AG.EX;rw [if_pos hgs]
  rw [e];dsimp only;rw [if_neg Cc,if_pos rfl]
  have g1:G4 (d.w k) {c.r k with state:=2,b:=[]}:=⟨g.high,g.en,g.CU,g.fin,(fun e=>by rw [show(c.r k).given=false from e]at hgs;exact absurd hgs.1 Cc),fun e=>by cases e⟩
  refine⟨h.BQ hc hk g1 C8 ⟨fun x=>x,fun _ x=>x,fun x=>x⟩,rfl,rfl,hoth _,?_⟩;rw [hself];obtain⟨b1,b2⟩:=g.CU hgs.1;refine⟨A? _,rfl,?_,rfl,rfl,(fun e=>absurd hgs.2 e),rfl,(fun e=>by cases e),(fun e=>by cases e),fun _=>⟨b1,b2⟩,B! _⟩
  have:=g.high
  show(c.r k).read+0≤_;omega
 ·have e:c.EX k=c.r k:=by unfold AG.EX;rw [if_neg hgs]
  rw [e];by_cases h0:(c.r k).state=0
  ·have hg:(c.r k).given=false:=by
    cases e2:(c.r k).given
    ·rfl
    ·exact absurd ⟨e2,h0⟩ hgs
   rw [if_pos h0];generalize hn:AG.HB (c.r k) (AL:Int)=n;have hgap:=H9 (c.r k).AE.l (c.r k).read (c.r k).high ho.co.inc hrh;have hfirst:=M8 (lo:=(c.r k).read) (hi:=(c.r k).high) ho.co.inc hrh ho.co.hi
   have hn1:n≤(AQ (c.r k).read (c.r k).high (c.r k).AE.l).1-(c.r k).read∧n≤AL:=by
    unfold AG.HB at hn;rw [H!]at hn;omega
   have hl:=ho.len hg;have hh:=g.high
   have hnb:n≤(c.r k).b.length:=by omega
   have hin:∀p,(c.r k).read≤p→p<(c.r k).read+n→BB p (c.r k).AE.l:=fun p h1 h2=>hgap.2.1 p h1 Ca
   have htl:((c.r k).b.take n).length=n:=by rw [G!];omega
   have hd2:(c.r k).b.take n=((d.w k).b.drop (c.r k).read).take n:=by
    refine I_ (by rw [htl,G!,E_];omega) fun i h1 h2=>?_
    have hi:i<n:=by rw [htl]at h1;exact h1
    have:=g.b hg ((c.r k).read+i) (hin _ Ca Ca) Ca
    rw [Nat.add_sub_cancel_left,A!,A!,C! Ca,C! Ca]at this;rw [M!,M!,List.getElem_drop];exact this
   have hrel:∀r3:Bb,r3={c.r k with b:=(c.r k).b.drop n,read:=(c.r k).read+n}∨(r3={({c.r k with b:=(c.r k).b.drop n,read:=(c.r k).read+n}:Bb)with state:=1}∧(c.r k).ended=true∧(c.r k).read+n=(c.r k).end_)→G4 (d.w k) r3:=by
    intro r3 hr3
    have hb:∀p,BB p (c.r k).AE.l→(c.r k).read+n≤p→((c.r k).b.drop n).getD (p-((c.r k).read+n)) 0=(d.w k).b.getD p 0:=fun p hp h1=>by
     rw [←g.b hg p hp Ca,A!,A!,F!];congr 2;omega
    rcases hr3 with rfl|⟨rfl,e1,e2⟩
    ·exact⟨g.high,g.en,g.CU,g.fin,fun _=>hb,fun e=>by rw [show(c.r k).state=1 from e]at h0;cases h0⟩
    ·obtain⟨b1,b2⟩:=g.fin e1 hg;refine⟨g.high,g.en,g.CU,g.fin,fun _=>hb,fun _=>⟨b1,?_⟩⟩;show(c.r k).read+n=_;rw [e2,(g.en e1).2,b2]
   by_cases hfin:(c.r k).ended=true∧(c.r k).read+n=(c.r k).end_
   ·rw [if_pos hfin];refine⟨h.BQ hc hk (hrel _ (.inr ⟨rfl,hfin.1,hfin.2⟩)) cF ⟨fun x=>x,fun _ x=>x,fun x=>x⟩,rfl,rfl,hoth _,?_⟩;rw [hself];obtain⟨b1,b2⟩:=g.fin hfin.1 hg;refine⟨W4,Uv,UZ,bK,rfl,fun e=>absurd h0 e,rfl,fun _=>rfl,fun _=>⟨b1,?_,rfl⟩,(fun e=>by cases e),by show 1≤2;omega⟩;show(c.r k).read+n=_;rw [hfin.2,(g.en hfin.1).2,b2]
   ·rw [if_neg hfin];refine⟨h.BQ hc hk (hrel _ (.inl rfl)) cF ⟨fun x=>x,fun _ x=>x,fun x=>x⟩,rfl,rfl,hoth _,?_⟩;rw [hself];refine⟨W4,Uv,UZ,bK,rfl,fun e=>absurd h0 e,rfl,fun _=>rfl,(fun e=>by rw [show(c.r k).state=1 from e]at h0;cases h0),(fun e=>by rw [show(c.r k).state=2 from e]at h0;cases h0),ho.st⟩
  ·rw [if_neg h0];refine⟨h.BQ hc hk g C8 ⟨fun x=>x,fun _ x=>x,fun x=>x⟩,rfl,rfl,hoth _,?_⟩;rw [hself];have hh:=g.high;refine⟨A? _,rfl,by show(c.r k).read+0≤_;omega,rfl,rfl,fun _=>Ba,rfl,fun e=>absurd e h0,fun e=>?_,fun e=>?_,ho.st⟩
   ·obtain⟨b1,b2⟩:=g.N4 e;refine⟨b1,b2,?_⟩;show(if(c.r k).state=2 then(c.r k).code else 0)=0;rw [if_neg (by rw [show(c.r k).state=1 from e];decide)]
   ·obtain⟨b1,b2⟩:=g.CU (ho.OS e);refine⟨b1,?_⟩;show(if(c.r k).state=2 then(c.r k).code else 0)=_;rw [if_pos (show(c.r k).state=2 from e),b2]
theorem Hl.grow{w w':AX}{k:Nat}{f:AT}(hw:w.high≤w.b.length)(h:Hl w w' k f):DX w w'∧w'.AE=w.AE:=by
 rcases h with⟨h1,h2,h3,h4⟩|⟨h1,lo,hi,h2,h3,h4,h5,h6,h7,h8⟩
 ·subst h4;exact⟨⟨⟨[],(C_ _).symm⟩,B! _,fun e=>⟨e,rfl⟩,fun e=>⟨e,rfl⟩,fun _=>rfl⟩,rfl⟩
 ·subst h8;refine⟨⟨⟨[],(C_ _).symm⟩,O? _ _,fun e=>⟨e,rfl⟩,(fun e=>by rw [h1]at e;cases e),fun e=>?_⟩,rfl⟩;rcases e with e|⟨e1,e2⟩
  ·rw [h1]at e;cases e
  ·show max w.high hi=w.high;omega
theorem Hl.gN{ws:List AX}{w':AX}{k:Nat}{f:AT}(hl:ws.length=4)(hk:k<4)(hw:(ws.getD k Aq).high≤(ws.getD k Aq).b.length)(h:Hl (ws.getD k Aq) w' k f):Is R (ws.set k w') f:=by
 have e:(ws.set k w').getD k Aq=w':=by rw [DN,if_pos ⟨rfl,Ca⟩]
 rcases h with⟨h1,h2,h3,h4⟩|⟨h1,lo,hi,h2,h3,h4,h5,h6,h7,h8⟩
 ·subst h3;refine⟨.inr (.inl rfl),(fun e=>by cases e),fun _=>?_,(fun e=>by cases e),fun e=>by cases e⟩;show((ws.set k w').getD k Aq).given=true∧(ws.getD k Aq).code=((ws.set k w').getD k Aq).code∧(ws.getD k Aq).high=((ws.set k w').getD k Aq).high;rw [e,h4];exact⟨h1,rfl,rfl⟩
 ·have hsz:f.offset+f.data.size=hi:=by
   rw [h4,Lr,MK h3];show lo+(hi-lo)=hi;omega
  have hst:f.stream.toNat=k:=by rw [h4];rfl
  have hoff:f.offset=lo:=by rw [h4];rfl
  have hdat:f.data.data.toList=cut (ws.getD k Aq).b lo hi:=by rw [h4];exact List.toList_toArray
  have hfin:f.fin=true→(ws.getD k Aq).finished=true∧hi=(ws.getD k Aq).b.length:=fun e=>by
   rw [h4]at e;have e':((ws.getD k Aq).finished&&decide (hi=(ws.getD k Aq).b.length))=true:=e;simpa using e'
  have hkd:f.kind=5:=by rw [h4];rfl
  refine⟨.inr (.inr hkd),fun e=>by omega,fun e=>by omega,fun _=>?_,fun _ e2=>?_⟩
  ·rw [hst,e,hsz,hoff,h8];exact⟨Nat.le_max_right _ _,hdat⟩
  ·rw [hst,e,hsz,h8];obtain⟨b1,b2⟩:=hfin e2;refine⟨b1,?_,b2⟩;show max (ws.getD k Aq).high hi=(ws.getD k Aq).b.length;omega
structure K'(R:Nat→Prop)(AF:Nat)(ws0:List AX)(d0:BT)(ws:List AX)(d:BT):Prop where
 f:Hy AF ws0 d0 ws d
 g:∀k,DX (ws0.getD k Aq) (ws.getD k Aq)∧(ws.getD k Aq).AE=(ws0.getD k Aq).AE
 s:∀f∈d.As,Is R ws f
theorem tK{ws:List AX}{k:Nat}{w':AX}(h:DX (ws.getD k Aq) w')(e:w'.AE=(ws.getD k Aq).AE)(j:Nat):DX (ws.getD j Aq) ((ws.set k w').getD j Aq)∧((ws.set k w').getD j Aq).AE=(ws.getD j Aq).AE:=by
 rw [DN];split
 ·rename_i e2;rw [←e2.1];exact⟨h,e⟩
 ·exact⟨.refl _,rfl⟩
theorem K'.step{AF:Nat}{ws0 ws:List AX}{d0 d d':BT}(h:K' R AF ws0 d0 ws d){k:Nat}{w':AX}(hk:k<4)(e:(ws.getD k Aq).fill d k=some (w',d')):K' R AF ws0 d0 (ws.set k w') d':=by
 obtain⟨f,h1,h2⟩:=bD (h.f.HO.ok k hk) e;have hw:=(h.f.HO.ok k hk).high;obtain⟨g1,g2⟩:=h2.grow hw;have hg:=tK g1 g2;refine⟨(h.f.step hk e).1,fun j=>⟨(h.g j).1.trans (hg j).1,(hg j).2.trans (h.g j).2⟩,fun f' hf=>?_⟩;rw [(X4 h1).1]at hf;rcases D_.1 hf with hf|hf
 ·exact(h.s f' hf).grow (fun _ x=>x) (fun j=>(hg j).1) (fun _=>(h.f.HO.ok _ (h.f.Hq.fr f' hf).s4).high)
 ·rw [B?.1 hf];exact h2.gN h.f.HO.len hk hw
theorem wX{c:AG}{told:List AV}(ht:∀r∈told,∀n,r.lo≤n→n≤r.hi→R n)(ws:List AX):∀f∈(c.DY told).As,Is R ws f:=by
 intro f hf;by_cases h:told=[]
 ·subst h;cases hf
 ·rw [oC c h]at hf;rw [B?.1 hf];exact⟨.inl rfl,fun _ r hr n a b=>ht r (J_ hr) n a b,(fun e=>by cases e),(fun e=>by cases e),fun e=>by cases e⟩
theorem DE.Wn{z:BR}(h:DE t z)(ht:∀r∈z.told,∀n,r.lo≤n→n≤r.hi→R n):K' R z.c.AF z.c.ws (z.c.DY z.told) z.filled.1 z.filled.2:=by
 have h0:K' R z.c.AF z.c.ws (z.c.DY z.told) z.c.ws (z.c.DY z.told):=⟨.refl h.c.ws (Of h.c h.told h.tl),fun k=>⟨.refl _,rfl⟩,wX ht _⟩
 unfold BR.filled;split
 ·exact Tk (K' R z.c.AF z.c.ws (z.c.DY z.told)) (fun ws' d' h=>h.f.HO.len) (fun ws' d' k w' d2 h hk e=>h.step hk e) 4 0 _ _ C8 h0
 ·exact h0
def outs(ks:List UInt8)(side:UInt8):Nat→List (List AT)→List (List UInt8)
 |_,[]=>[]
 |n,fs::l=>Bv ks side (C? n) (Av fs)::outs ks side (n+1) l
structure Ic(c c':AG):Prop where
 rs:c'.rs=c.rs
 AR:c'.AR=c.AR
 ks:c'.ks=c.ks
 first:c'.first=c.first
 AI:c'.AI=c.AI
 AF:c'.AF=c.AF
 w:∀k,Hn (c.w k) (c'.w k)
theorem Ic.refl(c:AG):Ic c c:=⟨rfl,rfl,rfl,rfl,rfl,rfl,fun _=>.refl _⟩
theorem Ic.trans{a b c:AG}(h:Ic a b)(g:Ic b c):Ic a c:=
 ⟨g.rs.trans h.rs,g.AR.trans h.AR,g.ks.trans h.ks,g.first.trans h.first,g.AI.trans h.AI,g.AF.trans h.AF,fun k=>(h.w k).trans (g.w k)⟩
theorem Bn.fill{z:BR}(h:Bn z.c d L L' R R')(hz:DE t z)(hd:AZ u d)(ht:∀r∈z.told,∀n,r.lo≤n→n≤r.hi→R' n):Bn ({z.c with ws:=z.filled.1}:AG) d L L' R R':=by
 have g:=hz.Wn ht;exact h.Gl hz.c hd ⟨rfl,rfl,rfl,rfl,rfl,rfl,rfl,rfl,fun _ x=>x,g.f.HO.len,g.g⟩
theorem Bn.yG{z:BR}(h:Bn z.c d L L' R R')(hz:DE t z)(hd:AZ u d)(ht:∀r∈z.told,∀n,r.lo≤n→n≤r.hi→R' n)(hne:z.filled.2.As≠ []):Bn z.step.c d (L++[z.filled.2.As]) L' R R':=by
 have g:=hz.Wn ht;have h1:=h.fill hz hd ht;have hlen:=h.s.len;have hroom:z.filled.2.room=z.c.AI-16:=g.f.room;have hb:(Av z.filled.2.As).length≤z.filled.2.room:=g.f.Hq.len;have hm:=hz.c.m1;refine⟨⟨?_,?_,?_,?_⟩,h1.s',⟨?_,?_,h1.p.rd,h1.p.By,?_⟩,⟨h1.p'.num,h1.p'.proc,h1.p'.rd,h1.p'.By,h1.p'.full⟩,h1.Gf,h1.ks,h1.first,h1.o,h1.o'⟩
 ·show(L++[_]).length=z.c.next+1;rw [A_,hlen];rfl
 ·intro p hp
  have hp':(p∈z.c.BG∨p∈z.c.lost)∨p=⟨z.c.next,z.c.now,z.filled.2.As⟩:=by
   rcases hp with hp|hp
   ·have hp:p∈(if Dy z.filled.2.As then z.c.BG++[⟨z.c.next,z.c.now,z.filled.2.As⟩]else z.c.BG):=hp;split at hp
    ·rcases D_.1 hp with hp|hp
     ·exact .inl (.inl hp)
     ·exact .inr (B?.1 hp)
    ·exact .inl (.inl hp)
   ·exact .inl (.inr hp)
  rcases hp' with hp'|hp'
  ·have:=(hz.c.Am p hp').num
   rw [D! Ca];exact h.s.Am p hp'
  ·rw [hp'];show(L++[z.filled.2.As])[z.c.next]?=_;rw [←hlen,List.getElem?_append_right C8,Nat.sub_self];rfl
 ·intro fs hfs;rcases D_.1 hfs with hfs|hfs
  ·exact h.s.ne fs hfs
  ·rw [B?.1 hfs];exact⟨hne,by show _≤z.c.AI;omega⟩
 ·intro fs hfs f hf;rcases D_.1 hfs with hfs|hfs
  ·exact h1.s.fr fs hfs f hf
  ·rw [B?.1 hfs]at hf;exact⟨g.f.Hq.fr f hf,g.s f hf⟩
 ·intro n hn
  have:=h.p.num n hn
  rw [A_];omega
 ·intro n fs hn e f hf h5;rw [D! (h.p.num n hn)]at e;exact h.p.proc n fs hn e f hf h5
 ·intro n fs hn e f hf;rw [D! (h.p.num n hn)]at e;exact h.p.full n fs hn e f hf
theorem BR.sends{z:BR}(hz:DE t z):Ic z.c z.step.c:=Y2
theorem Bn.DT(hd:AZ u d):∀(n:Nat) (z:BR) (L:List (List AT)),Bn z.c d L L' R R'→DE t z→(∀r∈z.told,∀n,r.lo≤n→n≤r.hi→R' n)→
  ∃Ls,Bn (DT n z).c d (L++Ls) L' R R'∧Ic z.c (DT n z).c∧(DT n z).out=z.out++outs z.c.ks (Ag z.c.first) L.length Ls
 |0,z,L,h,hz,ht=>⟨[],by rw [C_];exact h,.refl _,(C_ _).symm⟩
 |n+1,z,L,h,hz,ht=>by
  rw [Go.Proofs.YtgfdlpcdjklcoaaGreatDoor.DT];split
  ·exact⟨[],by rw [C_];exact h.fill hz hd ht,Y2,(C_ _).symm⟩
  ·rename_i hne;obtain⟨Ls,a,b,e⟩:=Bn.DT hd n z.step (L++[z.filled.2.As]) (h.yG hz hd ht hne) (hz.step hne).1 (fun r hr=>ht r (J! hr));refine⟨z.filled.2.As::Ls,?_,(BR.sends hz).trans b,?_⟩
   ·rw [B_]at a;exact a
   ·rw [e];show(z.out++[Bv z.c.ks (Ag z.c.first) (C? z.c.next) z.filled.2.b])++outs z.c.ks (Ag z.c.first) (L++[_]).length Ls=_;rw [B_,←h.s.len,A_];rfl
theorem Bn.A6(h:Bn c d L L' R R')(hc:AZ t c)(hd:AZ u d)(g:Fp c L'.length R'):
  ∃Ls,Bn c.A6.2 d (L++Ls) L' R R'∧Ic c c.A6.2∧c.A6.1=outs c.ks (Ag c.first) L.length Ls:=by
 unfold AG.A6;rw [if_neg (by have:=h.o;omega)]
 have h0:Bn ({c with answer:=false}:AG) d L L' R R':=
  ⟨⟨h.s.len,h.s.Am,h.s.ne,h.s.fr⟩,h.s',⟨h.p.num,h.p.proc,h.p.rd,h.p.By,h.p.full⟩,⟨h.p'.num,h.p'.proc,h.p'.rd,h.p'.By,h.p'.full⟩,h.Gf,h.ks,h.first,h.o,h.o'⟩
 obtain⟨Ls,a,b,e⟩:=Bn.DT hd 40 ⟨{c with answer:=false},if c.answer then c.AR.l.reverse else [],[]⟩ L h0 (DE.begin hc) (by
  intro r hr n h1 h2
  have hr:r∈(if c.answer then c.AR.l.reverse else []):=hr
  split at hr
  ·exact g.AR n ⟨r,TS,h1,h2⟩
  ·cases hr)
 exact⟨Ls,a,⟨b.rs,b.AR,b.ks,b.first,b.AI,b.AF,b.w⟩,e⟩
end
section
structure Ds where
 wrote:List UInt8
 finished:Bool
 given:Bool
 code:Nat
 read:Nat
 state:Nat
 AE:Nat
def Df:Ds:=⟨[],false,false,0,0,0,0⟩
structure DR where
 kind:Int
 side:Int
 a:Int
 b:Int
 s:ByteArray
def AK(c:Int)(n:Nat):Nat:=((if c<0 then -(c+1)else c)%(n:Int)).toNat
structure AM where
 xs:List AG
 ends:List (List Ds)
 AI:Nat
 AF:Nat
 ks:List UInt8
 AN:List (Nat×ByteArray)
 count:List Nat
def TP:AG:=.new 64 16 [] false
def AM.x(n:AM)(i:Nat):AG:=n.xs.getD i TP
def AM.e(n:AM)(i k:Nat):Ds:=(n.ends.getD i []).getD k Df
def AM.cnt(n:AM)(i:Nat):Nat:=n.count.getD i 0
def AM.A3(n:AM)(i:Nat)(c:AG):AM:={n with xs:=n.xs.set i c}
def AM.DJ(n:AM)(i k:Nat)(o:Ds):AM:={n with ends:=n.ends.set i ((n.ends.getD i []).set k o)}
def Ds.bad(o:Ds)(AF:Nat)(a:Nat×Nat):Prop:=a.2≠0∨a.1<o.AE∨o.wrote.length<a.1∨(o.given=false∧o.state=0∧o.read+AF<a.1)
instance(o:Ds)(AF:Nat)(a:Nat×Nat):Decidable (o.bad AF a):=by unfold Ds.bad;infer_instance
def DQ(i:Nat):Nat→Nat→AM→Bool×AM
 |_,0,n=>(true,n)
 |k,m+1,n=>if(n.e i k).bad n.AF ((n.x i).AE k)then(false,n)else DQ i (k+1) m (n.DJ i k {n.e i k with AE:=((n.x i).AE k).1})
def AM.wr(n:AM)(i k:Nat)(s:ByteArray):Bool×AM:=
 let r:=(n.x i).write k s.data.toList
 let n1:=n.A3 i r.2
 if(n.e i k).finished=true∨(n.e i k).given=true then(decide (r.1.2=3∧r.1.1=0),n1)
 else
  let z:=DQ i 0 4 n1
  if z.1=false∨r.1.2≠0∨s.size<r.1.1∨n.AF+(z.2.e i k).AE<(z.2.e i k).wrote.length+r.1.1 then(false,z.2)
  else(true,z.2.DJ i k {z.2.e i k with wrote:=(z.2.e i k).wrote++s.data.toList.take r.1.1})
def AM.fin(n:AM)(i k:Nat):Bool×AM:=
 let r:=(n.x i).finish k
 let n1:=n.A3 i r.2
 if(n.e i k).finished=true∨(n.e i k).given=true then(decide (r.1=3),n1)else(decide (r.1=0),n1.DJ i k {n.e i k with finished:=true})
def AM.CU(n:AM)(i k c:Nat):Bool×AM:=
 let r:=(n.x i).giveUp k c
 let n1:=n.A3 i r.2
 if(n.e i k).given=true then(decide (r.1=3),n1)else(decide (r.1=0),n1.DJ i k {n.e i k with given:=true,code:=c})
def AM.tick(n:AM):AM:=(n.A3 0 (n.x 0).tick).A3 1 (n.x 1).tick
def IX(i:Nat):List (List UInt8)→AM→Bool×AM
 |[],n=>(true,n)
 |p::ps,n=>match Bx n.ks (Ag (decide (i=0))) p with
  |none=>(false,n)
  |some (m,b)=>if n.AI<p.length∨m.toNat≠n.cnt i∨b=[]then(false,n)
   else IX i ps {n with count:=n.count.set i (n.cnt i+1),AN:=n.AN++[(1-i,AW p)]}
def AM.flush(n:AM)(i:Nat):Bool×AM:=IX i (n.x i).A6.1 (n.A3 i (n.x i).A6.2)
def AM.comes(n:AM)(i:Nat)(b:ByteArray):Bool×AM:=
 let r:=(n.x i).A9 b.data.toList
 let z:=DQ i 0 4 (n.A3 i r.2)
 (z.1&&decide (r.1.1=0∨r.1.1=6),z.2)
def AM.Ee(n:AM)(i:Nat)(b:List UInt8):Bool×AM:=
 match Bx n.ks (Ag (decide (i≠0))) b with
 |some _=>(true,n)
 |none=>(decide (((n.x i).A9 b).1.1=4),n.A3 i ((n.x i).A9 b).2)
def XK(b:List UInt8)(at_:Nat)(s:List UInt8):List UInt8:=
 b.take at_++[b.getD at_ 0 ^^^(if s≠ []∧s.getD 0 0≠0 then s.getD 0 0 else 1)]++b.drop (at_+1)
def AM.carry(n:AM)(s:DR):Bool×AM:=
 if n.AN=[]then(true,n)
 else
  let f:=n.AN.getD (AK s.a n.AN.length) (0,⟨#[]⟩)
  if s.kind=6 then n.comes f.1 f.2
  else if s.kind=9 then n.Ee (1-f.1) f.2.data.toList
  else if s.kind=8 then n.Ee f.1 (XK f.2.data.toList (AK s.b f.2.size) s.s.data.toList)
  else(true,n)
def AM.read(n:AM)(i k:Nat)(AL:Nat):Bool×AM:=
 let o:=n.e (1-i) k
 let r:=(n.x i).read k AL
 let n1:=n.A3 i r.2
 if r.1.2.2.2≠0∨AL<r.1.1.length∨o.wrote.length<o.read+r.1.1.length∨(o.wrote.drop o.read).take r.1.1.length≠r.1.1∨(o.state≠0∧(r.1.1≠ []∨r.1.2.1≠o.state))then(false,n1)
 else
  let o2:Ds:={o with read:=o.read+r.1.1.length,state:=r.1.2.1}
  let n2:=n1.DJ (1-i) k o2
  if r.1.2.1=0 then(decide (r.1.2.2.1=0),n2)
  else if r.1.2.1=1 then(decide (o2.finished=true∧o2.read=o2.wrote.length∧r.1.2.2.1=0),n2)
  else if r.1.2.1=2 then(decide (o2.given=true∧r.1.2.2.1=o2.code),n2)else(false,n2)
def AM.step(n:AM)(s:DR):Bool×AM:=
 if s.kind=1 then n.wr (AK s.side 2) (AK s.a 4) s.s
 else if s.kind=2 then n.fin (AK s.side 2) (AK s.a 4)
 else if s.kind=3 then n.CU (AK s.side 2) (AK s.a 4) (AK s.b 1000)
 else if s.kind=4 then(true,n.tick)
 else if s.kind=5 then n.flush (AK s.side 2)
 else if s.kind=10 then n.read (AK s.side 2) (AK s.b 4) (AK s.a 200)
 else if s.kind=7 then n.Ee (AK s.side 2) s.s.data.toList
 else n.carry s
def AM.run(without:Int):List DR→AM→Option AM
 |[],n=>some n
 |s::l,n=>if s.kind=without then AM.run without l n else if(n.step s).1=true then AM.run without l (n.step s).2 else none
def Dj:List UInt8:=[3,1,4,1,5,0,0,0,0,0,0,0,0,0,0,0]
def AM.new(AI AF:Nat):AM:=
 ⟨[.new AI AF Dj true,.new AI AF Dj false],Q_ 2 (Q_ 4 Df),AI,AF,Dj,[],[0,0]⟩
def JM(AI AF:Int):AM:=.new (64+AK AI 237) (16+AK AF 300)
def th(z:Bool×AM)(f:AM→Bool×AM):Bool×AM:=(z.1&&(f z.2).1,(f z.2).2)
def Gk:List (Nat×ByteArray)→Bool×AM→Bool×AM
 |[],z=>z
 |f::fs,z=>Gk fs (th z (·.comes f.1 f.2))
def Fw(i:Nat):Nat→Nat→Bool×AM→Bool×AM
 |_,0,z=>z
 |k,m+1,z=>Fw i (k+1) m (th z (·.read i k 5000))
def AM.round(n:AM):Bool×AM:=
 let z:=th (th (true,n.tick) (·.flush 0)) (·.flush 1)
 Fw 1 0 4 (Fw 0 0 4 (Gk (z.2.AN.drop n.AN.length) z))
def Gq:Nat→AM→Bool×AM
 |0,n=>(true,n)
 |t+1,n=>if n.round.1=true then Gq t n.round.2 else(false,n.round.2)
theorem E7(c:Int){n:Nat}(h:0<n):AK c n<n:=by
 unfold AK
 have h1:0≤(if c<0 then -(c+1)else c):=by split<;>omega
 have h2:=Int.emod_lt_of_pos (if c<0 then -(c+1)else c) (show(0:Int)<n by omega);have h3:=Int.emod_nonneg (if c<0 then -(c+1)else c) (show(n:Int)≠0 by omega);omega
structure IF(w:AX)(r:Bb)(o:Ds)(T:List UInt8):Prop where
 wrote:w.b=o.wrote++T
 pre:w.A4≤o.wrote.length
 finished:o.finished=w.finished
 given:o.given=w.given
 code:o.given=true→o.code=w.code
 read:o.read=r.read
 state:o.state=r.state
 AE:o.AE≤w.A4
structure Ak(t:Nat)(n:AM)(L:Nat→List (List AT))(R:Nat→Nat→Prop)(T:Nat→Nat→List UInt8):Prop where
 xl:n.xs.length=2
 el:n.ends.length=2
 D7:∀i,i<2→(n.ends.getD i []).length=4
 cl:n.count.length=2
 c:∀i,i<2→AZ t (n.x i)
 two:Bn (n.x 0) (n.x 1) (L 0) (L 1) (R 0) (R 1)
 g:∀i,i<2→Fp (n.x i) (L (1-i)).length (R (1-i))
 e:∀i k,i<2→k<4→IF ((n.x i).w k) ((n.x (1-i)).r k) (n.e i k) (T i k)
 AN:∀f∈n.AN,∃i m fs,i<2∧f.1=1-i∧(L i)[m]?=some fs∧f.2=AW (Bv n.ks (Ag (decide (i=0))) (C? m) (Av fs))
 cnt:∀i,i<2→n.cnt i=(L i).length
 ks:∀i,i<2→(n.x i).ks=n.ks
 first:∀i,i<2→(n.x i).first=decide (i=0)
 AI:∀i,i<2→(n.x i).AI=n.AI
 AF:∀i,i<2→(n.x i).AF=n.AF
 bl:n.AN.length=(L 0).length+(L 1).length
theorem IU{i:Nat}(h:i<2):i=0∨i=1:=by omega
theorem Ak.at{t:Nat}{n:AM}{L:Nat→List (List AT)}{R:Nat→Nat→Prop}{T:Nat→Nat→List UInt8}(h:Ak t n L R T){i:Nat}(hi:i<2):Bn (n.x i) (n.x (1-i)) (L i) (L (1-i)) (R i) (R (1-i)):=by
 rcases IU hi with rfl|rfl
 ·exact h.two
 ·exact h.two.symm
theorem QH(n:AM)(i j:Nat)(c:AG)(hl:n.xs.length=2)(hi:i<2):(n.A3 i c).x j=if i=j then c else n.x j:=by
 show(n.xs.set i c).getD j TP=_;rw [DN,hl];by_cases e:i=j
 ·rw [if_pos ⟨e,hi⟩,if_pos e]
 ·rw [if_neg (fun h=>e h.1),if_neg e];rfl
theorem Na(n:AM)(i k j m:Nat)(o:Ds)(hl:n.ends.length=2)(h4:(n.ends.getD i []).length=4)(hi:i<2)(hk:k<4):(n.DJ i k o).e j m=if i=j∧k=m then o else n.e j m:=by
 show((n.ends.set i ((n.ends.getD i []).set k o)).getD j []).getD m Df=_;rw [DN,hl];by_cases e:i=j
 ·subst e;rw [if_pos ⟨rfl,hi⟩,DN,h4];by_cases e2:k=m
  ·rw [if_pos ⟨e2,hk⟩,if_pos ⟨rfl,e2⟩]
  ·rw [if_neg (fun h=>e2 h.1),if_neg (fun h=>e2 h.2)];rfl
 ·rw [if_neg (fun h=>e h.1),if_neg (fun h=>e h.1)];rfl
section
variable{t:Nat}{n:AM}{L:Nat→List (List AT)}{R:Nat→Nat→Prop}{T:Nat→Nat→List UInt8}
theorem Ak.MT(h:Ak t n L R T){i:Nat}(hi:i<2){c:AG}{n':AM}{t':Nat}(ht:t≤t'){L':Nat→List (List AT)}{R':Nat→Nat→Prop}{T':Nat→Nat→List UInt8}
  (hxs:n'.xs=n.xs.set i c)(hel:n'.ends.length=2)(hel4:∀j,j<2→(n'.ends.getD j []).length=4)(hcl:n'.count.length=2)(hnm:n'.AI=n.AI)(hnw:n'.AF=n.AF)(hnk:n'.ks=n.ks)(hc:AZ t' c)
  (h2:Bn c (n.x (1-i)) (L' i) (L' (1-i)) (R' i) (R' (1-i)))(hg:Fp c (L' (1-i)).length (R' (1-i)))(hg':Fp (n.x (1-i)) (L' i).length (R' i))
  (he:∀k,k<4→IF (c.w k) ((n.x (1-i)).r k) (n'.e i k) (T' i k))(he':∀k,k<4→IF ((n.x (1-i)).w k) (c.r k) (n'.e (1-i) k) (T' (1-i) k))
  (hbag:∀f∈n'.AN,∃j m fs,j<2∧f.1=1-j∧(L' j)[m]?=some fs∧f.2=AW (Bv n.ks (Ag (decide (j=0))) (C? m) (Av fs)))
  (hcnt:∀j,j<2→n'.cnt j=(L' j).length)(hks:c.ks=(n.x i).ks)(hf:c.first=(n.x i).first)(hm:c.AI=(n.x i).AI)(hw:c.AF=(n.x i).AF)(hbl:n'.AN.length=(L' 0).length+(L' 1).length):Ak t' n' L' R' T':=by
 have hx:∀j,n'.x j=if i=j then c else n.x j:=fun j=>by
  have:=QH n i j c h.xl hi
  unfold AM.x at this⊢;rw [hxs];exact this
 have hxi:n'.x i=c:=by rw [hx,if_pos rfl]
 have hxo:n'.x (1-i)=n.x (1-i):=by rw [hx,if_neg Ca]
 have all:∀(P:Nat→AG→Prop),P i c→P (1-i) (n.x (1-i))→∀j,j<2→P j (n'.x j):=by
  intro P h1 h2 j hj;by_cases e:i=j
  ·subst e;rw [hxi];exact h1
  ·have:j=1-i:=by omega
   subst this;rw [hxo];exact h2
 have ho:1-i<2:=by omega
 refine⟨by rw [hxs,E?];exact h.xl,hel,hel4,hcl,all (fun _ c=>AZ t' c) hc ((h.c _ ho).mono ht),?_,?_,?_,?_,hcnt,
  all (fun _ c=>c.ks=n'.ks) (by rw [hnk];exact hks.trans (h.ks i hi)) (by rw [hnk];exact h.ks _ ho),all (fun j c=>c.first=decide (j=0)) (hf.trans (h.first i hi)) (h.first _ ho),all (fun _ c=>c.AI=n'.AI) (by rw [hnm];exact hm.trans (h.AI i hi)) (by rw [hnm];exact h.AI _ ho),
  all (fun _ c=>c.AF=n'.AF) (by rw [hnw];exact hw.trans (h.AF i hi)) (by rw [hnw];exact h.AF _ ho),hbl⟩
 ·rcases IU hi with rfl|rfl
  ·rw [hxi,hxo];exact h2
  ·rw [hxi,hxo];exact h2.symm
 ·rcases IU hi with rfl|rfl
  ·exact Wy
  ·exact Wy
 ·intro j k hj hk;by_cases e:i=j
  ·subst e;rw [hxi,hxo];exact he k hk
  ·have:j=1-i:=by omega
   subst this;rw [hxo,show 1-(1-i)=i by omega,hxi];exact he' k hk
 ·intro f hf;rw [hnk];exact hbag f hf
theorem Ak.A3(h:Ak t n L R T){i:Nat}(hi:i<2){c:AG}{t':Nat}(ht:t≤t'){R':Nat→Nat→Prop}{T':Nat→Nat→List UInt8}(hc:AZ t' c)
  (h2:Bn c (n.x (1-i)) (L i) (L (1-i)) (R' i) (R' (1-i)))(hg:Fp c (L (1-i)).length (R' (1-i)))(hg':Fp (n.x (1-i)) (L i).length (R' i))
  (he:∀k,k<4→IF (c.w k) ((n.x (1-i)).r k) (n.e i k) (T' i k))(he':∀k,k<4→IF ((n.x (1-i)).w k) (c.r k) (n.e (1-i) k) (T' (1-i) k))
  (hks:c.ks=(n.x i).ks)(hf:c.first=(n.x i).first)(hm:c.AI=(n.x i).AI)(hw:c.AF=(n.x i).AF):Ak t' (n.A3 i c) L R' T':=
 h.MT hi ht rfl h.el h.D7 h.cl rfl rfl rfl hc h2 hg hg' he he' h.AN h.cnt hks hf hm hw h.bl
theorem Ak.DJ(h:Ak t n L R T){i k:Nat}(hi:i<2)(hk:k<4){o:Ds}{T':Nat→Nat→List UInt8}(hT:∀j m,¬(i=j∧k=m)→T' j m=T j m)(ho:IF ((n.x i).w k) ((n.x (1-i)).r k) o (T' i k)):Ak t (n.DJ i k o) L R T':=by
 have he:∀j m,(n.DJ i k o).e j m=if i=j∧k=m then o else n.e j m:=fun j m=>Na n i k j m o h.el (h.D7 i hi) hi hk;refine⟨h.xl,by show(n.ends.set _ _).length=2;rw [E?];exact h.el,fun j hj=>?_,h.cl,h.c,h.two,h.g,fun j m hj hm=>?_,h.AN,h.cnt,h.ks,h.first,h.AI,h.AF,h.bl⟩
 ·show((n.ends.set i ((n.ends.getD i []).set k o)).getD j []).length=4;rw [DN];split
  ·rw [E?];exact h.D7 i hi
  ·exact h.D7 j hj
 ·rw [he];split
  ·rename_i e;obtain⟨rfl,rfl⟩:=e;exact ho
  ·rename_i e;rw [hT j m e];exact h.e j m hj hm
theorem Ak.Qp(h:Ak t n L R T){i k:Nat}(hi:i<2)(hk:k<4):¬(n.e i k).bad n.AF ((n.x i).AE k):=by
 have h2:=h.at hi;have o:=h.e i k hi hk;have hw:CW (n.x i).AF ((n.x i).w k):=(h.c i hi).ws.ok k hk
 have e:(n.x i).AE k=(((n.x i).w k).A4,0):=by
  unfold AG.AE;rw [if_neg (by rw [Ms h2.o hk];simp)];rfl
 rw [e];have hp:=o.pre;have hc:=o.AE;rintro(b|b|b|⟨b1,b2,b3⟩)
 ·exact b rfl
 ·have b:((n.x i).w k).A4<(n.e i k).AE:=b;omega
 ·have b:(n.e i k).wrote.length<((n.x i).w k).A4:=b;omega
 ·have b3:(n.e i k).read+n.AF<((n.x i).w k).A4:=b3;rcases h2.p.By k (((n.x i).w k).A4-1) hk (hw.bI Ca)with g|g
  ·have:=((h2.p.rd k hk).CU g).1
   rw [←o.given,b1]at this;cases this
  ·rw [h.AF _ Ca,←o.read]at g;omega
theorem Ak.dP(h:Ak t n L R T){i k:Nat}(hi:i<2)(hk4:k<4):(n.x i).AE k=(((n.x i).w k).A4,0)∧Ak t (n.DJ i k {n.e i k with AE:=((n.x i).w k).A4}) L R T:=by
 have o:=h.e i k hi hk4;have h2:=h.at hi;refine⟨?_,h.DJ hi hk4 (fun _ _ _=>rfl) ⟨o.wrote,o.pre,o.finished,o.given,o.code,o.read,o.state,B! _⟩⟩;unfold AG.AE;rw [if_neg Vh];rfl
theorem Ak.DQ{i:Nat}(hi:i<2):∀(m k:Nat) (n:AM),Ak t n L R T→k+m≤4→(DQ i k m n).1=true∧Ak t (DQ i k m n).2 L R T∧(DQ i k m n).2.xs=n.xs∧
  (∀j l,(DQ i k m n).2.e j l=if j=i∧k≤l∧l<k+m then {n.e j l with AE:=((n.x i).w l).A4}else n.e j l)∧(DQ i k m n).2.AF=n.AF∧(DQ i k m n).2.AN=n.AN
 |0,k,n,h,_=>⟨rfl,h,rfl,fun j l=>by rw [if_neg Ca];rfl,rfl,rfl⟩
 |m+1,k,n,h,hk=>by
  have hk4:k<4:=by omega
  have o:=h.e i k hi hk4;have h2:=h.at hi
  have e:(n.x i).AE k=(((n.x i).w k).A4,0):=by
   unfold AG.AE;rw [if_neg Vh];rfl
  rw [Go.Proofs.YtgfdlpcdjklcoaaGreatDoor.DQ,if_neg (h.Qp hi hk4)]
  have h3:Ak t (n.DJ i k {n.e i k with AE:=((n.x i).AE k).1}) L R T:=
   h.DJ hi hk4 (fun _ _ _=>rfl) ⟨o.wrote,o.pre,o.finished,o.given,o.code,o.read,o.state,by rw [e];exact B! _⟩
  obtain⟨a,b,f,g,w,w2⟩:=Ak.DQ hi m (k+1) _ h3 Ca;refine⟨a,b,f,fun j l=>?_,w,w2⟩;rw [g j l,Na n i k j l _ h.el (h.D7 i hi) hi hk4];show(if j=i∧k+1≤l∧l<k+1+m then {(if i=j∧k=l then _ else n.e j l:Ds)with AE:=((n.x i).w l).A4}else(if i=j∧k=l then _ else n.e j l))=_;by_cases e1:j=i
  ·subst e1;by_cases e2:k=l
   ·subst e2;rw [if_neg Ca,if_pos Ba,if_pos Ca,e]
   ·rw [if_neg (by omega:¬(j=j∧k=l))];by_cases e3:k+1≤l∧l<k+1+m
    ·rw [if_pos ⟨rfl,e3⟩,if_pos Ca]
    ·rw [if_neg (fun x=>e3 x.2),if_neg Ca]
  ·rw [if_neg (fun x=>e1 x.1),if_neg (fun x=>e1 x.1.symm),if_neg (fun x=>e1 x.1)]
end
end
section
variable{B:World}
abbrev CG(f:Nat)(us:List Value):Value:=.func (.func f) #[] us.toArray
structure Bu where
 p:Option Addr
 b:Nat
 o:Nat
 c:Nat
 s:List Value
def AS(q:Nat)(a:Bu)(z:BE):HP:=HP.AA q 0 [.slice a.p z.l.length a.c,uN z.floor,iN z.AL]*AB a.b a.o z.l a.s
def Bu.ok(a:Bu)(z:BE):Prop:=Sl a.p a.b a.o z.l.length a.c∧z.l.length*2+a.s.length=a.c*2
class GP(B:World)(H:HP)(q:Nat)(a:outParam Bu)(z:outParam BE):Prop where
 l:Rd B H q 0 (.slice a.p z.l.length a.c) True
 f:Rd B H q (0+1) (uN z.floor) True
 r:Ab B H a.b a.o z.l
instance(q:Nat)(a:Bu)(z:BE):GP B (AS q a z) q a z:=by
 unfold AS;exact⟨inferInstance,inferInstance,inferInstance⟩
instance(q:Nat)(a:Bu)(z:BE)(A C:HP)[h:GP B A q a z]:GP B (A*C) q a z:=let _:=h.l;let _:=h.f;let _:=h.r;⟨inferInstance,inferInstance,inferInstance⟩
instance(q:Nat)(a:Bu)(z:BE)(A C:HP)[h:GP B C q a z]:GP B (A*C) q a z:=let _:=h.l;let _:=h.f;let _:=h.r;⟨inferInstance,inferInstance,inferInstance⟩
theorem HE{l:List AV}{P:AV→Prop}(h:∀r∈l,P r)(i:Nat)(hi:i<l.length):P (rg l i):=by
 unfold rg;rw [A!,C! hi];exact h _ (N_ hi)
theorem Sw(n:Nat)(f:FuncId)(us:List Value)(p:Nat→Prop)[DecidablePred p](H:HP)[Ad Tryz.prog f](hn:n<4611686018427387904)(hmono:∀i j,i≤j→j<n→p i→p j)
  (hf:∀i,i<n→Fn Tryz.prog B f (iN i::us) H (fun v H'=>v=.bool (decide (p i))∧H'=H)):
  Fn Tryz.prog B 173 [iN n,CG f us] H (fun v H'=>∃k,v=iN k∧k≤n∧(∀i,i<k→¬p i)∧(∀i,k≤i→i<n→p i)∧H'=H):=by
 refine mI Tryz.func173 ?_;refine Gv ?_;refine J5 ?_;refine FN ?_;refine J5 ?_
 refine Bk (α:=Nat×Nat) (fun z=>[(0,iN n),(1,CG f us),(5,iN z.1),(6,iN z.2)]) (fun _=>H) (fun z=>z.1≤z.2∧z.2≤n∧(∀i,i<z.1→¬p i)∧(∀i,z.2≤i→i<n→p i)) (fun z=>z.2-z.1) (0,n) ⟨A? _,B! _,(fun i h=>absurd h (G? i)),(fun i h1 h2=>by omega)⟩ CY rfl ?_
 rintro⟨i,j⟩ ⟨h1,h2,h3,h4⟩;refine J8 ?_;refine mC (fun hc=>?_) (fun hc=>?_)
 ·refine J8 ?_;refine JL FC ?_;refine JL (Iq (j:=1) rfl rfl Ca) ?_;refine JL K9 ?_;refine J7 ?_;refine Af (Hg rfl rfl (hf _ Ca)) rfl ?_;refine Fs ?_;refine mC (fun h5=>?_) (fun h5=>?_)
  ·refine J2 ?_;refine JJ ?_;refine J3 ?_
   first
    |exact BW ((i+j)/2^1+1,j) ⟨Ws,h2,fun k hk hp=>h5 (hmono k _ (by have:k<(i+j)/2^1+1:=hk;omega) Ca hp),h4⟩ V6 CY rfl
    |exact BW (i,(i+j)/2^1) ⟨cH,XJ,h3,fun k hk1 hk2=>hmono _ k hk1 hk2 (by simpa using h5)⟩ Vx CY rfl
  refine J5 ?_
  first
   |exact BW ((i+j)/2^1+1,j) ⟨Ws,h2,fun k hk hp=>h5 (hmono k _ (by have:k<(i+j)/2^1+1:=hk;omega) Ca hp),h4⟩ V6 CY rfl
   |exact BW (i,(i+j)/2^1) ⟨cH,XJ,h3,fun k hk1 hk2=>hmono _ k hk1 hk2 (by simpa using h5)⟩ Vx CY rfl
 refine DH ?_;exact mr [4] rfl rfl ⟨i,rfl,Ca,h3,(fun k hk1 hk2=>h4 k Ca hk2),rfl⟩
theorem eH(bs bn q n i:Nat)(a:Bu)(z:BE)(H:HP)[h1:Rd B H bs 0 (ptr q 0) True][h2:Rd B H bn 0 (uN n) True][hz:GP B H q a z](hs:a.ok z)(hi:i<z.l.length):
  Fn Tryz.prog B 174 [iN i,ptr bs 0,ptr bn 0] H (fun v H'=>v=.bool (decide (n≤(rg z.l i).hi))∧H'=H):=by
 have:=hz.l
 have:=hz.r
 have hsl:=hs.1;refine mI Tryz.func174 ?_;refine J6 ?_;refine mA 11 11 ?_;refine TV ?_;refine JT 7 rfl T6 ?_;refine Jd 8 ?_;refine JT 9 rfl Ka ?_;refine Ja 10 ?_;refine DO ?_;exact mr [4] rfl rfl Ba
theorem kR(bs bn q n i:Nat)(a:Bu)(z:BE)(H:HP)[h1:Rd B H bs 0 (ptr q 0) True][h2:Rd B H bn 0 (uN n) True][hz:GP B H q a z](hs:a.ok z)(hi:i<z.l.length)(hn:n<4611686018427387904):
  Fn Tryz.prog B 179 [iN i,ptr bs 0,ptr bn 0] H (fun v H'=>v=.bool (decide (n≤(rg z.l i).hi+1))∧H'=H):=by
 have:=hz.l
 have:=hz.r
 have hsl:=hs.1;refine mI Tryz.func179 ?_;refine J6 ?_;refine mA 24 24 ?_;refine TV ?_;refine JT 7 rfl T6 ?_;refine Jd 8 ?_;refine JT 9 rfl Ka ?_;refine Jm 10 ?_;refine GK 15 rfl (fun hg1=>?_) (fun hg1=>?_)
 ·refine Yd ?_;refine JN 15 rfl T1 ?_;refine JN 16 rfl T1 ?_;refine JN 17 rfl T1 ?_;refine JN 18 rfl T1 ?_;refine JN 19 rfl T1 ?_;refine JN 20 rfl T1 ?_;refine JN 21 rfl T1 ?_;refine JT 22 rfl Fd ?_;refine Ja 23 ?_;refine DO ?_;exact QK
 refine JY 11 rfl F1 BX ?_;refine JY 12 rfl F1 BX ?_;refine JY 13 rfl F1 CJ ?_;refine JY 14 rfl F1 BL ?_;refine JY 15 rfl F1 BX ?_;refine JY 16 rfl F1 BZ ?_;refine JY 17 rfl F1 KY ?_;refine JY 18 rfl F1 BL ?_;refine JY 19 rfl F1 T6 ?_;refine JY 20 rfl F1 G5 ?_;refine JY 21 rfl F1 (CD (j:=1) rfl rfl) ?_;refine JT 22 rfl Ec ?_;refine Ja 23 ?_;refine DO ?_;exact QK
theorem xW(bs bn q n i:Nat)(a:Bu)(z:BE)(H:HP)[h1:Rd B H bs 0 (ptr q 0) True][h2:Rd B H bn 0 (uN n) True][hz:GP B H q a z](hs:a.ok z)(hi:i<z.l.length)(hl:(rg z.l i).lo<4611686018427387904):
  Fn Tryz.prog B 180 [iN i,ptr bs 0,ptr bn 0] H (fun v H'=>v=.bool (decide (n+1<(rg z.l i).lo))∧H'=H):=by
 have:=hz.l
 have:=hz.r
 have hsl:=hs.1;refine mI Tryz.func180 ?_;refine J6 ?_;refine mA 24 24 ?_;refine TV ?_;refine JT 7 rfl S8 ?_;refine Jd 8 ?_;refine JT 9 rfl Hc ?_;refine Jm 10 ?_;refine GK 15 rfl (fun hg1=>?_) (fun hg1=>?_)
 ·refine JY 11 rfl T1 BX ?_;refine JY 12 rfl T1 CJ ?_;refine JY 13 rfl T1 BL ?_;refine JY 14 rfl T1 BX ?_;refine JY 15 rfl T1 BZ ?_;refine JY 16 rfl T1 KY ?_;refine JY 17 rfl T1 BL ?_;refine JY 18 rfl T1 S8 ?_;refine JY 19 rfl T1 BX ?_;refine JY 20 rfl T1 G5 ?_;refine JY 21 rfl T1 (F6 (j:=1) rfl rfl) ?_;refine JT 22 rfl Fd ?_;refine Ja 23 ?_;refine DO ?_;exact QK
 refine JN 11 rfl F1 ?_;refine JN 12 rfl F1 ?_;refine JN 13 rfl F1 ?_;refine JN 14 rfl F1 ?_;refine JN 15 rfl F1 ?_;refine JN 16 rfl F1 ?_;refine JN 17 rfl F1 ?_;refine JN 18 rfl F1 ?_;refine JN 19 rfl F1 ?_;refine JN 20 rfl F1 ?_;refine JN 21 rfl F1 ?_;refine JT 22 rfl Ec ?_;refine Ja 23 ?_;refine DO ?_;exact QK
end
end Go.Proofs.YtgfdlpcdjklcoaaGreatDoor
