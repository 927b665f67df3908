/- A part of this proof: steps of the program, plain facts; no condition. -/
import Derived.Test.YtgfdlpcdjklcoaaGreatDoorG4
namespace Go.Proofs.YtgfdlpcdjklcoaaGreatDoor
open Go Go.RowKit
open _root_.List renaming length_append→a_,getD_eq_getElem?_getD→b_,append_assoc→d_,mem_singleton→f_,append_nil→g_,getElem?_eq_getElem→g',mem_append→i_,getElem?_append_left→j_,length_pos_iff→kf,length_drop→kg,length_cons→kh,length_set→ki,getElem?_drop→km,length_filter_le→ko,length_take→kp,ext_getElem→kv,range_succ_eq_map→kw,length_singleton→kx,map_congr_left→k_,length_reverse→ld,mem_cons→lf,map_cons→lh,cons_eq_cons→lj,flatMap_cons→ll,getElem_take→lm,getElem_mem→lq,mem_filter→lu,take_left'→lw,nil_append→lx,length_nil→lz,drop_left'→l_,drop_drop→ma,replicate→mb,getD→md,map_map→me,range→mf
open _root_.Nat renaming zero_le→c_,le_refl→e_,le_trans→kj,not_lt_zero→kq,lt_or_ge→kr,lt_succ_of_lt→ku,le_succ_of_le→li,mod_eq_of_lt→lr,le_max_left→ly
open _root_.UInt64 renaming ofNat→h_,toNat_toUInt8→ky
open _root_.Option renaming some→kn,getD_some→ln
open _root_.Int renaming toNat_natCast→kt
set_option linter.unusedVariables false
set_option maxRecDepth 20000
structure VV(next now:Nat)(ws:List AR)(p:DR):Prop where
 num:p.number<next
 at_:p.at_≤now
 len:p.Ag.length≤300
 fr:∀f∈p.Ag,EC ws f
structure AY(t:Nat)(c:AD):Prop where
 m1:64≤c.AJ
 m2:c.AJ≤300
 w1:16≤c.AF
 w2:c.AF≤1024
 ks:c.ks.length=16
 closed:c.closed≤10
 code:c.code≤4611686018427387903
 AI:DK c.AI 4611686018427387904
 gm:c.AI.AL=8
 ws:Dd c.AF c.ws
 rl:c.rs.length=4
 rs:∀k,k<4→Fo c.AF t (c.r k)
 fl:c.Aa.length≤10
 An:∀p,p∈c.Aa∨p∈c.lost→VV c.next c.now c.ws p
 cnt:c.Aa.length+c.lost.length≤c.next
 nx:c.next≤20*t
 nw:c.now≤t
 wt:c.waits≤8
 lg:c.BF≤c.next
theorem AY.mono{t t':Nat}{c:AD}(h:AY t c)(ht:t≤t'):AY t' c:=
 {h with rs:=fun k hk=>(h.rs k hk).mono ht,nx:=by have:=h.nx;omega,nw:=by have:=h.nw;omega}
theorem SD{AF:Nat}:CJ AF Ab:=⟨c_ _,.of,rfl,rfl,.of,rfl,rfl,c_ _,c_ _,c_ _⟩
theorem Qv{AF t:Nat}:Fo AF t FD:=⟨.of,rfl,rfl,c_ _,c_ _,(fun n h=>absurd h (kq n)),(fun _=>rfl),c_ _,c_ _,c_ _,c_ _,(fun h=>absurd h Cc)⟩
theorem Ih{P:Nat→Prop}(h0:P 0)(h1:P 1)(h2:P 2)(h3:P 3)(k:Nat)(hk:k<4):P k:=by
 match k,hk with
 |0,_=>exact h0
 |1,_=>exact h1
 |2,_=>exact h2
 |3,_=>exact h3
theorem AY.new{AJ AF:Nat}{ks:List UInt8}{first:Bool}(h1:64≤AJ)(h2:AJ≤300)(h3:16≤AF)(h4:AF≤1024)(hk:ks.length=16):AY 0 (.new AJ AF ks first):=
 ⟨h1,h2,h3,h4,hk,c_ _,c_ _,.of,rfl,⟨rfl,Ih SD SD SD SD⟩,rfl,Ih Qv Qv Qv Qv,c_ _,(fun p h=>by rcases h with h|h<;>cases h),c_ _,c_ _,c_ _,c_ _,c_ _⟩
theorem AY.Xw{t:Nat}{c:AD}(h:AY t c){ws:List AR}(hw:Dd c.AF ws)(hf:∀f,EC c.ws f→EC ws f):AY t {c with ws:=ws}:=
 {h with ws:=hw,An:=fun p hp=>let g:=h.An p hp;⟨g.num,g.at_,g.len,fun f hfr=>hf f (g.fr f hfr)⟩}
theorem EC.set{ws:List AR}{k:Nat}{w:AR}(hb:(ws.getD k Ab).b.length≤w.b.length)(f:AM)(h:EC ws f):EC (ws.set k w) f:=by
 refine⟨h.1,h.2.1,fun hk=>?_⟩
 have:=h.2.2 hk
 rw [Bs];split
 ·rename_i e;rw [e.1]at hb;omega
 ·exact this
theorem AY.Bm{t:Nat}{c:AD}(h:AY t c){k:Nat}{w:AR}(hw:CJ c.AF w)(hb:(c.w k).b.length≤w.b.length):AY t (c.Bm k w):=
 h.Xw (h.ws.set hw) (EC.set hb)
theorem AY.BV{t:Nat}{c:AD}(h:AY t c){k:Nat}{r:Bf}(hr:Fo c.AF t r):AY t (c.BV k r):=by
 refine {h with rl:=by show(c.rs.set k r).length=4;rw [ki];exact h.rl,rs:=fun j hj=>?_};show Fo c.AF t ((c.rs.set k r).getD j FD);rw [Bs];split
 ·exact hr
 ·exact h.rs j hj
theorem RW{c:AD}{k:Int}(h:c.stream k=0):c.closed=0∧0≤k∧k.toNat<4:=by
 unfold AD.stream at h;split at h
 ·cases h
 split at h
 ·cases h
 ·rename_i h1 h2;refine⟨by simpa using h1,?_,?_⟩<;>omega
theorem Ul{c:AD}{k:Int}(h:c.EP k=0):c.stream k=0∧(c.w k.toNat).finished=false∧(c.w k.toNat).given=false:=by
 unfold AD.EP at h;split at h
 ·rename_i h1;exact absurd h h1
 split at h
 ·cases h
 ·rename_i h1 h2;refine⟨by simpa using h1,?_,?_⟩<;>simp_all
theorem CJ.write{AF:Nat}{w:AR}(h:CJ AF w)(n:Nat)(xs:List UInt8)(hn:n≤AF-(w.b.length-w.A0))(hn2:n≤4096-w.b.length):CJ AF {w with b:=w.b++xs.take n}:=by
 have hl:(w.b++xs.take n).length≤w.b.length+n:=by simp;omega
 have h1:=h.NV;have h2:=h.len;have h3:=h.room;have hp:w.A0≤({w with b:=w.b++xs.take n}:AR).A0:=Rb h.co.inc h.co.inc (fun r hr=>by have:=h.co.hi r hr;show r.hi<(w.b++xs.take n).length;simp;omega) (fun _ h=>h);refine⟨by show(w.b++xs.take n).length≤_;omega,h.so.mono Ce,h.sf,h.sm,h.co.mono Ce,h.cf,h.cm,?_,kj h.high Ce,h.code⟩;show(w.b++xs.take n).length≤_;omega
theorem AY.write{t:Nat}{c:AD}(h:AY t c)(k:Int)(xs:List UInt8):AY t (c.write k xs).2:=by
 unfold AD.write;split
 ·exact h
 ·rename_i h1;obtain⟨h2,h3,h4⟩:=Ul (by simpa using h1:c.EP k=0);obtain⟨h5,h6,h7⟩:=RW h2;refine h.Bm (CJ.write (h.ws.ok _ h7) _ _ ?_ ?_) Ce
  ·show min (min _ _) _≤_;exact kj Wk Wk
  ·show min (min _ _) _≤_;exact kj Wk (Nat.min_le_right _ _)
theorem AY.finish{t:Nat}{c:AD}(h:AY t c)(k:Int):AY t (c.finish k).2:=by
 unfold AD.finish;split
 ·exact h
 ·rename_i h1;obtain⟨h2,h3,h4⟩:=Ul (by simpa using h1:c.EP k=0);obtain⟨h5,h6,h7⟩:=RW h2;have g:=h.ws.ok _ h7;exact h.Bm ⟨g.len,g.so,g.sf,g.sm,g.co,g.cf,g.cm,g.room,g.high,g.code⟩ CW
theorem AY.giveUp{t:Nat}{c:AD}(h:AY t c)(k:Int)(code:Nat):AY t (c.giveUp k code).2:=by
 unfold AD.giveUp;split
 ·exact h
 split
 ·exact h
 ·rename_i h1 h2;obtain⟨h5,h6,h7⟩:=RW (by simpa using h1:c.stream k=0);have g:=h.ws.ok _ h7;exact h.Bm ⟨g.len,g.so,g.sf,g.sm,g.co,g.cf,g.cm,g.room,g.high,by show code≤_;omega⟩ CW
theorem AY.close{t:Nat}{c:AD}(h:AY t c)(code:Nat):AY t (c.close code).2:=by
 unfold AD.close;split
 ·exact h
 split
 ·exact h
 ·exact {h with closed:=by show 9≤10;omega,code:=by show code≤_;omega}
theorem AY.Eg{t:Nat}{c:AD}(h:AY t c)(lost:DR→Bool):AY t (c.Eg lost):=by
 obtain⟨a,b,_⟩:=NU (c.Aa.filter lost) c.ws h.ws (fun p hp f hf=>(h.An p Og).fr f hf)
 have hl:(c.Aa.filter (fun p=> !lost p)).length+(c.Aa.filter lost).length=c.Aa.length:=by
  clear a b
  induction c.Aa with
  |nil=>rfl
  |cons p ps ih=>cases e:lost p<;>simp [e]<;>omega
 refine {h with ws:=a,fl:=by show(c.Aa.filter _).length≤10;have:=h.fl;omega,An:=fun p hp=>?_,cnt:=?_}
 ·have hp':p∈c.Aa∨p∈c.lost:=by
   rcases hp with hp|hp
   ·exact M3
   ·rcases i_.1 hp with hp|hp
    ·exact .inr hp
    ·exact M3
  have g:=h.An p hp';exact⟨g.num,g.at_,g.len,fun f hf=>(g.fr f hf).same b⟩
 ·show(c.Aa.filter _).length+(c.lost++c.Aa.filter lost).length≤c.next
  have:=h.cnt
  rw [a_];omega
theorem AY.tick{t:Nat}{c:AD}(h:AY t c):AY (t+1) c.tick:=by
 have h1:AY (t+1) {c with now:=c.now+1}:=
  {h.mono EN with nw:=by have:=h.nw;show c.now+1≤t+1;omega,An:=fun p hp=>let g:=h.An p hp;⟨g.num,li g.at_,g.len,g.fr⟩}
 unfold AD.tick;split
 ·exact {h1.Eg _ with wt:=by show min (c.waits+1) 8≤8;omega}
 ·exact h1
theorem AY.CE{t:Nat}{c:AD}(h:AY t c)(l:List AT)(hl:(rg l 0).hi<c.next):AY t (c.CE l)∧Fr c.ws (c.CE l).ws∧
  ∀k n,Ao n ((c.CE l).w k).AE.l↔Ao n (c.w k).AE.l∨∃p,(p∈c.lost∨p∈c.Aa)∧A6 l p.number=true∧E8 p.Ag k n:=by
 obtain⟨a,b,e⟩:=LI (l:=l) c.lost c.ws h.ws (fun p hp f hf=>(h.An p LX).fr f hf);obtain⟨a',b',e'⟩:=LI (l:=l) c.Aa _ a (fun p hp f hf=>((h.An p Ii).fr f hf).same b);refine⟨{h with ws:=a',fl:=kj (ko _ _) h.fl,An:=fun p hp=>?_,cnt:=?_,wt:=?_,lg:=?_},b.trans b',fun k n=>?_⟩
 ·have hp':p∈c.Aa∨p∈c.lost:=by
   rcases hp with hp|hp
   ·exact M3
   ·exact .inr (lu.1 hp).1
  have g:=h.An p hp';exact⟨g.num,g.at_,g.len,fun f hf=>(g.fr f hf).same (b.trans b')⟩
 ·have h1:=ko (fun p:DR=> !A6 l p.number) c.Aa;have h2:=ko (fun p:DR=> !A6 l p.number) c.lost
  have:=h.cnt
  show(c.Aa.filter _).length+(c.lost.filter _).length≤c.next;omega
 ·show(if _ then 0 else c.waits)≤8;split
  ·omega
  ·exact h.wt
 ·show max c.BF (rg l 0).hi≤c.next
  have:=h.lg;omega
 ·have:=e' k n
  rw [show((c.CE l).w k)=(c.Aa.foldl (Hv l) (c.lost.foldl (Hv l) c.ws)).getD k Ab from rfl,this,e k n];constructor
  ·rintro((g|⟨p,hp,g⟩)|⟨p,hp,g⟩)
   ·exact .inl g
   ·exact .inr ⟨p,.inl hp,g⟩
   ·exact .inr ⟨p,.inr hp,g⟩
  ·rintro(g|⟨p,hp|hp,g⟩)
   ·exact .inl (.inl g)
   ·exact .inl (.inr ⟨p,hp,g⟩)
   ·exact .inr ⟨p,hp,g⟩
theorem AY.BM{t:Nat}{c:AD}(h:AY t c)(l:List AT):AY t (c.BM l).2:=by
 unfold AD.BM;split
 ·exact h
 ·exact(h.CE l Ca).1.Eg _
theorem Fk.refl(r:Bf):Fk r r:=⟨rfl,rfl,id⟩
theorem Fk.trans{a b c:Bf}(h:Fk a b)(g:Fk b c):Fk a c:=⟨g.read.trans h.read,g.state.trans h.state,fun e=>g.given (h.given e)⟩
theorem AY.take{t:Nat}{c:AD}(h:AY t c)(f:AM)(hf:Jj f)(hb:¬c.busy f):AY t (c.take f).2∧(∀k,Fk (c.r k) ((c.take f).2.r k))∧(c.take f).2.AF=c.AF:=by
 have hk4:f.stream.toNat<4:=by have:=hf.1;have:=hf.2.1;omega
 have g:=h.rs _ hk4
 have hset:∀r,Fk (c.r f.stream.toNat) r→∀k,Fk (c.r k) ((c.BV f.stream.toNat r).r k):=by
  intro r hr k;show Fk (c.r k) ((c.rs.set f.stream.toNat r).getD k FD);rw [Bs];split
  ·rename_i e;rw [←e.1];exact hr
  ·exact .refl _
 unfold AD.take;split
 ·refine⟨h.BM _,fun k=>?_,?_⟩
  ·unfold AD.BM;split<;>exact .refl _
  ·unfold AD.BM;split<;>rfl
 split
 ·split
  ·exact⟨h,fun _=>.refl _,rfl⟩
  ·refine⟨h.BV ⟨g.co,g.cf,g.cm,g.rh,g.hw,g.pre,(fun h=>by cases h),g.rt,?_,?_,g.st,fun _=>rfl⟩,hset _ ⟨rfl,rfl,fun _=>rfl⟩,rfl⟩
   ·exact hf.2.2.2.1
   ·show(if _ then _ else _)≤_;split
    ·exact g.code
    ·exact hf.2.2.1
 split
 ·rename_i h5
  obtain⟨a,b⟩:=g.data h.w2 f hf h5 (fun hg=>by
   rcases kr ((c.r f.stream.toNat).read+c.AF) (f.offset+f.data.size)with hlt|hge
   ·exact absurd ⟨h5,hg,hlt⟩ hb
   ·exact hge)
  exact⟨h.BV a,hset _ b,rfl⟩
 split<;>exact⟨h,fun _=>.refl _,rfl⟩
theorem TJ{c:AD}(f:AM):(c.take f).1≤10:=by
 unfold AD.take AD.BM Bf.data
 repeat' split
 all_goals simp
theorem AY.BO{t:Nat}:∀(fs:List AM) (c:AD),AY t c→(∀f∈fs,Jj f∧¬c.busy f)→AY t (c.BO fs).2
 |[],c,h,_=>h
 |f::fs,c,h,hf=>by
  obtain⟨a,b,e⟩:=h.take f (hf f Ce).1 (hf f Ce).2;rw [AD.BO];split
  ·exact {a with closed:=TJ f,code:=by have:=TJ (c:=c) f;show(c.take f).1≤_;omega}
  ·refine AY.BO fs _ {a with} (fun g hg=>⟨(hf g Ci).1,?_⟩);have h2:=(hf g Ci).2;rintro⟨k1,k2,k3⟩;refine h2 ⟨k1,?_,?_⟩
   ·have:=(b g.stream.toNat).given
    cases e:(c.r g.stream.toNat).given
    ·rfl
    ·rw [e]at this
     have:=this rfl
     have k2':((c.take f).2.r g.stream.toNat).given=false:=k2;rw [this]at k2';cases k2'
   ·have h4:((c.take f).2.r g.stream.toNat).read+(c.take f).2.AF<g.offset+g.data.size:=k3;rw [(b g.stream.toNat).read,e]at h4;exact h4
theorem pX(xs:List UInt8):∀(fuel a:Nat) (fs:List AM),xs.length-a≤fuel→Fq xs a=.ok fs→∀f∈fs,CA f:=by
 intro fuel
 induction fuel with
 |zero=>
  intro a fs hl h;rw [Fq,if_neg Ca]at h;cases h;intro f hf;cases hf
 |succ n ih=>
  intro a fs hl h;rw [Fq]at h;split at h
  ·split at h
   ·rename_i f a' e;split at h
    ·split at h
     ·rename_i l e2;cases h;intro g hg;rcases lf.1 hg with rfl|hg
      ·unfold GU at e;split at e
       ·split at e
        ·cases e;assumption
        ·cases e
       ·cases e
      ·exact ih a' l Ca e2 g hg
     ·cases h
    ·cases h
   ·cases h
  ·cases h;intro f hf;cases hf
theorem UN{xs:List UInt8}{fs:List AM}(h:FN xs=.ok fs):∀f∈fs,CA f:=by
 unfold FN at h;split at h
 ·cases h
 ·exact pX xs _ 0 fs CW h
theorem AY.BA{t:Nat}{c:AD}(h:AY t c)(p:List UInt8)(hn:∀n b,B3 c.ks (Ae (!c.first)) p=some (n,b)→n.toNat≤4611686018427387903):AY t (c.BA p).2:=by
 unfold AD.BA;split
 ·exact h
 split
 ·exact h
 ·rename_i number b e;split
  ·exact h
  split
  ·exact {h with closed:=by show 5≤10;omega,code:=by show 5≤_;omega}
  ·rename_i fs e2;split
   ·exact h
   ·rename_i hb;have hg:=h.AI.add number.toNat number.toNat (by have:=hn number b e;omega) (by rw [h.gm];omega);refine AY.BO fs _ {h with AI:=hg.1,gm:=hg.2.trans h.gm} (fun f hf=>⟨.of (UN e2 f hf),fun hbf=>hb ⟨f,hf,hbf⟩⟩)
theorem AY.read{t:Nat}{c:AD}(h:AY t c)(k AL:Int):AY (t+1) (c.read k AL).2:=by
 unfold AD.read;split
 ·exact h.mono EN
 ·rename_i h1;obtain⟨h5,h6,h7⟩:=RW (by simpa using h1:c.stream k=0);have g:=h.rs _ h7
  have g1:Fo c.AF t (c.Dz k.toNat):=by
   unfold AD.Dz;split
   ·rename_i hc;exact⟨g.co,g.cf,g.cm,g.rh,g.hw,g.pre,(fun h=>by rw [hc.1]at h;cases h),g.rt,g.en,g.code,e_ _,fun _=>hc.1⟩
   ·exact g
  generalize hr:c.Dz k.toNat=r at g1⊢;dsimp only
  have ho:(c.r k.toNat).given=true→r.state≠0:=by
   intro hg h0
   have:r.state=(c.Dz k.toNat).state:=by rw [hr]
   unfold AD.Dz at this;split at this
   ·simp at this;omega
   ·rename_i hc;exact hc ⟨hg,this▸h0⟩
  have hgr:r.given=(c.r k.toNat).given:=by
   have:r.given=(c.Dz k.toNat).given:=by rw [hr]
   rw [this];unfold AD.Dz;split<;>rfl
  split
  ·rename_i h0
   have hg:r.given=false:=by
    cases e:r.given
    ·rfl
    ·exact absurd h0 (ho (hgr▸e))
   obtain⟨p1,p2⟩:=LU g1.co.inc g1.rh g1.co.hi
   have p3:=(HS r.AE.l r.read r.high g1.co.inc g1.rh)
   have hn:AD.Gy r AL≤(AV r.read r.high r.AE.l).1-r.read:=Nat.min_le_left _ _;have hl:=g1.len hg;have hw:=g1.hw;have hrh:=g1.rh;have hrt:=g1.rt;have hw2:=h.w2
   have hbase:Fo c.AF (t+1) {r with b:=r.b.drop (AD.Gy r AL),read:=r.read+AD.Gy r AL}:=by
    refine⟨g1.co,g1.cf,g1.cm,by show r.read+AD.Gy r AL≤r.high;omega,by show r.high≤r.read+AD.Gy r AL+c.AF;omega,fun n hnn=>?_,fun _=>?_,by show r.read+AD.Gy r AL≤1024*(t+1);omega,g1.en,g1.code,g1.st,g1.MW⟩
    ·by_cases hq:n<r.read
     ·exact g1.pre n hq
     ·exact p3.2.1 n Ca (by have:n<r.read+AD.Gy r AL:=hnn;omega)
    ·show(r.b.drop _).length=r.high-(r.read+_);rw [kg];omega
   refine(h.mono EN).BV ?_;split
   ·exact⟨hbase.co,hbase.cf,hbase.cm,hbase.rh,hbase.hw,hbase.pre,hbase.len,hbase.rt,hbase.en,hbase.code,by show 1≤2;omega,(fun h=>by cases h)⟩
   ·exact hbase
  ·exact(h.mono EN).BV (g1.mono EN)
theorem P! {xs ys:List UInt8}{a:Nat}(h:xs.drop a=ys)(i:Nat):HF xs (a+i)=(ys.getD i 0).toNat:=by
 subst h;unfold HF;simp only [md,km]
theorem ZI{xs ys:List UInt8}{a:Nat}(h:xs.drop a=ys)(h0:0<ys.length):a+ys.length=xs.length:=by
 subst h;rw [kg]at h0⊢;omega
theorem Ie{xs ys r:List UInt8}{a:Nat}(h:xs.drop a=ys++r):xs.drop (a+ys.length)=r:=by
 rw [←ma,h,List.drop_left]
theorem rQ(n:Nat):0<(AS n).length:=by
 unfold AS
 repeat' split
 all_goals simp
theorem IU{xs r:List UInt8}{a n:Nat}(hn:n≤4611686018427387903)(h:xs.drop a=AS n++r):DP xs a=some (n,a+(AS n).length):=by
 have hb:=P! h;have hl:a+(AS n++r).length=xs.length:=ZI h (by have:=rQ n;rw [a_];omega);rw [a_]at hl;have b0:=hb 0;rw [Nat.add_zero]at b0;unfold AS at hb b0 hl⊢;split at hl
 ·rename_i h1;rw [if_pos h1]at b0⊢;simp at b0 hl⊢
  have e:HF xs a=n:=by omega
  have es:DJ xs a=1:=by unfold DJ;rw [e,show n/64=0 by omega]
  unfold DP;rw [es,if_pos ⟨Ca,Ca⟩];simp [Ib,e];omega
 ·rename_i h1;rw [if_neg h1]at b0 hb⊢;split at hl
  ·rename_i h2;rw [if_pos h2]at b0 hb⊢;have b1:=hb 1;simp at b0 b1 hl⊢
   have e:HF xs a=n/256+64:=by omega
   have es:DJ xs a=2:=by unfold DJ;rw [e,show(n/256+64)/64=1 by omega]
   unfold DP;rw [es,if_pos ⟨Ca,Ca⟩];simp [Ib,e,b1];omega
  ·rename_i h2;rw [if_neg h2]at b0 hb⊢;split at hl
   ·rename_i h3;rw [if_pos h3]at b0 hb⊢;have b1:=hb 1;have b2:=hb 2;have b3:=hb 3;simp at b0 b1 b2 b3 hl⊢
    have e:HF xs a=n/16777216+128:=by omega
    have es:DJ xs a=4:=by unfold DJ;rw [e,show(n/16777216+128)/64=2 by omega]
    unfold DP;rw [es,if_pos ⟨Ca,Ca⟩];simp [Ib,e,b1,b2,b3];omega
   ·rename_i h3;rw [if_neg h3]at b0 hb⊢;have b1:=hb 1;have b2:=hb 2;have b3:=hb 3;have b4:=hb 4;have b5:=hb 5;have b6:=hb 6;have b7:=hb 7;simp at b0 b1 b2 b3 b4 b5 b6 b7 hl⊢
    have e:HF xs a=n/72057594037927936+192:=by omega
    have es:DJ xs a=8:=by unfold DJ;rw [e,show(n/72057594037927936+192)/64=3 by omega]
    unfold DP;rw [es,if_pos ⟨Ca,Ca⟩];simp [Ib,e,b1,b2,b3,b4,b5,b6,b7];omega
theorem Y2{xs r:List UInt8}{a n:Nat}(hn:n<4)(h:xs.drop a=AS n++r):IC xs a=some (n,a+(AS n).length):=by
 unfold IC;rw [IU Ca h];simp [hn]
theorem yI{xs ds r:List UInt8}{a:Nat}(hn:ds.length≤4611686018427387903)(h:xs.drop a=AS ds.length++(ds++r)):Iz xs a=some (ds,a+(AS ds.length).length+ds.length):=by
 unfold Iz;rw [IU hn h];have h2:=Ie h
 have h3:xs.length-(a+(AS ds.length).length)=(ds++r).length:=by rw [←h2,kg]
 rw [a_]at h3;simp only [];rw [if_pos Ca,h2,lw rfl]
def KB(rs:List AT):Nat→Nat→List UInt8
 |_,0=>[]
 |j,n+1=>AS ((rg rs j).lo-(rg rs (j+1)).hi-2)++(AS ((rg rs (j+1)).hi-(rg rs (j+1)).lo)++KB rs (j+1) n)
theorem XH(rs:List AT):∀n j,B5 rs j++KB rs j n=B5 rs (j+n)
 |0,j=>by simp [KB]
 |n+1,j=>by
  have:=XH rs n (j+1)
  rw [show j+1+n=j+(n+1) by omega]at this;rw [←this,KB,B5];simp only [d_]
theorem aC{xs r:List UInt8}{rs:List AT}:∀(n j a:Nat),(∀i,i≤j+n→GH rs i)→xs.drop a=KB rs j n++r→GY xs n (rg rs j).lo a=some ((mf n).map (fun i=>rg rs (j+1+i)),a+(KB rs j n).length)
 |0,j,a,_,_=>by simp [GY,KB]
 |n+1,j,a,hok,h=>by
  have h0:=hok j Ca;have h1:=hok (j+1) Ca;unfold GH at h0 h1;rw [Nat.add_sub_cancel]at h1
  have h12:2≤(rg rs j).lo∧(rg rs (j+1)).hi+2≤(rg rs j).lo:=by
   rcases h1.2.2 with h|h
   ·omega
   ·exact h
  rw [KB,d_,d_]at h;have e1:=IU Ca h;have g1:=Ie h;have e2:=IU Ca g1;have g2:=Ie g1;have ih:=aC n (j+1) _ (fun i hi=>hok i Ca) g2
  have el:(rg rs j).lo-2-((rg rs j).lo-(rg rs (j+1)).hi-2)-((rg rs (j+1)).hi-(rg rs (j+1)).lo)=(rg rs (j+1)).lo:=by omega
  have eh:(rg rs j).lo-2-((rg rs j).lo-(rg rs (j+1)).hi-2)=(rg rs (j+1)).hi:=by omega
  rw [GY,e1];simp only [];rw [e2];simp only [];rw [if_pos Ca,el,ih,eh];simp only [kn.injEq,Prod.mk.injEq];refine⟨?_,by rw [KB,a_,a_];omega⟩;rw [kw,lh,me];refine lj.2 ⟨rfl,k_ fun i _=>?_⟩;simp only [Function.comp];rw [show j+1+1+i=j+1+(i+1) by omega]
theorem sA(rs:List AT):(mf rs.length).map (rg rs)=rs:=by
 apply kv Ce;intro i h1 h2;simp [rg,md,g' h2]
theorem uG{xs r:List UInt8}{rs:List AT}{a:Nat}(hok:F8 rs)(hl:rs.length≤4611686018427387903)
  (h:xs.drop a=AS (rg rs 0).hi++AS (rs.length-1)++AS ((rg rs 0).hi-(rg rs 0).lo)++B5 rs (rs.length-1)++r):
  GO xs a=some (rs,a+(AS (rg rs 0).hi++AS (rs.length-1)++AS ((rg rs 0).hi-(rg rs 0).lo)++B5 rs (rs.length-1)).length):=by
 have hne:0<rs.length:=kf.2 hok.1;have h0:=hok.2 0 hne;unfold GH at h0;have hf:=XH rs (rs.length-1) 0;rw [show B5 rs 0=[]from rfl,lx,Nat.zero_add]at hf;rw [←hf]at h⊢;rw [d_,d_,d_]at h;have e1:=IU Ca h;have g1:=Ie h;have e2:=IU Ca g1;have g2:=Ie g1;have e3:=IU Ca g2;have g3:=Ie g2;have e4:=aC (rs.length-1) 0 _ (fun i hi=>hok.2 i Ca) g3
 have el:(rg rs 0).hi-((rg rs 0).hi-(rg rs 0).lo)=(rg rs 0).lo:=by omega
 unfold GO;rw [e1];simp only [];rw [e2];simp only [];rw [e3];simp only [];rw [if_pos Ca,el,e4];simp only [kn.injEq,Prod.mk.injEq,a_];refine⟨?_,Ca⟩
 conv=>rhs;rw [←sA rs,show rs.length=(rs.length-1)+1 by omega]
 rw [kw,lh,me];refine lj.2 ⟨rfl,k_ fun i _=>?_⟩;simp only [Function.comp];rw [show 0+1+i=i+1 by omega]
def D4(f:AM):AM:=
 if f.kind=1 then⟨1,0,0,0,false,⟨#[]⟩,[]⟩else if f.kind=2 then⟨2,0,0,0,false,⟨#[]⟩,[]⟩
 else if f.kind=3 then⟨3,0,0,0,false,⟨#[]⟩,f.ranges⟩else if f.kind=4 then⟨4,f.stream,f.offset,f.code,false,⟨#[]⟩,[]⟩
 else if f.kind=5 then⟨5,f.stream,f.offset,0,f.fin,f.data,[]⟩else⟨6,0,0,f.code,false,⟨#[]⟩,[]⟩
theorem Tg{f:AM}(h:Dr f.kind):f.kind=1∨f.kind=2∨f.kind=3∨f.kind=4∨f.kind=5∨f.kind=6:=by unfold Dr at h;omega
theorem B_{f:AM}(h:CA f):Ak (D4 f)=Ak f:=by
 rcases Tg h.2.2.2.2.2 with e|e|e|e|e|e<;>simp [D4,Ak,e]
theorem jW{f:AM}(h:CA f):CA (D4 f):=by
 obtain⟨h1,h2,h3,h4,⟨h5,h6⟩,h7⟩:=h;rcases Tg h7 with e|e|e|e|e|e
 ·simp [D4,e,CA,H1,Dr]
 ·simp [D4,e,CA,H1,Dr]
 ·simp [D4,e,CA,H1,Dr,h5 e]
 ·simp [D4,e,CA,H1,Dr];omega
 ·have:=h6 e
  simp [D4,e,CA,H1,Dr];omega
 ·simp [D4,e,CA,H1,Dr];omega
theorem bg{xs r:List UInt8}{f:AM}{a:Nat}(hok:CA f)(hl:f.ranges.length≤4611686018427387903)(h:xs.drop a=Ak f++r):GU xs a=some (D4 f,a+(Ak f).length):=by
 have hno:=jW hok
 suffices hk:CR xs (FE (xs.getD a 0)) (decide (xs.getD a 0=9)) (a+1)=some (D4 f,a+(Ak f).length) by
  unfold GU;rw [hk];simp only [];rw [if_pos hno]
 have hd:∀t ys,Ak f=t::ys→xs.getD a 0=t∧xs.drop (a+1)=ys++r:=by
  intro t ys e;rw [e]at h;constructor
  ·have:(xs.drop a).getD 0 0=t:=by rw [h];rfl
   simpa [md,km]using this
  ·rw [←ma,h];rfl
 obtain⟨h1,h2,h3,h4,⟨h5,h6⟩,h7⟩:=hok;rcases Tg h7 with e|e|e|e|e|e
 ·have ee:Ak f=0:: []:=by simp [Ak,e]
  obtain⟨t1,t2⟩:=hd _ _ ee;rw [t1,ee];simp [CR,FE,D4,e]
 ·have ee:Ak f=1:: []:=by simp [Ak,e]
  obtain⟨t1,t2⟩:=hd _ _ ee;rw [t1,ee];simp [CR,FE,D4,e]
 ·have ee:Ak f=2::(AS (rg f.ranges 0).hi++AS (f.ranges.length-1)++AS ((rg f.ranges 0).hi-(rg f.ranges 0).lo)++B5 f.ranges (f.ranges.length-1)):=by simp [Ak,e,Ku]
  obtain⟨t1,t2⟩:=hd _ _ ee;have er:=uG (h5 e) hl t2;rw [t1,ee,kh];simp only [CR,FE,D4,e];simp only [er]
  simp
  omega
 ·have ee:Ak f=4::(AS f.stream.toNat++AS f.code++AS f.offset):=by simp [Ak,e]
  obtain⟨t1,t2⟩:=hd _ _ ee;rw [d_,d_]at t2;have e1:=Y2 Ca t2;have g1:=Ie t2;have e2:=IU h2 g1;have g2:=Ie g1;have e3:=IU h1 g2;rw [t1,ee,kh,a_,a_];simp only [CR,FE,D4,e];simp only [e1,e2,e3]
  simp
  omega
 ·have hdl:f.data.data.toList.length=f.data.size:=by rw [Array.length_toList];rfl
  have ee:Ak f=(bif f.fin then 9 else 8)::(AS f.stream.toNat++AS f.offset++AS f.data.size++f.data.data.toList):=by simp [Ak,e]
  obtain⟨t1,t2⟩:=hd _ _ ee;rw [d_,d_,d_,←hdl]at t2;have e1:=Y2 Ca t2;have g1:=Ie t2;have e2:=IU h1 g1;have g2:=Ie g1;have h6':=h6 e;have e3:=yI Ca g2
  have hk:FE (bif f.fin then 9 else 8)=5:=by cases f.fin<;>rfl
  have h9:decide ((bif f.fin then(9:UInt8)else 8)=9)=f.fin:=by cases f.fin<;>rfl
  rw [t1,ee,hk,h9,kh,a_,a_,a_];simp only [CR,D4,e];simp only [e1,e2,e3];simp [AW];omega
 ·have ee:Ak f=28::AS f.code:=by simp [Ak,e]
  obtain⟨t1,t2⟩:=hd _ _ ee;have e1:=IU h2 t2;rw [t1,ee,kh];simp only [CR,FE,D4,e];simp only [e1]
  simp
  omega
theorem QF(f:AM):0<(Ak f).length:=by
 unfold Ak
 repeat' split
 all_goals first|simp|(unfold Ku;simp)
theorem YU{xs:List UInt8}:∀(fs:List AM) (a:Nat),(∀f∈fs,CA f∧f.ranges.length≤4611686018427387903)→xs.drop a=Ar fs→Fq xs a=.ok (fs.map D4)
 |[],a,_,h=>by
  have:xs.length≤a:=List.drop_eq_nil_iff.1 h
  exact Xt Ca
 |f::fs,a,hok,h=>by
  have h':xs.drop a=Ak f++Ar fs:=h;have h1:=bg (hok f Ce).1 (hok f Ce).2 h';have hp:=QF f;have hl:=ZI h' Pt;rw [a_]at hl;rw [fD Ca h1,YU fs _ (fun g hg=>hok g Ci) (Ie h')];rfl
theorem UU{fs:List AM}{ys:List UInt8}(he:Fu fs=some ys)(hl:∀f∈fs,f.ranges.length≤4611686018427387903):FN ys=.ok (fs.map D4)∧Fu (fs.map D4)=some ys∧Ar (fs.map D4)=Ar fs:=by
 unfold Fu at he;split at he
 ·rename_i hc;obtain rfl:=kn.inj he
  have hall:∀f∈fs,CA f∧f.ranges.length≤4611686018427387903:=fun f hf=>⟨hc.2 f hf,hl f hf⟩
  have hsame:Ar (fs.map D4)=Ar fs:=by
   unfold Ar;rw [List.flatMap_map];clear he hall hl;obtain⟨-,hc⟩:=hc
   induction fs with
   |nil=>rfl
   |cons f fs ih=>simp only [ll];rw [B_ (hc f Ce),ih (fun g hg=>hc g Ci)]
  have hne:Ar fs≠ []:=by
   cases fs with
   |nil=>exact absurd rfl hc.1
   |cons f fs=>
    intro h;have hp:=QF f
    have:(Ak f++Ar fs).length=0:=by rw [show Ak f++Ar fs=Ar (f::fs)from rfl,h];rfl
    rw [a_]at this;omega
  refine⟨?_,?_,hsame⟩
  ·unfold FN;rw [if_neg hne];exact YU fs 0 hall rfl
  ·unfold Fu
   rw [if_pos ⟨by simpa using hc.1,fun g hg=>by
    obtain⟨f,hf,rfl⟩:=List.mem_map.1 hg
    exact jW (hc.2 f hf)⟩,hsame]
 ·cases he
theorem Mh(l m:List AM):Ar (l++m)=Ar l++Ar m:=by simp [Ar]
theorem Kb(f:AM):Ar [f]=Ak f:=by simp [Ar]
theorem N0(l:List AM):l.length≤(Ar l).length:=by
 induction l with
 |nil=>simp
 |cons f l ih=>have:=QF f;simp only [Ar,ll,a_,kh]at*;omega
structure Eu(ws:List AR)(f:AM):Prop where
 ok:CA f
 nm:D4 f=f
 fr:EC ws f
 rg:f.ranges.length≤8
structure I8(ws:List AR)(d:BK):Prop where
 room:d.room≤284
 len:d.b.length≤d.room
 fr:∀f∈d.Ag,Eu ws f
structure IV(w w':AR):Prop where
 b:w'.b=w.b
 AE:w'.AE=w.AE
 finished:w'.finished=w.finished
 ended:w'.ended=w.ended
 given:w'.given=w.given
 code:w'.code=w.code
 high:w.high≤w'.high
theorem IV.refl(w:AR):IV w w:=XU
theorem IV.trans{a b c:AR}(h:IV a b)(g:IV b c):IV a c:=
 ⟨g.b.trans h.b,g.AE.trans h.AE,g.finished.trans h.finished,g.ended.trans h.ended,g.given.trans h.given,g.code.trans h.code,kj h.high g.high⟩
def HT(w w':AR)(k:Nat)(f:AM):Prop:=
 (w.given=true∧w.BG=false∧f=HL k w.code w.high∧w'={w with BG:=true})∨
 (w.given=false∧∃lo hi,lo≤hi∧hi≤w.b.length∧f=Bw k lo (w.finished&&decide (hi=w.b.length)) (cut w.b lo hi)∧(lo<hi∨f.fin=true)∧
  (∀n,lo≤n→n<hi→¬Ao n w.AO.l)∧(lo=hi→w.ending=false∧w.ended=false)∧
  w'={w with AO:=if lo<hi then w.AO.add lo (hi-1)else w.AO,ending:=w.ending||f.fin,high:=max w.high hi})
theorem I3{b:List UInt8}{lo hi:Nat}(h:hi≤b.length):(cut b lo hi).length=hi-lo:=by unfold cut;simp;omega
theorem kD{AF:Nat}{w w':AR}{d d':BK}{k lo hi:Nat}(hlo:lo≤hi)(hhi:hi≤w.b.length)(hg:w.given=false)
  (hs:∀n,lo≤n→n<hi→¬Ao n w.AO.l)(he:lo=hi→w.finished=true∧hi=w.b.length∧w.ending=false∧w.ended=false)
  (h:w.I7 d k lo hi=some (w',d')):∃f,d.add f=some d'∧HT w w' k f:=by
 unfold AR.I7 at h;dsimp only at h;split at h
 ·cases h
 ·rename_i hc;split at h
  ·cases h
  ·rename_i d2 e;simp only [kn.injEq,Prod.mk.injEq]at h;obtain⟨rfl,rfl⟩:=h;refine⟨_,e,.inr ⟨hg,lo,_,?_,?_,rfl,?_,?_,?_,rfl⟩⟩
   ·omega
   ·omega
   ·by_cases hl:lo<hi
    ·left;omega
    ·right;obtain⟨h1,h2,_⟩:=he Ca
     have:min hi (lo+(d.room-d.b.length-((Ak (Bw k lo false (cut w.b lo hi))).length-(hi-lo))))=w.b.length:=by omega
     show(w.finished&&decide _)=true;rw [h1,this];simp
   ·intro n h1 h2;exact hs n h1 Ca
   ·intro h1;by_cases hl:lo<hi
    ·omega
    ·exact(he Ca).2.2
theorem SS{AF:Nat}{w w':AR}{d d':BK}{k:Nat}(hw:CJ AF w)(h:w.fill d k=some (w',d')):∃f,d.add f=some d'∧HT w w' k f:=by
 unfold AR.fill at h;split at h
 ·rename_i hg;split at h
  ·cases h
  ·rename_i ht;split at h
   ·cases h
   ·rename_i d2 e;simp only [kn.injEq,Prod.mk.injEq]at h;obtain⟨rfl,rfl⟩:=h;exact⟨_,e,.inl ⟨hg,WC,rfl,rfl⟩⟩
 ·rename_i hg;obtain⟨ga,gb,gc,gd,ge⟩:=HS w.AO.l 0 w.b.length hw.so.inc EX;split at h
  ·split at h
   ·cases h
   ·rename_i h1 h2;exact kD (AF:=AF) CW CW WD (fun n h3 h4=>by omega) (fun _=>⟨by simp_all,rfl,by simp_all,by simp_all⟩) h
  ·rename_i h1;exact kD (AF:=AF) Ca gc WD (gd Ca) (fun h=>by omega) h
theorem R_(rs:List AT):D4 (BT rs)=BT rs:=by rfl
theorem Ld(k off:Nat)(fin:Bool)(ds:List UInt8):(Bw k off fin ds).data.size=ds.length:=by simp [Bw]
theorem Vr{k off:Nat}{fin:Bool}{ds:List UInt8}(hk:k<4)(h:off+ds.length≤4611686018427387903):CA (Bw k off fin ds):=by
 refine⟨by show off≤_;omega,c_ _,RQ,SH,⟨(fun h=>by cases h),fun _=>?_⟩,⟨by show(1:Int)≤5;omega,by show(5:Int)≤6;omega⟩⟩;rw [Ld];show ds.length+off≤_;omega
theorem eK{k code off:Nat}(hk:k<4)(hc:code≤4611686018427387903)(ho:off≤4611686018427387903):CA (HL k code off):=
 ⟨ho,hc,RQ,SH,⟨(fun h=>by cases h),(fun h=>by cases h)⟩,⟨by show(1:Int)≤4;omega,by show(4:Int)≤6;omega⟩⟩
theorem nU{code:Nat}(hc:code≤4611686018427387903):CA (ED code):=
 ⟨c_ _,hc,by show(0:Int)≤0;omega,by show(0:Int)<4;omega,⟨(fun h=>by cases h),(fun h=>by cases h)⟩,⟨by show(1:Int)≤6;omega,by show(6:Int)≤6;omega⟩⟩
theorem gT{rs:List AT}(h:F8 rs):CA (BT rs):=
 ⟨c_ _,c_ _,by show(0:Int)≤0;omega,by show(0:Int)<4;omega,⟨fun _=>h,(fun h=>by cases h)⟩,⟨by show(1:Int)≤3;omega,by show(3:Int)≤6;omega⟩⟩
theorem HT.AO{AF:Nat}{w w':AR}{k:Nat}{f:AM}(hw:CJ AF w)(h:HT w w' k f):IV w w'∧CJ AF w':=by
 rcases h with⟨h1,h2,rfl,rfl⟩|⟨h1,lo,hi,h2,h3,rfl,h4,h5,h6,rfl⟩
 ·exact⟨XU,⟨hw.len,hw.so,hw.sf,hw.sm,hw.co,hw.cf,hw.cm,hw.room,hw.high,hw.code⟩⟩
 ·refine⟨⟨rfl,rfl,rfl,rfl,rfl,rfl,ly _ _⟩,?_⟩
  have hs:DK (if lo<hi then w.AO.add lo (hi-1)else w.AO) w.b.length∧(if lo<hi then w.AO.add lo (hi-1)else w.AO).floor=0∧(if lo<hi then w.AO.add lo (hi-1)else w.AO).AL=4096:=by
   split
   ·obtain⟨a,b,c,_⟩:=IR (lo:=lo) (hi:=hi-1) hw.so hw.sf hw.sm hw.len Ca;exact⟨a,b,c⟩
   ·exact⟨hw.so,hw.sf,hw.sm⟩
  exact⟨hw.len,hs.1,hs.2.1,hs.2.2,hw.co,hw.cf,hw.cm,hw.room,by have:=hw.high;show max w.high hi≤w.b.length;omega,hw.code⟩
theorem HT.put{AF:Nat}{ws:List AR}{w':AR}{k:Nat}{f:AM}(hw:Dd AF ws)(hk:k<4)(h:HT (ws.getD k Ab) w' k f):Eu ws f∧(f.kind=4∨f.kind=5):=by
 have g:=hw.ok k hk;rcases h with⟨h1,h2,rfl,rfl⟩|⟨h1,lo,hi,h2,h3,rfl,h4,h5,h6,rfl⟩
 ·have hh:=g.high;have hl:=g.len;exact⟨⟨eK hk g.code Ca,rfl,⟨RQ,SH,(fun h=>by cases h)⟩,c_ _⟩,.inl rfl⟩
 ·have hl:=g.len;have hcl:=I3 (lo:=lo) h3;refine⟨⟨Vr hk Ca,rfl,⟨RQ,SH,fun _=>?_⟩,c_ _⟩,.inr rfl⟩;rw [Ld,hcl];show lo+(hi-lo)≤(ws.getD (k:Int).toNat Ab).b.length;rw [kt];omega
theorem Eu.AO{ws:List AR}{k:Nat}{w':AR}{f:AM}(h:Eu ws f)(hs:IV (ws.getD k Ab) w'):Eu (ws.set k w') f:=
 ⟨h.ok,h.nm,EC.set (by rw [hs.b];exact e_ _) f h.fr,h.rg⟩
theorem Qj{d d':BK}{f:AM}(h:d.add f=some d'):d'.Ag=d.Ag++[f]∧d'.room=d.room∧d'.b=d.b++Ak f∧d'.b.length≤d.room:=by
 unfold BK.add at h;split at h
 ·cases h
 ·rename_i hc;cases h;refine⟨rfl,rfl,?_,?_⟩
  ·show Ar (d.Ag++[f])=_;rw [Mh,Kb];rfl
  ·have:({d with Ag:=d.Ag++[f]}:BK).b=d.b++Ak f:=by show Ar (d.Ag++[f])=_;rw [Mh,Kb];rfl
   rw [this];omega
theorem VY{AF:Nat}{ws:List AR}{w':AR}{d d':BK}{k:Nat}(hw:Dd AF ws)(hd:I8 ws d)(hk:k<4)(h:(ws.getD k Ab).fill d k=some (w',d')):
  Dd AF (ws.set k w')∧I8 (ws.set k w') d'∧d'.room=d.room∧d.b.length<d'.b.length∧IV (ws.getD k Ab) w'∧
  ∃f,d'.Ag=d.Ag++[f]∧HT (ws.getD k Ab) w' k f∧(f.kind=4∨f.kind=5):=by
 obtain⟨f,h1,h2⟩:=SS (hw.ok k hk) h;obtain⟨h3,h4⟩:=h2.AO (hw.ok k hk);obtain⟨h5,h6⟩:=h2.put hw hk;obtain⟨a,b,c,e⟩:=Qj h1;refine⟨hw.set h4,⟨by rw [b];exact hd.room,by rw [b];exact e,fun g hg=>?_⟩,b,?_,h3,f,a,h2,h6⟩
 ·rw [a]at hg;rcases i_.1 hg with hg|hg
  ·exact(hd.fr g hg).AO h3
  ·rw [f_.1 hg];exact h5.AO h3
 ·rw [c,a_];have:=QF f;omega
theorem W2{k:Nat}(Φ:AR→BK→Prop)(hstep:∀w d w' d',Φ w d→w.fill d k=some (w',d')→Φ w' d'):∀(n:Nat) (w:AR) (d:BK),Φ w d→Φ (Dj k n w d).1 (Dj k n w d).2
 |0,w,d,h=>h
 |n+1,w,d,h=>by
  rw [Dj];split
  ·exact h
  ·rename_i w2 d2 e;exact W2 Φ hstep n w2 d2 (hstep _ _ _ _ h e)
theorem set_set{α:Type}(l:List α)(k:Nat)(x y:α):(l.set k x).set k y=l.set k y:=by simp
theorem Q0(ws:List AR)(k:Nat):ws.set k (ws.getD k Ab)=ws:=by
 apply List.ext_getElem?;intro i;rw [List.getElem?_set];by_cases h:k=i
 ·subst h;by_cases h2:k<ws.length
  ·simp [h2]
  ·simp [h2]
 ·simp [h]
theorem SE(Φ:List AR→BK→Prop)(hl:∀ws d,Φ ws d→ws.length=4)(hstep:∀ws d k w' d',Φ ws d→k<4→(ws.getD k Ab).fill d k=some (w',d')→Φ (ws.set k w') d'):
  ∀(n k:Nat) (ws:List AR) (d:BK),k+n≤4→Φ ws d→Φ (C7 d ws k n).1 (C7 d ws k n).2
 |0,k,ws,d,_,h=>h
 |n+1,k,ws,d,hk,h=>by
  rw [C7];refine SE Φ hl hstep n (k+1) _ _ Ca ?_
  have:=W2 (k:=k) (fun w d=>Φ (ws.set k w) d) (fun w d w' d' h1 h2=>?_) (d.room+1) (ws.getD k Ab) d (by rw [Q0];exact h)
  ·exact this
  ·have h3:=hl _ _ h1
   have h4:(ws.set k w).getD k Ab=w:=by rw [Bs,if_pos ⟨rfl,by rw [ki]at h3;omega⟩]
   have h5:=hstep (ws.set k w) d k w' d' h1 Ca (by rw [h4];exact h2);rw [set_set]at h5;exact h5
structure Told(l:List AT):Prop where
 p:l.Pairwise (fun a b=>b.hi+2≤a.lo)
 r:∀r∈l,r.lo≤r.hi∧r.hi≤4611686018427387903
theorem Told.nil:Told []:=⟨.nil,fun _ h=>nomatch h⟩
theorem Told.take{l:List AT}(h:Told l)(n:Nat):Told (l.take n):=⟨h.p.sublist (List.take_sublist n l),fun r hr=>h.r r U0⟩
theorem Told.drop{l:List AT}(h:Told l)(n:Nat):Told (l.drop n):=⟨h.p.sublist (List.drop_sublist n l),fun r hr=>h.r r SQ⟩
theorem Qz{l:List AT}{i:Nat}(h:i<l.length):rg l i=l[i]:=by
 unfold rg;rw [b_,g' h,ln]
theorem Told.F8{l:List AT}(h:Told l)(hne:l≠ []):F8 l:=by
 refine⟨hne,fun i hi=>?_⟩;have h1:=h.r (rg l i) (by rw [Qz hi];exact lq hi);refine⟨h1.1,h1.2,?_⟩;by_cases h0:i=0
 ·exact .inl h0
 ·right;have h2:=List.pairwise_iff_getElem.1 h.p (i-1) i Ca hi Ca;rw [Qz hi,Qz (show i-1<l.length by omega)];exact⟨Ca,h2⟩
theorem aF:∀(l:List AT),Es l→l.Pairwise (fun a b=>a.hi+2≤b.lo)
 |[],_=>.nil
 |r::l,h=>List.Pairwise.cons (fun s hs=>by have:=h.2.1 s hs;omega) (aF l h.2.2)
theorem NX:∀(l:List AT),Es l→∀r∈l,r.lo≤r.hi
 |[],_,r,hr=>nomatch hr
 |s::l,h,r,hr=>by
  rcases lf.1 hr with rfl|hr
  ·exact h.1
  ·exact NX l h.2.2 r hr
theorem Told.of{s:BD}(h:DK s 4611686018427387904):Told s.l.reverse:=
 ⟨List.pairwise_reverse.2 (aF _ h.inc),fun r hr=>by
  have hr':=List.mem_reverse.1 hr
  have:=h.hi r hr'
  exact⟨NX _ h.inc r hr',Ca⟩⟩
theorem jJ(told:List AT)(room:Nat):∀n,DZ told room n≤n
 |0=>e_ _
 |1=>e_ _
 |n+2=>by
  rw [DZ];split
  ·have:=jJ told room (n+1);omega
  ·exact e_ _
theorem NK(told:List AT)(room:Nat):∀n,0<n→0<DZ told room n
 |0,h=>h
 |1,_=>Nat.one_pos
 |n+2,_=>by
  rw [DZ];split
  ·exact NK told room (n+1) Ca
  ·omega
theorem YR(told:List AT)(room:Nat):∀n,DZ told room n≤1∨(Ak (BT (told.take (DZ told room n)))).length≤room
 |0=>.inl EX
 |1=>.inl CW
 |n+2=>by
  rw [DZ];split
  ·exact YR told room (n+1)
  ·rename_i h;right;omega
theorem G? (r:AT):(Ak (BT [r])).length≤26:=by
 have v1:=C5 r.hi;have v2:=C5 0;have v3:=C5 (r.hi-r.lo)
 have:Ak (BT [r])=[2]++AS r.hi++AS 0++AS (r.hi-r.lo)++[]:=by rfl
 rw [this];simp only [a_,kh,lz];omega
theorem ib{l:List AT}(h:0<l.length):∃r,l.take 1=[r]:=by
 cases l with
 |nil=>cases h
 |cons r l=>exact⟨r,rfl⟩
theorem Zz{c:AD}{t:Nat}(h:AY t c){told:List AT}(hne:told≠ []):(Ak (BT (told.take (DZ told (c.AJ-16) told.length)))).length≤c.AJ-16:=by
 have hl:0<told.length:=kf.2 hne;rcases YR told (c.AJ-16) told.length with h1|h1
 ·have h2:=NK told (c.AJ-16) told.length hl
  have h3:DZ told (c.AJ-16) told.length=1:=by omega
  rw [h3];obtain⟨r,e⟩:=ib hl;rw [e]
  have:=G? r
  have:=h.m1
  omega
 ·exact h1
theorem KL{c:AD}{t:Nat}(h:AY t c){told:List AT}(ht:Told told)(hl:told.length≤8):I8 c.ws (c.Bt told):=by
 have hm2:=h.m2;refine⟨by show c.AJ-16≤284;omega,?_,?_⟩
 ·show(Ar _).length≤c.AJ-16;unfold AD.Bt;dsimp only;split
  ·exact Om
  ·rename_i hne;rw [Kb];exact Zz h hne
 ·intro f hf;unfold AD.Bt at hf;dsimp only at hf;split at hf
  ·cases hf
  ·rename_i hne;rw [f_.1 hf];have h1:0<told.length:=kf.2 hne;have h2:=NK told (c.AJ-16) told.length h1;refine⟨gT ((ht.take _).F8 ?_),R_ _,⟨by show(0:Int)≤0;decide,by show(0:Int)<4;decide,(fun h=>by cases h)⟩,?_⟩
   ·intro h3;have h4:=congrArg List.length h3;rw [kp,lz]at h4;omega
   ·show(told.take _).length≤8;rw [kp];omega
structure Ho(AF:Nat)(ws0:List AR)(d0:BK)(ws:List AR)(d:BK):Prop where
 Ey:Dd AF ws
 HV:I8 ws d
 room:d.room=d0.room
 AO:∀k,IV (ws0.getD k Ab) (ws.getD k Ab)
 Ag:∃l,d.Ag=d0.Ag++l∧∀f∈l,f.kind=4∨f.kind=5
theorem Ho.refl{AF:Nat}{ws:List AR}{d:BK}(hw:Dd AF ws)(hd:I8 ws d):Ho AF ws d ws d:=
 ⟨hw,hd,rfl,fun k=>.refl _,[],(g_ _).symm,fun _ h=>nomatch h⟩
theorem Ho.step{AF:Nat}{ws0:List AR}{d0:BK}{ws:List AR}{d:BK}(h:Ho AF ws0 d0 ws d){k:Nat}{w':AR}{d':BK}(hk:k<4)
  (e:(ws.getD k Ab).fill d k=some (w',d')):Ho AF ws0 d0 (ws.set k w') d'∧d.b.length<d'.b.length:=by
 obtain⟨h1,h2,h3,h4,h5,f,h6,h7,h8⟩:=VY h.Ey h.HV hk e;refine⟨⟨h1,h2,h3.trans h.room,fun j=>?_,?_⟩,h4⟩
 ·rw [Bs];split
  ·rename_i e2;exact(h.AO j).trans (by rw [←e2.1];exact h5)
  ·exact h.AO j
 ·obtain⟨l,e1,e2⟩:=h.Ag;refine⟨l++[f],by rw [h6,e1,d_],fun g hg=>?_⟩;rcases i_.1 hg with hg|hg
  ·exact e2 g hg
  ·rw [f_.1 hg];exact h8
theorem zM{AF:Nat}{ws:List AR}{d:BK}(hw:Dd AF ws)(hd:I8 ws d):Ho AF ws d (C7 d ws 0 4).1 (C7 d ws 0 4).2:=
 SE (Ho AF ws d) (fun ws' d' h=>h.Ey.len) (fun ws' d' k w' d2 h hk e=>(h.step hk e).1) 4 0 ws d CW (.refl hw hd)
def A4.mu(z:A4):Nat:=z.told.length+(10-z.c.Aa.length)
structure Bx(t:Nat)(z:A4):Prop where
 c:AY t z.c
 told:Told z.told
 tl:z.told.length≤8
 nx:z.c.next+z.mu≤20*t
theorem Bx.filled{t:Nat}{z:A4}(h:Bx t z):Ho z.c.AF z.c.ws (z.c.Bt z.told) z.filled.1 z.filled.2:=by
 unfold A4.filled;split
 ·exact zM h.c.ws (KL h.c h.told h.tl)
 ·exact .refl h.c.ws (KL h.c h.told h.tl)
theorem Bx.stop{t:Nat}{z:A4}(h:Bx t z):AY t {z.c with ws:=z.filled.1}:=by
 have hf:=h.filled
 exact h.c.Xw hf.Ey fun f hfr=>⟨hfr.1,hfr.2.1,fun hk=>by
  have:=hfr.2.2 hk
  rw [(hf.AO f.stream.toNat).b];exact this⟩
theorem uZ(c:AD):(c.Bt []).Ag=[]:=rfl
theorem OE(c:AD){told:List AT}(h:told≠ []):(c.Bt told).Ag=[BT (told.take (DZ told (c.AJ-16) told.length))]:=by
 unfold AD.Bt;rw [if_neg h]
theorem Yr(c:AD)(told:List AT):DE (c.Bt told).Ag=false:=by
 unfold AD.Bt;dsimp only;split
 ·rfl
 ·rfl
theorem Bx.XX{t:Nat}{z:A4}(h:Bx t z)(hw:DE z.filled.2.Ag=true):z.c.Aa.length<10:=by
 by_cases hc:z.c.Aa.length<10
 ·exact hc
 ·exfalso
  have:z.filled=(z.c.ws,z.c.Bt z.told):=by unfold A4.filled;rw [if_neg hc]
  rw [this,Yr]at hw;cases hw
theorem rI(l:List AM):l.length≤(Ar l).length:=N0 l
theorem Bx.step{t:Nat}{z:A4}(h:Bx t z)(hne:z.filled.2.Ag≠ []):Bx t z.step∧z.step.mu<z.mu:=by
 have hf:=h.filled;have hs:=h.stop;have hc:=h.c
 have hmu:z.step.mu+1≤z.mu:=by
  have htl:z.step.told.length+(if z.told=[]then 0 else 1)≤z.told.length:=by
   show(z.told.drop _).length+_≤_;rw [kg];split
   ·omega
   ·rename_i h1;have h2:=kf.2 h1;have h3:=NK z.told (z.c.AJ-16) z.told.length h2;omega
  unfold A4.mu;by_cases hw:DE z.filled.2.Ag=true
  ·have h10:=h.XX hw
   have hfl:z.step.c.Aa.length=z.c.Aa.length+1:=by
    show(if DE z.filled.2.Ag=true then _ else _:List DR).length=_;rw [if_pos hw,a_];rfl
   rw [hfl];omega
  ·have hfl:z.step.c.Aa.length=z.c.Aa.length:=by
    show(if DE z.filled.2.Ag=true then _ else _:List DR).length=_;rw [if_neg hw]
   have htn:z.told≠ []:=by
    intro h0;obtain⟨l,e1,e2⟩:=hf.Ag;rw [h0,uZ,lx]at e1
    cases hl:l with
    |nil=>rw [hl]at e1;exact hne e1
    |cons f l'=>
     apply hw;rw [e1,hl]
     have:=e2 f (by rw [hl];simp)
     simp only [DE,List.any_cons,Bool.or_eq_true,decide_eq_true_eq]
     left;rcases this with h|h<;>rw [h]<;>decide
   rw [if_neg htn]at htl;rw [hfl];omega
 have hnx:=h.nx
 have hlen:z.filled.2.Ag.length≤284:=by
  have h1:=rI z.filled.2.Ag;have h2:=hf.HV.len;have h3:=hf.HV.room;have h4:z.filled.2.b.length=(Ar z.filled.2.Ag).length:=rfl;omega
 refine⟨⟨?_,h.told.drop _,?_,?_⟩,hmu⟩
 ·by_cases hw:DE z.filled.2.Ag=true
  ·have h10:=h.XX hw
   have e:z.step.c={z.c with ws:=z.filled.1,next:=z.c.next+1,Aa:=z.c.Aa++[⟨z.c.next,z.c.now,z.filled.2.Ag⟩]}:=by
    refine cU ?_;rw [if_pos hw]
   rw [e];refine {hs with fl:=?_,An:=?_,cnt:=?_,nx:=?_,lg:=?_}
   ·show(z.c.Aa++[_]).length≤10;rw [a_];simp only [kx];omega
   ·intro p hp;show VV (z.c.next+1) z.c.now z.filled.1 p
    have old:∀p,p∈z.c.Aa∨p∈z.c.lost→VV (z.c.next+1) z.c.now z.filled.1 p:=fun p hp=>
     let g:=hs.An p hp
     ⟨ku g.num,g.at_,g.len,g.fr⟩
    rcases hp with hp|hp
    ·rcases i_.1 hp with hp|hp
     ·exact old p Ii
     ·rw [f_.1 hp];exact⟨Nat.lt_succ_self _,e_ _,by show z.filled.2.Ag.length≤300;omega,fun f hfr=>(hf.HV.fr f hfr).fr⟩
    ·exact old p LX
   ·show(z.c.Aa++[_]).length+z.c.lost.length≤z.c.next+1
    have:=hc.cnt
    rw [a_];simp only [kx];omega
   ·show z.c.next+1≤20*t;omega
   ·show z.c.BF≤z.c.next+1
    have:=hc.lg;omega
  ·have e:z.step.c={z.c with ws:=z.filled.1,next:=z.c.next+1}:=by
    refine cU ?_;rw [if_neg hw]
   rw [e];refine {hs with An:=?_,cnt:=?_,nx:=?_,lg:=?_}
   ·intro p hp;have g:=hs.An p hp;exact⟨ku g.num,g.at_,g.len,g.fr⟩
   ·show z.c.Aa.length+z.c.lost.length≤z.c.next+1
    have:=hc.cnt;omega
   ·show z.c.next+1≤20*t;omega
   ·show z.c.BF≤z.c.next+1
    have:=hc.lg;omega
 ·show(z.told.drop _).length≤8
  have:=h.tl
  rw [kg];omega
 ·show z.c.next+1+z.step.mu≤20*t;omega
theorem Yk{t:Nat}:∀(n:Nat) (z:A4),Bx t z→z.mu<n→B0 n z=B0 (n+1) z
 |0,z,_,h=>absurd h (kq _)
 |n+1,z,h,hn=>by
  rw [B0]
  conv=>rhs;rw [B0]
  split
  ·rfl
  ·rename_i hne;obtain⟨h1,h2⟩:=h.step hne;exact Yk n _ h1 Ca
theorem pD{t:Nat}{z:A4}(h:Bx t z)(hne:z.filled.2.Ag≠ []):B0 40 z=B0 40 z.step:=by
 obtain⟨h1,h2⟩:=h.step hne
 have hmu:z.mu≤18:=by have:=h.tl;unfold A4.mu;omega
 rw [B0,if_neg hne];exact Yk 39 _ h1 Ca
theorem gh{z:A4}(e:z.filled.2.Ag=[]):B0 40 z={z with c:={z.c with ws:=z.filled.1}}:=by
 rw [B0,if_pos e]
theorem ZJ{t:Nat}:∀(n:Nat) (z:A4),Bx t z→AY t (B0 n z).c
 |0,z,h=>h.c
 |n+1,z,h=>by
  rw [B0];split
  ·exact h.stop
  ·rename_i hne;exact ZJ n _ (h.step hne).1
theorem Bx.begin{t:Nat}{c:AD}(h:AY t c):Bx (t+1) ⟨{c with answer:=false},if c.answer then c.AI.l.reverse else [],[]⟩:=by
 have hn:=h.nx
 have hgl:c.AI.l.length≤8:=by have:=h.AI.len;rw [h.gm]at this;exact this
 have hm:=h.mono EN;refine⟨{hm with},?_,?_,?_⟩
 ·show Told (if c.answer=true then c.AI.l.reverse else []);split
  ·exact Told.of h.AI
  ·exact Told.nil
 ·show(if c.answer=true then c.AI.l.reverse else []).length≤8;split
  ·rw [ld];exact hgl
  ·exact Om
 ·show c.next+((if c.answer=true then c.AI.l.reverse else []).length+(10-c.Aa.length))≤20*(t+1)
  have:(if c.answer=true then c.AI.l.reverse else []).length≤8:=by
   split
   ·rw [ld];exact hgl
   ·exact Om
  omega
theorem AY.HR{t:Nat}{c:AD}(h:AY t c):AY (t+1) c.HR.2:=by
 have hm:=h.mono EN;have hn:=h.nx;unfold AD.HR;split
 ·exact hm
 ·refine {hm with An:=?_,cnt:=?_,nx:=?_,lg:=?_}
  ·intro p hp;have g:=hm.An p hp;exact⟨ku g.num,g.at_,g.len,g.fr⟩
  ·show c.Aa.length+c.lost.length≤c.next+1
   have:=h.cnt;omega
  ·show c.next+1≤20*(t+1);omega
  ·show c.BF≤c.next+1
   have:=h.lg;omega
theorem AY.As{t:Nat}{c:AD}(h:AY t c):AY (t+1) c.As.2:=by
 unfold AD.As;split
 ·exact h.HR
 ·exact ZJ 40 _ (Bx.begin h)
theorem ZR{k AF:Nat}(hk:k<4):∀(n:Nat) (ws:List AR) (w:AR) (d:BK),Dd AF ws→ws.getD k Ab=w→I8 ws d→d.room-d.b.length<n→Dj k n w d=Dj k (n+1) w d
 |0,ws,w,d,_,_,_,h=>absurd h (kq _)
 |n+1,ws,w,d,hw,he,hd,hn=>by
  rw [Dj]
  conv=>rhs;rw [Dj]
  cases e:w.fill d k with
  |none=>rfl
  |some z=>
   obtain⟨w2,d2⟩:=z;dsimp only;rw [←he]at e;obtain⟨h1,h2,h3,h4,_⟩:=VY hw hd hk e;have h5:=h2.len;refine ZR hk n (ws.set k w2) w2 d2 h1 ?_ h2 Wy;rw [Bs,if_pos ⟨rfl,Te⟩]
theorem r6{k AF:Nat}(hk:k<4){ws:List AR}{d:BK}{w2:AR}{d2:BK}(hw:Dd AF ws)(hd:I8 ws d)(e:(ws.getD k Ab).fill d k=some (w2,d2)):
  Dj k (d.room+1) (ws.getD k Ab) d=Dj k (d2.room+1) w2 d2:=by
 obtain⟨h1,h2,h3,h4,_⟩:=VY hw hd hk e;rw [Dj,e];dsimp only;have h5:=h2.len;rw [h3];exact ZR hk d.room (ws.set k w2) w2 d2 h1 (by rw [Bs,if_pos ⟨rfl,Te⟩]) h2 Wy
theorem rW{k:Nat}{w:AR}{d:BK}{n:Nat}(e:w.fill d k=none):Dj k n w d=(w,d):=by
 cases n with
 |zero=>rfl
 |succ n=>rw [Dj,e]
def Oy(w:AR):Prop:=w.given=true∨(w.finished=true∧w.high=w.b.length)
structure Dv(w w':AR):Prop where
 b:∃xs,w'.b=w.b++xs
 high:w.high≤w'.high
 fin:w.finished=true→w'.finished=true∧w'.b=w.b
 B':w.given=true→w'.given=true∧w'.code=w.code
 fz:Oy w→w'.high=w.high
theorem Dv.refl(w:AR):Dv w w:=⟨⟨[],(g_ _).symm⟩,e_ _,fun h=>⟨h,rfl⟩,fun h=>⟨h,rfl⟩,fun _=>rfl⟩
theorem Dv.frozen{w w':AR}(h:Dv w w')(f:Oy w):Oy w':=by
 have h2:=h.fz f;rcases f with f|⟨f1,f2⟩
 ·exact .inl (h.B' f).1
 ·exact .inr ⟨(h.fin f1).1,by rw [h2,(h.fin f1).2,f2]⟩
theorem Dv.trans{a b c:AR}(h:Dv a b)(g:Dv b c):Dv a c:=by
 refine⟨?_,kj h.high g.high,fun e=>?_,fun e=>?_,fun e=>(g.fz (h.frozen e)).trans (h.fz e)⟩
 ·obtain⟨xs,e1⟩:=h.b;obtain⟨ys,e2⟩:=g.b;exact⟨xs++ys,by rw [e2,e1,d_]⟩
 ·obtain⟨e1,e2⟩:=h.fin e;obtain⟨e3,e4⟩:=g.fin e1;exact⟨e3,e4.trans e2⟩
 ·obtain⟨e1,e2⟩:=h.B' e;obtain⟨e3,e4⟩:=g.B' e1;exact⟨e3,e4.trans e2⟩
theorem Dv.same{w w':AR}(h:Gg w w'):Dv w w':=
 ⟨⟨[],by rw [h.b,g_]⟩,Nat.le_of_eq h.high.symm,fun e=>⟨h.finished.trans e,h.b⟩,fun e=>⟨h.given.trans e,h.code⟩,fun _=>h.high⟩
theorem Dv.len{w w':AR}(h:Dv w w'):w.b.length≤w'.b.length:=by
 obtain⟨xs,e⟩:=h.b;rw [e,a_];omega
theorem Dv.get{w w':AR}(h:Dv w w'){p:Nat}(hp:p<w.b.length):w'.b.getD p 0=w.b.getD p 0:=by
 obtain⟨xs,e⟩:=h.b;rw [e,b_,b_,j_ hp]
theorem Dv.cut{w w':AR}(h:Dv w w'){lo hi:Nat}(hp:hi≤w.b.length):cut w'.b lo hi=cut w.b lo hi:=by
 obtain⟨xs,e⟩:=h.b;unfold Go.Proofs.YtgfdlpcdjklcoaaGreatDoor.cut;rw [e,List.take_append_of_le_length hp]
structure Fv(R:Nat→Prop)(ws:List AR)(f:AM):Prop where
 kind:f.kind=3∨f.kind=4∨f.kind=5
 FO:f.kind=3→∀r∈f.ranges,∀n,r.lo≤n→n≤r.hi→R n
 reset:f.kind=4→(ws.getD f.stream.toNat Ab).given=true∧f.code=(ws.getD f.stream.toNat Ab).code∧f.offset=(ws.getD f.stream.toNat Ab).high
 data:f.kind=5→f.offset+f.data.size≤(ws.getD f.stream.toNat Ab).high∧f.data.data.toList=cut (ws.getD f.stream.toNat Ab).b f.offset (f.offset+f.data.size)
 fin:f.kind=5→f.fin=true→(ws.getD f.stream.toNat Ab).finished=true∧(ws.getD f.stream.toNat Ab).high=(ws.getD f.stream.toNat Ab).b.length∧f.offset+f.data.size=(ws.getD f.stream.toNat Ab).b.length
theorem Fv.grow{R R':Nat→Prop}{ws ws':List AR}{f:AM}(h:Fv R ws f)(hR:∀n,R n→R' n)(hg:∀k,Dv (ws.getD k Ab) (ws'.getD k Ab))
  (hh:f.kind=5→(ws.getD f.stream.toNat Ab).high≤(ws.getD f.stream.toNat Ab).b.length):Fv R' ws' f:=by
 have g:=hg f.stream.toNat;refine⟨h.kind,fun e r hr n a b=>hR n (h.FO e r hr n a b),fun e=>?_,fun e=>?_,fun e e2=>?_⟩
 ·obtain⟨a,b,c⟩:=h.reset e;exact⟨(g.B' a).1,b.trans (g.B' a).2.symm,c.trans (g.fz (.inl a)).symm⟩
 ·obtain⟨a,b⟩:=h.data e
  have:=g.high
  exact⟨Ca,b.trans (g.cut (by have:=hh e;omega)).symm⟩
 ·obtain⟨a,b,c⟩:=h.fin e e2;have e3:=g.fz (.inr ⟨a,b⟩);obtain⟨e4,e5⟩:=g.fin a;exact⟨e4,by rw [e3,e5,b],by rw [e5,c]⟩
structure Mf(c:AD)(L:List (List AM))(R:Nat→Prop):Prop where
 len:L.length=c.next
 An:∀p,p∈c.Aa∨p∈c.lost→L[p.number]?=some p.Ag
 ne:∀fs∈L,fs≠ []∧(Ar fs).length+16≤c.AJ
 fr:∀fs∈L,∀f∈fs,Eu c.ws f∧Fv R c.ws f
structure Hl(w:AR)(r:Bf):Prop where
 high:r.high≤w.high
 en:r.ended=true→Oy w∧r.end_=w.high
 B':r.given=true→w.given=true∧r.code=w.code
 fin:r.ended=true→r.given=false→w.finished=true∧w.high=w.b.length
 b:r.given=false→∀p,Ao p r.AE.l→r.read≤p→r.b.getD (p-r.read) 0=w.b.getD p 0
 ME:r.state=1→w.finished=true∧r.read=w.b.length
theorem Hl.grow{w w':AR}{r:Bf}(h:Hl w r)(g:Dv w w')(hh:w.high≤w.b.length)(hr:∀p,Ao p r.AE.l→p<r.high):Hl w' r:=by
 refine⟨kj h.high g.high,fun e=>?_,fun e=>?_,fun e e2=>?_,fun e p hp h2=>?_,fun e=>?_⟩
 ·obtain⟨a,b⟩:=h.en e;exact⟨g.frozen a,b.trans (g.fz a).symm⟩
 ·obtain⟨a,b⟩:=h.B' e;exact⟨(g.B' a).1,b.trans (g.B' a).2.symm⟩
 ·obtain⟨a,b⟩:=h.fin e e2;exact⟨(g.fin a).1,by rw [g.fz (.inr ⟨a,b⟩),(g.fin a).2,b]⟩
 ·rw [h.b e p hp h2];exact(g.get (by have:=hr p hp;have:=h.high;omega)).symm
 ·obtain⟨a,b⟩:=h.ME e;exact⟨(g.fin a).1,by rw [(g.fin a).2,b]⟩
def LW(r:Bf)(f:AM):Prop:=(f.kind=5→r.given=true∨((∀p,f.offset≤p→p<f.offset+f.data.size→Ao p r.AE.l)∧(f.fin=true→r.ended=true)))∧(f.kind=4→r.given=true)
structure EZ(r r':Bf):Prop where
 given:r.given=true→r'.given=true
 AE:∀p,Ao p r.AE.l→Ao p r'.AE.l
 ended:r.ended=true→r'.ended=true
theorem EZ.refl(r:Bf):EZ r r:=⟨fun x=>x,fun _ x=>x,fun x=>x⟩
theorem EZ.trans{a b c:Bf}(h:EZ a b)(g:EZ b c):EZ a c:=⟨fun x=>g.given (h.given x),fun p x=>g.AE p (h.AE p x),fun x=>g.ended (h.ended x)⟩
theorem LW.more{r r':Bf}{f:AM}(h:LW r f)(g:EZ r r'):LW r' f:=
 ⟨fun e=>(h.1 e).elim (fun x=>.inl (g.given x)) (fun x=>.inr ⟨fun p a b=>g.AE p (x.1 p a b),fun y=>g.ended (x.2 y)⟩),fun e=>g.given (h.2 e)⟩
structure Wq(c d:AD)(L:List (List AM))(R:Nat→Prop):Prop where
 num:∀n,R n→n<L.length
 proc:∀n fs,R n→L[n]?=some fs→∀f∈fs,f.kind=5→(d.r f.stream.toNat).given=true∨f.offset+f.data.size≤(d.r f.stream.toNat).read+d.AF
 rd:∀k,k<4→Hl (c.w k) (d.r k)
 BM:∀k p,k<4→Ao p (c.w k).AE.l→(d.r k).given=true∨p<(d.r k).read+d.AF
 full:∀n fs,R n→L[n]?=some fs→∀f∈fs,LW (d.r f.stream.toNat) f
structure Ej(d:AD)(n:Nat)(R:Nat→Prop):Prop where
 AI:∀m,Ao m d.AI.l→R m
 fl:d.AI.floor≤n
structure BC(c d:AD)(L L':List (List AM))(R R':Nat→Prop):Prop where
 s:Mf c L R'
 s':Mf d L' R
 p:Wq c d L R
 p':Wq d c L' R'
 Dy:c.AF=d.AF
 ks:c.ks=d.ks
 first:d.first= !c.first
 o:c.closed=0
 o':d.closed=0
theorem BC.symm{c d:AD}{L L':List (List AM)}{R R':Nat→Prop}(h:BC c d L L' R R'):BC d c L' L R' R:=
 ⟨h.s',h.s,h.p',h.p,h.Dy.symm,h.ks.symm,by rw [h.first];cases c.first<;>rfl,h.o',h.o⟩
theorem AY.high{t:Nat}{c:AD}(h:AY t c){k:Nat}(hk:k<4):(c.w k).high≤(c.w k).b.length:=(h.ws.ok k hk).high
theorem Qb{n m:Nat}{l:List AT}(h:Ao n l)(hl:∀r∈l,r.hi<m):n<m:=by
 obtain⟨r,hr,_,b⟩:=h
 have:=hl r hr;omega
theorem AY.eZ{t:Nat}{c:AD}(h:AY t c){k:Nat}(hk:k<4)(p:Nat)(hp:Ao p (c.r k).AE.l):p<(c.r k).high:=Qb hp (h.rs k hk).co.hi
structure Ds(c c':AD):Prop where
 rs:c'.rs=c.rs
 AI:c'.AI=c.AI
 next:c'.next=c.next
 AJ:c'.AJ=c.AJ
 AF:c'.AF=c.AF
 ks:c'.ks=c.ks
 first:c'.first=c.first
 closed:c'.closed=c.closed
 An:∀p,p∈c'.Aa∨p∈c'.lost→p∈c.Aa∨p∈c.lost
 len:c'.ws.length=4
 w:∀k,Dv (c.w k) (c'.w k)∧(c'.w k).AE=(c.w k).AE
theorem Eu.grow{ws ws':List AR}{f:AM}(h:Eu ws f)(hg:∀k,Dv (ws.getD k Ab) (ws'.getD k Ab)):Eu ws' f:=
 ⟨h.ok,h.nm,⟨h.fr.1,h.fr.2.1,fun hk=>by have:=h.fr.2.2 hk;have:=(hg f.stream.toNat).len;omega⟩,h.rg⟩
theorem Eu.s4{ws:List AR}{f:AM}(h:Eu ws f):f.stream.toNat<4:=by have:=h.fr.1;have:=h.fr.2.1;omega
theorem Mf.grow{c c':AD}{L:List (List AM)}{R R':Nat→Prop}{t:Nat}(hc:AY t c)(h:Mf c L R)(hR:∀n,R n→R' n)(hn:c'.next=c.next)(hm:c'.AJ=c.AJ)
  (hf:∀p,p∈c'.Aa∨p∈c'.lost→p∈c.Aa∨p∈c.lost)(hg:∀k,Dv (c.w k) (c'.w k)):Mf c' L R':=
 ⟨h.len.trans hn.symm,fun p hp=>h.An p (hf p hp),fun fs hfs=>by rw [hm];exact h.ne fs hfs,fun fs hfs f hfr=>
  ⟨(h.fr fs hfs f hfr).1.grow hg,(h.fr fs hfs f hfr).2.grow hR hg (fun _=>hc.high (h.fr fs hfs f hfr).1.s4)⟩⟩
theorem BC.G3{c d c':AD}{L L':List (List AM)}{R R':Nat→Prop}{t u:Nat}(h:BC c d L L' R R')(hc:AY t c)(hd:AY u d)(g:Ds c c'):BC c' d L L' R R':=by
 have hr:∀k,c'.r k=c.r k:=fun k=>by unfold AD.r;rw [g.rs]
 refine⟨h.s.grow hc (fun _ x=>x) g.next g.AJ g.An (fun k=>(g.w k).1),h.s',⟨h.p.num,h.p.proc,fun k hk=>?_,fun k p hk hp=>?_,h.p.full⟩,⟨h.p'.num,?_,?_,?_,?_⟩,g.AF.trans h.Dy,g.ks.trans h.ks,by rw [g.first];exact h.first,g.closed.trans h.o,h.o'⟩
 ·exact(h.p.rd k hk).grow (g.w k).1 (hc.high hk) (hd.eZ hk)
 ·rw [(g.w k).2]at hp;exact h.p.BM k p hk hp
 ·intro n fs a b f hf hk;rw [hr,g.AF];exact h.p'.proc n fs a b f hf hk
 ·intro k hk;rw [hr];exact h.p'.rd k hk
 ·intro k p hk hp;rw [hr,g.AF];exact h.p'.BM k p hk hp
 ·intro n fs a b f hf;rw [hr];exact h.p'.full n fs a b f hf
theorem Ej.G3{c c':AD}{n:Nat}{R:Nat→Prop}(h:Ej c n R)(g:c'.AI=c.AI):Ej c' n R:=⟨by rw [g];exact h.AI,by rw [g];exact h.fl⟩
theorem Ds.refl{t:Nat}{c:AD}(h:AY t c):Ds c c:=Wz
theorem Ds.Bm{t:Nat}{c:AD}(h:AY t c){k:Nat}{w:AR}(g:Dv (c.w k) w)(e:w.AE=(c.w k).AE):Ds c (c.Bm k w):=by
 refine⟨rfl,rfl,rfl,rfl,rfl,rfl,rfl,rfl,fun _ x=>x,by show(c.ws.set k w).length=4;rw [ki];exact h.ws.len,fun j=>?_⟩;show Dv (c.w j) ((c.ws.set k w).getD j Ab)∧((c.ws.set k w).getD j Ab).AE=(c.w j).AE;rw [Bs];split
 ·rename_i e2;rw [←e2.1];exact⟨g,e⟩
 ·exact⟨.refl _,rfl⟩
theorem Ds.write{t:Nat}{c:AD}(h:AY t c)(k:Int)(xs:List UInt8):Ds c (c.write k xs).2:=by
 unfold AD.write;split
 ·exact .refl h
 ·rename_i h0;obtain⟨a,b,e⟩:=Ul (Decidable.not_not.1 h0);refine .Bm h ⟨Bl,e_ _,fun h=>?_,fun h=>?_,fun _=>rfl⟩ rfl
  ·rw [b]at h;cases h
  ·rw [e]at h;cases h
theorem Ds.finish{t:Nat}{c:AD}(h:AY t c)(k:Int):Ds c (c.finish k).2:=by
 unfold AD.finish;split
 ·exact .refl h
 ·exact .Bm h ⟨⟨[],(g_ _).symm⟩,e_ _,fun h=>BY,fun h=>⟨h,rfl⟩,fun _=>rfl⟩ rfl
theorem Ds.giveUp{t:Nat}{c:AD}(h:AY t c)(k:Int)(code:Nat):Ds c (c.giveUp k code).2:=by
 unfold AD.giveUp;split
 ·exact .refl h
 split
 ·exact .refl h
 ·rename_i h0;refine .Bm h ⟨⟨[],(g_ _).symm⟩,e_ _,fun h=>⟨h,rfl⟩,fun h=>absurd (.inl h) h0,fun _=>rfl⟩ rfl
theorem mU{c:AD}{lost:DR→Bool}(p:DR)(hp:p∈(c.Eg lost).Aa∨p∈(c.Eg lost).lost):p∈c.Aa∨p∈c.lost:=by
 rcases hp with hp|hp
 ·exact M3
 ·rcases i_.1 hp with hp|hp
  ·exact .inr hp
  ·exact M3
theorem Ds.Eg{t:Nat}{c:AD}(h:AY t c)(lost:DR→Bool):Ds c (c.Eg lost):=by
 obtain⟨a,b,e⟩:=NU (c.Aa.filter lost) c.ws h.ws (fun p hp f hf=>(h.An p Og).fr f hf);exact⟨rfl,rfl,rfl,rfl,rfl,rfl,rfl,rfl,mU,a.len,fun k=>⟨.same (b.same k),e k⟩⟩
theorem Ds.tick{t:Nat}{c:AD}(h:AY t c):Ds c c.tick:=by
 have h1:AY (t+1) {c with now:=c.now+1}:=
  {h.mono EN with nw:=by have:=h.nw;show c.now+1≤t+1;omega,An:=fun p hp=>let g:=h.An p hp;⟨g.num,li g.at_,g.len,g.fr⟩}
 unfold AD.tick;split
 ·have g:=Ds.Eg h1 (fun _=>true);exact⟨g.rs,g.AI,g.next,g.AJ,g.AF,g.ks,g.first,g.closed,g.An,g.len,g.w⟩
 ·exact Wz
def Kr(xs:List UInt8):Nat→Nat
 |0=>0
 |i+1=>Kr xs i*256+(xs.getD i 0).toNat
theorem iU(xs:List UInt8):∀i,Kr xs i<2^(8*i)
 |0=>by simp [Kr]
 |i+1=>by
  have h1:=iU xs i;have h2:=(xs.getD i 0).toNat_lt;simp only [Kr];rw [show 8*(i+1)=8*i+8 by omega,Nat.pow_add,show(2:Nat)^8=256 by decide];omega
theorem dK(xs:List UInt8):∀i,i≤8→(be xs i).toNat=Kr xs i
 |0,_=>rfl
 |i+1,h=>by
  have ih:=dK xs i Ca;have h1:=iU xs (i+1);have h5:2^(8*(i+1))≤2^64:=Nat.pow_le_pow_right Ca Ca;have h2:=(xs.getD i 0).toNat_lt;simp only [Kr]at h1⊢;simp only [be,UInt64.toNat_or,UInt64.toNat_shiftLeft,ih,UInt8.toNat_toUInt64];rw [show(8:UInt64).toNat%64=8 from rfl,Nat.shiftLeft_eq,show(2:Nat)^8=256 by decide,lr Ca]
  have:=Nat.two_pow_add_eq_or_of_lt (i:=8) (b:=(xs.getD i 0).toNat) Ca (Kr xs i)
  rw [show(2:Nat)^8=256 by decide,Nat.mul_comm]at this;exact this.symm
theorem LA(n:UInt64)(k:UInt64)(j:Nat)(hk:k.toNat=j)(hj:j<64):((n>>> k).toUInt8).toNat=n.toNat/2^j%256:=by
 rw [ky,UInt64.toNat_shiftRight,hk,lr hj,Nat.shiftRight_eq_div_pow]
theorem sW(n:UInt64)(t:List UInt8):be (EL n++t) 8=n:=by
 apply UInt64.toNat_inj.1;rw [dK _ 8 Ca];have hn:=n.toNat_lt;have b0:=LA n 56 56 rfl Ca;have b1:=LA n 48 48 rfl Ca;have b2:=LA n 40 40 rfl Ca;have b3:=LA n 32 32 rfl Ca;have b4:=LA n 24 24 rfl Ca;have b5:=LA n 16 16 rfl Ca;have b6:=LA n 8 8 rfl Ca;have b7:n.toUInt8.toNat=n.toNat%256:=ky n;simp only [Kr,EL,List.cons_append,List.getD_cons_zero,List.getD_cons_succ,b0,b1,b2,b3,b4,b5,b6,b7];omega
theorem sS(ks:List UInt8)(side:UInt8)(n:UInt64)(xs:List UInt8):DQ ks side n (DQ ks side n xs)=xs:=by
 have hl:∀m,(Ed ks side n m).length=m:=fun m=>by simp [Ed]
 have h1:(DQ ks side n xs).length=xs.length:=by rw [DQ,Kh _ _ (by rw [hl];exact e_ _),hl]
 rw [DQ,h1];apply kv
 ·rw [Kh _ _ (by rw [hl,h1];exact e_ _),hl]
 ·intro i h2 h3;simp only [DL,DQ,List.getElem_zipWith];rw [UInt8.xor_assoc,UInt8.xor_self,UInt8.xor_zero]
theorem OL(ks:List UInt8)(side:UInt8)(n:UInt64)(xs:List UInt8)(hn:n.toNat≤4611686018427387903)(hl:16+xs.length≤300):B3 ks side (Bk ks side n xs)=some (n,xs):=by
 have hs:∀m,(Ed ks side n m).length=m:=fun m=>by simp [Ed]
 have hm:(DQ ks side n xs).length=xs.length:=by rw [DQ,Kh _ _ (by rw [hs];exact e_ _),hs]
 have ht:(HC ks side n (DQ ks side n xs)).length=8:=rfl;have hbl:(EL n).length=8:=rfl
 have hlen:(Bk ks side n xs).length=16+xs.length:=by
  rw [Bk,a_,a_,hm,ht,hbl];omega
 have hbe:be (Bk ks side n xs) 8=n:=by rw [Bk,d_];exact sW n _
 have hdrop:(Bk ks side n xs).drop (xs.length+8)=HC ks side n (DQ ks side n xs):=by
  rw [Bk,l_ lB]
 have hbody:Fp (Bk ks side n xs)=DQ ks side n xs:=by
  rw [Fp,hlen,show 16+xs.length-8=xs.length+8 by omega,Bk,lw lB,l_ hbl]
 unfold B3;rw [hlen,if_neg Ca,hbe,hbody,show 16+xs.length-8=xs.length+8 by omega,hdrop,if_neg Cl,sS]
section
variable{c d:AD}{L L':List (List AM)}{R R':Nat→Prop}{t u:Nat}
theorem BC.BV(h:BC c d L L' R R')(hc:AY t c){k:Nat}{r:Bf}(hk:k<4)(hr:Hl (d.w k) r)(h1:(c.r k).read≤r.read)(h2:EZ (c.r k) r):BC (c.BV k r) d L L' R R':=by
 have e:∀j,((c.BV k r).r j)=if k=j∧k<4 then r else c.r j:=fun j=>by
  show(c.rs.set k r).getD j FD=_;rw [Bs,hc.rl];rfl
 refine⟨⟨h.s.len,h.s.An,h.s.ne,h.s.fr⟩,h.s',⟨h.p.num,h.p.proc,h.p.rd,h.p.BM,h.p.full⟩,⟨h.p'.num,?_,?_,?_,?_⟩,h.Dy,h.ks,h.first,h.o,h.o'⟩
 ·intro n fs a b f hf h5
  have:=h.p'.proc n fs a b f hf h5
  rw [e];split
  ·rename_i e2;rw [←e2.1]at this;rcases this with g|g
   ·exact .inl (h2.given g)
   ·exact .inr (by show f.offset+f.data.size≤r.read+c.AF;omega)
  ·exact this
 ·intro j hj;rw [e];split
  ·rename_i e2;rw [←e2.1];exact hr
  ·exact h.p'.rd j hj
 ·intro j p hj hp
  have:=h.p'.BM j p hj hp
  rw [e];split
  ·rename_i e2;rw [←e2.1]at this;rcases this with g|g
   ·exact .inl (h2.given g)
   ·exact .inr (by show p<r.read+c.AF;omega)
  ·exact this
 ·intro n fs a b f hf
  have:=h.p'.full n fs a b f hf
  rw [e];split
  ·rename_i e2;rw [←e2.1]at this;exact this.more h2
  ·exact this
theorem YY{l:List AT}(h:l≠ []):rg l 0∈l:=by
 cases l with
 |nil=>exact absurd rfl h
 |cons a l=>exact List.mem_cons_self
theorem XO{l:List AT}{n:Nat}(h:A6 l n=true):∃r∈l,r.lo≤n∧n≤r.hi:=by
 unfold A6 at h;obtain⟨r,hr,e⟩:=List.any_eq_true.1 h;simp at e;exact⟨r,hr,e.1,e.2⟩
structure Iw(c c':AD):Prop where
 same:∀k,Gg (c.w k) (c'.w k)
 AE:∀k p,Ao p (c.w k).AE.l→Ao p (c'.w k).AE.l
theorem Iw.refl(c:AD):Iw c c:=⟨fun _=>.refl _,fun _ _ x=>x⟩
theorem Iw.trans{a b c:AD}(h:Iw a b)(g:Iw b c):Iw a c:=⟨fun k=>(h.same k).trans (g.same k),fun k p x=>g.AE k p (h.AE k p x)⟩
theorem BC.Tx(h:BC c d L L' R R')(hc:AY t c)(hd:AY u d){l:List AT}(hl:F8 l)(hR:∀r∈l,∀n,r.lo≤n→n≤r.hi→R n):
  (c.BM l).1=0∧BC (c.BM l).2 d L L' R R'∧(c.BM l).2.AI=c.AI∧(c.BM l).2.rs=c.rs∧Iw c (c.BM l).2:=by
 have h0:=hl.2 0 (kf.2 hl.1)
 have hn:(rg l 0).hi<c.next:=by
  rw [←h.s.len];exact h.p.num _ (hR _ (YY hl.1) _ h0.1 CW)
 unfold AD.BM;rw [if_neg Ca];obtain⟨a,b,e⟩:=hc.CE l hn
 have hfl:∀p,p∈(c.CE l).Aa∨p∈(c.CE l).lost→p∈c.Aa∨p∈c.lost:=by
  intro p hp;rcases hp with hp|hp
  ·exact M3
  ·exact .inr (lu.1 hp).1
 have h1:BC (c.CE l) d L L' R R':=by
  refine⟨h.s.grow hc (fun _ x=>x) rfl rfl hfl (fun k=>.same (b.same k)),h.s',⟨h.p.num,h.p.proc,fun k hk=>?_,fun k p hk hp=>?_,h.p.full⟩,⟨h.p'.num,h.p'.proc,h.p'.rd,h.p'.BM,h.p'.full⟩,h.Dy,h.ks,h.first,h.o,h.o'⟩
  ·exact(h.p.rd k hk).grow (.same (b.same k)) (hc.high hk) (hd.eZ hk)
  ·rcases(e k p).1 hp with g|⟨q,hq,h2,f,hf,h3,h4,h5,h6,h7⟩
   ·exact h.p.BM k p hk g
   ·obtain⟨r,hr,h8,h9⟩:=XO h2;have h10:=h.p.proc q.number q.Ag (hR r hr _ h8 h9) (h.s.An q hq.symm) f hf h3;rw [h5]at h10;rcases h10 with g|g
    ·exact .inl g
    ·exact Kl
 have g:=Ds.Eg a (fun p=>decide (p.number+3≤(c.CE l).BF));obtain⟨a2,b2,e2⟩:=NU ((c.CE l).Aa.filter (fun p=>decide (p.number+3≤(c.CE l).BF))) (c.CE l).ws a.ws (fun p hp f hf=>(a.An p Og).fr f hf);refine⟨rfl,h1.G3 a hd g,rfl,rfl,⟨fun k=>(b.same k).trans (b2.same k),fun k p hp=>?_⟩⟩;show Ao p (((c.CE l).Eg _).w k).AE.l;rw [(g.w k).2];exact(e k p).2 Ii
theorem uA{w:AR}{r:Bf}(h:Hl w r)(hw:w.high≤w.b.length){f:AM}(h1:f.offset+f.data.size≤w.high)(h2:f.fin=true→w.finished=true∧w.high=w.b.length∧f.offset+f.data.size=w.b.length):¬MY r.ended r.end_ r.high f:=by
 have hh:=h.high;rintro(⟨e,e2⟩|⟨e,e2⟩)
 ·obtain⟨_,b⟩:=h.en e;rcases e2 with e2|⟨e2,e3⟩
  ·omega
  ·have:=h2 e2;omega
 ·have:=h2 e;omega
theorem uV{b:List UInt8}{lo hi p:Nat}(h1:lo≤p)(h2:p<hi):(cut b lo hi).getD (p-lo) 0=b.getD p 0:=by
 unfold cut;rw [b_,b_,km,List.getElem?_take_of_lt Ca];congr 2;omega
theorem Hl.data{w:AR}{r:Bf}{AF:Nat}(h:Hl w r)(ho:Fo AF t r)(hwi:AF≤1024)(hw:w.high≤w.b.length){f:AM}(hg:r.given=false)(hb:f.offset+f.data.size≤r.read+AF)
  (h1:f.offset+f.data.size≤w.high)(h2:f.data.data.toList=cut w.b f.offset (f.offset+f.data.size))(h3:f.fin=true→w.finished=true∧w.high=w.b.length∧f.offset+f.data.size=w.b.length):Hl w (r.IK f):=by
 have hh:=h.high;obtain⟨a1,a2,a3,a4,a5,a6⟩:=r.Wh ho hwi f hg hb;have hl:=ho.len hg;refine⟨?_,fun e=>?_,fun e=>?_,fun e _=>?_,fun _ p hp hrp=>?_,h.ME⟩
 ·show max r.high (f.offset+f.data.size)≤w.high;omega
 ·show Oy w∧(if f.fin=true then f.offset+f.data.size else r.end_)=w.high;by_cases hf:f.fin=true
  ·rw [if_pos hf];obtain⟨b1,b2,b3⟩:=h3 hf;exact⟨.inr ⟨b1,b2⟩,Ca⟩
  ·rw [if_neg hf];have e':(r.ended||f.fin)=true:=e;rw [show f.fin=false by simpa using hf,Bool.or_false]at e';exact h.en e'
 ·have:r.given=true:=e
  rw [hg]at this;cases this
 ·have e':(r.ended||f.fin)=true:=e;rcases Bool.or_eq_true_iff.1 e' with e'|e'
  ·exact h.fin e' hg
  ·exact⟨(h3 e').1,(h3 e').2.1⟩
 ·have hp':Ao p (r.filled f).2.l:=hp;have hrp':r.read≤p:=hrp;have hlt:=Qb hp' a1.hi;show(r.filled f).1.getD (p-r.read) 0=_;rw [a6 p hrp' hlt];split
  ·rename_i hc;rw [h2];exact uV Ca hc.2.1
  ·rename_i hc
   have hin:Ao p r.AE.l:=by
    rcases(a5 p).1 hp' with g|g
    ·exact g
    ·exact Decidable.not_not.1 fun g2=>hc ⟨g.1,g.2,g2⟩
   have hph:=Qb hin ho.co.hi;rw [←h.b hg p hin hrp',b_,b_,j_ Ca]
theorem bi{t:Nat}{c:AD}(h:AY t c)(k:Nat):c.BV k (c.r k)=c:=by
 unfold AD.BV AD.r
 have:c.rs.set k (c.rs.getD k FD)=c.rs:=by
  by_cases hk:k<c.rs.length
  ·rw [b_,g' hk,ln,List.set_getElem_self]
  ·rw [List.set_eq_of_length_le Ca]
 rw [this]
theorem PW{t:Nat}{c:AD}(h:AY t c){k:Nat}(hk:k<4){r:Bf}:(c.BV k r).r k=r:=by
 show(c.rs.set k r).getD k FD=_;rw [Bs,h.rl,if_pos ⟨rfl,hk⟩]
theorem cT{t:Nat}{c:AD}(h:AY t c){k:Nat}(hk:k<4){r:Bf}(hr:EZ (c.r k) r)(j:Nat):EZ (c.r j) ((c.BV k r).r j):=by
 show EZ _ ((c.rs.set k r).getD j FD);rw [Bs];split
 ·rename_i e;rw [←e.1];exact hr
 ·exact .refl _
theorem BC.take(h:BC c d L L' R R')(hc:AY t c)(hd:AY u d){f:AM}(hp:Eu d.ws f)(hs:Fv R d.ws f)(hb:¬c.busy f):
  (c.take f).1=0∧BC (c.take f).2 d L L' R R'∧(c.take f).2.AI=c.AI∧Iw c (c.take f).2∧(∀k,EZ (c.r k) ((c.take f).2.r k))∧LW ((c.take f).2.r f.stream.toNat) f:=by
 have hk4:=hp.s4;have g:=h.p'.rd _ hk4;have ho:=hc.rs _ hk4;have hw:=hd.high hk4;rcases hs.kind with e|e|e
 ·have:c.take f=c.BM f.ranges:=by unfold AD.take;rw [if_pos e]
  rw [this];obtain⟨a,b,e1,e2,e3⟩:=h.Tx hc hd (hp.ok.2.2.2.2.1.1 e) (hs.FO e);exact⟨a,b,e1,e3,fun k=>by show EZ (c.r k) ((c.BM f.ranges).2.rs.getD k FD);rw [e2];exact .refl _,fun x=>by omega,fun x=>by omega⟩
 ·obtain⟨s1,s2,s3⟩:=hs.reset e
  have hno:¬((c.r f.stream.toNat).ended=true∧(c.r f.stream.toNat).end_≠f.offset∨f.offset<(c.r f.stream.toNat).high):=by
   have:=g.high
   have s3':f.offset=(d.w f.stream.toNat).high:=s3;rintro(⟨e1,e2⟩|e1)
   ·exact e2 ((g.en e1).2.trans s3.symm)
   ·omega
  unfold AD.take;rw [if_neg Ca,if_pos e,if_neg hno];refine⟨rfl,h.BV hc hk4 ⟨g.high,fun _=>⟨.inl s1,s3⟩,fun _=>⟨s1,?_⟩,(fun _ e=>by cases e),(fun e=>by cases e),g.ME⟩ CW ⟨fun _=>rfl,fun _ x=>x,fun _=>rfl⟩,rfl,⟨fun _=>.refl _,fun _ _ x=>x⟩,cT hc hk4 ⟨fun _=>rfl,fun _ x=>x,fun _=>rfl⟩,fun x=>by omega,fun _=>by rw [PW hc hk4]⟩;show(if(c.r f.stream.toNat).given=true then(c.r f.stream.toNat).code else f.code)=_;split
  ·rename_i e1;exact(g.B' e1).2
  ·exact s2
 ·obtain⟨s1,s2⟩:=hs.data e;have s3:=hs.fin e;unfold AD.take;rw [if_neg Ca,if_neg Ca,if_pos e];unfold Bf.data;rw [if_neg (uA g hw s1 s3)];by_cases hg:(c.r f.stream.toNat).given=true
  ·rw [if_pos hg,bi hc];exact⟨rfl,h,rfl,.refl _,fun _=>.refl _,fun _=>.inl hg,fun x=>by omega⟩
  ·rw [if_neg hg]
   have hg':(c.r f.stream.toNat).given=false:=by simpa using hg
   have hb':f.offset+f.data.size≤(c.r f.stream.toNat).read+c.AF:=by
    rcases kr ((c.r f.stream.toNat).read+c.AF) (f.offset+f.data.size)with hlt|hge
    ·exact absurd ⟨e,hg',hlt⟩ hb
    ·exact hge
   obtain⟨a1,a2,a3,a4,a5,a6⟩:=(c.r f.stream.toNat).Wh ho hc.w2 f hg' hb'
   have hm:EZ (c.r f.stream.toNat) ((c.r f.stream.toNat).IK f):=⟨fun x=>x,fun p x=>(a5 p).2 (.inl x),fun x=>by show(_||_)=true;rw [x];rfl⟩
   refine⟨rfl,h.BV hc hk4 (g.data ho hc.w2 hw hg' hb' s1 s2 s3) CW hm,rfl,⟨fun _=>.refl _,fun _ _ x=>x⟩,cT hc hk4 hm,fun _=>.inr ⟨fun p h1 h2=>?_,fun x=>?_⟩,fun x=>by omega⟩
   ·rw [PW hc hk4];refine(a5 p).2 ?_;rcases kr p (c.r f.stream.toNat).read with h3|h3
    ·exact .inl (ho.pre p h3)
    ·exact .inr ⟨Ca,h2⟩
   ·rw [PW hc hk4];show(_||f.fin)=true;rw [x,Bool.or_true]
theorem K2{c c':AD}(hr:∀k,Fk (c.r k) (c'.r k))(hw:c'.AF=c.AF){g:AM}(h:¬c.busy g):¬c'.busy g:=by
 rintro⟨k1,k2,k3⟩;refine h ⟨k1,?_,?_⟩
 ·have:=(hr g.stream.toNat).given
  cases e:(c.r g.stream.toNat).given
  ·rfl
  ·rw [e]at this;rw [this rfl]at k2;cases k2
 ·rw [(hr g.stream.toNat).read,hw]at k3;exact k3
theorem BC.BO(hd:AY u d):∀(fs:List AM) (c:AD),BC c d L L' R R'→AY t c→(∀f∈fs,Eu d.ws f∧Fv R d.ws f∧¬c.busy f)→
  (c.BO fs).1=0∧BC (c.BO fs).2 d L L' R R'∧(c.BO fs).2.AI=c.AI∧Iw c (c.BO fs).2∧(∀k,Fk (c.r k) ((c.BO fs).2.r k))∧(c.BO fs).2.AF=c.AF∧(∀k,EZ (c.r k) ((c.BO fs).2.r k))∧(∀f∈fs,LW ((c.BO fs).2.r f.stream.toNat) f)
 |[],c,h,_,_=>⟨rfl,h,rfl,.refl _,fun _=>.refl _,rfl,fun _=>.refl _,(fun _ h=>nomatch h)⟩
 |f::fs,c,h,hc,hf=>by
  obtain⟨h1,h2,h3⟩:=hf f Ce;obtain⟨a,b,e1,e2,e3,e4⟩:=h.take hc hd h1 h2 h3;obtain⟨a',b',e'⟩:=hc.take f (.of h1.ok) h3;rw [AD.BO,if_neg Ca]
  have hx:BC ({(c.take f).2 with answer:=(c.take f).2.answer||(decide (f.kind≠3)&&decide (f.kind≠1))}:AD) d L L' R R':=
   ⟨⟨b.s.len,b.s.An,b.s.ne,b.s.fr⟩,b.s',⟨b.p.num,b.p.proc,b.p.rd,b.p.BM,b.p.full⟩,⟨b.p'.num,b.p'.proc,b.p'.rd,b.p'.BM,b.p'.full⟩,b.Dy,b.ks,b.first,b.o,b.o'⟩
  obtain⟨i1,i2,i3,i4,i5,i6,i7,i8⟩:=BC.BO hd fs ({(c.take f).2 with answer:=(c.take f).2.answer||(decide (f.kind≠3)&&decide (f.kind≠1))}:AD) hx {a' with}
   (fun g hg=>⟨(hf g Ci).1,(hf g Ci).2.1,K2 (c:=c) (fun k=>b' k) e' (hf g Ci).2.2⟩)
  exact⟨i1,i2,i3.trans e1,e2.trans ⟨i4.same,i4.AE⟩,fun k=>(b' k).trans (i5 k),i6.trans e',fun k=>(e3 k).trans (i7 k),fun g hg=>(lf.1 hg).elim (fun x=>by rw [x];exact e4.more (i7 _)) (i8 g)⟩
theorem Ej.add{n m:Nat}(g:Ej c n R')(hn:∀m,R' m→m<n)(ho:DK c.AI 4611686018427387904)(hm:m<n):Ej ({c with AI:=c.AI.add m m}:AD) n (fun x=>R' x∨x=m):=by
 have hin:∀x,Ao x c.AI.l∨(m≤x∧x≤m)→x<n:=fun x hx=>by
  rcases hx with hx|hx
  ·exact hn x (g.AI x hx)
  ·omega
 refine⟨fun x hx=>?_,?_⟩
 ·rcases BD.OQ hx with h|h
  ·exact .inl (g.AI x h)
  ·exact Kl
 ·show(c.AI.add m m).floor≤n;unfold BD.add;split
  ·exact g.fl
  ·rename_i h0;split
   ·show((B2 (max m c.AI.floor) m c.AI.l).headD ⟨0,0⟩).hi+1≤n
    have hmm:max m c.AI.floor=m:=by omega
    rw [hmm];have hI:=K5 c.AI.l m m CW ho.inc
    cases e:B2 m m c.AI.l with
    |nil=>exact absurd e (Lj _ _ _)
    |cons r rs=>
     show r.hi+1≤n;have h1:=NX _ hI r (by rw [e];simp)
     have h2:Ao r.hi (B2 m m c.AI.l):=⟨r,by rw [e];simp,h1,e_ _⟩
     have:=hin r.hi (((LL c.AI.l m m r.hi CW).1 h2).symm)
     omega
   ·exact g.fl
theorem JQ{n:Nat}(h:n≤4611686018427387903):(h_ n).toNat=n:=by
 rw [UInt64.toNat_ofNat'];omega
theorem Vp{fs:List AM}(h:∀f∈fs,D4 f=f):fs.map D4=fs:=by
 induction fs with
 |nil=>rfl
 |cons f fs ih=>rw [lh,h f Ce,ih (fun g hg=>h g Ci)]
structure qG(c c':AD):Prop where
 w:Iw c c'
 r:∀k,Fk (c.r k) (c'.r k)
 Dy:c'.AF=c.AF
theorem BC.BA(h:BC c d L L' R R')(hc:AY t c)(hd:AY u d)(g:Ej c L'.length R'){n:Nat}{fs:List AM}(hn:L'[n]?=some fs)(hu:u≤1000000000):
  ∃R2,((c.BA (Bk d.ks (Ae d.first) (h_ n) (Ar fs))).1.1=0∨(c.BA (Bk d.ks (Ae d.first) (h_ n) (Ar fs))).1.1=6)∧
   BC (c.BA (Bk d.ks (Ae d.first) (h_ n) (Ar fs))).2 d L L' R R2∧Ej (c.BA (Bk d.ks (Ae d.first) (h_ n) (Ar fs))).2 L'.length R2∧
   qG c (c.BA (Bk d.ks (Ae d.first) (h_ n) (Ar fs))).2:=by
 have hlt:n<L'.length:=by
  rcases kr n L'.length with h|h
  ·exact h
  ·rw [List.getElem?_eq_none h]at hn;cases hn
 have hmem:fs∈L':=List.mem_of_getElem? hn;obtain⟨ne,nl⟩:=h.s'.ne fs hmem;have hfr:=h.s'.fr fs hmem;have hnx:=hd.nx
 have hnL:n≤4611686018427387903:=by have:=h.s'.len;omega
 have ho:B3 c.ks (Ae (!c.first)) (Bk d.ks (Ae d.first) (h_ n) (Ar fs))=some (h_ n,Ar fs):=by
  rw [h.ks,h.first];exact OL _ _ _ _ Vd Sw
 have hdec:FN (Ar fs)=.ok fs:=by
  have he:Fu fs=some (Ar fs):=by unfold Fu;rw [if_pos ⟨ne,fun f hf=>(hfr f hf).1.ok⟩]
  have:=(UU he (fun f hf=>by have:=(hfr f hf).1.rg;omega)).1
  rw [Vp (fun f hf=>(hfr f hf).1.nm)]at this;exact this
 unfold AD.BA;rw [if_neg Pg,ho];dsimp only;rw [JQ hnL];by_cases hh:c.AI.has n
 ·rw [if_pos hh];exact⟨R',.inl rfl,h,g,⟨.refl _,fun _=>.refl _,rfl⟩⟩
 rw [if_neg hh,hdec];dsimp only;by_cases hb:∃f∈fs,c.busy f
 ·rw [if_pos hb];exact⟨R',.inr rfl,h,g,⟨.refl _,fun _=>.refl _,rfl⟩⟩
 rw [if_neg hb];have hg':=hc.AI.add n n Ca (by rw [hc.gm];omega)
 have hc2:AY t ({c with AI:=c.AI.add n n}:AD):={hc with AI:=hg'.1,gm:=hg'.2.trans hc.gm}
 have h2:BC ({c with AI:=c.AI.add n n}:AD) d L L' R R':=
  ⟨⟨h.s.len,h.s.An,h.s.ne,h.s.fr⟩,h.s',⟨h.p.num,h.p.proc,h.p.rd,h.p.BM,h.p.full⟩,⟨h.p'.num,h.p'.proc,h.p'.rd,h.p'.BM,h.p'.full⟩,h.Dy,h.ks,h.first,h.o,h.o'⟩
 obtain⟨a1,a2,a3,a4,a5,a6,a7,a8⟩:=BC.BO (t:=t) hd fs ({c with AI:=c.AI.add n n}:AD) h2 hc2 (fun f hf=>⟨(hfr f hf).1,(hfr f hf).2,fun e=>hb ⟨f,hf,e⟩⟩);refine⟨fun x=>R' x∨x=n,.inl a1,?_,?_,⟨⟨a4.same,a4.AE⟩,a5,a6⟩⟩
 ·refine⟨⟨a2.s.len,a2.s.An,a2.s.ne,fun fs hfs f hf=>⟨(a2.s.fr fs hfs f hf).1,?_⟩⟩,a2.s',a2.p,⟨?_,?_,a2.p'.rd,a2.p'.BM,?_⟩,a2.Dy,a2.ks,a2.first,a2.o,a2.o'⟩
  ·have s:=(a2.s.fr fs hfs f hf).2;exact⟨s.kind,fun e r hr m x y=>.inl (s.FO e r hr m x y),s.reset,s.data,s.fin⟩
  ·intro m hm;rcases hm with hm|hm
   ·exact a2.p'.num m hm
   ·omega
  ·intro m gs hm e f hf h5;rcases hm with hm|hm
   ·exact a2.p'.proc m gs hm e f hf h5
   ·subst hm;rw [hn]at e;obtain rfl:fs=gs:=kn.inj e;have hnb:¬c.busy f:=fun e=>hb ⟨f,hf,e⟩;rw [(a5 f.stream.toNat).read,a6];cases e2:(c.r f.stream.toNat).given
    ·right;rcases kr ((c.r f.stream.toNat).read+c.AF) (f.offset+f.data.size)with hlt|hge
     ·exact absurd ⟨h5,e2,hlt⟩ hnb
     ·exact hge
    ·exact .inl ((a5 f.stream.toNat).given e2)
  ·intro m gs hm e f hf;rcases hm with hm|hm
   ·exact a2.p'.full m gs hm e f hf
   ·subst hm;rw [hn]at e;obtain rfl:fs=gs:=kn.inj e;exact a8 f hf
 ·have:=g.add h.p'.num hc.AI hlt
  exact⟨by rw [a3];exact this.AI,by rw [a3];exact this.fl⟩
end
section
variable{c d:AD}{L L':List (List AM)}{R R':Nat→Prop}{t u:Nat}
structure ic(w:AR)(r r':Bf)(AL:Nat)(a:List UInt8×Nat×Nat×Nat):Prop where
 len:a.1.length≤AL
 data:a.1=(w.b.drop r.read).take a.1.length
 fits:r.read+a.1.length≤w.b.length
 read:r'.read=r.read+a.1.length
 state:r'.state=a.2.1
 shut:r.state≠0→a.1=[]∧a.2.1=r.state
 e:a.2.2.2=0
 open_:a.2.1=0→a.2.2.1=0
 fin:a.2.1=1→w.finished=true∧r'.read=w.b.length∧a.2.2.1=0
 B':a.2.1=2→w.given=true∧a.2.2.1=w.code
 st:a.2.1≤2
theorem Mg{c:AD}{k:Nat}(h:c.closed=0)(hk:k<4):c.stream (k:Int)=0:=by
 unfold AD.stream;rw [if_neg Ca,if_neg Ca]
theorem BC.read(h:BC c d L L' R R')(hc:AY t c)(hd:AY u d){k:Nat}(hk:k<4)(AL:Nat):
  BC (c.read k AL).2 d L L' R R'∧(c.read k AL).2.ws=c.ws∧(c.read k AL).2.AI=c.AI∧(∀j,j≠k→(c.read k AL).2.r j=c.r j)∧ic (d.w k) (c.r k) ((c.read k AL).2.r k) AL (c.read k AL).1:=by
 have g:=h.p'.rd k hk;have ho:=hc.rs k hk;have hw:=hd.high hk
 have hset:∀(r:Bf) j,((c.BV k r).r j)=if k=j∧k<4 then r else c.r j:=fun r j=>by
  show(c.rs.set k r).getD j FD=_;rw [Bs,hc.rl];rfl
 have hself:∀r:Bf,(c.BV k r).r k=r:=fun r=>by rw [hset,if_pos ⟨rfl,hk⟩]
 have hoth:∀(r:Bf) j,j≠k→(c.BV k r).r j=c.r j:=fun r j hj=>by rw [hset,if_neg (fun e=>hj e.1.symm)]
 have hrh:=ho.rh;unfold AD.read;rw [if_neg (by rw [Mg h.o hk];simp)];dsimp only;rw [kt];by_cases hgs:(c.r k).given=true∧(c.r k).state=0
 ·have e:c.Dz k={c.r k with state:=2,b:=[]}:=by unfold AD.Dz;rw [if_pos hgs]
  rw [e];dsimp only;rw [if_neg Cc,if_pos rfl]
  have g1:Hl (d.w k) {c.r k with state:=2,b:=[]}:=⟨g.high,g.en,g.B',g.fin,(fun e=>by rw [show(c.r k).given=false from e]at hgs;exact absurd hgs.1 Cc),fun e=>by cases e⟩
  refine⟨h.BV hc hk g1 CW ⟨fun x=>x,fun _ x=>x,fun x=>x⟩,rfl,rfl,hoth _,?_⟩;rw [hself];obtain⟨b1,b2⟩:=g.B' hgs.1;refine⟨c_ _,rfl,?_,rfl,rfl,(fun e=>absurd hgs.2 e),rfl,(fun e=>by cases e),(fun e=>by cases e),fun _=>⟨b1,b2⟩,e_ _⟩
  have:=g.high
  show(c.r k).read+0≤_;omega
 ·have e:c.Dz k=c.r k:=by unfold AD.Dz;rw [if_neg hgs]
  rw [e];by_cases h0:(c.r k).state=0
  ·have hg:(c.r k).given=false:=by
    cases e2:(c.r k).given
    ·rfl
    ·exact absurd ⟨e2,h0⟩ hgs
   rw [if_pos h0];generalize hn:AD.Gy (c.r k) (AL:Int)=n;have hgap:=HS (c.r k).AE.l (c.r k).read (c.r k).high ho.co.inc hrh;have hfirst:=LU (lo:=(c.r k).read) (hi:=(c.r k).high) ho.co.inc hrh ho.co.hi
   have hn1:n≤(AV (c.r k).read (c.r k).high (c.r k).AE.l).1-(c.r k).read∧n≤AL:=by
    unfold AD.Gy at hn;rw [kt]at hn;omega
   have hl:=ho.len hg;have hh:=g.high
   have hnb:n≤(c.r k).b.length:=by omega
   have hin:∀p,(c.r k).read≤p→p<(c.r k).read+n→Ao p (c.r k).AE.l:=fun p h1 h2=>hgap.2.1 p h1 Ca
   have htl:((c.r k).b.take n).length=n:=by rw [kp];omega
   have hd2:(c.r k).b.take n=((d.w k).b.drop (c.r k).read).take n:=by
    refine kv (by rw [htl,kp,kg];omega) fun i h1 h2=>?_
    have hi:i<n:=by rw [htl]at h1;exact h1
    have:=g.b hg ((c.r k).read+i) (hin _ Ca Ca) Ca
    rw [Nat.add_sub_cancel_left,b_,b_,g' Ca,g' Ca]at this;rw [lm,lm,List.getElem_drop];exact this
   have hrel:∀r3:Bf,r3={c.r k with b:=(c.r k).b.drop n,read:=(c.r k).read+n}∨(r3={({c.r k with b:=(c.r k).b.drop n,read:=(c.r k).read+n}:Bf)with state:=1}∧(c.r k).ended=true∧(c.r k).read+n=(c.r k).end_)→Hl (d.w k) r3:=by
    intro r3 hr3
    have hb:∀p,Ao p (c.r k).AE.l→(c.r k).read+n≤p→((c.r k).b.drop n).getD (p-((c.r k).read+n)) 0=(d.w k).b.getD p 0:=fun p hp h1=>by
     rw [←g.b hg p hp Ca,b_,b_,km];congr 2;omega
    rcases hr3 with rfl|⟨rfl,e1,e2⟩
    ·exact⟨g.high,g.en,g.B',g.fin,fun _=>hb,fun e=>by rw [show(c.r k).state=1 from e]at h0;cases h0⟩
    ·obtain⟨b1,b2⟩:=g.fin e1 hg;refine⟨g.high,g.en,g.B',g.fin,fun _=>hb,fun _=>⟨b1,?_⟩⟩;show(c.r k).read+n=_;rw [e2,(g.en e1).2,b2]
   by_cases hfin:(c.r k).ended=true∧(c.r k).read+n=(c.r k).end_
   ·rw [if_pos hfin];refine⟨h.BV hc hk (hrel _ (.inr ⟨rfl,hfin.1,hfin.2⟩)) Ww ⟨fun x=>x,fun _ x=>x,fun x=>x⟩,rfl,rfl,hoth _,?_⟩;rw [hself];obtain⟨b1,b2⟩:=g.fin hfin.1 hg;refine⟨YV,Zj,bH,cA,rfl,fun e=>absurd h0 e,rfl,fun _=>rfl,fun _=>⟨b1,?_,rfl⟩,(fun e=>by cases e),by show 1≤2;omega⟩;show(c.r k).read+n=_;rw [hfin.2,(g.en hfin.1).2,b2]
   ·rw [if_neg hfin];refine⟨h.BV hc hk (hrel _ (.inl rfl)) Ww ⟨fun x=>x,fun _ x=>x,fun x=>x⟩,rfl,rfl,hoth _,?_⟩;rw [hself];refine⟨YV,Zj,bH,cA,rfl,fun e=>absurd h0 e,rfl,fun _=>rfl,(fun e=>by rw [show(c.r k).state=1 from e]at h0;cases h0),(fun e=>by rw [show(c.r k).state=2 from e]at h0;cases h0),ho.st⟩
  ·rw [if_neg h0];refine⟨h.BV hc hk g CW ⟨fun x=>x,fun _ x=>x,fun x=>x⟩,rfl,rfl,hoth _,?_⟩;rw [hself];have hh:=g.high;refine⟨c_ _,rfl,by show(c.r k).read+0≤_;omega,rfl,rfl,fun _=>BY,rfl,fun e=>absurd e h0,fun e=>?_,fun e=>?_,ho.st⟩
   ·obtain⟨b1,b2⟩:=g.ME e;refine⟨b1,b2,?_⟩;show(if(c.r k).state=2 then(c.r k).code else 0)=0;rw [if_neg (by rw [show(c.r k).state=1 from e];decide)]
   ·obtain⟨b1,b2⟩:=g.B' (ho.MW e);refine⟨b1,?_⟩;show(if(c.r k).state=2 then(c.r k).code else 0)=_;rw [if_pos (show(c.r k).state=2 from e),b2]
theorem HT.grow{w w':AR}{k:Nat}{f:AM}(hw:w.high≤w.b.length)(h:HT w w' k f):Dv w w'∧w'.AE=w.AE:=by
 rcases h with⟨h1,h2,h3,h4⟩|⟨h1,lo,hi,h2,h3,h4,h5,h6,h7,h8⟩
 ·subst h4;exact⟨⟨⟨[],(g_ _).symm⟩,e_ _,fun e=>⟨e,rfl⟩,fun e=>⟨e,rfl⟩,fun _=>rfl⟩,rfl⟩
 ·subst h8;refine⟨⟨⟨[],(g_ _).symm⟩,ly _ _,fun e=>⟨e,rfl⟩,(fun e=>by rw [h1]at e;cases e),fun e=>?_⟩,rfl⟩;rcases e with e|⟨e1,e2⟩
  ·rw [h1]at e;cases e
  ·show max w.high hi=w.high;omega
theorem HT.pO{ws:List AR}{w':AR}{k:Nat}{f:AM}(hl:ws.length=4)(hk:k<4)(hw:(ws.getD k Ab).high≤(ws.getD k Ab).b.length)(h:HT (ws.getD k Ab) w' k f):Fv R (ws.set k w') f:=by
 have e:(ws.set k w').getD k Ab=w':=by rw [Bs,if_pos OV]
 rcases h with⟨h1,h2,h3,h4⟩|⟨h1,lo,hi,h2,h3,h4,h5,h6,h7,h8⟩
 ·subst h3;refine⟨.inr (.inl rfl),(fun e=>by cases e),fun _=>?_,(fun e=>by cases e),fun e=>by cases e⟩;show((ws.set k w').getD k Ab).given=true∧(ws.getD k Ab).code=((ws.set k w').getD k Ab).code∧(ws.getD k Ab).high=((ws.set k w').getD k Ab).high;rw [e,h4];exact⟨h1,rfl,rfl⟩
 ·have hsz:f.offset+f.data.size=hi:=by
   rw [h4,Ld,I3 h3];show lo+(hi-lo)=hi;omega
  have hst:f.stream.toNat=k:=by rw [h4];rfl
  have hoff:f.offset=lo:=by rw [h4];rfl
  have hdat:f.data.data.toList=cut (ws.getD k Ab).b lo hi:=by rw [h4];exact List.toList_toArray
  have hfin:f.fin=true→(ws.getD k Ab).finished=true∧hi=(ws.getD k Ab).b.length:=fun e=>by
   rw [h4]at e;have e':((ws.getD k Ab).finished&&decide (hi=(ws.getD k Ab).b.length))=true:=e;simpa using e'
  have hkd:f.kind=5:=by rw [h4];rfl
  refine⟨.inr (.inr hkd),fun e=>by omega,fun e=>by omega,fun _=>?_,fun _ e2=>?_⟩
  ·rw [hst,e,hsz,hoff,h8];exact⟨Nat.le_max_right _ _,hdat⟩
  ·rw [hst,e,hsz,h8];obtain⟨b1,b2⟩:=hfin e2;refine⟨b1,?_,b2⟩;show max (ws.getD k Ab).high hi=(ws.getD k Ab).b.length;omega
structure MF(R:Nat→Prop)(AF:Nat)(ws0:List AR)(d0:BK)(ws:List AR)(d:BK):Prop where
 f:Ho AF ws0 d0 ws d
 g:∀k,Dv (ws0.getD k Ab) (ws.getD k Ab)∧(ws.getD k Ab).AE=(ws0.getD k Ab).AE
 s:∀f∈d.Ag,Fv R ws f
theorem J_{ws:List AR}{k:Nat}{w':AR}(h:Dv (ws.getD k Ab) w')(e:w'.AE=(ws.getD k Ab).AE)(j:Nat):Dv (ws.getD j Ab) ((ws.set k w').getD j Ab)∧((ws.set k w').getD j Ab).AE=(ws.getD j Ab).AE:=by
 rw [Bs];split
 ·rename_i e2;rw [←e2.1];exact⟨h,e⟩
 ·exact⟨.refl _,rfl⟩
theorem MF.step{AF:Nat}{ws0 ws:List AR}{d0 d d':BK}(h:MF R AF ws0 d0 ws d){k:Nat}{w':AR}(hk:k<4)(e:(ws.getD k Ab).fill d k=some (w',d')):MF R AF ws0 d0 (ws.set k w') d':=by
 obtain⟨f,h1,h2⟩:=SS (h.f.Ey.ok k hk) e;have hw:=(h.f.Ey.ok k hk).high;obtain⟨g1,g2⟩:=h2.grow hw;have hg:=J_ g1 g2;refine⟨(h.f.step hk e).1,fun j=>⟨(h.g j).1.trans (hg j).1,(hg j).2.trans (h.g j).2⟩,fun f' hf=>?_⟩;rw [(Qj h1).1]at hf;rcases i_.1 hf with hf|hf
 ·exact(h.s f' hf).grow (fun _ x=>x) (fun j=>(hg j).1) (fun _=>(h.f.Ey.ok _ (h.f.HV.fr f' hf).s4).high)
 ·rw [f_.1 hf];exact h2.pO h.f.Ey.len hk hw
theorem cr{c:AD}{told:List AT}(ht:∀r∈told,∀n,r.lo≤n→n≤r.hi→R n)(ws:List AR):∀f∈(c.Bt told).Ag,Fv R ws f:=by
 intro f hf;by_cases h:told=[]
 ·subst h;cases hf
 ·rw [OE c h]at hf;rw [f_.1 hf];exact⟨.inl rfl,fun _ r hr n a b=>ht r U0 n a b,(fun e=>by cases e),(fun e=>by cases e),fun e=>by cases e⟩
theorem Bx.Zb{z:A4}(h:Bx t z)(ht:∀r∈z.told,∀n,r.lo≤n→n≤r.hi→R n):MF R z.c.AF z.c.ws (z.c.Bt z.told) z.filled.1 z.filled.2:=by
 have h0:MF R z.c.AF z.c.ws (z.c.Bt z.told) z.c.ws (z.c.Bt z.told):=⟨.refl h.c.ws (KL h.c h.told h.tl),fun k=>⟨.refl _,rfl⟩,cr ht _⟩
 unfold A4.filled;split
 ·exact SE (MF R z.c.AF z.c.ws (z.c.Bt z.told)) (fun ws' d' h=>h.f.Ey.len) (fun ws' d' k w' d2 h hk e=>h.step hk e) 4 0 _ _ CW h0
 ·exact h0
def outs(ks:List UInt8)(side:UInt8):Nat→List (List AM)→List (List UInt8)
 |_,[]=>[]
 |n,fs::l=>Bk ks side (h_ n) (Ar fs)::outs ks side (n+1) l
structure JF(c c':AD):Prop where
 rs:c'.rs=c.rs
 AI:c'.AI=c.AI
 ks:c'.ks=c.ks
 first:c'.first=c.first
 AJ:c'.AJ=c.AJ
 AF:c'.AF=c.AF
 w:∀k,IV (c.w k) (c'.w k)
theorem JF.refl(c:AD):JF c c:=⟨rfl,rfl,rfl,rfl,rfl,rfl,fun _=>.refl _⟩
theorem JF.trans{a b c:AD}(h:JF a b)(g:JF b c):JF a c:=
 ⟨g.rs.trans h.rs,g.AI.trans h.AI,g.ks.trans h.ks,g.first.trans h.first,g.AJ.trans h.AJ,g.AF.trans h.AF,fun k=>(h.w k).trans (g.w k)⟩
theorem BC.fill{z:A4}(h:BC z.c d L L' R R')(hz:Bx t z)(hd:AY u d)(ht:∀r∈z.told,∀n,r.lo≤n→n≤r.hi→R' n):BC ({z.c with ws:=z.filled.1}:AD) d L L' R R':=by
 have g:=hz.Zb ht;exact h.G3 hz.c hd ⟨rfl,rfl,rfl,rfl,rfl,rfl,rfl,rfl,fun _ x=>x,g.f.Ey.len,g.g⟩
theorem BC.Sa{z:A4}(h:BC z.c d L L' R R')(hz:Bx t z)(hd:AY u d)(ht:∀r∈z.told,∀n,r.lo≤n→n≤r.hi→R' n)(hne:z.filled.2.Ag≠ []):BC z.step.c d (L++[z.filled.2.Ag]) L' R R':=by
 have g:=hz.Zb ht;have h1:=h.fill hz hd ht;have hlen:=h.s.len;have hroom:z.filled.2.room=z.c.AJ-16:=g.f.room;have hb:(Ar z.filled.2.Ag).length≤z.filled.2.room:=g.f.HV.len;have hm:=hz.c.m1;refine⟨⟨?_,?_,?_,?_⟩,h1.s',⟨?_,?_,h1.p.rd,h1.p.BM,?_⟩,⟨h1.p'.num,h1.p'.proc,h1.p'.rd,h1.p'.BM,h1.p'.full⟩,h1.Dy,h1.ks,h1.first,h1.o,h1.o'⟩
 ·show(L++[_]).length=z.c.next+1;rw [a_,hlen];rfl
 ·intro p hp
  have hp':(p∈z.c.Aa∨p∈z.c.lost)∨p=⟨z.c.next,z.c.now,z.filled.2.Ag⟩:=by
   rcases hp with hp|hp
   ·have hp:p∈(if DE z.filled.2.Ag then z.c.Aa++[⟨z.c.next,z.c.now,z.filled.2.Ag⟩]else z.c.Aa):=hp;split at hp
    ·rcases i_.1 hp with hp|hp
     ·exact .inl Ii
     ·exact .inr (f_.1 hp)
    ·exact .inl Ii
   ·exact .inl LX
  rcases hp' with hp'|hp'
  ·have:=(hz.c.An p hp').num
   rw [j_ Ca];exact h.s.An p hp'
  ·rw [hp'];show(L++[z.filled.2.Ag])[z.c.next]?=_;rw [←hlen,List.getElem?_append_right CW,Nat.sub_self];rfl
 ·intro fs hfs;rcases i_.1 hfs with hfs|hfs
  ·exact h.s.ne fs hfs
  ·rw [f_.1 hfs];exact⟨hne,by show _≤z.c.AJ;omega⟩
 ·intro fs hfs f hf;rcases i_.1 hfs with hfs|hfs
  ·exact h1.s.fr fs hfs f hf
  ·rw [f_.1 hfs]at hf;exact⟨g.f.HV.fr f hf,g.s f hf⟩
 ·intro n hn
  have:=h.p.num n hn
  rw [a_];omega
 ·intro n fs hn e f hf h5;rw [j_ (h.p.num n hn)]at e;exact h.p.proc n fs hn e f hf h5
 ·intro n fs hn e f hf;rw [j_ (h.p.num n hn)]at e;exact h.p.full n fs hn e f hf
theorem A4.sends{z:A4}(hz:Bx t z):JF z.c z.step.c:=iJ
theorem BC.B0(hd:AY u d):∀(n:Nat) (z:A4) (L:List (List AM)),BC z.c d L L' R R'→Bx t z→(∀r∈z.told,∀n,r.lo≤n→n≤r.hi→R' n)→
  ∃Ls,BC (B0 n z).c d (L++Ls) L' R R'∧JF z.c (B0 n z).c∧(B0 n z).out=z.out++outs z.c.ks (Ae z.c.first) L.length Ls
 |0,z,L,h,hz,ht=>⟨[],by rw [g_];exact h,.refl _,(g_ _).symm⟩
 |n+1,z,L,h,hz,ht=>by
  rw [Go.Proofs.YtgfdlpcdjklcoaaGreatDoor.B0];split
  ·exact⟨[],by rw [g_];exact h.fill hz hd ht,iJ,(g_ _).symm⟩
  ·rename_i hne;obtain⟨Ls,a,b,e⟩:=BC.B0 hd n z.step (L++[z.filled.2.Ag]) (h.Sa hz hd ht hne) (hz.step hne).1 (fun r hr=>ht r SQ);refine⟨z.filled.2.Ag::Ls,?_,(A4.sends hz).trans b,?_⟩
   ·rw [d_]at a;exact a
   ·rw [e];show(z.out++[Bk z.c.ks (Ae z.c.first) (h_ z.c.next) z.filled.2.b])++outs z.c.ks (Ae z.c.first) (L++[_]).length Ls=_;rw [d_,←h.s.len,a_];rfl
theorem BC.As(h:BC c d L L' R R')(hc:AY t c)(hd:AY u d)(g:Ej c L'.length R'):
  ∃Ls,BC c.As.2 d (L++Ls) L' R R'∧JF c c.As.2∧c.As.1=outs c.ks (Ae c.first) L.length Ls:=by
 unfold AD.As;rw [if_neg Pg]
 have h0:BC ({c with answer:=false}:AD) d L L' R R':=
  ⟨⟨h.s.len,h.s.An,h.s.ne,h.s.fr⟩,h.s',⟨h.p.num,h.p.proc,h.p.rd,h.p.BM,h.p.full⟩,⟨h.p'.num,h.p'.proc,h.p'.rd,h.p'.BM,h.p'.full⟩,h.Dy,h.ks,h.first,h.o,h.o'⟩
 obtain⟨Ls,a,b,e⟩:=BC.B0 hd 40 ⟨{c with answer:=false},if c.answer then c.AI.l.reverse else [],[]⟩ L h0 (Bx.begin hc) (by
  intro r hr n h1 h2
  have hr:r∈(if c.answer then c.AI.l.reverse else []):=hr
  split at hr
  ·exact g.AI n ⟨r,Nh,h1,h2⟩
  ·cases hr)
 exact⟨Ls,a,⟨b.rs,b.AI,b.ks,b.first,b.AJ,b.AF,b.w⟩,e⟩
end
section
structure Du where
 wrote:List UInt8
 finished:Bool
 given:Bool
 code:Nat
 read:Nat
 state:Nat
 AE:Nat
def Da:Du:=⟨[],false,false,0,0,0,0⟩
structure DB where
 kind:Int
 side:Int
 a:Int
 b:Int
 s:ByteArray
def AP(c:Int)(n:Nat):Nat:=((if c<0 then -(c+1)else c)%(n:Int)).toNat
structure AH where
 xs:List AD
 ends:List (List Du)
 AJ:Nat
 AF:Nat
 ks:List UInt8
 AN:List (Nat×ByteArray)
 count:List Nat
def Jk:AD:=.new 64 16 [] false
def AH.x(n:AH)(i:Nat):AD:=n.xs.getD i Jk
def AH.e(n:AH)(i k:Nat):Du:=(n.ends.getD i []).getD k Da
def AH.cnt(n:AH)(i:Nat):Nat:=n.count.getD i 0
def AH.Aq(n:AH)(i:Nat)(c:AD):AH:={n with xs:=n.xs.set i c}
def AH.C4(n:AH)(i k:Nat)(o:Du):AH:={n with ends:=n.ends.set i ((n.ends.getD i []).set k o)}
def Du.bad(o:Du)(AF:Nat)(a:Nat×Nat):Prop:=a.2≠0∨a.1<o.AE∨o.wrote.length<a.1∨(o.given=false∧o.state=0∧o.read+AF<a.1)
instance(o:Du)(AF:Nat)(a:Nat×Nat):Decidable (o.bad AF a):=by unfold Du.bad;infer_instance
def CO(i:Nat):Nat→Nat→AH→Bool×AH
 |_,0,n=>(true,n)
 |k,m+1,n=>if(n.e i k).bad n.AF ((n.x i).AE k)then(false,n)else CO i (k+1) m (n.C4 i k {n.e i k with AE:=((n.x i).AE k).1})
def AH.wr(n:AH)(i k:Nat)(s:ByteArray):Bool×AH:=
 let r:=(n.x i).write k s.data.toList
 let n1:=n.Aq i r.2
 if(n.e i k).finished=true∨(n.e i k).given=true then(decide (r.1.2=3∧r.1.1=0),n1)
 else
  let z:=CO i 0 4 n1
  if z.1=false∨r.1.2≠0∨s.size<r.1.1∨n.AF+(z.2.e i k).AE<(z.2.e i k).wrote.length+r.1.1 then(false,z.2)
  else(true,z.2.C4 i k {z.2.e i k with wrote:=(z.2.e i k).wrote++s.data.toList.take r.1.1})
def AH.fin(n:AH)(i k:Nat):Bool×AH:=
 let r:=(n.x i).finish k
 let n1:=n.Aq i r.2
 if(n.e i k).finished=true∨(n.e i k).given=true then(decide (r.1=3),n1)else(decide (r.1=0),n1.C4 i k {n.e i k with finished:=true})
def AH.B'(n:AH)(i k c:Nat):Bool×AH:=
 let r:=(n.x i).giveUp k c
 let n1:=n.Aq i r.2
 if(n.e i k).given=true then(decide (r.1=3),n1)else(decide (r.1=0),n1.C4 i k {n.e i k with given:=true,code:=c})
def AH.tick(n:AH):AH:=(n.Aq 0 (n.x 0).tick).Aq 1 (n.x 1).tick
def Fh(i:Nat):List (List UInt8)→AH→Bool×AH
 |[],n=>(true,n)
 |p::ps,n=>match B3 n.ks (Ae (decide (i=0))) p with
  |none=>(false,n)
  |some (m,b)=>if n.AJ<p.length∨m.toNat≠n.cnt i∨b=[]then(false,n)
   else Fh i ps {n with count:=n.count.set i (n.cnt i+1),AN:=n.AN++[(1-i,AW p)]}
def AH.flush(n:AH)(i:Nat):Bool×AH:=Fh i (n.x i).As.1 (n.Aq i (n.x i).As.2)
def AH.comes(n:AH)(i:Nat)(b:ByteArray):Bool×AH:=
 let r:=(n.x i).BA b.data.toList
 let z:=CO i 0 4 (n.Aq i r.2)
 (z.1&&decide (r.1.1=0∨r.1.1=6),z.2)
def AH.DO(n:AH)(i:Nat)(b:List UInt8):Bool×AH:=
 match B3 n.ks (Ae (decide (i≠0))) b with
 |some _=>(true,n)
 |none=>(decide (((n.x i).BA b).1.1=4),n.Aq i ((n.x i).BA b).2)
def Z9(b:List UInt8)(at_:Nat)(s:List UInt8):List UInt8:=
 b.take at_++[b.getD at_ 0 ^^^(if s≠ []∧s.getD 0 0≠0 then s.getD 0 0 else 1)]++b.drop (at_+1)
def AH.carry(n:AH)(s:DB):Bool×AH:=
 if n.AN=[]then(true,n)
 else
  let f:=n.AN.getD (AP s.a n.AN.length) (0,⟨#[]⟩)
  if s.kind=6 then n.comes f.1 f.2
  else if s.kind=9 then n.DO (1-f.1) f.2.data.toList
  else if s.kind=8 then n.DO f.1 (Z9 f.2.data.toList (AP s.b f.2.size) s.s.data.toList)
  else(true,n)
def AH.read(n:AH)(i k:Nat)(AL:Nat):Bool×AH:=
 let o:=n.e (1-i) k
 let r:=(n.x i).read k AL
 let n1:=n.Aq i r.2
 if r.1.2.2.2≠0∨AL<r.1.1.length∨o.wrote.length<o.read+r.1.1.length∨(o.wrote.drop o.read).take r.1.1.length≠r.1.1∨(o.state≠0∧(r.1.1≠ []∨r.1.2.1≠o.state))then(false,n1)
 else
  let o2:Du:={o with read:=o.read+r.1.1.length,state:=r.1.2.1}
  let n2:=n1.C4 (1-i) k o2
  if r.1.2.1=0 then(decide (r.1.2.2.1=0),n2)
  else if r.1.2.1=1 then(decide (o2.finished=true∧o2.read=o2.wrote.length∧r.1.2.2.1=0),n2)
  else if r.1.2.1=2 then(decide (o2.given=true∧r.1.2.2.1=o2.code),n2)else(false,n2)
def AH.step(n:AH)(s:DB):Bool×AH:=
 if s.kind=1 then n.wr (AP s.side 2) (AP s.a 4) s.s
 else if s.kind=2 then n.fin (AP s.side 2) (AP s.a 4)
 else if s.kind=3 then n.B' (AP s.side 2) (AP s.a 4) (AP s.b 1000)
 else if s.kind=4 then(true,n.tick)
 else if s.kind=5 then n.flush (AP s.side 2)
 else if s.kind=10 then n.read (AP s.side 2) (AP s.b 4) (AP s.a 200)
 else if s.kind=7 then n.DO (AP s.side 2) s.s.data.toList
 else n.carry s
def AH.run(without:Int):List DB→AH→Option AH
 |[],n=>some n
 |s::l,n=>if s.kind=without then AH.run without l n else if(n.step s).1=true then AH.run without l (n.step s).2 else none
def Dl:List UInt8:=[3,1,4,1,5,0,0,0,0,0,0,0,0,0,0,0]
def AH.new(AJ AF:Nat):AH:=
 ⟨[.new AJ AF Dl true,.new AJ AF Dl false],mb 2 (mb 4 Da),AJ,AF,Dl,[],[0,0]⟩
def JI(AJ AF:Int):AH:=.new (64+AP AJ 237) (16+AP AF 300)
def th(z:Bool×AH)(f:AH→Bool×AH):Bool×AH:=(z.1&&(f z.2).1,(f z.2).2)
def HO:List (Nat×ByteArray)→Bool×AH→Bool×AH
 |[],z=>z
 |f::fs,z=>HO fs (th z (·.comes f.1 f.2))
def GD(i:Nat):Nat→Nat→Bool×AH→Bool×AH
 |_,0,z=>z
 |k,m+1,z=>GD i (k+1) m (th z (·.read i k 5000))
def AH.round(n:AH):Bool×AH:=
 let z:=th (th (true,n.tick) (·.flush 0)) (·.flush 1)
 GD 1 0 4 (GD 0 0 4 (HO (z.2.AN.drop n.AN.length) z))
def Bh:Nat→AH→Bool×AH
 |0,n=>(true,n)
 |t+1,n=>if n.round.1=true then Bh t n.round.2 else(false,n.round.2)
theorem Db(c:Int){n:Nat}(h:0<n):AP c n<n:=by
 unfold AP
 have h1:0≤(if c<0 then -(c+1)else c):=by split<;>omega
 have h2:=Int.emod_lt_of_pos (if c<0 then -(c+1)else c) (show(0:Int)<n by omega);have h3:=Int.emod_nonneg (if c<0 then -(c+1)else c) (show(n:Int)≠0 by omega);omega
structure Iv(w:AR)(r:Bf)(o:Du)(T:List UInt8):Prop where
 wrote:w.b=o.wrote++T
 pre:w.A0≤o.wrote.length
 finished:o.finished=w.finished
 given:o.given=w.given
 code:o.given=true→o.code=w.code
 read:o.read=r.read
 state:o.state=r.state
 AE:o.AE≤w.A0
structure Ad(t:Nat)(n:AH)(L:Nat→List (List AM))(R:Nat→Nat→Prop)(T:Nat→Nat→List UInt8):Prop where
 xl:n.xs.length=2
 el:n.ends.length=2
 Dp:∀i,i<2→(n.ends.getD i []).length=4
 cl:n.count.length=2
 c:∀i,i<2→AY t (n.x i)
 two:BC (n.x 0) (n.x 1) (L 0) (L 1) (R 0) (R 1)
 g:∀i,i<2→Ej (n.x i) (L (1-i)).length (R (1-i))
 e:∀i k,i<2→k<4→Iv ((n.x i).w k) ((n.x (1-i)).r k) (n.e i k) (T i k)
 AN:∀f∈n.AN,∃i m fs,i<2∧f.1=1-i∧(L i)[m]?=some fs∧f.2=AW (Bk n.ks (Ae (decide (i=0))) (h_ m) (Ar fs))
 cnt:∀i,i<2→n.cnt i=(L i).length
 ks:∀i,i<2→(n.x i).ks=n.ks
 first:∀i,i<2→(n.x i).first=decide (i=0)
 AJ:∀i,i<2→(n.x i).AJ=n.AJ
 AF:∀i,i<2→(n.x i).AF=n.AF
 bl:n.AN.length=(L 0).length+(L 1).length
theorem FF{i:Nat}(h:i<2):i=0∨i=1:=by omega
theorem Ad.at{t:Nat}{n:AH}{L:Nat→List (List AM)}{R:Nat→Nat→Prop}{T:Nat→Nat→List UInt8}(h:Ad t n L R T){i:Nat}(hi:i<2):BC (n.x i) (n.x (1-i)) (L i) (L (1-i)) (R i) (R (1-i)):=by
 rcases FF hi with rfl|rfl
 ·exact h.two
 ·exact h.two.symm
theorem H2(n:AH)(i j:Nat)(c:AD)(hl:n.xs.length=2)(hi:i<2):(n.Aq i c).x j=if i=j then c else n.x j:=by
 show(n.xs.set i c).getD j Jk=_;rw [Bs,hl];by_cases e:i=j
 ·rw [if_pos ⟨e,hi⟩,if_pos e]
 ·rw [if_neg (fun h=>e h.1),if_neg e];rfl
theorem ND(n:AH)(i k j m:Nat)(o:Du)(hl:n.ends.length=2)(h4:(n.ends.getD i []).length=4)(hi:i<2)(hk:k<4):(n.C4 i k o).e j m=if i=j∧k=m then o else n.e j m:=by
 show((n.ends.set i ((n.ends.getD i []).set k o)).getD j []).getD m Da=_;rw [Bs,hl];by_cases e:i=j
 ·subst e;rw [if_pos Ot,Bs,h4];by_cases e2:k=m
  ·rw [if_pos ⟨e2,hk⟩,if_pos ⟨rfl,e2⟩]
  ·rw [if_neg (fun h=>e2 h.1),if_neg (fun h=>e2 h.2)];rfl
 ·rw [if_neg (fun h=>e h.1),if_neg (fun h=>e h.1)];rfl
section
variable{t:Nat}{n:AH}{L:Nat→List (List AM)}{R:Nat→Nat→Prop}{T:Nat→Nat→List UInt8}
theorem Ad.MG(h:Ad t n L R T){i:Nat}(hi:i<2){c:AD}{n':AH}{t':Nat}(ht:t≤t'){L':Nat→List (List AM)}{R':Nat→Nat→Prop}{T':Nat→Nat→List UInt8}
  (hxs:n'.xs=n.xs.set i c)(hel:n'.ends.length=2)(hel4:∀j,j<2→(n'.ends.getD j []).length=4)(hcl:n'.count.length=2)(hnm:n'.AJ=n.AJ)(hnw:n'.AF=n.AF)(hnk:n'.ks=n.ks)(hc:AY t' c)
  (h2:BC c (n.x (1-i)) (L' i) (L' (1-i)) (R' i) (R' (1-i)))(hg:Ej c (L' (1-i)).length (R' (1-i)))(hg':Ej (n.x (1-i)) (L' i).length (R' i))
  (he:∀k,k<4→Iv (c.w k) ((n.x (1-i)).r k) (n'.e i k) (T' i k))(he':∀k,k<4→Iv ((n.x (1-i)).w k) (c.r k) (n'.e (1-i) k) (T' (1-i) k))
  (hbag:∀f∈n'.AN,∃j m fs,j<2∧f.1=1-j∧(L' j)[m]?=some fs∧f.2=AW (Bk n.ks (Ae (decide (j=0))) (h_ m) (Ar fs)))
  (hcnt:∀j,j<2→n'.cnt j=(L' j).length)(hks:c.ks=(n.x i).ks)(hf:c.first=(n.x i).first)(hm:c.AJ=(n.x i).AJ)(hw:c.AF=(n.x i).AF)(hbl:n'.AN.length=(L' 0).length+(L' 1).length):Ad t' n' L' R' T':=by
 have hx:∀j,n'.x j=if i=j then c else n.x j:=fun j=>by
  have:=H2 n i j c h.xl hi
  unfold AH.x at this⊢;rw [hxs];exact this
 have hxi:n'.x i=c:=by rw [hx,if_pos rfl]
 have hxo:n'.x (1-i)=n.x (1-i):=by rw [hx,if_neg Ca]
 have all:∀(P:Nat→AD→Prop),P i c→P (1-i) (n.x (1-i))→∀j,j<2→P j (n'.x j):=by
  intro P h1 h2 j hj;by_cases e:i=j
  ·subst e;rw [hxi];exact h1
  ·have:j=1-i:=by omega
   subst this;rw [hxo];exact h2
 have ho:1-i<2:=by omega
 refine⟨by rw [hxs,ki];exact h.xl,hel,hel4,hcl,all (fun _ c=>AY t' c) hc ((h.c _ ho).mono ht),?_,?_,?_,?_,hcnt,
  all (fun _ c=>c.ks=n'.ks) (by rw [hnk];exact hks.trans (h.ks i hi)) (by rw [hnk];exact h.ks _ ho),all (fun j c=>c.first=decide (j=0)) (hf.trans (h.first i hi)) (h.first _ ho),all (fun _ c=>c.AJ=n'.AJ) (by rw [hnm];exact hm.trans (h.AJ i hi)) (by rw [hnm];exact h.AJ _ ho),
  all (fun _ c=>c.AF=n'.AF) (by rw [hnw];exact hw.trans (h.AF i hi)) (by rw [hnw];exact h.AF _ ho),hbl⟩
 ·rcases FF hi with rfl|rfl
  ·rw [hxi,hxo];exact h2
  ·rw [hxi,hxo];exact h2.symm
 ·rcases FF hi with rfl|rfl
  ·exact dP
  ·exact dP
 ·intro j k hj hk;by_cases e:i=j
  ·subst e;rw [hxi,hxo];exact he k hk
  ·have:j=1-i:=by omega
   subst this;rw [hxo,show 1-(1-i)=i by omega,hxi];exact he' k hk
 ·intro f hf;rw [hnk];exact hbag f hf
theorem Ad.Aq(h:Ad t n L R T){i:Nat}(hi:i<2){c:AD}{t':Nat}(ht:t≤t'){R':Nat→Nat→Prop}{T':Nat→Nat→List UInt8}(hc:AY t' c)
  (h2:BC c (n.x (1-i)) (L i) (L (1-i)) (R' i) (R' (1-i)))(hg:Ej c (L (1-i)).length (R' (1-i)))(hg':Ej (n.x (1-i)) (L i).length (R' i))
  (he:∀k,k<4→Iv (c.w k) ((n.x (1-i)).r k) (n.e i k) (T' i k))(he':∀k,k<4→Iv ((n.x (1-i)).w k) (c.r k) (n.e (1-i) k) (T' (1-i) k))
  (hks:c.ks=(n.x i).ks)(hf:c.first=(n.x i).first)(hm:c.AJ=(n.x i).AJ)(hw:c.AF=(n.x i).AF):Ad t' (n.Aq i c) L R' T':=
 h.MG hi ht rfl h.el h.Dp h.cl rfl rfl rfl hc h2 hg hg' he he' h.AN h.cnt hks hf hm hw h.bl
theorem Ad.C4(h:Ad t n L R T){i k:Nat}(hi:i<2)(hk:k<4){o:Du}{T':Nat→Nat→List UInt8}(hT:∀j m,¬(i=j∧k=m)→T' j m=T j m)(ho:Iv ((n.x i).w k) ((n.x (1-i)).r k) o (T' i k)):Ad t (n.C4 i k o) L R T':=by
 have he:∀j m,(n.C4 i k o).e j m=if i=j∧k=m then o else n.e j m:=fun j m=>ND n i k j m o h.el (h.Dp i hi) hi hk;refine⟨h.xl,by show(n.ends.set _ _).length=2;rw [ki];exact h.el,fun j hj=>?_,h.cl,h.c,h.two,h.g,fun j m hj hm=>?_,h.AN,h.cnt,h.ks,h.first,h.AJ,h.AF,h.bl⟩
 ·show((n.ends.set i ((n.ends.getD i []).set k o)).getD j []).length=4;rw [Bs];split
  ·rw [ki];exact h.Dp i hi
  ·exact h.Dp j hj
 ·rw [he];split
  ·rename_i e;obtain⟨rfl,rfl⟩:=e;exact ho
  ·rename_i e;rw [hT j m e];exact h.e j m hj hm
theorem Ad.Ss(h:Ad t n L R T){i k:Nat}(hi:i<2)(hk:k<4):¬(n.e i k).bad n.AF ((n.x i).AE k):=by
 have h2:=h.at hi;have o:=h.e i k hi hk;have hw:CJ (n.x i).AF ((n.x i).w k):=(h.c i hi).ws.ok k hk
 have e:(n.x i).AE k=(((n.x i).w k).A0,0):=by
  unfold AD.AE;rw [if_neg (by rw [Mg h2.o hk];simp)];rfl
 rw [e];have hp:=o.pre;have hc:=o.AE;rintro(b|b|b|⟨b1,b2,b3⟩)
 ·exact b rfl
 ·have b:((n.x i).w k).A0<(n.e i k).AE:=b;omega
 ·have b:(n.e i k).wrote.length<((n.x i).w k).A0:=b;omega
 ·have b3:(n.e i k).read+n.AF<((n.x i).w k).A0:=b3;rcases h2.p.BM k (((n.x i).w k).A0-1) hk (hw.Wd Ca)with g|g
  ·have:=((h2.p.rd k hk).B' g).1
   rw [←o.given,b1]at this;cases this
  ·rw [h.AF _ Ca,←o.read]at g;omega
theorem Ad.mL(h:Ad t n L R T){i k:Nat}(hi:i<2)(hk4:k<4):(n.x i).AE k=(((n.x i).w k).A0,0)∧Ad t (n.C4 i k {n.e i k with AE:=((n.x i).w k).A0}) L R T:=by
 have o:=h.e i k hi hk4;have h2:=h.at hi;refine⟨?_,h.C4 hi hk4 (fun _ _ _=>rfl) ⟨o.wrote,o.pre,o.finished,o.given,o.code,o.read,o.state,e_ _⟩⟩;unfold AD.AE;rw [if_neg bX];rfl
theorem Ad.CO{i:Nat}(hi:i<2):∀(m k:Nat) (n:AH),Ad t n L R T→k+m≤4→(CO i k m n).1=true∧Ad t (CO i k m n).2 L R T∧(CO i k m n).2.xs=n.xs∧
  (∀j l,(CO i k m n).2.e j l=if j=i∧k≤l∧l<k+m then {n.e j l with AE:=((n.x i).w l).A0}else n.e j l)∧(CO i k m n).2.AF=n.AF∧(CO i k m n).2.AN=n.AN
 |0,k,n,h,_=>⟨rfl,h,rfl,fun j l=>by rw [if_neg Ca];rfl,rfl,rfl⟩
 |m+1,k,n,h,hk=>by
  have hk4:k<4:=by omega
  have o:=h.e i k hi hk4;have h2:=h.at hi
  have e:(n.x i).AE k=(((n.x i).w k).A0,0):=by
   unfold AD.AE;rw [if_neg bX];rfl
  rw [Go.Proofs.YtgfdlpcdjklcoaaGreatDoor.CO,if_neg (h.Ss hi hk4)]
  have h3:Ad t (n.C4 i k {n.e i k with AE:=((n.x i).AE k).1}) L R T:=
   h.C4 hi hk4 (fun _ _ _=>rfl) ⟨o.wrote,o.pre,o.finished,o.given,o.code,o.read,o.state,by rw [e];exact e_ _⟩
  obtain⟨a,b,f,g,w,w2⟩:=Ad.CO hi m (k+1) _ h3 Ca;refine⟨a,b,f,fun j l=>?_,w,w2⟩;rw [g j l,ND n i k j l _ h.el (h.Dp i hi) hi hk4];show(if j=i∧k+1≤l∧l<k+1+m then {(if i=j∧k=l then _ else n.e j l:Du)with AE:=((n.x i).w l).A0}else(if i=j∧k=l then _ else n.e j l))=_;by_cases e1:j=i
  ·subst e1;by_cases e2:k=l
   ·subst e2;rw [if_neg Ca,if_pos BY,if_pos Ca,e]
   ·rw [if_neg (by omega:¬(j=j∧k=l))];by_cases e3:k+1≤l∧l<k+1+m
    ·rw [if_pos ⟨rfl,e3⟩,if_pos Ca]
    ·rw [if_neg (fun x=>e3 x.2),if_neg Ca]
  ·rw [if_neg (fun x=>e1 x.1),if_neg (fun x=>e1 x.1.symm),if_neg (fun x=>e1 x.1)]
end
end
section
variable{B:World}
abbrev CZ(f:Nat)(us:List Value):Value:=.func (.func f) #[] us.toArray
structure B9 where
 p:Option Addr
 b:Nat
 o:Nat
 c:Nat
 s:List Value
def AZ(q:Nat)(a:B9)(z:BD):HP:=HP.AA q 0 [.slice a.p z.l.length a.c,uN z.floor,iN z.AL]*AB a.b a.o z.l a.s
def B9.ok(a:B9)(z:BD):Prop:=Sl a.p a.b a.o z.l.length a.c∧z.l.length*2+a.s.length=a.c*2
class G4(B:World)(H:HP)(q:Nat)(a:outParam B9)(z:outParam BD):Prop where
 l:Rd B H q 0 (.slice a.p z.l.length a.c) True
 f:Rd B H q (0+1) (uN z.floor) True
 r:Ai B H a.b a.o z.l
instance(q:Nat)(a:B9)(z:BD):G4 B (AZ q a z) q a z:=by
 unfold AZ;exact⟨inferInstance,inferInstance,inferInstance⟩
instance(q:Nat)(a:B9)(z:BD)(A C:HP)[h:G4 B A q a z]:G4 B (A*C) q a z:=let _:=h.l;let _:=h.f;let _:=h.r;⟨inferInstance,inferInstance,inferInstance⟩
instance(q:Nat)(a:B9)(z:BD)(A C:HP)[h:G4 B C q a z]:G4 B (A*C) q a z:=let _:=h.l;let _:=h.f;let _:=h.r;⟨inferInstance,inferInstance,inferInstance⟩
theorem Hu{l:List AT}{P:AT→Prop}(h:∀r∈l,P r)(i:Nat)(hi:i<l.length):P (rg l i):=by
 unfold rg;rw [b_,g' hi];exact h _ (lq hi)
theorem U'(n:Nat)(f:FuncId)(us:List Value)(p:Nat→Prop)[DecidablePred p](H:HP)[Ah Tryz.prog f](hn:n<4611686018427387904)(hmono:∀i j,i≤j→j<n→p i→p j)
  (hf:∀i,i<n→Fn Tryz.prog B f (iN i::us) H (fun v H'=>v=.bool (decide (p i))∧H'=H)):
  Fn Tryz.prog B 173 [iN n,CZ f us] H (fun v H'=>∃k,v=iN k∧k≤n∧(∀i,i<k→¬p i)∧(∀i,k≤i→i<n→p i)∧H'=H):=by
 refine mI Tryz.func173 ?_;refine Hb ?_;refine J5 ?_;refine FT ?_;refine J5 ?_
 refine Bj (α:=Nat×Nat) (fun z=>[(0,iN n),(1,CZ f us),(5,iN z.1),(6,iN z.2)]) (fun _=>H) (fun z=>z.1≤z.2∧z.2≤n∧(∀i,i<z.1→¬p i)∧(∀i,z.2≤i→i<n→p i)) (fun z=>z.2-z.1) (0,n) ⟨c_ _,e_ _,(fun i h=>absurd h (kq i)),(fun i h1 h2=>by omega)⟩ DN rfl ?_
 rintro⟨i,j⟩ ⟨h1,h2,h3,h4⟩;refine J8 ?_;refine mC (fun hc=>?_) (fun hc=>?_)
 ·refine J8 ?_;refine JL Fy ?_;refine JL (Je (j:=1) rfl rfl Ca) ?_;refine JL ML ?_;refine J7 ?_;refine Am (IJ rfl rfl (hf _ Ca)) rfl ?_;refine Gr ?_;refine mC (fun h5=>?_) (fun h5=>?_)
  ·refine J2 ?_;refine KC ?_;refine J3 ?_
   first
    |exact Ba ((i+j)/2^1+1,j) ⟨iA,h2,fun k hk hp=>h5 (hmono k _ (by have:k<(i+j)/2^1+1:=hk;omega) Ca hp),h4⟩ Zg DN rfl
    |exact Ba (i,(i+j)/2^1) ⟨dF,XF,h3,fun k hk1 hk2=>hmono _ k hk1 hk2 (by simpa using h5)⟩ fP DN rfl
  refine J5 ?_
  first
   |exact Ba ((i+j)/2^1+1,j) ⟨iA,h2,fun k hk hp=>h5 (hmono k _ (by have:k<(i+j)/2^1+1:=hk;omega) Ca hp),h4⟩ Zg DN rfl
   |exact Ba (i,(i+j)/2^1) ⟨dF,XF,h3,fun k hk1 hk2=>hmono _ k hk1 hk2 (by simpa using h5)⟩ fP DN rfl
 refine DV ?_;exact mr [4] rfl rfl ⟨i,rfl,Ca,h3,(fun k hk1 hk2=>h4 k Ca hk2),rfl⟩
theorem nE(bs bn q n i:Nat)(a:B9)(z:BD)(H:HP)[h1:Rd B H bs 0 (ptr q 0) True][h2:Rd B H bn 0 (uN n) True][hz:G4 B H q a z](hs:a.ok z)(hi:i<z.l.length):
  Fn Tryz.prog B 174 [iN i,ptr bs 0,ptr bn 0] H (fun v H'=>v=.bool (decide (n≤(rg z.l i).hi))∧H'=H):=by
 have:=hz.l
 have:=hz.r
 have hsl:=hs.1;refine mI Tryz.func174 ?_;refine J6 ?_;refine mA 11 11 ?_;refine S6 ?_;refine JT 7 rfl VE ?_;refine Jd 8 ?_;refine JT 9 rfl Lh ?_;refine Ja 10 ?_;refine Dm ?_;exact mr [4] rfl rfl BY
theorem tH(bs bn q n i:Nat)(a:B9)(z:BD)(H:HP)[h1:Rd B H bs 0 (ptr q 0) True][h2:Rd B H bn 0 (uN n) True][hz:G4 B H q a z](hs:a.ok z)(hi:i<z.l.length)(hn:n<4611686018427387904):
  Fn Tryz.prog B 179 [iN i,ptr bs 0,ptr bn 0] H (fun v H'=>v=.bool (decide (n≤(rg z.l i).hi+1))∧H'=H):=by
 have:=hz.l
 have:=hz.r
 have hsl:=hs.1;refine mI Tryz.func179 ?_;refine J6 ?_;refine mA 24 24 ?_;refine S6 ?_;refine JT 7 rfl VE ?_;refine Jd 8 ?_;refine JT 9 rfl Lh ?_;refine Jm 10 ?_;refine Gv 15 rfl (fun hg1=>?_) (fun hg1=>?_)
 ·refine gQ ?_;refine JN 15 rfl T1 ?_;refine JN 16 rfl T1 ?_;refine JN 17 rfl T1 ?_;refine JN 18 rfl T1 ?_;refine JN 19 rfl T1 ?_;refine JN 20 rfl T1 ?_;refine JN 21 rfl T1 ?_;refine JT 22 rfl GM ?_;refine Ja 23 ?_;refine Dm ?_;exact PT
 refine JY 11 rfl F1 Bg ?_;refine JY 12 rfl F1 Bg ?_;refine JY 13 rfl F1 CT ?_;refine JY 14 rfl F1 BW ?_;refine JY 15 rfl F1 Bg ?_;refine JY 16 rfl F1 Bd ?_;refine JY 17 rfl F1 K' ?_;refine JY 18 rfl F1 BW ?_;refine JY 19 rfl F1 VE ?_;refine JY 20 rfl F1 H3 ?_;refine JY 21 rfl F1 (CN (j:=1) rfl rfl) ?_;refine JT 22 rfl E9 ?_;refine Ja 23 ?_;refine Dm ?_;exact PT
theorem eg(bs bn q n i:Nat)(a:B9)(z:BD)(H:HP)[h1:Rd B H bs 0 (ptr q 0) True][h2:Rd B H bn 0 (uN n) True][hz:G4 B H q a z](hs:a.ok z)(hi:i<z.l.length)(hl:(rg z.l i).lo<4611686018427387904):
  Fn Tryz.prog B 180 [iN i,ptr bs 0,ptr bn 0] H (fun v H'=>v=.bool (decide (n+1<(rg z.l i).lo))∧H'=H):=by
 have:=hz.l
 have:=hz.r
 have hsl:=hs.1;refine mI Tryz.func180 ?_;refine J6 ?_;refine mA 24 24 ?_;refine S6 ?_;refine JT 7 rfl Vz ?_;refine Jd 8 ?_;refine JT 9 rfl IG ?_;refine Jm 10 ?_;refine Gv 15 rfl (fun hg1=>?_) (fun hg1=>?_)
 ·refine JY 11 rfl T1 Bg ?_;refine JY 12 rfl T1 CT ?_;refine JY 13 rfl T1 BW ?_;refine JY 14 rfl T1 Bg ?_;refine JY 15 rfl T1 Bd ?_;refine JY 16 rfl T1 K' ?_;refine JY 17 rfl T1 BW ?_;refine JY 18 rfl T1 Vz ?_;refine JY 19 rfl T1 Bg ?_;refine JY 20 rfl T1 H3 ?_;refine JY 21 rfl T1 (Gj (j:=1) rfl rfl) ?_;refine JT 22 rfl GM ?_;refine Ja 23 ?_;refine Dm ?_;exact PT
 refine JN 11 rfl F1 ?_;refine JN 12 rfl F1 ?_;refine JN 13 rfl F1 ?_;refine JN 14 rfl F1 ?_;refine JN 15 rfl F1 ?_;refine JN 16 rfl F1 ?_;refine JN 17 rfl F1 ?_;refine JN 18 rfl F1 ?_;refine JN 19 rfl F1 ?_;refine JN 20 rfl F1 ?_;refine JN 21 rfl F1 ?_;refine JT 22 rfl E9 ?_;refine Ja 23 ?_;refine Dm ?_;exact PT
end
end Go.Proofs.YtgfdlpcdjklcoaaGreatDoor
