/- Steps of this proof; no condition. -/
import Derived.Test.YtgfdlpcdjklcoaaGreatDoorP10
namespace Go.Proofs.YtgfdlpcdjklcoaaGreatDoor
open Go Go.RowKit Go.Proofs.Tryz HP AB AO
open _root_.List renaming length→aa
set_option linter.all false
variable{t t' k lo hi AI lo0 hi0:Nat}{c:AO}{l out rs:List AS}{dn:Bool}
open _root_.UInt64 renaming ofNat→ad
open _root_.List renaming replicate→a9,map_id→cx
set_option maxRecDepth 20000
structure I0(w:At)(o:CZ):Prop where
 b:o.data=w.b
 fin:o.finished=w.finished
 given:o.given=w.given
 code:o.code=w.code
 high:o.high=w.high
 en:w.given=true→o.end_=w.high
 AG:∀n,BD n o.AG.l↔BD n w.AG.l
structure Nc(r:Dk)(x:Dv):Prop where
 high:x.high=r.high
 en:x.end_=r.end_
 ended:x.ended=r.ended
 given:x.given=r.given
 code:x.code=r.code
 read:x.read=r.read
 state:x.state=r.state
 there:∀n,n<r.high→(x.there.getD n false=true↔BD n r.AG.l)
 data:r.given=false→∀n,r.read≤n→BD n r.AG.l→r.b.getD (n-r.read) 0=x.data.getD n 0
structure Base(c:AO)(s:AL):Prop where
 AV:s.AV=c.AV
 AI:s.AI=c.AI
 ks:s.ks=c.ks
 first:s.first=c.first
 closed:s.closed=c.closed
 code:s.code=c.code
 said:s.said=c.said
 next:s.next=c.next
structure Open(c:AO)(s:AL):Prop where
 AR:s.AR=c.AR
 Az:∀n,BD n c.AR.l→BD n s.Az.l
 ws:∀k,k<4→I0 (c.w k) (s.o k)
 rs:∀k,k<4→Nc (c.r k) (s.i k)
 f1:∀p,p∈c.Bp∨p∈c.lost→(⟨p.number,p.A7⟩:Le)∈s.AM
 f2:∀q∈s.AM,(∃p,(p∈c.Bp∨p∈c.lost)∧p.number=q.number∧p.A7=q.A7)∨∀k n,k<4→Jl q.A7 k n→BD n (c.w k).AG.l
def iW(c:AO)(s:AL):Prop:=∀n∈s.due,c.answer=true∧c.AR.has n
structure Rel(c:AO)(s:AL):Prop where
 base:Base c s
 opn:c.closed=0→Open c s
 due:c.closed=0→iW c s
def R6:I0 BO CX:=⟨I,I,I,I,I,(λh=>by cases h),λn=>Iff.rfl⟩
def Rm:Nc LK KD:=⟨I,I,I,I,I,I,I,(λn h=>absurd h (Aje n)),λ_ n _ h=>absurd h (RW n)⟩
def Rel.new(AV AI)(ks:List UInt8)(first):Rel (.new AV AI ks first) (.new AV AI ks first):=
 ⟨VZ,λ_=>⟨I,(λn h=>absurd h (RW n)),PS R6 R6 R6 R6,PS Rm Rm Rm Rm,
  (λp h=>by rcases h with h|h<;>cases h),λq h=>nomatch h⟩,λ_ n h=>nomatch h⟩
def xf{W m N}(h:EC l)(V:EC W)(hb:∀r∈l,r.hi<m)(C:∀r∈W,r.hi<N)(e:∀n,BD n W↔BD n l):(AW 0 N W).1=(AW 0 m l).1:=by
 obtain⟨U,L⟩:=K0 h (bk m) hb;obtain⟨b,Y⟩:=K0 V (bk N) C;have Z:=(Ic l 0 m h Du).2.1;have a:=(Ic W 0 N V Du).2.1;obtain O|O|O:=Nat.lt_trichotomy (AW 0 N W).1 (AW 0 m l).1
 ·exact absurd ((e _).2 (Z _ Du O)) Y
 ·exact O
 exact absurd ((e _).1 (a _ Du O)) L
def I0.CQ{w:At}{o:CZ}{n m}(h:I0 w o)(hw:Fd n w)(Q:LD m o):o.CQ=w.CQ:=by
 rw[CZ.Te Q.co.inc (aa o.data)];exact xf hw.co.inc Q.co.inc hw.co.hi Q.co.hi h.AG
def lW{j w}(J:aa c.ws=4)(Z:k<4):(c.Dh k w).w j=if k=j then w else c.w j:=by
 show(c.ws.set k w).getD j BO=_;exact UP
def Acv{j w}(J:aa c.rs=4)(Z:k<4):(c.CE k w).r j=if k=j then w else c.r j:=by
 show(c.rs.set k w).getD j LK=_;exact UP
def ba{c:AL}{j w}(J:aa c.outs=4)(Z:k<4):(c.Da k w).o j=if k=j then w else c.o j:=by
 show(c.outs.set k w).getD j CX=_;exact UP
def wu{c:AL}{j w}(J:aa c.ins=4)(Z:k<4):(c.Dd k w).i j=if k=j then w else c.i j:=by
 show(c.ins.set k w).getD j KD=_;exact UP
def Open.Dh{s:AL}(a:Aq t c)(C:Ar t' s)(h:Open c s)(Z:k<4){w:At}{o}(hr:I0 w o)(hm:∀n,BD n (c.w k).AG.l→BD n w.AG.l):Open (c.Dh k w) (s.Da k o):=by
 refine⟨h.AR,h.Az,λj W=>?_,h.rs,h.f1,λq N=>?_⟩
 ·rw[lW a.ws.len Z,ba C.outs.len Z];split
  ·exact hr
  exact h.ws j W
 obtain g|g:=h.f2 q N
 ·exact .inl g
 refine .inr λj n W G=>?_;have:=g j n W G;rw[lW a.ws.len Z];split
 ·rename_i e;subst e;exact hm n this
 exact this
def Open.CE{s:AL}(W:Aq t c)(C:Ar t' s)(h:Open c s)(Z:k<4){r x}(hr:Nc r x):Open (c.CE k r) (s.Dd k x):=by
 refine⟨h.AR,h.Az,h.ws,λj a=>?_,h.f1,h.f2⟩;rw[Acv W.rl Z,wu C.il Z];split
 ·exact hr
 exact h.rs j a
def Ql{s:AL}(h:Base c s)(k:Int):s.of k=c.stream k:=by
 unfold AL.of AO.stream;rw[h.closed]
def Rel.Dh{s:AL}(W:Aq t c)(C:Ar t' s)(h:Rel c s)(h0:c.closed=0)(Z:k<4){w:At}{o}(hr:I0 w o)(hm:∀n,BD n (c.w k).AG.l→BD n w.AG.l):Rel (c.Dh k w) (s.Da k o):=
 ⟨⟨h.base.AV,h.base.AI,h.base.ks,h.base.first,h.base.closed,h.base.code,h.base.said,h.base.next⟩,λ_=>(h.opn h0).Dh W C Z hr hm,h.due⟩
def Rel.CE{s:AL}(W:Aq t c)(C:Ar t' s)(h:Rel c s)(h0:c.closed=0)(Z:k<4){r x}(hr:Nc r x):Rel (c.CE k r) (s.Dd k x):=
 ⟨⟨h.base.AV,h.base.AI,h.base.ks,h.base.first,h.base.closed,h.base.code,h.base.said,h.base.next⟩,λ_=>(h.opn h0).CE W C Z hr,h.due⟩
def V_{s:AL}(W:Aq t c)(C:Ar t' s)(h:Rel c s)(k:Int)(xs:List UInt8):(s.write k xs).1=(c.write k xs).1∧Rel (c.write k xs).2 (s.write k xs).2:=by
 unfold AL.write AO.write GQ;rw[Ql h.base];by_cases O:c.stream k≠0
 ·rw[AJ O,AJ O,AJ O];exact Gd
 rw[AF O,AF O];obtain⟨A,_,Z⟩:=L5 (by omega:c.stream k=0);have g:=(h.opn A).ws _ Z;rw[g.fin,g.given];by_cases h2:(c.w k.toNat).finished=true∨(c.w k.toNat).given=true
 ·exact aK
 rw[AF h2,AF h2];rw[AF (show ¬(0:Nat)≠0 by decide)];have e:s.Hf k.toNat (aa xs)=c.Hf k.toNat (aa xs):=by
  unfold AL.Hf Hf;rw[g.CQ (W.ws.ok _ Z) (C.outs.ok _ Z),g.b,h.base.AI]
 refine⟨by rw[e],?_⟩;rw[e];exact h.Dh W C A Z ⟨by show(s.o k.toNat).data++_=_;rw[g.b],g.fin,g.given,g.code,g.high,g.en,g.AG⟩ (λ_=>id)
def Aam{s:AL}(W:Aq t c)(C:Ar t' s)(h:Rel c s)(k:Int):(s.finish k).1=(c.finish k).1∧Rel (c.finish k).2 (s.finish k).2:=by
 unfold AL.finish AO.finish GQ;rw[Ql h.base];by_cases O:c.stream k≠0
 ·rw[AJ O,AJ O,AJ O];exact Gd
 rw[AF O,AF O];obtain⟨A,_,Z⟩:=L5 (by omega:c.stream k=0);have g:=(h.opn A).ws _ Z;rw[g.fin,g.given];by_cases h2:(c.w k.toNat).finished=true∨(c.w k.toNat).given=true
 ·exact aK
 rw[AF h2,AF h2];rw[AF (show ¬(0:Nat)≠0 by decide)];exact⟨I,h.Dh W C A Z ⟨g.b,I,g.given,g.code,g.high,g.en,g.AG⟩ (λ_=>id)⟩
def gr{s:AL}(W:Aq t c)(C:Ar t' s)(h:Rel c s)(k:Int)(code):(s.giveUp k code).1=(c.giveUp k code).1∧Rel (c.giveUp k code).2 (s.giveUp k code).2:=by
 unfold AL.giveUp AO.giveUp;rw[Ql h.base];by_cases O:c.stream k≠0
 ·rw[AJ O,AJ O];exact Gd
 rw[AF O,AF O];obtain⟨A,_,Z⟩:=L5 (by omega:c.stream k=0);have g:=(h.opn A).ws _ Z;rw[g.given];by_cases U:(c.w k.toNat).given=true∨4611686018427387903<code
 ·rw[AJ U,AJ U];exact Gd
 rw[AF U,AF U];exact⟨I,h.Dh W C A Z ⟨g.b,g.fin,I,I,g.high,λ_=>g.high,g.AG⟩ (λ_=>id)⟩
def Ad2{s:AL}(W:Aq t c)(C:Ar t' s)(h:Rel c s)(k:Int):s.AG k=c.AG k:=by
 unfold AL.AG AG;rw[Ql h.base];by_cases O:c.stream k≠0
 ·rw[AJ O,AJ O]
 rw[AF O,AF O];obtain⟨A,_,Z⟩:=L5 (by omega:c.stream k=0);rw[((h.opn A).ws _ Z).CQ (W.ws.ok _ Z) (C.outs.ok _ Z)]
def P_{s:AL}(h:Rel c s)(code):(s.close code).1=(c.close code).1∧Rel (c.close code).2 (s.close code).2:=by
 unfold AL.close AO.close;rw[h.base.closed];split
 ·exact Gd
 split
 ·exact Gd
 exact wJ
def Open.Ho{s}(W:Aq t c)(h:Open c s)(lost:FQ→Bool):Open (c.Ho lost) s:=by
 obtain⟨a,b,e⟩:=Ul (c.Bp.filter lost) c.ws W.ws (λp J f V=>(W.BF p (.inl (o4.1 J).1)).fr f V);have X:∀k,(c.Ho lost).w k=((c.Bp.filter lost).foldl N4 c.ws).getD k BO:=λk=>rfl;have F:∀p,(p∈(c.Ho lost).Bp∨p∈(c.Ho lost).lost)↔(p∈c.Bp∨p∈c.lost):=by
  intro p;show(p∈c.Bp.filter (λp=> !lost p)∨p∈c.lost++c.Bp.filter lost)↔_;rw[j2,o4,o4];cases lost p
  ·simp
  simp only[Bool.not_true,v8,and_false,and_true,false_or];exact or_comm
 refine⟨h.AR,h.Az,λk Z=>?_,h.rs,λp J=>h.f1 p ((F p).1 J),λq N=>?_⟩
 ·have g:=h.ws k Z;have R:=b.same k;rw[X];have A:=e k;exact⟨by rw[R.b];exact g.b,by rw[R.finished];exact g.fin,by rw[R.given];exact g.given,by rw[R.code];exact g.code,by rw[R.high];exact g.high,by rw[R.given,R.high];exact g.en,by rw[A];exact g.AG⟩
 obtain⟨p,J,g⟩|g:=h.f2 q N
 ·exact .inl ⟨p,(F p).2 J,g⟩
 refine .inr λk n Z G=>?_;rw[X,e k];exact g k n Z G
def oz{s}(W:Aq t c)(h:Rel c s):Rel c.tick s:=by
 have O:Aq (t+1) {c with now:=c.now+1}:=
  {W.mono FT with nw:=by have:=W.nw;show c.now+1≤t+1;omega,BF:=λp J=>let g:=W.BF p J;⟨g.num,Al7 g.at_,g.len,g.fr⟩}
 unfold AO.tick;split
 ·refine⟨⟨h.base.AV,h.base.AI,h.base.ks,h.base.first,h.base.closed,h.base.code,h.base.said,h.base.next⟩,λA=>?_,h.due⟩;have g:=h.opn A;have:=Open.Ho O (s:=s) ⟨g.AR,g.Az,g.ws,g.rs,g.f1,g.f2⟩ (λ_=>true);exact⟨this.AR,this.Az,this.ws,this.rs,this.f1,this.f2⟩
 refine⟨⟨h.base.AV,h.base.AI,h.base.ks,h.base.first,h.base.closed,h.base.code,h.base.said,h.base.next⟩,λA=>?_,h.due⟩;have g:=h.opn A;exact⟨g.AR,g.Az,g.ws,g.rs,g.f1,g.f2⟩
def Adh{outs:List CZ}{f:Af}(h:HT AI outs)(hf:Gs outs f)(k n):
  BD n ((JI outs f).getD k CX).AG.l↔BD n (outs.getD k CX).AG.l∨(f.kind=5∧0<f.data.size∧f.stream.toNat=k∧f.offset≤n∧n<f.offset+f.data.size):=by
 have U:f.stream.toNat<4:=by have:=hf.1;have:=hf.2.1;omega
 unfold JI;split
 ·rename_i W;have g:=h.ok _ U;have q:=hf.2.2 W.1;have L:=g.VT;have a:=g.cm;unfold Pb at a;obtain⟨_,_,e⟩:=RG (lo:=f.offset) (hi:=f.offset+f.data.size-1) g.co g.cf C0 C0 C0;rw[Gi];by_cases M:f.stream.toNat=k
  ·subst M;rw[AJ ⟨I,by rw[h.len];exact U⟩];show BD n ((outs.getD f.stream.toNat CX).AG.add f.offset (f.offset+f.data.size-1)).l↔_;rw[e n];constructor
   ·rintro(Q|Q)
    ·exact .inr ⟨W.1,W.2,I,Q.1,C0⟩
    exact .inl Q
   rintro(Q|⟨Q,S,N,F,O⟩)
   ·exact .inr Q
   exact .inl ⟨F,C0⟩
  rw[AF (λh=>M h.1)];exact⟨.inl,λh=>by rcases h with h|h;exact h;exact absurd h.2.2.1 M⟩
 rename_i W;exact⟨.inl,λh=>by rcases h with h|h;exact h;exact absurd ⟨h.1,h.2.1⟩ W⟩
def Z1:∀(fs:List Af) (outs:List CZ),HT AI outs→(∀f∈fs,Gs outs f)→∀k n,
  (BD n ((fs.foldl JI outs).getD k CX).AG.l↔BD n (outs.getD k CX).AG.l∨Jl fs k n)
 |[],outs,h,_,k,n=>⟨.inl,λh=>by rcases h with h|h;exact h;exact absurd h (iO _ _)⟩
 |f::fs,outs,h,V,k,n=>by
  obtain⟨a,b⟩:=rK h (V f C3);rw[n',Z1 fs _ a (λg hg=>(V g Cs).same b) k n,Adh h (V f C3),cL,or_assoc]
def lG:∀(ps:List Le) (outs:List CZ),HT AI outs→(∀p∈ps,∀f∈p.A7,Gs outs f)→∀k n,
  (BD n ((ps.foldl (H8 l) outs).getD k CX).AG.l↔BD n (outs.getD k CX).AG.l∨∃p∈ps,BJ l p.number=true∧Jl p.A7 k n)
 |[],outs,h,_,k,n=>⟨.inl,λh=>by rcases h with h|⟨p,h,_⟩;exact h;cases h⟩
 |p::ps,outs,h,V,k,n=>by
  obtain⟨a,b⟩:=yF (l:=l) h (V p C3);rw[n',lG ps _ a (λq hq g S=>(V q QY g S).same b) k n];have e:BD n ((H8 l outs p).getD k CX).AG.l↔BD n (outs.getD k CX).AG.l∨(BJ l p.number=true∧Jl p.A7 k n):=by
   unfold H8;split
   ·rename_i W;rw[Z1 _ _ h (V p C3) k n];simp[W]
   rename_i W;simp[W]
  rw[e];exact xQ
def Open.EY{s:AL}(W:Aq t c)(e:Ar t' s)(h:Open c s)(l)(J:(rg l 0).hi<c.next):Open ((c.IW l).Ho (λp=>decide (p.number+3≤(c.IW l).CB))) (s.EY l):=by
 obtain⟨U,L,O⟩:=W.IW l J;obtain⟨v,Y⟩:=TK (l:=l) s.AM s.outs e.outs (λp hp f V=>(e.AM p hp).fr f V);have K:=lG (l:=l) s.AM s.outs e.outs (λp hp f V=>(e.AM p hp).fr f V);refine Open.Ho U ?_ _;refine⟨h.AR,h.Az,λk Z=>?_,h.rs,λp hp=>h.f1 p ?_,λq N=>?_⟩
 ·have g:=h.ws k Z;have R:=L.same k;have a:=Y k;refine⟨?_,?_,?_,?_,?_,λr=>?_,λn=>?_⟩
  ·exact a.data.trans (g.b.trans R.b.symm)
  ·exact a.finished.trans (g.fin.trans R.finished.symm)
  ·exact a.given.trans (g.given.trans R.given.symm)
  ·exact a.code.trans (g.code.trans R.code.symm)
  ·exact a.high.trans (g.high.trans R.high.symm)
  ·have C:(c.w k).given=true:=by rw[←r];exact R.given.symm
   exact a.end_.trans ((g.en C).trans R.high.symm)
  rw[show BD n ((s.EY l).o k).AG.l↔_ from K k n,O k n];constructor
  ·rintro(Q|⟨q,N,Q,S⟩)
   ·exact .inl ((g.AG n).1 Q)
   obtain⟨p,hp,C,M⟩|m:=h.f2 q N
   ·exact .inr ⟨p,hp.symm,by rw[C];exact Q,by rw[M];exact S⟩
   exact .inl (m k n Z S)
  rintro(Q|⟨p,hp,Q,S⟩)
  ·exact .inl ((g.AG n).2 Q)
  exact .inr ⟨_,h.f1 p hp.symm,Q,S⟩
 ·exact rM
 obtain⟨p,hp,C,M⟩|m:=h.f2 q N
 ·by_cases j:BJ l p.number=true
  ·refine .inr λk n Z G=>(O k n).2 (.inr ⟨p,hp.symm,j,by rw[M];exact G⟩)
  refine .inl ⟨p,?_,C,M⟩;have i:(!BJ l p.number)=true:=by simpa using j
  obtain hp|hp:=hp
  ·exact .inl (o4.2 ⟨hp,i⟩)
  exact .inr (o4.2 ⟨hp,i⟩)
 exact .inr λk n Z G=>(O k n).2 (.inl (m k n Z G))
def Vv{α:Type}{l m:List α}{n}{d:α}:(l++m).getD n d=if n<(aa l) then l.getD n d else m.getD (n-aa l) d:=by
 simp only[ek,List.getElem?_append];split<;>rfl
def Ac4{α:Type}{m n}{d:α}:(a9 m d).getD n d=d:=by
 simp only[ek,Aky];split<;>rfl
def Y9:∀(ds:List UInt8) (off:Nat) (data:List UInt8) (there:List Bool) (n:Nat),off+aa ds≤aa data→aa there=aa data→
  (Hi ds off data there).2.getD n false=(there.getD n false||decide (off≤n∧n<off+aa ds))∧
  (Hi ds off data there).1.getD n 0=if there.getD n false=false∧off≤n∧n<off+(aa ds) then ds.getD (n-off) 0 else data.getD n 0
 |[],off,data,there,n,h,N=>by
  rw[Hi];have:¬(off≤n∧n<off+aa ([]:List UInt8)):=by rw[ss];omega
  refine⟨by rw[decide_eq_false this,Am2],by rw[AF (λh=>this h.2)]⟩
 |d::ds,off,data,there,n,h,N=>by
  rw[f']at h;rw[Hi];by_cases A:there.getD off false=true
  ·rw[AJ A];obtain⟨a,b⟩:=Y9 ds (off+1) data there n C0 N;rw[a,b];by_cases G:n=off
   ·subst G;rw[A];simp
   have e1:(off+1≤n∧n<off+1+aa ds)↔(off≤n∧n<off+aa (d::ds)):=by rw[f'];omega
   exact oS
  rw[AF A];obtain⟨a,b⟩:=Y9 ds (off+1) (data.set off d) (there.set off true) n (by rw[n5];omega) (by rw[n5,n5];exact N);rw[a,b];by_cases G:n=off
  ·subst G;have j:there.getD n false=false:=by simpa using A
   have Q:(there.set n true).getD n false=true:=by rw[Gi,AJ ⟨I,C0⟩]
   have S:(data.set n d).getD n 0=d:=by rw[Gi,AJ ⟨I,C0⟩]
   rw[Q,S];have:¬(n+1≤n∧n<n+1+aa ds):=C0;rw[AF (λh=>this h.2),j,f'];refine⟨C3,?_⟩;rw[AJ ⟨I,C0,C0⟩,Al6];rfl
  have e1:(off+1≤n∧n<off+1+aa ds)↔(off≤n∧n<off+aa (d::ds)):=by rw[f'];omega
  have Q:(there.set off true).getD n false=there.getD n false:=by rw[Gi,AF (λh=>G h.1.symm)]
  have S:(data.set off d).getD n 0=data.getD n 0:=by rw[Gi,AF (λh=>G h.1.symm)]
  rw[Q,S];exact oS
def K! {r:Dk}{x:Dv}(hr:Hc AI t r)(F:IV AI t' x)(v:AI≤1024)(h:Nc r x)(f:Af)(hb:r.given=false→f.offset+f.data.size≤r.read+AI):
  (x.bytes f).1=(r.data f).1∧Nc (r.data f).2 (x.bytes f).2:=by
 unfold Dv.bytes Dk.data;rw[h.ended,h.en,h.high,h.given];by_cases O:NP r.ended r.end_ r.high f
 ·rw[AJ O,AJ O];exact Gd
 rw[AF O,AF O];by_cases U:r.given=true
 ·rw[AJ U,AJ U];exact Gd
 rw[AF U,AF U];have S:r.given=false:=by simpa using U
 have Y:=hb S;obtain⟨A,L,Z,R,K,s⟩:=r.zZ hr v f S Y;have Q:=F.dl;have X:=F.tl;have hl:=hr.len S;have M:=hr.rh;have w:=hr.hw;have V:=h.high;have J:=λn=>Y9 f.data.data.toList f.offset (x.data++a9 (max x.high (f.offset+f.data.size)-aa x.data) 0) (x.there++a9 (max x.high (f.offset+f.data.size)-aa x.data) false) n (by rw[a5,s8,Oq];omega) (by rw[a5,a5,s8,s8];omega);have b:∀n,n<max r.high (f.offset+f.data.size)→((x.there++a9 (max x.high (f.offset+f.data.size)-aa x.data) false).getD n false=true↔BD n r.AG.l):=by
  intro n G;rw[Vv];split
  ·exact h.there n C0
  rw[Ac4];refine⟨λh=>(by cases h),λ⟨q,N,m⟩=>?_⟩;have:=hr.co.hi q N;omega
 refine⟨I,⟨?_,?_,?_,h.given,h.code,h.read,h.state,λn G=>?_,λ_ n G j=>?_⟩⟩
 ·show max x.high _=max r.high _;rw[h.high]
 ·show(if f.fin=true then _ else x.end_)=_;rw[h.en];rfl
 ·show(x.ended||f.fin)=_;rw[h.ended];rfl
 ·have a:n<max r.high (f.offset+f.data.size):=G;show(x.put f).2.getD n false=true↔BD n (r.filled f).2.l;unfold Dv.put;rw[(J n).1,K n,Alo,b n a,decide_eq_true_eq,Oq];constructor
  ·rintro(g|g)
   ·exact .inl g
   by_cases W:r.read≤n
   ·exact .inr C0
   exact .inl (hr.pre n C0)
  rintro(g|g)
  ·exact .inl g
  exact .inr C0
 have a:r.read≤n:=G;have i:BD n (r.filled f).2.l:=j;have o:n<max r.high (f.offset+f.data.size):=by
  obtain⟨q,N,m⟩:=i;have:=A.hi q N;omega
 show(r.filled f).1.getD (n-r.read) 0=(x.put f).1.getD n 0;unfold Dv.put;rw[(J n).2,s n a o,Oq];by_cases W:BD n r.AG.l
 ·have C:(x.there++a9 (max x.high (f.offset+f.data.size)-aa x.data) false).getD n false=true:=(b n o).2 W;have p:n<r.high:=by obtain⟨q,N,m⟩:=W;have:=hr.co.hi q N;omega
  rw[AF (λh=>h.2.2 W),AF (λh=>by rw[C]at h;cases h.1),Vv,Vv,AJ C0,AJ C0];exact h.data S n a W
 have C:(x.there++a9 (max x.high (f.offset+f.data.size)-aa x.data) false).getD n false=false:=by
  cases e:(x.there++a9 (max x.high (f.offset+f.data.size)-aa x.data) false).getD n false
  ·rfl
  exact absurd ((b n o).1 e) W
 obtain g|g:=(K n).1 i
 ·exact absurd g W
 rw[AJ ⟨g.1,g.2,W⟩,AJ ⟨C,C0,g.2⟩]
def Base.take{s:AL}(h:Base c s)(f):Base (c.take f).2 (s.take f).2:=by
 have W:(c.take f).2.AV=c.AV∧(c.take f).2.AI=c.AI∧(c.take f).2.ks=c.ks∧(c.take f).2.first=c.first∧(c.take f).2.closed=c.closed∧(c.take f).2.code=c.code∧(c.take f).2.said=c.said∧(c.take f).2.next=c.next:=by
  unfold AO.take EY
  repeat' split
  all_goals exact VZ
 have C:(s.take f).2.AV=s.AV∧(s.take f).2.AI=s.AI∧(s.take f).2.ks=s.ks∧(s.take f).2.first=s.first∧(s.take f).2.closed=s.closed∧(s.take f).2.code=s.code∧(s.take f).2.said=s.said∧(s.take f).2.next=s.next:=by
  unfold AL.take
  repeat' split
  all_goals exact VZ
 obtain⟨Z,F,r,e,b,m,i,o⟩:=W;obtain⟨A,q,a,s4,p,v,j,w⟩:=C;exact⟨by rw[A,Z,h.AV],by rw[q,F,h.AI],by rw[a,r,h.ks],by rw[s4,e,h.first],by rw[p,b,h.closed],by rw[v,m,h.code],by rw[j,i,h.said],by rw[w,o,h.next]⟩
def ac(c:AO)(f):(c.take f).2.closed=c.closed∧(c.take f).2.AR=c.AR∧(c.take f).2.answer=c.answer:=by
 unfold AO.take EY
 repeat' split
 all_goals exact RV
def ay{s:AL}(W:Aq t c)(C:Ar t' s)(hb:Base c s)(h:Open c s)(f)(hf:GI f)(j:¬c.busy f):
  (s.take f).1=(c.take f).1∧Open (c.take f).2 (s.take f).2:=by
 have U:f.stream.toNat<4:=by have:=hf.1;have:=hf.2.1;omega
 have g:=h.rs _ U;unfold AL.take AO.take;by_cases M:f.kind=3
 ·rw[AJ M,AJ M];unfold EY;rw[hb.next];by_cases G:c.next≤(rg f.ranges 0).hi
  ·rw[AJ G,AJ G];exact Gd
  rw[AF G,AF G];exact⟨I,h.EY W C f.ranges C0⟩
 rw[AF M,AF M];by_cases Z:f.kind=4
 ·rw[AJ Z,AJ Z,g.ended,g.en,g.high];split
  ·exact Gd
  refine⟨I,h.CE W C U ⟨g.high,I,I,I,?_,g.read,g.state,g.there,(λh=>by cases h)⟩⟩;show(if(s.i f.stream.toNat).given=true then(s.i f.stream.toNat).code else f.code)=_;rw[g.given,g.code]
 rw[AF Z,AF Z];by_cases X:f.kind=5
 ·rw[AJ X,AJ X];have v:=W.w2;have:=K! (W.rs _ U) (by have:=C.ins _ U;rw[hb.AI]at this;exact this) v g f (λS=>by
   obtain J|J:=ff ((c.r f.stream.toNat).read+c.AI) (f.offset+f.data.size)
   ·exact absurd ⟨X,S,J⟩ j
   exact J)
  exact⟨this.1,h.CE W C U this.2⟩
 rw[AF X,AF X];split
 ·exact Gd
 exact Gd
def fz{number due}{f:Af}{n}(h:n∈Fc number due f):n∈due∨(n=number∧f.kind≠3∧f.kind≠1):=by
 unfold Fc at h;split at h
 ·rename_i W;obtain h|h:=j2.1 h
  ·exact .inl h
  exact .inr ⟨g5.1 h,W.1,W.2.1⟩
 exact .inl h
def na{G:AO}{f}(b:∀k,Iz (c.r k) (G.r k))(e:G.AI=c.AI)(h:¬c.busy f):¬G.busy f:=by
 rintro⟨m,p,O⟩;obtain⟨C,Y,K⟩:=b f.stream.toNat;refine h ⟨m,?_,by rw[←C,←e];exact O⟩;cases M:(c.r f.stream.toNat).given
 ·rfl
 rw[K M]at p;cases p
def W5{s:AL}(C:Ar t' s)(hb:Base c s)(h:Open c s){f}(hf:GI f):s.busy f↔c.busy f:=by
 have U:f.stream.toNat<4:=by have:=hf.1;have:=hf.2.1;omega
 have g:=h.rs _ U;unfold AL.busy AO.busy;rw[g.given,g.read,hb.AI];constructor
 ·rintro⟨a,b,d,e⟩;exact⟨a,d,e⟩
 rintro⟨a,d,e⟩;refine⟨a,λj=>?_,d,e⟩;have:=(C.ins _ U).Km j;have M:(s.i f.stream.toNat).given=(c.r f.stream.toNat).given:=g.given;rw[M,d]at this;cases this
def cT{number}:∀(fs:List Af) (c:AO) (s:AL),Aq t c→Ar (t+1) s→Iy t number s.due→Base c s→Open c s→iW c s→c.closed=0→c.AR.has number→(∀f∈fs,GI f∧¬c.busy f)→
  (s.B1 number fs).1=(c.B1 fs).1∧Rel (c.B1 fs).2 (s.B1 number fs).2
 |[],c,s,W,C,F,q,h,b,A,S,V=>⟨I,q,λ_=>h,λ_=>b⟩
 |f::fs,c,s,W,C,F,q,h,b,A,S,V=>by
  obtain⟨N,w⟩:=V f C3;obtain⟨U,L,O⟩:=W.take f N w;obtain⟨b1,Y,K⟩:=C.take f N (λv=>w ((W5 C q h N).1 v));obtain⟨X,M⟩:=ay W C q h f N w;have R:=q.take f;obtain⟨m,p,Z⟩:=ac c f;rw[AL.B1,AO.B1,X];by_cases J:(c.take f).1≠0
  ·rw[AJ J,AJ J];refine⟨I,⟨R.AV,R.AI,R.ks,R.first,I,I,I,R.next⟩,λh=>absurd h J,λh=>absurd h J⟩
  rw[AF J,AF J];have Q:aa (Fc number (s.take f).2.due f)≤t+1:=by rw[QI];exact(F.step f).le
  have e:Aq t {(c.take f).2 with answer:=(c.take f).2.answer||(decide (f.kind≠3)&&decide (f.kind≠1))}:={U with}
  have i:Ar (t+1) {(s.take f).2 with due:=Fc number (s.take f).2.due f}:={b1 with due:=Q}
  refine cT fs _ _ e i ?_ ⟨R.AV,R.AI,R.ks,R.first,R.closed,R.code,R.said,R.next⟩ ⟨M.AR,M.Az,M.ws,M.rs,M.f1,M.f2⟩ ?_ (m.trans A) (by show(c.take f).2.AR.has number;rw[p];exact S) ?_
  ·show Iy t number (Fc number (s.take f).2.due f);rw[QI];exact F.step f
  ·intro n G;have a:n∈Fc number (s.take f).2.due f:=G;rw[QI]at a;show((c.take f).2.answer||(decide (f.kind≠3)&&decide (f.kind≠1)))=true∧(c.take f).2.AR.has n;rw[p,Z];obtain a|⟨rfl,j,o⟩:=fz a
   ·obtain⟨d1,d2⟩:=b n a;exact⟨by rw[d1];rfl,d2⟩
   exact⟨by simp[j,o],S⟩
  intro g r;obtain⟨j,o⟩:=V g (by simp[r]);refine⟨j,?_⟩;have:=na L O o;exact this
def sx{s:AL}(hc:Aq t c)(C:Ar t s)(ht:t<1000000000)(h:Rel c s)(p:List UInt8):(s.BY p).1=(c.BY p).1∧Rel (c.BY p).2 (s.BY p).2:=by
 unfold AL.BY BY;have L:=h.base.closed;by_cases A:c.closed≠0
 ·rw[AJ A,AJ (by rw[L];exact A)];exact Gd
 rw[AF A,AF (by rw[L];exact A)];have A:c.closed=0:=C0;have g:=h.opn A;have v:B6 s.ks (Bb (!s.first)) p=B6 c.ks (Bb (!c.first)) p:=by rw[h.base.ks,h.base.first]
 rw[v];cases e:B6 c.ks (Bb (!c.first)) p with
 |none=>exact Gd
 |some z=>
  obtain⟨i,b⟩:=z;dsimp only;rw[g.AR];by_cases Y:c.AR.has i.toNat
  ·rw[AJ Y,AJ Y];exact Gd
  rw[AF Y,AF Y];cases M:Eb b with
  |error o=>exact wJ
  |ok X=>
   dsimp only;have W:∀f∈X,GI f:=λf V=>GI.of (Lg M f V);have j:(∃f∈X,s.busy f)↔(∃f∈X,c.busy f):=⟨λ⟨f,O,U⟩=>⟨f,O,(W5 C h.base g (W f O)).1 U⟩,λ⟨f,O,U⟩=>⟨f,O,(W5 C h.base g (W f O)).2 U⟩⟩
   by_cases q:∃f∈X,c.busy f
   ·rw[AJ q,AJ (j.2 q)];exact Gd
   rw[AF q,AF (λh=>q (j.1 h))];have a:i.toNat<4611686018427387904:=by have:=(Lm e).2.2;omega
   have K:Dg (c.AR.add i.toNat i.toNat) 4611686018427387904∧_:=hc.AR.add _ _ a (by rw[hc.gm];omega);have J:Aq t {c with AR:=c.AR.add i.toNat i.toNat}:={hc with AR:=K.1,gm:=K.2.trans hc.gm}
   have S:=C.Qy a ht;rw[g.AR]at S;have m:=C.el;have r:=C.em;unfold Pb at r;obtain⟨_,_,em⟩:=RG (lo:=i.toNat) (hi:=i.toNat) C.Az C.ef Dz a C0;have w:∀n,c.AR.has n→(c.AR.add i.toNat i.toNat).has n:=λn G=>Ba.has_add hc.AR (.inl G);have:=cT (t:=t) (number:=i.toNat) X {c with AR:=c.AR.add i.toNat i.toNat} {s with AR:=c.AR.add i.toNat i.toNat,Az:=s.Az.add i.toNat i.toNat} J S (.inl C.due) ⟨h.base.AV,h.base.AI,h.base.ks,h.base.first,h.base.closed,h.base.code,h.base.said,h.base.next⟩ ⟨I,λn G=>?_,g.ws,g.rs,g.f1,g.f2⟩ (λn G=>⟨(h.due A n G).1,w n (h.due A n G).2⟩) A (Ba.has_add hc.AR (.inr ⟨er _,er _⟩)) (λf V=>⟨W f V,λF=>q ⟨f,V,F⟩⟩)
   ·exact⟨by rw[this.1],this.2⟩
   obtain Q|Q:=Ba.xu (show BD n (c.AR.add i.toNat i.toNat).l from G)
   ·exact(em n).2 (.inr (g.Az n Q))
   exact(em n).2 (.inl Q)
def mS{there:List Bool}{high}(C:EC l)(hb:∀r∈l,r.hi<high)(ht:∀n,n<high→(there.getD n false=true↔BD n l)){read}(hr:read≤high):
  ∀(m a:Nat),read≤a→a≤(AW read high l).1→runN there high m a=min ((AW read high l).1-a) m
 |0,a,O,U=>by rw[runN];omega
 |m+1,a,O,U=>by
  obtain⟨Q,S⟩:=K0 C hr hb;have N:=(Ic l read high C hr).2.1;rw[runN];by_cases b:a<(AW read high l).1
  ·rw[AJ ⟨C0,(ht a C0).2 (N a O b)⟩,mS C hb ht hr m (a+1) C0 C0];omega
  have e:a=(AW read high l).1:=by omega
  rw[AF]
  ·omega
  rintro⟨M,Z⟩;rw[e]at M Z;exact S ((ht _ M).1 Z)
def vy{s:AL}(W:Aq t c)(C:Ar t' s)(h:Rel c s)(k AQ:Int):(s.read k AQ).1=(c.read k AQ).1∧Rel (c.read k AQ).2 (s.read k AQ).2:=by
 unfold AL.read AO.read;rw[Ql h.base];by_cases O:c.stream k≠0
 ·rw[AJ O,AJ O];exact Gd
 rw[AF O,AF O];obtain⟨A,_,Z⟩:=L5 (by omega:c.stream k=0);have g:=(h.opn A).rs _ Z;have Y:=W.rs _ Z;have F:=C.ins _ Z;dsimp only;unfold HV;by_cases o:(c.r k.toNat).given=true∧(c.r k.toNat).state=0
 ·have p:(s.i k.toNat).given=true∧(s.i k.toNat).state=0:=by rw[g.given,g.state];exact o
  rw[AJ o,AJ p];simp only[eq_false (show ¬(2:Nat)=0 by decide),if_false,if_true,and_false,kv,tS];exact⟨by rw[g.code],h.CE W C A Z ⟨g.high,g.en,g.ended,g.given,g.code,g.read,I,g.there,(λh=>by rw[o.1]at h;cases h)⟩⟩
 have p:¬((s.i k.toNat).given=true∧(s.i k.toNat).state=0):=by rw[g.given,g.state];exact o
 rw[AF o,AF p];by_cases X:(c.r k.toNat).state=0
 ·have f:(s.i k.toNat).state=0:=by rw[g.state];exact X
  have S:(c.r k.toNat).given=false:=by
   cases e:(c.r k.toNat).given
   ·rfl
   exact absurd ⟨e,X⟩ o
  rw[AJ X,AJ f];have G:runN (s.i k.toNat).there (s.i k.toNat).high AQ.toNat (s.i k.toNat).read=JO (c.r k.toNat) AQ:=by
   rw[g.high,g.read];exact mS Y.co.inc Y.co.hi g.there Y.rh _ _ Dz ((Ic _ _ _ Y.co.inc Y.rh).1)
  rw[G];obtain⟨K,v⟩:=K0 Y.co.inc Y.rh Y.co.hi;have q:=(Ic _ _ _ Y.co.inc Y.rh).2.1;have R:JO (c.r k.toNat) AQ≤(AW (c.r k.toNat).read (c.r k.toNat).high (c.r k.toNat).AG.l).1-(c.r k.toNat).read:=Ajw _ _;generalize hN:JO (c.r k.toNat) AQ=n at R⊢;have hbl:=Y.len S;have Q:=F.dl;have V:=g.high;have L:=g.read;have J:((s.i k.toNat).data.drop (s.i k.toNat).read).take n=(c.r k.toNat).b.take n:=by
   apply Alj
   ·simp only[hZ,di];omega
   intro i U M;simp only[hZ,di]at U M;have:=g.data S ((c.r k.toNat).read+i) (Alk _ _) (q _ (Alk _ _) C0);rw[Amc]at this;simp only[List.getElem_take,List.getElem_drop];simp only[ek]at this;rw[c8 C0,c8 C0]at this;simp only[Option.getD_some]at this;rw[this];congr 1;omega
  have a:Nc {c.r k.toNat with b:=(c.r k.toNat).b.drop n,read:=(c.r k.toNat).read+n} {s.i k.toNat with read:=(s.i k.toNat).read+n}:=
   ⟨g.high,g.en,g.ended,g.given,g.code,by show(s.i k.toNat).read+n=_;rw[g.read],g.state,g.there,λhg' m hm j=>by
    have w:(c.r k.toNat).read+n≤m:=hm;have:=g.data S m C0 j;show((c.r k.toNat).b.drop n).getD (m-((c.r k.toNat).read+n)) 0=(s.i k.toNat).data.getD m 0;rw[←this];simp only[ek,Cx];congr 2;omega⟩
  rw[J];rw[g.ended,g.read,g.en];by_cases N:(c.r k.toNat).ended=true∧(c.r k.toNat).read+n=(c.r k.toNat).end_
  ·rw[AJ N,AJ ⟨N.1,N.2,f⟩];refine⟨I,h.CE W C A Z ⟨a.high,I,I,a.given,a.code,?_,I,a.there,a.data⟩⟩;show(c.r k.toNat).read+n=_;rfl
  rw[AF N,AF (λh=>N ⟨h.1,h.2.1⟩)];refine⟨?_,h.CE W C A Z ⟨a.high,I,I,a.given,a.code,?_,a.state,a.there,a.data⟩⟩
  ·rw[f,AF C2];show(_,0,0,0)=(_,(c.r k.toNat).state,0,0);rw[X]
  show(c.r k.toNat).read+n=_;rfl
 have f:¬(s.i k.toNat).state=0:=by rw[g.state];exact X
 rw[AF X,AF f];simp only[kv,tS,f,and_false,if_false];refine⟨by rw[g.state,g.code],h.CE W C A Z ⟨g.high,g.en,g.ended,g.given,g.code,g.read,g.state,g.there,g.data⟩⟩
def NC(xs:List UInt8):Nat→Nat
 |0=>0
 |i+1=>NC xs i*256+(xs.getD i 0).toNat
def xD(xs:List UInt8):∀i,NC xs i<2^(8*i)
 |0=>by simp[NC]
 |i+1=>by
  have O:=xD xs i;have U:=(xs.getD i 0).toNat_lt;simp only[NC];rw[show 8*(i+1)=8*i+8 by omega,za,show(2:Nat)^8=256 by decide];omega
def qF(xs:List UInt8):∀i,i≤8→(be xs i).toNat=NC xs i
 |0,_=>rfl
 |i+1,h=>by
  have Z:=qF xs i C0;have O:=xD xs (i+1);have X:2^(8*(i+1))≤2^64:=Akc C0 C0;have U:=(xs.getD i 0).toNat_lt;simp only[NC]at O⊢;simp only[be,Akq,Ajm,Z,Ajz];rw[show(8:UInt64).toNat%64=8 from I,Akf,show(2:Nat)^8=256 by decide,pg C0];have:=Aj9 (i:=8) (b:=(xs.getD i 0).toNat) C0 (NC xs i);rw[show(2:Nat)^8=256 by decide,Al4]at this;exact this.symm
def NU(n:UInt64)(k:UInt64)(j)(Z:k.toNat=j)(W:j<64):((n>>> k).toUInt8).toNat=n.toNat/2^j%256:=by
 rw[All,Ak4,Z,pg W,Ajv]
def jv(n:UInt64)(t:List UInt8):be (CS n++t) 8=n:=by
 apply Alh.1;rw[qF _ 8 C0];have G:=n.toNat_lt;have j:=NU n 56 56 I C0;have C:=NU n 48 48 I C0;have Y:=NU n 40 40 I C0;have K:=NU n 32 32 I C0;have J:=NU n 24 24 I C0;have F:=NU n 16 16 I C0;have r:=NU n 8 8 I C0;have s:n.toUInt8.toNat=n.toNat%256:=All n;simp only[NC,CS,Ap,Amv,Amw,j,C,Y,K,J,F,r,s];omega
def jo(ks:List UInt8)(e:UInt8)(n:UInt64)(xs:List UInt8):EF ks e n (EF ks e n xs)=xs:=by
 have J:∀m,aa (Dm ks e n m)=m:=λm=>by simp[Dm]
 have O:aa (EF ks e n xs)=aa xs:=by rw[EF,L9 _ _ (by rw[J];exact er _),J]
 rw[EF,O];apply Alj
 ·rw[L9 _ _ (by rw[J,O];exact er _),J]
 intro i U M;simp only[DH,EF,List.getElem_zipWith];rw[UInt8.xor_assoc,UInt8.xor_self,UInt8.xor_zero]
def vc(ks:List UInt8)(e:UInt8)(n:UInt64)(xs:List UInt8)(G:n.toNat≤4611686018427387903)(J:16+aa xs≤300):B6 ks e (E5 ks e n xs)=some (n,xs):=by
 have C:∀m,aa (Dm ks e n m)=m:=λm=>by simp[Dm]
 have hm:aa (EF ks e n xs)=aa xs:=by rw[EF,L9 _ _ (by rw[C];exact er _),C]
 have A:aa (Ij ks e n (EF ks e n xs))=8:=rfl;have hbl:aa (CS n)=8:=rfl;have L:aa (E5 ks e n xs)=16+aa xs:=by
  rw[E5,a5,a5,hm,A,hbl];omega
 have a:be (E5 ks e n xs) 8=n:=by rw[E5,c5];exact jv n _
 have h:(E5 ks e n xs).drop (aa xs+8)=Ij ks e n (EF ks e n xs):=by
  rw[E5,Akr dB]
 have q:FO (E5 ks e n xs)=EF ks e n xs:=by
  rw[FO,L,show 16+aa xs-8=aa xs+8 by omega,E5,DD dB,Akr hbl]
 unfold B6;rw[L,AF C0,a,q,show 16+aa xs-8=aa xs+8 by omega,h,AF C9,jo]
def lY{s:AL}{fs}(Y:fs≠ [])(hf:∀f∈fs,B4 f∧FR f=f∧aa f.ranges≤8)(J:aa (Bk fs)+16≤s.AV)(hm:s.AV≤300)(G:s.next<4000000000):
  s.opened (E5 s.ks (Bb s.first) (ad s.next) (Bk fs))=(some fs,{s with next:=s.next+1}):=by
 have j:(ad s.next).toNat=s.next:=by rw[Alq];omega
 have O:=vc s.ks (Bb s.first) (ad s.next) (Bk fs) (by rw[j];omega) C0;have N:G4 fs=some (Bk fs):=by unfold G4;rw[AJ ⟨Y,λf m=>(hf f m).1⟩]
 have U:=(pf N (λf m=>by have:=(hf f m).2.2;omega)).1;have M:fs.map FR=fs:=by
  conv=>rhs;rw[←cx fs]
  exact Ako λf m=>(hf f m).2.1
 rw[M]at U;unfold AL.opened;rw[O];dsimp only;rw[AF (by rw[ZN,j];omega),U];dsimp only;rw[AJ N]
def Aee{s:AL}(W:Aq t c)(ht:t<100000000)(h:Base c s):(s.Df c.Df.1).1=true∧Base c.Df.2 (s.Df c.Df.1).2:=by
 unfold AL.Df Df;rw[h.said];by_cases C:c.said=true
 ·rw[AJ C,AJ C];exact Gd
 rw[AF C,AF C];rw[AF C3];have e:(([E5 c.ks (Bb c.first) (ad c.next) (Av (DX c.code))]:List (List UInt8)).getD 0 [])=E5 ({s with said:=true}:AL).ks (Bb ({s with said:=true}:AL).first) (ad ({s with said:=true}:AL).next) (Bk [DX c.code]):=by
  show E5 c.ks (Bb c.first) (ad c.next) (Av (DX c.code))=E5 s.ks (Bb s.first) (ad s.next) (Bk [DX c.code]);rw[Mt,h.ks,h.first,h.next]
 have L:aa (Bk [DX c.code])≤30:=by
  have v:=DS c.code;have J:=DS 0;rw[Mt];have:aa (Av (DX c.code))≤1+aa (AU c.code)+aa (AU 0)+aa (AU 0):=by
   show(Av (DX c.code)).length≤_;simp[Av,DX];omega
  omega
 have a:=W.m1;have b:=W.m2;have o:=W.nx;have j:=h.AV;have A:=h.next;rw[e,lY C3 (λf V=>by rw[g5.1 V];exact⟨bH W.code,I,bk _⟩) (by show _≤s.AV;omega) (by show s.AV≤300;omega) (by show s.next<_;omega)];dsimp only;refine⟨?_,h.AV,h.AI,h.ks,h.first,h.closed,h.code,I,by show s.next+1=c.next+1;rw[h.next]⟩;rw[decide_eq_true_eq];exact⟨I,I,by show c.code=s.code;rw[h.code]⟩
def mG:∀(l:List Af) (s:AL) (f:Af),(s.De l).1=true→s.De (l++[f])=(s.De l).2.may f
 |[],s,f,h=>by
  show(if(s.may f).1=true then(true,(s.may f).2)else(false,(s.may f).2))=s.may f
  rcases hm:s.may f with⟨b,q⟩
  cases b<;>rfl
 |g::l,s,f,h=>by
  rw[Ap,AL.De];rw[AL.De]at h;by_cases S:(s.may g).1=true
  ·rw[AJ S]at h⊢;rw[mG l _ f h,AL.De,AJ S]
  ·rw[AF S]at h;cases h
def vW:∀(l:List (List UInt8)) (s:AL) (b:List UInt8),(s.ET l).1=true→s.ET (l++[b])=(s.ET l).2.emit b
 |[],s,f,h=>by
  show(if(s.emit f).1=true then(true,(s.emit f).2)else(false,(s.emit f).2))=s.emit f
  rcases hm:s.emit f with⟨b,q⟩
  cases b<;>rfl
 |g::l,s,f,h=>by
  rw[Ap,AL.ET];rw[AL.ET]at h;by_cases S:(s.emit g).1=true
  ·rw[AJ S]at h⊢;rw[vW l _ f h,AL.ET,AJ S]
  ·rw[AF S]at h;cases h
def Adi(b:List UInt8)(k lo hi fin):(CU k lo fin (cut b lo hi)).data.data.toList=cut b lo hi:=by simp[CU,BR]
def Aed{ws:List At}{s:AL}{w' f}(hw:El AI ws)(Q:aa s.outs=4)(hk:k<4)(J:Ml (ws.getD k BO) w' k f)(hr:∀j,j<4→I0 (ws.getD j BO) (s.o j)):∃outs,s.may f=(true,{s with outs:=outs})∧aa outs=4∧∀j,j<4→I0 ((ws.set k w').getD j BO) (outs.getD j CX):=by
 have g:=hr k hk;have G:∀(A:CZ),I0 w' A→∀j,j<4→I0 ((ws.set k w').getD j BO) ((s.outs.set k A).getD j CX):=by
  intro A a j W;rw[Gi,Gi];by_cases e:k=j
  ·subst e;rw[AJ ⟨I,TJ⟩,AJ ⟨I,by rw[Q];exact hk⟩];exact a
  rw[AF (λh=>e h.1),AF (λh=>e h.1)];exact hr j W
 obtain⟨O,U,rfl,rfl⟩|⟨O,lo,hi,U,M,rfl,Z,X,C,rfl⟩:=J
 ·refine⟨s.outs,?_,Q,?_⟩
  ·have p:((Iv k (ws.getD k BO).code (ws.getD k BO).high).stream).toNat=k:=by show((k:Int)).toNat=k;rw[dz]
   unfold AL.may;rw[AF (by show ¬(4:Int)=3;decide),AJ (by show(4:Int)=4;rfl),p];rw[show(decide ((s.o k).given=true∧(Iv k (ws.getD k BO).code (ws.getD k BO).high).offset=(s.o k).end_∧(Iv k (ws.getD k BO).code (ws.getD k BO).high).code=(s.o k).code))=true from
    decide_eq_true ⟨by rw[g.given];exact O,by rw[g.en O];rfl,by rw[g.code];rfl⟩]
  have:s.outs=s.outs.set k (s.o k):=by
   apply Alx;intro i;rw[Ajx];by_cases e:k=i
   ·subst e;rw[AJ I,AJ C0];show _=some (s.outs.getD k CX);simp only[ek];rw[c8 C0];rfl
   rw[AF e]
  rw[this];exact G _ ⟨g.b,g.fin,g.given,g.code,g.high,g.en,g.AG⟩
 have L:=PI (lo:=lo) M;have p:((CU k lo ((ws.getD k BO).finished&&decide (hi=(ws.getD k BO).b.length)) (cut (ws.getD k BO).b lo hi)).stream).toNat=k:=by show((k:Int)).toNat=k;rw[dz]
 have v:(CU k lo ((ws.getD k BO).finished&&decide (hi=(ws.getD k BO).b.length)) (cut (ws.getD k BO).b lo hi)).data.size=hi-lo:=by rw[On,L]
 have w:(CU k lo ((ws.getD k BO).finished&&decide (hi=(ws.getD k BO).b.length)) (cut (ws.getD k BO).b lo hi)).offset=lo:=rfl;have r:(CU k lo ((ws.getD k BO).finished&&decide (hi=(ws.getD k BO).b.length)) (cut (ws.getD k BO).b lo hi)).fin=((ws.getD k BO).finished&&decide (hi=(ws.getD k BO).b.length)):=rfl;rw[r]at Z;have m:lo+(hi-lo)=hi:=C0;have q:(s.o k).data=(ws.getD k BO).b:=g.b;refine⟨s.outs.set k {s.o k with high:=max (s.o k).high hi},?_,by rw[n5];exact Q,G _ ⟨g.b,g.fin,g.given,g.code,by show max (s.o k).high hi=max _ hi;rw[g.high],(λF=>by rw[O]at F;cases F),g.AG⟩⟩;unfold AL.may;rw[AF (by show ¬(5:Int)=3;decide),AF (by show ¬(5:Int)=4;decide),AJ (by show(5:Int)=5;rfl)];unfold AL.sends;dsimp only;rw[p,w,v,m,Adi,r,g.given,O,g.fin,q];rw[AF,AF]
 ·rfl
 ·rintro(V|V)
  ·exact V I
  obtain Z|Z:=Z
  ·omega
  rw[V.2]at Z;cases Z
 rintro(V|V|V)
 ·cases V
 ·omega
 exact V I
structure I5(z:By)(s:AL):Prop where
 base:Base z.c s
 opn:Open z.c s
 told:∀r∈z.told,r∈z.c.AR.l
 due:∀n∈s.due,n<z.c.AR.floor∨BD n z.told
 closed:z.c.closed=0
 outs:s.outs.length=4
 Az:EC s.Az.l
def Afb{n}(k)(h:BD n l):BD n (l.take k)∨BD n (l.drop k):=by
 obtain⟨r,Y,U⟩:=h;rw[←px k l]at Y;obtain Y|Y:=j2.1 Y
 ·exact .inl ⟨r,Y,U⟩
 exact .inr ⟨r,Y,U⟩
def nr{n}(h:BD n l):BJ l n=true:=by
 obtain⟨r,Y,h2⟩:=h;unfold BJ;rw[Am9];exact⟨r,Y,Pz⟩
structure QP(AI:Nat)(s1 s2:AL)(ws:List At)(d:B9):Prop where
 ok:El AI ws
 out:∃outs,s1.De d.A7=(true,{s2 with outs:=outs})∧outs.length=4∧∀j,j<4→I0 (ws.getD j BO) (outs.getD j CX)
def QP.fill{A s2 ws d}(h:QP AI A s2 ws d):QP AI A s2 (Fv d ws 0 4).1 (Fv d ws 0 4).2:=by
 refine ZH (λws d=>QP AI A s2 ws d) (λws d h=>h.ok.len) ?_ 4 0 ws d Dz h;intro ws d k V q W Z e;obtain⟨f,C,J⟩:=yT (W.ok.ok k Z) e;obtain⟨outs,L,Q,j⟩:=W.out;obtain⟨a,b,c,_⟩:=nS C;obtain⟨o,S,F,i⟩:=Aed (s:={s2 with outs:=outs}) W.ok Q Z J j;refine⟨W.ok.set (J.AM (W.ok.ok k Z)).2,o,?_,F,i⟩;rw[a,mG _ _ _ (by rw[L]),L];exact S
def O! {z:By}{s:AL}(h:I5 z s)(ht:Told z.told)(m):
  ({s with next:=s.next+1}:AL).may (Fo (z.told.take m))=(true,{s with next:=s.next+1,due:=s.due.filter (λn=> !(decide (n<s.AR.floor)||BJ (z.told.take m) n))}):=by
 unfold AL.may;rw[AJ (by show(3:Int)=3;rfl)];unfold AL.IR;rw[AJ]
 ·rfl
 intro r Y;have X:r∈z.told.take m:=Y;have O:=h.told r (Gp X);have U:=(ht.r r (Gp X)).1;exact kb h.Az U λn M Z=>h.opn.Az n ⟨r,O,M,Z⟩
def I5.A7{z:By}{s:AL}(hz:Es t z)(h:I5 z s):
  ∃outs due,({s with next:=s.next+1}:AL).De z.filled.2.A7=(true,{s with next:=s.next+1,outs:=outs,due:=due})∧aa outs=4∧
   (∀j,j<4→I0 (z.filled.1.getD j BO) (outs.getD j CX))∧(∀n∈due,n<z.c.AR.floor∨BD n z.Jh)∧(∀n∈due,n∈s.due):=by
 have C:∀j,j<4→I0 (z.c.ws.getD j BO) (s.outs.getD j CX):=h.opn.ws;have r:∃due,QP z.c.AI {s with next:=s.next+1} {s with next:=s.next+1,due:=due} z.c.ws (z.c.Fs z.told)∧(∀n∈due,n<z.c.AR.floor∨BD n z.Jh)∧(∀n∈due,n∈s.due):=by
  by_cases A:z.told=[]
  ·refine⟨s.due,⟨hz.c.ws,s.outs,?_,h.outs,C⟩,λn G=>?_,λn G=>G⟩
   ·rw[A,kM];rfl
   have:=h.due n G;unfold By.Jh;rw[A]at this⊢;simpa using this
  refine⟨s.due.filter (λn=> !(decide (n<s.AR.floor)||BJ (z.told.take (GK z.told (z.c.AV-16) (aa z.told))) n)),⟨hz.c.ws,s.outs,?_,h.outs,C⟩,λn G=>?_,λn G=>(o4.1 G).1⟩
  ·rw[mH _ A];rw[AL.De,O! h hz.told _];rfl
  obtain⟨O,U⟩:=o4.1 G;simp only[Bool.not_eq_true',Bool.or_eq_false_iff,decide_eq_false_iff_not]at U;rw[h.opn.AR]at U;obtain M|M:=h.due n O
  ·exact absurd M U.1
  obtain Z|Z:=Afb (GK z.told (z.c.AV-16) (aa z.told)) M
  ·rw[nr Z]at U;cases U.2
  exact .inr Z
 obtain⟨due,W,m,p⟩:=r;unfold By.filled;split
 ·obtain⟨_,outs,a,b,c⟩:=W.fill;exact⟨outs,due,a,b,c,m,p⟩
 obtain⟨_,outs,a,b,c⟩:=W;exact⟨outs,due,a,b,c,m,p⟩
def Aap{fs}(h:E9 fs=false)(k n):¬Jl fs k n:=by
 rintro⟨f,V,X,_⟩;unfold E9 at h;rw[List.any_eq_false]at h;have:=h f V;rw[X]at this;exact this C2
def I5.step{z:By}{s:AL}(hz:Es t z)(ht:t<100000000)(h:I5 z s)(Y:z.filled.2.A7≠ []):
  ∃K,s.emit (E5 z.c.ks (Bb z.c.first) (ad z.c.next) z.filled.2.b)=(true,K)∧I5 z.step K:=by
 obtain⟨outs,due,L,O,R,m4,v⟩:=h.A7 hz;have V:=hz.filled;have a:=hz.c.m1;have W:=hz.c.m2;have j:=h.base.AV;have A:=h.base.next;have o:=hz.c.nx;have hdl:=V.LA.len;have GW:z.filled.2.room=z.c.AV-16:=V.room.trans I
 have S:s.opened (E5 z.c.ks (Bb z.c.first) (ad z.c.next) z.filled.2.b)=(some z.filled.2.A7,{s with next:=s.next+1}):=by
  rw[←h.base.ks,←h.base.first,←h.base.next];refine lY Y (λf m=>let g:=V.LA.fr f m;⟨g.ok,g.nm,g.rg⟩) ?_ C0 C0;have:aa (Bk z.filled.2.A7)=aa z.filled.2.b:=rfl;omega
 refine⟨{s with next:=s.next+1,outs:=outs,due:=due,AM:=s.AM++[⟨s.next,z.filled.2.A7⟩]},?_,?_⟩
 ·unfold AL.emit;rw[S];dsimp only;rw[L];rfl
 have M:=h.base;have Q:=h.opn;have F:z.step.c.Bp=if E9 z.filled.2.A7 then z.c.Bp++[⟨z.c.next,z.c.now,z.filled.2.A7⟩]else z.c.Bp:=rfl;refine⟨⟨M.AV,M.AI,M.ks,M.first,M.closed,M.code,M.said,by show s.next+1=z.c.next+1;rw[M.next]⟩,⟨Q.AR,Q.Az,R,Q.rs,λp J=>?_,λq N=>?_⟩,λr hr=>h.told r (Amr hr),m4,h.closed,O,h.Az⟩
 ·show _∈s.AM++[_];rw[F]at J;have C:p∈(if E9 z.filled.2.A7=true then z.c.Bp++[⟨z.c.next,z.c.now,z.filled.2.A7⟩]else z.c.Bp)∨p∈z.c.lost:=J;rw[j2];split at C
  ·obtain C|C:=C
   ·obtain C|C:=j2.1 C
    ·exact .inl (Q.f1 p (.inl C))
    rw[g5.1 C];right;rw[g5];show(⟨z.c.next,z.filled.2.A7⟩:Le)=⟨s.next,_⟩;rw[M.next]
   exact .inl (Q.f1 p (.inr C))
  exact .inl (Q.f1 p C)
 have i:q∈s.AM++[⟨s.next,z.filled.2.A7⟩]:=N;have U:∀p,(p∈z.c.Bp∨p∈z.c.lost)→(p∈z.step.c.Bp∨p∈z.step.c.lost):=by
  intro p J;rw[F];obtain J|J:=J
  ·left;split
   ·exact List.mem_append_left _ J
   exact J
  exact .inr J
 have e:∀k,(z.step.c.w k).AG=(z.c.w k).AG:=λk=>(V.AM k).AG;obtain i|i:=j2.1 i
 ·obtain⟨p,J,g⟩|g:=Q.f2 q i
  ·exact .inl ⟨p,U p J,g⟩
  exact .inr λk n Z G=>by rw[e];exact g k n Z G
 rw[g5.1 i];by_cases X:E9 z.filled.2.A7=true
 ·refine .inl ⟨⟨z.c.next,z.c.now,z.filled.2.A7⟩,.inl ?_,by show z.c.next=s.next;rw[M.next],I⟩;rw[F,AJ X];exact List.mem_append_right _ (g5.2 I)
 exact .inr λk n _ G=>absurd G (Aap (by simpa using X) k n)
def I5.stop{z:By}{s}(hz:Es t z)(h:I5 z s)(e:z.filled.2.A7=[]):
  z.told=[]∧Base {z.c with ws:=z.filled.1} s∧Open {z.c with ws:=z.filled.1} s:=by
 obtain⟨K,due,L,f,b,w,v⟩:=h.A7 hz;have V:=hz.filled;have a:=h.base;have Q:=h.opn;refine⟨?_,⟨a.AV,a.AI,a.ks,a.first,a.closed,a.code,a.said,a.next⟩,⟨Q.AR,Q.Az,?_,Q.rs,Q.f1,λq N=>?_⟩⟩
 ·by_cases A:z.told=[]
  ·exact A
  obtain⟨l,C,_⟩:=V.A7;rw[e,mH _ A]at C;cases C
 ·rw[e]at L;have:K=s.outs:=by
   have:=congrArg (λz:Bool×AL=>z.2.outs) L;exact this.symm
  intro k Z;have:=b k Z;rw[‹K=s.outs›]at this;exact this
 obtain g|g:=Q.f2 q N
 ·exact .inl g
 refine .inr λk n Z G=>?_;show BD n ((z.filled.1.getD k BO)).AG.l;rw[(V.AM k).AG];exact g k n Z G
def I5.EN(ht:t<100000000):∀(n:Nat) (z:By) (L:AL),z.mu<n→Es t z→(L.ET z.out).1=true→I5 z (L.ET z.out).2→
  (L.ET (Go.Proofs.YtgfdlpcdjklcoaaGreatDoor.EN n z).out).1=true∧(∀m∈(L.ET (Go.Proofs.YtgfdlpcdjklcoaaGreatDoor.EN n z).out).2.due,m<(Go.Proofs.YtgfdlpcdjklcoaaGreatDoor.EN n z).c.AR.floor)∧
  Base (Go.Proofs.YtgfdlpcdjklcoaaGreatDoor.EN n z).c (L.ET (Go.Proofs.YtgfdlpcdjklcoaaGreatDoor.EN n z).out).2∧Open (Go.Proofs.YtgfdlpcdjklcoaaGreatDoor.EN n z).c (L.ET (Go.Proofs.YtgfdlpcdjklcoaaGreatDoor.EN n z).out).2∧(Go.Proofs.YtgfdlpcdjklcoaaGreatDoor.EN n z).c.closed=0
 |0,z,L,G,J,N,h=>absurd G (Aje _)
 |n+1,z,L,G,J,N,h=>by
  rw[Go.Proofs.YtgfdlpcdjklcoaaGreatDoor.EN];by_cases Y:z.filled.2.A7=[]
  ·rw[AJ Y];obtain⟨a,b,c⟩:=h.stop J Y;refine⟨N,λm W=>?_,b,c,h.closed⟩;obtain g|g:=h.due m W
   ·exact g
   rw[a]at g;exact absurd g (RW _)
  rw[AF Y];obtain⟨O,U⟩:=J.step Y;obtain⟨K,C,M⟩:=h.step J ht Y;have S:z.step.out=z.out++[E5 z.c.ks (Bb z.c.first) (ad z.c.next) z.filled.2.b]:=rfl;have F:L.ET z.step.out=(true,K):=by rw[S,vW _ _ _ N];exact C
  exact I5.EN ht n z.step L C0 O (by rw[F]) (by rw[F];exact M)
def Ab3{s:AL}(W:Aq t c)(C:Ar t' s)(ht:t<90000000)(h:Rel c s):(s.GL c.BA.1).1=true∧Rel c.BA.2 (s.GL c.BA.1).2:=by
 unfold AL.GL BA;rw[h.base.closed];by_cases A:c.closed≠0
 ·rw[AJ A,AJ A];obtain⟨a,b⟩:=Aee W C0 h.base;have L:c.Df.2.closed=c.closed:=by unfold Df;split<;>rfl
  exact⟨a,b,λe=>absurd (L.symm.trans e) A,λe=>absurd (L.symm.trans e) A⟩
 rw[AF A,AF A];have A:c.closed=0:=C0;have J:=Es.begin W;have Q:=h.opn A;have q:=h.base;have F:=h.due A;have f:I5 ⟨{c with answer:=false},if c.answer then c.AR.l.reverse else [],[]⟩ s:=by
  refine⟨⟨q.AV,q.AI,q.ks,q.first,q.closed,q.code,q.said,q.next⟩,⟨Q.AR,Q.Az,Q.ws,Q.rs,Q.f1,Q.f2⟩,λr Y=>?_,λn G=>?_,A,C.outs.len,C.Az.inc⟩
  ·have X:r∈(if c.answer=true then c.AR.l.reverse else []):=Y;split at X
   ·exact Am6.1 X
   cases X
  obtain⟨d1,d2⟩:=F n G;obtain d2|⟨r,d2,d3⟩:=d2
  ·exact .inl d2
  refine .inr ⟨r,?_,d3⟩;show r∈(if c.answer=true then c.AR.l.reverse else []);rw[AJ d1];exact Am6.2 d2
 have i:(⟨{c with answer:=false},if c.answer then c.AR.l.reverse else [],[]⟩:By).mu<40:=by have:=J.tl;unfold By.mu;omega
 obtain⟨U,j,O,R,K⟩:=I5.EN C0 40 _ s i J I f;dsimp only;rw[AJ U,AF]
 ·exact⟨I,⟨O.AV,O.AI,O.ks,O.first,O.closed,O.code,O.said,O.next⟩,λ_=>⟨R.AR,R.Az,R.ws,R.rs,R.f1,R.f2⟩,λ_ n G=>nomatch G⟩
 rintro⟨n,G,m⟩;have M:=j n G;rw[R.AR]at m;omega
def AL.asks(s:AL)(q:B'):B7×AL:=
 if q.kind=1 then(⟨(s.write q.stream q.data.data.toList).1.2,-1,(s.write q.stream q.data.data.toList).1.1,0,⟨#[]⟩,[]⟩,(s.write q.stream q.data.data.toList).2)
 else if q.kind=2 then(⟨(s.finish q.stream).1,-1,0,0,⟨#[]⟩,[]⟩,(s.finish q.stream).2)
 else if q.kind=3 then(⟨(s.giveUp q.stream q.code).1,-1,0,0,⟨#[]⟩,[]⟩,(s.giveUp q.stream q.code).2)
 else if q.kind=6 then(⟨(s.BY q.data.data.toList).1.1,(s.BY q.data.data.toList).1.2,0,0,⟨#[]⟩,[]⟩,(s.BY q.data.data.toList).2)
 else if q.kind=7 then(⟨(s.read q.stream q.AQ).1.2.2.2,-1,(s.read q.stream q.AQ).1.2.1,(s.read q.stream q.AQ).1.2.2.1,BR (s.read q.stream q.AQ).1.1,[]⟩,(s.read q.stream q.AQ).2)
 else if q.kind=8 then(⟨(s.close q.code).1,-1,0,0,⟨#[]⟩,[]⟩,(s.close q.code).2)
 else if q.kind=9 then(⟨(s.AG q.stream).2,-1,(s.AG q.stream).1,0,⟨#[]⟩,[]⟩,s)
 else(⟨0,-1,0,0,⟨#[]⟩,[]⟩,s)
def AL.Bj(s:AL)(q:B')(l:List (List UInt8)):AL:=if q.kind=5 then(s.GL l).2 else(s.asks q).2
def f_{s:AL}(W:Aq t c)(C:Ar t s)(ht:t<90000000)(h:Rel c s)(q:B'):
  (s.asks q).1.e=(c.Bj q).1.e∧(s.asks q).1.at_=(c.Bj q).1.at_∧(s.asks q).1.n=(c.Bj q).1.n∧(s.asks q).1.code=(c.Bj q).1.code∧(s.asks q).1.data=(c.Bj q).1.data∧
  (q.kind≠5→(c.Bj q).1.BA=[]∧Rel (c.Bj q).2 (s.asks q).2)∧
  (q.kind=5→(s.asks q).2=s∧(s.GL ((c.Bj q).1.BA.map (λb=>b.data.toList))).1=true∧Rel (c.Bj q).2 (s.GL ((c.Bj q).1.BA.map (λb=>b.data.toList))).2):=by
 unfold AL.asks Bj;by_cases O:q.kind=1
 ·rw[AJ O,AJ O];obtain⟨a,b⟩:=V_ W C h q.stream q.data.data.toList;rw[a];exact⟨I,I,I,I,I,λ_=>OS,λe=>absurd (O.symm.trans e) C2⟩
 rw[AF O,AF O];by_cases U:q.kind=2
 ·rw[AJ U,AJ U];obtain⟨a,b⟩:=Aam W C h q.stream;rw[a];exact⟨I,I,I,I,I,λ_=>OS,λe=>absurd (U.symm.trans e) C2⟩
 rw[AF U,AF U];by_cases M:q.kind=3
 ·rw[AJ M,AJ M];obtain⟨a,b⟩:=gr W C h q.stream q.code;rw[a];exact⟨I,I,I,I,I,λ_=>OS,λe=>absurd (M.symm.trans e) C2⟩
 rw[AF M,AF M];by_cases Z:q.kind=4
 ·rw[AJ Z,AF C0,AF C0,AF C0,AF C0];exact⟨I,I,I,I,I,λ_=>⟨I,oz W h⟩,λe=>absurd (Z.symm.trans e) C2⟩
 rw[AF Z];by_cases X:q.kind=5
 ·rw[AJ X,AF C0,AF C0,AF C0,AF C0];obtain⟨a,b⟩:=Ab3 W C ht h;have e:(c.BA.1.map BR).map (λb=>b.data.toList)=c.BA.1:=by
   rw[Al1]
   conv=>rhs;rw[←cx c.BA.1]
   exact Ako λx _=>by simp[BR]
  refine⟨I,I,I,I,I,λe=>absurd X e,λ_=>⟨I,?_⟩⟩;dsimp only;rw[e];exact⟨a,b⟩
 rw[AF X];by_cases J:q.kind=6
 ·rw[AJ J,AJ J];obtain⟨a,b⟩:=sx W C C0 h q.data.data.toList;rw[a];exact⟨I,I,I,I,I,λ_=>OS,λe=>absurd (J.symm.trans e) C2⟩
 rw[AF J,AF J];by_cases V:q.kind=7
 ·rw[AJ V,AJ V];obtain⟨a,b⟩:=vy W C h q.stream q.AQ;rw[a];exact⟨I,I,I,I,I,λ_=>OS,λe=>absurd (V.symm.trans e) C2⟩
 rw[AF V,AF V];by_cases G:q.kind=8
 ·rw[AJ G,AJ G];obtain⟨a,b⟩:=P_ h q.code;rw[a];exact⟨I,I,I,I,I,λ_=>OS,λe=>absurd (G.symm.trans e) C2⟩
 rw[AF G,AF G];by_cases F:q.kind=9
 ·rw[AJ F,AJ F];rw[Ad2 W C h q.stream];exact⟨I,I,I,I,I,λ_=>Gd,λe=>absurd (F.symm.trans e) C2⟩
 rw[AF F,AF F];exact⟨I,I,I,I,I,λ_=>Gd,λe=>absurd e X⟩
def Ar.asks{s:AL}(h:Ar t s)(ht:t<1000000000)(q):Ar (t+1) (s.asks q).2:=by
 unfold AL.asks;split
 ·exact(h.write _ _).mono FT
 split
 ·exact(h.finish _).mono FT
 split
 ·exact(h.giveUp _ _).mono FT
 split
 ·exact h.BY ht _
 exact nA
section
structure Ds where
 q:Nat
 o:CZ
 cq:Nat
 ca:DO
@[reducible] def Gq(m:Ds):List Value:=[.string (BR m.o.data),ptr m.cq 0,.bool m.o.finished,.bool m.o.given,uN m.o.code,uN m.o.end_,uN m.o.high]
@[reducible] instance layOut:AB Ds:=⟨1,λm=>[ptr m.q 0],⟨0,CX,0,B0⟩,λ_=>rfl,λ_ v h=>by simp at h;obtain rfl:=h;rfl⟩
def Bc(m:Ds):HP:=AA m.q 0 (Gq m)*AK m.cq m.ca m.o.AG
def Ds.ok(m:Ds):Prop:=m.ca.ok m.o.AG
@[reducible] instance layBool:AB Bool:=⟨1,λb=>[.bool b],false,λ_=>rfl,λ_ v h=>by simp at h;obtain rfl:=h;rfl⟩
structure E0 where
 q:Nat
 x:Dv
 a:Am
 b:Am
@[reducible] def I7(m:E0):List Value:=[.slice m.a.p (aa m.x.data) m.a.c,.slice m.b.p (aa m.x.there) m.b.c,uN m.x.high,uN m.x.end_,.bool m.x.ended,.bool m.x.given,uN m.x.code,uN m.x.read,iN m.x.state]
@[reducible] instance layIn:AB E0:=⟨1,λm=>[ptr m.q 0],⟨0,KD,Bw,Bw⟩,λ_=>rfl,λ_ v h=>by simp at h;obtain rfl:=h;rfl⟩
def BP(m:E0):HP:=AA m.q 0 (I7 m)*(m.a.h m.x.data*m.b.h m.x.there)
def E0.ok(m:E0):Prop:=m.a.ok m.x.data∧m.b.ok m.x.there
structure EL where
 number:Nat
 fs:List RF
 a:Am
@[reducible] def SU(m:EL):List Value:=[uN m.number,.slice m.a.p (aa m.fs) m.a.c]
@[reducible] instance laySn:AB EL:=⟨2,SU,⟨0,[],Bw⟩,λ_=>rfl,λ_ v h=>by simp at h;rcases h with rfl|rfl<;>rfl⟩
def EL.s(m:EL):Le:=⟨m.number,m.fs.map (·.f)⟩
def DB(m:EL):HP:=m.a.h m.fs
def EL.ok(m:EL):Prop:=m.a.ok m.fs
structure SC where
 AV:Nat
 AI:Nat
 ks:List UInt8
 first:Bool
 closed:Nat
 code:Nat
 said:Bool
 next:Nat
 gq:Nat
 eq:Nat
 dv:Value
 ov:Value
 iv:Value
 sv:Value
def NQ(first:Bool):Nat:=if first then 0 else 1
def Ag(sb:Nat)(x:SC):HP:=
 AA sb (0+0) [iN x.AV,iN x.AI]*(AA sb (0+2) (AE x.ks)*(AA sb (0+18) [iN (NQ x.first)]*(AA sb (0+19) [iN x.closed]*(AA sb (0+20) [uN x.code]*(AA sb (0+21) [.bool x.said]*
 (AA sb (0+22) [uN x.next]*(AA sb (0+23) [ptr x.gq 0]*(AA sb (0+24) [ptr x.eq 0]*(AA sb (0+25) [x.dv]*(AA sb (0+26) [x.ov]*(AA sb (0+27) [x.iv]*AA sb (0+28) [x.sv])))))))))))
section
variable(sb:Nat)(x:SC)
instance:Cell (Ag sb x) sb (0+0+0) (iN x.AV) True:=by unfold Ag;exact AH
instance:Cell (Ag sb x) sb (0+0+1) (iN x.AI) True:=by unfold Ag;exact AH
instance:Cell (Ag sb x) sb (0+18) (iN (NQ x.first)) True:=by unfold Ag;exact AH
instance:Cell (Ag sb x) sb (0+19) (iN x.closed) True:=by unfold Ag;exact AH
instance:Cell (Ag sb x) sb (0+20) (uN x.code) True:=by unfold Ag;exact AH
instance:Cell (Ag sb x) sb (0+21) (.bool x.said) True:=by unfold Ag;exact AH
instance:Cell (Ag sb x) sb (0+22) (uN x.next) True:=by unfold Ag;exact AH
instance:Cell (Ag sb x) sb (0+23) (ptr x.gq 0) True:=by unfold Ag;exact AH
instance:Cell (Ag sb x) sb (0+24) (ptr x.eq 0) True:=by unfold Ag;exact AH
instance:Cell (Ag sb x) sb (0+25) x.dv True:=by unfold Ag;exact AH
instance:Cell (Ag sb x) sb (0+26) x.ov True:=by unfold Ag;exact AH
instance:Cell (Ag sb x) sb (0+27) x.iv True:=by unfold Ag;exact AH
instance:Cell (Ag sb x) sb (0+28) x.sv True:=by unfold Ag;exact AH
instance(v:Nat):D8 (Ag sb x) sb (0+19) (iN v) (Ag sb {x with closed:=v}) True:=by unfold Ag;exact AH
instance(v:Nat):D8 (Ag sb x) sb (0+20) (uN v) (Ag sb {x with code:=v}) True:=by unfold Ag;exact AH
instance(v:Bool):D8 (Ag sb x) sb (0+21) (.bool v) (Ag sb {x with said:=v}) True:=by unfold Ag;exact AH
instance(v:Nat):D8 (Ag sb x) sb (0+22) (uN v) (Ag sb {x with next:=v}) True:=by unfold Ag;exact AH
instance(v:Value):D8 (Ag sb x) sb (0+25) v (Ag sb {x with dv:=v}) True:=by unfold Ag;exact AH
instance(v:Value):D8 (Ag sb x) sb (0+26) v (Ag sb {x with ov:=v}) True:=by unfold Ag;exact AH
instance(v:Value):D8 (Ag sb x) sb (0+27) v (Ag sb {x with iv:=v}) True:=by unfold Ag;exact AH
instance(v:Value):D8 (Ag sb x) sb (0+28) v (Ag sb {x with sv:=v}) True:=by unfold Ag;exact AH
instance:D8 (Ag sb x) sb (0+18) (iN 1) (Ag sb {x with first:=false}) True:=by unfold Ag NQ;exact AH
end
instance rowS(sb:Nat)(x:SC):Row (Ag sb x) sb (0+2) (AE x.ks) (AA sb (0+0) [iN x.AV,iN x.AI]*(AA sb (0+18) [iN (NQ x.first)]*(AA sb (0+19) [iN x.closed]*(AA sb (0+20) [uN x.code]*(AA sb (0+21) [.bool x.said]*
 (AA sb (0+22) [uN x.next]*(AA sb (0+23) [ptr x.gq 0]*(AA sb (0+24) [ptr x.eq 0]*(AA sb (0+25) [x.dv]*(AA sb (0+26) [x.ov]*(AA sb (0+27) [x.iv]*AA sb (0+28) [x.sv]))))))))))):=⟨by unfold Ag;ac_rfl⟩
structure Ah where
 x:SC
 AR:Ba
 ga:DO
 Az:Ba
 ea:DO
 due:List Nat
 da:Am
 outs:List Ds
 oa:Am
 ins:List E0
 ia:Am
 AM:List EL
 sa:Am
def Ah.s(m:Ah):AL:=
 ⟨m.x.AV,m.x.AI,m.x.ks,m.x.first,m.x.closed,m.x.code,m.x.said,m.x.next,m.AR,m.Az,m.due,m.outs.map (·.o),m.ins.map (·.x),m.AM.map (·.s)⟩
structure Ah.ok(m:Ah):Prop where
 g:m.ga.ok m.AR
 e:m.ea.ok m.Az
 d:m.da.ok (m.due.map BG.mk)
 oa:m.oa.ok m.outs
 ia:m.ia.ok m.ins
 sa:m.sa.ok m.AM
 outs:∀o∈m.outs,o.ok
 ins:∀x∈m.ins,x.ok
 AM:∀p∈m.AM,p.ok
 dv:m.x.dv=m.da.v m.due.length
 ov:m.x.ov=m.oa.v m.outs.length
 iv:m.x.iv=m.ia.v m.ins.length
 sv:m.x.sv=m.sa.v m.AM.length
def Ad(sb:Nat)(m:Ah):HP:=
 Ag sb m.x*(AK m.x.gq m.ga m.AR*(AK m.x.eq m.ea m.Az*(m.da.h (m.due.map BG.mk)*(m.oa.h m.outs*(AP Bc m.outs*(m.ia.h m.ins*(AP BP m.ins*(m.sa.h m.AM*AP DB m.AM))))))))
def EK(sb)(m:Ah)(R):Ad sb m*R=Ag sb m.x*(AK m.x.gq m.ga m.AR*(AK m.x.eq m.ea m.Az*(m.da.h (m.due.map BG.mk)*(m.oa.h m.outs*(AP Bc m.outs*(m.ia.h m.ins*(AP BP m.ins*(m.sa.h m.AM*(AP DB m.AM*R))))))))):=by
 unfold Ad;ac_rfl
def jq{α:Type}[AB α](l:List α)(k)(y:α)(Z:k<aa l)(h:AB.enc y=AB.enc (l.getD k AD)):AE (l.set k y)=AE l:=by
 conv=>rhs;rw[←Sq l k AD Z]
 rw[Aih,AJ Z,Aih,AJ Z,GH,GH];congr 1;show AB.enc y++AE _=AB.enc _++AE _;rw[h]
def rH{α:Type}[AB α](b o)(l:List α)(s k)(y:α)(Z:k<aa l)(h:AB.enc y=AB.enc (l.getD k AD)):AC b o (l.set k y) s=AC b o l s:=by
 unfold AC;rw[jq l k y Z h]
def GB(m:Ah)(sb:Nat):HP:=AK m.x.gq m.ga m.AR*(AK m.x.eq m.ea m.Az*(m.da.h (m.due.map BG.mk)*(m.ia.h m.ins*(AP BP m.ins*(m.sa.h m.AM*AP DB m.AM)))))
def Ie(sb)(m:Ah)(R):Ad sb m*R=Ag sb m.x*(AC m.oa.b m.oa.o m.outs m.oa.s*(AP Bc m.outs*(GB m sb*R))):=by
 unfold Ad GB Am.h;ac_rfl
def K4(sb)(m:Ah)(R j)(W:j<aa m.outs):Ad sb m*R=Ag sb m.x*(AC m.oa.b m.oa.o m.outs m.oa.s*(AA (m.outs.getD j AD).q 0 (Gq (m.outs.getD j AD))*(AK (m.outs.getD j AD).cq (m.outs.getD j AD).ca (m.outs.getD j AD).o.AG*(CI Bc m.outs j*(GB m sb*R))))):=by
 rw[Ie,MO Bc m.outs j AD W];unfold Bc;ac_rfl
def Ah.Da(m:Ah)(k:Nat)(o:Ds):Ah:={m with outs:=m.outs.set k o}
def Ah.pR(m:Ah)(k)(o:Ds):(m.Da k o).s=m.s.Da k o.o:=by
 unfold Ah.Da Ah.s AL.Da;simp only[D']
def RZ(sb)(m:Ah)(R j)(W:j<aa m.outs)(y:Ds)(hy:y.q=(m.outs.getD j AD).q):
  Ad sb (m.Da j y)*R=Ag sb m.x*(AC m.oa.b m.oa.o m.outs m.oa.s*(AA y.q 0 (Gq y)*(AK y.cq y.ca y.o.AG*(CI Bc m.outs j*(GB m sb*R))))):=by
 rw[Ie];show Ag sb m.x*(AC m.oa.b m.oa.o (m.outs.set j y) m.oa.s*(AP Bc (m.outs.set j y)*(GB (m.Da j y) sb*R)))=_;rw[rH _ _ _ _ j y W Z9,Pv Bc m.outs j y W];show Ag sb m.x*(AC m.oa.b m.oa.o m.outs m.oa.s*(AA y.q 0 (Gq y)*AK y.cq y.ca y.o.AG*CI Bc m.outs j*(GB m sb*R)))=_;ac_rfl
def Ah.ok.Da{m:Ah}(h:m.ok){o:Ds}(Q:o.ok):(m.Da k o).ok:=
 {h with oa:=by have:=h.oa;show m.oa.ok (m.outs.set k o);unfold Am.ok at*;rw[n5];exact this,outs:=λa U=>NF (P:=Ds.ok) h.outs Q U,ov:=by show m.x.ov=m.oa.v (aa (m.outs.set k o));rw[n5];exact h.ov}
def Ah.NO(m:Ah)(k)(hk:k<aa m.outs):m.s.o k=(m.outs.getD k AD).o:=by
 unfold AL.o Ah.s;exact Ri
def Ee(m:Ah)(sb:Nat):HP:=AK m.x.gq m.ga m.AR*(AK m.x.eq m.ea m.Az*(m.da.h (m.due.map BG.mk)*(m.oa.h m.outs*(AP Bc m.outs*(m.sa.h m.AM*AP DB m.AM)))))
def RO(sb)(m:Ah)(R):Ad sb m*R=Ag sb m.x*(AC m.ia.b m.ia.o m.ins m.ia.s*(AP BP m.ins*(Ee m sb*R))):=by
 unfold Ad Ee Am.h;ac_rfl
abbrev Ah.zj(m:Ah)(j:Nat) :=m.ins.getD j AD
def PV(sb)(m:Ah)(R j)(W:j<aa m.ins):Ad sb m*R=Ag sb m.x*(AC m.ia.b m.ia.o m.ins m.ia.s*(AA (m.zj j).q 0 (I7 (m.zj j))*((m.zj j).a.h (m.zj j).x.data*((m.zj j).b.h (m.zj j).x.there*(CI BP m.ins j*(Ee m sb*R)))))):=by
 rw[RO,MO BP m.ins j AD W];unfold BP;ac_rfl
def Ah.Dd(m:Ah)(k:Nat)(o:E0):Ah:={m with ins:=m.ins.set k o}
def Ah.YB(m:Ah)(k)(o:E0):(m.Dd k o).s=m.s.Dd k o.x:=by
 unfold Ah.Dd Ah.s AL.Dd;simp only[D']
def Zi(sb)(m:Ah)(R j)(W:j<aa m.ins)(y:E0)(hy:y.q=(m.zj j).q):
  Ad sb (m.Dd j y)*R=Ag sb m.x*(AC m.ia.b m.ia.o m.ins m.ia.s*(AA y.q 0 (I7 y)*(y.a.h y.x.data*(y.b.h y.x.there*(CI BP m.ins j*(Ee m sb*R)))))):=by
 rw[RO];show Ag sb m.x*(AC m.ia.b m.ia.o (m.ins.set j y) m.ia.s*(AP BP (m.ins.set j y)*(Ee (m.Dd j y) sb*R)))=_;rw[rH _ _ _ _ j y W Z9,Pv BP m.ins j y W];show Ag sb m.x*(AC m.ia.b m.ia.o m.ins m.ia.s*(AA y.q 0 (I7 y)*(y.a.h y.x.data*y.b.h y.x.there)*CI BP m.ins j*(Ee m sb*R)))=_;ac_rfl
def Ah.ok.Dd{m:Ah}(h:m.ok){o:E0}(Q:o.ok):(m.Dd k o).ok:=
 {h with ia:=by have:=h.ia;show m.ia.ok (m.ins.set k o);unfold Am.ok at*;rw[n5];exact this,ins:=λa U=>NF (P:=E0.ok) h.ins Q U,iv:=by show m.x.iv=m.ia.v (aa (m.ins.set k o));rw[n5];exact h.iv}
def Ah.QC(m:Ah)(k)(hk:k<aa m.ins):m.s.i k=(m.zj k).x:=by
 unfold AL.i Ah.s;exact Ri
def Ah.DM(m:Ah)(x:SC):Ah:={m with x:=x}
def Ah.No{m:Ah}(h:Ar t m.s):aa m.outs=4:=by have:=h.outs.len;simpa[Ah.s]using this
def Ah.RR{m:Ah}(h:Ar t m.s):aa m.ins=4:=by have:=h.il;simpa[Ah.s]using this
def Ah.OI{m:Ah}(h:Ar t m.s)(Z:k<4):LD m.x.AI (m.outs.getD k AD).o:=by
 have:=h.outs.ok k Z;have e:m.s.outs.getD k CX=(m.outs.getD k AD).o:=m.NO k (by rw[Ah.No h];exact Z);rw[e]at this;exact this
def Ah.XY{m:Ah}(h:Ar t m.s)(Z:k<4):IV m.x.AI t (m.zj k).x:=by
 have:=h.ins k Z;rw[m.QC k (by rw[Ah.RR h];exact Z)]at this;exact this
end
section
variable{B:World}
def f5(AQ:Nat)(H:HP)(hm:1≤AQ):
  Fn prog B 41 [iN AQ] H (λv S=>∃q,v=ptr q 0∧S=AK q B0 (.of AQ)*H):=by
 refine mI func41 ?_;refine J9 ?_;refine JL (ID (i:=AQ) (j:=1) I I)<|J2 ?_;refine mC (λF=>?_) (λF=>?_)
 ·(have V:AQ<1:=by assumption);omega
 refine J5 ?_;refine JL (FW (cs:=[.slice none 0 0,uN 0,iN AQ]) I I I C5)<|Ae (EB (l:=[.slice none 0 0,uN 0,iN AQ]) I I) I ?_;rintro _ _ ⟨a,rfl,rfl⟩;refine J4 ?_;exact mr [2] I I ⟨a,I,by unfold AK;show _=HP.AA a 0 _*AC 0 0 ([]:List AS) []*H;rw[GY,HP.Hr];rfl⟩
def Abs(q n)(a:DO)(z:Ba)(H)[hz:Gy B H q a z](C:a.ok z)(L:aa z.l<4611686018427387904):
  Fn prog B 83 [ptr q 0,uN n] H (λv S=>v=.bool (decide (z.has n))∧S=H):=by
 refine mI func83 ?_;have:=hz.l;have:=hz.f;have:=hz.r;have Q:=C.1;refine Gu ?_;refine J1 ?_;refine mC (λo=>?_) (λo=>?_)
 ·refine J7 ?_;exact mr [4] I I ⟨by rw[decide_eq_true (show z.has n from .inl o)];rfl,I⟩
 refine BQ ?_;refine Bf (α:=Nat) (λi=>[(0,ptr q 0),(1,uN n),(5,iN i)]) (λ_=>H) (λi=>i≤aa z.l∧∀k,k<i→¬((rg z.l k).lo≤n∧n≤(rg z.l k).hi)) (λi=>aa z.l-i) 0 ⟨bk _,λk h=>absurd h (Aje k)⟩ ED I ?_;rintro i ⟨X,e⟩;dsimp only at X e⊢;refine Fi ?_;refine mC (λF=>?_) (λF=>?_)
 ·refine J5 ?_;refine Bq (α:=Unit) (λ_=>[(42,.bool (decide ((rg z.l i).lo≤n∧n≤(rg z.l i).hi))),(0,ptr q 0),(1,uN n),(5,iN i)]) (λ_=>H) (λ_=>True) ?_ ?_
  ·refine J6 ?_;refine JL (CJ I I Q F)<|J1 ?_;refine JL (JC (i:=i) (xs:=z.l) I AH F)<|A5 ?_;refine DU 31 I (λK=>?_) (λK=>?_)
   ·have h31:=K;refine FC ?_;refine JL (CJ I I Q F)<|A5 ?_;refine JL (Ig (i:=i) (xs:=z.l) I AH F)<|Bn ?_;exact An () trivial sL I
   have h31:=K;refine DY ?_;exact An () trivial (.cons (congrArg (λbb=>some (Value.bool bb)) (decide_eq_false (λh=>h31 h.1)).symm) ED) I
  rintro _ _;refine J1 ?_;refine mC (λb=>?_) (λb=>?_)
  ·refine DL ?_;exact mr [4] I I ⟨by rw[decide_eq_true (show z.has n from .inr ⟨rg z.l i,by rw[I3 F];exact rv F,b⟩)];rfl,I⟩
  refine J5 ?_;refine JL (LT (j:=1) I I (by have V:i<aa z.l:=F;omega))<|J2 ?_;exact BV (i+1) ⟨F,λk m=>by rcases ff k i with h|h;exact e k h;obtain rfl:k=i:=C0;exact b⟩ (by show (aa z.l)-(i+1)<aa z.l-i;have V:i<aa z.l:=F;omega) ED I
 refine DL ?_;exact mr [4] I I ⟨by
  rw[decide_eq_false (show ¬z.has n fromλh=>by
   obtain h|⟨r,Y,h⟩:=h
   ·exact o h
   obtain⟨k,m,rfl⟩:=Ax Y;have V:¬i<aa z.l:=F;have:=e k C0;rw[I3 m]at this;exact this h)];rfl,I⟩
structure GD(lo0 hi0:Nat)(l:List AS)(i lo hi:Nat)(dn:Bool)(out:List AS):Prop where
 yh:i≤l.length
 lh:lo≤hi
 nd:dn=false→Bo lo0 hi0 l=out++Bo lo hi (l.drop i)
 dd:dn=true→Bo lo0 hi0 l=out++l.drop i∧∀r∈l.drop i,hi+1<r.lo
 len:out.length≤i+1
 hb:hi<4611686018427387904
def rc{r:AS}(h:r.hi+1<lo):Bo lo hi (r::rs)=r::Bo lo hi rs:=by rw[Bo,AJ h]
def Ae5{r:AS}(h1:¬r.hi+1<lo)(h:hi+1<r.lo):Bo lo hi (r::rs)=⟨lo,hi⟩::r::rs:=by rw[Bo,AF h1,AJ h]
def yi{r:AS}(h1:¬r.hi+1<lo)(h:¬hi+1<r.lo):Bo lo hi (r::rs)=Bo (min lo r.lo) (max hi r.hi) rs:=by rw[Bo,AF h1,AF h]
def Ln{i}(h:i<aa l):l.drop i=rg l i::l.drop (i+1):=by
 rw[zv h,I3 h]
def GD.begin(h:lo≤hi)(hb:hi<4611686018427387904):GD lo hi l 0 lo hi false []:=
 ⟨bk _,h,λ_=>rfl,(λh=>by cases h),bk _,hb⟩
def sN:∀(i:Nat),EC l→EC (l.drop i):=by
 intro i
 induction i generalizing l with
 |zero=>exact id
 |succ i Z=>
  intro h;cases l with
  |nil=>exact h
  |cons r rs=>exact Z h.2.2
def GD.Ach{i}(h:GD lo0 hi0 l i lo hi dn out)(C:EC l)(q:i<aa l)(Z:(rg l i).hi+1<lo):dn=false:=by
 cases dn
 ·rfl
 have:=(h.dd I).2 (rg l i) (by rw[Ln q];simp);have U:=sN i C;rw[Ln q]at U;have:=U.1;have:=h.lh;omega
def GD.Kj{i}(h:GD lo0 hi0 l i lo hi dn out)(C:EC l)(q:i<aa l)(Z:(rg l i).hi+1<lo):GD lo0 hi0 l (i+1) lo hi dn (out++[rg l i]):=by
 have e:=h.Ach C q Z;subst e;refine⟨q,h.lh,λ_=>?_,(λh=>by cases h),by have:=h.len;simp;omega,h.hb⟩;rw[h.nd I,Ln q,rc Z,c5];rfl
def GD.put{i}(h:GD lo0 hi0 l i lo hi false out)(C:EC l)(q:i<aa l)(Z:¬(rg l i).hi+1<lo)(J:hi+1<(rg l i).lo)(Q:aa out≤i):GD lo0 hi0 l (i+1) lo hi true (out++[⟨lo,hi⟩]++[rg l i]):=by
 refine⟨q,h.lh,(λh=>by cases h),λ_=>⟨?_,λr Y=>?_⟩,C9,h.hb⟩
 ·rw[h.nd I,Ln q,Ae5 Z J];simp
 have U:=sN i C;rw[Ln q]at U;have:=U.1;have:=U.2.1 r Y;omega
def GD.more{i}(h:GD lo0 hi0 l i lo hi true out)(q:i<aa l):GD lo0 hi0 l (i+1) lo hi true (out++[rg l i]):=by
 refine⟨q,h.lh,(λh=>by cases h),λ_=>⟨?_,λr Y=>(h.dd I).2 r (by rw[Ln q];exact Amp _ Y)⟩,by have:=h.len;simp;omega,h.hb⟩;rw[(h.dd I).1,Ln q,c5];rfl
def GD.meet{i}(h:GD lo0 hi0 l i lo hi dn out)(q:i<aa l)(Z:¬(rg l i).hi+1<lo)(J:¬hi+1<(rg l i).lo)(hb:(rg l i).hi<4611686018427387904):GD lo0 hi0 l (i+1) (min lo (rg l i).lo) (max hi (rg l i).hi) dn out:=by
 have e:dn=false:=by
  cases dn
  ·rfl
  exact absurd ((h.dd I).2 (rg l i) (by rw[Ln q];simp)) J
 subst e;have:=h.lh;have:=h.hb;refine⟨q,C0,λ_=>?_,(λh=>by cases h),by have:=h.len;omega,C0⟩;rw[h.nd I,Ln q,yi Z J]
def GD.fin(h:GD lo0 hi0 l (aa l) lo hi dn out):Bo lo0 hi0 l=if dn then out else out++[⟨lo,hi⟩]:=by
 cases dn
 ·rw[h.nd I,Aj8];rfl
 rw[(h.dd I).1,Aj8,g8];rfl
set_option maxHeartbeats 4000000 in
def VC(q lo hi m)(a:DO)(z:Ba)(R)(C:a.ok z)(ho:Dg z m)(hm:m≤4611686018427387904)(hhi:hi<m)(hmost:z.AQ≤1073741824):
  Fn prog B 84 [ptr q 0,uN lo,uN hi] (AK q a z*R) (λ_ H'=>∃a':DO,a'.ok (z.add lo hi)∧H'=AK q a' (z.add lo hi)*R):=by
 refine mI func84 ?_;have hlen:aa z.l<2000000000:=by have:=ho.len;omega
 have Q:=C.1;have hflo:=ho.fl;have hzs:Gy B (AK q a z*R) q a z:=AH;have hzr:=hzs.r;refine DL ?_;refine Bq (α:=Unit) (λ_=>[(0,ptr q 0),(1,uN (max lo z.floor)),(2,uN hi)]) (λ_=>(AK q a z*R)) (λ_=>True) ?_ ?_
 ·refine mC (λh15=>?_) (λh15=>?_)
  ·refine J7 ?_;exact An () trivial (.cons I (.cons (congrArg (λk=>some (uN k)) (Akl (Akm h15)).symm) Jz)) I
  refine J1 ?_;exact An () trivial (.cons I (.cons (congrArg (λk=>some (uN k)) (Aks (HA h15)).symm) Jz)) I
 rintro _ _;refine BQ ?_;refine mC (λh22=>?_) (λh22=>?_)
 ·refine J2 ?_;have U:z.add lo hi=z:=by unfold Ba.add;rw[AJ C0]
  exact mr [] I I ⟨a,by rw[U];exact C,by rw[U]⟩
 refine IU ?_;refine Bf (α:=Nat×Nat×Nat×Bool×List AS×Am) (λy=>[(0,ptr q 0),(1,uN y.2.1),(2,uN y.2.2.1),(7,.bool y.2.2.2.1),(6,y.2.2.2.2.2.v (aa y.2.2.2.2.1)),(8,iN y.1)]) (λy=>AC y.2.2.2.2.2.b y.2.2.2.2.2.o y.2.2.2.2.1 y.2.2.2.2.2.s*(AK q a z*R)) (λy=>GD (max lo z.floor) hi z.l y.1 y.2.1 y.2.2.1 y.2.2.2.1 y.2.2.2.2.1∧y.2.2.2.2.2.ok y.2.2.2.2.1∧(y.2.2.2.1=false→aa y.2.2.2.2.1≤y.1)) (λy=>aa z.l-y.1) (0,(max lo z.floor),hi,false,[],Bw) ⟨GD.begin C0 C0,Fe,λ_=>bk _⟩ KS (by show(AK q a z*R)=AC 0 0 ([]:List AS) []*(AK q a z*R);rw[GY,HP.BS]) ?_;rintro⟨i,lo1,hi1,dn,out,oa⟩ ⟨hA,hoa,hon⟩;dsimp only at hA hoa hon⊢;have hAl:=hA.len;have hAi:=hA.yh;have hAh:=hA.lh;have hAb:=hA.hb;refine Fi ?_;refine mC (λh29=>?_) (λh29=>?_)
 ·have h29:i<aa z.l:=h29;have hrb:=ho.hi (rg z.l i) Zn;have hrb:(rg z.l i).hi<4611686018427387904:=C0;have w:=Zm z.l ho.inc (rg z.l i) Zn;have hrl2:aa z.l≤z.AQ:=ho.len;refine DL ?_;refine JL (CJ I I Q h29)<|JL (N3 (i:=i) (xs:=z.l) I AH h29)<|LV ?_;rintro _ _ ⟨b9,rfl,rfl⟩;refine BB ?_;refine Bq (α:=Unit) (λ_=>(49,.bool (decide ((rg z.l i).hi+1<lo1)))::(9,ptr b9 0):: [(0,ptr q 0),(1,uN lo1),(2,uN hi1),(7,.bool dn),(6,oa.v (aa out)),(8,iN i)]) (λ_=>HP.AA b9 0 [uN (rg z.l i).lo,uN (rg z.l i).hi]*(AC oa.b oa.o out oa.s*(AK q a z*R))) (λ_=>True) ?_ ?_
  ·refine J6 ?_;refine DU 43 I (λK=>?_) (λK=>?_)
   ·have O:=K;exact gR
   have O:=K;refine Bt ?_;exact An () trivial rP I
  rintro _ _;refine J1 ?_;refine mC (λh49=>?_) (λh49=>?_)
  ·refine J3 ?_;refine JL vZ<|Ae oY I ?_;rintro _ _ ⟨J,rfl,rfl⟩;refine BH (H':=AC oa.b oa.o out oa.s*(HP.AA J 0 (AE [(rg z.l i)])*(HP.AA b9 0 [uN (rg z.l i).lo,uN (rg z.l i).hi]*(AK q a z*R)))) (by show HP.AA J 0 _*_=_;rw[show AE [(rg z.l i)]=[uN (rg z.l i).lo,uN (rg z.l i).hi]from g8 _];ac_rfl)<|Ae (CA (ys:=[(rg z.l i)]) (bb:=J) (oo:=0) (cc:=1) I hoa.1 hoa.2 I Bz AH I Ph C0) I ?_;rintro _ _ ⟨p53,b53,o53,c53,s53,rfl,hs53,hc53,rfl⟩;have ho53:(⟨p53,b53,o53,c53,s53⟩:Am).ok (out++[(rg z.l i)]):=⟨hs53,hc53⟩
   refine DY ?_;exact jC
  refine J4 ?_;refine Bq (α:=Unit) (λ_=>(64,.bool (decide (hi1+1<(rg z.l i).lo)))::(9,ptr b9 0):: [(0,ptr q 0),(1,uN lo1),(2,uN hi1),(7,.bool dn),(6,oa.v (aa out)),(8,iN i)]) (λ_=>HP.AA b9 0 [uN (rg z.l i).lo,uN (rg z.l i).hi]*(AC oa.b oa.o out oa.s*(AK q a z*R))) (λ_=>True) ?_ ?_
  ·refine DE ?_;refine DU 58 I (λe=>?_) (λe=>?_)
   ·have h58:=e;exact gR
   have h58:=e;refine Bt ?_;exact An () trivial rP I
  rintro _ _;refine J1 ?_;refine mC (λh64=>?_) (λh64=>?_)
  ·refine Bt ?_;refine mc (λh66=>?_) (λh66=>?_)
   ·skip;have h66:dn=false:=by simpa using h66
    refine J5 ?_;refine JL sK<|Ae vL I ?_;rintro _ _ ⟨b71,rfl,rfl⟩;refine BH (H':=AC oa.b oa.o out oa.s*(HP.AA b71 0 (AE [(⟨lo1,hi1⟩:AS)])*(HP.AA b9 0 [uN (rg z.l i).lo,uN (rg z.l i).hi]*(AK q a z*R)))) (by show HP.AA b71 0 _*_=_;rw[show AE [(⟨lo1,hi1⟩:AS)]=[uN lo1,uN hi1]from g8 _];ac_rfl)<|Ae (CA (ys:=[(⟨lo1,hi1⟩:AS)]) (bb:=b71) (oo:=0) (cc:=1) I hoa.1 hoa.2 I Bz AH I Ph C0) I ?_;rintro _ _ ⟨p72,b72,o72,c72,s72,rfl,hs72,hc72,rfl⟩;have ho72:(⟨p72,b72,o72,c72,s72⟩:Am).ok (out++[(⟨lo1,hi1⟩:AS)]):=⟨hs72,hc72⟩
    refine Ei ?_;exact iZ
   have h66:dn=true:=by simpa using h66
   refine J5 ?_;exact iZ
  refine DL ?_;refine Bq (α:=Unit) (λ_=>(9,ptr b9 0):: [(0,ptr q 0),(1,uN (min lo1 (rg z.l i).lo)),(2,uN hi1),(7,.bool dn),(6,oa.v (aa out)),(8,iN i)]) (λ_=>HP.AA b9 0 [uN (rg z.l i).lo,uN (rg z.l i).hi]*(AC oa.b oa.o out oa.s*(AK q a z*R))) (λ_=>True) ?_ ?_
  ·refine mC (λh80=>?_) (λh80=>?_)
   ·refine J5 ?_;exact An () trivial (.cons I (.cons I (.cons (congrArg (λk=>some (uN k)) (Akk (Akm h80)).symm) DJ))) I
   refine J1 ?_;exact An () trivial (.cons I (.cons I (.cons (congrArg (λk=>some (uN k)) (n6 (HA h80)).symm) DJ))) I
  rintro _ _;refine BQ ?_;refine Bq (α:=Unit) (λ_=>(9,ptr b9 0):: [(0,ptr q 0),(1,uN (min lo1 (rg z.l i).lo)),(2,uN (max hi1 (rg z.l i).hi)),(7,.bool dn),(6,oa.v (aa out)),(8,iN i)]) (λ_=>HP.AA b9 0 [uN (rg z.l i).lo,uN (rg z.l i).hi]*(AC oa.b oa.o out oa.s*(AK q a z*R))) (λ_=>True) ?_ ?_
  ·refine mC (λM=>?_) (λM=>?_)
   ·refine J5 ?_;exact An () trivial (.cons I (.cons I (.cons I (.cons (congrArg (λk=>some (uN k)) (Akl (Akm M)).symm) DW)))) I
   refine J1 ?_;exact An () trivial (.cons I (.cons I (.cons I (.cons (congrArg (λk=>some (uN k)) (Aks (HA M)).symm) DW)))) I
  rintro _ _;refine Bt ?_;exact jC
 obtain rfl:i=aa z.l:=by have V:¬i<aa z.l:=h29;omega
 refine DY ?_;refine Bq (α:=Am) (λoa=>[(0,ptr q 0),(6,oa.v (aa (Bo (max lo z.floor) hi z.l)))]) (λoa=>AC oa.b oa.o (Bo (max lo z.floor) hi z.l) oa.s*(AK q a z*R)) (λoa=>oa.ok (Bo (max lo z.floor) hi z.l)) ?_ ?_
 ·refine mc (λh90=>?_) (λh90=>?_)
  ·refine J4 ?_;refine JL sK<|Ae vL I ?_;rintro _ _ ⟨W,rfl,rfl⟩;refine BH (H':=AC oa.b oa.o out oa.s*(HP.AA W 0 (AE [(⟨lo1,hi1⟩:AS)])*((AK q a z*R)))) (by show HP.AA W 0 _*_=_;rw[show AE [(⟨lo1,hi1⟩:AS)]=[uN lo1,uN hi1]from g8 _];ac_rfl)<|Ae (CA (ys:=[(⟨lo1,hi1⟩:AS)]) (bb:=W) (oo:=0) (cc:=1) I hoa.1 hoa.2 I Bz AH I Ph C0) I ?_;rintro _ _ ⟨p96,b96,o96,c96,s96,rfl,hs96,hc96,rfl⟩;have ho96:(⟨p96,b96,o96,c96,s96⟩:Am).ok (out++[(⟨lo1,hi1⟩:AS)]):=⟨hs96,hc96⟩
   refine J2 ?_;have hfin:=hA.fin;rw[show dn=false by simpa using h90,AF C3]at hfin;exact Bg (AC b96 o96 (Bo (max lo z.floor) hi z.l) s96*(AK q a z*R)) (hE:=by rw[hfin];exact AH) (An ⟨p96,b96,o96,c96,s96⟩ (by rw[hfin];exact ho96) tG I)
  refine J1 ?_;have hfin:=hA.fin;rw[show dn=true by simpa using h90,AJ rfl]at hfin;exact An oa (by rw[hfin];exact hoa) tG (by rw[hfin])
 rintro f N;dsimp only;have hLl:=Nm z.l (max lo z.floor) hi;have hrl2:aa z.l≤z.AQ:=ho.len;have hLh:=LR z.l (max lo z.floor) hi (m-1) C0 (λr Y=>by have:=ho.hi r Y;omega);have hLne:=Ow z.l (max lo z.floor) hi;have hLp:=kz.2 hLne;have S:z.add lo hi=if z.AQ<(aa (Bo (max lo z.floor) hi z.l)) then⟨(Bo (max lo z.floor) hi z.l).tail,((Bo (max lo z.floor) hi z.l).headD ⟨0,0⟩).hi+1,z.AQ⟩else⟨(Bo (max lo z.floor) hi z.l),z.floor,z.AQ⟩:=by
  unfold Ba.add;rw[AF C0]
 refine GE (H':=HP.AA q 0 [.slice a.p (aa z.l) a.c,uN z.floor,iN z.AQ]*(AC f.b f.o (Bo (max lo z.floor) hi z.l) f.s*(AC a.b a.o z.l a.s*R))) (by unfold AK;ac_rfl) ?_;generalize hLL:(Bo (max lo z.floor) hi z.l)=L at*;refine FC ?_;refine mC (λh103=>?_) (λh103=>?_)
 ·refine J4 ?_;refine JL (CJ (i:=0) I I N.1 hLp)<|J1 ?_;refine JL (Ig (i:=0) (xs:=L) I AH hLp)<|JL (LF (i:=(rg L 0).hi) (j:=1) I I (by have V:=hLh (rg L 0) (by rw[I3 hLp];exact rv hLp);omega))<|J7 ?_;refine JL (Lh (l:=1) I I hLp)<|Ei ?_;obtain⟨r0,Lt,rfl⟩:∃r0 Lt,L=r0::Lt:=by cases L with|nil=>cases hLp|cons r0 Lt=>exact⟨r0,Lt,I⟩
  rw[AJ h103]at S;exact Nd (ts:=[]) (AK q ⟨sp f.p f.c 1 2,f.b,f.o+1*2,f.c-1,f.s⟩ (z.add lo hi)*R) (hE:=⟨λww X=>Sat.right (A:=HP.AA f.b f.o [uN r0.lo,uN r0.hi]*AC a.b a.o z.l a.s) (Eq.mp (by
   congr 1;rw[S];unfold AK;show HP.AA q 0 [.slice (sp f.p f.c 1 2) (aa (r0::Lt)-1) (f.c-1),uN ((rg (r0::Lt) 0).hi+1),iN z.AQ]*(AC f.b f.o (r0::Lt) f.s*(AC a.b a.o z.l a.s*R))=_;rw[show AC f.b f.o (r0::Lt) f.s=HP.AA f.b f.o [uN r0.lo,uN r0.hi]*AC f.b (f.o+1*2) Lt f.s by
    unfold AC;rw[show AE (r0::Lt)=[uN r0.lo,uN r0.hi]++AE Lt from I,c5,HP.HF];rfl]
   show _=HP.AA f.b f.o [uN r0.lo,uN r0.hi]*AC a.b a.o z.l a.s*(HP.AA q 0 [.slice (sp f.p f.c 1 2) (aa Lt) (f.c-1),uN (r0.hi+1),iN z.AQ]*AC f.b (f.o+1*2) Lt f.s*R);rw[show(rg (r0::Lt) 0).hi=r0.hi from I,show(r0::Lt).length-1=(aa Lt) from rfl];ac_rfl) X)⟩) I I ⟨⟨sp f.p f.c 1 2,f.b,f.o+1*2,f.c-1,f.s⟩,by
   rw[S];refine⟨F0 N.1 C3 N.1.2 C3,?_⟩;have V:=N.2;have G:=N.1.2;show (aa Lt)*2+aa f.s=(f.c-1)*2;have F:AB.sz AS=2:=rfl;rw[F,f']at V;rw[f']at G;omega,I⟩
 refine J9 ?_;rw[AF h103]at S;exact Nd (ts:=[]) (AK q ⟨f.p,f.b,f.o,f.c,f.s⟩ (z.add lo hi)*R) (hE:=⟨λww X=>Sat.right (A:=AC a.b a.o z.l a.s) (Eq.mp (by
  congr 1;rw[S];unfold AK;dsimp only;ac_rfl) X)⟩) I I ⟨⟨f.p,f.b,f.o,f.c,f.s⟩,by rw[S];exact N,I⟩
end
section
variable{B:World}
section
variable{P:Program}{n:Nat}{E:A8}{D:CW}{H:HP}{d:Option Tmp}{T T' ty:TypeId}{pos:String}{af:Array Edge}{g:Option (Nat×Bool)}{x y z u:Operand}
def wQ{s t:ByteArray}(F:ev E x=some (.string s))(G:ev E y=some (.string t))(h:s.size+t.size<9223372036854775808):
  AY P B n ⟨d,.binOp .add T x y T',ty,pos,af,g⟩ E H (.string (s++t)):=by
 intro a w N _;have U:¬(((s.size+t.size:Nat):Int)> IntKind.i64.max):=by have:IntKind.i64.max=9223372036854775807:=rfl;omega
 have M:(binOp .add T (.string s) (.string t)).run P w=.ok (.string (s++t)) w:=by
  simp only[binOp_string_add,Op.stringOp,AF U,bp]
 have O:(eqGuard .add T x y (.string s) (.string t)).run P w=.ok () w:=rfl;have Z:A9 B.heap.size P (eqGuard .add T x y (.string s) (.string t)) w:=trivial;have X:A9 B.heap.size P (binOp .add T (.string s) (.string t)) w:=by
  simp only[binOp_string_add,Op.stringOp,AF U];trivial
 simp only[Z,X,A9,BL,Dp,CT,DQ,EP,EX,Ej,B3,BX,true_and,and_true,and_self,execOp,N.ev F,N.ev G,bn,O,b0,M,bp]
def cR(a b:List UInt8):BR a++BR b=BR (a++b):=by
 unfold BR;apply ByteArray.ext;rw[ByteArray.data_append];simp
end
def Qw(m:Ah)(k:Int):m.s.of k=FI m.x.closed k:=rfl
def Ab1(sb closed:Nat)(k:Int)(H:HP)[W:Rd B H sb (0+19) (iN closed) True]:
  Fn prog B 81 [ptr sb 0,.int .i64 k] H (λv S=>v=iN (FI closed k)∧S=H):=by
 refine mI func81 ?_;refine Eh ?_;refine mC (λh5=>?_) (λh5=>?_)
 ·refine Bt ?_;exact uT
 refine J6 ?_;refine JL (Jr (i:=k) (j:=0) I I)<|J1 ?_;refine DU 12 I (λK=>?_) (λK=>?_)
 ·refine FC ?_;exact UM
 refine A5 ?_;refine JL (Kl (i:=k) (j:=4) I I)<|A5 ?_;refine mC (λF=>?_) (λF=>?_)
 ·refine Bt ?_;exact UM
 refine Be ?_;exact mr [4] I I ⟨d5,I⟩
def rz(m:Ds)(R)(N:m.ok)(hb:∀r∈m.o.AG.l,r.hi<4611686018427387904):
  Fn prog B 82 [ptr m.q 0] (AA m.q 0 (Gq m)*(AK m.cq m.ca m.o.AG*R)) (λv b=>v=uN m.o.CQ∧b=AA m.q 0 (Gq m)*(AK m.cq m.ca m.o.AG*R)):=by
 refine mI func82 ?_;have W:Gy B (AA m.q 0 (Gq m)*(AK m.cq m.ca m.o.AG*R)) m.cq m.ca m.o.AG:=AH;have O:=W.l;have a:=W.r;have hsl:=N.1;refine E6 ?_;refine JL (Dy (i:=aa m.o.AG.l) (j:=0) I I)<|J1 ?_;refine DU 12 I (λK=>?_) (λK=>?_)
 ·have F:=K;refine Ff ?_;exact mr [2] I I ⟨by unfold CZ.CQ;rw[AJ (.inl (hU.1 F))];rfl,I⟩
 have F:=K;have hpos:0<aa m.o.AG.l:=C0;refine Eh ?_;refine JL dM<|A5 ?_;refine JL (JC (i:=0) (xs:=m.o.AG.l) I AH hpos)<|BB ?_;refine mC (λS=>?_) (λS=>?_)
 ·refine Bt ?_;exact mr [2] I I ⟨by unfold CZ.CQ;rw[AJ (.inr S)];rfl,I⟩
 refine DL ?_;refine JL dM<|J1 ?_;refine JL (Ig (i:=0) (xs:=m.o.AG.l) I AH hpos)<|JL (LF (j:=1) I I (by have:=hb (rg m.o.AG.l 0) (by rw[I3 hpos];exact rv hpos);omega))<|J4 ?_;exact mr [2] I I ⟨by unfold CZ.CQ;rw[AF (λh=>by rcases h with h|h;exact F QL;exact S h)];rfl,I⟩
set_option maxHeartbeats 2000000 in
def ey(sb t)(m:Ah)(k:Int)(d:ByteArray)(R)(hm:m.ok)(hi:Ar t m.s)(F:d.size<1000000000):
  Fn prog B 45 [ptr sb 0,.int .i64 k,.string d] (Ad sb m*R)
   (λv H'=>∃N:Ah,N.ok∧N.s=(m.s.write k d.data.toList).2∧v=.tuple #[iN (m.s.write k d.data.toList).1.1,iN (m.s.write k d.data.toList).1.2]∧H'=Ad sb N*R):=by
 refine mI func45<|A3 Pa ?_;have Q:aa d.data.toList=d.size:=rfl;refine CY ?_;refine RB ?_;refine mC (λh16=>?_) (λh16=>?_)
 ·refine BQ ?_;exact mR [6,7] (Ad sb m*R) (hE:=by rw[Ie];exact AH) I I ⟨m,hm,by unfold AL.write;rw[AJ Ns],by unfold AL.write;rw[AJ Ns];rfl,I⟩
 obtain⟨L,j,rfl,W⟩:=KN (by simpa using h16:FI m.x.closed k=0);have hjl:j<aa m.outs:=by rw[Ah.No hi];exact W
 have hoo:=Ah.OI hi W;have hom:=hm.outs _ HU;have a:=m.NO j hjl;have e:=hoo.len;have w:¬m.s.of (j:Int)≠0:=by rw[Qw];simpa using h16
 refine Sf ?_;have p:=hoo.OA;have J:=hoo.room;have U:m.x.AI≤1024:=hi.w2;refine J7 ?_;refine QF ?_;refine DL ?_;refine Do 29 I (λK=>?_) (λK=>?_)
 ·have h29:=K;refine E6 ?_;exact mR [6,7] (Ad sb m*R) (hE:=by rw[K4 sb m R j hjl];exact AH) I I ⟨m,hm,by unfold AL.write;rw[AF w,dz,a,AJ PK],by unfold AL.write;rw[AF w,dz,a,AJ PK];rfl,I⟩
 have h29:=K;refine CK ?_;refine mc (λh34=>?_) (λh34=>?_)
 ·refine Be ?_;exact mR [6,7] (Ad sb m*R) (hE:=by rw[K4 sb m R j hjl];exact AH) I I ⟨m,hm,by unfold AL.write;rw[AF w,dz,a,AJ OY],by unfold AL.write;rw[AF w,dz,a,AJ OY];rfl,I⟩
 refine J5 ?_;refine pU ?_;refine zQ ?_;refine JJ ?_;refine A3 (H':=Ag sb m.x*(AC m.oa.b m.oa.o m.outs m.oa.s*(HP.AA (m.outs.getD j AB.AD).q 0 (Gq (m.outs.getD j AB.AD))*(AK (m.outs.getD j AB.AD).cq (m.outs.getD j AB.AD).ca (m.outs.getD j AB.AD).o.AG*(CI Bc m.outs j*(GB m sb*R)))))) C4<|mA 15 15 ?_;refine BQ ?_;refine JT 9 I Qn<|Eh ?_;refine JL Qn<|JL YS<|A5 ?_;refine Bq (α:=Unit) (λ_=>[(11,iN (min (m.x.AI-((m.outs.getD j AB.AD).o.data.length-(m.outs.getD j AB.AD).o.CQ)) (4096-(m.outs.getD j AB.AD).o.data.length))),(9,ptr (m.outs.getD j AB.AD).q 0),(0,ptr sb 0),(2,.string d)]) (λ_=>Ag sb m.x*(AC m.oa.b m.oa.o m.outs m.oa.s*(HP.AA (m.outs.getD j AB.AD).q 0 (Gq (m.outs.getD j AB.AD))*(AK (m.outs.getD j AB.AD).cq (m.outs.getD j AB.AD).ca (m.outs.getD j AB.AD).o.AG*(CI Bc m.outs j*(GB m sb*R)))))) (λ_=>True) ?_ ?_
 ·refine mC (λh=>?_) (λh=>?_)
  ·refine J5 ?_;refine JL Qn<|JL YS<|J2 ?_;exact An () trivial (.cons (congrArg (λk=>some (iN k)) (Akk (Akm h)).symm) ED) I
  refine J1 ?_;exact An () trivial (.cons (congrArg (λk=>some (iN k)) (n6 (HA h)).symm) ED) I
 rintro _ _;refine J7 ?_;refine JL (Ih (i:=(min (m.x.AI-((m.outs.getD j AB.AD).o.data.length-(m.outs.getD j AB.AD).o.CQ)) (4096-(m.outs.getD j AB.AD).o.data.length))) (j:=aa d.data.toList) I I)<|J2 ?_;refine Bq (α:=Unit) (λ_=>[(11,iN (min (min (m.x.AI-((m.outs.getD j AB.AD).o.data.length-(m.outs.getD j AB.AD).o.CQ)) (4096-(m.outs.getD j AB.AD).o.data.length)) (aa d.data.toList))),(9,ptr (m.outs.getD j AB.AD).q 0),(0,ptr sb 0),(2,.string d)]) (λ_=>Ag sb m.x*(AC m.oa.b m.oa.o m.outs m.oa.s*(HP.AA (m.outs.getD j AB.AD).q 0 (Gq (m.outs.getD j AB.AD))*(AK (m.outs.getD j AB.AD).cq (m.outs.getD j AB.AD).ca (m.outs.getD j AB.AD).o.AG*(CI Bc m.outs j*(GB m sb*R)))))) (λ_=>True) ?_ ?_
 ·refine mC (λC=>?_) (λC=>?_)
  ·refine J5 ?_;exact An () trivial (.cons (congrArg (λk=>some (iN k)) (Akk (Akm C)).symm) ED) I
  refine J1 ?_;exact An () trivial (.cons (congrArg (λk=>some (iN k)) (n6 (HA C)).symm) ED) I
 rintro _ _;have A:(min (min (m.x.AI-((m.outs.getD j AB.AD).o.data.length-(m.outs.getD j AB.AD).o.CQ)) (4096-(m.outs.getD j AB.AD).o.data.length)) (aa d.data.toList))≤aa d.data.toList:=Ale _ _;refine J2 ?_;refine mA 11 12 ?_;refine Bt ?_;refine JT 7 I (Abt I I A)<|JT 8 I (Dx (v':=.string (BR ((m.outs.getD j AB.AD).o.data++d.data.toList.take (min (min (m.x.AI-((m.outs.getD j AB.AD).o.data.length-(m.outs.getD j AB.AD).o.CQ)) (4096-(m.outs.getD j AB.AD).o.data.length)) (aa d.data.toList))))) (wQ I I (by rw[Mo,show(d.extract 0 (min (min (m.x.AI-((m.outs.getD j AB.AD).o.data.length-(m.outs.getD j AB.AD).o.CQ)) (4096-(m.outs.getD j AB.AD).o.data.length)) (aa d.data.toList))).size=min (min (min (m.x.AI-((m.outs.getD j AB.AD).o.data.length-(m.outs.getD j AB.AD).o.CQ)) (4096-(m.outs.getD j AB.AD).o.data.length)) (aa d.data.toList)) d.size-0 from ByteArray.size_extract];omega)) (by rw[←cR];congr 2;rw[←Sk d,Yk,Sk];rfl))<|BQ ?_;refine Bn ?_;have ewr:m.s.write (j:Int) d.data.toList=(((min (min (m.x.AI-((m.outs.getD j AB.AD).o.data.length-(m.outs.getD j AB.AD).o.CQ)) (4096-(m.outs.getD j AB.AD).o.data.length)) (aa d.data.toList)),0),m.s.Da j {(m.outs.getD j AB.AD).o with data:=(m.outs.getD j AB.AD).o.data++d.data.toList.take (min (min (m.x.AI-((m.outs.getD j AB.AD).o.data.length-(m.outs.getD j AB.AD).o.CQ)) (4096-(m.outs.getD j AB.AD).o.data.length)) (aa d.data.toList))}):=by
  unfold AL.write;rw[AF w,dz,a,AF (by rw[h29,h34];simp)];unfold AL.Hf;rw[a];rfl
 obtain⟨V,ho2⟩:∃V:Ds,V={(m.outs.getD j AB.AD)with o:={(m.outs.getD j AB.AD).o with data:=(m.outs.getD j AB.AD).o.data++d.data.toList.take (min (min (m.x.AI-((m.outs.getD j AB.AD).o.data.length-(m.outs.getD j AB.AD).o.CQ)) (4096-(m.outs.getD j AB.AD).o.data.length)) (aa d.data.toList))}}:=DF;have G:V.ok:=by rw[ho2];exact hom
 exact mR [6,7] (Ad sb (m.Da j V)*R) (hE:=⟨λO X=>Eq.mp (by
  congr 1;rw[RZ sb m R j hjl V (by rw[ho2]),ho2]) X⟩) I I ⟨m.Da j V,hm.Da G,ZP,Cb,I⟩
def zg(sb t:Nat)(m:Ah)(k:Int)(R:HP)(hm:m.ok)(hi:Ar t m.s):
  Fn prog B 46 [ptr sb 0,.int .i64 k] (Ad sb m*R)
   (λv H'=>∃N:Ah,N.ok∧N.s=(m.s.finish k).2∧v=iN (m.s.finish k).1∧H'=Ad sb N*R):=by
 refine mI func46<|A3 Pa ?_;refine BQ ?_;refine RB ?_;refine mC (λh16=>?_) (λh16=>?_)
 ·refine J8 ?_;exact mR [4] (Ad sb m*R) (hE:=by rw[Ie];exact AH) I I ⟨m,hm,by unfold AL.finish;rw[AJ Ns],by unfold AL.finish;rw[AJ Ns];rfl,I⟩
 obtain⟨L,j,rfl,W⟩:=KN (by simpa using h16:FI m.x.closed k=0);have hjl:j<aa m.outs:=by rw[Ah.No hi];exact W
 have b:=Ah.OI hi W;have p:=hm.outs _ HU;have a:=m.NO j hjl;have e:=b.len;have w:¬m.s.of (j:Int)≠0:=by rw[Qw];simpa using h16
 refine Sf ?_;refine J8 ?_;refine QF ?_;refine J4 ?_;refine Do 22 I (λK=>?_) (λK=>?_)
 ·have h29:=K;refine KC ?_;exact mR [4] (Ad sb m*R) (hE:=by rw[K4 sb m R j hjl];exact AH) I I ⟨m,hm,by unfold AL.finish;rw[AF w,dz,a,AJ PK],by unfold AL.finish;rw[AF w,dz,a,AJ PK];rfl,I⟩
 have h29:=K;refine Bt ?_;refine JL XD<|A5 ?_;refine JL iL<|A4 ?_;refine JL YV<|BQ ?_;refine mc (λh34=>?_) (λh34=>?_)
 ·refine Bt ?_;exact mR [4] (Ad sb m*R) (hE:=by rw[K4 sb m R j hjl];exact AH) I I ⟨m,hm,by unfold AL.finish;rw[AF w,dz,a,AJ OY],by unfold AL.finish;rw[AF w,dz,a,AJ OY];rfl,I⟩
 refine J7 ?_;refine QF ?_;refine CK ?_;have ewr:m.s.finish (j:Int)=(0,m.s.Da j {(m.outs.getD j AB.AD).o with finished:=true}):=by
  unfold AL.finish;rw[AF w,dz,a,AF (by rw[h29,h34];simp)]
 obtain⟨V,ho2⟩:∃V:Ds,V={(m.outs.getD j AB.AD)with o:={(m.outs.getD j AB.AD).o with finished:=true}}:=DF;have G:V.ok:=by rw[ho2];exact p
 exact mR [4] (Ad sb (m.Da j V)*R) (hE:=⟨λO X=>Eq.mp (by
  congr 1;rw[RZ sb m R j hjl V (by rw[ho2]),ho2]) X⟩) I I ⟨m.Da j V,hm.Da G,ZP,Cb,I⟩
def ec(sb t:Nat)(m:Ah)(k:Int)(code:Nat)(R:HP)(hm:m.ok)(hi:Ar t m.s):
  Fn prog B 47 [ptr sb 0,.int .i64 k,uN code] (Ad sb m*R)
   (λv H'=>∃N:Ah,N.ok∧N.s=(m.s.giveUp k code).2∧v=iN (m.s.giveUp k code).1∧H'=Ad sb N*R):=by
 refine mI func47<|A3 Pa ?_;refine BQ ?_;refine RB ?_;refine mC (λh16=>?_) (λh16=>?_)
 ·refine J8 ?_;exact mR [6] (Ad sb m*R) (hE:=by rw[Ie];exact AH) I I ⟨m,hm,by unfold AL.giveUp;rw[AJ Ns],by unfold AL.giveUp;rw[AJ Ns];rfl,I⟩
 obtain⟨L,j,rfl,W⟩:=KN (by simpa using h16:FI m.x.closed k=0);have hjl:j<aa m.outs:=by rw[Ah.No hi];exact W
 have b:=Ah.OI hi W;have p:=hm.outs _ HU;have a:=m.NO j hjl;have e:=b.len;have w:¬m.s.of (j:Int)≠0:=by rw[Qw];simpa using h16
 refine Sf ?_;refine J7 ?_;refine QF ?_;refine DL ?_;refine Do 26 I (λK=>?_) (λK=>?_)
 ·have h29:=K;refine FC ?_;exact mR [6] (Ad sb m*R) (hE:=by rw[K4 sb m R j hjl];exact AH) I I ⟨m,hm,by unfold AL.giveUp;rw[AF w,dz,a,AJ PK],by unfold AL.giveUp;rw[AF w,dz,a,AJ PK];rfl,I⟩
 have h29:=K;refine A5 ?_;refine JL aI<|A5 ?_;refine mC (λh34=>?_) (λh34=>?_)
 ·refine Bt ?_;exact mR [6] (Ad sb m*R) (hE:=by rw[K4 sb m R j hjl];exact AH) I I ⟨m,hm,by unfold AL.giveUp;rw[AF w,dz,a,AJ OY],by unfold AL.giveUp;rw[AF w,dz,a,AJ OY];rfl,I⟩
 refine HL ?_;refine Bt ?_;have ewr:m.s.giveUp (j:Int) code=(0,m.s.Da j {(m.outs.getD j AB.AD).o with given:=true,code:=code,end_:=(m.outs.getD j AB.AD).o.high}):=by
  unfold AL.giveUp;rw[AF w,dz,a,AF (λh=>by rcases h with h|h;rw[h29]at h;cases h;exact h34 h)]
 obtain⟨V,ho2⟩:∃V:Ds,V={(m.outs.getD j AB.AD)with o:={(m.outs.getD j AB.AD).o with given:=true,code:=code,end_:=(m.outs.getD j AB.AD).o.high}}:=DF;have G:V.ok:=by rw[ho2];exact p
 exact mR [6] (Ad sb (m.Da j V)*R) (hE:=⟨λO X=>Eq.mp (by
  congr 1;rw[RZ sb m R j hjl V (by rw[ho2]),ho2]) X⟩) I I ⟨m.Da j V,hm.Da G,ZP,Cb,I⟩
def cg(sb t:Nat)(m:Ah)(k:Int)(R:HP)(hm:m.ok)(hi:Ar t m.s):
  Fn prog B 51 [ptr sb 0,.int .i64 k] (Ad sb m*R)
   (λv H'=>v=.tuple #[iN (m.s.AG k).1,iN (m.s.AG k).2]∧H'=Ad sb m*R):=by
 refine mI func51<|A3 Pa ?_;refine CY ?_;refine RB ?_;refine mC (λh16=>?_) (λh16=>?_)
 ·refine BQ ?_;exact mR [4,5] (Ad sb m*R) (hE:=by rw[Ie];exact AH) I I ⟨by unfold AL.AG;rw[AJ Ns];rfl,I⟩
 obtain⟨L,j,rfl,W⟩:=KN (by simpa using h16:FI m.x.closed k=0);have hjl:j<aa m.outs:=by rw[Ah.No hi];exact W
 have hoo:=Ah.OI hi W;have hom:=hm.outs _ HU;have a:=m.NO j hjl;have e:=hoo.len;have w:¬m.s.of (j:Int)≠0:=by rw[Qw];simpa using h16
 refine Sf ?_;have p:=hoo.OA;refine J7 ?_;refine QF ?_;refine pU ?_;refine zQ ?_;refine JR<|DY ?_;exact mR [4,5] (Ad sb m*R) (hE:=⟨λO X=>Eq.mp xJ X⟩) I I ⟨by unfold AL.AG;rw[AF w,dz,a];rfl,I⟩
def Q? (sb:Nat)(m:Ah)(code:Nat)(R:HP)(hm:m.ok):
  Fn prog B 50 [ptr sb 0,uN code] (Ad sb m*R)
   (λv H'=>∃N:Ah,N.ok∧N.s=(m.s.close code).2∧v=iN (m.s.close code).1∧H'=Ad sb N*R):=by
 refine mI func50<|A3 Pa ?_;refine Eh ?_;refine mC (λh9=>?_) (λh9=>?_)
 ·refine Bt ?_;exact mR [4] (Ad sb m*R) (hE:=by rw[Ie];exact AH) I I ⟨m,hm,by unfold AL.close;rw[AJ (show m.s.closed≠0 from h9)],by unfold AL.close;rw[AJ (show m.s.closed≠0 from h9)];rfl,I⟩
 refine J6 ?_;refine JL aI<|J2 ?_;refine mC (λh11=>?_) (λh11=>?_)
 ·refine Bt ?_;exact mR [4] (Ad sb m*R) (hE:=by rw[Ie];exact AH) I I ⟨m,hm,by unfold AL.close;rw[AF (show ¬m.s.closed≠0 from h9),AJ h11],by unfold AL.close;rw[AF (show ¬m.s.closed≠0 from h9),AJ h11];rfl,I⟩
 refine J7 ?_;refine Bl aF<|JR<|Fj ?_;exact mR [4] (Ad sb (m.DM {m.x with closed:=9,code:=code})*R) (hE:=by rw[Ie];exact ML) I I ⟨m.DM {m.x with closed:=9,code:=code},{hm with},fX,fX,I⟩
end
end Go.Proofs.YtgfdlpcdjklcoaaGreatDoor
