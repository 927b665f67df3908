/- Steps of this proof; no condition. -/
import Derived.Test.YtgfdlpcdjklcoaaGreatDoorP4
import Derived.Lib.Overlaps
namespace Go.Proofs.YtgfdlpcdjklcoaaGreatDoor
open Go Go.RowKit Go.Proofs.Tryz HP AO Oper
open _root_.List renaming length→aa
set_option linter.all false
variable{t AI k b o m a e lo hi sz:Nat}{c:AO}{w w':At}{ws:List At}{xs r ds ys:List UInt8}{f:Af}{d d':B9}{l rs told:List AS}{α:Type}{p:Option Addr}{L:List Value}{pos:String}{af:Array Edge}{g:Option (Nat×Bool)}
open _root_.Go.Builtin renaming firstCells→ad,zeroCells→a9,append_→cx,min_→eo,min2→hO,copy_→hB,lenOf→kl,max_→m5,max2→n9
open _root_.Option renaming some→c6
set_option maxRecDepth 20000
def Gi(l:List α)(i k)(x d:α):(l.set i x).getD k d=if i=k∧i<(aa l) then x else l.getD k d:=by
 simp only[ek,Ajx];by_cases h:i=k
 ·subst h;by_cases U:i<aa l
  ·simp[U]
  simp[U]
 simp[h]
def Dg.mono{s N}(h:Dg s m)(hm:m≤N):Dg s N:=
 ⟨h.inc,h.lo,λr Y=>by have:=h.hi r Y;omega,h.len,by have:=h.fl;omega⟩
structure Fd(AI:Nat)(w:At):Prop where
 len:w.b.length≤4096
 so:Dg w.AM w.b.length
 sf:w.AM.floor=0
 sm:w.AM.AQ=4096
 co:Dg w.AG w.b.length
 cf:w.AG.floor=0
 cm:w.AG.AQ=4096
 room:w.b.length≤w.CQ+AI
 high:w.high≤w.b.length
 code:w.code≤4611686018427387903
def Mj{s:Ba}(h:Dg s m)(hf:s.floor=0)(hm:s.AQ=4096)(C:m≤4096)(V:hi<m):
  Dg (s.add lo hi) m∧(s.add lo hi).floor=0∧(s.add lo hi).AQ=4096∧(lo≤hi→(s.add lo hi).l=Bo lo hi s.l)∧∀n,BD n (s.add lo hi).l↔(lo≤n∧n≤hi)∨BD n s.l:=by
 by_cases J:lo≤hi
 ·have O:=NM s.l lo hi J h.inc;have U:=LR s.l lo hi (m-1) C0 (λr Y=>by have:=h.hi r Y;omega);have M:=UN _ 0 m O (λ_ _=>bk _) (λr Y=>by have:=U r Y;omega);have Z:aa (Bo lo hi s.l)≤s.AQ:=by
   obtain M|M:=M
   ·omega
   exact absurd M (Ow _ _ _)
  have e:=Ba.Xw hf J Z;rw[e];exact⟨⟨O,λ_ _=>bk _,λr Y=>by have:=U r Y;omega,Z,bk _⟩,I,hm,λ_=>rfl,λn=>Na s.l lo hi n J⟩
 have e:s.add lo hi=s:=by unfold Ba.add;rw[AJ C0]
 rw[e];exact⟨h,hf,hm,λh=>absurd h J,λn=>⟨.inr,λh=>by rcases h with h|h;omega;exact h⟩⟩
def Fd.OA(h:Fd AI w):w.CQ≤aa w.b:=(K0 h.co.inc Du h.co.hi).1
def sW(C:EC w.AG.l)(i:EC w'.AG.l)(hb:∀r∈w'.AG.l,r.hi<aa w'.b)(h:∀n,BD n w.AG.l→BD n w'.AG.l):w.CQ≤w'.CQ:=by
 obtain O|O:=ff w'.CQ w.CQ
 ·exfalso;exact(K0 i Du hb).2 (h _ ((Ic w.AG.l 0 (aa w.b) C Du).2.1 _ Du O))
 exact O
structure K6(w w':At):Prop where
 b:w'.b=w.b
 high:w'.high=w.high
 finished:w'.finished=w.finished
 given:w'.given=w.given
 code:w'.code=w.code
def K6.refl(w):K6 w w:=Rh
def K6.trans{a b c}(h:K6 a b)(g:K6 b c):K6 a c:=⟨g.b.trans h.b,g.high.trans h.high,g.finished.trans h.finished,g.given.trans h.given,g.code.trans h.code⟩
def F8(ws:List At)(f:Af):Prop:=0≤f.stream∧f.stream<4∧(f.kind=5→f.offset+f.data.size≤(ws.getD f.stream.toNat BO).b.length)
structure El(AI:Nat)(ws:List At):Prop where
 len:ws.length=4
 ok:∀k,k<4→Fd AI (ws.getD k BO)
def UC(C:m≤4096):∀(l:List AS) (s:Ba),Dg s m→s.floor=0→s.AQ=4096→(∀r∈l,r.hi<m)→
  Dg (l.foldl (FD lo hi) s) m∧(l.foldl (FD lo hi) s).floor=0∧(l.foldl (FD lo hi) s).AQ=4096
 |[],s,h,V,W,_=>⟨h,V,W⟩
 |r::l,s,h,V,W,Y=>by
  have O:=Y r C3;rw[n'];have U:Dg (FD lo hi s r) m∧(FD lo hi s r).floor=0∧(FD lo hi s r).AQ=4096:=by
   unfold FD;by_cases j:r.lo<lo
   ·obtain⟨a,b,c,_⟩:=Mj (lo:=r.lo) (hi:=min r.hi (lo-1)) h V W C C0;simp only[j,if_true];split
    ·obtain⟨A,i,G,_⟩:=Mj (lo:=max r.lo hi) (hi:=r.hi) a b c C O;exact⟨A,i,G⟩
    exact⟨a,b,c⟩
   simp only[j,if_false];split
   ·obtain⟨A,i,G,_⟩:=Mj (lo:=max r.lo hi) (hi:=r.hi) h V W C O;exact⟨A,i,G⟩
   exact⟨h,V,W⟩
  exact UC C l _ U.1 U.2.1 U.2.2 (λt q=>Y t (by simp[q]))
def Xq(C:m≤4096):∀(l:List AS) (s:Ba),Dg s m→s.floor=0→s.AQ=4096→(∀r∈l,r.hi<m)→
  Dg (l.foldl (λs r=>s.add r.lo r.hi) s) m∧(l.foldl (λs r=>s.add r.lo r.hi) s).floor=0∧(l.foldl (λs r=>s.add r.lo r.hi) s).AQ=4096
 |[],s,h,V,W,_=>⟨h,V,W⟩
 |r::l,s,h,V,W,Y=>by
  rw[n'];obtain⟨a,b,c,_⟩:=Mj (lo:=r.lo) (hi:=r.hi) h V W C (Y r C3);exact Xq C l _ a b c (λt A=>Y t (by simp[A]))
def Fd.again(h:Fd AI w)(f):Fd AI (w.again f)∧K6 w (w.again f)∧(w.again f).AG=w.AG:=by
 unfold At.again;split
 ·obtain⟨a,b,c⟩:=UC (lo:=f.offset) (hi:=f.offset+f.data.size) h.len w.AM.l.reverse (.of 4096) .of I I (λr Y=>h.so.hi r (by simpa using Y));obtain⟨A,V,G⟩:=Xq h.len w.AG.l.reverse _ a b c (λr Y=>h.co.hi r (by simpa using Y));exact⟨⟨h.len,A,V,G,h.co,h.cf,h.cm,h.room,h.high,h.code⟩,Rh,I⟩
 split
 ·exact⟨⟨h.len,h.so,h.sf,h.sm,h.co,h.cf,h.cm,h.room,h.high,h.code⟩,Rh,I⟩
 exact⟨h,.refl _,I⟩
def El.set(h:El AI ws)(hw:Fd AI w):El AI (ws.set k w):=by
 refine⟨yP,λj W=>?_⟩;rw[Gi];split
 ·exact hw
 exact h.ok j W
structure Hs(ws ws':List At):Prop where
 same:∀k,K6 (ws.getD k BO) (ws'.getD k BO)
def Hs.refl(ws):Hs ws ws:=⟨λ_=>.refl _⟩
def Hs.trans{a b c}(h:Hs a b)(g:Hs b c):Hs a c:=⟨λk=>(h.same k).trans (g.same k)⟩
def Hs.set(h:K6 (ws.getD k BO) w):Hs ws (ws.set k w):=⟨λj=>by
 rw[Gi];split
 ·rename_i e;rw[←e.1];exact h
 exact .refl _⟩
def F8.same{i}(h:F8 ws f)(g:Hs ws i):F8 i f:=⟨h.1,h.2.1,λZ=>by rw[(g.same _).b];exact h.2.2 Z⟩
def X5:∀(fs:List Af) (ws:List At),El AI ws→(∀f∈fs,F8 ws f)→El AI (fs.foldl JQ ws)∧Hs ws (fs.foldl JQ ws)∧∀k,((fs.foldl JQ ws).getD k BO).AG=(ws.getD k BO).AG
 |[],ws,h,_=>⟨h,.refl _,λ_=>rfl⟩
 |f::fs,ws,h,V=>by
  rw[n'];have N:=V f C3;have O:=(h.ok f.stream.toNat (by have:=N.1;have:=N.2.1;omega)).again f;have U:El AI (JQ ws f):=h.set O.1;have M:Hs ws (JQ ws f):=.set O.2.1;obtain⟨a,b,c⟩:=X5 fs (JQ ws f) U (λg hg=>(V g Cs).same M);refine⟨a,M.trans b,λk=>?_⟩;rw[c k];unfold JQ;rw[Gi];split
  ·rename_i e;rw[O.2.2,e.1]
  rfl
def Ul:∀(ps:List FQ) (ws:List At),El AI ws→(∀p∈ps,∀f∈p.A7,F8 ws f)→El AI (ps.foldl N4 ws)∧Hs ws (ps.foldl N4 ws)∧∀k,((ps.foldl N4 ws).getD k BO).AG=(ws.getD k BO).AG
 |[],ws,h,_=>⟨h,.refl _,λ_=>rfl⟩
 |p::ps,ws,h,V=>by
  rw[n'];obtain⟨a,b,c⟩:=X5 p.A7 ws h (V p C3);obtain⟨A,j,G⟩:=Ul ps (N4 ws p) a (λq hq f i=>(V q QY f i).same b);exact⟨A,b.trans j,λk=>(G k).trans (c k)⟩
def Jl(fs:List Af)(k n:Nat):Prop:=∃f∈fs,f.kind=5∧0<f.data.size∧f.stream.toNat=k∧f.offset≤n∧n<f.offset+f.data.size
def iO(k n):¬Jl [] k n:=by rintro⟨f,h,_⟩;cases h
def cL(f:Af)(fs k n):Jl (f::fs) k n↔(f.kind=5∧0<f.data.size∧f.stream.toNat=k∧f.offset≤n∧n<f.offset+f.data.size)∨Jl fs k n:=by
 simp[Jl,j1]
def Fd.named(h:Fd AI w)(inn)(f:Af)(hf:f.kind=5→f.offset+f.data.size≤aa w.b):
  Fd AI (w.named inn f)∧K6 w (w.named inn f)∧∀n,BD n (w.named inn f).AG.l↔BD n w.AG.l∨(inn=true∧f.kind=5∧0<f.data.size∧f.offset≤n∧n<f.offset+f.data.size):=by
 unfold At.named;by_cases W:inn=true∧f.kind=5∧f.data.size≠0
 ·simp only[W,ne_eq,not_false_eq_true,and_self,if_true];have q:=hf W.2.1;have C:0<f.data.size:=C0;obtain⟨a,b,c,_,e⟩:=Mj (lo:=f.offset) (hi:=f.offset+f.data.size-1) h.co h.cf h.cm h.len C0;obtain⟨A,V,G,_⟩:=Mj (lo:=f.offset) (hi:=f.offset+f.data.size-1) h.so h.sf h.sm h.len C0;refine⟨⟨h.len,A,V,G,a,b,c,?_,h.high,h.code⟩,Rh,λn=>?_⟩
  ·refine k9 h.room (Nat.add_le_add_right (sW h.co.inc a.inc a.hi λn i=>?_) _);exact(e n).2 (.inr i)
  rw[e n];constructor
  ·rintro(g|g)
   ·exact .inr ⟨trivial,trivial,C,g.1,C0⟩
   exact .inl g
  rintro(g|g)
  ·exact .inr g
  exact .inl ⟨g.2.2.2.1,C0⟩
 rw[AF W];refine⟨⟨h.len,h.so,h.sf,h.sm,h.co,h.cf,h.cm,h.room,h.high,h.code⟩,Rh,λn=>⟨.inl,?_⟩⟩;rintro(g|⟨Q,S,N,F,O⟩)
 ·exact g
 exact absurd ⟨Q,S,C0⟩ W
def Xf{inn}:∀(fs:List Af) (ws:List At),El AI ws→(∀f∈fs,F8 ws f)→
  El AI (fs.foldl (JB inn) ws)∧Hs ws (fs.foldl (JB inn) ws)∧∀k n,BD n ((fs.foldl (JB inn) ws).getD k BO).AG.l↔BD n (ws.getD k BO).AG.l∨(inn=true∧Jl fs k n)
 |[],ws,h,_=>⟨h,.refl _,λk n=>⟨.inl,λh=>by rcases h with h|h;exact h;exact absurd h.2 (iO _ _)⟩⟩
 |f::fs,ws,h,V=>by
  rw[n'];have N:=V f C3;have U:f.stream.toNat<4:=by have:=N.1;have:=N.2.1;omega
  have O:=(h.ok f.stream.toNat U).named inn f N.2.2;have i:El AI (JB inn ws f):=h.set O.1;have M:Hs ws (JB inn ws f):=.set O.2.1;obtain⟨a,b,c⟩:=Xf fs (JB inn ws f) i (λg hg=>(V g Cs).same M);refine⟨a,M.trans b,λk n=>?_⟩;rw[c k n,cL];have X:BD n ((JB inn ws f).getD k BO).AG.l↔BD n (ws.getD k BO).AG.l∨(inn=true∧f.kind=5∧0<f.data.size∧f.stream.toNat=k∧f.offset≤n∧n<f.offset+f.data.size):=by
   unfold JB;rw[Gi];by_cases e:f.stream.toNat=k
   ·subst e;rw[AJ ⟨I,by rw[h.len];exact U⟩,O.2.2 n];simp
   rw[AF (λh=>e h.1)];exact⟨.inl,λh=>by rcases h with h|h;exact h;exact absurd h.2.2.2.1 e⟩
  rw[X];constructor
  ·rintro((g|⟨Q,S⟩)|⟨Q,S⟩)
   ·exact .inl g
   ·exact .inr ⟨Q,.inl S⟩
   exact .inr ⟨Q,.inr S⟩
  rintro(g|⟨Q,S|S⟩)
  ·exact .inl (.inl g)
  ·exact .inl (.inr ⟨Q,S⟩)
  exact .inr ⟨Q,S⟩
def P3{AI l}:∀(ps:List FQ) (ws:List At),El AI ws→(∀p∈ps,∀f∈p.A7,F8 ws f)→
  El AI (ps.foldl (K3 l) ws)∧Hs ws (ps.foldl (K3 l) ws)∧∀k n,BD n ((ps.foldl (K3 l) ws).getD k BO).AG.l↔BD n (ws.getD k BO).AG.l∨∃p∈ps,BJ l p.number=true∧Jl p.A7 k n
 |[],ws,h,_=>⟨h,.refl _,λk n=>⟨.inl,λh=>by rcases h with h|⟨p,h,_⟩;exact h;cases h⟩⟩
 |p::ps,ws,h,V=>by
  rw[n'];obtain⟨a,b,c⟩:=Xf (inn:=BJ l p.number) p.A7 ws h (V p C3);obtain⟨A,j,G⟩:=P3 (l:=l) ps (K3 l ws p) a (λq hq f i=>(V q QY f i).same b);refine⟨A,b.trans j,λk n=>?_⟩;rw[G k n,show BD n ((K3 l ws p).getD k BO).AG.l↔_ from c k n];exact xQ
def Vg{read high}(C:EC l)(J:∀n,n<read→BD n l)(Y:∀r∈l,r.hi<high)(hw:high≤read+1024):aa l≤514:=by
 cases l with
 |nil=>simp
 |cons r rs=>
  obtain⟨O,U,M⟩:=C;have Z:read≤r.hi+1:=by
   obtain h|h:=ff (r.hi+1) read
   ·obtain X|⟨s,hs,X⟩:=(Gz (r.hi+1) r rs).1 (J _ h)
    ·omega
    have:=U s hs;omega
   exact h
  rcases UN rs (r.hi+2) high M (λs hs=>by have:=U s hs;omega) (λs hs=>Y s PB)with X|rfl
  ·simp;omega
  simp
def fA{s:Ba}(h:Dg s m)(hf:s.floor=0)(hm:s.AQ=4096)(J:aa s.l≤600)(j:lo≤hi)(V:hi<m):
  Dg (s.add lo hi) m∧(s.add lo hi).floor=0∧(s.add lo hi).AQ=4096∧∀n,BD n (s.add lo hi).l↔(lo≤n∧n≤hi)∨BD n s.l:=by
 have O:=NM s.l lo hi j h.inc;have U:=LR s.l lo hi (m-1) C0 (λr Y=>by have:=h.hi r Y;omega);have M:=Nm s.l lo hi;have e:=Ba.Xw hf j (by omega:aa (Bo lo hi s.l)≤s.AQ);rw[e];exact⟨⟨O,λ_ _=>bk _,λr Y=>by have:=U r Y;omega,by show(Bo lo hi s.l).length≤s.AQ;omega,bk _⟩,I,hm,λn=>Na s.l lo hi n j⟩
def qP{b:List UInt8}(h:o+aa ds≤aa b):aa (IN b o ds)=aa b:=by
 unfold IN;simp;omega
def fe{b:List UInt8}{i}(h:o+aa ds≤aa b):(IN b o ds).getD i 0=if o≤i∧i<o+(aa ds) then ds.getD (i-o) 0 else b.getD i 0:=by
 unfold IN;simp only[ek];have J:aa (b.take o)=o:=Qt;split
 ·rename_i W;rw[c5,R' C0,J,E2 C0]
 rename_i W;obtain O|O:=ff i o
 ·rw[c5,E2 C0,Am1 O]
 rw[R' C9,Cx];congr 2;simp;omega
def uw{off read high}(N:e=off+aa ds)(heh:e≤high)(hw:high≤read+1024):
  ∀(F lo:Nat) (b:List UInt8) (AG:Ba),Dg AG high→AG.floor=0→AG.AQ=4096→(∀n,n<read→BD n AG.l)→aa b=high-read→off≤lo→read≤lo→e-lo<F→
   Dg (IA F off e ds read lo b AG).2 high∧(IA F off e ds read lo b AG).2.floor=0∧(IA F off e ds read lo b AG).2.AQ=4096∧
   (IA F off e ds read lo b AG).1.length=aa b∧(∀n,BD n (IA F off e ds read lo b AG).2.l↔BD n AG.l∨(lo≤n∧n<e))∧
   (∀n,read≤n→n<high→(IA F off e ds read lo b AG).1.getD (n-read) 0=if lo≤n∧n<e∧¬BD n AG.l then ds.getD (n-off) 0 else b.getD (n-read) 0):=by
 intro F
 induction F with
 |zero=>intro lo b AG _ _ _ _ _ _ _ h;omega
 |succ F ih=>
  intro lo b AG Q hf W hp q hol hrl hfu;rw[IA];by_cases j:lo<e
  ·simp only[j,if_true];obtain⟨ga,i,gc,s,v⟩:=Ic AG.l lo e Q.inc C0;by_cases S:e≤(AW lo e AG.l).1
   ·simp only[S,if_true];refine⟨Q,hf,W,trivial,λn=>⟨.inl,λh=>?_⟩,λn O U=>?_⟩
    ·obtain h|h:=h
     ·exact h
     exact i n h.1 C0
    rw[AF];rintro⟨M,Z,h5⟩;exact h5 (i n M C0)
   simp only[S,if_false];have hlt:(AW lo e AG.l).1<(AW lo e AG.l).2:=by
    obtain h|h:=ff (AW lo e AG.l).1 (AW lo e AG.l).2
    ·exact h
    exact absurd (v h) S
   have X:aa ((ds.drop ((AW lo e AG.l).1-off)).take ((AW lo e AG.l).2-(AW lo e AG.l).1))=(AW lo e AG.l).2-(AW lo e AG.l).1:=by
    rw[hZ,di];omega
   have A:aa (IN b ((AW lo e AG.l).1-read) ((ds.drop ((AW lo e AG.l).1-off)).take ((AW lo e AG.l).2-(AW lo e AG.l).1)))=aa b:=qP (by rw[X];omega);have hcl:=Vg Q.inc hp Q.hi hw;obtain⟨a1,a2,a3,a4⟩:=fA (lo:=(AW lo e AG.l).1) (hi:=(AW lo e AG.l).2-1) Q hf W C0 C0 C0;obtain⟨C,Y,b3,b4,b5,b6⟩:=ih (AW lo e AG.l).2 (IN b ((AW lo e AG.l).1-read) ((ds.drop ((AW lo e AG.l).1-off)).take ((AW lo e AG.l).2-(AW lo e AG.l).1))) (AG.add (AW lo e AG.l).1 ((AW lo e AG.l).2-1)) a1 a2 a3 (λn G=>(a4 n).2 (.inr (hp n G))) (by rw[A];exact q) C0 C0 C0;refine⟨C,Y,b3,b4.trans A,λn=>?_,λn O U=>?_⟩
   ·rw[b5 n,a4 n];constructor
    ·rintro((h|h)|h)
     ·exact .inr C0
     ·exact .inl h
     exact .inr C0
    rintro(h|h)
    ·exact .inl (.inr h)
    by_cases M:n<(AW lo e AG.l).1
    ·exact .inl (.inr (i n h.1 M))
    by_cases Z:n<(AW lo e AG.l).2
    ·exact .inl (.inl C0)
    exact .inr C0
   rw[b6 n O U,fe (by rw[X];omega),X];by_cases M:n<(AW lo e AG.l).1
   ·rw[AF C0,AF C0];rw[AF];rintro⟨h5,J,V⟩;exact V (i n h5 M)
   by_cases Z:n<(AW lo e AG.l).2
   ·have h5:¬BD n AG.l:=s hlt n C0 Z;rw[AF C0,AJ C0,AJ ⟨C0,C0,h5⟩];simp only[ek];rw[Am1 C0,Cx];congr 2;omega
   have J:BD n (AG.add (AW lo e AG.l).1 ((AW lo e AG.l).2-1)).l↔BD n AG.l:=by
    rw[a4 n];constructor
    ·rintro(h|h)
     ·omega
     exact h
    exact .inr
   by_cases V:(AW lo e AG.l).2≤n∧n<e∧¬BD n AG.l
   ·rw[AJ ⟨V.1,V.2.1,λh=>V.2.2 (J.1 h)⟩,AJ ⟨C0,V.2.1,V.2.2⟩]
   rw[AF (λh=>V ⟨h.1,h.2.1,λg=>h.2.2 (J.2 g)⟩),AF C0,AF];rintro⟨h8,h9,K⟩;exact V ⟨C0,h9,K⟩
  simp only[j,if_false];refine⟨Q,hf,W,trivial,λn=>⟨.inl,λh=>?_⟩,λn O U=>?_⟩
  ·obtain h|h:=h
   ·exact h
   omega
  rw[AF C0]
structure Hc(AI t:Nat)(r:Dk):Prop where
 co:Dg r.AG r.high
 cf:r.AG.floor=0
 cm:r.AG.AQ=4096
 rh:r.read≤r.high
 hw:r.high≤r.read+AI
 pre:∀n,n<r.read→BD n r.AG.l
 len:r.given=false→r.b.length=r.high-r.read
 rt:r.read≤1024*t
 en:r.end_≤4611686018427387903
 code:r.code≤4611686018427387903
 st:r.state≤2
 Km:r.state=2→r.given=true
def Hc.mono{q r}(h:Hc AI t r)(ht:t≤q):Hc AI q r:=
 ⟨h.co,h.cf,h.cm,h.rh,h.hw,h.pre,h.len,by have:=h.rt;omega,h.en,h.code,h.st,h.Km⟩
def GI(f:Af):Prop:=0≤f.stream∧f.stream<4∧f.code≤4611686018427387903∧f.offset≤4611686018427387903∧(f.kind=5→f.offset+f.data.size≤4611686018427387903)∧(f.kind=3→Io f.ranges)
def GI.of(h:B4 f):GI f:=⟨h.2.2.1,h.2.2.2.1,h.2.1,h.1,λZ=>by have:=h.2.2.2.2.1.2 Z;omega,h.2.2.2.2.1.1⟩
structure Iz(r r':Dk):Prop where
 read:r'.read=r.read
 state:r'.state=r.state
 given:r.given=true→r'.given=true
def Oq(f:Af):aa f.data.data.toList=f.data.size:=rfl
def Dk.zZ(r:Dk)(h:Hc AI t r)(v:AI≤1024)(f:Af)(S:r.given=false)(hb:f.offset+f.data.size≤r.read+AI):
  Dg (r.filled f).2 (max r.high (f.offset+f.data.size))∧(r.filled f).2.floor=0∧(r.filled f).2.AQ=4096∧(r.filled f).1.length=max r.high (f.offset+f.data.size)-r.read∧
  (∀n,BD n (r.filled f).2.l↔BD n r.AG.l∨(max f.offset r.read≤n∧n<f.offset+f.data.size))∧
  (∀n,r.read≤n→n<max r.high (f.offset+f.data.size)→(r.filled f).1.getD (n-r.read) 0=if max f.offset r.read≤n∧n<f.offset+f.data.size∧¬BD n r.AG.l then f.data.data.toList.getD (n-f.offset) 0
   else(r.b++List.replicate (max r.high (f.offset+f.data.size)-(r.read+aa r.b)) 0).getD (n-r.read) 0):=by
 have J:=h.len S;have Y:=h.hw;have M:=h.rh;have i:aa (r.b++List.replicate (max r.high (f.offset+f.data.size)-(r.read+aa r.b)) 0)=max r.high (f.offset+f.data.size)-r.read:=by rw[a5,s8];omega
 obtain⟨U,j,O,q,K,s⟩:=uw (off:=f.offset) (e:=f.offset+f.data.size) (ds:=f.data.data.toList) (read:=r.read) (high:=max r.high (f.offset+f.data.size)) (by rw[Oq]) (Am5 _ _) C0 (f.offset+f.data.size+1) (max f.offset r.read) _ r.AG (h.co.mono SD) h.cf h.cm h.pre i SD (Am5 _ _) C0;exact⟨U,j,O,q.trans i,K,s⟩
def Hc.data{r:Dk}(h:Hc AI t r)(v:AI≤1024)(f:Af)(hf:GI f)(Z:f.kind=5)(hb:r.given=false→f.offset+f.data.size≤r.read+AI):
  Hc AI t (r.data f).2∧Iz r (r.data f).2:=by
 unfold Dk.data;split
 ·exact⟨h,I,I,id⟩
 split
 ·exact⟨h,I,I,id⟩
 rename_i W S;have j:r.given=false:=by simpa using S
 have hb:=hb j;have J:=h.len j;have Y:=h.hw;have M:=h.rh;have i:Dg r.AG (max r.high (f.offset+f.data.size)):=h.co.mono C0;obtain⟨U,q,O,A,K,s⟩:=r.zZ h v f j hb;refine⟨⟨U,q,O,k9 M SD,by show max r.high _≤r.read+AI;omega,λn G=>(K n).2 (.inl (h.pre n G)),λ_=>A,h.rt,?_,h.code,h.st,h.Km⟩,I,I,id⟩;show(if f.fin then f.offset+f.data.size else r.end_)≤_;split
 ·exact hf.2.2.2.2.1 Z
 exact h.en
structure YQ(next now:Nat)(ws:List At)(p:FQ):Prop where
 num:p.number<next
 at_:p.at_≤now
 len:p.A7.length≤300
 fr:∀f∈p.A7,F8 ws f
structure Aq(t:Nat)(c:AO):Prop where
 m1:64≤c.AV
 m2:c.AV≤300
 w1:16≤c.AI
 w2:c.AI≤1024
 ks:c.ks.length=16
 closed:c.closed≤10
 code:c.code≤4611686018427387903
 AR:Dg c.AR 4611686018427387904
 gm:c.AR.AQ=8
 ws:El c.AI c.ws
 rl:c.rs.length=4
 rs:∀k,k<4→Hc c.AI t (c.r k)
 fl:c.Bp.length≤10
 BF:∀p,p∈c.Bp∨p∈c.lost→YQ c.next c.now c.ws p
 cnt:c.Bp.length+c.lost.length≤c.next
 nx:c.next≤20*t
 nw:c.now≤t
 wt:c.waits≤8
 lg:c.CB≤c.next
def Aq.mono{q}(h:Aq t c)(ht:t≤q):Aq q c:=
 {h with rs:=λk Z=>(h.rs k Z).mono ht,nx:=by have:=h.nx;omega,nw:=by have:=h.nw;omega}
def UV:Fd AI BO:=⟨bk _,.of,I,I,.of,I,I,bk _,bk _,bk _⟩
def Tc:Hc AI t LK:=⟨.of,I,I,bk _,bk _,(λn h=>absurd h (Aje n)),(λ_=>rfl),bk _,bk _,bk _,bk _,(λh=>absurd h C2)⟩
def PS{P:Nat→Prop}(h0:P 0)(h1:P 1)(h2:P 2)(M:P 3)(k)(Z:k<4):P k:=by
 match k,Z with
 |0,_=>exact h0
 |1,_=>exact h1
 |2,_=>exact h2
 |3,_=>exact M
def Aq.new{AV}{ks:List UInt8}{first}(h1:64≤AV)(h2:AV≤300)(M:16≤AI)(Z:AI≤1024)(i:aa ks=16):Aq 0 (.new AV AI ks first):=
 ⟨h1,h2,M,Z,i,bk _,bk _,.of,I,⟨I,PS UV UV UV UV⟩,I,PS Tc Tc Tc Tc,bk _,(λp h=>by rcases h with h|h<;>cases h),bk _,bk _,bk _,bk _,bk _⟩
def Aq.cQ(h:Aq t c)(hw:El c.AI ws)(hf:∀f,F8 c.ws f→F8 ws f):Aq t {c with ws:=ws}:=
 {h with ws:=hw,BF:=λp J=>let g:=h.BF p J;⟨g.num,g.at_,g.len,λf N=>hf f (g.fr f N)⟩}
def F8.set(hb:(ws.getD k BO).b.length≤aa w.b)(f)(h:F8 ws f):F8 (ws.set k w) f:=by
 refine⟨h.1,h.2.1,λZ=>?_⟩;have:=h.2.2 Z;rw[Gi];split
 ·rename_i e;rw[e.1]at hb;omega
 exact this
def Aq.Dh(h:Aq t c)(hw:Fd c.AI w)(hb:(c.w k).b.length≤aa w.b):Aq t (c.Dh k w):=
 h.cQ (h.ws.set hw) (F8.set hb)
def Aq.CE(h:Aq t c){r}(hr:Hc c.AI t r):Aq t (c.CE k r):=by
 refine {h with rl:=by show(c.rs.set k r).length=4;rw[n5];exact h.rl,rs:=λj W=>?_};show Hc c.AI t ((c.rs.set k r).getD j LK);rw[Gi];split
 ·exact hr
 exact h.rs j W
def L5{k:Int}(h:c.stream k=0):c.closed=0∧0≤k∧k.toNat<4:=by
 unfold AO.stream at h;split at h
 ·cases h
 split at h
 ·cases h
 rename_i O U;refine⟨by simpa using O,?_,?_⟩<;>omega
def mK{k:Int}(h:c.GQ k=0):c.stream k=0∧(c.w k.toNat).finished=false∧(c.w k.toNat).given=false:=by
 unfold GQ at h;split at h
 ·rename_i O;exact absurd h O
 split at h
 ·cases h
 rename_i O U;refine⟨by simpa using O,?_,?_⟩<;>simp_all
def Fd.write(h:Fd AI w)(n)(xs:List UInt8)(G:n≤AI-(aa w.b-w.CQ))(i:n≤4096-aa w.b):Fd AI {w with b:=w.b++xs.take n}:=by
 have J:aa (w.b++xs.take n)≤aa w.b+n:=C9;have O:=h.OA;have U:=h.len;have M:=h.room;have j:w.CQ≤({w with b:=w.b++xs.take n}:At).CQ:=sW h.co.inc h.co.inc (λr Y=>by have:=h.co.hi r Y;show r.hi<aa (w.b++xs.take n);simp;omega) (λ_ h=>h);refine⟨by show(w.b++xs.take n).length≤_;omega,h.so.mono C3,h.sf,h.sm,h.co.mono C3,h.cf,h.cm,?_,k9 h.high C3,h.code⟩;show(w.b++xs.take n).length≤_;omega
def Aq.write(h:Aq t c)(k:Int)(xs:List UInt8):Aq t (c.write k xs).2:=by
 unfold AO.write;split
 ·exact h
 rename_i O;obtain⟨U,M,Z⟩:=mK (by simpa using O:c.GQ k=0);obtain⟨X,J,V⟩:=L5 U;refine h.Dh (Fd.write (h.ws.ok _ V) _ _ ?_ ?_) C3
 ·show min (min _ _) _≤_;exact k9 (Ajw _ _) (Ajw _ _)
 show min (min _ _) _≤_;exact k9 (Ajw _ _) (Ale _ _)
def Aq.finish(h:Aq t c)(k:Int):Aq t (c.finish k).2:=by
 unfold AO.finish;split
 ·exact h
 rename_i O;obtain⟨U,M,Z⟩:=mK (by simpa using O:c.GQ k=0);obtain⟨X,J,V⟩:=L5 U;have g:=h.ws.ok _ V;exact h.Dh ⟨g.len,g.so,g.sf,g.sm,g.co,g.cf,g.cm,g.room,g.high,g.code⟩ Dz
def Aq.giveUp(h:Aq t c)(k:Int)(code):Aq t (c.giveUp k code).2:=by
 unfold AO.giveUp;split
 ·exact h
 split
 ·exact h
 rename_i O U;obtain⟨X,J,V⟩:=L5 (by simpa using O:c.stream k=0);have g:=h.ws.ok _ V;exact h.Dh ⟨g.len,g.so,g.sf,g.sm,g.co,g.cf,g.cm,g.room,g.high,by show code≤_;omega⟩ Dz
def Aq.close(h:Aq t c)(code):Aq t (c.close code).2:=by
 unfold AO.close;split
 ·exact h
 split
 ·exact h
 exact {h with closed:=by show 9≤10;omega,code:=by show code≤_;omega}
def Aq.Ho(h:Aq t c)(lost:FQ→Bool):Aq t (c.Ho lost):=by
 obtain⟨a,b,_⟩:=Ul (c.Bp.filter lost) c.ws h.ws (λp hp f V=>(h.BF p (.inl (o4.1 hp).1)).fr f V);have J:aa (c.Bp.filter (λp=> !lost p))+aa (c.Bp.filter lost)=aa c.Bp:=by
  clear a b
  induction c.Bp with
  |nil=>rfl
  |cons p j Z=>cases e:lost p<;>simp[e]<;>omega
 refine {h with ws:=a,fl:=by show(c.Bp.filter _).length≤10;have:=h.fl;omega,BF:=λp hp=>?_,cnt:=?_}
 ·have C:p∈c.Bp∨p∈c.lost:=by
   obtain hp|hp:=hp
   ·exact ZE
   obtain hp|hp:=j2.1 hp
   ·exact .inr hp
   exact ZE
  have g:=h.BF p C;exact⟨g.num,g.at_,g.len,λf V=>(g.fr f V).same b⟩
 show(c.Bp.filter _).length+aa (c.lost++c.Bp.filter lost)≤c.next
 have:=h.cnt;rw[a5];omega
def Aq.tick(h:Aq t c):Aq (t+1) c.tick:=by
 have O:Aq (t+1) {c with now:=c.now+1}:=
  {h.mono FT with nw:=by have:=h.nw;show c.now+1≤t+1;omega,BF:=λp J=>let g:=h.BF p J;⟨g.num,Al7 g.at_,g.len,g.fr⟩}
 unfold AO.tick;split
 ·exact {O.Ho _ with wt:=by show min (c.waits+1) 8≤8;omega}
 exact O
def Aq.IW(h:Aq t c)(l)(J:(rg l 0).hi<c.next):Aq t (c.IW l)∧Hs c.ws (c.IW l).ws∧
  ∀k n,BD n ((c.IW l).w k).AG.l↔BD n (c.w k).AG.l∨∃p,(p∈c.lost∨p∈c.Bp)∧BJ l p.number=true∧Jl p.A7 k n:=by
 obtain⟨a,b,e⟩:=P3 (l:=l) c.lost c.ws h.ws (λp hp f V=>(h.BF p (.inr hp)).fr f V);obtain⟨A,i,j⟩:=P3 (l:=l) c.Bp _ a (λp hp f V=>((h.BF p (.inl hp)).fr f V).same b);refine⟨{h with ws:=A,fl:=k9 (Ak9 _ _) h.fl,BF:=λp hp=>?_,cnt:=?_,wt:=?_,lg:=?_},b.trans i,λk n=>?_⟩
 ·have C:p∈c.Bp∨p∈c.lost:=by
   exact rM
  have g:=h.BF p C;exact⟨g.num,g.at_,g.len,λf V=>(g.fr f V).same (b.trans i)⟩
 ·have O:=Ak9 (λp:FQ=> !BJ l p.number) c.Bp;have U:=Ak9 (λp:FQ=> !BJ l p.number) c.lost;have:=h.cnt;show(c.Bp.filter _).length+aa (c.lost.filter _)≤c.next;omega
 ·show(if _ then 0 else c.waits)≤8;split
  ·omega
  exact h.wt
 ·show max c.CB (rg l 0).hi≤c.next
  have:=h.lg;omega
 have:=j k n;rw[show((c.IW l).w k)=(c.Bp.foldl (K3 l) (c.lost.foldl (K3 l) c.ws)).getD k BO from I,this,e k n];constructor
 ·rintro((g|⟨p,hp,g⟩)|⟨p,hp,g⟩)
  ·exact .inl g
  ·exact .inr ⟨p,.inl hp,g⟩
  exact .inr ⟨p,.inr hp,g⟩
 rintro(g|⟨p,hp|hp,g⟩)
 ·exact .inl (.inl g)
 ·exact .inl (.inr ⟨p,hp,g⟩)
 exact .inr ⟨p,hp,g⟩
def Aq.EY(h:Aq t c)(l):Aq t (c.EY l).2:=by
 unfold AO.EY;split
 ·exact h
 exact(h.IW l C0).1.Ho _
def Iz.refl(r):Iz r r:=LU
def Iz.trans{a b c}(h:Iz a b)(g:Iz b c):Iz a c:=⟨g.read.trans h.read,g.state.trans h.state,λe=>g.given (h.given e)⟩
def Aq.take(h:Aq t c)(f)(hf:GI f)(hb:¬c.busy f):Aq t (c.take f).2∧(∀k,Iz (c.r k) ((c.take f).2.r k))∧(c.take f).2.AI=c.AI:=by
 have U:f.stream.toNat<4:=by have:=hf.1;have:=hf.2.1;omega
 have g:=h.rs _ U;have G:∀r,Iz (c.r f.stream.toNat) r→∀k,Iz (c.r k) ((c.CE f.stream.toNat r).r k):=by
  intro r Y k;show Iz (c.r k) ((c.rs.set f.stream.toNat r).getD k LK);rw[Gi];split
  ·rename_i e;rw[←e.1];exact Y
  exact .refl _
 unfold AO.take;split
 ·refine⟨h.EY _,λk=>?_,?_⟩
  ·unfold AO.EY;split<;>exact .refl _
  unfold AO.EY;split<;>rfl
 split
 ·split
  ·exact⟨h,λ_=>.refl _,I⟩
  refine⟨h.CE ⟨g.co,g.cf,g.cm,g.rh,g.hw,g.pre,(λh=>by cases h),g.rt,?_,?_,g.st,λ_=>rfl⟩,G _ ⟨I,I,λ_=>rfl⟩,I⟩
  ·exact hf.2.2.2.1
  exact Zy
 split
 ·rename_i X;obtain⟨a,b⟩:=g.data h.w2 f hf X (λS=>by
   obtain i|C:=ff ((c.r f.stream.toNat).read+c.AI) (f.offset+f.data.size)
   ·exact absurd ⟨X,S,i⟩ hb
   exact C)
  exact⟨h.CE a,G _ b,I⟩
 split<;>exact⟨h,λ_=>.refl _,I⟩
def Vd(f):(c.take f).1≤10:=by
 unfold AO.take EY Dk.data
 repeat' split
 all_goals simp
def Aq.B1:∀(fs:List Af) (c:AO),Aq t c→(∀f∈fs,GI f∧¬c.busy f)→Aq t (c.B1 fs).2
 |[],c,h,_=>h
 |f::fs,c,h,V=>by
  obtain⟨a,b,e⟩:=h.take f (V f C3).1 (V f C3).2;rw[AO.B1];split
  ·exact {a with closed:=Vd f,code:=by have:=Vd (c:=c) f;show(c.take f).1≤_;omega}
  refine Aq.B1 fs _ {a with} (λg hg=>⟨(V g Cs).1,?_⟩);have U:=(V g Cs).2;rintro⟨j,q,O⟩;refine U ⟨j,?_,?_⟩
  ·have:=(b g.stream.toNat).given;cases e:(c.r g.stream.toNat).given
   ·rfl
   rw[e]at this;have:=this I;have i:((c.take f).2.r g.stream.toNat).given=false:=q;rw[this]at i;cases i
  have Z:((c.take f).2.r g.stream.toNat).read+(c.take f).2.AI<g.offset+g.data.size:=O;rw[(b g.stream.toNat).read,e]at Z;exact Z
def bo(xs:List UInt8):∀(F a:Nat) (fs:List Af),aa xs-a≤F→GF xs a=.ok fs→∀f∈fs,B4 f:=by
 intro F
 induction F with
 |zero=>
  intro a fs J h;rw[GF,AF C0]at h;cases h;intro f V;cases V
 |succ n Z=>
  intro a fs J h;rw[GF]at h;split at h
  ·split at h
   ·rename_i f A e;split at h
    ·split at h
     ·rename_i l M;cases h;intro g S;obtain rfl|S:=j1.1 S
      ·unfold FK at e;split at e
       ·split at e
        ·cases e;assumption
        cases e
       cases e
      exact Z A l C0 M g S
     cases h
    cases h
   cases h
  cases h;intro f V;cases V
def Lg{fs}(h:Eb xs=.ok fs):∀f∈fs,B4 f:=by
 unfold Eb at h;split at h
 ·cases h
 exact bo xs _ 0 fs Dz h
def Aq.BY(h:Aq t c)(p:List UInt8)(G:∀n b,B6 c.ks (Bb (!c.first)) p=some (n,b)→n.toNat≤4611686018427387903):Aq t (c.BY p).2:=by
 unfold AO.BY;split
 ·exact h
 split
 ·exact h
 rename_i i b e;split
 ·exact h
 split
 ·exact {h with closed:=by show 5≤10;omega,code:=by show 5≤_;omega}
 rename_i X M;split
 ·exact h
 rename_i q;have S:=h.AR.add i.toNat i.toNat (by have:=G i b e;omega) Xm;refine Aq.B1 X _ {h with AR:=S.1,gm:=S.2.trans h.gm} (λf V=>⟨.of (Lg M f V),λj=>q ⟨f,V,j⟩⟩)
def Aq.read(h:Aq t c)(k AQ:Int):Aq (t+1) (c.read k AQ).2:=by
 unfold AO.read;split
 ·exact h.mono FT
 rename_i O;obtain⟨X,J,V⟩:=L5 (by simpa using O:c.stream k=0);have g:=h.rs _ V;have Q:Hc c.AI t (c.HV k.toNat):=by
  unfold HV;split
  ·rename_i W;exact⟨g.co,g.cf,g.cm,g.rh,g.hw,g.pre,(λh=>by rw[W.1]at h;cases h),g.rt,g.en,g.code,er _,λ_=>W.1⟩
  exact g
 generalize Y:c.HV k.toNat=r at Q⊢;dsimp only;have F:(c.r k.toNat).given=true→r.state≠0:=by
  intro S A;have:r.state=(c.HV k.toNat).state:=by rw[Y]
  unfold HV at this;split at this
  ·simp at this;omega
  rename_i W;exact W ⟨S,this▸A⟩
 have C:r.given=(c.r k.toNat).given:=by
  have:r.given=(c.HV k.toNat).given:=by rw[Y]
  rw[this];unfold HV;split<;>rfl
 split
 ·rename_i A;have S:r.given=false:=by
   cases e:r.given
   ·rfl
   exact absurd A (F (C▸e))
  obtain⟨K,v⟩:=K0 Q.co.inc Q.rh Q.co.hi;have q:=(Ic r.AG.l r.read r.high Q.co.inc Q.rh)
  have G:JO r AQ≤(AW r.read r.high r.AG.l).1-r.read:=Ajw _ _;have Z:=Q.len S;have hw:=Q.hw;have M:=Q.rh;have s:=Q.rt;have U:=h.w2;have i:Hc c.AI (t+1) {r with b:=r.b.drop (JO r AQ),read:=r.read+JO r AQ}:=by
   refine⟨Q.co,Q.cf,Q.cm,by show r.read+JO r AQ≤r.high;omega,by show r.high≤r.read+JO r AQ+c.AI;omega,λn j=>?_,λ_=>?_,by show r.read+JO r AQ≤1024*(t+1);omega,Q.en,Q.code,Q.st,Q.Km⟩
   ·by_cases N:n<r.read
    ·exact Q.pre n N
    exact q.2.1 n C0 (by have:n<r.read+JO r AQ:=j;omega)
   show(r.b.drop _).length=r.high-(r.read+_);rw[di];omega
  refine(h.mono FT).CE ?_;split
  ·exact⟨i.co,i.cf,i.cm,i.rh,i.hw,i.pre,i.len,i.rt,i.en,i.code,by show 1≤2;omega,(λh=>by cases h)⟩
  exact i
 exact(h.mono FT).CE (Q.mono FT)
def Ac0(h:xs.drop a=ys)(i):Ik xs (a+i)=(ys.getD i 0).toNat:=by
 subst h;unfold Ik;simp only[List.getD,Cx]
def gS(h:xs.drop a=ys)(h0:0<aa ys):a+aa ys=aa xs:=by
 subst h;rw[di]at h0⊢;omega
def Ka(h:xs.drop a=ys++r):xs.drop (a+aa ys)=r:=by
 rw[←Q',h,List.drop_left]
def gw(n):0<aa (AU n):=by
 unfold AU
 repeat' split
 all_goals simp
def KR{n}(G:n≤4611686018427387903)(h:xs.drop a=AU n++r):CP xs a=some (n,a+aa (AU n)):=by
 have q:=Ac0 h;have J:a+aa (AU n++r)=aa xs:=gS h (by have:=gw n;rw[a5];omega);rw[a5]at J;have j:=q 0;rw[kv]at j;unfold AU at q j J⊢;split at J
 ·rename_i O;rw[AJ O]at j⊢;simp at j J⊢;have e:Ik xs a=n:=C0;have Q:DV xs a=1:=by unfold DV;rw[e,show n/64=0 by omega]
  unfold CP;rw[Q,AJ ⟨C0,C0⟩];simp[IK,e];omega
 rename_i O;rw[AF O]at j q⊢;split at J
 ·rename_i U;rw[AJ U]at j q⊢;have C:=q 1;simp at j C J⊢;have e:Ik xs a=n/256+64:=C0;have Q:DV xs a=2:=by unfold DV;rw[e,show(n/256+64)/64=1 by omega]
  unfold CP;rw[Q,AJ ⟨C0,C0⟩];simp[IK,e,C];omega
 rename_i U;rw[AF U]at j q⊢;split at J
 ·rename_i M;rw[AJ M]at j q⊢;have C:=q 1;have Y:=q 2;have K:=q 3;simp at j C Y K J⊢;have e:Ik xs a=n/16777216+128:=C0;have Q:DV xs a=4:=by unfold DV;rw[e,show(n/16777216+128)/64=2 by omega]
  unfold CP;rw[Q,AJ ⟨C0,C0⟩];simp[IK,e,C,Y,K];omega
 rename_i M;rw[AF M]at j q⊢;have C:=q 1;have Y:=q 2;have K:=q 3;have i:=q 4;have F:=q 5;have v:=q 6;have s:=q 7;simp at j C Y K i F v s J⊢;have e:Ik xs a=n/72057594037927936+192:=C0;have Q:DV xs a=8:=by unfold DV;rw[e,show(n/72057594037927936+192)/64=3 by omega]
 unfold CP;rw[Q,AJ ⟨C0,C0⟩];simp[IK,e,C,Y,K,i,F,v,s];omega
def fS{n}(G:n<4)(h:xs.drop a=AU n++r):Hm xs a=some (n,a+aa (AU n)):=by
 unfold Hm;rw[KR C0 h];simp[G]
def xe(G:aa ds≤4611686018427387903)(h:xs.drop a=AU (aa ds)++(ds++r)):Hv xs a=some (ds,a+aa (AU (aa ds))+aa ds):=by
 unfold Hv;rw[KR G h];have U:=Ka h;have M:aa xs-(a+aa (AU (aa ds)))=aa (ds++r):=by rw[←U,di]
 rw[a5]at M;simp only[];rw[AJ C0,U,DD rfl]
def MH(rs:List AS):Nat→Nat→List UInt8
 |_,0=>[]
 |j,n+1=>AU ((rg rs j).lo-(rg rs (j+1)).hi-2)++(AU ((rg rs (j+1)).hi-(rg rs (j+1)).lo)++MH rs (j+1) n)
def aH(rs):∀n j,CF rs j++MH rs j n=CF rs (j+n)
 |0,j=>by simp[MH]
 |n+1,j=>by
  have:=aH rs n (j+1);rw[show j+1+n=j+(n+1) by omega]at this;rw[←this,MH,CF];simp only[c5]
def lA:∀(n j a:Nat),(∀i,i≤j+n→Gc rs i)→xs.drop a=MH rs j n++r→Fl xs n (rg rs j).lo a=some ((List.range n).map (λi=>rg rs (j+1+i)),a+aa (MH rs j n))
 |0,j,a,_,_=>by simp[Fl,MH]
 |n+1,j,a,N,h=>by
  have A:=N j C0;have O:=N (j+1) C0;unfold Gc at A O;rw[Jx]at O;have F:2≤(rg rs j).lo∧(rg rs (j+1)).hi+2≤(rg rs j).lo:=by
   obtain h|h:=O.2.2
   ·omega
   exact h
  rw[MH,c5,c5]at h;have C:=KR C0 h;have Q:=Ka h;have M:=KR C0 Q;have S:=Ka Q;have Z:=lA n (j+1) _ (λi hi=>N i C0) S;have q:(rg rs j).lo-2-((rg rs j).lo-(rg rs (j+1)).hi-2)-((rg rs (j+1)).hi-(rg rs (j+1)).lo)=(rg rs (j+1)).lo:=C0;have s:(rg rs j).lo-2-((rg rs j).lo-(rg rs (j+1)).hi-2)=(rg rs (j+1)).hi:=C0;rw[Fl,C];simp only[];rw[M];simp only[];rw[AJ C0,q,Z,s];simp only[c6.injEq,Prod.mk.injEq];refine⟨?_,by rw[MH,a5,a5];omega⟩;rw[Amf,hP,Al1];refine List.cons_eq_cons.2 ⟨I,Ako λi _=>?_⟩;simp only[Function.comp];rw[show j+1+1+i=j+1+(i+1) by omega]
def ij(rs):(List.range (aa rs)).map (rg rs)=rs:=by
 apply Alj C3;intro i O U;simp[rg,List.getD,c8 U]
def mq(N:Io rs)(J:aa rs≤4611686018427387903)(h:xs.drop a=AU (rg rs 0).hi++AU (aa rs-1)++AU ((rg rs 0).hi-(rg rs 0).lo)++CF rs (aa rs-1)++r):
  EQ xs a=some (rs,a+aa (AU (rg rs 0).hi++AU (aa rs-1)++AU ((rg rs 0).hi-(rg rs 0).lo)++CF rs (aa rs-1))):=by
 have Y:0<aa rs:=kz.2 N.1;have A:=N.2 0 Y;unfold Gc at A;have V:=aH rs (aa rs-1) 0;rw[show CF rs 0=[]from I,l0,Pl]at V;rw[←V]at h⊢;rw[c5,c5,c5]at h;have C:=KR C0 h;have Q:=Ka h;have M:=KR C0 Q;have S:=Ka Q;have j:=KR C0 S;have s:=Ka S;have X:=lA (aa rs-1) 0 _ (λi hi=>N.2 i C0) s;have q:(rg rs 0).hi-((rg rs 0).hi-(rg rs 0).lo)=(rg rs 0).lo:=C0;unfold EQ;rw[C];simp only[];rw[M];simp only[];rw[j];simp only[];rw[AJ C0,q,X];simp only[c6.injEq,Prod.mk.injEq,a5];refine⟨?_,C0⟩
 conv=>rhs;rw[←ij rs,show (aa rs)=(aa rs-1)+1 by omega]
 rw[Amf,hP,Al1];refine List.cons_eq_cons.2 ⟨I,Ako λi _=>?_⟩;simp only[Function.comp];rw[show 0+1+i=i+1 by omega]
def FR(f:Af):Af:=
 if f.kind=1 then⟨1,0,0,0,false,⟨#[]⟩,[]⟩else if f.kind=2 then⟨2,0,0,0,false,⟨#[]⟩,[]⟩
 else if f.kind=3 then⟨3,0,0,0,false,⟨#[]⟩,f.ranges⟩else if f.kind=4 then⟨4,f.stream,f.offset,f.code,false,⟨#[]⟩,[]⟩
 else if f.kind=5 then⟨5,f.stream,f.offset,0,f.fin,f.data,[]⟩else⟨6,0,0,f.code,false,⟨#[]⟩,[]⟩
def WC(h:EV f.kind):f.kind=1∨f.kind=2∨f.kind=3∨f.kind=4∨f.kind=5∨f.kind=6:=by unfold EV at h;omega
def Aaq(h:B4 f):Av (FR f)=Av f:=by
 rcases WC h.2.2.2.2.2 with e|e|e|e|e|e<;>simp[FR,Av,e]
def zA(h:B4 f):B4 (FR f):=by
 obtain⟨O,U,M,Z,⟨X,J⟩,V⟩:=h;obtain e|e|e|e|e|e:=WC V
 ·simp[FR,e,B4,Jk,EV]
 ·simp[FR,e,B4,Jk,EV]
 ·simp[FR,e,B4,Jk,EV,X e]
 ·simp[FR,e,B4,Jk,EV];omega
 ·have:=J e;simp[FR,e,B4,Jk,EV];omega
 simp[FR,e,B4,Jk,EV];omega
def Adj(N:B4 f)(J:aa f.ranges≤4611686018427387903)(h:xs.drop a=Av f++r):FK xs a=some (FR f,a+aa (Av f)):=by
 have W:=zA N
 suffices Z:DG xs (Ef (xs.getD a 0)) (decide (xs.getD a 0=9)) (a+1)=some (FR f,a+aa (Av f)) by
  unfold FK;rw[Z];simp only[];rw[AJ W]
 have hd:∀t ys,Av f=t::ys→xs.getD a 0=t∧xs.drop (a+1)=ys++r:=by
  intro t ys e;rw[e]at h;constructor
  ·have:(xs.drop a).getD 0 0=t:=by rw[h];rfl
   simpa[List.getD,Cx]using this
  rw[←Q',h];rfl
 obtain⟨O,U,A,G,⟨X,v⟩,V⟩:=N;obtain e|e|e|e|e|e:=WC V
 ·have ee:Av f=0:: []:=by simp[Av,e]
  exact jA
 ·have ee:Av f=1:: []:=by simp[Av,e]
  exact jA
 ·have ee:Av f=2::(AU (rg f.ranges 0).hi++AU (aa f.ranges-1)++AU ((rg f.ranges 0).hi-(rg f.ranges 0).lo)++CF f.ranges (aa f.ranges-1)):=by simp[Av,e,MI]
  obtain⟨t1,t2⟩:=hd _ _ ee;have i:=mq (X e) J t2;rw[t1,ee,f'];simp only[DG,Ef,FR,e];simp only[i];simp;omega
 ·have ee:Av f=4::(AU f.stream.toNat++AU f.code++AU f.offset):=by simp[Av,e]
  obtain⟨t1,t2⟩:=hd _ _ ee;rw[c5,c5]at t2;have C:=fS C0 t2;have Q:=Ka t2;have M:=KR U Q;have S:=Ka Q;have q:=KR O S;rw[t1,ee,f',a5,a5];simp only[DG,Ef,FR,e];simp only[C,M,q];simp;omega
 ·have s:aa f.data.data.toList=f.data.size:=by rw[Ajk];rfl
  have ee:Av f=(bif f.fin then 9 else 8)::(AU f.stream.toNat++AU f.offset++AU f.data.size++f.data.data.toList):=by simp[Av,e]
  obtain⟨t1,t2⟩:=hd _ _ ee;rw[c5,c5,c5,←s]at t2;have C:=fS C0 t2;have Q:=Ka t2;have M:=KR O Q;have S:=Ka Q;have j:=v e;have q:=xe C0 S;have Z:Ef (bif f.fin then 9 else 8)=5:=by cases f.fin<;>rfl
  have F:decide ((bif f.fin then(9:UInt8)else 8)=9)=f.fin:=by cases f.fin<;>rfl
  rw[t1,ee,Z,F,f',a5,a5,a5];simp only[DG,FR,e];simp only[C,M,q];simp[BR];omega
 have ee:Av f=28::AU f.code:=by simp[Av,e]
 obtain⟨t1,t2⟩:=hd _ _ ee;have C:=KR U t2;rw[t1,ee,f'];simp only[DG,Ef,FR,e];simp only[C];simp;omega
def Sw(f):0<aa (Av f):=by
 unfold Av
 repeat' split
 all_goals first|simp|(unfold MI;simp)
def eE:∀(fs:List Af) (a:Nat),(∀f∈fs,B4 f∧aa f.ranges≤4611686018427387903)→xs.drop a=Bk fs→GF xs a=.ok (fs.map FR)
 |[],a,_,h=>by
  have:aa xs≤a:=List.drop_eq_nil_iff.1 h;exact VW C0
 |f::fs,a,N,h=>by
  have V:xs.drop a=Av f++Bk fs:=h;have O:=Adj (N f C3).1 (N f C3).2 V;have i:=Sw f;have J:=gS V lX;rw[a5]at J;rw[YZ C0 O,eE fs _ (λg hg=>N g Cs) (Ka V)];rfl
def pf{fs:List Af}(N:G4 fs=some ys)(J:∀f∈fs,aa f.ranges≤4611686018427387903):Eb ys=.ok (fs.map FR)∧G4 (fs.map FR)=some ys∧Bk (fs.map FR)=Bk fs:=by
 unfold G4 at N;split at N
 ·rename_i W;obtain rfl:=c6.inj N;have F:∀f∈fs,B4 f∧aa f.ranges≤4611686018427387903:=λf V=>⟨W.2 f V,J f V⟩
  have i:Bk (fs.map FR)=Bk fs:=by
   unfold Bk;rw[List.flatMap_map];clear N F J;obtain⟨-,W⟩:=W
   induction fs with
   |nil=>rfl
   |cons f fs Z=>simp only[N2];rw[Aaq (W f C3),Z (λg hg=>W g Cs)]
  have Y:Bk fs≠ []:=by
   cases fs with
   |nil=>exact absurd I W.1
   |cons f fs=>
    intro h;have j:=Sw f;have:aa (Av f++Bk fs)=0:=by rw[show Av f++Bk fs=Bk (f::fs)from I,h];rfl
    rw[a5]at this;omega
  refine⟨?_,?_,i⟩
  ·unfold Eb;rw[AF Y];exact eE fs 0 F I
  unfold G4;rw[AJ ⟨by simpa using W.1,λg hg=>by
   obtain⟨f,V,rfl⟩:=g9.1 hg;exact zA (W.2 f V)⟩,i]
 cases N
def Wj(l m):Bk (l++m)=Bk l++Bk m:=by simp[Bk]
def Mt(f):Bk [f]=Av f:=by simp[Bk]
def gM(l):aa l≤aa (Bk l):=by
 induction l with
 |nil=>simp
 |cons f l Z=>have:=Sw f;simp only[Bk,N2,a5,f']at*;omega
structure QX(ws:List At)(f:Af):Prop where
 ok:B4 f
 nm:FR f=f
 fr:F8 ws f
 rg:f.ranges.length≤8
structure LP(ws:List At)(d:B9):Prop where
 room:d.room≤284
 len:d.b.length≤d.room
 fr:∀f∈d.A7,QX ws f
structure K7(w w':At):Prop where
 b:w'.b=w.b
 AG:w'.AG=w.AG
 finished:w'.finished=w.finished
 ended:w'.ended=w.ended
 given:w'.given=w.given
 code:w'.code=w.code
 high:w.high≤w'.high
def K7.refl(w):K7 w w:=⟨I,I,I,I,I,I,er _⟩
def K7.trans{a b c}(h:K7 a b)(g:K7 b c):K7 a c:=
 ⟨g.b.trans h.b,g.AG.trans h.AG,g.finished.trans h.finished,g.ended.trans h.ended,g.given.trans h.given,g.code.trans h.code,k9 h.high g.high⟩
def Ml(w w':At)(k:Nat)(f:Af):Prop:=
 (w.given=true∧w.ES=false∧f=Iv k w.code w.high∧w'={w with ES:=true})∨
 (w.given=false∧∃lo hi,lo≤hi∧hi≤aa w.b∧f=CU k lo (w.finished&&decide (hi=aa w.b)) (cut w.b lo hi)∧(lo<hi∨f.fin=true)∧
  (∀n,lo≤n→n<hi→¬BD n w.AM.l)∧(lo=hi→w.ending=false∧w.ended=false)∧
  w'={w with AM:=if lo<hi then w.AM.add lo (hi-1)else w.AM,ending:=w.ending||f.fin,high:=max w.high hi})
def PI{b:List UInt8}(h:hi≤aa b):aa (cut b lo hi)=hi-lo:=by unfold cut;simp;omega
def zL{AI:Nat}(j:lo≤hi)(V:hi≤aa w.b)(S:w.given=false)(C:∀n,lo≤n→n<hi→¬BD n w.AM.l)(N:lo=hi→w.finished=true∧hi=aa w.b∧w.ending=false∧w.ended=false)(h:w.NG d k lo hi=some (w',d')):∃f,d.add f=some d'∧Ml w w' k f:=by
 unfold At.NG at h;dsimp only at h;split at h
 ·cases h
 rename_i W;split at h
 ·cases h
 rename_i d2 e;simp only[c6.injEq,Prod.mk.injEq]at h;obtain⟨rfl,rfl⟩:=h;refine⟨_,e,.inr ⟨S,lo,_,?_,?_,I,?_,?_,?_,I⟩⟩
 ·omega
 ·omega
 ·by_cases J:lo<hi
  ·left;omega
  right;obtain⟨O,U,_⟩:=N C0;have:min hi (lo+(d.room-aa d.b-(aa (Av (CU k lo false (cut w.b lo hi)))-(hi-lo))))=aa w.b:=C0;show(w.finished&&decide _)=true;rw[O,this];simp
 ·intro n O U;exact C n O C0
 intro O;by_cases J:lo<hi
 ·omega
 exact(N C0).2.2
def yT(hw:Fd AI w)(h:w.fill d k=some (w',d')):∃f,d.add f=some d'∧Ml w w' k f:=by
 unfold At.fill at h;split at h
 ·rename_i hg;split at h
  ·cases h
  rename_i ht;split at h
  ·cases h
  rename_i d2 e;simp only[c6.injEq,Prod.mk.injEq]at h;obtain⟨rfl,rfl⟩:=h;exact⟨_,e,.inl ⟨hg,Mf,I,I⟩⟩
 rename_i hg;obtain⟨q,i,j,s,v⟩:=Ic w.AM.l 0 (aa w.b) hw.so.inc Du;split at h
 ·split at h
  ·cases h
  rename_i O U;exact zL (AI:=AI) Dz Dz R1 (λn M Z=>by omega) (λ_=>⟨by simp_all,I,by simp_all,by simp_all⟩) h
 rename_i O;exact zL (AI:=AI) C0 j R1 (s C0) (λh=>by omega) h
def Ac2(rs):FR (Fo rs)=Fo rs:=by rfl
def On(k off fin)(ds:List UInt8):(CU k off fin ds).data.size=aa ds:=by simp[CU]
def Y1{off fin}(Z:k<4)(h:off+aa ds≤4611686018427387903):B4 (CU k off fin ds):=by
 refine⟨by show off≤_;omega,bk _,R8,TM,⟨(λh=>by cases h),λ_=>?_⟩,⟨by show(1:Int)≤5;omega,by show(5:Int)≤6;omega⟩⟩;rw[On];show (aa ds)+off≤_;omega
def rY{code off}(Z:k<4)(W:code≤4611686018427387903)(Q:off≤4611686018427387903):B4 (Iv k code off):=
 ⟨Q,W,R8,TM,⟨(λh=>by cases h),(λh=>by cases h)⟩,⟨by show(1:Int)≤4;omega,by show(4:Int)≤6;omega⟩⟩
def bH{code}(W:code≤4611686018427387903):B4 (DX code):=
 ⟨bk _,W,by show(0:Int)≤0;omega,by show(0:Int)<4;omega,⟨(λh=>by cases h),(λh=>by cases h)⟩,⟨by show(1:Int)≤6;omega,by show(6:Int)≤6;omega⟩⟩
def vB(h:Io rs):B4 (Fo rs):=
 ⟨bk _,bk _,by show(0:Int)≤0;omega,by show(0:Int)<4;omega,⟨λ_=>h,(λh=>by cases h)⟩,⟨by show(1:Int)≤3;omega,by show(3:Int)≤6;omega⟩⟩
def Ml.AM(hw:Fd AI w)(h:Ml w w' k f):K7 w w'∧Fd AI w':=by
 obtain⟨O,U,rfl,rfl⟩|⟨O,lo,hi,U,M,rfl,Z,X,J,rfl⟩:=h
 ·exact⟨⟨I,I,I,I,I,I,er _⟩,⟨hw.len,hw.so,hw.sf,hw.sm,hw.co,hw.cf,hw.cm,hw.room,hw.high,hw.code⟩⟩
 refine⟨⟨I,I,I,I,I,I,Ami _ _⟩,?_⟩;have C:Dg (if lo<hi then w.AM.add lo (hi-1)else w.AM) (aa w.b)∧(if lo<hi then w.AM.add lo (hi-1)else w.AM).floor=0∧(if lo<hi then w.AM.add lo (hi-1)else w.AM).AQ=4096:=by
  split
  ·obtain⟨a,b,c,_⟩:=Mj (lo:=lo) (hi:=hi-1) hw.so hw.sf hw.sm hw.len C0;exact⟨a,b,c⟩
  exact⟨hw.so,hw.sf,hw.sm⟩
 exact⟨hw.len,C.1,C.2.1,C.2.2,hw.co,hw.cf,hw.cm,hw.room,by have:=hw.high;show max w.high hi≤aa w.b;omega,hw.code⟩
def Ml.put(hw:El AI ws)(Z:k<4)(h:Ml (ws.getD k BO) w' k f):QX ws f∧(f.kind=4∨f.kind=5):=by
 have g:=hw.ok k Z;obtain⟨O,U,rfl,rfl⟩|⟨O,lo,hi,U,M,rfl,j,X,q,rfl⟩:=h
 ·have Y:=g.high;have J:=g.len;exact⟨⟨rY Z g.code C0,I,⟨R8,TM,(λh=>by cases h)⟩,bk _⟩,.inl I⟩
 have J:=g.len;have i:=PI (lo:=lo) M;refine⟨⟨Y1 Z C0,I,⟨R8,TM,λ_=>?_⟩,bk _⟩,.inr I⟩;rw[On,i];show lo+(hi-lo)≤(ws.getD (k:Int).toNat BO).b.length;rw[dz];omega
def QX.AM(h:QX ws f)(C:K7 (ws.getD k BO) w'):QX (ws.set k w') f:=
 ⟨h.ok,h.nm,F8.set (by rw[C.b];exact er _) f h.fr,h.rg⟩
def nS(h:d.add f=some d'):d'.A7=d.A7++[f]∧d'.room=d.room∧d'.b=d.b++Av f∧aa d'.b≤d.room:=by
 unfold B9.add at h;split at h
 ·cases h
 rename_i W;cases h;refine⟨I,I,?_,?_⟩
 ·show Bk (d.A7++[f])=_;rw[Wj,Mt];rfl
 have:({d with A7:=d.A7++[f]}:B9).b=d.b++Av f:=by show Bk (d.A7++[f])=_;rw[Wj,Mt];rfl
 rw[this];omega
def Yc(hw:El AI ws)(F:LP ws d)(Z:k<4)(h:(ws.getD k BO).fill d k=some (w',d')):
  El AI (ws.set k w')∧LP (ws.set k w') d'∧d'.room=d.room∧aa d.b<aa d'.b∧K7 (ws.getD k BO) w'∧
  ∃f,d'.A7=d.A7++[f]∧Ml (ws.getD k BO) w' k f∧(f.kind=4∨f.kind=5):=by
 obtain⟨f,O,U⟩:=yT (hw.ok k Z) h;obtain⟨M,i⟩:=U.AM (hw.ok k Z);obtain⟨X,J⟩:=U.put hw Z;obtain⟨a,b,c,e⟩:=nS O;refine⟨hw.set i,⟨by rw[b];exact F.room,by rw[b];exact e,λg S=>?_⟩,b,?_,M,f,a,U,J⟩
 ·rw[a]at S;obtain S|S:=j2.1 S
  ·exact(F.fr g S).AM M
  rw[g5.1 S];exact X.AM M
 rw[c,a5];have:=Sw f;omega
def Z8(j:At→B9→Prop)(i:∀w d w' d',j w d→w.fill d k=some (w',d')→j w' d'):∀(n:Nat) (w:At) (d:B9),j w d→j (HR k n w d).1 (HR k n w d).2
 |0,w,d,h=>h
 |n+1,w,d,h=>by
  rw[HR];split
  ·exact h
  rename_i Y d2 e;exact Z8 j i n Y d2 (i _ _ _ _ h e)
def m8(l:List α)(k)(x y:α):(l.set k x).set k y=l.set k y:=by simp
def Xu(ws:List At)(k):ws.set k (ws.getD k BO)=ws:=by
 apply Alx;intro i;rw[Ajx];by_cases h:k=i
 ·subst h;by_cases U:k<aa ws
  ·simp[U]
  simp[U]
 simp[h]
def ZH(j:List At→B9→Prop)(J:∀ws d,j ws d→aa ws=4)(i:∀ws d k w' d',j ws d→k<4→(ws.getD k BO).fill d k=some (w',d')→j (ws.set k w') d'):
  ∀(n k:Nat) (ws:List At) (d:B9),k+n≤4→j ws d→j (Fv d ws k n).1 (Fv d ws k n).2
 |0,k,ws,d,_,h=>h
 |n+1,k,ws,d,q,h=>by
  rw[Fv];refine ZH j J i n (k+1) _ _ C0 ?_;have:=Z8 (k:=k) (λw d=>j (ws.set k w) d) (λw d w' d' O U=>?_) (d.room+1) (ws.getD k BO) d (by rw[Xu];exact h)
  ·exact this
  have M:=J _ _ O;have Z:(ws.set k w).getD k BO=w:=by rw[Gi,AJ ⟨I,by rw[n5]at M;omega⟩]
  have X:=i (ws.set k w) d k w' d' O C0 (by rw[Z];exact U);rw[m8]at X;exact X
structure Told(l:List AS):Prop where
 p:l.Pairwise (λa b=>b.hi+2≤a.lo)
 r:∀r∈l,r.lo≤r.hi∧r.hi≤4611686018427387903
def Told.nil:Told []:=⟨.nil,λ_ h=>nomatch h⟩
def Told.take(h:Told l)(n):Told (l.take n):=⟨h.p.sublist (List.take_sublist n l),λr Y=>h.r r (Gp Y)⟩
def Told.drop(h:Told l)(n):Told (l.drop n):=⟨h.p.sublist (List.drop_sublist n l),λr Y=>h.r r (Amr Y)⟩
def I3{i}(h:i<aa l):rg l i=l[i]:=by
 unfold rg;rw[ek,c8 h,Option.getD_some]
def Told.Io(h:Told l)(Y:l≠ []):Io l:=by
 refine⟨Y,λi hi=>?_⟩;have O:=h.r (rg l i) (by rw[I3 hi];exact rv hi);refine⟨O.1,O.2,?_⟩;by_cases A:i=0
 ·exact .inl A
 right;have U:=List.pairwise_iff_getElem.1 h.p (i-1) i C0 hi C0;rw[I3 hi,I3 (show i-1<(aa l) by omega)];exact⟨C0,U⟩
def lK:∀(l:List AS),EC l→l.Pairwise (λa b=>a.hi+2≤b.lo)
 |[],_=>.nil
 |r::l,h=>List.Pairwise.cons (λs C=>by have:=h.2.1 s C;omega) (lK l h.2.2)
def Zm:∀(l:List AS),EC l→∀r∈l,r.lo≤r.hi
 |[],_,r,Y=>nomatch Y
 |s::l,h,r,Y=>by
  obtain rfl|Y:=j1.1 Y
  ·exact h.1
  exact Zm l h.2.2 r Y
def Told.of{s:Ba}(h:Dg s 4611686018427387904):Told s.l.reverse:=
 ⟨List.pairwise_reverse.2 (lK _ h.inc),λr Y=>by
  have X:=Am6.1 Y;have:=h.hi r X;exact⟨Zm _ h.inc r X,C0⟩⟩
def US(told room):∀n,0<n→0<GK told room n
 |0,h=>h
 |1,_=>Nat.one_pos
 |n+2,_=>by
  rw[GK];split
  ·exact US told room (n+1) C0
  omega
def eA(told:List AS)(room):∀n,GK told room n≤1∨aa (Av (Fo (told.take (GK told room n))))≤room
 |0=>.inl Du
 |1=>.inl Dz
 |n+2=>by
  rw[GK];split
  ·exact eA told room (n+1)
  rename_i h;right;omega
def Aba(r):aa (Av (Fo [r]))≤26:=by
 have X:=DS r.hi;have h:=DS 0;have J:=DS (r.hi-r.lo);have:Av (Fo [r])=[2]++AU r.hi++AU 0++AU (r.hi-r.lo)++[]:=by rfl
 rw[this];simp only[a5,f',ss];omega
def Agc(h:0<aa l):∃r,l.take 1=[r]:=by
 cases l with
 |nil=>cases h
 |cons r l=>exact⟨r,I⟩
def kI(h:Aq t c)(Y:told≠ []):aa (Av (Fo (told.take (GK told (c.AV-16) (aa told)))))≤c.AV-16:=by
 have J:0<aa told:=kz.2 Y;obtain O|O:=eA told (c.AV-16) (aa told)
 ·have U:=US told (c.AV-16) (aa told) J;have M:GK told (c.AV-16) (aa told)=1:=C0;rw[M];obtain⟨r,e⟩:=Agc J;rw[e];have:=Aba r;have:=h.m1;omega
 exact O
def WJ(h:Aq t c)(ht:Told told)(J:aa told≤8):LP c.ws (c.Fs told):=by
 have W:=h.m2;refine⟨by show c.AV-16≤284;omega,?_,?_⟩
 ·show(Bk _).length≤c.AV-16;unfold Fs;dsimp only;split
  ·exact bk _
  rename_i Y;rw[Mt];exact kI h Y
 intro f V;unfold Fs at V;dsimp only at V;split at V
 ·cases V
 rename_i Y;rw[g5.1 V];have O:0<aa told:=kz.2 Y;have U:=US told (c.AV-16) (aa told) O;refine⟨vB ((ht.take _).Io ?_),Ac2 _,⟨by show(0:Int)≤0;decide,by show(0:Int)<4;decide,(λh=>by cases h)⟩,?_⟩
 ·intro M;have Z:=congrArg List.length M;rw[hZ,ss]at Z;omega
 show(told.take _).length≤8;rw[hZ];omega
structure LZ(AI:Nat)(ws0:List At)(d0:B9)(ws:List At)(d:B9):Prop where
 PN:El AI ws
 LA:LP ws d
 room:d.room=d0.room
 AM:∀k,K7 (ws0.getD k BO) (ws.getD k BO)
 A7:∃l,d.A7=d0.A7++l∧∀f∈l,f.kind=4∨f.kind=5
def LZ.refl(hw:El AI ws)(F:LP ws d):LZ AI ws d ws d:=
 ⟨hw,F,I,λk=>.refl _,[],(g8 _).symm,λ_ h=>nomatch h⟩
def LZ.step{i d0}(h:LZ AI i d0 ws d)(Z:k<4)(e:(ws.getD k BO).fill d k=some (w',d')):LZ AI i d0 (ws.set k w') d'∧aa d.b<aa d'.b:=by
 obtain⟨O,U,q,s,X,f,J,V,G⟩:=Yc h.PN h.LA Z e;refine⟨⟨O,U,q.trans h.room,λj=>?_,?_⟩,s⟩
 ·rw[Gi];split
  ·rename_i M;exact(h.AM j).trans (by rw[←M.1];exact X)
  exact h.AM j
 obtain⟨l,C,M⟩:=h.A7;refine⟨l++[f],by rw[J,C,c5],λg S=>?_⟩;obtain S|S:=j2.1 S
 ·exact M g S
 rw[g5.1 S];exact G
def zk(hw:El AI ws)(F:LP ws d):LZ AI ws d (Fv d ws 0 4).1 (Fv d ws 0 4).2:=
 ZH (LZ AI ws d) (λi d' h=>h.PN.len) (λi d' k w' d2 h Z e=>(h.step Z e).1) 4 0 ws d Dz (.refl hw F)
def By.mu(z:By):Nat:=aa z.told+(10-aa z.c.Bp)
structure Es(t:Nat)(z:By):Prop where
 c:Aq t z.c
 told:Told z.told
 tl:z.told.length≤8
 nx:z.c.next+z.mu≤20*t
def Es.filled{z:By}(h:Es t z):LZ z.c.AI z.c.ws (z.c.Fs z.told) z.filled.1 z.filled.2:=by
 unfold By.filled;split
 ·exact zk h.c.ws (WJ h.c h.told h.tl)
 exact .refl h.c.ws (WJ h.c h.told h.tl)
def Es.stop{z:By}(h:Es t z):Aq t {z.c with ws:=z.filled.1}:=by
 have V:=h.filled;exact h.c.cQ V.PN λf N=>⟨N.1,N.2.1,λZ=>by
  have:=N.2.2 Z;rw[(V.AM f.stream.toNat).b];exact this⟩
def kM(c:AO):(c.Fs []).A7=[]:=rfl
def mH(c:AO)(h:told≠ []):(c.Fs told).A7=[Fo (told.take (GK told (c.AV-16) (aa told)))]:=by
 unfold Fs;rw[AF h]
def fx(c:AO)(told):E9 (c.Fs told).A7=false:=by
 unfold Fs;dsimp only;split
 ·rfl
 rfl
def Es.bG{z:By}(h:Es t z)(hw:E9 z.filled.2.A7=true):aa z.c.Bp<10:=by
 by_cases W:aa z.c.Bp<10
 ·exact W
 exfalso;have:z.filled=(z.c.ws,z.c.Fs z.told):=by unfold By.filled;rw[AF W]
 rw[this,fx]at hw;cases hw
def fy(l):aa l≤aa (Bk l):=gM l
def Es.step{z:By}(h:Es t z)(Y:z.filled.2.A7≠ []):Es t z.step∧z.step.mu<z.mu:=by
 have V:=h.filled;have hs:=h.stop;have W:=h.c;have i:z.step.mu+1≤z.mu:=by
  have U:aa z.step.told+(if z.told=[]then 0 else 1)≤aa z.told:=by
   show(z.told.drop _).length+_≤_;rw[di];split
   ·omega
   rename_i O;have v:=kz.2 O;have M:=US z.told (z.c.AV-16) (aa z.told) v;omega
  unfold By.mu;by_cases X:E9 z.filled.2.A7=true
  ·have K:=h.bG X;have F:aa z.step.c.Bp=aa z.c.Bp+1:=by
    show(if E9 z.filled.2.A7=true then _ else _:List FQ).length=_;rw[AJ X,a5];rfl
   rw[F];omega
  have F:aa z.step.c.Bp=aa z.c.Bp:=by
   show(if E9 z.filled.2.A7=true then _ else _:List FQ).length=_;rw[AF X]
  have j:z.told≠ []:=by
   intro A;obtain⟨l,C,Q⟩:=V.A7;rw[A,kM,l0]at C;cases s:l with
   |nil=>rw[s]at C;exact Y C
   |cons f l'=>
    apply X;rw[C,s];have:=Q f (by rw[s];simp);simp only[E9,List.any_cons,Alo,decide_eq_true_eq];left;rcases this with h|h<;>rw[h]<;>decide
  rw[AF j]at U;rw[F];omega
 have S:=h.nx;have G:aa z.filled.2.A7≤284:=by
  have O:=fy z.filled.2.A7;have v:=V.LA.len;have M:=V.LA.room;have h4:aa z.filled.2.b=aa (Bk z.filled.2.A7):=rfl;omega
 refine⟨⟨?_,h.told.drop _,?_,?_⟩,i⟩
 ·by_cases X:E9 z.filled.2.A7=true
  ·have K:=h.bG X;have e:z.step.c={z.c with ws:=z.filled.1,next:=z.c.next+1,Bp:=z.c.Bp++[⟨z.c.next,z.c.now,z.filled.2.A7⟩]}:=by
    refine jL ?_;rw[AJ X]
   rw[e];refine {hs with fl:=?_,BF:=?_,cnt:=?_,nx:=?_,lg:=?_}
   ·show(z.c.Bp++[_]).length≤10;rw[a5];simp only[mz];omega
   ·intro p J;show YQ (z.c.next+1) z.c.now z.filled.1 p;have q:∀p,p∈z.c.Bp∨p∈z.c.lost→YQ (z.c.next+1) z.c.now z.filled.1 p:=λp J=>
     let g:=hs.BF p J
     ⟨Al8 g.num,g.at_,g.len,g.fr⟩
    obtain J|J:=J
    ·obtain J|J:=j2.1 J
     ·exact q p (.inl J)
     rw[g5.1 J];exact⟨Nat.lt_succ_self _,er _,by show (aa z.filled.2.A7)≤300;omega,λf N=>(V.LA.fr f N).fr⟩
    exact q p (.inr J)
   ·show(z.c.Bp++[_]).length+aa z.c.lost≤z.c.next+1
    have:=W.cnt;rw[a5];simp only[mz];omega
   ·show z.c.next+1≤20*t;omega
   show z.c.CB≤z.c.next+1
   have:=W.lg;omega
  have e:z.step.c={z.c with ws:=z.filled.1,next:=z.c.next+1}:=by
   refine jL ?_;rw[AF X]
  rw[e];refine {hs with BF:=?_,cnt:=?_,nx:=?_,lg:=?_}
  ·intro p J;have g:=hs.BF p J;exact⟨Al8 g.num,g.at_,g.len,g.fr⟩
  ·show (aa z.c.Bp)+aa z.c.lost≤z.c.next+1
   have:=W.cnt;omega
  ·show z.c.next+1≤20*t;omega
  show z.c.CB≤z.c.next+1
  have:=W.lg;omega
 ·show(z.told.drop _).length≤8;have:=h.tl;rw[di];omega
 show z.c.next+1+z.step.mu≤20*t;omega
def eW:∀(n:Nat) (z:By),Es t z→z.mu<n→EN n z=EN (n+1) z
 |0,z,_,h=>absurd h (Aje _)
 |n+1,z,h,G=>by
  rw[EN]
  conv=>rhs;rw[EN]
  split
  ·rfl
  rename_i Y;obtain⟨O,U⟩:=h.step Y;exact eW n _ O C0
def Z_{z:By}(h:Es t z)(Y:z.filled.2.A7≠ []):EN 40 z=EN 40 z.step:=by
 obtain⟨O,U⟩:=h.step Y;have i:z.mu≤18:=by have:=h.tl;unfold By.mu;omega
 rw[EN,AF Y];exact eW 39 _ O C0
def Afv{z:By}(e:z.filled.2.A7=[]):EN 40 z={z with c:={z.c with ws:=z.filled.1}}:=by
 rw[EN,AJ e]
def gT:∀(n:Nat) (z:By),Es t z→Aq t (EN n z).c
 |0,z,h=>h.c
 |n+1,z,h=>by
  rw[EN];split
  ·exact h.stop
  rename_i Y;exact gT n _ (h.step Y).1
def Es.begin(h:Aq t c):Es (t+1) ⟨{c with answer:=false},if c.answer then c.AR.l.reverse else [],[]⟩:=by
 have G:=h.nx;have i:aa c.AR.l≤8:=by have:=h.AR.len;rw[h.gm]at this;exact this
 have W:=h.mono FT;refine⟨{W with},?_,?_,?_⟩
 ·show Told (if c.answer=true then c.AR.l.reverse else []);split
  ·exact Told.of h.AR
  exact Told.nil
 ·show(if c.answer=true then c.AR.l.reverse else []).length≤8;split
  ·rw[Amz];exact i
  exact bk _
 show c.next+(aa (if c.answer=true then c.AR.l.reverse else [])+(10-aa c.Bp))≤20*(t+1)
 have:aa (if c.answer=true then c.AR.l.reverse else [])≤8:=by
  split
  ·rw[Amz];exact i
  exact bk _
 omega
def Aq.Df(h:Aq t c):Aq (t+1) c.Df.2:=by
 have hm:=h.mono FT;have G:=h.nx;unfold AO.Df;split
 ·exact hm
 refine {hm with BF:=?_,cnt:=?_,nx:=?_,lg:=?_}
 ·intro p J;have g:=hm.BF p J;exact⟨Al8 g.num,g.at_,g.len,g.fr⟩
 ·show (aa c.Bp)+aa c.lost≤c.next+1
  have:=h.cnt;omega
 ·show c.next+1≤20*(t+1);omega
 show c.CB≤c.next+1
 have:=h.lg;omega
def Aq.BA(h:Aq t c):Aq (t+1) c.BA.2:=by
 unfold AO.BA;split
 ·exact h.Df
 exact gT 40 _ (Es.begin h)
def iE(hk:k<4):∀(n:Nat) (ws:List At) (w:At) (d:B9),El AI ws→ws.getD k BO=w→LP ws d→d.room-aa d.b<n→HR k n w d=HR k (n+1) w d
 |0,ws,w,d,_,_,_,h=>absurd h (Aje _)
 |n+1,ws,w,d,hw,N,F,G=>by
  rw[HR]
  conv=>rhs;rw[HR]
  cases e:w.fill d k with
  |none=>rfl
  |some z=>
   obtain⟨Y,d2⟩:=z;dsimp only;rw[←N]at e;obtain⟨O,U,h3,Z,_⟩:=Yc hw F hk e;have h5:=U.len;refine iE hk n (ws.set k Y) Y d2 O ?_ U aS;rw[Gi,AJ ⟨I,TJ⟩]
def Aa4(hk:k<4){w2}{d2:B9}(hw:El AI ws)(F:LP ws d)(e:(ws.getD k BO).fill d k=some (w2,d2)):
  HR k (d.room+1) (ws.getD k BO) d=HR k (d2.room+1) w2 d2:=by
 obtain⟨O,U,h3,Z,_⟩:=Yc hw F hk e;rw[HR,e];dsimp only;have h5:=U.len;rw[h3];exact iE hk d.room (ws.set k w2) w2 d2 O (by rw[Gi,AJ ⟨I,TJ⟩]) U aS
def ie{n}(e:w.fill d k=none):HR k n w d=(w,d):=by
 cases n with
 |zero=>rfl
 |succ n=>rw[HR,e]
section
variable{B:World}
abbrev BI(f:Nat)(us:List Value):Value:=.func (.func f) #[] us.toArray
structure DO where
 p:Option Addr
 b:Nat
 o:Nat
 c:Nat
 s:List Value
def AK(q:Nat)(a:DO)(z:Ba):HP:=AA q 0 [.slice a.p (aa z.l) a.c,uN z.floor,iN z.AQ]*AC a.b a.o z.l a.s
def DO.ok(a:DO)(z:Ba):Prop:=Sl a.p a.b a.o (aa z.l) a.c∧aa z.l*2+aa a.s=a.c*2
class Gy(B:World)(H:HP)(q:Nat)(a:outParam DO)(z:outParam Ba):Prop where
 l:Rd B H q 0 (.slice a.p z.l.length a.c) True
 f:Rd B H q (0+1) (uN z.floor) True
 r:AZ B H a.b a.o z.l
instance(q:Nat)(a:DO)(z:Ba):Gy B (AK q a z) q a z:=by
 unfold AK;exact⟨AH,AH,AH⟩
instance(q:Nat)(a:DO)(z:Ba)(A C:HP)[h:Gy B A q a z]:Gy B (A*C) q a z:=let _:=h.l;let _:=h.f;let _:=h.r;⟨AH,AH,AH⟩
instance(q:Nat)(a:DO)(z:Ba)(A C:HP)[h:Gy B C q a z]:Gy B (A*C) q a z:=let _:=h.l;let _:=h.f;let _:=h.r;⟨AH,AH,AH⟩
def JX{P:AS→Prop}(h:∀r∈l,P r)(i)(hi:i<aa l):P (rg l i):=by
 unfold rg;rw[ek,c8 hi];exact h _ (rv hi)
def Xx(n:Nat)(f:FuncId)(us:List Value)(p:Nat→Prop)[DecidablePred p](H:HP)[Aa prog f](G:n<4611686018427387904)(hmono:∀i j,i≤j→j<n→p i→p j)
  (hf:∀i,i<n→Fn prog B f (iN i::us) H (λv S=>v=.bool (decide (p i))∧S=H)):
  Fn prog B 173 [iN n,BI f us] H (λv S=>∃k,v=iN k∧k≤n∧(∀i,i<k→¬p i)∧(∀i,k≤i→i<n→p i)∧S=H):=by
 refine mI func173 ?_;refine FM ?_;refine Bf (α:=Nat×Nat) (λz=>[(0,iN n),(1,BI f us),(5,iN z.1),(6,iN z.2)]) (λ_=>H) (λz=>z.1≤z.2∧z.2≤n∧(∀i,i<z.1→¬p i)∧(∀i,z.2≤i→i<n→p i)) (λz=>z.2-z.1) (0,n) ⟨bk _,er _,(λi h=>absurd h (Aje i)),(λi O h2=>by omega)⟩ DJ I ?_;rintro⟨i,j⟩ ⟨O,h2,h3,h4⟩;refine J8 ?_;refine mC (λW=>?_) (λW=>?_)
 ·refine BQ ?_;refine JL (L7 (j:=1) I I C0)<|Be ?_;refine Ae (HD I I (hf _ C0)) I<|Hb ?_;refine mC (λh5=>?_) (λh5=>?_)
  ·refine DE ?_;exact tC
  refine J5 ?_;exact tC
 refine Fi ?_;exact mr [4] I I ⟨i,I,C0,h3,(λk hk1 hk2=>h4 k C0 hk2),I⟩
def E! (F h q n i:Nat)(a:DO)(z:Ba)(H:HP)[h1:Rd B H F 0 (ptr q 0) True][h2:Rd B H h 0 (uN n) True][hz:Gy B H q a z](C:a.ok z)(hi:i<aa z.l):
  Fn prog B 174 [iN i,ptr F 0,ptr h 0] H (λv S=>v=.bool (decide (n≤(rg z.l i).hi))∧S=H):=by
 have:=hz.l;have:=hz.r;have hsl:=C.1;refine mI func174 ?_;refine J6 ?_;refine mA 11 11 ?_;refine Wz ?_;refine JT 7 I Yh<|DE ?_;exact Pt
def kq(F h q n i:Nat)(a:DO)(z:Ba)(H:HP)[h1:Rd B H F 0 (ptr q 0) True][h2:Rd B H h 0 (uN n) True][hz:Gy B H q a z](C:a.ok z)(hi:i<aa z.l)(G:n<4611686018427387904):
  Fn prog B 179 [iN i,ptr F 0,ptr h 0] H (λv S=>v=.bool (decide (n≤(rg z.l i).hi+1))∧S=H):=by
 have:=hz.l;have:=hz.r;have hsl:=C.1;refine mI func179 ?_;refine J6 ?_;refine mA 24 24 ?_;refine Wz ?_;refine JT 7 I Yh<|A5 ?_;refine D4 15 I (λhg1=>?_) (λhg1=>?_)
 ·refine E6 ?_;exact To
 refine DE ?_;refine JY 17 I F1 N'<|A4 ?_;refine JY 19 I F1 Yh<|A4 ?_;refine JY 21 I F1 (Dy (j:=1) I I)<|BB ?_;exact To
def Aer(F h q n i:Nat)(a:DO)(z:Ba)(H:HP)[h1:Rd B H F 0 (ptr q 0) True][h2:Rd B H h 0 (uN n) True][hz:Gy B H q a z](C:a.ok z)(hi:i<aa z.l)(J:(rg z.l i).lo<4611686018427387904):
  Fn prog B 180 [iN i,ptr F 0,ptr h 0] H (λv S=>v=.bool (decide (n+1<(rg z.l i).lo))∧S=H):=by
 have:=hz.l;have:=hz.r;have hsl:=C.1;refine mI func180 ?_;refine J6 ?_;refine mA 24 24 ?_;refine Wz ?_;refine JT 7 I WN<|A5 ?_;refine D4 15 I (λhg1=>?_) (λhg1=>?_)
 ·refine BB ?_;refine JY 16 I T1 N'<|A4 ?_;refine JY 18 I T1 WN<|BE ?_;refine JY 21 I T1 YK<|BB ?_;exact To
 refine E6 ?_;exact To
end
section
def Sat.eg{B l R}{w:World}(J:l≠ [])(h:Sat B (AA b o l*R) w):b<w.heap.size:=by
 obtain⟨_,r,Y,s⟩:=h.left;obtain rfl:r=_:=Y;cases l with
 |nil=>exact absurd I J
 |cons v i=>
  have U:=s.cell b o v C3;obtain M|M:=ff b w.heap.size
  ·exact M
  simp[World.cell?,n3 M]at U
def Sat.bZ{B l R}{w:World}(J:l≠ [])(h:Sat B (AA b o l*R) w):∃t k,w.shape? b=some (t,k)∧k≠0:=by
 obtain⟨_,r,Y,s⟩:=h.left;obtain rfl:r=_:=Y;cases l with
 |nil=>exact absurd I J
 |cons v i=>
  have U:=s.cell b o v C3;unfold World.cell? at U;unfold World.shape?;split at U
  ·rename_i c t f e;simp only[]at e;rw[e];refine⟨t,c.size,I,?_⟩;intro A;have:c= #[]:=by simpa using A
   subst this;simp at U
  cases U
section
variable{P:Program}{B:World}{n:Nat}{E:A8}{D:CW}{H R:HP}{d:Option Tmp}{T T' ty:TypeId}{pos:String}{af:Array Edge}{g:Option (Nat×Bool)}{x y z:Operand}
def r6{len}{ps:List (Nat×Operand)}{vs:List (Nat×Value)}{G:Value}{cs:List Value}[hT:Aw P T (.slice e)][hz:CG P e sz][h0:Bh P e G](F:MD E ps=some vs)(hf:Instr.fill (λi=>some (i*sz,sz)) ((Array.range (len*sz)).map λi=>G.cells[i%G.cells.size]!) vs=some cs.toArray)(hb:Nat.ble (len*sz) 16777216=true)(J:Nat.blt 0 (len*sz)=true)(s:cs.all live=true:=by first|rfl|exact Kx _|simp[live,Kx]):
  DT P B n ⟨d,.buildSlice T len ps.toArray,ty,pos,af,g⟩ E D H (λv S=>∃b,v=.slice (some ⟨b,0,none⟩) len len∧(∀Y V U h,U≠ []→H=HP.AA Y V U*h→b≠Y)∧S=HP.fresh b*(HP.AA b 0 cs*H)):=by
 intro a w O _ M K Q Z;have C:¬len*sz> 2^24:=by have:=Alb hb;omega
 have j:¬len*sz=0:=by
  have:0<len*sz:=by simpa using J
  omega
 have W:(ps.toArray.map λ(i,x)=>(i,a.eval x)).toList=vs:=by
  rw[hI];exact Wq O F
 have q:(execOp a.eval ⟨d,.buildSlice T len ps.toArray,ty,pos,af,g⟩).run P w=.ok (.value (.slice (some ⟨w.heap.size,0,none⟩) len len)) (w.alloc (.cells cs.toArray e)):=by
  simp only[execOp,Instr.buildSlice,bn,A6 hT.get,b0,hz.get,C,if_false,j,h0.get,bp,W,hf,newRow];rfl
 refine Oper.Gg ?_ q (Z _ _ _ ⟨w.heap.size,I,?_,I⟩ (M.jn cs.toArray e (KA s)))
 ·simp only[A9,BL,Dp,CT,DQ,EP,EX,Ej,B3,BX,true_and,and_true,and_self,execOp,Instr.buildSlice,bn,A6 hT.get,b0,hz.get,C,if_false,j,h0.get,bp,W,hf,newRow,Xe];trivial
 intro Y V U h A N;subst N;have:=M.eg A;omega
def zy{Y V la ca lb cb l2 R2 S tR}(hT:P.underlying S=some (.slice e))(hz:∀w,(Go.sizeOf e).run P w=.ok sz w)(i:b≠Y)(J:l2≠ [])(h:H=HP.fresh b*(AA Y V l2*R2)){oo}(w)(hw:Sat B H w):
  (Extern.SlicesOverlaps.overlaps #[S,S] #[tR] #[.slice (some ⟨b,0,none⟩) la ca,.slice (some ⟨Y,oo,none⟩) lb cb]).run P w=.ok (.bool false) w:=by
 subst h;obtain⟨c,t,lo,q⟩:=hw.fresh;obtain⟨t2,s,j,N⟩:=hw.right.bZ J;refine Lib.run_overlaps_apart w S tR e hT sz hz ⟨b,0,none⟩ ⟨Y,oo,none⟩ la ca lb cb i t t2 c.size s ?_ j N ?_ ?_
 ·simp[World.shape?,q]
 ·simp[World.frozen?,q]
 simp[World.frozen?,q]
def Sat.Ac6{l}{w:World}(J:l≠ [])(h:Sat B (AA b o l*R) w):B.heap.size≤b∧w.heap[b]?≠some dead:=by
 obtain⟨_,r,Y,s⟩:=h.left;obtain rfl:r=_:=Y;cases l with
 |nil=>exact absurd I J
 |cons v i=>
  have U:=s.cell b o v C3;exact⟨s.FV b o v C3,λe=>by rw[TT (a:=⟨b,o,none⟩) e]at U;cases U⟩
def Sat.vz{w:World}(h:Sat B (HP.fresh b*R) w):B.heap.size≤b∧w.heap[b]?≠some dead:=by
 obtain⟨c,t,lo,q⟩:=h.fresh;obtain⟨_,r,Y,J⟩:=h.left;obtain rfl:r=_:=Y;exact⟨J.GC b (.cells #[] 0 (0,0)) C3,λe=>by rw[q]at e;simp[dead]at e⟩
def Abq{Y V la ca lb cb l2 R2 S tR}(hT:P.underlying S=some (.slice e))(hz:∀w,(Go.sizeOf e).run P w=.ok sz w)(W:b≠Y)(J:l2≠ [])(h:H=HP.fresh b*(AA Y V l2*R2)){oo}(w)(hw:Sat B H w):
  A9 B.heap.size P (Extern.SlicesOverlaps.overlaps #[S,S] #[tR] #[.slice (some ⟨b,0,none⟩) la ca,.slice (some ⟨Y,oo,none⟩) lb cb]) w:=by
 subst h;obtain⟨c,t,lo,q⟩:=hw.fresh;obtain⟨t2,k2,Z,N⟩:=hw.right.bZ J;obtain⟨O,Q⟩:=hw.vz;obtain⟨j,U⟩:=hw.right.Ac6 J;have M:¬(Ec w).dead b:=Q;have v:¬(Ec w).dead Y:=U;have F:(b !=Y)=true:=by simpa using W
 have i:(b==Y)=false:=by simpa using W
 have G:w.shape? b=some (t,c.size):=by simp[World.shape?,q]
 have K:w.frozen? ⟨b,0,none⟩=false:=by simp[World.frozen?,q]
 have X:w.frozen? ⟨b,c.size,none⟩=false:=by simp[World.frozen?,q]
 show A9 B.heap.size P (α:=Value) (do
  let some t :=(#[S,S] :Array TypeId)[0]? |stuck "slices.overlaps: no parameter types"
  let .slice elem ← underlying t|stuck "slices.overlaps: slice type expected"
  let s ←Go.sizeOf elem
  match(some (⟨b,0,none⟩:Addr):Option Addr),(some (⟨Y,oo,none⟩:Addr):Option Addr)with
  |some a,some b=>
   if la=0∨lb=0∨s=0 then pure (Value.bool false)
   else if a.block !=b.block&&(←frozen a)&&(←frozen b)then unsupported .addressObserved
   else do
    if a.block !=b.block then do
     noView a;noView b
     if ← mayBeOne a b then return Value.bool ((← choose (.extern "sameAddr.stringBytes" 2)) ==1)
    pure (Value.bool (a.block==b.block&&a.off<b.off+lb*s&&b.off<a.off+la*s))
  |_,_=>pure (Value.bool false)) w
 by_cases A:la=0∨lb=0∨sz=0
 ·rcases A with rfl|rfl|rfl<;>simp[A6 hT,hz]
 cases k2 with
 |zero=>exact absurd I N
 |succ k2=>
  have C:∀a:Addr,(frozen a).run P w=.ok (w.frozen? a) w:=λ_=>rfl;have r2:∀r:Nat,(shape r).run P w=.ok (w.shape? r) w:=λ_=>rfl;simp[A6 hT,hz,A,F,i,noView,viewAt,mayBeOne,stringish,C,r2,G,Z,K,X,O,M,j,v];intros;split<;>trivial
end
section
variable{P:Program}{B:World}{n:Nat}{E:A8}{D:CW}{R:HP}{α:Type}[AB α]
def si{d sT xT ty by_ x y c}{xs:List α}{s}{z:Value}[hT:Aw P sT (.slice e)][hT2:Aw P xT (.int .i64)][hz:CG P e (AB.sz α)][hi:Ft P e by_][h0:Bh P e z](hx:ev E x=some (.slice p (aa xs) c))(hs:Sl p b o (aa xs) c)(hy:ev E y=some (.int .i64 m))(hzc:z.cells.size=AB.sz α)(hzp:0<AB.sz α)(hb:(aa xs+m)*by_≤140737488355328)(q:0<by_)(hm:0<m)(hgr:c<aa xs+m):
  DT P B n ⟨d,.call ⟨.builtin .append,#[x,y],#[sT,xT]⟩,ty,pos,af,g⟩ E D (AC b o xs s*R)
   (λv H'=>∃V G s',v=.slice (some ⟨V,0,none⟩) (aa xs+m) G∧aa xs+m≤G∧aa (AE xs++s')=G*AB.sz α∧H'=AA V 0 (AE xs++s')*(AC b o xs s*R)):=by
 intro a w h1 _ M K Q Z;obtain⟨W,h,rfl⟩:=hi.get;have hmb:m≤m*W.bytes:=Am7 m q;have hb2:m*W.bytes≤(aa xs+m)*W.bytes:=ta _ C0;have hg:¬281474976710656<Builtin.nextslicecap (aa xs+m) c*W.bytes:=by
  have:=growslice_fits (old:=c) C0 hb;omega
 have hfo:(Question.appendCap (aa xs+m) c e).forced=false:=rfl;have U:(ad (AB.sz α) (aa xs) (.slice p (aa xs) c)).run P w.drew=.ok (AE xs).toArray w.drew:=by
  have hwd:Sat B (AC b o xs s*R) w.drew:=M.IS;obtain h4|rfl:=hs.1
  ·have J:xs=[]:=hU.1 C8;subst J;cases p<;>simp[ad,AE,loadCells,loadCellsFrom]
  simp only[ad];exact AZ.run (H:=AC b o xs s*R) AH hwd
 have O:∀k D,Al k D P (ad (AB.sz α) (aa xs) (.slice p (aa xs) c)) w.drew:=λk D=>by
  have hwd:Sat B (AC b o xs s*R) w.drew:=M.IS;obtain h4|rfl:=hs.1
  ·have J:xs=[]:=hU.1 C8;subst J;cases p<;>simp[ad,loadCells,loadCellsFrom]
  simp only[ad];exact AZ.Ez (H:=AC b o xs s*R) AH hwd k D
 obtain⟨N,C⟩:∃N,N=(Question.appendCap (aa xs+m) c e).cut (w.tape w.drawn (Question.appendCap (aa xs+m) c e)):=DF;have Y:aa xs+m≤N:=by rw[C];simp[Question.cut]
 have X:IntKind.i64.wrap (m:Int)=m:=IntWalk.i64_in _ C0;have hneg:¬((m:Int)<0):=C0;have hn0:m≠0:=C0;have hns:¬(m*AB.sz α=0):=Nat.mul_ne_zero C0 C0;have hxb:aa xs+m≤(aa xs+m)*W.bytes:=Am7 _ q;have h63':¬(9223372036854775807<(aa xs:Int)+(m:Int)):=C0;have j:¬(aa xs+m≤c):=C0;have h48:¬(281474976710656<(m:Int)*(W.bytes:Int)):=by rw[←Amg];omega
 have hrun:(cx #[sT,xT] ty #[.slice p (aa xs) c,.int .i64 m]).run P w=.ok (.slice (some ⟨w.heap.size,0,none⟩) (aa xs+m) N) (w.drew.alloc (.cells ((AE xs).toArray++(a9 z.cells m++a9 z.cells (N-(aa xs+m)))) e)):=by
  simp[cx,A6 hT.get,A6 hT2.get,asInt,asIntOf,X,hz.get,h,h0.get,hneg,hn0,h63',h48,hns,j,hg,hfo,U,newRow,←C]
 have i:(execOp a.eval ⟨d,.call ⟨.builtin .append,#[x,y],#[sT,xT]⟩,ty,pos,af,g⟩).run P w=.ok (.value (.slice (some ⟨w.heap.size,0,none⟩) (aa xs+m) N)) (w.drew.alloc (.cells ((AE xs).toArray++(a9 z.cells m++a9 z.cells (N-(aa xs+m)))) e)):=by
  exact YT
 have A:∀k D,Al k D P (cx #[sT,xT] ty #[.slice p (aa xs) c,.int .i64 m]) w:=λk D=>by
  simp[cx,A6 hT.get,A6 hT2.get,asInt,asIntOf,X,hz.get,h,h0.get,hneg,hn0,h63',h48,hns,j,hg,hfo,U,O,newRow,←C]
 have F:=(show Sat B (AC b o xs s*R) w.drew from M.IS).alloc ((AE xs).toArray++(a9 z.cells m++a9 z.cells (N-(aa xs+m)))) e (by
  intro v S;simp only[Ak2,j2]at S;obtain S|S|S:=S
  ·exact RN xs v S
  ·exact Wr h0.live _ v S
  exact Wr h0.live _ v S)
 refine Gg (by simp[execOp,resolve,h1.ev hx,h1.ev hy,invoke,builtin,A]) i (Z _ _ _ ⟨w.heap.size,N,(a9 z.cells m++a9 z.cells (N-(aa xs+m))).toList,I,Y,?_,I⟩ ?_)
 ·rw[a5,Ak2,a5,Yl hzc,Yl hzc,CV,←u2,←u2];congr 1;omega
 have e2:((AE xs).toArray++(a9 z.cells m++a9 z.cells (N-(aa xs+m)))).toList=AE xs++(a9 z.cells m++a9 z.cells (N-(aa xs+m))).toList:=by simp
 rw[e2]at F;exact F
def Vc(b o m)(L:List Value)(h:m≤aa L):AA b o L=AA b o (L.take m)*AA b (o+m) (L.drop m):=by
 conv=>lhs;rw[←px m L]
 rw[HF,hZ,n6 h]
def O5{d sT xT ty x y bb oo dl N cc k2 pp}{ys:List α}[hT:Aw P sT (.slice e)][hz:CG P e (AB.sz α)](F:ev E x=some (.slice p dl N))(hs:Sl p b (o+k*AB.sz α) dl N)(G:ev E y=some (.slice pp k2 cc))(Y:Sl pp bb oo k2 cc)(hr:AZ B (AA b o L*R) bb oo ys)(hm:aa ys=min k2 dl)(s:(k+dl)*AB.sz α≤aa L):
  DT P B n ⟨d,.call ⟨.builtin .copy,#[x,y],#[sT,xT]⟩,ty,pos,af,g⟩ E D (AA b o L*R)
   (λv S=>v=.int .i64 (aa ys:Nat)∧S=AA b o (L.take (k*AB.sz α)++AE ys++L.drop ((k+aa ys)*AB.sz α))*R):=by
 intro a w O _ h3 K Q hk;have W:Nat.min k2 dl=aa ys:=hm.symm;have X:k*AB.sz α≤aa L:=k9 (ta _ C0) s;have V:(ad (AB.sz α) (aa ys) (.slice pp k2 cc)).run P w=.ok (AE ys).toArray w:=by
  obtain Z|rfl:=Y.1
  ·have J:ys=[]:=hU.1 (by have:=Y.2;omega);subst J;cases pp<;>simp[ad,AE,loadCells,loadCellsFrom]
  simp only[ad];exact hr.run (P:=P) h3
 have i:A9 B.heap.size P (ad (AB.sz α) (aa ys) (.slice pp k2 cc)) w:=by
  obtain Z|rfl:=Y.1
  ·have J:ys=[]:=hU.1 (by have:=Y.2;omega);subst J;cases pp<;>simp[ad,loadCells,loadCellsFrom]
  simp only[ad];exact hr.Ez (P:=P) h3 _ _
 have U:∃w',((match p with|some q=>storeCells q (AE ys)|none=>pure ()).run P w)=.ok () w'∧
   Sat B (AA b o (L.take (k*AB.sz α)++AE ys++L.drop ((k+aa ys)*AB.sz α))*R) w'∧
   A9 B.heap.size P (match p with|some q=>storeCells q (AE ys)|none=>pure ()) w:=by
  obtain Z|rfl:=hs.1
  ·exact oT
  rw[Vc b o (k*AB.sz α) L X,HP.assoc,EM]at h3;have j:aa (AE ys)≤aa (L.drop (k*AB.sz α)):=by
   rw[CV,di];have:aa ys*AB.sz α≤dl*AB.sz α:=ta _ C0;rw[u2]at s;omega
  obtain⟨w',A,k2,k3⟩:=Sat.ME (P:=P) (AE ys) (o+k*AB.sz α) 0 (L.drop (k*AB.sz α)) _ w j (Lr _) h3;refine⟨w',A,?_,k3 _ _⟩;rw[EM,←HP.assoc,Q']at k2;have C:(k+aa ys)*AB.sz α=k*AB.sz α+aa (AE ys):=by rw[CV,u2]
  have M:aa (L.take (k*AB.sz α))=k*AB.sz α:=Qt;have e3:AA b o (L.take (k*AB.sz α)++AE ys++L.drop ((k+aa ys)*AB.sz α))=AA b o (L.take (k*AB.sz α))*AA b (o+k*AB.sz α) (AE ys++L.drop (k*AB.sz α+aa (AE ys))):=by
   rw[C,c5,HF,M]
  rw[e3]
  first|exact k2|(rw[An2]at k2;exact k2)
 obtain⟨w',A,k2,k3⟩:=U;have h:(execOp a.eval ⟨d,.call ⟨.builtin .copy,#[x,y],#[sT,xT]⟩,ty,pos,af,g⟩).run P w=.ok (.value (.int .i64 (aa ys:Nat))) w':=by
  simp only[execOp,resolve,hI,hP,oq,O.ev F,O.ev G,bn,bp,b0,invoke,builtin];simp only[hB];simp[A6 hT.get,kl,W,hz.get,V];cases p<;>simp_all[goInt]
 refine Gg ?_ h (hk _ _ _ Dj k2);simp only[execOp,resolve,hI,hP,oq,O.ev F,O.ev G,invoke,builtin];simp only[hB];simp[A6 hT.get,kl,W,hz.get,V,i];cases p<;>simp_all[goInt]
def RQ{sT ty c x}{G:Value}[hT:Aw P sT (.slice e)][hz:CG P e sz][h0:Bh P e G](F:ev E x=some (.slice p m c))(C:Sl p b (o+k*sz) m c)(J:(k+m)*sz≤aa L)(N:G.cells.size=sz)(h:∀v∈G.cells.toList,v.oneCell'=true):
  DT P B n ⟨none,.call ⟨.builtin .clear,#[x],#[sT]⟩,ty,pos,af,g⟩ E D (AA b o L*R) (λv S=>∃A,aa A=aa L∧A.take (k*sz)=L.take (k*sz)∧A.drop ((k+m)*sz)=L.drop ((k+m)*sz)∧S=AA b o A*R):=by
 intro a w O U j K Q Z;have X:k*sz≤aa L:=k9 (ta _ C0) J;rw[u2]at J;rw[Vc b o (k*sz) L X,HP.assoc,EM]at j;refine Aa5 (P:=P) (B:=B) (n:=n) (E:=E) (D:=D) (hT:=hT) (hz:=hz) (h0:=h0) (ty:=ty) (b:=b) (o:=o+k*sz) (l:=L.drop (k*sz)) F C So N h a w O U j K Q λv S w' q i=>?_;obtain⟨W,s,V,rfl⟩:=q;have M:aa (L.take (k*sz))=k*sz:=Qt;refine Z v _ w' ⟨L.take (k*sz)++W,by rw[a5,M,s,di];omega,by rw[DD M],?_,I⟩ ?_
 ·rw[u2,Akj,A' C0,M,l0,show k*sz+m*sz-k*sz=m*sz by omega,V,Q']
 rw[HF,M,HP.assoc,EM];exact i
def Aae(b o c l sz):∃h,sp (some ⟨b,o,none⟩) c l sz=some ⟨b,h,none⟩:=by
 unfold sp;split
 ·exact⟨o,I⟩
 by_cases M:l*sz=0
 ·exact⟨o,by simp[Addr.add,M]⟩
 exact⟨o+l*sz,by simp[Addr.add,M]⟩
end
section
variable{P:Program}{B:World}{n:Nat}{E:A8}{H:HP}{d:Option Tmp}{T T' T'' ty:TypeId}{pos:String}{af:Array Edge}{g:Option (Nat×Bool)}{x y u:Operand}
def Wf{k:IntKind}{i j:Nat}(F:ev E x=some (.int k i))(G:ev E y=some (.int k j)):AY P B n ⟨d,.call ⟨.builtin .min,#[x,y],#[T,T']⟩,ty,pos,af,g⟩ E H (.int k (min i j:Nat)):=by
 intro a w N _;have O:(if(i:Int)≤j then Value.int k i else Value.int k j)=.int k (min i j:Nat):=by
  by_cases h:i≤j
  ·rw[AJ C0,n6 h]
  rw[AF C0,Akk C0]
 refine⟨by simp only[execOp,resolve,invoke,builtin,eo,hI,hP,oq,Am8,Amj,N.ev F,N.ev G,hO];trivial,?_⟩;simp[execOp,N.ev F,N.ev G,resolve,invoke,builtin,eo,hO,←O]
 try split<;>simp_all<;>omega
def Aag{k:IntKind}{i j:Nat}(F:ev E x=some (.int k i))(G:ev E y=some (.int k j))(q:ev E u=some (.int k m)):AY P B n ⟨d,.call ⟨.builtin .min,#[x,y,u],#[T,T',T'']⟩,ty,pos,af,g⟩ E H (.int k (min (min i j) m:Nat)):=by
 intro a w N _;have A:∀i j:Nat,(if(j:Int)<i then(j:Int)else i)=(min i j:Nat):=by
  intro i j;by_cases h:j<i
  ·rw[AJ C0,Akk C0]
  rw[AF C0,n6 C0]
 simp only[A9,BL,Dp,CT,DQ,EP,EX,Ej,B3,BX,true_and,and_true,and_self,execOp,N.ev F,N.ev G,N.ev q,resolve,invoke,builtin,eo,hI,hP,oq,Am8,Amj,hO,pure_bind,bn,bp,b0,A]
def yR{k:IntKind}{i j:Nat}(F:ev E x=some (.int k i))(G:ev E y=some (.int k j)):AY P B n ⟨d,.call ⟨.builtin .max,#[x,y],#[T,T']⟩,ty,pos,af,g⟩ E H (.int k (max i j:Nat)):=by
 intro a w N _;have O:(if(j:Int)≤i then Value.int k i else Value.int k j)=.int k (max i j:Nat):=by
  by_cases h:j≤i
  ·rw[AJ C0,Aks h]
  rw[AF C0,Akl C0]
 refine⟨by simp only[execOp,resolve,invoke,builtin,m5,hI,hP,oq,Am8,Amj,N.ev F,N.ev G,n9];trivial,?_⟩;simp[execOp,N.ev F,N.ev G,resolve,invoke,builtin,m5,n9,←O]
 try split<;>simp_all<;>omega
end
end
section
variable{B:World}
instance:Hz prog 209 (Extern.SlicesOverlaps.overlaps #[142,142] #[4]):=
 @Jo prog 209 _ _ func209 C1 C1 C1 C1
def QA[AB α](l:List α)(k s)(h:k≤aa l):(AE l++s).take (k*AB.sz α)=AE (l.take k):=by
 conv=>lhs;rw[←px k l,GH,c5]
 exact DD gC
def VO[AB α](l:List α)(k s)(h:k≤aa l):(AE l++s).drop (k*AB.sz α)=AE (l.drop k)++s:=by
 conv=>lhs;rw[←px k l,GH,c5]
 exact Akr gC
def Pu[AB α]{s}{xs:List α}(h:L=AE xs++s):AA b o L=AC b o xs s:=by unfold AC;rw[h]
def Qs[AB α]{xs:List α}(h:L.take (k*AB.sz α)=AE xs):L=AE xs++L.drop (k*AB.sz α):=by
 conv=>lhs;rw[←px (k*AB.sz α) L,h]
def F0{c l h}(C:Sl p b o k c)(J:l≤h)(Y:h≤c)(hm:m=h-l):Sl (sp p c l sz) b (o+l*sz) m (c-l):=by
 subst hm;exact Lz C J Y
def Abi(l:List AS)(r:AS)(i:Nat)(p:Option Addr)(b o c bv:Nat)(s:List Value)(R:HP)(hs:Sl p b o (aa l) c)(W:aa l*2+aa s=c*2)(hi:i≤aa l)(J:aa l<100000)(Y:0<c→bv≠b):
  Fn prog B 208 [.slice p (aa l) c,iN i,.slice (some ⟨bv,0,none⟩) 1 1] (HP.fresh bv*(AA bv 0 (AE [r])*(AC b o l s*R))) (λv H'=>DI R (l.take i++r::l.drop i) v H'):=by
 refine mI func208 ?_;refine J9 ?_;refine JL (Lh I I hi)<|Ki ?_;refine JL (Dy (i:=1) (j:=0) I I)<|J2 ?_;refine mC (λh16=>?_) (λh16=>?_)
 ·omega
 refine Fj ?_;refine mC (λN=>?_) (λN=>?_)
 ·refine J4 ?_;refine BH (H':=AC b o l s*(HP.fresh bv*(AA bv 0 (AE [r])*R))) C4<|Ae (CA (ys:=[r]) (bb:=bv) (oo:=0) (cc:=1) I hs W I Bz AH I Cd C0) I ?_;rintro _ _ ⟨p',V,o',G,K,rfl,U,hc',rfl⟩;refine J5 ?_;exact mR [6] (AC V o' (l++[r]) K*R) I I ⟨p',V,o',G,K,by rw[N];simp;rfl,by rw[N];simpa using U,by rw[N];simpa using hc',by rw[N];simp⟩
 refine FC ?_;refine mC (λhg=>?_) (λhg=>?_)
 ·refine J4 ?_;refine JL VQ<|BB ?_;have F:aa (l.take i)=i:=Qt;refine BH (H':=AC b o (l.take i) (AE (l.drop i)++s)*(HP.fresh bv*(AA bv 0 (AE [r])*R))) sC<|Ae (si (α:=AS) (xs:=l.take i) (m:=aa l+1-i) I ⟨hs.1,C8⟩ I I C2 C0 C0 C0 C0) I ?_;rintro _ _ ⟨V,G,K,rfl,S,hc2,rfl⟩;rw[F]at S;rw[F];refine BH (H':=AA V 0 (AE (l.take i)++K)*(AC b o l s*(HP.fresh bv*(AA bv 0 (AE [r])*R)))) lV ?_;have hls:i*2+aa K=G*2:=by
   have:=hc2;rw[a5,CV,F]at this;exact this
  refine J7 ?_;refine JL Jv<|J1 ?_;refine Ae (O5 (α:=AS) (ys:=[r]) (k:=i) (bb:=bv) (oo:=0) (b:=V) (o:=0) I (F0 (h:=i+(aa l+1-i)) (⟨.inr I,S⟩:Sl (some ⟨V,0,none⟩) V 0 (i+(aa l+1-i)) G) C0 S C0) I Bz AH Cd (by rw[a5,CV,F];show(i+(i+(aa l+1-i)-i))*2≤i*2+aa K;omega)) I<|JR ?_;have e45:(AE (l.take i)++K).take (i*2)++AE [r]++(AE (l.take i)++K).drop ((i+1)*2)=AE (l.take i++[r])++K.drop 2:=by
   have O:aa (AE (l.take i))=i*2:=by rw[CV,F];rfl
   rw[DD O,Akj,A' C0,O,show(i+1)*2-i*2=2 by omega,l0,GH]
  refine BH (H':=AA V 0 (AE (l.take i++[r])++K.drop 2)*(AC b o l s*(HP.fresh bv*(AA bv 0 (AE [r])*R)))) (by rw[←e45];rfl)<|J3 ?_;refine mA 8 9 ?_;refine Bn ?_;refine JT 4 I Jv<|BE ?_;refine JT 7 I (Lh I I hi)<|Au 8 C1 I I (O5 (α:=AS) (ys:=l.drop i) (k:=i+1) (b:=V) (o:=0) (bb:=b) (oo:=o+i*2) (k2:=aa l-i) (cc:=c-i) (pp:=sp p c i 2) I (F0 (h:=i+(aa l+1-i)) (⟨.inr I,S⟩:Sl (some ⟨V,0,none⟩) V 0 (i+(aa l+1-i)) G) C0 S I) I (F0 hs hi hs.2 I) (let _:AZ B (AA V 0 (AE (l.take i++[r])++K.drop 2)*(AC b o l s*(HP.fresh bv*(AA bv 0 (AE [r])*R)))) b o l:=AH;AZ.L8 (α:=AS) AH i) So (by rw[a5,CV,a5,F,di];show(i+1+(i+(aa l+1-i)-(i+1)))*2≤(i+1)*2+(aa K-2);omega))<|JR ?_;have Q:aa (l.drop i)=aa l-i:=di;have e54:(AE (l.take i++[r])++K.drop 2).take ((i+1)*2)++AE (l.drop i)++(AE (l.take i++[r])++K.drop 2).drop ((i+1+aa (l.drop i))*2)=AE (l.take i++r::l.drop i)++K.drop (2+(aa l-i)*2):=by
   have O:aa (AE (l.take i++[r]))=(i+1)*2:=by rw[CV,a5,F];rfl
   have h5:(AE (l.take i++[r])).drop ((i+1+(aa l-i))*2)=[]:=A' (by rw[O];omega);rw[DD O,Q,Akj,h5,O,show(i+1+(aa l-i))*2-(i+1)*2=(aa l-i)*2 by omega,l0,Q',←GH,c5];rfl
  refine FF ?_;refine A5 ?_;refine A3 (H':=AC V 0 (l.take i++r::l.drop i) (K.drop (2+(aa l-i)*2))*(AC b o l s*(HP.fresh bv*(AA bv 0 (AE [r])*R)))) (by unfold AC;rw[←e54];rfl)<|J7 ?_;exact mR [6] (AC V 0 (l.take i++r::l.drop i) (K.drop (2+(aa l-i)*2))*R) I I ⟨some ⟨V,0,none⟩,V,0,G,_,by show Value.slice _ _ _=_;congr 1;rw[a5,F,f',Q];omega,⟨.inr I,by rw[a5,F,f',Q];omega⟩,by rw[a5,F,f',Q,di];show(i+(aa l-i+1))*2+_=G*2;omega,I⟩
 refine Be ?_;refine JL (Rb (k':=aa l+1) I I C0 I)<|J6 ?_;have hcp:0<c:=C0;obtain rfl:p=some ⟨b,o,none⟩:=hs.1.resolve_left C0;refine BB ?_;refine JL Jv ?_;obtain⟨oo,eoo⟩:=Aae b o c (i+1) 2;refine JL (LO (v:=.bool false) I (λw X=>by have:=zy (tR:=4) (la:=1) (ca:=1) (lb:=aa l+1-(i+1)) (cb:=c-(i+1)) (oo:=oo) underlying142 (CG.get) (Y hcp) (l2:=AE l++s) (by intro A;have:=congrArg List.length A;rw[a5,CV]at this;have h7:aa l*2+aa s=0:=this;omega) (R2:=AA bv 0 (AE [r])*R) Pm w X;rw[eoo];exact this) (ht:=λw X=>by have:=Abq (tR:=4) (la:=1) (ca:=1) (lb:=aa l+1-(i+1)) (cb:=c-(i+1)) (oo:=oo) underlying142 (CG.get) (Y hcp) (l2:=AE l++s) (by intro A;have:=congrArg List.length A;rw[a5,CV]at this;have h7:aa l*2+aa s=0:=this;omega) (R2:=AA bv 0 (AE [r])*R) Pm w X;rw[eoo];exact this))<|A5 ?_;refine mc (λC=>?_) (λC=>?_);rotate_left
 ·cases C
 refine J1 ?_;refine xR ?_;refine mA 8 9 ?_;refine Bn ?_;refine JT 4 I Jv<|BE ?_;refine JT 7 I Jv<|Au 8 C1 I I (O5 (α:=AS) (ys:=l.drop i) (k:=i+1) (b:=b) (o:=o) (bb:=b) (oo:=o+i*2) (k2:=aa l+1-i) (cc:=c-i) I (F0 (k:=aa l) (h:=aa l+1) hs C0 C0 I) I (F0 (k:=aa l) (h:=aa l+1) hs C0 C0 I) (let _:AZ B (AA b o (AE l++s)*(HP.fresh bv*(AA bv 0 (AE [r])*R))) b o l:=(AH:AZ B (AC b o l s*_) b o l);AZ.L8 (α:=AS) AH i) So (by rw[a5,CV];show(i+1+(aa l+1-(i+1)))*2≤aa l*2+aa s;omega))<|FZ ?_;refine A5 ?_;have Q:aa (l.drop i)=aa l-i:=di;have O:aa (AE l)=aa l*2:=CV l;refine A3 (H':=AA b o ((AE l++s).take ((i+1)*2)++AE (l.drop i)++s.drop 2)*(HP.fresh bv*(AA bv 0 (AE [r])*R))) (by congr 2;rw[Q];show _=(AE l++s).take ((i+1)*2)++AE (l.drop i)++s.drop 2;congr 1;show(AE l++s).drop ((i+1+(aa l-i))*2)=_;rw[Akj,A' C0,O,show(i+1+(aa l-i))*2-aa l*2=2 by omega,l0])<|J3 ?_;refine JL Jv<|J1 ?_;refine Ae (O5 (α:=AS) (ys:=[r]) (k:=i) (b:=b) (o:=o) (bb:=bv) (oo:=0) I (F0 (k:=aa l) (h:=aa l+1) hs C0 C0 I) I Bz AH Cd (by rw[a5,a5,hZ,a5,CV,CV,Q,di];show(i+(aa l+1-i))*2≤min ((i+1)*2) (aa l*2+aa s)+(aa l-i)*2+(aa s-2);omega)) I<|Hb ?_;have e82:((AE l++s).take ((i+1)*2)++AE (l.drop i)++s.drop 2).take (i*2)++AE [r]++((AE l++s).take ((i+1)*2)++AE (l.drop i)++s.drop 2).drop ((i+1)*2)=AE (l.take i++r::l.drop i)++s.drop 2:=by
  have h2:aa ((AE l++s).take ((i+1)*2))=(i+1)*2:=by rw[hZ,a5,O];omega
  have M:(AE l++s).take (i*2)=AE (l.take i):=QA l i s hi;rw[c5 ((AE l++s).take ((i+1)*2)),List.take_append_of_le_length C0,List.take_take,n6 C0,M,Akr h2,c5,←c5 (AE [r]),←GH,←c5,←GH];rfl
 refine A3 (H':=AC b o (l.take i++r::l.drop i) (s.drop 2)*(HP.fresh bv*(AA bv 0 (AE [r])*R))) (by unfold AC;rw[←e82];rfl)<|J7 ?_;exact mR [6] (AC b o (l.take i++r::l.drop i) (s.drop 2)*R) I I ⟨_,b,o,c,_,by show Value.slice _ _ _=_;congr 1;rw[a5,hZ,f',Q];omega,⟨.inr I,by rw[a5,hZ,f',Q];omega⟩,by rw[a5,hZ,f',Q,di];show(min i (aa l)+(aa l-i+1))*2+_=c*2;omega,I⟩
def th(l:List AS)(i j:Nat)(p:Option Addr)(b o c:Nat)(s:List Value)(R:HP)(hs:Sl p b o (aa l) c)(hc:aa l*2+aa s=c*2)(hij:i≤j)(hj:j≤aa l)(J:aa l<1000000000):
  Fn prog B 182 [.slice p (aa l) c,iN i,iN j] (AC b o l s*R) (λv H'=>DI R (l.take i++l.drop j) v H'):=by
 refine mI func182 ?_;refine Fi ?_;refine JL uP<|CY ?_;refine mC (λhe=>?_) (λhe=>?_)
 ·refine J8 ?_;exact eK
 refine Ei ?_;have hti:aa (l.take i)=i:=Qt;have hdj:aa (l.drop j)=aa l-j:=di;refine fK ?_;refine Au 6 C1 I I (X9 (α:=AS) (ys:=l.drop j) (bb:=b) (oo:=o+j*2) I ⟨hs.1,C8⟩ mV I (F0 hs hj hs.2 hdj) (let _:AZ B (AC b o (l.take i) (AE (l.drop i)++s)*R) b o l:=pA;AZ.L8 (α:=AS) AH j) I C0 C0 C8)<|FZ ?_;refine GU 7 C1 I I HG Fk<|A5 ?_;have h1:aa (AE (l.take i++l.drop j))=(i+(aa l-j))*2:=by rw[CV,a5,hti,hdj];rfl
 have h2:aa ((AE (l.drop i)++s).drop (aa (l.drop j)*2))=(c-(i+(aa l-j)))*2:=by rw[di,a5,CV,di,hdj];show(aa l-i)*2+aa s-(aa l-j)*2=_;have:=hs.2;omega
 have e31:aa (l.take i)+aa (l.drop j)=i+(aa l-j):=by rw[hti,hdj]
 refine J5 ?_;refine JL (QH I I I C8)<|Bl (RQ (sz:=2) (b:=b) (o:=o) (k:=aa (l.take i)+aa (l.drop j)) (L:=AE (l.take i++l.drop j)++(AE (l.drop i)++s).drop (aa (l.drop j)*2)) I (F0 (k:=aa l) hs (by omega:aa (l.take i)+aa (l.drop j)≤aa l) hs.2 I) YX I C2) ?_;rintro _ _ ⟨A,C,h,O,rfl⟩;rw[e31]at h O;refine J9 ?_;exact mR [6] (AA b o A*R) I I ⟨p,b,o,c,A.drop ((i+(aa l-j))*2),VY,⟨hs.1,pV⟩,by rw[a5,hti,hdj,di,C,a5,h1,h2];show _*2+_=c*2;have:=hs.2;omega,by congr 1;refine Pu ?_;refine Qs (α:=AS) (k:=i+(aa l-j)) ?_;refine Sp h ?_;exact DD h1⟩
def xz(l:List UInt8)(i j:Nat)(p:Option Addr)(b o c:Nat)(s:List Value)(R:HP)(hs:Sl p b o (aa l) c)(hc:aa l*1+aa s=c*1)(hij:i≤j)(hj:j≤aa l)(J:aa l<1000000000):
  Fn prog B 149 [.slice p (aa l) c,iN i,iN j] (AC b o l s*R) (λv H'=>DI R (l.take i++l.drop j) v H'):=by
 refine mI func149 ?_;refine Fi ?_;refine JL uP<|CY ?_;refine mC (λhe=>?_) (λhe=>?_)
 ·refine J8 ?_;exact eK
 refine Ei ?_;have hti:aa (l.take i)=i:=Qt;have hdj:aa (l.drop j)=aa l-j:=di;refine fK ?_;refine Au 6 C1 I I (X9 (α:=UInt8) (ys:=l.drop j) (bb:=b) (oo:=o+j*1) I ⟨hs.1,C8⟩ (by rw[hti,a5,CV,di];show i*1+((aa l-i)*1+aa s)=c*1;omega) I (F0 hs hj hs.2 hdj) (let _:AZ B (AC b o (l.take i) (AE (l.drop i)++s)*R) b o l:=pA;AZ.L8 (α:=UInt8) AH j) I C0 C0 C8)<|FZ ?_;refine GU 7 C1 I I HG Fk<|A5 ?_;have h1:aa (AE (l.take i++l.drop j))=(i+(aa l-j))*1:=by rw[CV,a5,hti,hdj];rfl
 have h2:aa ((AE (l.drop i)++s).drop (aa (l.drop j)*1))=(c-(i+(aa l-j)))*1:=by rw[di,a5,CV,di,hdj];show(aa l-i)*1+aa s-(aa l-j)*1=_;have:=hs.2;omega
 have e31:aa (l.take i)+aa (l.drop j)=i+(aa l-j):=by rw[hti,hdj]
 refine J5 ?_;refine JL (QH I I I C8)<|Bl (RQ (sz:=1) (b:=b) (o:=o) (k:=aa (l.take i)+aa (l.drop j)) (L:=AE (l.take i++l.drop j)++(AE (l.drop i)++s).drop (aa (l.drop j)*1)) I (F0 (k:=aa l) hs (by omega:aa (l.take i)+aa (l.drop j)≤aa l) hs.2 I) YX I C2) ?_;rintro _ _ ⟨A,C,h,O,rfl⟩;rw[e31]at h O;refine J9 ?_;exact mR [6] (AA b o A*R) I I ⟨p,b,o,c,A.drop ((i+(aa l-j))*1),VY,⟨hs.1,pV⟩,by rw[a5,hti,hdj,di,C,a5,h1,h2];show _*1+_=c*1;have:=hs.2;omega,by congr 1;refine Pu ?_;refine Qs (α:=UInt8) (k:=i+(aa l-j)) ?_;refine Sp h ?_;exact DD h1⟩
def yc(l:List AS)(r:AS)(i j:Nat)(p:Option Addr)(b o c bv:Nat)(s:List Value)(R:HP)(hs:Sl p b o (aa l) c)(hc:aa l*2+aa s=c*2)(F:i≤j)(W:j≤aa l)(J:aa l<100000)(Y:0<c→bv≠b):
  Fn prog B 181 [.slice p (aa l) c,iN i,iN j,.slice (some ⟨bv,0,none⟩) 1 1] (HP.fresh bv*(AA bv 0 (AE [r])*(AC b o l s*R))) (λv H'=>DI R (l.take i++r::l.drop j) v H'):=by
 refine mI func181 ?_;refine Ei ?_;refine JL (QH I I I ⟨F,C8⟩)<|CY ?_;refine mC (λN=>?_) (λN=>?_)
 ·refine J5 ?_;refine mE I (Abi l r i p b o c bv s R hs hc C0 J Y) ?_;rintro _ _ ⟨p',V,o',G,K,rfl,U,C,rfl⟩;refine J5 ?_;exact mR [8] (AC V o' (l.take i++r::l.drop i) K*R) I I ⟨p',V,o',G,K,by subst N;rfl,by subst N;exact U,by subst N;exact C,by subst N;rfl⟩
 refine CK ?_;refine mC (λhjn=>?_) (λhjn=>?_)
 ·refine J1 ?_;have hti:aa (l.take i)=i:=Qt;refine A3 (H':=AC b o (l.take i) (AE (l.drop i)++s)*(HP.fresh bv*(AA bv 0 (AE [r])*R))) sC<|J3 ?_;refine JL VQ<|J1 ?_;refine Ae (X9 (α:=AS) (ys:=[r]) (bb:=bv) (oo:=0) (cc:=1) I ⟨hs.1,C8⟩ mV I Bz AH I Cd C0 (by simp only[mz];have:=hs.2;omega)) I<|KW ?_;have h1:aa (AE (l.take i++[r]))=(i+1)*2:=by rw[CV,a5,hti];rfl
  have h2:aa ((AE (l.drop i)++s).drop ([r].length*2))=(c-(i+1))*2:=by rw[di,a5,CV,di];show(aa l-i)*2+aa s-1*2=_;have:=hs.2;omega
  have e31:aa (l.take i)+[r].length=i+1:=by rw[hti];rfl
  refine J8 ?_;refine mC (λhlt=>?_) (λhlt=>?_)
  ·refine J4 ?_;refine JL Jv<|Bl (RQ (sz:=2) (b:=b) (o:=o) (k:=aa (l.take i)+[r].length) (L:=AE (l.take i++[r])++(AE (l.drop i)++s).drop ([r].length*2)) I (F0 (k:=aa l) hs (by omega:aa (l.take i)+[r].length≤aa l) hs.2 I) YX I C2) ?_;rintro _ _ ⟨A,k1,k2,O,rfl⟩;rw[e31]at k2 O;refine Ei ?_;exact mR [8] (AA b o A*R) I I ⟨p,b,o,c,A.drop ((i+1)*2),rG,⟨hs.1,i5⟩,by rw[hjn,Aj8,a5,hti,di,k1,a5,h1,h2];show(i+1)*2+_=c*2;have:=hs.2;omega,by congr 1;refine Pu ?_;refine Qs (α:=AS) (k:=i+1) ?_;rw[hjn,Aj8];refine Sp k2 ?_;exact DD h1⟩
  refine Ei ?_;exact mR [8] (AC b o (l.take i++[r]) ((AE (l.drop i)++s).drop ([r].length*2))*R) I I ⟨p,b,o,c,(AE (l.drop i)++s).drop ([r].length*2),rG,⟨hs.1,i5⟩,by rw[hjn,Aj8,a5,hti];have:=h2;show(i+1)*2+_=c*2;have:=hs.2;omega,by rw[hjn,Aj8]⟩
 refine J3 ?_;refine mA 13 13 ?_;refine BE ?_;refine JT 2 I (Uo I I C8)<|DE ?_;refine JT 9 I (Lh I I W)<|FM ?_;refine mC (λh60=>?_) (λh60=>?_)
 ·have:=hs.2;omega
 refine J6 ?_;refine JL (Uo I I C8)<|FM ?_;refine mC (λh92=>?_) (λh92=>?_);rotate_left
 ·omega
 refine J1 ?_;refine xR ?_;refine J3 ?_;refine JL Jv<|J1 ?_;refine Ae (O5 (α:=AS) (ys:=[r]) (k:=i) (b:=b) (o:=o) (bb:=bv) (oo:=0) I (F0 (k:=aa l) (h:=i+1+(aa l-j)) hs C0 C8 I) I Bz AH Cd (by rw[a5,CV];show(i+(i+1+(aa l-j)-i))*2≤aa l*2+aa s;omega)) I<|Hb ?_;have hti:aa (l.take i)=i:=Qt;have e97:(AE l++s).take (i*2)++AE [r]++(AE l++s).drop ((i+1)*2)=AE (l.take i++r::l.drop (i+1))++s:=by
  have M:(AE l++s).take (i*2)=AE (l.take i):=QA l i s C0;have h4:(AE l++s).drop ((i+1)*2)=AE (l.drop (i+1))++s:=VO l (i+1) s C0;rw[M,h4,←GH,←c5,←GH,c5];rfl
 refine A3 (H':=AA b o (AE (l.take i++r::l.drop (i+1))++s)*(HP.fresh bv*(AA bv 0 (AE [r])*R))) (by rw[←e97];rfl) ?_;have S:aa (l.take i++r::l.drop (i+1))=aa l:=by rw[a5,f',hti,di];omega
 have hdj:(l.take i++r::l.drop (i+1)).drop j=l.drop j:=by
  rw[Akj,A' (by rw[hti];omega),hti,l0,show j-i=(j-i-1)+1 by omega,Als,Q'];congr 1;omega
 refine mA 9 10 ?_;refine BB ?_;refine JT 5 I Jv<|BE ?_;refine JT 8 I (Lh I I W)<|Au 9 C1 I I (O5 (α:=AS) (ys:=l.drop j) (k:=i+1) (b:=b) (o:=o) (bb:=b) (oo:=o+j*2) (k2:=aa l-j) (cc:=c-j) I (F0 (k:=aa l) (h:=i+1+(aa l-j)) hs C0 C8 I) I (F0 hs W hs.2 I) (let _:AZ B (AA b o (AE (l.take i++r::l.drop (i+1))++s)*(HP.fresh bv*(AA bv 0 (AE [r])*R))) b o (l.take i++r::l.drop (i+1)):=(AH:AZ B (AC b o (l.take i++r::l.drop (i+1)) s*_) b o _);by have:=AZ.L8 (α:=AS) (B:=B) (H:=AA b o (AE (l.take i++r::l.drop (i+1))++s)*(HP.fresh bv*(AA bv 0 (AE [r])*R))) (b:=b) (o:=o) (xs:=l.take i++r::l.drop (i+1)) AH j;rw[hdj]at this;exact this) So (by rw[a5,CV,S];show(i+1+(i+1+(aa l-j)-(i+1)))*2≤aa l*2+aa s;omega))<|FZ ?_;refine A5 ?_;have Q:aa (l.drop j)=aa l-j:=di;have e107:(AE (l.take i++r::l.drop (i+1))++s).take ((i+1)*2)++AE (l.drop j)++(AE (l.take i++r::l.drop (i+1))++s).drop ((i+1+aa (l.drop j))*2)=AE (l.take i++r::l.drop j)++(AE ((l.take i++r::l.drop (i+1)).drop (i+1+(aa l-j)))++s):=by
  have M:(AE (l.take i++r::l.drop (i+1))++s).take ((i+1)*2)=AE ((l.take i++r::l.drop (i+1)).take (i+1)):=QA _ (i+1) s (by rw[S];omega);have h4:(AE (l.take i++r::l.drop (i+1))++s).drop ((i+1+aa (l.drop j))*2)=AE ((l.take i++r::l.drop (i+1)).drop (i+1+(aa l-j)))++s:=by rw[Q];exact VO _ (i+1+(aa l-j)) s (by rw[S];omega)
  have X:(l.take i++r::l.drop (i+1)).take (i+1)=l.take i++[r]:=by
   rw[List.take_append,Ajb C0,hti,show i+1-i=0+1 by omega,Akn,tS]
  rw[M,h4,X,←GH,c5 (l.take i)];rfl
 refine A3 (H':=AA b o (AE (l.take i++r::l.drop j)++(AE ((l.take i++r::l.drop (i+1)).drop (i+1+(aa l-j)))++s))*(HP.fresh bv*(AA bv 0 (AE [r])*R))) (by rw[←e107];rfl) ?_;have h1:aa (AE (l.take i++r::l.drop j))=(i+1+(aa l-j))*2:=by rw[CV,a5,hti,f',Q];show(i+(aa l-j+1))*2=_;omega
 have h2:aa (AE ((l.take i++r::l.drop (i+1)).drop (i+1+(aa l-j)))++s)=(c-(i+1+(aa l-j)))*2:=by rw[a5,CV,di,S];show(aa l-(i+1+(aa l-j)))*2+aa s=_;omega
 refine J3 ?_;refine JL Jv<|Bl (RQ (sz:=2) (b:=b) (o:=o) (k:=i+1+(aa l-j)) I (F0 (k:=aa l) hs (by omega:i+1+(aa l-j)≤aa l) hs.2 I) (by rw[a5,h1,h2];have:=hs.2;omega) I C2) ?_;rintro _ _ ⟨A,k1,k2,O,rfl⟩;refine Ei ?_;exact mR [8] (AA b o A*R) I I ⟨p,b,o,c,A.drop ((i+1+(aa l-j))*2),by show Value.slice _ _ _=_;congr 1;rw[a5,hti,f',Q];omega,⟨hs.1,by rw[a5,hti,f',Q];have:=hs.2;omega⟩,by rw[a5,hti,f',Q,di,k1,a5,h1,h2];show(i+(aa l-j+1))*2+_=c*2;have:=hs.2;omega,by congr 1;refine Pu ?_;refine Qs (α:=AS) (k:=i+1+(aa l-j)) ?_;refine Sp k2 ?_;exact DD h1⟩
end
end Go.Proofs.YtgfdlpcdjklcoaaGreatDoor
