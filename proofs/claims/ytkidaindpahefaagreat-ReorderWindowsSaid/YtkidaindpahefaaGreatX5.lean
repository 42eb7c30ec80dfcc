/- Several texts in one file: contracts of the program's functions and what follows from them. -/
import Derived.Test.YtkidaindpahefaaGreatX4
import Derived.Shelf.SlSortCmp.NoneTotal
import Derived.Sort.CutIn
import Derived.Shelf.Slices.Reverse
import Derived.Ground.Names2Prog
import Derived.Shelf.Slices.Cells
import Derived.Shelf.Slices.Empties
set_option linter.unusedSimpArgs false
set_option linter.unusedVariables false
set_option linter.unusedSectionVars false
set_option linter.unnecessarySimpa false
set_option maxRecDepth 100000
set_option maxHeartbeats 8000000
namespace Go.Proofs.YtkidaindpahefaaGreat
open Go.Proofs.Tryz
variable {E:Nat->Int}{K:Law}{M:Nat->Prop}{N:Nat->Option BN}{Od:List Nat->Prop}{P:Program}{Q:Exit->Act->Wd->Prop}{R:Role->Prop}{T:TypeId}{V V' V0:Nat->BF}{W W' W1 w w' w0 w1 wx:Wd}{Wt ps:List (Nat×Nat)}{a:Act}{b base c cap e g hi i id j k lo mb n n₀ room sb x y:Nat}{cs:Array Value}{d d' d0:Ae}{fs:List (Int×BF)}{lm:List ((Nat×Nat)×Value)}{m m':ManD}{nx:Int}{o' o1 oG:Own}{ops:Array Oper}{rest:List Oper}{u v v':Value}{zs:List Int}
section
variable {lev:Nat->Nat}{N0:Nat->Option BN}
def Bv (lev:Nat->Nat)(x y:Nat):Nat->Nat:=fun v=>if v=x then lev y else if v=y then lev x else lev v
def isV (N:Nat->Option BN)(y e:Nat):Prop:=∃ c,N (e/2)=some c/\c.v=y
def Turns (N:Nat->Option BN)(x y:Nat)(i:Nat):Prop:=∃ b,N i=some b/\b.v=x/\(isV N y b.lo\/isV N y b.hi)
def lowE (n:Nat)(lev:Nat->Nat)(N:Nat->Option BN)(y e:Nat):Prop:=okE N e/\lev y<lvE n lev N e
def midE (n:Nat)(lev:Nat->Nat)(N0 N:Nat->Option BN)(x y e:Nat):Prop:=lowE n lev N0 y e\/∃ c,N (e/2)=some c/\c.v=x/\¬ Turns N0 x y (e/2)
structure Bz (n:Nat)(lev:Nat->Nat)(N0:Nat->Option BN)(V0:Nat->BF)(x y:Nat)(done:Nat->Prop)(N:Nat->Option BN)(V:Nat->BF):Prop where
 n0:N 0=none
 ext:∀ i,(i=0\/∃ b,N0 i=some b)->V i=V0 i
 keep:∀ i b,N0 i=some b->¬ done i->N i=some b
 fresh:∀ i b,N i=some b->N0 i=none->b.v=x/\lowE n lev N0 y b.lo/\lowE n lev N0 y b.hi/\b.hi%2=0/\b.lo≠b.hi/\V i=iteF x (ef V0 b.hi) (ef V0 b.lo)
 dn:∀ i,done i->Turns N0 x y i/\∃ b,N i=some b/\b.v=y/\midE n lev N0 N x y b.lo/\midE n lev N0 N x y b.hi/\b.hi%2=0/\b.lo≠b.hi/\V0 i=iteF y (ef V b.hi) (ef V b.lo)
 xu:∀ i j b,N i=some b->N j=some b->b.v=x->¬ Turns N0 x y i->¬ Turns N0 x y j->i=j
theorem BM (hext:∀ i,(i=0\/∃ b,N0 i=some b)->V i=V0 i)(h:okE N0 e):ef V e=ef V0 e:=by
 funext ρ;simp only[ef,hext _ h]
theorem Bz.start (h:Dag n lev N0 V0)(x y:Nat):Bz n lev N0 V0 x y (fun _=>False) N0 V0 :=
 ⟨h.none0,fun _ _=>rfl,fun _ _ h _=>h,fun i b hb hn=>by (rw[hn] at hb;cases hb),fun _ h=>h.elim,fun i j b hi hj _ _ _=>h.uniq i j b hi hj⟩
variable {done:Nat->Prop}
theorem Bz.has (m:Bz n lev N0 V0 x y done N V){b:BN}(hb:N0 i=some b):∃ b',N i=some b':=by
 by_cases hd:done i
 . obtain⟨_,b',g0,_⟩:=m.dn i hd;exact⟨b',g0⟩
 . exact⟨b,m.keep i b hb hd⟩
theorem Bz.add (m:Bz n lev N0 V0 x y done N V){b:BN}(hf:N id=none)(hid:id≠0)(hv:b.v=x)
 (hlo:lowE n lev N0 y b.lo) (hhi:lowE n lev N0 y b.hi) (hr:b.hi%2=0) (hne:b.lo≠b.hi) (hnew:∀ i,¬ Turns N0 x y i->N i≠some b) :
 Bz n lev N0 V0 x y done (addN N id b) (addV V id b):=by
 have g8:N0 id=none:=by
  cases e:N0 id with
  | none=>rfl
  | some c=>obtain⟨b',g6⟩:=m.has e;rw[hf] at g6;cases g6
 have ne0:∀ i,(i=0\/∃ b,N0 i=some b)->i≠id:=by
  rintro i (rfl|⟨c,hc⟩)
  . exact Wn hid
  . rintro rfl;rw[g8] at hc;cases hc
 have cs:∀ i c,addN N id b i=some c->(i=id/\c=b)\/(i≠id/\N i=some c):=by
  intro i c hx
  by_cases e:i=id
  . subst e;rw[BW] at hx;exact .inl ⟨rfl,(Xp hx).symm⟩
  . rw[Bk _ e] at hx;exact .inr ⟨e,hx⟩
 have g3:∀ i,(i=0\/∃ b,N0 i=some b)->addV V id b i=V0 i:=fun i hi=>by
  simp only[addV,Vs (ne0 i hi)];exact m.ext i hi
 refine⟨by rw[Bk _ (Wn hid)];exact m.n0,g3,?_,?_,?_,?_⟩
 . intro i c hc hd;rw[Bk _ (ne0 i (.inr ⟨c,hc⟩))];exact m.keep i c hc hd
 ·intro i c hc hn;rcases cs i c hc with ⟨e1,e2⟩|⟨g0,gd⟩
  ·subst e1;subst e2
   exact⟨hv,hlo,hhi,hr,hne,by simp only[addV,Wy,hv,BM m.ext hlo.1,BM m.ext hhi.1]⟩
  . obtain⟨h1,h2,h3,h4,h5,h6⟩:=m.fresh i c gd hn;exact⟨h1,h2,h3,h4,h5,by simp only[addV,Vs g0];exact h6⟩
 ·intro i hd;obtain⟨hT,c,hc,h1,h2,h3,h4,h5,h6⟩:=m.dn i hd;have g1:∀ e,midE n lev N0 N x y e->midE n lev N0 (addN N id b) x y e/\ef (addV V id b) e=ef V e:=by
   rintro e (hl|⟨d,g4,ga,g9⟩)
   . exact⟨.inl hl,by rw[BM g3 hl.1,BM m.ext hl.1]⟩
   ·have g0:e/2≠id:=by rintro e';rw[e',hf] at g4;cases g4
    refine⟨.inr ⟨d,by rw[Bk _ g0];exact g4,ga,g9⟩,?_⟩;funext ρ;simp only[ef,addV,Vs g0]
  have g7:i≠id:=ne0 i (.inr (by obtain⟨q,hq,_⟩:=hT;exact⟨q,hq⟩));exact⟨hT,c,by rw[Bk _ g7];exact hc,h1,(g1 _ h2).1,(g1 _ h3).1,h4,h5,by rw[(g1 _ h2).2,(g1 _ h3).2];exact h6⟩
 ·intro i j c hi hj gc ti tj;rcases cs i c hi with ⟨e1,e2⟩|⟨_,g5⟩
  ·rcases cs j c hj with ⟨e3,_⟩|⟨_,g2⟩
   . rw[e1,e3]
   . subst e2;exact absurd g2 (hnew j tj)
  ·rcases cs j c hj with ⟨_,e2⟩|⟨_,g2⟩
   . subst e2;exact absurd g5 (hnew i ti)
   . exact m.xu i j c g5 g2 gc ti tj
def setN (N:Nat->Option BN)(i:Nat)(b:BN):Nat->Option BN:=fun j=>if j=i then some b else N j
theorem Bz.turn (m:Bz n lev N0 V0 x y done N V)(hxy:x≠y)(hT:Turns N0 x y i)(hlo:midE n lev N0 N x y lo)(hhi:midE n lev N0 N x y hi)(hr:hi%2=0)(hne:lo≠hi)
 (hV:V0 i=iteF y (ef V hi) (ef V lo)):Bz n lev N0 V0 x y (fun j=>done j\/j=i) (setN N i ⟨y,lo,hi⟩) V:=by
 obtain⟨b0,g3,gf,ge⟩:=hT;have hT:Turns N0 x y i:=⟨b0,g3,gf,ge⟩;have g9:i≠0:=by
  rintro rfl;obtain⟨b',g4⟩:=m.has g3;rw[m.n0] at g4;cases g4
 have cs:∀ j c,setN N i ⟨y,lo,hi⟩ j=some c->(j=i/\c=⟨y,lo,hi⟩)\/(j≠i/\N j=some c):=by
  intro j c hx
  by_cases e:j=i
  . subst e;simp only[setN,Wy,Wg] at hx;exact .inl ⟨rfl,hx.symm⟩
  . simp only[setN,Vs e] at hx;exact .inr ⟨e,hx⟩
 have g0:∀ e,midE n lev N0 N x y e->midE n lev N0 (setN N i ⟨y,lo,hi⟩) x y e:=by
  rintro e (hl|⟨d,gc,ga,g1⟩)
  . exact .inl hl
  ·have g5:e/2≠i:=by rintro e';rw[e'] at g1;exact g1 hT
   exact .inr ⟨d,by simp only[setN,Vs g5];exact gc,ga,g1⟩
 refine⟨by simp only[setN,Vs (Wn g9)];exact m.n0,m.ext,?_,?_,?_,?_⟩
 ·intro j c hc hd;have g7:j≠i:=fun e=>hd (.inr e)
  simp only[setN,Vs g7];exact m.keep j c hc (fun h=>hd (.inl h))
 ·intro j c hc hn;rcases cs j c hc with ⟨e1,_⟩|⟨_,gd⟩
  . subst e1;rw[g3] at hn;cases hn
  . exact m.fresh j c gd hn
 ·intro j hd
  by_cases e:j=i
  . subst e;exact⟨hT,⟨y,lo,hi⟩,by simp only[setN,Wy],rfl,g0 _ hlo,g0 _ hhi,hr,hne,hV⟩
  . obtain⟨gg,c,hc,h1,h2,h3,h4,h5,h6⟩:=m.dn j (hd.resolve_right e);exact⟨gg,c,by simp only[setN,Vs e];exact hc,h1,g0 _ h2,g0 _ h3,h4,h5,h6⟩
 ·intro j k c hj hk g2 tj tk;rcases cs j c hj with ⟨e1,e2⟩|⟨_,g8⟩
  . subst e2;exact absurd g2.symm hxy
  ·rcases cs k c hk with ⟨e1,e2⟩|⟨_,g6⟩
   . subst e2;exact absurd g2.symm hxy
   . exact m.xu j k c g8 g6 g2 tj tk
theorem DI (lev:Nat->Nat)(x y:Nat):Bv lev x y x=lev y:=by simp[Bv]
theorem DJ (lev:Nat->Nat)(h:x≠y):Bv lev x y y=lev x:=by simp[Bv,Wn h]
theorem EQ (lev:Nat->Nat){v:Nat}(hx:v≠x)(hy:v≠y):Bv lev x y v=lev v:=by simp[Bv,hx,hy]
theorem Rq (hxl:lev x<lev y)(hl:lowE n lev N0 y e){c:BN}(hc:N0 (e/2)=some c):c.v≠x/\c.v≠y:=by
 have:=hl.2;simp only[lvE,hc] at this;exact⟨by rintro e;rw[e] at this;omega,by rintro e;rw[e] at this;omega⟩
theorem Bz.final (h:Dag n lev N0 V0)(hx:x<n)(hy:y<n)(hl:lev y=lev x+1)(m:Bz n lev N0 V0 x y done N V)(hall:∀ i,Turns N0 x y i->done i):Dag n (Bv lev x y) N V:=by
 have g5:x≠y:=by rintro rfl;omega
 have gk:lev x<lev y:=by omega
 have kinds:∀ i b,N i=some b->(N0 i=none/\b.v=x/\lowE n lev N0 y b.lo/\lowE n lev N0 y b.hi/\b.hi%2=0/\b.lo≠b.hi/\V i=iteF x (ef V0 b.hi) (ef V0 b.lo)) \/
  (Turns N0 x y i/\b.v=y/\midE n lev N0 N x y b.lo/\midE n lev N0 N x y b.hi/\b.hi%2=0/\b.lo≠b.hi/\V0 i=iteF y (ef V b.hi) (ef V b.lo)) \/
  (N0 i=some b/\¬ Turns N0 x y i):=by
  intro i b hb;cases e:N0 i with
  | none=>exact .inl ⟨rfl,m.fresh i b hb e⟩
  | some c =>
    right
    by_cases hd:done i
    . obtain⟨hT,b',g4,rest⟩:=m.dn i hd;obtain rfl:b'=b:=Xp (g4.symm.trans hb);exact .inl ⟨hT,rest⟩
    . have:=m.keep i c e hd;obtain rfl:c=b:=Xp (this.symm.trans hb);exact .inr ⟨rfl,fun hT=>hd (hall i hT)⟩
 have low:∀ e,lowE n lev N0 y e->okE N e/\lvE n (Bv lev x y) N e=lvE n lev N0 e/\ef V e=ef V0 e:=by
  intro e he;refine⟨?_,?_,BM m.ext he.1⟩
  ·rcases he.1 with h0|⟨c,hc⟩
   . exact .inl h0
   . obtain⟨b',g4⟩:=m.has hc;exact .inr ⟨b',g4⟩
  ·rcases he.1 with h0|⟨c,hc⟩
   . simp only[lvE,h0,m.n0,h.none0]
   ·have gf:=Rq gk he hc;have gj:¬ done (e/2):=fun hd=>by
     obtain⟨⟨q,hq,gc,_⟩,_⟩:=m.dn _ hd;rw[hc] at hq;cases hq;exact gf.1 gc
    simp only[lvE,m.keep _ _ hc gj,hc,EQ lev gf.1 gf.2]
 have mid:∀ e,midE n lev N0 N x y e->okE N e/\lev x<lvE n (Bv lev x y) N e:=by
  rintro e (he|⟨c,hc,g9,_⟩)
  . obtain⟨h1,h2,_⟩:=low e he;exact⟨h1,by rw[h2];have:=he.2;omega⟩
  . exact⟨.inr ⟨c,hc⟩,by simp only[lvE,hc,g9,DI];omega⟩
 have old:∀ i b e,N0 i=some b->¬ Turns N0 x y i->(e=b.lo\/e=b.hi)->okE N e/\Bv lev x y b.v<lvE n (Bv lev x y) N e/\ef V e=ef V0 e:=by
  intro i b e hb g0 he;have ho:okE N0 e:=by rcases he with rfl|rfl;exact h.okLo _ _ hb;exact h.okHi _ _ hb
  have g1:lev b.v<lvE n lev N0 e:=by rcases he with rfl|rfl;exact h.lvLo _ _ hb;exact h.lvHi _ _ hb
  have gi:b.v=x->¬ isV N0 y e:=fun g8 gh=>g0 ⟨b,hb,g8,by rcases he with rfl|rfl;exact .inl gh;exact .inr gh⟩
  refine⟨?_,?_,BM m.ext ho⟩
  ·rcases ho with h0|⟨c,hc⟩
   . exact .inl h0
   . obtain⟨b',g4⟩:=m.has hc;exact .inr ⟨b',g4⟩
  ·by_cases g8:b.v=x
   ·have g7:lowE n lev N0 y e:=by
     refine⟨ho,?_⟩;rw[g8] at g1;rcases ho with h0|⟨c,hc⟩
     . simp only[lvE,h0,h.none0] at g1 ⊢;exact h.lt y hy
     ·simp only[lvE,hc] at g1 ⊢;have:c.v≠y:=fun e'=>gi g8 ⟨c,hc,e'⟩
      have h2:lev c.v≠lev y:=fun e'=>this (h.inj _ _ (h.var _ _ hc) hy e')
      omega
    rw[(low e g7).2.1,g8,DI];exact g7.2
   ·by_cases gg:b.v=y
    . have g7:lowE n lev N0 y e:=⟨ho,by rw[gg] at g1;exact g1⟩;rw[(low e g7).2.1,gg,DJ lev g5];have:=g7.2;omega
    ·rw[EQ lev g8 gg];rcases ho with h0|⟨c,hc⟩
     . simp only[lvE,h0,m.n0];exact h.lt _ (h.var _ _ hb)
     ·simp only[lvE,hc] at g1;have gl:=h.var _ _ hc
      by_cases hd:done (e/2)
      ·obtain⟨⟨q,hq,gc,_⟩,b',g4,hb'y,_⟩:=m.dn _ hd;rw[hc] at hq;cases hq
       simp only[lvE,g4,hb'y,DJ lev g5];rw[gc] at g1;exact g1
      ·simp only[lvE,m.keep _ _ hc hd]
       by_cases g9:c.v=x
       . rw[g9,DI];rw[g9] at g1;omega
       ·by_cases ge:c.v=y
        ·rw[ge,DJ lev g5];rw[ge] at g1;have h2:lev b.v≠lev x:=fun e'=>g8 (h.inj _ _ (h.var _ _ hb) hx e')
         omega
        . rw[EQ lev g9 ge];exact g1
 refine⟨fun ρ=>by rw[m.ext 0 (.inl rfl)];exact h.one ρ,m.n0,?_,?_,?_,?_,?_,?_,?_,?_,?_,?_,?_⟩
 ·intro i b hb;rcases kinds i b hb with ⟨_,hv,_⟩|⟨_,hv,_⟩|⟨h0,_⟩
  . rw[hv];exact hx
  . rw[hv];exact hy
  . exact h.var _ _ h0
 ·intro u v hu hv he;have hs:∀ u,u<n->Bv lev x y u=lev (if u=x then y else if u=y then x else u):=by
   intro u _;simp only[Bv];(split;· rfl);split<;>rfl
  have hb:∀ u,u<n->(if u=x then y else if u=y then x else u)<n:=by
   intro u hu;(split;· exact hy);(split;· exact hx);exact hu
  rw[hs u hu,hs v hv] at he;have:=h.inj _ _ (hb u hu) (hb v hv) he
  by_cases a:u=x
  ·rw[Vw a] at this
   by_cases b:v=x
   . rw[a,b]
   ·rw[Vs b] at this
    by_cases c:v=y
    . rw[Vw c] at this;exact absurd this.symm g5
    . rw[Vs c] at this;exact absurd this.symm c
  ·rw[Vs a] at this
   by_cases b:v=x
   ·rw[Vw b] at this
    by_cases c:u=y
    . rw[Vw c] at this;exact absurd this g5
    . rw[Vs c] at this;exact absurd this c
   ·rw[Vs b] at this
    by_cases c:u=y
    ·rw[Vw c] at this
     by_cases d:v=y
     . rw[c,d]
     . rw[Vs d] at this;exact absurd this.symm b
    ·rw[Vs c] at this
     by_cases d:v=y
     . rw[Vw d] at this;exact absurd this a
     . rw[Vs d] at this;exact this
 ·intro v hv;simp only[Bv];split
  . exact h.lt y hy
  ·split
   . exact h.lt x hx
   . exact h.lt v hv
 ·intro i b hb;rcases kinds i b hb with ⟨_,_,g2,_⟩|⟨_,_,g2,_⟩|⟨h0,g0⟩
  . exact(low _ g2).1
  . exact(mid _ g2).1
  . exact(old i b b.lo h0 g0 (.inl rfl)).1
 ·intro i b hb;rcases kinds i b hb with ⟨_,_,_,g3,_⟩|⟨_,_,_,g3,_⟩|⟨h0,g0⟩
  . exact(low _ g3).1
  . exact(mid _ g3).1
  . exact(old i b b.hi h0 g0 (.inr rfl)).1
 ·intro i b hb;rcases kinds i b hb with ⟨_,hv,g2,_⟩|⟨_,hv,g2,_⟩|⟨h0,g0⟩
  . rw[hv,DI,(low _ g2).2.1];exact g2.2
  . rw[hv,DJ lev g5];exact(mid _ g2).2
  . exact(old i b b.lo h0 g0 (.inl rfl)).2.1
 ·intro i b hb;rcases kinds i b hb with ⟨_,hv,_,g3,_⟩|⟨_,hv,_,g3,_⟩|⟨h0,g0⟩
  . rw[hv,DI,(low _ g3).2.1];exact g3.2
  . rw[hv,DJ lev g5];exact(mid _ g3).2
  . exact(old i b b.hi h0 g0 (.inr rfl)).2.1
 ·intro i b hb;rcases kinds i b hb with ⟨_,_,_,_,hr,_⟩|⟨_,_,_,_,hr,_⟩|⟨h0,_⟩
  . exact hr
  . exact hr
  . exact h.reg _ _ h0
 ·intro i b hb;rcases kinds i b hb with ⟨_,_,_,_,_,gd,_⟩|⟨_,_,_,_,_,gd,_⟩|⟨h0,_⟩
  . exact gd
  . exact gd
  . exact h.ne _ _ h0
 ·intro i j b hi hj;have yFn:∀ i,N i=some b->b.v=y->(∃ c,N0 i=some c)/\V0 i=iteF y (ef V b.hi) (ef V b.lo):=by
   intro i hi hv;rcases kinds i b hi with ⟨_,g6,_⟩|⟨⟨q,hq,_⟩,_,_,_,_,_,hV⟩|⟨h0,g0⟩
   . rw[hv] at g6;exact absurd g6.symm g5
   . exact⟨⟨q,hq⟩,hV⟩
   . refine⟨⟨b,h0⟩,?_⟩;rw[(old i b b.lo h0 g0 (.inl rfl)).2.2,(old i b b.hi h0 g0 (.inr rfl)).2.2,<- hv];exact h.eqn _ _ h0
  have xT:b.v=x->∀ i,N i=some b->¬ Turns N0 x y i:=by
   intro hv i hi hT;obtain⟨_,b',g4,hb'y,_⟩:=m.dn i (hall i hT);rw[hi] at g4;cases g4
   rw[hv] at hb'y;exact g5 hb'y
  by_cases g6:b.v=x
  . exact m.xu i j b hi hj g6 (xT g6 i hi) (xT g6 j hj)
  ·by_cases ga:b.v=y
   ·obtain⟨⟨c,hc⟩,e1⟩:=yFn i hi ga;obtain⟨⟨d,hd⟩,e2⟩:=yFn j hj ga;have:2*i=2*j:=by
     refine h.canon (Df hc) (Df hd) ?_;funext ρ;have h1:2*i/2=i:=by omega
     have h2:2*j/2=j:=by omega
     have h3:2*i%2=0:=by omega
     have h4:2*j%2=0:=by omega
     simp only[ef,h1,h2,h3,h4,e1,e2]
    omega
   ·have o:∀ i,N i=some b->N0 i=some b:=by
     intro i hi;rcases kinds i b hi with ⟨_,hv,_⟩|⟨_,hv,_⟩|⟨h0,_⟩
     . exact absurd hv g6
     . exact absurd hv ga
     . exact h0
    exact h.uniq i j b (o i hi) (o j hj)
 ·intro i b hb;rcases kinds i b hb with ⟨_,hv,g2,g3,_,_,hV⟩|⟨hT,hv,_,_,_,_,hV⟩|⟨h0,g0⟩
  . rw[hV,hv,(low _ g2).2.2,(low _ g3).2.2]
  . obtain⟨q,hq,_⟩:=hT;rw[m.ext i (.inr ⟨q,hq⟩),hV,hv]
  . rw[m.ext i (.inr ⟨b,h0⟩),(old i b b.lo h0 g0 (.inl rfl)).2.2,(old i b b.hi h0 g0 (.inr rfl)).2.2];exact h.eqn _ _ h0
end
open Go.RowKit Go.Shelf
structure TN where
 n:RN
 ll:Nat
 lh:Nat
 hl:Nat
 hh:Nat
variable {ts:List TN}
def tnV (t:TN):List Value:=rnV t.n++[Iv t.ll,Iv t.lh,Iv t.hl,Iv t.hh]
def tnOf (d:Ae)(y:Nat)(i:Nat):TN:=⟨d.pool.nd i,(cofs d (d.pool.nd i).lo y).1,(cofs d (d.pool.nd i).lo y).2,(cofs d (d.pool.nd i).hi y).1,(cofs d (d.pool.nd i).hi y).2⟩
def Ce (d:Ae)(y:Nat)(i:Nat):Bool:=decide ((tnOf d y i).ll≠(tnOf d y i).lh\/(tnOf d y i).hl≠(tnOf d y i).hh)
theorem Lz (hk:Ak d V)(e y:Nat):(cofs d e y).1≠(cofs d e y).2↔isV (Aa d) y e:=by
 unfold cofs isV;cases hb:Aa d (e/2) with
 | none=>simp
 | some b =>
   by_cases h:b.v=y
   ·have h1:(b.v:Int)=(y:Int):=by omega
    simp only[h1,Wy];constructor
    . intro _;exact⟨b,rfl,h⟩
    . intro _;exact FC (hk.dag.ne _ _ hb)
   ·have h1:¬ (b.v:Int)=(y:Int):=by omega
    simp only[h1,if_false];constructor
    . intro hh;exact(hh rfl).elim
    . rintro⟨c,hc,hv⟩;cases hc;exact(h hv).elim
theorem I4 (hk:Ak d V){b:BN}(hb:Aa d i=some b)(hx:b.v=x):Ce d y i=true↔Turns (Aa d) x y i:=by
 obtain⟨_,_,he⟩:=BJ hb;have g0:bnOf (d.pool.nd i)=b:=by rw[<- (BJ hb).2.1];exact he
 have e1:(d.pool.nd i).lo=b.lo:=by rw[<- g0];rfl
 have e2:(d.pool.nd i).hi=b.hi:=by rw[<- g0];rfl
 unfold Ce tnOf;rw[WH,e1,e2,Lz hk,Lz hk];constructor
 . intro h;exact⟨b,hb,hx,h⟩
 . rintro⟨c,hc,_,h⟩;rw[hb] at hc;cases hc;exact h
open Go.RowKit
noncomputable def rkSw (n:Nat)(lev:Nat->Nat)(N0:Nat->Option BN)(x y:Nat)(N:Nat->Option BN)(i:Nat):Nat :=
 open Classical in if Turns N0 x y i then 2 * (n - lev x) else match N i with
  | none=>0
  | some b=>if b.v=x then 2*(n-lev x)-1 else 2*(n-lev b.v)
section
variable {lev:Nat->Nat}{N0:Nat->Option BN}{done:Nat->Prop}
theorem Ga (h:Turns N0 x y i):rkSw n lev N0 x y N i=2*(n-lev x):=by unfold rkSw;rw[Vw h]
theorem ER {b:BN}(h:¬ Turns N0 x y i)(hb:N i=some b)(hx:b.v=x):rkSw n lev N0 x y N i=2*(n-lev x)-1:=by unfold rkSw;rw[Vs h,hb];simp[hx]
theorem L0 {b:BN}(h:¬ Turns N0 x y i)(hb:N i=some b)(hx:b.v≠x):rkSw n lev N0 x y N i=2*(n-lev b.v):=by unfold rkSw;rw[Vs h,hb];simp[hx]
theorem I5 {b:BN}(hb:N0 i=some b)(h:Turns N0 x y i):b.v=x:=by
 obtain⟨c,hc,hx,_⟩:=h;rw[hb] at hc;cases hc;exact hx
theorem I6 (m:Bz n lev N0 V0 x y done N V){c0 c:BN}(h0:N0 (e/2)=some c0)(hc:N (e/2)=some c) :
 (Turns N0 x y (e/2)/\c0.v=x/\rkSw n lev N0 x y N (e/2)=2*(n-lev x))\/(¬ Turns N0 x y (e/2)/\c=c0/\rkSw n lev N0 x y N (e/2)<=2*(n-lev c0.v)/\(c0.v=x->rkSw n lev N0 x y N (e/2)=2*(n-lev x)-1)):=by
 by_cases hT:Turns N0 x y (e/2)
 . exact .inl ⟨hT,I5 h0 hT,Ga hT⟩
 ·have hk:=m.keep _ _ h0 (fun hd=>hT (m.dn _ hd).1);rw[hc] at hk;cases hk;refine .inr ⟨hT,rfl,?_,fun hx=>ER hT hc hx⟩
  by_cases hx:c0.v=x
  . rw[ER hT hc hx,hx];omega
  . rw[L0 hT hc hx];exact Vu _
theorem Ej (m:Bz n lev N0 V0 x y done N V)(h:okE N0 e):okE N e:=by
 rcases h with h|⟨c,hc⟩
 . exact .inl h
 . obtain⟨b,hb⟩:=m.has hc;exact .inr ⟨b,hb⟩
theorem L1 (m:Bz n lev N0 V0 x y done N V)(h:midE n lev N0 N x y e):okE N e:=by
 rcases h with h|⟨c,hc,_⟩
 . exact Ej m h.1
 . exact .inr ⟨c,hc⟩
theorem ES {c:BN}(h:N0 (e/2)=some c):lvE n lev N0 e=lev c.v:=by unfold lvE;rw[h]
theorem L2 (h:Dag n lev N0 V0)(hx:x<n)(hl:lev y=lev x+1)(m:Bz n lev N0 V0 x y done N V){c:BN}(he:lowE n lev N0 y e)(hc:N (e/2)=some c):rkSw n lev N0 x y N (e/2)+3<=2*(n-lev x):=by
 have g1:=h.lt x hx;rcases he.1 with h0|⟨c0,g0⟩
 . rw[h0,m.n0] at hc;cases hc
 ·have h1:=he.2;rw[ES g0] at h1;have h2:=h.lt _ (h.var _ _ g0);rcases I6 m g0 hc with ⟨_,hv,_⟩|⟨_,_,h3,_⟩
  . rw[hv] at h1;omega
  . omega
theorem L3 (h:Dag n lev N0 V0)(hx:x<n)(hl:lev y=lev x+1)(m:Bz n lev N0 V0 x y done N V){c:BN}(he:midE n lev N0 N x y e)(hc:N (e/2)=some c):rkSw n lev N0 x y N (e/2)+1<=2*(n-lev x):=by
 have g1:=h.lt x hx;rcases he with he|⟨c',g0,hv,hT⟩
 . have:=L2 h hx hl m he hc;omega
 . rw[ER hT g0 hv];omega
theorem Rr (h:Dag n lev N0 V0)(hx:x<n)(hl:lev y=lev x+1)(m:Bz n lev N0 V0 x y done N V):Acy N (rkSw n lev N0 x y N):=by
 have g6:=h.lt x hx;have edge:∀ i b e,N i=some b->(e=b.lo\/e=b.hi)->okE N e/\∀ c,N (e/2)=some c->rkSw n lev N0 x y N (e/2)<rkSw n lev N0 x y N i:=by
  intro i b e hb he;cases h0:N0 i with
  | none =>
    obtain⟨hv,h1,h2,_⟩:=m.fresh i b hb h0;have g2:lowE n lev N0 y e:=by rcases he with rfl|rfl;exact h1;exact h2
    have hT:¬ Turns N0 x y i:=fun⟨q,hq,_⟩=>by rw[h0] at hq;cases hq
    refine⟨Ej m g2.1,fun c hc=>?_⟩;have:=L2 h hx hl m g2 hc;rw[ER hT hb hv];omega
  | some b0 =>
    by_cases hd:done i
    ·obtain⟨hT,b',g4,_,h1,h2,_⟩:=m.dn i hd;rw[hb] at g4;cases g4
     have hm:midE n lev N0 N x y e:=by rcases he with rfl|rfl;exact h1;exact h2
     refine⟨L1 m hm,fun c hc=>?_⟩;have:=L3 h hx hl m hm hc;rw[Ga hT];omega
    ·have hk:=m.keep i b0 h0 hd;rw[hb] at hk;cases hk
     have ho:okE N0 e:=by rcases he with rfl|rfl;exact h.okLo _ _ h0;exact h.okHi _ _ h0
     have g0:lev b.v<lvE n lev N0 e:=by rcases he with rfl|rfl;exact h.lvLo _ _ h0;exact h.lvHi _ _ h0
     refine⟨Ej m ho,fun c hc=>?_⟩;have g9:=h.lt _ (h.var _ _ h0);rcases ho with hz|⟨c0,g3⟩
     . rw[hz,m.n0] at hc;cases hc
     ·rw[ES g3] at g0;have g8:=h.lt _ (h.var _ _ g3);have hi:(Turns N0 x y i/\rkSw n lev N0 x y N i=2*(n-lev x)/\b.v=x)\/(¬ Turns N0 x y i/\b.v=x/\rkSw n lev N0 x y N i=2*(n-lev x)-1)\/(¬ Turns N0 x y i/\b.v≠x/\rkSw n lev N0 x y N i=2*(n-lev b.v)):=by
       by_cases hT:Turns N0 x y i
       . exact .inl ⟨hT,Ga hT,I5 h0 hT⟩
       ·by_cases g1:b.v=x
        . exact .inr (.inl ⟨hT,g1,ER hT hb g1⟩)
        . exact .inr (.inr ⟨hT,g1,L0 hT hb g1⟩)
      rcases I6 m g3 hc with ⟨_,g5,hr⟩|⟨_,_,hr,g7⟩
      ·rw[hr];rw[g5] at g0;rcases hi with ⟨_,_,hv⟩|⟨_,hv,_⟩|⟨_,_,h2⟩
       . rw[hv] at g0;omega
       . rw[hv] at g0;omega
       . rw[h2];omega
      ·rcases hi with ⟨_,h2,hv⟩|⟨_,hv,h2⟩|⟨_,hv,h2⟩
       . rw[h2];rw[hv] at g0;omega
       . rw[h2];rw[hv] at g0;omega
       . rw[h2];omega
 exact⟨m.n0,fun i b hb=>(edge i b _ hb (.inl rfl)).1,fun i b hb=>(edge i b _ hb (.inr rfl)).1,fun i b c hb hc=>(edge i b _ hb (.inl rfl)).2 c hc,fun i b c hb hc=>(edge i b _ hb (.inr rfl)).2 c hc⟩
end
theorem Rs {α:Type}[DecidableEq α]{l:List α}(hn:l.Nodup){κ:α}(hk:κ∈l){p q:α->Bool}(hp:p κ=false)(hq:∀ a,q a=(p a||decide (a=κ))):(l.filter q).length=(l.filter p).length+1:=by
 induction l with
 | nil=>cases hk
 | cons a l ih =>
   rw[X0] at hn;have g0:=hq a
   by_cases e:a=κ
   ·subst e;have g2:∀ b∈l,b≠a:=fun b hb e=>hn.1 (e ▸ hb)
    have hl:l.filter q=l.filter p:=List.filter_congr fun b hb=>by rw[hq b];simp[g2 b hb]
    simp only[X4,g0,hp,hl];simp
   ·have g3:κ∈l:=by
     rcases Wj.1 hk with h|h
     . exact(e h.symm).elim
     . exact h
    have:=ih hn.2 g3;have g1:q a=p a:=by rw[g0];simp[e]
    simp only[X4,g1];split
    . simp[this]
    . exact this
structure A6 (d0:Ae)(V0:Nat->BF)(k x y:Nat)(Wt:List (Nat×Nat))(E:Nat->Int)(done:Nat->Prop)(d:Ae)(V:Nat->BF):Prop where
 mid:Bz d0.vars.length (levN d0) (Aa d0) V0 x y done (Aa d) V
 vars:d.vars=(Bd d0 k).vars
 level:d.level=(Bd d0 k).level
 room:d.pool.room=d0.pool.room
 ext:Aj d=Aj d0
 live:AD d E
 tabO:∀ v,v<d0.vars.length->v≠x->∀ lo hi id,d.tab v (lo,hi)=some id↔Aa d id=some ⟨v,lo,hi⟩
 tabX:∀ lo hi id,d.tab x (lo,hi)=some id↔Aa d id=some ⟨x,lo,hi⟩/\¬ Turns (Aa d0) x y id
 clen:d.counts.length<=1048578
 pos:∀ i,Turns (Aa d0) x y i->0<Ai d i
 many:d.pool.many=d0.pool.many+(Wt.filter fun κ=>(d.tab x κ).isSome).length
section
variable {done:Nat->Prop}
theorem A6.has0 (m:A6 d0 V0 k x y Wt E done d V)(h:Aa d i=none):Aa d0 i=none:=by
 cases e:Aa d0 i with
 | none=>rfl
 | some c=>obtain⟨b',g0⟩:=m.mid.has e;rw[h] at g0;cases g0
theorem A6.add {id lo hi:Nat}(m:A6 d0 V0 k x y Wt (Aj d0) done d V)(r:D7 d d' id x lo hi)(hlo:lowE d0.vars.length (levN d0) (Aa d0) y lo)(hhi:lowE d0.vars.length (levN d0) (Aa d0) y hi)(hr:hi%2=0)(hne:lo≠hi)
 (ht:d.tab x (lo,hi)=none) (hW:(lo,hi)∈Wt) (hWn:Wt.Nodup):A6 d0 V0 k x y Wt (Aj d0) done d' (addV V id ⟨x,lo,hi⟩):=by
 have hid:id≠0:=by have:=r.pos;omega
 have g2:∀ i,¬ Turns (Aa d0) x y i->Aa d i≠some ⟨x,lo,hi⟩:=fun i hT e=>by rw[(m.tabX lo hi i).2 ⟨e,hT⟩] at ht;cases ht
 have g6:=m.mid.add r.none hid rfl hlo hhi hr hne g2;have h0:=m.has0 r.none;have g4:¬ Turns (Aa d0) x y id:=fun⟨q,hq,_⟩=>by rw[h0] at hq;cases hq
 have g3:Aj d'=Aj d0:=by
  rw[r.ext];funext i
  by_cases e:i=id
  . subst e;simp[DT h0]
  . simp only[Vs e,m.ext]
 have g0:=r.live;rw[g3] at g0;refine⟨by rw[r.nodes];exact g6,r.vars.trans m.vars,r.level.trans m.level,r.room.trans m.room,g3,g0,fun v hv g1 lo' g5 i=>?_,fun lo' g5 i=>?_,r.clen,fun i hT=>?_,?_⟩
 ·rw[r.tab,r.nodes];dsimp only;rw[Vs g1,m.tabO v hv g1]
  by_cases e4:i=id
  ·subst e4;rw[BW,r.none];constructor
   . intro e5;cases e5
   . intro e5;cases e5;exact absurd rfl g1
  . rw[Bk _ e4]
 ·rw[r.tab,r.nodes];dsimp only;rw[Vw rfl];unfold putF
  by_cases e2:(lo',g5)=(lo,hi)
  ·cases e2;rw[Vw rfl];constructor
   . intro e3;cases e3;rw[BW];exact⟨rfl,g4⟩
   ·rintro⟨e3,e5⟩
    by_cases e4:i=id
    . rw[e4]
    . rw[Bk _ e4] at e3;exact absurd e3 (g2 i e5)
  ·rw[Vs e2,m.tabX]
   by_cases e4:i=id
   ·subst e4;rw[BW,r.none];constructor
    . rintro⟨e5,_⟩;cases e5
    . rintro⟨e5,_⟩;cases e5;exact absurd rfl e2
   . rw[Bk _ e4]
 . rw[r.cnt];unfold setC;rw[Vs (fun e=>g4 (by rw[<- e];exact hT))];exact m.pos i hT
 ·rw[r.many,m.many];have e1:(Wt.filter fun κ=>(d'.tab x κ).isSome).length=(Wt.filter fun κ=>(d.tab x κ).isSome).length+1:=by
   refine Rs hWn hW (by rw[ht];rfl) fun κ=>?_
   rw[r.tab];dsimp only;rw[Vw rfl];unfold putF
   by_cases e:κ=(lo,hi)
   . simp[e]
   . simp[e]
  rw[e1];omega
theorem A6.counts {E':Nat->Int}{cs:List Nat}{dd mm:Nat}(m:A6 d0 V0 k x y Wt E done d V)(hl:AD (d.cd cs dd) E')(hlen:cs.length=d.counts.length)(hsame:∀ i,mm<=rkSw d0.vars.length (levN d0) (Aa d0) x y (Aa d) i->cs.getD i 0=d.counts.getD i 0)(hm:mm<=2*(d0.vars.length-levN d0 x)) :
 A6 d0 V0 k x y Wt E' done (d.cd cs dd) V :=
 ⟨m.mid,m.vars,m.level,m.room,m.ext,hl,m.tabO,m.tabX,by show cs.length<=_;rw[hlen];exact m.clen,fun i hT=>by
  have:=hsame i (by rw[Ga hT];exact hm)
  show 0<cs.getD i 0
  rw[this];exact m.pos i hT,m.many⟩
theorem A6.fresh_y (m:A6 d0 V0 k x y Wt E done d V)(hk:Dag d0.vars.length (levN d0) (Aa d0) V0)(hxy:x≠y)(hy:y<d0.vars.length)(hT:Turns (Aa d0) x y i)(hd:¬ done i)(hV:V0 i=iteF y (ef V hi) (ef V lo)):d.tab y (lo,hi)=none:=by
 cases e:d.tab y (lo,hi) with
 | none=>rfl
 | some j =>
   exfalso;have hj:=(m.tabO y hy (Wn hxy) lo hi j).1 e;obtain⟨b,hb,g3,g6⟩:=hT;have same:∀ j',(∃ c,Aa d0 j'=some c)->V0 j'=V0 i->j'=i:=by
    rintro j' ⟨c,hc⟩ g4;have:=hk.canon (Df hc) (Df hb) (by funext ρ;simp only[ef];rw[show 2*j'/2=j' by omega,show 2*i/2=i by omega,g4,show 2*j'%2=0 by omega,show 2*i%2=0 by omega]);omega
   by_cases g0:done j
   . obtain⟨⟨q,hq,g5,_⟩,c,hc,_,_,_,_,_,g1⟩:=m.mid.dn j g0;rw[hj] at hc;cases hc;have:=same j ⟨q,hq⟩ (g1.trans hV.symm);rw[this] at g0;exact hd g0
   ·cases h0:Aa d0 j with
    | none =>
      have:=(m.mid.fresh j _ hj h0).1;exact hxy this.symm
    | some c =>
      have g2:=m.mid.keep j c h0 g0;rw[hj] at g2;cases g2;have g1:V0 j=iteF y (ef V0 hi) (ef V0 lo):=hk.eqn _ _ h0;have e1:=BM m.mid.ext (hk.okLo _ _ h0);have e2:=BM m.mid.ext (hk.okHi _ _ h0);dsimp only at e1 e2;rw[<- e1,<- e2] at g1;have:=same j ⟨_,h0⟩ (g1.trans hV.symm);subst this;rw[hb] at h0;cases h0;exact hxy g3.symm
end
theorem L4 {v:Nat}(h:V id=iteF v (ef V (eflip hi (eneg hi))) (ef V (eflip lo (eneg hi)))):ef V (eflip (2*id) (eneg hi))=iteF v (ef V hi) (ef V lo):=by
 funext ρ;rw[Cv];have e0:ef V (2*id) ρ=V id ρ:=by unfold ef;rw[show 2*id/2=id by omega,show 2*id%2=0 by omega];simp
 rw[e0,h];unfold iteF;split<;>rw[Cv]<;>cases eneg hi<;>simp
section
variable {done:Nat->Prop}
theorem A6.valX (m:A6 d0 V0 k x y Wt E done d V)(hk:Dag d0.vars.length (levN d0) (Aa d0) V0){a:Nat}(hb:Aa d id=some ⟨x,a,b⟩)(hT:¬ Turns (Aa d0) x y id)(ha:lowE d0.vars.length (levN d0) (Aa d0) y a)(hbb:lowE d0.vars.length (levN d0) (Aa d0) y b):V id=iteF x (ef V b) (ef V a):=by
 have e1:=BM m.mid.ext ha.1;have e2:=BM m.mid.ext hbb.1;rw[e1,e2];cases h0:Aa d0 id with
 | none=>exact(m.mid.fresh id _ hb h0).2.2.2.2.2
 | some c =>
   have g0:=m.mid.keep id c h0 (fun hd=>hT (m.mid.dn _ hd).1);rw[hb] at g0;cases g0;rw[m.mid.ext id (.inr ⟨_,h0⟩)];exact hk.eqn _ _ h0
theorem Dv {lev:Nat->Nat}{b:Bool}(h:lowE n lev N y e):lowE n lev N y (eflip e b):=⟨Dg h.1,by rw[Dr];exact h.2⟩
def bkey (lo hi:Nat):Nat×Nat:=(eflip lo (eneg hi),eflip hi (eneg hi))
structure C0 (d0:Ae)(V0:Nat->BF)(k x y:Nat)(Wt:List (Nat×Nat))(done:Nat->Prop)(d:Ae)(V:Nat->BF)(lo hi:Nat)(r:Nat)(d':Ae)(V':Nat->BF):Prop where
 mid:A6 d0 V0 k x y Wt (Aj d0) done d' V'
 edge:midE d0.vars.length (levN d0) (Aa d0) (Aa d') x y r
 val:ef V' r=iteF x (ef V0 hi) (ef V0 lo)
 reg:hi%2=0->r%2=0
 keep:∀ e,midE d0.vars.length (levN d0) (Aa d0) (Aa d) x y e->midE d0.vars.length (levN d0) (Aa d0) (Aa d') x y e/\ef V' e=ef V e
theorem L5 (id:Nat)(hi:Nat)(h:hi%2=0):eflip (2*id) (eneg hi)%2=0:=by
 unfold eneg eflip;have:(hi%2 == 1)=false:=by rw[h];rfl
 rw[this];simp
theorem Rt (m:A6 d0 V0 k x y Wt (Aj d0) done d V)(hlo:lowE d0.vars.length (levN d0) (Aa d0) y lo):C0 d0 V0 k x y Wt done d V lo lo lo d V :=
 ⟨m,.inl hlo,by rw[BM m.mid.ext hlo.1];funext ρ;unfold iteF;split<;>rfl,fun h=>h,fun e he=>⟨he,rfl⟩⟩
theorem Ru (m:A6 d0 V0 k x y Wt (Aj d0) done d V)(hk:Dag d0.vars.length (levN d0) (Aa d0) V0)(hlo:lowE d0.vars.length (levN d0) (Aa d0) y lo)(hhi:lowE d0.vars.length (levN d0) (Aa d0) y hi)(ht:d.tab x (bkey lo hi)=some id) :
 C0 d0 V0 k x y Wt done d V lo hi (eflip (2*id) (eneg hi)) d V:=by
 obtain⟨hb,hT⟩:=(m.tabX _ _ id).1 ht;refine⟨m,.inr ⟨_,by rw[CP,show 2*id/2=id by omega];exact hb,rfl,by rw[CP,show 2*id/2=id by omega];exact hT⟩,?_,L5 id hi,fun e he=>⟨he,rfl⟩⟩;rw[L4 (m.valX hk hb hT (Dv hlo) (Dv hhi)),BM m.mid.ext hlo.1,BM m.mid.ext hhi.1]
theorem Rv (m:A6 d0 V0 k x y Wt (Aj d0) done d V)(hk:Dag d0.vars.length (levN d0) (Aa d0) V0)(hlo:lowE d0.vars.length (levN d0) (Aa d0) y lo)(hhi:lowE d0.vars.length (levN d0) (Aa d0) y hi)(hne:lo≠hi)
 (ht:d.tab x (bkey lo hi)=none) (r:D7 d d' id x (bkey lo hi).1 (bkey lo hi).2) (hW:bkey lo hi∈Wt) (hWn:Wt.Nodup) :
 C0 d0 V0 k x y Wt done d V lo hi (eflip (2*id) (eneg hi)) d' (addV V id ⟨x,(bkey lo hi).1,(bkey lo hi).2⟩):=by
 have hid:id≠0:=by have:=r.pos;omega
 have m':=m.add r (Dv hlo) (Dv hhi) (K2 hi) (FC hne) ht hW hWn;have hT:¬ Turns (Aa d0) x y id:=fun⟨q,hq,_⟩=>by rw[m.has0 r.none] at hq;cases hq
 have hb:Aa d' id=some ⟨x,(bkey lo hi).1,(bkey lo hi).2⟩:=by rw[r.nodes,BW]
 refine⟨m',.inr ⟨_,by rw[CP,show 2*id/2=id by omega];exact hb,rfl,by rw[CP,show 2*id/2=id by omega];exact hT⟩,?_,L5 id hi,fun e he=>?_⟩
 . rw[L4 (m'.valX hk hb hT (Dv hlo) (Dv hhi)),BM m'.mid.ext hlo.1,BM m'.mid.ext hhi.1]
 ·rcases he with he|⟨c,hc,g1,g2⟩
  . exact⟨.inl he,by rw[BM m'.mid.ext he.1,BM m.mid.ext he.1]⟩
  ·have g0:e/2≠id:=by rintro e';rw[e',r.none] at hc;cases hc
   refine⟨.inr ⟨c,by rw[r.nodes,Bk _ g0];exact hc,g1,g2⟩,?_⟩;funext ρ;simp only[ef,addV,Vs g0]
theorem A6.fits (m:A6 d0 V0 k x y Wt E done d V){κ:Nat×Nat}(hW:κ∈Wt)(ht:d.tab x κ=none)(hroom:d0.pool.many+Wt.length<=d0.pool.room):d.pool.many<d.pool.room:=by
 have h1:(Wt.filter fun κ=>(d.tab x κ).isSome).length<Wt.length:=by
  rw[<- Nat.not_le];intro g0;have h2:=WD (fun κ=>(d.tab x κ).isSome) Wt;have h3:=List.length_filter_eq_length_iff.1 (Nat.le_antisymm h2 g0);have:=h3 κ hW;rw[ht] at this;cases this
 rw[m.many,m.room];omega
end
theorem L6 {done:Nat->Prop}{o:Own}(h:Az o w sb d)(hlt:Ac o w)(m:A6 d0 V0 k x y Wt (Aj d0) done d V)
 (hk:Dag d0.vars.length (levN d0) (Aa d0) V0) (hacy:Acy (Aa d) (rkSw d0.vars.length (levN d0) (Aa d0) x y (Aa d))) (hx:x<d0.vars.length) (hvl:d.vars.length=d0.vars.length) (lo hi:Nat) (hlo:lowE d0.vars.length (levN d0) (Aa d0) y lo) (hhi:lowE d0.vars.length (levN d0) (Aa d0) y hi)
 (hkey:lo≠hi->d.tab x (bkey lo hi)=none->bkey lo hi∈Wt) (hWn:Wt.Nodup) (hroom:d0.pool.many+Wt.length<=d0.pool.room) :
 Cl 222 #[Pt sb,Iv x,Iv lo,Iv hi] w fun e w'=>∃ r:Nat,e=.returned (Iv r)/\∃ o' d' V',Az o' w' sb d'/\Ac o' w'/\C0 d0 V0 k x y Wt done d V lo hi r d' V'/\d'.vars.length=d0.vars.length/\Chg Al o o' w w':=by
 obtain⟨s,h⟩:=h;have okL:=Ej m.mid hlo.1;have okH:=Ej m.mid hhi.1;have g9:=h.edge_lt okL;have ga:=h.edge_lt okH;have g4:lo<eMax:=by unfold eMax;omega
 have g6:hi<eMax:=by unfold eMax;omega
 by_cases g8:lo=hi
 ·subst g8;have HF:Hq (∃ r:Nat,Ending.returned (Iv (lo:Nat))=.returned (Iv r)/\∃ o' d' V',Az o' w sb d'/\Ac o' w/\C0 d0 V0 k x y Wt done d V lo lo r d' V'/\d'.vars.length=d0.vars.length/\Chg Al o o' w w):=Hd ⟨lo,rfl,o,d,V,⟨s,h⟩,hlt,Rt m hlo,hvl,Chg.refl _ _ _⟩;clear h hlt m hk hacy hlo hhi hkey g4 g6 g9 ga okL okH
  go_enter func222,ntmps222
  go_wp2_with fail;go_ret;exact HF.o
 have gp:((lo:Int) == hi)=false:=by simp;omega
 have hv:x<d.vars.length:=by rw[hvl];exact hx
 have g1:=Hd (fun W=>G8 lo hi W g4 g6);have gc:=Hd (h.tab x (by rw[h.tlen];exact hv));obtain⟨gt,ct,gg,gl,go,gr⟩:=h.tabAt hv;obtain⟨c0,c1,c2,c3,c4,f0⟩:=cells5 h.blk;rw[gg] at c2;obtain⟨t,ht⟩:=Ex (s.ts.getD x 0);rw[<- ht] at gl gc;have gq:(x:Int)<s.ts.length:=by omega
 obtain⟨lo2,g5⟩:∃ q,q=eflip lo (eneg hi):=⟨_,rfl⟩;obtain⟨g3,g7⟩:∃ q,q=eflip hi (eneg hi):=⟨_,rfl⟩;obtain⟨ng,ge⟩:∃ q,q=eneg hi:=⟨_,rfl⟩;have g2:bkey lo hi=(lo2,g3):=by unfold bkey;rw[g5,g7]
 rw[<- g5,<- g7] at g1;cases g0:d.tab x (lo2,g3) with
 | some id =>
   have gi:=Hd (fun W (hb:Bw w W)=>GN o x t (d.tab x) lo2 g3 id W (gc.o.below hb hlt) g0);have gd:=((m.tabX _ _ id).1 g0).1;have gh:=(h.tk_lt gd).2;have gf:=Hd (fun W=>G9 id (eneg hi) W (by omega));have HF:Hq (∀ W,Bw w W->∃ r:Nat,Ending.returned (Iv (eflip (2*id) (eneg hi):Nat))=.returned (Iv r)/\∃ o' d' V',Az o' W sb d'/\Ac o' W/\C0 d0 V0 k x y Wt done d V lo hi r d' V'/\d'.vars.length=d0.vars.length/\Chg Al o o' w W) :=
    Hd fun W hb=>⟨_,rfl,o,d,V,⟨s,h.below hlt hb⟩,hlt.mono hb.size,Ru m hk hlo hhi (by rw[g2];exact g0),hvl,Chg.of_below hb _ _⟩
   rw[<- ge] at g1 gf HF;clear h hlt m hk hacy hlo hhi hkey g4 g6 g9 ga okL okH g0 gd gh g5 g7 ge g2 hv g8 hvl ht gg
   go_enter func222,ntmps222
   go_wp2_with fail;refine(g1.o _).mono ?_;rintro e w' ⟨rfl,rfl⟩;go_wp2_with fail;refine(gi.o _ (VI _ _)).mono ?_;rintro e w' ⟨rfl,rfl⟩;go_wp2_with fail;refine(gf.o _).mono ?_;rintro e w' ⟨rfl,rfl⟩;go_wp2_with fail;go_ret;exact HF.o _ (VI _ _)
 | none =>
   have gi:=Hd (GO o x t (d.tab x) lo2 g3 w gc.o g0);have hW:bkey lo hi∈Wt:=hkey g8 (by rw[g2];exact g0);have gm:=Hd (K0 h hlt (by rw[m.ext];exact m.live) (fun i b hb=>⟨hacy.okLo i b hb,hacy.okHi i b hb⟩) x lo2 g3 hv g0 m.clen);have gj:Hq (d.pool.many≠d.pool.room):=Hd fun e=>by have:=m.fits hW (by rw[g2];exact g0) hroom;omega
   have HF:Hq (∀ id d' o' W,Az o' W sb d'->Ac o' W->D7 d d' id x lo2 g3->Chg Al o o' w W->∃ r:Nat,Ending.returned (Iv (eflip (2*id) (eneg hi):Nat))=.returned (Iv r)/\∃ o' d' V',Az o' W sb d'/\Ac o' W/\C0 d0 V0 k x y Wt done d V lo hi r d' V'/\d'.vars.length=d0.vars.length/\Chg Al o o' w W):=by
    refine Hd fun id d' o' W h1 h2 h3 h4=>⟨_,rfl,o',d',_,h1,h2,Rv m hk hlo hhi g8 (by rw[g2];exact g0) (by rw[g2];exact h3) hW hWn,by rw[h3.vars];exact hvl,h4⟩
   rw[<- ge] at g1 HF;clear h hlt m hk hacy hlo hhi hkey g4 g6 g9 ga okL okH g0 g5 g7 g2 hv g8 hvl ht gg hW ge
   go_enter func222,ntmps222
   go_wp2_with fail;refine(g1.o _).mono ?_;rintro e w' ⟨rfl,rfl⟩;go_wp2_with fail;refine gi.o.mono ?_;rintro e w' ⟨rfl,rfl⟩;go_wp2_with fail;refine gm.o.mono ?_;rintro e w6 (⟨hm,rfl,gu⟩|⟨id,d',o',rfl,hs,gk,hr,hc⟩)
   . exact(gj.o hm).elim
   ·have gh:id<1048578:=by
     obtain⟨s',hs'⟩:=hs;have hn:Aa d' id=some ⟨x,lo2,g3⟩:=by rw[hr.nodes,BW]
     have:=hs'.tk_lt hn;omega
    have gf:=Hd (G9 id ng w6 (by omega));have gn:=Hd (HF.o id d' o' w6 hs gk hr hc);clear hs gk hr hc c0 c1 c2 c3 c4 f0 gl;go_wp2_with fail;refine gf.o.mono ?_;rintro e w' ⟨rfl,rfl⟩;go_wp2_with fail;go_ret;exact gn.o
section
variable {done:Nat->Prop}
structure I7 (d0:Ae)(V0:Nat->BF)(x y i ll lh hl hh:Nat):Prop where
 f1:lowE d0.vars.length (levN d0) (Aa d0) y ll
 f2:lowE d0.vars.length (levN d0) (Aa d0) y lh
 f3:lowE d0.vars.length (levN d0) (Aa d0) y hl
 f4:lowE d0.vars.length (levN d0) (Aa d0) y hh
 val:∀ ρ,V0 i ρ=if ρ x then (if ρ y then ef V0 hh ρ else ef V0 hl ρ) else (if ρ y then ef V0 lh ρ else ef V0 ll ρ)
 reg:hh%2=0
theorem Rw (hk:Ak d0 V0)(hy:y<d0.vars.length)(hl:levN d0 y=levN d0 x+1){b:BN}(hb:Aa d0 i=some b)(hbx:b.v=x) :
 I7 d0 V0 x y i (cofs d0 b.lo y).1 (cofs d0 b.lo y).2 (cofs d0 b.hi y).1 (cofs d0 b.hi y).2:=by
 have l1:=hk.dag.lvLo _ _ hb;have l2:=hk.dag.lvHi _ _ hb;rw[hbx] at l1 l2;obtain⟨a1,a2,a3,a4,a5⟩:=BY hk (hk.dag.okLo _ _ hb) hy (by omega);obtain⟨c1,c2,c3,c4,c5⟩:=BY hk (hk.dag.okHi _ _ hb) hy (by omega);refine⟨⟨a1,a3⟩,⟨a2,a4⟩,⟨c1,c3⟩,⟨c2,c4⟩,fun ρ=>?_,?_⟩
 . rw[hk.dag.eqn _ _ hb,hbx];unfold iteF;rw[a5 ρ,c5 ρ]
 ·have hr:=hk.dag.reg _ _ hb;unfold cofs;cases hc:Aa d0 (b.hi/2) with
  | none=>exact hr
  | some c =>
    dsimp only;split
    ·have:eneg b.hi=false:=by unfold eneg;rw[hr];rfl
     dsimp only;rw[this];exact hk.dag.reg _ _ hc
    . exact hr
theorem Rx (hk:Ak d0 V0)(hx:x<d0.vars.length)(hy:y<d0.vars.length)(hxy:x≠y)(hl:levN d0 y=levN d0 x+1){ll lh hl' hh:Nat}(t:I7 d0 V0 x y i ll lh hl' hh)(hne:ll≠lh\/hl'≠hh)
 (h1:ef V lo=iteF x (ef V0 hl') (ef V0 ll)) (h2:ef V hi=iteF x (ef V0 hh) (ef V0 lh)):V0 i=iteF y (ef V hi) (ef V lo)/\lo≠hi:=by
 constructor
 . funext ρ;rw[t.val ρ,h1,h2];unfold iteF;cases ρ x<;>cases ρ y<;>rfl
 ·rintro rfl;rw[h1] at h2;have ind:∀ {e:Nat},lowE d0.vars.length (levN d0) (Aa d0) y e->∀ (ρ:Nat->Bool) (b:Bool),ef V0 e (upd ρ x b)=ef V0 e ρ:=fun he ρ b=>hk.dag.indep_var he.1 (by have:=he.2;omega) ρ b
  have e1:ef V0 hl'=ef V0 hh:=by
   funext ρ;have:=congrFun h2 (upd ρ x true);unfold iteF at this;rw[E4,ind t.f3,ind t.f4] at this;simpa using this
  have e2:ef V0 ll=ef V0 lh:=by
   funext ρ;have:=congrFun h2 (upd ρ x false);unfold iteF at this;rw[E4,ind t.f1,ind t.f2] at this;simpa using this
  rcases hne with h|h
  . exact h (hk.dag.canon t.f1.1 t.f2.1 e2)
  . exact h (hk.dag.canon t.f3.1 t.f4.1 e1)
theorem Ry {kk:Nat}{c:Nat->Nat}{b b':BN}(hb:N i=some b):Ba kk (setN N i b') c=Ba kk N c:=by
 unfold Ba;refine B4 _ fun j _=>?_
 unfold dead1 setN
 by_cases e:j=i
 . subst e;rw[Vw rfl,hb]
 . rw[Vs e]
theorem A6.set {b:BN}{p':Ad}(m:A6 d0 V0 k x y Wt E done d V)(hxy:x≠y)(hk:Dag d0.vars.length (levN d0) (Aa d0) V0)(hy:y<d0.vars.length)(hT:Turns (Aa d0) x y i)(hd:¬ done i)(hb:Aa d0 i=some b)
 (hlo:midE d0.vars.length (levN d0) (Aa d0) (Aa d) x y lo) (hhi:midE d0.vars.length (levN d0) (Aa d0) (Aa d) x y hi) (hr:hi%2=0) (hne:lo≠hi) (hV:V0 i=iteF y (ef V hi) (ef V lo))
 (hn:Aa { d with pool:=p' }=setN (Aa d) i ⟨y,lo,hi⟩) (he:Aj { d with pool:=p' }=Aj d) (h1:p'.room=d.pool.room) (h2:p'.many=d.pool.many) (h3:p'.at_.length=d.pool.at_.length) :
 A6 d0 V0 k x y Wt (addE (addE (addE (addE E b.lo 1) b.hi 1) lo (-1)) hi (-1)) (fun j=>done j\/j=i) { d with pool:=p',tab:=fun u=>if u=y then putF (d.tab u) (lo,hi) (some i) else d.tab u } V:=by
 have g5:=m.fresh_y hk hxy hy hT hd hV;have g1:Aa d i=some b:=m.mid.keep i b hb hd;have g4:b.v=x:=I5 hb hT;have g0:Aa { d with pool:=p',tab:=fun u=>if u=y then putF (d.tab u) (lo,hi) (some i) else d.tab u }=setN (Aa d) i ⟨y,lo,hi⟩:=hn;refine⟨by rw[g0];exact m.mid.turn hxy hT hlo hhi hr hne hV,m.vars,m.level,h1.trans m.room,he.trans m.ext,⟨?_,?_,fun j c hc=>?_⟩,fun v hv g2 lo' g3 j=>?_,fun lo' g3 j=>?_,m.clen,m.pos,?_⟩
 ·show Cnt p'.at_.length _ (Ai d) _
  rw[g0,h3];exact m.live.cnt.setLive g1 (m.pos i hT)
 ·show (d.dead:Int)=Ba p'.at_.length _ (Ai d)
  rw[g0,h3,Ry g1];exact m.live.dead
 ·rw[g0] at hc
  show j<d.counts.length
  unfold setN at hc;split at hc
  . rename_i e;rw[e];exact m.live.has i b g1
  . exact m.live.has j c hc
 ·rw[g0];dsimp only
  by_cases e:v=y
  ·subst e;rw[Vw rfl];unfold putF
   by_cases e2:(lo',g3)=(lo,hi)
   ·cases e2;rw[Vw rfl];constructor
    . intro e3;cases e3;simp[setN]
    ·intro e3;unfold setN at e3;split at e3
     . rename_i e4;rw[e4]
     . have:=(m.tabO v hv g2 _ _ j).2 e3;rw[g5] at this;cases this
   ·rw[Vs e2,m.tabO v hv g2];unfold setN
    by_cases e4:j=i
    ·subst e4;rw[Vw rfl,g1];constructor
     . intro e5;cases e5;exact absurd g4 (Wn hxy)
     . intro e5;cases e5;exact absurd rfl e2
    . rw[Vs e4]
  ·rw[Vs e,m.tabO v hv g2];unfold setN
   by_cases e4:j=i
   ·subst e4;rw[Vw rfl,g1];constructor
    . intro e5;cases e5;exact absurd g4 g2
    . intro e5;cases e5;exact absurd rfl e
   . rw[Vs e4]
 ·rw[g0];dsimp only;rw[Vs hxy,m.tabX];unfold setN
  by_cases e4:j=i
  ·subst e4;rw[Vw rfl];constructor
   . rintro⟨_,h⟩;exact(h hT).elim
   . rintro⟨_,h⟩;exact(h hT).elim
  . rw[Vs e4]
 ·show p'.many=_
  rw[h2,m.many];dsimp only;rw[Vs hxy]
end
structure TRow (w:Wd)(base:Nat)(v:Value)(ts:List TN):Prop where
 small:ts.length<=1048578
 ex:∃ a c,v=.slice a ts.length c/\∀ k,∀ hk:k<ts.length,∃ g,a=some (Av g)/\base<=g/\∀ j u,(tnV ts[k])[j]?=some u->w.cell? (Aw g (k*9+j))=some u
theorem TRow.keep (h:TRow w base v ts)(hk:∀ g,base<=g->g<w.heap.size->v.ownBlock=some g->w'.heap[g]?=w.heap[g]?):TRow w' base v ts:=by
 obtain⟨a,c,rfl,h1⟩:=h.ex;refine⟨h.small,a,c,rfl,fun k g0=>?_⟩;obtain⟨g,rfl,hb,hc⟩:=h1 k g0;refine⟨g,rfl,hb,fun j u hu=>?_⟩;have:=hc j u hu;exact(Co this (hk g hb (Af this) rfl))
theorem TRow.below (h:TRow w base v ts)(hb:Bw w w'):TRow w' base v ts:=h.keep fun g _ hg _=>hb.block g hg
def B8 (t:TN):List (Nat×Nat):=[(t.ll,t.hl),(t.lh,t.hh)]
structure BO (f:Nat×Nat->Option Nat)(ps:List (Nat×Nat))(Wt:List (Nat×Nat)):Prop where
 nodup:Wt.Nodup
 free:∀ κ∈Wt,f κ=none
 has:∀ p∈ps,p.1≠p.2->f (bkey p.1 p.2)=none->bkey p.1 p.2∈Wt
 len:Wt.length<=ps.length
theorem BO.skip {f:Nat×Nat->Option Nat}(h:BO f ps Wt){p:Nat×Nat}(hp:p.1≠p.2->f (bkey p.1 p.2)=none->bkey p.1 p.2∈Wt):BO f (ps++[p]) Wt :=
 ⟨h.nodup,h.free,fun q hq=>by
  rcases VF.1 hq with hq|hq
  . exact h.has q hq
  . simp only[VB] at hq;subst hq;exact hp,by have:=h.len;simp;omega⟩
abbrev Wx:=@List.mem_append_left
theorem BO.add {f:Nat×Nat->Option Nat}(h:BO f ps Wt){p:Nat×Nat}(h1:f (bkey p.1 p.2)=none)(h2:bkey p.1 p.2∉Wt):BO f (ps++[p]) (Wt++[bkey p.1 p.2]) :=
 ⟨Wh.2 ⟨h.nodup,by simp,fun a ha b hb=>by simp only[VB] at hb;subst hb;rintro rfl;exact h2 ha⟩,fun κ hκ=>by
  rcases VF.1 hκ with hκ|hκ
  . exact h.free κ hκ
  . simp only[VB] at hκ;subst hκ;exact h1,fun q hq h3 h4=>by
  rcases VF.1 hq with hq|hq
  . exact Wx _ (h.has q hq h3 h4)
  . simp only[VB] at hq;subst hq;simp,by have:=h.len;simp;omega⟩
def CB (Wt:List (Nat×Nat)):List ((Nat×Nat)×Value):=Wt.map fun κ=>(κ,.bool true)
theorem I8 (κ:Nat×Nat):∀ (Wt:List (Nat×Nat)) (i:Nat),(AE κ (CB Wt) i).map (·.2)=if κ∈Wt then some (.bool true) else none
 | [],_=>rfl
 | a::l,i=>by
   show (if a=κ then some (i,Value.bool true) else AE κ (CB l) (i+1)).map (·.2)=_
   by_cases e:a=κ
   . rw[Vw e];simp[e]
   . rw[Vs e,I8 κ l (i+1)];simp[Wn e]
theorem Rz (Wt:List (Nat×Nat))(κ:Nat×Nat):(getL (CB Wt) κ).getD (.bool false)=.bool (decide (κ∈Wt)):=by
 unfold getL;rw[I8]
 by_cases h:κ∈Wt
 . rw[Vw h,WV h];rfl
 . rw[Vs h,WJ h];rfl
theorem R0 {κ:Nat×Nat}(h:κ∉Wt):putL κ (.bool true) (CB Wt)=CB (Wt++[κ]):=by
 have h1:=I8 κ Wt 0;rw[Vs h] at h1;unfold putL;cases e:AE κ (CB Wt) 0 with
 | none=>simp[CB]
 | some p=>rw[e] at h1;cases h1
theorem R3 {o:Own}{s:A4}(h:Ao o w sb d s)(hlt:Ac o w)(x:Nat)(hx:x<d.vars.length)(hr:TRow w base v ts)(hok:∀ t∈ts,t.ll<eMax/\t.lh<eMax/\t.hl<eMax/\t.hh<eMax) :
 Cl 217 #[Pt sb,Iv x,v] w fun e w'=>∃ Wt,e=.returned (Iv (Wt:List (Nat×Nat)).length)/\BO (d.tab x) (ts.flatMap B8) Wt/\Bw w w':=by
 obtain⟨a,c,rfl,gg⟩:=hr.ex;have hz:=hr.small;have HR:=Hd hr;obtain⟨gt,ct,gH,gC,hu,hy⟩:=h.tabAt hx;obtain⟨c0,c1,c2,c3,c4,f0⟩:=cells5 h.blk;rw[gH] at c2;have gF:=Hd (h.tab x (by rw[h.tlen];exact hx));have hg:=Hd hlt;obtain⟨t,ht⟩:=Ex (s.ts.getD x 0);rw[<- ht] at gC gF;have hv:(x:Int)<s.ts.length:=by omega
 have hm:=Hd gg;have hd:Hq (∀ k,∀ hk:k<ts.length,ts[k].ll<eMax/\ts[k].lh<eMax/\ts[k].hl<eMax/\ts[k].hh<eMax):=Hd fun k hk=>hok _ (VG hk)
 clear h hlt hr ht gH gg hok c0 c1 c3 c4 f0;have h5:=EC (P:=prog) w 296;obtain⟨w1,gf⟩:=Ex (w.alloc (.map #[] 0));have hf:Hq (A3 w1 w.heap.size encE (CB [])):=by rw[gf];exact Hd (F7 w encE)
 have hp:Hq (Bw w w1):=by rw[gf];exact Hd (Ah _ _)
 have hs1:w1.heap.size=w.heap.size+1:=by rw[gf];simp
 rw[<- gf] at h5;clear gf
 go_enter func217,ntmps217
 go_wp2_with fail
 go_loopw [8,22] (fun s8 s22 wr=>∃ (k:Nat) (Wt:List (Nat×Nat)),k<=ts.length/\s22=Iv k/\s8=Iv Wt.length/\Bw w wr/\w1.heap.size<=wr.heap.size/\A3 wr w.heap.size encE (CB Wt)/\Hq (BO (d.tab x) ((ts.take k).flatMap B8) Wt)) (fun _ s22 _=>ts.length-(intOf s22).toNat)
 case atStart=>exact⟨0,[],VC _,rfl,rfl,hp.o,Vu _,hf.o,Hd ⟨List.nodup_nil,fun _ h=>by simp at h,fun _ h=>by simp at h,Vu _⟩⟩
 case round =>
  obtain⟨k,Wt,hk,rfl,rfl,g4,gZ,g3,HW⟩:=hrel;have gc:=Hd g4;have gG:=Hd g3;clear g4 g3
  by_cases hlt:k<ts.length
  ·obtain⟨g,rfl,hB,hc⟩:=hm.o k hlt;obtain⟨ok1,ok2,ok3,ok4⟩:=hd.o k hlt
   have gE:Hq ((ts.take (k+1)).flatMap B8=(ts.take k).flatMap B8++[(ts[k].ll,ts[k].hl),(ts[k].lh,ts[k].hh)]):=Hd (by
    rw[Vz hlt,Xw];rfl)
   have g2:=gc.o;obtain⟨tn,gI⟩:=Ex (ts[k]);rw[<- gI] at hc ok1 ok2 ok3 ok4 gE;obtain⟨⟨i0,i1,i2,i3,i4⟩,ll,lh,hl,hh⟩:=tn;have e0:=(g2.cell (p:=(Aw g (k*9))) (Af (hc 0 _ rfl))).trans (hc 0 _ rfl);have e1:=(g2.cell (p:=(Aw g (k*9+1))) (Af (hc 1 _ rfl))).trans (hc 1 _ rfl);have e2:=(g2.cell (p:=(Aw g (k*9+2))) (Af (hc 2 _ rfl))).trans (hc 2 _ rfl);have e3:=(g2.cell (p:=(Aw g (k*9+3))) (Af (hc 3 _ rfl))).trans (hc 3 _ rfl);have e4:=(g2.cell (p:=(Aw g (k*9+4))) (Af (hc 4 _ rfl))).trans (hc 4 _ rfl);have e5:=(g2.cell (p:=(Aw g (k*9+5))) (Af (hc 5 _ rfl))).trans (hc 5 _ rfl);have e6:=(g2.cell (p:=(Aw g (k*9+6))) (Af (hc 6 _ rfl))).trans (hc 6 _ rfl);have e7:=(g2.cell (p:=(Aw g (k*9+7))) (Af (hc 7 _ rfl))).trans (hc 7 _ rfl);have e8:=(g2.cell (p:=(Aw g (k*9+8))) (Af (hc 8 _ rfl))).trans (hc 8 _ rfl);dsimp only at ok1 ok2 ok3 ok4 gE;have h6:(k:Int)<ts.length:=by omega
   clear hc g2 gI;go_upto_region 7 with fail;obtain⟨wi,gq⟩:=Ex ((wr.alloc (.cells #[Iv i0,Iv i1,Iv i2,Iv i3,Iv i4,Iv ll,Iv lh,Iv hl,Iv hh] 256)).alloc (.cells #[Iv ll,Iv hl,Iv lh,Iv hh] 280));rw[<- gq];have gv:Bw wr wi:=by rw[gq];exact(Ah _ _).alloc (by simp) _
   have g0:wi.heap[wr.heap.size+1]?=some (.cells #[Iv ll,Iv hl,Iv lh,Iv hh] 280 (0,0)):=by
    rw[gq];have:=Vv (wr.alloc (.cells #[Iv i0,Iv i1,Iv i2,Iv i3,Iv i4,Iv ll,Iv lh,Iv hl,Iv hh] 256)) (.cells #[Iv ll,Iv hl,Iv lh,Iv hh] 280);rw[VK] at this;exact this
   have HP:Hq (∀ j,j<2->∃ p1 p2:Nat,wi.cell? ⟨wr.heap.size+1,j*2,none⟩=some (Iv p1)/\wi.cell? ⟨wr.heap.size+1,j*2+1,none⟩=some (Iv p2)/\p1<eMax/\p2<eMax/\[(ll,hl),(lh,hh)].take (j+1)=[(ll,hl),(lh,hh)].take j++[(p1,p2)]):=by
    refine Hd fun j hj=>?_
    rcases(by omega:j=0\/j=1) with rfl|rfl
    . exact⟨ll,hl,by rw[Vt _ _ _ _ _ _ g0];rfl,by rw[Vt _ _ _ _ _ _ g0];rfl,ok1,ok3,rfl⟩
    . exact⟨lh,hh,by rw[Vt _ _ _ _ _ _ g0];rfl,by rw[Vt _ _ _ _ _ _ g0];rfl,ok2,ok4,rfl⟩
   have hn:=Hd (gc.o.trans (gv.mono gc.o.size));have gM:=gG.o.below gv;have gT:w1.heap.size<=wi.heap.size:=Vy gZ gv.size;have gL:wr.heap.size+1<wi.heap.size:=(Vr.1 g0).1;clear gq g0 e0 e1 e2 e3 e4 e5 e6 e7 e8 ok1 ok2 ok3 ok4 gG gc gv
   go_loopw [8,38] (fun s8 s38 wx=>∃ (j:Nat) (Wt:List (Nat×Nat)),j<=2/\s38=Iv j/\s8=Iv Wt.length/\Bw w wx/\wi.heap.size<=wx.heap.size/\(∀ q,q≠w.heap.size->q<wi.heap.size->wx.heap[q]?=wi.heap[q]?)/\A3 wx w.heap.size encE (CB Wt)/\Hq (BO (d.tab x) ((ts.take k).flatMap B8++[(ll,hl),(lh,hh)].take j) Wt)) (fun _ s38 _=>2-(intOf s38).toNat)
   case atStart=>exact⟨0,Wt,VC _,rfl,rfl,hn.o,Vu _,fun _ _ _=>rfl,gM,Hd (by simpa using HW.o)⟩
   case round =>
    rename Wd=>wy
    clear HW gM;obtain⟨j,W2,hj,rfl,rfl,g4,gA,g5,g3,HW⟩:=hrel
    by_cases gV:j<2
    ·obtain⟨p1,p2,k1,k2,b1,b2,gJ⟩:=HP.o j gV;have q1:=(Wl (w:=wi) (w':=wy) (a:=⟨wr.heap.size+1,j*2,none⟩) (g5 _ (by dsimp only;omega) gL)).trans k1;have q2:=(Wl (w:=wi) (w':=wy) (a:=⟨wr.heap.size+1,j*2+1,none⟩) (g5 _ (by dsimp only;omega) gL)).trans k2;have gw:=Hd gJ;have gy:=Hd g5;have gm:=Hd g4;have gx:=Hd g3;have hA:(j:Int)<2:=by omega
     clear k1 k2 gJ g5 g4 g3;go_upto_region 9 with fail;obtain⟨wz,go⟩:=Ex (wy.alloc (.cells #[Iv p1,Iv p2] 280));rw[<- go];have gh:Bw wy wz:=by rw[go];exact Ah _ _
     have g0:wz.heap[wy.heap.size]?=some (.cells #[Iv p1,Iv p2] 280 (0,0)):=by rw[go];exact Vv _ _
     have z1:wz.cell? (Av wy.heap.size)=some (Iv p1):=by rw[Vt _ _ 0 _ _ _ g0];rfl
     have z2:wz.cell? (Aw wy.heap.size 1)=some (Iv p2):=by rw[Vt _ _ 1 _ _ _ g0];rfl
     have gd:=Hd (gm.o.trans (gh.mono gm.o.size));have gQ:=Hd (gx.o.below gh);have gR:Hq (∀ q,q≠w.heap.size->q<wi.heap.size->wz.heap[q]?=wi.heap[q]?):=Hd fun q h1 h2=>(gh.block q (by omega)).trans (gy.o q h1 h2)
     have gU:wi.heap.size<=wz.heap.size:=Vy gA gh.size;have v2:=Cq gd.o c2;have vt:=Cq gd.o gC;clear go gh g0 q1 q2 gx gy gm;obtain⟨a1,gk⟩:∃ q,q=eflip p1 (eneg p2):=⟨_,rfl⟩;obtain⟨a2,gj⟩:∃ q,q=eflip p2 (eneg p2):=⟨_,rfl⟩;have gn:Hq (bkey p1 p2=(a1,a2)):=Hd (by unfold bkey;rw[gk,gj])
     have gP:Hq (a1=a2↔p1=p2):=Hd ⟨fun e=>by
      by_cases e2:p1=p2
      . exact e2
      . exact(FC (b:=eneg p2) e2 (by rw[<- gk,<- gj,e])).elim,fun e=>by rw[gk,gj,e]⟩
     have g6:=Hd (G8 p1 p2 wz b1 b2);rw[<- gk,<- gj] at g6;obtain⟨ng,gK⟩:∃ q,q=eneg p2:=⟨_,rfl⟩;rw[<- gK] at g6;have gD:=Hd (gF.o.below gd.o hg.o);clear gk gj gK b1 b2;go_wp2_with fail;refine g6.o.mono ?_;rintro e w' ⟨rfl,rfl⟩;clear g6 z1 z2;have h7:∃ fd:Option Nat,fd=d.tab x (a1,a2):=⟨_,rfl⟩;obtain⟨fd,gu⟩:=h7;have gz:Hq (Cl 247 #[Pt t,Iv a1,Iv a2] wz (Sm (.tuple #[Iv ((fd.getD 0:Nat):Int),.bool fd.isSome]) wz)):=by
      refine Hd ?_;cases fd with
      | none=>exact GO o x t (d.tab x) a1 a2 wz gD.o gu.symm
      | some id=>exact GN o x t (d.tab x) a1 a2 id wz gD.o gu.symm
     have gS:=Hd gu;clear gu;go_wp2_with fail;refine gz.o.mono ?_;rintro e w' ⟨rfl,rfl⟩;clear gz v2 vt;go_upto_region 12 with fail;obtain⟨wk,gp⟩:=Ex (wz.alloc (.cells #[Iv a1,Iv a2] 280));rw[<- gp];have gi:Bw wz wk:=by rw[gp];exact Ah _ _
     have g0:wk.heap[wz.heap.size]?=some (.cells #[Iv a1,Iv a2] 280 (0,0)):=by rw[gp];exact Vv _ _
     have z1:wk.cell? (Av wz.heap.size)=some (Iv a1):=by rw[Vt _ _ 0 _ _ _ g0];rfl
     have z2:wk.cell? (Aw wz.heap.size 1)=some (Iv a2):=by rw[Vt _ _ 1 _ _ _ g0];rfl
     have ga:=Hd (gd.o.trans (gi.mono gd.o.size));have gl:=Hd (gQ.o.below gi);have HKK:Hq (∀ q,q≠w.heap.size->q<wi.heap.size->wk.heap[q]?=wi.heap[q]?):=Hd fun q h1 h2=>(gi.block q (by omega)).trans (gR.o q h1 h2)
     have ge:wi.heap.size<=wk.heap.size:=Vy gU gi.size;clear gp gi g0 gQ gR gd gD
     by_cases g7:p1=p2
     ·have gO:a1=a2:=gP.o.2 g7;have g9:Hq (BO (d.tab x) ((ts.take k).flatMap B8++[(ll,hl),(lh,hh)].take (j+1)) W2):=Hd (by rw[gw.o,<- VH];exact HW.o.skip fun h=>(h g7).elim);have gX:((a1:Int) == a2)=true:=by simp[gO]
      clear g7 gO;go_wp2_with fail;go_roundw
      case rel=>exact⟨j+1,W2,by omega,by go_num,rfl,ga.o,ge,HKK.o,gl.o,g9⟩
      case measure=>simp[intOf];omega
     have gX:((a1:Int) == a2)=false:=by
      have h1:a1≠a2:=fun e=>g7 (gP.o.1 e)
      simp;omega
     cases fd with
     | some id =>
       have g9:Hq (BO (d.tab x) ((ts.take k).flatMap B8++[(ll,hl),(lh,hh)].take (j+1)) W2):=Hd (by
        rw[gw.o,<- VH];exact HW.o.skip fun _ h=>by rw[gn.o,<- gS.o] at h;cases h)
       clear g7;go_wp2_with fail;go_roundw
       case rel=>exact⟨j+1,W2,by omega,by go_num,rfl,ga.o,ge,HKK.o,gl.o,g9⟩
       case measure=>simp[intOf];omega
     | none =>
       have g1:=gl.o.lookup (P:=prog) Dl underlying296 zeroValue4 (a1,a2) false;rw[Rz] at g1;simp only[X7,if_false] at g1
       by_cases g8:(a1,a2)∈W2
       ·rw[WV g8] at g1
        have g9:Hq (BO (d.tab x) ((ts.take k).flatMap B8++[(ll,hl),(lh,hh)].take (j+1)) W2):=Hd (by
         rw[gw.o,<- VH];exact HW.o.skip fun _ _=>by rw[gn.o];exact g8)
        unfold encE at g1;dsimp only at g1;clear g7 g8;go_wp2_with fail;go_roundw
        case rel=>exact⟨j+1,W2,by omega,by go_num,rfl,ga.o,ge,HKK.o,gl.o,g9⟩
        case measure=>simp[intOf];omega
       ·rw[WJ g8] at g1
        have g9:Hq (BO (d.tab x) ((ts.take k).flatMap B8++[(ll,hl),(lh,hh)].take (j+1)) (W2++[(a1,a2)])):=Hd (by
         rw[gw.o,<- VH];have:=HW.o.add (p:=(p1,p2)) (by rw[gn.o,<- gS.o]) (by rw[gn.o];exact g8);rw[gn.o] at this;exact this)
        have gY:=Hd (R0 g8);have hw:W2.length<=4194312:=by
         have h1:=HW.o.len;have h2:((ts.take k).flatMap B8).length<=2*ts.length:=by
          rw[List.length_flatMap];have:((ts.take k).map fun a=>(B8 a).length)=List.replicate (ts.take k).length 2:=by
           rw[List.eq_replicate_iff];exact⟨by simp,fun b hb=>by obtain⟨q,_,rfl⟩:=VD.1 hb;rfl⟩
          rw[this];simp;omega
         have h3:([(ll,hl),(lh,hh)].take j).length<=2:=by simp;omega
         rw[Vx] at h1;omega
        unfold encE at g1;dsimp only at g1;clear g7 g8;go_wp2_with (refine Kf (l:=CB W2) (enc:=encE) rfl _ _ _ rfl Dl underlying296 (a1,a2) (.bool true) rfl rfl rfl gl.o ?_;intro w6 gB gr);rw[gY.o] at gB;have ho:=Hd (ga.o.grown gr ga.o.size (fun q hq=>by cases hq;exact Vu _));have he:=Hd gB;have h4:wi.heap.size<=w6.heap.size:=Vy ge gr.size;have hi:Hq (∀ q,q≠w.heap.size->q<wi.heap.size->w6.heap[q]?=wi.heap[q]?):=Hd fun q h1 h2=>(gr.block q (by omega) (fun e=>h1 (by injection e))).trans (HKK.o q h1 h2)
        clear gB gr;go_roundw
        case rel=>exact⟨j+1,W2++[(a1,a2)],by omega,by go_num,by simp,ho.o,h4,hi.o,he.o,g9⟩
        case measure=>simp[intOf];omega
    ·have h8:j=2:=by omega
     subst h8;have ha:Hq (BO (d.tab x) ((ts.take (k+1)).flatMap B8) W2):=Hd (by rw[gE.o];exact HW.o);have gm:=Hd g4;have gx:=Hd g3;have h0:w1.heap.size<=wy.heap.size:=Vy gT gA;clear g4 g3 g5;go_wp2_with fail;go_roundw
     case rel=>exact⟨k+1,W2,by omega,by go_num,rfl,gm.o,h0,gx.o,ha⟩
     case measure=>simp[intOf];omega
  ·have gN:k=ts.length:=by omega
   have h9:Hq (∃ W':List (Nat×Nat),Ending.returned (Iv (Wt.length:Nat))=.returned (Iv (W'.length:Nat))/\BO (d.tab x) (ts.flatMap B8) W'/\Bw w wr):=Hd ⟨Wt,rfl,by have:=HW.o;rw[gN,Wb] at this;exact this,gc.o⟩;have h6:¬ (k:Int)<ts.length:=by omega
   clear gN;go_wp2_with fail;go_ret;exact h9.o
open Go.ChangeMaps (setBlock)
def L7 (n:Nat)(w:Wd)(v:Value)(ks:List (Nat×Nat)):Prop:=∃ a c,v=.slice a ks.length c/\∀ j q,ks[j]?=some q->∃ g,a=some (Av g)/\n<=g/\w.cell? (Aw g (j*2))=some (Iv q.1)/\w.cell? (Aw g (j*2+1))=some (Iv q.2)
theorem I9 (ks:List (Nat×Nat)){q:Nat×Nat}(h:ks[j]?=some q)(i:Nat)(hi:i<2):(Go.Sort.flatK AR 2 ks.toArray)[j*2+i]! = (AR q)[i]! := by
 obtain⟨hj,rfl⟩:=Wf.1 h;rw[Go.Sort.get_flatK _ _ _ _ (by simp;omega)];have e1:(j*2+i)/2=j:=by omega
 have e2:(j*2+i)%2=i:=by omega
 rw[e1,e2];congr 2;simp[hj]
theorem R4 (ks:List (Nat×Nat)):(ks.flatMap AR).length=ks.length*2:=BV AR 2 (fun _=>rfl) ks
theorem R5 {m:Nat}{ks:List (Nat×Nat)}(h:RowR oG w .slots 280 2 (.slice (some (Av g)) m cap) ks.length (ks.flatMap AR)):Go.Sort.HoldsK AR 2 w g 0 ks.toArray:=by
 intro j hj;have g0:j<ks.length*2:=by simpa using hj
 refine⟨?_,by rw[VW];exact h.frozen j⟩;rw[VW,h.cell j (by rw[R4];exact g0)];have hd:j/2<ks.length:=by omega
 have hm:j%2<2:=by omega
 have e:j=j/2*2+j%2:=by omega
 obtain⟨q,hq⟩:∃ q,ks[j/2]?=some q:=⟨_,VA hd⟩;have h1:=D0 AR 2 (fun _=>rfl) ks (j/2) (j%2) q hq hm;have h2:=I9 ks hq (j%2) hm;rw[<- e] at h1 h2;rw[h1,h2];obtain h0|h0:j%2=0\/j%2=1:=by omega
 . rw[h0];rfl
 . rw[h0];rfl
theorem R6 {ks:List (Nat×Nat)}(hg:n<=g)(h:Go.Sort.HoldsK AR 2 w g 0 ks.toArray):L7 n w (.slice (some (Av g)) ks.length cap) ks:=by
 refine⟨_,_,rfl,fun j q hq=>⟨g,rfl,hg,?_,?_⟩⟩
 . have hj:=(Wf.1 hq).1;have h1:=(h (j*2) (by simp;omega)).1;have h2:=I9 ks hq 0 (by omega);rw[XA] at h2;rw[VW] at h1;rw[h1,h2];rfl
 . have hj:=(Wf.1 hq).1;have h1:=(h (j*2+1) (by simp;omega)).1;have h2:=I9 ks hq 1 (by omega);rw[VW] at h1;rw[h1,h2];rfl
theorem R7 {f:Nat×Nat->Option Nat}{ks:List (Nat×Nat)}{Bx t:Nat}(row:RowR oG w .slots 280 2 v ks.length (ks.flatMap AR))(hlen:ks.length<1000000000)(hlow:Bw W w)
 (cB:W.cell? (Av Bx)=some (Pt t)) (cT:W.cell? (Av t)=some (.map (some mb))) (ge:∀ k r,oG k=some r->W.heap.size<=k) (lt:Ac oG w) (hmap:∀ W':Wd,W'.heap[mb]?=W.heap[mb]?->A3 W' mb encE lm) (hget:∀ k,getL lm k=(f k).map (fun(id:Nat)=>Value.int .i64 id))
 (lB:Bx<W.heap.size) (lT:t<W.heap.size) (lM:mb<W.heap.size) :
 Cl 269 #[v,.func (.func 270) #[] #[Pt Bx]] w fun e w'=>e=.returned (.tuple #[])/\∃ ks':List (Nat×Nat),ks'.Perm ks/\L7 W.heap.size w' v ks'/\Bw W w':=by
 rcases row.ex with ⟨rfl,h0⟩|⟨g,cap,cur,rfl,g1,hg,_⟩
 ·have hk:ks=[]:=Xl h0;subst hk;have g0:=AnyF.slices_SortFunc_none Tryz.sortKeys none 0 (.func (.func 270) #[] #[Pt Bx]) w
  change Cl 269 _ _ _ at g0
  refine g0.mono ?_;rintro e w' ⟨rfl,rfl⟩;exact⟨rfl,[],List.Perm.refl _,⟨none,0,rfl,fun j q h=>by simp at h⟩,hlow⟩
 . have h1:=ge g _ g1;refine(Rm (f:=f) (R5 row) (lt g _ g1) hlen ((hlow.cell (p:=Av Bx) lB).trans cB) ((hlow.cell (p:=Av t) lT).trans cT) (hmap w (hlow.block mb lM)) hget (by omega) (by omega) (by omega)).mono ?_;rintro e w' ⟨rfl,ks',hp,hh,hs,e1,e2,e3,hk⟩;have:=hp.length_eq;refine⟨rfl,ks',hp,?_,⟨e1.trans hlow.os,e2.trans hlow.tape,e3.trans hlow.output,Vy hlow.size hs,fun b hb=>(hk b (VJ hb hlow.size) (by omega)).trans (hlow.block b hb)⟩⟩;rw[<- this];exact R6 h1 hh
theorem R8 {F:Fence}{c:Code}(R:Wd->Prop)(h:∃ A,c.wpIn F n P (fun e a' W'=>match e with|.normal=>a'=A/\R W'|_=>False) a w/\∀ W',R W'->Q .normal A W'):c.wpIn F n P Q a w:=by
 obtain⟨A,h1,h2⟩:=h;refine wpIn_mono h1 ?_;intro e a' W' h;cases e with
 | normal=>obtain⟨rfl,h3⟩:=h;exact h2 _ h3
 | _=>exact h.elim
structure YS (n₀:Nat)(W w2:Wd)(Bx t:Nat)(ak:Option Addr)(ks:List (Nat×Nat))(M M1:Nat->Prop)(wr:Wd):Prop where
 low:Below n₀ W wr
 box:wr.cell? (Av Bx)=some (Pt t)
 keys:∀ j q,ks[j]?=some q->∃ g,ak=some (Av g)/\W.heap.size<=g/\g<w2.heap.size/\wr.cell? (Aw g (j*2))=some (Iv q.1)/\wr.cell? (Aw g (j*2+1))=some (Iv q.2)
 nb:¬ M1 Bx
 sub:∀ k,M1 k->M k\/w2.heap.size<=k
 lt:∀ k,M k->k<W.heap.size
 ge:∀ k,M1 k->n₀<=k
 wr:Wr (fun k=>n₀<=k) w2 wr
theorem YS.go {w2:Wd}{Bx t:Nat}{ak:Option Addr}{ks:List (Nat×Nat)}{M1 M2:Nat->Prop}{wr:Wd}(h:YS n₀ W w2 Bx t ak ks M M1 wr)(hn:n₀<=W.heap.size)(hx:Bw wr wx)(hw:Wr M1 wx w')(hM:∀ k,M2 k->M1 k\/wx.heap.size<=k):YS n₀ W w2 Bx t ak ks M M2 w':=by
 have s0:=h.low.size;have s1:=h.wr.size;have s2:=hx.size;have keep:∀ {b k:Nat} {v:Value},wr.cell? (Aw b k)=some v->¬ M1 b->w'.cell? (Aw b k)=some v:=fun {b k v} hc hb=>by
  have g0:b<wr.heap.size:=Af hc;exact(Co ((hx.cell (p:=Aw b k) g0).trans hc) (hw.keep b (by omega) hb))
 refine⟨h.low.trans ((hx.mono (by omega)).trans (hw.below h.ge (by omega))),keep h.box h.nb,fun j q hq=>?_,fun e=>?_,fun k hk=>?_,h.lt,fun k hk=>?_,h.wr.trans ((Wr.of_below hx (fun k=>n₀<=k)).trans hw (fun _ _ e=>e) (fun k _ hk=>h.ge k hk)) (fun _ _ e=>e) (fun _ _ e=>e)⟩
 ·obtain⟨g,e,a1,a2,a3,a4⟩:=h.keys j q hq;have hg:¬ M1 g:=fun hg=>by
   rcases h.sub g hg with h1|h1
   . have:=h.lt g h1;omega
   . omega
  exact⟨g,e,a1,a2,keep a3 hg,keep a4 hg⟩
 ·rcases hM Bx e with h1|h1
  . exact h.nb h1
  . have:=Af h.box;simp at this;omega
 ·rcases hM k hk with h1|h1
  . exact h.sub k h1
  . right;omega
 ·rcases hM k hk with h1|h1
  . exact h.ge k h1
  . omega
theorem R9 (n n₀ Bx t v:Nat){o:Own}{f:Nat×Nat->Option Nat}(ht:AN o w0 v t f)(hlt:Ac o w0)(h0:w0.heap.size<=n₀)(w:Wd)(hw:Below n₀ w0 w)(hn0:n₀<=w.heap.size)(hBn:n₀<=Bx)(hBp:w.cell? (Av Bx)=some (Pt t))
 (hcard:∀ l:List ((Nat×Nat)×Value),(l.map Prod.fst).Nodup->(∀ k,getL l k=(f k).map (fun(id:Nat)=>Value.int .i64 id))->l.length<1000000000) :
 Lj Fence.wide n 0 prog 268 #[Pt Bx] (fun p:(Nat×Nat)×Nat=>#[encE p.1,Iv p.2]) n₀ (· = Bx) (fun xs=>(xs.map Prod.fst).Nodup/\∀ k id,(k,id)∈xs↔f k=some id) w:=by
 intro l J M W gX gY gm h7 hY hJ;have k6:Bx<W.heap.size:=VJ (Af hBp) gm.size;have gc:Below n₀ w0 W:=hw.trans (gm.below (fun k h=>h.1) hn0);have cB:W.cell? (Av Bx)=some (Pt t):=Co hBp (gm.keep Bx (Af hBp) (fun h=>h.2 rfl));obtain⟨mb,lm,h1,h2,h3,h4⟩:=ht.ex;have hZ:t<w0.heap.size:=(Vr.1 h1).1;have hT:W.heap[t]?=some (.cells #[.map (some mb)] 230 (0,0)):=(gc.block t (by omega)).trans h1;have cT:=cell1 hT;have k3:mb<w0.heap.size:=h3.lt;obtain⟨es,clock,gO,gl,g9,gB⟩:=h3.ex;have hM:W.heap[mb]?=some (.map es clock):=(gc.block mb (by omega)).trans gO;have gL:=run_range_map (P:=prog) W 228 _ _ mb es clock underlying228 hM;obtain⟨W1,gn⟩:=Ex (W.alloc (.mapIter (some mb) clock #[] clock));have gU:Bw W W1:=by rw[gn];exact Ah _ _
 have gR:W1.heap[W.heap.size]?=some (.mapIter (some mb) clock #[] clock):=by rw[gn];exact Vv _ _
 rw[<- gn] at gL;have gP:mb<W.heap.size:=by have:=gc.size;omega
 have gy:es.size<1000000000:=by
  have e1:=Wo List.length gl;have e2:=hcard lm h3.nodup h4;simp at e1;omega
 have hu:=Hd gy;have gE:Hq (∀ W',W'.heap[mb]?=W.heap[mb]?->A3 W' mb encE lm):=Hd fun W' hh=>⟨⟨es,clock,hh.trans hM,gl,g9,gB⟩,h3.nodup⟩
 have gd:=Hd h4;have hO:=Hd (hcard lm h3.nodup h4);have hK:=Hd h3.nodup;have HM:=Hd hM;have gI:=Hd g9;have hf:=Hd gB;have hd:=Hd gl;have hX:=Hd gU;have hc:=Hd gR;have HJ:=Hd hJ;have hL:=Hd (h7 Bx rfl);have HY:=Hd hY;have h9:=Hd gX;have ha:=Hd gY;obtain⟨r,hr⟩:=Ex W.heap.size;rw[<- hr] at gL hc;have HR:=Hd hr;clear hcard gy hJ hY gX gY gU gR gn hM g9 gB gl h1 h2 h3 h4 hT gO ht gm h7 hw hr;refine callsIn_of_wp func268 rfl trivial ?_ rfl;refine wpIn_wide.2 ?_;simp only[ntmps268,WR,VO,WN,Nat.reduceAdd,Nat.reduceSub,Xc,Xd,Xu,Xk,Ws,Xr];go_wp2_with fail
 go_loopg [3] (leftOf es #[]).size (fun gk s3 wr=>∃ seen ks sl oG,KeyS W mb r clock es seen ks sl s3 oG wr/\gk=(leftOf es seen).size)
 case atStart=>exact⟨#[],[],[],fun _=>none,⟨hX.o,hc.o,C9.start es clock,RowR.nil _ _ _ _ _,fun k q h=>(by cases h),fun k q h=>(by cases h),rfl,by have h:(leftOf es #[]).size<=es.size:=(by unfold leftOf;exact Array.size_filter_le);simpa using h⟩,rfl⟩
 case round =>
  obtain⟨seen,ks,sl,oG,hS,gx⟩:=hrel;have gp:=(hS.low.block mb gP).trans HM.o;have g8:ks.length<1000000000:=by have:=hS.cnt;have:=hu.o;omega
  rcases run_next_at (P:=prog) wr 0 r mb clock clock seen es clock hS.it gp gI.o (Vu _) with ⟨hz,g4⟩|⟨e,he,w1,g6,g4⟩
  ·have gi:=hS.came.keysOf (w:=W) (b:=mb) hf.o hz hd.o;have gh:=R7 hS.row g8 (hS.low.trans (VI _ _)) cB cT (fun k q h=>(hS.ge k q h).2) hS.lt gE.o gd.o (Af cB) (Af cT) gP;have gH:=Hd gi;have gG:=Hd gh;clear hS hz gi gh;go_wp2_with fail;refine gG.o.mono ?_;rintro x w2 ⟨rfl,ks',hp,hv,g5⟩;obtain⟨ak,ck,rfl,ga⟩:=hv;have HP:=Hd (hp.trans gH.o);have hU:=Hd ga;have HB2:=Hd g5;have h6:J [] M w2:=ha.o _ _ _ _ HJ.o ⟨g5.os,g5.tape,g5.output,g5.size,fun k hk _=>g5.block k hk⟩;have hQ:=Hd h6;clear hp ga g5 h6 g4 gp g8 gx;go_wp2_with fail;refine(wpIn_wide (n:=n)).1 ?_;obtain⟨xs,gv⟩:=Ex (ks'.map (fun k=>(k,(f k).getD 0)));have gj:=Rn HP.o hK.o gd.o gv;have k4:ks'.length<1000000000:=by have h1:=HP.o.length_eq;have h2:=hO.o;simp at h1;omega
   have h8:=Hd gv;have gu:=Hd gj;have gJ:YS n₀ W w2 Bx t ak ks' M M w2:=by
    refine⟨HB2.o.mono (by omega),(Cq HB2.o cB),fun j q hq=>?_,hL.o,fun k h=>.inl h,fun k hk=>(h9.o _ _ _ HJ.o k hk).2,fun k hk=>(h9.o _ _ _ HJ.o k hk).1,Wr.refl _ _⟩;obtain⟨g,a1,a2,a3,a4⟩:=hU.o j q hq;exact⟨g,a1,a2,Af a3,a3,a4⟩
   have hD:=Hd gJ;have k0:prog.follows .mixedOrders=true:=by kernel_rfl
   clear gv gj gJ
   gi_loopw [27] (fun i wr=>∃ (k:Nat) (M1:Nat->Prop),k<=ks'.length/\i=Iv k/\J (xs.take k) M1 wr/\YS n₀ W w2 Bx t ak ks' M M1 wr) (fun i _=>ks'.length-(intOf i).toNat)
   case atStart=>exact⟨0,M,VC _,rfl,hQ.o,hD.o⟩
   case round =>
    obtain⟨k,M1,hk,rfl,gr,hS⟩:=hrel
    by_cases gw:k<ks'.length
    ·obtain⟨q,hq⟩:∃ q,ks'[k]?=some q:=⟨_,VA gw⟩;obtain⟨g,hC,hB,hA,e0,e1⟩:=hS.keys k q hq;subst hC;have k5:(k:Int)<ks'.length:=by omega
     have cB3:=hS.box;have cT3:=(hS.low.cell (p:=Av t) (by show t<n₀;omega)).trans cT;obtain⟨w3,g0⟩:=Ex (wr.alloc (.cells #[Iv q.1,Iv q.2] 280));have g2:Bw wr w3:=by rw[g0];exact Ah _ _
     have h5:J (xs.take k) M1 w3.drew:=ha.o _ _ _ _ gr (by
      have:=(Wr.of_below g2 (fun k=>n₀<=k/\¬ M1 k)).drew;exact this)
     have g7:=Ro (G:=fun xs:List ((Nat×Nat)×Nat)=>(xs.map Prod.fst).Nodup/\∀ k id,(k,id)∈xs↔f k=some id) gu.o (k:=k) (x:=(q,(f q).getD 0)) (by rw[h8.o,WP,hq];rfl);obtain⟨suf,g7,gg⟩:=g7;obtain⟨fn,tmps,assign,body,hy,gV⟩:=HY.o _ (q,(f q).getD 0) M1 w3.drew h5 ⟨suf,g7⟩;have hj:mb<n₀:=by omega
     have gF:=Lx (gE.o w3.drew ((g2.block mb (by have:=hS.low.size;omega)).trans (hS.low.block mb hj))) gd.o q;have gT:w3.heap[wr.heap.size]?=some (.cells #[Iv q.1,Iv q.2] 280 (0,0)):=by rw[g0];exact Vv _ _
     obtain⟨x0,x1,_⟩:=cells2 gT;have b3:=Cq g2 cB3;have t3:=Cq g2 cT3;simp only[encE] at hy;have hH:=Hd gV;have HS:=Hd hS;have hg:=Hd g2;have hE:=Hd gg;have gD:Hq (_=w3):=Hd g0.symm;obtain⟨b6,gC⟩:=Ex wr.heap.size;have hW:Hq (_=b6):=Hd gC.symm;rw[<- gC] at x0 x1;clear gT hS g2 h5 gr g7 gV gg g0 gC gw hB hA hq cB3 cT3
     gi_wp2
     rw[gD.o,hW.o];refine R8 (fun W'=>∃ M3,J (xs.take k++[(q,(f q).getD 0)]) M3 W'/\Wr M1 w3.drew W'/\∀ k,M3 k->M1 k\/w3.drew.heap.size<=k) ?_;apply Exists.intro;refine⟨?_,?_⟩
     ·gi_region_with_o (refine⟨fun h=>(by cases h),hH.o.mono ?_⟩;rintro e W4 ⟨rfl,M3,gt,gf,gq⟩)
      all_goals exact⟨rfl,M3,gt,gf,gq⟩
     ·rintro W4 ⟨M3,gt,gf,gq⟩;have hP:=Hd gt;have hG:=Hd (HS.o.go (by omega) (hg.o.trans ((Am w3 1).mono hg.o.size)) gf gq);clear gt gf gq x0 x1 b3 t3 e0 e1 gF hy
      gi_wp2
      go_roundw
      case rel=>exact⟨k+1,M3,by omega,by go_num,by rw[hE.o];exact hP.o,hG.o⟩
      case measure=>simp[intOf];omega
    ·obtain rfl:k=ks'.length:=by omega
     have hb:=Hd gr;have HS:=Hd hS;clear gr hS
     gi_wp2
     go_end0;have ht:xs.take ks'.length=xs:=Wv (by rw[h8.o];simp);rw[ht] at hb;exact⟨⟨_,rfl⟩,xs,M1,gu.o,hb.o,(Wr.of_below HB2.o (fun k=>n₀<=k)).trans HS.o.wr (fun _ _ e=>e) (fun _ _ e=>e),fun k hk=>(HS.o.sub k hk).imp id fun h=>Vy HB2.o.size h⟩
  ·have gA:=(mem_left he).1;obtain⟨q,hq⟩:∃ q,e.key=encE q:=by
    have h1:(e.key,e.val)∈es.toList.map (fun e=>(e.key,e.val)):=VD.2 ⟨e,gA,rfl⟩;rw[hd.o] at h1;obtain⟨p,_,h2⟩:=VD.1 h1;exact⟨p.1,(Prod.mk.inj h2).1.symm⟩
   obtain⟨w2,g3⟩:=Ex (setBlock w1 r (.mapIter (some mb) clock (seen.push e.born) clock));have hi:=g3;obtain⟨w3,g0⟩:=Ex (w2.alloc (.cells #[Iv q.1,Iv q.2] 280));have g2:Bw w2 w3:=by rw[g0];exact Ah _ _
   obtain⟨row3,lt3⟩:=hS.row3 g6 g3 g2;have z2:w2.heap.size=wr.heap.size:=by rw[g3];rcases g6 with rfl|rfl<;>simp[setBlock]
   have gK:r<wr.heap.size:=(Vr.1 hS.it).1;have gN:mb≠r:=by have:=HR.o;omega
   have gZ:w2.heap[mb]?=some (.map es clock):=by rw[g3];rcases g6 with rfl|rfl<;>simp[setBlock,Xq,Wn gN]<;>exact gp
   have i2:w2.heap[r]?=some (.mapIter (some mb) clock (seen.push e.born) clock):=by rw[g3];rcases g6 with rfl|rfl<;>simp[setBlock,gK]
   have gz:=run_entry_at (P:=prog) w2 r mb clock seen es clock e i2 gZ gA hf.o;have hI:Hq (∀ (g1 k1:Nat) (w4:Wd) (o1:Own),RowR o1 w4 .slots 280 2 (.slice (some (Av g1)) (ks.length+1) k1) (ks.length+1) (ks.flatMap AR++AR q)->Chg (· = .slots) oG o1 w3 w4->Ac o1 w4->KeyS W mb r clock es (seen.push e.born) (ks++[q]) (sl++[e]) (.slice (some (Av g1)) (ks.length+1) k1) o1 w4) :=
    Hd fun g1 k1 w4 o1 a b c=>hS.next (by have:=HR.o;omega) he hq g6 g3 g2 a b c
   have hF:=Hd (left_shrinks es seen e he);have cB2:w3.cell? (Av w2.heap.size)=some (Iv q.1):=by rw[g0,Vt _ _ 0 _ _ _ (Vv w2 _)];rfl
   have cB3:w3.cell? (Aw w2.heap.size 1)=some (Iv q.2):=by rw[g0,Vt _ _ 1 _ _ _ (Vv w2 _)];rfl
   have hR:=Hd gx;have ho:=Hd g8;have hm:=Hd row3;have hn:=Hd lt3;rw[hq] at g4 gz;rw[<- g3] at g4;unfold encE at g4 gz;have gD:Hq (_=w3):=Hd g0.symm;clear hS he gA hq g6 g3 hi g0 g2 row3 lt3 z2 gK gN gZ i2 gp gx g8;go_upto_region 5 with fail;rw[gD.o]
   go_wp2_with (at_builtin
                refine E9 (wr:=w3) 297 280 2 16 _ underlying297 QL rfl (by decide) rfl _ _ rfl rfl rfl rfl rfl rfl (by simp[Value.oneCell']) hm.o hn.o ho.o (by decide) ?_;intro g1 k1 w4 o1 gM gS gQ;have hN:=Hd (hI.o g1 k1 w4 o1 gM gS gQ);clear gM gS gQ)
   go_roundg (leftOf es (seen.push e.born)).size
   case rel=>exact⟨_,_,_,_,hN.o,rfl⟩
   case measure=>have h1:=hF.o;have h2:=hR.o;omega
theorem Ek:∀ (n:Nat) (l:List Nat),l.Nodup->(∀ x∈l,x<n)->l.length<=n
 | 0,l,_,h=>by
   cases l with
   | nil=>simp
   | cons a l=>have:=h a (by simp);omega
 | n+1,l,hn,h=>by
   by_cases hm:n∈l
   ·have h1:=Ek n (l.erase n) (hn.erase n) (fun x hx=>by
     have h2:=h x (List.mem_of_mem_erase hx);have h3:x≠n:=fun e=>by subst e;exact(List.Nodup.not_mem_erase hn) hx
     omega)
    rw[List.length_erase_of_mem hm] at h1;omega
   ·have h1:=Ek n l hn (fun x hx=>by
     have h2:=h x hx;have h3:x≠n:=fun e=>by subst e;exact hm hx
     omega)
    omega
theorem RA (ht:∀ lo hi id,d.tab x (lo,hi)=some id->Aa d id=some ⟨x,lo,hi⟩)(hlt:∀ i b,Aa d i=some b->i<n)(hn:n<1000000000)(l:List ((Nat×Nat)×Value))(hnd:(l.map Prod.fst).Nodup)(hf:∀ k,getL l k=(d.tab x k).map (fun(id:Nat)=>Value.int .i64 id)):l.length<1000000000:=by
 have hk:∀ k∈l.map Prod.fst,∃ id,d.tab x k=some id:=fun k hk=>by
  cases h:d.tab x k with
  | some id=>exact⟨id,rfl⟩
  | none =>
    have h1:=CV (l:=l) (k:=k);rw[hf k,h] at h1;obtain⟨p,hp,rfl⟩:=VD.1 hk;exact absurd rfl (h1.1 rfl p hp)
 have g0:(((l.map Prod.fst)).map fun k=>(d.tab x k).getD 0).Nodup:=by
  refine Xv.2 (hnd.imp_of_mem ?_);intro a b ha hb g2 e;obtain⟨i,hi⟩:=hk a ha;obtain⟨j,hj⟩:=hk b hb;rw[hi,hj] at e;simp only[XR] at e;subst e;have e1:=ht a.1 a.2 _ hi;have e2:=ht b.1 b.2 _ hj;rw[e1] at e2;simp only[Wg,BN.mk.injEq,true_and] at e2;exact g2 (Prod.ext e2.1 e2.2)
 have:=Ek n _ g0 (fun i hi=>by
  obtain⟨k,g1,rfl⟩:=VD.1 hi;obtain⟨id,h1⟩:=hk k g1;rw[h1];exact hlt _ _ (ht k.1 k.2 _ h1))
 simp at this;omega
attribute [local go_sem] XX
theorem RB (t:Nat)(w:Wd):Cl 257 #[Pt t] w fun e w'=>e=.returned (.func (.func 268) #[] #[Pt w.heap.size])/\w'=w.alloc (.cells #[Pt t] 173):=by
 have g0:∀ (fn:Fn) (first cap:Array Value) (w:Wd),(Instr.makeFunc fn first cap).run prog w=.ok (.func fn first cap) w:=fun _ _ _ _=>rfl
 go_enter func257,ntmps257
 go_wp2_with fail;go_ret;exact⟨rfl,rfl⟩
def Bh (d:Ae)(y:Nat)(pre:List ((Nat×Nat)×Nat)):List TN:=(pre.filter (fun p=>Ce d y p.2)).map (fun p=>tnOf d y p.2)
structure TurS (d:Ae)(y:Nat)(w:Wd)(sb:Nat)(pre:List ((Nat×Nat)×Nat))(M:Nat->Prop)(W:Wd)(v:Value)(oG:Own):Prop where
 mm:∀ k,M k↔(k=w.heap.size\/k=w.heap.size+1\/k=w.heap.size+2\/oG k=some .slots)
 low:Bw w W
 boxs:W.heap[w.heap.size]?=some (.cells #[Pt sb] 96 (0,0))
 boxy:W.heap[w.heap.size+1]?=some (.cells #[Iv y] 3 (0,0))
 boxg:W.heap[w.heap.size+2]?=some (.cells #[v] 249 (0,0))
 row:RowR oG W .slots 256 9 v (Bh d y pre).length ((Bh d y pre).flatMap tnV)
 lt:Ac oG W
 ge:∀ k r,oG k=some r->r=.slots/\w.heap.size+3<=k
theorem TurS.no {pre:List ((Nat×Nat)×Nat)}(h:TurS d y w sb pre M W v oG)(k:Nat)(hk:k<w.heap.size+3):oG k=none:=by
 cases e:oG k with
 | none=>rfl
 | some r=>have:=(h.ge k r e).2;omega
theorem TurS.minds {pre:List ((Nat×Nat)×Nat)}(h:TurS d y w sb pre M W v oG)(hw:Wr (fun k=>w.heap.size<=k/\¬ M k) W W'):TurS d y w sb pre M W' v oG:=by
 have hk:∀ k,k<W.heap.size->M k->W'.heap[k]?=W.heap[k]?:=fun k h1 h2=>hw.keep k h1 (fun e=>e.2 h2)
 have hm:=h.mm
 refine⟨hm,h.low.trans (hw.below (fun k h=>h.1) h.low.size),(hk _ (Vr.1 h.boxs).1 ((hm _).2 (.inl rfl))).trans h.boxs,(hk _ (Vr.1 h.boxy).1 ((hm _).2 (.inr (.inl rfl)))).trans h.boxy,
  (hk _ (Vr.1 h.boxg).1 ((hm _).2 (.inr (.inr (.inl rfl))))).trans h.boxg,h.row.keep (fun g hg=>hk g (h.lt g _ hg) ((hm g).2 (.inr (.inr (.inr hg))))) (fun _ h=>h),h.lt.mono hw.size,h.ge⟩
theorem RC {pre:List ((Nat×Nat)×Nat)}{p:(Nat×Nat)×Nat}(h:Ce d y p.2=false):Bh d y (pre++[p])=Bh d y pre:=by unfold Bh;rw[WM];simp[h]
theorem RD {pre:List ((Nat×Nat)×Nat)}{p:(Nat×Nat)×Nat}(h:Ce d y p.2=true):Bh d y (pre++[p])=Bh d y pre++[tnOf d y p.2]:=by unfold Bh;rw[WM];simp[h]
theorem TurS.skip {pre:List ((Nat×Nat)×Nat)}{p:(Nat×Nat)×Nat}(h:TurS d y w sb pre M W v oG)(hp:Ce d y p.2=false):TurS d y w sb (pre++[p]) M W v oG :=
 ⟨h.mm,h.low,h.boxs,h.boxy,h.boxg,by rw[RC hp];exact h.row,h.lt,h.ge⟩
theorem TurS.add {pre:List ((Nat×Nat)×Nat)}{oG':Own}{p:(Nat×Nat)×Nat}(h:TurS d y w sb pre M W v oG)(hp:Ce d y p.2=true)
 (hr:RowR oG' W1 .slots 256 9 v' ((Bh d y pre).length+1) (((Bh d y pre).flatMap tnV)++tnV (tnOf d y p.2))) (hg:Chg (· = .slots) oG oG' W W1) (hl:Ac oG' W1) {n:Nat} (hn:n<=W.heap.size) :
 ∃ M',(∃ v oG,TurS d y w sb (pre++[p]) M' (W1.setCell (Av (w.heap.size+2)) v') v oG)/\Wr (fun k=>M k\/n<=k) W (W1.setCell (Av (w.heap.size+2)) v')/\∀ k,M' k->M k\/n<=k:=by
 have g0:w.heap.size+2<W.heap.size:=(Vr.1 h.boxg).1;have k0:=(hg.alien (by omega) (h.no w.heap.size (by omega))).trans h.boxs;have ky:=(hg.alien (by omega) (h.no (w.heap.size+1) (by omega))).trans h.boxy;have k1:=(hg.alien g0 (h.no (w.heap.size+2) (by omega))).trans h.boxg;have ge':∀ k r,oG' k=some r->r=.slots/\w.heap.size+3<=k:=fun k r hk=>by
  by_cases e:oG' k=oG k
  . rw[e] at hk;exact h.ge k r hk
  ·obtain⟨a1,q,a2,a3⟩:=hg.new k e;rw[hk] at a2;cases a2
   exact⟨a3,by omega⟩
 refine⟨fun k=>k=w.heap.size\/k=w.heap.size+1\/k=w.heap.size+2\/oG' k=some .slots,⟨v',oG',⟨fun k=>Iff.rfl,?_,?_,?_,A2 k1 _,?_,hl.mono (by simp[World.setCell]),ge'⟩⟩,?_,fun k hk=>?_⟩
 . have:Bw w W1:=h.low.trans ⟨hg.os,hg.tape,hg.output,hg.size,fun k hk=>hg.alien (VJ hk h.low.size) (h.no k (by omega))⟩;exact this.setCell (p:=⟨w.heap.size+2,0,Option.none⟩) (by show _<=w.heap.size+2;omega) _
 . exact(Ay (by show _≠w.heap.size+2;omega) _).trans k0
 . exact(Ay (by show _≠w.heap.size+2;omega) _).trans ky
 . rw[RD hp,Vx,Xw];simp only[WX,WQ,List.flatMap_nil,WU];exact hr.setCell_other (fun e=>by have:=(ge' _ _ e).2;simp at this) _
 . have:Wr (fun k=>M k\/n<=k) W W1:=⟨hg.os,hg.tape,hg.output,hg.size,fun k hk hm=>hg.block k hk fun r hr e=>hm (.inl ((h.mm k).2 (.inr (.inr (.inr (by rw[hr,e]))))))⟩;exact this.setCell (p:=⟨w.heap.size+2,0,Option.none⟩) (.inl (.inl ((h.mm _).2 (.inr (.inr (.inl rfl)))))) _
 ·rcases hk with hk|hk|hk|hk
  . exact .inl ((h.mm k).2 (.inl hk))
  . exact .inl ((h.mm k).2 (.inr (.inl hk)))
  . exact .inl ((h.mm k).2 (.inr (.inr (.inl hk))))
  ·by_cases e:oG' k=oG k
   . rw[e] at hk;exact .inl ((h.mm k).2 (.inr (.inr (.inr hk))))
   . have:=(hg.new k e).1;right;omega
theorem L8 (ht:∀ lo hi id,d.tab x (lo,hi)=some id->Aa d id=some ⟨x,lo,hi⟩)(hlt:∀ i b,Aa d i=some b->i<n){xs:List ((Nat×Nat)×Nat)}(hnd:(xs.map Prod.fst).Nodup)(hf:∀ k id,(k,id)∈xs->d.tab x k=some id):xs.length<=n:=by
 have h1:(xs.map Prod.snd).Nodup:=by
  rw[X5,Xv];rw[X5,Xv] at hnd;refine hnd.imp_of_mem fun {a b} ha hb g0 e=>g0 ?_
  have q1:=ht _ _ _ (hf a.1 a.2 ha);have q2:=ht _ _ _ (hf b.1 b.2 hb);rw[e,q2] at q1;cases a;cases b
  simp at q1;exact Prod.ext q1.1.symm q1.2.symm
 have h2:=Ek n (xs.map Prod.snd) h1 (fun i hi=>by
  obtain⟨q,hq,rfl⟩:=VD.1 hi;exact hlt _ _ (ht _ _ _ (hf q.1 q.2 hq)))
 simpa using h2
theorem L9:(prog.info? 256).map (fun i=>(i.zero,i.size,i.bytes))=some (some (.agg #[Iv 0,Iv 0,Iv 0,Iv 0,Iv 0,Iv 0,Iv 0,Iv 0,Iv 0]),9,72):=by kernel_rfl
theorem LC (N:RN)(ll lh hl hh:Nat):tnV ⟨N,ll,lh,hl,hh⟩=[Iv N.id,Iv N.v,Iv N.lo,Iv N.hi,Iv N.refs,Iv ll,Iv lh,Iv hl,Iv hh]:=rfl
abbrev XV:=@List.filter_sublist
theorem RE {o:Own}(h:Az o w sb d)(hlt:Ac o w)(hk:Ak d V)(x y:Nat)(hx:x<d.vars.length) :
 Cl 216 #[Pt sb,Iv x,Iv y] w fun e w'=>∃ (v:Value) (ids:List Nat),e=.returned v/\ids.Nodup/\(∀ i,i∈ids↔Turns (Aa d) x y i)/\TRow w' w.heap.size v (ids.map (tnOf d y))/\Bw w w':=by
 obtain⟨s,h⟩:=h;obtain⟨gt,ct,hE,gF,hF,hG⟩:=h.tabAt hx;obtain⟨c0,c1,c2,c3,c4,f0⟩:=cells5 h.blk;rw[hE] at c2;obtain⟨t,ht⟩:=Ex (s.ts.getD x 0);rw[<- ht] at gF;have gv:=h.tab x hF;rw[<- ht] at gv;have hz:=Hd gv;have gr:=Hd h;have gu:=Hd hlt;have HK:=Hd hk;clear ht gv;have k3:(x:Int)<s.ts.length:=by omega
 obtain⟨w1,gC⟩:=Ex (((w.alloc (.cells #[Pt sb] 96)).alloc (.cells #[Iv y] 3)).alloc (.cells #[.slice none 0 0] 249));have HW1:Hq (_=w1):=Hd gC.symm;have gq:Bw w w1:=by rw[gC];exact((Ah _ _).alloc (by simp) _).alloc (by simp;omega) _
 have c2':=Cq gq c2;have hu:=Cq gq gF;have cB:w1.cell? (Av w.heap.size)=some (Pt sb):=by rw[gC];exact cell1 ((W9 _ _ _ (by simp;omega)).trans ((W9 _ _ _ (by simp)).trans (Vv w _)))
 have HE:=Hd (fun t W=>RB t W);clear c0 c1 c2 c3 c4 f0 gF gC;refine(Yg (n:=9)).1 ?_;refine callsIn_of_wp_marks func216 rfl trivial ?_;refine wpIn_wide.2 ?_;simp only[ntmps216,WR,VO,WN,Nat.reduceAdd,Nat.reduceSub,Xc,Xd,Xu,Xk,Ws,Xr];go_upto_region 2 with fail;rw[HW1.o];go_wp2_with fail;refine(HE.o _ _).mono ?_;rintro e w2 ⟨rfl,hC⟩;go_wp2_with fail;obtain⟨w2',g3⟩:=Ex (w1.alloc (.cells #[Pt t] 173));rw[<- g3];have h5:Bw w w2':=by rw[g3];exact gq.alloc gq.size _
 have hs1:w1.heap.size=w.heap.size+3:=by rw[<- HW1.o];simp
 have k9:w2'.heap.size=w.heap.size+4:=by rw[g3];simp[hs1]
 have hQ:w2'.heap[w.heap.size]?=some (.cells #[Pt sb] 96 (0,0)):=by rw[g3,<- HW1.o];exact(W9 _ _ _ (by simp<;>omega)).trans ((W9 _ _ _ (by simp<;>omega)).trans ((W9 _ _ _ (by simp)).trans (Vv w _)))
 have hP:w2'.heap[w.heap.size+1]?=some (.cells #[Iv y] 3 (0,0)):=by
  rw[g3,<- HW1.o];have h0:=Vv (w.alloc (.cells #[Pt sb] 96)) (.cells #[Iv y] 3);rw[VK] at h0;exact(W9 _ _ _ (by simp<;>omega)).trans ((W9 _ _ _ (by simp)).trans h0)
 have hR:w2'.heap[w.heap.size+2]?=some (.cells #[.slice none 0 0] 249 (0,0)):=by
  rw[g3,<- HW1.o];have h0:=Vv ((w.alloc (.cells #[Pt sb] 96)).alloc (.cells #[Iv y] 3)) (.cells #[.slice none 0 0] 249);rw[VK,VK] at h0;exact(W9 _ _ _ (by simp)).trans h0
 have h6:w2'.cell? (Av w1.heap.size)=some (Pt t):=by rw[g3];exact cell1 (Vv w1 _)
 have gG:=RA (d:=d) (x:=x) (fun lo hi id e=>(HK.o.tab x hx lo hi id).1 e) (n:=1048577) (fun i b e=>by have:=gr.o.tk_lt e;omega) (by omega);have HG:=Hd (R9 8 w.heap.size w1.heap.size t x hz.o gu.o (Vu _) w2' h5 (by omega) (by omega) h6 gG);clear gG h6 g3 hC c2' hu cB HE hG gq;refine(wpIn_wide (n:=9)).1 ?_;refine QJ rfl (by omega) (gf:=268) (lb:=#[Pt w1.heap.size]) rfl trivial (XS func268 (by kernel_rfl) rfl) HG.o (by omega) (by rintro k rfl;omega) (fun p=>rfl)
  (fun pre M W=>∃ v oG,TurS d y w sb pre M W v oG) ?_ ?_ (fun k=>k=w.heap.size\/k=w.heap.size+1\/k=w.heap.size+2) (by rintro k rfl h;omega) ⟨.slice none 0 0,fun _=>none,(⟨fun k=>by simp,h5,hQ,hP,hR,RowR.nil _ _ _ _ _,fun k r h=>(by cases h),fun k r h=>(by cases h)⟩:TurS d y w sb [] _ w2' (.slice none 0 0) (fun _=>none))⟩
  (fun p a' W W1=>a'={ tmps:=#[Value.pointer (some { block:=sb,off:=0 }),Value.int IntKind.i64 ↑x,Value.int IntKind.i64 ↑y,Value.pointer (some { block:=w.heap.size,off:=0 }),undef,Value.pointer (some { block:=w.heap.size+1,off:=0 }),Value.slice none 0 0,Value.pointer (some { block:=w.heap.size+1+1,off:=0 }),undef,Value.int IntKind.i64 ↑p.2,undef,undef,undef,Value.pointer (some { block:=sb,off:=0 }),Value.pointer (some { block:=sb,off:=0 }),Value.pointer (some { block:=sb,off:=2 }),Value.slice (some { block:=gt,off:=0 }) s.ts.length ct,Value.int IntKind.i64 ↑x,Value.pointer (some { block:=gt,off:=x }),Value.pointer (some { block:=t,off:=0 }),Value.func (Fn.func 268) #[] #[Value.pointer (some { block:=w.heap.size+3,off:=0 })],encE p.1,Value.int IntKind.i64 ↑p.2,undef,undef,undef,undef,undef,undef,undef,undef,undef,undef,undef,undef,undef,undef,undef,undef,undef,undef,undef,undef,undef,undef,undef,undef,undef,undef,undef,undef,undef,undef,undef,undef,undef,undef,undef,undef,undef,undef,undef,undef,undef,undef,undef,undef,undef,undef,undef,undef],defers:=[] }) ?_ ?_ ?_ ?_
 ·rintro pre M W ⟨v,oG,hS⟩ k hk;rcases(hS.mm k).1 hk with rfl|rfl|rfl|hg
  . exact⟨Vu _,(Vr.1 hS.boxs).1⟩
  . exact⟨by omega,(Vr.1 hS.boxy).1⟩
  . exact⟨by omega,(Vr.1 hS.boxg).1⟩
  . have:=(hS.ge k _ hg).2;exact⟨by omega,hS.lt k _ hg⟩
 . rintro pre M W W' ⟨v,oG,hS⟩ hw;exact⟨v,oG,hS.minds hw⟩
 . intro p a' W W1 W2 l _ h _;exact h
 ·intro l pre p M W K hI hK
  gi_wp2
  exact hK _ _ (Wr.refl _ _) rfl
 ·rintro l pre p a' M W0 W ⟨v,oG,hS⟩ rfl gZ k4 ⟨suf,gc,g0⟩;have gD:=L8 (d:=d) (x:=x) (fun lo hi id e=>(HK.o.tab x hx lo hi id).1 e) (n:=1048577) (fun i b e=>by have:=gr.o.tk_lt e;omega) gc (fun k id h=>(g0 k id).1 h);have gE:(Bh d y pre).length<1000000000:=by
   have h1:(Bh d y pre).length<=pre.length:=by unfold Bh;rw[VP];exact WD _ _
   simp at gD;omega
  have gU:=Hd gE;clear gD gE gc;have hp:d.tab x p.1=some p.2:=(g0 p.1 p.2).1 (by simp);obtain⟨i,hi⟩:=Ex p.2;have gN:Aa d i=some ⟨x,p.1.1,p.1.2⟩:=(HK.o.tab x hx _ _ _).1 (by rw[hi];exact hp);obtain⟨gY,gP,gI⟩:=BJ gN;rw[gP] at gI;obtain⟨N,hN⟩:=Ex (d.pool.nd i);have gM:=gr.o.below gu.o hS.low;have gO:=gu.o.mono hS.low.size;obtain⟨q0,q1,q2,q3,q4,_⟩:=cells5 gM.blk;have cs:=cell1 hS.boxs;have cy:=cell1 hS.boxy;have hd:=Hd (JZ o s.pb d.pool i W gM.pool gO gY);rw[<- hN] at hd gI;rw[<- hi];have HI:=Hd hi;have HS:=Hd hS;have HN:=Hd hN;have hX:=Hd gI;have h7:=Hd gN;clear hS hi hN gI gN gM gO gY gP hp g0 q0 q2 q3 q4
  gi_wp2
  refine⟨trivial,(CallsIn.inRound l (Yg.2 hd.o)).mono ?_⟩;rintro e W3 ⟨rfl,gp⟩;have cs3:=Cq gp cs;have cy3:=Cq gp cy;simp only[An];have lb0:w.heap.size<W3.heap.size:=Af cs3;have lb1:w.heap.size+1<W3.heap.size:=Af cy3;have lb2:w.heap.size+1+1<W3.heap.size:=VJ (Vr.1 HS.o.boxg).1 gp.size;have gX:=Hd gp;clear gp cs cy q1
  gi_wp2
  obtain⟨W4,gh⟩:=Ex ((W3.alloc (.cells #[Iv N.id,Iv N.v,Iv N.lo,Iv N.hi,Iv N.refs] 254)).alloc (.cells #[Iv N.id,Iv N.v,Iv N.lo,Iv N.hi,Iv N.refs,Iv 0,Iv 0,Iv 0,Iv 0] 256));rw[<- gh];have n4:W4.heap[W3.heap.size]?=some (.cells #[Iv N.id,Iv N.v,Iv N.lo,Iv N.hi,Iv N.refs] 254 (0,0)):=by rw[gh];exact(W9 _ _ _ (by simp)).trans (Vv W3 _)
  have t4:W4.heap[W3.heap.size+1]?=some (.cells #[Iv N.id,Iv N.v,Iv N.lo,Iv N.hi,Iv N.refs,Iv 0,Iv 0,Iv 0,Iv 0] 256 (0,0)):=by
   rw[gh];have:=Vv (W3.alloc (.cells #[Iv N.id,Iv N.v,Iv N.lo,Iv N.hi,Iv N.refs] 254)) (.cells #[Iv N.id,Iv N.v,Iv N.lo,Iv N.hi,Iv N.refs,Iv 0,Iv 0,Iv 0,Iv 0] 256);rw[VK] at this;exact this
  have gz:Hq (Wr (fun _=>False) W W4):=by rw[gh];exact Hd (((Wr.of_below gX.o (fun _=>False)).alloc _).alloc _)
  have hm:W.heap.size<=W3.heap.size:=gX.o.size;have gy:Bw W3 W4:=by rw[gh];exact(Ah _ _).alloc (by simp) _
  obtain⟨b1,gR⟩:=Ex W3.heap.size;have cs4:=(gy.cell (p:=Av w.heap.size) lb0).trans cs3;have cy4:=(gy.cell (p:=(Av (w.heap.size+1))) lb1).trans cy3;have gm:Hq (∀ Wc,Wr (fun _=>False) W Wc->TurS d y w sb pre M Wc v oG):=Hd fun Wc h=>HS.o.minds (h.mono fun k e=>e.elim)
  have gl:Hq (∀ Wc,Wr (fun _=>False) W Wc->Az o Wc sb d/\Ac o Wc):=Hd fun Wc h=>⟨⟨s,gr.o.below gu.o (gm.o Wc h).low⟩,gu.o.mono (gm.o Wc h).low.size⟩
  have gw:okE (Aa d) N.lo/\okE (Aa d) N.hi:=by
   have e:=hX.o;have h1:=HK.o.dag.okLo _ _ h7.o;have h2:=HK.o.dag.okHi _ _ h7.o;have e1:p.1.1=N.lo:=by have:=Wo BN.lo e;exact this.symm
   have e2:p.1.2=N.hi:=by have:=Wo BN.hi e;exact this.symm
   dsimp only at h1 h2;rw[e1] at h1;rw[e2] at h2;exact⟨h1,h2⟩
  have hA:=Hd gw;obtain⟨⟨ll,lh⟩,g6⟩:∃ c,c=cofs d N.lo y:=⟨_,rfl⟩;obtain⟨⟨hl,hh⟩,gH⟩:∃ c,c=cofs d N.hi y:=⟨_,rfl⟩;have gB:=Hd (Ly (gl.o W4 gz.o).1 (gl.o W4 gz.o).2 HK.o N.lo gw.1 y);rw[<- g6] at gB;have hW:=Hd g6;have h8:=Hd gH;rw[<- gR] at n4 t4 hm ⊢;clear gh cs3 cy3 gw g6 gH gy gX gR lb0 lb1 lb2;refine⟨trivial,(CallsIn.inRound l (Yg.2 gB.o)).mono ?_⟩;rintro e W5 ⟨rfl,gg⟩;have lW4:b1+1<W4.heap.size:=(Vr.1 t4).1;have cs5:=Cq gg cs4;have cy5:=Cq gg cy4;have n5:=(gg.block b1 (by omega)).trans n4;have t5:=(gg.block (b1+1) lW4).trans t4;have hy:Hq (Wr (fun _=>False) W W5):=Hd (gz.o.trans (Wr.of_below gg (fun _=>False)) (fun _ _ e=>e) (fun _ _ e=>e));have f5:∀ q,W5.frozen? ⟨b1+1,q,none⟩=false:=fun q=>by simp[World.frozen?,t5]
  have k5:W5.cell? ⟨b1+1,5,none⟩=some (Iv 0):=by rw[Vt _ _ 5 _ _ _ t5];rfl
  have k6:W5.cell? ⟨b1+1,6,none⟩=some (Iv 0):=by rw[Vt _ _ 6 _ _ _ t5];rfl
  have m3:W5.cell? (Aw b1 3)=some (Iv N.hi):=by rw[Vt _ _ 3 _ _ _ n5];rfl
  have lW5:b1+1<W5.heap.size:=(Vr.1 t5).1;clear gg cs4 cy4 n4 t4 gB lW4
  gi_wp2
  obtain⟨W6,gK⟩:=Ex ((W5.setCell ⟨b1+1,5,none⟩ (Iv (ll:Nat))).setCell ⟨b1+1,6,none⟩ (Iv (lh:Nat)));rw[<- gK];have t6:W6.heap[b1+1]?=some (.cells #[Iv N.id,Iv N.v,Iv N.lo,Iv N.hi,Iv N.refs,Iv (ll:Nat),Iv (lh:Nat),Iv 0,Iv 0] 256 (0,0)):=by
   rw[gK];exact A2 (k:=6) (A2 (k:=5) t5 (Iv (ll:Nat))) (Iv (lh:Nat))
  have gj:Hq (Wr (fun _=>False) W W6):=by rw[gK];exact Hd ((hy.o.setCell (p:=⟨b1+1,5,none⟩) (.inr (by show W.heap.size<=b1+1;omega)) _).setCell (p:=⟨b1+1,6,none⟩) (.inr (by show W.heap.size<=b1+1;omega)) _)
  have gi:=(gm.o W6 gj.o);have cs6:=cell1 gi.boxs;have cy6:=cell1 gi.boxy;have gA:=Hd (Ly (gl.o W6 gj.o).1 (gl.o W6 gj.o).2 HK.o N.hi hA.o.2 y);rw[<- h8.o] at gA;clear gK cs5 cy5 n5 t5 f5 k5 k6 m3 lW5 gi;refine⟨trivial,(CallsIn.inRound l (Yg.2 gA.o)).mono ?_⟩;rintro e W7 ⟨rfl,gQ⟩;have lW6:b1+1<W6.heap.size:=(Vr.1 t6).1;have t7:=(gQ.block (b1+1) lW6).trans t6;have hv:Hq (Wr (fun _=>False) W W7):=Hd (gj.o.trans (Wr.of_below gQ (fun _=>False)) (fun _ _ e=>e) (fun _ _ e=>e));have f7:∀ q,W7.frozen? ⟨b1+1,q,none⟩=false:=fun q=>by simp[World.frozen?,t7]
  have k5:W7.cell? ⟨b1+1,5,none⟩=some (Iv (ll:Nat)):=by rw[Vt _ _ 5 _ _ _ t7];rfl
  have k6:W7.cell? ⟨b1+1,6,none⟩=some (Iv (lh:Nat)):=by rw[Vt _ _ 6 _ _ _ t7];rfl
  have k7:W7.cell? ⟨b1+1,7,none⟩=some (Iv 0):=by rw[Vt _ _ 7 _ _ _ t7];rfl
  have k8:W7.cell? ⟨b1+1,8,none⟩=some (Iv 0):=by rw[Vt _ _ 8 _ _ _ t7];rfl
  have lW7:b1+1<W7.heap.size:=(Vr.1 t7).1;clear gQ cs6 cy6 t6 gA lW6;obtain⟨W8,gJ⟩:=Ex ((W7.setCell ⟨b1+1,7,none⟩ (Iv (hl:Nat))).setCell ⟨b1+1,8,none⟩ (Iv (hh:Nat)));have t8:W8.heap[b1+1]?=some (.cells #[Iv N.id,Iv N.v,Iv N.lo,Iv N.hi,Iv N.refs,Iv (ll:Nat),Iv (lh:Nat),Iv (hl:Nat),Iv (hh:Nat)] 256 (0,0)):=by
   rw[gJ];exact A2 (k:=8) (A2 (k:=7) t7 (Iv (hl:Nat))) (Iv (hh:Nat))
  have ga:Hq (Wr (fun _=>False) W W8):=by rw[gJ];exact Hd ((hv.o.setCell (p:=⟨b1+1,7,none⟩) (.inr (by show W.heap.size<=b1+1;omega)) _).setCell (p:=⟨b1+1,8,none⟩) (.inr (by show W.heap.size<=b1+1;omega)) _)
  have g2:=Hd (gm.o W8 ga.o);have g8:=cell1 g2.o.boxg;have r0:W8.cell? (Av (b1+1))=some (Iv N.id):=by rw[Vt _ _ 0 _ _ _ t8];rfl
  have r1:W8.cell? ⟨b1+1,1,none⟩=some (Iv N.v):=by rw[Vt _ _ 1 _ _ _ t8];rfl
  have r2:W8.cell? ⟨b1+1,2,none⟩=some (Iv N.lo):=by rw[Vt _ _ 2 _ _ _ t8];rfl
  have r3:W8.cell? ⟨b1+1,3,none⟩=some (Iv N.hi):=by rw[Vt _ _ 3 _ _ _ t8];rfl
  have r4:W8.cell? ⟨b1+1,4,none⟩=some (Iv N.refs):=by rw[Vt _ _ 4 _ _ _ t8];rfl
  have r5:W8.cell? ⟨b1+1,5,none⟩=some (Iv (ll:Nat)):=by rw[Vt _ _ 5 _ _ _ t8];rfl
  have r6:W8.cell? ⟨b1+1,6,none⟩=some (Iv (lh:Nat)):=by rw[Vt _ _ 6 _ _ _ t8];rfl
  have r7:W8.cell? ⟨b1+1,7,none⟩=some (Iv (hl:Nat)):=by rw[Vt _ _ 7 _ _ _ t8];rfl
  have r8:W8.cell? ⟨b1+1,8,none⟩=some (Iv (hh:Nat)):=by rw[Vt _ _ 8 _ _ _ t8];rfl
  have hU:Hq (_=W8):=Hd gJ.symm;have kd:Hq (b1+1<W8.heap.size):=Hd (Vr.1 t8).1;clear gJ t8;have tin:tnOf d y i=⟨N,ll,lh,hl,hh⟩:=by
   unfold tnOf;rw[<- HN.o,<- hW.o,<- h8.o]
  have gk:=Hd tin;clear tin
  gi_upto_region 8 with fail
  rw[hU.o];clear t7 f7 k5 k6 k7 k8 lW7
  by_cases g4:ll≠lh\/hl≠hh
  ·have gL:Hq (Ce d y p.2=true):=Hd (by rw[<- HI.o];unfold Ce;rw[gk.o];exact WV g4);have n1:((ll:Int) != lh)=true\/((ll:Int) != lh)=false:=by cases ((ll:Int) != lh)<;>simp
   have n2:((ll:Int) != lh)=false->((hl:Int) != hh)=true:=fun e=>by
    have ka:(ll:Int)=lh:=by simpa using e
    have h1:ll=lh:=by omega
    have h2:=g4.resolve_left (fun h=>h h1);simp;omega
   rcases n1 with n1|n1
   ·clear n2
    gi_wp2_with (gi_at_builtin
                 refine Iq (wr:=W8) 249 256 9 72 _ underlying249 L9 rfl (by decide) rfl _ _ rfl rfl rfl rfl rfl rfl (by simp[Value.oneCell']) g2.o.row g2.o.lt gU.o (by decide) ?_;intro g1 k1 w1 o1 gn g6 go;have gT:=Hd gn;have gd:=Hd g6;have gV:=Hd go;clear gn g6 go;have g5:=(gd.o.alien (Vr.1 g2.o.boxg).1 (g2.o.no _ (by omega))).trans g2.o.boxg;have cg1:=cell1 g5;have fz:∀ k,w1.frozen? ⟨w.heap.size+2,k,none⟩=false:=fun k=>by simp[World.frozen?,g5]
                 clear g8 g5)
    obtain⟨M',a1,a2,a3⟩:=g2.o.add gL.o (W1:=w1) (v':=.slice (some (Av g1)) ((Bh d y pre).length+1) k1) (by
     rw[<- HI.o,gk.o,LC];exact gT.o) gd.o gV.o (n:=W0.heap.size) (Vy gZ ga.o.size)
    exact⟨M',a1,Wr.trans ga.o a2 (fun _ _ e=>e.elim) (fun _ _ e=>e),a3⟩
   ·have n3:=n2 n1;clear n2
    gi_wp2_with (gi_at_builtin
                 refine Iq (wr:=W8) 249 256 9 72 _ underlying249 L9 rfl (by decide) rfl _ _ rfl rfl rfl rfl rfl rfl (by simp[Value.oneCell']) g2.o.row g2.o.lt gU.o (by decide) ?_;intro g1 k1 w1 o1 gn g6 go;have gT:=Hd gn;have gd:=Hd g6;have gV:=Hd go;clear gn g6 go;have g5:=(gd.o.alien (Vr.1 g2.o.boxg).1 (g2.o.no _ (by omega))).trans g2.o.boxg;have cg1:=cell1 g5;have fz:∀ k,w1.frozen? ⟨w.heap.size+2,k,none⟩=false:=fun k=>by simp[World.frozen?,g5]
                 clear g8 g5)
    obtain⟨M',a1,a2,a3⟩:=g2.o.add gL.o (W1:=w1) (v':=.slice (some (Av g1)) ((Bh d y pre).length+1) k1) (by
     rw[<- HI.o,gk.o,LC];exact gT.o) gd.o gV.o (n:=W0.heap.size) (Vy gZ ga.o.size)
    exact⟨M',a1,Wr.trans ga.o a2 (fun _ _ e=>e.elim) (fun _ _ e=>e),a3⟩
  ·have gL:Hq (Ce d y p.2=false):=Hd (by rw[<- HI.o];unfold Ce;rw[gk.o];exact WJ g4);have n1:((ll:Int) != lh)=false:=by
    have:ll=lh:=Decidable.byContradiction fun h=>g4 (.inl h)
    simp[this]
   have n2:((hl:Int) != hh)=false:=by
    have:hl=hh:=Decidable.byContradiction fun h=>g4 (.inr h)
    simp[this]
   clear g4
   gi_wp2
   exact⟨M,⟨v,oG,g2.o.skip gL.o⟩,ga.o.mono (fun _ e=>e.elim),fun k hk=>.inl hk⟩
 ·rintro xs D M W ⟨gc,g0⟩ hD gS ⟨v,oG,hS⟩ hM hw gx;have g9:=cell1 hS.boxg;have HS:=Hd hS;have kb:=Hd gc;have hY:=Hd g0;have g7:=hS.low;have hZ:D<W.heap.size:=(Vr.1 gx).1;have hB:=Hd gx;have kc:=Hd gS;have HF:Hq (∃ (v':Value) (ids:List Nat),Ending.returned v=.returned v'/\ids.Nodup/\(∀ i,i∈ids↔Turns (Aa d) x y i)/\TRow (W.putObj D (.deferred none)) w.heap.size v' (ids.map (tnOf d y))/\Bw w (W.putObj D (.deferred none))):=by
   refine Hd ⟨v,(xs.filter fun p=>Ce d y p.2).map Prod.snd,rfl,?_,fun i=>?_,?_,?_⟩
   ·rw[X5,Xv];have h1:=gc;rw[X5,Xv] at h1;refine(h1.sublist XV).imp_of_mem fun {a b} ha hb hL e=>hL ?_
    have q1:=(HK.o.tab x hx a.1.1 a.1.2 a.2).1 ((g0 a.1 a.2).1 ((WO.1 ha).1));have q2:=(HK.o.tab x hx b.1.1 b.1.2 b.2).1 ((g0 b.1 b.2).1 ((WO.1 hb).1));rw[e,q2] at q1;obtain⟨⟨a1,a2⟩,a3⟩:=a;obtain⟨⟨b1,b2⟩,b3⟩:=b;simp at q1;exact Prod.ext q1.1.symm q1.2.symm
   ·rw[VD];constructor
    . rintro⟨q,hq,rfl⟩;obtain⟨hJ,hH⟩:=WO.1 hq;have hn:=(HK.o.tab x hx q.1.1 q.1.2 q.2).1 ((g0 q.1 q.2).1 hJ);exact(I4 HK.o hn rfl).1 hH
    . intro hT;obtain⟨b,hb,h4,_⟩:=id hT;have ht:=(HK.o.tab x hx b.lo b.hi i).2 (by rw[hb,<- h4]);exact⟨((b.lo,b.hi),i),WO.2 ⟨(g0 _ _).2 ht,(I4 HK.o hb h4).2 hT⟩,rfl⟩
   ·have e':((xs.filter fun p=>Ce d y p.2).map Prod.snd).map (tnOf d y)=Bh d y xs:=by unfold Bh;rw[Xa];rfl
    rw[e'];have k0:=L8 (d:=d) (x:=x) (fun lo hi id e=>(HK.o.tab x hx lo hi id).1 e) (n:=1048577) (fun i b e=>by have:=gr.o.tk_lt e;omega) gc (fun k id h=>(g0 k id).1 h);have ho:(Bh d y xs).length<=1048578:=by
     have h1:(Bh d y xs).length<=xs.length:=by unfold Bh;rw[VP];exact WD _ _
     omega
    obtain⟨ag,cpg,rfl,_⟩:=hS.row.slice;refine⟨ho,ag,cpg,rfl,fun k hk=>?_⟩;obtain⟨g,cp,he,h3,_⟩:=hS.row.shape (by omega);cases he;have hO:g≠D:=fun e=>gS ((hS.mm D).2 (.inr (.inr (.inr (e ▸ h3)))))
    refine⟨g,rfl,by have:=(hS.ge g _ h3).2;omega,fun j u hj=>?_⟩;have h9:j<9:=by have:=(Wf.1 hj).1;simpa [tnV,rnV] using this
    have hf:=D0 tnV 9 (fun _=>rfl) (Bh d y xs) k j _ (VA hk) h9;have hr:((Bh d y xs).flatMap tnV).length=(Bh d y xs).length*9:=BV _ 9 (fun _=>rfl) _;have hc:=hS.row.cell (k*9+j) (by rw[hr];omega);have gH:W.cell? (Aw g (k*9+j))=some u:=hc.trans (hf.trans hj);exact(Co gH (WA hO))
   . exact⟨g7.os,g7.tape,g7.output,by simpa using g7.size,fun q hq=>(WA (by omega)).trans (g7.block q hq)⟩
  clear hS gc g0 gx hM hw gS g7;go_wp2_with fail;refine⟨by simp,.inl ⟨D,_,rfl,run_takeDeferred hB.o,?_⟩⟩;refine⟨_,results_tmp rfl _ _ _,?_⟩;exact HF.o
structure SwV (d0:Ae)(k x y:Nat):Prop where
 k1:k+1<d0.vars.length
 x:d0.vars.getD k 0=x
 y:d0.vars.getD (k+1) 0=y
section
variable {gone:Nat->Prop}
theorem SwV.facts (s:SwV d0 k x y)(hk:Ak d0 V0):x<d0.vars.length/\y<d0.vars.length/\levN d0 x=k/\levN d0 y=k+1/\x≠y:=by
 obtain⟨a1,a2⟩:=hk.vlt k (by have:=s.k1;omega);obtain⟨c1,c2⟩:=hk.vlt (k+1) s.k1;rw[s.x] at a1 a2;rw[s.y] at c1 c2;exact⟨a1,c1,a2,c2,by rintro rfl;omega⟩
structure CutS (d0:Ae)(k x:Nat)(gone:Nat->Prop)(d:Ae):Prop where
 vars:d.vars=(Bd d0 k).vars
 level:d.level=(Bd d0 k).level
 pool:d.pool=d0.pool
 counts:d.counts=d0.counts
 dead:d.dead=d0.dead
 tabO:∀ v,v≠x->d.tab v=d0.tab v
 tabX:∀ lo hi id,d.tab x (lo,hi)=some id↔d0.tab x (lo,hi)=some id/\¬ gone id
theorem CutS.start (d0:Ae)(k x:Nat):CutS d0 k x (fun _=>False) (Bd d0 k):=⟨rfl,rfl,rfl,rfl,rfl,fun _ _=>rfl,fun lo hi id=>by simp[Bd]⟩
theorem CutS.next (c:CutS d0 k x gone d)(hk:Ak d0 V0)(hx:x<d0.vars.length)(hti:d0.tab x (lo,hi)=some i):CutS d0 k x (fun j=>gone j\/j=i) { d with tab:=fun u=>if u=x then putF (d.tab u) (lo,hi) none else d.tab u }:=by
 refine⟨c.vars,c.level,c.pool,c.counts,c.dead,fun v hv=>by dsimp only;rw[Vs hv];exact c.tabO v hv,fun lo' g0 id=>?_⟩;dsimp only;rw[Vw rfl];unfold putF
 by_cases e:(lo',g0)=(lo,hi)
 ·cases e;rw[Vw rfl,hti];constructor
  . intro h;cases h
  . rintro⟨h1,h2⟩;cases h1;exact(h2 (.inr rfl)).elim
 ·rw[Vs e,c.tabX];constructor
  ·rintro⟨h1,h2⟩;refine⟨h1,fun h3=>?_⟩;rcases h3 with h3|h3
   . exact h2 h3
   . subst h3;have q1:=(hk.tab x hx _ _ _).1 h1;have q2:=(hk.tab x hx _ _ _).1 hti;rw[q1] at q2;cases q2;exact e rfl
  . rintro⟨h1,h2⟩;exact⟨h1,fun h3=>h2 (.inl h3)⟩
theorem CutS.has (c:CutS d0 k x gone d)(h:d0.tab x (lo,hi)=some i)(hg:¬ gone i):d.tab x (lo,hi)=some i:=(c.tabX _ _ _).2 ⟨h,hg⟩
theorem A6.start (c:CutS d0 k x gone d)(hk:Ak d0 V0)(hx:x<d0.vars.length)(hd:d0.dead=0)(hg:∀ i,Turns (Aa d0) x y i↔gone i){ps:List (Nat×Nat)}(hw:BO (d0.tab x) ps Wt):A6 d0 V0 k x y Wt (Aj d0) (fun _=>False) d V0:=by
 have hn:Aa d=Aa d0:=by unfold Aa;rw[c.pool]
 have he:Aj d=Aj d0:=by unfold Aj;rw[c.pool]
 have hc:Ai d=Ai d0:=by unfold Ai;rw[c.counts]
 refine⟨by rw[hn];exact Bz.start hk.dag x y,c.vars,c.level,by rw[c.pool],he,⟨by rw[hn,hc,c.pool];exact hk.live.cnt,by rw[hn,hc,c.pool,c.dead];exact hk.live.dead,by rw[hn,c.counts];exact hk.live.has⟩,
  fun v hv g0 lo hi id=>by rw[c.tabO v g0,hn];exact hk.tab v hv lo hi id,fun lo hi id=>by rw[c.tabX,hn,hk.tab x hx,hg],by rw[c.counts];exact hk.clen,fun i hT=>?_,?_⟩
 . obtain⟨b,hb,_⟩:=hT;rw[hc];exact FI hk.live hd hb
 ·rw[c.pool];have:(Wt.filter fun κ=>(d.tab x κ).isSome)=[]:=by
   rw[List.filter_eq_nil_iff];intro κ hκ;cases e:d.tab x κ with
   | none=>simp
   | some id =>
     have h1:=((c.tabX κ.1 κ.2 id).1 e).1;have h2:=hw.free κ hκ;rw[h1] at h2;cases h2
  rw[this];rfl
theorem A6.congr {done done':Nat->Prop}(m:A6 d0 V0 k x y Wt E done d V)(h:∀ i,done i↔done' i):A6 d0 V0 k x y Wt E done' d V:=by
 have e:done=done':=funext fun i=>propext (h i)
 rw[<- e];exact m
theorem RF (s:SwV d0 k x y)(hk:Ak d0 V0)(hl:d0.level.length=d0.vars.length)(v:Nat):(Bd d0 k).level.getD v 0=Bv (levN d0) x y v:=by
 obtain⟨hx,hy,lx,ly,g0⟩:=s.facts hk;unfold Bd Bv levN;dsimp only;rw[s.x,s.y];unfold levN at lx ly;rw[lx,ly];simp only[List.getD,VY,VQ]
 by_cases e1:v=x
 . subst e1;rw[Vs (Wn g0),Vw rfl,Vw (by omega),Vw rfl];rfl
 ·by_cases e2:v=y
  . subst e2;rw[Vw rfl,Vw (by omega),Vs e1,Vw rfl];rfl
  . rw[Vs (Wn e2),Vs (Wn e1),Vs e1,Vs e2]
theorem LD (s:SwV d0 k x y)(i:Nat):(Bd d0 k).vars.getD i 0=if i=k then y else if i=k+1 then x else d0.vars.getD i 0:=by
 have h1:=s.k1;unfold Bd;dsimp only;rw[s.x,s.y];simp only[List.getD,VY,VQ]
 by_cases e1:i=k
 . subst e1;rw[Vs (by omega),Vw rfl,Vw (by omega),Vw rfl];rfl
 ·by_cases e2:i=k+1
  . subst e2;rw[Vw rfl,Vw h1,Vs e1,Vw rfl];rfl
  . rw[Vs (Wn e2),Vs (Wn e1),Vs e1,Vs e2]
theorem Gb (d0:Ae)(k:Nat):(Bd d0 k).vars.length=d0.vars.length:=by simp[Bd]
theorem A6.final {done:Nat->Prop}(m:A6 d0 V0 k x y Wt (Aj d0) done d V)(s:SwV d0 k x y)(hk:Ak d0 V0)(hl:d0.level.length=d0.vars.length)(hall:∀ i,Turns (Aa d0) x y i->done i):Ak d V:=by
 obtain⟨hx,hy,lx,ly,g2⟩:=s.facts hk;have g1:levN d=Bv (levN d0) x y:=by funext v;unfold levN;rw[m.level];exact RF s hk hl v
 have g0:d.vars.length=d0.vars.length:=by rw[m.vars,Gb]
 have g3:=m.mid.final hk.dag hx hy (by omega) hall;have g4:∀ v,v<d0.vars.length->(v=x/\Bv (levN d0) x y v=k+1)\/(v=y/\Bv (levN d0) x y v=k)\/(v≠x/\v≠y/\Bv (levN d0) x y v=levN d0 v/\levN d0 v≠k/\levN d0 v≠k+1):=by
  intro v hv
  by_cases e1:v=x
  . subst e1;exact .inl ⟨rfl,by rw[DI,ly]⟩
  ·by_cases e2:v=y
   . subst e2;exact .inr (.inl ⟨rfl,by rw[DJ _ g2,lx]⟩)
   . exact .inr (.inr ⟨e1,e2,EQ _ e1 e2,fun h=>e1 (hk.dag.inj v x hv hx (by rw[h,lx])),fun h=>e2 (hk.dag.inj v y hv hy (by rw[h,ly]))⟩)
 refine⟨by rw[g0,g1];exact g3,by rw[m.ext];exact m.live,fun v hv lo hi id=>?_,m.clen,by rw[g0];exact hk.small,fun v hv=>?_,fun i hi=>?_⟩
 ·rw[g0] at hv
  by_cases e:v=x
  . subst e;rw[m.tabX];refine⟨fun h=>h.1,fun h=>⟨h,fun hT=>?_⟩⟩;obtain⟨_,b,hb,g5,_⟩:=m.mid.dn id (hall id hT);rw[h] at hb;cases hb;exact g2 g5
  . exact m.tabO v hv e lo hi id
 ·rw[g0] at hv;rw[g1,m.vars,LD s];rcases g4 v hv with ⟨rfl,e⟩|⟨rfl,e⟩|⟨_,_,e,h1,h2⟩
  . rw[e,Vs (by omega),Vw rfl]
  . rw[e,Vw rfl]
  . rw[e,Vs h1,Vs h2];exact hk.inv v hv
 ·rw[g0] at hi ⊢;rw[g1,m.vars,LD s]
  by_cases e1:i=k
  . rw[Vw e1];exact⟨hy,by rw[DJ _ g2,lx,e1]⟩
  ·rw[Vs e1]
   by_cases e2:i=k+1
   . rw[Vw e2];exact⟨hx,by rw[DI,ly,e2]⟩
   . rw[Vs e2];obtain⟨h1,h2⟩:=hk.vlt i hi;refine⟨h1,?_⟩;rw[EQ _ (fun e=>e1 (by rw[<- h2,e,lx])) (fun e=>e2 (by rw[<- h2,e,ly]))];exact h2
structure ET (d0:Ae)(V0:Nat->BF)(k:Nat)(d':Ae)(V':Nat->BF):Prop where
 ok:Ak d' V'
 vars:d'.vars=(Bd d0 k).vars
 level:d'.level=(Bd d0 k).level
 room:d'.pool.room=d0.pool.room
 dead:d'.dead=0
 val:∀ i,(i=0\/∃ b,Aa d0 i=some b)->V' i=V0 i
 live:∀ i b,Aa d0 i=some b->1<=Aj d0 i->∃ b',Aa d' i=some b'
 ext:∀ i b',Aa d' i=some b'->Aj d' i=Aj d0 i
theorem A6.o {done:Nat->Prop}(m:A6 d0 V0 k x y Wt (Aj d0) done d V)(hok:Ak d V)(r:AK d d'):ET d0 V0 k d' V:=by
 refine⟨r.ok hok,r.vars.trans m.vars,r.level.trans m.level,r.room.trans m.room,r.dead,m.mid.ext,fun i b hb he=>?_,fun i b' g0=>by rw[r.ext i b' g0,m.ext]⟩;obtain⟨b',g0⟩:=m.mid.has hb;refine⟨b',?_⟩;rw[r.nodes,Vw (hok.live.cnt.pos_of_ext g0 (by rw[m.ext];exact he))];exact g0
end
section
variable {done:Nat->Prop}{o:Own}
structure SwF (d0:Ae)(V0:Nat->BF)(k x y:Nat):Prop where
 v:SwV d0 k x y
 ok:Ak d0 V0
 lev:d0.level.length=d0.vars.length
 top:∀ i,Aj d0 i<=549755813888
theorem SwF.facts (f:SwF d0 V0 k x y):x<d0.vars.length/\y<d0.vars.length/\levN d0 x=k/\levN d0 y=k+1/\x≠y:=f.v.facts f.ok
theorem A6.acy (m:A6 d0 V0 k x y Wt E done d V)(f:SwF d0 V0 k x y):Acy (Aa d) (rkSw d0.vars.length (levN d0) (Aa d0) x y (Aa d)):=by
 obtain⟨hx,hy,lx,ly,g0⟩:=f.facts;exact Rr f.ok.dag hx (by omega) m.mid
theorem A6.vlen (m:A6 d0 V0 k x y Wt E done d V):d.vars.length=d0.vars.length:=by rw[m.vars,Gb]
theorem LF (h:Chg RCnt o o' w w'):Chg Al o o' w w':=h.mono GY
theorem LG (st:Az o w sb d)(hlt:Ac o w)(f:SwF d0 V0 k x y)(m:A6 d0 V0 k x y Wt E done d V)(he:midE d0.vars.length (levN d0) (Aa d0) (Aa d) x y e)(hE:∀ i,E i<=549755813898) :
 Cl 223 #[Pt sb,Iv e] w fun q w'=>q=.returned (.tuple #[])/\∃ d',Az o w' sb d'/\Ac o w'/\A6 d0 V0 k x y Wt (addE E e 1) done d' V/\Aa d'=Aa d/\d'.pool=d.pool/\Chg Al o o w w':=by
 obtain⟨s,st⟩:=st;obtain⟨hx,hy,lx,ly,g0⟩:=f.facts;have ho:=L1 m.mid he;refine(GW o sb s _ (2*(d0.vars.length-levN d0 x)) w d E e ⟨st,hlt,m.acy f,ho,m.live,fun q b _=>?_,?_⟩).mono ?_
 ·have h1:=hE q;have h2:toE e q<=1:=by unfold toE;split<;>omega
  omega
 ·rcases ho with h0|⟨c,hc⟩
  . exact .inl h0
  . right;have:=L3 f.ok.dag hx (by omega) m.mid he hc;omega
 . rintro q w' ⟨cs,dd,rfl,h1,h2,h3,h4,_,h6⟩;exact⟨rfl,_,⟨s,h1⟩,hlt.mono h6.size,m.counts h2 h3 h4 (Vu _),rfl,rfl,LF h6⟩
theorem LH (st:Az o w sb d)(hlt:Ac o w)(f:SwF d0 V0 k x y)(m:A6 d0 V0 k x y Wt E done d V){b:BN}(hb:Aa d0 i=some b)(hbx:b.v=x)(he:e=b.lo\/e=b.hi)(hE:∀ i,E i<=549755813898)(hp:∀ i,0<=E i-toE e i) :
 Cl 226 #[Pt sb,Iv e] w fun q w'=>q=.returned (.tuple #[])/\∃ d',Az o w' sb d'/\Ac o w'/\A6 d0 V0 k x y Wt (addE E e (-1)) done d' V/\Chg Al o o w w':=by
 obtain⟨s,st⟩:=st;obtain⟨hx,hy,lx,ly,g3⟩:=f.facts;have g1:okE (Aa d0) e:=by rcases he with rfl|rfl;exact f.ok.dag.okLo _ _ hb;exact f.ok.dag.okHi _ _ hb
 have g2:levN d0 b.v<lvE d0.vars.length (levN d0) (Aa d0) e:=by rcases he with rfl|rfl;exact f.ok.dag.lvLo _ _ hb;exact f.ok.dag.lvHi _ _ hb
 have ho:=Ej m.mid g1;have g6:=st.pool.top;have g4:=st.pool.room;refine(GX o sb s _ (2*(d0.vars.length-levN d0 x)) w d E e ⟨st,hlt,m.acy f,ho,m.live,fun q c hc=>?_,fun q _ _=>hp q,?_⟩).mono ?_
 . have h1:=m.live.cnt.le hc;have h2:=hE q;omega
 ·rcases g1 with h0|⟨c0,g0⟩
  . exact .inl h0
  ·right;rw[ES g0,hbx] at g2;have g5:=f.ok.dag.lt _ (f.ok.dag.var _ _ g0);rcases ho with h0|⟨c,hc⟩
   . rw[h0,f.ok.dag.none0] at g0;cases g0
   ·rcases I6 m.mid g0 hc with ⟨_,hv,_⟩|⟨_,_,h3,_⟩
    . rw[hv] at g2;omega
    . omega
 . rintro q w' ⟨cs,dd,rfl,h1,h2,h3,h4,_,h6⟩;exact⟨rfl,_,⟨s,h1⟩,hlt.mono h6.size,m.counts h2 h3 h4 (Vu _),LF h6⟩
theorem IA (st:Az o w sb d)(hlt:Ac o w)(hk:Ak d V) :
 Cl 215 #[Pt sb] w fun q w'=>q=.returned (Iv d.dead)/\∃ o' d',Az o' w' sb d'/\Ac o' w'/\AK d d'/\Chg Al o o' w w':=by
 by_cases h0:d.dead=0
 . refine(KT st h0).mono ?_;rintro q w' ⟨rfl,hb⟩;obtain⟨s,st⟩:=st;exact⟨by rw[h0];rfl,o,d,⟨s,st.below hlt hb⟩,hlt.mono hb.size,AK.none hk h0,Chg.of_below hb _ _⟩
 . exact KU st hlt hk h0
end
section
variable {o:Own}
structure Box (o:Own)(w:Wd)(b:Nat)(O:Obj):Prop where
 blk:w.heap[b]?=some O
 no:o b=none
theorem Box.chg {O:Obj}(h:Box o w b O)(hc:Chg R o o' w w'):Box o' w' b O :=
 ⟨(hc.alien (Vr.1 h.blk).1 h.no).trans h.blk,hc.alien' (Vr.1 h.blk).1 h.no⟩
theorem Box.cell {b:Nat}{cs:Array Value}{T:TypeId}(h:Box o w b (.cells cs T (0,0)))(i:Nat):w.cell? (Aw b i)=cs[i]?:=Vt w b i _ _ _ h.blk
theorem Box.other {O:Obj}{p:Addr}(h:Box o w b O)(hne:b≠p.block):Box o (w.setCell p u) b O:=⟨(Ay hne _).trans h.blk,h.no⟩
theorem Box.set (h:Box o w b (.cells cs T (0,0)))(i:Nat)(u:Value):Box o (w.setCell (Aw b i) u) b (.cells (cs.setIfInBounds i u) T (0,0)) :=
 ⟨A2 h.blk u,h.no⟩
theorem TRow.chg (h:TRow w base v ts)(hc:Chg R o o' w w')(hn:0<ts.length->∀ g,v.ownBlock=some g->o g=none):TRow w' base v ts:=by
 by_cases hp:0<ts.length
 . exact h.keep fun g _ hg hv=>hc.alien hg (hn hp g hv)
 . obtain⟨a,c,h1,_⟩:=h.ex;exact⟨h.small,a,c,h1,fun k hk=>by omega⟩
theorem TRow.blk (h:TRow w base v ts)(hp:0<ts.length):∀ g,v.ownBlock=some g->base<=g/\g<w.heap.size:=by
 obtain⟨a,c,rfl,h1⟩:=h.ex;obtain⟨g0,rfl,hb,hc⟩:=h1 0 hp;intro g hg;cases hg;exact⟨hb,Af (hc 0 _ rfl)⟩
end
structure RndI (sb:Nat)(o1:Own)(w1:Wd)(base:Nat)(v:Value)(ts:List TN)(W:Wd)(o:Own)(d:Ae):Prop where
 st:Az o W sb d
 lt:Ac o W
 row:TRow W base v ts
 no:0<ts.length->∀ g,v.ownBlock=some g->o g=none
 chg:Chg Al o1 o w1 W
section
variable {o:Own}
theorem RndI.move (h:RndI sb o1 w1 base v ts W o d)(st:Az o' W' sb d')(lt:Ac o' W')(hc:Chg R o o' W W')(hR:∀ r,R r->Al r):RndI sb o1 w1 base v ts W' o' d' :=
 ⟨st,lt,h.row.chg hc h.no,fun hp g hg=>hc.alien' (h.row.blk hp g hg).2 (h.no hp g hg),h.chg.trans (hc.mono hR)⟩
theorem RndI.below (h:RndI sb o1 w1 base v ts W o d)(hb:Bw W W'):RndI sb o1 w1 base v ts W' o d :=
 h.move (R:=Al) (h.st.below h.lt hb) (h.lt.mono hb.size) (Chg.of_below hb _ _) (fun _ h=>h)
theorem RndI.write (h:RndI sb o1 w1 base v ts W o d)(hb:o b=none)(h1:w1.heap.size<=b)(hv:∀ g,0<ts.length->v.ownBlock=some g->g≠b)(i:Nat)(u:Value):RndI sb o1 w1 base v ts (W.setCell (Aw b i) u) o d:=by
 refine⟨h.st.keepR (fun g r hg _=>Ay (by rintro rfl;rw[hb] at hg;cases hg) _) (fun _ _ h=>h),h.lt.mono (by simp[World.setCell]),?_,h.no,h.chg.setCell_new h1 u⟩
 by_cases hp:0<ts.length
 . exact h.row.keep fun g _ _ hg=>Ay (hv g hp hg) _
 . obtain⟨a,c,h2,_⟩:=h.row.ex;exact⟨h.row.small,a,c,h2,fun k hk=>by omega⟩
end
section
variable {done:Nat->Prop}
theorem RG (E:Nat->Int)(a b lo hi:Nat):addE (addE (addE (addE (addE (addE E lo 1) hi 1) a 1) b 1) lo (-1)) hi (-1)=addE (addE E a 1) b 1:=by
 funext i;unfold addE;omega
theorem RH (E:Nat->Int)(a b:Nat):addE (addE (addE (addE E a 1) b 1) a (-1)) b (-1)=E:=by
 funext i;unfold addE;omega
theorem RI {n:RN}(hk:i<d.pool.at_.length)(ht:d.pool.tk i=true):Aa { d with pool:=d.pool.setNd i n }=setN (Aa d) i (bnOf n):=by
 funext j;unfold Aa setN;rw[Ad.setNd_get hk ht]
 by_cases e:j=i
 . rw[Vw e,Vw e];rfl
 . rw[Vs e,Vs e]
theorem RJ {n:RN}(hk:i<d.pool.at_.length)(ht:d.pool.tk i=true)(he:(n.refs:Int)=Aj d i):Aj { d with pool:=d.pool.setNd i n }=Aj d:=by
 funext j;have hb:Aj d i=((d.pool.nd i).refs:Int):=CG ht;unfold Aj;have h1:(d.pool.setNd i n).tk j=d.pool.tk j:=rfl;have h2:(d.pool.setNd i n).nd j=if j=i then n else d.pool.nd j:=CR hk j
 dsimp only;rw[h1,h2]
 by_cases e:j=i
 . subst e;rw[Vw rfl,he,hb]
 . rw[Vs e]
theorem A6.turned {b:BN}{n:RN}(m:A6 d0 V0 k x y Wt (addE (addE (Aj d0) lo 1) hi 1) done d V)(f:SwF d0 V0 k x y)(hT:Turns (Aa d0) x y i)(hd:¬ done i)(hb:Aa d0 i=some b)
 (hlo:midE d0.vars.length (levN d0) (Aa d0) (Aa d) x y lo) (hhi:midE d0.vars.length (levN d0) (Aa d0) (Aa d) x y hi) (hr:hi%2=0) (hne:lo≠hi) (hV:V0 i=iteF y (ef V hi) (ef V lo))
 (hn:bnOf n=⟨y,lo,hi⟩) (hrf:(n.refs:Int)=Aj d0 i) (hk:i<d.pool.at_.length) :
 d.tab y (lo,hi)=none/\A6 d0 V0 k x y Wt (addE (addE (Aj d0) b.lo 1) b.hi 1) (fun j=>done j\/j=i) { d with pool:=d.pool.setNd i n,tab:=fun u=>if u=y then putF (d.tab y) (lo,hi) (some i) else d.tab u } V:=by
 obtain⟨hx,hy,lx,ly,g0⟩:=f.facts;have g1:Aa d i=some b:=m.mid.keep i b hb hd;have ht:=(BJ g1).1;refine⟨m.fresh_y f.ok.dag g0 hy hT hd hV,?_⟩;have h1:=m.set (p':=d.pool.setNd i n) g0 f.ok.dag hy hT hd hb hlo hhi hr hne hV (by rw[RI hk ht,hn]) (RJ hk ht (by rw[hrf,m.ext])) rfl rfl (by simp[Ad.setNd]);rw[RG] at h1;have e:(fun u=>if u=y then putF (d.tab u) (lo,hi) (some i) else d.tab u)=(fun u=>if u=y then putF (d.tab y) (lo,hi) (some i) else d.tab u):=by
  funext u;by_cases e:u=y
  . subst e;rfl
  . rw[Vs e,Vs e]
 rw[e] at h1;exact h1
end
theorem RK {o:Own}{s:A4}(h:RndI sb o1 w1 base v ts W o d)(st:Ao o W sb d s){n:RN}(ht:d.pool.tk n.id=true){O1 O2:Obj}{b1 b2:Nat}(x1:Box o W b1 O1)(x2:Box o W b2 O2) :
 Cl 224 #[Pt s.pb,An n] W fun e w'=>∃ q,e=.returned q/\(q=Iv 0/\RndI sb o1 w1 base v ts w' o { d with pool:=d.pool.setNd n.id n }/\Ao o w' sb { d with pool:=d.pool.setNd n.id n } s/\Box o w' b1 O1/\Box o w' b2 O2):=by
 refine(GD o s.pb d.pool n W st.pool h.lt ht).mono ?_;rintro e w' ⟨rfl,hp,hc,g0⟩;have st':=st.setPool h.lt hp (hc.mono (fun r hr=>by simp[Br,hr]));exact⟨_,rfl,rfl,h.move ⟨s,st'⟩ g0 hc GZ,st',x1.chg hc,x2.chg hc⟩
theorem RL {o:Own}{s:A4}(h:RndI sb o1 w1 base v ts W o d)(st:Ao o W sb d s)(hy:y<s.ts.length)(hf:d.tab y (lo,hi)=none){O1 O2:Obj}{b1 b2:Nat}(x1:Box o W b1 O1)(x2:Box o W b2 O2) :
 Cl 225 #[.pointer (some ⟨s.ts.getD y 0,0,none⟩),Iv lo,Iv hi,Iv id] W fun e w'=>∃ q,e=.returned q/\(q=Iv 0/\RndI sb o1 w1 base v ts w' o { d with tab:=fun u=>if u=y then putF (d.tab y) (lo,hi) (some id) else d.tab u }/\Box o w' b1 O1/\Box o w' b2 O2):=by
 refine(Kg o y (s.ts.getD y 0) (d.tab y) lo hi id W (st.tab y hy) h.lt hf).mono ?_;rintro e w' ⟨rfl,ht,hc,g0⟩;have st':=st.setTab h.lt ht hc;exact⟨_,rfl,rfl,h.move ⟨s,st'⟩ g0 hc (fun r hr=>by simp[Al,hr]),x1.chg hc,x2.chg hc⟩
structure IB (d0:Ae)(V0:Nat->BF)(x y i:Nat)(b:BN):Prop where
 node:Aa d0 i=some b
 v:b.v=x
 lo:(d0.pool.nd i).lo=b.lo
 hi:(d0.pool.nd i).hi=b.hi
 id:(d0.pool.nd i).id=i
 val:I7 d0 V0 x y i (tnOf d0 y i).ll (tnOf d0 y i).lh (tnOf d0 y i).hl (tnOf d0 y i).hh
 ne:(tnOf d0 y i).ll≠(tnOf d0 y i).lh\/(tnOf d0 y i).hl≠(tnOf d0 y i).hh
theorem RM {o:Own}{s:A4}(f:SwF d0 V0 k x y)(h:Ao o w sb d0 s)(hT:Turns (Aa d0) x y i):∃ b,IB d0 V0 x y i b:=by
 obtain⟨hx,hy,lx,ly,g2⟩:=f.facts;obtain⟨b,hb,g0,g3⟩:=id hT;obtain⟨ht,g1,he⟩:=BJ hb;rw[g1] at he;have e1:(d0.pool.nd i).lo=b.lo:=by rw[<- he];rfl
 have e2:(d0.pool.nd i).hi=b.hi:=by rw[<- he];rfl
 refine⟨b,hb,g0,e1,e2,h.pool.id i ht,?_,?_⟩
 . have:=Rw f.ok hy (by omega) hb g0;unfold tnOf;rw[e1,e2];exact this
 . have:=(I4 f.ok hb g0).2 hT;unfold Ce at this;exact of_decide_eq_true this
structure EU (d0:Ae)(V0:Nat->BF)(k x y:Nat)(Wt:List (Nat×Nat))(done:Nat->Prop)(i:Nat)(r1 r2:Nat)(d:Ae)(V:Nat->BF):Prop where
 mid:A6 d0 V0 k x y Wt (Aj d0) done d V
 e1:midE d0.vars.length (levN d0) (Aa d0) (Aa d) x y r1
 e2:midE d0.vars.length (levN d0) (Aa d0) (Aa d) x y r2
 reg:r2%2=0
 ne:r1≠r2
 val:V0 i=iteF y (ef V r2) (ef V r1)
theorem EU.of {done:Nat->Prop}{r1 r2:Nat}{d1 d2:Ae}{V1 V2:Nat->BF}{b:BN}(f:SwF d0 V0 k x y)(t:IB d0 V0 x y i b)
 (h1:C0 d0 V0 k x y Wt done d V (tnOf d0 y i).ll (tnOf d0 y i).hl r1 d1 V1) (h2:C0 d0 V0 k x y Wt done d1 V1 (tnOf d0 y i).lh (tnOf d0 y i).hh r2 d2 V2):EU d0 V0 k x y Wt done i r1 r2 d2 V2:=by
 obtain⟨hx,hy,lx,ly,g0⟩:=f.facts;obtain⟨k1,k2⟩:=h2.keep r1 h1.edge;obtain⟨q1,q2⟩:=Rx (V:=V2) f.ok hx hy g0 (by omega) t.val t.ne (k2.trans h1.val) h2.val;exact⟨h2.mid,k1,h2.edge,h2.reg t.val.reg,q2,q1⟩
theorem LI {done:Nat->Prop}(m:A6 d0 V0 k x y Wt E done d V)(f:SwF d0 V0 k x y)(hw:BO (d0.tab x) ps Wt)(hp:(lo,hi)∈ps)
 (hlo:lowE d0.vars.length (levN d0) (Aa d0) y lo) (hhi:lowE d0.vars.length (levN d0) (Aa d0) y hi) (hne:lo≠hi) (ht:d.tab x (bkey lo hi)=none):bkey lo hi∈Wt:=by
 obtain⟨hx,hy,lx,ly,g3⟩:=f.facts;refine hw.has (lo,hi) hp hne ?_
 show d0.tab x (bkey lo hi)=none
 cases e:d0.tab x (bkey lo hi) with
 | none=>rfl
 | some id =>
   exfalso;have hb:=(f.ok.tab x hx _ _ id).1 e;have low:∀ {e:Nat},lowE d0.vars.length (levN d0) (Aa d0) y e->¬ isV (Aa d0) y e:=by
    rintro e ⟨_,h2⟩ ⟨c,hc,g1⟩;rw[ES hc,g1] at h2;omega
   by_cases hT:Turns (Aa d0) x y id
   ·obtain⟨b,g0,g4,g2⟩:=hT;rw[hb] at g0;cases g0;rcases g2 with h|h
    . exact low (Dv hlo) h
    . exact low (Dv hhi) h
   . have h1:=(m.tabX (bkey lo hi).1 (bkey lo hi).2 id).2 ⟨m.mid.keep id _ hb (fun hd=>hT (m.mid.dn id hd).1),hT⟩;rw[show ((bkey lo hi).1,(bkey lo hi).2)=bkey lo hi from rfl,ht] at h1;cases h1
section
variable {F:Phi}{o:Own}
theorem RO (h:Az o w sb d):Cl 218 #[Pt sb] w (Sm (Iv d.pool.room) w):=by
 obtain⟨s,h⟩:=h;obtain⟨c0,c1,c2,c3,c4,f0⟩:=cells5 h.blk;have HP:=Hd (Oo o s.pb d.pool w h.pool);clear h
 go_enter func218,ntmps218
 go_wp2_with fail;refine HP.o.mono ?_;rintro x w' ⟨rfl,rfl⟩;go_wp2_with fail;go_ret;exact⟨rfl,rfl⟩
end
section
variable {F:Phi}{o:Own}
theorem RP (h:Az o w sb d):Cl 219 #[Pt sb] w (Sm (Iv d.pool.many) w):=by
 obtain⟨s,h⟩:=h;obtain⟨c0,c1,c2,c3,c4,f0⟩:=cells5 h.blk;have HP:=Hd (On o s.pb d.pool w h.pool);clear h
 go_enter func219,ntmps219
 go_wp2_with fail;refine HP.o.mono ?_;rintro x w' ⟨rfl,rfl⟩;go_wp2_with fail;go_ret;exact⟨rfl,rfl⟩
end
theorem RQ {ids:List Nat}(hn:ids.Nodup)(ht:∀ i∈ids,d.pool.tk i=true)(hlt:∀ i,d.pool.tk i=true->i<d.pool.at_.length)(hc:(d.pool.many:Int)=Ag d.pool.at_.length (fun i=>if d.pool.tk i=true then 1 else 0)):ids.length<=d.pool.many:=by
 have key:∀ (l:List Nat),l.Nodup->(∀ i∈l,d.pool.tk i=true)->∀ kk,(∀ i∈l,i<kk)->(l.length:Int)<=Ag kk (fun i=>if d.pool.tk i=true then 1 else 0):=by
  intro l hl g0 kk
  induction kk generalizing l with
  | zero =>
    intro h;cases l with
    | nil=>simp[Ag]
    | cons a l=>have:=h a (by simp);omega
  | succ kk ih =>
    intro h
    show (l.length:Int)<=Ag kk (fun i=>if d.pool.tk i=true then 1 else 0)+(if d.pool.tk kk=true then 1 else 0)
    by_cases hm:kk∈l
    ·have h1:=ih (l.erase kk) (hl.erase kk) (fun i hi=>g0 i (List.mem_of_mem_erase hi)) (fun i hi=>by
      have h2:=h i (List.mem_of_mem_erase hi);have h3:i≠kk:=fun e=>by subst e;exact(List.Nodup.not_mem_erase hl) hi
      omega)
     rw[List.length_erase_of_mem hm] at h1;have g1:0<l.length:=Yh hm;have:=g0 kk hm;simp only[this,Wy];omega
    ·have h1:=ih l hl g0 (fun i hi=>by
      have h2:=h i hi;have h3:i≠kk:=fun e=>by subst e;exact hm hi
      omega)
     have:(0:Int)<=if d.pool.tk kk=true then 1 else 0:=by split<;>omega
     omega
 have:=key ids hn ht d.pool.at_.length (fun i hi=>hlt i (ht i hi));omega
theorem RR (ts:List TN):(ts.flatMap B8).length=2*ts.length:=by
 induction ts with
 | nil=>rfl
 | cons a l ih=>simp[WQ,B8,ih];omega
structure CutI (d0:Ae)(k x:Nat)(ids:List Nat)(sb:Nat)(s:A4)(o1:Own)(w1:Wd)(base:Nat)(v:Value)(ts:List TN)(j:Nat)(W:Wd)(o:Own)(d:Ae):Prop where
 st:Ao o W sb d s
 lt:Ac o W
 cut:CutS d0 k x (fun i=>i∈ids.take j) d
 row:TRow W base v ts
 no:0<ts.length->∀ g,v.ownBlock=some g->o g=none
 chg:Chg Al o1 o w1 W
theorem CutI.move {ids:List Nat}{s:A4}{o:Own}(h:CutI d0 k x ids sb s o1 w1 base v ts j W o d)(st:Ao o' W' sb d' s)(hc:Chg R o o' W W')(hR:∀ r,R r->Al r)(lt:Ac o' W'){j':Nat}(cut:CutS d0 k x (fun i=>i∈ids.take j') d') :
 CutI d0 k x ids sb s o1 w1 base v ts j' W' o' d' :=
 ⟨st,lt,cut,h.row.chg hc h.no,fun hp g hg=>hc.alien' (h.row.blk hp g hg).2 (h.no hp g hg),h.chg.trans (hc.mono hR)⟩
theorem CutS.congr {g g':Nat->Prop}(h:CutS d0 k x g d)(e:∀ i,g i↔g' i):CutS d0 k x g' d:=by
 have e':g=g':=funext fun i=>propext (e i)
 rw[<- e'];exact h
abbrev XB:=@Nat.succ_le_of_lt
theorem RS {o:Own}(st:Az o w sb d)(hlt:Ac o w)(hk:Ak d V)(k:Nat)(hk1:k+1<d.vars.length)(htop:∀ i,Aj d i<=549755813888) :
 Cl 160 #[Pt sb,Iv k] w fun q w'=>∃ o' d0,AK d d0/\Ac o' w'/\Chg Al o o' w w' /\
  ((q=.returned (Iv 7)/\Az o' w' sb d0/\d0.pool.room<3*d0.pool.many)\/(q=.returned (Iv 0)/\∃ d' V',Az o' w' sb d'/\ET d0 V k d' V')):=by
 obtain⟨P,hP⟩:∃ P:Ending->Wd->Prop,P=fun q w'=>∃ o' d0,AK d d0/\Ac o' w'/\Chg Al o o' w w' /\
  ((q=.returned (Iv 7)/\Az o' w' sb d0/\d0.pool.room<3*d0.pool.many)\/(q=.returned (Iv 0)/\∃ d' V',Az o' w' sb d'/\ET d0 V k d' V')):=⟨_,rfl⟩
 rw[<- hP];have kA:=Hd hP;clear hP;obtain⟨s0,h0⟩:=id st;obtain⟨c0,c1,c2,c3,c4,f0⟩:=cells5 h0.blk;obtain⟨l0,l1,_⟩:=cells2 h0.lev;obtain⟨gv,cv,gB,gS,_⟩:=h0.vars.shape (by omega);rw[gB] at l0;have HB:=hk.small;have kk:=Hd (IA st hlt hk);have HK:=Hd hk;have H2:¬ ((k:Int)>=(d.vars.length:Int)-1):=by omega
 have kL:=Hd htop;clear h0 gB st hlt hk gS htop c1 c2 c3 c4 f0 l1
 go_enter func160,ntmps160
 go_wp2_with fail;refine kk.o.mono ?_;rintro q w1 ⟨rfl,o1,d0,⟨s,h1⟩,hf,gG,kw⟩;have gR:=gG.ok HK.o;obtain⟨x,hx⟩:=Ex (d0.vars.getD k 0);obtain⟨y,hy⟩:=Ex (d0.vars.getD (k+1) 0);have kq:d0.vars.length=d.vars.length:=by rw[gG.vars]
 have FR:SwF d0 V k x y:=⟨⟨by omega,hx.symm,hy.symm⟩,gR,h1.len,fun i=>by
  cases hi:Aa d0 i with
  | none=>rw[DT hi];omega
  | some b=>rw[gG.ext i b hi];exact kL.o i⟩
 have gi:=FR.facts.1;have H3:=FR.facts.2.1;obtain⟨c0,c1,c2,c3,c4,f0⟩:=cells5 h1.blk;obtain⟨l0,l1,_⟩:=cells2 h1.lev;obtain⟨gv,cv,gB,gS,_⟩:=h1.vars.shape (by omega);have r1:=h1.vars;rw[gB] at r1 l0;have a0:=r1.cell k (by simp;omega);have a1:=r1.cell (k+1) (by simp;omega);rw[Ei (by omega),<- hx] at a0;rw[Ei (by omega),<- hy] at a1;have Ha:(k:Int)<d0.vars.length:=by omega
 have H9:(k:Int)+1<d0.vars.length:=by omega
 have km:=Hd (RE ⟨s,h1.below hf (Am w1 1)⟩ (hf.mono (Am w1 1).size) gR x y gi);have g1:=Hd FR;have H1:=Hd h1;have ki:=Hd hf;have kg:=Hd gG;have kG:=Hd kw;have Hy:d0.vars.length<=64:=by omega
 have HH:=Hd kq;have H6:IntKind.i64.wrap ((k:Int)+1)=((k+1:Nat):Int):=by rw[Xf _ (by omega)];rfl
 clear h1 hf gG kw gR gB gS r1 hx hy FR kk kq H2;go_upto_region 6 with fail;refine AJ (fun W:Wd=>W.cell? (Av sb)=some (Pt s.lb)/\W.cell? (Av s.lb)=some (.slice (some (Av gv)) d0.vars.length cv)/\W.cell? (Aw gv k)=some (Iv (x:Nat))/\W.cell? (Aw gv (k+1))=some (Iv (y:Nat))) false 23 [(0,false),(1,false),(2,false),(3,false),(4,false),(5,false),(6,false),(7,false),(8,false),(9,false),(10,false),(11,false),(12,false),(13,false),(14,false),(15,false),(16,false),(17,false),(18,false),(19,false),(20,false),(21,false),(22,false)] (by kernel_rfl) (by kernel_rfl) ⟨c0,l0,a0,a1⟩ ?_;simp only[planned,AH]
 iterate 23
  refine Aq rfl ?_;apply Exists.intro;refine⟨fun w' hw=>?_,?_⟩
  . obtain⟨h1,h2,h3,h4⟩:=hw;go_simp;rfl
  simp only[Ab]
 refine Bs ?_;go_wp2_with fail;refine km.o.mono ?_;rintro q w2 ⟨v,ids,rfl,hS,gU,gr,gp⟩;obtain⟨ts,h5⟩:=Ex (ids.map (tnOf d0 y));rw[<- h5] at gr;have gm:Bw w1 w2:=⟨gp.os,gp.tape,gp.output,gp.size,fun q hq=>gp.block q hq⟩;have h2:=H1.o.below ki.o gm;have gK:=ki.o.mono gm.size;have hB:Hq (∀ i∈ids,∃ b,IB d0 V x y i b):=Hd fun i hi=>RM g1.o H1.o ((gU i).1 hi)
 have k9:∀ t∈ts,t.ll<eMax/\t.lh<eMax/\t.hl<eMax/\t.hh<eMax:=by
  intro t ht;rw[h5] at ht;obtain⟨i,hi,rfl⟩:=VD.1 ht;obtain⟨b,tb⟩:=hB.o i hi;have q1:=H1.o.edge_lt tb.val.f1.1;have q2:=H1.o.edge_lt tb.val.f2.1;have q3:=H1.o.edge_lt tb.val.f3.1;have q4:=H1.o.edge_lt tb.val.f4.1;unfold eMax;omega
 have hv:=Hd (R3 h2 gK x gi gr k9);have kd:=Hd fun W (hb:Bw w2 W)=>RO ⟨s,h2.below gK hb⟩
 have Hr:=Hd fun W (hb:Bw w2 W)=>RP ⟨s,h2.below gK hb⟩
 have HE:=H1.o.pool.many;have HC:=H1.o.pool.top;have HD:=H1.o.pool.room
 have Hu:Hq (ids.length<=d0.pool.many):=Hd (RQ hS (fun i hi=>by
  obtain⟨b,tb⟩:=hB.o i hi;exact(BJ tb.node).1) (fun i hi=>(H1.o.pool.tk_lt hi).2) H1.o.pool.cnt)
 have kF:=Hd h2;have hG:=Hd gK;have HB2:=Hd gm;have gy:=Hd gr;have gX:=Hd gU;have kC:=Hd hS;have hA:=Hd h5;have HG:w1.heap.size<=w2.heap.size:=gm.size;clear gp gm h2 gK gr gU hS k9 c0 c1 c2 c3 c4 f0 l0 l1 a0 a1 Ha H9 H6 h5;go_wp2_with fail;refine hv.o.mono ?_;rintro q w3 ⟨Wt,rfl,hM,ho⟩;have gM:=Hd hM;have go:=Hd ho;have H7:Wt.length<=2*ts.length:=by have:=hM.len;rw[RR] at this;exact this
 have h6:ts.length=ids.length:=by rw[hA.o,VP]
 have He:=Hu.o;have kM:=Hd (kd.o w3 ho);have kS:=Hd (Hr.o w3 ho);clear hM ho hv;go_wp2_with fail;refine kM.o.mono ?_;rintro q w' ⟨rfl,rfl⟩;go_wp2_with fail;refine kS.o.mono ?_;rintro q w' ⟨rfl,rfl⟩
 by_cases Hz:(Wt.length:Int)>(d0.pool.room:Int)-(d0.pool.many:Int)
 ·have HF:Hq (P (.returned (Iv 7)) w3):=by
   rw[kA.o];exact Hd ⟨o1,d0,kg.o,hG.o.mono go.o.size,kG.o.trans ((Chg.of_below HB2.o _ _).trans (Chg.of_below go.o _ _)),.inl ⟨rfl,⟨s,kF.o.below hG.o go.o⟩,by omega⟩⟩
  clear h6;go_wp2_with fail;exact HF.o
 have kj:Hq (d0.pool.many+Wt.length<=d0.pool.room):=Hd (by omega);have h3:=kF.o.below hG.o go.o;have ku:=hG.o.mono go.o.size;obtain⟨c0,c1,c2,c3,c4,f0⟩:=cells5 h3.blk;have hC:=Hd (Rp h3 k (by have:=g1.o.v.k1;exact this) g1.o.ok.small (by rw[h3.len];rw[g1.o.v.x];exact gi) (by rw[h3.len];rw[g1.o.v.y];exact H3));have HO:=Hd h3;have Ht:=Hd ku;clear h3 ku;go_wp2_with fail;refine hC.o.mono ?_;rintro q w4 ⟨rfl,h4,hn⟩;have h7:=(gy.o.below go.o);have gT:0<ts.length->∀ g,v.ownBlock=some g->o1 g=none:=fun hp g hg=>ki.o.none (gy.o.blk hp g hg).1
 have Hv:Hq (CutI d0 k x ids sb s o1 w1 w1.heap.size v ts 0 w4 o1 (Bd d0 k)):=Hd ⟨h4,Ht.o.mono hn.size,(CutS.start d0 k x).congr (fun i=>by simp),h7.chg hn gT,gT,(Chg.of_below HB2.o _ _).trans ((Chg.of_below go.o _ _).trans hn)⟩;obtain⟨av,cvv,kp,_⟩:=gy.o.ex;rw[h6] at kp;have hH:Hq (ids.length<=1048578):=Hd (by have:=gy.o.small;omega);clear h7 gT h4 hn hC c0 c1 c2 c3 c4 f0 He H7;subst kp;go_wp2_with fail
 go_loopw [77] (fun s77 wr=>∃ j:Nat,j<=ids.length/\s77=Iv j/\Hq (∃ o d,CutI d0 k x ids sb s o1 w1 w1.heap.size (.slice av ids.length cvv) ts j wr o d)) (fun s77 _=>ids.length-(intOf s77).toNat)
 case atStart=>exact⟨0,VC _,rfl,Hd ⟨o1,_,Hv.o⟩⟩
 case round =>
  obtain⟨j,hj,rfl,HCI⟩:=hrel
  by_cases hlt:j<ids.length
  ·obtain⟨oj,dj,g2⟩:=HCI.o;obtain⟨a',c',ea,g3⟩:=g2.row.ex;rw[h6] at ea;injection ea with ea1 ea2 ea3
   obtain⟨g,hg,_,g0⟩:=g3 j (by omega);rw[hg] at ea1;subst ea1;obtain⟨i,hi⟩:=Ex (ids[j]);have gE:ts[j]'(by omega)=tnOf d0 y i:=by rw[hi];simp[hA.o]
   rw[gE] at g0;obtain⟨b,tb⟩:=hB.o i (by rw[hi];exact VG hlt);have gD:tnOf d0 y i=⟨d0.pool.nd i,(tnOf d0 y i).ll,(tnOf d0 y i).lh,(tnOf d0 y i).hl,(tnOf d0 y i).hh⟩:=rfl;obtain⟨N,hN⟩:=Ex (d0.pool.nd i);obtain⟨ll,ga⟩:∃ q,q=(tnOf d0 y i).ll:=⟨_,rfl⟩;obtain⟨lh,gc⟩:∃ q,q=(tnOf d0 y i).lh:=⟨_,rfl⟩;obtain⟨hl,gd⟩:∃ q,q=(tnOf d0 y i).hl:=⟨_,rfl⟩;obtain⟨hh,ge⟩:∃ q,q=(tnOf d0 y i).hh:=⟨_,rfl⟩;rw[gD,<- hN,<- ga,<- gc,<- gd,<- ge] at g0;have e0:wr.cell? (Aw g (j*9))=some _:=g0 0 _ rfl;have e1:=g0 1 _ rfl;have e2:=g0 2 _ rfl;have e3:=g0 3 _ rfl;have e4:=g0 4 _ rfl;have e5:=g0 5 _ rfl;have e6:=g0 6 _ rfl;have e7:=g0 7 _ rfl;have e8:=g0 8 _ rfl;have hW:N.lo=b.lo:=by rw[hN];exact tb.lo
   have hX:N.hi=b.hi:=by rw[hN];exact tb.hi
   have HA:=Hd g2;have HL:=Hd hi;have gn:=Hd tb;have HJ:=Hd hW;have HM:=Hd hX;have Hb:(j:Int)<ids.length:=by omega
   have Hf:=hH.o;have Hc:(j:Int)+1<=1048578:=by omega
   have gi:=g1.o.facts.1;have hQ:d0.tab x (N.lo,N.hi)=some i:=by
    rw[hW,hX];refine(g1.o.ok.tab x gi _ _ _).2 ?_;rw[tb.node,<- tb.v]
   have gH:¬ i∈ids.take j:=by
    intro hm;have gI:=kC.o;rw[<- Xo j ids,Wh] at gI;refine gI.2.2 i hm i ?_ rfl;rw[VT hlt,hi];exact VM
   have kv:dj.tab x (N.lo,N.hi)=some i:=g2.cut.has hQ gH;have hO:x<dj.vars.length:=by rw[g2.cut.vars,Gb];exact gi
   have Hh:(fun u=>if u=x then putF (dj.tab u) (N.lo,N.hi) none else dj.tab u)=(fun u=>if u=x then putF (dj.tab x) (N.lo,N.hi) none else dj.tab u):=by funext u;by_cases e:u=x<;>simp[e]
   have kQ:Hq (CutS d0 k x (fun q=>q∈ids.take (j+1)) { dj with tab:=fun u=>if u=x then putF (dj.tab x) (N.lo,N.hi) none else dj.tab u }):=Hd (by
    have q1:=(g2.cut.next g1.o.ok gi hQ).congr (g':=fun q=>q∈ids.take (j+1)) (fun q=>by
     rw[Vz hlt,VF,VB,hi])
    rw[Hh] at q1;exact q1)
   obtain⟨wz,g7⟩:∃ W,W=wr.alloc (.cells #[Iv N.id,Iv N.v,Iv N.lo,Iv N.hi,Iv N.refs,Iv ll,Iv lh,Iv hl,Iv hh] 256):=⟨_,rfl⟩;have gf:Bw wr wz:=by rw[g7];exact Ah wr _
   have hz:=Vv wr (.cells #[Iv N.id,Iv N.v,Iv N.lo,Iv N.hi,Iv N.refs,Iv ll,Iv lh,Iv hl,Iv hh] 256);rw[<- g7] at hz;have z2:wz.cell? (Aw wr.heap.size 2)=some (Iv N.lo):=by rw[Vt wz _ 2 _ _ _ hz];rfl
   have z3:wz.cell? (Aw wr.heap.size 3)=some (Iv N.hi):=by rw[Vt wz _ 3 _ _ _ hz];rfl
   have g8:=g2.st.below g2.lt gf;have gk:=g2.lt.mono gf.size;obtain⟨gt,ct,gC,cellx,H8⟩:=g8.tabAt hO;obtain⟨c0,c1,c2,c3,c4,f0⟩:=cells5 g8.blk;rw[gC] at c2;have ko:x<s.ts.length:=by rw[g8.tlen];exact hO
   have H5:(x:Int)<s.ts.length:=by omega
   have kU:=Hd (Kh oj x (s.ts.getD x 0) (dj.tab x) N.lo N.hi i wz.drew ((g8.below gk (Am wz 1)).tab x ko) (gk.mono (Am wz 1).size) kv);have gY:Hq (CutI d0 k x ids sb s o1 w1 w1.heap.size (.slice (some (Av g)) ids.length cvv) ts j wz.drew oj dj):=Hd (g2.move ((g8.below gk (Am wz 1))) (Chg.of_below (gf.trans ((Am wz 1).mono gf.size)) Al oj) (fun _ h=>h) (gk.mono (Am wz 1).size) g2.cut);have ka:=Hd g7;have gN:=Hd hlt;clear g3 g0 gE gD g2 tb hN ga gc gd ge hi hW hX HCI hQ gH kv hO gf hz g8 gk gC ko g7 c0 c1 c3 c4 f0;go_upto_region 14 with fail;rw[<- ka.o];refine AJ (fun W:Wd=>W=wz.drew) true 13 [(0,false),(1,false),(2,false),(3,false),(4,false),(5,false),(6,false),(7,false),(8,false),(9,false),(10,false),(11,false),(12,false),(13,true)] (by kernel_rfl) (by kernel_rfl) rfl ?_;simp only[planned,AH]
   iterate 13
    refine Aq rfl ?_;apply Exists.intro;refine⟨fun w' hw=>?_,?_⟩
    . subst hw;go_simp;rfl
    simp only[Ab]
   refine Eb rfl (by go_simp) (kU.o.mono (R':=fun e w'=>∃ v,e=.returned v/\(v=Iv 0/\AN oj w' x (s.ts.getD x 0) (putF (dj.tab x) (N.lo,N.hi) none)/\Chg (· = .tmap x) oj oj wz.drew w'/\Ac oj w')) (fun e w' h=>⟨_,h.1,rfl,h.2⟩)) ?_;rintro _ w5 ⟨rfl,kr,k5,kt⟩;simp only[Ab];refine Cm ?_;have hE:=Hd (gY.o.move (gY.o.st.setTab gY.o.lt kr k5) k5 (fun r hr=>by simp[Al,hr]) kt kQ.o);clear kr k5 kt c2 cellx H5 e0 e1 e2 e3 e4 e5 e6 e7 e8 z2 z3;go_wp2_with fail;go_roundw
   case rel=>exact⟨j+1,XB gN.o,by go_num,Hd ⟨_,_,hE.o⟩⟩
   case measure =>
    have:=gN.o;have:=hH.o;simp[intOf];omega
  ·obtain rfl:j=ids.length:=by omega
   obtain⟨oe,de,gl⟩:=HCI.o;have ke:Hq (∃ o d V',RndI sb o1 w1 w1.heap.size (.slice av ids.length cvv) ts wr o d/\A6 d0 V k x y Wt (Aj d0) (fun i=>i∈ids.take 0) d V'):=Hd ⟨oe,de,V,⟨⟨s,gl.st⟩,gl.lt,gl.row,gl.no,gl.chg⟩,(A6.start gl.cut g1.o.ok g1.o.facts.1 kg.o.dead (fun i=>by rw[Wb];exact(gX.o i).symm) gM.o).congr (fun i=>by simp)⟩;clear gl HCI;go_wp2_with fail
   go_loopw [98] (fun s98 wr=>∃ j:Nat,j<=ids.length/\s98=Iv j/\Hq (∃ o d V',RndI sb o1 w1 w1.heap.size (.slice av ids.length cvv) ts wr o d/\A6 d0 V k x y Wt (Aj d0) (fun i=>i∈ids.take j) d V')) (fun s98 _=>ids.length-(intOf s98).toNat)
   case atStart=>exact⟨0,VC _,rfl,ke⟩
   case round =>
    clear ke;obtain⟨j,hj,rfl,hD⟩:=hrel
    by_cases hlt:j<ids.length
    ·obtain⟨oj,dj,Vj,gF,gj⟩:=hD.o;obtain⟨a',c',ea,g3⟩:=gF.row.ex;rw[h6] at ea;injection ea with ea1 ea2 ea3
     clear ea2 ea3;obtain⟨g,hg,Hg,g0⟩:=g3 j (by omega);rw[hg] at ea1;subst ea1;obtain⟨i,hi⟩:=Ex (ids[j]);have gE:ts[j]'(by omega)=tnOf d0 y i:=by rw[hi];simp[hA.o]
     rw[gE] at g0;have gh:i∈ids:=by rw[hi];exact VG hlt
     obtain⟨b,tb⟩:=hB.o i gh;have gD:tnOf d0 y i=⟨d0.pool.nd i,(tnOf d0 y i).ll,(tnOf d0 y i).lh,(tnOf d0 y i).hl,(tnOf d0 y i).hh⟩:=rfl
     have kh:Hq (((tnOf d0 y i).ll,(tnOf d0 y i).hl)∈ts.flatMap B8/\((tnOf d0 y i).lh,(tnOf d0 y i).hh)∈ts.flatMap B8):=Hd (by
      have hm:tnOf d0 y i∈ts:=by rw[hA.o];exact VD.2 ⟨i,gh,rfl⟩
      exact⟨XG.2 ⟨_,hm,by simp[B8]⟩,XG.2 ⟨_,hm,by simp[B8]⟩⟩)
     obtain⟨N,hN⟩:=Ex (d0.pool.nd i);obtain⟨ll,ga⟩:∃ q,q=(tnOf d0 y i).ll:=⟨_,rfl⟩;obtain⟨lh,gc⟩:∃ q,q=(tnOf d0 y i).lh:=⟨_,rfl⟩;obtain⟨hl,gd⟩:∃ q,q=(tnOf d0 y i).hl:=⟨_,rfl⟩;obtain⟨hh,ge⟩:∃ q,q=(tnOf d0 y i).hh:=⟨_,rfl⟩;rw[gD,<- hN,<- ga,<- gc,<- gd,<- ge] at g0;rw[<- ga,<- gc,<- gd,<- ge] at kh;have e0:wr.cell? (Aw g (j*9))=some _:=g0 0 _ rfl;have e1:=g0 1 _ rfl;have e2:=g0 2 _ rfl;have e3:=g0 3 _ rfl;have e4:=g0 4 _ rfl;have e5:=g0 5 _ rfl;have e6:=g0 6 _ rfl;have e7:=g0 7 _ rfl;have e8:=g0 8 _ rfl;have gH:¬ i∈ids.take j:=by
      intro hm;have gI:=kC.o;rw[<- Xo j ids,Wh] at gI;refine gI.2.2 i hm i ?_ rfl;rw[VT hlt,hi];exact VM
     obtain⟨wz,g7⟩:∃ W,W=wr.alloc (.cells #[Iv N.id,Iv N.v,Iv N.lo,Iv N.hi,Iv N.refs,Iv ll,Iv lh,Iv hl,Iv hh] 256):=⟨_,rfl⟩;have gf:Bw wr wz.drew:=by rw[g7];exact Fi wr 1 _
     have hz:=Vv wr (.cells #[Iv N.id,Iv N.v,Iv N.lo,Iv N.hi,Iv N.refs,Iv ll,Iv lh,Iv hl,Iv hh] 256);rw[<- g7] at hz;obtain⟨bz,gw⟩:∃ q,q=wr.heap.size:=⟨_,rfl⟩;rw[<- gw] at hz;have z5:wz.cell? (Aw bz 5)=some (Iv ll):=by rw[Vt wz _ 5 _ _ _ hz];rfl
     have z6:wz.cell? (Aw bz 6)=some (Iv lh):=by rw[Vt wz _ 6 _ _ _ hz];rfl
     have z7:wz.cell? (Aw bz 7)=some (Iv hl):=by rw[Vt wz _ 7 _ _ _ hz];rfl
     have z8:wz.cell? (Aw bz 8)=some (Iv hh):=by rw[Vt wz _ 8 _ _ _ hz];rfl
     have kX:Hq (Box oj wz.drew bz (.cells #[Iv N.id,Iv N.v,Iv N.lo,Iv N.hi,Iv N.refs,Iv ll,Iv lh,Iv hl,Iv hh] 256 (0,0))):=Hd ⟨hz,gF.lt.none (by rw[gw];exact Vu _)⟩;have kc:=Hd (gF.below gf)
     have hI:Hq (w1.heap.size<=bz/\g≠bz):=Hd (by
      have h1:=gF.chg.size;have h2:g<wr.heap.size:=Af e0;exact⟨by omega,by omega⟩)
     have tv:=tb.val;rw[<- ga,<- gc,<- gd,<- ge] at tv;have kH:=Hd (L6 kc.o.st kc.o.lt gj g1.o.ok.dag (gj.acy g1.o) g1.o.facts.1 gj.vlen ll hl tv.f1 tv.f3 (fun h1 h2=>LI gj g1.o gM.o kh.o.1 tv.f1 tv.f3 h1 h2) gM.o.nodup kj.o);have HB2:Hq (∀ W o d V',Az o W sb d->Ac o W->A6 d0 V k x y Wt (Aj d0) (fun i=>i∈ids.take j) d V'->_):=Hd (fun W o d V' st lt m=>L6 st lt m g1.o.ok.dag (m.acy g1.o) g1.o.facts.1 m.vlen lh hh tv.f2 tv.f4 (fun h1 h2=>LI m g1.o gM.o kh.o.2 tv.f2 tv.f4 h1 h2) gM.o.nodup kj.o)
     have kn:Hq (∀ r1 r2 d1 d2 V1 V2,C0 d0 V k x y Wt (fun i=>i∈ids.take j) dj Vj ll hl r1 d1 V1->C0 d0 V k x y Wt (fun i=>i∈ids.take j) d1 V1 lh hh r2 d2 V2->EU d0 V k x y Wt (fun i=>i∈ids.take j) i r1 r2 d2 V2):=Hd (by
      intro r1 r2 d1 d2 V1 V2 h1 h2;rw[ga,gd] at h1;rw[gc,ge] at h2;exact EU.of g1.o tb h1 h2)
     have HN:Hq (N.lo=b.lo/\N.hi=b.hi/\N.id=i/\(N.refs:Int)=Aj d0 i):=Hd (by rw[hN];exact⟨tb.lo,tb.hi,tb.id,(CG (BJ tb.node).1).symm⟩);have HT:Hq (Turns (Aa d0) x y i):=Hd ((gX.o i).1 gh);have kB:=Hd gH;have gn:=Hd tb;have Hl:Hq (∀ q,(q∈ids.take j\/q=i)↔q∈ids.take (j+1)):=Hd (fun q=>by rw[Vz hlt,VF,VB,hi]);have Hb:(j:Int)<ids.length:=by omega
     have Hf:=hH.o;have Hc:(j:Int)+1<=1048578:=by omega
     have ka:=Hd g7;have Hx:=Hd gw;have gN:=Hd hlt;clear g3 g0 gE gD gF gj tb tv hN ga gc gd ge hi hD gH gf hz g7 gw gh Hg;go_upto_region 19 with fail;rw[<- Hx.o,<- ka.o];clear e0 e1 e2 e3 e4 e5 e6 e7 e8;refine AJ (fun W:Wd=>W.cell? (Aw bz 5)=some (Iv ll)/\W.cell? (Aw bz 6)=some (Iv lh)/\W.cell? (Aw bz 7)=some (Iv hl)/\W.cell? (Aw bz 8)=some (Iv hh)) false 16 [(0,false),(1,false),(2,false),(3,false),(4,false),(5,false),(7,false),(8,false),(9,false),(10,false),(11,false),(12,false),(6,true),(13,true),(14,false),(15,false)] (by kernel_rfl) (by kernel_rfl) ⟨z5,z6,z7,z8⟩ ?_;simp only[planned,AH]
     iterate 12
      refine Aq rfl ?_;apply Exists.intro;refine⟨fun w' hw=>?_,?_⟩
      . obtain⟨q5,q6,q7,q8⟩:=hw;go_simp;rfl
      simp only[Ab]
     refine BH (R:=fun v w'=>∃ r:Nat,v=Iv r/\∃ o' d' V',RndI sb o1 w1 w1.heap.size (.slice (some (Av g)) ids.length cvv) ts w' o' d'/\C0 d0 V k x y Wt (fun i=>i∈ids.take j) dj Vj ll hl r d' V'/\Box o' w' bz (.cells #[Iv N.id,Iv N.v,Iv N.lo,Iv N.hi,Iv N.refs,Iv ll,Iv lh,Iv hl,Iv hh] 256 (0,0))) rfl (by go_simp) (kH.o.mono (fun e w' he=>?_)) ?_
     . obtain⟨r,rfl,o',d',V',st',lt',k8,kJ,gL⟩:=he;have g4:=kX.o.chg gL;exact⟨_,rfl,⟨g4.cell 5,g4.cell 6,g4.cell 7,g4.cell 8⟩,r,rfl,o',d',V',kc.o.move st' lt' gL (fun _ h=>h),k8,g4⟩
     rintro v w5-⟨r1,rfl,o5,d5,V5,hc,gV,k7⟩;simp only[Ab];refine BH (R:=fun v w'=>∃ r:Nat,v=Iv r/\∃ o' d' V',RndI sb o1 w1 w1.heap.size (.slice (some (Av g)) ids.length cvv) ts w' o' d'/\EU d0 V k x y Wt (fun i=>i∈ids.take j) i r1 r d' V'/\Box o' w' bz (.cells #[Iv N.id,Iv N.v,Iv N.lo,Iv N.hi,Iv N.refs,Iv ll,Iv lh,Iv hl,Iv hh] 256 (0,0))) rfl (by go_simp) ((HB2.o w5 o5 d5 V5 hc.st hc.lt gV.mid).mono (fun e w' he=>?_)) ?_
     . obtain⟨r,rfl,o',d',V',st',lt',k8,kJ,gL⟩:=he;have g4:=k7.chg gL;exact⟨_,rfl,⟨g4.cell 5,g4.cell 6,g4.cell 7,g4.cell 8⟩,r,rfl,o',d',V',hc.move st' lt' gL (fun _ h=>h),kn.o _ _ _ _ _ _ gV k8,g4⟩
     rintro v w6-⟨r2,rfl,o6,d6,V6,ha,gg,k6⟩;simp only[Ab]
     iterate 2
      refine Aq rfl ?_;apply Exists.intro;refine⟨fun w' hw=>?_,?_⟩
      . obtain⟨q5,q6,q7,q8⟩:=hw;go_simp;rfl
      simp only[Ab]
     refine Bs ?_;have Hn:=Hd ha;have gq:=Hd gg;have kW:=Hd k6;have Hp:=Hd (LG ha.st ha.lt g1.o gg.mid gg.e1 (fun i=>by have:=g1.o.top i;omega));clear ha gg k6 hc gV k7 z5 z6 z7 z8 kH HB2;go_wp2_with fail;refine Hp.o.mono ?_;rintro q w7 ⟨rfl,d7,st7,lt7,m7,n7,p7,c7⟩;have Hm:=Hd (Hn.o.move st7 lt7 c7 (fun _ h=>h));have kV:=Hd (kW.o.chg c7)
     have Ho:=Hd (LG st7 lt7 g1.o m7 (n7 ▸ gq.o.e2) (fun i=>by
      have:=g1.o.top i;have h2:toE r1 i<=1:=by unfold toE;split<;>omega
      unfold addE;omega))
     have kE:Hq (Aa d7=Aa d6/\d7.pool=d6.pool):=Hd ⟨n7,p7⟩;clear st7 lt7 m7 n7 p7 c7;go_wp2_with fail;refine Ho.o.mono ?_;rintro q w8 ⟨rfl,d8,st8,lt8,m8,n8,p8,c8⟩;have kz:=Hd (Hm.o.move st8 lt8 c8 (fun _ h=>h));have g6:=Hd (kV.o.chg c8);have hF:=Hd m8;have kD:Hq (Aa d8=Aa d6/\d8.pool=d6.pool):=Hd ⟨n8.trans kE.o.1,p8.trans kE.o.2⟩;clear st8 lt8 m8 n8 p8 c8;have x0:w8.cell? (Av bz)=some (Iv N.id):=g6.o.cell 0;have x1:w8.cell? (Aw bz 1)=some (Iv N.v):=g6.o.cell 1;have x2:w8.cell? (Aw bz 2)=some (Iv N.lo):=g6.o.cell 2;have x3:w8.cell? (Aw bz 3)=some (Iv N.hi):=g6.o.cell 3;have x4:w8.cell? (Aw bz 4)=some (Iv N.refs):=g6.o.cell 4;have xf:∀ q,w8.frozen? (Aw bz q)=false:=fun q=>by simp[World.frozen?,g6.o.blk]
     go_upto_region 23 with fail;obtain⟨wo,gZ⟩:∃ W,W=w8.alloc (.cells #[Iv N.id,Iv N.v,Iv N.lo,Iv N.hi,Iv N.refs] 254):=⟨_,rfl⟩;have gg:Bw w8 wo:=by rw[gZ];exact Ah w8 _
     have hd:=Vv w8 (.cells #[Iv N.id,Iv N.v,Iv N.lo,Iv N.hi,Iv N.refs] 254);rw[<- gZ] at hd;obtain⟨bo,gx⟩:∃ q,q=w8.heap.size:=⟨_,rfl⟩;rw[<- gx] at hd;have gJ:bz≠bo:=by
      have:=Af x0;have h2:bz<w8.heap.size:=this;omega
     have g5:Hq (Box o6 wo bz (.cells #[Iv N.id,Iv N.v,Iv N.lo,Iv N.hi,Iv N.refs,Iv ll,Iv lh,Iv hl,Iv hh] 256 (0,0))):=Hd (g6.o.chg (Chg.of_below gg Al o6));have kd:=Hd (kz.o.below gg);have kY:Hq (Box o6 wo bo (.cells #[Iv N.id,Iv N.v,Iv N.lo,Iv N.hi,Iv N.refs] 254 (0,0))):=Hd ⟨hd,kz.o.lt.none (by rw[gx];exact Vu _)⟩;obtain⟨wa,gA⟩:∃ W,W=(wo.setCell (Aw bz 1) (Iv y)).setCell (Aw bz 2) (Iv r1):=⟨_,rfl⟩;obtain⟨wb,gz⟩:∃ W,W=wa.setCell (Aw bz 3) (Iv r2):=⟨_,rfl⟩;have HV:∀ q,0<ts.length->Value.ownBlock (.slice (some (Av g)) ids.length cvv)=some q->q≠bz:=fun q _ hq=>by cases hq;exact hI.o.2
     have ky:Hq (RndI sb o1 w1 w1.heap.size (.slice (some (Av g)) ids.length cvv) ts wb.drew o6 d8):=Hd (by
      rw[gz,gA];exact(((kd.o.write g5.o.no hI.o.1 HV 1 _).write g5.o.no hI.o.1 HV 2 _).write g5.o.no hI.o.1 HV 3 _).below (Am _ 1))
     have kl:=HN.o.2.2.2
     have g9:Hq (Box o6 wb.drew bz (.cells #[Iv i,Iv y,Iv r1,Iv r2,Iv N.refs,Iv ll,Iv lh,Iv hl,Iv hh] 256 (0,0))):=Hd (by
      rw[gz,gA];have h:=((g5.o.set 1 (Iv y)).set 2 (Iv r1)).set 3 (Iv r2);rw[HN.o.2.2.1] at h;exact⟨h.blk,h.no⟩)
     have H0:Hq (Box o6 wb.drew bo (.cells #[Iv i,Iv N.v,Iv b.lo,Iv b.hi,Iv N.refs] 254 (0,0))):=Hd (by
      rw[gz,gA];have h:=((kY.o.other (p:=Aw bz 1) (u:=Iv y) (Wn gJ)).other (p:=Aw bz 2) (u:=Iv r1) (Wn gJ)).other (p:=Aw bz 3) (u:=Iv r2) (Wn gJ);rw[HN.o.2.2.1,HN.o.1,HN.o.2.1] at h;exact⟨h.blk,h.no⟩)
     have y1:wo.cell? (Aw bz 1)=some (Iv N.v):=g5.o.cell 1;have y2:wo.cell? (Aw bz 2)=some (Iv N.lo):=g5.o.cell 2;have y3:wo.cell? (Aw bz 3)=some (Iv N.hi):=g5.o.cell 3;have yf:∀ q,wo.frozen? (Aw bz q)=false:=fun q=>by simp[World.frozen?,g5.o.blk]
     have Hi:=Hd gZ;have kZ:=Hd gx;have Hk:=Hd gA;have Hj:=Hd gz;have HI:=Hd gJ;clear gZ gg hd gx gJ gA gz HV kl x0 x1 x2 x3 x4 xf;rw[<- Hi.o,<- kZ.o];go_upto_region 24 with fail;rw[<- Hk.o,<- Hj.o];obtain⟨s9,h9⟩:=ky.o.st;obtain⟨k0,k1,k2,k3,k4,kf⟩:=cells5 h9.blk;have hY:d8.pool.tk i=true:=by
      have h1:Aa d8 i=some b:=hF.o.mid.keep i b gn.o.node kB.o;exact(BJ h1).1
     have kx:=Hd (hF.o.turned (n:=⟨i,y,r1,r2,N.refs⟩) g1.o HT.o kB.o gn.o.node (kD.o.1 ▸ gq.o.e1) (kD.o.1 ▸ gq.o.e2) gq.o.reg gq.o.ne gq.o.val rfl HN.o.2.2.2 (h9.pool.tk_lt hY).2);have kb:=Hd (RK (n:=⟨i,y,r1,r2,N.refs⟩) ky.o h9 hY g9.o H0.o);unfold An at kb;have n0:wb.cell? (Av bz)=some (Iv i):=g9.o.cell 0;have n1:wb.cell? (Aw bz 1)=some (Iv y):=g9.o.cell 1;have n2:wb.cell? (Aw bz 2)=some (Iv r1):=g9.o.cell 2;have n3:wb.cell? (Aw bz 3)=some (Iv r2):=g9.o.cell 3;have n4:wb.cell? (Aw bz 4)=some (Iv N.refs):=g9.o.cell 4;have k1':wb.cell? (Aw sb 1)=some (Pt s9.pb):=k1;have Hs:Hq (s9.ts.length=d0.vars.length):=Hd (by rw[h9.tlen,hF.o.vlen]);clear k0 k1 k2 k3 k4 kf h9 hY y1 y2 y3 yf;refine AJ (fun W:Wd=>W=wb.drew) true 6 [(0,false),(1,false),(2,false),(3,false),(4,false),(5,false),(6,true)] (by kernel_rfl) (by kernel_rfl) rfl ?_;simp only[planned,AH]
     iterate 6
      refine Aq rfl ?_;apply Exists.intro;refine⟨fun w' hw=>?_,?_⟩
      . subst hw;go_simp;rfl
      simp only[Ab]
     refine Eb rfl (by go_simp) kb.o ?_;rintro _ w10 ⟨rfl,gQ,hu,gP,hL⟩;simp only[Ab];refine Cm ?_;clear n0 n1 n2 n3 n4 k1';have hZ:=hu.below gQ.lt (Am w10 1);have hJ:y<s9.ts.length:=by rw[Hs.o];exact g1.o.facts.2.1
     have H4:(y:Int)<s9.ts.length:=by omega
     obtain⟨gt,ct,gC,celly,H8⟩:=hu.tabAt (v:=y) (by show y<d8.vars.length;rw[hF.o.vlen];exact g1.o.facts.2.1);obtain⟨k0,k1,k2,k3,k4,kf⟩:=cells5 hu.blk;rw[gC] at k2;have kP:=Hd (RL (id:=i) (gQ.below (Am w10 1)) hZ hJ kx.o.1 (gP.chg (Chg.of_below (Am w10 1) Al o6)) (hL.chg (Chg.of_below (Am w10 1) Al o6)));have n0:w10.cell? (Av bz)=some (Iv i):=gP.cell 0;clear gQ hu gP hL hZ gC k0 k1 k3 k4 kf hJ;go_upto_region 25 with fail;refine AJ (fun W:Wd=>W=w10.drew) true 12 [(0,false),(1,false),(2,false),(3,false),(4,false),(5,false),(6,false),(7,false),(8,false),(9,false),(10,false),(11,false),(12,true)] (by kernel_rfl) (by kernel_rfl) rfl ?_;simp only[planned,AH]
     iterate 12
      refine Aq rfl ?_;apply Exists.intro;refine⟨fun w' hw=>?_,?_⟩
      . subst hw;go_simp;rfl
      simp only[Ab]
     refine Eb rfl (by go_simp) kP.o ?_;rintro _ w11 ⟨rfl,gu,kI,gO⟩;simp only[Ab];refine Cm ?_;have kO:=Hd gu;have kK:=Hd gO
     have Hqz:=Hd (LH gu.st gu.lt g1.o kx.o.2 gn.o.node gn.o.v (.inl rfl) (fun q=>by
      have h1:=g1.o.top q;have h2:toE b.lo q<=1:=by unfold toE;split<;>omega
      have h3:toE b.hi q<=1:=by unfold toE;split<;>omega
      unfold addE;omega) (fun q=>by
      have h1:0<=Aj d0 q:=by unfold Aj;split<;>omega
      have h3:0<=toE b.hi q:=by unfold toE;split<;>omega
      unfold addE;omega))
     have u2:w11.cell? (Aw bo 2)=some (Iv b.lo):=gO.cell 2;clear gu kI gO n0 k2 celly H4;go_wp2_with fail;refine Hqz.o.mono ?_;rintro q w12 ⟨rfl,d12,st12,lt12,m12,c12⟩;have kN:=Hd (kO.o.move st12 lt12 c12 (fun _ h=>h));have hK:=kK.o.chg c12
     have kR:=Hd (LH st12 lt12 g1.o m12 gn.o.node gn.o.v (.inr rfl) (fun q=>by
      have h1:=g1.o.top q;have h2:toE b.lo q<=1:=by unfold toE;split<;>omega
      have h3:toE b.hi q<=1:=by unfold toE;split<;>omega
      have h4:0<=toE b.lo q:=by unfold toE;split<;>omega
      unfold addE;omega) (fun q=>by
      have h1:0<=Aj d0 q:=by unfold Aj;split<;>omega
      unfold addE;omega))
     have u3:w12.cell? (Aw bo 3)=some (Iv b.hi):=hK.cell 3;clear st12 lt12 m12 c12 hK u2;go_wp2_with fail;refine kR.o.mono ?_;rintro q w13 ⟨rfl,d13,st13,lt13,m13,c13⟩;rw[RH] at m13;have hE:=Hd (And.intro (kN.o.move st13 lt13 c13 (fun _ h=>h)) (m13.congr Hl.o));clear st13 lt13 m13 c13 u3;go_wp2_with fail;go_roundw
     case rel=>exact⟨j+1,XB gN.o,by go_num,Hd ⟨_,_,_,hE.o.1,hE.o.2⟩⟩
     case measure =>
      have:=gN.o;have:=hH.o;simp[intOf];omega
    ·obtain rfl:j=ids.length:=by omega
     obtain⟨oe,de,Ve,h8,hU⟩:=hD.o;have hR:=hU.final g1.o.v g1.o.ok g1.o.lev (fun i hT=>by rw[Wb];exact(gX.o i).2 hT);have Hw:=Hd (IA h8.st h8.lt hR)
     have kT:Hq (∀ w' o' d',Az o' w' sb d'->Ac o' w'->AK de d'->Chg Al oe o' wr w'->P (.returned (Iv 0)) w'):=Hd (by
      intro w' o' d' st' lt' cr' ch';rw[kA.o];exact⟨o',d0,kg.o,lt',kG.o.trans (h8.chg.trans ch'),.inr ⟨rfl,d',Ve,st',hU.o hR cr'⟩⟩)
     clear h8 hU hR hD;go_wp2_with fail;refine Hw.o.mono ?_;rintro q w14 ⟨rfl,o14,d14,st14,lt14,cr14,ch14⟩;have HF:=Hd (kT.o w14 o14 d14 st14 lt14 cr14 ch14);clear st14 lt14 cr14 ch14;go_wp2_with fail;exact HF.o
section
theorem Cc.big (h:Cc m){p:Int×Nat}(hp:p∈m.hs):p.2/2=0\/1<p.1:=by
 by_cases h1:1<p.1
 . exact .inr h1
 ·left;have g1:=h.lt p hp;have hu:∀ q∈m.hs,q.1=p.1->q=p:=by
   intro q hq e;have g0:=h.nodup;have h1:=D5 (l:=encH m.hs) (DZ g0) (VD.2 ⟨q,hq,rfl⟩);have h2:=D5 (l:=encH m.hs) (DZ g0) (VD.2 ⟨p,hp,rfl⟩);rw[e,h2] at h1;have e2:(p.2:Int)=(q.2:Int):=by injection h1 with h1;injection h1
   exact Prod.ext e (by omega)
  rcases(by omega:p.1=0\/p.1=1) with e|e
  . rw[<- hu _ h.zero e.symm];rfl
  . rw[<- hu _ h.one e.symm];rfl
theorem LJ {hs:List (Int×Nat)}{p:Int×Nat}(hp:p∈hs)(h1:1<p.1):0<AQ hs (p.2/2):=by
 unfold AQ;refine Yh (WO.2 ⟨hp,?_⟩);simp[h1]
theorem RT (hs:List (Int×Nat))(i:Nat):AQ hs i<=hs.length:=WD _ _
theorem LK (h:Cc m)(i:Nat):Aj m.d i<=m.next:=by
 cases hb:Aa m.d i with
 | none=>rw[DT hb];have:=h.next;omega
 | some b =>
   rw[h.refs i b hb];have h1:=RT m.hs i;have h2:=h.len;omega
theorem RU (h:Cc { m with d:=d0 })(hk:Ak d0 V)(s:ET d0 V k d' V'):Cc { m with d:=d' }:=by
 have g1:∀ p∈m.hs,okE (Aa d') p.2:=by
  intro p hp;rcases h.ok p hp with h0|⟨b,hb⟩
  . exact .inl h0
  ·rcases h.big hp with h1|h1
   . exact .inl h1
   . refine .inr (s.live _ b hb ?_);have h2:=h.refs _ b hb;have h3:0<AQ m.hs (p.2/2):=LJ hp h1;have h4:Aj d0 (p.2/2)=(AQ m.hs (p.2/2):Int):=h2;omega
 refine⟨h.nodup,h.zero,h.one,h.lt,h.next,g1,h.len,fun i b hb=>?_⟩
 show Aj d' i=(AQ m.hs i:Int)
 rw[s.ext i b hb];cases hn:Aa d0 i with
 | some b0=>exact h.refs i b0 hn
 | none =>
   rw[DT hn];have hi:i≠0:=by
    rintro rfl;have h0:Aa d' 0=none:=s.ok.dag.none0;have h1:Aa d' 0=some b:=hb;rw[h0] at h1;cases h1
   have:AQ m.hs i=0:=by
    unfold AQ;rw[List.length_eq_zero_iff,List.filter_eq_nil_iff];intro p hp;have ho:=h.ok p hp;simp only[Wq,WH,XP,not_and];rintro _ rfl;rcases ho with h0|⟨b1,g2⟩
    . exact hi h0
    . have g0:Aa d0 (p.2/2)=some b1:=g2;rw[hn] at g0;cases g0
   rw[this];rfl
end
structure LL (K:Law)(n room:Nat)(w0:Wd)(mb:Nat)(fs:List (Int×BF))(nx:Int)(k:Nat)(o:Own)(w:Wd)(m:ManD)(V:Nat->BF)(e:Ending)(o':Own)(w':Wd)(m':ManD)(V':Nat->BF):Prop where
 sat:SatE K n (fun _=>True) room w0 mb fs nx w' o' m' V'
 waits:m'.waits=m.waits
 calls:m'.calls=m.calls
 chg:Chg (fun _=>True) o o' w w'
 way:∃ d0,AK m.d d0/\((e=.returned (Iv 7)/\m'.d=d0/\V'=V/\d0.pool.room<3*d0.pool.many)\/(e=.returned (Iv 0)/\ET d0 V k m'.d V'))
section
variable {o:Own}
theorem LM {s:ManW}(h:SatE K n Od room w0 mb fs nx w o m V)(g1:A8 (fun _ _ _ _ _=>False) o w1 mb m s)(g2:Chg (· = .entries) o o w w1)(g3:Ac o w1)(hk1:k+1<n)(hn:nx<=549755813888) :
 Cl 160 #[Pt s.sb,Iv k] w1 fun e w'=>∃ o' m' V',LL K n room w0 mb fs nx k o w m V e o' w' m' V':=by
 have g0:=h.next
 refine(RS g1.store g3 h.ok.store k (by rw[h.vars];exact hk1) (fun i=>by have:=LK h.ok.handles i;omega)).mono ?_;rintro e w' ⟨o',d0,cr,lt,ch,hw⟩;have hc:Chg (fun _=>True) o o' w w':=g2.any.trans ch.any;have h0:=Ir h.ok.handles h.ok.store cr;rcases hw with ⟨rfl,st,hr⟩|⟨rfl,d',V',st,so⟩
 . refine⟨o',{ m with d:=d0 },V,⟨⟨s,(g1.setStore g3 st ch).mono fun _ _ _ _ _ e=>e.elim⟩,lt,⟨cr.ok h.ok.store,h0⟩,by dsimp only;rw[cr.vars];exact h.vars,trivial,by dsimp only;rw[cr.room];exact h.room,h.next,h.hs,h.chg.lower (ChgX.of_chg hc NoB) (fun _ e=>e.elim)⟩,rfl,rfl,hc,d0,cr,.inl ⟨rfl,rfl,rfl,hr⟩⟩
 ·refine⟨o',{ m with d:=d' },V',⟨⟨s,(g1.setStore g3 st ch).mono fun _ _ _ _ _ e=>e.elim⟩,lt,⟨so.ok,RU h0 (cr.ok h.ok.store) so⟩,?_,trivial,?_,h.next,?_,h.chg.lower (ChgX.of_chg hc NoB) (fun _ e=>e.elim)⟩,rfl,rfl,hc,d0,cr,.inr ⟨rfl,so⟩⟩
  ·show d'.vars.length=n
   rw[so.vars,Gb,cr.vars];exact h.vars
  ·show d'.pool.room=room
   rw[so.room,cr.room];exact h.room
  ·show m.hs.map (fun p=>(p.1,ef V' p.2))=fs
   rw[KV (d:=d0) h0.ok so.val];exact h.hs
end
theorem RW {o:Own}(st:Az o w sb d)(hs:d.vars.length<=64)(z:Int)(hz:z<0\/(d.vars.length:Int)-1<=z) :
 Cl 160 #[Pt sb,Iv z] w fun x w'=>x=.returned (Iv 2)/\w'=w:=by
 obtain⟨s0,h0⟩:=id st;obtain⟨c0,c1,c2,c3,c4,f0⟩:=cells5 h0.blk;obtain⟨l0,l1,_⟩:=cells2 h0.lev;obtain⟨av,cv,g0⟩:∃ a c,s0.vv=.slice a d.vars.length c:=by
  rcases h0.vars with ⟨_,h1|⟨g,cap,c,hv,_⟩⟩
  . exact⟨_,_,by rw[h1.1,h1.2]⟩
  . exact⟨_,_,hv⟩
 rw[g0] at l0;clear st h0 g0 c1 c2 c3 c4 f0 l1
 by_cases hn:z<0
 ·clear l0 c0
  go_enter func160,ntmps160
  go_wp2_with fail;go_ret;exact⟨rfl,rfl⟩
 ·have h1:z>=(d.vars.length:Int)-1:=by omega
  clear hz
  go_enter func160,ntmps160
  go_wp2_with fail;go_ret;exact⟨rfl,rfl⟩
section
variable {o:Own}
theorem RX (h:SatE K n Od room w0 mb fs nx w o m V)(z:Int)(P:Ending->Wd->Prop)
 (hsw:∀ s w1,A8 (K m.d V) o w mb m s->A8 (fun _ _ _ _ _=>False) o w1 mb m s->Chg (· = .entries) o o w w1->Ac o w1->Cl 160 #[Pt s.sb,Iv z] w1 fun x w'=>∃ q:Int,x=.returned (Iv q)/\P x w') :
 Cl 113 #[Pt mb,Iv z] w P:=by
 obtain⟨s,hs⟩:=h.is;obtain⟨c0,c1,c2,c3,c4,c5,f0⟩:=cells6 hs.blk;have HC:=Hd (fun w1=>hsw s w1 hs);have g0:=Hd (wclear h hs (fun _ _ _ _ _=>False));clear h hs hsw
 go_enter func113,ntmps113
 go_wp2_with fail;refine g0.o.mono ?_;rintro x w1 ⟨rfl,g1,g2,g3⟩;obtain⟨d0,d1,d2,d3,d4,d5,f1⟩:=cells6 g1.blk;have g4:=Hd (HC.o w1 g1 g2 g3);clear g1 g2 g3 c0 c1 c2 c3 c4 c5 f0 g0 HC;go_wp2_with fail;refine g4.o.mono ?_;rintro x w2 ⟨q,rfl,hq⟩;have HQ:=Hd hq;clear hq;go_wp2_with fail;exact HQ.o
theorem RY (h:SatE K n Od room w0 mb fs nx w o m V)(hk1:k+1<n)(hn:nx<=549755813888) :
 Cl 113 #[Pt mb,Iv k] w fun e w'=>∃ o' m' V',LL K n room w0 mb fs nx k o w m V e o' w' m' V' :=
 RX h k _ fun s w1 _ g1 g2 g3=>(LM h g1 g2 g3 hk1 hn).mono fun e w' ⟨o',m',V',hs⟩=>by
  obtain⟨d0,cr,hw⟩:=hs.way;rcases hw with ⟨e1,_⟩|⟨e1,_⟩
  . exact⟨7,e1,o',m',V',hs⟩
  . exact⟨0,e1,o',m',V',hs⟩
end
theorem El (f g:Nat->Int):∀ k,Ag k (fun i=>f i+g i)=Ag k f+Ag k g
 | 0=>by simp[Ag]
 | k+1=>by simp only[Ag];rw[El f g k];omega
theorem Gc {f g:Nat->Int}:∀ k,(∀ i,i<k->f i<=g i)->Ag k f<=Ag k g
 | 0,_=>by simp[Ag]
 | k+1,h=>by
   have h1:=Gc k (fun i hi=>h i (by omega));have h2:=h k (by omega);simp only[Ag];omega
theorem IC (c:Int)(f:Nat->Int):∀ k,c*Ag k f=Ag k (fun i=>c*f i)
 | 0=>by simp[Ag]
 | k+1=>by simp only[Ag];rw[Int.mul_add,IC c f k]
theorem LO (f:Nat->Nat->Int)(m:Nat):∀ k,Ag k (fun i=>Ag m (fun j=>f i j))=Ag m (fun j=>Ag k (fun i=>f i j))
 | 0=>by simp only[Ag];rw[Dh]
 | k+1=>by
   simp only[Ag];rw[LO f m k,<- El]
theorem ID {g:Nat->Int}(hg:∀ i,0<=g i)(e k:Nat):Ag k (fun i=>g i*toE e i)<=g (e/2):=by
 by_cases hk:e/2<k
 ·have h1:=CQ (f:=fun _=>0) (g:=fun i=>g i*toE e i) (j:=e/2) (fun i hi=>by
   have:toE e i=0:=by unfold toE;rw[Vs (Wn hi)]
   simp[this]) k hk
  rw[h1,Dh];have:toE e (e/2)=1:=DN e;simp[this]
 ·rw[B4 (g:=fun _=>0) k (fun i hi=>by
   have:toE e i=0:=by unfold toE;rw[Vs (by omega)]
   simp[this]),Dh]
  exact hg _
def gW (d:Ae)(i:Nat):Int:=match Aa d i with
 | some b=>((2^(d.vars.length-levN d b.v):Nat):Int)-1
 | none=>0
theorem EV (d:Ae)(i:Nat):0<=gW d i:=by
 unfold gW;split
 . have:0<2^(d.vars.length-levN d (by assumption:BN).v):=Xe (by decide);omega
 . omega
theorem LP (d:Ae)(i l:Nat)(h:∀ b,Aa d i=some b->l<=levN d b.v):gW d i<=((2^(d.vars.length-l):Nat):Int)-1:=by
 unfold gW;split
 ·rename_i b hb
  have h1:=h b hb;have:2^(d.vars.length-levN d b.v)<=2^(d.vars.length-l):=VX (by decide) (by omega);omega
 . have:0<2^(d.vars.length-l):=Xe (by decide);omega
theorem RZ (hk:Ak d V){b:BN}(hb:Aa d j=some b):gW d (b.lo/2)+gW d (b.hi/2)<=gW d j-1:=by
 have hl:=hk.dag.lt _ (hk.dag.var _ _ hb);have key:∀ e,levN d b.v<lvE d.vars.length (levN d) (Aa d) e->gW d (e/2)<=((2^(d.vars.length-(levN d b.v+1)):Nat):Int)-1:=fun e he=>LP d _ _ (fun c hc=>by rw[ES hc] at he;omega)
 have h1:=key _ (hk.dag.lvLo _ _ hb);have h2:=key _ (hk.dag.lvHi _ _ hb);have h3:gW d j=((2^(d.vars.length-levN d b.v):Nat):Int)-1:=by unfold gW;rw[hb]
 have h4:d.vars.length-levN d b.v=(d.vars.length-(levN d b.v+1))+1:=by omega
 rw[h3,h4,WZ];omega
theorem Sa (hk:Ak d V)(h0:d.dead=0)(hc:(d.pool.many:Int)=Ag d.pool.at_.length (fun i=>if d.pool.tk i=true then 1 else 0)) :
 (d.pool.many:Int)<=Ag d.pool.at_.length (fun i=>gW d i*Aj d i):=by
 obtain⟨k,g0⟩:=Ex d.pool.at_.length;rw[<- g0] at hc ⊢;have e1:Ag k (fun i=>gW d i*(Ai d i:Int))=Ag k (fun i=>gW d i*Aj d i)+Ag k (fun i=>gW d i*Ag k (from1 (Aa d) (Ai d) i)):=by
  rw[<- El];refine B4 k fun i _=>?_
  cases hb:Aa d i with
  | none=>simp[gW,hb]
  | some b=>rw[hk.live.cnt.eq i b hb,Int.mul_add,g0]
 have e2:Ag k (fun i=>gW d i*Ag k (from1 (Aa d) (Ai d) i))=Ag k (fun j=>Ag k (fun i=>gW d i*from1 (Aa d) (Ai d) i j)):=by
  rw[<- LO];exact B4 k fun i _=>IC _ _ _
 have e3:Ag k (fun j=>Ag k (fun i=>gW d i*from1 (Aa d) (Ai d) i j))<=Ag k (fun j=>gW d j + -(if d.pool.tk j=true then 1 else 0)):=by
  refine Gc k fun j _=>?_
  cases hb:Aa d j with
  | none =>
    have ht:d.pool.tk j=false:=GV hb;rw[B4 (g:=fun _=>0) k (fun i _=>by simp[from1,hb]),Dh];simp[gW,hb,ht]
  | some b =>
    have ht:d.pool.tk j=true:=(BJ hb).1;have hp:=FI hk.live h0 hb
    rw[B4 (g:=fun i=>gW d i*toE b.lo i+gW d i*toE b.hi i) k (fun i _=>by
     simp only[from1,hb,Vw hp,Ck];rw[Int.mul_add]),El,ht,Vw rfl]
    have h1:=ID (EV d) b.lo k;have h2:=ID (EV d) b.hi k;have h3:=RZ hk hb;omega
 have e4:Ag k (fun i=>gW d i)<=Ag k (fun i=>gW d i*(Ai d i:Int)):=by
  refine Gc k fun i _=>?_
  cases hb:Aa d i with
  | none=>simp[gW,hb]
  | some b =>
    have hp:=FI hk.live h0 hb;have hg:=EV d i;have h1:(1:Int)<=(Ai d i:Int):=by omega
    have h2:=Int.mul_le_mul_of_nonneg_left h1 hg;omega
 have e5:Ag k (fun j=>gW d j + -(if d.pool.tk j=true then 1 else 0))=Ag k (fun j=>gW d j)+Ag k (fun j=>-(if d.pool.tk j=true then 1 else 0)):=El _ _ _;have e6:Ag k (fun j=>-(if d.pool.tk j=true then (1:Int) else 0)) = -Ag k (fun j=>if d.pool.tk j=true then 1 else 0):=by
  have:=IC (-1) (fun j=>if d.pool.tk j=true then (1:Int) else 0) k;rw[B4 (g:=fun i=>-1*if d.pool.tk i=true then (1:Int) else 0) k (fun i _=>by omega),<- this];omega
 omega
abbrev XJ:=@List.filter_cons_of_neg
theorem LQ (d:Ae)(k:Nat):∀ hs:List (Int×Nat),Ag k (fun i=>gW d i*(AQ hs i:Int))<=hs.length*((2^d.vars.length:Nat):Int)
 | []=>by
   rw[B4 (g:=fun _=>0) k (fun i _=>by simp[AQ]),Dh];simp
 | p::l=>by
   have ih:=LQ d k l;have h1:Ag k (fun i=>gW d i*(AQ (p::l) i:Int))<=Ag k (fun i=>gW d i*(AQ l i:Int)+gW d i*toE p.2 i):=by
    refine Gc k fun i _=>?_
    rw[<- Int.mul_add];refine Int.mul_le_mul_of_nonneg_left ?_ (EV d i);unfold AQ toE
    by_cases e:p.2/2=i
    ·rw[Vw e];have:(List.filter (fun p=>decide (1<p.1)&&p.2/2 == i) (p::l)).length<=(List.filter (fun p=>decide (1<p.1)&&p.2/2 == i) l).length+1:=by
      rw[X4];split<;>simp
     omega
    . rw[Vs e,XJ (by simp[e])];omega
   have h2:=ID (EV d) p.2 k;have h3:=LP d (p.2/2) 0 (fun _ _=>VC _);rw[El] at h1;rw[VO,Int.natCast_add,Int.add_mul];simp only[Nat.sub_zero] at h3;have h4:((1:Nat):Int)*((2^d.vars.length:Nat):Int)=((2^d.vars.length:Nat):Int):=by simp
   omega
section
variable {o:Own}
theorem SatE.few (h:SatE K n Od room w0 mb fs nx w o m V)(h0:m.d.dead=0):m.d.pool.many<=fs.length*2^n:=by
 obtain⟨s,hs⟩:=h.is;obtain⟨s2,h2⟩:=hs.store;have h1:=Sa h.ok.store h0 h2.pool.cnt;have h3:=LQ m.d m.d.pool.at_.length m.hs;have h4:Ag m.d.pool.at_.length (fun i=>gW m.d i*Aj m.d i)=Ag m.d.pool.at_.length (fun i=>gW m.d i*(AQ m.hs i:Int)):=by
  refine B4 _ fun i _=>?_
  cases hb:Aa m.d i with
  | none=>simp[gW,hb]
  | some b=>rw[h.ok.handles.refs i b hb]
 have h5:fs.length=m.hs.length:=by rw[<- h.hs,VP]
 rw[h5,<- h.vars];have h6:((m.hs.length*2^m.d.vars.length:Nat):Int)=m.hs.length*((2^m.d.vars.length:Nat):Int):=by rw[Int.natCast_mul]
 omega
end
theorem Sb (zs:List Int)(x:Int)(i:Nat):Dz zs x i=bub zs i (AZ zs x-i).toNat:=rfl
theorem Sc (zs:List Int)(i d:Nat):(bub zs i (d+1)).2=((i+d:Nat):Int)::(bub (AC zs ((i+d:Nat):Int)) i d).2:=rfl
def IE (a b:List Int)(w:Wd)(e:Ending)(w':Wd):Prop :=
 ∃ v,e=.returned (.tuple #[v,Iv (Cj a b)])/\OwnI w' w.heap.size v (BQ a b)/\Bw w w'
theorem Gd {a b r:List Int}{E:Int}(hE:Cj a b=E)(hr:BQ a b=r)(hs:OwnI w' w.heap.size v r)(hb:Bw w w') :
 IE a b w (.returned (.tuple #[v,Iv E])) w':=⟨v,by rw[hE],by rw[hr];exact hs,hb⟩
def metB (zs:List Int)(k:Nat)(v:Int):Bool:=decide (∃ j,j<k/\at0 zs j=v)
theorem Sd (zs:List Int)(v:Int):metB zs 0 v=false:=by simp[metB]
theorem Se (zs:List Int)(k:Nat):metB zs (k+1) (at0 zs k)=true:=by simp only[metB,WH];exact⟨k,by omega,rfl⟩
theorem LR (zs:List Int)(k:Nat)(v:Int)(h:at0 zs k≠v):metB zs (k+1) v=metB zs k v:=by
 simp only[metB,decide_eq_decide];constructor
 ·rintro⟨j,hj,he⟩;refine⟨j,?_,he⟩
  by_cases e:j=k
  . subst e;exact(h he).elim
  . omega
 . rintro⟨j,hj,he⟩;exact⟨j,by omega,he⟩
theorem Sf {v:Int}(h:metB zs k v=true):∃ j,j<k/\at0 zs j=v:=by simpa [metB] using h
theorem Sg {v:Int}(h:metB zs k v=false):∀ j,j<k->at0 zs j≠v:=by
 intro j hj he;have:metB zs k v=true:=by simp only[metB,WH];exact⟨j,hj,he⟩
 rw[h] at this;cases this
def Marks (w:Wd)(g:Nat)(zs:List Int)(k base:Nat):Prop :=
 ∃ cur,w.heap[g]?=some (.cells cur 157 (0,0))/\cur.size=64/\∀ u,u<64->cur[u]?=some (.bool (metB zs k ((base+u:Nat):Int)))
theorem Marks.cell {w:Wd}{g:Nat}{zs:List Int}{k base:Nat}(h:Marks w g zs k base)(u:Nat)(hu:u<64):w.cell? (Aw g u)=some (.bool (metB zs k ((base+u:Nat):Int))):=by
 obtain⟨cur,h1,h2,h3⟩:=h;simp only[World.cell?,h1];exact h3 u hu
theorem Marks.frozen {w:Wd}{g:Nat}{zs:List Int}{k base:Nat}(h:Marks w g zs k base)(u:Nat):w.frozen? (Aw g u)=false:=by
 obtain⟨cur,h1,h2,h3⟩:=h;simp[World.frozen?,h1]
theorem Marks.step_out (h:Marks w g zs k base)(hx:¬ ((base:Int)<=at0 zs k/\at0 zs k<base+64)):Marks w g zs (k+1) base:=by
 obtain⟨cur,h1,h2,h3⟩:=h;exact⟨cur,h1,h2,fun u hu=>by rw[LR _ _ _ (by omega)];exact h3 u hu⟩
theorem Marks.step_in {u:Nat}(h:Marks w g zs k base)(hx:at0 zs k=((base+u:Nat):Int))(hu:u<64) :
 Marks (w.setCell (Aw g u) (.bool true)) g zs (k+1) base:=by
 obtain⟨cur,h1,h2,h3⟩:=h;refine⟨cur.setIfInBounds u (.bool true),?_,by simpa using h2,fun v hv=>?_⟩
 . simp[World.setCell,XN,h1]
 ·by_cases e:v=u
  . subst e;rw[Array.getElem?_setIfInBounds_self_of_lt (by omega),<- hx,Se]
  . rw[Array.getElem?_setIfInBounds_ne (by omega),LR _ _ _ (by omega)];exact h3 v hv
theorem Sh (w:Wd)(zs:List Int)(base:Nat)(cs:List Value)(hcs:cs=List.replicate 64 (.bool false)):Marks (w.alloc (.cells cs.toArray 157)) w.heap.size zs 0 base :=
 ⟨_,Vv w _,by simp[hcs],fun u hu=>by rw[Sd,List.getElem?_toArray,hcs,Yd,Vw hu]⟩
def EW (zs:List Int)(B:Nat):Prop :=
 1<=B->(∀ j,j<zs.length->0<=at0 zs j/\at0 zs j<zs.length)/\∀ i,i<zs.length->∀ l,l<i->at0 zs l=at0 zs i->(B:Int)<=at0 zs i
def EX (zs:List Int)(B k:Nat):Prop :=
 (∀ j,j<k->0<=at0 zs j/\at0 zs j<zs.length)/\(∀ i,i<k->∀ l,l<i->at0 zs l=at0 zs i->¬ ((B:Int)<=at0 zs i/\at0 zs i<(B:Int)+64))
theorem Si (zs:List Int):EW zs 0:=fun h=>by omega
theorem Sj (zs:List Int)(B:Nat):EX zs B 0:=⟨by omega,by omega⟩
theorem IF {B:Nat}(h:EX zs B k)(h1:0<=at0 zs k)(h2:at0 zs k<zs.length)
 (h3:¬ ((B:Int)<=at0 zs k/\at0 zs k<(B:Int)+64)\/metB zs k (at0 zs k)=false):EX zs B (k+1):=by
 refine⟨fun j hj=>?_,fun i hi l hl he=>?_⟩
 ·by_cases e:j=k
  . subst e;exact⟨h1,h2⟩
  . exact h.1 j (by omega)
 ·by_cases e:i=k
  ·subst e;rcases h3 with h3|h3
   . exact h3
   . exact(Sg h3 l hl he).elim
  . exact h.2 i (by omega) l hl he
theorem Sk {B:Nat}(h:EW zs B)(hi:EX zs B zs.length):EW zs (B+64):=by
 refine fun _=>⟨hi.1,fun i g0 l hl he=>?_⟩
 have h2:=hi.2 i g0 l hl he;have h3:=(hi.1 i g0).1
 by_cases hB:1<=B
 . have:=(h hB).2 i g0 l hl he;omega
 . omega
theorem Sl {B:Nat}(h:EW zs B)(hB:zs.length<=B):A7 zs=true:=by
 rw[Ch]
 by_cases h0:1<=B
 . obtain⟨h1,h2⟩:=h h0;exact⟨h1,fun i hi k hk he=>by have:=h2 i hi k hk he;have:=(h1 i hi).2;omega⟩
 . exact⟨by omega,by omega⟩
theorem LS (hk:k<zs.length)(h:¬ (0<=at0 zs k/\at0 zs k<zs.length)):A7 zs=false:=JE fun hh=>h (hh.1 k hk)
theorem Sn (hk:k<zs.length)(h:metB zs k (at0 zs k)=true):A7 zs=false:=by
 obtain⟨j,hj,he⟩:=Sf h;exact JE fun hh=>hh.2 k hk j hj he
theorem Db (a:Option Addr)(c:Nat)(zs:List Int)(w:Wd)(h:Ar w a zs)(hlen:zs.length<1000000) :
 Cl 68 #[.slice a zs.length c] w (Bl (.bool (A7 zs)) w):=by
 obtain⟨hl,hc⟩:=h;have gi:Hq (∀ k,k<zs.length->∃ b off,a=some (Aw b off)/\b<w.heap.size/\w.cell? (Aw b (off+k))=some (Iv (at0 zs k))):=fun k hk=>by
  obtain⟨b,off,h1,h2⟩:=hc k hk;exact⟨b,off,h1,Af h2,h2⟩
 clear hc
 go_enter func68,ntmps68
 go_wp2
 go_loopw [3] (fun s3 wr=>∃ B:Nat,s3=Iv B/\B<=zs.length+63/\EW zs B/\Bw w wr/\w.heap.size<=wr.heap.size) (fun i _=>zs.length+64-(intOf i).toNat)
 case atStart=>exact⟨0,rfl,by omega,Si zs,VI _ _,Vu _⟩
 case round =>
  obtain⟨B,rfl,hB,hrel,g9,ga⟩:=hrel;have HR:=Hd hrel;clear hrel
  by_cases gn:B<zs.length
  ·go_wp2
   obtain⟨wo,rfl⟩:=Ex (wr:Wd)
   go_loopw [16] (fun i wi=>∃ k:Nat,k<=zs.length/\i=Iv k/\EX zs B k/\Marks wi wo.heap.size zs k B/\Bw w wi/\w.heap.size<=wi.heap.size) (fun i _=>zs.length-(intOf i).toNat)
   case atStart=>exact⟨0,by omega,rfl,Sj zs B,Sh _ _ _ _ rfl,g9.alloc ga _,by simp;omega⟩
   case round =>
    obtain⟨k,hk,rfl,gc,hm,g0,g2⟩:=hrel;have g4:=Hd gc;have HM:=Hd hm;clear gc hm
    by_cases g3:k<zs.length
    ·obtain⟨b,off,rfl,gh,ge⟩:=gi.o k g3;have gl:=(g0.cell (p:=(Aw b (off+k))) gh).trans ge;clear ge
     by_cases hx:0<=at0 zs k/\at0 zs k<zs.length
     ·obtain⟨g6,g5⟩:=hx
      by_cases g1:(B:Int)<=at0 zs k/\at0 zs k<(B:Int)+64
      ·obtain⟨gk,gj⟩:=g1;have g7:((at0 zs k).toNat-B)<64:=by omega
       have g8:at0 zs k=((B+((at0 zs k).toNat-B):Nat):Int):=by omega
       have gf:=HM.o.cell _ g7;have gr:=HM.o.frozen ((at0 zs k).toNat-B);rw[<- g8] at gf;have HU:=Hd g8
       generalize gd:metB zs k (at0 zs k)=mb at gf
       have gg:=Hd gd;clear gd g8;cases mb
       ·go_wp2
        go_roundw
        case rel=>exact⟨k+1,by omega,by go_num,IF g4.o g6 g5 (.inr gg.o),HM.o.step_in HU.o g7,g0.setCell ga _,by simp;omega⟩
        case measure=>simp[intOf];omega
       ·go_wp2
        go_ret;exact⟨BD (Sn g3 gg.o).symm,g0⟩
      ·have HW:=Hd g1
       by_cases go:at0 zs k<(B:Int)
       ·clear g1
        go_wp2
        go_roundw
        case rel=>exact⟨k+1,by omega,by go_num,IF g4.o g6 g5 (.inl HW.o),HM.o.step_out HW.o,g0,g2⟩
        case measure=>simp[intOf];omega
       ·have gp:(B:Int)+64<=at0 zs k:=by omega
        clear g1
        go_wp2
        go_roundw
        case rel=>exact⟨k+1,by omega,by go_num,IF g4.o g6 g5 (.inl HW.o),HM.o.step_out HW.o,g0,g2⟩
        case measure=>simp[intOf];omega
     ·have HX:=Hd hx
      by_cases gm:at0 zs k<0
      ·clear hx
       go_wp2
       go_ret;exact⟨BD (LS g3 HX.o).symm,g0⟩
      ·have gq:(zs.length:Int)<=at0 zs k:=by omega
       clear hx
       go_wp2
       go_ret;exact⟨BD (LS g3 HX.o).symm,g0⟩
    ·obtain rfl:k=zs.length:=by omega
     go_wp2
     go_roundw
     case rel=>exact⟨B+64,by go_num,by omega,Sk HR.o g4.o,g0,g2⟩
     case measure=>simp[intOf];omega
  ·go_wp2
   go_ret;exact⟨BD (Sl HR.o (by omega)).symm,g9⟩
theorem So {o:Oper}{wr:Wd}(hgd:o.guard=none)(d s:Operand)
 (ho:o.op=.call { callee:=.builtin .copy,args:=#[d,s],argTypes:=#[22,22] })
 (base g:Nat) (w0:Wd) (zs:List Int) (xs:List Value) (ao:Option Addr) (c:Nat) (hd:a.eval d=.slice (some (Av g)) zs.length zs.length) (hs:a.eval s=.slice ao zs.length c)
 (hown:wr.ownsRow base 3 1 (.slice (some (Av g)) zs.length zs.length) zs.length xs) (hzs:Ar wr ao zs) (hb:Below base w0 wr)
 (h:∀ v' w',OwnI w' base (.slice (some (Av g)) zs.length zs.length) zs->Below base w0 w'->base<=w'.heap.size->wpList prog ops Q rest (a.put o.dst v') w') :
 wpList prog ops Q (o::rest) a wr:=by
 obtain⟨g9,hx⟩:=hown;rcases hx with ⟨hv,_⟩|⟨g',cap,cur,hv,g2,hg,ga,g5,g1,g8⟩
 . cases hv
 ·simp only[XO,Wg,Addr.mk.injEq,and_true,true_and] at hv;obtain⟨rfl,rfl⟩:=hv;refine wpList_copy_splice (w:=wr) hgd d s 22 22 ho 3 underlying22 (by obtain⟨i,hi,_,g4,_⟩:=XC DK;rw[hi];simp[g4])
   _ _ _ _ _ _ hd hs g 0 cur.toList 3 (by simpa using hg) (Au zs) (by simp[Au]) ?_ (by simp[Au,g1]) (ints_oneCell .i64 zs) base w0 hb g2 ?_
  ·intro hp;rw[Gy] at hp;obtain⟨b,off,rfl,_⟩:=hzs.cells 0 hp;refine⟨rfl,_,rfl,fun j v hj=>?_⟩;have g0:j<zs.length:=by
    rcases VE j zs.length with h'|h'
    . exact h'
    . simp[Au,VN h'] at hj
   obtain⟨b',off',g7,hc⟩:=hzs.cells j g0;cases g7;simp[Au,getElem?_at0 g0] at hj;subst hj;have g3:((Aw b off):Addr).add j=(Aw b (off+j)):=by unfold Addr.add;split<;>simp_all
   rw[g3];exact hc
  ·intro w' hh g6;refine h _ w' ⟨by simp[Au],.inr ⟨g,_,(Au zs).toArray,rfl,g2,?_,Vu _,g5,by simp[Au],by simp[Au,Wv]⟩⟩ g6 ?_
   ·have:_=_:=hh;rw[this];have hl:cur.toList.length=zs.length:=by simp[g1]
    simp[splice,Au,List.drop_eq_nil_of_le,hl]
   . have h1:_=_:=hh;have:=(Vr.1 h1).1;omega
theorem LU (a:Option Addr)(c:Nat)(zs:List Int)(w:Wd)(h:Ar w a zs)(hlen:zs.length<1000000) :
 Cl 154 #[.slice a zs.length c] w fun e w'=>∃ g,e=.returned (.slice (some (Av g)) zs.length zs.length)/\OwnI w' w.heap.size (.slice (some (Av g)) zs.length zs.length) zs/\Bw w w':=by
 obtain⟨i,hi,hz,g3,g4⟩:=XC DK;have HI:=Hd h;clear h
 go_enter func154,ntmps154
 go_wp2_with (first
  | (at_make;refine wpList_make_full _ rfl _ _ 22 rfl w.heap.size 3 i (.int .i64 0) 1 underlying22 hi hz g3 .i64 .i64 _ _ zs.length rfl rfl rfl rfl (by rw[g4];omega) (by unfold maxLen;omega) (Vu _) ?_;intro w1 g1 g2)
  | (with_reducible refine So rfl (.tmp 7) (.tmp 8) rfl w.heap.size w.heap.size w zs _ a c rfl rfl (by exact g1) (HI.o.keep (Fh g2) (by simp)) ((VI _ _).grown g2 (Vu _) (by simp)) ?_;intro v2 w2 g0 g5 g6))
 go_ret;exact⟨_,rfl,g0,g5⟩
theorem Sp (a:Option Addr)(c:Nat)(zs:List Int)(x:Int)(w:Wd)(h:Ar w a zs) :
 Cl 76 #[.slice a zs.length c,Iv x] w fun e w'=>e=.returned (Iv (AZ zs x))/\∃ n,w'=w.drewN n:=by
 obtain⟨hl,hc⟩:=h;have HC:=Hd hc;clear hc
 go_enter func76,ntmps76
 go_wp2
 go_loop [8] (fun i=>∃ k:Nat,k<=zs.length/\i=Iv k/\∀ j,j<k->at0 zs j≠x) (fun i=>zs.length-(intOf i).toNat)
 case atStart=>exact⟨0,VC _,rfl,by omega⟩
 case round =>
  obtain⟨k,hk,rfl,hrel⟩:=hrel;have HR:=Hd hrel;clear hrel
  by_cases g0:k<zs.length
  ·obtain⟨b,off,rfl,g1⟩:=HC.o k g0
   by_cases hx:at0 zs k=x
   ·have H1:(x == at0 zs k)=true:=by simpa using hx.symm
    have HX:=Hd hx;clear hx
    go_wp2
    go_ret;exact⟨Gx (JD g0 HX.o HR.o).symm,0,rfl⟩
   ·have H1:(x == at0 zs k)=false:=by simpa using(fun e=>hx e.symm)
    go_wp2
    go_round
    case rel=>exact⟨k+1,by omega,by go_num,fun j hj=>by
     by_cases e:j=k
     . subst e;exact hx
     . exact HR.o j (by omega)⟩
    case measure=>simp[intOf];omega
  ·go_wp2
   go_ret;exact⟨Gx (NU (fun j hj=>HR.o j (by omega))).symm,0,rfl⟩
theorem OwnI.len {a:Option Addr}(h:OwnI w base (.slice a n c) zs):n=zs.length:=by
 rcases h.2 with ⟨hv,h0⟩|⟨g,cap,cur,hv,_⟩
 . simp only[XO] at hv;omega
 . simp only[XO] at hv;omega
theorem OwnI.intsAt {a:Option Addr}(h:OwnI w base (.slice a n c) zs)(hl:zs.length<=9223372036854775807):Ar w a zs:=by
 obtain rfl:=h.len;exact JB hl h
theorem Sq {a:Option Addr}{x:Int}(hn:n=zs.length)(h:Ar w a zs) :
 Cl 76 #[.slice a n c,Iv x] w fun e w'=>e=.returned (Iv (AZ zs x))/\∃ n,w'=w.drewN n:=by
 subst hn;exact Sp a c zs x w h
theorem LV (va vb:Value)(xs ys:List Int)(w:Wd)(h:SliceIs w va xs)(h':SliceIs w vb ys)(hlen:xs.length<=1000)(hlen':ys.length<=1000) :
 Cl 151 #[va,vb] w (IE xs ys w):=by
 obtain⟨a,c,rfl,ha,gT⟩:=h;obtain⟨b,c',rfl,hb,gS⟩:=h';have HA:=Hd ha;have HB:=Hd hb;clear ha hb gT gS
 by_cases hr:A7 xs=true
 ·by_cases g1:A7 ys=true
  ·by_cases hl:xs.length=ys.length
   ·have HE:Hq (Cj xs ys=0):=by unfold Cj;rw[Vw ⟨hr,g1⟩,Vw hl];rfl
    have HF:Hq (BQ xs ys=Ci xs ys 0):=by unfold BQ;rw[Vw ⟨hr,g1,hl⟩];rfl
    have HR:=Hd hr;have g8:=Hd g1;have H3:((xs.length:Int) != ys.length)=false:=by simp[hl]
    clear hr g1 hl
    go_enter func151,ntmps151
    go_wp2_with fail;refine(Db _ _ xs _ HA.o (by omega)).mono ?_;rintro e w1 ⟨rfl,g0⟩;rw[HR.o];go_wp2_with fail;refine(Db _ _ ys _ (HB.o.below g0) (by omega)).mono ?_;rintro e w2 ⟨rfl,g7⟩;rw[g8.o];have g4:Bw w w2:=g0.trans (g7.mono g0.size);go_wp2_with fail;refine(LU _ _ xs _ (HA.o.below g4) (by omega)).mono ?_;rintro e w3 ⟨g,rfl,gc,gm⟩;have ga:=g4.size;have hg:w2.heap.size<=g:=(gc.lt g rfl).1;have h5:Bw w w3:=g4.trans (gm.mono ga);have gN:w2.heap.size<=w3.heap.size:=gm.size;go_wp2_with fail
    go_loopw [6,30] (fun s6 s30 wr=>∃ (k:Nat) (cur out:List Int),k<=ys.length/\s30=Iv k/\OwnI wr w2.heap.size (.slice (some (Av g)) xs.length xs.length) cur/\cur.length=xs.length/\OwnI wr w2.heap.size s6 out/\s6.ownBlock≠some g/\out.length<=k*1000/\out++Ci cur (ys.drop k) k=Ci xs ys 0/\w2.heap.size<=wr.heap.size/\Bw w2 wr) (fun _ s30 _=>ys.length-(intOf s30).toNat)
    case atStart=>exact⟨0,xs,[],by omega,rfl,gc,rfl,Ey _ _,by simp[Value.ownBlock],by simp,by simp,gN,gm⟩
    case round =>
     obtain⟨k,cur,out,hk,rfl,gk,gx,gf,gu,hf,gr,gM,g9⟩:=hrel;have gB:=Hd gr;have gn:=Hd gx;have h1:=Hd gu;have h7:cur.length<=1000:=by omega
     clear gr gx gu;have h3:=Hd (HB.o.below (g4.trans (g9.mono ga)))
     by_cases gv:k<ys.length
     ·obtain⟨bb,off,rfl,h4⟩:=h3.o.cells k gv;have h2:=Hd (JF cur ys k gv);have HCI:=Hd (gk.intsAt (by omega));go_wp2_with fail;refine(Sq gn.o.symm (HCI.o.drewN 0)).mono ?_;rintro e w' ⟨rfl,n,rfl⟩;have gt:=NX cur (at0 ys k);have hp2:=NY cur (at0 ys k);have gG:=Hd (Sb cur (at0 ys k) k)
      generalize AZ cur (at0 ys k)=p at gt hp2 gG ⊢
      go_wp2_with fail;have gQ:p<xs.length\/p<=0:=by have:=gn.o;omega
      obtain⟨N,F,HN⟩:∃ (N F:List Int),Hq (N=(bub cur k (p-k).toNat).1/\F=out++(bub cur k (p-k).toNat).2):=⟨_,_,rfl,rfl⟩
      go_loopw [6,10] (fun s6 s10 wi=>∃ (d:Nat) (c1 o1:List Int) (q:Int),s10=Iv q/\-1<=q/\q<=1000/\(q<xs.length\/q<=0)/\(q<=k->d=0)/\(k<q->q=k+d)/\OwnI wi w2.heap.size (.slice (some (Av g)) xs.length xs.length) c1/\c1.length=xs.length/\OwnI wi w2.heap.size s6 o1/\s6.ownBlock≠some g/\o1.length+d<=(k+1)*1000/\N=(bub c1 k d).1/\F=o1++(bub c1 k d).2/\w2.heap.size<=wi.heap.size/\Bw w2 wi) (fun _ s10 _=>(intOf s10+1).toNat)
      case atStart=>exact⟨(p-k).toNat,cur,out,p,rfl,gt,by omega,gQ,by omega,by omega,gk.drewN n,gn.o,gf.drewN n,h1.o,by omega,HN.o.1,HN.o.2,gM,Cg g9 n⟩
      case round =>
       obtain⟨d,c1,o1,q,rfl,he,hd,gP,gj,gw,g3,gl,g6,gg,h6,hN,hF,ge,gd⟩:=hrel;have gD:=Hd hN;have gF:=Hd hF;have go:=Hd gl;have g5:=Hd gg;have h8:c1.length<=1000:=by omega
       clear hN hF gl gg
       by_cases hc:(k:Int)<q
       ·obtain⟨d,rfl⟩:∃ l,d=l+1:=⟨d-1,by omega⟩;have gO:q=(k:Int)+d+1:=by omega
        subst gO;have gU:k+d+1<xs.length:=by omega
        have gJ:k+d+1<c1.length:=by rw[go.o];exact gU
        clear gj gw gP;have h9:IntKind.i64.wrap ((k:Int)+d+1-1)=((k+d:Nat):Int):=by rw[Xf _ (by omega)];omega
        have q0:=g3.cell (k+d) (by omega);have q1:=g3.cell (k+d+1) (by omega);have p0:=g3.frozen (k+d);have p1:=g3.frozen (k+d+1);have t0:((k:Int)+d).toNat=k+d:=by omega
        have t1:((k:Int)+d+1).toNat=k+d+1:=by omega
        go_wp2_with fail
        go_region
        have gZ:=Hd (Fj (zs:=c1) (k:=k+d) gJ);have gX:=((g3.stored (k+d) (at0 c1 (k+d+1))).stored (k+d+1) (at0 c1 (k+d))).drewN 1;have gR:=((g6.setCell_other (a:=(Aw g (k+d))) g5.o (Iv (at0 c1 (k+d+1)))).setCell_other (a:=(Aw g (k+d+1))) g5.o (Iv (at0 c1 (k+d)))).drewN 1;have gY:=Cg ((gd.setCell (p:=(Aw g (k+d))) hg (Iv (at0 c1 (k+d+1)))).setCell (p:=(Aw g (k+d+1))) hg (Iv (at0 c1 (k+d)))) 1;have gV:=(g3.lt g rfl).2;go_wp2_with (at_builtin;go_loud (refine CO _ rfl _ _ rfl w2.heap.size w2 _ o1 _ rfl rfl (by rfl) (by simp) gR (by omega) (by simpa using ge) gY ?_);intro v2 w4 gp gq gH gh);have gy:=gX.keep gh.keep (fun x hx gL=>by cases hx;exact g5.o gL.symm);rw[<- gZ.o] at gy;have gI:=gh.ne g5.o (by simpa using gV);go_roundw
        case rel=>exact⟨d,AC c1 ((k+d:Nat):Int),o1++[((k+d:Nat):Int)],((k+d:Nat):Int),by go_num,by omega,by omega,by omega,by omega,by omega,gy,by rw[Dy];exact go.o,gp,gI,by simp;omega,gD.o,by rw[gF.o,Sc];simp,gH,gq⟩
        case measure=>simp[intOf];omega
       ·obtain rfl:=gj (by omega);have h0:=Hd g6;have gz:N=c1:=gD.o;have gA:F=o1:=by rw[gF.o];simp[bub]
        have gC:=Hd gz;have gE:=Hd gA;clear gz gA gj gw g6
        go_wp2
        go_roundw
        case rel=>exact⟨k+1,N,F,by omega,by go_num,by rw[gC.o];exact g3,by rw[gC.o];exact go.o,by rw[gE.o];exact h0.o,g5.o,by rw[gE.o];omega,by
         rw[HN.o.1,HN.o.2,<- gB.o,h2.o,gG.o];simp,ge,gd⟩
        case measure=>simp[intOf];omega
     ·obtain rfl:k=ys.length:=by omega
      have gi:Ci xs ys 0=out:=by rw[<- gB.o];simp[Ci]
      have gK:=Hd gi;clear gi
      go_wp2
      go_ret2
      exact Gd HE.o (HF.o.trans gK.o) (gf.lower ga) (g4.trans (g9.mono ga))
   ·have HE:Hq (Cj xs ys=3):=by unfold Cj;rw[Vw ⟨hr,g1⟩,Vs hl];rfl
    have HF:Hq (BQ xs ys=[]):=by unfold BQ;rw[Vs (fun hh=>hl hh.2.2)];rfl
    have HR:=Hd hr;have g8:=Hd g1;have H3:((xs.length:Int) != ys.length)=true:=by simp;omega
    clear hr g1 hl
    go_enter func151,ntmps151
    go_wp2_with fail;refine(Db _ _ xs _ HA.o (by omega)).mono ?_;rintro e w1 ⟨rfl,g0⟩;rw[HR.o];go_wp2_with fail;refine(Db _ _ ys _ (HB.o.below g0) (by omega)).mono ?_;rintro e w2 ⟨rfl,g7⟩;rw[g8.o];go_wp2_with fail
    go_ret2
    exact Gd HE.o HF.o (Ey _ _) (g0.trans (g7.mono g0.size))
  ·have HE:Hq (Cj xs ys=1):=by unfold Cj;rw[Vs (fun hh=>g1 hh.2)];rfl
   have HF:Hq (BQ xs ys=[]):=by unfold BQ;rw[Vs (fun hh=>g1 hh.2.1)];rfl
   have g2:A7 ys=false:=by simpa using g1
   have HR:=Hd hr;have g8:=Hd g2;clear hr g1 g2
   go_enter func151,ntmps151
   go_wp2_with fail;refine(Db _ _ xs _ HA.o (by omega)).mono ?_;rintro e w1 ⟨rfl,g0⟩;rw[HR.o];go_wp2_with fail;refine(Db _ _ ys _ (HB.o.below g0) (by omega)).mono ?_;rintro e w2 ⟨rfl,g7⟩;rw[g8.o];go_wp2_with fail
   go_ret2
   exact Gd HE.o HF.o (Ey _ _) (g0.trans (g7.mono g0.size))
 ·have HE:Hq (Cj xs ys=1):=by unfold Cj;rw[Vs (fun hh=>hr hh.1)];rfl
  have HF:Hq (BQ xs ys=[]):=by unfold BQ;rw[Vs (fun hh=>hr hh.1)];rfl
  have g2:A7 xs=false:=by simpa using hr
  have HR:=Hd g2;clear hr g2
  go_enter func151,ntmps151
  go_wp2_with fail;refine(Db _ _ xs _ HA.o (by omega)).mono ?_;rintro e w1 ⟨rfl,g0⟩;rw[HR.o];go_wp2_with fail
  go_ret2
  exact Gd HE.o HF.o (Ey _ _) g0
end Go.Proofs.YtkidaindpahefaaGreat
namespace Go.Proofs
open Go.Proofs.Tryz
open Go.Shelf
def Tryz.lays112_ren:Go.Shelf.Ren:=⟨fun|112=>155|n=>n,fun|28=>22|3=>3|4=>4|0=>0|n=>n,fun|n=>n⟩
theorem Tryz.lays112:Go.Proofs.Lays.n112 prog Tryz.lays112_ren:={
 mixed:=by kernel_rfl
 f112:=func155.trans (congrArg some (by kernel_rfl))
 t0:=underlying0
 a0:=Tryz.isAgg0
 z0:=Tryz.sizeOf0
 v0:=zeroValue0
 t3:=underlying3
 a3:=Tryz.isAgg3
 z3:=Tryz.sizeOf3
 v3:=zeroValue3
 t4:=underlying4
 a4:=Tryz.isAgg4
 z4:=Tryz.sizeOf4
 v4:=zeroValue4
 t28:=underlying22
 a28:=Tryz.isAgg22
 z28:=Tryz.sizeOf22
 v28:=zeroValue22 }
theorem Tryz.slices_Reverse_int_cells (b off n c:Nat)(zs:List Int)(w:World)(hz:n<=zs.length)(hbig:n<=9223372036854775807)(hc:∀ j,j<zs.length->w.cell? ⟨b,off+j,none⟩=some (.int .i64 (zs.getD j 0)))(hf:∀ j,j<n->w.frozen? ⟨b,off+j,none⟩=false) :
 Calls prog 155 #[.slice (some ⟨b,off,none⟩) n c] w fun e w'=>e=.returned (.tuple #[])/\∃ q,w'=(w.drewN q).setCells b off ((zs.take n).reverse.map (Value.int .i64)):=Any.slices_Reverse_int_cells Tryz.lays112 b off n c zs w hz hbig hc hf
end Go.Proofs
namespace Go.Proofs.YtkidaindpahefaaGreat
open Go.Proofs.Tryz
open Go.RowKit
variable {g:Nat}
theorem Sr {B:Nat}{a:Wd}(hg:B<=g)(ys:List Value):∀ (w:Wd) (o:Nat),Below B a w->Below B a (w.setCells g o ys):=by
 induction ys with
 | nil=>intro w o h;exact h
 | cons y ys ih=>intro w o h;exact ih _ _ (h.setCell hg _)
theorem OwnI.setCells {base g n c:Nat}(ys:List Int):∀ (w:Wd) (o:Nat) (zs:List Int),OwnI w base (.slice (some (Av g)) n c) zs->o+ys.length<=zs.length ->
 OwnI (w.setCells g o (Au ys)) base (.slice (some (Av g)) n c) (zs.take o++ys++zs.drop (o+ys.length)):=by
 induction ys with
 | nil=>intro w o zs h _;simpa [Au,World.setCells] using h
 | cons y ys ih =>
   intro w o zs h hl;simp only[VO] at hl;have h1:=ih (w.setCell (Aw g o) (Iv y)) (o+1) (zs.set o y) (h.stored o y) (by simp;omega);have e:(zs.set o y).take (o+1)++ys++(zs.set o y).drop (o+1+ys.length)=zs.take o++(y::ys)++zs.drop (o+(y::ys).length):=by
    have e1:(zs.set o y).take (o+1)=zs.take o++[y]:=by
     rw[List.set_eq_take_append_cons_drop,Vw (by omega),List.take_append];simp;have:min o zs.length=o:=by omega
     rw[this];simp
     exact Wv (by simp;omega)
    have e2:(zs.set o y).drop (o+1+ys.length)=zs.drop (o+1+ys.length):=by
     rw[List.drop_set];rw[Vw (by omega)]
    rw[e1,e2];simp[XD,Nat.add_comm 1 ys.length]
   rw[e] at h1;exact h1
theorem Ss (a:Option Addr)(c:Nat)(zs:List Int)(w:Wd)(h:Ar w a zs)(hlen:zs.length<1000000) :
 Cl 104 #[.slice a zs.length c] w fun e w'=>∃ v,e=.returned v/\SliceIs w' v zs.reverse/\Bw w w':=by
 have HI:=Hd h;clear h
 go_enter func104,ntmps104
 go_wp2_with fail;refine(LU _ _ zs _ HI.o hlen).mono ?_;rintro e w1 ⟨g,rfl,g0,g3⟩;have hg:w.heap.size<=g:=(g0.lt g rfl).1;go_wp2_with fail;refine(Tryz.slices_Reverse_int_cells g 0 zs.length zs.length zs w1 (Vu _) (by omega) (fun j hj=>by rw[VW];exact g0.cell j hj) (fun j hj=>by rw[VW];exact g0.frozen j)).mono ?_;rintro e w2 ⟨rfl,q,g1⟩;have h2:=OwnI.setCells zs.reverse (w1.drewN q) 0 zs (g0.drewN q) (by simp);have e:zs.drop (0+zs.reverse.length)=[]:=Wu (by simp);rw[e,List.take_zero,Ws,WU] at h2;have g2:Bw w ((w1.drewN q).setCells g 0 (Au zs.reverse)):=Sr hg _ _ _ (Cg g3 _);rw[Wb] at g1
 change w2=(w1.drewN q).setCells g 0 (Au zs.reverse) at g1
 rw[<- g1] at h2 g2;clear g1;go_wp2_with fail;go_ret;exact⟨_,rfl,h2.sliceIs (by simp;omega),g2⟩
end Go.Proofs.YtkidaindpahefaaGreat
