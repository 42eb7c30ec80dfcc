/- Several texts in one file: contracts of the program's functions and what follows from them. -/
import Derived.Test.YtkidaindpahefaaGreatD4
import Derived.Shelf.SlSortCmp.NoneTotal
import Derived.Sort.CutIn
import Derived.Shelf.Slices.Reverse
import Derived.Ground.Names2Prog
import Derived.Shelf.Slices.Cells
import Derived.Shelf.Slices.Empties
set_option linter.unusedSimpArgs false
set_option linter.unusedVariables false
set_option linter.unusedSectionVars false
set_option linter.unnecessarySimpa false
set_option maxRecDepth 100000
set_option maxHeartbeats 8000000
namespace Go.Proofs.YtkidaindpahefaaGreat
open Go.Proofs.Tryz
section
variable {n:Nat}{lev:Nat->Nat}{N0:Nat->Option BN}{V0:Nat->BF}{x y:Nat}
def Zfi (lev:Nat->Nat)(x y:Nat):Nat->Nat:=fun v=>if v=x then lev y else if v=y then lev x else lev v
def isV (N:Nat->Option BN)(y e:Nat):Prop:=∃ c,N (e/2)=some c/\c.v=y
def Turns (N:Nat->Option BN)(x y:Nat)(i:Nat):Prop:=∃ b,N i=some b/\b.v=x/\(isV N y b.lo\/isV N y b.hi)
def lowE (n:Nat)(lev:Nat->Nat)(N:Nat->Option BN)(y e:Nat):Prop:=okE N e/\lev y<lvE n lev N e
def midE (n:Nat)(lev:Nat->Nat)(N0 N:Nat->Option BN)(x y e:Nat):Prop:=lowE n lev N0 y e\/∃ c,N (e/2)=some c/\c.v=x/\¬ Turns N0 x y (e/2)
structure Ze7 (n:Nat)(lev:Nat->Nat)(N0:Nat->Option BN)(V0:Nat->BF)(x y:Nat)(done:Nat->Prop)(N:Nat->Option BN)(V:Nat->BF):Prop where
 n0:N 0=none
 ext:∀ i,(i=0\/∃ b,N0 i=some b)->V i=V0 i
 keep:∀ i b,N0 i=some b->¬ done i->N i=some b
 fresh:∀ i b,N i=some b->N0 i=none->b.v=x/\lowE n lev N0 y b.lo/\lowE n lev N0 y b.hi/\b.hi%2=0/\b.lo≠b.hi/\V i=iteF x (ef V0 b.hi) (ef V0 b.lo)
 dn:∀ i,done i->Turns N0 x y i/\∃ b,N i=some b/\b.v=y/\midE n lev N0 N x y b.lo/\midE n lev N0 N x y b.hi/\b.hi%2=0/\b.lo≠b.hi/\V0 i=iteF y (ef V b.hi) (ef V b.lo)
 xu:∀ i j b,N i=some b->N j=some b->b.v=x->¬ Turns N0 x y i->¬ Turns N0 x y j->i=j
theorem Zga {V:Nat->BF}(hext:∀ i,(i=0\/∃ b,N0 i=some b)->V i=V0 i){e:Nat}(h:okE N0 e):ef V e=ef V0 e:=by
 funext ρ;simp only[ef,hext _ h]
theorem Ze7.start (h:Dag n lev N0 V0)(x y:Nat):Ze7 n lev N0 V0 x y (fun _=>False) N0 V0 :=
 ⟨h.none0,fun _ _=>rfl,fun _ _ h _=>h,fun i b hb hn=>by (rw[hn] at hb;cases hb),fun _ h=>h.elim,fun i j b hi hj _ _ _=>h.uniq i j b hi hj⟩
variable {done:Nat->Prop}{N:Nat->Option BN}{V:Nat->BF}
theorem Ze7.has (m:Ze7 n lev N0 V0 x y done N V){i:Nat}{b:BN}(hb:N0 i=some b):∃ b',N i=some b':=by
 by_cases hd:done i
 . obtain⟨_,b',g0,_⟩:=m.dn i hd;exact⟨b',g0⟩
 . exact⟨b,m.keep i b hb hd⟩
theorem Ze7.add (m:Ze7 n lev N0 V0 x y done N V){id:Nat}{b:BN}(hf:N id=none)(hid:id≠0)(hv:b.v=x)
 (hlo:lowE n lev N0 y b.lo) (hhi:lowE n lev N0 y b.hi) (hr:b.hi%2=0) (hne:b.lo≠b.hi) (hnew:∀ i,¬ Turns N0 x y i->N i≠some b) :
 Ze7 n lev N0 V0 x y done (addN N id b) (addV V id b):=by
 have g8:N0 id=none:=by
  cases e:N0 id with
  | none=>rfl
  | some c=>obtain⟨b',g6⟩:=m.has e;rw[hf] at g6;cases g6
 have ne0:∀ i,(i=0\/∃ b,N0 i=some b)->i≠id:=by
  rintro i (rfl|⟨c,hc⟩)
  . exact Ne.symm hid
  . rintro rfl;rw[g8] at hc;cases hc
 have cs:∀ i c,addN N id b i=some c->(i=id/\c=b)\/(i≠id/\N i=some c):=by
  intro i c hx
  by_cases e:i=id
  . subst e;rw[Zbs] at hx;exact .inl ⟨rfl,(Option.some.inj hx).symm⟩
  . rw[Za2 _ e] at hx;exact .inr ⟨e,hx⟩
 have g3:∀ i,(i=0\/∃ b,N0 i=some b)->addV V id b i=V0 i:=fun i hi=>by
  simp only[addV,if_neg (ne0 i hi)];exact m.ext i hi
 refine⟨by rw[Za2 _ (Ne.symm hid)];exact m.n0,g3,?_,?_,?_,?_⟩
 . intro i c hc hd;rw[Za2 _ (ne0 i (.inr ⟨c,hc⟩))];exact m.keep i c hc hd
 ·intro i c hc hn;rcases cs i c hc with ⟨e1,e2⟩|⟨g0,gd⟩
  ·subst e1;subst e2
   exact⟨hv,hlo,hhi,hr,hne,by simp only[addV,if_true,hv,Zga m.ext hlo.1,Zga m.ext hhi.1]⟩
  . obtain⟨h1,h2,h3,h4,h5,h6⟩:=m.fresh i c gd hn;exact⟨h1,h2,h3,h4,h5,by simp only[addV,if_neg g0];exact h6⟩
 ·intro i hd;obtain⟨hT,c,hc,h1,h2,h3,h4,h5,h6⟩:=m.dn i hd;have g1:∀ e,midE n lev N0 N x y e->midE n lev N0 (addN N id b) x y e/\ef (addV V id b) e=ef V e:=by
   rintro e (hl|⟨d,g4,ga,g9⟩)
   . exact⟨.inl hl,by rw[Zga g3 hl.1,Zga m.ext hl.1]⟩
   ·have g0:e/2≠id:=by rintro e';rw[e',hf] at g4;cases g4
    refine⟨.inr ⟨d,by rw[Za2 _ g0];exact g4,ga,g9⟩,?_⟩;funext ρ;simp only[ef,addV,if_neg g0]
  have g7:i≠id:=ne0 i (.inr (by obtain⟨q,hq,_⟩:=hT;exact⟨q,hq⟩));exact⟨hT,c,by rw[Za2 _ g7];exact hc,h1,(g1 _ h2).1,(g1 _ h3).1,h4,h5,by rw[(g1 _ h2).2,(g1 _ h3).2];exact h6⟩
 ·intro i j c hi hj gc ti tj;rcases cs i c hi with ⟨e1,e2⟩|⟨_,g5⟩
  ·rcases cs j c hj with ⟨e3,_⟩|⟨_,g2⟩
   . rw[e1,e3]
   . subst e2;exact absurd g2 (hnew j tj)
  ·rcases cs j c hj with ⟨_,e2⟩|⟨_,g2⟩
   . subst e2;exact absurd g5 (hnew i ti)
   . exact m.xu i j c g5 g2 gc ti tj
def setN (N:Nat->Option BN)(i:Nat)(b:BN):Nat->Option BN:=fun j=>if j=i then some b else N j
theorem Ze7.turn (m:Ze7 n lev N0 V0 x y done N V)(hxy:x≠y){i lo hi:Nat}(hT:Turns N0 x y i)(hlo:midE n lev N0 N x y lo)(hhi:midE n lev N0 N x y hi)(hr:hi%2=0)(hne:lo≠hi)
 (hV:V0 i=iteF y (ef V hi) (ef V lo)):Ze7 n lev N0 V0 x y (fun j=>done j\/j=i) (setN N i ⟨y,lo,hi⟩) V:=by
 obtain⟨b0,g3,gf,ge⟩:=hT;have hT:Turns N0 x y i:=⟨b0,g3,gf,ge⟩;have g9:i≠0:=by
  rintro rfl;obtain⟨b',g4⟩:=m.has g3;rw[m.n0] at g4;cases g4
 have cs:∀ j c,setN N i ⟨y,lo,hi⟩ j=some c->(j=i/\c=⟨y,lo,hi⟩)\/(j≠i/\N j=some c):=by
  intro j c hx
  by_cases e:j=i
  . subst e;simp only[setN,if_true,Option.some.injEq] at hx;exact .inl ⟨rfl,hx.symm⟩
  . simp only[setN,if_neg e] at hx;exact .inr ⟨e,hx⟩
 have g0:∀ e,midE n lev N0 N x y e->midE n lev N0 (setN N i ⟨y,lo,hi⟩) x y e:=by
  rintro e (hl|⟨d,gc,ga,g1⟩)
  . exact .inl hl
  ·have g5:e/2≠i:=by rintro e';rw[e'] at g1;exact g1 hT
   exact .inr ⟨d,by simp only[setN,if_neg g5];exact gc,ga,g1⟩
 refine⟨by simp only[setN,if_neg (Ne.symm g9)];exact m.n0,m.ext,?_,?_,?_,?_⟩
 ·intro j c hc hd;have g7:j≠i:=fun e=>hd (.inr e)
  simp only[setN,if_neg g7];exact m.keep j c hc (fun h=>hd (.inl h))
 ·intro j c hc hn;rcases cs j c hc with ⟨e1,_⟩|⟨_,gd⟩
  . subst e1;rw[g3] at hn;cases hn
  . exact m.fresh j c gd hn
 ·intro j hd
  by_cases e:j=i
  . subst e;exact⟨hT,⟨y,lo,hi⟩,by simp only[setN,if_true],rfl,g0 _ hlo,g0 _ hhi,hr,hne,hV⟩
  . obtain⟨gg,c,hc,h1,h2,h3,h4,h5,h6⟩:=m.dn j (hd.resolve_right e);exact⟨gg,c,by simp only[setN,if_neg e];exact hc,h1,g0 _ h2,g0 _ h3,h4,h5,h6⟩
 ·intro j k c hj hk g2 tj tk;rcases cs j c hj with ⟨e1,e2⟩|⟨_,g8⟩
  . subst e2;exact absurd g2.symm hxy
  ·rcases cs k c hk with ⟨e1,e2⟩|⟨_,g6⟩
   . subst e2;exact absurd g2.symm hxy
   . exact m.xu j k c g8 g6 g2 tj tk
theorem Zhv (lev:Nat->Nat)(x y:Nat):Zfi lev x y x=lev y:=by simp[Zfi]
theorem Zhw (lev:Nat->Nat){x y:Nat}(h:x≠y):Zfi lev x y y=lev x:=by simp[Zfi,Ne.symm h]
theorem Zli (lev:Nat->Nat){x y v:Nat}(hx:v≠x)(hy:v≠y):Zfi lev x y v=lev v:=by simp[Zfi,hx,hy]
theorem Zxi {e:Nat}(hxl:lev x<lev y)(hl:lowE n lev N0 y e){c:BN}(hc:N0 (e/2)=some c):c.v≠x/\c.v≠y:=by
 have:=hl.2;simp only[lvE,hc] at this;exact⟨by rintro e;rw[e] at this;omega,by rintro e;rw[e] at this;omega⟩
theorem Ze7.final (h:Dag n lev N0 V0)(hx:x<n)(hy:y<n)(hl:lev y=lev x+1)(m:Ze7 n lev N0 V0 x y done N V)(hall:∀ i,Turns N0 x y i->done i):Dag n (Zfi lev x y) N V:=by
 have g5:x≠y:=by rintro rfl;omega
 have gk:lev x<lev y:=by omega
 have kinds:∀ i b,N i=some b->(N0 i=none/\b.v=x/\lowE n lev N0 y b.lo/\lowE n lev N0 y b.hi/\b.hi%2=0/\b.lo≠b.hi/\V i=iteF x (ef V0 b.hi) (ef V0 b.lo)) \/
  (Turns N0 x y i/\b.v=y/\midE n lev N0 N x y b.lo/\midE n lev N0 N x y b.hi/\b.hi%2=0/\b.lo≠b.hi/\V0 i=iteF y (ef V b.hi) (ef V b.lo)) \/
  (N0 i=some b/\¬ Turns N0 x y i):=by
  intro i b hb;cases e:N0 i with
  | none=>exact .inl ⟨rfl,m.fresh i b hb e⟩
  | some c =>
    right
    by_cases hd:done i
    . obtain⟨hT,b',g4,rest⟩:=m.dn i hd;obtain rfl:b'=b:=Option.some.inj (g4.symm.trans hb);exact .inl ⟨hT,rest⟩
    . have:=m.keep i c e hd;obtain rfl:c=b:=Option.some.inj (this.symm.trans hb);exact .inr ⟨rfl,fun hT=>hd (hall i hT)⟩
 have low:∀ e,lowE n lev N0 y e->okE N e/\lvE n (Zfi lev x y) N e=lvE n lev N0 e/\ef V e=ef V0 e:=by
  intro e he;refine⟨?_,?_,Zga m.ext he.1⟩
  ·rcases he.1 with h0|⟨c,hc⟩
   . exact .inl h0
   . obtain⟨b',g4⟩:=m.has hc;exact .inr ⟨b',g4⟩
  ·rcases he.1 with h0|⟨c,hc⟩
   . simp only[lvE,h0,m.n0,h.none0]
   ·have gf:=Zxi gk he hc;have gj:¬ done (e/2):=fun hd=>by
     obtain⟨⟨q,hq,gc,_⟩,_⟩:=m.dn _ hd;rw[hc] at hq;cases hq;exact gf.1 gc
    simp only[lvE,m.keep _ _ hc gj,hc,Zli lev gf.1 gf.2]
 have mid:∀ e,midE n lev N0 N x y e->okE N e/\lev x<lvE n (Zfi lev x y) N e:=by
  rintro e (he|⟨c,hc,g9,_⟩)
  . obtain⟨h1,h2,_⟩:=low e he;exact⟨h1,by rw[h2];have:=he.2;omega⟩
  . exact⟨.inr ⟨c,hc⟩,by simp only[lvE,hc,g9,Zhv];omega⟩
 have old:∀ i b e,N0 i=some b->¬ Turns N0 x y i->(e=b.lo\/e=b.hi)->okE N e/\Zfi lev x y b.v<lvE n (Zfi lev x y) N e/\ef V e=ef V0 e:=by
  intro i b e hb g0 he;have ho:okE N0 e:=by rcases he with rfl|rfl;exact h.okLo _ _ hb;exact h.okHi _ _ hb
  have g1:lev b.v<lvE n lev N0 e:=by rcases he with rfl|rfl;exact h.lvLo _ _ hb;exact h.lvHi _ _ hb
  have gi:b.v=x->¬ isV N0 y e:=fun g8 gh=>g0 ⟨b,hb,g8,by rcases he with rfl|rfl;exact .inl gh;exact .inr gh⟩
  refine⟨?_,?_,Zga m.ext ho⟩
  ·rcases ho with h0|⟨c,hc⟩
   . exact .inl h0
   . obtain⟨b',g4⟩:=m.has hc;exact .inr ⟨b',g4⟩
  ·by_cases g8:b.v=x
   ·have g7:lowE n lev N0 y e:=by
     refine⟨ho,?_⟩;rw[g8] at g1;rcases ho with h0|⟨c,hc⟩
     . simp only[lvE,h0,h.none0] at g1 ⊢;exact h.lt y hy
     ·simp only[lvE,hc] at g1 ⊢;have:c.v≠y:=fun e'=>gi g8 ⟨c,hc,e'⟩
      have h2:lev c.v≠lev y:=fun e'=>this (h.inj _ _ (h.var _ _ hc) hy e')
      omega
    rw[(low e g7).2.1,g8,Zhv];exact g7.2
   ·by_cases gg:b.v=y
    . have g7:lowE n lev N0 y e:=⟨ho,by rw[gg] at g1;exact g1⟩;rw[(low e g7).2.1,gg,Zhw lev g5];have:=g7.2;omega
    ·rw[Zli lev g8 gg];rcases ho with h0|⟨c,hc⟩
     . simp only[lvE,h0,m.n0];exact h.lt _ (h.var _ _ hb)
     ·simp only[lvE,hc] at g1;have gl:=h.var _ _ hc
      by_cases hd:done (e/2)
      ·obtain⟨⟨q,hq,gc,_⟩,b',g4,hb'y,_⟩:=m.dn _ hd;rw[hc] at hq;cases hq
       simp only[lvE,g4,hb'y,Zhw lev g5];rw[gc] at g1;exact g1
      ·simp only[lvE,m.keep _ _ hc hd]
       by_cases g9:c.v=x
       . rw[g9,Zhv];rw[g9] at g1;omega
       ·by_cases ge:c.v=y
        ·rw[ge,Zhw lev g5];rw[ge] at g1;have h2:lev b.v≠lev x:=fun e'=>g8 (h.inj _ _ (h.var _ _ hb) hx e')
         omega
        . rw[Zli lev g9 ge];exact g1
 refine⟨fun ρ=>by rw[m.ext 0 (.inl rfl)];exact h.one ρ,m.n0,?_,?_,?_,?_,?_,?_,?_,?_,?_,?_,?_⟩
 ·intro i b hb;rcases kinds i b hb with ⟨_,hv,_⟩|⟨_,hv,_⟩|⟨h0,_⟩
  . rw[hv];exact hx
  . rw[hv];exact hy
  . exact h.var _ _ h0
 ·intro u v hu hv he;have hs:∀ u,u<n->Zfi lev x y u=lev (if u=x then y else if u=y then x else u):=by
   intro u _;simp only[Zfi];(split;· rfl);split<;>rfl
  have hb:∀ u,u<n->(if u=x then y else if u=y then x else u)<n:=by
   intro u hu;(split;· exact hy);(split;· exact hx);exact hu
  rw[hs u hu,hs v hv] at he;have:=h.inj _ _ (hb u hu) (hb v hv) he
  by_cases a:u=x
  ·rw[if_pos a] at this
   by_cases b:v=x
   . rw[a,b]
   ·rw[if_neg b] at this
    by_cases c:v=y
    . rw[if_pos c] at this;exact absurd this.symm g5
    . rw[if_neg c] at this;exact absurd this.symm c
  ·rw[if_neg a] at this
   by_cases b:v=x
   ·rw[if_pos b] at this
    by_cases c:u=y
    . rw[if_pos c] at this;exact absurd this g5
    . rw[if_neg c] at this;exact absurd this c
   ·rw[if_neg b] at this
    by_cases c:u=y
    ·rw[if_pos c] at this
     by_cases d:v=y
     . rw[c,d]
     . rw[if_neg d] at this;exact absurd this.symm b
    ·rw[if_neg c] at this
     by_cases d:v=y
     . rw[if_pos d] at this;exact absurd this a
     . rw[if_neg d] at this;exact this
 ·intro v hv;simp only[Zfi];split
  . exact h.lt y hy
  ·split
   . exact h.lt x hx
   . exact h.lt v hv
 ·intro i b hb;rcases kinds i b hb with ⟨_,_,g2,_⟩|⟨_,_,g2,_⟩|⟨h0,g0⟩
  . exact(low _ g2).1
  . exact(mid _ g2).1
  . exact(old i b b.lo h0 g0 (.inl rfl)).1
 ·intro i b hb;rcases kinds i b hb with ⟨_,_,_,g3,_⟩|⟨_,_,_,g3,_⟩|⟨h0,g0⟩
  . exact(low _ g3).1
  . exact(mid _ g3).1
  . exact(old i b b.hi h0 g0 (.inr rfl)).1
 ·intro i b hb;rcases kinds i b hb with ⟨_,hv,g2,_⟩|⟨_,hv,g2,_⟩|⟨h0,g0⟩
  . rw[hv,Zhv,(low _ g2).2.1];exact g2.2
  . rw[hv,Zhw lev g5];exact(mid _ g2).2
  . exact(old i b b.lo h0 g0 (.inl rfl)).2.1
 ·intro i b hb;rcases kinds i b hb with ⟨_,hv,_,g3,_⟩|⟨_,hv,_,g3,_⟩|⟨h0,g0⟩
  . rw[hv,Zhv,(low _ g3).2.1];exact g3.2
  . rw[hv,Zhw lev g5];exact(mid _ g3).2
  . exact(old i b b.hi h0 g0 (.inr rfl)).2.1
 ·intro i b hb;rcases kinds i b hb with ⟨_,_,_,_,hr,_⟩|⟨_,_,_,_,hr,_⟩|⟨h0,_⟩
  . exact hr
  . exact hr
  . exact h.reg _ _ h0
 ·intro i b hb;rcases kinds i b hb with ⟨_,_,_,_,_,gd,_⟩|⟨_,_,_,_,_,gd,_⟩|⟨h0,_⟩
  . exact gd
  . exact gd
  . exact h.ne _ _ h0
 ·intro i j b hi hj;have yFn:∀ i,N i=some b->b.v=y->(∃ c,N0 i=some c)/\V0 i=iteF y (ef V b.hi) (ef V b.lo):=by
   intro i hi hv;rcases kinds i b hi with ⟨_,g6,_⟩|⟨⟨q,hq,_⟩,_,_,_,_,_,hV⟩|⟨h0,g0⟩
   . rw[hv] at g6;exact absurd g6.symm g5
   . exact⟨⟨q,hq⟩,hV⟩
   . refine⟨⟨b,h0⟩,?_⟩;rw[(old i b b.lo h0 g0 (.inl rfl)).2.2,(old i b b.hi h0 g0 (.inr rfl)).2.2,<- hv];exact h.eqn _ _ h0
  have xT:b.v=x->∀ i,N i=some b->¬ Turns N0 x y i:=by
   intro hv i hi hT;obtain⟨_,b',g4,hb'y,_⟩:=m.dn i (hall i hT);rw[hi] at g4;cases g4
   rw[hv] at hb'y;exact g5 hb'y
  by_cases g6:b.v=x
  . exact m.xu i j b hi hj g6 (xT g6 i hi) (xT g6 j hj)
  ·by_cases ga:b.v=y
   ·obtain⟨⟨c,hc⟩,e1⟩:=yFn i hi ga;obtain⟨⟨d,hd⟩,e2⟩:=yFn j hj ga;have:2*i=2*j:=by
     refine h.canon (Zgi hc) (Zgi hd) ?_;funext ρ;have h1:2*i/2=i:=by omega
     have h2:2*j/2=j:=by omega
     have h3:2*i%2=0:=by omega
     have h4:2*j%2=0:=by omega
     simp only[ef,h1,h2,h3,h4,e1,e2]
    omega
   ·have o:∀ i,N i=some b->N0 i=some b:=by
     intro i hi;rcases kinds i b hi with ⟨_,hv,_⟩|⟨_,hv,_⟩|⟨h0,_⟩
     . exact absurd hv g6
     . exact absurd hv ga
     . exact h0
    exact h.uniq i j b (o i hi) (o j hj)
 ·intro i b hb;rcases kinds i b hb with ⟨_,hv,g2,g3,_,_,hV⟩|⟨hT,hv,_,_,_,_,hV⟩|⟨h0,g0⟩
  . rw[hV,hv,(low _ g2).2.2,(low _ g3).2.2]
  . obtain⟨q,hq,_⟩:=hT;rw[m.ext i (.inr ⟨q,hq⟩),hV,hv]
  . rw[m.ext i (.inr ⟨b,h0⟩),(old i b b.lo h0 g0 (.inl rfl)).2.2,(old i b b.hi h0 g0 (.inr rfl)).2.2];exact h.eqn _ _ h0
end
end Go.Proofs.YtkidaindpahefaaGreat

namespace Go.Proofs.YtkidaindpahefaaGreat
open Go.Proofs.Tryz
open Go.RowKit Go.Shelf
structure TN where
 n:RN
 ll:Nat
 lh:Nat
 hl:Nat
 hh:Nat
def tnV (t:TN):List Value:=rnV t.n++[.int .i64 t.ll,.int .i64 t.lh,.int .i64 t.hl,.int .i64 t.hh]
def tnOf (d:Zad)(y:Nat)(i:Nat):TN:=⟨d.pool.nd i,(cofs d (d.pool.nd i).lo y).1,(cofs d (d.pool.nd i).lo y).2,(cofs d (d.pool.nd i).hi y).1,(cofs d (d.pool.nd i).hi y).2⟩
def Zez (d:Zad)(y:Nat)(i:Nat):Bool:=decide ((tnOf d y i).ll≠(tnOf d y i).lh\/(tnOf d y i).hl≠(tnOf d y i).hh)
theorem Zwa {d:Zad}{V:Nat->BF}(hk:Zak d V)(e y:Nat):(cofs d e y).1≠(cofs d e y).2↔isV (Zaa d) y e:=by
 unfold cofs isV;cases hb:Zaa d (e/2) with
 | none=>simp
 | some b =>
   by_cases h:b.v=y
   ·have h1:(b.v:Int)=(y:Int):=by omega
    simp only[h1,if_true];constructor
    . intro _;exact⟨b,rfl,h⟩
    . intro _;exact Zjx (hk.dag.ne _ _ hb)
   ·have h1:¬ (b.v:Int)=(y:Int):=by omega
    simp only[h1,if_false];constructor
    . intro hh;exact(hh rfl).elim
    . rintro⟨c,hc,hv⟩;cases hc;exact(h hv).elim
theorem Zjc {d:Zad}{V:Nat->BF}(hk:Zak d V){x y i:Nat}{b:BN}(hb:Zaa d i=some b)(hx:b.v=x):Zez d y i=true↔Turns (Zaa d) x y i:=by
 obtain⟨_,_,he⟩:=Za1 hb;have g0:bnOf (d.pool.nd i)=b:=by rw[<- (Za1 hb).2.1];exact he
 have e1:(d.pool.nd i).lo=b.lo:=by rw[<- g0];rfl
 have e2:(d.pool.nd i).hi=b.hi:=by rw[<- g0];rfl
 unfold Zez tnOf;rw[decide_eq_true_eq,e1,e2,Zwa hk,Zwa hk];constructor
 . intro h;exact⟨b,hb,hx,h⟩
 . rintro⟨c,hc,_,h⟩;rw[hb] at hc;cases hc;exact h
open Go.RowKit
noncomputable def rkSw (n:Nat)(lev:Nat->Nat)(N0:Nat->Option BN)(x y:Nat)(N:Nat->Option BN)(i:Nat):Nat :=
 open Classical in if Turns N0 x y i then 2 * (n - lev x) else match N i with
  | none=>0
  | some b=>if b.v=x then 2*(n-lev x)-1 else 2*(n-lev b.v)
section
variable {n:Nat}{lev:Nat->Nat}{N0:Nat->Option BN}{V0:Nat->BF}{x y:Nat}{done:Nat->Prop}{N:Nat->Option BN}{V:Nat->BF}
theorem Zim {i:Nat}(h:Turns N0 x y i):rkSw n lev N0 x y N i=2*(n-lev x):=by unfold rkSw;rw[if_pos h]
theorem Zqi {i:Nat}{b:BN}(h:¬ Turns N0 x y i)(hb:N i=some b)(hx:b.v=x):rkSw n lev N0 x y N i=2*(n-lev x)-1:=by unfold rkSw;rw[if_neg h,hb];simp[hx]
theorem Ybr {i:Nat}{b:BN}(h:¬ Turns N0 x y i)(hb:N i=some b)(hx:b.v≠x):rkSw n lev N0 x y N i=2*(n-lev b.v):=by unfold rkSw;rw[if_neg h,hb];simp[hx]
theorem Zsb {i:Nat}{b:BN}(hb:N0 i=some b)(h:Turns N0 x y i):b.v=x:=by
 obtain⟨c,hc,hx,_⟩:=h;rw[hb] at hc;cases hc;exact hx
theorem Zyb (m:Ze7 n lev N0 V0 x y done N V){e:Nat}{c0 c:BN}(h0:N0 (e/2)=some c0)(hc:N (e/2)=some c) :
 (Turns N0 x y (e/2)/\c0.v=x/\rkSw n lev N0 x y N (e/2)=2*(n-lev x))\/(¬ Turns N0 x y (e/2)/\c=c0/\rkSw n lev N0 x y N (e/2)<=2*(n-lev c0.v)/\(c0.v=x->rkSw n lev N0 x y N (e/2)=2*(n-lev x)-1)):=by
 by_cases hT:Turns N0 x y (e/2)
 . exact .inl ⟨hT,Zsb h0 hT,Zim hT⟩
 ·have hk:=m.keep _ _ h0 (fun hd=>hT (m.dn _ hd).1);rw[hc] at hk;cases hk;refine .inr ⟨hT,rfl,?_,fun hx=>Zqi hT hc hx⟩
  by_cases hx:c0.v=x
  . rw[Zqi hT hc hx,hx];omega
  . rw[Ybr hT hc hx];exact Nat.le_refl _
theorem Zi0 (m:Ze7 n lev N0 V0 x y done N V){e:Nat}(h:okE N0 e):okE N e:=by
 rcases h with h|⟨c,hc⟩
 . exact .inl h
 . obtain⟨b,hb⟩:=m.has hc;exact .inr ⟨b,hb⟩
theorem Zsz (m:Ze7 n lev N0 V0 x y done N V){e:Nat}(h:midE n lev N0 N x y e):okE N e:=by
 rcases h with h|⟨c,hc,_⟩
 . exact Zi0 m h.1
 . exact .inr ⟨c,hc⟩
theorem Zpt {e:Nat}{c:BN}(h:N0 (e/2)=some c):lvE n lev N0 e=lev c.v:=by unfold lvE;rw[h]
theorem Ybs (h:Dag n lev N0 V0)(hx:x<n)(hl:lev y=lev x+1)(m:Ze7 n lev N0 V0 x y done N V){e:Nat}{c:BN}(he:lowE n lev N0 y e)(hc:N (e/2)=some c):rkSw n lev N0 x y N (e/2)+3<=2*(n-lev x):=by
 have g1:=h.lt x hx;rcases he.1 with h0|⟨c0,g0⟩
 . rw[h0,m.n0] at hc;cases hc
 ·have h1:=he.2;rw[Zpt g0] at h1;have h2:=h.lt _ (h.var _ _ g0);rcases Zyb m g0 hc with ⟨_,hv,_⟩|⟨_,_,h3,_⟩
  . rw[hv] at h1;omega
  . omega
theorem Ybt (h:Dag n lev N0 V0)(hx:x<n)(hl:lev y=lev x+1)(m:Ze7 n lev N0 V0 x y done N V){e:Nat}{c:BN}(he:midE n lev N0 N x y e)(hc:N (e/2)=some c):rkSw n lev N0 x y N (e/2)+1<=2*(n-lev x):=by
 have g1:=h.lt x hx;rcases he with he|⟨c',g0,hv,hT⟩
 . have:=Ybs h hx hl m he hc;omega
 . rw[Zqi hT g0 hv];omega
theorem Yc3 (h:Dag n lev N0 V0)(hx:x<n)(hl:lev y=lev x+1)(m:Ze7 n lev N0 V0 x y done N V):Acy N (rkSw n lev N0 x y N):=by
 have g6:=h.lt x hx;have edge:∀ i b e,N i=some b->(e=b.lo\/e=b.hi)->okE N e/\∀ c,N (e/2)=some c->rkSw n lev N0 x y N (e/2)<rkSw n lev N0 x y N i:=by
  intro i b e hb he;cases h0:N0 i with
  | none =>
    obtain⟨hv,h1,h2,_⟩:=m.fresh i b hb h0;have g2:lowE n lev N0 y e:=by rcases he with rfl|rfl;exact h1;exact h2
    have hT:¬ Turns N0 x y i:=fun⟨q,hq,_⟩=>by rw[h0] at hq;cases hq
    refine⟨Zi0 m g2.1,fun c hc=>?_⟩;have:=Ybs h hx hl m g2 hc;rw[Zqi hT hb hv];omega
  | some b0 =>
    by_cases hd:done i
    ·obtain⟨hT,b',g4,_,h1,h2,_⟩:=m.dn i hd;rw[hb] at g4;cases g4
     have hm:midE n lev N0 N x y e:=by rcases he with rfl|rfl;exact h1;exact h2
     refine⟨Zsz m hm,fun c hc=>?_⟩;have:=Ybt h hx hl m hm hc;rw[Zim hT];omega
    ·have hk:=m.keep i b0 h0 hd;rw[hb] at hk;cases hk
     have ho:okE N0 e:=by rcases he with rfl|rfl;exact h.okLo _ _ h0;exact h.okHi _ _ h0
     have g0:lev b.v<lvE n lev N0 e:=by rcases he with rfl|rfl;exact h.lvLo _ _ h0;exact h.lvHi _ _ h0
     refine⟨Zi0 m ho,fun c hc=>?_⟩;have g9:=h.lt _ (h.var _ _ h0);rcases ho with hz|⟨c0,g3⟩
     . rw[hz,m.n0] at hc;cases hc
     ·rw[Zpt g3] at g0;have g8:=h.lt _ (h.var _ _ g3);have hi:(Turns N0 x y i/\rkSw n lev N0 x y N i=2*(n-lev x)/\b.v=x)\/(¬ Turns N0 x y i/\b.v=x/\rkSw n lev N0 x y N i=2*(n-lev x)-1)\/(¬ Turns N0 x y i/\b.v≠x/\rkSw n lev N0 x y N i=2*(n-lev b.v)):=by
       by_cases hT:Turns N0 x y i
       . exact .inl ⟨hT,Zim hT,Zsb h0 hT⟩
       ·by_cases g1:b.v=x
        . exact .inr (.inl ⟨hT,g1,Zqi hT hb g1⟩)
        . exact .inr (.inr ⟨hT,g1,Ybr hT hb g1⟩)
      rcases Zyb m g3 hc with ⟨_,g5,hr⟩|⟨_,_,hr,g7⟩
      ·rw[hr];rw[g5] at g0;rcases hi with ⟨_,_,hv⟩|⟨_,hv,_⟩|⟨_,_,h2⟩
       . rw[hv] at g0;omega
       . rw[hv] at g0;omega
       . rw[h2];omega
      ·rcases hi with ⟨_,h2,hv⟩|⟨_,hv,h2⟩|⟨_,hv,h2⟩
       . rw[h2];rw[hv] at g0;omega
       . rw[h2];rw[hv] at g0;omega
       . rw[h2];omega
 exact⟨m.n0,fun i b hb=>(edge i b _ hb (.inl rfl)).1,fun i b hb=>(edge i b _ hb (.inr rfl)).1,fun i b c hb hc=>(edge i b _ hb (.inl rfl)).2 c hc,fun i b c hb hc=>(edge i b _ hb (.inr rfl)).2 c hc⟩
end
open Go.RowKit
theorem Zt3 {α:Type}[DecidableEq α]{l:List α}(hn:l.Nodup){κ:α}(hk:κ∈l){p q:α->Bool}(hp:p κ=false)(hq:∀ a,q a=(p a||decide (a=κ))):(l.filter q).length=(l.filter p).length+1:=by
 induction l with
 | nil=>cases hk
 | cons a l ih =>
   rw[List.nodup_cons] at hn;have g0:=hq a
   by_cases e:a=κ
   ·subst e;have g2:∀ b∈l,b≠a:=fun b hb e=>hn.1 (e ▸ hb)
    have hl:l.filter q=l.filter p:=List.filter_congr fun b hb=>by rw[hq b];simp[g2 b hb]
    simp only[List.filter_cons,g0,hp,hl];simp
   ·have g3:κ∈l:=by
     rcases List.mem_cons.1 hk with h|h
     . exact(e h.symm).elim
     . exact h
    have:=ih hn.2 g3;have g1:q a=p a:=by rw[g0];simp[e]
    simp only[List.filter_cons,g1];split
    . simp[this]
    . exact this
structure Zbq (d0:Zad)(V0:Nat->BF)(k x y:Nat)(Wt:List (Nat×Nat))(E:Nat->Int)(done:Nat->Prop)(d:Zad)(V:Nat->BF):Prop where
 mid:Ze7 d0.vars.length (levN d0) (Zaa d0) V0 x y done (Zaa d) V
 vars:d.vars=(Zee d0 k).vars
 level:d.level=(Zee d0 k).level
 room:d.pool.room=d0.pool.room
 ext:Zaw d=Zaw d0
 live:Zb9 d E
 tabO:∀ v,v<d0.vars.length->v≠x->∀ lo hi id,d.tab v (lo,hi)=some id↔Zaa d id=some ⟨v,lo,hi⟩
 tabX:∀ lo hi id,d.tab x (lo,hi)=some id↔Zaa d id=some ⟨x,lo,hi⟩/\¬ Turns (Zaa d0) x y id
 clen:d.counts.length<=1048578
 pos:∀ i,Turns (Zaa d0) x y i->0<Zau d i
 many:d.pool.many=d0.pool.many+(Wt.filter fun κ=>(d.tab x κ).isSome).length
section
variable {d0 d d':Zad}{V0 V:Nat->BF}{k x y:Nat}{Wt:List (Nat×Nat)}{E:Nat->Int}{done:Nat->Prop}
theorem Zbq.has0 (m:Zbq d0 V0 k x y Wt E done d V){i:Nat}(h:Zaa d i=none):Zaa d0 i=none:=by
 cases e:Zaa d0 i with
 | none=>rfl
 | some c=>obtain⟨b',g0⟩:=m.mid.has e;rw[h] at g0;cases g0
theorem Zbq.add {id lo hi:Nat}(m:Zbq d0 V0 k x y Wt (Zaw d0) done d V)(r:Zj8 d d' id x lo hi)(hlo:lowE d0.vars.length (levN d0) (Zaa d0) y lo)(hhi:lowE d0.vars.length (levN d0) (Zaa d0) y hi)(hr:hi%2=0)(hne:lo≠hi)
 (ht:d.tab x (lo,hi)=none) (hW:(lo,hi)∈Wt) (hWn:Wt.Nodup):Zbq d0 V0 k x y Wt (Zaw d0) done d' (addV V id ⟨x,lo,hi⟩):=by
 have hid:id≠0:=by have:=r.pos;omega
 have g2:∀ i,¬ Turns (Zaa d0) x y i->Zaa d i≠some ⟨x,lo,hi⟩:=fun i hT e=>by rw[(m.tabX lo hi i).2 ⟨e,hT⟩] at ht;cases ht
 have g6:=m.mid.add r.none hid rfl hlo hhi hr hne g2;have h0:=m.has0 r.none;have g4:¬ Turns (Zaa d0) x y id:=fun⟨q,hq,_⟩=>by rw[h0] at hq;cases hq
 have g3:Zaw d'=Zaw d0:=by
  rw[r.ext];funext i
  by_cases e:i=id
  . subst e;simp[Zei h0]
  . simp only[if_neg e,m.ext]
 have g0:=r.live;rw[g3] at g0;refine⟨by rw[r.nodes];exact g6,r.vars.trans m.vars,r.level.trans m.level,r.room.trans m.room,g3,g0,fun v hv g1 lo' g5 i=>?_,fun lo' g5 i=>?_,r.clen,fun i hT=>?_,?_⟩
 ·rw[r.tab,r.nodes];dsimp only;rw[if_neg g1,m.tabO v hv g1]
  by_cases e4:i=id
  ·subst e4;rw[Zbs,r.none];constructor
   . intro e5;cases e5
   . intro e5;cases e5;exact absurd rfl g1
  . rw[Za2 _ e4]
 ·rw[r.tab,r.nodes];dsimp only;rw[if_pos rfl];unfold putF
  by_cases e2:(lo',g5)=(lo,hi)
  ·cases e2;rw[if_pos rfl];constructor
   . intro e3;cases e3;rw[Zbs];exact⟨rfl,g4⟩
   ·rintro⟨e3,e5⟩
    by_cases e4:i=id
    . rw[e4]
    . rw[Za2 _ e4] at e3;exact absurd e3 (g2 i e5)
  ·rw[if_neg e2,m.tabX]
   by_cases e4:i=id
   ·subst e4;rw[Zbs,r.none];constructor
    . rintro⟨e5,_⟩;cases e5
    . rintro⟨e5,_⟩;cases e5;exact absurd rfl e2
   . rw[Za2 _ e4]
 . rw[r.cnt];unfold setC;rw[if_neg (fun e=>g4 (by rw[<- e];exact hT))];exact m.pos i hT
 ·rw[r.many,m.many];have e1:(Wt.filter fun κ=>(d'.tab x κ).isSome).length=(Wt.filter fun κ=>(d.tab x κ).isSome).length+1:=by
   refine Zt3 hWn hW (by rw[ht];rfl) fun κ=>?_
   rw[r.tab];dsimp only;rw[if_pos rfl];unfold putF
   by_cases e:κ=(lo,hi)
   . simp[e]
   . simp[e]
  rw[e1];omega
theorem Zbq.counts {E':Nat->Int}{cs:List Nat}{dd mm:Nat}(m:Zbq d0 V0 k x y Wt E done d V)(hl:Zb9 (d.cd cs dd) E')(hlen:cs.length=d.counts.length)(hsame:∀ i,mm<=rkSw d0.vars.length (levN d0) (Zaa d0) x y (Zaa d) i->cs.getD i 0=d.counts.getD i 0)(hm:mm<=2*(d0.vars.length-levN d0 x)) :
 Zbq d0 V0 k x y Wt E' done (d.cd cs dd) V :=
 ⟨m.mid,m.vars,m.level,m.room,m.ext,hl,m.tabO,m.tabX,by show cs.length<=_;rw[hlen];exact m.clen,fun i hT=>by
  have:=hsame i (by rw[Zim hT];exact hm)
  show 0<cs.getD i 0
  rw[this];exact m.pos i hT,m.many⟩
theorem Zbq.fresh_y (m:Zbq d0 V0 k x y Wt E done d V)(hk:Dag d0.vars.length (levN d0) (Zaa d0) V0)(hxy:x≠y)(hy:y<d0.vars.length){i lo hi:Nat}(hT:Turns (Zaa d0) x y i)(hd:¬ done i)(hV:V0 i=iteF y (ef V hi) (ef V lo)):d.tab y (lo,hi)=none:=by
 cases e:d.tab y (lo,hi) with
 | none=>rfl
 | some j =>
   exfalso;have hj:=(m.tabO y hy (Ne.symm hxy) lo hi j).1 e;obtain⟨b,hb,g3,g6⟩:=hT;have same:∀ j',(∃ c,Zaa d0 j'=some c)->V0 j'=V0 i->j'=i:=by
    rintro j' ⟨c,hc⟩ g4;have:=hk.canon (Zgi hc) (Zgi hb) (by funext ρ;simp only[ef];rw[show 2*j'/2=j' by omega,show 2*i/2=i by omega,g4,show 2*j'%2=0 by omega,show 2*i%2=0 by omega]);omega
   by_cases g0:done j
   . obtain⟨⟨q,hq,g5,_⟩,c,hc,_,_,_,_,_,g1⟩:=m.mid.dn j g0;rw[hj] at hc;cases hc;have:=same j ⟨q,hq⟩ (g1.trans hV.symm);rw[this] at g0;exact hd g0
   ·cases h0:Zaa d0 j with
    | none =>
      have:=(m.mid.fresh j _ hj h0).1;exact hxy this.symm
    | some c =>
      have g2:=m.mid.keep j c h0 g0;rw[hj] at g2;cases g2;have g1:V0 j=iteF y (ef V0 hi) (ef V0 lo):=hk.eqn _ _ h0;have e1:=Zga m.mid.ext (hk.okLo _ _ h0);have e2:=Zga m.mid.ext (hk.okHi _ _ h0);dsimp only at e1 e2;rw[<- e1,<- e2] at g1;have:=same j ⟨_,h0⟩ (g1.trans hV.symm);subst this;rw[hb] at h0;cases h0;exact hxy g3.symm
end
open Go.RowKit
theorem Zsk {V:Nat->BF}{id v lo hi:Nat}(h:V id=iteF v (ef V (eflip hi (eneg hi))) (ef V (eflip lo (eneg hi)))):ef V (eflip (2*id) (eneg hi))=iteF v (ef V hi) (ef V lo):=by
 funext ρ;rw[Zc5];have e0:ef V (2*id) ρ=V id ρ:=by unfold ef;rw[show 2*id/2=id by omega,show 2*id%2=0 by omega];simp
 rw[e0,h];unfold iteF;split<;>rw[Zc5]<;>cases eneg hi<;>simp
section
variable {d0 d d':Zad}{V0 V:Nat->BF}{k x y:Nat}{Wt:List (Nat×Nat)}{E:Nat->Int}{done:Nat->Prop}
theorem Zbq.valX (m:Zbq d0 V0 k x y Wt E done d V)(hk:Dag d0.vars.length (levN d0) (Zaa d0) V0){id a b:Nat}(hb:Zaa d id=some ⟨x,a,b⟩)(hT:¬ Turns (Zaa d0) x y id)(ha:lowE d0.vars.length (levN d0) (Zaa d0) y a)(hbb:lowE d0.vars.length (levN d0) (Zaa d0) y b):V id=iteF x (ef V b) (ef V a):=by
 have e1:=Zga m.mid.ext ha.1;have e2:=Zga m.mid.ext hbb.1;rw[e1,e2];cases h0:Zaa d0 id with
 | none=>exact(m.mid.fresh id _ hb h0).2.2.2.2.2
 | some c =>
   have g0:=m.mid.keep id c h0 (fun hd=>hT (m.mid.dn _ hd).1);rw[hb] at g0;cases g0;rw[m.mid.ext id (.inr ⟨_,h0⟩)];exact hk.eqn _ _ h0
theorem Zde {n:Nat}{lev:Nat->Nat}{N:Nat->Option BN}{y e:Nat}{b:Bool}(h:lowE n lev N y e):lowE n lev N y (eflip e b):=⟨Zd5 h.1,by rw[Zd4];exact h.2⟩
def bkey (lo hi:Nat):Nat×Nat:=(eflip lo (eneg hi),eflip hi (eneg hi))
structure Zf0 (d0:Zad)(V0:Nat->BF)(k x y:Nat)(Wt:List (Nat×Nat))(done:Nat->Prop)(d:Zad)(V:Nat->BF)(lo hi:Nat)(r:Nat)(d':Zad)(V':Nat->BF):Prop where
 mid:Zbq d0 V0 k x y Wt (Zaw d0) done d' V'
 edge:midE d0.vars.length (levN d0) (Zaa d0) (Zaa d') x y r
 val:ef V' r=iteF x (ef V0 hi) (ef V0 lo)
 reg:hi%2=0->r%2=0
 keep:∀ e,midE d0.vars.length (levN d0) (Zaa d0) (Zaa d) x y e->midE d0.vars.length (levN d0) (Zaa d0) (Zaa d') x y e/\ef V' e=ef V e
theorem Zo7 (id:Nat)(hi:Nat)(h:hi%2=0):eflip (2*id) (eneg hi)%2=0:=by
 unfold eneg eflip;have:(hi%2 == 1)=false:=by rw[h];rfl
 rw[this];simp
theorem Zts (m:Zbq d0 V0 k x y Wt (Zaw d0) done d V){lo:Nat}(hlo:lowE d0.vars.length (levN d0) (Zaa d0) y lo):Zf0 d0 V0 k x y Wt done d V lo lo lo d V :=
 ⟨m,.inl hlo,by rw[Zga m.mid.ext hlo.1];funext ρ;unfold iteF;split<;>rfl,fun h=>h,fun e he=>⟨he,rfl⟩⟩
theorem Zq8 (m:Zbq d0 V0 k x y Wt (Zaw d0) done d V)(hk:Dag d0.vars.length (levN d0) (Zaa d0) V0){lo hi id:Nat}(hlo:lowE d0.vars.length (levN d0) (Zaa d0) y lo)(hhi:lowE d0.vars.length (levN d0) (Zaa d0) y hi)(ht:d.tab x (bkey lo hi)=some id) :
 Zf0 d0 V0 k x y Wt done d V lo hi (eflip (2*id) (eneg hi)) d V:=by
 obtain⟨hb,hT⟩:=(m.tabX _ _ id).1 ht;refine⟨m,.inr ⟨_,by rw[Zcs,show 2*id/2=id by omega];exact hb,rfl,by rw[Zcs,show 2*id/2=id by omega];exact hT⟩,?_,Zo7 id hi,fun e he=>⟨he,rfl⟩⟩;rw[Zsk (m.valX hk hb hT (Zde hlo) (Zde hhi)),Zga m.mid.ext hlo.1,Zga m.mid.ext hhi.1]
theorem Zvx (m:Zbq d0 V0 k x y Wt (Zaw d0) done d V)(hk:Dag d0.vars.length (levN d0) (Zaa d0) V0){lo hi id:Nat}(hlo:lowE d0.vars.length (levN d0) (Zaa d0) y lo)(hhi:lowE d0.vars.length (levN d0) (Zaa d0) y hi)(hne:lo≠hi)
 (ht:d.tab x (bkey lo hi)=none) (r:Zj8 d d' id x (bkey lo hi).1 (bkey lo hi).2) (hW:bkey lo hi∈Wt) (hWn:Wt.Nodup) :
 Zf0 d0 V0 k x y Wt done d V lo hi (eflip (2*id) (eneg hi)) d' (addV V id ⟨x,(bkey lo hi).1,(bkey lo hi).2⟩):=by
 have hid:id≠0:=by have:=r.pos;omega
 have m':=m.add r (Zde hlo) (Zde hhi) (Zmd hi) (Zjx hne) ht hW hWn;have hT:¬ Turns (Zaa d0) x y id:=fun⟨q,hq,_⟩=>by rw[m.has0 r.none] at hq;cases hq
 have hb:Zaa d' id=some ⟨x,(bkey lo hi).1,(bkey lo hi).2⟩:=by rw[r.nodes,Zbs]
 refine⟨m',.inr ⟨_,by rw[Zcs,show 2*id/2=id by omega];exact hb,rfl,by rw[Zcs,show 2*id/2=id by omega];exact hT⟩,?_,Zo7 id hi,fun e he=>?_⟩
 . rw[Zsk (m'.valX hk hb hT (Zde hlo) (Zde hhi)),Zga m'.mid.ext hlo.1,Zga m'.mid.ext hhi.1]
 ·rcases he with he|⟨c,hc,g1,g2⟩
  . exact⟨.inl he,by rw[Zga m'.mid.ext he.1,Zga m.mid.ext he.1]⟩
  ·have g0:e/2≠id:=by rintro e';rw[e',r.none] at hc;cases hc
   refine⟨.inr ⟨c,by rw[r.nodes,Za2 _ g0];exact hc,g1,g2⟩,?_⟩;funext ρ;simp only[ef,addV,if_neg g0]
theorem Zbq.fits (m:Zbq d0 V0 k x y Wt E done d V){κ:Nat×Nat}(hW:κ∈Wt)(ht:d.tab x κ=none)(hroom:d0.pool.many+Wt.length<=d0.pool.room):d.pool.many<d.pool.room:=by
 have h1:(Wt.filter fun κ=>(d.tab x κ).isSome).length<Wt.length:=by
  rw[<- Nat.not_le];intro g0;have h2:=List.length_filter_le (fun κ=>(d.tab x κ).isSome) Wt;have h3:=List.length_filter_eq_length_iff.1 (Nat.le_antisymm h2 g0);have:=h3 κ hW;rw[ht] at this;cases this
 rw[m.many,m.room];omega
end
theorem Zox {d0:Zad}{V0:Nat->BF}{k x y:Nat}{Wt:List (Nat×Nat)}{done:Nat->Prop}{d:Zad}{V:Nat->BF}{o:Own}{w:World}{sb:Nat}(h:Zar o w sb d)(hlt:Zah o w)(m:Zbq d0 V0 k x y Wt (Zaw d0) done d V)
 (hk:Dag d0.vars.length (levN d0) (Zaa d0) V0) (hacy:Acy (Zaa d) (rkSw d0.vars.length (levN d0) (Zaa d0) x y (Zaa d))) (hx:x<d0.vars.length) (hvl:d.vars.length=d0.vars.length) (lo hi:Nat) (hlo:lowE d0.vars.length (levN d0) (Zaa d0) y lo) (hhi:lowE d0.vars.length (levN d0) (Zaa d0) y hi)
 (hkey:lo≠hi->d.tab x (bkey lo hi)=none->bkey lo hi∈Wt) (hWn:Wt.Nodup) (hroom:d0.pool.many+Wt.length<=d0.pool.room) :
 Calls prog 222 #[.pointer (some ⟨sb,0,none⟩),.int .i64 x,.int .i64 lo,.int .i64 hi] w fun e w'=>∃ r:Nat,e=.returned (.int .i64 r)/\∃ o' d' V',Zar o' w' sb d'/\Zah o' w'/\Zf0 d0 V0 k x y Wt done d V lo hi r d' V'/\d'.vars.length=d0.vars.length/\Chg Zap o o' w w':=by
 obtain⟨s,h⟩:=h;have okL:=Zi0 m.mid hlo.1;have okH:=Zi0 m.mid hhi.1;have g9:=h.edge_lt okL;have ga:=h.edge_lt okH;have g4:lo<eMax:=by unfold eMax;omega
 have g6:hi<eMax:=by unfold eMax;omega
 by_cases g8:lo=hi
 ·subst g8;have HF:Hid (∃ r:Nat,Ending.returned (.int .i64 (lo:Nat))=.returned (.int .i64 r)/\∃ o' d' V',Zar o' w sb d'/\Zah o' w/\Zf0 d0 V0 k x y Wt done d V lo lo r d' V'/\d'.vars.length=d0.vars.length/\Chg Zap o o' w w):=Hd ⟨lo,rfl,o,d,V,⟨s,h⟩,hlt,Zts m hlo,hvl,Chg.refl _ _ _⟩;clear h hlt m hk hacy hlo hhi hkey g4 g6 g9 ga okL okH
  go_enter func222,ntmps222
  go_wp2_with fail;go_ret;exact HF.out
 have gp:((lo:Int) == hi)=false:=by simp;omega
 have hv:x<d.vars.length:=by rw[hvl];exact hx
 have g1:=Hd (fun W=>Znz lo hi W g4 g6);have gc:=Hd (h.tab x (by rw[h.tlen];exact hv));obtain⟨gt,ct,gg,gl,go,gr⟩:=h.tabAt hv;obtain⟨c0,c1,c2,c3,c4,f0⟩:=cells5 h.blk;rw[gg] at c2;obtain⟨t,ht⟩:∃ t,t=s.ts.getD x 0:=⟨_,rfl⟩;rw[<- ht] at gl gc;have gq:(x:Int)<s.ts.length:=by omega
 obtain⟨lo2,g5⟩:∃ q,q=eflip lo (eneg hi):=⟨_,rfl⟩;obtain⟨g3,g7⟩:∃ q,q=eflip hi (eneg hi):=⟨_,rfl⟩;obtain⟨ng,ge⟩:∃ q,q=eneg hi:=⟨_,rfl⟩;have g2:bkey lo hi=(lo2,g3):=by unfold bkey;rw[g5,g7]
 rw[<- g5,<- g7] at g1;cases g0:d.tab x (lo2,g3) with
 | some id =>
   have gi:=Hd (fun W (hb:Below w.heap.size w W)=>Znp o x t (d.tab x) lo2 g3 id W (gc.out.below hb hlt) g0);have gd:=((m.tabX _ _ id).1 g0).1;have gh:=(h.tk_lt gd).2;have gf:=Hd (fun W=>Zxw id (eneg hi) W (by omega));have HF:Hid (∀ W,Below w.heap.size w W->∃ r:Nat,Ending.returned (.int .i64 (eflip (2*id) (eneg hi):Nat))=.returned (.int .i64 r)/\∃ o' d' V',Zar o' W sb d'/\Zah o' W/\Zf0 d0 V0 k x y Wt done d V lo hi r d' V'/\d'.vars.length=d0.vars.length/\Chg Zap o o' w W) :=
    Hd fun W hb=>⟨_,rfl,o,d,V,⟨s,h.below hlt hb⟩,hlt.mono hb.size,Zq8 m hk hlo hhi (by rw[g2];exact g0),hvl,Chg.of_below hb _ _⟩
   rw[<- ge] at g1 gf HF;clear h hlt m hk hacy hlo hhi hkey g4 g6 g9 ga okL okH g0 gd gh g5 g7 ge g2 hv g8 hvl ht gg
   go_enter func222,ntmps222
   go_wp2_with fail;refine(g1.out _).mono ?_;rintro e w' ⟨rfl,rfl⟩;go_wp2_with fail;refine(gi.out _ (Below.refl _ _)).mono ?_;rintro e w' ⟨rfl,rfl⟩;go_wp2_with fail;refine(gf.out _).mono ?_;rintro e w' ⟨rfl,rfl⟩;go_wp2_with fail;go_ret;exact HF.out _ (Below.refl _ _)
 | none =>
   have gi:=Hd (Zrj o x t (d.tab x) lo2 g3 w gc.out g0);have hW:bkey lo hi∈Wt:=hkey g8 (by rw[g2];exact g0);have gm:=Hd (Zjp h hlt (by rw[m.ext];exact m.live) (fun i b hb=>⟨hacy.okLo i b hb,hacy.okHi i b hb⟩) x lo2 g3 hv g0 m.clen);have gj:Hid (d.pool.many≠d.pool.room):=Hd fun e=>by have:=m.fits hW (by rw[g2];exact g0) hroom;omega
   have HF:Hid (∀ id d' o' W,Zar o' W sb d'->Zah o' W->Zj8 d d' id x lo2 g3->Chg Zap o o' w W->∃ r:Nat,Ending.returned (.int .i64 (eflip (2*id) (eneg hi):Nat))=.returned (.int .i64 r)/\∃ o' d' V',Zar o' W sb d'/\Zah o' W/\Zf0 d0 V0 k x y Wt done d V lo hi r d' V'/\d'.vars.length=d0.vars.length/\Chg Zap o o' w W):=by
    refine Hd fun id d' o' W h1 h2 h3 h4=>⟨_,rfl,o',d',_,h1,h2,Zvx m hk hlo hhi g8 (by rw[g2];exact g0) (by rw[g2];exact h3) hW hWn,by rw[h3.vars];exact hvl,h4⟩
   rw[<- ge] at g1 HF;clear h hlt m hk hacy hlo hhi hkey g4 g6 g9 ga okL okH g0 g5 g7 g2 hv g8 hvl ht gg hW ge
   go_enter func222,ntmps222
   go_wp2_with fail;refine(g1.out _).mono ?_;rintro e w' ⟨rfl,rfl⟩;go_wp2_with fail;refine gi.out.mono ?_;rintro e w' ⟨rfl,rfl⟩;go_wp2_with fail;refine gm.out.mono ?_;rintro e w6 (⟨hm,rfl,gu⟩|⟨id,d',o',rfl,hs,gk,hr,hc⟩)
   . exact(gj.out hm).elim
   ·have gh:id<1048578:=by
     obtain⟨s',hs'⟩:=hs;have hn:Zaa d' id=some ⟨x,lo2,g3⟩:=by rw[hr.nodes,Zbs]
     have:=hs'.tk_lt hn;omega
    have gf:=Hd (Zxw id ng w6 (by omega));have gn:=Hd (HF.out id d' o' w6 hs gk hr hc);clear hs gk hr hc c0 c1 c2 c3 c4 f0 gl;go_wp2_with fail;refine gf.out.mono ?_;rintro e w' ⟨rfl,rfl⟩;go_wp2_with fail;go_ret;exact gn.out
open Go.RowKit
section
variable {d0 d:Zad}{V0 V:Nat->BF}{k x y:Nat}{Wt:List (Nat×Nat)}{E:Nat->Int}{done:Nat->Prop}
structure Yb7 (d0:Zad)(V0:Nat->BF)(x y i ll lh hl hh:Nat):Prop where
 f1:lowE d0.vars.length (levN d0) (Zaa d0) y ll
 f2:lowE d0.vars.length (levN d0) (Zaa d0) y lh
 f3:lowE d0.vars.length (levN d0) (Zaa d0) y hl
 f4:lowE d0.vars.length (levN d0) (Zaa d0) y hh
 val:∀ ρ,V0 i ρ=if ρ x then (if ρ y then ef V0 hh ρ else ef V0 hl ρ) else (if ρ y then ef V0 lh ρ else ef V0 ll ρ)
 reg:hh%2=0
theorem Zy3 (hk:Zak d0 V0)(hy:y<d0.vars.length)(hl:levN d0 y=levN d0 x+1){i:Nat}{b:BN}(hb:Zaa d0 i=some b)(hbx:b.v=x) :
 Yb7 d0 V0 x y i (cofs d0 b.lo y).1 (cofs d0 b.lo y).2 (cofs d0 b.hi y).1 (cofs d0 b.hi y).2:=by
 have l1:=hk.dag.lvLo _ _ hb;have l2:=hk.dag.lvHi _ _ hb;rw[hbx] at l1 l2;obtain⟨a1,a2,a3,a4,a5⟩:=Zda hk (hk.dag.okLo _ _ hb) hy (by omega);obtain⟨c1,c2,c3,c4,c5⟩:=Zda hk (hk.dag.okHi _ _ hb) hy (by omega);refine⟨⟨a1,a3⟩,⟨a2,a4⟩,⟨c1,c3⟩,⟨c2,c4⟩,fun ρ=>?_,?_⟩
 . rw[hk.dag.eqn _ _ hb,hbx];unfold iteF;rw[a5 ρ,c5 ρ]
 ·have hr:=hk.dag.reg _ _ hb;unfold cofs;cases hc:Zaa d0 (b.hi/2) with
  | none=>exact hr
  | some c =>
    dsimp only;split
    ·have:eneg b.hi=false:=by unfold eneg;rw[hr];rfl
     dsimp only;rw[this];exact hk.dag.reg _ _ hc
    . exact hr
theorem Zvd (hk:Zak d0 V0)(hx:x<d0.vars.length)(hy:y<d0.vars.length)(hxy:x≠y)(hl:levN d0 y=levN d0 x+1){i ll lh hl' hh lo hi:Nat}(t:Yb7 d0 V0 x y i ll lh hl' hh)(hne:ll≠lh\/hl'≠hh)
 (h1:ef V lo=iteF x (ef V0 hl') (ef V0 ll)) (h2:ef V hi=iteF x (ef V0 hh) (ef V0 lh)):V0 i=iteF y (ef V hi) (ef V lo)/\lo≠hi:=by
 constructor
 . funext ρ;rw[t.val ρ,h1,h2];unfold iteF;cases ρ x<;>cases ρ y<;>rfl
 ·rintro rfl;rw[h1] at h2;have ind:∀ {e:Nat},lowE d0.vars.length (levN d0) (Zaa d0) y e->∀ (ρ:Nat->Bool) (b:Bool),ef V0 e (upd ρ x b)=ef V0 e ρ:=fun he ρ b=>hk.dag.indep_var he.1 (by have:=he.2;omega) ρ b
  have e1:ef V0 hl'=ef V0 hh:=by
   funext ρ;have:=congrFun h2 (upd ρ x true);unfold iteF at this;rw[Zis,ind t.f3,ind t.f4] at this;simpa using this
  have e2:ef V0 ll=ef V0 lh:=by
   funext ρ;have:=congrFun h2 (upd ρ x false);unfold iteF at this;rw[Zis,ind t.f1,ind t.f2] at this;simpa using this
  rcases hne with h|h
  . exact h (hk.dag.canon t.f1.1 t.f2.1 e2)
  . exact h (hk.dag.canon t.f3.1 t.f4.1 e1)
theorem Zwg {kk:Nat}{N:Nat->Option BN}{c:Nat->Nat}{i:Nat}{b b':BN}(hb:N i=some b):Zec kk (setN N i b') c=Zec kk N c:=by
 unfold Zec;refine Za3 _ fun j _=>?_
 unfold dead1 setN
 by_cases e:j=i
 . subst e;rw[if_pos rfl,hb]
 . rw[if_neg e]
theorem Zbq.set {i lo hi:Nat}{b:BN}{p':Zal}(m:Zbq d0 V0 k x y Wt E done d V)(hxy:x≠y)(hk:Dag d0.vars.length (levN d0) (Zaa d0) V0)(hy:y<d0.vars.length)(hT:Turns (Zaa d0) x y i)(hd:¬ done i)(hb:Zaa d0 i=some b)
 (hlo:midE d0.vars.length (levN d0) (Zaa d0) (Zaa d) x y lo) (hhi:midE d0.vars.length (levN d0) (Zaa d0) (Zaa d) x y hi) (hr:hi%2=0) (hne:lo≠hi) (hV:V0 i=iteF y (ef V hi) (ef V lo))
 (hn:Zaa { d with pool:=p' }=setN (Zaa d) i ⟨y,lo,hi⟩) (he:Zaw { d with pool:=p' }=Zaw d) (h1:p'.room=d.pool.room) (h2:p'.many=d.pool.many) (h3:p'.at_.length=d.pool.at_.length) :
 Zbq d0 V0 k x y Wt (addE (addE (addE (addE E b.lo 1) b.hi 1) lo (-1)) hi (-1)) (fun j=>done j\/j=i) { d with pool:=p',tab:=fun u=>if u=y then putF (d.tab u) (lo,hi) (some i) else d.tab u } V:=by
 have g5:=m.fresh_y hk hxy hy hT hd hV;have g1:Zaa d i=some b:=m.mid.keep i b hb hd;have g4:b.v=x:=Zsb hb hT;have g0:Zaa { d with pool:=p',tab:=fun u=>if u=y then putF (d.tab u) (lo,hi) (some i) else d.tab u }=setN (Zaa d) i ⟨y,lo,hi⟩:=hn;refine⟨by rw[g0];exact m.mid.turn hxy hT hlo hhi hr hne hV,m.vars,m.level,h1.trans m.room,he.trans m.ext,⟨?_,?_,fun j c hc=>?_⟩,fun v hv g2 lo' g3 j=>?_,fun lo' g3 j=>?_,m.clen,m.pos,?_⟩
 ·show Cnt p'.at_.length _ (Zau d) _
  rw[g0,h3];exact m.live.cnt.setLive g1 (m.pos i hT)
 ·show (d.dead:Int)=Zec p'.at_.length _ (Zau d)
  rw[g0,h3,Zwg g1];exact m.live.dead
 ·rw[g0] at hc
  show j<d.counts.length
  unfold setN at hc;split at hc
  . rename_i e;rw[e];exact m.live.has i b g1
  . exact m.live.has j c hc
 ·rw[g0];dsimp only
  by_cases e:v=y
  ·subst e;rw[if_pos rfl];unfold putF
   by_cases e2:(lo',g3)=(lo,hi)
   ·cases e2;rw[if_pos rfl];constructor
    . intro e3;cases e3;simp[setN]
    ·intro e3;unfold setN at e3;split at e3
     . rename_i e4;rw[e4]
     . have:=(m.tabO v hv g2 _ _ j).2 e3;rw[g5] at this;cases this
   ·rw[if_neg e2,m.tabO v hv g2];unfold setN
    by_cases e4:j=i
    ·subst e4;rw[if_pos rfl,g1];constructor
     . intro e5;cases e5;exact absurd g4 (Ne.symm hxy)
     . intro e5;cases e5;exact absurd rfl e2
    . rw[if_neg e4]
  ·rw[if_neg e,m.tabO v hv g2];unfold setN
   by_cases e4:j=i
   ·subst e4;rw[if_pos rfl,g1];constructor
    . intro e5;cases e5;exact absurd g4 g2
    . intro e5;cases e5;exact absurd rfl e
   . rw[if_neg e4]
 ·rw[g0];dsimp only;rw[if_neg hxy,m.tabX];unfold setN
  by_cases e4:j=i
  ·subst e4;rw[if_pos rfl];constructor
   . rintro⟨_,h⟩;exact(h hT).elim
   . rintro⟨_,h⟩;exact(h hT).elim
  . rw[if_neg e4]
 ·show p'.many=_
  rw[h2,m.many];dsimp only;rw[if_neg hxy]
end
open Go.RowKit
structure TRow (w:World)(base:Nat)(v:Value)(ts:List TN):Prop where
 small:ts.length<=1048578
 ex:∃ a c,v=.slice a ts.length c/\∀ k,∀ hk:k<ts.length,∃ g,a=some ⟨g,0,none⟩/\base<=g/\∀ j u,(tnV ts[k])[j]?=some u->w.cell? ⟨g,k*9+j,none⟩=some u
theorem TRow.keep {w w':World}{base:Nat}{v:Value}{ts:List TN}(h:TRow w base v ts)(hk:∀ g,base<=g->g<w.heap.size->v.ownBlock=some g->w'.heap[g]?=w.heap[g]?):TRow w' base v ts:=by
 obtain⟨a,c,rfl,h1⟩:=h.ex;refine⟨h.small,a,c,rfl,fun k g0=>?_⟩;obtain⟨g,rfl,hb,hc⟩:=h1 k g0;refine⟨g,rfl,hb,fun j u hu=>?_⟩;have:=hc j u hu;exact(World.cell?_of_block (w:=w) (a:=⟨g,k*9+j,none⟩) (hk g hb (Zab this) rfl)).trans this
theorem TRow.below {w w':World}{base:Nat}{v:Value}{ts:List TN}(h:TRow w base v ts)(hb:Below w.heap.size w w'):TRow w' base v ts:=h.keep fun g _ hg _=>hb.block g hg
def Zcc (t:TN):List (Nat×Nat):=[(t.ll,t.hl),(t.lh,t.hh)]
structure Zf6 (f:Nat×Nat->Option Nat)(ps:List (Nat×Nat))(Wt:List (Nat×Nat)):Prop where
 nodup:Wt.Nodup
 free:∀ κ∈Wt,f κ=none
 has:∀ p∈ps,p.1≠p.2->f (bkey p.1 p.2)=none->bkey p.1 p.2∈Wt
 len:Wt.length<=ps.length
theorem Zf6.skip {f:Nat×Nat->Option Nat}{ps Wt:List (Nat×Nat)}(h:Zf6 f ps Wt){p:Nat×Nat}(hp:p.1≠p.2->f (bkey p.1 p.2)=none->bkey p.1 p.2∈Wt):Zf6 f (ps++[p]) Wt :=
 ⟨h.nodup,h.free,fun q hq=>by
  rcases List.mem_append.1 hq with hq|hq
  . exact h.has q hq
  . simp only[List.mem_singleton] at hq;subst hq;exact hp,by have:=h.len;simp;omega⟩
theorem Zf6.add {f:Nat×Nat->Option Nat}{ps Wt:List (Nat×Nat)}(h:Zf6 f ps Wt){p:Nat×Nat}(h1:f (bkey p.1 p.2)=none)(h2:bkey p.1 p.2∉Wt):Zf6 f (ps++[p]) (Wt++[bkey p.1 p.2]) :=
 ⟨List.nodup_append.2 ⟨h.nodup,by simp,fun a ha b hb=>by simp only[List.mem_singleton] at hb;subst hb;rintro rfl;exact h2 ha⟩,fun κ hκ=>by
  rcases List.mem_append.1 hκ with hκ|hκ
  . exact h.free κ hκ
  . simp only[List.mem_singleton] at hκ;subst hκ;exact h1,fun q hq h3 h4=>by
  rcases List.mem_append.1 hq with hq|hq
  . exact List.mem_append_left _ (h.has q hq h3 h4)
  . simp only[List.mem_singleton] at hq;subst hq;simp,by have:=h.len;simp;omega⟩
def Zk5 (Wt:List (Nat×Nat)):List ((Nat×Nat)×Value):=Wt.map fun κ=>(κ,.bool true)
theorem Zk6 (κ:Nat×Nat):∀ (Wt:List (Nat×Nat)) (i:Nat),(Zch κ (Zk5 Wt) i).map (·.2)=if κ∈Wt then some (.bool true) else none
 | [],_=>rfl
 | a::l,i=>by
   show (if a=κ then some (i,Value.bool true) else Zch κ (Zk5 l) (i+1)).map (·.2)=_
   by_cases e:a=κ
   . rw[if_pos e];simp[e]
   . rw[if_neg e,Zk6 κ l (i+1)];simp[Ne.symm e]
theorem Yam (Wt:List (Nat×Nat))(κ:Nat×Nat):(getL (Zk5 Wt) κ).getD (.bool false)=.bool (decide (κ∈Wt)):=by
 unfold getL;rw[Zk6]
 by_cases h:κ∈Wt
 . rw[if_pos h,decide_eq_true h];rfl
 . rw[if_neg h,decide_eq_false h];rfl
theorem Yan {Wt:List (Nat×Nat)}{κ:Nat×Nat}(h:κ∉Wt):putL κ (.bool true) (Zk5 Wt)=Zk5 (Wt++[κ]):=by
 have h1:=Zk6 κ Wt 0;rw[if_neg h] at h1;unfold putL;cases e:Zch κ (Zk5 Wt) 0 with
 | none=>simp[Zk5]
 | some p=>rw[e] at h1;cases h1
theorem Zy5 {o:Own}{w:World}{sb:Nat}{d:Zad}{s:Za5}(h:Zam o w sb d s)(hlt:Zah o w)(x:Nat)(hx:x<d.vars.length){v:Value}{ts:List TN}{base:Nat}(hr:TRow w base v ts)(hok:∀ t∈ts,t.ll<eMax/\t.lh<eMax/\t.hl<eMax/\t.hh<eMax) :
 Calls prog 217 #[.pointer (some ⟨sb,0,none⟩),.int .i64 x,v] w fun e w'=>∃ Wt,e=.returned (.int .i64 (Wt:List (Nat×Nat)).length)/\Zf6 (d.tab x) (ts.flatMap Zcc) Wt/\Below w.heap.size w w':=by
 obtain⟨a,c,rfl,gg⟩:=hr.ex;have hz:=hr.small;have HR:=Hd hr;obtain⟨gt,ct,gH,gC,hu,hy⟩:=h.tabAt hx;obtain⟨c0,c1,c2,c3,c4,f0⟩:=cells5 h.blk;rw[gH] at c2;have gF:=Hd (h.tab x (by rw[h.tlen];exact hx));have hg:=Hd hlt;obtain⟨t,ht⟩:∃ t,t=s.ts.getD x 0:=⟨_,rfl⟩;rw[<- ht] at gC gF;have hv:(x:Int)<s.ts.length:=by omega
 have hm:=Hd gg;have hd:Hid (∀ k,∀ hk:k<ts.length,ts[k].ll<eMax/\ts[k].lh<eMax/\ts[k].hl<eMax/\ts[k].hh<eMax):=Hd fun k hk=>hok _ (List.getElem_mem hk)
 clear h hlt hr ht gH gg hok c0 c1 c3 c4 f0;have h5:=Zem (P:=prog) w 296;obtain⟨w1,gf⟩:∃ w1,w1=w.alloc (.map #[] 0):=⟨_,rfl⟩;have hf:Hid (Zbf w1 w.heap.size encE (Zk5 [])):=by rw[gf];exact Hd (Zia w encE)
 have hp:Hid (Below w.heap.size w w1):=by rw[gf];exact Hd (Zae _ _)
 have hs1:w1.heap.size=w.heap.size+1:=by rw[gf];simp
 rw[<- gf] at h5;clear gf
 go_enter func217,ntmps217
 go_wp2_with fail
 go_loopw [8,22] (fun s8 s22 wr=>∃ (k:Nat) (Wt:List (Nat×Nat)),k<=ts.length/\s22=.int .i64 k/\s8=.int .i64 Wt.length/\Below w.heap.size w wr/\w1.heap.size<=wr.heap.size/\Zbf wr w.heap.size encE (Zk5 Wt)/\Hid (Zf6 (d.tab x) ((ts.take k).flatMap Zcc) Wt)) (fun _ s22 _=>ts.length-(intOf s22).toNat)
 case atStart=>exact⟨0,[],Nat.zero_le _,rfl,rfl,hp.out,Nat.le_refl _,hf.out,Hd ⟨List.nodup_nil,fun _ h=>by simp at h,fun _ h=>by simp at h,Nat.le_refl _⟩⟩
 case round =>
  obtain⟨k,Wt,hk,rfl,rfl,g4,gZ,g3,HW⟩:=hrel;have gc:=Hd g4;have gG:=Hd g3;clear g4 g3
  by_cases hlt:k<ts.length
  ·obtain⟨g,rfl,hB,hc⟩:=hm.out k hlt;obtain⟨ok1,ok2,ok3,ok4⟩:=hd.out k hlt
   have gE:Hid ((ts.take (k+1)).flatMap Zcc=(ts.take k).flatMap Zcc++[(ts[k].ll,ts[k].hl),(ts[k].lh,ts[k].hh)]):=Hd (by
    rw[List.take_succ_eq_append_getElem hlt,List.flatMap_append];rfl)
   have g2:=gc.out;obtain⟨tn,gI⟩:∃ tn,tn=ts[k]:=⟨_,rfl⟩;rw[<- gI] at hc ok1 ok2 ok3 ok4 gE;obtain⟨⟨i0,i1,i2,i3,i4⟩,ll,lh,hl,hh⟩:=tn;have e0:=(g2.cell (p:=⟨g,k*9,none⟩) (Zab (hc 0 _ rfl))).trans (hc 0 _ rfl);have e1:=(g2.cell (p:=⟨g,k*9+1,none⟩) (Zab (hc 1 _ rfl))).trans (hc 1 _ rfl);have e2:=(g2.cell (p:=⟨g,k*9+2,none⟩) (Zab (hc 2 _ rfl))).trans (hc 2 _ rfl);have e3:=(g2.cell (p:=⟨g,k*9+3,none⟩) (Zab (hc 3 _ rfl))).trans (hc 3 _ rfl);have e4:=(g2.cell (p:=⟨g,k*9+4,none⟩) (Zab (hc 4 _ rfl))).trans (hc 4 _ rfl);have e5:=(g2.cell (p:=⟨g,k*9+5,none⟩) (Zab (hc 5 _ rfl))).trans (hc 5 _ rfl);have e6:=(g2.cell (p:=⟨g,k*9+6,none⟩) (Zab (hc 6 _ rfl))).trans (hc 6 _ rfl);have e7:=(g2.cell (p:=⟨g,k*9+7,none⟩) (Zab (hc 7 _ rfl))).trans (hc 7 _ rfl);have e8:=(g2.cell (p:=⟨g,k*9+8,none⟩) (Zab (hc 8 _ rfl))).trans (hc 8 _ rfl);dsimp only at ok1 ok2 ok3 ok4 gE;have h6:(k:Int)<ts.length:=by omega
   clear hc g2 gI;go_upto_region 7 with fail;obtain⟨wi,gq⟩:∃ wi,wi=(wr.alloc (.cells #[.int .i64 i0,.int .i64 i1,.int .i64 i2,.int .i64 i3,.int .i64 i4,.int .i64 ll,.int .i64 lh,.int .i64 hl,.int .i64 hh] 256)).alloc (.cells #[.int .i64 ll,.int .i64 hl,.int .i64 lh,.int .i64 hh] 280):=⟨_,rfl⟩;rw[<- gq];have gv:Below wr.heap.size wr wi:=by rw[gq];exact(Zae _ _).alloc (by simp) _
   have g0:wi.heap[wr.heap.size+1]?=some (.cells #[.int .i64 ll,.int .i64 hl,.int .i64 lh,.int .i64 hh] 280 (0,0)):=by
    rw[gq];have:=heap_alloc_new (wr.alloc (.cells #[.int .i64 i0,.int .i64 i1,.int .i64 i2,.int .i64 i3,.int .i64 i4,.int .i64 ll,.int .i64 lh,.int .i64 hl,.int .i64 hh] 256)) (.cells #[.int .i64 ll,.int .i64 hl,.int .i64 lh,.int .i64 hh] 280);rw[World.size_alloc] at this;exact this
   have HP:Hid (∀ j,j<2->∃ p1 p2:Nat,wi.cell? ⟨wr.heap.size+1,j*2,none⟩=some (.int .i64 p1)/\wi.cell? ⟨wr.heap.size+1,j*2+1,none⟩=some (.int .i64 p2)/\p1<eMax/\p2<eMax/\[(ll,hl),(lh,hh)].take (j+1)=[(ll,hl),(lh,hh)].take j++[(p1,p2)]):=by
    refine Hd fun j hj=>?_
    rcases(by omega:j=0\/j=1) with rfl|rfl
    . exact⟨ll,hl,by rw[cell_of_row _ _ _ _ _ _ g0];rfl,by rw[cell_of_row _ _ _ _ _ _ g0];rfl,ok1,ok3,rfl⟩
    . exact⟨lh,hh,by rw[cell_of_row _ _ _ _ _ _ g0];rfl,by rw[cell_of_row _ _ _ _ _ _ g0];rfl,ok2,ok4,rfl⟩
   have hn:=Hd (gc.out.trans (gv.mono gc.out.size));have gM:=gG.out.below gv;have gT:w1.heap.size<=wi.heap.size:=Nat.le_trans gZ gv.size;have gL:wr.heap.size+1<wi.heap.size:=(Array.getElem?_eq_some_iff.1 g0).1;clear gq g0 e0 e1 e2 e3 e4 e5 e6 e7 e8 ok1 ok2 ok3 ok4 gG gc gv
   go_loopw [8,38] (fun s8 s38 wx=>∃ (j:Nat) (Wt:List (Nat×Nat)),j<=2/\s38=.int .i64 j/\s8=.int .i64 Wt.length/\Below w.heap.size w wx/\wi.heap.size<=wx.heap.size/\(∀ q,q≠w.heap.size->q<wi.heap.size->wx.heap[q]?=wi.heap[q]?)/\Zbf wx w.heap.size encE (Zk5 Wt)/\Hid (Zf6 (d.tab x) ((ts.take k).flatMap Zcc++[(ll,hl),(lh,hh)].take j) Wt)) (fun _ s38 _=>2-(intOf s38).toNat)
   case atStart=>exact⟨0,Wt,Nat.zero_le _,rfl,rfl,hn.out,Nat.le_refl _,fun _ _ _=>rfl,gM,Hd (by simpa using HW.out)⟩
   case round =>
    rename World=>wy
    clear HW gM;obtain⟨j,W2,hj,rfl,rfl,g4,gA,g5,g3,HW⟩:=hrel
    by_cases gV:j<2
    ·obtain⟨p1,p2,k1,k2,b1,b2,gJ⟩:=HP.out j gV;have q1:=(World.cell?_of_block (w:=wi) (w':=wy) (a:=⟨wr.heap.size+1,j*2,none⟩) (g5 _ (by dsimp only;omega) gL)).trans k1;have q2:=(World.cell?_of_block (w:=wi) (w':=wy) (a:=⟨wr.heap.size+1,j*2+1,none⟩) (g5 _ (by dsimp only;omega) gL)).trans k2;have gw:=Hd gJ;have gy:=Hd g5;have gm:=Hd g4;have gx:=Hd g3;have hA:(j:Int)<2:=by omega
     clear k1 k2 gJ g5 g4 g3;go_upto_region 9 with fail;obtain⟨wz,go⟩:∃ wz,wz=wy.alloc (.cells #[.int .i64 p1,.int .i64 p2] 280):=⟨_,rfl⟩;rw[<- go];have gh:Below wy.heap.size wy wz:=by rw[go];exact Zae _ _
     have g0:wz.heap[wy.heap.size]?=some (.cells #[.int .i64 p1,.int .i64 p2] 280 (0,0)):=by rw[go];exact heap_alloc_new _ _
     have z1:wz.cell? ⟨wy.heap.size,0,none⟩=some (.int .i64 p1):=by rw[cell_of_row _ _ 0 _ _ _ g0];rfl
     have z2:wz.cell? ⟨wy.heap.size,1,none⟩=some (.int .i64 p2):=by rw[cell_of_row _ _ 1 _ _ _ g0];rfl
     have gd:=Hd (gm.out.trans (gh.mono gm.out.size));have gQ:=Hd (gx.out.below gh);have gR:Hid (∀ q,q≠w.heap.size->q<wi.heap.size->wz.heap[q]?=wi.heap[q]?):=Hd fun q h1 h2=>(gh.block q (by omega)).trans (gy.out q h1 h2)
     have gU:wi.heap.size<=wz.heap.size:=Nat.le_trans gA gh.size;have v2:=(gd.out.cell (p:=⟨sb,2,none⟩) (Zab c2)).trans c2;have vt:=(gd.out.cell (p:=⟨gt,x,none⟩) (Zab gC)).trans gC;clear go gh g0 q1 q2 gx gy gm;obtain⟨a1,gk⟩:∃ q,q=eflip p1 (eneg p2):=⟨_,rfl⟩;obtain⟨a2,gj⟩:∃ q,q=eflip p2 (eneg p2):=⟨_,rfl⟩;have gn:Hid (bkey p1 p2=(a1,a2)):=Hd (by unfold bkey;rw[gk,gj])
     have gP:Hid (a1=a2↔p1=p2):=Hd ⟨fun e=>by
      by_cases e2:p1=p2
      . exact e2
      . exact(Zjx (b:=eneg p2) e2 (by rw[<- gk,<- gj,e])).elim,fun e=>by rw[gk,gj,e]⟩
     have g6:=Hd (Znz p1 p2 wz b1 b2);rw[<- gk,<- gj] at g6;obtain⟨ng,gK⟩:∃ q,q=eneg p2:=⟨_,rfl⟩;rw[<- gK] at g6;have gD:=Hd (gF.out.below gd.out hg.out);clear gk gj gK b1 b2;go_wp2_with fail;refine g6.out.mono ?_;rintro e w' ⟨rfl,rfl⟩;clear g6 z1 z2;have h7:∃ fd:Option Nat,fd=d.tab x (a1,a2):=⟨_,rfl⟩;obtain⟨fd,gu⟩:=h7;have gz:Hid (Calls prog 247 #[.pointer (some ⟨t,0,none⟩),.int .i64 a1,.int .i64 a2] wz fun x w'=>x=.returned (.tuple #[.int .i64 ((fd.getD 0:Nat):Int),.bool fd.isSome])/\wz=w'):=by
      refine Hd ?_;cases fd with
      | none=>exact Zrj o x t (d.tab x) a1 a2 wz gD.out gu.symm
      | some id=>exact Znp o x t (d.tab x) a1 a2 id wz gD.out gu.symm
     have gS:=Hd gu;clear gu;go_wp2_with fail;refine gz.out.mono ?_;rintro e w' ⟨rfl,rfl⟩;clear gz v2 vt;go_upto_region 12 with fail;obtain⟨wk,gp⟩:∃ wk,wk=wz.alloc (.cells #[.int .i64 a1,.int .i64 a2] 280):=⟨_,rfl⟩;rw[<- gp];have gi:Below wz.heap.size wz wk:=by rw[gp];exact Zae _ _
     have g0:wk.heap[wz.heap.size]?=some (.cells #[.int .i64 a1,.int .i64 a2] 280 (0,0)):=by rw[gp];exact heap_alloc_new _ _
     have z1:wk.cell? ⟨wz.heap.size,0,none⟩=some (.int .i64 a1):=by rw[cell_of_row _ _ 0 _ _ _ g0];rfl
     have z2:wk.cell? ⟨wz.heap.size,1,none⟩=some (.int .i64 a2):=by rw[cell_of_row _ _ 1 _ _ _ g0];rfl
     have ga:=Hd (gd.out.trans (gi.mono gd.out.size));have gl:=Hd (gQ.out.below gi);have HKK:Hid (∀ q,q≠w.heap.size->q<wi.heap.size->wk.heap[q]?=wi.heap[q]?):=Hd fun q h1 h2=>(gi.block q (by omega)).trans (gR.out q h1 h2)
     have ge:wi.heap.size<=wk.heap.size:=Nat.le_trans gU gi.size;clear gp gi g0 gQ gR gd gD
     by_cases g7:p1=p2
     ·have gO:a1=a2:=gP.out.2 g7;have g9:Hid (Zf6 (d.tab x) ((ts.take k).flatMap Zcc++[(ll,hl),(lh,hh)].take (j+1)) W2):=Hd (by rw[gw.out,<- List.append_assoc];exact HW.out.skip fun h=>(h g7).elim);have gX:((a1:Int) == a2)=true:=by simp[gO]
      clear g7 gO;go_wp2_with fail;go_roundw
      case rel=>exact⟨j+1,W2,by omega,by go_num,rfl,ga.out,ge,HKK.out,gl.out,g9⟩
      case measure=>simp[intOf];omega
     have gX:((a1:Int) == a2)=false:=by
      have h1:a1≠a2:=fun e=>g7 (gP.out.1 e)
      simp;omega
     cases fd with
     | some id =>
       have g9:Hid (Zf6 (d.tab x) ((ts.take k).flatMap Zcc++[(ll,hl),(lh,hh)].take (j+1)) W2):=Hd (by
        rw[gw.out,<- List.append_assoc];exact HW.out.skip fun _ h=>by rw[gn.out,<- gS.out] at h;cases h)
       clear g7;go_wp2_with fail;go_roundw
       case rel=>exact⟨j+1,W2,by omega,by go_num,rfl,ga.out,ge,HKK.out,gl.out,g9⟩
       case measure=>simp[intOf];omega
     | none =>
       have g1:=gl.out.lookup (P:=prog) Zpn underlying296 zeroValue4 (a1,a2) false;rw[Yam] at g1;simp only[Bool.false_eq_true,if_false] at g1
       by_cases g8:(a1,a2)∈W2
       ·rw[decide_eq_true g8] at g1
        have g9:Hid (Zf6 (d.tab x) ((ts.take k).flatMap Zcc++[(ll,hl),(lh,hh)].take (j+1)) W2):=Hd (by
         rw[gw.out,<- List.append_assoc];exact HW.out.skip fun _ _=>by rw[gn.out];exact g8)
        unfold encE at g1;dsimp only at g1;clear g7 g8;go_wp2_with fail;go_roundw
        case rel=>exact⟨j+1,W2,by omega,by go_num,rfl,ga.out,ge,HKK.out,gl.out,g9⟩
        case measure=>simp[intOf];omega
       ·rw[decide_eq_false g8] at g1
        have g9:Hid (Zf6 (d.tab x) ((ts.take k).flatMap Zcc++[(ll,hl),(lh,hh)].take (j+1)) (W2++[(a1,a2)])):=Hd (by
         rw[gw.out,<- List.append_assoc];have:=HW.out.add (p:=(p1,p2)) (by rw[gn.out,<- gS.out]) (by rw[gn.out];exact g8);rw[gn.out] at this;exact this)
        have gY:=Hd (Yan g8);have hw:W2.length<=4194312:=by
         have h1:=HW.out.len;have h2:((ts.take k).flatMap Zcc).length<=2*ts.length:=by
          rw[List.length_flatMap];have:((ts.take k).map fun a=>(Zcc a).length)=List.replicate (ts.take k).length 2:=by
           rw[List.eq_replicate_iff];exact⟨by simp,fun b hb=>by obtain⟨q,_,rfl⟩:=List.mem_map.1 hb;rfl⟩
          rw[this];simp;omega
         have h3:([(ll,hl),(lh,hh)].take j).length<=2:=by simp;omega
         rw[List.length_append] at h1;omega
        unfold encE at g1;dsimp only at g1;clear g7 g8;go_wp2_with (refine Zhl (l:=Zk5 W2) (enc:=encE) rfl _ _ _ rfl Zpn underlying296 (a1,a2) (.bool true) rfl rfl rfl gl.out ?_;intro w6 gB gr);rw[gY.out] at gB;have ho:=Hd (ga.out.grown gr ga.out.size (fun q hq=>by cases hq;exact Nat.le_refl _));have he:=Hd gB;have h4:wi.heap.size<=w6.heap.size:=Nat.le_trans ge gr.size;have hi:Hid (∀ q,q≠w.heap.size->q<wi.heap.size->w6.heap[q]?=wi.heap[q]?):=Hd fun q h1 h2=>(gr.block q (by omega) (fun e=>h1 (by injection e))).trans (HKK.out q h1 h2)
        clear gB gr;go_roundw
        case rel=>exact⟨j+1,W2++[(a1,a2)],by omega,by go_num,by simp,ho.out,h4,hi.out,he.out,g9⟩
        case measure=>simp[intOf];omega
    ·have h8:j=2:=by omega
     subst h8;have ha:Hid (Zf6 (d.tab x) ((ts.take (k+1)).flatMap Zcc) W2):=Hd (by rw[gE.out];exact HW.out);have gm:=Hd g4;have gx:=Hd g3;have h0:w1.heap.size<=wy.heap.size:=Nat.le_trans gT gA;clear g4 g3 g5;go_wp2_with fail;go_roundw
     case rel=>exact⟨k+1,W2,by omega,by go_num,rfl,gm.out,h0,gx.out,ha⟩
     case measure=>simp[intOf];omega
  ·have gN:k=ts.length:=by omega
   have h9:Hid (∃ W':List (Nat×Nat),Ending.returned (.int .i64 (Wt.length:Nat))=.returned (.int .i64 (W'.length:Nat))/\Zf6 (d.tab x) (ts.flatMap Zcc) W'/\Below w.heap.size w wr):=Hd ⟨Wt,rfl,by have:=HW.out;rw[gN,List.take_length] at this;exact this,gc.out⟩;have h6:¬ (k:Int)<ts.length:=by omega
   clear gN;go_wp2_with fail;go_ret;exact h9.out
end Go.Proofs.YtkidaindpahefaaGreat

namespace Go.Proofs.YtkidaindpahefaaGreat
open Go.Proofs.Tryz
open Go.RowKit Go.Shelf
open Go.ChangeMaps (setBlock)
def Ybe (n:Nat)(w:World)(v:Value)(ks:List (Nat×Nat)):Prop:=∃ a c,v=.slice a ks.length c/\∀ j q,ks[j]?=some q->∃ g,a=some ⟨g,0,none⟩/\n<=g/\w.cell? ⟨g,j*2,none⟩=some (.int .i64 q.1)/\w.cell? ⟨g,j*2+1,none⟩=some (.int .i64 q.2)
theorem Zkp (ks:List (Nat×Nat)){j:Nat}{q:Nat×Nat}(h:ks[j]?=some q)(i:Nat)(hi:i<2):(Go.Sort.flatK Zdi 2 ks.toArray)[j*2+i]! = (Zdi q)[i]! := by
 obtain⟨hj,rfl⟩:=List.getElem?_eq_some_iff.1 h;rw[Go.Sort.get_flatK _ _ _ _ (by simp;omega)];have e1:(j*2+i)/2=j:=by omega
 have e2:(j*2+i)%2=i:=by omega
 rw[e1,e2];congr 2;simp[hj]
theorem Zzx (ks:List (Nat×Nat)):(ks.flatMap Zdi).length=ks.length*2:=Zba Zdi 2 (fun _=>rfl) ks
theorem Zt7 {oG:Own}{w:World}{g cap m:Nat}{ks:List (Nat×Nat)}(h:RowR oG w .slots 280 2 (.slice (some ⟨g,0,none⟩) m cap) ks.length (ks.flatMap Zdi)):Go.Sort.HoldsK Zdi 2 w g 0 ks.toArray:=by
 intro j hj;have g0:j<ks.length*2:=by simpa using hj
 refine⟨?_,by rw[Nat.zero_add];exact h.frozen j⟩;rw[Nat.zero_add,h.cell j (by rw[Zzx];exact g0)];have hd:j/2<ks.length:=by omega
 have hm:j%2<2:=by omega
 have e:j=j/2*2+j%2:=by omega
 obtain⟨q,hq⟩:∃ q,ks[j/2]?=some q:=⟨_,List.getElem?_eq_getElem hd⟩;have h1:=Zfo Zdi 2 (fun _=>rfl) ks (j/2) (j%2) q hq hm;have h2:=Zkp ks hq (j%2) hm;rw[<- e] at h1 h2;rw[h1,h2];obtain h0|h0:j%2=0\/j%2=1:=by omega
 . rw[h0];rfl
 . rw[h0];rfl
theorem Zpq {n:Nat}{w:World}{g cap:Nat}{ks:List (Nat×Nat)}(hg:n<=g)(h:Go.Sort.HoldsK Zdi 2 w g 0 ks.toArray):Ybe n w (.slice (some ⟨g,0,none⟩) ks.length cap) ks:=by
 refine⟨_,_,rfl,fun j q hq=>⟨g,rfl,hg,?_,?_⟩⟩
 . have hj:=(List.getElem?_eq_some_iff.1 hq).1;have h1:=(h (j*2) (by simp;omega)).1;have h2:=Zkp ks hq 0 (by omega);rw[Nat.add_zero] at h2;rw[Nat.zero_add] at h1;rw[h1,h2];rfl
 . have hj:=(List.getElem?_eq_some_iff.1 hq).1;have h1:=(h (j*2+1) (by simp;omega)).1;have h2:=Zkp ks hq 1 (by omega);rw[Nat.zero_add] at h1;rw[h1,h2];rfl
theorem Yau {f:Nat×Nat->Option Nat}{W w:World}{v:Value}{ks:List (Nat×Nat)}{oG:Own}{Bx t mb:Nat}{lm:List ((Nat×Nat)×Value)}(row:RowR oG w .slots 280 2 v ks.length (ks.flatMap Zdi))(hlen:ks.length<1000000000)(hlow:Below W.heap.size W w)
 (cB:W.cell? ⟨Bx,0,none⟩=some (.pointer (some ⟨t,0,none⟩))) (cT:W.cell? ⟨t,0,none⟩=some (.map (some mb))) (ge:∀ k r,oG k=some r->W.heap.size<=k) (lt:Zah oG w) (hmap:∀ W':World,W'.heap[mb]?=W.heap[mb]?->Zbf W' mb encE lm) (hget:∀ k,getL lm k=(f k).map (fun(id:Nat)=>Value.int .i64 id))
 (lB:Bx<W.heap.size) (lT:t<W.heap.size) (lM:mb<W.heap.size) :
 Calls prog 269 #[v,.func (.func 270) #[] #[.pointer (some ⟨Bx,0,none⟩)]] w fun e w'=>e=.returned (.tuple #[])/\∃ ks':List (Nat×Nat),ks'.Perm ks/\Ybe W.heap.size w' v ks'/\Below W.heap.size W w':=by
 rcases row.ex with ⟨rfl,h0⟩|⟨g,cap,cur,rfl,g1,hg,_⟩
 ·have hk:ks=[]:=List.eq_nil_of_length_eq_zero h0;subst hk;have g0:=AnyF.slices_SortFunc_none Tryz.sortKeys none 0 (.func (.func 270) #[] #[.pointer (some ⟨Bx,0,none⟩)]) w
  change Calls prog 269 _ _ _ at g0
  refine g0.mono ?_;rintro e w' ⟨rfl,rfl⟩;exact⟨rfl,[],List.Perm.refl _,⟨none,0,rfl,fun j q h=>by simp at h⟩,hlow⟩
 . have h1:=ge g _ g1;refine(Zrl (f:=f) (Zt7 row) (lt g _ g1) hlen ((hlow.cell (p:=⟨Bx,0,none⟩) lB).trans cB) ((hlow.cell (p:=⟨t,0,none⟩) lT).trans cT) (hmap w (hlow.block mb lM)) hget (by omega) (by omega) (by omega)).mono ?_;rintro e w' ⟨rfl,ks',hp,hh,hs,e1,e2,e3,hk⟩;have:=hp.length_eq;refine⟨rfl,ks',hp,?_,⟨e1.trans hlow.os,e2.trans hlow.tape,e3.trans hlow.output,Nat.le_trans hlow.size hs,fun b hb=>(hk b (Nat.lt_of_lt_of_le hb hlow.size) (by omega)).trans (hlow.block b hb)⟩⟩;rw[<- this];exact Zpq h1 hh
theorem Zve {F:Fence}{n:Nat}{P:Program}{c:Code}{Q:Exit->Act->World->Prop}{a:Act}{w:World}(R:World->Prop)(h:∃ A,c.wpIn F n P (fun e a' W'=>match e with|.normal=>a'=A/\R W'|_=>False) a w/\∀ W',R W'->Q .normal A W'):c.wpIn F n P Q a w:=by
 obtain⟨A,h1,h2⟩:=h;refine wpIn_mono h1 ?_;intro e a' W' h;cases e with
 | normal=>obtain⟨rfl,h3⟩:=h;exact h2 _ h3
 | _=>exact h.elim
structure YS (n₀:Nat)(W w2:World)(Bx t:Nat)(ak:Option Addr)(ks:List (Nat×Nat))(M M1:Nat->Prop)(wr:World):Prop where
 low:Below n₀ W wr
 box:wr.cell? ⟨Bx,0,none⟩=some (.pointer (some ⟨t,0,none⟩))
 keys:∀ j q,ks[j]?=some q->∃ g,ak=some ⟨g,0,none⟩/\W.heap.size<=g/\g<w2.heap.size/\wr.cell? ⟨g,j*2,none⟩=some (.int .i64 q.1)/\wr.cell? ⟨g,j*2+1,none⟩=some (.int .i64 q.2)
 nb:¬ M1 Bx
 sub:∀ k,M1 k->M k\/w2.heap.size<=k
 lt:∀ k,M k->k<W.heap.size
 ge:∀ k,M1 k->n₀<=k
 wr:Wr (fun k=>n₀<=k) w2 wr
theorem YS.go {n₀:Nat}{W w2:World}{Bx t:Nat}{ak:Option Addr}{ks:List (Nat×Nat)}{M M1 M2:Nat->Prop}{wr wx w':World}(h:YS n₀ W w2 Bx t ak ks M M1 wr)(hn:n₀<=W.heap.size)(hx:Below wr.heap.size wr wx)(hw:Wr M1 wx w')(hM:∀ k,M2 k->M1 k\/wx.heap.size<=k):YS n₀ W w2 Bx t ak ks M M2 w':=by
 have s0:=h.low.size;have s1:=h.wr.size;have s2:=hx.size;have keep:∀ {b k:Nat} {v:Value},wr.cell? ⟨b,k,none⟩=some v->¬ M1 b->w'.cell? ⟨b,k,none⟩=some v:=fun {b k v} hc hb=>by
  have g0:b<wr.heap.size:=Zab hc;exact(World.cell?_of_block (w:=wx) (a:=⟨b,k,none⟩) (hw.keep b (by omega) hb)).trans ((hx.cell (p:=⟨b,k,none⟩) g0).trans hc)
 refine⟨h.low.trans ((hx.mono (by omega)).trans (hw.below h.ge (by omega))),keep h.box h.nb,fun j q hq=>?_,fun e=>?_,fun k hk=>?_,h.lt,fun k hk=>?_,h.wr.trans ((Wr.of_below hx (fun k=>n₀<=k)).trans hw (fun _ _ e=>e) (fun k _ hk=>h.ge k hk)) (fun _ _ e=>e) (fun _ _ e=>e)⟩
 ·obtain⟨g,e,a1,a2,a3,a4⟩:=h.keys j q hq;have hg:¬ M1 g:=fun hg=>by
   rcases h.sub g hg with h1|h1
   . have:=h.lt g h1;omega
   . omega
  exact⟨g,e,a1,a2,keep a3 hg,keep a4 hg⟩
 ·rcases hM Bx e with h1|h1
  . exact h.nb h1
  . have:=Zab h.box;simp at this;omega
 ·rcases hM k hk with h1|h1
  . exact h.sub k h1
  . right;omega
 ·rcases hM k hk with h1|h1
  . exact h.ge k h1
  . omega
theorem Zl5 (n n₀ Bx t v:Nat){o:Own}{w0:World}{f:Nat×Nat->Option Nat}(ht:Zc9 o w0 v t f)(hlt:Zah o w0)(h0:w0.heap.size<=n₀)(w:World)(hw:Below n₀ w0 w)(hn0:n₀<=w.heap.size)(hBn:n₀<=Bx)(hBp:w.cell? ⟨Bx,0,none⟩=some (.pointer (some ⟨t,0,none⟩)))
 (hcard:∀ l:List ((Nat×Nat)×Value),(l.map Prod.fst).Nodup->(∀ k,getL l k=(f k).map (fun(id:Nat)=>Value.int .i64 id))->l.length<1000000000) :
 Ybd Fence.wide n 0 prog 268 #[.pointer (some ⟨Bx,0,none⟩)] (fun p:(Nat×Nat)×Nat=>#[encE p.1,.int .i64 p.2]) n₀ (· = Bx) (fun xs=>(xs.map Prod.fst).Nodup/\∀ k id,(k,id)∈xs↔f k=some id) w:=by
 intro l J M W gX gY gm h7 hY hJ;have k6:Bx<W.heap.size:=Nat.lt_of_lt_of_le (Zab hBp) gm.size;have gc:Below n₀ w0 W:=hw.trans (gm.below (fun k h=>h.1) hn0);have cB:W.cell? ⟨Bx,0,none⟩=some (.pointer (some ⟨t,0,none⟩)):=(World.cell?_of_block (w:=w) (a:=⟨Bx,0,none⟩) (gm.keep Bx (Zab hBp) (fun h=>h.2 rfl))).trans hBp;obtain⟨mb,lm,h1,h2,h3,h4⟩:=ht.ex;have hZ:t<w0.heap.size:=(Array.getElem?_eq_some_iff.1 h1).1;have hT:W.heap[t]?=some (.cells #[.map (some mb)] 230 (0,0)):=(gc.block t (by omega)).trans h1;have cT:=cell1 hT;have k3:mb<w0.heap.size:=h3.lt;obtain⟨es,clock,gO,gl,g9,gB⟩:=h3.ex;have hM:W.heap[mb]?=some (.map es clock):=(gc.block mb (by omega)).trans gO;have gL:=run_range_map (P:=prog) W 228 _ _ mb es clock underlying228 hM;obtain⟨W1,gn⟩:∃ W1,W1=W.alloc (.mapIter (some mb) clock #[] clock):=⟨_,rfl⟩;have gU:Below W.heap.size W W1:=by rw[gn];exact Zae _ _
 have gR:W1.heap[W.heap.size]?=some (.mapIter (some mb) clock #[] clock):=by rw[gn];exact heap_alloc_new _ _
 rw[<- gn] at gL;have gP:mb<W.heap.size:=by have:=gc.size;omega
 have gy:es.size<1000000000:=by
  have e1:=congrArg List.length gl;have e2:=hcard lm h3.nodup h4;simp at e1;omega
 have hu:=Hd gy;have gE:Hid (∀ W',W'.heap[mb]?=W.heap[mb]?->Zbf W' mb encE lm):=Hd fun W' hh=>⟨⟨es,clock,hh.trans hM,gl,g9,gB⟩,h3.nodup⟩
 have gd:=Hd h4;have hO:=Hd (hcard lm h3.nodup h4);have hK:=Hd h3.nodup;have HM:=Hd hM;have gI:=Hd g9;have hf:=Hd gB;have hd:=Hd gl;have hX:=Hd gU;have hc:=Hd gR;have HJ:=Hd hJ;have hL:=Hd (h7 Bx rfl);have HY:=Hd hY;have h9:=Hd gX;have ha:=Hd gY;obtain⟨r,hr⟩:∃ r,r=W.heap.size:=⟨_,rfl⟩;rw[<- hr] at gL hc;have HR:=Hd hr;clear hcard gy hJ hY gX gY gU gR gn hM g9 gB gl h1 h2 h3 h4 hT gO ht gm h7 hw hr;refine callsIn_of_wp func268 rfl trivial ?_ rfl;refine wpIn_wide.2 ?_;simp only[ntmps268,List.size_toArray,List.length_cons,List.length_nil,Nat.reduceAdd,Nat.reduceSub,Array.replicate_succ,Array.replicate_zero,List.push_toArray,List.append_toArray,List.nil_append,List.cons_append];go_wp2_with fail
 go_loopg [3] (leftOf es #[]).size (fun gk s3 wr=>∃ seen ks sl oG,KeyS W mb r clock es seen ks sl s3 oG wr/\gk=(leftOf es seen).size)
 case atStart=>exact⟨#[],[],[],fun _=>none,⟨hX.out,hc.out,Zkc.start es clock,RowR.nil _ _ _ _ _,fun k q h=>(by cases h),fun k q h=>(by cases h),rfl,by have h:(leftOf es #[]).size<=es.size:=(by unfold leftOf;exact Array.size_filter_le);simpa using h⟩,rfl⟩
 case round =>
  obtain⟨seen,ks,sl,oG,hS,gx⟩:=hrel;have gp:=(hS.low.block mb gP).trans HM.out;have g8:ks.length<1000000000:=by have:=hS.cnt;have:=hu.out;omega
  rcases run_next_at (P:=prog) wr 0 r mb clock clock seen es clock hS.it gp gI.out (Nat.le_refl _) with ⟨hz,g4⟩|⟨e,he,w1,g6,g4⟩
  ·have gi:=hS.came.keysOf (w:=W) (b:=mb) hf.out hz hd.out;have gh:=Yau hS.row g8 (hS.low.trans (Below.refl _ _)) cB cT (fun k q h=>(hS.ge k q h).2) hS.lt gE.out gd.out (Zab cB) (Zab cT) gP;have gH:=Hd gi;have gG:=Hd gh;clear hS hz gi gh;go_wp2_with fail;refine gG.out.mono ?_;rintro x w2 ⟨rfl,ks',hp,hv,g5⟩;obtain⟨ak,ck,rfl,ga⟩:=hv;have HP:=Hd (hp.trans gH.out);have hU:=Hd ga;have HB2:=Hd g5;have h6:J [] M w2:=ha.out _ _ _ _ HJ.out ⟨g5.os,g5.tape,g5.output,g5.size,fun k hk _=>g5.block k hk⟩;have hQ:=Hd h6;clear hp ga g5 h6 g4 gp g8 gx;go_wp2_with fail;refine(wpIn_wide (n:=n)).1 ?_;obtain⟨xs,gv⟩:∃ xs,xs=ks'.map (fun k=>(k,(f k).getD 0)):=⟨_,rfl⟩;have gj:=Zwp HP.out hK.out gd.out gv;have k4:ks'.length<1000000000:=by have h1:=HP.out.length_eq;have h2:=hO.out;simp at h1;omega
   have h8:=Hd gv;have gu:=Hd gj;have gJ:YS n₀ W w2 Bx t ak ks' M M w2:=by
    refine⟨HB2.out.mono (by omega),(HB2.out.cell (p:=⟨Bx,0,none⟩) (Zab cB)).trans cB,fun j q hq=>?_,hL.out,fun k h=>.inl h,fun k hk=>(h9.out _ _ _ HJ.out k hk).2,fun k hk=>(h9.out _ _ _ HJ.out k hk).1,Wr.refl _ _⟩;obtain⟨g,a1,a2,a3,a4⟩:=hU.out j q hq;exact⟨g,a1,a2,Zab a3,a3,a4⟩
   have hD:=Hd gJ;have k0:prog.follows .mixedOrders=true:=by kernel_rfl
   clear gv gj gJ
   gi_loopw [27] (fun i wr=>∃ (k:Nat) (M1:Nat->Prop),k<=ks'.length/\i=.int .i64 k/\J (xs.take k) M1 wr/\YS n₀ W w2 Bx t ak ks' M M1 wr) (fun i _=>ks'.length-(intOf i).toNat)
   case atStart=>exact⟨0,M,Nat.zero_le _,rfl,hQ.out,hD.out⟩
   case round =>
    obtain⟨k,M1,hk,rfl,gr,hS⟩:=hrel
    by_cases gw:k<ks'.length
    ·obtain⟨q,hq⟩:∃ q,ks'[k]?=some q:=⟨_,List.getElem?_eq_getElem gw⟩;obtain⟨g,hC,hB,hA,e0,e1⟩:=hS.keys k q hq;subst hC;have k5:(k:Int)<ks'.length:=by omega
     have cB3:=hS.box;have cT3:=(hS.low.cell (p:=⟨t,0,none⟩) (by show t<n₀;omega)).trans cT;obtain⟨w3,g0⟩:∃ w3,w3=wr.alloc (.cells #[.int .i64 q.1,.int .i64 q.2] 280):=⟨_,rfl⟩;have g2:Below wr.heap.size wr w3:=by rw[g0];exact Zae _ _
     have h5:J (xs.take k) M1 w3.drew:=ha.out _ _ _ _ gr (by
      have:=(Wr.of_below g2 (fun k=>n₀<=k/\¬ M1 k)).drew;exact this)
     have g7:=Yav (G:=fun xs:List ((Nat×Nat)×Nat)=>(xs.map Prod.fst).Nodup/\∀ k id,(k,id)∈xs↔f k=some id) gu.out (k:=k) (x:=(q,(f q).getD 0)) (by rw[h8.out,List.getElem?_map,hq];rfl);obtain⟨suf,g7,gg⟩:=g7;obtain⟨fn,tmps,assign,body,hy,gV⟩:=HY.out _ (q,(f q).getD 0) M1 w3.drew h5 ⟨suf,g7⟩;have hj:mb<n₀:=by omega
     have gF:=Yd1 (gE.out w3.drew ((g2.block mb (by have:=hS.low.size;omega)).trans (hS.low.block mb hj))) gd.out q;have gT:w3.heap[wr.heap.size]?=some (.cells #[.int .i64 q.1,.int .i64 q.2] 280 (0,0)):=by rw[g0];exact heap_alloc_new _ _
     obtain⟨x0,x1,_⟩:=cells2 gT;have b3:=(g2.cell (p:=⟨Bx,0,none⟩) (Zab cB3)).trans cB3;have t3:=(g2.cell (p:=⟨t,0,none⟩) (Zab cT3)).trans cT3;simp only[encE] at hy;have hH:=Hd gV;have HS:=Hd hS;have hg:=Hd g2;have hE:=Hd gg;have gD:Hid (_=w3):=Hd g0.symm;obtain⟨b6,gC⟩:∃ b6,b6=wr.heap.size:=⟨_,rfl⟩;have hW:Hid (_=b6):=Hd gC.symm;rw[<- gC] at x0 x1;clear gT hS g2 h5 gr g7 gV gg g0 gC gw hB hA hq cB3 cT3
     gi_wp2
     rw[gD.out,hW.out];refine Zve (fun W'=>∃ M3,J (xs.take k++[(q,(f q).getD 0)]) M3 W'/\Wr M1 w3.drew W'/\∀ k,M3 k->M1 k\/w3.drew.heap.size<=k) ?_;apply Exists.intro;refine⟨?_,?_⟩
     ·gi_region_with_o (refine⟨fun h=>(by cases h),hH.out.mono ?_⟩;rintro e W4 ⟨rfl,M3,gt,gf,gq⟩)
      all_goals exact⟨rfl,M3,gt,gf,gq⟩
     ·rintro W4 ⟨M3,gt,gf,gq⟩;have hP:=Hd gt;have hG:=Hd (HS.out.go (by omega) (hg.out.trans ((Zag w3 1).mono hg.out.size)) gf gq);clear gt gf gq x0 x1 b3 t3 e0 e1 gF hy
      gi_wp2
      go_roundw
      case rel=>exact⟨k+1,M3,by omega,by go_num,by rw[hE.out];exact hP.out,hG.out⟩
      case measure=>simp[intOf];omega
    ·obtain rfl:k=ks'.length:=by omega
     have hb:=Hd gr;have HS:=Hd hS;clear gr hS
     gi_wp2
     go_end0;have ht:xs.take ks'.length=xs:=List.take_of_length_le (by rw[h8.out];simp);rw[ht] at hb;exact⟨⟨_,rfl⟩,xs,M1,gu.out,hb.out,(Wr.of_below HB2.out (fun k=>n₀<=k)).trans HS.out.wr (fun _ _ e=>e) (fun _ _ e=>e),fun k hk=>(HS.out.sub k hk).imp id fun h=>Nat.le_trans HB2.out.size h⟩
  ·have gA:=(mem_left he).1;obtain⟨q,hq⟩:∃ q,e.key=encE q:=by
    have h1:(e.key,e.val)∈es.toList.map (fun e=>(e.key,e.val)):=List.mem_map.2 ⟨e,gA,rfl⟩;rw[hd.out] at h1;obtain⟨p,_,h2⟩:=List.mem_map.1 h1;exact⟨p.1,(Prod.mk.inj h2).1.symm⟩
   obtain⟨w2,g3⟩:∃ w2,w2=setBlock w1 r (.mapIter (some mb) clock (seen.push e.born) clock):=⟨_,rfl⟩;have hi:=g3;obtain⟨w3,g0⟩:∃ w3,w3=w2.alloc (.cells #[.int .i64 q.1,.int .i64 q.2] 280):=⟨_,rfl⟩;have g2:Below w2.heap.size w2 w3:=by rw[g0];exact Zae _ _
   obtain⟨row3,lt3⟩:=hS.row3 g6 g3 g2;have z2:w2.heap.size=wr.heap.size:=by rw[g3];rcases g6 with rfl|rfl<;>simp[setBlock]
   have gK:r<wr.heap.size:=(Array.getElem?_eq_some_iff.1 hS.it).1;have gN:mb≠r:=by have:=HR.out;omega
   have gZ:w2.heap[mb]?=some (.map es clock):=by rw[g3];rcases g6 with rfl|rfl<;>simp[setBlock,Array.getElem?_setIfInBounds,Ne.symm gN]<;>exact gp
   have i2:w2.heap[r]?=some (.mapIter (some mb) clock (seen.push e.born) clock):=by rw[g3];rcases g6 with rfl|rfl<;>simp[setBlock,gK]
   have gz:=run_entry_at (P:=prog) w2 r mb clock seen es clock e i2 gZ gA hf.out;have hI:Hid (∀ (g1 k1:Nat) (w4:World) (o1:Own),RowR o1 w4 .slots 280 2 (.slice (some ⟨g1,0,none⟩) (ks.length+1) k1) (ks.length+1) (ks.flatMap Zdi++Zdi q)->Chg (· = .slots) oG o1 w3 w4->Zah o1 w4->KeyS W mb r clock es (seen.push e.born) (ks++[q]) (sl++[e]) (.slice (some ⟨g1,0,none⟩) (ks.length+1) k1) o1 w4) :=
    Hd fun g1 k1 w4 o1 a b c=>hS.next (by have:=HR.out;omega) he hq g6 g3 g2 a b c
   have hF:=Hd (left_shrinks es seen e he);have cB2:w3.cell? ⟨w2.heap.size,0,none⟩=some (.int .i64 q.1):=by rw[g0,cell_of_row _ _ 0 _ _ _ (heap_alloc_new w2 _)];rfl
   have cB3:w3.cell? ⟨w2.heap.size,1,none⟩=some (.int .i64 q.2):=by rw[g0,cell_of_row _ _ 1 _ _ _ (heap_alloc_new w2 _)];rfl
   have hR:=Hd gx;have ho:=Hd g8;have hm:=Hd row3;have hn:=Hd lt3;rw[hq] at g4 gz;rw[<- g3] at g4;unfold encE at g4 gz;have gD:Hid (_=w3):=Hd g0.symm;clear hS he gA hq g6 g3 hi g0 g2 row3 lt3 z2 gK gN gZ i2 gp gx g8;go_upto_region 5 with fail;rw[gD.out]
   go_wp2_with (at_builtin
                refine Zdq (wr:=w3) 297 280 2 16 _ underlying297 Ycx rfl (by decide) rfl _ _ rfl rfl rfl rfl rfl rfl (by simp[Value.oneCell']) hm.out hn.out ho.out (by decide) ?_;intro g1 k1 w4 o1 gM gS gQ;have hN:=Hd (hI.out g1 k1 w4 o1 gM gS gQ);clear gM gS gQ)
   go_roundg (leftOf es (seen.push e.born)).size
   case rel=>exact⟨_,_,_,_,hN.out,rfl⟩
   case measure=>have h1:=hF.out;have h2:=hR.out;omega
open Go.RowKit
theorem Zg0:∀ (n:Nat) (l:List Nat),l.Nodup->(∀ x∈l,x<n)->l.length<=n
 | 0,l,_,h=>by
   cases l with
   | nil=>simp
   | cons a l=>have:=h a (by simp);omega
 | n+1,l,hn,h=>by
   by_cases hm:n∈l
   ·have h1:=Zg0 n (l.erase n) (hn.erase n) (fun x hx=>by
     have h2:=h x (List.mem_of_mem_erase hx);have h3:x≠n:=fun e=>by subst e;exact(List.Nodup.not_mem_erase hn) hx
     omega)
    rw[List.length_erase_of_mem hm] at h1;omega
   ·have h1:=Zg0 n l hn (fun x hx=>by
     have h2:=h x hx;have h3:x≠n:=fun e=>by subst e;exact hm hx
     omega)
    omega
theorem Yaw {d:Zad}{x:Nat}(ht:∀ lo hi id,d.tab x (lo,hi)=some id->Zaa d id=some ⟨x,lo,hi⟩){n:Nat}(hlt:∀ i b,Zaa d i=some b->i<n)(hn:n<1000000000)(l:List ((Nat×Nat)×Value))(hnd:(l.map Prod.fst).Nodup)(hf:∀ k,getL l k=(d.tab x k).map (fun(id:Nat)=>Value.int .i64 id)):l.length<1000000000:=by
 have hk:∀ k∈l.map Prod.fst,∃ id,d.tab x k=some id:=fun k hk=>by
  cases h:d.tab x k with
  | some id=>exact⟨id,rfl⟩
  | none =>
    have h1:=Zd2 (l:=l) (k:=k);rw[hf k,h] at h1;obtain⟨p,hp,rfl⟩:=List.mem_map.1 hk;exact absurd rfl (h1.1 rfl p hp)
 have g0:(((l.map Prod.fst)).map fun k=>(d.tab x k).getD 0).Nodup:=by
  refine List.pairwise_map.2 (hnd.imp_of_mem ?_);intro a b ha hb g2 e;obtain⟨i,hi⟩:=hk a ha;obtain⟨j,hj⟩:=hk b hb;rw[hi,hj] at e;simp only[Option.getD_some] at e;subst e;have e1:=ht a.1 a.2 _ hi;have e2:=ht b.1 b.2 _ hj;rw[e1] at e2;simp only[Option.some.injEq,BN.mk.injEq,true_and] at e2;exact g2 (Prod.ext e2.1 e2.2)
 have:=Zg0 n _ g0 (fun i hi=>by
  obtain⟨k,g1,rfl⟩:=List.mem_map.1 hi;obtain⟨id,h1⟩:=hk k g1;rw[h1];exact hlt _ _ (ht k.1 k.2 _ h1))
 simp at this;omega
end Go.Proofs.YtkidaindpahefaaGreat

namespace Go.Proofs.YtkidaindpahefaaGreat
open Go.Proofs.Tryz
open Go.RowKit Go.Shelf
attribute [local go_sem] Oper.semAt_some
theorem Zr7 (t:Nat)(w:World):Calls prog 257 #[.pointer (some ⟨t,0,none⟩)] w fun e w'=>e=.returned (.func (.func 268) #[] #[.pointer (some ⟨w.heap.size,0,none⟩)])/\w'=w.alloc (.cells #[.pointer (some ⟨t,0,none⟩)] 173):=by
 have g0:∀ (fn:Fn) (first cap:Array Value) (w:World),(Instr.makeFunc fn first cap).run prog w=.ok (.func fn first cap) w:=fun _ _ _ _=>rfl
 go_enter func257,ntmps257
 go_wp2_with fail;go_ret;exact⟨rfl,rfl⟩
def Zeo (d:Zad)(y:Nat)(pre:List ((Nat×Nat)×Nat)):List TN:=(pre.filter (fun p=>Zez d y p.2)).map (fun p=>tnOf d y p.2)
structure TurS (d:Zad)(y:Nat)(w:World)(sb:Nat)(pre:List ((Nat×Nat)×Nat))(M:Nat->Prop)(W:World)(v:Value)(oG:Own):Prop where
 mm:∀ k,M k↔(k=w.heap.size\/k=w.heap.size+1\/k=w.heap.size+2\/oG k=some .slots)
 low:Below w.heap.size w W
 boxs:W.heap[w.heap.size]?=some (.cells #[.pointer (some ⟨sb,0,none⟩)] 96 (0,0))
 boxy:W.heap[w.heap.size+1]?=some (.cells #[.int .i64 y] 3 (0,0))
 boxg:W.heap[w.heap.size+2]?=some (.cells #[v] 249 (0,0))
 row:RowR oG W .slots 256 9 v (Zeo d y pre).length ((Zeo d y pre).flatMap tnV)
 lt:Zah oG W
 ge:∀ k r,oG k=some r->r=.slots/\w.heap.size+3<=k
theorem TurS.no {d:Zad}{y:Nat}{w:World}{sb:Nat}{pre:List ((Nat×Nat)×Nat)}{M:Nat->Prop}{W:World}{v:Value}{oG:Own}(h:TurS d y w sb pre M W v oG)(k:Nat)(hk:k<w.heap.size+3):oG k=none:=by
 cases e:oG k with
 | none=>rfl
 | some r=>have:=(h.ge k r e).2;omega
theorem TurS.minds {d:Zad}{y:Nat}{w:World}{sb:Nat}{pre:List ((Nat×Nat)×Nat)}{M:Nat->Prop}{W W':World}{v:Value}{oG:Own}(h:TurS d y w sb pre M W v oG)(hw:Wr (fun k=>w.heap.size<=k/\¬ M k) W W'):TurS d y w sb pre M W' v oG:=by
 have hk:∀ k,k<W.heap.size->M k->W'.heap[k]?=W.heap[k]?:=fun k h1 h2=>hw.keep k h1 (fun e=>e.2 h2)
 have hm:=h.mm
 refine⟨hm,h.low.trans (hw.below (fun k h=>h.1) h.low.size),(hk _ (Array.getElem?_eq_some_iff.1 h.boxs).1 ((hm _).2 (.inl rfl))).trans h.boxs,(hk _ (Array.getElem?_eq_some_iff.1 h.boxy).1 ((hm _).2 (.inr (.inl rfl)))).trans h.boxy,
  (hk _ (Array.getElem?_eq_some_iff.1 h.boxg).1 ((hm _).2 (.inr (.inr (.inl rfl))))).trans h.boxg,h.row.keep (fun g hg=>hk g (h.lt g _ hg) ((hm g).2 (.inr (.inr (.inr hg))))) (fun _ h=>h),h.lt.mono hw.size,h.ge⟩
theorem Ya0 {d:Zad}{y:Nat}{pre:List ((Nat×Nat)×Nat)}{p:(Nat×Nat)×Nat}(h:Zez d y p.2=false):Zeo d y (pre++[p])=Zeo d y pre:=by unfold Zeo;rw[List.filter_append];simp[h]
theorem Zy1 {d:Zad}{y:Nat}{pre:List ((Nat×Nat)×Nat)}{p:(Nat×Nat)×Nat}(h:Zez d y p.2=true):Zeo d y (pre++[p])=Zeo d y pre++[tnOf d y p.2]:=by unfold Zeo;rw[List.filter_append];simp[h]
theorem TurS.skip {d:Zad}{y:Nat}{w:World}{sb:Nat}{pre:List ((Nat×Nat)×Nat)}{M:Nat->Prop}{W:World}{v:Value}{oG:Own}{p:(Nat×Nat)×Nat}(h:TurS d y w sb pre M W v oG)(hp:Zez d y p.2=false):TurS d y w sb (pre++[p]) M W v oG :=
 ⟨h.mm,h.low,h.boxs,h.boxy,h.boxg,by rw[Ya0 hp];exact h.row,h.lt,h.ge⟩
theorem TurS.add {d:Zad}{y:Nat}{w:World}{sb:Nat}{pre:List ((Nat×Nat)×Nat)}{M:Nat->Prop}{W W1:World}{v v':Value}{oG oG':Own}{p:(Nat×Nat)×Nat}(h:TurS d y w sb pre M W v oG)(hp:Zez d y p.2=true)
 (hr:RowR oG' W1 .slots 256 9 v' ((Zeo d y pre).length+1) (((Zeo d y pre).flatMap tnV)++tnV (tnOf d y p.2))) (hg:Chg (· = .slots) oG oG' W W1) (hl:Zah oG' W1) {n:Nat} (hn:n<=W.heap.size) :
 ∃ M',(∃ v oG,TurS d y w sb (pre++[p]) M' (W1.setCell ⟨w.heap.size+2,0,none⟩ v') v oG)/\Wr (fun k=>M k\/n<=k) W (W1.setCell ⟨w.heap.size+2,0,none⟩ v')/\∀ k,M' k->M k\/n<=k:=by
 have g0:w.heap.size+2<W.heap.size:=(Array.getElem?_eq_some_iff.1 h.boxg).1;have k0:=(hg.alien (by omega) (h.no w.heap.size (by omega))).trans h.boxs;have ky:=(hg.alien (by omega) (h.no (w.heap.size+1) (by omega))).trans h.boxy;have k1:=(hg.alien g0 (h.no (w.heap.size+2) (by omega))).trans h.boxg;have ge':∀ k r,oG' k=some r->r=.slots/\w.heap.size+3<=k:=fun k r hk=>by
  by_cases e:oG' k=oG k
  . rw[e] at hk;exact h.ge k r hk
  ·obtain⟨a1,q,a2,a3⟩:=hg.new k e;rw[hk] at a2;cases a2
   exact⟨a3,by omega⟩
 refine⟨fun k=>k=w.heap.size\/k=w.heap.size+1\/k=w.heap.size+2\/oG' k=some .slots,⟨v',oG',⟨fun k=>Iff.rfl,?_,?_,?_,Zac k1 _,?_,hl.mono (by simp[World.setCell]),ge'⟩⟩,?_,fun k hk=>?_⟩
 . have:Below w.heap.size w W1:=h.low.trans ⟨hg.os,hg.tape,hg.output,hg.size,fun k hk=>hg.alien (Nat.lt_of_lt_of_le hk h.low.size) (h.no k (by omega))⟩;exact this.setCell (p:=⟨w.heap.size+2,0,Option.none⟩) (by show _<=w.heap.size+2;omega) _
 . exact(Zaf (by show _≠w.heap.size+2;omega) _).trans k0
 . exact(Zaf (by show _≠w.heap.size+2;omega) _).trans ky
 . rw[Zy1 hp,List.length_append,List.flatMap_append];simp only[List.length_singleton,List.flatMap_cons,List.flatMap_nil,List.append_nil];exact hr.setCell_other (fun e=>by have:=(ge' _ _ e).2;simp at this) _
 . have:Wr (fun k=>M k\/n<=k) W W1:=⟨hg.os,hg.tape,hg.output,hg.size,fun k hk hm=>hg.block k hk fun r hr e=>hm (.inl ((h.mm k).2 (.inr (.inr (.inr (by rw[hr,e]))))))⟩;exact this.setCell (p:=⟨w.heap.size+2,0,Option.none⟩) (.inl (.inl ((h.mm _).2 (.inr (.inr (.inl rfl)))))) _
 ·rcases hk with hk|hk|hk|hk
  . exact .inl ((h.mm k).2 (.inl hk))
  . exact .inl ((h.mm k).2 (.inr (.inl hk)))
  . exact .inl ((h.mm k).2 (.inr (.inr (.inl hk))))
  ·by_cases e:oG' k=oG k
   . rw[e] at hk;exact .inl ((h.mm k).2 (.inr (.inr (.inr hk))))
   . have:=(hg.new k e).1;right;omega
theorem Ybz {d:Zad}{x:Nat}(ht:∀ lo hi id,d.tab x (lo,hi)=some id->Zaa d id=some ⟨x,lo,hi⟩){n:Nat}(hlt:∀ i b,Zaa d i=some b->i<n){xs:List ((Nat×Nat)×Nat)}(hnd:(xs.map Prod.fst).Nodup)(hf:∀ k id,(k,id)∈xs->d.tab x k=some id):xs.length<=n:=by
 have h1:(xs.map Prod.snd).Nodup:=by
  rw[List.nodup_iff_pairwise_ne,List.pairwise_map];rw[List.nodup_iff_pairwise_ne,List.pairwise_map] at hnd;refine hnd.imp_of_mem fun {a b} ha hb g0 e=>g0 ?_
  have q1:=ht _ _ _ (hf a.1 a.2 ha);have q2:=ht _ _ _ (hf b.1 b.2 hb);rw[e,q2] at q1;cases a;cases b
  simp at q1;exact Prod.ext q1.1.symm q1.2.symm
 have h2:=Zg0 n (xs.map Prod.snd) h1 (fun i hi=>by
  obtain⟨q,hq,rfl⟩:=List.mem_map.1 hi;exact hlt _ _ (ht _ _ _ (hf q.1 q.2 hq)))
 simpa using h2
theorem Zml:(prog.info? 256).map (fun i=>(i.zero,i.size,i.bytes))=some (some (.agg #[.int .i64 0,.int .i64 0,.int .i64 0,.int .i64 0,.int .i64 0,.int .i64 0,.int .i64 0,.int .i64 0,.int .i64 0]),9,72):=by kernel_rfl
theorem Zyz (N:RN)(ll lh hl hh:Nat):tnV ⟨N,ll,lh,hl,hh⟩=[.int .i64 N.id,.int .i64 N.v,.int .i64 N.lo,.int .i64 N.hi,.int .i64 N.refs,.int .i64 ll,.int .i64 lh,.int .i64 hl,.int .i64 hh]:=rfl
theorem Ya1 {o:Own}{w:World}{sb:Nat}{d:Zad}{V:Nat->BF}(h:Zar o w sb d)(hlt:Zah o w)(hk:Zak d V)(x y:Nat)(hx:x<d.vars.length) :
 Calls prog 216 #[.pointer (some ⟨sb,0,none⟩),.int .i64 x,.int .i64 y] w fun e w'=>∃ (v:Value) (ids:List Nat),e=.returned v/\ids.Nodup/\(∀ i,i∈ids↔Turns (Zaa d) x y i)/\TRow w' w.heap.size v (ids.map (tnOf d y))/\Below w.heap.size w w':=by
 obtain⟨s,h⟩:=h;obtain⟨gt,ct,hE,gF,hF,hG⟩:=h.tabAt hx;obtain⟨c0,c1,c2,c3,c4,f0⟩:=cells5 h.blk;rw[hE] at c2;obtain⟨t,ht⟩:∃ t,t=s.ts.getD x 0:=⟨_,rfl⟩;rw[<- ht] at gF;have gv:=h.tab x hF;rw[<- ht] at gv;have hz:=Hd gv;have gr:=Hd h;have gu:=Hd hlt;have HK:=Hd hk;clear ht gv;have k3:(x:Int)<s.ts.length:=by omega
 obtain⟨w1,gC⟩:∃ w1,w1=((w.alloc (.cells #[.pointer (some ⟨sb,0,none⟩)] 96)).alloc (.cells #[.int .i64 y] 3)).alloc (.cells #[.slice none 0 0] 249):=⟨_,rfl⟩;have HW1:Hid (_=w1):=Hd gC.symm;have gq:Below w.heap.size w w1:=by rw[gC];exact((Zae _ _).alloc (by simp) _).alloc (by simp;omega) _
 have c2':=(gq.cell (p:=⟨sb,2,none⟩) (Zab c2)).trans c2;have hu:=(gq.cell (p:=⟨gt,x,none⟩) (Zab gF)).trans gF;have cB:w1.cell? ⟨w.heap.size,0,none⟩=some (.pointer (some ⟨sb,0,none⟩)):=by rw[gC];exact cell1 ((Below.heap_alloc _ _ _ (by simp;omega)).trans ((Below.heap_alloc _ _ _ (by simp)).trans (heap_alloc_new w _)))
 have HE:=Hd (fun t W=>Zr7 t W);clear c0 c1 c2 c3 c4 f0 gF gC;refine(callsIn_wide (n:=9)).1 ?_;refine callsIn_of_wp_marks func216 rfl trivial ?_;refine wpIn_wide.2 ?_;simp only[ntmps216,List.size_toArray,List.length_cons,List.length_nil,Nat.reduceAdd,Nat.reduceSub,Array.replicate_succ,Array.replicate_zero,List.push_toArray,List.append_toArray,List.nil_append,List.cons_append];go_upto_region 2 with fail;rw[HW1.out];go_wp2_with fail;refine(HE.out _ _).mono ?_;rintro e w2 ⟨rfl,hC⟩;go_wp2_with fail;obtain⟨w2',g3⟩:∃ w2',w2'=w1.alloc (.cells #[.pointer (some ⟨t,0,none⟩)] 173):=⟨_,rfl⟩;rw[<- g3];have h5:Below w.heap.size w w2':=by rw[g3];exact gq.alloc gq.size _
 have hs1:w1.heap.size=w.heap.size+3:=by rw[<- HW1.out];simp
 have k9:w2'.heap.size=w.heap.size+4:=by rw[g3];simp[hs1]
 have hQ:w2'.heap[w.heap.size]?=some (.cells #[.pointer (some ⟨sb,0,none⟩)] 96 (0,0)):=by rw[g3,<- HW1.out];exact(Below.heap_alloc _ _ _ (by simp<;>omega)).trans ((Below.heap_alloc _ _ _ (by simp<;>omega)).trans ((Below.heap_alloc _ _ _ (by simp)).trans (heap_alloc_new w _)))
 have hP:w2'.heap[w.heap.size+1]?=some (.cells #[.int .i64 y] 3 (0,0)):=by
  rw[g3,<- HW1.out];have h0:=heap_alloc_new (w.alloc (.cells #[.pointer (some ⟨sb,0,none⟩)] 96)) (.cells #[.int .i64 y] 3);rw[World.size_alloc] at h0;exact(Below.heap_alloc _ _ _ (by simp<;>omega)).trans ((Below.heap_alloc _ _ _ (by simp)).trans h0)
 have hR:w2'.heap[w.heap.size+2]?=some (.cells #[.slice none 0 0] 249 (0,0)):=by
  rw[g3,<- HW1.out];have h0:=heap_alloc_new ((w.alloc (.cells #[.pointer (some ⟨sb,0,none⟩)] 96)).alloc (.cells #[.int .i64 y] 3)) (.cells #[.slice none 0 0] 249);rw[World.size_alloc,World.size_alloc] at h0;exact(Below.heap_alloc _ _ _ (by simp)).trans h0
 have h6:w2'.cell? ⟨w1.heap.size,0,none⟩=some (.pointer (some ⟨t,0,none⟩)):=by rw[g3];exact cell1 (heap_alloc_new w1 _)
 have gG:=Yaw (d:=d) (x:=x) (fun lo hi id e=>(HK.out.tab x hx lo hi id).1 e) (n:=1048577) (fun i b e=>by have:=gr.out.tk_lt e;omega) (by omega);have HG:=Hd (Zl5 8 w.heap.size w1.heap.size t x hz.out gu.out (Nat.le_refl _) w2' h5 (by omega) (by omega) h6 gG);clear gG h6 g3 hC c2' hu cB HE hG gq;refine(wpIn_wide (n:=9)).1 ?_;refine Zy8 rfl (by omega) (gf:=268) (lb:=#[.pointer (some ⟨w1.heap.size,0,none⟩)]) rfl trivial (enters_of func268 (by kernel_rfl) rfl) HG.out (by omega) (by rintro k rfl;omega) (fun p=>rfl)
  (fun pre M W=>∃ v oG,TurS d y w sb pre M W v oG) ?_ ?_ (fun k=>k=w.heap.size\/k=w.heap.size+1\/k=w.heap.size+2) (by rintro k rfl h;omega) ⟨.slice none 0 0,fun _=>none,(⟨fun k=>by simp,h5,hQ,hP,hR,RowR.nil _ _ _ _ _,fun k r h=>(by cases h),fun k r h=>(by cases h)⟩:TurS d y w sb [] _ w2' (.slice none 0 0) (fun _=>none))⟩
  (fun p a' W W1=>a'={ tmps:=#[Value.pointer (some { block:=sb,off:=0 }),Value.int IntKind.i64 ↑x,Value.int IntKind.i64 ↑y,Value.pointer (some { block:=w.heap.size,off:=0 }),undef,Value.pointer (some { block:=w.heap.size+1,off:=0 }),Value.slice none 0 0,Value.pointer (some { block:=w.heap.size+1+1,off:=0 }),undef,Value.int IntKind.i64 ↑p.2,undef,undef,undef,Value.pointer (some { block:=sb,off:=0 }),Value.pointer (some { block:=sb,off:=0 }),Value.pointer (some { block:=sb,off:=2 }),Value.slice (some { block:=gt,off:=0 }) s.ts.length ct,Value.int IntKind.i64 ↑x,Value.pointer (some { block:=gt,off:=x }),Value.pointer (some { block:=t,off:=0 }),Value.func (Fn.func 268) #[] #[Value.pointer (some { block:=w.heap.size+3,off:=0 })],encE p.1,Value.int IntKind.i64 ↑p.2,undef,undef,undef,undef,undef,undef,undef,undef,undef,undef,undef,undef,undef,undef,undef,undef,undef,undef,undef,undef,undef,undef,undef,undef,undef,undef,undef,undef,undef,undef,undef,undef,undef,undef,undef,undef,undef,undef,undef,undef,undef,undef,undef,undef,undef,undef,undef,undef],defers:=[] }) ?_ ?_ ?_ ?_
 ·rintro pre M W ⟨v,oG,hS⟩ k hk;rcases(hS.mm k).1 hk with rfl|rfl|rfl|hg
  . exact⟨Nat.le_refl _,(Array.getElem?_eq_some_iff.1 hS.boxs).1⟩
  . exact⟨by omega,(Array.getElem?_eq_some_iff.1 hS.boxy).1⟩
  . exact⟨by omega,(Array.getElem?_eq_some_iff.1 hS.boxg).1⟩
  . have:=(hS.ge k _ hg).2;exact⟨by omega,hS.lt k _ hg⟩
 . rintro pre M W W' ⟨v,oG,hS⟩ hw;exact⟨v,oG,hS.minds hw⟩
 . intro p a' W W1 W2 l _ h _;exact h
 ·intro l pre p M W K hI hK
  gi_wp2
  exact hK _ _ (Wr.refl _ _) rfl
 ·rintro l pre p a' M W0 W ⟨v,oG,hS⟩ rfl gZ k4 ⟨suf,gc,g0⟩;have gD:=Ybz (d:=d) (x:=x) (fun lo hi id e=>(HK.out.tab x hx lo hi id).1 e) (n:=1048577) (fun i b e=>by have:=gr.out.tk_lt e;omega) gc (fun k id h=>(g0 k id).1 h);have gE:(Zeo d y pre).length<1000000000:=by
   have h1:(Zeo d y pre).length<=pre.length:=by unfold Zeo;rw[List.length_map];exact List.length_filter_le _ _
   simp at gD;omega
  have gU:=Hd gE;clear gD gE gc;have hp:d.tab x p.1=some p.2:=(g0 p.1 p.2).1 (by simp);obtain⟨i,hi⟩:∃ i,i=p.2:=⟨_,rfl⟩;have gN:Zaa d i=some ⟨x,p.1.1,p.1.2⟩:=(HK.out.tab x hx _ _ _).1 (by rw[hi];exact hp);obtain⟨gY,gP,gI⟩:=Za1 gN;rw[gP] at gI;obtain⟨N,hN⟩:∃ N,N=d.pool.nd i:=⟨_,rfl⟩;have gM:=gr.out.below gu.out hS.low;have gO:=gu.out.mono hS.low.size;obtain⟨q0,q1,q2,q3,q4,_⟩:=cells5 gM.blk;have cs:=cell1 hS.boxs;have cy:=cell1 hS.boxy;have hd:=Hd (Zmy o s.pb d.pool i W gM.pool gO gY);rw[<- hN] at hd gI;rw[<- hi];have HI:=Hd hi;have HS:=Hd hS;have HN:=Hd hN;have hX:=Hd gI;have h7:=Hd gN;clear hS hi hN gI gN gM gO gY gP hp g0 q0 q2 q3 q4
  gi_wp2
  refine⟨trivial,(CallsIn.inRound l (callsIn_wide.2 hd.out)).mono ?_⟩;rintro e W3 ⟨rfl,gp⟩;have cs3:=(gp.cell (p:=⟨w.heap.size,0,none⟩) (Zab cs)).trans cs;have cy3:=(gp.cell (p:=⟨w.heap.size+1,0,none⟩) (Zab cy)).trans cy;simp only[Zaz];have lb0:w.heap.size<W3.heap.size:=Zab cs3;have lb1:w.heap.size+1<W3.heap.size:=Zab cy3;have lb2:w.heap.size+1+1<W3.heap.size:=Nat.lt_of_lt_of_le (Array.getElem?_eq_some_iff.1 HS.out.boxg).1 gp.size;have gX:=Hd gp;clear gp cs cy q1
  gi_wp2
  obtain⟨W4,gh⟩:∃ W4,W4=(W3.alloc (.cells #[.int .i64 N.id,.int .i64 N.v,.int .i64 N.lo,.int .i64 N.hi,.int .i64 N.refs] 254)).alloc (.cells #[.int .i64 N.id,.int .i64 N.v,.int .i64 N.lo,.int .i64 N.hi,.int .i64 N.refs,.int .i64 0,.int .i64 0,.int .i64 0,.int .i64 0] 256):=⟨_,rfl⟩;rw[<- gh];have n4:W4.heap[W3.heap.size]?=some (.cells #[.int .i64 N.id,.int .i64 N.v,.int .i64 N.lo,.int .i64 N.hi,.int .i64 N.refs] 254 (0,0)):=by rw[gh];exact(Below.heap_alloc _ _ _ (by simp)).trans (heap_alloc_new W3 _)
  have t4:W4.heap[W3.heap.size+1]?=some (.cells #[.int .i64 N.id,.int .i64 N.v,.int .i64 N.lo,.int .i64 N.hi,.int .i64 N.refs,.int .i64 0,.int .i64 0,.int .i64 0,.int .i64 0] 256 (0,0)):=by
   rw[gh];have:=heap_alloc_new (W3.alloc (.cells #[.int .i64 N.id,.int .i64 N.v,.int .i64 N.lo,.int .i64 N.hi,.int .i64 N.refs] 254)) (.cells #[.int .i64 N.id,.int .i64 N.v,.int .i64 N.lo,.int .i64 N.hi,.int .i64 N.refs,.int .i64 0,.int .i64 0,.int .i64 0,.int .i64 0] 256);rw[World.size_alloc] at this;exact this
  have gz:Hid (Wr (fun _=>False) W W4):=by rw[gh];exact Hd (((Wr.of_below gX.out (fun _=>False)).alloc _).alloc _)
  have hm:W.heap.size<=W3.heap.size:=gX.out.size;have gy:Below W3.heap.size W3 W4:=by rw[gh];exact(Zae _ _).alloc (by simp) _
  obtain⟨b1,gR⟩:∃ b1,b1=W3.heap.size:=⟨_,rfl⟩;have cs4:=(gy.cell (p:=⟨w.heap.size,0,none⟩) lb0).trans cs3;have cy4:=(gy.cell (p:=⟨w.heap.size+1,0,none⟩) lb1).trans cy3;have gm:Hid (∀ Wc,Wr (fun _=>False) W Wc->TurS d y w sb pre M Wc v oG):=Hd fun Wc h=>HS.out.minds (h.mono fun k e=>e.elim)
  have gl:Hid (∀ Wc,Wr (fun _=>False) W Wc->Zar o Wc sb d/\Zah o Wc):=Hd fun Wc h=>⟨⟨s,gr.out.below gu.out (gm.out Wc h).low⟩,gu.out.mono (gm.out Wc h).low.size⟩
  have gw:okE (Zaa d) N.lo/\okE (Zaa d) N.hi:=by
   have e:=hX.out;have h1:=HK.out.dag.okLo _ _ h7.out;have h2:=HK.out.dag.okHi _ _ h7.out;have e1:p.1.1=N.lo:=by have:=congrArg BN.lo e;exact this.symm
   have e2:p.1.2=N.hi:=by have:=congrArg BN.hi e;exact this.symm
   dsimp only at h1 h2;rw[e1] at h1;rw[e2] at h2;exact⟨h1,h2⟩
  have hA:=Hd gw;obtain⟨⟨ll,lh⟩,g6⟩:∃ c,c=cofs d N.lo y:=⟨_,rfl⟩;obtain⟨⟨hl,hh⟩,gH⟩:∃ c,c=cofs d N.hi y:=⟨_,rfl⟩;have gB:=Hd (Zhj (gl.out W4 gz.out).1 (gl.out W4 gz.out).2 HK.out N.lo gw.1 y);rw[<- g6] at gB;have hW:=Hd g6;have h8:=Hd gH;rw[<- gR] at n4 t4 hm ⊢;clear gh cs3 cy3 gw g6 gH gy gX gR lb0 lb1 lb2;refine⟨trivial,(CallsIn.inRound l (callsIn_wide.2 gB.out)).mono ?_⟩;rintro e W5 ⟨rfl,gg⟩;have lW4:b1+1<W4.heap.size:=(Array.getElem?_eq_some_iff.1 t4).1;have cs5:=(gg.cell (p:=⟨w.heap.size,0,none⟩) (Zab cs4)).trans cs4;have cy5:=(gg.cell (p:=⟨w.heap.size+1,0,none⟩) (Zab cy4)).trans cy4;have n5:=(gg.block b1 (by omega)).trans n4;have t5:=(gg.block (b1+1) lW4).trans t4;have hy:Hid (Wr (fun _=>False) W W5):=Hd (gz.out.trans (Wr.of_below gg (fun _=>False)) (fun _ _ e=>e) (fun _ _ e=>e));have f5:∀ q,W5.frozen? ⟨b1+1,q,none⟩=false:=fun q=>by simp[World.frozen?,t5]
  have k5:W5.cell? ⟨b1+1,5,none⟩=some (.int .i64 0):=by rw[cell_of_row _ _ 5 _ _ _ t5];rfl
  have k6:W5.cell? ⟨b1+1,6,none⟩=some (.int .i64 0):=by rw[cell_of_row _ _ 6 _ _ _ t5];rfl
  have m3:W5.cell? ⟨b1,3,none⟩=some (.int .i64 N.hi):=by rw[cell_of_row _ _ 3 _ _ _ n5];rfl
  have lW5:b1+1<W5.heap.size:=(Array.getElem?_eq_some_iff.1 t5).1;clear gg cs4 cy4 n4 t4 gB lW4
  gi_wp2
  obtain⟨W6,gK⟩:∃ W6,W6=(W5.setCell ⟨b1+1,5,none⟩ (.int .i64 (ll:Nat))).setCell ⟨b1+1,6,none⟩ (.int .i64 (lh:Nat)):=⟨_,rfl⟩;rw[<- gK];have t6:W6.heap[b1+1]?=some (.cells #[.int .i64 N.id,.int .i64 N.v,.int .i64 N.lo,.int .i64 N.hi,.int .i64 N.refs,.int .i64 (ll:Nat),.int .i64 (lh:Nat),.int .i64 0,.int .i64 0] 256 (0,0)):=by
   rw[gK];exact Zac (k:=6) (Zac (k:=5) t5 (.int .i64 (ll:Nat))) (.int .i64 (lh:Nat))
  have gj:Hid (Wr (fun _=>False) W W6):=by rw[gK];exact Hd ((hy.out.setCell (p:=⟨b1+1,5,none⟩) (.inr (by show W.heap.size<=b1+1;omega)) _).setCell (p:=⟨b1+1,6,none⟩) (.inr (by show W.heap.size<=b1+1;omega)) _)
  have gi:=(gm.out W6 gj.out);have cs6:=cell1 gi.boxs;have cy6:=cell1 gi.boxy;have gA:=Hd (Zhj (gl.out W6 gj.out).1 (gl.out W6 gj.out).2 HK.out N.hi hA.out.2 y);rw[<- h8.out] at gA;clear gK cs5 cy5 n5 t5 f5 k5 k6 m3 lW5 gi;refine⟨trivial,(CallsIn.inRound l (callsIn_wide.2 gA.out)).mono ?_⟩;rintro e W7 ⟨rfl,gQ⟩;have lW6:b1+1<W6.heap.size:=(Array.getElem?_eq_some_iff.1 t6).1;have t7:=(gQ.block (b1+1) lW6).trans t6;have hv:Hid (Wr (fun _=>False) W W7):=Hd (gj.out.trans (Wr.of_below gQ (fun _=>False)) (fun _ _ e=>e) (fun _ _ e=>e));have f7:∀ q,W7.frozen? ⟨b1+1,q,none⟩=false:=fun q=>by simp[World.frozen?,t7]
  have k5:W7.cell? ⟨b1+1,5,none⟩=some (.int .i64 (ll:Nat)):=by rw[cell_of_row _ _ 5 _ _ _ t7];rfl
  have k6:W7.cell? ⟨b1+1,6,none⟩=some (.int .i64 (lh:Nat)):=by rw[cell_of_row _ _ 6 _ _ _ t7];rfl
  have k7:W7.cell? ⟨b1+1,7,none⟩=some (.int .i64 0):=by rw[cell_of_row _ _ 7 _ _ _ t7];rfl
  have k8:W7.cell? ⟨b1+1,8,none⟩=some (.int .i64 0):=by rw[cell_of_row _ _ 8 _ _ _ t7];rfl
  have lW7:b1+1<W7.heap.size:=(Array.getElem?_eq_some_iff.1 t7).1;clear gQ cs6 cy6 t6 gA lW6;obtain⟨W8,gJ⟩:∃ W8,W8=(W7.setCell ⟨b1+1,7,none⟩ (.int .i64 (hl:Nat))).setCell ⟨b1+1,8,none⟩ (.int .i64 (hh:Nat)):=⟨_,rfl⟩;have t8:W8.heap[b1+1]?=some (.cells #[.int .i64 N.id,.int .i64 N.v,.int .i64 N.lo,.int .i64 N.hi,.int .i64 N.refs,.int .i64 (ll:Nat),.int .i64 (lh:Nat),.int .i64 (hl:Nat),.int .i64 (hh:Nat)] 256 (0,0)):=by
   rw[gJ];exact Zac (k:=8) (Zac (k:=7) t7 (.int .i64 (hl:Nat))) (.int .i64 (hh:Nat))
  have ga:Hid (Wr (fun _=>False) W W8):=by rw[gJ];exact Hd ((hv.out.setCell (p:=⟨b1+1,7,none⟩) (.inr (by show W.heap.size<=b1+1;omega)) _).setCell (p:=⟨b1+1,8,none⟩) (.inr (by show W.heap.size<=b1+1;omega)) _)
  have g2:=Hd (gm.out W8 ga.out);have g8:=cell1 g2.out.boxg;have r0:W8.cell? ⟨b1+1,0,none⟩=some (.int .i64 N.id):=by rw[cell_of_row _ _ 0 _ _ _ t8];rfl
  have r1:W8.cell? ⟨b1+1,1,none⟩=some (.int .i64 N.v):=by rw[cell_of_row _ _ 1 _ _ _ t8];rfl
  have r2:W8.cell? ⟨b1+1,2,none⟩=some (.int .i64 N.lo):=by rw[cell_of_row _ _ 2 _ _ _ t8];rfl
  have r3:W8.cell? ⟨b1+1,3,none⟩=some (.int .i64 N.hi):=by rw[cell_of_row _ _ 3 _ _ _ t8];rfl
  have r4:W8.cell? ⟨b1+1,4,none⟩=some (.int .i64 N.refs):=by rw[cell_of_row _ _ 4 _ _ _ t8];rfl
  have r5:W8.cell? ⟨b1+1,5,none⟩=some (.int .i64 (ll:Nat)):=by rw[cell_of_row _ _ 5 _ _ _ t8];rfl
  have r6:W8.cell? ⟨b1+1,6,none⟩=some (.int .i64 (lh:Nat)):=by rw[cell_of_row _ _ 6 _ _ _ t8];rfl
  have r7:W8.cell? ⟨b1+1,7,none⟩=some (.int .i64 (hl:Nat)):=by rw[cell_of_row _ _ 7 _ _ _ t8];rfl
  have r8:W8.cell? ⟨b1+1,8,none⟩=some (.int .i64 (hh:Nat)):=by rw[cell_of_row _ _ 8 _ _ _ t8];rfl
  have hU:Hid (_=W8):=Hd gJ.symm;have kd:Hid (b1+1<W8.heap.size):=Hd (Array.getElem?_eq_some_iff.1 t8).1;clear gJ t8;have tin:tnOf d y i=⟨N,ll,lh,hl,hh⟩:=by
   unfold tnOf;rw[<- HN.out,<- hW.out,<- h8.out]
  have gk:=Hd tin;clear tin
  gi_upto_region 8 with fail
  rw[hU.out];clear t7 f7 k5 k6 k7 k8 lW7
  by_cases g4:ll≠lh\/hl≠hh
  ·have gL:Hid (Zez d y p.2=true):=Hd (by rw[<- HI.out];unfold Zez;rw[gk.out];exact decide_eq_true g4);have n1:((ll:Int) != lh)=true\/((ll:Int) != lh)=false:=by cases ((ll:Int) != lh)<;>simp
   have n2:((ll:Int) != lh)=false->((hl:Int) != hh)=true:=fun e=>by
    have ka:(ll:Int)=lh:=by simpa using e
    have h1:ll=lh:=by omega
    have h2:=g4.resolve_left (fun h=>h h1);simp;omega
   rcases n1 with n1|n1
   ·clear n2
    gi_wp2_with (gi_at_builtin
                 refine Zep (wr:=W8) 249 256 9 72 _ underlying249 Zml rfl (by decide) rfl _ _ rfl rfl rfl rfl rfl rfl (by simp[Value.oneCell']) g2.out.row g2.out.lt gU.out (by decide) ?_;intro g1 k1 w1 o1 gn g6 go;have gT:=Hd gn;have gd:=Hd g6;have gV:=Hd go;clear gn g6 go;have g5:=(gd.out.alien (Array.getElem?_eq_some_iff.1 g2.out.boxg).1 (g2.out.no _ (by omega))).trans g2.out.boxg;have cg1:=cell1 g5;have fz:∀ k,w1.frozen? ⟨w.heap.size+2,k,none⟩=false:=fun k=>by simp[World.frozen?,g5]
                 clear g8 g5)
    obtain⟨M',a1,a2,a3⟩:=g2.out.add gL.out (W1:=w1) (v':=.slice (some ⟨g1,0,none⟩) ((Zeo d y pre).length+1) k1) (by
     rw[<- HI.out,gk.out,Zyz];exact gT.out) gd.out gV.out (n:=W0.heap.size) (Nat.le_trans gZ ga.out.size)
    exact⟨M',a1,Wr.trans ga.out a2 (fun _ _ e=>e.elim) (fun _ _ e=>e),a3⟩
   ·have n3:=n2 n1;clear n2
    gi_wp2_with (gi_at_builtin
                 refine Zep (wr:=W8) 249 256 9 72 _ underlying249 Zml rfl (by decide) rfl _ _ rfl rfl rfl rfl rfl rfl (by simp[Value.oneCell']) g2.out.row g2.out.lt gU.out (by decide) ?_;intro g1 k1 w1 o1 gn g6 go;have gT:=Hd gn;have gd:=Hd g6;have gV:=Hd go;clear gn g6 go;have g5:=(gd.out.alien (Array.getElem?_eq_some_iff.1 g2.out.boxg).1 (g2.out.no _ (by omega))).trans g2.out.boxg;have cg1:=cell1 g5;have fz:∀ k,w1.frozen? ⟨w.heap.size+2,k,none⟩=false:=fun k=>by simp[World.frozen?,g5]
                 clear g8 g5)
    obtain⟨M',a1,a2,a3⟩:=g2.out.add gL.out (W1:=w1) (v':=.slice (some ⟨g1,0,none⟩) ((Zeo d y pre).length+1) k1) (by
     rw[<- HI.out,gk.out,Zyz];exact gT.out) gd.out gV.out (n:=W0.heap.size) (Nat.le_trans gZ ga.out.size)
    exact⟨M',a1,Wr.trans ga.out a2 (fun _ _ e=>e.elim) (fun _ _ e=>e),a3⟩
  ·have gL:Hid (Zez d y p.2=false):=Hd (by rw[<- HI.out];unfold Zez;rw[gk.out];exact decide_eq_false g4);have n1:((ll:Int) != lh)=false:=by
    have:ll=lh:=Decidable.byContradiction fun h=>g4 (.inl h)
    simp[this]
   have n2:((hl:Int) != hh)=false:=by
    have:hl=hh:=Decidable.byContradiction fun h=>g4 (.inr h)
    simp[this]
   clear g4
   gi_wp2
   exact⟨M,⟨v,oG,g2.out.skip gL.out⟩,ga.out.mono (fun _ e=>e.elim),fun k hk=>.inl hk⟩
 ·rintro xs D M W ⟨gc,g0⟩ hD gS ⟨v,oG,hS⟩ hM hw gx;have g9:=cell1 hS.boxg;have HS:=Hd hS;have kb:=Hd gc;have hY:=Hd g0;have g7:=hS.low;have hZ:D<W.heap.size:=(Array.getElem?_eq_some_iff.1 gx).1;have hB:=Hd gx;have kc:=Hd gS;have HF:Hid (∃ (v':Value) (ids:List Nat),Ending.returned v=.returned v'/\ids.Nodup/\(∀ i,i∈ids↔Turns (Zaa d) x y i)/\TRow (W.putObj D (.deferred none)) w.heap.size v' (ids.map (tnOf d y))/\Below w.heap.size w (W.putObj D (.deferred none))):=by
   refine Hd ⟨v,(xs.filter fun p=>Zez d y p.2).map Prod.snd,rfl,?_,fun i=>?_,?_,?_⟩
   ·rw[List.nodup_iff_pairwise_ne,List.pairwise_map];have h1:=gc;rw[List.nodup_iff_pairwise_ne,List.pairwise_map] at h1;refine(h1.sublist List.filter_sublist).imp_of_mem fun {a b} ha hb hL e=>hL ?_
    have q1:=(HK.out.tab x hx a.1.1 a.1.2 a.2).1 ((g0 a.1 a.2).1 ((List.mem_filter.1 ha).1));have q2:=(HK.out.tab x hx b.1.1 b.1.2 b.2).1 ((g0 b.1 b.2).1 ((List.mem_filter.1 hb).1));rw[e,q2] at q1;obtain⟨⟨a1,a2⟩,a3⟩:=a;obtain⟨⟨b1,b2⟩,b3⟩:=b;simp at q1;exact Prod.ext q1.1.symm q1.2.symm
   ·rw[List.mem_map];constructor
    . rintro⟨q,hq,rfl⟩;obtain⟨hJ,hH⟩:=List.mem_filter.1 hq;have hn:=(HK.out.tab x hx q.1.1 q.1.2 q.2).1 ((g0 q.1 q.2).1 hJ);exact(Zjc HK.out hn rfl).1 hH
    . intro hT;obtain⟨b,hb,h4,_⟩:=id hT;have ht:=(HK.out.tab x hx b.lo b.hi i).2 (by rw[hb,<- h4]);exact⟨((b.lo,b.hi),i),List.mem_filter.2 ⟨(g0 _ _).2 ht,(Zjc HK.out hb h4).2 hT⟩,rfl⟩
   ·have e':((xs.filter fun p=>Zez d y p.2).map Prod.snd).map (tnOf d y)=Zeo d y xs:=by unfold Zeo;rw[List.map_map];rfl
    rw[e'];have k0:=Ybz (d:=d) (x:=x) (fun lo hi id e=>(HK.out.tab x hx lo hi id).1 e) (n:=1048577) (fun i b e=>by have:=gr.out.tk_lt e;omega) gc (fun k id h=>(g0 k id).1 h);have ho:(Zeo d y xs).length<=1048578:=by
     have h1:(Zeo d y xs).length<=xs.length:=by unfold Zeo;rw[List.length_map];exact List.length_filter_le _ _
     omega
    obtain⟨ag,cpg,rfl,_⟩:=hS.row.slice;refine⟨ho,ag,cpg,rfl,fun k hk=>?_⟩;obtain⟨g,cp,he,h3,_⟩:=hS.row.shape (by omega);cases he;have hO:g≠D:=fun e=>gS ((hS.mm D).2 (.inr (.inr (.inr (e ▸ h3)))))
    refine⟨g,rfl,by have:=(hS.ge g _ h3).2;omega,fun j u hj=>?_⟩;have h9:j<9:=by have:=(List.getElem?_eq_some_iff.1 hj).1;simpa [tnV,rnV] using this
    have hf:=Zfo tnV 9 (fun _=>rfl) (Zeo d y xs) k j _ (List.getElem?_eq_getElem hk) h9;have hr:((Zeo d y xs).flatMap tnV).length=(Zeo d y xs).length*9:=Zba _ 9 (fun _=>rfl) _;have hc:=hS.row.cell (k*9+j) (by rw[hr];omega);have gH:W.cell? ⟨g,k*9+j,none⟩=some u:=hc.trans (hf.trans hj);exact(World.cell?_of_block (w:=W) (a:=⟨g,k*9+j,none⟩) (World.putObj_heap_other hO)).trans gH
   . exact⟨g7.os,g7.tape,g7.output,by simpa using g7.size,fun q hq=>(World.putObj_heap_other (by omega)).trans (g7.block q hq)⟩
  clear hS gc g0 gx hM hw gS g7;go_wp2_with fail;refine⟨by simp,.inl ⟨D,_,rfl,run_takeDeferred hB.out,?_⟩⟩;refine⟨_,results_tmp rfl _ _ _,?_⟩;exact HF.out
open Go.RowKit
structure SwV (d0:Zad)(k x y:Nat):Prop where
 k1:k+1<d0.vars.length
 x:d0.vars.getD k 0=x
 y:d0.vars.getD (k+1) 0=y
section
variable {d0 d d':Zad}{V0 V:Nat->BF}{k x y:Nat}{Wt:List (Nat×Nat)}{gone:Nat->Prop}
theorem SwV.facts (s:SwV d0 k x y)(hk:Zak d0 V0):x<d0.vars.length/\y<d0.vars.length/\levN d0 x=k/\levN d0 y=k+1/\x≠y:=by
 obtain⟨a1,a2⟩:=hk.vlt k (by have:=s.k1;omega);obtain⟨c1,c2⟩:=hk.vlt (k+1) s.k1;rw[s.x] at a1 a2;rw[s.y] at c1 c2;exact⟨a1,c1,a2,c2,by rintro rfl;omega⟩
structure CutS (d0:Zad)(k x:Nat)(gone:Nat->Prop)(d:Zad):Prop where
 vars:d.vars=(Zee d0 k).vars
 level:d.level=(Zee d0 k).level
 pool:d.pool=d0.pool
 counts:d.counts=d0.counts
 dead:d.dead=d0.dead
 tabO:∀ v,v≠x->d.tab v=d0.tab v
 tabX:∀ lo hi id,d.tab x (lo,hi)=some id↔d0.tab x (lo,hi)=some id/\¬ gone id
theorem CutS.start (d0:Zad)(k x:Nat):CutS d0 k x (fun _=>False) (Zee d0 k):=⟨rfl,rfl,rfl,rfl,rfl,fun _ _=>rfl,fun lo hi id=>by simp[Zee]⟩
theorem CutS.next (c:CutS d0 k x gone d)(hk:Zak d0 V0)(hx:x<d0.vars.length){i lo hi:Nat}(hti:d0.tab x (lo,hi)=some i):CutS d0 k x (fun j=>gone j\/j=i) { d with tab:=fun u=>if u=x then putF (d.tab u) (lo,hi) none else d.tab u }:=by
 refine⟨c.vars,c.level,c.pool,c.counts,c.dead,fun v hv=>by dsimp only;rw[if_neg hv];exact c.tabO v hv,fun lo' g0 id=>?_⟩;dsimp only;rw[if_pos rfl];unfold putF
 by_cases e:(lo',g0)=(lo,hi)
 ·cases e;rw[if_pos rfl,hti];constructor
  . intro h;cases h
  . rintro⟨h1,h2⟩;cases h1;exact(h2 (.inr rfl)).elim
 ·rw[if_neg e,c.tabX];constructor
  ·rintro⟨h1,h2⟩;refine⟨h1,fun h3=>?_⟩;rcases h3 with h3|h3
   . exact h2 h3
   . subst h3;have q1:=(hk.tab x hx _ _ _).1 h1;have q2:=(hk.tab x hx _ _ _).1 hti;rw[q1] at q2;cases q2;exact e rfl
  . rintro⟨h1,h2⟩;exact⟨h1,fun h3=>h2 (.inl h3)⟩
theorem CutS.has (c:CutS d0 k x gone d){i lo hi:Nat}(h:d0.tab x (lo,hi)=some i)(hg:¬ gone i):d.tab x (lo,hi)=some i:=(c.tabX _ _ _).2 ⟨h,hg⟩
theorem Zbq.start (c:CutS d0 k x gone d)(hk:Zak d0 V0)(hx:x<d0.vars.length)(hd:d0.dead=0)(hg:∀ i,Turns (Zaa d0) x y i↔gone i){ps:List (Nat×Nat)}(hw:Zf6 (d0.tab x) ps Wt):Zbq d0 V0 k x y Wt (Zaw d0) (fun _=>False) d V0:=by
 have hn:Zaa d=Zaa d0:=by unfold Zaa;rw[c.pool]
 have he:Zaw d=Zaw d0:=by unfold Zaw;rw[c.pool]
 have hc:Zau d=Zau d0:=by unfold Zau;rw[c.counts]
 refine⟨by rw[hn];exact Ze7.start hk.dag x y,c.vars,c.level,by rw[c.pool],he,⟨by rw[hn,hc,c.pool];exact hk.live.cnt,by rw[hn,hc,c.pool,c.dead];exact hk.live.dead,by rw[hn,c.counts];exact hk.live.has⟩,
  fun v hv g0 lo hi id=>by rw[c.tabO v g0,hn];exact hk.tab v hv lo hi id,fun lo hi id=>by rw[c.tabX,hn,hk.tab x hx,hg],by rw[c.counts];exact hk.clen,fun i hT=>?_,?_⟩
 . obtain⟨b,hb,_⟩:=hT;rw[hc];exact Zj0 hk.live hd hb
 ·rw[c.pool];have:(Wt.filter fun κ=>(d.tab x κ).isSome)=[]:=by
   rw[List.filter_eq_nil_iff];intro κ hκ;cases e:d.tab x κ with
   | none=>simp
   | some id =>
     have h1:=((c.tabX κ.1 κ.2 id).1 e).1;have h2:=hw.free κ hκ;rw[h1] at h2;cases h2
  rw[this];rfl
theorem Zbq.congr {E:Nat->Int}{done done':Nat->Prop}(m:Zbq d0 V0 k x y Wt E done d V)(h:∀ i,done i↔done' i):Zbq d0 V0 k x y Wt E done' d V:=by
 have e:done=done':=funext fun i=>propext (h i)
 rw[<- e];exact m
theorem Zyu (s:SwV d0 k x y)(hk:Zak d0 V0)(hl:d0.level.length=d0.vars.length)(v:Nat):(Zee d0 k).level.getD v 0=Zfi (levN d0) x y v:=by
 obtain⟨hx,hy,lx,ly,g0⟩:=s.facts hk;unfold Zee Zfi levN;dsimp only;rw[s.x,s.y];unfold levN at lx ly;rw[lx,ly];simp only[List.getD,List.getElem?_set,List.length_set]
 by_cases e1:v=x
 . subst e1;rw[if_neg (Ne.symm g0),if_pos rfl,if_pos (by omega),if_pos rfl];rfl
 ·by_cases e2:v=y
  . subst e2;rw[if_pos rfl,if_pos (by omega),if_neg e1,if_pos rfl];rfl
  . rw[if_neg (Ne.symm e2),if_neg (Ne.symm e1),if_neg e1,if_neg e2]
theorem Zm4 (s:SwV d0 k x y)(i:Nat):(Zee d0 k).vars.getD i 0=if i=k then y else if i=k+1 then x else d0.vars.getD i 0:=by
 have h1:=s.k1;unfold Zee;dsimp only;rw[s.x,s.y];simp only[List.getD,List.getElem?_set,List.length_set]
 by_cases e1:i=k
 . subst e1;rw[if_neg (by omega),if_pos rfl,if_pos (by omega),if_pos rfl];rfl
 ·by_cases e2:i=k+1
  . subst e2;rw[if_pos rfl,if_pos h1,if_neg e1,if_pos rfl];rfl
  . rw[if_neg (Ne.symm e2),if_neg (Ne.symm e1),if_neg e1,if_neg e2]
theorem Zir (d0:Zad)(k:Nat):(Zee d0 k).vars.length=d0.vars.length:=by simp[Zee]
theorem Zbq.final {done:Nat->Prop}(m:Zbq d0 V0 k x y Wt (Zaw d0) done d V)(s:SwV d0 k x y)(hk:Zak d0 V0)(hl:d0.level.length=d0.vars.length)(hall:∀ i,Turns (Zaa d0) x y i->done i):Zak d V:=by
 obtain⟨hx,hy,lx,ly,g2⟩:=s.facts hk;have g1:levN d=Zfi (levN d0) x y:=by funext v;unfold levN;rw[m.level];exact Zyu s hk hl v
 have g0:d.vars.length=d0.vars.length:=by rw[m.vars,Zir]
 have g3:=m.mid.final hk.dag hx hy (by omega) hall;have g4:∀ v,v<d0.vars.length->(v=x/\Zfi (levN d0) x y v=k+1)\/(v=y/\Zfi (levN d0) x y v=k)\/(v≠x/\v≠y/\Zfi (levN d0) x y v=levN d0 v/\levN d0 v≠k/\levN d0 v≠k+1):=by
  intro v hv
  by_cases e1:v=x
  . subst e1;exact .inl ⟨rfl,by rw[Zhv,ly]⟩
  ·by_cases e2:v=y
   . subst e2;exact .inr (.inl ⟨rfl,by rw[Zhw _ g2,lx]⟩)
   . exact .inr (.inr ⟨e1,e2,Zli _ e1 e2,fun h=>e1 (hk.dag.inj v x hv hx (by rw[h,lx])),fun h=>e2 (hk.dag.inj v y hv hy (by rw[h,ly]))⟩)
 refine⟨by rw[g0,g1];exact g3,by rw[m.ext];exact m.live,fun v hv lo hi id=>?_,m.clen,by rw[g0];exact hk.small,fun v hv=>?_,fun i hi=>?_⟩
 ·rw[g0] at hv
  by_cases e:v=x
  . subst e;rw[m.tabX];refine⟨fun h=>h.1,fun h=>⟨h,fun hT=>?_⟩⟩;obtain⟨_,b,hb,g5,_⟩:=m.mid.dn id (hall id hT);rw[h] at hb;cases hb;exact g2 g5
  . exact m.tabO v hv e lo hi id
 ·rw[g0] at hv;rw[g1,m.vars,Zm4 s];rcases g4 v hv with ⟨rfl,e⟩|⟨rfl,e⟩|⟨_,_,e,h1,h2⟩
  . rw[e,if_neg (by omega),if_pos rfl]
  . rw[e,if_pos rfl]
  . rw[e,if_neg h1,if_neg h2];exact hk.inv v hv
 ·rw[g0] at hi ⊢;rw[g1,m.vars,Zm4 s]
  by_cases e1:i=k
  . rw[if_pos e1];exact⟨hy,by rw[Zhw _ g2,lx,e1]⟩
  ·rw[if_neg e1]
   by_cases e2:i=k+1
   . rw[if_pos e2];exact⟨hx,by rw[Zhv,ly,e2]⟩
   . rw[if_neg e2];obtain⟨h1,h2⟩:=hk.vlt i hi;refine⟨h1,?_⟩;rw[Zli _ (fun e=>e1 (by rw[<- h2,e,lx])) (fun e=>e2 (by rw[<- h2,e,ly]))];exact h2
structure Zke (d0:Zad)(V0:Nat->BF)(k:Nat)(d':Zad)(V':Nat->BF):Prop where
 ok:Zak d' V'
 vars:d'.vars=(Zee d0 k).vars
 level:d'.level=(Zee d0 k).level
 room:d'.pool.room=d0.pool.room
 dead:d'.dead=0
 val:∀ i,(i=0\/∃ b,Zaa d0 i=some b)->V' i=V0 i
 live:∀ i b,Zaa d0 i=some b->1<=Zaw d0 i->∃ b',Zaa d' i=some b'
 ext:∀ i b',Zaa d' i=some b'->Zaw d' i=Zaw d0 i
theorem Zbq.out {done:Nat->Prop}(m:Zbq d0 V0 k x y Wt (Zaw d0) done d V)(hok:Zak d V)(r:Za7 d d'):Zke d0 V0 k d' V:=by
 refine⟨r.ok hok,r.vars.trans m.vars,r.level.trans m.level,r.room.trans m.room,r.dead,m.mid.ext,fun i b hb he=>?_,fun i b' g0=>by rw[r.ext i b' g0,m.ext]⟩;obtain⟨b',g0⟩:=m.mid.has hb;refine⟨b',?_⟩;rw[r.nodes,if_pos (hok.live.cnt.pos_of_ext g0 (by rw[m.ext];exact he))];exact g0
end
open Go.RowKit
section
variable {d0 d:Zad}{V0 V:Nat->BF}{k x y:Nat}{Wt:List (Nat×Nat)}{E:Nat->Int}{done:Nat->Prop}{o:Own}{w:World}{sb:Nat}
structure SwF (d0:Zad)(V0:Nat->BF)(k x y:Nat):Prop where
 v:SwV d0 k x y
 ok:Zak d0 V0
 lev:d0.level.length=d0.vars.length
 top:∀ i,Zaw d0 i<=549755813888
theorem SwF.facts (f:SwF d0 V0 k x y):x<d0.vars.length/\y<d0.vars.length/\levN d0 x=k/\levN d0 y=k+1/\x≠y:=f.v.facts f.ok
theorem Zbq.acy (m:Zbq d0 V0 k x y Wt E done d V)(f:SwF d0 V0 k x y):Acy (Zaa d) (rkSw d0.vars.length (levN d0) (Zaa d0) x y (Zaa d)):=by
 obtain⟨hx,hy,lx,ly,g0⟩:=f.facts;exact Yc3 f.ok.dag hx (by omega) m.mid
theorem Zbq.vlen (m:Zbq d0 V0 k x y Wt E done d V):d.vars.length=d0.vars.length:=by rw[m.vars,Zir]
theorem Zs5 {o':Own}{w':World}(h:Chg RCnt o o' w w'):Chg Zap o o' w w':=h.mono Zi4
theorem Zsu (st:Zar o w sb d)(hlt:Zah o w)(f:SwF d0 V0 k x y)(m:Zbq d0 V0 k x y Wt E done d V){e:Nat}(he:midE d0.vars.length (levN d0) (Zaa d0) (Zaa d) x y e)(hE:∀ i,E i<=549755813898) :
 Calls prog 223 #[.pointer (some ⟨sb,0,none⟩),.int .i64 e] w fun q w'=>q=.returned (.tuple #[])/\∃ d',Zar o w' sb d'/\Zah o w'/\Zbq d0 V0 k x y Wt (addE E e 1) done d' V/\Zaa d'=Zaa d/\d'.pool=d.pool/\Chg Zap o o w w':=by
 obtain⟨s,st⟩:=st;obtain⟨hx,hy,lx,ly,g0⟩:=f.facts;have ho:=Zsz m.mid he;refine(Zfy o sb s _ (2*(d0.vars.length-levN d0 x)) w d E e ⟨st,hlt,m.acy f,ho,m.live,fun q b _=>?_,?_⟩).mono ?_
 ·have h1:=hE q;have h2:toE e q<=1:=by unfold toE;split<;>omega
  omega
 ·rcases ho with h0|⟨c,hc⟩
  . exact .inl h0
  . right;have:=Ybt f.ok.dag hx (by omega) m.mid he hc;omega
 . rintro q w' ⟨cs,dd,rfl,h1,h2,h3,h4,_,h6⟩;exact⟨rfl,_,⟨s,h1⟩,hlt.mono h6.size,m.counts h2 h3 h4 (Nat.le_refl _),rfl,rfl,Zs5 h6⟩
theorem Zst (st:Zar o w sb d)(hlt:Zah o w)(f:SwF d0 V0 k x y)(m:Zbq d0 V0 k x y Wt E done d V){i e:Nat}{b:BN}(hb:Zaa d0 i=some b)(hbx:b.v=x)(he:e=b.lo\/e=b.hi)(hE:∀ i,E i<=549755813898)(hp:∀ i,0<=E i-toE e i) :
 Calls prog 226 #[.pointer (some ⟨sb,0,none⟩),.int .i64 e] w fun q w'=>q=.returned (.tuple #[])/\∃ d',Zar o w' sb d'/\Zah o w'/\Zbq d0 V0 k x y Wt (addE E e (-1)) done d' V/\Chg Zap o o w w':=by
 obtain⟨s,st⟩:=st;obtain⟨hx,hy,lx,ly,g3⟩:=f.facts;have g1:okE (Zaa d0) e:=by rcases he with rfl|rfl;exact f.ok.dag.okLo _ _ hb;exact f.ok.dag.okHi _ _ hb
 have g2:levN d0 b.v<lvE d0.vars.length (levN d0) (Zaa d0) e:=by rcases he with rfl|rfl;exact f.ok.dag.lvLo _ _ hb;exact f.ok.dag.lvHi _ _ hb
 have ho:=Zi0 m.mid g1;have g6:=st.pool.top;have g4:=st.pool.room;refine(Zfx o sb s _ (2*(d0.vars.length-levN d0 x)) w d E e ⟨st,hlt,m.acy f,ho,m.live,fun q c hc=>?_,fun q _ _=>hp q,?_⟩).mono ?_
 . have h1:=m.live.cnt.le hc;have h2:=hE q;omega
 ·rcases g1 with h0|⟨c0,g0⟩
  . exact .inl h0
  ·right;rw[Zpt g0,hbx] at g2;have g5:=f.ok.dag.lt _ (f.ok.dag.var _ _ g0);rcases ho with h0|⟨c,hc⟩
   . rw[h0,f.ok.dag.none0] at g0;cases g0
   ·rcases Zyb m.mid g0 hc with ⟨_,hv,_⟩|⟨_,_,h3,_⟩
    . rw[hv] at g2;omega
    . omega
 . rintro q w' ⟨cs,dd,rfl,h1,h2,h3,h4,_,h6⟩;exact⟨rfl,_,⟨s,h1⟩,hlt.mono h6.size,m.counts h2 h3 h4 (Nat.le_refl _),Zs5 h6⟩
theorem Zhp {V:Nat->BF}(st:Zar o w sb d)(hlt:Zah o w)(hk:Zak d V) :
 Calls prog 215 #[.pointer (some ⟨sb,0,none⟩)] w fun q w'=>q=.returned (.int .i64 d.dead)/\∃ o' d',Zar o' w' sb d'/\Zah o' w'/\Za7 d d'/\Chg Zap o o' w w':=by
 by_cases h0:d.dead=0
 . refine(Zh3 st h0).mono ?_;rintro q w' ⟨rfl,hb⟩;obtain⟨s,st⟩:=st;exact⟨by rw[h0];rfl,o,d,⟨s,st.below hlt hb⟩,hlt.mono hb.size,Za7.none hk h0,Chg.of_below hb _ _⟩
 . exact Zkj st hlt hk h0
end
open Go.RowKit
section
variable {R:Role->Prop}{o o':Own}{w w':World}
structure Box (o:Own)(w:World)(b:Nat)(O:Obj):Prop where
 blk:w.heap[b]?=some O
 no:o b=none
theorem Box.chg {b:Nat}{O:Obj}(h:Box o w b O)(hc:Chg R o o' w w'):Box o' w' b O :=
 ⟨(hc.alien (Array.getElem?_eq_some_iff.1 h.blk).1 h.no).trans h.blk,hc.alien' (Array.getElem?_eq_some_iff.1 h.blk).1 h.no⟩
theorem Box.cell {b:Nat}{cs:Array Value}{T:TypeId}(h:Box o w b (.cells cs T (0,0)))(i:Nat):w.cell? ⟨b,i,none⟩=cs[i]?:=cell_of_row w b i _ _ _ h.blk
theorem Box.other {b:Nat}{O:Obj}{p:Addr}{u:Value}(h:Box o w b O)(hne:b≠p.block):Box o (w.setCell p u) b O:=⟨(Zaf hne _).trans h.blk,h.no⟩
theorem Box.set {b:Nat}{cs:Array Value}{T:TypeId}(h:Box o w b (.cells cs T (0,0)))(i:Nat)(u:Value):Box o (w.setCell ⟨b,i,none⟩ u) b (.cells (cs.setIfInBounds i u) T (0,0)) :=
 ⟨Zac h.blk u,h.no⟩
theorem TRow.chg {base:Nat}{v:Value}{ts:List TN}(h:TRow w base v ts)(hc:Chg R o o' w w')(hn:0<ts.length->∀ g,v.ownBlock=some g->o g=none):TRow w' base v ts:=by
 by_cases hp:0<ts.length
 . exact h.keep fun g _ hg hv=>hc.alien hg (hn hp g hv)
 . obtain⟨a,c,h1,_⟩:=h.ex;exact⟨h.small,a,c,h1,fun k hk=>by omega⟩
theorem TRow.blk {base:Nat}{v:Value}{ts:List TN}(h:TRow w base v ts)(hp:0<ts.length):∀ g,v.ownBlock=some g->base<=g/\g<w.heap.size:=by
 obtain⟨a,c,rfl,h1⟩:=h.ex;obtain⟨g0,rfl,hb,hc⟩:=h1 0 hp;intro g hg;cases hg;exact⟨hb,Zab (hc 0 _ rfl)⟩
end
structure RndI (sb:Nat)(o1:Own)(w1:World)(base:Nat)(v:Value)(ts:List TN)(W:World)(o:Own)(d:Zad):Prop where
 st:Zar o W sb d
 lt:Zah o W
 row:TRow W base v ts
 no:0<ts.length->∀ g,v.ownBlock=some g->o g=none
 chg:Chg Zap o1 o w1 W
section
variable {sb:Nat}{o1 o o':Own}{w1 W W':World}{base:Nat}{v:Value}{ts:List TN}{d d':Zad}{R:Role->Prop}
theorem RndI.move (h:RndI sb o1 w1 base v ts W o d)(st:Zar o' W' sb d')(lt:Zah o' W')(hc:Chg R o o' W W')(hR:∀ r,R r->Zap r):RndI sb o1 w1 base v ts W' o' d' :=
 ⟨st,lt,h.row.chg hc h.no,fun hp g hg=>hc.alien' (h.row.blk hp g hg).2 (h.no hp g hg),h.chg.trans (hc.mono hR)⟩
theorem RndI.below (h:RndI sb o1 w1 base v ts W o d)(hb:Below W.heap.size W W'):RndI sb o1 w1 base v ts W' o d :=
 h.move (R:=Zap) (h.st.below h.lt hb) (h.lt.mono hb.size) (Chg.of_below hb _ _) (fun _ h=>h)
theorem RndI.write (h:RndI sb o1 w1 base v ts W o d){b:Nat}(hb:o b=none)(h1:w1.heap.size<=b)(hv:∀ g,0<ts.length->v.ownBlock=some g->g≠b)(i:Nat)(u:Value):RndI sb o1 w1 base v ts (W.setCell ⟨b,i,none⟩ u) o d:=by
 refine⟨h.st.keepR (fun g r hg _=>Zaf (by rintro rfl;rw[hb] at hg;cases hg) _) (fun _ _ h=>h),h.lt.mono (by simp[World.setCell]),?_,h.no,h.chg.setCell_new h1 u⟩
 by_cases hp:0<ts.length
 . exact h.row.keep fun g _ _ hg=>Zaf (hv g hp hg) _
 . obtain⟨a,c,h2,_⟩:=h.row.ex;exact⟨h.row.small,a,c,h2,fun k hk=>by omega⟩
end
section
variable {d0 d:Zad}{V0 V:Nat->BF}{k x y:Nat}{Wt:List (Nat×Nat)}{E:Nat->Int}{done:Nat->Prop}
theorem Zvq (E:Nat->Int)(a b lo hi:Nat):addE (addE (addE (addE (addE (addE E lo 1) hi 1) a 1) b 1) lo (-1)) hi (-1)=addE (addE E a 1) b 1:=by
 funext i;unfold addE;omega
theorem Zvp (E:Nat->Int)(a b:Nat):addE (addE (addE (addE E a 1) b 1) a (-1)) b (-1)=E:=by
 funext i;unfold addE;omega
theorem Zof {i:Nat}{n:RN}(hk:i<d.pool.at_.length)(ht:d.pool.tk i=true):Zaa { d with pool:=d.pool.setNd i n }=setN (Zaa d) i (bnOf n):=by
 funext j;unfold Zaa setN;rw[Zal.setNd_get hk ht]
 by_cases e:j=i
 . rw[if_pos e,if_pos e];rfl
 . rw[if_neg e,if_neg e]
theorem Zr3 {i:Nat}{n:RN}(hk:i<d.pool.at_.length)(ht:d.pool.tk i=true)(he:(n.refs:Int)=Zaw d i):Zaw { d with pool:=d.pool.setNd i n }=Zaw d:=by
 funext j;have hb:Zaw d i=((d.pool.nd i).refs:Int):=Zce ht;unfold Zaw;have h1:(d.pool.setNd i n).tk j=d.pool.tk j:=rfl;have h2:(d.pool.setNd i n).nd j=if j=i then n else d.pool.nd j:=Zid hk j
 dsimp only;rw[h1,h2]
 by_cases e:j=i
 . subst e;rw[if_pos rfl,he,hb]
 . rw[if_neg e]
theorem Zbq.turned {i lo hi:Nat}{b:BN}{n:RN}(m:Zbq d0 V0 k x y Wt (addE (addE (Zaw d0) lo 1) hi 1) done d V)(f:SwF d0 V0 k x y)(hT:Turns (Zaa d0) x y i)(hd:¬ done i)(hb:Zaa d0 i=some b)
 (hlo:midE d0.vars.length (levN d0) (Zaa d0) (Zaa d) x y lo) (hhi:midE d0.vars.length (levN d0) (Zaa d0) (Zaa d) x y hi) (hr:hi%2=0) (hne:lo≠hi) (hV:V0 i=iteF y (ef V hi) (ef V lo))
 (hn:bnOf n=⟨y,lo,hi⟩) (hrf:(n.refs:Int)=Zaw d0 i) (hk:i<d.pool.at_.length) :
 d.tab y (lo,hi)=none/\Zbq d0 V0 k x y Wt (addE (addE (Zaw d0) b.lo 1) b.hi 1) (fun j=>done j\/j=i) { d with pool:=d.pool.setNd i n,tab:=fun u=>if u=y then putF (d.tab y) (lo,hi) (some i) else d.tab u } V:=by
 obtain⟨hx,hy,lx,ly,g0⟩:=f.facts;have g1:Zaa d i=some b:=m.mid.keep i b hb hd;have ht:=(Za1 g1).1;refine⟨m.fresh_y f.ok.dag g0 hy hT hd hV,?_⟩;have h1:=m.set (p':=d.pool.setNd i n) g0 f.ok.dag hy hT hd hb hlo hhi hr hne hV (by rw[Zof hk ht,hn]) (Zr3 hk ht (by rw[hrf,m.ext])) rfl rfl (by simp[Zal.setNd]);rw[Zvq] at h1;have e:(fun u=>if u=y then putF (d.tab u) (lo,hi) (some i) else d.tab u)=(fun u=>if u=y then putF (d.tab y) (lo,hi) (some i) else d.tab u):=by
  funext u;by_cases e:u=y
  . subst e;rfl
  . rw[if_neg e,if_neg e]
 rw[e] at h1;exact h1
end
theorem Ya3 {sb:Nat}{o1 o:Own}{w1 W:World}{base:Nat}{v:Value}{ts:List TN}{d:Zad}{s:Za5}(h:RndI sb o1 w1 base v ts W o d)(st:Zam o W sb d s){n:RN}(ht:d.pool.tk n.id=true){O1 O2:Obj}{b1 b2:Nat}(x1:Box o W b1 O1)(x2:Box o W b2 O2) :
 Calls prog 224 #[.pointer (some ⟨s.pb,0,none⟩),Zaz n] W fun e w'=>∃ q,e=.returned q/\(q=.int .i64 0/\RndI sb o1 w1 base v ts w' o { d with pool:=d.pool.setNd n.id n }/\Zam o w' sb { d with pool:=d.pool.setNd n.id n } s/\Box o w' b1 O1/\Box o w' b2 O2):=by
 refine(Zhs o s.pb d.pool n W st.pool h.lt ht).mono ?_;rintro e w' ⟨rfl,hp,hc,g0⟩;have st':=st.setPool h.lt hp (hc.mono (fun r hr=>by simp[Ze1,hr]));exact⟨_,rfl,rfl,h.move ⟨s,st'⟩ g0 hc Zgo,st',x1.chg hc,x2.chg hc⟩
theorem Ya2 {sb:Nat}{o1 o:Own}{w1 W:World}{base:Nat}{v:Value}{ts:List TN}{d:Zad}{s:Za5}(h:RndI sb o1 w1 base v ts W o d)(st:Zam o W sb d s){y lo hi id:Nat}(hy:y<s.ts.length)(hf:d.tab y (lo,hi)=none){O1 O2:Obj}{b1 b2:Nat}(x1:Box o W b1 O1)(x2:Box o W b2 O2) :
 Calls prog 225 #[.pointer (some ⟨s.ts.getD y 0,0,none⟩),.int .i64 lo,.int .i64 hi,.int .i64 id] W fun e w'=>∃ q,e=.returned q/\(q=.int .i64 0/\RndI sb o1 w1 base v ts w' o { d with tab:=fun u=>if u=y then putF (d.tab y) (lo,hi) (some id) else d.tab u }/\Box o w' b1 O1/\Box o w' b2 O2):=by
 refine(Zx4 o y (s.ts.getD y 0) (d.tab y) lo hi id W (st.tab y hy) h.lt hf).mono ?_;rintro e w' ⟨rfl,ht,hc,g0⟩;have st':=st.setTab h.lt ht hc;exact⟨_,rfl,rfl,h.move ⟨s,st'⟩ g0 hc (fun r hr=>by simp[Zap,hr]),x1.chg hc,x2.chg hc⟩
structure Yb6 (d0:Zad)(V0:Nat->BF)(x y i:Nat)(b:BN):Prop where
 node:Zaa d0 i=some b
 v:b.v=x
 lo:(d0.pool.nd i).lo=b.lo
 hi:(d0.pool.nd i).hi=b.hi
 id:(d0.pool.nd i).id=i
 val:Yb7 d0 V0 x y i (tnOf d0 y i).ll (tnOf d0 y i).lh (tnOf d0 y i).hl (tnOf d0 y i).hh
 ne:(tnOf d0 y i).ll≠(tnOf d0 y i).lh\/(tnOf d0 y i).hl≠(tnOf d0 y i).hh
theorem Zy2 {d0:Zad}{V0:Nat->BF}{k x y i:Nat}{o:Own}{w:World}{sb:Nat}{s:Za5}(f:SwF d0 V0 k x y)(h:Zam o w sb d0 s)(hT:Turns (Zaa d0) x y i):∃ b,Yb6 d0 V0 x y i b:=by
 obtain⟨hx,hy,lx,ly,g2⟩:=f.facts;obtain⟨b,hb,g0,g3⟩:=id hT;obtain⟨ht,g1,he⟩:=Za1 hb;rw[g1] at he;have e1:(d0.pool.nd i).lo=b.lo:=by rw[<- he];rfl
 have e2:(d0.pool.nd i).hi=b.hi:=by rw[<- he];rfl
 refine⟨b,hb,g0,e1,e2,h.pool.id i ht,?_,?_⟩
 . have:=Zy3 f.ok hy (by omega) hb g0;unfold tnOf;rw[e1,e2];exact this
 . have:=(Zjc f.ok hb g0).2 hT;unfold Zez at this;exact of_decide_eq_true this
structure Zvf (d0:Zad)(V0:Nat->BF)(k x y:Nat)(Wt:List (Nat×Nat))(done:Nat->Prop)(i:Nat)(r1 r2:Nat)(d:Zad)(V:Nat->BF):Prop where
 mid:Zbq d0 V0 k x y Wt (Zaw d0) done d V
 e1:midE d0.vars.length (levN d0) (Zaa d0) (Zaa d) x y r1
 e2:midE d0.vars.length (levN d0) (Zaa d0) (Zaa d) x y r2
 reg:r2%2=0
 ne:r1≠r2
 val:V0 i=iteF y (ef V r2) (ef V r1)
theorem Zvf.of {d0:Zad}{V0:Nat->BF}{k x y:Nat}{Wt:List (Nat×Nat)}{done:Nat->Prop}{i r1 r2:Nat}{d d1 d2:Zad}{V V1 V2:Nat->BF}{b:BN}(f:SwF d0 V0 k x y)(t:Yb6 d0 V0 x y i b)
 (h1:Zf0 d0 V0 k x y Wt done d V (tnOf d0 y i).ll (tnOf d0 y i).hl r1 d1 V1) (h2:Zf0 d0 V0 k x y Wt done d1 V1 (tnOf d0 y i).lh (tnOf d0 y i).hh r2 d2 V2):Zvf d0 V0 k x y Wt done i r1 r2 d2 V2:=by
 obtain⟨hx,hy,lx,ly,g0⟩:=f.facts;obtain⟨k1,k2⟩:=h2.keep r1 h1.edge;obtain⟨q1,q2⟩:=Zvd (V:=V2) f.ok hx hy g0 (by omega) t.val t.ne (k2.trans h1.val) h2.val;exact⟨h2.mid,k1,h2.edge,h2.reg t.val.reg,q2,q1⟩
theorem Ztl {d0 d:Zad}{V0 V:Nat->BF}{k x y:Nat}{Wt:List (Nat×Nat)}{E:Nat->Int}{done:Nat->Prop}{ps:List (Nat×Nat)}(m:Zbq d0 V0 k x y Wt E done d V)(f:SwF d0 V0 k x y)(hw:Zf6 (d0.tab x) ps Wt){lo hi:Nat}(hp:(lo,hi)∈ps)
 (hlo:lowE d0.vars.length (levN d0) (Zaa d0) y lo) (hhi:lowE d0.vars.length (levN d0) (Zaa d0) y hi) (hne:lo≠hi) (ht:d.tab x (bkey lo hi)=none):bkey lo hi∈Wt:=by
 obtain⟨hx,hy,lx,ly,g3⟩:=f.facts;refine hw.has (lo,hi) hp hne ?_
 show d0.tab x (bkey lo hi)=none
 cases e:d0.tab x (bkey lo hi) with
 | none=>rfl
 | some id =>
   exfalso;have hb:=(f.ok.tab x hx _ _ id).1 e;have low:∀ {e:Nat},lowE d0.vars.length (levN d0) (Zaa d0) y e->¬ isV (Zaa d0) y e:=by
    rintro e ⟨_,h2⟩ ⟨c,hc,g1⟩;rw[Zpt hc,g1] at h2;omega
   by_cases hT:Turns (Zaa d0) x y id
   ·obtain⟨b,g0,g4,g2⟩:=hT;rw[hb] at g0;cases g0;rcases g2 with h|h
    . exact low (Zde hlo) h
    . exact low (Zde hhi) h
   . have h1:=(m.tabX (bkey lo hi).1 (bkey lo hi).2 id).2 ⟨m.mid.keep id _ hb (fun hd=>hT (m.mid.dn id hd).1),hT⟩;rw[show ((bkey lo hi).1,(bkey lo hi).2)=bkey lo hi from rfl,ht] at h1;cases h1
open Go.RowKit
section
variable {F:Phi}{o:Own}{w:World}{sb mb:Nat}{d:Zad}{m:ManD}
theorem Zok (h:Zar o w sb d):Calls prog 218 #[.pointer (some ⟨sb,0,none⟩)] w fun x w'=>x=.returned (.int .i64 d.pool.room)/\w=w':=by
 obtain⟨s,h⟩:=h;obtain⟨c0,c1,c2,c3,c4,f0⟩:=cells5 h.blk;have HP:=Hd (Zp9 o s.pb d.pool w h.pool);clear h
 go_enter func218,ntmps218
 go_wp2_with fail;refine HP.out.mono ?_;rintro x w' ⟨rfl,rfl⟩;go_wp2_with fail;go_ret;exact⟨rfl,rfl⟩
end
section
variable {F:Phi}{o:Own}{w:World}{sb mb:Nat}{d:Zad}{m:ManD}
theorem Zqq (h:Zar o w sb d):Calls prog 219 #[.pointer (some ⟨sb,0,none⟩)] w fun x w'=>x=.returned (.int .i64 d.pool.many)/\w=w':=by
 obtain⟨s,h⟩:=h;obtain⟨c0,c1,c2,c3,c4,f0⟩:=cells5 h.blk;have HP:=Hd (Zr0 o s.pb d.pool w h.pool);clear h
 go_enter func219,ntmps219
 go_wp2_with fail;refine HP.out.mono ?_;rintro x w' ⟨rfl,rfl⟩;go_wp2_with fail;go_ret;exact⟨rfl,rfl⟩
end
open Go.RowKit
theorem Zzq {d:Zad}{ids:List Nat}(hn:ids.Nodup)(ht:∀ i∈ids,d.pool.tk i=true)(hlt:∀ i,d.pool.tk i=true->i<d.pool.at_.length)(hc:(d.pool.many:Int)=Zas d.pool.at_.length (fun i=>if d.pool.tk i=true then 1 else 0)):ids.length<=d.pool.many:=by
 have key:∀ (l:List Nat),l.Nodup->(∀ i∈l,d.pool.tk i=true)->∀ kk,(∀ i∈l,i<kk)->(l.length:Int)<=Zas kk (fun i=>if d.pool.tk i=true then 1 else 0):=by
  intro l hl g0 kk
  induction kk generalizing l with
  | zero =>
    intro h;cases l with
    | nil=>simp[Zas]
    | cons a l=>have:=h a (by simp);omega
  | succ kk ih =>
    intro h
    show (l.length:Int)<=Zas kk (fun i=>if d.pool.tk i=true then 1 else 0)+(if d.pool.tk kk=true then 1 else 0)
    by_cases hm:kk∈l
    ·have h1:=ih (l.erase kk) (hl.erase kk) (fun i hi=>g0 i (List.mem_of_mem_erase hi)) (fun i hi=>by
      have h2:=h i (List.mem_of_mem_erase hi);have h3:i≠kk:=fun e=>by subst e;exact(List.Nodup.not_mem_erase hl) hi
      omega)
     rw[List.length_erase_of_mem hm] at h1;have g1:0<l.length:=List.length_pos_of_mem hm;have:=g0 kk hm;simp only[this,if_true];omega
    ·have h1:=ih l hl g0 (fun i hi=>by
      have h2:=h i hi;have h3:i≠kk:=fun e=>by subst e;exact hm hi
      omega)
     have:(0:Int)<=if d.pool.tk kk=true then 1 else 0:=by split<;>omega
     omega
 have:=key ids hn ht d.pool.at_.length (fun i hi=>hlt i (ht i hi));omega
theorem Zxz (ts:List TN):(ts.flatMap Zcc).length=2*ts.length:=by
 induction ts with
 | nil=>rfl
 | cons a l ih=>simp[List.flatMap_cons,Zcc,ih];omega
structure CutI (d0:Zad)(k x:Nat)(ids:List Nat)(sb:Nat)(s:Za5)(o1:Own)(w1:World)(base:Nat)(v:Value)(ts:List TN)(j:Nat)(W:World)(o:Own)(d:Zad):Prop where
 st:Zam o W sb d s
 lt:Zah o W
 cut:CutS d0 k x (fun i=>i∈ids.take j) d
 row:TRow W base v ts
 no:0<ts.length->∀ g,v.ownBlock=some g->o g=none
 chg:Chg Zap o1 o w1 W
theorem CutI.move {d0:Zad}{k x:Nat}{ids:List Nat}{sb:Nat}{s:Za5}{o1:Own}{w1:World}{base:Nat}{v:Value}{ts:List TN}{j:Nat}{W W':World}{o o':Own}{d d':Zad}{R:Role->Prop}(h:CutI d0 k x ids sb s o1 w1 base v ts j W o d)(st:Zam o' W' sb d' s)(hc:Chg R o o' W W')(hR:∀ r,R r->Zap r)(lt:Zah o' W'){j':Nat}(cut:CutS d0 k x (fun i=>i∈ids.take j') d') :
 CutI d0 k x ids sb s o1 w1 base v ts j' W' o' d' :=
 ⟨st,lt,cut,h.row.chg hc h.no,fun hp g hg=>hc.alien' (h.row.blk hp g hg).2 (h.no hp g hg),h.chg.trans (hc.mono hR)⟩
theorem CutS.congr {d0 d:Zad}{k x:Nat}{g g':Nat->Prop}(h:CutS d0 k x g d)(e:∀ i,g i↔g' i):CutS d0 k x g' d:=by
 have e':g=g':=funext fun i=>propext (e i)
 rw[<- e'];exact h
theorem Zol {o:Own}{w:World}{sb:Nat}{d:Zad}{V:Nat->BF}(st:Zar o w sb d)(hlt:Zah o w)(hk:Zak d V)(k:Nat)(hk1:k+1<d.vars.length)(htop:∀ i,Zaw d i<=549755813888) :
 Calls prog 160 #[.pointer (some ⟨sb,0,none⟩),.int .i64 k] w fun q w'=>∃ o' d0,Za7 d d0/\Zah o' w'/\Chg Zap o o' w w' /\
  ((q=.returned (.int .i64 7)/\Zar o' w' sb d0/\d0.pool.room<3*d0.pool.many)\/(q=.returned (.int .i64 0)/\∃ d' V',Zar o' w' sb d'/\Zke d0 V k d' V')):=by
 obtain⟨P,hP⟩:∃ P:Ending->World->Prop,P=fun q w'=>∃ o' d0,Za7 d d0/\Zah o' w'/\Chg Zap o o' w w' /\
  ((q=.returned (.int .i64 7)/\Zar o' w' sb d0/\d0.pool.room<3*d0.pool.many)\/(q=.returned (.int .i64 0)/\∃ d' V',Zar o' w' sb d'/\Zke d0 V k d' V')):=⟨_,rfl⟩
 rw[<- hP];have kA:=Hd hP;clear hP;obtain⟨s0,h0⟩:=id st;obtain⟨c0,c1,c2,c3,c4,f0⟩:=cells5 h0.blk;obtain⟨l0,l1,_⟩:=cells2 h0.lev;obtain⟨gv,cv,gB,gS,_⟩:=h0.vars.shape (by omega);rw[gB] at l0;have HB:=hk.small;have kk:=Hd (Zhp st hlt hk);have HK:=Hd hk;have H2:¬ ((k:Int)>=(d.vars.length:Int)-1):=by omega
 have kL:=Hd htop;clear h0 gB st hlt hk gS htop c1 c2 c3 c4 f0 l1
 go_enter func160,ntmps160
 go_wp2_with fail;refine kk.out.mono ?_;rintro q w1 ⟨rfl,o1,d0,⟨s,h1⟩,hf,gG,kw⟩;have gR:=gG.ok HK.out;obtain⟨x,hx⟩:∃ x,x=d0.vars.getD k 0:=⟨_,rfl⟩;obtain⟨y,hy⟩:∃ y,y=d0.vars.getD (k+1) 0:=⟨_,rfl⟩;have kq:d0.vars.length=d.vars.length:=by rw[gG.vars]
 have FR:SwF d0 V k x y:=⟨⟨by omega,hx.symm,hy.symm⟩,gR,h1.len,fun i=>by
  cases hi:Zaa d0 i with
  | none=>rw[Zei hi];omega
  | some b=>rw[gG.ext i b hi];exact kL.out i⟩
 have gi:=FR.facts.1;have H3:=FR.facts.2.1;obtain⟨c0,c1,c2,c3,c4,f0⟩:=cells5 h1.blk;obtain⟨l0,l1,_⟩:=cells2 h1.lev;obtain⟨gv,cv,gB,gS,_⟩:=h1.vars.shape (by omega);have r1:=h1.vars;rw[gB] at r1 l0;have a0:=r1.cell k (by simp;omega);have a1:=r1.cell (k+1) (by simp;omega);rw[Zfb (by omega),<- hx] at a0;rw[Zfb (by omega),<- hy] at a1;have Ha:(k:Int)<d0.vars.length:=by omega
 have H9:(k:Int)+1<d0.vars.length:=by omega
 have km:=Hd (Ya1 ⟨s,h1.below hf (Zag w1 1)⟩ (hf.mono (Zag w1 1).size) gR x y gi);have g1:=Hd FR;have H1:=Hd h1;have ki:=Hd hf;have kg:=Hd gG;have kG:=Hd kw;have Hy:d0.vars.length<=64:=by omega
 have HH:=Hd kq;have H6:IntKind.i64.wrap ((k:Int)+1)=((k+1:Nat):Int):=by rw[IntWalk.i64_in _ (by omega)];rfl
 clear h1 hf gG kw gR gB gS r1 hx hy FR kk kq H2;go_upto_region 6 with fail;refine Zan (fun W:World=>W.cell? ⟨sb,0,none⟩=some (.pointer (some ⟨s.lb,0,none⟩))/\W.cell? ⟨s.lb,0,none⟩=some (.slice (some ⟨gv,0,none⟩) d0.vars.length cv)/\W.cell? ⟨gv,k,none⟩=some (.int .i64 (x:Nat))/\W.cell? ⟨gv,k+1,none⟩=some (.int .i64 (y:Nat))) false 23 [(0,false),(1,false),(2,false),(3,false),(4,false),(5,false),(6,false),(7,false),(8,false),(9,false),(10,false),(11,false),(12,false),(13,false),(14,false),(15,false),(16,false),(17,false),(18,false),(19,false),(20,false),(21,false),(22,false)] (by kernel_rfl) (by kernel_rfl) ⟨c0,l0,a0,a1⟩ ?_;simp only[planned,Zdd]
 iterate 23
  refine Zaj rfl ?_;apply Exists.intro;refine⟨fun w' hw=>?_,?_⟩
  . obtain⟨h1,h2,h3,h4⟩:=hw;go_simp;rfl
  simp only[Zai]
 refine Zdm ?_;go_wp2_with fail;refine km.out.mono ?_;rintro q w2 ⟨v,ids,rfl,hS,gU,gr,gp⟩;obtain⟨ts,h5⟩:∃ ts,ts=ids.map (tnOf d0 y):=⟨_,rfl⟩;rw[<- h5] at gr;have gm:Below w1.heap.size w1 w2:=⟨gp.os,gp.tape,gp.output,gp.size,fun q hq=>gp.block q hq⟩;have h2:=H1.out.below ki.out gm;have gK:=ki.out.mono gm.size;have hB:Hid (∀ i∈ids,∃ b,Yb6 d0 V x y i b):=Hd fun i hi=>Zy2 g1.out H1.out ((gU i).1 hi)
 have k9:∀ t∈ts,t.ll<eMax/\t.lh<eMax/\t.hl<eMax/\t.hh<eMax:=by
  intro t ht;rw[h5] at ht;obtain⟨i,hi,rfl⟩:=List.mem_map.1 ht;obtain⟨b,tb⟩:=hB.out i hi;have q1:=H1.out.edge_lt tb.val.f1.1;have q2:=H1.out.edge_lt tb.val.f2.1;have q3:=H1.out.edge_lt tb.val.f3.1;have q4:=H1.out.edge_lt tb.val.f4.1;unfold eMax;omega
 have hv:=Hd (Zy5 h2 gK x gi gr k9);have kd:=Hd fun W (hb:Below w2.heap.size w2 W)=>Zok ⟨s,h2.below gK hb⟩
 have Hr:=Hd fun W (hb:Below w2.heap.size w2 W)=>Zqq ⟨s,h2.below gK hb⟩
 have HE:=H1.out.pool.many;have HC:=H1.out.pool.top;have HD:=H1.out.pool.room
 have Hu:Hid (ids.length<=d0.pool.many):=Hd (Zzq hS (fun i hi=>by
  obtain⟨b,tb⟩:=hB.out i hi;exact(Za1 tb.node).1) (fun i hi=>(H1.out.pool.tk_lt hi).2) H1.out.pool.cnt)
 have kF:=Hd h2;have hG:=Hd gK;have HB2:=Hd gm;have gy:=Hd gr;have gX:=Hd gU;have kC:=Hd hS;have hA:=Hd h5;have HG:w1.heap.size<=w2.heap.size:=gm.size;clear gp gm h2 gK gr gU hS k9 c0 c1 c2 c3 c4 f0 l0 l1 a0 a1 Ha H9 H6 h5;go_wp2_with fail;refine hv.out.mono ?_;rintro q w3 ⟨Wt,rfl,hM,ho⟩;have gM:=Hd hM;have go:=Hd ho;have H7:Wt.length<=2*ts.length:=by have:=hM.len;rw[Zxz] at this;exact this
 have h6:ts.length=ids.length:=by rw[hA.out,List.length_map]
 have He:=Hu.out;have kM:=Hd (kd.out w3 ho);have kS:=Hd (Hr.out w3 ho);clear hM ho hv;go_wp2_with fail;refine kM.out.mono ?_;rintro q w' ⟨rfl,rfl⟩;go_wp2_with fail;refine kS.out.mono ?_;rintro q w' ⟨rfl,rfl⟩
 by_cases Hz:(Wt.length:Int)>(d0.pool.room:Int)-(d0.pool.many:Int)
 ·have HF:Hid (P (.returned (.int .i64 7)) w3):=by
   rw[kA.out];exact Hd ⟨o1,d0,kg.out,hG.out.mono go.out.size,kG.out.trans ((Chg.of_below HB2.out _ _).trans (Chg.of_below go.out _ _)),.inl ⟨rfl,⟨s,kF.out.below hG.out go.out⟩,by omega⟩⟩
  clear h6;go_wp2_with fail;exact HF.out
 have kj:Hid (d0.pool.many+Wt.length<=d0.pool.room):=Hd (by omega);have h3:=kF.out.below hG.out go.out;have ku:=hG.out.mono go.out.size;obtain⟨c0,c1,c2,c3,c4,f0⟩:=cells5 h3.blk;have hC:=Hd (Zlr h3 k (by have:=g1.out.v.k1;exact this) g1.out.ok.small (by rw[h3.len];rw[g1.out.v.x];exact gi) (by rw[h3.len];rw[g1.out.v.y];exact H3));have HO:=Hd h3;have Ht:=Hd ku;clear h3 ku;go_wp2_with fail;refine hC.out.mono ?_;rintro q w4 ⟨rfl,h4,hn⟩;have h7:=(gy.out.below go.out);have gT:0<ts.length->∀ g,v.ownBlock=some g->o1 g=none:=fun hp g hg=>ki.out.none (gy.out.blk hp g hg).1
 have Hv:Hid (CutI d0 k x ids sb s o1 w1 w1.heap.size v ts 0 w4 o1 (Zee d0 k)):=Hd ⟨h4,Ht.out.mono hn.size,(CutS.start d0 k x).congr (fun i=>by simp),h7.chg hn gT,gT,(Chg.of_below HB2.out _ _).trans ((Chg.of_below go.out _ _).trans hn)⟩;obtain⟨av,cvv,kp,_⟩:=gy.out.ex;rw[h6] at kp;have hH:Hid (ids.length<=1048578):=Hd (by have:=gy.out.small;omega);clear h7 gT h4 hn hC c0 c1 c2 c3 c4 f0 He H7;subst kp;go_wp2_with fail
 go_loopw [77] (fun s77 wr=>∃ j:Nat,j<=ids.length/\s77=.int .i64 j/\Hid (∃ o d,CutI d0 k x ids sb s o1 w1 w1.heap.size (.slice av ids.length cvv) ts j wr o d)) (fun s77 _=>ids.length-(intOf s77).toNat)
 case atStart=>exact⟨0,Nat.zero_le _,rfl,Hd ⟨o1,_,Hv.out⟩⟩
 case round =>
  obtain⟨j,hj,rfl,HCI⟩:=hrel
  by_cases hlt:j<ids.length
  ·obtain⟨oj,dj,g2⟩:=HCI.out;obtain⟨a',c',ea,g3⟩:=g2.row.ex;rw[h6] at ea;injection ea with ea1 ea2 ea3
   obtain⟨g,hg,_,g0⟩:=g3 j (by omega);rw[hg] at ea1;subst ea1;obtain⟨i,hi⟩:∃ i,i=ids[j]:=⟨_,rfl⟩;have gE:ts[j]'(by omega)=tnOf d0 y i:=by rw[hi];simp[hA.out]
   rw[gE] at g0;obtain⟨b,tb⟩:=hB.out i (by rw[hi];exact List.getElem_mem hlt);have gD:tnOf d0 y i=⟨d0.pool.nd i,(tnOf d0 y i).ll,(tnOf d0 y i).lh,(tnOf d0 y i).hl,(tnOf d0 y i).hh⟩:=rfl;obtain⟨N,hN⟩:∃ N,N=d0.pool.nd i:=⟨_,rfl⟩;obtain⟨ll,ga⟩:∃ q,q=(tnOf d0 y i).ll:=⟨_,rfl⟩;obtain⟨lh,gc⟩:∃ q,q=(tnOf d0 y i).lh:=⟨_,rfl⟩;obtain⟨hl,gd⟩:∃ q,q=(tnOf d0 y i).hl:=⟨_,rfl⟩;obtain⟨hh,ge⟩:∃ q,q=(tnOf d0 y i).hh:=⟨_,rfl⟩;rw[gD,<- hN,<- ga,<- gc,<- gd,<- ge] at g0;have e0:wr.cell? ⟨g,j*9,none⟩=some _:=g0 0 _ rfl;have e1:=g0 1 _ rfl;have e2:=g0 2 _ rfl;have e3:=g0 3 _ rfl;have e4:=g0 4 _ rfl;have e5:=g0 5 _ rfl;have e6:=g0 6 _ rfl;have e7:=g0 7 _ rfl;have e8:=g0 8 _ rfl;have hW:N.lo=b.lo:=by rw[hN];exact tb.lo
   have hX:N.hi=b.hi:=by rw[hN];exact tb.hi
   have HA:=Hd g2;have HL:=Hd hi;have gn:=Hd tb;have HJ:=Hd hW;have HM:=Hd hX;have Hb:(j:Int)<ids.length:=by omega
   have Hf:=hH.out;have Hc:(j:Int)+1<=1048578:=by omega
   have gi:=g1.out.facts.1;have hQ:d0.tab x (N.lo,N.hi)=some i:=by
    rw[hW,hX];refine(g1.out.ok.tab x gi _ _ _).2 ?_;rw[tb.node,<- tb.v]
   have gH:¬ i∈ids.take j:=by
    intro hm;have gI:=kC.out;rw[<- List.take_append_drop j ids,List.nodup_append] at gI;refine gI.2.2 i hm i ?_ rfl;rw[List.drop_eq_getElem_cons hlt,hi];exact List.mem_cons_self
   have kv:dj.tab x (N.lo,N.hi)=some i:=g2.cut.has hQ gH;have hO:x<dj.vars.length:=by rw[g2.cut.vars,Zir];exact gi
   have Hh:(fun u=>if u=x then putF (dj.tab u) (N.lo,N.hi) none else dj.tab u)=(fun u=>if u=x then putF (dj.tab x) (N.lo,N.hi) none else dj.tab u):=by funext u;by_cases e:u=x<;>simp[e]
   have kQ:Hid (CutS d0 k x (fun q=>q∈ids.take (j+1)) { dj with tab:=fun u=>if u=x then putF (dj.tab x) (N.lo,N.hi) none else dj.tab u }):=Hd (by
    have q1:=(g2.cut.next g1.out.ok gi hQ).congr (g':=fun q=>q∈ids.take (j+1)) (fun q=>by
     rw[List.take_succ_eq_append_getElem hlt,List.mem_append,List.mem_singleton,hi])
    rw[Hh] at q1;exact q1)
   obtain⟨wz,g7⟩:∃ W,W=wr.alloc (.cells #[.int .i64 N.id,.int .i64 N.v,.int .i64 N.lo,.int .i64 N.hi,.int .i64 N.refs,.int .i64 ll,.int .i64 lh,.int .i64 hl,.int .i64 hh] 256):=⟨_,rfl⟩;have gf:Below wr.heap.size wr wz:=by rw[g7];exact Zae wr _
   have hz:=heap_alloc_new wr (.cells #[.int .i64 N.id,.int .i64 N.v,.int .i64 N.lo,.int .i64 N.hi,.int .i64 N.refs,.int .i64 ll,.int .i64 lh,.int .i64 hl,.int .i64 hh] 256);rw[<- g7] at hz;have z2:wz.cell? ⟨wr.heap.size,2,none⟩=some (.int .i64 N.lo):=by rw[cell_of_row wz _ 2 _ _ _ hz];rfl
   have z3:wz.cell? ⟨wr.heap.size,3,none⟩=some (.int .i64 N.hi):=by rw[cell_of_row wz _ 3 _ _ _ hz];rfl
   have g8:=g2.st.below g2.lt gf;have gk:=g2.lt.mono gf.size;obtain⟨gt,ct,gC,cellx,H8⟩:=g8.tabAt hO;obtain⟨c0,c1,c2,c3,c4,f0⟩:=cells5 g8.blk;rw[gC] at c2;have ko:x<s.ts.length:=by rw[g8.tlen];exact hO
   have H5:(x:Int)<s.ts.length:=by omega
   have kU:=Hd (Zwe oj x (s.ts.getD x 0) (dj.tab x) N.lo N.hi i wz.drew ((g8.below gk (Zag wz 1)).tab x ko) (gk.mono (Zag wz 1).size) kv);have gY:Hid (CutI d0 k x ids sb s o1 w1 w1.heap.size (.slice (some ⟨g,0,none⟩) ids.length cvv) ts j wz.drew oj dj):=Hd (g2.move ((g8.below gk (Zag wz 1))) (Chg.of_below (gf.trans ((Zag wz 1).mono gf.size)) Zap oj) (fun _ h=>h) (gk.mono (Zag wz 1).size) g2.cut);have ka:=Hd g7;have gN:=Hd hlt;clear g3 g0 gE gD g2 tb hN ga gc gd ge hi hW hX HCI hQ gH kv hO gf hz g8 gk gC ko g7 c0 c1 c3 c4 f0;go_upto_region 14 with fail;rw[<- ka.out];refine Zan (fun W:World=>W=wz.drew) true 13 [(0,false),(1,false),(2,false),(3,false),(4,false),(5,false),(6,false),(7,false),(8,false),(9,false),(10,false),(11,false),(12,false),(13,true)] (by kernel_rfl) (by kernel_rfl) rfl ?_;simp only[planned,Zdd]
   iterate 13
    refine Zaj rfl ?_;apply Exists.intro;refine⟨fun w' hw=>?_,?_⟩
    . subst hw;go_simp;rfl
    simp only[Zai]
   refine Zdf rfl (by go_simp) (kU.out.mono (R':=fun e w'=>∃ v,e=.returned v/\(v=.int .i64 0/\Zc9 oj w' x (s.ts.getD x 0) (putF (dj.tab x) (N.lo,N.hi) none)/\Chg (· = .tmap x) oj oj wz.drew w'/\Zah oj w')) (fun e w' h=>⟨_,h.1,rfl,h.2⟩)) ?_;rintro _ w5 ⟨rfl,kr,k5,kt⟩;simp only[Zai];refine Zb8 ?_;have hE:=Hd (gY.out.move (gY.out.st.setTab gY.out.lt kr k5) k5 (fun r hr=>by simp[Zap,hr]) kt kQ.out);clear kr k5 kt c2 cellx H5 e0 e1 e2 e3 e4 e5 e6 e7 e8 z2 z3;go_wp2_with fail;go_roundw
   case rel=>exact⟨j+1,Nat.succ_le_of_lt gN.out,by go_num,Hd ⟨_,_,hE.out⟩⟩
   case measure =>
    have:=gN.out;have:=hH.out;simp[intOf];omega
  ·obtain rfl:j=ids.length:=by omega
   obtain⟨oe,de,gl⟩:=HCI.out;have ke:Hid (∃ o d V',RndI sb o1 w1 w1.heap.size (.slice av ids.length cvv) ts wr o d/\Zbq d0 V k x y Wt (Zaw d0) (fun i=>i∈ids.take 0) d V'):=Hd ⟨oe,de,V,⟨⟨s,gl.st⟩,gl.lt,gl.row,gl.no,gl.chg⟩,(Zbq.start gl.cut g1.out.ok g1.out.facts.1 kg.out.dead (fun i=>by rw[List.take_length];exact(gX.out i).symm) gM.out).congr (fun i=>by simp)⟩;clear gl HCI;go_wp2_with fail
   go_loopw [98] (fun s98 wr=>∃ j:Nat,j<=ids.length/\s98=.int .i64 j/\Hid (∃ o d V',RndI sb o1 w1 w1.heap.size (.slice av ids.length cvv) ts wr o d/\Zbq d0 V k x y Wt (Zaw d0) (fun i=>i∈ids.take j) d V')) (fun s98 _=>ids.length-(intOf s98).toNat)
   case atStart=>exact⟨0,Nat.zero_le _,rfl,ke⟩
   case round =>
    clear ke;obtain⟨j,hj,rfl,hD⟩:=hrel
    by_cases hlt:j<ids.length
    ·obtain⟨oj,dj,Vj,gF,gj⟩:=hD.out;obtain⟨a',c',ea,g3⟩:=gF.row.ex;rw[h6] at ea;injection ea with ea1 ea2 ea3
     clear ea2 ea3;obtain⟨g,hg,Hg,g0⟩:=g3 j (by omega);rw[hg] at ea1;subst ea1;obtain⟨i,hi⟩:∃ i,i=ids[j]:=⟨_,rfl⟩;have gE:ts[j]'(by omega)=tnOf d0 y i:=by rw[hi];simp[hA.out]
     rw[gE] at g0;have gh:i∈ids:=by rw[hi];exact List.getElem_mem hlt
     obtain⟨b,tb⟩:=hB.out i gh;have gD:tnOf d0 y i=⟨d0.pool.nd i,(tnOf d0 y i).ll,(tnOf d0 y i).lh,(tnOf d0 y i).hl,(tnOf d0 y i).hh⟩:=rfl
     have kh:Hid (((tnOf d0 y i).ll,(tnOf d0 y i).hl)∈ts.flatMap Zcc/\((tnOf d0 y i).lh,(tnOf d0 y i).hh)∈ts.flatMap Zcc):=Hd (by
      have hm:tnOf d0 y i∈ts:=by rw[hA.out];exact List.mem_map.2 ⟨i,gh,rfl⟩
      exact⟨List.mem_flatMap.2 ⟨_,hm,by simp[Zcc]⟩,List.mem_flatMap.2 ⟨_,hm,by simp[Zcc]⟩⟩)
     obtain⟨N,hN⟩:∃ N,N=d0.pool.nd i:=⟨_,rfl⟩;obtain⟨ll,ga⟩:∃ q,q=(tnOf d0 y i).ll:=⟨_,rfl⟩;obtain⟨lh,gc⟩:∃ q,q=(tnOf d0 y i).lh:=⟨_,rfl⟩;obtain⟨hl,gd⟩:∃ q,q=(tnOf d0 y i).hl:=⟨_,rfl⟩;obtain⟨hh,ge⟩:∃ q,q=(tnOf d0 y i).hh:=⟨_,rfl⟩;rw[gD,<- hN,<- ga,<- gc,<- gd,<- ge] at g0;rw[<- ga,<- gc,<- gd,<- ge] at kh;have e0:wr.cell? ⟨g,j*9,none⟩=some _:=g0 0 _ rfl;have e1:=g0 1 _ rfl;have e2:=g0 2 _ rfl;have e3:=g0 3 _ rfl;have e4:=g0 4 _ rfl;have e5:=g0 5 _ rfl;have e6:=g0 6 _ rfl;have e7:=g0 7 _ rfl;have e8:=g0 8 _ rfl;have gH:¬ i∈ids.take j:=by
      intro hm;have gI:=kC.out;rw[<- List.take_append_drop j ids,List.nodup_append] at gI;refine gI.2.2 i hm i ?_ rfl;rw[List.drop_eq_getElem_cons hlt,hi];exact List.mem_cons_self
     obtain⟨wz,g7⟩:∃ W,W=wr.alloc (.cells #[.int .i64 N.id,.int .i64 N.v,.int .i64 N.lo,.int .i64 N.hi,.int .i64 N.refs,.int .i64 ll,.int .i64 lh,.int .i64 hl,.int .i64 hh] 256):=⟨_,rfl⟩;have gf:Below wr.heap.size wr wz.drew:=by rw[g7];exact Zea wr 1 _
     have hz:=heap_alloc_new wr (.cells #[.int .i64 N.id,.int .i64 N.v,.int .i64 N.lo,.int .i64 N.hi,.int .i64 N.refs,.int .i64 ll,.int .i64 lh,.int .i64 hl,.int .i64 hh] 256);rw[<- g7] at hz;obtain⟨bz,gw⟩:∃ q,q=wr.heap.size:=⟨_,rfl⟩;rw[<- gw] at hz;have z5:wz.cell? ⟨bz,5,none⟩=some (.int .i64 ll):=by rw[cell_of_row wz _ 5 _ _ _ hz];rfl
     have z6:wz.cell? ⟨bz,6,none⟩=some (.int .i64 lh):=by rw[cell_of_row wz _ 6 _ _ _ hz];rfl
     have z7:wz.cell? ⟨bz,7,none⟩=some (.int .i64 hl):=by rw[cell_of_row wz _ 7 _ _ _ hz];rfl
     have z8:wz.cell? ⟨bz,8,none⟩=some (.int .i64 hh):=by rw[cell_of_row wz _ 8 _ _ _ hz];rfl
     have kX:Hid (Box oj wz.drew bz (.cells #[.int .i64 N.id,.int .i64 N.v,.int .i64 N.lo,.int .i64 N.hi,.int .i64 N.refs,.int .i64 ll,.int .i64 lh,.int .i64 hl,.int .i64 hh] 256 (0,0))):=Hd ⟨hz,gF.lt.none (by rw[gw];exact Nat.le_refl _)⟩;have kc:=Hd (gF.below gf)
     have hI:Hid (w1.heap.size<=bz/\g≠bz):=Hd (by
      have h1:=gF.chg.size;have h2:g<wr.heap.size:=Zab e0;exact⟨by omega,by omega⟩)
     have tv:=tb.val;rw[<- ga,<- gc,<- gd,<- ge] at tv;have kH:=Hd (Zox kc.out.st kc.out.lt gj g1.out.ok.dag (gj.acy g1.out) g1.out.facts.1 gj.vlen ll hl tv.f1 tv.f3 (fun h1 h2=>Ztl gj g1.out gM.out kh.out.1 tv.f1 tv.f3 h1 h2) gM.out.nodup kj.out);have HB2:Hid (∀ W o d V',Zar o W sb d->Zah o W->Zbq d0 V k x y Wt (Zaw d0) (fun i=>i∈ids.take j) d V'->_):=Hd (fun W o d V' st lt m=>Zox st lt m g1.out.ok.dag (m.acy g1.out) g1.out.facts.1 m.vlen lh hh tv.f2 tv.f4 (fun h1 h2=>Ztl m g1.out gM.out kh.out.2 tv.f2 tv.f4 h1 h2) gM.out.nodup kj.out)
     have kn:Hid (∀ r1 r2 d1 d2 V1 V2,Zf0 d0 V k x y Wt (fun i=>i∈ids.take j) dj Vj ll hl r1 d1 V1->Zf0 d0 V k x y Wt (fun i=>i∈ids.take j) d1 V1 lh hh r2 d2 V2->Zvf d0 V k x y Wt (fun i=>i∈ids.take j) i r1 r2 d2 V2):=Hd (by
      intro r1 r2 d1 d2 V1 V2 h1 h2;rw[ga,gd] at h1;rw[gc,ge] at h2;exact Zvf.of g1.out tb h1 h2)
     have HN:Hid (N.lo=b.lo/\N.hi=b.hi/\N.id=i/\(N.refs:Int)=Zaw d0 i):=Hd (by rw[hN];exact⟨tb.lo,tb.hi,tb.id,(Zce (Za1 tb.node).1).symm⟩);have HT:Hid (Turns (Zaa d0) x y i):=Hd ((gX.out i).1 gh);have kB:=Hd gH;have gn:=Hd tb;have Hl:Hid (∀ q,(q∈ids.take j\/q=i)↔q∈ids.take (j+1)):=Hd (fun q=>by rw[List.take_succ_eq_append_getElem hlt,List.mem_append,List.mem_singleton,hi]);have Hb:(j:Int)<ids.length:=by omega
     have Hf:=hH.out;have Hc:(j:Int)+1<=1048578:=by omega
     have ka:=Hd g7;have Hx:=Hd gw;have gN:=Hd hlt;clear g3 g0 gE gD gF gj tb tv hN ga gc gd ge hi hD gH gf hz g7 gw gh Hg;go_upto_region 19 with fail;rw[<- Hx.out,<- ka.out];clear e0 e1 e2 e3 e4 e5 e6 e7 e8;refine Zan (fun W:World=>W.cell? ⟨bz,5,none⟩=some (.int .i64 ll)/\W.cell? ⟨bz,6,none⟩=some (.int .i64 lh)/\W.cell? ⟨bz,7,none⟩=some (.int .i64 hl)/\W.cell? ⟨bz,8,none⟩=some (.int .i64 hh)) false 16 [(0,false),(1,false),(2,false),(3,false),(4,false),(5,false),(7,false),(8,false),(9,false),(10,false),(11,false),(12,false),(6,true),(13,true),(14,false),(15,false)] (by kernel_rfl) (by kernel_rfl) ⟨z5,z6,z7,z8⟩ ?_;simp only[planned,Zdd]
     iterate 12
      refine Zaj rfl ?_;apply Exists.intro;refine⟨fun w' hw=>?_,?_⟩
      . obtain⟨q5,q6,q7,q8⟩:=hw;go_simp;rfl
      simp only[Zai]
     refine Zbw (R:=fun v w'=>∃ r:Nat,v=.int .i64 r/\∃ o' d' V',RndI sb o1 w1 w1.heap.size (.slice (some ⟨g,0,none⟩) ids.length cvv) ts w' o' d'/\Zf0 d0 V k x y Wt (fun i=>i∈ids.take j) dj Vj ll hl r d' V'/\Box o' w' bz (.cells #[.int .i64 N.id,.int .i64 N.v,.int .i64 N.lo,.int .i64 N.hi,.int .i64 N.refs,.int .i64 ll,.int .i64 lh,.int .i64 hl,.int .i64 hh] 256 (0,0))) rfl (by go_simp) (kH.out.mono (fun e w' he=>?_)) ?_
     . obtain⟨r,rfl,o',d',V',st',lt',k8,kJ,gL⟩:=he;have g4:=kX.out.chg gL;exact⟨_,rfl,⟨g4.cell 5,g4.cell 6,g4.cell 7,g4.cell 8⟩,r,rfl,o',d',V',kc.out.move st' lt' gL (fun _ h=>h),k8,g4⟩
     rintro v w5-⟨r1,rfl,o5,d5,V5,hc,gV,k7⟩;simp only[Zai];refine Zbw (R:=fun v w'=>∃ r:Nat,v=.int .i64 r/\∃ o' d' V',RndI sb o1 w1 w1.heap.size (.slice (some ⟨g,0,none⟩) ids.length cvv) ts w' o' d'/\Zvf d0 V k x y Wt (fun i=>i∈ids.take j) i r1 r d' V'/\Box o' w' bz (.cells #[.int .i64 N.id,.int .i64 N.v,.int .i64 N.lo,.int .i64 N.hi,.int .i64 N.refs,.int .i64 ll,.int .i64 lh,.int .i64 hl,.int .i64 hh] 256 (0,0))) rfl (by go_simp) ((HB2.out w5 o5 d5 V5 hc.st hc.lt gV.mid).mono (fun e w' he=>?_)) ?_
     . obtain⟨r,rfl,o',d',V',st',lt',k8,kJ,gL⟩:=he;have g4:=k7.chg gL;exact⟨_,rfl,⟨g4.cell 5,g4.cell 6,g4.cell 7,g4.cell 8⟩,r,rfl,o',d',V',hc.move st' lt' gL (fun _ h=>h),kn.out _ _ _ _ _ _ gV k8,g4⟩
     rintro v w6-⟨r2,rfl,o6,d6,V6,ha,gg,k6⟩;simp only[Zai]
     iterate 2
      refine Zaj rfl ?_;apply Exists.intro;refine⟨fun w' hw=>?_,?_⟩
      . obtain⟨q5,q6,q7,q8⟩:=hw;go_simp;rfl
      simp only[Zai]
     refine Zdm ?_;have Hn:=Hd ha;have gq:=Hd gg;have kW:=Hd k6;have Hp:=Hd (Zsu ha.st ha.lt g1.out gg.mid gg.e1 (fun i=>by have:=g1.out.top i;omega));clear ha gg k6 hc gV k7 z5 z6 z7 z8 kH HB2;go_wp2_with fail;refine Hp.out.mono ?_;rintro q w7 ⟨rfl,d7,st7,lt7,m7,n7,p7,c7⟩;have Hm:=Hd (Hn.out.move st7 lt7 c7 (fun _ h=>h));have kV:=Hd (kW.out.chg c7)
     have Ho:=Hd (Zsu st7 lt7 g1.out m7 (n7 ▸ gq.out.e2) (fun i=>by
      have:=g1.out.top i;have h2:toE r1 i<=1:=by unfold toE;split<;>omega
      unfold addE;omega))
     have kE:Hid (Zaa d7=Zaa d6/\d7.pool=d6.pool):=Hd ⟨n7,p7⟩;clear st7 lt7 m7 n7 p7 c7;go_wp2_with fail;refine Ho.out.mono ?_;rintro q w8 ⟨rfl,d8,st8,lt8,m8,n8,p8,c8⟩;have kz:=Hd (Hm.out.move st8 lt8 c8 (fun _ h=>h));have g6:=Hd (kV.out.chg c8);have hF:=Hd m8;have kD:Hid (Zaa d8=Zaa d6/\d8.pool=d6.pool):=Hd ⟨n8.trans kE.out.1,p8.trans kE.out.2⟩;clear st8 lt8 m8 n8 p8 c8;have x0:w8.cell? ⟨bz,0,none⟩=some (.int .i64 N.id):=g6.out.cell 0;have x1:w8.cell? ⟨bz,1,none⟩=some (.int .i64 N.v):=g6.out.cell 1;have x2:w8.cell? ⟨bz,2,none⟩=some (.int .i64 N.lo):=g6.out.cell 2;have x3:w8.cell? ⟨bz,3,none⟩=some (.int .i64 N.hi):=g6.out.cell 3;have x4:w8.cell? ⟨bz,4,none⟩=some (.int .i64 N.refs):=g6.out.cell 4;have xf:∀ q,w8.frozen? ⟨bz,q,none⟩=false:=fun q=>by simp[World.frozen?,g6.out.blk]
     go_upto_region 23 with fail;obtain⟨wo,gZ⟩:∃ W,W=w8.alloc (.cells #[.int .i64 N.id,.int .i64 N.v,.int .i64 N.lo,.int .i64 N.hi,.int .i64 N.refs] 254):=⟨_,rfl⟩;have gg:Below w8.heap.size w8 wo:=by rw[gZ];exact Zae w8 _
     have hd:=heap_alloc_new w8 (.cells #[.int .i64 N.id,.int .i64 N.v,.int .i64 N.lo,.int .i64 N.hi,.int .i64 N.refs] 254);rw[<- gZ] at hd;obtain⟨bo,gx⟩:∃ q,q=w8.heap.size:=⟨_,rfl⟩;rw[<- gx] at hd;have gJ:bz≠bo:=by
      have:=Zab x0;have h2:bz<w8.heap.size:=this;omega
     have g5:Hid (Box o6 wo bz (.cells #[.int .i64 N.id,.int .i64 N.v,.int .i64 N.lo,.int .i64 N.hi,.int .i64 N.refs,.int .i64 ll,.int .i64 lh,.int .i64 hl,.int .i64 hh] 256 (0,0))):=Hd (g6.out.chg (Chg.of_below gg Zap o6));have kd:=Hd (kz.out.below gg);have kY:Hid (Box o6 wo bo (.cells #[.int .i64 N.id,.int .i64 N.v,.int .i64 N.lo,.int .i64 N.hi,.int .i64 N.refs] 254 (0,0))):=Hd ⟨hd,kz.out.lt.none (by rw[gx];exact Nat.le_refl _)⟩;obtain⟨wa,gA⟩:∃ W,W=(wo.setCell ⟨bz,1,none⟩ (.int .i64 y)).setCell ⟨bz,2,none⟩ (.int .i64 r1):=⟨_,rfl⟩;obtain⟨wb,gz⟩:∃ W,W=wa.setCell ⟨bz,3,none⟩ (.int .i64 r2):=⟨_,rfl⟩;have HV:∀ q,0<ts.length->Value.ownBlock (.slice (some ⟨g,0,none⟩) ids.length cvv)=some q->q≠bz:=fun q _ hq=>by cases hq;exact hI.out.2
     have ky:Hid (RndI sb o1 w1 w1.heap.size (.slice (some ⟨g,0,none⟩) ids.length cvv) ts wb.drew o6 d8):=Hd (by
      rw[gz,gA];exact(((kd.out.write g5.out.no hI.out.1 HV 1 _).write g5.out.no hI.out.1 HV 2 _).write g5.out.no hI.out.1 HV 3 _).below (Zag _ 1))
     have kl:=HN.out.2.2.2
     have g9:Hid (Box o6 wb.drew bz (.cells #[.int .i64 i,.int .i64 y,.int .i64 r1,.int .i64 r2,.int .i64 N.refs,.int .i64 ll,.int .i64 lh,.int .i64 hl,.int .i64 hh] 256 (0,0))):=Hd (by
      rw[gz,gA];have h:=((g5.out.set 1 (.int .i64 y)).set 2 (.int .i64 r1)).set 3 (.int .i64 r2);rw[HN.out.2.2.1] at h;exact⟨h.blk,h.no⟩)
     have H0:Hid (Box o6 wb.drew bo (.cells #[.int .i64 i,.int .i64 N.v,.int .i64 b.lo,.int .i64 b.hi,.int .i64 N.refs] 254 (0,0))):=Hd (by
      rw[gz,gA];have h:=((kY.out.other (p:=⟨bz,1,none⟩) (u:=.int .i64 y) (Ne.symm gJ)).other (p:=⟨bz,2,none⟩) (u:=.int .i64 r1) (Ne.symm gJ)).other (p:=⟨bz,3,none⟩) (u:=.int .i64 r2) (Ne.symm gJ);rw[HN.out.2.2.1,HN.out.1,HN.out.2.1] at h;exact⟨h.blk,h.no⟩)
     have y1:wo.cell? ⟨bz,1,none⟩=some (.int .i64 N.v):=g5.out.cell 1;have y2:wo.cell? ⟨bz,2,none⟩=some (.int .i64 N.lo):=g5.out.cell 2;have y3:wo.cell? ⟨bz,3,none⟩=some (.int .i64 N.hi):=g5.out.cell 3;have yf:∀ q,wo.frozen? ⟨bz,q,none⟩=false:=fun q=>by simp[World.frozen?,g5.out.blk]
     have Hi:=Hd gZ;have kZ:=Hd gx;have Hk:=Hd gA;have Hj:=Hd gz;have HI:=Hd gJ;clear gZ gg hd gx gJ gA gz HV kl x0 x1 x2 x3 x4 xf;rw[<- Hi.out,<- kZ.out];go_upto_region 24 with fail;rw[<- Hk.out,<- Hj.out];obtain⟨s9,h9⟩:=ky.out.st;obtain⟨k0,k1,k2,k3,k4,kf⟩:=cells5 h9.blk;have hY:d8.pool.tk i=true:=by
      have h1:Zaa d8 i=some b:=hF.out.mid.keep i b gn.out.node kB.out;exact(Za1 h1).1
     have kx:=Hd (hF.out.turned (n:=⟨i,y,r1,r2,N.refs⟩) g1.out HT.out kB.out gn.out.node (kD.out.1 ▸ gq.out.e1) (kD.out.1 ▸ gq.out.e2) gq.out.reg gq.out.ne gq.out.val rfl HN.out.2.2.2 (h9.pool.tk_lt hY).2);have kb:=Hd (Ya3 (n:=⟨i,y,r1,r2,N.refs⟩) ky.out h9 hY g9.out H0.out);unfold Zaz at kb;have n0:wb.cell? ⟨bz,0,none⟩=some (.int .i64 i):=g9.out.cell 0;have n1:wb.cell? ⟨bz,1,none⟩=some (.int .i64 y):=g9.out.cell 1;have n2:wb.cell? ⟨bz,2,none⟩=some (.int .i64 r1):=g9.out.cell 2;have n3:wb.cell? ⟨bz,3,none⟩=some (.int .i64 r2):=g9.out.cell 3;have n4:wb.cell? ⟨bz,4,none⟩=some (.int .i64 N.refs):=g9.out.cell 4;have k1':wb.cell? ⟨sb,1,none⟩=some (.pointer (some ⟨s9.pb,0,none⟩)):=k1;have Hs:Hid (s9.ts.length=d0.vars.length):=Hd (by rw[h9.tlen,hF.out.vlen]);clear k0 k1 k2 k3 k4 kf h9 hY y1 y2 y3 yf;refine Zan (fun W:World=>W=wb.drew) true 6 [(0,false),(1,false),(2,false),(3,false),(4,false),(5,false),(6,true)] (by kernel_rfl) (by kernel_rfl) rfl ?_;simp only[planned,Zdd]
     iterate 6
      refine Zaj rfl ?_;apply Exists.intro;refine⟨fun w' hw=>?_,?_⟩
      . subst hw;go_simp;rfl
      simp only[Zai]
     refine Zdf rfl (by go_simp) kb.out ?_;rintro _ w10 ⟨rfl,gQ,hu,gP,hL⟩;simp only[Zai];refine Zb8 ?_;clear n0 n1 n2 n3 n4 k1';have hZ:=hu.below gQ.lt (Zag w10 1);have hJ:y<s9.ts.length:=by rw[Hs.out];exact g1.out.facts.2.1
     have H4:(y:Int)<s9.ts.length:=by omega
     obtain⟨gt,ct,gC,celly,H8⟩:=hu.tabAt (v:=y) (by show y<d8.vars.length;rw[hF.out.vlen];exact g1.out.facts.2.1);obtain⟨k0,k1,k2,k3,k4,kf⟩:=cells5 hu.blk;rw[gC] at k2;have kP:=Hd (Ya2 (id:=i) (gQ.below (Zag w10 1)) hZ hJ kx.out.1 (gP.chg (Chg.of_below (Zag w10 1) Zap o6)) (hL.chg (Chg.of_below (Zag w10 1) Zap o6)));have n0:w10.cell? ⟨bz,0,none⟩=some (.int .i64 i):=gP.cell 0;clear gQ hu gP hL hZ gC k0 k1 k3 k4 kf hJ;go_upto_region 25 with fail;refine Zan (fun W:World=>W=w10.drew) true 12 [(0,false),(1,false),(2,false),(3,false),(4,false),(5,false),(6,false),(7,false),(8,false),(9,false),(10,false),(11,false),(12,true)] (by kernel_rfl) (by kernel_rfl) rfl ?_;simp only[planned,Zdd]
     iterate 12
      refine Zaj rfl ?_;apply Exists.intro;refine⟨fun w' hw=>?_,?_⟩
      . subst hw;go_simp;rfl
      simp only[Zai]
     refine Zdf rfl (by go_simp) kP.out ?_;rintro _ w11 ⟨rfl,gu,kI,gO⟩;simp only[Zai];refine Zb8 ?_;have kO:=Hd gu;have kK:=Hd gO
     have Hq:=Hd (Zst gu.st gu.lt g1.out kx.out.2 gn.out.node gn.out.v (.inl rfl) (fun q=>by
      have h1:=g1.out.top q;have h2:toE b.lo q<=1:=by unfold toE;split<;>omega
      have h3:toE b.hi q<=1:=by unfold toE;split<;>omega
      unfold addE;omega) (fun q=>by
      have h1:0<=Zaw d0 q:=by unfold Zaw;split<;>omega
      have h3:0<=toE b.hi q:=by unfold toE;split<;>omega
      unfold addE;omega))
     have u2:w11.cell? ⟨bo,2,none⟩=some (.int .i64 b.lo):=gO.cell 2;clear gu kI gO n0 k2 celly H4;go_wp2_with fail;refine Hq.out.mono ?_;rintro q w12 ⟨rfl,d12,st12,lt12,m12,c12⟩;have kN:=Hd (kO.out.move st12 lt12 c12 (fun _ h=>h));have hK:=kK.out.chg c12
     have kR:=Hd (Zst st12 lt12 g1.out m12 gn.out.node gn.out.v (.inr rfl) (fun q=>by
      have h1:=g1.out.top q;have h2:toE b.lo q<=1:=by unfold toE;split<;>omega
      have h3:toE b.hi q<=1:=by unfold toE;split<;>omega
      have h4:0<=toE b.lo q:=by unfold toE;split<;>omega
      unfold addE;omega) (fun q=>by
      have h1:0<=Zaw d0 q:=by unfold Zaw;split<;>omega
      unfold addE;omega))
     have u3:w12.cell? ⟨bo,3,none⟩=some (.int .i64 b.hi):=hK.cell 3;clear st12 lt12 m12 c12 hK u2;go_wp2_with fail;refine kR.out.mono ?_;rintro q w13 ⟨rfl,d13,st13,lt13,m13,c13⟩;rw[Zvp] at m13;have hE:=Hd (And.intro (kN.out.move st13 lt13 c13 (fun _ h=>h)) (m13.congr Hl.out));clear st13 lt13 m13 c13 u3;go_wp2_with fail;go_roundw
     case rel=>exact⟨j+1,Nat.succ_le_of_lt gN.out,by go_num,Hd ⟨_,_,_,hE.out.1,hE.out.2⟩⟩
     case measure =>
      have:=gN.out;have:=hH.out;simp[intOf];omega
    ·obtain rfl:j=ids.length:=by omega
     obtain⟨oe,de,Ve,h8,hU⟩:=hD.out;have hR:=hU.final g1.out.v g1.out.ok g1.out.lev (fun i hT=>by rw[List.take_length];exact(gX.out i).2 hT);have Hw:=Hd (Zhp h8.st h8.lt hR)
     have kT:Hid (∀ w' o' d',Zar o' w' sb d'->Zah o' w'->Za7 de d'->Chg Zap oe o' wr w'->P (.returned (.int .i64 0)) w'):=Hd (by
      intro w' o' d' st' lt' cr' ch';rw[kA.out];exact⟨o',d0,kg.out,lt',kG.out.trans (h8.chg.trans ch'),.inr ⟨rfl,d',Ve,st',hU.out hR cr'⟩⟩)
     clear h8 hU hR hD;go_wp2_with fail;refine Hw.out.mono ?_;rintro q w14 ⟨rfl,o14,d14,st14,lt14,cr14,ch14⟩;have HF:=Hd (kT.out w14 o14 d14 st14 lt14 cr14 ch14);clear st14 lt14 cr14 ch14;go_wp2_with fail;exact HF.out
open Go.RowKit
section
variable {m:ManD}{V V':Nat->BF}{d0 d':Zad}{k:Nat}
theorem Zb1.big (h:Zb1 m){p:Int×Nat}(hp:p∈m.hs):p.2/2=0\/1<p.1:=by
 by_cases h1:1<p.1
 . exact .inr h1
 ·left;have g1:=h.lt p hp;have hu:∀ q∈m.hs,q.1=p.1->q=p:=by
   intro q hq e;have g0:=h.nodup;have h1:=Zdb (l:=encH m.hs) (Zeh g0) (List.mem_map.2 ⟨q,hq,rfl⟩);have h2:=Zdb (l:=encH m.hs) (Zeh g0) (List.mem_map.2 ⟨p,hp,rfl⟩);rw[e,h2] at h1;have e2:(p.2:Int)=(q.2:Int):=by injection h1 with h1;injection h1
   exact Prod.ext e (by omega)
  rcases(by omega:p.1=0\/p.1=1) with e|e
  . rw[<- hu _ h.zero e.symm];rfl
  . rw[<- hu _ h.one e.symm];rfl
theorem Zs7 {hs:List (Int×Nat)}{p:Int×Nat}(hp:p∈hs)(h1:1<p.1):0<Zbx hs (p.2/2):=by
 unfold Zbx;refine List.length_pos_of_mem (List.mem_filter.2 ⟨hp,?_⟩);simp[h1]
theorem Yda (hs:List (Int×Nat))(i:Nat):Zbx hs i<=hs.length:=List.length_filter_le _ _
theorem Ybm (h:Zb1 m)(i:Nat):Zaw m.d i<=m.next:=by
 cases hb:Zaa m.d i with
 | none=>rw[Zei hb];have:=h.next;omega
 | some b =>
   rw[h.refs i b hb];have h1:=Yda m.hs i;have h2:=h.len;omega
theorem Zpf (h:Zb1 { m with d:=d0 })(hk:Zak d0 V)(s:Zke d0 V k d' V'):Zb1 { m with d:=d' }:=by
 have g1:∀ p∈m.hs,okE (Zaa d') p.2:=by
  intro p hp;rcases h.ok p hp with h0|⟨b,hb⟩
  . exact .inl h0
  ·rcases h.big hp with h1|h1
   . exact .inl h1
   . refine .inr (s.live _ b hb ?_);have h2:=h.refs _ b hb;have h3:0<Zbx m.hs (p.2/2):=Zs7 hp h1;have h4:Zaw d0 (p.2/2)=(Zbx m.hs (p.2/2):Int):=h2;omega
 refine⟨h.nodup,h.zero,h.one,h.lt,h.next,g1,h.len,fun i b hb=>?_⟩
 show Zaw d' i=(Zbx m.hs i:Int)
 rw[s.ext i b hb];cases hn:Zaa d0 i with
 | some b0=>exact h.refs i b0 hn
 | none =>
   rw[Zei hn];have hi:i≠0:=by
    rintro rfl;have h0:Zaa d' 0=none:=s.ok.dag.none0;have h1:Zaa d' 0=some b:=hb;rw[h0] at h1;cases h1
   have:Zbx m.hs i=0:=by
    unfold Zbx;rw[List.length_eq_zero_iff,List.filter_eq_nil_iff];intro p hp;have ho:=h.ok p hp;simp only[Bool.and_eq_true,decide_eq_true_eq,beq_iff_eq,not_and];rintro _ rfl;rcases ho with h0|⟨b1,g2⟩
    . exact hi h0
    . have g0:Zaa d0 (p.2/2)=some b1:=g2;rw[hn] at g0;cases g0
   rw[this];rfl
end
structure Ydm (K:Law)(n room:Nat)(w0:World)(mb:Nat)(fs:List (Int×BF))(nx:Int)(k:Nat)(o:Own)(w:World)(m:ManD)(V:Nat->BF)(e:Ending)(o':Own)(w':World)(m':ManD)(V':Nat->BF):Prop where
 sat:SatE K n (fun _=>True) room w0 mb fs nx w' o' m' V'
 waits:m'.waits=m.waits
 calls:m'.calls=m.calls
 chg:Chg (fun _=>True) o o' w w'
 way:∃ d0,Za7 m.d d0/\((e=.returned (.int .i64 7)/\m'.d=d0/\V'=V/\d0.pool.room<3*d0.pool.many)\/(e=.returned (.int .i64 0)/\Zke d0 V k m'.d V'))
section
variable {K:Law}{n:Nat}{Od:List Nat->Prop}{room:Nat}{w0 w w':World}{mb:Nat}{fs:List (Int×BF)}{nx:Int}{o o':Own}{m:ManD}{V:Nat->BF}
theorem Zyh {k:Nat}{s:ManW}{w1:World}(h:SatE K n Od room w0 mb fs nx w o m V)(g1:Zby (fun _ _ _ _ _=>False) o w1 mb m s)(g2:Chg (· = .entries) o o w w1)(g3:Zah o w1)(hk1:k+1<n)(hn:nx<=549755813888) :
 Calls prog 160 #[.pointer (some ⟨s.sb,0,none⟩),.int .i64 k] w1 fun e w'=>∃ o' m' V',Ydm K n room w0 mb fs nx k o w m V e o' w' m' V':=by
 have g0:=h.next
 refine(Zol g1.store g3 h.ok.store k (by rw[h.vars];exact hk1) (fun i=>by have:=Ybm h.ok.handles i;omega)).mono ?_;rintro e w' ⟨o',d0,cr,lt,ch,hw⟩;have hc:Chg (fun _=>True) o o' w w':=g2.any.trans ch.any;have h0:=Zgd h.ok.handles h.ok.store cr;rcases hw with ⟨rfl,st,hr⟩|⟨rfl,d',V',st,so⟩
 . refine⟨o',{ m with d:=d0 },V,⟨⟨s,(g1.setStore g3 st ch).mono fun _ _ _ _ _ e=>e.elim⟩,lt,⟨cr.ok h.ok.store,h0⟩,by dsimp only;rw[cr.vars];exact h.vars,trivial,by dsimp only;rw[cr.room];exact h.room,h.next,h.hs,h.chg.lower (ChgX.of_chg hc NoB) (fun _ e=>e.elim)⟩,rfl,rfl,hc,d0,cr,.inl ⟨rfl,rfl,rfl,hr⟩⟩
 ·refine⟨o',{ m with d:=d' },V',⟨⟨s,(g1.setStore g3 st ch).mono fun _ _ _ _ _ e=>e.elim⟩,lt,⟨so.ok,Zpf h0 (cr.ok h.ok.store) so⟩,?_,trivial,?_,h.next,?_,h.chg.lower (ChgX.of_chg hc NoB) (fun _ e=>e.elim)⟩,rfl,rfl,hc,d0,cr,.inr ⟨rfl,so⟩⟩
  ·show d'.vars.length=n
   rw[so.vars,Zir,cr.vars];exact h.vars
  ·show d'.pool.room=room
   rw[so.room,cr.room];exact h.room
  ·show m.hs.map (fun p=>(p.1,ef V' p.2))=fs
   rw[Ybo (d:=d0) h0.ok so.val];exact h.hs
end
open Go.RowKit
theorem Zom {o:Own}{w:World}{sb:Nat}{d:Zad}(st:Zar o w sb d)(hs:d.vars.length<=64)(z:Int)(hz:z<0\/(d.vars.length:Int)-1<=z) :
 Calls prog 160 #[.pointer (some ⟨sb,0,none⟩),.int .i64 z] w fun x w'=>x=.returned (.int .i64 2)/\w'=w:=by
 obtain⟨s0,h0⟩:=id st;obtain⟨c0,c1,c2,c3,c4,f0⟩:=cells5 h0.blk;obtain⟨l0,l1,_⟩:=cells2 h0.lev;obtain⟨av,cv,g0⟩:∃ a c,s0.vv=.slice a d.vars.length c:=by
  rcases h0.vars with ⟨_,h1|⟨g,cap,c,hv,_⟩⟩
  . exact⟨_,_,by rw[h1.1,h1.2]⟩
  . exact⟨_,_,hv⟩
 rw[g0] at l0;clear st h0 g0 c1 c2 c3 c4 f0 l1
 by_cases hn:z<0
 ·clear l0 c0
  go_enter func160,ntmps160
  go_wp2_with fail;go_ret;exact⟨rfl,rfl⟩
 ·have h1:z>=(d.vars.length:Int)-1:=by omega
  clear hz
  go_enter func160,ntmps160
  go_wp2_with fail;go_ret;exact⟨rfl,rfl⟩
section
variable {K:Law}{n:Nat}{Od:List Nat->Prop}{room:Nat}{w0 w w':World}{mb:Nat}{fs:List (Int×BF)}{nx:Int}{o o':Own}{m:ManD}{V:Nat->BF}
theorem Zuk (h:SatE K n Od room w0 mb fs nx w o m V)(z:Int)(P:Ending->World->Prop)
 (hsw:∀ s w1,Zby (K m.d V) o w mb m s->Zby (fun _ _ _ _ _=>False) o w1 mb m s->Chg (· = .entries) o o w w1->Zah o w1->Calls prog 160 #[.pointer (some ⟨s.sb,0,none⟩),.int .i64 z] w1 fun x w'=>∃ q:Int,x=.returned (.int .i64 q)/\P x w') :
 Calls prog 113 #[.pointer (some ⟨mb,0,none⟩),.int .i64 z] w P:=by
 obtain⟨s,hs⟩:=h.is;obtain⟨c0,c1,c2,c3,c4,c5,f0⟩:=cells6 hs.blk;have HC:=Hd (fun w1=>hsw s w1 hs);have g0:=Hd (wclear h hs (fun _ _ _ _ _=>False));clear h hs hsw
 go_enter func113,ntmps113
 go_wp2_with fail;refine g0.out.mono ?_;rintro x w1 ⟨rfl,g1,g2,g3⟩;obtain⟨d0,d1,d2,d3,d4,d5,f1⟩:=cells6 g1.blk;have g4:=Hd (HC.out w1 g1 g2 g3);clear g1 g2 g3 c0 c1 c2 c3 c4 c5 f0 g0 HC;go_wp2_with fail;refine g4.out.mono ?_;rintro x w2 ⟨q,rfl,hq⟩;have HQ:=Hd hq;clear hq;go_wp2_with fail;exact HQ.out
theorem Zrt (h:SatE K n Od room w0 mb fs nx w o m V){k:Nat}(hk1:k+1<n)(hn:nx<=549755813888) :
 Calls prog 113 #[.pointer (some ⟨mb,0,none⟩),.int .i64 k] w fun e w'=>∃ o' m' V',Ydm K n room w0 mb fs nx k o w m V e o' w' m' V' :=
 Zuk h k _ fun s w1 _ g1 g2 g3=>(Zyh h g1 g2 g3 hk1 hn).mono fun e w' ⟨o',m',V',hs⟩=>by
  obtain⟨d0,cr,hw⟩:=hs.way;rcases hw with ⟨e1,_⟩|⟨e1,_⟩
  . exact⟨7,e1,o',m',V',hs⟩
  . exact⟨0,e1,o',m',V',hs⟩
end
open Go.RowKit
theorem Zfh (f g:Nat->Int):∀ k,Zas k (fun i=>f i+g i)=Zas k f+Zas k g
 | 0=>by simp[Zas]
 | k+1=>by simp only[Zas];rw[Zfh f g k];omega
theorem Zg8 {f g:Nat->Int}:∀ k,(∀ i,i<k->f i<=g i)->Zas k f<=Zas k g
 | 0,_=>by simp[Zas]
 | k+1,h=>by
   have h1:=Zg8 k (fun i hi=>h i (by omega));have h2:=h k (by omega);simp only[Zas];omega
theorem Zlg (c:Int)(f:Nat->Int):∀ k,c*Zas k f=Zas k (fun i=>c*f i)
 | 0=>by simp[Zas]
 | k+1=>by simp only[Zas];rw[Int.mul_add,Zlg c f k]
theorem Zm3 (f:Nat->Nat->Int)(m:Nat):∀ k,Zas k (fun i=>Zas m (fun j=>f i j))=Zas m (fun j=>Zas k (fun i=>f i j))
 | 0=>by simp only[Zas];rw[Zdh]
 | k+1=>by
   simp only[Zas];rw[Zm3 f m k,<- Zfh]
theorem Zlh {g:Nat->Int}(hg:∀ i,0<=g i)(e k:Nat):Zas k (fun i=>g i*toE e i)<=g (e/2):=by
 by_cases hk:e/2<k
 ·have h1:=Zdp (f:=fun _=>0) (g:=fun i=>g i*toE e i) (j:=e/2) (fun i hi=>by
   have:toE e i=0:=by unfold toE;rw[if_neg (Ne.symm hi)]
   simp[this]) k hk
  rw[h1,Zdh];have:toE e (e/2)=1:=Zja e;simp[this]
 ·rw[Za3 (g:=fun _=>0) k (fun i hi=>by
   have:toE e i=0:=by unfold toE;rw[if_neg (by omega)]
   simp[this]),Zdh]
  exact hg _
def gW (d:Zad)(i:Nat):Int:=match Zaa d i with
 | some b=>((2^(d.vars.length-levN d b.v):Nat):Int)-1
 | none=>0
theorem Zgc (d:Zad)(i:Nat):0<=gW d i:=by
 unfold gW;split
 . have:0<2^(d.vars.length-levN d (by assumption:BN).v):=Nat.pow_pos (by decide);omega
 . omega
theorem Ydu (d:Zad)(i l:Nat)(h:∀ b,Zaa d i=some b->l<=levN d b.v):gW d i<=((2^(d.vars.length-l):Nat):Int)-1:=by
 unfold gW;split
 ·rename_i b hb
  have h1:=h b hb;have:2^(d.vars.length-levN d b.v)<=2^(d.vars.length-l):=Nat.pow_le_pow_right (by decide) (by omega);omega
 . have:0<2^(d.vars.length-l):=Nat.pow_pos (by decide);omega
theorem Zzn {d:Zad}{V:Nat->BF}(hk:Zak d V){j:Nat}{b:BN}(hb:Zaa d j=some b):gW d (b.lo/2)+gW d (b.hi/2)<=gW d j-1:=by
 have hl:=hk.dag.lt _ (hk.dag.var _ _ hb);have key:∀ e,levN d b.v<lvE d.vars.length (levN d) (Zaa d) e->gW d (e/2)<=((2^(d.vars.length-(levN d b.v+1)):Nat):Int)-1:=fun e he=>Ydu d _ _ (fun c hc=>by rw[Zpt hc] at he;omega)
 have h1:=key _ (hk.dag.lvLo _ _ hb);have h2:=key _ (hk.dag.lvHi _ _ hb);have h3:gW d j=((2^(d.vars.length-levN d b.v):Nat):Int)-1:=by unfold gW;rw[hb]
 have h4:d.vars.length-levN d b.v=(d.vars.length-(levN d b.v+1))+1:=by omega
 rw[h3,h4,Nat.pow_succ];omega
theorem Zz1 {d:Zad}{V:Nat->BF}(hk:Zak d V)(h0:d.dead=0)(hc:(d.pool.many:Int)=Zas d.pool.at_.length (fun i=>if d.pool.tk i=true then 1 else 0)) :
 (d.pool.many:Int)<=Zas d.pool.at_.length (fun i=>gW d i*Zaw d i):=by
 obtain⟨k,g0⟩:∃ k,k=d.pool.at_.length:=⟨_,rfl⟩;rw[<- g0] at hc ⊢;have e1:Zas k (fun i=>gW d i*(Zau d i:Int))=Zas k (fun i=>gW d i*Zaw d i)+Zas k (fun i=>gW d i*Zas k (from1 (Zaa d) (Zau d) i)):=by
  rw[<- Zfh];refine Za3 k fun i _=>?_
  cases hb:Zaa d i with
  | none=>simp[gW,hb]
  | some b=>rw[hk.live.cnt.eq i b hb,Int.mul_add,g0]
 have e2:Zas k (fun i=>gW d i*Zas k (from1 (Zaa d) (Zau d) i))=Zas k (fun j=>Zas k (fun i=>gW d i*from1 (Zaa d) (Zau d) i j)):=by
  rw[<- Zm3];exact Za3 k fun i _=>Zlg _ _ _
 have e3:Zas k (fun j=>Zas k (fun i=>gW d i*from1 (Zaa d) (Zau d) i j))<=Zas k (fun j=>gW d j + -(if d.pool.tk j=true then 1 else 0)):=by
  refine Zg8 k fun j _=>?_
  cases hb:Zaa d j with
  | none =>
    have ht:d.pool.tk j=false:=Zgh hb;rw[Za3 (g:=fun _=>0) k (fun i _=>by simp[from1,hb]),Zdh];simp[gW,hb,ht]
  | some b =>
    have ht:d.pool.tk j=true:=(Za1 hb).1;have hp:=Zj0 hk.live h0 hb
    rw[Za3 (g:=fun i=>gW d i*toE b.lo i+gW d i*toE b.hi i) k (fun i _=>by
     simp only[from1,hb,if_pos hp,Zdu];rw[Int.mul_add]),Zfh,ht,if_pos rfl]
    have h1:=Zlh (Zgc d) b.lo k;have h2:=Zlh (Zgc d) b.hi k;have h3:=Zzn hk hb;omega
 have e4:Zas k (fun i=>gW d i)<=Zas k (fun i=>gW d i*(Zau d i:Int)):=by
  refine Zg8 k fun i _=>?_
  cases hb:Zaa d i with
  | none=>simp[gW,hb]
  | some b =>
    have hp:=Zj0 hk.live h0 hb;have hg:=Zgc d i;have h1:(1:Int)<=(Zau d i:Int):=by omega
    have h2:=Int.mul_le_mul_of_nonneg_left h1 hg;omega
 have e5:Zas k (fun j=>gW d j + -(if d.pool.tk j=true then 1 else 0))=Zas k (fun j=>gW d j)+Zas k (fun j=>-(if d.pool.tk j=true then 1 else 0)):=Zfh _ _ _;have e6:Zas k (fun j=>-(if d.pool.tk j=true then (1:Int) else 0)) = -Zas k (fun j=>if d.pool.tk j=true then 1 else 0):=by
  have:=Zlg (-1) (fun j=>if d.pool.tk j=true then (1:Int) else 0) k;rw[Za3 (g:=fun i=>-1*if d.pool.tk i=true then (1:Int) else 0) k (fun i _=>by omega),<- this];omega
 omega
theorem Zs8 (d:Zad)(k:Nat):∀ hs:List (Int×Nat),Zas k (fun i=>gW d i*(Zbx hs i:Int))<=hs.length*((2^d.vars.length:Nat):Int)
 | []=>by
   rw[Za3 (g:=fun _=>0) k (fun i _=>by simp[Zbx]),Zdh];simp
 | p::l=>by
   have ih:=Zs8 d k l;have h1:Zas k (fun i=>gW d i*(Zbx (p::l) i:Int))<=Zas k (fun i=>gW d i*(Zbx l i:Int)+gW d i*toE p.2 i):=by
    refine Zg8 k fun i _=>?_
    rw[<- Int.mul_add];refine Int.mul_le_mul_of_nonneg_left ?_ (Zgc d i);unfold Zbx toE
    by_cases e:p.2/2=i
    ·rw[if_pos e];have:(List.filter (fun p=>decide (1<p.1)&&p.2/2 == i) (p::l)).length<=(List.filter (fun p=>decide (1<p.1)&&p.2/2 == i) l).length+1:=by
      rw[List.filter_cons];split<;>simp
     omega
    . rw[if_neg e,List.filter_cons_of_neg (by simp[e])];omega
   have h2:=Zlh (Zgc d) p.2 k;have h3:=Ydu d (p.2/2) 0 (fun _ _=>Nat.zero_le _);rw[Zfh] at h1;rw[List.length_cons,Int.natCast_add,Int.add_mul];simp only[Nat.sub_zero] at h3;have h4:((1:Nat):Int)*((2^d.vars.length:Nat):Int)=((2^d.vars.length:Nat):Int):=by simp
   omega
section
variable {K:Law}{n:Nat}{Od:List Nat->Prop}{room:Nat}{w0 w w':World}{mb:Nat}{fs:List (Int×BF)}{nx:Int}{o o':Own}{m m':ManD}{V V':Nat->BF}
theorem SatE.few (h:SatE K n Od room w0 mb fs nx w o m V)(h0:m.d.dead=0):m.d.pool.many<=fs.length*2^n:=by
 obtain⟨s,hs⟩:=h.is;obtain⟨s2,h2⟩:=hs.store;have h1:=Zz1 h.ok.store h0 h2.pool.cnt;have h3:=Zs8 m.d m.d.pool.at_.length m.hs;have h4:Zas m.d.pool.at_.length (fun i=>gW m.d i*Zaw m.d i)=Zas m.d.pool.at_.length (fun i=>gW m.d i*(Zbx m.hs i:Int)):=by
  refine Za3 _ fun i _=>?_
  cases hb:Zaa m.d i with
  | none=>simp[gW,hb]
  | some b=>rw[h.ok.handles.refs i b hb]
 have h5:fs.length=m.hs.length:=by rw[<- h.hs,List.length_map]
 rw[h5,<- h.vars];have h6:((m.hs.length*2^m.d.vars.length:Nat):Int)=m.hs.length*((2^m.d.vars.length:Nat):Int):=by rw[Int.natCast_mul]
 omega
end
open Go.RowKit
theorem Zzd (zs:List Int)(x:Int)(i:Nat):Zq9 zs x i=bub zs i (Zcj zs x-i).toNat:=rfl
theorem Zvz (zs:List Int)(i d:Nat):(bub zs i (d+1)).2=((i+d:Nat):Int)::(bub (Zca zs ((i+d:Nat):Int)) i d).2:=rfl
def Zf5 (a b:List Int)(w:World)(e:Ending)(w':World):Prop :=
 ∃ v,e=.returned (.tuple #[v,.int .i64 (Zcy a b)])/\OwnI w' w.heap.size v (Zc1 a b)/\Below w.heap.size w w'
theorem Zfw {a b r:List Int}{w w':World}{v:Value}{E:Int}(hE:Zcy a b=E)(hr:Zc1 a b=r)(hs:OwnI w' w.heap.size v r)(hb:Below w.heap.size w w') :
 Zf5 a b w (.returned (.tuple #[v,.int .i64 E])) w':=⟨v,by rw[hE],by rw[hr];exact hs,hb⟩
def metB (zs:List Int)(k:Nat)(v:Int):Bool:=decide (∃ j,j<k/\at0 zs j=v)
theorem Zxl (zs:List Int)(v:Int):metB zs 0 v=false:=by simp[metB]
theorem Zpx (zs:List Int)(k:Nat):metB zs (k+1) (at0 zs k)=true:=by simp only[metB,decide_eq_true_eq];exact⟨k,by omega,rfl⟩
theorem Zjl (zs:List Int)(k:Nat)(v:Int)(h:at0 zs k≠v):metB zs (k+1) v=metB zs k v:=by
 simp only[metB,decide_eq_decide];constructor
 ·rintro⟨j,hj,he⟩;refine⟨j,?_,he⟩
  by_cases e:j=k
  . subst e;exact(h he).elim
  . omega
 . rintro⟨j,hj,he⟩;exact⟨j,by omega,he⟩
theorem Zxk {zs:List Int}{k:Nat}{v:Int}(h:metB zs k v=true):∃ j,j<k/\at0 zs j=v:=by simpa [metB] using h
theorem Zul {zs:List Int}{k:Nat}{v:Int}(h:metB zs k v=false):∀ j,j<k->at0 zs j≠v:=by
 intro j hj he;have:metB zs k v=true:=by simp only[metB,decide_eq_true_eq];exact⟨j,hj,he⟩
 rw[h] at this;cases this
def Marks (w:World)(g:Nat)(zs:List Int)(k base:Nat):Prop :=
 ∃ cur,w.heap[g]?=some (.cells cur 157 (0,0))/\cur.size=64/\∀ u,u<64->cur[u]?=some (.bool (metB zs k ((base+u:Nat):Int)))
theorem Marks.cell {w:World}{g:Nat}{zs:List Int}{k base:Nat}(h:Marks w g zs k base)(u:Nat)(hu:u<64):w.cell? ⟨g,u,none⟩=some (.bool (metB zs k ((base+u:Nat):Int))):=by
 obtain⟨cur,h1,h2,h3⟩:=h;simp only[World.cell?,h1];exact h3 u hu
theorem Marks.frozen {w:World}{g:Nat}{zs:List Int}{k base:Nat}(h:Marks w g zs k base)(u:Nat):w.frozen? ⟨g,u,none⟩=false:=by
 obtain⟨cur,h1,h2,h3⟩:=h;simp[World.frozen?,h1]
theorem Marks.step_out {w:World}{g:Nat}{zs:List Int}{k base:Nat}(h:Marks w g zs k base)(hx:¬ ((base:Int)<=at0 zs k/\at0 zs k<base+64)):Marks w g zs (k+1) base:=by
 obtain⟨cur,h1,h2,h3⟩:=h;exact⟨cur,h1,h2,fun u hu=>by rw[Zjl _ _ _ (by omega)];exact h3 u hu⟩
theorem Marks.step_in {w:World}{g:Nat}{zs:List Int}{k base u:Nat}(h:Marks w g zs k base)(hx:at0 zs k=((base+u:Nat):Int))(hu:u<64) :
 Marks (w.setCell ⟨g,u,none⟩ (.bool true)) g zs (k+1) base:=by
 obtain⟨cur,h1,h2,h3⟩:=h;refine⟨cur.setIfInBounds u (.bool true),?_,by simpa using h2,fun v hv=>?_⟩
 . simp[World.setCell,Array.getElem?_modify,h1]
 ·by_cases e:v=u
  . subst e;rw[Array.getElem?_setIfInBounds_self_of_lt (by omega),<- hx,Zpx]
  . rw[Array.getElem?_setIfInBounds_ne (by omega),Zjl _ _ _ (by omega)];exact h3 v hv
theorem Zxj (w:World)(zs:List Int)(base:Nat)(cs:List Value)(hcs:cs=List.replicate 64 (.bool false)):Marks (w.alloc (.cells cs.toArray 157)) w.heap.size zs 0 base :=
 ⟨_,heap_alloc_new w _,by simp[hcs],fun u hu=>by rw[Zxl,List.getElem?_toArray,hcs,List.getElem?_replicate,if_pos hu]⟩
def Zkb (zs:List Int)(B:Nat):Prop :=
 1<=B->(∀ j,j<zs.length->0<=at0 zs j/\at0 zs j<zs.length)/\∀ i,i<zs.length->∀ l,l<i->at0 zs l=at0 zs i->(B:Int)<=at0 zs i
def Zka (zs:List Int)(B k:Nat):Prop :=
 (∀ j,j<k->0<=at0 zs j/\at0 zs j<zs.length)/\(∀ i,i<k->∀ l,l<i->at0 zs l=at0 zs i->¬ ((B:Int)<=at0 zs i/\at0 zs i<(B:Int)+64))
theorem Zqh (zs:List Int):Zkb zs 0:=fun h=>by omega
theorem Zqf (zs:List Int)(B:Nat):Zka zs B 0:=⟨by omega,by omega⟩
theorem Zgn {zs:List Int}{B k:Nat}(h:Zka zs B k)(h1:0<=at0 zs k)(h2:at0 zs k<zs.length)
 (h3:¬ ((B:Int)<=at0 zs k/\at0 zs k<(B:Int)+64)\/metB zs k (at0 zs k)=false):Zka zs B (k+1):=by
 refine⟨fun j hj=>?_,fun i hi l hl he=>?_⟩
 ·by_cases e:j=k
  . subst e;exact⟨h1,h2⟩
  . exact h.1 j (by omega)
 ·by_cases e:i=k
  ·subst e;rcases h3 with h3|h3
   . exact h3
   . exact(Zul h3 l hl he).elim
  . exact h.2 i (by omega) l hl he
theorem Zqg {zs:List Int}{B:Nat}(h:Zkb zs B)(hi:Zka zs B zs.length):Zkb zs (B+64):=by
 refine fun _=>⟨hi.1,fun i g0 l hl he=>?_⟩
 have h2:=hi.2 i g0 l hl he;have h3:=(hi.1 i g0).1
 by_cases hB:1<=B
 . have:=(h hB).2 i g0 l hl he;omega
 . omega
theorem Zqe {zs:List Int}{B:Nat}(h:Zkb zs B)(hB:zs.length<=B):Zay zs=true:=by
 rw[Zbk]
 by_cases h0:1<=B
 . obtain⟨h1,h2⟩:=h h0;exact⟨h1,fun i hi k hk he=>by have:=h2 i hi k hk he;have:=(h1 i hi).2;omega⟩
 . exact⟨by omega,by omega⟩
theorem Zgm {zs:List Int}{k:Nat}(hk:k<zs.length)(h:¬ (0<=at0 zs k/\at0 zs k<zs.length)):Zay zs=false:=Zjo fun hh=>h (hh.1 k hk)
theorem Zoa {zs:List Int}{k:Nat}(hk:k<zs.length)(h:metB zs k (at0 zs k)=true):Zay zs=false:=by
 obtain⟨j,hj,he⟩:=Zxk h;exact Zjo fun hh=>hh.2 k hk j hj he
theorem Zbp (a:Option Addr)(c:Nat)(zs:List Int)(w:World)(h:Zav w a zs)(hlen:zs.length<1000000) :
 Calls prog 68 #[.slice a zs.length c] w fun e w'=>e=.returned (.bool (Zay zs))/\Below w.heap.size w w':=by
 obtain⟨hl,hc⟩:=h;have gi:Hid (∀ k,k<zs.length->∃ b off,a=some ⟨b,off,none⟩/\b<w.heap.size/\w.cell? ⟨b,off+k,none⟩=some (.int .i64 (at0 zs k))):=fun k hk=>by
  obtain⟨b,off,h1,h2⟩:=hc k hk;exact⟨b,off,h1,Zab h2,h2⟩
 clear hc
 go_enter func68,ntmps68
 go_wp2
 go_loopw [3] (fun s3 wr=>∃ B:Nat,s3=.int .i64 B/\B<=zs.length+63/\Zkb zs B/\Below w.heap.size w wr/\w.heap.size<=wr.heap.size) (fun i _=>zs.length+64-(intOf i).toNat)
 case atStart=>exact⟨0,rfl,by omega,Zqh zs,Below.refl _ _,Nat.le_refl _⟩
 case round =>
  obtain⟨B,rfl,hB,hrel,g9,ga⟩:=hrel;have HR:=Hd hrel;clear hrel
  by_cases gn:B<zs.length
  ·go_wp2
   obtain⟨wo,rfl⟩:∃ wo:World,wo=wr:=⟨_,rfl⟩
   go_loopw [16] (fun i wi=>∃ k:Nat,k<=zs.length/\i=.int .i64 k/\Zka zs B k/\Marks wi wo.heap.size zs k B/\Below w.heap.size w wi/\w.heap.size<=wi.heap.size) (fun i _=>zs.length-(intOf i).toNat)
   case atStart=>exact⟨0,by omega,rfl,Zqf zs B,Zxj _ _ _ _ rfl,g9.alloc ga _,by simp;omega⟩
   case round =>
    obtain⟨k,hk,rfl,gc,hm,g0,g2⟩:=hrel;have g4:=Hd gc;have HM:=Hd hm;clear gc hm
    by_cases g3:k<zs.length
    ·obtain⟨b,off,rfl,gh,ge⟩:=gi.out k g3;have gl:=(g0.cell (p:=⟨b,off+k,none⟩) gh).trans ge;clear ge
     by_cases hx:0<=at0 zs k/\at0 zs k<zs.length
     ·obtain⟨g6,g5⟩:=hx
      by_cases g1:(B:Int)<=at0 zs k/\at0 zs k<(B:Int)+64
      ·obtain⟨gk,gj⟩:=g1;have g7:((at0 zs k).toNat-B)<64:=by omega
       have g8:at0 zs k=((B+((at0 zs k).toNat-B):Nat):Int):=by omega
       have gf:=HM.out.cell _ g7;have gr:=HM.out.frozen ((at0 zs k).toNat-B);rw[<- g8] at gf;have HU:=Hd g8
       generalize gd:metB zs k (at0 zs k)=mb at gf
       have gg:=Hd gd;clear gd g8;cases mb
       ·go_wp2
        go_roundw
        case rel=>exact⟨k+1,by omega,by go_num,Zgn g4.out g6 g5 (.inr gg.out),HM.out.step_in HU.out g7,g0.setCell ga _,by simp;omega⟩
        case measure=>simp[intOf];omega
       ·go_wp2
        go_ret;exact⟨Zb3 (Zoa g3 gg.out).symm,g0⟩
      ·have HW:=Hd g1
       by_cases go:at0 zs k<(B:Int)
       ·clear g1
        go_wp2
        go_roundw
        case rel=>exact⟨k+1,by omega,by go_num,Zgn g4.out g6 g5 (.inl HW.out),HM.out.step_out HW.out,g0,g2⟩
        case measure=>simp[intOf];omega
       ·have gp:(B:Int)+64<=at0 zs k:=by omega
        clear g1
        go_wp2
        go_roundw
        case rel=>exact⟨k+1,by omega,by go_num,Zgn g4.out g6 g5 (.inl HW.out),HM.out.step_out HW.out,g0,g2⟩
        case measure=>simp[intOf];omega
     ·have HX:=Hd hx
      by_cases gm:at0 zs k<0
      ·clear hx
       go_wp2
       go_ret;exact⟨Zb3 (Zgm g3 HX.out).symm,g0⟩
      ·have gq:(zs.length:Int)<=at0 zs k:=by omega
       clear hx
       go_wp2
       go_ret;exact⟨Zb3 (Zgm g3 HX.out).symm,g0⟩
    ·obtain rfl:k=zs.length:=by omega
     go_wp2
     go_roundw
     case rel=>exact⟨B+64,by go_num,by omega,Zqg HR.out g4.out,g0,g2⟩
     case measure=>simp[intOf];omega
  ·go_wp2
   go_ret;exact⟨Zb3 (Zqe HR.out (by omega)).symm,g9⟩
theorem Zlo {ops:Array Oper}{rest:List Oper}{o:Oper}{a:Act}{Q:Exit->Act->World->Prop}{wr:World}(hgd:o.guard=none)(d s:Operand)
 (ho:o.op=.call { callee:=.builtin .copy,args:=#[d,s],argTypes:=#[22,22] })
 (base g:Nat) (w0:World) (zs:List Int) (xs:List Value) (ao:Option Addr) (c:Nat) (hd:a.eval d=.slice (some ⟨g,0,none⟩) zs.length zs.length) (hs:a.eval s=.slice ao zs.length c)
 (hown:wr.ownsRow base 3 1 (.slice (some ⟨g,0,none⟩) zs.length zs.length) zs.length xs) (hzs:Zav wr ao zs) (hb:Below base w0 wr)
 (h:∀ v' w',OwnI w' base (.slice (some ⟨g,0,none⟩) zs.length zs.length) zs->Below base w0 w'->base<=w'.heap.size->wpList prog ops Q rest (a.put o.dst v') w') :
 wpList prog ops Q (o::rest) a wr:=by
 obtain⟨g9,hx⟩:=hown;rcases hx with ⟨hv,_⟩|⟨g',cap,cur,hv,g2,hg,ga,g5,g1,g8⟩
 . cases hv
 ·simp only[Value.slice.injEq,Option.some.injEq,Addr.mk.injEq,and_true,true_and] at hv;obtain⟨rfl,rfl⟩:=hv;refine wpList_copy_splice (w:=wr) hgd d s 22 22 ho 3 underlying22 (by obtain⟨i,hi,_,g4,_⟩:=info_parts Zix;rw[hi];simp[g4])
   _ _ _ _ _ _ hd hs g 0 cur.toList 3 (by simpa using hg) (Za0 zs) (by simp[Za0]) ?_ (by simp[Za0,g1]) (ints_oneCell .i64 zs) base w0 hb g2 ?_
  ·intro hp;rw[Zev] at hp;obtain⟨b,off,rfl,_⟩:=hzs.cells 0 hp;refine⟨rfl,_,rfl,fun j v hj=>?_⟩;have g0:j<zs.length:=by
    rcases Nat.lt_or_ge j zs.length with h'|h'
    . exact h'
    . simp[Za0,List.getElem?_eq_none h'] at hj
   obtain⟨b',off',g7,hc⟩:=hzs.cells j g0;cases g7;simp[Za0,getElem?_at0 g0] at hj;subst hj;have g3:(⟨b,off,none⟩:Addr).add j=⟨b,off+j,none⟩:=by unfold Addr.add;split<;>simp_all
   rw[g3];exact hc
  ·intro w' hh g6;refine h _ w' ⟨by simp[Za0],.inr ⟨g,_,(Za0 zs).toArray,rfl,g2,?_,Nat.le_refl _,g5,by simp[Za0],by simp[Za0,List.take_of_length_le]⟩⟩ g6 ?_
   ·have:_=_:=hh;rw[this];have hl:cur.toList.length=zs.length:=by simp[g1]
    simp[splice,Za0,List.drop_eq_nil_of_le,hl]
   . have h1:_=_:=hh;have:=(Array.getElem?_eq_some_iff.1 h1).1;omega
theorem Zd0 (a:Option Addr)(c:Nat)(zs:List Int)(w:World)(h:Zav w a zs)(hlen:zs.length<1000000) :
 Calls prog 154 #[.slice a zs.length c] w fun e w'=>∃ g,e=.returned (.slice (some ⟨g,0,none⟩) zs.length zs.length)/\OwnI w' w.heap.size (.slice (some ⟨g,0,none⟩) zs.length zs.length) zs/\Below w.heap.size w w':=by
 obtain⟨i,hi,hz,g3,g4⟩:=info_parts Zix;have HI:=Hd h;clear h
 go_enter func154,ntmps154
 go_wp2_with (first
  | (at_make;refine wpList_make_full _ rfl _ _ 22 rfl w.heap.size 3 i (.int .i64 0) 1 underlying22 hi hz g3 .i64 .i64 _ _ zs.length rfl rfl rfl rfl (by rw[g4];omega) (by unfold maxLen;omega) (Nat.le_refl _) ?_;intro w1 g1 g2)
  | (with_reducible refine Zlo rfl (.tmp 7) (.tmp 8) rfl w.heap.size w.heap.size w zs _ a c rfl rfl (by exact g1) (HI.out.keep (Zcv g2) (by simp)) ((Below.refl _ _).grown g2 (Nat.le_refl _) (by simp)) ?_;intro v2 w2 g0 g5 g6))
 go_ret;exact⟨_,rfl,g0,g5⟩
theorem Zwt (a:Option Addr)(c:Nat)(zs:List Int)(x:Int)(w:World)(h:Zav w a zs) :
 Calls prog 76 #[.slice a zs.length c,.int .i64 x] w fun e w'=>e=.returned (.int .i64 (Zcj zs x))/\∃ n,w'=w.drewN n:=by
 obtain⟨hl,hc⟩:=h;have HC:=Hd hc;clear hc
 go_enter func76,ntmps76
 go_wp2
 go_loop [8] (fun i=>∃ k:Nat,k<=zs.length/\i=.int .i64 k/\∀ j,j<k->at0 zs j≠x) (fun i=>zs.length-(intOf i).toNat)
 case atStart=>exact⟨0,Nat.zero_le _,rfl,by omega⟩
 case round =>
  obtain⟨k,hk,rfl,hrel⟩:=hrel;have HR:=Hd hrel;clear hrel
  by_cases g0:k<zs.length
  ·obtain⟨b,off,rfl,g1⟩:=HC.out k g0
   by_cases hx:at0 zs k=x
   ·have H1:(x == at0 zs k)=true:=by simpa using hx.symm
    have HX:=Hd hx;clear hx
    go_wp2
    go_ret;exact⟨Zr1 (Zjn g0 HX.out HR.out).symm,0,rfl⟩
   ·have H1:(x == at0 zs k)=false:=by simpa using(fun e=>hx e.symm)
    go_wp2
    go_round
    case rel=>exact⟨k+1,by omega,by go_num,fun j hj=>by
     by_cases e:j=k
     . subst e;exact hx
     . exact HR.out j (by omega)⟩
    case measure=>simp[intOf];omega
  ·go_wp2
   go_ret;exact⟨Zr1 (Zrz (fun j hj=>HR.out j (by omega))).symm,0,rfl⟩
theorem OwnI.len {w:World}{base n c:Nat}{a:Option Addr}{zs:List Int}(h:OwnI w base (.slice a n c) zs):n=zs.length:=by
 rcases h.2 with ⟨hv,h0⟩|⟨g,cap,cur,hv,_⟩
 . simp only[Value.slice.injEq] at hv;omega
 . simp only[Value.slice.injEq] at hv;omega
theorem OwnI.intsAt {w:World}{base n c:Nat}{a:Option Addr}{zs:List Int}(h:OwnI w base (.slice a n c) zs)(hl:zs.length<=9223372036854775807):Zav w a zs:=by
 obtain rfl:=h.len;exact Zhe hl h
theorem Zzr {a:Option Addr}{n c:Nat}{zs:List Int}{x:Int}{w:World}(hn:n=zs.length)(h:Zav w a zs) :
 Calls prog 76 #[.slice a n c,.int .i64 x] w fun e w'=>e=.returned (.int .i64 (Zcj zs x))/\∃ n,w'=w.drewN n:=by
 subst hn;exact Zwt a c zs x w h
theorem Zij (va vb:Value)(xs ys:List Int)(w:World)(h:SliceIs w va xs)(h':SliceIs w vb ys)(hlen:xs.length<=1000)(hlen':ys.length<=1000) :
 Calls prog 151 #[va,vb] w (Zf5 xs ys w):=by
 obtain⟨a,c,rfl,ha,gT⟩:=h;obtain⟨b,c',rfl,hb,gS⟩:=h';have HA:=Hd ha;have HB:=Hd hb;clear ha hb gT gS
 by_cases hr:Zay xs=true
 ·by_cases g1:Zay ys=true
  ·by_cases hl:xs.length=ys.length
   ·have HE:Hid (Zcy xs ys=0):=by unfold Zcy;rw[if_pos ⟨hr,g1⟩,if_pos hl];rfl
    have HF:Hid (Zc1 xs ys=Zfg xs ys 0):=by unfold Zc1;rw[if_pos ⟨hr,g1,hl⟩];rfl
    have HR:=Hd hr;have g8:=Hd g1;have H3:((xs.length:Int) != ys.length)=false:=by simp[hl]
    clear hr g1 hl
    go_enter func151,ntmps151
    go_wp2_with fail;refine(Zbp _ _ xs _ HA.out (by omega)).mono ?_;rintro e w1 ⟨rfl,g0⟩;rw[HR.out];go_wp2_with fail;refine(Zbp _ _ ys _ (HB.out.below g0) (by omega)).mono ?_;rintro e w2 ⟨rfl,g7⟩;rw[g8.out];have g4:Below w.heap.size w w2:=g0.trans (g7.mono g0.size);go_wp2_with fail;refine(Zd0 _ _ xs _ (HA.out.below g4) (by omega)).mono ?_;rintro e w3 ⟨g,rfl,gc,gm⟩;have ga:=g4.size;have hg:w2.heap.size<=g:=(gc.lt g rfl).1;have h5:Below w.heap.size w w3:=g4.trans (gm.mono ga);have gN:w2.heap.size<=w3.heap.size:=gm.size;go_wp2_with fail
    go_loopw [6,30] (fun s6 s30 wr=>∃ (k:Nat) (cur out:List Int),k<=ys.length/\s30=.int .i64 k/\OwnI wr w2.heap.size (.slice (some ⟨g,0,none⟩) xs.length xs.length) cur/\cur.length=xs.length/\OwnI wr w2.heap.size s6 out/\s6.ownBlock≠some g/\out.length<=k*1000/\out++Zfg cur (ys.drop k) k=Zfg xs ys 0/\w2.heap.size<=wr.heap.size/\Below w2.heap.size w2 wr) (fun _ s30 _=>ys.length-(intOf s30).toNat)
    case atStart=>exact⟨0,xs,[],by omega,rfl,gc,rfl,Zig _ _,by simp[Value.ownBlock],by simp,by simp,gN,gm⟩
    case round =>
     obtain⟨k,cur,out,hk,rfl,gk,gx,gf,gu,hf,gr,gM,g9⟩:=hrel;have gB:=Hd gr;have gn:=Hd gx;have h1:=Hd gu;have h7:cur.length<=1000:=by omega
     clear gr gx gu;have h3:=Hd (HB.out.below (g4.trans (g9.mono ga)))
     by_cases gv:k<ys.length
     ·obtain⟨bb,off,rfl,h4⟩:=h3.out.cells k gv;have h2:=Hd (Zle cur ys k gv);have HCI:=Hd (gk.intsAt (by omega));go_wp2_with fail;refine(Zzr gn.out.symm (HCI.out.drewN 0)).mono ?_;rintro e w' ⟨rfl,n,rfl⟩;have gt:=Zx0 cur (at0 ys k);have hp2:=Zx1 cur (at0 ys k);have gG:=Hd (Zzd cur (at0 ys k) k)
      generalize Zcj cur (at0 ys k)=p at gt hp2 gG ⊢
      go_wp2_with fail;have gQ:p<xs.length\/p<=0:=by have:=gn.out;omega
      obtain⟨N,F,HN⟩:∃ (N F:List Int),Hid (N=(bub cur k (p-k).toNat).1/\F=out++(bub cur k (p-k).toNat).2):=⟨_,_,rfl,rfl⟩
      go_loopw [6,10] (fun s6 s10 wi=>∃ (d:Nat) (c1 o1:List Int) (q:Int),s10=.int .i64 q/\-1<=q/\q<=1000/\(q<xs.length\/q<=0)/\(q<=k->d=0)/\(k<q->q=k+d)/\OwnI wi w2.heap.size (.slice (some ⟨g,0,none⟩) xs.length xs.length) c1/\c1.length=xs.length/\OwnI wi w2.heap.size s6 o1/\s6.ownBlock≠some g/\o1.length+d<=(k+1)*1000/\N=(bub c1 k d).1/\F=o1++(bub c1 k d).2/\w2.heap.size<=wi.heap.size/\Below w2.heap.size w2 wi) (fun _ s10 _=>(intOf s10+1).toNat)
      case atStart=>exact⟨(p-k).toNat,cur,out,p,rfl,gt,by omega,gQ,by omega,by omega,gk.drewN n,gn.out,gf.drewN n,h1.out,by omega,HN.out.1,HN.out.2,gM,Za9 g9 n⟩
      case round =>
       obtain⟨d,c1,o1,q,rfl,he,hd,gP,gj,gw,g3,gl,g6,gg,h6,hN,hF,ge,gd⟩:=hrel;have gD:=Hd hN;have gF:=Hd hF;have go:=Hd gl;have g5:=Hd gg;have h8:c1.length<=1000:=by omega
       clear hN hF gl gg
       by_cases hc:(k:Int)<q
       ·obtain⟨d,rfl⟩:∃ l,d=l+1:=⟨d-1,by omega⟩;have gO:q=(k:Int)+d+1:=by omega
        subst gO;have gU:k+d+1<xs.length:=by omega
        have gJ:k+d+1<c1.length:=by rw[go.out];exact gU
        clear gj gw gP;have h9:IntKind.i64.wrap ((k:Int)+d+1-1)=((k+d:Nat):Int):=by rw[IntWalk.i64_in _ (by omega)];omega
        have q0:=g3.cell (k+d) (by omega);have q1:=g3.cell (k+d+1) (by omega);have p0:=g3.frozen (k+d);have p1:=g3.frozen (k+d+1);have t0:((k:Int)+d).toNat=k+d:=by omega
        have t1:((k:Int)+d+1).toNat=k+d+1:=by omega
        go_wp2_with fail
        go_region
        have gZ:=Hd (Zj5 (zs:=c1) (k:=k+d) gJ);have gX:=((g3.stored (k+d) (at0 c1 (k+d+1))).stored (k+d+1) (at0 c1 (k+d))).drewN 1;have gR:=((g6.setCell_other (a:=⟨g,k+d,none⟩) g5.out (.int .i64 (at0 c1 (k+d+1)))).setCell_other (a:=⟨g,k+d+1,none⟩) g5.out (.int .i64 (at0 c1 (k+d)))).drewN 1;have gY:=Za9 ((gd.setCell (p:=⟨g,k+d,none⟩) hg (.int .i64 (at0 c1 (k+d+1)))).setCell (p:=⟨g,k+d+1,none⟩) hg (.int .i64 (at0 c1 (k+d)))) 1;have gV:=(g3.lt g rfl).2;go_wp2_with (at_builtin;go_loud (refine Zbe _ rfl _ _ rfl w2.heap.size w2 _ o1 _ rfl rfl (by rfl) (by simp) gR (by omega) (by simpa using ge) gY ?_);intro v2 w4 gp gq gH gh);have gy:=gX.keep gh.keep (fun x hx gL=>by cases hx;exact g5.out gL.symm);rw[<- gZ.out] at gy;have gI:=gh.ne g5.out (by simpa using gV);go_roundw
        case rel=>exact⟨d,Zca c1 ((k+d:Nat):Int),o1++[((k+d:Nat):Int)],((k+d:Nat):Int),by go_num,by omega,by omega,by omega,by omega,by omega,gy,by rw[Zcp];exact go.out,gp,gI,by simp;omega,gD.out,by rw[gF.out,Zvz];simp,gH,gq⟩
        case measure=>simp[intOf];omega
       ·obtain rfl:=gj (by omega);have h0:=Hd g6;have gz:N=c1:=gD.out;have gA:F=o1:=by rw[gF.out];simp[bub]
        have gC:=Hd gz;have gE:=Hd gA;clear gz gA gj gw g6
        go_wp2
        go_roundw
        case rel=>exact⟨k+1,N,F,by omega,by go_num,by rw[gC.out];exact g3,by rw[gC.out];exact go.out,by rw[gE.out];exact h0.out,g5.out,by rw[gE.out];omega,by
         rw[HN.out.1,HN.out.2,<- gB.out,h2.out,gG.out];simp,ge,gd⟩
        case measure=>simp[intOf];omega
     ·obtain rfl:k=ys.length:=by omega
      have gi:Zfg xs ys 0=out:=by rw[<- gB.out];simp[Zfg]
      have gK:=Hd gi;clear gi
      go_wp2
      go_ret2
      exact Zfw HE.out (HF.out.trans gK.out) (gf.lower ga) (g4.trans (g9.mono ga))
   ·have HE:Hid (Zcy xs ys=3):=by unfold Zcy;rw[if_pos ⟨hr,g1⟩,if_neg hl];rfl
    have HF:Hid (Zc1 xs ys=[]):=by unfold Zc1;rw[if_neg (fun hh=>hl hh.2.2)];rfl
    have HR:=Hd hr;have g8:=Hd g1;have H3:((xs.length:Int) != ys.length)=true:=by simp;omega
    clear hr g1 hl
    go_enter func151,ntmps151
    go_wp2_with fail;refine(Zbp _ _ xs _ HA.out (by omega)).mono ?_;rintro e w1 ⟨rfl,g0⟩;rw[HR.out];go_wp2_with fail;refine(Zbp _ _ ys _ (HB.out.below g0) (by omega)).mono ?_;rintro e w2 ⟨rfl,g7⟩;rw[g8.out];go_wp2_with fail
    go_ret2
    exact Zfw HE.out HF.out (Zig _ _) (g0.trans (g7.mono g0.size))
  ·have HE:Hid (Zcy xs ys=1):=by unfold Zcy;rw[if_neg (fun hh=>g1 hh.2)];rfl
   have HF:Hid (Zc1 xs ys=[]):=by unfold Zc1;rw[if_neg (fun hh=>g1 hh.2.1)];rfl
   have g2:Zay ys=false:=by simpa using g1
   have HR:=Hd hr;have g8:=Hd g2;clear hr g1 g2
   go_enter func151,ntmps151
   go_wp2_with fail;refine(Zbp _ _ xs _ HA.out (by omega)).mono ?_;rintro e w1 ⟨rfl,g0⟩;rw[HR.out];go_wp2_with fail;refine(Zbp _ _ ys _ (HB.out.below g0) (by omega)).mono ?_;rintro e w2 ⟨rfl,g7⟩;rw[g8.out];go_wp2_with fail
   go_ret2
   exact Zfw HE.out HF.out (Zig _ _) (g0.trans (g7.mono g0.size))
 ·have HE:Hid (Zcy xs ys=1):=by unfold Zcy;rw[if_neg (fun hh=>hr hh.1)];rfl
  have HF:Hid (Zc1 xs ys=[]):=by unfold Zc1;rw[if_neg (fun hh=>hr hh.1)];rfl
  have g2:Zay xs=false:=by simpa using hr
  have HR:=Hd g2;clear hr g2
  go_enter func151,ntmps151
  go_wp2_with fail;refine(Zbp _ _ xs _ HA.out (by omega)).mono ?_;rintro e w1 ⟨rfl,g0⟩;rw[HR.out];go_wp2_with fail
  go_ret2
  exact Zfw HE.out HF.out (Zig _ _) g0
end Go.Proofs.YtkidaindpahefaaGreat
namespace Go.Proofs
open Go.Proofs.Tryz
open Go.Shelf
def Tryz.lays112_ren:Go.Shelf.Ren:=⟨fun|112=>155|n=>n,fun|28=>22|3=>3|4=>4|0=>0|n=>n,fun|n=>n⟩
theorem Tryz.lays112:Go.Proofs.Lays.n112 prog Tryz.lays112_ren:={
 mixed:=by kernel_rfl
 f112:=func155.trans (congrArg some (by kernel_rfl))
 t0:=underlying0
 a0:=Tryz.isAgg0
 z0:=Tryz.sizeOf0
 v0:=zeroValue0
 t3:=underlying3
 a3:=Tryz.isAgg3
 z3:=Tryz.sizeOf3
 v3:=zeroValue3
 t4:=underlying4
 a4:=Tryz.isAgg4
 z4:=Tryz.sizeOf4
 v4:=zeroValue4
 t28:=underlying22
 a28:=Tryz.isAgg22
 z28:=Tryz.sizeOf22
 v28:=zeroValue22 }
theorem Tryz.slices_Reverse_int_cells (b off n c:Nat)(zs:List Int)(w:World)(hz:n<=zs.length)(hbig:n<=9223372036854775807)(hc:∀ j,j<zs.length->w.cell? ⟨b,off+j,none⟩=some (.int .i64 (zs.getD j 0)))(hf:∀ j,j<n->w.frozen? ⟨b,off+j,none⟩=false) :
 Calls prog 155 #[.slice (some ⟨b,off,none⟩) n c] w fun e w'=>e=.returned (.tuple #[])/\∃ q,w'=(w.drewN q).setCells b off ((zs.take n).reverse.map (Value.int .i64)):=Any.slices_Reverse_int_cells Tryz.lays112 b off n c zs w hz hbig hc hf
end Go.Proofs
namespace Go.Proofs.YtkidaindpahefaaGreat
open Go.Proofs.Tryz
open Go.RowKit
theorem Zcd {B g:Nat}{a:World}(hg:B<=g)(ys:List Value):∀ (w:World) (o:Nat),Below B a w->Below B a (w.setCells g o ys):=by
 induction ys with
 | nil=>intro w o h;exact h
 | cons y ys ih=>intro w o h;exact ih _ _ (h.setCell hg _)
theorem OwnI.setCells {base g n c:Nat}(ys:List Int):∀ (w:World) (o:Nat) (zs:List Int),OwnI w base (.slice (some ⟨g,0,none⟩) n c) zs->o+ys.length<=zs.length ->
 OwnI (w.setCells g o (Za0 ys)) base (.slice (some ⟨g,0,none⟩) n c) (zs.take o++ys++zs.drop (o+ys.length)):=by
 induction ys with
 | nil=>intro w o zs h _;simpa [Za0,World.setCells] using h
 | cons y ys ih =>
   intro w o zs h hl;simp only[List.length_cons] at hl;have h1:=ih (w.setCell ⟨g,o,none⟩ (.int .i64 y)) (o+1) (zs.set o y) (h.stored o y) (by simp;omega);have e:(zs.set o y).take (o+1)++ys++(zs.set o y).drop (o+1+ys.length)=zs.take o++(y::ys)++zs.drop (o+(y::ys).length):=by
    have e1:(zs.set o y).take (o+1)=zs.take o++[y]:=by
     rw[List.set_eq_take_append_cons_drop,if_pos (by omega),List.take_append];simp;have:min o zs.length=o:=by omega
     rw[this];simp
     exact List.take_of_length_le (by simp;omega)
    have e2:(zs.set o y).drop (o+1+ys.length)=zs.drop (o+1+ys.length):=by
     rw[List.drop_set];rw[if_pos (by omega)]
    rw[e1,e2];simp[Nat.add_assoc,Nat.add_comm 1 ys.length]
   rw[e] at h1;exact h1
theorem Zp6 (a:Option Addr)(c:Nat)(zs:List Int)(w:World)(h:Zav w a zs)(hlen:zs.length<1000000) :
 Calls prog 104 #[.slice a zs.length c] w fun e w'=>∃ v,e=.returned v/\SliceIs w' v zs.reverse/\Below w.heap.size w w':=by
 have HI:=Hd h;clear h
 go_enter func104,ntmps104
 go_wp2_with fail;refine(Zd0 _ _ zs _ HI.out hlen).mono ?_;rintro e w1 ⟨g,rfl,g0,g3⟩;have hg:w.heap.size<=g:=(g0.lt g rfl).1;go_wp2_with fail;refine(Tryz.slices_Reverse_int_cells g 0 zs.length zs.length zs w1 (Nat.le_refl _) (by omega) (fun j hj=>by rw[Nat.zero_add];exact g0.cell j hj) (fun j hj=>by rw[Nat.zero_add];exact g0.frozen j)).mono ?_;rintro e w2 ⟨rfl,q,g1⟩;have h2:=OwnI.setCells zs.reverse (w1.drewN q) 0 zs (g0.drewN q) (by simp);have e:zs.drop (0+zs.reverse.length)=[]:=List.drop_of_length_le (by simp);rw[e,List.take_zero,List.nil_append,List.append_nil] at h2;have g2:Below w.heap.size w ((w1.drewN q).setCells g 0 (Za0 zs.reverse)):=Zcd hg _ _ _ (Za9 g3 _);rw[List.take_length] at g1
 change w2=(w1.drewN q).setCells g 0 (Za0 zs.reverse) at g1
 rw[<- g1] at h2 g2;clear g1;go_wp2_with fail;go_ret;exact⟨_,rfl,h2.sliceIs (by simp;omega),g2⟩
end Go.Proofs.YtkidaindpahefaaGreat
