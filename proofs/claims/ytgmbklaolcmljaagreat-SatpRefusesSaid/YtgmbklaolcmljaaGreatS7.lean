/- Several texts in one file: contracts of the program's functions and what follows from them. -/
import Derived.Test.YtgmbklaolcmljaaGreatS6
import Derived.Laws.CopyOwn
import Derived.Maps.RangeRun
set_option linter.unusedSimpArgs false
set_option linter.unusedVariables false
set_option linter.unusedSectionVars false
set_option linter.unnecessarySimpa false
set_option maxRecDepth 100000
set_option maxHeartbeats 8000000
namespace Go.Proofs.YtgmbklaolcmljaaGreat
open Go.Proofs.Tryz
open Go.RowKit
variable {A:Ae->(Nat->BF)->Nat->Prop}{C:Nat->Prop}{F G:BF}{Fs:List BF}{K:Law}{L:Array Bool}{Od:List Nat->Prop}{P:Program}{Q:Exit->Act->Wd->Prop}{S:Wd->Prop}{T t:TypeId}{V V':Nat->BF}{W W' w w' w0 wB:Wd}{a:Act}{args:Array Value}{b bl bn c f g i id j k mb n room x xb y:Nat}{d:Ae}{ds dy met os pl rs:List Nat}{fs:List (Int×BF)}{fv v:Value}{fx:Nat->Option Bool}{ks:List Int}{l:List Oper}{m m':ManD}{nx:Int}{o':Own}{ops:Array Oper}{ws0:List Ev}{xs:List Value}
def Indep (F:BF)(v:Nat):Prop:=∀ ρ b,F (upd ρ v b)=F ρ
theorem Nb {v:Nat}(h:Indep F v)(u:Nat)(c:Bool):Indep (cofF F u c) v:=fun ρ b=>by
 show F (upd (upd ρ v b) u c)=F (upd ρ u c)
 by_cases e:v=u
 . subst e;exact X3 F (funext fun x=>by unfold upd;split<;>rfl)
 ·rw[show upd (upd ρ v b) u c=upd (upd ρ u c) v b from funext fun x=>by
   unfold upd
   by_cases h1:x=u<;>by_cases h2:x=v<;>simp_all]
  exact h _ b
theorem Uh {u v:Nat}(hne:v≠u)(h0:Indep (cofF F u false) v)(h1:Indep (cofF F u true) v):Indep F v:=fun ρ b=>by
 have key:∀ σ:Nat->Bool,F σ=cofF F u (σ u) σ:=fun σ=>X3 F (funext fun x=>by
  by_cases e:x=u
  . subst e;simp
  . simp[e])
 rw[key (upd ρ v b),key ρ,show upd ρ v b u=ρ u by unfold upd;rw[WO (fun e=>hne e.symm)]];cases ρ u
 . exact h0 ρ b
 . exact h1 ρ b
theorem Nc {v:Nat}(h:Indep F v):Indep (notF F) v:=fun ρ b=>by
 show (!F (upd ρ v b)) = !F ρ
 rw[h]
theorem ED {v:Nat}:Indep F v↔cofF F v false=cofF F v true:=by
 constructor
 ·intro h;funext ρ
  exact(h ρ false).trans (h ρ true).symm
 ·intro h ρ b
  have key:∀ σ:Nat->Bool,F σ=cofF F v (σ v) σ:=fun σ=>X3 F (funext fun x=>by
   by_cases e:x=v
   . subst e;simp
   . simp[e])
  have e2:cofF F v b ρ=cofF F v (ρ v) ρ:=by
   cases b<;>cases ρ v<;>first|rfl|rw[h]
  exact e2.trans (key ρ).symm
section
theorem Nd {v:Nat}:Indep (ef V f) v↔Indep (V (f/2)) v:=by
 rcases Jv (V:=V) f with e|e
 . rw[e]
 . rw[e];exact⟨fun h=>by have:=Nc h;rwa [MU] at this,Nc⟩
def InM (d:Ae)(met:List Nat)(f:Nat):Prop:=Aa d (f/2)=none\/f/2∈met
def ClM (d:Ae)(met met':List Nat):Prop:=∀ i∈met',i∉met->∀ b,Aa d i=some b->InM d met' b.lo/\InM d met' b.hi
theorem Nf {b:BN}(hb:Aa d (f/2)=some b):(cofs d f b.v).1/2=b.lo/2/\(cofs d f b.v).2/2=b.hi/2:=by
 unfold cofs;simp only[hb,XP];constructor<;>(unfold eflip;split<;>first|exact Dr _|rfl)
theorem EE:∀ (k:Nat) (met:List Nat) (f:Nat),∀ i∈met,i∈A4 d k met f
 | 0,met,f,i,hi=>hi
 | k+1,met,f,i,hi=>by
   unfold A4;cases hb:Aa d (f/2) with
   | none=>exact hi
   | some b =>
     show i∈(if f/2∈met then met else _)
     by_cases c:f/2∈met
     . rw[WR c];exact hi
     . rw[WO c];exact EE k _ _ _ (EE k _ _ _ (Yb _ hi))
theorem InM.mono {met':List Nat}(h:InM d met f)(hs:∀ i∈met,i∈met'):InM d met' f:=h.imp id (hs _)
theorem J0 (h:Ai d V):∀ (k:Nat) (met:List Nat) (f:Nat),okE (Aa d) f->d.vars.length<=lvE d.vars.length (levN d) (Aa d) f+k->InM d (A4 d k met f) f/\ClM d met (A4 d k met f)
 | 0,met,f,hf,hl=>by
   refine⟨.inl ?_,fun i hi hn=>absurd hi hn⟩;cases hb:Aa d (f/2) with
   | none=>rfl
   | some b =>
     exfalso;have h1:=h.dag.lt b.v (h.dag.var _ _ hb);unfold lvE at hl;rw[hb] at hl;simp at hl;omega
 | k+1,met,f,hf,hl=>by
   unfold A4;cases hb:Aa d (f/2) with
   | none=>exact⟨.inl hb,fun i hi hn=>absurd hi hn⟩
   | some b =>
     show InM d (if f/2∈met then met else _) f/\ClM d met (if f/2∈met then met else _)
     by_cases c:f/2∈met
     . rw[WR c];exact⟨.inr c,fun i hi hn=>absurd hi hn⟩
     ·rw[WO c];have hbv:=h.dag.var _ _ hb;have hlv:levN d b.v<=lvE d.vars.length (levN d) (Aa d) f:=by unfold lvE;rw[hb];exact WM _
      have g2:lvE d.vars.length (levN d) (Aa d) f=levN d b.v:=by unfold lvE;rw[hb]
      obtain⟨q1,q2,q3,q4,_⟩:=Bk h hf hbv hlv;obtain⟨e1,e2⟩:=Nf hb;obtain⟨a1,a2⟩:=J0 h k (met++[f/2]) _ q1 (by omega);obtain⟨b1,b2⟩:=J0 h k (A4 d k (met++[f/2]) (cofs d f b.v).1) _ q2 (by omega);have hs1:=EE (d:=d) k (A4 d k (met++[f/2]) (cofs d f b.v).1) (cofs d f b.v).2;have g1:=EE (d:=d) k (met++[f/2]) (cofs d f b.v).1;refine⟨.inr (hs1 _ (g1 _ (by simp))),fun i hi hn b' g0=>?_⟩
      by_cases m2:i∈A4 d k (met++[f/2]) (cofs d f b.v).1
      ·by_cases m1:i∈met++[f/2]
       ·have:i=f/2:=by
         rcases Xa.1 m1 with m|m
         . exact absurd m hn
         . simpa using m
        subst this;rw[hb] at g0;cases g0
        have w1:=a1.mono hs1;unfold InM at w1 b1;rw[e1] at w1;rw[e2] at b1;exact⟨w1,b1⟩
       . obtain⟨w1,w2⟩:=a2 i m2 m1 b' g0;exact⟨w1.mono hs1,w2.mono hs1⟩
      . exact b2 i hi m2 b' g0
theorem J1 (h:Ai d V):∀ (k:Nat) (met:List Nat) (f:Nat),okE (Aa d) f->∀ i∈A4 d k met f,i∈met\/∀ v,Indep (ef V f) v->Indep (V i) v
 | 0,met,f,hf,i,hi=>.inl hi
 | k+1,met,f,hf,i,hi=>by
   unfold A4 at hi;cases hb:Aa d (f/2) with
   | none=>rw[hb] at hi;exact .inl hi
   | some b =>
     rw[hb] at hi
     replace hi:i∈(if f/2∈met then met else A4 d k (A4 d k (met++[f/2]) (cofs d f b.v).1) (cofs d f b.v).2):=hi
     by_cases c:f/2∈met
     . rw[WR c] at hi;exact .inl hi
     ·rw[WO c] at hi;have hbv:=h.dag.var _ _ hb;have hlv:levN d b.v<=lvE d.vars.length (levN d) (Aa d) f:=by unfold lvE;rw[hb];exact WM _
      obtain⟨q1,q2,_⟩:=Bk h hf hbv hlv;obtain⟨e1,e2⟩:=Ft h hf hbv hlv;rcases J1 h k _ _ q2 i hi with m|m
      ·rcases J1 h k _ _ q1 i m with m|m
       ·rcases Xa.1 m with m|m
        . exact .inl m
        ·simp at m;subst m
         exact .inr fun v hv=>Nd.1 hv
       . exact .inr fun v hv=>m v (by rw[e1];exact Nb hv _ _)
      . exact .inr fun v hv=>m v (by rw[e2];exact Nb hv _ _)
theorem Ui (h:Ai d V)(hcl:ClM d [] met){v:Nat}(hv:∀ i∈met,∀ b,Aa d i=some b->b.v≠v):∀ (k:Nat) (f:Nat),okE (Aa d) f->d.vars.length<=lvE d.vars.length (levN d) (Aa d) f+k->InM d met f->Indep (ef V f) v:=by
 have hc:∀ f,okE (Aa d) f->Aa d (f/2)=none->Indep (ef V f) v:=fun f hf hn=>by
  obtain⟨c,e⟩:=(Jw h h.dag.none0 hf).2 hn;rw[e];exact fun _ _=>rfl
 intro k
 induction k with
 | zero =>
   intro f hf hl hi;cases hb:Aa d (f/2) with
   | none=>exact hc f hf hb
   | some b =>
     exfalso;have h1:=h.dag.lt b.v (h.dag.var _ _ hb);unfold lvE at hl;rw[hb] at hl;simp at hl;omega
 | succ k ih =>
   intro f hf hl hi;cases hb:Aa d (f/2) with
   | none=>exact hc f hf hb
   | some b =>
     have hm:f/2∈met:=by
      rcases hi with e|e
      . rw[hb] at e;cases e
      . exact e
     have g1:=h.dag.var _ _ hb;have g0:levN d b.v<=lvE d.vars.length (levN d) (Aa d) f:=by unfold lvE;rw[hb];exact WM _
     have g2:lvE d.vars.length (levN d) (Aa d) f=levN d b.v:=by unfold lvE;rw[hb]
     obtain⟨q1,q2,q3,q4,_⟩:=Bk h hf g1 g0;obtain⟨e1,e2⟩:=Ft h hf g1 g0;obtain⟨k1,k2⟩:=Nf hb;obtain⟨w1,w2⟩:=hcl _ hm (by simp) b hb;have i1:=ih _ q1 (by omega) (by unfold InM;rw[k1];exact w1);have i2:=ih _ q2 (by omega) (by unfold InM;rw[k2];exact w2);rw[e1] at i1;rw[e2] at i2;exact Uh (fun e=>hv _ hm b hb e.symm) i1 i2
theorem Uj {a b c:List Nat}(h1:ClM d a b)(h2:ClM d b c)(hs:∀ i∈b,i∈c):ClM d a c:=fun i hi hn b' hb'=>by
 by_cases m:i∈b
 . obtain⟨w1,w2⟩:=h1 i m hn b' hb';exact⟨w1.mono hs,w2.mono hs⟩
 . exact h2 i hi m b' hb'
theorem Ng (h:Ai d V):∀ (l met:List Nat),(∀ f∈l,okE (Aa d) f)->ClM d [] met->ClM d [] (l.foldl (fun met f=>A4 d d.vars.length met f) met)/\(∀ i∈met,i∈l.foldl (fun met f=>A4 d d.vars.length met f) met)/\(∀ f∈l,InM d (l.foldl (fun met f=>A4 d d.vars.length met f) met) f)/\∀ i∈l.foldl (fun met f=>A4 d d.vars.length met f) met,i∈met\/∃ f∈l,∀ v,Indep (ef V f) v->Indep (V i) v
 | [],met,_,hc=>⟨hc,fun i hi=>hi,fun f hf=>by simp at hf,fun i hi=>.inl hi⟩
 | f::r,met,hl,hc=>by
   have hf:=hl f (Xr ..);obtain⟨c1,c2⟩:=J0 h d.vars.length met f hf (by omega);obtain⟨r1,r2,r3,r4⟩:=Ng h r (A4 d d.vars.length met f) (fun g hg=>hl g (XB _ hg)) (Uj hc c2 (EE _ _ _));refine⟨r1,fun i hi=>r2 i (EE _ _ _ i hi),fun g hg=>?_,fun i hi=>?_⟩
   ·rcases XI.1 hg with rfl|hg
    . exact c1.mono r2
    . exact r3 g hg
   ·rcases r4 i hi with m|⟨g,hg,m⟩
    ·rcases J1 h _ _ f hf i m with m|m
     . exact .inl m
     . exact .inr ⟨f,Xr ..,m⟩
    . exact .inr ⟨g,XB _ hg,m⟩
structure G4 (n:Nat)(os:List Nat)(Fs:List BF)(cs:List (Nat×Nat)):Prop where
 sum:sumC cs=(nodesF n os Fs).length
 le:sumC cs<=2305843009213693952
 dep:∀ v,0<getC v cs↔∃ F∈Fs,AD n F v=true
abbrev Zw:=@Int.ofNat.inj
abbrev X9:=@Classical.byContradiction
theorem Uk (h:Ai d V)(l:List Nat)(hl:∀ f∈l,okE (Aa d) f)(hlt:∀ e,okE (Aa d) e->e<eMax):G4 d.vars.length d.vars (l.map (ef V)) (tally d (CW d l)):=by
 refine⟨?_,?_,fun v=>?_⟩
 . rw[Jy,Ug h l hl]
 . rw[Jy];exact(Na h l).len hlt
 ·obtain⟨r1,r2,r3,r4⟩:=Ng h l [] hl (fun i hi=>by simp at hi);rw[Ue,List.countP_pos_iff];constructor
  ·rintro⟨i,hi,hv⟩;rcases r4 i hi with m|⟨f,hf,m⟩
   . simp at m
   ·refine⟨ef V f,WW.2 ⟨f,hf,rfl⟩,(Fq (h.dep (hl f hf)) v).2 fun e=>?_⟩;have h1:=m v (ED.2 e);obtain⟨b,hb⟩:=(Na h l).node i hi;have g4:b.v=v:=by
     have:vrD d i=v:=by simpa using hv
     unfold vrD at this;rw[hb] at this;exact this
    have g0:Aa d (2*i/2)=some b:=by rw[show 2*i/2=i by omega];exact hb
    have h2:=(Nd (V:=V) (f:=2*i) (v:=v)).2 (by rw[show 2*i/2=i by omega];exact h1);have ht:=(M9 h g0).1;have g1:=h.dep (f:=2*i) (.inr ⟨b,g0⟩)
    by_cases hx:∃ u∈d.vars,AD d.vars.length (ef V (2*i)) u=true
    . obtain⟨q,_,g2,g3,_⟩:=Ua hx;rw[ht] at g2;rw[<- Zw g2,g4,Fq g1] at g3;exact g3 (ED.1 h2)
    ·have:=M6 (n:=d.vars.length) (F:=ef V (2*i)) (l:=d.vars) (fun u hu=>by
      cases e:AD d.vars.length (ef V (2*i)) u with
      | false=>rfl
      | true=>exact absurd ⟨u,hu,e⟩ hx)
     rw[ht] at this;omega
  ·rintro⟨F,hF,hh⟩;obtain⟨f,hf,rfl⟩:=WW.1 hF;refine X9 fun g5=>?_
   refine(Fq (h.dep (hl f hf)) v).1 hh (ED.1 (Ui h r1 (v:=v) (fun i hi b hb e=>g5 ⟨i,hi,by unfold vrD;rw[hb];simp[e]⟩) d.vars.length f (hl f hf) (by omega) (r3 f hf)))
end
def cntN:Nat->BF->(Nat->Bool)->Nat
 | 0,F,ρ=>if F ρ then 1 else 0
 | n+1,F,ρ=>cntN n F (upd ρ n false)+cntN n F (upd ρ n true)
theorem Ul (h:∀ ρ,F ρ=G ρ)(n:Nat)(ρ:Nat->Bool):cntN n F ρ=cntN n G ρ:=by rw[show F=G from funext h]
theorem Nh (n:Nat)(ρ:Nat->Bool):cntN n (fun _=>true) ρ=2^n:=by
 induction n generalizing ρ with
 | zero=>rfl
 | succ n ih=>show cntN n _ _+cntN n _ _=_;rw[ih,ih,X4];omega
theorem J2 (n:Nat)(F:BF)(ρ:Nat->Bool):cntN n (notF F) ρ+cntN n F ρ=2^n:=by
 induction n generalizing ρ with
 | zero=>show (if (!F ρ)=true then 1 else 0)+(if F ρ=true then 1 else 0)=1;cases F ρ<;>rfl
 | succ n ih =>
   have h1:=ih (upd ρ n false);have h2:=ih (upd ρ n true)
   show (cntN n (notF F) _+cntN n (notF F) _)+(cntN n F _+cntN n F _)=_
   rw[X4];omega
theorem Um (n:Nat)(F:BF)(ρ:Nat->Bool):cntN n F ρ<=2^n:=by
 have:=J2 n F ρ;omega
theorem Ni (ρ:Nat->Bool){u v:Nat}(h:u≠v)(a b:Bool):upd (upd ρ u a) v b=upd (upd ρ v b) u a:=funext fun x=>by
 unfold upd
 by_cases h1:x=u<;>by_cases h2:x=v<;>simp_all
theorem CF (F:BF)(v:Nat)(b:Bool):∀ (n:Nat) (ρ:Nat->Bool),n<=v->cntN n (cofF F v b) ρ=cntN n F (upd ρ v b)
 | 0,ρ,_=>rfl
 | n+1,ρ,h=>by
   show cntN n _ _+cntN n _ _=cntN n _ _+cntN n _ _
   rw[CF F v b n _ (by omega),CF F v b n _ (by omega),Ni ρ (by omega) false b,Ni ρ (by omega) true b]
theorem J3 (F:BF){v:Nat}:∀ (n:Nat) (ρ:Nat->Bool),v<n->cntN n (cofF F v false) ρ+cntN n (cofF F v true) ρ=2*cntN n F ρ
 | 0,_,h=>absurd h (by omega)
 | n+1,ρ,h=>by
   show (cntN n _ _+cntN n _ _)+(cntN n _ _+cntN n _ _)=2*(cntN n _ _+cntN n _ _)
   rcases Xe v n with c|c
   . have h1:=J3 F n (upd ρ n false) c;have h2:=J3 F n (upd ρ n true) c;omega
   ·obtain rfl:v=n:=by omega
    have e:∀ a b,upd (upd ρ v a) v b=upd ρ v b:=fun a b=>funext fun x=>by unfold upd;split<;>rfl
    rw[CF F v false v _ (WM _),CF F v false v _ (WM _),CF F v true v _ (WM _),CF F v true v _ (WM _),e,e,e,e];omega
def fixV (fx:Nat->Option Bool)(F:BF):BF:=fun ρ=>F fun v=>(fx v).getD (ρ v)
theorem Un (fx:Nat->Option Bool)(F:BF):fixV fx (notF F)=notF (fixV fx F):=rfl
theorem Uo {v:Nat}{b:Bool}(h:fx v=some b)(F:BF):fixV fx (cofF F v b)=fixV fx F:=funext fun ρ=>by
 show F _=F _
 congr 1;funext u
 by_cases e:u=v
 . subst e;simp[h]
 . simp[e]
theorem Nj {v:Nat}(h:fx v=none)(F:BF)(b:Bool):fixV fx (cofF F v b)=cofF (fixV fx F) v b:=funext fun ρ=>by
 show F _=F _
 congr 1;funext u
 by_cases e:u=v
 . subst e;simp[h]
 . simp[e]
def totN (n:Nat)(fx:Nat->Option Bool)(F:BF):Nat:=cntN n (fixV fx F) fun _=>false
theorem Nk (n:Nat)(fx:Nat->Option Bool):totN n fx (fun _=>true)=2^n:=Nh n _
theorem Up (n:Nat)(fx:Nat->Option Bool)(F:BF):totN n fx (notF F)=2^n-totN n fx F:=by
 have:=J2 n (fixV fx F) fun _=>false
 unfold totN;rw[Un];omega
theorem Nl (n:Nat)(fx:Nat->Option Bool)(F:BF):totN n fx F<=2^n:=Um _ _ _
theorem Nm {v:Nat}{b:Bool}(h:fx v=some b)(F:BF):totN n fx (cofF F v b)=totN n fx F:=by
 unfold totN;rw[Uo h]
theorem Nn {v:Nat}(h:fx v=none)(hv:v<n)(F:BF):(totN n fx (cofF F v false)+totN n fx (cofF F v true))/2=totN n fx F:=by
 unfold totN;rw[Nj h,Nj h,J3 _ _ _ hv];omega
theorem Dj:CN prog 3 (Value.int .i64):=Im underlying3
def mtL (met:List Nat):List (Int×Value):=met.map fun i:Nat=>((i:Int),(.bool true:Value))
theorem No (met:List Nat)(f:Nat):getL (mtL met) (f:Int)=if f∈met then some (.bool true) else none:=by
 by_cases h:f∈met
 ·rw[WR h];unfold getL;have:∀ (l:List Nat) (i:Nat),f∈l->(A8 (f:Int) (mtL l) i).map (·.2)=some (.bool true):=by
   intro l
   induction l with
   | nil=>intro i h;simp at h
   | cons x r ih =>
     intro i h
     show (if (x:Int)=(f:Int) then some (i,(.bool true:Value)) else A8 (f:Int) (mtL r) (i+1)).map (·.2)=_
     by_cases e:(x:Int)=(f:Int)
     . rw[WR e];rfl
     ·rw[WO e];refine ih _ ?_;rcases XI.1 h with h|h
      . exact absurd (by rw[h]) e
      . exact h
  exact this met 0 h
 ·rw[WO h];refine CO.2 fun p hp=>?_
  obtain⟨i,hi,rfl⟩:=WW.1 hp;intro e;have e2:i=f:=Zw e;rw[e2] at hi;exact h hi
theorem Np (h:Ar w b (Value.int .i64) (mtL met))(f:Nat) :
 (Instr.lookup 127 (.map (some b)) (.int .i64 (f:Nat)) false).run prog w=.ok (.bool (decide (f∈met))) w:=by
 have:=h.lookup Dj underlying127 zeroValue4 (f:Int) false;rw[No] at this
 by_cases c:f∈met
 . rw[WR c] at this;simpa [c] using this
 . rw[WO c] at this;simpa [c] using this
theorem Uq (h:Ar w b (Value.int .i64) (mtL met))(hf:f∉met) :
 ∃ w',(Instr.mapUpdate 127 (.map (some b)) (.int .i64 (f:Nat)) (.bool true)).run prog w=.ok () w'/\Ar w' b (Value.int .i64) (mtL (met++[f]))/\w.grownBy w' (some b):=by
 obtain⟨w',h1,h2,h3⟩:=h.update Dj underlying127 (f:Int) (.bool true);refine⟨w',h1,?_,h3⟩;have e:putL (f:Int) (.bool true) (mtL met)=mtL (met++[f]):=by
  have hg:=No met f;rw[WO hf] at hg;unfold getL at hg;unfold putL;cases hc:A8 (f:Int) (mtL met) 0 with
  | none=>simp[mtL]
  | some q=>rw[hc] at hg;simp at hg
 rw[<- e];exact h2
section
variable {R:List PanicEntry->Wd->Prop}
def Nx (_:List Nat)(P:Program)(l:List Oper)(Q:Exit->Act->Wd->Prop)(R:List PanicEntry->Wd->Prop)(S:Wd->Prop)(f:Nat)(L:Array Bool)(a:Act)(w:Wd):Prop:=Di P l Q R S l.length f L a w
theorem Dk (pl:List Nat)(S:Wd->Prop)(R:List PanicEntry->Wd->Prop)(hR:∀ c (a:Act) w,a.defers=[]->R c w->Q (.panic c) a w)(hm:P.follows .mixedOrders=true)(hS:S w.drew)
 (h:Nx pl P l Q R S l.length (Array.replicate l.toArray.size false) a w.drew):(Code.region id l.toArray true).wp P Q a w:=IL S R l.length hR hm hS h
theorem BM {o:Oper}(hi:l[i]?=some o)(hg:o.guard=none)
 (hB:(Region.noSelect l.toArray&&(Region.ready .any l.toArray L).contains i&&Region.free .any l.toArray L i)=true)
 (h:∃ v,(∀ w,S w->(execOp a.eval o).run P w=.ok (.value v) w)/\Nx pl P l Q R S f (L.setIfInBounds i true) (a.put o.dst v) w):Nx (i::pl) P l Q R S (f+1) L a w :=
 BT _ hi hg (by rw[hB];simp) h
theorem Fu {o:Oper}{g:FuncId}{R1:Value->Wd->Prop}(hi:l[i]?=some o)(hr:decide (Region.ready .any l.toArray L=[i])=true)
 (hg:Region.wanted o (yielded l.toArray a.tmps)=true) (hd:a.defers=[]) (he:(execOp a.eval o).run P w=.ok (.enter g args) w)
 (hc:Calls P g args w fun e w'=>(∃ v,e=.returned v/\S w'/\R1 v w')\/(∃ ch,e=.panicked ch/\R ch w'))
 (h:∀ v w',S w'->R1 v w'->Nx pl P l Q R S f (L.setIfInBounds i true) (a.put o.dst v) w'):Nx (i::pl) P l Q R S (f+1) L a w:=by
 refine CS [i] (by rw[Xq];exact⟨hr,rfl⟩) fun j g1 hS o2 g0=>?_
 rw[Xg] at g1;subst g1;rw[hi] at g0;cases g0;refine⟨hg,?_⟩;refine IN (R:=fun v w'=>S w'/\R1 v w') (R2:=R) he (hc.mono ?_) (fun v w' hh=>⟨hh.1,h v w' hh.1 hh.2⟩) (fun ch w' hh=>⟨hd,hh⟩);rintro e w' (⟨v,h1,h2⟩|hh)
 . exact .inl ⟨v,h1,h2⟩
 . exact .inr hh
theorem BG {o:Oper}{g:FuncId}{R1:Value->Wd->Prop}(hi:l[i]?=some o)(hr:decide (Region.ready .any l.toArray L=[i])=true)
 (hg:Region.wanted o (yielded l.toArray a.tmps)=true) (hd:a.defers=[]) (he:(execOp a.eval o).run P w=.ok (.enter g args) w)
 (hc:Calls P g args w fun e w'=>∃ v,e=.returned v/\R1 v w') (hS:∀ v w',R1 v w'->S w')
 (h:∀ v w',S w'->R1 v w'->Nx pl P l Q R S f (L.setIfInBounds i true) (a.put o.dst v) w'):Nx (i::pl) P l Q R S (f+1) L a w :=
 Fu hi hr hg hd he (hc.mono fun e w' ⟨v,h1,h2⟩=>.inl ⟨v,h1,hS v w' h2,h2⟩) h
theorem Ur {o:Oper}{s x:Operand}(hi:l[i]?=some o)(hr:decide (Region.ready .any l.toArray L=[i])=true)
 (hg:Region.wanted o (yielded l.toArray a.tmps)=true) (ho:o.op=.store t s x) (hs:(Instr.storeAt t (a.eval s) (a.eval x)).run P w=.ok () w') (hS:S w')
 (h:Nx pl P l Q R S f (L.setIfInBounds i true) (a.put o.dst undef) w'):Nx (i::pl) P l Q R S (f+1) L a w:=by
 refine CS [i] (by rw[Xq];exact⟨hr,rfl⟩) fun j g1 _ o2 g0=>?_
 rw[Xg] at g1;subst g1;rw[hi] at g0;cases g0;exact⟨hg,K7 ho hs ⟨hS,h⟩⟩
theorem Us {o:Oper}(hi:l[i]?=some o)(hr:decide (Region.ready .any l.toArray L=[i])=true)
 (hg:Region.wanted o (yielded l.toArray a.tmps)=true) (he:(execOp a.eval o).run P w=.ok (.value v) w') (hS:S w')
 (h:Nx pl P l Q R S f (L.setIfInBounds i true) (a.put o.dst v) w'):Nx (i::pl) P l Q R S (f+1) L a w:=by
 refine CS [i] (by rw[Xq];exact⟨hr,rfl⟩) fun j g1 _ o2 g0=>?_
 rw[Xg] at g1;subst g1;rw[hi] at g0;cases g0;exact⟨hg,CP he ⟨hS,h⟩⟩
theorem Dl (hr:(Region.ready .any l.toArray L).isEmpty=true)(h:Q .normal a w):Nx [] P l Q R S 0 L a w:=IM hr h
end
theorem Chg.none' {R:Role->Prop}{o o':Own}{w w':Wd}(h:Chg R o o' w w'){k:Nat}(hk:k<w.heap.size)(ho:o k=none):o' k=none:=(ChgX.of_chg h NoB).none' hk ho
section
variable {k1 k2:Nat}{o:Own}{T:Nat->Prop}
theorem AF.base {e:Ending}(h:AtC K k1 o w mb m V o' W m' V')(hk:k1+k2<=k)(hc:AF K k2 o' W mb m' V' A e w'):AF K k o w mb m V A e w':=by
 rcases hc with ⟨r,o2,m2,V2,rfl,q1,q2,q3⟩|⟨er,evt,ev,rfl,q⟩
 . exact .inl ⟨r,o2,m2,V2,rfl,(h.trans q1).mono hk,q2,q3⟩
 . exact .inr ⟨er,evt,ev,rfl,q.after h hk⟩
theorem AF.kind {e:Ending}(hc:AF K k o w mb m V A e w'):(∃ r:Nat,e=.returned (.int .i64 r))\/∃ er evt ev,e=Au er evt ev:=by
 rcases hc with ⟨r,_,_,_,rfl,_⟩|⟨er,evt,ev,rfl,_⟩
 . exact .inl ⟨r,rfl⟩
 . exact .inr ⟨er,evt,ev,rfl⟩
end
theorem Ut {R:List PanicEntry->Wd->Prop}{o:Oper}{m x y:Operand}(hi:l[i]?=some o)(hr:decide (Region.ready .any l.toArray L=[i])=true)
 (hg:Region.wanted o (yielded l.toArray a.tmps)=true) (ho:o.op=.mapUpdate t m x y) (hs:(Instr.mapUpdate t (a.eval m) (a.eval x) (a.eval y)).run P w=.ok () w') (hS:S w')
 (h:Nx pl P l Q R S f (L.setIfInBounds i true) (a.put o.dst undef) w'):Nx (i::pl) P l Q R S (f+1) L a w:=by
 refine CS [i] (by rw[Xq];exact⟨hr,rfl⟩) fun j g1 _ o2 g0=>?_
 rw[Xg] at g1;subst g1;rw[hi] at g0;cases g0;refine⟨hg,?_⟩;unfold Oper.wp;simp only[execOp,ho,XH,hs,Xs];exact⟨hS,h⟩
section
variable {F:Phi}{o:Own}
theorem A9.other (h:A9 F o W mb m)(hl:Ab o W)(hx:Wr C W W')(hC:∀ k,k<W.heap.size->C k->o k=none):A9 F o W' mb m:=by
 obtain⟨s,hm⟩:=h;exact⟨s,hm.keep (fun g r hg=>hx.keep g (hl g r hg) (fun e=>by have:=hC g (hl g r hg) e;rw[hg] at this;cases this)) (fun _ _ h=>h)⟩
end
def valD:List Nat->Nat
 | []=>0
 | d::r=>d+4294967296*valD r
def OkD (ds:List Nat):Prop:=∀ d∈ds,d<4294967296
def Trim (ds:List Nat):Prop:=∀ k,ds.length=k+1->ds.getD k 0≠0
def digD (x:Nat):List Nat:=if h:x=0 then [] else x%4294967296::digD (x/4294967296)
decreasing_by omega
theorem BH:digD 0=[]:=by unfold digD;simp
theorem CX (h:x≠0):digD x=x%4294967296::digD (x/4294967296):=by
 rw[digD];simp[h]
theorem Nq:∀ ds:List Nat,OkD ds->Trim ds->digD (valD ds)=ds
 | [],_,_=>BH
 | d::r,ho,ht=>by
   have hd:d<4294967296:=ho d (Xr ..);have hr:OkD r:=fun x hx=>ho x (XB _ hx)
   cases r with
   | nil =>
     have hd0:d≠0:=ht 0 rfl;have hv:valD [d]=d:=by simp[valD]
     rw[hv,CX hd0,show d/4294967296=0 by omega,BH,show d%4294967296=d by omega]
   | cons e q =>
     have g1:Trim (e::q):=fun k hk=>by
      have:=ht (k+1) (by simpa using hk);simpa using this
     have ih:=Nq (e::q) hr g1;have g2:valD (e::q)≠0:=fun h0=>by
      rw[h0,BH] at ih;cases ih
     have hv:valD (d::e::q)=d+4294967296*valD (e::q):=rfl;obtain⟨v,g0⟩:=Ex (valD (e::q));rw[hv,<- g0];rw[<- g0] at ih g2;rw[CX (by omega),show (d+4294967296*v)/4294967296=v by omega,show (d+4294967296*v)%4294967296=d by omega,ih]
theorem Cc (x:Nat):valD (digD x)=x:=by
 induction x using Nat.strongRecOn with
 | ind x ih =>
   by_cases h:x=0
   . subst h;rw[BH];rfl
   ·rw[CX h]
    show x%4294967296+4294967296*valD (digD (x/4294967296))=x
    rw[ih _ (by omega)];omega
theorem J4 (x:Nat):OkD (digD x):=by
 induction x using Nat.strongRecOn with
 | ind x ih =>
   by_cases h:x=0
   . subst h;rw[BH];intro d hd;cases hd
   ·rw[CX h];intro d hd;rcases XI.1 hd with rfl|hd
    . omega
    . exact ih _ (by omega) d hd
abbrev YL:=@Nat.mul_assoc
theorem Ei:∀ a b:List Nat,valD (a++b)=valD a+4294967296^a.length*valD b
 | [],b=>by simp[valD]
 | d::r,b=>by
   show d+4294967296*valD (r++b)=d+4294967296*valD r+_
   rw[Ei r b,Xm,X4,Nat.mul_add,Nat.mul_comm (4294967296^r.length) 4294967296,YL,Yx]
theorem G5:∀ b:List Nat,(∀ d∈b,d=0)->valD b=0
 | [],_=>rfl
 | d::r,h=>by
   show d+4294967296*valD r=0
   rw[G5 r fun x hx=>h x (XB _ hx),h d (Xr ..)]
theorem G6:∀ ds:List Nat,OkD ds->valD ds<4294967296^ds.length
 | [],_=>by simp[valD]
 | d::r,h=>by
   have h1:=G6 r fun x hx=>h x (XB _ hx)
   have h2:=h d (Xr ..)
   show d+4294967296*valD r<4294967296^(r.length+1)
   rw[X4,Nat.mul_comm]
   generalize 4294967296^r.length=p at *
   omega
theorem Uu (ho:OkD ds)(hk:k<=ds.length)(hz:∀ j,k<=j->j<ds.length->ds.getD j 0=0)(hn:k=0\/ds.getD (k-1) 0≠0):digD (valD ds)=ds.take k:=by
 have hv:valD ds=valD (ds.take k):=by
  have:=Ei (ds.take k) (ds.drop k);rw[Yj] at this;rw[this,G5 (ds.drop k) fun d hd=>?_]
  . simp
  ·obtain⟨i,hi,rfl⟩:=XX hd;have g1:k+i<ds.length:=by simp at hi;omega
   have:=hz (k+i) (by omega) g1;rw[List.getElem_drop];simpa [List.getD,WS g1] using this
 rw[hv];refine Nq _ (fun d hd=>ho d (List.mem_of_mem_take hd)) fun j hj=>?_
 have hl:(ds.take k).length=k:=by simp;omega
 rw[hl] at hj;rcases hn with rfl|hn
 . cases hj
 ·rw[show k-1=j by omega] at hn;have g0:j<ds.length:=by omega
  simp only[List.getD,WS g0] at hn;simp only[List.getD,Yz,WR (show j<k by omega),WS g0];exact hn
structure U32At (w:Wd)(a:Option Addr)(ds:List Nat):Prop where
 len:ds.length<=1000000
 ok:OkD ds
 cells:∀ k,k<ds.length->∃ b off,a=some ⟨b,off,none⟩/\w.cell? ⟨b,off+k,none⟩=some (.int .u32 (ds.getD k 0:Nat))
def NatV (w:Wd)(v:Value)(x:Nat):Prop:=∃ a c,v=.slice a (digD x).length c/\(digD x).length<=c/\c<=1000000/\U32At w a (digD x)
theorem U32At.below {a:Option Addr}(h:U32At w a ds)(hb:Bw w w'):U32At w' a ds :=
 ⟨h.len,h.ok,fun k hk=>by
  obtain⟨b,off,h1,h2⟩:=h.cells k hk;exact⟨b,off,h1,(Cq hb h2)⟩⟩
theorem NatV.below {w w':Wd}{v:Value}{x:Nat}(h:NatV w v x)(hb:Bw w w'):NatV w' v x:=by
 obtain⟨a,c,h1,h2,h3,h4⟩:=h;exact⟨a,c,h1,h2,h3,h4.below hb⟩
theorem U32At.take {w:Wd}{a:Option Addr}{ds:List Nat}(h:U32At w a ds)(k:Nat):U32At w a (ds.take k):=by
 refine⟨by have:=h.len;simp;omega,fun d hd=>h.ok d (List.mem_of_mem_take hd),fun j hj=>?_⟩;have g0:j<k/\j<ds.length:=by simpa [Nat.lt_min] using hj
 obtain⟨b,off,h1,h2⟩:=h.cells j g0.2;refine⟨b,off,h1,?_⟩;simp only[List.getD,Yz,WR g0.1];exact h2
theorem J5 {a:Option Addr}(h:U32At w a ds)(hc:ds.length<=c)(hc2:c<=1000000) :
 Calls prog 72 #[.slice a ds.length c] w fun x w'=>(∃ k:Nat,x=.returned (.slice a k k)/\NatV w (.slice a k k) (valD ds))/\w=w':=by
 have HH:=Hd h;have g3:=h.len;obtain⟨P,hP⟩:=Ex (fun x w'=>(∃ k:Nat,x=.returned (.slice a k k)/\NatV w (.slice a k k) (valD ds))/\w=w':Ending->Wd->Prop)
 have g0:Hq (∀ k:Nat,k<=ds.length->(∀ j,k<=j->j<ds.length->ds.getD j 0=0)->(k=0\/ds.getD (k-1) 0≠0)->P (.returned (.slice a k k)) w):=Hd fun k h1 h2 h3=>by
  rw[hP];have e:=Uu h.ok h1 h2 h3;have hl:(ds.take k).length=k:=by simp;omega
  refine⟨⟨k,rfl,a,k,?_,?_,by omega,?_⟩,rfl⟩
  . rw[e,hl]
  . rw[e,hl];exact WM _
  . rw[e];exact h.take k
 rw[<- hP];clear hP h
 go_enter func72,ntmps72
 go_wp2_with fail
 go_loopw [3] (fun s3 wr=>∃ k:Nat,k<=ds.length/\s3=.int .i64 k/\Hq (∀ j,k<=j->j<ds.length->ds.getD j 0=0)/\Hq (wr=w)) (fun s3 _=>(intOf s3).toNat)
 case atStart=>exact⟨ds.length,WM _,rfl,Hd (fun j h1 h2=>absurd h2 (by omega)),Hd rfl⟩
 case round =>
  obtain⟨k,hk,rfl,HZ,HW⟩:=hrel;have hw:=HW.o;subst hw;have g6:(k:Int)<=(c:Int):=by omega
  by_cases hp:0<k
  ·have g5:(0:Int)<(k:Int):=by omega
   obtain⟨b,off,rfl,ck⟩:=HH.o.cells (k-1) (by omega);have g1:(k:Int)-1=((k-1:Nat):Int):=by omega
   have g7:k-1<ds.length:=by omega
   have g4:((k-1:Nat):Int)<(ds.length:Int):=by omega
   by_cases hz:ds.getD (k-1) 0=0
   ·rw[hz] at ck;have g2:Hq (∀ j,k-1<=j->j<ds.length->ds.getD j 0=0):=Hd fun j h1 h2=>by
     rcases Xe j k with c1|c1
     . rw[show j=k-1 by omega];exact hz
     . exact HZ.o j c1 h2
    clear hz g0 HZ;go_wp2_with fail;go_roundw
    case rel=>exact⟨k-1,by omega,by first|rfl|rw[<- g1],g2,Hd trivial⟩
    case measure=>simp[intOf];omega
   ·obtain⟨d,hd⟩:=Ex (ds.getD (k-1) 0);rw[<- hd] at ck;have g9:¬ d=0:=by rw[hd];exact hz
    have g8:¬ (d:Int)=0:=by omega
    clear hd;have HF:=Hd (g0.o k hk HZ.o (.inr hz));clear hz g0 HZ;go_wp2_with fail;exact HF.o
  ·obtain rfl:k=0:=by omega
   have HF:=Hd (g0.o 0 hk HZ.o (.inl rfl));clear g0 HZ;go_wp2_with fail;exact HF.o
theorem Uv {a:Option Addr}(h:U32At w a ds)(hc:ds.length<=c)(hc2:c<=1000000) :
 Calls prog 72 #[.slice a ds.length c] w fun x w'=>(∃ v,x=.returned v/\NatV w v (valD ds))/\w=w' :=
 (J5 h hc hc2).mono fun _ _ ⟨⟨_,h1,h2⟩,h3⟩=>⟨⟨_,h1,h2⟩,h3⟩
theorem G7 (h:U32At w (some ⟨g,0,none⟩) ds)(hc:ds.length<=c)(hc2:c<=1000000) :
 Calls prog 72 #[.slice (some ⟨g,0,none⟩) ds.length c] w fun x w'=>(∃ v,x=.returned v/\NatV w v (valD ds)/\∀ q,v.ownBlock=some q->q=g)/\w=w' :=
 (J5 h hc hc2).mono fun _ _ ⟨⟨_,h1,h2⟩,h3⟩=>⟨⟨_,h1,h2,fun _ e=>(XL e).symm⟩,h3⟩
theorem J6 (hn:n<18446744073709551616) :
 Calls prog 21 #[.int .u64 n] w fun x w'=>(∃ v,x=.returned v/\NatV w' v n/\∀ q,v.ownBlock=some q->w.heap.size<=q)/\Bw w w':=by
 obtain⟨w1,g0⟩:=Ex (w.alloc (.cells #[.int .u32 ((n:Int)%4294967296),.int .u32 ((n:Int)/4294967296)] 131));have g1:w1.heap[w.heap.size]?=some (.cells #[.int .u32 ((n:Int)%4294967296),.int .u32 ((n:Int)/4294967296)] 131 (0,0)):=by rw[g0];exact WN _ _
 have g2:Bw w w1:=by rw[g0];exact Af _ _
 have hu:U32At w1 (some ⟨w.heap.size,0,none⟩) [n%4294967296,n/4294967296]:=by
  refine⟨by simp,fun d hd=>?_,fun k hk=>⟨_,_,rfl,?_⟩⟩
  . simp at hd;omega
  ·rw[WQ _ _ _ _ _ _ g1];have g3:k<2:=by simpa using hk
   rcases(show k=0\/k=1 by omega) with rfl|rfl
   ·show some (Value.int .u32 ((n:Int)%4294967296))=some (.int .u32 ((n%4294967296:Nat):Int))
    rw[show ((n%4294967296:Nat):Int)=(n:Int)%4294967296 by omega]
   ·show some (Value.int .u32 ((n:Int)/4294967296))=some (.int .u32 ((n/4294967296:Nat):Int))
    rw[show ((n/4294967296:Nat):Int)=(n:Int)/4294967296 by omega]
 have hT:=G7 (c:=2) hu (by simp) (by omega);have hv:valD [n%4294967296,n/4294967296]=n:=by
  show n%4294967296+4294967296*(n/4294967296+4294967296*0)=n
  omega
 rw[hv] at hT
 have HT:Hq (Calls prog 72 #[.slice (some ⟨w.heap.size,0,none⟩) 2 2] w1 fun x w'=>∃ v,x=.returned v/\(NatV w' v n/\∀ q,v.ownBlock=some q->w.heap.size<=q)/\Bw w w'):=Hd (hT.mono (by
  rintro x w' ⟨⟨v,rfl,h,hq⟩,rfl⟩;exact⟨v,rfl,⟨h,fun q e=>by rw[hq q e];exact WM _⟩,g2⟩))
 rw[g0] at HT;clear hT hu g2 g1 g0 hv
 go_enter func21,ntmps21
 go_wp2_with fail;refine HT.o.mono ?_;rintro x w' ⟨v,rfl,h1,h2⟩;have HF:=Hd (show (∃ v',Ending.returned v=.returned v'/\NatV w' v' n/\∀ q,v'.ownBlock=some q->w.heap.size<=q)/\Bw w w' from ⟨⟨v,rfl,h1⟩,h2⟩);clear h1 h2 HT;go_wp2_with fail;go_ret;exact HF.o
theorem Nr (hn:n<18446744073709551616) :
 Calls prog 21 #[.int .u64 n] w fun x w'=>(∃ v,x=.returned v/\NatV w' v n)/\Bw w w' :=
 (J6 hn).mono fun _ _ ⟨⟨v,h1,h2,_⟩,h3⟩=>⟨⟨v,h1,h2⟩,h3⟩
def cmpZ (x y:Nat):Int:=if x<y then -1 else if y<x then 1 else 0
theorem G8 (h:NatV w v x):Calls prog 72 #[v] w fun e w'=>(∃ v',e=.returned v'/\NatV w v' x)/\w=w':=by
 obtain⟨a,c,rfl,h1,h2,h3⟩:=h;have:=Uv h3 h1 h2
 rwa [Cc] at this
theorem Ns:∀ x n,n<(digD x).length->4294967296^n<=x:=by
 intro x
 induction x using Nat.strongRecOn with
 | ind x ih =>
   intro n hn
   by_cases h:x=0
   . subst h;rw[BH] at hn;cases hn
   ·rw[CX h] at hn;cases n with
    | zero=>simp;omega
    | succ n =>
      have:=ih (x/4294967296) (by omega) n (by simpa using hn);rw[X4]
      generalize 4294967296^n=p at *
      omega
theorem G9 (x:Nat):x<4294967296^(digD x).length:=by
 have:=G6 (digD x) (J4 x)
 rwa [Cc] at this
theorem J7 (h:(digD x).length<(digD y).length):x<y:=Xh (G9 x) (Ns y _ h)
theorem Fv (hi:i<ds.length):ds.drop i=ds.getD i 0::ds.drop (i+1):=by
 rw[X2 hi];simp[List.getD,WS hi]
theorem Nt (hi:i<ds.length):valD ds=valD (ds.take i)+4294967296^i*(ds.getD i 0+4294967296*valD (ds.drop (i+1))):=by
 have:=Ei (ds.take i) (ds.drop i);rw[Yj,Fv hi,Yk,YK (by omega)] at this;exact this
theorem Nu {a b:List Nat}(hoa:OkD a)(ha:i<a.length)(hb:i<b.length)(ht:a.drop (i+1)=b.drop (i+1))(hlt:a.getD i 0<b.getD i 0):valD a<valD b:=by
 rw[Nt ha,Nt hb,ht];have h1:=G6 (a.take i) fun d hd=>hoa d (List.mem_of_mem_take hd)
 rw[Yk,YK (by omega)] at h1;have h2:=Nat.mul_le_mul_left (4294967296^i) (show a.getD i 0+4294967296*valD (b.drop (i+1))+1<=b.getD i 0+4294967296*valD (b.drop (i+1)) by omega);rw[Nat.mul_add,Nat.mul_one] at h2;omega
theorem J8 {v1 v2:Value}(h1:NatV w v1 x)(h2:NatV w v2 y) :
 Calls prog 18 #[v1,v2] w (Bl (.int .i64 (cmpZ x y)) w):=by
 have gc:=Hd (G8 h1);have gb:=Hd (G8 h2);obtain⟨P,hP⟩:=Ex ((Bl (.int .i64 (cmpZ x y)) w):Ending->Wd->Prop)
 have g0:Hq (∀ w',x<y->Bw w w'->P (.returned (.int .i64 (-1))) w'):=Hd fun w' h hb=>by rw[hP];unfold cmpZ;rw[WR h];exact⟨rfl,hb⟩
 have g1:Hq (∀ w',y<x->Bw w w'->P (.returned (.int .i64 1)) w'):=Hd fun w' h hb=>by rw[hP];unfold cmpZ;rw[WO (by omega),WR h];exact⟨rfl,hb⟩
 have g6:Hq (∀ w',x=y->Bw w w'->P (.returned (.int .i64 0)) w'):=Hd fun w' h hb=>by rw[hP];unfold cmpZ;rw[WO (by omega),WO (by omega)];exact⟨rfl,hb⟩
 rw[<- hP];clear hP h1 h2
 go_enter func18,ntmps18
 go_wp2_with fail;refine gc.o.mono ?_;rintro e w' ⟨⟨v1',rfl,ge⟩,rfl⟩;obtain⟨a1,c1,rfl,k1,l1,u1⟩:=ge;clear gc;go_wp2_with fail;refine gb.o.mono ?_;rintro e w' ⟨⟨v2',rfl,gd⟩,rfl⟩;obtain⟨a2,c2,rfl,k2,l2,u2⟩:=gd;clear gb;have gg:=Hd u1;have gf:=Hd u2;have m1:=u1.len;have m2:=u2.len;have ga:=Hd (show Bw w w from Xd _ _);clear u1 u2;obtain⟨L1,g9⟩:∃ L,L=(digD x).length:=⟨_,rfl⟩;obtain⟨L2,g8⟩:∃ L,L=(digD y).length:=⟨_,rfl⟩;rw[<- g9] at k1 m1 ⊢;rw[<- g8] at k2 m2 ⊢;have g5:=Hd g9;have g4:=Hd g8;clear g9 g8;rcases YP L1 L2 with c|c|c
 ·have cz:(L1:Int)<(L2:Int):=by omega
  have cn:¬ (L1:Int)=(L2:Int):=by omega
  have HF:=Hd (g0.o w (J7 (by rw[<- g5.o,<- g4.o];exact c)) ga.o);clear g0 g1 g6;go_wp2_with fail;exact HF.o
 ·subst c;go_wp2_with fail
  go_loopw [5,27,37] (fun s5 _ _ wr=>∃ k:Nat,k<=L1/\s5=.int .i64 ((k:Int)-1)/\Hq (Bw w wr)/\Hq ((digD x).drop k=(digD y).drop k)) (fun s5 _ _ _=>(intOf s5+1).toNat)
  case atStart=>exact⟨L1,WM _,rfl,ga,Hd (by rw[List.drop_eq_nil_of_le (by rw[<- g5.o];exact WM _),List.drop_eq_nil_of_le (by rw[<- g4.o];exact WM _)])⟩
  case round =>
   obtain⟨k,hk,rfl,HB,HD⟩:=hrel;cases k with
   | zero =>
     have HF:=Hd (g6.o wr (by
      have:=HD.o;rw[List.drop_zero,List.drop_zero] at this;rw[<- Cc x,<- Cc y,this]) HB.o)
     clear g0 g1 g6 HD;go_wp2_with fail;exact HF.o
   | succ k =>
     have hi:k<L1:=by omega
     obtain⟨b1,o1,rfl,p1⟩:=gg.o.cells k (by rw[<- g5.o];exact hi);obtain⟨b2,o2,rfl,p2⟩:=gf.o.cells k (by rw[<- g4.o];exact hi);obtain⟨d1,g3⟩:∃ d,d=(digD x).getD k 0:=⟨_,rfl⟩;obtain⟨d2,g2⟩:∃ d,d=(digD y).getD k 0:=⟨_,rfl⟩;rw[<- g3] at p1;rw[<- g2] at p2;have q1:=Cq HB.o p1;have q2:=Cq HB.o p2;clear p1 p2;have g7:((k+1:Nat):Int)-1=(k:Int):=by omega
     have gi:(k:Int)<(L1:Int):=by omega
     have gj:(0:Int)<=(k:Int):=by omega
     rw[g7];rcases YP d1 d2 with e|e|e
     ·have ez:(d1:Int)<(d2:Int):=by omega
      have HF:=Hd (fun q=>g0.o (wr.drewN q) (by
       have:=Nu (J4 x) (by rw[<- g5.o];exact hi) (by rw[<- g4.o];exact hi) HD.o (by rw[<- g3,<- g2];exact e)
       rwa [Cc,Cc] at this) (HB.o.trans ((Ap wr q).mono HB.o.size)))
      clear g0 g1 g6 HD g7 g3 g2;go_wp2_with fail
      go_quiet (fail)
      go_wp2_with fail;exact HF.o _
     ·have ez:¬ (d1:Int)<(d2:Int):=by omega
      have ez2:¬ (d2:Int)<(d1:Int):=by omega
      have HB2:=Hd (fun q=>HB.o.trans ((Ap wr q).mono HB.o.size))
      have gh:Hq ((digD x).drop k=(digD y).drop k):=Hd (by
       rw[Fv (ds:=digD x) (by rw[<- g5.o];exact hi),Fv (ds:=digD y) (by rw[<- g4.o];exact hi),HD.o,<- g3,<- g2,e])
      clear g0 g1 g6 HD g7 g3 g2 e;go_wp2_with fail
      go_quiet (fail)
      go_wp2_with fail
      go_quiet (fail)
      go_wp2_with fail;go_roundw
      case rel=>exact⟨k,by omega,by rfl,Hd (HB2.o _),gh⟩
      case measure=>simp[intOf]
     ·have ez:¬ (d1:Int)<(d2:Int):=by omega
      have ez2:(d2:Int)<(d1:Int):=by omega
      have HF:=Hd (fun q r=>g1.o ((wr.drewN q).drewN r) (by
       have:=Nu (J4 y) (by rw[<- g4.o];exact hi) (by rw[<- g5.o];exact hi) HD.o.symm (by rw[<- g3,<- g2];exact e)
       rwa [Cc,Cc] at this) (HB.o.trans (((Ap wr q).trans (Ap (wr.drewN q) r)).mono HB.o.size)))
      clear g0 g1 g6 HD g7 g3 g2;go_wp2_with fail
      go_quiet (fail)
      go_wp2_with fail
      go_quiet (fail)
      go_wp2_with fail;exact HF.o _ _
 ·have cz:¬ (L1:Int)<(L2:Int):=by omega
  have cn:¬ (L1:Int)=(L2:Int):=by omega
  have HF:=Hd (g1.o w (J7 (by rw[<- g5.o,<- g4.o];exact c)) ga.o);clear g0 g1 g6;go_wp2_with fail;exact HF.o
section
variable {R:List PanicEntry->Wd->Prop}{m:Nat}
def DF (P:Program)(ops:Array Oper)(Q:Exit->Act->Wd->Prop)(S:Wd->Prop)(m:Nat):Nat->Array Bool->Act->Wd->Prop
 | 0,L,a,w=>Region.ready .any ops L=[]/\Q .normal a w
 | f+1,L,a,w=>(Region.ready .any ops L=[]->Q .normal a w) /\
   ∀ i∈Region.ready .any ops L,wpOp P ops Q i (fun a' w'=>((L.setIfInBounds i true).getD m false=true\/S w')/\DF P ops Q S m f (L.setIfInBounds i true) a' w') a w
theorem Nv {m:Nat}:∀ (f:Nat) (L:Array Bool) (a:Act) (w:Wd),DF P ops Q S m f L a w->wpAny P .any ops Q f L a w
 | 0,_,_,_,h=>h
 | f+1,_,_,_,h=>⟨h.1,fun i hi=>wpOp_mono (fun a' w' h'=>Nv f _ a' w' h'.2) (h.2 i hi)⟩
theorem Fw (h:i≠j):(L.setIfInBounds i true).getD j false=L.getD j false:=getD_set_ne false h
theorem Uw {m:Nat}{oi:Oper}(hi:ops[i]?=some oi)(hs:Region.noSelect ops=true)(hQ:∀ c (a:Act) d v w,Q (.panic c) (a.put d v) w->Q (.panic c) a w)
 (hm:reaches ops ops.size i m=true) :
 ∀ (f:Nat) (L:Array Bool) (a:Act) (w:Wd),Closed ops L ->
  (∀ j oj,ops[j]?=some oj->j≠i->L.getD j true=false->(∀ e∈oj.after,Region.binds .any e=true->e.on≠i)->oi.apart ops oj=true) ->
  i∈Region.ready .any ops L->YieldsIf P ops S oi v a->S w ->
  DF P ops Q S m f (L.setIfInBounds i true) (a.put oi.dst v) w->DF P ops Q S m (f+1) L a w:=by
 intro f
 induction f with
 | zero =>
   intro L a w _ _ hr hy hS H;refine⟨fun h=>(by rw[h] at hr;cases hr),fun j hj=>?_⟩
   by_cases g0:j=i
   . subst g0;exact hy.wpOp hi hS ⟨.inr hS,H⟩
   . have:=Za hj g0;rw[H.1] at this;cases this
 | succ f ih =>
   intro L a w hc g2 hr hy hS H;refine⟨fun h=>(by rw[h] at hr;cases hr),fun j hj=>?_⟩
   by_cases g0:j=i
   . subst g0;exact hy.wpOp hi hS ⟨.inr hS,H⟩
   ·have h1:=H.2 j (Za hj g0);obtain⟨g4,oj,g3,gb⟩:=Zd.1 hj;have g1:=GY (Zd.1 hr).1;have g9:∀ e∈oj.after,Region.binds .any e=true->e.on≠i:=fun e he hb gg=>by
     have h1:=gb e he hb;rw[gg,g1] at h1;cases h1
    have ge:j≠m:=by
     rintro rfl;have:=EP hc _ _ (.inl hj) hm;rw[g1] at this;cases this
    have gf:i≠m:=by
     rintro rfl;have:=EP hc _ _ (.inl hr) hm;rw[g1] at this;cases this
    have ga:¬ L.getD m false=true:=fun e=>by
     have:=EP hc _ _ (.inr e) hm;rw[g1] at this;cases this
    have h2:=wpOp_putIf g3 (g2 j oj g3 g0 g4 g9) (fun cs b=>Y4 hs i oi cs b hi) (fun cs b=>Y4 hs j oj cs b g3) (fun c a w=>hQ c a _ _ w) hy h1;have g5:∀ k ok,ops[k]?=some ok->k≠i->(L.setIfInBounds j true).getD k true=false ->
     (∀ e∈ok.after,Region.binds .any e=true->e.on≠i)->oi.apart ops ok=true:=fun k ok hk gd g6 gc=>by
     refine g2 k ok hk gd ?_ gc
     by_cases g7:j=k
     . subst g7;exact g4
     . rw[getD_set_ne true g7] at g6;exact g6
    refine wpOp_mono (fun a' w' h3=>?_) h2;have g8:S w':=h3.2.1.resolve_left (by rw[Fw ge,Fw gf];exact ga);refine⟨.inr g8,ih (L.setIfInBounds j true) a' w' (hc.set hj) g5 (Za hr (X1 g0)) h3.1 g8 ?_⟩;rw[YA _ _ g0];exact h3.2.2
theorem Ux {m:Nat}{oi:Oper}(hi:ops[i]?=some oi)(hs:Region.noSelect ops=true)(hQ:∀ c (a:Act) d v w,Q (.panic c) (a.put d v) w->Q (.panic c) a w)
 (him:i≠m) :
 ∀ (f:Nat) (L:Array Bool) (a:Act) (w:Wd),Closed ops L ->
  (∀ j oj,ops[j]?=some oj->j≠i->L.getD j true=false->(∀ e∈oj.after,Region.binds .any e=true->e.on≠i)->oi.apart ops oj=true) ->
  i∈Region.ready .any ops L->YieldsIf P ops (fun _=>True) oi v a->(L.getD m false=true\/S w) ->
  DF P ops Q S m f (L.setIfInBounds i true) (a.put oi.dst v) w->DF P ops Q S m (f+1) L a w:=by
 intro f
 induction f with
 | zero =>
   intro L a w _ _ hr hy hS H;refine⟨fun h=>(by rw[h] at hr;cases hr),fun j hj=>?_⟩
   by_cases g0:j=i
   . subst g0;exact hy.wpOp hi trivial ⟨by rw[Fw him];exact hS,H⟩
   . have:=Za hj g0;rw[H.1] at this;cases this
 | succ f ih =>
   intro L a w hc g1 hr hy hS H;refine⟨fun h=>(by rw[h] at hr;cases hr),fun j hj=>?_⟩
   by_cases g0:j=i
   . subst g0;exact hy.wpOp hi trivial ⟨by rw[Fw him];exact hS,H⟩
   ·have h1:=H.2 j (Za hj g0);obtain⟨g3,oj,g2,ga⟩:=Zd.1 hj;have g9:=GY (Zd.1 hr).1;have g8:∀ e∈oj.after,Region.binds .any e=true->e.on≠i:=fun e he hb gd=>by
     have h1:=ga e he hb;rw[gd,g9] at h1;cases h1
    have h2:=wpOp_putIf g2 (g1 j oj g2 g0 g3 g8) (fun cs b=>Y4 hs i oi cs b hi) (fun cs b=>Y4 hs j oj cs b g2) (fun c a w=>hQ c a _ _ w) hy h1;have g4:∀ k ok,ops[k]?=some ok->k≠i->(L.setIfInBounds j true).getD k true=false ->
     (∀ e∈ok.after,Region.binds .any e=true->e.on≠i)->oi.apart ops ok=true:=fun k ok hk gc g5 gb=>by
     refine g1 k ok hk gc ?_ gb
     by_cases g6:j=k
     . subst g6;exact g3
     . rw[getD_set_ne true g6] at g5;exact g5
    refine wpOp_mono (fun a' w' h3=>?_) h2;have g7:(L.setIfInBounds j true).getD m false=true\/S w':=by
     have h4:=h3.2.1;rw[YA _ _ (X1 g0),Fw him] at h4;exact h4
    refine⟨g7,ih (L.setIfInBounds j true) a' w' (hc.set hj) g4 (Za hr (X1 g0)) h3.1 g7 ?_⟩;rw[YA _ _ g0];exact h3.2.2
structure EG (P:Program)(l:List Oper)(Q:Exit->Act->Wd->Prop)(R:List PanicEntry->Wd->Prop)(S:Wd->Prop)(m f:Nat)(L:Array Bool)(a:Act)(w:Wd):Prop where
 goes:Closed l.toArray L->S w->DF P l.toArray (PP R Q) S m f L a w
structure DG (P:Program)(l:List Oper)(Q:Exit->Act->Wd->Prop)(R:List PanicEntry->Wd->Prop)(S:Wd->Prop)(m f:Nat)(L:Array Bool)(a:Act)(w:Wd):Prop where
 goes:DF P l.toArray (PP R Q) S m f L a w
theorem Nw (S:Wd->Prop)(R:List PanicEntry->Wd->Prop)(m:Nat)(hR:∀ c (a:Act) w,a.defers=[]->R c w->Q (.panic c) a w)(hm:P.follows .mixedOrders=true)(hS:S w.drew)
 (h:EG P l Q R S m l.length (Array.replicate l.toArray.size false) a w.drew):(Code.region id l.toArray true).wp P Q a w :=
 Lk hR (wp_region_any hm (Nv _ _ _ _ (h.goes (FG _) hS)))
theorem AN (i:Nat){o:Oper}(hi:l[i]?=some o)(hg:o.guard=none)
 (hB:(Region.noSelect l.toArray&&(Region.ready .any l.toArray L).contains i&&Region.free .any l.toArray L i&&reaches l.toArray l.toArray.size i m)=true)
 (h:∃ v,(∀ w,S w->(execOp a.eval o).run P w=.ok (.value v) w)/\EG P l Q R S m f (L.setIfInBounds i true) (a.put o.dst v) w):EG P l Q R S m (f+1) L a w:=by
 obtain⟨v,h1,h2⟩:=h;refine⟨fun hc hS=>?_⟩;simp only[Xq] at hB;obtain⟨⟨⟨hs,hr⟩,hf⟩,hm⟩:=hB;have g1:l.toArray[i]?=some o:=by simpa using hi
 have g0:i∈Region.ready .any l.toArray L:=by simpa using hr
 exact Uw g1 hs IK hm f L a w hc (Zs g1 hf) g0 (.inl ⟨by simp[Region.wanted,hg],h1⟩) hS (h2.goes (hc.set g0) hS)
theorem Ny (i:Nat){o:Oper}(hi:l[i]?=some o)(hg:o.guard=none)
 (hB:(Region.noSelect l.toArray&&(Region.ready .any l.toArray L).contains i&&Region.free .any l.toArray L i&&decide (i≠m))=true)
 (h:∃ v,(∀ w,(execOp a.eval o).run P w=.ok (.value v) w)/\EG P l Q R S m f (L.setIfInBounds i true) (a.put o.dst v) w):EG P l Q R S m (f+1) L a w:=by
 obtain⟨v,h1,h2⟩:=h;refine⟨fun hc hS=>?_⟩;simp only[Xq] at hB;obtain⟨⟨⟨hs,hr⟩,hf⟩,hm⟩:=hB;have g1:l.toArray[i]?=some o:=by simpa using hi
 have g0:i∈Region.ready .any l.toArray L:=by simpa using hr
 exact Ux g1 hs IK (YR hm) f L a w hc (Zs g1 hf) g0 (.inl ⟨by simp[Region.wanted,hg],fun w _=>h1 w⟩) (.inr hS) (h2.goes (hc.set g0) hS)
theorem Nz (i:Nat){o:Oper}(hi:l[i]?=some o)(hr:(decide (Region.ready .any l.toArray L=[i])&&(L.setIfInBounds i true).getD m false)=true)
 (hw:Region.wanted o (yielded l.toArray a.tmps)=true) (h:o.wp P a w (fun a' w'=>DG P l Q R S m f (L.setIfInBounds i true) a' w') (PP R Q)):DG P l Q R S m (f+1) L a w:=by
 rw[Xq] at hr;have g0:=YR hr.1;refine⟨⟨fun h0=>(by rw[h0] at g0;cases g0),fun j hj=>?_⟩⟩;have g1:j=i:=by rw[g0] at hj;simpa using hj
 subst g1;have g2:l.toArray[j]?=some o:=by simpa using hi
 unfold wpOp;rw[g2];simp only[hw,XP];left;refine Oper.wp_mono ?_ h;intro a' w' h2;exact⟨.inl hr.2,h2.goes⟩
theorem N4 (h:DG P l Q R S m f L a w):EG P l Q R S m f L a w:=⟨fun _ _=>h.goes⟩
theorem N5 (hr:(Region.ready .any l.toArray L).isEmpty=true)(h:Q .normal a w):DG P l Q R S m 0 L a w :=
 ⟨⟨by simpa [YX] using hr,h⟩⟩
theorem N6 (i:Nat){o:Oper}{s x:Operand}(hi:l[i]?=some o)(hr:(decide (Region.ready .any l.toArray L=[i])&&(L.setIfInBounds i true).getD m false)=true)
 (hw:Region.wanted o (yielded l.toArray a.tmps)=true) (ho:o.op=.store t s x) (hs:(Instr.storeAt t (a.eval s) (a.eval x)).run P w=.ok () w')
 (h:DG P l Q R S m f (L.setIfInBounds i true) (a.put o.dst undef) w'):DG P l Q R S m (f+1) L a w:=by
 refine Nz i hi hr hw ?_;unfold Oper.wp;simp only[execOp,ho,XH,hs,Xs];exact h
theorem N7 (i:Nat){o:Oper}(hi:l[i]?=some o)(hr:(decide (Region.ready .any l.toArray L=[i])&&(L.setIfInBounds i true).getD m false)=true)
 (hw:Region.wanted o (yielded l.toArray a.tmps)=true) (he:(execOp a.eval o).run P w=.ok (.value v) w')
 (h:DG P l Q R S m f (L.setIfInBounds i true) (a.put o.dst v) w'):DG P l Q R S m (f+1) L a w:=by
 refine Nz i hi hr hw ?_;unfold Oper.wp;simp only[he];exact h
end
theorem GA:Ec 131 40 (.int .u32 0) 4:=⟨underlying40,by kernel_rfl,rfl,by omega⟩
def u32V (ds:List Nat):List Value:=ds.map fun d:Nat=>(.int .u32 (d:Int):Value)
theorem BV (ds:List Nat):(u32V ds).length=ds.length:=by simp[u32V]
theorem N8 (hk:k<ds.length):(u32V ds)[k]?=some (.int .u32 (ds.getD k 0:Nat)):=by
 simp[u32V,WS hk,List.getD]
theorem Uy (ds:List Nat)(k d:Nat):(u32V ds).set k (.int .u32 (d:Nat))=u32V (ds.set k d):=by simp[u32V,Yv]
def RowU (w:Wd)(g:Nat)(ds:List Nat):Prop:=w.heap[g]?=some (.cells (u32V ds).toArray 131 (0,0))
theorem RowU.cell {w:Wd}{g k:Nat}{ds:List Nat}(h:RowU w g ds)(hk:k<ds.length):w.cell? ⟨g,k,none⟩=some (.int .u32 (ds.getD k 0:Nat)):=by
 unfold RowU at h;rw[WQ _ _ k _ _ _ h];simpa using N8 hk
theorem RowU.at (h:RowU w g ds)(ho:OkD ds)(hl:ds.length<=1000000):U32At w (some ⟨g,0,none⟩) ds :=
 ⟨hl,ho,fun k hk=>⟨g,0,rfl,by rw[Xw];exact h.cell hk⟩⟩
theorem RowU.set {w:Wd}{g k d:Nat}{ds:List Nat}(h:RowU w g ds):RowU (w.setCell ⟨g,k,none⟩ (.int .u32 (d:Nat))) g (ds.set k d):=by
 unfold RowU at h ⊢;have g0:g<w.heap.size:=(WL.1 h).1
 show (w.heap.modify g _)[g]?=_
 rw[Y1,WR rfl,h,<- Uy];simp
theorem RowU.drewN {w:Wd}{g:Nat}{ds:List Nat}(h:RowU w g ds)(q:Nat):RowU (w.drewN q) g ds:=h
theorem GB {base:Nat}(h:OwnC T w base (.slice (some ⟨g,0,none⟩) n n) xs)(hn:xs.length=n):w.heap[g]?=some (.cells xs.toArray T (0,0)):=by
 obtain⟨h1,⟨h2,_⟩|⟨g',cap,cur,e,h3,h4,h5,h6,h7,h8⟩⟩:=h
 . cases h2
 ·cases e;rw[h4];have:cur.toList=xs:=by
   rw[<- h8,hn];exact(Xn (by simp[h7])).symm
  rw[<- this]
theorem N9 {α:Type}{cur cs:List α}(h:cs.length=cur.length):splice cur 0 cs=cs:=by
 unfold splice;rw[Zi,XK,Xw,h,List.drop_length,Yd]
theorem EH (a b:Nat)(ha:a<4294967296)(hb:b<4294967296):(BitVec.ofInt 32 (a:Int)).toNat=a/\(BitVec.ofInt 32 (b:Int)).toNat=b:=by
 constructor<;>(rw[BitVec.ofInt_natCast,BitVec.toNat_ofNat];exact Nat.mod_eq_of_lt (by omega))
abbrev Yy:=@IntKind.wrap_u32
theorem Uz (a:Nat)(ha:a<4294967296):bits .and .u32 (a:Int) 1=((a%2:Nat):Int):=by
 obtain⟨h1,h2⟩:=EH a 1 ha (by omega)
 show IntKind.u32.wrap ((BitVec.ofInt 32 (a:Int) &&& BitVec.ofInt 32 ((1:Nat):Int)).toNat:Int)=_
 rw[BitVec.toNat_and,h1,h2,Nat.and_one_is_mod,Yy];omega
theorem U0 (a c:Nat)(ha:a<2147483648)(hc:c<=1):bits .or .u32 (a:Int) (IntKind.u32.wrap ((c:Int)*2147483648))=((a+c*2147483648:Nat):Int):=by
 have e:IntKind.u32.wrap ((c:Int)*2147483648)=((c*2147483648:Nat):Int):=by rw[Yy];omega
 rw[e];obtain⟨h1,h2⟩:=EH a (c*2147483648) (by omega) (by omega)
 show IntKind.u32.wrap ((BitVec.ofInt 32 (a:Int) ||| BitVec.ofInt 32 ((c*2147483648:Nat):Int)).toNat:Int)=_
 rw[BitVec.toNat_or,h1,h2,Nat.or_comm,show c*2147483648=2^31*c by omega,<- Nat.two_pow_add_eq_or_of_lt (by omega) c,Yy];omega
theorem GC:(prog.info? 131).map (·.size)=some 1:=by kernel_rfl
theorem GD (ds:List Nat):∀ v∈u32V ds,v.oneCell'=true:=fun v hv=>by
 obtain⟨d,_,rfl⟩:=WW.1 hv;rfl
theorem U32At.src {a:Option Addr}(h:U32At w a ds)(hp:0<ds.length):∃ ad,a=some ad/\∀ j v,(u32V ds)[j]?=some v->w.cell? (ad.add j)=some v:=by
 obtain⟨b,off,rfl,_⟩:=h.cells 0 hp;refine⟨_,rfl,fun j v hv=>?_⟩;have hj:j<ds.length:=by
  have:=(Xk.1 hv).1
  rwa [BV] at this
 rw[N8 hj] at hv;obtain⟨b',off',e,hc⟩:=h.cells j hj;cases e;rw[<- XL hv];unfold Addr.add;split
 ·rename_i e0
  subst e0;simpa using hc
 . exact hc
structure CG (ds:List Nat)(k c:Nat)(rs:List Nat):Prop where
 len:rs.length=ds.length
 low:∀ j,j<k->rs.getD j 0=ds.getD j 0
 ok:OkD rs
 c1:c<=1
 val:valD (ds.drop k)=2*valD (rs.drop k)+c
theorem DH (l:List Nat)(i j d:Nat):(l.set i d).getD j 0=if i=j/\j<l.length then d else l.getD j 0:=by
 simp only[List.getD,Xv]
 by_cases h:i=j
 ·subst h
  by_cases h2:i<l.length
  . simp[h2]
  . simp[h2]
 . simp[h]
theorem CG.start (ho:OkD ds):CG ds ds.length 0 ds:=⟨rfl,fun _ _=>rfl,ho,by omega,by simp[valD]⟩
theorem CG.next (h:CG ds (k+1) c rs)(ho:OkD ds)(hk:k<ds.length):CG ds k (ds.getD k 0%2) (rs.set k (ds.getD k 0/2+c*2147483648)):=by
 have hd:ds.getD k 0<4294967296:=by
  simp only[List.getD,WS hk];exact ho _ (Xp hk)
 have hc:=h.c1;refine⟨by simp[h.len],fun j hj=>?_,fun d g0=>?_,by omega,?_⟩
 . rw[DH,WO (by omega)];exact h.low j (by omega)
 ·rcases Yq g0 with e|e
  . exact h.ok d e
  . subst e;omega
 ·have hl:(rs.set k (ds.getD k 0/2+c*2147483648)).length=ds.length:=by simp[h.len]
  rw[Fv hk,Fv (ds:=rs.set k _) (by rw[hl];exact hk),DH,WR ⟨rfl,by rw[h.len];exact hk⟩];have e2:(rs.set k (ds.getD k 0/2+c*2147483648)).drop (k+1)=rs.drop (k+1):=by
   rw[List.drop_set];simp
  rw[e2]
  show ds.getD k 0+4294967296*valD (ds.drop (k+1))=2*(ds.getD k 0/2+c*2147483648+4294967296*valD (rs.drop (k+1)))+ds.getD k 0%2
  have hv:=h.val
  generalize ds.getD k 0=d at *
  generalize valD (ds.drop (k+1))=A at *
  generalize valD (rs.drop (k+1))=B at *
  omega
theorem CG.done (h:CG (digD x) 0 c rs):valD rs=x/2/\c=x%2:=by
 have:=h.val;rw[List.drop_zero,List.drop_zero,Cc] at this;have:=h.c1;omega
theorem NA (h:NatV w v x) :
 Calls prog 78 #[v] w fun e w'=>(∃ v',e=.returned (.tuple #[v',.bool (decide (x%2=1))])/\NatV w' v' (x/2)/\∀ q,v'.ownBlock=some q->w.heap.size<=q)/\Bw w w':=by
 obtain⟨a,c,rfl,h1,h2,h3⟩:=h;obtain⟨ds,g6⟩:=Ex (digD x);rw[<- g6] at h1 h3 ⊢;have HU:=Hd h3;have g1:=h3.len;obtain⟨P,hP⟩:=Ex (fun e w'=>(∃ v',e=.returned (.tuple #[v',.bool (decide (x%2=1))])/\NatV w' v' (x/2)/\∀ q,v'.ownBlock=some q->w.heap.size<=q)/\Bw w w':Ending->Wd->Prop)
 have g0:=Hd g6;have gx:=Hd hP;rw[<- hP];obtain⟨L,hL⟩:=Ex ds.length;rw[<- hL] at h1 g1 ⊢;have HL:=Hd hL;clear g6 h3 hL hP
 go_enter func78,ntmps78
 go_upto_region 2 with (at_make;refine DB GA rfl _ _ rfl w.heap.size w _ L rfl rfl rfl (by omega) (WM _) (Xd _ _) ?_;intro g w1 g3 g8 hs1 gr g5 gs;clear gs)
 have g2:=GB g3 (by simp);have gm:=Hd (HU.o.below (g8.mono (WM _)))
 have gn:Hq (RowU w1 g (List.replicate L 0)):=Hd (by
  unfold RowU;rw[g2];simp[u32V])
 clear g2 g3 gr;have gl:L=(u32V ds).length:=by rw[BV];exact HL.o
 have gc:=Hd gl;clear gl;go_wp2_with (refine Zc rfl _ _ 40 40 rfl 131 underlying40 GC (some ⟨g,0,none⟩) a L L L c rfl rfl g 0 (u32V (List.replicate L 0)) 131 gn.o (u32V ds) (by rw[<- gc.o];exact(Nat.min_self L).symm) (fun hp=>⟨rfl,gm.o.src (by rw[BV] at hp;exact hp)⟩) (by rw[<- gc.o,BV];simp) (GD ds) w.heap.size w g8 g5 ?_;intro w2 gh gk)
 have gw:Hq (RowU w2 g ds):=Hd (by
  have:_=_:=gh;rw[N9 (by rw[<- gc.o,BV];simp)] at this;exact this)
 have HB2:=Hd gk;clear gh gk gn gm g8 hs1;have gv:Hq (CG ds L 0 ds):=Hd (by rw[HL.o];exact CG.start HU.o.ok)
 go_loopw [5,6] (fun s5 s6 wr=>∃ (k cc:Nat) (rs:List Nat),k<=L/\s6=.int .i64 ((k:Int)-1)/\s5=.int .u32 (cc:Nat)/\Hq (CG ds k cc rs)/\Hq (RowU wr g rs)/\Hq (Bw w wr)) (fun _ s6 _=>(intOf s6+1).toNat)
 case atStart=>exact⟨L,0,ds,WM _,rfl,rfl,gv,gw,HB2⟩
 case round =>
  obtain⟨k,cc,rs,hk,rfl,rfl,HS,HR,HB⟩:=hrel;cases k with
  | zero =>
    rw[g0.o] at HS;have g7:=HS.o.done;have hT:=G7 (c:=L) (HR.o.at HS.o.ok (by rw[HS.o.len,<- g0.o,<- HL.o];exact g1)) (by rw[HS.o.len,<- g0.o,<- HL.o];exact WM _) g1;rw[g7.1,HS.o.len,<- g0.o,<- HL.o] at hT;have gj:decide ((cc:Int)=1)=decide (x%2=1):=by
     rw[<- g7.2];exact decide_eq_decide.2 (by omega)
    have HT:=Hd hT;have go:=Hd gj;have HF:Hq (∀ v',NatV wr v' (x/2)->(∀ q,v'.ownBlock=some q->q=g)->P (.returned (.tuple #[v',.bool (decide (x%2=1))])) wr):=Hd fun v' hv hq=>by rw[gx.o];exact⟨⟨v',rfl,hv,fun q e=>by rw[hq q e];exact g5⟩,HB.o⟩
    clear hT gj g7 HS HR HB g0;go_wp2_with fail;refine HT.o.mono ?_;rintro e w' ⟨⟨v',rfl,hv,hq⟩,rfl⟩;have HV:=Hd (HF.o v' hv hq);rw[<- go.o] at HV;clear hv hq HT HF go;go_wp2_with fail;exact HV.o
  | succ k =>
    have hi:k<L:=by omega
    have gq:((k+1:Nat):Int)-1=(k:Int):=by omega
    have gy:(k:Int)<(L:Int):=by omega
    have gz:(0:Int)<=(k:Int):=by omega
    obtain⟨d,hd⟩:=Ex (ds.getD k 0);have gg:=HS.o.len;have ck:=HR.o.cell (k:=k) (by rw[gg,<- HL.o];exact hi);rw[HS.o.low k (by omega),<- hd] at ck;have fk:wr.frozen? ⟨g,k,none⟩=false:=by have:=HR.o;unfold RowU at this;simp[World.frozen?,this]
    have HD:=Hd hd;have gt:d<4294967296:=by
     rw[hd];have gi:k<ds.length:=by rw[<- HL.o];exact hi
     simp only[List.getD,WS gi];exact HU.o.ok _ (Xp gi)
    have gu:=HS.o.c1;have HN:=Hd (HS.o.next HU.o.ok (by rw[<- HL.o];exact hi));rw[<- hd] at HN;rw[gq];clear hd gg;go_upto_region 7 with fail;have ckz:wr.drew.cell? ⟨g,k,none⟩=some (.int .u32 (d:Nat)):=ck;have fkz:wr.drew.frozen? ⟨g,k,none⟩=false:=fk;have ga:Hq (RowU wr.drew g rs):=Hd (HR.o.drewN 1);have gd:Hq (Bw w wr.drew):=Hd (HB.o.trans ((Ap wr 1).mono HB.o.size));have eor:=U0 (d/2) cc (by omega) gu;have eand:=Uz d gt;have ehalf:((d/2:Nat):Int)=(d:Int)/2:=by omega
    rw[ehalf] at eor;obtain⟨wz,g4⟩:=Ex wr.drew;rw[<- g4] at ckz fkz ga gd;have g9:=Hd g4;clear g4 ck fk;refine Nw (fun W'=>W'.cell? ⟨g,k,none⟩=some (.int .u32 (d:Nat))) (fun ch w'=>False) 16 (fun c a w hd h=>h.elim) (by kernel_rfl) (by rw[<- g9.o];exact ckz) ?_;rw[<- g9.o];refine AN 0 rfl rfl (by kernel_rfl) ?_;apply Exists.intro;refine⟨fun w' hw=>?_,?_⟩
    . go_simp;rfl
    simp only[Ac];refine AN 1 rfl rfl (by kernel_rfl) ?_;apply Exists.intro;refine⟨fun w' hw=>?_,?_⟩
    . go_simp;rfl
    simp only[Ac];refine AN 2 rfl rfl (by kernel_rfl) ?_;apply Exists.intro;refine⟨fun w' hw=>?_,?_⟩
    . go_simp;rfl
    simp only[Ac];refine AN 3 rfl rfl (by kernel_rfl) ?_;apply Exists.intro;refine⟨fun w' hw=>?_,?_⟩
    . go_simp;rfl
    simp only[Ac];refine AN 4 rfl rfl (by kernel_rfl) ?_;apply Exists.intro;refine⟨fun w' hw=>?_,?_⟩
    . go_simp;rfl
    simp only[Ac];refine AN 5 rfl rfl (by kernel_rfl) ?_;apply Exists.intro;refine⟨fun w' hw=>?_,?_⟩
    . go_simp;rfl
    simp only[Ac];refine AN 6 rfl rfl (by kernel_rfl) ?_;apply Exists.intro;refine⟨fun w' hw=>?_,?_⟩
    . go_simp;rfl
    simp only[Ac];refine AN 7 rfl rfl (by kernel_rfl) ?_;apply Exists.intro;refine⟨fun w' hw=>?_,?_⟩
    . go_simp;rfl
    simp only[Ac];refine AN 8 rfl rfl (by kernel_rfl) ?_;apply Exists.intro;refine⟨fun w' hw=>?_,?_⟩
    . go_simp;rfl
    simp only[Ac];refine AN 9 rfl rfl (by kernel_rfl) ?_;apply Exists.intro;refine⟨fun w' hw=>?_,?_⟩
    . go_simp;rfl
    simp only[Ac];refine AN 10 rfl rfl (by kernel_rfl) ?_;apply Exists.intro;refine⟨fun w' hw=>?_,?_⟩
    . go_simp;rfl
    simp only[Ac];refine AN 11 rfl rfl (by kernel_rfl) ?_;apply Exists.intro;refine⟨fun w' hw=>?_,?_⟩
    . go_simp;rfl
    simp only[Ac];refine AN 12 rfl rfl (by kernel_rfl) ?_;apply Exists.intro;refine⟨fun w' hw=>?_,?_⟩
    . go_simp;rfl
    simp only[Ac];refine AN 13 rfl rfl (by kernel_rfl) ?_;apply Exists.intro;refine⟨fun w' hw=>?_,?_⟩
    . go_simp;rfl
    simp only[Ac];refine Ny 14 rfl rfl (by kernel_rfl) ?_;apply Exists.intro;refine⟨fun w'=>?_,?_⟩
    . go_simp;rfl
    simp only[Ac];refine AN 15 rfl rfl (by kernel_rfl) ?_;apply Exists.intro;refine⟨fun w' hw=>?_,?_⟩
    . go_simp;rfl
    simp only[Ac];refine N4 ?_;refine N6 (w':=wz.setCell ⟨g,k,none⟩ (.int .u32 ((d/2+cc*2147483648:Nat):Int))) 16 rfl (by kernel_rfl) rfl rfl ?_ ?_
    . go_simp
    simp only[Ac];refine N7 (w':=wz.setCell ⟨g,k,none⟩ (.int .u32 ((d/2+cc*2147483648:Nat):Int))) (v:=.int .u32 ((d%2:Nat):Int)) 17 rfl (by kernel_rfl) rfl (by go_simp) ?_;simp only[Ac];refine N5 (by kernel_rfl) ?_;have gb:=Hd (ga.o.set (k:=k) (d:=d/2+cc*2147483648));have ge:Hq (Bw w (wz.setCell ⟨g,k,none⟩ (.int .u32 ((d/2+cc*2147483648:Nat):Int)))):=Hd (gd.o.setCell g5 _);clear HS HR HB ga gd ckz fkz g9;obtain⟨w5,gf⟩:=Ex (wz.setCell ⟨g,k,none⟩ (.int .u32 ((d/2+cc*2147483648:Nat):Int)));rw[<- gf] at gb ge ⊢;have gp:=Hd (show ∃ (k' cc':Nat) (rs':List Nat),k'<=L/\(Value.int .i64 ((k:Int)-1))=.int .i64 ((k':Int)-1)/\(Value.int .u32 ((d%2:Nat):Int))=.int .u32 (cc':Nat)/\Hq (CG ds k' cc' rs')/\Hq (RowU w5 g rs')/\Hq (Bw w w5) from ⟨k,d%2,_,by omega,rfl,rfl,HN,gb,ge⟩);clear gf gb ge HN eor eand ehalf;go_wp2_with fail;go_roundw
    case rel=>exact gp.o
    case measure=>simp[intOf]
theorem U1 (hx:x<4294967296)(hy:y<4294967296)(hc:c<=1) :
 Calls prog 73 #[.int .u32 x,.int .u32 y,.int .u32 c] w (Sm (.tuple #[.int .u32 ((x+y+c)%4294967296:Nat),.int .u32 ((x+y+c)/4294967296:Nat)]) w):=by
 have e1:IntKind.u64.wrap ((x:Int)+(y:Int))=(x:Int)+(y:Int):=by rw[IntKind.wrap_u64];omega
 have e2:IntKind.u64.wrap ((x:Int)+(y:Int)+(c:Int))=(x:Int)+(y:Int)+(c:Int):=by rw[IntKind.wrap_u64];omega
 obtain⟨P,hP⟩:=Ex ((Sm (.tuple #[.int .u32 ((x+y+c)%4294967296:Nat),.int .u32 ((x+y+c)/4294967296:Nat)]) w):Ending->Wd->Prop)
 rw[<- hP];have HP:=Hd hP;clear hP
 go_enter func73,ntmps73
 go_wp2_with fail;rw[HP.o];refine⟨?_,rfl⟩
 show Ending.returned (.tuple #[.int .u32 (((x:Int)+(y:Int)+(c:Int))%4294967296),.int .u32 (((x:Int)+(y:Int)+(c:Int))/4294967296)])=_
 rw[show (((x+y+c)%4294967296:Nat):Int)=((x:Int)+(y:Int)+(c:Int))%4294967296 by omega,show (((x+y+c)/4294967296:Nat):Int)=((x:Int)+(y:Int)+(c:Int))/4294967296 by omega]
theorem tb31 (h:n<4294967296):n.testBit 31=decide (2147483648<=n):=by
 rw[Nat.testBit_eq_decide_div_mod_eq];exact decide_eq_decide.2 (by omega)
theorem div31 (h:n<4294967296):n/2147483648=(n.testBit 31).toNat:=by
 rw[tb31 h]
 by_cases c:2147483648<=n
 . rw[XA c];show _=1;omega
 . rw[X8 c];show _=0;omega
theorem NB (a b:Nat)(ha:a<4294967296)(hb:b<4294967296):bits .and .u32 (a:Int) (b:Int)=((a &&& b:Nat):Int)/\a &&& b<4294967296:=by
 obtain⟨h1,h2⟩:=EH a b ha hb;have hx:a &&& b<2^32:=Nat.and_lt_two_pow _ (by omega);refine⟨?_,by omega⟩
 show IntKind.u32.wrap ((BitVec.ofInt 32 (a:Int) &&& BitVec.ofInt 32 (b:Int)).toNat:Int)=_
 rw[BitVec.toNat_and,h1,h2,Yy];omega
theorem U2 (a b:Nat)(ha:a<4294967296)(hb:b<4294967296):bits .or .u32 (a:Int) (b:Int)=((a ||| b:Nat):Int)/\a ||| b<4294967296:=by
 obtain⟨h1,h2⟩:=EH a b ha hb;have hx:a ||| b<2^32:=Nat.or_lt_two_pow (by omega) (by omega)
 refine⟨?_,by omega⟩
 show IntKind.u32.wrap ((BitVec.ofInt 32 (a:Int) ||| BitVec.ofInt 32 (b:Int)).toNat:Int)=_
 rw[BitVec.toNat_or,h1,h2,Yy];omega
theorem J9 (a b:Nat)(ha:a<4294967296)(hb:b<4294967296):bits .xor .u32 (a:Int) (b:Int)=((a ^^^ b:Nat):Int)/\a ^^^ b<4294967296:=by
 obtain⟨h1,h2⟩:=EH a b ha hb;have hx:a ^^^ b<2^32:=Nat.xor_lt_two_pow (by omega) (by omega);refine⟨?_,by omega⟩
 show IntKind.u32.wrap ((BitVec.ofInt 32 (a:Int) ^^^ BitVec.ofInt 32 (b:Int)).toNat:Int)=_
 rw[BitVec.toNat_xor,h1,h2,Yy];omega
theorem U3 (hx:x<4294967296)(hy:y<4294967296)(hb:b<=1) :
 bits .or .u32 (bits .and .u32 (bits .xor .u32 IntKind.u32.max (x:Int)) (y:Int)) (bits .and .u32 (bits .xor .u32 IntKind.u32.max (bits .xor .u32 (x:Int) (y:Int))) (((x:Int)-(y:Int)-(b:Int))%4294967296))/2147483648=((if x<y+b then 1 else 0:Nat):Int):=by
 obtain⟨D,hD⟩:=Ex ((x+8589934592-y-b)%4294967296);have eD:((x:Int)-(y:Int)-(b:Int))%4294967296=((D:Nat):Int):=by omega
 have g0:D<4294967296:=by omega
 have em:IntKind.u32.max=((4294967295:Nat):Int):=rfl;rw[eD,em];obtain⟨e1,l1⟩:=J9 4294967295 x (by omega) hx;obtain⟨e2,l2⟩:=NB _ y l1 hy;obtain⟨e3,l3⟩:=J9 x y hx hy;obtain⟨e4,l4⟩:=J9 4294967295 _ (by omega) l3;obtain⟨e5,l5⟩:=NB _ D l4 g0;obtain⟨e6,l6⟩:=U2 _ _ l2 l5;rw[e1,e2,e3,e4,e5,e6];have key:(((4294967295 ^^^ x) &&& y) ||| ((4294967295 ^^^ (x ^^^ y)) &&& D))/2147483648=if x<y+b then 1 else 0:=by
  rw[div31 l6,Nat.testBit_or,Nat.testBit_and,Nat.testBit_and,Nat.testBit_xor,Nat.testBit_xor,Nat.testBit_xor,tb31 hx,tb31 hy,tb31 g0,tb31 (show 4294967295<4294967296 by omega)]
  by_cases cx:2147483648<=x<;>by_cases cy:2147483648<=y<;>by_cases cd:2147483648<=D<;>by_cases cl:x<y+b<;>simp[cx,cy,cd,cl]<;>omega
 rw[<- key];rfl
theorem U4 (hx:x<4294967296)(hy:y<4294967296)(hb:b<=1) :
 Calls prog 149 #[.int .u32 x,.int .u32 y,.int .u32 b] w (Sm (.tuple #[.int .u32 ((x+8589934592-y-b)%4294967296:Nat),.int .u32 ((if x<y+b then 1 else 0):Nat)]) w):=by
 obtain⟨P,hP⟩:=Ex ((Sm (.tuple #[.int .u32 ((x+8589934592-y-b)%4294967296:Nat),.int .u32 ((if x<y+b then 1 else 0):Nat)]) w):Ending->Wd->Prop)
 rw[<- hP];have HP:=Hd hP;clear hP
 go_enter func149,ntmps149
 go_wp2_with fail;rw[HP.o];refine⟨?_,rfl⟩;have g1:=U3 hx hy hb;have g0:(((x+8589934592-y-b)%4294967296:Nat):Int)=((x:Int)-(y:Int)-(b:Int))%4294967296:=by omega
 rw[g0,<- g1]
theorem DI (l:List Nat)(k:Nat):valD (l.take (k+1))=valD (l.take k)+4294967296^k*l.getD k 0:=by
 rcases Xe k l.length with h|h
 . rw[YT,WS h,Ei,Yk,YK (by omega)];simp[valD,List.getD,WS h]
 . rw[Xn h,Xn (by omega)];simp[List.getD,Xb h]
theorem JA (l:List Nat)(k d:Nat):(l.set k d).take k=l.take k:=by
 rw[List.take_set];exact List.set_eq_of_length_le (by simp;omega)
theorem CY {l:List Nat}(ho:OkD l)(k:Nat):l.getD k 0<4294967296:=by
 rcases Xe k l.length with h|h
 . simp only[List.getD,WS h];exact ho _ (Xp h)
 . simp[List.getD,Xb h]
structure SubS (dx dy:List Nat)(k br:Nat)(rs:List Nat):Prop where
 len:rs.length=dx.length
 high:∀ j,k<=j->rs.getD j 0=dx.getD j 0
 ok:OkD rs
 b1:br<=1
 val:valD (dx.take k)+4294967296^k*br=valD (rs.take k)+valD (dy.take k)
theorem SubS.start {dx:List Nat}(ho:OkD dx):SubS dx dy 0 0 dx:=⟨rfl,fun _ _=>rfl,ho,by omega,by simp[valD]⟩
theorem SubS.next {dx:List Nat}{br:Nat}(h:SubS dx dy k br rs)(hox:OkD dx)(hoy:OkD dy)(hk:k<dx.length) :
 SubS dx dy (k+1) (if dx.getD k 0<dy.getD k 0+br then 1 else 0) (rs.set k ((dx.getD k 0+8589934592-dy.getD k 0-br)%4294967296)):=by
 have hd:=CY hox k;have he:=CY hoy k;have hb:=h.b1;refine⟨by simp[h.len],fun j hj=>?_,fun d g1=>?_,by split<;>omega,?_⟩
 . rw[DH,WO (by omega)];exact h.high j (by omega)
 ·rcases Yq g1 with e|e
  . exact h.ok d e
  . subst e;omega
 ·have hv:=h.val;obtain⟨t,ht⟩:=Ex ((dx.getD k 0+8589934592-dy.getD k 0-br)%4294967296);obtain⟨b2,g0⟩:=Ex (if dx.getD k 0<dy.getD k 0+br then 1 else 0)
  rw[<- ht,<- g0];have eg:(rs.set k t).getD k 0=t:=by rw[DH,WR ⟨rfl,by rw[h.len];exact hk⟩]
  rw[DI,DI,DI,JA,eg];have key:t+dy.getD k 0+br=dx.getD k 0+4294967296*b2:=by
   rw[ht,g0];split<;>omega
  have k2:=X3 (fun z=>4294967296^k*z) key;simp only[Nat.mul_add] at k2;rw[X4,YL]
  generalize 4294967296^k*t=T at *
  generalize 4294967296^k*dy.getD k 0=Y at *
  generalize 4294967296^k*dx.getD k 0=X at *
  generalize 4294967296^k*br=Z at *
  generalize 4294967296^k*(4294967296*b2)=U at *
  omega
theorem SubS.done {br:Nat}(h:SubS (digD x) (digD y) (digD x).length br rs)(hle:y<=x):valD rs=x-y:=by
 have g0:(digD y).length<=(digD x).length:=by
  refine Nat.le_of_not_lt fun g2=>?_
  have:=J7 g2;omega
 have hv:=h.val;rw[Xx,Xn (by rw[h.len];exact WM _),Xn g0,Cc,Cc] at hv;have g1:=G6 rs h.ok;rw[h.len] at g1;have hb:=h.b1;rcases(show br=0\/br=1 by omega) with rfl|rfl
 . omega
 . omega
theorem NC {v1 v2:Value}(h1:NatV w v1 x)(h2:NatV w v2 y)(hle:y<=x) :
 Calls prog 109 #[v1,v2] w fun e w'=>(∃ v',e=.returned (.tuple #[v',.bool true])/\NatV w' v' (x-y)/\∀ q,v'.ownBlock=some q->w.heap.size<=q)/\Bw w w':=by
 have HC:=Hd (J8 h1 h2);have gw:¬ cmpZ x y<0:=by unfold cmpZ;rw[WO (by omega)];split<;>omega
 obtain⟨z,hz⟩:=Ex (cmpZ x y);rw[<- hz] at HC gw;have HT:Hq (∀ w1,Bw w w1->Calls prog 72 #[v2] w1 fun e w'=>(∃ v',e=.returned v'/\NatV w1 v' y)/\w1=w'):=Hd fun w1 hb=>G8 (h2.below hb)
 have gB:Hq (∀ w1,Bw w w1->NatV w1 v1 x):=Hd fun w1 hb=>h1.below hb
 obtain⟨P,hP⟩:=Ex (fun e w'=>(∃ v',e=.returned (.tuple #[v',.bool true])/\NatV w' v' (x-y)/\∀ q,v'.ownBlock=some q->w.heap.size<=q)/\Bw w w':Ending->Wd->Prop)
 have gA:=Hd hP;have gC:=Hd hle;rw[<- hP];obtain⟨a,c,rfl,l1,l2,l3⟩:=h1;clear hz hP h2 hle
 go_enter func109,ntmps109
 go_wp2_with fail;refine HC.o.mono ?_;rintro e w1 ⟨rfl,g0⟩;have g5:=Hd g0;have go:=Hd (HT.o w1 g0);clear HC HT g0;go_wp2_with fail;refine go.o.mono ?_;rintro e w' ⟨⟨v2',rfl,gr⟩,rfl⟩;obtain⟨a2,c2,rfl,m1,m2,m3⟩:=gr;have g2:=Hd m3;have g3:Hq (U32At w1 a (digD x)):=Hd (l3.below g5.o);have g1:=l3.len;have g8:=m3.len;obtain⟨dx,gc⟩:∃ d,d=digD x:=⟨_,rfl⟩;obtain⟨dy,gb⟩:∃ d,d=digD y:=⟨_,rfl⟩;rw[<- gc] at g3 g1 l1 ⊢;rw[<- gb] at g2 g8 m1 ⊢;obtain⟨L,hL⟩:=Ex dx.length;obtain⟨M,hM⟩:=Ex dy.length;rw[<- hL] at g1 l1 ⊢;rw[<- hM] at g8 m1 ⊢;have HL:=Hd hL;have HM:=Hd hM;have gE:=Hd gc;have gD:=Hd gb;have hs1:=g5.o.size;clear hL hM gc gb m3 l3 go gB hs1;go_upto_region 5 with (at_make;refine DB GA rfl _ _ rfl w1.heap.size w1 _ L rfl rfl rfl (by omega) (WM _) (Xd _ _) ?_;intro g w2 g7 g0 hs1 gt ga gu;clear gu)
 have g6:=GB g7 (by simp);have gn:=Hd (g3.o.below g0);have gx:=Hd (g2.o.below g0)
 have gp:Hq (RowU w2 g (List.replicate L 0)):=Hd (by
  unfold RowU;rw[g6];simp[u32V])
 clear g6 g7 gt hs1;have gg:=Hd (show L=(u32V dx).length by rw[BV];exact HL.o);go_wp2_with (refine Zc rfl _ _ 40 40 rfl 131 underlying40 GC (some ⟨g,0,none⟩) a L L L c rfl rfl g 0 (u32V (List.replicate L 0)) 131 gp.o (u32V dx) (by rw[<- gg.o];exact(Nat.min_self L).symm) (fun hp=>⟨rfl,gn.o.src (by rw[BV] at hp;exact hp)⟩) (by rw[<- gg.o,BV];simp) (GD dx) w1.heap.size w1 g0 ga ?_;intro w3 gi gm)
 have gz:Hq (RowU w3 g dx):=Hd (by
  have:_=_:=gi;rw[N9 (by rw[<- gg.o,BV];simp)] at this;exact this)
 have gF:=Hd gm;have gy:Hq (SubS dx dy 0 0 dx):=Hd (SubS.start g3.o.ok);clear gi gm gp gn gx g0
 go_loopw [7,8,9,24] (fun s7 _ _ s24 wr=>∃ (k br:Nat) (rs:List Nat),k<=L/\s24=.int .i64 (k:Int)/\s7=.int .u32 (br:Nat)/\Hq (SubS dx dy k br rs)/\Hq (RowU wr g rs)/\Hq (Bw w1 wr)) (fun _ _ _ s24 _=>L-(intOf s24).toNat)
 case atStart=>exact⟨0,0,dx,WX _,rfl,rfl,gy,gz,gF⟩
 case round =>
  obtain⟨k,br,rs,hk,rfl,rfl,HS,HR,HB⟩:=hrel
  by_cases gj:k<L
  ·have gH:(k:Int)<(L:Int):=by omega
   have g9:=HS.o.len;have ck:=HR.o.cell (k:=k) (by rw[g9,<- HL.o];exact gj);rw[HS.o.high k (WM _)] at ck;have fk:wr.frozen? ⟨g,k,none⟩=false:=by have:=HR.o;unfold RowU at this;simp[World.frozen?,this]
   have HN:=Hd (HS.o.next g3.o.ok g2.o.ok (by rw[<- HL.o];exact gj));obtain⟨d,hd⟩:=Ex (dx.getD k 0);obtain⟨e,he⟩:=Ex (dy.getD k 0);rw[<- hd] at ck HN;rw[<- he] at HN;have gv:d<4294967296:=by rw[hd];exact CY g3.o.ok k
   have gk:e<4294967296:=by rw[he];exact CY g2.o.ok k
   have g4:=Hd (U4 (w:=wr) gv gk HS.o.b1);obtain⟨t,ht⟩:=Ex ((d+8589934592-e-br)%4294967296);obtain⟨b2,gd⟩:=Ex (if d<e+br then 1 else 0)
   rw[<- ht,<- gd] at g4 HN;have gf:=Hd (HR.o.set (k:=k) (d:=t));have gh:Hq (Bw w1 (wr.setCell ⟨g,k,none⟩ (.int .u32 ((t:Nat):Int)))):=Hd (HB.o.setCell ga _);have ge:=Hd (show ∃ (k' br':Nat) (rs':List Nat),k'<=L/\(Value.int .i64 ((k:Int)+1))=.int .i64 (k':Int)/\(Value.int .u32 ((b2:Nat):Int))=.int .u32 (br':Nat)/\Hq (SubS dx dy k' br' rs')/\Hq (RowU (wr.setCell ⟨g,k,none⟩ (.int .u32 ((t:Nat):Int))) g rs')/\Hq (Bw w1 (wr.setCell ⟨g,k,none⟩ (.int .u32 ((t:Nat):Int)))) from ⟨k+1,b2,_,by omega,by rw[show ((k+1:Nat):Int)=(k:Int)+1 by omega],rfl,HN,gf,gh⟩)
   by_cases hm:k<M
   ·obtain⟨bb,oo,rfl,pk⟩:=g2.o.cells k (by rw[<- HM.o];exact hm);have pk2:=Cq HB.o pk;rw[<- he] at pk2;have gs:(k:Int)<(M:Int):=by omega
    clear pk hd he ht gd HN gf gh HS HR HB g9;go_wp2_with fail;refine g4.o.mono ?_;rintro q w' ⟨rfl,rfl⟩;go_wp2_with fail;go_roundw
    case rel=>exact ge.o
    case measure=>simp[intOf];omega
   ·have gs:¬ (k:Int)<(M:Int):=by omega
    have e0:e=0:=by
     rw[he];simp[List.getD,Xb (show dy.length<=k by rw[<- HM.o];omega)]
    rw[e0] at g4;have gq:Hq (Calls prog 149 #[.int .u32 (d:Nat),.int .u32 0,.int .u32 (br:Nat)] wr (Sm (.tuple #[.int .u32 (t:Nat),.int .u32 (b2:Nat)]) wr)):=g4;clear hd he ht gd HN gf gh HS HR HB g9 e0 gk g4;go_wp2_with fail;refine gq.o.mono ?_;rintro q w' ⟨rfl,rfl⟩;go_wp2_with fail;go_roundw
    case rel=>exact ge.o
    case measure=>simp[intOf];omega
  ·obtain rfl:k=L:=by omega
   have gG:¬ (k:Int)<(k:Int):=by omega
   have hS:=HS.o;rw[HL.o,gE.o,gD.o] at hS;have gl:=hS.done gC.o;have hT:=G7 (c:=k) (HR.o.at HS.o.ok (by rw[HS.o.len,<- HL.o];exact g1)) (by rw[HS.o.len,<- HL.o];exact WM _) g1;rw[gl,HS.o.len,<- HL.o] at hT;have HT:=Hd hT;have HF:Hq (∀ v',NatV wr v' (x-y)->(∀ q,v'.ownBlock=some q->q=g)->P (.returned (.tuple #[v',.bool true])) wr):=Hd fun v' hv hq=>by rw[gA.o];exact⟨⟨v',rfl,hv,fun q e=>by rw[hq q e];exact WU g5.o.size ga⟩,g5.o.trans (HB.o.mono g5.o.size)⟩
   clear hT gl hS HS HR HB;go_wp2_with fail;refine HT.o.mono ?_;rintro e w' ⟨⟨v',rfl,hv,hq⟩,rfl⟩;have HV:=Hd (HF.o v' hv hq);clear hv hq HT HF;go_wp2_with fail;exact HV.o
theorem U5 (d c:Nat)(hd:d<4294967296)(hc:c<=1):bits .or .u32 (IntKind.u32.wrap ((d:Int)*2)) (c:Int)=((2*d%4294967296+c:Nat):Int):=by
 have e:IntKind.u32.wrap ((d:Int)*2)=((2*(d%2147483648):Nat):Int):=by rw[Yy];omega
 rw[e];obtain⟨h1,h2⟩:=EH (2*(d%2147483648)) c (by omega) (by omega)
 show IntKind.u32.wrap ((BitVec.ofInt 32 ((2*(d%2147483648):Nat):Int) ||| BitVec.ofInt 32 (c:Int)).toNat:Int)=_
 rw[BitVec.toNat_or,h1,h2,show 2*(d%2147483648)=2^1*(d%2147483648) by omega,<- Nat.two_pow_add_eq_or_of_lt (by omega) (d%2147483648),Yy];omega
structure DblS (os:List Nat)(k c:Nat)(rs:List Nat):Prop where
 len:rs.length=os.length
 high:∀ j,k<=j->rs.getD j 0=os.getD j 0
 ok:OkD rs
 c1:c<=1
 val:valD (rs.take k)+4294967296^k*c=2*valD (os.take k)
theorem DblS.start (ho:OkD os):DblS os 0 0 os:=⟨rfl,fun _ _=>rfl,ho,by omega,by simp[valD]⟩
theorem DblS.next (h:DblS os k c rs)(ho:OkD os)(hk:k<os.length):DblS os (k+1) (os.getD k 0/2147483648) (rs.set k (2*os.getD k 0%4294967296+c)):=by
 have hd:=CY ho k;have hc:=h.c1;refine⟨by simp[h.len],fun j hj=>?_,fun d g1=>?_,by omega,?_⟩
 . rw[DH,WO (by omega)];exact h.high j (by omega)
 ·rcases Yq g1 with e|e
  . exact h.ok d e
  . subst e;omega
 ·have hv:=h.val;obtain⟨t,ht⟩:=Ex (2*os.getD k 0%4294967296+c);obtain⟨c2,g0⟩:=Ex (os.getD k 0/2147483648);rw[<- ht,<- g0];have eg:(rs.set k t).getD k 0=t:=by rw[DH,WR ⟨rfl,by rw[h.len];exact hk⟩]
  rw[DI,DI,JA,eg];have key:t+4294967296*c2=2*os.getD k 0+c:=by rw[ht,g0];omega
  have k2:=X3 (fun z=>4294967296^k*z) key;simp only[Nat.mul_add] at k2;rw[X4,YL];have e3:4294967296^k*(2*os.getD k 0)=2*(4294967296^k*os.getD k 0):=by rw[Nat.mul_left_comm]
  rw[e3] at k2
  generalize 4294967296^k*t=T at *
  generalize 4294967296^k*os.getD k 0=X at *
  generalize 4294967296^k*c=Z at *
  generalize 4294967296^k*(4294967296*c2)=U at *
  omega
theorem DblS.done (h:DblS os os.length c rs)(hl:2*valD os<4294967296^os.length):valD rs=2*valD os/\c=0:=by
 have hv:=h.val;rw[Xx,Xn (by rw[h.len];exact WM _)] at hv;have hc:=h.c1;rcases(show c=0\/c=1 by omega) with rfl|rfl
 . omega
 . omega
theorem U6 (n:Nat)(ds:List Nat):valD (List.replicate n 0++ds)=4294967296^n*valD ds:=by
 rw[Ei,G5 _ (fun d hd=>(List.mem_replicate.1 hd).2),XR,Xw]
theorem U7 (n:Nat)(ds:List Nat):splice (u32V (List.replicate (ds.length+n+1) 0)) n (u32V ds)=u32V (List.replicate n 0++ds++[0]):=by
 unfold splice u32V;simp[List.take_replicate,List.drop_replicate,show min n (ds.length+n+1)=n by omega,show ds.length+n+1-(n+ds.length)=1 by omega]
theorem U8 (h:NatV w v x)(hx:(digD x).length<=1000)(hk:k<=4096) :
 Calls prog 20 #[v,.int .i64 (k:Nat)] w fun e w'=>(∃ v',e=.returned v'/\NatV w' v' (x*2^k)/\∃ g q:Nat,v'=.slice (some ⟨g,0,none⟩) q q/\w.heap.size<=g)/\Bw w w':=by
 obtain⟨a,c,rfl,l1,l2,l3⟩:=h;obtain⟨dx,gb⟩:∃ d,d=digD x:=⟨_,rfl⟩;rw[<- gb] at l1 l3 hx ⊢;have HU:=Hd l3;obtain⟨L,hL⟩:=Ex dx.length;rw[<- hL] at l1 hx ⊢;have HL:=Hd hL;have gu:=Hd gb;obtain⟨P,hP⟩:=Ex (fun e w'=>(∃ v',e=.returned v'/\NatV w' v' (x*2^k)/\∃ g q:Nat,v'=.slice (some ⟨g,0,none⟩) q q/\w.heap.size<=g)/\Bw w w':Ending->Wd->Prop)
 have gE:=Hd hP;rw[<- hP];obtain⟨W,hW⟩:=Ex (k/32);obtain⟨r,hr⟩:=Ex (k%32);have eW:(k:Int)/32=(W:Int):=by omega
 have er:(k:Int)%32=(r:Int):=by omega
 have eW2:Int.tdiv (k:Int) 32=(W:Int):=by rw[Int.tdiv_eq_ediv_of_nonneg (by omega)];exact eW
 have er2:Int.tmod (k:Int) 32=(r:Int):=by rw[YU (by omega)];exact er
 have emx:max (k:Int) 0=(k:Int):=by omega
 have emn:min (k:Int) 4096=(k:Int):=by omega
 have gN:W<=128:=by omega
 have gF:=Hd (show k=32*W+r by omega);have gJ:r<32:=by omega
 clear gb hL hP l3 hW hr
 go_enter func20,ntmps20
 obtain⟨M,hM⟩:=Ex (L+W+1);have eM:(L:Int)+(W:Int)+1=(M:Int):=by omega
 have gP:M<=2000:=by omega
 have gO:(W:Int)<=(M:Int):=by omega
 have gI:W<=M:=by omega
 have HM:=Hd hM;clear hM;go_upto_region 4 with (at_make;refine DB GA rfl _ _ rfl w.heap.size w _ M rfl rfl (by first|rfl|exact eM|omega) (by omega) (WM _) (Xd _ _) ?_;intro g w2 g4 gd hs1 gy ga gz;clear gz)
 have g3:=GB g4 (by simp);have gs:=Hd (HU.o.below gd)
 have gt:Hq (RowU w2 g (List.replicate M 0)):=Hd (by
  unfold RowU;rw[g3];simp[u32V])
 clear g3 g4 gy hs1;have gh:=Hd (show L=(u32V dx).length by rw[BV];exact HL.o);go_upto_region 5 with (refine Zc rfl _ _ 40 40 rfl 131 underlying40 GC (some ⟨g,W,none⟩) a (M-W) (M-W) L c rfl rfl g W (u32V (List.replicate M 0)) 131 gt.o (u32V dx) (by rw[<- gh.o,HM.o];exact(YK (by omega)).symm) (fun hp=>⟨rfl,gs.o.src (by rw[BV] at hp;exact hp)⟩) (by rw[<- gh.o,BV,XR,HM.o];omega) (GD dx) w.heap.size w gd ga ?_;intro w3 gn gr)
 obtain⟨os0,g0⟩:∃ o,o=List.replicate W 0++dx++[0]:=⟨_,rfl⟩;have go:os0.length=M:=by rw[g0,HM.o,HL.o];simp;omega
 have gD:Hq (RowU w3 g os0):=Hd (by
  have h1:_=_:=gn;have h2:=U7 W dx;rw[<- HL.o,<- HM.o] at h2;rw[h2,<- g0] at h1;exact h1)
 have g8:OkD os0:=by
  rw[g0];intro d hd;simp only[Xa,List.mem_replicate,Xg] at hd;rcases hd with (⟨_,rfl⟩|hd)|rfl
  . omega
  . exact HU.o.ok d hd
  . omega
 have gl:valD os0=4294967296^W*x:=by
  rw[g0,Xf,U6,Ei,gu.o,Cc];simp[valD]
 have gw:Hq (∀ j,j<32->2*(4294967296^W*x*2^j)<4294967296^M):=Hd fun j hj=>by
  have h1:=G9 x;rw[<- gu.o,<- HL.o] at h1;have h2:2^j*2<=4294967296:=by
   have:=Xo (n:=2) (by omega) (show j+1<=32 by omega);rw[X4] at this;simpa using this
  rw[HM.o,X4,Nat.pow_add];have h3:4294967296^W*x<4294967296^W*4294967296^L:=Nat.mul_lt_mul_of_pos_left h1 (XW (by omega))
  calc 2*(4294967296^W*x*2^j)=(4294967296^W*x)*(2^j*2):=by rw[Nat.mul_comm 2,YL]
   _<=(4294967296^W*x)*4294967296:=Nat.mul_le_mul_left _ h2
   _<(4294967296^L*4294967296^W)*4294967296:=Nat.mul_lt_mul_of_pos_right (by rw[Nat.mul_comm (4294967296^L)];exact h3) (by omega)
 have gH:=Hd gr;have gG:Hq (os0.length=M/\OkD os0/\valD os0=4294967296^W*x*2^0):=Hd ⟨go,g8,by rw[gl];simp⟩;clear g0 go g8 gl gn gr gt gs gd eM emx emn gh;go_wp2_with fail
 go_loopw [7,8,27,31] (fun _ _ s27 _ wr=>∃ (j:Nat) (rs:List Nat),j<=r/\s27=.int .i64 (j:Int)/\Hq (rs.length=M/\OkD rs/\valD rs=4294967296^W*x*2^j)/\Hq (RowU wr g rs)/\Hq (Bw w wr)) (fun _ _ s27 _ _=>r-(intOf s27).toNat)
 case atStart=>exact⟨0,os0,WX _,rfl,gG,gD,gH⟩
 case round =>
  obtain⟨j,rs,hj,rfl,HI,HR,HB⟩:=hrel;obtain⟨wo,gx⟩:∃ W',W'=wr:=⟨_,rfl⟩;subst gx
  by_cases gK:j<r
  ·have gL:(j:Int)<(r:Int):=by omega
   have gC:Hq (DblS rs 0 0 rs):=Hd (DblS.start HI.o.2.1);go_wp2_with fail
   go_loopw [7,8,31] (fun s7 _ s31 wr=>∃ (i cc:Nat) (qs:List Nat),i<=M/\s31=.int .i64 (i:Int)/\s7=.int .u32 (cc:Nat)/\Hq (DblS rs i cc qs)/\Hq (RowU wr g qs)/\Hq (Bw w wr)) (fun _ _ s31 _=>M-(intOf s31).toNat)
   case atStart=>exact⟨0,0,rs,WX _,rfl,rfl,gC,HR,HB⟩
   case round =>
    obtain⟨i,cc,qs,hi,rfl,rfl,HS,g1,HB2⟩:=hrel
    by_cases gp:i<M
    ·have gM:(i:Int)<(M:Int):=by omega
     have g7:=HS.o.len;have g9:=HI.o.1;have ck:=g1.o.cell (k:=i) (by rw[g7,g9];exact gp);rw[HS.o.high i (WM _)] at ck;have fk:wr.frozen? ⟨g,i,none⟩=false:=by have:=g1.o;unfold RowU at this;simp[World.frozen?,this]
     have HN:=Hd (HS.o.next HI.o.2.1 (by rw[g9];exact gp));obtain⟨d,hd⟩:=Ex (rs.getD i 0);rw[<- hd] at ck HN;have gA:d<4294967296:=by rw[hd];exact CY HI.o.2.1 i
     have gB:=HS.o.c1;clear g7 g9 hd;go_upto_region 11 with fail;have ckz:wr.drew.cell? ⟨g,i,none⟩=some (.int .u32 (d:Nat)):=ck;have fkz:wr.drew.frozen? ⟨g,i,none⟩=false:=fk;have gf:Hq (RowU wr.drew g qs):=Hd (g1.o.drewN 1);have gi:Hq (Bw w wr.drew):=Hd (HB2.o.trans ((Ap wr 1).mono HB2.o.size));have eor:=U5 d cc gA gB;obtain⟨tv,gm⟩:=Ex (2*d%4294967296+cc);rw[<- gm] at eor HN;have ediv:((d/2147483648:Nat):Int)=(d:Int)/2147483648:=by omega
     obtain⟨wz,g5⟩:=Ex wr.drew;rw[<- g5] at ckz fkz gf gi;have ge:=Hd g5;clear g5 ck fk gm;refine Nw (fun W'=>W'.cell? ⟨g,i,none⟩=some (.int .u32 (d:Nat))) (fun ch w'=>False) 15 (fun c a w hd h=>h.elim) (by kernel_rfl) (by rw[<- ge.o];exact ckz) ?_;rw[<- ge.o];refine AN 0 rfl rfl (by kernel_rfl) ?_;apply Exists.intro;refine⟨fun w' hw=>?_,?_⟩
     . go_simp;rfl
     simp only[Ac];refine AN 1 rfl rfl (by kernel_rfl) ?_;apply Exists.intro;refine⟨fun w' hw=>?_,?_⟩
     . go_simp;rfl
     simp only[Ac];refine AN 2 rfl rfl (by kernel_rfl) ?_;apply Exists.intro;refine⟨fun w' hw=>?_,?_⟩
     . go_simp;rfl
     simp only[Ac];refine AN 3 rfl rfl (by kernel_rfl) ?_;apply Exists.intro;refine⟨fun w' hw=>?_,?_⟩
     . go_simp;rfl
     simp only[Ac];refine AN 4 rfl rfl (by kernel_rfl) ?_;apply Exists.intro;refine⟨fun w' hw=>?_,?_⟩
     . go_simp;rfl
     simp only[Ac];refine AN 5 rfl rfl (by kernel_rfl) ?_;apply Exists.intro;refine⟨fun w' hw=>?_,?_⟩
     . go_simp;rfl
     simp only[Ac];refine AN 6 rfl rfl (by kernel_rfl) ?_;apply Exists.intro;refine⟨fun w' hw=>?_,?_⟩
     . go_simp;rfl
     simp only[Ac];refine AN 7 rfl rfl (by kernel_rfl) ?_;apply Exists.intro;refine⟨fun w' hw=>?_,?_⟩
     . go_simp;rfl
     simp only[Ac];refine AN 8 rfl rfl (by kernel_rfl) ?_;apply Exists.intro;refine⟨fun w' hw=>?_,?_⟩
     . go_simp;rfl
     simp only[Ac];refine AN 9 rfl rfl (by kernel_rfl) ?_;apply Exists.intro;refine⟨fun w' hw=>?_,?_⟩
     . go_simp;rfl
     simp only[Ac];refine AN 10 rfl rfl (by kernel_rfl) ?_;apply Exists.intro;refine⟨fun w' hw=>?_,?_⟩
     . go_simp;rfl
     simp only[Ac];refine AN 11 rfl rfl (by kernel_rfl) ?_;apply Exists.intro;refine⟨fun w' hw=>?_,?_⟩
     . go_simp;rfl
     simp only[Ac];refine AN 12 rfl rfl (by kernel_rfl) ?_;apply Exists.intro;refine⟨fun w' hw=>?_,?_⟩
     . go_simp;rfl
     simp only[Ac];refine Ny 13 rfl rfl (by kernel_rfl) ?_;apply Exists.intro;refine⟨fun w'=>?_,?_⟩
     . go_simp;rfl
     simp only[Ac];refine AN 14 rfl rfl (by kernel_rfl) ?_;apply Exists.intro;refine⟨fun w' hw=>?_,?_⟩
     . go_simp;rfl
     simp only[Ac];refine N4 ?_;refine N6 (w':=wz.setCell ⟨g,i,none⟩ (.int .u32 ((tv:Nat):Int))) 15 rfl (by kernel_rfl) rfl rfl ?_ ?_
     . go_simp
     simp only[Ac];refine N7 (w':=wz.setCell ⟨g,i,none⟩ (.int .u32 ((tv:Nat):Int))) (v:=.int .u32 ((d/2147483648:Nat):Int)) 16 rfl (by kernel_rfl) rfl (by go_simp) ?_;simp only[Ac];refine N5 (by kernel_rfl) ?_;have gg:=Hd (gf.o.set (k:=i) (d:=tv));have gj:Hq (Bw w (wz.setCell ⟨g,i,none⟩ (.int .u32 ((tv:Nat):Int)))):=Hd (gi.o.setCell ga _);clear HS g1 HB2 gf gi ckz fkz ge;obtain⟨w5,gk⟩:=Ex (wz.setCell ⟨g,i,none⟩ (.int .u32 ((tv:Nat):Int)));rw[<- gk] at gg gj ⊢;have g2:=Hd (show ∃ (i' cc':Nat) (qs':List Nat),i'<=M/\(Value.int .i64 ((i:Int)+1))=.int .i64 (i':Int)/\(Value.int .u32 ((d/2147483648:Nat):Int))=.int .u32 (cc':Nat)/\Hq (DblS rs i' cc' qs')/\Hq (RowU w5 g qs')/\Hq (Bw w w5) from ⟨i+1,d/2147483648,_,by omega,by rw[show ((i+1:Nat):Int)=(i:Int)+1 by omega],rfl,HN,gg,gj⟩);clear gk gg gj HN eor ediv;go_wp2_with fail;go_roundw
     case rel=>exact g2.o
     case measure=>simp[intOf];omega
    ·obtain rfl:i=M:=by omega
     have gv:¬ (i:Int)<(i:Int):=by omega
     have gc:=HS.o;rw[<- HI.o.1] at gc;have gq:=gc.done (by rw[HI.o.2.2,HI.o.1];exact gw.o j (by omega));have g2:=Hd (show ∃ (j':Nat) (rs':List Nat),j'<=r/\(Value.int .i64 ((j:Int)+1))=.int .i64 (j':Int)/\Hq (rs'.length=i/\OkD rs'/\valD rs'=4294967296^W*x*2^j')/\Hq (RowU wr g rs')/\Hq (Bw w wr) from ⟨j+1,qs,by omega,by rw[show ((j+1:Nat):Int)=(j:Int)+1 by omega],Hd ⟨by rw[HS.o.len];exact HI.o.1,HS.o.ok,by rw[gq.1,HI.o.2.2,X4,Nat.mul_comm 2 (4294967296^W*x*2^j),YL (4294967296^W*x)]⟩,g1,HB2⟩);clear gc gq HS g1 HB2;go_wp2_with fail;go_roundw
     case rel=>exact g2.o
     case measure=>simp[intOf];omega
  ·obtain rfl:j=r:=by omega
   have gv:¬ (j:Int)<(j:Int):=by omega
   have hT:=J5 (c:=M) (HR.o.at HI.o.2.1 (by rw[HI.o.1];omega)) (by rw[HI.o.1];exact WM _) (by omega);have g6:4294967296^W*x*2^j=x*2^k:=by
    rw[gF.o,Nat.pow_add,Nat.pow_mul,show (2:Nat)^32=4294967296 from rfl,Nat.mul_comm (4294967296^W) x,YL]
   rw[HI.o.2.2,HI.o.1,g6] at hT;have HT:=Hd hT;have HF:Hq (∀ q:Nat,NatV wo (.slice (some ⟨g,0,none⟩) q q) (x*2^k)->P (.returned (.slice (some ⟨g,0,none⟩) q q)) wo):=Hd fun q hv=>by rw[gE.o];exact⟨⟨_,rfl,hv,g,q,rfl,ga⟩,HB.o⟩
   clear hT g6 HI HR HB;go_wp2_with fail;refine HT.o.mono ?_;rintro e w' ⟨⟨v',rfl,hv⟩,rfl⟩;have HV:=Hd (HF.o v' hv);clear hv HT HF;go_wp2_with fail;exact HV.o
structure Ej (w:Wd)(a:Option Addr)(xs:List Nat):Prop where
 len:xs.length<=1000
 cells:∀ k,k<xs.length->∃ b off v,a=some ⟨b,off,none⟩/\w.cell? ⟨b,off+k,none⟩=some v/\NatV w v (xs.getD k 0)
theorem Ej.below {w w':Wd}{a:Option Addr}{xs:List Nat}(h:Ej w a xs)(hb:Bw w w'):Ej w' a xs :=
 ⟨h.len,fun k hk=>by
  obtain⟨b,off,v,h1,h2,h3⟩:=h.cells k hk;exact⟨b,off,v,h1,(Cq hb h2),h3.below hb⟩⟩
structure SumS (os dy:List Nat)(k c:Nat)(rs:List Nat):Prop where
 len:rs.length=os.length
 high:∀ j,k<=j->rs.getD j 0=os.getD j 0
 ok:OkD rs
 c1:c<=1
 val:valD (rs.take k)+4294967296^k*c=valD (os.take k)+valD (dy.take k)
theorem SumS.start (ho:OkD os):SumS os dy 0 0 os:=⟨rfl,fun _ _=>rfl,ho,by omega,by simp[valD]⟩
theorem SumS.next (h:SumS os dy k c rs)(ho:OkD os)(hoy:OkD dy)(hk:k<os.length) :
 SumS os dy (k+1) ((os.getD k 0+dy.getD k 0+c)/4294967296) (rs.set k ((os.getD k 0+dy.getD k 0+c)%4294967296)):=by
 have hd:=CY ho k;have he:=CY hoy k;have hc:=h.c1;refine⟨by simp[h.len],fun j hj=>?_,fun d g1=>?_,by omega,?_⟩
 . rw[DH,WO (by omega)];exact h.high j (by omega)
 ·rcases Yq g1 with e|e
  . exact h.ok d e
  . subst e;omega
 ·have hv:=h.val;obtain⟨t,ht⟩:=Ex ((os.getD k 0+dy.getD k 0+c)%4294967296);obtain⟨c2,g0⟩:=Ex ((os.getD k 0+dy.getD k 0+c)/4294967296);rw[<- ht,<- g0];have eg:(rs.set k t).getD k 0=t:=by rw[DH,WR ⟨rfl,by rw[h.len];exact hk⟩]
  rw[DI,DI,DI,JA,eg];have key:t+4294967296*c2=os.getD k 0+dy.getD k 0+c:=by rw[ht,g0];omega
  have k2:=X3 (fun z=>4294967296^k*z) key;simp only[Nat.mul_add] at k2;rw[X4,YL]
  generalize 4294967296^k*t=T at *
  generalize 4294967296^k*os.getD k 0=X at *
  generalize 4294967296^k*dy.getD k 0=Y at *
  generalize 4294967296^k*c=Z at *
  generalize 4294967296^k*(4294967296*c2)=U at *
  omega
theorem SumS.done (h:SumS os dy os.length c rs)(hy:dy.length<=os.length)(hl:valD os+valD dy<4294967296^os.length):valD rs=valD os+valD dy:=by
 have hv:=h.val;rw[Xx,Xn (by rw[h.len];exact WM _),Xn hy] at hv;have hc:=h.c1;rcases(show c=0\/c=1 by omega) with rfl|rfl
 . omega
 . omega
theorem ND (h:x<4294967296^1000):(digD x).length<=1000:=Nat.le_of_not_lt fun hgt=>by
 have:=Ns x 1000 hgt;omega
theorem U9 {a m:Nat}(hx:x<4294967296^a)(hy:y<4294967296^b)(ha:a+1<=m)(hb:b+1<=m):x+y<4294967296^m:=by
 obtain⟨n,rfl⟩:∃ n,m=n+1:=⟨m-1,by omega⟩;have h1:=Xo (n:=4294967296) (by omega) (show a<=n by omega);have h2:=Xo (n:=4294967296) (by omega) (show b<=n by omega);rw[X4]
 generalize 4294967296^n=p at *
 omega
theorem UA (m:Nat)(ds:List Nat):splice (u32V (List.replicate (ds.length+m) 0)) 0 (u32V ds)=u32V (ds++List.replicate m 0):=by
 unfold splice u32V;simp
theorem DJ (w:Wd):NatV w (.slice none 0 0) 0:=by
 refine⟨none,0,by rw[BH];rfl,by rw[BH];exact WM _,by omega,⟨by rw[BH];exact WX _,?_,fun k hk=>?_⟩⟩
 . rw[BH];intro d hd;cases hd
 . rw[BH] at hk;cases hk
theorem UB (xs:List Nat)(k:Nat):(xs.take k).sum<=xs.sum:=by
 have h:=Yj k xs;have:xs.sum=(xs.take k).sum+(xs.drop k).sum:=by rw[<- List.sum_append,h]
 omega
theorem NF {xs:List Nat}(hk:k<xs.length):(xs.take (k+1)).sum=(xs.take k).sum+xs.getD k 0:=by
 rw[YT,WS hk,List.sum_append];simp[List.getD,WS hk]
theorem NG {a:Option Addr}{xs:List Nat}(h:Ej w a xs)(hs:xs.sum<4294967296^1000) :
 Calls prog 19 #[.slice a xs.length c] w fun e w'=>(∃ v',e=.returned v'/\NatV w' v' xs.sum/\∀ q,v'.ownBlock=some q->w.heap.size<=q)/\Bw w w':=by
 have HA:=Hd h;have gM:=Hd hs;have gB:=h.len;obtain⟨P,hP⟩:=Ex (fun e w'=>(∃ v',e=.returned v'/\NatV w' v' xs.sum/\∀ q,v'.ownBlock=some q->w.heap.size<=q)/\Bw w w':Ending->Wd->Prop)
 have gP:=Hd hP;rw[<- hP];obtain⟨n,hn⟩:=Ex xs.length;rw[<- hn] at gB ⊢;have HN:=Hd hn;have HZ:Hq (NatV w (.slice none 0 0) (xs.take 0).sum/\∀ q,(Value.slice none 0 0).ownBlock=some q->w.heap.size<=q):=Hd ⟨by simpa using DJ w,fun q e=>by cases e⟩;have gT:Hq (Bw w w):=Hd (Xd _ _);clear hP h hs hn
 go_enter func19,ntmps19
 go_wp2_with fail
 go_loopw [3,5,6,7,8,9,12,28] (fun s3 _ _ _ _ _ s12 _ wr=>∃ k:Nat,k<=n/\s12=.int .i64 (k:Int)/\Hq (NatV wr s3 (xs.take k).sum/\∀ q,s3.ownBlock=some q->w.heap.size<=q)/\Hq (Bw w wr)) (fun _ _ _ _ _ _ s12 _ _=>n-(intOf s12).toNat)
 case atStart=>exact⟨0,WX _,rfl,HZ,gT⟩
 case round =>
  obtain⟨k,hk,rfl,HV,HB⟩:=hrel;obtain⟨wo,gD⟩:∃ W',W'=wr:=⟨_,rfl⟩;subst gD
  by_cases ga:k<n
  ·have gU:(k:Int)<(n:Int):=by omega
   obtain⟨b,off,v,rfl,hc,hv⟩:=(HA.o.below HB.o).cells k (by rw[<- HN.o];exact ga);have g7:(xs.take k).sum+xs.getD k 0<4294967296^1000:=by
    rw[<- NF (by rw[<- HN.o];exact ga)];exact Nat.lt_of_le_of_lt (UB _ _) gM.o
   have gf:=Hd (NF (xs:=xs) (k:=k) (by rw[<- HN.o];exact ga));obtain⟨x,hx⟩:=Ex ((xs.take k).sum);obtain⟨y,hy⟩:=Ex (xs.getD k 0);have gm:=HV.o.1;rw[<- hx] at gm g7 gf;rw[<- hy] at hv g7 gf;obtain⟨a1,c1,rfl,l1,l2,l3⟩:=gm;obtain⟨a2,c2,rfl,m1,m2,m3⟩:=hv;have q1:=ND (x:=x) (by omega);have q2:=ND (x:=y) (by omega);have gv:=Hd (Cc x);have ge:=Hd (Cc y);have gk:=Hd (G9 x);have gj:=Hd (G9 y);obtain⟨dx,gt⟩:∃ d,d=digD x:=⟨_,rfl⟩;obtain⟨dy,gs⟩:∃ d,d=digD y:=⟨_,rfl⟩;rw[<- gt] at l1 l3 q1 gv gk ⊢;rw[<- gs] at m1 m3 q2 ge gj hc;obtain⟨L,hL⟩:=Ex dx.length;obtain⟨M,hM⟩:=Ex dy.length;rw[<- hL] at l1 q1 gk ⊢;rw[<- hM] at m1 q2 gj hc;have HL:=Hd hL;have HM:=Hd hM;have gx:=Hd l3;have g6:=Hd m3;obtain⟨T,hT⟩:=Ex ((max L M)+1);have eT:max (L:Int) (M:Int)+1=(T:Int):=by omega
   have gX:T<=1001:=by omega
   have gJ:L+1<=T:=by omega
   have gI:M+1<=T:=by omega
   clear hx hy gt gs hL hM l3 m3 hT HV g7;have gz:=HB.o.size;go_upto_region 6 with (at_make;refine DB GA rfl _ _ rfl wo.heap.size wo _ T rfl rfl (by first|exact eT|omega) (by omega) (WM _) (Xd _ _) ?_;intro g w2 g4 g5 hs1 gF gb gG;clear gG)
   have g3:=GB g4 (by simp);have gw:=Hd (gx.o.below g5);have gL:=Hd (g6.o.below g5)
   have gy:Hq (RowU w2 g (List.replicate T 0)):=Hd (by
    unfold RowU;rw[g3];simp[u32V])
   clear g3 g4 gF hs1;have gi:=Hd (show L=(u32V dx).length by rw[BV];exact HL.o);obtain⟨os0,g0⟩:∃ o,o=dx++List.replicate (T-L) 0:=⟨_,rfl⟩;have gp:os0.length=T:=by rw[g0];simp[<- HL.o];omega
   have g9:OkD os0:=by
    rw[g0];intro d hd;rcases Xa.1 hd with hd|hd
    . exact gx.o.ok d hd
    . rw[(List.mem_replicate.1 hd).2];omega
   have gn:valD os0=x:=by
    rw[g0,Ei,G5 _ (fun d hd=>(List.mem_replicate.1 hd).2),gv.o];simp
   have gQ:Hq (splice (u32V (List.replicate T 0)) 0 (u32V dx)=u32V os0):=Hd (by
    rw[g0,<- UA,<- HL.o,show L+(T-L)=T by omega])
   have HO:=Hd (show os0.length=T/\OkD os0/\valD os0=x from ⟨gp,g9,gn⟩);clear g0 gp g9 gn;go_upto_region 7 with (refine Zc rfl _ _ 40 40 rfl 131 underlying40 GC (some ⟨g,0,none⟩) a1 T T L c1 rfl rfl g 0 (u32V (List.replicate T 0)) 131 gy.o (u32V dx) (by rw[<- gi.o];exact(YK (by omega)).symm) (fun hp=>⟨rfl,gw.o.src (by rw[BV] at hp;exact hp)⟩) (by rw[<- gi.o,BV];simp;omega) (GD dx) wo.heap.size wo g5 gb ?_;intro w3 go gu)
   have gO:Hq (RowU w3 g os0):=Hd (by
    have:_=_:=go;rw[gQ.o] at this;exact this)
   have gS:=Hd gu;have gN:Hq (SumS os0 dy 0 0 os0):=Hd (SumS.start HO.o.2.1);clear go gu gy gw gL g5 gi
   generalize (if L<M then (M:Int) else (L:Int))=mx
   go_wp2_with fail
   go_loopw [7,8,9,28] (fun s7 _ _ s28 wr=>∃ (j cc:Nat) (rs:List Nat),j<=T/\s28=.int .i64 (j:Int)/\s7=.int .u32 (cc:Nat)/\Hq (SumS os0 dy j cc rs)/\Hq (RowU wr g rs)/\Hq (Bw wo wr)) (fun _ _ _ s28 _=>T-(intOf s28).toNat)
   case atStart=>exact⟨0,0,os0,WX _,rfl,rfl,gN,gO,gS⟩
   case round =>
    obtain⟨j,cc,rs,hj,rfl,rfl,HS,HR,HB2⟩:=hrel
    by_cases gq:j<T
    ·have gV:(j:Int)<(T:Int):=by omega
     have g8:=HS.o.len;have ck:=HR.o.cell (k:=j) (by rw[g8,HO.o.1];exact gq);rw[HS.o.high j (WM _)] at ck;have fk:wr.frozen? ⟨g,j,none⟩=false:=by have:=HR.o;unfold RowU at this;simp[World.frozen?,this]
     have g1:=Hd (HS.o.next HO.o.2.1 g6.o.ok (by rw[HO.o.1];exact gq));obtain⟨d,hd⟩:=Ex (os0.getD j 0);obtain⟨e,he⟩:=Ex (dy.getD j 0);rw[<- hd] at ck g1;rw[<- he] at g1;have gH:d<4294967296:=by rw[hd];exact CY HO.o.2.1 j
     have gr:e<4294967296:=by rw[he];exact CY g6.o.ok j
     have g2:=Hd (U1 (w:=wr) gH gr HS.o.c1);obtain⟨t,ht⟩:=Ex ((d+e+cc)%4294967296);obtain⟨b2,gd⟩:=Ex ((d+e+cc)/4294967296);rw[<- ht,<- gd] at g2 g1;have gh:=Hd (HR.o.set (k:=j) (d:=t));have gl:Hq (Bw wo (wr.setCell ⟨g,j,none⟩ (.int .u32 ((t:Nat):Int)))):=Hd (HB2.o.setCell gb _);have gg:=Hd (show ∃ (j' cc':Nat) (rs':List Nat),j'<=T/\(Value.int .i64 ((j:Int)+1))=.int .i64 (j':Int)/\(Value.int .u32 ((b2:Nat):Int))=.int .u32 (cc':Nat)/\Hq (SumS os0 dy j' cc' rs')/\Hq (RowU (wr.setCell ⟨g,j,none⟩ (.int .u32 ((t:Nat):Int))) g rs')/\Hq (Bw wo (wr.setCell ⟨g,j,none⟩ (.int .u32 ((t:Nat):Int)))) from ⟨j+1,b2,_,by omega,by rw[show ((j+1:Nat):Int)=(j:Int)+1 by omega],rfl,g1,gh,gl⟩)
     by_cases hm:j<M
     ·obtain⟨bb,oo,rfl,pk⟩:=g6.o.cells j (by rw[<- HM.o];exact hm);have pk2:=Cq HB2.o pk;rw[<- he] at pk2;have gE:(j:Int)<(M:Int):=by omega
      clear pk hd he ht gd g1 gh gl HS HR HB2 g8;go_wp2_with fail;refine g2.o.mono ?_;rintro q w' ⟨rfl,rfl⟩;go_wp2_with fail;go_roundw
      case rel=>exact gg.o
      case measure=>simp[intOf];omega
     ·have gE:¬ (j:Int)<(M:Int):=by omega
      have e0:e=0:=by
       rw[he];simp[List.getD,Xb (show dy.length<=j by rw[<- HM.o];omega)]
      rw[e0] at g2;have gC:Hq (Calls prog 73 #[.int .u32 (d:Nat),.int .u32 0,.int .u32 (cc:Nat)] wr (Sm (.tuple #[.int .u32 (t:Nat),.int .u32 (b2:Nat)]) wr)):=g2;clear hd he ht gd g1 gh gl HS HR HB2 g8 e0 gr g2;go_wp2_with fail;refine gC.o.mono ?_;rintro q w' ⟨rfl,rfl⟩;go_wp2_with fail;go_roundw
      case rel=>exact gg.o
      case measure=>simp[intOf];omega
    ·obtain rfl:j=T:=by omega
     have gA:¬ (j:Int)<(j:Int):=by omega
     have hS:=HS.o;rw[<- HO.o.1] at hS;have gc:=hS.done (by rw[<- HM.o,HO.o.1];omega) (by rw[HO.o.1,HO.o.2.2,ge.o];exact U9 gk.o gj.o gJ gI);rw[HO.o.2.2,ge.o,<- gf.o] at gc;have hT:=G7 (c:=j) (HR.o.at HS.o.ok (by rw[HS.o.len,HO.o.1];omega)) (by rw[HS.o.len,HO.o.1];exact WM _) (by omega);rw[gc,HS.o.len,HO.o.1] at hT;have HT:=Hd hT;have gR:=Hd (HB.o.trans (HB2.o.mono HB.o.size));clear hT gc hS HS HR HB2;go_wp2_with fail;refine HT.o.mono ?_;rintro e w' ⟨⟨v',rfl,hv,hq⟩,rfl⟩;have gK:Hq (NatV wr v' (xs.take (k+1)).sum/\∀ q,v'.ownBlock=some q->w.heap.size<=q):=Hd ⟨hv,fun q e=>by rw[hq q e];exact WU gz gb⟩;clear hv hq HT;go_wp2_with fail;go_roundw
     case rel=>exact⟨k+1,by omega,by rw[show ((k+1:Nat):Int)=(k:Int)+1 by omega],gK,gR⟩
     case measure=>simp[intOf];omega
  ·obtain rfl:k=n:=by omega
   have gA:¬ (k:Int)<(k:Int):=by omega
   have HF:Hq (P (.returned u3) wo):=Hd (by
    rw[gP.o];refine⟨⟨_,rfl,?_,HV.o.2⟩,HB.o⟩;have:=HV.o.1;rw[HN.o,Xx] at this;exact this)
   clear HV HB;go_wp2_with fail;exact HF.o
theorem UC {a:Option Addr}{xs:List Nat}(h:Ej w a xs)(hs:xs.sum<4294967296^1000) :
 Calls prog 19 #[.slice a xs.length c] w fun e w'=>(∃ v',e=.returned v'/\NatV w' v' xs.sum)/\Bw w w' :=
 (NG h hs).mono fun _ _ ⟨⟨v,h1,h2,_⟩,h3⟩=>⟨⟨v,h1,h2⟩,h3⟩
theorem JB (args:Array Value)(w:Wd):(callFunc 127 args).run prog w=.ok (.enter 127 args) w:=XY func127 (by kernel_rfl) rfl args w
theorem kEdS:CN prog 113 (Value.int .i64):=Im underlying113
theorem UD {es:Array MapEntry}(h:w.heap[b]?=some (.map es c))(hc:w.cell? ⟨b,k,none⟩=some v):False:=by
 simp[World.cell?,h] at hc
theorem NatV.other {κ:Type}[DecidableEq κ]{w w':Wd}{v:Value}{x b:Nat}{enc:κ->Value}{l:List (κ×Value)}(h:NatV w v x)(hm:Ar w b enc l)(hw:Wr (· = b) w w'):NatV w' v x:=by
 obtain⟨a,c,h1,h2,h3,h4⟩:=h;obtain⟨es,ck,hb,_⟩:=hm.ex;refine⟨a,c,h1,h2,h3,⟨h4.len,h4.ok,fun k hk=>?_⟩⟩;obtain⟨b',off,e,hc⟩:=h4.cells k hk;refine⟨b',off,e,Co hc (hw.keep b' (Ag hc) fun e2=>?_)⟩;have e2:b'=b:=e2;subst e2;exact UD hb hc
def BW (W:Wd)(fv:Value)(fx:Nat->Option Bool):Prop :=
 (fv=.map none/\∀ v,fx v=none)\/∃ ft l,fv=.map (some ft)/\Ar W ft (Value.int .i64) l/\∀ v:Nat,getL l (v:Int)=(fx v).map Value.bool
theorem BW.other {κ:Type}[DecidableEq κ]{W W':Wd}{fv:Value}{fx:Nat->Option Bool}{b:Nat}(h:BW W fv fx)(hne:fv ≠ .map (some b))(hw:Wr (· = b) W W'):BW W' fv fx:=by
 rcases h with h|⟨ft,l,h1,h2,h3⟩
 . exact .inl h
 . exact .inr ⟨ft,l,h1,h2.keepB (hw.keep ft h2.lt (fun e=>hne (by rw[h1,e]))),h3⟩
theorem BW.below {W W':Wd}{fv:Value}{fx:Nat->Option Bool}(h:BW W fv fx)(hb:Bw W W'):BW W' fv fx:=by
 rcases h with h|⟨ft,l,h1,h2,h3⟩
 . exact .inl h
 . exact .inr ⟨ft,l,h1,h2.below hb,h3⟩
theorem BW.lookup {W:Wd}{fv:Value}{fx:Nat->Option Bool}(h:BW W fv fx)(v:Nat) :
 (Instr.lookup 127 fv (.int .i64 (v:Nat)) true).run prog W=.ok (.tuple #[.bool ((fx v).getD false),.bool (fx v).isSome]) W:=by
 rcases h with ⟨rfl,h⟩|⟨ft,l,rfl,h2,h3⟩
 . rw[h v];have hu:=underlying127;have hz:=zeroValue4 W;have hk:=Dj.check W true (v:Int);have hf:=Dj.find W (v:Int) [] [] rfl;simp[Instr.lookup,Xt hu,hz,hk,hf,A8,Result.andThen]
 . rw[h2.lookup Dj underlying127 zeroValue4 (v:Int) true,h3 v];cases fx v<;>rfl
structure TtC where
 ba:Nat
 bt:Nat
 bk:Nat
 bx:Nat
 bf:Nat
 kt:Nat
 xb:Nat
def TtC.caps (c:TtC):Array Value:=#[.pointer (some ⟨c.ba,0,none⟩),.pointer (some ⟨c.bt,0,none⟩),.pointer (some ⟨c.bk,0,none⟩),.pointer (some ⟨c.bx,0,none⟩),.pointer (some ⟨c.bf,0,none⟩)]
structure TtS (F:Phi)(c:TtC)(mb:Nat)(o:Own)(m:ManD)(V:Nat->BF)(fv:Value)(fx:Nat->Option Bool)(W:Wd):Prop where
 is:A9 F o W mb m
 lt:Ab o W
 ok:Ai m.d V
 n64:m.d.vars.length<=64
 x:AH o W c.xb mb
 ba:∃ va,W.cell? ⟨c.ba,0,none⟩=some va/\NatV W va (2^m.d.vars.length)/\∀ q,va.ownBlock=some q->o q=none
 bt:W.cell? ⟨c.bt,0,none⟩=some (.func (.func 127) #[] c.caps)
 bk:W.cell? ⟨c.bk,0,none⟩=some (.map (some c.kt))
 bx:W.cell? ⟨c.bx,0,none⟩=some (.pointer (some ⟨c.xb,0,none⟩))
 bf:W.cell? ⟨c.bf,0,none⟩=some fv
 fix:BW W fv fx
 fne:fv ≠ .map (some c.kt)
 map:∃ l,Ar W c.kt (Value.int .i64) l/\∀ p∈l,∃ e:Nat,p.1=(e:Int)/\NatV W p.2 (totN m.d.vars.length fx (ef V e))/\∀ q,p.2.ownBlock=some q->o q=none
 own:o c.kt=none
 ne:c.kt≠c.ba/\c.kt≠c.bt/\c.kt≠c.bk/\c.kt≠c.bx/\c.kt≠c.bf/\c.kt≠c.xb
section
variable {F:Phi}{c:TtC}{o:Own}
theorem TtS.go (h:TtS F c mb o m V fv fx W)(hx:Wr (· = c.kt) W W')(hmap:∃ l,Ar W' c.kt (Value.int .i64) l/\∀ p∈l,∃ e:Nat,p.1=(e:Int)/\NatV W' p.2 (totN m.d.vars.length fx (ef V e))/\∀ q,p.2.ownBlock=some q->o q=none):TtS F c mb o m V fv fx W':=by
 have hc:∀ {b k:Nat} {v:Value},W.cell? ⟨b,k,none⟩=some v->c.kt≠b->W'.cell? ⟨b,k,none⟩=some v:=fun h h1=>(Xz (w:=W) (hx.keep _ (Ag h) (fun e=>h1 e.symm))).trans h
 obtain⟨n1,n2,n3,n4,n5,n6⟩:=h.ne;obtain⟨va,a1,a2,a3⟩:=h.ba;obtain⟨l,l1,l2⟩:=h.map;exact⟨h.is.other h.lt hx (fun k _ e=>by subst e;exact h.own),h.lt.mono hx.size,h.ok,h.n64,⟨hc h.x.cell n6,h.x.own⟩,⟨va,hc a1 n1,a2.other l1 hx,a3⟩,hc h.bt n2,hc h.bk n3,hc h.bx n4,hc h.bf n5,BW.other (κ:=Int) h.fix h.fne hx,h.fne,hmap,h.own,h.ne⟩
theorem TtS.below (h:TtS F c mb o m V fv fx W)(hb:Bw W W'):TtS F c mb o m V fv fx W':=by
 obtain⟨l,l1,l2⟩:=h.map;refine h.go (Wr.of_below hb _) ⟨l,l1.below hb,fun p hp=>?_⟩;obtain⟨e,e1,e2,e3⟩:=l2 p hp;exact⟨e,e1,e2.below hb,e3⟩
theorem TtS.get (h:TtS F c mb o m V fv fx W)(e:Nat):∃ r:Option Value,(∀ v,r=some v->NatV W v (totN m.d.vars.length fx (ef V e))/\∀ q,v.ownBlock=some q->o q=none) /\
 (Instr.lookup 195 (.map (some c.kt)) (.int .i64 (e:Nat)) true).run prog W=.ok (.tuple #[r.getD (.slice none 0 0),.bool r.isSome]) W:=by
 obtain⟨l,l1,l2⟩:=h.map;refine⟨getL l (e:Int),fun v hv=>?_,?_⟩
 . obtain⟨e',q1,q2,q3⟩:=l2 _ (DN hv);have:e=e':=Zw q1;subst this;exact⟨q2,q3⟩
 . have:=l1.lookup kEdS underlying195 zeroValue40 (e:Int) true;rw[this];cases getL l (e:Int)<;>rfl
theorem TtS.put (h:TtS F c mb o m V fv fx W)(e:Nat)(hv:NatV W v (totN m.d.vars.length fx (ef V e)))(hq:∀ q,v.ownBlock=some q->o q=none) :
 ∃ w',(Instr.mapUpdate 195 (.map (some c.kt)) (.int .i64 (e:Nat)) v).run prog W=.ok () w'/\Wr (· = c.kt) W w'/\TtS F c mb o m V fv fx w'/\NatV w' v (totN m.d.vars.length fx (ef V e)):=by
 obtain⟨l,l1,l2⟩:=h.map;obtain⟨w',r1,r2,r3⟩:=l1.update kEdS underlying195 (e:Int) v;have hw:Wr (· = c.kt) W w':=Wr.of_grown r3 _ (fun k e=>by cases e;rfl);refine⟨w',r1,hw,h.go hw ⟨_,r2,fun p hp=>?_⟩,hv.other l1 hw⟩;have hg:=Dx r2.nodup (k:=p.1) (v:=p.2) hp;rw[Ij l1.nodup] at hg
 by_cases ek:p.1=(e:Int)
 . rw[WR ek] at hg;refine⟨e,ek,?_⟩;rw[<- XL hg];exact⟨hv.other l1 hw,hq⟩
 . rw[WO ek] at hg;obtain⟨e',q1,q2,q3⟩:=l2 _ (DN hg);exact⟨e',q1,q2.other l1 hw,q3⟩
def TtR (F:Phi)(c:TtC)(mb:Nat)(o:Own)(m:ManD)(V:Nat->BF)(fv:Value)(fx:Nat->Option Bool)(g:Nat)(W:Wd)(x:Ending)(w':Wd):Prop :=
 ∃ v,x=.returned v/\Wr (· = c.kt) W w'/\TtS F c mb o m V fv fx w'/\NatV w' v (totN m.d.vars.length fx (ef V g))/\∀ q,v.ownBlock=some q->o q=none
end
section
variable {F:Phi}{c:TtC}{o:Own}
theorem UE (h:TtS F c mb o m V fv fx W):Calls prog 127 (#[.int .i64 0]++c.caps) W (TtR F c mb o m V fv fx 0 W):=by
 obtain⟨ba,bt,bk,bx,bf,kt,xb⟩:=c;obtain⟨va,cba,g1,g0⟩:=h.ba;have HF:Hq (TtR F ⟨ba,bt,bk,bx,bf,kt,xb⟩ mb o m V fv fx 0 W (.returned va) W):=Hd ⟨va,rfl,Wr.refl _ _,h,by rw[h.ok.dag.ef0,Nk];exact g1,g0⟩;unfold TtC.caps;obtain⟨P,hP⟩:=Ex (TtR F ⟨ba,bt,bk,bx,bf,kt,xb⟩ mb o m V fv fx 0 W);rw[<- hP] at HF ⊢;clear hP h g1 g0
 show Calls _ _ #[_,_,_,_,_,_] _ _
 go_enter func127,ntmps127
 go_wp2_with fail
 first|exact HF.o|(go_ret;exact HF.o)
theorem UF (hg:okE (Aa m.d) g)(hodd:g%2=1)(IH:∀ W,TtS F c mb o m V fv fx W->Calls prog 127 (#[.int .i64 (enot g:Nat)]++c.caps) W (TtR F c mb o m V fv fx (enot g) W))(h:TtS F c mb o m V fv fx W) :
 Calls prog 127 (#[.int .i64 (g:Nat)]++c.caps) W (TtR F c mb o m V fv fx g W):=by
 obtain⟨ba,bt,bk,bx,bf,kt,xb⟩:=c;have g3:=DD (K:=fun _ _=>F) (V:=V) h.is hg;have ge:¬ ((g:Nat):Int)=0:=by omega
 have g7:Hq (Calls prog 100 #[.int .i64 g] W (Sm (.bool true) W)):=Hd (by
  have:=Dt g W g3
  rwa [show eneg g=true by simp[eneg,hodd]] at this)
 obtain⟨wz,g0⟩:=Ex W.drew;have g4:Bw W wz:=by rw[g0];exact Ap W 1
 have hz:=h.below g4;have g9:=Hd g0;have g6:Hq (Calls prog 67 #[.int .i64 g] wz (Sm (.int .i64 (enot g:Nat)) wz)):=Hd (FB g wz g3);obtain⟨va,cba,g2,-⟩:=hz.ba;have cbt:=hz.bt;unfold TtC.caps at cbt;have HI:=Hd (IH wz hz);obtain⟨N,hN⟩:=Ex m.d.vars.length;have g8:totN N fx (ef V (enot g))<=2^N:=Nl _ _ _;have g1:2^N-totN N fx (ef V (enot g))=totN N fx (ef V g):=by
  have:=Up N fx (ef V (enot g));rw[<- this];congr 1;funext ρ
  show (!ef V (enot g) ρ)=_
  rw[Ds,Bool.not_not]
 have g5:Hq (∀ W1 v,NatV W1 v (totN N fx (ef V (enot g)))->NatV W1 va (2^N)->Calls prog 109 #[va,v] W1 fun e w'=>(∃ v',e=.returned (.tuple #[v',.bool true])/\NatV w' v' (totN N fx (ef V g))/\∀ q,v'.ownBlock=some q->W1.heap.size<=q)/\Bw W1 w'):=Hd fun W1 v h1 h2=>by
  have:=NC h2 h1 g8
  rwa [g1] at this
 rw[<- hN] at g2;have gb:=Hd g2;have gc:=Hd (Wr.of_below g4 (· = kt));obtain⟨P,hP⟩:=Ex (TtR F ⟨ba,bt,bk,bx,bf,kt,xb⟩ mb o m V fv fx g W);have gd:=Hd hP;rw[<- hP];have HZ:=Hd hz;have HN:=Hd hN;have eg1:=JB;unfold TtC.caps at HI ⊢;clear hP h IH hg g3 g0 g4 hz g2 g8 g1 hodd hN
 show Calls _ _ #[_,_,_,_,_,_] _ _
 go_enter func127,ntmps127
 go_wp2_with fail;refine g7.o.mono ?_;rintro x w' ⟨rfl,rfl⟩;clear g7;go_upto_region 4 with fail;refine Dk [0,1,2,3,4,5,6,7,8,9,10] (fun W'=>W'.cell? ⟨ba,0,none⟩=some va/\W'.cell? ⟨bt,0,none⟩=some (.func (.func 127) #[] #[.pointer (some ⟨ba,0,none⟩),.pointer (some ⟨bt,0,none⟩),.pointer (some ⟨bk,0,none⟩),.pointer (some ⟨bx,0,none⟩),.pointer (some ⟨bf,0,none⟩)])) (fun ch w'=>False) (fun c a w hd h=>h.elim) (by kernel_rfl) (by rw[<- g9.o];exact⟨cba,cbt⟩) ?_;rw[<- g9.o]
 iterate 3
  refine BM rfl rfl (by kernel_rfl) ?_;apply Exists.intro;refine⟨fun w' hw=>?_,?_⟩
  . obtain⟨q1,q2⟩:=hw;go_simp;rfl
  simp only[Ac]
 refine BG (R1:=fun u w'=>u=.int .i64 (enot g:Nat)/\wz=w') rfl (by kernel_rfl) rfl rfl (by go_simp) (g6.o.mono fun x w' h=>⟨_,h.1,rfl,h.2⟩) (by rintro u w' ⟨_,rfl⟩;exact⟨cba,cbt⟩) ?_;rintro u w'-⟨rfl,rfl⟩;simp only[Ac]
 refine BG (R1:=fun u w'=>Wr (· = kt) wz w'/\TtS F ⟨ba,bt,bk,bx,bf,kt,xb⟩ mb o m V fv fx w'/\NatV w' u (totN N fx (ef V (enot g)))) rfl (by kernel_rfl) rfl rfl (by go_simp) (HI.o.mono fun x w' ⟨v,e,q1,q2,q3,_⟩=>⟨v,e,q1,q2,by rw[HN.o];exact q3⟩) (by
  rintro u w' ⟨q1,q2,_⟩;refine⟨?_,q2.bt⟩;exact(Co cba (q1.keep ba (Ag cba) (fun e=>HZ.o.ne.1 e.symm)))) ?_
 rintro u1 w1 ⟨cba1,cbt1⟩ ⟨r1,s1,n1⟩;simp only[Ac];obtain⟨l1,ml1,_⟩:=HZ.o.map;have ga:=Hd (g5.o w1 u1 n1 (gb.o.other ml1 r1))
 refine BG (R1:=fun u w'=>∃ v',u=.tuple #[v',.bool true]/\(NatV w' v' (totN N fx (ef V g))/\∀ q,v'.ownBlock=some q->w1.heap.size<=q)/\Bw w1 w') rfl (by kernel_rfl) rfl rfl (by go_simp) (ga.o.mono fun x w' ⟨⟨v,e,q1⟩,q2⟩=>⟨_,e,v,rfl,q1,q2⟩) (by
  rintro u w' ⟨v,_,_,q⟩;exact⟨(Cq q cba1),(Cq q cbt1)⟩) ?_
 rintro u2 w2-⟨v2,rfl,⟨n2,k2⟩,p2⟩;simp only[Ac]
 have HF:Hq (P (.returned v2) w2):=Hd (by
  rw[gd.o];exact⟨v2,rfl,(gc.o.trans r1 (fun _ _ e=>e) (fun _ _ e=>e)).trans (Wr.of_below p2 (· = kt)) (fun _ _ e=>e) (fun _ _ e=>e),s1.below p2,(by rw[<- HN.o];exact n2),fun q e=>s1.lt.none (k2 q e)⟩)
 clear k2 n2 p2 n1 r1 s1 cba1 cbt1 ga HI g6 g5 ml1
 iterate 5
  refine BM rfl rfl (by kernel_rfl) ?_;apply Exists.intro;refine⟨fun w' hw=>?_,?_⟩
  . go_simp;rfl
  simp only[Ac]
 refine Dl (by kernel_rfl) ?_;clear cba cbt;go_wp2_with fail
 first|exact HF.o|(go_ret;exact HF.o)
theorem UG (hg:okE (Aa m.d) g)(h0:g≠0)(hev:g%2=0)(hv:NatV W v (totN m.d.vars.length fx (ef V g))/\∀ q,v.ownBlock=some q->o q=none)(hlk:(Instr.lookup 195 (.map (some c.kt)) (.int .i64 (g:Nat)) true).run prog W=.ok (.tuple #[v,.bool true]) W)(h:TtS F c mb o m V fv fx W) :
 Calls prog 127 (#[.int .i64 (g:Nat)]++c.caps) W (TtR F c mb o m V fv fx g W):=by
 obtain⟨ba,bt,bk,bx,bf,kt,xb⟩:=c;have g1:=DD (K:=fun _ _=>F) (V:=V) h.is hg;have g2:¬ ((g:Nat):Int)=0:=by omega
 have g0:Hq (Calls prog 100 #[.int .i64 g] W (Sm (.bool false) W)):=Hd (by
  have:=Dt g W g1
  rwa [show eneg g=false by simp[eneg,hev]] at this)
 have cbk:=h.bk;have HF:Hq (TtR F ⟨ba,bt,bk,bx,bf,kt,xb⟩ mb o m V fv fx g W (.returned v) W):=Hd ⟨v,rfl,Wr.refl _ _,h,hv.1,hv.2⟩;unfold TtC.caps;obtain⟨P,hP⟩:=Ex (TtR F ⟨ba,bt,bk,bx,bf,kt,xb⟩ mb o m V fv fx g W);rw[<- hP] at HF ⊢;clear hP h hv hg g1 hev h0
 show Calls _ _ #[_,_,_,_,_,_] _ _
 go_enter func127,ntmps127
 go_wp2_with fail;refine g0.o.mono ?_;rintro x w' ⟨rfl,rfl⟩;clear g0;go_wp2_with fail
 first|exact HF.o|(go_ret;exact HF.o)
theorem UH (IH:∀ g W,TtS F c mb o m V fv fx W->okE (Aa m.d) g->m.d.vars.length<=lvE m.d.vars.length (levN m.d) (Aa m.d) g+k->Calls prog 127 (#[.int .i64 (g:Nat)]++c.caps) W (TtR F c mb o m V fv fx g W))
 {g:Nat} {b:BN} (hb:Aa m.d (g/2)=some b) (hev:g%2=0) (hlev:m.d.vars.length<=lvE m.d.vars.length (levN m.d) (Aa m.d) g+(k+1)) {z:Value} (hlk:(Instr.lookup 195 (.map (some c.kt)) (.int .i64 (g:Nat)) true).run prog W=.ok (.tuple #[z,.bool false]) W) (h:TtS F c mb o m V fv fx W) :
 Calls prog 127 (#[.int .i64 (g:Nat)]++c.caps) W (TtR F c mb o m V fv fx g W):=by
 obtain⟨ba,bt,bk,bx,bf,kt,xb⟩:=c;have hg:okE (Aa m.d) g:=.inr ⟨b,hb⟩;have gE:=DD (K:=fun _ _=>F) (V:=V) h.is hg;have gs:=h.ok.dag.var _ _ hb;have hl:levN m.d b.v<=lvE m.d.vars.length (levN m.d) (Aa m.d) g:=by unfold lvE;rw[hb];exact WM _
 have gT:lvE m.d.vars.length (levN m.d) (Aa m.d) g=levN m.d b.v:=by unfold lvE;rw[hb]
 obtain⟨q1,q2,q3,q4,_⟩:=Bk h.ok hg gs hl;obtain⟨⟨_,c0f⟩,_,c1f⟩:=TT h.ok hb;have gX:¬ ((g:Nat):Int)=0:=fun e=>by
  have:g/2=0:=by omega
  rw[this,h.ok.dag.none0] at hb;cases hb
 have gC:Hq (Calls prog 100 #[.int .i64 g] W (Sm (.bool false) W)):=Hd (by
  have:=Dt g W gE
  rwa [show eneg g=false by simp[eneg,hev]] at this)
 obtain⟨lo,gp⟩:∃ z,z=(cofs m.d g b.v).1:=⟨_,rfl⟩;obtain⟨hi,gq⟩:∃ z,z=(cofs m.d g b.v).2:=⟨_,rfl⟩;rw[<- gp] at q1 q3 c0f;rw[<- gq] at q2 q4 c1f;obtain⟨bv,g3⟩:∃ z,z=b.v:=⟨_,rfl⟩;have gz:Hq (∀ W' s,TtS F ⟨ba,bt,bk,bx,bf,kt,xb⟩ mb o m V fv fx W'->W'.heap[s]?=some (.cells #[.int .i64 g] 113 (0,0))->Calls prog 101 #[Pt xb,.slice (some ⟨s,0,none⟩) 1 1] W' (Bl (.int .i64 (bv:Nat)) W')):=Hd fun W' s g' hs=>by
  refine(FZ g'.is g'.lt g'.x g'.ok [g] (by simpa using hg) (some ⟨s,0,none⟩) 1 ⟨by simp,fun i gU=>?_⟩).mono ?_
  ·obtain rfl:i=0:=by simpa using gU
   exact⟨s,0,rfl,by rw[WQ _ _ 0 _ _ _ hs];rfl⟩
  ·rintro x w' ⟨top,least,rfl,ht,gS⟩;rcases ML ht with ⟨_,hn⟩|⟨b',gF,rfl⟩
   . rw[hb] at hn;cases hn
   . rw[hb] at gF;cases gF;exact⟨by rw[g3],gS⟩
 have gM:Hq (∀ W',TtS F ⟨ba,bt,bk,bx,bf,kt,xb⟩ mb o m V fv fx W'->Calls prog 102 #[Pt xb,.int .i64 g,.int .i64 (bv:Nat)] W' (Bl (.tuple #[.int .i64 lo,.int .i64 hi]) W')):=Hd fun W' g'=>by
  have:=Fb g'.is g'.lt g'.x g'.ok g hg (b.v:Nat);rw[<- gp,<- gq,<- g3] at this;exact this
 have gQ:Hq (∀ W',TtS F ⟨ba,bt,bk,bx,bf,kt,xb⟩ mb o m V fv fx W'->(Instr.lookup 127 fv (.int .i64 (bv:Nat)) true).run prog W'=.ok (.tuple #[.bool ((fx bv).getD false),.bool (fx bv).isSome]) W'):=Hd fun W' g'=>g'.fix.lookup bv
 obtain⟨N,hN⟩:=Ex m.d.vars.length;have HN:=Hd hN;have gg:Hq (∀ W',TtS F ⟨ba,bt,bk,bx,bf,kt,xb⟩ mb o m V fv fx W'->Calls prog 127 #[.int .i64 lo,Pt ba,Pt bt,Pt bk,Pt bx,Pt bf] W' fun x w'=>∃ v,x=.returned v/\Wr (· = kt) W' w'/\TtS F ⟨ba,bt,bk,bx,bf,kt,xb⟩ mb o m V fv fx w'/\NatV w' v (totN N fx (ef V lo))/\∀ q,v.ownBlock=some q->o q=none):=Hd fun W' g'=>by
  rw[hN];exact IH lo W' g' q1 (by omega)
 have gf:Hq (∀ W',TtS F ⟨ba,bt,bk,bx,bf,kt,xb⟩ mb o m V fv fx W'->Calls prog 127 #[.int .i64 hi,Pt ba,Pt bt,Pt bk,Pt bx,Pt bf] W' fun x w'=>∃ v,x=.returned v/\Wr (· = kt) W' w'/\TtS F ⟨ba,bt,bk,bx,bf,kt,xb⟩ mb o m V fv fx w'/\NatV w' v (totN N fx (ef V hi))/\∀ q,v.ownBlock=some q->o q=none):=Hd fun W' g'=>by
  rw[hN];exact IH hi W' g' q2 (by omega)
 have hn64:=h.n64;rw[<- hN] at hn64;have g8:Hq (∀ G,totN N fx G<=18446744073709551616):=Hd fun G=>WU (Nl _ _ _) (WU (Xo (by omega) hn64) (by decide))
 have g6:Hq (∀ y,fx bv=some y->totN N fx (ef V (if y then hi else lo))=totN N fx (ef V g)):=Hd fun y hy=>by
  rw[g3] at hy;cases y with
  | true=>rw[WR rfl,c1f,Nm hy]
  | false=>rw[WO (by simp),c0f,Nm hy]
 have g7:Hq (fx bv=none->(totN N fx (ef V lo)+totN N fx (ef V hi))/2=totN N fx (ef V g)):=Hd fun hy=>by
  rw[g3] at hy;rw[c0f,c1f];exact Nn hy (by rw[hN];exact gs) _
 have g1:Hq (∀ W' v,TtS F ⟨ba,bt,bk,bx,bf,kt,xb⟩ mb o m V fv fx W'->NatV W' v (totN N fx (ef V g))->(∀ q,v.ownBlock=some q->o q=none)->∃ w',(Instr.mapUpdate 195 (.map (some kt)) (.int .i64 (g:Nat)) v).run prog W'=.ok () w'/\Wr (· = kt) W' w'/\TtS F ⟨ba,bt,bk,bx,bf,kt,xb⟩ mb o m V fv fx w'/\NatV w' v (totN N fx (ef V g))):=Hd fun W' v g' hv hq=>by
  rw[hN] at hv ⊢;exact g'.put g hv hq
 have cbk:=h.bk;have HS:=Hd h;obtain⟨P,hP⟩:=Ex (TtR F ⟨ba,bt,bk,bx,bf,kt,xb⟩ mb o m V fv fx g W)
 have HP:Hq (∀ w' v,Wr (· = kt) W w'->TtS F ⟨ba,bt,bk,bx,bf,kt,xb⟩ mb o m V fv fx w'->NatV w' v (totN N fx (ef V g))->(∀ q,v.ownBlock=some q->o q=none)->P (.returned v) w'):=Hd (by
  rw[hP];exact fun w' v p1 p2 p3 p4=>⟨v,rfl,p1,p2,(by rw[<- hN];exact p3),p4⟩)
 have eg1:=JB;unfold TtC.caps;rw[<- hP];clear hP h IH hb hev hlev hg gE gs hl gT q1 q2 q3 q4 c0f c1f gp gq g3 hN hn64
 show Calls _ _ #[_,_,_,_,_,_] _ _
 go_enter func127,ntmps127
 go_wp2_with fail;refine gC.o.mono ?_;rintro x w' ⟨rfl,rfl⟩;clear gC;have cbx:=HS.o.bx;have gk:=Af W (.cells #[.int .i64 g] 113);obtain⟨w4,gi⟩:=Ex (W.alloc (.cells #[.int .i64 g] 113));rw[<- gi] at gk;have go:w4.heap[W.heap.size]?=some (.cells #[.int .i64 g] 113 (0,0)):=by rw[gi];exact WN _ _
 have gB:=Hd (HS.o.below gk);have gJ:=Hd (Wr.of_below gk (· = kt));have gL:=Hd (gz.o w4 _ gB.o go);have gK:Hq (Calls prog 101 #[Pt xb,.slice (some ⟨W.heap.size,0,none⟩) 1 1] (W.alloc (.cells #[.int .i64 g] 113)) (Bl (.int .i64 (bv:Nat)) w4)):=Hd (by have:=gL.o;rw[gi] at this ⊢;exact this);clear gk gi go gL gz;go_wp2_with fail;refine gK.o.mono ?_;rintro x w5 ⟨rfl,gu⟩;have gl:=Hd (gB.o.below gu);have gI:=Hd (gJ.o.trans (Wr.of_below gu (· = kt)) (fun _ _ e=>e) (fun _ _ e=>e));have cbx5:=gl.o.bx;have gA:=Hd (gM.o w5 gl.o);clear gu gK gB gJ cbx cbk hlk HS gM;go_wp2_with fail;refine gA.o.mono ?_;rintro x w6 ⟨rfl,gt⟩;have g2:=Hd (gl.o.below gt);have gb:=Hd (gI.o.trans (Wr.of_below gt (· = kt)) (fun _ _ e=>e) (fun _ _ e=>e));have cbf6:=g2.o.bf;have g0:=gQ.o w6 g2.o;have cbt6:=g2.o.bt;unfold TtC.caps at cbt6;clear gt gA gl gI cbx5 gQ;cases g4:fx bv with
 | some y =>
   have gj:=g6.o y g4;rw[g4] at g0;have g5:(Instr.lookup 127 fv (.int .i64 (bv:Nat)) true).run prog w6=.ok (.tuple #[.bool y,.bool true]) w6:=g0;clear g0 g4 g6 g7 g8;cases y with
   | true =>
     have gc:Hq (totN N fx (ef V hi)=totN N fx (ef V g)):=Hd gj;have HC:=Hd (gf.o w6 g2.o);clear gj gg gf;go_wp2_with fail;refine HC.o.mono ?_;rintro x w7 ⟨v7,rfl,r7,s7,n7,k7⟩;rw[gc.o] at n7;obtain⟨wc,gD,rc,sc,nc⟩:=g1.o w7 v7 s7 n7 k7;have HF:=Hd (HP.o wc v7 ((gb.o.trans r7 (fun _ _ e=>e) (fun _ _ e=>e)).trans rc (fun _ _ e=>e) (fun _ _ e=>e)) sc nc k7);have cbk8:=s7.bk;clear k7 r7 s7 n7 rc sc nc HC g1 HP g2 gb g5 cbf6 cbt6 gc;go_wp2_with fail
     first|exact HF.o|(go_ret;exact HF.o)
   | false =>
     have gc:Hq (totN N fx (ef V lo)=totN N fx (ef V g)):=Hd gj;have HC:=Hd (gg.o w6 g2.o);clear gj gg gf;go_wp2_with fail;refine HC.o.mono ?_;rintro x w7 ⟨v7,rfl,r7,s7,n7,k7⟩;rw[gc.o] at n7;obtain⟨wc,gD,rc,sc,nc⟩:=g1.o w7 v7 s7 n7 k7;have HF:=Hd (HP.o wc v7 ((gb.o.trans r7 (fun _ _ e=>e) (fun _ _ e=>e)).trans rc (fun _ _ e=>e) (fun _ _ e=>e)) sc nc k7);have cbk8:=s7.bk;clear k7 r7 s7 n7 rc sc nc HC g1 HP g2 gb g5 cbf6 cbt6 gc;go_wp2_with fail
     first|exact HF.o|(go_ret;exact HF.o)
 | none =>
   have gO:=Hd (g7.o g4);rw[g4] at g0;have g5:(Instr.lookup 127 fv (.int .i64 (bv:Nat)) true).run prog w6=.ok (.tuple #[.bool false,.bool false]) w6:=g0;clear g0 g4 g6 g7;go_upto_region 13 with fail;clear g5 cbf6;obtain⟨wz,gm⟩:=Ex w6.drew;have gr:Bw w6 wz:=by rw[gm];exact Ap w6 1
   have gH:=Hd gm;have HSZ:=Hd (g2.o.below gr);have gv:=Hd (gb.o.trans (Wr.of_below gr (· = kt)) (fun _ _ e=>e) (fun _ _ e=>e));have cz:=HSZ.o.bt;unfold TtC.caps at cz;clear gm gr;refine Dk [0,1,3,4,2,5,6,7,8,9,10,11,12] (fun W'=>W'.cell? ⟨bt,0,none⟩=some (.func (.func 127) #[] #[.pointer (some ⟨ba,0,none⟩),.pointer (some ⟨bt,0,none⟩),.pointer (some ⟨bk,0,none⟩),.pointer (some ⟨bx,0,none⟩),.pointer (some ⟨bf,0,none⟩)])) (fun ch w'=>False) (fun c a w hd h=>h.elim) (by kernel_rfl) (by rw[<- gH.o];exact cz) ?_;rw[<- gH.o]
   iterate 4
    refine BM rfl rfl (by kernel_rfl) ?_;apply Exists.intro;refine⟨fun w' hw=>?_,?_⟩
    . have q1:w'.cell? ⟨bt,0,none⟩=some (.func (.func 127) #[] #[.pointer (some ⟨ba,0,none⟩),.pointer (some ⟨bt,0,none⟩),.pointer (some ⟨bk,0,none⟩),.pointer (some ⟨bx,0,none⟩),.pointer (some ⟨bf,0,none⟩)]):=hw;go_simp;rfl
    simp only[Ac]
   refine BG (R1:=fun u w'=>Wr (· = kt) wz w'/\TtS F ⟨ba,bt,bk,bx,bf,kt,xb⟩ mb o m V fv fx w'/\NatV w' u (totN N fx (ef V lo))) rfl (by kernel_rfl) rfl rfl (by go_simp) ((gg.o wz HSZ.o).mono fun x w' ⟨v,e,h1,h2,h3,_⟩=>⟨v,e,h1,h2,h3⟩) (by rintro u w' ⟨_,q2,_⟩;exact q2.bt) ?_;rintro u1 w7-⟨r1,s1,n1⟩;simp only[Ac];refine BG (R1:=fun u w'=>Wr (· = kt) w7 w'/\TtS F ⟨ba,bt,bk,bx,bf,kt,xb⟩ mb o m V fv fx w'/\NatV w' u (totN N fx (ef V hi))) rfl (by kernel_rfl) rfl rfl (by go_simp) ((gf.o w7 s1).mono fun x w' ⟨v,e,h1,h2,h3,_⟩=>⟨v,e,h1,h2,h3⟩) (by rintro u w' ⟨_,q2,_⟩;exact q2.bt) ?_;rintro u2 w8-⟨r2,s2,n2⟩;simp only[Ac];obtain⟨l1,ml1,_⟩:=s1.map;have n1':=n1.other ml1 r2;obtain⟨ax,lx,cx,rfl⟩:∃ a l c,u1=.slice a l c:=by
    obtain⟨a,c,e,_⟩:=n1;exact⟨a,_,c,e⟩
   obtain⟨ay,ly,cy,rfl⟩:∃ a l c,u2=.slice a l c:=by
    obtain⟨a,c,e,_⟩:=n2;exact⟨a,_,c,e⟩
   obtain⟨w9,gh⟩:=Ex (w8.alloc (.cells #[.slice ax lx cx,.slice ay ly cy] 40));have ga:Bw w8 w9:=by rw[gh];exact Af _ _
   have g9:w9.heap[w8.heap.size]?=some (.cells #[.slice ax lx cx,.slice ay ly cy] 40 (0,0)):=by rw[gh];exact WN _ _
   have gy:=Hd gh;have ge:=Hd (s2.below ga);have gx:=Hd (((gv.o.trans r1 (fun _ _ e=>e) (fun _ _ e=>e)).trans r2 (fun _ _ e=>e) (fun _ _ e=>e)).trans (Wr.of_below ga (· = kt)) (fun _ _ e=>e) (fun _ _ e=>e))
   have gG:Ej w9 (some ⟨w8.heap.size,0,none⟩) [totN N fx (ef V lo),totN N fx (ef V hi)]:=⟨by simp,fun k hk=>by
    have gV:k<2:=by simpa using hk
    rcases(show k=0\/k=1 by omega) with rfl|rfl
    . exact⟨_,_,_,rfl,by rw[WQ _ _ _ _ _ _ g9];rfl,n1'.below ga⟩
    . exact⟨_,_,_,rfl,by rw[WQ _ _ _ _ _ _ g9];rfl,n2.below ga⟩⟩
   have gn:[totN N fx (ef V lo),totN N fx (ef V hi)].sum<4294967296^1000:=by
    have h1:=g8.o (ef V lo);have h2:=g8.o (ef V hi);have h3:[totN N fx (ef V lo),totN N fx (ef V hi)].sum<4294967296^3:=by
     rw[show (4294967296:Nat)^3=79228162514264337593543950336 by decide];simp only[List.sum_cons,List.sum_nil];omega
    exact Xh h3 (Xo (n:=4294967296) (i:=3) (j:=1000) (by omega) (by omega))
   have gR:=Hd (UC (c:=2) gG gn);refine Us (w':=w9) (v:=.slice (some ⟨w8.heap.size,0,none⟩) 2 2) rfl (by kernel_rfl) rfl (by go_simp<;>exact gy.o.symm) ge.o.bt ?_;simp only[Ac];refine BG (R1:=fun u w'=>NatV w' u (totN N fx (ef V lo)+totN N fx (ef V hi))/\Bw w9 w') rfl (by kernel_rfl) rfl rfl (by go_simp) (gR.o.mono fun x w' ⟨⟨v,e,q1⟩,q2⟩=>⟨v,e,by simpa using q1,q2⟩) (by rintro u w' ⟨_,q⟩;exact(q.cell (p:=⟨bt,0,none⟩) (Ag ge.o.bt)).trans ge.o.bt) ?_;rintro u3 wa-⟨n3,p3⟩;simp only[Ac];have gP:=Hd (NA n3);have gd:=Hd (ge.o.below p3);refine BG (R1:=fun u w'=>∃ v' bb,u=.tuple #[v',.bool bb]/\(NatV w' v' ((totN N fx (ef V lo)+totN N fx (ef V hi))/2)/\∀ q,v'.ownBlock=some q->wa.heap.size<=q)/\Bw wa w') rfl (by kernel_rfl) rfl rfl (by go_simp) (gP.o.mono fun x w' ⟨⟨v,e,q1⟩,q2⟩=>⟨_,e,v,_,rfl,q1,q2⟩) (by rintro u w' ⟨_,_,_,_,q⟩;exact(q.cell (p:=⟨bt,0,none⟩) (Ag gd.o.bt)).trans gd.o.bt) ?_;rintro u4 wb-⟨v4,b4,rfl,⟨n4,k4⟩,p4⟩;have k5:∀ q,v4.ownBlock=some q->o q=none:=fun q e=>gd.o.lt.none (k4 q e)
   rw[gO.o] at n4;simp only[Ac];have gN:=Hd (gd.o.below p4);have gw:=Hd ((gx.o.trans (Wr.of_below p3 (· = kt)) (fun _ _ e=>e) (fun _ _ e=>e)).trans (Wr.of_below p4 (· = kt)) (fun _ _ e=>e) (fun _ _ e=>e));obtain⟨wc,gD,rc,sc,nc⟩:=g1.o wb v4 gN.o n4 k5;have HF:=Hd (HP.o wc v4 (gw.o.trans rc (fun _ _ e=>e) (fun _ _ e=>e)) sc nc k5);have cbk8:=gN.o.bk;clear k4 k5 n1 n1' n2 n3 n4 r1 r2 s1 s2 gh ga g9 gG gn ml1 p3 p4 rc sc nc gR gP gg gf ge gx gd gw g1 g8 gO gy cz HSZ gv
   iterate 4
    refine BM rfl rfl (by kernel_rfl) ?_;apply Exists.intro;refine⟨fun w' hw=>?_,?_⟩
    . go_simp;rfl
    simp only[Ac]
   refine Dl (by kernel_rfl) ?_;go_wp2_with fail
   first|exact HF.o|(go_ret;exact HF.o)
theorem NH (IH:∀ j,k=j+1->∀ g W,TtS F c mb o m V fv fx W->okE (Aa m.d) g->m.d.vars.length<=lvE m.d.vars.length (levN m.d) (Aa m.d) g+j->Calls prog 127 (#[.int .i64 (g:Nat)]++c.caps) W (TtR F c mb o m V fv fx g W))
 {g:Nat} (h:TtS F c mb o m V fv fx W) (hg:okE (Aa m.d) g) (hev:g%2=0) (hl:m.d.vars.length<=lvE m.d.vars.length (levN m.d) (Aa m.d) g+k) :
 Calls prog 127 (#[.int .i64 (g:Nat)]++c.caps) W (TtR F c mb o m V fv fx g W):=by
 by_cases h0:g=0
 . subst h0;exact UE h
 ·rcases hg with h1|⟨b,hb⟩
  . omega
  ·obtain⟨r,hr,g0⟩:=h.get g;cases r with
   | some v=>exact UG (.inr ⟨b,hb⟩) h0 hev (hr v rfl) g0 h
   | none =>
     cases k with
     | zero =>
       exfalso;have h1:=h.ok.dag.lt b.v (h.ok.dag.var _ _ hb);unfold lvE at hl;rw[hb] at hl;simp at hl;omega
     | succ j=>exact UH (fun g W=>IH j rfl g W) hb hev hl g0 h
theorem NI (IH:∀ j,k=j+1->∀ g W,TtS F c mb o m V fv fx W->okE (Aa m.d) g->m.d.vars.length<=lvE m.d.vars.length (levN m.d) (Aa m.d) g+j->Calls prog 127 (#[.int .i64 (g:Nat)]++c.caps) W (TtR F c mb o m V fv fx g W))
 {g:Nat} (h:TtS F c mb o m V fv fx W) (hg:okE (Aa m.d) g) (hl:m.d.vars.length<=lvE m.d.vars.length (levN m.d) (Aa m.d) g+k) :
 Calls prog 127 (#[.int .i64 (g:Nat)]++c.caps) W (TtR F c mb o m V fv fx g W):=by
 rcases(show g%2=0\/g%2=1 by omega) with he|he
 . exact NH IH h hg he hl
 . refine UF hg he (fun W h=>NH IH h (GV hg) (by rw[FA];omega) ?_) h;unfold lvE at hl ⊢;rw[Dr];exact hl
theorem NJ:∀ (k g:Nat) (W:Wd),TtS F c mb o m V fv fx W->okE (Aa m.d) g->m.d.vars.length<=lvE m.d.vars.length (levN m.d) (Aa m.d) g+k->Calls prog 127 (#[.int .i64 (g:Nat)]++c.caps) W (TtR F c mb o m V fv fx g W)
 | 0,_,_,h,hg,hl=>NI (k:=0) (fun j e=>by omega) h hg hl
 | k+1,_,_,h,hg,hl=>NI (k:=k+1) (fun j e g W h hg hl=>by
  obtain rfl:k=j:=by omega
  exact NJ k g W h hg hl) h hg hl
end
def ctL (cs:List (Nat×Nat)):List (Int×Value):=cs.map fun p=>((p.1:Int),(.int .i64 (p.2:Nat):Value))
theorem JC (v:Nat):∀ (cs:List (Nat×Nat)) (i:Nat),(A8 (v:Int) (ctL cs) i=none/\getC v cs=0/\Bz v cs=cs++[(v,1)])\/∃ j,A8 (v:Int) (ctL cs) i=some (i+j,.int .i64 (getC v cs:Nat))/\Bz v cs=cs.set j (v,getC v cs+1)
 | [],i=>.inl ⟨rfl,rfl,rfl⟩
 | p::r,i=>by
   by_cases h:p.1=v
   ·refine .inr ⟨0,?_,?_⟩
    ·show (if (p.1:Int)=(v:Int) then _ else _)=_
     rw[WR (by rw[h])];simp[getC,h]
    . simp[Bz,getC,h]
   ·have hne:¬ (p.1:Int)=(v:Int):=fun e=>h (Zw e)
    have e1:∀ i,A8 (v:Int) (ctL (p::r)) i=A8 (v:Int) (ctL r) (i+1):=fun i=>by
     show (if (p.1:Int)=(v:Int) then _ else _)=_
     rw[WO hne];rfl
    rcases JC v r (i+1) with ⟨a,b,c⟩|⟨j,a,b⟩
    . exact .inl ⟨by rw[e1,a],by simp[getC,h,b],by simp[Bz,h,c]⟩
    ·refine .inr ⟨j+1,?_,?_⟩
     . rw[e1,a];simp[getC,h];omega
     . simp[Bz,h,b,getC]
theorem NK {cs:List (Nat×Nat)}(h:Ar w b (Value.int .i64) (ctL cs))(v:Nat) :
 (Instr.lookup 202 (.map (some b)) (.int .i64 (v:Nat)) false).run prog w=.ok (.int .i64 (getC v cs:Nat)) w:=by
 have:=h.lookup Dj underlying202 zeroValue3 (v:Int) false;rw[this];unfold getL;rcases JC v cs 0 with ⟨a,b,_⟩|⟨j,a,_⟩
 . rw[a,b];simp
 . rw[a];simp
theorem UI {cs:List (Nat×Nat)}(h:Ar w b (Value.int .i64) (ctL cs))(v:Nat){c:Int}(hc:c=(getC v cs+1:Nat)) :
 ∃ w',(Instr.mapUpdate 202 (.map (some b)) (.int .i64 (v:Nat)) (.int .i64 c)).run prog w=.ok () w'/\Ar w' b (Value.int .i64) (ctL (Bz v cs))/\w.grownBy w' (some b):=by
 obtain⟨w',h1,h2,h3⟩:=h.update Dj underlying202 (v:Int) (.int .i64 c);refine⟨w',h1,?_,h3⟩;have e:putL (v:Int) (.int .i64 c) (ctL cs)=ctL (Bz v cs):=by
  unfold putL;subst hc;rcases JC v cs 0 with ⟨a,b,q⟩|⟨j,a,q⟩
  . rw[a,q];simp[ctL,b]
  . rw[a,q];simp[ctL,Yv]
 rw[<- e];exact h2
theorem UJ (args:Array Value)(w:Wd):(callFunc 170 args).run prog w=.ok (.enter 170 args) w:=XY func170 (by kernel_rfl) rfl args w
structure SnC where
 bm:Nat
 bx:Nat
 bn:Nat
 bd:Nat
 mt:Nat
 nt:Nat
 xb:Nat
def SnC.caps (c:SnC):Array Value:=#[.pointer (some ⟨c.bm,0,none⟩),.pointer (some ⟨c.bx,0,none⟩),.pointer (some ⟨c.bn,0,none⟩),.pointer (some ⟨c.bd,0,none⟩)]
def SnC.two (c:SnC)(k:Nat):Prop:=k=c.mt\/k=c.nt
structure SnS (F:Phi)(c:SnC)(mb:Nat)(o:Own)(m:ManD)(V:Nat->BF)(met:List Nat)(cs:List (Nat×Nat))(W:Wd):Prop where
 is:A9 F o W mb m
 lt:Ab o W
 ok:Ai m.d V
 x:AH o W c.xb mb
 bm:W.cell? ⟨c.bm,0,none⟩=some (.map (some c.mt))
 bx:W.cell? ⟨c.bx,0,none⟩=some (.pointer (some ⟨c.xb,0,none⟩))
 bn:W.cell? ⟨c.bn,0,none⟩=some (.map (some c.nt))
 bd:W.cell? ⟨c.bd,0,none⟩=some (.func (.func 170) #[] c.caps)
 map:Ar W c.mt (Value.int .i64) (mtL met)
 cnt:Ar W c.nt (Value.int .i64) (ctL cs)
 own:∀ q,(q=c.bm\/q=c.bx\/q=c.bn\/q=c.bd\/q=c.mt\/q=c.nt)->o q=none
 ne:c.mt≠c.bm/\c.mt≠c.bx/\c.mt≠c.bn/\c.mt≠c.bd/\c.mt≠c.xb/\c.mt≠c.nt
 ne2:c.nt≠c.bm/\c.nt≠c.bx/\c.nt≠c.bn/\c.nt≠c.bd/\c.nt≠c.xb
 mok:Cm m.d met
section
variable {F:Phi}{c:SnC}{o:Own}{met':List Nat}{cs cs':List (Nat×Nat)}
theorem SnS.go (h:SnS F c mb o m V met cs W)(hx:Wr c.two W W')(hm:Ar W' c.mt (Value.int .i64) (mtL met'))(hn:Ar W' c.nt (Value.int .i64) (ctL cs'))(hk:Cm m.d met'):SnS F c mb o m V met' cs' W':=by
 have hc:∀ {b k:Nat} {v:Value},W.cell? ⟨b,k,none⟩=some v->c.mt≠b->c.nt≠b->W'.cell? ⟨b,k,none⟩=some v:=fun h h1 h2=>(Xz (w:=W) (hx.keep _ (Ag h) (fun e=>e.elim (fun e=>h1 e.symm) (fun e=>h2 e.symm)))).trans h
 obtain⟨n1,n2,n3,n4,n5,n6⟩:=h.ne;obtain⟨k1,k2,k3,k4,k5⟩:=h.ne2;exact⟨h.is.other h.lt hx (fun k _ e=>h.own k (.inr (.inr (.inr (.inr e))))),h.lt.mono hx.size,h.ok,⟨hc h.x.cell n5 k5,h.x.own⟩,hc h.bm n1 k1,hc h.bx n2 k2,hc h.bn n3 k3,hc h.bd n4 k4,hm,hn,h.own,h.ne,h.ne2,hk⟩
theorem SnS.below (h:SnS F c mb o m V met cs W)(hb:Bw W W'):SnS F c mb o m V met cs W':=h.go (Wr.of_below hb _) (h.map.below hb) (h.cnt.below hb) h.mok
def SnR (F:Phi)(c:SnC)(mb:Nat)(o:Own)(m:ManD)(V:Nat->BF)(met:List Nat)(W:Wd)(x:Ending)(w':Wd):Prop:=x=.returned (.tuple #[])/\Wr c.two W w'/\SnS F c mb o m V met (tally m.d met) w'
theorem JD (h:SnS F c mb o m V met (tally m.d met) W)(hf:okE (Aa m.d) f)(hst:f/2=0\/f/2∈met):Calls prog 170 (#[.int .i64 f]++c.caps) W (SnR F c mb o m V met W):=by
 obtain⟨bm,bx,bn,bd,mt,nt,xb⟩:=c;have g2:=DD (K:=fun _ _=>F) (V:=V) h.is hf;have g0:Hq (∀ q,Calls prog 99 #[.int .i64 f] (W.drewN q) fun x w'=>x=.returned (.bool (decide (enode f=0)))/\W.drewN q=w'):=Hd fun q=>FC f _ g2
 have g1:Hq (∀ q,Calls prog 142 #[.int .i64 f] (W.drewN q) fun x w'=>x=.returned (.int .i64 (enode f:Nat))/\W.drewN q=w'):=Hd fun q=>B7 f _ g2
 have g3:∀ q,(Instr.lookup 127 (.map (some mt)) (.int .i64 (enode f:Nat)) false).run prog (W.drewN q)=.ok (.bool (decide (enode f∈met))) (W.drewN q):=fun q=>Np (h.below (Ap W q)).map (enode f)
 have cbm:=h.bm;have HF:Hq (∀ q,SnR F ⟨bm,bx,bn,bd,mt,nt,xb⟩ mb o m V met W (.returned (.tuple #[])) (W.drewN q)):=Hd fun q=>⟨rfl,Wr.of_below (Ap W q) _,h.below (Ap W q)⟩
 obtain⟨P,hP⟩:=Ex (SnR F ⟨bm,bx,bn,bd,mt,nt,xb⟩ mb o m V met W);rw[<- hP] at HF ⊢;unfold SnC.caps;clear hP h
 show Calls _ _ #[_,_,_,_,_] _ _
 rcases hst with h0|h0
 ·rw[XA (show enode f=0 from h0)] at g0
  go_enter func170,ntmps170
  go_wp2_with fail
  go_quiet ((first|(with_reducible exact Cx (g0.o _))|(with_reducible exact Cx (g1.o _))))
  go_wp2_with fail;refine Xc (Ye rfl _ _ _) rfl ?_;exact HF.o _
 ·simp only[XA (show enode f∈met from h0)] at g3
  by_cases h1:enode f=0
  ·rw[XA h1] at g0
   go_enter func170,ntmps170
   go_wp2_with fail
   go_quiet ((first|(with_reducible exact Cx (g0.o _))|(with_reducible exact Cx (g1.o _))))
   go_wp2_with fail;refine Xc (Ye rfl _ _ _) rfl ?_;exact HF.o _
  ·rw[X8 h1] at g0
   go_enter func170,ntmps170
   go_wp2_with fail
   go_quiet ((first|(with_reducible exact Cx (g0.o _))|(with_reducible exact Cx (g1.o _))))
   go_wp2_with fail;refine Xc (Ye rfl _ _ _) rfl ?_;exact HF.o _
theorem UK (IH:∀ met f W,SnS F c mb o m V met (tally m.d met) W->okE (Aa m.d) f->m.d.vars.length<=lvE m.d.vars.length (levN m.d) (Aa m.d) f+k->Calls prog 170 (#[.int .i64 (f:Nat)]++c.caps) W (SnR F c mb o m V (A4 m.d k met f) W))
 (h:SnS F c mb o m V met (tally m.d met) W) {f:Nat} {b:BN} (hb:Aa m.d (f/2)=some b) (hnm:f/2∉met) (hlev:m.d.vars.length<=lvE m.d.vars.length (levN m.d) (Aa m.d) f+(k+1)) :
 Calls prog 170 (#[.int .i64 f]++c.caps) W (SnR F c mb o m V (A4 m.d k (A4 m.d k (met++[f/2]) (cofs m.d f b.v).1) (cofs m.d f b.v).2) W):=by
 obtain⟨bm,bx,bn,bd,mt,nt,xb⟩:=c;have hf:okE (Aa m.d) f:=.inr ⟨b,hb⟩;have g7:∀ e,okE (Aa m.d) e->e<eMax:=fun e he=>DD (K:=fun _ _=>F) (V:=V) h.is he
 have ga:=g7 f hf;have gB:=h.ok.dag.var _ _ hb;have hl:levN m.d b.v<=lvE m.d.vars.length (levN m.d) (Aa m.d) f:=by unfold lvE;rw[hb];exact WM _
 have h5:lvE m.d.vars.length (levN m.d) (Aa m.d) f=levN m.d b.v:=by unfold lvE;rw[hb]
 obtain⟨q1,q2,q3,q4,_⟩:=Bk h.ok hf gB hl;have h0:enode f≠0:=fun e=>by
  have:f/2=0:=e;rw[this,h.ok.dag.none0] at hb;cases hb
 have g6:=h.mok;have g3:=g6.snoc hb hnm;have gA:getC b.v (tally m.d met)<=2305843009213693952:=by
  have h1:=MY b.v (tally m.d met);rw[Jy] at h1;have h2:=g6.len g7;omega
 obtain⟨lo,gb⟩:∃ z,z=(cofs m.d f b.v).1:=⟨_,rfl⟩;obtain⟨hi,gc⟩:∃ z,z=(cofs m.d f b.v).2:=⟨_,rfl⟩;rw[<- gb,<- gc];rw[<- gb] at q1 q3;rw[<- gc] at q2 q4;obtain⟨bv,g2⟩:∃ z,z=b.v:=⟨_,rfl⟩;have gu:Hq (∀ q,Calls prog 99 #[.int .i64 f] (W.drewN q) fun x w'=>x=.returned (.bool false)/\W.drewN q=w'):=Hd fun q=>by
  have:=FC f (W.drewN q) ga
  rwa [X8 h0] at this
 have gQ:Hq (∀ W',Calls prog 142 #[.int .i64 f] W' (Sm (.int .i64 (enode f:Nat)) W')):=Hd fun W'=>B7 f W' ga
 have gP:Hq (∀ q,Calls prog 142 #[.int .i64 f] (W.drewN q) fun x w'=>x=.returned (.int .i64 (enode f:Nat))/\W.drewN q=w'):=Hd fun q=>B7 f _ ga
 have h4:∀ q,(Instr.lookup 127 (.map (some mt)) (.int .i64 (enode f:Nat)) false).run prog (W.drewN q)=.ok (.bool false) (W.drewN q):=fun q=>by
  have:=Np (h.below (Ap W q)).map (enode f)
  rwa [X8 (show ¬ enode f∈met from hnm)] at this
 have g5:mt≠nt:=h.ne.2.2.2.2.2;have gK:Hq (∀ W',SnS F ⟨bm,bx,bn,bd,mt,nt,xb⟩ mb o m V met (tally m.d met) W'->∃ w',(Instr.mapUpdate 127 (.map (some mt)) (.int .i64 (enode f:Nat)) (.bool true)).run prog W'=.ok () w'/\Wr (SnC.two ⟨bm,bx,bn,bd,mt,nt,xb⟩) W' w'/\SnS F ⟨bm,bx,bn,bd,mt,nt,xb⟩ mb o m V (met++[f/2]) (tally m.d met) w'):=Hd fun W' g=>by
  obtain⟨w',r1,r2,r3⟩:=Uq g.map (f:=enode f) hnm;have hw:Wr (· = mt) W' w':=Wr.of_grown r3 _ (fun k e=>by cases e;rfl);have g1:Wr (SnC.two ⟨bm,bx,bn,bd,mt,nt,xb⟩) W' w':=hw.mono (fun _ e=>.inl e);exact⟨w',r1,g1,g.go g1 r2 (g.cnt.keepB (hw.keep _ g.cnt.lt (fun e=>g5 e.symm))) g3⟩
 have gt:Hq (∀ W',SnS F ⟨bm,bx,bn,bd,mt,nt,xb⟩ mb o m V (met++[f/2]) (tally m.d met) W'->(Instr.lookup 202 (.map (some nt)) (.int .i64 (bv:Nat)) false).run prog W'=.ok (.int .i64 (getC b.v (tally m.d met):Nat)) W'):=Hd fun W' g=>by
  rw[g2];exact NK g.cnt b.v
 have gs:Hq (∀ W',SnS F ⟨bm,bx,bn,bd,mt,nt,xb⟩ mb o m V (met++[f/2]) (tally m.d met) W'->∃ w',(Instr.mapUpdate 202 (.map (some nt)) (.int .i64 (bv:Nat)) (.int .i64 ((getC b.v (tally m.d met):Nat)+1))).run prog W'=.ok () w'/\Wr (SnC.two ⟨bm,bx,bn,bd,mt,nt,xb⟩) W' w'/\SnS F ⟨bm,bx,bn,bd,mt,nt,xb⟩ mb o m V (met++[f/2]) (tally m.d (met++[f/2])) w'):=Hd fun W' g=>by
  rw[g2];obtain⟨w',r1,r2,r3⟩:=UI g.cnt b.v (c:=((getC b.v (tally m.d met):Nat):Int)+1) (by omega);have hw:Wr (· = nt) W' w':=Wr.of_grown r3 _ (fun k e=>by cases e;rfl);have g1:Wr (SnC.two ⟨bm,bx,bn,bd,mt,nt,xb⟩) W' w':=hw.mono (fun _ e=>.inr e);rw[<- Ud met hb] at r2;exact⟨w',r1,g1,g.go g1 (g.map.keepB (hw.keep _ g.map.lt (fun e=>g5 e))) r2 g3⟩
 have gm:Hq (∀ W' s,SnS F ⟨bm,bx,bn,bd,mt,nt,xb⟩ mb o m V (met++[f/2]) (tally m.d met) W'->W'.heap[s]?=some (.cells #[.int .i64 f] 113 (0,0))->Calls prog 101 #[Pt xb,.slice (some ⟨s,0,none⟩) 1 1] W' (Bl (.int .i64 (bv:Nat)) W')):=Hd fun W' s g hs=>by
  refine(FZ g.is g.lt g.x g.ok [f] (by simpa using hf) (some ⟨s,0,none⟩) 1 ⟨by simp,fun i h6=>?_⟩).mono ?_
  ·obtain rfl:i=0:=by simpa using h6
   exact⟨s,0,rfl,by rw[WQ _ _ 0 _ _ _ hs];rfl⟩
  ·rintro x w' ⟨top,least,rfl,ht,gZ⟩;rcases ML ht with ⟨_,hn⟩|⟨b',gC,rfl⟩
   . rw[hb] at hn;cases hn
   . rw[hb] at gC;cases gC;exact⟨by rw[g2],gZ⟩
 have gN:Hq (∀ W' cs,SnS F ⟨bm,bx,bn,bd,mt,nt,xb⟩ mb o m V (met++[f/2]) cs W'->Calls prog 102 #[Pt xb,.int .i64 f,.int .i64 (bv:Nat)] W' (Bl (.tuple #[.int .i64 lo,.int .i64 hi]) W')):=Hd fun W' cs g=>by
  have:=Fb g.is g.lt g.x g.ok f hf (b.v:Nat);rw[<- gb,<- gc,<- g2] at this;exact this
 have gS:Hq (∀ W',SnS F ⟨bm,bx,bn,bd,mt,nt,xb⟩ mb o m V (met++[f/2]) (tally m.d (met++[f/2])) W'->Calls prog 170 #[.int .i64 lo,Pt bm,Pt bx,Pt bn,Pt bd] W' (SnR F ⟨bm,bx,bn,bd,mt,nt,xb⟩ mb o m V (A4 m.d k (met++[f/2]) lo) W')):=Hd fun W' g=>IH _ lo W' g q1 (by omega)
 have gR:Hq (∀ W',SnS F ⟨bm,bx,bn,bd,mt,nt,xb⟩ mb o m V (A4 m.d k (met++[f/2]) lo) (tally m.d (A4 m.d k (met++[f/2]) lo)) W'->Calls prog 170 #[.int .i64 hi,Pt bm,Pt bx,Pt bn,Pt bd] W' (SnR F ⟨bm,bx,bn,bd,mt,nt,xb⟩ mb o m V (A4 m.d k (A4 m.d k (met++[f/2]) lo) hi) W')):=Hd fun W' g=>IH _ hi W' g q2 (by omega)
 have cbm:=h.bm;have HS:=Hd h;obtain⟨P,hP⟩:=Ex (SnR F ⟨bm,bx,bn,bd,mt,nt,xb⟩ mb o m V (A4 m.d k (A4 m.d k (met++[f/2]) lo) hi) W);have HP:Hq (∀ x w',SnR F ⟨bm,bx,bn,bd,mt,nt,xb⟩ mb o m V (A4 m.d k (A4 m.d k (met++[f/2]) lo) hi) W x w'->P x w'):=Hd (by rw[hP];exact fun _ _ e=>e);have eg1:=UJ;obtain⟨g0,gi⟩:∃ g,g=getC b.v (tally m.d met):=⟨_,rfl⟩;rw[<- gi] at gA;have h8:IntKind.i64.wrap ((g0:Nat)+1)=(g0:Nat)+1:=Zm _ ⟨by omega,by omega⟩;rw[<- gi] at gt gs;rw[<- hP];unfold SnC.caps;clear hP h IH hb hnm hlev hf ga g7 gB hl h5 q1 q2 q3 q4 h0 gb gc g2 g6 g3 gA gi g5
 show Calls _ _ #[_,_,_,_,_] _ _
 go_enter func170,ntmps170
 go_wp2_with fail
 go_quiet ((first|(with_reducible exact Cx (gu.o _))|(with_reducible exact Cx (gP.o _))))
 go_upto_region 1 with fail;obtain⟨w1,gg⟩:=Ex ((W.drewN nq).drew);have gl:Bw W w1:=by rw[gg];exact Ap W (nq+1)
 have gr:=Hd (HS.o.below gl);have HW1:=Hd (Wr.of_below gl (SnC.two ⟨bm,bx,bn,bd,mt,nt,xb⟩));have gD:=Hd gg;have cbm1:=gr.o.bm;clear gg gl;refine Dk [0,1,2,3] (fun W'=>W'.cell? ⟨bm,0,none⟩=some (.map (some mt))) (fun ch w'=>False) (fun c a w hd h=>h.elim) (by kernel_rfl) (by rw[<- gD.o];exact cbm1) ?_;rw[<- gD.o]
 iterate 2
  refine BM rfl rfl (by kernel_rfl) ?_;apply Exists.intro;refine⟨fun w' hw=>?_,?_⟩
  . have q1:w'.cell? ⟨bm,0,none⟩=some (.map (some mt)):=hw;go_simp;rfl
  simp only[Ac]
 refine BG (R1:=fun u w'=>u=.int .i64 (enode f:Nat)/\w1=w') rfl (by kernel_rfl) rfl rfl (by go_simp) ((gQ.o w1).mono fun x w' h=>⟨_,h.1,rfl,h.2⟩) (by rintro u w' ⟨_,rfl⟩;exact cbm1) ?_;rintro u w'-⟨rfl,rfl⟩;simp only[Ac];obtain⟨w2,gX,g1,gz⟩:=gK.o w1 gr.o;have gf:=Hd gz;have gJ:=Hd (HW1.o.trans g1 (fun _ _ e=>e) (fun _ _ e=>e));refine Ut (w':=w2) rfl (by kernel_rfl) rfl rfl (by go_simp) gf.o.bm ?_;simp only[Ac];refine Dl (by kernel_rfl) ?_;clear gX g1 gz cbm1 cbm;have cbx:=gf.o.bx;have gd:=Af w2 (.cells #[.int .i64 f] 113);obtain⟨w4,g4⟩:=Ex (w2.alloc (.cells #[.int .i64 f] 113));rw[<- g4] at gd;have h3:=Hd g4;have gh:w4.heap[w2.heap.size]?=some (.cells #[.int .i64 f] 113 (0,0)):=by rw[g4];exact WN _ _
 have gq:=Hd (gf.o.below gd);have gI:=Hd (gJ.o.trans (Wr.of_below gd _) (fun _ _ e=>e) (fun _ _ e=>e));have gM:=Hd (gm.o w4 _ gq.o gh);have gL:Hq (Calls prog 101 #[Pt xb,.slice (some ⟨w2.heap.size,0,none⟩) 1 1] (w2.alloc (.cells #[.int .i64 f] 113)) (Bl (.int .i64 (bv:Nat)) w4)):=Hd (by have:=gM.o;rw[g4] at this ⊢;exact this);clear gd g4 gh gM;go_wp2_with fail;refine gL.o.mono ?_;rintro x w5 ⟨rfl,gk⟩;have ge:=Hd (gq.o.below gk);have gH:=Hd (gI.o.trans (Wr.of_below gk _) (fun _ _ e=>e) (fun _ _ e=>e));have cbn5:=ge.o.bn;have gY:=gt.o w5 ge.o;obtain⟨w6,gV,gx,g9⟩:=gs.o w5 ge.o;have gO:=Hd g9;have gG:=Hd (gH.o.trans gx (fun _ _ e=>e) (fun _ _ e=>e));have cbx6:=g9.bx;have gn:=Hd (gN.o w6 _ g9);clear gk gx g9 gL cbx gq gI gf gJ gr HW1 h3 h4;go_wp2_with fail;refine gn.o.mono ?_;rintro x w7 ⟨rfl,gj⟩;have gp:=Hd (gO.o.below gj);have gF:=Hd (gG.o.trans (Wr.of_below gj _) (fun _ _ e=>e) (fun _ _ e=>e));have cbd:=gp.o.bd;unfold SnC.caps at cbd;have gU:=Hd (gS.o w7 gp.o);clear gj ge gH gS gm gN gK gQ gP gu gt gs gO gG gY gV cbx6 cbn5 gn;go_wp2_with fail;refine gU.o.mono ?_;rintro x w8 ⟨rfl,gw,g8⟩;have h7:=Hd g8;have gE:=Hd (gF.o.trans gw (fun _ _ e=>e) (fun _ _ e=>e));have gT:=Hd (gR.o w8 g8);have cbd8:=g8.bd;unfold SnC.caps at cbd8;clear gw g8 cbd gU gR gp gF;go_wp2_with fail;refine gT.o.mono ?_;rintro x w9 ⟨rfl,gv,gy⟩;have HF:=Hd (HP.o (.returned (.tuple #[])) w9 ⟨rfl,gE.o.trans gv (fun _ _ e=>e) (fun _ _ e=>e),gy⟩);clear gv gy cbd8 gT h7 gE HP;go_wp2_with fail;refine Yr (Ye rfl _ _ _) rfl ?_;exact HF.o
theorem NL:∀ (k:Nat) (met:List Nat) (f:Nat) (W:Wd),SnS F c mb o m V met (tally m.d met) W->okE (Aa m.d) f->m.d.vars.length<=lvE m.d.vars.length (levN m.d) (Aa m.d) f+k->Calls prog 170 (#[.int .i64 (f:Nat)]++c.caps) W (SnR F c mb o m V (A4 m.d k met f) W)
 | 0,met,f,W,h,hf,hl=>by
   refine JD h hf (.inl ?_);rcases hf with h1|⟨b,hb⟩
   . exact h1
   . exfalso;have h1:=h.ok.dag.lt b.v (h.ok.dag.var _ _ hb);unfold lvE at hl;rw[hb] at hl;simp at hl;omega
 | k+1,met,f,W,h,hf,hl=>by
   unfold A4;cases hb:Aa m.d (f/2) with
   | none =>
     refine JD h hf (.inl ?_);rcases hf with h1|⟨b,hb'⟩
     . exact h1
     . rw[hb] at hb';cases hb'
   | some b =>
     show Calls _ _ _ _ (SnR F c mb o m V (if f/2∈met then met else _) W)
     by_cases hm:f/2∈met
     . rw[WR hm];exact JD h hf (.inr hm)
     . rw[WO hm];exact UK (fun met f W=>NL k met f W) h hb hm hl
end
theorem UL (args:Array Value)(w:Wd):(callFunc 169 args).run prog w=.ok (.enter 169 args) w:=XY func169 (by kernel_rfl) rfl args w
structure BoN (wB:Wd)(bn bl:Nat)(a:Option Addr)(c:Nat)(ks:List Int)(W:Wd):Prop where
 n:∃ v,W.heap[bn]?=some (.cells #[v] 202 (0,0))
 l:W.cell? ⟨bl,0,none⟩=some (.slice a ks.length c)
 z:An W a ks
 s:∀ x,a=some x->W.heap[x.block]?=wB.heap[x.block]?
def CsN (bn bl:Nat)(a:Option Addr)(k:Nat):Prop:=k=bn\/k=bl\/∃ x,a=some x/\k=x.block
theorem BoN.keep {a:Option Addr}(h:BoN wB bn bl a c ks W)(hk:∀ k,CsN bn bl a k->W'.heap[k]?=W.heap[k]?):BoN wB bn bl a c ks W' :=
 ⟨by rw[hk _ (.inl rfl)];exact h.n,Co h.l (hk _ (.inr (.inl rfl))),⟨h.z.len,fun i hi=>by
  obtain⟨b,off,e,hc⟩:=h.z.cells i hi;exact⟨b,off,e,Co hc (hk _ (.inr (.inr ⟨_,e,rfl⟩)))⟩⟩,fun x hx=>(hk _ (.inr (.inr ⟨x,hx,rfl⟩))).trans (h.s x hx)⟩
section
variable {o:Own}
theorem SatE.edges (h:SatE K n Od room w0 mb fs nx w o m V)(hlen:Fs.length=ks.length)(hm:∀ i (h:i<ks.length),(ks[i],Fs[i]'(by omega))∈fs) :
 ∃ es:List Nat,es.length=ks.length/\es.map (ef V)=Fs/\(∀ f∈es,okE (Aa m.d) f)/\∀ i (h:i<ks.length) (h2:i<es.length),(ks[i],es[i])∈m.hs:=by
 have:∀ i,∃ f,∀ hi:i<ks.length,(ks[i],f)∈m.hs/\ef V f=Fs[i]'(by omega):=fun i=>by
  by_cases hi:i<ks.length
  . obtain⟨f,h1,h2⟩:=h.find (hm i hi);exact⟨f,fun _=>⟨h1,h2⟩⟩
  . exact⟨0,fun e=>absurd e hi⟩
 have hs:=fun i=>Zq (this i)
 refine⟨(List.range ks.length).map fun i=>Classical.choose (this i),by simp,?_,?_,?_⟩
 ·refine Yl (by simp[hlen]) fun i h1 h2=>?_
  have hi:i<ks.length:=by simpa using h1
  simpa using(hs i hi).2
 . intro f hf;obtain⟨i,hi,rfl⟩:=WW.1 hf;exact h.ok.handles.ok _ (hs i (Yt.1 hi)).1
 . intro i hi h2;simpa using(hs i hi).1
def Fx (n:Nat)(ws0:List Ev)(os:List Nat)(bn:Nat)(Fs:List BF)(s:Nat)(W:Wd)(m:ManD)(_:Nat->BF):Prop :=
 m.waits=ws0/\m.d.vars=os/\∃ nt cs,s<=nt/\W.cell? ⟨bn,0,none⟩=some (.map (some nt))/\Ar W nt (Value.int .i64) (ctL cs)/\G4 n os Fs cs
theorem UM {a:Option Addr}(hnl:bn≠bl)(hna:∀ x,a=some x->bn≠x.block)(hlen:Fs.length=ks.length)(hm:∀ i (h:i<ks.length),(ks[i],Fs[i]'(by omega))∈fs)(ws0:List Ev)(os:List Nat)(E:Int->ManD->ManD->Prop) :
 OpLN K n Od room w0 mb fs nx (CsN bn bl a) (BoN wB bn bl a c ks) (fun m=>m.waits=ws0/\m.d.vars=os) 169 #[.pointer (some ⟨bn,0,none⟩),.pointer (some ⟨bl,0,none⟩)] (fun s _=>Fx n ws0 os bn Fs s) E:=by
 intro o W m V xb g0 hB hC ho gm hnx;obtain⟨gO,gr⟩:=ho;obtain⟨es,h5,h7,gi,h6⟩:=g0.edges hlen hm;have hk:=g0.ok.store;have gt:∀ k,CsN bn bl a k->o k=none:=fun k e=>(hC k e).2
 obtain⟨v0,gP⟩:=hB.n;have hy:∀ (fn:Fn) (first cap:Array Value) (w:Wd),(Instr.makeFunc fn first cap).run prog w=.ok (.func fn first cap) w:=fun _ _ _ _=>rfl
 have gz:bn<W.heap.size:=(hC bn (.inl rfl)).1;have gj:bl<W.heap.size:=(hC bl (.inr (.inl rfl))).1;obtain⟨w1,gc⟩:=Ex (W.alloc (.cells #[.pointer (some ⟨xb,0,none⟩)] 161));have gL:w1.heap.size=W.heap.size+1:=by rw[gc];simp
 have g10:w1.heap[W.heap.size]?=some (.cells #[.pointer (some ⟨xb,0,none⟩)] 161 (0,0)):=by rw[gc];exact WN _ _
 have gX:Wr (· = bn) W w1:=by rw[gc];exact Wr.of_below (Af _ _) _
 obtain⟨nt,gs⟩:=Ex w1.heap.size;obtain⟨w2,g7⟩:=Ex (w1.alloc (.map #[] 0));have hf:∀ t,(Instr.makeMap t none).run prog w1=.ok (.map (some nt)) w2:=fun t=>by rw[gs,g7];exact DO w1 t
 have gK:w2.heap.size=W.heap.size+2:=by rw[g7];simp[gL]
 have h3:Ar w2 nt (Value.int .i64) (ctL []):=by rw[g7,gs];exact En w1 _
 have gV:Wr (· = bn) W w2:=by rw[g7];exact gX.alloc _
 have ge:w2.heap[bn]?=some (.cells #[v0] 202 (0,0)):=by
  rw[g7,WT _ _ (by omega),gc,WT _ _ gz];exact gP
 obtain⟨w3,g5⟩:=Ex (w2.setCell ⟨bn,0,none⟩ (.map (some nt)));have hp:(store ⟨bn,0,none⟩ (.map (some nt))).run prog w2=.ok () w3:=by
  rw[run_store _ _ _ _ _ rfl];simp[cell1 ge,World.frozen?,ge,g5]
 have gJ:w3.heap.size=W.heap.size+2:=by rw[g5];simp[World.setCell,gK]
 have gv:∀ q,q≠bn->w3.heap[q]?=w2.heap[q]?:=fun q hq=>by rw[g5];exact Aw hq _
 have g3:w3.heap[bn]?=some (.cells #[.map (some nt)] 202 (0,0)):=by rw[g5];exact Az ge _
 have gU:Wr (· = bn) W w3:=by rw[g5];exact gV.setCell (.inl rfl) _
 have h0:Ar w3 nt (Value.int .i64) (ctL []):=h3.keepB (gv nt (by omega));obtain⟨mt,gu⟩:=Ex w3.heap.size;obtain⟨w4,g4⟩:=Ex (w3.alloc (.map #[] 0));have hb:∀ t,(Instr.makeMap t none).run prog w3=.ok (.map (some mt)) w4:=fun t=>by rw[gu,g4];exact DO w3 t
 have gI:w4.heap.size=W.heap.size+3:=by rw[g4];simp[gJ]
 have gZ:Ar w4 mt (Value.int .i64) (mtL []):=by rw[g4,gu];exact En w3 _
 have gB:Bw w3 w4:=by rw[g4];exact Af _ _
 obtain⟨w6,gb⟩:=Ex (w4.alloc (.cells #[.map (some mt)] 127));have gk:Bw w4 w6:=by rw[gb];exact Af _ _
 have gH:w6.heap.size=W.heap.size+4:=by rw[gb];simp[gI]
 have g6:w6.heap[w4.heap.size]?=some (.cells #[.map (some mt)] 127 (0,0)):=by rw[gb];exact WN _ _
 obtain⟨FV,go⟩:=Ex (.func (.func 170) #[] #[.pointer (some ⟨w4.heap.size,0,none⟩),.pointer (some ⟨W.heap.size,0,none⟩),.pointer (some ⟨bn,0,none⟩),.pointer (some ⟨w6.heap.size,0,none⟩)]:Value);obtain⟨w7,ga⟩:=Ex (w6.alloc (.cells #[.nilFunc] 240));have gA:Bw w6 w7:=by rw[ga];exact Af _ _
 have gG:w7.heap.size=W.heap.size+5:=by rw[ga];simp[gH]
 have gn:w7.heap[w6.heap.size]?=some (.cells #[.nilFunc] 240 (0,0)):=by rw[ga];exact WN _ _
 obtain⟨w8,g9⟩:=Ex (w7.setCell ⟨w6.heap.size,0,none⟩ FV);have gQ:(store ⟨w6.heap.size,0,none⟩ FV).run prog w7=.ok () w8:=by
  rw[run_store _ _ _ _ _ (by rw[go];rfl)];simp[cell1 gn,World.frozen?,gn,g9]
 have hn:w8.heap.size=W.heap.size+5:=by rw[g9];simp[World.setCell,gG]
 have gg:Bw w6 w8:=by rw[g9];exact gA.setCell (WM _) _
 have g8:w8.heap[w6.heap.size]?=some (.cells #[FV] 240 (0,0)):=by rw[g9];exact Az gn _
 have gT:Wr (· = bn) W w4:=by rw[g4];exact gU.alloc _
 have gS:Wr (· = bn) W w6:=by rw[gb];exact gT.alloc _
 have gR:Wr (· = bn) W w7:=by rw[ga];exact gS.alloc _
 have gd:Wr (· = bn) W w8:=by rw[g9];exact gR.setCell (.inr (by show W.heap.size<=w6.heap.size;omega)) _
 have gf:∀ q,q<w3.heap.size->w8.heap[q]?=w3.heap[q]?:=fun q hq=>by
  rw[gg.block q (by omega),gk.block q (by omega),gB.block q hq]
 have e4:w8.heap[w4.heap.size]?=some (.cells #[.map (some mt)] 127 (0,0)):=by
  rw[gg.block _ (by omega)];exact g6
 have em:Ar w8 mt (Value.int .i64) (mtL []):=gZ.keepB (by rw[gg.block _ (by omega),gk.block _ (by omega)]);have en:Ar w8 nt (Value.int .i64) (ctL []):=h0.keepB (gf nt (by omega));have ex:w8.heap[W.heap.size]?=some (.cells #[.pointer (some ⟨xb,0,none⟩)] 161 (0,0)):=by
  rw[gf _ (by omega),gv _ (by omega),g7,WT _ _ (by omega)];exact g10
 have eb:w8.heap[bn]?=some (.cells #[.map (some nt)] 202 (0,0)):=by rw[gf _ (by omega)];exact g3
 have gN:xb<W.heap.size:=Ag gm.cell;have gp:xb≠bn:=fun e=>hnx (.inl e)
 have oS:∀ q,W.heap.size<=q->o q=none:=fun q hq=>g0.lt.none hq
 have hs:SnS (K m.d V) ⟨w4.heap.size,W.heap.size,bn,w6.heap.size,mt,nt,xb⟩ mb o m V [] (tally m.d []) w8:=by
  refine⟨g0.is.other g0.lt gd (fun k _ e=>by subst e;exact gt _ (.inl rfl)),g0.lt.mono gd.size,hk,⟨Co gm.cell (gd.keep xb gN gp),gm.own⟩,cell1 e4,cell1 ex,cell1 eb,?_,em,en,?_,?_,?_,⟨List.nodup_nil,by simp⟩⟩
  . rw[cell1 g8,go];rfl
  ·rintro q (e|e|e|e|e|e)
   . have e:q=w4.heap.size:=e;exact oS _ (by omega)
   . have e:q=W.heap.size:=e;exact oS _ (by omega)
   . have e:q=bn:=e;exact gt _ (.inl e)
   . have e:q=w6.heap.size:=e;exact oS _ (by omega)
   . have e:q=mt:=e;exact oS _ (by omega)
   . have e:q=nt:=e;exact oS _ (by omega)
  ·refine⟨?_,?_,?_,?_,?_,?_⟩
   . show mt≠w4.heap.size;omega
   . show mt≠W.heap.size;omega
   . show mt≠bn;omega
   . show mt≠w6.heap.size;omega
   . show mt≠xb;omega
   . show mt≠nt;omega
  ·refine⟨?_,?_,?_,?_,?_⟩
   . show nt≠w4.heap.size;omega
   . show nt≠W.heap.size;omega
   . show nt≠bn;omega
   . show nt≠w6.heap.size;omega
   . show nt≠xb;omega
 obtain⟨C,g1⟩:=Ex (⟨w4.heap.size,W.heap.size,bn,w6.heap.size,mt,nt,xb⟩:SnC);have ha:C.caps=#[.pointer (some ⟨w4.heap.size,0,none⟩),.pointer (some ⟨W.heap.size,0,none⟩),.pointer (some ⟨bn,0,none⟩),.pointer (some ⟨w6.heap.size,0,none⟩)]:=by rw[g1];rfl
 have gC:∀ k,C.two k->W.heap.size<=k:=by
  rw[g1];rintro k (e|e)
  . have e:k=mt:=e;omega
  . have e:k=nt:=e;omega
 rw[<- g1] at hs;have hg:=hB.z.len;have clist:w8.cell? ⟨bl,0,none⟩=some (.slice a ks.length c):=Co hB.l (gd.keep bl gj (fun e=>hnl e.symm));obtain⟨I,hI⟩:=Ex (fun i wr=>Wr (· = bn) W wr/\wr.heap[bn]?=some (.cells #[.map (some nt)] 202 (0,0))/\SnS (K m.d V) C mb o m V (CW m.d (es.take i)) (tally m.d (CW m.d (es.take i))) wr:Nat->Wd->Prop)
 have gF:Hq (I 0 w8):=by rw[hI];exact Hd ⟨gd,eb,by simpa [CW] using hs⟩
 have HX:Hq (∀ i wr,I i wr->wr.cell? ⟨W.heap.size,0,none⟩=some (.pointer (some ⟨xb,0,none⟩))/\wr.cell? ⟨w6.heap.size,0,none⟩=some (.func (.func 170) #[] C.caps)/\(∀ j,j<ks.length->∃ b off,a=some ⟨b,off,none⟩/\wr.cell? ⟨b,off+j,none⟩=some (.int .i64 (at0 ks j)))/\I i wr.drew):=by
  rw[hI];refine Hd fun i wr hh=>?_
  obtain⟨h1,gh,h2⟩:=hh;have hx:=h2.bx;have hd:=h2.bd;rw[g1] at hx;refine⟨hx,?_,fun j hj=>?_,h1.drew,gh,h2.below (Ap wr 1)⟩
  . rw[g1] at hd ⊢;exact hd
  . obtain⟨b,off,e,hc⟩:=hB.z.cells j hj;exact⟨b,off,e,Co hc (h1.keep b (hC b (.inr (.inr ⟨_,e,rfl⟩))).1 (fun q=>hna _ e q.symm))⟩
 have g2:Hq (∀ i wr,i<ks.length->I i wr->∃ f,Calls prog 98 #[Pt xb,.int .i64 (at0 ks i)] wr ((Sm (.int .i64 (f:Nat)) wr)) /\
  Calls prog 170 (#[.int .i64 (f:Nat)]++C.caps) wr fun x w'=>x=.returned (.tuple #[])/\I (i+1) w'):=by
  rw[hI];refine Hd fun i wr hi hh=>?_
  obtain⟨h1,gh,h2⟩:=hh;have gw:i<es.length:=by omega
  have gM:=h2.x;rw[g1] at gM;refine⟨es[i],by rw[AI hi];exact DV h2.is gM g0.ok.handles.nodup (h6 i hi gw),?_⟩;refine(NL m.d.vars.length _ _ wr h2 (gi _ (Xp gw)) (by omega)).mono ?_;rintro x w' ⟨rfl,r1,r2⟩;refine⟨rfl,h1.trans r1 (fun _ _ e=>e) (fun k hk e=>by have:=gC k e;omega),(r1.keep bn (by have:=h1.size;omega) (fun e=>by have:=gC bn e;omega)).trans gh,?_⟩;rw[Uf es gw];exact r2
 obtain⟨P,hP⟩:∃ P:Ending->Wd->Prop,P=fun e w'=>∃ (o':Own) (m':ManD) (V':Nat->BF),Bu (CsN bn bl a) K o W mb m V o' w' m' V'/\BoN wB bn bl a c ks w' /\
  ((e=.returned (.tuple #[])/\Fx n ws0 os bn Fs W.heap.size w' m' V') \/
   (∃ er:Int,e=Au er false ev0/\er≠0/\m'.waits=m.waits/\(m'.waits=ws0/\m'.d.vars=os)/\E er m m') \/
   (∃ ev,e=Au 0 true ev/\m.waits=ev::m'.waits/\StE K n Od room w0 mb fs nx (fun m=>m.waits=ws0/\m.d.vars=os) m'/\HapG K n Od room w0 mb fs nx ev)):=⟨_,rfl⟩
 have gl:Hq (∀ wr,I ks.length wr->P (.returned (.tuple #[])) wr):=by
  rw[hI,hP];refine Hd fun wr hh=>?_
  obtain⟨h1,gh,h2⟩:=hh;rw[<- h5,Xx] at h2;have h8:=h2.bn;have gY:=h2.cnt;rw[g1] at h8 gY;refine⟨o,m,V,⟨h2.is,h2.lt,ChgX.of_wr h1 o (fun k _ e=>.inl e),hk,Ext.refl _ _,rfl,rfl⟩,⟨?_,?_,⟨hg,fun i hi=>?_⟩,fun x hx=>?_⟩,.inl ⟨rfl,gO,gr,nt,_,by omega,h8,gY,?_⟩⟩
  . exact⟨_,gh⟩
  . exact(Co hB.l (h1.keep bl gj (fun e=>hnl e.symm)))
  . obtain⟨b,off,e,hc⟩:=hB.z.cells i hi;exact⟨b,off,e,Co hc (h1.keep b (hC b (.inr (.inr ⟨_,e,rfl⟩))).1 (fun q=>hna _ e q.symm))⟩
  . exact(h1.keep _ (hC _ (.inr (.inr ⟨x,hx,rfl⟩))).1 (fun q=>hna x hx q.symm)).trans (hB.s x hx)
  . have:=Uk hk es gi (fun e he=>DD g0.is he);rw[g0.vars,h7,gr] at this;exact this
 have HW1:=Hd gc.symm;have ht:=Hd g5.symm;have hA:=Hd g4.symm;have c2:=cell1 ge;have f2:w2.frozen? ⟨bn,0,none⟩=false:=by simp[World.frozen?,ge]
 have hr:=Hd gb.symm;rw[go,ga] at gQ;rw[<- hP];rw[ha] at HX g2;clear hP hI hs g0 hB hC gm hnx h7 gi h6 hk gt gP gz gj gc g7 g5 g4 gb ga g9 gL gK gJ gI gH gG hn g10 gX h3 gV gT gS gR ge gn gA gv g3 gU h0 gZ gB gk g6 go gg g8 gd gf e4 em en ex eb gN gp oS g1 ha gC gs gu hlen hm h5 gO gr
 go_enter func169,ntmps169
 go_upto_region 1 with fail;rw[HW1.o];go_upto_region 2 with fail;rw[ht.o];clear c2 f2 hf hp;go_upto_region 3 with fail;rw[hr.o];clear hb;go_upto_region 5 with fail;clear gQ;go_wp2_with fail
 go_loopw [7,13] (fun _ s13 wr=>∃ i:Nat,i<=ks.length/\s13=.int .i64 i/\Hq (I i wr)) (fun _ s13 _=>ks.length-(intOf s13).toNat)
 case atStart=>exact⟨0,WX _,rfl,gF⟩
 case round =>
  obtain⟨i,hi,rfl,HI⟩:=hrel
  by_cases h4:i<ks.length
  ·have hz:(i:Int)<(ks.length:Int):=by omega
   obtain⟨x1,x2,x3,x4⟩:=HX.o i _ HI.o;obtain⟨b,off,rfl,ck⟩:=x3 i h4;have HD:=Hd (HX.o i _ x4);obtain⟨f,hE,hS⟩:=g2.o i _ h4 x4;have HE:=Hd hE;have HS:=Hd hS;have gD:=HX;clear hE hS x1 x2 x3 x4 HX g2 gl HI gF clist;go_upto_region 8 with fail;obtain⟨wz,gq⟩:=Ex wr.drew;rw[<- gq] at HD HE HS;have gE:=Hd gq;clear gq;have gy:=HD.o.1;have gx:=HD.o.2.1;refine Dk [0,1,2,3,4] (fun W'=>W'.cell? ⟨W.heap.size,0,none⟩=some (.pointer (some ⟨xb,0,none⟩))/\W'.cell? ⟨w6.heap.size,0,none⟩=some (.func (.func 170) #[] #[.pointer (some ⟨w4.heap.size,0,none⟩),.pointer (some ⟨W.heap.size,0,none⟩),.pointer (some ⟨bn,0,none⟩),.pointer (some ⟨w6.heap.size,0,none⟩)])) (fun ch w'=>False) (fun c a w hd h=>h.elim) (by kernel_rfl) (by rw[<- gE.o];exact⟨gy,gx⟩) ?_;rw[<- gE.o]
   iterate 3
    refine BM rfl rfl (by kernel_rfl) ?_;apply Exists.intro;refine⟨fun w' hw=>?_,?_⟩
    . obtain⟨q1,q2⟩:=hw;go_simp;rfl
    simp only[Ac]
   refine BG (R1:=fun u w'=>u=.int .i64 (f:Nat)/\wz=w') rfl (by kernel_rfl) rfl rfl (by go_simp) (HE.o.mono fun x w' h=>⟨_,h.1,rfl,h.2⟩) (by rintro u w' ⟨_,rfl⟩;exact⟨gy,gx⟩) ?_;rintro u w'-⟨rfl,rfl⟩;simp only[Ac];refine BG (R1:=fun u w'=>u=.tuple #[]/\I (i+1) w') rfl (by kernel_rfl) rfl rfl (by go_simp) (HS.o.mono fun x w' h=>⟨_,h.1,rfl,h.2⟩) (by rintro u w' ⟨_,hI⟩;exact⟨(gD.o (i+1) w' hI).1,(gD.o (i+1) w' hI).2.1⟩) ?_;rintro u w9-⟨rfl,h9⟩;have hu:=Hd h9;clear h9 gD HS HE HD gy gx gE;simp only[Ac];refine Dl (by kernel_rfl) ?_;go_wp2_with fail;go_roundw
   case rel=>exact⟨i+1,by omega,by rw[show ((i+1:Nat):Int)=(i:Int)+1 by omega],hu⟩
   case measure=>simp[intOf];omega
  ·obtain rfl:i=ks.length:=by omega
   have hv:¬ (ks.length:Int)<(ks.length:Int):=by omega
   have HF:=Hd (gl.o _ HI.o);clear HX g2 gl HI gF;go_wp2_with fail;refine Yr (Ye rfl _ _ _) rfl ?_;exact HF.o
end
structure ArgI (w0 w:Wd)(o:Own)(a:Option Addr)(ks:List Int):Prop where
 z:An w a ks
 own:∀ x,a=some x->x.block<w.heap.size/\w0.heap.size<=x.block/\o x.block=none
theorem NM {fr:Nat×Nat}(h:w.heap[b]?=some (.cells #[v] t fr)):w.setCell ⟨b,0,none⟩ v=w:=by
 have:w.heap.modify b (fun|.cells c elem frozen=>.cells (c.setIfInBounds 0 v) elem frozen|o=>o)=w.heap:=by
  apply Array.ext_getElem?;intro i;rw[Y1];split
  ·rename_i e
   subst e;rw[h];rfl
  . rfl
 show ({ w with heap:=w.heap.modify b (fun|.cells c elem frozen=>.cells (c.setIfInBounds 0 v) elem frozen|o=>o) }:Wd)=w
 rw[this]
section
variable {o:Own}
def JE (K:Law)(n:Nat)(Od:List Nat->Prop)(room:Nat)(w0:Wd)(mb:Nat)(fs:List (Int×BF))(nx:Int)(m:ManD)(o:Own)(w:Wd)(Fs:List BF)(x:Ending)(w':Wd):Prop :=
 ∃ nt cs,x=.returned (.tuple #[.map (some nt),.int .i64 0])/\Ar w' nt (Value.int .i64) (ctL cs)/\G4 n m.d.vars Fs cs/\∃ o' m' V',ChgX NoB o o' w w'/\m'.waits=m.waits/\m'.d.vars=m.d.vars/\SatE K n Od room w0 mb fs nx w' o' m' V'
theorem UN {s:Nat}(hb:bn<s)(hz:s+3<=W.heap.size)(h:Fx n ws0 os bn Fs (s+3) W m V)(a:Ali s W W'):Fx n ws0 os bn Fs 0 W' m V:=by
 obtain⟨h1,h2,nt,cs,h3,h4,h5,h6⟩:=h;exact⟨h1,h2,nt,cs,WX _,Co h4 (a.keep bn (by omega) (by omega)),h5.keepB (a.keep nt h5.lt (by omega)),h6⟩
theorem UO (h:SatE K n Od room w0 mb fs nx w o m V){a:Option Addr}(hl:ArgI w0 w o a ks)(hlen:Fs.length=ks.length)(hm:∀ i (h:i<ks.length),(ks[i],Fs[i]'(by omega))∈fs) :
 Calls prog 135 #[Pt mb,.slice a ks.length c] w (JE K n Od room w0 mb fs nx m o w Fs):=by
 have gh:∀ (fn:Fn) (first cap:Array Value) (w:Wd),(Instr.makeFunc fn first cap).run prog w=.ok (.func fn first cap) w:=fun _ _ _ _=>rfl
 have hw0:=h.chg.size;obtain⟨w2,g3⟩:=Ex ((w.alloc (.cells #[.slice a ks.length c] 22)).alloc (.cells #[.map none] 202));have g5:Bw w w2:=by rw[g3];exact(Af _ _).alloc (by simp) _
 have gb:w2.heap.size=w.heap.size+2:=by rw[g3];simp
 have g0:w2.heap[w.heap.size]?=some (.cells #[.slice a ks.length c] 22 (0,0)):=by
  rw[g3];exact(WT _ _ (by simp)).trans (WN _ _)
 have g1:w2.heap[w.heap.size+1]?=some (.cells #[.map none] 202 (0,0)):=by
  have:=WN (w.alloc (.cells #[.slice a ks.length c] 22)) (.cells #[.map none] 202);rw[WV] at this;rw[g3];exact this
 obtain⟨s,hs⟩:=Ex (w.heap.size+1);rw[<- hs] at g1;have g6:∀ x,a=some x->s≠x.block:=fun x hx e=>by have:=(hl.own x hx).1;omega
 have g4:=h.below g5;have hz:=hl.z.below g5;have g8:BoN w2 s w.heap.size a c ks w2:=⟨⟨_,g1⟩,cell1 g0,hz,fun _ _=>rfl⟩;have hC:∀ k,CsN s w.heap.size a k->k<w2.heap.size/\o k=none:=by
  rintro k (rfl|rfl|⟨x,hx,rfl⟩)
  . exact⟨by omega,h.lt.none (by omega)⟩
  . exact⟨by omega,h.lt.none (by omega)⟩
  . have:=hl.own x hx;exact⟨by omega,this.2.2⟩
 have ga:∀ k,CsN s w.heap.size a k->w0.heap.size<=k:=by
  rintro k (rfl|rfl|⟨x,hx,rfl⟩)
  . omega
  . omega
  . exact(hl.own x hx).2.1
 have hL:=Jn (B:=BoN w2 s w.heap.size a c ks) (QP:=fun _=>Fx n m.waits m.d.vars s Fs 0) (St:=fun m'=>m'.waits=m.waits/\m'.d.vars=m.d.vars) (fun _ _ hb hk=>hb.keep hk) (fun s' _ W W' m' V' hc hz _ hq a=>UN (hc s (.inl rfl)) hz hq a) (fun m' d hm hr=>⟨hm.1,by show d.vars=_;rw[hr.vars];exact hm.2⟩) ga UL (UM (E:=fun _ _ _=>False) (by omega) g6 hlen hm m.waits m.d.vars) g4 g8 hC ⟨rfl,rfl⟩
 have HL:Hq (Calls prog 96 #[Pt mb,.func (.func 169) #[] #[Pt s,Pt w.heap.size]] w2 fun x w'=>x=.returned (.int .i64 0)/\∃ nt,w'.cell? ⟨s,0,none⟩=some (.map (some nt))/\(∃ v,w'.heap[s]?=some (.cells #[v] 202 (0,0)))/\JE K n Od room w0 mb fs nx m o w Fs (.returned (.tuple #[.map (some nt),.int .i64 0])) w'):=Hd (hL.mono (by
  rintro x w' ⟨er,rfl,o',m',V',hs',g9,hc,⟨rfl,q1,q2,nt,cs,q3,q4,q5,q6⟩|⟨_,m0,e,_⟩⟩
  ·refine⟨rfl,nt,q4,g9.n,nt,cs,rfl,q5,q6,o',m',V',?_,q1,q2,hs'⟩;have g2:ChgX (CsN s w.heap.size a) o o' w w':=(ChgX.of_below g5 o (CsN s w.heap.size a)).trans hc (fun _ _ e=>e);refine⟨g2.os,g2.tape,g2.output,g2.size,fun k hk ho _=>?_,g2.ext,g2.new⟩
   by_cases e:CsN s w.heap.size a k
   ·rcases e with e|e|⟨x,hx,e⟩
    . omega
    . omega
    . subst e;exact(g9.s x hx).trans (g5.block _ hk)
   . exact g2.block k hk ho e
  . exact e.elim))
 have ge:Hq (∀ i,i<ks.length->Calls prog 29 #[Pt mb,.int .i64 (at0 ks i)] w2 (Sm (.bool true) w2)):=Hd fun i hi=>by
  rw[AI hi];exact(LS g4 (hm i hi))
 have HZ:Hq (∀ i,i<ks.length->∃ b off,a=some ⟨b,off,none⟩/\w2.cell? ⟨b,off+i,none⟩=some (.int .i64 (at0 ks i))):=Hd fun i hi=>by
  obtain⟨b,off,e,hc⟩:=hz.cells i hi;exact⟨b,off,e,hc⟩
 have gc:=Hd g3.symm;have HS:=Hd hs;have c0:=cell1 g0;have gg:=hz.len;obtain⟨P,hP⟩:=Ex (JE K n Od room w0 mb fs nx m o w Fs);rw[<- hP] at HL ⊢;have HP:Hq (∀ x w',P x w'->P x w'):=Hd fun _ _ e=>e
 clear hP h hw0 g3 g5 gb g0 g1 hs g6 g4 hz g8 hC ga hL hl hlen hm
 delta Pt;go_enter func135,ntmps135
 go_upto_region 1 with fail;rw[gc.o];rw[<- HS.o];go_wp2_with fail
 go_loopw [7,12] (fun _ s12 wr=>∃ i:Nat,i<=ks.length/\s12=.int .i64 i/\wr=w2) (fun _ s12 _=>ks.length-(intOf s12).toNat)
 case atStart=>exact⟨0,WX _,by trivial,by trivial⟩
 case round =>
  obtain⟨i,hi,rfl,rfl⟩:=hrel
  by_cases g7:i<ks.length
  ·have gi:(i:Int)<(ks.length:Int):=by omega
   obtain⟨b,off,rfl,ck⟩:=HZ.o i g7;have HI:=Hd (ge.o i g7);clear HL;go_wp2_with fail;refine HI.o.mono ?_;rintro x w' ⟨rfl,rfl⟩;go_wp2_with fail;go_roundw
   case rel=>exact⟨i+1,by omega,by rw[show ((i+1:Nat):Int)=(i:Int)+1 by omega],trivial⟩
   case measure=>simp[intOf];omega
  ·obtain rfl:i=ks.length:=by omega
   have gf:¬ (ks.length:Int)<(ks.length:Int):=by omega
   go_wp2_with fail;refine HL.o.mono ?_;rintro x w' ⟨rfl,nt,q1,⟨v,q2⟩,hf⟩;have HF:=Hd hf;obtain rfl:v=.map (some nt):=XL ((cell1 q2).symm.trans q1);have gd:=Hd (NM q2);have f1:w'.frozen? ⟨s,0,none⟩=false:=by simp[World.frozen?,q2]
   clear hf HL;go_wp2_with fail;rw[gd.o];have hu:=underlying202;refine Xc (v:=.tuple #[.map (some nt),.int .i64 0]) ((results_cell_tmp rfl _ _ _).trans ?_) rfl HF.o
   show ((asAddr (.pointer (some ⟨s,0,none⟩))).run prog w').andThen (fun a w₁=>((loadVar 202 a).run prog w₁).andThen fun v w₂=>.ok (Value.tuple #[v,.int .i64 0]) w₂)=_
   go_simp
end
open Go.ChangeMaps (setBlock)
section
variable {o:Own}
def AskV (K:Law)(n:Nat)(Od:List Nat->Prop)(room:Nat)(w0:Wd)(mb:Nat)(fs:List (Int×BF))(nx:Int)(m:ManD)(o:Own)(w w':Wd):Prop :=
 ∃ o' m' V',ChgX NoB o o' w w'/\m'.waits=m.waits/\m'.d.vars=m.d.vars/\SatE K n Od room w0 mb fs nx w' o' m' V'
theorem AskV.below {w1 w':Wd}(h:AskV K n Od room w0 mb fs nx m o w w1)(hb:Bw w1 w'):AskV K n Od room w0 mb fs nx m o w w':=by
 obtain⟨o',m',V',h1,h2,h3,h4⟩:=h;exact⟨o',m',V',h1.trans (ChgX.of_below hb o' NoB) (fun _ _ e=>e),h2,h3,h4.below hb⟩
end
end Go.Proofs.YtgmbklaolcmljaaGreat
