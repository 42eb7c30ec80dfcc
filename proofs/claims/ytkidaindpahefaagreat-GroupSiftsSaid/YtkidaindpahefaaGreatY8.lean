/- Several texts in one file: contracts of the program's functions and what follows from them. -/
import Derived.Test.YtkidaindpahefaaGreatY7
import Derived.Maps.RangeRun
set_option linter.unusedSimpArgs false
set_option linter.unusedVariables false
set_option linter.unusedSectionVars false
set_option linter.unnecessarySimpa false
set_option maxRecDepth 100000
set_option maxHeartbeats 8000000
namespace Go.Proofs.YtkidaindpahefaaGreat
open Go.Proofs.Tryz
open Go.RowKit
variable {B:Wd->Own->Prop}{C:Nat->Prop}{F G:BF}{Fs:List BF}{K:Law}{L:Array Bool}{Od P':List Nat->Prop}{P:Program}{Q:Exit->Act->Wd->Prop}{S:Wd->Prop}{V:Nat->BF}{W W' w w' w'' w0 wb:Wd}{a:Act}{ao:Option Addr}{args:Array Value}{b:BN}{bs:List Bool}{c f i id k mb n room t xb:Nat}{d:Ae}{fs hs:List (Int×BF)}{gs:List (List Int)}{ks zs:List Int}{l:List Oper}{least nx:Int}{m:ManD}{met os pl:List Nat}{o0:Own}{u v vl vx:Value}{ws0:List Ev}
section
theorem Ug {top:Int}(h:TopS d [f] top least):(top = -1/\Aa d (f/2)=none)\/∃ b,Aa d (f/2)=some b/\top=(b.v:Nat):=by
 rcases h with ⟨h1,_,h3⟩|⟨v,h1,_,_,⟨e,he,b,hb,hv⟩,_⟩
 . exact .inl ⟨h1,h3 f (by simp)⟩
 . simp only[VF] at he;subst he;exact .inr ⟨b,hb,by rw[h1,hv]⟩
end
def Ind (F:BF)(v:Nat):Prop:=∀ b,cofF F v b=F
open Classical in
theorem Nf (F:BF)(v:Nat)(b c:Bool):cofF (cofF F v b) v c=cofF F v b:=by
 funext ρ;unfold cofF;congr 1;funext u
 by_cases h:u=v<;>simp[h]
theorem Uh (F:BF){u v:Nat}(h:u≠v)(a b:Bool):cofF (cofF F u a) v b=cofF (cofF F v b) u a:=by
 funext ρ;unfold cofF;congr 1;funext x;dsimp only
 by_cases h1:x=u
 ·have h2:¬ x=v:=fun e=>h (h1.symm.trans e)
  simp only[Vs h1,Vn h2]
 ·by_cases h2:x=v
  . simp only[Vn h1,Vs h2]
  . simp only[Vn h1,Vn h2]
theorem Ind.cof {u:Nat}(h:Ind F u)(v:Nat)(b:Bool):Ind (cofF F v b) u:=fun c=>by
 by_cases e:u=v
 . subst e;exact Nf F u b c
 . rw[Uh F (fun h=>e h.symm),h c]
theorem Ind.at {F:BF}{v:Nat}(h:Ind F v)(ρ:Nat->Bool)(b:Bool):F (upd ρ v b)=F ρ:=by
 have:=congrFun (h b) ρ
 rwa [Fp] at this
theorem Jl (h:Ak d V){v:Nat}(hf:okE (Aa d) f)(hv:v<d.vars.length)(hl:levN d v<=lvE d.vars.length (levN d) (Aa d) f) :
 ef V (cofs d f v).1=cofF (ef V f) v false/\ef V (cofs d f v).2=cofF (ef V f) v true:=by
 obtain⟨q1,q2,q3,q4,q5⟩:=Cf h hf hv hl;constructor
 . funext ρ;rw[Fp,q5,ED,h.dag.indep_var q1 q3];rfl
 . funext ρ;rw[Fp,q5,ED,h.dag.indep_var q2 q4];rfl
section
variable {u' u'' x:Value}{B:Nat}
theorem Ng (h:DepF n F){v:Nat}(hh:AU n F v=false):Ind F v:=by
 have e:cofF F v false=cofF F v true:=by
  by_cases c:cofF F v false=cofF F v true
  . exact c
  . have:=(DZ h v).2 c;rw[hh] at this;cases this
 have e2:∀ b,cofF F v b=cofF F v true:=fun b=>by cases b;exact e;rfl
 intro b;rw[e2 b];funext ρ;have h1:=congrFun (e2 (ρ v)) ρ;rw[<- h1]
 show F (fun u=>if u=v then ρ v else ρ u)=F ρ
 congr 1;funext u
 by_cases c:u=v
 . rw[Vs c,c]
 . rw[Vn c]
theorem Ui (h:DepF n F){v:Nat}(hi:Ind F v):AU n F v=false:=by
 cases hh:AU n F v with
 | false=>rfl
 | true=>exact absurd ((hi false).trans (hi true).symm) ((DZ h v).1 hh)
theorem Nh (h:DepF n F)(hi:∀ v,v<n->Ind F v):∃ c,F=fun _=>c:=by
 have key:∀ k,k<=n->∀ ρ,F ρ=F (fun v=>if v<k then false else ρ v):=by
  intro k
  induction k with
  | zero=>intro _ ρ;simp
  | succ k ih =>
    intro hk ρ;rw[ih (by omega) ρ,<- (hi k (by omega)).at _ false];congr 1;funext v;unfold upd
    by_cases c:v=k
    . subst c;simp
    ·by_cases c2:v<k
     . simp[c,c2,show v<k+1 by omega]
     . simp[c,c2,show ¬ v<k+1 by omega]
 refine⟨F fun _=>false,funext fun ρ=>?_⟩;rw[key n (Vo _) ρ];exact h _ _ fun v hv=>by simp[hv]
theorem Ni (p:Nat->Bool):∀ m,(∃ i,i<m/\p i=true)->∃ q,q<m/\p q=true/\∀ j,j<q->p j=false
 | 0,h=>by obtain⟨i,hi,_⟩:=h;omega
 | m+1,h=>by
   by_cases c:∃ i,i<m/\p i=true
   . obtain⟨q,h1,h2,h3⟩:=Ni p m c;exact⟨q,by omega,h2,h3⟩
   ·have hn:∀ j,j<m->p j=false:=fun j hj=>by
     cases e:p j with
     | false=>rfl
     | true=>exact absurd ⟨j,hj,e⟩ c
    obtain⟨i,hi,e⟩:=h;obtain rfl:i=m:=by
     rcases VB i m with h1|h1
     . rw[hn i h1] at e;cases e
     . omega
    exact⟨i,hi,e,hn⟩
theorem Nj {l:List Nat}(h:∃ v∈l,AU n F v=true):∃ q,q<l.length/\topR n F l=(l.getD q 0:Nat)/\AU n F (l.getD q 0)=true/\∀ j,j<q->AU n F (l.getD j 0)=false:=by
 obtain⟨v,hv,hh⟩:=h;obtain⟨i,hi,rfl⟩:=Wj hv;obtain⟨q,h1,h2,h3⟩:=Ni (fun q=>AU n F (l.getD q 0)) l.length ⟨i,hi,by simpa [List.getD,hi] using hh⟩;exact⟨q,h1,Jg l q h1 h2 h3,h2,h3⟩
end
open Classical in
noncomputable def belF (n:Nat)(os:List Nat):Nat->List BF->BF->List BF
 | 0,l,_=>l
 | k+1,l,F=>if (∃ c,F=fun _=>c)\/Eb l F then l else belF n os k (belF n os k (l++[F]) (cofF F (topR n F os).toNat false)) (cofF F (topR n F os).toNat true)
theorem G1 (n:Nat)(os:List Nat):∀ (k:Nat) (l:List BF) (F:BF),(belF n os k l F).length+1<=l.length+2^k
 | 0,l,F=>by simp[belF]
 | k+1,l,F=>by
   unfold belF;have hp:0<2^k:=WR (by omega);rw[WS];split
   . omega
   . have h1:=G1 n os k (l++[F]) (cofF F (topR n F os).toNat false);have h2:=G1 n os k (belF n os k (l++[F]) (cofF F (topR n F os).toNat false)) (cofF F (topR n F os).toNat true);rw[Vr,WW] at h1;omega
def PosF (os:List Nat)(p:Nat)(F:BF):Prop:=∀ j,j<p->Ind F (os.getD j 0)
section
variable {p:Nat}{l:List BF}
theorem Uj (h:DepF n F)(hp:PosF os n F)(hl:os.length=n)(hmem:∀ v,v<n->v∈os):∃ c,F=fun _=>c :=
 Nh h fun v hv=>by
  obtain⟨i,hi,e⟩:=Wj (hmem v hv);have:=hp i (by omega)
  rwa [show os.getD i 0=v by simp[List.getD,hi,e]] at this
theorem Uk (h:DepF n F)(hp:PosF os p F)(hlt:∀ v∈os,v<n)(hmem:∀ v,v<n->v∈os)(hnc:¬ ∃ c,F=fun _=>c) :
 ∃ v:Nat,topR n F os=(v:Nat)/\v<n/\∀ b,PosF os (p+1) (cofF F v b)/\DepF n (cofF F v b):=by
 have g1:∃ v∈os,AU n F v=true:=by
  by_cases c:∃ v∈os,AU n F v=true
  . exact c
  ·exact absurd (Nh h fun v hv=>Ng h (by
    cases e:AU n F v with
    | false=>rfl
    | true=>exact absurd ⟨v,hmem v hv,e⟩ c)) hnc
 obtain⟨q,hq,h1,h2,h3⟩:=Nj g1;have g0:os.getD q 0∈os:=by simp[List.getD,hq]
 refine⟨os.getD q 0,h1,hlt _ g0,fun b=>⟨fun j hj=>?_,Fo h _ b⟩⟩;have g2:p<=q:=by
  rcases VB q p with c|c
  . have:=Ui h (hp q c);rw[h2] at this;cases this
  . exact c
 rcases VB j q with c|c
 . exact(Ng h (h3 j c)).cof _ b
 ·obtain rfl:j=q:=by omega
  exact fun c=>Nf F _ b c
theorem Fq (h:(∃ c,F=fun _=>c)\/Eb l F):belF n os k l F=l:=by
 cases k with
 | zero=>rfl
 | succ k=>unfold belF;rw[Vs h]
theorem Nk {v:Nat}(h:¬ ((∃ c,F=fun _=>c)\/Eb l F))(hv:topR n F os=(v:Nat)):belF n os (k+1) l F=belF n os k (belF n os k (l++[F]) (cofF F v false)) (cofF F v true):=by
 rw[belF,Vn h,hv];rfl
theorem G2 (n:Nat)(os:List Nat):∀ (k:Nat) (l:List BF) (F:BF),(∀ G∈l,DepF n G)->DepF n F->∀ G∈belF n os k l F,DepF n G
 | 0,l,F,hl,_=>hl
 | k+1,l,F,hl,h=>by
   unfold belF;split
   . exact hl
   ·exact G2 n os k _ _ (G2 n os k _ _ (fun G hG=>by
     rcases Vy.1 hG with h1|h1
     . exact hl G h1
     . simp at h1;subst h1;exact h) (Fo h _ _)) (Fo h _ _)
end
noncomputable def nodesF (n:Nat)(os:List Nat)(Gs:List BF):List BF:=Gs.foldl (fun l G=>belF n os n l G) []
def A9 (d:Ae):Nat->List Nat->Nat->List Nat
 | 0,met,_=>met
 | k+1,met,f=>match Aa d (f/2) with
   | none=>met
   | some b=>if f/2∈met then met else A9 d k (A9 d k (met++[f/2]) (cofs d f b.v).1) (cofs d f b.v).2
structure RelN (d:Ae)(V:Nat->BF)(met:List Nat)(l:List BF):Prop where
 len:met.length=l.length
 node:∀ i∈met,∃ b,Aa d i=some b
 fn:∀ i (h:i<met.length) (h2:i<l.length),l[i]=V met[i]\/l[i]=notF (V met[i])
section
theorem Nl (F:BF):notF (notF F)=F:=funext fun ρ=>by show (!(!F ρ))=F ρ;simp
theorem Jm (f:Nat):ef V f=V (f/2)\/ef V f=notF (V (f/2)):=by
 rcases(show f%2=0\/f%2=1 by omega) with h|h
 . exact .inl (funext fun ρ=>by simp[ef,h])
 . exact .inr (funext fun ρ=>by simp[ef,h,notF])
theorem Jn (h:Ak d V)(h0:Aa d 0=none)(hf:okE (Aa d) f):(∃ c,ef V f=fun _=>c)↔Aa d (f/2)=none:=by
 constructor
 ·rintro⟨c,hc⟩;have:f=0\/f=1:=by
   cases c with
   | true=>exact .inl ((h.dag.canon_iff hf (.inl rfl)).1 (by rw[hc,h.dag.ef0]))
   | false=>exact .inr ((h.dag.canon_iff hf (.inl rfl)).1 (by rw[hc,h.dag.ef1]))
  rcases this with rfl|rfl<;>exact h0
 ·intro hn;rcases hf with h1|⟨b,hb⟩
  . rw[T5 h h1];exact⟨_,rfl⟩
  . rw[hn] at hb;cases hb
theorem Nm (h:Ak d V)(hf:okE (Aa d) f){l:List BF}(hr:RelN d V met l):Eb l (ef V f)↔f/2∈met:=by
 constructor
 ·rintro⟨i,hi,he⟩;have hm:i<met.length:=by rw[hr.len];exact hi
  obtain⟨b,hb⟩:=hr.node _ (Vv hm);have hE:∀ c,c<2->okE (Aa d) (2*met[i]+c):=fun c hc=>.inr ⟨b,by rw[show (2*met[i]+c)/2=met[i] by omega];exact hb⟩
  have g1:ef V (2*met[i]+0)=V met[i]:=funext fun ρ=>by unfold ef;rw[show (2*met[i]+0)/2=met[i] by omega,show (2*met[i]+0)%2=0 by omega];simp
  have g0:ef V (2*met[i]+1)=notF (V met[i]):=funext fun ρ=>by unfold ef notF;rw[show (2*met[i]+1)/2=met[i] by omega,show (2*met[i]+1)%2=1 by omega];simp
  have hn:=T3 V f;have key:∀ e,okE (Aa d) e->e/2=met[i]->(ef V e=ef V f\/ef V e=ef V (enot f))->f/2=met[i]:=fun e he h2 h3=>by
   rcases h3 with h3|h3
   . rw[<- (h.dag.canon_iff he hf).1 h3];exact h2
   . have:=(h.dag.canon_iff he (JE hf)).1 h3;rw[this,DE] at h2;exact h2
  have:f/2=met[i]:=by
   rcases hr.fn i hm hi with e|e
   . exact key _ (hE 0 (by omega)) (by omega) (by rw[g1,<- e,hn];exact he)
   . exact key _ (hE 1 (by omega)) (by omega) (by rw[g0,<- e,hn];exact he)
  rw[this];exact Vv hm
 ·intro hm;obtain⟨i,hi,he⟩:=Wj hm;refine⟨i,by rw[<- hr.len];exact hi,?_⟩;have h1:=hr.fn i hi (by rw[<- hr.len];exact hi);rw[he] at h1;rcases Jm (V:=V) f with e|e<;>rcases h1 with e2|e2<;>rw[e,e2]
  . exact .inl rfl
  . exact .inr rfl
  . exact .inr (Nl _).symm
  . exact .inl rfl
theorem Jo (h:Ak d V)(h0:Aa d 0=none):∀ (k:Nat) (met:List Nat) (l:List BF) (f:Nat),okE (Aa d) f->RelN d V met l->RelN d V (A9 d k met f) (belF d.vars.length d.vars k l (ef V f))
 | 0,met,l,f,_,hr=>hr
 | k+1,met,l,f,hf,hr=>by
   cases hb:Aa d (f/2) with
   | none =>
     rw[Fq (.inl ((Jn h h0 hf).2 hb))];unfold A9;rw[hb];exact hr
   | some b =>
     unfold A9;rw[hb]
     show RelN d V (if f/2∈met then met else _) _
     by_cases hm:f/2∈met
     . rw[Vs hm,Fq (.inr ((Nm h hf hr).2 hm))];exact hr
     ·have hnc:¬ ∃ c,ef V f=fun _=>c:=fun e=>by rw[(Jn h h0 hf).1 e] at hb;cases hb
      obtain⟨htop,hbv⟩:=MJ h hb;rw[Vn hm,Nk (fun e=>e.elim hnc fun e=>hm ((Nm h hf hr).1 e)) htop];have hl:levN d b.v<=lvE d.vars.length (levN d) (Aa d) f:=by unfold lvE;rw[hb];exact Vo _
      obtain⟨q1,q2,_⟩:=Cf h hf hbv hl;obtain⟨e1,e2⟩:=Jl h hf hbv hl;rw[<- e1,<- e2];refine Jo h h0 k _ _ _ q2 (Jo h h0 k _ _ _ q1 ⟨by simp[hr.len],fun i hi=>?_,fun i h1 h2=>?_⟩)
      ·rcases Vy.1 hi with c|c
       . exact hr.node i c
       . simp at c;subst c;exact⟨b,hb⟩
      ·rcases VB i met.length with c|c
       . rw[Wp c,Wp (by rw[<- hr.len];exact c)];exact hr.fn i c _
       ·have e:i=met.length:=by simp at h1;omega
        subst e;rw[W9 (Vo _),W9 (by rw[hr.len];exact Vo _)];simpa using Jm (V:=V) f
end
def B9 (v:Nat):List (Nat×Nat)->List (Nat×Nat)
 | []=>[(v,1)]
 | p::r=>if p.1=v then (v,p.2+1)::r else p::B9 v r
def getC (v:Nat):List (Nat×Nat)->Nat
 | []=>0
 | p::r=>if p.1=v then p.2 else getC v r
def sumC (l:List (Nat×Nat)):Nat:=(l.map (·.2)).sum
theorem Nn (v:Nat):∀ l,sumC (B9 v l)=sumC l+1
 | []=>rfl
 | p::r=>by
   unfold B9;split
   . simp only[sumC,Wx,List.sum_cons];omega
   . have:=Nn v r;simp only[sumC,Wx,List.sum_cons] at this ⊢;omega
theorem No (v u:Nat):∀ l,getC u (B9 v l)=getC u l+(if u=v then 1 else 0)
 | []=>by
   show (if v=u then 1 else 0)=0+_
   by_cases h:u=v
   . subst h;simp
   . rw[Vn h,Vn (fun e=>h e.symm)]
 | p::r=>by
   unfold B9
   by_cases h:p.1=v
   ·rw[Vs h]
    show (if v=u then p.2+1 else getC u r)=(if p.1=u then p.2 else getC u r)+_
    rw[h]
    by_cases e:v=u
    . rw[Vs e,Vs e,Vs e.symm]
    . rw[Vn e,Vn e,Vn (fun c=>e c.symm),Xj]
   ·rw[Vn h]
    show (if p.1=u then p.2 else getC u (B9 v r))=(if p.1=u then p.2 else getC u r)+_
    by_cases e:p.1=u
    . rw[Vs e,Vs e,Vn (fun c=>h (e.trans c)),Xj]
    . rw[Vn e,Vn e,No v u r]
theorem Np (v:Nat):∀ l,getC v l<=sumC l
 | []=>Vo _
 | p::r=>by
   have:=Np v r;simp only[getC,sumC,Wx,List.sum_cons] at this ⊢;split<;>omega
def vrD (d:Ae)(i:Nat):Nat:=match Aa d i with|some b=>b.v|none=>0
def tally (d:Ae)(met:List Nat):List (Nat×Nat):=met.foldl (fun c i=>B9 (vrD d i) c) []
section
theorem Ul (met:List Nat)(i:Nat):tally d (met++[i])=B9 (vrD d i) (tally d met):=by
 unfold tally;rw[X4];rfl
theorem Um (met:List Nat)(hb:Aa d i=some b):tally d (met++[i])=B9 b.v (tally d met):=by
 rw[Ul,show vrD d i=b.v by unfold vrD;rw[hb]]
theorem Nq (c:List (Nat×Nat))(v:Nat):∀ met:List Nat,sumC (met.foldl (fun c i=>B9 (vrD d i) c) c)=sumC c+met.length/\getC v (met.foldl (fun c i=>B9 (vrD d i) c) c)=getC v c+met.countP fun i=>vrD d i=v:=by
 intro met
 induction met generalizing c with
 | nil=>exact⟨rfl,rfl⟩
 | cons i r ih =>
   obtain⟨h1,h2⟩:=ih (B9 (vrD d i) c);refine⟨?_,?_⟩
   . rw[List.foldl_cons,h1,Nn,VG];omega
   ·rw[List.foldl_cons,h2,No,List.countP_cons]
    by_cases e:v=vrD d i
    . rw[Vs e,Vs (by simp[e])];omega
    . rw[Vn e,Vn (by simpa using fun c=>e c.symm)];omega
theorem Jp (met:List Nat):sumC (tally d met)=met.length:=by
 have:=(Nq (d:=d) [] 0 met).1;unfold tally;rw[this];simp[sumC]
theorem Un (met:List Nat)(v:Nat):getC v (tally d met)=met.countP fun i=>vrD d i=v:=by
 have:=(Nq (d:=d) [] v met).2;unfold tally;rw[this];simp[getC]
structure Cz (d:Ae)(met:List Nat):Prop where
 nd:met.Nodup
 node:∀ i∈met,∃ b,Aa d i=some b
theorem Cz.snoc (h:Cz d met)(hb:Aa d i=some b)(hn:i∉met):Cz d (met++[i]):=by
 refine⟨Wg.2 ⟨h.nd,by simp,fun a ha c hc e=>?_⟩,fun j hj=>?_⟩
 . simp at hc;subst hc;subst e;exact hn ha
 ·rcases Vy.1 hj with c|c
  . exact h.node j c
  . simp at c;subst c;exact⟨b,hb⟩
theorem Cz.len (h:Cz d met)(hlt:∀ e,okE (Aa d) e->e<eMax):met.length<=2305843009213693952:=by
 refine E3 _ _ h.nd fun i hi=>?_
 obtain⟨b,hb⟩:=h.node i hi;have:=hlt (2*i) (.inr ⟨b,by rw[show 2*i/2=i by omega];exact hb⟩);unfold eMax at this;omega
theorem Jq (h:Ak d V):∀ (k:Nat) (met:List Nat) (f:Nat),Cz d met->Cz d (A9 d k met f)
 | 0,met,f,hm=>hm
 | k+1,met,f,hm=>by
   unfold A9;cases hb:Aa d (f/2) with
   | none=>exact hm
   | some b =>
     show Cz d (if f/2∈met then met else _)
     by_cases c:f/2∈met
     . rw[Vs c];exact hm
     . rw[Vn c];exact Jq h k _ _ (Jq h k _ _ (hm.snoc hb c))
def CZ (d:Ae)(l:List Nat):List Nat:=l.foldl (fun met f=>A9 d d.vars.length met f) []
theorem Uo (l:List Nat)(hi:i<l.length):CZ d (l.take (i+1))=A9 d d.vars.length (CZ d (l.take i)) l[i]:=by
 unfold CZ;rw[List.take_add_one,VD hi,X4];rfl
theorem Nr (h:Ak d V)(l:List Nat):Cz d (CZ d l):=by
 unfold CZ;have:∀ (l met:List Nat),Cz d met->Cz d (l.foldl (fun met f=>A9 d d.vars.length met f) met):=by
  intro l
  induction l with
  | nil=>intro met hm;exact hm
  | cons f r ih=>intro met hm;exact ih _ (Jq h _ _ _ hm)
 exact this l [] ⟨Yc,by simp⟩
theorem Up (h:Ak d V)(l:List Nat)(hl:∀ f∈l,okE (Aa d) f):(CZ d l).length=(nodesF d.vars.length d.vars (l.map (ef V))).length:=by
 have:∀ (l:List Nat) (met:List Nat) (gs:List BF),(∀ f∈l,okE (Aa d) f)->RelN d V met gs->RelN d V (l.foldl (fun met f=>A9 d d.vars.length met f) met) ((l.map (ef V)).foldl (fun l G=>belF d.vars.length d.vars d.vars.length l G) gs):=by
  intro l
  induction l with
  | nil=>intro met gs _ hr;exact hr
  | cons f r ih =>
    intro met gs hl hr;exact ih _ _ (fun g hg=>hl g (WP _ hg)) (Jo h h.dag.none0 _ _ _ f (hl f (VW ..)) hr)
 exact(this l [] [] hl ⟨rfl,fun i hi=>by simp at hi,fun i h1=>by simp at h1⟩).len
end
theorem G3:Df prog 3 (Value.int .i64):=JR underlying3
def mtL (met:List Nat):List (Int×Value):=met.map fun i:Nat=>((i:Int),(.bool true:Value))
theorem Ns (met:List Nat)(f:Nat):getL (mtL met) (f:Int)=if f∈met then some (.bool true) else none:=by
 by_cases h:f∈met
 ·rw[Vs h];unfold getL;have:∀ (l:List Nat) (i:Nat),f∈l->(AE (f:Int) (mtL l) i).map (·.2)=some (.bool true):=by
   intro l
   induction l with
   | nil=>intro i h;simp at h
   | cons x r ih =>
     intro i h
     show (if (x:Int)=(f:Int) then some (i,(.bool true:Value)) else AE (f:Int) (mtL r) (i+1)).map (·.2)=_
     by_cases e:(x:Int)=(f:Int)
     . rw[Vs e];rfl
     ·rw[Vn e];refine ih _ ?_;rcases VX.1 h with h|h
      . exact absurd (by rw[h]) e
      . exact h
  exact this met 0 h
 ·rw[Vn h];refine Dh.2 fun p hp=>?_
  obtain⟨i,hi,rfl⟩:=Vz.1 hp;intro e;have e2:i=f:=Int.ofNat.inj e;rw[e2] at hi;exact h hi
theorem Nt {b:Nat}(h:A1 w b (Value.int .i64) (mtL met))(f:Nat) :
 (Instr.lookup 195 (.map (some b)) (Iv (f:Nat)) false).run prog w=.ok (.bool (decide (f∈met))) w:=by
 have:=h.lookup G3 underlying195 zeroValue4 (f:Int) false;rw[Ns] at this
 by_cases c:f∈met
 . rw[Vs c] at this;simpa [c] using this
 . rw[Vn c] at this;simpa [c] using this
theorem Uq {b:Nat}(h:A1 w b (Value.int .i64) (mtL met))(hf:f∉met) :
 ∃ w',(Instr.mapUpdate 195 (.map (some b)) (Iv (f:Nat)) (.bool true)).run prog w=.ok () w'/\A1 w' b (Value.int .i64) (mtL (met++[f]))/\w.grownBy w' (some b):=by
 obtain⟨w',h1,h2,h3⟩:=h.update G3 underlying195 (f:Int) (.bool true);refine⟨w',h1,?_,h3⟩;have e:putL (f:Int) (.bool true) (mtL met)=mtL (met++[f]):=by
  have hg:=Ns met f;rw[Vn hf] at hg;unfold getL at hg;unfold putL;cases hc:AE (f:Int) (mtL met) 0 with
  | none=>simp[mtL]
  | some q=>rw[hc] at hg;simp at hg
 rw[<- e];exact h2
def ctL (cs:List (Nat×Nat)):List (Int×Value):=cs.map fun p=>((p.1:Int),(Iv (p.2:Nat):Value))
theorem Jr (v:Nat):∀ (cs:List (Nat×Nat)) (i:Nat),(AE (v:Int) (ctL cs) i=none/\getC v cs=0/\B9 v cs=cs++[(v,1)])\/∃ j,AE (v:Int) (ctL cs) i=some (i+j,Iv (getC v cs:Nat))/\B9 v cs=cs.set j (v,getC v cs+1)
 | [],i=>.inl ⟨rfl,rfl,rfl⟩
 | p::r,i=>by
   by_cases h:p.1=v
   ·refine .inr ⟨0,?_,?_⟩
    ·show (if (p.1:Int)=(v:Int) then _ else _)=_
     rw[Vs (by rw[h])];simp[getC,h]
    . simp[B9,getC,h]
   ·have hne:¬ (p.1:Int)=(v:Int):=fun e=>h (Int.ofNat.inj e)
    have e1:∀ i,AE (v:Int) (ctL (p::r)) i=AE (v:Int) (ctL r) (i+1):=fun i=>by
     show (if (p.1:Int)=(v:Int) then _ else _)=_
     rw[Vn hne];rfl
    rcases Jr v r (i+1) with ⟨a,b,c⟩|⟨j,a,b⟩
    . exact .inl ⟨by rw[e1,a],by simp[getC,h,b],by simp[B9,h,c]⟩
    ·refine .inr ⟨j+1,?_,?_⟩
     . rw[e1,a];simp[getC,h];omega
     . simp[B9,h,b,getC]
theorem Ur {b:Nat}{cs:List (Nat×Nat)}(h:A1 w b (Value.int .i64) (ctL cs))(v:Nat) :
 (Instr.lookup 153 (.map (some b)) (Iv (v:Nat)) false).run prog w=.ok (Iv (getC v cs:Nat)) w:=by
 have:=h.lookup G3 underlying153 zeroValue3 (v:Int) false;rw[this];unfold getL;rcases Jr v cs 0 with ⟨a,b,_⟩|⟨j,a,_⟩
 . rw[a,b];simp
 . rw[a];simp
theorem Us {b:Nat}{cs:List (Nat×Nat)}(h:A1 w b (Value.int .i64) (ctL cs))(v:Nat){c:Int}(hc:c=(getC v cs+1:Nat)) :
 ∃ w',(Instr.mapUpdate 153 (.map (some b)) (Iv (v:Nat)) (Iv c)).run prog w=.ok () w'/\A1 w' b (Value.int .i64) (ctL (B9 v cs))/\w.grownBy w' (some b):=by
 obtain⟨w',h1,h2,h3⟩:=h.update G3 underlying153 (v:Int) (Iv c);refine⟨w',h1,?_,h3⟩;have e:putL (v:Int) (Iv c) (ctL cs)=ctL (B9 v cs):=by
  unfold putL;subst hc;rcases Jr v cs 0 with ⟨a,b,q⟩|⟨j,a,q⟩
  . rw[a,q];simp[ctL,b]
  . rw[a,q];simp[ctL,X2]
 rw[<- e];exact h2
section
variable {R:List PanicEntry->Wd->Prop}
def Nx (_:List Nat)(P:Program)(l:List Oper)(Q:Exit->Act->Wd->Prop)(R:List PanicEntry->Wd->Prop)(S:Wd->Prop)(f:Nat)(L:Array Bool)(a:Act)(w:Wd):Prop:=Dl P l Q R S l.length f L a w
theorem Nu (pl:List Nat)(S:Wd->Prop)(R:List PanicEntry->Wd->Prop)(hR:∀ c (a:Act) w,a.defers=[]->R c w->Q (.panic c) a w)(hm:P.follows .mixedOrders=true)(hS:S w.drew)
 (h:Nx pl P l Q R S l.length (Array.replicate l.toArray.size false) a w.drew):(Code.region id l.toArray true).wp P Q a w:=Lv S R l.length hR hm hS h
theorem Nv {o:Oper}(hi:l[i]?=some o)(hg:o.guard=none)
 (hB:(Region.noSelect l.toArray&&(Region.ready .any l.toArray L).contains i&&Region.free .any l.toArray L i)=true)
 (h:∃ v,(∀ w,S w->(execOp a.eval o).run P w=.ok (.value v) w)/\Nx pl P l Q R S f (L.setIfInBounds i true) (a.put o.dst v) w):Nx (i::pl) P l Q R S (f+1) L a w :=
 Dm _ hi hg (by rw[hB];simp) h
theorem Ut {o:Oper}{g:FuncId}{R1:Value->Wd->Prop}(hi:l[i]?=some o)(hr:decide (Region.ready .any l.toArray L=[i])=true)
 (hg:Region.wanted o (yielded l.toArray a.tmps)=true) (hd:a.defers=[]) (he:(execOp a.eval o).run P w=.ok (.enter g args) w)
 (hc:Calls P g args w fun e w'=>(∃ v,e=.returned v/\S w'/\R1 v w')\/(∃ ch,e=.panicked ch/\R ch w'))
 (h:∀ v w',S w'->R1 v w'->Nx pl P l Q R S f (L.setIfInBounds i true) (a.put o.dst v) w'):Nx (i::pl) P l Q R S (f+1) L a w:=by
 refine Ez [i] (by rw[Wu];exact⟨hr,rfl⟩) fun j g1 hS o2 g0=>?_
 rw[VF] at g1;subst g1;rw[hi] at g0;cases g0;refine⟨hg,?_⟩;refine Lx (R:=fun v w'=>S w'/\R1 v w') (R2:=R) he (hc.mono ?_) (fun v w' hh=>⟨hh.1,h v w' hh.1 hh.2⟩) (fun ch w' hh=>⟨hd,hh⟩);rintro e w' (⟨v,h1,h2⟩|hh)
 . exact .inl ⟨v,h1,h2⟩
 . exact .inr hh
theorem Js {o:Oper}{g:FuncId}{R1:Value->Wd->Prop}(hi:l[i]?=some o)(hr:decide (Region.ready .any l.toArray L=[i])=true)
 (hg:Region.wanted o (yielded l.toArray a.tmps)=true) (hd:a.defers=[]) (he:(execOp a.eval o).run P w=.ok (.enter g args) w)
 (hc:Calls P g args w fun e w'=>∃ v,e=.returned v/\R1 v w') (hS:∀ v w',R1 v w'->S w')
 (h:∀ v w',S w'->R1 v w'->Nx pl P l Q R S f (L.setIfInBounds i true) (a.put o.dst v) w'):Nx (i::pl) P l Q R S (f+1) L a w :=
 Ut hi hr hg hd he (hc.mono fun e w' ⟨v,h1,h2⟩=>.inl ⟨v,h1,hS v w' h2,h2⟩) h
theorem Nw (hr:(Region.ready .any l.toArray L).isEmpty=true)(h:Q .normal a w):Nx [] P l Q R S 0 L a w:=Lw hr h
end
theorem Uu {R:List PanicEntry->Wd->Prop}{o:Oper}{t:TypeId}{m x y:Operand}(hi:l[i]?=some o)(hr:decide (Region.ready .any l.toArray L=[i])=true)
 (hg:Region.wanted o (yielded l.toArray a.tmps)=true) (ho:o.op=.mapUpdate t m x y) (hs:(Instr.mapUpdate t (a.eval m) (a.eval x) (a.eval y)).run P w=.ok () w') (hS:S w')
 (h:Nx pl P l Q R S f (L.setIfInBounds i true) (a.put o.dst undef) w'):Nx (i::pl) P l Q R S (f+1) L a w:=by
 refine Ez [i] (by rw[Wu];exact⟨hr,rfl⟩) fun j g1 _ o2 g0=>?_
 rw[VF] at g1;subst g1;rw[hi] at g0;cases g0;refine⟨hg,?_⟩;unfold Oper.wp;simp only[execOp,ho,WG,hs,VZ];exact⟨hS,h⟩
section
variable {F:Phi}{o:Own}
theorem Ba.other (h:Ba F o W mb m)(hl:Ab o W)(hx:Wr C W W')(hC:∀ k,k<W.heap.size->C k->o k=none):Ba F o W' mb m:=by
 obtain⟨s,hm⟩:=h;exact⟨s,hm.keep (fun g r hg=>hx.keep g (hl g r hg) (fun e=>by have:=hC g (hl g r hg) e;rw[hg] at this;cases this)) (fun _ _ h=>h)⟩
end
theorem Uv (args:Array Value)(w:Wd):(callFunc 166 args).run prog w=.ok (.enter 166 args) w:=XQ func166 (by kernel_rfl) rfl args w
structure SnC where
 bm:Nat
 bx:Nat
 bn:Nat
 bd:Nat
 mt:Nat
 nt:Nat
 xb:Nat
def SnC.caps (c:SnC):Array Value:=#[Pt c.bm,Pt c.bx,Pt c.bn,Pt c.bd]
def SnC.two (c:SnC)(k:Nat):Prop:=k=c.mt\/k=c.nt
structure SnS (F:Phi)(c:SnC)(mb:Nat)(o:Own)(m:ManD)(V:Nat->BF)(met:List Nat)(cs:List (Nat×Nat))(W:Wd):Prop where
 is:Ba F o W mb m
 lt:Ab o W
 ok:Ak m.d V
 x:BO o W c.xb mb
 bm:W.cell? (Av c.bm)=some (.map (some c.mt))
 bx:W.cell? (Av c.bx)=some (Pt c.xb)
 bn:W.cell? (Av c.bn)=some (.map (some c.nt))
 bd:W.cell? (Av c.bd)=some (.func (.func 166) #[] c.caps)
 map:A1 W c.mt (Value.int .i64) (mtL met)
 cnt:A1 W c.nt (Value.int .i64) (ctL cs)
 own:∀ q,(q=c.bm\/q=c.bx\/q=c.bn\/q=c.bd\/q=c.mt\/q=c.nt)->o q=none
 ne:c.mt≠c.bm/\c.mt≠c.bx/\c.mt≠c.bn/\c.mt≠c.bd/\c.mt≠c.xb/\c.mt≠c.nt
 ne2:c.nt≠c.bm/\c.nt≠c.bx/\c.nt≠c.bn/\c.nt≠c.bd/\c.nt≠c.xb
 mok:Cz m.d met
section
variable {F:Phi}{c:SnC}{o:Own}{met':List Nat}{cs cs':List (Nat×Nat)}
theorem SnS.go (h:SnS F c mb o m V met cs W)(hx:Wr c.two W W')(hm:A1 W' c.mt (Value.int .i64) (mtL met'))(hn:A1 W' c.nt (Value.int .i64) (ctL cs'))(hk:Cz m.d met'):SnS F c mb o m V met' cs' W':=by
 have hc:∀ {b k:Nat} {v:Value},W.cell? (Aw b k)=some v->c.mt≠b->c.nt≠b->W'.cell? (Aw b k)=some v:=fun h h1 h2=>(Wm (w:=W) (hx.keep _ (Ah h) (fun e=>e.elim (fun e=>h1 e.symm) (fun e=>h2 e.symm)))).trans h
 obtain⟨n1,n2,n3,n4,n5,n6⟩:=h.ne;obtain⟨k1,k2,k3,k4,k5⟩:=h.ne2;exact⟨h.is.other h.lt hx (fun k _ e=>h.own k (.inr (.inr (.inr (.inr e))))),h.lt.mono hx.size,h.ok,⟨hc h.x.cell n5 k5,h.x.own⟩,hc h.bm n1 k1,hc h.bx n2 k2,hc h.bn n3 k3,hc h.bd n4 k4,hm,hn,h.own,h.ne,h.ne2,hk⟩
theorem SnS.below (h:SnS F c mb o m V met cs W)(hb:Bw W W'):SnS F c mb o m V met cs W':=h.go (Wr.of_below hb _) (h.map.below hb) (h.cnt.below hb) h.mok
def SnR (F:Phi)(c:SnC)(mb:Nat)(o:Own)(m:ManD)(V:Nat->BF)(met:List Nat)(W:Wd)(x:Ending)(w':Wd):Prop:=x=.returned (.tuple #[])/\Wr c.two W w'/\SnS F c mb o m V met (tally m.d met) w'
theorem Jt (h:SnS F c mb o m V met (tally m.d met) W)(hf:okE (Aa m.d) f)(hst:f/2=0\/f/2∈met):Cl 166 (#[Iv f]++c.caps) W (SnR F c mb o m V met W):=by
 obtain⟨bm,bx,bn,bd,mt,nt,xb⟩:=c;have g2:=Jh (K:=fun _ _=>F) (V:=V) h.is hf;have g0:Hq (∀ q,Cl 167 #[Iv f] (W.drewN q) fun x w'=>x=.returned (.bool (decide (enode f=0)))/\W.drewN q=w'):=Hd fun q=>GF f _ g2
 have g1:Hq (∀ q,Cl 168 #[Iv f] (W.drewN q) fun x w'=>x=.returned (Iv (enode f:Nat))/\W.drewN q=w'):=Hd fun q=>BJ f _ g2
 have g3:∀ q,(Instr.lookup 195 (.map (some mt)) (Iv (enode f:Nat)) false).run prog (W.drewN q)=.ok (.bool (decide (enode f∈met))) (W.drewN q):=fun q=>Nt (h.below (An W q)).map (enode f)
 have cbm:=h.bm;have HF:Hq (∀ q,SnR F ⟨bm,bx,bn,bd,mt,nt,xb⟩ mb o m V met W (.returned (.tuple #[])) (W.drewN q)):=Hd fun q=>⟨rfl,Wr.of_below (An W q) _,h.below (An W q)⟩
 obtain⟨P,hP⟩:=Ex (SnR F ⟨bm,bx,bn,bd,mt,nt,xb⟩ mb o m V met W);rw[<- hP] at HF ⊢;unfold SnC.caps;clear hP h
 show Calls _ _ #[_,_,_,_,_] _ _
 rcases hst with h0|h0
 ·rw[We (show enode f=0 from h0)] at g0
  go_enter func166,ntmps166
  go_wp2_with fail
  go_quiet ((first|(with_reducible exact C8 (g0.o _))|(with_reducible exact C8 (g1.o _))))
  go_wp2_with fail;refine VS (Xr rfl _ _ _) rfl ?_;exact HF.o _
 ·simp only[We (show enode f∈met from h0)] at g3
  by_cases h1:enode f=0
  ·rw[We h1] at g0
   go_enter func166,ntmps166
   go_wp2_with fail
   go_quiet ((first|(with_reducible exact C8 (g0.o _))|(with_reducible exact C8 (g1.o _))))
   go_wp2_with fail;refine VS (Xr rfl _ _ _) rfl ?_;exact HF.o _
  ·rw[VU h1] at g0
   go_enter func166,ntmps166
   go_wp2_with fail
   go_quiet ((first|(with_reducible exact C8 (g0.o _))|(with_reducible exact C8 (g1.o _))))
   go_wp2_with fail;refine VS (Xr rfl _ _ _) rfl ?_;exact HF.o _
theorem Uw (IH:∀ met f W,SnS F c mb o m V met (tally m.d met) W->okE (Aa m.d) f->m.d.vars.length<=lvE m.d.vars.length (levN m.d) (Aa m.d) f+k->Cl 166 (#[Iv (f:Nat)]++c.caps) W (SnR F c mb o m V (A9 m.d k met f) W))
 (h:SnS F c mb o m V met (tally m.d met) W) {f:Nat} {b:BN} (hb:Aa m.d (f/2)=some b) (hnm:f/2∉met) (hlev:m.d.vars.length<=lvE m.d.vars.length (levN m.d) (Aa m.d) f+(k+1)) :
 Cl 166 (#[Iv f]++c.caps) W (SnR F c mb o m V (A9 m.d k (A9 m.d k (met++[f/2]) (cofs m.d f b.v).1) (cofs m.d f b.v).2) W):=by
 obtain⟨bm,bx,bn,bd,mt,nt,xb⟩:=c;have hf:okE (Aa m.d) f:=.inr ⟨b,hb⟩;have g7:∀ e,okE (Aa m.d) e->e<eMax:=fun e he=>Jh (K:=fun _ _=>F) (V:=V) h.is he
 have ga:=g7 f hf;have gD:=h.ok.dag.var _ _ hb;have hl:levN m.d b.v<=lvE m.d.vars.length (levN m.d) (Aa m.d) f:=by unfold lvE;rw[hb];exact Vo _
 have h7:lvE m.d.vars.length (levN m.d) (Aa m.d) f=levN m.d b.v:=by unfold lvE;rw[hb]
 obtain⟨q1,q2,q3,q4,_⟩:=Cf h.ok hf gD hl;have h0:enode f≠0:=fun e=>by
  have:f/2=0:=e;rw[this,h.ok.dag.none0] at hb;cases hb
 have g6:=h.mok;have g3:=g6.snoc hb hnm;have gC:getC b.v (tally m.d met)<=2305843009213693952:=by
  have h1:=Np b.v (tally m.d met);rw[Jp] at h1;have h2:=g6.len g7;omega
 obtain⟨lo,gc⟩:∃ z,z=(cofs m.d f b.v).1:=⟨_,rfl⟩;obtain⟨hi,gd⟩:∃ z,z=(cofs m.d f b.v).2:=⟨_,rfl⟩;rw[<- gc,<- gd];rw[<- gc] at q1 q3;rw[<- gd] at q2 q4;obtain⟨bv,g2⟩:∃ z,z=b.v:=⟨_,rfl⟩;have gw:Hq (∀ q,Cl 167 #[Iv f] (W.drewN q) fun x w'=>x=.returned (.bool false)/\W.drewN q=w'):=Hd fun q=>by
  have:=GF f (W.drewN q) ga
  rwa [VU h0] at this
 have gS:Hq (∀ W',Cl 168 #[Iv f] W' (Sm (Iv (enode f:Nat)) W')):=Hd fun W'=>BJ f W' ga
 have gR:Hq (∀ q,Cl 168 #[Iv f] (W.drewN q) fun x w'=>x=.returned (Iv (enode f:Nat))/\W.drewN q=w'):=Hd fun q=>BJ f _ ga
 have h6:∀ q,(Instr.lookup 195 (.map (some mt)) (Iv (enode f:Nat)) false).run prog (W.drewN q)=.ok (.bool false) (W.drewN q):=fun q=>by
  have:=Nt (h.below (An W q)).map (enode f)
  rwa [VU (show ¬ enode f∈met from hnm)] at this
 have g5:mt≠nt:=h.ne.2.2.2.2.2;have gM:Hq (∀ W',SnS F ⟨bm,bx,bn,bd,mt,nt,xb⟩ mb o m V met (tally m.d met) W'->∃ w',(Instr.mapUpdate 195 (.map (some mt)) (Iv (enode f:Nat)) (.bool true)).run prog W'=.ok () w'/\Wr (SnC.two ⟨bm,bx,bn,bd,mt,nt,xb⟩) W' w'/\SnS F ⟨bm,bx,bn,bd,mt,nt,xb⟩ mb o m V (met++[f/2]) (tally m.d met) w'):=Hd fun W' g=>by
  obtain⟨w',r1,r2,r3⟩:=Uq g.map (f:=enode f) hnm;have hw:Wr (· = mt) W' w':=Wr.of_grown r3 _ (fun k e=>by cases e;rfl);have g1:Wr (SnC.two ⟨bm,bx,bn,bd,mt,nt,xb⟩) W' w':=hw.mono (fun _ e=>.inl e);exact⟨w',r1,g1,g.go g1 r2 (g.cnt.keepB (hw.keep _ g.cnt.lt (fun e=>g5 e.symm))) g3⟩
 have gv:Hq (∀ W',SnS F ⟨bm,bx,bn,bd,mt,nt,xb⟩ mb o m V (met++[f/2]) (tally m.d met) W'->(Instr.lookup 153 (.map (some nt)) (Iv (bv:Nat)) false).run prog W'=.ok (Iv (getC b.v (tally m.d met):Nat)) W'):=Hd fun W' g=>by
  rw[g2];exact Ur g.cnt b.v
 have gu:Hq (∀ W',SnS F ⟨bm,bx,bn,bd,mt,nt,xb⟩ mb o m V (met++[f/2]) (tally m.d met) W'->∃ w',(Instr.mapUpdate 153 (.map (some nt)) (Iv (bv:Nat)) (Iv ((getC b.v (tally m.d met):Nat)+1))).run prog W'=.ok () w'/\Wr (SnC.two ⟨bm,bx,bn,bd,mt,nt,xb⟩) W' w'/\SnS F ⟨bm,bx,bn,bd,mt,nt,xb⟩ mb o m V (met++[f/2]) (tally m.d (met++[f/2])) w'):=Hd fun W' g=>by
  rw[g2];obtain⟨w',r1,r2,r3⟩:=Us g.cnt b.v (c:=((getC b.v (tally m.d met):Nat):Int)+1) (by omega);have hw:Wr (· = nt) W' w':=Wr.of_grown r3 _ (fun k e=>by cases e;rfl);have g1:Wr (SnC.two ⟨bm,bx,bn,bd,mt,nt,xb⟩) W' w':=hw.mono (fun _ e=>.inr e);rw[<- Um met hb] at r2;exact⟨w',r1,g1,g.go g1 (g.map.keepB (hw.keep _ g.map.lt (fun e=>g5 e))) r2 g3⟩
 have gn:Hq (∀ W' s,SnS F ⟨bm,bx,bn,bd,mt,nt,xb⟩ mb o m V (met++[f/2]) (tally m.d met) W'->W'.heap[s]?=some (.cells #[Iv f] 101 (0,0))->Cl 169 #[Pt xb,.slice (some (Av s)) 1 1] W' (Bl (Iv (bv:Nat)) W')):=Hd fun W' s g hs=>by
  refine(Ky g.is g.lt g.x g.ok [f] (by simpa using hf) (some (Av s)) 1 ⟨by simp,fun i h8=>?_⟩).mono ?_
  ·obtain rfl:i=0:=by simpa using h8
   exact⟨s,0,rfl,by rw[Vp _ _ 0 _ _ _ hs];rfl⟩
  ·rintro x w' ⟨top,least,rfl,ht,h4⟩;rcases Ug ht with ⟨_,hn⟩|⟨b',gE,rfl⟩
   . rw[hb] at hn;cases hn
   . rw[hb] at gE;cases gE;exact⟨by rw[g2],h4⟩
 have gP:Hq (∀ W' cs,SnS F ⟨bm,bx,bn,bd,mt,nt,xb⟩ mb o m V (met++[f/2]) cs W'->Cl 170 #[Pt xb,Iv f,Iv (bv:Nat)] W' (Bl (.tuple #[Iv lo,Iv hi]) W')):=Hd fun W' cs g=>by
  have:=Kw g.is g.lt g.x g.ok f hf (b.v:Nat);rw[<- gc,<- gd,<- g2] at this;exact this
 have gU:Hq (∀ W',SnS F ⟨bm,bx,bn,bd,mt,nt,xb⟩ mb o m V (met++[f/2]) (tally m.d (met++[f/2])) W'->Cl 166 #[Iv lo,Pt bm,Pt bx,Pt bn,Pt bd] W' (SnR F ⟨bm,bx,bn,bd,mt,nt,xb⟩ mb o m V (A9 m.d k (met++[f/2]) lo) W')):=Hd fun W' g=>IH _ lo W' g q1 (by omega)
 have gT:Hq (∀ W',SnS F ⟨bm,bx,bn,bd,mt,nt,xb⟩ mb o m V (A9 m.d k (met++[f/2]) lo) (tally m.d (A9 m.d k (met++[f/2]) lo)) W'->Cl 166 #[Iv hi,Pt bm,Pt bx,Pt bn,Pt bd] W' (SnR F ⟨bm,bx,bn,bd,mt,nt,xb⟩ mb o m V (A9 m.d k (A9 m.d k (met++[f/2]) lo) hi) W')):=Hd fun W' g=>IH _ hi W' g q2 (by omega)
 have cbm:=h.bm;have HS:=Hd h;obtain⟨P,hP⟩:=Ex (SnR F ⟨bm,bx,bn,bd,mt,nt,xb⟩ mb o m V (A9 m.d k (A9 m.d k (met++[f/2]) lo) hi) W);have HP:Hq (∀ x w',SnR F ⟨bm,bx,bn,bd,mt,nt,xb⟩ mb o m V (A9 m.d k (A9 m.d k (met++[f/2]) lo) hi) W x w'->P x w'):=Hd (by rw[hP];exact fun _ _ e=>e);have eg1:=Uv;obtain⟨g0,gj⟩:∃ g,g=getC b.v (tally m.d met):=⟨_,rfl⟩;rw[<- gj] at gC;have ha:IntKind.i64.wrap ((g0:Nat)+1)=(g0:Nat)+1:=Wq _ ⟨by omega,by omega⟩;rw[<- gj] at gv gu;rw[<- hP];unfold SnC.caps;clear hP h IH hb hnm hlev hf ga g7 gD hl h7 q1 q2 q3 q4 h0 gc gd g2 g6 g3 gC gj g5
 show Calls _ _ #[_,_,_,_,_] _ _
 go_enter func166,ntmps166
 go_wp2_with fail
 go_quiet ((first|(with_reducible exact C8 (gw.o _))|(with_reducible exact C8 (gR.o _))))
 go_upto_region 1 with fail;obtain⟨w1,gh⟩:=Ex ((W.drewN nq).drew);have gm:Bw W w1:=by rw[gh];exact An W (nq+1)
 have gt:=Hd (HS.o.below gm);have HW1:=Hd (Wr.of_below gm (SnC.two ⟨bm,bx,bn,bd,mt,nt,xb⟩));have gF:=Hd gh;have cbm1:=gt.o.bm;clear gh gm;refine Nu [0,1,2,3] (fun W'=>W'.cell? (Av bm)=some (.map (some mt))) (fun ch w'=>False) (fun c a w hd h=>h.elim) (by kernel_rfl) (by rw[<- gF.o];exact cbm1) ?_;rw[<- gF.o]
 iterate 2
  refine Nv rfl rfl (by kernel_rfl) ?_;apply Exists.intro;refine⟨fun w' hw=>?_,?_⟩
  . have q1:w'.cell? (Av bm)=some (.map (some mt)):=hw;go_simp;rfl
  simp only[Ac]
 refine Js (R1:=fun u w'=>u=Iv (enode f:Nat)/\w1=w') rfl (by kernel_rfl) rfl rfl (by go_simp) ((gS.o w1).mono fun x w' h=>⟨_,h.1,rfl,h.2⟩) (by rintro u w' ⟨_,rfl⟩;exact cbm1) ?_;rintro u w'-⟨rfl,rfl⟩;simp only[Ac];obtain⟨w2,gZ,g1,gB⟩:=gM.o w1 gt.o;have gg:=Hd gB;have gL:=Hd (HW1.o.trans g1 (fun _ _ e=>e) (fun _ _ e=>e));refine Uu (w':=w2) rfl (by kernel_rfl) rfl rfl (by go_simp) gg.o.bm ?_;simp only[Ac];refine Nw (by kernel_rfl) ?_;clear gZ g1 gB cbm1 cbm;have cbx:=gg.o.bx;have ge:=Af w2 (.cells #[Iv f] 101);obtain⟨w4,g4⟩:=Ex (w2.alloc (.cells #[Iv f] 101));rw[<- g4] at ge;have h5:=Hd g4;have gi:w4.heap[w2.heap.size]?=some (.cells #[Iv f] 101 (0,0)):=by rw[g4];exact Vq _ _
 have gr:=Hd (gg.o.below ge);have gK:=Hd (gL.o.trans (Wr.of_below ge _) (fun _ _ e=>e) (fun _ _ e=>e));have gO:=Hd (gn.o w4 _ gr.o gi);have gN:Hq (Cl 169 #[Pt xb,.slice (some (Av w2.heap.size)) 1 1] (w2.alloc (.cells #[Iv f] 101)) (Bl (Iv (bv:Nat)) w4)):=Hd (by have:=gO.o;rw[g4] at this ⊢;exact this);clear ge g4 gi gO;go_wp2_with fail;refine gN.o.mono ?_;rintro x w5 ⟨rfl,gl⟩;have gf:=Hd (gr.o.below gl);have gJ:=Hd (gK.o.trans (Wr.of_below gl _) (fun _ _ e=>e) (fun _ _ e=>e));have cbn5:=gf.o.bn;have h3:=gv.o w5 gf.o;obtain⟨w6,gY,gz,g9⟩:=gu.o w5 gf.o;have gQ:=Hd g9;have gI:=Hd (gJ.o.trans gz (fun _ _ e=>e) (fun _ _ e=>e));have cbx6:=g9.bx;have gp:=Hd (gP.o w6 _ g9);clear gl gz g9 gN cbx gr gK gg gL gt HW1 h5 h6;go_wp2_with fail;refine gp.o.mono ?_;rintro x w7 ⟨rfl,gk⟩;have gq:=Hd (gQ.o.below gk);have gH:=Hd (gI.o.trans (Wr.of_below gk _) (fun _ _ e=>e) (fun _ _ e=>e));have cbd:=gq.o.bd;unfold SnC.caps at cbd;have gX:=Hd (gU.o w7 gq.o);clear gk gf gJ gU gn gP gM gS gR gw gv gu gQ gI h3 gY cbx6 cbn5 gp;go_wp2_with fail;refine gX.o.mono ?_;rintro x w8 ⟨rfl,gy,g8⟩;have h9:=Hd g8;have gG:=Hd (gH.o.trans gy (fun _ _ e=>e) (fun _ _ e=>e));have gV:=Hd (gT.o w8 g8);have cbd8:=g8.bd;unfold SnC.caps at cbd8;clear gy g8 cbd gX gT gq gH;go_wp2_with fail;refine gV.o.mono ?_;rintro x w9 ⟨rfl,gx,gA⟩;have HF:=Hd (HP.o (.returned (.tuple #[])) w9 ⟨rfl,gG.o.trans gx (fun _ _ e=>e) (fun _ _ e=>e),gA⟩);clear gx gA cbd8 gV h9 gG HP;go_wp2_with fail;refine XO (Xr rfl _ _ _) rfl ?_;exact HF.o
theorem Ny:∀ (k:Nat) (met:List Nat) (f:Nat) (W:Wd),SnS F c mb o m V met (tally m.d met) W->okE (Aa m.d) f->m.d.vars.length<=lvE m.d.vars.length (levN m.d) (Aa m.d) f+k->Cl 166 (#[Iv (f:Nat)]++c.caps) W (SnR F c mb o m V (A9 m.d k met f) W)
 | 0,met,f,W,h,hf,hl=>by
   refine Jt h hf (.inl ?_);rcases hf with h1|⟨b,hb⟩
   . exact h1
   . exfalso;have h1:=h.ok.dag.lt b.v (h.ok.dag.var _ _ hb);unfold lvE at hl;rw[hb] at hl;simp at hl;omega
 | k+1,met,f,W,h,hf,hl=>by
   unfold A9;cases hb:Aa m.d (f/2) with
   | none =>
     refine Jt h hf (.inl ?_);rcases hf with h1|⟨b,hb'⟩
     . exact h1
     . rw[hb] at hb';cases hb'
   | some b =>
     show Calls _ _ _ _ (SnR F c mb o m V (if f/2∈met then met else _) W)
     by_cases hm:f/2∈met
     . rw[Vs hm];exact Jt h hf (.inr hm)
     . rw[Vn hm];exact Uw (fun met f W=>Ny k met f W) h hb hm hl
end
def Indep (F:BF)(v:Nat):Prop:=∀ ρ b,F (upd ρ v b)=F ρ
theorem Nz {v:Nat}(h:Indep F v)(u:Nat)(c:Bool):Indep (cofF F u c) v:=fun ρ b=>by
 show F (upd (upd ρ v b) u c)=F (upd ρ u c)
 by_cases e:v=u
 . subst e;exact Wb F (funext fun x=>by unfold upd;split<;>rfl)
 ·rw[show upd (upd ρ v b) u c=upd (upd ρ u c) v b from funext fun x=>by
   unfold upd
   by_cases h1:x=u<;>by_cases h2:x=v<;>simp_all]
  exact h _ b
theorem Ux {u v:Nat}(hne:v≠u)(h0:Indep (cofF F u false) v)(h1:Indep (cofF F u true) v):Indep F v:=fun ρ b=>by
 have key:∀ σ:Nat->Bool,F σ=cofF F u (σ u) σ:=fun σ=>Wb F (funext fun x=>by
  by_cases e:x=u
  . subst e;simp
  . simp[e])
 rw[key (upd ρ v b),key ρ,show upd ρ v b u=ρ u by unfold upd;rw[Vn (fun e=>hne e.symm)]];cases ρ u
 . exact h0 ρ b
 . exact h1 ρ b
theorem N3 {v:Nat}(h:Indep F v):Indep (notF F) v:=fun ρ b=>by
 show (!F (upd ρ v b)) = !F ρ
 rw[h]
theorem Ju {v:Nat}:Indep F v↔cofF F v false=cofF F v true:=by
 constructor
 ·intro h;funext ρ
  exact(h ρ false).trans (h ρ true).symm
 ·intro h ρ b
  have key:∀ σ:Nat->Bool,F σ=cofF F v (σ v) σ:=fun σ=>Wb F (funext fun x=>by
   by_cases e:x=v
   . subst e;simp
   . simp[e])
  have e2:cofF F v b ρ=cofF F v (ρ v) ρ:=by
   cases b<;>cases ρ v<;>first|rfl|rw[h]
  exact e2.trans (key ρ).symm
section
theorem N4 {v:Nat}:Indep (ef V f) v↔Indep (V (f/2)) v:=by
 rcases Jm (V:=V) f with e|e
 . rw[e]
 . rw[e];exact⟨fun h=>by have:=N3 h;rwa [Nl] at this,N3⟩
def InM (d:Ae)(met:List Nat)(f:Nat):Prop:=Aa d (f/2)=none\/f/2∈met
def ClM (d:Ae)(met met':List Nat):Prop:=∀ i∈met',i∉met->∀ b,Aa d i=some b->InM d met' b.lo/\InM d met' b.hi
theorem N5 (hb:Aa d (f/2)=some b):(cofs d f b.v).1/2=b.lo/2/\(cofs d f b.v).2/2=b.hi/2:=by
 unfold cofs;simp only[hb,Ws];constructor<;>(unfold eflip;split<;>first|exact DE _|rfl)
theorem E9:∀ (k:Nat) (met:List Nat) (f:Nat),∀ i∈met,i∈A9 d k met f
 | 0,met,f,i,hi=>hi
 | k+1,met,f,i,hi=>by
   unfold A9;cases hb:Aa d (f/2) with
   | none=>exact hi
   | some b =>
     show i∈(if f/2∈met then met else _)
     by_cases c:f/2∈met
     . rw[Vs c];exact hi
     . rw[Vn c];exact E9 k _ _ _ (E9 k _ _ _ (WQ _ hi))
theorem InM.mono {met':List Nat}(h:InM d met f)(hs:∀ i∈met,i∈met'):InM d met' f:=h.imp id (hs _)
theorem Jv (h:Ak d V):∀ (k:Nat) (met:List Nat) (f:Nat),okE (Aa d) f->d.vars.length<=lvE d.vars.length (levN d) (Aa d) f+k->InM d (A9 d k met f) f/\ClM d met (A9 d k met f)
 | 0,met,f,hf,hl=>by
   refine⟨.inl ?_,fun i hi hn=>absurd hi hn⟩;cases hb:Aa d (f/2) with
   | none=>rfl
   | some b =>
     exfalso;have h1:=h.dag.lt b.v (h.dag.var _ _ hb);unfold lvE at hl;rw[hb] at hl;simp at hl;omega
 | k+1,met,f,hf,hl=>by
   unfold A9;cases hb:Aa d (f/2) with
   | none=>exact⟨.inl hb,fun i hi hn=>absurd hi hn⟩
   | some b =>
     show InM d (if f/2∈met then met else _) f/\ClM d met (if f/2∈met then met else _)
     by_cases c:f/2∈met
     . rw[Vs c];exact⟨.inr c,fun i hi hn=>absurd hi hn⟩
     ·rw[Vn c];have hbv:=h.dag.var _ _ hb;have hlv:levN d b.v<=lvE d.vars.length (levN d) (Aa d) f:=by unfold lvE;rw[hb];exact Vo _
      have g2:lvE d.vars.length (levN d) (Aa d) f=levN d b.v:=by unfold lvE;rw[hb]
      obtain⟨q1,q2,q3,q4,_⟩:=Cf h hf hbv hlv;obtain⟨e1,e2⟩:=N5 hb;obtain⟨a1,a2⟩:=Jv h k (met++[f/2]) _ q1 (by omega);obtain⟨b1,b2⟩:=Jv h k (A9 d k (met++[f/2]) (cofs d f b.v).1) _ q2 (by omega);have hs1:=E9 (d:=d) k (A9 d k (met++[f/2]) (cofs d f b.v).1) (cofs d f b.v).2;have g1:=E9 (d:=d) k (met++[f/2]) (cofs d f b.v).1;refine⟨.inr (hs1 _ (g1 _ (by simp))),fun i hi hn b' g0=>?_⟩
      by_cases m2:i∈A9 d k (met++[f/2]) (cofs d f b.v).1
      ·by_cases m1:i∈met++[f/2]
       ·have:i=f/2:=by
         rcases Vy.1 m1 with m|m
         . exact absurd m hn
         . simpa using m
        subst this;rw[hb] at g0;cases g0
        have w1:=a1.mono hs1;unfold InM at w1 b1;rw[e1] at w1;rw[e2] at b1;exact⟨w1,b1⟩
       . obtain⟨w1,w2⟩:=a2 i m2 m1 b' g0;exact⟨w1.mono hs1,w2.mono hs1⟩
      . exact b2 i hi m2 b' g0
theorem Jw (h:Ak d V):∀ (k:Nat) (met:List Nat) (f:Nat),okE (Aa d) f->∀ i∈A9 d k met f,i∈met\/∀ v,Indep (ef V f) v->Indep (V i) v
 | 0,met,f,hf,i,hi=>.inl hi
 | k+1,met,f,hf,i,hi=>by
   unfold A9 at hi;cases hb:Aa d (f/2) with
   | none=>rw[hb] at hi;exact .inl hi
   | some b =>
     rw[hb] at hi
     replace hi:i∈(if f/2∈met then met else A9 d k (A9 d k (met++[f/2]) (cofs d f b.v).1) (cofs d f b.v).2):=hi
     by_cases c:f/2∈met
     . rw[Vs c] at hi;exact .inl hi
     ·rw[Vn c] at hi;have hbv:=h.dag.var _ _ hb;have hlv:levN d b.v<=lvE d.vars.length (levN d) (Aa d) f:=by unfold lvE;rw[hb];exact Vo _
      obtain⟨q1,q2,_⟩:=Cf h hf hbv hlv;obtain⟨e1,e2⟩:=Jl h hf hbv hlv;rcases Jw h k _ _ q2 i hi with m|m
      ·rcases Jw h k _ _ q1 i m with m|m
       ·rcases Vy.1 m with m|m
        . exact .inl m
        ·simp at m;subst m
         exact .inr fun v hv=>N4.1 hv
       . exact .inr fun v hv=>m v (by rw[e1];exact Nz hv _ _)
      . exact .inr fun v hv=>m v (by rw[e2];exact Nz hv _ _)
theorem Uy (h:Ak d V)(hcl:ClM d [] met){v:Nat}(hv:∀ i∈met,∀ b,Aa d i=some b->b.v≠v):∀ (k:Nat) (f:Nat),okE (Aa d) f->d.vars.length<=lvE d.vars.length (levN d) (Aa d) f+k->InM d met f->Indep (ef V f) v:=by
 have hc:∀ f,okE (Aa d) f->Aa d (f/2)=none->Indep (ef V f) v:=fun f hf hn=>by
  obtain⟨c,e⟩:=(Jn h h.dag.none0 hf).2 hn;rw[e];exact fun _ _=>rfl
 intro k
 induction k with
 | zero =>
   intro f hf hl hi;cases hb:Aa d (f/2) with
   | none=>exact hc f hf hb
   | some b =>
     exfalso;have h1:=h.dag.lt b.v (h.dag.var _ _ hb);unfold lvE at hl;rw[hb] at hl;simp at hl;omega
 | succ k ih =>
   intro f hf hl hi;cases hb:Aa d (f/2) with
   | none=>exact hc f hf hb
   | some b =>
     have hm:f/2∈met:=by
      rcases hi with e|e
      . rw[hb] at e;cases e
      . exact e
     have g1:=h.dag.var _ _ hb;have g0:levN d b.v<=lvE d.vars.length (levN d) (Aa d) f:=by unfold lvE;rw[hb];exact Vo _
     have g2:lvE d.vars.length (levN d) (Aa d) f=levN d b.v:=by unfold lvE;rw[hb]
     obtain⟨q1,q2,q3,q4,_⟩:=Cf h hf g1 g0;obtain⟨e1,e2⟩:=Jl h hf g1 g0;obtain⟨k1,k2⟩:=N5 hb;obtain⟨w1,w2⟩:=hcl _ hm (by simp) b hb;have i1:=ih _ q1 (by omega) (by unfold InM;rw[k1];exact w1);have i2:=ih _ q2 (by omega) (by unfold InM;rw[k2];exact w2);rw[e1] at i1;rw[e2] at i2;exact Ux (fun e=>hv _ hm b hb e.symm) i1 i2
theorem Uz {a b c:List Nat}(h1:ClM d a b)(h2:ClM d b c)(hs:∀ i∈b,i∈c):ClM d a c:=fun i hi hn b' hb'=>by
 by_cases m:i∈b
 . obtain⟨w1,w2⟩:=h1 i m hn b' hb';exact⟨w1.mono hs,w2.mono hs⟩
 . exact h2 i hi m b' hb'
theorem N6 (h:Ak d V):∀ (l met:List Nat),(∀ f∈l,okE (Aa d) f)->ClM d [] met->ClM d [] (l.foldl (fun met f=>A9 d d.vars.length met f) met)/\(∀ i∈met,i∈l.foldl (fun met f=>A9 d d.vars.length met f) met)/\(∀ f∈l,InM d (l.foldl (fun met f=>A9 d d.vars.length met f) met) f)/\∀ i∈l.foldl (fun met f=>A9 d d.vars.length met f) met,i∈met\/∃ f∈l,∀ v,Indep (ef V f) v->Indep (V i) v
 | [],met,_,hc=>⟨hc,fun i hi=>hi,fun f hf=>by simp at hf,fun i hi=>.inl hi⟩
 | f::r,met,hl,hc=>by
   have hf:=hl f (VW ..);obtain⟨c1,c2⟩:=Jv h d.vars.length met f hf (by omega);obtain⟨r1,r2,r3,r4⟩:=N6 h r (A9 d d.vars.length met f) (fun g hg=>hl g (WP _ hg)) (Uz hc c2 (E9 _ _ _));refine⟨r1,fun i hi=>r2 i (E9 _ _ _ i hi),fun g hg=>?_,fun i hi=>?_⟩
   ·rcases VX.1 hg with rfl|hg
    . exact c1.mono r2
    . exact r3 g hg
   ·rcases r4 i hi with m|⟨g,hg,m⟩
    ·rcases Jw h _ _ f hf i m with m|m
     . exact .inl m
     . exact .inr ⟨f,VW ..,m⟩
    . exact .inr ⟨g,WP _ hg,m⟩
structure Jx (n:Nat)(os:List Nat)(Fs:List BF)(cs:List (Nat×Nat)):Prop where
 sum:sumC cs=(nodesF n os Fs).length
 le:sumC cs<=2305843009213693952
 dep:∀ v,0<getC v cs↔∃ F∈Fs,AU n F v=true
theorem U0 (h:Ak d V)(l:List Nat)(hl:∀ f∈l,okE (Aa d) f)(hlt:∀ e,okE (Aa d) e->e<eMax):Jx d.vars.length d.vars (l.map (ef V)) (tally d (CZ d l)):=by
 refine⟨?_,?_,fun v=>?_⟩
 . rw[Jp,Up h l hl]
 . rw[Jp];exact(Nr h l).len hlt
 ·obtain⟨r1,r2,r3,r4⟩:=N6 h l [] hl (fun i hi=>by simp at hi);rw[Un,List.countP_pos_iff];constructor
  ·rintro⟨i,hi,hv⟩;rcases r4 i hi with m|⟨f,hf,m⟩
   . simp at m
   ·refine⟨ef V f,Vz.2 ⟨f,hf,rfl⟩,(DZ (h.dep (hl f hf)) v).2 fun e=>?_⟩;have h1:=m v (Ju.2 e);obtain⟨b,hb⟩:=(Nr h l).node i hi;have g4:b.v=v:=by
     have:vrD d i=v:=by simpa using hv
     unfold vrD at this;rw[hb] at this;exact this
    have g0:Aa d (2*i/2)=some b:=by rw[show 2*i/2=i by omega];exact hb
    have h2:=(N4 (V:=V) (f:=2*i) (v:=v)).2 (by rw[show 2*i/2=i by omega];exact h1);have ht:=(MJ h g0).1;have g1:=h.dep (f:=2*i) (.inr ⟨b,g0⟩)
    by_cases hx:∃ u∈d.vars,AU d.vars.length (ef V (2*i)) u=true
    . obtain⟨q,_,g2,g3,_⟩:=Nj hx;rw[ht] at g2;rw[<- Int.ofNat.inj g2,g4,DZ g1] at g3;exact g3 (Ju.1 h2)
    ·have:=Jf (n:=d.vars.length) (F:=ef V (2*i)) (l:=d.vars) (fun u hu=>by
      cases e:AU d.vars.length (ef V (2*i)) u with
      | false=>rfl
      | true=>exact absurd ⟨u,hu,e⟩ hx)
     rw[ht] at this;omega
  ·rintro⟨F,hF,hh⟩;obtain⟨f,hf,rfl⟩:=Vz.1 hF;refine Classical.byContradiction fun g5=>?_
   refine(DZ (h.dep (hl f hf)) v).1 hh (Ju.1 (Uy h r1 (v:=v) (fun i hi b hb e=>g5 ⟨i,hi,by unfold vrD;rw[hb];simp[e]⟩) d.vars.length f (hl f hf) (by omega) (r3 f hf)))
end
theorem U1 (args:Array Value)(w:Wd):(callFunc 165 args).run prog w=.ok (.enter 165 args) w:=XQ func165 (by kernel_rfl) rfl args w
structure BoN (wB:Wd)(bn bl:Nat)(a:Option Addr)(c:Nat)(ks:List Int)(W:Wd):Prop where
 n:∃ v,W.heap[bn]?=some (.cells #[v] 153 (0,0))
 l:W.cell? (Av bl)=some (.slice a ks.length c)
 z:Au W a ks
 s:∀ x,a=some x->W.heap[x.block]?=wB.heap[x.block]?
def CsN (bn bl:Nat)(a:Option Addr)(k:Nat):Prop:=k=bn\/k=bl\/∃ x,a=some x/\k=x.block
theorem BoN.keep {wB:Wd}{bn bl:Nat}{a:Option Addr}(h:BoN wB bn bl a c ks W)(hk:∀ k,CsN bn bl a k->W'.heap[k]?=W.heap[k]?):BoN wB bn bl a c ks W' :=
 ⟨by rw[hk _ (.inl rfl)];exact h.n,Co h.l (hk _ (.inr (.inl rfl))),⟨h.z.len,fun i hi=>by
  obtain⟨b,off,e,hc⟩:=h.z.cells i hi;exact⟨b,off,e,Co hc (hk _ (.inr (.inr ⟨_,e,rfl⟩)))⟩⟩,fun x hx=>(hk _ (.inr (.inr ⟨x,hx,rfl⟩))).trans (h.s x hx)⟩
section
variable {o:Own}
theorem SatE.edges (h:SatE K n Od room w0 mb fs nx w o m V)(hlen:Fs.length=ks.length)(hm:∀ i (h:i<ks.length),(ks[i],Fs[i]'(by omega))∈fs) :
 ∃ es:List Nat,es.length=ks.length/\es.map (ef V)=Fs/\(∀ f∈es,okE (Aa m.d) f)/\∀ i (h:i<ks.length) (h2:i<es.length),(ks[i],es[i])∈m.hs:=by
 have:∀ i,∃ f,∀ hi:i<ks.length,(ks[i],f)∈m.hs/\ef V f=Fs[i]'(by omega):=fun i=>by
  by_cases hi:i<ks.length
  . obtain⟨f,h1,h2⟩:=h.find (hm i hi);exact⟨f,fun _=>⟨h1,h2⟩⟩
  . exact⟨0,fun e=>absurd e hi⟩
 have hs:=fun i=>Xn (this i)
 refine⟨(List.range ks.length).map fun i=>Classical.choose (this i),by simp,?_,?_,?_⟩
 ·refine WT (by simp[hlen]) fun i h1 h2=>?_
  have hi:i<ks.length:=by simpa using h1
  simpa using(hs i hi).2
 . intro f hf;obtain⟨i,hi,rfl⟩:=Vz.1 hf;exact h.ok.handles.ok _ (hs i (Xb.1 hi)).1
 . intro i hi h2;simpa using(hs i hi).1
def Ft (n:Nat)(ws0:List Ev)(os:List Nat)(bn:Nat)(Fs:List BF)(s:Nat)(W:Wd)(m:ManD)(_:Nat->BF):Prop :=
 m.waits=ws0/\m.d.vars=os/\∃ nt cs,s<=nt/\W.cell? (Av bn)=some (.map (some nt))/\A1 W nt (Value.int .i64) (ctL cs)/\Jx n os Fs cs
theorem U2 {wB:Wd}{bn bl:Nat}{a:Option Addr}(hnl:bn≠bl)(hna:∀ x,a=some x->bn≠x.block)(hlen:Fs.length=ks.length)(hm:∀ i (h:i<ks.length),(ks[i],Fs[i]'(by omega))∈fs)(ws0:List Ev)(os:List Nat)(E:Int->ManD->ManD->Prop) :
 OpLN K n Od room w0 mb fs nx (CsN bn bl a) (BoN wB bn bl a c ks) (fun m=>m.waits=ws0/\m.d.vars=os) 165 #[Pt bn,Pt bl] (fun s _=>Ft n ws0 os bn Fs s) E:=by
 intro o W m V xb g0 hB hC hr gn hnx;obtain⟨gQ,gt⟩:=hr;obtain⟨es,h7,h9,gj,h8⟩:=g0.edges hlen hm;have hk:=g0.ok.store;have gv:∀ k,CsN bn bl a k->o k=none:=fun k e=>(hC k e).2
 obtain⟨v0,gR⟩:=hB.n;have hA:∀ (fn:Fn) (first cap:Array Value) (w:Wd),(Instr.makeFunc fn first cap).run prog w=.ok (.func fn first cap) w:=fun _ _ _ _=>rfl
 have gB:bn<W.heap.size:=(hC bn (.inl rfl)).1;have gk:bl<W.heap.size:=(hC bl (.inr (.inl rfl))).1;obtain⟨w1,gd⟩:=Ex (W.alloc (.cells #[Pt xb] 180));have gN:w1.heap.size=W.heap.size+1:=by rw[gd];simp
 have g10:w1.heap[W.heap.size]?=some (.cells #[Pt xb] 180 (0,0)):=by rw[gd];exact Vq _ _
 have gZ:Wr (· = bn) W w1:=by rw[gd];exact Wr.of_below (Af _ _) _
 obtain⟨nt,gu⟩:=Ex w1.heap.size;obtain⟨w2,g7⟩:=Ex (w1.alloc (.map #[] 0));have hn:∀ t,(Instr.makeMap t none).run prog w1=.ok (.map (some nt)) w2:=fun t=>by rw[gu,g7];exact EK w1 t
 have gM:w2.heap.size=W.heap.size+2:=by rw[g7];simp[gN]
 have h5:A1 w2 nt (Value.int .i64) (ctL []):=by rw[g7,gu];exact FF w1 _
 have gY:Wr (· = bn) W w2:=by rw[g7];exact gZ.alloc _
 have gf:w2.heap[bn]?=some (.cells #[v0] 153 (0,0)):=by
  rw[g7,VL _ _ (by omega),gd,VL _ _ gB];exact gR
 obtain⟨w3,g5⟩:=Ex (w2.setCell (Av bn) (.map (some nt)));have ht:(store (Av bn) (.map (some nt))).run prog w2=.ok () w3:=by
  rw[run_store _ _ _ _ _ rfl];simp[cell1 gf,World.frozen?,gf,g5]
 have gL:w3.heap.size=W.heap.size+2:=by rw[g5];simp[World.setCell,gM]
 have gx:∀ q,q≠bn->w3.heap[q]?=w2.heap[q]?:=fun q hq=>by rw[g5];exact A0 hq _
 have g3:w3.heap[bn]?=some (.cells #[.map (some nt)] 153 (0,0)):=by rw[g5];exact A5 gf _
 have gX:Wr (· = bn) W w3:=by rw[g5];exact gY.setCell (.inl rfl) _
 have h4:A1 w3 nt (Value.int .i64) (ctL []):=h5.keepB (gx nt (by omega));obtain⟨mt,gw⟩:=Ex w3.heap.size;obtain⟨w4,g4⟩:=Ex (w3.alloc (.map #[] 0));have hg:∀ t,(Instr.makeMap t none).run prog w3=.ok (.map (some mt)) w4:=fun t=>by rw[gw,g4];exact EK w3 t
 have gK:w4.heap.size=W.heap.size+3:=by rw[g4];simp[gL]
 have h3:A1 w4 mt (Value.int .i64) (mtL []):=by rw[g4,gw];exact FF w3 _
 have gD:Bw w3 w4:=by rw[g4];exact Af _ _
 obtain⟨w6,gc⟩:=Ex (w4.alloc (.cells #[.map (some mt)] 195));have gl:Bw w4 w6:=by rw[gc];exact Af _ _
 have gJ:w6.heap.size=W.heap.size+4:=by rw[gc];simp[gK]
 have g6:w6.heap[w4.heap.size]?=some (.cells #[.map (some mt)] 195 (0,0)):=by rw[gc];exact Vq _ _
 obtain⟨FV,gp⟩:=Ex (.func (.func 166) #[] #[Pt w4.heap.size,Pt W.heap.size,Pt bn,Pt w6.heap.size]:Value);obtain⟨w7,ga⟩:=Ex (w6.alloc (.cells #[.nilFunc] 196));have gC:Bw w6 w7:=by rw[ga];exact Af _ _
 have gI:w7.heap.size=W.heap.size+5:=by rw[ga];simp[gJ]
 have go:w7.heap[w6.heap.size]?=some (.cells #[.nilFunc] 196 (0,0)):=by rw[ga];exact Vq _ _
 obtain⟨w8,g9⟩:=Ex (w7.setCell (Av w6.heap.size) FV);have gS:(store (Av w6.heap.size) FV).run prog w7=.ok () w8:=by
  rw[run_store _ _ _ _ _ (by rw[gp];rfl)];simp[cell1 go,World.frozen?,go,g9]
 have hp:w8.heap.size=W.heap.size+5:=by rw[g9];simp[World.setCell,gI]
 have gh:Bw w6 w8:=by rw[g9];exact gC.setCell (Vo _) _
 have g8:w8.heap[w6.heap.size]?=some (.cells #[FV] 196 (0,0)):=by rw[g9];exact A5 go _
 have gV:Wr (· = bn) W w4:=by rw[g4];exact gX.alloc _
 have gU:Wr (· = bn) W w6:=by rw[gc];exact gV.alloc _
 have gT:Wr (· = bn) W w7:=by rw[ga];exact gU.alloc _
 have ge:Wr (· = bn) W w8:=by rw[g9];exact gT.setCell (.inr (by show W.heap.size<=w6.heap.size;omega)) _
 have gg:∀ q,q<w3.heap.size->w8.heap[q]?=w3.heap[q]?:=fun q hq=>by
  rw[gh.block q (by omega),gl.block q (by omega),gD.block q hq]
 have e4:w8.heap[w4.heap.size]?=some (.cells #[.map (some mt)] 195 (0,0)):=by
  rw[gh.block _ (by omega)];exact g6
 have em:A1 w8 mt (Value.int .i64) (mtL []):=h3.keepB (by rw[gh.block _ (by omega),gl.block _ (by omega)]);have en:A1 w8 nt (Value.int .i64) (ctL []):=h4.keepB (gg nt (by omega));have ex:w8.heap[W.heap.size]?=some (.cells #[Pt xb] 180 (0,0)):=by
  rw[gg _ (by omega),gx _ (by omega),g7,VL _ _ (by omega)];exact g10
 have eb:w8.heap[bn]?=some (.cells #[.map (some nt)] 153 (0,0)):=by rw[gg _ (by omega)];exact g3
 have gP:xb<W.heap.size:=Ah gn.cell;have gq:xb≠bn:=fun e=>hnx (.inl e)
 have oS:∀ q,W.heap.size<=q->o q=none:=fun q hq=>g0.lt.none hq
 have hs:SnS (K m.d V) ⟨w4.heap.size,W.heap.size,bn,w6.heap.size,mt,nt,xb⟩ mb o m V [] (tally m.d []) w8:=by
  refine⟨g0.is.other g0.lt ge (fun k _ e=>by subst e;exact gv _ (.inl rfl)),g0.lt.mono ge.size,hk,⟨Co gn.cell (ge.keep xb gP gq),gn.own⟩,cell1 e4,cell1 ex,cell1 eb,?_,em,en,?_,?_,?_,⟨Yc,by simp⟩⟩
  . rw[cell1 g8,gp];rfl
  ·rintro q (e|e|e|e|e|e)
   . have e:q=w4.heap.size:=e;exact oS _ (by omega)
   . have e:q=W.heap.size:=e;exact oS _ (by omega)
   . have e:q=bn:=e;exact gv _ (.inl e)
   . have e:q=w6.heap.size:=e;exact oS _ (by omega)
   . have e:q=mt:=e;exact oS _ (by omega)
   . have e:q=nt:=e;exact oS _ (by omega)
  ·refine⟨?_,?_,?_,?_,?_,?_⟩
   . show mt≠w4.heap.size;omega
   . show mt≠W.heap.size;omega
   . show mt≠bn;omega
   . show mt≠w6.heap.size;omega
   . show mt≠xb;omega
   . show mt≠nt;omega
  ·refine⟨?_,?_,?_,?_,?_⟩
   . show nt≠w4.heap.size;omega
   . show nt≠W.heap.size;omega
   . show nt≠bn;omega
   . show nt≠w6.heap.size;omega
   . show nt≠xb;omega
 obtain⟨C,g1⟩:=Ex (⟨w4.heap.size,W.heap.size,bn,w6.heap.size,mt,nt,xb⟩:SnC);have hf:C.caps=#[Pt w4.heap.size,Pt W.heap.size,Pt bn,Pt w6.heap.size]:=by rw[g1];rfl
 have gE:∀ k,C.two k->W.heap.size<=k:=by
  rw[g1];rintro k (e|e)
  . have e:k=mt:=e;omega
  . have e:k=nt:=e;omega
 rw[<- g1] at hs;have ho:=hB.z.len;have clist:w8.cell? (Av bl)=some (.slice a ks.length c):=Co hB.l (ge.keep bl gk (fun e=>hnl e.symm));obtain⟨I,hI⟩:=Ex (fun i wr=>Wr (· = bn) W wr/\wr.heap[bn]?=some (.cells #[.map (some nt)] 153 (0,0))/\SnS (K m.d V) C mb o m V (CZ m.d (es.take i)) (tally m.d (CZ m.d (es.take i))) wr:Nat->Wd->Prop)
 have gH:Hq (I 0 w8):=by rw[hI];exact Hd ⟨ge,eb,by simpa [CZ] using hs⟩
 have HX:Hq (∀ i wr,I i wr->wr.cell? (Av W.heap.size)=some (Pt xb)/\wr.cell? (Av w6.heap.size)=some (.func (.func 166) #[] C.caps)/\(∀ j,j<ks.length->∃ b off,a=some (Aw b off)/\wr.cell? (Aw b (off+j))=some (Iv (at0 ks j)))/\I i wr.drew):=by
  rw[hI];refine Hd fun i wr hh=>?_
  obtain⟨h1,gi,h2⟩:=hh;have hx:=h2.bx;have hd:=h2.bd;rw[g1] at hx;refine⟨hx,?_,fun j hj=>?_,h1.drew,gi,h2.below (An wr 1)⟩
  . rw[g1] at hd ⊢;exact hd
  . obtain⟨b,off,e,hc⟩:=hB.z.cells j hj;exact⟨b,off,e,Co hc (h1.keep b (hC b (.inr (.inr ⟨_,e,rfl⟩))).1 (fun q=>hna _ e q.symm))⟩
 have g2:Hq (∀ i wr,i<ks.length->I i wr->∃ f,Cl 148 #[Pt xb,Iv (at0 ks i)] wr ((Sm (Iv (f:Nat)) wr)) /\
  Cl 166 (#[Iv (f:Nat)]++C.caps) wr fun x w'=>x=.returned (.tuple #[])/\I (i+1) w'):=by
  rw[hI];refine Hd fun i wr hi hh=>?_
  obtain⟨h1,gi,h2⟩:=hh;have gy:i<es.length:=by omega
  have gO:=h2.x;rw[g1] at gO;refine⟨es[i],by rw[Az hi];exact FP h2.is gO g0.ok.handles.nodup (h8 i hi gy),?_⟩;refine(Ny m.d.vars.length _ _ wr h2 (gj _ (Vv gy)) (by omega)).mono ?_;rintro x w' ⟨rfl,r1,r2⟩;refine⟨rfl,h1.trans r1 (fun _ _ e=>e) (fun k hk e=>by have:=gE k e;omega),(r1.keep bn (by have:=h1.size;omega) (fun e=>by have:=gE bn e;omega)).trans gi,?_⟩;rw[Uo es gy];exact r2
 obtain⟨P,hP⟩:∃ P:Ending->Wd->Prop,P=fun e w'=>∃ (o':Own) (m':ManD) (V':Nat->BF),CM (CsN bn bl a) K o W mb m V o' w' m' V'/\BoN wB bn bl a c ks w' /\
  ((e=.returned (.tuple #[])/\Ft n ws0 os bn Fs W.heap.size w' m' V') \/
   (∃ er:Int,e=AV er false ev0/\er≠0/\m'.waits=m.waits/\(m'.waits=ws0/\m'.d.vars=os)/\E er m m') \/
   (∃ ev,e=AV 0 true ev/\m.waits=ev::m'.waits/\StE K n Od room w0 mb fs nx (fun m=>m.waits=ws0/\m.d.vars=os) m'/\HapG K n Od room w0 mb fs nx ev)):=⟨_,rfl⟩
 have gm:Hq (∀ wr,I ks.length wr->P (.returned (.tuple #[])) wr):=by
  rw[hI,hP];refine Hd fun wr hh=>?_
  obtain⟨h1,gi,h2⟩:=hh;rw[<- h7,VI] at h2;have ha:=h2.bn;have h0:=h2.cnt;rw[g1] at ha h0;refine⟨o,m,V,⟨h2.is,h2.lt,ChgX.of_wr h1 o (fun k _ e=>.inl e),hk,Ext.refl _ _,rfl,rfl⟩,⟨?_,?_,⟨ho,fun i hi=>?_⟩,fun x hx=>?_⟩,.inl ⟨rfl,gQ,gt,nt,_,by omega,ha,h0,?_⟩⟩
  . exact⟨_,gi⟩
  . exact(Co hB.l (h1.keep bl gk (fun e=>hnl e.symm)))
  . obtain⟨b,off,e,hc⟩:=hB.z.cells i hi;exact⟨b,off,e,Co hc (h1.keep b (hC b (.inr (.inr ⟨_,e,rfl⟩))).1 (fun q=>hna _ e q.symm))⟩
  . exact(h1.keep _ (hC _ (.inr (.inr ⟨x,hx,rfl⟩))).1 (fun q=>hna x hx q.symm)).trans (hB.s x hx)
  . have:=U0 hk es gj (fun e he=>Jh g0.is he);rw[g0.vars,h9,gt] at this;exact this
 have HW1:=Hd gd.symm;have hv:=Hd g5.symm;have hF:=Hd g4.symm;have c2:=cell1 gf;have f2:w2.frozen? (Av bn)=false:=by simp[World.frozen?,gf]
 have hu:=Hd gc.symm;rw[gp,ga] at gS;rw[<- hP];rw[hf] at HX g2;clear hP hI hs g0 hB hC gn hnx h9 gj h8 hk gv gR gB gk gd g7 g5 g4 gc ga g9 gN gM gL gK gJ gI hp g10 gZ h5 gY gV gU gT gf go gC gx g3 gX h4 h3 gD gl g6 gp gh g8 ge gg e4 em en ex eb gP gq oS g1 hf gE gu gw hlen hm h7 gQ gt
 go_enter func165,ntmps165
 go_upto_region 1 with fail;rw[HW1.o];go_upto_region 2 with fail;rw[hv.o];clear c2 f2 hn ht;go_upto_region 3 with fail;rw[hu.o];clear hg;go_upto_region 5 with fail;clear gS;go_wp2_with fail
 go_loopw [7,13] (fun _ s13 wr=>∃ i:Nat,i<=ks.length/\s13=Iv i/\Hq (I i wr)) (fun _ s13 _=>ks.length-(intOf s13).toNat)
 case atStart=>exact⟨0,Vu _,rfl,gH⟩
 case round =>
  obtain⟨i,hi,rfl,HI⟩:=hrel
  by_cases h6:i<ks.length
  ·have hD:(i:Int)<(ks.length:Int):=by omega
   obtain⟨x1,x2,x3,x4⟩:=HX.o i _ HI.o;obtain⟨b,off,rfl,ck⟩:=x3 i h6;have HD:=Hd (HX.o i _ x4);obtain⟨f,hE,hS⟩:=g2.o i _ h6 x4;have HE:=Hd hE;have HS:=Hd hS;have gF:=HX;clear hE hS x1 x2 x3 x4 HX g2 gm HI gH clist;go_upto_region 8 with fail;obtain⟨wz,gr⟩:=Ex wr.drew;rw[<- gr] at HD HE HS;have gG:=Hd gr;clear gr;have gA:=HD.o.1;have gz:=HD.o.2.1;refine Nu [0,1,2,3,4] (fun W'=>W'.cell? (Av W.heap.size)=some (Pt xb)/\W'.cell? (Av w6.heap.size)=some (.func (.func 166) #[] #[Pt w4.heap.size,Pt W.heap.size,Pt bn,Pt w6.heap.size])) (fun ch w'=>False) (fun c a w hd h=>h.elim) (by kernel_rfl) (by rw[<- gG.o];exact⟨gA,gz⟩) ?_;rw[<- gG.o]
   iterate 3
    refine Nv rfl rfl (by kernel_rfl) ?_;apply Exists.intro;refine⟨fun w' hw=>?_,?_⟩
    . obtain⟨q1,q2⟩:=hw;go_simp;rfl
    simp only[Ac]
   refine Js (R1:=fun u w'=>u=Iv (f:Nat)/\wz=w') rfl (by kernel_rfl) rfl rfl (by go_simp) (HE.o.mono fun x w' h=>⟨_,h.1,rfl,h.2⟩) (by rintro u w' ⟨_,rfl⟩;exact⟨gA,gz⟩) ?_;rintro u w'-⟨rfl,rfl⟩;simp only[Ac];refine Js (R1:=fun u w'=>u=.tuple #[]/\I (i+1) w') rfl (by kernel_rfl) rfl rfl (by go_simp) (HS.o.mono fun x w' h=>⟨_,h.1,rfl,h.2⟩) (by rintro u w' ⟨_,hI⟩;exact⟨(gF.o (i+1) w' hI).1,(gF.o (i+1) w' hI).2.1⟩) ?_;rintro u w9-⟨rfl,hb⟩;have hy:=Hd hb;clear hb gF HS HE HD gA gz gG;simp only[Ac];refine Nw (by kernel_rfl) ?_;go_wp2_with fail;go_roundw
   case rel=>exact⟨i+1,by omega,by rw[show ((i+1:Nat):Int)=(i:Int)+1 by omega],hy⟩
   case measure=>simp[intOf];omega
  ·obtain rfl:i=ks.length:=by omega
   have hz:¬ (ks.length:Int)<(ks.length:Int):=by omega
   have HF:=Hd (gm.o _ HI.o);clear HX g2 gm HI gH;go_wp2_with fail;refine XO (Xr rfl _ _ _) rfl ?_;exact HF.o
end
structure ArgI (w0 w:Wd)(o:Own)(a:Option Addr)(ks:List Int):Prop where
 z:Au w a ks
 own:∀ x,a=some x->x.block<w.heap.size/\w0.heap.size<=x.block/\o x.block=none
theorem U3 {b:Nat}{t:TypeId}{fr:Nat×Nat}(h:w.heap[b]?=some (.cells #[v] t fr)):w.setCell (Av b) v=w:=by
 have:w.heap.modify b (fun|.cells c elem frozen=>.cells (c.setIfInBounds 0 v) elem frozen|o=>o)=w.heap:=by
  apply Array.ext_getElem?;intro i;rw[XG];split
  ·rename_i e
   subst e;rw[h];rfl
  . rfl
 show ({ w with heap:=w.heap.modify b (fun|.cells c elem frozen=>.cells (c.setIfInBounds 0 v) elem frozen|o=>o) }:Wd)=w
 rw[this]
section
variable {o:Own}
def Jy (K:Law)(n:Nat)(Od:List Nat->Prop)(room:Nat)(w0:Wd)(mb:Nat)(fs:List (Int×BF))(nx:Int)(m:ManD)(o:Own)(w:Wd)(Fs:List BF)(x:Ending)(w':Wd):Prop :=
 ∃ nt cs,x=.returned (.tuple #[.map (some nt),Iv 0])/\A1 w' nt (Value.int .i64) (ctL cs)/\Jx n m.d.vars Fs cs/\∃ o' m' V',ChgX NoB o o' w w'/\m'.waits=m.waits/\m'.d.vars=m.d.vars/\SatE K n Od room w0 mb fs nx w' o' m' V'
theorem U4 {bn s:Nat}(hb:bn<s)(hz:s+3<=W.heap.size)(h:Ft n ws0 os bn Fs (s+3) W m V)(a:Ali s W W'):Ft n ws0 os bn Fs 0 W' m V:=by
 obtain⟨h1,h2,nt,cs,h3,h4,h5,h6⟩:=h;exact⟨h1,h2,nt,cs,Vu _,Co h4 (a.keep bn (by omega) (by omega)),h5.keepB (a.keep nt h5.lt (by omega)),h6⟩
theorem U5 (h:SatE K n Od room w0 mb fs nx w o m V){a:Option Addr}(hl:ArgI w0 w o a ks)(hlen:Fs.length=ks.length)(hm:∀ i (h:i<ks.length),(ks[i],Fs[i]'(by omega))∈fs) :
 Cl 122 #[Pt mb,.slice a ks.length c] w (Jy K n Od room w0 mb fs nx m o w Fs):=by
 have gi:∀ (fn:Fn) (first cap:Array Value) (w:Wd),(Instr.makeFunc fn first cap).run prog w=.ok (.func fn first cap) w:=fun _ _ _ _=>rfl
 have hw0:=h.chg.size;obtain⟨w2,g3⟩:=Ex ((w.alloc (.cells #[.slice a ks.length c] 22)).alloc (.cells #[.map none] 153));have g5:Bw w w2:=by rw[g3];exact(Af _ _).alloc (by simp) _
 have gc:w2.heap.size=w.heap.size+2:=by rw[g3];simp
 have g0:w2.heap[w.heap.size]?=some (.cells #[.slice a ks.length c] 22 (0,0)):=by
  rw[g3];exact(VL _ _ (by simp)).trans (Vq _ _)
 have g1:w2.heap[w.heap.size+1]?=some (.cells #[.map none] 153 (0,0)):=by
  have:=Vq (w.alloc (.cells #[.slice a ks.length c] 22)) (.cells #[.map none] 153);rw[VO] at this;rw[g3];exact this
 obtain⟨s,hs⟩:=Ex (w.heap.size+1);rw[<- hs] at g1;have g6:∀ x,a=some x->s≠x.block:=fun x hx e=>by have:=(hl.own x hx).1;omega
 have g4:=h.below g5;have hz:=hl.z.below g5;have g8:BoN w2 s w.heap.size a c ks w2:=⟨⟨_,g1⟩,cell1 g0,hz,fun _ _=>rfl⟩;have hC:∀ k,CsN s w.heap.size a k->k<w2.heap.size/\o k=none:=by
  rintro k (rfl|rfl|⟨x,hx,rfl⟩)
  . exact⟨by omega,h.lt.none (by omega)⟩
  . exact⟨by omega,h.lt.none (by omega)⟩
  . have:=hl.own x hx;exact⟨by omega,this.2.2⟩
 have ga:∀ k,CsN s w.heap.size a k->w0.heap.size<=k:=by
  rintro k (rfl|rfl|⟨x,hx,rfl⟩)
  . omega
  . omega
  . exact(hl.own x hx).2.1
 have hL:=T8 (B:=BoN w2 s w.heap.size a c ks) (QP:=fun _=>Ft n m.waits m.d.vars s Fs 0) (St:=fun m'=>m'.waits=m.waits/\m'.d.vars=m.d.vars) (fun _ _ hb hk=>hb.keep hk) (fun s' _ W W' m' V' hc hz _ hq a=>U4 (hc s (.inl rfl)) hz hq a) (fun m' d hm hr=>⟨hm.1,by show d.vars=_;rw[hr.vars];exact hm.2⟩) ga U1 (U2 (E:=fun _ _ _=>False) (by omega) g6 hlen hm m.waits m.d.vars) g4 g8 hC ⟨rfl,rfl⟩
 have HL:Hq (Cl 164 #[Pt mb,.func (.func 165) #[] #[Pt s,Pt w.heap.size]] w2 fun x w'=>x=.returned (Iv 0)/\∃ nt,w'.cell? (Av s)=some (.map (some nt))/\(∃ v,w'.heap[s]?=some (.cells #[v] 153 (0,0)))/\Jy K n Od room w0 mb fs nx m o w Fs (.returned (.tuple #[.map (some nt),Iv 0])) w'):=Hd (hL.mono (by
  rintro x w' ⟨er,rfl,o',m',V',hs',g9,hc,⟨rfl,q1,q2,nt,cs,q3,q4,q5,q6⟩|⟨_,m0,e,_⟩⟩
  ·refine⟨rfl,nt,q4,g9.n,nt,cs,rfl,q5,q6,o',m',V',?_,q1,q2,hs'⟩;have g2:ChgX (CsN s w.heap.size a) o o' w w':=(ChgX.of_below g5 o (CsN s w.heap.size a)).trans hc (fun _ _ e=>e);refine⟨g2.os,g2.tape,g2.output,g2.size,fun k hk ho _=>?_,g2.ext,g2.new⟩
   by_cases e:CsN s w.heap.size a k
   ·rcases e with e|e|⟨x,hx,e⟩
    . omega
    . omega
    . subst e;exact(g9.s x hx).trans (g5.block _ hk)
   . exact g2.block k hk ho e
  . exact e.elim))
 have gf:Hq (∀ i,i<ks.length->Cl 20 #[Pt mb,Iv (at0 ks i)] w2 (Sm (.bool true) w2)):=Hd fun i hi=>by
  rw[Az hi];exact(IX g4 (hm i hi))
 have HZ:Hq (∀ i,i<ks.length->∃ b off,a=some (Aw b off)/\w2.cell? (Aw b (off+i))=some (Iv (at0 ks i))):=Hd fun i hi=>by
  obtain⟨b,off,e,hc⟩:=hz.cells i hi;exact⟨b,off,e,hc⟩
 have gd:=Hd g3.symm;have HS:=Hd hs;have c0:=cell1 g0;have gh:=hz.len;obtain⟨P,hP⟩:=Ex (Jy K n Od room w0 mb fs nx m o w Fs);rw[<- hP] at HL ⊢;have HP:Hq (∀ x w',P x w'->P x w'):=Hd fun _ _ e=>e
 clear hP h hw0 g3 g5 gc g0 g1 hs g6 g4 hz g8 hC ga hL hl hlen hm
 go_enter func122,ntmps122
 go_upto_region 1 with fail;rw[gd.o];rw[<- HS.o];go_wp2_with fail
 go_loopw [7,12] (fun _ s12 wr=>∃ i:Nat,i<=ks.length/\s12=Iv i/\wr=w2) (fun _ s12 _=>ks.length-(intOf s12).toNat)
 case atStart=>exact⟨0,Vu _,by trivial,by trivial⟩
 case round =>
  obtain⟨i,hi,rfl,rfl⟩:=hrel
  by_cases g7:i<ks.length
  ·have gj:(i:Int)<(ks.length:Int):=by omega
   obtain⟨b,off,rfl,ck⟩:=HZ.o i g7;have HI:=Hd (gf.o i g7);clear HL;go_wp2_with fail;refine HI.o.mono ?_;rintro x w' ⟨rfl,rfl⟩;go_wp2_with fail;go_roundw
   case rel=>exact⟨i+1,by omega,by rw[show ((i+1:Nat):Int)=(i:Int)+1 by omega],trivial⟩
   case measure=>simp[intOf];omega
  ·obtain rfl:i=ks.length:=by omega
   have gg:¬ (ks.length:Int)<(ks.length:Int):=by omega
   go_wp2_with fail;refine HL.o.mono ?_;rintro x w' ⟨rfl,nt,q1,⟨v,q2⟩,hf⟩;have HF:=Hd hf;obtain rfl:v=.map (some nt):=Xc ((cell1 q2).symm.trans q1);have ge:=Hd (U3 q2);have f1:w'.frozen? (Av s)=false:=by simp[World.frozen?,q2]
   clear hf HL;go_wp2_with fail;rw[ge.o];have hu:=underlying153;refine VS (v:=.tuple #[.map (some nt),Iv 0]) ((results_cell_tmp rfl _ _ _).trans ?_) rfl HF.o
   show ((asAddr (Pt s)).run prog w').andThen (fun a w₁=>((loadVar 153 a).run prog w₁).andThen fun v w₂=>.ok (Value.tuple #[v,Iv 0]) w₂)=_
   go_simp
end
open Go.ChangeMaps (setBlock)
theorem N7 (seen:Array Nat):∀ es:List MapEntry,(∀ e∈es,0<=valOf e.val)->0<=seenSum es seen/\seenSum es seen<=(es.map fun e=>valOf e.val).sum
 | [],_=>⟨Int.le_refl _,Int.le_refl _⟩
 | x::l,h=>by
   have h1:=h x (VW ..);obtain⟨a,b⟩:=N7 seen l (fun e he=>h e (WP _ he))
   show 0<=(if seen.contains x.born then valOf x.val else 0)+seenSum l seen/\(if seen.contains x.born then valOf x.val else 0)+seenSum l seen<=(List.map (fun e=>valOf e.val) (x::l)).sum
   rw[Wx,List.sum_cons];split<;>constructor<;>omega
theorem U6 {r:Nat}(h:Below n w w')(hr:n<=r)(o:Obj):Below n w (setBlock w' r o):=by
 refine⟨h.os,h.tape,h.output,by simpa [setBlock] using h.size,fun k hk=>?_⟩;have:(setBlock w' r o).heap[k]?=w'.heap[k]?:=by simp[setBlock,Xp,show r≠k by omega]
 exact this.trans (h.block k hk)
theorem U7 {r:Nat}(h:r<w.heap.size)(o:Obj):(setBlock w r o).heap[r]?=some o:=by simp[setBlock,h]
theorem U8 (cs:List (Nat×Nat)):((ctL cs).map fun p=>valOf p.2).sum=(sumC cs:Nat):=by
 induction cs with
 | nil=>rfl
 | cons p r ih =>
   simp only[ctL,sumC,Wx,List.sum_cons,Xe] at ih ⊢;rw[ih];simp[valOf]
section
variable {o:Own}
def AskV (K:Law)(n:Nat)(Od:List Nat->Prop)(room:Nat)(w0:Wd)(mb:Nat)(fs:List (Int×BF))(nx:Int)(m:ManD)(o:Own)(w w':Wd):Prop :=
 ∃ o' m' V',ChgX NoB o o' w w'/\m'.waits=m.waits/\m'.d.vars=m.d.vars/\SatE K n Od room w0 mb fs nx w' o' m' V'
theorem AskV.below {w1 w':Wd}(h:AskV K n Od room w0 mb fs nx m o w w1)(hb:Bw w1 w'):AskV K n Od room w0 mb fs nx m o w w':=by
 obtain⟨o',m',V',h1,h2,h3,h4⟩:=h;exact⟨o',m',V',h1.trans (ChgX.of_below hb o' NoB) (fun _ _ e=>e),h2,h3,h4.below hb⟩
end
open Go.ChangeMaps (setBlock)
section
variable {o:Own}
theorem U9 (h:SatE K n Od room w0 mb fs nx w o m V){a:Option Addr}(hl:ArgI w0 w o a ks)(hlen:Fs.length=ks.length)(hm:∀ i (h:i<ks.length),(ks[i],Fs[i]'(by omega))∈fs) :
 Cl 65 #[Pt mb,.slice a ks.length c] w fun x w'=>x=.returned (.tuple #[Iv ((nodesF n m.d.vars Fs).length:Nat),Iv 0])/\AskV K n Od room w0 mb fs nx m o w w':=by
 have HS:=Hd (U5 (c:=c) h hl hlen hm);obtain⟨N,hN⟩:=Ex ((nodesF n m.d.vars Fs).length);obtain⟨P,hP⟩:=Ex (fun x w'=>x=.returned (.tuple #[Iv (N:Nat),Iv 0])/\AskV K n Od room w0 mb fs nx m o w w':Ending->Wd->Prop)
 have gA:Hq (∀ w1 w',AskV K n Od room w0 mb fs nx m o w w1->Bw w1 w'->P (.returned (.tuple #[Iv (N:Nat),Iv 0])) w'):=Hd fun w1 w' h1 h2=>by
  rw[hP];exact⟨rfl,h1.below h2⟩
 rw[<- hN];rw[<- hP];have gm:=Hd hN;clear hN hP h hl hlen hm
 go_enter func65,ntmps65
 go_wp2_with fail;refine HS.o.mono ?_;rintro x w1 ⟨nt,cs,rfl,gg,hv,gi⟩;have gB:=Hd (show AskV K n Od room w0 mb fs nx m o w w1 from gi);obtain⟨es,clock,hM,g3,g9,gr⟩:=gg.ex;have gc:(es.toList.map fun e=>valOf e.val).sum=((N:Nat):Int):=by
  have h1:=Wb (List.map fun q:Value×Value=>valOf q.2) g3;simp only[Xe] at h1;have h2:(es.toList.map fun e=>valOf e.val)=(ctL cs).map fun p=>valOf p.2:=h1
  rw[h2,U8,hv.sum,gm.o]
 have g2:∀ e∈es.toList,∃ k:Nat,e.val=Iv k:=fun e he=>by
  have h1:(e.key,e.val)∈(ctL cs).map (fun p=>(Value.int .i64 p.1,p.2)):=by rw[<- g3];exact Vz.2 ⟨e,he,rfl⟩
  obtain⟨p,hp,e2⟩:=Vz.1 h1;obtain⟨q,_,rfl⟩:=Vz.1 hp;exact⟨q.2,(Wb Prod.snd e2).symm⟩
 have ge:∀ e∈es.toList,0<=valOf e.val:=fun e he=>by
  obtain⟨k,hk⟩:=g2 e he;rw[hk];exact Int.natCast_nonneg k
 have gj:N<=2305843009213693952:=by rw[gm.o,<- hv.sum];exact hv.le
 have gf:nt<w1.heap.size:=gg.lt;have HV:=Hd g2;have HPOS:=Hd ge;have gl:=Hd gc;have go:=Hd g9;have gx:=Hd gr;have HM:=Hd hM;have gD:=run_range_map (P:=prog) w1 153 _ _ nt es clock underlying153 hM;clear gi gg hv g3 g9 gr gc g2 ge hM HS gm;go_upto_region 5 with fail;obtain⟨r,hr⟩:=Ex w1.heap.size;obtain⟨w2,g5⟩:=Ex (w1.alloc (.mapIter (some nt) clock #[] clock));have HB2:=Hd (show Bw w1 w2 by rw[g5];exact Af _ _);have gE:=Hd (show w2.heap[r]?=some (.mapIter (some nt) clock #[] clock) by rw[g5,hr];exact Vq _ _);rw[<- g5,<- hr];have HR:=Hd hr;have gw:=Hd gf;clear g5 gD hr gf
 go_loopw [4,8] (fun s4 _ wr=>∃ seen:Array Nat,Bw w1 wr/\wr.heap[r]?=some (.mapIter (some nt) clock seen clock)/\s4=Iv (seenSum es.toList seen)) (fun _ _ wr=>(leftOf es (wr.iterSeen r)).size)
 case atStart=>exact⟨#[],HB2.o,gE.o,by rw[seenSum_none]⟩
 case round =>
  obtain⟨seen,hb,g1,rfl⟩:=hrel;have gk:wr.heap[nt]?=some (.map es clock):=(hb.block nt gw.o).trans HM.o;have HB:=Hd hb;have gG:=Hd g1;rcases run_next_at (P:=prog) wr 0 r nt clock clock seen es clock g1 gk go.o (Vo _) with ⟨hz,g0⟩|⟨e,he,w3,ga,g0⟩
  ·have hs:=seenSum_all es seen hz;rw[gl.o] at hs;have hnx:∀ ty,(Instr.next (Pt r) false ty).run prog wr=_:=fun _=>g0
   rw[hs];have HF:=Hd (gA.o w1 wr gB.o hb);clear hs g0 hz gk g1 hb gj;go_wp2_with fail;exact HF.o
  ·obtain⟨g8,gt⟩:=mem_left he;obtain⟨k,hk⟩:=HV.o e g8;have gC:0<=seenSum es.toList (seen.push e.born)/\seenSum es.toList (seen.push e.born)<=(N:Nat):=by
    have:=N7 (seen.push e.born) es.toList HPOS.o;rw[gl.o] at this;exact this
   have g6:=seenSum_push seen e gt es.toList gx.o g8;rw[hk] at g6;obtain⟨w4,g4⟩:=Ex (setBlock w3 r (.mapIter (some nt) clock (seen.push e.born) clock));have gd:r<wr.heap.size:=(Vm.1 g1).1;have gu:Bw w1 w3:=by rcases ga with e|e<;>rw[e];exact hb;exact hb.trans ((An wr 1).mono hb.size)
   have gq:r<w3.heap.size:=by rcases ga with e|e<;>rw[e];exact gd;exact gd
   have gh:Bw w1 w4:=by rw[g4];exact U6 gu (by rw[HR.o];exact Vo _) _
   have g7:w4.heap[r]?=some (.mapIter (some nt) clock (seen.push e.born) clock):=by rw[g4];exact U7 gq _
   have gv:w4.heap[nt]?=some (.map es clock):=(gh.block nt gw.o).trans HM.o;have gy:=run_entry_at (P:=prog) w4 r nt clock seen es clock e g7 gv g8 gx.o;rw[<- g4,hk] at g0;rw[hk] at gy;have hnx:∀ ty,(Instr.next (Pt r) false ty).run prog wr=_:=fun _=>g0
   obtain⟨S,hS⟩:=Ex (seenSum es.toList seen);have gp:valOf (Iv (k:Nat))=(k:Int):=rfl;rw[gp,<- hS] at g6;have gF:IntKind.i64.wrap (S+(k:Nat))=S+(k:Nat):=Wq _ ⟨by omega,by omega⟩;have gz:=Hd (show ∃ sn:Array Nat,Bw w1 w4/\w4.heap[r]?=some (.mapIter (some nt) clock sn clock)/\(Value.int .i64 (S+(k:Nat)))=Iv (seenSum es.toList sn) from ⟨_,gh,g7,by rw[g6]⟩)
   have gn:=Hd (show (leftOf es (w4.iterSeen r)).size<(leftOf es (wr.iterSeen r)).size by
    have e1:w4.iterSeen r=seen.push e.born:=by unfold World.iterSeen;rw[g7]
    have e2:wr.iterSeen r=seen:=by unfold World.iterSeen;rw[g1]
    rw[e1,e2];exact left_shrinks es seen e he)
   rw[<- hS];clear g0 gk g1 hb gj he g8 gt hk gC g6 g4 gd gu gq gh g7 gv hS gp ga;go_wp2_with fail;go_roundw
   case rel=>exact gz.o
   case measure=>exact gn.o
end
section
variable {Gs:List BF}{x:Value}
theorem Jz (hi:i<Gs.length):nodesF n os (Gs.take (i+1))=belF n os n (nodesF n os (Gs.take i)) Gs[i]:=by
 unfold nodesF;rw[Vt hi,X4];rfl
theorem J0:∀ i,i<=Gs.length->(nodesF n os (Gs.take i)).length<=i*2^n
 | 0,_=>by simp[nodesF]
 | i+1,hi=>by
   have h1:=J0 i (by omega);rw[Jz (by omega)];have h2:=G1 n os n (nodesF n os (Gs.take i)) (Gs[i]'(by omega));rw[Nat.succ_mul];omega
theorem N8 (hd:∀ G∈Gs,DepF n G):∀ i,i<=Gs.length->∀ G∈nodesF n os (Gs.take i),DepF n G
 | 0,_,G,hG=>by simp[nodesF] at hG
 | i+1,hi,G,hG=>by
   rw[Jz (by omega)] at hG;exact G2 n os n _ _ (N8 hd i (by omega)) (hd _ (Vv _)) G hG
end
noncomputable def szO (n:Nat)(Fs:List BF)(zs:List Int):Nat:=(nodesF n (zs.map Int.toNat) Fs).length
theorem UA (n:Nat)(Fs:List BF)(zs:List Int):szO n Fs zs<=Fs.length*2^n:=by
 have h:=J0 (n:=n) (os:=zs.map Int.toNat) (Gs:=Fs) Fs.length (Vo _);rw[VI] at h;exact h
theorem UB (l:List Nat):(l.map Int.ofNat).map Int.toNat=l:=by
 rw[Xe];exact(X6 fun z _=>rfl).trans (List.map_id _)
def ArgB (w0:Wd)(a:Option Addr)(ks:List Int):Wd->Own->Prop:=fun W o=>ArgI w0 W o a ks
theorem ArgB.keep {a:Option Addr}:AR (ArgB w0 a ks):=fun W o W' o' h hc =>
 ⟨⟨h.z.len,fun j hj=>by
  obtain⟨b,off,e,hcl⟩:=h.z.cells j hj;have:=h.own _ e;exact⟨b,off,e,Co hcl (hc.block b this.1 this.2.2 (fun e=>e))⟩⟩,fun x hx=>⟨VH (h.own x hx).1 hc.size,(h.own x hx).2.1,hc.none' (h.own x hx).1 (h.own x hx).2.2⟩⟩
section
variable {r:List (Int×BF)}{P:List Nat->Prop}
theorem FxO.size (hB:AR B)(h:FxO K n room w0 mb ws0 C o0 wb B (fun l=>l.map Int.ofNat=zs) fs nx W){a:Option Addr}(hl:∀ W o,B W o->ArgI w0 W o a ks)(hlen:Fs.length=ks.length)(hm:∀ i (h:i<ks.length),(ks[i],Fs[i]'(by omega))∈fs) :
 Cl 65 #[Pt mb,.slice a ks.length c] W fun x w'=>x=.returned (.tuple #[Iv (szO n Fs zs:Nat),Iv 0])/\FxO K n room w0 mb ws0 C o0 wb B (fun l=>l.map Int.ofNat=zs) fs nx w':=by
 obtain⟨o,m,V,h1,h2,h3,h4⟩:=h;refine(U9 (c:=c) h3 (hl _ _ h4) hlen hm).mono ?_;rintro x w' ⟨rfl,o',m',V',q1,q2,q3,q4⟩;refine⟨?_,o',m',V',h1.trans q1 NoB.sub,by rw[q2];exact h2,q4,hB _ _ _ _ h4 q1⟩;have e:zs.map Int.toNat=m.d.vars:=by rw[<- h3.od,UB]
 unfold szO;rw[e]
end
theorem UC (i v:Nat)(hi:i<=1048576)(hv:v<=20)(w:Wd):Cl 234 #[Iv (i:Nat),Iv (v:Nat)] w (Sm (.bool (bitB i v)) w):=by
 go_enter func234,ntmps234
 go_wp2_with fail
 go_loopw [0,5] (fun s0 s5 wr=>∃ k q:Nat,k<=v/\q<=1048576/\s0=Iv (q:Nat)/\s5=Iv (k:Nat)/\w=wr/\Hq (i/2^k=q)) (fun _ s5 _=>v-(intOf s5).toNat)
 case atStart=>exact⟨0,i,Vu _,hi,rfl,rfl,rfl,Hd (by simp)⟩
 case round =>
  obtain⟨k,q,hk,hq,rfl,rfl,rfl,HQ⟩:=hrel
  by_cases g0:k<v
  ·have hz:(k:Int)<(v:Int):=by omega
   go_wp2_with fail;go_roundw
   case rel=>exact⟨k+1,q/2,by omega,by omega,by go_num,by go_num,by first|rfl|trivial,Hd (by rw[WS,<- Xt,HQ.o])⟩
   case measure=>simp[intOf];omega
  ·have he:k=v:=by omega
   have hz:¬ (k:Int)<(v:Int):=by omega
   have HB:Hq (((q:Int).tmod 2 == 1)=bitB i v):=by
    refine Hd ?_
    show ((q:Int).tmod 2 == 1)=bitB i v
    unfold bitB;rw[<- he,HQ.o];have e1:Int.tmod (q:Int) 2=((q%2:Nat):Int):=by rw[Xw (by omega)];rfl
    rw[e1]
    by_cases h:q%2=1
    . rw[h];rfl
    ·have:((q%2:Nat):Int)≠1:=by omega
     rw[Xq.2 this,VU h]
   clear he;go_wp2_with fail;go_ret;exact⟨by rw[<- HB.o];rfl,rfl⟩
theorem UD (v:Nat)(hv:v<=20)(w:Wd):Cl 233 #[Iv (v:Nat)] w (Sm (Iv (2^v:Nat)) w):=by
 have HS:Hq (∀ k,k<=v->2^k<=1048576):=Hd fun k hk=>EY (by omega)
 go_enter func233,ntmps233
 go_wp2_with fail
 go_loopw [3,4] (fun s3 s4 wr=>∃ k p:Nat,k<=v/\s3=Iv p/\s4=Iv k/\w=wr/\Hq (2^k=p)) (fun _ s4 _=>v-(intOf s4).toNat)
 case atStart=>exact⟨0,1,Vu _,rfl,rfl,rfl,Hd rfl⟩
 case round =>
  obtain⟨k,p,hk,rfl,rfl,rfl,HP⟩:=hrel
  by_cases g0:k<v
  ·have hp:p<=1048576:=by rw[<- HP.o];exact HS.o k hk
   go_wp2_with fail;go_roundw
   case rel=>exact⟨k+1,2*p,by omega,by go_num,by go_num,by simp,Hd (by rw[WS,HP.o];omega)⟩
   case measure=>simp[intOf];omega
  ·have he:k=v:=by omega
   have HE:Hq (2^v=p):=by rw[<- he];exact HP
   clear he;go_wp2_with fail;go_ret;exact⟨by rw[HE.o];rfl,rfl⟩
theorem N9 (bx bz:List Bool)(hlen:bz.length=bx.length)(ax az:Option Addr)(cx cz:Nat)(w:Wd)(h1:BB w ax bx)(h2:BB w az bz) :
 Cl 232 #[.slice ax bx.length cx,.slice az bx.length cz] w (Bl (.bool (decide (bx=bz))) w):=by
 have H1:=Hd h1;have H2:=Hd h2;have hl:=h1.len;have g7:=Hd hlen;obtain⟨L,hL⟩:=Ex bx.length;have HL:=Hd hL;rw[<- hL] at hl ⊢;clear h1 h2 hL hlen
 go_enter func232,ntmps232
 go_wp2_with fail
 go_loopw [4,5] (fun s4 s5 wr=>∃ j:Nat,j<=L/\s5=Iv j/\Hq (Bw w wr)/\Hq (∀ q,q<j->bx.getD q false=bz.getD q false)) (fun _ s5 _=>L-(intOf s5).toNat)
 case atStart=>exact⟨0,Vu _,rfl,Hd (VA _ _),Hd fun q hq=>by omega⟩
 case round =>
  obtain⟨j,hj,rfl,HB,HQ⟩:=hrel
  by_cases g4:j<L
  ·obtain⟨b1,of1,rfl,c1⟩:=(H1.o.below HB.o).cells j (by rw[<- HL.o];exact g4);obtain⟨b2,of2,rfl,c2⟩:=(H2.o.below HB.o).cells j (by rw[g7.o,<- HL.o];exact g4);have g2:=Hd (HB.o.trans ((An wr 1).mono HB.o.size));have g9:(j:Int)<(L:Int):=by omega
   obtain⟨y1,g1⟩:∃ y,y=bx.getD j false:=⟨_,rfl⟩;obtain⟨y2,g0⟩:∃ y,y=bz.getD j false:=⟨_,rfl⟩;rw[<- g1] at c1;rw[<- g0] at c2;have g5:Hq (y1=y2->∀ q,q<j+1->bx.getD q false=bz.getD q false):=Hd fun e q hq=>by
    rcases VB q j with h|h
    . exact HQ.o q h
    ·obtain rfl:q=j:=by omega
     rw[<- g1,<- g0,e]
   have g6:Hq (y1≠y2->bx≠bz):=Hd fun g8 e=>g8 (by rw[g1,g0,e])
   clear g1 g0;go_upto_region 6 with fail;refine AD (fun W:Wd=>W.cell? (Aw b1 (of1+j))=some (.bool y1)/\W.cell? (Aw b2 (of2+j))=some (.bool y2)) false 9
    [(0,false),(1,false),(2,false),(3,false),(4,false),(5,false),(6,false),(7,false),(8,false)] (by kernel_rfl) (by kernel_rfl) ⟨c1,c2⟩ ?_
   simp only[planned,AC]
   iterate 9
    refine As rfl ?_;apply Exists.intro;refine⟨fun w' hw=>?_,?_⟩
    . obtain⟨h1,h2⟩:=hw;go_simp;rfl
    simp only[Ac]
   refine Bs ?_;clear c1 c2;cases y1<;>cases y2
   ·have g3:=Hd (g5.o rfl);go_wp2_with fail;go_roundw
    case rel=>exact⟨j+1,by omega,by go_num,g2,g3⟩
    case measure=>simp[intOf];omega
   . have HF:Hq (Ending.returned (.bool false)=.returned (.bool (decide (bx=bz)))):=Hd (by rw[VU (g6.o (by simp))]);go_wp2_with fail;go_ret;exact⟨HF.o,g2.o⟩
   . have HF:Hq (Ending.returned (.bool false)=.returned (.bool (decide (bx=bz)))):=Hd (by rw[VU (g6.o (by simp))]);go_wp2_with fail;go_ret;exact⟨HF.o,g2.o⟩
   ·have g3:=Hd (g5.o rfl);go_wp2_with fail;go_roundw
    case rel=>exact⟨j+1,by omega,by go_num,g2,g3⟩
    case measure=>simp[intOf];omega
  ·have HF:Hq (Ending.returned (.bool true)=.returned (.bool (decide (bx=bz)))):=Hd (by
    rw[We];refine WT g7.o.symm fun i h1 h2=>?_
    have:=HQ.o i (by have:=HL.o;omega);simpa [List.getD,h1,h2] using this)
   have g9:¬ (j:Int)<(L:Int):=by omega
   go_wp2_with fail;go_ret;exact⟨HF.o,HB.o⟩
theorem UE (bs:List Bool)(hl:bs.length<=1000000)(a:Option Addr)(c:Nat)(w:Wd)(h:BB w a bs) :
 Cl 231 #[.slice a bs.length c] w fun x w'=>∃ v,x=.returned v/\OwnB w' w.heap.size v (bs.map (!·))/\Bw w w':=by
 have H:=Hd h;obtain⟨L,hL⟩:=Ex bs.length;have HL:=Hd hL;rw[<- hL] at hl ⊢;clear h hL
 go_enter func231,ntmps231
 go_wp2_with fail
 go_loopw [3,4] (fun s3 s4 wr=>∃ j:Nat,j<=L/\s4=Iv j/\OwnB wr w.heap.size s3 ((bs.take j).map (!·))/\w.heap.size<=wr.heap.size/\Bw w wr) (fun _ s4 _=>L-(intOf s4).toNat)
 case atStart=>exact⟨0,Vu _,rfl,Cv _ w _ (Vo _),by simp,Af w _⟩
 case round =>
  obtain⟨j,hj,rfl,g3,g6,g4⟩:=hrel;have g0:=Hd g3;have g1:=Hd g4;clear g3 g4
  by_cases g7:j<L
  ·have g2:j<bs.length:=by rw[<- HL.o];exact g7
   have g9:(j:Int)<(L:Int):=by omega
   obtain⟨b1,of1,rfl,c1⟩:=(H.o.below g1.o).cells j g2;obtain⟨y,hy⟩:=Ex (bs.getD j false);rw[<- hy] at c1
   have HY:Hq ((bs.take (j+1)).map (!·)=(bs.take j).map (!·)++[!y]):=Hd (by
    rw[Vt g2,VK,hy];simp[List.getD,g2])
   have ga:(A8 ((bs.take j).map (!·))).length<1099511627776:=by simp[A8];omega
   clear hy g2;go_wp2_with (at_builtin;refine BC CK _ rfl _ _ rfl w.heap.size _ (A8 ((bs.take j).map (!·))) _ rfl rfl rfl rfl rfl (by exact g0.o) (by exact ga) g6 ?_;intro v1 w1 g5 e1 e2 e3 e4 g8);go_roundw
   case rel =>
    refine⟨j+1,by omega,by go_num,?_,by omega,CA g1.o g0.o e1 e2 e3 e4 g8 g6⟩;unfold OwnB;rw[HY.o,DA];exact g5
   case measure=>simp[intOf];omega
  ·obtain rfl:j=L:=by omega
   have g9:¬ (j:Int)<(j:Int):=by omega
   have HO:Hq (OwnB wr w.heap.size u3 (bs.map (!·))):=Hd (by
    have:=g0.o
    rwa [WA (by rw[<- HL.o];omega)] at this)
   go_wp2_with fail;go_ret;exact⟨_,rfl,HO.o,g1.o⟩
theorem NA (n:Nat)(F:BF)(v:Nat)(b:Bool)(hn:n<=16)(hv:v<n)(au:Option Addr)(cu:Nat)(w:Wd)(h1:BB w au (tabB n F)) :
 Cl 174 #[.slice au (2^n) cu,Iv (v:Nat),.bool b] w fun x w'=>∃ u,x=.returned u/\OwnB w' w.heap.size u (tabB n (cofF F v b))/\Bw w w':=by
 have H1:=Hd h1;have gl:2^n<=1000000:=E7 hn;have gj:2^v<=1000000:=E7 (by omega);have gm:Hq (∀ i,i<=1048576->∀ W,Cl 234 #[Iv (i:Nat),Iv (v:Nat)] W (Sm (.bool (bitB i v)) W)):=Hd fun i hi W=>UC i v hi (by omega) W
 obtain⟨G,hG⟩:=Ex (fun i=>cofF F v b (AF (AO i n)):Nat->Bool)
 have HT:Hq (tabB n (cofF F v b)=(List.range (2^n)).map G):=Hd (by rw[hG];rfl);have gi:Hq (∀ j,j<2^n->cofI j v b<2^n/\(tabB n F).getD (cofI j v b) false=G j):=Hd fun j hj=>⟨MH hj hv,by rw[hG];exact T1 hj hv⟩
 have gh:Hq ((tabB n F).length=2^n):=Hd (Ch n F);rw[HT.o];obtain⟨L,hL⟩:=Ex (2^n);obtain⟨p,hp⟩:=Ex (2^v);have go:Hq (∀ W,Cl 233 #[Iv (v:Nat)] W (Sm (Iv (p:Nat)) W)):=Hd fun W=>by rw[hp];exact UD v (by omega) W
 have HCI:Hq (∀ j,cofI j v b=if bitB j v && !b then j-p else if !bitB j v&&b then j+p else j):=Hd fun j=>by rw[hp];rfl
 have gn:Hq (∀ j,bitB j v=true->p<=j):=Hd fun j hj=>by
  rcases VB j p with h|h
  . unfold bitB at hj;rw[<- hp,XS h] at hj;simp at hj
  . exact h
 rw[<- hL] at gl gi gh ⊢;rw[<- hp] at gj;clear hL hp h1 hG HT
 go_enter func174,ntmps174
 go_wp2_with fail;refine(go.o _).mono ?_;rintro x w0 ⟨rfl,rfl⟩;go_wp2_with fail
 go_loopw [7,9,10] (fun s7 s9 _ wr=>∃ j:Nat,j<=L/\s9=Iv j/\OwnB wr w.heap.size s7 (((List.range L).map G).take j)/\w.heap.size<=wr.heap.size/\Bw w wr) (fun _ s9 _ _=>L-(intOf s9).toNat)
 case atStart=>exact⟨0,by omega,rfl,Cv _ w _ (Vo _),by simp,Af w _⟩
 case round =>
  obtain⟨j,hj,rfl,g9,g5,gc⟩:=hrel;have g2:=Hd g9;have g4:=Hd gc;clear g9 gc
  by_cases gd:j<L
  ·have gg:j<((List.range L).map G).length:=by simp;exact gd
   obtain⟨ge,ga⟩:=gi.o j gd;have g3:=HCI.o j;have g7:=gn.o j;obtain⟨kk,gf⟩:=Ex (cofI j v b);rw[<- gf] at ge ga g3;obtain⟨b1,of1,e1,c1⟩:=(H1.o.below g4.o).cells kk (by rw[gh.o];exact ge);rw[ga] at c1;subst e1;obtain⟨y,hy⟩:=Ex (G j);rw[<- hy] at c1;obtain⟨t,ht⟩:=Ex (bitB j v);rw[<- ht] at g3 g7;have g6:Hq (∀ W,Cl 234 #[Iv (j:Nat),Iv (v:Nat)] W (Sm (.bool t) W)):=Hd fun W=>by rw[ht];exact gm.o j (by omega) W
   have gp:(kk:Int)<(L:Int):=by omega
   have HY:Hq (((List.range L).map G).take (j+1)=((List.range L).map G).take j++[y]):=Hd (by
    rw[Vt gg,hy];simp)
   have g8:(A8 (((List.range L).map G).take j)).length<1099511627776:=by simp[A8];omega
   clear ga hy ht gf H1 gg;cases t<;>cases b
   ·have g0:kk=j:=by simpa using g3
    subst g0;clear g3 g7;go_wp2_with fail;refine(g6.o _).mono ?_;rintro x w2 ⟨rfl,rfl⟩;go_wp2_with fail;refine(g6.o _).mono ?_;rintro x w2 ⟨rfl,rfl⟩;go_wp2_with (at_builtin;refine BC CK _ rfl _ _ rfl w.heap.size _ (A8 (((List.range L).map G).take kk)) _ rfl rfl rfl rfl rfl (by exact g2.o) (by exact g8) g5 ?_;intro v1 w1 g1 e1 e2 e3 e4 g0);go_roundw
    case rel =>
     refine⟨kk+1,by omega,by go_num,?_,by omega,CA g4.o g2.o e1 e2 e3 e4 g0 g5⟩;unfold OwnB;rw[HY.o,DA];exact g1
    case measure=>simp[intOf];omega
   ·have g0:kk=j+p:=by simpa using g3
    have gk:(j:Int)+(p:Int)=(kk:Nat):=by omega
    clear g3 g7 g0;go_wp2_with fail;refine(g6.o _).mono ?_;rintro x w2 ⟨rfl,rfl⟩;go_wp2_with fail;refine(g6.o _).mono ?_;rintro x w2 ⟨rfl,rfl⟩;go_wp2_with (at_builtin;refine BC CK _ rfl _ _ rfl w.heap.size _ (A8 (((List.range L).map G).take j)) _ rfl rfl rfl rfl rfl (by exact g2.o) (by exact g8) g5 ?_;intro v1 w1 g1 e1 e2 e3 e4 g0);go_roundw
    case rel =>
     refine⟨j+1,by omega,by go_num,?_,by omega,CA g4.o g2.o e1 e2 e3 e4 g0 g5⟩;unfold OwnB;rw[HY.o,DA];exact g1
    case measure=>simp[intOf];omega
   ·have g0:kk=j-p:=by simpa using g3
    have:=g7 rfl;have gk:(j:Int)-(p:Int)=(kk:Nat):=by omega
    clear g3 g7 g0;go_wp2_with fail;refine(g6.o _).mono ?_;rintro x w2 ⟨rfl,rfl⟩;go_wp2_with fail;refine(g6.o _).mono ?_;rintro x w2 ⟨rfl,rfl⟩;go_wp2_with (at_builtin;refine BC CK _ rfl _ _ rfl w.heap.size _ (A8 (((List.range L).map G).take j)) _ rfl rfl rfl rfl rfl (by exact g2.o) (by exact g8) g5 ?_;intro v1 w1 g1 e1 e2 e3 e4 g0);go_roundw
    case rel =>
     refine⟨j+1,by omega,by go_num,?_,by omega,CA g4.o g2.o e1 e2 e3 e4 g0 g5⟩;unfold OwnB;rw[HY.o,DA];exact g1
    case measure=>simp[intOf];omega
   ·have g0:kk=j:=by simpa using g3
    subst g0;clear g3 g7;go_wp2_with fail;refine(g6.o _).mono ?_;rintro x w2 ⟨rfl,rfl⟩;go_wp2_with fail;refine(g6.o _).mono ?_;rintro x w2 ⟨rfl,rfl⟩;go_wp2_with (at_builtin;refine BC CK _ rfl _ _ rfl w.heap.size _ (A8 (((List.range L).map G).take kk)) _ rfl rfl rfl rfl rfl (by exact g2.o) (by exact g8) g5 ?_;intro v1 w1 g1 e1 e2 e3 e4 g0);go_roundw
    case rel =>
     refine⟨kk+1,by omega,by go_num,?_,by omega,CA g4.o g2.o e1 e2 e3 e4 g0 g5⟩;unfold OwnB;rw[HY.o,DA];exact g1
    case measure=>simp[intOf];omega
  ·obtain rfl:j=L:=by omega
   have gq:¬ (j:Int)<(j:Int):=by omega
   have HO:Hq (OwnB wr w.heap.size u7 ((List.range j).map G)):=Hd (by
    have:=g2.o
    rwa [WA (by simp)] at this)
   go_wp2_with fail;go_ret;exact⟨_,rfl,HO.o,g4.o⟩
theorem UF (n:Nat)(F:BF)(v:Nat)(hn:n<=16)(hv:v<n)(au:Option Addr)(cu:Nat)(w:Wd)(h1:BB w au (tabB n F)) :
 Cl 230 #[.slice au (2^n) cu,Iv (v:Nat)] w (Bl (.bool (AU n F v)) w):=by
 have HC:Hq (∀ b W,Bw w W->Cl 174 #[.slice au (2^n) cu,Iv (v:Nat),.bool b] W fun x w'=>∃ a c,x=.returned (.slice a (2^n) c)/\BB w' a (tabB n (cofF F v b))/\Bw W w') :=
  Hd fun b W hb=>(NA n F v b hn hv au cu W (h1.below hb)).mono fun x w' ⟨u,q1,q2,q3⟩=>by
   obtain⟨a,c,e,q4⟩:=TabA.is (OwnC.boolsIs q2 (by rw[Ch];exact E7 hn));exact⟨a,c,by rw[q1,e],q4,q3⟩
 have g3:Hq (∀ a1 a2 c1 c2 W,BB W a1 (tabB n (cofF F v false))->BB W a2 (tabB n (cofF F v true))->Cl 232 #[.slice a1 (2^n) c1,.slice a2 (2^n) c2] W (Bl (.bool (decide (tabB n (cofF F v false)=tabB n (cofF F v true)))) W)):=Hd fun a1 a2 c1 c2 W q1 q2=>by
  have:=N9 (tabB n (cofF F v false)) (tabB n (cofF F v true)) (by simp[Ch]) _ _ c1 c2 W q1 q2;rw[Ch] at this;exact this
 unfold AU;obtain⟨L,hL⟩:=Ex (2^n);rw[<- hL] at HC g3 ⊢;obtain⟨d,hd⟩:=Ex (decide (tabB n (cofF F v false)=tabB n (cofF F v true)));rw[<- hd] at g3 ⊢;clear h1 hL hd
 go_enter func230,ntmps230
 go_wp2_with fail;refine(HC.o false w (VA _ _)).mono ?_;rintro x w1 ⟨g1,d1,rfl,k1,g6⟩;have K1:=Hd k1;have g4:=Hd g6;clear k1 g6;go_wp2_with fail;refine(HC.o true w1 g4.o).mono ?_;rintro x w2 ⟨g2,d2,rfl,k2,g0⟩;have HS:=Hd (g3.o g1 g2 d1 d2 w2 (K1.o.below g0) k2);have HB2:=Hd (g4.o.trans (g0.mono g4.o.size));clear k2 g0 K1;go_wp2_with fail;refine HS.o.mono ?_;rintro x w3 ⟨rfl,g5⟩;have g7:=Hd (HB2.o.trans (g5.mono HB2.o.size));clear g5 HS;go_wp2_with fail;go_ret;exact⟨rfl,g7.o⟩
theorem NB (n:Nat)(F:BF)(l:List Nat)(hl:l.length<=64)(hlt:∀ v∈l,v<n)(hn:n<=16)(au al:Option Addr)(cu cl:Nat)(w:Wd)(h1:BB w au (tabB n F))(h2:Au w al (l.map Int.ofNat)) :
 Cl 171 #[.slice al l.length cl,.slice au (2^n) cu] w (Bl (Iv (topR n F l)) w):=by
 have HH:Hq (∀ v W,v<n->Bw w W->Cl 230 #[.slice au (2^n) cu,Iv (v:Nat)] W (Bl (.bool (AU n F v)) W)):=Hd fun v W hv hb=>UF n F v hn hv au cu W (h1.below hb)
 have H2:=Hd h2;have g6:=Hd hlt;obtain⟨N,hN⟩:=Ex (topR n F l);have HN:Hq (topR n F (l.drop 0)=N):=Hd hN.symm;rw[<- hN];obtain⟨L,hL⟩:=Ex (2^n);rw[<- hL] at HH ⊢;clear h1 h2 hlt hN hL
 go_enter func171,ntmps171
 go_wp2_with fail
 go_loopw [4,5] (fun s4 s5 wr=>∃ i:Nat,i<=l.length/\s5=Iv i/\Hq (Bw w wr)/\Hq (topR n F (l.drop i)=N)) (fun _ s5 _=>l.length-(intOf s5).toNat)
 case atStart=>exact⟨0,Vu _,rfl,Hd (VA _ _),HN⟩
 case round =>
  obtain⟨i,hi,rfl,HB,g3⟩:=hrel
  by_cases hlt:i<l.length
  ·have g4:(i:Int)<(l.length:Int):=by omega
   obtain⟨b,off,rfl,c0⟩:=(H2.o.below HB.o).cells i (by simpa using hlt);rw[CE hlt] at c0;have HV:Hq (l.drop i=l.getD i 0::l.drop (i+1)):=Hd (by rw[VT hlt];simp[List.getD,hlt]);have g2:l.getD i 0<n:=g6.o _ (by simp[List.getD,hlt]);obtain⟨v,hv⟩:=Ex (l.getD i 0);rw[<- hv] at c0 HV g2;have HC:=Hd (HH.o v wr g2 HB.o);obtain⟨t,ht⟩:=Ex (AU n F v);rw[<- ht] at HC;have g1:Hq (N=if t then (v:Int) else topR n F (l.drop (i+1))):=Hd (by rw[<- g3.o,HV.o,ht];rfl);clear hv ht;cases t with
   | true =>
     go_wp2_with fail;refine HC.o.mono ?_;rintro x w2 ⟨rfl,g0⟩;have c1:=Cq g0 c0;have HB2:=Hd (HB.o.trans (g0.mono HB.o.size));have HF:Hq (Ending.returned (Iv (v:Nat))=.returned (Iv N)):=Hd (by rw[g1.o];rfl);clear g0 c0 HC g1;go_wp2_with fail;go_ret;exact⟨HF.o,HB2.o⟩
   | false =>
     go_wp2_with fail;refine HC.o.mono ?_;rintro x w2 ⟨rfl,g0⟩;have HB2:=Hd (HB.o.trans (g0.mono HB.o.size));have g5:Hq (topR n F (l.drop (i+1))=N):=Hd (by rw[g1.o];rfl);clear g0 c0 HC g1;go_wp2_with fail;go_roundw
     case rel=>exact⟨i+1,by omega,by go_num,HB2,g5⟩
     case measure=>simp[intOf];omega
  ·have g4:¬ (i:Int)<(l.length:Int):=by omega
   have HF:Hq (Ending.returned (Iv (-1))=.returned (Iv N)):=Hd (by
    rw[<- g3.o,List.drop_eq_nil_of_le (by omega)];rfl)
   go_wp2_with fail;go_ret;exact⟨HF.o,HB.o⟩
def AK (n:Nat)(F:BF):BF:=if (tabB n F).getD (2^n-1) false then F else notF F
theorem NC (h:DepF n F):DepF n (AK n F):=by
 unfold AK;split
 . exact h
 . exact h.not
theorem UG (n:Nat)(F:BF):(tabB n (notF F)).getD (2^n-1) false = !(tabB n F).getD (2^n-1) false:=by
 have hp:0<2^n:=WR (by omega);have h:2^n-1<2^n:=by omega
 unfold tabB;simp[List.getD,h,notF]
theorem G4 (F:BF):notF (notF F)=F:=by
 funext ρ;simp[notF]
theorem ND :AK n G=AK n F↔G=F\/G=notF F:=by
 have hl:=UG n F;constructor
 ·intro h;unfold AK at h;split at h<;>split at h
  . exact .inl h
  . exact .inr h
  . exact .inr (by rw[<- G4 G,h])
  . exact .inl (by rw[<- G4 G,h,G4])
 ·rintro(rfl|rfl)
  . rfl
  ·unfold AK;rw[hl];cases (tabB n F).getD (2^n-1) false with
   | true=>simp[G4]
   | false=>simp
theorem UH {l:List BF}:AK n F∈l.map (AK n)↔Eb l F:=by
 rw[Vz];constructor
 . rintro⟨G,hG,e⟩;obtain⟨i,hi,rfl⟩:=Wj hG;exact⟨i,hi,ND.1 e⟩
 . rintro⟨i,hi,e⟩;exact⟨_,Vv hi,ND.2 e⟩
theorem UI (hn:n<=16){x:Value}(hx:TabA n w x F) :
 Cl 172 #[x] w fun e w'=>∃ v b,e=.returned (.tuple #[v,.bool b])/\TabA n w' v (AK n F)/\Bw w w':=by
 obtain⟨a,c,rfl,h1⟩:=hx;have hp:0<2^n:=WR (by omega);have hs:=E7 hn
 have HN:Hq (Cl 231 #[.slice a (2^n) c] w fun e w'=>∃ v,e=.returned v/\TabA n w' v (notF F)/\Bw w w'):=Hd (by
  have:=UE (tabB n F) (by rw[Ch];exact hs) a c w h1;rw[Ch] at this;refine this.mono ?_;rintro e w' ⟨v,rfl,ho,hb⟩;have e1:(tabB n F).map (!·)=tabB n (notF F):=by
   unfold tabB;rw[Xe];rfl
  rw[e1] at ho;exact⟨v,rfl,TabA.is (OwnC.boolsIs ho (by rw[Ch];exact hs)),hb⟩)
 obtain⟨b0,of0,rfl,c0⟩:=h1.cells (2^n-1) (by rw[Ch];omega);have H1:=Hd h1;obtain⟨y,hy⟩:=Ex ((tabB n F).getD (2^n-1) false);rw[<- hy] at c0;have HY:Hq (AK n F=if y then F else notF F):=Hd (by rw[hy];rfl);obtain⟨L,hL⟩:=Ex (2^n);rw[<- hL] at HN c0 hp hs ⊢;have HL:=Hd hL;have g2:(L:Int)-1=((L-1:Nat):Int):=by omega
 have g1:((L-1:Nat):Int)<(L:Int):=by omega
 have g0:¬ ((L-1:Nat):Int)<0:=by omega
 obtain⟨P,hP⟩:=Ex (fun e w'=>∃ v b,e=.returned (.tuple #[v,.bool b])/\TabA n w' v (AK n F)/\Bw w w':Ending->Wd->Prop)
 have HP:Hq (∀ v b w',TabA n w' v (AK n F)->Bw w w'->P (.returned (.tuple #[v,.bool b])) w'):=Hd fun v b w' h1 h2=>by rw[hP];exact⟨v,b,rfl,h1,h2⟩
 rw[<- hP];clear h1 hy hL hP;cases y with
 | true =>
   have HF:Hq (TabA n w (.slice (some (Aw b0 of0)) L c) (AK n F)):=Hd (by rw[HY.o,Vs rfl];exact⟨_,_,by rw[HL.o],H1.o⟩);clear HN HY
   go_enter func172,ntmps172
   go_wp2_with fail
   first
    | exact HP.o _ _ _ HF.o (VA _ _)
    | (refine VS (Xs rfl _ _ _) rfl ?_;exact HP.o _ _ _ HF.o (VA _ _))
 | false =>
   go_enter func172,ntmps172
   go_wp2_with fail;refine HN.o.mono ?_;rintro e w1 ⟨v,rfl,hv,hb⟩;have HF:Hq (TabA n w1 v (AK n F)):=Hd (by rw[HY.o,Vn (by simp)];exact hv);have HB:=Hd hb;clear hv hb HN;go_wp2_with fail
   first
    | exact HP.o _ _ _ HF.o HB.o
    | (refine VS (Xs rfl _ _ _) rfl ?_;exact HP.o _ _ _ HF.o HB.o)
theorem UJ (hn:n<=16){x:Value}{a:Option Addr}(hl:CY n w a Fs)(hx:TabA n w x F)(hd:DepF n F)(hdl:∀ G∈Fs,DepF n G) :
 Cl 173 #[.slice a Fs.length c,x] w fun e w'=>∃ z:Int,e=.returned (Iv z)/\(0<=z↔F∈Fs)/\Bw w w':=by
 obtain⟨ax,cx,rfl,h1⟩:=hx;have g7:=hl.len;have H1:=Hd h1;have HH:=Hd hl;have HS:Hq (∀ G,DepF n G->∀ W v,Bw w W->TabA n W v G->∀ r:Bool,(r=true↔G=F)->Cl 232 #[v,.slice ax (2^n) cx] W (Bl (.bool r) W)):=Hd fun G hG W v hb hv r hr=>by
  obtain⟨av,cv,rfl,q1⟩:=hv;have:=N9 (tabB n G) (tabB n F) (by simp[Ch]) av ax cv cx W q1 (h1.below hb);rw[Ch] at this;refine this.mono fun e w' ⟨g1,g2⟩=>⟨?_,g2⟩
  rw[g1,show decide (tabB n G=tabB n F)=r from ?_];rw[XF,XE,hr];exact⟨fun e=>Mr hG hd e,fun e=>by rw[e]⟩
 obtain⟨L,hL⟩:=Ex Fs.length;have HL:=Hd hL;have g9:=Hd hdl;obtain⟨T,hT⟩:=Ex (2^n);rw[<- hT] at HS ⊢;rw[<- hL] at g7 ⊢;clear hl h1 hL hd hdl hT
 go_enter func173,ntmps173
 go_wp2_with fail
 go_loopw [4,5] (fun _ s5 wr=>∃ i:Nat,i<=L/\s5=Iv i/\Hq (Bw w wr)/\Hq (∀ q (h:q<Fs.length),q<i->Fs[q]≠F)) (fun _ s5 _=>L-(intOf s5).toNat)
 case atStart=>exact⟨0,Vu _,rfl,Hd (VA _ _),Hd fun q _ hq=>by omega⟩
 case round =>
  obtain⟨i,hi,rfl,HB,HQ⟩:=hrel
  by_cases g6:i<L
  ·have g5:i<Fs.length:=by rw[<- HL.o];exact g6
   have g8:(i:Int)<(L:Int):=by omega
   obtain⟨b1,of1,v,rfl,c1,ht⟩:=(HH.o.below HB.o).cells i g5;obtain⟨G,hG⟩:=Ex (Fs[i]);rw[<- hG] at ht;obtain⟨r,hr⟩:=Gz (G=F);have HC:=Hd (HS.o G (by rw[hG];exact g9.o _ (Vv _)) wr v HB.o ht r hr);have g3:Hq (r=true->F∈Fs):=Hd fun e=>by rw[<- hr.1 e,hG];exact Vv _
   have g4:Hq (r=false->∀ q (h:q<Fs.length),q<i+1->Fs[q]≠F):=Hd fun e q hq ga=>by
    rcases VB q i with h|h
    . exact HQ.o q hq h
    ·obtain rfl:q=i:=by omega
     rw[<- hG];exact fun e2=>by rw[hr.2 e2] at e;cases e
   clear hr hG ht HS HQ g5;cases r with
   | true =>
     have HM:=g3.o rfl;clear g4 g3;go_wp2_with fail;refine HC.o.mono ?_;rintro e w2 ⟨rfl,g0⟩;have HB2:=Hd (HB.o.trans (g0.mono HB.o.size));have HF:Hq (0<=(i:Int)↔F∈Fs):=Hd ⟨fun _=>HM,fun _=>by omega⟩;clear g0 HC HM;go_wp2_with fail;go_ret;exact⟨_,rfl,HF.o,HB2.o⟩
   | false =>
     have HN:=Hd (g4.o rfl);clear g4 g3;go_wp2_with fail;refine HC.o.mono ?_;rintro e w2 ⟨rfl,g0⟩;have HB2:=Hd (HB.o.trans (g0.mono HB.o.size));clear g0 HC;go_wp2_with fail;go_roundw
     case rel=>exact⟨i+1,by omega,by go_num,HB2,HN⟩
     case measure=>simp[intOf];omega
  ·obtain rfl:i=L:=by omega
   have g8:¬ (i:Int)<(i:Int):=by omega
   have HF:Hq (0<=(-1:Int)↔F∈Fs):=Hd ⟨fun h=>by omega,fun h=>by
    obtain⟨q,hq,e⟩:=Wj h;exact absurd e (HQ.o q hq (by rw[HL.o];exact hq))⟩
   clear HS HQ;go_wp2_with fail;go_ret;exact⟨_,rfl,HF.o,HB.o⟩
theorem UK (h:∃ c,F=fun _=>c):topR n F os = -1:=Jf fun v _=>by
 obtain⟨c,rfl⟩:=h
 show (!decide (tabB n (cofF (fun _=>c) v false)=tabB n (cofF (fun _=>c) v true)))=false
 rw[We (show tabB n (cofF (fun _=>c) v false)=tabB n (cofF (fun _=>c) v true) from rfl)];rfl
def TabL (n:Nat)(W:Wd)(u:Value)(Fs:List BF):Prop:=∃ a c,u=.slice a Fs.length c/\(a=none->c=0)/\CY n W a Fs
section
variable {a:Option Addr}
theorem TabL.below (h:TabL n W u Fs)(hb:Bw W W'):TabL n W' u Fs:=by
 obtain⟨a,c,h1,h2,h3⟩:=h;exact⟨a,c,h1,h2,h3.below hb⟩
theorem CY.vals (h:CY n W a Fs):∃ ys:List Value,ys.length=Fs.length/\(∀ j (h:j<ys.length),∃ b off,a=some (Aw b off)/\W.cell? (Aw b (off+j))=some ys[j])/\∀ i (_:i<ys.length) (h2:i<Fs.length),TabA n W (ys[i]) Fs[i]:=by
 have hc:∀ i:Fin Fs.length,∃ v,(∃ b off,a=some (Aw b off)/\W.cell? (Aw b (off+i.1))=some v)/\TabA n W v Fs[i.1]:=fun i=>by
  obtain⟨b,off,v,h1,h2,h3⟩:=h.cells i.1 i.2;exact⟨v,⟨b,off,h1,h2⟩,h3⟩
 refine⟨List.ofFn fun i=>Classical.choose (hc i),by simp,fun j hj=>?_,fun i hi h2=>?_⟩
 . have:=(Xn (hc ⟨j,by simpa using hj⟩)).1;simpa using this
 . have:=(Xn (hc ⟨i,h2⟩)).2;simpa using this
theorem TabL.own {B:Nat}{rs:List Value}(ho:OwnC 90 W B u rs)(h1:rs.length=Fs.length)(hl:Fs.length<=1000)(h3:∀ i (h:i<rs.length) (h2:i<Fs.length),TabA n W rs[i] Fs[i]):TabL n W u Fs:=by
 obtain⟨a,c,e,hn⟩:=ho.slice;refine⟨a,c,by rw[e,h1],hn,hl,fun i hi=>?_⟩;obtain⟨g,c2,e2,_,_⟩:=ho.shape (by omega);rw[e] at e2;injection e2 with e3 _ _
 subst e3;subst e;have g0:=ho.cell i (by omega);refine⟨g,0,rs[i]'(by omega),rfl,?_,h3 i (by omega) hi⟩;rw[VJ,g0];simp
theorem TabA.one (h:TabA n W v F):v.oneCell'=true:=by
 obtain⟨a,c,rfl,_⟩:=h;rfl
end
theorem UL (hn:n<=9)(hlen:os.length=n)(hlt:∀ v∈os,v<n)(hmem:∀ v,v<n->v∈os){co:Nat} :
 ∀ (k p:Nat),p+k=n->∀ (w:Wd) (u x:Value) (Fs:List BF) (F:BF),TabL n w u (Fs.map (AK n))->TabA n w x F->(∀ G∈Fs,DepF n G)->DepF n F->PosF os p F->Fs.length+2^k<=1000->Au w ao (os.map Int.ofNat) ->
  Cl 123 #[.slice ao os.length co,x,u] w fun e w'=>∃ u',e=.returned u'/\TabL n w' u' ((belF n os k Fs F).map (AK n))/\Bw w w':=by
 have stop:∀ (w:Wd) (u x:Value) (Fs:List BF) (F:BF),TabL n w u Fs->TabA n w x F->(∃ c,F=fun _=>c)->Au w ao (os.map Int.ofNat) ->
  Cl 123 #[.slice ao os.length co,x,u] w fun e w'=>∃ u',e=.returned u'/\TabL n w' u' Fs/\Bw w w':=by
  intro w u x Fs F hu hx hc g0
  have HT:Hq (Cl 171 #[.slice ao os.length co,x] w (Bl (Iv (-1)) w)):=Hd (by
   obtain⟨ax,cx,rfl,h1⟩:=hx;have:=NB n F os (by omega) hlt (by omega) ax ao cx co w h1 g0;rw[UK hc] at this;exact this)
  have HU:=Hd hu;clear hu hx hc g0 hlen hlt hmem
  go_enter func123,ntmps123
  go_wp2_with fail;refine HT.o.mono ?_;rintro e w1 ⟨rfl,g1⟩;have HF:=Hd (show TabL n w1 u Fs/\Bw w w1 from ⟨HU.o.below g1,g1⟩);clear g1;go_wp2_with fail;go_ret;exact⟨_,rfl,HF.o⟩
 intro k
 induction k with
 | zero =>
   intro p gB w u x Fs F hu hx ga hd hp hL g0;have hc:=Uj hd (show PosF os n F from (show p=n by omega) ▸ hp) hlen hmem;rw[Fq (.inl hc)];exact stop w u x _ F hu hx hc g0
 | succ k ih =>
   intro p gB w u x Fs F hu hx ga hd hp hL g0;have gA:0<2^k:=WR (by omega);rw[WS] at hL
   by_cases g3:∃ c,F=fun _=>c
   . rw[Fq (.inl g3)];exact stop w u x _ F hu hx g3 g0
   obtain⟨v,gn,gK,g7⟩:=Uk hd hp hlt hmem g3;obtain⟨a,c,rfl,g9,ht⟩:=hu;obtain⟨ys,g2,gx,gm⟩:=ht.vals;rw[<- g2];have h9:ys.length<=999:=by rw[g2,Vw];omega
   obtain⟨r,hr⟩:=Gz (Eb Fs F)
   have HT:Hq (Cl 171 #[.slice ao os.length co,x] w (Bl (Iv (v:Nat)) w)):=Hd (by
    obtain⟨ax,cx,rfl,h1⟩:=hx;have:=NB n F os (by omega) hlt (by omega) ax ao cx co w h1 g0;rw[gn] at this;exact this)
   have HN:Hq (∀ W,Bw w W->Cl 172 #[x] W fun e w'=>∃ v b,e=.returned (.tuple #[v,.bool b])/\TabA n w' v (AK n F)/\Bw W w'):=Hd fun W hb=>UI (by omega) (hx.below hb)
   have HI:Hq (∀ W v,Bw w W->TabA n W v (AK n F)->Cl 173 #[.slice a ys.length c,v] W fun e w'=>∃ z:Int,e=.returned (Iv z)/\(0<=z↔r=true)/\Bw W w'):=Hd fun W v hb hv=>by
    rw[g2]
    refine(UJ (by omega) (ht.below hb) hv (NC hd) (fun G hG=>by
     obtain⟨G',h1,rfl⟩:=Vz.1 hG;exact NC (ga _ h1))).mono ?_
    rintro e w' ⟨z,h1,h2,h3⟩;exact⟨z,h1,h2.trans (UH.trans hr.symm),h3⟩
   cases r with
   | true =>
     rw[Fq (.inr (hr.1 rfl))];have HU:Hq (∀ W,Bw w W->TabL n W (.slice a ys.length c) (Fs.map (AK n))):=Hd fun W hb=>⟨a,c,by rw[g2],g9,ht.below hb⟩
     clear hx ga hd hp g0 hr g2 gx gm ht g9 hL ih gB gA h9 g7 gn gK g3 hlen hlt hmem stop
     go_enter func123,ntmps123
     go_wp2_with fail;refine HT.o.mono ?_;rintro e w1 ⟨rfl,g1⟩;have gf:=Hd (HN.o w1 g1);have g6:=Hd g1;clear g1 HN;go_wp2_with fail;refine gf.o.mono ?_;rintro e w2 ⟨nv,nb,rfl,g5,gc⟩;have HB2:=Hd (g6.o.trans (gc.mono g6.o.size));have gg:=Hd (HI.o w2 nv HB2.o g5);clear gc gf HI g5 g6;go_wp2_with fail;refine gg.o.mono ?_;rintro e w3 ⟨z,rfl,hz,g8⟩;have g4:=Hd (HB2.o.trans (g8.mono HB2.o.size));have gw:0<=z:=hz.2 (by first|rfl|trivial);have hf:z>=0:=gw;have HF:=Hd (HU.o w3 g4.o);clear g8 hz gg HU HB2;go_wp2_with fail;go_ret;exact⟨_,rfl,HF.o,g4.o⟩
   | false =>
     have gO:¬ ((∃ c,F=fun _=>c)\/Eb Fs F):=fun h=>by
      rcases h with h|h
      . exact g3 h
      . have:=hr.2 h;cases this
     rw[Nk gO gn];obtain⟨F0,ge⟩:=Ex (cofF F v false);obtain⟨F1,gd⟩:=Ex (cofF F v true);rw[<- ge,<- gd];have gD:DepF n F0:=by rw[ge];exact(g7 false).2
     have gQ:DepF n F1:=by rw[gd];exact(g7 true).2
     have gi:∀ G∈Fs++[F],DepF n G:=fun G hG=>by
      rcases Vy.1 hG with h1|h1
      . exact ga G h1
      . simp at h1;subst h1;exact hd
     have gC:=G2 n os k (Fs++[F]) F0 gi gD;have gq:=G1 n os k (Fs++[F]) F0;rw[Vr,WW] at gq;have HC:Hq (∀ (b:Bool) W,Bw w W->Cl 174 #[x,Iv (v:Nat),.bool b] W fun y w'=>∃ u,y=.returned u/\TabA n w' u (cofF F v b)/\Bw W w'):=Hd fun b W hb=>by
      obtain⟨ax,cx,rfl,h1⟩:=hx.below hb;refine(NA n F v b (by omega) gK ax cx W h1).mono ?_;rintro y w' ⟨u,h2,h3,h4⟩;exact⟨u,h2,TabA.is (OwnC.boolsIs h3 (by rw[Ch];exact E7 (by omega))),h4⟩
     have h0:Hq (∀ W u' x',Bw w W->TabL n W u' ((Fs++[F]).map (AK n))->TabA n W x' F0->Cl 123 #[.slice ao os.length co,x',u'] W fun e w'=>∃ u'',e=.returned u''/\TabL n w' u'' ((belF n os k (Fs++[F]) F0).map (AK n))/\Bw W w') :=
      Hd fun W u' x' hb h2 h3=>ih (p+1) (by omega) W u' x' (Fs++[F]) F0 h2 h3 gi gD (by rw[ge];exact(g7 false).1) (by rw[Vr,WW];omega) (g0.below hb)
     have gZ:Hq (∀ W u' x',Bw w W->TabL n W u' ((belF n os k (Fs++[F]) F0).map (AK n))->TabA n W x' F1->Cl 123 #[.slice ao os.length co,x',u'] W fun e w'=>∃ u'',e=.returned u''/\TabL n w' u'' ((belF n os k (belF n os k (Fs++[F]) F0) F1).map (AK n))/\Bw W w') :=
      Hd fun W u' x' hb h2 h3=>ih (p+1) (by omega) W u' x' _ F1 h2 h3 gC gQ (by rw[gd];exact(g7 true).1) (by omega) (g0.below hb)
     have HY:Hq (∀ W nv u5 B,Bw w W->TabA n W nv (AK n F)->OwnC 90 W B u5 (ys++[nv])->TabL n W u5 ((Fs++[F]).map (AK n))):=Hd fun W nv u5 B hb hv ho=>by
      refine TabL.own ho (by simp[g2]) (by simp;omega) fun i q1 q2=>?_
      rcases VB i ys.length with h|h
      ·rw[Wp h];have:=(gm i h (by omega)).below hb;have e:((Fs++[F]).map (AK n))[i]=(Fs.map (AK n))[i]'(by omega):=by
        simp only[VK];rw[Wp (by rw[<- g2];exact h)]
       rw[e];exact this
      ·have e:i=ys.length:=by simp at q1;omega
       have e2:i=Fs.length:=by rw[e,g2,Vw]
       rw[W9 (by omega)];have e3:((Fs++[F]).map (AK n))[i]=AK n F:=by subst e2;simp
       rw[e3];simpa using hv
     have gU:Hq (∀ W,Bw w W->∀ j (h:j<ys.length),∃ b off,a=some (Aw b off)/\W.cell? (Aw b (off+j))=some ys[j]):=Hd fun W hb j hj=>by
      obtain⟨b,off,h1,h2⟩:=gx j hj;exact⟨b,off,h1,(Cq hb h2)⟩
     have gI:Hq (∀ y∈ys,y.oneCell'=true):=Hd fun y hy=>by
      obtain⟨i,hi,rfl⟩:=Wj hy;exact(gm i hi (by omega)).one
     have gJ:=Hd g9;have he:=Hd ge;have ha:=Hd gd;clear hx ga hd hp g0 hr g2 gx gm ht g9 hL ih gB gA g7 gn g3 hlen hlt hmem stop gO gD gQ gi gC gq ge gd
     go_enter func123,ntmps123
     go_wp2_with fail;refine HT.o.mono ?_;rintro e w1 ⟨rfl,g1⟩;have gf:=Hd (HN.o w1 g1);have g6:=Hd g1;clear g1 HN HT;go_wp2_with fail;refine gf.o.mono ?_;rintro e w2 ⟨nv,nb,rfl,g5,gc⟩;have HB2:=Hd (g6.o.trans (gc.mono g6.o.size));have gg:=Hd (HI.o w2 nv HB2.o g5);have gY:=Hd g5;obtain⟨an,ln,cn,rfl⟩:∃ a l c,nv=.slice a l c:=by
      obtain⟨a,c,e,_⟩:=g5;exact⟨a,_,c,e⟩
     clear gc gf HI g5 g6;go_wp2_with fail;refine gg.o.mono ?_;rintro e w3 ⟨z,rfl,hz,g8⟩;have g4:=Hd (HB2.o.trans (g8.mono HB2.o.size));have gk:=Hd (gY.o.below g8);have gw:¬ z>=0:=fun h=>by have:=hz.1 h;cases this
     have gG:=Hd (gU.o (w3.alloc (.cells #[] 90)) (g4.o.trans ((Af w3 _).mono g4.o.size)));have gr:=Hd gk.o.one;clear g8 hz gg HB2 gY gU
     go_upto_region 8 with (at_builtin;first
      | (refine BC Iu w4 rfl _ _ rfl w3.heap.size _ ys (.slice an ln cn) rfl rfl rfl rfl gr.o gH.o (by omega) gj ?_;intro u5 w5 go e1 e2 e3 e4 gP)
      | (refine MS Iu rfl _ _ rfl w3.heap.size w3 _ [] ys a c rfl rfl (Cv 90 w3 w3.heap.size (Vo _)) gG.o gI.o (by simp;omega) (Af w3 _).size (Af w3 _) gJ.o ?_;intro v4 w4 gp gT gN h8;have gH:=Hd (show OwnC 90 w4 w3.heap.size v4 ys from gp);have h7:=Hd gT;have gj:=gN;clear gp gT gN h8))
     have gl:=Hd (CA h7.o gH.o e1 e2 e3 e4 gP gj);have gh:=Hd (g4.o.trans (gl.o.mono g4.o.size));have gX:=Hd (HY.o w5 (.slice an ln cn) u5 _ gh.o (gk.o.below gl.o) go);have h6:=Hd (HC.o false w5 gh.o);clear go e1 e2 e3 e4 gP gj h7 gH gl HY gr gI gJ gG gk gw g4;go_wp2_with fail;refine h6.o.mono ?_;rintro y w6 ⟨x6,rfl,gz,gF⟩;have gv:=Hd (gh.o.trans (gF.mono gh.o.size));rw[<- he.o] at gz;have HR:=Hd (h0.o w6 u5 x6 gv.o (gX.o.below gF) gz);clear gz gF h6 h0 gh gX;go_wp2_with fail;refine HR.o.mono ?_;rintro y w7 ⟨u7,rfl,gM,gS⟩;have gu:=Hd (gv.o.trans (gS.mono gv.o.size));have gV:=Hd gM;have h5:=Hd (HC.o true w7 gu.o);clear gM gS HR gv HC;go_wp2_with fail;refine h5.o.mono ?_;rintro y w8 ⟨x8,rfl,gy,gE⟩;have gt:=Hd (gu.o.trans (gE.mono gu.o.size));rw[<- ha.o] at gy;have HR:=Hd (gZ.o w8 u7 x8 gt.o (gV.o.below gE) gy);clear gy gE h5 gZ gu gV;go_wp2_with fail;refine HR.o.mono ?_;rintro y w9 ⟨u9,rfl,gL,gR⟩;have HF:=Hd (show TabL n w9 u9 _/\Bw w w9 from ⟨gL,gt.o.trans (gR.mono gt.o.size)⟩);clear gL gR HR gt;go_wp2_with fail;go_ret;exact⟨_,rfl,HF.o⟩
theorem UM (hn:n<=9)(hlen:os.length=n)(hlt:∀ v∈os,v<n)(hmem:∀ v,v<n->v∈os){fa:Option Addr}{co fc:Nat}{Gs:List BF}(hfs:CY n w fa Gs)(hd:∀ G∈Gs,DepF n G)(hos:Au w ao (os.map Int.ofNat))(hL:Gs.length*2^n+2^n<=1000) :
 Cl 26 #[.slice fa Gs.length fc,.slice ao os.length co] w (Bl (Iv ((nodesF n os Gs).length:Nat)) w):=by
 have g3:Hq (Cl 70 #[.slice fa Gs.length fc,.slice ao os.length co] w fun e w'=>∃ u,e=.returned u/\TabL n w' u ((nodesF n os Gs).map (AK n))/\Bw w w'):=Hd (by
  have g1:Hq (TabL n (w.alloc (.cells #[] 90)) (.slice (some (Av w.heap.size)) 0 0) ((nodesF n os (Gs.take 0)).map (AK n))):=Hd ⟨some (Av w.heap.size),0,by simp[nodesF],(fun e=>by cases e),by simp[nodesF],fun i hi=>by simp[nodesF] at hi⟩;have g8:Hq (∀ W u x i,(hi:i<Gs.length)->Bw w W->TabL n W u ((nodesF n os (Gs.take i)).map (AK n))->TabA n w x Gs[i]->Cl 123 #[.slice ao os.length co,x,u] W fun e w'=>∃ u',e=.returned u'/\TabL n w' u' ((nodesF n os (Gs.take (i+1))).map (AK n))/\Bw w w'):=Hd fun W u x i hi hb hu hx=>by
   have h1:=J0 (n:=n) (os:=os) (Gs:=Gs) i (by omega);have h2:i*2^n<=Gs.length*2^n:=Wn _ (by omega);refine(UL hn hlen hlt hmem (co:=co) n 0 (by omega) W u x _ _ hu (hx.below hb) (N8 hd i (by omega)) (hd _ (Vv _)) (fun j hj=>by omega) (by omega) (hos.below hb)).mono ?_;rintro e w' ⟨u',rfl,h3,h4⟩;rw[Jz hi];exact⟨u',rfl,h3,hb.trans (h4.mono hb.size)⟩
  have HH:=Hd hfs;have g4:=hfs.len;obtain⟨L,g0⟩:=Ex Gs.length;have HL:=Hd g0;have g6:Hq (nodesF n os (Gs.take L)=nodesF n os Gs):=Hd (by rw[g0,VI]);rw[<- g0] at g4 ⊢;clear hfs hd hos hL hlen hlt hmem g0
  go_enter func70,ntmps70
  go_wp2_with fail
  go_loopw [5,6] (fun s5 s6 wr=>∃ (i:Nat) (u:Value),i<=L/\s6=Iv i/\s5=u/\Hq (TabL n wr u ((nodesF n os (Gs.take i)).map (AK n)))/\Hq (Bw w wr)) (fun _ s6 _=>L-(intOf s6).toNat)
  case atStart=>exact⟨0,_,Vu _,rfl,rfl,g1,Hd (Af w _)⟩
  case round =>
   obtain⟨i,u,hi,rfl,rfl,HR,HB⟩:=hrel
   by_cases hlt:i<L
   ·have g2:i<Gs.length:=by rw[<- HL.o];exact hlt
    obtain⟨b1,of1,v,rfl,c1,ht⟩:=HH.o.cells i g2;have g5:(i:Int)<(L:Int):=by omega
    have HC:=Hd (g8.o wr _ v i g2 HB.o HR.o ht);have c2:=Cq HB.o c1;clear ht c1 HR HB g1;go_wp2_with fail;refine HC.o.mono ?_;rintro e w2 ⟨u',rfl,h3,h4⟩;have g7:=Hd h3;have HB2:=Hd h4;clear h3 h4 HC c2;go_wp2_with fail;go_roundw
    case rel=>exact⟨i+1,_,by omega,by go_num,rfl,g7,HB2⟩
    case measure=>simp[intOf];omega
   ·obtain rfl:i=L:=by omega
    have g5:¬ (i:Int)<(i:Int):=by omega
    have HF:Hq (TabL n wr u5 ((nodesF n os Gs).map (AK n))):=Hd (by rw[<- g6.o];exact HR.o);clear HR g1;go_wp2_with fail;go_ret;exact⟨_,rfl,HF.o,HB.o⟩)
 obtain⟨N,hN⟩:=Ex ((nodesF n os Gs).length);have HN:=Hd hN;rw[<- hN];clear hfs hd hos hL hlen hlt hmem hN
 go_enter func26,ntmps26
 go_wp2_with fail;refine g3.o.mono ?_;rintro e w1 ⟨u,rfl,hu,hb⟩;obtain⟨a,c,e,-,-⟩:=hu;rw[Vw,<- HN.o] at e;subst e;have HB:=Hd hb;clear hb g3;go_wp2_with fail;go_ret;exact⟨rfl,HB.o⟩
section
theorem UN (i n:Nat)(hi:i<=1048576)(hn:n<=16)(w:Wd):Cl 126 #[.int .u64 i,Iv n] w fun x w'=>∃ v,x=.returned v/\OwnB w' w.heap.size v (AO i n)/\Bw w w':=by
 have HH:Hq (∀ W,Cl 176 #[Iv (n:Nat),Iv 0,Iv 64] W (Sm (Iv (n:Nat)) W)):=Hd fun W=>QL n (by omega) W
 go_enter func126,ntmps126
 go_wp2_with fail
 go_loopw [0,5,6] (fun s0 s5 s6 wr=>∃ j q:Nat,j<=n/\q<=1048576/\s6=Iv j/\s0=.int .u64 q/\Hq (i/2^j=q)/\OwnB wr w.heap.size s5 (AO i j)/\w.heap.size<=wr.heap.size/\Bw w wr) (fun _ _ s6 _=>n-(intOf s6).toNat)
 case atStart=>exact⟨0,i,Vu _,hi,rfl,rfl,Hd (by simp),Cv _ w _ (Vo _),by simp,Af w _⟩
 case round =>
  obtain⟨j,q,hj,hq,rfl,rfl,HQ,g0,g5,g1⟩:=hrel
  by_cases g7:j<n
  ·have HB:Hq (((q:Int).tmod 2 == 1)=bitB i j):=by
    refine Hd ?_
    show ((q:Int).tmod 2 == 1)=bitB i j
    unfold bitB;rw[HQ.o];have e1:Int.tmod (q:Int) 2=((q%2:Nat):Int):=by rw[Xw (by omega)];rfl
    rw[e1]
    by_cases h:q%2=1
    . rw[h];rfl
    ·have:((q%2:Nat):Int)≠1:=by omega
     rw[Xq.2 this,VU h]
   have g2:=Hd g0;have g3:=Hd g1;clear g0 g1;go_wp2_with fail;refine(HH.o _).mono ?_;rintro x w2 ⟨rfl,rfl⟩;go_wp2_with (at_builtin;refine BC CK _ rfl _ _ rfl w.heap.size _ (A8 (AO i j)) _ rfl rfl rfl rfl rfl (by exact g2.o) (by simp[A8,Ge];omega) g5 ?_;intro v1 w1 g4 e1 e2 e3 e4 g6);go_roundw
   case rel =>
    refine⟨j+1,q/2,by omega,by omega,by go_num,rfl,Hd ?_,?_,by omega,CA g3.o g2.o e1 e2 e3 e4 g6 g5⟩
    . rw[WS,<- Xt,HQ.o]
    ·rw[Li];have e5:A8 (AO i j++[bitB i j])=A8 (AO i j)++[.bool (bitB i j)]:=by simp[A8]
     unfold OwnB;rw[e5,<- HB.o];exact g4
   case measure=>simp[intOf];omega
  ·have he:j=n:=by omega
   subst he;have g2:=Hd g0;have g3:=Hd g1;clear g0 g1;go_wp2_with fail;refine(HH.o _).mono ?_;rintro x w2 ⟨rfl,rfl⟩;go_wp2_with fail;go_ret;exact⟨_,rfl,g2.o,g3.o⟩
end
section
variable {o:Own}
theorem UO (h:SatE K n Od room w0 mb fs nx w o m V)(hn:n<=16){k:Int}(hk:(k,F)∈fs)(hbs:BQ w v bs) :
 Cl 72 #[Pt mb,Iv k,v] w fun x w'=>∃ b,x=.returned (.bool b)/\(b=true↔bs=tabB n F)/\Bw w w':=by
 have HV:=Hd h.vars_any;have HC:=Hd (QK false n hn w);have gl:Hq (∀ W,Bw w W->∀ u cs,BQ W u cs->Cl 125 #[Pt mb,Iv k,u] W (Bl (.tuple #[.bool (F (AF cs)),Iv 0]) W)) :=
  Hd fun W hb u cs hu=>(h.below hb).eval hk hu
 have gk:Hq (∀ i,i<=1048576->∀ W,Cl 126 #[.int .u64 (i:Nat),Iv n] W fun x w'=>∃ v,x=.returned v/\OwnB w' W.heap.size v (AO i n)/\Bw W w'):=Hd fun i hi W=>UN i n hi hn W
 obtain⟨a,c,rfl,gd,gh⟩:=hbs;have gm:=Hd gd;have gp:=gd.len;have hp:=EY (show n<=20 by omega);obtain⟨L,hL⟩:=Ex (2^n);have HL:=Hd hL;rw[<- hL] at hp HC;clear h hL gd gh
 go_enter func72,ntmps72
 go_wp2_with fail;refine HV.o.mono ?_;rintro x w' ⟨rfl,rfl⟩;go_wp2_with fail;refine HC.o.mono ?_;rintro x w1 ⟨g,rfl,_,g5⟩
 by_cases g1:bs.length=L
 ·have gi:((bs.length:Int) != (L:Int))=false:=by rw[g1];simp
  have gf:=Hd g5;clear g5 HC HV;go_wp2_with fail
  go_loopw [8,21] (fun s8 s21 wr=>∃ j:Nat,j<=L/\s21=Iv j/\Bw w wr/\Hq (∀ q,q<j->bs.getD q false=F (AF (AO q n)))) (fun _ s21 _=>L-(intOf s21).toNat)
  case atStart=>exact⟨0,Vu _,rfl,gf.o,Hd fun q hq=>by omega⟩
  case round =>
   obtain⟨j,hj,rfl,g2,HQ⟩:=hrel
   by_cases gj:j<L
   ·have g0:=Hd g2;clear g2;have go:=Rp j (by omega);have gn:(j:Int)<bs.length:=by omega
    obtain⟨b1,of1,rfl,c1⟩:=(gm.o.below g0.o).cells j (by omega);go_wp2_with fail;refine(gk.o j (by omega) _).mono ?_;rintro x w3 ⟨u,rfl,g9,gc⟩;have ge:=Hd gc;have c3:=Cq gc c1;have HU:=Hd (g9.boolsIs (by rw[Ge];omega));clear g9 gc c1;go_wp2_with fail;refine(gl.o _ (g0.o.trans (ge.o.mono g0.o.size)) _ _ HU.o).mono ?_;rintro x w4 ⟨rfl,ga⟩;have c4:=Cq ga c3;have g7:=Hd (g0.o.trans ((ge.o.trans (ga.mono ge.o.size)).mono g0.o.size));clear ga c3;obtain⟨y1,g4⟩:∃ y,y=bs.getD j false:=⟨_,rfl⟩;obtain⟨y2,g3⟩:∃ y,y=F (AF (AO j n)):=⟨_,rfl⟩;rw[<- g4] at c4;rw[<- g3];have gg:Hq (y2=y1->∀ q,q<j+1->bs.getD q false=F (AF (AO q n))):=Hd fun g8 q hq=>by
     rcases VB q j with h|h
     . exact HQ.o q h
     ·obtain rfl:q=j:=by omega
      rw[<- g4,<- g3,g8]
    have g6:Hq (y2≠y1->bs≠tabB n F):=Hd fun g8 e=>g8 (by rw[g4,g3,e,EX (by rw[<- HL.o];exact gj)])
    clear g4 g3;cases y1<;>cases y2
    ·go_wp2_with fail;go_roundw
     case rel=>exact⟨j+1,by omega,by go_num,g7.o,Hd (gg.o (by simp))⟩
     case measure=>simp[intOf];omega
    . go_wp2_with fail;go_ret;exact⟨false,rfl,by simpa using g6.o (by simp),g7.o⟩
    . go_wp2_with fail;go_ret;exact⟨false,rfl,by simpa using g6.o (by simp),g7.o⟩
    ·go_wp2_with fail;go_roundw
     case rel=>exact⟨j+1,by omega,by go_num,g7.o,Hd (gg.o (by simp))⟩
     case measure=>simp[intOf];omega
   ·have he:j=L:=by omega
    have g0:=Hd g2;have HE:Hq (bs=tabB n F):=Hd (QH (by rw[g1,HL.o]) (fun i hi=>HQ.o i (by rw[he,HL.o];exact hi)));clear g2;go_wp2_with fail;go_ret;exact⟨true,rfl,by simpa using HE.o,g0.o⟩
 ·have gi:((bs.length:Int) != (L:Int))=true:=by simp;omega
  have gf:=Hd g5;have g6:Hq (bs≠tabB n F):=Hd fun e=>g1 (by rw[e,Ch,HL.o])
  clear g5 HC HV g1;go_wp2_with fail;go_ret;exact⟨false,rfl,by simpa using g6.o,gf.o⟩
end
section
variable {o:Own}
theorem UP (h:SatE K n Od room w0 mb fs nx w o m V)(hn:n<=16){P:Nat->Prop}(hr:LawR P n fs w vl vx hs) :
 Cl 28 #[Pt mb,vl,vx] w (Bl (.bool true) w):=by
 obtain⟨al,cl,rfl,hl⟩:=hr.l;obtain⟨ax,cx,rfl,hx⟩:=hr.x;have HL:=Hd hl;have HX:=Hd hx;have ga:=hr.small;have g8:Hq (∀ W,Bw w W->∀ j v,∀ hj:j<hs.length,BQ W v (tabB n hs[j].2)->Cl 72 #[Pt mb,Iv hs[j].1,v] W (Bl (.bool true) W)):=by
  refine Hd fun W hb j v hj hv=>(UO (h.below hb) hn (hr.sub _ (Vv hj)) hv).mono ?_
  rintro x w' ⟨b,rfl,g6,g5⟩;rw[g6.2 rfl];exact⟨rfl,g5⟩
 clear h hr hl hx
 go_enter func28,ntmps28
 go_wp2_with fail
 go_loopw [7,10] (fun s7 s10 wr=>∃ j:Nat,j<=hs.length/\s10=Iv j/\Bw w wr) (fun _ s10 _=>hs.length-(intOf s10).toNat)
 case atStart=>exact⟨0,Vu _,rfl,VA _ _⟩
 case round =>
  obtain⟨j,hj,rfl,g1⟩:=hrel
  by_cases g2:j<hs.length
  ·obtain⟨b1,of1,rfl,c1⟩:=(HL.o.below g1).cells j (by simpa using g2);obtain⟨b2,of2,v2,rfl,c2,g3,_⟩:=(HX.o.below g1).cells j (by simpa using g2);have e1:at0 (hs.map Prod.fst) j=hs[j].1:=by rw[Az (by simpa using g2)];simp
   have e2:(hs.map fun p=>tabB n p.2).getD j []=tabB n hs[j].2:=by simp[List.getD,g2]
   rw[e1] at c1;rw[e2] at g3;have g7:=Hd g3;have g0:=Hd g1;obtain⟨k1,g4⟩:=Ex (hs[j].1);have HI:Hq (∀ W,Bw w W->∀ v,BQ W v (tabB n hs[j].2)->Cl 72 #[Pt mb,Iv k1,v] W (Bl (.bool true) W)):=by
    rw[g4];exact Hd fun W hb v hv=>g8.o W hb j v g2 hv
   rw[<- g4] at c1;clear g3 g1 e1 e2 g4;have gc:(j:Int)<(hs.length:Int):=by omega
   go_upto_region 4 with fail;refine AD (fun W:Wd=>W.cell? (Aw b1 (of1+j))=some (Iv k1)/\W.cell? (Aw b2 (of2+j))=some v2/\Hq (Bw w W)) false 11 [(0,false),(1,false),(2,false),(3,false),(4,false),(5,false),(6,false),(7,false),(8,false),(9,true),(10,false)] (by kernel_rfl) (by kernel_rfl) ⟨c1,c2,Hd (g0.o.trans ((An wr 1).mono g0.o.size))⟩ ?_;simp only[planned,AC]
   iterate 9
    refine As rfl ?_;apply Exists.intro;refine⟨fun w' hw=>?_,?_⟩
    . obtain⟨h1,h2,_⟩:=hw;go_simp;rfl
    simp only[Ac]
   refine F8 (v:=.bool true) rfl (by go_simp) ((HI.o wr.drew (g0.o.trans ((An wr 1).mono g0.o.size)) v2 (g7.o.below (An wr 1))).mono ?_) ?_
   . rintro x w' ⟨rfl,hb⟩;exact⟨rfl,(hb.cell (p:=(Aw b1 (of1+j))) (Ah (w:=wr.drew) c1)).trans c1,(hb.cell (p:=(Aw b2 (of2+j))) (Ah (w:=wr.drew) c2)).trans c2,Hd (g0.o.trans (((An wr 1).trans (hb.mono (An wr 1).size)).mono g0.o.size))⟩
   rintro w' ⟨_,_,g9⟩;simp only[Ac]
   iterate 1
    refine As rfl ?_;apply Exists.intro;refine⟨fun w' hw=>?_,?_⟩
    . obtain⟨h1,h2,_⟩:=hw;go_simp;rfl
    simp only[Ac]
   refine Bs ?_;clear g0 c1 c2;go_wp2_with fail;go_roundw
   case rel=>exact⟨j+1,by omega,by go_num,g9.o⟩
   case measure=>simp[intOf];omega
  . have g0:=Hd g1;clear g1;go_wp2_with fail;go_ret;exact⟨rfl,g0.o⟩
end
theorem NE (hf:f<zs.length)(ht:t<zs.length):(Cw zs (f:Int) (t:Int)).Perm zs:=by
 rw[<- KK hf ht];have h1:zs.take f++at0 zs f::zs.drop (f+1)=zs:=by
  rw[Az hf,<- VT hf,Wy]
 obtain⟨m,hm⟩:=Ex (zs.take f++zs.drop (f+1));obtain⟨x,hx⟩:=Ex (at0 zs f);rw[<- hm,<- hx];rw[<- hx] at h1;have h2:(m.take t++[x]++m.drop t).Perm (x::m):=by
  have e:m.take t++[x]++m.drop t=m.take t++x::m.drop t:=by rw[VC];rfl
  rw[e];refine List.perm_middle.trans ?_;rw[Wy]
 refine h2.trans ?_;rw[hm];refine(List.perm_middle (l₁:=zs.take f) (l₂:=zs.drop (f+1)) (a:=x)).symm.trans ?_;rw[h1]
def BZ (pl:List Nat)(f t:Nat):List Nat:=(Cw (pl.map Int.ofNat) (f:Int) (t:Int)).map Int.toNat
section
variable {lev:Int->Nat}{pl':List Nat}
theorem UQ (hf:f<pl.length)(ht:t<pl.length):(BZ pl f t).map Int.ofNat=Cw (pl.map Int.ofNat) (f:Int) (t:Int):=by
 unfold BZ;rw[Xe];refine(X6 fun z hz=>?_).trans (List.map_id _);have g0:=(NE (zs:=pl.map Int.ofNat) (by simpa using hf) (by simpa using ht)).mem_iff.1 hz;obtain⟨k,_,rfl⟩:=Vz.1 g0;rfl
theorem NF (hf:f<pl.length)(ht:t<pl.length):(BZ pl f t).Perm pl:=by
 have h:=(NE (zs:=pl.map Int.ofNat) (by simpa using hf) (by simpa using ht)).map Int.toNat;rw[Xe] at h;have e:pl.map (Int.toNat ∘ Int.ofNat)=pl:=(X6 fun z hz=>rfl).trans (List.map_id _);rw[e] at h;exact h
theorem UR (hf:f<pl.length):BZ pl f f=pl:=by
 unfold BZ;rw[Qb (by simpa using hf),Xe];exact(X6 fun z hz=>rfl).trans (List.map_id _)
theorem J1 (hw:Cn gs n)(h:Placed gs lev pl)(hp:pl'.Perm pl):Placed gs (levZ (gather gs pl')) pl':=by
 have hm:∀ i,i∈pl'↔i<gs.length/\grp gs i≠[]:=fun i=>hp.mem_iff.trans (h.mem i)
 have g3:pl'.Nodup:=hp.nodup_iff.2 h.nodup;refine Qy (lev:=fun v=>pl'.findIdx fun i=>decide (v∈grp gs i)) hw ⟨hm,VV.2 fun i j hi hj g4=>?_⟩;have key:∀ k (hk:k<pl'.length),(pl'.findIdx fun i=>decide ((grp gs pl'[k]).headD 0∈grp gs i))=k:=fun k hk=>by
  obtain⟨h1,h2⟩:=(hm _).1 (Vv hk);have g1:(grp gs pl'[k]).headD 0∈grp gs pl'[k]:=by
   cases hg:grp gs pl'[k] with
   | nil=>exact(h2 hg).elim
   | cons a r=>simp
  rw[List.findIdx_eq hk];refine⟨by simpa using g1,fun j hj=>?_⟩;rw[XX];intro g2;have g0:j<pl'.length:=by omega
  have e:=FT hw.ap ((hm _).1 (Vv g0)).1 h1 g2 g1;have:=(VV.1 g3) j k g0 hk hj;exact this e
 rw[key i hi,key j hj];exact g4
end
def BxN (b:Nat)(v:Value)(t:TypeId)(W:Wd)(o:Own):Prop:=W.heap[b]?=some (.cells #[v] t (0,0))/\o b=none
section
variable {b b':Nat}{t t':TypeId}{o:Own}
theorem BxN.keep:AR (BxN b v t):=fun W o W' o' h hc=>by
 have hl:=(Vm.1 h.1).1;exact⟨(hc.block b hl h.2 (fun e=>e)).trans h.1,hc.none' hl h.2⟩
theorem BxN.cell (h:BxN b v t W o):W.cell? (Av b)=some v:=cell1 h.1
end
section
variable {r:List (Int×BF)}{P:List Nat->Prop}
theorem FxO.box (hB:AR B)(h:FxO K n room w0 mb ws0 C o0 wb B P fs nx W)(v:Value)(t:TypeId):FxO K n room w0 mb ws0 C o0 wb (fun W' o=>B W' o/\BxN W.heap.size v t W' o) P fs nx (W.alloc (.cells #[v] t)):=by
 obtain⟨o,m,V,h1,h2,h3,h4⟩:=h;have hb:=Af W (.cells #[v] t);have hc:=ChgX.of_below hb o NoB;exact⟨o,m,V,h1.trans hc NoB.sub,h2,h3.below hb,hB _ _ _ _ h4 hc,Vq _ _,h3.lt.none (Vo _)⟩
end
end Go.Proofs.YtkidaindpahefaaGreat
