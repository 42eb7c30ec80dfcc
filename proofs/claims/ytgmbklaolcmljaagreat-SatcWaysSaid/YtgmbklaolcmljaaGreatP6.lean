/- Several texts in one file: contracts of the program's functions and what follows from them. -/
import Derived.Test.YtgmbklaolcmljaaGreatP5
import Derived.Deep.CutBlock
set_option linter.unusedSimpArgs false
set_option linter.unusedVariables false
set_option linter.unusedSectionVars false
set_option linter.unnecessarySimpa false
set_option maxRecDepth 100000
set_option maxHeartbeats 8000000
namespace Go.Proofs.YtgmbklaolcmljaaGreat
open Go.Proofs.Tryz
open Go.RowKit
def cntT:Nat->(Nat->Bool)->Nat
 | 0,_=>0
 | k+1,f=>cntT k f+(if f k then 1 else 0)
theorem Zfd (k:Nat)(f:Nat->Bool):cntT (k+1) f=cntT k f+(if f k then 1 else 0):=rfl
theorem Zww (f:Nat->Bool):∀ k,cntT k f<=k
 | 0=>Nat.le_refl _
 | k+1=>by
   have:=Zww f k;rw[Zfd];split<;>omega
def opB (op:Int)(n:Nat)(f:Nat->Bool):Bool :=
 if op=1 then true else if op=4 then decide (cntT n f=0) else if op=5 then decide (cntT n f=n) else if op=6 then decide (0<cntT n f) else if op=7 then decide (cntT n f%2=1)
 else if op=8 then (!f 0||f 1) else if op=9 then decide (cntT n f≠1) else if op=10 then iteB (f 0) (f 1) (f 2) else false
def fnT:ExT->BF
 | .nil=>fun _=>false
 | .mk op v n kid=>fun ρ=>if op=3 then ρ v.toNat else opB op n fun i=>fnT (kid i) ρ
def notF (F:BF):BF:=fun ρ => !F ρ
def Zp1 (op:Int)(F G:BF):BF :=
 if op=5 then Zeo F G (fun _=>false) else if op=6 then Zeo F (fun _=>true) G else if op=8 then Zeo F G (fun _=>true) else if op=7 then Zeo F (notF G) G else Zeo F G (notF G)
def accT (op:Int)(kid:Nat->ExT):Nat->BF
 | 0=>fun _=>decide (op=5)
 | k+1=>Zp1 op (accT op kid k) (fnT (kid k))
theorem Ybw (kid:Nat->ExT)(ρ:Nat->Bool):∀ k,accT 5 kid k ρ=decide (cntT k (fun i=>fnT (kid i) ρ)=k)
 | 0=>rfl
 | k+1=>by
   have h1:accT 5 kid (k+1) ρ=iteB (accT 5 kid k ρ) (fnT (kid k) ρ) false:=rfl;have h2:=Zww (fun i=>fnT (kid i) ρ) k;rw[h1,Ybw kid ρ k,Zfd];unfold iteB;cases hf:fnT (kid k) ρ
   ·have:(cntT k fun i=>fnT (kid i) ρ)+0≠k+1:=by omega
    simp only[Bool.false_eq_true,if_false,decide_eq_false this];split<;>rfl
   . simp
theorem Ybx (kid:Nat->ExT)(ρ:Nat->Bool):∀ k,accT 6 kid k ρ=decide (0<cntT k (fun i=>fnT (kid i) ρ))
 | 0=>rfl
 | k+1=>by
   have h1:accT 6 kid (k+1) ρ=iteB (accT 6 kid k ρ) true (fnT (kid k) ρ):=rfl;rw[h1,Ybx kid ρ k,Zfd];unfold iteB;cases hf:fnT (kid k) ρ<;>simp
theorem Yby (kid:Nat->ExT)(ρ:Nat->Bool):∀ k,accT 7 kid k ρ=decide (cntT k (fun i=>fnT (kid i) ρ)%2=1)
 | 0=>rfl
 | k+1=>by
   have h1:accT 7 kid (k+1) ρ=iteB (accT 7 kid k ρ) (!(fnT (kid k) ρ)) (fnT (kid k) ρ):=rfl;rw[h1,Yby kid ρ k,Zfd];unfold iteB;rcases Nat.mod_two_eq_zero_or_one (cntT k fun i=>fnT (kid i) ρ) with e|e
   . cases hf:fnT (kid k) ρ<;>simp[e]<;>omega
   . cases hf:fnT (kid k) ρ<;>simp[e]<;>omega
theorem Ydd {op:Int}(h:op=5\/op=6\/op=7)(v:Int)(n:Nat)(kid:Nat->ExT):fnT (.mk op v n kid)=accT op kid n:=by
 funext ρ;rcases h with rfl|rfl|rfl
 . rw[Ybw];rfl
 . rw[Ybx];rfl
 . rw[Yby];rfl
theorem Zss (f:Nat->Bool):cntT 1 f=if f 0 then 1 else 0:=by rw[Zfd];exact Nat.zero_add _
theorem Zzx (f:Nat->Bool):cntT 2 f=(if f 0 then 1 else 0)+(if f 1 then 1 else 0):=by rw[Zfd,Zss]
theorem Ydf (v:Int)(kid:Nat->ExT):fnT (.mk 4 v 1 kid)=notF (fnT (kid 0)):=by
 funext ρ
 show decide (cntT 1 (fun i=>fnT (kid i) ρ)=0) = !(fnT (kid 0) ρ)
 rw[Bool.eq_iff_iff,decide_eq_true_iff,Zss];cases fnT (kid 0) ρ<;>simp
theorem Yde (v:Int)(kid:Nat->ExT):fnT (.mk 10 v 3 kid)=Zeo (fnT (kid 0)) (fnT (kid 1)) (fnT (kid 2)):=rfl
theorem Zz5 {op:Int}(h:op=8\/op=9)(v:Int)(kid:Nat->ExT):fnT (.mk op v 2 kid)=Zp1 op (fnT (kid 0)) (fnT (kid 1)):=by
 funext ρ;rcases h with rfl|rfl
 ·show (!fnT (kid 0) ρ||fnT (kid 1) ρ)=iteB (fnT (kid 0) ρ) (fnT (kid 1) ρ) true
  unfold iteB;cases fnT (kid 0) ρ<;>simp
 ·show decide (cntT 2 (fun i=>fnT (kid i) ρ)≠1)=iteB (fnT (kid 0) ρ) (fnT (kid 1) ρ) (!fnT (kid 1) ρ)
  rw[Bool.eq_iff_iff,decide_eq_true_iff,Zzx];unfold iteB;cases fnT (kid 0) ρ<;>cases fnT (kid 1) ρ<;>simp
theorem Zpr {op:Int}(h:op=1\/op=2)(v:Int)(n:Nat)(kid:Nat->ExT):fnT (.mk op v n kid)=fun _=>decide (op=1):=by
 rcases h with rfl|rfl<;>rfl
theorem Ydg (v:Nat)(n:Nat)(kid:Nat->ExT):fnT (.mk 3 v n kid)=varF v:=by
 funext ρ;rfl
def DepF (n:Nat)(F:BF):Prop:=∀ ρ ρ':Nat->Bool,(∀ i,i<n->ρ i=ρ' i)->F ρ=F ρ'
theorem Zqb {f:Nat->List Int}{i:Nat}{x:Int}:∀ {n:Nat},i<n->x∈f i->x∈Zhk n f
 | 0,h,_=>by omega
 | k+1,h,hx=>by
   unfold Zhk;rcases Nat.lt_or_ge i k with h'|h'
   . exact List.mem_append_left _ (Zqb h' hx)
   ·obtain rfl:i=k:=by omega
    exact List.mem_append_right _ hx
theorem Yct (n:Nat)(ρ:Nat->Bool):∃ i,i<2^n/\∀ v,v<n->bitB i v=ρ v:=by
 induction n with
 | zero=>exact⟨0,by simp,fun v hv=>by omega⟩
 | succ n ih =>
   obtain⟨i,hi,hb⟩:=ih;have hp:0<2^n:=Nat.pow_pos (by omega);refine⟨i+(if ρ n then 2^n else 0),by rw[Nat.pow_succ];split<;>omega,fun v hv=>?_⟩;rcases Nat.lt_or_ge v n with h|h
   ·rw[<- hb v h];unfold bitB;split
    ·obtain⟨k,rfl⟩:∃ k,n=v+(k+1):=⟨n-v-1,by omega⟩;have e1:(2:Nat)^(v+(k+1))=2^v*(2*2^k):=by rw[Nat.pow_add,Nat.pow_succ];ac_rfl
     rw[e1,Nat.add_mul_div_left _ _ (Nat.pow_pos (by omega)),Nat.add_mul_mod_self_left]
    . rw[Nat.add_zero]
   ·obtain rfl:v=n:=by omega
    unfold bitB;cases hr:ρ v with
    | true =>
      rw[if_pos rfl,Nat.add_div_right _ hp,Nat.div_eq_of_lt hi];rfl
    | false =>
      rw[if_neg (by simp),Nat.add_zero,Nat.div_eq_of_lt hi];rfl
theorem Zy5 {n:Nat}{F G:BF}(hF:DepF n F)(hG:DepF n G)(h:tabB n F=tabB n G):F=G:=by
 funext ρ;obtain⟨i,hi,hb⟩:=Yct n ρ;have e:∀ v,v<n->ρ v=Zdc (Zdb i n) v:=fun v hv=>by rw[Zut,hb v hv];simp[hv]
 rw[hF ρ _ e,hG ρ _ e,<- Zot (F:=F) hi,<- Zot (F:=G) hi,h]
open Go.RowKit
theorem Zsi {n:Nat}{f:Nat->Nat}(h1:∀ i,i<n->f i<n)(h2:∀ i j,i<n->j<n->f i=f j->i=j){j:Nat}(hj:j<n):∃ i,i<n/\f i=j:=by
 by_cases h:∃ i,i<n/\f i=j
 . exact h
 exfalso;have g0:∀ i,i<n->f i≠j:=fun i hi e=>h ⟨i,hi,e⟩
 have g1:(j::(List.range n).map f).Nodup:=by
  refine List.nodup_cons.2 ⟨?_,?_⟩
  . intro hm;obtain⟨i,hi,e⟩:=List.mem_map.1 hm;exact g0 i (List.mem_range.1 hi) e
  . refine List.pairwise_map.2 (List.nodup_range.imp_of_mem ?_);intro a b ha hb g2 e;exact g2 (h2 a b (List.mem_range.1 ha) (List.mem_range.1 hb) e)
 have:=Zg9 n _ g1 (fun x hx=>by
  rcases List.mem_cons.1 hx with rfl|hx
  . exact hj
  . obtain⟨i,hi,rfl⟩:=List.mem_map.1 hx;exact h1 i (List.mem_range.1 hi))
 simp at this;omega
theorem Ycw {zs:List Int}{v:Int}{p:Nat}(h:at0 zs p=v)(hu:∀ i,i<zs.length->at0 zs i=v->i=p):∀ k,k<=zs.length->cntP zs v k=if p<k then 1 else 0
 | 0,_=>by simp[cntP]
 | k+1,hk=>by
   have ih:=Ycw h hu k (by omega)
   by_cases e:at0 zs k=v
   . have:=hu k (by omega) e;subst this;rw[Zfp (by omega) e,ih];simp
   ·rw[Zrk (by omega) e,ih];have:p≠k:=fun e2=>e (by rw[<- e2];exact h)
    by_cases h3:p<k
    . rw[if_pos h3,if_pos (by omega)]
    . rw[if_neg h3,if_neg (by omega)]
theorem Zgb {zs:List Int}{v:Int}{i:Nat}:∀ {j:Nat},i<=j->j<=zs.length->cntP zs v i<=cntP zs v j
 | 0,h,_=>by
   obtain rfl:i=0:=by omega
   exact Nat.le_refl _
 | j+1,h,hj=>by
   rcases Nat.lt_or_ge i (j+1) with h'|h'
   ·have:=Zgb (zs:=zs) (v:=v) (show i<=j by omega) (by omega)
    by_cases e:at0 zs j=v
    . rw[Zfp (by omega) e];omega
    . rw[Zrk (by omega) e];omega
   ·obtain rfl:i=j+1:=by omega
    exact Nat.le_refl _
structure Ycl (zs:List Int)(n:Nat):Prop where
 len:zs.length=n
 lt:∀ i,i<n->∃ v:Nat,v<n/\at0 zs i=(v:Nat)
 inj:∀ i j,i<n->j<n->at0 zs i=at0 zs j->i=j
theorem Yaw {zs:List Int}{n:Nat}(h:Zgq zs n=true):Ycl zs n:=by
 unfold Zgq at h;rw[decide_eq_true_eq] at h;obtain⟨h1,h2⟩:=h;have g2:zs.length=n:=by omega
 subst g2;have hp:∀ v:Nat,v<zs.length->∃ p,p<zs.length/\at0 zs p=(v:Nat):=by
  intro v hv;have e:=h2 v hv;unfold cntP at e;rw[List.take_length] at e;have hm:0<(zs.filter (fun z=>decide (z=(v:Int)))).length:=by omega
  obtain⟨z,hz⟩:=List.length_pos_iff_exists_mem.1 hm;obtain⟨q1,q2⟩:=List.mem_filter.1 hz;obtain⟨i,hi,e2⟩:=List.getElem_of_mem q1;refine⟨i,hi,?_⟩;rw[Zbw hi,e2];simpa using q2
 have g0:∀ i,i<zs.length->∃ v,v<zs.length/\at0 zs i=(v:Nat):=by
  have hc:∃ f:Nat->Nat,∀ v,v<zs.length->f v<zs.length/\at0 zs (f v)=(v:Nat):=by
   refine⟨fun v=>if hv:v<zs.length then Classical.choose (hp v hv) else 0,fun v hv=>?_⟩;dsimp only;rw[dif_pos hv];exact Classical.choose_spec (hp v hv)
  obtain⟨f,hf⟩:=hc;intro i hi
  obtain⟨v,hv,e⟩:=Zsi (n:=zs.length) (f:=f) (fun v hv=>(hf v hv).1) (fun a b ha hb e=>by
   have e1:=(hf a ha).2;have e2:=(hf b hb).2;rw[e,e2] at e1;omega) hi
  exact⟨v,hv,by rw[<- e];exact(hf v hv).2⟩
 refine⟨rfl,g0,fun i j hi hj e=>?_⟩;obtain⟨v,hv,ei⟩:=g0 i hi;have ec:=h2 v hv;have ej:at0 zs j=(v:Nat):=by rw[<- e];exact ei
 rcases Nat.lt_trichotomy i j with g1|rfl|g1
 . have a1:=Zfp hi ei;have a2:=Zfp hj ej;have a3:=Zgb (zs:=zs) (v:=(v:Nat)) (show i+1<=j by omega) (by omega);have a4:=Zgb (zs:=zs) (v:=(v:Nat)) (show j+1<=zs.length by omega) (Nat.le_refl _);omega
 . rfl
 . have a1:=Zfp hi ei;have a2:=Zfp hj ej;have a3:=Zgb (zs:=zs) (v:=(v:Nat)) (show j+1<=i by omega) (by omega);have a4:=Zgb (zs:=zs) (v:=(v:Nat)) (show i+1<=zs.length by omega) (Nat.le_refl _);omega
theorem Ycq {l:List Nat}{i:Nat}(hi:i<l.length):at0 (l.map Int.ofNat) i=(l.getD i 0:Nat):=by
 rw[Zbw (by simpa using hi)];simp[List.getD,hi]
theorem Zaj.mem {d:Zac}{V:Nat->BF}(h:Zaj d V){v:Nat}(hv:v<d.vars.length):∃ i,i<d.vars.length/\d.vars.getD i 0=v:=⟨levN d v,h.dag.lt v hv,h.inv v hv⟩
theorem Zaj.inj {d:Zac}{V:Nat->BF}(h:Zaj d V){i j:Nat}(hi:i<d.vars.length)(hj:j<d.vars.length)(e:d.vars.getD i 0=d.vars.getD j 0):i=j:=by
 have a:=(h.vlt i hi).2;have b:=(h.vlt j hj).2;rw[e,b] at a;exact a.symm
def exL (l:List Nat)(k:Nat):List Nat:=(l.set k (l.getD (k+1) 0)).set (k+1) (l.getD k 0)
theorem Zz3 {l:List Nat}{k:Nat}(h:k+1<l.length):(exL l k).getD k 0=l.getD (k+1) 0:=by
 unfold exL;simp[List.getD,List.getElem?_set,h,show k<l.length by omega]
theorem Yeq {l:List Nat}{k i:Nat}(h1:i≠k)(h2:i≠k+1):(exL l k).getD i 0=l.getD i 0:=by
 unfold exL;simp only[List.getD,List.getElem?_set];rw[if_neg (fun e=>h2 e.symm),if_neg (fun e=>h1 e.symm)]
theorem Zy3 (d:Zac)(k:Nat):(Zeh d k).vars=exL d.vars k:=rfl
open Go.RowKit
structure LawT (K:Law)(n:Nat)(Od:List Nat->Prop)(room:Nat)(w0:World)(mb:Nat)(fs:List (Int×BF))(nx:Int)(Wt:List Ev->Int->Prop)(hl hx:List (Int×BF))(W:World)(o:Own)(m:ManD)(V:Nat->BF)(vl vx:Value):Prop where
 sat:SatE K n Od room w0 mb fs nx W o m V
 b2:B2 fs
 st:Wt m.waits m.calls
 l:LawL W o w0.heap.size vl (hl.map Prod.fst)
 x:LawX W o w0.heap.size vx (hx.map fun p=>tabB n p.2)
section
variable {K:Law}{n:Nat}{Od:List Nat->Prop}{room:Nat}{w0:World}{mb:Nat}{fs:List (Int×BF)}{nx:Int}{Wt:List Ev->Int->Prop}{hl hx hs:List (Int×BF)}{W W' w:World}{o o':Own}{m m':ManD}{V V':Nat->BF}{vl vx v' v:Value}{p:Int×BF}
theorem LawT.below (h:LawT K n Od room w0 mb fs nx Wt hl hx W o m V vl vx)(hb:Below W.heap.size W W'):LawT K n Od room w0 mb fs nx Wt hl hx W' o m V vl vx :=
 ⟨h.sat.below hb,h.b2,h.st,h.l.chg (Zcu hb o),h.x.chg (Zcu hb o)⟩
theorem LawT.below0 (h:LawT K n Od room w0 mb fs nx Wt hl hx W o m V vl vx):Below w0.heap.size w0 W:=h.sat.chg.below0
theorem LawT.go {Od':List Nat->Prop}{fs':List (Int×BF)}{nx':Int}{Wt':List Ev->Int->Prop}(h:LawT K n Od room w0 mb fs nx Wt hl hx W o m V vl vx)(hs:SatE K n Od' room w0 mb fs' nx' W' o' m' V')(hb:B2 fs')(ht:Wt' m'.waits m'.calls)(hc:ChgX NoB o o' W W') :
 LawT K n Od' room w0 mb fs' nx' Wt' hl hx W' o' m' V' vl vx:=⟨hs,hb,ht,h.l.chg hc,h.x.chg hc⟩
theorem LawT.withOd {Od':List Nat->Prop}(h:LawT K n Od room w0 mb fs nx Wt hl hx W o m V vl vx)(hO:Od' m.d.vars):LawT K n Od' room w0 mb fs nx Wt hl hx W o m V vl vx:=⟨h.sat.withOd hO,h.b2,h.st,h.l,h.x⟩
theorem LawT.withSt {Wt':List Ev->Int->Prop}(h:LawT K n Od room w0 mb fs nx Wt hl hx W o m V vl vx)(hO:Wt' m.waits m.calls):LawT K n Od room w0 mb fs nx Wt' hl hx W o m V vl vx:=⟨h.sat,h.b2,hO,h.l,h.x⟩
theorem LawT.appL (h:LawT K n Od room w0 mb fs nx Wt hl hx W o m V vl vx)(hown:OwnC 3 W' w0.heap.size v' (Za3 (hl.map Prod.fst)++[.int .i64 p.1]))(e1:W'.os=W.os)(e2:W'.tape=W.tape)(e3:W'.output=W.output)(e4:W.heap.size<=W'.heap.size)(hk:Zdg vl v' W W') :
 LawT K n Od room w0 mb fs nx Wt (hl++[p]) hx W' o m V v' vx:=by
 have hw:=Zua e1 e2 e3 e4 hk;refine⟨h.sat.other hw (fun k _ hk=>⟨(h.l.own.lt k hk).1,h.l.no k hk⟩),h.b2,h.st,?_,h.x.typ hw (by decide) (by decide) h.l.own.typed⟩;rw[List.map_append];exact h.l.app h.sat.lt hown hk
theorem LawT.appX {bs:List Bool}(h:LawT K n Od room w0 mb fs nx Wt hl hx W o m V vl vx)(hb:LawB W o w0.heap.size v bs)(hbs:bs=tabB n p.2){rs:List Value}(hrs:rs.length=hx.length)(hrow:OwnC 54 W w0.heap.size vx rs)(hall:∀ i v,rs[i]?=some v->LawB W o w0.heap.size v ((hx.map fun p=>tabB n p.2).getD i []))
 (hown:OwnC 54 W' w0.heap.size v' (rs++[v])) (e1:W'.os=W.os) (e2:W'.tape=W.tape) (e3:W'.output=W.output) (e4:W.heap.size<=W'.heap.size) (hk:Zdg vx v' W W'):LawT K n Od room w0 mb fs nx Wt hl (hx++[p]) W' o m V vl v':=by
 have hw:=Zua e1 e2 e3 e4 hk;refine⟨h.sat.other hw (fun k _ hk=>⟨(hrow.lt k hk).1,h.x.no k hk⟩),h.b2,h.st,h.l.typ hw (by decide) hrow.typed,?_⟩;rw[List.map_append];have:=h.x.app h.sat.lt (by simp[hrs]) hall hw hrow.typed hb hown hk;rw[hbs] at this;exact this
theorem LawT.row (h:LawT K n Od room w0 mb fs nx Wt hs hs W o m V vl vx)(hsub:∀ p∈hs,p∈fs)(hsm:hs.length<=1000) :
 LawR (fun g=>w0.heap.size<=g/\g<W.heap.size/\o g=none/\∃ cur,W.heap[g]?=some (.cells cur 4 (0,0))) n fs W vl vx hs:=Ydn h.l h.x hsub hsm
structure LawF (W:World)(o:Own)(v:Value)(bs:List Bool):Prop where
 is:Zdf W v bs
 no:∀ k,v.ownBlock=some k->k<W.heap.size/\o k=none/\∃ cur,W.heap[k]?=some (.cells cur 4 (0,0))
theorem LawF.chg {bs:List Bool}(h:LawF W o v bs)(hc:ChgX NoB o o' W W'):LawF W' o' v bs :=
 ⟨h.is.same fun k hk=>hc.block k (h.no k hk).1 (h.no k hk).2.1 (fun e=>e),fun k hk=>by
  obtain⟨h1,h2,cur,h3⟩:=h.no k hk;exact⟨Nat.lt_of_lt_of_le h1 hc.size,hc.none' h1 h2,cur,(hc.block k h1 h2 (fun e=>e)).trans h3⟩⟩
theorem LawF.tab {F:BF}(h:LawF W o v (tabB n F)):∃ a c,v=.slice a (2^n) c/\Zf8 W a (tabB n F):=by
 obtain⟨a,c,e,h1,_⟩:=h.is;rw[Zf2] at e;exact⟨a,c,e,h1⟩
theorem Ydy (h:LawT K n Od room w0 mb fs nx Wt hs hs W o m V vl vx)(hsub:∀ p∈hs,p∈fs)(hn:n<=16)(hl:hs.length<=100)(k:Int) :
 Calls prog 23 #[.int .i64 n,vl,vx,.int .i64 k] W fun x w'=>∃ a F v,x=.returned (.tuple #[.int .i64 a,v])/\(a,F)∈fs/\LawF w' o v (tabB n F)/\Below W.heap.size W w':=by
 refine(Ydx hn h.b2.zero (h.row hsub (by omega)) k).mono ?_;rintro x w' ⟨a,F,v,rfl,h1,h2,h3,h4⟩;refine⟨a,F,v,rfl,h1,⟨h2,fun g hg=>?_⟩,h4⟩;rcases h3 g hg with ⟨_,h6,h7,cur,h8⟩|⟨h5,cur,h6⟩
 . exact⟨Nat.lt_of_lt_of_le h6 h4.size,h7,cur,(h4.block g h6).trans h8⟩
 . exact⟨(Array.getElem?_eq_some_iff.1 h6).1,h.sat.lt.none h5,cur,h6⟩
end
open Go.RowKit
end Go.Proofs.YtgmbklaolcmljaaGreat

namespace Go.Proofs.YtgmbklaolcmljaaGreat
open Go.Proofs.Tryz
open Go.RowKit
open Go.RowKit
open Go.RowKit
theorem Yc8 (V:Nat->BF)(e:Nat):ef V (enot e)=notF (ef V e):=funext fun ρ=>Zgf V e ρ
section
variable {K:Law}{n:Nat}
theorem Zg3 {o:Own}{w:World}{mb:Nat}{m:ManD}{V:Nat->BF}(h:Zed (K m.d V) o w mb m){e:Nat}(he:okE (Zaa m.d) e):e<eMax:=by
 obtain⟨s,hs⟩:=h;obtain⟨s2,h2⟩:=hs.store;have:=h2.edge_lt he;unfold eMax;omega
end
open Go.RowKit
open Go.RowKit
open Go.RowKit
def Yek (e0:Nat):BF:=fun _=>decide (e0=0)
theorem Zw7 {d:Zac}{V:Nat->BF}(hk:Zaj d V){e0:Nat}(h:e0/2=0):ef V e0=Yek e0:=by
 rcases(show e0=0\/e0=1 by omega) with rfl|rfl
 . rw[hk.dag.ef0];rfl
 . rw[hk.dag.ef1];rfl
open Go.RowKit
theorem Yda (w:World)(g:Fn)(fs cs:Array Value):(binOp .eql 166 (.func g fs cs) .nilFunc).run prog w=.ok (.bool false) w:=by
 have hd:Op.maxDepth=9999+1:=rfl;have h:(Op.equal 166 (.func g fs cs) .nilFunc).run prog w=.ok false w:=by
  unfold Op.equal;rw[hd];unfold Op.equalIn;simp only[Sem.run_bind,run_underlying underlying166,Result.andThen_ok];simp
 simp only[binOp];simp[h]
section
variable {K:Law}{n:Nat}{Od:List Nat->Prop}{room:Nat}{w0:World}{mb:Nat}{fs:List (Int×BF)}{nx:Int}{C:Nat->Prop}{B:World->Prop}{St:ManD->Prop}{gop:Nat}{lop:Array Value}{QO:Nat->Own->World->ManD->(Nat->BF)->Prop}{QP:Own->World->ManD->(Nat->BF)->Prop}{Q:World->ManD->(Nat->BF)->Prop}{E:Int->ManD->ManD->Prop}
def OpLN (K:Law)(n:Nat)(Od:List Nat->Prop)(room:Nat)(w0:World)(mb:Nat)(fs:List (Int×BF))(nx:Int)(C:Nat->Prop)(B:World->Prop)(St:ManD->Prop)(gop:Nat)(lop:Array Value)(Q:Nat->Own->World->ManD->(Nat->BF)->Prop)(E:Int->ManD->ManD->Prop):Prop :=
 ∀ (o:Own) (W:World) (m:ManD) (V:Nat->BF) (xb:Nat),SatE K n Od room w0 mb fs nx W o m V->B W->(∀ k,C k->k<W.heap.size/\o k=none)->St m->Zfn o W xb mb->¬ C xb ->
  Calls prog gop (#[.pointer (some ⟨xb,0,none⟩)]++lop) W fun e w'=>∃ (o':Own) (m':ManD) (V':Nat->BF),Zj0 C K o W mb m V o' w' m' V'/\B w' /\
   ((e=.returned (.tuple #[])/\Q W.heap.size o' w' m' V') \/
    (∃ er:Int,e=Zde er false ev0/\er≠0/\m'.waits=m.waits/\St m'/\E er m m') \/
    (∃ ev,e=Zde 0 true ev/\m.waits=ev::m'.waits/\StE K n Od room w0 mb fs nx St m'/\HapG K n Od room w0 mb fs nx ev))
def Zl0 (W:World)(b:Nat):Prop:=∀ k d,W.cell? ⟨b,k,none⟩≠some (.int .u32 d)
structure Zuf (K:Law)(n:Nat)(Od:List Nat->Prop)(room:Nat)(w0:World)(mb:Nat)(fs:List (Int×BF))(nx:Int)(C:Nat->Prop)(B:World->Prop)(St:ManD->Prop)(o0:Own)(w:World)(k:Nat)(full:Bool)(W:World)(o:Own)(m:ManD)(V:Nat->BF):Prop where
 sat:SatE K n Od room w0 mb fs nx W o m V
 bok:B W
 st:St m
 len:m.waits.length=k
 cok:∀ c,C c->c<w.heap.size/\o c=none
 chg:ChgX C o0 o w W
 clean:full=true->m.d.dead=0
def Ybu (K:Law)(n:Nat)(Od:List Nat->Prop)(room:Nat)(w0:World)(mb:Nat)(fs:List (Int×BF))(nx:Int)(C:Nat->Prop)(B:World->Prop)(Q:Own->World->ManD->(Nat->BF)->Prop)(E:Int->ManD->ManD->Prop)(o0:Own)(w:World)(er:Int)(W:World):Prop :=
 ∃ o m V,SatE K n Od room w0 mb fs nx W o m V/\B W/\ChgX C o0 o w W/\((er=0/\Q o W m V)\/(er≠0/\∃ m0:ManD,E er m0 m/\(er=7->m0.d.dead=0)))
theorem Zxv (hB:∀ W W',B W->(∀ c,C c->W'.heap[c]?=W.heap[c]?)->B W')(hQ:∀ s o W W' m V,(∀ c,C c->c<s)->s+3<=W.heap.size->Zl0 W s/\Zl0 W (s+1)->QO (s+3) o W m V->Ali s W W'->QP o W' m V)(hSt:∀ (m:ManD) (d:Zac),St m->Za4 m.d d->St { m with d:=d })(hC0:∀ c,C c->w0.heap.size<=c)(eg:∀ args w,(callFunc gop args).run prog w=.ok (.enter gop args) w)
 (hop:OpLN K n Od room w0 mb fs nx C B St gop lop QO E) {o:Own} {w:World} {m:ManD} {V:Nat->BF} (h:SatE K n Od room w0 mb fs nx w o m V) (hb:B w) (hC:∀ c,C c->c<w.heap.size/\o c=none) (hst:St m) :
 Calls prog 141 #[.pointer (some ⟨mb,0,none⟩),.func (.func gop) #[] lop] w fun x w'=>∃ er,x=.returned (.int .i64 er)/\Ybu K n Od room w0 mb fs nx C B QP E o w er w':=by
 have hw0:=h.chg.size;have g7:∀ {k full W W' o1 m1 V1},Zuf K n Od room w0 mb fs nx C B St o w k full W o1 m1 V1->∀ {s:Nat},w.heap.size<=s->o1 s=none->o1 (s+1)=none->Ali s W W'->Zuf K n Od room w0 mb fs nx C B St o w k full W' o1 m1 V1:=by
  intro k full W W' o1 m1 V1 hi s hs n0 n1 a;have hk:∀ k,k<w.heap.size->W'.heap[k]?=W.heap[k]?:=fun k hk=>a.keep k (by have:=hi.chg.size;omega) (by omega)
  refine⟨hi.sat.other a (fun k _ e=>?_),hB _ _ hi.bok (fun c hc=>hk c (hi.cok c hc).1),hi.st,hi.len,hi.cok,hi.chg.trans (ChgX.of_wr (C:=fun k=>w.heap.size<=k) a o1 (fun k _ e=>by omega)) (fun k hk e=>by omega),hi.clean⟩;rcases e with rfl|rfl
  . exact⟨by omega,n0⟩
  . exact⟨by omega,n1⟩
 have gc:∀ {k full full' W W' o1 m1 V1 o2 m2 V2},Zuf K n Od room w0 mb fs nx C B St o w k full W o1 m1 V1->SatE K n Od room w0 mb fs nx W' o2 m2 V2->ChgX NoB o1 o2 W W'->m2.waits=m1.waits->St m2->(full'=true->m2.d.dead=0)->Zuf K n Od room w0 mb fs nx C B St o w k full' W' o2 m2 V2:=by
  intro k full full' W W' o1 m1 V1 o2 m2 V2 hi gm hc e1 e2 e3;have go:=hi.chg.size;exact⟨gm,hB _ _ hi.bok (fun c g8=>hc.block c (by have:=(hi.cok c g8).1;omega) (hi.cok c g8).2 (fun e=>e)),e2,by rw[e1];exact hi.len,fun c g8=>⟨(hi.cok c g8).1,hc.none' (by have:=(hi.cok c g8).1;omega) (hi.cok c g8).2⟩,hi.chg.trans hc (fun _ _ e=>e.elim),e3⟩
 refine Zyq mb _ _ _ eg (fun k full W=>∃ o1 m1 V1,Zuf K n Od room w0 mb fs nx C B St o w k full W o1 m1 V1) _ ?_ m.waits.length ⟨o,m,V,h,hb,hst,rfl,hC,ChgX.of_below (Below.refl _ _) o C,by simp⟩;rintro k full W ⟨o1,m1,V1,hi⟩;have go:=hi.chg.size;obtain⟨s,hs⟩:∃ s,s=W.heap.size:=⟨_,rfl⟩
 refine⟨fun st W1=>match st with
  | none=>∃ (o':Own) (m':ManD) (V':Nat->BF),SatE K n Od room w0 mb fs nx W1 o' m' V'/\B W1/\ChgX C o o' w W1/\s+3<=W1.heap.size/\(∀ q,w.heap.size<=q->q<s+3->o1 q=none->o' q=none)/\(Zl0 W1 s/\Zl0 W1 (s+1))/\QO (s+3) o' W1 m' V'
  | some (er,evt,ev)=>∃ (o':Own) (m':ManD) (V':Nat->BF),Zuf K n Od room w0 mb fs nx C B St o w m'.waits.length false W1 o' m' V'/\s+3<=W1.heap.size/\(∀ q,w.heap.size<=q->q<s+3->o1 q=none->o' q=none) /\
   ((evt=false/\er≠0/\m'.waits=m1.waits/\E er m1 m')\/(evt=true/\m1.waits=ev::m'.waits/\StE K n Od room w0 mb fs nx St m'/\HapG K n Od room w0 mb fs nx ev)),?_,?_,?_,?_,?_⟩
 ·unfold Zwa;have gd:Below W.heap.size W (tryW mb W):=((Zaf _ _).alloc (by simp) _).alloc (by simp;omega) _;have gh:(tryW mb W).heap.size=W.heap.size+3:=by unfold tryW;simp
  obtain⟨T,hT⟩:∃ T,T=tryW mb W:=⟨_,rfl⟩;have h1:(tryW mb W).heap[W.heap.size+2]?=some (.cells #[.pointer (some ⟨mb,0,none⟩)] 212 (0,0)):=by
   have:=heap_alloc_new ((W.alloc (.cells #[.int .i64 0,.bool false,.int .i64 0,.int .i64 0,.int .i64 0] 214)).alloc (.cells #[.bool false] 4)) (.cells #[.pointer (some ⟨mb,0,none⟩)] 212);rw[World.size_alloc,World.size_alloc] at this;exact this
  have gj:Zl0 (tryW mb W) W.heap.size:=fun k d hd=>by
   have e:(tryW mb W).heap[W.heap.size]?=some (.cells #[.int .i64 0,.bool false,.int .i64 0,.int .i64 0,.int .i64 0] 214 (0,0)) :=
    (Go.heap_alloc_old _ _ (by simp;omega)).trans ((Go.heap_alloc_old _ _ (by simp)).trans (heap_alloc_new _ _))
   rw[cell_of_row _ _ _ _ _ _ e] at hd;rcases(show k=0\/k=1\/k=2\/k=3\/k=4\/5<=k by omega) with rfl|rfl|rfl|rfl|rfl|hk
   . simp at hd
   . simp at hd
   . simp at hd
   . simp at hd
   . simp at hd
   . rw[Array.getElem?_eq_none (by simpa using hk)] at hd;cases hd
  have gi:Zl0 (tryW mb W) (W.heap.size+1):=fun k d hd=>by
   have e0:=heap_alloc_new (W.alloc (.cells #[.int .i64 0,.bool false,.int .i64 0,.int .i64 0,.int .i64 0] 214)) (.cells #[.bool false] 4);rw[World.size_alloc] at e0;have e:(tryW mb W).heap[W.heap.size+1]?=some (.cells #[.bool false] 4 (0,0)) :=
    (Go.heap_alloc_old _ _ (by simp)).trans e0
   rw[cell_of_row _ _ _ _ _ _ e] at hd;rcases(show k=0\/1<=k by omega) with rfl|hk
   . simp at hd
   . rw[Array.getElem?_eq_none (by simpa using hk)] at hd;cases hd
  rw[<- hT] at gd gh h1 gj gi ⊢;clear hT;have g6:=hi.sat.below gd;have gr:Zfn o1 T (W.heap.size+2) mb:=⟨cell1 h1,hi.sat.lt.none (by omega)⟩;have gl:∀ q,w.heap.size<=q->¬ C q:=fun q hq e=>by have:=(hi.cok q e).1;omega
  have ga:∀ {o':Own} {w1:World},ChgX C o1 o' T w1->∀ q,w.heap.size<=q->q<s+3->o1 q=none->w1.heap[q]?=T.heap[q]?:=fun hc q h1 h2 h3=>hc.block q (by omega) h3 (gl q h1)
  have n0:o1 W.heap.size=none:=hi.sat.lt.none (Nat.le_refl _);have n1:o1 (W.heap.size+1)=none:=hi.sat.lt.none (by omega);refine(hop o1 T m1 V1 (W.heap.size+2) g6 (hB _ _ hi.bok (fun c hc=>gd.block c (by have:=(hi.cok c hc).1;omega))) (fun c hc=>⟨by have:=(hi.cok c hc).1;omega,(hi.cok c hc).2⟩) hi.st gr (gl _ (by omega))).mono ?_;rintro e w1 ⟨o',m',V',st,b1,gg⟩;have gu:=st.chg.size;have gf:=(hi.chg.trans (ChgX.of_below gd o1 C) (fun _ _ e=>e)).trans st.chg (fun _ _ e=>e);refine⟨by omega,ga st.chg _ (by omega) (by omega) n0,ga st.chg _ (by omega) (by omega) n1,?_⟩;have g9:∀ q,w.heap.size<=q->q<s+3->o1 q=none->o' q=none:=fun q _ h2 h3=>st.chg.none' (by omega) h3
  have ge:∀ c,C c->c<w.heap.size/\o' c=none:=fun c hc=>⟨(hi.cok c hc).1,st.chg.none' (by have:=(hi.cok c hc).1;omega) (hi.cok c hc).2⟩
  rcases gg with ⟨rfl,q1⟩|⟨er,rfl,q1,q2,q3,q4⟩|⟨ev,rfl,q1,q2,q3⟩
  ·have hu:∀ {q:Nat},q<s+3->w.heap.size<=q->o1 q=none->Zl0 T q->Zl0 w1 q:=fun h2 h1 h3 hn k d hd=>hn k d (by
    have e:=ga st.chg _ h1 h2 h3;exact(World.cell?_of_block (w:=T) (a:=⟨_,k,none⟩) e).symm.trans hd)
   exact .inl ⟨rfl,o',m',V',g6.step st hC0,b1,gf,by omega,g9,⟨by rw[hs];exact hu (by omega) (by omega) n0 gj,by rw[hs];exact hu (by omega) (by omega) n1 gi⟩,by rw[hs,<- gh];exact q1⟩
  . exact .inr ⟨er,false,ev0,rfl,o',m',V',⟨g6.step st hC0,b1,q3,rfl,ge,gf,by simp⟩,by omega,g9,.inl ⟨rfl,q1,q2,q4⟩⟩
  . exact .inr ⟨0,true,ev,rfl,o',m',V',⟨g6.step st hC0,b1,q2 _ _ _ _ (g6.step st hC0) rfl rfl (.inl (Nat.le_refl _)),rfl,ge,gf,by simp⟩,by omega,g9,.inr ⟨rfl,q1,q2,q3⟩⟩
 ·rintro W1 W2 ⟨o',m',V',a1,a2,a3,a4,a5,au,a8⟩ al;rw[<- hs] at al;have n0:o' s=none:=a5 s (by omega) (by omega) (by rw[hs];exact hi.sat.lt.none (Nat.le_refl _));have n1:o' (s+1)=none:=a5 (s+1) (by omega) (by omega) (by rw[hs];exact hi.sat.lt.none (by omega));have hk:∀ c,C c->W2.heap[c]?=W1.heap[c]?:=fun c hc=>al.keep c (by have:=(hi.cok c hc).1;omega) (by have:=(hi.cok c hc).1;omega)
  refine⟨o',m',V',a1.other al (fun k _ e=>?_),hB _ _ a2 hk,a3.trans (ChgX.of_wr (C:=fun k=>w.heap.size<=k) al o' (fun k _ e=>by omega)) (fun k hk e=>by omega),.inl ⟨rfl,hQ s _ _ _ _ _ (fun c hc=>by have:=(hi.cok c hc).1;omega) a4 au a8 al⟩⟩;rcases e with rfl|rfl
  . exact⟨by omega,n0⟩
  . exact⟨by omega,n1⟩
 ·rintro er ev W1 W2 ⟨o',m',V',gb,a4,a5,(⟨h1,_⟩|⟨_,gq,gn,gs⟩)⟩ al
  . cases h1
  rw[<- hs] at al;have n0:o' s=none:=a5 s (by omega) (by omega) (by rw[hs];exact hi.sat.lt.none (Nat.le_refl _));have n1:o' (s+1)=none:=a5 (s+1) (by omega) (by omega) (by rw[hs];exact hi.sat.lt.none (by omega));have g0:=g7 gb (by omega) n0 n1 al;refine(gs o' W2 m' V' g0.sat).mono ?_;rintro x w' ⟨rfl,o2,m2,V2,g1,g2,g3,g5,g4⟩;exact⟨rfl,m'.waits.length,by rw[<- hi.len,gq];simp,o2,m2,V2,gc g0 g1 g4 g2 (gn _ _ _ _ g1 g2 g3 g5) (by simp)⟩
 ·rintro ev W1 W2 ⟨o',m',V',gb,a4,a5,(⟨_,_,hw,_⟩|⟨h1,_⟩)⟩ al gt
  . rw[<- hs] at al;have n0:o' s=none:=a5 s (by omega) (by omega) (by rw[hs];exact hi.sat.lt.none (Nat.le_refl _));have n1:o' (s+1)=none:=a5 (s+1) (by omega) (by omega) (by rw[hs];exact hi.sat.lt.none (by omega));have g0:=g7 gb (by omega) n0 n1 al;refine(Zhn g0.sat).mono ?_;rintro x w' ⟨rfl,o2,d2,g1,g2,g3⟩;have gk:=gc (full':=true) g0 g1 (ChgX.of_chg g3 NoB) rfl (hSt _ _ g0.st g2) (fun _=>g2.dead);rw[hw,hi.len] at gk;exact⟨⟨_,rfl⟩,o2,_,V',gk⟩
  . cases h1
 ·rintro er ev W1 W2 ⟨o',m',V',gb,a4,a5,(⟨_,h0,hw,hE⟩|⟨h1,_⟩)⟩ al gp
  ·rw[<- hs] at al;have n0:o' s=none:=a5 s (by omega) (by omega) (by rw[hs];exact hi.sat.lt.none (Nat.le_refl _));have n1:o' (s+1)=none:=a5 (s+1) (by omega) (by omega) (by rw[hs];exact hi.sat.lt.none (by omega));have g0:=g7 gb (by omega) n0 n1 al;refine⟨o',m',V',g0.sat,g0.bok,g0.chg,.inr ⟨h0,m1,hE,fun e7=>hi.clean ?_⟩⟩;cases full with
   | true=>rfl
   | false=>exact(gp ⟨e7,rfl⟩).elim
  . cases h1
theorem Zp6 (hB:∀ W W',B W->(∀ c,C c->W'.heap[c]?=W.heap[c]?)->B W')(hQ:∀ s o W W' m V,(∀ c,C c->c<s)->s+3<=W.heap.size->Zl0 W s/\Zl0 W (s+1)->QO (s+3) o W m V->Ali s W W'->QP o W' m V)(hSt:∀ (m:ManD) (d:Zac),St m->Za4 m.d d->St { m with d:=d })(hC0:∀ c,C c->w0.heap.size<=c)(eg:∀ args w,(callFunc gop args).run prog w=.ok (.enter gop args) w)
 (hop:OpLN K n Od room w0 mb fs nx C B St gop lop QO E) {o:Own} {w:World} {m:ManD} {V:Nat->BF} (h:SatE K n Od room w0 mb fs nx w o m V) (hb:B w) (hC:∀ c,C c->c<w.heap.size/\o c=none) (hst:St m) :
 Calls prog 96 #[.pointer (some ⟨mb,0,none⟩),.func (.func gop) #[] lop] w fun x w'=>∃ er,x=.returned (.int .i64 er)/\Ybu K n Od room w0 mb fs nx C B QP E o w er w':=by
 have g0:=Hd (Zxv hB hQ hSt hC0 eg hop h hb hC hst);have g1:=Yda w (.func gop) #[] lop;clear h hb hB hQ hSt hC0 hop hC hst
 go_enter func96,ntmps96
 go_wp2_with fail;refine g0.out.mono ?_;rintro x w1 ⟨er,rfl,hf⟩;have HF:=Hd hf;clear hf g0;go_wp2_with fail;go_ret;exact⟨er,rfl,HF.out⟩
end
open Go.RowKit
open Go.RowKit
open Go.RowKit
theorem Zmu (W:World)(zs:List Int)(hl:zs.length<=1000000):Zau (W.alloc (.cells (Za3 zs).toArray 3)) (some ⟨W.heap.size,0,none⟩) zs :=
 ⟨by omega,fun k hk=>⟨W.heap.size,0,rfl,by
  rw[Nat.zero_add,cell_of_row _ _ k _ _ _ (heap_alloc_new _ _)];simp[Za3,Zbw hk,hk]⟩⟩
section
variable {K:Law}{n:Nat}{Od:List Nat->Prop}{room:Nat}{w0 w w':World}{mb:Nat}{fs:List (Int×BF)}{nx:Int}{o o':Own}{m m':ManD}{V V':Nat->BF}
def Goes (K:Law)(n:Nat)(Od:List Nat->Prop)(room:Nat)(w0:World)(mb:Nat)(fs:List (Int×BF))(nx:Int)(Wt:List Ev->Int->Nat->Prop)(o:Own)(w w':World):Prop :=
 ∃ o' m' V',ChgX NoB o o' w w'/\Wt m'.waits m'.calls m'.d.pool.many/\SatE K n Od room w0 mb fs nx w' o' m' V'
def NoW (M:Nat)(ws:List Ev)(_:Int)(k:Nat):Prop:=ws=[]/\k<=M
abbrev W2 (Wt:List Ev->Int->Prop):List Ev->Int->Nat->Prop:=fun ws c _=>Wt ws c
theorem Goes.more {M M':Nat}(h:Goes K n Od room w0 mb fs nx (NoW M) o w w')(hm:M<=M'):Goes K n Od room w0 mb fs nx (NoW M') o w w':=by
 obtain⟨o',m',V',h1,h2,h3⟩:=h;exact⟨o',m',V',h1,⟨h2.1,Nat.le_trans h2.2 hm⟩,h3⟩
theorem Goes.below {Wt:List Ev->Int->Nat->Prop}{w'':World}(h:Goes K n Od room w0 mb fs nx Wt o w w')(hb:Below w'.heap.size w' w''):Goes K n Od room w0 mb fs nx Wt o w w'':=by
 obtain⟨o',m',V',h1,h2,h3⟩:=h;exact⟨o',m',V',h1.trans (Zcu hb o') (fun _ _ e=>e),h2,h3.below hb⟩
theorem Zxm (hK:Zdu K){M:Nat}(h:Goes K n Od room w0 mb fs nx (NoW M) o w w')(hn:nx<549755813888)(hr:M+(2^n-1)<=room){kf kg kh:Int}{F G H:BF}(hf:(kf,F)∈fs)(hg:(kg,G)∈fs)(hh:(kh,H)∈fs) :
 Calls prog 59 #[.pointer (some ⟨mb,0,none⟩),.int .i64 kf,.int .i64 kg,.int .i64 kh] w' fun x w''=>x=.returned (.tuple #[.int .i64 nx,.int .i64 0])/\Goes K n Od room w0 mb (fs++[(nx,Zeo F G H)]) (nx+1) (NoW (M+(2^n-1))) o w w'':=by
 obtain⟨o',m',V',h1,h2,h3⟩:=h;refine(Zmv hK h3 [] (by rw[h2.1];exact List.suffix_refl _) (some M) (fun _ e=>by cases e;exact⟨rfl,hr⟩) (fun _ e=>by cases e;exact h2.2) (by simp) (by omega) hf hg hh).mono ?_;rintro x w'' hp;obtain⟨o2,m2,V2,q1,q2,q3,q4⟩:=Zmz hp;exact⟨q3,o2,m2,V2,h1.trans q1 (fun _ _ e=>e),q2,q4⟩
theorem Ye7 (hK:Zdu K){M:Nat}(h:Goes K n Od room w0 mb fs nx (NoW M) o w w')(hn:nx<549755813888)(hr:M+1<=room){v:Nat}(hv:v<n) :
 Calls prog 58 #[.pointer (some ⟨mb,0,none⟩),.int .i64 v] w' fun x w''=>x=.returned (.tuple #[.int .i64 nx,.int .i64 0])/\Goes K n Od room w0 mb (fs++[(nx,varF v)]) (nx+1) (NoW (M+1)) o w w'':=by
 obtain⟨o',m',V',h1,h2,h3⟩:=h;refine(Zmw hK h3 [] (by rw[h2.1];exact List.suffix_refl _) (some M) (fun _ e=>by cases e;exact⟨rfl,hr⟩) (fun _ e=>by cases e;exact h2.2) (by simp) (by omega) v hv).mono ?_;rintro x w'' hp;obtain⟨o2,m2,V2,q1,q2,q3,q4⟩:=Zmz hp;exact⟨q3,o2,m2,V2,h1.trans q1 (fun _ _ e=>e),q2,q4⟩
theorem Yb6 (hK:Zdu K){Wt:List Ev->Int->Nat->Prop}(h:Goes K n Od room w0 mb fs nx Wt o w w')(hn:nx<549755813888){k:Int}{F:BF}(hf:(k,F)∈fs) :
 Calls prog 16 #[.pointer (some ⟨mb,0,none⟩),.int .i64 k] w' fun x w''=>x=.returned (.tuple #[.int .i64 nx,.int .i64 0])/\Goes K n Od room w0 mb (fs++[(nx,notF F)]) (nx+1) Wt o w w'':=by
 obtain⟨o',m',V',h1,h2,h3⟩:=h;refine(Zu9 hK h3 hn hf).mono ?_;rintro x w'' ⟨rfl,o2,m2,q⟩;exact⟨rfl,o2,m2,V',h1.trans (ChgX.of_chg q.chg NoB) (fun _ _ e=>e),by rw[q.waits,q.calls,q.many];exact h2,q.sat⟩
theorem Znm (hK:Zdu K){Wt:List Ev->Int->Nat->Prop}(h:Goes K n Od room w0 mb fs nx Wt o w w')(hn:nx<549755813888){k:Int}{F:BF}(hf:(k,F)∈fs) :
 Calls prog 62 #[.pointer (some ⟨mb,0,none⟩),.int .i64 k] w' fun x w''=>x=.returned (.tuple #[.int .i64 nx,.int .i64 0])/\Goes K n Od room w0 mb (fs++[(nx,F)]) (nx+1) Wt o w w'':=by
 obtain⟨o',m',V',h1,h2,h3⟩:=h;refine(Zr0 hK h3 hn hf).mono ?_;rintro x w'' ⟨rfl,o2,m2,q⟩;exact⟨rfl,o2,m2,V',h1.trans (ChgX.of_chg q.chg NoB) (fun _ _ e=>e),by rw[q.waits,q.calls,q.many];exact h2,q.sat⟩
theorem Znn (hK:Zdu K){Wt:List Ev->Int->Nat->Prop}{hs r:List (Int×BF)}(h:Goes K n Od room w0 mb (fs++(hs++r)) nx Wt o w w')(hb:B2 fs)(hn:nx<549755813888)(hl:hs.length<=1000){T:World}(hT:T=w'.alloc (.cells (Za3 (hs.map Prod.fst)).toArray 3)) :
 Calls prog 65 #[.pointer (some ⟨mb,0,none⟩),.slice (some ⟨w'.heap.size,0,none⟩) hs.length hs.length] T fun x w''=>x=.returned (.int .i64 0)/\Goes K n Od room w0 mb (fs++r) nx Wt o w w'':=by
 obtain⟨o',m',V',h1,h2,h3⟩:=h;subst hT;have g0:=Zaf w' (.cells (Za3 (hs.map Prod.fst)).toArray 3);refine(Zr2 hK (h3.below g0) hb hn (Zmu w' (hs.map Prod.fst) (by simp;omega)) (fun x hx=>by cases hx;exact h3.lt.none (Nat.le_refl _))).mono ?_;rintro x w'' ⟨rfl,o2,m2,q⟩;exact⟨rfl,o2,m2,V',(h1.trans (Zcu g0 o') (fun _ _ e=>e)).trans (ChgX.of_chg q.chg NoB) (fun _ _ e=>e),by rw[q.waits,q.calls,q.many];exact h2,q.sat⟩
theorem Zs4 (hK:Zdu K){a b:Int}{F G:BF}{M:Nat}(h:Goes K n Od room w0 mb (fs++[(a,F),(b,G)]) nx (NoW M) o w w')(hb:B2 fs)(hn:nx+2<549755813888)(hr:M+(2^n-1)<=room){op:Int}(h5:5<=op)(h9:op<=9) :
 Calls prog 64 #[.pointer (some ⟨mb,0,none⟩),.int .i64 op,.int .i64 a,.int .i64 b] w' fun x w''=>∃ k:Int,x=.returned (.tuple #[.int .i64 k,.bool true])/\k<=nx+1/\Goes K n Od room w0 mb (fs++[(k,Zp1 op F G)]) (k+1) (NoW (M+(2^n-1))) o w w'':=by
 obtain⟨M',ga⟩:∃ M',M'=M+(2^n-1):=⟨_,rfl⟩;have g5:Hid (∀ c d e A B C,(c,A)∈fs++[(a,F),(b,G)]->(d,B)∈fs++[(a,F),(b,G)]->(e,C)∈fs++[(a,F),(b,G)]->Calls prog 59 #[.pointer (some ⟨mb,0,none⟩),.int .i64 c,.int .i64 d,.int .i64 e] w' fun x w''=>x=.returned (.tuple #[.int .i64 nx,.int .i64 0])/\Goes K n Od room w0 mb (fs++[(a,F),(b,G)]++[(nx,Zeo A B C)]) (nx+1) (NoW (M+(2^n-1))) o w w'') :=
  Hd fun c d e A B C h1 h2 h3=>Zxm hK h (by omega) hr h1 h2 h3
 have g6:=Hd (Yb6 hK h (by omega) (k:=b) (F:=G) (by simp))
 have g0:Hid (∀ W,Goes K n Od room w0 mb (fs++[(a,F),(b,G)]++[(nx,notF G)]) (nx+1) (NoW M) o w W->∀ c d e A B C,(c,A)∈fs++[(a,F),(b,G)]++[(nx,notF G)]->(d,B)∈fs++[(a,F),(b,G)]++[(nx,notF G)]->(e,C)∈fs++[(a,F),(b,G)]++[(nx,notF G)] ->
  Calls prog 59 #[.pointer (some ⟨mb,0,none⟩),.int .i64 c,.int .i64 d,.int .i64 e] W fun x w''=>x=.returned (.tuple #[.int .i64 (nx+1),.int .i64 0])/\Goes K n Od room w0 mb (fs++[(a,F),(b,G)]++[(nx,notF G)]++[(nx+1,Zeo A B C)]) (nx+1+1) (NoW (M+(2^n-1))) o w w'') :=
  Hd fun W hW c d e A B C h1 h2 h3=>Zxm hK hW (by omega) hr h1 h2 h3
 have g7:Hid (∀ W H T,Goes K n Od room w0 mb (fs++[(a,F),(b,G)]++[(nx,notF G)]++[(nx+1,H)]) (nx+1+1) (NoW M') o w W->T=W.alloc (.cells #[.int .i64 nx] 3)->Calls prog 65 #[.pointer (some ⟨mb,0,none⟩),.slice (some ⟨W.heap.size,0,none⟩) 1 1] T fun x w''=>x=.returned (.int .i64 0)/\Goes K n Od room w0 mb (fs++[(a,F),(b,G)]++[(nx+1,H)]) (nx+1+1) (NoW M') o w w'') :=
  Hd fun W H T hW hT=>Znn hK (hs:=[(nx,notF G)]) (r:=[(nx+1,H)]) (by rw[List.append_assoc] at hW;exact hW) (hb.app _) (by omega) (by simp) hT
 have g8:Hid (∀ W k H T,k+1<549755813888->Goes K n Od room w0 mb (fs++[(a,F),(b,G)]++[(k,H)]) (k+1) (NoW M') o w W->T=W.alloc (.cells #[.int .i64 a,.int .i64 b] 3)->Calls prog 65 #[.pointer (some ⟨mb,0,none⟩),.slice (some ⟨W.heap.size,0,none⟩) 2 2] T fun x w''=>x=.returned (.int .i64 0)/\Goes K n Od room w0 mb (fs++[(k,H)]) (k+1) (NoW M') o w w'') :=
  Hd fun W k H T hk hW hT=>Znn hK (hs:=[(a,F),(b,G)]) (r:=[(k,H)]) (by rw[List.append_assoc] at hW;exact hW) hb (by omega) (by simp) hT
 have m0:(0,fun _=>false)∈fs++[(a,F),(b,G)]:=List.mem_append_left _ hb.zero;have m1:(1,fun _=>true)∈fs++[(a,F),(b,G)]:=List.mem_append_left _ hb.one;have ma:(a,F)∈fs++[(a,F),(b,G)]:=by simp
 have mb':(b,G)∈fs++[(a,F),(b,G)]:=by simp
 have pa:(a,F)∈fs++[(a,F),(b,G)]++[(nx,notF G)]:=by simp
 have pb:(b,G)∈fs++[(a,F),(b,G)]++[(nx,notF G)]:=by simp
 have pn:(nx,notF G)∈fs++[(a,F),(b,G)]++[(nx,notF G)]:=by simp
 rw[<- ga] at g5 g0 ⊢;clear h hb hr hK ga;rcases(show op=5\/op=6\/op=7\/op=8\/op=9 by omega) with rfl|rfl|rfl|rfl|rfl
 ·have HI:=Hd (g5.out a b 0 _ _ _ ma mb' m0);clear g5 g0 g6 g7
  go_enter func64,ntmps64
  go_wp2_with fail;refine HI.out.mono ?_;rintro x w1 ⟨rfl,g1⟩;have HD:=Hd (g8.out w1 nx _ _ (by omega) g1 rfl);clear g1 HI;go_wp2_with fail;refine HD.out.mono ?_;rintro x w2 ⟨rfl,g2⟩;have HG:=Hd g2;clear g2 HD;go_wp2_with fail
  go_ret2
  exact⟨nx,rfl,by omega,HG.out⟩
 ·have HI:=Hd (g5.out a 1 b _ _ _ ma m1 mb');clear g5 g0 g6 g7
  go_enter func64,ntmps64
  go_wp2_with fail;refine HI.out.mono ?_;rintro x w1 ⟨rfl,g1⟩;have HD:=Hd (g8.out w1 nx _ _ (by omega) g1 rfl);clear g1 HI;go_wp2_with fail;refine HD.out.mono ?_;rintro x w2 ⟨rfl,g2⟩;have HG:=Hd g2;clear g2 HD;go_wp2_with fail
  go_ret2
  exact⟨nx,rfl,by omega,HG.out⟩
 ·clear g5
  go_enter func64,ntmps64
  go_wp2_with fail;refine g6.out.mono ?_;rintro x w1 ⟨rfl,g1⟩;have HI:=Hd (g0.out w1 g1 a nx b _ _ _ pa pn pb);clear g1 g6 g0;go_wp2_with fail;refine HI.out.mono ?_;rintro x w2 ⟨rfl,g2⟩;have g9:=Hd (g7.out w2 _ _ g2 rfl);clear g2 HI g7;go_wp2_with fail;refine g9.out.mono ?_;rintro x w3 ⟨rfl,g3⟩;have HD:=Hd (g8.out w3 (nx+1) _ _ (by omega) g3 rfl);clear g3 g9;go_wp2_with fail;refine HD.out.mono ?_;rintro x w4 ⟨rfl,g4⟩;have HG:=Hd g4;clear g4 HD;go_wp2_with fail
  go_ret2
  exact⟨nx+1,rfl,by omega,HG.out⟩
 ·have HI:=Hd (g5.out a b 1 _ _ _ ma mb' m1);clear g5 g0 g6 g7
  go_enter func64,ntmps64
  go_wp2_with fail;refine HI.out.mono ?_;rintro x w1 ⟨rfl,g1⟩;have HD:=Hd (g8.out w1 nx _ _ (by omega) g1 rfl);clear g1 HI;go_wp2_with fail;refine HD.out.mono ?_;rintro x w2 ⟨rfl,g2⟩;have HG:=Hd g2;clear g2 HD;go_wp2_with fail
  go_ret2
  exact⟨nx,rfl,by omega,HG.out⟩
 ·clear g5
  go_enter func64,ntmps64
  go_wp2_with fail;refine g6.out.mono ?_;rintro x w1 ⟨rfl,g1⟩;have HI:=Hd (g0.out w1 g1 a b nx _ _ _ pa pb pn);clear g1 g6 g0;go_wp2_with fail;refine HI.out.mono ?_;rintro x w2 ⟨rfl,g2⟩;have g9:=Hd (g7.out w2 _ _ g2 rfl);clear g2 HI g7;go_wp2_with fail;refine g9.out.mono ?_;rintro x w3 ⟨rfl,g3⟩;have HD:=Hd (g8.out w3 (nx+1) _ _ (by omega) g3 rfl);clear g3 g9;go_wp2_with fail;refine HD.out.mono ?_;rintro x w4 ⟨rfl,g4⟩;have HG:=Hd g4;clear g4 HD;go_wp2_with fail
  go_ret2
  exact⟨nx+1,rfl,by omega,HG.out⟩
end
open Go.RowKit
section
variable {K:Law}{n:Nat}{room:Nat}{w0:World}{mb:Nat}{fs hs:List (Int×BF)}{nx:Int}{W w w':World}{o o':Own}{m m':ManD}{V V':Nat->BF}{vl vx:Value}{ws0:List Ev}
theorem Zy6 {n:Nat}(h:n<=16):2^n<=1000000:=Nat.le_trans (Nat.pow_le_pow_right (by omega) h) (by decide)
abbrev SufW (ws0:List Ev):List Ev->Int->Prop:=fun ws _=>ws <:+ ws0
theorem Yeu (hK:Zdu K)(h:SatE K n (fun _=>True) room w0 mb fs nx w o m V)(hw:m.waits <:+ ws0)(hn:nx<=549755813888)(hr:(fs.length+1)*2^n<=room){kf kg kh:Int}{F G H:BF}(hf:(kf,F)∈fs)(hg:(kg,G)∈fs)(hh:(kh,H)∈fs) :
 Calls prog 59 #[.pointer (some ⟨mb,0,none⟩),.int .i64 kf,.int .i64 kg,.int .i64 kh] w fun x w''=>x=.returned (.tuple #[.int .i64 nx,.int .i64 0])/\Goes K n (fun _=>True) room w0 mb (fs++[(nx,Zeo F G H)]) (nx+1) (W2 (SufW ws0)) o w w'':=by
 refine(Zmv hK h ws0 hw none (fun _ e=>by cases e) (fun _ e=>by cases e) (fun ev _=>Zmr hn ev) (by omega) hf hg hh).mono ?_;rintro x w'' hp;obtain⟨o2,m2,V2,q1,q2,q3,q4⟩:=Zqf hp (Nat.sub_le _ _) hr;exact⟨q3,o2,m2,V2,q1,q2,q4⟩
end
open Go.RowKit
end Go.Proofs.YtgmbklaolcmljaaGreat

namespace Go.Proofs.YtgmbklaolcmljaaGreat
open Go.Proofs.Tryz
open Go.RowKit
def cofF (F:BF)(v:Nat)(b:Bool):BF:=fun ρ=>F fun u=>if u=v then b else ρ u
open Go.RowKit
def Zbp (n:Nat)(F:BF)(v:Nat):Bool := !decide (tabB n (cofF F v false)=tabB n (cofF F v true))
def topR (n:Nat)(F:BF):List Nat->Int
 | []=>-1
 | v::l=>if Zbp n F v then (v:Nat) else topR n F l
open Go.RowKit
theorem Zq5 {n:Nat}{F:BF}:∀ {l:List Nat},(∀ v∈l,Zbp n F v=false)->topR n F l = -1
 | [],_=>rfl
 | v::l,h=>by
   show (if Zbp n F v then ((v:Nat):Int) else topR n F l) = -1
   rw[h v (List.mem_cons_self ..)];exact Zq5 fun u hu=>h u (List.mem_cons_of_mem _ hu)
theorem Zsm {n:Nat}{F:BF}:∀ (l:List Nat) (k:Nat),k<l.length->Zbp n F (l.getD k 0)=true->(∀ j,j<k->Zbp n F (l.getD j 0)=false)->topR n F l=(l.getD k 0:Nat)
 | [],k,hk,_,_=>by simp at hk
 | v::l,0,_,h,_=>by
   show (if Zbp n F v then ((v:Nat):Int) else topR n F l)=(v:Nat)
   have h':Zbp n F v=true:=h;rw[h',if_pos rfl]
 | v::l,k+1,hk,h,hj=>by
   show (if Zbp n F v then ((v:Nat):Int) else topR n F l)=_
   have h0:Zbp n F v=false:=hj 0 (by omega);rw[h0];have:=Zsm l k (by simpa using hk) (by simpa using h) (fun j hjk=>by simpa using hj (j+1) (by omega));simpa using this
section
variable {d:Zac}{V:Nat->BF}
theorem Zaj.dep (h:Zaj d V){f:Nat}(hf:okE (Zaa d) f):DepF d.vars.length (ef V f):=fun ρ ρ' hr=>h.dag.indep _ f (Nat.le_refl _) hf ρ ρ' fun v hv _=>hr v hv
theorem Zst {n:Nat}{F:BF}(h:DepF n F)(v:Nat)(b:Bool):DepF n (cofF F v b):=fun ρ ρ' hr=>h _ _ fun u hu=>by
 show (if u=v then b else ρ u)=if u=v then b else ρ' u
 rw[hr u hu]
theorem Zdj (F:BF)(v:Nat)(b:Bool)(ρ:Nat->Bool):cofF F v b ρ=F (upd ρ v b):=rfl
theorem Zgk {n:Nat}{F:BF}(h:DepF n F)(v:Nat):Zbp n F v=true↔cofF F v false≠cofF F v true:=by
 unfold Zbp;rw[Bool.not_eq_true',decide_eq_false_iff_not];exact⟨fun h1 e=>h1 (by rw[e]),fun h1 e=>h1 (Zy5 (Zst h v _) (Zst h v _) e)⟩
theorem Zz9 (h:Zaj d V){f v:Nat}(hf:okE (Zaa d) f)(hl:levN d v<lvE d.vars.length (levN d) (Zaa d) f):Zbp d.vars.length (ef V f) v=false:=by
 rw[<- Bool.not_eq_true,Zgk (h.dep hf)];intro g0;refine g0 ?_;funext ρ;rw[Zdj,Zdj,h.dag.indep_var hf hl,h.dag.indep_var hf hl]
theorem Zsy (V:Nat->BF)(f:Nat)(ρ:Nat->Bool):ef V f ρ=(if f%2=0 then V (f/2) ρ else !V (f/2) ρ):=by
 unfold ef;split<;>simp_all
theorem Ztz (h:Zaj d V){f:Nat}{b:BN}(hb:Zaa d (f/2)=some b):topR d.vars.length (ef V f) d.vars=(b.v:Nat)/\b.v<d.vars.length:=by
 have hf:okE (Zaa d) f:=.inr ⟨b,hb⟩;have g1:=h.dag.var _ _ hb;have g2:=h.dag.lt _ g1;have g3:lvE d.vars.length (levN d) (Zaa d) f=levN d b.v:=by unfold lvE;rw[hb]
 refine⟨?_,g1⟩;have g0:=h.inv b.v g1;rw[Zsm d.vars (levN d b.v) g2 ?_ ?_,g0]
 ·rw[g0,Zgk (h.dep hf)];intro he;have hc:ef V b.hi=ef V b.lo:=by
   funext ρ;have h1:=h.dag.cofs hb ρ;have h2:ef V f (upd ρ b.v false)=ef V f (upd ρ b.v true):=congrFun he ρ;rw[Zsy,Zsy,h1.1,h1.2] at h2;split at h2
   . exact h2.symm
   . have:=congrArg not h2;simpa using this.symm
  have:=h.dag.canon (h.dag.okHi _ _ hb) (h.dag.okLo _ _ hb) hc;exact h.dag.ne _ _ hb this.symm
 . intro j hj;have h1:=h.vlt j (by omega);exact Zz9 h hf (by rw[g3,h1.2];exact hj)
end
open Go.RowKit
open Go.RowKit
theorem Zxo {op:Int}(h:0<=(Zep op).1):1<=op/\op<=10/\(Zep op).2<=64:=by
 unfold Zep at h ⊢;split
 . rename_i h1;exact⟨by omega,by omega,by simp⟩
 ·split
  . rename_i h1;exact⟨by omega,by omega,by simp⟩
  ·split
   . rename_i h1;exact⟨by omega,by omega,by simp⟩
   ·split
    . rename_i h1;exact⟨by omega,by omega,by simp⟩
    ·split
     . rename_i h1;exact⟨by omega,by omega,by simp⟩
     . exfalso;revert h;simp_all
theorem Zm4 (f:Nat->Bool)(i:Nat):(List.range (i+1)).map f=(List.range i).map f++[f i]:=by simp[List.range_succ]
theorem Zhv (l:List Bool)(b:Bool):Zb4 (l++[b])=Zb4 l++[.bool b]:=by simp[Zb4]
theorem tmod2 (c:Nat):((c:Int).tmod 2 == 1)=decide (c%2=1):=by
 have e1:Int.tmod (c:Int) 2=((c%2:Nat):Int):=by rw[Int.tmod_eq_emod_of_nonneg (by omega)];rfl
 rw[e1]
 by_cases h:c%2=1
 . rw[h];rfl
 ·have:((c%2:Nat):Int)≠1:=by omega
  rw[beq_eq_false_iff_ne.2 this,decide_eq_false h]
theorem Zr6 (a b:Nat):(((a:Nat):Int) == (b:Int))=decide (a=b):=by
 by_cases h:a=b
 . subst h;simp
 ·have:(a:Int)≠b:=by omega
  rw[beq_eq_false_iff_ne.2 this,decide_eq_false h]
theorem Zlv (ls:List Bool)(al:Option Addr)(cl:Nat):∀ (e:ExT) (x:Value) (w:World),Zt5 e->Za1 w e x->Zf8 w al ls ->
 Calls prog 130 #[x,.slice al ls.length cl] w fun y w'=>y=.returned (.bool (fnT e (Zdc ls)))/\Below w.heap.size w w'
 | .nil,x,w,hv,h,_=>by unfold Za1 at h;exact h.elim
 | .mk op v n kid,x,w,hval,h,hls=>by
   unfold Za1 at h;obtain⟨a,c,rfl,h2,h3,h4,h5⟩:=h;obtain⟨v1,v2,v3,v4,v5,v6⟩:=hval;obtain⟨k1,k2,k3⟩:=Zxo v1;have hn64:n<=64:=by omega
   have H5:=Hd h5;have H6:=Hd v6;have gp:=Hd hls;have gF:=hls.len;have HE:Hid (fnT (ExT.mk op v n kid) (Zdc ls)=if op=3 then Zdc ls v.toNat else opB op n fun i=>fnT (kid i) (Zdc ls)):=Hd rfl;have IH:Hid (∀ (i:Nat) (x:Value) (W:World),i<n->Za1 W (kid i) x->Zf8 W al ls->Calls prog 130 #[x,.slice al ls.length cl] W fun y w'=>y=.returned (.bool (fnT (kid i) (Zdc ls)))/\Below W.heap.size W w') :=
    Hd fun i x W hi h1 h2=>Zlv ls al cl (kid i) x W (H6.out i hi) h1 h2
   obtain⟨B,hB⟩:∃ B,B=fnT (ExT.mk op v n kid) (Zdc ls):=⟨_,rfl⟩;obtain⟨f,hf⟩:∃ f:Nat->Bool,f=fun i=>fnT (kid i) (Zdc ls):=⟨_,rfl⟩
   have gE:Hid (∀ i,fnT (kid i) (Zdc ls)=f i):=Hd fun i=>by rw[hf]
   rw[<- hB] at HE ⊢;rw[<- hf] at HE;have gz:op=8\/op=9->n=2:=by rintro(rfl|rfl)<;>(simp[Zep] at v4 v5;omega)
   have gy:op=10->n=3:=by rintro rfl;simp[Zep] at v4 v5;omega
   have gG:op=4->n=1:=by rintro rfl;simp[Zep] at v4 v5;omega
   obtain⟨w1,ga⟩:∃ w1,w1=w.alloc (.cells #[.int .i64 op,.int .i64 v,.slice a n c] 36):=⟨_,rfl⟩;have HW1:Hid (_=w1):=Hd ga.symm;have g5:Hid (Below w.heap.size w w1):=by rw[ga];exact Hd (Zaf _ _)
   have g6:w1.heap[w.heap.size]?=some (.cells #[.int .i64 op,.int .i64 v,.slice a n c] 36 (0,0)):=by rw[ga];exact heap_alloc_new _ _
   have d0:w1.cell? ⟨w.heap.size,0,none⟩=some (.int .i64 op):=by rw[cell_of_row _ _ 0 _ _ _ g6];rfl
   have d1:w1.cell? ⟨w.heap.size,1,none⟩=some (.int .i64 v):=by rw[cell_of_row _ _ 1 _ _ _ g6];rfl
   have d2:w1.cell? ⟨w.heap.size,2,none⟩=some (.slice a n c):=by rw[cell_of_row _ _ 2 _ _ _ g6];rfl
   unfold okI at h2 h3;obtain⟨w2,gb⟩:∃ w2,w2=w1.alloc (.cells #[] 4):=⟨_,rfl⟩;have gB:Hid (_=w2):=Hd gb.symm;have HB2:Hid (Below w1.heap.size w1 w2):=by rw[gb];exact Hd (Zaf _ _)
   have gf:Hid (OwnB w2 w1.heap.size (.slice (some ⟨w1.heap.size,0,none⟩) 0 0) []):=by rw[gb];exact Hd (Ze2 _ _ _ (Nat.le_refl _))
   have hs1:w1.heap.size=w.heap.size+1:=by rw[ga];simp
   rw[hs1] at gf;clear h5 ga gb g6 hf hB v1 v4 v5 v6 hls
   go_enter func130,ntmps130
   go_upto_region 1 with fail;rw[HW1.out];go_upto_region 3 with fail;rw[gB.out];have gw:w1.heap.size<=w2.heap.size:=HB2.out.size;have d0':=(HB2.out.cell (p:=⟨w.heap.size,0,none⟩) (Zab d0)).trans d0;have d1':=(HB2.out.cell (p:=⟨w.heap.size,1,none⟩) (Zab d1)).trans d1;have d2':=(HB2.out.cell (p:=⟨w.heap.size,2,none⟩) (Zab d2)).trans d2;go_wp2_with fail
   go_loopw [5,6,7,8] (fun s5 s6 s7 s8 wr=>∃ i k:Nat,i<=n/\k<=i/\s5=.int .i64 k/\s7=.int .i64 i/\Hid (k=cntT i f)/\Below w1.heap.size w1 wr/\OwnB wr w1.heap.size s6 ((List.range i).map f)/\w1.heap.size<=wr.heap.size) (fun _ _ s7 _ _=>n-(intOf s7).toNat)
   case atStart=>exact⟨0,0,Nat.zero_le _,Nat.le_refl _,rfl,rfl,Hd rfl,HB2.out,by rw[hs1];exact gf.out,gw⟩
   case round =>
    obtain⟨i,k,hi,gH,rfl,rfl,HK,g2,g0,gv⟩:=hrel;have e0:=(g2.cell (p:=⟨w.heap.size,0,none⟩) (Zab d0)).trans d0;have e1:=(g2.cell (p:=⟨w.heap.size,1,none⟩) (Zab d1)).trans d1;have e2:=(g2.cell (p:=⟨w.heap.size,2,none⟩) (Zab d2)).trans d2;have g3:=Hd g2;have gC:=Hd g0;clear g2 d0' d1' d2'
    by_cases gx:i<n
    ·clear g0;obtain⟨b,off,x0,x1,x2,rfl,c0,c1,c2,hx⟩:=H5.out i gx;have g4:=g5.out.trans (g3.out.mono g5.out.size);have q0:=(g4.cell (p:=⟨b,off+i*3,none⟩) (Zab c0)).trans c0;have q1:=(g4.cell (p:=⟨b,off+i*3+1,none⟩) (Zab c1)).trans c1;have q2:=(g4.cell (p:=⟨b,off+i*3+2,none⟩) (Zab c2)).trans c2;have HX:=Hd (hx.below g4);have gD:=Hd (gp.out.below g4);have gA:(i:Int)<n:=by omega
     have gr:Hid (∀ y,f i=y->k+(if y then 1 else 0)=cntT (i+1) f):=Hd fun y hy=>by rw[<- hy,HK.out];rfl
     clear c0 c1 c2 hx g4;go_wp2_with fail;refine(IH.out i _ _ (by omega) HX.out gD.out).mono ?_;rintro y w3 ⟨rfl,gn⟩;have gi:=Hd gn;clear gn;go_upto_region 7 with fail;rw[gE.out];obtain⟨y,hy⟩:∃ y,f i=y:=⟨_,rfl⟩;rw[hy];have gq:=Hd (gr.out y hy);have gh:=Hd (gC.out.below gi.out);have ge:w1.heap.size<=w3.heap.size:=Nat.le_trans gv gi.out.size;have gj:=Hd (g3.out.trans (gi.out.mono g3.out.size));have go:Hid (Zb4 ((List.range (i+1)).map f)=Zb4 ((List.range i).map f)++[.bool y]):=Hd (by rw[Zm4,Zhv,hy]);clear gr hy q0 q1 q2 e0 e1 e2;go_upto_region 8 with (at_builtin;refine Zcl Zj7 _ rfl _ _ rfl w1.heap.size _ (Zb4 ((List.range i).map f)) _ rfl rfl rfl rfl rfl (by exact gh.out) (by simp[Zb4];omega) ge ?_;intro v4 w4 gc q1 q2 q3 q4 gm)
     have gt:=Hd (Zh7 gj.out gh.out q1 q2 q3 q4 gm ge);have gg:=Hd gc;have gd:w1.heap.size<=w4.heap.size:=by omega
     clear gc q1 q2 q3 q4 gm;cases y with
     | true =>
       go_wp2_with fail;go_roundw
       case rel=>exact⟨i+1,k+1,by omega,by omega,by go_num,by go_num,Hd gq.out,gt.out,by unfold OwnB;rw[go.out];exact gg.out,gd⟩
       case measure=>simp[intOf];omega
     | false =>
       go_wp2_with fail;go_roundw
       case rel=>exact⟨i+1,k,by omega,by omega,by go_num,by go_num,Hd gq.out,gt.out,by unfold OwnB;rw[go.out];exact gg.out,gd⟩
       case measure=>simp[intOf];omega
    ·have he:i=n:=by omega
     subst he;have gA:¬ (i:Int)<i:=by omega
     have HF:Hid (∀ b:Bool,b=B->Ending.returned (.bool b)=.returned (.bool B)/\Below w.heap.size w wr):=Hd fun b hb=>⟨by rw[hb],g5.out.trans (g3.out.mono g5.out.size)⟩
     have g1:0<i->∃ g cap,u6=.slice (some ⟨g,0,none⟩) i cap/\∀ j,j<i->wr.cell? ⟨g,j,none⟩=some (.bool (f j)):=by
      intro hp;obtain⟨g,cap,e,_⟩:=g0.shape (by simp[Zb4];omega);have e':u6=.slice (some ⟨g,0,none⟩) i cap:=by rw[e];simp[Zb4]
      refine⟨g,cap,e',fun j hj=>?_⟩;rw[e'] at g0;have:=g0.cellB j (by simp;omega);rw[this];simp[List.getD,hj]
     clear g0;rcases(show op=1\/op=2\/op=3\/op=4\/op=5\/op=6\/op=7\/op=8\/op=9\/op=10 by omega) with rfl|rfl|rfl|rfl|rfl|rfl|rfl|rfl|rfl|rfl
     . go_wp2_with fail;go_ret;exact HF.out _ (by rw[HE.out];rfl)
     . go_wp2_with fail;go_ret;exact HF.out _ (by rw[HE.out];rfl)
     ·obtain⟨v5,v6⟩:=v2 rfl;obtain⟨u,rfl⟩:∃ u:Nat,v=(u:Int):=⟨v.toNat,by omega⟩;have gs:Hid (B=Zdc ls u):=Hd (by rw[HE.out];rfl)
      by_cases hu:u<ls.length
      ·obtain⟨bl,ol,rfl,cl0⟩:=(gp.out.below (g5.out.trans (g3.out.mono g5.out.size))).cells u hu;have gu:(u:Int)<ls.length:=by omega
       have g7:Hid (B=ls.getD u false):=gs;obtain⟨yy,gk⟩:∃ yy,yy=ls.getD u false:=⟨_,rfl⟩;rw[<- gk] at cl0 g7;clear gk;go_wp2_with fail;go_ret;exact HF.out _ g7.out.symm
      ·have gu:¬ (u:Int)<ls.length:=by omega
       have g7:Hid (B=false):=Hd (by rw[gs.out];unfold Zdc;simp[List.getD,List.getElem?_eq_none (show ls.length<=u by omega)]);go_wp2_with fail;go_ret;exact HF.out _ g7.out.symm
     . have HV:Hid (((k:Int) == 0)=B):=Hd (by rw[HE.out,HK.out];exact Zr6 _ 0);go_wp2_with fail;go_ret;exact HF.out _ HV.out
     . have HV:Hid (((k:Int) == (i:Int))=B):=Hd (by rw[HE.out,HK.out];exact Zr6 _ i);go_wp2_with fail;go_ret;exact HF.out _ HV.out
     ·have HV:Hid (decide (0<k)=B):=Hd (by
       rw[HE.out,HK.out];rfl)
      go_wp2_with fail;go_ret;exact HF.out _ HV.out
     . have HV:Hid (((k:Int).tmod 2 == 1)=B):=Hd (by rw[HE.out,HK.out];exact tmod2 _);go_wp2_with fail;go_ret;exact HF.out _ HV.out
     ·have:=gz (.inl rfl);subst this;obtain⟨g,cap,rfl,hc⟩:=g1 (by omega);have c0:=hc 0 (by omega);have c1:=hc 1 (by omega);have HV:Hid ((!(f 0)||f 1)=B):=Hd (by rw[HE.out];rfl);obtain⟨y0,g9⟩:∃ y,y=f 0:=⟨_,rfl⟩;obtain⟨y1,g8⟩:∃ y,y=f 1:=⟨_,rfl⟩;rw[<- g9] at c0 HV;rw[<- g8] at c1 HV;clear g9 g8 hc g1;cases y0 with
      | true =>
        go_wp2_with fail;go_ret;exact HF.out _ HV.out
      | false =>
        go_wp2_with fail;go_ret;exact HF.out _ HV.out
     ·have HV:Hid (((k:Int) != 1)=B):=Hd (by
       rw[HE.out,HK.out]
       show (!((cntT i f:Int) == ((1:Nat):Int)))=decide (cntT i f≠1)
       rw[Zr6]
       by_cases h:cntT i f=1<;>simp[h])
      go_wp2_with fail;go_ret;exact HF.out _ HV.out
     ·have:=gy rfl;subst this;obtain⟨g,cap,rfl,hc⟩:=g1 (by omega);have c0:=hc 0 (by omega);have c1:=hc 1 (by omega);have c2:=hc 2 (by omega);have HV:Hid (iteB (f 0) (f 1) (f 2)=B):=Hd (by rw[HE.out];rfl);obtain⟨y0,g9⟩:∃ y,y=f 0:=⟨_,rfl⟩;obtain⟨y1,g8⟩:∃ y,y=f 1:=⟨_,rfl⟩;obtain⟨y2,gl⟩:∃ y,y=f 2:=⟨_,rfl⟩;rw[<- g9] at c0 HV;rw[<- g8] at c1 HV;rw[<- gl] at c2 HV;clear g9 g8 gl hc g1;cases y0 with
      | true =>
        go_wp2_with fail;go_ret;exact HF.out _ HV.out
      | false =>
        go_wp2_with fail;go_ret;exact HF.out _ HV.out
open Go.RowKit
section
variable {P:Program}{ops:Array Oper}{S:World->Prop}{Q:Exit->Act->World->Prop}{last:Bool}
theorem Zvf {o:Oper}{r:List (Option Oper×Bool)}{a:Act}{w w':World}{v:Value}(hw:Region.wanted o (yielded ops a.tmps)=true)
 (he:(execOp a.eval o).run P w=.ok (.value v) w') (hS:S w') (h:Zcm P ops Q S last r (a.put o.dst v) w'):Zcm P ops Q S last ((some o,true)::r) a w:=by
 unfold Zcm;simp only[hw,if_true,Oper.wp,he,Oper.upon];exact⟨.inr hS,h⟩
theorem Zve {o:Oper}{r:List (Option Oper×Bool)}{a:Act}{w:World}{f:FuncId}{args:Array Value}{R:Value->World->Prop}(hw:Region.wanted o (yielded ops a.tmps)=true)
 (he:(execOp a.eval o).run P w=.ok (.enter f args) w) (hc:Calls P f args w fun e w'=>∃ v,e=.returned v/\S w'/\R v w')
 (h:∀ v w',S w'->R v w'->Zcm P ops Q S last r (a.put o.dst v) w'):Zcm P ops Q S last ((some o,true)::r) a w:=by
 unfold Zcm;simp only[hw,if_true,Oper.wp,he,Oper.upon];exact hc.mono fun e w' ⟨v,h1,h2,h3⟩=>by subst h1;exact⟨.inr h2,h v w' h2 h3⟩
end
theorem Zgl (mb:Nat)(b:Bool)(w:World):Calls prog 63 #[.pointer (some ⟨mb,0,none⟩),.bool b] w fun x w'=>x=.returned (.int .i64 (if b then 1 else 0))/\w=w':=by
 cases b with
 | true =>
   go_enter func63,ntmps63
   go_wp2_with fail;go_ret;exact⟨rfl,rfl⟩
 | false =>
   go_enter func63,ntmps63
   go_wp2_with fail;go_ret;exact⟨rfl,rfl⟩
theorem Ydo {α:Type}{l:List α}(h:l.length=2):∃ a b,l=[a,b]:=by
 match l,h with
 | [a,b],_=>exact⟨a,b,rfl⟩
theorem Zxr {α:Type}{l:List α}(h:l.length=3):∃ a b c,l=[a,b,c]:=by
 match l,h with
 | [a,b,c],_=>exact⟨a,b,c,rfl⟩
theorem Ztt {f:Nat->Nat}(h:∀ i,1<=f i):∀ k,k<=sumN k f
 | 0=>Nat.zero_le _
 | k+1=>by
   have:=Ztt h k;have:=h k
   show k+1<=sumN k f+f k
   omega
section
variable {K:Law}{n:Nat}{Od:List Nat->Prop}{room:Nat}{w0 w w' w'':World}{mb:Nat}{fs fs':List (Int×BF)}{nx nx':Int}{o o':Own}{m m':ManD}{V V':Nat->BF}
theorem Goes.refl {M:Nat}(h:SatE K n Od room w0 mb fs nx w o m V)(hw:m.waits=[]/\m.d.pool.many<=M):Goes K n Od room w0 mb fs nx (NoW M) o w w:=⟨o,m,V,ChgX.of_below (Below.refl _ _) o NoB,hw,h⟩
theorem Goes.after {Wt:List Ev->Int->Nat->Prop}(hc:ChgX NoB o o' w w')(g:Goes K n Od room w0 mb fs nx Wt o' w' w''):Goes K n Od room w0 mb fs nx Wt o w w'':=by
 obtain⟨o2,m2,V2,h1,h2,h3⟩:=g;exact⟨o2,m2,V2,hc.trans h1 (fun _ _ e=>e),h2,h3⟩
theorem Goes.cell {Wt:List Ev->Int->Nat->Prop}(g:Goes K n Od room w0 mb fs nx Wt o w w'){p:Addr}{v:Value}(hc:w.cell? p=some v)(hb:o p.block=none):w'.cell? p=some v:=by
 obtain⟨o2,m2,V2,h1,h2,h3⟩:=g;exact h1.cell hc hb (fun e=>e)
theorem Goes.below0 {Wt:List Ev->Int->Nat->Prop}(g:Goes K n Od room w0 mb fs nx Wt o w w'):Below w0.heap.size w0 w':=by
 obtain⟨o2,m2,V2,h1,h2,h3⟩:=g;exact h3.chg.below0
structure BuiT (K:Law)(n:Nat)(Od:List Nat->Prop)(room:Nat)(w0:World)(mb:Nat)(fs:List (Int×BF))(nx:Int)(M:Nat)(o:Own)(w:World)(vl:Value)(ks:List Int)(W:World)(o':Own)(m':ManD)(V':Nat->BF):Prop where
 sat:SatE K n Od room w0 mb fs nx W o' m' V'
 waits:m'.waits=[]/\m'.d.pool.many<=M
 chg:ChgX NoB o o' w W
 l:LawL W o' w.heap.size vl ks
def BuiS (K:Law)(n:Nat)(Od:List Nat->Prop)(room:Nat)(w0:World)(mb:Nat)(fs:List (Int×BF))(nx:Int)(M:Nat)(o:Own)(w:World)(vl:Value)(ks:List Int)(W:World):Prop:=∃ o' m' V',BuiT K n Od room w0 mb fs nx M o w vl ks W o' m' V'
section
variable {M:Nat}{vl vl':Value}{ks:List Int}{W W':World}
theorem BuiT.go (h:BuiT K n Od room w0 mb fs nx M o w vl ks W o' m' V'){M':Nat}(g:Goes K n Od room w0 mb fs' nx' (NoW M') o' W W'):BuiS K n Od room w0 mb fs' nx' M' o w vl ks W':=by
 obtain⟨o2,m2,V2,h1,h2,h3⟩:=g;exact⟨o2,m2,V2,h3,h2,h.chg.trans h1 (fun _ _ e=>e),h.l.chg h1⟩
theorem BuiT.refl (h:BuiT K n Od room w0 mb fs nx M o w vl ks W o' m' V'):Goes K n Od room w0 mb fs nx (NoW M) o' W W:=Goes.refl h.sat h.waits
theorem BuiS.below (h:BuiS K n Od room w0 mb fs nx M o w vl ks W)(hb:Below W.heap.size W W'):BuiS K n Od room w0 mb fs nx M o w vl ks W':=by
 obtain⟨o',m',V',h⟩:=h;exact h.go (h.refl.below hb)
theorem BuiS.goes (h:BuiS K n Od room w0 mb fs nx M o w vl ks W):Goes K n Od room w0 mb fs nx (NoW M) o w W:=by
 obtain⟨o',m',V',h⟩:=h;exact⟨o',m',V',h.chg,h.waits,h.sat⟩
theorem BuiS.app {k:Int}(h:BuiT K n Od room w0 mb fs nx M o w vl ks W o' m' V')(hown:OwnC 3 W' w.heap.size vl' (Za3 ks++[.int .i64 k]))(e1:W'.os=W.os)(e2:W'.tape=W.tape)(e3:W'.output=W.output)(e4:W.heap.size<=W'.heap.size)(hk:Zdg vl vl' W W')(hw0:w0.heap.size<=w.heap.size) :
 BuiS K n Od room w0 mb fs nx M o w vl' (ks++[k]) W':=by
 have hw:=Zua e1 e2 e3 e4 hk;exact⟨o',m',V',h.sat.other hw (fun k _ hk=>⟨by have:=(h.l.own.lt k hk).1;omega,h.l.no k hk⟩),h.waits,h.chg.trans (ChgX.of_wr (C:=fun k=>w.heap.size<=k) hw o' (fun k _ hk=>(h.l.own.lt k hk).1)) (fun k hk e=>by omega),h.l.app h.sat.lt hown hk⟩
theorem BuiS.cells (h:BuiS K n Od room w0 mb fs nx M o w vl ks W)(hp:0<ks.length):∃ g c,vl=.slice (some ⟨g,0,none⟩) ks.length c/\∀ j,j<ks.length->W.cell? ⟨g,j,none⟩=some (.int .i64 (at0 ks j)):=by
 obtain⟨o',m',V',h⟩:=h;obtain⟨g,c,e,_⟩:=h.l.own.shape (by simpa [Za3] using hp);have e':vl=.slice (some ⟨g,0,none⟩) ks.length c:=by rw[e];simp[Za3]
 refine⟨g,c,e',fun j hj=>?_⟩;have ho:=h.l.own;rw[e'] at ho;rw[ho.cell j (by simpa [Za3] using hj)];simp[Za3,Zbw hj,hj]
theorem BuiS.cellsN (h:BuiS K n Od room w0 mb fs nx M o w vl ks W){i:Nat}(hl:ks.length=i)(hp:0<i):∃ g c,vl=.slice (some ⟨g,0,none⟩) i c/\∀ j,j<i->W.cell? ⟨g,j,none⟩=some (.int .i64 (at0 ks j)):=by
 subst hl;exact h.cells hp
end
def Zhz (n s:Nat):Nat:=s*2^n-(2^n-1)
theorem Zh9 (n:Nat){s:Nat}(h:1<=s):Zhz n s+(2^n-1)=s*2^n:=by
 have:=Nat.mul_le_mul_right (2^n) h;unfold Zhz;omega
def Zev (n:Nat)(kid:Nat->ExT)(i:Nat):Nat:=sumN i fun j=>Zhz n (kid j).size
theorem Zpd (n:Nat)(kid:Nat->ExT):∀ i,Zev n kid i+i*(2^n-1)=(sumN i fun i=>(kid i).size)*2^n
 | 0=>by simp[Zev,sumN]
 | i+1=>by
   have h1:=Zpd n kid i;have h2:=Zh9 n (kid i).size_pos
   show Zev n kid i+Zhz n (kid i).size+(i+1)*(2^n-1)=((sumN i fun i=>(kid i).size)+(kid i).size)*2^n
   rw[Nat.add_mul,Nat.add_mul];omega
structure BCtx (K:Law)(n:Nat)(Od:List Nat->Prop)(room:Nat)(w0:World)(mb:Nat)(fs:List (Int×BF))(nx:Int)(M:Nat)(w w1:World)(o:Own)(m:ManD)(V:Nat->BF)(op v:Int)(nk:Nat)(kid:Nat->ExT)(a:Option Addr)(c:Nat)(E:ExT)(Q:Ending->World->Prop):Prop where
 HKK:Hid (Zdu K)
 H5:Hid (∀ k,k<nk->∃ b off x0 x1 x2,a=some ⟨b,off,none⟩/\w0.cell? ⟨b,off+k*3,none⟩=some x0/\w0.cell? ⟨b,off+k*3+1,none⟩=some x1/\w0.cell? ⟨b,off+k*3+2,none⟩=some x2/\Za1 w0 (kid k) (.agg #[x0,x1,x2]))
 HKS:Hid (∀ i,i<nk->(sumN i fun i=>(kid i).size)+(kid i).size+1<=E.size)
 HSZ:Hid (E.size=1+sumN nk fun i=>(kid i).size)
 HPOS:Hid (∀ k,k<=sumN k fun i=>(kid i).size)
 IH:Hid (∀ (i:Nat) (x:Value) (fs':List (Int×BF)) (nx':Int) (W:World) (o':Own) (m':ManD) (V':Nat->BF) (M':Nat),i<nk->SatE K n Od room w0 mb fs' nx' W o' m' V'->m'.waits=[]/\m'.d.pool.many<=M'->B2 fs'->Za1 w0 (kid i) x->nx'+3*(kid i).size<549755813000->M'+(kid i).size*2^n<=room ->
  Calls prog 15 #[.pointer (some ⟨mb,0,none⟩),x] W fun y w'=>∃ k:Int,y=.returned (.tuple #[.int .i64 k,.bool true])/\k+3<=nx'+3*(kid i).size/\Goes K n Od room w0 mb (fs'++[(k,fnT (kid i))]) (k+1) (NoW (M'+Zhz n (kid i).size)) o' W w')
 HW1:Hid (w.alloc (.cells #[.int .i64 op,.int .i64 v,.slice a nk c] 36)=w1)
 HG1:Hid (Goes K n Od room w0 mb fs nx (NoW M) o w1 w1)
 HSAT1:Hid (SatE K n Od room w0 mb fs nx w1 o m V)
 HWT:Hid (m.waits=[]/\m.d.pool.many<=M)
 HB2:Hid (B2 fs)
 HQ:Hid (∀ (k:Int) F W M',F=fnT E->k+3<=nx+3*E.size->M'<=M+Zhz n E.size->Goes K n Od room w0 mb (fs++[(k,F)]) (k+1) (NoW M') o w1 W->Q (.returned (.tuple #[.int .i64 k,.bool true])) W)
 HMR:Hid (∀ i,i<nk->M+(sumN i fun i=>(kid i).size)*2^n+(kid i).size*2^n+2^n<=room)
 HCK:Hid (∀ i,Zev n kid i+i*(2^n-1)=(sumN i fun i=>(kid i).size)*2^n)
 HCI:Hid (∀ i,Zhz n (kid i).size+(2^n-1)=(kid i).size*2^n)
 HEP:Hid (E.size*2^n=2^n+(sumN nk fun i=>(kid i).size)*2^n/\Zhz n E.size+(2^n-1)=E.size*2^n)
 HME:Hid (M+E.size*2^n<=room)
 hn64:nk<=64
 hnx:nx+3*E.size<549755813000
 hE1:1<=E.size
 hs1:w1.heap.size=w.heap.size+1
 d0:w1.cell? ⟨w.heap.size,0,none⟩=some (.int .i64 op)
 d1:w1.cell? ⟨w.heap.size,1,none⟩=some (.int .i64 v)
 d2:w1.cell? ⟨w.heap.size,2,none⟩=some (.slice a nk c)
 on:o w.heap.size=none
 hw0:w0.heap.size<=w1.heap.size
 hp2:0<2^n
 h2 : -9223372036854775808<=op/\op<=9223372036854775807
 h3 : -9223372036854775808<=v/\v<=9223372036854775807
theorem Zuj {w1:World}{op v:Int}{nk:Nat}{kid:Nat->ExT}{a:Option Addr}{c:Nat}{E:ExT}{Q:Ending->World->Prop}{M:Nat}(hctx:BCtx K n Od room w0 mb fs nx M w w1 o m V op v nk kid a c E Q)(h1:op=1)(hF:fnT E=fun _=>true) :
 Calls prog 15 #[.pointer (some ⟨mb,0,none⟩),.agg #[.int .i64 op,.int .i64 v,.slice a nk c]] w Q:=by
 obtain⟨HKK,H5,HKS,HSZ,HPOS,IH,HW1,HG1,HSAT1,HWT,HB2,HQ,HMR,HCK,HCI,HEP,HME,hn64,hnx,hE1,hs1,d0,d1,d2,on,hw0,hp2,h2,h3⟩:=hctx;subst h1;have g2:=Hd (Zgl mb true w1);have g1:=Hd (Znm HKK.out HG1.out (by omega) (k:=1) (F:=fun _=>true) HB2.out.one);have g0:Hid ((fun _=>true)=fnT E):=Hd hF.symm;have g3:Hid (M<=M+Zhz n E.size):=Hd (Nat.le_add_right _ _);clear IH
 go_enter func15,ntmps15
 go_upto_region 1 with fail;rw[HW1.out];go_wp2_with fail;refine g2.out.mono ?_;rintro y w' ⟨rfl,rfl⟩;go_wp2_with fail;refine g1.out.mono ?_;rintro y w2 ⟨rfl,g⟩;have HF:=Hd (HQ.out nx _ w2 _ g0.out (by omega) g3.out g);clear g;go_wp2_with fail;exact HF.out
theorem Zrh {w1:World}{op v:Int}{nk:Nat}{kid:Nat->ExT}{a:Option Addr}{c:Nat}{E:ExT}{Q:Ending->World->Prop}{M:Nat}(hctx:BCtx K n Od room w0 mb fs nx M w w1 o m V op v nk kid a c E Q)(h1:op=2)(hF:fnT E=fun _=>false) :
 Calls prog 15 #[.pointer (some ⟨mb,0,none⟩),.agg #[.int .i64 op,.int .i64 v,.slice a nk c]] w Q:=by
 obtain⟨HKK,H5,HKS,HSZ,HPOS,IH,HW1,HG1,HSAT1,HWT,HB2,HQ,HMR,HCK,HCI,HEP,HME,hn64,hnx,hE1,hs1,d0,d1,d2,on,hw0,hp2,h2,h3⟩:=hctx;subst h1;have g2:=Hd (Zgl mb false w1);have g1:=Hd (Znm HKK.out HG1.out (by omega) (k:=0) (F:=fun _=>false) HB2.out.zero);have g0:Hid ((fun _=>false)=fnT E):=Hd hF.symm;have g3:Hid (M<=M+Zhz n E.size):=Hd (Nat.le_add_right _ _);clear IH
 go_enter func15,ntmps15
 go_upto_region 1 with fail;rw[HW1.out];go_wp2_with fail;refine g2.out.mono ?_;rintro y w' ⟨rfl,rfl⟩;go_wp2_with fail;refine g1.out.mono ?_;rintro y w2 ⟨rfl,g⟩;have HF:=Hd (HQ.out nx _ w2 _ g0.out (by omega) g3.out g);clear g;go_wp2_with fail;exact HF.out
theorem Zwp {w1:World}{op v:Int}{nk:Nat}{kid:Nat->ExT}{a:Option Addr}{c:Nat}{E:ExT}{Q:Ending->World->Prop}{M:Nat}(hctx:BCtx K n Od room w0 mb fs nx M w w1 o m V op v nk kid a c E Q){u:Nat}(hu:u<n)(h1:op=3)(hvu:v=u)(hF:fnT E=varF u) :
 Calls prog 15 #[.pointer (some ⟨mb,0,none⟩),.agg #[.int .i64 op,.int .i64 v,.slice a nk c]] w Q:=by
 obtain⟨HKK,H5,HKS,HSZ,HPOS,IH,HW1,HG1,HSAT1,HWT,HB2,HQ,HMR,HCK,HCI,HEP,HME,hn64,hnx,hE1,hs1,d0,d1,d2,on,hw0,hp2,h2,h3⟩:=hctx;subst hvu;subst h1;have g1:=Hd (Ye7 HKK.out HG1.out (by omega) (by have:=HEP.out;have:=HME.out;omega) hu);have g0:Hid (varF u=fnT E):=Hd hF.symm;have g2:Hid (M+1<=M+Zhz n E.size):=Hd (by have:=HEP.out;omega);clear IH
 go_enter func15,ntmps15
 go_upto_region 1 with fail;rw[HW1.out];go_wp2_with fail;refine g1.out.mono ?_;rintro y w2 ⟨rfl,g⟩;have HF:=Hd (HQ.out nx _ w2 _ g0.out (by omega) g2.out g);clear g;go_wp2_with fail;exact HF.out
end
open Go.RowKit
section
variable {K:Law}{n:Nat}{Od:List Nat->Prop}{room:Nat}{w0 w w' w'':World}{mb:Nat}{fs fs':List (Int×BF)}{nx nx':Int}{o o':Own}{m m':ManD}{V V':Nat->BF}
theorem Zwl {w1:World}{op v:Int}{nk:Nat}{kid:Nat->ExT}{a:Option Addr}{c:Nat}{E:ExT}{Q:Ending->World->Prop}{M:Nat}(hctx:BCtx K n Od room w0 mb fs nx M w w1 o m V op v nk kid a c E Q)(h1:op=5\/op=6\/op=7)(hF:fnT E=accT op kid nk) :
 Calls prog 15 #[.pointer (some ⟨mb,0,none⟩),.agg #[.int .i64 op,.int .i64 v,.slice a nk c]] w Q:=by
 obtain⟨HKK,H5,HKS,HSZ,HPOS,IH,HW1,HG1,HSAT1,HWT,HB2,HQ,HMR,HCK,HCI,HEP,HME,hn64,hnx,hE1,hs1,d0,d1,d2,on,hw0,hp2,h2,h3⟩:=hctx;have ga:5<=op/\op<=9:=by omega
 have gb:Hid (accT op kid nk=fnT E):=Hd hF.symm;have gc:=Hd (fun b=>Zgl mb b w1)
 have g8:Hid (∀ z:Int,z=(if op=5 then 1 else 0)->Calls prog 62 #[.pointer (some ⟨mb,0,none⟩),.int .i64 z] w1 fun x w''=>x=.returned (.tuple #[.int .i64 nx,.int .i64 0])/\Goes K n Od room w0 mb (fs++[(nx,accT op kid 0)]) (nx+1) (NoW M) o w1 w''):=Hd (by
  rintro z rfl
  by_cases e:op=5
  . rw[if_pos e,show accT op kid 0=fun _=>true by unfold accT;simp[e]];exact Znm HKK.out HG1.out (by omega) HB2.out.one
  . rw[if_neg e,show accT op kid 0=fun _=>false by unfold accT;simp[e]];exact Znm HKK.out HG1.out (by omega) HB2.out.zero)
 obtain⟨A,hA⟩:∃ A:Nat->BF,A=accT op kid:=⟨_,rfl⟩;have gi:Hid (∀ i,Zp1 op (A i) (fnT (kid i))=A (i+1)):=Hd fun i=>by rw[hA];rfl
 rw[<- hA] at g8 gb;clear hA;rcases h1 with h1|h1|h1
 all_goals
  subst h1
  go_enter func15,ntmps15
  go_upto_region 1 with fail;rw[HW1.out];go_wp2_with fail;refine(gc.out _).mono ?_;rintro y w' ⟨rfl,rfl⟩;go_wp2_with fail;refine(g8.out _ (by rfl)).mono ?_;rintro y w2 ⟨rfl,g⟩;have gh:=Hd g;clear g gc g8;go_wp2_with fail
  go_loopw [10,12,13,14] (fun s10 s12 s13 s14 wr=>∃ (i:Nat) (k:Int),i<=nk/\s10=.int .i64 k/\s12=.bool true/\s13=.int .i64 i/\Hid (k+3<=nx+3*((1+sumN i fun i=>(kid i).size:Nat):Int))/\Hid (Goes K n Od room w0 mb (fs++[(k,A i)]) (k+1) (NoW (M+(sumN i fun i=>(kid i).size)*2^n)) o w1 wr)) (fun _ _ s13 _ _=>nk-(intOf s13).toNat)
  case atStart=>exact⟨0,nx,Nat.zero_le _,rfl,rfl,rfl,Hd (by show nx+3<=nx+3*((1+0:Nat):Int);omega),Hd (gh.out.more (Nat.le_add_right _ _))⟩
  case round =>
   obtain⟨i,k,hi,rfl,rfl,rfl,HN,HG⟩:=hrel;have e0:=HG.out.cell (p:=⟨w.heap.size,0,none⟩) d0 on;have e2:=HG.out.cell (p:=⟨w.heap.size,2,none⟩) d2 on
   by_cases g0:i<nk
   ·obtain⟨b,off,x0,x1,x2,rfl,c0,c1,c2,hx⟩:=H5.out i g0;have g1:=HG.out.below0;have q0:=(g1.cell (p:=⟨b,off+i*3,none⟩) (Zab c0)).trans c0;have q1:=(g1.cell (p:=⟨b,off+i*3+1,none⟩) (Zab c1)).trans c1;have q2:=(g1.cell (p:=⟨b,off+i*3+2,none⟩) (Zab c2)).trans c2;have ge:(i:Int)<nk:=by omega
    have gk:=HKS.out i g0;obtain⟨o1,m1,V1,g9,g5,g6⟩:=HG.out;have gj:=HN.out;have g2:=Hd (IH.out i _ (fs++[(k,A i)]) (k+1) _ o1 m1 V1 _ g0 g6 g5 (HB2.out.app _) hx (by omega) (by have:=HMR.out i g0;omega));have gd:=Hd g9;clear g1 c0 c1 c2 hx g6 g5 g9;go_wp2_with fail;refine g2.out.mono ?_;rintro y w3 ⟨k2,rfl,gm,g3⟩
    have g7:Hid (Goes K n Od room w0 mb (fs++[(k,A i),(k2,fnT (kid i))]) (k2+1) (NoW (M+(sumN i fun i=>(kid i).size)*2^n+Zhz n (kid i).size)) o w1 w3):=Hd (by
     have:=g3.after gd.out;rw[List.append_assoc] at this;exact this)
    have f0:=g7.out.cell (p:=⟨w.heap.size,0,none⟩) d0 on;have HJ:=Hd (Zs4 HKK.out g7.out HB2.out (by omega) (by have:=HMR.out i g0;have:=HCI.out i;omega) ga.1 ga.2);clear g3 g2 gd q0 q1 q2 e0 e2;go_wp2_with fail;refine HJ.out.mono ?_;rintro y w4 ⟨k4,rfl,gl,g4⟩
    have gg:Hid (Goes K n Od room w0 mb (fs++[(k4,A (i+1))]) (k4+1) (NoW (M+(sumN (i+1) fun i=>(kid i).size)*2^n)) o w1 w4):=Hd (by
     rw[<- gi.out i];refine g4.more ?_
     show _<=M+((sumN i fun i=>(kid i).size)+(kid i).size)*2^n
     rw[Nat.add_mul];have:=HCI.out i;omega)
    have gf:Hid (k4+3<=nx+3*((1+sumN (i+1) fun i=>(kid i).size:Nat):Int)):=Hd (by
     show k4+3<=nx+3*((1+((sumN i fun i=>(kid i).size)+(kid i).size):Nat):Int)
     omega)
    clear g4 HJ f0 g7;go_wp2_with fail;go_roundw
    case rel=>exact⟨i+1,k4,by omega,rfl,rfl,by go_num,gf,gg⟩
    case measure=>simp[intOf];omega
   ·obtain rfl:i=nk:=by omega
    have ge:¬ (i:Int)<i:=by omega
    have HF:=Hd (HQ.out k _ _ _ gb.out (by have:=HN.out;have:=HSZ.out;omega) (by have:=HEP.out;omega) HG.out);go_wp2_with fail;exact HF.out
end
open Go.RowKit
section
variable {K:Law}{n:Nat}{Od:List Nat->Prop}{room:Nat}{w0 w w' w'':World}{mb:Nat}{fs fs':List (Int×BF)}{nx nx':Int}{o o':Own}{m m':ManD}{V V':Nat->BF}
theorem Zwn {w1:World}{op v:Int}{nk:Nat}{kid:Nat->ExT}{a:Option Addr}{c:Nat}{E:ExT}{Q:Ending->World->Prop}{M:Nat}(hctx:BCtx K n Od room w0 mb fs nx M w w1 o m V op v nk kid a c E Q)(h1:op=4)(hnk:nk=1)(hF:fnT E=notF (fnT (kid 0))) :
 Calls prog 15 #[.pointer (some ⟨mb,0,none⟩),.agg #[.int .i64 op,.int .i64 v,.slice a nk c]] w Q:=by
 obtain⟨HKK,H5,HKS,HSZ,HPOS,IH,HW1,HG1,HSAT1,HWT,HB2,HQ,HMR,HCK,HCI,HEP,HME,hn64,hnx,hE1,hs1,d0,d1,d2,on,hw0,hp2,h2,h3⟩:=hctx;have g1:(op == 1)=false:=by simp;omega
 have g2:(op == 2)=false:=by simp;omega
 have g3:(op == 3)=false:=by simp;omega
 have g5:(op == 5)=false:=by simp;omega
 have g6:(op == 6)=false:=by simp;omega
 have g7:(op == 7)=false:=by simp;omega
 have g4:(op == 4)=true:=by simp;omega
 have gB:=Hd hnk;clear h1 hnk;obtain⟨w2,ge⟩:∃ w2,w2=w1.alloc (.cells #[] 3):=⟨_,rfl⟩;have gA:Hid (_=w2):=Hd ge.symm;have g9:Below w1.heap.size w1 w2:=by rw[ge];exact Zaf _ _
 have gl:Hid (BuiS K n Od room w0 mb (fs++[]) nx (M+Zev n kid 0) o w1 (.slice (some ⟨w.heap.size+1,0,none⟩) 0 0) (([]:List (Int×BF)).map Prod.fst) w2):=Hd ⟨o,m,V,by rw[List.append_nil];exact HSAT1.out.below g9,HWT.out,Zcu g9 o,by rw[ge,<- hs1];exact Ze2 _ _ _ (Nat.le_refl _),fun k hk=>by cases hk;rw[<- hs1];exact HSAT1.out.lt.none (Nat.le_refl _)⟩;have gm:=Hd g9;clear ge g9
 go_enter func15,ntmps15
 go_upto_region 1 with fail;rw[HW1.out];go_upto_region 23 with fail;rw[gA.out];have e2:=(gm.out.cell (p:=⟨w.heap.size,2,none⟩) (Zab d2)).trans d2;go_wp2_with fail
 go_loopw [15,106] (fun s15 s106 wr=>∃ (i:Nat) (hs:List (Int×BF)) (nxi:Int),i<=nk/\s106=.int .i64 i/\hs.length=i/\nxi+2*i<=nx+3*((sumN i fun i=>(kid i).size:Nat):Int)/\Hid (∀ j (hj:j<hs.length),hs[j].2=fnT (kid j))/\Hid (BuiS K n Od room w0 mb (fs++hs) nxi (M+Zev n kid i) o w1 s15 (hs.map Prod.fst) wr)) (fun _ s106 _=>nk-(intOf s106).toNat)
 case atStart=>exact⟨0,[],nx,Nat.zero_le _,rfl,rfl,by show nx+2*((0:Nat):Int)<=nx+3*((0:Nat):Int);omega,Hd (fun j hj=>by simp at hj),gl⟩
 case round =>
  clear gl gm e2
  rename World=>wy
  obtain⟨i,hs,nxi,hi,rfl,gy,gG,gr,g0⟩:=hrel
  by_cases gh:i<nk
  ·obtain⟨b,off,x0,x1,x2,rfl,c0,c1,c2,hx⟩:=H5.out i gh;have gi:=g0.out.goes.below0;have q0:=(gi.cell (p:=⟨b,off+i*3,none⟩) (Zab c0)).trans c0;have q1:=(gi.cell (p:=⟨b,off+i*3+1,none⟩) (Zab c1)).trans c1;have q2:=(gi.cell (p:=⟨b,off+i*3+2,none⟩) (Zab c2)).trans c2;obtain⟨zo,zv,za,zn,zc,rfl,rfl,rfl⟩:=hx.parts;have gx:(i:Int)<nk:=by omega
   have gI:=HKS.out i gh;obtain⟨wz,gd⟩:∃ wz,wz=wy.alloc (.cells #[.int .i64 zo,.int .i64 zv,.slice za zn zc] 36):=⟨_,rfl⟩;have gz:Hid (_=wz):=Hd gd.symm;have gq:Below wy.heap.size wy wz:=by rw[gd];exact Zaf _ _
   have g8:wz.heap[wy.heap.size]?=some (.cells #[.int .i64 zo,.int .i64 zv,.slice za zn zc] 36 (0,0)):=by rw[gd];exact heap_alloc_new _ _
   have p0:wz.cell? ⟨wy.heap.size,0,none⟩=some (.int .i64 zo):=by rw[cell_of_row _ _ 0 _ _ _ g8];rfl
   have p1:wz.cell? ⟨wy.heap.size,1,none⟩=some (.int .i64 zv):=by rw[cell_of_row _ _ 1 _ _ _ g8];rfl
   have p2:wz.cell? ⟨wy.heap.size,2,none⟩=some (.slice za zn zc):=by rw[cell_of_row _ _ 2 _ _ _ g8];rfl
   obtain⟨o1,m1,V1,bt⟩:=g0.out.below gq;have gF:=HPOS.out i;have gj:=Hd (IH.out i _ (fs++hs) nxi wz o1 m1 V1 _ gh bt.sat bt.waits (HB2.out.app _) hx (by omega) (by have:=HMR.out i gh;have:=HCK.out i;omega));have gb:=Hd bt;clear gi c0 c1 c2 hx bt gd gq g8 g0;go_upto_region 26 with fail;rw[gz.out];clear q0 q1 q2;go_wp2_with fail;refine gj.out.mono ?_;rintro y w3 ⟨k2,rfl,gJ,gg⟩;have gk:=Hd (gb.out.go (M':=M+Zev n kid (i+1)) (gg.more (Nat.le_of_eq (Nat.add_assoc _ _ _))));have gD:Hid (∀ j (hj:j<(hs++[(k2,fnT (kid i))]).length),(hs++[(k2,fnT (kid i))])[j].2=fnT (kid j)):=Hd fun j hj=>by
    rcases Nat.lt_or_ge j hs.length with h|h
    . rw[List.getElem_append_left h];exact gr.out j h
    ·have gw:j=i:=by simp at hj;omega
     subst gw;rw[List.getElem_append_right (by omega)];simp
   clear gg gj gb p0 p1 p2;obtain⟨o3,m3,V3,bt3⟩:=gk.out;have gu:w1.heap.size<=w3.heap.size:=bt3.chg.size;have gc:=Hd bt3;clear bt3;go_upto_region 30 with (at_builtin;refine Zcl Zno _ rfl _ _ rfl w1.heap.size _ (Za3 (hs.map Prod.fst)) _ rfl rfl rfl rfl rfl (by exact gc.out.l.own) (by simp[Za3];omega) gu ?_;intro v5 w5 gf r1 r2 r3 r4 gn)
   have gv:Hid (BuiS K n Od room w0 mb (fs++(hs++[(k2,fnT (kid i))])) (k2+1) (M+Zev n kid (i+1)) o w1 v5 ((hs++[(k2,fnT (kid i))]).map Prod.fst) w5):=Hd (by
    have:=BuiS.app gc.out gf r1 r2 r3 r4 gn hw0;rw[List.append_assoc] at this;rw[List.map_append];exact this)
   clear gf r1 r2 r3 r4 gn gc gk;go_wp2_with fail;go_roundw
   case rel=>exact⟨i+1,hs++[(k2,fnT (kid i))],k2+1,by omega,by go_num,by simp;omega,by
    show k2+1+2*((i+1:Nat):Int)<=nx+3*(((sumN i fun i=>(kid i).size)+(kid i).size:Nat):Int)
    omega,gD,gv⟩
   case measure=>simp[intOf];omega
  ·obtain rfl:i=nk:=by omega
   have gx:¬ (i:Int)<i:=by omega
   have f0:=g0.out.goes.cell (p:=⟨w.heap.size,0,none⟩) d0 on;have gt:=HSZ.out;have gE:nxi+2*i+3<=nx+3*E.size:=by omega
   have hnk:=gB.out;have gH:1<=i:=by omega
   clear gt H5 IH HSZ HKS HPOS;obtain⟨o1,m1,V1,bt⟩:=g0.out;have gb:=Hd bt;clear bt;subst hnk;obtain⟨⟨k0,F0⟩,rfl⟩:=List.length_eq_one_iff.1 gy;obtain⟨g,cp,rfl,ga⟩:=g0.out.cellsN (i:=1) rfl (by omega);have c0:wy.cell? ⟨g,0,none⟩=some (.int .i64 k0):=ga 0 (by omega);have HF:Hid (notF F0=fnT E):=Hd (by rw[hF,<- gr.out 0 (by simp)];rfl);have HN:=Hd (Yb6 HKK.out gb.out.refl (by omega) (k:=k0) (F:=F0) (by simp));clear ga;go_wp2_with fail;refine HN.out.mono ?_;rintro y w3 ⟨rfl,g3⟩;have gs:=Hd (gb.out.go g3);obtain⟨g',cp',ev,gp⟩:=gs.out.cellsN (i:=1) rfl (by omega);cases ev;have c3:w3.cell? ⟨g,0,none⟩=some (.int .i64 k0):=gp 0 (by omega);have HD:=Hd (Znn HKK.out (hs:=[(k0,F0)]) (r:=[(nxi,notF F0)]) (by have:=gs.out.goes;rw[List.append_assoc] at this;exact this) HB2.out (by omega) (by simp) (T:=w3.alloc (.cells #[.int .i64 k0] 3)) rfl);clear g3 gp HN;go_wp2_with fail;refine HD.out.mono ?_;rintro y w4 ⟨rfl,g4⟩;have gC:=Hd (HQ.out nxi _ w4 _ HF.out (by omega) (by have:=HEP.out;have:=HCK.out 1;omega) g4);clear g4 HD;go_wp2_with fail;exact gC.out
end
open Go.RowKit
section
variable {K:Law}{n:Nat}{Od:List Nat->Prop}{room:Nat}{w0 w w' w'':World}{mb:Nat}{fs fs':List (Int×BF)}{nx nx':Int}{o o':Own}{m m':ManD}{V V':Nat->BF}
theorem Zwo {w1:World}{op v:Int}{nk:Nat}{kid:Nat->ExT}{a:Option Addr}{c:Nat}{E:ExT}{Q:Ending->World->Prop}{M:Nat}(hctx:BCtx K n Od room w0 mb fs nx M w w1 o m V op v nk kid a c E Q)(h1:op=8\/op=9)(hnk:nk=2)(hF:fnT E=Zp1 op (fnT (kid 0)) (fnT (kid 1))) :
 Calls prog 15 #[.pointer (some ⟨mb,0,none⟩),.agg #[.int .i64 op,.int .i64 v,.slice a nk c]] w Q:=by
 obtain⟨HKK,H5,HKS,HSZ,HPOS,IH,HW1,HG1,HSAT1,HWT,HB2,HQ,HMR,HCK,HCI,HEP,HME,hn64,hnx,hE1,hs1,d0,d1,d2,on,hw0,hp2,h2,h3⟩:=hctx;have g1:(op == 1)=false:=by simp;omega
 have g2:(op == 2)=false:=by simp;omega
 have g3:(op == 3)=false:=by simp;omega
 have g5:(op == 5)=false:=by simp;omega
 have g6:(op == 6)=false:=by simp;omega
 have g7:(op == 7)=false:=by simp;omega
 have g4:(op == 4)=false:=by simp;omega
 have g10:(op == 10)=false:=by simp;omega
 have gA:=Hd hnk;have H1:=Hd h1;clear h1 hnk;obtain⟨w2,ge⟩:∃ w2,w2=w1.alloc (.cells #[] 3):=⟨_,rfl⟩;have gz:Hid (_=w2):=Hd ge.symm;have gb:Below w1.heap.size w1 w2:=by rw[ge];exact Zaf _ _
 have gm:Hid (BuiS K n Od room w0 mb (fs++[]) nx (M+Zev n kid 0) o w1 (.slice (some ⟨w.heap.size+1,0,none⟩) 0 0) (([]:List (Int×BF)).map Prod.fst) w2):=Hd ⟨o,m,V,by rw[List.append_nil];exact HSAT1.out.below gb,HWT.out,Zcu gb o,by rw[ge,<- hs1];exact Ze2 _ _ _ (Nat.le_refl _),fun k hk=>by cases hk;rw[<- hs1];exact HSAT1.out.lt.none (Nat.le_refl _)⟩;have gn:=Hd gb;clear ge gb
 go_enter func15,ntmps15
 go_upto_region 1 with fail;rw[HW1.out];go_upto_region 23 with fail;rw[gz.out];have e2:=(gn.out.cell (p:=⟨w.heap.size,2,none⟩) (Zab d2)).trans d2;go_wp2_with fail
 go_loopw [15,106] (fun s15 s106 wr=>∃ (i:Nat) (hs:List (Int×BF)) (nxi:Int),i<=nk/\s106=.int .i64 i/\hs.length=i/\nxi+2*i<=nx+3*((sumN i fun i=>(kid i).size:Nat):Int)/\Hid (∀ j (hj:j<hs.length),hs[j].2=fnT (kid j))/\Hid (BuiS K n Od room w0 mb (fs++hs) nxi (M+Zev n kid i) o w1 s15 (hs.map Prod.fst) wr)) (fun _ s106 _=>nk-(intOf s106).toNat)
 case atStart=>exact⟨0,[],nx,Nat.zero_le _,rfl,rfl,by show nx+2*((0:Nat):Int)<=nx+3*((0:Nat):Int);omega,Hd (fun j hj=>by simp at hj),gm⟩
 case round =>
  clear gm gn e2
  rename World=>wy
  obtain⟨i,hs,nxi,hi,rfl,gx,gF,gk,g9⟩:=hrel
  by_cases gh:i<nk
  ·obtain⟨b,off,x0,x1,x2,rfl,c0,c1,c2,hx⟩:=H5.out i gh;have gi:=g9.out.goes.below0;have q0:=(gi.cell (p:=⟨b,off+i*3,none⟩) (Zab c0)).trans c0;have q1:=(gi.cell (p:=⟨b,off+i*3+1,none⟩) (Zab c1)).trans c1;have q2:=(gi.cell (p:=⟨b,off+i*3+2,none⟩) (Zab c2)).trans c2;obtain⟨zo,zv,za,zn,zc,rfl,rfl,rfl⟩:=hx.parts;have gw:(i:Int)<nk:=by omega
   have gH:=HKS.out i gh;obtain⟨wz,gd⟩:∃ wz,wz=wy.alloc (.cells #[.int .i64 zo,.int .i64 zv,.slice za zn zc] 36):=⟨_,rfl⟩;have gy:Hid (_=wz):=Hd gd.symm;have gr:Below wy.heap.size wy wz:=by rw[gd];exact Zaf _ _
   have ga:wz.heap[wy.heap.size]?=some (.cells #[.int .i64 zo,.int .i64 zv,.slice za zn zc] 36 (0,0)):=by rw[gd];exact heap_alloc_new _ _
   have p0:wz.cell? ⟨wy.heap.size,0,none⟩=some (.int .i64 zo):=by rw[cell_of_row _ _ 0 _ _ _ ga];rfl
   have p1:wz.cell? ⟨wy.heap.size,1,none⟩=some (.int .i64 zv):=by rw[cell_of_row _ _ 1 _ _ _ ga];rfl
   have p2:wz.cell? ⟨wy.heap.size,2,none⟩=some (.slice za zn zc):=by rw[cell_of_row _ _ 2 _ _ _ ga];rfl
   obtain⟨o1,m1,V1,bt⟩:=g9.out.below gr;have gE:=HPOS.out i;have gj:=Hd (IH.out i _ (fs++hs) nxi wz o1 m1 V1 _ gh bt.sat bt.waits (HB2.out.app _) hx (by omega) (by have:=HMR.out i gh;have:=HCK.out i;omega));have g8:=Hd bt;clear gi c0 c1 c2 hx bt gd gr ga g9;go_upto_region 26 with fail;rw[gy.out];clear q0 q1 q2;go_wp2_with fail;refine gj.out.mono ?_;rintro y w3 ⟨k2,rfl,gI,gg⟩;have gl:=Hd (g8.out.go (M':=M+Zev n kid (i+1)) (gg.more (Nat.le_of_eq (Nat.add_assoc _ _ _))));have gC:Hid (∀ j (hj:j<(hs++[(k2,fnT (kid i))]).length),(hs++[(k2,fnT (kid i))])[j].2=fnT (kid j)):=Hd fun j hj=>by
    rcases Nat.lt_or_ge j hs.length with h|h
    . rw[List.getElem_append_left h];exact gk.out j h
    ·have gv:j=i:=by simp at hj;omega
     subst gv;rw[List.getElem_append_right (by omega)];simp
   clear gg gj g8 p0 p1 p2;obtain⟨o3,m3,V3,bt3⟩:=gl.out;have gt:w1.heap.size<=w3.heap.size:=bt3.chg.size;have gc:=Hd bt3;clear bt3;go_upto_region 30 with (at_builtin;refine Zcl Zno _ rfl _ _ rfl w1.heap.size _ (Za3 (hs.map Prod.fst)) _ rfl rfl rfl rfl rfl (by exact gc.out.l.own) (by simp[Za3];omega) gt ?_;intro v5 w5 gf r1 r2 r3 r4 gp)
   have gu:Hid (BuiS K n Od room w0 mb (fs++(hs++[(k2,fnT (kid i))])) (k2+1) (M+Zev n kid (i+1)) o w1 v5 ((hs++[(k2,fnT (kid i))]).map Prod.fst) w5):=Hd (by
    have:=BuiS.app gc.out gf r1 r2 r3 r4 gp hw0;rw[List.append_assoc] at this;rw[List.map_append];exact this)
   clear gf r1 r2 r3 r4 gp gc gl;go_wp2_with fail;go_roundw
   case rel=>exact⟨i+1,hs++[(k2,fnT (kid i))],k2+1,by omega,by go_num,by simp;omega,by
    show k2+1+2*((i+1:Nat):Int)<=nx+3*(((sumN i fun i=>(kid i).size)+(kid i).size:Nat):Int)
    omega,gC,gu⟩
   case measure=>simp[intOf];omega
  ·obtain rfl:i=nk:=by omega
   have gw:¬ (i:Int)<i:=by omega
   have f0:=g9.out.goes.cell (p:=⟨w.heap.size,0,none⟩) d0 on;have gs:=HSZ.out;have gD:nxi+2*i+3<=nx+3*E.size:=by omega
   have hnk:=gA.out;have gG:1<=i:=by omega
   clear gs H5 IH HSZ HKS HPOS;obtain⟨o1,m1,V1,bt⟩:=g9.out;have g8:=Hd bt;clear bt;subst hnk;obtain⟨⟨k0,F0⟩,⟨k1',F1⟩,rfl⟩:=Ydo gx;obtain⟨g,cp,rfl,g0⟩:=g9.out.cellsN (i:=2) rfl (by omega);have c0:wy.cell? ⟨g,0,none⟩=some (.int .i64 k0):=g0 0 (by omega);have c1:wy.cell? ⟨g,1,none⟩=some (.int .i64 k1'):=g0 1 (by omega);have HF:Hid (Zp1 op F0 F1=fnT E):=Hd (by rw[hF,<- gk.out 0 (by simp),<- gk.out 1 (by simp)];rfl);have HJ:Hid (∀ W,W=wy.drew->Calls prog 64 #[.pointer (some ⟨mb,0,none⟩),.int .i64 op,.int .i64 k0,.int .i64 k1'] W fun x w''=>∃ k:Int,x=.returned (.tuple #[.int .i64 k,.bool true])/\k<=nxi+1/\Goes K n Od room w0 mb (fs++[(k,Zp1 op F0 F1)]) (k+1) (NoW (M+Zev n kid 2+(2^n-1))) o1 wy w'') :=
    Hd fun W hW=>by subst hW;exact Zs4 HKK.out (g8.out.refl.below (Zag wy 1)) HB2.out (by omega) (by have:=HEP.out;have:=HCK.out 2;have:=HME.out;omega) (by have:=H1.out;omega) (by have:=H1.out;omega)
   clear g0;go_upto_region 39 with fail;refine Zam (fun W:World=>W.cell? ⟨w.heap.size,0,none⟩=some (.int .i64 op)/\W.cell? ⟨g,0,none⟩=some (.int .i64 k0)/\W.cell? ⟨g,1,none⟩=some (.int .i64 k1')) false 14
    [(0,false),(1,false),(2,false),(3,false),(4,false),(5,false),(6,false),(7,false),(8,false),(9,true),(10,false),(11,false),(12,false),(13,false)] (by kernel_rfl) (by kernel_rfl) ⟨f0,c0,c1⟩ ?_
   simp only[planned,Zdx]
   iterate 9
    refine Zao rfl ?_;apply Exists.intro;refine⟨fun w' hw=>?_,?_⟩
    . obtain⟨h1,h2,h3⟩:=hw;go_simp;rfl
    simp only[Zai]
   refine Zbq (R:=fun v w'=>∃ k:Int,v=.tuple #[.int .i64 k,.bool true]/\k<=nxi+1/\Goes K n Od room w0 mb (fs++[(k,Zp1 op F0 F1)]) (k+1) (NoW (M+Zev n kid 2+(2^n-1))) o1 wy w') rfl (by go_simp) ((HJ.out _ rfl).mono (fun e w' he=>?_)) ?_
   . obtain⟨k,rfl,q1,q2⟩:=he;have hb:=g8.out.go q2;obtain⟨g',cp',ev,gq⟩:=hb.cellsN (i:=2) rfl (by omega);cases ev;exact⟨_,rfl,⟨hb.goes.cell (p:=⟨w.heap.size,0,none⟩) d0 on,gq 0 (by omega),gq 1 (by omega)⟩,k,rfl,q1,q2⟩
   rintro v w3-⟨k,rfl,q1,q2⟩;have gB:=Hd (HQ.out k _ w3 _ HF.out (by omega) (by have:=HEP.out;have:=HCK.out 2;omega) (g8.out.go q2).goes);clear q2 HJ;simp only[Zai]
   iterate 4
    refine Zao rfl ?_;apply Exists.intro;refine⟨fun w' hw=>?_,?_⟩
    . obtain⟨h1,h2,h3⟩:=hw;go_simp;rfl
    simp only[Zai]
   refine Ze8 ?_;go_wp2_with fail;exact gB.out
end
open Go.RowKit
section
variable {K:Law}{n:Nat}{Od:List Nat->Prop}{room:Nat}{w0 w w' w'':World}{mb:Nat}{fs fs':List (Int×BF)}{nx nx':Int}{o o':Own}{m m':ManD}{V V':Nat->BF}
theorem Zwm {w1:World}{op v:Int}{nk:Nat}{kid:Nat->ExT}{a:Option Addr}{c:Nat}{E:ExT}{Q:Ending->World->Prop}{M:Nat}(hctx:BCtx K n Od room w0 mb fs nx M w w1 o m V op v nk kid a c E Q)(h1:op=10)(hnk:nk=3)(hF:fnT E=Zeo (fnT (kid 0)) (fnT (kid 1)) (fnT (kid 2))) :
 Calls prog 15 #[.pointer (some ⟨mb,0,none⟩),.agg #[.int .i64 op,.int .i64 v,.slice a nk c]] w Q:=by
 obtain⟨HKK,H5,HKS,HSZ,HPOS,IH,HW1,HG1,HSAT1,HWT,HB2,HQ,HMR,HCK,HCI,HEP,HME,hn64,hnx,hE1,hs1,d0,d1,d2,on,hw0,hp2,h2,h3⟩:=hctx;have g1:(op == 1)=false:=by simp;omega
 have g2:(op == 2)=false:=by simp;omega
 have g3:(op == 3)=false:=by simp;omega
 have g5:(op == 5)=false:=by simp;omega
 have g6:(op == 6)=false:=by simp;omega
 have g7:(op == 7)=false:=by simp;omega
 have g4:(op == 4)=false:=by simp;omega
 have g10:(op == 10)=true:=by simp;omega
 have gC:=Hd hnk;clear h1 hnk;obtain⟨w2,gf⟩:∃ w2,w2=w1.alloc (.cells #[] 3):=⟨_,rfl⟩;have gB:Hid (_=w2):=Hd gf.symm;have gd:Below w1.heap.size w1 w2:=by rw[gf];exact Zaf _ _
 have gp:Hid (BuiS K n Od room w0 mb (fs++[]) nx (M+Zev n kid 0) o w1 (.slice (some ⟨w.heap.size+1,0,none⟩) 0 0) (([]:List (Int×BF)).map Prod.fst) w2):=Hd ⟨o,m,V,by rw[List.append_nil];exact HSAT1.out.below gd,HWT.out,Zcu gd o,by rw[gf,<- hs1];exact Ze2 _ _ _ (Nat.le_refl _),fun k hk=>by cases hk;rw[<- hs1];exact HSAT1.out.lt.none (Nat.le_refl _)⟩;have gq:=Hd gd;clear gf gd
 go_enter func15,ntmps15
 go_upto_region 1 with fail;rw[HW1.out];go_upto_region 23 with fail;rw[gB.out];have e2:=(gq.out.cell (p:=⟨w.heap.size,2,none⟩) (Zab d2)).trans d2;go_wp2_with fail
 go_loopw [15,106] (fun s15 s106 wr=>∃ (i:Nat) (hs:List (Int×BF)) (nxi:Int),i<=nk/\s106=.int .i64 i/\hs.length=i/\nxi+2*i<=nx+3*((sumN i fun i=>(kid i).size:Nat):Int)/\Hid (∀ j (hj:j<hs.length),hs[j].2=fnT (kid j))/\Hid (BuiS K n Od room w0 mb (fs++hs) nxi (M+Zev n kid i) o w1 s15 (hs.map Prod.fst) wr)) (fun _ s106 _=>nk-(intOf s106).toNat)
 case atStart=>exact⟨0,[],nx,Nat.zero_le _,rfl,rfl,by show nx+2*((0:Nat):Int)<=nx+3*((0:Nat):Int);omega,Hd (fun j hj=>by simp at hj),gp⟩
 case round =>
  clear gp gq e2
  rename World=>wy
  obtain⟨i,hs,nxi,hi,rfl,gy,gH,gk,ga⟩:=hrel
  by_cases gi:i<nk
  ·obtain⟨b,off,x0,x1,x2,rfl,c0,c1,c2,hx⟩:=H5.out i gi;have gj:=ga.out.goes.below0;have q0:=(gj.cell (p:=⟨b,off+i*3,none⟩) (Zab c0)).trans c0;have q1:=(gj.cell (p:=⟨b,off+i*3+1,none⟩) (Zab c1)).trans c1;have q2:=(gj.cell (p:=⟨b,off+i*3+2,none⟩) (Zab c2)).trans c2;obtain⟨zo,zv,za,zn,zc,rfl,rfl,rfl⟩:=hx.parts;have gx:(i:Int)<nk:=by omega
   have gJ:=HKS.out i gi;obtain⟨wz,ge⟩:∃ wz,wz=wy.alloc (.cells #[.int .i64 zo,.int .i64 zv,.slice za zn zc] 36):=⟨_,rfl⟩;have gA:Hid (_=wz):=Hd ge.symm;have gs:Below wy.heap.size wy wz:=by rw[ge];exact Zaf _ _
   have gc:wz.heap[wy.heap.size]?=some (.cells #[.int .i64 zo,.int .i64 zv,.slice za zn zc] 36 (0,0)):=by rw[ge];exact heap_alloc_new _ _
   have p0:wz.cell? ⟨wy.heap.size,0,none⟩=some (.int .i64 zo):=by rw[cell_of_row _ _ 0 _ _ _ gc];rfl
   have p1:wz.cell? ⟨wy.heap.size,1,none⟩=some (.int .i64 zv):=by rw[cell_of_row _ _ 1 _ _ _ gc];rfl
   have p2:wz.cell? ⟨wy.heap.size,2,none⟩=some (.slice za zn zc):=by rw[cell_of_row _ _ 2 _ _ _ gc];rfl
   obtain⟨o1,m1,V1,bt⟩:=ga.out.below gs;have gG:=HPOS.out i;have gl:=Hd (IH.out i _ (fs++hs) nxi wz o1 m1 V1 _ gi bt.sat bt.waits (HB2.out.app _) hx (by omega) (by have:=HMR.out i gi;have:=HCK.out i;omega));have gb:=Hd bt;clear gj c0 c1 c2 hx bt ge gs gc ga;go_upto_region 26 with fail;rw[gA.out];clear q0 q1 q2;go_wp2_with fail;refine gl.out.mono ?_;rintro y w3 ⟨k2,rfl,gK,gg⟩;have gn:=Hd (gb.out.go (M':=M+Zev n kid (i+1)) (gg.more (Nat.le_of_eq (Nat.add_assoc _ _ _))));have gE:Hid (∀ j (hj:j<(hs++[(k2,fnT (kid i))]).length),(hs++[(k2,fnT (kid i))])[j].2=fnT (kid j)):=Hd fun j hj=>by
    rcases Nat.lt_or_ge j hs.length with h|h
    . rw[List.getElem_append_left h];exact gk.out j h
    ·have gw:j=i:=by simp at hj;omega
     subst gw;rw[List.getElem_append_right (by omega)];simp
   clear gg gl gb p0 p1 p2;obtain⟨o3,m3,V3,bt3⟩:=gn.out;have gu:w1.heap.size<=w3.heap.size:=bt3.chg.size;have g0:=Hd bt3;clear bt3;go_upto_region 30 with (at_builtin;refine Zcl Zno _ rfl _ _ rfl w1.heap.size _ (Za3 (hs.map Prod.fst)) _ rfl rfl rfl rfl rfl (by exact g0.out.l.own) (by simp[Za3];omega) gu ?_;intro v5 w5 gh r1 r2 r3 r4 gr)
   have gv:Hid (BuiS K n Od room w0 mb (fs++(hs++[(k2,fnT (kid i))])) (k2+1) (M+Zev n kid (i+1)) o w1 v5 ((hs++[(k2,fnT (kid i))]).map Prod.fst) w5):=Hd (by
    have:=BuiS.app g0.out gh r1 r2 r3 r4 gr hw0;rw[List.append_assoc] at this;rw[List.map_append];exact this)
   clear gh r1 r2 r3 r4 gr g0 gn;go_wp2_with fail;go_roundw
   case rel=>exact⟨i+1,hs++[(k2,fnT (kid i))],k2+1,by omega,by go_num,by simp;omega,by
    show k2+1+2*((i+1:Nat):Int)<=nx+3*(((sumN i fun i=>(kid i).size)+(kid i).size:Nat):Int)
    omega,gE,gv⟩
   case measure=>simp[intOf];omega
  ·obtain rfl:i=nk:=by omega
   have gx:¬ (i:Int)<i:=by omega
   have f0:=ga.out.goes.cell (p:=⟨w.heap.size,0,none⟩) d0 on;have gt:=HSZ.out;have gF:nxi+2*i+3<=nx+3*E.size:=by omega
   have hnk:=gC.out;have gI:1<=i:=by omega
   clear gt H5 IH HSZ HKS HPOS;obtain⟨o1,m1,V1,bt⟩:=ga.out;have gb:=Hd bt;clear bt;subst hnk;obtain⟨⟨k0,F0⟩,⟨k1',F1⟩,⟨k2',F2⟩,rfl⟩:=Zxr gy;obtain⟨g,cp,rfl,g8⟩:=ga.out.cellsN (i:=3) rfl (by omega);have c0:wy.cell? ⟨g,0,none⟩=some (.int .i64 k0):=g8 0 (by omega);have c1:wy.cell? ⟨g,1,none⟩=some (.int .i64 k1'):=g8 1 (by omega);have c2:wy.cell? ⟨g,2,none⟩=some (.int .i64 k2'):=g8 2 (by omega);have HF:Hid (Zeo F0 F1 F2=fnT E):=Hd (by rw[hF,<- gk.out 0 (by simp),<- gk.out 1 (by simp),<- gk.out 2 (by simp)];rfl);have HI:Hid (∀ W,W=wy.drew->Calls prog 59 #[.pointer (some ⟨mb,0,none⟩),.int .i64 k0,.int .i64 k1',.int .i64 k2'] W fun x w''=>x=.returned (.tuple #[.int .i64 nxi,.int .i64 0])/\Goes K n Od room w0 mb (fs++[(k0,F0),(k1',F1),(k2',F2)]++[(nxi,Zeo F0 F1 F2)]) (nxi+1) (NoW (M+Zev n kid 3+(2^n-1))) o1 wy w'') :=
    Hd fun W hW=>by subst hW;exact Zxm HKK.out (gb.out.refl.below (Zag wy 1)) (by omega) (by have:=HEP.out;have:=HCK.out 3;have:=HME.out;omega) (by simp) (by simp) (by simp)
   clear g8;go_upto_region 36 with fail;refine Zam (fun W:World=>W.cell? ⟨g,0,none⟩=some (.int .i64 k0)/\W.cell? ⟨g,1,none⟩=some (.int .i64 k1')/\W.cell? ⟨g,2,none⟩=some (.int .i64 k2')) false 16
    [(0,false),(1,false),(2,false),(3,false),(4,false),(5,false),(6,false),(7,false),(8,false),(9,false),(10,true),(11,false),(12,false),(13,false),(14,false),(15,false)] (by kernel_rfl) (by kernel_rfl) ⟨c0,c1,c2⟩ ?_
   simp only[planned,Zdx]
   iterate 10
    refine Zao rfl ?_;apply Exists.intro;refine⟨fun w' hw=>?_,?_⟩
    . obtain⟨h1,h2,h3⟩:=hw;go_simp;rfl
    simp only[Zai]
   refine Zbq (R:=fun v w'=>v=.tuple #[.int .i64 nxi,.int .i64 0]/\Goes K n Od room w0 mb (fs++[(k0,F0),(k1',F1),(k2',F2)]++[(nxi,Zeo F0 F1 F2)]) (nxi+1) (NoW (M+Zev n kid 3+(2^n-1))) o1 wy w') rfl (by go_simp) ((HI.out _ rfl).mono (fun e w' he=>?_)) ?_
   . obtain⟨rfl,q2⟩:=he;have hb:=gb.out.go q2;obtain⟨g',cp',ev,g9⟩:=hb.cellsN (i:=3) rfl (by omega);cases ev;exact⟨_,rfl,⟨g9 0 (by omega),g9 1 (by omega),g9 2 (by omega)⟩,rfl,q2⟩
   rintro v w3 ⟨d0',d1',d2'⟩ ⟨rfl,q2⟩;obtain⟨o3,m3,V3,bt3⟩:=gb.out.go q2;have g0:=Hd bt3;clear q2 HI bt3 c0 c1 c2 ga;simp only[Zai]
   iterate 5
    refine Zao rfl ?_;apply Exists.intro;refine⟨fun w' hw=>?_,?_⟩
    . obtain⟨h1,h2,h3⟩:=hw;go_simp;rfl
    simp only[Zai]
   refine Ze8 ?_;have HD:Hid (∀ W T,Below w3.heap.size w3 W->T=W.alloc (.cells #[.int .i64 k0,.int .i64 k1',.int .i64 k2'] 3)->Calls prog 65 #[.pointer (some ⟨mb,0,none⟩),.slice (some ⟨W.heap.size,0,none⟩) 3 3] T fun x w''=>x=.returned (.int .i64 0)/\Goes K n Od room w0 mb (fs++[(nxi,Zeo F0 F1 F2)]) (nxi+1) (NoW (M+Zev n kid 3+(2^n-1))) o3 w3 w'') :=
    Hd fun W T hW hT=>Znn HKK.out (hs:=[(k0,F0),(k1',F1),(k2',F2)]) (r:=[(nxi,Zeo F0 F1 F2)]) (by have:=g0.out.refl;rw[List.append_assoc] at this;exact this.below hW) HB2.out (by omega) (by simp) hT
   go_upto_region 37 with fail;refine Zam (fun W:World=>W.cell? ⟨g,0,none⟩=some (.int .i64 k0)/\W.cell? ⟨g,1,none⟩=some (.int .i64 k1')/\W.cell? ⟨g,2,none⟩=some (.int .i64 k2')) false 20
    [(0,false),(1,false),(2,false),(3,false),(4,false),(5,false),(6,false),(7,false),(8,false),(9,false),(10,false),(11,false),(12,false),(13,false),(14,true),(15,true),(16,false),(17,false),(18,false),(19,false)] (by kernel_rfl) (by kernel_rfl) ⟨d0',d1',d2'⟩ ?_
   simp only[planned,Zdx]
   iterate 4
    refine Zao rfl ?_;apply Exists.intro;refine⟨fun w' hw=>?_,?_⟩
    . obtain⟨h1,h2,h3⟩:=hw;go_simp;rfl
    simp only[Zai]
   iterate 10
    refine Zi4 true (by go_simp) ?_;apply Exists.intro;refine⟨fun gz w' hw=>?_,?_⟩
    . obtain⟨h1,h2,h3⟩:=hw;go_simp;rfl
    simp only[Zai]
   have gm:=Zaf w3.drew (.cells #[.int .i64 k0,.int .i64 k1',.int .i64 k2'] 3);refine Zvf (v:=.slice (some ⟨w3.heap.size,0,none⟩) 3 3) (w':=w3.drew.alloc (.cells #[.int .i64 k0,.int .i64 k1',.int .i64 k2'] 3)) (by go_simp) (by go_simp) ⟨(gm.cell (p:=⟨g,0,none⟩) (Zab (w:=w3.drew) d0')).trans d0',(gm.cell (p:=⟨g,1,none⟩) (Zab (w:=w3.drew) d1')).trans d1',(gm.cell (p:=⟨g,2,none⟩) (Zab (w:=w3.drew) d2')).trans d2'⟩ ?_;simp only[Zai];refine Zve (R:=fun v w'=>v=.int .i64 0/\Goes K n Od room w0 mb (fs++[(nxi,Zeo F0 F1 F2)]) (nxi+1) (NoW (M+Zev n kid 3+(2^n-1))) o3 w3 w') (by go_simp) (by go_simp) ((HD.out w3.drew _ (Zag w3 1) rfl).mono (fun e w' he=>?_)) ?_
   . obtain⟨rfl,q2⟩:=he;have hb:=g0.out.go q2;obtain⟨g',cp',ev,g9⟩:=hb.cellsN (i:=3) rfl (by omega);cases ev;exact⟨_,rfl,⟨g9 0 (by omega),g9 1 (by omega),g9 2 (by omega)⟩,rfl,q2⟩
   rintro v w4-⟨rfl,q2⟩;have gD:=Hd (HQ.out nxi _ w4 _ HF.out (by omega) (by have:=HEP.out;have:=HCK.out 3;omega) (g0.out.go q2).goes);clear q2 HD;simp only[Zai]
   iterate 1
    refine Zi4 true (by go_simp) ?_;apply Exists.intro;refine⟨fun gz w' hw=>?_,?_⟩
    . obtain⟨h1,h2,h3⟩:=hw;go_simp;rfl
    simp only[Zai]
   iterate 3
    refine Zao rfl ?_;apply Exists.intro;refine⟨fun w' hw=>?_,?_⟩
    . obtain⟨h1,h2,h3⟩:=hw;go_simp;rfl
    simp only[Zai]
   refine Ze8 ?_;go_wp2_with fail;exact gD.out
end
open Go.RowKit
section
variable {K:Law}{n:Nat}{Od:List Nat->Prop}{room:Nat}{w0:World}{mb:Nat}
theorem Zo7 (hK:Zdu K):∀ (e:ExT) (x:Value) (fs:List (Int×BF)) (nx:Int) (w:World) (o:Own) (m:ManD) (V:Nat->BF) (M:Nat),SatE K n Od room w0 mb fs nx w o m V->m.waits=[]/\m.d.pool.many<=M->B2 fs->Zt5 e->(∀ v∈Zck e,v<(n:Int))->Za1 w0 e x->nx+3*e.size<549755813000->M+e.size*2^n<=room ->
 Calls prog 15 #[.pointer (some ⟨mb,0,none⟩),x] w fun y w'=>∃ k:Int,y=.returned (.tuple #[.int .i64 k,.bool true])/\k+3<=nx+3*e.size/\Goes K n Od room w0 mb (fs++[(k,fnT e)]) (k+1) (NoW (M+Zhz n e.size)) o w w'
 | .nil,x,fs,nx,w,o,m,V,M,_,_,_,hv,_,_,_,_=>hv.elim
 | .mk op v nk kid,x,fs,nx,w,o,m,V,M,hsat,hwt,hb2,hval,hvars,h,hnx,hroom=>by
   unfold Za1 at h;obtain⟨a,c,rfl,h2,h3,h4,h5⟩:=h;obtain⟨v1,v2,v3,v4,v5,v6⟩:=hval;obtain⟨k1,k2,k3⟩:=Zxo v1;have hblk:(w.alloc (.cells #[.int .i64 op,.int .i64 v,.slice a nk c] 36)).heap[w.heap.size]?=some (.cells #[.int .i64 op,.int .i64 v,.slice a nk c] 36 (0,0)):=heap_alloc_new _ _;have hb1:=Zaf w (.cells #[.int .i64 op,.int .i64 v,.slice a nk c] 36);have hep:(ExT.mk op v nk kid).size*2^n=2^n+(sumN nk fun i=>(kid i).size)*2^n:=by
    show (1+sumN nk fun i=>(kid i).size)*2^n=_
    rw[Nat.add_mul,Nat.one_mul]
   have g0:BCtx K n Od room w0 mb fs nx M w (w.alloc (.cells #[.int .i64 op,.int .i64 v,.slice a nk c] 36)) o m V op v nk kid a c (ExT.mk op v nk kid) (fun y w'=>∃ k:Int,y=.returned (.tuple #[.int .i64 k,.bool true])/\k+3<=nx+3*(ExT.mk op v nk kid).size/\Goes K n Od room w0 mb (fs++[(k,fnT (ExT.mk op v nk kid))]) (k+1) (NoW (M+Zhz n (ExT.mk op v nk kid).size)) o w w'):=by
    refine⟨Hd hK,Hd h5,Hd fun i hi=>?_,Hd rfl,Hd (Ztt fun i=>(kid i).size_pos),Hd fun i x fs' nx' W o' m' V' M' hi q1 q2 q3 q4 q5 q6=>Zo7 hK (kid i) x fs' nx' W o' m' V' M' q1 q2 q3 (v6 i hi) (fun u hu=>hvars u (by unfold Zck;exact List.mem_append_right _ (Zqb hi hu))) q4 q5 q6,Hd rfl,Hd (Goes.refl (hsat.below hb1) hwt),Hd (hsat.below hb1),Hd hwt,Hd hb2,Hd ?_,Hd fun i hi=>?_,Hd (Zpd n kid),Hd fun i=>Zh9 n (kid i).size_pos,Hd ⟨hep,Zh9 n (ExT.size_pos _)⟩,Hd hroom,by omega,hnx,ExT.size_pos _,by simp,by rw[cell_of_row _ _ 0 _ _ _ hblk];rfl,by rw[cell_of_row _ _ 1 _ _ _ hblk];rfl,by rw[cell_of_row _ _ 2 _ _ _ hblk];rfl,hsat.lt.none (Nat.le_refl _),?_,Nat.pow_pos (by omega),h2,h3⟩
    ·have:=Zf1 (f:=fun i=>(kid i).size) hi
     show _<=1+sumN nk fun i=>(kid i).size
     omega
    . rintro k F W M' rfl hk hm g;exact⟨k,rfl,hk,(g.more hm).after (Zcu hb1 o)⟩
    . have h1:=Zf1 (f:=fun i=>(kid i).size) hi;have h2:=Nat.mul_le_mul_right (2^n) h1;rw[Nat.add_mul] at h2;omega
    . have:=hsat.chg.size;simp;omega
   rcases(show op=1\/op=2\/op=3\/(op=5\/op=6\/op=7)\/op=4\/(op=8\/op=9)\/op=10 by omega) with h1|h1|h1|h1|h1|h1|h1
   . exact Zuj g0 h1 (by subst h1;exact Zpr (.inl rfl) v nk kid)
   . exact Zrh g0 h1 (by subst h1;exact Zpr (.inr rfl) v nk kid)
   . have e1:=v2 h1;have e2:=hvars v (by unfold Zck;rw[if_pos h1];simp);obtain⟨u,rfl⟩:∃ u:Nat,v=u:=⟨v.toNat,by omega⟩;exact Zwp g0 (u:=u) (by omega) h1 rfl (by subst h1;exact Ydg u nk kid)
   . exact Zwl g0 h1 (Ydd h1 v nk kid)
   ·have e:nk=1:=by subst h1;simp[Zep] at v4 v5;omega
    exact Zwn g0 h1 e (by subst h1;subst e;exact Ydf v kid)
   ·have e:nk=2:=by rcases h1 with rfl|rfl<;>(simp[Zep] at v4 v5;omega)
    exact Zwo g0 h1 e (by subst e;exact Zz5 h1 v kid)
   ·have e:nk=3:=by subst h1;simp[Zep] at v4 v5;omega
    exact Zwm g0 h1 e (by subst h1;subst e;exact Yde v kid)
end
open Go.RowKit
theorem Zau.chgX {C:Nat->Prop}{o o':Own}{w w':World}{a:Option Addr}{zs:List Int}(h:Zau w a zs)(hc:ChgX C o o' w w')(hn:0<zs.length->∀ x,a=some x->o x.block=none/\¬ C x.block):Zau w' a zs :=
 ⟨h.len,fun k hk=>by
  obtain⟨b,off,rfl,c⟩:=h.cells k hk;have:=hn (by omega) _ rfl;exact⟨b,off,rfl,hc.cell c this.1 this.2⟩⟩
def ArrI (K:Law)(n room:Nat)(w0:World)(mb:Nat)(fs:List (Int×BF))(nx:Int)(o:Own)(w:World)(m:ManD)(P:List Nat->Prop)(W:World):Prop :=
 ∃ o' m' V',SatE K n P room w0 mb fs nx W o' m' V'/\m'.waits=m.waits/\m'.calls=m.calls/\ChgX NoB o o' w W/\(m'.d.pool.many<=m.d.pool.many\/m'.d.pool.many<=fs.length*2^n)
section
variable {K:Law}{n:Nat}{Od:List Nat->Prop}{room:Nat}{w0 w w':World}{mb:Nat}{fs:List (Int×BF)}{nx:Int}{o o':Own}{m m':ManD}{V V':Nat->BF}{P:List Nat->Prop}{W W':World}
theorem ArrI.below (h:ArrI K n room w0 mb fs nx o w m P W)(hb:Below W.heap.size W W'):ArrI K n room w0 mb fs nx o w m P W':=by
 obtain⟨o',m',V',h1,h2,h3,h4,h5⟩:=h;exact⟨o',m',V',h1.below hb,h2,h3,h4.trans (Zcu hb o') (fun _ _ e=>e),h5⟩
theorem ArrI.imp (h:ArrI K n room w0 mb fs nx o w m P W){P':List Nat->Prop}(hP:∀ l,l.length=n->P l->P' l):ArrI K n room w0 mb fs nx o w m P' W:=by
 obtain⟨o',m',V',h1,h2,h3,h4,h5⟩:=h;exact⟨o',m',V',h1.withOd (hP _ h1.vars h1.od),h2,h3,h4,h5⟩
theorem ArrI.swap (h:ArrI K n room w0 mb fs nx o w m P W){k:Nat}(hk1:k+1<n)(hn:nx<=549755813888)(hr:3*(fs.length*2^n)<=room){P':List Nat->Prop}(hP:∀ l,l.length=n->P l->P' (exL l k)) :
 Calls prog 129 #[.pointer (some ⟨mb,0,none⟩),.int .i64 k] W fun e w'=>e=.returned (.int .i64 0)/\ArrI K n room w0 mb fs nx o w m P' w':=by
 obtain⟨o',m',V',h1,h2,h3,h4,h5⟩:=h;refine(Zvb h1 hk1 hn hr).mono ?_;rintro e w' ⟨rfl,o2,m2,V2,s⟩;refine⟨rfl,o2,m2,V2,s.sat.withOd ?_,s.waits.trans h2,s.calls.trans h3,h4.trans (ChgX.of_chg s.chg NoB) (fun _ _ e=>e),.inr (s.sat.few s.dead)⟩;rw[s.sat.od,Zy3];exact hP _ h1.vars h1.od
theorem Zrf (h:SatE K n Od room w0 mb fs nx w o m V)(hn:nx<=549755813888)(hr:3*(fs.length*2^n)<=room){a:Option Addr}{c:Nat}{zs:List Int}(hz:Zau w a zs)(hno:0<zs.length->∀ x,a=some x->o x.block=none)(hp:zs.length=0\/Ycl zs n) :
 Calls prog 75 #[.pointer (some ⟨mb,0,none⟩),.slice a zs.length c] w fun x w'=>x=.returned (.bool true)/\ArrI K n room w0 mb fs nx o w m (fun l=>∀ j,j<zs.length->((l.getD j 0:Nat):Int)=at0 zs j) w':=by
 have gG:=hz.len;have hn64:n<=64:=by have:=h.ok.store.small;rw[h.vars] at this;exact this
 have HZ:Hid (∀ W P,ArrI K n room w0 mb fs nx o w m P W->Zau W a zs):=Hd fun W P ⟨o',m',V',_,_,_,h4,_⟩=>hz.chgX h4 fun h0 x hx=>⟨hno h0 x hx,fun e=>e⟩
 have gd:Hid (∀ W P,ArrI K n room w0 mb fs nx o w m P W->Calls prog 44 #[.pointer (some ⟨mb,0,none⟩)] W fun x w'=>∃ (a:Option Addr) (c:Nat) (l:List Nat),x=.returned (.slice a n c)/\l.length=n/\Zau w' a (l.map Int.ofNat)/\P l/\(∀ v,v<n->∃ i,i<n/\l.getD i 0=v)/\(∀ i j,i<n->j<n->l.getD i 0=l.getD j 0->i=j)/\Below W.heap.size W w'/\ArrI K n room w0 mb fs nx o w m (fun l'=>l'=l) w'):=by
  refine Hd fun W P hA=>?_
  obtain⟨o',m',V',h1,h2,h3,h4,h5⟩:=hA;refine(Zp9 h1.is h1.lt (by rw[h1.vars];exact hn64)).mono ?_;rintro x w' ⟨v,rfl,hv,hb⟩;obtain⟨av,cv,rfl,gr,_⟩:=hv.sliceIs (by simp[h1.vars];omega);refine⟨av,cv,m'.d.vars,by rw[List.length_map,h1.vars],h1.vars,gr,h1.od,fun v hv=>?_,fun i j hi hj e=>?_,hb,o',m',V',(h1.below hb).withOd rfl,h2,h3,h4.trans (Zcu hb o') (fun _ _ e=>e),h5⟩
  . have:=h1.ok.store.mem (v:=v) (by rw[h1.vars];exact hv);rw[h1.vars] at this;exact this
  . exact h1.ok.store.inj (by rw[h1.vars];exact hi) (by rw[h1.vars];exact hj) e
 have gi:Hid (∀ W P,ArrI K n room w0 mb fs nx o w m P W->∀ (k:Nat),k+1<n->∀ P':List Nat->Prop,(∀ l,l.length=n->P l->P' (exL l k))->Calls prog 129 #[.pointer (some ⟨mb,0,none⟩),.int .i64 k] W fun e w'=>e=.returned (.int .i64 0)/\ArrI K n room w0 mb fs nx o w m P' w') :=
  Hd fun W P hA k hk P' hP=>hA.swap hk hn hr hP
 have HP:=Hd hp;obtain⟨R,hR⟩:∃ R:(List Nat->Prop)->World->Prop,R=ArrI K n room w0 mb fs nx o w m:=⟨_,rfl⟩;have gC:Hid (R (fun l=>∀ j,j<0->((l.getD j 0:Nat):Int)=at0 zs j) w):=Hd (by rw[hR];exact⟨o,m,V,h.withOd (fun j hj=>by omega),rfl,rfl,ChgX.of_below (Below.refl _ _) o NoB,.inl (Nat.le_refl _)⟩);have gz:Hid (∀ P W W',R P W->Below W.heap.size W W'->R P W'):=Hd (by rw[hR];intro P W W' h1 h2;exact h1.below h2);have gj:Hid (∀ P P' W,R P W->(∀ l,l.length=n->P l->P' l)->R P' W):=Hd (by rw[hR];intro P P' W h1 h2;exact h1.imp h2);rw[<- hR] at HZ gd gi ⊢;clear h hz hno hp hr hn hR
 go_enter func75,ntmps75
 go_wp2_with fail
 go_loopw [5,6,7] (fun s5 s6 s7 wr=>∃ i:Nat,i<=zs.length/\s5=.int .i64 i/\Hid (R (fun l=>∀ j,j<i->((l.getD j 0:Nat):Int)=at0 zs j) wr)) (fun s5 _ _ _=>zs.length-(intOf s5).toNat)
 case atStart=>exact⟨0,Nat.zero_le _,rfl,gC⟩
 case round =>
  obtain⟨i,hi,rfl,HR⟩:=hrel
  by_cases gv:i<zs.length
  ·have gw:(i:Int)<zs.length:=by omega
   have g3:Ycl zs n:=by
    rcases HP.out with e|e
    . omega
    . exact e
   have gp:zs.length=n:=g3.len;obtain⟨zi,gq,ezi⟩:=g3.lt i (by omega);have gm:=Hd (gd.out wr _ HR.out);have go:=Hd g3.inj;clear g3;go_wp2_with fail;refine gm.out.mono ?_;rintro x w3 ⟨av,cv,l,rfl,gg,gh,g8,ga,gb,gy,g6⟩;obtain⟨p,gf,g7⟩:=ga zi gq;have gx:i<=p:=by
    rcases Nat.lt_or_ge p i with h|h
    . exfalso;have e1:=g8 p h;rw[g7,<- ezi] at e1;have:=go.out i p (by omega) gf e1;omega
    . exact h
   have gn:=Hd gh;have gD:=Hd g8;have g5:=Hd g7;have gE:=Hd gb;have gl:=Hd g6;have gN:((n:Int) != (zs.length:Int))=false:=by rw[gp];simp
   obtain⟨bz,oz,ea,cz⟩:=(HZ.out w3 _ g6).cells i gv;subst ea;rw[ezi] at cz;have EZI:=Hd ezi;clear gh g8 g7 gb g6 ga gm gy ezi;go_wp2_with fail
   go_loopw [7] (fun s7 wr=>∃ q:Nat,i<=q/\q<=p/\s7=.int .i64 q/\Hid (Below w3.heap.size w3 wr)) (fun s7 _=>p-(intOf s7).toNat)
   case atStart=>exact⟨i,Nat.le_refl _,gx,rfl,Hd (Below.refl _ _)⟩
   case round =>
    rename World=>wq
    obtain⟨q,gu,gM,rfl,g0⟩:=hrel;have gK:(q:Int)<(n:Int):=by omega
    have g4:q<n:=by omega
    obtain⟨bv,ov,rfl,cq⟩:=(gn.out.below g0.out).cells q (by rw[List.length_map,gg];exact g4);have cz':=(g0.out.cell (p:=⟨bz,oz+i,none⟩) (Zab cz)).trans cz;rw[Ycq (by rw[gg];exact g4)] at cq;obtain⟨y,hy⟩:∃ y,y=l.getD q 0:=⟨_,rfl⟩;rw[<- hy] at cq;have HY:=Hd hy;clear hy;go_upto_region 8 with fail;refine Zam (fun W:World=>W.cell? ⟨bv,ov+q,none⟩=some (.int .i64 (y:Nat))/\W.cell? ⟨bz,oz+i,none⟩=some (.int .i64 (zi:Nat))/\Hid (Below w3.heap.size w3 W)) false 15
     [(0,false),(1,false),(2,false),(3,false),(4,false),(5,false),(6,false),(7,false),(8,false),(9,false),(10,false),(11,false),(12,false),(13,false),(14,false)] (by kernel_rfl) (by kernel_rfl) ⟨cq,cz',Hd (g0.out.trans ((Zag wq 1).mono g0.out.size))⟩ ?_
    simp only[planned,Zdx]
    iterate 5
     refine Zao rfl ?_;apply Exists.intro;refine⟨fun w' hw=>?_,?_⟩
     . obtain⟨h1,h2,_⟩:=hw;go_simp;rfl
     simp only[Zai]
    iterate 9
     refine Zi4 true (by go_simp) ?_;apply Exists.intro;refine⟨fun gO w' hw=>?_,?_⟩
     . obtain⟨h1,h2,_⟩:=hw;go_simp;rfl
     simp only[Zai]
    iterate 1
     refine Zao rfl ?_;apply Exists.intro;refine⟨fun w' hw=>?_,?_⟩
     . obtain⟨h1,h2,_⟩:=hw;go_simp;rfl
     simp only[Zai]
    refine Ze8 ?_
    by_cases gJ:q<p
    ·have g9:((y:Int) != (zi:Int))=true:=by
      simp only[bne_iff_ne,ne_eq];intro e;have e2:l.getD q 0=l.getD p 0:=by rw[g5.out,<- HY.out];omega
      have:=gE.out q p g4 gf e2;omega
     go_wp2_with fail;go_roundw
     case rel=>exact⟨q+1,by omega,by omega,by go_num,Hd (g0.out.trans ((Zag wq 1).mono g0.out.size))⟩
     case measure=>simp[intOf];omega
    ·obtain rfl:q=p:=by omega
     have g9:((y:Int) != (zi:Int))=false:=by
      have:y=zi:=by rw[HY.out,g5.out]
      rw[this];simp
     have gL:((q:Int) == (n:Int))=false:=by simp;omega
     have gk:Hid (R (fun l'=>(∀ j,j<i->((l'.getD j 0:Nat):Int)=at0 zs j)/\l'.getD q 0=zi) wq.drew):=Hd (by
      have h1:=gz.out _ _ _ gl.out (g0.out.trans ((Zag wq 1).mono g0.out.size));exact gj.out _ _ _ h1 fun l' _ e=>by subst e;exact⟨gD.out,g5.out⟩)
     rw[g9];clear gl g0 gn cq cz cz' g9;go_wp2_with fail
     go_loopw [4,7] (fun s4 s7 wr=>∃ q:Nat,i<=q/\q<n/\s7=.int .i64 q/\Hid (R (fun l'=>(∀ j,j<i->((l'.getD j 0:Nat):Int)=at0 zs j)/\l'.getD q 0=zi) wr)) (fun _ s7 _=>(intOf s7).toNat)
     case atStart=>exact⟨q,gu,g4,rfl,gk⟩
     case round =>
      clear gk HY g5
      rename World=>wt
      obtain⟨t,gI,gt,rfl,gc⟩:=hrel
      by_cases gH:i<t
      ·obtain⟨t',rfl⟩:∃ t',t=t'+1:=⟨t-1,by omega⟩;have gs:((t'+1:Nat):Int)>i:=by omega
       have HS:=Hd (gi.out wt _ gc.out t' gt (fun l'=>(∀ j,j<i->((l'.getD j 0:Nat):Int)=at0 zs j)/\l'.getD t' 0=zi) (fun l' hl ⟨g1,g2⟩=>⟨fun j hj=>by rw[Yeq (by omega) (by omega)];exact g1 j hj,by rw[Zz3 (by omega)];exact g2⟩));have gF:((t'+1:Nat):Int)-1=(t':Nat):=by omega
       go_upto_region 14 with fail;go_wp2_with fail;refine HS.out.mono ?_;rintro x w5 ⟨rfl,ge⟩;have gB:=Hd ge;clear ge HS gc;go_wp2_with fail;go_roundw
       case rel=>exact⟨t',by omega,by omega,by go_num,gB⟩
       case measure=>simp[intOf]
      ·obtain rfl:t=i:=by omega
       have gA:Hid (R (fun l=>∀ j,j<t+1->((l.getD j 0:Nat):Int)=at0 zs j) wt):=Hd (by
        refine gj.out _ _ _ gc.out fun l' _ ⟨g1,g2⟩ j hj=>?_
        rcases Nat.lt_or_ge j t with h|h
        . exact g1 j h
        ·obtain rfl:j=t:=by omega
         rw[g2,EZI.out])
       have gs:¬ (t:Int)>t:=by omega
       go_wp2_with fail;go_roundw
       case rel=>exact⟨t+1,by omega,by go_num,gA⟩
       case measure=>simp[intOf];omega
  ·have he:i=zs.length:=by omega
   have gw:¬ (i:Int)<zs.length:=by omega
   go_wp2_with fail;go_ret;exact⟨rfl,by rw[<- he];exact HR.out⟩
end
open Go.RowKit
theorem Zu6 (i n:Nat)(hi:i<=1048576)(hn:n<=16)(w:World):Calls prog 131 #[.int .i64 i,.int .i64 n] w fun x w'=>∃ v,x=.returned v/\OwnB w' w.heap.size v (Zdb i n)/\Below w.heap.size w w':=by
 go_enter func131,ntmps131
 go_wp2_with fail
 go_loopw [0,5,6] (fun s0 s5 s6 wr=>∃ j q:Nat,j<=n/\q<=1048576/\s6=.int .i64 j/\s0=.int .i64 q/\Hid (i/2^j=q)/\OwnB wr w.heap.size s5 (Zdb i j)/\w.heap.size<=wr.heap.size/\Below w.heap.size w wr) (fun _ _ s6 _=>n-(intOf s6).toNat)
 case atStart=>exact⟨0,i,Nat.zero_le _,hi,rfl,rfl,Hd (by simp),Ze2 _ w _ (Nat.le_refl _),by simp,Zaf w _⟩
 case round =>
  obtain⟨j,q,hj,hq,rfl,rfl,HQ,g0,g5,g1⟩:=hrel
  by_cases g7:j<n
  ·have HB:Hid (((q:Int).tmod 2 == 1)=bitB i j):=by
    refine Hd ?_;rw[tmod2];unfold bitB;rw[HQ.out]
   have g2:=Hd g0;have g3:=Hd g1;clear g0 g1;go_wp2_with (at_builtin;refine Zcl Zj7 _ rfl _ _ rfl w.heap.size _ (Zb4 (Zdb i j)) _ rfl rfl rfl rfl rfl (by exact g2.out) (by simp[Zb4,Zjl];omega) g5 ?_;intro v1 w1 g4 e1 e2 e3 e4 g6);go_roundw
   case rel =>
    refine⟨j+1,q/2,by omega,by omega,by go_num,by go_num,Hd ?_,?_,by omega,Zh7 g3.out g2.out e1 e2 e3 e4 g6 g5⟩
    . rw[Nat.pow_succ,<- Nat.div_div_eq_div_mul,HQ.out]
    . rw[Zuh];unfold OwnB;rw[Zhv,<- HB.out];exact g4
   case measure=>simp[intOf];omega
  ·have he:j=n:=by omega
   subst he;have g2:=Hd g0;have g3:=Hd g1;clear g0 g1;go_wp2_with fail;go_ret;exact⟨_,rfl,g2.out,g3.out⟩
theorem Ya2 {T ST:TypeId}{z:Value}{b:Nat}(E:Zne T ST z b)(ty:TypeId)(wr:World)(base:Nat)(v:Value)(xs:List Value)(y:Value)(hy:y.oneCell'=true)(hown:OwnC T wr base v xs)(hlen:xs.length<1099511627776)(hbase:base<=wr.heap.size) :
 ∃ v' w',(Builtin.append_ #[ST,ST] ty #[v,.slice (some ⟨wr.heap.size,0,none⟩) 1 1]).run prog (wr.alloc (.cells #[y] T))=.ok v' w' /\
  OwnC T w' base v' (xs++[y])/\w'.os=wr.os/\w'.tape=wr.tape/\w'.output=wr.output/\wr.heap.size<=w'.heap.size/\Zdg v v' wr w':=by
 obtain⟨i,hi,hz,g1,g3⟩:=info_parts E.info;have g2:=E.small;obtain⟨v',w',hr,h1,h2,_,g0⟩:=run_append_own_at (P:=prog) (wr.alloc (.cells #[y] T)) base ST ty T i z 1 b E.under hi hz g1 g3 (by rw[E.one];rfl) (by decide)
  v xs.length xs (hown.alloc _) ⟨wr.heap.size,0,none⟩ 1 1 [y] rfl (cell_one_new _ _ _) (by intro u hu;simp at hu;subst hu;exact hy) (by unfold maxLen;omega) (by
   have h1:(xs.length+1)*b<=1099511627776*100:=Nat.mul_le_mul (by omega) g2;omega) (by simp;omega)
 refine⟨v',w',hr,?_,h2.os,h2.tape,h2.output,?_,⟨Zd9 h2,g0.imp id fun e=>⟨_,e,by simp⟩⟩⟩
 . unfold OwnC;rw[List.length_append];exact h1
 . have:=h2.size;simp at this;omega
theorem OwnC.lower {T:TypeId}{w:World}{base b:Nat}{v:Value}{xs:List Value}(h:OwnC T w base v xs)(hb:b<=base):OwnC T w b v xs:=by
 refine⟨h.1,?_⟩;rcases h.2 with hn|⟨g,cap,cur,rfl,g0,rest⟩
 . exact .inl hn
 . exact .inr ⟨g,cap,cur,rfl,by omega,rest⟩
theorem Zl7 (e:ExT)(x:Value)(n:Nat)(hn:n<=12)(w:World)(hs:e.size<=4096)(hok:okT e 1)(h:Za1 w e x) :
 Calls prog 76 #[x,.int .i64 n] w fun y w'=>∃ v,y=.returned v/\OwnB w' w.heap.size v (tabB n (fnT e))/\Below w.heap.size w w':=by
 have gt:Hid (∀ W,Below w.heap.size w W->∀ u,u=x->Calls prog 56 #[u] W fun y w'=>y=.returned (.int .i64 0)/\Below W.heap.size W w'):=Hd fun W hb u hu=>by
  subst hu
  exact(Zhw e _ W hs (h.below hb)).mono (by
   rintro y w' ⟨err,rfl,h1,h2⟩;rw[h1.2 hok];exact⟨rfl,h2⟩)
 have gx:Hid (∀ W,Below w.heap.size w W->∀ u,u=x->∀ (ls:List Bool) al cl,Zf8 W al ls->Calls prog 130 #[u,.slice al ls.length cl] W fun y w'=>y=.returned (.bool (fnT e (Zdc ls)))/\Below W.heap.size W w'):=Hd fun W hb u hu ls al cl hl=>by
  subst hu;exact Zlv ls al cl e _ W hok.valid (h.below hb) hl
 have gi:Hid (∀ j,j<=1048576->∀ W,Calls prog 131 #[.int .i64 (j:Nat),.int .i64 n] W fun x w'=>∃ v,x=.returned v/\OwnB w' W.heap.size v (Zdb j n)/\Below W.heap.size W w'):=Hd fun j hj W=>Zu6 j n hj (by omega) W
 have HS:Hid (∀ k,k<=n->2^k<=4096):=Hd fun k hk=>Nat.le_trans (Nat.pow_le_pow_right (by omega) (show k<=12 by omega)) (by decide)
 obtain⟨x0,x1,x2,hx,o0,o1,o2⟩:=h.agg;subst hx;obtain⟨w1,g5⟩:∃ w1,w1=w.alloc (.cells #[x0,x1,x2] 36):=⟨_,rfl⟩;have HW1:Hid (_=w1):=Hd g5.symm;have g7:Hid (Below w.heap.size w w1):=by rw[g5];exact Hd (Zaf _ _)
 have g4:w1.heap[w.heap.size]?=some (.cells #[x0,x1,x2] 36 (0,0)):=by rw[g5];exact heap_alloc_new _ _
 have hs1:w1.heap.size=w.heap.size+1:=by rw[g5];simp
 have d0:w1.cell? ⟨w.heap.size,0,none⟩=some x0:=by rw[cell_of_row _ _ 0 _ _ _ g4];rfl
 have d1:w1.cell? ⟨w.heap.size,1,none⟩=some x1:=by rw[cell_of_row _ _ 1 _ _ _ g4];rfl
 have d2:w1.cell? ⟨w.heap.size,2,none⟩=some x2:=by rw[cell_of_row _ _ 2 _ _ _ g4];rfl
 obtain⟨L,hL⟩:∃ L,L=2^n:=⟨_,rfl⟩;have gC:=Hd hL;obtain⟨G,hG⟩:∃ G:Nat->Bool,G=fun i=>fnT e (Zdc (Zdb i n)):=⟨_,rfl⟩
 have HG:Hid (∀ i,fnT e (Zdc (Zdb i n))=G i):=Hd fun i=>by rw[hG]
 have HT:Hid (tabB n (fnT e)=(List.range L).map G):=Hd (by rw[hL,hG];rfl);have gI:L<=4096:=by rw[hL];exact HS.out n (Nat.le_refl _)
 rw[HT.out];clear h g5 g4 hG hL
 go_enter func76,ntmps76
 go_upto_region 1 with fail;rw[HW1.out];have gH:¬ (n:Int)<0:=by omega
 have gF:¬ (n:Int)>12:=by omega
 go_wp2_with fail;refine(gt.out _ g7.out _ rfl).mono ?_;rintro y w2 ⟨rfl,gq⟩;have HB2:=Hd gq;clear gq gt;go_wp2_with fail
 go_loopw [5,6] (fun s5 s6 wr=>∃ k p:Nat,k<=n/\s5=.int .i64 p/\s6=.int .i64 k/\Hid (wr=w2)/\Hid (2^k=p)) (fun _ s6 _=>n-(intOf s6).toNat)
 case atStart=>exact⟨0,1,Nat.zero_le _,rfl,rfl,Hd rfl,Hd rfl⟩
 case round =>
  obtain⟨k,p,hk,rfl,rfl,gf,HP⟩:=hrel;have gG:p<=4096:=by rw[<- HP.out];exact HS.out k hk
  by_cases gl:k<n
  ·go_wp2_with fail;go_roundw
   case rel=>exact⟨k+1,2*p,by omega,by go_num,by go_num,gf,Hd (by rw[Nat.pow_succ,HP.out];omega)⟩
   case measure=>simp[intOf];omega
  ·obtain rfl:k=n:=by omega
   obtain rfl:p=L:=by rw[<- HP.out,gC.out]
   have gz:=gf.out;subst gz;obtain⟨w3,g8⟩:∃ w3,w3=wr.alloc (.cells #[] 4):=⟨_,rfl⟩;have gr:Hid (_=w3):=Hd g8.symm;have ge:Below w1.heap.size w1 w3:=by rw[g8];exact HB2.out.trans ((Zaf _ _).mono HB2.out.size)
   have gg:Hid (OwnB w3 w1.heap.size (.slice (some ⟨wr.heap.size,0,none⟩) 0 0) []):=by rw[g8];exact Hd (Ze2 _ _ _ HB2.out.size)
   have gv:=Hd ge;have gj:w1.heap.size<=w3.heap.size:=ge.size;clear g8 ge gl;go_upto_region 9 with fail;rw[gr.out];go_wp2_with fail
   go_loopw [7,8] (fun s7 s8 wr=>∃ j:Nat,j<=p/\s8=.int .i64 j/\Hid (OwnB wr w1.heap.size s7 ((List.range j).map G))/\Hid (Below w1.heap.size w1 wr)/\w1.heap.size<=wr.heap.size) (fun _ s8 _=>p-(intOf s8).toNat)
   case atStart=>exact⟨0,Nat.zero_le _,rfl,gg,gv,gj⟩
   case round =>
    clear gg gv gj gr gf HB2
    rename World=>wq
    obtain⟨j,hj,rfl,gs,g3,gA⟩:=hrel
    by_cases gl:j<p
    ·have e0:=(g3.out.cell (p:=⟨w.heap.size,0,none⟩) (Zab d0)).trans d0;have e1:=(g3.out.cell (p:=⟨w.heap.size,1,none⟩) (Zab d1)).trans d1;have e2:=(g3.out.cell (p:=⟨w.heap.size,2,none⟩) (Zab d2)).trans d2;have HL:=Hd (gi.out j (by omega) wq.drew);go_upto_region 12 with fail;refine Zam (fun W:World=>W.cell? ⟨w.heap.size,0,none⟩=some x0/\W.cell? ⟨w.heap.size,1,none⟩=some x1/\W.cell? ⟨w.heap.size,2,none⟩=some x2) false 9
      [(0,false),(1,false),(2,false),(3,false),(4,true),(5,true),(6,true),(7,true),(8,false)] (by kernel_rfl) (by kernel_rfl) ⟨e0,e1,e2⟩ ?_
     simp only[planned,Zdx]
     iterate 4
      refine Zao rfl ?_;apply Exists.intro;refine⟨fun w' hw=>?_,?_⟩
      . obtain⟨h1,h2,h3⟩:=hw;go_simp;rfl
      simp only[Zai]
     refine Zbq (R:=fun v w'=>Zdf w' v (Zdb j k)/\Below wq.heap.size wq w') rfl (by go_simp) (HL.out.mono (fun e w' he=>?_)) ?_
     . obtain⟨v,rfl,q1,q2⟩:=he;have q3:Below wq.heap.size wq w':=(Zag wq 1).trans (q2.mono (Zag wq 1).size);exact⟨v,rfl,⟨(q3.cell (p:=⟨w.heap.size,0,none⟩) (Zab e0)).trans e0,(q3.cell (p:=⟨w.heap.size,1,none⟩) (Zab e1)).trans e1,(q3.cell (p:=⟨w.heap.size,2,none⟩) (Zab e2)).trans e2⟩,q1.boolsIs (by rw[Zjl];omega),q3⟩
     rintro v w4 ⟨f0,f1,f2⟩ ⟨⟨av,cv,rfl,gn,-⟩,gp⟩;have gu:=Hd gn;have gc:=Hd gp;clear gn gp e0 e1 e2 HL;simp only[Zai];refine Zbq (R:=fun v w'=>v=.bool (G j)/\Below w4.heap.size w4 w') rfl (by go_simp) ((gx.out w4 (g7.out.trans ((g3.out.trans (gc.out.mono g3.out.size)).mono g7.out.size)) _ rfl (Zdb j k) av cv gu.out).mono (fun e w' he=>?_)) ?_
     . obtain⟨rfl,q3⟩:=he;exact⟨_,rfl,⟨(q3.cell (p:=⟨w.heap.size,0,none⟩) (Zab f0)).trans f0,(q3.cell (p:=⟨w.heap.size,1,none⟩) (Zab f1)).trans f1,(q3.cell (p:=⟨w.heap.size,2,none⟩) (Zab f2)).trans f2⟩,by rw[HG.out],q3⟩
     rintro v w5 ⟨g0,g1,g2⟩ ⟨rfl,go⟩;obtain⟨y,hy⟩:∃ y,y=G j:=⟨_,rfl⟩;rw[<- hy];have gB:Hid (Zb4 ((List.range (j+1)).map G)=Zb4 ((List.range j).map G)++[.bool y]):=Hd (by rw[Zm4,Zhv,hy]);have ga:=gc.out.trans (go.mono gc.out.size);have gE:=Hd (g3.out.trans (ga.mono g3.out.size));have gh:=Hd (gs.out.below ga);have gd:w1.heap.size<=w5.heap.size:=Nat.le_trans gA ga.size;clear go ga f0 f1 f2 hy gu gc;simp only[Zai];have gb:=Zaf w5 (.cells #[.bool y] 4);refine Zih (v:=.slice (some ⟨w5.heap.size,0,none⟩) 1 1) (w':=w5.alloc (.cells #[.bool y] 4)) rfl (by go_simp) ⟨(gb.cell (p:=⟨w.heap.size,0,none⟩) (Zab g0)).trans g0,(gb.cell (p:=⟨w.heap.size,1,none⟩) (Zab g1)).trans g1,(gb.cell (p:=⟨w.heap.size,2,none⟩) (Zab g2)).trans g2⟩ ?_;simp only[Zai];obtain⟨v6,w6,gk,g9,q1,q2,q3,q4,gm⟩:=Ya2 Zj7 54 w5 w1.heap.size _ (Zb4 ((List.range j).map G)) (.bool y) rfl gh.out (by simp[Zb4];omega) gd;have g6:=Zh7 gE.out gh.out q1 q2 q3 q4 gm gd;refine Zih (v:=v6) (w':=w6) rfl (Zkx rfl rfl rfl gk) ⟨(g6.cell (p:=⟨w.heap.size,0,none⟩) (Zab d0)).trans d0,(g6.cell (p:=⟨w.heap.size,1,none⟩) (Zab d1)).trans d1,(g6.cell (p:=⟨w.heap.size,2,none⟩) (Zab d2)).trans d2⟩ ?_;simp only[Zai]
     iterate 1
      refine Zao rfl ?_;apply Exists.intro;refine⟨fun w' hw=>?_,?_⟩
      . obtain⟨h1,h2,h3⟩:=hw;go_simp;rfl
      simp only[Zai]
     refine Ze8 ?_;have gD:=Hd g6;have gy:=Hd g9;have gw:w1.heap.size<=w6.heap.size:=by omega
     clear g6 g9 q1 q2 q3 q4 gm gk g0 g1 g2 gb;go_wp2_with fail;go_roundw
     case rel=>exact⟨j+1,by omega,by go_num,Hd (by unfold OwnB;rw[gB.out];exact gy.out),gD,gw⟩
     case measure=>simp[intOf];omega
    ·obtain rfl:j=p:=by omega
     have HF:Hid (∃ v,Ending.returned u7=.returned v/\OwnB wq w.heap.size v ((List.range j).map G)/\Below w.heap.size w wq):=Hd ⟨u7,rfl,gs.out.lower (by omega),g7.out.trans (g3.out.mono g7.out.size)⟩;go_wp2_with fail;go_ret;exact HF.out
open Go.RowKit
section
variable {P:Program}(w:World)
theorem Zj4 (t ty e:TypeId)(i:TypeInfo)(ht:P.underlying t=some (.slice e))(hi:P.info? e=some i)
 (g off sLen sCap:Nat) (cur:Array Value) (hg:w.heap[g]?=some (.cells cur e (0,0)))
 (a:Addr) (m c:Nat) (news:List Value) (hl:news.length=m*i.size) (hnews:∀ j u,news[j]?=some u->w.cell? (a.add j)=some u) (h1:∀ u∈news,u.oneCell'=true)
 (hroom:sLen+m<=sCap) (hfit:off+sLen*i.size+news.length<=cur.size) :
 (Builtin.append_ #[t,t] ty #[.slice (some ⟨g,off,none⟩) sLen sCap,.slice (some a) m c]).run P w =
  .ok (.slice (some ⟨g,off,none⟩) (sLen+m) sCap) (w.setRow g (cur.toList.take (off+sLen*i.size)++news++cur.toList.drop (off+sLen*i.size+news.length)).toArray):=by
 have hf:=run_firstCells_some (P:=P) w i.size m a m c news hl hnews;have g0:=run_storeCells_at P g (off+sLen*i.size) e news 0 cur w hg (by simpa using hfit) h1;simp only[Nat.add_zero] at g0;have g1:(⟨g,off,none⟩:Addr).add (sLen*i.size)=⟨g,off+sLen*i.size,none⟩:=by unfold Addr.add;split<;>simp_all
 simp[Builtin.append_,run_underlying ht,sizeOf,typeInfo,hi,Builtin.lenOf,hroom,hf,g1,g0]
end
theorem Yet:(prog.info? 105).map (fun i=>(i.zero,i.size,i.bytes))=some (some (.agg #[.int .i64 0,.int .i64 0,.int .i64 0]),3,24):=by kernel_rfl
theorem Ydb (l:List Ev):∀ (j:Nat) (u:Value),(l.flatMap evL)[j]?=some u->∃ hk:j/3<l.length,(evL (l[j/3]))[j%3]?=some u:=by
 induction l with
 | nil=>intro j u h;simp at h
 | cons e l ih =>
   intro j u h;rw[List.flatMap_cons] at h
   by_cases hj:j<3
   ·rw[List.getElem?_append_left (by show j<3;exact hj)] at h;have e0:j/3=0:=by omega
    refine⟨by rw[e0];simp,?_⟩;have e1:j%3=j:=by omega
    simp only[e0,e1,List.getElem_cons_zero];exact h
   ·rw[List.getElem?_append_right (by show 3<=j;omega)] at h;obtain⟨hk,h2⟩:=ih (j-3) u h;have e0:j/3=(j-3)/3+1:=by omega
    have e1:j%3=(j-3)%3:=by omega
    refine⟨by rw[e0,List.length_cons];omega,?_⟩;simp only[e0,e1,List.getElem_cons_succ];exact h2
theorem EvsAt.news {w:World}{b off:Nat}{l:List Ev}(h:EvsAt w (some ⟨b,off,none⟩) l):∀ j u,(l.flatMap evL)[j]?=some u->w.cell? ((⟨b,off,none⟩:Addr).add j)=some u:=by
 intro j u hu;have g0:(⟨b,off,none⟩:Addr).add j=⟨b,off+j,none⟩:=by unfold Addr.add;split<;>simp_all
 obtain⟨hk,h2⟩:=Ydb l j u hu;obtain⟨b',off',e,c0,c1,c2⟩:=h.cells (j/3) hk;cases e;rw[g0];have hm:j%3<3:=Nat.mod_lt _ (by decide);rcases(by omega:j%3=0\/j%3=1\/j%3=2) with e|e|e<;>rw[e] at h2
 ·have e2:j=j/3*3:=by omega
  rw[e2,c0];exact h2
 ·have e2:j=j/3*3+1:=by omega
  rw[e2,<- Nat.add_assoc,c1];exact h2
 ·have e2:j=j/3*3+2:=by omega
  rw[e2,<- Nat.add_assoc,c2];exact h2
theorem Ydc (l:List Ev):∀ u∈l.flatMap evL,u.oneCell'=true:=by
 intro u hu;obtain⟨e,_,h⟩:=List.mem_flatMap.1 hu;simp only[evL,List.mem_cons,List.not_mem_nil,or_false] at h;rcases h with rfl|rfl|rfl<;>rfl
theorem Zjx {o:Own}{w:World}{v:Value}{ws l:List Ev}{a:Option Addr}{c:Nat}(h:Zbl o w v ws)(hlt:Zah o w)(hev:EvsAt w a l)(hsm:ws.length+l.length<=1000)(ty:TypeId) :
 ∃ v' w' o',(Builtin.append_ #[24,24] ty #[v,.slice a l.length c]).run prog w=.ok v' w'/\Zbl o' w' v' (ws++l)/\Chg (· = .waits) o o' w w'/\Zah o' w':=by
 obtain⟨i,hi,hz,g3,gb⟩:=info_parts Yet;have ht:=underlying24
 by_cases h0:l=[]
 ·subst h0;refine⟨v,w,o,?_,by rw[List.append_nil];exact h,Chg.refl _ _ _,hlt⟩;rcases h.ex with ⟨rfl,rfl⟩|⟨g,off,cap,cur,rfl,_,_,hn,_⟩
  . cases a<;>simp[Builtin.append_,run_underlying ht,sizeOf,typeInfo,hi,Builtin.lenOf,Builtin.firstCells,loadCells,loadCellsFrom]
  . cases a<;>simp[Builtin.append_,run_underlying ht,sizeOf,typeInfo,hi,Builtin.lenOf,hn,Builtin.firstCells,storeCells,loadCells,loadCellsFrom]
 ·have ga:0<l.length:=List.length_pos_iff.2 h0;obtain⟨b,off,rfl,_⟩:=hev.cells 0 ga;have g0:=hev.news;have gc:=Ydc l;have g5:(l.flatMap evL).length=l.length*i.size:=by rw[g3];exact Zcp l
  have g9:(ws.flatMap evL++l.flatMap evL).length=(ws++l).length*3:=by rw[List.length_append,Zcp,Zcp,List.length_append];omega
  have mk:∀ (old:Nat),Zbl (Zcf o w.heap.size .waits) (w.drew.alloc (.cells ((ws.flatMap evL).toArray++(l.flatMap evL).toArray++Builtin.zeroCells (Value.agg #[.int .i64 0,.int .i64 0,.int .i64 0]).cells (grownCap w (ws.length+l.length) old 105-(ws.length+l.length))) 105)) (.slice (some ⟨w.heap.size,0,none⟩) (ws.length+l.length) (grownCap w (ws.length+l.length) old 105)) (ws++l) /\
   Chg (· = .waits) o (Zcf o w.heap.size .waits) w (w.drew.alloc (.cells ((ws.flatMap evL).toArray++(l.flatMap evL).toArray++Builtin.zeroCells (Value.agg #[.int .i64 0,.int .i64 0,.int .i64 0]).cells (grownCap w (ws.length+l.length) old 105-(ws.length+l.length))) 105)) /\
   Zah (Zcf o w.heap.size .waits) (w.drew.alloc (.cells ((ws.flatMap evL).toArray++(l.flatMap evL).toArray++Builtin.zeroCells (Value.agg #[.int .i64 0,.int .i64 0,.int .i64 0]).cells (grownCap w (ws.length+l.length) old 105-(ws.length+l.length))) 105)):=by
   intro old;have gh:=grownCap_ge w (ws.length+l.length) old 105;have g6:grownCap w (ws.length+l.length) old 105<=maxLen:=grownCap_le_maxLen w _ old _ (by unfold maxLen;omega);refine⟨⟨.inr ⟨w.heap.size,0,_,_,by rw[List.length_append],Za6 _ _ _,heap_alloc_new w.drew _,by rw[List.length_append];exact gh,g6,?_,?_⟩⟩,((Chg.refl (· = .waits) o w).drewN 1).allocR (w':=w.drewN 1) hlt _ rfl,Zah.allocR (w:=w.drewN 1) hlt _ .waits⟩
   . have e3:(Value.agg #[.int .i64 0,.int .i64 0,.int .i64 0]).cells.size=3:=rfl;simp only[Array.size_append,List.size_toArray,size_zeroCells,e3,Zcp,Nat.zero_add];omega
   . simp only[Array.toList_append,List.drop_zero,List.flatMap_append];rw[List.take_left' g9]
  rcases h.ex with ⟨rfl,rfl⟩|⟨g,off2,cap,cur,rfl,g8,hg,gg,g6,gi,g2⟩
  . have hr:=run_append_nil (P:=prog) w 24 ty 105 i _ ht hi hz ⟨b,off,none⟩ l.length c (l.flatMap evL) g5 g0 ga (by simp at hsm;omega) (by rw[gb];simp at hsm;omega);have hm:=mk 0;simp only[List.length_nil,Nat.zero_add,List.flatMap_nil,List.nil_append,Array.empty_append] at hm ⊢;exact⟨_,_,_,hr,hm⟩
  ·by_cases g4:ws.length+l.length<=cap
   ·have g1:off2+ws.length*i.size+(l.flatMap evL).length<=cur.size:=by rw[g5,g3];omega
    have hr:=Zj4 (P:=prog) w 24 ty 105 i ht hi g off2 ws.length cap cur hg ⟨b,off,none⟩ l.length c (l.flatMap evL) g5 g0 gc g4 g1;refine⟨_,_,o,hr,⟨.inr ⟨g,off2,cap,_,by rw[List.length_append],g8,setRow_heap w g cur _ _ _ hg,by rw[List.length_append];exact g4,g6,?_,?_⟩⟩,⟨rfl,rfl,rfl,by simp,fun k _ hk=>setRow_other w g k _ (by rintro rfl;exact hk _ g8 rfl),fun _ _ h=>h,fun _ h=>(h rfl).elim⟩,fun k q hq=>by have:=hlt k q hq;simpa using this⟩
    . simp only[List.size_toArray,List.length_append,List.length_take,List.length_drop,Array.length_toList];omega
    ·rw[g3] at g1 ⊢;have e1:(cur.toList.take (off2+ws.length*3)).drop off2=ws.flatMap evL:=by
      rw[<- g2,List.drop_take,Nat.add_sub_cancel_left]
     have e2:off2<=(cur.toList.take (off2+ws.length*3)).length:=by
      have hq:ws.length*3<=cap*3:=Nat.mul_le_mul_right _ gg;have gf:off2+ws.length*3<=cur.size:=by clear g1;omega
      have ge:cur.toList.length=cur.size:=Array.length_toList;rw[List.length_take,ge,Nat.min_eq_left gf];exact Nat.le_add_right _ _
     simp only[List.append_assoc];rw[List.drop_append_of_le_length e2,e1,<- List.append_assoc,List.flatMap_append,List.take_left' g9]
   ·have g7:∀ j u,(ws.flatMap evL)[j]?=some u->w.cell? ((⟨g,off2,none⟩:Addr).add j)=some u:=by
     intro j u hu;have gd:(⟨g,off2,none⟩:Addr).add j=⟨g,off2+j,none⟩:=by unfold Addr.add;split<;>simp_all
     rw[gd,cell_of_row w g (off2+j) cur _ _ hg];rw[<- g2,List.getElem?_take] at hu;split at hu
     . rw[List.getElem?_drop] at hu;simpa using hu
     . cases hu
    have hr:=run_append_grow (P:=prog) w 24 ty 105 i _ ht hi hz ⟨g,off2,none⟩ ws.length cap (ws.flatMap evL) (by rw[g3];exact Zcp ws) g7 ⟨b,off,none⟩ l.length c (l.flatMap evL) g5 g0 (by omega) (by omega) (growslice_fits (by omega) (by rw[gb];omega));exact⟨_,_,_,hr,mk cap⟩
open Go.RowKit
theorem Zbl.form {o:Own}{w:World}{v:Value}{ws:List Ev}(h:Zbl o w v ws):∃ a c,v=.slice a ws.length c:=by
 rcases h.ex with ⟨rfl,rfl⟩|⟨g,off,cap,cur,rfl,_⟩
 . exact⟨_,_,rfl⟩
 . exact⟨_,_,rfl⟩
theorem Zlx {P:Program}{ops:Array Oper}{rest:List Oper}{op:Oper}{a:Act}{Q:Exit->Act->World->Prop}{w w':World}{vs vx v':Value}(hgd:op.guard=none)(s x:Operand)(t:TypeId)
 (hop:op.op=.call { callee:=.builtin .append,args:=#[s,x],argTypes:=#[t,t] }) (hs:a.eval s=vs) (hx:a.eval x=vx) (hr:(Builtin.append_ #[t,t] op.type #[vs,vx]).run P w=.ok v' w')
 (hK:wpList P ops Q rest (a.put op.dst v') w'):wpList P ops Q (op::rest) a w:=by
 refine wpList_plain hgd fun K g0=>?_
 unfold Oper.wp execOp;simp only[hop,resolve,invoke,builtin,Sem.run_bind,Sem.run_pure,Result.andThen_ok,List.map_toArray,List.map_cons,List.map_nil,hs,hx,hr];exact g0 _ _ hK
theorem Zbs.setWaits {F:Phi}{o o':Own}{w w':World}{mb:Nat}{m:ManD}{s:ManW}(h:Zbs F o w mb m s)(hlt:Zah o w){v':Value}{l':List Ev}(hw:Zbl o' w' v' l')(hc:Chg (· = .waits) o o' w w'):Zbs F o' (w'.setCell ⟨mb,4,none⟩ v') mb { m with waits:=l' } { s with vw:=v' }:=by
 have key:∀ {g r},o g=some r->r ≠ .man->r ≠ .waits->(w'.setCell ⟨mb,4,none⟩ v').heap[g]?=w.heap[g]?:=by
  intro g r hg h1 h2;refine(Zad (p:=⟨mb,4,none⟩) (fun e=>?_) _).trans (hc.same hlt hg h2);have e':g=mb:=e;subst e';have:=h.own;rw[hg] at this;cases this;exact h1 rfl
 refine⟨hc.ext _ _ h.own,?_,h.store.keepR (fun g r hg hr=>key hg (by rintro rfl;simp[Zan,Ze7] at hr) (by rintro rfl;simp[Zan,Ze7] at hr)) hc.ext,h.memo.keep (fun g r hg hr=>key hg (by rintro rfl;rcases hr with e|e<;>cases e) (by rintro rfl;rcases hr with e|e<;>cases e)) hc.ext,hc.ext _ _ h.ownh,h.map.keepB (key h.ownh (by simp) (by simp)),hw.keep (fun g hg=>Zad (p:=⟨mb,4,none⟩) (fun e=>?_) _) (fun _ h=>h)⟩
 . exact Zae ((hc.same hlt h.own (by simp)).trans h.blk) _
 . have e':g=mb:=e;subst e';have:=hc.ext _ _ h.own;rw[hg] at this;cases this
section
variable {K:Law}{n:Nat}{Od:List Nat->Prop}{room:Nat}{w0 w w':World}{mb:Nat}{fs:List (Int×BF)}{nx:Int}{o o':Own}{m m':ManD}{V V':Nat->BF}
structure Planned (K:Law)(n:Nat)(Od:List Nat->Prop)(room:Nat)(w0:World)(mb:Nat)(fs:List (Int×BF))(nx:Int)(o:Own)(w:World)(m:ManD)(V:Nat->BF)(l:List Ev)(z:Int)(o':Own)(w':World)(m':ManD):Prop where
 sat:SatE K n Od room w0 mb fs nx w' o' m' V
 d:m'.d=m.d
 chg:Chg (fun _=>True) o o' w w'
 no:z≠0->m'.waits=m.waits/\m'.calls=m.calls
 yes:z=0->m'.waits=m.waits++l/\m'.calls=if m.waits=[] then 0 else m.calls
theorem Zr4 (h:SatE K n Od room w0 mb fs nx w o m V){a:Option Addr}{c:Nat}{l:List Ev}(hev:EvsAt w a l)(hno:0<l.length->∀ x,a=some x->o x.block=none)(hwl:m.waits.length<=256) :
 Calls prog 77 #[.pointer (some ⟨mb,0,none⟩),.slice a l.length c] w fun e w'=>e=.returned (.int .i64 (Zex n m.waits.length l))/\∃ o' m',Planned K n Od room w0 mb fs nx o w m V l (Zex n m.waits.length l) o' w' m':=by
 obtain⟨Q,hQ⟩:∃ Q:Ending->World->Prop,Q=fun e w'=>e=.returned (.int .i64 (Zex n m.waits.length l))/\∃ o' m',Planned K n Od room w0 mb fs nx o w m V l (Zex n m.waits.length l) o' w' m':=⟨_,rfl⟩
 rw[<- hQ];have HQ:=Hd hQ;clear hQ;have gG:=hev.len;have hn64:n<=64:=by rw[<- h.vars];exact h.ok.store.small
 obtain⟨s,hs⟩:=h.is;obtain⟨c0,c1,c2,c3,c4,c5,f0⟩:=cells6 hs.blk;obtain⟨av,cv,gi⟩:=hs.waits.form
 have g1:Hid (∀ (z:Int) W,Below w.heap.size w W->Zex n m.waits.length l=z->z≠0->Q (.returned (.int .i64 z)) W):=Hd (by
  intro z W hb hz h0;rw[HQ.out,hz];exact⟨rfl,o,m,h.below hb,rfl,Chg.of_below hb _ _,fun _=>⟨rfl,rfl⟩,fun e=>(h0 e).elim⟩)
 have HV:Hid (∀ W,Below w.heap.size w W->Calls prog 69 #[.pointer (some ⟨mb,0,none⟩)] W fun e w'=>e=.returned (.int .i64 n)/\w'=W):=Hd (fun W hb=>(Zdw (h.below hb).is).mono fun e w' q=>⟨by rw[q.1,h.vars],q.2.symm⟩);have HI:=Hd hev;have HS:=Hd hs;have HH:=Hd h;have gD:=Hd hno;rw[gi] at c4;have gt:=Hd gi;have gB:=Hd hwl;clear h hs hev hno gi
 by_cases g9:(l.length:Int)>256-m.waits.length
 ·have HF:=Hd (g1.out 18 w (Below.refl _ _) (by unfold Zex;rw[if_pos g9]) (by decide))
  go_enter func77,ntmps77
  go_wp2_with fail;exact HF.out
 have HR:Hid (Zex n m.waits.length l=Zl4 n (l.drop 0)):=Hd (by unfold Zex;rw[if_neg g9];rfl);obtain⟨P,hP⟩:∃ P,P=Zex n m.waits.length l:=⟨_,rfl⟩;rw[<- hP] at HR g1;have gC:=Hd hP;clear hP;have HM:=Hd g9
 go_enter func77,ntmps77
 go_wp2_with fail
 go_loopw [20] (fun s20 wr=>∃ i:Nat,i<=l.length/\s20=.int .i64 i/\Hid (Below w.heap.size w wr)/\Hid (P=Zl4 n (l.drop i))) (fun s20 _=>l.length-(intOf s20).toNat)
 case atStart=>exact⟨0,Nat.zero_le _,rfl,Hd (Below.refl _ _),HR⟩
 case round =>
  clear HR;obtain⟨i,hi,rfl,HB,HP⟩:=hrel
  by_cases gf:i<l.length
  ·obtain⟨b,off,rfl,e0,e1,e2⟩:=(HI.out.below HB.out).cells i gf;have gz:(i:Int)<l.length:=by omega
   have HC:Hid (∀ z:Int,Zhl n l[i]=z->z≠0->P=z):=Hd fun z hz h0=>by rw[HP.out,Zha gf,hz,if_neg h0]
   have HN:Hid (Zhl n l[i]=0->P=Zl4 n (l.drop (i+1))):=Hd fun hz=>by rw[HP.out,Zha gf,hz,if_pos rfl]
   have HE:Hid (Zhl n l[i]=if l[i].kind<1\/l[i].kind>3 then 11 else if l[i].after<1\/(l[i].kind=2/\(l[i].level<0\/l[i].level>(n:Int)-2)) then 2 else 0):=Hd rfl;obtain⟨ev,hev⟩:∃ ev,ev=l[i]:=⟨_,rfl⟩;rw[<- hev] at e0 e1 e2 HC HN HE;obtain⟨af,ki,le⟩:=ev;dsimp only at e0 e1 e2 HE;clear hev HP c0 c1 c2 c3 c4 c5 f0;obtain⟨W,hW⟩:∃ W,W=wr.alloc (.cells #[.int .i64 af,.int .i64 ki,.int .i64 le] 105):=⟨_,rfl⟩;have gg:Below w.heap.size w W:=HB.out.trans ((show Below wr.heap.size wr W by rw[hW];exact Zaf wr _).mono HB.out.size);obtain⟨bx,gm⟩:∃ q,q=wr.heap.size:=⟨_,rfl⟩;have hx:W.heap[bx]?=some (.cells #[.int .i64 af,.int .i64 ki,.int .i64 le] 105 (0,0)):=by rw[hW,gm];exact heap_alloc_new wr _
   have b0:W.cell? ⟨bx,0,none⟩=some (.int .i64 af):=by rw[cell_of_row W _ 0 _ _ _ hx];rfl
   have b1:W.cell? ⟨bx,1,none⟩=some (.int .i64 ki):=by rw[cell_of_row W _ 1 _ _ _ hx];rfl
   have b2:W.cell? ⟨bx,2,none⟩=some (.int .i64 le):=by rw[cell_of_row W _ 2 _ _ _ hx];rfl
   have HW:=Hd hW;have gE:=Hd gm;have g0:=Hd gg;have g8:Hid (∀ q,Calls prog 69 #[.pointer (some ⟨mb,0,none⟩)] (W.drewN q) fun e w'=>e=.returned (.int .i64 n)/\w'=W.drewN q):=Hd (fun q=>HV.out _ (gg.trans ((Zag W q).mono gg.size)));have gh:=Hd gf;clear hW gm gg hx;go_upto_region 8 with fail;rw[<- HW.out,<- gE.out];have gx:ki<1\/ki>3\/(ki=2)\/(ki=1\/ki=3):=by omega
   rcases gx with hk|hk|hk|hk
   . have HF:=Hd (g1.out 11 W g0.out (HC.out 11 (by rw[HE.out,if_pos (.inl hk)]) (by decide)) (by decide));go_wp2_with fail;exact HF.out
   ·have HF:=Hd (g1.out 11 W g0.out (HC.out 11 (by rw[HE.out,if_pos (.inr hk)]) (by decide)) (by decide));have gy:¬ ki<1:=by omega
    go_wp2_with fail;exact HF.out
   ·by_cases ha:af<1
    ·have HF:Hid (∀ q,Q (.returned (.int .i64 2)) (W.drewN q)):=Hd (fun q=>g1.out 2 _ (g0.out.trans ((Zag W q).mono g0.out.size)) (HC.out 2 (by rw[HE.out,if_neg (by omega),if_pos (.inl ha)]) (by decide)) (by decide));subst hk;go_upto_region 10 with fail
     go_quiet (with_reducible exact Calls.quiet_of_same (g8.out _))
     go_wp2_with fail;exact HF.out _
    ·by_cases gw:le<0
     ·have HF:Hid (∀ q,Q (.returned (.int .i64 2)) (W.drewN q)):=Hd (fun q=>g1.out 2 _ (g0.out.trans ((Zag W q).mono g0.out.size)) (HC.out 2 (by rw[HE.out,if_neg (by omega),if_pos (.inr ⟨hk,.inl gw⟩)]) (by decide)) (by decide));subst hk;go_upto_region 10 with fail
      go_quiet (with_reducible exact Calls.quiet_of_same (g8.out _))
      go_wp2_with fail;exact HF.out _
     ·by_cases gb:le>=(n:Int)-1
      ·have HF:Hid (∀ q,Q (.returned (.int .i64 2)) (W.drewN q)):=Hd (fun q=>g1.out 2 _ (g0.out.trans ((Zag W q).mono g0.out.size)) (HC.out 2 (by rw[HE.out,if_neg (by omega),if_pos (.inr ⟨hk,.inr (by omega)⟩)]) (by decide)) (by decide));subst hk;go_upto_region 10 with fail
       go_quiet (with_reducible exact Calls.quiet_of_same (g8.out _))
       go_wp2_with fail;exact HF.out _
      ·have gc:=Hd (HN.out (by rw[HE.out,if_neg (by omega),if_neg (by omega)]));subst hk;go_upto_region 10 with fail
       go_quiet (with_reducible exact Calls.quiet_of_same (g8.out _))
       have go:=Hd (g0.out.trans ((Zag W nq).mono g0.out.size));go_wp2_with fail;go_roundw
       case rel=>exact⟨i+1,Nat.succ_le_of_lt gh.out,by go_num,go,gc⟩
       case measure =>
        have:=gh.out;simp[intOf];omega
   ·have gy:¬ ki<1:=by omega
    have gI:¬ ki>3:=by omega
    have gH:(ki == 2)=false:=by simp;omega
    by_cases ha:af<1
    ·have HF:Hid (∀ q,Q (.returned (.int .i64 2)) (W.drewN q)):=Hd (fun q=>g1.out 2 _ (g0.out.trans ((Zag W q).mono g0.out.size)) (HC.out 2 (by rw[HE.out,if_neg (by omega),if_pos (.inl ha)]) (by decide)) (by decide));clear hk;go_upto_region 10 with fail
     go_quiet (with_reducible exact Calls.quiet_of_same (g8.out _))
     go_wp2_with fail;exact HF.out _
    ·have gc:=Hd (HN.out (by rw[HE.out,if_neg (by omega),if_neg (by omega)]));clear hk;go_upto_region 10 with fail
     go_quiet (with_reducible exact Calls.quiet_of_same (g8.out _))
     have go:=Hd (g0.out.trans ((Zag W nq).mono g0.out.size));go_wp2_with fail;go_roundw
     case rel=>exact⟨i+1,Nat.succ_le_of_lt gh.out,by go_num,go,gc⟩
     case measure =>
      have:=gh.out;simp[intOf];omega
  ·have he:i=l.length:=by omega
   have gz:¬ (i:Int)<l.length:=by omega
   have gc:Hid (P=0):=Hd (by rw[HP.out,he,List.drop_length];rfl);clear he;have hs':=HS.out.below HH.out.lt HB.out;have g3:=HH.out.lt.mono HB.out.size;have gp:m.waits.length+l.length<=1000:=by have:=HM.out;have:=gB.out;omega
   have gn:Hid (∀ (cl:Int) (W:World) (hm:Zbs (K m.d V) o W mb { m with calls:=cl } s) (hl:Zah o W) (hc:Chg (fun _=>True) o o w W) (v':Value) (W':World) (o':Own),cl=(if m.waits=[] then 0 else m.calls)->Zbl o' W' v' (m.waits++l)->Chg (· = .waits) o o' W W'->Zah o' W'->Q (.returned (.int .i64 0)) (W'.setCell ⟨mb,4,none⟩ v')):=Hd (by
    intro cl W hm hl hc v' W' o' gA hw gl gv;rw[HQ.out,<- gC.out,gc.out];have gu:=hm.setWaits hl hw gl;have gr:Chg (fun _=>True) o o' w (W'.setCell ⟨mb,4,none⟩ v'):=(hc.trans gl.any).setCell (p:=⟨mb,4,none⟩) (gl.ext _ _ hm.own) trivial _;exact⟨rfl,o',{ m with waits:=m.waits++l,calls:=cl },⟨⟨_,gu⟩,gv.mono (by simp[World.setCell]),⟨HH.out.ok.store,⟨HH.out.ok.handles.nodup,HH.out.ok.handles.zero,HH.out.ok.handles.one,HH.out.ok.handles.lt,HH.out.ok.handles.next,HH.out.ok.handles.ok,HH.out.ok.handles.len,HH.out.ok.handles.refs⟩⟩,HH.out.vars,HH.out.od,HH.out.room,HH.out.next,HH.out.hs,HH.out.chg.lower (ChgX.of_chg gr NoB) (fun _ e=>e.elim)⟩,rfl,gr,fun e=>(e rfl).elim,fun _=>⟨rfl,gA⟩⟩)
   have gd:=HI.out.below HB.out;clear c0 c1 c2 c3 c4 c5 f0;obtain⟨c0,c1,c2,c3,c4,c5,f0⟩:=cells6 hs'.blk
   by_cases hw0:m.waits=[]
   ·have hz:m.waits.length=0:=by rw[hw0];rfl
    have HZ:=Hd hz;have g7:Zbs (K m.d V) o (wr.setCell ⟨mb,5,none⟩ (.int .i64 0)) mb { m with calls:=0 } s:=hs'.field rfl rfl rfl rfl rfl (hs'.waits) rfl;have gs:Chg (fun _=>True) o o w (wr.setCell ⟨mb,5,none⟩ (.int .i64 0)):=(Chg.of_below HB.out _ _).setCell (p:=⟨mb,5,none⟩) hs'.own trivial _;have gb:Zah o (wr.setCell ⟨mb,5,none⟩ (.int .i64 0)):=g3.mono (by simp[World.setCell])
    have gq:EvsAt (wr.setCell ⟨mb,5,none⟩ (.int .i64 0)) a l:=⟨gd.len,fun k hk=>by
     obtain⟨b,off,e,q0,q1,q2⟩:=gd.cells k hk;have gk:mb≠b:=by
      rintro rfl;have:=gD.out (by omega) _ e;have h2:=hs'.own;rw[h2] at this;cases this
     exact⟨b,off,e,Za0 q0 (.inl gk),Za0 q1 (.inl gk),Za0 q2 (.inl gk)⟩⟩
    obtain⟨v',w2,o2,g2,g4,g5,ga⟩:=Zjx (c:=c) g7.waits gb gq gp 24;obtain⟨av2,cv2,gj⟩:=g4.form;subst gj;have HF:=Hd (gn.out 0 _ g7 gb gs _ w2 o2 (by rw[if_pos hw0]) g4 g5 ga);obtain⟨k0,k1,k2,k3,k4,k5,kf⟩:=cells6 g7.blk;have g6:=(g5.same gb g7.own (by simp)).trans g7.blk;obtain⟨j0,j1,j2,j3,j4,j5,jf⟩:=cells6 g6;rw[gt.out,hz] at c4 k4 g2;clear hs' g3 g7 gs gb gq g4 g5 ga gd hw0 g6 k0 k1 k2 k3 k5 kf;have ge:=Hd g2;clear g2;go_upto_region 15 with fail;go_wp2_with (refine Zlx rfl _ _ _ rfl rfl rfl ge.out ?_);have hq:=HF.out;rw[List.length_append,HZ.out,Nat.zero_add] at hq;exact hq
   ·have hz:0<m.waits.length:=List.length_pos_iff.2 hw0;have gF:((m.waits.length:Int) == 0)=false:=by rw[beq_eq_false_iff_ne];omega
    obtain⟨v',w2,o2,g2,g4,g5,ga⟩:=Zjx (c:=c) hs'.waits g3 gd gp 24;obtain⟨av2,cv2,gj⟩:=g4.form;subst gj;have HF:=Hd (gn.out m.calls _ hs' g3 (Chg.of_below HB.out _ _) _ w2 o2 (by rw[if_neg hw0]) g4 g5 ga);have g6:=(g5.same g3 hs'.own (by simp)).trans hs'.blk;obtain⟨j0,j1,j2,j3,j4,j5,jf⟩:=cells6 g6;rw[gt.out] at c4 g2;clear hs' g3 g4 g5 ga gd hw0 g6 hz;have ge:=Hd g2;clear g2;go_upto_region 15 with fail;go_wp2_with (refine Zlx rfl _ _ _ rfl rfl rfl ge.out ?_);have hq:=HF.out;rw[List.length_append] at hq;exact hq
end
open Go.RowKit
def Zdo (n:Nat):Nat:=4*2^(2*n)+192*2^n
theorem Zur (n:Nat)(hn:n<=8)(w:World):Calls prog 128 #[.int .i64 n,.int .i64 40] w fun x w'=>x=.returned (.int .i64 (Zdo n))/\w=w':=by
 have HB:Hid (∀ (z:Int) (k:Nat),z=k->k<=16->Calls prog 104 #[.int .i64 z] w fun x w'=>x=.returned (.int .i64 (2^k:Nat))/\w=w'):=Hd fun z k e hk=>by subst e;exact Ycs k (by omega) w
 have hA:2^(2*n)<=65536:=Nat.le_trans (Nat.pow_le_pow_right (by omega) (show 2*n<=16 by omega)) (by decide);have hB:2^n<=65536:=Nat.le_trans (Nat.pow_le_pow_right (by omega) (show n<=16 by omega)) (by decide);have g0:=Hd (fun z e=>HB.out z (2*n) e (by omega));have HB2:=Hd (fun z e=>HB.out z n e (by omega));unfold Zdo;obtain⟨a,ha⟩:∃ a,a=2^(2*n):=⟨_,rfl⟩;obtain⟨b,hb⟩:∃ b,b=2^n:=⟨_,rfl⟩;rw[<- ha] at hA g0 ⊢;rw[<- hb] at hB HB2 ⊢;clear ha hb HB
 go_enter func128,ntmps128
 go_wp2_with fail;refine(g0.out _ (by omega)).mono ?_;rintro x w' ⟨rfl,rfl⟩;go_wp2_with fail;refine(HB2.out _ (by omega)).mono ?_;rintro x w' ⟨rfl,rfl⟩;go_wp2_with fail;go_ret;exact⟨by congr 2,rfl⟩
theorem Zvl (n:Nat)(hn:n<=8)(w:World):Calls prog 74 #[.int .i64 n,.int .i64 40] w fun x w'=>x=.returned (.int .i64 (Zdo n))/\w=w':=by
 have HE:=Hd (Zur n hn w)
 go_enter func74,ntmps74
 go_wp2_with fail;refine HE.out.mono ?_;rintro x w' ⟨rfl,rfl⟩;go_wp2_with fail;go_ret;exact⟨rfl,rfl⟩
theorem Zyo {n:Nat}(hn:n<=6):1<=Zdo n/\Zdo n<=1048576:=by
 have h1:2^(2*n)<=4096:=Nat.le_trans (Nat.pow_le_pow_right (by omega) (show 2*n<=12 by omega)) (by decide);have h2:2^n<=64:=Nat.le_trans (Nat.pow_le_pow_right (by omega) hn) (by decide);have h3:0<2^n:=Nat.pow_pos (by omega);unfold Zdo;omega
theorem Zlf {n k:Nat}(hk:k<=192):k*2^n<=Zdo n:=by
 have:=Nat.mul_le_mul_right (2^n) hk;unfold Zdo;omega
theorem Zvm {n j s:Nat}(hn:1<=n)(hs:s<=40)(hj:j<5):2*2^n+j*(39*2^n+1)+s*2^n<=Zdo n:=by
 have h1:=Nat.mul_le_mul_right (2^n) hs;have h2:=Nat.mul_le_mul_right (39*2^n+1) (Nat.le_of_lt_succ hj);have h3:2^1<=2^n:=Nat.pow_le_pow_right (by omega) hn;have h4:2^(n+1)<=2^(2*n):=Nat.pow_le_pow_right (by omega) (by omega);rw[Nat.pow_succ] at h4;unfold Zdo;omega
theorem Zvn {n j s k:Nat}(hs:s<=40)(h1:1<=s)(h:k<=2*2^n+j*(39*2^n+1)+Zhz n s):k<=2*2^n+(j+1)*(39*2^n+1):=by
 have h2:=Zh9 n h1;have h3:=Nat.mul_le_mul_right (2^n) hs;rw[Nat.add_mul];have h4:0<2^n:=Nat.pow_pos (by omega);omega
theorem Ya1 {n j k:Nat}(hj:j<=5)(h:k<=2*2^n+j*(39*2^n+1))(hn:2<=n):k+7<=Zdo n:=by
 have h2:=Nat.mul_le_mul_right (39*2^n+1) hj;have h3:2^2<=2^n:=Nat.pow_le_pow_right (by omega) hn;have h4:2^(n+2)<=2^(2*n):=Nat.pow_le_pow_right (by omega) (by omega);rw[Nat.pow_add] at h4;unfold Zdo;omega
def two:List (Int×BF):=[(0,fun _=>false),(1,fun _=>true)]
theorem Yce:B2 two:=⟨by simp[two],by simp[two]⟩
theorem Zs9 {K:Law}(n room:Nat)(w:World)(hn:n<=64)(h1:1<=room)(h2:room<=1048576) :
 Calls prog 14 #[.int .i64 n,.int .i64 room] w fun x w'=>∃ mb,x=.returned (.tuple #[.pointer (some ⟨mb,0,none⟩),.int .i64 0])/\∃ o m V,SatE K n (fun _=>True) room w mb two 2 w' o m V/\m.waits=[]/\m.calls=0/\m.d.pool.many=0:=by
 refine(Ydt (F:=K (man0 n room).d (fun _ _=>true)) (fun _=>none) n room w (fun k r h=>by cases h) hn h1 h2).mono ?_;rintro x w1 ⟨mb,o1,rfl,g0,g2,g1,_⟩;exact⟨mb,rfl,o1,man0 n room,fun _ _=>true,⟨g0,g1,Ydr n room hn,by simp[man0,store0],trivial,by simp[man0,store0,pool0],rfl,by simp[man0,two,ef];constructor<;>rfl,ChgX.of_chg g2 NoB⟩,rfl,rfl,rfl⟩
def OrdP (zs:List Int)(l:List Nat):Prop:=∀ j,j<zs.length->((l.getD j 0:Nat):Int)=at0 zs j
def SetP (K:Law)(q:AskD)(n:Nat)(w:World)(y:Ending)(w':World):Prop :=
 ∃ mb vl vx wb hs nx,y=.returned (.tuple #[.pointer (some ⟨mb,0,none⟩),vl,vx,.bool true])/\Below w.heap.size w wb/\hs.map Prod.snd=q.es.map fnT/\nx<=1000/\∃ o m V,LawT K n (OrdP q.order) (Zdo n) wb mb (two++hs) nx (fun ws c=>ws=q.plan/\c=0) hs hs w' o m V vl vx/\(2<=n->m.d.pool.many+7<=Zdo n)
def SetI (K:Law)(q:AskD)(n:Nat)(wb:World)(mb:Nat)(j:Nat)(s8 s9:Value)(W:World):Prop :=
 ∃ hs nx,hs.map Prod.snd=(q.es.take j).map fnT/\nx<=2+120*(j:Int)/\∃ o m V,LawT K n (OrdP q.order) (Zdo n) wb mb (two++hs) nx (fun ws c=>ws=[]/\True) hs hs W o m V s8 s9/\m.d.pool.many<=2*2^n+j*(39*2^n+1)
theorem Zyw {K:Law}(hK:Zdu K)(q:AskD)(ao ae ap:Option Addr)(co ce cp:Nat)(w:World)(h:AskAt w q ao ae ap)(hsm:Zmg q)(n:Nat)(hqn:q.vars=n) :
 Calls prog 22 #[askV q ao ae ap co ce cp] w (SetP K q n w):=by
 have hJ:=hsm.lo;have hM:=hsm.hi;have hN:=hsm.es;have hI:=hsm.plan;have gJ:=Hd hsm;have hp:=Hd h;have hr:n<=6:=by omega
 have ht:1<=n:=by omega
 have gB:=Zyo hr;obtain⟨Q,hQ⟩:∃ Q:Ending->World->Prop,Q=SetP K q n w:=⟨_,rfl⟩;rw[<- hQ];have HQ:=Hd hQ;obtain⟨w1,gf⟩:∃ w1,w1=w.alloc (.cells #[.int .i64 q.vars,.slice ao q.order.length co,.slice ae q.es.length ce,.slice ap q.plan.length cp] 26):=⟨_,rfl⟩;have HW1:Hid (_=w1):=Hd gf.symm;have ha:Hid (Below w.heap.size w w1):=by rw[gf];exact Hd (Zaf _ _)
 have g0:w1.heap[w.heap.size]?=some (.cells #[.int .i64 q.vars,.slice ao q.order.length co,.slice ae q.es.length ce,.slice ap q.plan.length cp] 26 (0,0)):=by rw[gf];exact heap_alloc_new _ _
 have hs1:w1.heap.size=w.heap.size+1:=by rw[gf];simp
 have gN:=Hd hqn;rw[hqn] at g0 HW1;have d0:w1.cell? ⟨w.heap.size,0,none⟩=some (.int .i64 (n:Nat)):=by rw[cell_of_row _ _ 0 _ _ _ g0];rfl
 have d1:w1.cell? ⟨w.heap.size,1,none⟩=some (.slice ao q.order.length co):=by rw[cell_of_row _ _ 1 _ _ _ g0];rfl
 have d2:w1.cell? ⟨w.heap.size,2,none⟩=some (.slice ae q.es.length ce):=by rw[cell_of_row _ _ 2 _ _ _ g0];rfl
 have d3:w1.cell? ⟨w.heap.size,3,none⟩=some (.slice ap q.plan.length cp):=by rw[cell_of_row _ _ 3 _ _ _ g0];rfl
 have gX:=hqn;unfold askV;rw[gX];obtain⟨rm,gk⟩:∃ rm,rm=Zdo n:=⟨_,rfl⟩;have gK:=Hd gk;have gL:=Hd (fun W=>Zvl n (by omega) W);rw[<- gk] at gL gB;clear h hsm hQ gf g0 gk hqn gX;have gP:=Hd (Zs9 (K:=K) n rm w1.drew (by omega) gB.1 gB.2)
 go_enter func22,ntmps22
 go_upto_region 1 with fail;rw[HW1.out];refine Zam (fun W:World=>W.cell? ⟨w.heap.size,0,none⟩=some (.int .i64 (n:Nat))/\True) false 11 [(0,false),(1,false),(2,false),(3,false),(4,true),(5,true),(6,false),(7,false),(8,false),(9,false),(10,false)] (by kernel_rfl) (by kernel_rfl) ⟨d0,trivial⟩ ?_;simp only[planned,Zdx]
 iterate 4
  refine Zao rfl ?_;apply Exists.intro;refine⟨fun w' hw=>?_,?_⟩
  . obtain⟨h1,_⟩:=hw;go_simp;rfl
  simp only[Zai]
 refine Zbq (R:=fun v w'=>v=.int .i64 (rm:Nat)/\w'=w1.drew) rfl (by go_simp) ((gL.out _).mono (fun e w' he=>?_)) ?_
 . obtain⟨rfl,rfl⟩:=he;exact⟨_,rfl,⟨d0,trivial⟩,rfl,rfl⟩
 rintro v w'-⟨rfl,rfl⟩;simp only[Zai];refine Zbq (R:=fun v w'=>∃ mb,v=.tuple #[.pointer (some ⟨mb,0,none⟩),.int .i64 0]/\∃ o m V,SatE K n (fun _=>True) rm w1.drew mb two 2 w' o m V/\m.waits=[]/\m.calls=0/\m.d.pool.many=0) rfl (by go_simp) (gP.out.mono (fun e w' he=>?_)) ?_
 . obtain⟨mb,rfl,o,m,V,g5,gS⟩:=he;exact⟨_,rfl,⟨(g5.chg.below0.cell (p:=⟨w.heap.size,0,none⟩) (Zab (w:=w1.drew) d0)).trans d0,trivial⟩,mb,rfl,o,m,V,g5,gS⟩
 rintro v w2-⟨mb,rfl,o,m,V,g5,gT,hB,gY⟩;simp only[Zai]
 iterate 5
  refine Zao rfl ?_;apply Exists.intro;refine⟨fun w' hw=>?_,?_⟩
  . obtain⟨h1,_⟩:=hw;go_simp;rfl
  simp only[Zai]
 refine Ze8 ?_;obtain⟨wb,g7⟩:∃ wb,wb=w1.drew:=⟨_,rfl⟩;rw[<- g7] at g5;have h9:Hid (Below w.heap.size w wb):=Hd (by rw[g7];exact ha.out.trans ((Zag w1 1).mono ha.out.size));have c0:wb.cell? ⟨w.heap.size,0,none⟩=some (.int .i64 (n:Nat)):=by rw[g7];exact d0
 have c1:wb.cell? ⟨w.heap.size,1,none⟩=some (.slice ao q.order.length co):=by rw[g7];exact d1
 have c2:wb.cell? ⟨w.heap.size,2,none⟩=some (.slice ae q.es.length ce):=by rw[g7];exact d2
 have c3:wb.cell? ⟨w.heap.size,3,none⟩=some (.slice ap q.plan.length cp):=by rw[g7];exact d3
 have hO:w.heap.size<wb.heap.size:=Zab c0;have gi:=Hd (hp.out.below h9.out);clear g7 gP gL d0 d1 d2 d3 HW1 hs1
 have gR:=Hd (Zrf (K:=K) g5 (by omega) (by rw[gK.out];have:=Zlf (n:=n) (k:=6) (by omega);simp[two];omega) (c:=co) (gi.out.order.below g5.chg.below0) (fun h0 x hx=>by
  obtain⟨b,off,e,hc⟩:=gi.out.order.cells 0 h0;rw[hx] at e;cases e;exact g5.none0 (Zab hc)) (by
  rcases Nat.eq_zero_or_pos q.order.length with h0|h0
  . exact .inl h0
  . have:=gJ.out.order h0;rw[gN.out] at this;exact .inr (Yaw this)))
 have e0:=(g5.chg.below0.cell (p:=⟨w.heap.size,0,none⟩) (Zab c0)).trans c0;have e1:=(g5.chg.below0.cell (p:=⟨w.heap.size,1,none⟩) (Zab c1)).trans c1;have HWT:=Hd gT;have hG:=Hd gY;clear g5 gT hB gY;go_wp2_with fail;refine gR.out.mono ?_;rintro y w3 ⟨rfl,o3,m3,V3,gb,gw,hh,hC,gD⟩;have h8:Hid (SetI K q n wb mb 0 (.slice none 0 0) (.slice none 0 0) w3):=Hd ⟨[],2,rfl,by omega,o3,m3,V3,⟨by rw[gK.out] at gb;exact gb,Yce,⟨by rw[gw,HWT.out],trivial⟩,⟨Ztf _ _ _,fun k hk=>by cases hk⟩,⟨⟨[],rfl,Ztf _ _ _,fun i v hv=>by simp at hv⟩,fun k hk=>by cases hk⟩⟩,by have:=hG.out;simp[two] at gD;omega⟩;have f2:=(gb.chg.below0.cell (p:=⟨w.heap.size,2,none⟩) (Zab c2)).trans c2;clear gb gw hh hC gD gR e0 e1;go_wp2_with fail
 go_loopw [8,9,40] (fun s8 s9 s40 wr=>∃ j:Nat,j<=q.es.length/\s40=.int .i64 j/\Hid (SetI K q n wb mb j s8 s9 wr)) (fun _ _ s40 _=>q.es.length-(intOf s40).toNat)
 case atStart=>exact⟨0,Nat.zero_le _,rfl,h8⟩
 case round =>
  clear h8 f2
  rename World=>wy
  obtain⟨j,hj,rfl,HI⟩:=hrel;obtain⟨hs,nx,gj,hnx,hu⟩:=HI.out;obtain⟨o0,m0,V0,gl,gE⟩:=hu;have gu:Hid (∃ o m V,LawT K n (OrdP q.order) (Zdo n) wb mb (two++hs) nx (fun ws c=>ws=[]/\True) hs hs wy o m V u8 u9/\m.d.pool.many<=2*2^n+j*(39*2^n+1)):=Hd ⟨o0,m0,V0,gl,gE⟩;have gG:=gl.below0;have ho:=Hd gG;have gI:=Hd gj;have hA:hs.length=j:=by have:=congrArg List.length gj;simpa [Nat.min_eq_left hj] using this
  clear HI gj gl gE gG o0 m0 V0
  by_cases gF:j<q.es.length
  ·have hy:(j:Int)<q.es.length:=by omega
   have gt:=ho.out;obtain⟨b,off,x0,x1,x2,ea,k0,k1,k2,hx⟩:=gi.out.es.cells j gF;subst ea;obtain⟨zo,zv,za,zn,zc,rfl,rfl,rfl⟩:=hx.parts;have gh:=Hd (gJ.out.expr _ (List.getElem_mem gF));have ga:=gh.out.1;have gx:=ExT.size_pos q.es[j];obtain⟨e,he⟩:∃ e,e=q.es[j]:=⟨_,rfl⟩;rw[<- he] at hx gh ga gx;have HX:=Hd hx;have q0:=(gt.cell (p:=⟨b,off+j*3,none⟩) (Zab k0)).trans k0;have q1:=(gt.cell (p:=⟨b,off+j*3+1,none⟩) (Zab k1)).trans k1;have q2:=(gt.cell (p:=⟨b,off+j*3+2,none⟩) (Zab k2)).trans k2;have hF:Hid ((q.es.take (j+1)).map fnT=(q.es.take j).map fnT++[fnT e]):=Hd (by rw[List.take_succ_eq_append_getElem gF,List.map_append,he];rfl);obtain⟨wz,gn⟩:∃ wz,wz=wy.alloc (.cells #[.int .i64 zo,.int .i64 zv,.slice za zn zc] 36):=⟨_,rfl⟩;have hD:Hid (_=wz):=Hd gn.symm;have h3:Below wy.heap.size wy wz:=by rw[gn];exact Zaf _ _
   have g0:wz.heap[wy.heap.size]?=some (.cells #[.int .i64 zo,.int .i64 zv,.slice za zn zc] 36 (0,0)):=by rw[gn];exact heap_alloc_new _ _
   have p0:wz.cell? ⟨wy.heap.size,0,none⟩=some (.int .i64 zo):=by rw[cell_of_row _ _ 0 _ _ _ g0];rfl
   have p1:wz.cell? ⟨wy.heap.size,1,none⟩=some (.int .i64 zv):=by rw[cell_of_row _ _ 1 _ _ _ g0];rfl
   have p2:wz.cell? ⟨wy.heap.size,2,none⟩=some (.slice za zn zc):=by rw[cell_of_row _ _ 2 _ _ _ g0];rfl
   obtain⟨o4,m4,V4,lt0,mn4⟩:=gu.out;have lt4:=lt0.below h3;have n4:o4 wy.heap.size=none:=lt0.sat.lt.none (Nat.le_refl _);have gZ:∀ g,u8.ownBlock=some g->g<wy.heap.size:=fun g hg=>(lt0.l.own.lt g hg).2
   have hL:(two++hs).length=2+j:=by simp[two,hA];omega
   have gv:=Hd (Zo7 hK e _ (two++hs) nx wz o4 m4 V4 _ lt4.sat ⟨lt4.st.1,mn4⟩ lt4.b2 gh.out.2.1.valid (by have:=gh.out.2.2;rw[gN.out] at this;exact this) hx (by omega) (Zvm ht ga (by omega)));have g8:=Hd lt4;clear gt k0 k1 k2 hx h3 g0 gn lt4 gu he lt0;go_upto_region 9 with fail;rw[hD.out];clear q0 q1 q2;go_wp2_with fail;refine gv.out.mono ?_;rintro y w5 ⟨k,rfl,hk,o5,m5,V5,g9,⟨gV,gC⟩,gy⟩;have hm:Hid (m5.d.pool.many<=2*2^n+(j+1)*(39*2^n+1)):=Hd (Zvn ga gx gC);have gm:Hid (LawT K n (OrdP q.order) (Zdo n) wb mb (two++(hs++[(k,fnT e)])) (k+1) (fun ws c=>ws=[]/\True) hs hs w5 o5 m5 V5 u8 u9):=Hd (g8.out.go (by rw[<- List.append_assoc];exact gy) (Yce.app _) ⟨gV,trivial⟩ g9);have r0:=g9.cell (p:=⟨wy.heap.size,0,none⟩) p0 n4 (fun e=>e);have r1:=g9.cell (p:=⟨wy.heap.size,1,none⟩) p1 n4 (fun e=>e);have r2:=g9.cell (p:=⟨wy.heap.size,2,none⟩) p2 n4 (fun e=>e);have n5:=g9.none' (Zab p0) n4;have hd:wb.heap.size<=w5.heap.size:=gy.chg.size;clear g9 gV gy gC gv p0 p1 p2 g8;go_upto_region 13 with (at_builtin;refine Zcl Zno _ rfl _ _ rfl wb.heap.size _ (Za3 (hs.map Prod.fst)) _ rfl rfl rfl rfl rfl (by exact gm.out.l.own) (by simp[Za3];omega) hd ?_;intro v6 w6 gr g1 g2 g3 g4 gH)
   have gU:=Zua g1 g2 g3 g4 gH;have gd:w6.heap[wy.heap.size]?=w5.heap[wy.heap.size]?:=gU.keep _ (Zab r0) (fun e=>by have:=gZ _ e;omega);have t0:=(World.cell?_of_block (w:=w5) (a:=⟨wy.heap.size,0,none⟩) gd).trans r0;have t1:=(World.cell?_of_block (w:=w5) (a:=⟨wy.heap.size,1,none⟩) gd).trans r1;have t2:=(World.cell?_of_block (w:=w5) (a:=⟨wy.heap.size,2,none⟩) gd).trans r2;have g6:=Hd (gm.out.appL gr g1 g2 g3 g4 gH (p:=(k,fnT e)));have a0:=(g6.out.below0.cell (p:=⟨w.heap.size,0,none⟩) (Zab c0)).trans c0;have h5:=Hd (Zl7 e _ n (by omega) w6 (by omega) gh.out.2.1 (HX.out.below g6.out.below0));clear gU gd gr g1 g2 g3 g4 gH r0 r1 r2 gm gZ;go_wp2_with fail;refine h5.out.mono ?_;rintro y w7 ⟨v7,rfl,gc,h4⟩;obtain⟨av,cv,rfl,_⟩:=gc.slice;have h7:Hid (LawB w7 o5 wb.heap.size (.slice av (Zb4 (tabB n (fnT e))).length cv) (tabB n (fnT e))):=Hd (Yah (n:=n) gc (by rw[Zf2];exact Zy6 (by omega)) g6.out.sat.lt g6.out.sat.chg.size);have ge:=Hd (g6.out.below h4);obtain⟨rs,hf,gA,gz⟩:=ge.out.x.ex;have gM:=Hd gA;have h6:=Hd gz;have hq:rs.length=hs.length:=by rw[hf];simp
   have hb:wb.heap.size<=w7.heap.size:=ge.out.sat.chg.size;clear gc h4 gA gz h5 g6 t0 t1 t2 a0;go_upto_region 14 with (at_builtin;refine Zcl Yc7 _ rfl _ _ rfl wb.heap.size _ rs _ rfl rfl rfl rfl rfl (by exact gM.out) (by omega) hb ?_;intro v8 w8 gq g1 g2 g3 g4 h2)
   have gQ:=Hd (ge.out.appX h7.out rfl hq gM.out h6.out gq g1 g2 g3 g4 h2 (p:=(k,fnT e)));have hH:Hid (SetI K q n wb mb (j+1) v6 v8 w8):=Hd ⟨hs++[(k,fnT e)],k+1,by rw[List.map_append,gI.out,hF.out];rfl,by omega,o5,m5,V5,gQ.out,hm.out⟩;clear gq g1 g2 g3 g4 h2 gM h6 ge h7 gQ;go_wp2_with fail;go_roundw
   case rel=>exact⟨j+1,by omega,by go_num,hH⟩
   case measure=>simp[intOf];omega
  ·have hz:j=q.es.length:=by omega
   have hy:¬ (j:Int)<q.es.length:=by omega
   obtain⟨o4,m4,V4,lt4,mn4⟩:=gu.out;have hn:=Hd mn4;clear mn4;have e3:=(lt4.below0.cell (p:=⟨w.heap.size,3,none⟩) (Zab c3)).trans c3;have gp:m4.waits=[]:=lt4.st.1;have gs:Zex n m4.waits.length q.plan=0:=by
    rw[gp];have:=gJ.out.planOk;rw[gN.out] at this;exact this
   have gO:=Hd (Zr4 lt4.sat (c:=cp) (gi.out.plan.below lt4.below0) (fun h0 x hx=>by
    obtain⟨b,off,e,hc,_⟩:=gi.out.plan.cells 0 h0;rw[hx] at e;cases e;exact lt4.sat.none0 (Zab hc)) (by rw[gp];simp))
   rw[gs] at gO;have g8:=Hd lt4;have hE:=Hd gp;clear lt4 gp gs gu;go_wp2_with fail;refine gO.out.mono ?_;rintro y w5 ⟨rfl,o5,m5,gg⟩
   have HF:Hid (Q (.returned (.tuple #[.pointer (some ⟨mb,0,none⟩),u8,u9,.bool true])) w5):=Hd (by
    rw[HQ.out];refine⟨mb,u8,u9,wb,hs,nx,rfl,h9.out,by rw[gI.out,hz,List.take_length],by omega,o5,m5,V4,g8.out.go gg.sat g8.out.b2 ?_ (ChgX.of_chg gg.chg NoB),?_⟩
    rotate_left
    . rw[gg.d];exact Ya1 (by omega) hn.out
    have:=gg.yes rfl;rw[hE.out] at this;exact⟨by simpa using this.1,by simpa using this.2⟩)
   clear gg gO;go_wp2_with fail;refine bodyPost_ret (Zgr rfl _ _ _) rfl ?_;exact HF.out
open Go.RowKit
theorem SatE.dep {K:Law}{n:Nat}{Od:List Nat->Prop}{room:Nat}{w0 w:World}{mb:Nat}{fs:List (Int×BF)}{nx:Int}{o:Own}{m:ManD}{V:Nat->BF}(h:SatE K n Od room w0 mb fs nx w o m V){k:Int}{F:BF}(hk:(k,F)∈fs):DepF n F:=by
 obtain⟨f,hf,rfl⟩:=h.find hk;have:=h.ok.store.dep (h.ok.handles.ok _ hf)
 rwa [h.vars] at this
open Go.RowKit
end Go.Proofs.YtgmbklaolcmljaaGreat

namespace Go.Proofs.YtgmbklaolcmljaaGreat
open Go.Proofs.Tryz
open Go.RowKit
def Zsr (l:List BF)(F:BF):Prop:=∃ i,∃ h:i<l.length,l[i]=F\/l[i]=notF F
open Go.RowKit
end Go.Proofs.YtgmbklaolcmljaaGreat

namespace Go.Proofs.YtgmbklaolcmljaaGreat
open Go.Proofs.Tryz
open Go.RowKit
section
variable {d:Zac}{V:Nat->BF}
theorem Ycz (h:Zaj d V){f:Nat}{b:BN}(hb:Zaa d (f/2)=some b):(okE (Zaa d) (cofs d f b.v).1/\ef V (cofs d f b.v).1=cofF (ef V f) b.v false)/\okE (Zaa d) (cofs d f b.v).2/\ef V (cofs d f b.v).2=cofF (ef V f) b.v true:=by
 have hf:okE (Zaa d) f:=.inr ⟨b,hb⟩;have g0:=h.dag.var _ _ hb;obtain⟨h1,h2,h3,h4,h5⟩:=Zcs h hf g0 (by unfold lvE;rw[hb];exact Nat.le_refl _);refine⟨⟨h1,?_⟩,h2,?_⟩
 . funext ρ;rw[Zdj,h5,Zf3,h.dag.indep_var h1 h3];rfl
 . funext ρ;rw[Zdj,h5,Zf3,h.dag.indep_var h2 h4];rfl
end
section
variable {d:Zac}{V:Nat->BF}
theorem Zty {f:Nat}{top least:Int}(h:TopS d [f] top least):(top = -1/\Zaa d (f/2)=none)\/∃ b,Zaa d (f/2)=some b/\top=(b.v:Nat):=by
 rcases h with ⟨h1,_,h3⟩|⟨v,h1,_,_,⟨e,he,b,hb,hv⟩,_⟩
 . exact .inl ⟨h1,h3 f (by simp)⟩
 . simp only[List.mem_singleton] at he;subst he;exact .inr ⟨b,hb,by rw[h1,hv]⟩
end
open Go.RowKit
theorem Znl {d:Zac}{V:Nat->BF}(h:Zaj d V){f v:Nat}(hf:okE (Zaa d) f)(hv:v<d.vars.length)(hl:levN d v<=lvE d.vars.length (levN d) (Zaa d) f) :
 ef V (cofs d f v).1=cofF (ef V f) v false/\ef V (cofs d f v).2=cofF (ef V f) v true:=by
 obtain⟨q1,q2,q3,q4,q5⟩:=Zcs h hf hv hl;constructor
 . funext ρ;rw[Zdj,q5,Zf3,h.dag.indep_var q1 q3];rfl
 . funext ρ;rw[Zdj,q5,Zf3,h.dag.indep_var q2 q4];rfl
open Go.RowKit
section
variable {u u' u'' x v:Value}{w w' w'' W W':World}{n B:Nat}{F:BF}{Fs:List BF}
theorem Zmq (p:Nat->Bool):∀ m,(∃ i,i<m/\p i=true)->∃ q,q<m/\p q=true/\∀ j,j<q->p j=false
 | 0,h=>by obtain⟨i,hi,_⟩:=h;omega
 | m+1,h=>by
   by_cases c:∃ i,i<m/\p i=true
   . obtain⟨q,h1,h2,h3⟩:=Zmq p m c;exact⟨q,by omega,h2,h3⟩
   ·have hn:∀ j,j<m->p j=false:=fun j hj=>by
     cases e:p j with
     | false=>rfl
     | true=>exact absurd ⟨j,hj,e⟩ c
    obtain⟨i,hi,e⟩:=h;obtain rfl:i=m:=by
     rcases Nat.lt_or_ge i m with h1|h1
     . rw[hn i h1] at e;cases e
     . omega
    exact⟨i,hi,e,hn⟩
theorem Zvx {l:List Nat}(h:∃ v∈l,Zbp n F v=true):∃ q,q<l.length/\topR n F l=(l.getD q 0:Nat)/\Zbp n F (l.getD q 0)=true/\∀ j,j<q->Zbp n F (l.getD j 0)=false:=by
 obtain⟨v,hv,hh⟩:=h;obtain⟨i,hi,rfl⟩:=List.getElem_of_mem hv;obtain⟨q,h1,h2,h3⟩:=Zmq (fun q=>Zbp n F (l.getD q 0)) l.length ⟨i,hi,by simpa [List.getD,hi] using hh⟩;exact⟨q,h1,Zsm l q h1 h2 h3,h2,h3⟩
end
open Classical in
noncomputable def belF (n:Nat)(os:List Nat):Nat->List BF->BF->List BF
 | 0,l,_=>l
 | k+1,l,F=>if (∃ c,F=fun _=>c)\/Zsr l F then l else belF n os k (belF n os k (l++[F]) (cofF F (topR n F os).toNat false)) (cofF F (topR n F os).toNat true)
open Go.RowKit
section
variable {n:Nat}{os:List Nat}{p k:Nat}{F:BF}{l:List BF}
theorem Zo5 (h:(∃ c,F=fun _=>c)\/Zsr l F):belF n os k l F=l:=by
 cases k with
 | zero=>rfl
 | succ k=>unfold belF;rw[if_pos h]
theorem Ycr {v:Nat}(h:¬ ((∃ c,F=fun _=>c)\/Zsr l F))(hv:topR n F os=(v:Nat)):belF n os (k+1) l F=belF n os k (belF n os k (l++[F]) (cofF F v false)) (cofF F v true):=by
 rw[belF,if_neg h,hv];rfl
end
open Go.RowKit
noncomputable def nodesF (n:Nat)(os:List Nat)(Gs:List BF):List BF:=Gs.foldl (fun l G=>belF n os n l G) []
open Go.RowKit
def Zb0 (d:Zac):Nat->List Nat->Nat->List Nat
 | 0,met,_=>met
 | k+1,met,f=>match Zaa d (f/2) with
   | none=>met
   | some b=>if f/2∈met then met else Zb0 d k (Zb0 d k (met++[f/2]) (cofs d f b.v).1) (cofs d f b.v).2
structure RelN (d:Zac)(V:Nat->BF)(met:List Nat)(l:List BF):Prop where
 len:met.length=l.length
 node:∀ i∈met,∃ b,Zaa d i=some b
 fn:∀ i (h:i<met.length) (h2:i<l.length),l[i]=V met[i]\/l[i]=notF (V met[i])
section
variable {d:Zac}{V:Nat->BF}
theorem Zqd (F:BF):notF (notF F)=F:=funext fun ρ=>by show (!(!F ρ))=F ρ;simp
theorem Yc6 (f:Nat):ef V f=V (f/2)\/ef V f=notF (V (f/2)):=by
 rcases(show f%2=0\/f%2=1 by omega) with h|h
 . exact .inl (funext fun ρ=>by simp[ef,h])
 . exact .inr (funext fun ρ=>by simp[ef,h,notF])
theorem Zku (h:Zaj d V)(h0:Zaa d 0=none){f:Nat}(hf:okE (Zaa d) f):(∃ c,ef V f=fun _=>c)↔Zaa d (f/2)=none:=by
 constructor
 ·rintro⟨c,hc⟩;have:f=0\/f=1:=by
   cases c with
   | true=>exact .inl ((h.dag.canon_iff hf (.inl rfl)).1 (by rw[hc,h.dag.ef0]))
   | false=>exact .inr ((h.dag.canon_iff hf (.inl rfl)).1 (by rw[hc,h.dag.ef1]))
  rcases this with rfl|rfl<;>exact h0
 ·intro hn;rcases hf with h1|⟨b,hb⟩
  . rw[Zw7 h h1];exact⟨_,rfl⟩
  . rw[hn] at hb;cases hb
theorem Zo4 (h:Zaj d V){f:Nat}(hf:okE (Zaa d) f){met:List Nat}{l:List BF}(hr:RelN d V met l):Zsr l (ef V f)↔f/2∈met:=by
 constructor
 ·rintro⟨i,hi,he⟩;have hm:i<met.length:=by rw[hr.len];exact hi
  obtain⟨b,hb⟩:=hr.node _ (List.getElem_mem hm);have hE:∀ c,c<2->okE (Zaa d) (2*met[i]+c):=fun c hc=>.inr ⟨b,by rw[show (2*met[i]+c)/2=met[i] by omega];exact hb⟩
  have g1:ef V (2*met[i]+0)=V met[i]:=funext fun ρ=>by unfold ef;rw[show (2*met[i]+0)/2=met[i] by omega,show (2*met[i]+0)%2=0 by omega];simp
  have g0:ef V (2*met[i]+1)=notF (V met[i]):=funext fun ρ=>by unfold ef notF;rw[show (2*met[i]+1)/2=met[i] by omega,show (2*met[i]+1)%2=1 by omega];simp
  have hn:=Yc8 V f;have key:∀ e,okE (Zaa d) e->e/2=met[i]->(ef V e=ef V f\/ef V e=ef V (enot f))->f/2=met[i]:=fun e he h2 h3=>by
   rcases h3 with h3|h3
   . rw[<- (h.dag.canon_iff he hf).1 h3];exact h2
   . have:=(h.dag.canon_iff he (Zn7 hf)).1 h3;rw[this,Zd2] at h2;exact h2
  have:f/2=met[i]:=by
   rcases hr.fn i hm hi with e|e
   . exact key _ (hE 0 (by omega)) (by omega) (by rw[g1,<- e,hn];exact he)
   . exact key _ (hE 1 (by omega)) (by omega) (by rw[g0,<- e,hn];exact he)
  rw[this];exact List.getElem_mem hm
 ·intro hm;obtain⟨i,hi,he⟩:=List.getElem_of_mem hm;refine⟨i,by rw[<- hr.len];exact hi,?_⟩;have h1:=hr.fn i hi (by rw[<- hr.len];exact hi);rw[he] at h1;rcases Yc6 (V:=V) f with e|e<;>rcases h1 with e2|e2<;>rw[e,e2]
  . exact .inl rfl
  . exact .inr rfl
  . exact .inr (Zqd _).symm
  . exact .inl rfl
theorem Zjb (h:Zaj d V)(h0:Zaa d 0=none):∀ (k:Nat) (met:List Nat) (l:List BF) (f:Nat),okE (Zaa d) f->RelN d V met l->RelN d V (Zb0 d k met f) (belF d.vars.length d.vars k l (ef V f))
 | 0,met,l,f,_,hr=>hr
 | k+1,met,l,f,hf,hr=>by
   cases hb:Zaa d (f/2) with
   | none =>
     rw[Zo5 (.inl ((Zku h h0 hf).2 hb))];unfold Zb0;rw[hb];exact hr
   | some b =>
     unfold Zb0;rw[hb]
     show RelN d V (if f/2∈met then met else _) _
     by_cases hm:f/2∈met
     . rw[if_pos hm,Zo5 (.inr ((Zo4 h hf hr).2 hm))];exact hr
     ·have hnc:¬ ∃ c,ef V f=fun _=>c:=fun e=>by rw[(Zku h h0 hf).1 e] at hb;cases hb
      obtain⟨htop,hbv⟩:=Ztz h hb;rw[if_neg hm,Ycr (fun e=>e.elim hnc fun e=>hm ((Zo4 h hf hr).1 e)) htop];have hl:levN d b.v<=lvE d.vars.length (levN d) (Zaa d) f:=by unfold lvE;rw[hb];exact Nat.le_refl _
      obtain⟨q1,q2,_⟩:=Zcs h hf hbv hl;obtain⟨e1,e2⟩:=Znl h hf hbv hl;rw[<- e1,<- e2];refine Zjb h h0 k _ _ _ q2 (Zjb h h0 k _ _ _ q1 ⟨by simp[hr.len],fun i hi=>?_,fun i h1 h2=>?_⟩)
      ·rcases List.mem_append.1 hi with c|c
       . exact hr.node i c
       . simp at c;subst c;exact⟨b,hb⟩
      ·rcases Nat.lt_or_ge i met.length with c|c
       . rw[List.getElem_append_left c,List.getElem_append_left (by rw[<- hr.len];exact c)];exact hr.fn i c _
       ·have e:i=met.length:=by simp at h1;omega
        subst e;rw[List.getElem_append_right (Nat.le_refl _),List.getElem_append_right (by rw[hr.len];exact Nat.le_refl _)];simpa using Yc6 (V:=V) f
end
open Go.RowKit
def Zfo (v:Nat):List (Nat×Nat)->List (Nat×Nat)
 | []=>[(v,1)]
 | p::r=>if p.1=v then (v,p.2+1)::r else p::Zfo v r
def getC (v:Nat):List (Nat×Nat)->Nat
 | []=>0
 | p::r=>if p.1=v then p.2 else getC v r
def sumC (l:List (Nat×Nat)):Nat:=(l.map (·.2)).sum
theorem Ztu (v:Nat):∀ l,sumC (Zfo v l)=sumC l+1
 | []=>rfl
 | p::r=>by
   unfold Zfo;split
   . simp only[sumC,List.map_cons,List.sum_cons];omega
   . have:=Ztu v r;simp only[sumC,List.map_cons,List.sum_cons] at this ⊢;omega
theorem Zs1 (v u:Nat):∀ l,getC u (Zfo v l)=getC u l+(if u=v then 1 else 0)
 | []=>by
   show (if v=u then 1 else 0)=0+_
   by_cases h:u=v
   . subst h;simp
   . rw[if_neg h,if_neg (fun e=>h e.symm)]
 | p::r=>by
   unfold Zfo
   by_cases h:p.1=v
   ·rw[if_pos h]
    show (if v=u then p.2+1 else getC u r)=(if p.1=u then p.2 else getC u r)+_
    rw[h]
    by_cases e:v=u
    . rw[if_pos e,if_pos e,if_pos e.symm]
    . rw[if_neg e,if_neg e,if_neg (fun c=>e c.symm),Nat.add_zero]
   ·rw[if_neg h]
    show (if p.1=u then p.2 else getC u (Zfo v r))=(if p.1=u then p.2 else getC u r)+_
    by_cases e:p.1=u
    . rw[if_pos e,if_pos e,if_neg (fun c=>h (e.trans c)),Nat.add_zero]
    . rw[if_neg e,if_neg e,Zs1 v u r]
theorem Yb3 (v:Nat):∀ l,getC v l<=sumC l
 | []=>Nat.le_refl _
 | p::r=>by
   have:=Yb3 v r;simp only[getC,sumC,List.map_cons,List.sum_cons] at this ⊢;split<;>omega
def vrD (d:Zac)(i:Nat):Nat:=match Zaa d i with|some b=>b.v|none=>0
def tally (d:Zac)(met:List Nat):List (Nat×Nat):=met.foldl (fun c i=>Zfo (vrD d i) c) []
section
variable {d:Zac}{V:Nat->BF}
theorem Zvw (met:List Nat)(i:Nat):tally d (met++[i])=Zfo (vrD d i) (tally d met):=by
 unfold tally;rw[List.foldl_append];rfl
theorem Zsl (met:List Nat){i:Nat}{b:BN}(hb:Zaa d i=some b):tally d (met++[i])=Zfo b.v (tally d met):=by
 rw[Zvw,show vrD d i=b.v by unfold vrD;rw[hb]]
theorem Zna (c:List (Nat×Nat))(v:Nat):∀ met:List Nat,sumC (met.foldl (fun c i=>Zfo (vrD d i) c) c)=sumC c+met.length/\getC v (met.foldl (fun c i=>Zfo (vrD d i) c) c)=getC v c+met.countP fun i=>vrD d i=v:=by
 intro met
 induction met generalizing c with
 | nil=>exact⟨rfl,rfl⟩
 | cons i r ih =>
   obtain⟨h1,h2⟩:=ih (Zfo (vrD d i) c);refine⟨?_,?_⟩
   . rw[List.foldl_cons,h1,Ztu,List.length_cons];omega
   ·rw[List.foldl_cons,h2,Zs1,List.countP_cons]
    by_cases e:v=vrD d i
    . rw[if_pos e,if_pos (by simp[e])];omega
    . rw[if_neg e,if_neg (by simpa using fun c=>e c.symm)];omega
theorem Zls (met:List Nat):sumC (tally d met)=met.length:=by
 have:=(Zna (d:=d) [] 0 met).1;unfold tally;rw[this];simp[sumC]
theorem Zy8 (met:List Nat)(v:Nat):getC v (tally d met)=met.countP fun i=>vrD d i=v:=by
 have:=(Zna (d:=d) [] v met).2;unfold tally;rw[this];simp[getC]
structure Ziv (d:Zac)(met:List Nat):Prop where
 nd:met.Nodup
 node:∀ i∈met,∃ b,Zaa d i=some b
theorem Ziv.snoc {met:List Nat}(h:Ziv d met){i:Nat}{b:BN}(hb:Zaa d i=some b)(hn:i∉met):Ziv d (met++[i]):=by
 refine⟨List.nodup_append.2 ⟨h.nd,by simp,fun a ha c hc e=>?_⟩,fun j hj=>?_⟩
 . simp at hc;subst hc;subst e;exact hn ha
 ·rcases List.mem_append.1 hj with c|c
  . exact h.node j c
  . simp at c;subst c;exact⟨b,hb⟩
theorem Ziv.len {met:List Nat}(h:Ziv d met)(hlt:∀ e,okE (Zaa d) e->e<eMax):met.length<=2305843009213693952:=by
 refine Zg9 _ _ h.nd fun i hi=>?_
 obtain⟨b,hb⟩:=h.node i hi;have:=hlt (2*i) (.inr ⟨b,by rw[show 2*i/2=i by omega];exact hb⟩);unfold eMax at this;omega
theorem Zoo (h:Zaj d V):∀ (k:Nat) (met:List Nat) (f:Nat),Ziv d met->Ziv d (Zb0 d k met f)
 | 0,met,f,hm=>hm
 | k+1,met,f,hm=>by
   unfold Zb0;cases hb:Zaa d (f/2) with
   | none=>exact hm
   | some b =>
     show Ziv d (if f/2∈met then met else _)
     by_cases c:f/2∈met
     . rw[if_pos c];exact hm
     . rw[if_neg c];exact Zoo h k _ _ (Zoo h k _ _ (hm.snoc hb c))
def Zl9 (d:Zac)(l:List Nat):List Nat:=l.foldl (fun met f=>Zb0 d d.vars.length met f) []
theorem Zvp (l:List Nat){i:Nat}(hi:i<l.length):Zl9 d (l.take (i+1))=Zb0 d d.vars.length (Zl9 d (l.take i)) l[i]:=by
 unfold Zl9;rw[List.take_add_one,List.getElem?_eq_getElem hi,List.foldl_append];rfl
theorem Ztm (h:Zaj d V)(l:List Nat):Ziv d (Zl9 d l):=by
 unfold Zl9;have:∀ (l met:List Nat),Ziv d met->Ziv d (l.foldl (fun met f=>Zb0 d d.vars.length met f) met):=by
  intro l
  induction l with
  | nil=>intro met hm;exact hm
  | cons f r ih=>intro met hm;exact ih _ (Zoo h _ _ _ hm)
 exact this l [] ⟨List.nodup_nil,by simp⟩
theorem Zyt (h:Zaj d V)(l:List Nat)(hl:∀ f∈l,okE (Zaa d) f):(Zl9 d l).length=(nodesF d.vars.length d.vars (l.map (ef V))).length:=by
 have:∀ (l:List Nat) (met:List Nat) (gs:List BF),(∀ f∈l,okE (Zaa d) f)->RelN d V met gs->RelN d V (l.foldl (fun met f=>Zb0 d d.vars.length met f) met) ((l.map (ef V)).foldl (fun l G=>belF d.vars.length d.vars d.vars.length l G) gs):=by
  intro l
  induction l with
  | nil=>intro met gs _ hr;exact hr
  | cons f r ih =>
    intro met gs hl hr;exact ih _ _ (fun g hg=>hl g (List.mem_cons_of_mem _ hg)) (Zjb h h.dag.none0 _ _ _ f (hl f (List.mem_cons_self ..)) hr)
 exact(this l [] [] hl ⟨rfl,fun i hi=>by simp at hi,fun i h1=>by simp at h1⟩).len
end
open Go.RowKit
def Indep (F:BF)(v:Nat):Prop:=∀ ρ b,F (upd ρ v b)=F ρ
theorem Zpy {F:BF}{v:Nat}(h:Indep F v)(u:Nat)(c:Bool):Indep (cofF F u c) v:=fun ρ b=>by
 show F (upd (upd ρ v b) u c)=F (upd ρ u c)
 by_cases e:v=u
 . subst e;exact congrArg F (funext fun x=>by unfold upd;split<;>rfl)
 ·rw[show upd (upd ρ v b) u c=upd (upd ρ u c) v b from funext fun x=>by
   unfold upd
   by_cases h1:x=u<;>by_cases h2:x=v<;>simp_all]
  exact h _ b
theorem Znx {F:BF}{u v:Nat}(hne:v≠u)(h0:Indep (cofF F u false) v)(h1:Indep (cofF F u true) v):Indep F v:=fun ρ b=>by
 have key:∀ σ:Nat->Bool,F σ=cofF F u (σ u) σ:=fun σ=>congrArg F (funext fun x=>by
  by_cases e:x=u
  . subst e;simp
  . simp[e])
 rw[key (upd ρ v b),key ρ,show upd ρ v b u=ρ u by unfold upd;rw[if_neg (fun e=>hne e.symm)]];cases ρ u
 . exact h0 ρ b
 . exact h1 ρ b
theorem Zms {F:BF}{v:Nat}(h:Indep F v):Indep (notF F) v:=fun ρ b=>by
 show (!F (upd ρ v b)) = !F ρ
 rw[h]
theorem Zic {F:BF}{v:Nat}:Indep F v↔cofF F v false=cofF F v true:=by
 constructor
 ·intro h;funext ρ
  exact(h ρ false).trans (h ρ true).symm
 ·intro h ρ b
  have key:∀ σ:Nat->Bool,F σ=cofF F v (σ v) σ:=fun σ=>congrArg F (funext fun x=>by
   by_cases e:x=v
   . subst e;simp
   . simp[e])
  have e2:cofF F v b ρ=cofF F v (ρ v) ρ:=by
   cases b<;>cases ρ v<;>first|rfl|rw[h]
  exact e2.trans (key ρ).symm
section
variable {d:Zac}{V:Nat->BF}
theorem Zs3 {f v:Nat}:Indep (ef V f) v↔Indep (V (f/2)) v:=by
 rcases Yc6 (V:=V) f with e|e
 . rw[e]
 . rw[e];exact⟨fun h=>by have:=Zms h;rwa [Zqd] at this,Zms⟩
def InM (d:Zac)(met:List Nat)(f:Nat):Prop:=Zaa d (f/2)=none\/f/2∈met
def ClM (d:Zac)(met met':List Nat):Prop:=∀ i∈met',i∉met->∀ b,Zaa d i=some b->InM d met' b.lo/\InM d met' b.hi
theorem Zpb {f:Nat}{b:BN}(hb:Zaa d (f/2)=some b):(cofs d f b.v).1/2=b.lo/2/\(cofs d f b.v).2/2=b.hi/2:=by
 unfold cofs;simp only[hb,if_true];constructor<;>(unfold eflip;split<;>first|exact Zd2 _|rfl)
theorem Zfj:∀ (k:Nat) (met:List Nat) (f:Nat),∀ i∈met,i∈Zb0 d k met f
 | 0,met,f,i,hi=>hi
 | k+1,met,f,i,hi=>by
   unfold Zb0;cases hb:Zaa d (f/2) with
   | none=>exact hi
   | some b =>
     show i∈(if f/2∈met then met else _)
     by_cases c:f/2∈met
     . rw[if_pos c];exact hi
     . rw[if_neg c];exact Zfj k _ _ _ (Zfj k _ _ _ (List.mem_append_left _ hi))
theorem InM.mono {met met':List Nat}{f:Nat}(h:InM d met f)(hs:∀ i∈met,i∈met'):InM d met' f:=h.imp id (hs _)
theorem Zgw (h:Zaj d V):∀ (k:Nat) (met:List Nat) (f:Nat),okE (Zaa d) f->d.vars.length<=lvE d.vars.length (levN d) (Zaa d) f+k->InM d (Zb0 d k met f) f/\ClM d met (Zb0 d k met f)
 | 0,met,f,hf,hl=>by
   refine⟨.inl ?_,fun i hi hn=>absurd hi hn⟩;cases hb:Zaa d (f/2) with
   | none=>rfl
   | some b =>
     exfalso;have h1:=h.dag.lt b.v (h.dag.var _ _ hb);unfold lvE at hl;rw[hb] at hl;simp at hl;omega
 | k+1,met,f,hf,hl=>by
   unfold Zb0;cases hb:Zaa d (f/2) with
   | none=>exact⟨.inl hb,fun i hi hn=>absurd hi hn⟩
   | some b =>
     show InM d (if f/2∈met then met else _) f/\ClM d met (if f/2∈met then met else _)
     by_cases c:f/2∈met
     . rw[if_pos c];exact⟨.inr c,fun i hi hn=>absurd hi hn⟩
     ·rw[if_neg c];have hbv:=h.dag.var _ _ hb;have hlv:levN d b.v<=lvE d.vars.length (levN d) (Zaa d) f:=by unfold lvE;rw[hb];exact Nat.le_refl _
      have g2:lvE d.vars.length (levN d) (Zaa d) f=levN d b.v:=by unfold lvE;rw[hb]
      obtain⟨q1,q2,q3,q4,_⟩:=Zcs h hf hbv hlv;obtain⟨e1,e2⟩:=Zpb hb;obtain⟨a1,a2⟩:=Zgw h k (met++[f/2]) _ q1 (by omega);obtain⟨b1,b2⟩:=Zgw h k (Zb0 d k (met++[f/2]) (cofs d f b.v).1) _ q2 (by omega);have hs1:=Zfj (d:=d) k (Zb0 d k (met++[f/2]) (cofs d f b.v).1) (cofs d f b.v).2;have g1:=Zfj (d:=d) k (met++[f/2]) (cofs d f b.v).1;refine⟨.inr (hs1 _ (g1 _ (by simp))),fun i hi hn b' g0=>?_⟩
      by_cases m2:i∈Zb0 d k (met++[f/2]) (cofs d f b.v).1
      ·by_cases m1:i∈met++[f/2]
       ·have:i=f/2:=by
         rcases List.mem_append.1 m1 with m|m
         . exact absurd m hn
         . simpa using m
        subst this;rw[hb] at g0;cases g0
        have w1:=a1.mono hs1;unfold InM at w1 b1;rw[e1] at w1;rw[e2] at b1;exact⟨w1,b1⟩
       . obtain⟨w1,w2⟩:=a2 i m2 m1 b' g0;exact⟨w1.mono hs1,w2.mono hs1⟩
      . exact b2 i hi m2 b' g0
theorem Zja (h:Zaj d V):∀ (k:Nat) (met:List Nat) (f:Nat),okE (Zaa d) f->∀ i∈Zb0 d k met f,i∈met\/∀ v,Indep (ef V f) v->Indep (V i) v
 | 0,met,f,hf,i,hi=>.inl hi
 | k+1,met,f,hf,i,hi=>by
   unfold Zb0 at hi;cases hb:Zaa d (f/2) with
   | none=>rw[hb] at hi;exact .inl hi
   | some b =>
     rw[hb] at hi
     replace hi:i∈(if f/2∈met then met else Zb0 d k (Zb0 d k (met++[f/2]) (cofs d f b.v).1) (cofs d f b.v).2):=hi
     by_cases c:f/2∈met
     . rw[if_pos c] at hi;exact .inl hi
     ·rw[if_neg c] at hi;have hbv:=h.dag.var _ _ hb;have hlv:levN d b.v<=lvE d.vars.length (levN d) (Zaa d) f:=by unfold lvE;rw[hb];exact Nat.le_refl _
      obtain⟨q1,q2,_⟩:=Zcs h hf hbv hlv;obtain⟨e1,e2⟩:=Znl h hf hbv hlv;rcases Zja h k _ _ q2 i hi with m|m
      ·rcases Zja h k _ _ q1 i m with m|m
       ·rcases List.mem_append.1 m with m|m
        . exact .inl m
        ·simp at m;subst m
         exact .inr fun v hv=>Zs3.1 hv
       . exact .inr fun v hv=>m v (by rw[e1];exact Zpy hv _ _)
      . exact .inr fun v hv=>m v (by rw[e2];exact Zpy hv _ _)
theorem Zpx (h:Zaj d V){met:List Nat}(hcl:ClM d [] met){v:Nat}(hv:∀ i∈met,∀ b,Zaa d i=some b->b.v≠v):∀ (k:Nat) (f:Nat),okE (Zaa d) f->d.vars.length<=lvE d.vars.length (levN d) (Zaa d) f+k->InM d met f->Indep (ef V f) v:=by
 have hc:∀ f,okE (Zaa d) f->Zaa d (f/2)=none->Indep (ef V f) v:=fun f hf hn=>by
  obtain⟨c,e⟩:=(Zku h h.dag.none0 hf).2 hn;rw[e];exact fun _ _=>rfl
 intro k
 induction k with
 | zero =>
   intro f hf hl hi;cases hb:Zaa d (f/2) with
   | none=>exact hc f hf hb
   | some b =>
     exfalso;have h1:=h.dag.lt b.v (h.dag.var _ _ hb);unfold lvE at hl;rw[hb] at hl;simp at hl;omega
 | succ k ih =>
   intro f hf hl hi;cases hb:Zaa d (f/2) with
   | none=>exact hc f hf hb
   | some b =>
     have hm:f/2∈met:=by
      rcases hi with e|e
      . rw[hb] at e;cases e
      . exact e
     have g1:=h.dag.var _ _ hb;have g0:levN d b.v<=lvE d.vars.length (levN d) (Zaa d) f:=by unfold lvE;rw[hb];exact Nat.le_refl _
     have g2:lvE d.vars.length (levN d) (Zaa d) f=levN d b.v:=by unfold lvE;rw[hb]
     obtain⟨q1,q2,q3,q4,_⟩:=Zcs h hf g1 g0;obtain⟨e1,e2⟩:=Znl h hf g1 g0;obtain⟨k1,k2⟩:=Zpb hb;obtain⟨w1,w2⟩:=hcl _ hm (by simp) b hb;have i1:=ih _ q1 (by omega) (by unfold InM;rw[k1];exact w1);have i2:=ih _ q2 (by omega) (by unfold InM;rw[k2];exact w2);rw[e1] at i1;rw[e2] at i2;exact Znx (fun e=>hv _ hm b hb e.symm) i1 i2
theorem Zws {a b c:List Nat}(h1:ClM d a b)(h2:ClM d b c)(hs:∀ i∈b,i∈c):ClM d a c:=fun i hi hn b' hb'=>by
 by_cases m:i∈b
 . obtain⟨w1,w2⟩:=h1 i m hn b' hb';exact⟨w1.mono hs,w2.mono hs⟩
 . exact h2 i hi m b' hb'
theorem Zqu (h:Zaj d V):∀ (l met:List Nat),(∀ f∈l,okE (Zaa d) f)->ClM d [] met->ClM d [] (l.foldl (fun met f=>Zb0 d d.vars.length met f) met)/\(∀ i∈met,i∈l.foldl (fun met f=>Zb0 d d.vars.length met f) met)/\(∀ f∈l,InM d (l.foldl (fun met f=>Zb0 d d.vars.length met f) met) f)/\∀ i∈l.foldl (fun met f=>Zb0 d d.vars.length met f) met,i∈met\/∃ f∈l,∀ v,Indep (ef V f) v->Indep (V i) v
 | [],met,_,hc=>⟨hc,fun i hi=>hi,fun f hf=>by simp at hf,fun i hi=>.inl hi⟩
 | f::r,met,hl,hc=>by
   have hf:=hl f (List.mem_cons_self ..);obtain⟨c1,c2⟩:=Zgw h d.vars.length met f hf (by omega);obtain⟨r1,r2,r3,r4⟩:=Zqu h r (Zb0 d d.vars.length met f) (fun g hg=>hl g (List.mem_cons_of_mem _ hg)) (Zws hc c2 (Zfj _ _ _));refine⟨r1,fun i hi=>r2 i (Zfj _ _ _ i hi),fun g hg=>?_,fun i hi=>?_⟩
   ·rcases List.mem_cons.1 hg with rfl|hg
    . exact c1.mono r2
    . exact r3 g hg
   ·rcases r4 i hi with m|⟨g,hg,m⟩
    ·rcases Zja h _ _ f hf i m with m|m
     . exact .inl m
     . exact .inr ⟨f,List.mem_cons_self ..,m⟩
    . exact .inr ⟨g,List.mem_cons_of_mem _ hg,m⟩
structure Zzr (n:Nat)(os:List Nat)(Fs:List BF)(cs:List (Nat×Nat)):Prop where
 sum:sumC cs=(nodesF n os Fs).length
 le:sumC cs<=2305843009213693952
 dep:∀ v,0<getC v cs↔∃ F∈Fs,Zbp n F v=true
theorem Ya6 (h:Zaj d V)(l:List Nat)(hl:∀ f∈l,okE (Zaa d) f)(hlt:∀ e,okE (Zaa d) e->e<eMax):Zzr d.vars.length d.vars (l.map (ef V)) (tally d (Zl9 d l)):=by
 refine⟨?_,?_,fun v=>?_⟩
 . rw[Zls,Zyt h l hl]
 . rw[Zls];exact(Ztm h l).len hlt
 ·obtain⟨r1,r2,r3,r4⟩:=Zqu h l [] hl (fun i hi=>by simp at hi);rw[Zy8,List.countP_pos_iff];constructor
  ·rintro⟨i,hi,hv⟩;rcases r4 i hi with m|⟨f,hf,m⟩
   . simp at m
   ·refine⟨ef V f,List.mem_map.2 ⟨f,hf,rfl⟩,(Zgk (h.dep (hl f hf)) v).2 fun e=>?_⟩;have h1:=m v (Zic.2 e);obtain⟨b,hb⟩:=(Ztm h l).node i hi;have g4:b.v=v:=by
     have:vrD d i=v:=by simpa using hv
     unfold vrD at this;rw[hb] at this;exact this
    have g0:Zaa d (2*i/2)=some b:=by rw[show 2*i/2=i by omega];exact hb
    have h2:=(Zs3 (V:=V) (f:=2*i) (v:=v)).2 (by rw[show 2*i/2=i by omega];exact h1);have ht:=(Ztz h g0).1;have g1:=h.dep (f:=2*i) (.inr ⟨b,g0⟩)
    by_cases hx:∃ u∈d.vars,Zbp d.vars.length (ef V (2*i)) u=true
    . obtain⟨q,_,g2,g3,_⟩:=Zvx hx;rw[ht] at g2;rw[<- Int.ofNat.inj g2,g4,Zgk g1] at g3;exact g3 (Zic.1 h2)
    ·have:=Zq5 (n:=d.vars.length) (F:=ef V (2*i)) (l:=d.vars) (fun u hu=>by
      cases e:Zbp d.vars.length (ef V (2*i)) u with
      | false=>rfl
      | true=>exact absurd ⟨u,hu,e⟩ hx)
     rw[ht] at this;omega
  ·rintro⟨F,hF,hh⟩;obtain⟨f,hf,rfl⟩:=List.mem_map.1 hF;refine Classical.byContradiction fun g5=>?_
   refine(Zgk (h.dep (hl f hf)) v).1 hh (Zic.1 (Zpx h r1 (v:=v) (fun i hi b hb e=>g5 ⟨i,hi,by unfold vrD;rw[hb];simp[e]⟩) d.vars.length f (hl f hf) (by omega) (r3 f hf)))
end
end Go.Proofs.YtgmbklaolcmljaaGreat
