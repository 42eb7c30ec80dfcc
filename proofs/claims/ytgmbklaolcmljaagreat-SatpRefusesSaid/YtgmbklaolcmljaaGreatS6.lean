/- Several texts in one file: contracts of the program's functions and what follows from them. -/
import Derived.Test.YtgmbklaolcmljaaGreatS5
import Derived.Deep.CutBlock
set_option linter.unusedSimpArgs false
set_option linter.unusedVariables false
set_option linter.unusedSectionVars false
set_option linter.unnecessarySimpa false
set_option maxRecDepth 100000
set_option maxHeartbeats 8000000
namespace Go.Proofs.YtgmbklaolcmljaaGreat
open Go.Proofs.Tryz
open Go.RowKit
variable {B b bf bl c e f g gop i j k mb n nk off room xb:Nat}{C:Nat->Prop}{F G:BF}{Fs:List BF}{K:Law}{Od:List Nat->Prop}{P:Program}{Q:Exit->Act->Wd->Prop}{S:Wd->Prop}{T:TypeId}{V V':Nat->BF}{W W' w w' w'' w0 w1:Wd}{a:Act}{args lop:Array Value}{bs:List Bool}{d:Ae}{fs fs' hs:List (Int×BF)}{kf least nx nx' op:Int}{ks zs:List Int}{last:Bool}{m m':ManD}{met os:List Nat}{o':Own}{ops:Array Oper}{r:List (Option Oper×Bool)}{rest:List Oper}{u v v' vl vx:Value}{ws ws0:List Ev}{xs:List Value}
def cntT:Nat->(Nat->Bool)->Nat
 | 0,_=>0
 | k+1,f=>cntT k f+(if f k then 1 else 0)
theorem EA (k:Nat)(f:Nat->Bool):cntT (k+1) f=cntT k f+(if f k then 1 else 0):=rfl
theorem Mq (f:Nat->Bool):∀ k,cntT k f<=k
 | 0=>WM _
 | k+1=>by
   have:=Mq f k;rw[EA];split<;>omega
def opB (op:Int)(n:Nat)(f:Nat->Bool):Bool :=
 if op=1 then true else if op=4 then decide (cntT n f=0) else if op=5 then decide (cntT n f=n) else if op=6 then decide (0<cntT n f) else if op=7 then decide (cntT n f%2=1)
 else if op=8 then (!f 0||f 1) else if op=9 then decide (cntT n f≠1) else if op=10 then iteB (f 0) (f 1) (f 2) else false
def fnT:ExT->BF
 | .nil=>fun _=>false
 | .mk op v n kid=>fun ρ=>if op=3 then ρ v.toNat else opB op n fun i=>fnT (kid i) ρ
def notF (F:BF):BF:=fun ρ => !F ρ
def DC (op:Int)(F G:BF):BF :=
 if op=5 then AV F G (fun _=>false) else if op=6 then AV F (fun _=>true) G else if op=8 then AV F G (fun _=>true) else if op=7 then AV F (notF G) G else AV F G (notF G)
def accT (op:Int)(kid:Nat->ExT):Nat->BF
 | 0=>fun _=>decide (op=5)
 | k+1=>DC op (accT op kid k) (fnT (kid k))
theorem Mr (kid:Nat->ExT)(ρ:Nat->Bool):∀ k,accT 5 kid k ρ=decide (cntT k (fun i=>fnT (kid i) ρ)=k)
 | 0=>rfl
 | k+1=>by
   have h1:accT 5 kid (k+1) ρ=iteB (accT 5 kid k ρ) (fnT (kid k) ρ) false:=rfl;have h2:=Mq (fun i=>fnT (kid i) ρ) k;rw[h1,Mr kid ρ k,EA];unfold iteB;cases hf:fnT (kid k) ρ
   ·have:(cntT k fun i=>fnT (kid i) ρ)+0≠k+1:=by omega
    simp only[Zb,if_false,X8 this];split<;>rfl
   . simp
theorem Ms (kid:Nat->ExT)(ρ:Nat->Bool):∀ k,accT 6 kid k ρ=decide (0<cntT k (fun i=>fnT (kid i) ρ))
 | 0=>rfl
 | k+1=>by
   have h1:accT 6 kid (k+1) ρ=iteB (accT 6 kid k ρ) true (fnT (kid k) ρ):=rfl;rw[h1,Ms kid ρ k,EA];unfold iteB;cases hf:fnT (kid k) ρ<;>simp
theorem Mt (kid:Nat->ExT)(ρ:Nat->Bool):∀ k,accT 7 kid k ρ=decide (cntT k (fun i=>fnT (kid i) ρ)%2=1)
 | 0=>rfl
 | k+1=>by
   have h1:accT 7 kid (k+1) ρ=iteB (accT 7 kid k ρ) (!(fnT (kid k) ρ)) (fnT (kid k) ρ):=rfl;rw[h1,Mt kid ρ k,EA];unfold iteB;rcases XN (cntT k fun i=>fnT (kid i) ρ) with e|e
   . cases hf:fnT (kid k) ρ<;>simp[e]<;>omega
   . cases hf:fnT (kid k) ρ<;>simp[e]<;>omega
theorem SY (h:op=5\/op=6\/op=7)(v:Int)(n:Nat)(kid:Nat->ExT):fnT (.mk op v n kid)=accT op kid n:=by
 funext ρ;rcases h with rfl|rfl|rfl
 . rw[Mr];rfl
 . rw[Ms];rfl
 . rw[Mt];rfl
theorem Mu (f:Nat->Bool):cntT 1 f=if f 0 then 1 else 0:=by rw[EA];exact Xw _
theorem SZ (f:Nat->Bool):cntT 2 f=(if f 0 then 1 else 0)+(if f 1 then 1 else 0):=by rw[EA,Mu]
theorem Ta (v:Int)(kid:Nat->ExT):fnT (.mk 4 v 1 kid)=notF (fnT (kid 0)):=by
 funext ρ
 show decide (cntT 1 (fun i=>fnT (kid i) ρ)=0) = !(fnT (kid 0) ρ)
 rw[Bool.eq_iff_iff,decide_eq_true_iff,Mu];cases fnT (kid 0) ρ<;>simp
theorem Tb (v:Int)(kid:Nat->ExT):fnT (.mk 10 v 3 kid)=AV (fnT (kid 0)) (fnT (kid 1)) (fnT (kid 2)):=rfl
theorem Tc (h:op=8\/op=9)(v:Int)(kid:Nat->ExT):fnT (.mk op v 2 kid)=DC op (fnT (kid 0)) (fnT (kid 1)):=by
 funext ρ;rcases h with rfl|rfl
 ·show (!fnT (kid 0) ρ||fnT (kid 1) ρ)=iteB (fnT (kid 0) ρ) (fnT (kid 1) ρ) true
  unfold iteB;cases fnT (kid 0) ρ<;>simp
 ·show decide (cntT 2 (fun i=>fnT (kid i) ρ)≠1)=iteB (fnT (kid 0) ρ) (fnT (kid 1) ρ) (!fnT (kid 1) ρ)
  rw[Bool.eq_iff_iff,decide_eq_true_iff,SZ];unfold iteB;cases fnT (kid 0) ρ<;>cases fnT (kid 1) ρ<;>simp
theorem Mv (h:op=1\/op=2)(v:Int)(n:Nat)(kid:Nat->ExT):fnT (.mk op v n kid)=fun _=>decide (op=1):=by
 rcases h with rfl|rfl<;>rfl
theorem Td (v:Nat)(n:Nat)(kid:Nat->ExT):fnT (.mk 3 v n kid)=varF v:=by
 funext ρ;rfl
def DepF (n:Nat)(F:BF):Prop:=∀ ρ ρ':Nat->Bool,(∀ i,i<n->ρ i=ρ' i)->F ρ=F ρ'
theorem Mw {f:Nat->List Int}{i:Nat}{x:Int}:∀ {n:Nat},i<n->x∈f i->x∈BL n f
 | 0,h,_=>by omega
 | k+1,h,hx=>by
   unfold BL;rcases Xe i k with h'|h'
   . exact Yb _ (Mw h' hx)
   ·obtain rfl:i=k:=by omega
    exact YN _ hx
abbrev Zv:=@Nat.div_eq_of_lt
theorem Te (n:Nat)(ρ:Nat->Bool):∃ i,i<2^n/\∀ v,v<n->bitB i v=ρ v:=by
 induction n with
 | zero=>exact⟨0,by simp,fun v hv=>by omega⟩
 | succ n ih =>
   obtain⟨i,hi,hb⟩:=ih;have hp:0<2^n:=XW (by omega);refine⟨i+(if ρ n then 2^n else 0),by rw[X4];split<;>omega,fun v hv=>?_⟩;rcases Xe v n with h|h
   ·rw[<- hb v h];unfold bitB;split
    ·obtain⟨k,rfl⟩:∃ k,n=v+(k+1):=⟨n-v-1,by omega⟩;have e1:(2:Nat)^(v+(k+1))=2^v*(2*2^k):=by rw[Nat.pow_add,X4];ac_rfl
     rw[e1,Nat.add_mul_div_left _ _ (XW (by omega)),Nat.add_mul_mod_self_left]
    . rw[Y6]
   ·obtain rfl:v=n:=by omega
    unfold bitB;cases hr:ρ v with
    | true =>
      rw[WR rfl,Nat.add_div_right _ hp,Zv hi];rfl
    | false =>
      rw[WO (by simp),Y6,Zv hi];rfl
theorem Mx (hF:DepF n F)(hG:DepF n G)(h:tabB n F=tabB n G):F=G:=by
 funext ρ;obtain⟨i,hi,hb⟩:=Te n ρ;have e:∀ v,v<n->ρ v=A6 (AP i n) v:=fun v hv=>by rw[SE,hb v hv];simp[hv]
 rw[hF ρ _ e,hG ρ _ e,<- Mi (F:=F) hi,<- Mi (F:=G) hi,h]
theorem Tf {f:Nat->Nat}(h1:∀ i,i<n->f i<n)(h2:∀ i j,i<n->j<n->f i=f j->i=j)(hj:j<n):∃ i,i<n/\f i=j:=by
 by_cases h:∃ i,i<n/\f i=j
 . exact h
 exfalso;have g0:∀ i,i<n->f i≠j:=fun i hi e=>h ⟨i,hi,e⟩
 have g1:(j::(List.range n).map f).Nodup:=by
  refine Yp.2 ⟨?_,?_⟩
  . intro hm;obtain⟨i,hi,e⟩:=WW.1 hm;exact g0 i (Yt.1 hi) e
  . refine Yh.2 (List.nodup_range.imp_of_mem ?_);intro a b ha hb g2 e;exact g2 (h2 a b (Yt.1 ha) (Yt.1 hb) e)
 have:=CD n _ g1 (fun x hx=>by
  rcases XI.1 hx with rfl|hx
  . exact hj
  . obtain⟨i,hi,rfl⟩:=WW.1 hx;exact h1 i (Yt.1 hi))
 simp at this;omega
theorem Tg {zs:List Int}{v:Int}{p:Nat}(h:at0 zs p=v)(hu:∀ i,i<zs.length->at0 zs i=v->i=p):∀ k,k<=zs.length->cntP zs v k=if p<k then 1 else 0
 | 0,_=>by simp[cntP]
 | k+1,hk=>by
   have ih:=Tg h hu k (by omega)
   by_cases e:at0 zs k=v
   . have:=hu k (by omega) e;subst this;rw[Eg (by omega) e,ih];simp
   ·rw[Ji (by omega) e,ih];have:p≠k:=fun e2=>e (by rw[<- e2];exact h)
    by_cases h3:p<k
    . rw[WR h3,WR (by omega)]
    . rw[WO h3,WO (by omega)]
theorem Fp {zs:List Int}{v:Int}{i:Nat}:∀ {j:Nat},i<=j->j<=zs.length->cntP zs v i<=cntP zs v j
 | 0,h,_=>by
   obtain rfl:i=0:=by omega
   exact WM _
 | j+1,h,hj=>by
   rcases Xe i (j+1) with h'|h'
   ·have:=Fp (zs:=zs) (v:=v) (show i<=j by omega) (by omega)
    by_cases e:at0 zs j=v
    . rw[Eg (by omega) e];omega
    . rw[Ji (by omega) e];omega
   ·obtain rfl:i=j+1:=by omega
    exact WM _
structure Jj (zs:List Int)(n:Nat):Prop where
 len:zs.length=n
 lt:∀ i,i<n->∃ v:Nat,v<n/\at0 zs i=(v:Nat)
 inj:∀ i j,i<n->j<n->at0 zs i=at0 zs j->i=j
theorem Th (h:BE zs n=true):Jj zs n:=by
 unfold BE at h;rw[XD] at h;obtain⟨h1,h2⟩:=h;have g2:zs.length=n:=by omega
 subst g2;have hp:∀ v:Nat,v<zs.length->∃ p,p<zs.length/\at0 zs p=(v:Nat):=by
  intro v hv;have e:=h2 v hv;unfold cntP at e;rw[Xx] at e;have hm:0<(zs.filter (fun z=>decide (z=(v:Int)))).length:=by omega
  obtain⟨z,hz⟩:=List.length_pos_iff_exists_mem.1 hm;obtain⟨q1,q2⟩:=XT.1 hz;obtain⟨i,hi,e2⟩:=XX q1;refine⟨i,hi,?_⟩;rw[AI hi,e2];simpa using q2
 have g0:∀ i,i<zs.length->∃ v,v<zs.length/\at0 zs i=(v:Nat):=by
  have hc:∃ f:Nat->Nat,∀ v,v<zs.length->f v<zs.length/\at0 zs (f v)=(v:Nat):=by
   refine⟨fun v=>if hv:v<zs.length then Classical.choose (hp v hv) else 0,fun v hv=>?_⟩;dsimp only;rw[dif_pos hv];exact Zq (hp v hv)
  obtain⟨f,hf⟩:=hc;intro i hi
  obtain⟨v,hv,e⟩:=Tf (n:=zs.length) (f:=f) (fun v hv=>(hf v hv).1) (fun a b ha hb e=>by
   have e1:=(hf a ha).2;have e2:=(hf b hb).2;rw[e,e2] at e1;omega) hi
  exact⟨v,hv,by rw[<- e];exact(hf v hv).2⟩
 refine⟨rfl,g0,fun i j hi hj e=>?_⟩;obtain⟨v,hv,ei⟩:=g0 i hi;have ec:=h2 v hv;have ej:at0 zs j=(v:Nat):=by rw[<- e];exact ei
 rcases YP i j with g1|rfl|g1
 . have a1:=Eg hi ei;have a2:=Eg hj ej;have a3:=Fp (zs:=zs) (v:=(v:Nat)) (show i+1<=j by omega) (by omega);have a4:=Fp (zs:=zs) (v:=(v:Nat)) (show j+1<=zs.length by omega) (WM _);omega
 . rfl
 . have a1:=Eg hi ei;have a2:=Eg hj ej;have a3:=Fp (zs:=zs) (v:=(v:Nat)) (show j+1<=i by omega) (by omega);have a4:=Fp (zs:=zs) (v:=(v:Nat)) (show i+1<=zs.length by omega) (WM _);omega
theorem Ti {l:List Nat}(hi:i<l.length):at0 (l.map Int.ofNat) i=(l.getD i 0:Nat):=by
 rw[AI (by simpa using hi)];simp[List.getD,hi]
theorem Ai.mem (h:Ai d V){v:Nat}(hv:v<d.vars.length):∃ i,i<d.vars.length/\d.vars.getD i 0=v:=⟨levN d v,h.dag.lt v hv,h.inv v hv⟩
theorem Ai.inj (h:Ai d V)(hi:i<d.vars.length)(hj:j<d.vars.length)(e:d.vars.getD i 0=d.vars.getD j 0):i=j:=by
 have a:=(h.vlt i hi).2;have b:=(h.vlt j hj).2;rw[e,b] at a;exact a.symm
def exL (l:List Nat)(k:Nat):List Nat:=(l.set k (l.getD (k+1) 0)).set (k+1) (l.getD k 0)
theorem Tj {l:List Nat}(h:k+1<l.length):(exL l k).getD k 0=l.getD (k+1) 0:=by
 unfold exL;simp[List.getD,Xv,h,show k<l.length by omega]
theorem Tk {l:List Nat}(h1:i≠k)(h2:i≠k+1):(exL l k).getD i 0=l.getD i 0:=by
 unfold exL;simp only[List.getD,Xv];rw[WO (fun e=>h2 e.symm),WO (fun e=>h1 e.symm)]
theorem Tl (d:Ae)(k:Nat):(AY d k).vars=exL d.vars k:=rfl
structure LawT (K:Law)(n:Nat)(Od:List Nat->Prop)(room:Nat)(w0:Wd)(mb:Nat)(fs:List (Int×BF))(nx:Int)(Wt:List Ev->Int->Prop)(hl hx:List (Int×BF))(W:Wd)(o:Own)(m:ManD)(V:Nat->BF)(vl vx:Value):Prop where
 sat:SatE K n Od room w0 mb fs nx W o m V
 b2:B2 fs
 st:Wt m.waits m.calls
 l:LawL W o w0.heap.size vl (hl.map Prod.fst)
 x:LawX W o w0.heap.size vx (hx.map fun p=>tabB n p.2)
section
variable {Wt:List Ev->Int->Prop}{hl hx:List (Int×BF)}{o:Own}{p:Int×BF}
theorem LawT.below (h:LawT K n Od room w0 mb fs nx Wt hl hx W o m V vl vx)(hb:Bw W W'):LawT K n Od room w0 mb fs nx Wt hl hx W' o m V vl vx :=
 ⟨h.sat.below hb,h.b2,h.st,h.l.chg (CE hb o),h.x.chg (CE hb o)⟩
theorem LawT.below0 (h:LawT K n Od room w0 mb fs nx Wt hl hx W o m V vl vx):Bw w0 W:=h.sat.chg.below0
theorem LawT.go {Od':List Nat->Prop}{Wt':List Ev->Int->Prop}(h:LawT K n Od room w0 mb fs nx Wt hl hx W o m V vl vx)(hs:SatE K n Od' room w0 mb fs' nx' W' o' m' V')(hb:B2 fs')(ht:Wt' m'.waits m'.calls)(hc:ChgX NoB o o' W W') :
 LawT K n Od' room w0 mb fs' nx' Wt' hl hx W' o' m' V' vl vx:=⟨hs,hb,ht,h.l.chg hc,h.x.chg hc⟩
theorem LawT.withOd {Od':List Nat->Prop}(h:LawT K n Od room w0 mb fs nx Wt hl hx W o m V vl vx)(hO:Od' m.d.vars):LawT K n Od' room w0 mb fs nx Wt hl hx W o m V vl vx:=⟨h.sat.withOd hO,h.b2,h.st,h.l,h.x⟩
theorem LawT.withSt {Wt':List Ev->Int->Prop}(h:LawT K n Od room w0 mb fs nx Wt hl hx W o m V vl vx)(hO:Wt' m.waits m.calls):LawT K n Od room w0 mb fs nx Wt' hl hx W o m V vl vx:=⟨h.sat,h.b2,hO,h.l,h.x⟩
theorem LawT.appL (h:LawT K n Od room w0 mb fs nx Wt hl hx W o m V vl vx)(hown:OwnC 3 W' w0.heap.size v' (As (hl.map Prod.fst)++[.int .i64 p.1]))(e1:W'.os=W.os)(e2:W'.tape=W.tape)(e3:W'.output=W.output)(e4:W.heap.size<=W'.heap.size)(hk:Cf vl v' W W') :
 LawT K n Od room w0 mb fs nx Wt (hl++[p]) hx W' o m V v' vx:=by
 have hw:=Gq e1 e2 e3 e4 hk;refine⟨h.sat.other hw (fun k _ hk=>⟨(h.l.own.lt k hk).1,h.l.no k hk⟩),h.b2,h.st,?_,h.x.typ hw (by decide) (by decide) h.l.own.typed⟩;rw[Xl];exact h.l.app h.sat.lt hown hk
theorem LawT.appX (h:LawT K n Od room w0 mb fs nx Wt hl hx W o m V vl vx)(hb:LawB W o w0.heap.size v bs)(hbs:bs=tabB n p.2){rs:List Value}(hrs:rs.length=hx.length)(hrow:OwnC 54 W w0.heap.size vx rs)(hall:∀ i v,rs[i]?=some v->LawB W o w0.heap.size v ((hx.map fun p=>tabB n p.2).getD i []))
 (hown:OwnC 54 W' w0.heap.size v' (rs++[v])) (e1:W'.os=W.os) (e2:W'.tape=W.tape) (e3:W'.output=W.output) (e4:W.heap.size<=W'.heap.size) (hk:Cf vx v' W W'):LawT K n Od room w0 mb fs nx Wt hl (hx++[p]) W' o m V vl v':=by
 have hw:=Gq e1 e2 e3 e4 hk;refine⟨h.sat.other hw (fun k _ hk=>⟨(hrow.lt k hk).1,h.x.no k hk⟩),h.b2,h.st,h.l.typ hw (by decide) hrow.typed,?_⟩;rw[Xl];have:=h.x.app h.sat.lt (by simp[hrs]) hall hw hrow.typed hb hown hk;rw[hbs] at this;exact this
structure LawF (W:Wd)(o:Own)(v:Value)(bs:List Bool):Prop where
 is:AS W v bs
 no:∀ k,v.ownBlock=some k->k<W.heap.size/\o k=none/\∃ cur,W.heap[k]?=some (.cells cur 4 (0,0))
theorem LawF.chg (h:LawF W o v bs)(hc:ChgX NoB o o' W W'):LawF W' o' v bs :=
 ⟨h.is.same fun k hk=>hc.block k (h.no k hk).1 (h.no k hk).2.1 (fun e=>e),fun k hk=>by
  obtain⟨h1,h2,cur,h3⟩:=h.no k hk;exact⟨Xh h1 hc.size,hc.none' h1 h2,cur,(hc.block k h1 h2 (fun e=>e)).trans h3⟩⟩
end
def orF (F G:BF):BF:=AV F (fun _=>true) G
theorem My (V:Nat->BF)(e:Nat):ef V (enot e)=notF (ef V e):=funext fun ρ=>Ds V e ρ
def Jk (K:Law)(n:Nat)(g:Nat)(G:BF->BF->BF):Prop:=∀ (o:Own) (w:Wd) (xb mb:Nat) (m:ManD) (V:Nat->BF) (a b:Nat),A9 (K m.d V) o w mb m->Ab o w->AH o w xb mb->Ai m.d V->m.d.vars.length=n->okE (Aa m.d) a->okE (Aa m.d) b ->
 Calls prog g #[.pointer (some ⟨xb,0,none⟩),.int .i64 a,.int .i64 b] w (AF K (2^n-1) o w mb m V fun _ V' r=>ef V' r=G (ef V a) (ef V b))
section
theorem DD {o:Own}(h:A9 (K m.d V) o w mb m)(he:okE (Aa m.d) e):e<eMax:=by
 obtain⟨s,hs⟩:=h;obtain⟨s2,h2⟩:=hs.store;have:=h2.edge_lt he;unfold eMax;omega
theorem Tm (hK:A5 K):Jk K n 139 orF:=by
 intro o w xb mb m V a b h g0 hx hk hn ha hb;have hI:=Mf hK h g0 hx hk hn a 0 b ha (.inl rfl) hb;have e:AV (ef V a) (ef V 0) (ef V b)=orF (ef V a) (ef V b):=by
  rw[hk.dag.ef0];rfl
 rw[e] at hI;have HI:=Hd hI;clear hI e h g0 hx hk hn ha hb hK
 go_enter func139,ntmps139
 go_wp2_with fail;refine HI.o.mono ?_;rintro e w' (⟨r,o',m',V',rfl,h⟩|⟨er,evt,ev,rfl,h⟩)
 . have HR:=Hd h;clear h HI;go_wp2_with fail;go_ret;exact .inl ⟨r,o',m',V',rfl,HR.o⟩
 . have HR:=Hd h;clear h HI;unfold Au;go_wp2_with fail;exact⟨rfl,.inr ⟨er,evt,ev,rfl,HR.o⟩⟩
end
theorem Tn (args:Array Value)(w:Wd):(callFunc 171 args).run prog w=.ok (.enter 171 args) w:=XY func171 (by kernel_rfl) rfl args w
section
variable {o:Own}
def Cl (G:BF->BF->BF)(C:BF)(Fs:List BF):BF:=Fs.foldl G C
theorem To (G:BF->BF->BF)(C:BF)(hi:i<Fs.length):Cl G C (Fs.take (i+1))=G (Cl G C (Fs.take i)) Fs[i]:=by
 unfold Cl;rw[WZ hi,YQ];rfl
structure BoF (b1 bl bf:Nat)(e0:Nat)(a:Option Addr)(c:Nat)(ks:List Int)(g:Nat)(W:Wd):Prop where
 e:W.cell? ⟨b1,0,none⟩=some (.int .i64 e0)
 l:W.cell? ⟨bl,0,none⟩=some (.slice a ks.length c)
 f:W.cell? ⟨bf,0,none⟩=some (.func (.func g) #[] #[])
 z:An W a ks
theorem Tp {G:BF->BF->BF}(hG:Jk K n g G)(eg:∀ args w,(callFunc g args).run prog w=.ok (.enter g args) w){b1 e0:Nat}{a:Option Addr}(he0:e0/2=0)(hlen:Fs.length=ks.length)(hks:∀ i (h:i<ks.length),(ks[i],Fs[i]'(by omega))∈fs)(hsat:SatE K n Od room w0 mb fs nx w o m V)(hB:BoF b1 bl bf e0 a c ks g w)(hno:∀ k,(k=b1\/k=bl\/k=bf\/∃ x,a=some x/\k=x.block)->o k=none)(hx:AH o w xb mb) :
 Calls prog 171 #[Pt xb,Pt b1,Pt bl,Pt bf] w (AF K (ks.length*(2^n-1)) o w mb m V fun _ V' r=>ef V' r=Cl G (ef V e0) Fs):=by
 have hk:=hsat.ok;have ce:=hB.e;have cl:=hB.l;have HB:=Hd hB;have g5:=Hd hno;have gf:=hB.z.len;obtain⟨I,hI⟩:=Ex (fun i r wr=>∃ o' m' V',AtC K (i*(2^n-1)) o w mb m V o' wr m' V'/\okE (Aa m'.d) r/\ef V' r=Cl G (ef V e0) (Fs.take i):Nat->Nat->Wd->Prop)
 have g6:Hq (I 0 e0 w):=by rw[hI];exact Hd ⟨o,m,V,(AtC.refl hsat.is hsat.lt hk.store).mono (by omega),.inl he0,rfl⟩
 have g1:Hq (∀ i r wr,I i r wr->∀ p v,w.cell? p=some v->o p.block=none->wr.cell? p=some v):=by rw[hI];exact Hd fun i r wr ⟨o',m',V',h,_⟩ p v hc ho=>h.st.chg.cell hc ho
 obtain⟨P,hP⟩:=Ex (AF K (ks.length*(2^n-1)) o w mb m V fun _ V' r=>ef V' r=Cl G (ef V e0) Fs:Ending->Wd->Prop)
 have g2:Hq (∀ r wr,I ks.length r wr->P (.returned (.int .i64 (r:Nat))) wr):=by
  rw[hI,hP];exact Hd fun r wr ⟨o',m',V',h,h2,h3⟩=>.inl ⟨r,o',m',V',rfl,h,h2,by rw[<- hlen,Xx] at h3;exact h3⟩
 have g0:Hq (∀ i r wr,i<ks.length->I i r wr->∃ f,(Calls prog 98 #[Pt xb,.int .i64 (at0 ks i)] wr.drew fun x w'=>x=.returned (.int .i64 (f:Nat))/\wr.drew=w') /\
  Calls prog g #[.pointer (some ⟨xb,0,none⟩),.int .i64 (r:Nat),.int .i64 (f:Nat)] wr.drew fun e w'=>(∃ v,e=.returned v/\(w'.cell? ⟨bf,0,none⟩=some (.func (.func g) #[] #[])/\True)/\∃ r':Nat,v=.int .i64 r'/\I (i+1) r' w')\/(∃ ch,e=.panicked ch/\P (.panicked ch) w')):=by
  rw[hI,hP];refine Hd fun i r wr hi ⟨o',m',V',h,h2,h3⟩=>?_
  have g9:=hks i hi;obtain⟨f,hf,e1⟩:=hsat.find g9;have g4:Bw wr wr.drew:=Ap wr 1;have hd:=h.below g4;have g7:=hx.chg hd.st.chg;have gc:(ks[i],f)∈m'.hs:=by rw[hd.st.hs];exact hf
  have gb:okE (Aa m'.d) f:=hd.st.ext.ok (hk.handles.ok _ hf);refine⟨f,by rw[AI hi];exact DV hd.st.is g7 (by rw[hd.st.hs];exact hk.handles.nodup) gc,?_⟩;refine(hG o' wr.drew xb mb m' V' r f hd.st.is hd.st.lt g7 hd.st.ok (hd.vars hsat.vars) h2 gb).mono ?_;rintro e w' (⟨r',o2,m2,V2,rfl,q1,q2,q3⟩|⟨er,evt,ev,rfl,q⟩)
  . have hq:=hd.trans q1;refine .inl ⟨_,rfl,⟨hq.st.chg.cell HB.o.f (g5.o bf (.inr (.inr (.inl rfl)))),trivial⟩,r',rfl,o2,m2,V2,hq.mono (by rw[Nat.succ_mul];exact WM _),q2,?_⟩;have gd:ef V' f=Fs[i]'(by omega):=(hd.st.ext.ef (hk.handles.ok _ hf)).trans e1;rw[To G _ (by omega),q3,h3,gd]
  . refine .inr ⟨_,rfl,.inr ⟨er,evt,ev,rfl,q.after hd ?_⟩⟩;have:=X7 (2^n-1) (show i+1<=ks.length by omega);rw[Nat.succ_mul] at this;exact this
 rw[<- hP];clear hI hP hG hsat hB hno hx hk hks
 delta Pt;go_enter func171,ntmps171
 go_wp2_with fail
 go_loopw [6,8,12] (fun s6 _ s12 wr=>∃ (i r:Nat),i<=ks.length/\s12=.int .i64 i/\s6=.int .i64 r/\Hq (I i r wr)) (fun _ _ s12 _=>ks.length-(intOf s12).toNat)
 case atStart=>exact⟨0,e0,WX _,rfl,rfl,g6⟩
 case round =>
  obtain⟨i,r,hi,rfl,rfl,HI⟩:=hrel
  by_cases g8:i<ks.length
  ·have ga:(i:Int)<(ks.length:Int):=by omega
   obtain⟨f,hE,hS⟩:=g0.o i r _ g8 HI.o;obtain⟨b,off,rfl,ck⟩:=HB.o.z.cells i g8;have ck1:=g1.o _ _ _ HI.o _ _ ck (g5.o b (.inr (.inr (.inr ⟨_,rfl,rfl⟩))));have cf1:=g1.o _ _ _ HI.o _ _ HB.o.f (g5.o bf (.inr (.inr (.inl rfl))));have g4:Bw wr wr.drew:=Ap wr 1;have cf2:=Cq g4 cf1;have HE:=Hd hE;have HS:=Hd hS;clear hE hS g4 cf1 ck ce cl g6 g0 g2 HI;go_upto_region 5 with fail;refine IL (fun W:Wd=>W.cell? ⟨bf,0,none⟩=some (.func (.func g) #[] #[])/\True) (fun ch w'=>P (.panicked ch) w') 8 (fun c a w hd h=>⟨hd,h⟩) (by kernel_rfl) ⟨cf2,trivial⟩ ?_;refine BT 0 rfl rfl (by kernel_rfl) ?_;apply Exists.intro;refine⟨fun w' hw=>?_,?_⟩
   . obtain⟨q1,q2⟩:=hw;go_simp;rfl
   simp only[Ac];refine BT 1 rfl rfl (by kernel_rfl) ?_;apply Exists.intro;refine⟨fun w' hw=>?_,?_⟩
   . obtain⟨q1,q2⟩:=hw;go_simp;rfl
   simp only[Ac];refine BT 2 rfl rfl (by kernel_rfl) ?_;apply Exists.intro;refine⟨fun w' hw=>?_,?_⟩
   . obtain⟨q1,q2⟩:=hw;go_simp;rfl
   simp only[Ac];refine BT 3 rfl rfl (by kernel_rfl) ?_;apply Exists.intro;refine⟨fun w' hw=>?_,?_⟩
   . obtain⟨q1,q2⟩:=hw;go_simp;rfl
   simp only[Ac];refine BT 4 rfl rfl (by kernel_rfl) ?_;apply Exists.intro;refine⟨fun w' hw=>?_,?_⟩
   . obtain⟨q1,q2⟩:=hw;go_simp;rfl
   simp only[Ac];refine CS [5] (by kernel_rfl) (fun i hi hS o ho=>?_);simp only[Cr] at hi;subst hi;simp only[Ce] at ho;subst ho;refine⟨rfl,?_⟩;refine CQ (v:=.int .i64 (f:Nat)) (R:=fun w'=>wr.drew=w') (by go_simp) HE.o ?_;rintro w' rfl;refine⟨⟨cf2,trivial⟩,?_⟩;simp only[Ac];refine CS [6] (by kernel_rfl) (fun i hi hS o ho=>?_);simp only[Cr] at hi;subst hi;simp only[Ce] at ho;subst ho;refine⟨rfl,?_⟩;refine IN (R:=fun v w'=>(w'.cell? ⟨bf,0,none⟩=some (.func (.func g) #[] #[])/\True)/\∃ r':Nat,v=.int .i64 r'/\I (i+1) r' w') (R2:=fun ch w'=>P (.panicked ch) w') (by go_simp) HS.o ?_ ?_
   ·rintro v w' ⟨hS,r',rfl,g3⟩;refine⟨hS,?_⟩;have ge:=Hd g3;clear g3;simp only[Ac];refine BT 7 rfl rfl (by kernel_rfl) ?_;apply Exists.intro;refine⟨fun w' hw=>?_,?_⟩
    . obtain⟨q1,q2⟩:=hw;go_simp;rfl
    simp only[Ac];refine IM (by kernel_rfl) ?_;clear hS cf2 ck1;go_wp2_with fail;go_roundw
    case rel=>exact⟨i+1,r',by omega,by go_num,rfl,ge⟩
    case measure=>simp[intOf];omega
   . intro ch w' g3;exact⟨rfl,g3⟩
  ·obtain rfl:i=ks.length:=by omega
   have ga:¬ (ks.length:Int)<(ks.length:Int):=by omega
   have HF:=Hd (g2.o r _ HI.o);clear g6 g0 g2 HI ce cl;go_wp2_with fail;exact HF.o
end
section
variable {o:Own}
def NewF (K:Law)(n room:Nat)(w0:Wd)(mb:Nat)(fs:List (Int×BF))(nx:Int)(ws0:List Ev)(F:BF)(o:Own)(w:Wd)(x:Ending)(w':Wd):Prop :=
 x=.returned (.tuple #[.int .i64 nx,.int .i64 0])/\∃ o' m' V',ChgX NoB o o' w w'/\m'.waits <:+ ws0/\SatE K n (fun _=>True) room w0 mb (fs++[(nx,F)]) (nx+1) w' o' m' V'
theorem Mz {B:Wd->Prop}(hK:A5 K)(eg:∀ args w,(callFunc gop args).run prog w=.ok (.enter gop args) w)(ws0:List Ev)
 (hB:∀ W W',B W->(∀ c,C c->W'.heap[c]?=W.heap[c]?)->B W')
 (hop:∀ (o:Own) (W:Wd) (m:ManD) (V:Nat->BF) (xb:Nat),SatE K n (fun _=>True) room w0 mb fs nx W o m V->B W->(∀ k,C k->k<W.heap.size/\o k=none)->AH o W xb mb->¬ C xb->Calls prog gop (#[.pointer (some ⟨xb,0,none⟩)]++lop) W (AF K k o W mb m V fun _ V' r=>ef V' r=F))
 (h:SatE K n (fun _=>True) room w0 mb fs nx w o m V) (hb1:Bw w w1) (hC:∀ c,C c->c<w1.heap.size/\(w.heap.size<=c\/(w0.heap.size<=c/\o c=none/\∀ W,B W->W.heap[c]?=w.heap[c]?))) (hb:B w1) (hst:m.waits <:+ ws0) (hn:nx<=549755813888) (hr:fs.length*2^n+k<=room) :
 Calls prog 115 #[Pt mb,.func (.func gop) #[] lop] w1 (NewF K n room w0 mb fs nx ws0 F o w):=by
 have hw0:=h.chg.size;have g0:∀ c,C c->o c=none:=fun c hc=>by
  rcases(hC c hc).2 with h1|⟨_,h1,_⟩
  . exact h.lt.none h1
  . exact h1
 refine(IJ hK hB (fun _ _ _ _ _ h _=>h) StL.coll (fun c hc=>by
  rcases(hC c hc).2 with h1|⟨h1,_,_⟩
  . exact WU hw0 h1
  . exact h1) eg (SB (k:=k) (F:=F) ws0 none (fun _ e=>by cases e) (fun ev _=>LQ hn ev) hB hop) (h.below hb1) hb (fun c hc=>⟨(hC c hc).1,g0 c hc⟩) ⟨hst,fun _ e=>by cases e⟩ (by omega)).mono ?_
 rintro x w' ⟨o',m',V',g3,hc,⟨r,m1,rfl,hs,⟨q1,q2,_⟩,_,_,_,_,_,q3,_⟩|⟨er,m0,_,_,g2,⟨_,e7,⟨W',oo,VV,hs'⟩,h5,h6,_⟩,h7⟩⟩
 ·refine⟨rfl,o',m',V',⟨hc.os.trans hb1.os,hc.tape.trans hb1.tape,hc.output.trans hb1.output,WU hb1.size hc.size,fun j hj ho _=>?_,hc.ext,fun j hj=>WU hb1.size (hc.new j hj)⟩,by rw[q3];exact q2,by rw[<- q1];exact hs⟩
  by_cases g1:C j
  ·rcases(hC j g1).2 with h1|⟨_,_,h1⟩
   . omega
   . exact h1 w' g3
  . exact(hc.block j (Xh hj hb1.size) ho g1).trans (hb1.block j hj)
 . exfalso;have h8:=hs'.few (h7 e7);have h9:=g2.room;omega
end
theorem Tq (args:Array Value)(w:Wd):(callFunc 139 args).run prog w=.ok (.enter 139 args) w:=XY func139 (by kernel_rfl) rfl args w
theorem boxes3v (w:Wd)(x y z:Value)(s t u:TypeId):∃ w3,w3=((w.alloc (.cells #[x] s)).alloc (.cells #[y] t)).alloc (.cells #[z] u)/\Bw w w3/\w3.heap.size=w.heap.size+3/\w3.cell? ⟨w.heap.size,0,none⟩=some x/\w3.cell? ⟨w.heap.size+1,0,none⟩=some y/\w3.cell? ⟨w.heap.size+1+1,0,none⟩=some z:=by
 refine⟨_,rfl,((Af _ _).alloc (by simp) _).alloc (by simp;omega) _,by simp,?_,?_,?_⟩
 . exact cell1 ((WT _ _ (by simp;omega)).trans ((WT _ _ (by simp)).trans (WN _ _)))
 . have:=WN (w.alloc (.cells #[x] s)) (.cells #[y] t);rw[WV] at this;exact cell1 ((WT _ _ (by simp)).trans this)
 . have:=WN ((w.alloc (.cells #[x] s)).alloc (.cells #[y] t)) (.cells #[z] u);rw[WV,WV] at this;exact cell1 this
def DE (e0:Nat):BF:=fun _=>decide (e0=0)
theorem Jl (hk:Ai d V){e0:Nat}(h:e0/2=0):ef V e0=DE e0:=by
 rcases(show e0=0\/e0=1 by omega) with rfl|rfl
 . rw[hk.dag.ef0];rfl
 . rw[hk.dag.ef1];rfl
section
variable {o:Own}
theorem Tr (hK:A5 K){G:BF->BF->BF}(hG:Jk K n g G)(eg:∀ args w,(callFunc g args).run prog w=.ok (.enter g args) w)(h:SatE K n (fun _=>True) room w0 mb fs nx w o m V){e0:Nat}{a:Option Addr}(he0:e0/2=0)(hz:An w a ks)(ha:∀ x,a=some x->x.block<w.heap.size/\w0.heap.size<=x.block/\o x.block=none)(hlen:Fs.length=ks.length)(hks:∀ i (h:i<ks.length),(ks[i],Fs[i]'(by omega))∈fs)(hst:m.waits <:+ ws0)(hn:nx<=549755813888)(hr:fs.length*2^n+ks.length*(2^n-1)<=room) :
 Calls prog 138 #[Pt mb,.int .i64 e0,.func (.func g) #[] #[],.slice a ks.length c] w (NewF K n room w0 mb fs nx ws0 (Cl G (DE e0) Fs) o w):=by
 have g5:∀ (fn:Fn) (first cap:Array Value) (w:Wd),(Instr.makeFunc fn first cap).run prog w=.ok (.func fn first cap) w:=fun _ _ _ _=>rfl
 obtain⟨w3,g1,g0,g3,c0,c1,c2⟩:=boxes3v w (.int .i64 e0) (.func (.func g) #[] #[]) (.slice a ks.length c) 113 244 22;have g4:Hq (_=w3):=Hd g1.symm
 have g2:=Hd (Mz (C:=fun k=>k=w.heap.size\/k=w.heap.size+1+1\/k=w.heap.size+1\/∃ x,a=some x/\k=x.block) (B:=fun W=>BoF w.heap.size (w.heap.size+1+1) (w.heap.size+1) e0 a c ks g W/\∀ x,a=some x->W.heap[x.block]?=w.heap[x.block]?) (F:=Cl G (DE e0) Fs) (k:=ks.length*(2^n-1)) (lop:=#[.pointer (some ⟨w.heap.size,0,none⟩),.pointer (some ⟨w.heap.size+1+1,0,none⟩),.pointer (some ⟨w.heap.size+1,0,none⟩)]) hK Tn ws0
  (fun W W' hB hk=>⟨⟨Co hB.1.e (hk _ (.inl rfl)),Co hB.1.l (hk _ (.inr (.inl rfl))),Co hB.1.f (hk _ (.inr (.inr (.inl rfl)))),⟨hB.1.z.len,fun i hi=>by
   obtain⟨b,off,e,hc⟩:=hB.1.z.cells i hi;exact⟨b,off,e,Co hc (hk _ (.inr (.inr (.inr ⟨_,e,rfl⟩))))⟩⟩⟩,fun x hx=>(hk _ (.inr (.inr (.inr ⟨x,hx,rfl⟩)))).trans (hB.2 x hx)⟩)
  (fun o W m V xb hs hB hC hx _=>by
   have:=Tp hG eg he0 hlen hks hs hB.1 (fun k hk=>(hC k hk).2) hx;rw[Jl hs.ok.store he0] at this;exact this) h g0 (by
   rintro k (rfl|rfl|rfl|⟨x,hx,rfl⟩)
   . exact⟨by omega,.inl (by omega)⟩
   . exact⟨by omega,.inl (by omega)⟩
   . exact⟨by omega,.inl (by omega)⟩
   . have:=ha x hx;exact⟨by omega,.inr ⟨this.2.1,this.2.2,fun W hW=>hW.2 x hx⟩⟩) ⟨⟨c0,c2,c1,hz.below g0⟩,fun x hx=>g0.block _ (ha x hx).1⟩ hst hn hr)
 clear g1 g0 g3 c0 c1 c2 h hK hG hst hn hr hz ha hks;obtain⟨P,hP⟩:=Ex (NewF K n room w0 mb fs nx ws0 (Cl G (DE e0) Fs) o w);rw[<- hP] at g2 ⊢;have HT:Hq (∀ x w',P x w'->∃ a b,x=.returned (.tuple #[.int .i64 a,.int .i64 b])):=Hd (by subst hP;rintro x w' ⟨rfl,_⟩;exact⟨_,_,rfl⟩);clear hP
 delta Pt;go_enter func138,ntmps138
 go_upto_region 1 with fail;rw[g4.o];go_wp2_with fail;refine g2.o.mono ?_;intro x w' hd;obtain⟨a,b,rfl⟩:=HT.o x w' hd;have HD:=Hd hd;clear hd;go_wp2_with fail;exact HD.o
end
theorem Ts (w:Wd)(g:Fn)(fs cs:Array Value):(binOp .eql 166 (.func g fs cs) .nilFunc).run prog w=.ok (.bool false) w:=by
 have hd:Op.maxDepth=9999+1:=rfl;have h:(Op.equal 166 (.func g fs cs) .nilFunc).run prog w=.ok false w:=by
  unfold Op.equal;rw[hd];unfold Op.equalIn;simp only[XH,Xt underlying166,Xs];simp
 simp only[binOp];simp[h]
section
variable {B:Wd->Prop}{St:ManD->Prop}{QO:Nat->Own->Wd->ManD->(Nat->BF)->Prop}{QP:Own->Wd->ManD->(Nat->BF)->Prop}{Q:Wd->ManD->(Nat->BF)->Prop}{E:Int->ManD->ManD->Prop}
def OpLN (K:Law)(n:Nat)(Od:List Nat->Prop)(room:Nat)(w0:Wd)(mb:Nat)(fs:List (Int×BF))(nx:Int)(C:Nat->Prop)(B:Wd->Prop)(St:ManD->Prop)(gop:Nat)(lop:Array Value)(Q:Nat->Own->Wd->ManD->(Nat->BF)->Prop)(E:Int->ManD->ManD->Prop):Prop :=
 ∀ (o:Own) (W:Wd) (m:ManD) (V:Nat->BF) (xb:Nat),SatE K n Od room w0 mb fs nx W o m V->B W->(∀ k,C k->k<W.heap.size/\o k=none)->St m->AH o W xb mb->¬ C xb ->
  Calls prog gop (#[.pointer (some ⟨xb,0,none⟩)]++lop) W fun e w'=>∃ (o':Own) (m':ManD) (V':Nat->BF),Bu C K o W mb m V o' w' m' V'/\B w' /\
   ((e=.returned (.tuple #[])/\Q W.heap.size o' w' m' V') \/
    (∃ er:Int,e=Au er false ev0/\er≠0/\m'.waits=m.waits/\St m'/\E er m m') \/
    (∃ ev,e=Au 0 true ev/\m.waits=ev::m'.waits/\StE K n Od room w0 mb fs nx St m'/\HapG K n Od room w0 mb fs nx ev))
abbrev OpL (K:Law)(n:Nat)(Od:List Nat->Prop)(room:Nat)(w0:Wd)(mb:Nat)(fs:List (Int×BF))(nx:Int)(C:Nat->Prop)(B:Wd->Prop)(St:ManD->Prop)(gop:Nat)(lop:Array Value)(Q:Wd->ManD->(Nat->BF)->Prop)(E:Int->ManD->ManD->Prop):Prop:=OpLN K n Od room w0 mb fs nx C B St gop lop (fun _ _=>Q) E
def CV (W:Wd)(b:Nat):Prop:=∀ k d,W.cell? ⟨b,k,none⟩≠some (.int .u32 d)
structure EB (K:Law)(n:Nat)(Od:List Nat->Prop)(room:Nat)(w0:Wd)(mb:Nat)(fs:List (Int×BF))(nx:Int)(C:Nat->Prop)(B:Wd->Prop)(St:ManD->Prop)(o0:Own)(w:Wd)(k:Nat)(full:Bool)(W:Wd)(o:Own)(m:ManD)(V:Nat->BF):Prop where
 sat:SatE K n Od room w0 mb fs nx W o m V
 bok:B W
 st:St m
 len:m.waits.length=k
 cok:∀ c,C c->c<w.heap.size/\o c=none
 chg:ChgX C o0 o w W
 clean:full=true->m.d.dead=0
def Jm (K:Law)(n:Nat)(Od:List Nat->Prop)(room:Nat)(w0:Wd)(mb:Nat)(fs:List (Int×BF))(nx:Int)(C:Nat->Prop)(B:Wd->Prop)(Q:Own->Wd->ManD->(Nat->BF)->Prop)(E:Int->ManD->ManD->Prop)(o0:Own)(w:Wd)(er:Int)(W:Wd):Prop :=
 ∃ o m V,SatE K n Od room w0 mb fs nx W o m V/\B W/\ChgX C o0 o w W/\((er=0/\Q o W m V)\/(er≠0/\∃ m0:ManD,E er m0 m/\(er=7->m0.d.dead=0)))
abbrev Tt (K:Law)(n:Nat)(Od:List Nat->Prop)(room:Nat)(w0:Wd)(mb:Nat)(fs:List (Int×BF))(nx:Int)(C:Nat->Prop)(B:Wd->Prop)(Q:Wd->ManD->(Nat->BF)->Prop)(E:Int->ManD->ManD->Prop)(o0:Own)(w:Wd)(er:Int)(W:Wd):Prop:=Jm K n Od room w0 mb fs nx C B (fun _=>Q) E o0 w er W
theorem Tu (hB:∀ W W',B W->(∀ c,C c->W'.heap[c]?=W.heap[c]?)->B W')(hQ:∀ s o W W' m V,(∀ c,C c->c<s)->s+3<=W.heap.size->CV W s/\CV W (s+1)->QO (s+3) o W m V->Ali s W W'->QP o W' m V)(hSt:∀ (m:ManD) (d:Ae),St m->AC m.d d->St { m with d:=d })(hC0:∀ c,C c->w0.heap.size<=c)(eg:∀ args w,(callFunc gop args).run prog w=.ok (.enter gop args) w)
 (hop:OpLN K n Od room w0 mb fs nx C B St gop lop QO E) {o:Own} {w:Wd} {m:ManD} {V:Nat->BF} (h:SatE K n Od room w0 mb fs nx w o m V) (hb:B w) (hC:∀ c,C c->c<w.heap.size/\o c=none) (hst:St m) :
 Calls prog 141 #[Pt mb,.func (.func gop) #[] lop] w fun x w'=>∃ er,x=.returned (.int .i64 er)/\Jm K n Od room w0 mb fs nx C B QP E o w er w':=by
 have hw0:=h.chg.size;have g7:∀ {k full W W' o1 m1 V1},EB K n Od room w0 mb fs nx C B St o w k full W o1 m1 V1->∀ {s:Nat},w.heap.size<=s->o1 s=none->o1 (s+1)=none->Ali s W W'->EB K n Od room w0 mb fs nx C B St o w k full W' o1 m1 V1:=by
  intro k full W W' o1 m1 V1 hi s hs n0 n1 a;have hk:∀ k,k<w.heap.size->W'.heap[k]?=W.heap[k]?:=fun k hk=>a.keep k (by have:=hi.chg.size;omega) (by omega)
  refine⟨hi.sat.other a (fun k _ e=>?_),hB _ _ hi.bok (fun c hc=>hk c (hi.cok c hc).1),hi.st,hi.len,hi.cok,hi.chg.trans (ChgX.of_wr (C:=fun k=>w.heap.size<=k) a o1 (fun k _ e=>by omega)) (fun k hk e=>by omega),hi.clean⟩;rcases e with rfl|rfl
  . exact⟨by omega,n0⟩
  . exact⟨by omega,n1⟩
 have gc:∀ {k full full' W W' o1 m1 V1 o2 m2 V2},EB K n Od room w0 mb fs nx C B St o w k full W o1 m1 V1->SatE K n Od room w0 mb fs nx W' o2 m2 V2->ChgX NoB o1 o2 W W'->m2.waits=m1.waits->St m2->(full'=true->m2.d.dead=0)->EB K n Od room w0 mb fs nx C B St o w k full' W' o2 m2 V2:=by
  intro k full full' W W' o1 m1 V1 o2 m2 V2 hi gm hc e1 e2 e3;have go:=hi.chg.size;exact⟨gm,hB _ _ hi.bok (fun c g8=>hc.block c (by have:=(hi.cok c g8).1;omega) (hi.cok c g8).2 (fun e=>e)),e2,by rw[e1];exact hi.len,fun c g8=>⟨(hi.cok c g8).1,hc.none' (by have:=(hi.cok c g8).1;omega) (hi.cok c g8).2⟩,hi.chg.trans hc (fun _ _ e=>e.elim),e3⟩
 refine KW mb _ _ _ eg (fun k full W=>∃ o1 m1 V1,EB K n Od room w0 mb fs nx C B St o w k full W o1 m1 V1) _ ?_ m.waits.length ⟨o,m,V,h,hb,hst,rfl,hC,ChgX.of_below (Xd _ _) o C,by simp⟩;rintro k full W ⟨o1,m1,V1,hi⟩;have go:=hi.chg.size;obtain⟨s,hs⟩:=Ex W.heap.size
 refine⟨fun st W1=>match st with
  | none=>∃ (o':Own) (m':ManD) (V':Nat->BF),SatE K n Od room w0 mb fs nx W1 o' m' V'/\B W1/\ChgX C o o' w W1/\s+3<=W1.heap.size/\(∀ q,w.heap.size<=q->q<s+3->o1 q=none->o' q=none)/\(CV W1 s/\CV W1 (s+1))/\QO (s+3) o' W1 m' V'
  | some (er,evt,ev)=>∃ (o':Own) (m':ManD) (V':Nat->BF),EB K n Od room w0 mb fs nx C B St o w m'.waits.length false W1 o' m' V'/\s+3<=W1.heap.size/\(∀ q,w.heap.size<=q->q<s+3->o1 q=none->o' q=none) /\
   ((evt=false/\er≠0/\m'.waits=m1.waits/\E er m1 m')\/(evt=true/\m1.waits=ev::m'.waits/\StE K n Od room w0 mb fs nx St m'/\HapG K n Od room w0 mb fs nx ev)),?_,?_,?_,?_,?_⟩
 ·unfold Fe;have gd:Bw W (tryW mb W):=((Af _ _).alloc (by simp) _).alloc (by simp;omega) _;have gh:(tryW mb W).heap.size=W.heap.size+3:=by unfold tryW;simp
  obtain⟨T,hT⟩:=Ex (tryW mb W);have h1:(tryW mb W).heap[W.heap.size+2]?=some (.cells #[.pointer (some ⟨mb,0,none⟩)] 212 (0,0)):=by
   have:=WN ((W.alloc (.cells #[.int .i64 0,.bool false,.int .i64 0,.int .i64 0,.int .i64 0] 214)).alloc (.cells #[.bool false] 4)) (.cells #[.pointer (some ⟨mb,0,none⟩)] 212);rw[WV,WV] at this;exact this
  have gj:CV (tryW mb W) W.heap.size:=fun k d hd=>by
   have e:(tryW mb W).heap[W.heap.size]?=some (.cells #[.int .i64 0,.bool false,.int .i64 0,.int .i64 0,.int .i64 0] 214 (0,0)) :=
    (WT _ _ (by simp;omega)).trans ((WT _ _ (by simp)).trans (WN _ _))
   rw[WQ _ _ _ _ _ _ e] at hd;rcases(show k=0\/k=1\/k=2\/k=3\/k=4\/5<=k by omega) with rfl|rfl|rfl|rfl|rfl|hk
   . simp at hd
   . simp at hd
   . simp at hd
   . simp at hd
   . simp at hd
   . rw[YH (by simpa using hk)] at hd;cases hd
  have gi:CV (tryW mb W) (W.heap.size+1):=fun k d hd=>by
   have e0:=WN (W.alloc (.cells #[.int .i64 0,.bool false,.int .i64 0,.int .i64 0,.int .i64 0] 214)) (.cells #[.bool false] 4);rw[WV] at e0;have e:(tryW mb W).heap[W.heap.size+1]?=some (.cells #[.bool false] 4 (0,0)) :=
    (WT _ _ (by simp)).trans e0
   rw[WQ _ _ _ _ _ _ e] at hd;rcases(show k=0\/1<=k by omega) with rfl|hk
   . simp at hd
   . rw[YH (by simpa using hk)] at hd;cases hd
  rw[<- hT] at gd gh h1 gj gi ⊢;clear hT;have g6:=hi.sat.below gd;have gr:AH o1 T (W.heap.size+2) mb:=⟨cell1 h1,hi.sat.lt.none (by omega)⟩;have gl:∀ q,w.heap.size<=q->¬ C q:=fun q hq e=>by have:=(hi.cok q e).1;omega
  have ga:∀ {o':Own} {w1:Wd},ChgX C o1 o' T w1->∀ q,w.heap.size<=q->q<s+3->o1 q=none->w1.heap[q]?=T.heap[q]?:=fun hc q h1 h2 h3=>hc.block q (by omega) h3 (gl q h1)
  have n0:o1 W.heap.size=none:=hi.sat.lt.none (WM _);have n1:o1 (W.heap.size+1)=none:=hi.sat.lt.none (by omega);refine(hop o1 T m1 V1 (W.heap.size+2) g6 (hB _ _ hi.bok (fun c hc=>gd.block c (by have:=(hi.cok c hc).1;omega))) (fun c hc=>⟨by have:=(hi.cok c hc).1;omega,(hi.cok c hc).2⟩) hi.st gr (gl _ (by omega))).mono ?_;rintro e w1 ⟨o',m',V',st,b1,gg⟩;have gu:=st.chg.size;have gf:=(hi.chg.trans (ChgX.of_below gd o1 C) (fun _ _ e=>e)).trans st.chg (fun _ _ e=>e);refine⟨by omega,ga st.chg _ (by omega) (by omega) n0,ga st.chg _ (by omega) (by omega) n1,?_⟩;have g9:∀ q,w.heap.size<=q->q<s+3->o1 q=none->o' q=none:=fun q _ h2 h3=>st.chg.none' (by omega) h3
  have ge:∀ c,C c->c<w.heap.size/\o' c=none:=fun c hc=>⟨(hi.cok c hc).1,st.chg.none' (by have:=(hi.cok c hc).1;omega) (hi.cok c hc).2⟩
  rcases gg with ⟨rfl,q1⟩|⟨er,rfl,q1,q2,q3,q4⟩|⟨ev,rfl,q1,q2,q3⟩
  ·have hu:∀ {q:Nat},q<s+3->w.heap.size<=q->o1 q=none->CV T q->CV w1 q:=fun h2 h1 h3 hn k d hd=>hn k d (by
    have e:=ga st.chg _ h1 h2 h3;exact(Xz (w:=T) (a:=⟨_,k,none⟩) e).symm.trans hd)
   exact .inl ⟨rfl,o',m',V',g6.step st hC0,b1,gf,by omega,g9,⟨by rw[hs];exact hu (by omega) (by omega) n0 gj,by rw[hs];exact hu (by omega) (by omega) n1 gi⟩,by rw[hs,<- gh];exact q1⟩
  . exact .inr ⟨er,false,ev0,rfl,o',m',V',⟨g6.step st hC0,b1,q3,rfl,ge,gf,by simp⟩,by omega,g9,.inl ⟨rfl,q1,q2,q4⟩⟩
  . exact .inr ⟨0,true,ev,rfl,o',m',V',⟨g6.step st hC0,b1,q2 _ _ _ _ (g6.step st hC0) rfl rfl (.inl (WM _)),rfl,ge,gf,by simp⟩,by omega,g9,.inr ⟨rfl,q1,q2,q3⟩⟩
 ·rintro W1 W2 ⟨o',m',V',a1,a2,a3,a4,a5,au,a8⟩ al;rw[<- hs] at al;have n0:o' s=none:=a5 s (by omega) (by omega) (by rw[hs];exact hi.sat.lt.none (WM _));have n1:o' (s+1)=none:=a5 (s+1) (by omega) (by omega) (by rw[hs];exact hi.sat.lt.none (by omega));have hk:∀ c,C c->W2.heap[c]?=W1.heap[c]?:=fun c hc=>al.keep c (by have:=(hi.cok c hc).1;omega) (by have:=(hi.cok c hc).1;omega)
  refine⟨o',m',V',a1.other al (fun k _ e=>?_),hB _ _ a2 hk,a3.trans (ChgX.of_wr (C:=fun k=>w.heap.size<=k) al o' (fun k _ e=>by omega)) (fun k hk e=>by omega),.inl ⟨rfl,hQ s _ _ _ _ _ (fun c hc=>by have:=(hi.cok c hc).1;omega) a4 au a8 al⟩⟩;rcases e with rfl|rfl
  . exact⟨by omega,n0⟩
  . exact⟨by omega,n1⟩
 ·rintro er ev W1 W2 ⟨o',m',V',gb,a4,a5,(⟨h1,_⟩|⟨_,gq,gn,gs⟩)⟩ al
  . cases h1
  rw[<- hs] at al;have n0:o' s=none:=a5 s (by omega) (by omega) (by rw[hs];exact hi.sat.lt.none (WM _));have n1:o' (s+1)=none:=a5 (s+1) (by omega) (by omega) (by rw[hs];exact hi.sat.lt.none (by omega));have g0:=g7 gb (by omega) n0 n1 al;refine(gs o' W2 m' V' g0.sat).mono ?_;rintro x w' ⟨rfl,o2,m2,V2,g1,g2,g3,g5,g4⟩;exact⟨rfl,m'.waits.length,by rw[<- hi.len,gq];simp,o2,m2,V2,gc g0 g1 g4 g2 (gn _ _ _ _ g1 g2 g3 g5) (by simp)⟩
 ·rintro ev W1 W2 ⟨o',m',V',gb,a4,a5,(⟨_,_,hw,_⟩|⟨h1,_⟩)⟩ al gt
  . rw[<- hs] at al;have n0:o' s=none:=a5 s (by omega) (by omega) (by rw[hs];exact hi.sat.lt.none (WM _));have n1:o' (s+1)=none:=a5 (s+1) (by omega) (by omega) (by rw[hs];exact hi.sat.lt.none (by omega));have g0:=g7 gb (by omega) n0 n1 al;refine(Lj g0.sat).mono ?_;rintro x w' ⟨rfl,o2,d2,g1,g2,g3⟩;have gk:=gc (full':=true) g0 g1 (ChgX.of_chg g3 NoB) rfl (hSt _ _ g0.st g2) (fun _=>g2.dead);rw[hw,hi.len] at gk;exact⟨⟨_,rfl⟩,o2,_,V',gk⟩
  . cases h1
 ·rintro er ev W1 W2 ⟨o',m',V',gb,a4,a5,(⟨_,h0,hw,hE⟩|⟨h1,_⟩)⟩ al gp
  ·rw[<- hs] at al;have n0:o' s=none:=a5 s (by omega) (by omega) (by rw[hs];exact hi.sat.lt.none (WM _));have n1:o' (s+1)=none:=a5 (s+1) (by omega) (by omega) (by rw[hs];exact hi.sat.lt.none (by omega));have g0:=g7 gb (by omega) n0 n1 al;refine⟨o',m',V',g0.sat,g0.bok,g0.chg,.inr ⟨h0,m1,hE,fun e7=>hi.clean ?_⟩⟩;cases full with
   | true=>rfl
   | false=>exact(gp ⟨e7,rfl⟩).elim
  . cases h1
theorem Jn (hB:∀ W W',B W->(∀ c,C c->W'.heap[c]?=W.heap[c]?)->B W')(hQ:∀ s o W W' m V,(∀ c,C c->c<s)->s+3<=W.heap.size->CV W s/\CV W (s+1)->QO (s+3) o W m V->Ali s W W'->QP o W' m V)(hSt:∀ (m:ManD) (d:Ae),St m->AC m.d d->St { m with d:=d })(hC0:∀ c,C c->w0.heap.size<=c)(eg:∀ args w,(callFunc gop args).run prog w=.ok (.enter gop args) w)
 (hop:OpLN K n Od room w0 mb fs nx C B St gop lop QO E) {o:Own} {w:Wd} {m:ManD} {V:Nat->BF} (h:SatE K n Od room w0 mb fs nx w o m V) (hb:B w) (hC:∀ c,C c->c<w.heap.size/\o c=none) (hst:St m) :
 Calls prog 96 #[Pt mb,.func (.func gop) #[] lop] w fun x w'=>∃ er,x=.returned (.int .i64 er)/\Jm K n Od room w0 mb fs nx C B QP E o w er w':=by
 have g0:=Hd (Tu hB hQ hSt hC0 eg hop h hb hC hst);have g1:=Ts w (.func gop) #[] lop;clear h hb hB hQ hSt hC0 hop hC hst
 delta Pt;go_enter func96,ntmps96
 go_wp2_with fail;refine g0.o.mono ?_;rintro x w1 ⟨er,rfl,hf⟩;have HF:=Hd hf;clear hf g0;go_wp2_with fail;go_ret;exact⟨er,rfl,HF.o⟩
theorem Tv (hB:∀ W W',B W->(∀ c,C c->W'.heap[c]?=W.heap[c]?)->B W')(hQ:∀ W W' m V,Q W m V->(∀ c,C c->W'.heap[c]?=W.heap[c]?)->Q W' m V)(hSt:∀ (m:ManD) (d:Ae),St m->AC m.d d->St { m with d:=d })(hC0:∀ c,C c->w0.heap.size<=c)(eg:∀ args w,(callFunc gop args).run prog w=.ok (.enter gop args) w)
 (hop:OpL K n Od room w0 mb fs nx C B St gop lop Q E) {o:Own} {w:Wd} {m:ManD} {V:Nat->BF} (h:SatE K n Od room w0 mb fs nx w o m V) (hb:B w) (hC:∀ c,C c->c<w.heap.size/\o c=none) (hst:St m) :
 Calls prog 96 #[Pt mb,.func (.func gop) #[] lop] w fun x w'=>∃ er,x=.returned (.int .i64 er)/\Tt K n Od room w0 mb fs nx C B Q E o w er w' :=
 Jn (QO:=fun _ _=>Q) (QP:=fun _=>Q) hB (fun s o W W' m V hc hz _ h a=>hQ W W' m V h fun c hc'=>by have:=hc c hc';exact a.keep c (by omega) (by omega)) hSt hC0 eg hop h hb hC hst
end
theorem Bu.write {D:Nat->Prop}{o:Own}(h:Bu C K o w mb m V o' w' m' V')(hw:Wr D w' w'')(hD:∀ k,D k->C k/\o k=none/\k<w.heap.size):Bu C K o w mb m V o' w'' m' V':=by
 obtain⟨s,hm⟩:=h.is;refine⟨⟨s,hm.keep (fun g r hg=>hw.keep g (h.lt g r hg) (fun e=>?_)) (fun _ _ h=>h)⟩,h.lt.mono hw.size,h.chg.trans (ChgX.of_wr (C:=D) hw o' (fun _ _ e=>e)) (fun k _ e=>(hD k e).1),h.ok,h.ext,h.hs,h.next⟩;have:=h.chg.none' (hD g e).2.2 (hD g e).2.1;rw[this] at hg;cases hg
structure ArgL (fs:List (Int×BF))(w0 w:Wd)(o:Own)(a:Option Addr)(ks:List Int)(Fs:List BF):Prop where
 z:An w a ks
 own:∀ x,a=some x->x.block<w.heap.size/\w0.heap.size<=x.block/\o x.block=none
 len:Fs.length=ks.length
 mem:∀ i (h:i<ks.length),(ks[i],Fs[i]'(by omega))∈fs
section
variable {o:Own}
theorem Tw (hK:A5 K)(h:SatE K n (fun _=>True) room w0 mb fs nx w o m V){a:Option Addr}(hl:ArgL fs w0 w o a ks Fs)(hst:m.waits <:+ ws0)(hn:nx<=549755813888)(hr:fs.length*2^n+ks.length*(2^n-1)<=room) :
 Calls prog 89 #[Pt mb,.slice a ks.length c] w (NewF K n room w0 mb fs nx ws0 (Cl orF (DE 1) Fs) o w):=by
 have HC:=Hd (Tr (c:=c) hK (Tm hK) Tq h (e0:=1) rfl hl.z hl.own hl.len hl.mem hst hn hr);clear h hK hl hst hn hr;obtain⟨P,hP⟩:=Ex (NewF K n room w0 mb fs nx ws0 (Cl orF (DE 1) Fs) o w);rw[<- hP] at HC ⊢;have HT:Hq (∀ x w',P x w'->∃ a b,x=.returned (.tuple #[.int .i64 a,.int .i64 b])):=Hd (by subst hP;rintro x w' ⟨rfl,_⟩;exact⟨_,_,rfl⟩);clear hP
 delta Pt;go_enter func89,ntmps89
 go_wp2_with fail;refine HC.o.mono ?_;intro x w' hd;obtain⟨a,b,rfl⟩:=HT.o x w' hd;have HD:=Hd hd;clear hd;go_wp2_with fail;exact HD.o
end
theorem Eh (W:Wd)(zs:List Int)(hl:zs.length<=1000000):An (W.alloc (.cells (As zs).toArray 3)) (some ⟨W.heap.size,0,none⟩) zs :=
 ⟨by omega,fun k hk=>⟨W.heap.size,0,rfl,by
  rw[Xw,WQ _ _ k _ _ _ (WN _ _)];simp[As,AI hk,hk]⟩⟩
section
variable {o:Own}
def Goes (K:Law)(n:Nat)(Od:List Nat->Prop)(room:Nat)(w0:Wd)(mb:Nat)(fs:List (Int×BF))(nx:Int)(Wt:List Ev->Int->Nat->Prop)(o:Own)(w w':Wd):Prop :=
 ∃ o' m' V',ChgX NoB o o' w w'/\Wt m'.waits m'.calls m'.d.pool.many/\SatE K n Od room w0 mb fs nx w' o' m' V'
def NoW (M:Nat)(ws:List Ev)(_:Int)(k:Nat):Prop:=ws=[]/\k<=M
abbrev W2 (Wt:List Ev->Int->Prop):List Ev->Int->Nat->Prop:=fun ws c _=>Wt ws c
theorem Goes.more {M M':Nat}(h:Goes K n Od room w0 mb fs nx (NoW M) o w w')(hm:M<=M'):Goes K n Od room w0 mb fs nx (NoW M') o w w':=by
 obtain⟨o',m',V',h1,h2,h3⟩:=h;exact⟨o',m',V',h1,⟨h2.1,WU h2.2 hm⟩,h3⟩
theorem Goes.below {Wt:List Ev->Int->Nat->Prop}{w'':Wd}(h:Goes K n Od room w0 mb fs nx Wt o w w')(hb:Bw w' w''):Goes K n Od room w0 mb fs nx Wt o w w'':=by
 obtain⟨o',m',V',h1,h2,h3⟩:=h;exact⟨o',m',V',h1.trans (CE hb o') (fun _ _ e=>e),h2,h3.below hb⟩
theorem Jo (hK:A5 K){M:Nat}(h:Goes K n Od room w0 mb fs nx (NoW M) o w w')(hn:nx<549755813888)(hr:M+(2^n-1)<=room){kg kh:Int}{H:BF}(hf:(kf,F)∈fs)(hg:(kg,G)∈fs)(hh:(kh,H)∈fs) :
 Calls prog 59 #[Pt mb,.int .i64 kf,.int .i64 kg,.int .i64 kh] w' fun x w''=>x=.returned (.tuple #[.int .i64 nx,.int .i64 0])/\Goes K n Od room w0 mb (fs++[(nx,AV F G H)]) (nx+1) (NoW (M+(2^n-1))) o w w'':=by
 obtain⟨o',m',V',h1,h2,h3⟩:=h;refine(Rf hK h3 [] (by rw[h2.1];exact List.suffix_refl _) (some M) (fun _ e=>by cases e;exact⟨rfl,hr⟩) (fun _ e=>by cases e;exact h2.2) (by simp) (by omega) hf hg hh).mono ?_;rintro x w'' hp;obtain⟨o2,m2,V2,q1,q2,q3,q4⟩:=Md hp;exact⟨q3,o2,m2,V2,h1.trans q1 (fun _ _ e=>e),q2,q4⟩
theorem Tx (hK:A5 K){M:Nat}(h:Goes K n Od room w0 mb fs nx (NoW M) o w w')(hn:nx<549755813888)(hr:M+1<=room){v:Nat}(hv:v<n) :
 Calls prog 58 #[Pt mb,.int .i64 v] w' fun x w''=>x=.returned (.tuple #[.int .i64 nx,.int .i64 0])/\Goes K n Od room w0 mb (fs++[(nx,varF v)]) (nx+1) (NoW (M+1)) o w w'':=by
 obtain⟨o',m',V',h1,h2,h3⟩:=h;refine(Lm hK h3 [] (by rw[h2.1];exact List.suffix_refl _) (some M) (fun _ e=>by cases e;exact⟨rfl,hr⟩) (fun _ e=>by cases e;exact h2.2) (by simp) (by omega) v hv).mono ?_;rintro x w'' hp;obtain⟨o2,m2,V2,q1,q2,q3,q4⟩:=Md hp;exact⟨q3,o2,m2,V2,h1.trans q1 (fun _ _ e=>e),q2,q4⟩
theorem M4 (hK:A5 K){Wt:List Ev->Int->Nat->Prop}(h:Goes K n Od room w0 mb fs nx Wt o w w')(hn:nx<549755813888){k:Int}(hf:(k,F)∈fs) :
 Calls prog 16 #[Pt mb,.int .i64 k] w' fun x w''=>x=.returned (.tuple #[.int .i64 nx,.int .i64 0])/\Goes K n Od room w0 mb (fs++[(nx,notF F)]) (nx+1) Wt o w w'':=by
 obtain⟨o',m',V',h1,h2,h3⟩:=h;refine(S0 hK h3 hn hf).mono ?_;rintro x w'' ⟨rfl,o2,m2,q⟩;exact⟨rfl,o2,m2,V',h1.trans (ChgX.of_chg q.chg NoB) (fun _ _ e=>e),by rw[q.waits,q.calls,q.many];exact h2,q.sat⟩
theorem Gv (hK:A5 K){Wt:List Ev->Int->Nat->Prop}(h:Goes K n Od room w0 mb fs nx Wt o w w')(hn:nx<549755813888){k:Int}(hf:(k,F)∈fs) :
 Calls prog 62 #[Pt mb,.int .i64 k] w' fun x w''=>x=.returned (.tuple #[.int .i64 nx,.int .i64 0])/\Goes K n Od room w0 mb (fs++[(nx,F)]) (nx+1) Wt o w w'':=by
 obtain⟨o',m',V',h1,h2,h3⟩:=h;refine(LR hK h3 hn hf).mono ?_;rintro x w'' ⟨rfl,o2,m2,q⟩;exact⟨rfl,o2,m2,V',h1.trans (ChgX.of_chg q.chg NoB) (fun _ _ e=>e),by rw[q.waits,q.calls,q.many];exact h2,q.sat⟩
theorem Gw (hK:A5 K){Wt:List Ev->Int->Nat->Prop}{r:List (Int×BF)}(h:Goes K n Od room w0 mb (fs++(hs++r)) nx Wt o w w')(hb:B2 fs)(hn:nx<549755813888)(hl:hs.length<=1000){T:Wd}(hT:T=w'.alloc (.cells (As (hs.map Prod.fst)).toArray 3)) :
 Calls prog 65 #[Pt mb,.slice (some ⟨w'.heap.size,0,none⟩) hs.length hs.length] T fun x w''=>x=.returned (.int .i64 0)/\Goes K n Od room w0 mb (fs++r) nx Wt o w w'':=by
 obtain⟨o',m',V',h1,h2,h3⟩:=h;subst hT;have g0:=Af w' (.cells (As (hs.map Prod.fst)).toArray 3);refine(Mc hK (h3.below g0) hb hn (Eh w' (hs.map Prod.fst) (by simp;omega)) (fun x hx=>by cases hx;exact h3.lt.none (WM _))).mono ?_;rintro x w'' ⟨rfl,o2,m2,q⟩;exact⟨rfl,o2,m2,V',(h1.trans (CE g0 o') (fun _ _ e=>e)).trans (ChgX.of_chg q.chg NoB) (fun _ _ e=>e),by rw[q.waits,q.calls,q.many];exact h2,q.sat⟩
theorem M5 (hK:A5 K){a b:Int}{M:Nat}(h:Goes K n Od room w0 mb (fs++[(a,F),(b,G)]) nx (NoW M) o w w')(hb:B2 fs)(hn:nx+2<549755813888)(hr:M+(2^n-1)<=room)(h5:5<=op)(h9:op<=9) :
 Calls prog 64 #[Pt mb,.int .i64 op,.int .i64 a,.int .i64 b] w' fun x w''=>∃ k:Int,x=.returned (.tuple #[.int .i64 k,.bool true])/\k<=nx+1/\Goes K n Od room w0 mb (fs++[(k,DC op F G)]) (k+1) (NoW (M+(2^n-1))) o w w'':=by
 obtain⟨M',ga⟩:=Ex (M+(2^n-1));have g5:Hq (∀ c d e A B C,(c,A)∈fs++[(a,F),(b,G)]->(d,B)∈fs++[(a,F),(b,G)]->(e,C)∈fs++[(a,F),(b,G)]->Calls prog 59 #[Pt mb,.int .i64 c,.int .i64 d,.int .i64 e] w' fun x w''=>x=.returned (.tuple #[.int .i64 nx,.int .i64 0])/\Goes K n Od room w0 mb (fs++[(a,F),(b,G)]++[(nx,AV A B C)]) (nx+1) (NoW (M+(2^n-1))) o w w'') :=
  Hd fun c d e A B C h1 h2 h3=>Jo hK h (by omega) hr h1 h2 h3
 have g6:=Hd (M4 hK h (by omega) (k:=b) (F:=G) (by simp))
 have g0:Hq (∀ W,Goes K n Od room w0 mb (fs++[(a,F),(b,G)]++[(nx,notF G)]) (nx+1) (NoW M) o w W->∀ c d e A B C,(c,A)∈fs++[(a,F),(b,G)]++[(nx,notF G)]->(d,B)∈fs++[(a,F),(b,G)]++[(nx,notF G)]->(e,C)∈fs++[(a,F),(b,G)]++[(nx,notF G)] ->
  Calls prog 59 #[Pt mb,.int .i64 c,.int .i64 d,.int .i64 e] W fun x w''=>x=.returned (.tuple #[.int .i64 (nx+1),.int .i64 0])/\Goes K n Od room w0 mb (fs++[(a,F),(b,G)]++[(nx,notF G)]++[(nx+1,AV A B C)]) (nx+1+1) (NoW (M+(2^n-1))) o w w'') :=
  Hd fun W hW c d e A B C h1 h2 h3=>Jo hK hW (by omega) hr h1 h2 h3
 have g7:Hq (∀ W H T,Goes K n Od room w0 mb (fs++[(a,F),(b,G)]++[(nx,notF G)]++[(nx+1,H)]) (nx+1+1) (NoW M') o w W->T=W.alloc (.cells #[.int .i64 nx] 3)->Calls prog 65 #[Pt mb,.slice (some ⟨W.heap.size,0,none⟩) 1 1] T fun x w''=>x=.returned (.int .i64 0)/\Goes K n Od room w0 mb (fs++[(a,F),(b,G)]++[(nx+1,H)]) (nx+1+1) (NoW M') o w w'') :=
  Hd fun W H T hW hT=>Gw hK (hs:=[(nx,notF G)]) (r:=[(nx+1,H)]) (by rw[Xf] at hW;exact hW) (hb.app _) (by omega) (by simp) hT
 have g8:Hq (∀ W k H T,k+1<549755813888->Goes K n Od room w0 mb (fs++[(a,F),(b,G)]++[(k,H)]) (k+1) (NoW M') o w W->T=W.alloc (.cells #[.int .i64 a,.int .i64 b] 3)->Calls prog 65 #[Pt mb,.slice (some ⟨W.heap.size,0,none⟩) 2 2] T fun x w''=>x=.returned (.int .i64 0)/\Goes K n Od room w0 mb (fs++[(k,H)]) (k+1) (NoW M') o w w'') :=
  Hd fun W k H T hk hW hT=>Gw hK (hs:=[(a,F),(b,G)]) (r:=[(k,H)]) (by rw[Xf] at hW;exact hW) hb (by omega) (by simp) hT
 have m0:(0,fun _=>false)∈fs++[(a,F),(b,G)]:=Yb _ hb.zero;have m1:(1,fun _=>true)∈fs++[(a,F),(b,G)]:=Yb _ hb.one;have ma:(a,F)∈fs++[(a,F),(b,G)]:=by simp
 have mb':(b,G)∈fs++[(a,F),(b,G)]:=by simp
 have pa:(a,F)∈fs++[(a,F),(b,G)]++[(nx,notF G)]:=by simp
 have pb:(b,G)∈fs++[(a,F),(b,G)]++[(nx,notF G)]:=by simp
 have pn:(nx,notF G)∈fs++[(a,F),(b,G)]++[(nx,notF G)]:=by simp
 rw[<- ga] at g5 g0 ⊢;clear h hb hr hK ga;rcases(show op=5\/op=6\/op=7\/op=8\/op=9 by omega) with rfl|rfl|rfl|rfl|rfl
 ·have HI:=Hd (g5.o a b 0 _ _ _ ma mb' m0);clear g5 g0 g6 g7
  delta Pt;go_enter func64,ntmps64
  go_wp2_with fail;refine HI.o.mono ?_;rintro x w1 ⟨rfl,g1⟩;have HD:=Hd (g8.o w1 nx _ _ (by omega) g1 rfl);clear g1 HI;go_wp2_with fail;refine HD.o.mono ?_;rintro x w2 ⟨rfl,g2⟩;have HG:=Hd g2;clear g2 HD;go_wp2_with fail
  go_ret2
  exact⟨nx,rfl,by omega,HG.o⟩
 ·have HI:=Hd (g5.o a 1 b _ _ _ ma m1 mb');clear g5 g0 g6 g7
  delta Pt;go_enter func64,ntmps64
  go_wp2_with fail;refine HI.o.mono ?_;rintro x w1 ⟨rfl,g1⟩;have HD:=Hd (g8.o w1 nx _ _ (by omega) g1 rfl);clear g1 HI;go_wp2_with fail;refine HD.o.mono ?_;rintro x w2 ⟨rfl,g2⟩;have HG:=Hd g2;clear g2 HD;go_wp2_with fail
  go_ret2
  exact⟨nx,rfl,by omega,HG.o⟩
 ·clear g5
  delta Pt;go_enter func64,ntmps64
  go_wp2_with fail;refine g6.o.mono ?_;rintro x w1 ⟨rfl,g1⟩;have HI:=Hd (g0.o w1 g1 a nx b _ _ _ pa pn pb);clear g1 g6 g0;go_wp2_with fail;refine HI.o.mono ?_;rintro x w2 ⟨rfl,g2⟩;have g9:=Hd (g7.o w2 _ _ g2 rfl);clear g2 HI g7;go_wp2_with fail;refine g9.o.mono ?_;rintro x w3 ⟨rfl,g3⟩;have HD:=Hd (g8.o w3 (nx+1) _ _ (by omega) g3 rfl);clear g3 g9;go_wp2_with fail;refine HD.o.mono ?_;rintro x w4 ⟨rfl,g4⟩;have HG:=Hd g4;clear g4 HD;go_wp2_with fail
  go_ret2
  exact⟨nx+1,rfl,by omega,HG.o⟩
 ·have HI:=Hd (g5.o a b 1 _ _ _ ma mb' m1);clear g5 g0 g6 g7
  delta Pt;go_enter func64,ntmps64
  go_wp2_with fail;refine HI.o.mono ?_;rintro x w1 ⟨rfl,g1⟩;have HD:=Hd (g8.o w1 nx _ _ (by omega) g1 rfl);clear g1 HI;go_wp2_with fail;refine HD.o.mono ?_;rintro x w2 ⟨rfl,g2⟩;have HG:=Hd g2;clear g2 HD;go_wp2_with fail
  go_ret2
  exact⟨nx,rfl,by omega,HG.o⟩
 ·clear g5
  delta Pt;go_enter func64,ntmps64
  go_wp2_with fail;refine g6.o.mono ?_;rintro x w1 ⟨rfl,g1⟩;have HI:=Hd (g0.o w1 g1 a b nx _ _ _ pa pb pn);clear g1 g6 g0;go_wp2_with fail;refine HI.o.mono ?_;rintro x w2 ⟨rfl,g2⟩;have g9:=Hd (g7.o w2 _ _ g2 rfl);clear g2 HI g7;go_wp2_with fail;refine g9.o.mono ?_;rintro x w3 ⟨rfl,g3⟩;have HD:=Hd (g8.o w3 (nx+1) _ _ (by omega) g3 rfl);clear g3 g9;go_wp2_with fail;refine HD.o.mono ?_;rintro x w4 ⟨rfl,g4⟩;have HG:=Hd g4;clear g4 HD;go_wp2_with fail
  go_ret2
  exact⟨nx+1,rfl,by omega,HG.o⟩
end
section
variable {o:Own}
theorem Ty (h:n<=16):2^n<=1000000:=WU (Xo (by omega) h) (by decide)
abbrev SufW (ws0:List Ev):List Ev->Int->Prop:=fun ws _=>ws <:+ ws0
end
def cofF (F:BF)(v:Nat)(b:Bool):BF:=fun ρ=>F fun u=>if u=v then b else ρ u
def AD (n:Nat)(F:BF)(v:Nat):Bool := !decide (tabB n (cofF F v false)=tabB n (cofF F v true))
def topR (n:Nat)(F:BF):List Nat->Int
 | []=>-1
 | v::l=>if AD n F v then (v:Nat) else topR n F l
theorem M6 {n:Nat}{F:BF}:∀ {l:List Nat},(∀ v∈l,AD n F v=false)->topR n F l = -1
 | [],_=>rfl
 | v::l,h=>by
   show (if AD n F v then ((v:Nat):Int) else topR n F l) = -1
   rw[h v (Xr ..)];exact M6 fun u hu=>h u (XB _ hu)
theorem Jp {n:Nat}{F:BF}:∀ (l:List Nat) (k:Nat),k<l.length->AD n F (l.getD k 0)=true->(∀ j,j<k->AD n F (l.getD j 0)=false)->topR n F l=(l.getD k 0:Nat)
 | [],k,hk,_,_=>by simp at hk
 | v::l,0,_,h,_=>by
   show (if AD n F v then ((v:Nat):Int) else topR n F l)=(v:Nat)
   have h':AD n F v=true:=h;rw[h',WR rfl]
 | v::l,k+1,hk,h,hj=>by
   show (if AD n F v then ((v:Nat):Int) else topR n F l)=_
   have h0:AD n F v=false:=hj 0 (by omega);rw[h0];have:=Jp l k (by simpa using hk) (by simpa using h) (fun j hjk=>by simpa using hj (j+1) (by omega));simpa using this
section
theorem Ai.dep (h:Ai d V)(hf:okE (Aa d) f):DepF d.vars.length (ef V f):=fun ρ ρ' hr=>h.dag.indep _ f (WM _) hf ρ ρ' fun v hv _=>hr v hv
theorem M7 (h:DepF n F)(v:Nat)(b:Bool):DepF n (cofF F v b):=fun ρ ρ' hr=>h _ _ fun u hu=>by
 show (if u=v then b else ρ u)=if u=v then b else ρ' u
 rw[hr u hu]
theorem Bq (F:BF)(v:Nat)(b:Bool)(ρ:Nat->Bool):cofF F v b ρ=F (upd ρ v b):=rfl
theorem Fq (h:DepF n F)(v:Nat):AD n F v=true↔cofF F v false≠cofF F v true:=by
 unfold AD;rw[Bool.not_eq_true',decide_eq_false_iff_not];exact⟨fun h1 e=>h1 (by rw[e]),fun h1 e=>h1 (Mx (M7 h v _) (M7 h v _) e)⟩
theorem Tz (h:Ai d V){v:Nat}(hf:okE (Aa d) f)(hl:levN d v<lvE d.vars.length (levN d) (Aa d) f):AD d.vars.length (ef V f) v=false:=by
 rw[<- Bool.not_eq_true,Fq (h.dep hf)];intro g0;refine g0 ?_;funext ρ;rw[Bq,Bq,h.dag.indep_var hf hl,h.dag.indep_var hf hl]
theorem M8 (V:Nat->BF)(f:Nat)(ρ:Nat->Bool):ef V f ρ=(if f%2=0 then V (f/2) ρ else !V (f/2) ρ):=by
 unfold ef;split<;>simp_all
theorem M9 (h:Ai d V){b:BN}(hb:Aa d (f/2)=some b):topR d.vars.length (ef V f) d.vars=(b.v:Nat)/\b.v<d.vars.length:=by
 have hf:okE (Aa d) f:=.inr ⟨b,hb⟩;have g1:=h.dag.var _ _ hb;have g2:=h.dag.lt _ g1;have g3:lvE d.vars.length (levN d) (Aa d) f=levN d b.v:=by unfold lvE;rw[hb]
 refine⟨?_,g1⟩;have g0:=h.inv b.v g1;rw[Jp d.vars (levN d b.v) g2 ?_ ?_,g0]
 ·rw[g0,Fq (h.dep hf)];intro he;have hc:ef V b.hi=ef V b.lo:=by
   funext ρ;have h1:=h.dag.cofs hb ρ;have h2:ef V f (upd ρ b.v false)=ef V f (upd ρ b.v true):=congrFun he ρ;rw[M8,M8,h1.1,h1.2] at h2;split at h2
   . exact h2.symm
   . have:=X3 not h2;simpa using this.symm
  have:=h.dag.canon (h.dag.okHi _ _ hb) (h.dag.okLo _ _ hb) hc;exact h.dag.ne _ _ hb this.symm
 . intro j hj;have h1:=h.vlt j (by omega);exact Tz h hf (by rw[g3,h1.2];exact hj)
end
theorem MA (h:0<=(Bb op).1):1<=op/\op<=10/\(Bb op).2<=64:=by
 unfold Bb at h ⊢;split
 . rename_i h1;exact⟨by omega,by omega,by simp⟩
 ·split
  . rename_i h1;exact⟨by omega,by omega,by simp⟩
  ·split
   . rename_i h1;exact⟨by omega,by omega,by simp⟩
   ·split
    . rename_i h1;exact⟨by omega,by omega,by simp⟩
    ·split
     . rename_i h1;exact⟨by omega,by omega,by simp⟩
     . exfalso;revert h;simp_all
theorem MB (f:Nat->Bool)(i:Nat):(List.range (i+1)).map f=(List.range i).map f++[f i]:=by simp[YI]
theorem Jq (l:List Bool)(b:Bool):AO (l++[b])=AO l++[.bool b]:=by simp[AO]
abbrev Yu:=@beq_eq_false_iff_ne
theorem tmod2 (c:Nat):((c:Int).tmod 2 == 1)=decide (c%2=1):=by
 have e1:Int.tmod (c:Int) 2=((c%2:Nat):Int):=by rw[YU (by omega)];rfl
 rw[e1]
 by_cases h:c%2=1
 . rw[h];rfl
 ·have:((c%2:Nat):Int)≠1:=by omega
  rw[Yu.2 this,X8 h]
theorem Jr (a b:Nat):(((a:Nat):Int) == (b:Int))=decide (a=b):=by
 by_cases h:a=b
 . subst h;simp
 ·have:(a:Int)≠b:=by omega
  rw[Yu.2 this,X8 h]
theorem MC (ls:List Bool)(al:Option Addr)(cl:Nat):∀ (e:ExT) (x:Value) (w:Wd),Gr e->A0 w e x->Cz w al ls ->
 Calls prog 130 #[x,.slice al ls.length cl] w (Bl (.bool (fnT e (A6 ls))) w)
 | .nil,x,w,hv,h,_=>by unfold A0 at h;exact h.elim
 | .mk op v n kid,x,w,hval,h,hls=>by
   unfold A0 at h;obtain⟨a,c,rfl,h2,h3,h4,h5⟩:=h;obtain⟨v1,v2,v3,v4,v5,v6⟩:=hval;obtain⟨k1,k2,k3⟩:=MA v1;have hn64:n<=64:=by omega
   have H5:=Hd h5;have H6:=Hd v6;have gp:=Hd hls;have gF:=hls.len;have HE:Hq (fnT (ExT.mk op v n kid) (A6 ls)=if op=3 then A6 ls v.toNat else opB op n fun i=>fnT (kid i) (A6 ls)):=Hd rfl;have IH:Hq (∀ (i:Nat) (x:Value) (W:Wd),i<n->A0 W (kid i) x->Cz W al ls->Calls prog 130 #[x,.slice al ls.length cl] W (Bl (.bool (fnT (kid i) (A6 ls))) W)) :=
    Hd fun i x W hi h1 h2=>MC ls al cl (kid i) x W (H6.o i hi) h1 h2
   obtain⟨B,hB⟩:=Ex (fnT (ExT.mk op v n kid) (A6 ls));obtain⟨f,hf⟩:=Ex (fun i=>fnT (kid i) (A6 ls):Nat->Bool)
   have gE:Hq (∀ i,fnT (kid i) (A6 ls)=f i):=Hd fun i=>by rw[hf]
   rw[<- hB] at HE ⊢;rw[<- hf] at HE;have gz:op=8\/op=9->n=2:=by rintro(rfl|rfl)<;>(simp[Bb] at v4 v5;omega)
   have gy:op=10->n=3:=by rintro rfl;simp[Bb] at v4 v5;omega
   have gG:op=4->n=1:=by rintro rfl;simp[Bb] at v4 v5;omega
   obtain⟨w1,ga⟩:=Ex (w.alloc (.cells #[.int .i64 op,.int .i64 v,.slice a n c] 36));have HW1:Hq (_=w1):=Hd ga.symm;have g5:Hq (Bw w w1):=by rw[ga];exact Hd (Af _ _)
   have g6:w1.heap[w.heap.size]?=some (.cells #[.int .i64 op,.int .i64 v,.slice a n c] 36 (0,0)):=by rw[ga];exact WN _ _
   have d0:w1.cell? ⟨w.heap.size,0,none⟩=some (.int .i64 op):=by rw[WQ _ _ 0 _ _ _ g6];rfl
   have d1:w1.cell? ⟨w.heap.size,1,none⟩=some (.int .i64 v):=by rw[WQ _ _ 1 _ _ _ g6];rfl
   have d2:w1.cell? ⟨w.heap.size,2,none⟩=some (.slice a n c):=by rw[WQ _ _ 2 _ _ _ g6];rfl
   unfold okI at h2 h3;obtain⟨w2,gb⟩:=Ex (w1.alloc (.cells #[] 4));have gB:Hq (_=w2):=Hd gb.symm;have HB2:Hq (Bw w1 w2):=by rw[gb];exact Hd (Af _ _)
   have gf:Hq (OwnB w2 w1.heap.size (.slice (some ⟨w1.heap.size,0,none⟩) 0 0) []):=by rw[gb];exact Hd (E6 _ _ _ (WM _))
   have hs1:w1.heap.size=w.heap.size+1:=by rw[ga];simp
   rw[hs1] at gf;clear h5 ga gb g6 hf hB v1 v4 v5 v6 hls
   go_enter func130,ntmps130
   go_upto_region 1 with fail;rw[HW1.o];go_upto_region 3 with fail;rw[gB.o];have gw:w1.heap.size<=w2.heap.size:=HB2.o.size;have d0':=Cq HB2.o d0;have d1':=Cq HB2.o d1;have d2':=Cq HB2.o d2;go_wp2_with fail
   go_loopw [5,6,7,8] (fun s5 s6 s7 s8 wr=>∃ i k:Nat,i<=n/\k<=i/\s5=.int .i64 k/\s7=.int .i64 i/\Hq (k=cntT i f)/\Bw w1 wr/\OwnB wr w1.heap.size s6 ((List.range i).map f)/\w1.heap.size<=wr.heap.size) (fun _ _ s7 _ _=>n-(intOf s7).toNat)
   case atStart=>exact⟨0,0,WX _,WM _,rfl,rfl,Hd rfl,HB2.o,by rw[hs1];exact gf.o,gw⟩
   case round =>
    obtain⟨i,k,hi,gH,rfl,rfl,HK,g2,g0,gv⟩:=hrel;have e0:=Cq g2 d0;have e1:=Cq g2 d1;have e2:=Cq g2 d2;have g3:=Hd g2;have gC:=Hd g0;clear g2 d0' d1' d2'
    by_cases gx:i<n
    ·clear g0;obtain⟨b,off,x0,x1,x2,rfl,c0,c1,c2,hx⟩:=H5.o i gx;have g4:=g5.o.trans (g3.o.mono g5.o.size);have q0:=Cq g4 c0;have q1:=Cq g4 c1;have q2:=Cq g4 c2;have HX:=Hd (hx.below g4);have gD:=Hd (gp.o.below g4);have gA:(i:Int)<n:=by omega
     have gr:Hq (∀ y,f i=y->k+(if y then 1 else 0)=cntT (i+1) f):=Hd fun y hy=>by rw[<- hy,HK.o];rfl
     clear c0 c1 c2 hx g4;go_wp2_with fail;refine(IH.o i _ _ (by omega) HX.o gD.o).mono ?_;rintro y w3 ⟨rfl,gn⟩;have gi:=Hd gn;clear gn;go_upto_region 7 with fail;rw[gE.o];obtain⟨y,hy⟩:∃ y,f i=y:=⟨_,rfl⟩;rw[hy];have gq:=Hd (gr.o y hy);have gh:=Hd (gC.o.below gi.o);have ge:w1.heap.size<=w3.heap.size:=WU gv gi.o.size;have gj:=Hd (g3.o.trans (gi.o.mono g3.o.size));have go:Hq (AO ((List.range (i+1)).map f)=AO ((List.range i).map f)++[.bool y]):=Hd (by rw[MB,Jq,hy]);clear gr hy q0 q1 q2 e0 e1 e2;go_upto_region 8 with (at_builtin;refine Ee Ed _ rfl _ _ rfl w1.heap.size _ (AO ((List.range i).map f)) _ rfl rfl rfl rfl rfl (by exact gh.o) (by simp[AO];omega) ge ?_;intro v4 w4 gc q1 q2 q3 q4 gm)
     have gt:=Hd (Jg gj.o gh.o q1 q2 q3 q4 gm ge);have gg:=Hd gc;have gd:w1.heap.size<=w4.heap.size:=by omega
     clear gc q1 q2 q3 q4 gm;cases y with
     | true =>
       go_wp2_with fail;go_roundw
       case rel=>exact⟨i+1,k+1,by omega,by omega,by go_num,by go_num,Hd gq.o,gt.o,by unfold OwnB;rw[go.o];exact gg.o,gd⟩
       case measure=>simp[intOf];omega
     | false =>
       go_wp2_with fail;go_roundw
       case rel=>exact⟨i+1,k,by omega,by omega,by go_num,by go_num,Hd gq.o,gt.o,by unfold OwnB;rw[go.o];exact gg.o,gd⟩
       case measure=>simp[intOf];omega
    ·have he:i=n:=by omega
     subst he;have gA:¬ (i:Int)<i:=by omega
     have HF:Hq (∀ b:Bool,b=B->Ending.returned (.bool b)=.returned (.bool B)/\Bw w wr):=Hd fun b hb=>⟨by rw[hb],g5.o.trans (g3.o.mono g5.o.size)⟩
     have g1:0<i->∃ g cap,u6=.slice (some ⟨g,0,none⟩) i cap/\∀ j,j<i->wr.cell? ⟨g,j,none⟩=some (.bool (f j)):=by
      intro hp;obtain⟨g,cap,e,_⟩:=g0.shape (by simp[AO];omega);have e':u6=.slice (some ⟨g,0,none⟩) i cap:=by rw[e];simp[AO]
      refine⟨g,cap,e',fun j hj=>?_⟩;rw[e'] at g0;have:=g0.cellB j (by simp;omega);rw[this];simp[List.getD,hj]
     clear g0;rcases(show op=1\/op=2\/op=3\/op=4\/op=5\/op=6\/op=7\/op=8\/op=9\/op=10 by omega) with rfl|rfl|rfl|rfl|rfl|rfl|rfl|rfl|rfl|rfl
     . go_wp2_with fail;go_ret;exact HF.o _ (by rw[HE.o];rfl)
     . go_wp2_with fail;go_ret;exact HF.o _ (by rw[HE.o];rfl)
     ·obtain⟨v5,v6⟩:=v2 rfl;obtain⟨u,rfl⟩:∃ u:Nat,v=(u:Int):=⟨v.toNat,by omega⟩;have gs:Hq (B=A6 ls u):=Hd (by rw[HE.o];rfl)
      by_cases hu:u<ls.length
      ·obtain⟨bl,ol,rfl,cl0⟩:=(gp.o.below (g5.o.trans (g3.o.mono g5.o.size))).cells u hu;have gu:(u:Int)<ls.length:=by omega
       have g7:Hq (B=ls.getD u false):=gs;obtain⟨yy,gk⟩:=Ex (ls.getD u false);rw[<- gk] at cl0 g7;clear gk;go_wp2_with fail;go_ret;exact HF.o _ g7.o.symm
      ·have gu:¬ (u:Int)<ls.length:=by omega
       have g7:Hq (B=false):=Hd (by rw[gs.o];unfold A6;simp[List.getD,Xb (show ls.length<=u by omega)]);go_wp2_with fail;go_ret;exact HF.o _ g7.o.symm
     . have HV:Hq (((k:Int) == 0)=B):=Hd (by rw[HE.o,HK.o];exact Jr _ 0);go_wp2_with fail;go_ret;exact HF.o _ HV.o
     . have HV:Hq (((k:Int) == (i:Int))=B):=Hd (by rw[HE.o,HK.o];exact Jr _ i);go_wp2_with fail;go_ret;exact HF.o _ HV.o
     ·have HV:Hq (decide (0<k)=B):=Hd (by
       rw[HE.o,HK.o];rfl)
      go_wp2_with fail;go_ret;exact HF.o _ HV.o
     . have HV:Hq (((k:Int).tmod 2 == 1)=B):=Hd (by rw[HE.o,HK.o];exact tmod2 _);go_wp2_with fail;go_ret;exact HF.o _ HV.o
     ·have:=gz (.inl rfl);subst this;obtain⟨g,cap,rfl,hc⟩:=g1 (by omega);have c0:=hc 0 (by omega);have c1:=hc 1 (by omega);have HV:Hq ((!(f 0)||f 1)=B):=Hd (by rw[HE.o];rfl);obtain⟨y0,g9⟩:∃ y,y=f 0:=⟨_,rfl⟩;obtain⟨y1,g8⟩:∃ y,y=f 1:=⟨_,rfl⟩;rw[<- g9] at c0 HV;rw[<- g8] at c1 HV;clear g9 g8 hc g1;cases y0 with
      | true =>
        go_wp2_with fail;go_ret;exact HF.o _ HV.o
      | false =>
        go_wp2_with fail;go_ret;exact HF.o _ HV.o
     ·have HV:Hq (((k:Int) != 1)=B):=Hd (by
       rw[HE.o,HK.o]
       show (!((cntT i f:Int) == ((1:Nat):Int)))=decide (cntT i f≠1)
       rw[Jr]
       by_cases h:cntT i f=1<;>simp[h])
      go_wp2_with fail;go_ret;exact HF.o _ HV.o
     ·have:=gy rfl;subst this;obtain⟨g,cap,rfl,hc⟩:=g1 (by omega);have c0:=hc 0 (by omega);have c1:=hc 1 (by omega);have c2:=hc 2 (by omega);have HV:Hq (iteB (f 0) (f 1) (f 2)=B):=Hd (by rw[HE.o];rfl);obtain⟨y0,g9⟩:∃ y,y=f 0:=⟨_,rfl⟩;obtain⟨y1,g8⟩:∃ y,y=f 1:=⟨_,rfl⟩;obtain⟨y2,gl⟩:∃ y,y=f 2:=⟨_,rfl⟩;rw[<- g9] at c0 HV;rw[<- g8] at c1 HV;rw[<- gl] at c2 HV;clear g9 g8 gl hc g1;cases y0 with
      | true =>
        go_wp2_with fail;go_ret;exact HF.o _ HV.o
      | false =>
        go_wp2_with fail;go_ret;exact HF.o _ HV.o
section
theorem T0 {o:Oper}(hw:Region.wanted o (yielded ops a.tmps)=true)
 (he:(execOp a.eval o).run P w=.ok (.value v) w') (hS:S w') (h:AE P ops Q S last r (a.put o.dst v) w'):AE P ops Q S last ((some o,true)::r) a w:=by
 unfold AE;simp only[hw,XP,Oper.wp,he,Oper.upon];exact⟨.inr hS,h⟩
theorem T1 {o:Oper}{f:FuncId}{R:Value->Wd->Prop}(hw:Region.wanted o (yielded ops a.tmps)=true)
 (he:(execOp a.eval o).run P w=.ok (.enter f args) w) (hc:Calls P f args w fun e w'=>∃ v,e=.returned v/\S w'/\R v w')
 (h:∀ v w',S w'->R v w'->AE P ops Q S last r (a.put o.dst v) w'):AE P ops Q S last ((some o,true)::r) a w:=by
 unfold AE;simp only[hw,XP,Oper.wp,he,Oper.upon];exact hc.mono fun e w' ⟨v,h1,h2,h3⟩=>by subst h1;exact⟨.inr h2,h v w' h2 h3⟩
end
theorem Js (mb:Nat)(b:Bool)(w:Wd):Calls prog 63 #[Pt mb,.bool b] w (Sm (.int .i64 (if b then 1 else 0)) w):=by
 cases b with
 | true =>
   delta Pt;go_enter func63,ntmps63
   go_wp2_with fail;go_ret;exact⟨rfl,rfl⟩
 | false =>
   delta Pt;go_enter func63,ntmps63
   go_wp2_with fail;go_ret;exact⟨rfl,rfl⟩
theorem T2 {α:Type}{l:List α}(h:l.length=2):∃ a b,l=[a,b]:=by
 match l,h with
 | [a,b],_=>exact⟨a,b,rfl⟩
theorem T3 {α:Type}{l:List α}(h:l.length=3):∃ a b c,l=[a,b,c]:=by
 match l,h with
 | [a,b,c],_=>exact⟨a,b,c,rfl⟩
theorem MD {f:Nat->Nat}(h:∀ i,1<=f i):∀ k,k<=sumN k f
 | 0=>WX _
 | k+1=>by
   have:=MD h k;have:=h k
   show k+1<=sumN k f+f k
   omega
section
variable {o:Own}
theorem Goes.refl {M:Nat}(h:SatE K n Od room w0 mb fs nx w o m V)(hw:m.waits=[]/\m.d.pool.many<=M):Goes K n Od room w0 mb fs nx (NoW M) o w w:=⟨o,m,V,ChgX.of_below (Xd _ _) o NoB,hw,h⟩
theorem Goes.after {Wt:List Ev->Int->Nat->Prop}(hc:ChgX NoB o o' w w')(g:Goes K n Od room w0 mb fs nx Wt o' w' w''):Goes K n Od room w0 mb fs nx Wt o w w'':=by
 obtain⟨o2,m2,V2,h1,h2,h3⟩:=g;exact⟨o2,m2,V2,hc.trans h1 (fun _ _ e=>e),h2,h3⟩
theorem Goes.cell {Wt:List Ev->Int->Nat->Prop}(g:Goes K n Od room w0 mb fs nx Wt o w w'){p:Addr}{v:Value}(hc:w.cell? p=some v)(hb:o p.block=none):w'.cell? p=some v:=by
 obtain⟨o2,m2,V2,h1,h2,h3⟩:=g;exact h1.cell hc hb (fun e=>e)
theorem Goes.below0 {Wt:List Ev->Int->Nat->Prop}(g:Goes K n Od room w0 mb fs nx Wt o w w'):Bw w0 w':=by
 obtain⟨o2,m2,V2,h1,h2,h3⟩:=g;exact h3.chg.below0
structure BuiT (K:Law)(n:Nat)(Od:List Nat->Prop)(room:Nat)(w0:Wd)(mb:Nat)(fs:List (Int×BF))(nx:Int)(M:Nat)(o:Own)(w:Wd)(vl:Value)(ks:List Int)(W:Wd)(o':Own)(m':ManD)(V':Nat->BF):Prop where
 sat:SatE K n Od room w0 mb fs nx W o' m' V'
 waits:m'.waits=[]/\m'.d.pool.many<=M
 chg:ChgX NoB o o' w W
 l:LawL W o' w.heap.size vl ks
def BuiS (K:Law)(n:Nat)(Od:List Nat->Prop)(room:Nat)(w0:Wd)(mb:Nat)(fs:List (Int×BF))(nx:Int)(M:Nat)(o:Own)(w:Wd)(vl:Value)(ks:List Int)(W:Wd):Prop:=∃ o' m' V',BuiT K n Od room w0 mb fs nx M o w vl ks W o' m' V'
section
variable {M:Nat}{vl':Value}
theorem BuiT.go (h:BuiT K n Od room w0 mb fs nx M o w vl ks W o' m' V'){M':Nat}(g:Goes K n Od room w0 mb fs' nx' (NoW M') o' W W'):BuiS K n Od room w0 mb fs' nx' M' o w vl ks W':=by
 obtain⟨o2,m2,V2,h1,h2,h3⟩:=g;exact⟨o2,m2,V2,h3,h2,h.chg.trans h1 (fun _ _ e=>e),h.l.chg h1⟩
theorem BuiT.refl (h:BuiT K n Od room w0 mb fs nx M o w vl ks W o' m' V'):Goes K n Od room w0 mb fs nx (NoW M) o' W W:=Goes.refl h.sat h.waits
theorem BuiS.below (h:BuiS K n Od room w0 mb fs nx M o w vl ks W)(hb:Bw W W'):BuiS K n Od room w0 mb fs nx M o w vl ks W':=by
 obtain⟨o',m',V',h⟩:=h;exact h.go (h.refl.below hb)
theorem BuiS.goes (h:BuiS K n Od room w0 mb fs nx M o w vl ks W):Goes K n Od room w0 mb fs nx (NoW M) o w W:=by
 obtain⟨o',m',V',h⟩:=h;exact⟨o',m',V',h.chg,h.waits,h.sat⟩
theorem BuiS.app {k:Int}(h:BuiT K n Od room w0 mb fs nx M o w vl ks W o' m' V')(hown:OwnC 3 W' w.heap.size vl' (As ks++[.int .i64 k]))(e1:W'.os=W.os)(e2:W'.tape=W.tape)(e3:W'.output=W.output)(e4:W.heap.size<=W'.heap.size)(hk:Cf vl vl' W W')(hw0:w0.heap.size<=w.heap.size) :
 BuiS K n Od room w0 mb fs nx M o w vl' (ks++[k]) W':=by
 have hw:=Gq e1 e2 e3 e4 hk;exact⟨o',m',V',h.sat.other hw (fun k _ hk=>⟨by have:=(h.l.own.lt k hk).1;omega,h.l.no k hk⟩),h.waits,h.chg.trans (ChgX.of_wr (C:=fun k=>w.heap.size<=k) hw o' (fun k _ hk=>(h.l.own.lt k hk).1)) (fun k hk e=>by omega),h.l.app h.sat.lt hown hk⟩
theorem BuiS.cells (h:BuiS K n Od room w0 mb fs nx M o w vl ks W)(hp:0<ks.length):∃ g c,vl=.slice (some ⟨g,0,none⟩) ks.length c/\∀ j,j<ks.length->W.cell? ⟨g,j,none⟩=some (.int .i64 (at0 ks j)):=by
 obtain⟨o',m',V',h⟩:=h;obtain⟨g,c,e,_⟩:=h.l.own.shape (by simpa [As] using hp);have e':vl=.slice (some ⟨g,0,none⟩) ks.length c:=by rw[e];simp[As]
 refine⟨g,c,e',fun j hj=>?_⟩;have ho:=h.l.own;rw[e'] at ho;rw[ho.cell j (by simpa [As] using hj)];simp[As,AI hj,hj]
theorem BuiS.cellsN (h:BuiS K n Od room w0 mb fs nx M o w vl ks W)(hl:ks.length=i)(hp:0<i):∃ g c,vl=.slice (some ⟨g,0,none⟩) i c/\∀ j,j<i->W.cell? ⟨g,j,none⟩=some (.int .i64 (at0 ks j)):=by
 subst hl;exact h.cells hp
end
def BU (n s:Nat):Nat:=s*2^n-(2^n-1)
theorem Gx (n:Nat){s:Nat}(h:1<=s):BU n s+(2^n-1)=s*2^n:=by
 have:=X7 (2^n) h;unfold BU;omega
def Bf (n:Nat)(kid:Nat->ExT)(i:Nat):Nat:=sumN i fun j=>BU n (kid j).size
theorem ME (n:Nat)(kid:Nat->ExT):∀ i,Bf n kid i+i*(2^n-1)=(sumN i fun i=>(kid i).size)*2^n
 | 0=>by simp[Bf,sumN]
 | i+1=>by
   have h1:=ME n kid i;have h2:=Gx n (kid i).size_pos
   show Bf n kid i+BU n (kid i).size+(i+1)*(2^n-1)=((sumN i fun i=>(kid i).size)+(kid i).size)*2^n
   rw[XV,XV];omega
structure BCtx (K:Law)(n:Nat)(Od:List Nat->Prop)(room:Nat)(w0:Wd)(mb:Nat)(fs:List (Int×BF))(nx:Int)(M:Nat)(w w1:Wd)(o:Own)(m:ManD)(V:Nat->BF)(op v:Int)(nk:Nat)(kid:Nat->ExT)(a:Option Addr)(c:Nat)(E:ExT)(Q:Ending->Wd->Prop):Prop where
 HKK:Hq (A5 K)
 H5:Hq (∀ k,k<nk->∃ b off x0 x1 x2,a=some ⟨b,off,none⟩/\w0.cell? ⟨b,off+k*3,none⟩=some x0/\w0.cell? ⟨b,off+k*3+1,none⟩=some x1/\w0.cell? ⟨b,off+k*3+2,none⟩=some x2/\A0 w0 (kid k) (.agg #[x0,x1,x2]))
 HKS:Hq (∀ i,i<nk->(sumN i fun i=>(kid i).size)+(kid i).size+1<=E.size)
 HSZ:Hq (E.size=1+sumN nk fun i=>(kid i).size)
 HPOS:Hq (∀ k,k<=sumN k fun i=>(kid i).size)
 IH:Hq (∀ (i:Nat) (x:Value) (fs':List (Int×BF)) (nx':Int) (W:Wd) (o':Own) (m':ManD) (V':Nat->BF) (M':Nat),i<nk->SatE K n Od room w0 mb fs' nx' W o' m' V'->m'.waits=[]/\m'.d.pool.many<=M'->B2 fs'->A0 w0 (kid i) x->nx'+3*(kid i).size<549755813000->M'+(kid i).size*2^n<=room ->
  Calls prog 15 #[Pt mb,x] W fun y w'=>∃ k:Int,y=.returned (.tuple #[.int .i64 k,.bool true])/\k+3<=nx'+3*(kid i).size/\Goes K n Od room w0 mb (fs'++[(k,fnT (kid i))]) (k+1) (NoW (M'+BU n (kid i).size)) o' W w')
 HW1:Hq (w.alloc (.cells #[.int .i64 op,.int .i64 v,.slice a nk c] 36)=w1)
 HG1:Hq (Goes K n Od room w0 mb fs nx (NoW M) o w1 w1)
 HSAT1:Hq (SatE K n Od room w0 mb fs nx w1 o m V)
 HWT:Hq (m.waits=[]/\m.d.pool.many<=M)
 HB2:Hq (B2 fs)
 HQ:Hq (∀ (k:Int) F W M',F=fnT E->k+3<=nx+3*E.size->M'<=M+BU n E.size->Goes K n Od room w0 mb (fs++[(k,F)]) (k+1) (NoW M') o w1 W->Q (.returned (.tuple #[.int .i64 k,.bool true])) W)
 HMR:Hq (∀ i,i<nk->M+(sumN i fun i=>(kid i).size)*2^n+(kid i).size*2^n+2^n<=room)
 HCK:Hq (∀ i,Bf n kid i+i*(2^n-1)=(sumN i fun i=>(kid i).size)*2^n)
 HCI:Hq (∀ i,BU n (kid i).size+(2^n-1)=(kid i).size*2^n)
 HEP:Hq (E.size*2^n=2^n+(sumN nk fun i=>(kid i).size)*2^n/\BU n E.size+(2^n-1)=E.size*2^n)
 HME:Hq (M+E.size*2^n<=room)
 hn64:nk<=64
 hnx:nx+3*E.size<549755813000
 hE1:1<=E.size
 hs1:w1.heap.size=w.heap.size+1
 d0:w1.cell? ⟨w.heap.size,0,none⟩=some (.int .i64 op)
 d1:w1.cell? ⟨w.heap.size,1,none⟩=some (.int .i64 v)
 d2:w1.cell? ⟨w.heap.size,2,none⟩=some (.slice a nk c)
 on:o w.heap.size=none
 hw0:w0.heap.size<=w1.heap.size
 hp2:0<2^n
 h2 : -9223372036854775808<=op/\op<=9223372036854775807
 h3 : -9223372036854775808<=v/\v<=9223372036854775807
theorem T4 {v:Int}{kid:Nat->ExT}{a:Option Addr}{E:ExT}{Q:Ending->Wd->Prop}{M:Nat}(hctx:BCtx K n Od room w0 mb fs nx M w w1 o m V op v nk kid a c E Q)(h1:op=1)(hF:fnT E=fun _=>true) :
 Calls prog 15 #[Pt mb,.agg #[.int .i64 op,.int .i64 v,.slice a nk c]] w Q:=by
 obtain⟨HKK,H5,HKS,HSZ,HPOS,IH,HW1,HG1,HSAT1,HWT,HB2,HQ,HMR,HCK,HCI,HEP,HME,hn64,hnx,hE1,hs1,d0,d1,d2,on,hw0,hp2,h2,h3⟩:=hctx;subst h1;have g2:=Hd (Js mb true w1);have g1:=Hd (Gv HKK.o HG1.o (by omega) (k:=1) (F:=fun _=>true) HB2.o.one);have g0:Hq ((fun _=>true)=fnT E):=Hd hF.symm;have g3:Hq (M<=M+BU n E.size):=Hd (Nat.le_add_right _ _);clear IH
 delta Pt;go_enter func15,ntmps15
 go_upto_region 1 with fail;rw[HW1.o];go_wp2_with fail;refine g2.o.mono ?_;rintro y w' ⟨rfl,rfl⟩;go_wp2_with fail;refine g1.o.mono ?_;rintro y w2 ⟨rfl,g⟩;have HF:=Hd (HQ.o nx _ w2 _ g0.o (by omega) g3.o g);clear g;go_wp2_with fail;exact HF.o
theorem T5 {v:Int}{kid:Nat->ExT}{a:Option Addr}{E:ExT}{Q:Ending->Wd->Prop}{M:Nat}(hctx:BCtx K n Od room w0 mb fs nx M w w1 o m V op v nk kid a c E Q)(h1:op=2)(hF:fnT E=fun _=>false) :
 Calls prog 15 #[Pt mb,.agg #[.int .i64 op,.int .i64 v,.slice a nk c]] w Q:=by
 obtain⟨HKK,H5,HKS,HSZ,HPOS,IH,HW1,HG1,HSAT1,HWT,HB2,HQ,HMR,HCK,HCI,HEP,HME,hn64,hnx,hE1,hs1,d0,d1,d2,on,hw0,hp2,h2,h3⟩:=hctx;subst h1;have g2:=Hd (Js mb false w1);have g1:=Hd (Gv HKK.o HG1.o (by omega) (k:=0) (F:=fun _=>false) HB2.o.zero);have g0:Hq ((fun _=>false)=fnT E):=Hd hF.symm;have g3:Hq (M<=M+BU n E.size):=Hd (Nat.le_add_right _ _);clear IH
 delta Pt;go_enter func15,ntmps15
 go_upto_region 1 with fail;rw[HW1.o];go_wp2_with fail;refine g2.o.mono ?_;rintro y w' ⟨rfl,rfl⟩;go_wp2_with fail;refine g1.o.mono ?_;rintro y w2 ⟨rfl,g⟩;have HF:=Hd (HQ.o nx _ w2 _ g0.o (by omega) g3.o g);clear g;go_wp2_with fail;exact HF.o
theorem T6 {v:Int}{kid:Nat->ExT}{a:Option Addr}{E:ExT}{Q:Ending->Wd->Prop}{M:Nat}(hctx:BCtx K n Od room w0 mb fs nx M w w1 o m V op v nk kid a c E Q){u:Nat}(hu:u<n)(h1:op=3)(hvu:v=u)(hF:fnT E=varF u) :
 Calls prog 15 #[Pt mb,.agg #[.int .i64 op,.int .i64 v,.slice a nk c]] w Q:=by
 obtain⟨HKK,H5,HKS,HSZ,HPOS,IH,HW1,HG1,HSAT1,HWT,HB2,HQ,HMR,HCK,HCI,HEP,HME,hn64,hnx,hE1,hs1,d0,d1,d2,on,hw0,hp2,h2,h3⟩:=hctx;subst hvu;subst h1;have g1:=Hd (Tx HKK.o HG1.o (by omega) (by have:=HEP.o;have:=HME.o;omega) hu);have g0:Hq (varF u=fnT E):=Hd hF.symm;have g2:Hq (M+1<=M+BU n E.size):=Hd (by have:=HEP.o;omega);clear IH
 delta Pt;go_enter func15,ntmps15
 go_upto_region 1 with fail;rw[HW1.o];go_wp2_with fail;refine g1.o.mono ?_;rintro y w2 ⟨rfl,g⟩;have HF:=Hd (HQ.o nx _ w2 _ g0.o (by omega) g2.o g);clear g;go_wp2_with fail;exact HF.o
end
section
variable {o:Own}
theorem T7 {v:Int}{kid:Nat->ExT}{a:Option Addr}{E:ExT}{Q:Ending->Wd->Prop}{M:Nat}(hctx:BCtx K n Od room w0 mb fs nx M w w1 o m V op v nk kid a c E Q)(h1:op=5\/op=6\/op=7)(hF:fnT E=accT op kid nk) :
 Calls prog 15 #[Pt mb,.agg #[.int .i64 op,.int .i64 v,.slice a nk c]] w Q:=by
 obtain⟨HKK,H5,HKS,HSZ,HPOS,IH,HW1,HG1,HSAT1,HWT,HB2,HQ,HMR,HCK,HCI,HEP,HME,hn64,hnx,hE1,hs1,d0,d1,d2,on,hw0,hp2,h2,h3⟩:=hctx;have ga:5<=op/\op<=9:=by omega
 have gb:Hq (accT op kid nk=fnT E):=Hd hF.symm;have gc:=Hd (fun b=>Js mb b w1)
 have g8:Hq (∀ z:Int,z=(if op=5 then 1 else 0)->Calls prog 62 #[Pt mb,.int .i64 z] w1 fun x w''=>x=.returned (.tuple #[.int .i64 nx,.int .i64 0])/\Goes K n Od room w0 mb (fs++[(nx,accT op kid 0)]) (nx+1) (NoW M) o w1 w''):=Hd (by
  rintro z rfl
  by_cases e:op=5
  . rw[WR e,show accT op kid 0=fun _=>true by unfold accT;simp[e]];exact Gv HKK.o HG1.o (by omega) HB2.o.one
  . rw[WO e,show accT op kid 0=fun _=>false by unfold accT;simp[e]];exact Gv HKK.o HG1.o (by omega) HB2.o.zero)
 obtain⟨A,hA⟩:=Ex (accT op kid:Nat->BF);have gi:Hq (∀ i,DC op (A i) (fnT (kid i))=A (i+1)):=Hd fun i=>by rw[hA];rfl
 rw[<- hA] at g8 gb;clear hA;rcases h1 with h1|h1|h1
 all_goals
  subst h1
  delta Pt;go_enter func15,ntmps15
  go_upto_region 1 with fail;rw[HW1.o];go_wp2_with fail;refine(gc.o _).mono ?_;rintro y w' ⟨rfl,rfl⟩;go_wp2_with fail;refine(g8.o _ (by rfl)).mono ?_;rintro y w2 ⟨rfl,g⟩;have gh:=Hd g;clear g gc g8;go_wp2_with fail
  go_loopw [10,12,13,14] (fun s10 s12 s13 s14 wr=>∃ (i:Nat) (k:Int),i<=nk/\s10=.int .i64 k/\s12=.bool true/\s13=.int .i64 i/\Hq (k+3<=nx+3*((1+sumN i fun i=>(kid i).size:Nat):Int))/\Hq (Goes K n Od room w0 mb (fs++[(k,A i)]) (k+1) (NoW (M+(sumN i fun i=>(kid i).size)*2^n)) o w1 wr)) (fun _ _ s13 _ _=>nk-(intOf s13).toNat)
  case atStart=>exact⟨0,nx,WX _,rfl,rfl,rfl,Hd (by show nx+3<=nx+3*((1+0:Nat):Int);omega),Hd (gh.o.more (Nat.le_add_right _ _))⟩
  case round =>
   obtain⟨i,k,hi,rfl,rfl,rfl,HN,HG⟩:=hrel;have e0:=HG.o.cell (p:=⟨w.heap.size,0,none⟩) d0 on;have e2:=HG.o.cell (p:=⟨w.heap.size,2,none⟩) d2 on
   by_cases g0:i<nk
   ·obtain⟨b,off,x0,x1,x2,rfl,c0,c1,c2,hx⟩:=H5.o i g0;have g1:=HG.o.below0;have q0:=Cq g1 c0;have q1:=Cq g1 c1;have q2:=Cq g1 c2;have ge:(i:Int)<nk:=by omega
    have gk:=HKS.o i g0;obtain⟨o1,m1,V1,g9,g5,g6⟩:=HG.o;have gj:=HN.o;have g2:=Hd (IH.o i _ (fs++[(k,A i)]) (k+1) _ o1 m1 V1 _ g0 g6 g5 (HB2.o.app _) hx (by omega) (by have:=HMR.o i g0;omega));have gd:=Hd g9;clear g1 c0 c1 c2 hx g6 g5 g9;go_wp2_with fail;refine g2.o.mono ?_;rintro y w3 ⟨k2,rfl,gm,g3⟩
    have g7:Hq (Goes K n Od room w0 mb (fs++[(k,A i),(k2,fnT (kid i))]) (k2+1) (NoW (M+(sumN i fun i=>(kid i).size)*2^n+BU n (kid i).size)) o w1 w3):=Hd (by
     have:=g3.after gd.o;rw[Xf] at this;exact this)
    have f0:=g7.o.cell (p:=⟨w.heap.size,0,none⟩) d0 on;have HJ:=Hd (M5 HKK.o g7.o HB2.o (by omega) (by have:=HMR.o i g0;have:=HCI.o i;omega) ga.1 ga.2);clear g3 g2 gd q0 q1 q2 e0 e2;go_wp2_with fail;refine HJ.o.mono ?_;rintro y w4 ⟨k4,rfl,gl,g4⟩
    have gg:Hq (Goes K n Od room w0 mb (fs++[(k4,A (i+1))]) (k4+1) (NoW (M+(sumN (i+1) fun i=>(kid i).size)*2^n)) o w1 w4):=Hd (by
     rw[<- gi.o i];refine g4.more ?_
     show _<=M+((sumN i fun i=>(kid i).size)+(kid i).size)*2^n
     rw[XV];have:=HCI.o i;omega)
    have gf:Hq (k4+3<=nx+3*((1+sumN (i+1) fun i=>(kid i).size:Nat):Int)):=Hd (by
     show k4+3<=nx+3*((1+((sumN i fun i=>(kid i).size)+(kid i).size):Nat):Int)
     omega)
    clear g4 HJ f0 g7;go_wp2_with fail;go_roundw
    case rel=>exact⟨i+1,k4,by omega,rfl,rfl,by go_num,gf,gg⟩
    case measure=>simp[intOf];omega
   ·obtain rfl:i=nk:=by omega
    have ge:¬ (i:Int)<i:=by omega
    have HF:=Hd (HQ.o k _ _ _ gb.o (by have:=HN.o;have:=HSZ.o;omega) (by have:=HEP.o;omega) HG.o);go_wp2_with fail;exact HF.o
end
section
variable {o:Own}
abbrev YB:=@List.getElem_append_left
abbrev Y3:=@List.getElem_append_right
theorem T8 {v:Int}{kid:Nat->ExT}{a:Option Addr}{E:ExT}{Q:Ending->Wd->Prop}{M:Nat}(hctx:BCtx K n Od room w0 mb fs nx M w w1 o m V op v nk kid a c E Q)(h1:op=4)(hnk:nk=1)(hF:fnT E=notF (fnT (kid 0))) :
 Calls prog 15 #[Pt mb,.agg #[.int .i64 op,.int .i64 v,.slice a nk c]] w Q:=by
 obtain⟨HKK,H5,HKS,HSZ,HPOS,IH,HW1,HG1,HSAT1,HWT,HB2,HQ,HMR,HCK,HCI,HEP,HME,hn64,hnx,hE1,hs1,d0,d1,d2,on,hw0,hp2,h2,h3⟩:=hctx;have g1:(op == 1)=false:=by simp;omega
 have g2:(op == 2)=false:=by simp;omega
 have g3:(op == 3)=false:=by simp;omega
 have g5:(op == 5)=false:=by simp;omega
 have g6:(op == 6)=false:=by simp;omega
 have g7:(op == 7)=false:=by simp;omega
 have g4:(op == 4)=true:=by simp;omega
 have gB:=Hd hnk;clear h1 hnk;obtain⟨w2,ge⟩:=Ex (w1.alloc (.cells #[] 3));have gA:Hq (_=w2):=Hd ge.symm;have g9:Bw w1 w2:=by rw[ge];exact Af _ _
 have gl:Hq (BuiS K n Od room w0 mb (fs++[]) nx (M+Bf n kid 0) o w1 (.slice (some ⟨w.heap.size+1,0,none⟩) 0 0) (([]:List (Int×BF)).map Prod.fst) w2):=Hd ⟨o,m,V,by rw[Yd];exact HSAT1.o.below g9,HWT.o,CE g9 o,by rw[ge,<- hs1];exact E6 _ _ _ (WM _),fun k hk=>by cases hk;rw[<- hs1];exact HSAT1.o.lt.none (WM _)⟩;have gm:=Hd g9;clear ge g9
 delta Pt;go_enter func15,ntmps15
 go_upto_region 1 with fail;rw[HW1.o];go_upto_region 23 with fail;rw[gA.o];have e2:=Cq gm.o d2;go_wp2_with fail
 go_loopw [15,106] (fun s15 s106 wr=>∃ (i:Nat) (hs:List (Int×BF)) (nxi:Int),i<=nk/\s106=.int .i64 i/\hs.length=i/\nxi+2*i<=nx+3*((sumN i fun i=>(kid i).size:Nat):Int)/\Hq (∀ j (hj:j<hs.length),hs[j].2=fnT (kid j))/\Hq (BuiS K n Od room w0 mb (fs++hs) nxi (M+Bf n kid i) o w1 s15 (hs.map Prod.fst) wr)) (fun _ s106 _=>nk-(intOf s106).toNat)
 case atStart=>exact⟨0,[],nx,WX _,rfl,rfl,by show nx+2*((0:Nat):Int)<=nx+3*((0:Nat):Int);omega,Hd (fun j hj=>by simp at hj),gl⟩
 case round =>
  clear gl gm e2
  rename Wd=>wy
  obtain⟨i,hs,nxi,hi,rfl,gy,gG,gr,g0⟩:=hrel
  by_cases gh:i<nk
  ·obtain⟨b,off,x0,x1,x2,rfl,c0,c1,c2,hx⟩:=H5.o i gh;have gi:=g0.o.goes.below0;have q0:=Cq gi c0;have q1:=Cq gi c1;have q2:=Cq gi c2;obtain⟨zo,zv,za,zn,zc,rfl,rfl,rfl⟩:=hx.parts;have gx:(i:Int)<nk:=by omega
   have gI:=HKS.o i gh;obtain⟨wz,gd⟩:=Ex (wy.alloc (.cells #[.int .i64 zo,.int .i64 zv,.slice za zn zc] 36));have gz:Hq (_=wz):=Hd gd.symm;have gq:Bw wy wz:=by rw[gd];exact Af _ _
   have g8:wz.heap[wy.heap.size]?=some (.cells #[.int .i64 zo,.int .i64 zv,.slice za zn zc] 36 (0,0)):=by rw[gd];exact WN _ _
   have p0:wz.cell? ⟨wy.heap.size,0,none⟩=some (.int .i64 zo):=by rw[WQ _ _ 0 _ _ _ g8];rfl
   have p1:wz.cell? ⟨wy.heap.size,1,none⟩=some (.int .i64 zv):=by rw[WQ _ _ 1 _ _ _ g8];rfl
   have p2:wz.cell? ⟨wy.heap.size,2,none⟩=some (.slice za zn zc):=by rw[WQ _ _ 2 _ _ _ g8];rfl
   obtain⟨o1,m1,V1,bt⟩:=g0.o.below gq;have gF:=HPOS.o i;have gj:=Hd (IH.o i _ (fs++hs) nxi wz o1 m1 V1 _ gh bt.sat bt.waits (HB2.o.app _) hx (by omega) (by have:=HMR.o i gh;have:=HCK.o i;omega));have gb:=Hd bt;clear gi c0 c1 c2 hx bt gd gq g8 g0;go_upto_region 26 with fail;rw[gz.o];clear q0 q1 q2;go_wp2_with fail;refine gj.o.mono ?_;rintro y w3 ⟨k2,rfl,gJ,gg⟩;have gk:=Hd (gb.o.go (M':=M+Bf n kid (i+1)) (gg.more (Nat.le_of_eq (Yx _ _ _))));have gD:Hq (∀ j (hj:j<(hs++[(k2,fnT (kid i))]).length),(hs++[(k2,fnT (kid i))])[j].2=fnT (kid j)):=Hd fun j hj=>by
    rcases Xe j hs.length with h|h
    . rw[YB h];exact gr.o j h
    ·have gw:j=i:=by simp at hj;omega
     subst gw;rw[Y3 (by omega)];simp
   clear gg gj gb p0 p1 p2;obtain⟨o3,m3,V3,bt3⟩:=gk.o;have gu:w1.heap.size<=w3.heap.size:=bt3.chg.size;have gc:=Hd bt3;clear bt3;go_upto_region 30 with (at_builtin;refine Ee Gn _ rfl _ _ rfl w1.heap.size _ (As (hs.map Prod.fst)) _ rfl rfl rfl rfl rfl (by exact gc.o.l.own) (by simp[As];omega) gu ?_;intro v5 w5 gf r1 r2 r3 r4 gn)
   have gv:Hq (BuiS K n Od room w0 mb (fs++(hs++[(k2,fnT (kid i))])) (k2+1) (M+Bf n kid (i+1)) o w1 v5 ((hs++[(k2,fnT (kid i))]).map Prod.fst) w5):=Hd (by
    have:=BuiS.app gc.o gf r1 r2 r3 r4 gn hw0;rw[Xf] at this;rw[Xl];exact this)
   clear gf r1 r2 r3 r4 gn gc gk;go_wp2_with fail;go_roundw
   case rel=>exact⟨i+1,hs++[(k2,fnT (kid i))],k2+1,by omega,by go_num,by simp;omega,by
    show k2+1+2*((i+1:Nat):Int)<=nx+3*(((sumN i fun i=>(kid i).size)+(kid i).size:Nat):Int)
    omega,gD,gv⟩
   case measure=>simp[intOf];omega
  ·obtain rfl:i=nk:=by omega
   have gx:¬ (i:Int)<i:=by omega
   have f0:=g0.o.goes.cell (p:=⟨w.heap.size,0,none⟩) d0 on;have gt:=HSZ.o;have gE:nxi+2*i+3<=nx+3*E.size:=by omega
   have hnk:=gB.o;have gH:1<=i:=by omega
   clear gt H5 IH HSZ HKS HPOS;obtain⟨o1,m1,V1,bt⟩:=g0.o;have gb:=Hd bt;clear bt;subst hnk;obtain⟨⟨k0,F0⟩,rfl⟩:=List.length_eq_one_iff.1 gy;obtain⟨g,cp,rfl,ga⟩:=g0.o.cellsN (i:=1) rfl (by omega);have c0:wy.cell? ⟨g,0,none⟩=some (.int .i64 k0):=ga 0 (by omega);have HF:Hq (notF F0=fnT E):=Hd (by rw[hF,<- gr.o 0 (by simp)];rfl);have HN:=Hd (M4 HKK.o gb.o.refl (by omega) (k:=k0) (F:=F0) (by simp));clear ga;go_wp2_with fail;refine HN.o.mono ?_;rintro y w3 ⟨rfl,g3⟩;have gs:=Hd (gb.o.go g3);obtain⟨g',cp',ev,gp⟩:=gs.o.cellsN (i:=1) rfl (by omega);cases ev;have c3:w3.cell? ⟨g,0,none⟩=some (.int .i64 k0):=gp 0 (by omega);have HD:=Hd (Gw HKK.o (hs:=[(k0,F0)]) (r:=[(nxi,notF F0)]) (by have:=gs.o.goes;rw[Xf] at this;exact this) HB2.o (by omega) (by simp) (T:=w3.alloc (.cells #[.int .i64 k0] 3)) rfl);clear g3 gp HN;go_wp2_with fail;refine HD.o.mono ?_;rintro y w4 ⟨rfl,g4⟩;have gC:=Hd (HQ.o nxi _ w4 _ HF.o (by omega) (by have:=HEP.o;have:=HCK.o 1;omega) g4);clear g4 HD;go_wp2_with fail;exact gC.o
end
section
variable {o:Own}
theorem T9 {v:Int}{kid:Nat->ExT}{a:Option Addr}{E:ExT}{Q:Ending->Wd->Prop}{M:Nat}(hctx:BCtx K n Od room w0 mb fs nx M w w1 o m V op v nk kid a c E Q)(h1:op=8\/op=9)(hnk:nk=2)(hF:fnT E=DC op (fnT (kid 0)) (fnT (kid 1))) :
 Calls prog 15 #[Pt mb,.agg #[.int .i64 op,.int .i64 v,.slice a nk c]] w Q:=by
 obtain⟨HKK,H5,HKS,HSZ,HPOS,IH,HW1,HG1,HSAT1,HWT,HB2,HQ,HMR,HCK,HCI,HEP,HME,hn64,hnx,hE1,hs1,d0,d1,d2,on,hw0,hp2,h2,h3⟩:=hctx;have g1:(op == 1)=false:=by simp;omega
 have g2:(op == 2)=false:=by simp;omega
 have g3:(op == 3)=false:=by simp;omega
 have g5:(op == 5)=false:=by simp;omega
 have g6:(op == 6)=false:=by simp;omega
 have g7:(op == 7)=false:=by simp;omega
 have g4:(op == 4)=false:=by simp;omega
 have g10:(op == 10)=false:=by simp;omega
 have gA:=Hd hnk;have H1:=Hd h1;clear h1 hnk;obtain⟨w2,ge⟩:=Ex (w1.alloc (.cells #[] 3));have gz:Hq (_=w2):=Hd ge.symm;have gb:Bw w1 w2:=by rw[ge];exact Af _ _
 have gm:Hq (BuiS K n Od room w0 mb (fs++[]) nx (M+Bf n kid 0) o w1 (.slice (some ⟨w.heap.size+1,0,none⟩) 0 0) (([]:List (Int×BF)).map Prod.fst) w2):=Hd ⟨o,m,V,by rw[Yd];exact HSAT1.o.below gb,HWT.o,CE gb o,by rw[ge,<- hs1];exact E6 _ _ _ (WM _),fun k hk=>by cases hk;rw[<- hs1];exact HSAT1.o.lt.none (WM _)⟩;have gn:=Hd gb;clear ge gb
 delta Pt;go_enter func15,ntmps15
 go_upto_region 1 with fail;rw[HW1.o];go_upto_region 23 with fail;rw[gz.o];have e2:=Cq gn.o d2;go_wp2_with fail
 go_loopw [15,106] (fun s15 s106 wr=>∃ (i:Nat) (hs:List (Int×BF)) (nxi:Int),i<=nk/\s106=.int .i64 i/\hs.length=i/\nxi+2*i<=nx+3*((sumN i fun i=>(kid i).size:Nat):Int)/\Hq (∀ j (hj:j<hs.length),hs[j].2=fnT (kid j))/\Hq (BuiS K n Od room w0 mb (fs++hs) nxi (M+Bf n kid i) o w1 s15 (hs.map Prod.fst) wr)) (fun _ s106 _=>nk-(intOf s106).toNat)
 case atStart=>exact⟨0,[],nx,WX _,rfl,rfl,by show nx+2*((0:Nat):Int)<=nx+3*((0:Nat):Int);omega,Hd (fun j hj=>by simp at hj),gm⟩
 case round =>
  clear gm gn e2
  rename Wd=>wy
  obtain⟨i,hs,nxi,hi,rfl,gx,gF,gk,g9⟩:=hrel
  by_cases gh:i<nk
  ·obtain⟨b,off,x0,x1,x2,rfl,c0,c1,c2,hx⟩:=H5.o i gh;have gi:=g9.o.goes.below0;have q0:=Cq gi c0;have q1:=Cq gi c1;have q2:=Cq gi c2;obtain⟨zo,zv,za,zn,zc,rfl,rfl,rfl⟩:=hx.parts;have gw:(i:Int)<nk:=by omega
   have gH:=HKS.o i gh;obtain⟨wz,gd⟩:=Ex (wy.alloc (.cells #[.int .i64 zo,.int .i64 zv,.slice za zn zc] 36));have gy:Hq (_=wz):=Hd gd.symm;have gr:Bw wy wz:=by rw[gd];exact Af _ _
   have ga:wz.heap[wy.heap.size]?=some (.cells #[.int .i64 zo,.int .i64 zv,.slice za zn zc] 36 (0,0)):=by rw[gd];exact WN _ _
   have p0:wz.cell? ⟨wy.heap.size,0,none⟩=some (.int .i64 zo):=by rw[WQ _ _ 0 _ _ _ ga];rfl
   have p1:wz.cell? ⟨wy.heap.size,1,none⟩=some (.int .i64 zv):=by rw[WQ _ _ 1 _ _ _ ga];rfl
   have p2:wz.cell? ⟨wy.heap.size,2,none⟩=some (.slice za zn zc):=by rw[WQ _ _ 2 _ _ _ ga];rfl
   obtain⟨o1,m1,V1,bt⟩:=g9.o.below gr;have gE:=HPOS.o i;have gj:=Hd (IH.o i _ (fs++hs) nxi wz o1 m1 V1 _ gh bt.sat bt.waits (HB2.o.app _) hx (by omega) (by have:=HMR.o i gh;have:=HCK.o i;omega));have g8:=Hd bt;clear gi c0 c1 c2 hx bt gd gr ga g9;go_upto_region 26 with fail;rw[gy.o];clear q0 q1 q2;go_wp2_with fail;refine gj.o.mono ?_;rintro y w3 ⟨k2,rfl,gI,gg⟩;have gl:=Hd (g8.o.go (M':=M+Bf n kid (i+1)) (gg.more (Nat.le_of_eq (Yx _ _ _))));have gC:Hq (∀ j (hj:j<(hs++[(k2,fnT (kid i))]).length),(hs++[(k2,fnT (kid i))])[j].2=fnT (kid j)):=Hd fun j hj=>by
    rcases Xe j hs.length with h|h
    . rw[YB h];exact gk.o j h
    ·have gv:j=i:=by simp at hj;omega
     subst gv;rw[Y3 (by omega)];simp
   clear gg gj g8 p0 p1 p2;obtain⟨o3,m3,V3,bt3⟩:=gl.o;have gt:w1.heap.size<=w3.heap.size:=bt3.chg.size;have gc:=Hd bt3;clear bt3;go_upto_region 30 with (at_builtin;refine Ee Gn _ rfl _ _ rfl w1.heap.size _ (As (hs.map Prod.fst)) _ rfl rfl rfl rfl rfl (by exact gc.o.l.own) (by simp[As];omega) gt ?_;intro v5 w5 gf r1 r2 r3 r4 gp)
   have gu:Hq (BuiS K n Od room w0 mb (fs++(hs++[(k2,fnT (kid i))])) (k2+1) (M+Bf n kid (i+1)) o w1 v5 ((hs++[(k2,fnT (kid i))]).map Prod.fst) w5):=Hd (by
    have:=BuiS.app gc.o gf r1 r2 r3 r4 gp hw0;rw[Xf] at this;rw[Xl];exact this)
   clear gf r1 r2 r3 r4 gp gc gl;go_wp2_with fail;go_roundw
   case rel=>exact⟨i+1,hs++[(k2,fnT (kid i))],k2+1,by omega,by go_num,by simp;omega,by
    show k2+1+2*((i+1:Nat):Int)<=nx+3*(((sumN i fun i=>(kid i).size)+(kid i).size:Nat):Int)
    omega,gC,gu⟩
   case measure=>simp[intOf];omega
  ·obtain rfl:i=nk:=by omega
   have gw:¬ (i:Int)<i:=by omega
   have f0:=g9.o.goes.cell (p:=⟨w.heap.size,0,none⟩) d0 on;have gs:=HSZ.o;have gD:nxi+2*i+3<=nx+3*E.size:=by omega
   have hnk:=gA.o;have gG:1<=i:=by omega
   clear gs H5 IH HSZ HKS HPOS;obtain⟨o1,m1,V1,bt⟩:=g9.o;have g8:=Hd bt;clear bt;subst hnk;obtain⟨⟨k0,F0⟩,⟨k1',F1⟩,rfl⟩:=T2 gx;obtain⟨g,cp,rfl,g0⟩:=g9.o.cellsN (i:=2) rfl (by omega);have c0:wy.cell? ⟨g,0,none⟩=some (.int .i64 k0):=g0 0 (by omega);have c1:wy.cell? ⟨g,1,none⟩=some (.int .i64 k1'):=g0 1 (by omega);have HF:Hq (DC op F0 F1=fnT E):=Hd (by rw[hF,<- gk.o 0 (by simp),<- gk.o 1 (by simp)];rfl);have HJ:Hq (∀ W,W=wy.drew->Calls prog 64 #[Pt mb,.int .i64 op,.int .i64 k0,.int .i64 k1'] W fun x w''=>∃ k:Int,x=.returned (.tuple #[.int .i64 k,.bool true])/\k<=nxi+1/\Goes K n Od room w0 mb (fs++[(k,DC op F0 F1)]) (k+1) (NoW (M+Bf n kid 2+(2^n-1))) o1 wy w'') :=
    Hd fun W hW=>by subst hW;exact M5 HKK.o (g8.o.refl.below (Ap wy 1)) HB2.o (by omega) (by have:=HEP.o;have:=HCK.o 2;have:=HME.o;omega) (by have:=H1.o;omega) (by have:=H1.o;omega)
   clear g0;go_upto_region 39 with fail;refine AR (fun W:Wd=>W.cell? ⟨w.heap.size,0,none⟩=some (.int .i64 op)/\W.cell? ⟨g,0,none⟩=some (.int .i64 k0)/\W.cell? ⟨g,1,none⟩=some (.int .i64 k1')) false 14
    [(0,false),(1,false),(2,false),(3,false),(4,false),(5,false),(6,false),(7,false),(8,false),(9,true),(10,false),(11,false),(12,false),(13,false)] (by kernel_rfl) (by kernel_rfl) ⟨f0,c0,c1⟩ ?_
   simp only[planned,AQ]
   iterate 9
    refine A3 rfl ?_;apply Exists.intro;refine⟨fun w' hw=>?_,?_⟩
    . obtain⟨h1,h2,h3⟩:=hw;go_simp;rfl
    simp only[Ac]
   refine BR (R:=fun v w'=>∃ k:Int,v=.tuple #[.int .i64 k,.bool true]/\k<=nxi+1/\Goes K n Od room w0 mb (fs++[(k,DC op F0 F1)]) (k+1) (NoW (M+Bf n kid 2+(2^n-1))) o1 wy w') rfl (by go_simp) ((HJ.o _ rfl).mono (fun e w' he=>?_)) ?_
   . obtain⟨k,rfl,q1,q2⟩:=he;have hb:=g8.o.go q2;obtain⟨g',cp',ev,gq⟩:=hb.cellsN (i:=2) rfl (by omega);cases ev;exact⟨_,rfl,⟨hb.goes.cell (p:=⟨w.heap.size,0,none⟩) d0 on,gq 0 (by omega),gq 1 (by omega)⟩,k,rfl,q1,q2⟩
   rintro v w3-⟨k,rfl,q1,q2⟩;have gB:=Hd (HQ.o k _ w3 _ HF.o (by omega) (by have:=HEP.o;have:=HCK.o 2;omega) (g8.o.go q2).goes);clear q2 HJ;simp only[Ac]
   iterate 4
    refine A3 rfl ?_;apply Exists.intro;refine⟨fun w' hw=>?_,?_⟩
    . obtain⟨h1,h2,h3⟩:=hw;go_simp;rfl
    simp only[Ac]
   refine CM ?_;go_wp2_with fail;exact gB.o
end
section
variable {o:Own}
theorem TA {v:Int}{kid:Nat->ExT}{a:Option Addr}{E:ExT}{Q:Ending->Wd->Prop}{M:Nat}(hctx:BCtx K n Od room w0 mb fs nx M w w1 o m V op v nk kid a c E Q)(h1:op=10)(hnk:nk=3)(hF:fnT E=AV (fnT (kid 0)) (fnT (kid 1)) (fnT (kid 2))) :
 Calls prog 15 #[Pt mb,.agg #[.int .i64 op,.int .i64 v,.slice a nk c]] w Q:=by
 obtain⟨HKK,H5,HKS,HSZ,HPOS,IH,HW1,HG1,HSAT1,HWT,HB2,HQ,HMR,HCK,HCI,HEP,HME,hn64,hnx,hE1,hs1,d0,d1,d2,on,hw0,hp2,h2,h3⟩:=hctx;have g1:(op == 1)=false:=by simp;omega
 have g2:(op == 2)=false:=by simp;omega
 have g3:(op == 3)=false:=by simp;omega
 have g5:(op == 5)=false:=by simp;omega
 have g6:(op == 6)=false:=by simp;omega
 have g7:(op == 7)=false:=by simp;omega
 have g4:(op == 4)=false:=by simp;omega
 have g10:(op == 10)=true:=by simp;omega
 have gC:=Hd hnk;clear h1 hnk;obtain⟨w2,gf⟩:=Ex (w1.alloc (.cells #[] 3));have gB:Hq (_=w2):=Hd gf.symm;have gd:Bw w1 w2:=by rw[gf];exact Af _ _
 have gp:Hq (BuiS K n Od room w0 mb (fs++[]) nx (M+Bf n kid 0) o w1 (.slice (some ⟨w.heap.size+1,0,none⟩) 0 0) (([]:List (Int×BF)).map Prod.fst) w2):=Hd ⟨o,m,V,by rw[Yd];exact HSAT1.o.below gd,HWT.o,CE gd o,by rw[gf,<- hs1];exact E6 _ _ _ (WM _),fun k hk=>by cases hk;rw[<- hs1];exact HSAT1.o.lt.none (WM _)⟩;have gq:=Hd gd;clear gf gd
 delta Pt;go_enter func15,ntmps15
 go_upto_region 1 with fail;rw[HW1.o];go_upto_region 23 with fail;rw[gB.o];have e2:=Cq gq.o d2;go_wp2_with fail
 go_loopw [15,106] (fun s15 s106 wr=>∃ (i:Nat) (hs:List (Int×BF)) (nxi:Int),i<=nk/\s106=.int .i64 i/\hs.length=i/\nxi+2*i<=nx+3*((sumN i fun i=>(kid i).size:Nat):Int)/\Hq (∀ j (hj:j<hs.length),hs[j].2=fnT (kid j))/\Hq (BuiS K n Od room w0 mb (fs++hs) nxi (M+Bf n kid i) o w1 s15 (hs.map Prod.fst) wr)) (fun _ s106 _=>nk-(intOf s106).toNat)
 case atStart=>exact⟨0,[],nx,WX _,rfl,rfl,by show nx+2*((0:Nat):Int)<=nx+3*((0:Nat):Int);omega,Hd (fun j hj=>by simp at hj),gp⟩
 case round =>
  clear gp gq e2
  rename Wd=>wy
  obtain⟨i,hs,nxi,hi,rfl,gy,gH,gk,ga⟩:=hrel
  by_cases gi:i<nk
  ·obtain⟨b,off,x0,x1,x2,rfl,c0,c1,c2,hx⟩:=H5.o i gi;have gj:=ga.o.goes.below0;have q0:=Cq gj c0;have q1:=Cq gj c1;have q2:=Cq gj c2;obtain⟨zo,zv,za,zn,zc,rfl,rfl,rfl⟩:=hx.parts;have gx:(i:Int)<nk:=by omega
   have gJ:=HKS.o i gi;obtain⟨wz,ge⟩:=Ex (wy.alloc (.cells #[.int .i64 zo,.int .i64 zv,.slice za zn zc] 36));have gA:Hq (_=wz):=Hd ge.symm;have gs:Bw wy wz:=by rw[ge];exact Af _ _
   have gc:wz.heap[wy.heap.size]?=some (.cells #[.int .i64 zo,.int .i64 zv,.slice za zn zc] 36 (0,0)):=by rw[ge];exact WN _ _
   have p0:wz.cell? ⟨wy.heap.size,0,none⟩=some (.int .i64 zo):=by rw[WQ _ _ 0 _ _ _ gc];rfl
   have p1:wz.cell? ⟨wy.heap.size,1,none⟩=some (.int .i64 zv):=by rw[WQ _ _ 1 _ _ _ gc];rfl
   have p2:wz.cell? ⟨wy.heap.size,2,none⟩=some (.slice za zn zc):=by rw[WQ _ _ 2 _ _ _ gc];rfl
   obtain⟨o1,m1,V1,bt⟩:=ga.o.below gs;have gG:=HPOS.o i;have gl:=Hd (IH.o i _ (fs++hs) nxi wz o1 m1 V1 _ gi bt.sat bt.waits (HB2.o.app _) hx (by omega) (by have:=HMR.o i gi;have:=HCK.o i;omega));have gb:=Hd bt;clear gj c0 c1 c2 hx bt ge gs gc ga;go_upto_region 26 with fail;rw[gA.o];clear q0 q1 q2;go_wp2_with fail;refine gl.o.mono ?_;rintro y w3 ⟨k2,rfl,gK,gg⟩;have gn:=Hd (gb.o.go (M':=M+Bf n kid (i+1)) (gg.more (Nat.le_of_eq (Yx _ _ _))));have gE:Hq (∀ j (hj:j<(hs++[(k2,fnT (kid i))]).length),(hs++[(k2,fnT (kid i))])[j].2=fnT (kid j)):=Hd fun j hj=>by
    rcases Xe j hs.length with h|h
    . rw[YB h];exact gk.o j h
    ·have gw:j=i:=by simp at hj;omega
     subst gw;rw[Y3 (by omega)];simp
   clear gg gl gb p0 p1 p2;obtain⟨o3,m3,V3,bt3⟩:=gn.o;have gu:w1.heap.size<=w3.heap.size:=bt3.chg.size;have g0:=Hd bt3;clear bt3;go_upto_region 30 with (at_builtin;refine Ee Gn _ rfl _ _ rfl w1.heap.size _ (As (hs.map Prod.fst)) _ rfl rfl rfl rfl rfl (by exact g0.o.l.own) (by simp[As];omega) gu ?_;intro v5 w5 gh r1 r2 r3 r4 gr)
   have gv:Hq (BuiS K n Od room w0 mb (fs++(hs++[(k2,fnT (kid i))])) (k2+1) (M+Bf n kid (i+1)) o w1 v5 ((hs++[(k2,fnT (kid i))]).map Prod.fst) w5):=Hd (by
    have:=BuiS.app g0.o gh r1 r2 r3 r4 gr hw0;rw[Xf] at this;rw[Xl];exact this)
   clear gh r1 r2 r3 r4 gr g0 gn;go_wp2_with fail;go_roundw
   case rel=>exact⟨i+1,hs++[(k2,fnT (kid i))],k2+1,by omega,by go_num,by simp;omega,by
    show k2+1+2*((i+1:Nat):Int)<=nx+3*(((sumN i fun i=>(kid i).size)+(kid i).size:Nat):Int)
    omega,gE,gv⟩
   case measure=>simp[intOf];omega
  ·obtain rfl:i=nk:=by omega
   have gx:¬ (i:Int)<i:=by omega
   have f0:=ga.o.goes.cell (p:=⟨w.heap.size,0,none⟩) d0 on;have gt:=HSZ.o;have gF:nxi+2*i+3<=nx+3*E.size:=by omega
   have hnk:=gC.o;have gI:1<=i:=by omega
   clear gt H5 IH HSZ HKS HPOS;obtain⟨o1,m1,V1,bt⟩:=ga.o;have gb:=Hd bt;clear bt;subst hnk;obtain⟨⟨k0,F0⟩,⟨k1',F1⟩,⟨k2',F2⟩,rfl⟩:=T3 gy;obtain⟨g,cp,rfl,g8⟩:=ga.o.cellsN (i:=3) rfl (by omega);have c0:wy.cell? ⟨g,0,none⟩=some (.int .i64 k0):=g8 0 (by omega);have c1:wy.cell? ⟨g,1,none⟩=some (.int .i64 k1'):=g8 1 (by omega);have c2:wy.cell? ⟨g,2,none⟩=some (.int .i64 k2'):=g8 2 (by omega);have HF:Hq (AV F0 F1 F2=fnT E):=Hd (by rw[hF,<- gk.o 0 (by simp),<- gk.o 1 (by simp),<- gk.o 2 (by simp)];rfl);have HI:Hq (∀ W,W=wy.drew->Calls prog 59 #[Pt mb,.int .i64 k0,.int .i64 k1',.int .i64 k2'] W fun x w''=>x=.returned (.tuple #[.int .i64 nxi,.int .i64 0])/\Goes K n Od room w0 mb (fs++[(k0,F0),(k1',F1),(k2',F2)]++[(nxi,AV F0 F1 F2)]) (nxi+1) (NoW (M+Bf n kid 3+(2^n-1))) o1 wy w'') :=
    Hd fun W hW=>by subst hW;exact Jo HKK.o (gb.o.refl.below (Ap wy 1)) (by omega) (by have:=HEP.o;have:=HCK.o 3;have:=HME.o;omega) (by simp) (by simp) (by simp)
   clear g8;go_upto_region 36 with fail;refine AR (fun W:Wd=>W.cell? ⟨g,0,none⟩=some (.int .i64 k0)/\W.cell? ⟨g,1,none⟩=some (.int .i64 k1')/\W.cell? ⟨g,2,none⟩=some (.int .i64 k2')) false 16
    [(0,false),(1,false),(2,false),(3,false),(4,false),(5,false),(6,false),(7,false),(8,false),(9,false),(10,true),(11,false),(12,false),(13,false),(14,false),(15,false)] (by kernel_rfl) (by kernel_rfl) ⟨c0,c1,c2⟩ ?_
   simp only[planned,AQ]
   iterate 10
    refine A3 rfl ?_;apply Exists.intro;refine⟨fun w' hw=>?_,?_⟩
    . obtain⟨h1,h2,h3⟩:=hw;go_simp;rfl
    simp only[Ac]
   refine BR (R:=fun v w'=>v=.tuple #[.int .i64 nxi,.int .i64 0]/\Goes K n Od room w0 mb (fs++[(k0,F0),(k1',F1),(k2',F2)]++[(nxi,AV F0 F1 F2)]) (nxi+1) (NoW (M+Bf n kid 3+(2^n-1))) o1 wy w') rfl (by go_simp) ((HI.o _ rfl).mono (fun e w' he=>?_)) ?_
   . obtain⟨rfl,q2⟩:=he;have hb:=gb.o.go q2;obtain⟨g',cp',ev,g9⟩:=hb.cellsN (i:=3) rfl (by omega);cases ev;exact⟨_,rfl,⟨g9 0 (by omega),g9 1 (by omega),g9 2 (by omega)⟩,rfl,q2⟩
   rintro v w3 ⟨d0',d1',d2'⟩ ⟨rfl,q2⟩;obtain⟨o3,m3,V3,bt3⟩:=gb.o.go q2;have g0:=Hd bt3;clear q2 HI bt3 c0 c1 c2 ga;simp only[Ac]
   iterate 5
    refine A3 rfl ?_;apply Exists.intro;refine⟨fun w' hw=>?_,?_⟩
    . obtain⟨h1,h2,h3⟩:=hw;go_simp;rfl
    simp only[Ac]
   refine CM ?_;have HD:Hq (∀ W T,Bw w3 W->T=W.alloc (.cells #[.int .i64 k0,.int .i64 k1',.int .i64 k2'] 3)->Calls prog 65 #[Pt mb,.slice (some ⟨W.heap.size,0,none⟩) 3 3] T fun x w''=>x=.returned (.int .i64 0)/\Goes K n Od room w0 mb (fs++[(nxi,AV F0 F1 F2)]) (nxi+1) (NoW (M+Bf n kid 3+(2^n-1))) o3 w3 w'') :=
    Hd fun W T hW hT=>Gw HKK.o (hs:=[(k0,F0),(k1',F1),(k2',F2)]) (r:=[(nxi,AV F0 F1 F2)]) (by have:=g0.o.refl;rw[Xf] at this;exact this.below hW) HB2.o (by omega) (by simp) hT
   go_upto_region 37 with fail;refine AR (fun W:Wd=>W.cell? ⟨g,0,none⟩=some (.int .i64 k0)/\W.cell? ⟨g,1,none⟩=some (.int .i64 k1')/\W.cell? ⟨g,2,none⟩=some (.int .i64 k2')) false 20
    [(0,false),(1,false),(2,false),(3,false),(4,false),(5,false),(6,false),(7,false),(8,false),(9,false),(10,false),(11,false),(12,false),(13,false),(14,true),(15,true),(16,false),(17,false),(18,false),(19,false)] (by kernel_rfl) (by kernel_rfl) ⟨d0',d1',d2'⟩ ?_
   simp only[planned,AQ]
   iterate 4
    refine A3 rfl ?_;apply Exists.intro;refine⟨fun w' hw=>?_,?_⟩
    . obtain⟨h1,h2,h3⟩:=hw;go_simp;rfl
    simp only[Ac]
   iterate 10
    refine Ia true (by go_simp) ?_;apply Exists.intro;refine⟨fun gz w' hw=>?_,?_⟩
    . obtain⟨h1,h2,h3⟩:=hw;go_simp;rfl
    simp only[Ac]
   have gm:=Af w3.drew (.cells #[.int .i64 k0,.int .i64 k1',.int .i64 k2'] 3);refine T0 (v:=.slice (some ⟨w3.heap.size,0,none⟩) 3 3) (w':=w3.drew.alloc (.cells #[.int .i64 k0,.int .i64 k1',.int .i64 k2'] 3)) (by go_simp) (by go_simp) ⟨(gm.cell (p:=⟨g,0,none⟩) (Ag (w:=w3.drew) d0')).trans d0',(gm.cell (p:=⟨g,1,none⟩) (Ag (w:=w3.drew) d1')).trans d1',(gm.cell (p:=⟨g,2,none⟩) (Ag (w:=w3.drew) d2')).trans d2'⟩ ?_;simp only[Ac];refine T1 (R:=fun v w'=>v=.int .i64 0/\Goes K n Od room w0 mb (fs++[(nxi,AV F0 F1 F2)]) (nxi+1) (NoW (M+Bf n kid 3+(2^n-1))) o3 w3 w') (by go_simp) (by go_simp) ((HD.o w3.drew _ (Ap w3 1) rfl).mono (fun e w' he=>?_)) ?_
   . obtain⟨rfl,q2⟩:=he;have hb:=g0.o.go q2;obtain⟨g',cp',ev,g9⟩:=hb.cellsN (i:=3) rfl (by omega);cases ev;exact⟨_,rfl,⟨g9 0 (by omega),g9 1 (by omega),g9 2 (by omega)⟩,rfl,q2⟩
   rintro v w4-⟨rfl,q2⟩;have gD:=Hd (HQ.o nxi _ w4 _ HF.o (by omega) (by have:=HEP.o;have:=HCK.o 3;omega) (g0.o.go q2).goes);clear q2 HD;simp only[Ac]
   iterate 1
    refine Ia true (by go_simp) ?_;apply Exists.intro;refine⟨fun gz w' hw=>?_,?_⟩
    . obtain⟨h1,h2,h3⟩:=hw;go_simp;rfl
    simp only[Ac]
   iterate 3
    refine A3 rfl ?_;apply Exists.intro;refine⟨fun w' hw=>?_,?_⟩
    . obtain⟨h1,h2,h3⟩:=hw;go_simp;rfl
    simp only[Ac]
   refine CM ?_;go_wp2_with fail;exact gD.o
end
section
theorem MF (hK:A5 K):∀ (e:ExT) (x:Value) (fs:List (Int×BF)) (nx:Int) (w:Wd) (o:Own) (m:ManD) (V:Nat->BF) (M:Nat),SatE K n Od room w0 mb fs nx w o m V->m.waits=[]/\m.d.pool.many<=M->B2 fs->Gr e->(∀ v∈AG e,v<(n:Int))->A0 w0 e x->nx+3*e.size<549755813000->M+e.size*2^n<=room ->
 Calls prog 15 #[Pt mb,x] w fun y w'=>∃ k:Int,y=.returned (.tuple #[.int .i64 k,.bool true])/\k+3<=nx+3*e.size/\Goes K n Od room w0 mb (fs++[(k,fnT e)]) (k+1) (NoW (M+BU n e.size)) o w w'
 | .nil,x,fs,nx,w,o,m,V,M,_,_,_,hv,_,_,_,_=>hv.elim
 | .mk op v nk kid,x,fs,nx,w,o,m,V,M,hsat,hwt,hb2,hval,hvars,h,hnx,hroom=>by
   unfold A0 at h;obtain⟨a,c,rfl,h2,h3,h4,h5⟩:=h;obtain⟨v1,v2,v3,v4,v5,v6⟩:=hval;obtain⟨k1,k2,k3⟩:=MA v1;have hblk:(w.alloc (.cells #[.int .i64 op,.int .i64 v,.slice a nk c] 36)).heap[w.heap.size]?=some (.cells #[.int .i64 op,.int .i64 v,.slice a nk c] 36 (0,0)):=WN _ _;have hb1:=Af w (.cells #[.int .i64 op,.int .i64 v,.slice a nk c] 36);have hep:(ExT.mk op v nk kid).size*2^n=2^n+(sumN nk fun i=>(kid i).size)*2^n:=by
    show (1+sumN nk fun i=>(kid i).size)*2^n=_
    rw[XV,Nat.one_mul]
   have g0:BCtx K n Od room w0 mb fs nx M w (w.alloc (.cells #[.int .i64 op,.int .i64 v,.slice a nk c] 36)) o m V op v nk kid a c (ExT.mk op v nk kid) (fun y w'=>∃ k:Int,y=.returned (.tuple #[.int .i64 k,.bool true])/\k+3<=nx+3*(ExT.mk op v nk kid).size/\Goes K n Od room w0 mb (fs++[(k,fnT (ExT.mk op v nk kid))]) (k+1) (NoW (M+BU n (ExT.mk op v nk kid).size)) o w w'):=by
    refine⟨Hd hK,Hd h5,Hd fun i hi=>?_,Hd rfl,Hd (MD fun i=>(kid i).size_pos),Hd fun i x fs' nx' W o' m' V' M' hi q1 q2 q3 q4 q5 q6=>MF hK (kid i) x fs' nx' W o' m' V' M' q1 q2 q3 (v6 i hi) (fun u hu=>hvars u (by unfold AG;exact YN _ (Mw hi hu))) q4 q5 q6,Hd rfl,Hd (Goes.refl (hsat.below hb1) hwt),Hd (hsat.below hb1),Hd hwt,Hd hb2,Hd ?_,Hd fun i hi=>?_,Hd (ME n kid),Hd fun i=>Gx n (kid i).size_pos,Hd ⟨hep,Gx n (ExT.size_pos _)⟩,Hd hroom,by omega,hnx,ExT.size_pos _,by simp,by rw[WQ _ _ 0 _ _ _ hblk];rfl,by rw[WQ _ _ 1 _ _ _ hblk];rfl,by rw[WQ _ _ 2 _ _ _ hblk];rfl,hsat.lt.none (WM _),?_,XW (by omega),h2,h3⟩
    ·have:=Ef (f:=fun i=>(kid i).size) hi
     show _<=1+sumN nk fun i=>(kid i).size
     omega
    . rintro k F W M' rfl hk hm g;exact⟨k,rfl,hk,(g.more hm).after (CE hb1 o)⟩
    . have h1:=Ef (f:=fun i=>(kid i).size) hi;have h2:=X7 (2^n) h1;rw[XV] at h2;omega
    . have:=hsat.chg.size;simp;omega
   rcases(show op=1\/op=2\/op=3\/(op=5\/op=6\/op=7)\/op=4\/(op=8\/op=9)\/op=10 by omega) with h1|h1|h1|h1|h1|h1|h1
   . exact T4 g0 h1 (by subst h1;exact Mv (.inl rfl) v nk kid)
   . exact T5 g0 h1 (by subst h1;exact Mv (.inr rfl) v nk kid)
   . have e1:=v2 h1;have e2:=hvars v (by unfold AG;rw[WR h1];simp);obtain⟨u,rfl⟩:∃ u:Nat,v=u:=⟨v.toNat,by omega⟩;exact T6 g0 (u:=u) (by omega) h1 rfl (by subst h1;exact Td u nk kid)
   . exact T7 g0 h1 (SY h1 v nk kid)
   ·have e:nk=1:=by subst h1;simp[Bb] at v4 v5;omega
    exact T8 g0 h1 e (by subst h1;subst e;exact Ta v kid)
   ·have e:nk=2:=by rcases h1 with rfl|rfl<;>(simp[Bb] at v4 v5;omega)
    exact T9 g0 h1 e (by subst e;exact Tc h1 v kid)
   ·have e:nk=3:=by subst h1;simp[Bb] at v4 v5;omega
    exact TA g0 h1 e (by subst h1;subst e;exact Tb v kid)
end
theorem An.chgX {o:Own}{a:Option Addr}(h:An w a zs)(hc:ChgX C o o' w w')(hn:0<zs.length->∀ x,a=some x->o x.block=none/\¬ C x.block):An w' a zs :=
 ⟨h.len,fun k hk=>by
  obtain⟨b,off,rfl,c⟩:=h.cells k hk;have:=hn (by omega) _ rfl;exact⟨b,off,rfl,hc.cell c this.1 this.2⟩⟩
def ArrI (K:Law)(n room:Nat)(w0:Wd)(mb:Nat)(fs:List (Int×BF))(nx:Int)(o:Own)(w:Wd)(m:ManD)(P:List Nat->Prop)(W:Wd):Prop :=
 ∃ o' m' V',SatE K n P room w0 mb fs nx W o' m' V'/\m'.waits=m.waits/\m'.calls=m.calls/\ChgX NoB o o' w W/\(m'.d.pool.many<=m.d.pool.many\/m'.d.pool.many<=fs.length*2^n)
section
variable {o:Own}{P:List Nat->Prop}
theorem ArrI.below (h:ArrI K n room w0 mb fs nx o w m P W)(hb:Bw W W'):ArrI K n room w0 mb fs nx o w m P W':=by
 obtain⟨o',m',V',h1,h2,h3,h4,h5⟩:=h;exact⟨o',m',V',h1.below hb,h2,h3,h4.trans (CE hb o') (fun _ _ e=>e),h5⟩
theorem ArrI.imp (h:ArrI K n room w0 mb fs nx o w m P W){P':List Nat->Prop}(hP:∀ l,l.length=n->P l->P' l):ArrI K n room w0 mb fs nx o w m P' W:=by
 obtain⟨o',m',V',h1,h2,h3,h4,h5⟩:=h;exact⟨o',m',V',h1.withOd (hP _ h1.vars h1.od),h2,h3,h4,h5⟩
theorem ArrI.swap (h:ArrI K n room w0 mb fs nx o w m P W)(hk1:k+1<n)(hn:nx<=549755813888)(hr:3*(fs.length*2^n)<=room){P':List Nat->Prop}(hP:∀ l,l.length=n->P l->P' (exL l k)) :
 Calls prog 129 #[Pt mb,.int .i64 k] W fun e w'=>e=.returned (.int .i64 0)/\ArrI K n room w0 mb fs nx o w m P' w':=by
 obtain⟨o',m',V',h1,h2,h3,h4,h5⟩:=h;refine(S7 h1 hk1 hn hr).mono ?_;rintro e w' ⟨rfl,o2,m2,V2,s⟩;refine⟨rfl,o2,m2,V2,s.sat.withOd ?_,s.waits.trans h2,s.calls.trans h3,h4.trans (ChgX.of_chg s.chg NoB) (fun _ _ e=>e),.inr (s.sat.few s.dead)⟩;rw[s.sat.od,Tl];exact hP _ h1.vars h1.od
theorem TB (h:SatE K n Od room w0 mb fs nx w o m V)(hn:nx<=549755813888)(hr:3*(fs.length*2^n)<=room){a:Option Addr}(hz:An w a zs)(hno:0<zs.length->∀ x,a=some x->o x.block=none)(hp:zs.length=0\/Jj zs n) :
 Calls prog 75 #[Pt mb,.slice a zs.length c] w fun x w'=>x=.returned (.bool true)/\ArrI K n room w0 mb fs nx o w m (fun l=>∀ j,j<zs.length->((l.getD j 0:Nat):Int)=at0 zs j) w':=by
 have gG:=hz.len;have hn64:n<=64:=by have:=h.ok.store.small;rw[h.vars] at this;exact this
 have HZ:Hq (∀ W P,ArrI K n room w0 mb fs nx o w m P W->An W a zs):=Hd fun W P ⟨o',m',V',_,_,_,h4,_⟩=>hz.chgX h4 fun h0 x hx=>⟨hno h0 x hx,fun e=>e⟩
 have gd:Hq (∀ W P,ArrI K n room w0 mb fs nx o w m P W->Calls prog 44 #[Pt mb] W fun x w'=>∃ (a:Option Addr) (c:Nat) (l:List Nat),x=.returned (.slice a n c)/\l.length=n/\An w' a (l.map Int.ofNat)/\P l/\(∀ v,v<n->∃ i,i<n/\l.getD i 0=v)/\(∀ i j,i<n->j<n->l.getD i 0=l.getD j 0->i=j)/\Bw W w'/\ArrI K n room w0 mb fs nx o w m (fun l'=>l'=l) w'):=by
  refine Hd fun W P hA=>?_
  obtain⟨o',m',V',h1,h2,h3,h4,h5⟩:=hA;refine(QJ h1.is h1.lt (by rw[h1.vars];exact hn64)).mono ?_;rintro x w' ⟨v,rfl,hv,hb⟩;obtain⟨av,cv,rfl,gr,_⟩:=hv.sliceIs (by simp[h1.vars];omega);refine⟨av,cv,m'.d.vars,by rw[Xy,h1.vars],h1.vars,gr,h1.od,fun v hv=>?_,fun i j hi hj e=>?_,hb,o',m',V',(h1.below hb).withOd rfl,h2,h3,h4.trans (CE hb o') (fun _ _ e=>e),h5⟩
  . have:=h1.ok.store.mem (v:=v) (by rw[h1.vars];exact hv);rw[h1.vars] at this;exact this
  . exact h1.ok.store.inj (by rw[h1.vars];exact hi) (by rw[h1.vars];exact hj) e
 have gi:Hq (∀ W P,ArrI K n room w0 mb fs nx o w m P W->∀ (k:Nat),k+1<n->∀ P':List Nat->Prop,(∀ l,l.length=n->P l->P' (exL l k))->Calls prog 129 #[Pt mb,.int .i64 k] W fun e w'=>e=.returned (.int .i64 0)/\ArrI K n room w0 mb fs nx o w m P' w') :=
  Hd fun W P hA k hk P' hP=>hA.swap hk hn hr hP
 have HP:=Hd hp;obtain⟨R,hR⟩:=Ex (ArrI K n room w0 mb fs nx o w m:(List Nat->Prop)->Wd->Prop);have gC:Hq (R (fun l=>∀ j,j<0->((l.getD j 0:Nat):Int)=at0 zs j) w):=Hd (by rw[hR];exact⟨o,m,V,h.withOd (fun j hj=>by omega),rfl,rfl,ChgX.of_below (Xd _ _) o NoB,.inl (WM _)⟩);have gz:Hq (∀ P W W',R P W->Bw W W'->R P W'):=Hd (by rw[hR];intro P W W' h1 h2;exact h1.below h2);have gj:Hq (∀ P P' W,R P W->(∀ l,l.length=n->P l->P' l)->R P' W):=Hd (by rw[hR];intro P P' W h1 h2;exact h1.imp h2);rw[<- hR] at HZ gd gi ⊢;clear h hz hno hp hr hn hR
 delta Pt;go_enter func75,ntmps75
 go_wp2_with fail
 go_loopw [5,6,7] (fun s5 s6 s7 wr=>∃ i:Nat,i<=zs.length/\s5=.int .i64 i/\Hq (R (fun l=>∀ j,j<i->((l.getD j 0:Nat):Int)=at0 zs j) wr)) (fun s5 _ _ _=>zs.length-(intOf s5).toNat)
 case atStart=>exact⟨0,WX _,rfl,gC⟩
 case round =>
  obtain⟨i,hi,rfl,HR⟩:=hrel
  by_cases gv:i<zs.length
  ·have gw:(i:Int)<zs.length:=by omega
   have g3:Jj zs n:=by
    rcases HP.o with e|e
    . omega
    . exact e
   have gp:zs.length=n:=g3.len;obtain⟨zi,gq,ezi⟩:=g3.lt i (by omega);have gm:=Hd (gd.o wr _ HR.o);have go:=Hd g3.inj;clear g3;go_wp2_with fail;refine gm.o.mono ?_;rintro x w3 ⟨av,cv,l,rfl,gg,gh,g8,ga,gb,gy,g6⟩;obtain⟨p,gf,g7⟩:=ga zi gq;have gx:i<=p:=by
    rcases Xe p i with h|h
    . exfalso;have e1:=g8 p h;rw[g7,<- ezi] at e1;have:=go.o i p (by omega) gf e1;omega
    . exact h
   have gn:=Hd gh;have gD:=Hd g8;have g5:=Hd g7;have gE:=Hd gb;have gl:=Hd g6;have gN:((n:Int) != (zs.length:Int))=false:=by rw[gp];simp
   obtain⟨bz,oz,ea,cz⟩:=(HZ.o w3 _ g6).cells i gv;subst ea;rw[ezi] at cz;have EZI:=Hd ezi;clear gh g8 g7 gb g6 ga gm gy ezi;go_wp2_with fail
   go_loopw [7] (fun s7 wr=>∃ q:Nat,i<=q/\q<=p/\s7=.int .i64 q/\Hq (Bw w3 wr)) (fun s7 _=>p-(intOf s7).toNat)
   case atStart=>exact⟨i,WM _,gx,rfl,Hd (Xd _ _)⟩
   case round =>
    rename Wd=>wq
    obtain⟨q,gu,gM,rfl,g0⟩:=hrel;have gK:(q:Int)<(n:Int):=by omega
    have g4:q<n:=by omega
    obtain⟨bv,ov,rfl,cq⟩:=(gn.o.below g0.o).cells q (by rw[Xy,gg];exact g4);have cz':=Cq g0.o cz;rw[Ti (by rw[gg];exact g4)] at cq;obtain⟨y,hy⟩:=Ex (l.getD q 0);rw[<- hy] at cq;have HY:=Hd hy;clear hy;go_upto_region 8 with fail;refine AR (fun W:Wd=>W.cell? ⟨bv,ov+q,none⟩=some (.int .i64 (y:Nat))/\W.cell? ⟨bz,oz+i,none⟩=some (.int .i64 (zi:Nat))/\Hq (Bw w3 W)) false 15
     [(0,false),(1,false),(2,false),(3,false),(4,false),(5,false),(6,false),(7,false),(8,false),(9,false),(10,false),(11,false),(12,false),(13,false),(14,false)] (by kernel_rfl) (by kernel_rfl) ⟨cq,cz',Hd (g0.o.trans ((Ap wq 1).mono g0.o.size))⟩ ?_
    simp only[planned,AQ]
    iterate 5
     refine A3 rfl ?_;apply Exists.intro;refine⟨fun w' hw=>?_,?_⟩
     . obtain⟨h1,h2,_⟩:=hw;go_simp;rfl
     simp only[Ac]
    iterate 9
     refine Ia true (by go_simp) ?_;apply Exists.intro;refine⟨fun gO w' hw=>?_,?_⟩
     . obtain⟨h1,h2,_⟩:=hw;go_simp;rfl
     simp only[Ac]
    iterate 1
     refine A3 rfl ?_;apply Exists.intro;refine⟨fun w' hw=>?_,?_⟩
     . obtain⟨h1,h2,_⟩:=hw;go_simp;rfl
     simp only[Ac]
    refine CM ?_
    by_cases gJ:q<p
    ·have g9:((y:Int) != (zi:Int))=true:=by
      simp only[bne_iff_ne,ne_eq];intro e;have e2:l.getD q 0=l.getD p 0:=by rw[g5.o,<- HY.o];omega
      have:=gE.o q p g4 gf e2;omega
     go_wp2_with fail;go_roundw
     case rel=>exact⟨q+1,by omega,by omega,by go_num,Hd (g0.o.trans ((Ap wq 1).mono g0.o.size))⟩
     case measure=>simp[intOf];omega
    ·obtain rfl:q=p:=by omega
     have g9:((y:Int) != (zi:Int))=false:=by
      have:y=zi:=by rw[HY.o,g5.o]
      rw[this];simp
     have gL:((q:Int) == (n:Int))=false:=by simp;omega
     have gk:Hq (R (fun l'=>(∀ j,j<i->((l'.getD j 0:Nat):Int)=at0 zs j)/\l'.getD q 0=zi) wq.drew):=Hd (by
      have h1:=gz.o _ _ _ gl.o (g0.o.trans ((Ap wq 1).mono g0.o.size));exact gj.o _ _ _ h1 fun l' _ e=>by subst e;exact⟨gD.o,g5.o⟩)
     rw[g9];clear gl g0 gn cq cz cz' g9;go_wp2_with fail
     go_loopw [4,7] (fun s4 s7 wr=>∃ q:Nat,i<=q/\q<n/\s7=.int .i64 q/\Hq (R (fun l'=>(∀ j,j<i->((l'.getD j 0:Nat):Int)=at0 zs j)/\l'.getD q 0=zi) wr)) (fun _ s7 _=>(intOf s7).toNat)
     case atStart=>exact⟨q,gu,g4,rfl,gk⟩
     case round =>
      clear gk HY g5
      rename Wd=>wt
      obtain⟨t,gI,gt,rfl,gc⟩:=hrel
      by_cases gH:i<t
      ·obtain⟨t',rfl⟩:∃ t',t=t'+1:=⟨t-1,by omega⟩;have gs:((t'+1:Nat):Int)>i:=by omega
       have HS:=Hd (gi.o wt _ gc.o t' gt (fun l'=>(∀ j,j<i->((l'.getD j 0:Nat):Int)=at0 zs j)/\l'.getD t' 0=zi) (fun l' hl ⟨g1,g2⟩=>⟨fun j hj=>by rw[Tk (by omega) (by omega)];exact g1 j hj,by rw[Tj (by omega)];exact g2⟩));have gF:((t'+1:Nat):Int)-1=(t':Nat):=by omega
       go_upto_region 14 with fail;go_wp2_with fail;refine HS.o.mono ?_;rintro x w5 ⟨rfl,ge⟩;have gB:=Hd ge;clear ge HS gc;go_wp2_with fail;go_roundw
       case rel=>exact⟨t',by omega,by omega,by go_num,gB⟩
       case measure=>simp[intOf]
      ·obtain rfl:t=i:=by omega
       have gA:Hq (R (fun l=>∀ j,j<t+1->((l.getD j 0:Nat):Int)=at0 zs j) wt):=Hd (by
        refine gj.o _ _ _ gc.o fun l' _ ⟨g1,g2⟩ j hj=>?_
        rcases Xe j t with h|h
        . exact g1 j h
        ·obtain rfl:j=t:=by omega
         rw[g2,EZI.o])
       have gs:¬ (t:Int)>t:=by omega
       go_wp2_with fail;go_roundw
       case rel=>exact⟨t+1,by omega,by go_num,gA⟩
       case measure=>simp[intOf];omega
  ·have he:i=zs.length:=by omega
   have gw:¬ (i:Int)<zs.length:=by omega
   go_wp2_with fail;go_ret;exact⟨rfl,by rw[<- he];exact HR.o⟩
end
theorem TC (i n:Nat)(hi:i<=1048576)(hn:n<=16)(w:Wd):Calls prog 131 #[.int .i64 i,.int .i64 n] w fun x w'=>∃ v,x=.returned v/\OwnB w' w.heap.size v (AP i n)/\Bw w w':=by
 go_enter func131,ntmps131
 go_wp2_with fail
 go_loopw [0,5,6] (fun s0 s5 s6 wr=>∃ j q:Nat,j<=n/\q<=1048576/\s6=.int .i64 j/\s0=.int .i64 q/\Hq (i/2^j=q)/\OwnB wr w.heap.size s5 (AP i j)/\w.heap.size<=wr.heap.size/\Bw w wr) (fun _ _ s6 _=>n-(intOf s6).toNat)
 case atStart=>exact⟨0,i,WX _,hi,rfl,rfl,Hd (by simp),E6 _ w _ (WM _),by simp,Af w _⟩
 case round =>
  obtain⟨j,q,hj,hq,rfl,rfl,HQ,g0,g5,g1⟩:=hrel
  by_cases g7:j<n
  ·have HB:Hq (((q:Int).tmod 2 == 1)=bitB i j):=by
    refine Hd ?_;rw[tmod2];unfold bitB;rw[HQ.o]
   have g2:=Hd g0;have g3:=Hd g1;clear g0 g1;go_wp2_with (at_builtin;refine Ee Ed _ rfl _ _ rfl w.heap.size _ (AO (AP i j)) _ rfl rfl rfl rfl rfl (by exact g2.o) (by simp[AO,Mh];omega) g5 ?_;intro v1 w1 g4 e1 e2 e3 e4 g6);go_roundw
   case rel =>
    refine⟨j+1,q/2,by omega,by omega,by go_num,by go_num,Hd ?_,?_,by omega,Jg g3.o g2.o e1 e2 e3 e4 g6 g5⟩
    . rw[X4,<- Nat.div_div_eq_div_mul,HQ.o]
    . rw[SI];unfold OwnB;rw[Jq,<- HB.o];exact g4
   case measure=>simp[intOf];omega
  ·have he:j=n:=by omega
   subst he;have g2:=Hd g0;have g3:=Hd g1;clear g0 g1;go_wp2_with fail;go_ret;exact⟨_,rfl,g2.o,g3.o⟩
theorem TD {ST:TypeId}{z:Value}(E:Ec T ST z b)(ty:TypeId)(wr:Wd)(base:Nat)(v:Value)(xs:List Value)(y:Value)(hy:y.oneCell'=true)(hown:OwnC T wr base v xs)(hlen:xs.length<1099511627776)(hbase:base<=wr.heap.size) :
 ∃ v' w',(Builtin.append_ #[ST,ST] ty #[v,.slice (some ⟨wr.heap.size,0,none⟩) 1 1]).run prog (wr.alloc (.cells #[y] T))=.ok v' w' /\
  OwnC T w' base v' (xs++[y])/\w'.os=wr.os/\w'.tape=wr.tape/\w'.output=wr.output/\wr.heap.size<=w'.heap.size/\Cf v v' wr w':=by
 obtain⟨i,hi,hz,g1,g3⟩:=Y9 E.info;have g2:=E.small;obtain⟨v',w',hr,h1,h2,_,g0⟩:=run_append_own_at (P:=prog) (wr.alloc (.cells #[y] T)) base ST ty T i z 1 b E.under hi hz g1 g3 (by rw[E.one];rfl) (by decide)
  v xs.length xs (hown.alloc _) ⟨wr.heap.size,0,none⟩ 1 1 [y] rfl (cell_one_new _ _ _) (by intro u hu;simp at hu;subst hu;exact hy) (by unfold maxLen;omega) (by
   have h1:(xs.length+1)*b<=1099511627776*100:=Nat.mul_le_mul (by omega) g2;omega) (by simp;omega)
 refine⟨v',w',hr,?_,h2.os,h2.tape,h2.output,?_,⟨GS h2,g0.imp id fun e=>⟨_,e,by simp⟩⟩⟩
 . unfold OwnC;rw[WY];exact h1
 . have:=h2.size;simp at this;omega
theorem OwnC.lower {base:Nat}(h:OwnC T w base v xs)(hb:b<=base):OwnC T w b v xs:=by
 refine⟨h.1,?_⟩;rcases h.2 with hn|⟨g,cap,cur,rfl,g0,rest⟩
 . exact .inl hn
 . exact .inr ⟨g,cap,cur,rfl,by omega,rest⟩
theorem TE (e:ExT)(x:Value)(n:Nat)(hn:n<=12)(w:Wd)(hs:e.size<=4096)(hok:okT e 1)(h:A0 w e x) :
 Calls prog 76 #[x,.int .i64 n] w fun y w'=>∃ v,y=.returned v/\OwnB w' w.heap.size v (tabB n (fnT e))/\Bw w w':=by
 have gt:Hq (∀ W,Bw w W->∀ u,u=x->Calls prog 56 #[u] W (Bl (.int .i64 0) W)):=Hd fun W hb u hu=>by
  subst hu
  exact(Jh e _ W hs (h.below hb)).mono (by
   rintro y w' ⟨err,rfl,h1,h2⟩;rw[h1.2 hok];exact⟨rfl,h2⟩)
 have gx:Hq (∀ W,Bw w W->∀ u,u=x->∀ (ls:List Bool) al cl,Cz W al ls->Calls prog 130 #[u,.slice al ls.length cl] W (Bl (.bool (fnT e (A6 ls))) W)):=Hd fun W hb u hu ls al cl hl=>by
  subst hu;exact MC ls al cl e _ W hok.valid (h.below hb) hl
 have gi:Hq (∀ j,j<=1048576->∀ W,Calls prog 131 #[.int .i64 (j:Nat),.int .i64 n] W fun x w'=>∃ v,x=.returned v/\OwnB w' W.heap.size v (AP j n)/\Bw W w'):=Hd fun j hj W=>TC j n hj (by omega) W
 have HS:Hq (∀ k,k<=n->2^k<=4096):=Hd fun k hk=>WU (Xo (by omega) (show k<=12 by omega)) (by decide)
 obtain⟨x0,x1,x2,hx,o0,o1,o2⟩:=h.agg;subst hx;obtain⟨w1,g5⟩:=Ex (w.alloc (.cells #[x0,x1,x2] 36));have HW1:Hq (_=w1):=Hd g5.symm;have g7:Hq (Bw w w1):=by rw[g5];exact Hd (Af _ _)
 have g4:w1.heap[w.heap.size]?=some (.cells #[x0,x1,x2] 36 (0,0)):=by rw[g5];exact WN _ _
 have hs1:w1.heap.size=w.heap.size+1:=by rw[g5];simp
 have d0:w1.cell? ⟨w.heap.size,0,none⟩=some x0:=by rw[WQ _ _ 0 _ _ _ g4];rfl
 have d1:w1.cell? ⟨w.heap.size,1,none⟩=some x1:=by rw[WQ _ _ 1 _ _ _ g4];rfl
 have d2:w1.cell? ⟨w.heap.size,2,none⟩=some x2:=by rw[WQ _ _ 2 _ _ _ g4];rfl
 obtain⟨L,hL⟩:=Ex (2^n);have gC:=Hd hL;obtain⟨G,hG⟩:=Ex (fun i=>fnT e (A6 (AP i n)):Nat->Bool)
 have HG:Hq (∀ i,fnT e (A6 (AP i n))=G i):=Hd fun i=>by rw[hG]
 have HT:Hq (tabB n (fnT e)=(List.range L).map G):=Hd (by rw[hL,hG];rfl);have gI:L<=4096:=by rw[hL];exact HS.o n (WM _)
 rw[HT.o];clear h g5 g4 hG hL
 go_enter func76,ntmps76
 go_upto_region 1 with fail;rw[HW1.o];have gH:¬ (n:Int)<0:=by omega
 have gF:¬ (n:Int)>12:=by omega
 go_wp2_with fail;refine(gt.o _ g7.o _ rfl).mono ?_;rintro y w2 ⟨rfl,gq⟩;have HB2:=Hd gq;clear gq gt;go_wp2_with fail
 go_loopw [5,6] (fun s5 s6 wr=>∃ k p:Nat,k<=n/\s5=.int .i64 p/\s6=.int .i64 k/\Hq (wr=w2)/\Hq (2^k=p)) (fun _ s6 _=>n-(intOf s6).toNat)
 case atStart=>exact⟨0,1,WX _,rfl,rfl,Hd rfl,Hd rfl⟩
 case round =>
  obtain⟨k,p,hk,rfl,rfl,gf,HP⟩:=hrel;have gG:p<=4096:=by rw[<- HP.o];exact HS.o k hk
  by_cases gl:k<n
  ·go_wp2_with fail;go_roundw
   case rel=>exact⟨k+1,2*p,by omega,by go_num,by go_num,gf,Hd (by rw[X4,HP.o];omega)⟩
   case measure=>simp[intOf];omega
  ·obtain rfl:k=n:=by omega
   obtain rfl:p=L:=by rw[<- HP.o,gC.o]
   have gz:=gf.o;subst gz;obtain⟨w3,g8⟩:=Ex (wr.alloc (.cells #[] 4));have gr:Hq (_=w3):=Hd g8.symm;have ge:Bw w1 w3:=by rw[g8];exact HB2.o.trans ((Af _ _).mono HB2.o.size)
   have gg:Hq (OwnB w3 w1.heap.size (.slice (some ⟨wr.heap.size,0,none⟩) 0 0) []):=by rw[g8];exact Hd (E6 _ _ _ HB2.o.size)
   have gv:=Hd ge;have gj:w1.heap.size<=w3.heap.size:=ge.size;clear g8 ge gl;go_upto_region 9 with fail;rw[gr.o];go_wp2_with fail
   go_loopw [7,8] (fun s7 s8 wr=>∃ j:Nat,j<=p/\s8=.int .i64 j/\Hq (OwnB wr w1.heap.size s7 ((List.range j).map G))/\Hq (Bw w1 wr)/\w1.heap.size<=wr.heap.size) (fun _ s8 _=>p-(intOf s8).toNat)
   case atStart=>exact⟨0,WX _,rfl,gg,gv,gj⟩
   case round =>
    clear gg gv gj gr gf HB2
    rename Wd=>wq
    obtain⟨j,hj,rfl,gs,g3,gA⟩:=hrel
    by_cases gl:j<p
    ·have e0:=Cq g3.o d0;have e1:=Cq g3.o d1;have e2:=Cq g3.o d2;have HL:=Hd (gi.o j (by omega) wq.drew);go_upto_region 12 with fail;refine AR (fun W:Wd=>W.cell? ⟨w.heap.size,0,none⟩=some x0/\W.cell? ⟨w.heap.size,1,none⟩=some x1/\W.cell? ⟨w.heap.size,2,none⟩=some x2) false 9
      [(0,false),(1,false),(2,false),(3,false),(4,true),(5,true),(6,true),(7,true),(8,false)] (by kernel_rfl) (by kernel_rfl) ⟨e0,e1,e2⟩ ?_
     simp only[planned,AQ]
     iterate 4
      refine A3 rfl ?_;apply Exists.intro;refine⟨fun w' hw=>?_,?_⟩
      . obtain⟨h1,h2,h3⟩:=hw;go_simp;rfl
      simp only[Ac]
     refine BR (R:=fun v w'=>AS w' v (AP j k)/\Bw wq w') rfl (by go_simp) (HL.o.mono (fun e w' he=>?_)) ?_
     . obtain⟨v,rfl,q1,q2⟩:=he;have q3:Bw wq w':=(Ap wq 1).trans (q2.mono (Ap wq 1).size);exact⟨v,rfl,⟨(Cq q3 e0),(Cq q3 e1),(Cq q3 e2)⟩,q1.boolsIs (by rw[Mh];omega),q3⟩
     rintro v w4 ⟨f0,f1,f2⟩ ⟨⟨av,cv,rfl,gn,-⟩,gp⟩;have gu:=Hd gn;have gc:=Hd gp;clear gn gp e0 e1 e2 HL;simp only[Ac];refine BR (R:=fun v w'=>v=.bool (G j)/\Bw w4 w') rfl (by go_simp) ((gx.o w4 (g7.o.trans ((g3.o.trans (gc.o.mono g3.o.size)).mono g7.o.size)) _ rfl (AP j k) av cv gu.o).mono (fun e w' he=>?_)) ?_
     . obtain⟨rfl,q3⟩:=he;exact⟨_,rfl,⟨(Cq q3 f0),(Cq q3 f1),(Cq q3 f2)⟩,by rw[HG.o],q3⟩
     rintro v w5 ⟨g0,g1,g2⟩ ⟨rfl,go⟩;obtain⟨y,hy⟩:=Ex (G j);rw[<- hy];have gB:Hq (AO ((List.range (j+1)).map G)=AO ((List.range j).map G)++[.bool y]):=Hd (by rw[MB,Jq,hy]);have ga:=gc.o.trans (go.mono gc.o.size);have gE:=Hd (g3.o.trans (ga.mono g3.o.size));have gh:=Hd (gs.o.below ga);have gd:w1.heap.size<=w5.heap.size:=WU gA ga.size;clear go ga f0 f1 f2 hy gu gc;simp only[Ac];have gb:=Af w5 (.cells #[.bool y] 4);refine FJ (v:=.slice (some ⟨w5.heap.size,0,none⟩) 1 1) (w':=w5.alloc (.cells #[.bool y] 4)) rfl (by go_simp) ⟨(Cq gb g0),(Cq gb g1),(Cq gb g2)⟩ ?_;simp only[Ac];obtain⟨v6,w6,gk,g9,q1,q2,q3,q4,gm⟩:=TD Ed 54 w5 w1.heap.size _ (AO ((List.range j).map G)) (.bool y) rfl gh.o (by simp[AO];omega) gd;have g6:=Jg gE.o gh.o q1 q2 q3 q4 gm gd;refine FJ (v:=v6) (w':=w6) rfl (Km rfl rfl rfl gk) ⟨(Cq g6 d0),(Cq g6 d1),(Cq g6 d2)⟩ ?_;simp only[Ac]
     iterate 1
      refine A3 rfl ?_;apply Exists.intro;refine⟨fun w' hw=>?_,?_⟩
      . obtain⟨h1,h2,h3⟩:=hw;go_simp;rfl
      simp only[Ac]
     refine CM ?_;have gD:=Hd g6;have gy:=Hd g9;have gw:w1.heap.size<=w6.heap.size:=by omega
     clear g6 g9 q1 q2 q3 q4 gm gk g0 g1 g2 gb;go_wp2_with fail;go_roundw
     case rel=>exact⟨j+1,by omega,by go_num,Hd (by unfold OwnB;rw[gB.o];exact gy.o),gD,gw⟩
     case measure=>simp[intOf];omega
    ·obtain rfl:j=p:=by omega
     have HF:Hq (∃ v,Ending.returned u7=.returned v/\OwnB wq w.heap.size v ((List.range j).map G)/\Bw w wq):=Hd ⟨u7,rfl,gs.o.lower (by omega),g7.o.trans (g3.o.mono g7.o.size)⟩;go_wp2_with fail;go_ret;exact HF.o
section
variable (w:Wd)
theorem TF (t ty e:TypeId)(i:TypeInfo)(ht:P.underlying t=some (.slice e))(hi:P.info? e=some i)
 (g off sLen sCap:Nat) (cur:Array Value) (hg:w.heap[g]?=some (.cells cur e (0,0)))
 (a:Addr) (m c:Nat) (news:List Value) (hl:news.length=m*i.size) (hnews:∀ j u,news[j]?=some u->w.cell? (a.add j)=some u) (h1:∀ u∈news,u.oneCell'=true)
 (hroom:sLen+m<=sCap) (hfit:off+sLen*i.size+news.length<=cur.size) :
 (Builtin.append_ #[t,t] ty #[.slice (some ⟨g,off,none⟩) sLen sCap,.slice (some a) m c]).run P w =
  .ok (.slice (some ⟨g,off,none⟩) (sLen+m) sCap) (w.setRow g (cur.toList.take (off+sLen*i.size)++news++cur.toList.drop (off+sLen*i.size+news.length)).toArray):=by
 have hf:=run_firstCells_some (P:=P) w i.size m a m c news hl hnews;have g0:=run_storeCells_at P g (off+sLen*i.size) e news 0 cur w hg (by simpa using hfit) h1;simp only[Y6] at g0;have g1:(⟨g,off,none⟩:Addr).add (sLen*i.size)=⟨g,off+sLen*i.size,none⟩:=by unfold Addr.add;split<;>simp_all
 simp[Builtin.append_,Xt ht,sizeOf,typeInfo,hi,Builtin.lenOf,hroom,hf,g1,g0]
end
theorem TG:(prog.info? 105).map (fun i=>(i.zero,i.size,i.bytes))=some (some (.agg #[.int .i64 0,.int .i64 0,.int .i64 0]),3,24):=by kernel_rfl
theorem TH (l:List Ev):∀ (j:Nat) (u:Value),(l.flatMap evL)[j]?=some u->∃ hk:j/3<l.length,(evL (l[j/3]))[j%3]?=some u:=by
 induction l with
 | nil=>intro j u h;simp at h
 | cons e l ih =>
   intro j u h;rw[Yn] at h
   by_cases hj:j<3
   ·rw[Xj (by show j<3;exact hj)] at h;have e0:j/3=0:=by omega
    refine⟨by rw[e0];simp,?_⟩;have e1:j%3=j:=by omega
    simp only[e0,e1,List.getElem_cons_zero];exact h
   ·rw[Xu (by show 3<=j;omega)] at h;obtain⟨hk,h2⟩:=ih (j-3) u h;have e0:j/3=(j-3)/3+1:=by omega
    have e1:j%3=(j-3)%3:=by omega
    refine⟨by rw[e0,Xm];omega,?_⟩;simp only[e0,e1,List.getElem_cons_succ];exact h2
theorem EvsAt.news {l:List Ev}(h:EvsAt w (some ⟨b,off,none⟩) l):∀ j u,(l.flatMap evL)[j]?=some u->w.cell? ((⟨b,off,none⟩:Addr).add j)=some u:=by
 intro j u hu;have g0:(⟨b,off,none⟩:Addr).add j=⟨b,off+j,none⟩:=by unfold Addr.add;split<;>simp_all
 obtain⟨hk,h2⟩:=TH l j u hu;obtain⟨b',off',e,c0,c1,c2⟩:=h.cells (j/3) hk;cases e;rw[g0];have hm:j%3<3:=Nat.mod_lt _ (by decide);rcases(by omega:j%3=0\/j%3=1\/j%3=2) with e|e|e<;>rw[e] at h2
 ·have e2:j=j/3*3:=by omega
  rw[e2,c0];exact h2
 ·have e2:j=j/3*3+1:=by omega
  rw[e2,<- Yx,c1];exact h2
 ·have e2:j=j/3*3+2:=by omega
  rw[e2,<- Yx,c2];exact h2
theorem TI (l:List Ev):∀ u∈l.flatMap evL,u.oneCell'=true:=by
 intro u hu;obtain⟨e,_,h⟩:=List.mem_flatMap.1 hu;simp only[evL,XI,YW,or_false] at h;rcases h with rfl|rfl|rfl<;>rfl
abbrev YY:=@List.length_pos_iff
abbrev YK:=@Nat.min_eq_left
theorem MG {o:Own}{l:List Ev}{a:Option Addr}(h:AZ o w v ws)(hlt:Ab o w)(hev:EvsAt w a l)(hsm:ws.length+l.length<=1000)(ty:TypeId) :
 ∃ v' w' o',(Builtin.append_ #[24,24] ty #[v,.slice a l.length c]).run prog w=.ok v' w'/\AZ o' w' v' (ws++l)/\Chg (· = .waits) o o' w w'/\Ab o' w':=by
 obtain⟨i,hi,hz,g3,gb⟩:=Y9 TG;have ht:=underlying24
 by_cases h0:l=[]
 ·subst h0;refine⟨v,w,o,?_,by rw[Yd];exact h,Chg.refl _ _ _,hlt⟩;rcases h.ex with ⟨rfl,rfl⟩|⟨g,off,cap,cur,rfl,_,_,hn,_⟩
  . cases a<;>simp[Builtin.append_,Xt ht,sizeOf,typeInfo,hi,Builtin.lenOf,Builtin.firstCells,loadCells,loadCellsFrom]
  . cases a<;>simp[Builtin.append_,Xt ht,sizeOf,typeInfo,hi,Builtin.lenOf,hn,Builtin.firstCells,storeCells,loadCells,loadCellsFrom]
 ·have ga:0<l.length:=YY.2 h0;obtain⟨b,off,rfl,_⟩:=hev.cells 0 ga;have g0:=hev.news;have gc:=TI l;have g5:(l.flatMap evL).length=l.length*i.size:=by rw[g3];exact Eu l
  have g9:(ws.flatMap evL++l.flatMap evL).length=(ws++l).length*3:=by rw[WY,Eu,Eu,WY];omega
  have mk:∀ (old:Nat),AZ (AB o w.heap.size .waits) (w.drew.alloc (.cells ((ws.flatMap evL).toArray++(l.flatMap evL).toArray++Builtin.zeroCells (Value.agg #[.int .i64 0,.int .i64 0,.int .i64 0]).cells (grownCap w (ws.length+l.length) old 105-(ws.length+l.length))) 105)) (.slice (some ⟨w.heap.size,0,none⟩) (ws.length+l.length) (grownCap w (ws.length+l.length) old 105)) (ws++l) /\
   Chg (· = .waits) o (AB o w.heap.size .waits) w (w.drew.alloc (.cells ((ws.flatMap evL).toArray++(l.flatMap evL).toArray++Builtin.zeroCells (Value.agg #[.int .i64 0,.int .i64 0,.int .i64 0]).cells (grownCap w (ws.length+l.length) old 105-(ws.length+l.length))) 105)) /\
   Ab (AB o w.heap.size .waits) (w.drew.alloc (.cells ((ws.flatMap evL).toArray++(l.flatMap evL).toArray++Builtin.zeroCells (Value.agg #[.int .i64 0,.int .i64 0,.int .i64 0]).cells (grownCap w (ws.length+l.length) old 105-(ws.length+l.length))) 105)):=by
   intro old;have gh:=grownCap_ge w (ws.length+l.length) old 105;have g6:grownCap w (ws.length+l.length) old 105<=maxLen:=grownCap_le_maxLen w _ old _ (by unfold maxLen;omega);refine⟨⟨.inr ⟨w.heap.size,0,_,_,by rw[WY],Br _ _ _,WN w.drew _,by rw[WY];exact gh,g6,?_,?_⟩⟩,((Chg.refl (· = .waits) o w).drewN 1).allocR (w':=w.drewN 1) hlt _ rfl,Ab.allocR (w:=w.drewN 1) hlt _ .waits⟩
   . have e3:(Value.agg #[.int .i64 0,.int .i64 0,.int .i64 0]).cells.size=3:=rfl;simp only[Array.size_append,XQ,size_zeroCells,e3,Eu,Xw];omega
   . simp only[Array.toList_append,List.drop_zero,YC];rw[List.take_left' g9]
  rcases h.ex with ⟨rfl,rfl⟩|⟨g,off2,cap,cur,rfl,g8,hg,gg,g6,gi,g2⟩
  . have hr:=run_append_nil (P:=prog) w 24 ty 105 i _ ht hi hz ⟨b,off,none⟩ l.length c (l.flatMap evL) g5 g0 ga (by simp at hsm;omega) (by rw[gb];simp at hsm;omega);have hm:=mk 0;simp only[XS,Xw,List.flatMap_nil,XK,Array.empty_append] at hm ⊢;exact⟨_,_,_,hr,hm⟩
  ·by_cases g4:ws.length+l.length<=cap
   ·have g1:off2+ws.length*i.size+(l.flatMap evL).length<=cur.size:=by rw[g5,g3];omega
    have hr:=TF (P:=prog) w 24 ty 105 i ht hi g off2 ws.length cap cur hg ⟨b,off,none⟩ l.length c (l.flatMap evL) g5 g0 gc g4 g1;refine⟨_,_,o,hr,⟨.inr ⟨g,off2,cap,_,by rw[WY],g8,setRow_heap w g cur _ _ _ hg,by rw[WY];exact g4,g6,?_,?_⟩⟩,⟨rfl,rfl,rfl,by simp,fun k _ hk=>setRow_other w g k _ (by rintro rfl;exact hk _ g8 rfl),fun _ _ h=>h,fun _ h=>(h rfl).elim⟩,fun k q hq=>by have:=hlt k q hq;simpa using this⟩
    . simp only[XQ,WY,Yk,Zr,Array.length_toList];omega
    ·rw[g3] at g1 ⊢;have e1:(cur.toList.take (off2+ws.length*3)).drop off2=ws.flatMap evL:=by
      rw[<- g2,List.drop_take,Nat.add_sub_cancel_left]
     have e2:off2<=(cur.toList.take (off2+ws.length*3)).length:=by
      have hq:ws.length*3<=cap*3:=X7 _ gg;have gf:off2+ws.length*3<=cur.size:=by clear g1;omega
      have ge:cur.toList.length=cur.size:=Array.length_toList;rw[Yk,ge,YK gf];exact Nat.le_add_right _ _
     simp only[Xf];rw[List.drop_append_of_le_length e2,e1,<- Xf,YC,List.take_left' g9]
   ·have g7:∀ j u,(ws.flatMap evL)[j]?=some u->w.cell? ((⟨g,off2,none⟩:Addr).add j)=some u:=by
     intro j u hu;have gd:(⟨g,off2,none⟩:Addr).add j=⟨g,off2+j,none⟩:=by unfold Addr.add;split<;>simp_all
     rw[gd,WQ w g (off2+j) cur _ _ hg];rw[<- g2,Yz] at hu;split at hu
     . rw[Y0] at hu;simpa using hu
     . cases hu
    have hr:=run_append_grow (P:=prog) w 24 ty 105 i _ ht hi hz ⟨g,off2,none⟩ ws.length cap (ws.flatMap evL) (by rw[g3];exact Eu ws) g7 ⟨b,off,none⟩ l.length c (l.flatMap evL) g5 g0 (by omega) (by omega) (growslice_fits (by omega) (by rw[gb];omega));exact⟨_,_,_,hr,mk cap⟩
theorem AZ.form {o:Own}(h:AZ o w v ws):∃ a c,v=.slice a ws.length c:=by
 rcases h.ex with ⟨rfl,rfl⟩|⟨g,off,cap,cur,rfl,_⟩
 . exact⟨_,_,rfl⟩
 . exact⟨_,_,rfl⟩
theorem MH {op:Oper}{vs:Value}(hgd:op.guard=none)(s x:Operand)(t:TypeId)
 (hop:op.op=.call { callee:=.builtin .append,args:=#[s,x],argTypes:=#[t,t] }) (hs:a.eval s=vs) (hx:a.eval x=vx) (hr:(Builtin.append_ #[t,t] op.type #[vs,vx]).run P w=.ok v' w')
 (hK:wpList P ops Q rest (a.put op.dst v') w'):wpList P ops Q (op::rest) a w:=by
 refine wpList_plain hgd fun K g0=>?_
 unfold Oper.wp execOp;simp only[hop,resolve,invoke,builtin,XH,Sem.run_pure,Xs,List.map_toArray,XJ,Zh,hs,hx,hr];exact g0 _ _ hK
theorem A2.setWaits {F:Phi}{o:Own}{s:ManW}(h:A2 F o w mb m s)(hlt:Ab o w){l':List Ev}(hw:AZ o' w' v' l')(hc:Chg (· = .waits) o o' w w'):A2 F o' (w'.setCell ⟨mb,4,none⟩ v') mb { m with waits:=l' } { s with vw:=v' }:=by
 have key:∀ {g r},o g=some r->r ≠ .man->r ≠ .waits->(w'.setCell ⟨mb,4,none⟩ v').heap[g]?=w.heap[g]?:=by
  intro g r hg h1 h2;refine(Aw (p:=⟨mb,4,none⟩) (fun e=>?_) _).trans (hc.same hlt hg h2);have e':g=mb:=e;subst e';have:=h.own;rw[hg] at this;cases this;exact h1 rfl
 refine⟨hc.ext _ _ h.own,?_,h.store.keepR (fun g r hg hr=>key hg (by rintro rfl;simp[Al,Bg] at hr) (by rintro rfl;simp[Al,Bg] at hr)) hc.ext,h.memo.keep (fun g r hg hr=>key hg (by rintro rfl;rcases hr with e|e<;>cases e) (by rintro rfl;rcases hr with e|e<;>cases e)) hc.ext,hc.ext _ _ h.ownh,h.map.keepB (key h.ownh (by simp) (by simp)),hw.keep (fun g hg=>Aw (p:=⟨mb,4,none⟩) (fun e=>?_) _) (fun _ h=>h)⟩
 . exact Az ((hc.same hlt h.own (by simp)).trans h.blk) _
 . have e':g=mb:=e;subst e';have:=hc.ext _ _ h.own;rw[hg] at this;cases this
section
variable {o:Own}
structure Planned (K:Law)(n:Nat)(Od:List Nat->Prop)(room:Nat)(w0:Wd)(mb:Nat)(fs:List (Int×BF))(nx:Int)(o:Own)(w:Wd)(m:ManD)(V:Nat->BF)(l:List Ev)(z:Int)(o':Own)(w':Wd)(m':ManD):Prop where
 sat:SatE K n Od room w0 mb fs nx w' o' m' V
 d:m'.d=m.d
 chg:Chg (fun _=>True) o o' w w'
 no:z≠0->m'.waits=m.waits/\m'.calls=m.calls
 yes:z=0->m'.waits=m.waits++l/\m'.calls=if m.waits=[] then 0 else m.calls
abbrev YD:=@Calls.quiet_of_same
theorem TJ (h:SatE K n Od room w0 mb fs nx w o m V){a:Option Addr}{l:List Ev}(hev:EvsAt w a l)(hno:0<l.length->∀ x,a=some x->o x.block=none)(hwl:m.waits.length<=256) :
 Calls prog 77 #[Pt mb,.slice a l.length c] w fun e w'=>e=.returned (.int .i64 (Be n m.waits.length l))/\∃ o' m',Planned K n Od room w0 mb fs nx o w m V l (Be n m.waits.length l) o' w' m':=by
 obtain⟨Q,hQ⟩:=Ex (fun e w'=>e=.returned (.int .i64 (Be n m.waits.length l))/\∃ o' m',Planned K n Od room w0 mb fs nx o w m V l (Be n m.waits.length l) o' w' m':Ending->Wd->Prop)
 rw[<- hQ];have HQ:=Hd hQ;clear hQ;have gG:=hev.len;have hn64:n<=64:=by rw[<- h.vars];exact h.ok.store.small
 obtain⟨s,hs⟩:=h.is;obtain⟨c0,c1,c2,c3,c4,c5,f0⟩:=cells6 hs.blk;obtain⟨av,cv,gi⟩:=hs.waits.form
 have g1:Hq (∀ (z:Int) W,Bw w W->Be n m.waits.length l=z->z≠0->Q (.returned (.int .i64 z)) W):=Hd (by
  intro z W hb hz h0;rw[HQ.o,hz];exact⟨rfl,o,m,h.below hb,rfl,Chg.of_below hb _ _,fun _=>⟨rfl,rfl⟩,fun e=>(h0 e).elim⟩)
 have HV:Hq (∀ W,Bw w W->Calls prog 69 #[Pt mb] W fun e w'=>e=.returned (.int .i64 n)/\w'=W):=Hd (fun W hb=>(D7 (h.below hb).is).mono fun e w' q=>⟨by rw[q.1,h.vars],q.2.symm⟩);have HI:=Hd hev;have HS:=Hd hs;have HH:=Hd h;have gD:=Hd hno;rw[gi] at c4;have gt:=Hd gi;have gB:=Hd hwl;clear h hs hev hno gi
 by_cases g9:(l.length:Int)>256-m.waits.length
 ·have HF:=Hd (g1.o 18 w (Xd _ _) (by unfold Be;rw[WR g9]) (by decide))
  delta Pt;go_enter func77,ntmps77
  go_wp2_with fail;exact HF.o
 have HR:Hq (Be n m.waits.length l=CU n (l.drop 0)):=Hd (by unfold Be;rw[WO g9];rfl);obtain⟨P,hP⟩:=Ex (Be n m.waits.length l);rw[<- hP] at HR g1;have gC:=Hd hP;clear hP;have HM:=Hd g9
 delta Pt;go_enter func77,ntmps77
 go_wp2_with fail
 go_loopw [20] (fun s20 wr=>∃ i:Nat,i<=l.length/\s20=.int .i64 i/\Hq (Bw w wr)/\Hq (P=CU n (l.drop i))) (fun s20 _=>l.length-(intOf s20).toNat)
 case atStart=>exact⟨0,WX _,rfl,Hd (Xd _ _),HR⟩
 case round =>
  clear HR;obtain⟨i,hi,rfl,HB,HP⟩:=hrel
  by_cases gf:i<l.length
  ·obtain⟨b,off,rfl,e0,e1,e2⟩:=(HI.o.below HB.o).cells i gf;have gz:(i:Int)<l.length:=by omega
   have HC:Hq (∀ z:Int,CT n l[i]=z->z≠0->P=z):=Hd fun z hz h0=>by rw[HP.o,Gu gf,hz,WO h0]
   have HN:Hq (CT n l[i]=0->P=CU n (l.drop (i+1))):=Hd fun hz=>by rw[HP.o,Gu gf,hz,WR rfl]
   have HE:Hq (CT n l[i]=if l[i].kind<1\/l[i].kind>3 then 11 else if l[i].after<1\/(l[i].kind=2/\(l[i].level<0\/l[i].level>(n:Int)-2)) then 2 else 0):=Hd rfl;obtain⟨ev,hev⟩:=Ex (l[i]);rw[<- hev] at e0 e1 e2 HC HN HE;obtain⟨af,ki,le⟩:=ev;dsimp only at e0 e1 e2 HE;clear hev HP c0 c1 c2 c3 c4 c5 f0;obtain⟨W,hW⟩:=Ex (wr.alloc (.cells #[.int .i64 af,.int .i64 ki,.int .i64 le] 105));have gg:Bw w W:=HB.o.trans ((show Bw wr W by rw[hW];exact Af wr _).mono HB.o.size);obtain⟨bx,gm⟩:∃ q,q=wr.heap.size:=⟨_,rfl⟩;have hx:W.heap[bx]?=some (.cells #[.int .i64 af,.int .i64 ki,.int .i64 le] 105 (0,0)):=by rw[hW,gm];exact WN wr _
   have b0:W.cell? ⟨bx,0,none⟩=some (.int .i64 af):=by rw[WQ W _ 0 _ _ _ hx];rfl
   have b1:W.cell? ⟨bx,1,none⟩=some (.int .i64 ki):=by rw[WQ W _ 1 _ _ _ hx];rfl
   have b2:W.cell? ⟨bx,2,none⟩=some (.int .i64 le):=by rw[WQ W _ 2 _ _ _ hx];rfl
   have HW:=Hd hW;have gE:=Hd gm;have g0:=Hd gg;have g8:Hq (∀ q,Calls prog 69 #[Pt mb] (W.drewN q) fun e w'=>e=.returned (.int .i64 n)/\w'=W.drewN q):=Hd (fun q=>HV.o _ (gg.trans ((Ap W q).mono gg.size)));have gh:=Hd gf;clear hW gm gg hx;go_upto_region 8 with fail;rw[<- HW.o,<- gE.o];have gx:ki<1\/ki>3\/(ki=2)\/(ki=1\/ki=3):=by omega
   rcases gx with hk|hk|hk|hk
   . have HF:=Hd (g1.o 11 W g0.o (HC.o 11 (by rw[HE.o,WR (.inl hk)]) (by decide)) (by decide));go_wp2_with fail;exact HF.o
   ·have HF:=Hd (g1.o 11 W g0.o (HC.o 11 (by rw[HE.o,WR (.inr hk)]) (by decide)) (by decide));have gy:¬ ki<1:=by omega
    go_wp2_with fail;exact HF.o
   ·by_cases ha:af<1
    ·have HF:Hq (∀ q,Q (.returned (.int .i64 2)) (W.drewN q)):=Hd (fun q=>g1.o 2 _ (g0.o.trans ((Ap W q).mono g0.o.size)) (HC.o 2 (by rw[HE.o,WO (by omega),WR (.inl ha)]) (by decide)) (by decide));subst hk;go_upto_region 10 with fail
     go_quiet (with_reducible exact YD (g8.o _))
     go_wp2_with fail;exact HF.o _
    ·by_cases gw:le<0
     ·have HF:Hq (∀ q,Q (.returned (.int .i64 2)) (W.drewN q)):=Hd (fun q=>g1.o 2 _ (g0.o.trans ((Ap W q).mono g0.o.size)) (HC.o 2 (by rw[HE.o,WO (by omega),WR (.inr ⟨hk,.inl gw⟩)]) (by decide)) (by decide));subst hk;go_upto_region 10 with fail
      go_quiet (with_reducible exact YD (g8.o _))
      go_wp2_with fail;exact HF.o _
     ·by_cases gb:le>=(n:Int)-1
      ·have HF:Hq (∀ q,Q (.returned (.int .i64 2)) (W.drewN q)):=Hd (fun q=>g1.o 2 _ (g0.o.trans ((Ap W q).mono g0.o.size)) (HC.o 2 (by rw[HE.o,WO (by omega),WR (.inr ⟨hk,.inr (by omega)⟩)]) (by decide)) (by decide));subst hk;go_upto_region 10 with fail
       go_quiet (with_reducible exact YD (g8.o _))
       go_wp2_with fail;exact HF.o _
      ·have gc:=Hd (HN.o (by rw[HE.o,WO (by omega),WO (by omega)]));subst hk;go_upto_region 10 with fail
       go_quiet (with_reducible exact YD (g8.o _))
       have go:=Hd (g0.o.trans ((Ap W nq).mono g0.o.size));go_wp2_with fail;go_roundw
       case rel=>exact⟨i+1,Y8 gh.o,by go_num,go,gc⟩
       case measure =>
        have:=gh.o;simp[intOf];omega
   ·have gy:¬ ki<1:=by omega
    have gI:¬ ki>3:=by omega
    have gH:(ki == 2)=false:=by simp;omega
    by_cases ha:af<1
    ·have HF:Hq (∀ q,Q (.returned (.int .i64 2)) (W.drewN q)):=Hd (fun q=>g1.o 2 _ (g0.o.trans ((Ap W q).mono g0.o.size)) (HC.o 2 (by rw[HE.o,WO (by omega),WR (.inl ha)]) (by decide)) (by decide));clear hk;go_upto_region 10 with fail
     go_quiet (with_reducible exact YD (g8.o _))
     go_wp2_with fail;exact HF.o _
    ·have gc:=Hd (HN.o (by rw[HE.o,WO (by omega),WO (by omega)]));clear hk;go_upto_region 10 with fail
     go_quiet (with_reducible exact YD (g8.o _))
     have go:=Hd (g0.o.trans ((Ap W nq).mono g0.o.size));go_wp2_with fail;go_roundw
     case rel=>exact⟨i+1,Y8 gh.o,by go_num,go,gc⟩
     case measure =>
      have:=gh.o;simp[intOf];omega
  ·have he:i=l.length:=by omega
   have gz:¬ (i:Int)<l.length:=by omega
   have gc:Hq (P=0):=Hd (by rw[HP.o,he,List.drop_length];rfl);clear he;have hs':=HS.o.below HH.o.lt HB.o;have g3:=HH.o.lt.mono HB.o.size;have gp:m.waits.length+l.length<=1000:=by have:=HM.o;have:=gB.o;omega
   have gn:Hq (∀ (cl:Int) (W:Wd) (hm:A2 (K m.d V) o W mb { m with calls:=cl } s) (hl:Ab o W) (hc:Chg (fun _=>True) o o w W) (v':Value) (W':Wd) (o':Own),cl=(if m.waits=[] then 0 else m.calls)->AZ o' W' v' (m.waits++l)->Chg (· = .waits) o o' W W'->Ab o' W'->Q (.returned (.int .i64 0)) (W'.setCell ⟨mb,4,none⟩ v')):=Hd (by
    intro cl W hm hl hc v' W' o' gA hw gl gv;rw[HQ.o,<- gC.o,gc.o];have gu:=hm.setWaits hl hw gl;have gr:Chg (fun _=>True) o o' w (W'.setCell ⟨mb,4,none⟩ v'):=(hc.trans gl.any).setCell (p:=⟨mb,4,none⟩) (gl.ext _ _ hm.own) trivial _;exact⟨rfl,o',{ m with waits:=m.waits++l,calls:=cl },⟨⟨_,gu⟩,gv.mono (by simp[World.setCell]),⟨HH.o.ok.store,⟨HH.o.ok.handles.nodup,HH.o.ok.handles.zero,HH.o.ok.handles.one,HH.o.ok.handles.lt,HH.o.ok.handles.next,HH.o.ok.handles.ok,HH.o.ok.handles.len,HH.o.ok.handles.refs⟩⟩,HH.o.vars,HH.o.od,HH.o.room,HH.o.next,HH.o.hs,HH.o.chg.lower (ChgX.of_chg gr NoB) (fun _ e=>e.elim)⟩,rfl,gr,fun e=>(e rfl).elim,fun _=>⟨rfl,gA⟩⟩)
   have gd:=HI.o.below HB.o;clear c0 c1 c2 c3 c4 c5 f0;obtain⟨c0,c1,c2,c3,c4,c5,f0⟩:=cells6 hs'.blk
   by_cases hw0:m.waits=[]
   ·have hz:m.waits.length=0:=by rw[hw0];rfl
    have HZ:=Hd hz;have g7:A2 (K m.d V) o (wr.setCell ⟨mb,5,none⟩ (.int .i64 0)) mb { m with calls:=0 } s:=hs'.field rfl rfl rfl rfl rfl (hs'.waits) rfl;have gs:Chg (fun _=>True) o o w (wr.setCell ⟨mb,5,none⟩ (.int .i64 0)):=(Chg.of_below HB.o _ _).setCell (p:=⟨mb,5,none⟩) hs'.own trivial _;have gb:Ab o (wr.setCell ⟨mb,5,none⟩ (.int .i64 0)):=g3.mono (by simp[World.setCell])
    have gq:EvsAt (wr.setCell ⟨mb,5,none⟩ (.int .i64 0)) a l:=⟨gd.len,fun k hk=>by
     obtain⟨b,off,e,q0,q1,q2⟩:=gd.cells k hk;have gk:mb≠b:=by
      rintro rfl;have:=gD.o (by omega) _ e;have h2:=hs'.own;rw[h2] at this;cases this
     exact⟨b,off,e,Ct q0 (.inl gk),Ct q1 (.inl gk),Ct q2 (.inl gk)⟩⟩
    obtain⟨v',w2,o2,g2,g4,g5,ga⟩:=MG (c:=c) g7.waits gb gq gp 24;obtain⟨av2,cv2,gj⟩:=g4.form;subst gj;have HF:=Hd (gn.o 0 _ g7 gb gs _ w2 o2 (by rw[WR hw0]) g4 g5 ga);obtain⟨k0,k1,k2,k3,k4,k5,kf⟩:=cells6 g7.blk;have g6:=(g5.same gb g7.own (by simp)).trans g7.blk;obtain⟨j0,j1,j2,j3,j4,j5,jf⟩:=cells6 g6;rw[gt.o,hz] at c4 k4 g2;clear hs' g3 g7 gs gb gq g4 g5 ga gd hw0 g6 k0 k1 k2 k3 k5 kf;have ge:=Hd g2;clear g2;go_upto_region 15 with fail;go_wp2_with (refine MH rfl _ _ _ rfl rfl rfl ge.o ?_);have hq:=HF.o;rw[WY,HZ.o,Xw] at hq;exact hq
   ·have hz:0<m.waits.length:=YY.2 hw0;have gF:((m.waits.length:Int) == 0)=false:=by rw[Yu];omega
    obtain⟨v',w2,o2,g2,g4,g5,ga⟩:=MG (c:=c) hs'.waits g3 gd gp 24;obtain⟨av2,cv2,gj⟩:=g4.form;subst gj;have HF:=Hd (gn.o m.calls _ hs' g3 (Chg.of_below HB.o _ _) _ w2 o2 (by rw[WO hw0]) g4 g5 ga);have g6:=(g5.same g3 hs'.own (by simp)).trans hs'.blk;obtain⟨j0,j1,j2,j3,j4,j5,jf⟩:=cells6 g6;rw[gt.o] at c4 g2;clear hs' g3 g4 g5 ga gd hw0 g6 hz;have ge:=Hd g2;clear g2;go_upto_region 15 with fail;go_wp2_with (refine MH rfl _ _ _ rfl rfl rfl ge.o ?_);have hq:=HF.o;rw[WY] at hq;exact hq
end
def Bh (n:Nat):Nat:=4*2^(2*n)+192*2^n
theorem TK (n:Nat)(hn:n<=8)(w:Wd):Calls prog 128 #[.int .i64 n,.int .i64 40] w (Sm (.int .i64 (Bh n)) w):=by
 have HB:Hq (∀ (z:Int) (k:Nat),z=k->k<=16->Calls prog 104 #[.int .i64 z] w (Sm (.int .i64 (2^k:Nat)) w)):=Hd fun z k e hk=>by subst e;exact SG k (by omega) w
 have hA:2^(2*n)<=65536:=WU (Xo (by omega) (show 2*n<=16 by omega)) (by decide);have hB:2^n<=65536:=WU (Xo (by omega) (show n<=16 by omega)) (by decide);have g0:=Hd (fun z e=>HB.o z (2*n) e (by omega));have HB2:=Hd (fun z e=>HB.o z n e (by omega));unfold Bh;obtain⟨a,ha⟩:=Ex (2^(2*n));obtain⟨b,hb⟩:=Ex (2^n);rw[<- ha] at hA g0 ⊢;rw[<- hb] at hB HB2 ⊢;clear ha hb HB
 go_enter func128,ntmps128
 go_wp2_with fail;refine(g0.o _ (by omega)).mono ?_;rintro x w' ⟨rfl,rfl⟩;go_wp2_with fail;refine(HB2.o _ (by omega)).mono ?_;rintro x w' ⟨rfl,rfl⟩;go_wp2_with fail;go_ret;exact⟨by congr 2,rfl⟩
theorem TL (n:Nat)(hn:n<=8)(w:Wd):Calls prog 74 #[.int .i64 n,.int .i64 40] w (Sm (.int .i64 (Bh n)) w):=by
 have HE:=Hd (TK n hn w)
 go_enter func74,ntmps74
 go_wp2_with fail;refine HE.o.mono ?_;rintro x w' ⟨rfl,rfl⟩;go_wp2_with fail;go_ret;exact⟨rfl,rfl⟩
theorem TM (hn:n<=6):1<=Bh n/\Bh n<=1048576:=by
 have h1:2^(2*n)<=4096:=WU (Xo (by omega) (show 2*n<=12 by omega)) (by decide);have h2:2^n<=64:=WU (Xo (by omega) hn) (by decide);have h3:0<2^n:=XW (by omega);unfold Bh;omega
theorem MI (hk:k<=192):k*2^n<=Bh n:=by
 have:=X7 (2^n) hk;unfold Bh;omega
theorem TO {s:Nat}(hn:1<=n)(hs:s<=40)(hj:j<5):2*2^n+j*(39*2^n+1)+s*2^n<=Bh n:=by
 have h1:=X7 (2^n) hs;have h2:=X7 (39*2^n+1) (Nat.le_of_lt_succ hj);have h3:2^1<=2^n:=Xo (by omega) hn;have h4:2^(n+1)<=2^(2*n):=Xo (by omega) (by omega);rw[X4] at h4;unfold Bh;omega
theorem TP {s:Nat}(hs:s<=40)(h1:1<=s)(h:k<=2*2^n+j*(39*2^n+1)+BU n s):k<=2*2^n+(j+1)*(39*2^n+1):=by
 have h2:=Gx n h1;have h3:=X7 (2^n) hs;rw[XV];have h4:0<2^n:=XW (by omega);omega
theorem TQ (hj:j<=5)(h:k<=2*2^n+j*(39*2^n+1))(hn:2<=n):k+7<=Bh n:=by
 have h2:=X7 (39*2^n+1) hj;have h3:2^2<=2^n:=Xo (by omega) hn;have h4:2^(n+2)<=2^(2*n):=Xo (by omega) (by omega);rw[Nat.pow_add] at h4;unfold Bh;omega
def two:List (Int×BF):=[(0,fun _=>false),(1,fun _=>true)]
theorem MJ:B2 two:=⟨by simp[two],by simp[two]⟩
theorem MK (n room:Nat)(w:Wd)(hn:n<=64)(h1:1<=room)(h2:room<=1048576) :
 Calls prog 14 #[.int .i64 n,.int .i64 room] w fun x w'=>∃ mb,x=.returned (.tuple #[.pointer (some ⟨mb,0,none⟩),.int .i64 0])/\∃ o m V,SatE K n (fun _=>True) room w mb two 2 w' o m V/\m.waits=[]/\m.calls=0/\m.d.pool.many=0:=by
 refine(QE (F:=K (man0 n room).d (fun _ _=>true)) (fun _=>none) n room w (fun k r h=>by cases h) hn h1 h2).mono ?_;rintro x w1 ⟨mb,o1,rfl,g0,g2,g1,_⟩;exact⟨mb,rfl,o1,man0 n room,fun _ _=>true,⟨g0,g1,QC n room hn,by simp[man0,store0],trivial,by simp[man0,store0,pool0],rfl,by simp[man0,two,ef];constructor<;>rfl,ChgX.of_chg g2 NoB⟩,rfl,rfl,rfl⟩
def OrdP (zs:List Int)(l:List Nat):Prop:=∀ j,j<zs.length->((l.getD j 0:Nat):Int)=at0 zs j
def SetP (K:Law)(q:AskD)(n:Nat)(w:Wd)(y:Ending)(w':Wd):Prop :=
 ∃ mb vl vx wb hs nx,y=.returned (.tuple #[.pointer (some ⟨mb,0,none⟩),vl,vx,.bool true])/\Bw w wb/\hs.map Prod.snd=q.es.map fnT/\nx<=1000/\∃ o m V,LawT K n (OrdP q.order) (Bh n) wb mb (two++hs) nx (fun ws c=>ws=q.plan/\c=0) hs hs w' o m V vl vx/\(2<=n->m.d.pool.many+7<=Bh n)
def SetI (K:Law)(q:AskD)(n:Nat)(wb:Wd)(mb:Nat)(j:Nat)(s8 s9:Value)(W:Wd):Prop :=
 ∃ hs nx,hs.map Prod.snd=(q.es.take j).map fnT/\nx<=2+120*(j:Int)/\∃ o m V,LawT K n (OrdP q.order) (Bh n) wb mb (two++hs) nx (fun ws c=>ws=[]/\True) hs hs W o m V s8 s9/\m.d.pool.many<=2*2^n+j*(39*2^n+1)
theorem TR (hK:A5 K)(q:AskD)(ao ae ap:Option Addr)(co ce cp:Nat)(w:Wd)(h:AskAt w q ao ae ap)(hsm:E9 q)(n:Nat)(hqn:q.vars=n) :
 Calls prog 22 #[askV q ao ae ap co ce cp] w (SetP K q n w):=by
 have hJ:=hsm.lo;have hM:=hsm.hi;have hN:=hsm.es;have hI:=hsm.plan;have gJ:=Hd hsm;have hp:=Hd h;have hr:n<=6:=by omega
 have ht:1<=n:=by omega
 have gB:=TM hr;obtain⟨Q,hQ⟩:=Ex (SetP K q n w:Ending->Wd->Prop);rw[<- hQ];have HQ:=Hd hQ;obtain⟨w1,gf⟩:=Ex (w.alloc (.cells #[.int .i64 q.vars,.slice ao q.order.length co,.slice ae q.es.length ce,.slice ap q.plan.length cp] 26));have HW1:Hq (_=w1):=Hd gf.symm;have ha:Hq (Bw w w1):=by rw[gf];exact Hd (Af _ _)
 have g0:w1.heap[w.heap.size]?=some (.cells #[.int .i64 q.vars,.slice ao q.order.length co,.slice ae q.es.length ce,.slice ap q.plan.length cp] 26 (0,0)):=by rw[gf];exact WN _ _
 have hs1:w1.heap.size=w.heap.size+1:=by rw[gf];simp
 have gN:=Hd hqn;rw[hqn] at g0 HW1;have d0:w1.cell? ⟨w.heap.size,0,none⟩=some (.int .i64 (n:Nat)):=by rw[WQ _ _ 0 _ _ _ g0];rfl
 have d1:w1.cell? ⟨w.heap.size,1,none⟩=some (.slice ao q.order.length co):=by rw[WQ _ _ 1 _ _ _ g0];rfl
 have d2:w1.cell? ⟨w.heap.size,2,none⟩=some (.slice ae q.es.length ce):=by rw[WQ _ _ 2 _ _ _ g0];rfl
 have d3:w1.cell? ⟨w.heap.size,3,none⟩=some (.slice ap q.plan.length cp):=by rw[WQ _ _ 3 _ _ _ g0];rfl
 have gX:=hqn;unfold askV;rw[gX];obtain⟨rm,gk⟩:=Ex (Bh n);have gK:=Hd gk;have gL:=Hd (fun W=>TL n (by omega) W);rw[<- gk] at gL gB;clear h hsm hQ gf g0 gk hqn gX;have gP:=Hd (MK (K:=K) n rm w1.drew (by omega) gB.1 gB.2)
 go_enter func22,ntmps22
 go_upto_region 1 with fail;rw[HW1.o];refine AR (fun W:Wd=>W.cell? ⟨w.heap.size,0,none⟩=some (.int .i64 (n:Nat))/\True) false 11 [(0,false),(1,false),(2,false),(3,false),(4,true),(5,true),(6,false),(7,false),(8,false),(9,false),(10,false)] (by kernel_rfl) (by kernel_rfl) ⟨d0,trivial⟩ ?_;simp only[planned,AQ]
 iterate 4
  refine A3 rfl ?_;apply Exists.intro;refine⟨fun w' hw=>?_,?_⟩
  . obtain⟨h1,_⟩:=hw;go_simp;rfl
  simp only[Ac]
 refine BR (R:=fun v w'=>v=.int .i64 (rm:Nat)/\w'=w1.drew) rfl (by go_simp) ((gL.o _).mono (fun e w' he=>?_)) ?_
 . obtain⟨rfl,rfl⟩:=he;exact⟨_,rfl,⟨d0,trivial⟩,rfl,rfl⟩
 rintro v w'-⟨rfl,rfl⟩;simp only[Ac];refine BR (R:=fun v w'=>∃ mb,v=.tuple #[.pointer (some ⟨mb,0,none⟩),.int .i64 0]/\∃ o m V,SatE K n (fun _=>True) rm w1.drew mb two 2 w' o m V/\m.waits=[]/\m.calls=0/\m.d.pool.many=0) rfl (by go_simp) (gP.o.mono (fun e w' he=>?_)) ?_
 . obtain⟨mb,rfl,o,m,V,g5,gS⟩:=he;exact⟨_,rfl,⟨(g5.chg.below0.cell (p:=⟨w.heap.size,0,none⟩) (Ag (w:=w1.drew) d0)).trans d0,trivial⟩,mb,rfl,o,m,V,g5,gS⟩
 rintro v w2-⟨mb,rfl,o,m,V,g5,gT,hB,gY⟩;simp only[Ac]
 iterate 5
  refine A3 rfl ?_;apply Exists.intro;refine⟨fun w' hw=>?_,?_⟩
  . obtain⟨h1,_⟩:=hw;go_simp;rfl
  simp only[Ac]
 refine CM ?_;obtain⟨wb,g7⟩:=Ex w1.drew;rw[<- g7] at g5;have h9:Hq (Bw w wb):=Hd (by rw[g7];exact ha.o.trans ((Ap w1 1).mono ha.o.size));have c0:wb.cell? ⟨w.heap.size,0,none⟩=some (.int .i64 (n:Nat)):=by rw[g7];exact d0
 have c1:wb.cell? ⟨w.heap.size,1,none⟩=some (.slice ao q.order.length co):=by rw[g7];exact d1
 have c2:wb.cell? ⟨w.heap.size,2,none⟩=some (.slice ae q.es.length ce):=by rw[g7];exact d2
 have c3:wb.cell? ⟨w.heap.size,3,none⟩=some (.slice ap q.plan.length cp):=by rw[g7];exact d3
 have hO:w.heap.size<wb.heap.size:=Ag c0;have gi:=Hd (hp.o.below h9.o);clear g7 gP gL d0 d1 d2 d3 HW1 hs1
 have gR:=Hd (TB (K:=K) g5 (by omega) (by rw[gK.o];have:=MI (n:=n) (k:=6) (by omega);simp[two];omega) (c:=co) (gi.o.order.below g5.chg.below0) (fun h0 x hx=>by
  obtain⟨b,off,e,hc⟩:=gi.o.order.cells 0 h0;rw[hx] at e;cases e;exact g5.none0 (Ag hc)) (by
  rcases Nat.eq_zero_or_pos q.order.length with h0|h0
  . exact .inl h0
  . have:=gJ.o.order h0;rw[gN.o] at this;exact .inr (Th this)))
 have e0:=Cq g5.chg.below0 c0;have e1:=Cq g5.chg.below0 c1;have HWT:=Hd gT;have hG:=Hd gY;clear g5 gT hB gY;go_wp2_with fail;refine gR.o.mono ?_;rintro y w3 ⟨rfl,o3,m3,V3,gb,gw,hh,hC,gD⟩;have h8:Hq (SetI K q n wb mb 0 (.slice none 0 0) (.slice none 0 0) w3):=Hd ⟨[],2,rfl,by omega,o3,m3,V3,⟨by rw[gK.o] at gb;exact gb,MJ,⟨by rw[gw,HWT.o],trivial⟩,⟨Mg _ _ _,fun k hk=>by cases hk⟩,⟨⟨[],rfl,Mg _ _ _,fun i v hv=>by simp at hv⟩,fun k hk=>by cases hk⟩⟩,by have:=hG.o;simp[two] at gD;omega⟩;have f2:=Cq gb.chg.below0 c2;clear gb gw hh hC gD gR e0 e1;go_wp2_with fail
 go_loopw [8,9,40] (fun s8 s9 s40 wr=>∃ j:Nat,j<=q.es.length/\s40=.int .i64 j/\Hq (SetI K q n wb mb j s8 s9 wr)) (fun _ _ s40 _=>q.es.length-(intOf s40).toNat)
 case atStart=>exact⟨0,WX _,rfl,h8⟩
 case round =>
  clear h8 f2
  rename Wd=>wy
  obtain⟨j,hj,rfl,HI⟩:=hrel;obtain⟨hs,nx,gj,hnx,hu⟩:=HI.o;obtain⟨o0,m0,V0,gl,gE⟩:=hu;have gu:Hq (∃ o m V,LawT K n (OrdP q.order) (Bh n) wb mb (two++hs) nx (fun ws c=>ws=[]/\True) hs hs wy o m V u8 u9/\m.d.pool.many<=2*2^n+j*(39*2^n+1)):=Hd ⟨o0,m0,V0,gl,gE⟩;have gG:=gl.below0;have ho:=Hd gG;have gI:=Hd gj;have hA:hs.length=j:=by have:=X3 List.length gj;simpa [YK hj] using this
  clear HI gj gl gE gG o0 m0 V0
  by_cases gF:j<q.es.length
  ·have hy:(j:Int)<q.es.length:=by omega
   have gt:=ho.o;obtain⟨b,off,x0,x1,x2,ea,k0,k1,k2,hx⟩:=gi.o.es.cells j gF;subst ea;obtain⟨zo,zv,za,zn,zc,rfl,rfl,rfl⟩:=hx.parts;have gh:=Hd (gJ.o.expr _ (Xp gF));have ga:=gh.o.1;have gx:=ExT.size_pos q.es[j];obtain⟨e,he⟩:=Ex (q.es[j]);rw[<- he] at hx gh ga gx;have HX:=Hd hx;have q0:=Cq gt k0;have q1:=Cq gt k1;have q2:=Cq gt k2;have hF:Hq ((q.es.take (j+1)).map fnT=(q.es.take j).map fnT++[fnT e]):=Hd (by rw[WZ gF,Xl,he];rfl);obtain⟨wz,gn⟩:=Ex (wy.alloc (.cells #[.int .i64 zo,.int .i64 zv,.slice za zn zc] 36));have hD:Hq (_=wz):=Hd gn.symm;have h3:Bw wy wz:=by rw[gn];exact Af _ _
   have g0:wz.heap[wy.heap.size]?=some (.cells #[.int .i64 zo,.int .i64 zv,.slice za zn zc] 36 (0,0)):=by rw[gn];exact WN _ _
   have p0:wz.cell? ⟨wy.heap.size,0,none⟩=some (.int .i64 zo):=by rw[WQ _ _ 0 _ _ _ g0];rfl
   have p1:wz.cell? ⟨wy.heap.size,1,none⟩=some (.int .i64 zv):=by rw[WQ _ _ 1 _ _ _ g0];rfl
   have p2:wz.cell? ⟨wy.heap.size,2,none⟩=some (.slice za zn zc):=by rw[WQ _ _ 2 _ _ _ g0];rfl
   obtain⟨o4,m4,V4,lt0,mn4⟩:=gu.o;have lt4:=lt0.below h3;have n4:o4 wy.heap.size=none:=lt0.sat.lt.none (WM _);have gZ:∀ g,u8.ownBlock=some g->g<wy.heap.size:=fun g hg=>(lt0.l.own.lt g hg).2
   have hL:(two++hs).length=2+j:=by simp[two,hA];omega
   have gv:=Hd (MF hK e _ (two++hs) nx wz o4 m4 V4 _ lt4.sat ⟨lt4.st.1,mn4⟩ lt4.b2 gh.o.2.1.valid (by have:=gh.o.2.2;rw[gN.o] at this;exact this) hx (by omega) (TO ht ga (by omega)));have g8:=Hd lt4;clear gt k0 k1 k2 hx h3 g0 gn lt4 gu he lt0;go_upto_region 9 with fail;rw[hD.o];clear q0 q1 q2;go_wp2_with fail;refine gv.o.mono ?_;rintro y w5 ⟨k,rfl,hk,o5,m5,V5,g9,⟨gV,gC⟩,gy⟩;have hm:Hq (m5.d.pool.many<=2*2^n+(j+1)*(39*2^n+1)):=Hd (TP ga gx gC);have gm:Hq (LawT K n (OrdP q.order) (Bh n) wb mb (two++(hs++[(k,fnT e)])) (k+1) (fun ws c=>ws=[]/\True) hs hs w5 o5 m5 V5 u8 u9):=Hd (g8.o.go (by rw[<- Xf];exact gy) (MJ.app _) ⟨gV,trivial⟩ g9);have r0:=g9.cell (p:=⟨wy.heap.size,0,none⟩) p0 n4 (fun e=>e);have r1:=g9.cell (p:=⟨wy.heap.size,1,none⟩) p1 n4 (fun e=>e);have r2:=g9.cell (p:=⟨wy.heap.size,2,none⟩) p2 n4 (fun e=>e);have n5:=g9.none' (Ag p0) n4;have hd:wb.heap.size<=w5.heap.size:=gy.chg.size;clear g9 gV gy gC gv p0 p1 p2 g8;go_upto_region 13 with (at_builtin;refine Ee Gn _ rfl _ _ rfl wb.heap.size _ (As (hs.map Prod.fst)) _ rfl rfl rfl rfl rfl (by exact gm.o.l.own) (by simp[As];omega) hd ?_;intro v6 w6 gr g1 g2 g3 g4 gH)
   have gU:=Gq g1 g2 g3 g4 gH;have gd:w6.heap[wy.heap.size]?=w5.heap[wy.heap.size]?:=gU.keep _ (Ag r0) (fun e=>by have:=gZ _ e;omega);have t0:=Co r0 gd;have t1:=Co r1 gd;have t2:=Co r2 gd;have g6:=Hd (gm.o.appL gr g1 g2 g3 g4 gH (p:=(k,fnT e)));have a0:=Cq g6.o.below0 c0;have h5:=Hd (TE e _ n (by omega) w6 (by omega) gh.o.2.1 (HX.o.below g6.o.below0));clear gU gd gr g1 g2 g3 g4 gH r0 r1 r2 gm gZ;go_wp2_with fail;refine h5.o.mono ?_;rintro y w7 ⟨v7,rfl,gc,h4⟩;obtain⟨av,cv,rfl,_⟩:=gc.slice;have h7:Hq (LawB w7 o5 wb.heap.size (.slice av (AO (tabB n (fnT e))).length cv) (tabB n (fnT e))):=Hd (SJ (n:=n) gc (by rw[SD];exact Ty (by omega)) g6.o.sat.lt g6.o.sat.chg.size);have ge:=Hd (g6.o.below h4);obtain⟨rs,hf,gA,gz⟩:=ge.o.x.ex;have gM:=Hd gA;have h6:=Hd gz;have hq:rs.length=hs.length:=by rw[hf];simp
   have hb:wb.heap.size<=w7.heap.size:=ge.o.sat.chg.size;clear gc h4 gA gz h5 g6 t0 t1 t2 a0;go_upto_region 14 with (at_builtin;refine Ee SC _ rfl _ _ rfl wb.heap.size _ rs _ rfl rfl rfl rfl rfl (by exact gM.o) (by omega) hb ?_;intro v8 w8 gq g1 g2 g3 g4 h2)
   have gQ:=Hd (ge.o.appX h7.o rfl hq gM.o h6.o gq g1 g2 g3 g4 h2 (p:=(k,fnT e)));have hH:Hq (SetI K q n wb mb (j+1) v6 v8 w8):=Hd ⟨hs++[(k,fnT e)],k+1,by rw[Xl,gI.o,hF.o];rfl,by omega,o5,m5,V5,gQ.o,hm.o⟩;clear gq g1 g2 g3 g4 h2 gM h6 ge h7 gQ;go_wp2_with fail;go_roundw
   case rel=>exact⟨j+1,by omega,by go_num,hH⟩
   case measure=>simp[intOf];omega
  ·have hz:j=q.es.length:=by omega
   have hy:¬ (j:Int)<q.es.length:=by omega
   obtain⟨o4,m4,V4,lt4,mn4⟩:=gu.o;have hn:=Hd mn4;clear mn4;have e3:=Cq lt4.below0 c3;have gp:m4.waits=[]:=lt4.st.1;have gs:Be n m4.waits.length q.plan=0:=by
    rw[gp];have:=gJ.o.planOk;rw[gN.o] at this;exact this
   have gO:=Hd (TJ lt4.sat (c:=cp) (gi.o.plan.below lt4.below0) (fun h0 x hx=>by
    obtain⟨b,off,e,hc,_⟩:=gi.o.plan.cells 0 h0;rw[hx] at e;cases e;exact lt4.sat.none0 (Ag hc)) (by rw[gp];simp))
   rw[gs] at gO;have g8:=Hd lt4;have hE:=Hd gp;clear lt4 gp gs gu;go_wp2_with fail;refine gO.o.mono ?_;rintro y w5 ⟨rfl,o5,m5,gg⟩
   have HF:Hq (Q (.returned (.tuple #[.pointer (some ⟨mb,0,none⟩),u8,u9,.bool true])) w5):=Hd (by
    rw[HQ.o];refine⟨mb,u8,u9,wb,hs,nx,rfl,h9.o,by rw[gI.o,hz,Xx],by omega,o5,m5,V4,g8.o.go gg.sat g8.o.b2 ?_ (ChgX.of_chg gg.chg NoB),?_⟩
    rotate_left
    . rw[gg.d];exact TQ (by omega) hn.o
    have:=gg.yes rfl;rw[hE.o] at this;exact⟨by simpa using this.1,by simpa using this.2⟩)
   clear gg gO;go_wp2_with fail;refine Xc (Iw rfl _ _ _) rfl ?_;exact HF.o
theorem TS (p:Prop):∃ b:Bool,b=true↔p:=by
 classical
 exact⟨decide p,by simp⟩
theorem SatE.dep {K:Law}{n:Nat}{Od:List Nat->Prop}{room:Nat}{w0 w:Wd}{mb:Nat}{fs:List (Int×BF)}{nx:Int}{o:Own}{m:ManD}{V:Nat->BF}(h:SatE K n Od room w0 mb fs nx w o m V){k:Int}{F:BF}(hk:(k,F)∈fs):DepF n F:=by
 obtain⟨f,hf,rfl⟩:=h.find hk;have:=h.ok.store.dep (h.ok.handles.ok _ hf)
 rwa [h.vars] at this
def Gy (l:List BF)(F:BF):Prop:=∃ i,∃ h:i<l.length,l[i]=F\/l[i]=notF F
section
theorem TT (h:Ai d V){b:BN}(hb:Aa d (f/2)=some b):(okE (Aa d) (cofs d f b.v).1/\ef V (cofs d f b.v).1=cofF (ef V f) b.v false)/\okE (Aa d) (cofs d f b.v).2/\ef V (cofs d f b.v).2=cofF (ef V f) b.v true:=by
 have hf:okE (Aa d) f:=.inr ⟨b,hb⟩;have g0:=h.dag.var _ _ hb;obtain⟨h1,h2,h3,h4,h5⟩:=Bk h hf g0 (by unfold lvE;rw[hb];exact WM _);refine⟨⟨h1,?_⟩,h2,?_⟩
 . funext ρ;rw[Bq,h5,CL,h.dag.indep_var h1 h3];rfl
 . funext ρ;rw[Bq,h5,CL,h.dag.indep_var h2 h4];rfl
end
section
theorem ML {top:Int}(h:TopS d [f] top least):(top = -1/\Aa d (f/2)=none)\/∃ b,Aa d (f/2)=some b/\top=(b.v:Nat):=by
 rcases h with ⟨h1,_,h3⟩|⟨v,h1,_,_,⟨e,he,b,hb,hv⟩,_⟩
 . exact .inl ⟨h1,h3 f (by simp)⟩
 . simp only[Xg] at he;subst he;exact .inr ⟨b,hb,by rw[h1,hv]⟩
end
def Ind (F:BF)(v:Nat):Prop:=∀ b,cofF F v b=F
def SatF (C:BF):Prop:=∃ ρ,C ρ=true
open Classical in
noncomputable def conB (C:BF)(v:Nat)(x:Bool):Bool:=if SatF (cofF C v x) then x else !x
noncomputable def constrF:List Nat->BF->BF->BF
 | [],F,_=>F
 | v::l,F,C=>fun ρ=>constrF l (cofF F v (conB C v (ρ v))) (cofF C v (conB C v (ρ v))) ρ
theorem MM (F:BF)(v:Nat)(b c:Bool):cofF (cofF F v b) v c=cofF F v b:=by
 funext ρ;unfold cofF;congr 1;funext u
 by_cases h:u=v<;>simp[h]
theorem MN (F:BF){u v:Nat}(h:u≠v)(a b:Bool):cofF (cofF F u a) v b=cofF (cofF F v b) u a:=by
 funext ρ;unfold cofF;congr 1;funext x;dsimp only
 by_cases h1:x=u
 ·have h2:¬ x=v:=fun e=>h (h1.symm.trans e)
  simp only[WR h1,WO h2]
 ·by_cases h2:x=v
  . simp only[WO h1,WR h2]
  . simp only[WO h1,WO h2]
theorem Gz (F:BF)(v:Nat)(ρ:Nat->Bool):cofF F v (ρ v) ρ=F ρ:=by
 unfold cofF;congr 1;funext u
 by_cases h:u=v
 . rw[WR h,h]
 . rw[WO h]
theorem MO {v:Nat}{ρ:Nat->Bool}{b:Bool}(h:ρ v=b):cofF F v b ρ=F ρ:=by rw[<- h,Gz]
theorem Ind.cof {u:Nat}(h:Ind F u)(v:Nat)(b:Bool):Ind (cofF F v b) u:=fun c=>by
 by_cases e:u=v
 . subst e;exact MM F u b c
 . rw[MN F (fun h=>e h.symm),h c]
theorem G0 (F:BF)(v:Nat)(b:Bool):Ind (cofF F v b) v:=fun c=>MM F v b c
theorem Ind.at {F:BF}{v:Nat}(h:Ind F v)(ρ:Nat->Bool)(b:Bool):F (upd ρ v b)=F ρ:=by
 have:=congrFun (h b) ρ
 rwa [Bq] at this
theorem Ind.of {v:Nat}(h:∀ ρ b,F (upd ρ v b)=F ρ):Ind F v:=fun b=>by
 funext ρ;rw[Bq];exact h ρ b
theorem Jt {C:BF}(h:SatF C)(v:Nat)(b:Bool):SatF (cofF C v b)\/SatF (cofF C v (!b)):=by
 obtain⟨ρ,hρ⟩:=h
 by_cases e:ρ v=b
 . exact .inl ⟨ρ,by rw[MO e];exact hρ⟩
 ·have:ρ v = !b:=by cases hb:b<;>cases hr:ρ v<;>simp_all
  exact .inr ⟨ρ,by rw[MO this];exact hρ⟩
theorem TU {C:BF}(h:SatF C)(v:Nat)(x:Bool):SatF (cofF C v (conB C v x)):=by
 unfold conB
 by_cases e:SatF (cofF C v x)
 . rw[WR e];exact e
 . rw[WO e];exact(Jt h v x).resolve_left e
theorem G1 {C:BF}{v:Nat}{x:Bool}(h:SatF (cofF C v x)):conB C v x=x:=WR h
theorem TV {C:BF}{v:Nat}{x:Bool}(h:¬ SatF (cofF C v x)):conB C v x = !x:=WO h
theorem MP {l:List Nat}{C:BF}{v:Nat}(hF:Ind F v)(hC:Ind C v):constrF (v::l) F C=constrF l F C:=by
 funext ρ
 show constrF l (cofF F v _) (cofF C v _) ρ=_
 rw[hF,hC]
theorem MQ {l:List Nat}{C:BF}{v:Nat}(b:Bool)(hs:SatF C)(h:¬ SatF (cofF C v (!b))):constrF (v::l) F C=constrF l (cofF F v b) (cofF C v b):=by
 have hb:SatF (cofF C v b):=(Jt hs v b).resolve_right h;have e:∀ x,conB C v x=b:=fun x=>by
  by_cases e:x=b
  . rw[e];exact G1 hb
  ·have:x = !b:=by cases x<;>cases b<;>simp_all
   subst this;rw[TV h];simp
 funext ρ
 show constrF l (cofF F v _) (cofF C v _) ρ=_
 rw[e]
theorem TW {l:List Nat}{C:BF}{v:Nat}(h0:SatF (cofF C v false))(h1:SatF (cofF C v true)):constrF (v::l) F C=iteF v (constrF l (cofF F v true) (cofF C v true)) (constrF l (cofF F v false) (cofF C v false)):=by
 funext ρ
 show constrF l (cofF F v _) (cofF C v _) ρ=if ρ v then _ else _
 cases hv:ρ v with
 | true=>rw[G1 h1];rfl
 | false=>rw[G1 h0];rfl
theorem G2:∀ (l:List Nat) {F C:BF} {u:Nat},Ind F u->Ind C u->Ind (constrF l F C) u
 | [],F,C,u,hF,_=>hF
 | v::l,F,C,u,hF,hC=>by
   refine Ind.of fun ρ b=>?_
   show constrF l (cofF F v (conB C v (upd ρ u b v))) (cofF C v (conB C v (upd ρ u b v))) (upd ρ u b)=constrF l (cofF F v (conB C v (ρ v))) (cofF C v (conB C v (ρ v))) ρ
   by_cases e:v=u
   . subst e;rw[hF,hC,hF,hC];exact(G2 l hF hC).at ρ b
   . rw[F8 ρ b e];exact(G2 l (hF.cof v _) (hC.cof v _)).at ρ b
theorem Ju:∀ (l:List Nat) {F C:BF} {ρ:Nat->Bool},C ρ=true->constrF l F C ρ=F ρ
 | [],F,C,ρ,_=>rfl
 | v::l,F,C,ρ,h=>by
   have hs:SatF (cofF C v (ρ v)):=⟨ρ,by rw[Gz];exact h⟩
   show constrF l (cofF F v (conB C v (ρ v))) (cofF C v (conB C v (ρ v))) ρ=_
   rw[G1 hs,Ju l (by rw[Gz];exact h),Gz]
theorem TX {l:List Nat}{C:BF}(h:∀ ρ ρ',F ρ=F ρ'):constrF l F C=F:=by
 induction l generalizing F C with
 | nil=>rfl
 | cons v l ih =>
   have e:∀ b,cofF F v b=F:=fun b=>by funext ρ;exact h _ _
   funext ρ
   show constrF l (cofF F v _) (cofF C v _) ρ=_
   rw[e,ih h]
theorem TY {l:List Nat}{C:BF}(h:∀ ρ,C ρ=true):constrF l F C=F:=by
 funext ρ;exact Ju l (h ρ)
theorem G3:∀ (p:List Nat) {l:List Nat} {F C:BF},(∀ u∈p,Ind F u/\Ind C u)->constrF (p++l) F C=constrF l F C
 | [],l,F,C,_=>rfl
 | v::p,l,F,C,h=>by
   obtain⟨h1,h2⟩:=h v (Xr ..);rw[Ym,MP h1 h2];exact G3 p fun u hu=>h u (XB _ hu)
def TZ (F C R:BF):Prop:=(∀ ρ,C ρ=true->R ρ=F ρ)/\∀ u,Ind F u->Ind R u
theorem MR (h:Ai d V){r L:Nat}(hr:okE (Aa d) r)(hL:L<d.vars.length)(hi:∀ u,u<d.vars.length->levN d u<=L->Ind (ef V r) u):L<lvE d.vars.length (levN d) (Aa d) r:=by
 rcases Xe L (lvE d.vars.length (levN d) (Aa d) r) with c|c
 . exact c
 ·exfalso;unfold lvE at c;cases hb:Aa d (r/2) with
  | none=>rw[hb] at c;dsimp only at c;omega
  | some b =>
    rw[hb] at c;have hv:=h.dag.var _ _ hb;have g0:lvE d.vars.length (levN d) (Aa d) r=levN d b.v:=by unfold lvE;rw[hb]
    obtain⟨q1,_,q3,_,q5⟩:=Bk h hr hv (by rw[g0];exact WM _);have e:ef V (cofs d r b.v).1=ef V r:=by
     funext ρ;rw[<- (hi b.v hv c).at ρ false,q5,CL,h.dag.indep_var q1 q3];rfl
    rw[h.dag.canon q1 hr e,g0] at q3;omega
theorem Ft (h:Ai d V){v:Nat}(hf:okE (Aa d) f)(hv:v<d.vars.length)(hl:levN d v<=lvE d.vars.length (levN d) (Aa d) f) :
 ef V (cofs d f v).1=cofF (ef V f) v false/\ef V (cofs d f v).2=cofF (ef V f) v true:=by
 obtain⟨q1,q2,q3,q4,q5⟩:=Bk h hf hv hl;constructor
 . funext ρ;rw[Bq,q5,CL,h.dag.indep_var q1 q3];rfl
 . funext ρ;rw[Bq,q5,CL,h.dag.indep_var q2 q4];rfl
theorem EC (h:Ai d V){u:Nat}(hf:okE (Aa d) f)(hl:levN d u<lvE d.vars.length (levN d) (Aa d) f):Ind (ef V f) u:=Ind.of fun ρ b=>h.dag.indep_var hf hl ρ b
section
variable {u' u'' x:Value}
theorem MS (p:Nat->Bool):∀ m,(∃ i,i<m/\p i=true)->∃ q,q<m/\p q=true/\∀ j,j<q->p j=false
 | 0,h=>by obtain⟨i,hi,_⟩:=h;omega
 | m+1,h=>by
   by_cases c:∃ i,i<m/\p i=true
   . obtain⟨q,h1,h2,h3⟩:=MS p m c;exact⟨q,by omega,h2,h3⟩
   ·have hn:∀ j,j<m->p j=false:=fun j hj=>by
     cases e:p j with
     | false=>rfl
     | true=>exact absurd ⟨j,hj,e⟩ c
    obtain⟨i,hi,e⟩:=h;obtain rfl:i=m:=by
     rcases Xe i m with h1|h1
     . rw[hn i h1] at e;cases e
     . omega
    exact⟨i,hi,e,hn⟩
theorem Ua {l:List Nat}(h:∃ v∈l,AD n F v=true):∃ q,q<l.length/\topR n F l=(l.getD q 0:Nat)/\AD n F (l.getD q 0)=true/\∀ j,j<q->AD n F (l.getD j 0)=false:=by
 obtain⟨v,hv,hh⟩:=h;obtain⟨i,hi,rfl⟩:=XX hv;obtain⟨q,h1,h2,h3⟩:=MS (fun q=>AD n F (l.getD q 0)) l.length ⟨i,hi,by simpa [List.getD,hi] using hh⟩;exact⟨q,h1,Jp l q h1 h2 h3,h2,h3⟩
end
open Classical in
noncomputable def belF (n:Nat)(os:List Nat):Nat->List BF->BF->List BF
 | 0,l,_=>l
 | k+1,l,F=>if (∃ c,F=fun _=>c)\/Gy l F then l else belF n os k (belF n os k (l++[F]) (cofF F (topR n F os).toNat false)) (cofF F (topR n F os).toNat true)
section
variable {p:Nat}{l:List BF}
theorem MT (h:(∃ c,F=fun _=>c)\/Gy l F):belF n os k l F=l:=by
 cases k with
 | zero=>rfl
 | succ k=>unfold belF;rw[WR h]
theorem Ub {v:Nat}(h:¬ ((∃ c,F=fun _=>c)\/Gy l F))(hv:topR n F os=(v:Nat)):belF n os (k+1) l F=belF n os k (belF n os k (l++[F]) (cofF F v false)) (cofF F v true):=by
 rw[belF,WO h,hv];rfl
end
noncomputable def nodesF (n:Nat)(os:List Nat)(Gs:List BF):List BF:=Gs.foldl (fun l G=>belF n os n l G) []
def A4 (d:Ae):Nat->List Nat->Nat->List Nat
 | 0,met,_=>met
 | k+1,met,f=>match Aa d (f/2) with
   | none=>met
   | some b=>if f/2∈met then met else A4 d k (A4 d k (met++[f/2]) (cofs d f b.v).1) (cofs d f b.v).2
structure RelN (d:Ae)(V:Nat->BF)(met:List Nat)(l:List BF):Prop where
 len:met.length=l.length
 node:∀ i∈met,∃ b,Aa d i=some b
 fn:∀ i (h:i<met.length) (h2:i<l.length),l[i]=V met[i]\/l[i]=notF (V met[i])
section
theorem MU (F:BF):notF (notF F)=F:=funext fun ρ=>by show (!(!F ρ))=F ρ;simp
theorem Jv (f:Nat):ef V f=V (f/2)\/ef V f=notF (V (f/2)):=by
 rcases(show f%2=0\/f%2=1 by omega) with h|h
 . exact .inl (funext fun ρ=>by simp[ef,h])
 . exact .inr (funext fun ρ=>by simp[ef,h,notF])
theorem Jw (h:Ai d V)(h0:Aa d 0=none)(hf:okE (Aa d) f):(∃ c,ef V f=fun _=>c)↔Aa d (f/2)=none:=by
 constructor
 ·rintro⟨c,hc⟩;have:f=0\/f=1:=by
   cases c with
   | true=>exact .inl ((h.dag.canon_iff hf (.inl rfl)).1 (by rw[hc,h.dag.ef0]))
   | false=>exact .inr ((h.dag.canon_iff hf (.inl rfl)).1 (by rw[hc,h.dag.ef1]))
  rcases this with rfl|rfl<;>exact h0
 ·intro hn;rcases hf with h1|⟨b,hb⟩
  . rw[Jl h h1];exact⟨_,rfl⟩
  . rw[hn] at hb;cases hb
theorem MV (h:Ai d V)(hf:okE (Aa d) f){l:List BF}(hr:RelN d V met l):Gy l (ef V f)↔f/2∈met:=by
 constructor
 ·rintro⟨i,hi,he⟩;have hm:i<met.length:=by rw[hr.len];exact hi
  obtain⟨b,hb⟩:=hr.node _ (Xp hm);have hE:∀ c,c<2->okE (Aa d) (2*met[i]+c):=fun c hc=>.inr ⟨b,by rw[show (2*met[i]+c)/2=met[i] by omega];exact hb⟩
  have g1:ef V (2*met[i]+0)=V met[i]:=funext fun ρ=>by unfold ef;rw[show (2*met[i]+0)/2=met[i] by omega,show (2*met[i]+0)%2=0 by omega];simp
  have g0:ef V (2*met[i]+1)=notF (V met[i]):=funext fun ρ=>by unfold ef notF;rw[show (2*met[i]+1)/2=met[i] by omega,show (2*met[i]+1)%2=1 by omega];simp
  have hn:=My V f;have key:∀ e,okE (Aa d) e->e/2=met[i]->(ef V e=ef V f\/ef V e=ef V (enot f))->f/2=met[i]:=fun e he h2 h3=>by
   rcases h3 with h3|h3
   . rw[<- (h.dag.canon_iff he hf).1 h3];exact h2
   . have:=(h.dag.canon_iff he (GV hf)).1 h3;rw[this,Dr] at h2;exact h2
  have:f/2=met[i]:=by
   rcases hr.fn i hm hi with e|e
   . exact key _ (hE 0 (by omega)) (by omega) (by rw[g1,<- e,hn];exact he)
   . exact key _ (hE 1 (by omega)) (by omega) (by rw[g0,<- e,hn];exact he)
  rw[this];exact Xp hm
 ·intro hm;obtain⟨i,hi,he⟩:=XX hm;refine⟨i,by rw[<- hr.len];exact hi,?_⟩;have h1:=hr.fn i hi (by rw[<- hr.len];exact hi);rw[he] at h1;rcases Jv (V:=V) f with e|e<;>rcases h1 with e2|e2<;>rw[e,e2]
  . exact .inl rfl
  . exact .inr rfl
  . exact .inr (MU _).symm
  . exact .inl rfl
theorem Jx (h:Ai d V)(h0:Aa d 0=none):∀ (k:Nat) (met:List Nat) (l:List BF) (f:Nat),okE (Aa d) f->RelN d V met l->RelN d V (A4 d k met f) (belF d.vars.length d.vars k l (ef V f))
 | 0,met,l,f,_,hr=>hr
 | k+1,met,l,f,hf,hr=>by
   cases hb:Aa d (f/2) with
   | none =>
     rw[MT (.inl ((Jw h h0 hf).2 hb))];unfold A4;rw[hb];exact hr
   | some b =>
     unfold A4;rw[hb]
     show RelN d V (if f/2∈met then met else _) _
     by_cases hm:f/2∈met
     . rw[WR hm,MT (.inr ((MV h hf hr).2 hm))];exact hr
     ·have hnc:¬ ∃ c,ef V f=fun _=>c:=fun e=>by rw[(Jw h h0 hf).1 e] at hb;cases hb
      obtain⟨htop,hbv⟩:=M9 h hb;rw[WO hm,Ub (fun e=>e.elim hnc fun e=>hm ((MV h hf hr).1 e)) htop];have hl:levN d b.v<=lvE d.vars.length (levN d) (Aa d) f:=by unfold lvE;rw[hb];exact WM _
      obtain⟨q1,q2,_⟩:=Bk h hf hbv hl;obtain⟨e1,e2⟩:=Ft h hf hbv hl;rw[<- e1,<- e2];refine Jx h h0 k _ _ _ q2 (Jx h h0 k _ _ _ q1 ⟨by simp[hr.len],fun i hi=>?_,fun i h1 h2=>?_⟩)
      ·rcases Xa.1 hi with c|c
       . exact hr.node i c
       . simp at c;subst c;exact⟨b,hb⟩
      ·rcases Xe i met.length with c|c
       . rw[YB c,YB (by rw[<- hr.len];exact c)];exact hr.fn i c _
       ·have e:i=met.length:=by simp at h1;omega
        subst e;rw[Y3 (WM _),Y3 (by rw[hr.len];exact WM _)];simpa using Jv (V:=V) f
end
def Bz (v:Nat):List (Nat×Nat)->List (Nat×Nat)
 | []=>[(v,1)]
 | p::r=>if p.1=v then (v,p.2+1)::r else p::Bz v r
def getC (v:Nat):List (Nat×Nat)->Nat
 | []=>0
 | p::r=>if p.1=v then p.2 else getC v r
def sumC (l:List (Nat×Nat)):Nat:=(l.map (·.2)).sum
theorem MW (v:Nat):∀ l,sumC (Bz v l)=sumC l+1
 | []=>rfl
 | p::r=>by
   unfold Bz;split
   . simp only[sumC,XJ,List.sum_cons];omega
   . have:=MW v r;simp only[sumC,XJ,List.sum_cons] at this ⊢;omega
theorem MX (v u:Nat):∀ l,getC u (Bz v l)=getC u l+(if u=v then 1 else 0)
 | []=>by
   show (if v=u then 1 else 0)=0+_
   by_cases h:u=v
   . subst h;simp
   . rw[WO h,WO (fun e=>h e.symm)]
 | p::r=>by
   unfold Bz
   by_cases h:p.1=v
   ·rw[WR h]
    show (if v=u then p.2+1 else getC u r)=(if p.1=u then p.2 else getC u r)+_
    rw[h]
    by_cases e:v=u
    . rw[WR e,WR e,WR e.symm]
    . rw[WO e,WO e,WO (fun c=>e c.symm),Y6]
   ·rw[WO h]
    show (if p.1=u then p.2 else getC u (Bz v r))=(if p.1=u then p.2 else getC u r)+_
    by_cases e:p.1=u
    . rw[WR e,WR e,WO (fun c=>h (e.trans c)),Y6]
    . rw[WO e,WO e,MX v u r]
theorem MY (v:Nat):∀ l,getC v l<=sumC l
 | []=>WM _
 | p::r=>by
   have:=MY v r;simp only[getC,sumC,XJ,List.sum_cons] at this ⊢;split<;>omega
def vrD (d:Ae)(i:Nat):Nat:=match Aa d i with|some b=>b.v|none=>0
def tally (d:Ae)(met:List Nat):List (Nat×Nat):=met.foldl (fun c i=>Bz (vrD d i) c) []
section
theorem Uc (met:List Nat)(i:Nat):tally d (met++[i])=Bz (vrD d i) (tally d met):=by
 unfold tally;rw[YQ];rfl
theorem Ud (met:List Nat){b:BN}(hb:Aa d i=some b):tally d (met++[i])=Bz b.v (tally d met):=by
 rw[Uc,show vrD d i=b.v by unfold vrD;rw[hb]]
theorem MZ (c:List (Nat×Nat))(v:Nat):∀ met:List Nat,sumC (met.foldl (fun c i=>Bz (vrD d i) c) c)=sumC c+met.length/\getC v (met.foldl (fun c i=>Bz (vrD d i) c) c)=getC v c+met.countP fun i=>vrD d i=v:=by
 intro met
 induction met generalizing c with
 | nil=>exact⟨rfl,rfl⟩
 | cons i r ih =>
   obtain⟨h1,h2⟩:=ih (Bz (vrD d i) c);refine⟨?_,?_⟩
   . rw[List.foldl_cons,h1,MW,Xm];omega
   ·rw[List.foldl_cons,h2,MX,List.countP_cons]
    by_cases e:v=vrD d i
    . rw[WR e,WR (by simp[e])];omega
    . rw[WO e,WO (by simpa using fun c=>e c.symm)];omega
theorem Jy (met:List Nat):sumC (tally d met)=met.length:=by
 have:=(MZ (d:=d) [] 0 met).1;unfold tally;rw[this];simp[sumC]
theorem Ue (met:List Nat)(v:Nat):getC v (tally d met)=met.countP fun i=>vrD d i=v:=by
 have:=(MZ (d:=d) [] v met).2;unfold tally;rw[this];simp[getC]
structure Cm (d:Ae)(met:List Nat):Prop where
 nd:met.Nodup
 node:∀ i∈met,∃ b,Aa d i=some b
theorem Cm.snoc (h:Cm d met){b:BN}(hb:Aa d i=some b)(hn:i∉met):Cm d (met++[i]):=by
 refine⟨X5.2 ⟨h.nd,by simp,fun a ha c hc e=>?_⟩,fun j hj=>?_⟩
 . simp at hc;subst hc;subst e;exact hn ha
 ·rcases Xa.1 hj with c|c
  . exact h.node j c
  . simp at c;subst c;exact⟨b,hb⟩
theorem Cm.len (h:Cm d met)(hlt:∀ e,okE (Aa d) e->e<eMax):met.length<=2305843009213693952:=by
 refine CD _ _ h.nd fun i hi=>?_
 obtain⟨b,hb⟩:=h.node i hi;have:=hlt (2*i) (.inr ⟨b,by rw[show 2*i/2=i by omega];exact hb⟩);unfold eMax at this;omega
theorem Jz (h:Ai d V):∀ (k:Nat) (met:List Nat) (f:Nat),Cm d met->Cm d (A4 d k met f)
 | 0,met,f,hm=>hm
 | k+1,met,f,hm=>by
   unfold A4;cases hb:Aa d (f/2) with
   | none=>exact hm
   | some b =>
     show Cm d (if f/2∈met then met else _)
     by_cases c:f/2∈met
     . rw[WR c];exact hm
     . rw[WO c];exact Jz h k _ _ (Jz h k _ _ (hm.snoc hb c))
def CW (d:Ae)(l:List Nat):List Nat:=l.foldl (fun met f=>A4 d d.vars.length met f) []
theorem Uf (l:List Nat)(hi:i<l.length):CW d (l.take (i+1))=A4 d d.vars.length (CW d (l.take i)) l[i]:=by
 unfold CW;rw[YT,WS hi,YQ];rfl
theorem Na (h:Ai d V)(l:List Nat):Cm d (CW d l):=by
 unfold CW;have:∀ (l met:List Nat),Cm d met->Cm d (l.foldl (fun met f=>A4 d d.vars.length met f) met):=by
  intro l
  induction l with
  | nil=>intro met hm;exact hm
  | cons f r ih=>intro met hm;exact ih _ (Jz h _ _ _ hm)
 exact this l [] ⟨List.nodup_nil,by simp⟩
theorem Ug (h:Ai d V)(l:List Nat)(hl:∀ f∈l,okE (Aa d) f):(CW d l).length=(nodesF d.vars.length d.vars (l.map (ef V))).length:=by
 have:∀ (l:List Nat) (met:List Nat) (gs:List BF),(∀ f∈l,okE (Aa d) f)->RelN d V met gs->RelN d V (l.foldl (fun met f=>A4 d d.vars.length met f) met) ((l.map (ef V)).foldl (fun l G=>belF d.vars.length d.vars d.vars.length l G) gs):=by
  intro l
  induction l with
  | nil=>intro met gs _ hr;exact hr
  | cons f r ih =>
    intro met gs hl hr;exact ih _ _ (fun g hg=>hl g (XB _ hg)) (Jx h h.dag.none0 _ _ _ f (hl f (Xr ..)) hr)
 exact(this l [] [] hl ⟨rfl,fun i hi=>by simp at hi,fun i h1=>by simp at h1⟩).len
end
end Go.Proofs.YtgmbklaolcmljaaGreat
