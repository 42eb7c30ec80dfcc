/- Several texts in one file: contracts of the program's functions and what follows from them. -/
import Derived.Test.YtgmbklaolcmljaaGreatS7
set_option linter.unusedSimpArgs false
set_option linter.unusedVariables false
set_option linter.unusedSectionVars false
set_option linter.unnecessarySimpa false
set_option maxRecDepth 100000
set_option maxHeartbeats 8000000
namespace Go.Proofs.YtgmbklaolcmljaaGreat
open Go.Proofs.Tryz
open Go.RowKit
variable {A:Ae->(Nat->BF)->Nat->Prop}{Bwd:Wd->Prop}{C:Nat->Prop}{F G:BF}{K:Law}{Od:List Nat->Prop}{Q:Exit->Act->Wd->Prop}{V V':Nat->BF}{W W' w w' w0 w1 w2 wB:Wd}{a:Act}{args lop:Array Value}{b bf bl c f g gf i j k lo mb n off room sb x xb:Nat}{bs:List Bool}{d:Ae}{fs fs':List (Int×BF)}{fv v v':Value}{fx:Nat->Option Bool}{kf nx nx' op:Int}{ks zs:List Int}{ls:List (Int×Bool)}{m m':ManD}{o':Own}{ops:Array Oper}{pre vs:List Nat}{rest:List Oper}{ws0:List Ev}
theorem UP (args:Array Value)(w:Wd):(callFunc 126 args).run prog w=.ok (.enter 126 args) w:=XY func126 (by kernel_rfl) rfl args w
theorem NatV.keepC (h:NatV w v x)(hk:∀ b j d,w.cell? ⟨b,j,none⟩=some (.int .u32 d)->w'.heap[b]?=w.heap[b]?):NatV w' v x:=by
 obtain⟨a,c,h1,h2,h3,h4⟩:=h;refine⟨a,c,h1,h2,h3,⟨h4.len,h4.ok,fun k g0=>?_⟩⟩;obtain⟨b,off,e,hc⟩:=h4.cells k g0;exact⟨b,off,e,Co hc (hk b _ _ hc)⟩
theorem NatV.keepO (h:NatV w v x)(hk:∀ q,v.ownBlock=some q->w'.heap[q]?=w.heap[q]?):NatV w' v x:=by
 obtain⟨a,c,h1,h2,h3,h4⟩:=h;refine⟨a,c,h1,h2,h3,⟨h4.len,h4.ok,fun k g0=>?_⟩⟩;obtain⟨b,off,e,hc⟩:=h4.cells k g0;exact⟨b,off,e,Co hc (hk b (by rw[h1,e];rfl))⟩
theorem BW.keepO (h:BW W fv fx)(hk:∀ q,fv=.map (some q)->W'.heap[q]?=W.heap[q]?):BW W' fv fx:=by
 rcases h with h|⟨ft,l,h1,h2,h3⟩
 . exact .inl h
 . exact .inr ⟨ft,l,h1,h2.keepB (hk ft h1),h3⟩
structure BoT (n:Nat)(wB:Wd)(bA bX bF bN:Nat)(va fv:Value)(fx:Nat->Option Bool)(k:Int)(W:Wd):Prop where
 n_:∃ (a:Option Addr) (l c:Nat),W.heap[bN]?=some (.cells #[.slice a l c] 40 (0,0))
 a_:W.cell? ⟨bA,0,none⟩=some va
 an:NatV W va (2^n)
 x_:W.cell? ⟨bX,0,none⟩=some fv
 fx_:BW W fv fx
 f_:W.cell? ⟨bF,0,none⟩=some (.int .i64 k)
 s_:∀ q,fv=.map (some q)->W.heap[q]?=wB.heap[q]?
def CsT (bA bX bF bN:Nat)(va fv:Value)(q:Nat):Prop:=q=bA\/q=bX\/q=bF\/q=bN\/va.ownBlock=some q\/fv=.map (some q)
theorem BoT.keep {bA bX bF bN:Nat}{va:Value}{k:Int}(h:BoT n wB bA bX bF bN va fv fx k W)(hk:∀ q,CsT bA bX bF bN va fv q->W'.heap[q]?=W.heap[q]?):BoT n wB bA bX bF bN va fv fx k W' :=
 ⟨by rw[hk _ (.inr (.inr (.inr (.inl rfl))))];exact h.n_,Co h.a_ (hk _ (.inl rfl)),h.an.keepO fun q e=>hk q (.inr (.inr (.inr (.inr (.inl e))))),
  (Co h.x_ (hk _ (.inr (.inl rfl)))),h.fx_.keepO fun q e=>hk q (.inr (.inr (.inr (.inr (.inr e))))),
  (Co h.f_ (hk _ (.inr (.inr (.inl rfl))))),fun q e=>(hk q (.inr (.inr (.inr (.inr (.inr e)))))).trans (h.s_ q e)⟩
section
variable {o:Own}
def AskN (K:Law)(n:Nat)(Od:List Nat->Prop)(room:Nat)(w0:Wd)(mb:Nat)(fs:List (Int×BF))(nx:Int)(m:ManD)(o:Own)(w w':Wd)(v:Value):Prop :=
 ∃ o' m' V',ChgX NoB o o' w w'/\m'.waits=m.waits/\m'.d.vars=m.d.vars/\SatE K n Od room w0 mb fs nx w' o' m' V'/\∀ q,v.ownBlock=some q->o' q=none
def TotQ (ws0:List Ev)(os:List Nat)(bN N:Nat)(_:Nat)(o:Own)(W:Wd)(m:ManD)(_:Nat->BF):Prop :=
 m.waits=ws0/\m.d.vars=os/\∃ v,W.cell? ⟨bN,0,none⟩=some v/\NatV W v N/\∀ q,v.ownBlock=some q->o q=none
theorem UQ {bA bX bF bN:Nat}{va:Value}{k:Int}(hne:∀ q,(q=bA\/q=bX\/q=bF\/va.ownBlock=some q\/fv=.map (some q))->q≠bN)(hm:(k,G)∈fs)(ws0:List Ev)(os:List Nat)(E:Int->ManD->ManD->Prop) :
 OpLN K n Od room w0 mb fs nx (CsT bA bX bF bN va fv) (BoT n wB bA bX bF bN va fv fx k) (fun m=>m.waits=ws0/\m.d.vars=os) 126 #[.pointer (some ⟨bA,0,none⟩),.pointer (some ⟨bX,0,none⟩),.pointer (some ⟨bF,0,none⟩),.pointer (some ⟨bN,0,none⟩)] (TotQ ws0 os bN (totN n fx G)) E:=by
 intro o W m V xb g4 hB hC gd gi hnx;obtain⟨gq,gu⟩:=gd;obtain⟨f,hf,gw⟩:=g4.find hm;have hk:=g4.ok.store;have gn:=g4.ok.handles.ok _ hf;have gJ:∀ (fn:Fn) (first cap:Array Value) (w:Wd),(Instr.makeFunc fn first cap).run prog w=.ok (.func fn first cap) w:=fun _ _ _ _=>rfl
 have gI:=fun t w=>DO (P:=prog) w t
 have lN:=(hC bN (.inr (.inr (.inr (.inl rfl))))).1;have lA:=(hC bA (.inl rfl)).1;have lX:=(hC bX (.inr (.inl rfl))).1;have lF:=(hC bF (.inr (.inr (.inl rfl)))).1;have gB:xb<W.heap.size:=Ag gi.cell;have gC:xb≠bN:=fun e=>hnx (.inr (.inr (.inr (.inl e))))
 obtain⟨w4,g5⟩:=Ex ((((W.alloc (.cells #[.pointer (some ⟨xb,0,none⟩)] 161)).alloc (.map #[] 0)).alloc (.cells #[.map (some (W.heap.size+1))] 195)).alloc (.cells #[.nilFunc] 196));have gG:Hq (_=w4):=Hd g5.symm;have gx:Bw W w4:=by rw[g5];exact(((Af _ _).alloc (by simp) _).alloc (by simp;omega) _).alloc (by simp;omega) _
 have gA:w4.heap.size=W.heap.size+1+1+1+1:=by rw[g5];simp
 have g0:w4.heap[W.heap.size]?=some (.cells #[.pointer (some ⟨xb,0,none⟩)] 161 (0,0)):=by
  rw[g5];exact(WT _ _ (by simp;omega)).trans ((WT _ _ (by simp;omega)).trans ((WT _ _ (by simp)).trans (WN _ _)))
 have g1:Ar w4 (W.heap.size+1) (Value.int .i64) []:=by
  have h1:=En (W.alloc (.cells #[.pointer (some ⟨xb,0,none⟩)] 161)) (Value.int .i64);rw[WV] at h1;rw[g5];exact(h1.below (Af _ _)).below (Af _ _)
 have g2:w4.heap[W.heap.size+1+1]?=some (.cells #[.map (some (W.heap.size+1))] 195 (0,0)):=by
  have:=WN ((W.alloc (.cells #[.pointer (some ⟨xb,0,none⟩)] 161)).alloc (.map #[] 0)) (.cells #[.map (some (W.heap.size+1))] 195);rw[WV,WV] at this;rw[g5];exact(WT _ _ (by simp)).trans this
 have g3:w4.heap[W.heap.size+1+1+1]?=some (.cells #[.nilFunc] 196 (0,0)):=by
  have:=WN (((W.alloc (.cells #[.pointer (some ⟨xb,0,none⟩)] 161)).alloc (.map #[] 0)).alloc (.cells #[.map (some (W.heap.size+1))] 195)) (.cells #[.nilFunc] 196);rw[WV,WV,WV] at this;rw[g5];exact this
 have c6:=cell1 g3;have f6:w4.frozen? ⟨W.heap.size+1+1+1,0,none⟩=false:=by simp[World.frozen?,g3]
 obtain⟨w5,g7⟩:=Ex (w4.setCell ⟨W.heap.size+1+1+1,0,none⟩ (.func (.func 127) #[] #[.pointer (some ⟨bA,0,none⟩),.pointer (some ⟨W.heap.size+1+1+1,0,none⟩),.pointer (some ⟨W.heap.size+1+1,0,none⟩),.pointer (some ⟨W.heap.size,0,none⟩),.pointer (some ⟨bX,0,none⟩)]));have gh:∀ q:Nat,q≠W.heap.size+1+1+1->w5.heap[q]?=w4.heap[q]?:=fun q hq=>by rw[g7];exact Aw hq _
 have e6:w5.heap[W.heap.size+1+1+1]?=some (.cells #[.func (.func 127) #[] #[.pointer (some ⟨bA,0,none⟩),.pointer (some ⟨W.heap.size+1+1+1,0,none⟩),.pointer (some ⟨W.heap.size+1+1,0,none⟩),.pointer (some ⟨W.heap.size,0,none⟩),.pointer (some ⟨bX,0,none⟩)]] 196 (0,0)):=by rw[g7];exact Az g3 _
 have go:Bw W w5:=by rw[g7];exact gx.setCell (p:=⟨W.heap.size+1+1+1,0,none⟩) (by show W.heap.size<=W.heap.size+1+1+1;omega) _
 have gH:(store ⟨W.heap.size+1+1+1,0,none⟩ (.func (.func 127) #[] #[.pointer (some ⟨bA,0,none⟩),.pointer (some ⟨W.heap.size+1+1+1,0,none⟩),.pointer (some ⟨W.heap.size+1+1,0,none⟩),.pointer (some ⟨W.heap.size,0,none⟩),.pointer (some ⟨bX,0,none⟩)])).run prog w4=.ok () w5:=by
  rw[run_store _ _ _ _ _ rfl];simp[c6,f6,g7]
 obtain⟨wd,gb⟩:=Ex w5.drew;have gy:=Hd gb;have g6:Bw W wd:=by rw[gb];exact go.trans ((Ap w5 1).mono go.size)
 have ga:∀ q:Nat,wd.heap[q]?=w5.heap[q]?:=fun q=>by rw[gb];rfl
 have k6:wd.cell? ⟨W.heap.size+1+1+1,0,none⟩=some (.func (.func 127) #[] #[.pointer (some ⟨bA,0,none⟩),.pointer (some ⟨W.heap.size+1+1+1,0,none⟩),.pointer (some ⟨W.heap.size+1+1,0,none⟩),.pointer (some ⟨W.heap.size,0,none⟩),.pointer (some ⟨bX,0,none⟩)]):=cell1 ((ga _).trans e6);have k3:wd.cell? ⟨W.heap.size,0,none⟩=some (.pointer (some ⟨xb,0,none⟩)):=cell1 ((ga _).trans ((gh _ (by omega)).trans g0));have k5:wd.cell? ⟨W.heap.size+1+1,0,none⟩=some (.map (some (W.heap.size+1))):=cell1 ((ga _).trans ((gh _ (by omega)).trans g2));have km:Ar wd (W.heap.size+1) (Value.int .i64) []:=g1.keepB ((ga _).trans (gh _ (by omega)));have kc:∀ {b:Nat} {v:Value},W.cell? ⟨b,0,none⟩=some v->wd.cell? ⟨b,0,none⟩=some v:=fun {b v} h=>(Cq g6 h)
 have kF:=kc hB.f_;have gl:AH o wd xb mb:=⟨kc gi.cell,gi.own⟩;have ge:=g4.below g6;have g9:m.d.vars.length=n:=g4.vars;have hs:TtS (K m.d V) ⟨bA,W.heap.size+1+1+1,W.heap.size+1+1,W.heap.size,bX,W.heap.size+1,xb⟩ mb o m V fv fx wd:=by
  refine⟨ge.is,ge.lt,hk,hk.small,gl,⟨va,kc hB.a_,(by rw[g9];exact hB.an.below g6),fun q e=>(hC q (.inr (.inr (.inr (.inr (.inl e)))))).2⟩,k6,k5,k3,kc hB.x_,hB.fx_.below g6,fun e=>?_,⟨[],km,fun p hp=>by simp at hp⟩,g4.lt.none (by show W.heap.size<=W.heap.size+1;omega),?_⟩
  . have:=(hC (W.heap.size+1) (.inr (.inr (.inr (.inr (.inr e)))))).1;omega
  ·refine⟨?_,?_,?_,?_,?_,?_⟩
   . show W.heap.size+1≠bA;omega
   . show W.heap.size+1≠W.heap.size+1+1+1;omega
   . show W.heap.size+1≠W.heap.size+1+1;omega
   . show W.heap.size+1≠W.heap.size;omega
   . show W.heap.size+1≠bX;omega
   . show W.heap.size+1≠xb;omega
 have gj:=NJ m.d.vars.length f wd hs gn (by omega);have gz:=Hd (DV ge.is gl g4.ok.handles.nodup hf);obtain⟨P,hP⟩:∃ P:Ending->Wd->Prop,P=fun e w'=>∃ (o':Own) (m':ManD) (V':Nat->BF),Bu (CsT bA bX bF bN va fv) K o W mb m V o' w' m' V'/\BoT n wB bA bX bF bN va fv fx k w' /\
  ((e=.returned (.tuple #[])/\TotQ ws0 os bN (totN n fx G) W.heap.size o' w' m' V') \/
   (∃ er:Int,e=Au er false ev0/\er≠0/\m'.waits=m.waits/\(m'.waits=ws0/\m'.d.vars=os)/\E er m m') \/
   (∃ ev,e=Au 0 true ev/\m.waits=ev::m'.waits/\StE K n Od room w0 mb fs nx (fun m=>m.waits=ws0/\m.d.vars=os) m'/\HapG K n Od room w0 mb fs nx ev)):=⟨_,rfl⟩
 have gp:Hq (∀ w8 v,Wr (· = W.heap.size+1) wd w8->TtS (K m.d V) ⟨bA,W.heap.size+1+1+1,W.heap.size+1+1,W.heap.size,bX,W.heap.size+1,xb⟩ mb o m V fv fx w8->NatV w8 v (totN m.d.vars.length fx (ef V f))->(∀ q,v.ownBlock=some q->o q=none) ->
  (∃ w9,(∃ a l c,v=.slice a l c)/\((∃ y,w8.cell? ⟨bN,0,none⟩=some y)/\w8.frozen? ⟨bN,0,none⟩=false/\w8.setCell ⟨bN,0,none⟩ v=w9)/\P (.returned (.tuple #[])) w9 /\
   w9.cell? ⟨W.heap.size+1+1+1,0,none⟩=w8.cell? ⟨W.heap.size+1+1+1,0,none⟩/\w9.cell? ⟨W.heap.size,0,none⟩=w8.cell? ⟨W.heap.size,0,none⟩/\w9.cell? ⟨bF,0,none⟩=w8.cell? ⟨bF,0,none⟩)):=Hd fun w8 v hr h8 hv gD=>by
  obtain⟨na,nl,nc,gF⟩:=hB.n_;have gf:w8.heap[bN]?=some (.cells #[.slice na nl nc] 40 (0,0)):=by
   rw[hr.keep bN (by have:=g6.size;omega) (fun e=>by have e:bN=W.heap.size+1:=e;omega),g6.block bN lN];exact gF
  obtain⟨w9,gc⟩:=Ex (w8.setCell ⟨bN,0,none⟩ v);have gg:∀ q:Nat,q≠bN->w9.heap[q]?=w8.heap[q]?:=fun q hq=>by rw[gc];exact Aw hq _
  have gv:w9.heap[bN]?=some (.cells #[v] 40 (0,0)):=by rw[gc];exact Az gf _
  have gm:Wr (· = bN) w8 w9:=by rw[gc];exact(Wr.refl (· = bN) w8).setCell (p:=⟨bN,0,none⟩) (.inl rfl) v
  have gt:Wr (· = bN) W w9:=((Wr.of_below g6 (· = bN)).trans hr (fun _ _ e=>e) (fun k hk e=>by have e:k=W.heap.size+1:=e;omega)).trans gm (fun _ _ e=>e) (fun _ _ e=>e);have gs:NatV w9 v (totN m.d.vars.length fx (ef V f)):=hv.keepC fun b j d hc=>gg b fun e=>by
   subst e;rw[WQ _ _ _ _ _ _ gf] at hc;rcases(show j=0\/1<=j by omega) with rfl|hj
   . simp at hc
   . rw[YH (by simpa using hj)] at hc;cases hc
  have gE:o bN=none:=(hC bN (.inr (.inr (.inr (.inl rfl))))).2;obtain⟨va',vl',vc',gr⟩:∃ a l c,v=.slice a l c:=by
   obtain⟨a,c,e,_⟩:=hv;exact⟨a,_,c,e⟩
  refine⟨w9,⟨va',vl',vc',gr⟩,?_,?_,Xz (w:=w8) (a:=⟨W.heap.size+1+1+1,0,none⟩) (gg (W.heap.size+1+1+1) (by omega)),Xz (w:=w8) (a:=⟨W.heap.size,0,none⟩) (gg W.heap.size (by omega)),Xz (w:=w8) (a:=⟨bF,0,none⟩) (gg _ (hne bF (.inr (.inr (.inl rfl)))))⟩
  . exact⟨⟨_,cell1 gf⟩,by simp[World.frozen?,gf],gc.symm⟩
  ·rw[hP];refine⟨o,m,V,⟨h8.is.other h8.lt gm (fun q _ e=>by have e:q=bN:=e;subst e;exact gE),h8.lt.mono gm.size,ChgX.of_wr gt o (fun q _ e=>.inr (.inr (.inr (.inl e)))),hk,Ext.refl _ _,rfl,rfl⟩,?_,.inl ⟨rfl,gq,gu,v,cell1 gv,?_,gD⟩⟩
   ·have g8:∀ q,(q=bA\/q=bX\/q=bF\/va.ownBlock=some q\/fv=.map (some q))->w9.heap[q]?=W.heap[q]?:=fun q hq=>gt.keep q (hC q (by
     rcases hq with e|e|e|e|e
     . exact .inl e
     . exact .inr (.inl e)
     . exact .inr (.inr (.inl e))
     . exact .inr (.inr (.inr (.inr (.inl e))))
     . exact .inr (.inr (.inr (.inr (.inr e)))))).1 (hne q hq)
    refine⟨⟨va',vl',vc',by rw[<- gr];exact gv⟩,Co hB.a_ (g8 _ (.inl rfl)),hB.an.keepO fun q e=>g8 q (.inr (.inr (.inr (.inl e)))),Co hB.x_ (g8 _ (.inr (.inl rfl))),hB.fx_.keepO fun q e=>g8 q (.inr (.inr (.inr (.inr e)))),Co hB.f_ (g8 _ (.inr (.inr (.inl rfl)))),fun q e=>(g8 q (.inr (.inr (.inr (.inr e))))).trans (hB.s_ q e)⟩
   . rw[g9,gw] at gs;exact gs
 have gk:Hq (Calls prog 127 #[.int .i64 f,Pt bA,Pt (W.heap.size+1+1+1),Pt (W.heap.size+1+1),Pt W.heap.size,Pt bX] wd fun x w'=>∃ u,x=.returned u/\(w'.cell? ⟨W.heap.size+1+1+1,0,none⟩=some (.func (.func 127) #[] #[.pointer (some ⟨bA,0,none⟩),.pointer (some ⟨W.heap.size+1+1+1,0,none⟩),.pointer (some ⟨W.heap.size+1+1,0,none⟩),.pointer (some ⟨W.heap.size,0,none⟩),.pointer (some ⟨bX,0,none⟩)])/\w'.cell? ⟨W.heap.size,0,none⟩=some (.pointer (some ⟨xb,0,none⟩))/\w'.cell? ⟨bF,0,none⟩=some (.int .i64 k))/\∃ w9,(∃ a l c,u=.slice a l c)/\((∃ y,w'.cell? ⟨bN,0,none⟩=some y)/\w'.frozen? ⟨bN,0,none⟩=false/\w'.setCell ⟨bN,0,none⟩ u=w9)/\P (.returned (.tuple #[])) w9/\(w9.cell? ⟨W.heap.size+1+1+1,0,none⟩=some (.func (.func 127) #[] #[.pointer (some ⟨bA,0,none⟩),.pointer (some ⟨W.heap.size+1+1+1,0,none⟩),.pointer (some ⟨W.heap.size+1+1,0,none⟩),.pointer (some ⟨W.heap.size,0,none⟩),.pointer (some ⟨bX,0,none⟩)])/\w9.cell? ⟨W.heap.size,0,none⟩=some (.pointer (some ⟨xb,0,none⟩))/\w9.cell? ⟨bF,0,none⟩=some (.int .i64 k))):=Hd (gj.mono (by
  rintro x w' ⟨v,rfl,q1,q2,q3,q4⟩;obtain⟨w9,rs,r1,r2,r3,r4,r5⟩:=gp.o w' v q1 q2 q3 q4;have kf':w'.cell? ⟨bF,0,none⟩=some (.int .i64 k):=Co kF (q1.keep bF (Ag kF) (fun e=>by have e:bF=W.heap.size+1:=e;omega));exact⟨v,rfl,⟨q2.bt,q2.bx,kf'⟩,w9,rs,r1,r2,⟨r3.trans q2.bt,r4.trans q2.bx,r5.trans kf'⟩⟩))
 rw[<- hP];have eg1:=JB;have gK:Hq (_=w5):=Hd g7.symm;clear hP gp gj hs ge hk gw hf gn gB gC g4 hB hC gi hnx hne hm gx go g6 ga gh e6 g0 g1 g2 g3 g5 g7 gb k5 km kc gA gl g9 lN lA lX lF gq gu
 go_enter func126,ntmps126
 go_upto_region 3 with fail;rw[gG.o];go_upto_region 4 with fail;refine Dk [0,1,2,3,4,5] (fun W'=>W'.cell? ⟨W.heap.size+1+1+1,0,none⟩=some (.func (.func 127) #[] #[.pointer (some ⟨bA,0,none⟩),.pointer (some ⟨W.heap.size+1+1+1,0,none⟩),.pointer (some ⟨W.heap.size+1+1,0,none⟩),.pointer (some ⟨W.heap.size,0,none⟩),.pointer (some ⟨bX,0,none⟩)])/\W'.cell? ⟨W.heap.size,0,none⟩=some (.pointer (some ⟨xb,0,none⟩))/\W'.cell? ⟨bF,0,none⟩=some (.int .i64 k)) (fun ch w'=>False) (fun c a w hd h=>h.elim) (by kernel_rfl) (by rw[<- gy.o];exact⟨k6,k3,kF⟩) ?_;rw[<- gy.o]
 iterate 3
  refine BM rfl rfl (by kernel_rfl) ?_;apply Exists.intro;refine⟨fun w' hw=>?_,?_⟩
  . obtain⟨q1,q2,q3⟩:=hw;go_simp;rfl
  simp only[Ac]
 refine BG (R1:=fun u w'=>u=.int .i64 f/\wd=w') rfl (by kernel_rfl) rfl rfl (by go_simp) (gz.o.mono fun x w' h=>⟨_,h.1,rfl,h.2⟩) (by rintro u w' ⟨_,rfl⟩;exact⟨k6,k3,kF⟩) ?_;rintro u w'-⟨rfl,rfl⟩;simp only[Ac];refine BG (R1:=fun u w'=>(w'.cell? ⟨W.heap.size+1+1+1,0,none⟩=some (.func (.func 127) #[] #[.pointer (some ⟨bA,0,none⟩),.pointer (some ⟨W.heap.size+1+1+1,0,none⟩),.pointer (some ⟨W.heap.size+1+1,0,none⟩),.pointer (some ⟨W.heap.size,0,none⟩),.pointer (some ⟨bX,0,none⟩)])/\w'.cell? ⟨W.heap.size,0,none⟩=some (.pointer (some ⟨xb,0,none⟩))/\w'.cell? ⟨bF,0,none⟩=some (.int .i64 k))/\∃ w9,(∃ a l c,u=.slice a l c)/\((∃ y,w'.cell? ⟨bN,0,none⟩=some y)/\w'.frozen? ⟨bN,0,none⟩=false/\w'.setCell ⟨bN,0,none⟩ u=w9)/\P (.returned (.tuple #[])) w9/\(w9.cell? ⟨W.heap.size+1+1+1,0,none⟩=some (.func (.func 127) #[] #[.pointer (some ⟨bA,0,none⟩),.pointer (some ⟨W.heap.size+1+1+1,0,none⟩),.pointer (some ⟨W.heap.size+1+1,0,none⟩),.pointer (some ⟨W.heap.size,0,none⟩),.pointer (some ⟨bX,0,none⟩)])/\w9.cell? ⟨W.heap.size,0,none⟩=some (.pointer (some ⟨xb,0,none⟩))/\w9.cell? ⟨bF,0,none⟩=some (.int .i64 k))) rfl (by kernel_rfl) rfl rfl (by go_simp) (gk.o.mono fun x w' ⟨u,e,q⟩=>⟨u,e,q⟩) (by rintro u w' ⟨q,_⟩;exact q) ?_;rintro u w8-⟨⟨s1,s2,s3⟩,w9,⟨ua,ul,uc,rfl⟩,⟨⟨cy,cN⟩,fN,gd⟩,hp,hS⟩;have HF:=Hd hp;clear hp;simp only[Ac];refine Ur (w':=w9) rfl (by kernel_rfl) rfl rfl (by go_simp<;>exact gd) hS ?_;clear gd hS s1 s2 s3 cN fN;simp only[Ac];refine Dl (by kernel_rfl) ?_;clear k6 k3 kF gk gz;go_wp2_with fail;refine Yr (Ye rfl _ _ _) rfl ?_;exact HF.o
theorem UR (h:SatE K n Od room w0 mb fs nx w o m V){k:Int}(hf:(k,G)∈fs)(hfx:BW w fv fx)(hfo:∀ q,fv=.map (some q)->q<w.heap.size/\w0.heap.size<=q/\o q=none) :
 Calls prog 70 #[Pt mb,.int .i64 k,fv] w fun x w'=>∃ v,x=.returned (.tuple #[v,.int .i64 0])/\NatV w' v (totN n fx G)/\AskN K n Od room w0 mb fs nx m o w w' v:=by
 have gy:∀ (fn:Fn) (first cap:Array Value) (w:Wd),(Instr.makeFunc fn first cap).run prog w=.ok (.func fn first cap) w:=fun _ _ _ _=>rfl
 have hw0:=h.chg.size;obtain⟨fm,rfl⟩:∃ q,fv=.map q:=by
  rcases hfx with ⟨e,_⟩|⟨ft,l,e,_⟩
  . exact⟨_,e⟩
  . exact⟨_,e⟩
 have hn64:n<=64:=by have:=h.ok.store.small;rw[h.vars] at this;exact this
 obtain⟨s,hs⟩:=Ex w.heap.size;obtain⟨w1,g3⟩:=Ex (((w.alloc (.cells #[.int .i64 k] 3)).alloc (.cells #[.map fm] 127)).alloc (.cells #[.slice none 0 0] 40));have go:w1.heap.size=s+1+1+1:=by rw[g3,hs];simp
 have gj:Bw w w1:=by rw[g3];exact((Af _ _).alloc (by simp) _).alloc (by simp;omega) _
 have g0:w1.heap[s]?=some (.cells #[.int .i64 k] 3 (0,0)):=by
  rw[g3,hs];exact(WT _ _ (by simp;omega)).trans ((WT _ _ (by simp)).trans (WN _ _))
 have g1:w1.heap[s+1]?=some (.cells #[.map fm] 127 (0,0)):=by
  have:=WN (w.alloc (.cells #[.int .i64 k] 3)) (.cells #[.map fm] 127);rw[WV] at this;rw[g3,hs];exact(WT _ _ (by simp)).trans this
 have g2:w1.heap[s+1+1]?=some (.cells #[.slice none 0 0] 40 (0,0)):=by
  have:=WN ((w.alloc (.cells #[.int .i64 k] 3)).alloc (.cells #[.map fm] 127)) (.cells #[.slice none 0 0] 40);rw[WV,WV] at this;rw[g3,hs];exact this
 have gn:=Hd (Nr (w:=w1) (n:=1) (by omega))
 have gd:Hq (∀ w2 v1,Bw w1 w2->NatV w2 v1 1->Calls prog 69 #[Pt mb] w2 ((Sm (.int .i64 (n:Nat)) w2)) /\
  Calls prog 20 #[v1,.int .i64 (n:Nat)] w2 fun x w3=>∃ va,(∃ a l c,va=.slice a l c)/\x=.returned va /\
   Calls prog 96 #[Pt mb,.func (.func 126) #[] #[Pt w3.heap.size,Pt (s+1),Pt s,Pt (s+1+1)]] (w3.alloc (.cells #[va] 40)) fun x w'=>x=.returned (.int .i64 0)/\∃ v,w'.heap[s+1+1]?=some (.cells #[v] 40 (0,0))/\NatV w' v (totN n fx G)/\AskN K n Od room w0 mb fs nx m o w w' v):=Hd fun w2 v1 g5 gc=>by
  have g8:Bw w w2:=gj.trans (g5.mono gj.size);have gk:=h.below g8;refine⟨?_,?_⟩
  . have hv:=D7 gk.is;rw[gk.vars] at hv;exact hv
  ·refine(U8 gc (by rw[CX (by omega),BH];simp) (show n<=4096 by omega)).mono ?_;rintro x w3 ⟨⟨va,rfl,ge,ga,qa,e,gz⟩,gi⟩;rw[Nat.one_mul] at ge;refine⟨va,⟨_,_,_,e⟩,rfl,?_⟩;have gx:=g5.size;have gw:=gi.size;obtain⟨w4,gb⟩:=Ex (w3.alloc (.cells #[va] 40));rw[<- gb];have gh:Bw w3 w4:=by rw[gb];exact Af _ _
   have gv:w4.heap.size=w3.heap.size+1:=by rw[gb];simp
   have gA:w4.heap[w3.heap.size]?=some (.cells #[va] 40 (0,0)):=by rw[gb];exact WN _ _
   have gg:Bw w w3:=g8.trans (gi.mono g8.size);have g7:Bw w w4:=gg.trans (gh.mono gg.size);have g9:Bw w1 w4:=(g5.trans (gi.mono g5.size)).trans (gh.mono (by omega));have gp:=h.below g7;have e0:w4.heap[s]?=_:=(g9.block s (by omega)).trans g0;have e1:w4.heap[s+1]?=_:=(g9.block (s+1) (by omega)).trans g1;have e2:w4.heap[s+1+1]?=_:=(g9.block (s+1+1) (by omega)).trans g2;have g6:∀ q,va.ownBlock=some q->q=ga:=fun q hq=>by rw[e] at hq;exact(XL hq).symm
   have gu:ga<w3.heap.size:=by
    obtain⟨a,c,e3,_,_,hu⟩:=ge;have hl:0<(digD (2^n)).length:=by rw[CX (Nat.pos_iff_ne_zero.1 (XW (by omega)))];simp
    obtain⟨b,off,e4,hc⟩:=hu.cells 0 hl;rw[e,e4] at e3;injection e3 with e5
    have e6:ga=b:=by injection e5 with e7;injection e7
    rw[e6];exact Ag hc
   have gr:BoT n w4 w3.heap.size (s+1) s (s+1+1) va (.map fm) fx k w4:=⟨⟨none,0,0,e2⟩,cell1 gA,ge.below gh,cell1 e1,hfx.below g7,cell1 e0,fun _ _=>rfl⟩;have hC:∀ q,CsT w3.heap.size (s+1) s (s+1+1) va (.map fm) q->q<w4.heap.size/\o q=none:=by
    rintro q (rfl|rfl|rfl|rfl|e|e)
    . exact⟨by omega,h.lt.none (by omega)⟩
    . exact⟨by omega,h.lt.none (by omega)⟩
    . exact⟨by omega,h.lt.none (by omega)⟩
    . exact⟨by omega,h.lt.none (by omega)⟩
    . rw[g6 q e];exact⟨by omega,h.lt.none (by omega)⟩
    . have:=hfo q e;exact⟨by omega,this.2.2⟩
   have gs:∀ q,CsT w3.heap.size (s+1) s (s+1+1) va (.map fm) q->w0.heap.size<=q:=by
    rintro q (rfl|rfl|rfl|rfl|e|e)
    . omega
    . omega
    . omega
    . omega
    . rw[g6 q e];omega
    . exact(hfo q e).2.1
   have gq:∀ q,(q=w3.heap.size\/q=s+1\/q=s\/va.ownBlock=some q\/(.map fm:Value)=.map (some q))->q≠s+1+1:=by
    rintro q (rfl|rfl|rfl|e|e)
    . omega
    . omega
    . omega
    . rw[g6 q e];omega
    . have:=(hfo q e).1;omega
   have hL:=Jn (B:=BoT n w4 w3.heap.size (s+1) s (s+1+1) va (.map fm) fx k) (QP:=TotQ m.waits m.d.vars (s+1+1) (totN n fx G) 0) (St:=fun m'=>m'.waits=m.waits/\m'.d.vars=m.d.vars) (fun _ _ hb hk=>hb.keep hk) (fun s' o' W W' m' V' hc hz hu hq a=>by
    obtain⟨q1,q2,v,q3,q4,q5⟩:=hq;have hN:=hc (s+1+1) (.inr (.inr (.inr (.inl rfl))));refine⟨q1,q2,v,Co q3 (a.keep (s+1+1) (by omega) (by omega)),q4.keepC fun b j d gf=>a.keep b (Ag gf) (fun e=>?_),q5⟩;rcases e with rfl|rfl
    . exact hu.1 j d gf
    . exact hu.2 j d gf) (fun m' d hm hr=>⟨hm.1,by show d.vars=_;rw[hr.vars];exact hm.2⟩) gs UP (UQ (E:=fun _ _ _=>False) gq hf m.waits m.d.vars) gp gr hC ⟨rfl,rfl⟩
   refine hL.mono ?_;rintro x w' ⟨er,rfl,o',m',V',hs',gl,hc,⟨rfl,q1,q2,v,q3,q4,q5⟩|⟨_,m0,e,_⟩⟩
   ·obtain⟨na,nl,nc,hn⟩:=gl.n_;have hv:v=.slice na nl nc:=XL (q3.symm.trans (cell1 hn));refine⟨rfl,v,by rw[hv];exact hn,q4,o',m',V',?_,q1,q2,hs',q5⟩;have g4:ChgX (CsT w3.heap.size (s+1) s (s+1+1) va (.map fm)) o o' w w':=(ChgX.of_below g7 o _).trans hc (fun _ _ e=>e);refine⟨g4.os,g4.tape,g4.output,g4.size,fun k hk ho _=>?_,g4.ext,g4.new⟩
    by_cases e:CsT w3.heap.size (s+1) s (s+1+1) va (.map fm) k
    ·rcases e with e|e|e|e|e|e
     . omega
     . omega
     . omega
     . omega
     . have:=g6 k e;omega
     . exact(gl.s_ k e).trans (g7.block k hk)
    . exact g4.block k hk ho e
   . exact e.elim
 have HW1:=Hd g3.symm;obtain⟨P,hP⟩:=Ex (fun x w'=>∃ v,x=.returned (.tuple #[v,.int .i64 0])/\NatV w' v (totN n fx G)/\AskN K n Od room w0 mb fs nx m o w w' v:Ending->Wd->Prop)
 have HP:Hq (∀ w' v,NatV w' v (totN n fx G)->AskN K n Od room w0 mb fs nx m o w w' v->P (.returned (.tuple #[v,.int .i64 0])) w'):=Hd fun w' v h1 h2=>by rw[hP];exact⟨v,rfl,h1,h2⟩
 have HS:=Hd hs;rw[<- hP];clear hP h hw0 hn64 g3 go gj g0 g1 g2 hf hfx hfo hs
 delta Pt;go_enter func70,ntmps70
 go_upto_region 1 with fail;rw[HW1.o,<- HS.o];go_wp2_with fail;refine gn.o.mono ?_;rintro x w2 ⟨⟨v1,rfl,gc⟩,g5⟩;obtain⟨q1,q2⟩:=gd.o w2 v1 g5 gc;have HV:=Hd q1;have gm:=Hd q2;clear q1 q2 g5 gc gd gn;go_wp2_with fail;refine HV.o.mono ?_;rintro x w' ⟨rfl,rfl⟩;go_wp2_with fail;refine gm.o.mono ?_;rintro x w3 ⟨va,⟨ya,yl,yc,rfl⟩,rfl,hL⟩;have HL:=Hd hL;clear hL HV gm;go_wp2_with fail;refine HL.o.mono ?_;rintro x w' ⟨rfl,v,q2,q3,q4⟩;have HF:=Hd (HP.o w' v q3 q4);have gt:=Hd (NM q2);have c2:=cell1 q2;have f1:w'.frozen? ⟨s+1+1,0,none⟩=false:=by simp[World.frozen?,q2]
 obtain⟨va',vl',vc',rfl⟩:∃ a l c,v=.slice a l c:=by
  obtain⟨a,c,e,_⟩:=q3;exact⟨a,_,c,e⟩
 clear q3 q4 HL HP;go_wp2_with fail;rw[gt.o];have hu:=underlying40;refine Xc (v:=.tuple #[.slice va' vl' vc',.int .i64 0]) ((results_cell_tmp rfl _ _ _).trans ?_) rfl HF.o
 show ((asAddr (.pointer (some ⟨s+1+1,0,none⟩))).run prog w').andThen (fun a w₁=>((loadVar 40 a).run prog w₁).andThen fun v w₂=>.ok (Value.tuple #[v,.int .i64 0]) w₂)=_
 go_simp
end
section
variable {o:Own}
def known (fs:List (Int×BF))(k:Int):Prop:=∃ F,(k,F)∈fs
theorem Fy (h:SatE K n Od room w0 mb fs nx w o m V)(k:Int){b:Bool}(hb:b=true↔known fs k):Calls prog 29 #[Pt mb,.int .i64 k] w (Sm (.bool b) w):=by
 cases b with
 | true =>
   obtain⟨F,hF⟩:=hb.1 rfl;exact LS h hF
 | false=>exact S1 h (fun p hp e=>by
  have:known fs k:=⟨p.2,by rw[<- e];exact hp⟩;have:=hb.2 this;cases this)
end
theorem US (h:NatV w v x)(hk:k<=4096) :
 Calls prog 71 #[v,.int .i64 (k:Nat)] w fun e w'=>(∃ v',e=.returned v'/\NatV w' v' (x/2^k)/\∀ q,v'.ownBlock=some q->v.ownBlock=some q\/w.heap.size<=q)/\Bw w w':=by
 obtain⟨P,hP⟩:=Ex (fun e w'=>(∃ v',e=.returned v'/\NatV w' v' (x/2^k)/\∀ q,v'.ownBlock=some q->v.ownBlock=some q\/w.heap.size<=q)/\Bw w w':Ending->Wd->Prop)
 have g1:=Hd hP;rw[<- hP];have H0:Hq (NatV w v (x/2^0)/\∀ q,v.ownBlock=some q->v.ownBlock=some q\/w.heap.size<=q):=Hd ⟨by simpa using h,fun q e=>.inl e⟩;have g2:Hq (Bw w w):=Hd (Xd _ _);clear hP h
 go_enter func71,ntmps71
 go_wp2_with fail
 go_loopw [0,6] (fun s0 s6 wr=>∃ j:Nat,j<=k/\s6=.int .i64 (j:Int)/\Hq (NatV wr s0 (x/2^j)/\∀ q,s0.ownBlock=some q->v.ownBlock=some q\/w.heap.size<=q)/\Hq (Bw w wr)) (fun _ s6 _=>k-(intOf s6).toNat)
 case atStart=>exact⟨0,WX _,rfl,H0,g2⟩
 case round =>
  obtain⟨j,hj,rfl,HV,HB⟩:=hrel
  by_cases g4:j<k
  ·have g5:(j:Int)<(k:Int):=by omega
   have HH:=Hd (NA HV.o.1);clear HV;go_wp2_with fail;refine HH.o.mono ?_;rintro e w' ⟨⟨v',rfl,hv,hq⟩,hb⟩;have g0:Hq (NatV w' v' (x/2^(j+1))/\∀ q,v'.ownBlock=some q->v.ownBlock=some q\/w.heap.size<=q):=Hd ⟨by rw[X4,<- Nat.div_div_eq_div_mul];exact hv,fun q e=>.inr (WU HB.o.size (hq q e))⟩;have HB2:=Hd (HB.o.trans (hb.mono HB.o.size));clear hv hq hb HH HB;go_wp2_with fail;go_roundw
   case rel=>exact⟨j+1,by omega,by rw[show ((j+1:Nat):Int)=(j:Int)+1 by omega],g0,HB2⟩
   case measure=>simp[intOf];omega
  ·obtain rfl:j=k:=by omega
   have g3:¬ (j:Int)<(j:Int):=by omega
   have HF:Hq (P (.returned u0) wr):=Hd (by rw[g1.o];exact⟨⟨_,rfl,HV.o.1,HV.o.2⟩,HB.o⟩);clear HV HB;go_wp2_with fail;exact HF.o
section
variable {o:Own}
theorem UT (h:SatE K n Od room w0 mb fs nx w o m V)(k:Int){b:Bool}(hb:b=true↔known fs k) :
 Calls prog 68 #[Pt mb,.int .i64 k] w (Sm (.int .i64 (if b then 0 else 8)) w):=by
 have HK:=Hd (Fy h k hb);clear h hb;cases b with
 | true =>
   delta Pt;go_enter func68,ntmps68
   go_wp2_with fail;refine HK.o.mono ?_;rintro e w' ⟨rfl,rfl⟩;go_wp2_with fail;go_ret;exact⟨rfl,rfl⟩
 | false =>
   delta Pt;go_enter func68,ntmps68
   go_wp2_with fail;refine HK.o.mono ?_;rintro e w' ⟨rfl,rfl⟩;go_wp2_with fail;go_ret;exact⟨rfl,rfl⟩
end
theorem UU (hi:i<2^n):A6 (AP i (n+1))=upd (A6 (AP i n)) n false:=funext fun v=>by
 unfold upd A6 AP
 by_cases h:v=n
 . subst h;simp[List.getD,bitB,Zv hi]
 ·rw[WO h];rcases Xe v n with c|c
  . simp[List.getD,c,show v<n+1 by omega]
  . simp[List.getD,show ¬ v<n by omega,show ¬ v<n+1 by omega]
theorem UV (hi:i<2^n):A6 (AP (2^n+i) (n+1))=upd (A6 (AP i n)) n true:=funext fun v=>by
 unfold upd A6 AP
 by_cases h:v=n
 ·subst h;have e:(2^v+i)/2^v=1:=by
   rw[Nat.add_div_left _ (XW (by omega)),Zv hi]
  simp[List.getD,bitB,e]
 ·rw[WO h];rcases Xe v n with c|c
  ·have e:(2^n+i)/2^v%2=i/2^v%2:=by
    have h2:2^n=2^v*(2*2^(n-v-1)):=by
     rw[<- Nat.pow_succ',<- Nat.pow_add];congr 1;omega
    rw[h2,Nat.mul_add_div (XW (by omega))];omega
   simp[List.getD,c,show v<n+1 by omega,bitB,e]
  . simp[List.getD,show ¬ v<n by omega,show ¬ v<n+1 by omega]
theorem UW (n:Nat)(F:BF):tabB (n+1) F=tabB n (cofF F n false)++tabB n (cofF F n true):=by
 unfold tabB;rw[X4,Nat.mul_two,List.range_add,Xl,Y7];congr 1
 ·refine List.map_congr_left fun i hi=>?_
  rw[UU (Yt.1 hi)];rfl
 ·refine List.map_congr_left fun i hi=>?_
  show F (A6 (AP (2^n+i) (n+1)))=_
  rw[UV (Yt.1 hi)];rfl
theorem JF:∀ (n:Nat) (F:BF),(tabB n F).count true=cntN n F fun _=>false
 | 0,F=>by
   show ([F (A6 (AP 0 0))]:List Bool).count true=if F _=true then 1 else 0
   have:A6 (AP 0 0)=fun _=>false:=funext fun v=>by simp[A6,AP]
   rw[this];cases F fun _=>false<;>rfl
 | n+1,F=>by
   rw[UW,List.count_append,JF n,JF n,CF F n false n _ (WM _),CF F n true n _ (WM _)];rfl
def nfix:Nat->(Nat->Option Bool)->Nat
 | 0,_=>0
 | n+1,fx=>nfix n fx+(if (fx n).isSome then 1 else 0)
def cntA:Nat->BF->(Nat->Option Bool)->(Nat->Bool)->Nat
 | 0,F,_,ρ=>if F ρ then 1 else 0
 | n+1,F,fx,ρ=>match fx n with
   | none=>cntA n F fx (upd ρ n false)+cntA n F fx (upd ρ n true)
   | some b=>cntA n F fx (upd ρ n b)
theorem GE (F:BF)(fx:Nat->Option Bool):∀ (n:Nat) (ρ:Nat->Bool),(∀ v,n<=v->∀ b,fx v=some b->ρ v=b)->cntN n (fixV fx F) ρ=2^nfix n fx*cntA n F fx ρ
 | 0,ρ,h=>by
   have e:(fun v=>(fx v).getD (ρ v))=ρ:=funext fun v=>by
    cases hv:fx v with
    | none=>rfl
    | some b=>exact(h v (WX _) b hv).symm
   show (if F (fun v=>(fx v).getD (ρ v))=true then 1 else 0)=2^0*(if F ρ=true then 1 else 0)
   rw[e];simp
 | n+1,ρ,h=>by
   show cntN n _ (upd ρ n false)+cntN n _ (upd ρ n true)=_
   cases hv:fx n with
   | none =>
     have hu:∀ c,∀ v,n<=v->∀ b,fx v=some b->upd ρ n c v=b:=fun c v hv2 b hb=>by
      by_cases e:v=n
      . subst e;rw[hv] at hb;cases hb
      . unfold upd;rw[WO e];exact h v (by omega) b hb
     rw[GE F fx n _ (hu false),GE F fx n _ (hu true)];simp[cntA,nfix,hv,Nat.mul_add]
   | some b =>
     have hu:∀ v,n<=v->∀ b',fx v=some b'->upd ρ n b v=b':=fun v hv2 b' hb=>by
      by_cases e:v=n
      . subst e;rw[hv] at hb;cases hb;simp[upd]
      . unfold upd;rw[WO e];exact h v (by omega) b' hb
     have hc:∀ c,cofF (fixV fx F) n c=fixV fx F:=fun c=>funext fun σ=>by
      show F (fun v=>(fx v).getD (upd σ n c v))=F fun v=>(fx v).getD (σ v)
      congr 1;funext v
      by_cases e:v=n
      . subst e;rw[hv];rfl
      . unfold upd;rw[WO e]
     have he:∀ c,cntN n (fixV fx F) (upd ρ n c)=cntN n (fixV fx F) ρ:=fun c=>by
      rw[<- CF _ n c n ρ (WM _),hc]
     have e1:cntA (n+1) F fx ρ=cntA n F fx (upd ρ n b):=by simp[cntA,hv]
     have e2:nfix (n+1) fx=nfix n fx+1:=by simp[nfix,hv]
     rw[he false,he true,<- he b,GE F fx n _ hu,e1,e2,X4,Nat.mul_right_comm,Nat.mul_two]
def agF:Nat->(Nat->Option Bool)->(Nat->Bool)->Bool
 | 0,_,_=>true
 | n+1,fx,ρ=>agF n fx ρ&&(match fx n with|none=>true|some b=>ρ n == b)
theorem NN (n:Nat)(ρ:Nat->Bool):cntN n (fun _=>false) ρ=0:=by
 have h1:=J2 n (fun _=>false) ρ;have h2:cntN n (notF fun _=>false) ρ=2^n:=Nh n ρ;omega
theorem NO (F:BF)(fx:Nat->Option Bool):∀ (n:Nat) (ρ:Nat->Bool),cntN n (fun σ=>F σ&&agF n fx σ) ρ=cntA n F fx ρ
 | 0,ρ=>by
   show (if (F ρ&&true)=true then 1 else 0)=if F ρ=true then 1 else 0
   rw[Bool.and_true]
 | n+1,ρ=>by
   have key:∀ c,cntN n (fun σ=>F σ&&agF (n+1) fx σ) (upd ρ n c)=if (match fx n with|none=>true|some b=>c == b)=true then cntA n F fx (upd ρ n c) else 0:=fun c=>by
    rw[<- CF _ n c n ρ (WM _)];have e1:∀ σ,agF (n+1) fx (upd σ n c)=(agF n fx (upd σ n c)&&(match fx n with|none=>true|some b=>c == b)):=fun σ=>by
     show (agF n fx (upd σ n c)&&_)=_
     rw[show upd σ n c n=c by simp[upd]]
    by_cases hm:(match fx n with|none=>true|some b=>c == b)=true
    ·rw[WR hm,<- NO F fx n,<- CF _ n c n ρ (WM _)];refine Ul (fun σ=>?_) n ρ;rw[Bq,Bq]
     show (F (upd σ n c)&&agF (n+1) fx (upd σ n c))=(F (upd σ n c)&&agF n fx (upd σ n c))
     rw[e1,hm,Bool.and_true]
    ·rw[WO hm]
     rw[show cofF (fun σ=>F σ&&agF (n+1) fx σ) n c=fun _=>false from funext fun σ=>by
      rw[Bq]
      show (F (upd σ n c)&&agF (n+1) fx (upd σ n c))=false
      rw[e1,Bool.eq_false_iff.2 hm,Bool.and_false,Bool.and_false]]
     exact NN n ρ
   show cntN n _ (upd ρ n false)+cntN n _ (upd ρ n true)=_
   rw[key false,key true];have e3:cntA (n+1) F fx ρ=match fx n with|none=>cntA n F fx (upd ρ n false)+cntA n F fx (upd ρ n true)|some b=>cntA n F fx (upd ρ n b):=rfl
   rw[e3];cases fx n with
   | none=>simp
   | some b=>cases b<;>simp
theorem UX (n:Nat)(F:BF)(fx:Nat->Option Bool)(hf:∀ v,n<=v->fx v=none):totN n fx F=2^nfix n fx*(tabB n fun σ=>F σ&&agF n fx σ).count true:=by
 rw[JF,NO];exact GE F fx n _ fun v hv b hb=>by rw[hf v hv] at hb;cases hb
theorem UY (n:Nat)(F:BF)(fx:Nat->Option Bool)(hf:∀ v,n<=v->fx v=none):totN n fx F/2^nfix n fx=(tabB n fun σ=>F σ&&agF n fx σ).count true:=by
 rw[UX n F fx hf,Nat.mul_div_cancel_left _ (XW (by omega))]
theorem UZ (hf:∀ v,n<=v->fx v=none)(hi:∀ v,v<n->(fx v).isSome->Indep F v):fixV fx F=F:=by
 have key:∀ k,k<=n->∀ ρ,F (fun v=>if v<k then (fx v).getD (ρ v) else ρ v)=F ρ:=fun k=>by
  induction k with
  | zero=>intro _ ρ;simp
  | succ k ih =>
    intro hk ρ;rw[<- ih (by omega) ρ];cases hv:fx k with
    | none =>
      congr 1;funext v
      by_cases e:v=k
      . subst e;simp[hv]
      ·by_cases c:v<k
       . rw[WR c,WR (by omega)]
       . rw[WO c,WO (by omega)]
    | some b =>
      rw[<- hi k (by omega) (by rw[hv];rfl) (fun v=>if v<k then (fx v).getD (ρ v) else ρ v) b];congr 1;funext v
      by_cases e:v=k
      . subst e;simp[hv,upd]
      ·show _=upd (fun v=>if v<k then (fx v).getD (ρ v) else ρ v) k b v
       unfold upd;rw[WO e]
       by_cases c:v<k
       . rw[WR (by omega)];simp[c]
       . rw[WO (by omega)];simp[c]
 funext ρ;rw[<- key n (WM _) ρ]
 show F _=F _
 congr 1;funext v
 by_cases c:v<n
 . rw[WR c]
 . rw[WO c,hf v (by omega)];rfl
theorem AskN.next {o:Own}(h:AskN K n Od room w0 mb fs nx m o w w1 v)(hb:Bw w1 w')(hq:∀ q,v'.ownBlock=some q->v.ownBlock=some q\/w1.heap.size<=q):AskN K n Od room w0 mb fs nx m o w w' v':=by
 obtain⟨o',m',V',h1,h2,h3,h4,h5⟩:=h;refine⟨o',m',V',h1.trans (ChgX.of_below hb o' NoB) (fun _ _ e=>e),h2,h3,h4.below hb,fun q e=>?_⟩;rcases hq q e with e|e
 . exact h5 q e
 . exact h4.lt.none e
theorem AskN.of {o:Own}(h:SatE K n Od room w0 mb fs nx w o m V)(hb:Bw w w')(c:Nat):AskN K n Od room w0 mb fs nx m o w w' (.slice none 0 c) :=
 ⟨o,m,V,ChgX.of_below hb o NoB,rfl,rfl,h.below hb,fun q e=>by cases e⟩
section
variable {o:Own}
theorem Va (h:SatE K n Od room w0 mb fs nx w o m V){k:Int}(hf:(k,G)∈fs) :
 Calls prog 70 #[Pt mb,.int .i64 k,.map none] w fun x w'=>∃ v,x=.returned (.tuple #[v,.int .i64 0])/\NatV w' v (totN n (fun _=>none) G)/\AskN K n Od room w0 mb fs nx m o w w' v :=
 UR h hf (.inl ⟨rfl,fun _=>rfl⟩) (fun q e=>by cases e)
end
def setL (zs:List Int):List (Int×Value):=zs.foldl (fun l z=>putL z (.bool true) l) []
theorem Vb (zs:List Int)(z:Int):setL (zs++[z])=putL z (.bool true) (setL zs):=by
 unfold setL;rw[YQ];rfl
theorem JG:∀ (zs:List Int) (l:List (Int×Value)),(l.map Prod.fst).Nodup->((zs.foldl (fun l z=>putL z (.bool true) l) l).map Prod.fst).Nodup/\∀ z,getL (zs.foldl (fun l z=>putL z (.bool true) l) l) z=if z∈zs then some (.bool true) else getL l z
 | [],l,h=>⟨h,fun z=>by simp⟩
 | y::r,l,h=>by
   obtain⟨h1,h2⟩:=JG r (putL y (.bool true) l) (FT h y _);refine⟨h1,fun z=>?_⟩;rw[List.foldl_cons,h2 z,Ij h]
   by_cases e1:z∈r
   . rw[WR e1,WR (XB _ e1)]
   ·rw[WO e1]
    by_cases e2:z=y
    . rw[WR e2,WR (by rw[e2];exact Xr ..)]
    . rw[WO e2,WO (by simp[e1,e2])]
theorem Vc (zs:List Int):((setL zs).map Prod.fst).Nodup:=(JG zs [] (by simp)).1
theorem NQ (zs:List Int)(z:Int):getL (setL zs) z=if z∈zs then some (.bool true) else none:=by
 have:=(JG zs [] (by simp)).2 z;exact this
theorem Vd {l:List (Int×Value)}(z:Int):z∈l.map Prod.fst↔(getL l z).isSome=true:=by
 constructor
 ·intro h;cases hg:getL l z with
  | some v=>rfl
  | none =>
    obtain⟨p,hp,e⟩:=WW.1 h;exact absurd e (CO.1 hg p hp)
 . intro h;obtain⟨v,hv⟩:=Option.isSome_iff_exists.1 h;exact WW.2 ⟨_,DN hv,rfl⟩
def CH:Nat->List Int->Nat
 | 0,_=>0
 | n+1,l=>CH n l+if (n:Int)∈l then 1 else 0
theorem JH {l l':List Int}:∀ n:Nat,(∀ v:Nat,v<n->((v:Int)∈l↔(v:Int)∈l'))->CH n l=CH n l'
 | 0,_=>rfl
 | n+1,h=>by
   unfold CH;rw[JH n fun v hv=>h v (by omega)]
   by_cases e:(n:Int)∈l
   . rw[WR e,WR ((h n (by omega)).1 e)]
   . rw[WO e,WO (fun c=>e ((h n (by omega)).2 c))]
theorem GF:∀ (n:Nat) (l:List Int),l.Nodup->(∀ z∈l,0<=z/\z<(n:Int))->l.length=CH n l
 | 0,l,_,h=>by
   cases l with
   | nil=>rfl
   | cons a r=>have:=h a (by simp);omega
 | n+1,l,hn,h=>by
   unfold CH
   by_cases hm:(n:Int)∈l
   ·have h1:=GF n (l.erase (n:Int)) (hn.erase _) (fun x hx=>by
     have h2:=h x (YM hx);have h3:x≠(n:Int):=fun e=>by subst e;exact(List.Nodup.not_mem_erase hn) hx
     omega)
    rw[List.length_erase_of_mem hm] at h1;have h4:CH n (l.erase (n:Int))=CH n l:=JH n fun v hv=>by
     constructor
     . exact YM
     . exact fun hc=>(List.mem_erase_of_ne (by omega)).2 hc
    have hp:0<l.length:=Zl hm;rw[WR hm];omega
   ·rw[WO hm,Y6];refine GF n l hn (fun x hx=>?_);have h2:=h x hx;have h3:x≠(n:Int):=fun e=>by subst e;exact hm hx
    omega
def BX (n:Nat)(zs:List Int)(v:Nat):Option Bool:=if v<n/\(v:Int)∉zs then some false else none
theorem NR (v:Nat)(h:n<=v):BX n zs v=none:=by
 unfold BX;rw[WO (by omega)]
theorem JI (N:Nat)(zs:List Int):∀ n,n<=N->nfix n (BX N zs)+CH n zs=n
 | 0,_=>rfl
 | n+1,h=>by
   have ih:=JI N zs n (by omega);have e1:nfix (n+1) (BX N zs)=nfix n (BX N zs)+if (BX N zs n).isSome then 1 else 0:=rfl
   have e2:CH (n+1) zs=CH n zs+if (n:Int)∈zs then 1 else 0:=rfl
   by_cases e:(n:Int)∈zs
   ·have e3:BX N zs n=none:=by unfold BX;rw[WO (fun c=>c.2 e)]
    rw[e1,e2,e3,WR e];simp;omega
   ·have e3:BX N zs n=some false:=by unfold BX;rw[WR ⟨by omega,e⟩]
    rw[e1,e2,e3,WO e];simp;omega
theorem JJ (h:∀ z∈zs,0<=z/\z<(n:Int)):n-(setL zs).length=nfix n (BX n zs)/\(setL zs).length<=n:=by
 have hm:∀ z,z∈(setL zs).map Prod.fst↔z∈zs:=fun z=>by
  rw[Vd,NQ]
  by_cases e:z∈zs
  . rw[WR e];simp[e]
  . rw[WO e];simp[e]
 have h1:=GF n _ (Vc zs) (fun z hz=>h z ((hm z).1 hz));rw[Xy,JH n (fun v _=>hm v)] at h1;have h2:=JI n zs n (WM _);omega
def cntE (n:Nat)(G:BF)(zs:List Int):Int:=if ∀ z∈zs,0<=z/\z<(n:Int) then if ∀ v:Nat,v<n->AD n G v=true->(v:Int)∈zs then 0 else 1 else 9
def cntV (n:Nat)(G:BF)(zs:List Int):Nat:=(tabB n fun σ=>G σ&&agF n (BX n zs) σ).count true
def supL (n:Nat)(F:BF)(k:Nat):List Int:=((List.range k).filter (AD n F)).map fun v:Nat=>(v:Int)
theorem NS (n:Nat)(F:BF)(k:Nat):supL n F (k+1)=supL n F k++(if AD n F k then [(k:Int)] else []):=by
 unfold supL;rw[YI,XO,Xl];congr 1;simp only[Zu,List.filter_nil];split<;>rfl
theorem NT (n:Nat)(F:BF)(k:Nat):(supL n F k).length<=k:=by
 unfold supL;rw[Xy];exact WU (XG _ _) (by simp)
theorem OwnI.base {b':Nat}(h:OwnI w b v zs)(hb:b'<=b):OwnI w b' v zs:=by
 obtain⟨h1,h2⟩:=h;exact⟨h1,h2.imp id fun⟨g,cap,cur,e,hg,r⟩=>⟨g,cap,cur,e,by omega,r⟩⟩
section
variable {o:Own}
theorem Vf (h:SatE K n Od room w0 mb fs nx w o m V){k:Int}(hf:(k,F)∈fs) :
 Calls prog 83 #[Pt mb,.int .i64 k] w fun x w'=>∃ v,x=.returned (.tuple #[v,.int .i64 0])/\OwnI w' w.heap.size v (supL n F n)/\AskV K n Od room w0 mb fs nx m o w w':=by
 have hw0:=h.chg.size;obtain⟨w1,g0⟩:=Ex (w.alloc (.cells #[.int .i64 k] 3));have g5:Bw w w1:=by rw[g0];exact Af _ _
 have ge:w1.heap.size=w.heap.size+1:=by rw[g0];simp
 have g1:w1.heap[w.heap.size]?=some (.cells #[.int .i64 k] 3 (0,0)):=by rw[g0];exact WN _ _
 have gb:ArgI w0 w1 o (some ⟨w.heap.size,0,none⟩) [k]:=⟨⟨by simp,fun i hi=>by
  obtain rfl:i=0:=by simpa using hi
  exact⟨w.heap.size,0,rfl,cell1 g1⟩⟩,fun x hx=>by cases hx;exact⟨by show w.heap.size<w1.heap.size;omega,hw0,h.lt.none (WM _)⟩⟩
 have hS:=UO (c:=1) (Fs:=[F]) (h.below g5) gb rfl (fun i hi=>by
  obtain rfl:i=0:=by simpa using hi
  exact hf)
 have HS:Hq (Calls prog 135 #[Pt mb,.slice (some ⟨w.heap.size,0,none⟩) 1 1] (w.alloc (.cells #[.int .i64 k] 3)) fun x w'=>∃ nt cs,x=.returned (.tuple #[.map (some nt),.int .i64 0])/\Ar w' nt (Value.int .i64) (ctL cs)/\G4 n m.d.vars [F] cs/\AskV K n Od room w0 mb fs nx m o w w'/\w.heap.size<=w'.heap.size/\Calls prog 69 #[Pt mb] w' (Sm (.int .i64 (n:Nat)) w')):=Hd (by
  rw[<- g0];refine hS.mono ?_;rintro x w' ⟨nt,cs,rfl,h1,h2,o',m',V',h3,h4,h5,h6⟩
  exact⟨nt,cs,rfl,h1,h2,⟨o',m',V',(ChgX.of_below g5 o NoB).trans h3 (fun _ _ e=>e),h4,h5,h6⟩,by have:=h3.size;omega,by
   have hv:=D7 h6.is;rw[h6.vars] at hv;exact hv⟩)
 have gk:n<=64:=by have:=h.ok.store.small;rw[h.vars] at this;exact this
 obtain⟨P,hP⟩:=Ex (fun x w'=>∃ v,x=.returned (.tuple #[v,.int .i64 0])/\OwnI w' w.heap.size v (supL n F n)/\AskV K n Od room w0 mb fs nx m o w w':Ending->Wd->Prop)
 have gc:Hq (∀ w1 w' v,AskV K n Od room w0 mb fs nx m o w w1->Bw w1 w'->OwnI w' w1.heap.size v (supL n F n)->w.heap.size<=w1.heap.size->P (.returned (.tuple #[v,.int .i64 0])) w'):=Hd fun w1 w' v h1 h2 h3 h4=>by
  rw[hP];exact⟨v,rfl,h3.base h4,h1.below h2⟩
 rw[<- hP];clear hP gb hS hw0 g0 g5 ge g1 h hf
 delta Pt;go_enter func83,ntmps83
 go_wp2_with fail;refine HS.o.mono ?_;rintro x w2 ⟨nt,cs,rfl,g9,hv,g6,g8,g4⟩;have gd:=Hd g6;have HV:=Hd g4;have gi:=Hd g9;have HZ:=Hd g8;have HD:=Hd hv.dep;clear g6 g4 g9 g8 hv HS;go_wp2_with fail;refine HV.o.mono ?_;rintro x w3 ⟨rfl,rfl⟩;clear HV;go_wp2_with fail
 go_loopw [4,7,20] (fun s4 _ s20 wr=>∃ j:Nat,j<=n/\s20=.int .i64 j/\Hq (OwnI wr w2.heap.size s4 (supL n F j))/\Hq (Bw w2 wr)) (fun _ _ s20 _=>n-(intOf s20).toNat)
 case atStart=>exact⟨0,by omega,rfl,Hd (EM _ _),Hd (Xd _ _)⟩
 case round =>
  obtain⟨j,hj,rfl,HO,g3⟩:=hrel
  by_cases gl:j<n
  ·have gm:(j:Int)<(n:Int):=by omega
   have ga:=NK (gi.o.below g3.o) j;obtain⟨g,hg⟩:=Ex (getC j cs);rw[<- hg] at ga;have g2:=HD.o j;rw[<- hg] at g2;have gj:=NT n F j
   by_cases hp:0<g
   ·have gf:(0:Int)<(g:Int):=by omega
    have hh:AD n F j=true:=by simpa using g2.1 hp
    have g7:Hq (supL n F (j+1)=supL n F j++[(j:Int)]):=Hd (by rw[NS,hh];rfl);clear hg g2 hh;go_wp2_with (at_builtin;refine Dn _ rfl _ _ rfl w2.heap.size w2 _ (supL n F j) (j:Int) rfl rfl rfl rfl (by exact HO.o) (by omega) (by exact g3.o.size) (by exact g3.o) ?_;intro v' wy h1 h2 h3 h4);have gh:Hq (OwnI wy w2.heap.size v' (supL n F (j+1))):=Hd (by rw[g7.o];exact h1);have HB2:Hq (Bw w2 wy):=Hd h2;clear h1 h2 h3 h4 ga;go_roundw
    case rel=>exact⟨j+1,by omega,by go_num,gh,HB2⟩
    case measure=>simp[intOf];omega
   ·have gf:¬ (0:Int)<(g:Int):=by omega
    have hh:AD n F j=false:=by
     cases e:AD n F j with
     | false=>rfl
     | true=>exact absurd (g2.2 ⟨F,by simp,e⟩) hp
    have g7:Hq (supL n F (j+1)=supL n F j):=Hd (by rw[NS,hh];simp);clear hg g2 hh;go_wp2_with fail;go_roundw
    case rel=>exact⟨j+1,by omega,by go_num,by rw[g7.o];exact HO,g3⟩
    case measure=>simp[intOf];omega
  ·obtain rfl:j=n:=by omega
   have HF:=Hd (fun v hv=>gc.o w2 wr v gd.o g3.o hv HZ.o);have gg:=Hd HO.o;clear HO;go_wp2_with fail;exact HF.o _ gg.o
end
theorem Vg {a:Option Addr}(hz:An w a zs){caps:Array Value}{p:Int->Bool}(eg:∀ args w,(callFunc g args).run prog w=.ok (.enter g args) w)
 (hp:∀ z,Calls prog g (#[.int .i64 z]++caps) w (Sm (.bool (p z)) w)) :
 Calls prog 136 #[.slice a zs.length c,.func (.func g) #[] caps] w fun x w'=>(∃ i:Int,x=.returned (.int .i64 i)/\decide (i>=0)=zs.any p)/\w=w':=by
 obtain⟨P,hP⟩:=Ex (fun x w'=>(∃ i:Int,x=.returned (.int .i64 i)/\decide (i>=0)=zs.any p)/\w=w':Ending->Wd->Prop)
 have g3:=Hd hP;have HCK:Hq (∀ k,k<zs.length->∃ b off,a=some ⟨b,off,none⟩/\w.cell? ⟨b,off+k,none⟩=some (.int .i64 (at0 zs k))):=Hd hz.cells;have hl:=hz.len;have HP:=Hd hp;rw[<- hP];clear hP hz hp
 go_enter func136,ntmps136
 go_wp2_with fail
 go_loopw [4,5,8] (fun _ _ s8 wr=>∃ k:Nat,k<=zs.length/\s8=.int .i64 (k:Int)/\Hq (w=wr)/\Hq (∀ j,j<k->p (at0 zs j)=false)) (fun _ _ s8 _=>zs.length-(intOf s8).toNat)
 case atStart=>exact⟨0,WX _,rfl,Hd rfl,Hd (fun j hj=>by omega)⟩
 case round =>
  obtain⟨k,hk,rfl,HW,HQ⟩:=hrel;have hw:=HW.o;subst hw
  by_cases g2:k<zs.length
  ·have g6:(k:Int)<(zs.length:Int):=by omega
   obtain⟨b,off,rfl,ck⟩:=HCK.o k g2;obtain⟨z,g1⟩:=Ex (at0 zs k);rw[<- g1] at ck;cases g0:p z with
   | true =>
     have hc:=HP.o z;rw[g0] at hc;have HC:=Hd hc
     have HF:Hq (P (.returned (.int .i64 (k:Int))) w):=Hd (by
      rw[g3.o];refine⟨⟨_,rfl,?_⟩,rfl⟩;rw[XA (by omega)];refine(List.any_eq_true.2 ⟨z,?_,g0⟩).symm;rw[g1,AI g2];exact Xp g2)
     clear hc g0 g1 HP HCK HQ;go_wp2_with fail;refine HC.o.mono ?_;rintro x w' ⟨rfl,rfl⟩;go_wp2_with fail;exact HF.o
   | false =>
     have hc:=HP.o z;rw[g0] at hc;have HC:=Hd hc;have g4:Hq (∀ j,j<k+1->p (at0 zs j)=false):=Hd fun j hj=>by
      rcases(show j<k\/j=k by omega) with e|rfl
      . exact HQ.o j e
      . rw[<- g1];exact g0
     clear hc g0 g1 HP HCK HQ;go_wp2_with fail;refine HC.o.mono ?_;rintro x w' ⟨rfl,rfl⟩;go_wp2_with fail;go_roundw
     case rel=>exact⟨k+1,by omega,by rw[show ((k+1:Nat):Int)=(k:Int)+1 by omega],Hd trivial,g4⟩
     case measure=>simp[intOf];omega
  ·obtain rfl:k=zs.length:=by omega
   have g5:¬ (zs.length:Int)<(zs.length:Int):=by omega
   have HF:Hq (P (.returned (.int .i64 (-1))) w):=Hd (by
    rw[g3.o];refine⟨⟨_,rfl,?_⟩,rfl⟩;rw[show zs.any p=false from ?_]
    . rfl
    . rw[List.any_eq_false];intro z hz;obtain⟨i,hi,rfl⟩:=XX hz;have:=HQ.o i hi;rw[AI hi] at this;simp[this])
   clear HP HCK HQ;go_wp2_with fail;exact HF.o
theorem Vh {a:Option Addr}(hz:An w a zs){caps:Array Value}{p:Int->Bool}(eg:∀ args w,(callFunc g args).run prog w=.ok (.enter g args) w)
 (hp:∀ z,Calls prog g (#[.int .i64 z]++caps) w (Sm (.bool (p z)) w)) :
 Calls prog 84 #[.slice a zs.length c,.func (.func g) #[] caps] w (Sm (.bool (zs.any p)) w):=by
 have HI:=Hd (Vg (c:=c) hz eg hp);clear hz eg hp
 go_enter func84,ntmps84
 go_wp2_with fail;refine HI.o.mono ?_;rintro x w' ⟨⟨i,rfl,hi⟩,rfl⟩;have HF:=Hd hi;clear hi HI;go_wp2_with fail;go_ret;refine⟨?_,rfl⟩;rw[<- HF.o];rfl
theorem Vi (args:Array Value)(w:Wd):(callFunc 85 args).run prog w=.ok (.enter 85 args) w:=XY func85 (by kernel_rfl) rfl args w
theorem Vk {bs:Nat}{l:List (Int×Value)}(hc:w.cell? ⟨bs,0,none⟩=some (.map (some sb)))(hm:Ar w sb (Value.int .i64) l)(hl:∀ z,getL l z=if z∈zs then some (.bool true) else none)(z:Int) :
 Calls prog 85 #[.int .i64 z,Pt bs] w (Sm (.bool (!decide (z∈zs))) w):=by
 have g0:=hm.lookup Dj underlying127 zeroValue4 z false;rw[hl z] at g0
 by_cases e:z∈zs
 ·rw[WR e] at g0;rw[XA e];have g1:(Instr.lookup 127 (.map (some sb)) (.int .i64 z) false).run prog w=.ok (.bool true) w:=g0;clear hm hl g0 e
  delta Pt;go_enter func85,ntmps85
  go_wp2_with fail;go_ret;exact⟨rfl,rfl⟩
 ·rw[WO e] at g0;rw[X8 e];have g1:(Instr.lookup 127 (.map (some sb)) (.int .i64 z) false).run prog w=.ok (.bool false) w:=g0;clear hm hl g0 e
  delta Pt;go_enter func85,ntmps85
  go_wp2_with fail;go_ret;exact⟨rfl,rfl⟩
theorem NU (hd:DepF n G){v:Nat}(h:AD n G v=false):Indep G v:=by
 have hc:∀ b,DepF n (cofF G v b):=fun b ρ ρ' he=>by
  rw[Bq,Bq];refine hd _ _ fun i hi=>?_
  unfold upd;split
  . rfl
  . exact he i hi
 refine ED.2 (Mx (hc false) (hc true) ?_);unfold AD at h;simpa using h
theorem NV (hd:DepF n G)(h1:∀ z∈zs,0<=z/\z<(n:Int))(h2:∀ v:Nat,v<n->AD n G v=true->(v:Int)∈zs) :
 totN n (fun _=>none) G/2^(n-(setL zs).length)=cntV n G zs:=by
 have e:totN n (fun _=>none) G=totN n (BX n zs) G:=by
  unfold totN;rw[UZ (n:=n) (fx:=BX n zs) (fun v hv=>NR v hv) (fun v hv hs=>?_)]
  . rfl
  ·refine NU hd ?_;cases hh:AD n G v with
   | false=>rfl
   | true =>
     have:=h2 v hv hh;unfold BX at hs;rw[WO (fun c=>c.2 this)] at hs;cases hs
 rw[e,(JJ h1).1,UY n G _ (fun v hv=>NR v hv)];rfl
section
variable {o:Own}
theorem AskN.trans {v:Value}{o1:Own}{m1:ManD}(h1:ChgX NoB o o1 w w1)(hw:m1.waits=m.waits)(hv:m1.d.vars=m.d.vars)(h:AskN K n Od room w0 mb fs nx m1 o1 w1 w2 v):AskN K n Od room w0 mb fs nx m o w w2 v:=by
 obtain⟨o',m',V',q1,q2,q3,q4,q5⟩:=h;exact⟨o',m',V',h1.trans q1 (fun _ _ e=>e),q2.trans hw,q3.trans hv,q4,q5⟩
theorem NW (h:SatE K n Od room w0 mb fs nx w o m V){k:Int}(hf:(k,G)∈fs){a:Option Addr}(hz:An w a zs) :
 Calls prog 30 #[Pt mb,.int .i64 k,.slice a zs.length c] w fun x w'=>∃ v,x=.returned (.tuple #[v,.int .i64 (cntE n G zs)])/\NatV w' v (if cntE n G zs=0 then cntV n G zs else 0)/\AskN K n Od room w0 mb fs nx m o w w' v:=by
 have HA:=Hd (UT h k (b:=true) (by simp only[true_iff];exact⟨G,hf⟩));have hn64:n<=64:=by have:=h.ok.store.small;rw[h.vars] at this;exact this
 have hl:=hz.len;obtain⟨sb,g8⟩:=Ex w.heap.size;obtain⟨w1,g3⟩:=Ex ((w.alloc (.map #[] 0)).alloc (.cells #[.map (some w.heap.size)] 127));have gw:Bw w w1:=by rw[g3];exact(Af _ _).alloc (by simp) _
 have gm:Ar w1 sb (Value.int .i64) (setL (zs.take 0)):=by
  rw[g3,g8];exact(En w _).below (Af _ _)
 have gb:w1.heap[sb+1]?=some (.cells #[.map (some sb)] 127 (0,0)):=by
  have:=WN (w.alloc (.map #[] 0)) (.cells #[.map (some w.heap.size)] 127);rw[WV] at this;rw[g3,g8];exact this
 obtain⟨I,hI⟩:=Ex (fun i wr=>Ar wr sb (Value.int .i64) (setL (zs.take i))/\wr.cell? ⟨sb+1,0,none⟩=some (.map (some sb))/\Bw w wr/\∀ z∈zs.take i,0<=z/\z<(n:Int):Nat->Wd->Prop)
 have gj:Hq (I 0 w1):=Hd (by rw[hI];exact⟨gm,cell1 gb,gw,by simp⟩);obtain⟨P,hP⟩:=Ex (fun x w'=>∃ v,x=.returned (.tuple #[v,.int .i64 (cntE n G zs)])/\NatV w' v (if cntE n G zs=0 then cntV n G zs else 0)/\AskN K n Od room w0 mb fs nx m o w w' v:Ending->Wd->Prop)
 have HX:Hq (∀ i wr,i<zs.length->I i wr->wr.cell? ⟨sb+1,0,none⟩=some (.map (some sb))/\(∃ b off,a=some ⟨b,off,none⟩/\wr.cell? ⟨b,off+i,none⟩=some (.int .i64 (at0 zs i)))/\Calls prog 69 #[Pt mb] wr ((Sm (.int .i64 (n:Nat)) wr)) /\
  (0<=at0 zs i/\at0 zs i<(n:Int)->∃ w3,(Instr.mapUpdate 127 (.map (some sb)) (.int .i64 (at0 zs i)) (.bool true)).run prog wr=.ok () w3/\I (i+1) w3) /\
  (¬ (0<=at0 zs i/\at0 zs i<(n:Int))->P (.returned (.tuple #[.slice none 0 0,.int .i64 9])) wr)):=by
  rw[hI];refine Hd fun i wr hi hh=>?_
  obtain⟨h1,h2,h3,h4⟩:=hh;have hs:=h.below h3;refine⟨h2,?_,?_,fun hr=>?_,fun hr=>?_⟩
  . obtain⟨b,off,e,hc⟩:=hz.cells i hi;exact⟨b,off,e,(Cq h3 hc)⟩
  . have hv:=D7 hs.is;rw[hs.vars] at hv;exact hv
  ·obtain⟨w3,r1,r2,r3⟩:=h1.update Dj underlying127 (at0 zs i) (.bool true);have hw:Wr (· = sb) wr w3:=Wr.of_grown r3 _ (fun k e=>by cases e;rfl);have et:zs.take (i+1)=zs.take i++[at0 zs i]:=by rw[YT,getElem?_at0 hi];rfl
   refine⟨w3,r1,?_,?_,?_,?_⟩
   . rw[et,Vb];exact r2
   . exact(Co h2 (hw.keep (sb+1) (Ag h2) (fun e=>by have e:sb+1=sb:=e;omega)))
   . exact h3.trans (hw.below (fun k e=>by have e:k=sb:=e;omega) h3.size)
   ·intro z gn;rw[et] at gn;rcases Xa.1 gn with e|e
    . exact h4 z e
    . simp at e;rw[e];exact hr
  ·rw[hP];have he:cntE n G zs=9:=by
    unfold cntE;rw[WO];intro g0;exact hr (g0 _ (by rw[AI hi];exact Xp hi))
   refine⟨.slice none 0 0,by rw[he],?_,AskN.of h h3 0⟩;rw[he,WO (by decide)];exact DJ wr
 have g6:Hq (∀ wr,I zs.length wr->Calls prog 83 #[Pt mb,.int .i64 k] wr fun x w5=>∃ a5 c5 bb,x=.returned (.tuple #[.slice a5 (supL n G n).length c5,.int .i64 0]) /\
  Calls prog 84 #[.slice a5 (supL n G n).length c5,.func (.func 85) #[] #[Pt (sb+1)]] w5 ((Sm (.bool bb) w5)) /\
  (bb=true->P (.returned (.tuple #[.slice none 0 0,.int .i64 1])) w5) /\
  (bb=false->Calls prog 70 #[Pt mb,.int .i64 k,.map none] w5 fun x w6=>∃ v6,x=.returned (.tuple #[v6,.int .i64 0]) /\
   ∀ wz,Bw w6 wz->wz.cell? ⟨sb+1,0,none⟩=some (.map (some sb))/\Ar wz sb (Value.int .i64) (setL zs)/\Calls prog 69 #[Pt mb] wz ((Sm (.int .i64 (n:Nat)) wz)) /\
    IntKind.i64.wrap ((n:Int)-((setL zs).length:Nat))=(n:Int)-((setL zs).length:Nat) /\
    (Calls prog 71 #[v6,.int .i64 ((n:Int)-((setL zs).length:Nat))] wz fun x w9=>∃ v9,x=.returned v9/\(w9.cell? ⟨sb+1,0,none⟩=some (.map (some sb))/\Ar w9 sb (Value.int .i64) (setL zs))/\P (.returned (.tuple #[v9,.int .i64 0])) w9))):=by
  rw[hI];refine Hd fun wr hh=>?_
  obtain⟨h1,h2,h3,h4⟩:=hh;rw[Xx] at h1 h4;have hs:=h.below h3;refine(Vf hs hf).mono ?_;rintro x w5 ⟨v5,rfl,gA,o5,m5,V5,g1,go,gq,gt⟩;obtain⟨a5,c5,rfl,gC,_⟩:=gA.sliceIs (by have:=NT n G n;omega);have g9:o sb=none:=h.lt.none (by omega);have ge:o (sb+1)=none:=h.lt.none (by omega);have gf:Ar w5 sb (Value.int .i64) (setL zs):=h1.keepB (g1.block sb h1.lt g9 (fun e=>e));have gi:w5.cell? ⟨sb+1,0,none⟩=some (.map (some sb)):=g1.cell h2 ge (fun e=>e);have gl:AskN K n Od room w0 mb fs nx m o w w5 (.slice none 0 0):=⟨o5,m5,V5,(ChgX.of_below h3 o NoB).trans g1 (fun _ _ e=>e),go,gq,gt,fun q e=>by cases e⟩;obtain⟨bb,gv⟩:=Ex ((supL n G n).any fun z => !decide (z∈zs))
  have gg:bb=true↔¬ ∀ v:Nat,v<n->AD n G v=true->(v:Int)∈zs:=by
   rw[gv,List.any_eq_true];constructor
   . rintro⟨z,q1,q2⟩ g0;unfold supL at q1;obtain⟨v,q3,rfl⟩:=WW.1 q1;obtain⟨q4,q5⟩:=XT.1 q3;have:=g0 v (Yt.1 q4) q5;simp[this] at q2
   ·intro g0;refine X9 fun g9=>g0 fun v hv hh=>?_
    refine X9 fun gJ=>g9 ⟨(v:Int),WW.2 ⟨v,XT.2 ⟨Yt.2 hv,hh⟩,rfl⟩,by simp[gJ]⟩
  refine⟨a5,c5,bb,rfl,?_,fun gL=>?_,fun gM=>?_⟩
  . rw[gv];exact Vh gC Vi (fun z=>Vk gi gf (fun z=>NQ zs z) z)
  ·rw[hP];have he:cntE n G zs=1:=by
    unfold cntE;rw[WR h4,WO (gg.1 gL)]
   refine⟨.slice none 0 0,by rw[he],?_,gl⟩;rw[he,WO (by decide)];exact DJ w5
  ·have g0:∀ v:Nat,v<n->AD n G v=true->(v:Int)∈zs:=X9 fun hc=>by
    have:=gg.2 hc;rw[gM] at this;cases this
   have he:cntE n G zs=0:=by
    unfold cntE;rw[WR h4,WR g0]
   refine(Va gt hf).mono ?_;rintro x w6 ⟨v6,rfl,gG,o6,m6,V6,ga,gF,gz,gs,gI⟩;refine⟨v6,rfl,fun wz g4=>?_⟩;have gB:o5 sb=none:=g1.none' h1.lt g9;have gd:o5 (sb+1)=none:=g1.none' (Ag h2) ge;have gu:Ar wz sb (Value.int .i64) (setL zs):=(gf.keepB (ga.block sb gf.lt gB (fun e=>e))).below g4;have g5:wz.cell? ⟨sb+1,0,none⟩=some (.map (some sb)):=(g4.cell (p:=⟨sb+1,0,none⟩) (Ag (ga.cell gi gd (fun e=>e)))).trans (ga.cell gi gd (fun e=>e));have gr:=gs.below g4;obtain⟨gX,gV⟩:=JJ h4;refine⟨g5,gu,?_,Zm _ ⟨by omega,by omega⟩,?_⟩
   . have hv:=D7 gr.is;rw[gr.vars] at hv;exact hv
   . rw[show (n:Int)-((setL zs).length:Nat)=((n-(setL zs).length:Nat):Int) by omega];refine(US (gG.below g4) (by omega)).mono ?_;rintro x w9 ⟨⟨v9,rfl,gp,gH⟩,gh⟩;refine⟨v9,rfl,⟨(Cq gh g5),gu.below gh⟩,?_⟩;rw[hP];rw[NV (h.dep hf) h4 g0] at gp;refine⟨v9,by rw[he],by rw[he,WR rfl];exact gp,?_⟩;have gk:AskN K n Od room w0 mb fs nx m5 o5 w5 w6 v6:=⟨o6,m6,V6,ga,gF,gz,gs,gI⟩;exact((AskN.trans ((ChgX.of_below h3 o NoB).trans g1 (fun _ _ e=>e)) go gq gk).next g4 (fun q e=>.inl e)).next gh gH
 have HW1:Hq (_=w1):=Hd g3.symm;have gN:=Hd g8;have gU:∀ (fn:Fn) (first cap:Array Value) (w:Wd),(Instr.makeFunc fn first cap).run prog w=.ok (.func fn first cap) w:=fun _ _ _ _=>rfl
 have gT:=fun t w=>DO (P:=prog) w t
 rw[<- hP];clear hP hI h hf hz g8 g3 gw gm gb
 delta Pt;go_enter func30,ntmps30
 go_wp2_with fail;refine HA.o.mono ?_;rintro x w' ⟨rfl,rfl⟩;clear HA;go_upto_region 5 with fail;rw[HW1.o,<- gN.o];clear HW1;go_wp2_with fail
 go_loopw [6,7,11,22] (fun _ _ _ s22 wr=>∃ i:Nat,i<=zs.length/\s22=.int .i64 (i:Int)/\Hq (I i wr)) (fun _ _ _ s22 _=>zs.length-(intOf s22).toNat)
 case atStart=>exact⟨0,WX _,rfl,gj⟩
 case round =>
  obtain⟨i,hi,rfl,HI⟩:=hrel
  by_cases gK:i<zs.length
  ·have gY:(i:Int)<(zs.length:Int):=by omega
   obtain⟨cbx,⟨b,off,rfl,ck⟩,hv,g7,g2⟩:=HX.o i wr gK HI.o;have HV:=Hd hv;obtain⟨z,hz⟩:=Ex (at0 zs i);rw[<- hz] at ck g7 g2;clear hv HX g6 HI gj hz
   by_cases hr:0<=z/\z<(n:Int)
   ·obtain⟨w3,gP,gx⟩:=g7 hr;have gO:=Hd gx;have gE:¬ z<0:=by omega
    have gD:¬ z>=(n:Int):=by omega
    clear gx g7 g2 hr;go_wp2_with fail;refine HV.o.mono ?_;rintro x w' ⟨rfl,rfl⟩;go_wp2_with fail;go_roundw
    case rel=>exact⟨i+1,by omega,by rw[show ((i+1:Nat):Int)=(i:Int)+1 by omega],gO⟩
    case measure=>simp[intOf];omega
   ·have HF:=Hd (g2 hr);clear g7 g2
    by_cases gE:z<0
    ·clear hr;go_wp2_with fail
     first|exact HF.o|exact Xc (X6 rfl _ _ _) rfl HF.o
    ·have gD:z>=(n:Int):=by omega
     clear hr;go_wp2_with fail;refine HV.o.mono ?_;rintro x w' ⟨rfl,rfl⟩;go_wp2_with fail
     first|exact HF.o|exact Xc (X6 rfl _ _ _) rfl HF.o
  ·obtain rfl:i=zs.length:=by omega
   have gQ:¬ (zs.length:Int)<(zs.length:Int):=by omega
   have HS:=Hd (g6.o wr HI.o);clear HX g6 HI gj;go_wp2_with fail;refine HS.o.mono ?_;rintro x w5 ⟨a5,c5,bb,rfl,q1,q2,q3⟩;have HC:=Hd q1;clear q1 HS;cases bb with
   | true =>
     have HF:=Hd (q2 rfl);clear q2 q3;go_wp2_with fail;refine HC.o.mono ?_;rintro x w' ⟨rfl,rfl⟩;go_wp2_with fail
     first|exact HF.o|exact Xc (X6 rfl _ _ _) rfl HF.o
   | false =>
     have HT:=Hd (q3 rfl);clear q2 q3;go_wp2_with fail;refine HC.o.mono ?_;rintro x w' ⟨rfl,rfl⟩;clear HC;go_wp2_with fail;refine HT.o.mono ?_;rintro x w6 ⟨v6,rfl,q⟩;obtain⟨wz,gc⟩:=Ex w6.drew;have gy:=Hd gc;obtain⟨r1,r2,r3,gS,r4⟩:=q wz (by rw[gc];exact Ap w6 1);have HV:=Hd r3;have HH:=Hd r4;clear r3 r4 q gc HT;go_upto_region 20 with fail;refine Dk [0,1,3,2,4,5,6,7,8] (fun W'=>W'.cell? ⟨sb+1,0,none⟩=some (.map (some sb))/\Ar W' sb (Value.int .i64) (setL zs)) (fun ch w'=>False) (fun c a w hd h=>h.elim) (by kernel_rfl) (by rw[<- gy.o];exact⟨r1,r2⟩) ?_;rw[<- gy.o]
     iterate 3
      refine BM rfl rfl (by kernel_rfl) ?_;apply Exists.intro;refine⟨fun w' hw=>?_,?_⟩
      . obtain⟨q1,q2⟩:=hw;go_simp;rfl
      simp only[Ac]
     refine BG (R1:=fun u w'=>u=.int .i64 (n:Nat)/\wz=w') rfl (by kernel_rfl) rfl rfl (by go_simp) (HV.o.mono fun x w' h=>⟨_,h.1,rfl,h.2⟩) (by rintro u w' ⟨_,rfl⟩;exact⟨r1,r2⟩) ?_;rintro u w'-⟨rfl,rfl⟩;simp only[Ac]
     iterate 2
      refine BM rfl rfl (by kernel_rfl) ?_;apply Exists.intro;refine⟨fun w' hw=>?_,?_⟩
      ·obtain⟨q1,q2⟩:=hw;have gR:=fun ty=>q2.size (P:=prog) underlying127 ty
       go_simp;rfl
      simp only[Ac]
     refine BG (R1:=fun u w'=>(w'.cell? ⟨sb+1,0,none⟩=some (.map (some sb))/\Ar w' sb (Value.int .i64) (setL zs))/\P (.returned (.tuple #[u,.int .i64 0])) w') rfl (by kernel_rfl) rfl rfl (by go_simp) (HH.o.mono fun x w' ⟨v9,e,q1,q2⟩=>⟨v9,e,q1,q2⟩) (by rintro u w' ⟨q,_⟩;exact q) ?_;rintro u w9-⟨_,hp⟩;have HF:=Hd hp;clear hp r1 r2 HH HV;simp only[Ac]
     iterate 2
      refine BM rfl rfl (by kernel_rfl) ?_;apply Exists.intro;refine⟨fun w' hw=>?_,?_⟩
      . go_simp;rfl
      simp only[Ac]
     refine Dl (by kernel_rfl) ?_;go_wp2_with fail
     first|exact HF.o|exact Xc (X6 rfl _ _ _) rfl HF.o
end
def allL:List Nat->BF->List (List Bool)
 | [],F=>if F (fun _=>false) then [[]] else []
 | v::r,F=>(allL r (cofF F v false)).map (false :: ·)++(allL r (cofF F v true)).map (true :: ·)
def BY (vs:List Nat)(F:BF):Prop:=∀ ρ ρ':Nat->Bool,(∀ v∈vs,ρ v=ρ' v)->F ρ=F ρ'
theorem BY.cof {v:Nat}{r:List Nat}(h:BY (v::r) F)(b:Bool):BY r (cofF F v b):=fun ρ ρ' hr=>by
 rw[Bq,Bq];refine h _ _ fun u hu=>?_
 unfold upd
 by_cases e:u=v
 . rw[WR e,WR e]
 . rw[WO e,WO e];exact hr u ((XI.1 hu).resolve_left e)
theorem JK {n:Nat}:∀ (vs:List Nat) (F:BF),vs.Nodup->(∀ v∈vs,v<n)->BY vs F->totN n (fun _=>none) F=2^(n-vs.length)*(allL vs F).length
 | [],F,_,_,h=>by
   have hc:F=fun _=>F fun _=>false:=funext fun ρ=>h ρ _ (by simp)
   unfold allL;cases hb:F fun _=>false with
   | true =>
     rw[hb] at hc;rw[hc,Nk];simp
   | false =>
     rw[hb] at hc;rw[hc];have:totN n (fun _=>none) (fun _=>false)=0:=NN n _;rw[this];simp
 | v::r,F,hn,hl,h=>by
   rw[Yp] at hn;have hv:=hl v (Xr ..);have hr:∀ u∈r,u<n:=fun u hu=>hl u (XB _ hu)
   have hlen:=CD n (v::r) (Yp.2 hn) hl;rw[Xm] at hlen;have e:=Nn (n:=n) (fx:=fun _=>none) (v:=v) rfl hv F;rw[JK r _ hn.2 hr (h.cof false),JK r _ hn.2 hr (h.cof true)] at e;rw[<- e,<- Nat.mul_add];obtain⟨k,hk⟩:∃ k,n-r.length=k+1:=⟨n-r.length-1,by omega⟩;have h2:n-(v::r).length=k:=by rw[Xm];omega
   rw[hk,h2,X4,YL,Nat.mul_left_comm,Nat.mul_div_cancel_left _ (by omega)];have ea:allL (v::r) F=(allL r (cofF F v false)).map (false :: ·)++(allL r (cofF F v true)).map (true :: ·):=rfl;rw[ea];simp
theorem NX (hd:DepF n F)(hn:vs.Nodup)(hl:∀ v∈vs,v<n)(h:BY vs F):cntV n F (vs.map fun v:Nat=>(v:Int))=(allL vs F).length:=by
 have h1:∀ z∈vs.map fun v:Nat=>(v:Int),0<=z/\z<(n:Int):=fun z hz=>by
  obtain⟨v,hv,rfl⟩:=WW.1 hz;have:=hl v hv;omega
 have h2:∀ v:Nat,v<n->AD n F v=true->(v:Int)∈vs.map fun v:Nat=>(v:Int):=fun v hv hh=>by
  refine X9 fun hc=>?_
  have g0:v∉vs:=fun e=>hc (WW.2 ⟨v,e,rfl⟩)
  have hi:Indep F v:=fun ρ b=>h _ _ fun u hu=>by
   unfold upd;rw[WO (fun e=>g0 (by rw[<- e];exact hu))]
  have he:=ED.1 hi;unfold AD at hh;rw[he] at hh;simp at hh
 rw[<- NV hd h1 h2];have hs:(setL (vs.map fun v:Nat=>(v:Int))).length=vs.length:=by
  obtain⟨e1,e2⟩:=JJ h1;have e3:=JI n (vs.map fun v:Nat=>(v:Int)) n (WM _);have g1:(vs.map fun v:Nat=>(v:Int)).Nodup:=Yh.2 (hn.imp fun g2 e=>g2 (Zw e));have e4:=GF n _ g1 h1;rw[Xy] at e4;have e5:=CD n vs hn hl;omega
 have g3:=CD n vs hn hl;rw[hs,JK vs F hn hl h,Nat.mul_div_cancel_left _ (XW (by omega))]
theorem Vl (hl:∀ v∈vs,v<n)(h:BY vs F):cntE n F (vs.map fun v:Nat=>(v:Int))=0:=by
 unfold cntE
 rw[WR (fun z hz=>by
  obtain⟨v,hv,rfl⟩:=WW.1 hz;have:=hl v hv;omega),WR]
 intro v hv hh;refine X9 fun hc=>?_
 have g0:v∉vs:=fun e=>hc (WW.2 ⟨v,e,rfl⟩)
 have hi:Indep F v:=fun ρ b=>h _ _ fun u hu=>by
  unfold upd;rw[WO (fun e=>g0 (by rw[<- e];exact hu))]
 have he:=ED.1 hi;unfold AD at hh;rw[he] at hh;simp at hh
theorem Vm (hd:DepF n F)(h:cntE n F (vs.map fun v:Nat=>(v:Int))=0):BY vs F:=by
 have h2:∀ v:Nat,v<n->v∉vs->Indep F v:=fun v hv g0=>by
  refine NU hd ?_;cases hh:AD n F v with
  | false=>rfl
  | true =>
    exfalso;unfold cntE at h
    by_cases c1:∀ z∈vs.map fun v:Nat=>(v:Int),0<=z/\z<(n:Int)
    ·rw[WR c1] at h
     by_cases c2:∀ v:Nat,v<n->AD n F v=true->(v:Int)∈vs.map fun v:Nat=>(v:Int)
     . obtain⟨u,hu,e⟩:=WW.1 (c2 v hv hh);exact g0 (by rw[<- Zw e];exact hu)
     . rw[WO c2] at h;cases h
    . rw[WO c1] at h;cases h
 intro ρ ρ' hr;have key:∀ k,k<=n->F (fun v=>if v<k/\v∉vs then ρ' v else ρ v)=F ρ:=fun k=>by
  induction k with
  | zero=>intro _;simp
  | succ k ih =>
    intro hk;rw[<- ih (by omega)]
    by_cases hm:k∈vs
    ·congr 1;funext v
     by_cases e:v=k
     . subst e;simp[hm]
     ·by_cases c:v<k/\v∉vs
      . rw[WR c,WR ⟨by omega,c.2⟩]
      . rw[WO c,WO (fun c2=>c ⟨by omega,c2.2⟩)]
    ·rw[<- h2 k (by omega) hm (fun v=>if v<k/\v∉vs then ρ' v else ρ v) (ρ' k)];congr 1;funext v
     by_cases e:v=k
     . subst e;simp[hm,upd]
     ·show _=upd (fun v=>if v<k/\v∉vs then ρ' v else ρ v) k (ρ' k) v
      unfold upd;rw[WO e]
      by_cases c:v<k/\v∉vs
      . rw[WR ⟨by omega,c.2⟩];simp[c]
      . rw[WO (fun c2=>c ⟨by omega,c2.2⟩)];simp[c]
 rw[<- key n (WM _)];refine hd _ _ fun i hi=>?_
 show (if i<n/\i∉vs then ρ' i else ρ i)=ρ' i
 by_cases c:i∈vs
 . rw[WO (fun e=>e.2 c)];exact hr i c
 . rw[WR ⟨hi,c⟩]
def asg:List Nat->List Bool->Nat->Bool
 | v::r,b::l=>upd (asg r l) v b
 | _,_=>fun _=>false
theorem Fz:∀ (vs:List Nat) (F:BF) (l:List Bool),l∈allL vs F↔l.length=vs.length/\F (asg vs l)=true
 | [],F,l=>by
   have ea:allL [] F=if F (fun _=>false) then [[]] else []:=rfl
   have e0:asg [] l=fun _=>false:=by unfold asg;rfl
   rw[ea,e0,XS,Zf];cases hb:F fun _=>false with
   | true=>simp
   | false=>simp
 | v::r,F,l=>by
   have ea:allL (v::r) F=(allL r (cofF F v false)).map (false :: ·)++(allL r (cofF F v true)).map (true :: ·):=rfl;rw[ea,Xa,WW,WW];constructor
   ·rintro(⟨k,hk,rfl⟩|⟨k,hk,rfl⟩)
    . obtain⟨h1,h2⟩:=(Fz r _ k).1 hk;exact⟨by simp[h1],by rw[Bq] at h2;exact h2⟩
    . obtain⟨h1,h2⟩:=(Fz r _ k).1 hk;exact⟨by simp[h1],by rw[Bq] at h2;exact h2⟩
   ·rintro⟨h1,h2⟩;cases l with
    | nil=>simp at h1
    | cons b k =>
      have hk:k∈allL r (cofF F v b):=(Fz r _ k).2 ⟨by simpa using h1,by rw[Bq];exact h2⟩;cases b with
      | false=>exact .inl ⟨k,hk,rfl⟩
      | true=>exact .inr ⟨k,hk,rfl⟩
def Ek (Sp:List Nat->Int->BF->BF->BF->BF->Prop):Law:=fun d V op a b c r =>
 if op=1 then IteP d V a b c r else okE (Aa d) a/\okE (Aa d) b/\okE (Aa d) c/\okE (Aa d) r/\Sp d.vars op (ef V a) (ef V b) (ef V c) (ef V r)
theorem Vn (Sp:List Nat->Int->BF->BF->BF->BF->Prop):A5 (Ek Sp):=by
 refine⟨fun d V a b c r=>?_,fun d V d' V' op a b c r k1 k2 x h=>?_,fun d d' V op a b c r h1 h2 h3 h=>?_⟩
 . unfold Ek;rw[WR rfl]
 ·unfold Ek at h ⊢
  by_cases e:op=1
  . rw[WR e] at h ⊢;exact(E1.ite ..).1 (E1.ext d V d' V' 1 a b c r k1 k2 x ((E1.ite ..).2 h))
  . rw[WO e] at h ⊢;obtain⟨q1,q2,q3,q4,q5⟩:=h;refine⟨x.ok q1,x.ok q2,x.ok q3,x.ok q4,?_⟩;rw[x.vars,x.ef q1,x.ef q2,x.ef q3,x.ef q4];exact q5
 ·unfold Ek at h ⊢
  by_cases e:op=1
  . rw[WR e] at h ⊢;exact(E1.ite ..).1 (E1.same d d' V 1 a b c r h1 h2 h3 ((E1.ite ..).2 h))
  . rw[WO e] at h ⊢;rw[h1,h3];exact h
theorem Vo {Sp:List Nat->Int->BF->BF->BF->BF->Prop}{a r:Nat}(h:op≠1):Ek Sp d V op a b c r↔okE (Aa d) a/\okE (Aa d) b/\okE (Aa d) c/\okE (Aa d) r/\Sp d.vars op (ef V a) (ef V b) (ef V c) (ef V r):=by
 unfold Ek;rw[WO h]
section
variable {o:Own}
theorem Vp (h:A9 (K m.d V) o w mb m)(hlt:Ab o w)(hx:AH o w xb mb)(hk:Ai m.d V){lf:Array Value}(eg:∀ args w,(callFunc gf args).run prog w=.ok (.enter gf args) w)(op:Int)(a b c:Nat)
 (hA:∀ r,K m.d V op a b c r->okE (Aa m.d) r/\A m.d V r) (hput:∀ d' V' r,Ai d' V'->Ext m.d V d' V'->okE (Aa d') r->A d' V' r->K d' V' op a b c r)
 (hf:∀ w1,Chg (fun _=>True) o o w w1->A9 (K m.d V) o w1 mb m->Ab o w1->Calls prog gf lf w1 (AF K k o w1 mb m V A)) :
 Calls prog 176 #[Pt xb,.int .i64 op,.int .i64 a,.int .i64 b,.int .i64 c,.func (.func gf) #[] lf] w (AF K k o w mb m V A):=by
 obtain⟨s,g5⟩:=h;obtain⟨c0,c1,c2,c3,c4,c5,f0⟩:=cells6 g5.blk;have cx:=hx.cell;have HX:=Hd hx;have gi:=Hd (Kv o s.me (K m.d V) op a b c w g5.memo hlt);have gl:=Hd g5;have gk:=Hd hlt;have HK:=Hd hk;have HA:=Hd hA;have HP:=Hd hput;have HF:=Hd hf;clear g5 hlt hx hk hA hput hf
 delta Pt;go_enter func176,ntmps176
 go_wp2_with fail;refine gi.o.mono ?_;rintro x w1 ⟨gj,g2,g3,g8⟩;have g7:A9 (K m.d V) o w1 mb m:=⟨s,gl.o.setMemo gk.o g2 (g3.mono fun r e=>.inl e)⟩;have g4:Hq (AtC K 0 o w mb m V o w1 m V):=Hd ⟨⟨g7,g8,g3.any,HK.o,Ext.refl _ _,rfl,rfl⟩,rfl,WM _⟩;rcases gj with rfl|⟨r,rfl,gg⟩
 ·have gd:=Hd (HF.o w1 g3.any g7 g8);clear g7 g2 g3 g8 c0 c1 c2 c3 c4 c5 f0 cx;go_wp2_with fail;refine gd.o.mono ?_;rintro e w2 (⟨r,o2,m2,V2,rfl,at2,ga,gc⟩|⟨er,evt,ev,rfl,hs⟩)
  . have g1:=g4.o.trans at2;obtain⟨s2,g6⟩:=g1.st.is;obtain⟨c0,c1,c2,c3,c4,c5,f0⟩:=cells6 g6.blk;have cx:=(HX.o.chg g1.st.chg).cell;have gh:=Hd (K4 o2 s2.me (K m2.d V2) op a b c r w2 g6.memo g1.st.lt (HP.o _ _ r g1.st.ok g1.st.ext ga gc));have gm:=Hd g6;have g0:=Hd g1;have g9:=Hd ga;have gn:=Hd gc;clear g1 g6 at2 ga gc gd;go_wp2_with fail;refine gh.o.mono ?_;rintro x w3 ⟨rfl,o3,g2,gb,ge⟩;have HR:Hq (AtC K k o w mb m V o3 w3 m2 V2):=Hd ⟨⟨⟨s2,gm.o.setMemo g0.o.st.lt g2 gb⟩,ge,g0.o.st.chg.trans gb.any,g0.o.st.ok,g0.o.st.ext,g0.o.st.hs,g0.o.st.next⟩,g0.o.waits,by have:=g0.o.many;omega⟩;clear g2 gb ge c0 c1 c2 c3 c4 c5 f0 cx;go_wp2_with fail;go_ret;exact .inl ⟨r,o3,m2,V2,rfl,HR.o,g9.o,gn.o⟩
  . have HS:=Hd (hs.after g4.o (k:=k) (by omega));clear hs gd;unfold Au;go_wp2_with fail;exact⟨rfl,.inr ⟨er,evt,ev,rfl,HS.o⟩⟩
 . have hr:=HA.o r gg;have HR:Hq (AtC K k o w mb m V o w1 m V):=Hd (g4.o.mono (WX _));have g9:=Hd hr;clear gg hr g2 g3 g8 g7 c0 c1 c2 c3 c4 c5 f0 cx;go_wp2_with fail;go_ret;exact .inl ⟨r,o,m,V,rfl,HR.o,g9.o.1,g9.o.2⟩
end
structure F3 (Rel:List Nat->BF->BF->BF->Prop)(Yes:BF->BF->Prop):Prop where
 tru:∀ ord F C,(∀ ρ,C ρ=true)->Rel ord F C F
 const:∀ ord F C,(∀ ρ ρ',F ρ=F ρ')->Rel ord F C F
 one:∀ (b:Bool) (v:Nat) (pre post:List Nat) F C R,(∀ u∈pre,Ind F u/\Ind C u)->SatF C->¬ SatF (cofF C v (!b))->Rel (pre++v::post) (cofF F v b) (cofF C v b) R->Rel (pre++v::post) F C R
 both:∀ (v:Nat) (pre post:List Nat) F C R0 R1,(∀ u∈pre,Ind F u/\Ind C u)->SatF (cofF C v false)->SatF (cofF C v true)->¬ Yes (cofF F v false) (cofF F v true)->Rel (pre++v::post) (cofF F v false) (cofF C v false) R0->Rel (pre++v::post) (cofF F v true) (cofF C v true) R1->Rel (pre++v::post) F C (iteF v R1 R0)
 next:∀ ord (v:Nat) F C N R,Yes (cofF F v false) (cofF F v true)->(∀ ρ,N ρ=(cofF C v false ρ||cofF C v true ρ))->Rel ord (cofF F v false) N R->Rel ord F C R
 ind:∀ ord F C R u,Ind F u->Ind C u->Rel ord F C R->Ind R u
def RelC (ord:List Nat)(F C R:BF):Prop:=R=constrF ord F C
theorem JL {post:List Nat}{v:Nat}{C:BF}(h:∀ u∈pre,Ind F u/\Ind C u)(b:Bool):constrF (pre++v::post) (cofF F v b) (cofF C v b)=constrF post (cofF F v b) (cofF C v b):=by
 rw[G3 pre fun u hu=>⟨(h u hu).1.cof v b,(h u hu).2.cof v b⟩,MP (G0 F v b) (G0 C v b)]
theorem Vq:F3 RelC fun _ _=>False:=by
 refine⟨fun ord F C h=>(TY h).symm,fun ord F C h=>(TX h).symm,fun b v pre post F C R hp hs hn h=>?_,fun v pre post F C R0 R1 hp h0 h1 _ e0 e1=>?_,fun _ _ _ _ _ _ h=>h.elim,fun ord F C R u hF hC h=>by rw[show R=_ from h];exact G2 ord hF hC⟩
 ·rw[show R=_ from h,JL hp]
  show _=constrF (pre++v::post) F C
  rw[G3 pre hp,MQ b hs hn]
 ·rw[show R0=_ from e0,show R1=_ from e1,JL hp,JL hp]
  show _=constrF (pre++v::post) F C
  rw[G3 pre hp,TW h0 h1]
def RelR (_:List Nat)(F C R:BF):Prop:=TZ F C R
structure ConC where
 bx:Nat
 bo:Nat
 bd:Nat
 ba:Nat
 xb:Nat
 op:Int
 g:Nat
 lw:Array Value
def ConC.caps (c:ConC):Array Value:=#[.pointer (some ⟨c.bx,0,none⟩),.pointer (some ⟨c.bo,0,none⟩),.pointer (some ⟨c.bd,0,none⟩),.pointer (some ⟨c.ba,0,none⟩)]
structure ConS (K:Law)(n:Nat)(Bwd:Wd->Prop)(T:Nat->Prop)(c:ConC)(mb:Nat)(o:Own)(W:Wd)(m:ManD)(V:Nat->BF):Prop where
 is:A9 (K m.d V) o W mb m
 lt:Ab o W
 ok:Ai m.d V
 vars:m.d.vars.length=n
 ctx:AH o W c.xb mb
 bw:Bwd W
 x:W.cell? ⟨c.bx,0,none⟩=some (.pointer (some ⟨c.xb,0,none⟩))
 p:W.cell? ⟨c.bo,0,none⟩=some (.int .i64 c.op)
 d:W.cell? ⟨c.bd,0,none⟩=some (.func (.func 175) #[] c.caps)
 a:W.cell? ⟨c.ba,0,none⟩=some (.func (.func c.g) #[] c.lw)
 no:∀ q,(q=c.bx\/q=c.bo\/q=c.bd\/q=c.ba\/T q)->o q=none
 t:∀ q,T q->q<W.heap.size
section
variable {T:Nat->Prop}{c:ConC}{o:Own}
theorem ConS.step (h:ConS K n Bwd T c mb o W m V)(hB:∀ W W',Bwd W->(∀ q,T q->W'.heap[q]?=W.heap[q]?)->Bwd W')(s:AtC K k o W mb m V o' W' m' V'):ConS K n Bwd T c mb o' W' m' V':=by
 have g0:∀ q,(q=c.bx\/q=c.bo\/q=c.bd\/q=c.ba\/T q)->q<W.heap.size:=by
  rintro q (rfl|rfl|rfl|rfl|hq)
  . exact Ag h.x
  . exact Ag h.p
  . exact Ag h.d
  . exact Ag h.a
  . exact h.t q hq
 exact⟨s.st.is,s.st.lt,s.st.ok,s.vars h.vars,h.ctx.chg s.st.chg,hB _ _ h.bw (fun q hq=>s.st.chg.alien (h.t q hq) (h.no q (.inr (.inr (.inr (.inr hq)))))),s.st.chg.cell h.x (h.no _ (.inl rfl)),s.st.chg.cell h.p (h.no _ (.inr (.inl rfl))),s.st.chg.cell h.d (h.no _ (.inr (.inr (.inl rfl)))),s.st.chg.cell h.a (h.no _ (.inr (.inr (.inr (.inl rfl))))),
  fun q hq=>s.st.chg.none' (g0 q hq) (h.no q hq),fun q hq=>Xh (h.t q hq) s.st.chg.size⟩
theorem ConS.below (h:ConS K n Bwd T c mb o W m V)(hB:∀ W W',Bwd W->(∀ q,T q->W'.heap[q]?=W.heap[q]?)->Bwd W')(hb:Bw W W'):ConS K n Bwd T c mb o W' m V :=
 h.step (k:=0) hB ((AtC.refl h.is h.lt h.ok).below hb)
end
def AtOK (K:Law)(n:Nat)(Yes:BF->BF->Prop)(xb mb:Nat)(Bwd:Wd->Prop)(T:Nat->Prop)(g:Nat)(lw:Array Value):Prop :=
 ∀ (o:Own) (W:Wd) (m:ManD) (V:Nat->BF) (v f0 f1 c0 c1:Nat),A9 (K m.d V) o W mb m->Ab o W->AH o W xb mb->Ai m.d V->m.d.vars.length=n->Bwd W->(∀ q,T q->q<W.heap.size/\o q=none)->okE (Aa m.d) f0->okE (Aa m.d) f1->okE (Aa m.d) c0->okE (Aa m.d) c1 ->
  Calls prog g (#[.int .i64 v,.int .i64 f0,.int .i64 f1,.int .i64 c0,.int .i64 c1]++lw) W fun e w' =>
   (∃ (r:Nat) (ok:Bool) (o':Own) (m':ManD) (V':Nat->BF),e=.returned (.tuple #[.int .i64 r,.bool ok])/\AtC K (2^n-1) o W mb m V o' w' m' V'/\(ok=true->Yes (ef V f0) (ef V f1)/\okE (Aa m'.d) r/\∀ ρ,ef V' r ρ=(ef V c0 ρ||ef V c1 ρ))/\(ok=false->¬ Yes (ef V f0) (ef V f1))) \/
   (∃ er evt ev,e=Au er evt ev/\DA K (2^n-1) o W mb m V er evt ev w')
def GG (K:Law)(op:Int)(Rel:List Nat->BF->BF->BF->Prop):Prop :=
 ∀ d V a b r,K d V op a b 0 r↔okE (Aa d) a/\okE (Aa d) b/\okE (Aa d) r/\(SatF (ef V b)->Rel d.vars (ef V a) (ef V b) (ef V r))
def GH (K:Law)(n:Nat)(Rel:List Nat->BF->BF->BF->Prop)(Bwd:Wd->Prop)(T:Nat->Prop)(c:ConC)(mb:Nat)(J:Nat):Prop :=
 ∀ (o:Own) (W:Wd) (m:ManD) (V:Nat->BF) (f e:Nat),ConS K n Bwd T c mb o W m V->okE (Aa m.d) f->okE (Aa m.d) e->SatF (ef V e)->n<=lvE n (levN m.d) (Aa m.d) f+J->n<=lvE n (levN m.d) (Aa m.d) e+J ->
  Calls prog 175 (#[.int .i64 f,.int .i64 e]++c.caps) W (AF K ((2^J-1)*2^n) o W mb m V fun d V' r=>Rel d.vars (ef V f) (ef V e) (ef V' r))
theorem Vr (J n:Nat):(2^J-1)*2^n+(2^J-1)*2^n+(1+(2^n-1))=(2^(J+1)-1)*2^n:=by
 have h1:0<2^J:=XW (by omega);have h2:0<2^n:=XW (by omega);have h3:2^(J+1)-1=(2^J-1)+(2^J-1)+1:=by rw[X4];omega
 rw[h3,XV,XV,Nat.one_mul];omega
theorem NY (args:Array Value)(w:Wd):(callFunc 175 args).run prog w=.ok (.enter 175 args) w:=XY func175 (by kernel_rfl) rfl args w
theorem Vs (args:Array Value)(w:Wd):(callFunc 177 args).run prog w=.ok (.enter 177 args) w:=XY func177 (by kernel_rfl) rfl args w
theorem Vt (h:Ai d V){v:Nat}(hv:v<d.vars.length):∃ pre post,d.vars=pre++v::post/\∀ u∈pre,u<d.vars.length/\levN d u<levN d v:=by
 have hl:=h.dag.lt v hv;refine⟨d.vars.take (levN d v),d.vars.drop (levN d v+1),?_,fun u hu=>?_⟩
 ·have e:=h.inv v hv;have e2:d.vars[levN d v]'hl=v:=by simpa [List.getD,hl] using e
  conv=>lhs;rw[<- Yj (levN d v) d.vars,X2 hl,e2]
 ·obtain⟨i,hi,e⟩:=Ys.1 hu;have g0:i<levN d v:=by simp at hi;omega
  rw[List.getElem_take] at e;obtain⟨h1,h2⟩:=h.vlt i (by omega);have e3:d.vars.getD i 0=u:=by simp[List.getD,show i<d.vars.length by omega,e]
  rw[e3] at h1 h2;exact⟨h1,by omega⟩
theorem AF.good {o:Own}{A':Ae->(Nat->BF)->Nat->Prop}{x:Ending}(hc:AF K k o w mb m V A x w')(hA:∀ d V' r,d.vars=m.d.vars->A d V' r->A' d V' r):AF K k o w mb m V A' x w':=by
 rcases hc with ⟨r,o2,m2,V2,rfl,q1,q2,q3⟩|⟨er,evt,ev,rfl,q⟩
 . exact .inl ⟨r,o2,m2,V2,rfl,q1,q2,hA _ _ _ q1.st.ext.vars q3⟩
 . exact .inr ⟨er,evt,ev,rfl,q⟩
section
variable {Rel:List Nat->BF->BF->BF->Prop}{Yes:BF->BF->Prop}{T:Nat->Prop}{c:ConC}{o:Own}{J:Nat}
theorem Vu (hK:A5 K)(hR:F3 Rel Yes)(hB:∀ W W',Bwd W->(∀ q,T q->W'.heap[q]?=W.heap[q]?)->Bwd W')(hat:AtOK K n Yes c.xb mb Bwd T c.g c.lw)(eg:∀ args w,(callFunc c.g args).run prog w=.ok (.enter c.g args) w)(IH:GH K n Rel Bwd T c mb J)
 (hs:ConS K n Bwd T c mb o W m V) {f e bf be:Nat} (hf:okE (Aa m.d) f) (he:okE (Aa m.d) e) (hsat:SatF (ef V e)) (hnc:f/2≠0) (hlf:n<=lvE n (levN m.d) (Aa m.d) f+(J+1)) (hle:n<=lvE n (levN m.d) (Aa m.d) e+(J+1)) (cf:W.cell? ⟨bf,0,none⟩=some (.int .i64 f)) (ce:W.cell? ⟨be,0,none⟩=some (.int .i64 e)) (hof:o bf=none) (hoe:o be=none) :
 Calls prog 177 #[Pt c.bx,Pt bf,Pt be,Pt c.bd,Pt c.ba] W (AF K ((2^(J+1)-1)*2^n) o W mb m V fun d V' r=>Rel d.vars (ef V f) (ef V e) (ef V' r)):=by
 obtain⟨bx,bo,bd,ba,xb,op,g,lw⟩:=c;obtain⟨N1,hn⟩:=Ex ((2^J-1)*2^n);have gz:=Vr J n;obtain⟨N2,hm⟩:=Ex ((2^(J+1)-1)*2^n);obtain⟨N3,hj⟩:=Ex (2^n-1);rw[<- hn,<- hm,<- hj] at gz;rw[<- hm];have hk:=hs.ok;have gy:=hs.vars;obtain⟨w1,gP⟩:=Ex (W.alloc (.cells #[.int .i64 (f:Nat),.int .i64 (e:Nat)] 113));have HW1:Hq (_=w1):=Hd gP.symm;have gF:Bw W w1:=by rw[gP];exact Af _ _
 have gH:w1.heap[W.heap.size]?=some (.cells #[.int .i64 (f:Nat),.int .i64 (e:Nat)] 113 (0,0)):=by rw[gP];exact WN _ _
 have hs1:=hs.below hB gF
 have ho:Hq (Calls prog 101 #[Pt xb,.slice (some ⟨W.heap.size,0,none⟩) 2 2] w1 fun x w'=>∃ v:Nat,x=.returned (.int .i64 v)/\(v<n/\levN m.d v<=lvE n (levN m.d) (Aa m.d) f/\levN m.d v<=lvE n (levN m.d) (Aa m.d) e/\n<=levN m.d v+(J+1))/\Bw w1 w'):=Hd ((FZ hs1.is hs1.lt hs1.ctx hs1.ok [f,e] (by intro z hz;simp at hz;rcases hz with rfl|rfl<;>assumption) (some ⟨W.heap.size,0,none⟩) 2 ⟨by simp,fun q hq=>⟨W.heap.size,0,rfl,by
  rcases(show q=0\/q=1 by simp at hq;omega) with rfl|rfl
  . rw[WQ _ _ 0 _ _ _ gH];rfl
  . rw[WQ _ _ 1 _ _ _ gH];rfl⟩⟩).mono (by
  rintro x w' ⟨top,least,rfl,ht,gS⟩;rcases ht with ⟨_,_,h3⟩|⟨v,rfl,_,hv,⟨z,hz,b,hb,hZ⟩,gJ⟩
  ·exfalso;have h4:=h3 f (by simp);rcases hf with h5|⟨b,h5⟩
   . exact hnc h5
   . rw[h4] at h5;cases h5
  ·rw[gy] at hv gJ;refine⟨v,rfl,⟨hv,gJ f (by simp),gJ e (by simp),?_⟩,gS⟩;have hF:lvE n (levN m.d) (Aa m.d) z=levN m.d v:=by unfold lvE;rw[hb,<- hZ]
   simp only[XI,YW,or_false] at hz;rcases hz with rfl|rfl
   . rw[hF] at hlf;exact hlf
   . rw[hF] at hle;exact hle))
 obtain⟨P,hP⟩:=Ex (AF K N2 o W mb m V fun d V' r=>Rel d.vars (ef V f) (ef V e) (ef V' r):Ending->Wd->Prop)
 have gx:=Hd hP;have gs:=Hd hB;have gq:=Hd hs;have gN:Hq (AtC K 0 o W mb m V o w1 m V):=Hd ((AtC.refl hs.is hs.lt hk).below gF)
 have gk:Hq (∀ (k:Nat) (o1:Own) (w':Wd) (m1:ManD) (V1:Nat->BF) (v f' e':Nat),n<=levN m.d v+(J+1)->AtC K k o W mb m V o1 w' m1 V1->okE (Aa m1.d) f'->okE (Aa m1.d) e'->SatF (ef V1 e')->levN m.d v<lvE n (levN m1.d) (Aa m1.d) f'->levN m.d v<lvE n (levN m1.d) (Aa m1.d) e' ->
  Calls prog 175 #[.int .i64 f',.int .i64 e',Pt bx,Pt bo,Pt bd,Pt ba] w' (AF K N1 o1 w' mb m1 V1 fun d V' r=>Rel d.vars (ef V1 f') (ef V1 e') (ef V' r))):=Hd fun k o1 w' m1 V1 v f' e' h0 h1 h2 h3 h4 h5 h6=>by
  rw[hn];exact IH o1 w' m1 V1 f' e' (hs.step hB h1) h2 h3 h4 (by omega) (by omega)
 have HKK:=Hd hK;have gj:=Hd hR;have gV:=Hd hat;have go:=Hd (show okE (Aa m.d) f/\okE (Aa m.d) e from ⟨hf,he⟩);have gg:=Hd hsat;have g5:=Hd hk;have g4:=Hd gy;have g6:=Hd gz;have hN:=Hd hj;have gU:Hq (∀ {k:Nat} {o':Own} {w':Wd} {m':ManD} {V':Nat->BF},AtC K k o W mb m V o' w' m' V'->w'.cell? ⟨bf,0,none⟩=some (.int .i64 f)/\w'.cell? ⟨be,0,none⟩=some (.int .i64 e)):=Hd fun h=>⟨h.st.chg.cell cf hof,h.st.chg.cell ce hoe⟩
 obtain⟨cf1,ce1⟩:=gU.o gN.o;have cx:=hs.x;have cx1:=hs1.x;have eg1:=NY;rw[<- hP];clear hP hs hs1 hk hK hR hB hat IH hsat hlf hle gz hn hm hj gP gF hof hoe hf he gH gy hnc
 delta Pt;go_enter func177,ntmps177
 go_wp2_with fail;rw[HW1.o];refine ho.o.mono ?_;rintro y w2 ⟨v,rfl,gi,gS⟩;have HV:=Hd gi;have gB:=Hd (gN.o.below gS);have gw:=Hd (gq.o.step gs.o gB.o);have cx2:=gw.o.x;obtain⟨cf2,ce2⟩:=gU.o gB.o;obtain⟨f0,hg⟩:∃ z,z=(cofs m.d f v).1:=⟨_,rfl⟩;obtain⟨f1,hc⟩:∃ z,z=(cofs m.d f v).2:=⟨_,rfl⟩;obtain⟨c0,hi⟩:∃ z,z=(cofs m.d e v).1:=⟨_,rfl⟩;obtain⟨c1,hh⟩:∃ z,z=(cofs m.d e v).2:=⟨_,rfl⟩
 have hL:Hq (Calls prog 102 #[Pt xb,.int .i64 f,.int .i64 v] w2 (Bl (.tuple #[.int .i64 f0,.int .i64 f1]) w2)):=Hd ((Fb gw.o.is gw.o.lt gw.o.ctx gw.o.ok f go.o.1 v).mono (by
  rintro x w' ⟨rfl,h⟩;exact⟨by rw[hg,hc],h⟩))
 have g3:Hq ((okE (Aa m.d) f0/\levN m.d v<lvE n (levN m.d) (Aa m.d) f0/\ef V f0=cofF (ef V f) v false)/\okE (Aa m.d) f1/\levN m.d v<lvE n (levN m.d) (Aa m.d) f1/\ef V f1=cofF (ef V f) v true):=Hd (by
  have hv:=gi.1;rw[<- g4.o] at hv;have q:=Bk (V:=V) g5.o go.o.1 hv (by rw[g4.o];exact gi.2.1);have q2:=Ft (V:=V) g5.o go.o.1 hv (by rw[g4.o];exact gi.2.1);rw[g4.o] at q;rw[hg,hc];exact⟨⟨q.1,q.2.2.1,q2.1⟩,q.2.1,q.2.2.2.1,q2.2⟩)
 have g2:Hq ((okE (Aa m.d) c0/\levN m.d v<lvE n (levN m.d) (Aa m.d) c0/\ef V c0=cofF (ef V e) v false)/\okE (Aa m.d) c1/\levN m.d v<lvE n (levN m.d) (Aa m.d) c1/\ef V c1=cofF (ef V e) v true):=Hd (by
  have hv:=gi.1;rw[<- g4.o] at hv;have q:=Bk (V:=V) g5.o go.o.2 hv (by rw[g4.o];exact gi.2.2.1);have q2:=Ft (V:=V) g5.o go.o.2 hv (by rw[g4.o];exact gi.2.2.1);rw[g4.o] at q;rw[hi,hh];exact⟨⟨q.1,q.2.2.1,q2.1⟩,q.2.1,q.2.2.2.1,q2.2⟩)
 have HZ:Hq (∀ z,okE (Aa m.d) z->(z=1↔¬ SatF (ef V z))):=Hd fun z hz=>by
  have h1:ef V 1=fun _=>false:=g5.o.dag.ef1
  constructor
  . rintro rfl ⟨ρ,hρ⟩;rw[h1] at hρ;cases hρ
  ·intro h;refine g5.o.dag.canon hz (.inl rfl) ?_;rw[h1];funext ρ;cases hr:ef V z ρ with
   | false=>rfl
   | true=>exact absurd ⟨ρ,hr⟩ h
 obtain⟨pre,post,h7,gZ⟩:=Vt g5.o (by rw[g4.o];exact gi.1);have g9:=Hd h7;have gh:Hq (∀ u∈pre,Ind (ef V f) u/\Ind (ef V e) u):=Hd fun u hu=>by
  obtain⟨h1,h2⟩:=gZ u hu;exact⟨EC g5.o go.o.1 (by rw[g4.o];omega),EC g5.o go.o.2 (by rw[g4.o];omega)⟩
 have hT:Hq (c0=(cofs m.d e v).1/\c1=(cofs m.d e v).2):=Hd ⟨hi,hh⟩;have gc:Hq (∀ x w',P x w'↔AF K N2 o W mb m V (fun d V' r=>Rel d.vars (ef V f) (ef V e) (ef V' r)) x w'):=Hd fun x w'=>by rw[gx.o]
 clear gS hg hc hi hh h7 gZ ho HW1 cf1 ce1 cx1 cx gN gi cf ce;go_wp2_with fail;refine hL.o.mono ?_;rintro y w3 ⟨rfl,hI⟩;have gA:=Hd (gB.o.below hI);have gv:=Hd (gq.o.step gs.o gA.o);have cx3:=gv.o.x;obtain⟨cf3,ce3⟩:=gU.o gA.o
 have hM:Hq (Calls prog 102 #[Pt xb,.int .i64 e,.int .i64 v] w3 (Bl (.tuple #[.int .i64 c0,.int .i64 c1]) w3)):=Hd ((Fb gv.o.is gv.o.lt gv.o.ctx gv.o.ok e go.o.2 v).mono (by
  rintro x w' ⟨rfl,h⟩;exact⟨by rw[hT.o.1,hT.o.2],h⟩))
 clear hI hL gB gw cf2 ce2 cx2;go_wp2_with fail;refine hM.o.mono ?_;rintro y w4 ⟨rfl,hH⟩;have g7:=Hd (gA.o.below hH);have g8:=Hd (gq.o.step gs.o g7.o);have cd4:=g8.o.d;have ca4:=g8.o.a;unfold ConC.caps at cd4;clear hH hM gA gv cf3 ce3 cx3 gU
 by_cases gu:c0=1
 ·have k0:(((c0:Nat):Int) == 1)=true:=by subst gu;rfl
  have ge:Hq (SatF (ef V c1)):=Hd (by
   rw[g2.o.2.2.2];rcases Jt gg.o v false with h|h
   . rw[<- g2.o.1.2.2] at h;exact absurd h ((HZ.o c0 g2.o.1.1).1 gu)
   . exact h)
  have gb:Hq (Calls prog 175 #[.int .i64 f1,.int .i64 c1,Pt bx,Pt bo,Pt bd,Pt ba] w4 fun x w'=>(∃ r:Nat,x=.returned (.int .i64 r)/\P x w')\/∃ er evt ev,x=Au er evt ev/\P x w'):=Hd ((gk.o 0 o w4 m V v f1 c1 HV.o.2.2.2 g7.o g3.o.2.1 g2.o.2.1 ge.o g3.o.2.2.1 g2.o.2.2.1).mono fun x w' hx=>by
   have gm:P x w':=(gc.o x w').2 (by
    refine((AF.base g7.o (show 0+N1<=N2 by have:=g6.o;omega) hx).good ?_);intro d V' r x4 h;rw[x4,g9.o] at h ⊢;rw[g3.o.2.2.2,g2.o.2.2.2] at h
    exact gj.o.one true v pre post _ _ _ gh.o gg.o (by
     show ¬ SatF (cofF (ef V e) v false)
     rw[<- g2.o.1.2.2];exact(HZ.o c0 g2.o.1.1).1 gu) h)
   rcases hx.kind with ⟨r,rfl⟩|⟨er,evt,ev,rfl⟩
   . exact .inl ⟨r,rfl,gm⟩
   . exact .inr ⟨er,evt,ev,rfl,gm⟩)
  clear gk g3 g2 gV HKK HZ gc gx gj g9 gh gg g7 g8 ge;go_wp2_with fail;refine gb.o.mono ?_;rintro x w5 (⟨r,rfl,hp⟩|⟨er,evt,ev,rfl,hp⟩)
  . have HF:=Hd hp;clear hp gb;go_wp2_with fail;exact HF.o
  . have HF:=Hd hp;clear hp gb;unfold Au;go_wp2_with fail;exact⟨rfl,HF.o⟩
 have k0:(((c0:Nat):Int) == 1)=false:=by rw[Yu];omega
 have gf:Hq (SatF (ef V c0)):=Hd (X9 fun h=>gu ((HZ.o c0 g2.o.1.1).2 h))
 by_cases gO:c1=1
 ·have gF:(((c1:Nat):Int) == 1)=true:=by subst gO;rfl
  have gb:Hq (Calls prog 175 #[.int .i64 f0,.int .i64 c0,Pt bx,Pt bo,Pt bd,Pt ba] w4 fun x w'=>(∃ r:Nat,x=.returned (.int .i64 r)/\P x w')\/∃ er evt ev,x=Au er evt ev/\P x w'):=Hd ((gk.o 0 o w4 m V v f0 c0 HV.o.2.2.2 g7.o g3.o.1.1 g2.o.1.1 gf.o g3.o.1.2.1 g2.o.1.2.1).mono fun x w' hx=>by
   have gm:P x w':=(gc.o x w').2 (by
    refine((AF.base g7.o (show 0+N1<=N2 by have:=g6.o;omega) hx).good ?_);intro d V' r x4 h;rw[x4,g9.o] at h ⊢;rw[g3.o.1.2.2,g2.o.1.2.2] at h
    exact gj.o.one false v pre post _ _ _ gh.o gg.o (by
     show ¬ SatF (cofF (ef V e) v true)
     rw[<- g2.o.2.2.2];exact(HZ.o c1 g2.o.2.1).1 gO) h)
   rcases hx.kind with ⟨r,rfl⟩|⟨er,evt,ev,rfl⟩
   . exact .inl ⟨r,rfl,gm⟩
   . exact .inr ⟨er,evt,ev,rfl,gm⟩)
  clear gk g3 g2 gV HKK HZ gc gx gj g9 gh gg g7 g8 gf gu;go_wp2_with fail;refine gb.o.mono ?_;rintro x w5 (⟨r,rfl,hp⟩|⟨er,evt,ev,rfl,hp⟩)
  . have HF:=Hd hp;clear hp gb;go_wp2_with fail;exact HF.o
  . have HF:=Hd hp;clear hp gb;unfold Au;go_wp2_with fail;exact⟨rfl,HF.o⟩
 have gF:(((c1:Nat):Int) == 1)=false:=by rw[Yu];omega
 have ge:Hq (SatF (ef V c1)):=Hd (X9 fun h=>gO ((HZ.o c1 g2.o.2.1).2 h))
 have gX:Hq (Calls prog g (#[.int .i64 v,.int .i64 f0,.int .i64 f1,.int .i64 c0,.int .i64 c1]++lw) w4 fun x w' =>
  (∃ (r:Nat) (ok:Bool) (o':Own) (m':ManD) (V':Nat->BF),x=.returned (.tuple #[.int .i64 r,.bool ok])/\AtC K N3 o W mb m V o' w' m' V'/\(ok=true->Yes (ef V f0) (ef V f1)/\okE (Aa m'.d) r/\∀ ρ,ef V' r ρ=(ef V c0 ρ||ef V c1 ρ))/\(ok=false->¬ Yes (ef V f0) (ef V f1))) \/
  (∃ er evt ev,x=Au er evt ev/\P x w')):=Hd ((gV.o o w4 m V v f0 f1 c0 c1 g8.o.is g8.o.lt g8.o.ctx g8.o.ok g8.o.vars g8.o.bw (fun q hq=>⟨g8.o.t q hq,g8.o.no q (.inr (.inr (.inr (.inr hq))))⟩) g3.o.1.1 g3.o.2.1 g2.o.1.1 g2.o.2.1).mono (by
  rintro x w' (⟨r,ok,o',m',V',rfl,q1,q2,q3⟩|⟨er,evt,ev,rfl,gC⟩)
  . rw[<- hN.o] at q1;have q4:=g7.o.trans q1;rw[Xw] at q4;exact .inl ⟨r,ok,o',m',V',rfl,q4,q2,q3⟩
  . refine .inr ⟨er,evt,ev,rfl,(gc.o _ w').2 (.inr ⟨er,evt,ev,rfl,gC.after g7.o (by have:=g6.o;have:=hN.o;omega)⟩)⟩))
 clear gu gO gV g8 g7;go_wp2_with fail;refine gX.o.mono ?_;rintro x w5 (⟨nx,ok,o5,m5,V5,rfl,ga,gG,h8⟩|⟨er,evt,ev,rfl,hp⟩)
 rotate_left
 . have HF:=Hd hp;clear hp gX gk g3 g2 HKK HZ gc gx gj g9 gh gg gf ge;unfold Au;go_wp2_with fail;exact⟨rfl,HF.o⟩
 have gt:=Hd ga;have gp:=Hd (gq.o.step gs.o gt.o);have cd5:=gp.o.d;have cx5:=gp.o.x;unfold ConC.caps at cd5;have gr:Hq (∀ z,okE (Aa m.d) z->okE (Aa m5.d) z/\ef V5 z=ef V z/\lvE n (levN m5.d) (Aa m5.d) z=lvE n (levN m.d) (Aa m.d) z):=Hd fun z hz=>⟨ga.st.ext.ok hz,ga.st.ext.ef hz,ga.st.ext.lvE hz g5.o.dag.none0 gp.o.ok.dag.none0⟩
 cases ok with
 | true =>
   have HY:=Hd (gG rfl)
   have hQ:Hq (levN m.d v<lvE n (levN m5.d) (Aa m5.d) nx):=Hd (by
    have gQ:=gp.o.vars;have h9:levN m5.d=levN m.d:=ga.st.ext.lev;rw[<- gQ,<- h9];refine MR gp.o.ok HY.o.2.1 ?_ fun u hu gR=>Ind.of fun ρ b=>?_
    . rw[h9,gQ];have:=g5.o.dag.lt v (by rw[g4.o];exact HV.o.1);rw[g4.o] at this;exact this
    . rw[h9] at gR;rw[HY.o.2.2,HY.o.2.2,(EC g5.o g2.o.1.1 (by rw[g4.o];have:=g2.o.1.2.1;omega)).at,(EC g5.o g2.o.2.1 (by rw[g4.o];have:=g2.o.2.2.1;omega)).at])
   have hJ:Hq (SatF (ef V5 nx)):=Hd (by
    obtain⟨ρ,hρ⟩:=gf.o;exact⟨ρ,by rw[HY.o.2.2,hρ];rfl⟩)
   have gb:Hq (Calls prog 175 #[.int .i64 f0,.int .i64 nx,Pt bx,Pt bo,Pt bd,Pt ba] w5 fun x w'=>(∃ r:Nat,x=.returned (.int .i64 r)/\P x w')\/∃ er evt ev,x=Au er evt ev/\P x w'):=Hd ((gk.o N3 o5 w5 m5 V5 v f0 nx HV.o.2.2.2 gt.o (gr.o f0 g3.o.1.1).1 HY.o.2.1 hJ.o (by rw[(gr.o f0 g3.o.1.1).2.2];exact g3.o.1.2.1) hQ.o).mono fun x w' hx=>by
    have gm:P x w':=(gc.o x w').2 (by
     refine((AF.base gt.o (show N3+N1<=N2 by have:=g6.o;omega) hx).good ?_);intro d V' r x4 h;rw[(gr.o f0 g3.o.1.1).2.1,g3.o.1.2.2] at h;refine gj.o.next d.vars v _ _ _ _ ?_ ?_ h
     . rw[<- g3.o.1.2.2,<- g3.o.2.2.2];exact HY.o.1
     . intro ρ;rw[<- g2.o.1.2.2,<- g2.o.2.2.2];exact HY.o.2.2 ρ)
    rcases hx.kind with ⟨r,rfl⟩|⟨er,evt,ev,rfl⟩
    . exact .inl ⟨r,rfl,gm⟩
    . exact .inr ⟨er,evt,ev,rfl,gm⟩)
   clear gG h8 ga gX gk g3 g2 HKK HZ gc gx gj g9 gh gg gf ge gt gp gr HY hQ hJ cd4 ca4;go_wp2_with fail;refine gb.o.mono ?_;rintro x w6 (⟨r,rfl,hp⟩|⟨er,evt,ev,rfl,hp⟩)
   . have HF:=Hd hp;clear hp gb;go_wp2_with fail;exact HF.o
   . have HF:=Hd hp;clear hp gb;unfold Au;go_wp2_with fail;exact⟨rfl,HF.o⟩
 | false =>
   have k8:=Hd (h8 rfl);have gT:=ga.below (Ap w5 1);have hE:Hq (AtC K N3 o W mb m V o5 w5.drew m5 V5):=Hd gT;have cd5d:w5.drew.cell? ⟨bd,0,none⟩=some (.func (.func 175) #[] #[.pointer (some ⟨bx,0,none⟩),.pointer (some ⟨bo,0,none⟩),.pointer (some ⟨bd,0,none⟩),.pointer (some ⟨ba,0,none⟩)]):=cd5;have cx5d:w5.drew.cell? ⟨bx,0,none⟩=some (.pointer (some ⟨xb,0,none⟩)):=cx5;have hy:Hq (∀ er evt ev w',DA K N2 o W mb m V er evt ev w'->P (Au er evt ev) w'):=Hd fun er evt ev w' h=>(gc.o _ w').2 (.inr ⟨er,evt,ev,rfl,h⟩)
   have gK:Hq (∀ (k:Nat) (o1:Own) (w':Wd) (m1:ManD) (V1:Nat->BF) (f' e':Nat),k+N1<=N2->AtC K k o W mb m V o1 w' m1 V1->okE (Aa m.d) f'->okE (Aa m.d) e'->SatF (ef V e')->levN m.d v<lvE n (levN m.d) (Aa m.d) f'->levN m.d v<lvE n (levN m.d) (Aa m.d) e' ->
    Calls prog 175 #[.int .i64 f',.int .i64 e',Pt bx,Pt bo,Pt bd,Pt ba] w' fun x w2 =>
     (∃ u,x=.returned u/\(w2.cell? ⟨bd,0,none⟩=some (.func (.func 175) #[] #[.pointer (some ⟨bx,0,none⟩),.pointer (some ⟨bo,0,none⟩),.pointer (some ⟨bd,0,none⟩),.pointer (some ⟨ba,0,none⟩)])/\w2.cell? ⟨bx,0,none⟩=some (.pointer (some ⟨xb,0,none⟩)))/\∃ (r:Nat) (o2:Own) (m2:ManD) (V2:Nat->BF),u=.int .i64 r/\AtC K (k+N1) o W mb m V o2 w2 m2 V2/\Step K o1 w' mb m1 V1 o2 w2 m2 V2/\okE (Aa m2.d) r/\Rel m.d.vars (ef V f') (ef V e') (ef V2 r))\/(∃ ch,x=.panicked ch/\P (.panicked ch) w2)):=Hd fun k o1 w' m1 V1 f' e' hY h1 h2 h3 h4 h5 h6=>by
    have x1:=h1.st.ext;refine(gk.o k o1 w' m1 V1 v f' e' HV.o.2.2.2 h1 (x1.ok h2) (x1.ok h3) (by rw[x1.ef h3];exact h4) (by rw[x1.lvE h2 g5.o.dag.none0 h1.st.ok.dag.none0];exact h5) (by rw[x1.lvE h3 g5.o.dag.none0 h1.st.ok.dag.none0];exact h6)).mono ?_;rintro x w2 (⟨r,o2,m2,V2,rfl,q1,q2,q3⟩|⟨er,evt,ev,rfl,gC⟩)
    . have gd:=h1.trans q1;have gD:=gq.o.step gs.o gd;have gE:=gD.d;unfold ConC.caps at gE;refine .inl ⟨_,rfl,⟨gE,gD.x⟩,r,o2,m2,V2,rfl,gd,q1.st,q2,?_⟩;rw[x1.ef h2,x1.ef h3,gd.st.ext.vars] at q3;exact q3
    . exact .inr ⟨_,rfl,hy.o _ _ _ _ (gC.after h1 hY)⟩
   have HL:=Hd (gK.o N3 o5 w5.drew m5 V5 f0 c0 (by have:=g6.o;omega) hE.o g3.o.1.1 g2.o.1.1 gf.o g3.o.1.2.1 g2.o.1.2.1);clear gG h8 ga gT gX gk gt gp gr cd4 ca4 cd5 cx5 gx;go_upto_region 11 with fail;refine Dk [0,1,2,3,4,6,7,8,5,9,10,11] (fun W=>W.cell? ⟨bd,0,none⟩=some (.func (.func 175) #[] #[.pointer (some ⟨bx,0,none⟩),.pointer (some ⟨bo,0,none⟩),.pointer (some ⟨bd,0,none⟩),.pointer (some ⟨ba,0,none⟩)])/\W.cell? ⟨bx,0,none⟩=some (.pointer (some ⟨xb,0,none⟩))) (fun ch w'=>P (.panicked ch) w') (fun c a w hd h=>⟨hd,h⟩) (by kernel_rfl) ⟨cd5d,cx5d⟩ ?_
   iterate 8
    refine BM rfl rfl (by kernel_rfl) ?_;apply Exists.intro;refine⟨fun w' hw=>?_,?_⟩
    . obtain⟨q1,q2⟩:=hw;go_simp;rfl
    simp only[Ac]
   refine Fu rfl (by kernel_rfl) rfl rfl (by go_simp) HL.o ?_;rintro u w6 k5 ⟨r0,o6,m6,V6,rfl,gI,st6,k6,f6⟩;have hX:=Hd gI;have hC:=Hd k6;have hS:=Hd f6;have HH:=Hd (gK.o (N3+N1) o6 w6 m6 V6 f1 c1 (by have:=g6.o;omega) gI g3.o.2.1 g2.o.2.1 ge.o g3.o.2.2.1 g2.o.2.2.1);clear gI st6 k6 f6 HL k5;simp only[Ac];refine Fu rfl (by kernel_rfl) rfl rfl (by go_simp) HH.o ?_;rintro u w7 k4 ⟨r1,o7,m7,V7,rfl,gl,st7,k7,f7⟩;have hA:=Hd k7;have gL:=Hd (st7.ext.ok hC.o);have hD:=Hd f7;have gM:Hq (Rel m.d.vars (ef V f0) (ef V c0) (ef V7 r0)):=Hd (by rw[st7.ext.ef hC.o];exact hS.o);have gn:=Hd (gq.o.step gs.o gl);have hW:=Hd gl
   have hO:Hq (Calls prog 117 #[Pt xb,.int .i64 v,.int .i64 r0,.int .i64 r1] w7 fun x w2=>(∃ u,x=.returned u/\(w2.cell? ⟨bd,0,none⟩=some (.func (.func 175) #[] #[.pointer (some ⟨bx,0,none⟩),.pointer (some ⟨bo,0,none⟩),.pointer (some ⟨bd,0,none⟩),.pointer (some ⟨ba,0,none⟩)])/\w2.cell? ⟨bx,0,none⟩=some (.pointer (some ⟨xb,0,none⟩)))/\∃ r:Nat,u=.int .i64 r/\P (.returned (.int .i64 r)) w2)\/(∃ ch,x=.panicked ch/\P (.panicked ch) w2)):=Hd (by
    have gQ:=gn.o.vars;have hG:levN m7.d=levN m.d:=gl.st.ext.lev;have gY:v<m7.d.vars.length:=by rw[gQ];exact HV.o.1
    have hU:levN m7.d v<m7.d.vars.length:=gn.o.ok.dag.lt v gY;have ha:∀ {z f' e':Nat},okE (Aa m.d) f'->okE (Aa m.d) e'->levN m.d v<lvE n (levN m.d) (Aa m.d) f'->levN m.d v<lvE n (levN m.d) (Aa m.d) e'->okE (Aa m7.d) z->Rel m.d.vars (ef V f') (ef V e') (ef V7 z)->levN m7.d v<lvE m7.d.vars.length (levN m7.d) (Aa m7.d) z:=fun {z f' e'} h1 h2 h3 h4 h5 h6 =>
     MR gn.o.ok h5 hU fun u hu gR=>gj.o.ind _ _ _ _ u (EC g5.o h1 (by rw[g4.o];rw[hG] at gR;omega)) (EC g5.o h2 (by rw[g4.o];rw[hG] at gR;omega)) h6
    refine(Me HKK.o gn.o.is gn.o.lt gn.o.ctx gn.o.ok v r0 r1 gY gL.o hA.o (ha g3.o.1.1 g2.o.1.1 g3.o.1.2.1 g2.o.1.2.1 gL.o gM.o) (ha g3.o.2.1 g2.o.2.1 g3.o.2.2.1 g2.o.2.2.1 hA.o hD.o)).mono ?_;rintro x w2 (⟨r,o2,m2,V2,rfl,q1,q2,q3,_⟩|⟨er,evt,ev,rfl,gC⟩)
    ·have gd:=gl.trans q1;have gD:=gq.o.step gs.o gd;have gE:=gD.d;unfold ConC.caps at gE;refine .inl ⟨_,rfl,⟨gE,gD.x⟩,r,rfl,(gc.o _ w2).2 (.inl ⟨r,o2,m2,V2,rfl,gd.mono (by have:=g6.o;omega),q2,?_⟩)⟩
     show Rel m2.d.vars (ef V f) (ef V e) (ef V2 r)
     have g0:=gM.o;have g1:=hD.o;rw[gd.st.ext.vars,g9.o,q3];rw[g9.o,g3.o.1.2.2,g2.o.1.2.2] at g0;rw[g9.o,g3.o.2.2.2,g2.o.2.2.2] at g1;exact gj.o.both v pre post _ _ _ _ gh.o (by rw[<- g2.o.1.2.2];exact gf.o) (by rw[<- g2.o.2.2.2];exact ge.o) (by rw[<- g3.o.1.2.2,<- g3.o.2.2.2];exact k8.o) g0 g1
    . exact .inr ⟨_,rfl,hy.o _ _ _ _ (gC.after gl (by have:=g6.o;omega))⟩)
   clear gl st7 k7 f7 HH k4 gK hW gn gM hD hA gL hC hS hX;simp only[Ac];refine Fu rfl (by kernel_rfl) rfl rfl (by go_simp) hO.o ?_;rintro u w8 k3 ⟨r,rfl,hp⟩;have HF:=Hd hp;clear hp k3 hO;simp only[Ac];refine BM rfl rfl (by kernel_rfl) ?_;apply Exists.intro;refine⟨fun w' hw=>?_,?_⟩
   . clear hw;go_simp;rfl
   simp only[Ac];refine Dl (by kernel_rfl) ?_;clear cd5d cx5d;go_wp2_with fail;exact HF.o
end
theorem boxes2e (w:Wd)(x y:Value)(s t:TypeId):∃ w3,w3=(w.alloc (.cells #[x] s)).alloc (.cells #[y] t)/\Bw w w3/\w3.heap.size=w.heap.size+2/\w3.cell? ⟨w.heap.size,0,none⟩=some x/\w3.cell? ⟨w.heap.size+1,0,none⟩=some y:=by
 refine⟨_,rfl,(Af _ _).alloc (by simp) _,by simp,?_,?_⟩
 . exact cell1 ((WT _ _ (by simp)).trans (WN _ _))
 . have:=WN (w.alloc (.cells #[x] s)) (.cells #[y] t);rw[WV] at this;exact cell1 this
section
variable {Rel:List Nat->BF->BF->BF->Prop}{Yes:BF->BF->Prop}{T:Nat->Prop}{c:ConC}{o:Own}{J:Nat}
theorem NZ (hK:A5 K)(hR:F3 Rel Yes)(hKey:GG K c.op Rel)(hB:∀ W W',Bwd W->(∀ q,T q->W'.heap[q]?=W.heap[q]?)->Bwd W')(hat:AtOK K n Yes c.xb mb Bwd T c.g c.lw)(eg:∀ args w,(callFunc c.g args).run prog w=.ok (.enter c.g args) w)
 (IH:∀ j,J=j+1->GH K n Rel Bwd T c mb j):GH K n Rel Bwd T c mb J:=by
 intro o W m V f e hs hf he g1 g2 g9;have gi:∀ (fn:Fn) (first cap:Array Value) (w:Wd),(Instr.makeFunc fn first cap).run prog w=.ok (.func fn first cap) w:=fun _ _ _ _=>rfl
 obtain⟨w2,g8,g6,ga,cf,ce⟩:=boxes2e W (.int .i64 f) (.int .i64 e) 113 113;have ge:Hq (_=w2):=Hd g8.symm;have g0:=hs.below hB g6;have hk:=hs.ok;have g3:AtC K 0 o W mb m V o w2 m V:=(AtC.refl hs.is hs.lt hk).below g6;obtain⟨N,hN⟩:=Ex ((2^J-1)*2^n);obtain⟨P,hP⟩:=Ex (AF K N o W mb m V fun d V' r=>Rel d.vars (ef V f) (ef V e) (ef V' r):Ending->Wd->Prop)
 rw[<- hN,<- hP];have g5:=Hd (FC f w2 (DD hs.is hf));have g4:Hq (Rel m.d.vars (ef V f) (ef V e) (ef V f)->P (.returned (.int .i64 (f:Nat))) w2):=Hd fun h=>by
  rw[hP];exact .inl ⟨f,o,m,V,rfl,g3.mono (WX _),hf,h⟩
 by_cases h1:e=0
 ·have HF:=Hd (g4.o (hR.tru _ _ _ (by subst h1;intro ρ;rw[hk.dag.ef0])));have hb:(((e:Nat):Int) == 0)=true:=by subst h1;rfl
  clear hP hs g0 hk g3 hK hR hKey hB hat IH g1 g2 g9 hf he g4 g5 g8 g6 ga h1 hN eg;obtain⟨bx,bo,bd,ba,xb,op,g,lw⟩:=c;unfold ConC.caps
  show Calls _ _ #[_,_,_,_,_,_] _ _
  go_enter func175,ntmps175
  go_upto_region 1 with fail;rw[ge.o];go_wp2_with fail;exact HF.o
 have hb:(((e:Nat):Int) == 0)=false:=by rw[Yu];omega
 by_cases h0:f/2=0
 ·have HF:=Hd (g4.o (hR.const _ _ _ (by
   intro ρ ρ';rw[Jl hk h0];rfl)))
  rw[XA (show enode f=0 from h0)] at g5;clear hP hs g0 hk g3 hK hR hKey hB hat IH g1 g2 g9 hf he g4 g8 g6 ga h1 h0 hN eg;obtain⟨bx,bo,bd,ba,xb,op,g,lw⟩:=c;unfold ConC.caps
  show Calls _ _ #[_,_,_,_,_,_] _ _
  go_enter func175,ntmps175
  go_upto_region 1 with fail;rw[ge.o];go_wp2_with fail;refine g5.o.mono ?_;rintro y w' ⟨rfl,rfl⟩;go_wp2_with fail;exact HF.o
 rw[X8 (show ¬ enode f=0 from h0)] at g5;cases J with
 | zero =>
   exfalso;rcases hf with h|⟨b,gg⟩
   . exact h0 h
   . have h1:=hk.dag.lt b.v (hk.dag.var _ _ gg);rw[hs.vars] at h1;unfold lvE at g2;rw[gg] at g2;simp at g2;omega
 | succ j =>
   have gb:o W.heap.size=none:=hs.lt.none (WM _);have gc:o (W.heap.size+1)=none:=hs.lt.none (by omega);have gd:Calls prog 176 #[Pt c.xb,.int .i64 c.op,.int .i64 f,.int .i64 e,.int .i64 (0:Nat),.func (.func 177) #[] #[Pt c.bx,Pt W.heap.size,Pt (W.heap.size+1),Pt c.bd,Pt c.ba]] w2 (AF K N o w2 mb m V fun d V' r=>Rel d.vars (ef V f) (ef V e) (ef V' r)):=by
    refine Vp g0.is g0.lt g0.ctx hk Vs c.op f e 0 (fun r hr=>?_) (fun d' V' r gj x hr hA=>?_) (fun w1 hc hm hl=>?_)
    . obtain⟨_,_,q3,q4⟩:=(hKey _ _ _ _ _).1 hr;exact⟨q3,q4 g1⟩
    . refine(hKey _ _ _ _ _).2 ⟨x.ok hf,x.ok he,hr,fun _=>?_⟩;rw[x.ef hf,x.ef he];exact hA
    . have gh:AtC K 0 o w2 mb m V o w1 m V:=⟨⟨hm,hl,hc,hk,Ext.refl _ _,rfl,rfl⟩,rfl,WM _⟩;rw[hN];exact Vu hK hR hB hat eg (IH j rfl) (g0.step hB gh) hf he g1 h0 g2 g9 (hc.cell cf gb) (hc.cell ce gc) gb gc
   have g7:Hq (Calls prog 176 #[Pt c.xb,.int .i64 c.op,.int .i64 f,.int .i64 e,.int .i64 0,.func (.func 177) #[] #[Pt c.bx,Pt W.heap.size,Pt (W.heap.size+1),Pt c.bd,Pt c.ba]] w2 fun x w'=>(∃ r:Nat,x=.returned (.int .i64 r)/\P x w')\/∃ er evt ev,x=Au er evt ev/\P x w'):=Hd (gd.mono fun x w' hx=>by
    have gf:P x w':=by
     rw[hP];exact AF.base g3 (by omega) hx
    rcases hx.kind with ⟨r,rfl⟩|⟨er,evt,ev,rfl⟩
    . exact .inl ⟨r,rfl,gf⟩
    . exact .inr ⟨er,evt,ev,rfl,gf⟩)
   have cx:=g0.x;have cp:=g0.p;clear gd hP hs g0 hk g3 hK hR hKey hB hat IH g1 g2 g9 hf he g4 g8 g6 ga h1 h0 hN eg gb gc;obtain⟨bx,bo,bd,ba,xb,op,g,lw⟩:=c;unfold ConC.caps
   show Calls _ _ #[_,_,_,_,_,_] _ _
   go_enter func175,ntmps175
   go_upto_region 1 with fail;rw[ge.o];go_wp2_with fail;refine g5.o.mono ?_;rintro y w' ⟨rfl,rfl⟩;go_wp2_with fail;refine g7.o.mono ?_;rintro x w5 (⟨r,rfl,hp⟩|⟨er,evt,ev,rfl,hp⟩)
   . have HF:=Hd hp;clear hp g7;go_wp2_with fail;exact HF.o
   . have HF:=Hd hp;clear hp g7;unfold Au;go_wp2_with fail;exact⟨rfl,HF.o⟩
theorem Oa (hK:A5 K)(hR:F3 Rel Yes)(hKey:GG K c.op Rel)(hB:∀ W W',Bwd W->(∀ q,T q->W'.heap[q]?=W.heap[q]?)->Bwd W')(hat:AtOK K n Yes c.xb mb Bwd T c.g c.lw)(eg:∀ args w,(callFunc c.g args).run prog w=.ok (.enter c.g args) w):∀ J,GH K n Rel Bwd T c mb J
 | 0=>NZ hK hR hKey hB hat eg (fun j e=>by cases e)
 | J+1=>NZ hK hR hKey hB hat eg (fun j e=>by cases e;exact Oa hK hR hKey hB hat eg J)
theorem Vv (hK:A5 K)(hR:F3 Rel Yes)(hKey:GG K op Rel)(hB:∀ W W',Bwd W->(∀ q,T q->W'.heap[q]?=W.heap[q]?)->Bwd W'){lw:Array Value}(hat:AtOK K n Yes xb mb Bwd T g lw)(eg:∀ args w,(callFunc g args).run prog w=.ok (.enter g args) w)
 {f e:Nat} (hm:A9 (K m.d V) o W mb m) (hlt:Ab o W) (hx:AH o W xb mb) (hk:Ai m.d V) (hn:m.d.vars.length=n) (hbw:Bwd W) (hT:∀ q,T q->q<W.heap.size/\o q=none) (hf:okE (Aa m.d) f) (he:okE (Aa m.d) e) (hsat:SatF (ef V e)) :
 Calls prog 147 #[Pt xb,.int .i64 op,.int .i64 f,.int .i64 e,.func (.func g) #[] lw] W (AF K ((2^n-1)*2^n) o W mb m V fun d V' r=>Rel d.vars (ef V f) (ef V e) (ef V' r)):=by
 have gh:∀ (fn:Fn) (first cap:Array Value) (w:Wd),(Instr.makeFunc fn first cap).run prog w=.ok (.func fn first cap) w:=fun _ _ _ _=>rfl
 obtain⟨w4,g4⟩:=Ex ((((W.alloc (.cells #[.pointer (some ⟨xb,0,none⟩)] 161)).alloc (.cells #[.int .i64 op] 3)).alloc (.cells #[.func (.func g) #[] lw] 219)).alloc (.cells #[.nilFunc] 248));have gg:Hq (_=w4):=Hd g4.symm;have gf:w4.heap.size=W.heap.size+1+1+1+1:=by rw[g4];simp
 have gd:Bw W w4:=by rw[g4];exact(((Af _ _).alloc (by simp) _).alloc (by simp;omega) _).alloc (by simp;omega) _
 have g0:w4.heap[W.heap.size]?=some (.cells #[.pointer (some ⟨xb,0,none⟩)] 161 (0,0)):=by
  rw[g4];exact(WT _ _ (by simp;omega)).trans ((WT _ _ (by simp;omega)).trans ((WT _ _ (by simp)).trans (WN _ _)))
 have g1:w4.heap[W.heap.size+1]?=some (.cells #[.int .i64 op] 3 (0,0)):=by
  have:=WN (W.alloc (.cells #[.pointer (some ⟨xb,0,none⟩)] 161)) (.cells #[.int .i64 op] 3);rw[WV] at this;rw[g4];exact(WT _ _ (by simp<;>omega)).trans ((WT _ _ (by simp)).trans this)
 have g2:w4.heap[W.heap.size+1+1]?=some (.cells #[.func (.func g) #[] lw] 219 (0,0)):=by
  have:=WN ((W.alloc (.cells #[.pointer (some ⟨xb,0,none⟩)] 161)).alloc (.cells #[.int .i64 op] 3)) (.cells #[.func (.func g) #[] lw] 219);rw[WV,WV] at this;rw[g4];exact(WT _ _ (by simp)).trans this
 have g3:w4.heap[W.heap.size+1+1+1]?=some (.cells #[.nilFunc] 248 (0,0)):=by
  have:=WN (((W.alloc (.cells #[.pointer (some ⟨xb,0,none⟩)] 161)).alloc (.cells #[.int .i64 op] 3)).alloc (.cells #[.func (.func g) #[] lw] 219)) (.cells #[.nilFunc] 248);rw[WV,WV,WV] at this;rw[g4];exact this
 obtain⟨FV,gb⟩:=Ex (.func (.func 175) #[] #[.pointer (some ⟨W.heap.size,0,none⟩),.pointer (some ⟨W.heap.size+1,0,none⟩),.pointer (some ⟨W.heap.size+1+1+1,0,none⟩),.pointer (some ⟨W.heap.size+1+1,0,none⟩)]:Value);have c6:=cell1 g3;have f6:w4.frozen? ⟨W.heap.size+1+1+1,0,none⟩=false:=by simp[World.frozen?,g3]
 obtain⟨w5,g5⟩:=Ex (w4.setCell ⟨W.heap.size+1+1+1,0,none⟩ FV);have gi:Hq (_=w5):=Hd g5.symm;have ga:∀ q:Nat,q≠W.heap.size+1+1+1->w5.heap[q]?=w4.heap[q]?:=fun q hq=>by rw[g5];exact Aw hq _
 have e6:w5.heap[W.heap.size+1+1+1]?=some (.cells #[FV] 248 (0,0)):=by rw[g5];exact Az g3 _
 have g9:Bw W w5:=by rw[g5];exact gd.setCell (p:=⟨W.heap.size+1+1+1,0,none⟩) (by show W.heap.size<=W.heap.size+1+1+1;omega) _
 have ge:(store ⟨W.heap.size+1+1+1,0,none⟩ FV).run prog w4=.ok () w5:=by
  rw[run_store _ _ _ _ _ (by rw[gb];rfl)];simp[c6,f6,g5]
 have k6:w5.cell? ⟨W.heap.size+1+1+1,0,none⟩=some FV:=cell1 e6;rw[gb] at k6 ge;have g7:AtC K 0 o W mb m V o w5 m V:=(AtC.refl hm hlt hk).below g9;have k0:w5.cell? ⟨W.heap.size,0,none⟩=some (.pointer (some ⟨xb,0,none⟩)):=cell1 ((ga _ (by omega)).trans g0);have k1:w5.cell? ⟨W.heap.size+1,0,none⟩=some (.int .i64 op):=cell1 ((ga _ (by omega)).trans g1);have k2:w5.cell? ⟨W.heap.size+1+1,0,none⟩=some (.func (.func g) #[] lw):=cell1 ((ga _ (by omega)).trans g2);have hs:ConS K n Bwd T ⟨W.heap.size,W.heap.size+1,W.heap.size+1+1+1,W.heap.size+1+1,xb,op,g,lw⟩ mb o w5 m V:=by
  refine⟨g7.st.is,g7.st.lt,hk,hn,⟨(g9.cell (p:=⟨xb,0,none⟩) (Ag hx.cell)).trans hx.cell,hx.own⟩,hB _ _ hbw (fun q hq=>g9.block q (hT q hq).1),k0,k1,k6,k2,?_,fun q hq=>Xh (hT q hq).1 g9.size⟩;rintro q (rfl|rfl|rfl|rfl|hq)
  . exact hlt.none (WM _)
  . exact hlt.none (by show W.heap.size<=W.heap.size+1;omega)
  . exact hlt.none (by show W.heap.size<=W.heap.size+1+1+1;omega)
  . exact hlt.none (by show W.heap.size<=W.heap.size+1+1;omega)
  . exact(hT q hq).2
 have g6:=Oa (mb:=mb) hK hR (c:=⟨W.heap.size,W.heap.size+1,W.heap.size+1+1+1,W.heap.size+1+1,xb,op,g,lw⟩) hKey hB hat eg n o w5 m V f e hs hf he hsat (by omega) (by omega);obtain⟨N,hN⟩:=Ex ((2^n-1)*2^n);obtain⟨P,hP⟩:=Ex (AF K N o W mb m V fun d V' r=>Rel d.vars (ef V f) (ef V e) (ef V' r):Ending->Wd->Prop)
 rw[<- hN] at g6 ⊢
 have g8:Hq (Calls prog 175 #[.int .i64 f,.int .i64 e,Pt W.heap.size,Pt (W.heap.size+1),Pt (W.heap.size+1+1+1),Pt (W.heap.size+1+1)] w5 fun x w'=>(∃ r:Nat,x=.returned (.int .i64 r)/\P x w')\/∃ er evt ev,x=Au er evt ev/\P x w'):=Hd (Calls.mono g6 fun x w' hx=>by
  have gc:P x w':=by
   rw[hP];exact AF.base g7 (by omega) hx
  rcases hx.kind with ⟨r,rfl⟩|⟨er,evt,ev,rfl⟩
  . exact .inl ⟨r,rfl,gc⟩
  . exact .inr ⟨er,evt,ev,rfl,gc⟩)
 have eg1:=NY;rw[<- hP];clear k0 k1 k2 hP g6 hs g7 hK hR hKey hB hat hm hlt hx hk hn hbw hT hf he hsat gd g9 ga e6 g0 g1 g2 g3 g4 g5 gf gb hN eg
 delta Pt;go_enter func147,ntmps147
 go_upto_region 2 with fail;rw[gg.o];go_wp2_with fail;refine g8.o.mono ?_;rintro x w6 (⟨r,rfl,hp⟩|⟨er,evt,ev,rfl,hp⟩)
 . have HF:=Hd hp;clear hp g8;go_wp2_with fail;exact HF.o
 . have HF:=Hd hp;clear hp g8;unfold Au;go_wp2_with fail;exact⟨rfl,HF.o⟩
end
section
variable {σ:Nat->BF}{HP:ManD->(Nat->BF)->Prop}{T:Nat->Prop}{o:Own}
theorem boxes2v (w:Wd)(x y:Value)(s t:TypeId):∃ w3,w3=(w.alloc (.cells #[x] s)).alloc (.cells #[y] t)/\Bw w w3/\w3.heap.size=w.heap.size+2/\w3.cell? ⟨w.heap.size,0,none⟩=some x/\w3.cell? ⟨w.heap.size+1,0,none⟩=some y:=by
 refine⟨_,rfl,(Af _ _).alloc (by simp) _,by simp,?_,?_⟩
 . exact cell1 ((WT _ _ (by simp)).trans (WN _ _))
 . have:=WN (w.alloc (.cells #[x] s)) (.cells #[y] t);rw[WV] at this;exact cell1 this
end
theorem Vw (args:Array Value)(w:Wd):(callFunc 148 args).run prog w=.ok (.enter 148 args) w:=XY func148 (by kernel_rfl) rfl args w
def Ob (ord:List Nat)(op:Int)(A B _C R:BF):Prop:=SatF B->(op=1700\/op=1701->RelC ord A B R)/\(op=1702->RelR ord A B R)
def Av:Law:=Ek Ob
theorem Cn:A5 Av:=Vn Ob
theorem Vx (h:op=1700\/op=1701):GG Av op RelC:=fun d V a b r=>by
 unfold Av;rw[Vo (by omega)];constructor
 . rintro⟨q1,q2,_,q3,q4⟩;exact⟨q1,q2,q3,fun hs=>(q4 hs).1 h⟩
 . rintro⟨q1,q2,q3,q4⟩;exact⟨q1,q2,.inl rfl,q3,fun hs=>⟨fun _=>q4 hs,fun e=>by omega⟩⟩
section
variable {o:Own}
theorem Vy:AtOK K n (fun _ _=>False) xb mb (fun _=>True) (fun _=>False) 148 #[]:=by
 intro o W m V v f0 f1 c0 c1 hm g0 hx hk hn _ _ h0 h1 h2 h3;obtain⟨P,hP⟩:∃ P:Ending->Wd->Prop,P=fun e w'=>(∃ (r:Nat) (ok:Bool) (o':Own) (m':ManD) (V':Nat->BF),e=.returned (.tuple #[.int .i64 r,.bool ok])/\AtC K (2^n-1) o W mb m V o' w' m' V'/\(ok=true->False/\okE (Aa m'.d) r/\∀ ρ,ef V' r ρ=(ef V c0 ρ||ef V c1 ρ))/\(ok=false->¬ False)) \/
  (∃ er evt ev,e=Au er evt ev/\DA K (2^n-1) o W mb m V er evt ev w'):=⟨_,rfl⟩
 have HF:Hq (P (.returned (.tuple #[.int .i64 0,.bool false])) W):=Hd (by
  rw[hP];exact .inl ⟨0,false,o,m,V,rfl,(AtC.refl hm g0 hk).mono (WX _),(fun e=>by cases e),(fun _ e=>e)⟩)
 show Calls _ _ #[_,_,_,_,_] _ _
 rw[<- hP];clear hP hm g0 hx hk hn h0 h1 h2 h3
 go_enter func148,ntmps148
 go_wp2_with fail;exact HF.o
theorem Vz (h:SatE K n Od room w0 mb fs nx w o m V){a:Option Addr}(hz:An w a ks){er:Int}(her:(er=0/\∀ k∈ks,known fs k)\/(er=8/\∃ k∈ks,¬ known fs k)) :
 Calls prog 144 #[Pt mb,.slice a ks.length c] w (Sm (.int .i64 er) w):=by
 have HZ:=Hd hz;have ga:=hz.len;have g4:Hq (∀ k b,(b=true↔known fs k)->Calls prog 29 #[Pt mb,.int .i64 k] w (Sm (.bool b) w)):=Hd fun k b hb=>Fy h k hb
 obtain⟨P,hP⟩:=Ex ((Sm (.int .i64 er) w):Ending->Wd->Prop)
 have g5:Hq (∀ k∈ks,¬ known fs k->P (.returned (.int .i64 8)) w):=Hd fun k hk hn=>by
  rw[hP];rcases her with ⟨_,h2⟩|⟨rfl,_⟩
  . exact absurd (h2 k hk) hn
  . exact⟨rfl,rfl⟩
 have g2:Hq ((∀ q,q<ks.length->known fs (at0 ks q))->P (.returned (.int .i64 0)) w):=Hd fun hq=>by
  rw[hP];rcases her with ⟨rfl,_⟩|⟨_,k,hk,hn⟩
  . exact⟨rfl,rfl⟩
  . obtain⟨q,g3,rfl⟩:=XX hk;have:=hq q g3;rw[AI g3] at this;exact absurd this hn
 rw[<- hP];clear hP h hz her
 delta Pt;go_enter func144,ntmps144
 go_wp2_with fail
 go_loopw [4,6,11] (fun _ _ s11 wr=>∃ j:Nat,j<=ks.length/\s11=.int .i64 j/\wr=w/\Hq (∀ q,q<j->known fs (at0 ks q))) (fun _ _ s11 _=>ks.length-(intOf s11).toNat)
 case atStart=>exact⟨0,WX _,rfl,rfl,Hd fun q hq=>by omega⟩
 case round =>
  obtain⟨j,hj,rfl,rfl,HQ⟩:=hrel
  by_cases g1:j<ks.length
  ·have g6:(j:Int)<(ks.length:Int):=by omega
   obtain⟨b,off,rfl,ck⟩:=HZ.o.cells j g1;obtain⟨z,hz⟩:=Ex (at0 ks j);rw[<- hz] at ck;have g9:Hq (z∈ks):=Hd (by rw[hz,AI g1];exact Xp g1);have g7:=Hd hz;clear hz
   by_cases g0:known fs z
   ·have HI:=Hd (g4.o z true (by simp[g0]));have g8:Hq (∀ q,q<j+1->known fs (at0 ks q)):=Hd fun q hq=>by
     rcases Xe q j with h|h
     . exact HQ.o q h
     ·obtain rfl:q=j:=by omega
      rw[<- g7.o];exact g0
    clear g0;go_wp2_with fail;refine HI.o.mono ?_;rintro x w' ⟨rfl,rfl⟩;go_wp2_with fail;go_roundw
    case rel=>exact⟨j+1,by omega,by go_num,by trivial,g8⟩
    case measure=>simp[intOf];omega
   . have HI:=Hd (g4.o z false (by simp[g0]));have HF:=Hd (g5.o z g9.o g0);clear g0;go_wp2_with fail;refine HI.o.mono ?_;rintro x w' ⟨rfl,rfl⟩;go_wp2_with fail;exact HF.o
  ·obtain rfl:j=ks.length:=by omega
   have g6:¬ (ks.length:Int)<(ks.length:Int):=by omega
   have HF:=Hd (g2.o HQ.o);go_wp2_with fail;exact HF.o
end
structure Cd (w:Wd)(a:Option Addr)(l:List (Int×Bool)):Prop where
 len:l.length<=9223372036854775807
 cells:∀ k,∀ hk:k<l.length,∃ b off,a=some ⟨b,off,none⟩/\w.cell? ⟨b,off+k*2,none⟩=some (.int .i64 l[k].1)/\w.cell? ⟨b,off+k*2+1,none⟩=some (.bool l[k].2)
theorem Cd.keep {a:Option Addr}{l:List (Int×Bool)}(h:Cd w a l)(hk:l≠[]->∀ x v,a=some x->∀ o,w.cell? ⟨x.block,o,none⟩=some v->w'.cell? ⟨x.block,o,none⟩=some v):Cd w' a l :=
 ⟨h.len,fun k hkl=>by
  obtain⟨b,off,e,c0,c1⟩:=h.cells k hkl;have hne:l≠[]:=fun e=>by subst e;simp at hkl
  exact⟨b,off,e,hk hne _ _ e _ c0,hk hne _ _ e _ c1⟩⟩
theorem Cd.below {a:Option Addr}{l:List (Int×Bool)}(h:Cd w a l)(hb:Bw w w'):Cd w' a l :=
 h.keep fun _ x v _ o hc=>(Cq hb hc)
theorem Cd.lt {x:Addr}{l:List (Int×Bool)}(h:Cd w (some x) l)(hl:l≠[]):x.block<w.heap.size:=by
 obtain⟨b,off,e,c0,_⟩:=h.cells 0 (YY.2 hl);cases e;exact Ag c0
def AT (n:Nat)(l:List (Int×Bool)):Int:=if ∀ p∈l,0<=p.1/\p.1<(n:Int) then if (l.map (·.1)).Nodup then 0 else 6 else 9
def ovr:List (Int×Bool)->(Nat->Bool)->Nat->Bool
 | [],ρ=>ρ
 | p::l,ρ=>upd (ovr l ρ) p.1.toNat p.2
def CZ (l:List (Int×Bool))(F:BF):BF:=fun ρ=>F (ovr l ρ)
def B4 (l:List (Int×Bool)):BF:=fun ρ=>l.all fun p=>ρ p.1.toNat == p.2
theorem Oc (p:Int×Bool):∀ (l:List (Int×Bool)) (ρ:Nat->Bool),ovr (l++[p]) ρ=ovr l (upd ρ p.1.toNat p.2)
 | [],ρ=>rfl
 | q::l,ρ=>by show upd (ovr (l++[p]) ρ) _ _=upd (ovr l _) _ _;rw[Oc p l ρ]
theorem VA (l:List (Int×Bool))(p:Int×Bool)(F:BF):CZ (l++[p]) F=cofF (CZ l F) p.1.toNat p.2:=by
 funext ρ;rw[Bq]
 show F (ovr (l++[p]) ρ)=F (ovr l _)
 rw[Oc]
theorem VB (l:List (Int×Bool))(p:Int×Bool)(ρ:Nat->Bool):B4 (l++[p]) ρ=(B4 l ρ&&(ρ p.1.toNat == p.2)):=by
 unfold B4;rw[List.all_append];simp
theorem Oe {l:List (Int×Bool)}(h0:∀ p∈l,0<=p.1)(h:(l.map (·.1)).Nodup):l.Pairwise fun p q=>p.1.toNat≠q.1.toNat:=by
 have:=Yh.1 h;refine List.Pairwise.imp_of_mem ?_ this;intro a b ha hb g0 e;have:=h0 a ha;have:=h0 b hb;exact g0 (by omega)
theorem GI:∀ {l:List (Int×Bool)},l.Pairwise (fun p q=>p.1.toNat≠q.1.toNat)->∀ ρ,B4 l (ovr l ρ)=true
 | [],_,_=>rfl
 | p::l,h,ρ=>by
   obtain⟨h1,h2⟩:=List.pairwise_cons.1 h;unfold B4;rw[List.all_eq_true];intro q hq;rw[beq_iff_eq];rcases XI.1 hq with rfl|hq
   . exact CL _ _ _
   ·show upd (ovr l ρ) p.1.toNat p.2 q.1.toNat=q.2
    rw[F8 _ _ (fun e=>h1 q hq e.symm)];have:=GI h2 ρ;unfold B4 at this;rw[List.all_eq_true] at this;simpa using this q hq
theorem VC {l:List (Int×Bool)}{p:Int×Bool}(hp:p∈l):¬ SatF (cofF (B4 l) p.1.toNat (!p.2)):=by
 rintro⟨ρ,hρ⟩;rw[Bq] at hρ;unfold B4 at hρ;rw[List.all_eq_true] at hρ;have:=hρ p hp;rw[CL] at this;cases hb:p.2<;>simp_all
theorem Of:∀ (l:List Nat) {F C:BF} {v:Nat} {y:Bool},SatF C->¬ SatF (cofF C v (!y))->v∈l->Ind (constrF l F C) v
 | [],_,_,_,_,_,_,h=>by simp at h
 | u::l,F,C,v,y,hs,hn,hm=>by
   by_cases e:u=v
   . subst e;rw[MQ y hs hn];exact G2 l (G0 F u y) (G0 C u y)
   ·have hm2:v∈l:=by
     rcases XI.1 hm with h|h
     . exact absurd h.symm e
     . exact h
    refine Ind.of fun ρ b=>?_
    show constrF l (cofF F u (conB C u (upd ρ v b u))) (cofF C u (conB C u (upd ρ v b u))) (upd ρ v b)=constrF l (cofF F u (conB C u (ρ u))) (cofF C u (conB C u (ρ u))) ρ
    rw[F8 ρ b e]
    have g0:¬ SatF (cofF (cofF C u (conB C u (ρ u))) v (!y)):=fun⟨ρ',h⟩=>hn ⟨upd ρ' u (conB C u (ρ u)),by
     rw[MN C e] at h;exact h⟩
    exact(Of l (TU hs u _) g0 hm2).at ρ b
theorem Og {R:BF}:∀ {l:List (Int×Bool)},(∀ p∈l,Ind R p.1.toNat)->∀ ρ,R (ovr l ρ)=R ρ
 | [],_,_=>rfl
 | p::l,h,ρ=>by
   show R (upd (ovr l ρ) p.1.toNat p.2)=R ρ
   rw[(h p (Xr ..)).at];exact Og (fun q hq=>h q (XB _ hq)) ρ
theorem VD {ord:List Nat}{l:List (Int×Bool)}(h0:∀ p∈l,0<=p.1)(hnd:(l.map (·.1)).Nodup)(hm:∀ p∈l,p.1.toNat∈ord):constrF ord F (B4 l)=CZ l F:=by
 have hp:=Oe h0 hnd;have hs:SatF (B4 l):=⟨_,GI hp fun _=>false⟩;funext ρ;rw[<- Og (fun p g0=>Of ord hs (VC g0) (hm p g0)) ρ,Ju ord (GI hp ρ)];rfl
def metL (n:Nat)(l:List (Int×Bool)):List Bool:=(List.range n).map fun v:Nat=>decide ((v:Int)∈l.map (·.1))
theorem Oh (n:Nat)(l:List (Int×Bool)):(metL n l).length=n:=by simp[metL]
theorem Oi {v:Nat}(l:List (Int×Bool))(h:v<n):(metL n l).getD v false=decide ((v:Int)∈l.map (·.1)):=by
 simp[metL,List.getD,h]
theorem Oj (n:Nat):metL n []=List.replicate n false:=by
 refine Yl (by simp[metL]) fun i h1 h2=>?_
 simp[metL]
theorem Ol (l:List (Int×Bool)){v:Nat}{y:Bool}(h:v<n):metL n (l++[((v:Int),y)])=(metL n l).set v true:=by
 refine Yl (by simp[metL]) fun i h1 h2=>?_
 rw[Zt]
 by_cases e:v=i
 . subst e;simp[metL]
 ·rw[WO e];simp only[metL,List.getElem_map,List.getElem_range,Xl,Xa,XJ,Zh,Xg];have:¬ ((i:Int)=(v:Int)):=by omega
  simp[this]
theorem Om {l:List Int}{v:Int}:(l++[v]).Nodup↔l.Nodup/\v∉l:=by
 rw[X5];constructor
 . rintro⟨h1,_,h3⟩;exact⟨h1,fun hm=>h3 v hm v (by simp) rfl⟩
 ·rintro⟨h1,h2⟩;refine⟨h1,by simp,fun a ha b hb e=>?_⟩;simp only[Xg] at hb;subst hb;subst e
  exact h2 ha
theorem VE (args:Array Value)(w:Wd):(callFunc 145 args).run prog w=.ok (.enter 145 args) w:=XY func145 (by kernel_rfl) rfl args w
theorem VF (V:Nat->BF)(r:Nat)(b:Bool):ef V (eflip r b)=if b then notF (ef V r) else ef V r:=by
 cases b with
 | true=>exact My V r
 | false=>rfl
section
variable {o:Own}
theorem Cd.step {a:Option Addr}(h:Cd w a ls)(s:Step K o w mb m V o' w' m' V')(ha:ls≠[]->∀ x,a=some x->o x.block=none):Cd w' a ls :=
 h.keep fun hne x v hx _ hc=>s.chg.cell hc (ha hne x hx)
theorem VG (hm:A9 (Av m.d V) o w mb m)(hlt:Ab o w)(hx:AH o w xb mb)(hk:Ai m.d V)(hn:m.d.vars.length=n)(hnd:(m.hs.map Prod.fst).Nodup){a:Option Addr}(hkf:(kf,f)∈m.hs)(hf:okE (Aa m.d) f)(hok:AT n ls=0)(hls:Cd w a ls)(ha:ls≠[]->∀ x,a=some x->o x.block=none)(cl:w.cell? ⟨bl,0,none⟩=some (.slice a ls.length c))(cf:w.cell? ⟨bf,0,none⟩=some (.int .i64 kf))(hol:o bl=none)(hof:o bf=none) :
 Calls prog 145 #[Pt xb,Pt bl,Pt bf] w (AF Av (ls.length*2^n+(2^n-1)*2^n) o w mb m V fun _ V' r=>ef V' r=CZ ls (ef V f)):=by
 have g3:∀ p∈ls,0<=p.1/\p.1<(n:Int):=by
  unfold AT at hok
  by_cases e:∀ p∈ls,0<=p.1/\p.1<(n:Int)
  . exact e
  . rw[WO e] at hok;exact absurd hok (by decide)
 have g8:(ls.map (·.1)).Nodup:=by
  unfold AT at hok;rw[WR g3] at hok
  by_cases e:(ls.map (·.1)).Nodup
  . exact e
  . rw[WO e] at hok;exact absurd hok (by decide)
 have gK:=hls.len;have hp2:0<2^n:=XW (by omega);obtain⟨Q,hQ⟩:=Ex (2^n);obtain⟨P,hP⟩:=Ex (AF Av (ls.length*Q+(Q-1)*Q) o w mb m V fun _ V' r=>ef V' r=CZ ls (ef V f):Ending->Wd->Prop)
 have gf:Hq (∀ k o1 w1 m1 V1 er evt ev w',AtC Av k o w mb m V o1 w1 m1 V1->∀ k2,DA Av k2 o1 w1 mb m1 V1 er evt ev w'->k+k2<=ls.length*Q+(Q-1)*Q->P (Au er evt ev) w'):=Hd fun k o1 w1 m1 V1 er evt ev w' h k2 g5 hk=>by
  rw[hP];exact .inr ⟨er,evt,ev,rfl,g5.after h hk⟩
 have gi:Hq (AtC Av (0*Q) o w mb m V o w m V):=Hd (by rw[Nat.zero_mul];exact AtC.refl hm hlt hk);have HX:=Hd hx;have gq:=Hd hn;have HK:=Hd hk;have gz:=Hd g3;have gH:=Hd hls;have HA:=Hd ha;have gM:=Hd cl;have gJ:=Hd cf;have gG:=Hd (show o bl=none/\o bf=none from ⟨hol,hof⟩);have gw:Hq (okE (Aa m.d) 0/\ef V 0=B4 (ls.take 0)):=Hd ⟨.inl rfl,by rw[hk.dag.ef0];rfl⟩;have HQ:=Hd hQ;have gL:1<=Q:=by rw[hQ];omega
 have gj:Hq (∀ j,j<ls.length->j*Q+Q<=ls.length*Q):=Hd fun j hj=>by
  have:=X7 Q (show j+1<=ls.length by omega);rw[XV,Nat.one_mul] at this;exact this
 have gh:Hq (∀ o1 w1 m1 V1 (cu:Nat),AtC Av (ls.length*Q) o w mb m V o1 w1 m1 V1->okE (Aa m1.d) cu->ef V1 cu=B4 ls ->
  Calls prog 98 #[Pt xb,.int .i64 kf] w1 ((Sm (.int .i64 f) w1)) /\
  Calls prog 147 #[Pt xb,.int .i64 1700,.int .i64 f,.int .i64 cu,.func (.func 148) #[] #[]] w1 fun x w'=>(∃ r:Nat,x=.returned (.int .i64 r)/\P x w')\/∃ er evt ev,x=Au er evt ev/\P x w'):=Hd fun o1 w1 m1 V1 cu h1 h2 h3=>by
  have gl:AH o1 w1 xb mb:=hx.chg h1.st.chg;have gA:=h1.vars hn;refine⟨DV h1.st.is gl (by rw[h1.st.hs];exact hnd) (by rw[h1.st.hs];exact hkf),?_⟩;have gx:SatF (ef V1 cu):=by
   rw[h3];exact⟨_,GI (Oe (fun p hp=>(g3 p hp).1) g8) fun _=>false⟩
  refine(Vv (Bwd:=fun _=>True) (T:=fun _=>False) (xb:=xb) Cn Vq (Vx (.inl rfl)) (fun _ _ h _=>h) Vy Vw h1.st.is h1.st.lt gl h1.st.ok gA trivial (fun q hq=>hq.elim) (h1.st.ext.ok hf) h2 gx).mono fun x w' hx=>?_
  have gk:P x w':=by
   rw[hP];rw[<- hQ] at hx;refine(AF.base h1 (WM _) hx).good fun d V' r hd hr=>?_
   show ef V' r=_
   rw[show ef V' r=_ from hr,h3,h1.st.ext.ef hf,hd];refine VD (fun p hp=>(g3 p hp).1) g8 fun p hp=>?_
   have h4:=g3 p hp;have h5:=hk.inv p.1.toNat (by rw[hn];omega);have h6:=hk.dag.lt p.1.toNat (by rw[hn];omega);rw[<- h5];rw[show m.d.vars.getD (levN m.d p.1.toNat) 0=m.d.vars[levN m.d p.1.toNat] by simp[List.getD,h6]];exact Xp _
  rcases hx.kind with ⟨r,rfl⟩|⟨er,evt,ev,rfl⟩
  . exact .inl ⟨r,rfl,gk⟩
  . exact .inr ⟨er,evt,ev,rfl,gk⟩
 rw[<- hQ,<- hP];clear hP hQ hm hlt hx hk hn hnd hkf hf hok hls ha hol hof g3 g8 cf
 delta Pt;go_enter func145,ntmps145
 go_wp2_with fail
 go_loopw [5,7,8,11] (fun s5 _ _ s11 wr=>∃ (j r:Nat) (o1:Own) (m1:ManD) (V1:Nat->BF),j<=ls.length/\s11=.int .i64 j/\s5=.int .i64 r/\Hq (AtC Av (j*Q) o w mb m V o1 wr m1 V1)/\Hq (okE (Aa m1.d) r/\ef V1 r=B4 (ls.take j))) (fun _ _ _ s11 _=>ls.length-(intOf s11).toNat)
 case atStart=>exact⟨0,0,o,m,V,WX _,rfl,rfl,gi,gw⟩
 case round =>
  clear gi gw cl;obtain⟨j,r,o1,m1,V1,hj,rfl,rfl,g4,HR⟩:=hrel
  by_cases hlt:j<ls.length
  ·have gC:(j:Int)<(ls.length:Int):=by omega
   obtain⟨b,off,rfl,d0,d1⟩:=(gH.o.step g4.o.st HA.o).cells j hlt;have gb:Hq (ls.take (j+1)=ls.take j++[ls[j]]):=Hd (WZ hlt);have g6:=Hd (gz.o _ (Xp hlt));have gv:=Hd (gj.o j hlt);obtain⟨p,hp⟩:=Ex (ls[j]);rw[<- hp] at d0 d1 gb g6;obtain⟨pv,py⟩:=p;dsimp only at d0 d1 gb g6;obtain⟨vn,gB⟩:∃ vn:Nat,pv=(vn:Int):=⟨pv.toNat,by have:=g6.o.1;omega⟩;subst gB;have gE:Hq (vn<n):=Hd (by have:=g6.o.2;omega);obtain⟨w2,ga⟩:=Ex (wr.alloc (.cells #[.int .i64 (vn:Nat),.bool py] 44));have gD:Hq (_=w2):=Hd ga.symm;have gd:Bw wr w2:=by rw[ga];exact Af _ _
   have g2:w2.heap[wr.heap.size]?=some (.cells #[.int .i64 (vn:Nat),.bool py] 44 (0,0)):=by rw[ga];exact WN _ _
   have g1:AtC Av (j*Q) o w mb m V o1 w2.drew m1 V1:=g4.o.below (gd.trans ((Ap w2 1).mono gd.size));have e0:w2.drew.cell? ⟨wr.heap.size,0,none⟩=some (.int .i64 (vn:Nat)):=(by simp[World.cell?,g2]:w2.cell? ⟨wr.heap.size,0,none⟩=some (.int .i64 (vn:Nat)));have e1:w2.drew.cell? ⟨wr.heap.size,1,none⟩=some (.bool py):=(by simp[World.cell?,g2]:w2.cell? ⟨wr.heap.size,1,none⟩=some (.bool py));have g7:o1 wr.heap.size=none:=g4.o.st.lt.none (WM _)
   have gt:Hq (Calls prog 117 #[Pt xb,.int .i64 vn,.int .i64 1,.int .i64 0] w2.drew fun e w'=>(∃ u,e=.returned u/\(w'.cell? ⟨wr.heap.size,0,none⟩=some (.int .i64 (vn:Nat))/\w'.cell? ⟨wr.heap.size,1,none⟩=some (.bool py))/\∃ (q:Nat) (o2:Own) (m2:ManD) (V2:Nat->BF),u=.int .i64 q/\AtC Av (j*Q+1) o w mb m V o2 w' m2 V2/\okE (Aa m2.d) q/\ef V2 q=varF vn/\okE (Aa m2.d) r/\ef V2 r=B4 (ls.take j))\/(∃ ch,e=.panicked ch/\P (.panicked ch) w')):=Hd ((SA Cn g1.st.is g1.st.lt (HX.o.chg g1.st.chg) g1.st.ok vn (by rw[g1.vars gq.o];exact gE.o)).mono (by
    rintro e w' (⟨q,o2,m2,V2,rfl,p1,p2,p3⟩|⟨er,evt,ev,rfl,g5⟩)
    . exact .inl ⟨_,rfl,⟨p1.st.chg.cell e0 g7,p1.st.chg.cell e1 g7⟩,q,o2,m2,V2,rfl,g1.trans p1,p2,p3,p1.st.ext.ok HR.o.1,by rw[p1.st.ext.ef HR.o.1];exact HR.o.2⟩
    . exact .inr ⟨_,rfl,gf.o _ _ _ _ _ _ _ _ _ g1 _ g5 (by have:=gv.o;omega)⟩))
   clear hp ga gd g2 g1 g7 g4 HR g6;go_upto_region 5 with fail;rw[gD.o];refine Dk [0,1,2,4,5,6,3,7,8] (fun W=>W.cell? ⟨wr.heap.size,0,none⟩=some (.int .i64 (vn:Nat))/\W.cell? ⟨wr.heap.size,1,none⟩=some (.bool py)) (fun ch w'=>P (.panicked ch) w') (fun c a w hd h=>⟨hd,h⟩) (by kernel_rfl) ⟨e0,e1⟩ ?_
   iterate 6
    refine BM rfl rfl (by kernel_rfl) ?_;apply Exists.intro;refine⟨fun w' hw=>?_,?_⟩
    . obtain⟨q1,q2⟩:=hw;go_simp;rfl
    simp only[Ac]
   refine Fu rfl (by kernel_rfl) rfl rfl (by go_simp) gt.o ?_;rintro u w3 gp ⟨q,o2,m2,V2,rfl,g9,gc,go,gn,gm⟩;have g0:=Hd g9;have gs:=Hd (show (okE (Aa m2.d) q/\ef V2 q=varF vn)/\okE (Aa m2.d) r/\ef V2 r=B4 (ls.take j) from ⟨⟨gc,go⟩,gn,gm⟩);have gr:=Hd gp;have gu:=Hd (Ch q (!py) w3 (DD g9.st.is gc));clear g9 gc go gn gm gp gt e0 e1;simp only[Ac];refine BG (R1:=fun u w'=>u=.int .i64 (eflip q (!py):Nat)/\w3=w') rfl (by kernel_rfl) rfl rfl (by go_simp) (gu.o.mono fun x w' h=>⟨_,h.1,rfl,h.2⟩) (by rintro u w' ⟨_,rfl⟩;exact gr.o) ?_;rintro u w'-⟨rfl,rfl⟩;simp only[Ac];refine BM rfl rfl (by kernel_rfl) ?_;apply Exists.intro;refine⟨fun w' hw=>?_,?_⟩
   . clear hw;go_simp;rfl
   simp only[Ac];refine Dl (by kernel_rfl) ?_
   have gg:Hq (Calls prog 119 #[Pt xb,.int .i64 r,.int .i64 (eflip q (!py):Nat),.int .i64 1] w3 fun e w'=>(∃ (r2:Nat) (o3:Own) (m3:ManD) (V3:Nat->BF),e=.returned (.int .i64 r2)/\Hq (AtC Av ((j+1)*Q) o w mb m V o3 w' m3 V3)/\Hq (okE (Aa m3.d) r2/\ef V3 r2=B4 (ls.take (j+1))))\/(∃ er evt ev,e=Au er evt ev/\P (Au er evt ev) w')):=Hd (by
    obtain⟨⟨h1,h2⟩,h3,h4⟩:=gs.o;refine(Mf Cn g0.o.st.is g0.o.st.lt (HX.o.chg g0.o.st.chg) g0.o.st.ok (g0.o.vars gq.o) r (eflip q (!py)) 1 h3 (Dc h1) (.inl rfl)).mono ?_;rw[<- HQ.o];rintro e w' (⟨r2,o3,m3,V3,rfl,p1,p2,p3⟩|⟨er,evt,ev,rfl,g5⟩)
    ·refine .inl ⟨r2,o3,m3,V3,rfl,Hd ((g0.o.trans p1).mono (by rw[XV,Nat.one_mul];omega)),Hd ⟨p2,?_⟩⟩;funext ρ;rw[show ef V3 r2=_ from p3,gb.o,VB,h4,VF,h2,show ef V2 1=fun _=>false from g0.o.st.ok.dag.ef1]
     show iteB (B4 (ls.take j) ρ) ((if (!py)=true then notF (varF vn) else varF vn) ρ) false=(B4 (ls.take j) ρ&&(ρ ((vn:Int)).toNat == py))
     rw[Y5];cases py<;>cases hc:B4 (ls.take j) ρ<;>cases hv:ρ vn<;>simp[iteB,notF,varF,hv]
    . exact .inr ⟨er,evt,ev,rfl,gf.o _ _ _ _ _ _ _ _ _ g0.o _ g5 (by have:=gv.o;omega)⟩)
   clear gu gr gs g0 gb;go_wp2_with fail;refine gg.o.mono ?_;rintro x w4 (⟨r2,o3,m3,V3,rfl,gy,gF⟩|⟨er,evt,ev,rfl,hp⟩)
   ·clear gg;go_wp2_with fail;go_roundw
    case rel=>exact⟨j+1,r2,o3,m3,V3,by omega,by go_num,rfl,gy,gF⟩
    case measure=>simp[intOf];omega
   . have HF:=Hd hp;clear hp gg;unfold Au;go_wp2_with fail;exact⟨rfl,HF.o⟩
  ·obtain rfl:j=ls.length:=by omega
   have gC:¬ (ls.length:Int)<(ls.length:Int):=by omega
   have hr:=HR.o;rw[Xx] at hr;have HE:=Hd (gh.o o1 wr m1 V1 r g4.o hr.1 hr.2);have gI:=Hd HE.o.1;have ge:=Hd HE.o.2;have cfr:=g4.o.st.chg.cell gJ.o gG.o.2;clear hr HE gh g4 HR;go_wp2_with fail;refine gI.o.mono ?_;rintro x w' ⟨rfl,rfl⟩;go_wp2_with fail;refine ge.o.mono ?_;rintro x w6 (⟨q,rfl,hp⟩|⟨er,evt,ev,rfl,hp⟩)
   . have HF:=Hd hp;clear hp ge;go_wp2_with fail;exact HF.o
   . have HF:=Hd hp;clear hp ge;unfold Au;go_wp2_with fail;exact⟨rfl,HF.o⟩
end
section
variable {o:Own}
theorem On {p:Int×Bool}(hp:p∈ls)(h:¬ (0<=p.1/\p.1<(n:Int))):AT n ls=9:=WO fun hh=>h (hh p hp)
theorem VH (h:SatE Av n (fun _=>True) room w0 mb fs nx w o m V)(hn6:n<=64)(hf:(kf,F)∈fs){a:Option Addr}(hls:Cd w a ls)(ha:ls≠[]->∀ x,a=some x->o x.block=none)(hst:m.waits <:+ ws0)(hn:nx<=549755813888)(hr:AT n ls=0->fs.length*2^n+(ls.length*2^n+(2^n-1)*2^n)<=room) :
 Calls prog 107 #[Pt mb,.int .i64 kf,.slice a ls.length c] w fun x w'=>(AT n ls=0->NewF Av n room w0 mb fs nx ws0 (CZ ls F) o w x w')/\(AT n ls≠0->x=.returned (.tuple #[.int .i64 0,.int .i64 (AT n ls)])/\Bw w w'):=by
 have gS:∀ (fn:Fn) (first cap:Array Value) (w:Wd),(Instr.makeFunc fn first cap).run prog w=.ok (.func fn first cap) w:=fun _ _ _ _=>rfl
 obtain⟨w2,gt,g1,gE,c0,c1⟩:=boxes2v w (.int .i64 kf) (.slice a ls.length c) 3 64;have gO:Hq (_=w2):=Hd gt.symm;obtain⟨w3,gg⟩:=Ex (w2.alloc (.cells #[.int .i64 kf] 3));have gN:Hq (_=w3):=Hd gg.symm;have g6:Bw w2 w3:=by rw[gg];exact Af _ _
 have hz:An w3 (some ⟨w2.heap.size,0,none⟩) [kf]:=by rw[gg];exact Eh w2 [kf] (by simp)
 have gD:=Hd (Vz (h.below (g1.trans (g6.mono g1.size))) (c:=1) hz (er:=0) (.inl ⟨rfl,fun k hk=>by simp at hk;subst hk;exact⟨F,hf⟩⟩));have gP:=Hd ((h.below (g1.trans (g6.mono g1.size))).vars_any);have HB2:=Hd g1;have gU:=Hd g6;have gT:=hls.len;obtain⟨P,hP⟩:=Ex (fun x w'=>(AT n ls=0->NewF Av n room w0 mb fs nx ws0 (CZ ls F) o w x w')/\(AT n ls≠0->x=.returned (.tuple #[.int .i64 0,.int .i64 (AT n ls)])/\Bw w w'):Ending->Wd->Prop)
 have g8:Hq (∀ er W,AT n ls=er->er≠0->Bw w2 W->P (.returned (.tuple #[.int .i64 0,.int .i64 er])) W):=Hd fun er W he g0 hb=>by
  rw[hP];exact⟨fun e=>absurd (by rw[<- he];exact e) g0,fun _=>⟨by rw[he],g1.trans (hb.mono g1.size)⟩⟩
 have gz:Hq (∀ W,Bw w2 W->AT n ls=0->Calls prog 115 #[Pt mb,.func (.func 145) #[] #[Pt (w.heap.size+1),Pt w.heap.size]] W fun x w'=>∃ p q,x=.returned (.tuple #[.int .i64 p,.int .i64 q])/\P x w'):=Hd fun W hb gn=>by
  have d0:=Cq hb c0;have d1:=Cq hb c1;have gp:=g1.trans (hb.mono g1.size)
  refine(Mz (K:=Av) (C:=fun q=>(q=w.heap.size+1\/q=w.heap.size)\/(ls≠[]/\(∃ x,a=some x/\q=x.block)/\w0.heap.size<=q)) (B:=fun W=>(W.cell? ⟨w.heap.size+1,0,none⟩=some (.slice a ls.length c)/\W.cell? ⟨w.heap.size,0,none⟩=some (.int .i64 kf))/\∀ x,ls≠[]->a=some x->w0.heap.size<=x.block->W.heap[x.block]?=w.heap[x.block]?) (F:=CZ ls F) (k:=ls.length*2^n+(2^n-1)*2^n) (lop:=#[.pointer (some ⟨w.heap.size+1,0,none⟩),.pointer (some ⟨w.heap.size,0,none⟩)]) Cn VE ws0
   (fun W W' hB hk=>⟨⟨Co hB.1.1 (hk _ (.inl (.inl rfl))),Co hB.1.2 (hk _ (.inl (.inr rfl)))⟩,fun x g0 hx hz=>(hk _ (.inr ⟨g0,⟨x,hx,rfl⟩,hz⟩)).trans (hB.2 x g0 hx hz)⟩)
   (fun o' W' m' V' xb hs' hB hC gF _=>?_) h gp (fun k hk=>?_) ⟨⟨d1,d0⟩,fun x g0 hx _=>gp.block _ (by subst hx;exact hls.lt g0)⟩ hst hn (hr gn)).mono ?_
  ·obtain⟨f,gu,gM⟩:=hs'.find hf;have gC:∀ x,ls≠[]->a=some x->W'.heap[x.block]?=w.heap[x.block]?:=fun x g0 hx=>by
    rcases Xe x.block w0.heap.size with hz|hz
    . exact(hs'.chg.below0.block _ hz).trans (h.chg.below0.block _ hz).symm
    . exact hB.2 x g0 hx hz
   have gi:=VG hs'.is hs'.lt gF hs'.ok.store hs'.vars hs'.ok.handles.nodup gu (hs'.ok.handles.ok _ gu) gn (hls.keep fun g0 x v hx o hc=>Co hc (gC x g0 hx)) (fun g0 x hx=>by
    rcases Xe x.block w0.heap.size with hz|hz
    . exact hs'.none0 hz
    . exact(hC _ (.inr ⟨g0,⟨x,hx,rfl⟩,hz⟩)).2) hB.1.1 hB.1.2 (hC _ (.inl (.inl rfl))).2 (hC _ (.inl (.inr rfl))).2
   rw[show ef V' f=F from gM] at gi;exact gi
  ·rcases hk with (rfl|rfl)|⟨g0,⟨x,hx,rfl⟩,hz⟩
   . exact⟨Ag d1,.inl (by omega)⟩
   . exact⟨Ag d0,.inl (WM _)⟩
   ·have gb:x.block<w.heap.size:=by subst hx;exact hls.lt g0
    exact⟨Xh gb gp.size,.inr ⟨hz,ha g0 x hx,fun W hW=>hW.2 x g0 hx hz⟩⟩
  . intro x w' hx;refine⟨nx,0,hx.1,?_⟩;rw[hP];exact⟨fun _=>hx,fun e=>absurd gn e⟩
 have gQ:Hq (Cd w2 a ls):=Hd (hls.below g1);have gm:w2.heap.size<=w3.heap.size:=g6.size;have c13:=Cq g6 c1;rw[<- hP];clear hP gt g1 gg hz h hf hls ha hst hn hr gE
 delta Pt;go_enter func107,ntmps107
 go_upto_region 1 with fail;rw[gO.o];go_wp2_with fail;rw[gN.o];refine gD.o.mono ?_;rintro x w' ⟨rfl,rfl⟩;go_wp2_with fail;refine gP.o.mono ?_;rintro x w' ⟨rfl,rfl⟩;go_wp2_with (at_make;refine DB Ed rfl _ _ rfl w2.heap.size w2 _ n rfl rfl rfl (by omega) gm g6 ?_;intro g w4 gh gq gH gI gL gK;have c14:=Cq gq c1;clear gK)
 have gy:Hq (OwnB w4 w2.heap.size (.slice (some ⟨g,0,none⟩) n n) (metL n (ls.take 0))):=Hd (by
  rw[Zi,Oj];unfold OwnB;simpa [AO] using gh)
 have gB:=Hd gq;clear gh gq gH gI g6 gm c13;go_wp2_with fail
 go_loopw [6,7,10,12,25] (fun _ _ s10 _ s25 wr=>∃ (j:Nat) (tw:Bool),j<=ls.length/\s25=.int .i64 j/\s10=.bool tw/\Hq (tw=false↔((ls.take j).map (·.1)).Nodup)/\Hq (OwnB wr w2.heap.size (.slice (some ⟨g,0,none⟩) n n) (metL n (ls.take j)))/\Hq (Bw w2 wr)/\Hq (∀ q,∀ hq:q<ls.length,q<j->0<=ls[q].1/\ls[q].1<(n:Int))) (fun _ _ _ _ s25 _=>ls.length-(intOf s25).toNat)
 case atStart=>exact⟨0,false,WX _,rfl,rfl,Hd (by simp),gy,gB,Hd fun q hq h=>by omega⟩
 case round =>
  clear gy gB;obtain⟨j,tw,hj,rfl,rfl,gc,g3,g2,gf⟩:=hrel
  by_cases gb:j<ls.length
  ·have gJ:(j:Int)<(ls.length:Int):=by omega
   obtain⟨b,off,rfl,d0,d1⟩:=(gQ.o.below g2.o).cells j gb;have gd:Hq (ls.take (j+1)=ls.take j++[ls[j]]):=Hd (WZ gb);have gk:=Hd (Xp gb);have g4:Hq (0<=ls[j].1->ls[j].1<(n:Int)->∀ q,∀ hq:q<ls.length,q<j+1->0<=ls[q].1/\ls[q].1<(n:Int)):=Hd fun h1 h2 q hq gR=>by
    rcases Xe q j with c|c
    . exact gf.o q hq c
    ·obtain rfl:q=j:=by omega
     exact⟨h1,h2⟩
   obtain⟨p,hp⟩:=Ex (ls[j]);rw[<- hp] at d0 d1 gd gk g4;obtain⟨pv,py⟩:=p;dsimp only at d0 d1 gd g4;obtain⟨w5,g9⟩:=Ex (wr.alloc (.cells #[.int .i64 pv,.bool py] 44));have gj:Hq (_=w5):=Hd g9.symm;have gv:Bw wr w5:=by rw[g9];exact Af _ _
   have g5:w5.heap[wr.heap.size]?=some (.cells #[.int .i64 pv,.bool py] 44 (0,0)):=by rw[g9];exact WN _ _
   have gl:Hq (Bw w2 w5):=Hd (g2.o.trans (gv.mono g2.o.size));have e0:w5.cell? ⟨wr.heap.size,0,none⟩=some (.int .i64 pv):=by simp[World.cell?,g5]
   have g7:Hq (OwnB w5 w2.heap.size (.slice (some ⟨g,0,none⟩) n n) (metL n (ls.take j))):=Hd (by rw[g9];exact g3.o.alloc _);clear hp g9 gv g5
   by_cases h0:pv<0
   . have HF:=Hd (g8.o 9 w5 (On gk.o (by dsimp only;omega)) (by decide) gl.o);clear g3 g2 g7;go_upto_region 9 with fail;rw[gj.o];go_wp2_with fail;exact HF.o
   by_cases h1:pv>=(n:Int)
   . have HF:=Hd (g8.o 9 w5 (On gk.o (by dsimp only;omega)) (by decide) gl.o);clear g3 g2 g7;go_upto_region 9 with fail;rw[gj.o];go_wp2_with fail;exact HF.o
   obtain⟨vn,gG⟩:∃ vn:Nat,pv=(vn:Int):=⟨pv.toNat,by omega⟩;subst gG;have ge:vn<n:=by omega
   have gw:=Hd (g4.o (by omega) (by omega));obtain⟨mt,go⟩:=Ex (decide ((vn:Int)∈(ls.take j).map (·.1)):Bool);have q0:w5.cell? ⟨g,vn,none⟩=some (.bool mt):=by
    rw[go,<- Oi (ls.take j) ge];exact g7.o.cellB vn (by rw[Oh];exact ge)
   have p0:=g7.o.frozen vn
   have gr:Hq ((tw||mt)=false↔((ls.take (j+1)).map (·.1)).Nodup):=Hd (by
    rw[gd.o,Xl,XJ,Zh,Om,<- gc.o,Bool.or_eq_false_iff,go,decide_eq_false_iff_not])
   have gx:Hq (OwnB (w5.setCell ⟨g,vn,none⟩ (.bool true)) w2.heap.size (.slice (some ⟨g,0,none⟩) n n) (metL n (ls.take (j+1)))):=Hd (by
    rw[gd.o,Ol _ ge];exact g7.o.setB vn true)
   have gA:Hq (Bw w2 (w5.setCell ⟨g,vn,none⟩ (.bool true))):=Hd (gl.o.setCell gL _);clear go gc g3 g2 gf g4 g7 gl gd gk;cases tw with
   | true =>
     go_upto_region 9 with fail;rw[gj.o];go_wp2_with fail;go_roundw
     case rel=>exact⟨j+1,true,by omega,by go_num,rfl,Hd (by have:=gr.o;simpa using this),gx,gA,gw⟩
     case measure=>simp[intOf];omega
   | false =>
     go_upto_region 9 with fail;rw[gj.o];go_wp2_with fail;go_roundw
     case rel=>exact⟨j+1,mt,by omega,by go_num,rfl,Hd (by have:=gr.o;simpa using this),gx,gA,gw⟩
     case measure=>simp[intOf];omega
  ·obtain rfl:j=ls.length:=by omega
   have gJ:¬ (ls.length:Int)<(ls.length:Int):=by omega
   have gs:Hq (∀ p∈ls,0<=p.1/\p.1<(n:Int)):=Hd fun p hp=>by
    obtain⟨q,hq,rfl⟩:=XX hp;exact gf.o q hq hq
   have ga:=gc.o;rw[Xx] at ga;cases tw with
   | true =>
     have HF:=Hd (g8.o 6 wr (by
      unfold AT;rw[WR gs.o,WO (fun e=>by have:=ga.2 e;cases this)]) (by decide) g2.o)
     clear ga gc g3;go_wp2_with fail;exact HF.o
   | false =>
     have HD:=Hd (gz.o wr g2.o (by
      unfold AT;rw[WR gs.o,WR (ga.1 rfl)]))
     clear ga gc g3 gz g8;go_wp2_with fail;refine HD.o.mono ?_;rintro x w' ⟨p,q,rfl,hp⟩;have HF:=Hd hp;clear hp HD;go_wp2_with fail;exact HF.o
end
section
variable {o:Own}
theorem VI (h:∀ p∈ls,0<=p.1/\p.1<(n:Int)):AT n ls=if (ls.map (·.1)).Nodup then 0 else 6:=by
 unfold AT;rw[WR h]
theorem VJ {p:Int×Bool}(hp:p∈ls)(h:¬ (0<=p.1/\p.1<(n:Int))):AT n ls=9:=WO fun hh=>h (hh p hp)
end
def noB (zs:List Int):List (Int×Bool):=zs.map fun z=>(z,false)
def chkE (n:Nat)(G:BF)(zs:List Int):Int:=if AT n (noB zs)=0 then cntE n G zs else AT n (noB zs)
theorem Oo (zs:List Int):(noB zs).map (·.1)=zs:=by
 unfold noB;rw[Y7];exact List.map_id _
theorem GJ (h:∀ z∈zs,0<=z/\z<(n:Int)):AT n (noB zs)=if zs.Nodup then 0 else 6:=by
 rw[VI (fun p hp=>by
  obtain⟨z,hz,rfl⟩:=WW.1 hp;exact h z hz),Oo]
theorem JM {z:Int}(hz:z∈zs)(h:¬ (0<=z/\z<(n:Int))):AT n (noB zs)=9:=VJ (p:=(z,false)) (WW.2 ⟨z,hz,rfl⟩) h
section
variable {o:Own}
theorem JN (h:SatE K n Od room w0 mb fs nx w o m V){k:Int}(hf:(k,G)∈fs){a:Option Addr}(hz:An w a zs) :
 Calls prog 90 #[Pt mb,.int .i64 k,.slice a zs.length c] w fun x w'=>∃ v,x=.returned (.tuple #[v,.int .i64 (chkE n G zs)])/\NatV w' v (if chkE n G zs=0 then cntV n G zs else 0)/\AskN K n Od room w0 mb fs nx m o w w' v:=by
 have gl:Hq (Calls prog 29 #[Pt mb,.int .i64 k] w (Sm (.bool true) w)):=Hd (Fy h k (b:=true) (by simp only[true_iff];exact⟨G,hf⟩))
 have gh:Hq (Calls prog 69 #[Pt mb] w (Sm (.int .i64 (n:Nat)) w)):=Hd (by
  have hv:=D7 h.is;rw[h.vars] at hv;exact hv)
 have hn64:n<=64:=by have:=h.ok.store.small;rw[h.vars] at this;exact this
 have hl:=hz.len;obtain⟨P,hP⟩:=Ex (fun x w'=>∃ v,x=.returned (.tuple #[v,.int .i64 (chkE n G zs)])/\NatV w' v (if chkE n G zs=0 then cntV n G zs else 0)/\AskN K n Od room w0 mb fs nx m o w w' v:Ending->Wd->Prop)
 have g2:Hq (∀ (er:Int) W,AT n (noB zs)=er->er≠0->Bw w W->P (.returned (.tuple #[.slice none 0 0,.int .i64 er])) W):=Hd fun er W he gf hb=>by
  have e:chkE n G zs=er:=by
   unfold chkE;rw[WO (by rw[he];exact gf)];exact he
  rw[hP];refine⟨.slice none 0 0,by rw[e],?_,AskN.of h hb 0⟩;rw[e,WO gf];exact DJ W
 have g9:Hq (∀ W,Bw w W->AT n (noB zs)=0->Calls prog 30 #[Pt mb,.int .i64 k,.slice a zs.length c] W fun x w'=>∃ v e,x=.returned (.tuple #[v,e])/\P (.returned (.tuple #[v,e])) w'):=Hd fun W hb gq=>by
  have e:chkE n G zs=cntE n G zs:=WR gq;refine(NW (h.below hb) hf (hz.below hb)).mono ?_;rintro x w' ⟨v,rfl,hv,ha⟩;refine⟨v,_,rfl,?_⟩;rw[hP];exact⟨v,by rw[e],by rw[e];exact hv,AskN.trans (ChgX.of_below hb o NoB) rfl rfl ha⟩
 have gv:Hq (An w a zs):=Hd hz;rw[<- hP];clear hP h hf hz
 delta Pt;go_enter func90,ntmps90
 go_wp2_with fail;refine gl.o.mono ?_;rintro x w' ⟨rfl,rfl⟩;go_wp2_with fail;refine gh.o.mono ?_;rintro x w' ⟨rfl,rfl⟩;go_wp2_with (at_make;refine DB Ed rfl _ _ rfl w.heap.size w _ n rfl rfl rfl (by omega) (WM _) (Xd _ _) ?_;intro g w4 ga gg gp gr gu gt;clear gt)
 have gk:Hq (OwnB w4 w.heap.size (.slice (some ⟨g,0,none⟩) n n) (metL n (noB (zs.take 0)))):=Hd (by
  rw[Zi]
  show OwnB w4 w.heap.size _ (metL n [])
  rw[Oj];unfold OwnB;simpa [AO] using ga)
 have gn:=Hd gg;clear ga gg gp gr gl gh;go_wp2_with fail
 go_loopw [6,7,9,11,25] (fun _ _ s9 _ s25 wr=>∃ (j:Nat) (tw:Bool),j<=zs.length/\s25=.int .i64 j/\s9=.bool tw/\Hq (tw=false↔(zs.take j).Nodup)/\Hq (OwnB wr w.heap.size (.slice (some ⟨g,0,none⟩) n n) (metL n (noB (zs.take j))))/\Hq (Bw w wr)/\Hq (∀ z∈zs.take j,0<=z/\z<(n:Int))) (fun _ _ _ _ s25 _=>zs.length-(intOf s25).toNat)
 case atStart=>exact⟨0,false,WX _,rfl,rfl,Hd (by simp),gk,gn,Hd (by simp)⟩
 case round =>
  clear gk gn;obtain⟨j,tw,hj,rfl,rfl,g4,g1,g0,g8⟩:=hrel
  by_cases gb:j<zs.length
  ·have gs:(j:Int)<(zs.length:Int):=by omega
   obtain⟨b,off,rfl,d0⟩:=(gv.o.below g0.o).cells j gb;have g5:Hq (zs.take (j+1)=zs.take j++[at0 zs j]):=Hd (by rw[YT,getElem?_at0 gb];rfl);have gc:Hq (at0 zs j∈zs):=Hd (by rw[AI gb];exact Xp gb);obtain⟨z,hz⟩:=Ex (at0 zs j);rw[<- hz] at d0 g5 gc;clear hz
   by_cases h0:z<0
   ·have HF:=Hd (g2.o 9 wr (JM gc.o (by omega)) (by decide) g0.o);clear g1 g0;go_wp2_with fail
    first|exact HF.o|exact Xc (X6 rfl _ _ _) rfl HF.o
   by_cases h1:z>=(n:Int)
   ·have HF:=Hd (g2.o 9 wr (JM gc.o (by omega)) (by decide) g0.o);clear g1 g0;go_wp2_with fail
    first|exact HF.o|exact Xc (X6 rfl _ _ _) rfl HF.o
   obtain⟨vn,go⟩:∃ vn:Nat,z=(vn:Int):=⟨z.toNat,by omega⟩;subst go;have g6:vn<n:=by omega
   have gi:Hq (∀ z∈zs.take (j+1),0<=z/\z<(n:Int)):=Hd fun z hz=>by
    rw[g5.o] at hz;rcases Xa.1 hz with e|e
    . exact g8.o z e
    . simp at e;subst e;omega
   obtain⟨mt,gd⟩:=Ex (decide ((vn:Int)∈zs.take j):Bool);have q0:wr.cell? ⟨g,vn,none⟩=some (.bool mt):=by
    have:=Oi (noB (zs.take j)) g6;rw[Oo] at this;rw[gd,<- this];exact g1.o.cellB vn (by rw[Oh];exact g6)
   have p0:=g1.o.frozen vn
   have ge:Hq ((tw||mt)=false↔(zs.take (j+1)).Nodup):=Hd (by
    rw[g5.o,Om,<- g4.o,Bool.or_eq_false_iff,gd,decide_eq_false_iff_not])
   have gj:Hq (OwnB (wr.setCell ⟨g,vn,none⟩ (.bool true)) w.heap.size (.slice (some ⟨g,0,none⟩) n n) (metL n (noB (zs.take (j+1))))):=Hd (by
    have e:noB (zs.take (j+1))=noB (zs.take j)++[((vn:Int),false)]:=by
     rw[g5.o];unfold noB;rw[Xl];rfl
    rw[e,Ol _ g6];exact g1.o.setB vn true)
   have gm:Hq (Bw w (wr.setCell ⟨g,vn,none⟩ (.bool true))):=Hd (g0.o.setCell gu _);clear gd g4 g1 g0 g8 g5 gc g9 g2;cases tw with
   | true =>
     go_wp2_with fail;go_roundw
     case rel=>exact⟨j+1,true,by omega,by go_num,rfl,Hd (by have:=ge.o;simpa using this),gj,gm,gi⟩
     case measure=>simp[intOf];omega
   | false =>
     go_wp2_with fail;go_roundw
     case rel=>exact⟨j+1,mt,by omega,by go_num,rfl,Hd (by have:=ge.o;simpa using this),gj,gm,gi⟩
     case measure=>simp[intOf];omega
  ·obtain rfl:j=zs.length:=by omega
   have gs:¬ (zs.length:Int)<(zs.length:Int):=by omega
   have g3:=g4.o;have g7:=g8.o;rw[Xx] at g3 g7;cases tw with
   | true =>
     have HF:=Hd (g2.o 6 wr (by rw[GJ g7,WO (fun e=>by have:=g3.2 e;cases this)]) (by decide) g0.o);clear g3 g4 g1;go_wp2_with fail
     first|exact HF.o|exact Xc (X6 rfl _ _ _) rfl HF.o
   | false =>
     have HD:=Hd (g9.o wr g0.o (by rw[GJ g7,WR (g3.1 rfl)]));clear g3 g4 g1 g9 g2;go_wp2_with fail;refine HD.o.mono ?_;rintro x w' ⟨v,e,rfl,hp⟩;have HF:=Hd hp;clear hp HD;go_wp2_with fail
     first|exact HF.o|exact Xc (X6 rfl _ _ _) rfl HF.o
end
def StF (K:Law)(n room:Nat)(w0:Wd)(mb:Nat)(fs:List (Int×BF))(nx:Int)(ws0:List Ev)(rs:List (Value×BF))(W:Wd):Prop:=∃ o m V,m.waits <:+ ws0/\SatE K n (fun _=>True) room w0 mb fs nx W o m V/\∀ p∈rs,LawF W o p.1 (tabB n p.2)
section
variable {o:Own}{rs:List (Value×BF)}
theorem StF.below (h:StF K n room w0 mb fs nx ws0 rs w)(hb:Bw w w'):StF K n room w0 mb fs nx ws0 rs w':=by
 obtain⟨o,m,V,h1,h2,h3⟩:=h;exact⟨o,m,V,h1,h2.below hb,fun p hp=>(h3 p hp).chg (CE hb o)⟩
theorem StF.below0 (h:StF K n room w0 mb fs nx ws0 rs w):Bw w0 w:=by
 obtain⟨o,m,V,h1,h2,_⟩:=h;exact h2.chg.below0
theorem StF.go {R:Ending->Prop}(h:StF K n room w0 mb fs nx ws0 rs w)(hc:∀ o m V,m.waits <:+ ws0->SatE K n (fun _=>True) room w0 mb fs nx w o m V->Calls prog f args w fun x w'=>R x/\Goes K n (fun _=>True) room w0 mb fs' nx' (W2 (SufW ws0)) o w w') :
 Calls prog f args w fun x w'=>R x/\StF K n room w0 mb fs' nx' ws0 rs w':=by
 obtain⟨o,m,V,h1,h2,h3⟩:=h;refine(hc o m V h1 h2).mono ?_;rintro x w' ⟨q1,o',m',V',q2,q3,q4⟩;exact⟨q1,o',m',V',q3,q4,fun p hp=>(h3 p hp).chg q2⟩
theorem StF.ask {R:Ending->Wd->Prop}(h:StF K n room w0 mb fs nx ws0 rs w)(hc:∀ o m V,SatE K n (fun _=>True) room w0 mb fs nx w o m V->Calls prog f args w R):Calls prog f args w R:=by
 obtain⟨o,m,V,_,h2,_⟩:=h;exact hc o m V h2
theorem StF.of (hw:m.waits <:+ ws0)(h:SatE K n (fun _=>True) room w0 mb fs nx w o m V)(hr:∀ p∈rs,LawF w o p.1 (tabB n p.2)):StF K n room w0 mb fs nx ws0 rs w:=⟨o,m,V,hw,h,hr⟩
end
def FxS (K:Law)(n room:Nat)(w0:Wd)(mb:Nat)(ws0:List Ev)(C:Nat->Prop)(o0:Own)(wb:Wd)(B:Wd->Own->Prop)(fs:List (Int×BF))(nx:Int)(W:Wd):Prop :=
 ∃ o m V,ChgX C o0 o wb W/\m.waits <:+ ws0/\SatE K n (fun _=>True) room w0 mb fs nx W o m V/\B W o
def Cp (B:Wd->Own->Prop):Prop:=∀ W o W' o',B W o->ChgX NoB o o' W W'->B W' o'
theorem NoB.sub {s:Nat}:∀ k,k<s->NoB k->C k:=fun _ _ e=>e.elim
section
variable {wb:Wd}{r:List (Int×BF)}{o0:Own}{B:Wd->Own->Prop}{k l:Int}
theorem FxS.below (hB:Cp B)(h:FxS K n room w0 mb ws0 C o0 wb B fs nx W)(hb:Bw W w'):FxS K n room w0 mb ws0 C o0 wb B fs nx w':=by
 obtain⟨o,m,V,h1,h2,h3,h4⟩:=h;exact⟨o,m,V,h1.trans (ChgX.of_below hb o NoB) NoB.sub,h2,h3.below hb,hB _ _ _ _ h4 (ChgX.of_below hb o NoB)⟩
theorem FxS.new (hB:Cp B)(h:FxS K n room w0 mb ws0 C o0 wb B fs nx W)(hc:∀ o m V,m.waits <:+ ws0->SatE K n (fun _=>True) room w0 mb fs nx W o m V->Calls prog f args W (NewF K n room w0 mb fs nx ws0 F o W)) :
 Calls prog f args W fun x w'=>x=.returned (.tuple #[.int .i64 nx,.int .i64 0])/\FxS K n room w0 mb ws0 C o0 wb B (fs++[(nx,F)]) (nx+1) w':=by
 obtain⟨o,m,V,h1,h2,h3,h4⟩:=h;refine(hc o m V h2 h3).mono ?_;rintro x w' ⟨q1,o',m',V',q2,q3,q4⟩;exact⟨q1,o',m',V',h1.trans q2 NoB.sub,q3,q4,hB _ _ _ _ h4 q2⟩
theorem FxS.copy (hK:A5 K)(hB:Cp B)(h:FxS K n room w0 mb ws0 C o0 wb B fs nx W)(hn:nx<549755813888)(hk:(k,F)∈fs) :
 Calls prog 62 #[Pt mb,.int .i64 k] W fun x w'=>x=.returned (.tuple #[.int .i64 nx,.int .i64 0])/\FxS K n room w0 mb ws0 C o0 wb B (fs++[(nx,F)]) (nx+1) w':=by
 refine h.new hB fun o m V hw hs=>((LR hK hs hn hk).mono ?_)
 rintro x w' ⟨q1,o',m',hh⟩;exact⟨q1,o',m',V,ChgX.of_chg hh.chg NoB,by rw[hh.waits];exact hw,hh.sat⟩
theorem FxS.drop1 (hK:A5 K)(hB:Cp B)(hb:B2 fs)(h:FxS K n room w0 mb ws0 C o0 wb B (fs++((k,F)::r)) nx W)(hn:nx<549755813888){T:Wd}(hT:T=W.alloc (.cells #[.int .i64 k] 3)) :
 Calls prog 65 #[Pt mb,.slice (some ⟨W.heap.size,0,none⟩) 1 1] T fun x w'=>x=.returned (.int .i64 0)/\FxS K n room w0 mb ws0 C o0 wb B (fs++r) nx w':=by
 subst hT;have g1:∀ o m V,SatE K n (fun _=>True) room w0 mb (fs++([(k,F)]++r)) nx W o m V->o W.heap.size=none:=fun o m V hs=>hs.lt.none (WM _)
 obtain⟨o,m,V,h1,h2,h3,h4⟩:=h;have g0:=Af W (.cells #[.int .i64 k] 3);refine(Mc (c:=1) (hs:=[(k,F)]) (r:=r) hK (h3.below g0) hb hn (a:=some ⟨W.heap.size,0,none⟩) (Eh W [k] (by simp)) (fun x hx=>by cases hx;exact h3.lt.none (WM _))).mono ?_;rintro x w' ⟨q1,o',m',hh⟩;have hc:=(ChgX.of_below g0 o NoB).trans (ChgX.of_chg hh.chg NoB) NoB.sub;exact⟨q1,o',m',V,h1.trans hc NoB.sub,by rw[hh.waits];exact h2,hh.sat,hB _ _ _ _ h4 hc⟩
end
def stG (G:BF)(vs:List Nat)(ds:List Bool):Nat->BF
 | 0=>G
 | i+1=>cofF (stG G vs ds i) (vs.getD i 0) (ds.getD i false)
def numI (G:BF)(vs:List Nat)(ds:List Bool)(i:Nat):Nat:=(allL (vs.drop (i+1)) (cofF (stG G vs ds i) (vs.getD i 0) false)).length
theorem GK (h:i<vs.length):vs.drop i=vs.getD i 0::vs.drop (i+1):=by
 rw[X2 h];simp[List.getD,h]
theorem Oq {G:BF}{vs:List Nat}(ds:List Bool)(h:BY vs G):∀ i,i<=vs.length->BY (vs.drop i) (stG G vs ds i)
 | 0,_=>h
 | i+1,hi=>by
   have ih:=Oq ds h i (by omega);rw[GK (by omega)] at ih;exact ih.cof _
structure ChoC (Inv:Nat->Wd->Own->Prop)(C:Nat->Prop)(cg:Nat)(lop:Array Value)(ds:List Bool)(N:Nat->Nat)(g:Nat):Prop where
 enters:∀ args w,(callFunc cg args).run prog w=.ok (.enter cg args) w
 set:∀ j W o (i:Nat) (y:Bool),Inv j W o->Inv j (W.setCell ⟨g,i,none⟩ (.bool y)) o
 keep:∀ j,Cp (Inv j)
 no:∀ j W o,Inv j W o->∀ k,C k->o k=none
 call:∀ j,j<ds.length->∀ W o v,Ab o W->g<W.heap.size->Inv j W o->NatV W v (N j)->(∀ q,v.ownBlock=some q->o q=none) ->
  Calls prog cg (#[.int .i64 (j:Nat),v]++lop) W fun x w'=>x=.returned (.bool (ds.getD j false))/\Wr C W w'/\Inv (j+1) w' o
structure DesB (Inv:Nat->Wd->Own->Prop)(base:Nat)(a:Option Addr)(zs:List Int)(g:Nat)(bs:List Bool)(j:Nat)(W:Wd)(o:Own):Prop where
 inv:Inv j W o
 z:An W a zs
 zo:zs≠[]->∀ x,a=some x->o x.block=none
 l:OwnB W base (.slice (some ⟨g,0,none⟩) bs.length bs.length) bs
 lo:o g=none
theorem An.sameN {a:Option Addr}(h:An W a zs)(hk:zs≠[]->∀ x,a=some x->x.block<W.heap.size->W'.heap[x.block]?=W.heap[x.block]?):An W' a zs :=
 ⟨h.len,fun k hk2=>by
  obtain⟨b,off,e,hc⟩:=h.cells k hk2;exact⟨b,off,e,Co hc (hk (fun e=>by subst e;simp at hk2) ⟨b,off,none⟩ e (Ag (p:=⟨b,off+k,none⟩) hc))⟩⟩
theorem An.blk {x:Addr}(h:An W (some x) zs)(hz:zs≠[]):x.block<W.heap.size:=by
 obtain⟨b,off,e,hc⟩:=h.cells 0 (YY.2 hz);cases e;exact Ag hc
section
variable {Inv:Nat->Wd->Own->Prop}{cg:Nat}{ds:List Bool}{N:Nat->Nat}{base:Nat}{a:Option Addr}
theorem DesB.keepB (hc:ChoC Inv C cg lop ds N g)(j:Nat):Cp (DesB Inv base a zs g bs j):=fun W o W' o' h hx =>
 ⟨hc.keep j _ _ _ _ h.inv hx,h.z.sameN fun hne x hx' hlt=>hx.block _ hlt (h.zo hne x hx') (fun e=>e),fun hne x hx'=>by
  subst hx';exact hx.none' (h.z.blk hne) (h.zo hne x rfl),
 h.l.same fun k hk=>hx.block k (h.l.lt k hk).2 (by cases hk;exact h.lo) (fun e=>e),hx.none' (h.l.lt g rfl).2 h.lo⟩
variable {wb:Wd}{o0:Own}{B B':Wd->Own->Prop}
theorem FxS.wrS {D:Nat->Prop}(h:FxS K n room w0 mb ws0 C o0 wb B fs nx W)(hw:Wr D W W')(hDC:∀ k,D k->C k\/wb.heap.size<=k)(hs0:∀ k,D k->w0.heap.size<=k)(hno:∀ o,B W o->∀ k,D k->o k=none)(hB:∀ o,Ab o W->B W o->B' W' o):FxS K n room w0 mb ws0 C o0 wb B' fs nx W':=by
 obtain⟨o,m,V,h1,h2,h3,h4⟩:=h;exact⟨o,m,V,h1.trans (ChgX.of_wr (C:=D) hw o (fun _ _ q=>q)) (fun k hk q=>(hDC k q).resolve_right (by omega)),h2,h3.other hw (fun k _ q=>⟨hs0 k q,hno o h4 k q⟩),hB o h3.lt h4⟩
theorem FxS.askN {R:Ending->Value->Prop}(hB:Cp B)(h:FxS K n room w0 mb ws0 C o0 wb B fs nx W)(hc:∀ o m V,SatE K n (fun _=>True) room w0 mb fs nx W o m V->Calls prog f args W fun e w'=>∃ v,R e v/\NatV w' v x/\AskN K n (fun _=>True) room w0 mb fs nx m o W w' v) :
 Calls prog f args W fun e w'=>∃ v,R e v/\NatV w' v x/\FxS K n room w0 mb ws0 C o0 wb (fun W o=>B W o/\∀ q,v.ownBlock=some q->o q=none) fs nx w':=by
 obtain⟨o,m,V,h1,h2,h3,h4⟩:=h;refine(hc o m V h3).mono ?_;rintro e w' ⟨v,q1,q2,o',m',V',q3,q4,_,q6,q7⟩;exact⟨v,q1,q2,o',m',V',h1.trans q3 NoB.sub,by rw[q4];exact h2,q6,hB _ _ _ _ h4 q3,q7⟩
theorem FxS.cho (hc:ChoC Inv C cg lop ds N g)(hj:j<ds.length)(h:FxS K n room w0 mb ws0 C o0 wb (fun W o=>DesB Inv base a zs g bs j W o/\∀ q,v.ownBlock=some q->o q=none) fs nx W)(hv:NatV W v (N j))(hC0:∀ k,C k->w0.heap.size<=k)(hCg:¬ C g)(hCa:zs≠[]->∀ x,a=some x->¬ C x.block) :
 Calls prog cg (#[.int .i64 (j:Nat),v]++lop) W fun x w'=>x=.returned (.bool (ds.getD j false))/\FxS K n room w0 mb ws0 C o0 wb (DesB Inv base a zs g bs (j+1)) fs nx w':=by
 obtain⟨o,m,V,h1,h2,h3,h4,h5⟩:=h;refine(hc.call j hj W o v h3.lt (h4.l.lt g rfl).2 h4.inv hv h5).mono ?_;rintro x w' ⟨q1,q2,q3⟩;refine⟨q1,o,m,V,h1.trans (ChgX.of_wr (C:=C) q2 o (fun _ _ q=>q)) (fun _ _ q=>q),h2,h3.other q2 (fun k _ q=>⟨hC0 k q,hc.no j W o h4.inv k q⟩),q3,h4.z.sameN fun g0 x hx g1=>q2.keep _ g1 (hCa g0 x hx),h4.zo,h4.l.same fun k hk=>q2.keep k (h4.l.lt k hk).2 (by cases hk;exact hCg),h4.lo⟩
theorem FxS.setL (hc:ChoC Inv C cg lop ds N g)(h:FxS K n room w0 mb ws0 C o0 wb (DesB Inv base a zs g bs j) fs nx W){y:Bool}(hwb:wb.heap.size<=g)(hw0:w0.heap.size<=g)(hga:zs≠[]->∀ x,a=some x->x.block≠g):FxS K n room w0 mb ws0 C o0 wb (DesB Inv base a zs g (bs.set i y) j) fs nx (W.setCell ⟨g,i,none⟩ (.bool y)) :=
 h.wrS (D:=(· = g)) ((Wr.refl (· = g) W).setCell (p:=⟨g,i,none⟩) (.inl rfl) (.bool y)) (fun k e=>.inr (by subst e;exact hwb)) (fun k e=>by subst e;exact hw0) (fun o hb k e=>by subst e;exact hb.lo) fun o _ hb =>
  ⟨hc.set _ _ _ _ _ hb.inv,hb.z.sameN fun hne x hx hlt=>((Wr.refl (· = g) W).setCell (p:=⟨g,i,none⟩) (.inl rfl) (.bool y)).keep _ hlt (fun e=>hga hne x hx e),hb.zo,by rw[Xi];exact hb.l.setB i y,hb.lo⟩
theorem FxS.cof1 (hB:Cp B)(h:FxS Av n room w0 mb ws0 C o0 wb B fs nx W)(hn6:n<=64)(hf:(kf,F)∈fs){v:Nat}{y:Bool}(hv:v<n)(hn:nx<=549755813888)(hr:fs.length*2^n+(2^n+(2^n-1)*2^n)<=room){T:Wd}(hT:T=W.alloc (.cells #[.int .i64 v,.bool y] 44)) :
 Calls prog 107 #[Pt mb,.int .i64 kf,.slice (some ⟨W.heap.size,0,none⟩) 1 1] T fun x w'=>x=.returned (.tuple #[.int .i64 nx,.int .i64 0])/\FxS Av n room w0 mb ws0 C o0 wb B (fs++[(nx,cofF F v y)]) (nx+1) w':=by
 subst hT;have hb:=Af W (.cells #[.int .i64 v,.bool y] 44);have g0:=WN W (.cells #[.int .i64 v,.bool y] 44);obtain⟨o,m,V,h1,h2,h3,h4⟩:=h;have g1:AT n [((v:Int),y)]=0:=by
  unfold AT;rw[WR (by intro p hp;simp at hp;subst hp;dsimp only;omega),WR (by simp)]
 refine(VH (ls:=[((v:Int),y)]) (h3.below hb) hn6 hf (c:=1) ⟨by simp,fun k hk=>?_⟩ (fun _ x hx=>by cases hx;exact h3.lt.none (WM _)) h2 hn (fun _=>by simpa using hr)).mono ?_
 ·obtain rfl:k=0:=by simpa using hk
  exact⟨W.heap.size,0,rfl,by rw[WQ _ _ 0 _ _ _ g0];rfl,by rw[WQ _ _ 1 _ _ _ g0];rfl⟩
 ·rintro x w' ⟨hx,_⟩;obtain⟨q1,o',m',V',q2,q3,q4⟩:=hx g1;have e:CZ [((v:Int),y)] F=cofF F v y:=by
   have:=VA [] ((v:Int),y) F;rw[XK] at this;rw[this]
   show cofF (CZ [] F) ((v:Int)).toNat y=_
   rw[Y5];rfl
  have hc:=(ChgX.of_below hb o NoB).trans q2 NoB.sub;exact⟨q1,o',m',V',h1.trans hc NoB.sub,q3,by rw[<- e];exact q4,hB _ _ _ _ h4 hc⟩
end
def CI (ds:List Bool)(L i:Nat):List Bool:=ds.take i++(List.replicate L false).drop i
theorem JO {ds:List Bool}{L:Nat}(hd:ds.length=L)(hi:i<=L):(CI ds L i).length=L:=by unfold CI;simp;omega
theorem VK {ds:List Bool}{L:Nat}(hd:ds.length=L)(hi:i<L):(CI ds L i).set i (ds.getD i false)=CI ds L (i+1):=SH (by simp;omega) (by omega) (by simp[List.getD,show i<ds.length by omega])
theorem VL {ds:List Bool}{L:Nat}(hd:ds.length=L)(hi:i<L):(CI ds L (i+1)).getD i false=ds.getD i false:=by
 unfold CI;rw[List.getD,Xj (by simp;omega),List.getElem?_take_of_lt (by omega)];rfl
theorem VM {ds:List Bool}{L:Nat}(hd:ds.length=L):CI ds L L=ds:=by unfold CI;rw[Xn (by omega),Yw (by simp),Yd]
theorem VN {l:Nat}(h1:lo<=l)(h2:l<=c)(w:Wd):(Instr.sliceAt 22 (.slice (some ⟨b,off,none⟩) l c) (some (.int .i64 (lo:Nat))) none none).run prog w=.ok (.slice (some ⟨b,if c-lo=0 then off else off+lo,none⟩) (l-lo) (c-lo)) w:=by
 have e1:(0:Int)<=lo/\(lo:Int)<=l:=by omega
 have e2:(0:Int)<=l/\(l:Int)<=c:=by omega
 have e3:(0:Int)<=c/\(c:Int)<=c:=by omega
 simp only[Instr.sliceAt,Instr.slice];go_simp
 by_cases e:c=lo
 . rw[WR e,WR (by omega)]
 . rw[WO e,WO (by omega)]
theorem VO {o:Oper}(hgd:o.guard=none)(s x:Operand)(ho:o.op=.slice 22 s (some x) none none)
 {b off l c i:Nat} {z:Int} (hs:a.eval s=.slice (some ⟨b,off,none⟩) l c) (hx:a.eval x=.int .i64 z) (hz:z=((i:Nat):Int)) (h1:i<=l) (h2:l<=c)
 (h:∀ off2 c2,(c-i=0/\off2=off/\c2=0)\/(c-i≠0/\off2=off+i/\c2=c-i)->wpList prog ops Q rest (a.put o.dst (.slice (some ⟨b,off2,none⟩) (l-i) c2)) w) :
 wpList prog ops Q (o::rest) a w:=by
 subst hz;have g0:=VN (b:=b) (off:=off) h1 h2 w;refine wpList_plain hgd fun K g1=>?_
 have he:(execOp a.eval o).run prog w=.ok (.value (.slice (some ⟨b,if c-i=0 then off else off+i,none⟩) (l-i) (c-i))) w:=by
  unfold execOp;simp[ho,hs,hx,g0]
 unfold Oper.wp;rw[he];refine g1 _ _ ?_
 by_cases e:c-i=0
 . rw[WR e,e];exact h _ _ (.inl ⟨e,rfl,rfl⟩)
 . rw[WO e];exact h _ _ (.inr ⟨e,rfl,rfl⟩)
theorem An.from (h:An W (some ⟨b,off,none⟩) zs)(hc:zs.length<=c):An W (some ⟨b,if c-lo=0 then off else off+lo,none⟩) (zs.drop lo) :=
 ⟨by have:=h.len;rw[Zr];omega,fun k hk=>by
  rw[Zr] at hk;obtain⟨b',off',e,hc'⟩:=h.cells (lo+k) (by omega);cases e;refine⟨b,off+lo,by rw[WO (by omega)],?_⟩;rw[Yx,hc'];unfold at0;simp[List.getD,Y0]⟩
def intL (vs:List Nat):List Int:=vs.map fun v:Nat=>(v:Int)
theorem DK (vs:List Nat):(intL vs).length=vs.length:=by unfold intL;rw[Xy]
theorem Ot (h:i<vs.length):at0 (intL vs) i=((vs.getD i 0:Nat):Int):=by
 unfold at0 intL;simp[List.getD,h]
theorem VP (vs:List Nat)(k:Nat):(intL vs).drop k=intL (vs.drop k):=by unfold intL;rw[List.map_drop]
section
variable {o:Own}{Inv:Nat->Nat->Wd->Own->Prop}{cg:Nat}{ds:List Bool}
theorem JP (h:SatE Av n (fun _=>True) room w0 mb fs nx w o m V)(hst:m.waits <:+ ws0)(hB2:B2 fs)(hf:(kf,G)∈fs){a:Option Addr}(hz:An w a (intL vs))(hcap:vs.length<=c)(hza:intL vs≠[]->∀ x,a=some x->o x.block=none/\¬ C x.block)
 (hc:∀ g,w.heap.size<=g->ChoC (Inv g) C cg lop ds (numI G vs ds) g) (hi:∀ g,w.heap.size<=g->Inv g 0 w o) (hds:ds.length=vs.length) (hC:∀ k,C k->w0.heap.size<=k/\k<w.heap.size) (hnod:vs.Nodup) (hlt:∀ v∈vs,v<n) (hon:BY vs G) (hL:vs.length<=64) (hn:nx+200<549755813888) (hr:(fs.length+1)*2^n+(2^n+(2^n-1)*2^n)<=room) :
 Calls prog 92 #[Pt mb,.int .i64 kf,.slice a vs.length c,.func (.func cg) #[] lop] w fun x w'=>∃ g nx' base,x=.returned (.tuple #[.slice (some ⟨g,0,none⟩) vs.length vs.length,.int .i64 0])/\w.heap.size<=g/\nx<=nx'/\nx'<=nx+200/\FxS Av n room w0 mb ws0 C o w (DesB (Inv g) base a (intL vs) g ds vs.length) fs nx' w':=by
 have hn64:n<=64:=by have:=h.ok.store.small;rw[h.vars] at this;exact this
 obtain⟨L,g3⟩:=Ex vs.length;obtain⟨B0,ga⟩:=Ex (fun W o=>(∀ g,w.heap.size<=g->Inv g 0 W o)/\An W a (intL vs)/\(intL vs≠[]->∀ x,a=some x->o x.block=none):Wd->Own->Prop)
 have gl:Cp B0:=by
  rw[ga];rintro W o1 W' o2 ⟨h1,h2,h3⟩ hx
  exact⟨fun g hg=>(hc g hg).keep 0 _ _ _ _ (h1 g hg) hx,h2.sameN fun g1 x gb gE=>hx.block _ gE (h3 g1 x gb) (fun e=>e),fun g1 x gb=>by
   subst gb;exact hx.none' (h2.blk g1) (h3 g1 x rfl)⟩
 have gA:FxS Av n room w0 mb ws0 C o w B0 fs nx w:=⟨o,m,V,ChgX.of_below (Xd _ _) o C,hst,h,by rw[ga];exact⟨hi,hz,fun g1 x hx=>(hza g1 x hx).1⟩⟩;have gD:=Hd (gA.copy Cn gl (by omega) hf);obtain⟨St,g9⟩:=Ex (fun g base i p nx' W=>FxS Av n room w0 mb ws0 C o w (DesB (Inv g) base a (intL vs) g (CI ds L i) i) (fs++[(p,stG G vs ds i)]) nx' W/\nx<=nx'/\nx'<=nx+1+2*(i:Int):Nat->Nat->Nat->Int->Int->Wd->Prop)
 have gn:Hq (∀ w1 w2 g,FxS Av n room w0 mb ws0 C o w B0 (fs++[(nx,G)]) (nx+1) w1->Bw w1 w2->OwnC 4 w2 w1.heap.size (.slice (some ⟨g,0,none⟩) L L) (List.replicate L (.bool false))->w1.heap.size<=g->w.heap.size<=g/\St g w1.heap.size 0 nx (nx+1) w2):=by
  rw[g9];refine Hd fun w1 w2 g h1 h2 h3 h4=>?_
  obtain⟨o1,m1,V1,q1,q2,q3,q4⟩:=h1;have gJ:o1 g=none:=q3.lt.none h4;have gt:w.heap.size<=g:=WU q1.size h4;have hx:=ChgX.of_below h2 o1 NoB;have q5:=gl _ _ _ _ q4 hx;rw[ga] at q5;refine⟨gt,⟨o1,m1,V1,q1.trans hx NoB.sub,q2,q3.below h2,q5.1 g gt,q5.2.1,q5.2.2,?_,gJ⟩,by omega,by omega⟩;rw[JO (by omega) (WX _)];unfold CI;unfold OwnB;simpa [AO] using h3
 have gB:∀ g,w.heap.size<=g->¬ C g:=fun g hg e=>by have:=(hC g e).2;omega
 have h0:w0.heap.size<=w.heap.size:=h.chg.size;have gs:∀ g,w.heap.size<=g->intL vs≠[]->∀ x,a=some x->x.block≠g:=fun g hg g1 x hx e=>by
  subst hx;have:=hz.blk g1;omega
 have go:Hq (∀ g base i p nx' W,St g base i p nx' W->w.heap.size<=g->i<L->∃ b off,a=some ⟨b,off,none⟩/\W.cell? ⟨b,off+i,none⟩=some (.int .i64 ((vs.getD i 0:Nat):Int)) /\
  Calls prog 107 #[Pt mb,.int .i64 p,.slice (some ⟨W.heap.size,0,none⟩) 1 1] (W.alloc (.cells #[.int .i64 ((vs.getD i 0:Nat):Int),.bool false] 44)) fun x w1=>x=.returned (.tuple #[.int .i64 nx',.int .i64 0]) /\
   ∀ w1',Bw w1 w1'->∀ off2 c2,(c-(i+1)=0/\off2=off/\c2=0)\/(c-(i+1)≠0/\off2=off+(i+1)/\c2=c-(i+1))->Calls prog 30 #[Pt mb,.int .i64 nx',.slice (some ⟨b,off2,none⟩) (L-(i+1)) c2] w1' fun x w2=>∃ v,x=.returned (.tuple #[v,.int .i64 0]) /\
    Calls prog cg (#[.int .i64 (i:Nat),v]++lop) w2 fun x w3=>x=.returned (.bool (ds.getD i false))/\w3.frozen? ⟨g,i,none⟩=false/\(∃ b0,w3.cell? ⟨g,i,none⟩=some (.bool b0)) /\
     ∀ w4,w4=w3.setCell ⟨g,i,none⟩ (.bool (ds.getD i false))->w4.cell? ⟨g,i,none⟩=some (.bool (ds.getD i false)) /\
      (ds.getD i false=false->∀ T,T=w4.alloc (.cells #[.int .i64 p] 3)->Calls prog 65 #[Pt mb,.slice (some ⟨w4.heap.size,0,none⟩) 1 1] T fun x w5=>x=.returned (.int .i64 0)/\St g base (i+1) nx' (nx'+1) w5) /\
      (ds.getD i false=true->∀ T,T=w4.alloc (.cells #[.int .i64 nx'] 3)->Calls prog 65 #[Pt mb,.slice (some ⟨w4.heap.size,0,none⟩) 1 1] T fun x w5=>x=.returned (.int .i64 0) /\
       Calls prog 107 #[Pt mb,.int .i64 p,.slice (some ⟨w5.heap.size,0,none⟩) 1 1] (w5.alloc (.cells #[.int .i64 ((vs.getD i 0:Nat):Int),.bool true] 44)) fun x w6=>x=.returned (.tuple #[.int .i64 (nx'+1),.int .i64 0]) /\
        ∀ T,T=w6.alloc (.cells #[.int .i64 p] 3)->Calls prog 65 #[Pt mb,.slice (some ⟨w6.heap.size,0,none⟩) 1 1] T fun x w7=>x=.returned (.int .i64 0)/\St g base (i+1) (nx'+1) (nx'+2) w7)):=by
  rw[g9];refine Hd fun g base i p nx' W hs hg gi=>?_
  obtain⟨hs,gI,gH⟩:=hs;have gk:=hc g hg;have hK:∀ j bs,Cp (DesB (Inv g) base a (intL vs) g bs j):=fun j bs=>DesB.keepB gk j
  have g8:i<vs.length:=by omega
  have gG:vs.getD i 0∈vs:=by simp[List.getD,g8]
  have gc:=hlt _ gG;have gv:∀ j bs X nx'' W,FxS Av n room w0 mb ws0 C o w (DesB (Inv g) base a (intL vs) g bs j) X nx'' W->∃ b off,a=some ⟨b,off,none⟩/\W.cell? ⟨b,off+i,none⟩=some (.int .i64 ((vs.getD i 0:Nat):Int)):=fun j bs X nx'' W hh=>by
   obtain⟨_,_,_,_,_,_,hd⟩:=hh;obtain⟨b,off,e,g0⟩:=hd.z.cells i (by rw[DK];exact g8);rw[Ot g8] at g0;exact⟨b,off,e,g0⟩
  obtain⟨b,off,ea,g0⟩:=gv _ _ _ _ _ hs;refine⟨b,off,ea,g0,?_⟩;have g7:(fs++[(p,stG G vs ds i)]).length=fs.length+1:=by simp
  refine(hs.cof1 (hK _ _) hn64 (kf:=p) (F:=stG G vs ds i) (by simp) (v:=vs.getD i 0) (y:=false) gc (by omega) (by rw[g7];exact hr) rfl).mono ?_;rintro x w1 ⟨rfl,h1⟩;refine⟨rfl,fun w1' hb1 off2 c2 gh=>?_⟩;have gm:=h1.below (hK _ _) hb1;obtain⟨b',off',ea',gQ⟩:=gv _ _ _ _ _ gm;obtain⟨rfl,rfl⟩:b'=b/\off'=off:=by rw[ea] at ea';cases ea';exact⟨rfl,rfl⟩
  have gf:=Oq ds hon i (by omega);rw[GK g8] at gf;have gg:=gf.cof false;have gO:(vs.drop (i+1)).Nodup:=hnod.sublist (List.drop_sublist _ _);have gw:∀ v∈vs.drop (i+1),v<n:=fun v hv=>hlt v (List.mem_of_mem_drop hv)
  have gF:An w1' (some ⟨b',off2,none⟩) (intL (vs.drop (i+1))):=by
   obtain⟨_,_,_,_,_,_,hd⟩:=gm;have hh:=hd.z;rw[ea] at hh;have:=hh.from (lo:=i+1) (c:=c) (by rw[DK];exact hcap)
   rw[VP] at this;rcases gh with ⟨e1,e2,_⟩|⟨e1,e2,_⟩
   . rw[WR e1] at this;rw[e2];exact this
   . rw[WO e1] at this;rw[e2];exact this
  have gR:cntE n (cofF (stG G vs ds i) (vs.getD i 0) false) (intL (vs.drop (i+1)))=0:=Vl gw gg;have gS:L-(i+1)=(intL (vs.drop (i+1))).length:=by rw[DK,Zr,g3]
  rw[gS];refine(gm.askN (R:=fun e v=>e=.returned (.tuple #[v,.int .i64 0])) (x:=numI G vs ds i) (hK _ _) (fun o2 m2 V2 g5=>?_)).mono ?_
  . have gj:=NW g5 (k:=nx') (G:=cofF (stG G vs ds i) (vs.getD i 0) false) (by simp) (c:=c2) gF;rw[gR] at gj;refine gj.mono ?_;rintro x w2 ⟨v,r1,r2,r3⟩;refine⟨v,r1,?_,r3⟩;rw[WR rfl] at r2;have e:=NX (g5.dep (k:=nx') (F:=cofF (stG G vs ds i) (vs.getD i 0) false) (by simp)) gO gw gg;unfold numI;rw[<- e];exact r2
  ·rintro x w2 ⟨v,rfl,hv,h2⟩;refine⟨v,rfl,?_⟩;refine(h2.cho gk (by omega) hv (fun k hk=>(hC k hk).1) (gB g hg) (fun g1 x hx=>(hza g1 x hx).2)).mono ?_;rintro x w3 ⟨rfl,h3⟩;have gY:(CI ds L i).length=L:=JO (by omega) (by omega);have gy:w3.frozen? ⟨g,i,none⟩=false/\∃ b0,w3.cell? ⟨g,i,none⟩=some (.bool b0):=by
    obtain⟨_,_,_,_,_,_,hd⟩:=h3;exact⟨hd.l.frozen i,_,hd.l.cellB i (by omega)⟩
   refine⟨rfl,gy.1,gy.2,?_⟩;rintro w4 rfl;have h4:=h3.setL gk (i:=i) (y:=ds.getD i false) hg (by omega) (gs g hg);rw[VK (by omega) gi] at h4;refine⟨?_,fun hd T hT=>?_,fun hd T hT=>?_⟩
   . obtain⟨_,_,_,_,_,_,gP⟩:=h4;rw[gP.l.cellB i (by rw[JO (by omega) (by omega)];exact gi)];congr 2;rw[VL (by omega) gi]
   ·have g2:=FxS.drop1 Cn (hK _ _) hB2 (k:=p) (F:=stG G vs ds i) (r:=[(nx',cofF (stG G vs ds i) (vs.getD i 0) false)]) (by rw[Xf] at h4;exact h4) (by omega) hT;refine g2.mono ?_;rintro x w5 ⟨r1,r2⟩;refine⟨r1,?_,by omega,by omega⟩
    show FxS _ _ _ _ _ _ _ _ _ _ (fs++[(nx',cofF (stG G vs ds i) (vs.getD i 0) (ds.getD i false))]) _ _
    rw[hd];exact r2
   ·have g2:=FxS.drop1 Cn (hK _ _) (hB2.app [(p,stG G vs ds i)]) (k:=nx') (F:=cofF (stG G vs ds i) (vs.getD i 0) false) (r:=[]) h4 (by omega) hT;refine g2.mono ?_;rintro x w5 ⟨r1,r2⟩;rw[Yd] at r2;refine⟨r1,(r2.cof1 (hK _ _) hn64 (kf:=p) (F:=stG G vs ds i) (by simp) (v:=vs.getD i 0) (y:=true) gc (by omega) (by rw[g7];exact hr) rfl).mono ?_⟩;rintro x w6 ⟨rfl,h6⟩;refine⟨rfl,fun T hT=>?_⟩;have g2:=FxS.drop1 Cn (hK _ _) hB2 (k:=p) (F:=stG G vs ds i) (r:=[(nx'+1,cofF (stG G vs ds i) (vs.getD i 0) true)]) (by rw[Xf] at h6;exact h6) (by omega) hT;refine g2.mono ?_;rintro x w7 ⟨r1,r2⟩;refine⟨r1,?_,by omega,by omega⟩
    show FxS _ _ _ _ _ _ _ _ _ _ (fs++[(nx'+1,cofF (stG G vs ds i) (vs.getD i 0) (ds.getD i false))]) _ _
    rw[hd,show nx'+2=nx'+1+1 by omega];exact r2
 obtain⟨P,hP⟩:=Ex (fun x w'=>∃ g nx' base,x=.returned (.tuple #[.slice (some ⟨g,0,none⟩) vs.length vs.length,.int .i64 0])/\w.heap.size<=g/\nx<=nx'/\nx'<=nx+200/\FxS Av n room w0 mb ws0 C o w (DesB (Inv g) base a (intL vs) g ds vs.length) fs nx' w':Ending->Wd->Prop)
 have g4:Hq (∀ g base p nx' W,St g base L p nx' W->w.heap.size<=g->∀ T,T=W.alloc (.cells #[.int .i64 p] 3)->Calls prog 65 #[Pt mb,.slice (some ⟨W.heap.size,0,none⟩) 1 1] T fun x w5=>x=.returned (.int .i64 0)/\P (.returned (.tuple #[.slice (some ⟨g,0,none⟩) L L,.int .i64 0])) w5):=by
  rw[g9,hP];refine Hd fun g base p nx' W hs hg T hT=>?_
  obtain⟨hs,gI,gH⟩:=hs;have hK:∀ j bs,Cp (DesB (Inv g) base a (intL vs) g bs j):=fun j bs=>DesB.keepB (hc g hg) j
  refine(FxS.drop1 Cn (hK _ _) hB2 (r:=[]) hs (by omega) hT).mono ?_;rintro x w5 ⟨r1,r2⟩;rw[Yd,VM (by omega)] at r2;refine⟨r1,g,nx',base,by rw[g3],hg,by omega,by omega,?_⟩;rw[<- g3];exact r2
 have eg:=(hc w.heap.size (WM _)).enters;rw[<- hP,<- g3];have gZ:L<=c:=by omega
 have gT:L<=64:=by omega
 clear hP g9 ga gA hc hi hC hnod hlt hon hz hza hf h hst hds gl gs gB hr g3 hcap
 delta Pt;go_enter func92,ntmps92
 go_wp2_with fail;refine gD.o.mono ?_;rintro x w1 ⟨rfl,h1⟩;have H1:=Hd h1;clear h1 gD;go_wp2_with (at_make;refine DB Ed rfl _ _ rfl w1.heap.size w1 _ L rfl rfl rfl (by omega) (WM _) (Xd _ _) ?_;intro g w2 g6 gz g5 gK gN gM;clear gM);have HS:=Hd (gn.o w1 w2 g H1.o gz g6 gN);clear H1 gn g6 gz g5 gK;go_wp2_with fail
 go_loopw [8,9,10,13,14,15,16,17,32] (fun _ _ s10 _ _ _ _ _ s32 wr=>∃ (i:Nat) (p nx':Int),i<=L/\s32=.int .i64 (i:Int)/\s10=.int .i64 p/\Hq (St g w1.heap.size i p nx' wr)) (fun _ _ _ _ _ _ _ _ s32 _=>L-(intOf s32).toNat)
 case atStart=>exact⟨0,nx,nx+1,WX _,rfl,rfl,Hd HS.o.2⟩
 case round =>
  obtain⟨i,p,nx',hi,rfl,rfl,HI⟩:=hrel;have HG:=Hd HS.o.1;clear HS
  by_cases hlt:i<L
  ·have gL:(i:Int)<(L:Int):=by omega
   obtain⟨b,off,ea,g0,hq⟩:=go.o g w1.heap.size i p nx' wr HI.o HG.o hlt;subst ea;obtain⟨vi,gu⟩:=Ex (((vs.getD i 0:Nat):Int):Int);rw[<- gu] at g0 hq;have HQ:=Hd hq;clear hq gu go g4 HI;go_wp2_with fail;refine HQ.o.mono ?_;rintro x wA ⟨rfl,hq⟩;have gr:=Hd hq;obtain⟨d,hd⟩:=Ex (ds.getD i false);rw[<- hd] at gr;clear hq HQ g0;go_wp2_with (refine VO rfl _ _ rfl rfl rfl (i:=i+1) (by omega) (by omega) (by omega) ?_;intro off2 c2 gh);refine(gr.o _ (Xd _ _) _ _ gh).mono ?_;rintro x wB ⟨v,rfl,hq⟩;have gC:=Hd hq;clear hq gr;go_wp2_with fail;refine gC.o.mono ?_;rintro x wC ⟨rfl,gU,⟨b0,gX⟩,hq⟩;obtain⟨gV,ge,gd⟩:=hq _ rfl;rw[World.size_setCell] at ge gd;have gq:=Hd ge;have gp:=Hd gd;clear hq ge gd gC hd;cases d with
   | false =>
     have HD:=Hd (gq.o rfl _ rfl);clear gq gp;go_wp2_with fail;refine HD.o.mono ?_;rintro x w5 ⟨rfl,hst⟩;have HN:=Hd hst;clear hst HD;go_wp2_with fail;go_roundw
     case rel =>
      exact⟨i+1,nx',nx'+1,by omega,by go_num,rfl,HN⟩
     case measure=>simp[intOf];omega
   | true =>
     have HD:=Hd (gp.o rfl _ rfl);clear gq gp;go_wp2_with fail;refine HD.o.mono ?_;rintro x w5 ⟨rfl,gx⟩;have HC:=Hd gx;clear gx HD;go_wp2_with fail;refine HC.o.mono ?_;rintro x w6 ⟨rfl,g2⟩;have HD:=Hd (g2 _ rfl);clear g2 HC;go_wp2_with fail;refine HD.o.mono ?_;rintro x w7 ⟨rfl,hst⟩;have HN:=Hd hst;clear hst HD;go_wp2_with fail;go_roundw
     case rel=>exact⟨i+1,nx'+1,nx'+2,by omega,by go_num,rfl,HN⟩
     case measure=>simp[intOf];omega
  ·obtain rfl:i=L:=by omega
   have gL:¬ (i:Int)<(i:Int):=by omega
   have HD:=Hd (g4.o g w1.heap.size p nx' wr HI.o HG.o _ rfl);clear go g4 HI;go_wp2_with fail;refine HD.o.mono ?_;rintro x w5 ⟨rfl,hp⟩;have HF:=Hd hp;clear hp HD;go_wp2_with fail
   first|exact HF.o|exact Xc (X6 rfl _ _ _) rfl HF.o
end
def rkI (G:BF)(vs:List Nat)(ds:List Bool)(k:Nat):Nat->Nat
 | 0=>k
 | i+1=>if ds.getD i false then rkI G vs ds k i-numI G vs ds i else rkI G vs ds k i
def ahI (G:BF)(vs:List Nat)(ds:List Bool):Nat->Nat
 | 0=>0
 | i+1=>if ds.getD i false then ahI G vs ds i+numI G vs ds i else ahI G vs ds i
section
variable {ds:List Bool}
abbrev Zo:=@Option.map_eq_some_iff
theorem JQ (h:(allL vs G)[k]?=some ds):∀ i,i<=vs.length->(allL (vs.drop i) (stG G vs ds i))[rkI G vs ds k i]?=some (ds.drop i)
 | 0,_=>h
 | i+1,hi=>by
   have ih:=JQ h i (by omega);rw[GK (by omega)] at ih;have ea:allL (vs.getD i 0::vs.drop (i+1)) (stG G vs ds i)=(allL (vs.drop (i+1)) (cofF (stG G vs ds i) (vs.getD i 0) false)).map (false :: ·)++(allL (vs.drop (i+1)) (cofF (stG G vs ds i) (vs.getD i 0) true)).map (true :: ·):=rfl;have hd:∀ b t,ds.drop i=b::t->ds.getD i false=b/\ds.drop (i+1)=t:=fun b t e=>by
    have h0:(ds.drop i)[0]?=some b:=by rw[e];rfl
    rw[Y0] at h0;refine⟨by rw[List.getD];rw[Y6] at h0;rw[h0];rfl,?_⟩;rw[<- List.drop_drop,e];rfl
   rw[ea] at ih
   show (allL (vs.drop (i+1)) (cofF (stG G vs ds i) (vs.getD i 0) (ds.getD i false)))[if ds.getD i false then rkI G vs ds k i-numI G vs ds i else rkI G vs ds k i]?=_
   unfold numI;rcases Xe (rkI G vs ds k i) (allL (vs.drop (i+1)) (cofF (stG G vs ds i) (vs.getD i 0) false)).length with g0|g1
   . rw[Xj (by rw[Xy];exact g0),XC] at ih;obtain⟨t,e1,e2⟩:=Zo.1 ih;obtain⟨q1,q2⟩:=hd _ _ e2.symm;rw[q1,q2,WO (by simp)];exact e1
   . rw[Xu (by rw[Xy];exact g1),XC,Xy] at ih;obtain⟨t,e1,e2⟩:=Zo.1 ih;obtain⟨q1,q2⟩:=hd _ _ e2.symm;rw[q1,q2,WR rfl];exact e1
theorem JR (h:(allL vs G)[k]?=some ds)(hi:i<vs.length):ds.getD i false=decide (numI G vs ds i<=rkI G vs ds k i):=by
 have ih:=JQ h i (by omega);rw[GK (by omega)] at ih;have ea:allL (vs.getD i 0::vs.drop (i+1)) (stG G vs ds i)=(allL (vs.drop (i+1)) (cofF (stG G vs ds i) (vs.getD i 0) false)).map (false :: ·)++(allL (vs.drop (i+1)) (cofF (stG G vs ds i) (vs.getD i 0) true)).map (true :: ·):=rfl;have hd:∀ b t,ds.drop i=b::t->ds.getD i false=b:=fun b t e=>by
  have h0:(ds.drop i)[0]?=some b:=by rw[e];rfl
  rw[Y0] at h0;rw[List.getD];rw[Y6] at h0;rw[h0];rfl
 rw[ea] at ih;unfold numI;rcases Xe (rkI G vs ds k i) (allL (vs.drop (i+1)) (cofF (stG G vs ds i) (vs.getD i 0) false)).length with g1|g0
 . rw[Xj (by rw[Xy];exact g1),XC] at ih;obtain⟨t,e1,e2⟩:=Zo.1 ih;rw[hd _ _ e2.symm,X8 (by omega)]
 . rw[Xu (by rw[Xy];exact g0),XC,Xy] at ih;obtain⟨t,e1,e2⟩:=Zo.1 ih;rw[hd _ _ e2.symm,XA g0]
theorem Ou:∀ i,rkI G vs ds 0 i=0
 | 0=>rfl
 | i+1=>by
   show (if ds.getD i false then rkI G vs ds 0 i-numI G vs ds i else rkI G vs ds 0 i)=0
   rw[Ou i];split<;>simp
theorem JS (h:(allL vs G)[k]?=some ds):∀ i,i<=vs.length->ahI G vs ds i+rkI G vs ds k i=k
 | 0,_=>by show 0+k=k;omega
 | i+1,hi=>by
   have ih:=JS h i (by omega);have hdc:=JR h (show i<vs.length by omega)
   show (if ds.getD i false then ahI G vs ds i+numI G vs ds i else ahI G vs ds i)+(if ds.getD i false then rkI G vs ds k i-numI G vs ds i else rkI G vs ds k i)=k
   cases hb:ds.getD i false with
   | true =>
     rw[hb] at hdc;have:=YR hdc.symm;rw[WR rfl,WR rfl];omega
   | false=>simpa using ih
theorem VQ (h:(allL vs G)[k]?=some ds):ahI G vs ds vs.length=k:=by
 have h1:=JS h vs.length (WM _);have h2:=JQ h vs.length (WM _);rw[Yw (WM _)] at h2;have ea:allL [] (stG G vs ds vs.length)=if stG G vs ds vs.length (fun _=>false) then [[]] else []:=rfl
 rw[ea] at h2;have:rkI G vs ds k vs.length=0:=by
  split at h2
  ·rcases Nat.eq_zero_or_pos (rkI G vs ds k vs.length) with e|e
   . exact e
   . rw[Xb (by show 1<=_;omega)] at h2;cases h2
  . simp at h2
 omega
theorem Dm (h:(allL vs G)[k]?=some ds):ds.length=vs.length:=((Fz vs G ds).1 (List.mem_of_getElem? h)).1
end
end Go.Proofs.YtgmbklaolcmljaaGreat
