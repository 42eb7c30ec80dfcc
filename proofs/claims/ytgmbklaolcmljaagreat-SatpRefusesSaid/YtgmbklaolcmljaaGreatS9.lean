/- Several texts in one file: contracts of the program's functions and what follows from them. -/
import Derived.Test.YtgmbklaolcmljaaGreatS8
import Derived.Deep.Slices
import Derived.ChangeArms
import Derived.WideShapes
import Derived.ChangeSlices
set_option linter.unusedSimpArgs false
set_option linter.unusedVariables false
set_option linter.unusedSectionVars false
set_option linter.unnecessarySimpa false
set_option maxRecDepth 100000
set_option maxHeartbeats 8000000
namespace Go.Proofs.YtgmbklaolcmljaaGreat
open Go.Proofs.Tryz
open Go.RowKit
variable {C:Nat->Prop}{G:BF}{K:Law}{Od:List Nat->Prop}{P:Program}{V:Nat->BF}{W W' W1 w w' w0 w1:Wd}{args:Array Value}{b bf bl bn c f fuel g j k kb mb n off room x y:Nat}{bs:List Bool}{cs:List Value}{fs fs':List (Int×BF)}{held:Bool}{kf nx nx':Int}{lv u v:Value}{m:ManD}{o' o1:Own}{spare:Nat->Bool}{t:TypeId}{vs:List Nat}{ws0:List Ev}{zs:List Int}
theorem VR (h:∀ z∈zs,0<=z/\z<(n:Int)):zs=intL (zs.map Int.toNat):=by
 unfold intL;rw[Y7];refine(List.map_id _).symm.trans (List.map_congr_left fun z hz=>?_);have:=h z hz
 show z=((z.toNat:Nat):Int)
 omega
theorem VS (h:(intL vs).Nodup):vs.Nodup:=by
 unfold intL at h;exact(Yh.1 h).imp fun g0 e=>g0 (by rw[e])
theorem GL (hd:DepF n G)(h:chkE n G zs=0):∃ vs,zs=intL vs/\vs.Nodup/\(∀ v∈vs,v<n)/\BY vs G/\vs.length<=n/\cntV n G zs=(allL vs G).length:=by
 unfold chkE at h
 by_cases hl:AT n (noB zs)=0
 ·rw[WR hl] at h;have hr:∀ z∈zs,0<=z/\z<(n:Int):=fun z hz=>X9 fun hc=>by
   rw[JM hz hc] at hl;cases hl
  rw[GJ hr] at hl;have g4:zs.Nodup:=X9 fun hc=>by rw[WO hc] at hl;cases hl
  obtain⟨vs,g3⟩:=Ex (zs.map Int.toNat);have e:=VR hr;rw[<- g3] at e;have g0:vs.Nodup:=VS (by rw[<- e];exact g4);have g1:∀ v∈vs,v<n:=fun v hv=>by
   have:=hr (v:Int) (by rw[e];exact WW.2 ⟨v,hv,rfl⟩);omega
  have g2:BY vs G:=Vm hd (by rw[e] at h;exact h);refine⟨vs,e,g0,g1,g2,CD n vs g0 g1,?_⟩;rw[e];exact NX hd g0 g1 g2
 . rw[WO hl] at h;exact absurd h hl
def SpP (n room:Nat)(w0:Wd)(mb:Nat)(fs:List (Int×BF))(nx:Int)(ws0:List Ev)(o:Own)(w:Wd)(Φ:Wd->Own->Prop)(w':Wd):Prop :=
 ∃ nx' o' m' V',nx<=nx'/\nx'<=nx+200/\ChgX NoB o o' w w'/\m'.waits <:+ ws0/\SatE Av n (fun _=>True) room w0 mb fs nx' w' o' m' V'/\Φ w' o'
theorem JT :(digD x).length=0↔x=0:=by
 constructor
 ·intro h;refine X9 fun hx=>?_
  rw[CX hx] at h;simp at h
 . rintro rfl;rw[BH];rfl
theorem VT (h:NatV w v x)(z:Int):Calls prog 110 #[.int .i64 z,v] w (Sm (.bool (decide (x=0))) w):=by
 obtain⟨a,c,rfl,_,_,_⟩:=h;have hl:=JT (x:=x);obtain⟨l,g0⟩:=Ex ((digD x).length);rw[<- g0] at hl ⊢
 have HB:Hq (((l:Int) == 0)=decide (x=0)):=Hd (by
  by_cases e:x=0
  . rw[XA e,beq_iff_eq];have:=hl.2 e;omega
  . rw[X8 e,Yu];intro c;exact e (hl.1 (by omega)))
 clear g0 hl
 go_enter func110,ntmps110
 go_wp2_with fail;go_ret;exact⟨by rw[<- HB.o];rfl,rfl⟩
theorem Ov (args:Array Value)(w:Wd):(callFunc 110 args).run prog w=.ok (.enter 110 args) w:=XY func110 (by kernel_rfl) rfl args w
theorem VU {ds:List Bool}(h:(allL vs G)[0]?=some ds)(g:Nat):ChoC (fun _ _ _=>True) (fun _=>False) 110 #[] ds (numI G vs ds) g :=
 ⟨Ov,fun _ _ _ _ _ _=>trivial,fun _ _ _ _ _ _ _=>trivial,fun _ _ _ _ _ e=>e.elim,fun j hj W o v _ _ _ hv _=>(VT hv _).mono fun x w' hx=>by
  obtain⟨rfl,rfl⟩:=hx;rw[Dm h] at hj;have e:decide (numI G vs ds j=0)=ds.getD j false:=by
   rw[JR h hj,Ou];exact decide_eq_decide.2 Nat.le_zero.symm
  exact⟨by rw[e],Wr.refl _ _,trivial⟩⟩
section
variable {o:Own}
def Ow (n:Nat)(G:BF)(zs:List Int)(e:Int)(v:Value)(W:Wd)(o:Own):Prop :=
 (chkE n G zs≠0/\e=chkE n G zs/\v=.slice none 0 0)\/(chkE n G zs=0/\∃ vs,zs=intL vs/\((allL vs G=[]/\e=20/\v=.slice none 0 0)\/(∃ ds,(allL vs G)[0]?=some ds/\e=0/\AS W v ds/\∀ q,v.ownBlock=some q->o q=none)))
theorem SpP.ask {Φ:Wd->Own->Prop}(hw:m.waits <:+ ws0)(h:AskN Av n (fun _=>True) room w0 mb fs nx m o w w1 v)(hp:∀ o',Φ w1 o'):SpP n room w0 mb fs nx ws0 o w Φ w1:=by
 obtain⟨o',m',V',h1,h2,_,h4,_⟩:=h;exact⟨nx,o',m',V',Int.le_refl _,by omega,h1,by rw[h2];exact hw,h4,hp o'⟩
theorem VW (h:SatE Av n (fun _=>True) room w0 mb fs nx w o m V)(hst:m.waits <:+ ws0)(hB2:B2 fs)(hf:(kf,G)∈fs){a:Option Addr}(hz:An w a zs)(hcap:zs.length<=c)(hza:zs≠[]->∀ x,a=some x->o x.block=none)(hn:nx+200<549755813888)(hr:(fs.length+1)*2^n+(2^n+(2^n-1)*2^n)<=room) :
 Calls prog 50 #[Pt mb,.int .i64 kf,.slice a zs.length c] w fun x w'=>∃ v e,x=.returned (.tuple #[v,.int .i64 e])/\SpP n room w0 mb fs nx ws0 o w (Ow n G zs e v) w':=by
 have hn64:n<=64:=by have:=h.ok.store.small;rw[h.vars] at this;exact this
 have HCK:=Hd (JN h hf (c:=c) hz);obtain⟨P,hP⟩:=Ex (fun x w'=>∃ v e,x=.returned (.tuple #[v,.int .i64 e])/\SpP n room w0 mb fs nx ws0 o w (Ow n G zs e v) w':Ending->Wd->Prop)
 have g4:Hq (∀ w1 v,AskN Av n (fun _=>True) room w0 mb fs nx m o w w1 v->chkE n G zs≠0->P (.returned (.tuple #[.slice none 0 0,.int .i64 (chkE n G zs)])) w1):=by
  rw[hP];exact Hd fun w1 v ha he=>⟨_,_,rfl,SpP.ask hst ha fun o'=>.inl ⟨he,rfl,rfl⟩⟩
 have g2:Hq (∀ w1 v,AskN Av n (fun _=>True) room w0 mb fs nx m o w w1 v->chkE n G zs=0->cntV n G zs=0->P (.returned (.tuple #[.slice none 0 0,.int .i64 20])) w1):=by
  rw[hP];refine Hd fun w1 v ha he ga=>?_
  obtain⟨vs,e1,_,_,_,_,e2⟩:=GL (h.dep hf) he;rw[ga] at e2;exact⟨_,_,rfl,SpP.ask hst ha fun o'=>.inr ⟨he,vs,e1,.inl ⟨Zf.1 e2.symm,rfl,rfl⟩⟩⟩
 have g3:Hq (∀ w1 v,AskN Av n (fun _=>True) room w0 mb fs nx m o w w1 v->chkE n G zs=0->cntV n G zs≠0->Calls prog 92 #[Pt mb,.int .i64 kf,.slice a zs.length c,.func (.func 110) #[] #[]] w1 fun x w'=>∃ v' e',x=.returned (.tuple #[v',e'])/\P (.returned (.tuple #[v',e'])) w'):=by
  rw[hP];refine Hd fun w1 v ha he ga=>?_
  obtain⟨vs,e1,ge,gi,gd,gk,e2⟩:=GL (h.dep hf) he;obtain⟨ds,g5⟩:∃ ds,(allL vs G)[0]?=some ds:=⟨(allL vs G)[0]'(by omega),WS _⟩;obtain⟨o1,m1,V1,q1,q2,_,q4,_⟩:=ha;have gc:An w1 a (intL vs):=by
   rw[<- e1];exact hz.sameN fun g6 x hx gb=>q1.block _ gb (hza g6 x hx) (fun e=>e)
  have gh:zs.length=vs.length:=by rw[e1,DK]
  rw[gh]
  refine(JP (Inv:=fun _ _ _ _=>True) (C:=fun _=>False) (ds:=ds) (lop:=#[]) q4 (by rw[q2];exact hst) hB2 hf gc (by omega) (fun g6 x hx=>⟨by
   subst hx;exact q1.none' (hz.blk (by rw[e1];exact g6)) (hza (by rw[e1];exact g6) x rfl),fun e=>e⟩) (fun g _=>VU g5 g) (fun _ _=>trivial) (Dm g5) (fun _ e=>e.elim) ge gi gd (by omega) hn hr).mono ?_
  rintro x w' ⟨g,nx',base,rfl,_,gg,gf,o2,m2,V2,r1,r2,r3,r4⟩;refine⟨_,_,rfl,_,_,rfl,nx',o2,m2,V2,gg,gf,q1.trans (ChgX.mk r1.os r1.tape r1.output r1.size (fun k hk gj _=>r1.block k hk gj (fun e=>e)) r1.ext r1.new) NoB.sub,r2,r3,.inr ⟨he,vs,e1,.inr ⟨ds,g5,rfl,?_,fun q hq=>by cases hq;exact r4.lo⟩⟩⟩;have:=r4.l.boolsIs (by rw[Dm g5];omega);rw[Dm g5] at this;exact this
 rw[<- hP];clear hP h hf hz hza hst hB2 hr;have eg:=Ov
 delta Pt;go_enter func50,ntmps50
 go_wp2_with fail;refine HCK.o.mono ?_;rintro x w1 ⟨v,rfl,hv,g8⟩;have g0:=Hd g8;clear g8 HCK;obtain⟨E,hE⟩:=Ex (chkE n G zs)
 by_cases he:E=0
 ·have g1:chkE n G zs=0:=by rw[<- hE];exact he
  rw[WR g1] at hv;obtain⟨av,cv,rfl,_,_,_⟩:=hv
  by_cases h0:cntV n G zs=0
  ·have HF:=Hd (g2.o w1 _ g0.o g1 h0);rw[g1];have g7:(digD (cntV n G zs)).length=0:=JT.2 h0;rw[g7];clear g2 g4 g3 g0 hE he g1 h0 g7;go_wp2_with fail
   first|exact HF.o|exact Xc (X6 rfl _ _ _) rfl HF.o
  ·have HD:=Hd (g3.o w1 _ g0.o g1 h0);rw[g1];obtain⟨l,g9⟩:=Ex ((digD (cntV n G zs)).length);have g7:¬ (l:Int)=0:=fun e=>h0 (JT.1 (by omega))
   rw[<- g9];clear g2 g4 g3 g0 hE he g1 h0 g9;go_wp2_with fail;refine HD.o.mono ?_;rintro x w' ⟨v',e',rfl,hp⟩;have HF:=Hd hp;clear hp HD;go_wp2_with fail
   first|exact HF.o|exact Xc (X6 rfl _ _ _) rfl HF.o
 ·have HF:=Hd (g4.o w1 v g0.o (by rw[<- hE];exact he));rw[<- hE] at HF ⊢;clear g2 g4 g3 g0 hE hv;go_wp2_with fail
  first|exact HF.o|exact Xc (X6 rfl _ _ _) rfl HF.o
end
theorem NatV.blk (h:NatV w v x)(hx:x≠0){q:Nat}(hq:v.ownBlock=some q):q<w.heap.size:=by
 obtain⟨a,c,rfl,_,_,hu⟩:=h;have hl:0<(digD x).length:=by rw[CX hx];simp
 obtain⟨b,off,rfl,hc⟩:=hu.cells 0 hl;have:b=q:=XL hq;rw[<- this];exact Ag hc
theorem VX {v1 v2:Value}(h1:NatV w v1 x)(h2:NatV w v2 y)(hlt:x<y) :
 Calls prog 109 #[v1,v2] w (Bl (.tuple #[.slice none 0 0,.bool false]) w):=by
 have HC:=Hd (J8 h1 h2);have g0:cmpZ x y = -1:=by unfold cmpZ;rw[WR hlt]
 rw[g0] at HC;clear h1 h2 hlt g0
 go_enter func109,ntmps109
 go_wp2_with fail;refine HC.o.mono ?_;rintro e w1 ⟨rfl,g1⟩;have g2:=Hd g1;clear HC g1;go_wp2_with fail
 go_ret2
 exact⟨rfl,g2.o⟩
structure NatB (kb g x:Nat)(W:Wd)(o:Own):Prop where
 ex:∃ v,W.heap[kb]?=some (.cells #[v] 40 (0,0))/\NatV W v x/\(x≠0->∀ q,v.ownBlock=some q->o q=none/\q≠g/\q≠kb)
 no:o kb=none
theorem NatV.sameN (h:NatV w v x)(hk:x≠0->∀ q,v.ownBlock=some q->q<w.heap.size->w'.heap[q]?=w.heap[q]?):NatV w' v x:=by
 by_cases hx:x=0
 . subst hx;obtain⟨a,c,h1,h2,h3,h4⟩:=h;refine⟨a,c,h1,h2,h3,⟨h4.len,h4.ok,fun k hk=>?_⟩⟩;rw[BH] at hk;cases hk
 . exact h.keepO fun q e=>hk hx q e (h.blk hx e)
theorem NatB.keepB :Cp (NatB kb g x):=fun W o W' o' h hc=>by
 obtain⟨⟨v,h1,h2,h3⟩,h4⟩:=h;have hl:kb<W.heap.size:=(WL.1 h1).1;exact⟨⟨v,(hc.block kb hl h4 (fun e=>e)).trans h1,h2.sameN fun hx q e hq=>hc.block q hq (h3 hx q e).1 (fun e=>e),fun hx q e=>⟨hc.none' (h2.blk hx e) (h3 hx q e).1,(h3 hx q e).2⟩⟩,hc.none' hl h4⟩
theorem NatB.set {o:Own}(hne:kb≠g)(h:NatB kb g x W o)(i:Nat)(y:Value):NatB kb g x (W.setCell ⟨g,i,none⟩ y) o:=by
 obtain⟨⟨v,h1,h2,h3⟩,h4⟩:=h;have hl:kb<W.heap.size:=(WL.1 h1).1;have hw:Wr (· = g) W (W.setCell ⟨g,i,none⟩ y):=(Wr.refl (· = g) W).setCell (p:=⟨g,i,none⟩) (.inl rfl) y;exact⟨⟨v,(hw.keep kb hl hne).trans h1,h2.sameN fun hx q e hq=>hw.keep q hq (h3 hx q e).2.1,h3⟩,h4⟩
theorem NatB.put {o:Own}(h:NatB kb g x W o)(hu:NatV W u y)(hq:y≠0->∀ q,u.ownBlock=some q->o q=none/\q≠g/\q≠kb):NatB kb g y (W.setCell ⟨kb,0,none⟩ u) o:=by
 obtain⟨⟨v,h1,h2,h3⟩,h4⟩:=h;have hw:Wr (· = kb) W (W.setCell ⟨kb,0,none⟩ u):=(Wr.refl (· = kb) W).setCell (p:=⟨kb,0,none⟩) (.inl rfl) u;exact⟨⟨u,Az h1 u,hu.sameN fun hx q e g0=>hw.keep q g0 (hq hx q e).2.2,hq⟩,h4⟩
theorem NatB.below {o:Own}(h:NatB kb g x W o)(hb:Bw W W'):NatB kb g x W' o:=NatB.keepB _ _ _ _ h (ChgX.of_below hb o NoB)
theorem Ox (args:Array Value)(w:Wd):(callFunc 108 args).run prog w=.ok (.enter 108 args) w:=XY func108 (by kernel_rfl) rfl args w
theorem VY {N:Nat}{o:Own}(h:NatB kb g k W o)(hv:NatV W v N)(hlt:Ab o W)(hg:g<W.heap.size)(z:Int) :
 Calls prog 108 #[.int .i64 z,v,Pt kb] W fun x w'=>x=.returned (.bool (decide (N<=k)))/\Wr (· = kb) W w'/\NatB kb g (if N<=k then k-N else k) w' o:=by
 obtain⟨u,g2,hu,hq⟩:=h.ex;have hc:=cell1 g2;have g1:kb<W.heap.size:=Ag hc
 by_cases g0:N<=k
 ·have HS:=Hd (NC hu hv g0);rw[XA g0,WR g0];have HN:Hq (∀ w1 v',Bw W w1->NatV w1 v' (k-N)->(∀ q,v'.ownBlock=some q->W.heap.size<=q)->Wr (· = kb) W (w1.setCell ⟨kb,0,none⟩ v')/\NatB kb g (k-N) (w1.setCell ⟨kb,0,none⟩ v') o/\w1.cell? ⟨kb,0,none⟩=some u/\w1.frozen? ⟨kb,0,none⟩=false):=Hd fun w1 v' hb h1 h2 =>
   ⟨(Wr.of_below hb (· = kb)).setCell (p:=⟨kb,0,none⟩) (.inl rfl) v',(h.below hb).put h1 fun _ q e=>⟨hlt.none (h2 q e),by have:=h2 q e;omega,by have:=h2 q e;omega⟩,(hb.cell (p:=⟨kb,0,none⟩) g1).trans hc,by have:=(hb.block kb g1).trans g2;simp[World.frozen?,this]⟩
  clear h hu hv hq hlt g0 hg g2
  delta Pt;go_enter func108,ntmps108
  go_wp2_with fail;refine HS.o.mono ?_;rintro e w1 ⟨⟨v',rfl,h1,h2⟩,hb⟩;obtain⟨q1,q2,q3,q4⟩:=HN.o w1 v' hb h1 h2;have Q1:=Hd q1;have Q2:=Hd q2;obtain⟨av,cv,rfl,_,_,_⟩:=h1;clear hb h2 HN HS q1 q2 hc g1;go_wp2_with fail;go_ret;exact⟨rfl,Q1.o,Q2.o⟩
 ·have HS:=Hd (VX hu hv (by omega));rw[X8 g0,WO g0];have HN:Hq (∀ w1,Bw W w1->Wr (· = kb) W w1/\NatB kb g k w1 o):=Hd fun w1 hb=>⟨Wr.of_below hb _,h.below hb⟩
  clear h hu hv hq hlt g0 hg g2
  delta Pt;go_enter func108,ntmps108
  go_wp2_with fail;refine HS.o.mono ?_;rintro e w1 ⟨rfl,hb⟩;have HX:=Hd (HN.o w1 hb);clear hb HN HS hc g1;go_wp2_with fail;go_ret;exact⟨rfl,HX.o⟩
theorem VZ {ds:List Bool}(h:(allL vs G)[k]?=some ds)(hne:kb≠g):ChoC (fun j W o=>NatB kb g (rkI G vs ds k j) W o) (· = kb) 108 #[.pointer (some ⟨kb,0,none⟩)] ds (numI G vs ds) g :=
 ⟨Ox,fun _ _ _ i y hi=>hi.set hne i _,fun _=>NatB.keepB,fun _ _ _ hi q e=>by subst e;exact hi.no,fun j hj W o v hlt hg hi hv _=>(VY hi hv hlt hg _).mono fun x w' hx=>by
  obtain⟨rfl,q1,q2⟩:=hx;rw[Dm h] at hj;have e:=JR h hj;refine⟨by rw[e],q1,?_⟩
  show NatB kb g (if ds.getD j false then rkI G vs ds k j-numI G vs ds j else rkI G vs ds k j) w' o
  by_cases c:numI G vs ds j<=rkI G vs ds k j
  . rw[WR c] at q2;rw[e,WR (by simp[c])];exact q2
  . rw[WO c] at q2;rw[e,WO (by simp[c])];exact q2⟩
section
variable {o:Own}
def Oy (n:Nat)(G:BF)(zs:List Int)(k:Nat)(e:Int)(v:Value)(W:Wd)(o:Own):Prop :=
 (chkE n G zs≠0/\e=chkE n G zs/\v=.slice none 0 0)\/(chkE n G zs=0/\∃ vs,zs=intL vs/\(((allL vs G).length<=k/\e=2/\v=.slice none 0 0)\/(∃ ds,(allL vs G)[k]?=some ds/\e=0/\AS W v ds/\∀ q,v.ownBlock=some q->o q=none)))
theorem FxS.sp {K:Law}{B:Wd->Own->Prop}{Φ:Wd->Own->Prop}(h:FxS Av n room w0 mb ws0 C o1 W1 B fs nx' w')(hn1:nx<=nx')(hn2:nx'<=nx+200)(h1:ChgX NoB o o1 w W1)(hC:∀ k,C k->w.heap.size<=k)(hp:∀ o',B w' o'->Φ w' o'):SpP n room w0 mb fs nx ws0 o w Φ w':=by
 obtain⟨o2,m2,V2,r1,r2,r3,r4⟩:=h;exact⟨nx',o2,m2,V2,hn1,hn2,h1.trans r1 (fun k hk e=>by have:=hC k e;omega),r2,r3,hp o2 r4⟩
theorem Wb (h:SatE Av n (fun _=>True) room w0 mb fs nx w o m V)(hst:m.waits <:+ ws0)(hB2:B2 fs)(hf:(kf,G)∈fs){a:Option Addr}(hz:An w a zs)(hcap:zs.length<=c)(hza:zs≠[]->∀ x,a=some x->o x.block=none){kv:Value}(hk:NatV w kv k)(hkq:k≠0->∀ q,kv.ownBlock=some q->o q=none)(hn:nx+200<549755813888)(hr:(fs.length+1)*2^n+(2^n+(2^n-1)*2^n)<=room) :
 Calls prog 48 #[Pt mb,.int .i64 kf,kv,.slice a zs.length c] w fun x w'=>∃ v e,x=.returned (.tuple #[v,.int .i64 e])/\SpP n room w0 mb fs nx ws0 o w (Oy n G zs k e v) w':=by
 have hn64:n<=64:=by have:=h.ok.store.small;rw[h.vars] at this;exact this
 obtain⟨w1,g3⟩:=Ex (w.alloc (.cells #[kv] 40));have HW1:Hq (_=w1):=Hd g3.symm;have g1:Bw w w1:=by rw[g3];exact Af _ _
 have gd:w1.heap[w.heap.size]?=some (.cells #[kv] 40 (0,0)):=by rw[g3];exact WN _ _
 have gc:=ChgX.of_below g1 o NoB;have gh:=hz.below g1;have gk:=hk.below g1;have HCK:=Hd (JN (h.below g1) hf (c:=c) gh);obtain⟨P,hP⟩:=Ex (fun x w'=>∃ v e,x=.returned (.tuple #[v,.int .i64 e])/\SpP n room w0 mb fs nx ws0 o w (Oy n G zs k e v) w':Ending->Wd->Prop)
 have g0:∀ w2 v,AskN Av n (fun _=>True) room w0 mb fs nx m o w1 w2 v->AskN Av n (fun _=>True) room w0 mb fs nx m o w w2 v:=fun w2 v ha=>AskN.trans gc rfl rfl ha
 have gj:∀ w2 v,AskN Av n (fun _=>True) room w0 mb fs nx m o w1 w2 v->∃ o2 m2 V2,ChgX NoB o o2 w w2/\m2.waits <:+ ws0/\SatE Av n (fun _=>True) room w0 mb fs nx w2 o2 m2 V2/\∀ g,w2.heap.size<=g->NatB w.heap.size g k w2 o2:=fun w2 v ha=>by
  obtain⟨o2,m2,V2,q1,q2,_,q4,_⟩:=ha;refine⟨o2,m2,V2,gc.trans q1 NoB.sub,by rw[q2];exact hst,q4,fun g hg=>?_⟩;refine NatB.keepB w1 o w2 o2 ⟨⟨kv,gd,gk,fun hx q e=>?_⟩,h.lt.none (WM _)⟩ q1;have gC:=hk.blk hx e;have gB:=q1.size;have gA:=g1.size;exact⟨hkq hx q e,by omega,by omega⟩
 have ga:Hq (∀ w2 v,AskN Av n (fun _=>True) room w0 mb fs nx m o w1 w2 v->chkE n G zs≠0->P (.returned (.tuple #[.slice none 0 0,.int .i64 (chkE n G zs)])) w2):=by
  rw[hP];exact Hd fun w2 v ha he=>⟨_,_,rfl,SpP.ask hst (g0 _ _ ha) fun o'=>.inl ⟨he,rfl,rfl⟩⟩
 have g9:Hq (∀ w2 v,AskN Av n (fun _=>True) room w0 mb fs nx m o w1 w2 v->chkE n G zs=0->NatV w2 v (cntV n G zs)->w2.cell? ⟨w.heap.size,0,none⟩=some kv/\∃ z,Calls prog 18 #[kv,v] w2 fun x w3=>x=.returned (.int .i64 z) /\
  (z>=0->P (.returned (.tuple #[.slice none 0 0,.int .i64 2])) w3) /\
  (¬ z>=0->Calls prog 92 #[Pt mb,.int .i64 kf,.slice a zs.length c,.func (.func 108) #[] #[Pt w.heap.size]] w3 fun x w'=>∃ v' e',x=.returned (.tuple #[v',e'])/\P (.returned (.tuple #[v',e'])) w')):=by
  rw[hP];refine Hd fun w2 v ha he hv=>?_
  obtain⟨o2,m2,V2,q1,q2,q4,q5⟩:=gj w2 v ha;obtain⟨vs,e1,gp,gt,go,gx,e2⟩:=GL (h.dep hf) he;obtain⟨kv',gf,gv,_⟩:=(q5 w2.heap.size (WM _)).ex;have gu:kv'=kv:=by
   obtain⟨o3,m3,V3,p1,_,_,_,_⟩:=ha;have gg:=p1.block w.heap.size (by rw[g3];simp) (h.lt.none (WM _)) (fun e=>e);rw[gd,gf] at gg;simpa using gg
  subst gu;refine⟨cell1 gf,cmpZ k (cntV n G zs),(J8 gv hv).mono ?_⟩;rintro x w3 ⟨rfl,g6⟩;have gi:=ChgX.of_below g6 o2 NoB;refine⟨rfl,fun gl=>⟨_,_,rfl,nx,o2,m2,V2,Int.le_refl _,by omega,q1.trans gi NoB.sub,q2,q4.below g6,.inr ⟨he,vs,e1,.inl ⟨?_,rfl,rfl⟩⟩⟩,fun g8=>?_⟩
  ·rw[<- e2];unfold cmpZ at gl
   by_cases c:k<cntV n G zs
   . rw[WR c] at gl;omega
   . omega
  ·have gE:k<(allL vs G).length:=by
    rw[<- e2];unfold cmpZ at g8
    by_cases c:k<cntV n G zs
    . exact c
    . rw[WO c] at g8;exfalso;apply g8;split<;>omega
   obtain⟨ds,g5⟩:∃ ds,(allL vs G)[k]?=some ds:=⟨(allL vs G)[k],WS _⟩;have g7:=q1.trans gi NoB.sub;have gn:An w3 a (intL vs):=by
    rw[<- e1];exact hz.sameN fun g4 x hx gm=>g7.block _ gm (hza g4 x hx) (fun e=>e)
   have gs:zs.length=vs.length:=by rw[e1,DK]
   have gz:=q1.size;have gy:=g6.size;have hs1:w.heap.size<w2.heap.size:=(WL.1 gf).1;rw[gs]
   refine(JP (Inv:=fun g j W o=>NatB w.heap.size g (rkI G vs ds k j) W o) (C:=(· = w.heap.size)) (ds:=ds) (lop:=#[.pointer (some ⟨w.heap.size,0,none⟩)]) (q4.below g6) q2 hB2 hf gn (by omega) (fun g4 x hx=>⟨by
    subst hx;exact g7.none' (hz.blk (by rw[e1];exact g4)) (hza (by rw[e1];exact g4) x rfl),fun e=>by
    subst hx;have:=hz.blk (by rw[e1];exact g4);omega⟩) (fun g hg=>VZ g5 (by omega)) (fun g hg=>(q5 g (by omega)).below g6) (Dm g5) (fun q e=>by subst e;exact⟨h.chg.size,by omega⟩) gp gt go (by omega) hn hr).mono ?_
   rintro x w' ⟨g,nx',base,rfl,_,gr,gq,hF⟩;refine⟨_,_,rfl,_,_,rfl,hF.sp (K:=Av) gr gq g7 (fun q e=>by subst e;exact WM _) fun o' r4=>.inr ⟨he,vs,e1,.inr ⟨ds,g5,rfl,?_,fun q hq=>by cases hq;exact r4.lo⟩⟩⟩;have:=r4.l.boolsIs (by rw[Dm g5];omega);rw[Dm g5] at this;exact this
 rw[<- hP];clear hP h hf hz hza hst hB2 hr g1 gd gc gh gk g0 gj hkq g3;obtain⟨ka,kc,rfl,_,_,_⟩:=hk;have eg:=Ox;have gD:∀ (fn:Fn) (first cap:Array Value) (w:Wd),(Instr.makeFunc fn first cap).run prog w=.ok (.func fn first cap) w:=fun _ _ _ _=>rfl
 delta Pt;go_enter func48,ntmps48
 go_upto_region 1 with fail;rw[HW1.o];go_wp2_with fail;refine HCK.o.mono ?_;rintro x w2 ⟨v,rfl,hv,g0⟩;have g2:=Hd g0;clear g0 HCK;obtain⟨E,hE⟩:=Ex (chkE n G zs)
 by_cases he:E=0
 ·have gb:chkE n G zs=0:=by rw[<- hE];exact he
  rw[WR gb] at hv;obtain⟨gw,z,ge⟩:=g9.o w2 v g2.o gb hv;have HC:=Hd ge;rw[gb];clear g9 ga g2 hE he gb hv ge;go_wp2_with fail;refine HC.o.mono ?_;rintro x w3 ⟨rfl,h1,h2⟩
  by_cases hz:z>=0
  ·have HF:=Hd (h1 hz);clear h1 h2 HC;go_wp2_with fail
   first|exact HF.o|exact Xc (X6 rfl _ _ _) rfl HF.o
  ·have HD:=Hd (h2 (by omega));clear h1 h2 HC;go_wp2_with fail;refine HD.o.mono ?_;rintro x w' ⟨v',e',rfl,hp⟩;have HF:=Hd hp;clear hp HD;go_wp2_with fail
   first|exact HF.o|exact Xc (X6 rfl _ _ _) rfl HF.o
 ·have HF:=Hd (ga.o w2 v g2.o (by rw[<- hE];exact he));rw[<- hE] at HF ⊢;clear g9 ga g2 hE hv;go_wp2_with fail
  first|exact HF.o|exact Xc (X6 rfl _ _ _) rfl HF.o
end
theorem We {P:Nat->Prop}(h:∀ e,3<=e->P e):P 1000:=h 1000 (by decide)
theorem JU:∀ (vs:List Nat) (F:BF),(allL vs F).length<=2^vs.length
 | [],F=>by
   show (if F (fun _=>false) then [[]] else []).length<=1
   split<;>simp
 | v::r,F=>by
   have ea:allL (v::r) F=(allL r (cofF F v false)).map (false :: ·)++(allL r (cofF F v true)).map (true :: ·):=rfl;have h1:=JU r (cofF F v false);have h2:=JU r (cofF F v true);rw[ea,WY,Xy,Xy,Xm,X4];omega
structure PlaB (lb ab g:Nat)(lv:Value)(bs:List Bool)(x:Nat)(W:Wd)(o:Own):Prop where
 box:W.heap[lb]?=some (.cells #[lv] 54 (0,0))
 no:o lb=none
 ne:lb≠g/\lb≠ab
 is:AS W lv bs
 un:bs≠[]->∀ q,lv.ownBlock=some q->o q=none/\q≠g/\q≠ab
 nat:NatB ab g x W o
theorem AS.blk (h:AS W v bs)(hb:bs≠[]){q:Nat}(hq:v.ownBlock=some q):q<W.heap.size:=by
 obtain⟨a,c,rfl,h1,_⟩:=h;obtain⟨b,off,e,hc⟩:=h1.cells 0 (YY.2 hb);subst e;have e:b=q:=XL hq;rw[<- e];exact Ag hc
theorem AS.sameN (h:AS W v bs)(hk:bs≠[]->∀ q,v.ownBlock=some q->q<W.heap.size->W'.heap[q]?=W.heap[q]?):AS W' v bs:=by
 by_cases hb:bs=[]
 . subst hb;obtain⟨a,c,h1,h2,h3⟩:=h;exact⟨a,c,h1,⟨h2.len,fun k g0=>by simp at g0⟩,h3⟩
 . exact h.same fun q e=>hk hb q e (h.blk hb e)
section
variable {lb ab:Nat}{o:Own}
theorem PlaB.keepB:Cp (PlaB lb ab g lv bs x):=fun W o W' o' h hc=>by
 have hl:lb<W.heap.size:=(WL.1 h.box).1;exact⟨(hc.block lb hl h.no (fun e=>e)).trans h.box,hc.none' hl h.no,h.ne,h.is.sameN fun hb q e hq=>hc.block q hq (h.un hb q e).1 (fun e=>e),fun hb q e=>⟨hc.none' (h.is.blk hb e) (h.un hb q e).1,(h.un hb q e).2⟩,NatB.keepB _ _ _ _ h.nat hc⟩
theorem PlaB.below (h:PlaB lb ab g lv bs x W o)(hb:Bw W W'):PlaB lb ab g lv bs x W' o:=PlaB.keepB _ _ _ _ h (ChgX.of_below hb o NoB)
theorem PlaB.set (hne:ab≠g)(h:PlaB lb ab g lv bs x W o)(i:Nat)(v:Value):PlaB lb ab g lv bs x (W.setCell ⟨g,i,none⟩ v) o:=by
 have hl:lb<W.heap.size:=(WL.1 h.box).1;have hw:Wr (· = g) W (W.setCell ⟨g,i,none⟩ v):=(Wr.refl (· = g) W).setCell (p:=⟨g,i,none⟩) (.inl rfl) v;exact⟨(hw.keep lb hl h.ne.1).trans h.box,h.no,h.ne,h.is.sameN fun hb q e hq=>hw.keep q hq (h.un hb q e).2.1,h.un,h.nat.set hne i v⟩
theorem PlaB.put {u:Value}(h:PlaB lb ab g lv bs x W o)(hu:NatV W u y)(hq:y≠0->∀ q,u.ownBlock=some q->o q=none/\q≠g/\q≠ab):PlaB lb ab g lv bs y (W.setCell ⟨ab,0,none⟩ u) o:=by
 have hl:lb<W.heap.size:=(WL.1 h.box).1;have hw:Wr (· = ab) W (W.setCell ⟨ab,0,none⟩ u):=(Wr.refl (· = ab) W).setCell (p:=⟨ab,0,none⟩) (.inl rfl) u;exact⟨(hw.keep lb hl h.ne.2).trans h.box,h.no,h.ne,h.is.sameN fun hb q e hq=>hw.keep q hq (h.un hb q e).2.2,h.un,h.nat.put hu hq⟩
end
theorem Oz (args:Array Value)(w:Wd):(callFunc 93 args).run prog w=.ok (.enter 93 args) w:=XY func93 (by kernel_rfl) rfl args w
theorem Wf {lb ab N:Nat}{o:Own}(h:PlaB lb ab g lv bs x W o)(hv:NatV W v N)(hlt:Ab o W)(hg:g<W.heap.size)(hj:j<bs.length)(hs:bs.getD j false=true->x+N<2^64) :
 Calls prog 93 #[.int .i64 (j:Nat),v,Pt lb,Pt ab] W fun e w'=>e=.returned (.bool (bs.getD j false))/\Wr (· = ab) W w'/\PlaB lb ab g lv bs (if bs.getD j false then x+N else x) w' o:=by
 obtain⟨u,g5,hu,hq⟩:=h.nat.ex;have ga:=cell1 h.box;have hc:=cell1 g5;have g3:ab<W.heap.size:=Ag hc;obtain⟨al,cl,rfl,g6,_⟩:=h.is;obtain⟨b,off,rfl,g9⟩:=g6.cells j hj;have gf:=g6.len;have ge:(j:Int)<(bs.length:Int):=by omega
 obtain⟨d,hd⟩:=Ex (bs.getD j false);rw[<- hd] at g9 hs ⊢;cases d with
 | false =>
   have HX:Hq (Wr (· = ab) W W/\PlaB lb ab g (.slice (some ⟨b,off,none⟩) bs.length cl) bs x W o):=Hd ⟨Wr.refl _ _,h⟩;clear h hv hlt hg hs hd hu hq g5 g6
   delta Pt;go_enter func93,ntmps93
   go_wp2_with fail;go_ret;exact⟨rfl,HX.o⟩
 | true =>
   have hs:=hs rfl;have g8:b≠ab:=(h.un (fun e=>by subst e;simp at hj) b rfl).2.2;obtain⟨w1,g4⟩:=Ex (W.alloc (.cells #[u,v] 40));have HW1:Hq (_=w1):=Hd g4.symm;have g1:Bw W w1:=by rw[g4];exact Af _ _
   have g2:w1.heap[W.heap.size]?=some (.cells #[u,v] 40 (0,0)):=by rw[g4];exact WN _ _
   have g7:Ej w1 (some ⟨W.heap.size,0,none⟩) [x,N]:=⟨by simp,fun k hk=>by
    rcases(show k=0\/k=1 by simp at hk;omega) with rfl|rfl
    . exact⟨_,0,u,rfl,by rw[WQ _ _ 0 _ _ _ g2];rfl,hu.below g1⟩
    . exact⟨_,0,v,rfl,by rw[WQ _ _ 1 _ _ _ g2];rfl,hv.below g1⟩⟩
   have HA:=Hd (NG (c:=2) g7 (by
    have e:[x,N].sum=x+N:=by simp
    rw[e];exact We (P:=fun e=>x+N<4294967296^e) fun e he=>Xh (show x+N<4294967296^3 by omega) (Xo (by omega) he)))
   have HN:Hq (∀ w2 v',Bw w1 w2->NatV w2 v' [x,N].sum->(∀ q,v'.ownBlock=some q->w1.heap.size<=q)->Wr (· = ab) W (w2.setCell ⟨ab,0,none⟩ v')/\PlaB lb ab g (.slice (some ⟨b,off,none⟩) bs.length cl) bs (x+N) (w2.setCell ⟨ab,0,none⟩ v') o/\w2.cell? ⟨ab,0,none⟩=some u/\w2.frozen? ⟨ab,0,none⟩=false/\w2.cell? ⟨lb,0,none⟩=some (.slice (some ⟨b,off,none⟩) bs.length cl)/\w2.cell? ⟨b,off+j,none⟩=some (.bool true)/\lb≠ab/\ab≠lb/\b≠ab/\ab≠b):=Hd fun w2 v' hb h1 h2=>by
    have e:[x,N].sum=x+N:=by simp
    rw[e] at h1;have g0:=g1.trans (hb.mono g1.size);have gd:=g1.size;have hp:=(h.below g0).put h1 fun _ q e=>⟨hlt.none (by have:=h2 q e;omega),by have:=h2 q e;omega,by have:=h2 q e;omega⟩
    refine⟨(Wr.of_below g0 (· = ab)).setCell (p:=⟨ab,0,none⟩) (.inl rfl) v',hp,(g0.cell (p:=⟨ab,0,none⟩) g3).trans hc,by have:=(g0.block ab g3).trans g5;simp[World.frozen?,this],cell1 (h.below g0).box,?_,h.ne.2,fun e=>h.ne.2 e.symm,g8,fun e=>g8 e.symm⟩;obtain⟨al2,cl2,e2,gb,_⟩:=(h.below g0).is;injection e2 with e2 _ e3
    subst e2;obtain⟨b3,off3,e4,gc⟩:=gb.cells j hj;cases e4;rw[gc,<- hd]
   obtain⟨au,cu,rfl,_,_,_⟩:=hu;obtain⟨av,cv,rfl,_,_,_⟩:=hv;clear h hlt hg hs hd hq g5 g6 g1 g2 g7 g4
   delta Pt;go_enter func93,ntmps93
   go_upto_region 2 with fail;go_wp2_with fail;rw[HW1.o];refine HA.o.mono ?_;rintro e w2 ⟨⟨v',rfl,h1,h2⟩,hb⟩;obtain⟨q1,q2,q3,q4,q5,q6,q7,q8,q9,q0⟩:=HN.o w2 v' hb h1 h2;have Q1:=Hd q1;have Q2:=Hd q2;obtain⟨av',cv',rfl,_,_,_⟩:=h1;clear hb h2 HN HA q1 q2 hc g3 ga g9;go_wp2_with fail;go_ret;exact⟨rfl,Q1.o,Q2.o⟩
theorem Wg {lb ab:Nat}(h:(allL vs G)[k]?=some bs)(hl:vs.length<=64)(hne:ab≠g):ChoC (fun j W o=>PlaB lb ab g lv bs (ahI G vs bs j) W o) (· = ab) 93 #[.pointer (some ⟨lb,0,none⟩),.pointer (some ⟨ab,0,none⟩)] bs (numI G vs bs) g :=
 ⟨Oz,fun _ _ _ i y hi=>hi.set hne i _,fun _=>PlaB.keepB,fun _ _ _ hi q e=>by subst e;exact hi.nat.no,fun j hj W o v hlt hg hi hv _=>(Wf hi hv hlt hg hj (fun hd=>by
  rw[Dm h] at hj;have h1:=JS h (j+1) (by omega);have h2:ahI G vs bs (j+1)=ahI G vs bs j+numI G vs bs j:=by
   show (if bs.getD j false then ahI G vs bs j+numI G vs bs j else ahI G vs bs j)=_
   rw[WR hd]
  have h3:k<(allL vs G).length:=(Xk.1 h).1;have h4:=JU vs G;have h5:2^vs.length<=2^64:=Xo (by omega) hl;omega)).mono fun x w' hx=>hx⟩
def plV (vs:List Nat)(bs:List Bool):Nat->Nat->Bool
 | 0=>fun _=>false
 | i+1=>upd (plV vs bs i) (vs.getD i 0) (bs.getD i false)
def rowV (n:Nat)(ρ:Nat->Bool):List Bool:=(List.range n).map ρ
theorem GM (n:Nat)(ρ:Nat->Bool):(rowV n ρ).length=n:=by unfold rowV;simp
theorem Wh {v:Nat}{ρ:Nat->Bool}{b:Bool}(hv:v<n):(rowV n ρ).set v b=rowV n (upd ρ v b):=by
 unfold rowV;apply Yl
 . simp
 ·intro j h1 h2;rw[Zt];simp only[List.getElem_map,List.getElem_range];unfold upd
  by_cases e:v=j
  . rw[WR e,WR e.symm]
  . rw[WO e,WO (fun c=>e c.symm)]
theorem Wi {ρ:Nat->Bool}{v:Nat}(hv:v<n):A6 (rowV n ρ) v=ρ v:=by
 unfold A6 rowV;simp[List.getD,hv]
theorem O0 {vs:List Nat}{bs:List Bool}(hn:vs.Nodup){i:Nat}:∀ j,j<=vs.length->i<j->plV vs bs j (vs.getD i 0)=bs.getD i false
 | 0,_,h=>by omega
 | j+1,hj,h=>by
   show upd (plV vs bs j) (vs.getD j 0) (bs.getD j false) (vs.getD i 0)=_
   unfold upd
   by_cases e:i=j
   . rw[e,WR rfl]
   . rw[WO,O0 hn j (by omega) (by omega)];intro c;simp only[List.getD,WS (show i<vs.length by omega),WS (show j<vs.length by omega),Option.getD_some] at c;exact e ((List.getElem_inj hn).1 c)
theorem O3:∀ {vs:List Nat} {bs:List Bool},vs.Nodup->bs.length=vs.length->∀ i,i<vs.length->asg vs bs (vs.getD i 0)=bs.getD i false
 | [],_,_,_,i,h=>by simp at h
 | v::r,[],_,hb,_,_=>by simp at hb
 | v::r,b::l,hn,hb,i,hi=>by
   show upd (asg r l) v b ((v::r).getD i 0)=_
   unfold upd;rw[Yp] at hn;cases i with
   | zero =>
     have e0:(v::r).getD 0 0=v:=rfl;rw[e0,WR rfl];rfl
   | succ i =>
     have hir:i<r.length:=by simpa using hi
     have e1:(v::r).getD (i+1) 0=r.getD i 0:=rfl;rw[e1,WO,O3 hn.2 (by simpa using hb) i hir]
     . rfl
     . intro c;refine hn.1 ?_;rw[<- c];simp[List.getD,hir]
theorem Wj (hd:DepF n G)(hn:vs.Nodup)(hon:BY vs G)(hlt:∀ v∈vs,v<n)(hb:bs.length=vs.length):G (A6 (rowV n (plV vs bs vs.length)))=G (asg vs bs):=by
 refine hon _ _ fun v hv=>?_
 obtain⟨i,hi,rfl⟩:=XX hv;have e:vs[i]=vs.getD i 0:=by simp[List.getD,hi]
 rw[Wi (hlt _ hv),e,O0 hn _ (WM _) hi,O3 hn hb i hi]
section
variable {o:Own}
def JV (n:Nat)(G:BF)(zs:List Int)(bs:List Bool)(e:Int)(v:Value)(W:Wd)(_:Own):Prop :=
 (chkE n G zs≠0/\e=chkE n G zs/\NatV W v 0)\/(chkE n G zs=0/\bs.length≠zs.length/\e=3/\NatV W v 0) \/
  (chkE n G zs=0/\∃ vs,zs=intL vs/\bs.length=vs.length/\((G (asg vs bs)=false/\e=21/\NatV W v 0)\/(∃ k,(allL vs G)[k]?=some bs/\e=0/\NatV W v k)))
theorem Wk (h:SatE Av n (fun _=>True) room w0 mb fs nx w o m V)(hst:m.waits <:+ ws0)(hB2:B2 fs)(hf:(kf,G)∈fs){a:Option Addr}(hz:An w a zs)(hcap:zs.length<=c)(hza:zs≠[]->∀ x,a=some x->o x.block=none)(hl:AS w lv bs)(hlq:bs≠[]->∀ q,lv.ownBlock=some q->o q=none)(hn:nx+200<549755813888)(hr:(fs.length+1)*2^n+(2^n+(2^n-1)*2^n)<=room) :
 Calls prog 35 #[Pt mb,.int .i64 kf,lv,.slice a zs.length c] w fun x w'=>∃ v e,x=.returned (.tuple #[v,.int .i64 e])/\SpP n room w0 mb fs nx ws0 o w (JV n G zs bs e v) w':=by
 have hn64:n<=64:=by have:=h.ok.store.small;rw[h.vars] at this;exact this
 obtain⟨w1,gn⟩:=Ex (w.alloc (.cells #[lv] 54));have HW1:Hq (_=w1):=Hd gn.symm;have gd:Bw w w1:=by rw[gn];exact Af _ _
 have gz:w1.heap[w.heap.size]?=some (.cells #[lv] 54 (0,0)):=by rw[gn];exact WN _ _
 have gv:=ChgX.of_below gd o NoB;have gm:=hz.below gd;have gx:w.heap.size<w1.heap.size:=(WL.1 gz).1;have HCK:=Hd (JN (h.below gd) hf (c:=c) gm);obtain⟨P,hP⟩:=Ex (fun x w'=>∃ v e,x=.returned (.tuple #[v,.int .i64 e])/\SpP n room w0 mb fs nx ws0 o w (JV n G zs bs e v) w':Ending->Wd->Prop)
 obtain⟨I,hI⟩:=Ex (fun W=>∃ o2 m2 V2,ChgX NoB o o2 w1 W/\m2.waits <:+ ws0/\SatE Av n (fun _=>True) room w0 mb fs nx W o2 m2 V2:Wd->Prop)
 have gs:∀ W W',I W->Bw W W'->I W':=by
  rw[hI];rintro W W' ⟨o2,m2,V2,q1,q2,q3⟩ hb;exact⟨o2,m2,V2,q1.trans (ChgX.of_below hb o2 NoB) NoB.sub,q2,q3.below hb⟩
 have g2:∀ w2 v,AskN Av n (fun _=>True) room w0 mb fs nx m o w1 w2 v->I w2:=by
  rw[hI];rintro w2 v ⟨o2,m2,V2,q1,q2,_,q4,_⟩;exact⟨o2,m2,V2,q1,by rw[q2];exact hst,q4⟩
 have g6:∀ W,I W->W.heap[w.heap.size]?=some (.cells #[lv] 54 (0,0))/\An W a zs/\AS W lv bs/\w1.heap.size<=W.heap.size:=by
  rw[hI];rintro W ⟨o2,m2,V2,q1,q2,q3⟩;exact⟨(q1.block _ gx (h.lt.none (WM _)) (fun e=>e)).trans gz,gm.sameN fun g0 x hx g1=>q1.block _ g1 (hza g0 x hx) (fun e=>e),(hl.sameN (W':=w1) fun _ q _ hq=>gd.block q hq).sameN fun g0 q e hq=>q1.block q hq (hlq g0 q e) (fun e=>e),q1.size⟩
 have gt:∀ W e v,I W->JV n G zs bs e v W o->P (.returned (.tuple #[v,.int .i64 e])) W:=by
  rw[hI,hP];rintro W e v ⟨o2,m2,V2,q1,q2,q3⟩ hp;exact⟨v,e,rfl,nx,o2,m2,V2,Int.le_refl _,by omega,gv.trans q1 NoB.sub,q2,q3,hp⟩
 have gl:Hq (∀ w2 v,AskN Av n (fun _=>True) room w0 mb fs nx m o w1 w2 v->chkE n G zs≠0->P (.returned (.tuple #[.slice none 0 0,.int .i64 (chkE n G zs)])) w2) :=
  Hd fun w2 v ha he=>gt _ _ _ (g2 _ _ ha) (.inl ⟨he,rfl,DJ _⟩)
 have gk:Hq (∀ w2 v,AskN Av n (fun _=>True) room w0 mb fs nx m o w1 w2 v->chkE n G zs=0->I w2/\w2.cell? ⟨w.heap.size,0,none⟩=some lv/\(bs.length≠zs.length->P (.returned (.tuple #[.slice none 0 0,.int .i64 3])) w2)):=Hd fun w2 v ha he =>
  ⟨g2 _ _ ha,cell1 (g6 _ (g2 _ _ ha)).1,fun g0=>gt _ _ _ (g2 _ _ ha) (.inr (.inl ⟨he,g0,rfl,DJ _⟩))⟩
 have gf:Hq (∀ W,I W->Calls prog 69 #[Pt mb] W (Sm (.int .i64 (n:Nat)) W)):=by
  rw[hI];refine Hd fun W hW=>?_
  obtain⟨o2,m2,V2,q1,q2,q3⟩:=hW;have hv:=D7 q3.is;rw[q3.vars] at hv;exact hv
 have gg:Hq (∀ W vs i,I W->zs=intL vs->(∀ v∈vs,v<n)->bs.length=vs.length->i<vs.length->W.cell? ⟨w.heap.size,0,none⟩=some lv/\(∃ b off,a=some ⟨b,off,none⟩/\W.cell? ⟨b,off+i,none⟩=some (.int .i64 ((vs.getD i 0:Nat):Int)))/\vs.getD i 0<n/\∃ b off cl,lv=.slice (some ⟨b,off,none⟩) bs.length cl/\W.cell? ⟨b,off+i,none⟩=some (.bool (bs.getD i false))):=Hd fun W vs i hW e hv hb hi=>by
  obtain⟨q1,q2,q3,_⟩:=g6 W hW;refine⟨cell1 q1,?_,hv _ (by simp[List.getD,hi]),?_⟩
  . obtain⟨b,off,ea,hc⟩:=q2.cells i (by rw[e,DK];exact hi);rw[e,Ot hi] at hc;exact⟨b,off,ea,hc⟩
  . obtain⟨al,cl,e1,hj,_⟩:=q3;obtain⟨b,off,e2,hc⟩:=hj.cells i (by omega);subst e2;exact⟨b,off,cl,e1,hc⟩
 have gi:Hq (∀ W vs g base,I W->zs=intL vs->vs.Nodup->(∀ v∈vs,v<n)->BY vs G->chkE n G zs=0->bs.length=vs.length->OwnB W base (.slice (some ⟨g,0,none⟩) n n) (rowV n (plV vs bs vs.length))->Calls prog 91 #[Pt mb,.int .i64 kf,.slice (some ⟨g,0,none⟩) n n] W fun x w5=>x=.returned (.tuple #[.bool (G (asg vs bs)),.int .i64 0]) /\
  (G (asg vs bs)=false->P (.returned (.tuple #[.slice none 0 0,.int .i64 21])) w5) /\
  (G (asg vs bs)=true->∀ w6,w6=w5.alloc (.cells #[.slice none 0 0] 40)->Calls prog 92 #[Pt mb,.int .i64 kf,.slice a zs.length c,.func (.func 93) #[] #[Pt w.heap.size,Pt w5.heap.size]] w6 fun x w'=>∃ v1 v2,x=.returned (.tuple #[v1,.int .i64 0])/\w'.cell? ⟨w5.heap.size,0,none⟩=some v2/\P (.returned (.tuple #[v2,.int .i64 0])) w')):=by
  refine Hd fun W vs g base hW e1 g4 g1 g5 he gc gS=>?_
  have gL:=hW;rw[hI] at gL;obtain⟨o2,m2,V2,q1,q2,q4⟩:=gL;obtain⟨f,h9,hh⟩:=q4.find hf;obtain⟨ar,cr,er,gY,_⟩:=gS.boolsIs (by rw[GM];omega);rw[GM] at er;injection er with er1 er2 er3
  subst er1 er3;have gH:=QH q4.is q4.lt q4.ok h9 (some ⟨g,0,none⟩) n (rowV n (plV vs bs vs.length)) gY;rw[GM,show ef V2 f=G from hh,Wj (h.dep hf) g4 g5 g1 gc] at gH;refine gH.mono ?_;rintro x w5 ⟨rfl,hm⟩;have ge:=gs W w5 hW hm;refine⟨rfl,fun h8=>gt _ _ _ ge (.inr (.inr ⟨he,vs,e1,gc,.inl ⟨h8,rfl,DJ _⟩⟩)),fun h7 w6 g8=>?_⟩;have gT:bs∈allL vs G:=(Fz vs G bs).2 ⟨gc,h7⟩;obtain⟨k,hk⟩:∃ k,(allL vs G)[k]?=some bs:=List.getElem?_of_mem gT;have gA:Bw w5 w6:=by rw[g8];exact Af _ _
  have gK:w6.heap[w5.heap.size]?=some (.cells #[.slice none 0 0] 40 (0,0)):=by rw[g8];exact WN _ _
  have gM:=gs _ _ ge gA;obtain⟨r1,r2,r3,r4⟩:=g6 _ ge;obtain⟨s1,s2,s3,s4⟩:=g6 _ gM;rw[hI] at ge gM;obtain⟨o5,m5,V5,t1,t2,t4⟩:=ge;have gU:=ChgX.of_below gA o5 NoB;have g9:=t1.trans gU NoB.sub;have gq:zs.length=vs.length:=by rw[e1,DK]
  have hC:=CD n vs g4 g1;rw[gq];have gV:w5.heap.size<w6.heap.size:=(WL.1 gK).1
  refine(JP (Inv:=fun g j W o=>PlaB w.heap.size w5.heap.size g lv bs (ahI G vs bs j) W o) (C:=(· = w5.heap.size)) (ds:=bs) (lop:=#[.pointer (some ⟨w.heap.size,0,none⟩),.pointer (some ⟨w5.heap.size,0,none⟩)]) (t4.below gA) t2 hB2 hf (by rw[<- e1];exact s2) (by omega) (fun g0 x hx=>⟨by
   subst hx;exact g9.none' (gm.blk (by rw[e1];exact g0)) (hza (by rw[e1];exact g0) x rfl),fun e=>by
   subst hx;have:=r2.blk (by rw[e1];exact g0);omega⟩) (fun g hg=>Wg hk (by omega) (by omega)) (fun g hg=>⟨s1,g9.none' gx (h.lt.none (WM _)),by omega,s3,fun g0 q e=>by
    have hq:=hl.blk g0 e;exact⟨g9.none' (by omega) (hlq g0 q e),by omega,by omega⟩,⟨⟨_,gK,DJ _,fun e=>absurd rfl e⟩,t4.lt.none (WM _)⟩⟩) gc (fun q e=>by subst e;exact⟨t4.chg.size,gV⟩) g4 g1 g5 (by omega) hn hr).mono ?_
  rintro x w' ⟨g',nx',base',rfl,_,h0,gZ,hF⟩;obtain⟨o7,m7,V7,u1,u2,u3,u4⟩:=hF;obtain⟨v2,gI,gE,_⟩:=u4.inv.nat.ex;rw[VQ hk] at gE;refine⟨_,v2,rfl,cell1 gI,?_⟩;rw[hP];exact⟨v2,0,rfl,FxS.sp (K:=Av) (B:=fun _ _=>True) ⟨o7,m7,V7,u1,u2,u3,trivial⟩ h0 gZ (gv.trans g9 NoB.sub) (fun q e=>by subst e;omega) fun o' _=>.inr (.inr ⟨he,vs,e1,gc,.inr ⟨k,hk,rfl,gE⟩⟩)⟩
 have HZ:Hq (chkE n G zs=0->∃ vs,zs=intL vs/\vs.Nodup/\(∀ v∈vs,v<n)/\BY vs G/\zs.length=vs.length):=Hd fun he=>by
  obtain⟨vs,e1,g4,g1,g5,_⟩:=GL (h.dep hf) he;exact⟨vs,e1,g4,g1,g5,by rw[e1,DK]⟩
 have gh:Hq (∀ W W',I W->Bw W W'->I W'):=Hd gs;have hB:=hz.len;have hA:bs.length<=1000000:=by obtain⟨_,_,_,q,_⟩:=hl;exact q.len
 rw[<- hP];clear hP h hf hz hza hst hB2 hr gd gz gv gm gn gs g2 g6 gt hI hlq gx;obtain⟨la,lc,rfl,_,_⟩:=hl;have eg:=Oz;have hD:∀ (fn:Fn) (first cap:Array Value) (w:Wd),(Instr.makeFunc fn first cap).run prog w=.ok (.func fn first cap) w:=fun _ _ _ _=>rfl
 delta Pt;go_enter func35,ntmps35
 go_upto_region 1 with fail;rw[HW1.o];go_wp2_with fail;refine HCK.o.mono ?_;rintro x w2 ⟨v,rfl,hv,gB⟩;have gb:=Hd gB;clear gB HCK;obtain⟨E,hE⟩:=Ex (chkE n G zs)
 by_cases he:E=0
 ·have gr:chkE n G zs=0:=by rw[<- hE];exact he
  have gQ:=Hd gr;obtain⟨gG,gD,ga⟩:=gk.o w2 v gb.o gr;have gC:=Hd gG;rw[gr];clear gk gl gb hE he gr hv gG
  by_cases gy:bs.length=zs.length
  ·have gq:(bs.length:Int)=(zs.length:Int):=by omega
   have HV:=Hd (gf.o w2 gC.o);clear ga;go_wp2_with fail;refine HV.o.mono ?_;rintro x w' ⟨rfl,rfl⟩;go_wp2_with (at_make;refine DB Ed rfl _ _ rfl w2.heap.size w2 _ n rfl rfl rfl (by omega) (WM _) (Xd _ _) ?_;intro g w3 gp gJ gX h3 h6 h5;clear h5)
   have gO:Hq (OwnB w3 w2.heap.size (.slice (some ⟨g,0,none⟩) n n) (rowV n (fun _=>false))):=Hd (by
    have e:rowV n (fun _=>false)=List.replicate n false:=by unfold rowV;rw[List.map_const',List.length_range]
    rw[e];unfold OwnB;simpa [AO] using gp)
   have gR:=Hd gJ;clear gp gJ gX h3 HV gD;obtain⟨vs,e1,g4,g1,g5,gF⟩:=HZ.o gQ.o;have gu:=Hd gF;have gN:=Hd e1;have hw:=Hd g4;have gP:=Hd g1;have ht:=Hd g5;have gj:=Hd gy;clear e1 g4 g1 g5 gF HZ gq;go_wp2_with fail
   go_loopw [13,14,40] (fun _ _ s40 wr=>∃ i:Nat,i<=zs.length/\s40=.int .i64 (i:Int)/\Hq (OwnB wr w2.heap.size (.slice (some ⟨g,0,none⟩) n n) (rowV n (plV vs bs i)))/\Hq (Bw w2 wr)) (fun _ _ s40 _=>zs.length-(intOf s40).toNat)
   case atStart=>exact⟨0,WX _,rfl,gO,gR⟩
   case round =>
    clear gO gR;obtain⟨i,hi,rfl,g3,g7⟩:=hrel
    by_cases g1:i<zs.length
    ·have h4:(i:Int)<(zs.length:Int):=by omega
     obtain⟨c0,⟨b,off,ea,c1⟩,gw,b2,off2,cl2,el,c2⟩:=gg.o wr vs i (gh.o _ _ gC.o g7.o) gN.o gP.o (by have:=gj.o;have:=gu.o;omega) (by have:=gu.o;omega);injection el with el1 _ el3
     subst ea el1 el3;obtain⟨vi,go⟩:=Ex (vs.getD i 0);obtain⟨d,hd⟩:=Ex (bs.getD i false)
     have hu:Hq (OwnB (wr.setCell ⟨g,vi,none⟩ (.bool d)) w2.heap.size (.slice (some ⟨g,0,none⟩) n n) (rowV n (plV vs bs (i+1)))):=Hd (by
      have e:rowV n (plV vs bs (i+1))=(rowV n (plV vs bs i)).set vi d:=by
       rw[Wh (by rw[go];exact gw),go,hd];rfl
      rw[e];exact g3.o.setB vi d)
     have hy:Hq (Bw w2 (wr.setCell ⟨g,vi,none⟩ (.bool d))):=Hd (g7.o.setCell h6 _);rw[<- go] at c1 gw;rw[<- hd] at c2;have q0:=g3.o.cellB vi (by rw[GM];exact gw);have p0:=g3.o.frozen vi;have hG:=gj.o;clear go hd g3 g7 gi gf gg;go_wp2_with fail;go_roundw
     case rel=>exact⟨i+1,by omega,by go_num,hu,hy⟩
     case measure=>simp[intOf];omega
    ·obtain rfl:i=zs.length:=by omega
     have h4:¬ (zs.length:Int)<(zs.length:Int):=by omega
     obtain⟨d,hd⟩:=Ex (G (asg vs bs));have HE:=Hd (gi.o wr vs g w2.heap.size (gh.o _ _ gC.o g7.o) gN.o hw.o gP.o ht.o gQ.o (by have:=gj.o;have:=gu.o;omega) (by rw[<- gu.o];exact g3.o));rw[<- hd] at HE;clear hd gi gf gg g3 g7 gh;cases d with
     | false =>
       go_wp2_with fail;refine HE.o.mono ?_;rintro x w5 ⟨rfl,h1,_⟩;have HF:=Hd (h1 (by simp));clear h1 HE;go_wp2_with fail
       first|exact HF.o|exact Xc (X6 rfl _ _ _) rfl HF.o
     | true =>
       go_wp2_with fail;refine HE.o.mono ?_;rintro x w5 ⟨rfl,_,h2⟩;obtain⟨w6,g8⟩:=Ex (w5.alloc (.cells #[.slice none 0 0] 40));have ho:Hq (_=w6):=Hd g8.symm;have HD:=Hd (h2 (by simp) w6 g8);clear h2 HE g8;go_upto_region 18 with fail;rw[ho.o];go_wp2_with fail;refine HD.o.mono ?_;rintro x w' ⟨v1,v2,rfl,gI,hp⟩;have HF:=Hd hp;clear hp HD;go_wp2_with fail
       first|exact HF.o|exact Xc (X6 rfl _ _ _) rfl HF.o
  ·have HF:=Hd (ga gy);have gq:¬ (bs.length:Int)=(zs.length:Int):=by omega
   clear ga gg gi gf HZ gh;go_wp2_with fail
   first|exact HF.o|exact Xc (X6 rfl _ _ _) rfl HF.o
 ·have HF:=Hd (gl.o w2 v gb.o (by rw[<- hE];exact he));rw[<- hE] at HF ⊢;clear gk gl gb hE hv gg gi gf HZ gh;go_wp2_with fail
  first|exact HF.o|exact Xc (X6 rfl _ _ _) rfl HF.o
end
def SpS (n room:Nat)(w0:Wd)(mb:Nat)(fs:List (Int×BF))(nx:Int)(ws0:List Ev)(rs:List (Value×List Bool))(W:Wd):Prop :=
 ∃ o m V,m.waits <:+ ws0/\SatE Av n (fun _=>True) room w0 mb fs nx W o m V/\∀ p∈rs,AS W p.1 p.2/\(p.2≠[]->∀ q,p.1.ownBlock=some q->o q=none)
section
variable {rs:List (Value×List Bool)}{o:Own}
theorem Wl (h:∀ p∈rs,AS w p.1 p.2/\(p.2≠[]->∀ q,p.1.ownBlock=some q->o q=none))(hc:ChgX NoB o o' w w'):∀ p∈rs,AS w' p.1 p.2/\(p.2≠[]->∀ q,p.1.ownBlock=some q->o' q=none):=fun p hp =>
 ⟨(h p hp).1.sameN fun hne q e hq=>hc.block q hq ((h p hp).2 hne q e) (fun e=>e),fun hne q e=>hc.none' ((h p hp).1.blk hne e) ((h p hp).2 hne q e)⟩
theorem SpS.below0 (h:SpS n room w0 mb fs nx ws0 rs w):Bw w0 w:=by
 obtain⟨o,m,V,h1,h2,h3⟩:=h;exact h2.chg.below0
theorem SpS.ask {Φ:Value->Int->Wd->Own->Prop}(h:SpS n room w0 mb fs nx ws0 rs W)(hb:Bw W w)(hc:∀ o m V,m.waits <:+ ws0->Ab o W->SatE Av n (fun _=>True) room w0 mb fs nx w o m V->Calls prog f args w fun x w'=>∃ v e,x=.returned (.tuple #[v,.int .i64 e])/\SpP n room w0 mb fs nx ws0 o w (Φ v e) w') :
 Calls prog f args w fun x w'=>∃ v e nx' o',x=.returned (.tuple #[v,.int .i64 e])/\nx<=nx'/\nx'<=nx+200/\Φ v e w' o'/\SpS n room w0 mb fs nx' ws0 rs w'/\∀ bs,AS w' v bs->(∀ q,v.ownBlock=some q->o' q=none)->SpS n room w0 mb fs nx' ws0 (rs++[(v,bs)]) w':=by
 obtain⟨o,m,V,h1,h2,h3⟩:=h;refine(hc o m V h1 h2.lt (h2.below hb)).mono ?_;rintro x w' ⟨v,e,rfl,nx',o',m',V',q1,q2,q3,q4,q5,q6⟩;have hr:=Wl h3 ((ChgX.of_below hb o NoB).trans q3 NoB.sub);refine⟨v,e,nx',o',rfl,q1,q2,q6,⟨o',m',V',q4,q5,hr⟩,fun bs hb hq=>⟨o',m',V',q4,q5,fun p hp=>?_⟩⟩;rcases Xa.1 hp with c|c
 . exact hr p c
 . simp at c;rw[c];exact⟨hb,fun _=>hq⟩
end
theorem Wm (bx bz:List Bool)(hlen:bz.length=bx.length)(ax az:Option Addr)(cx cz:Nat)(w:Wd)(h1:Cz w ax bx)(h2:Cz w az bz) :
 Calls prog 40 #[.slice ax bx.length cx,.slice az bx.length cz] w (Bl (.bool (decide (bx=bz))) w):=by
 have H1:=Hd h1;have H2:=Hd h2;have hl:=h1.len;have g7:=Hd hlen;obtain⟨L,hL⟩:=Ex bx.length;have HL:=Hd hL;rw[<- hL] at hl ⊢;clear h1 h2 hL hlen
 go_enter func40,ntmps40
 go_wp2_with fail
 go_loopw [4,5] (fun s4 s5 wr=>∃ j:Nat,j<=L/\s5=.int .i64 j/\Hq (Bw w wr)/\Hq (∀ q,q<j->bx.getD q false=bz.getD q false)) (fun _ s5 _=>L-(intOf s5).toNat)
 case atStart=>exact⟨0,WX _,rfl,Hd (Xd _ _),Hd fun q hq=>by omega⟩
 case round =>
  obtain⟨j,hj,rfl,HB,HQ⟩:=hrel
  by_cases g4:j<L
  ·obtain⟨b1,of1,rfl,c1⟩:=(H1.o.below HB.o).cells j (by rw[<- HL.o];exact g4);obtain⟨b2,of2,rfl,c2⟩:=(H2.o.below HB.o).cells j (by rw[g7.o,<- HL.o];exact g4);have g2:=Hd (HB.o.trans ((Ap wr 1).mono HB.o.size));have g9:(j:Int)<(L:Int):=by omega
   obtain⟨y1,g1⟩:∃ y,y=bx.getD j false:=⟨_,rfl⟩;obtain⟨y2,g0⟩:∃ y,y=bz.getD j false:=⟨_,rfl⟩;rw[<- g1] at c1;rw[<- g0] at c2;have g5:Hq (y1=y2->∀ q,q<j+1->bx.getD q false=bz.getD q false):=Hd fun e q hq=>by
    rcases Xe q j with h|h
    . exact HQ.o q h
    ·obtain rfl:q=j:=by omega
     rw[<- g1,<- g0,e]
   have g6:Hq (y1≠y2->bx≠bz):=Hd fun g8 e=>g8 (by rw[g1,g0,e])
   clear g1 g0;go_upto_region 6 with fail;refine AR (fun W:Wd=>W.cell? ⟨b1,of1+j,none⟩=some (.bool y1)/\W.cell? ⟨b2,of2+j,none⟩=some (.bool y2)) false 9
    [(0,false),(1,false),(2,false),(3,false),(4,false),(5,false),(6,false),(7,false),(8,false)] (by kernel_rfl) (by kernel_rfl) ⟨c1,c2⟩ ?_
   simp only[planned,AQ]
   iterate 9
    refine A3 rfl ?_;apply Exists.intro;refine⟨fun w' hw=>?_,?_⟩
    . obtain⟨h1,h2⟩:=hw;go_simp;rfl
    simp only[Ac]
   refine CM ?_;clear c1 c2;cases y1<;>cases y2
   ·have g3:=Hd (g5.o rfl);go_wp2_with fail;go_roundw
    case rel=>exact⟨j+1,by omega,by go_num,g2,g3⟩
    case measure=>simp[intOf];omega
   . have HF:Hq (Ending.returned (.bool false)=.returned (.bool (decide (bx=bz)))):=Hd (by rw[X8 (g6.o (by simp))]);go_wp2_with fail;go_ret;exact⟨HF.o,g2.o⟩
   . have HF:Hq (Ending.returned (.bool false)=.returned (.bool (decide (bx=bz)))):=Hd (by rw[X8 (g6.o (by simp))]);go_wp2_with fail;go_ret;exact⟨HF.o,g2.o⟩
   ·have g3:=Hd (g5.o rfl);go_wp2_with fail;go_roundw
    case rel=>exact⟨j+1,by omega,by go_num,g2,g3⟩
    case measure=>simp[intOf];omega
  ·have HF:Hq (Ending.returned (.bool true)=.returned (.bool (decide (bx=bz)))):=Hd (by
    rw[XA];refine Yl g7.o.symm fun i h1 h2=>?_
    have:=HQ.o i (by have:=HL.o;omega);simpa [List.getD,h1,h2] using this)
   have g9:¬ (j:Int)<(L:Int):=by omega
   go_wp2_with fail;go_ret;exact⟨HF.o,HB.o⟩
theorem Wn (h0:0<x)(h:x<4294967296):digD x=[x]:=by
 rw[CX (by omega),Zv h,BH,Nat.mod_eq_of_lt h]
theorem Wo (h:x<4294967296):bits .or .u64 0 (x:Int)=(x:Int):=by
 have h1:(BitVec.ofInt 64 (x:Int)).toNat=x:=by
  rw[BitVec.toNat_ofInt];omega
 show IntKind.u64.wrap ((BitVec.ofInt 64 0 ||| BitVec.ofInt 64 (x:Int)).toNat:Int)=_
 rw[BitVec.toNat_or,h1,show (BitVec.ofInt 64 0).toNat=0 by decide,Nat.zero_or,IntKind.wrap_u64];omega
theorem Wp (h:NatV w v x)(hx:x<4294967296) :
 Calls prog 94 #[v] w (Sm (.tuple #[.int .u64 (x:Nat),.bool true]) w):=by
 have HT:=Hd (G8 h);obtain⟨a0,c0,rfl,_,_,_⟩:=h
 by_cases h0:x=0
 ·subst h0;rw[BH] at HT ⊢
  go_enter func94,ntmps94
  go_wp2_with fail;refine HT.o.mono ?_;rintro e w' ⟨⟨v',rfl,hv⟩,rfl⟩;obtain⟨a,c,rfl,_,_,_⟩:=hv;rw[BH];clear HT;go_wp2_with fail
  go_loopw [2,4,5,13] (fun s2 _ _ s13 wr=>wr=w/\s2=.int .u64 0/\s13=.int .i64 0) (fun _ _ _ _ _=>0)
  case atStart=>exact⟨rfl,rfl,rfl⟩
  case round =>
   obtain⟨rfl,rfl,rfl⟩:=hrel;go_wp2_with fail
   go_ret2
   exact⟨rfl,rfl⟩
 ·have hd:=Wn (x:=x) (by omega) hx;rw[hd] at HT ⊢
  go_enter func94,ntmps94
  go_wp2_with fail;refine HT.o.mono ?_;rintro e w' ⟨⟨v',rfl,hv⟩,rfl⟩;obtain⟨a,c,rfl,_,_,hu⟩:=hv;obtain⟨b,off,rfl,hc⟩:=hu.cells 0 (by rw[hd];simp);rw[hd] at hc;have g0:w.cell? ⟨b,off,none⟩=some (.int .u32 (x:Nat)):=hc;rw[hd];clear HT hc hu hd;go_wp2_with fail
  go_loopw [2,4,5,13] (fun s2 _ _ s13 wr=>wr=w/\∃ j:Nat,j<=1/\s13=.int .i64 (j:Nat)/\s2=.int .u64 (if j=0 then 0 else (x:Int))) (fun _ _ _ s13 _=>1-(intOf s13).toNat)
  case atStart=>exact⟨rfl,0,by omega,rfl,rfl⟩
  case round =>
   obtain⟨rfl,j,hj,rfl,rfl⟩:=hrel;rcases(show j=0\/j=1 by omega) with rfl|rfl
   . rw[WR rfl];go_wp2_with fail;exact⟨⟨trivial,1,by omega,rfl,by rw[Wo hx];rfl⟩,by simp[intOf]⟩
   ·rw[WO (by omega)];go_wp2_with fail
    go_ret2
    exact⟨rfl,rfl⟩
theorem Wq (h:NatV w v x)(hx:x<4294967296) :
 Calls prog 38 #[v] w (Sm (.int .i64 (x:Nat)) w):=by
 have HI:=Hd (Wp h hx);have g0:¬ (1099511627776:Int)<(x:Nat):=by omega
 have g1:IntKind.i64.wrap ((x:Nat):Int)=(x:Nat):=Zm _ ⟨by omega,by omega⟩;clear h
 go_enter func38,ntmps38
 go_wp2_with fail;refine HI.o.mono ?_;rintro e w' ⟨rfl,rfl⟩;go_wp2_with fail;go_ret;exact⟨rfl,rfl⟩
section
variable {o:Own}
theorem O4 (hK:A5 K)(h:SatE K n (fun _=>True) room w0 mb fs nx w o m V)(hw:m.waits <:+ ws0)(hn:nx<=549755813888)(hr:(fs.length+1)*2^n<=room){v:Nat}(hv:v<n) :
 Calls prog 58 #[Pt mb,.int .i64 v] w fun x w''=>x=.returned (.tuple #[.int .i64 nx,.int .i64 0])/\Goes K n (fun _=>True) room w0 mb (fs++[(nx,varF v)]) (nx+1) (W2 (SufW ws0)) o w w'':=by
 refine(Lm hK h ws0 hw none (fun _ e=>by cases e) (fun _ e=>by cases e) (fun ev _=>LQ hn ev) (by omega) v hv).mono ?_;rintro x w'' hp;obtain⟨o2,m2,V2,q1,q2,q3,q4⟩:=S9 hp Nat.one_le_two_pow hr;exact⟨q3,o2,m2,V2,q1,q2,q4⟩
end
def l20A:List (Int×BF):=two++[(2,varF 0)]
def l20B:List (Int×BF):=l20A++[(3,varF 1)]
def l20F:BF:=orF (varF 0) (varF 1)
def l20C:List (Int×BF):=l20B++[(4,l20F)]
theorem Ws:Cl orF (DE 1) [varF 0,varF 1]=l20F:=by
 funext ρ
 show iteB (iteB false true (varF 0 ρ)) true (varF 1 ρ)=iteB (varF 0 ρ) true (varF 1 ρ)
 cases varF 0 ρ<;>cases varF 1 ρ<;>rfl
theorem EI:allL [1,0] l20F=[[false,true],[true,false],[true,true]]:=by decide
theorem JW:chkE 2 l20F [1,0]=0:=by
 have h:∀ z∈([1,0]:List Int),0<=z/\z<((2:Nat):Int):=by intro z hz;simp at hz;omega
 unfold chkE;rw[GJ h,WR (by decide)];unfold cntE;rw[WR h,WR];intro v hv _;rcases(show v=0\/v=1 by omega) with rfl|rfl<;>simp
theorem Wu (vs:List Nat):(intL vs).map Int.toNat=vs:=by
 unfold intL;rw[Y7];exact List.map_id _
theorem EJ (h:([1,0]:List Int)=intL vs):vs=[1,0]:=by
 rw[<- Wu vs,<- h];rfl
section
variable {rs:List (Value×List Bool)}
abbrev S20 (w:Wd)(mb:Nat)(nx:Int)(rs:List (Value×List Bool))(W:Wd):Prop:=SpS 2 400 w mb l20C nx [] rs W
theorem Wv (h:S20 w mb nx rs W)(hn:nx<=1000) :
 Calls prog 50 #[Pt mb,.int .i64 4,.slice (some ⟨W.heap.size,0,none⟩) 2 2] (W.alloc (.cells #[.int .i64 1,.int .i64 0] 3)) fun x w'=>∃ v nx',x=.returned (.tuple #[v,.int .i64 0])/\nx'<=nx+200/\S20 w mb nx' (rs++[(v,[false,true])]) w':=by
 refine(h.ask (Af W _) fun o m V hw g2 hs=>VW hs hw ⟨by simp[l20C,l20B,l20A,two],by simp[l20C,l20B,l20A,two]⟩ (kf:=4) (G:=l20F) (by simp[l20C]) (c:=2) (Eh W [1,0] (by simp)) (by simp) (fun _ x hx=>by cases hx;exact g2.none (WM _)) (by omega) (by decide)).mono ?_
 ·rintro x w' ⟨v,e,nx',o',rfl,_,g1,hr,_,g0⟩;rcases hr with ⟨h1,_⟩|⟨_,vs,e1,⟨h2,_⟩|⟨ds,h2,rfl,h3,h4⟩⟩
  . exact absurd JW h1
  . rw[EJ e1,EI] at h2;cases h2
  . rw[EJ e1,EI] at h2;cases h2;exact⟨v,nx',rfl,g1,g0 _ h3 h4⟩
theorem O5 (h:S20 w mb nx rs W)(hn:nx<=1000){kv:Value}(hk:NatV W1 kv k)(hb1:Bw W W1)(hkq:∀ q,kv.ownBlock=some q->W.heap.size<=q) :
 Calls prog 48 #[Pt mb,.int .i64 4,kv,.slice (some ⟨W1.heap.size,0,none⟩) 2 2] (W1.alloc (.cells #[.int .i64 1,.int .i64 0] 3)) fun x w'=>∃ v e nx',x=.returned (.tuple #[v,.int .i64 e])/\nx'<=nx+200 /\
  ((k<3/\e=0/\∃ ds,(allL [1,0] l20F)[k]?=some ds/\S20 w mb nx' (rs++[(v,ds)]) w')\/(3<=k/\e=2/\S20 w mb nx' rs w')):=by
 have g3:=hb1.trans ((Af W1 (.cells #[.int .i64 1,.int .i64 0] 3)).mono hb1.size);refine(h.ask g3 fun o m V hw g1 hs=>Wb hs hw ⟨by simp[l20C,l20B,l20A,two],by simp[l20C,l20B,l20A,two]⟩ (kf:=4) (G:=l20F) (by simp[l20C]) (c:=2) (Eh W1 [1,0] (by simp)) (by simp) (fun _ x hx=>by cases hx;exact g1.none hb1.size) (hk.below (Af W1 _)) (fun _ q e=>g1.none (hkq q e)) (by omega) (by decide)).mono ?_;rintro x w' ⟨v,e,nx',o',rfl,_,g0,hr,hS,g2⟩;rcases hr with ⟨h1,_⟩|⟨_,vs,e1,⟨h2,rfl,_⟩|⟨ds,h2,rfl,h3,h4⟩⟩
 . exact absurd JW h1
 . rw[EJ e1,EI] at h2;exact⟨v,2,nx',rfl,g0,.inr ⟨h2,rfl,hS⟩⟩
 . rw[EJ e1] at h2;refine⟨v,0,nx',rfl,g0,.inl ⟨?_,rfl,ds,h2,g2 _ h3 h4⟩⟩;rw[EI] at h2;exact(Xk.1 h2).1
theorem Ww (h:S20 w mb nx rs W)(hn:nx<=1000)(hW1:W1=W.alloc (.cells #[.bool true,.bool true] 4)) :
 Calls prog 35 #[Pt mb,.int .i64 4,.slice (some ⟨W.heap.size,0,none⟩) 2 2,.slice (some ⟨W1.heap.size,0,none⟩) 2 2] (W1.alloc (.cells #[.int .i64 1,.int .i64 0] 3)) fun x w'=>∃ v nx',x=.returned (.tuple #[v,.int .i64 0])/\NatV w' v 2/\S20 w mb nx' rs w':=by
 have g1:Bw W W1:=by rw[hW1];exact Af _ _
 have g4:=g1.trans ((Af W1 (.cells #[.int .i64 1,.int .i64 0] 3)).mono g1.size);have g0:W1.heap[W.heap.size]?=some (.cells #[.bool true,.bool true] 4 (0,0)):=by rw[hW1];exact WN _ _
 have g3:AS W1 (.slice (some ⟨W.heap.size,0,none⟩) 2 2) [true,true]:=⟨_,2,rfl,⟨by simp,fun k hk=>by
  rcases(show k=0\/k=1 by simp at hk;omega) with rfl|rfl
  . exact⟨_,0,rfl,by rw[WQ _ _ 0 _ _ _ g0];rfl⟩
  . exact⟨_,0,rfl,by rw[WQ _ _ 1 _ _ _ g0];rfl⟩⟩,fun e=>by cases e⟩
 refine(h.ask g4 fun o m V hw g2 hs=>Wk hs hw ⟨by simp[l20C,l20B,l20A,two],by simp[l20C,l20B,l20A,two]⟩ (kf:=4) (G:=l20F) (by simp[l20C]) (c:=2) (Eh W1 [1,0] (by simp)) (by simp) (fun _ x hx=>by cases hx;exact g2.none g1.size) (g3.below (Af W1 _)) (fun _ q e=>by cases e;exact g2.none (WM _)) (by omega) (by decide)).mono ?_;rintro x w' ⟨v,e,nx',o',rfl,_,g5,hr,hS,_⟩;rcases hr with ⟨h1,_⟩|⟨_,h1,_⟩|⟨_,vs,e1,_,⟨h2,_⟩|⟨k,h2,rfl,h3⟩⟩
 . exact absurd JW h1
 . exact absurd rfl h1
 . rw[EJ e1,show l20F (asg [1,0] [true,true])=true by decide] at h2;cases h2
 ·rw[EJ e1,EI] at h2;refine⟨v,nx',rfl,?_,hS⟩;have hk:k=2:=by
   have:=(Xk.1 h2).1;rcases(show k=0\/k=1\/k=2 by simp at this;omega) with rfl|rfl|rfl
   . simp at h2
   . simp at h2
   . rfl
  rw[<- hk];exact h3
end
theorem O6 {T:Wd}{a:Option Addr}{b1 b2:Bool}(h:Cz W a [b1,b2])(hT:T=W.alloc (.cells #[.bool b1,.bool b2] 4)) :
 Calls prog 40 #[.slice a 2 c,.slice (some ⟨W.heap.size,0,none⟩) 2 2] T (Bl (.bool true) T):=by
 have hb:Bw W T:=by rw[hT];exact Af _ _
 have g0:T.heap[W.heap.size]?=some (.cells #[.bool b1,.bool b2] 4 (0,0)):=by rw[hT];exact WN _ _
 have hs:=Wm [b1,b2] [b1,b2] rfl a (some ⟨W.heap.size,0,none⟩) c 2 T (h.below hb) ⟨by simp,fun k hk=>by
  rcases(show k=0\/k=1 by simp at hk;omega) with rfl|rfl
  . exact⟨_,0,rfl,by rw[WQ _ _ 0 _ _ _ g0];rfl⟩
  . exact⟨_,0,rfl,by rw[WQ _ _ 1 _ _ _ g0];rfl⟩⟩
 rw[XA rfl] at hs;exact hs
theorem JX (w:Wd):Calls prog 33 #[] w (Bl (.bool true) w):=by
 have g4:=Hd (MK (K:=Av) 2 400 w (by omega) (by omega) (by omega));have ge:Hq (∀ mb W,StF Av 2 400 w mb two 2 [] [] W->Calls prog 58 #[Pt mb,.int .i64 0] W fun x w'=>x=.returned (.tuple #[.int .i64 2,.int .i64 0])/\StF Av 2 400 w mb l20A 3 [] [] w') :=
  Hd fun mb W g=>g.go fun o m V hw hs=>O4 Cn hs hw (by omega) (by decide) (v:=0) (by omega)
 have gd:Hq (∀ mb W,StF Av 2 400 w mb l20A 3 [] [] W->Calls prog 58 #[Pt mb,.int .i64 1] W fun x w'=>x=.returned (.tuple #[.int .i64 3,.int .i64 0])/\StF Av 2 400 w mb l20B 4 [] [] w') :=
  Hd fun mb W g=>g.go fun o m V hw hs=>O4 Cn hs hw (by omega) (by decide) (v:=1) (by omega)
 have gf:Hq (∀ mb W,StF Av 2 400 w mb l20B 4 [] [] W->Calls prog 89 #[Pt mb,.slice (some ⟨W.heap.size,0,none⟩) 2 2] (W.alloc (.cells #[.int .i64 2,.int .i64 3] 3)) fun x w'=>x=.returned (.tuple #[.int .i64 4,.int .i64 0])/\S20 w mb 5 [] w'):=by
  refine Hd fun mb W g=>?_
  obtain⟨o,m,V,h1,h2,_⟩:=g;have hb:=Af W (.cells #[.int .i64 2,.int .i64 3] 3)
  have ha:ArgL l20B w (W.alloc (.cells #[.int .i64 2,.int .i64 3] 3)) o (some ⟨W.heap.size,0,none⟩) [2,3] [varF 0,varF 1]:=⟨Eh W [2,3] (by simp),fun x hx=>by
   cases hx;exact⟨by simp,h2.chg.size,h2.lt.none (WM _)⟩,rfl,fun i hi=>by
   rcases(show i=0\/i=1 by simp at hi;omega) with rfl|rfl<;>simp[l20B,l20A]⟩
  refine(Tw (c:=2) Cn (h2.below hb) ha h1 (by omega) (by decide)).mono ?_;rintro x w' ⟨q1,o',m',V',q2,q3,q4⟩;rw[show Cl orF (DE 1) [varF 0,varF 1]=l20F from Ws] at q4;exact⟨q1,o',m',V',q3,q4,fun p hp=>by cases hp⟩
 go_enter func33,ntmps33
 go_wp2_with fail;refine g4.o.mono ?_;rintro x w1 ⟨mb,rfl,o,m,V,g8,g7,_,gn⟩;have H1:=Hd (ge.o mb w1 (StF.of (by rw[g7];exact List.suffix_refl _) g8 (by simp)));clear g8 g7 gn g4 ge;go_wp2_with fail;refine H1.o.mono ?_;rintro x w2 ⟨rfl,h2⟩;have H2:=Hd (gd.o mb w2 h2);clear h2 H1 gd;go_wp2_with fail;refine H2.o.mono ?_;rintro x w3 ⟨rfl,h3⟩;have H3:=Hd (gf.o mb w3 h3);clear h3 H2 gf;go_wp2_with fail;refine H3.o.mono ?_;rintro x w4 ⟨rfl,h4⟩;have H4:=Hd (Wv h4 (by omega));clear h4 H3;go_wp2_with fail;refine H4.o.mono ?_;rintro x w5 ⟨v5,nx5,rfl,gt,h5⟩;have g2:=Hd h5;have gh:=Hd (J6 (w:=w5) (n:=1) (by omega));clear h5 H4;go_wp2_with fail;refine gh.o.mono ?_;rintro x w6 ⟨⟨u6,rfl,n6,q6⟩,gc⟩;have H6:=Hd (O5 g2.o (by omega) n6 gc q6);clear n6 gc q6 g2 gh;go_wp2_with fail;refine H6.o.mono ?_;rintro x w7 ⟨v7,e7,nx7,rfl,gs,hh⟩;obtain⟨rfl,ds7,g3,h7⟩:e7=0/\∃ ds,(allL [1,0] l20F)[1]?=some ds/\S20 w mb nx7 ([]++[(v5,[false,true])]++[(v7,ds)]) w7:=by
  rcases hh with ⟨_,a,b⟩|⟨c,_⟩
  . exact⟨a,b⟩
  . omega
 obtain rfl:ds7=[true,false]:=by rw[EI] at g3;simpa using g3.symm
 have g1:=Hd h7;have gg:=Hd (J6 (w:=w7) (n:=3) (by omega));clear h7 H6 g3 hh;go_wp2_with fail;refine gg.o.mono ?_;rintro x w8 ⟨⟨u8,rfl,n8,q8⟩,gb⟩;have H8:=Hd (O5 g1.o (by omega) n8 gb q8);clear n8 gb q8 g1 gg;go_wp2_with fail;refine H8.o.mono ?_;rintro x w9 ⟨v9,e9,nx9,rfl,gr,hh⟩;obtain⟨rfl,h9⟩:e9=2/\S20 w mb nx9 ([]++[(v5,[false,true])]++[(v7,[true,false])]) w9:=by
  rcases hh with ⟨c,_⟩|⟨_,a,b⟩
  . omega
  . exact⟨a,b⟩
 have H9:=Hd (Ww h9 (by omega) rfl);rw[show (w9.alloc (.cells #[.bool true,.bool true] 4)).heap.size=w9.heap.size+1 by simp] at H9;clear h9 H8 hh;go_wp2_with fail;refine H9.o.mono ?_;rintro x wb ⟨vb,nxb,rfl,nb,hb⟩;have gm:=Hd hb.below0;obtain⟨_,_,_,_,_,g0⟩:=hb;obtain⟨a5,c5,e5,k5,_⟩:=(g0 (v5,[false,true]) (by simp)).1;obtain⟨a7,c7,e7,k7,_⟩:=(g0 (v7,[true,false]) (by simp)).1;dsimp only at e5 e7;subst e5 e7;have g2:=Hd (O6 (c:=c5) k5 rfl);have gj:Hq (∀ W,Bw wb W->Cz W a7 [true,false]):=Hd fun W hb=>k7.below hb
 have gi:Hq (∀ W,Bw wb W->NatV W vb 2):=Hd fun W hb=>nb.below hb
 have gk:=Hd (Af wb (.cells #[.bool false,.bool true] 4));clear g0 k5 k7 nb H9;go_wp2_with fail;refine g2.o.mono ?_;rintro x wc ⟨rfl,ga⟩;have g6:=Hd (gk.o.trans (ga.mono gk.o.size));have g1:=Hd (O6 (c:=c7) (gj.o wc g6.o) rfl);have g5:=Hd (Af wc (.cells #[.bool true,.bool false] 4));clear ga g2 gj;go_wp2_with fail;refine g1.o.mono ?_;rintro x wd ⟨rfl,g9⟩;have gl:=Hd (g6.o.trans ((g5.o.trans (g9.mono g5.o.size)).mono g6.o.size));have gp:=Hd (Wq (gi.o wd gl.o) (by omega));clear g9 g1 gi;go_wp2_with fail;refine gp.o.mono ?_;rintro x w' ⟨rfl,rfl⟩;have gq:=Hd (gm.o.trans (gl.o.mono gm.o.size));go_wp2_with fail;go_ret;exact⟨rfl,gq.o⟩
section
variable {o:Own}
theorem JY (h:SatE K n Od room w0 mb fs nx w o m V){k:Int}(hk:¬ known fs k)(a:Option Addr)(l c:Nat) :
 Calls prog 90 #[Pt mb,.int .i64 k,.slice a l c] w (Sm (.tuple #[.slice none 0 0,.int .i64 8]) w):=by
 have g0:Hq (Calls prog 29 #[Pt mb,.int .i64 k] w (Sm (.bool false) w)):=Hd (Fy h k (b:=false) (by simp[hk]));clear h hk
 delta Pt;go_enter func90,ntmps90
 go_wp2_with fail;refine g0.o.mono ?_;rintro x w' ⟨rfl,rfl⟩;go_wp2_with fail
 go_ret2
 exact⟨rfl,rfl⟩
theorem Wx (w:Wd)(k:Int)(a:Option Addr)(l c:Nat) :
 Calls prog 90 #[.pointer none,.int .i64 k,.slice a l c] w (Sm (.tuple #[.slice none 0 0,.int .i64 5]) w):=by
 go_enter func90,ntmps90
 go_wp2_with fail
 go_ret2
 exact⟨rfl,rfl⟩
theorem Wy (w:Wd)(k:Int)(a:Option Addr)(l c:Nat) :
 Calls prog 50 #[.pointer none,.int .i64 k,.slice a l c] w (Sm (.tuple #[.slice none 0 0,.int .i64 5]) w):=by
 have HC:=Hd (Wx w k a l c)
 go_enter func50,ntmps50
 go_wp2_with fail;refine HC.o.mono ?_;rintro x w' ⟨rfl,rfl⟩;go_wp2_with fail
 go_ret2
 exact⟨rfl,rfl⟩
theorem Wz (h:SatE K n Od room w0 mb fs nx w o m V){k:Int}(hk:¬ known fs k){kv:Value}(hkv:NatV w kv x)(a:Option Addr)(l c:Nat) :
 Calls prog 48 #[Pt mb,.int .i64 k,kv,.slice a l c] w (Bl (.tuple #[.slice none 0 0,.int .i64 8]) w):=by
 obtain⟨ka,kc,rfl,_,_,_⟩:=hkv;obtain⟨w1,g0⟩:=Ex (w.alloc (.cells #[.slice ka (digD x).length kc] 40));have HW1:Hq (_=w1):=Hd g0.symm;have g1:Bw w w1:=by rw[g0];exact Af _ _
 have HC:=Hd (JY (h.below g1) hk a l c);have HB:=Hd g1;clear h hk g0 g1
 delta Pt;go_enter func48,ntmps48
 go_upto_region 1 with fail;rw[HW1.o];go_wp2_with fail;refine HC.o.mono ?_;rintro x w' ⟨rfl,rfl⟩;go_wp2_with fail
 go_ret2
 exact⟨rfl,HB.o⟩
theorem W9 (h:SatE K n Od room w0 mb fs nx w o m V){k:Int}(hk:¬ known fs k)(la:Option Addr)(ll lc:Nat)(a:Option Addr)(l c:Nat) :
 Calls prog 35 #[Pt mb,.int .i64 k,.slice la ll lc,.slice a l c] w (Bl (.tuple #[.slice none 0 0,.int .i64 8]) w):=by
 obtain⟨w1,g0⟩:=Ex (w.alloc (.cells #[.slice la ll lc] 54));have HW1:Hq (_=w1):=Hd g0.symm;have g1:Bw w w1:=by rw[g0];exact Af _ _
 have HC:=Hd (JY (h.below g1) hk a l c);have HB:=Hd g1;clear h hk g0 g1
 delta Pt;go_enter func35,ntmps35
 go_upto_region 1 with fail;rw[HW1.o];go_wp2_with fail;refine HC.o.mono ?_;rintro x w' ⟨rfl,rfl⟩;go_wp2_with fail
 go_ret2
 exact⟨rfl,HB.o⟩
end
section
variable {o:Own}
theorem WA (h:SatE K n Od room w0 mb fs nx w o m V){k:Int}(hk:¬ known fs k)(z:Int)(a:Option Addr)(l c:Nat) :
 Calls prog 47 #[Pt mb,.int .i64 k,.int .i64 z,.slice a l c] w (Bl (.tuple #[.slice none 0 0,.int .i64 8]) w):=by
 obtain⟨w1,g0⟩:=Ex (w.alloc (.cells #[.pointer (some ⟨mb,0,none⟩)] 29));obtain⟨w2,g4⟩:=Ex (w1.alloc (.cells #[.int .i64 z] 3));obtain⟨w3,g2⟩:=Ex (w2.alloc (.cells #[.slice a l c] 22));have HW1:Hq (_=w1):=Hd g0.symm;have ga:Hq (_=w2):=Hd g4.symm;have g9:Hq (_=w3):=Hd g2.symm;have g6:Bw w w1:=by rw[g0];exact Af _ _
 have g5:Bw w1 w2:=by rw[g4];exact Af _ _
 have g7:Bw w2 w3:=by rw[g2];exact Af _ _
 have hs1:w1.heap.size=w.heap.size+1:=by rw[g0];simp
 have g8:w2.heap.size=w.heap.size+2:=by rw[g4];simp[hs1]
 have g1:w1.heap[w.heap.size]?=some (.cells #[.pointer (some ⟨mb,0,none⟩)] 29 (0,0)):=by rw[g0];exact WN _ _
 have g3:w3.heap[w.heap.size+2]?=some (.cells #[.slice a l c] 22 (0,0)):=by rw[<- g8,g2];exact WN _ _
 have hb:=(g6.trans (g5.mono g6.size)).trans (g7.mono (WU g6.size g5.size));have c1:w3.cell? ⟨w.heap.size,0,none⟩=some (.pointer (some ⟨mb,0,none⟩)):=cell1 ((g7.block _ (by omega)).trans ((g5.block _ (by omega)).trans g1));have c3:w3.cell? ⟨w.heap.size+1+1,0,none⟩=some (.slice a l c):=cell1 g3;have HC:=Hd (JY (h.below hb) hk a l c);have HB:=Hd hb;clear h hk g0 g4 g2 g6 g5 g7 hs1 g8 g1 g3 hb
 delta Pt;go_enter func47,ntmps47
 go_upto_region 1 with fail;rw[HW1.o,ga.o,g9.o];clear HW1 ga g9;go_wp2_with fail;refine HC.o.mono ?_;rintro x w' ⟨rfl,rfl⟩;go_wp2_with fail
 go_ret2
 exact⟨rfl,HB.o⟩
end
section
theorem WB (u:Value)(w:Wd):Calls prog 96 #[.pointer none,u] w (Bl (.int .i64 5) w):=by
 go_enter func96,ntmps96
 go_wp2_with fail;go_ret
 first|exact⟨rfl,Xd _ _⟩|exact⟨rfl,Af _ _⟩
end
theorem WC (args:Array Value)(w:Wd):(callFunc 97 args).run prog w=.ok (.enter 97 args) w:=XY func97 (by kernel_rfl) rfl args w
def EK (bl bf bn:Nat)(k:Int)(W:Wd):Prop:=(∃ la ll lc,W.heap[bl]?=some (.cells #[.slice la ll lc] 64 (0,0)))/\W.cell? ⟨bf,0,none⟩=some (.int .i64 k)/\∃ z:Bool,W.heap[bn]?=some (.cells #[.bool z] 4 (0,0))
abbrev CAny (bl bf bn:Nat):Nat->Prop:=fun c=>c=bl\/c=bf\/c=bn
section
variable {o:Own}
theorem WD {k:Int}(hk:¬ known fs k)(hw0:w0.heap.size<=bl)(hne:bl≠bf/\bl≠bn)(ws0:List Ev) :
 OpL K n (fun _=>True) room w0 mb fs nx (CAny bl bf bn) (EK bl bf bn k) (fun m=>m.waits <:+ ws0) 97 #[.pointer (some ⟨bl,0,none⟩),.pointer (some ⟨bf,0,none⟩),.pointer (some ⟨bn,0,none⟩)]
  (fun _ _ _=>False) (fun er _ m'=>er=8/\m'.waits <:+ ws0):=by
 intro o W m V xb g0 hB hC g4 g2 hnx;obtain⟨⟨la,ll,lc,hl⟩,hf,z,hz⟩:=hB;obtain⟨w1,g1⟩:=Ex (W.setCell ⟨bl,0,none⟩ (.slice none 0 0));have HW1:Hq (_=w1):=Hd g1.symm;have hw:Wr (· = bl) W w1:=by rw[g1];exact(Wr.refl (· = bl) W).setCell (p:=⟨bl,0,none⟩) (.inl rfl) _
 have g3:=hC bl (.inl rfl);have g7:=hC bf (.inr (.inl rfl));have g6:=hC bn (.inr (.inr rfl));have hs1:=g0.other hw (fun q _ e=>by subst e;exact⟨hw0,g3.2⟩);have g5:AH o w1 xb mb:=⟨Co g2.cell (hw.keep xb (Ag g2.cell) (fun e=>hnx (.inl e))),g2.own⟩;have c0:=cell1 hl;have f0:W.frozen? ⟨bl,0,none⟩=false:=by simp[World.frozen?,hl]
 have c1:w1.cell? ⟨bf,0,none⟩=some (.int .i64 k):=Co hf (hw.keep bf g7.1 (fun e=>hne.1 e.symm));have HE:=Hd (Q8 hs1.is g5 (k:=k) (fun f hm=>hk ⟨ef V f,by rw[<- g0.hs];exact WW.2 ⟨_,hm,rfl⟩⟩))
 have HF:Hq (∃ (o':Own) (m':ManD) (V':Nat->BF),Bu (CAny bl bf bn) K o W mb m V o' w1 m' V'/\EK bl bf bn k w1 /\
  ((Au 8 false ev0=.returned (.tuple #[])/\False)\/(∃ er:Int,Au 8 false ev0=Au er false ev0/\er≠0/\m'.waits=m.waits/\m'.waits <:+ ws0/\er=8/\m'.waits <:+ ws0)\/(∃ ev,Au 8 false ev0=Au 0 true ev/\m.waits=ev::m'.waits/\StE K n (fun _=>True) room w0 mb fs nx (fun m=>m.waits <:+ ws0) m'/\HapG K n (fun _=>True) room w0 mb fs nx ev))):=Hd
  ⟨o,m,V,Bu.write ((AtC.refl g0.is g0.lt g0.ok.store).st.toX _) hw (fun q e=>by subst e;exact⟨.inl rfl,g3.2,g3.1⟩),⟨⟨none,0,0,by rw[g1];exact Az hl _⟩,c1,z,(hw.keep bn g6.1 (fun e=>hne.2 e.symm)).trans hz⟩,.inr (.inl ⟨8,rfl,by omega,rfl,g4,rfl,g4⟩)⟩
 obtain⟨P,hP⟩:∃ P:Ending->Wd->Prop,P=fun e w'=>∃ (o':Own) (m':ManD) (V':Nat->BF),Bu (CAny bl bf bn) K o W mb m V o' w' m' V'/\EK bl bf bn k w' /\
  ((e=.returned (.tuple #[])/\False)\/(∃ er:Int,e=Au er false ev0/\er≠0/\m'.waits=m.waits/\m'.waits <:+ ws0/\er=8/\m'.waits <:+ ws0)\/(∃ ev,e=Au 0 true ev/\m.waits=ev::m'.waits/\StE K n (fun _=>True) room w0 mb fs nx (fun m=>m.waits <:+ ws0) m'/\HapG K n (fun _=>True) room w0 mb fs nx ev)):=⟨_,rfl⟩
 have g8:Hq (P (Au 8 false ev0) w1):=Hd (by rw[hP];exact HF.o)
 show Calls _ _ _ _ fun e w'=>∃ (o':Own) (m':ManD) (V':Nat->BF),Bu (CAny bl bf bn) K o W mb m V o' w' m' V'/\EK bl bf bn k w' /\
  ((e=.returned (.tuple #[])/\False)\/(∃ er:Int,e=Au er false ev0/\er≠0/\m'.waits=m.waits/\m'.waits <:+ ws0/\er=8/\m'.waits <:+ ws0)\/(∃ ev,e=Au 0 true ev/\m.waits=ev::m'.waits/\StE K n (fun _=>True) room w0 mb fs nx (fun m=>m.waits <:+ ws0) m'/\HapG K n (fun _=>True) room w0 mb fs nx ev))
 rw[<- hP];clear hP HF g0 hC g4 g2 hnx hl hf hz g1 hw g3 g7 g6 hs1 g5
 go_enter func97,ntmps97
 go_upto_region 1 with fail;rw[HW1.o];go_wp2_with fail;refine HE.o.mono ?_;rintro e w' ⟨rfl,rfl⟩;unfold Au;go_wp2_with fail;exact⟨rfl,g8.o⟩
theorem WE (w:Wd)(k:Int):Calls prog 41 #[.pointer none,.int .i64 k] w (Bl (.tuple #[.slice none 0 0,.int .i64 5]) w):=by
 have g3:∀ (fn:Fn) (first cap:Array Value) (w:Wd),(Instr.makeFunc fn first cap).run prog w=.ok (.func fn first cap) w:=fun _ _ _ _=>rfl
 obtain⟨w3,g0⟩:=Ex (((w.alloc (.cells #[.int .i64 k] 3)).alloc (.cells #[.slice none 0 0] 64)).alloc (.cells #[.bool false] 4));have g2:Hq (_=w3):=Hd g0.symm;have g1:Bw w w3:=by rw[g0];exact((Af _ _).alloc (by simp) _).alloc (by simp;omega) _
 have HL:Hq (∀ u,Calls prog 96 #[.pointer none,u] w3 (Bl (.int .i64 5) w3)):=Hd fun u=>WB u w3
 have HB:=Hd g1;clear g0 g1
 go_enter func41,ntmps41
 go_upto_region 3 with fail;rw[g2.o];clear g2;go_wp2_with fail;refine(HL.o _).mono ?_;rintro x w' ⟨rfl,hb⟩;have HF:=Hd (HB.o.trans (hb.mono HB.o.size));clear hb HL HB;go_wp2_with fail
 go_ret2
 exact⟨rfl,HF.o⟩
theorem WG (h:SatE K n (fun _=>True) room w0 mb fs nx w o m V){k:Int}(hk:¬ known fs k)(hst:m.waits <:+ ws0) :
 Calls prog 41 #[Pt mb,.int .i64 k] w fun x w'=>x=.returned (.tuple #[.slice none 0 0,.int .i64 8])/\∃ o' m' V',ChgX NoB o o' w w'/\m'.waits <:+ ws0/\SatE K n (fun _=>True) room w0 mb fs nx w' o' m' V':=by
 have gi:∀ (fn:Fn) (first cap:Array Value) (w:Wd),(Instr.makeFunc fn first cap).run prog w=.ok (.func fn first cap) w:=fun _ _ _ _=>rfl
 obtain⟨w1,g5⟩:=Ex (w.alloc (.cells #[.int .i64 k] 3));obtain⟨w2,g4⟩:=Ex (w1.alloc (.cells #[.slice none 0 0] 64));obtain⟨w3,g0⟩:=Ex (w2.alloc (.cells #[.bool false] 4));have HW1:Hq (_=w1):=Hd g5.symm;have gc:Hq (_=w2):=Hd g4.symm;have gb:Hq (_=w3):=Hd g0.symm;have g8:Bw w w1:=by rw[g5];exact Af _ _
 have g7:Bw w1 w2:=by rw[g4];exact Af _ _
 have g6:Bw w2 w3:=by rw[g0];exact Af _ _
 have hs1:w1.heap.size=w.heap.size+1:=by rw[g5];simp
 have g9:w2.heap.size=w.heap.size+1+1:=by rw[g4];simp[hs1]
 have gd:w3.heap.size=w.heap.size+1+1+1:=by rw[g0];simp[g9]
 have g1:w1.heap[w.heap.size]?=some (.cells #[.int .i64 k] 3 (0,0)):=by rw[g5];exact WN _ _
 have g2:w2.heap[w.heap.size+1]?=some (.cells #[.slice none 0 0] 64 (0,0)):=by rw[<- hs1,g4];exact WN _ _
 have g3:w3.heap[w.heap.size+1+1]?=some (.cells #[.bool false] 4 (0,0)):=by rw[<- g9,g0];exact WN _ _
 have hb:=(g8.trans (g7.mono g8.size)).trans (g6.mono (WU g8.size g7.size));have c1:w3.cell? ⟨w.heap.size,0,none⟩=some (.int .i64 k):=cell1 ((g6.block _ (by omega)).trans ((g7.block _ (by omega)).trans g1));have g2':=(g6.block _ (by omega)).trans g2;have hw0:=h.chg.size;have ga:=WD (K:=K) (n:=n) (room:=room) (w0:=w0) (mb:=mb) (nx:=nx) (bl:=w.heap.size+1) (bf:=w.heap.size) (bn:=w.heap.size+1+1) hk (by omega) ⟨by omega,by omega⟩ ws0;obtain⟨P,hP⟩:=Ex (fun w'=>∃ o' m' V',ChgX NoB o o' w w'/\m'.waits <:+ ws0/\SatE K n (fun _=>True) room w0 mb fs nx w' o' m' V':Wd->Prop)
 have gh:∀ W W',EK (w.heap.size+1) w.heap.size (w.heap.size+1+1) k W->(∀ c,CAny (w.heap.size+1) w.heap.size (w.heap.size+1+1) c->W'.heap[c]?=W.heap[c]?)->EK (w.heap.size+1) w.heap.size (w.heap.size+1+1) k W':=by
  rintro W W' ⟨⟨la,ll,lc,q1⟩,q2,z,q3⟩ hk;exact⟨⟨la,ll,lc,(hk _ (.inl rfl)).trans q1⟩,Co q2 (hk _ (.inr (.inl rfl))),z,(hk _ (.inr (.inr rfl))).trans q3⟩
 have gg:∀ c,CAny (w.heap.size+1) w.heap.size (w.heap.size+1+1) c->w0.heap.size<=c:=by
  rintro c (rfl|rfl|rfl)<;>omega
 have gf:∀ c,CAny (w.heap.size+1) w.heap.size (w.heap.size+1+1) c->c<w3.heap.size/\o c=none:=by
  rintro c (rfl|rfl|rfl)<;>exact⟨by omega,h.lt.none (by omega)⟩
 have HL:Hq (Calls prog 96 #[Pt mb,.func (.func 97) #[] #[Pt (w.heap.size+1),Pt w.heap.size,Pt (w.heap.size+1+1)]] w3 fun x w'=>x=.returned (.int .i64 8)/\P w'):=Hd (by
  rw[hP];refine(Tv gh (fun W W' m V hq hk=>hq.elim) (fun m d hm _=>hm) gg WC ga (h.below hb) ⟨⟨_,_,_,g2'⟩,c1,_,g3⟩ gf hst).mono ?_
  ·rintro x w' ⟨er,rfl,o',m',V',hs',_,hc,⟨_,hf⟩|⟨_,m0,⟨rfl,ge⟩,_⟩⟩
   . exact hf.elim
   . refine⟨rfl,o',m',V',(ChgX.of_below hb o NoB).trans hc (fun k hk e=>?_),ge,hs'⟩;rcases e with rfl|rfl|rfl<;>omega)
 show Calls _ _ _ _ fun x w'=>x=.returned (.tuple #[.slice none 0 0,.int .i64 8])/\(fun w'=>∃ o' m' V',ChgX NoB o o' w w'/\m'.waits <:+ ws0/\SatE K n (fun _=>True) room w0 mb fs nx w' o' m' V') w'
 rw[<- hP];clear hP ga h hk hst g5 g4 g0 g8 g7 g6 hs1 g9 gd g1 g2 g3 g2' hb c1 hw0
 delta Pt;go_enter func41,ntmps41
 go_upto_region 3 with fail;rw[HW1.o,gc.o,gb.o];clear HW1 gc gb;go_wp2_with fail;refine HL.o.mono ?_;rintro x w' ⟨rfl,hp⟩;have HF:=Hd hp;clear hp HL;go_wp2_with fail
 go_ret2
 exact⟨rfl,HF.o⟩
end
open Go.RowKit Go.Deep Go.ChangeShapes Go.WideShapes
theorem wfI {x:Int}(h:(Lit.int .i64 x).wf=true):okI x:=by
 unfold okI;simp only[Lit.wf,IntKind.min,IntKind.max,IntKind.signed,IntKind.bits,Xq,XD,XP] at h;omega
theorem GN (k:Nat):(⟨b,off,none⟩:Addr).add k=⟨b,off+k,none⟩:=by unfold Addr.add;split<;>simp_all
theorem add0 (a:Addr):a.add 0=a:=by simp[Addr.add]
theorem GO {a:Addr}(h:w.cell? a=some v):a.spot=none:=by
 obtain⟨b,off,spot⟩:=a;cases spot with
 | none=>rfl
 | some s=>simp[World.cell?] at h;split at h<;>simp at h
theorem WH {p:Nat->Ev->Prop}(h:∀ i,i<n->∃ x,p i x):∃ f:Nat->Ev,∀ i,i<n->p i (f i):=by
 classical
 refine⟨fun i=>if hi:i<n then Classical.choose (h i hi) else ⟨0,0,0⟩,fun i hi=>?_⟩;simp only[dif_pos hi];exact Zq (h i hi)
theorem GP {H:Type}{enc:TypeId×Value->H}{base:Nat}{e:TypeId}{x:DataW H×List MemPlace}(ht:P.underlying t=some (.slice e))(h:DataW.trod enc P w base spare held fuel t cs=some x) :
 cs=[.slice none 0 0]\/∃ (a:Addr) (len cap n:Nat),cs=[.slice (some a) len cap]/\len<=cap/\cap<=maxLen/\fuel=n+1/\∀ i,i<len->∃ cs' y,w.cells? base (a.add (i*P.cellsOf e)) (P.cellsOf e)=some cs'/\DataW.trod enc P w base spare held n e cs'=some y:=by
 rcases DataW.trod_slice ht h with ⟨h0,_⟩|⟨a,len,cap,elems,rest,n,hn,e1,_,_,hl,hm,g1,g0,_⟩
 . exact .inl h0
 . refine .inr ⟨a,len,cap,n,e1,hl,hm,hn,fun i hi=>?_⟩;have:=g0 i hi;rw[WS (by omega)] at this;obtain⟨cs',h1,h2⟩:=Option.bind_eq_some_iff.1 this;exact⟨cs',_,h1,h2⟩
abbrev YG:=@DataW.trod_int
theorem open_expr {H:Type}{enc:TypeId×Value->H}{base:Nat}:∀ (fuel:Nat) {cs:List Value} {x:DataW H×List MemPlace},
 DataW.trod enc prog w base spare held fuel 36 cs=some x->∃ e x0 x1 x2,cs=[x0,x1,x2]/\A0 w e (.agg #[x0,x1,x2]):=by
 intro fuel
 induction fuel using Nat.strongRecOn with
 | _ fuel IH =>
   intro cs x h;obtain⟨xs,k,hk,g8,g5,g6,hf⟩:=DataW.trod_struct underlying36 h;have c1:prog.cellsOf 3=1:=by kernel_rfl
   have c2:prog.cellsOf 23=1:=by kernel_rfl
   have c3:prog.cellsOf 36=3:=by kernel_rfl
   rw[c3] at g5
   match xs,g6,cs,g5 with
   | [y0,y1,y2],_,[v0,v1,v2],_ =>
     have g0:=hf 0 _ rfl;have g1:=hf 1 _ rfl;have g2:=hf 2 _ rfl;simp[c1,c2] at g0 g1 g2;obtain⟨n0,e0,_,w0⟩:=YG underlying3 g0;obtain⟨n1,e1,_,w1⟩:=YG underlying3 g1;simp only[XU,Zn] at e0 e1;subst e0 e1;rcases GP underlying23 g2 with e2|⟨a,len,cap,n,e2,hl,hm,g9,hx⟩
     . simp only[XU,Zn] at e2;subst e2;exact⟨.mk n0 n1 0 (fun _=>.nil),_,_,_,rfl,by unfold A0;exact⟨none,0,rfl,wfI w0,wfI w1,by omega,fun k hk=>by omega⟩⟩
     ·simp only[XU,Zn] at e2;subst e2;have each:∀ i,i<len->∃ q:ExT,∃ x0 x1 x2,w.cell? (a.add (i*3))=some x0/\w.cell? ((a.add (i*3)).add 1)=some x1/\w.cell? ((a.add (i*3)).add 2)=some x2/\A0 w q (.agg #[x0,x1,x2]):=by
       intro i hi;obtain⟨cs',y,h1,h2⟩:=hx i hi;rw[c3] at h1;obtain⟨_,g7,g3⟩:=World.cells?_some h1;obtain⟨e,x0,x1,x2,rfl,he⟩:=IH n (by omega) h2;have f0:=g3 0 (by omega);have f1:=g3 1 (by omega);have f2:=g3 2 (by omega);rw[add0] at f0;exact⟨e,x0,x1,x2,by simpa using f0,by simpa using f1,by simpa using f2,he⟩
      obtain⟨q,hq⟩:=choose_lt each;refine⟨.mk n0 n1 len q,_,_,_,rfl,?_⟩;unfold A0;refine⟨some a,cap,rfl,wfI w0,wfI w1,by unfold maxLen at hm;omega,fun i hi=>?_⟩;obtain⟨x0,x1,x2,f0,f1,f2,he⟩:=hq i hi;have g4:a.spot=none:=by
       obtain⟨_,_,_,q0,_⟩:=hq 0 (by omega);have:=GO q0;simpa [Addr.add] using this
      obtain⟨b,off,spot⟩:=a;dsimp only at g4;subst g4;simp only[GN] at f0 f1 f2;exact⟨b,off,x0,x1,x2,rfl,f0,f1,f2,he⟩
theorem WI {H:Type}{enc:TypeId×Value->H}{base:Nat}{x:DataW H×List MemPlace}
 (h:DataW.trod enc prog w base spare held fuel 23 cs=some x):∃ a l cap,cs=[.slice a l.length cap]/\Fo w a l:=by
 have c3:prog.cellsOf 36=3:=by kernel_rfl
 rcases GP underlying23 h with e2|⟨a,len,cap,n,e2,hl,hm,g4,hx⟩
 . exact⟨none,[],0,e2,⟨by simp,fun k hk=>by simp at hk⟩⟩
 ·subst e2;have each:∀ i,i<len->∃ q:ExT,∃ x0 x1 x2,w.cell? (a.add (i*3))=some x0/\w.cell? ((a.add (i*3)).add 1)=some x1/\w.cell? ((a.add (i*3)).add 2)=some x2/\A0 w q (.agg #[x0,x1,x2]):=by
   intro i hi;obtain⟨cs',y,h1,h2⟩:=hx i hi;rw[c3] at h1;obtain⟨_,g3,g0⟩:=World.cells?_some h1;obtain⟨e,x0,x1,x2,rfl,he⟩:=open_expr n h2;have f0:=g0 0 (by omega);have f1:=g0 1 (by omega);have f2:=g0 2 (by omega);rw[add0] at f0;exact⟨e,x0,x1,x2,by simpa using f0,by simpa using f1,by simpa using f2,he⟩
  obtain⟨q,hq⟩:=choose_lt each;refine⟨some a,(List.range len).map q,cap,by simp,⟨by unfold maxLen at hm;simp;omega,fun i hi=>?_⟩⟩;have g2:i<len:=by simpa using hi
  obtain⟨x0,x1,x2,f0,f1,f2,he⟩:=hq i g2;have g1:a.spot=none:=by
   obtain⟨_,_,_,q0,_⟩:=hq 0 (by omega);have:=GO q0;simpa [Addr.add] using this
  obtain⟨b,off,spot⟩:=a;dsimp only at g1;subst g1;simp only[GN] at f0 f1 f2;exact⟨b,off,x0,x1,x2,rfl,f0,f1,f2,by simpa using he⟩
theorem open_evs {H:Type}{enc:TypeId×Value->H}{base:Nat}{x:DataW H×List MemPlace}
 (h:DataW.trod enc prog w base spare held fuel 24 cs=some x):∃ a l cap,cs=[.slice a l.length cap]/\EvsAt w a l/\(∀ ev∈l,okI ev.after/\okI ev.kind/\okI ev.level)/\(a=none->cap=0)/\l.length<=cap/\cap<=maxLen:=by
 have c1:prog.cellsOf 3=1:=by kernel_rfl
 have c3:prog.cellsOf 105=3:=by kernel_rfl
 rcases GP underlying24 h with e2|⟨a,len,cap,n,e2,hl,hm,ga,hx⟩
 . exact⟨none,[],0,e2,⟨by simp,fun k hk=>by simp at hk⟩,by simp,fun _=>rfl,by simp,by simp⟩
 ·subst e2;have each:∀ i,i<len->∃ q:Ev,w.cell? (a.add (i*3))=some (.int .i64 q.after)/\w.cell? ((a.add (i*3)).add 1)=some (.int .i64 q.kind)/\w.cell? ((a.add (i*3)).add 2)=some (.int .i64 q.level)/\okI q.after/\okI q.kind/\okI q.level:=by
   intro i hi;obtain⟨cs',y,h1,h2⟩:=hx i hi;rw[c3] at h1;obtain⟨_,g5,g3⟩:=World.cells?_some h1;obtain⟨xs,k,hk,g9,_,g6,hf⟩:=DataW.trod_struct underlying105 h2
   match xs,g6,cs',g5 with
   | [y0,y1,y2],_,[v0,v1,v2],_ =>
     have g0:=hf 0 _ rfl;have g1:=hf 1 _ rfl;have g2:=hf 2 _ rfl;simp[c1] at g0 g1 g2;obtain⟨n0,e0,_,w0⟩:=YG underlying3 g0;obtain⟨n1,e1,_,w1⟩:=YG underlying3 g1;obtain⟨n2,e2,_,w2⟩:=YG underlying3 g2;simp only[XU,Zn] at e0 e1 e2;subst e0 e1 e2;have f0:=g3 0 (by omega);have f1:=g3 1 (by omega);have f2:=g3 2 (by omega);rw[add0] at f0;exact⟨⟨n0,n1,n2⟩,by simpa using f0,by simpa using f1,by simpa using f2,wfI w0,wfI w1,wfI w2⟩
  obtain⟨q,hq⟩:=WH each;refine⟨some a,(List.range len).map q,cap,by simp,⟨by unfold maxLen at hm;simp;omega,fun i hi=>?_⟩,?_,by simp,by simpa using hl,hm⟩
  ·have g7:i<len:=by simpa using hi
   obtain⟨f0,f1,f2,_⟩:=hq i g7;have g4:a.spot=none:=by
    obtain⟨q0,_⟩:=hq 0 (by omega);have:=GO q0;simpa [Addr.add] using this
   obtain⟨b,off,spot⟩:=a;dsimp only at g4;subst g4;simp only[GN] at f0 f1 f2;exact⟨b,off,rfl,by simpa using f0,by simpa using f1,by simpa using f2⟩
  . intro ev g8;obtain⟨i,hi,rfl⟩:=WW.1 g8;exact(hq i (by simpa using hi)).2.2.2
theorem open_ask {H:Type}{enc:TypeId×Value->H}{base:Nat}{cs:Array Value}{x:DataW H×List MemPlace}(hv:v=.agg cs)
 (h:DataW.trod enc prog w base (fun _=>true) held fuel 26 v.cells.toList=some x):∃ q ao ae ap co ce cp,v=askV q ao ae ap co ce cp/\AskAt w q ao ae ap/\(∀ ev∈q.plan,okI ev.after/\okI ev.kind/\okI ev.level)/\(ao=none->co=0)/\(ap=none->cp=0)/\q.plan.length<=cp/\cp<=maxLen:=by
 subst hv;obtain⟨xs,k,hk,gh,g5,g7,hf⟩:=DataW.trod_struct underlying26 h;have c1:prog.cellsOf 3=1:=by kernel_rfl
 have c2:prog.cellsOf 22=1:=by kernel_rfl
 have c4:prog.cellsOf 23=1:=by kernel_rfl
 have c5:prog.cellsOf 24=1:=by kernel_rfl
 have c3:prog.cellsOf 26=4:=by kernel_rfl
 rw[c3] at g5;obtain⟨cl⟩:=cs;simp only[Value.cells] at g5 hf
 match xs,g7,cl,g5 with
 | [y0,y1,y2,y3],_,[v0,v1,v2,v3],_ =>
   have g0:=hf 0 _ rfl;have g1:=hf 1 _ rfl;have g2:=hf 2 _ rfl;have g3:=hf 3 _ rfl;simp[c1,c2,c4,c5] at g0 g1 g2 g3;obtain⟨n0,e0,_,w0⟩:=YG underlying3 g0;simp only[XU,Zn] at e0;subst e0;obtain⟨ao,zs,co,e1,ge,gb⟩:∃ a zs c,v1=.slice a zs.length c/\An w a zs/\(a=none->c=0):=by
    rcases open_ints underlying22 underlying3 (by kernel_rfl) g1 with ⟨g4,_⟩|⟨x,l,c,zs,g4,_,hl,hm,hz,_,g6,g8⟩
    . simp at g4;subst g4;obtain⟨a,c,e,h1,h2⟩:=sliceIs_of_row (w:=w) (a:=none) (len:=0) (cap:=0) (.inl ⟨rfl,rfl,rfl,rfl⟩);exact⟨a,_,c,e,h1,h2⟩
    . simp at g4;subst g4;obtain⟨a,c,e,h1,h2⟩:=sliceIs_of_row (w:=w) (.inr ⟨_,rfl,hl,hm,by simpa using hz,g6,g8⟩);exact⟨a,_,c,e,h1,h2⟩
   obtain⟨ae,es,ce,e2,gg⟩:=WI g2;obtain⟨ap,evs,cp,e3,gf,g9,ga,gd,gc⟩:=open_evs g3;simp only[XU,Zn] at e2 e3;subst e1 e2 e3;exact⟨⟨n0,zs,es,evs⟩,ao,ae,ap,co,ce,cp,rfl,⟨wfI w0,ge,gg,gf⟩,g9,gb,ga,gd,gc⟩
theorem WJ {H:Type}{enc:TypeId×Value->H}{base:Nat}{x:DataW H×List MemPlace}
 (h:DataW.trod enc prog w base spare held fuel 54 cs=some x):∃ (a:Option Addr) (bs:List Bool) (c:Nat),cs=[.slice a bs.length c]/\bs.length<=9223372036854775807/\(bs.length<=1000000->AS w (.slice a bs.length c) bs):=by
 have c1:prog.cellsOf 4=1:=by kernel_rfl
 rcases GP underlying54 h with e2|⟨a,len,cap,n,e2,hl,hm,g5,hx⟩
 . exact⟨none,[],0,e2,by simp,fun _=>⟨none,0,rfl,⟨by simp,fun k hk=>by simp at hk⟩,fun _=>rfl⟩⟩
 ·have each:∀ i,i<len->∃ b:Bool,w.cell? (a.add i)=some (.bool b):=by
   intro i hi;obtain⟨cs',y,h1,h2⟩:=hx i hi;rw[c1,Nat.mul_one] at h1;obtain⟨_,g4,g0⟩:=World.cells?_some h1;obtain⟨b,rfl,_⟩:=DataW.trod_bool underlying4 h2;have f0:=g0 0 (by omega);rw[add0] at f0;exact⟨b,by simpa using f0⟩
  obtain⟨q,hq⟩:=choose_lt each;refine⟨some a,(List.range len).map q,cap,by rw[e2];simp,by simp;unfold maxLen at hm;omega,fun g3=>⟨some a,cap,rfl,⟨g3,fun k hk=>?_⟩,fun e=>by cases e⟩⟩;have g2:k<len:=by simpa using hk
  have g1:a.spot=none:=by
   have q0:=hq 0 (by omega);have:=GO q0;simpa [Addr.add] using this
  obtain⟨b,off,spot⟩:=a;dsimp only at g1;subst g1;refine⟨b,off,rfl,?_⟩;have:=hq k g2;rw[GN] at this;rw[this];simp[List.getD,g2]
theorem open_case {H:Type}{enc:TypeId×Value->H}{base:Nat}{x:DataW H×List MemPlace}
 (h:DataW.trod enc prog w base (fun _=>true) held fuel 76 cs=some x):∃ (p k:Int) (av:Option Addr) (lv cv:Nat) (zs:List Int) (al:Option Addr) (bs:List Bool) (cl:Nat),
  cs=[.int .u8 p,.slice av lv cv,.int .u16 k,.slice al bs.length cl]/\(0<=p/\p<256)/\(0<=k/\k<65536)/\SliceIs w (.slice av lv cv) zs/\lv<=cv/\bs.length<=9223372036854775807/\(bs.length<=1000000->AS w (.slice al bs.length cl) bs):=by
 obtain⟨xs,k,hk,g9,g6,g7,hf⟩:=DataW.trod_struct underlying76 h;have c1:prog.cellsOf 5=1:=by kernel_rfl
 have c2:prog.cellsOf 22=1:=by kernel_rfl
 have c3:prog.cellsOf 74=1:=by kernel_rfl
 have c4:prog.cellsOf 54=1:=by kernel_rfl
 have c5:prog.cellsOf 76=4:=by kernel_rfl
 rw[c5] at g6
 match xs,g7,cs,g6 with
 | [y0,y1,y2,y3],_,[v0,v1,v2,v3],_ =>
   have g0:=hf 0 _ rfl;have g1:=hf 1 _ rfl;have g2:=hf 2 _ rfl;have g3:=hf 3 _ rfl;simp[c1,c2,c3,c4] at g0 g1 g2 g3;obtain⟨n0,e0,_,w0⟩:=YG underlying5 g0;obtain⟨n2,e2,_,w2⟩:=YG underlying74 g2;simp only[XU,Zn] at e0 e2;subst e0 e2;obtain⟨al,bs,cl,e3,b1,b2⟩:=WJ g3;simp only[XU,Zn] at e3;subst e3;have hp:0<=n0/\n0<256:=by
    simp only[Lit.wf,IntKind.min,IntKind.max,IntKind.signed,IntKind.bits,Xq,XD] at w0;simp at w0;omega
   have hq:0<=n2/\n2<65536:=by
    simp only[Lit.wf,IntKind.min,IntKind.max,IntKind.signed,IntKind.bits,Xq,XD] at w2;simp at w2;omega
   rcases open_ints underlying22 underlying3 (by kernel_rfl) g1 with ⟨g4,_⟩|⟨y,l,c,zs,g4,_,hl,hm,hz,_,g5,g8⟩
   . simp only[XU,Zn] at g4;subst g4;exact⟨n0,n2,none,0,0,_,al,bs,cl,rfl,hp,hq,sliceIs_of_row (.inl ⟨rfl,rfl,rfl,rfl⟩),WM _,b1,b2⟩
   . simp only[XU,Zn] at g4;subst g4;exact⟨n0,n2,some y,l,c,_,al,bs,cl,rfl,hp,hq,sliceIs_of_row (.inr ⟨_,rfl,hl,hm,by simpa using hz,g5,g8⟩),hl,b1,b2⟩
end Go.Proofs.YtgmbklaolcmljaaGreat
