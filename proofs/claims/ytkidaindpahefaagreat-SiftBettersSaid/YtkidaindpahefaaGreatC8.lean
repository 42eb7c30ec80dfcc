/- Several texts in one file: contracts of the program's functions and what follows from them. -/
import Derived.Test.YtkidaindpahefaaGreatC7
import Derived.Test.YtkidaindpahefaaGreatC0
import Derived.Maps.RangeRun
import Derived.Ground.Names2Prog
import Derived.Shelf.Slices.Delete
import Derived.Shelf.Slices.Cells
import Derived.Shelf.Slices.Empties
import Derived.Test.YtkidaindpahefaaGreatProg
set_option linter.unusedSimpArgs false
set_option linter.unusedVariables false
set_option linter.unusedSectionVars false
set_option linter.unnecessarySimpa false
set_option maxRecDepth 100000
set_option maxHeartbeats 8000000
namespace Go.Proofs.YtkidaindpahefaaGreat
open Go.Proofs.Tryz
open Go.RowKit
variable {B B':Wd->Own->Prop}{C:Nat->Prop}{F G H:BF}{Fs:List BF}{K:Law}{L:Array Bool}{Od P':List Nat->Prop}{P:Program}{Q:Exit->Act->Wd->Prop}{S:Wd->Prop}{V:Nat->BF}{W W' W1 w w' w0 wb:Wd}{a ao:Option Addr}{b base c cap f g gf i j k mb n room x xb y:Nat}{cur ks zs:List Int}{fs r:List (Int×BF)}{l:List Oper}{last:Bool}{lop:Array Value}{m:ManD}{nx:Int}{o' o0:Own}{ops:Array Oper}{os:List Nat}{u v z:Value}{ws0:List Ev}{xs:List Value}
theorem Ug (args:Array Value)(w:Wd):(callFunc 165 args).run prog w=.ok (.enter 165 args) w:=XH func165 (by kernel_rfl) rfl args w
structure BoN (wB:Wd)(bn bl:Nat)(a:Option Addr)(c:Nat)(ks:List Int)(W:Wd):Prop where
 n:∃ v,W.heap[bn]?=some (.cells #[v] 153 (0,0))
 l:W.cell? (Av bl)=some (.slice a ks.length c)
 z:Am W a ks
 s:∀ x,a=some x->W.heap[x.block]?=wB.heap[x.block]?
def CsN (bn bl:Nat)(a:Option Addr)(k:Nat):Prop:=k=bn\/k=bl\/∃ x,a=some x/\k=x.block
theorem BoN.keep {wB:Wd}{bn bl:Nat}(h:BoN wB bn bl a c ks W)(hk:∀ k,CsN bn bl a k->W'.heap[k]?=W.heap[k]?):BoN wB bn bl a c ks W' :=
 ⟨by rw[hk _ (.inl rfl)];exact h.n,Co h.l (hk _ (.inr (.inl rfl))),⟨h.z.len,fun i hi=>by
  obtain⟨b,off,e,hc⟩:=h.z.cells i hi;exact⟨b,off,e,Co hc (hk _ (.inr (.inr ⟨_,e,rfl⟩)))⟩⟩,fun x hx=>(hk _ (.inr (.inr ⟨x,hx,rfl⟩))).trans (h.s x hx)⟩
section
variable {o:Own}
theorem SatE.edges (h:SatE K n Od room w0 mb fs nx w o m V)(hlen:Fs.length=ks.length)(hm:∀ i (h:i<ks.length),(ks[i],Fs[i]'(by omega))∈fs) :
 ∃ es:List Nat,es.length=ks.length/\es.map (ef V)=Fs/\(∀ f∈es,okE (Aa m.d) f)/\∀ i (h:i<ks.length) (h2:i<es.length),(ks[i],es[i])∈m.hs:=by
 have:∀ i,∃ f,∀ hi:i<ks.length,(ks[i],f)∈m.hs/\ef V f=Fs[i]'(by omega):=fun i=>by
  by_cases hi:i<ks.length
  . obtain⟨f,h1,h2⟩:=h.find (hm i hi);exact⟨f,fun _=>⟨h1,h2⟩⟩
  . exact⟨0,fun e=>absurd e hi⟩
 have hs:=fun i=>Y9 (this i)
 refine⟨(List.range ks.length).map fun i=>Classical.choose (this i),by simp,?_,?_,?_⟩
 ·refine XG (by simp[hlen]) fun i h1 h2=>?_
  have hi:i<ks.length:=by simpa using h1
  simpa using(hs i hi).2
 . intro f hf;obtain⟨i,hi,rfl⟩:=Wg.1 hf;exact h.ok.handles.ok _ (hs i (XV.1 hi)).1
 . intro i hi h2;simpa using(hs i hi).1
def FA (n:Nat)(ws0:List Ev)(os:List Nat)(bn:Nat)(Fs:List BF)(s:Nat)(W:Wd)(m:ManD)(_:Nat->BF):Prop :=
 m.waits=ws0/\m.d.vars=os/\∃ nt cs,s<=nt/\W.cell? (Av bn)=some (.map (some nt))/\A1 W nt (Value.int .i64) (ctL cs)/\J8 n os Fs cs
theorem Uh {wB:Wd}{bn bl:Nat}(hnl:bn≠bl)(hna:∀ x,a=some x->bn≠x.block)(hlen:Fs.length=ks.length)(hm:∀ i (h:i<ks.length),(ks[i],Fs[i]'(by omega))∈fs)(ws0:List Ev)(os:List Nat)(E:Int->ManD->ManD->Prop) :
 OpLN K n Od room w0 mb fs nx (CsN bn bl a) (BoN wB bn bl a c ks) (fun m=>m.waits=ws0/\m.d.vars=os) 165 #[Pt bn,Pt bl] (fun s _=>FA n ws0 os bn Fs s) E:=by
 intro o W m V xb g0 hB hC hr gn hnx;obtain⟨gQ,gt⟩:=hr;obtain⟨es,h7,h9,gj,h8⟩:=g0.edges hlen hm;have hk:=g0.ok.store;have gv:∀ k,CsN bn bl a k->o k=none:=fun k e=>(hC k e).2
 obtain⟨v0,gR⟩:=hB.n;have hA:∀ (fn:Fn) (first cap:Array Value) (w:Wd),(Instr.makeFunc fn first cap).run prog w=.ok (.func fn first cap) w:=fun _ _ _ _=>rfl
 have gB:bn<W.heap.size:=(hC bn (.inl rfl)).1;have gk:bl<W.heap.size:=(hC bl (.inr (.inl rfl))).1;obtain⟨w1,gd⟩:=Ex (W.alloc (.cells #[Pt xb] 180));have gN:w1.heap.size=W.heap.size+1:=by rw[gd];simp
 have g10:w1.heap[W.heap.size]?=some (.cells #[Pt xb] 180 (0,0)):=by rw[gd];exact VT _ _
 have gZ:Wr (· = bn) W w1:=by rw[gd];exact Wr.of_below (Af _ _) _
 obtain⟨nt,gu⟩:=Ex w1.heap.size;obtain⟨w2,g7⟩:=Ex (w1.alloc (.map #[] 0));have hn:∀ t,(Instr.makeMap t none).run prog w1=.ok (.map (some nt)) w2:=fun t=>by rw[gu,g7];exact EY w1 t
 have gM:w2.heap.size=W.heap.size+2:=by rw[g7];simp[gN]
 have h5:A1 w2 nt (Value.int .i64) (ctL []):=by rw[g7,gu];exact Gb w1 _
 have gY:Wr (· = bn) W w2:=by rw[g7];exact gZ.alloc _
 have gf:w2.heap[bn]?=some (.cells #[v0] 153 (0,0)):=by
  rw[g7,Wk _ _ (by omega),gd,Wk _ _ gB];exact gR
 obtain⟨w3,g5⟩:=Ex (w2.setCell (Av bn) (.map (some nt)));have ht:(store (Av bn) (.map (some nt))).run prog w2=.ok () w3:=by
  rw[run_store _ _ _ _ _ rfl];simp[cell1 gf,World.frozen?,gf,g5]
 have gL:w3.heap.size=W.heap.size+2:=by rw[g5];simp[World.setCell,gM]
 have gx:∀ q,q≠bn->w3.heap[q]?=w2.heap[q]?:=fun q hq=>by rw[g5];exact A0 hq _
 have g3:w3.heap[bn]?=some (.cells #[.map (some nt)] 153 (0,0)):=by rw[g5];exact A7 gf _
 have gX:Wr (· = bn) W w3:=by rw[g5];exact gY.setCell (.inl rfl) _
 have h4:A1 w3 nt (Value.int .i64) (ctL []):=h5.keepB (gx nt (by omega));obtain⟨mt,gw⟩:=Ex w3.heap.size;obtain⟨w4,g4⟩:=Ex (w3.alloc (.map #[] 0));have hg:∀ t,(Instr.makeMap t none).run prog w3=.ok (.map (some mt)) w4:=fun t=>by rw[gw,g4];exact EY w3 t
 have gK:w4.heap.size=W.heap.size+3:=by rw[g4];simp[gL]
 have h3:A1 w4 mt (Value.int .i64) (mtL []):=by rw[g4,gw];exact Gb w3 _
 have gD:Bw w3 w4:=by rw[g4];exact Af _ _
 obtain⟨w6,gc⟩:=Ex (w4.alloc (.cells #[.map (some mt)] 195));have gl:Bw w4 w6:=by rw[gc];exact Af _ _
 have gJ:w6.heap.size=W.heap.size+4:=by rw[gc];simp[gK]
 have g6:w6.heap[w4.heap.size]?=some (.cells #[.map (some mt)] 195 (0,0)):=by rw[gc];exact VT _ _
 obtain⟨FV,gp⟩:=Ex (.func (.func 166) #[] #[Pt w4.heap.size,Pt W.heap.size,Pt bn,Pt w6.heap.size]:Value);obtain⟨w7,ga⟩:=Ex (w6.alloc (.cells #[.nilFunc] 196));have gC:Bw w6 w7:=by rw[ga];exact Af _ _
 have gI:w7.heap.size=W.heap.size+5:=by rw[ga];simp[gJ]
 have go:w7.heap[w6.heap.size]?=some (.cells #[.nilFunc] 196 (0,0)):=by rw[ga];exact VT _ _
 obtain⟨w8,g9⟩:=Ex (w7.setCell (Av w6.heap.size) FV);have gS:(store (Av w6.heap.size) FV).run prog w7=.ok () w8:=by
  rw[run_store _ _ _ _ _ (by rw[gp];rfl)];simp[cell1 go,World.frozen?,go,g9]
 have hp:w8.heap.size=W.heap.size+5:=by rw[g9];simp[World.setCell,gI]
 have gh:Bw w6 w8:=by rw[g9];exact gC.setCell (VQ _) _
 have g8:w8.heap[w6.heap.size]?=some (.cells #[FV] 196 (0,0)):=by rw[g9];exact A7 go _
 have gV:Wr (· = bn) W w4:=by rw[g4];exact gX.alloc _
 have gU:Wr (· = bn) W w6:=by rw[gc];exact gV.alloc _
 have gT:Wr (· = bn) W w7:=by rw[ga];exact gU.alloc _
 have ge:Wr (· = bn) W w8:=by rw[g9];exact gT.setCell (.inr (by show W.heap.size<=w6.heap.size;omega)) _
 have gg:∀ q,q<w3.heap.size->w8.heap[q]?=w3.heap[q]?:=fun q hq=>by
  rw[gh.block q (by omega),gl.block q (by omega),gD.block q hq]
 have e4:w8.heap[w4.heap.size]?=some (.cells #[.map (some mt)] 195 (0,0)):=by
  rw[gh.block _ (by omega)];exact g6
 have em:A1 w8 mt (Value.int .i64) (mtL []):=h3.keepB (by rw[gh.block _ (by omega),gl.block _ (by omega)]);have en:A1 w8 nt (Value.int .i64) (ctL []):=h4.keepB (gg nt (by omega));have ex:w8.heap[W.heap.size]?=some (.cells #[Pt xb] 180 (0,0)):=by
  rw[gg _ (by omega),gx _ (by omega),g7,Wk _ _ (by omega)];exact g10
 have eb:w8.heap[bn]?=some (.cells #[.map (some nt)] 153 (0,0)):=by rw[gg _ (by omega)];exact g3
 have gP:xb<W.heap.size:=Ag gn.cell;have gq:xb≠bn:=fun e=>hnx (.inl e)
 have oS:∀ q,W.heap.size<=q->o q=none:=fun q hq=>g0.lt.none hq
 have hs:SnS (K m.d V) ⟨w4.heap.size,W.heap.size,bn,w6.heap.size,mt,nt,xb⟩ mb o m V [] (tally m.d []) w8:=by
  refine⟨g0.is.other g0.lt ge (fun k _ e=>by subst e;exact gv _ (.inl rfl)),g0.lt.mono ge.size,hk,⟨Co gn.cell (ge.keep xb gP gq),gn.own⟩,cell1 e4,cell1 ex,cell1 eb,?_,em,en,?_,?_,?_,⟨Ye,by simp⟩⟩
  . rw[cell1 g8,gp];rfl
  ·rintro q (e|e|e|e|e|e)
   . have e:q=w4.heap.size:=e;exact oS _ (by omega)
   . have e:q=W.heap.size:=e;exact oS _ (by omega)
   . have e:q=bn:=e;exact gv _ (.inl e)
   . have e:q=w6.heap.size:=e;exact oS _ (by omega)
   . have e:q=mt:=e;exact oS _ (by omega)
   . have e:q=nt:=e;exact oS _ (by omega)
  ·refine⟨?_,?_,?_,?_,?_,?_⟩
   . show mt≠w4.heap.size;omega
   . show mt≠W.heap.size;omega
   . show mt≠bn;omega
   . show mt≠w6.heap.size;omega
   . show mt≠xb;omega
   . show mt≠nt;omega
  ·refine⟨?_,?_,?_,?_,?_⟩
   . show nt≠w4.heap.size;omega
   . show nt≠W.heap.size;omega
   . show nt≠bn;omega
   . show nt≠w6.heap.size;omega
   . show nt≠xb;omega
 obtain⟨C,g1⟩:=Ex (⟨w4.heap.size,W.heap.size,bn,w6.heap.size,mt,nt,xb⟩:SnC);have hf:C.caps=#[Pt w4.heap.size,Pt W.heap.size,Pt bn,Pt w6.heap.size]:=by rw[g1];rfl
 have gE:∀ k,C.two k->W.heap.size<=k:=by
  rw[g1];rintro k (e|e)
  . have e:k=mt:=e;omega
  . have e:k=nt:=e;omega
 rw[<- g1] at hs;have ho:=hB.z.len;have clist:w8.cell? (Av bl)=some (.slice a ks.length c):=Co hB.l (ge.keep bl gk (fun e=>hnl e.symm));obtain⟨I,hI⟩:=Ex (fun i wr=>Wr (· = bn) W wr/\wr.heap[bn]?=some (.cells #[.map (some nt)] 153 (0,0))/\SnS (K m.d V) C mb o m V (Dm m.d (es.take i)) (tally m.d (Dm m.d (es.take i))) wr:Nat->Wd->Prop)
 have gH:Hq (I 0 w8):=by rw[hI];exact Hd ⟨ge,eb,by simpa [Dm] using hs⟩
 have HX:Hq (∀ i wr,I i wr->wr.cell? (Av W.heap.size)=some (Pt xb)/\wr.cell? (Av w6.heap.size)=some (.func (.func 166) #[] C.caps)/\(∀ j,j<ks.length->∃ b off,a=some (Aw b off)/\wr.cell? (Aw b (off+j))=some (Iv (at0 ks j)))/\I i wr.drew):=by
  rw[hI];refine Hd fun i wr hh=>?_
  obtain⟨h1,gi,h2⟩:=hh;have hx:=h2.bx;have hd:=h2.bd;rw[g1] at hx;refine⟨hx,?_,fun j hj=>?_,h1.drew,gi,h2.below (Aq wr 1)⟩
  . rw[g1] at hd ⊢;exact hd
  . obtain⟨b,off,e,hc⟩:=hB.z.cells j hj;exact⟨b,off,e,Co hc (h1.keep b (hC b (.inr (.inr ⟨_,e,rfl⟩))).1 (fun q=>hna _ e q.symm))⟩
 have g2:Hq (∀ i wr,i<ks.length->I i wr->∃ f,Cl 148 #[Pt xb,Iv (at0 ks i)] wr ((Sm (Iv (f:Nat)) wr)) /\
  Cl 166 (#[Iv (f:Nat)]++C.caps) wr fun x w'=>x=.returned (.tuple #[])/\I (i+1) w'):=by
  rw[hI];refine Hd fun i wr hi hh=>?_
  obtain⟨h1,gi,h2⟩:=hh;have gy:i<es.length:=by omega
  have gO:=h2.x;rw[g1] at gO;refine⟨es[i],by rw[Au hi];exact Fg h2.is gO g0.ok.handles.nodup (h8 i hi gy),?_⟩;refine(Nq m.d.vars.length _ _ wr h2 (gj _ (Wh gy)) (by omega)).mono ?_;rintro x w' ⟨rfl,r1,r2⟩;refine⟨rfl,h1.trans r1 (fun _ _ e=>e) (fun k hk e=>by have:=gE k e;omega),(r1.keep bn (by have:=h1.size;omega) (fun e=>by have:=gE bn e;omega)).trans gi,?_⟩;rw[TT es gy];exact r2
 obtain⟨P,hP⟩:∃ P:Ending->Wd->Prop,P=fun e w'=>∃ (o':Own) (m':ManD) (V':Nat->BF),CU (CsN bn bl a) K o W mb m V o' w' m' V'/\BoN wB bn bl a c ks w' /\
  ((e=.returned (.tuple #[])/\FA n ws0 os bn Fs W.heap.size w' m' V') \/
   (∃ er:Int,e=AQ er false ev0/\er≠0/\m'.waits=m.waits/\(m'.waits=ws0/\m'.d.vars=os)/\E er m m') \/
   (∃ ev,e=AQ 0 true ev/\m.waits=ev::m'.waits/\StE K n Od room w0 mb fs nx (fun m=>m.waits=ws0/\m.d.vars=os) m'/\HapG K n Od room w0 mb fs nx ev)):=⟨_,rfl⟩
 have gm:Hq (∀ wr,I ks.length wr->P (.returned (.tuple #[])) wr):=by
  rw[hI,hP];refine Hd fun wr hh=>?_
  obtain⟨h1,gi,h2⟩:=hh;rw[<- h7,W9] at h2;have ha:=h2.bn;have h0:=h2.cnt;rw[g1] at ha h0;refine⟨o,m,V,⟨h2.is,h2.lt,ChgX.of_wr h1 o (fun k _ e=>.inl e),hk,Ext.refl _ _,rfl,rfl⟩,⟨?_,?_,⟨ho,fun i hi=>?_⟩,fun x hx=>?_⟩,.inl ⟨rfl,gQ,gt,nt,_,by omega,ha,h0,?_⟩⟩
  . exact⟨_,gi⟩
  . exact(Co hB.l (h1.keep bl gk (fun e=>hnl e.symm)))
  . obtain⟨b,off,e,hc⟩:=hB.z.cells i hi;exact⟨b,off,e,Co hc (h1.keep b (hC b (.inr (.inr ⟨_,e,rfl⟩))).1 (fun q=>hna _ e q.symm))⟩
  . exact(h1.keep _ (hC _ (.inr (.inr ⟨x,hx,rfl⟩))).1 (fun q=>hna x hx q.symm)).trans (hB.s x hx)
  . have:=Uf hk es gj (fun e he=>Ju g0.is he);rw[g0.vars,h9,gt] at this;exact this
 have HW1:=Hd gd.symm;have hv:=Hd g5.symm;have hF:=Hd g4.symm;have c2:=cell1 gf;have f2:w2.frozen? (Av bn)=false:=by simp[World.frozen?,gf]
 have hu:=Hd gc.symm;rw[gp,ga] at gS;rw[<- hP];rw[hf] at HX g2;clear hP hI hs g0 hB hC gn hnx h9 gj h8 hk gv gR gB gk gd g7 g5 g4 gc ga g9 gN gM gL gK gJ gI hp g10 gZ h5 gY gV gU gT gf go gC gx g3 gX h4 h3 gD gl g6 gp gh g8 ge gg e4 em en ex eb gP gq oS g1 hf gE gu gw hlen hm h7 gQ gt
 go_enter func165,ntmps165
 go_upto_region 1 with fail;rw[HW1.o];go_upto_region 2 with fail;rw[hv.o];clear c2 f2 hn ht;go_upto_region 3 with fail;rw[hu.o];clear hg;go_upto_region 5 with fail;clear gS;go_wp2_with fail
 go_loopw [7,13] (fun _ s13 wr=>∃ i:Nat,i<=ks.length/\s13=Iv i/\Hq (I i wr)) (fun _ s13 _=>ks.length-(intOf s13).toNat)
 case atStart=>exact⟨0,Wb _,rfl,gH⟩
 case round =>
  obtain⟨i,hi,rfl,HI⟩:=hrel
  by_cases h6:i<ks.length
  ·have hD:(i:Int)<(ks.length:Int):=by omega
   obtain⟨x1,x2,x3,x4⟩:=HX.o i _ HI.o;obtain⟨b,off,rfl,ck⟩:=x3 i h6;have HD:=Hd (HX.o i _ x4);obtain⟨f,hE,hS⟩:=g2.o i _ h6 x4;have HE:=Hd hE;have HS:=Hd hS;have gF:=HX;clear hE hS x1 x2 x3 x4 HX g2 gm HI gH clist;go_upto_region 8 with fail;obtain⟨wz,gr⟩:=Ex wr.drew;rw[<- gr] at HD HE HS;have gG:=Hd gr;clear gr;have gA:=HD.o.1;have gz:=HD.o.2.1;refine EJ [0,1,2,3,4] (fun W'=>W'.cell? (Av W.heap.size)=some (Pt xb)/\W'.cell? (Av w6.heap.size)=some (.func (.func 166) #[] #[Pt w4.heap.size,Pt W.heap.size,Pt bn,Pt w6.heap.size])) (fun ch w'=>False) (fun c a w hd h=>h.elim) (by kernel_rfl) (by rw[<- gG.o];exact⟨gA,gz⟩) ?_;rw[<- gG.o]
   iterate 3
    refine DO rfl rfl (by kernel_rfl) ?_;apply Exists.intro;refine⟨fun w' hw=>?_,?_⟩
    . obtain⟨q1,q2⟩:=hw;go_simp;rfl
    simp only[Ab]
   refine F9 (R1:=fun u w'=>u=Iv (f:Nat)/\wz=w') rfl (by kernel_rfl) rfl rfl (by go_simp) (HE.o.mono fun x w' h=>⟨_,h.1,rfl,h.2⟩) (by rintro u w' ⟨_,rfl⟩;exact⟨gA,gz⟩) ?_;rintro u w'-⟨rfl,rfl⟩;simp only[Ab];refine F9 (R1:=fun u w'=>u=.tuple #[]/\I (i+1) w') rfl (by kernel_rfl) rfl rfl (by go_simp) (HS.o.mono fun x w' h=>⟨_,h.1,rfl,h.2⟩) (by rintro u w' ⟨_,hI⟩;exact⟨(gF.o (i+1) w' hI).1,(gF.o (i+1) w' hI).2.1⟩) ?_;rintro u w9-⟨rfl,hb⟩;have hy:=Hd hb;clear hb gF HS HE HD gA gz gG;simp only[Ab];refine Cc (by kernel_rfl) ?_;go_wp2_with fail;go_roundw
   case rel=>exact⟨i+1,by omega,by rw[show ((i+1:Nat):Int)=(i:Int)+1 by omega],hy⟩
   case measure=>simp[intOf];omega
  ·obtain rfl:i=ks.length:=by omega
   have hz:¬ (ks.length:Int)<(ks.length:Int):=by omega
   have HF:=Hd (gm.o _ HI.o);clear HX g2 gm HI gH;go_wp2_with fail;refine WR (Wy rfl _ _ _) rfl ?_;exact HF.o
end
structure ArgI (w0 w:Wd)(o:Own)(a:Option Addr)(ks:List Int):Prop where
 z:Am w a ks
 own:∀ x,a=some x->x.block<w.heap.size/\w0.heap.size<=x.block/\o x.block=none
theorem J9 {t:TypeId}{fr:Nat×Nat}(h:w.heap[b]?=some (.cells #[v] t fr)):w.setCell (Av b) v=w:=by
 have:w.heap.modify b (fun|.cells c elem frozen=>.cells (c.setIfInBounds 0 v) elem frozen|o=>o)=w.heap:=by
  apply Array.ext_getElem?;intro i;rw[Yp];split
  ·rename_i e
   subst e;rw[h];rfl
  . rfl
 show ({ w with heap:=w.heap.modify b (fun|.cells c elem frozen=>.cells (c.setIfInBounds 0 v) elem frozen|o=>o) }:Wd)=w
 rw[this]
section
variable {o:Own}
def JA (K:Law)(n:Nat)(Od:List Nat->Prop)(room:Nat)(w0:Wd)(mb:Nat)(fs:List (Int×BF))(nx:Int)(m:ManD)(o:Own)(w:Wd)(Fs:List BF)(x:Ending)(w':Wd):Prop :=
 ∃ nt cs,x=.returned (.tuple #[.map (some nt),Iv 0])/\A1 w' nt (Value.int .i64) (ctL cs)/\J8 n m.d.vars Fs cs/\∃ o' m' V',ChgX NoB o o' w w'/\m'.waits=m.waits/\m'.d.vars=m.d.vars/\SatE K n Od room w0 mb fs nx w' o' m' V'
theorem Ui {bn s:Nat}(hb:bn<s)(hz:s+3<=W.heap.size)(h:FA n ws0 os bn Fs (s+3) W m V)(a:Ali s W W'):FA n ws0 os bn Fs 0 W' m V:=by
 obtain⟨h1,h2,nt,cs,h3,h4,h5,h6⟩:=h;exact⟨h1,h2,nt,cs,Wb _,Co h4 (a.keep bn (by omega) (by omega)),h5.keepB (a.keep nt h5.lt (by omega)),h6⟩
theorem Nw (h:SatE K n Od room w0 mb fs nx w o m V)(hl:ArgI w0 w o a ks)(hlen:Fs.length=ks.length)(hm:∀ i (h:i<ks.length),(ks[i],Fs[i]'(by omega))∈fs) :
 Cl 122 #[Pt mb,.slice a ks.length c] w (JA K n Od room w0 mb fs nx m o w Fs):=by
 have gi:∀ (fn:Fn) (first cap:Array Value) (w:Wd),(Instr.makeFunc fn first cap).run prog w=.ok (.func fn first cap) w:=fun _ _ _ _=>rfl
 have hw0:=h.chg.size;obtain⟨w2,g3⟩:=Ex ((w.alloc (.cells #[.slice a ks.length c] 22)).alloc (.cells #[.map none] 153));have g5:Bw w w2:=by rw[g3];exact(Af _ _).alloc (by simp) _
 have gc:w2.heap.size=w.heap.size+2:=by rw[g3];simp
 have g0:w2.heap[w.heap.size]?=some (.cells #[.slice a ks.length c] 22 (0,0)):=by
  rw[g3];exact(Wk _ _ (by simp)).trans (VT _ _)
 have g1:w2.heap[w.heap.size+1]?=some (.cells #[.map none] 153 (0,0)):=by
  have:=VT (w.alloc (.cells #[.slice a ks.length c] 22)) (.cells #[.map none] 153);rw[Wi] at this;rw[g3];exact this
 obtain⟨s,hs⟩:=Ex (w.heap.size+1);rw[<- hs] at g1;have g6:∀ x,a=some x->s≠x.block:=fun x hx e=>by have:=(hl.own x hx).1;omega
 have g4:=h.below g5;have hz:=hl.z.below g5;have g8:BoN w2 s w.heap.size a c ks w2:=⟨⟨_,g1⟩,cell1 g0,hz,fun _ _=>rfl⟩;have hC:∀ k,CsN s w.heap.size a k->k<w2.heap.size/\o k=none:=by
  rintro k (rfl|rfl|⟨x,hx,rfl⟩)
  . exact⟨by omega,h.lt.none (by omega)⟩
  . exact⟨by omega,h.lt.none (by omega)⟩
  . have:=hl.own x hx;exact⟨by omega,this.2.2⟩
 have ga:∀ k,CsN s w.heap.size a k->w0.heap.size<=k:=by
  rintro k (rfl|rfl|⟨x,hx,rfl⟩)
  . omega
  . omega
  . exact(hl.own x hx).2.1
 have hL:=Tl (B:=BoN w2 s w.heap.size a c ks) (QP:=fun _=>FA n m.waits m.d.vars s Fs 0) (St:=fun m'=>m'.waits=m.waits/\m'.d.vars=m.d.vars) (fun _ _ hb hk=>hb.keep hk) (fun s' _ W W' m' V' hc hz _ hq a=>Ui (hc s (.inl rfl)) hz hq a) (fun m' d hm hr=>⟨hm.1,by show d.vars=_;rw[hr.vars];exact hm.2⟩) ga Ug (Uh (E:=fun _ _ _=>False) (by omega) g6 hlen hm m.waits m.d.vars) g4 g8 hC ⟨rfl,rfl⟩
 have HL:Hq (Cl 164 #[Pt mb,.func (.func 165) #[] #[Pt s,Pt w.heap.size]] w2 fun x w'=>x=.returned (Iv 0)/\∃ nt,w'.cell? (Av s)=some (.map (some nt))/\(∃ v,w'.heap[s]?=some (.cells #[v] 153 (0,0)))/\JA K n Od room w0 mb fs nx m o w Fs (.returned (.tuple #[.map (some nt),Iv 0])) w'):=Hd (hL.mono (by
  rintro x w' ⟨er,rfl,o',m',V',hs',g9,hc,⟨rfl,q1,q2,nt,cs,q3,q4,q5,q6⟩|⟨_,m0,e,_⟩⟩
  ·refine⟨rfl,nt,q4,g9.n,nt,cs,rfl,q5,q6,o',m',V',?_,q1,q2,hs'⟩;have g2:ChgX (CsN s w.heap.size a) o o' w w':=(ChgX.of_below g5 o (CsN s w.heap.size a)).trans hc (fun _ _ e=>e);refine⟨g2.os,g2.tape,g2.output,g2.size,fun k hk ho _=>?_,g2.ext,g2.new⟩
   by_cases e:CsN s w.heap.size a k
   ·rcases e with e|e|⟨x,hx,e⟩
    . omega
    . omega
    . subst e;exact(g9.s x hx).trans (g5.block _ hk)
   . exact g2.block k hk ho e
  . exact e.elim))
 have gf:Hq (∀ i,i<ks.length->Cl 20 #[Pt mb,Iv (at0 ks i)] w2 (Sm (.bool true) w2)):=Hd fun i hi=>by
  rw[Au hi];exact(LZ g4 (hm i hi))
 have HZ:Hq (∀ i,i<ks.length->∃ b off,a=some (Aw b off)/\w2.cell? (Aw b (off+i))=some (Iv (at0 ks i))):=Hd fun i hi=>by
  obtain⟨b,off,e,hc⟩:=hz.cells i hi;exact⟨b,off,e,hc⟩
 have gd:=Hd g3.symm;have HS:=Hd hs;have c0:=cell1 g0;have gh:=hz.len;obtain⟨P,hP⟩:=Ex (JA K n Od room w0 mb fs nx m o w Fs);rw[<- hP] at HL ⊢;have HP:Hq (∀ x w',P x w'->P x w'):=Hd fun _ _ e=>e
 clear hP h hw0 g3 g5 gc g0 g1 hs g6 g4 hz g8 hC ga hL hl hlen hm
 go_enter func122,ntmps122
 go_upto_region 1 with fail;rw[gd.o];rw[<- HS.o];go_wp2_with fail
 go_loopw [7,12] (fun _ s12 wr=>∃ i:Nat,i<=ks.length/\s12=Iv i/\wr=w2) (fun _ s12 _=>ks.length-(intOf s12).toNat)
 case atStart=>exact⟨0,Wb _,by trivial,by trivial⟩
 case round =>
  obtain⟨i,hi,rfl,rfl⟩:=hrel
  by_cases g7:i<ks.length
  ·have gj:(i:Int)<(ks.length:Int):=by omega
   obtain⟨b,off,rfl,ck⟩:=HZ.o i g7;have HI:=Hd (gf.o i g7);clear HL;go_wp2_with fail;refine HI.o.mono ?_;rintro x w' ⟨rfl,rfl⟩;go_wp2_with fail;go_roundw
   case rel=>exact⟨i+1,by omega,by rw[show ((i+1:Nat):Int)=(i:Int)+1 by omega],trivial⟩
   case measure=>simp[intOf];omega
  ·obtain rfl:i=ks.length:=by omega
   have gg:¬ (ks.length:Int)<(ks.length:Int):=by omega
   go_wp2_with fail;refine HL.o.mono ?_;rintro x w' ⟨rfl,nt,q1,⟨v,q2⟩,hf⟩;have HF:=Hd hf;obtain rfl:v=.map (some nt):=XE ((cell1 q2).symm.trans q1);have ge:=Hd (J9 q2);have f1:w'.frozen? (Av s)=false:=by simp[World.frozen?,q2]
   clear hf HL;go_wp2_with fail;rw[ge.o];have hu:=underlying153;refine Wu (v:=.tuple #[.map (some nt),Iv 0]) ((results_cell_tmp rfl _ _ _).trans ?_) rfl HF.o
   show ((asAddr (Pt s)).run prog w').andThen (fun a w₁=>((loadVar 153 a).run prog w₁).andThen fun v w₂=>.ok (Value.tuple #[v,Iv 0]) w₂)=_
   go_simp
end
open Go.ChangeMaps (setBlock)
theorem Ny (seen:Array Nat):∀ es:List MapEntry,(∀ e∈es,0<=valOf e.val)->0<=seenSum es seen/\seenSum es seen<=(es.map fun e=>valOf e.val).sum
 | [],_=>⟨Int.le_refl _,Int.le_refl _⟩
 | x::l,h=>by
   have h1:=h x (WM ..);obtain⟨a,b⟩:=Ny seen l (fun e he=>h e (Xx _ he))
   show 0<=(if seen.contains x.born then valOf x.val else 0)+seenSum l seen/\(if seen.contains x.born then valOf x.val else 0)+seenSum l seen<=(List.map (fun e=>valOf e.val) (x::l)).sum
   rw[Xg,List.sum_cons];split<;>constructor<;>omega
theorem Uj {r:Nat}(h:Below n w w')(hr:n<=r)(o:Obj):Below n w (setBlock w' r o):=by
 refine⟨h.os,h.tape,h.output,by simpa [setBlock] using h.size,fun k hk=>?_⟩;have:(setBlock w' r o).heap[k]?=w'.heap[k]?:=by simp[setBlock,XP,show r≠k by omega]
 exact this.trans (h.block k hk)
theorem Uk {r:Nat}(h:r<w.heap.size)(o:Obj):(setBlock w r o).heap[r]?=some o:=by simp[setBlock,h]
theorem Ul (cs:List (Nat×Nat)):((ctL cs).map fun p=>valOf p.2).sum=(sumC cs:Nat):=by
 induction cs with
 | nil=>rfl
 | cons p r ih =>
   simp only[ctL,sumC,Xg,List.sum_cons,XJ] at ih ⊢;rw[ih];simp[valOf]
section
variable {o:Own}
def AskV (K:Law)(n:Nat)(Od:List Nat->Prop)(room:Nat)(w0:Wd)(mb:Nat)(fs:List (Int×BF))(nx:Int)(m:ManD)(o:Own)(w w':Wd):Prop :=
 ∃ o' m' V',ChgX NoB o o' w w'/\m'.waits=m.waits/\m'.d.vars=m.d.vars/\SatE K n Od room w0 mb fs nx w' o' m' V'
theorem AskV.below {w1 w':Wd}(h:AskV K n Od room w0 mb fs nx m o w w1)(hb:Bw w1 w'):AskV K n Od room w0 mb fs nx m o w w':=by
 obtain⟨o',m',V',h1,h2,h3,h4⟩:=h;exact⟨o',m',V',h1.trans (ChgX.of_below hb o' NoB) (fun _ _ e=>e),h2,h3,h4.below hb⟩
end
open Go.ChangeMaps (setBlock)
section
variable {o:Own}
theorem Um (h:SatE K n Od room w0 mb fs nx w o m V)(hl:ArgI w0 w o a ks)(hlen:Fs.length=ks.length)(hm:∀ i (h:i<ks.length),(ks[i],Fs[i]'(by omega))∈fs) :
 Cl 65 #[Pt mb,.slice a ks.length c] w fun x w'=>x=.returned (.tuple #[Iv ((nodesF n m.d.vars Fs).length:Nat),Iv 0])/\AskV K n Od room w0 mb fs nx m o w w':=by
 have HS:=Hd (Nw (c:=c) h hl hlen hm);obtain⟨N,hN⟩:=Ex ((nodesF n m.d.vars Fs).length);obtain⟨P,hP⟩:=Ex (fun x w'=>x=.returned (.tuple #[Iv (N:Nat),Iv 0])/\AskV K n Od room w0 mb fs nx m o w w':Ending->Wd->Prop)
 have gA:Hq (∀ w1 w',AskV K n Od room w0 mb fs nx m o w w1->Bw w1 w'->P (.returned (.tuple #[Iv (N:Nat),Iv 0])) w'):=Hd fun w1 w' h1 h2=>by
  rw[hP];exact⟨rfl,h1.below h2⟩
 rw[<- hN];rw[<- hP];have gm:=Hd hN;clear hN hP h hl hlen hm
 go_enter func65,ntmps65
 go_wp2_with fail;refine HS.o.mono ?_;rintro x w1 ⟨nt,cs,rfl,gg,hv,gi⟩;have gB:=Hd (show AskV K n Od room w0 mb fs nx m o w w1 from gi);obtain⟨es,clock,hM,g3,g9,gr⟩:=gg.ex;have gc:(es.toList.map fun e=>valOf e.val).sum=((N:Nat):Int):=by
  have h1:=WA (List.map fun q:Value×Value=>valOf q.2) g3;simp only[XJ] at h1;have h2:(es.toList.map fun e=>valOf e.val)=(ctL cs).map fun p=>valOf p.2:=h1
  rw[h2,Ul,hv.sum,gm.o]
 have g2:∀ e∈es.toList,∃ k:Nat,e.val=Iv k:=fun e he=>by
  have h1:(e.key,e.val)∈(ctL cs).map (fun p=>(Value.int .i64 p.1,p.2)):=by rw[<- g3];exact Wg.2 ⟨e,he,rfl⟩
  obtain⟨p,hp,e2⟩:=Wg.1 h1;obtain⟨q,_,rfl⟩:=Wg.1 hp;exact⟨q.2,(WA Prod.snd e2).symm⟩
 have ge:∀ e∈es.toList,0<=valOf e.val:=fun e he=>by
  obtain⟨k,hk⟩:=g2 e he;rw[hk];exact Int.natCast_nonneg k
 have gj:N<=2305843009213693952:=by rw[gm.o,<- hv.sum];exact hv.le
 have gf:nt<w1.heap.size:=gg.lt;have HV:=Hd g2;have HPOS:=Hd ge;have gl:=Hd gc;have go:=Hd g9;have gx:=Hd gr;have HM:=Hd hM;have gD:=run_range_map (P:=prog) w1 153 _ _ nt es clock underlying153 hM;clear gi gg hv g3 g9 gr gc g2 ge hM HS gm;go_upto_region 5 with fail;obtain⟨r,hr⟩:=Ex w1.heap.size;obtain⟨w2,g5⟩:=Ex (w1.alloc (.mapIter (some nt) clock #[] clock));have HB2:=Hd (show Bw w1 w2 by rw[g5];exact Af _ _);have gE:=Hd (show w2.heap[r]?=some (.mapIter (some nt) clock #[] clock) by rw[g5,hr];exact VT _ _);rw[<- g5,<- hr];have HR:=Hd hr;have gw:=Hd gf;clear g5 gD hr gf
 go_loopw [4,8] (fun s4 _ wr=>∃ seen:Array Nat,Bw w1 wr/\wr.heap[r]?=some (.mapIter (some nt) clock seen clock)/\s4=Iv (seenSum es.toList seen)) (fun _ _ wr=>(leftOf es (wr.iterSeen r)).size)
 case atStart=>exact⟨#[],HB2.o,gE.o,by rw[seenSum_none]⟩
 case round =>
  obtain⟨seen,hb,g1,rfl⟩:=hrel;have gk:wr.heap[nt]?=some (.map es clock):=(hb.block nt gw.o).trans HM.o;have HB:=Hd hb;have gG:=Hd g1;rcases run_next_at (P:=prog) wr 0 r nt clock clock seen es clock g1 gk go.o (VQ _) with ⟨hz,g0⟩|⟨e,he,w3,ga,g0⟩
  ·have hs:=seenSum_all es seen hz;rw[gl.o] at hs;have hnx:∀ ty,(Instr.next (Pt r) false ty).run prog wr=_:=fun _=>g0
   rw[hs];have HF:=Hd (gA.o w1 wr gB.o hb);clear hs g0 hz gk g1 hb gj;go_wp2_with fail;exact HF.o
  ·obtain⟨g8,gt⟩:=mem_left he;obtain⟨k,hk⟩:=HV.o e g8;have gC:0<=seenSum es.toList (seen.push e.born)/\seenSum es.toList (seen.push e.born)<=(N:Nat):=by
    have:=Ny (seen.push e.born) es.toList HPOS.o;rw[gl.o] at this;exact this
   have g6:=seenSum_push seen e gt es.toList gx.o g8;rw[hk] at g6;obtain⟨w4,g4⟩:=Ex (setBlock w3 r (.mapIter (some nt) clock (seen.push e.born) clock));have gd:r<wr.heap.size:=(VP.1 g1).1;have gu:Bw w1 w3:=by rcases ga with e|e<;>rw[e];exact hb;exact hb.trans ((Aq wr 1).mono hb.size)
   have gq:r<w3.heap.size:=by rcases ga with e|e<;>rw[e];exact gd;exact gd
   have gh:Bw w1 w4:=by rw[g4];exact Uj gu (by rw[HR.o];exact VQ _) _
   have g7:w4.heap[r]?=some (.mapIter (some nt) clock (seen.push e.born) clock):=by rw[g4];exact Uk gq _
   have gv:w4.heap[nt]?=some (.map es clock):=(gh.block nt gw.o).trans HM.o;have gy:=run_entry_at (P:=prog) w4 r nt clock seen es clock e g7 gv g8 gx.o;rw[<- g4,hk] at g0;rw[hk] at gy;have hnx:∀ ty,(Instr.next (Pt r) false ty).run prog wr=_:=fun _=>g0
   obtain⟨S,hS⟩:=Ex (seenSum es.toList seen);have gp:valOf (Iv (k:Nat))=(k:Int):=rfl;rw[gp,<- hS] at g6;have gF:IntKind.i64.wrap (S+(k:Nat))=S+(k:Nat):=XK _ ⟨by omega,by omega⟩;have gz:=Hd (show ∃ sn:Array Nat,Bw w1 w4/\w4.heap[r]?=some (.mapIter (some nt) clock sn clock)/\(Value.int .i64 (S+(k:Nat)))=Iv (seenSum es.toList sn) from ⟨_,gh,g7,by rw[g6]⟩)
   have gn:=Hd (show (leftOf es (w4.iterSeen r)).size<(leftOf es (wr.iterSeen r)).size by
    have e1:w4.iterSeen r=seen.push e.born:=by unfold World.iterSeen;rw[g7]
    have e2:wr.iterSeen r=seen:=by unfold World.iterSeen;rw[g1]
    rw[e1,e2];exact left_shrinks es seen e he)
   rw[<- hS];clear g0 gk g1 hb gj he g8 gt hk gC g6 g4 gd gu gq gh g7 gv hS gp ga;go_wp2_with fail;go_roundw
   case rel=>exact gz.o
   case measure=>exact gn.o
end
section
theorem Un (n:Nat)(F:BF)(l:List Nat)(hl:l.length<=64)(hlt:∀ v∈l,v<n)(hn:n<=16)(au al:Option Addr)(cu cl:Nat)(w:Wd)(h1:B0 w au (tabB n F))(h2:Am w al (l.map Int.ofNat)) :
 Cl 131 #[.slice au (2^n) cu,.slice al l.length cl] w (Bl (Iv (topR n F l)) w):=by
 have HH:Hq (∀ v W,v<n->Bw w W->Cl 182 #[.slice au (2^n) cu,Iv (v:Nat)] W (Bl (.bool (AV n F v)) W)):=Hd fun v W hv hb=>SY n F v hn hv au cu W (h1.below hb)
 have H2:=Hd h2;have g6:=Hd hlt;obtain⟨N,hN⟩:=Ex (topR n F l);have HN:Hq (topR n F (l.drop 0)=N):=Hd hN.symm;rw[<- hN];obtain⟨L,hL⟩:=Ex (2^n);rw[<- hL] at HH ⊢;clear h1 h2 hlt hN hL
 go_enter func131,ntmps131
 go_wp2_with fail
 go_loopw [4,5] (fun s4 s5 wr=>∃ i:Nat,i<=l.length/\s5=Iv i/\Hq (Bw w wr)/\Hq (topR n F (l.drop i)=N)) (fun _ s5 _=>l.length-(intOf s5).toNat)
 case atStart=>exact⟨0,Wb _,rfl,Hd (VZ _ _),HN⟩
 case round =>
  obtain⟨i,hi,rfl,HB,g3⟩:=hrel
  by_cases hlt:i<l.length
  ·have g4:(i:Int)<(l.length:Int):=by omega
   obtain⟨b,off,rfl,c0⟩:=(H2.o.below HB.o).cells i (by simpa using hlt);rw[Di hlt] at c0;have HV:Hq (l.drop i=l.getD i 0::l.drop (i+1)):=Hd (by rw[WN hlt];simp[List.getD,hlt]);have g2:l.getD i 0<n:=g6.o _ (by simp[List.getD,hlt]);obtain⟨v,hv⟩:=Ex (l.getD i 0);rw[<- hv] at c0 HV g2;have HC:=Hd (HH.o v wr g2 HB.o);obtain⟨t,ht⟩:=Ex (AV n F v);rw[<- ht] at HC;have g1:Hq (N=if t then (v:Int) else topR n F (l.drop (i+1))):=Hd (by rw[<- g3.o,HV.o,ht];rfl);clear hv ht;cases t with
   | true =>
     go_wp2_with fail;refine HC.o.mono ?_;rintro x w2 ⟨rfl,g0⟩;have c1:=Cq g0 c0;have HB2:=Hd (HB.o.trans (g0.mono HB.o.size));have HF:Hq (Ending.returned (Iv (v:Nat))=.returned (Iv N)):=Hd (by rw[g1.o];rfl);clear g0 c0 HC g1;go_wp2_with fail;go_ret;exact⟨HF.o,HB2.o⟩
   | false =>
     go_wp2_with fail;refine HC.o.mono ?_;rintro x w2 ⟨rfl,g0⟩;have HB2:=Hd (HB.o.trans (g0.mono HB.o.size));have g5:Hq (topR n F (l.drop (i+1))=N):=Hd (by rw[g1.o];rfl);clear g0 c0 HC g1;go_wp2_with fail;go_roundw
     case rel=>exact⟨i+1,by omega,by go_num,HB2,g5⟩
     case measure=>simp[intOf];omega
  ·have g4:¬ (i:Int)<(l.length:Int):=by omega
   have HF:Hq (Ending.returned (Iv (-1))=.returned (Iv N)):=Hd (by
    rw[<- g3.o,List.drop_eq_nil_of_le (by omega)];rfl)
   go_wp2_with fail;go_ret;exact⟨HF.o,HB.o⟩
end
section
theorem Uo (bu:List Bool)(au:Option Addr)(cu:Nat)(w:Wd)(h1:B0 w au bu) :
 Cl 180 #[.slice au bu.length cu] w fun x w'=>∃ g,x=.returned (.slice (some (Av g)) bu.length bu.length)/\OwnB w' w.heap.size (.slice (some (Av g)) bu.length bu.length) (bu.map (!·))/\Bw w w':=by
 have g7:=h1.len;obtain⟨L,hL⟩:=Ex bu.length;have H1:=Hd h1;have g1:=Hd hL;rw[<- hL] at g7 ⊢;clear hL h1
 go_enter func180,ntmps180
 go_wp2_with (at_make;refine Fi DH rfl _ _ rfl w.heap.size w _ L rfl rfl rfl (by omega) (VQ _) (VZ _ _) ?_;intro g w1 g3 g6 hs1 gg ge gd;clear gd)
 go_loopw [4] (fun s4 wr=>∃ j:Nat,j<=L/\s4=Iv j/\OwnB wr w.heap.size (.slice (some (Av g)) L L) ((bu.map (!·)).take j++(List.replicate L false).drop j)/\Bw w wr) (fun s4 _=>L-(intOf s4).toNat)
 case atStart=>exact⟨0,by omega,rfl,by unfold OwnB;simpa [AN] using g3,g6⟩
 case round =>
  clear g3 g6;obtain⟨j,hj,rfl,g0,g2⟩:=hrel
  by_cases g5:j<L
  ·have ga:j<(bu.map (!·)).length:=by simp[<- g1.o];exact g5
   obtain⟨b1,of1,e1,c1⟩:=(H1.o.below g2).cells j (by rw[<- g1.o];exact g5);have q0:=g0.cellB j (by have:=g1.o;simp;omega);have p0:=g0.frozen j;subst e1;have g8:=Hd g0;have g9:=Hd g2;obtain⟨y1,g4⟩:∃ y,y=bu.getD j false:=⟨_,rfl⟩;rw[<- g4] at c1
   have HY:Hq ((bu.map (!·))[j] = !y1):=Hd (by
    have gc:j<bu.length:=by rw[<- g1.o];exact g5
    rw[g4];simp[gc])
   clear g0 g2 g4 H1;go_wp2_with fail;go_roundw
   case rel =>
    refine⟨j+1,by omega,by go_num,?_,g9.o.setCell ge _⟩;rw[<- ID (by have:=g1.o;simp;omega) ga HY.o];exact g8.o.setB j _
   case measure=>simp[intOf];omega
  ·obtain rfl:j=L:=by omega
   have gf:(bu.map (!·)).length=j:=by simp[<- g1.o]
   go_wp2_with fail;go_ret;refine⟨g,rfl,?_,g2⟩;rw[WZ (by omega),WY (by simp),WX] at g0;exact g0
end
section
theorem Up (n:Nat)(F:BF)(au:Option Addr)(cu:Nat)(w:Wd)(h1:B0 w au (tabB n F)) :
 Cl 180 #[.slice au (2^n) cu] w fun x w'=>∃ g,x=.returned (.slice (some (Av g)) (2^n) (2^n))/\Bb w' (.slice (some (Av g)) (2^n) (2^n)) (tabB n (notF F))/\Bw w w':=by
 have:=Uo (tabB n F) au cu w h1;rw[B6] at this;refine this.mono ?_;rintro x w' ⟨g,rfl,h2,h3⟩;rw[Tb] at h2;exact⟨g,rfl,h2.boolsIs (by have:=h1.len;rw[B6] at this ⊢;exact this),h3⟩
end
section
variable {x y:Value}
theorem Uq (hn:n<=16)(h:TabA n w x F):Cl 180 #[x] w (RefT n (notF F) w):=by
 obtain⟨a,c,rfl,h1⟩:=h;refine(Up n F a c w h1).mono ?_;rintro e w' ⟨g,rfl,h2,h3⟩;exact⟨_,rfl,h2,h3⟩
end
section
theorem Ur (hn:n<=16){x:Value}(hl:Dy n w a Fs)(hx:TabA n w x F)(dF:DepF n F)(dl:∀ G∈Fs,DepF n G){r:Bool}(hr:r=true↔Dl Fs F) :
 Cl 130 #[.slice a Fs.length c,x] w (Bl (.bool r) w):=by
 have HN:=Hd (Uq hn hx);have HX:=Hd hx;have HH:=Hd hl;have gf:=hl.len;have HR:=Hd hr;have HD:=Hd dF;have gj:=Hd dl;obtain⟨L,hL⟩:=Ex Fs.length;have HL:=Hd hL;rw[<- hL] at gf ⊢;clear hl hx hL hr dF dl
 go_enter func130,ntmps130
 go_wp2_with fail;refine HN.o.mono ?_;rintro e w1 ⟨z,rfl,hz,ga⟩;have HZ:Hq (TabA n w1 z (notF F)):=Hd (TabA.is hz);have g0:=Hd ga;have gh:=Hd (VZ w1.heap.size w1);clear hz ga HN;go_wp2_with fail
 go_loopw [4,6] (fun s4 s6 wr=>∃ j:Nat,j<=L/\s6=Iv j/\Hq (Bw w1 wr)/\Hq (∀ q (h:q<Fs.length),q<j->Fs[q]≠F/\Fs[q]≠notF F)) (fun _ s6 _=>L-(intOf s6).toNat)
 case atStart=>exact⟨0,Wb _,rfl,gh,Hd fun q _ hq=>by omega⟩
 case round =>
  obtain⟨j,hj,rfl,HB,HQ⟩:=hrel
  by_cases ge:j<L
  ·have g8:j<Fs.length:=by rw[<- HL.o];exact ge
   have hb:=g0.o.trans (HB.o.mono g0.o.size);obtain⟨b1,of1,v,rfl,c1,ht⟩:=(HH.o.below hb).cells j g8;have gg:(j:Int)<(L:Int):=by omega
   obtain⟨G,hG⟩:=Ex (Fs[j]);have dG:DepF n G:=by rw[hG];exact gj.o _ (Wh _)
   rw[<- hG] at ht;obtain⟨p1,g4⟩:=GC (G=F);obtain⟨p2,hp2⟩:=GC (G=notF F);have g5:=Hd (MY ht (HX.o.below hb) dG HD.o g4);have HT:=Hd ht;have g7:Hq (∀ W,Bw wr W->Cl 181 #[v,z] W (Bl (.bool p2) W)):=Hd fun W hw=>MY (HT.o.below hw) (HZ.o.below (HB.o.trans (hw.mono HB.o.size))) dG HD.o.not hp2
   have g6:Hq (p1=false->p2=false->∀ q (h:q<Fs.length),q<j+1->Fs[q]≠F/\Fs[q]≠notF F):=Hd fun e1 e2 q hq gk=>by
    rcases Wo q j with h|h
    . exact HQ.o q hq h
    ·obtain rfl:q=j:=by omega
     rw[<- hG];exact⟨fun e=>(by rw[g4.2 e] at e1;cases e1),fun e=>(by rw[hp2.2 e] at e2;cases e2)⟩
   have g2:Hq ((p1=true\/p2=true)->r=true):=Hd fun h=>HR.o.2 ⟨j,g8,by rw[<- hG];exact h.imp g4.1 hp2.1⟩
   clear g4 hp2 hG dG ht hb HQ;cases p1 with
   | true =>
     have HF:Hq (Ending.returned (.bool true)=.returned (.bool r)):=Hd (by rw[g2.o (.inl rfl)]);clear g2 g6 g7;go_wp2_with fail;refine g5.o.mono ?_;rintro e w2 ⟨rfl,g1⟩;have g3:=Hd (g0.o.trans ((HB.o.trans (g1.mono HB.o.size)).mono g0.o.size));clear g1 g5 c1;go_wp2_with fail;go_ret;exact⟨HF.o,g3.o⟩
   | false =>
     go_wp2_with fail;refine g5.o.mono ?_;rintro e w2 ⟨rfl,g1⟩;have gc:=Hd (g7.o _ g1);have c2:=Cq g1 c1;have HB2:=Hd (HB.o.trans (g1.mono HB.o.size));clear g1 g5 g7 c1;go_wp2_with fail;refine gc.o.mono ?_;rintro e w3 ⟨rfl,g9⟩;have gd:=Hd (HB2.o.trans (g9.mono HB2.o.size));clear g9 gc c2;cases p2 with
     | true =>
       have HF:Hq (Ending.returned (.bool true)=.returned (.bool r)):=Hd (by rw[g2.o (.inr rfl)]);have g3:=Hd (g0.o.trans (gd.o.mono g0.o.size));clear g2 g6;go_wp2_with fail;go_ret;exact⟨HF.o,g3.o⟩
     | false =>
       have gi:=Hd (g6.o (by first|rfl|trivial) (by first|rfl|trivial));clear g2 g6;go_wp2_with fail;go_roundw
       case rel=>exact⟨j+1,by omega,by go_num,gd,gi⟩
       case measure=>simp[intOf];omega
  ·have HF:Hq (Ending.returned (.bool false)=.returned (.bool r)):=Hd (by
    cases r with
    | false=>rfl
    | true =>
      obtain⟨i,hi,h⟩:=HR.o.1 rfl;have:=HQ.o i hi (by rw[<- HL.o] at hi;omega);exact(h.elim this.1 this.2).elim)
   have gg:¬ (j:Int)<(L:Int):=by omega
   have g3:=Hd (g0.o.trans (HB.o.mono g0.o.size));clear HQ;go_wp2_with fail;go_ret;exact⟨HF.o,g3.o⟩
end
section
theorem Us (bx:List Bool)(hpos:0<bx.length)(ax:Option Addr)(cx:Nat)(w:Wd)(h1:B0 w ax bx){r:Bool}(hr:r=true↔∀ q,q<bx.length->bx.getD q false=bx.getD 0 false) :
 Cl 129 #[.slice ax bx.length cx] w (Bl (.bool r) w):=by
 have H1:=Hd h1;have hl:=h1.len;have HR:=Hd hr;obtain⟨L,hL⟩:=Ex bx.length;have HL:=Hd hL;rw[<- hL] at hl hpos ⊢;clear h1 hL hr
 go_enter func129,ntmps129
 go_wp2_with fail
 go_loopw [2,3] (fun s2 s3 wr=>∃ j:Nat,j<=L/\s3=Iv j/\Hq (Bw w wr)/\Hq (∀ q,q<j->bx.getD q false=bx.getD 0 false)) (fun _ s3 _=>L-(intOf s3).toNat)
 case atStart=>exact⟨0,Wb _,rfl,Hd (VZ _ _),Hd fun q hq=>by omega⟩
 case round =>
  obtain⟨j,hj,rfl,HB,HQ⟩:=hrel
  by_cases g4:j<L
  ·obtain⟨b1,of1,rfl,c1⟩:=(H1.o.below HB.o).cells j (by rw[<- HL.o];exact g4);obtain⟨b2,of2,he,c2⟩:=(H1.o.below HB.o).cells 0 (by rw[<- HL.o];exact hpos);injection he with he
   injection he with ga g9
   subst ga;subst g9;rw[XR] at c2;have g2:=Hd (HB.o.trans ((Aq wr 1).mono HB.o.size));have g8:(j:Int)<(L:Int):=by omega
   have gc:(0:Int)<(L:Int):=by omega
   obtain⟨y1,g1⟩:∃ y,y=bx.getD j false:=⟨_,rfl⟩;obtain⟨y2,g0⟩:∃ y,y=bx.getD 0 false:=⟨_,rfl⟩;rw[<- g1] at c1;rw[<- g0] at c2;have g5:Hq (y1=y2->∀ q,q<j+1->bx.getD q false=bx.getD 0 false):=Hd fun e q hq=>by
    rcases Wo q j with h|h
    . exact HQ.o q h
    ·obtain rfl:q=j:=by omega
     rw[<- g1,<- g0,e]
   have g6:Hq (y1≠y2->r=false):=Hd fun g7=>by
    cases r with
    | false=>rfl
    | true=>exact absurd (HR.o.1 rfl j (by rw[<- HL.o];exact g4)) (by rw[<- g1,<- g0];exact g7)
   clear g1 g0;go_upto_region 4 with fail;refine AM (fun W:Wd=>W.cell? (Aw b1 (of1+j))=some (.bool y1)/\W.cell? (Aw b1 of1)=some (.bool y2)) false 8
    [(0,false),(1,false),(2,false),(3,false),(4,false),(5,false),(6,false),(7,false)] (by kernel_rfl) (by kernel_rfl) ⟨c1,c2⟩ ?_
   simp only[planned,AL]
   iterate 8
    refine Ay rfl ?_;apply Exists.intro;refine⟨fun w' hw=>?_,?_⟩
    . obtain⟨h1,h2⟩:=hw;go_simp;rfl
    simp only[Ab]
   refine Cg ?_;clear c1 c2;cases y1<;>cases y2
   ·have g3:=Hd (g5.o rfl);go_wp2_with fail;go_roundw
    case rel=>exact⟨j+1,by omega,by go_num,g2,g3⟩
    case measure=>simp[intOf];omega
   . have HF:Hq (Ending.returned (.bool false)=.returned (.bool r)):=Hd (by rw[g6.o (by simp)]);go_wp2_with fail;go_ret;exact⟨HF.o,g2.o⟩
   . have HF:Hq (Ending.returned (.bool false)=.returned (.bool r)):=Hd (by rw[g6.o (by simp)]);go_wp2_with fail;go_ret;exact⟨HF.o,g2.o⟩
   ·have g3:=Hd (g5.o rfl);go_wp2_with fail;go_roundw
    case rel=>exact⟨j+1,by omega,by go_num,g2,g3⟩
    case measure=>simp[intOf];omega
  ·have HF:Hq (Ending.returned (.bool true)=.returned (.bool r)):=Hd (by
    rw[HR.o.2 fun q hq=>HQ.o q (by rw[<- HL.o] at hq;omega)])
   have g8:¬ (j:Int)<(L:Int):=by omega
   clear HQ;go_wp2_with fail;go_ret;exact⟨HF.o,HB.o⟩
end
section
theorem Nz {x:Value}(h1:TabA n w x F)(hd:DepF n F){r:Bool}(hr:r=true↔∃ c,F=fun _=>c) :
 Cl 129 #[x] w (Bl (.bool r) w):=by
 obtain⟨a,c,rfl,k1⟩:=h1;have:=Us (tabB n F) (by rw[B6];exact Xo (by omega)) a c w k1 (hr.trans (TI hd).symm);rw[B6] at this;exact this
end
section
theorem Ut (hn:n<=9)(hlen:os.length=n)(hlt:∀ v∈os,v<n)(hmem:∀ v,v<n->v∈os){co:Nat}(B:Nat)(hab:∀ a,ao=some a->a.block<B) :
 ∀ (k p:Nat),p+k=n->∀ (w:Wd) (u x:Value) (Fs:List BF) (F:BF),B<=w.heap.size->NodR n w B u Fs->TabS n w u x F->(∀ G∈Fs,DepF n G)->DepF n F->PosF os p F->Fs.length+2^k<=1000->Am w ao (os.map Int.ofNat) ->
  Cl 75 #[u,x,.slice ao os.length co] w fun e w'=>∃ u',e=.returned u'/\NodR n w' B u' (belF n os k Fs F)/\BL u u' w w':=by
 intro k
 induction k with
 | zero =>
   intro p gd w u x Fs F hB hu hx g7 hd hp hL g6;have hc:=TO hd (show PosF os n F from (show p=n by omega) ▸ hp) hlen hmem;have HC:=Hd (Nz (TabA.is hx.is) hd (r:=true) (by simp[hc]));have HU:=Hd hu;rw[GK (.inl hc)];clear hu hx g7 hd hp g6 hc gd;obtain⟨a,c,e,_⟩:=HU.o.tabs (by omega);subst e
   go_enter func75,ntmps75
   go_wp2_with fail;refine HC.o.mono ?_;rintro e w1 ⟨rfl,g0⟩;have HF:Hq (NodR n w1 B (.slice a Fs.length c) Fs/\BL (.slice a Fs.length c) (.slice a Fs.length c) w w1):=Hd ⟨HU.o.below g0,.of_below g0⟩;clear g0;go_wp2_with fail;go_ret;exact⟨_,rfl,HF.o.1,HF.o.2⟩
 | succ k ih =>
   intro p gd w u x Fs F hB hu hx g7 hd hp hL g6;have gj:0<2^k:=Xo (by omega);rw[X2] at hL;have gF:Fs.length<=999:=by omega
   obtain⟨r1,g9⟩:=GC (∃ c,F=fun _=>c);obtain⟨r2,g8⟩:=GC (Dl Fs F);obtain⟨ax,cx,gP,gx,gw⟩:=hx.is;rw[B6] at gP;obtain⟨au,cu,gR,gl⟩:=hu.tabs (by omega);have HC:=Hd (Nz (TabA.is hx.is) hd g9);have HA:Hq (∀ W,Bw w W->Cl 130 #[u,x] W (Bl (.bool r2) W)):=Hd fun W hb=>by
    have:=Ur (w:=W) (n:=n) (by omega) (c:=cu) (gl.below hb) ((TabA.is hx.is).below hb) hd g7 g8;rw[<- gR] at this;exact this
   have g5:Hq (r1=true\/r2=true->belF n os (k+1) Fs F=Fs):=Hd fun h=>GK (h.imp g9.1 g8.1)
   have HU:=Hd hu;have HX:=Hd hx;subst gR;subst gP;cases r1 with
   | true =>
     rw[g5.o (.inl rfl)];clear hu hx g7 hd hp g6 g9 g8 gx gw gl HA g5 hL ih gd gj gF
     go_enter func75,ntmps75
     go_wp2_with fail;refine HC.o.mono ?_;rintro e w1 ⟨rfl,g0⟩;have HF:Hq (NodR n w1 B (.slice au Fs.length cu) Fs/\BL (.slice au Fs.length cu) (.slice au Fs.length cu) w w1):=Hd ⟨HU.o.below g0,.of_below g0⟩;clear g0;go_wp2_with fail;go_ret;exact⟨_,rfl,HF.o.1,HF.o.2⟩
   | false =>
     cases r2 with
     | true =>
       rw[g5.o (.inr rfl)];clear hu hx g7 hd hp g6 g9 g8 gx gw gl g5 hL ih gd gj gF
       go_enter func75,ntmps75
       go_wp2_with fail;refine HC.o.mono ?_;rintro e w1 ⟨rfl,g0⟩;have gi:=Hd (HA.o w1 g0);have ga:=Hd g0;clear g0 HA;go_wp2_with fail;refine gi.o.mono ?_;rintro e w2 ⟨rfl,ge⟩;have HB2:=Hd (ga.o.trans (ge.mono ga.o.size));have HF:Hq (NodR n w2 B (.slice au Fs.length cu) Fs/\BL (.slice au Fs.length cu) (.slice au Fs.length cu) w w2):=Hd ⟨HU.o.below HB2.o,.of_below HB2.o⟩;clear ge gi HC;go_wp2_with fail;go_ret;exact⟨_,rfl,HF.o.1,HF.o.2⟩
     | false =>
       have gA:¬ ((∃ c,F=fun _=>c)\/Dl Fs F):=fun h=>by
        rcases h with h|h
        . have:=g9.2 h;cases this
        . have:=g8.2 h;cases this
       obtain⟨v,gy,gQ,gc⟩:=TP hd hp hlt hmem fun h=>gA (.inl h)
       rw[Nf gA gy];obtain⟨rs,gT,gz,gS⟩:=hu.ex;have he:Hq (∀ W,B0 W ax (tabB n F)->Am W ao (os.map Int.ofNat)->Cl 131 #[.slice ax (2^n) cx,.slice ao os.length co] W (Bl (Iv (v:Nat)) W)):=Hd fun W h1 h2=>by
        have:=Un n F os (by omega) hlt (by omega) ax ao cx co W h1 h2;rw[gy] at this;exact this
       have gN:Hq (∀ W (b:Bool),B0 W ax (tabB n F)->Cl 132 #[.slice ax (2^n) cx,Iv (v:Nat),.bool b] W fun y w'=>∃ g,y=.returned (.slice (some (Av g)) (2^n) (2^n))/\OwnB w' W.heap.size (.slice (some (Av g)) (2^n) (2^n)) (tabB n (cofF F v b))/\Bw W w'):=Hd fun W b h1=>TJ n F v b (by omega) gQ ax cx W h1
       have gO:Hq (∀ W u',TabS n W u' (.slice ax (2^n) cx) F->B0 W ax (tabB n F)):=Hd fun W u' h=>by
        obtain⟨a',c',e,h1,_⟩:=h.is;injection e with e1 _ _
        rw[e1];exact h1
       obtain⟨F0,gg⟩:=Ex (cofF F v false);obtain⟨F1,gf⟩:=Ex (cofF F v true);have hz:=Hd gg;have hy:=Hd gf;rw[<- gg,<- gf];have gD:DepF n F0:=by rw[gg];exact(gc false).2
       have gZ:DepF n F1:=by rw[gf];exact(gc true).2
       have gk:∀ G∈Fs++[F],DepF n G:=fun G hG=>by
        rcases Wj.1 hG with h1|h1
        . exact g7 G h1
        . simp at h1;subst h1;exact hd
       have gC:=F8 n os k (Fs++[F]) F0 gk gD;have gp:=GJ n os k (Fs++[F]) F0;rw[VY,Xm] at gp;have hk:Hq (∀ W u' x',B<=W.heap.size->NodR n W B u' (Fs++[F])->TabS n W u' x' F0->Am W ao (os.map Int.ofNat)->Cl 75 #[u',x',.slice ao os.length co] W fun e w'=>∃ u'',e=.returned u''/\NodR n w' B u'' (belF n os k (Fs++[F]) F0)/\BL u' u'' W w') :=
        Hd fun W u' x' h1 h2 h3 h4=>ih (p+1) (by omega) W u' x' (Fs++[F]) F0 h1 h2 h3 gk gD (by rw[gg];exact(gc false).1) (by rw[VY,Xm];omega) h4
       have hj:Hq (∀ W u' x',B<=W.heap.size->NodR n W B u' (belF n os k (Fs++[F]) F0)->TabS n W u' x' F1->Am W ao (os.map Int.ofNat)->Cl 75 #[u',x',.slice ao os.length co] W fun e w'=>∃ u'',e=.returned u''/\NodR n w' B u'' (belF n os k (belF n os k (Fs++[F]) F0) F1)/\BL u' u'' W w') :=
        Hd fun W u' x' h1 h2 h3 h4=>ih (p+1) (by omega) W u' x' _ F1 h1 h2 h3 gC gZ (by rw[gf];exact(gc true).1) (by omega) h4
       have hA:=Hd g6;have gL:Hq (∀ W u',BL (.slice au Fs.length cu) u' w W->Am W ao (os.map Int.ofNat)):=Hd fun W u' hg=>g6.keep hg.app.keep fun a ha e=>by
        have h1:=(hu.blk a.block e.symm).1;have h2:=hab a ha;omega
       have h9:=Hd gS;have hw:=Hd gT;have hv:rs.length<=999:=by omega
       have gI:=Hd gz;have gM:=Hd hB;clear hu hx g7 hd hp g6 g9 g8 gx gw gl g5 hL ih gd gj gF gA gc gy gQ gg gf gD gZ gk gC gp gS gT gz hlen hlt hmem hab
       go_enter func75,ntmps75
       go_wp2_with fail;refine HC.o.mono ?_;rintro e w1 ⟨rfl,g0⟩;have gi:=Hd (HA.o w1 g0);have ga:=Hd g0;clear g0 HA;go_wp2_with fail;refine gi.o.mono ?_;rintro e w2 ⟨rfl,ge⟩;have HB2:=Hd (ga.o.trans (ge.mono ga.o.size));have gt:=Hd (gI.o.below HB2.o);have h0:B<=w2.heap.size:=VU gM.o HB2.o.size;clear ge gi HC ga;go_upto_region 4 with (at_builtin;refine Dw KW _ rfl _ _ rfl B _ rs (.slice ax (2^n) cx) rfl rfl rfl rfl rfl (by exact gt.o) (by omega) h0 ?_;intro u3 w3 gm g1 g2 g3 g4 gX)
       have gh:Hq (BL (.slice au Fs.length cu) u3 w w3):=Hd ((BL.of_below HB2.o).trans ⟨g1,g2,g3,g4,gX⟩);have hi:Hq (NodR n w3 B u3 (Fs++[F])):=Hd (NodR.app hw.o h9.o HX.o gm gh.o);have gH:=Hd (HX.o.grow gh.o);have HT:=Hd (he.o w3 (gO.o _ _ gH.o) (gL.o _ _ gh.o));clear gm g1 g2 g3 g4 gX gt HB2 he gI h9 h0 HU hv;go_wp2_with fail;refine HT.o.mono ?_;rintro y w4 ⟨rfl,gr⟩;have ho:=Hd (gh.o.trans (.of_below gr));have gK:=Hd (hi.o.below gr);have gG:=Hd (gH.o.grow (.of_below gr));have ht:=Hd (gN.o w4 false (gO.o _ _ gG.o));clear gr HT gh hi gH;go_wp2_with fail;refine ht.o.mono ?_;rintro y w5 ⟨g,rfl,go,gq⟩;have gv:=Hd (ho.o.trans (.of_below gq));have hh:=Hd (gK.o.below gq);have h8:=Hd (gG.o.grow (.of_below gq))
       have h6:Hq (TabS n w5 u3 (.slice (some (Av g)) (2^n) (2^n)) F0):=Hd ⟨by rw[hz.o];exact OwnC.boolsIs go (by rw[B6];exact Ek (by omega)),fun q hq=>⟨(go.lt q hq).2,fun e=>by
        have h1:=(go.lt q hq).1;have h2:=(gK.o.blk q e).2;omega⟩⟩
       have HR:=Hd (hk.o w5 u3 _ (VU gM.o gv.o.size) hh.o h6.o (gL.o _ _ gv.o));clear go gq ht ho gK gG hk h6 hh;go_wp2_with fail;refine HR.o.mono ?_;rintro y w6 ⟨u6,rfl,gV,gB⟩;have hm:=Hd (gv.o.trans gB);have gJ:=Hd gV;have h7:=Hd (h8.o.grow gB);have hr:=Hd (gN.o w6 true (gO.o _ _ h7.o));clear gV gB HR gv h8 gN;go_wp2_with fail;refine hr.o.mono ?_;rintro y w7 ⟨g,rfl,gn,gE⟩;have gu:=Hd (hm.o.trans (.of_below gE));have hf:=Hd (gJ.o.below gE)
       have h5:Hq (TabS n w7 u6 (.slice (some (Av g)) (2^n) (2^n)) F1):=Hd ⟨by rw[hy.o];exact OwnC.boolsIs gn (by rw[B6];exact Ek (by omega)),fun q hq=>⟨(gn.lt q hq).2,fun e=>by
        have h1:=(gn.lt q hq).1;have h2:=(gJ.o.blk q e).2;omega⟩⟩
       have HR:=Hd (hj.o w7 u6 _ (VU gM.o gu.o.size) hf.o h5.o (gL.o _ _ gu.o));clear gn gE hr hm gJ h7 hj h5 hf;go_wp2_with fail;refine HR.o.mono ?_;rintro y w8 ⟨u8,rfl,gU,gY⟩;have HF:=Hd (show _/\_ from ⟨gU,gu.o.trans gY⟩);clear gU gY HR gu;go_wp2_with fail;go_ret;exact⟨_,rfl,HF.o.1,HF.o.2⟩
end
section
variable {Gs:List BF}{x:Value}
theorem JB (hi:i<Gs.length):nodesF n os (Gs.take (i+1))=belF n os n (nodesF n os (Gs.take i)) Gs[i]:=by
 unfold nodesF;rw[VX hi,XA];rfl
theorem JC:∀ i,i<=Gs.length->(nodesF n os (Gs.take i)).length<=i*2^n
 | 0,_=>by simp[nodesF]
 | i+1,hi=>by
   have h1:=JC i (by omega);rw[JB (by omega)];have h2:=GJ n os n (nodesF n os (Gs.take i)) (Gs[i]'(by omega));rw[Nat.succ_mul];omega
theorem N1 (hd:∀ G∈Gs,DepF n G):∀ i,i<=Gs.length->∀ G∈nodesF n os (Gs.take i),DepF n G
 | 0,_,G,hG=>by simp[nodesF] at hG
 | i+1,hi,G,hG=>by
   rw[JB (by omega)] at hG;exact F8 n os n _ _ (N1 hd i (by omega)) (hd _ (Wh _)) G hG
theorem Uu (h:TabA n w x F)(hb:Bw w W)(hu:∀ k,u.ownBlock=some k->w.heap.size<=k):TabS n W u x F:=by
 obtain⟨a,c,rfl,h1⟩:=h;obtain⟨g,off,rfl,hc⟩:=h1.cells 0 (by rw[B6];exact Xo (by omega));have hg:g<w.heap.size:=Ag hc;refine⟨⟨_,c,by rw[B6],h1.below hb,by simp⟩,fun k hk=>?_⟩;cases hk;exact⟨Wm hg hb.size,fun e=>by have:=hu g e;omega⟩
end
theorem N2 (hn:n<=9)(hlen:os.length=n)(hlt:∀ v∈os,v<n)(hmem:∀ v,v<n->v∈os){fa:Option Addr}{co fc:Nat}{Gs:List BF}(hfs:Dy n w fa Gs)(hd:∀ G∈Gs,DepF n G)(hos:Am w ao (os.map Int.ofNat))(hab:∀ a,ao=some a->a.block<w.heap.size)(hL:Gs.length*2^n+2^n<=1000) :
 Cl 31 #[.slice fa Gs.length fc,.slice ao os.length co] w (Bl (Iv ((nodesF n os Gs).length:Nat)) w):=by
 obtain⟨w1,g0⟩:=Ex (w.alloc (.cells #[] 90));have HW1:Hq (_=w1):=Hd g0.symm;have g3:Hq (Bw w w1):=Hd (by rw[g0];exact Af _ _);have g2:Hq (NodR n w1 w.heap.size (.slice (some (Av w.heap.size)) 0 0) (nodesF n os (Gs.take 0))):=Hd ⟨[],by simp[nodesF],by rw[g0];exact Dv _ _ _ (VQ _),fun i h=>by simp at h⟩;have g9:Hq (∀ W u x i,(hi:i<Gs.length)->Bw w W->NodR n W w.heap.size u (nodesF n os (Gs.take i))->TabA n w x Gs[i]->Cl 75 #[u,x,.slice ao os.length co] W fun e w'=>∃ u',e=.returned u'/\NodR n w' w.heap.size u' (nodesF n os (Gs.take (i+1)))/\Bw w w'):=Hd fun W u x i hi hb hu hx=>by
  have h1:=JC (n:=n) (os:=os) (Gs:=Gs) i (by omega);have h2:i*2^n<=Gs.length*2^n:=WS _ (by omega);refine(Ut hn hlen hlt hmem (co:=co) w.heap.size hab n 0 (by omega) W u x _ _ hb.size hu (Uu hx hb fun k hk=>(hu.blk k hk).1) (N1 hd i (by omega)) (hd _ (Wh _)) (fun j hj=>by omega) (by omega) (hos.below hb)).mono ?_;rintro e w' ⟨u',rfl,h3,h4⟩;rw[JB hi];exact⟨u',rfl,h3,hb.trans (h4.below hb.size fun k hk=>(hu.blk k hk).1)⟩
 have HH:=Hd hfs;have g5:=hfs.len;obtain⟨L,g1⟩:=Ex Gs.length;have HL:=Hd g1;obtain⟨N,hN⟩:=Ex ((nodesF n os Gs).length);have HN:=Hd hN;have g7:Hq (nodesF n os (Gs.take L)=nodesF n os Gs):=Hd (by rw[g1,W9]);rw[<- g1] at g5 ⊢;rw[<- hN];clear hfs hd hos hab hL hlen hlt hmem g1 hN g0
 go_enter func31,ntmps31
 go_upto_region 2 with fail;rw[HW1.o];go_wp2_with fail
 go_loopw [5,6] (fun s5 s6 wr=>∃ (i:Nat) (u:Value),i<=L/\s6=Iv i/\s5=u/\Hq (NodR n wr w.heap.size u (nodesF n os (Gs.take i)))/\Hq (Bw w wr)) (fun _ s6 _=>L-(intOf s6).toNat)
 case atStart=>exact⟨0,_,Wb _,rfl,rfl,g2,g3⟩
 case round =>
  obtain⟨i,u,hi,rfl,rfl,HR,HB⟩:=hrel
  by_cases hlt:i<L
  ·have g4:i<Gs.length:=by rw[<- HL.o];exact hlt
   obtain⟨b1,of1,v,rfl,c1,ht⟩:=HH.o.cells i g4;have g6:(i:Int)<(L:Int):=by omega
   have HC:=Hd (g9.o wr _ v i g4 HB.o HR.o ht);have c2:=Cq HB.o c1;clear ht c1 HR HB g2 g3;go_wp2_with fail;refine HC.o.mono ?_;rintro e w2 ⟨u',rfl,h3,h4⟩;have g8:=Hd h3;have HB2:=Hd h4;clear h3 h4 HC c2;go_wp2_with fail;go_roundw
   case rel=>exact⟨i+1,_,by omega,by go_num,rfl,g8,HB2⟩
   case measure=>simp[intOf];omega
  ·obtain rfl:i=L:=by omega
   have g6:¬ (i:Int)<(i:Int):=by omega
   have hr:=HR.o;rw[g7.o] at hr;obtain⟨rs,q1,q2,_⟩:=hr.ex;obtain⟨a,c,e,_⟩:=q2.slice;rw[q1,<- HN.o] at e;subst e;clear q1 q2 hr HR g2 g3;go_wp2_with fail;go_ret;exact⟨rfl,HB.o⟩
noncomputable def szO (n:Nat)(Fs:List BF)(zs:List Int):Nat:=(nodesF n (zs.map Int.toNat) Fs).length
theorem En (n:Nat)(Fs:List BF)(zs:List Int):szO n Fs zs<=Fs.length*2^n:=by
 have h:=JC (n:=n) (os:=zs.map Int.toNat) (Gs:=Fs) Fs.length (VQ _);rw[W9] at h;exact h
theorem Uv (l:List Nat):(l.map Int.ofNat).map Int.toNat=l:=by
 rw[XJ];exact(List.map_congr_left fun z _=>rfl).trans (List.map_id _)
def ArgB (w0:Wd)(a:Option Addr)(ks:List Int):Wd->Own->Prop:=fun W o=>ArgI w0 W o a ks
theorem ArgB.keep :As (ArgB w0 a ks):=fun W o W' o' h hc =>
 ⟨⟨h.z.len,fun j hj=>by
  obtain⟨b,off,e,hcl⟩:=h.z.cells j hj;have:=h.own _ e;exact⟨b,off,e,Co hcl (hc.block b this.1 this.2.2 (fun e=>e))⟩⟩,fun x hx=>⟨Wm (h.own x hx).1 hc.size,(h.own x hx).2.1,hc.none' (h.own x hx).1 (h.own x hx).2.2⟩⟩
section
variable {P:List Nat->Prop}
theorem FxO.size (hB:As B)(h:FxO K n room w0 mb ws0 C o0 wb B (fun l=>l.map Int.ofNat=zs) fs nx W)(hl:∀ W o,B W o->ArgI w0 W o a ks)(hlen:Fs.length=ks.length)(hm:∀ i (h:i<ks.length),(ks[i],Fs[i]'(by omega))∈fs) :
 Cl 65 #[Pt mb,.slice a ks.length c] W fun x w'=>x=.returned (.tuple #[Iv (szO n Fs zs:Nat),Iv 0])/\FxO K n room w0 mb ws0 C o0 wb B (fun l=>l.map Int.ofNat=zs) fs nx w':=by
 obtain⟨o,m,V,h1,h2,h3,h4⟩:=h;refine(Um (c:=c) h3 (hl _ _ h4) hlen hm).mono ?_;rintro x w' ⟨rfl,o',m',V',q1,q2,q3,q4⟩;refine⟨?_,o',m',V',h1.trans q1 NoB.sub,by rw[q2];exact h2,q4,hB _ _ _ _ h4 q1⟩;have e:zs.map Int.toNat=m.d.vars:=by rw[<- h3.od,Uv]
 unfold szO;rw[e]
theorem FxO.wrC {D:Nat->Prop}(h:FxO K n room w0 mb ws0 C o0 wb B P fs nx W)(hw:Wr D W W')(hDC:∀ k,D k->C k\/wb.heap.size<=k)(hs0:∀ k,D k->w0.heap.size<=k)(hno:∀ o,B W o->∀ k,D k->o k=none)(hB:∀ o,Ac o W->B W o->B' W' o):FxO K n room w0 mb ws0 C o0 wb B' P fs nx W':=by
 obtain⟨o,m,V,h1,h2,h3,h4⟩:=h;exact⟨o,m,V,h1.trans (ChgX.of_wr (C:=D) hw o (fun _ _ q=>q)) (fun k hk q=>(hDC k q).resolve_right (by omega)),h2,h3.other hw (fun k _ q=>⟨hs0 k q,hno o h4 k q⟩),hB o h3.lt h4⟩
end
def mvM (t s:Nat):Value->Value->Nat
 | .int _ a,.int _ d=>((t:Int)-(a+d)).natAbs
 | _,_=>((t:Int)-(s:Int)).natAbs
section
theorem N3 (hB:As B)(hzr:Az zs=true)(hzl:zs.length=n){hm:Nat}(hh:hm<n)(hn:nx<=549755813888)(hr:3*(fs.length*2^n)<=room)(eg:∀ args w,(callFunc gf args).run prog w=.ok (.enter gf args) w){al:Bool}
 (hon:∀ W x,x<n->FxO K n room w0 mb ws0 C o0 wb B (fun l=>l.map Int.ofNat=A3 zs (hm:Int) (x:Int)) fs nx W->Calls prog gf (#[Iv (x:Nat)]++lop) W fun e w'=>∃ b,e=.returned (.bool b)/\(al=true->b=true)/\FxO K n room w0 mb ws0 C o0 wb B (fun l=>l.map Int.ofNat=A3 zs (hm:Int) (x:Int)) fs nx w')
 {s t:Nat} (hs:s<n) (ht:t<n) (h:FxO K n room w0 mb ws0 C o0 wb B (fun l=>l.map Int.ofNat=A3 zs (hm:Int) (s:Int)) fs nx W) :
 Cl 79 #[Pt mb,Iv (at0 zs hm),Iv (t:Nat),.func (.func gf) #[] lop] W fun e w'=>e=.returned (.tuple #[])/\∃ x,x<n/\(al=true->x=t)/\FxO K n room w0 mb ws0 C o0 wb B (fun l=>l.map Int.ofNat=A3 zs (hm:Int) (x:Int)) fs nx w':=by
 have hn64:n<=64:=by obtain⟨o,m,V,_,_,h3,_⟩:=h;have:=h3.ok.store.small;rw[h3.vars] at this;exact this
 obtain⟨v,hv⟩:=Ex (at0 zs hm);obtain⟨S,hS⟩:=Ex (fun(x:Nat) W=>FxO K n room w0 mb ws0 C o0 wb B (fun l=>l.map Int.ofNat=A3 zs (hm:Int) (x:Int)) fs nx W:Nat->Wd->Prop)
 have gp:Hq (∀ W x,x<n->S x W->Cl 19 #[Pt mb] W fun y w'=>∃ a c L,y=.returned (.slice a L c)/\S x w'/\Cl 76 #[.slice a L c,Iv v] w' fun e w3=>e=.returned (Iv (x:Nat))/\S x w3):=Hd fun W x hx h=>by
  rw[hS] at h ⊢;refine(h.order hB).mono ?_;rintro y w' ⟨u,l,rfl,hl,hP,_,_,hf,_⟩;have gk:SliceIs w' u (A3 zs (hm:Int) (x:Int)):=by rw[<- hP];exact hf.know (Q:=fun W=>SliceIs W u (l.map Int.ofNat)) fun W o hh=>hh.2.slice
  have gd:FxO K n room w0 mb ws0 C o0 wb B (fun l=>l.map Int.ofNat=A3 zs (hm:Int) (x:Int)) fs nx w':=(hf.withB fun _ _ _ _ hh=>hh.1).imp fun l' _ e=>by rw[e];exact hP
  obtain⟨a,c,rfl,hz,_⟩:=gk;refine⟨a,c,_,rfl,gd,(Jj a c _ v w' hz).mono ?_⟩;rintro e w3 ⟨rfl,k,rfl⟩;exact⟨by rw[hv,TB hzr (by omega) (by omega)],gd.below hB (Bj (VZ _ _) k)⟩
 have go:Hq (∀ W x,x+1<n->S x W->Cl 113 #[Pt mb,Iv (x:Nat)] W fun e w'=>e=.returned (Iv 0)/\S (x+1) w'):=Hd fun W x hx h=>by
  rw[hS] at h ⊢;exact h.swap hB hx hn hr fun l hl e=>by rw[Jw (by rw[hl];exact hx),e,MW (by omega) (by omega)]
 have gq:Hq (∀ W x,x+1<n->S (x+1) W->Cl 113 #[Pt mb,Iv (x:Nat)] W fun e w'=>e=.returned (Iv 0)/\S x w'):=Hd fun W x hx h=>by
  rw[hS] at h ⊢;exact h.swap hB hx hn hr fun l hl e=>by rw[Jw (by rw[hl];exact hx),e,T9 (by omega) (by omega)]
 have ge:Hq (∀ W x,x<n->S x W->Calls prog gf (#[Iv (x:Nat)]++lop) W fun e w'=>∃ b,e=.returned (.bool b)/\(al=true->b=true)/\S x w'):=Hd fun W x hx h=>by
  rw[hS] at h ⊢;exact hon W x hx h
 have H0:Hq (S s W):=Hd (by rw[hS];exact h);obtain⟨P,hP⟩:=Ex (fun e w'=>e=.returned (.tuple #[])/\∃ x,x<n/\(al=true->x=t)/\S x w':Ending->Wd->Prop)
 have g7:Hq (∀ w' x,x<n->(al=true->x=t)->S x w'->P (.returned (.tuple #[])) w'):=Hd fun w' x h1 h2 h3=>by rw[hP];exact⟨rfl,x,h1,h2,h3⟩
 have goal:Cl 79 #[Pt mb,Iv v,Iv (t:Nat),.func (.func gf) #[] lop] W P:=by
  clear h hon hS hB hr hn hzr hP hv hzl hh
  go_enter func79,ntmps79
  go_wp2_with fail
  go_loopw [8,9,10] (fun s8 s9 _ wr=>∃ x:Nat,x<n/\Hq (S x wr)/\((x=s/\mvM t s s8 s9=((t:Int)-(s:Int)).natAbs)\/∃ a d,s8=Iv a/\s9=Iv d/\(x:Int)=a+d)) (fun s8 s9 _ _=>mvM t s s8 s9)
  case atStart=>exact⟨s,hs,H0,.inl ⟨rfl,rfl⟩⟩
  case round =>
   obtain⟨x,hx,HS,g9⟩:=hrel;have ga:mvM t s u8 u9=((t:Int)-(x:Int)).natAbs:=by
    rcases g9 with ⟨rfl,e⟩|⟨a,d,rfl,rfl,e⟩
    . exact e
    . unfold mvM;rw[e]
   have gg:=Hd ga;have HO:=Hd (gp.o wr x hx HS.o);clear g9 ga H0 HS;go_wp2_with fail;refine HO.o.mono ?_;rintro y w1 ⟨a,c,L,rfl,-,gc⟩;have gh:=Hd gc;clear gc HO;go_wp2_with fail;refine gh.o.mono ?_;rintro y w2 ⟨rfl,g8⟩;have g2:=Hd g8;clear g8 gh
   by_cases gt:t<x
   ·obtain⟨k,rfl⟩:∃ k,x=k+1:=⟨x-1,by omega⟩;have gj:(t:Int)<((k+1:Nat):Int):=by omega
    have gm:¬ (((k+1:Nat):Int)=(t:Int)):=by omega
    have gv:((k+1:Nat):Int)-1=(k:Int):=by omega
    have gu:(k:Int)+1 + -1=(k:Int):=by omega
    have gi:(((k:Int)+1) == (t:Int))=false:=by rw[Xu];omega
    have gl:¬ (((k+1:Nat):Int)<0):=by omega
    have g5:=Hd (gq.o w2 k hx g2.o);clear g2;go_wp2_with fail;refine g5.o.mono ?_;rintro y w3 ⟨rfl,g4⟩;have g6:=Hd (ge.o w3 k (by omega) g4);clear g4 g5;go_wp2_with fail;refine g6.o.mono ?_;rintro y w4 ⟨b,rfl,hb,g3⟩;have g0:=Hd g3;have g1:=Hd hb;clear g3 hb g6;cases b with
    | true =>
      clear g1;go_wp2_with fail;go_roundw
      case rel=>exact⟨k,by omega,g0,.inr ⟨_,(-1),rfl,rfl,by omega⟩⟩
      case measure =>
       rw[gg.o]
       show ((t:Int)-(((k:Int)+1) + -1)).natAbs<_
       omega
    | false =>
      have HF:=Hd (g7.o w4 k (by omega) (fun e=>by have:=g1.o e;cases this) g0.o);clear g1 g0;go_wp2_with fail
      first|exact HF.o|(go_ret;exact HF.o)|(refine WR (Wy rfl _ _ _) rfl ?_;exact HF.o)
   ·by_cases gn:x=t
    ·subst gn;have HF:=Hd (g7.o w2 x hx (fun _=>rfl) g2.o);have gr:¬ (x:Int)<(x:Int):=by omega
     clear g2;go_wp2_with fail
     first|exact HF.o|(go_ret;exact HF.o)|(refine WR (Wy rfl _ _ _) rfl ?_;exact HF.o)
    ·have gj:¬ (t:Int)<(x:Int):=by omega
     have gm:¬ ((x:Int)=(t:Int)):=by omega
     have gl:¬ ((x:Int)<0):=by omega
     have gi:((x:Int) == (t:Int))=false:=by rw[Xu];omega
     have g5:=Hd (go.o w2 x (by omega) g2.o);clear g2;go_wp2_with fail;refine g5.o.mono ?_;rintro y w3 ⟨rfl,g4⟩;have g6:=Hd (ge.o w3 (x+1) (by omega) g4);clear g4 g5;go_wp2_with fail;refine g6.o.mono ?_;rintro y w4 ⟨b,rfl,hb,g3⟩;have g0:=Hd g3;have g1:=Hd hb;clear g3 hb g6;cases b with
     | true =>
       clear g1;go_wp2_with fail;go_roundw
       case rel=>exact⟨(x+1),by omega,g0,.inr ⟨_,1,rfl,rfl,by omega⟩⟩
       case measure =>
        rw[gg.o]
        show ((t:Int)-((x:Int)+1)).natAbs<_
        omega
     | false =>
       have HF:=Hd (g7.o w4 (x+1) (by omega) (fun e=>by have:=g1.o e;cases this) g0.o);clear g1 g0;go_wp2_with fail
       first|exact HF.o|(go_ret;exact HF.o)|(refine WR (Wy rfl _ _ _) rfl ?_;exact HF.o)
 rw[<- hv];refine goal.mono fun e w' h=>?_
 rw[hP] at h;obtain⟨h1,x,h2,h3,h4⟩:=h;rw[hS] at h4;exact⟨h1,x,h2,h3,h4⟩
end
def BxN (b:Nat)(v:Value)(t:TypeId)(W:Wd)(o:Own):Prop:=W.heap[b]?=some (.cells #[v] t (0,0))/\o b=none
section
variable {b':Nat}{t t':TypeId}{o:Own}
theorem BxN.keep:As (BxN b v t):=fun W o W' o' h hc=>by
 have hl:=(VP.1 h.1).1;exact⟨(hc.block b hl h.2 (fun e=>e)).trans h.1,hc.none' hl h.2⟩
theorem BxN.cell (h:BxN b v t W o):W.cell? (Av b)=some v:=cell1 h.1
theorem BxN.fz (h:BxN b v t W o):W.frozen? (Av b)=false:=by simp[World.frozen?,h.1]
theorem BxN.lt (h:BxN b v t W o):b<W.heap.size:=(VP.1 h.1).1
theorem BxN.other (h:BxN b v t W o)(hne:b'≠b)(x:Value):BxN b v t (W.setCell (Av b') x) o:=⟨(A0 (fun e=>hne e.symm) _).trans h.1,h.2⟩
theorem BxN.set (h:BxN b v t W o)(x:Value):BxN b x t (W.setCell (Av b) x) o:=⟨A7 h.1 x,h.2⟩
theorem BxN.wr {D:Nat->Prop}(h:BxN b v t W o)(hw:Wr D W W')(hD:¬ D b):BxN b v t W' o:=⟨(hw.keep b h.lt hD).trans h.1,h.2⟩
end
structure LkN where
 m:Nat
 l:Nat
 best:Nat
 at_:Nat
 first:Nat
 grow:Nat
def LkN.args (k:LkN):Array Value:=#[Pt k.m,Pt k.l,Pt k.best,Pt k.at_,Pt k.first,Pt k.grow]
def LkB (B:Wd->Own->Prop)(k:LkN)(mb:Nat)(a:Option Addr)(L c:Nat)(first g n:Nat)(sz:Nat->Nat):Wd->Own->Prop:=fun W o =>
 (B W o/\BxN k.m (Pt mb) 32 W o)/\(BxN k.l (.slice a L c) 22 W o/\BxN k.first (Iv (first:Nat)) 3 W o)/\BxN k.grow (Iv (g:Nat)) 3 W o /\
  ∃ bx,bx<n/\sz bx<=first/\BxN k.best (Iv (sz bx:Nat)) 3 W o/\BxN k.at_ (Iv (bx:Nat)) 3 W o
theorem LkB.keep {B:Wd->Own->Prop}{k:LkN}{mb:Nat}{a:Option Addr}{L c first g n:Nat}{sz:Nat->Nat}(hB:As B):As (LkB B k mb a L c first g n sz):=fun W o W' o' h hc=>by
 obtain⟨⟨h1,h2⟩,⟨h3,h4⟩,h5,bx,h6,h7,h8,h9⟩:=h;exact⟨⟨hB _ _ _ _ h1 hc,BxN.keep _ _ _ _ h2 hc⟩,⟨BxN.keep _ _ _ _ h3 hc,BxN.keep _ _ _ _ h4 hc⟩,BxN.keep _ _ _ _ h5 hc,bx,h6,h7,BxN.keep _ _ _ _ h8 hc,BxN.keep _ _ _ _ h9 hc⟩
section
theorem Uw (hB:As B){hm:Nat}{k:LkN}{first:Nat}(hl:∀ W o,B W o->ArgI w0 W o a ks)(hlen:Fs.length=ks.length)(hmm:∀ i (h:i<ks.length),(ks[i],Fs[i]'(by omega))∈fs)(hsz:Fs.length*2^n<=1000000000)(hf:first<=1000000000)(hg:g<=1000)
 (hb1:wb.heap.size<=k.best) (hb2:wb.heap.size<=k.at_) (hc1:w0.heap.size<=k.best) (hc2:w0.heap.size<=k.at_) (hne:k.best≠k.at_) (hn1:k.best≠k.m/\k.best≠k.l/\k.best≠k.first/\k.best≠k.grow) (hn2:k.at_≠k.m/\k.at_≠k.l/\k.at_≠k.first/\k.at_≠k.grow)
 (hBw:∀ W o W',Ac o W->B W o->Wr (fun q=>q=k.best\/q=k.at_) W W'->B W' o)
 {x:Nat} (hx:x<n) (h:FxO K n room w0 mb ws0 C o0 wb (LkB B k mb a ks.length c first g n (fun y:Nat=>szO n Fs (A3 zs (hm:Int) (y:Int)))) (fun l=>l.map Int.ofNat=A3 zs (hm:Int) (x:Int)) fs nx W) :
 Cl 77 (#[Iv (x:Nat)]++k.args) W fun e w'=>∃ b,e=.returned (.bool b)/\(false=true->b=true)/\FxO K n room w0 mb ws0 C o0 wb (LkB B k mb a ks.length c first g n (fun y:Nat=>szO n Fs (A3 zs (hm:Int) (y:Int)))) (fun l=>l.map Int.ofNat=A3 zs (hm:Int) (x:Int)) fs nx w':=by
 obtain⟨sz,g0⟩:=Ex (fun y:Nat=>szO n Fs (A3 zs (hm:Int) (y:Int)):Nat->Nat)
 have g8:∀ y,sz y<=1000000000:=fun y=>by rw[g0];exact VU (En n Fs _) hsz
 have gj:Hq (As (LkB B k mb a ks.length c first g n sz)):=Hd (LkB.keep hB);have HS:=Hd (FxO.size (c:=c) (LkB.keep hB) h (fun W o hh=>hl W o hh.1.1) hlen hmm);rw[<- g0] at h HS ⊢;have gd:szO n Fs (A3 zs (hm:Int) (x:Int))=sz x:=by rw[g0]
 rw[gd] at HS;obtain⟨S,hS⟩:=Ex (fun W=>FxO K n room w0 mb ws0 C o0 wb (LkB B k mb a ks.length c first g n sz) (fun l=>l.map Int.ofNat=A3 zs (hm:Int) (x:Int)) fs nx W:Wd->Prop)
 have g5:Hq (∀ W,S W->W.cell? (Av k.m)=some (Pt mb)/\W.cell? (Av k.l)=some (.slice a ks.length c)/\W.cell? (Av k.first)=some (Iv (first:Nat))/\W.cell? (Av k.grow)=some (Iv (g:Nat))/\∃ bx,bx<n/\sz bx<=first/\W.cell? (Av k.best)=some (Iv (sz bx:Nat))/\W.frozen? (Av k.best)=false/\W.cell? (Av k.at_)=some (Iv (bx:Nat))/\W.frozen? (Av k.at_)=false):=Hd fun W h=>by
  rw[hS] at h;obtain⟨o,m,V,_,_,_,h1,h2,h3,bx,h4,h5,h6,h7⟩:=h;exact⟨h1.2.cell,h2.1.cell,h2.2.cell,h3.cell,bx,h4,h5,h6.cell,h6.fz,h7.cell,h7.fz⟩
 have g9:Hq (∀ W,S W->sz x<=first->S ((W.setCell (Av k.best) (Iv (sz x:Nat))).setCell (Av k.at_) (Iv (x:Nat)))):=Hd fun W h gf=>by
  rw[hS] at h ⊢;have hw:Wr (fun q=>q=k.best\/q=k.at_) W ((W.setCell (Av k.best) (Iv (sz x:Nat))).setCell (Av k.at_) (Iv (x:Nat))):=(((Wr.refl _ W).setCell (p:=Av k.best) (.inl (.inl rfl)) _)).setCell (p:=Av k.at_) (.inl (.inr rfl)) _;refine h.wrC hw (fun q e=>.inr (by rcases e with rfl|rfl<;>assumption)) (fun q e=>by rcases e with rfl|rfl<;>assumption) (fun o hh q e=>?_) fun o g7 hh=>?_
  ·obtain⟨_,_,_,bx,_,_,h6,h7⟩:=hh;rcases e with rfl|rfl
   . exact h6.2
   . exact h7.2
  ·obtain⟨h1,h2,h3,bx,h4,h5,h6,h7⟩:=hh;have nD:∀ q,k.best≠q->k.at_≠q->¬ (q=k.best\/q=k.at_):=fun q e1 e2 e=>e.elim (fun e=>e1 e.symm) (fun e=>e2 e.symm)
   refine⟨⟨hBw _ _ _ g7 h1.1 hw,h1.2.wr hw (nD _ hn1.1 hn2.1)⟩,⟨h2.1.wr hw (nD _ hn1.2.1 hn2.2.1),h2.2.wr hw (nD _ hn1.2.2.1 hn2.2.2.1)⟩,h3.wr hw (nD _ hn1.2.2.2 hn2.2.2.2),x,hx,gf,(h6.set _).other (fun e=>hne e.symm) _,((h7.other hne _).set _)⟩
 have gi:Hq (S W):=Hd (by rw[hS];exact h);have gc:Hq (∀ b w',S w'->∃ b',(Ending.returned (.bool b))=.returned (.bool b')/\(false=true->b'=true)/\FxO K n room w0 mb ws0 C o0 wb (LkB B k mb a ks.length c first g n sz) (fun l=>l.map Int.ofNat=A3 zs (hm:Int) (x:Int)) fs nx w'):=Hd fun b w' h=>by
  rw[hS] at h;exact⟨b,rfl,(fun e=>by cases e),h⟩
 rw[show (FxO K n room w0 mb ws0 C o0 wb (LkB B k mb a ks.length c first g n sz) (fun l=>l.map Int.ofNat=A3 zs (hm:Int) (x:Int)) fs nx)=S from by rw[hS]] at HS;obtain⟨c1,c2,-,-,-⟩:=g5.o W gi.o;have g3:∀ y,IntKind.i64.wrap (((sz y:Nat):Int)*100)=((sz y:Nat):Int)*100:=fun y=>XK _ ⟨by have:=g8 y;omega,by have:=g8 y;omega⟩
 have gk:IntKind.i64.wrap ((first:Int)*(g:Int))=((first*g:Nat):Int):=by
  rw[<- Int.natCast_mul];have:first*g<=1000000000*1000:=XT hf hg
  exact XK _ ⟨by omega,by omega⟩
 have gg:=g3 x;obtain⟨sx,g2⟩:∃ q,q=sz x:=⟨_,rfl⟩;obtain⟨Q,hQ⟩:=Ex (fun e w'=>∃ b,e=.returned (.bool b)/\(false=true->b=true)/\FxO K n room w0 mb ws0 C o0 wb (LkB B k mb a ks.length c first g n sz) (fun l=>l.map Int.ofNat=A3 zs (hm:Int) (x:Int)) fs nx w':Ending->Wd->Prop)
 rw[<- hQ];have g4:Hq (∀ b w',S w'->Q (.returned (.bool b)) w'):=Hd fun b w' h=>by rw[hQ];exact gc.o b w' h
 rw[<- g2] at HS g9 gg;have gm:=Hd g2;unfold LkN.args;clear h hB hl hmm hBw hS hQ g2 g0 gc g3 gj hlen hsz
 go_enter func77,ntmps77
 go_wp2_with fail;refine HS.o.mono ?_;rintro y w1 ⟨rfl,hs1⟩;have H1:=Hd hs1;obtain⟨-,-,d10,d6,bx,gl,gh,d12,f12,d13,f13⟩:=g5.o w1 hs1;obtain⟨sb,g6⟩:∃ q,q=sz bx:=⟨_,rfl⟩;rw[<- g6] at d12 gh;clear c1 c2 hs1 HS g6
 by_cases g7:sx<sb
 ·have ge:(sx:Int)<(sb:Int):=by omega
  obtain⟨w2,g1⟩:∃ W,W=(w1.setCell (Av k.best) (Iv (sx:Nat))).setCell (Av k.at_) (Iv (x:Nat)):=⟨_,rfl⟩;have H2:Hq (S w2):=Hd (by rw[g1];exact g9.o w1 H1.o (by omega));have ga:=Hd g1.symm;have g13:(w1.setCell (Av k.best) (Iv (sx:Nat))).cell? (Av k.at_)=some (Iv (bx:Nat)):=B9 d13 (.inl hne);clear g1;go_upto_region 6 with fail;rw[ga.o];obtain⟨-,-,e10,e6,-⟩:=g5.o w2 H2.o;clear d10 d6 d12 f12 d13 f13 g13 ga H1;go_wp2_with fail;exact g4.o (decide ((sx:Int)*100<=(first:Int)*(g:Int))) _ H2.o
 ·have ge:¬ (sx:Int)<(sb:Int):=by omega
  clear f12 d13 f13;go_wp2_with fail;exact g4.o (decide ((sx:Int)*100<=(first:Int)*(g:Int))) _ H1.o
end
section
variable {R:List PanicEntry->Wd->Prop}{a:Act}{o1 o2 o3:Oper}
def NxO (P:Program)(l:List Oper)(Q:Exit->Act->Wd->Prop)(R:List PanicEntry->Wd->Prop)(S:Wd->Prop)(f:Nat)(L:Array Bool)(o:Oper)(a:Act)(w:Wd):Prop :=
 o.guard=none/\o.wp P a w (fun a' w'=>S w'/\Nx [] P l Q R S f L a' w') (PP R Q)
theorem JD (is:List Nat)(hr:(decide (Region.ready .any l.toArray L=is) && !is.isEmpty)=true)(h:∀ i∈is,∀ o,l[i]?=some o->NxO P l Q R S f (L.setIfInBounds i true) o a w):Nx [] P l Q R S (f+1) L a w :=
 De is hr fun i hi _ o ho=>⟨by simp[Region.wanted,(h i hi o ho).1],(h i hi o ho).2⟩
theorem BT (i:Nat)(hr:(decide (Region.ready .any l.toArray L=[i]) && !([i]:List Nat).isEmpty)=true)(e1:l[i]?=some o1)(h1:NxO P l Q R S f (L.setIfInBounds i true) o1 a w):Nx [] P l Q R S (f+1) L a w :=
 JD [i] hr fun q hq o ho=>by
  rw[Wf] at hq;subst hq;rw[e1] at ho;cases ho;exact h1
theorem Eo (i j:Nat)(hr:(decide (Region.ready .any l.toArray L=[i,j]) && !([i,j]:List Nat).isEmpty)=true)(e1:l[i]?=some o1)(e2:l[j]?=some o2)(h1:NxO P l Q R S f (L.setIfInBounds i true) o1 a w)(h2:NxO P l Q R S f (L.setIfInBounds j true) o2 a w):Nx [] P l Q R S (f+1) L a w :=
 JD [i,j] hr fun q hq o ho=>by
  simp only[WT,Yc,or_false] at hq;rcases hq with rfl|rfl
  . rw[e1] at ho;cases ho;exact h1
  . rw[e2] at ho;cases ho;exact h2
theorem N4 (i j k:Nat)(hr:(decide (Region.ready .any l.toArray L=[i,j,k]) && !([i,j,k]:List Nat).isEmpty)=true)(e1:l[i]?=some o1)(e2:l[j]?=some o2)(e3:l[k]?=some o3)(h1:NxO P l Q R S f (L.setIfInBounds i true) o1 a w)(h2:NxO P l Q R S f (L.setIfInBounds j true) o2 a w)(h3:NxO P l Q R S f (L.setIfInBounds k true) o3 a w):Nx [] P l Q R S (f+1) L a w :=
 JD [i,j,k] hr fun q hq o ho=>by
  simp only[WT,Yc,or_false] at hq;rcases hq with rfl|rfl|rfl
  . rw[e1] at ho;cases ho;exact h1
  . rw[e2] at ho;cases ho;exact h2
  . rw[e3] at ho;cases ho;exact h3
theorem BO {g:FuncId}{args:Array Value}{T:Value->Wd->Prop}(hg:o1.guard=none)(he:(execOp a.eval o1).run P w=.ok (.enter g args) w)(hc:Calls P g args w fun e w'=>∃ v,e=.returned v/\T v w')(h:∀ v w',T v w'->S w'/\Nx [] P l Q R S f L (a.put o1.dst v) w'):NxO P l Q R S f L o1 a w :=
 ⟨hg,Gw (R:=T) (R2:=fun _ _=>False) he (hc.mono fun e w' h=>.inl h) h fun _ _ h=>h.elim⟩
theorem BP (hg:o1.guard=none)(he:(execOp a.eval o1).run P w=.ok (.value v) w')(h:S w'/\Nx [] P l Q R S f L (a.put o1.dst v) w'):NxO P l Q R S f L o1 a w :=
 ⟨hg,Db he h⟩
end
theorem Bf:(prog.info? 3).map (fun i=>i.size)=some 1:=by kernel_rfl
def BfB (o:Own)(W:Wd):Wd->Own->Prop:=fun W' o'=>ChgX NoB o o' W W'
theorem BfB.keep {o:Own}:As (BfB o W):=fun _ _ _ _ h hc=>h.trans hc NoB.sub
theorem BfB.wr {o:Own}{W2:Wd}{D:Nat->Prop}(h:BfB o W W1 o')(hw:Wr D W1 W2)(hD:∀ k,D k->W.heap.size<=k):BfB o W W2 o' :=
 h.trans (ChgX.of_wr (C:=D) hw o' (fun _ _ q=>q)) fun k hk q=>by have:=hD k q;omega
section
variable {P:List Nat->Prop}
theorem FxO.box (hB:As B)(h:FxO K n room w0 mb ws0 C o0 wb B P fs nx W)(v:Value)(t:TypeId):FxO K n room w0 mb ws0 C o0 wb (fun W' o=>B W' o/\BxN W.heap.size v t W' o) P fs nx (W.alloc (.cells #[v] t)):=by
 obtain⟨o,m,V,h1,h2,h3,h4⟩:=h;have hb:=Af W (.cells #[v] t);have hc:=ChgX.of_below hb o NoB;exact⟨o,m,V,h1.trans hc NoB.sub,h2,h3.below hb,hB _ _ _ _ h4 hc,VT _ _,h3.lt.none (VQ _)⟩
theorem Ux (x:Int)(w:Wd):Cl 78 #[Iv x] w (Sm (.bool true) w):=by
 go_enter func78,ntmps78
 go_wp2_with fail;go_ret;exact⟨rfl,rfl⟩
theorem Uy (args:Array Value)(w:Wd):(callFunc 77 args).run prog w=.ok (.enter 77 args) w:=XH func77 (by kernel_rfl) rfl args w
theorem Uz (args:Array Value)(w:Wd):(callFunc 78 args).run prog w=.ok (.enter 78 args) w:=XH func78 (by kernel_rfl) rfl args w
theorem JE (hB:As B)(hzr:Az zs=true)(hzl:zs.length=n){hm:Nat}(hh:hm<n)(hn:nx<=549755813888)(hr:3*(fs.length*2^n)<=room)(hl:∀ W o,B W o->ArgI w0 W o a ks)(hlen:Fs.length=ks.length)(hmm:∀ i (h:i<ks.length),(ks[i],Fs[i]'(by omega))∈fs)(hsz:Fs.length*2^n<=1000000000)(grow:Int){v:Int}(hv:at0 zs hm=v)
 (h:FxO K n room w0 mb ws0 C o0 wb B (fun l=>l.map Int.ofNat=zs) fs nx W) :
 Cl 32 #[Pt mb,Iv v,Iv grow,.slice a ks.length c] W fun e w'=>∃ x,x<n/\e=.returned (.tuple #[Iv (szO n Fs (A3 zs (hm:Int) (x:Int)):Nat),Iv 0])/\szO n Fs (A3 zs (hm:Int) (x:Int))<=szO n Fs zs/\FxO K n room w0 mb ws0 C o0 wb B (fun l=>l.map Int.ofNat=A3 zs (hm:Int) (x:Int)) fs nx w':=by
 have hn64:n<=64:=by obtain⟨o,m,V,_,_,h3,_⟩:=h;have:=h3.ok.store.small;rw[h3.vars] at this;exact this
 have kg:0<=v/\v<(n:Int):=by
  have:=(Ce zs).1 hzr;have:=this.1 hm (by omega);rw[hv] at this;omega
 have gf:A3 zs (hm:Int) (hm:Int)=zs:=Ts (by omega);have hF:AZ zs v=(hm:Int):=by rw[<- hv];exact Em hzr (by omega)
 obtain⟨sz,g9⟩:=Ex (fun y:Nat=>szO n Fs (A3 zs (hm:Int) (y:Int)):Nat->Nat)
 have gJ:∀ y,sz y<=1000000000:=fun y=>by rw[g9];exact VU (En n Fs _) hsz
 have hC:szO n Fs zs=sz hm:=by rw[g9];show _=szO n Fs (A3 zs (hm:Int) (hm:Int));rw[gf]
 obtain⟨first,go⟩:∃ q,q=sz hm:=⟨_,rfl⟩;obtain⟨T,hT⟩:=Ex (fun B' (x:Nat) W'=>FxO K n room w0 mb ws0 C o0 wb B' (fun l=>l.map Int.ofNat=A3 zs (hm:Int) (x:Int)) fs nx W':(Wd->Own->Prop)->Nat->Wd->Prop)
 obtain⟨Q,hQ⟩:=Ex (fun e w'=>∃ x,x<n/\e=.returned (.tuple #[Iv (szO n Fs (A3 zs (hm:Int) (x:Int)):Nat),Iv 0])/\szO n Fs (A3 zs (hm:Int) (x:Int))<=szO n Fs zs/\FxO K n room w0 mb ws0 C o0 wb B (fun l=>l.map Int.ofNat=A3 zs (hm:Int) (x:Int)) fs nx w':Ending->Wd->Prop)
 obtain⟨o,m,V,h1,h2,h3,h4⟩:=h;have gg:wb.heap.size<=W.heap.size/\w0.heap.size<=W.heap.size:=⟨h1.size,h3.chg.size⟩;have h8:Hq (∀ x w',x<n->sz x<=first->T (BfB o W) x w'->Q (.returned (.tuple #[Iv (sz x:Nat),Iv 0])) w'):=Hd fun x w' hx hf ht=>by
  rw[hT] at ht;rw[hQ]
  refine ⟨x, hx, by rw [g9], by rw [hC, <- go]; have : sz x = szO n Fs (A3 zs (hm : Int) (x : Int)) := (by rw [g9]); rw[<- this];exact hf,ht.withB fun o' m' V' _ hc=>hB _ _ _ _ h4 hc⟩
 have h0:T (BfB o W) hm W:=by
  rw[hT];refine⟨o,m,V,h1,h2,?_,ChgX.of_below (VZ _ _) o NoB⟩;rw[gf];exact h3
 have hj:Hq (∀ W' o',BfB o W W' o'->ArgI w0 W' o' a ks):=Hd fun W' o' hc=>hl _ _ (hB _ _ _ _ h4 hc)
 have gT:Hq (∀ (B':Wd->Own->Prop) x W',As B'->(∀ W1 o1,B' W1 o1->BfB o W W1 o1)->T B' x W'->Cl 65 #[Pt mb,.slice a ks.length c] W' fun x' w'=>x'=.returned (.tuple #[Iv (sz x:Nat),Iv 0])/\T B' x w'):=Hd fun B' x W' hk hs ht=>by
  rw[hT] at ht ⊢;have:=FxO.size (c:=c) hk ht (fun W1 o1 h=>hj.o W1 o1 (hs W1 o1 h)) hlen hmm;rw[show szO n Fs (A3 zs (hm:Int) (x:Int))=sz x by rw[g9]] at this;exact this
 have ga:Hq (∀ (B':Wd->Own->Prop) x W',T B' x W'->∃ o',B' W' o'):=Hd fun B' x W' ht=>by
  rw[hT] at ht;obtain⟨o',_,_,_,_,_,h⟩:=ht;exact⟨o',h⟩
 have gS:Hq (∀ (B':Wd->Own->Prop) x W',T B' x W'->Cl 62 #[Pt mb] W' (Sm (Iv n) W')):=Hd fun B' x W' ht=>by
  rw[hT] at ht;exact ht.vars
 have gd:Hq (∀ (B':Wd->Own->Prop) x W' v t,As B'->T B' x W'->T (fun W1 o1=>B' W1 o1/\BxN W'.heap.size v t W1 o1) x (W'.alloc (.cells #[v] t))):=Hd fun B' x W' v t hk ht=>by
  rw[hT] at ht ⊢;exact ht.box hk v t
 have gF:Hq (∀ (B':Wd->Own->Prop) x W' w',As B'->T B' x W'->Bw W' w'->T B' x w'):=Hd fun B' x W' w' hk ht hb=>by
  rw[hT] at ht ⊢;exact ht.below hk hb
 have gt:Hq (∀ (B' B2:Wd->Own->Prop) x W',T B' x W'->(∀ o',B' W' o'->B2 W' o')->T B2 x W'):=Hd fun B' B2 x W' ht hi=>by
  rw[hT] at ht ⊢;exact ht.withB fun o' _ _ _ h=>hi o' h
 have gD:Hq (∀ (B' B2:Wd->Own->Prop) (D:Nat->Prop) x W' w',T B' x W'->Wr D W' w'->(∀ k,D k->W.heap.size<=k)->(∀ o',B' W' o'->∀ k,D k->o' k=none)->(∀ o',B' W' o'->B2 w' o')->T B2 x w'):=Hd fun B' B2 D x W' w' ht hw hD k5 hi=>by
  rw[hT] at ht ⊢;exact ht.wrC hw (fun k hk=>.inr (VU gg.1 (hD k hk))) (fun k hk=>VU gg.2 (hD k hk)) k5 fun o' _ h=>hi o' h
 have gw:Hq (∀ (B':Wd->Own->Prop) W',As B'->T B' hm W'->Cl 19 #[Pt mb] W' fun e w'=>∃ v,e=.returned v/\T B' hm w'/\SliceIs w' v zs):=Hd fun B' W' hk ht=>by
  rw[hT] at ht ⊢;refine(ht.order hk).mono ?_;rintro y w' ⟨u,l,rfl,hl,hP,_,_,hf,_⟩;have k0:SliceIs w' u zs:=by
   rw[gf] at hP;rw[<- hP];exact hf.know (Q:=fun W=>SliceIs W u (l.map Int.ofNat)) fun W o hh=>hh.2.slice
  exact⟨u,rfl,(hf.withB fun _ _ _ _ hh=>hh.1).imp fun l' _ e=>by rw[e];exact hP,k0⟩
 have gV:Hq (∀ (k:LkN) g s t W',g<=1000->W.heap.size<=k.best/\W.heap.size<=k.at_->k.best≠k.at_->(k.best≠k.m/\k.best≠k.l/\k.best≠k.first/\k.best≠k.grow)->(k.at_≠k.m/\k.at_≠k.l/\k.at_≠k.first/\k.at_≠k.grow)->s<n->t<n->T (LkB (BfB o W) k mb a ks.length c first g n sz) s W' ->
  Cl 79 #[Pt mb,Iv v,Iv (t:Nat),.func (.func 77) #[] k.args] W' fun e w'=>e=.returned (.tuple #[])/\∃ x,x<n/\T (LkB (BfB o W) k mb a ks.length c first g n sz) x w'):=Hd fun k g s t W' hg g6 gA k8 k7 hs ht gn=>by
  rw[hT] at gn ⊢;rw[<- hv];refine(N3 (al:=false) (LkB.keep BfB.keep) hzr hzl hh hn hr Uy (fun W1 x hx h=>?_) hs ht gn).mono fun e w' ⟨q1,x,q2,_,q4⟩=>⟨q1,x,q2,q4⟩
  rw[g9] at h ⊢;exact Uw BfB.keep (fun W1 o1 h=>hj.o W1 o1 h) hlen hmm hsz (by rw[go];exact gJ hm) hg (VU gg.1 g6.1) (VU gg.1 g6.2) (VU gg.2 g6.1) (VU gg.2 g6.2) gA k8 k7 (fun W1 o1 W2 _ hb hw=>hb.wr hw fun q e=>by rcases e with rfl|rfl;exact g6.1;exact g6.2) hx h
 have gX:Hq (∀ (B':Wd->Own->Prop) s t W',As B'->s<n->t<n->T B' s W' ->
  Cl 79 #[Pt mb,Iv v,Iv (t:Nat),.func (.func 78) #[] #[]] W' fun e w'=>e=.returned (.tuple #[])/\T B' t w'):=Hd fun B' s t W' hk hs ht gn=>by
  rw[hT] at gn ⊢;rw[<- hv];refine(N3 (al:=true) hk hzr hzl hh hn hr Uz (fun W1 x hx h=>?_) hs ht gn).mono ?_
  . refine(Ux (x:Nat) W1).mono ?_;rintro e w' ⟨rfl,rfl⟩;exact⟨true,rfl,fun _=>rfl,h⟩
  . rintro e w' ⟨q1,x,q2,q3,q4⟩;rw[q3 rfl] at q4;exact⟨q1,q4⟩
 have ki:¬ v<0:=by omega
 have kh:¬ v>=(n:Int):=by omega
 have gB:hm<n:=hh;have kl:first<=1000000000:=by rw[go];exact gJ hm
 have h9:=Hd go;have hL:=Hd hF;rw[<- hQ];clear go hQ hT g9 hl hlen hmm hsz hr hB h4 h3 h2 h1 gf gJ hzl hzr hv hF hC gg hj;obtain⟨D,hD⟩:=Ex W.heap.size;obtain⟨B1,gk⟩:=Ex (fun W' o'=>((BfB o W W' o'/\BxN D (Pt mb) 32 W' o')/\BxN (D+1) (Iv grow) 3 W' o')/\BxN (D+1+1) (.slice a ks.length c) 22 W' o':Wd->Own->Prop)
 have g6:As B1:=by rw[gk];exact((BfB.keep.and BxN.keep).and BxN.keep).and BxN.keep
 obtain⟨w1,gI⟩:=Ex (((W.alloc (.cells #[Pt mb] 32)).alloc (.cells #[Iv grow] 3)).alloc (.cells #[.slice a ks.length c] 22));have t1:T B1 hm w1:=by
  have:=gd.o _ _ _ (.slice a ks.length c) 22 ((BfB.keep.and BxN.keep).and BxN.keep) (gd.o _ _ _ (Iv grow) 3 (BfB.keep.and BxN.keep) (gd.o _ _ _ (Pt mb) 32 BfB.keep h0));simp only[Wi] at this;rw[<- hD] at this;rw[gk,gI];exact this
 have HW1:Hq (_=w1):=Hd gI.symm;have gK:∀ W1 o1,B1 W1 o1->BfB o W W1 o1:=fun W1 o1 h=>by rw[gk] at h;exact h.1.1.1
 have gU:=Hd (gT.o B1 hm w1 g6 gK t1);rw[<- h9.o] at gU;obtain⟨c4,c7⟩:w1.cell? (Av D)=some (Pt mb)/\w1.cell? (Av (D+1+1))=some (.slice a ks.length c):=by
  obtain⟨o',h⟩:=ga.o _ _ _ t1;rw[gk] at h;exact⟨h.1.1.2.cell,h.2.cell⟩
 have ge:=Hd gk;have gZ:=Hd g6;have gu:=Hd hD;clear gI t1 h0 gK g6 gk
 go_enter func32,ntmps32
 go_upto_region 1 with fail;rw[<- hD,HW1.o];clear HW1 hD;go_wp2_with fail;refine gU.o.mono ?_;rintro y w2 ⟨rfl,t2⟩;obtain⟨b10,gi⟩:∃ b,b=w2.heap.size:=⟨_,rfl⟩;obtain⟨w3,gz⟩:∃ W,W=w2.alloc (.cells #[Iv (first:Nat)] 3):=⟨_,rfl⟩;obtain⟨B2,gp⟩:=Ex (fun W' o'=>B1 W' o'/\BxN b10 (Iv (first:Nat)) 3 W' o':Wd->Own->Prop)
 have gA:As B2:=by rw[gp];exact gZ.o.and BxN.keep
 have t3:T B2 hm w3:=by
  have:=gd.o _ _ _ (Iv (first:Nat)) 3 gZ.o t2;rw[<- gi] at this;rw[gp,gz];exact this
 have kf:D+1+1<b10/\b10<w3.heap.size:=by
  obtain⟨o',h⟩:=ga.o _ _ _ t2;rw[ge.o] at h;have:=h.2.lt;refine⟨by rw[gi];exact this,?_⟩;rw[gz,Wi,<- gi];omega
 have hJ:=Hd gz;have he:=Hd gi;have HB2:=Hd gp;have gY:=Hd gA;have gr:=Hd (gS.o _ _ _ t3);obtain⟨d4,d10⟩:w3.cell? (Av D)=some (Pt mb)/\w3.cell? (Av b10)=some (Iv (first:Nat)):=by
  obtain⟨o',h⟩:=ga.o _ _ _ t3;rw[gp,ge.o] at h;exact⟨h.1.1.1.2.cell,h.2.cell⟩
 have H3:=Hd t3;clear gz gi gp gA t2 t3 gU c4 c7;go_upto_region 2 with fail;rw[<- hJ.o,<- he.o];clear hJ he;go_wp2_with fail;refine gr.o.mono ?_;rintro y w' ⟨rfl,rfl⟩;clear gr;obtain⟨Y,hY⟩:=Ex (fun b b' W'=>T (fun W1 o1=>B2 W1 o1/\(BxN b (Iv (first:Nat)) 3 W1 o1/\BxN b' (Iv (hm:Nat)) 3 W1 o1)/\b≠b'/\w3.heap.size<=b/\w3.heap.size<=b') hm W':Nat->Nat->Wd->Prop)
 obtain⟨X,hX⟩:=Ex (fun p q W'=>T (fun W1 o1=>B2 W1 o1/\(∀ b,p=some b->BxN b (Iv 0) 3 W1 o1/\w3.heap.size<=b)/\(∀ b,q=some b->BxN b (Iv 0) 3 W1 o1/\w3.heap.size<=b)/\(∀ b b',p=some b->q=some b'->b≠b')/\w3.heap.size<=W1.heap.size) hm W':Option Nat->Option Nat->Wd->Prop)
 have gq:Hq (∀ p q,As fun W1 o1=>B2 W1 o1/\(∀ b,p=some b->BxN b (Iv 0) 3 W1 o1/\w3.heap.size<=b)/\(∀ b,q=some b->BxN b (Iv 0) 3 W1 o1/\w3.heap.size<=b)/\(∀ b b',p=some b->q=some b'->b≠b')/\w3.heap.size<=W1.heap.size):=Hd fun p q W1 o1 W2 o2 h hc =>
  ⟨gY.o _ _ _ _ h.1 hc,fun b e=>⟨BxN.keep _ _ _ _ (h.2.1 b e).1 hc,(h.2.1 b e).2⟩,fun b e=>⟨BxN.keep _ _ _ _ (h.2.2.1 b e).1 hc,(h.2.2.1 b e).2⟩,h.2.2.2.1,VU h.2.2.2.2 hc.size⟩
 have g1:Hq (∀ p q W',X p q W'->W'.cell? (Av D)=some (Pt mb)/\W'.cell? (Av b10)=some (Iv (first:Nat))):=Hd fun p q W' h=>by
  rw[hX] at h;obtain⟨o',h,_⟩:=ga.o _ _ _ h;rw[HB2.o,ge.o] at h;exact⟨h.1.1.1.2.cell,h.2.cell⟩
 have gl:Hq (∀ p q W',X p q W'->Cl 19 #[Pt mb] W' fun e w'=>∃ v,e=.returned v/\X p q w'/\SliceIs w' v zs):=Hd fun p q W' h=>by
  rw[hX] at h ⊢;exact gw.o _ _ (gq.o p q) h
 have g5:Hq (∀ p q W' u,X p q W'->SliceIs W' u zs->Cl 76 #[u,Iv v] W' fun e w'=>∃ z,e=.returned z/\z=Iv (hm:Nat)/\X p q w'):=Hd fun p q W' u h hs=>by
  obtain⟨a2,c2,rfl,hz,_⟩:=hs;refine(Jj a2 c2 zs v W' hz).mono ?_;rintro e w' ⟨rfl,k,rfl⟩;refine⟨_,rfl,by rw[hL.o],?_⟩;rw[hX] at h ⊢;exact gF.o _ _ _ _ (gq.o p q) h (Bj (VZ _ _) k)
 have g8:Hq (∀ q W',X none q W'->X (some W'.heap.size) q (W'.alloc (.cells #[Iv 0] 3))):=Hd fun q W' h=>by
  rw[hX] at h ⊢;have ho:=ga.o _ _ _ h;have h2:=gd.o _ _ _ (Iv 0) 3 (gq.o none q) h;obtain⟨o',_,_,hq,_,hz⟩:=ho;refine gt.o _ _ _ _ h2 fun o2 hh=>⟨hh.1.1,fun b e=>?_,hh.1.2.2.1,fun b b' e e'=>?_,hh.1.2.2.2.2⟩
  . cases e;exact⟨hh.2,hz⟩
  . cases e;have:=(hq b' e').1.lt;omega
 have g7:Hq (∀ p W',X p none W'->X p (some W'.heap.size) (W'.alloc (.cells #[Iv 0] 3))):=Hd fun p W' h=>by
  rw[hX] at h ⊢;have ho:=ga.o _ _ _ h;have h2:=gd.o _ _ _ (Iv 0) 3 (gq.o p none) h;obtain⟨o',_,hp,_,_,hz⟩:=ho;refine gt.o _ _ _ _ h2 fun o2 hh=>⟨hh.1.1,hh.1.2.1,fun b e=>?_,fun b b' e e'=>?_,hh.1.2.2.2.2⟩
  . cases e;exact⟨hh.2,hz⟩
  . cases e';have:=(hp b e).1.lt;omega
 have g4:Hq (∀ b b' W',X (some b) (some b') W'->W'.cell? (Av b)=some (Iv 0)/\W'.frozen? (Av b)=false/\(W'.setCell (Av b) (Iv (first:Nat))).cell? (Av b')=some (Iv 0)/\(W'.setCell (Av b) (Iv (first:Nat))).frozen? (Av b')=false/\((W'.setCell (Av b) (Iv (first:Nat))).cell? (Av D)=some (Pt mb)/\(W'.setCell (Av b) (Iv (first:Nat))).cell? (Av b10)=some (Iv (first:Nat))) /\
  (((W'.setCell (Av b) (Iv (first:Nat))).setCell (Av b') (Iv (hm:Nat))).cell? (Av D)=some (Pt mb)/\((W'.setCell (Av b) (Iv (first:Nat))).setCell (Av b') (Iv (hm:Nat))).cell? (Av b10)=some (Iv (first:Nat)))/\Y b b' ((W'.setCell (Av b) (Iv (first:Nat))).setCell (Av b') (Iv (hm:Nat)))):=Hd fun b b' W' h=>by
  have hs:=g1.o _ _ _ h;rw[hX] at h;obtain⟨o',kk,hp,hq,k6,hz⟩:=ga.o _ _ _ h;have p1:=hp b rfl;have q1:=hq b' rfl;have gh:=k6 b b' rfl rfl;have q2:=q1.1.other gh (Iv (first:Nat));have gj:b≠D/\b≠b10/\b'≠D/\b'≠b10:=⟨by omega,by omega,by omega,by omega⟩;have e1:=B9 (v:=Iv (first:Nat)) (o:=0) hs.1 (.inl gj.1);have e2:=B9 (v:=Iv (first:Nat)) (o:=0) hs.2 (.inl gj.2.1);refine⟨p1.1.cell,p1.1.fz,q2.cell,q2.fz,⟨e1,e2⟩,⟨B9 e1 (.inl gj.2.2.1),B9 e2 (.inl gj.2.2.2)⟩,?_⟩;rw[hY];have hw:Wr (fun q=>q=b\/q=b') W' ((W'.setCell (Av b) (Iv (first:Nat))).setCell (Av b') (Iv (hm:Nat))):=((Wr.refl _ W').setCell (p:=Av b) (.inl (.inl rfl)) _).setCell (p:=Av b') (.inl (.inr rfl)) _;have gP:∀ k,(k=b\/k=b')->w3.heap.size<=k:=fun k e=>by rcases e with rfl|rfl;exact p1.2;exact q1.2
  refine gD.o _ _ (fun q=>q=b\/q=b') _ _ _ h hw (fun k e=>by have:=gP k e;have:=gu.o;omega) (fun o2 hh k e=>?_) fun o2 hh=>?_
  ·rcases e with rfl|rfl
   . exact(hh.2.1 k rfl).1.2
   . exact(hh.2.2.1 k rfl).1.2
  ·have hB:=hh.1;rw[HB2.o,ge.o] at hB ⊢;have nD:∀ q,q<=b10->¬ (q=b\/q=b'):=fun q hq e=>by have:=gP q e;omega
   refine⟨⟨⟨⟨⟨hB.1.1.1.1.wr hw fun k e=>by have:=gP k e;have:=gu.o;omega,hB.1.1.1.2.wr hw (nD _ (by omega))⟩,hB.1.1.2.wr hw (nD _ (by omega))⟩,hB.1.2.wr hw (nD _ (by omega))⟩,hB.2.wr hw (nD _ (by omega))⟩,⟨((hh.2.1 b rfl).1.set _).other (fun e=>gh e.symm) _,((hh.2.2.1 b' rfl).1.other gh _).set _⟩,gh,p1.2,q1.2⟩
 have hA:X none none w3.drew:=by
  rw[hX];refine gt.o _ _ _ _ (gF.o _ _ _ _ gY.o H3.o (Aq w3 1)) fun o' h=>⟨h,fun b e=>(by cases e),fun b e=>(by cases e),fun b b' e=>(by cases e),VQ _⟩
 have HX:=Hd hA;have gQ:=Hd hY;clear hX hY hA gq;go_upto_region 6 with fail
 go_cut [12,13] (fun s12 s13 wx=>∃ b12 b13:Nat,s12=Pt b12/\s13=Pt b13/\Hq (Y b12 b13 wx))
 case first =>
  clear gQ gd gF gt gD gw gV gX gT gS h8 H3 d4 d10;obtain⟨wr,gH⟩:∃ W,W=w3.drew:=⟨_,rfl⟩;have gv:=Hd gH;rw[<- gH] at HX;have hE:=g1.o _ _ _ HX.o;clear gH;refine EJ [0,1,3] (fun W'=>W'.cell? (Av D)=some (Pt mb)/\W'.cell? (Av b10)=some (Iv (first:Nat))) (fun ch w'=>False) (fun c a w hd h=>h.elim) (by kernel_rfl) (by rw[<- gv.o];exact hE) ?_;rw[<- gv.o];clear hE gv
  iterate 3
   refine DO rfl rfl (by kernel_rfl) ?_;apply Exists.intro;refine⟨fun w' hw=>?_,?_⟩
   . obtain⟨q1,q2⟩:=hw;go_simp;rfl
   simp only[Ab]
  refine N4 2 5 6 (by kernel_rfl) rfl rfl rfl ?_ ?_ ?_
  ·refine BO rfl (by go_simp) (gl.o _ _ _ HX.o) ?_;rintro v x1 ⟨hx,hv⟩;refine⟨g1.o _ _ _ hx,?_⟩;clear HX;have HX:=Hd hx;have HV:=Hd hv;clear hx hv;simp only[Ab];refine N4 4 5 6 (by kernel_rfl) rfl rfl rfl ?_ ?_ ?_
   ·refine BO rfl (by go_simp) (g5.o _ _ _ _ HX.o HV.o) ?_;rintro u x2 ⟨rfl,hx⟩;refine⟨g1.o _ _ _ hx,?_⟩;clear HX HV;have HX:=Hd hx;clear hx;simp only[Ab];refine Eo 5 6 (by kernel_rfl) rfl rfl ?_ ?_
    ·have hx:=g8.o _ _ HX.o;refine BP (v:=Pt x2.heap.size) (w':=x2.alloc (.cells #[Iv 0] 3)) rfl (by go_simp) ⟨g1.o _ _ _ hx,?_⟩;clear HX;simp only[Ab]
     generalize x2.alloc (.cells #[Iv 0] 3)=x3 at hx ⊢
     generalize x2.heap.size=b5 at hx ⊢
     have HX:=Hd hx;clear hx;refine BT 6 (by kernel_rfl) rfl ?_
     ·have hx:=g7.o _ _ HX.o;refine BP (v:=Pt x3.heap.size) (w':=x3.alloc (.cells #[Iv 0] 3)) rfl (by go_simp) ⟨g1.o _ _ _ hx,?_⟩;clear HX;simp only[Ab]
      generalize x3.alloc (.cells #[Iv 0] 3)=x4 at hx ⊢
      generalize x3.heap.size=b6 at hx ⊢
      have HX:=Hd hx;clear hx;obtain⟨e1,f1,e2,f2,i1,i2,hy⟩:=g4.o _ _ _ HX.o;have HY:=Hd hy;have hs1:=AR (P:=prog) Bf e1 f1 (v:=Iv (first:Nat)) rfl rfl;have g0:=AR (P:=prog) Bf e2 f2 (v:=Iv (hm:Nat)) rfl rfl;obtain⟨wa,g3⟩:∃ W,W=World.setCell x4 (Av b5) (Iv (first:Nat)):=⟨_,rfl⟩;rw[<- g3] at hs1 g0 HY i1 i2;obtain⟨wb',g2⟩:∃ W,W=World.setCell wa (Av b6) (Iv (hm:Nat)):=⟨_,rfl⟩;rw[<- g2] at g0 HY i2;clear e1 f1 e2 f2 hy g3 g2 HX;refine Be (pl:=[8]) (w':=wa) (i:=7) rfl (by kernel_rfl) rfl rfl (by go_simp<;>exact hs1) i1 ?_;simp only[Ab];refine Be (pl:=[]) (w':=wb') (i:=8) rfl (by kernel_rfl) rfl rfl (by go_simp<;>exact g0) i2 ?_;simp only[Ab];refine Cc (by kernel_rfl) ?_;go_wp2_with fail;go_meet
      case rel=>exact⟨_,_,rfl,rfl,HY⟩
    ·have hx:=g7.o _ _ HX.o;refine BP (v:=Pt x2.heap.size) (w':=x2.alloc (.cells #[Iv 0] 3)) rfl (by go_simp) ⟨g1.o _ _ _ hx,?_⟩;clear HX;simp only[Ab]
     generalize x2.alloc (.cells #[Iv 0] 3)=x3 at hx ⊢
     generalize x2.heap.size=b6 at hx ⊢
     have HX:=Hd hx;clear hx;refine BT 5 (by kernel_rfl) rfl ?_
     ·have hx:=g8.o _ _ HX.o;refine BP (v:=Pt x3.heap.size) (w':=x3.alloc (.cells #[Iv 0] 3)) rfl (by go_simp) ⟨g1.o _ _ _ hx,?_⟩;clear HX;simp only[Ab]
      generalize x3.alloc (.cells #[Iv 0] 3)=x4 at hx ⊢
      generalize x3.heap.size=b5 at hx ⊢
      have HX:=Hd hx;clear hx;obtain⟨e1,f1,e2,f2,i1,i2,hy⟩:=g4.o _ _ _ HX.o;have HY:=Hd hy;have hs1:=AR (P:=prog) Bf e1 f1 (v:=Iv (first:Nat)) rfl rfl;have g0:=AR (P:=prog) Bf e2 f2 (v:=Iv (hm:Nat)) rfl rfl;obtain⟨wa,g3⟩:∃ W,W=World.setCell x4 (Av b5) (Iv (first:Nat)):=⟨_,rfl⟩;rw[<- g3] at hs1 g0 HY i1 i2;obtain⟨wb',g2⟩:∃ W,W=World.setCell wa (Av b6) (Iv (hm:Nat)):=⟨_,rfl⟩;rw[<- g2] at g0 HY i2;clear e1 f1 e2 f2 hy g3 g2 HX;refine Be (pl:=[8]) (w':=wa) (i:=7) rfl (by kernel_rfl) rfl rfl (by go_simp<;>exact hs1) i1 ?_;simp only[Ab];refine Be (pl:=[]) (w':=wb') (i:=8) rfl (by kernel_rfl) rfl rfl (by go_simp<;>exact g0) i2 ?_;simp only[Ab];refine Cc (by kernel_rfl) ?_;go_wp2_with fail;go_meet
      case rel=>exact⟨_,_,rfl,rfl,HY⟩
   ·have hx:=g8.o _ _ HX.o;have hv:=HV.o.below (Af x1 (.cells #[Iv 0] 3));refine BP (v:=Pt x1.heap.size) (w':=x1.alloc (.cells #[Iv 0] 3)) rfl (by go_simp) ⟨g1.o _ _ _ hx,?_⟩;clear HX HV;simp only[Ab]
    generalize x1.alloc (.cells #[Iv 0] 3)=x2 at hx hv ⊢
    generalize x1.heap.size=b5 at hx ⊢
    have HX:=Hd hx;have HV:=Hd hv;clear hx hv;refine Eo 4 6 (by kernel_rfl) rfl rfl ?_ ?_
    ·refine BO rfl (by go_simp) (g5.o _ _ _ _ HX.o HV.o) ?_;rintro u x3 ⟨rfl,hx⟩;refine⟨g1.o _ _ _ hx,?_⟩;clear HX HV;have HX:=Hd hx;clear hx;simp only[Ab];refine BT 6 (by kernel_rfl) rfl ?_
     ·have hx:=g7.o _ _ HX.o;refine BP (v:=Pt x3.heap.size) (w':=x3.alloc (.cells #[Iv 0] 3)) rfl (by go_simp) ⟨g1.o _ _ _ hx,?_⟩;clear HX;simp only[Ab]
      generalize x3.alloc (.cells #[Iv 0] 3)=x4 at hx ⊢
      generalize x3.heap.size=b6 at hx ⊢
      have HX:=Hd hx;clear hx;obtain⟨e1,f1,e2,f2,i1,i2,hy⟩:=g4.o _ _ _ HX.o;have HY:=Hd hy;have hs1:=AR (P:=prog) Bf e1 f1 (v:=Iv (first:Nat)) rfl rfl;have g0:=AR (P:=prog) Bf e2 f2 (v:=Iv (hm:Nat)) rfl rfl;obtain⟨wa,g3⟩:∃ W,W=World.setCell x4 (Av b5) (Iv (first:Nat)):=⟨_,rfl⟩;rw[<- g3] at hs1 g0 HY i1 i2;obtain⟨wb',g2⟩:∃ W,W=World.setCell wa (Av b6) (Iv (hm:Nat)):=⟨_,rfl⟩;rw[<- g2] at g0 HY i2;clear e1 f1 e2 f2 hy g3 g2 HX;refine Be (pl:=[8]) (w':=wa) (i:=7) rfl (by kernel_rfl) rfl rfl (by go_simp<;>exact hs1) i1 ?_;simp only[Ab];refine Be (pl:=[]) (w':=wb') (i:=8) rfl (by kernel_rfl) rfl rfl (by go_simp<;>exact g0) i2 ?_;simp only[Ab];refine Cc (by kernel_rfl) ?_;go_wp2_with fail;go_meet
      case rel=>exact⟨_,_,rfl,rfl,HY⟩
    ·have hx:=g7.o _ _ HX.o;have hv:=HV.o.below (Af x2 (.cells #[Iv 0] 3));refine BP (v:=Pt x2.heap.size) (w':=x2.alloc (.cells #[Iv 0] 3)) rfl (by go_simp) ⟨g1.o _ _ _ hx,?_⟩;clear HX HV;simp only[Ab]
     generalize x2.alloc (.cells #[Iv 0] 3)=x3 at hx hv ⊢
     generalize x2.heap.size=b6 at hx ⊢
     have HX:=Hd hx;have HV:=Hd hv;clear hx hv;refine BT 4 (by kernel_rfl) rfl ?_
     ·refine BO rfl (by go_simp) (g5.o _ _ _ _ HX.o HV.o) ?_;rintro u x4 ⟨rfl,hx⟩;refine⟨g1.o _ _ _ hx,?_⟩;clear HX HV;have HX:=Hd hx;clear hx;simp only[Ab];obtain⟨e1,f1,e2,f2,i1,i2,hy⟩:=g4.o _ _ _ HX.o;have HY:=Hd hy;have hs1:=AR (P:=prog) Bf e1 f1 (v:=Iv (first:Nat)) rfl rfl;have g0:=AR (P:=prog) Bf e2 f2 (v:=Iv (hm:Nat)) rfl rfl;obtain⟨wa,g3⟩:∃ W,W=World.setCell x4 (Av b5) (Iv (first:Nat)):=⟨_,rfl⟩;rw[<- g3] at hs1 g0 HY i1 i2;obtain⟨wb',g2⟩:∃ W,W=World.setCell wa (Av b6) (Iv (hm:Nat)):=⟨_,rfl⟩;rw[<- g2] at g0 HY i2;clear e1 f1 e2 f2 hy g3 g2 HX;refine Be (pl:=[8]) (w':=wa) (i:=7) rfl (by kernel_rfl) rfl rfl (by go_simp<;>exact hs1) i1 ?_;simp only[Ab];refine Be (pl:=[]) (w':=wb') (i:=8) rfl (by kernel_rfl) rfl rfl (by go_simp<;>exact g0) i2 ?_;simp only[Ab];refine Cc (by kernel_rfl) ?_;go_wp2_with fail;go_meet
      case rel=>exact⟨_,_,rfl,rfl,HY⟩
   ·have hx:=g7.o _ _ HX.o;have hv:=HV.o.below (Af x1 (.cells #[Iv 0] 3));refine BP (v:=Pt x1.heap.size) (w':=x1.alloc (.cells #[Iv 0] 3)) rfl (by go_simp) ⟨g1.o _ _ _ hx,?_⟩;clear HX HV;simp only[Ab]
    generalize x1.alloc (.cells #[Iv 0] 3)=x2 at hx hv ⊢
    generalize x1.heap.size=b6 at hx ⊢
    have HX:=Hd hx;have HV:=Hd hv;clear hx hv;refine Eo 4 5 (by kernel_rfl) rfl rfl ?_ ?_
    ·refine BO rfl (by go_simp) (g5.o _ _ _ _ HX.o HV.o) ?_;rintro u x3 ⟨rfl,hx⟩;refine⟨g1.o _ _ _ hx,?_⟩;clear HX HV;have HX:=Hd hx;clear hx;simp only[Ab];refine BT 5 (by kernel_rfl) rfl ?_
     ·have hx:=g8.o _ _ HX.o;refine BP (v:=Pt x3.heap.size) (w':=x3.alloc (.cells #[Iv 0] 3)) rfl (by go_simp) ⟨g1.o _ _ _ hx,?_⟩;clear HX;simp only[Ab]
      generalize x3.alloc (.cells #[Iv 0] 3)=x4 at hx ⊢
      generalize x3.heap.size=b5 at hx ⊢
      have HX:=Hd hx;clear hx;obtain⟨e1,f1,e2,f2,i1,i2,hy⟩:=g4.o _ _ _ HX.o;have HY:=Hd hy;have hs1:=AR (P:=prog) Bf e1 f1 (v:=Iv (first:Nat)) rfl rfl;have g0:=AR (P:=prog) Bf e2 f2 (v:=Iv (hm:Nat)) rfl rfl;obtain⟨wa,g3⟩:∃ W,W=World.setCell x4 (Av b5) (Iv (first:Nat)):=⟨_,rfl⟩;rw[<- g3] at hs1 g0 HY i1 i2;obtain⟨wb',g2⟩:∃ W,W=World.setCell wa (Av b6) (Iv (hm:Nat)):=⟨_,rfl⟩;rw[<- g2] at g0 HY i2;clear e1 f1 e2 f2 hy g3 g2 HX;refine Be (pl:=[8]) (w':=wa) (i:=7) rfl (by kernel_rfl) rfl rfl (by go_simp<;>exact hs1) i1 ?_;simp only[Ab];refine Be (pl:=[]) (w':=wb') (i:=8) rfl (by kernel_rfl) rfl rfl (by go_simp<;>exact g0) i2 ?_;simp only[Ab];refine Cc (by kernel_rfl) ?_;go_wp2_with fail;go_meet
      case rel=>exact⟨_,_,rfl,rfl,HY⟩
    ·have hx:=g8.o _ _ HX.o;have hv:=HV.o.below (Af x2 (.cells #[Iv 0] 3));refine BP (v:=Pt x2.heap.size) (w':=x2.alloc (.cells #[Iv 0] 3)) rfl (by go_simp) ⟨g1.o _ _ _ hx,?_⟩;clear HX HV;simp only[Ab]
     generalize x2.alloc (.cells #[Iv 0] 3)=x3 at hx hv ⊢
     generalize x2.heap.size=b5 at hx ⊢
     have HX:=Hd hx;have HV:=Hd hv;clear hx hv;refine BT 4 (by kernel_rfl) rfl ?_
     ·refine BO rfl (by go_simp) (g5.o _ _ _ _ HX.o HV.o) ?_;rintro u x4 ⟨rfl,hx⟩;refine⟨g1.o _ _ _ hx,?_⟩;clear HX HV;have HX:=Hd hx;clear hx;simp only[Ab];obtain⟨e1,f1,e2,f2,i1,i2,hy⟩:=g4.o _ _ _ HX.o;have HY:=Hd hy;have hs1:=AR (P:=prog) Bf e1 f1 (v:=Iv (first:Nat)) rfl rfl;have g0:=AR (P:=prog) Bf e2 f2 (v:=Iv (hm:Nat)) rfl rfl;obtain⟨wa,g3⟩:∃ W,W=World.setCell x4 (Av b5) (Iv (first:Nat)):=⟨_,rfl⟩;rw[<- g3] at hs1 g0 HY i1 i2;obtain⟨wb',g2⟩:∃ W,W=World.setCell wa (Av b6) (Iv (hm:Nat)):=⟨_,rfl⟩;rw[<- g2] at g0 HY i2;clear e1 f1 e2 f2 hy g3 g2 HX;refine Be (pl:=[8]) (w':=wa) (i:=7) rfl (by kernel_rfl) rfl rfl (by go_simp<;>exact hs1) i1 ?_;simp only[Ab];refine Be (pl:=[]) (w':=wb') (i:=8) rfl (by kernel_rfl) rfl rfl (by go_simp<;>exact g0) i2 ?_;simp only[Ab];refine Cc (by kernel_rfl) ?_;go_wp2_with fail;go_meet
      case rel=>exact⟨_,_,rfl,rfl,HY⟩
  ·have hx:=g8.o _ _ HX.o;refine BP (v:=Pt wr.heap.size) (w':=wr.alloc (.cells #[Iv 0] 3)) rfl (by go_simp) ⟨g1.o _ _ _ hx,?_⟩;clear HX;simp only[Ab]
   generalize wr.alloc (.cells #[Iv 0] 3)=x1 at hx ⊢
   generalize wr.heap.size=b5 at hx ⊢
   have HX:=Hd hx;clear hx;refine Eo 2 6 (by kernel_rfl) rfl rfl ?_ ?_
   ·refine BO rfl (by go_simp) (gl.o _ _ _ HX.o) ?_;rintro v x2 ⟨hx,hv⟩;refine⟨g1.o _ _ _ hx,?_⟩;clear HX;have HX:=Hd hx;have HV:=Hd hv;clear hx hv;simp only[Ab];refine Eo 4 6 (by kernel_rfl) rfl rfl ?_ ?_
    ·refine BO rfl (by go_simp) (g5.o _ _ _ _ HX.o HV.o) ?_;rintro u x3 ⟨rfl,hx⟩;refine⟨g1.o _ _ _ hx,?_⟩;clear HX HV;have HX:=Hd hx;clear hx;simp only[Ab];refine BT 6 (by kernel_rfl) rfl ?_
     ·have hx:=g7.o _ _ HX.o;refine BP (v:=Pt x3.heap.size) (w':=x3.alloc (.cells #[Iv 0] 3)) rfl (by go_simp) ⟨g1.o _ _ _ hx,?_⟩;clear HX;simp only[Ab]
      generalize x3.alloc (.cells #[Iv 0] 3)=x4 at hx ⊢
      generalize x3.heap.size=b6 at hx ⊢
      have HX:=Hd hx;clear hx;obtain⟨e1,f1,e2,f2,i1,i2,hy⟩:=g4.o _ _ _ HX.o;have HY:=Hd hy;have hs1:=AR (P:=prog) Bf e1 f1 (v:=Iv (first:Nat)) rfl rfl;have g0:=AR (P:=prog) Bf e2 f2 (v:=Iv (hm:Nat)) rfl rfl;obtain⟨wa,g3⟩:∃ W,W=World.setCell x4 (Av b5) (Iv (first:Nat)):=⟨_,rfl⟩;rw[<- g3] at hs1 g0 HY i1 i2;obtain⟨wb',g2⟩:∃ W,W=World.setCell wa (Av b6) (Iv (hm:Nat)):=⟨_,rfl⟩;rw[<- g2] at g0 HY i2;clear e1 f1 e2 f2 hy g3 g2 HX;refine Be (pl:=[8]) (w':=wa) (i:=7) rfl (by kernel_rfl) rfl rfl (by go_simp<;>exact hs1) i1 ?_;simp only[Ab];refine Be (pl:=[]) (w':=wb') (i:=8) rfl (by kernel_rfl) rfl rfl (by go_simp<;>exact g0) i2 ?_;simp only[Ab];refine Cc (by kernel_rfl) ?_;go_wp2_with fail;go_meet
      case rel=>exact⟨_,_,rfl,rfl,HY⟩
    ·have hx:=g7.o _ _ HX.o;have hv:=HV.o.below (Af x2 (.cells #[Iv 0] 3));refine BP (v:=Pt x2.heap.size) (w':=x2.alloc (.cells #[Iv 0] 3)) rfl (by go_simp) ⟨g1.o _ _ _ hx,?_⟩;clear HX HV;simp only[Ab]
     generalize x2.alloc (.cells #[Iv 0] 3)=x3 at hx hv ⊢
     generalize x2.heap.size=b6 at hx ⊢
     have HX:=Hd hx;have HV:=Hd hv;clear hx hv;refine BT 4 (by kernel_rfl) rfl ?_
     ·refine BO rfl (by go_simp) (g5.o _ _ _ _ HX.o HV.o) ?_;rintro u x4 ⟨rfl,hx⟩;refine⟨g1.o _ _ _ hx,?_⟩;clear HX HV;have HX:=Hd hx;clear hx;simp only[Ab];obtain⟨e1,f1,e2,f2,i1,i2,hy⟩:=g4.o _ _ _ HX.o;have HY:=Hd hy;have hs1:=AR (P:=prog) Bf e1 f1 (v:=Iv (first:Nat)) rfl rfl;have g0:=AR (P:=prog) Bf e2 f2 (v:=Iv (hm:Nat)) rfl rfl;obtain⟨wa,g3⟩:∃ W,W=World.setCell x4 (Av b5) (Iv (first:Nat)):=⟨_,rfl⟩;rw[<- g3] at hs1 g0 HY i1 i2;obtain⟨wb',g2⟩:∃ W,W=World.setCell wa (Av b6) (Iv (hm:Nat)):=⟨_,rfl⟩;rw[<- g2] at g0 HY i2;clear e1 f1 e2 f2 hy g3 g2 HX;refine Be (pl:=[8]) (w':=wa) (i:=7) rfl (by kernel_rfl) rfl rfl (by go_simp<;>exact hs1) i1 ?_;simp only[Ab];refine Be (pl:=[]) (w':=wb') (i:=8) rfl (by kernel_rfl) rfl rfl (by go_simp<;>exact g0) i2 ?_;simp only[Ab];refine Cc (by kernel_rfl) ?_;go_wp2_with fail;go_meet
      case rel=>exact⟨_,_,rfl,rfl,HY⟩
   ·have hx:=g7.o _ _ HX.o;refine BP (v:=Pt x1.heap.size) (w':=x1.alloc (.cells #[Iv 0] 3)) rfl (by go_simp) ⟨g1.o _ _ _ hx,?_⟩;clear HX;simp only[Ab]
    generalize x1.alloc (.cells #[Iv 0] 3)=x2 at hx ⊢
    generalize x1.heap.size=b6 at hx ⊢
    have HX:=Hd hx;clear hx;refine BT 2 (by kernel_rfl) rfl ?_
    ·refine BO rfl (by go_simp) (gl.o _ _ _ HX.o) ?_;rintro v x3 ⟨hx,hv⟩;refine⟨g1.o _ _ _ hx,?_⟩;clear HX;have HX:=Hd hx;have HV:=Hd hv;clear hx hv;simp only[Ab];refine BT 4 (by kernel_rfl) rfl ?_
     ·refine BO rfl (by go_simp) (g5.o _ _ _ _ HX.o HV.o) ?_;rintro u x4 ⟨rfl,hx⟩;refine⟨g1.o _ _ _ hx,?_⟩;clear HX HV;have HX:=Hd hx;clear hx;simp only[Ab];obtain⟨e1,f1,e2,f2,i1,i2,hy⟩:=g4.o _ _ _ HX.o;have HY:=Hd hy;have hs1:=AR (P:=prog) Bf e1 f1 (v:=Iv (first:Nat)) rfl rfl;have g0:=AR (P:=prog) Bf e2 f2 (v:=Iv (hm:Nat)) rfl rfl;obtain⟨wa,g3⟩:∃ W,W=World.setCell x4 (Av b5) (Iv (first:Nat)):=⟨_,rfl⟩;rw[<- g3] at hs1 g0 HY i1 i2;obtain⟨wb',g2⟩:∃ W,W=World.setCell wa (Av b6) (Iv (hm:Nat)):=⟨_,rfl⟩;rw[<- g2] at g0 HY i2;clear e1 f1 e2 f2 hy g3 g2 HX;refine Be (pl:=[8]) (w':=wa) (i:=7) rfl (by kernel_rfl) rfl rfl (by go_simp<;>exact hs1) i1 ?_;simp only[Ab];refine Be (pl:=[]) (w':=wb') (i:=8) rfl (by kernel_rfl) rfl rfl (by go_simp<;>exact g0) i2 ?_;simp only[Ab];refine Cc (by kernel_rfl) ?_;go_wp2_with fail;go_meet
      case rel=>exact⟨_,_,rfl,rfl,HY⟩
  ·have hx:=g7.o _ _ HX.o;refine BP (v:=Pt wr.heap.size) (w':=wr.alloc (.cells #[Iv 0] 3)) rfl (by go_simp) ⟨g1.o _ _ _ hx,?_⟩;clear HX;simp only[Ab]
   generalize wr.alloc (.cells #[Iv 0] 3)=x1 at hx ⊢
   generalize wr.heap.size=b6 at hx ⊢
   have HX:=Hd hx;clear hx;refine Eo 2 5 (by kernel_rfl) rfl rfl ?_ ?_
   ·refine BO rfl (by go_simp) (gl.o _ _ _ HX.o) ?_;rintro v x2 ⟨hx,hv⟩;refine⟨g1.o _ _ _ hx,?_⟩;clear HX;have HX:=Hd hx;have HV:=Hd hv;clear hx hv;simp only[Ab];refine Eo 4 5 (by kernel_rfl) rfl rfl ?_ ?_
    ·refine BO rfl (by go_simp) (g5.o _ _ _ _ HX.o HV.o) ?_;rintro u x3 ⟨rfl,hx⟩;refine⟨g1.o _ _ _ hx,?_⟩;clear HX HV;have HX:=Hd hx;clear hx;simp only[Ab];refine BT 5 (by kernel_rfl) rfl ?_
     ·have hx:=g8.o _ _ HX.o;refine BP (v:=Pt x3.heap.size) (w':=x3.alloc (.cells #[Iv 0] 3)) rfl (by go_simp) ⟨g1.o _ _ _ hx,?_⟩;clear HX;simp only[Ab]
      generalize x3.alloc (.cells #[Iv 0] 3)=x4 at hx ⊢
      generalize x3.heap.size=b5 at hx ⊢
      have HX:=Hd hx;clear hx;obtain⟨e1,f1,e2,f2,i1,i2,hy⟩:=g4.o _ _ _ HX.o;have HY:=Hd hy;have hs1:=AR (P:=prog) Bf e1 f1 (v:=Iv (first:Nat)) rfl rfl;have g0:=AR (P:=prog) Bf e2 f2 (v:=Iv (hm:Nat)) rfl rfl;obtain⟨wa,g3⟩:∃ W,W=World.setCell x4 (Av b5) (Iv (first:Nat)):=⟨_,rfl⟩;rw[<- g3] at hs1 g0 HY i1 i2;obtain⟨wb',g2⟩:∃ W,W=World.setCell wa (Av b6) (Iv (hm:Nat)):=⟨_,rfl⟩;rw[<- g2] at g0 HY i2;clear e1 f1 e2 f2 hy g3 g2 HX;refine Be (pl:=[8]) (w':=wa) (i:=7) rfl (by kernel_rfl) rfl rfl (by go_simp<;>exact hs1) i1 ?_;simp only[Ab];refine Be (pl:=[]) (w':=wb') (i:=8) rfl (by kernel_rfl) rfl rfl (by go_simp<;>exact g0) i2 ?_;simp only[Ab];refine Cc (by kernel_rfl) ?_;go_wp2_with fail;go_meet
      case rel=>exact⟨_,_,rfl,rfl,HY⟩
    ·have hx:=g8.o _ _ HX.o;have hv:=HV.o.below (Af x2 (.cells #[Iv 0] 3));refine BP (v:=Pt x2.heap.size) (w':=x2.alloc (.cells #[Iv 0] 3)) rfl (by go_simp) ⟨g1.o _ _ _ hx,?_⟩;clear HX HV;simp only[Ab]
     generalize x2.alloc (.cells #[Iv 0] 3)=x3 at hx hv ⊢
     generalize x2.heap.size=b5 at hx ⊢
     have HX:=Hd hx;have HV:=Hd hv;clear hx hv;refine BT 4 (by kernel_rfl) rfl ?_
     ·refine BO rfl (by go_simp) (g5.o _ _ _ _ HX.o HV.o) ?_;rintro u x4 ⟨rfl,hx⟩;refine⟨g1.o _ _ _ hx,?_⟩;clear HX HV;have HX:=Hd hx;clear hx;simp only[Ab];obtain⟨e1,f1,e2,f2,i1,i2,hy⟩:=g4.o _ _ _ HX.o;have HY:=Hd hy;have hs1:=AR (P:=prog) Bf e1 f1 (v:=Iv (first:Nat)) rfl rfl;have g0:=AR (P:=prog) Bf e2 f2 (v:=Iv (hm:Nat)) rfl rfl;obtain⟨wa,g3⟩:∃ W,W=World.setCell x4 (Av b5) (Iv (first:Nat)):=⟨_,rfl⟩;rw[<- g3] at hs1 g0 HY i1 i2;obtain⟨wb',g2⟩:∃ W,W=World.setCell wa (Av b6) (Iv (hm:Nat)):=⟨_,rfl⟩;rw[<- g2] at g0 HY i2;clear e1 f1 e2 f2 hy g3 g2 HX;refine Be (pl:=[8]) (w':=wa) (i:=7) rfl (by kernel_rfl) rfl rfl (by go_simp<;>exact hs1) i1 ?_;simp only[Ab];refine Be (pl:=[]) (w':=wb') (i:=8) rfl (by kernel_rfl) rfl rfl (by go_simp<;>exact g0) i2 ?_;simp only[Ab];refine Cc (by kernel_rfl) ?_;go_wp2_with fail;go_meet
      case rel=>exact⟨_,_,rfl,rfl,HY⟩
   ·have hx:=g8.o _ _ HX.o;refine BP (v:=Pt x1.heap.size) (w':=x1.alloc (.cells #[Iv 0] 3)) rfl (by go_simp) ⟨g1.o _ _ _ hx,?_⟩;clear HX;simp only[Ab]
    generalize x1.alloc (.cells #[Iv 0] 3)=x2 at hx ⊢
    generalize x1.heap.size=b5 at hx ⊢
    have HX:=Hd hx;clear hx;refine BT 2 (by kernel_rfl) rfl ?_
    ·refine BO rfl (by go_simp) (gl.o _ _ _ HX.o) ?_;rintro v x3 ⟨hx,hv⟩;refine⟨g1.o _ _ _ hx,?_⟩;clear HX;have HX:=Hd hx;have HV:=Hd hv;clear hx hv;simp only[Ab];refine BT 4 (by kernel_rfl) rfl ?_
     ·refine BO rfl (by go_simp) (g5.o _ _ _ _ HX.o HV.o) ?_;rintro u x4 ⟨rfl,hx⟩;refine⟨g1.o _ _ _ hx,?_⟩;clear HX HV;have HX:=Hd hx;clear hx;simp only[Ab];obtain⟨e1,f1,e2,f2,i1,i2,hy⟩:=g4.o _ _ _ HX.o;have HY:=Hd hy;have hs1:=AR (P:=prog) Bf e1 f1 (v:=Iv (first:Nat)) rfl rfl;have g0:=AR (P:=prog) Bf e2 f2 (v:=Iv (hm:Nat)) rfl rfl;obtain⟨wa,g3⟩:∃ W,W=World.setCell x4 (Av b5) (Iv (first:Nat)):=⟨_,rfl⟩;rw[<- g3] at hs1 g0 HY i1 i2;obtain⟨wb',g2⟩:∃ W,W=World.setCell wa (Av b6) (Iv (hm:Nat)):=⟨_,rfl⟩;rw[<- g2] at g0 HY i2;clear e1 f1 e2 f2 hy g3 g2 HX;refine Be (pl:=[8]) (w':=wa) (i:=7) rfl (by kernel_rfl) rfl rfl (by go_simp<;>exact hs1) i1 ?_;simp only[Ab];refine Be (pl:=[]) (w':=wb') (i:=8) rfl (by kernel_rfl) rfl rfl (by go_simp<;>exact g0) i2 ?_;simp only[Ab];refine Cc (by kernel_rfl) ?_;go_wp2_with fail;go_meet
      case rel=>exact⟨_,_,rfl,rfl,HY⟩
 case rest =>
  obtain⟨b12,b13,rfl,rfl,HY⟩:=hcut;have ty:=HY.o;rw[gQ.o] at ty;obtain⟨o',gC,⟨hU,gG⟩,gh,kc,kb⟩:=ga.o _ _ _ ty;rw[HB2.o,ge.o] at gC;obtain⟨g,hg⟩:∃ g:Nat,min (max grow 100) 1000=((g:Nat):Int):=⟨(min (max grow 100) 1000).toNat,by omega⟩;have k9:g<=1000:=by omega
  have c6:=gC.1.1.2.cell;have f6:=gC.1.1.2.fz;have c13:=gG.cell;obtain⟨w5,gy⟩:∃ W,W=wc.setCell (Av (D+1)) (Iv (g:Nat)):=⟨_,rfl⟩;obtain⟨k,hk⟩:=Ex (⟨D,D+1+1,b12,b13,b10,D+1⟩:LkN);obtain⟨LK,gc⟩:=Ex (LkB (BfB o W) k mb a ks.length c first g n sz:Wd->Own->Prop)
  have t5:T LK hm w5:=by
   have hw:Wr (· = D+1) wc w5:=by rw[gy];exact(Wr.refl (· = D+1) wc).setCell (p:=(Av (D+1))) (.inl rfl) _
   refine gD.o _ _ (· = D+1) _ _ _ ty hw (fun q e=>by have:=gu.o;omega) (fun o2 hh q e=>?_) fun o2 hh=>?_
   . have h1:=hh.1;rw[HB2.o,ge.o] at h1;subst e;exact h1.1.1.2.2
   ·have h1:=hh.1;rw[HB2.o,ge.o] at h1;rw[gc,hk];have k3:(first:Nat)=sz hm:=h9.o;refine⟨⟨h1.1.1.1.1.wr hw fun q e=>by have:=gu.o;omega,h1.1.1.1.2.wr hw (by omega)⟩,⟨h1.1.2.wr hw (by omega),h1.2.wr hw (by omega)⟩,?_,hm,gB,by omega,?_,hh.2.1.2.wr hw (by omega)⟩
    . rw[gy];exact h1.1.1.2.set _
    . rw[<- k3];exact hh.2.1.1.wr hw (by omega)
  have gE:Hq (As LK):=Hd (by rw[gc];exact LkB.keep BfB.keep);have gm:Hq (∀ x W',T LK x W'->W'.cell? (Av D)=some (Pt mb)/\W'.cell? (Av (D+1+1))=some (.slice a ks.length c)/\∃ bx,bx<n/\sz bx<=first/\W'.cell? (Av b13)=some (Iv (bx:Nat))):=Hd fun x W' h=>by
   obtain⟨o2,h⟩:=ga.o _ _ _ h;rw[gc,hk] at h;obtain⟨h1,h2,h3,bx,h4,h5,h6,h7⟩:=h;exact⟨h1.2.cell,h2.1.cell,bx,h4,h5,h7.cell⟩
  have ke:Hq (∀ x W',T LK x W'->T (BfB o W) x W'):=Hd fun x W' h=>gt.o _ _ _ _ h fun o2 hh=>by rw[gc] at hh;exact hh.1.1
  have kd:Hq (∀ W1 o1,LK W1 o1->BfB o W W1 o1):=Hd fun W1 o1 hh=>by rw[gc] at hh;exact hh.1.1
  have hN:Hq (∀ s t W',s<n->t<n->T LK s W'->Cl 79 #[Pt mb,Iv v,Iv (t:Nat),.func (.func 77) #[] #[Pt D,Pt (D+1+1),Pt b12,Pt b13,Pt b10,Pt (D+1)]] W' fun e w'=>e=.returned (.tuple #[])/\∃ x,x<n/\T LK x w'):=Hd fun s t W' hs ht h=>by
   have:=gV.o k g s t W' k9 (by rw[hk];have:=gu.o;exact⟨by show _<=b12;omega,by show _<=b13;omega⟩) (by rw[hk];exact gh) (by rw[hk];exact⟨by show b12≠D;omega,by show b12≠D+1+1;omega,by show b12≠b10;omega,by show b12≠D+1;omega⟩) (by rw[hk];exact⟨by show b13≠D;omega,by show b13≠D+1+1;omega,by show b13≠b10;omega,by show b13≠D+1;omega⟩) hs ht (by rw[<- gc];exact h);rw[<- gc,hk] at this;exact this
  have hI:Hq (_=w5):=Hd gy.symm;have H5:=Hd t5;have kj:∀ (fn:Fn) (first cap:Array Value) (w:Wd),(Instr.makeFunc fn first cap).run prog w=.ok (.func fn first cap) w:=fun _ _ _ _=>rfl
  obtain⟨e4,-,-⟩:=gm.o _ _ t5;clear ty gC hU gG gh kc kb gy hk gc t5 HY gQ g1 gl g5 g8 g7 g4 HB2 ge gD gV gw gd gY gZ HX H3 d4 d10 h9 hL;go_upto_region 9 with fail;rw[hI.o];clear hI c6 f6 c13;go_upto_region 11 with fail;obtain⟨wd,gx⟩:∃ W,W=w5.drew:=⟨_,rfl⟩;have gR:=Hd gx;have hu:Hq (T LK hm wd):=Hd (by rw[gx];exact gF.o _ _ _ _ gE.o H5.o (Aq w5 1));have e4d:wd.cell? (Av D)=some (Pt mb):=by rw[gx];exact e4
  have gr:=Hd (gS.o _ _ _ hu.o);have hM:=Hd (hN.o hm (n-1) wd gB (by omega) hu.o);have gj:(n:Int)-1=((n-1:Nat):Int):=by omega
  have k4:IntKind.i64.wrap ((n-1:Nat):Int)=((n-1:Nat):Int):=XK _ ⟨by omega,by omega⟩;clear gx e4;refine EJ [0,1,2,5,3,4,6] (fun W'=>W'.cell? (Av D)=some (Pt mb)) (fun ch w'=>False) (fun c a w hd h=>h.elim) (by kernel_rfl) (by rw[<- gR.o];exact e4d) ?_;rw[<- gR.o];clear gR
  iterate 4
   refine DO rfl rfl (by kernel_rfl) ?_;apply Exists.intro;refine⟨fun w' hw=>?_,?_⟩
   . have q1:w'.cell? (Av D)=some (Pt mb):=hw;go_simp;rfl
   simp only[Ab]
  refine F9 (R1:=fun u w'=>u=Iv (n:Nat)/\wd=w') rfl (by kernel_rfl) rfl rfl (by go_simp) (gr.o.mono fun x w' h=>⟨_,h.1,rfl,h.2⟩) (by rintro u w' ⟨_,rfl⟩;exact e4d) ?_;rintro u w'-⟨rfl,rfl⟩;simp only[Ab];refine DO rfl rfl (by kernel_rfl) ?_;apply Exists.intro;refine⟨fun w' hw=>?_,?_⟩
  . go_simp;rfl
  simp only[Ab];refine F9 (R1:=fun u w'=>∃ x,x<n/\T LK x w') rfl (by kernel_rfl) rfl rfl (by go_simp) (hM.o.mono fun x w' h=>⟨_,h.1,h.2⟩) (by rintro u w' ⟨x,hx,hT⟩;exact(gm.o _ _ hT).1) ?_;rintro u w6-⟨x6,hZ,gO⟩;simp only[Ab];refine Cc (by kernel_rfl) ?_;have hS:=Hd (gX.o LK x6 hm w6 gE.o hZ gB gO);obtain⟨c46,-,-⟩:=gm.o _ _ gO;clear gO hM gr e4d hu gj k4;go_wp2_with fail;refine hS.o.mono ?_;rintro y w7 ⟨rfl,gN⟩;have hR:=Hd (hN.o hm 0 w7 gB (by omega) gN);obtain⟨c47,-,-⟩:=gm.o _ _ gN;clear gN c46 hS;go_wp2_with fail;refine hR.o.mono ?_;rintro y w8 ⟨rfl,x8,hW,gM⟩;obtain⟨c48,-,bx,hG,ka,c138⟩:=gm.o _ _ gM;have hO:=Hd (gX.o LK x8 bx w8 gE.o hW hG gM);clear gM c47 hR;go_wp2_with fail;refine hO.o.mono ?_;rintro y w9 ⟨rfl,gL⟩;obtain⟨c49,c79,-⟩:=gm.o _ _ gL;have hK:=Hd (gT.o LK bx w9 gE.o kd.o gL);clear gL c48 c138 hO;go_wp2_with fail;refine hK.o.mono ?_;rintro y wA ⟨rfl,hH⟩;have ha:=Hd (h8.o bx wA hG ka (ke.o _ _ hH));clear hH c49 c79 hK;go_wp2_with fail
  first|exact ha.o|(go_ret2;exact ha.o)|(refine Wu (Yj rfl _ _ _) rfl ?_;exact ha.o)
end
section
variable {o:Own}
def levC (cs:List (Nat×Nat))(vs:List Nat):List Int:=vs.map fun v=>((getC v cs:Nat):Int)
theorem U0 {cs:List (Nat×Nat)}{vs:List Nat}(h:i<vs.length):levC cs (vs.take (i+1))=levC cs (vs.take i)++[((getC (vs.getD i 0) cs:Nat):Int)]:=by
 unfold levC;rw[VX h,Wx];simp[List.getD,h]
theorem U1 (h:SatE K n Od room w0 mb fs nx w o m V)(hl:ArgI w0 w o a ks)(hlen:Fs.length=ks.length)(hm:∀ i (h:i<ks.length),(ks[i],Fs[i]'(by omega))∈fs) :
 Cl 86 #[Pt mb,.slice a ks.length c] w fun x w'=>∃ v ns w1,x=.returned (.tuple #[v,Iv 0])/\ns.length=n/\AskV K n Od room w0 mb fs nx m o w w1/\Bw w1 w'/\OwnI w' w1.heap.size v ns:=by
 have hn64:n<=64:=by have:=h.ok.store.small;rw[h.vars] at this;exact this
 have HS:Hq (Cl 122 #[Pt mb,.slice a ks.length c] w fun x w'=>∃ nt cs,x=.returned (.tuple #[.map (some nt),Iv 0])/\A1 w' nt (Value.int .i64) (ctL cs)/\AskV K n Od room w0 mb fs nx m o w w'/\∃ vs:List Nat,vs.length=n/\Cl 19 #[Pt mb] w' fun x w''=>∃ v,x=.returned v/\SliceIs w'' v (vs.map Int.ofNat)/\Bw w' w''):=Hd (by
  refine(Nw (c:=c) h hl hlen hm).mono ?_;rintro x w' ⟨nt,cs,rfl,h1,h2,o',m',V',h3,h4,h5,h6⟩;refine⟨nt,cs,rfl,h1,⟨o',m',V',h3,h4,h5,h6⟩,m'.d.vars,h6.vars,(IE h6.is h6.lt (by rw[h6.vars];exact hn64)).mono ?_⟩;rintro x w'' ⟨v,rfl,hv,hb⟩;exact⟨v,rfl,hv.sliceIs (by rw[Wn,h6.vars];omega),hb⟩)
 obtain⟨P,hP⟩:=Ex (fun x w'=>∃ v ns w1,x=.returned (.tuple #[v,Iv 0])/\ns.length=n/\AskV K n Od room w0 mb fs nx m o w w1/\Bw w1 w'/\OwnI w' w1.heap.size v ns:Ending->Wd->Prop)
 have gd:Hq (∀ v ns w1 w',ns.length=n->AskV K n Od room w0 mb fs nx m o w w1->Bw w1 w'->OwnI w' w1.heap.size v ns->P (.returned (.tuple #[v,Iv 0])) w'):=Hd fun v ns w1 w' h1 h2 h3 h4=>by
  rw[hP];exact⟨v,ns,w1,rfl,h1,h2,h3,h4⟩
 rw[<- hP];clear hP h hl hm hlen
 go_enter func86,ntmps86
 go_wp2_with fail;refine HS.o.mono ?_;rintro x w2 ⟨nt,cs,rfl,g8,g4,vs,g2,g3⟩;have ge:=Hd g4;have g5:=Hd g3;have gk:=Hd g8;clear g4 g3 g8 HS;go_wp2_with fail;refine g5.o.mono ?_;rintro x w3 ⟨v,rfl,gf,ga⟩;obtain⟨a3,c3,rfl,g7,-⟩:=gf;rw[Wn,g2];have HZ:=Hd g7;have g6:=Hd ga;have gc:=Hd g2;clear g7 ga g2 g5;go_wp2_with fail
 go_loopw [4,8,21] (fun s4 _ s21 wr=>∃ j:Nat,j<=n/\s21=Iv j/\Hq (OwnI wr w3.heap.size s4 (levC cs (vs.take j)))/\Hq (Bw w3 wr)) (fun _ _ s21 _=>n-(intOf s21).toNat)
 case atStart=>exact⟨0,by omega,rfl,Hd (by rw[Ys];exact D0 _ _),Hd (VZ _ _)⟩
 case round =>
  obtain⟨j,hj,rfl,HO,g0⟩:=hrel
  by_cases gg:j<n
  ·have gm:(j:Int)<(n:Int):=by omega
   have g1:j<vs.length:=by rw[gc.o];exact gg
   obtain⟨b,off,rfl,hc⟩:=(HZ.o.below g0.o).cells j (by rw[Wn];exact g1);rw[Di g1] at hc;obtain⟨q,hq⟩:=Ex (vs.getD j 0);rw[<- hq] at hc;have g9:=Np (gk.o.below (g6.o.trans (g0.o.mono g6.o.size))) q;obtain⟨g,hg⟩:=Ex (getC q cs);have gi:Hq (levC cs (vs.take (j+1))=levC cs (vs.take j)++[((g:Nat):Int)]):=Hd (by rw[U0 g1,<- hq,hg]);rw[<- hg] at g9;have gh:(levC cs (vs.take j)).length<1099511627776:=by unfold levC;rw[Wn,X9];omega
   clear hg hq g1;go_wp2_with (at_builtin;refine CR _ rfl _ _ rfl w3.heap.size w3 _ (levC cs (vs.take j)) (g:Int) rfl rfl rfl rfl (by exact HO.o) gh (by exact g0.o.size) (by exact g0.o) ?_;intro v' wy h1 h2 h3 h4);have gj:Hq (OwnI wy w3.heap.size v' (levC cs (vs.take (j+1)))):=Hd (by rw[gi.o];exact h1);have HB2:Hq (Bw w3 wy):=Hd h2;clear h1 h2 h3 h4 g9;go_roundw
   case rel=>exact⟨j+1,by omega,by go_num,gj,HB2⟩
   case measure=>simp[intOf];omega
  ·obtain rfl:j=n:=by omega
   have HF:=Hd (gd.o u4 _ w3 wr (by unfold levC;rw[Wn,X9,gc.o];omega) (ge.o.below g6.o) g0.o HO.o);have gl:¬ (j:Int)<(j:Int):=by omega
   clear HO;go_wp2_with fail
   first|exact HF.o|(go_ret2;exact HF.o)|(refine Wu (Yj rfl _ _ _) rfl ?_;exact HF.o)
theorem FxO.levels {P:List Nat->Prop}(hB:As B)(h:FxO K n room w0 mb ws0 C o0 wb B P fs nx W)(hl:∀ W o,B W o->ArgI w0 W o a ks)(hlen:Fs.length=ks.length)(hm:∀ i (h:i<ks.length),(ks[i],Fs[i]'(by omega))∈fs) :
 Cl 86 #[Pt mb,.slice a ks.length c] W fun x w'=>∃ v ns,x=.returned (.tuple #[v,Iv 0])/\ns.length=n/\SliceIs w' v ns/\FxO K n room w0 mb ws0 C o0 wb (fun W o=>B W o/\AA v ns W o) P fs nx w':=by
 obtain⟨o,m,V,h1,h2,h3,h4⟩:=h;have hn64:n<=64:=by have:=h3.ok.store.small;rw[h3.vars] at this;exact this
 refine(U1 (c:=c) h3 (hl _ _ h4) hlen hm).mono ?_;rintro x w' ⟨v,ns,w1,rfl,g0,⟨o',m',V',q1,q2,q3,q4⟩,hb,ho⟩;have hf:FxO K n room w0 mb ws0 C o0 wb B P fs nx w1:=⟨o',m',V',h1.trans q1 NoB.sub,by rw[q2];exact h2,q4,hB _ _ _ _ h4 q1⟩;have hs:=ho.sliceIs (by omega);exact⟨v,ns,rfl,g0,hs,hf.mine hB hb hs fun k hk=>ho.lt k hk⟩
end
theorem U3 (x:Int)(w:Wd):Cl 138 #[Iv x] w fun e w'=>e=.returned (.bool false)/\w=w':=by
 go_enter func138,ntmps138
 go_wp2_with fail;go_ret;simp
theorem U4 (x y:Int)(w:Wd):Cl 210 #[Iv x,Iv y] w (Sm (.bool (decide (x<y))) w):=by
 have H1:=Hd (fun z w=>U3 z w)
 go_enter func210,ntmps210
 go_wp2_with fail;refine(H1.o x w).mono ?_;rintro e w' ⟨rfl,rfl⟩;go_wp2_with fail;go_ret;exact⟨rfl,rfl⟩
theorem N5 (zs:List Int)(i:Int):(A6 zs i).Perm zs:=by
 unfold A6;split
 ·rename_i h
  rw[Au (show i.toNat<zs.length by omega),Au (show i.toNat+1<zs.length by omega)];exact List.set_set_perm (by omega) (by omega)
 . exact List.Perm.refl _
theorem N6 {o:Oper}{r:List (Option Oper×Bool)}{a:Act}{f:FuncId}{args:Array Value}{R:Value->Wd->Prop}(hw:Region.wanted o (yielded ops a.tmps)=true)
 (he:(execOp a.eval o).run P w=.ok (.enter f args) w) (hc:Calls P f args w fun e w'=>∃ v,e=.returned v/\S w'/\R v w')
 (h:∀ v w',S w'->R v w'->A9 P ops Q S last r (a.put o.dst v) w'):A9 P ops Q S last ((some o,true)::r) a w:=by
 unfold A9;simp only[hw,Xb,Oper.wp,he,Oper.upon];exact hc.mono fun e w' ⟨v,h1,h2,h3⟩=>by subst h1;exact⟨.inr h2,h v w' h2 h3⟩
def BU (i:Nat)(c:List Int):Prop:=∀ p q,p<q->q<i->at0 c p<=at0 c q
theorem U5 (c:List Int):BU 1 c:=fun p q h1 h2=>by omega
def InsR (i j:Nat)(c:List Int):Prop:=(∀ p q,p<q->q<=i->p≠j->q≠j->at0 c p<=at0 c q)/\∀ q,j<q->q<=i->at0 c j<=at0 c q
theorem BU.ins {c:List Int}(h:BU i c):InsR i i c:=⟨fun p q h1 h2 _ h4=>h p q h1 (by omega),fun q h1 h2=>by omega⟩
theorem InsR.exit {c:List Int}(h:InsR i j c)(hj:j=0\/at0 c (j-1)<=at0 c j):BU (i+1) c:=fun p q h1 h2=>by
 by_cases hp:p=j
 . subst hp;exact h.2 q h1 (by omega)
 ·by_cases hq:q=j
  ·subst hq;rcases hj with rfl|hj
   . omega
   ·by_cases hp2:p=q-1
    . subst hp2;exact hj
    ·by_cases hqi:q<=i
     . exact Int.le_trans (h.1 p (q-1) (by omega) (by omega) hp (by omega)) hj
     . omega
  . exact h.1 p q h1 (by omega) hp hq
theorem InsR.step {c:List Int}(h:InsR i (k+1) c)(hl:k+1<c.length)(hlt:at0 c (k+1)<at0 c k)(hi:k+1<=i:=by omega):InsR i k (A6 c (k:Int)):=by
 have e:∀ j,at0 (A6 c (k:Int)) j=if j=k then at0 c (k+1) else if j=k+1 then at0 c k else at0 c j:=fun j=>CO hl
 refine⟨fun p q h1 h2 h3 h4=>?_,fun q h1 h2=>?_⟩
 ·rw[e,e,VS h3,VS h4]
  by_cases hp:p=k+1
  . rw[VW hp,VS (by omega)];exact h.1 k q (by omega) h2 (by omega) (by omega)
  ·rw[VS hp]
   by_cases hq:q=k+1
   . rw[VW hq];exact h.1 p k (by omega) (by omega) hp (by omega)
   . rw[VS hq];exact h.1 p q h1 h2 hp hq
 ·rw[e,e,VW rfl,VS (by omega)]
  by_cases hq:q=k+1
  . rw[VW hq];omega
  . rw[VS hq];exact h.2 q (by omega) h2
theorem U6 (hown:OwnI W base (.slice (some (Av g)) n cap) cur)(hl:cur.length=n)(hn:n<=12)(eg:∀ args w,(callFunc gf args).run prog w=.ok (.enter gf args) w)(hcmp:∀ W1 x y,Wr (· = g) W W1->x∈cur->y∈cur->Calls prog gf (#[Iv x,Iv y]++lop) W1 fun e w'=>∃ z,e=.returned (Iv z)/\Bw W1 w') :
 Cl 185 #[.slice (some (Av g)) n cap,Iv 0,Iv (n:Nat),.func (.func gf) #[] lop] W fun e w'=>e=.returned (.tuple #[])/\∃ c2,(c2.Perm cur/\c2.length=n)/\OwnI w' base (.slice (some (Av g)) n cap) c2/\Wr (· = g) W w':=by
 obtain⟨P,hP⟩:=Ex (fun e w'=>e=.returned (.tuple #[])/\∃ c2,(c2.Perm cur/\c2.length=n)/\OwnI w' base (.slice (some (Av g)) n cap) c2/\Wr (· = g) W w':Ending->Wd->Prop)
 have gj:Hq (∀ w',(∃ c2,(c2.Perm cur/\c2.length=n)/\OwnI w' base (.slice (some (Av g)) n cap) c2/\Wr (· = g) W w')->P (.returned (.tuple #[])) w'):=Hd fun w' h=>by rw[hP];exact⟨rfl,h⟩
 have gc:Hq (∀ c1 W1,OwnI W1 base (.slice (some (Av g)) n cap) c1->∀ k,k+1<c1.length->OwnI ((W1.setCell (Aw g (k+1)) (Iv (at0 c1 k))).setCell (Aw g k) (Iv (at0 c1 (k+1)))) base (.slice (some (Av g)) n cap) (A6 c1 (k:Int))):=Hd fun c1 W1 h k hk=>by
  rw[FJ hk,<- List.set_comm _ _ (by omega)];exact(h.stored (k+1) _).stored k _
 have H0:=Hd hown;have HL:=Hd hl;have HC:=Hd hcmp;rw[<- hP];clear hP hown hl hcmp
 go_enter func185,ntmps185
 go_wp2_with fail
 go_loopw [8,9] (fun s8 _ wr=>∃ (i:Nat) (c1:List Int),1<=i/\s8=Iv (i:Nat)/\(i<=n\/i=1)/\Hq (OwnI wr base (.slice (some (Av g)) n cap) c1)/\Hq (c1.Perm cur/\c1.length=n)/\Hq (Wr (· = g) W wr)) (fun s8 _ _=>n-(intOf s8).toNat)
 case atStart=>exact⟨1,cur,VQ _,rfl,.inr rfl,H0,Hd ⟨List.Perm.refl _,HL.o⟩,Hd (Wr.refl _ _)⟩
 case round =>
  obtain⟨i,c1,gx,rfl,gw,HO,HP,HW⟩:=hrel;obtain⟨wo,gk⟩:∃ w,w=wr:=⟨_,rfl⟩;subst gk;clear H0
  by_cases gq:i<n
  ·have gm:(i:Int)<(n:Int):=by omega
   go_wp2_with fail
   go_loopw [9] (fun s9 wr=>∃ (j:Nat) (c1:List Int),j<=i/\s9=Iv (j:Nat)/\Hq (OwnI wr base (.slice (some (Av g)) n cap) c1)/\Hq (c1.Perm cur/\c1.length=n)/\Hq (Wr (· = g) W wr)) (fun s9 _=>(intOf s9).toNat)
   case atStart=>exact⟨i,c1,VQ _,rfl,HO,Hd ⟨HP.o.1,HP.o.2⟩,HW⟩
   case round =>
    clear HO HP HW;obtain⟨j,c1,hj,rfl,HO,HP,HW⟩:=hrel;rcases j with _|k
    ·go_upto_region 4 with fail;refine AM (fun W1:Wd=>Hq (W1=wr.drew)) false 17 [(0,false),(1,false),(2,false),(3,false),(4,false),(5,false),(6,false),(7,false),(8,false),(9,false),(10,false),(11,false),(12,false),(13,false),(14,true),(15,false),(16,false)] (by kernel_rfl) (by kernel_rfl) (Hd rfl) ?_;simp only[planned,AL];refine Ay rfl ?_;apply Exists.intro;refine⟨fun w' hw=>?_,?_⟩
     . clear hw;go_simp;rfl
     simp only[Ab];refine Ay rfl ?_;apply Exists.intro;refine⟨fun w' hw=>?_,?_⟩
     . clear hw;go_simp;rfl
     simp only[Ab];refine Ay rfl ?_;apply Exists.intro;refine⟨fun w' hw=>?_,?_⟩
     . clear hw;go_simp;rfl
     simp only[Ab];refine Ay rfl ?_;apply Exists.intro;refine⟨fun w' hw=>?_,?_⟩
     . clear hw;go_simp;rfl
     simp only[Ab];refine AB false (by go_simp) ?_;refine Exists.intro undef (And.intro (fun g0=>absurd g0 (by simp)) ?_);simp only[Ab];refine AB false (by go_simp) ?_;refine Exists.intro undef (And.intro (fun g0=>absurd g0 (by simp)) ?_);simp only[Ab];refine AB false (by go_simp) ?_;refine Exists.intro undef (And.intro (fun g0=>absurd g0 (by simp)) ?_);simp only[Ab];refine AB false (by go_simp) ?_;refine Exists.intro undef (And.intro (fun g0=>absurd g0 (by simp)) ?_);simp only[Ab];refine AB false (by go_simp) ?_;refine Exists.intro undef (And.intro (fun g0=>absurd g0 (by simp)) ?_);simp only[Ab];refine AB false (by go_simp) ?_;refine Exists.intro undef (And.intro (fun g0=>absurd g0 (by simp)) ?_);simp only[Ab];refine AB false (by go_simp) ?_;refine Exists.intro undef (And.intro (fun g0=>absurd g0 (by simp)) ?_);simp only[Ab];refine AB false (by go_simp) ?_;refine Exists.intro undef (And.intro (fun g0=>absurd g0 (by simp)) ?_);simp only[Ab];refine AB false (by go_simp) ?_;refine Exists.intro undef (And.intro (fun g0=>absurd g0 (by simp)) ?_);simp only[Ab];refine AB false (by go_simp) ?_;refine Exists.intro undef (And.intro (fun g0=>absurd g0 (by simp)) ?_);simp only[Ab];refine Kf (v:=Iv 0) (f:=0) (args:=#[]) false (by go_simp) (Hd rfl) (fun h=>by cases h) (fun h=>by cases h) ?_;rintro wN gl;obtain rfl:=gl.o;simp only[Ab];refine AB false (by go_simp) ?_;refine Exists.intro undef (And.intro (fun g0=>absurd g0 (by simp)) ?_);simp only[Ab];refine Ay rfl ?_;apply Exists.intro;refine⟨fun w' hw=>?_,?_⟩
     . clear hw;go_simp;rfl
     simp only[Ab];refine Cg ?_;have g1:=Hd (HO.o.drewN 1);have g3:=Hd HW.o.drew;have HX:=Hd (show c1.Perm cur/\c1.length=n from ⟨HP.o.1,HP.o.2⟩);clear HP;go_wp2_with fail;go_roundw
     case rel=>exact⟨i+1,c1,by omega,by go_num,by omega,g1,HX,g3⟩
     case measure=>simp[intOf];omega
    ·have g7:k+1<c1.length:=by have:=HP.o.2;omega
     have c1c:wr.drew.cell? (Aw g (k+1))=some (Iv (at0 c1 (k+1))):=HO.o.cell (k+1) g7;have c0c:wr.drew.cell? (Aw g k)=some (Iv (at0 c1 k)):=HO.o.cell k (by omega);have g9:=Hd (HO.o.drewN 1);have g2:=Hd HW.o.drew;have HM:Hq (at0 c1 (k+1)∈cur/\at0 c1 k∈cur):=Hd ⟨HP.o.1.mem_iff.1 (by rw[Au g7];exact Wh _),HP.o.1.mem_iff.1 (by rw[Au (show k<c1.length by omega)];exact Wh _)⟩;have gd:∀ w2 q,OwnI w2 base (.slice (some (Av g)) n cap) c1->w2.frozen? (Aw g q)=false:=fun w2 q h=>h.frozen q
     have ga:=Hd gd;have gv:k+1<n:=by have:=HP.o.2;omega
     have gp:(k:Int)+1<(n:Int):=by omega
     have gt:(k:Int)+1-1=(k:Int):=by omega
     have gr:(k:Int)<(n:Int):=by omega
     have go:IntKind.i64.wrap (k:Int)=(k:Int):=XK _ ⟨by omega,by omega⟩;have gu:(k:Int)+1>0:=by omega
     have g8:=Hd (fun W1 h=>gc.o c1 W1 h k g7);obtain⟨y1,g4⟩:∃ y,y=at0 c1 (k+1):=⟨_,rfl⟩;obtain⟨y0,g5⟩:∃ y,y=at0 c1 k:=⟨_,rfl⟩;rw[<- g4] at c1c;rw[<- g5] at c0c;rw[<- g4,<- g5] at HM g8;have HY:=Hd (show y1=at0 c1 (k+1)/\y0=at0 c1 k from ⟨g4,g5⟩);clear g4 g5 g7 gd gc;go_upto_region 4 with fail;refine AM (fun W1:Wd=>W1.cell? (Aw g (k+1))=some (Iv y1)/\W1.cell? (Aw g k)=some (Iv y0)/\Hq (Wr (· = g) W W1)/\Hq (OwnI W1 base (.slice (some (Av g)) n cap) c1)) false 17 [(0,false),(1,false),(2,false),(3,false),(4,false),(5,false),(6,false),(7,false),(8,false),(9,false),(10,false),(11,false),(12,false),(13,false),(14,true),(15,false),(16,false)] (by kernel_rfl) (by kernel_rfl) ⟨c1c,c0c,g2,g9⟩ ?_;simp only[planned,AL];refine Ay rfl ?_;apply Exists.intro;refine⟨fun w' hw=>?_,?_⟩
     . obtain⟨q1,q2,-,-⟩:=hw;go_simp;rfl
     simp only[Ab];refine Ay rfl ?_;apply Exists.intro;refine⟨fun w' hw=>?_,?_⟩
     . obtain⟨q1,q2,-,-⟩:=hw;go_simp;rfl
     simp only[Ab];refine Ay rfl ?_;apply Exists.intro;refine⟨fun w' hw=>?_,?_⟩
     . obtain⟨q1,q2,-,-⟩:=hw;go_simp;rfl
     simp only[Ab];refine Ay rfl ?_;apply Exists.intro;refine⟨fun w' hw=>?_,?_⟩
     . obtain⟨q1,q2,-,-⟩:=hw;go_simp;rfl
     simp only[Ab];refine AB true (by go_simp) ?_;apply Exists.intro;refine⟨fun g0 w' hw=>?_,?_⟩
     . obtain⟨q1,q2,-,-⟩:=hw;go_simp;rfl
     simp only[Ab];refine AB true (by go_simp) ?_;apply Exists.intro;refine⟨fun g0 w' hw=>?_,?_⟩
     . obtain⟨q1,q2,-,-⟩:=hw;go_simp;rfl
     simp only[Ab];refine AB true (by go_simp) ?_;apply Exists.intro;refine⟨fun g0 w' hw=>?_,?_⟩
     . obtain⟨q1,q2,-,-⟩:=hw;go_simp;rfl
     simp only[Ab];refine AB true (by go_simp) ?_;apply Exists.intro;refine⟨fun g0 w' hw=>?_,?_⟩
     . obtain⟨q1,q2,-,-⟩:=hw;go_simp;rfl
     simp only[Ab];refine AB true (by go_simp) ?_;apply Exists.intro;refine⟨fun g0 w' hw=>?_,?_⟩
     . obtain⟨q1,q2,-,-⟩:=hw;go_simp;rfl
     simp only[Ab];refine AB true (by go_simp) ?_;apply Exists.intro;refine⟨fun g0 w' hw=>?_,?_⟩
     . obtain⟨q1,q2,-,-⟩:=hw;go_simp;rfl
     simp only[Ab];refine AB true (by go_simp) ?_;apply Exists.intro;refine⟨fun g0 w' hw=>?_,?_⟩
     . obtain⟨q1,q2,-,-⟩:=hw;go_simp;rfl
     simp only[Ab];refine AB true (by go_simp) ?_;apply Exists.intro;refine⟨fun g0 w' hw=>?_,?_⟩
     . obtain⟨q1,q2,-,-⟩:=hw;go_simp;rfl
     simp only[Ab];refine AB true (by go_simp) ?_;apply Exists.intro;refine⟨fun g0 w' hw=>?_,?_⟩
     . obtain⟨q1,q2,-,-⟩:=hw;go_simp;rfl
     simp only[Ab];refine AB true (by go_simp) ?_;apply Exists.intro;refine⟨fun g0 w' hw=>?_,?_⟩
     . obtain⟨q1,q2,-,-⟩:=hw;go_simp;rfl
     simp only[Ab];refine N6 (R:=fun v w'=>∃ z:Int,v=Iv z) (by go_simp) (by go_simp) ((HC.o wr.drew y1 y0 g2.o HM.o.1 HM.o.2).mono fun e w' he=>?_) ?_
     . obtain⟨z,rfl,hb⟩:=he;exact⟨_,rfl,⟨(Cq hb c1c),(Cq hb c0c),Hd (g2.o.trans (Wr.of_below hb (· = g)) (fun _ _ h=>h) (fun _ _ h=>h)),Hd (g9.o.below hb)⟩,z,rfl⟩
     rintro v wN ⟨d1,d0,g3,g1⟩ ⟨z,rfl⟩;simp only[Ab];refine AB true (by go_simp) ?_;apply Exists.intro;refine⟨fun g0 w' hw=>?_,?_⟩
     . obtain⟨q1,q2,-,-⟩:=hw;go_simp;rfl
     simp only[Ab];refine Ay rfl ?_;apply Exists.intro;refine⟨fun w' hw=>?_,?_⟩
     . obtain⟨q1,q2,-,-⟩:=hw;go_simp;rfl
     simp only[Ab];refine Cg ?_
     by_cases hz:z<0
     ·have f1:=ga.o wN (k+1) g1.o;have f0:=ga.o wN k g1.o;obtain⟨wS,g6⟩:∃ w,w=(wN.setCell (Aw g (k+1)) (Iv y0)).setCell (Aw g k) (Iv y1):=⟨_,rfl⟩;have gg:Hq (OwnI wS base (.slice (some (Av g)) n cap) (A6 c1 (k:Int))):=Hd (by rw[g6];exact g8.o wN g1.o);have ge:Hq (Wr (· = g) W wS):=Hd (by rw[g6];exact(g3.o.setCell (p:=(Aw g (k+1))) (.inl rfl) _).setCell (p:=Aw g k) (.inl rfl) _);have gn:=Hd (show (A6 c1 (k:Int)).Perm cur/\(A6 c1 (k:Int)).length=n from ⟨(N5 c1 _).trans HP.o.1,by rw[C0];exact HP.o.2⟩);clear HO HP HW g1 g3 HM g8 ga g9 g2 c1c c0c;go_wp2_with fail
      go_region
      rw[<- g6];have gi:=Hd (gg.o.drewN 1);have gh:=Hd ge.o.drew;clear g6 gg ge;go_wp2_with fail;go_roundw
      case rel=>exact⟨k,A6 c1 (k:Int),by omega,by go_num,gi,gn,gh⟩
      case measure=>simp[intOf]
     ·have HX:=Hd (show c1.Perm cur/\c1.length=n from ⟨HP.o.1,HP.o.2⟩);clear HO HP HW HM g8 ga g9 g2 c1c c0c d1 d0;go_wp2_with fail;go_roundw
      case rel=>exact⟨i+1,c1,by omega,by go_num,by omega,g1,HX,g3⟩
      case measure=>simp[intOf];omega
  ·have HF:=Hd (gj.o wo ⟨c1,⟨HP.o.1,HP.o.2⟩,HO.o,HW.o⟩);have gm:¬ (i:Int)<(n:Int):=by omega
   clear HP HO HW gc;go_wp2_with fail
   first|exact HF.o|(refine WR (Wy rfl _ _ _) rfl ?_;exact HF.o)
theorem U7 (hown:OwnI W base (.slice (some (Av g)) n cap) cur)(hl:cur.length=n)(hn:n<=12) :
 Cl 204 #[.slice (some (Av g)) n cap,Iv 0,Iv (n:Nat)] W fun e w'=>e=.returned (.tuple #[])/\∃ c2,(c2.Perm cur/\c2.length=n/\BU n c2)/\OwnI w' base (.slice (some (Av g)) n cap) c2/\Wr (· = g) W w':=by
 obtain⟨P,hP⟩:=Ex (fun e w'=>e=.returned (.tuple #[])/\∃ c2,(c2.Perm cur/\c2.length=n/\BU n c2)/\OwnI w' base (.slice (some (Av g)) n cap) c2/\Wr (· = g) W w':Ending->Wd->Prop)
 have gi:Hq (∀ w',(∃ c2,(c2.Perm cur/\c2.length=n/\BU n c2)/\OwnI w' base (.slice (some (Av g)) n cap) c2/\Wr (· = g) W w')->P (.returned (.tuple #[])) w'):=Hd fun w' h=>by rw[hP];exact⟨rfl,h⟩
 have gc:Hq (∀ c1 W1,OwnI W1 base (.slice (some (Av g)) n cap) c1->∀ k,k+1<c1.length->OwnI ((W1.setCell (Aw g (k+1)) (Iv (at0 c1 k))).setCell (Aw g k) (Iv (at0 c1 (k+1)))) base (.slice (some (Av g)) n cap) (A6 c1 (k:Int))):=Hd fun c1 W1 h k hk=>by
  rw[FJ hk,<- List.set_comm _ _ (by omega)];exact(h.stored (k+1) _).stored k _
 have H0:=Hd hown;have HL:=Hd hl;rw[<- hP];clear hP hown hl
 go_enter func204,ntmps204
 go_wp2_with fail
 go_loopw [6,7] (fun s8 _ wr=>∃ (i:Nat) (c1:List Int),1<=i/\s8=Iv (i:Nat)/\(i<=n\/i=1)/\Hq (OwnI wr base (.slice (some (Av g)) n cap) c1)/\Hq (c1.Perm cur/\c1.length=n/\BU i c1)/\Hq (Wr (· = g) W wr)) (fun s8 _ _=>n-(intOf s8).toNat)
 case atStart=>exact⟨1,cur,VQ _,rfl,.inr rfl,H0,Hd ⟨List.Perm.refl _,HL.o,U5 _⟩,Hd (Wr.refl _ _)⟩
 case round =>
  obtain⟨i,c1,gw,rfl,gv,HO,HP,HW⟩:=hrel;obtain⟨wo,gj⟩:∃ w,w=wr:=⟨_,rfl⟩;subst gj;clear H0
  by_cases gp:i<n
  ·have gl:(i:Int)<(n:Int):=by omega
   go_wp2_with fail
   go_loopw [7] (fun s9 wr=>∃ (j:Nat) (c1:List Int),j<=i/\s9=Iv (j:Nat)/\Hq (OwnI wr base (.slice (some (Av g)) n cap) c1)/\Hq (c1.Perm cur/\c1.length=n/\InsR i j c1)/\Hq (Wr (· = g) W wr)) (fun s9 _=>(intOf s9).toNat)
   case atStart=>exact⟨i,c1,VQ _,rfl,HO,Hd ⟨HP.o.1,HP.o.2.1,HP.o.2.2.ins⟩,HW⟩
   case round =>
    clear HO HP HW;obtain⟨j,c1,hj,rfl,HO,HP,HW⟩:=hrel;rcases j with _|k
    ·go_upto_region 4 with fail;refine AM (fun W1:Wd=>Hq (W1=wr.drew)) false 15 [(0,false),(1,false),(2,false),(3,false),(4,false),(5,false),(6,false),(7,false),(8,false),(9,false),(10,false),(11,false),(12,false),(13,true),(14,false)] (by kernel_rfl) (by kernel_rfl) (Hd rfl) ?_;simp only[planned,AL];refine Ay rfl ?_;apply Exists.intro;refine⟨fun w' hw=>?_,?_⟩
     . clear hw;go_simp;rfl
     simp only[Ab];refine Ay rfl ?_;apply Exists.intro;refine⟨fun w' hw=>?_,?_⟩
     . clear hw;go_simp;rfl
     simp only[Ab];refine Ay rfl ?_;apply Exists.intro;refine⟨fun w' hw=>?_,?_⟩
     . clear hw;go_simp;rfl
     simp only[Ab];refine Ay rfl ?_;apply Exists.intro;refine⟨fun w' hw=>?_,?_⟩
     . clear hw;go_simp;rfl
     simp only[Ab];refine AB false (by go_simp) ?_;refine Exists.intro undef (And.intro (fun g0=>absurd g0 (by simp)) ?_);simp only[Ab];refine AB false (by go_simp) ?_;refine Exists.intro undef (And.intro (fun g0=>absurd g0 (by simp)) ?_);simp only[Ab];refine AB false (by go_simp) ?_;refine Exists.intro undef (And.intro (fun g0=>absurd g0 (by simp)) ?_);simp only[Ab];refine AB false (by go_simp) ?_;refine Exists.intro undef (And.intro (fun g0=>absurd g0 (by simp)) ?_);simp only[Ab];refine AB false (by go_simp) ?_;refine Exists.intro undef (And.intro (fun g0=>absurd g0 (by simp)) ?_);simp only[Ab];refine AB false (by go_simp) ?_;refine Exists.intro undef (And.intro (fun g0=>absurd g0 (by simp)) ?_);simp only[Ab];refine AB false (by go_simp) ?_;refine Exists.intro undef (And.intro (fun g0=>absurd g0 (by simp)) ?_);simp only[Ab];refine AB false (by go_simp) ?_;refine Exists.intro undef (And.intro (fun g0=>absurd g0 (by simp)) ?_);simp only[Ab];refine AB false (by go_simp) ?_;refine Exists.intro undef (And.intro (fun g0=>absurd g0 (by simp)) ?_);simp only[Ab];refine Kf (v:=Iv 0) (f:=0) (args:=#[]) false (by go_simp) (Hd rfl) (fun h=>by cases h) (fun h=>by cases h) ?_;rintro wN gk;obtain rfl:=gk.o;simp only[Ab];refine Ay rfl ?_;apply Exists.intro;refine⟨fun w' hw=>?_,?_⟩
     . clear hw;go_simp;rfl
     simp only[Ab];refine Cg ?_;have g1:=Hd (HO.o.drewN 1);have g2:=Hd HW.o.drew;have HX:=Hd (show c1.Perm cur/\c1.length=n/\BU (i+1) c1 from ⟨HP.o.1,HP.o.2.1,HP.o.2.2.exit (.inl rfl)⟩);clear HP;go_wp2_with fail;go_roundw
     case rel=>exact⟨i+1,c1,by omega,by go_num,by omega,g1,HX,g2⟩
     case measure=>simp[intOf];omega
    ·have g6:k+1<c1.length:=by have:=HP.o.2.1;omega
     have c1c:wr.drew.cell? (Aw g (k+1))=some (Iv (at0 c1 (k+1))):=HO.o.cell (k+1) g6;have c0c:wr.drew.cell? (Aw g k)=some (Iv (at0 c1 k)):=HO.o.cell k (by omega);have g9:=Hd (HO.o.drewN 1);have g7:=Hd HW.o.drew;have HM:Hq (at0 c1 (k+1)∈cur/\at0 c1 k∈cur):=Hd ⟨HP.o.1.mem_iff.1 (by rw[Au g6];exact Wh _),HP.o.1.mem_iff.1 (by rw[Au (show k<c1.length by omega)];exact Wh _)⟩;have gd:∀ w2 q,OwnI w2 base (.slice (some (Av g)) n cap) c1->w2.frozen? (Aw g q)=false:=fun w2 q h=>h.frozen q
     have ga:=Hd gd;have gu:k+1<n:=by have:=HP.o.2.1;omega
     have go:(k:Int)+1<(n:Int):=by omega
     have gr:(k:Int)+1-1=(k:Int):=by omega
     have gq:(k:Int)<(n:Int):=by omega
     have gn:IntKind.i64.wrap (k:Int)=(k:Int):=XK _ ⟨by omega,by omega⟩;have gt:(k:Int)+1>0:=by omega
     have g8:=Hd (fun W1 h=>gc.o c1 W1 h k g6);obtain⟨y1,g3⟩:∃ y,y=at0 c1 (k+1):=⟨_,rfl⟩;obtain⟨y0,g4⟩:∃ y,y=at0 c1 k:=⟨_,rfl⟩;rw[<- g3] at c1c;rw[<- g4] at c0c;rw[<- g3,<- g4] at HM g8;have HY:=Hd (show y1=at0 c1 (k+1)/\y0=at0 c1 k from ⟨g3,g4⟩);clear g3 g4 g6 gd gc;go_upto_region 4 with fail;refine AM (fun W1:Wd=>W1.cell? (Aw g (k+1))=some (Iv y1)/\W1.cell? (Aw g k)=some (Iv y0)/\Hq (Wr (· = g) W W1)/\Hq (OwnI W1 base (.slice (some (Av g)) n cap) c1)) false 15 [(0,false),(1,false),(2,false),(3,false),(4,false),(5,false),(6,false),(7,false),(8,false),(9,false),(10,false),(11,false),(12,false),(13,true),(14,false)] (by kernel_rfl) (by kernel_rfl) ⟨c1c,c0c,g7,g9⟩ ?_;simp only[planned,AL];refine Ay rfl ?_;apply Exists.intro;refine⟨fun w' hw=>?_,?_⟩
     . obtain⟨q1,q2,-,-⟩:=hw;go_simp;rfl
     simp only[Ab];refine Ay rfl ?_;apply Exists.intro;refine⟨fun w' hw=>?_,?_⟩
     . obtain⟨q1,q2,-,-⟩:=hw;go_simp;rfl
     simp only[Ab];refine Ay rfl ?_;apply Exists.intro;refine⟨fun w' hw=>?_,?_⟩
     . obtain⟨q1,q2,-,-⟩:=hw;go_simp;rfl
     simp only[Ab];refine Ay rfl ?_;apply Exists.intro;refine⟨fun w' hw=>?_,?_⟩
     . obtain⟨q1,q2,-,-⟩:=hw;go_simp;rfl
     simp only[Ab];refine AB true (by go_simp) ?_;apply Exists.intro;refine⟨fun g0 w' hw=>?_,?_⟩
     . obtain⟨q1,q2,-,-⟩:=hw;go_simp;rfl
     simp only[Ab];refine AB true (by go_simp) ?_;apply Exists.intro;refine⟨fun g0 w' hw=>?_,?_⟩
     . obtain⟨q1,q2,-,-⟩:=hw;go_simp;rfl
     simp only[Ab];refine AB true (by go_simp) ?_;apply Exists.intro;refine⟨fun g0 w' hw=>?_,?_⟩
     . obtain⟨q1,q2,-,-⟩:=hw;go_simp;rfl
     simp only[Ab];refine AB true (by go_simp) ?_;apply Exists.intro;refine⟨fun g0 w' hw=>?_,?_⟩
     . obtain⟨q1,q2,-,-⟩:=hw;go_simp;rfl
     simp only[Ab];refine AB true (by go_simp) ?_;apply Exists.intro;refine⟨fun g0 w' hw=>?_,?_⟩
     . obtain⟨q1,q2,-,-⟩:=hw;go_simp;rfl
     simp only[Ab];refine AB true (by go_simp) ?_;apply Exists.intro;refine⟨fun g0 w' hw=>?_,?_⟩
     . obtain⟨q1,q2,-,-⟩:=hw;go_simp;rfl
     simp only[Ab];refine AB true (by go_simp) ?_;apply Exists.intro;refine⟨fun g0 w' hw=>?_,?_⟩
     . obtain⟨q1,q2,-,-⟩:=hw;go_simp;rfl
     simp only[Ab];refine AB true (by go_simp) ?_;apply Exists.intro;refine⟨fun g0 w' hw=>?_,?_⟩
     . obtain⟨q1,q2,-,-⟩:=hw;go_simp;rfl
     simp only[Ab];refine AB true (by go_simp) ?_;apply Exists.intro;refine⟨fun g0 w' hw=>?_,?_⟩
     . obtain⟨q1,q2,-,-⟩:=hw;go_simp;rfl
     simp only[Ab];refine N6 (R:=fun v w'=>v=.bool (decide (y1<y0))) (by go_simp) (by go_simp) ((U4 y1 y0 wr.drew).mono fun e w' he=>?_) ?_
     . obtain⟨rfl,rfl⟩:=he;exact⟨_,rfl,⟨c1c,c0c,g7,g9⟩,rfl⟩
     rintro v wN ⟨d1,d0,g2,g1⟩ rfl;simp only[Ab];refine Ay rfl ?_;apply Exists.intro;refine⟨fun w' hw=>?_,?_⟩
     . obtain⟨q1,q2,-,-⟩:=hw;go_simp;rfl
     simp only[Ab];refine Cg ?_
     by_cases hz:y1<y0
     ·have f1:=ga.o wN (k+1) g1.o;have f0:=ga.o wN k g1.o;obtain⟨wS,g5⟩:∃ w,w=(wN.setCell (Aw g (k+1)) (Iv y0)).setCell (Aw g k) (Iv y1):=⟨_,rfl⟩;have gf:Hq (OwnI wS base (.slice (some (Av g)) n cap) (A6 c1 (k:Int))):=Hd (by rw[g5];exact g8.o wN g1.o);have ge:Hq (Wr (· = g) W wS):=Hd (by rw[g5];exact(g2.o.setCell (p:=(Aw g (k+1))) (.inl rfl) _).setCell (p:=Aw g k) (.inl rfl) _);have gm:=Hd (show (A6 c1 (k:Int)).Perm cur/\(A6 c1 (k:Int)).length=n/\InsR i k (A6 c1 (k:Int)) from ⟨(N5 c1 _).trans HP.o.1,by rw[C0];exact HP.o.2.1,HP.o.2.2.step (by have:=HP.o.2.1;omega) (by rw[<- HY.o.1,<- HY.o.2];exact hz)⟩);clear HO HP HW g1 g2 HM g8 ga g9 g7 c1c c0c;go_wp2_with fail
      go_region
      rw[<- g5];have gh:=Hd (gf.o.drewN 1);have gg:=Hd ge.o.drew;clear g5 gf ge;go_wp2_with fail;go_roundw
      case rel=>exact⟨k,A6 c1 (k:Int),by omega,by go_num,gh,gm,gg⟩
      case measure=>simp[intOf]
     ·have HX:=Hd (show c1.Perm cur/\c1.length=n/\BU (i+1) c1 from ⟨HP.o.1,HP.o.2.1,HP.o.2.2.exit (.inr (by rw[Nat.add_sub_cancel,<- HY.o.1,<- HY.o.2];omega))⟩);clear HO HP HW HM g8 ga g9 g7 c1c c0c d1 d0;go_wp2_with fail;go_roundw
      case rel=>exact⟨i+1,c1,by omega,by go_num,by omega,g1,HX,g2⟩
      case measure=>simp[intOf];omega
  ·have HF:=Hd (gi.o wo ⟨c1,⟨HP.o.1,HP.o.2.1,fun p q h1 h2=>HP.o.2.2 p q h1 (by omega)⟩,HO.o,HW.o⟩);have gl:¬ (i:Int)<(n:Int):=by omega
   clear HP HO HW gc;go_wp2_with fail
   first|exact HF.o|(refine WR (Wy rfl _ _ _) rfl ?_;exact HF.o)
theorem JF (x:Nat)(hx:x<64)(w:Wd):Cl 137 #[.int .u64 x] w fun e w'=>(∃ z,e=.returned (Iv z))/\w=w':=by
 have H1:=Hd (U2 x hx w)
 go_enter func137,ntmps137
 go_wp2_with fail;refine H1.o.mono ?_;rintro e w' ⟨⟨z,rfl⟩,rfl⟩;go_wp2_with fail;go_ret;exact⟨⟨_,rfl⟩,rfl⟩
theorem U8 (hown:OwnI W base (.slice (some (Av g)) n cap) cur)(hl:cur.length=n)(hn:n<=12)(eg:∀ args w,(callFunc gf args).run prog w=.ok (.enter gf args) w)(hcmp:∀ W1 x y,Wr (· = g) W W1->x∈cur->y∈cur->Calls prog gf (#[Iv x,Iv y]++lop) W1 fun e w'=>∃ z,e=.returned (Iv z)/\Bw W1 w')(z:Int) :
 Cl 136 #[.slice (some (Av g)) n cap,Iv 0,Iv (n:Nat),Iv z,.func (.func gf) #[] lop] W fun e w'=>e=.returned (.tuple #[])/\∃ c2,(c2.Perm cur/\c2.length=n)/\OwnI w' base (.slice (some (Av g)) n cap) c2/\Wr (· = g) W w':=by
 have HI:=Hd (U6 hown hl hn eg hcmp);obtain⟨P,hP⟩:=Ex (fun w'=>∃ c2,(c2.Perm cur/\c2.length=n)/\OwnI w' base (.slice (some (Av g)) n cap) c2/\Wr (· = g) W w':Wd->Prop)
 have e:(fun(e:Ending) (w':Wd)=>e=.returned (.tuple #[])/\∃ c2,(c2.Perm cur/\c2.length=n)/\OwnI w' base (.slice (some (Av g)) n cap) c2/\Wr (· = g) W w')=fun e w'=>e=.returned (.tuple #[])/\P w':=by rw[hP]
 rw[e] at HI ⊢;have g0:(n:Int)<=12:=by omega
 clear hP e hown hl hcmp
 go_enter func136,ntmps136
 go_wp2_with fail
 go_loopw [1,2,3] (fun s1 s2 s3 wr=>s1=Iv 0/\s2=Iv (n:Nat)/\s3=Iv z/\W=wr) (fun _ _ _ _=>0)
 case atStart=>exact⟨rfl,rfl,rfl,rfl⟩
 case round =>
  obtain⟨rfl,rfl,rfl,rfl⟩:=hrel;go_wp2_with fail;refine HI.o.mono ?_;rintro e w' ⟨rfl,hp⟩;have HP:=Hd hp;clear hp HI;go_wp2_with fail;refine Wu (Wy rfl _ _ _) rfl ?_;exact⟨rfl,HP.o⟩
theorem U9 (hown:OwnI W base (.slice (some (Av g)) n cap) cur)(hl:cur.length=n)(hn:n<=12)(eg:∀ args w,(callFunc gf args).run prog w=.ok (.enter gf args) w)(hcmp:∀ W1 x y,Wr (· = g) W W1->x∈cur->y∈cur->Calls prog gf (#[Iv x,Iv y]++lop) W1 fun e w'=>∃ z,e=.returned (Iv z)/\Bw W1 w') :
 Cl 87 #[.slice (some (Av g)) n cap,.func (.func gf) #[] lop] W fun e w'=>e=.returned (.tuple #[])/\∃ c2,(c2.Perm cur/\c2.length=n)/\OwnI w' base (.slice (some (Av g)) n cap) c2/\Wr (· = g) W w':=by
 have HI:=Hd (fun z=>U8 hown hl hn eg hcmp z);obtain⟨P,hP⟩:=Ex (fun w'=>∃ c2,(c2.Perm cur/\c2.length=n)/\OwnI w' base (.slice (some (Av g)) n cap) c2/\Wr (· = g) W w':Wd->Prop)
 have e:(fun(e:Ending) (w':Wd)=>e=.returned (.tuple #[])/\∃ c2,(c2.Perm cur/\c2.length=n)/\OwnI w' base (.slice (some (Av g)) n cap) c2/\Wr (· = g) W w')=fun e w'=>e=.returned (.tuple #[])/\P w':=by rw[hP]
 rw[e] at HI ⊢;have g0:=Hd (JF n (by omega) W);have g2:IntKind.u64.wrap (n:Int)=(n:Int):=by rw[IntKind.wrap_u64];omega
 clear hP e hown hl hcmp
 go_enter func87,ntmps87
 go_wp2_with fail;refine g0.o.mono ?_;rintro e w' ⟨⟨z,rfl⟩,rfl⟩;have g1:=Hd (HI.o z);clear HI g0;go_wp2_with fail;refine g1.o.mono ?_;rintro e w' ⟨rfl,hp⟩;have HP:=Hd hp;clear hp g1;go_wp2_with fail;refine WR (Wy rfl _ _ _) rfl ?_;exact⟨rfl,HP.o⟩
theorem UA (hown:OwnI W base (.slice (some (Av g)) n cap) cur)(hl:cur.length=n)(hn:n<=12)(z:Int) :
 Cl 149 #[.slice (some (Av g)) n cap,Iv 0,Iv (n:Nat),Iv z] W fun e w'=>e=.returned (.tuple #[])/\∃ c2,(c2.Perm cur/\c2.length=n/\BU n c2)/\OwnI w' base (.slice (some (Av g)) n cap) c2/\Wr (· = g) W w':=by
 have HI:=Hd (U7 hown hl hn);obtain⟨P,hP⟩:=Ex (fun w'=>∃ c2,(c2.Perm cur/\c2.length=n/\BU n c2)/\OwnI w' base (.slice (some (Av g)) n cap) c2/\Wr (· = g) W w':Wd->Prop)
 have e:(fun(e:Ending) (w':Wd)=>e=.returned (.tuple #[])/\∃ c2,(c2.Perm cur/\c2.length=n/\BU n c2)/\OwnI w' base (.slice (some (Av g)) n cap) c2/\Wr (· = g) W w')=fun e w'=>e=.returned (.tuple #[])/\P w':=by rw[hP]
 rw[e] at HI ⊢;have g0:(n:Int)<=12:=by omega
 clear hP e hown hl
 go_enter func149,ntmps149
 go_wp2_with fail
 go_loopw [1,2,3] (fun s1 s2 s3 wr=>s1=Iv 0/\s2=Iv (n:Nat)/\s3=Iv z/\W=wr) (fun _ _ _ _=>0)
 case atStart=>exact⟨rfl,rfl,rfl,rfl⟩
 case round =>
  obtain⟨rfl,rfl,rfl,rfl⟩:=hrel;go_wp2_with fail;refine HI.o.mono ?_;rintro e w' ⟨rfl,hp⟩;have HP:=Hd hp;clear hp HI;go_wp2_with fail;refine Wu (Wy rfl _ _ _) rfl ?_;exact⟨rfl,HP.o⟩
theorem UB (hown:OwnI W base (.slice (some (Av g)) n cap) cur)(hl:cur.length=n)(hn:n<=12) :
 Cl 97 #[.slice (some (Av g)) n cap] W fun e w'=>e=.returned (.tuple #[])/\∃ c2,(c2.Perm cur/\c2.length=n/\BU n c2)/\OwnI w' base (.slice (some (Av g)) n cap) c2/\Wr (· = g) W w':=by
 have HI:=Hd (fun z=>UA hown hl hn z);obtain⟨P,hP⟩:=Ex (fun w'=>∃ c2,(c2.Perm cur/\c2.length=n/\BU n c2)/\OwnI w' base (.slice (some (Av g)) n cap) c2/\Wr (· = g) W w':Wd->Prop)
 have e:(fun(e:Ending) (w':Wd)=>e=.returned (.tuple #[])/\∃ c2,(c2.Perm cur/\c2.length=n/\BU n c2)/\OwnI w' base (.slice (some (Av g)) n cap) c2/\Wr (· = g) W w')=fun e w'=>e=.returned (.tuple #[])/\P w':=by rw[hP]
 rw[e] at HI ⊢;have g0:=Hd (JF n (by omega) W);have g2:IntKind.u64.wrap (n:Int)=(n:Int):=by rw[IntKind.wrap_u64];omega
 clear hP e hown hl
 go_enter func97,ntmps97
 go_wp2_with fail;refine g0.o.mono ?_;rintro e w' ⟨⟨z,rfl⟩,rfl⟩;have g1:=Hd (HI.o z);clear HI g0;go_wp2_with fail;refine g1.o.mono ?_;rintro e w' ⟨rfl,hp⟩;have HP:=Hd hp;clear hp g1;go_wp2_with fail;refine WR (Wy rfl _ _ _) rfl ?_;exact⟨rfl,HP.o⟩
theorem N7 (W:Wd)(x y:Int):Am (W.alloc (.cells #[Iv x,Iv y] 3)) (some (Av W.heap.size)) [x,y]:=⟨by simp,fun i hi=>by
 refine⟨W.heap.size,0,rfl,?_⟩;rw[Wv,VR _ _ i _ _ _ (VT W _)];simp only[Wp,Xi] at hi;rcases(show i=0\/i=1 by omega) with rfl|rfl<;>rfl⟩
theorem UC {ba:Nat}{ats:List Int}(hc:W.cell? (Av ba)=some (.slice a n c))(hz:Am W a ats)(hl:ats.length=n)(hn:n<=64)(hx:x<n)(hy:y<n) :
 Cl 88 #[Iv (x:Nat),Iv (y:Nat),Pt ba] W fun e w'=>∃ z,e=.returned (Iv z)/\Bw W w':=by
 obtain⟨b,off,rfl,h1⟩:=hz.cells y (by omega);obtain⟨b2,off2,e,h2⟩:=hz.cells x (by omega);injection e with e
 injection e with e1 e2 _
 subst e1;subst e2
 obtain⟨v1,g6⟩:∃ v,v=at0 ats y:=⟨_,rfl⟩;obtain⟨v2,g5⟩:∃ v,v=at0 ats x:=⟨_,rfl⟩;rw[<- g6] at h1;rw[<- g5] at h2;obtain⟨wd,g0⟩:∃ w,w=W.drew:=⟨_,rfl⟩;have g8:Hq (Bw W wd):=Hd (by rw[g0];exact Aq W 1);have d0:wd.cell? (Av ba)=some (.slice (some (Aw b off)) n c):=by rw[g0];exact hc
 have e1:wd.cell? (Aw b (off+y))=some (Iv v1):=by rw[g0];exact h1
 have e2:wd.cell? (Aw b (off+x))=some (Iv v2):=by rw[g0];exact h2
 have g3:Hq (∀ W1,Bw wd W1->W1.cell? (Av ba)=some (.slice (some (Aw b off)) n c)/\W1.cell? (Aw b (off+y))=some (Iv v1)/\W1.cell? (Aw b (off+x))=some (Iv v2)):=Hd fun W1 hb=>⟨(Cq hb d0),(Cq hb e1),(Cq hb e2)⟩
 have g4:Hq (∀ p q w,Cl 90 #[Iv p,Iv q] w fun e w'=>∃ u,e=.returned u/\(∃ z,u=Iv z)/\w=w'):=Hd fun p q w=>(Yt Tryz.cmpInt p q w).mono fun e w' h=>⟨_,h.1,⟨_,rfl⟩,h.2.symm⟩
 have g9:Hq (∀ z1 z2,Am (wd.alloc (.cells #[Iv z1,Iv z2] 3)) (some (Av wd.heap.size)) [z1,z2]):=Hd fun z1 z2=>N7 wd z1 z2
 have g7:Hq (∀ z1 z2,Cl 89 #[.slice (some (Av wd.heap.size)) 2 2] (wd.alloc (.cells #[Iv z1,Iv z2] 3)) fun e w'=>∃ u,e=.returned u/\(∃ z,u=Iv z)/\wd.alloc (.cells #[Iv z1,Iv z2] 3)=w'):=Hd fun z1 z2=>(Lw (some (Av wd.heap.size)) 2 [z1,z2] _ (N7 wd z1 z2) (by simp)).mono fun e w' h=>⟨_,h.1,⟨_,rfl⟩,h.2.symm⟩
 have g2:Hq (∀ z1 z2,Bw W (wd.alloc (.cells #[Iv z1,Iv z2] 3))):=Hd fun z1 z2=>g8.o.alloc g8.o.size _
 have gc:(x:Int)<(n:Int):=by omega
 have ga:(y:Int)<(n:Int):=by omega
 have g1:=Hd g0;clear hc hz hl g6 g5 h1 h2 g0
 go_enter func88,ntmps88
 go_upto_region 1 with fail;refine EJ [0,1,2,3,4,5,6,7,9,10] (fun W1=>W1.cell? (Av ba)=some (.slice (some (Aw b off)) n c)/\W1.cell? (Aw b (off+y))=some (Iv v1)/\W1.cell? (Aw b (off+x))=some (Iv v2)) (fun ch w'=>False) (fun c a w hd h=>h.elim) (by kernel_rfl) (by rw[<- g1.o];exact⟨d0,e1,e2⟩) ?_;rw[<- g1.o]
 iterate 10
  refine DO rfl rfl (by kernel_rfl) ?_;apply Exists.intro;refine⟨fun w' hw=>?_,?_⟩
  . obtain⟨q1,q2,q3⟩:=hw;go_simp;rfl
  simp only[Ab]
 refine BT 8 (by kernel_rfl) rfl ?_;refine BO rfl (by go_simp) (g4.o v1 v2 wd) ?_;rintro u w' ⟨⟨z1,rfl⟩,rfl⟩;refine⟨⟨d0,e1,e2⟩,?_⟩;simp only[Ab];refine BT 11 (by kernel_rfl) rfl ?_;refine BO rfl (by go_simp) (g4.o (x:Nat) (y:Nat) wd) ?_;rintro u w' ⟨⟨z2,rfl⟩,rfl⟩;refine⟨⟨d0,e1,e2⟩,?_⟩;simp only[Ab];refine BT 12 (by kernel_rfl) rfl ?_;refine BP (v:=.slice (some (Av wd.heap.size)) 2 2) (w':=wd.alloc (.cells #[Iv z1,Iv z2] 3)) rfl (by go_simp) ⟨g3.o _ (Af wd _),?_⟩;simp only[Ab];refine BT 13 (by kernel_rfl) rfl ?_;refine BO rfl (by go_simp) (g7.o z1 z2) ?_;rintro u w' ⟨⟨z,rfl⟩,rfl⟩;refine⟨g3.o _ (Af wd _),?_⟩;simp only[Ab];refine DO (pl:=[]) (i:=14) rfl rfl (by kernel_rfl) ?_;apply Exists.intro;refine⟨fun w' hw=>?_,?_⟩
 . go_simp;rfl
 simp only[Ab];refine Cc (by kernel_rfl) ?_;have HF:=Hd (g2.o z1 z2);clear g3 g4 g9 g7 g2 g1 d0 e1 e2;go_wp2_with fail;go_ret;exact⟨⟨z,rfl⟩,HF.o⟩
theorem UD (args:Array Value)(w:Wd):(callFunc 88 args).run prog w=.ok (.enter 88 args) w:=XH func88 (by kernel_rfl) rfl args w
theorem UE (h:OwnC 3 w base v xs)(e:xs=Ao zs):OwnI w base v zs:=by
 subst e;unfold OwnC at h;unfold OwnI
 rwa [FF] at h
section
theorem UF (hB:As B)(hzr:Az zs=true)(hzl:zs.length=n)(hn1:1<=n)(hn12:n<=12)(hn:nx<=549755813888)(hr:3*(fs.length*2^n)<=room)(hl:∀ W o,B W o->ArgI w0 W o a ks)(hlen:Fs.length=ks.length)(hmm:∀ i (h:i<ks.length),(ks[i],Fs[i]'(by omega))∈fs)(hsz:Fs.length*2^n<=1000000000)(grow:Int)
 (h:FxO K n room w0 mb ws0 C o0 wb B (fun l=>l.map Int.ofNat=zs) fs nx W) :
 Cl 38 #[Pt mb,Iv grow,.slice a ks.length c] W fun e w'=>∃ zs',(Az zs'=true/\zs'.length=n)/\e=.returned (.tuple #[Iv (szO n Fs zs':Nat),Iv 0])/\szO n Fs zs'<=szO n Fs zs/\FxO K n room w0 mb ws0 C o0 wb B (fun l=>l.map Int.ofNat=zs') fs nx w':=by
 obtain⟨o,m,V,h1,h2,h3,h4⟩:=h;have gi:wb.heap.size<=W.heap.size/\w0.heap.size<=W.heap.size:=⟨h1.size,h3.chg.size⟩;obtain⟨sz,g3⟩:=Ex (szO n Fs:List Int->Nat);obtain⟨T,hT⟩:=Ex (fun z W'=>FxO K n room w0 mb ws0 C o0 wb (BfB o W) (fun l=>l.map Int.ofNat=z) fs nx W':List Int->Wd->Prop)
 obtain⟨TV,g1⟩:=Ex (fun v cur z W'=>FxO K n room w0 mb ws0 C o0 wb (fun W1 o1=>BfB o W W1 o1/\AA v cur W1 o1) (fun l=>l.map Int.ofNat=z) fs nx W':Value->List Int->List Int->Wd->Prop)
 obtain⟨Q,hQ⟩:=Ex (fun e w'=>∃ zs',(Az zs'=true/\zs'.length=n)/\e=.returned (.tuple #[Iv (szO n Fs zs':Nat),Iv 0])/\szO n Fs zs'<=szO n Fs zs/\FxO K n room w0 mb ws0 C o0 wb B (fun l=>l.map Int.ofNat=zs') fs nx w':Ending->Wd->Prop)
 have gd:Hq (∀ W' o',BfB o W W' o'->ArgI w0 W' o' a ks):=Hd fun W' o' hc=>hl _ _ (hB _ _ _ _ h4 hc)
 have gS:Hq (∀ v cur zs' w',Az zs'=true/\zs'.length=n->sz zs'<=sz zs->TV v cur zs' w'->Q (.returned (.tuple #[Iv (sz zs':Nat),Iv 0])) w'):=Hd fun v cur zs' w' q1 q2 q3=>by
  rw[g1] at q3;rw[hQ];rw[g3] at q2 ⊢;exact⟨zs',q1,rfl,q2,q3.withB fun o' _ _ _ hh=>hB _ _ _ _ h4 hh.1⟩
 have h0:T zs W:=by
  rw[hT];exact⟨o,m,V,h1,h2,h3,ChgX.of_below (VZ _ _) o NoB⟩
 have gN:Hq (Cl 86 #[Pt mb,.slice a ks.length c] W fun x w'=>∃ av cv ns,x=.returned (.tuple #[.slice av n cv,Iv 0])/\ns.length=n/\Am w' av ns/\T zs w'):=Hd (by
  rw[hT] at h0 ⊢;refine(h0.levels (c:=c) BfB.keep (fun W1 o1 h=>gd.o W1 o1 h) hlen hmm).mono ?_;rintro x w' ⟨v,ns,rfl,h1,⟨a1,c1,rfl,h2,_⟩,h3⟩;exact⟨a1,c1,ns,by rw[h1],h1,h2,h3.withB fun _ _ _ _ hh=>hh.1⟩)
 have gK:Hq (∀ W',T zs W'->Cl 19 #[Pt mb] W' fun x w'=>∃ g cap,x=.returned (.slice (some (Av g)) n cap)/\W'.heap.size<=g/\W.heap.size<=g/\OwnI w' W'.heap.size (.slice (some (Av g)) n cap) zs/\Bw W' w'/\TV (.slice (some (Av g)) n cap) zs zs w'):=Hd fun W' ht=>by
  rw[hT] at ht;rw[g1];have hz:W.heap.size<=W'.heap.size:=by obtain⟨_,_,_,_,_,_,hc⟩:=ht;exact hc.size
  refine(ht.order BfB.keep).mono ?_;rintro x w' ⟨v,l,rfl,_,hP,_,ho,hf,hb⟩;rw[hP] at ho hf;obtain⟨g,cap,rfl,hg,_⟩:=ho.shape (by omega);rw[hzl] at ho hf ⊢;exact⟨g,cap,rfl,hg,VU hz hg,ho,hb,hf.imp fun l' _ e=>by rw[e];exact hP⟩
 have gF:Hq (∀ (g cap:Nat) (cur:List Int) W' w',TV (.slice (some (Av g)) n cap) zs zs W'->W.heap.size<=g->Wr (· = g) W' w'->SliceIs w' (.slice (some (Av g)) n cap) cur->TV (.slice (some (Av g)) n cap) cur zs w'):=Hd fun g cap cur W' w' ht hg hw hs=>by
  rw[g1] at ht ⊢;refine ht.wrC hw (fun k e=>by subst e;exact .inr (VU gi.1 hg)) (fun k e=>by subst e;exact VU gi.2 hg) (fun o' hh k e=>by subst e;exact(hh.2.2 _ rfl).2) fun o' g6 hh=>⟨hh.1.wr hw fun k e=>by subst e;exact hg,hs,fun k hk=>⟨Wm (hh.2.2 k hk).1 hw.size,(hh.2.2 k hk).2⟩⟩
 have gG:Hq (∀ v cur z W' x,Az z=true/\z.length=n->TV v cur z W'->0<=x/\x<(n:Int)->Cl 32 #[Pt mb,Iv x,Iv grow,.slice a ks.length c] W' fun e w'=>∃ z2,e=.returned (.tuple #[Iv (sz z2:Nat),Iv 0])/\(Az z2=true/\z2.length=n)/\sz z2<=sz z/\TV v cur z2 w'):=Hd fun v cur z W' x hz ht hx=>by
  rw[g1] at ht ⊢;rw[g3];obtain⟨hm,hh,e⟩:=F7 hz.1 (x:=x.toNat) (by omega);have hv:at0 z hm=x:=by rw[e];omega
  refine(JE (BfB.keep.and AA.keep) hz.1 hz.2 (by omega) hn hr (fun W1 o1 h=>gd.o W1 o1 h.1) hlen hmm hsz grow hv ht).mono ?_;rintro e w' ⟨y,hy,rfl,q1,q2⟩;exact⟨_,rfl,⟨MV hz.1 _ _,by rw[C8];exact hz.2⟩,q1,q2⟩
 have gJ:Hq (∀ v cur z W',TV v cur z W'->Cl 65 #[Pt mb,.slice a ks.length c] W' fun e w'=>e=.returned (.tuple #[Iv (sz z:Nat),Iv 0])/\TV v cur z w'):=Hd fun v cur z W' ht=>by
  rw[g1] at ht ⊢;rw[g3];exact FxO.size (c:=c) (BfB.keep.and AA.keep) ht (fun W1 o1 h=>gd.o W1 o1 h.1) hlen hmm
 have h7:Hq (∀ v cur z W',TV v cur z W'->SliceIs W' v cur):=Hd fun v cur z W' ht=>by
  rw[g1] at ht;exact ht.know (Q:=fun W1=>SliceIs W1 v cur) fun W1 o1 hh=>hh.2.slice
 have gc:Hq (∀ x∈zs,0<=x/\x<(n:Int)):=Hd fun x hx=>by
  obtain⟨i,hi,rfl⟩:=Xp hx;have:=((Ce zs).1 hzr).1 i hi;rw[Au hi] at this;omega
 have g9:=Hd (show Az zs=true/\zs.length=n from ⟨hzr,hzl⟩);rw[<- hQ];clear hQ hT g1 g3 h0 h1 h2 h3 h4 hl hlen hmm hsz hr hB hzr hzl gi gd
 go_enter func38,ntmps38
 go_wp2_with fail;refine gN.o.mono ?_;rintro y w2 ⟨av,cv,ns,rfl,gz,hz,ht⟩;have gM:=Hd (gK.o w2 ht);have ha:=Hd gz;have HZ:=Hd hz;clear ht hz gz gN gK;go_wp2_with fail;refine gM.o.mono ?_;rintro y w3 ⟨g,cap,rfl,hJ,gZ,g5,gD,gu⟩;have gm:=Hd g5;have gH:=Hd gu;have h6:=Hd (HZ.o.below gD);have hI:g<w3.heap.size:=(g5.lt g rfl).2;clear g5 gu gD gM HZ;go_upto_region 6 with (at_make;refine Fi Fh rfl _ _ rfl w3.heap.size w3 _ n rfl rfl rfl (by omega) (VQ _) (VZ _ _) ?_;intro ga w4 g0 gj gV gX h5 gY)
 subst gY;obtain⟨ga,g7⟩:∃ q,q=w3.heap.size:=⟨_,rfl⟩;obtain⟨ba,g8⟩:∃ q,q=w4.heap.size:=⟨_,rfl⟩;rw[<- g7] at g0 ⊢;obtain⟨w5,g4⟩:∃ w,w=w4.alloc (.cells #[.slice (some (Av ga)) n n] 22):=⟨_,rfl⟩;have hL:ga<ba:=by have:=(g0.lt ga rfl).2;omega
 have gL:Hq (OwnI w5 ga (.slice (some (Av ga)) n n) (List.replicate n 0)):=Hd (by
  rw[g4];exact(UE g0 (by simp[Ao])).alloc _)
 have gQ:Hq (Below ga w3 w5):=Hd (by rw[g4];rw[<- g7] at gj;exact gj.alloc (by rw[<- g8];omega) _);have c5:w5.cell? (Av ba)=some (.slice (some (Av ga)) n n):=by rw[g4,g8];exact cell1 (VT w4 _)
 have gO:=Hd c5;rw[<- g8,<- g4];have gn:=Hd g7;have hD:g<ga:=by omega
 clear g4 g8 g7 gj gV gX h5 g0 c5;go_wp2_with fail
 go_loopw [12,13,34] (fun _ _ s34 wr=>∃ (i:Nat) (ats:List Int),i<=n/\s34=Iv (i:Nat)/\Hq (ats.length=n/\OwnI wr ga (.slice (some (Av ga)) n n) ats)/\Hq (Below ga w3 wr)/\Hq (wr.cell? (Av ba)=some (.slice (some (Av ga)) n n))) (fun _ _ s34 _=>n-(intOf s34).toNat)
 case atStart=>exact⟨0,_,Wb _,rfl,Hd ⟨by simp,gL.o⟩,gQ,gO⟩
 case round =>
  obtain⟨i,ats,hi,rfl,HA,HB,gp⟩:=hrel;clear gL gQ gO
  by_cases g6:i<n
  ·have hH:(i:Int)<(n:Int):=by omega
   have hb:=HB.o;rw[gn.o] at hb;have c1:wr.cell? (Aw g i)=some (Iv (at0 zs i)):=(gm.o.below hb).cell i (by rw[g9.o.2];exact g6);obtain⟨b,off,rfl,cz0⟩:=h6.o.cells i (by rw[ha.o];exact g6);have hK:b<ga:=by have h1:=Ag cz0;have h2:=gn.o;show b<ga;rw[h2];exact h1
   have cz:=Cq hb cz0;clear cz0;have hx:=gc.o (at0 zs i) (by rw[Au (show i<zs.length by rw[g9.o.2];exact g6)];exact Wh _);obtain⟨x,ge⟩:∃ x:Nat,at0 zs i=(x:Int):=⟨(at0 zs i).toNat,by omega⟩;obtain⟨e,he⟩:=Ex (at0 ns i);rw[ge] at c1;rw[<- he] at cz;have gT:x<n:=by rw[ge] at hx;omega
   have hE:(x:Int)<(n:Int):=by omega
   have cb:=gp.o;have ca:wr.drew.cell? (Aw ga x)=some (Iv (at0 ats x)):=HA.o.2.cell x (by rw[HA.o.1];exact gT);have fa:wr.drew.frozen? (Aw ga x)=false:=HA.o.2.frozen x;obtain⟨w6,g2⟩:∃ w,w=wr.drew.setCell (Aw ga x) (Iv e):=⟨_,rfl⟩;have hu:Hq ((ats.set x e).length=n/\OwnI w6 ga (.slice (some (Av ga)) n n) (ats.set x e)):=Hd ⟨by rw[Ws];exact HA.o.1,by rw[g2];exact(HA.o.2.drewN 1).stored x e⟩;have HB2:Hq (Below ga w3 w6):=Hd (by rw[g2];exact(Bj HB.o 1).setCell (VQ _) _);have go:Hq (w6.cell? (Av ba)=some (.slice (some (Av ga)) n n)):=Hd (by rw[g2];exact B9 cb (.inl (by omega)));have hp:Hq (w6.cell? (Aw b (off+i))=some (Iv e)):=Hd (by rw[g2];exact B9 cz (.inl (by omega)));have gg:=AR (P:=prog) Bf ca fa (v:=Iv e) rfl rfl;rw[<- g2] at gg;clear hb hx ge he ca fa g2;go_upto_region 9 with fail;refine EJ [0,1,2,3,4,5,6] (fun W1=>W1.cell? (Av ba)=some (.slice (some (Av ga)) n n)/\W1.cell? (Aw b (off+i))=some (Iv e)) (fun ch w'=>False) (fun c a w hd h=>h.elim) (by kernel_rfl) ⟨cb,cz⟩ ?_
   iterate 7
    refine DO rfl rfl (by kernel_rfl) ?_;apply Exists.intro;refine⟨fun w' hw=>?_,?_⟩
    . obtain⟨q1,q2⟩:=hw;go_simp;rfl
    simp only[Ab]
   refine Be (pl:=[]) (w':=w6) (i:=7) rfl (by kernel_rfl) rfl rfl (by go_simp<;>exact gg) ⟨go.o,hp.o⟩ ?_;simp only[Ab];refine Cc (by kernel_rfl) ?_;clear gg c1 cz cb;go_wp2_with fail;go_roundw
   case rel=>exact⟨i+1,ats.set x e,by omega,by go_num,hu,HB2,go⟩
   case measure=>simp[intOf];omega
  ·obtain rfl:i=n:=by omega
   have hC:¬ (i:Int)<(i:Int):=by omega
   obtain⟨wo,gU⟩:∃ w,w=wr:=⟨_,rfl⟩;subst gU;have hb:=HB.o;rw[gn.o] at hb
   have gI:=Hd (U9 (gm.o.below hb) g9.o.2 hn12 (gf:=88) (lop:=#[Pt ba]) UD (fun W1 x y hw hx hy=>by
    have hx:=gc.o x hx;have hy:=gc.o y hy;obtain⟨x,rfl⟩:∃ q:Nat,x=(q:Int):=⟨x.toNat,by omega⟩;obtain⟨y,rfl⟩:∃ q:Nat,y=(q:Int):=⟨y.toNat,by omega⟩;have gB:=gp.o;have hl:=HA.o.1;refine UC (a:=some (Av ga)) (ats:=ats) (n:=i) (c:=i) (Co gB (hw.keep ba (Ag gB) (by omega))) ⟨by omega,fun q hq=>⟨ga,0,rfl,?_⟩⟩ hl (by omega) (by omega) (by omega);have hc:=HA.o.2.cell q hq;rw[Wv];exact(Co hc (hw.keep ga (Ag hc) (by omega)))))
   have hF:∀ (fn:Fn) (first cap:Array Value) (w:Wd),(Instr.makeFunc fn first cap).run prog w=.ok (.func fn first cap) w:=fun _ _ _ _=>rfl
   have gP:=Hd hb;clear hb;go_wp2_with fail;refine gI.o.mono ?_;rintro y w7 ⟨rfl,c2,⟨hp2,gA⟩,gy,gt⟩;have gk:=Hd (gF.o g cap c2 w3 w7 gH.o gZ ((Wr.of_below gP.o (· = g)).trans gt (fun _ _ h=>h) (fun _ _ h=>h)) (by have:=gy.sliceIs (by omega);exact this));have gl:=Hd (show (∀ x∈c2,0<=x/\x<(i:Int))/\c2.length=i from ⟨fun x hx=>gc.o x (hp2.mem_iff.1 hx),gA⟩);clear hp2 gA gy gt gI HA HB gp gP gm gH gF;go_wp2_with fail
   go_loopw [15,16,17,52] (fun _ _ _ s52 wr=>∃ (j:Nat) (z:List Int),j<=i/\s52=Iv (j:Nat)/\Hq (Az z=true/\z.length=i)/\Hq (sz z<=sz zs)/\Hq (TV (.slice (some (Av g)) i cap) c2 z wr)) (fun _ _ _ s52 _=>i-(intOf s52).toNat)
   case atStart=>exact⟨0,zs,Wb _,rfl,g9,Hd (VQ _),gk⟩
   case round =>
    obtain⟨j,z,hj,rfl,gE,HSZ,HT⟩:=hrel;clear gk
    by_cases gh:j<i
    ·have hG:(j:Int)<(i:Int):=by omega
     obtain⟨a9,c9,e9,gq,_⟩:=h7.o _ _ _ _ HT.o;injection e9 with e9 q9 r9
     subst e9;clear q9 r9;obtain⟨b9,off9,e8,gC⟩:=gq.cells j (by rw[gl.o.2];exact gh);injection e8 with e8
     injection e8 with e1 e2 _
     subst e1;subst e2
     obtain⟨x,hx⟩:=Ex (at0 c2 j);rw[<- hx,Wv] at gC;have HV:=Hd (gG.o _ _ z wr x gE.o HT.o (gl.o.1 x (by rw[hx,Au (show j<c2.length by rw[gl.o.2];exact gh)];exact Wh _)));clear gq hx HT;go_wp2_with fail;refine HV.o.mono ?_;rintro y w8 ⟨z2,rfl,gr,gx,gw⟩;have gR:=Hd gr;have h9:=Hd (VU gx HSZ.o);have h8:=Hd gw;clear gr gx gw HV gC;go_wp2_with fail;go_roundw
     case rel=>exact⟨j+1,z2,by omega,by go_num,gR,h9,h8⟩
     case measure=>simp[intOf];omega
    ·obtain rfl:j=i:=by omega
     have hA:¬ (j:Int)<(j:Int):=by omega
     have HS:=Hd (gJ.o _ _ z wr HT.o);clear HT gG gJ;go_wp2_with fail;refine HS.o.mono ?_;rintro y w9 ⟨rfl,gv⟩;have HF:=Hd (gS.o _ _ z w9 gE.o HSZ.o gv);clear gv HS;go_wp2_with fail
     first|exact HF.o|(go_ret2;exact HF.o)|(refine Wu (Yj rfl _ _ _) rfl ?_;exact HF.o)
end
end Go.Proofs.YtkidaindpahefaaGreat

namespace Go.Proofs
open Go.Proofs.Tryz
open Go.Shelf
def Tryz.laysNm223_ren:Go.Shelf.Ren:=⟨fun|23=>133|n=>n,fun|22=>22|3=>3|4=>4|0=>0|n=>n,fun|n=>n⟩
theorem Tryz.laysNm223:Go.Proofs.Lays2.n23 prog Tryz.laysNm223_ren:={
 mixed:=by kernel_rfl
 f23:=func133.trans (congrArg some (by kernel_rfl))
 t0:=underlying0
 a0:=Tryz.isAgg0
 z0:=Tryz.sizeOf0
 v0:=zeroValue0
 t3:=underlying3
 a3:=Tryz.isAgg3
 z3:=Tryz.sizeOf3
 v3:=zeroValue3
 t4:=underlying4
 a4:=Tryz.isAgg4
 z4:=Tryz.sizeOf4
 v4:=zeroValue4
 t22:=underlying22
 a22:=Tryz.isAgg22
 z22:=Tryz.sizeOf22
 v22:=zeroValue22
 i3:=by kernel_rfl }
open Go.RowKit Go.Lib Go.Sort in
theorem Tryz.slices_Delete_int_cells (b off n c i j:Nat)(zs:List Int)(w:World)(hz:n<=zs.length)(hcap:n<=c)(hm:c<=9223372036854775807)(hij:i<=j)(hj:j<=n)(hc:∀ j,j<zs.length->w.cell? ⟨b,off+j,none⟩=some (.int .i64 (zs.getD j 0)))(hf:∀ j,j<n->w.frozen? ⟨b,off+j,none⟩=false) :
 Calls prog 133 #[.slice (some ⟨b,off,none⟩) n c,.int .i64 i,.int .i64 j] w fun e w'=>e=.returned (.slice (some ⟨b,off,none⟩) (n-(j-i)) c)/\∃ q,w'=(w.drewN q).setCells b off (((zs.take n).take i++(zs.take n).drop j++List.replicate (j-i) 0).map (Value.int .i64)):=Any.slices_Delete_int_cells Tryz.laysNm223 b off n c i j zs w hz hcap hm hij hj hc hf
end Go.Proofs

namespace Go.Proofs.YtkidaindpahefaaGreat
open Go.Proofs.Tryz
open Go.RowKit
variable {a:Option Addr}{b base f n:Nat}{st:Nat×List Int}{v vb:Value}{w:Wd}{ys zs:List Int}
def lexI:List Int->List Int->Bool
 | x::r,y::s=>decide (x<y)||(decide (x=y)&&lexI r s)
 | [],_::_=>true
 | _,[]=>false
theorem Dz (x y:Int)(r s:List Int):lexI (x::r) (y::s)=true↔x<y\/x=y/\lexI r s=true:=by
 show (decide (x<y)||(decide (x=y)&&lexI r s))=true↔_
 simp
theorem N8:∀ a b:List Int,lexI a b=true->lexI b a=true->False
 | x::r,y::s,h1,h2=>by
   rcases(Dz _ _ _ _).1 h1 with h1|⟨e,h1⟩<;>rcases(Dz _ _ _ _).1 h2 with h2|⟨_,h2⟩
   . omega
   . omega
   . omega
   . exact N8 r s h1 h2
 | [],_::_,_,h2=>by simp[lexI] at h2
 | [],[],h1,_=>by simp[lexI] at h1
 | _::_,[],h1,_=>by simp[lexI] at h1
theorem N9:∀ a b c:List Int,lexI a b=true->lexI b c=true->lexI a c=true
 | x::r,y::s,z::t,h1,h2=>by
   rw[Dz] at h1 h2 ⊢;rcases h1 with h1|⟨e1,h1⟩<;>rcases h2 with h2|⟨e2,h2⟩
   . exact .inl (by omega)
   . exact .inl (by omega)
   . exact .inl (by omega)
   . exact .inr ⟨by omega,N9 r s t h1 h2⟩
 | [],_,_::_,_,_=>rfl
 | _::_,[],_,h1,_=>by simp[lexI] at h1
 | _,_::_,[],_,h2=>by simp[lexI] at h2
 | [],[],[],h1,_=>by simp[lexI] at h1
theorem NA:∀ a b:List Int,lexI a b=true\/a=b\/lexI b a=true
 | [],[]=>.inr (.inl rfl)
 | [],_::_=>.inl rfl
 | _::_,[]=>.inr (.inr rfl)
 | x::r,y::s=>by
   rw[Dz,Dz];rcases Int.lt_trichotomy x y with h|h|h
   . exact .inl (.inl h)
   ·subst h;rcases NA r s with h|h|h
    . exact .inl (.inr ⟨rfl,h⟩)
    . exact .inr (.inl (by rw[h]))
    . exact .inr (.inr (.inr ⟨rfl,h⟩))
   . exact .inr (.inr (.inl h))
theorem NB:∀ b x y:List Int,lexI (b++x) (b++y)=lexI x y
 | [],x,y=>rfl
 | v::b,x,y=>by
   show (decide (v<v)||(decide (v=v)&&lexI (b++x) (b++y)))=_
   rw[NB b x y];simp
def ordR:Nat->Nat->List Int->List (List Int)
 | 0,_,b=>[b]
 | k+1,n,b=>(List.range n).flatMap fun v:Nat=>if (v:Int)∈b then [] else ordR k n (b++[(v:Int)])
def ordL:Nat->List Int->List Int->List (List Int)
 | 0,b,_=>[b]
 | k+1,b,l=>l.flatMap fun v=>ordL k (b++[v]) (l.filter fun x=>decide (x≠v))
def EM (n:Nat)(b:List Int):List Int:=((List.range n).map Int.ofNat).filter fun x=>decide (x∉b)
theorem NC {α β:Type}(p:α->Bool)(g:α->List β):∀ l:List α,(l.filter p).flatMap g=l.flatMap fun x=>if p x then g x else []
 | []=>rfl
 | x::l=>by
   rw[Yf,X1,<- NC p g l];cases p x<;>simp
theorem ND (n:Nat):∀ (k:Nat) (b:List Int),ordL k b (EM n b)=ordR k n b
 | 0,_=>rfl
 | k+1,b=>by
   show (EM n b).flatMap _=(List.range n).flatMap _
   unfold EM;rw[NC,List.flatMap_map];congr 1;funext v
   by_cases h:(v:Int)∈b
   . have h':Int.ofNat v∈b:=h;simp[h,h']
   . have h':Int.ofNat v∉b:=h;rw[VW (by simpa using h'),VS h,<- ND n k];congr 1;unfold EM;rw[List.filter_filter];congr 1;funext x;simp only[Wj,Wf,not_or,<- Bool.decide_and];congr 1;exact propext ⟨fun⟨h1,h2⟩=>⟨h2,h1⟩,fun⟨h1,h2⟩=>⟨h2,h1⟩⟩
theorem JG (n:Nat):∀ (k:Nat) (b t:List Int),t∈ordR k n b->∃ r,t=b++r
 | 0,b,t,h=>⟨[],by rw[WX];exact Wf.1 h⟩
 | k+1,b,t,h=>by
   obtain⟨v,_,hv⟩:=XS.1 h;split at hv
   . cases hv
   . obtain⟨r,e⟩:=JG n k _ t hv;exact⟨(v:Int)::r,by rw[e,Wl];rfl⟩
theorem NE (n:Nat):∀ (k:Nat) (b:List Int),(ordR k n b).Pairwise fun x y=>lexI x y=true
 | 0,b=>List.pairwise_singleton _ _
 | k+1,b=>by
   refine List.pairwise_flatMap.2 ⟨fun v _=>?_,(List.pairwise_lt_range (n:=n)).imp fun {v u} hvu x hx y hy=>?_⟩
   ·split
    . exact List.Pairwise.nil
    . exact NE n k _
   ·split at hx
    . cases hx
    split at hy
    . cases hy
    obtain⟨r,rfl⟩:=JG n k _ x hx;obtain⟨s,rfl⟩:=JG n k _ y hy;rw[Wl,Wl,NB];exact(Dz _ _ _ _).2 (.inl (by omega))
def PreP (n:Nat)(b:List Int):Prop:=b.Nodup/\∀ x∈b,0<=x/\x<(n:Int)
theorem PreP.snoc {b:List Int}(h:PreP n b){v:Int}(hv:v∉b)(h1:0<=v/\v<(n:Int)):PreP n (b++[v]):=by
 refine⟨WJ.2 ⟨h.1,by simp,fun x hx y hy e=>?_⟩,fun x hx=>?_⟩
 . rw[Wf.1 hy] at e;exact hv (e ▸ hx)
 ·rcases Wj.1 hx with hx|hx
  . exact h.2 x hx
  . rw[Wf.1 hx];exact h1
theorem FB (n:Nat):∀ (k:Nat) (b t:List Int),PreP n b->t∈ordR k n b->PreP n t/\t.length=b.length+k
 | 0,b,t,hb,h=>by rw[Wf.1 h];exact⟨hb,rfl⟩
 | k+1,b,t,hb,h=>by
   obtain⟨v,hv,h2⟩:=XS.1 h;split at h2
   . cases h2
   ·rename_i hnb
    have:=XV.1 hv;obtain⟨q1,q2⟩:=FB n k _ t (hb.snoc hnb ⟨by omega,by omega⟩) h2;refine⟨q1,?_⟩;rw[q2,VY,Xm];omega
theorem FC (n:Nat):∀ (k:Nat) (b r:List Int),PreP n (b++r)->r.length=k->b++r∈ordR k n b
 | 0,b,r,_,hr=>by
   rw[Yd.1 hr,WX];exact Wf.2 rfl
 | k+1,b,[],_,hr=>by simp at hr
 | k+1,b,x::r,h,hr=>by
   have hx:=h.2 x (by simp);refine XS.2 ⟨x.toNat,XV.2 (by omega),?_⟩;have e:((x.toNat:Nat):Int)=x:=by omega
   rw[e,VS]
   . have:=FC n k (b++[x]) r (by rw[Wl];exact h) (by simpa using hr);rw[Wl] at this;exact this
   . intro hm;exact(WJ.1 h.1).2.2 x hm x (by simp) rfl
theorem FD {t:List Int}(h:PreP n t)(hl:t.length=n):Az t=true:=by
 rw[Ce];refine⟨fun i hi=>?_,fun i hi j hj e=>?_⟩
 . rw[Au hi];have:=h.2 _ (Wh hi);omega
 . rw[Au hi,Au (show j<t.length by omega)] at e;exact XF.1 h.1 j i (by omega) hi hj e
theorem DP {t:List Int}(h:Az t=true)(hl:t.length=n):PreP n t:=by
 have h1:=(Ce t).1 h;refine⟨XF.2 fun i j hi hj g0 e=>?_,fun x hx=>?_⟩
 . have:=h1.2 j hj i g0;rw[Au hi,Au hj] at this;exact this e
 . obtain⟨i,hi,rfl⟩:=Xp hx;have:=h1.1 i hi;rw[Au hi] at this;omega
section
variable (sz:List Int->Nat)
def Cd (st:Nat×List Int)(t:List Int):Nat×List Int:=if sz t<st.1\/sz t=st.1/\lexI t st.2=true then (sz t,t) else st
def Cn (st:List Int×Nat)(t:List Int):List Int×Nat:=if sz t<st.2 then (t,sz t) else st
def CQ (M:List Int->Prop)(b:Nat)(o:List Int):Prop:=M o/\sz o=b/\∀ t,M t->b<=sz t/\(sz t=b->t=o\/lexI o t=true)
theorem NF {M:List Int->Prop}{b':Nat}{o o':List Int}(h:CQ sz M b o)(h':CQ sz M b' o'):b=b'/\o=o':=by
 have e:b=b':=by
  have h1:=(h.2.2 o' h'.1).1;have h2:=(h'.2.2 o h.1).1;rw[h'.2.1] at h1;rw[h.2.1] at h2;omega
 refine⟨e,?_⟩;rcases(h.2.2 o' h'.1).2 (by rw[h'.2.1,e]) with h1|h1
 . exact h1.symm
 ·rcases(h'.2.2 o h.1).2 (by rw[h.2.1,e]) with h2|h2
  . exact h2
  . exact(N8 _ _ h1 h2).elim
theorem UG {M:List Int->Prop}(h:CQ sz M st.1 st.2)(t:List Int):CQ sz (fun x=>M x\/x=t) (Cd sz st t).1 (Cd sz st t).2:=by
 unfold Cd;split
 ·rename_i hc
  refine⟨.inr rfl,rfl,fun x hx=>?_⟩;rcases hx with hx|rfl
  ·have:=h.2.2 x hx;rcases hc with hc|⟨hc,hl⟩
   . exact⟨by dsimp only;omega,fun e=>by dsimp only at e;omega⟩
   ·refine⟨by dsimp only;omega,fun e=>?_⟩;dsimp only at e;rcases this.2 (by omega) with e2|e2
    . rw[e2];exact .inr hl
    . exact .inr (N9 _ _ _ hl e2)
  . exact⟨VQ _,fun _=>.inl rfl⟩
 ·rename_i hc
  refine⟨.inl h.1,h.2.1,fun x hx=>?_⟩;rcases hx with hx|rfl
  . exact h.2.2 x hx
  ·refine⟨by omega,fun e=>?_⟩;rcases NA x st.2 with e2|e2|e2
   . exact absurd (.inr ⟨e,e2⟩) hc
   . exact .inl e2
   . exact .inr e2
theorem UH (l:List (List Int)){M:List Int->Prop}(h:CQ sz M st.1 st.2):CQ sz (fun x=>M x\/x∈l) (l.foldl (Cd sz) st).1 (l.foldl (Cd sz) st).2:=by
 induction l generalizing M st with
 | nil=>simpa using h
 | cons t l ih =>
   have:=ih (UG sz h t);rw[Yy];refine⟨?_,this.2.1,fun x hx=>this.2.2 x ?_⟩
   ·rcases this.1 with (h1|h1)|h1
    . exact .inl h1
    . exact .inr (by rw[h1];exact WM ..)
    . exact .inr (Xx _ h1)
   ·rcases hx with h1|h1
    . exact .inl (.inl h1)
    ·rcases WT.1 h1 with h1|h1
     . exact .inl (.inr h1)
     . exact .inr h1
theorem UI (l:List (List Int)){M:List Int->Prop}{st:List Int×Nat}(h:CQ sz M st.2 st.1)(hp:l.Pairwise fun x y=>lexI x y=true)(hm:∀ x,M x->∀ y∈l,lexI x y=true):CQ sz (fun x=>M x\/x∈l) (l.foldl (Cn sz) st).2 (l.foldl (Cn sz) st).1:=by
 induction l generalizing M st with
 | nil=>simpa using h
 | cons t l ih =>
   have hs:CQ sz (fun x=>M x\/x=t) (Cn sz st t).2 (Cn sz st t).1:=by
    unfold Cn;split
    ·rename_i hc
     refine⟨.inr rfl,rfl,fun x hx=>?_⟩;rcases hx with hx|rfl
     . have:=h.2.2 x hx;exact⟨by dsimp only;omega,fun e=>by dsimp only at e;omega⟩
     . exact⟨VQ _,fun _=>.inl rfl⟩
    ·rename_i hc
     refine⟨.inl h.1,h.2.1,fun x hx=>?_⟩;rcases hx with hx|rfl
     . exact h.2.2 x hx
     . exact⟨by omega,fun e=>.inr (hm _ h.1 _ (WM ..))⟩
   have:=ih hs (Y3.1 hp).2 fun x hx y hy=>by
    rcases hx with hx|rfl
    . exact hm x hx y (Xx _ hy)
    . exact(Y3.1 hp).1 y hy
   rw[Yy];refine⟨?_,this.2.1,fun x hx=>this.2.2 x ?_⟩
   ·rcases this.1 with (h1|h1)|h1
    . exact .inl h1
    . exact .inr (by rw[h1];exact WM ..)
    . exact .inr (Xx _ h1)
   ·rcases hx with h1|h1
    . exact .inl (.inl h1)
    ·rcases WT.1 h1 with h1|h1
     . exact .inl (.inr h1)
     . exact .inr h1
def Cy (n:Nat)(o0:List Int):Nat×List Int:=(ordR n n []).foldl (Cd sz) (sz o0,o0)
theorem FE {o0:List Int}(h:PreP n o0)(hl:o0.length=n):CQ sz (fun x=>x∈ordR n n []) (Cy sz n o0).1 (Cy sz n o0).2:=by
 have h0:CQ sz (fun x=>x=o0) (sz o0) o0:=⟨rfl,rfl,fun t e=>by rw[e];exact⟨VQ _,fun _=>.inl rfl⟩⟩;have hm:o0∈ordR n n []:=FC n n [] o0 h hl;have:=UH sz (ordR n n []) (st:=(sz o0,o0)) h0;refine⟨?_,this.2.1,fun x hx=>this.2.2 x (.inr hx)⟩;rcases this.1 with e|e
 ·show (List.foldl (Cd sz) (sz o0,o0) (ordR n n [])).2∈_
  rw[e];exact hm
 . exact e
theorem UJ {o0 t0:List Int}{r:List (List Int)}(h:PreP n o0)(hl:o0.length=n)(he:ordR n n []=t0::r):Cy sz n o0=((r.foldl (Cn sz) (t0,sz t0)).2,(r.foldl (Cn sz) (t0,sz t0)).1):=by
 have h1:=FE sz h hl;have hp:=NE n n [];rw[he] at hp h1;have h2:=UI sz r (M:=fun x=>x=t0) (st:=(t0,sz t0)) ⟨rfl,rfl,fun t e=>by rw[e];exact⟨VQ _,fun _=>.inl rfl⟩⟩ (Y3.1 hp).2 fun x e y hy=>by rw[e];exact(Y3.1 hp).1 y hy
 have h3:CQ sz (fun x=>x∈t0::r) (r.foldl (Cn sz) (t0,sz t0)).2 (r.foldl (Cn sz) (t0,sz t0)).1 :=
  ⟨WT.2 h2.1,h2.2.1,fun x hx=>h2.2.2 x (WT.1 hx)⟩
 obtain⟨e1,e2⟩:=NF sz h1 h3;exact Prod.ext e1 e2
end
theorem NG (h:SliceIs w v zs)(hlen:zs.length<1000000) :
 Cl 96 #[v] w fun e w'=>∃ v',e=.returned v'/\OwnI w' w.heap.size v' zs/\Bw w w':=by
 obtain⟨a,c,rfl,hz,hn⟩:=h;have HZ:=Hd hz;have q22:∀ (w:Wd) (a:Option Addr) (n c:Nat),(binOp .eql 22 (.slice a n c) (.slice none 0 0)).run prog w=.ok (.bool a.isNone) w:=fun w a n c=>Lib.run_eql_slice_nil w _ _ a n c 0 0 rfl
 cases a with
 | none =>
   have g2:zs=[]:=by
    cases zs with
    | nil=>rfl
    | cons x r=>obtain⟨b,off,e,_⟩:=hz.cells 0 (by simp);cases e
   subst g2;obtain rfl:=hn rfl;clear hz hn HZ
   go_enter func96,ntmps96
   go_wp2_with fail;go_ret;exact⟨_,rfl,D0 _ _,VZ _ _⟩
 | some p =>
   clear hz
   go_enter func96,ntmps96
   go_wp2_with (at_builtin;refine EQ rfl _ _ rfl w.heap.size w _ [] zs (some p) c rfl rfl (DR w w.heap.size (VQ _)) (HZ.o.below (Af _ _)) (by simp;omega) (by simp) (Af _ _) (fun e=>by cases e) ?_;intro v1 w1 g0 g1 g3 g4);go_ret;exact⟨_,rfl,by simpa using g0,g1⟩
theorem Am.prf (h:Am w a zs)(m:Nat):Am w a (zs.take m):=⟨by have:=h.len;rw[X9];omega,fun j hj=>by
 rw[X9] at hj;obtain⟨b,off,e,hc⟩:=h.cells j (by omega);exact⟨b,off,e,by rw[GG (by omega)];exact hc⟩⟩
theorem UK (h:OwnI w base v zs)(hf:f<zs.length)(hn:zs.length<1000000) :
 Cl 133 #[v,Iv f,Iv ((f:Int)+1)] w fun e w'=>∃ v',e=.returned v'/\SliceIs w' v' (zs.take f++zs.drop (f+1))/\(∀ k,v'.ownBlock=some k->base<=k/\k<w'.heap.size)/\(base<=w.heap.size->Below base w w'):=by
 have h0:=h;rcases h.2 with ⟨_,h1⟩|⟨g,cap,cur,hv,hb,g3,g2,g4,g6,_⟩
 . omega
 ·subst hv;have g1:cap<=9223372036854775807:=by unfold maxLen at g4;omega
  have g0:=Tryz.slices_Delete_int_cells g 0 zs.length cap f (f+1) zs w (VQ _) g2 g1 (by omega) (by omega) (fun j hj=>by rw[Wv];exact h0.cell j hj) (fun j hj=>by rw[Wv];exact h0.frozen j);rw[show ((f+1:Nat):Int)=(f:Int)+1 by omega,show f+1-f=1 by omega,W9] at g0;refine g0.mono fun e w' ⟨he,q,hw⟩=>⟨_,he,?_,?_,fun g5=>?_⟩
  ·subst hw;have:=OwnI.setCells (zs.take f++zs.drop (f+1)++[0]) (w.drewN q) 0 zs (h0.drewN q) (by simp;omega);have e:zs.drop (0+(zs.take f++zs.drop (f+1)++[0]).length)=[]:=WY (by simp;omega);rw[e,Ys,WQ,WX] at this;have hl:(zs.take f++zs.drop (f+1)).length=zs.length-1:=by simp;omega
   have hi:=(this.intsAt (by simp;omega)).prf (zs.length-1);have et:((zs.take f++zs.drop (f+1))++[0]).take (zs.length-1)=zs.take f++zs.drop (f+1):=by rw[<- hl];exact List.take_left
   rw[et] at hi;exact⟨some (Av g),cap,by rw[hl],hi,fun e=>by cases e⟩
  ·intro k hk;injection hk with hk
   subst hk;have:g<w'.heap.size:=by
    subst hw;have h2:=(VP.1 g3).1;have h3:=(Jk (B:=0) (a:=w) (g:=g) (Wb _) ((zs.take f++zs.drop (f+1)++List.replicate 1 0).map (Value.int .i64)) (w.drewN q) 0 (Bj (VZ _ _) q)).size;omega
   exact⟨hb,this⟩
  . subst hw;exact Jk hb _ _ _ (Bj (VZ _ _) _)
theorem UL {va:Value}{xs:List Int}(h1:SliceIs w va xs)(h2:SliceIs w vb ys)(hl:ys.length=xs.length)(hn:xs.length<=1000) :
 Cl 84 #[va,vb] w fun e w'=>(∃ z,e=.returned (Iv z)/\(z<0↔lexI xs ys=true))/\w=w':=by
 obtain⟨a,c,rfl,hx,_⟩:=h1;obtain⟨b,d,rfl,hy,_⟩:=h2;have HX:=Hd hx;have HY:=Hd hy;have HL:=Hd hl;obtain⟨L,hL⟩:=Ex xs.length;have g4:=Hd hL;rw[hl,<- hL];have ga:Hq (∀ p q w,Cl 90 #[Iv p,Iv q] w fun e w'=>e=.returned (Iv (Lib.compareInt p q))/\w'=w):=Hd fun p q w=>Yt Tryz.cmpInt p q w
 have gc:L<=1000:=by rw[hL];exact hn
 clear hx hy hl hL
 go_enter func84,ntmps84
 go_wp2_with fail
 go_loopw [5,6,7,8,11] (fun _ _ _ _ s11 wr=>∃ i:Nat,i<=L/\s11=Iv (i:Nat)/\Hq (w=wr)/\Hq (lexI xs ys=lexI (xs.drop i) (ys.drop i))) (fun _ _ _ _ s11 _=>L-(intOf s11).toNat)
 case atStart=>exact⟨0,Wb _,rfl,Hd rfl,Hd (by rw[List.drop_zero,List.drop_zero])⟩
 case round =>
  obtain⟨i,hi,rfl,HW,HI⟩:=hrel;obtain rfl:=HW.o
  by_cases g5:i<L
  ·have g6:=g4.o;obtain⟨g1,o1,ea,g9⟩:=HX.o.cells i (by omega);obtain⟨g2,o2,eb,g8⟩:=HY.o.cells i (by have:=HL.o;omega);subst ea;subst eb
   have HD:Hq (lexI xs ys=lexI (at0 xs i::xs.drop (i+1)) (at0 ys i::ys.drop (i+1))):=Hd (by rw[HI.o,D1 (zs:=xs) (k:=i) (by omega),D1 (zs:=ys) (k:=i) (by have:=HL.o;omega)]);obtain⟨x,hx⟩:=Ex (at0 xs i);obtain⟨y,hy⟩:=Ex (at0 ys i);rw[<- hx] at g9;rw[<- hy] at g8;have g3:Hq (lexI xs ys=lexI (x::xs.drop (i+1)) (y::ys.drop (i+1))):=Hd (by rw[HD.o,hx,hy]);clear HD hx hy g6;go_wp2_with fail;refine(ga.o x y w).mono ?_;rintro e w' ⟨rfl,rfl⟩;rcases Int.lt_trichotomy x y with g0|g0|g0
   ·have ec:Lib.compareInt x y = -1:=by unfold Lib.compareInt;rw[VW g0]
    rw[ec];have HG:Hq (lexI xs ys=true):=Hd (g3.o.trans ((Dz _ _ _ _).2 (.inl g0)));clear g0 ec g3;go_wp2_with fail;go_ret;exact⟨⟨-1,rfl,by simp[HG.o]⟩,rfl⟩
   ·have ec:Lib.compareInt x y=0:=by unfold Lib.compareInt;rw[VS (by omega),VS (by omega)]
    rw[ec];have HG:Hq (lexI xs ys=lexI (xs.drop (i+1)) (ys.drop (i+1))):=Hd (g3.o.trans (by rw[Yn,Dz];simp[g0]));clear g0 ec g3;go_wp2_with fail;go_roundw
    case rel=>exact⟨i+1,g5,by go_num,Hd trivial,HG⟩
    case measure=>simp[intOf];omega
   ·have ec:Lib.compareInt x y=1:=by unfold Lib.compareInt;rw[VS (by omega),VW g0]
    rw[ec]
    have HG:Hq (lexI xs ys=false):=Hd (g3.o.trans (by cases h:lexI (x::xs.drop (i+1)) (y::ys.drop (i+1)) with
     | false=>rfl
     | true=>rcases(Dz _ _ _ _).1 h with h|⟨h,_⟩<;>omega))
    clear g0 ec g3;go_wp2_with fail;go_ret;exact⟨⟨1,rfl,by simp[HG.o]⟩,rfl⟩
  ·have g7:i=L:=by omega
   subst g7
   have HG:Hq (lexI xs ys=false):=Hd (by
    rw[HI.o,WY (by rw[<- g4.o];exact VQ _),WY (by rw[HL.o,<- g4.o];exact VQ _)];rfl)
   clear g5 hi HI;go_wp2_with fail;go_ret;exact⟨⟨0,rfl,by simp[HG.o]⟩,rfl⟩
end Go.Proofs.YtkidaindpahefaaGreat
