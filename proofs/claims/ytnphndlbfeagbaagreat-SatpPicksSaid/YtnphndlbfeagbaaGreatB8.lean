/- Several texts in one file: contracts of the program's functions and what follows from them. -/
import Derived.Test.YtnphndlbfeagbaaGreatB7
import Derived.Maps.RangeRun
set_option linter.all false
set_option maxRecDepth 100000
set_option maxHeartbeats 8000000
namespace Go.Proofs.YtnphndlbfeagbaaGreat
open Go.Proofs.Tryz
open Go.RowKit
variable {A:Af->(Nat->BF)->Nat->Prop}{B:Wd->Own->Prop}{Bwz:Wd->Prop}{C:Nat->Prop}{F G:BF}{Fs:List BF}{K:Law}{Od:List Nat->Prop}{Q:Exit->Act->Wd->Prop}{V V':Nat->BF}{W W' w w' w0 w1 w2 wB wb:Wd}{a:Act}{args lop:Array Value}{b bf bl bn c f g gf i j k lo mb n off r room sb x xb:Nat}{bs:List Bool}{d:Af}{fs fs':List (Int×BF)}{fv v v':Value}{fx:Nat->Option Bool}{kf nx nx' op:Int}{ks zs:List Int}{ls:List (Int×Bool)}{m m':ManD}{o' o0:Own}{ops:Array Oper}{os pre vs:List Nat}{rest:List Oper}{t:TypeId}{ws0:List Ev}
def Vy (args:Array Value)(w:Wd):(callFunc 141 args).run prog w=.ok (.enter 141 args) w:=YF func141 (by kernel_rfl) rfl args w
structure BoN (wB:Wd)(bn bl:Nat)(a:Option Addr)(c:Nat)(ks:List Int)(W:Wd):Prop where
 n:∃v,W.heap[bn]?=some (.cells #[v] 172 (0,0))
 l:W.cell? (Av bl)=some (.slice a ks.length c)
 z:Aj W a ks
 s:∀x,a=some x->W.heap[x.block]?=wB.heap[x.block]?
def CsN (bn bl:Nat)(a:Option Addr)(k:Nat):Prop:=k=bn\/k=bl\/∃x,a=some x/\k=x.block
def BoN.keep {a:Option Addr}(h:BoN wB bn bl a c ks W)(hk:∀k,CsN bn bl a k->W'.heap[k]?=W.heap[k]?):BoN wB bn bl a c ks W':=
 ⟨by rw[hk _ (.inl rfl)];exact h.n,Co h.l (hk _ (.inr (.inl rfl))),⟨h.z.len,λi hi=>by
  obtain⟨b,off,e,H⟩:=h.z.cells i hi;exact⟨b,off,e,Co H (hk _ (.inr (.inr ⟨_,e,rfl⟩)))⟩⟩,λx hx=>(hk _ (.inr (.inr ⟨x,hx,rfl⟩))).trans (h.s x hx)⟩
section
variable {o:Own}
def SatE.edges (h:SatE K n Od room w0 mb fs nx w o m V)(H:Fs.length=ks.length)(I:∀i (h:i<ks.length),(ks[i],Fs[i]'(by omega))∈fs):
 ∃es:List Nat,es.length=ks.length/\es.map (ef V)=Fs/\(∀f∈es,okE (Aa m.d) f)/\∀i (h:i<ks.length) (h2:i<es.length),(ks[i],es[i])∈m.hs:=by
 have:∀i,∃f,∀hi:i<ks.length,(ks[i],f)∈m.hs/\ef V f=Fs[i]'(by omega):=λi=>by
  by_cases hi:i<ks.length
  . obtain⟨f,h1,h2⟩:=h.find (I i hi);exact⟨f,λ_=>⟨h1,h2⟩⟩
  . exact⟨0,λe=>absurd e hi⟩
 have hs:=λi=>aR (this i)
 refine⟨(List.range ks.length).map λi=>Classical.choose (this i),by simp,?_,?_,?_⟩
 ·refine Ym (by simp[H]) λi h1 h2=>?_
  have hi:i<ks.length:=by simpa using h1
  simpa using(hs i hi).2
 . intro f O;obtain⟨i,hi,rfl⟩:=X6.1 O;exact h.ok.handles.ok _ (hs i (YE.1 hi)).1
 . intro i hi h2;simpa using(hs i hi).1
def FP (n:Nat)(ws0:List Ev)(os:List Nat)(bn:Nat)(Fs:List BF)(s:Nat)(W:Wd)(m:ManD)(_:Nat->BF):Prop:=
 m.waits=ws0/\m.d.vars=os/\∃nt cs,s<=nt/\W.cell? (Av bn)=some (.map (some nt))/\Au W nt (Value.int .i64) (ctL cs)/\GX n os Fs cs
def Vz {a:Option Addr}(L:bn≠bl)(r:∀x,a=some x->bn≠x.block)(Y:Fs.length=ks.length)(hm:∀i (h:i<ks.length),(ks[i],Fs[i]'(by omega))∈fs)(ws0:List Ev)(os:List Nat)(E:Int->ManD->ManD->Prop):
 OpLN K n Od room w0 mb fs nx (CsN bn bl a) (BoN wB bn bl a c ks) (λm=>m.waits=ws0/\m.d.vars=os) 141 #[Pt bn,Pt bl] (λs _=>FP n ws0 os bn Fs s) E:=by
 intro o W m V xb g0 g v hp R hnx;obtain⟨gP,gr⟩:=hp;obtain⟨es,h6,h8,gi,h7⟩:=g0.edges Y hm;have hk:=g0.ok.store;have gu:∀k,CsN bn bl a k->o k=none:=λk e=>(v k e).2
 obtain⟨v0,gQ⟩:=g.n;have hz:∀(fn:Fn) (first cap:Array Value) (w:Wd),(Instr.makeFunc fn first cap).run prog w=.ok (.func fn first cap) w:=λ_ _ _ _=>rfl
 have gA:bn<W.heap.size:=(v bn (.inl rfl)).1;have gj:bl<W.heap.size:=(v bl (.inr (.inl rfl))).1;obtain⟨w1,gc⟩:=Ex (W.alloc (.cells #[Pt xb] 106));have gM:w1.heap.size=W.heap.size+1:=by rw[gc];simp
 have N:w1.heap[W.heap.size]?=some (.cells #[Pt xb] 106 (0,0)):=by rw[gc];exact Xv _ _
 have gY:Wr (· = bn) W w1:=by rw[gc];exact Wr.of_below (Ag _ _) _
 obtain⟨nt,gt⟩:=Ex w1.heap.size;obtain⟨w2,g7⟩:=Ex (w1.alloc (.map #[] 0));have hg:∀t,(Instr.makeMap t none).run prog w1=.ok (.map (some nt)) w2:=λt=>by rw[gt,g7];exact Ek w1 t
 have gL:w2.heap.size=W.heap.size+2:=by rw[g7];simp[gM]
 have h4:Au w2 nt (Value.int .i64) (ctL []):=by rw[g7,gt];exact EC w1 _
 have gX:Wr (· = bn) W w2:=by rw[g7];exact gY.alloc _
 have ge:w2.heap[bn]?=some (.cells #[v0] 172 (0,0)):=by
  rw[g7,X1 _ _ (by omega),gc,X1 _ _ gA];exact gQ
 obtain⟨X,g5⟩:=Ex (w2.setCell (Av bn) (.map (some nt)));have hr:(store (Av bn) (.map (some nt))).run prog w2=.ok () X:=by
  rw[run_store _ _ _ _ _ rfl];simp[cell1 ge,World.frozen?,ge,g5]
 have gK:X.heap.size=W.heap.size+2:=by rw[g5];simp[World.setCell,gL]
 have gw:∀q,q≠bn->X.heap[q]?=w2.heap[q]?:=λq J=>by rw[g5];exact Az J _
 have g3:X.heap[bn]?=some (.cells #[.map (some nt)] 172 (0,0)):=by rw[g5];exact A2 ge _
 have gV:Wr (· = bn) W X:=by rw[g5];exact gX.setCell (.inl rfl) _
 have h3:Au X nt (Value.int .i64) (ctL []):=h4.keepB (gw nt (by omega));obtain⟨mt,gv⟩:=Ex X.heap.size;obtain⟨O,g4⟩:=Ex (X.alloc (.map #[] 0));have hf:∀t,(Instr.makeMap t none).run prog X=.ok (.map (some mt)) O:=λt=>by rw[gv,g4];exact Ek X t
 have gJ:O.heap.size=W.heap.size+3:=by rw[g4];simp[gK]
 have h0:Au O mt (Value.int .i64) (mtL []):=by rw[g4,gv];exact EC X _
 have gC:Bw X O:=by rw[g4];exact Ag _ _
 obtain⟨H,D⟩:=Ex (O.alloc (.cells #[.map (some mt)] 120));have gk:Bw O H:=by rw[D];exact Ag _ _
 have gI:H.heap.size=W.heap.size+4:=by rw[D];simp[gJ]
 have g6:H.heap[O.heap.size]?=some (.cells #[.map (some mt)] 120 (0,0)):=by rw[D];exact Xv _ _
 obtain⟨FV,go⟩:=Ex (.func (.func 142) #[] #[Pt O.heap.size,Pt W.heap.size,Pt bn,Pt H.heap.size]:Value);obtain⟨y,F⟩:=Ex (H.alloc (.cells #[.nilFunc] 209));have gB:Bw H y:=by rw[F];exact Ag _ _
 have gH:y.heap.size=W.heap.size+5:=by rw[F];simp[gI]
 have Q:y.heap[H.heap.size]?=some (.cells #[.nilFunc] 209 (0,0)):=by rw[F];exact Xv _ _
 obtain⟨U,g9⟩:=Ex (y.setCell (Av H.heap.size) FV);have gR:(store (Av H.heap.size) FV).run prog y=.ok () U:=by
  rw[run_store _ _ _ _ _ (by rw[go];rfl)];simp[cell1 Q,World.frozen?,Q,g9]
 have ho:U.heap.size=W.heap.size+5:=by rw[g9];simp[World.setCell,gH]
 have S:Bw H U:=by rw[g9];exact gB.setCell (Xs _) _
 have g8:U.heap[H.heap.size]?=some (.cells #[FV] 209 (0,0)):=by rw[g9];exact A2 Q _
 have gU:Wr (· = bn) W O:=by rw[g4];exact gV.alloc _
 have gT:Wr (· = bn) W H:=by rw[D];exact gU.alloc _
 have gS:Wr (· = bn) W y:=by rw[F];exact gT.alloc _
 have B:Wr (· = bn) W U:=by rw[g9];exact gS.setCell (.inr (by show W.heap.size<=H.heap.size;omega)) _
 have gf:∀q,q<X.heap.size->U.heap[q]?=X.heap[q]?:=λq J=>by
  rw[S.block q (by omega),gk.block q (by omega),gC.block q J]
 have e4:U.heap[O.heap.size]?=some (.cells #[.map (some mt)] 120 (0,0)):=by
  rw[S.block _ (by omega)];exact g6
 have em:Au U mt (Value.int .i64) (mtL []):=h0.keepB (by rw[S.block _ (by omega),gk.block _ (by omega)]);have en:Au U nt (Value.int .i64) (ctL []):=h3.keepB (gf nt (by omega));have ex:U.heap[W.heap.size]?=some (.cells #[Pt xb] 106 (0,0)):=by
  rw[gf _ (by omega),gw _ (by omega),g7,X1 _ _ (by omega)];exact N
 have eb:U.heap[bn]?=some (.cells #[.map (some nt)] 172 (0,0)):=by rw[gf _ (by omega)];exact g3
 have gO:xb<W.heap.size:=Ad R.cell;have gp:xb≠bn:=λe=>hnx (.inl e)
 have A:∀q,W.heap.size<=q->o q=none:=λq J=>g0.lt.none J
 have hs:SnS (K m.d V) ⟨O.heap.size,W.heap.size,bn,H.heap.size,mt,nt,xb⟩ mb o m V [] (tally m.d []) U:=by
  refine⟨g0.is.other g0.lt B (λk _ e=>by subst e;exact gu _ (.inl rfl)),g0.lt.mono B.size,hk,⟨Co R.cell (B.keep xb gO gp),R.own⟩,cell1 e4,cell1 ex,cell1 eb,?_,em,en,?_,?_,?_,⟨List.nodup_nil,by simp⟩⟩
  . rw[cell1 g8,go];rfl
  ·rintro q (e|e|e|e|e|e)
   . have e:q=O.heap.size:=e;exact A _ (by omega)
   . have e:q=W.heap.size:=e;exact A _ (by omega)
   . have e:q=bn:=e;exact gu _ (.inl e)
   . have e:q=H.heap.size:=e;exact A _ (by omega)
   . have e:q=mt:=e;exact A _ (by omega)
   . have e:q=nt:=e;exact A _ (by omega)
  ·refine⟨?_,?_,?_,?_,?_,?_⟩
   . show mt≠O.heap.size;omega
   . show mt≠W.heap.size;omega
   . show mt≠bn;omega
   . show mt≠H.heap.size;omega
   . show mt≠xb;omega
   . show mt≠nt;omega
  ·refine⟨?_,?_,?_,?_,?_⟩
   . show nt≠O.heap.size;omega
   . show nt≠W.heap.size;omega
   . show nt≠bn;omega
   . show nt≠H.heap.size;omega
   . show nt≠xb;omega
 obtain⟨C,g1⟩:=Ex (⟨O.heap.size,W.heap.size,bn,H.heap.size,mt,nt,xb⟩:SnC);have hb:C.caps=#[Pt O.heap.size,Pt W.heap.size,Pt bn,Pt H.heap.size]:=by rw[g1];rfl
 have gD:∀k,C.two k->W.heap.size<=k:=by
  rw[g1];rintro k (e|e)
  . have e:k=mt:=e;omega
  . have e:k=nt:=e;omega
 rw[<-g1]at hs;have hn:=g.z.len;have clist:U.cell? (Av bl)=some (.slice a ks.length c):=Co g.l (B.keep bl gj (λe=>L e.symm));obtain⟨I,Z⟩:=Ex (λi wr=>Wr (· = bn) W wr/\wr.heap[bn]?=some (.cells #[.map (some nt)] 172 (0,0))/\SnS (K m.d V) C mb o m V (Dn m.d (es.take i)) (tally m.d (Dn m.d (es.take i))) wr:Nat->Wd->Prop)
 have gG:Hq (I 0 U):=by rw[Z];exact Hd ⟨B,eb,by simpa [Dn]using hs⟩
 have G:Hq (∀i wr,I i wr->wr.cell? (Av W.heap.size)=some (Pt xb)/\wr.cell? (Av H.heap.size)=some (.func (.func 142) #[] C.caps)/\(∀j,j<ks.length->∃b off,a=some (Aw b off)/\wr.cell? (Aw b (off+j))=some (Iv (at0 ks j)))/\I i wr.drew):=by
  rw[Z];refine Hd λi wr hh=>?_
  obtain⟨h1,M,h2⟩:=hh;have hx:=h2.bx;have hd:=h2.bd;rw[g1]at hx;refine⟨hx,?_,λj hj=>?_,h1.drew,M,h2.below (An wr 1)⟩
  . rw[g1]at hd⊢;exact hd
  . obtain⟨b,off,e,hc⟩:=g.z.cells j hj;exact⟨b,off,e,Co hc (h1.keep b (v b (.inr (.inr ⟨_,e,rfl⟩))).1 (λq=>r _ e q.symm))⟩
 have g2:Hq (∀i wr,i<ks.length->I i wr->∃f,Cl 58 #[Pt xb,Iv (at0 ks i)] wr ((Sm (Iv (f:Nat)) wr)) /\
  Cl 142 (#[Iv (f:Nat)]++C.caps) wr λx w'=>x=.returned (.tuple #[])/\I (i+1) w'):=by
  rw[Z];refine Hd λi wr hi hh=>?_
  obtain⟨h1,M,h2⟩:=hh;have gx:i<es.length:=by omega
  have gN:=h2.x;rw[g1]at gN;refine⟨es[i],by rw[A8 hi];exact DQ h2.is gN g0.ok.handles.nodup (h7 i hi gx),?_⟩;refine(O7 m.d.vars.length _ _ wr h2 (gi _ (XM gx)) (by omega)).mono ?_;rintro x w' ⟨rfl,r1,r2⟩;refine⟨rfl,h1.trans r1 (λ_ _ e=>e) (λk hk e=>by have:=gD k e;omega),(r1.keep bn (by have:=h1.size;omega) (λe=>by have:=gD bn e;omega)).trans M,?_⟩;rw[UF es gx];exact r2
 obtain⟨P,hP⟩:∃P:Ending->Wd->Prop,P=λe w'=>∃(o':Own) (m':ManD) (V':Nat->BF),B9 (CsN bn bl a) K o W mb m V o' w' m' V'/\BoN wB bn bl a c ks w' /\
  ((e=.returned (.tuple #[])/\FP n ws0 os bn Fs W.heap.size w' m' V') \/
   (∃er:Int,e=A1 er false ev0/\er≠0/\m'.waits=m.waits/\(m'.waits=ws0/\m'.d.vars=os)/\E er m m') \/
   (∃ev,e=A1 0 true ev/\m.waits=ev::m'.waits/\StE K n Od room w0 mb fs nx (λm=>m.waits=ws0/\m.d.vars=os) m'/\HapG K n Od room w0 mb fs nx ev)):=⟨_,rfl⟩
 have gl:Hq (∀wr,I ks.length wr->P (.returned (.tuple #[])) wr):=by
  rw[Z,hP];refine Hd λwr hh=>?_
  obtain⟨h1,M,h2⟩:=hh;rw[<-h6,XP]at h2;have h9:=h2.bn;have gZ:=h2.cnt;rw[g1]at h9 gZ;refine⟨o,m,V,⟨h2.is,h2.lt,ChgX.of_wr h1 o (λk _ e=>.inl e),hk,Ext.refl _ _,rfl,rfl⟩,⟨?_,?_,⟨hn,λi hi=>?_⟩,λx hx=>?_⟩,.inl ⟨rfl,gP,gr,nt,_,by omega,h9,gZ,?_⟩⟩
  . exact⟨_,M⟩
  . exact(Co g.l (h1.keep bl gj (λe=>L e.symm)))
  . obtain⟨b,off,e,hc⟩:=g.z.cells i hi;exact⟨b,off,e,Co hc (h1.keep b (v b (.inr (.inr ⟨_,e,rfl⟩))).1 (λq=>r _ e q.symm))⟩
  . exact(h1.keep _ (v _ (.inr (.inr ⟨x,hx,rfl⟩))).1 (λq=>r x hx q.symm)).trans (g.s x hx)
  . have:=UK hk es gi (λe he=>D2 g0.is he);rw[g0.vars,h8,gr]at this;exact this
 have HW1:=Hd gc.symm;have hu:=Hd g5.symm;have hD:=Hd g4.symm;have c2:=cell1 ge;have f2:w2.frozen? (Av bn)=false:=by simp[World.frozen?,ge]
 have ht:=Hd D.symm;rw[go,F]at gR;rw[<-hP];rw[hb]at G g2;clear hP Z hs g0 g v R hnx h8 gi h7 hk gu gQ gA gj gc g7 g5 g4 D F g9 gM gL gK gJ gI gH ho N gY h4 gX gU gT gS ge Q gB gw g3 gV h3 h0 gC gk g6 go S g8 B gf e4 em en ex eb gO gp A g1 hb gD gt gv Y hm h6 gP gr
 go_enter func141,ntmps141
 go_upto_region 1 with fail;rw[HW1.o];go_upto_region 2 with fail;rw[hu.o];clear c2 f2 hg hr;go_upto_region 3 with fail;rw[ht.o];clear hf;go_upto_region 5 with fail;clear gR;go_wp2
 go_loopw [7,13] (λ_ p wr=>∃i:Nat,i<=ks.length/\p=Iv i/\Hq (I i wr)) (λ_ p _=>ks.length-(intOf p).toNat)
 case atStart=>exact⟨0,X0 _,rfl,gG⟩
 case round=>
  obtain⟨i,hi,rfl,T⟩:=hrel
  by_cases h5:i<ks.length
  ·have hA:(i:Int)<(ks.length:Int):=by omega
   obtain⟨x1,x2,x3,x4⟩:=G.o i _ T.o;obtain⟨b,off,rfl,ck⟩:=x3 i h5;have HD:=Hd (G.o i _ x4);obtain⟨f,hE,hS⟩:=g2.o i _ h5 x4;have HE:=Hd hE;have HS:=Hd hS;have gE:=G;clear hE hS x1 x2 x3 x4 G g2 gl T gG clist;go_upto_region 8 with fail;obtain⟨wz,gq⟩:=Ex wr.drew;rw[<-gq]at HD HE HS;have gF:=Hd gq;clear gq;have gz:=HD.o.1;have gy:=HD.o.2.1;refine D4 [0,1,2,3,4] (λW'=>W'.cell? (Av W.heap.size)=some (Pt xb)/\W'.cell? (Av H.heap.size)=some (.func (.func 142) #[] #[Pt O.heap.size,Pt W.heap.size,Pt bn,Pt H.heap.size])) (λch w'=>False) (λc a w hd h=>h.elim) (by kernel_rfl) (by rw[<-gF.o];exact⟨gz,gy⟩) ?_;rw[<-gF.o]
   iterate 3
    refine Ce rfl rfl (by kernel_rfl) ?_;apply Exists.intro;refine⟨λw' hw=>?_,?_⟩
    . obtain⟨q1,q2⟩:=hw;go_simp;rfl
    simp only[Ab]
   refine BX (R1:=λu w'=>u=Iv (f:Nat)/\wz=w') rfl (by kernel_rfl) rfl rfl (by go_simp) (HE.o.mono λx w' h=>⟨_,h.1,rfl,h.2⟩) (by rintro u w' ⟨_,rfl⟩;exact⟨gz,gy⟩) ?_;rintro u w'-⟨rfl,rfl⟩;simp only[Ab];refine BX (R1:=λu w'=>u=.tuple #[]/\I (i+1) w') rfl (by kernel_rfl) rfl rfl (by go_simp) (HS.o.mono λx w' h=>⟨_,h.1,rfl,h.2⟩) (by rintro u w' ⟨_,Z⟩;exact⟨(gE.o (i+1) w' Z).1,(gE.o (i+1) w' Z).2.1⟩) ?_;rintro u w9-⟨rfl,ha⟩;have hv:=Hd ha;clear ha gE HS HE HD gz gy gF;simp only[Ab];refine D5 (by kernel_rfl) ?_;go_wp2;go_roundw
   case rel=>exact⟨i+1,by omega,by rw[show((i+1:Nat):Int)=(i:Int)+1 by omega],hv⟩
   case measure=>simp[intOf];omega
  ·obtain rfl:i=ks.length:=by omega
   have hy:¬ (ks.length:Int)<(ks.length:Int):=by omega
   have HF:=Hd (gl.o _ T.o);clear G g2 gl T gG;go_wp2_with fail;refine YW (Y7 rfl _ _ _) rfl ?_;exact HF.o
end
structure ArgI (w0 w:Wd)(o:Own)(a:Option Addr)(ks:List Int):Prop where
 z:Aj w a ks
 own:∀x,a=some x->x.block<w.heap.size/\w0.heap.size<=x.block/\o x.block=none
def O8 {H:Nat×Nat}(h:w.heap[b]?=some (.cells #[v] t H)):w.setCell (Av b) v=w:=by
 have:w.heap.modify b (λ|.cells c elem frozen=>.cells (c.setIfInBounds 0 v) elem frozen|o=>o)=w.heap:=by
  apply Array.ext_getElem?;intro i;rw[Zv];split
  ·rename_i e
   subst e;rw[h];rfl
  . rfl
 show({ w with heap:=w.heap.modify b (λ|.cells c elem frozen=>.cells (c.setIfInBounds 0 v) elem frozen|o=>o) }:Wd)=w
 rw[this]
section
variable {o:Own}
def Kp (K:Law)(n:Nat)(Od:List Nat->Prop)(room:Nat)(w0:Wd)(mb:Nat)(fs:List (Int×BF))(nx:Int)(m:ManD)(o:Own)(w:Wd)(Fs:List BF)(x:Ending)(w':Wd):Prop:=
 ∃nt cs,x=.returned (.tuple #[.map (some nt),Iv 0])/\Au w' nt (Value.int .i64) (ctL cs)/\GX n m.d.vars Fs cs/\∃o' m' V',ChgX NoB o o' w w'/\m'.waits=m.waits/\m'.d.vars=m.d.vars/\SatE K n Od room w0 mb fs nx w' o' m' V'
def VA {s:Nat}(hb:bn<s)(U:s+3<=W.heap.size)(h:FP n ws0 os bn Fs (s+3) W m V)(a:Ali s W W'):FP n ws0 os bn Fs 0 W' m V:=by
 obtain⟨h1,h2,nt,cs,h3,O,H,I⟩:=h;exact⟨h1,h2,nt,cs,X0 _,Co O (a.keep bn (by omega) (by omega)),H.keepB (a.keep nt H.lt (by omega)),I⟩
def VB (h:SatE K n Od room w0 mb fs nx w o m V){a:Option Addr}(hl:ArgI w0 w o a ks)(H:Fs.length=ks.length)(U:∀i (h:i<ks.length),(ks[i],Fs[i]'(by omega))∈fs):
 Cl 107 #[Pt mb,.slice a ks.length c] w (Kp K n Od room w0 mb fs nx m o w Fs):=by
 have R:∀(fn:Fn) (first cap:Array Value) (w:Wd),(Instr.makeFunc fn first cap).run prog w=.ok (.func fn first cap) w:=λ_ _ _ _=>rfl
 have hw0:=h.chg.size;obtain⟨w2,g3⟩:=Ex ((w.alloc (.cells #[.slice a ks.length c] 22)).alloc (.cells #[.map none] 172));have g5:Bw w w2:=by rw[g3];exact(Ag _ _).alloc (by simp) _
 have F:w2.heap.size=w.heap.size+2:=by rw[g3];simp
 have g0:w2.heap[w.heap.size]?=some (.cells #[.slice a ks.length c] 22 (0,0)):=by
  rw[g3];exact(X1 _ _ (by simp)).trans (Xv _ _)
 have g1:w2.heap[w.heap.size+1]?=some (.cells #[.map none] 172 (0,0)):=by
  have:=Xv (w.alloc (.cells #[.slice a ks.length c] 22)) (.cells #[.map none] 172);rw[X3]at this;rw[g3];exact this
 obtain⟨s,hs⟩:=Ex (w.heap.size+1);rw[<-hs]at g1;have g6:∀x,a=some x->s≠x.block:=λx hx e=>by have:=(hl.own x hx).1;omega
 have g4:=h.below g5;have O:=hl.z.below g5;have g8:BoN w2 s w.heap.size a c ks w2:=⟨⟨_,g1⟩,cell1 g0,O,λ_ _=>rfl⟩;have p:∀k,CsN s w.heap.size a k->k<w2.heap.size/\o k=none:=by
  rintro k (rfl|rfl|⟨x,hx,rfl⟩)
  . exact⟨by omega,h.lt.none (by omega)⟩
  . exact⟨by omega,h.lt.none (by omega)⟩
  . have:=hl.own x hx;exact⟨by omega,this.2.2⟩
 have q:∀k,CsN s w.heap.size a k->w0.heap.size<=k:=by
  rintro k (rfl|rfl|⟨x,hx,rfl⟩)
  . omega
  . omega
  . exact(hl.own x hx).2.1
 have l:=JK (B:=BoN w2 s w.heap.size a c ks) (QP:=λ_=>FP n m.waits m.d.vars s Fs 0) (St:=λm'=>m'.waits=m.waits/\m'.d.vars=m.d.vars) (λ_ _ hb hk=>hb.keep hk) (λs' _ W W' m' V' Y O _ A a=>VA (Y s (.inl rfl)) O A a) (λm' d U y=>⟨U.1,by show d.vars=_;rw[y.vars];exact U.2⟩) q Vy (Vz (E:=λ_ _ _=>False) (by omega) g6 H U m.waits m.d.vars) g4 g8 p ⟨rfl,rfl⟩
 have Z:Hq (Cl 56 #[Pt mb,.func (.func 141) #[] #[Pt s,Pt w.heap.size]] w2 λx w'=>x=.returned (Iv 0)/\∃nt,w'.cell? (Av s)=some (.map (some nt))/\(∃v,w'.heap[s]?=some (.cells #[v] 172 (0,0)))/\Kp K n Od room w0 mb fs nx m o w Fs (.returned (.tuple #[.map (some nt),Iv 0])) w'):=Hd (l.mono (by
  rintro x w' ⟨er,rfl,o',m',V',hs',g9,Y,⟨rfl,f,X,nt,cs,N,u,t,r⟩|⟨_,m0,e,_⟩⟩
  ·refine⟨rfl,nt,u,g9.n,nt,cs,rfl,t,r,o',m',V',?_,f,X,hs'⟩;have g2:ChgX (CsN s w.heap.size a) o o' w w':=(ChgX.of_below g5 o (CsN s w.heap.size a)).trans Y (λ_ _ e=>e);refine⟨g2.os,g2.tape,g2.output,g2.size,λk hk C _=>?_,g2.ext,g2.new⟩
   by_cases e:CsN s w.heap.size a k
   ·rcases e with e|e|⟨x,hx,e⟩
    . omega
    . omega
    . subst e;exact(g9.s x hx).trans (g5.block _ hk)
   . exact g2.block k hk C e
  . exact e.elim))
 have ge:Hq (∀i,i<ks.length->Cl 100 #[Pt mb,Iv (at0 ks i)] w2 (Sm (.bool true) w2)):=Hd λi hi=>by
  rw[A8 hi];exact(MA g4 (U i hi))
 have G:Hq (∀i,i<ks.length->∃b off,a=some (Aw b off)/\w2.cell? (Aw b (off+i))=some (Iv (at0 ks i))):=Hd λi hi=>by
  obtain⟨b,off,e,Y⟩:=O.cells i hi;exact⟨b,off,e,Y⟩
 have gc:=Hd g3.symm;have J:=Hd hs;have c0:=cell1 g0;have S:=O.len;obtain⟨P,j⟩:=Ex (Kp K n Od room w0 mb fs nx m o w Fs);rw[<-j]at Z⊢;have HP:Hq (∀x w',P x w'->P x w'):=Hd λ_ _ e=>e
 clear j h hw0 g3 g5 F g0 g1 hs g6 g4 O g8 p q l hl H U
 go_enter func107,ntmps107
 go_upto_region 1 with fail;rw[gc.o];rw[<-J.o];go_wp2
 go_loopw [7,12] (λ_ I wr=>∃i:Nat,i<=ks.length/\I=Iv i/\wr=w2) (λ_ I _=>ks.length-(intOf I).toNat)
 case atStart=>exact⟨0,X0 _,by trivial,by trivial⟩
 case round=>
  obtain⟨i,hi,rfl,rfl⟩:=hrel
  by_cases g7:i<ks.length
  ·have Q:(i:Int)<(ks.length:Int):=by omega
   obtain⟨b,off,rfl,T⟩:=G.o i g7;have L:=Hd (ge.o i g7);clear Z;go_wp2_with fail;refine L.o.mono ?_;rintro x w' ⟨rfl,rfl⟩;go_wp2;go_roundw
   case rel=>exact⟨i+1,by omega,by rw[show((i+1:Nat):Int)=(i:Int)+1 by omega],trivial⟩
   case measure=>simp[intOf];omega
  ·obtain rfl:i=ks.length:=by omega
   have gf:¬ (ks.length:Int)<(ks.length:Int):=by omega
   go_wp2_with fail;refine Z.o.mono ?_;rintro x w' ⟨rfl,nt,f,⟨v,X⟩,g⟩;have M:=Hd g;obtain rfl:v=.map (some nt):=Yr ((cell1 X).symm.trans f);have D:=Hd (O8 X);have f1:w'.frozen? (Av s)=false:=by simp[World.frozen?,X]
   clear g Z;go_wp2_with fail;rw[D.o];have hu:=underlying172;refine X2 (v:=.tuple #[.map (some nt),Iv 0]) ((results_cell_tmp rfl _ _ _).trans ?_) rfl M.o
   show((asAddr (Pt s)).run prog w').andThen (λa w₁=>((loadVar 172 a).run prog w₁).andThen λv w₂=>.ok (Value.tuple #[v,Iv 0]) w₂)=_
   go_simp
end
open Go.ChangeMaps (setBlock)
section
variable {o:Own}
def AskV (K:Law)(n:Nat)(Od:List Nat->Prop)(room:Nat)(w0:Wd)(mb:Nat)(fs:List (Int×BF))(nx:Int)(m:ManD)(o:Own)(w w':Wd):Prop:=
 ∃o' m' V',ChgX NoB o o' w w'/\m'.waits=m.waits/\m'.d.vars=m.d.vars/\SatE K n Od room w0 mb fs nx w' o' m' V'
def AskV.below {w1 w':Wd}(h:AskV K n Od room w0 mb fs nx m o w w1)(hb:Bw w1 w'):AskV K n Od room w0 mb fs nx m o w w':=by
 obtain⟨o',m',V',h1,h2,h3,H⟩:=h;exact⟨o',m',V',h1.trans (ChgX.of_below hb o' NoB) (λ_ _ e=>e),h2,h3,H.below hb⟩
end
def VC (args:Array Value)(w:Wd):(callFunc 110 args).run prog w=.ok (.enter 110 args) w:=YF func110 (by kernel_rfl) rfl args w
def NatV.keepC (h:NatV w v x)(hk:∀b j d,w.cell? (Aw b j)=some (.int .u32 d)->w'.heap[b]?=w.heap[b]?):NatV w' v x:=by
 obtain⟨a,c,h1,h2,h3,H⟩:=h;refine⟨a,c,h1,h2,h3,⟨H.len,H.ok,λk g0=>?_⟩⟩;obtain⟨b,off,e,I⟩:=H.cells k g0;exact⟨b,off,e,Co I (hk b _ _ I)⟩
def NatV.keepO (h:NatV w v x)(hk:∀q,v.ownBlock=some q->w'.heap[q]?=w.heap[q]?):NatV w' v x:=by
 obtain⟨a,c,h1,h2,h3,H⟩:=h;refine⟨a,c,h1,h2,h3,⟨H.len,H.ok,λk g0=>?_⟩⟩;obtain⟨b,off,e,I⟩:=H.cells k g0;exact⟨b,off,e,Co I (hk b (by rw[h1,e];rfl))⟩
def Cp.keepO (h:Cp W fv fx)(hk:∀q,fv=.map (some q)->W'.heap[q]?=W.heap[q]?):Cp W' fv fx:=by
 rcases h with h|⟨H,l,h1,h2,h3⟩
 . exact .inl h
 . exact .inr ⟨H,l,h1,h2.keepB (hk H h1),h3⟩
structure BoT (n:Nat)(wB:Wd)(bA bX bF bN:Nat)(va fv:Value)(fx:Nat->Option Bool)(k:Int)(W:Wd):Prop where
 n_:∃(a:Option Addr) (l c:Nat),W.heap[bN]?=some (.cells #[.slice a l c] 40 (0,0))
 a_:W.cell? (Av bA)=some va
 an:NatV W va (2^n)
 x_:W.cell? (Av bX)=some fv
 fx_:Cp W fv fx
 f_:W.cell? (Av bF)=some (Iv k)
 s_:∀q,fv=.map (some q)->W.heap[q]?=wB.heap[q]?
def CsT (X I U O:Nat)(H fv:Value)(q:Nat):Prop:=q=X\/q=I\/q=U\/q=O\/H.ownBlock=some q\/fv=.map (some q)
def BoT.keep {X I U O:Nat}{H:Value}{k:Int}(h:BoT n wB X I U O H fv fx k W)(hk:∀q,CsT X I U O H fv q->W'.heap[q]?=W.heap[q]?):BoT n wB X I U O H fv fx k W':=
 ⟨by rw[hk _ (.inr (.inr (.inr (.inl rfl))))];exact h.n_,Co h.a_ (hk _ (.inl rfl)),h.an.keepO λq e=>hk q (.inr (.inr (.inr (.inr (.inl e))))),
  (Co h.x_ (hk _ (.inr (.inl rfl)))),h.fx_.keepO λq e=>hk q (.inr (.inr (.inr (.inr (.inr e))))),
  (Co h.f_ (hk _ (.inr (.inr (.inl rfl))))),λq e=>(hk q (.inr (.inr (.inr (.inr (.inr e)))))).trans (h.s_ q e)⟩
section
variable {o:Own}
def AskN (K:Law)(n:Nat)(Od:List Nat->Prop)(room:Nat)(w0:Wd)(mb:Nat)(fs:List (Int×BF))(nx:Int)(m:ManD)(o:Own)(w w':Wd)(v:Value):Prop:=
 ∃o' m' V',ChgX NoB o o' w w'/\m'.waits=m.waits/\m'.d.vars=m.d.vars/\SatE K n Od room w0 mb fs nx w' o' m' V'/\∀q,v.ownBlock=some q->o' q=none
def TotQ (ws0:List Ev)(os:List Nat)(H N:Nat)(_:Nat)(o:Own)(W:Wd)(m:ManD)(_:Nat->BF):Prop:=
 m.waits=ws0/\m.d.vars=os/\∃v,W.cell? (Av H)=some v/\NatV W v N/\∀q,v.ownBlock=some q->o q=none
def VD {U O X H:Nat}{s:Value}{k:Int}(z:∀q,(q=U\/q=O\/q=X\/s.ownBlock=some q\/fv=.map (some q))->q≠H)(hm:(k,G)∈fs)(ws0:List Ev)(os:List Nat)(E:Int->ManD->ManD->Prop):
 OpLN K n Od room w0 mb fs nx (CsT U O X H s fv) (BoT n wB U O X H s fv fx k) (λm=>m.waits=ws0/\m.d.vars=os) 110 #[Pt U,Pt O,Pt X,Pt H] (TotQ ws0 os H (totN n fx G)) E:=by
 intro o W m V xb g4 Z i gd R hnx;obtain⟨gq,gv⟩:=gd;obtain⟨f,hf,gx⟩:=g4.find hm;have hk:=g4.ok.store;have gn:=g4.ok.handles.ok _ hf;have gK:∀(fn:Fn) (first cap:Array Value) (w:Wd),(Instr.makeFunc fn first cap).run prog w=.ok (.func fn first cap) w:=λ_ _ _ _=>rfl
 have gJ:=λt w=>Ek (P:=prog) w t
 have lN:=(i H (.inr (.inr (.inr (.inl rfl))))).1;have lA:=(i U (.inl rfl)).1;have lX:=(i O (.inr (.inl rfl))).1;have lF:=(i X (.inr (.inr (.inl rfl)))).1;have gC:xb<W.heap.size:=Ad R.cell;have gD:xb≠H:=λe=>hnx (.inr (.inr (.inr (.inl e))))
 obtain⟨g,g5⟩:=Ex ((((W.alloc (.cells #[Pt xb] 106)).alloc (.map #[] 0)).alloc (.cells #[.map (some (W.heap.size+1))] 176)).alloc (.cells #[.nilFunc] 177));have gH:Hq (_=g):=Hd g5.symm;have gy:Bw W g:=by rw[g5];exact(((Ag _ _).alloc (by simp) _).alloc (by simp;omega) _).alloc (by simp;omega) _
 have gB:g.heap.size=W.heap.size+1+1+1+1:=by rw[g5];simp
 have g0:g.heap[W.heap.size]?=some (.cells #[Pt xb] 106 (0,0)):=by
  rw[g5];exact(X1 _ _ (by simp;omega)).trans ((X1 _ _ (by simp;omega)).trans ((X1 _ _ (by simp)).trans (Xv _ _)))
 have g1:Au g (W.heap.size+1) (Value.int .i64) []:=by
  have h1:=EC (W.alloc (.cells #[Pt xb] 106)) (Value.int .i64);rw[X3]at h1;rw[g5];exact(h1.below (Ag _ _)).below (Ag _ _)
 have g2:g.heap[W.heap.size+1+1]?=some (.cells #[.map (some (W.heap.size+1))] 176 (0,0)):=by
  have:=Xv ((W.alloc (.cells #[Pt xb] 106)).alloc (.map #[] 0)) (.cells #[.map (some (W.heap.size+1))] 176);rw[X3,X3]at this;rw[g5];exact(X1 _ _ (by simp)).trans this
 have g3:g.heap[W.heap.size+1+1+1]?=some (.cells #[.nilFunc] 177 (0,0)):=by
  have:=Xv (((W.alloc (.cells #[Pt xb] 106)).alloc (.map #[] 0)).alloc (.cells #[.map (some (W.heap.size+1))] 176)) (.cells #[.nilFunc] 177);rw[X3,X3,X3]at this;rw[g5];exact this
 have c6:=cell1 g3;have f6:g.frozen? (Av (W.heap.size+1+1+1))=false:=by simp[World.frozen?,g3]
 obtain⟨r,g7⟩:=Ex (g.setCell (Av (W.heap.size+1+1+1)) (.func (.func 111) #[] #[Pt U,Pt (W.heap.size+1+1+1),Pt (W.heap.size+1+1),Pt W.heap.size,Pt O]));have S:∀q:Nat,q≠W.heap.size+1+1+1->r.heap[q]?=g.heap[q]?:=λq B=>by rw[g7];exact Az B _
 have e6:r.heap[W.heap.size+1+1+1]?=some (.cells #[.func (.func 111) #[] #[Pt U,Pt (W.heap.size+1+1+1),Pt (W.heap.size+1+1),Pt W.heap.size,Pt O]] 177 (0,0)):=by rw[g7];exact A2 g3 _
 have go:Bw W r:=by rw[g7];exact gy.setCell (p:=(Av (W.heap.size+1+1+1))) (by show W.heap.size<=W.heap.size+1+1+1;omega) _
 have gI:(store (Av (W.heap.size+1+1+1)) (.func (.func 111) #[] #[Pt U,Pt (W.heap.size+1+1+1),Pt (W.heap.size+1+1),Pt W.heap.size,Pt O])).run prog g=.ok () r:=by
  rw[run_store _ _ _ _ _ rfl];simp[c6,f6,g7]
 obtain⟨wd,gb⟩:=Ex r.drew;have gz:=Hd gb;have g6:Bw W wd:=by rw[gb];exact go.trans ((An r 1).mono go.size)
 have J:∀q:Nat,wd.heap[q]?=r.heap[q]?:=λq=>by rw[gb];rfl
 have L:wd.cell? (Av (W.heap.size+1+1+1))=some (.func (.func 111) #[] #[Pt U,Pt (W.heap.size+1+1+1),Pt (W.heap.size+1+1),Pt W.heap.size,Pt O]):=cell1 ((J _).trans e6);have M:wd.cell? (Av W.heap.size)=some (Pt xb):=cell1 ((J _).trans ((S _ (by omega)).trans g0));have k5:wd.cell? (Av (W.heap.size+1+1))=some (.map (some (W.heap.size+1))):=cell1 ((J _).trans ((S _ (by omega)).trans g2));have km:Au wd (W.heap.size+1) (Value.int .i64) []:=g1.keepB ((J _).trans (S _ (by omega)));have D:∀{b:Nat} {v:Value},W.cell? (Av b)=some v->wd.cell? (Av b)=some v:=λ{b v} h=>(Cq g6 h)
 have F:=D Z.f_;have gl:AR o wd xb mb:=⟨D R.cell,R.own⟩;have ge:=g4.below g6;have g9:m.d.vars.length=n:=g4.vars;have hs:TtS (K m.d V) ⟨U,W.heap.size+1+1+1,W.heap.size+1+1,W.heap.size,O,W.heap.size+1,xb⟩ mb o m V fv fx wd:=by
  refine⟨ge.is,ge.lt,hk,hk.small,gl,⟨s,D Z.a_,(by rw[g9];exact Z.an.below g6),λq e=>(i q (.inr (.inr (.inr (.inr (.inl e)))))).2⟩,L,k5,M,D Z.x_,Z.fx_.below g6,λe=>?_,⟨[],km,λp N=>by simp at N⟩,g4.lt.none (by show W.heap.size<=W.heap.size+1;omega),?_⟩
  . have:=(i (W.heap.size+1) (.inr (.inr (.inr (.inr (.inr e)))))).1;omega
  ·refine⟨?_,?_,?_,?_,?_,?_⟩
   . show W.heap.size+1≠U;omega
   . show W.heap.size+1≠W.heap.size+1+1+1;omega
   . show W.heap.size+1≠W.heap.size+1+1;omega
   . show W.heap.size+1≠W.heap.size;omega
   . show W.heap.size+1≠O;omega
   . show W.heap.size+1≠xb;omega
 have gj:=O5 m.d.vars.length f wd hs gn (by omega);have gA:=Hd (DQ ge.is gl g4.ok.handles.nodup hf);obtain⟨P,hP⟩:∃P:Ending->Wd->Prop,P=λe w'=>∃(o':Own) (m':ManD) (V':Nat->BF),B9 (CsT U O X H s fv) K o W mb m V o' w' m' V'/\BoT n wB U O X H s fv fx k w' /\
  ((e=.returned (.tuple #[])/\TotQ ws0 os H (totN n fx G) W.heap.size o' w' m' V') \/
   (∃er:Int,e=A1 er false ev0/\er≠0/\m'.waits=m.waits/\(m'.waits=ws0/\m'.d.vars=os)/\E er m m') \/
   (∃ev,e=A1 0 true ev/\m.waits=ev::m'.waits/\StE K n Od room w0 mb fs nx (λm=>m.waits=ws0/\m.d.vars=os) m'/\HapG K n Od room w0 mb fs nx ev)):=⟨_,rfl⟩
 have gp:Hq (∀Y v,Wr (· = W.heap.size+1) wd Y->TtS (K m.d V) ⟨U,W.heap.size+1+1+1,W.heap.size+1+1,W.heap.size,O,W.heap.size+1,xb⟩ mb o m V fv fx Y->NatV Y v (totN m.d.vars.length fx (ef V f))->(∀q,v.ownBlock=some q->o q=none) ->
  (∃I,(∃a l c,v=.slice a l c)/\((∃y,Y.cell? (Av H)=some y)/\Y.frozen? (Av H)=false/\Y.setCell (Av H) v=I)/\P (.returned (.tuple #[])) I /\
   I.cell? (Av (W.heap.size+1+1+1))=Y.cell? (Av (W.heap.size+1+1+1))/\I.cell? (Av W.heap.size)=Y.cell? (Av W.heap.size)/\I.cell? (Av X)=Y.cell? (Av X))):=Hd λY v hr h8 hv gE=>by
  obtain⟨na,nl,nc,gG⟩:=Z.n_;have gf:Y.heap[H]?=some (.cells #[.slice na nl nc] 40 (0,0)):=by
   rw[hr.keep H (by have:=g6.size;omega) (λe=>by have e:H=W.heap.size+1:=e;omega),g6.block H lN];exact gG
  obtain⟨I,gc⟩:=Ex (Y.setCell (Av H) v);have T:∀q:Nat,q≠H->I.heap[q]?=Y.heap[q]?:=λq B=>by rw[gc];exact Az B _
  have gw:I.heap[H]?=some (.cells #[v] 40 (0,0)):=by rw[gc];exact A2 gf _
  have gm:Wr (· = H) Y I:=by rw[gc];exact(Wr.refl (· = H) Y).setCell (p:=Av H) (.inl rfl) v
  have gu:Wr (· = H) W I:=((Wr.of_below g6 (· = H)).trans hr (λ_ _ e=>e) (λk hk e=>by have e:k=W.heap.size+1:=e;omega)).trans gm (λ_ _ e=>e) (λ_ _ e=>e);have gt:NatV I v (totN m.d.vars.length fx (ef V f)):=hv.keepC λb j d Q=>T b λe=>by
   subst e;rw[Xw _ _ _ _ _ _ gf]at Q;rcases(show j=0\/1<=j by omega)with rfl|hj
   . simp at Q
   . rw[ZD (by simpa using hj)]at Q;cases Q
  have gF:o H=none:=(i H (.inr (.inr (.inr (.inl rfl))))).2;obtain⟨va',vl',vc',gr⟩:∃a l c,v=.slice a l c:=by
   obtain⟨a,c,e,_⟩:=hv;exact⟨a,_,c,e⟩
  refine⟨I,⟨va',vl',vc',gr⟩,?_,?_,XR (w:=Y) (a:=(Av (W.heap.size+1+1+1))) (T (W.heap.size+1+1+1) (by omega)),XR (w:=Y) (a:=Av W.heap.size) (T W.heap.size (by omega)),XR (w:=Y) (a:=Av X) (T _ (z X (.inr (.inr (.inl rfl)))))⟩
  . exact⟨⟨_,cell1 gf⟩,by simp[World.frozen?,gf],gc.symm⟩
  ·rw[hP];refine⟨o,m,V,⟨h8.is.other h8.lt gm (λq _ e=>by have e:q=H:=e;subst e;exact gF),h8.lt.mono gm.size,ChgX.of_wr gu o (λq _ e=>.inr (.inr (.inr (.inl e)))),hk,Ext.refl _ _,rfl,rfl⟩,?_,.inl ⟨rfl,gq,gv,v,cell1 gw,?_,gE⟩⟩
   ·have g8:∀q,(q=U\/q=O\/q=X\/s.ownBlock=some q\/fv=.map (some q))->I.heap[q]?=W.heap[q]?:=λq B=>gu.keep q (i q (by
     rcases B with e|e|e|e|e
     . exact .inl e
     . exact .inr (.inl e)
     . exact .inr (.inr (.inl e))
     . exact .inr (.inr (.inr (.inr (.inl e))))
     . exact .inr (.inr (.inr (.inr (.inr e)))))).1 (z q B)
    refine⟨⟨va',vl',vc',by rw[<-gr];exact gw⟩,Co Z.a_ (g8 _ (.inl rfl)),Z.an.keepO λq e=>g8 q (.inr (.inr (.inr (.inl e)))),Co Z.x_ (g8 _ (.inr (.inl rfl))),Z.fx_.keepO λq e=>g8 q (.inr (.inr (.inr (.inr e)))),Co Z.f_ (g8 _ (.inr (.inr (.inl rfl)))),λq e=>(g8 q (.inr (.inr (.inr (.inr e))))).trans (Z.s_ q e)⟩
   . rw[g9,gx]at gt;exact gt
 have gk:Hq (Cl 111 #[Iv f,Pt U,Pt (W.heap.size+1+1+1),Pt (W.heap.size+1+1),Pt W.heap.size,Pt O] wd λx w'=>∃u,x=.returned u/\(w'.cell? (Av (W.heap.size+1+1+1))=some (.func (.func 111) #[] #[Pt U,Pt (W.heap.size+1+1+1),Pt (W.heap.size+1+1),Pt W.heap.size,Pt O])/\w'.cell? (Av W.heap.size)=some (Pt xb)/\w'.cell? (Av X)=some (Iv k))/\∃I,(∃a l c,u=.slice a l c)/\((∃y,w'.cell? (Av H)=some y)/\w'.frozen? (Av H)=false/\w'.setCell (Av H) u=I)/\P (.returned (.tuple #[])) I/\(I.cell? (Av (W.heap.size+1+1+1))=some (.func (.func 111) #[] #[Pt U,Pt (W.heap.size+1+1+1),Pt (W.heap.size+1+1),Pt W.heap.size,Pt O])/\I.cell? (Av W.heap.size)=some (Pt xb)/\I.cell? (Av X)=some (Iv k))):=Hd (gj.mono (by
  rintro x w' ⟨v,rfl,q1,A,q3,q4⟩;obtain⟨I,rs,r1,r2,r3,r4,r5⟩:=gp.o w' v q1 A q3 q4;have C:w'.cell? (Av X)=some (Iv k):=Co F (q1.keep X (Ad F) (λe=>by have e:X=W.heap.size+1:=e;omega));exact⟨v,rfl,⟨A.bt,A.bx,C⟩,I,rs,r1,r2,⟨r3.trans A.bt,r4.trans A.bx,r5.trans C⟩⟩))
 rw[<-hP];have eg1:=Km;have gL:Hq (_=r):=Hd g7.symm;clear hP gp gj hs ge hk gx hf gn gC gD g4 Z i R hnx z hm gy go g6 J S e6 g0 g1 g2 g3 g5 g7 gb k5 km D gB gl g9 lN lA lX lF gq gv
 go_enter func110,ntmps110
 go_upto_region 3 with fail;rw[gH.o];go_upto_region 4 with fail;refine D4 [0,1,2,3,4,5] (λW'=>W'.cell? (Av (W.heap.size+1+1+1))=some (.func (.func 111) #[] #[Pt U,Pt (W.heap.size+1+1+1),Pt (W.heap.size+1+1),Pt W.heap.size,Pt O])/\W'.cell? (Av W.heap.size)=some (Pt xb)/\W'.cell? (Av X)=some (Iv k)) (λch w'=>False) (λc a w hd h=>h.elim) (by kernel_rfl) (by rw[<-gz.o];exact⟨L,M,F⟩) ?_;rw[<-gz.o]
 iterate 3
  refine Ce rfl rfl (by kernel_rfl) ?_;apply Exists.intro;refine⟨λw' hw=>?_,?_⟩
  . obtain⟨q1,A,q3⟩:=hw;go_simp;rfl
  simp only[Ab]
 refine BX (R1:=λu w'=>u=Iv f/\wd=w') rfl (by kernel_rfl) rfl rfl (by go_simp) (gA.o.mono λx w' h=>⟨_,h.1,rfl,h.2⟩) (by rintro u w' ⟨_,rfl⟩;exact⟨L,M,F⟩) ?_;rintro u w'-⟨rfl,rfl⟩;simp only[Ab];refine BX (R1:=λu w'=>(w'.cell? (Av (W.heap.size+1+1+1))=some (.func (.func 111) #[] #[Pt U,Pt (W.heap.size+1+1+1),Pt (W.heap.size+1+1),Pt W.heap.size,Pt O])/\w'.cell? (Av W.heap.size)=some (Pt xb)/\w'.cell? (Av X)=some (Iv k))/\∃I,(∃a l c,u=.slice a l c)/\((∃y,w'.cell? (Av H)=some y)/\w'.frozen? (Av H)=false/\w'.setCell (Av H) u=I)/\P (.returned (.tuple #[])) I/\(I.cell? (Av (W.heap.size+1+1+1))=some (.func (.func 111) #[] #[Pt U,Pt (W.heap.size+1+1+1),Pt (W.heap.size+1+1),Pt W.heap.size,Pt O])/\I.cell? (Av W.heap.size)=some (Pt xb)/\I.cell? (Av X)=some (Iv k))) rfl (by kernel_rfl) rfl rfl (by go_simp) (gk.o.mono λx w' ⟨u,e,q⟩=>⟨u,e,q⟩) (by rintro u w' ⟨q,_⟩;exact q) ?_;rintro u Y-⟨⟨s1,s2,s3⟩,I,⟨ua,ul,uc,rfl⟩,⟨⟨cy,cN⟩,fN,gd⟩,N,hS⟩;have HF:=Hd N;clear N;simp only[Ab];refine UR (w':=I) rfl (by kernel_rfl) rfl rfl (by go_simp<;>exact gd) hS ?_;clear gd hS s1 s2 s3 cN fN;simp only[Ab];refine D5 (by kernel_rfl) ?_;clear L M F gk gA;go_wp2_with fail;refine YW (Y7 rfl _ _ _) rfl ?_;exact HF.o
def VE (h:SatE K n Od room w0 mb fs nx w o m V){k:Int}(M:(k,G)∈fs)(Z:Cp w fv fx)(X:∀q,fv=.map (some q)->q<w.heap.size/\w0.heap.size<=q/\o q=none):
 Cl 69 #[Pt mb,Iv k,fv] w λx w'=>∃v,x=.returned (.tuple #[v,Iv 0])/\NatV w' v (totN n fx G)/\AskN K n Od room w0 mb fs nx m o w w' v:=by
 have gz:∀(fn:Fn) (first cap:Array Value) (w:Wd),(Instr.makeFunc fn first cap).run prog w=.ok (.func fn first cap) w:=λ_ _ _ _=>rfl
 have hw0:=h.chg.size;obtain⟨fm,rfl⟩:∃q,fv=.map q:=by
  rcases Z with ⟨e,_⟩|⟨ft,l,e,_⟩
  . exact⟨_,e⟩
  . exact⟨_,e⟩
 have hn64:n<=64:=by have:=h.ok.store.small;rw[h.vars]at this;exact this
 obtain⟨s,hs⟩:=Ex w.heap.size;obtain⟨w1,g3⟩:=Ex (((w.alloc (.cells #[Iv k] 3)).alloc (.cells #[.map fm] 120)).alloc (.cells #[.slice none 0 0] 40));have go:w1.heap.size=s+1+1+1:=by rw[g3,hs];simp
 have A:Bw w w1:=by rw[g3];exact((Ag _ _).alloc (by simp) _).alloc (by simp;omega) _
 have g0:w1.heap[s]?=some (.cells #[Iv k] 3 (0,0)):=by
  rw[g3,hs];exact(X1 _ _ (by simp;omega)).trans ((X1 _ _ (by simp)).trans (Xv _ _))
 have g1:w1.heap[s+1]?=some (.cells #[.map fm] 120 (0,0)):=by
  have:=Xv (w.alloc (.cells #[Iv k] 3)) (.cells #[.map fm] 120);rw[X3]at this;rw[g3,hs];exact(X1 _ _ (by simp)).trans this
 have g2:w1.heap[s+1+1]?=some (.cells #[.slice none 0 0] 40 (0,0)):=by
  have:=Xv ((w.alloc (.cells #[Iv k] 3)).alloc (.cells #[.map fm] 120)) (.cells #[.slice none 0 0] 40);rw[X3,X3]at this;rw[g3,hs];exact this
 have N:=Hd (UW (w:=w1) (n:=1) (by omega))
 have T:Hq (∀w2 v1,Bw w1 w2->NatV w2 v1 1->Cl 46 #[Pt mb] w2 ((Sm (Iv (n:Nat)) w2)) /\
  Cl 109 #[v1,Iv (n:Nat)] w2 λx H=>∃I,(∃a l c,I=.slice a l c)/\x=.returned I /\
   Cl 56 #[Pt mb,.func (.func 110) #[] #[Pt H.heap.size,Pt (s+1),Pt s,Pt (s+1+1)]] (H.alloc (.cells #[I] 40)) λx w'=>x=.returned (Iv 0)/\∃v,w'.heap[s+1+1]?=some (.cells #[v] 40 (0,0))/\NatV w' v (totN n fx G)/\AskN K n Od room w0 mb fs nx m o w w' v):=Hd λw2 v1 g5 gc=>by
  have g8:Bw w w2:=A.trans (g5.mono A.size);have gk:=h.below g8;refine⟨?_,?_⟩
  . have p:=DR gk.is;rw[gk.vars]at p;exact p
  ·refine(Vl gc (by rw[Do (by omega),BY];simp) (show n<=4096 by omega)).mono ?_;rintro x H ⟨⟨I,rfl,ge,F,qa,e,gB⟩,C⟩;rw[Nat.one_mul]at ge;refine⟨I,⟨_,_,_,e⟩,rfl,?_⟩;have gy:=g5.size;have gx:=C.size;obtain⟨O,u⟩:=Ex (H.alloc (.cells #[I] 40));rw[<-u];have D:Bw H O:=by rw[u];exact Ag _ _
   have gw:O.heap.size=H.heap.size+1:=by rw[u];simp
   have gA:O.heap[H.heap.size]?=some (.cells #[I] 40 (0,0)):=by rw[u];exact Xv _ _
   have S:Bw w H:=g8.trans (C.mono g8.size);have g7:Bw w O:=S.trans (D.mono S.size);have g9:Bw w1 O:=(g5.trans (C.mono g5.size)).trans (D.mono (by omega));have gp:=h.below g7;have e0:O.heap[s]?=_:=(g9.block s (by omega)).trans g0;have e1:O.heap[s+1]?=_:=(g9.block (s+1) (by omega)).trans g1;have e2:O.heap[s+1+1]?=_:=(g9.block (s+1+1) (by omega)).trans g2;have g6:∀q,I.ownBlock=some q->q=F:=λq r=>by rw[e]at r;exact(Yr r).symm
   have gv:F<H.heap.size:=by
    obtain⟨a,c,e3,_,_,hu⟩:=ge;have hl:0<(digD (2^n)).length:=by rw[Do (Nat.pos_iff_ne_zero.1 (Yg (by omega)))];simp
    obtain⟨b,off,e4,i⟩:=hu.cells 0 hl;rw[e,e4]at e3;injection e3 with e5
    have e6:F=b:=by injection e5 with e7;injection e7
    rw[e6];exact Ad i
   have gr:BoT n O H.heap.size (s+1) s (s+1+1) I (.map fm) fx k O:=⟨⟨none,0,0,e2⟩,cell1 gA,ge.below D,cell1 e1,Z.below g7,cell1 e0,λ_ _=>rfl⟩;have hC:∀q,CsT H.heap.size (s+1) s (s+1+1) I (.map fm) q->q<O.heap.size/\o q=none:=by
    rintro q (rfl|rfl|rfl|rfl|e|e)
    . exact⟨by omega,h.lt.none (by omega)⟩
    . exact⟨by omega,h.lt.none (by omega)⟩
    . exact⟨by omega,h.lt.none (by omega)⟩
    . exact⟨by omega,h.lt.none (by omega)⟩
    . rw[g6 q e];exact⟨by omega,h.lt.none (by omega)⟩
    . have:=X q e;exact⟨by omega,this.2.2⟩
   have gt:∀q,CsT H.heap.size (s+1) s (s+1+1) I (.map fm) q->w0.heap.size<=q:=by
    rintro q (rfl|rfl|rfl|rfl|e|e)
    . omega
    . omega
    . omega
    . omega
    . rw[g6 q e];omega
    . exact(X q e).2.1
   have gq:∀q,(q=H.heap.size\/q=s+1\/q=s\/I.ownBlock=some q\/(.map fm:Value)=.map (some q))->q≠s+1+1:=by
    rintro q (rfl|rfl|rfl|e|e)
    . omega
    . omega
    . omega
    . rw[g6 q e];omega
    . have:=(X q e).1;omega
   have t:=JK (B:=BoT n O H.heap.size (s+1) s (s+1+1) I (.map fm) fx k) (QP:=TotQ m.waits m.d.vars (s+1+1) (totN n fx G) 0) (St:=λm'=>m'.waits=m.waits/\m'.d.vars=m.d.vars) (λ_ _ hb hk=>hb.keep hk) (λs' o' W W' m' V' i hz hu r a=>by
    obtain⟨g,U,v,Y,f,y⟩:=r;have hN:=i (s+1+1) (.inr (.inr (.inr (.inl rfl))));refine⟨g,U,v,Co Y (a.keep (s+1+1) (by omega) (by omega)),f.keepC λb j d gf=>a.keep b (Ad gf) (λe=>?_),y⟩;rcases e with rfl|rfl
    . exact hu.1 j d gf
    . exact hu.2 j d gf) (λm' d L hr=>⟨L.1,by show d.vars=_;rw[hr.vars];exact L.2⟩) gt VC (VD (E:=λ_ _ _=>False) gq M m.waits m.d.vars) gp gr hC ⟨rfl,rfl⟩
   refine t.mono ?_;rintro x w' ⟨er,rfl,o',m',V',hs',R,i,⟨rfl,g,U,v,Y,f,y⟩|⟨_,m0,e,_⟩⟩
   ·obtain⟨na,nl,nc,J⟩:=R.n_;have p:v=.slice na nl nc:=Yr (Y.symm.trans (cell1 J));refine⟨rfl,v,by rw[p];exact J,f,o',m',V',?_,g,U,hs',y⟩;have g4:ChgX (CsT H.heap.size (s+1) s (s+1+1) I (.map fm)) o o' w w':=(ChgX.of_below g7 o _).trans i (λ_ _ e=>e);refine⟨g4.os,g4.tape,g4.output,g4.size,λk hk ho _=>?_,g4.ext,g4.new⟩
    by_cases e:CsT H.heap.size (s+1) s (s+1+1) I (.map fm) k
    ·rcases e with e|e|e|e|e|e
     . omega
     . omega
     . omega
     . omega
     . have:=g6 k e;omega
     . exact(R.s_ k e).trans (g7.block k hk)
    . exact g4.block k hk ho e
   . exact e.elim
 have HW1:=Hd g3.symm;obtain⟨P,z⟩:=Ex (λx w'=>∃v,x=.returned (.tuple #[v,Iv 0])/\NatV w' v (totN n fx G)/\AskN K n Od room w0 mb fs nx m o w w' v:Ending->Wd->Prop)
 have HP:Hq (∀w' v,NatV w' v (totN n fx G)->AskN K n Od room w0 mb fs nx m o w w' v->P (.returned (.tuple #[v,Iv 0])) w'):=Hd λw' v h1 h2=>by rw[z];exact⟨v,rfl,h1,h2⟩
 have HS:=Hd hs;rw[<-z];clear z h hw0 hn64 g3 go A g0 g1 g2 M Z X hs
 go_enter func69,ntmps69
 go_upto_region 1 with fail;rw[HW1.o,<-HS.o];go_wp2_with fail;refine N.o.mono ?_;rintro x w2 ⟨⟨v1,rfl,gc⟩,g5⟩;obtain⟨g,U⟩:=T.o w2 v1 g5 gc;have HV:=Hd g;have Q:=Hd U;clear g U g5 gc T N;go_wp2_with fail;refine HV.o.mono ?_;rintro x w' ⟨rfl,rfl⟩;go_wp2_with fail;refine Q.o.mono ?_;rintro x H ⟨I,⟨ya,yl,yc,rfl⟩,rfl,t⟩;have HL:=Hd t;clear t HV Q;go_wp2_with fail;refine HL.o.mono ?_;rintro x w' ⟨rfl,v,U,Y,f⟩;have HF:=Hd (HP.o w' v Y f);have gu:=Hd (O8 U);have c2:=cell1 U;have f1:w'.frozen? (Av (s+1+1))=false:=by simp[World.frozen?,U]
 obtain⟨va',vl',vc',rfl⟩:∃a l c,v=.slice a l c:=by
  obtain⟨a,c,e,_⟩:=Y;exact⟨a,_,c,e⟩
 clear Y f HL HP;go_wp2_with fail;rw[gu.o];have hu:=underlying40;refine X2 (v:=.tuple #[.slice va' vl' vc',Iv 0]) ((results_cell_tmp rfl _ _ _).trans ?_) rfl HF.o
 show((asAddr (Pt (s+1+1))).run prog w').andThen (λa w₁=>((loadVar 40 a).run prog w₁).andThen λv w₂=>.ok (Value.tuple #[v,Iv 0]) w₂)=_
 go_simp
end
section
variable {o:Own}
def known (fs:List (Int×BF))(k:Int):Prop:=∃F,(k,F)∈fs
def Kq (h:SatE K n Od room w0 mb fs nx w o m V)(k:Int){b:Bool}(hb:b=true↔known fs k):Cl 100 #[Pt mb,Iv k] w (Sm (.bool b) w):=by
 cases b with
 | true=>
   obtain⟨F,I⟩:=hb.1 rfl;exact MA h I
 | false=>exact Tj h (λp H e=>by
  have:known fs k:=⟨p.2,by rw[<-e];exact H⟩;have:=hb.2 this;cases this)
end
def VF (h:NatV w v x)(hk:k<=4096):
 Cl 70 #[v,Iv (k:Nat)] w λe w'=>(∃v',e=.returned v'/\NatV w' v' (x/2^k)/\∀q,v'.ownBlock=some q->v.ownBlock=some q\/w.heap.size<=q)/\Bw w w':=by
 obtain⟨P,U⟩:=Ex (λe w'=>(∃v',e=.returned v'/\NatV w' v' (x/2^k)/\∀q,v'.ownBlock=some q->v.ownBlock=some q\/w.heap.size<=q)/\Bw w w':Ending->Wd->Prop)
 have g1:=Hd U;rw[<-U];have c:Hq (NatV w v (x/2^0)/\∀q,v.ownBlock=some q->v.ownBlock=some q\/w.heap.size<=q):=Hd ⟨by simpa using h,λq e=>.inl e⟩;have g2:Hq (Bw w w):=Hd (X7 _ _);clear U h
 go_enter func70,ntmps70
 go_wp2
 go_loopw [0,6] (λX O wr=>∃j:Nat,j<=k/\O=Iv (j:Int)/\Hq (NatV wr X (x/2^j)/\∀q,X.ownBlock=some q->v.ownBlock=some q\/w.heap.size<=q)/\Hq (Bw w wr)) (λ_ O _=>k-(intOf O).toNat)
 case atStart=>exact⟨0,X0 _,rfl,c,g2⟩
 case round=>
  obtain⟨j,d,rfl,I,H⟩:=hrel
  by_cases g4:j<k
  ·have g5:(j:Int)<(k:Int):=by omega
   have a:=Hd (Ov I.o.1);clear I;go_wp2_with fail;refine a.o.mono ?_;rintro e w' ⟨⟨v',rfl,Y,Z⟩,hb⟩;have g0:Hq (NatV w' v' (x/2^(j+1))/\∀q,v'.ownBlock=some q->v.ownBlock=some q\/w.heap.size<=q):=Hd ⟨by rw[XJ,<-Zb];exact Y,λq e=>.inr (Xz H.o.size (Z q e))⟩;have HB2:=Hd (H.o.trans (hb.mono H.o.size));clear Y Z hb a H;go_wp2;go_roundw
   case rel=>exact⟨j+1,by omega,by rw[show((j+1:Nat):Int)=(j:Int)+1 by omega],g0,HB2⟩
   case measure=>simp[intOf];omega
  ·obtain rfl:j=k:=by omega
   have g3:¬ (j:Int)<(j:Int):=by omega
   have b:Hq (P (.returned u0) wr):=Hd (by rw[g1.o];exact⟨⟨_,rfl,I.o.1,I.o.2⟩,H.o⟩);clear I H;go_wp2_with fail;exact b.o
section
variable {o:Own}
def VG (h:SatE K n Od room w0 mb fs nx w o m V)(k:Int){b:Bool}(hb:b=true↔known fs k):
 Cl 65 #[Pt mb,Iv k] w (Sm (Iv (if b then 0 else 8)) w):=by
 have H:=Hd (Kq h k hb);clear h hb;cases b with
 | true=>
   go_enter func65,ntmps65
   go_wp2_with fail;refine H.o.mono ?_;rintro e w' ⟨rfl,rfl⟩;go_wp2;go_ret;exact⟨rfl,rfl⟩
 | false=>
   go_enter func65,ntmps65
   go_wp2_with fail;refine H.o.mono ?_;rintro e w' ⟨rfl,rfl⟩;go_wp2;go_ret;exact⟨rfl,rfl⟩
end
def VH (hi:i<2^n):A4 (AE i (n+1))=upd (A4 (AE i n)) n false:=funext λv=>by
 unfold upd A4 AE
 by_cases h:v=n
 . subst h;simp[List.getD,bitB,Y0 hi]
 ·rw[Xu h];rcases X9 v n with c|c
  . simp[List.getD,c,show v<n+1 by omega]
  . simp[List.getD,show ¬ v<n by omega,show ¬ v<n+1 by omega]
def VI (hi:i<2^n):A4 (AE (2^n+i) (n+1))=upd (A4 (AE i n)) n true:=funext λv=>by
 unfold upd A4 AE
 by_cases h:v=n
 ·subst h;have e:(2^v+i)/2^v=1:=by
   rw[Nat.add_div_left _ (Yg (by omega)),Y0 hi]
  simp[List.getD,bitB,e]
 ·rw[Xu h];rcases X9 v n with c|c
  ·have e:(2^n+i)/2^v%2=i/2^v%2:=by
    have h2:2^n=2^v*(2*2^(n-v-1)):=by
     rw[<-Nat.pow_succ',<-Zr];congr 1;omega
    rw[h2,Nat.mul_add_div (Yg (by omega))];omega
   simp[List.getD,c,show v<n+1 by omega,bitB,e]
  . simp[List.getD,show ¬ v<n by omega,show ¬ v<n+1 by omega]
def VJ (n:Nat)(F:BF):tabB (n+1) F=tabB n (cofF F n false)++tabB n (cofF F n true):=by
 unfold tabB;rw[XJ,Nat.mul_two,List.range_add,XG,Y9];congr 1
 ·refine YQ λi hi=>?_
  rw[VH (YE.1 hi)];rfl
 ·refine YQ λi hi=>?_
  show F (A4 (AE (2^n+i) (n+1)))=_
  rw[VI (YE.1 hi)];rfl
def Kr:∀(n:Nat) (F:BF),(tabB n F).count true=cntN n F λ_=>false
 | 0,F=>by
   show([F (A4 (AE 0 0))]:List Bool).count true=if F _=true then 1 else 0
   have:A4 (AE 0 0)=λ_=>false:=funext λv=>by simp[A4,AE]
   rw[this];cases F λ_=>false<;>rfl
 | n+1,F=>by
   rw[VJ,List.count_append,Kr n,Kr n,CR F n false n _ (Xs _),CR F n true n _ (Xs _)];rfl
def nfix:Nat->(Nat->Option Bool)->Nat
 | 0,_=>0
 | n+1,fx=>nfix n fx+(if(fx n).isSome then 1 else 0)
def cntA:Nat->BF->(Nat->Option Bool)->(Nat->Bool)->Nat
 | 0,F,_,ρ=>if F ρ then 1 else 0
 | n+1,F,fx,ρ=>match fx n with
   | none=>cntA n F fx (upd ρ n false)+cntA n F fx (upd ρ n true)
   | some b=>cntA n F fx (upd ρ n b)
def Ij (F:BF)(fx:Nat->Option Bool):∀(n:Nat) (ρ:Nat->Bool),(∀v,n<=v->∀b,fx v=some b->ρ v=b)->cntN n (fixV fx F) ρ=2^nfix n fx*cntA n F fx ρ
 | 0,ρ,h=>by
   have e:(λv=>(fx v).getD (ρ v))=ρ:=funext λv=>by
    cases H:fx v with
    | none=>rfl
    | some b=>exact(h v (X0 _) b H).symm
   show(if F (λv=>(fx v).getD (ρ v))=true then 1 else 0)=2^0*(if F ρ=true then 1 else 0)
   rw[e];simp
 | n+1,ρ,h=>by
   show cntN n _ (upd ρ n false)+cntN n _ (upd ρ n true)=_
   cases H:fx n with
   | none=>
     have hu:∀c,∀v,n<=v->∀b,fx v=some b->upd ρ n c v=b:=λc v O b hb=>by
      by_cases e:v=n
      . subst e;rw[H]at hb;cases hb
      . unfold upd;rw[Xu e];exact h v (by omega) b hb
     rw[Ij F fx n _ (hu false),Ij F fx n _ (hu true)];simp[cntA,nfix,H,ZB]
   | some b=>
     have hu:∀v,n<=v->∀I,fx v=some I->upd ρ n b v=I:=λv O I hb=>by
      by_cases e:v=n
      . subst e;rw[H]at hb;cases hb;simp[upd]
      . unfold upd;rw[Xu e];exact h v (by omega) I hb
     have X:∀c,cofF (fixV fx F) n c=fixV fx F:=λc=>funext fun σ=>by
      show F (λv=>(fx v).getD (upd σ n c v))=F λv=>(fx v).getD (σ v)
      congr 1;funext v
      by_cases e:v=n
      . subst e;rw[H];rfl
      . unfold upd;rw[Xu e]
     have U:∀c,cntN n (fixV fx F) (upd ρ n c)=cntN n (fixV fx F) ρ:=λc=>by
      rw[<-CR _ n c n ρ (Xs _),X]
     have e1:cntA (n+1) F fx ρ=cntA n F fx (upd ρ n b):=by simp[cntA,H]
     have e2:nfix (n+1) fx=nfix n fx+1:=by simp[nfix,H]
     rw[U false,U true,<-U b,Ij F fx n _ hu,e1,e2,XJ,Nat.mul_right_comm,Nat.mul_two]
def agF:Nat->(Nat->Option Bool)->(Nat->Bool)->Bool
 | 0,_,_=>true
 | n+1,fx,ρ=>agF n fx ρ&&(match fx n with|none=>true|some b=>ρ n == b)
def O9 (n:Nat)(ρ:Nat->Bool):cntN n (λ_=>false) ρ=0:=by
 have h1:=Ke n (λ_=>false) ρ;have h2:cntN n (notF λ_=>false) ρ=2^n:=NT n ρ;omega
def OA (F:BF)(fx:Nat->Option Bool):∀(n:Nat) (ρ:Nat->Bool),cntN n (fun σ=>F σ&&agF n fx σ) ρ=cntA n F fx ρ
 | 0,ρ=>by
   show(if(F ρ&&true)=true then 1 else 0)=if F ρ=true then 1 else 0
   rw[Bool.and_true]
 | n+1,ρ=>by
   have key:∀c,cntN n (fun σ=>F σ&&agF (n+1) fx σ) (upd ρ n c)=if(match fx n with|none=>true|some b=>c == b)=true then cntA n F fx (upd ρ n c)else 0:=λc=>by
    rw[<-CR _ n c n ρ (Xs _)];have e1:∀σ,agF (n+1) fx (upd σ n c)=(agF n fx (upd σ n c)&&(match fx n with|none=>true|some b=>c == b)):=fun σ=>by
     show(agF n fx (upd σ n c)&&_)=_
     rw[show upd σ n c n=c by simp[upd]]
    by_cases H:(match fx n with|none=>true|some b=>c == b)=true
    ·rw[Xx H,<-OA F fx n,<-CR _ n c n ρ (Xs _)];refine UL (fun σ=>?_) n ρ;rw[Bq,Bq]
     show(F (upd σ n c)&&agF (n+1) fx (upd σ n c))=(F (upd σ n c)&&agF n fx (upd σ n c))
     rw[e1,H,Bool.and_true]
    ·rw[Xu H]
     rw[show cofF (fun σ=>F σ&&agF (n+1) fx σ) n c=λ_=>false from funext fun σ=>by
      rw[Bq]
      show(F (upd σ n c)&&agF (n+1) fx (upd σ n c))=false
      rw[e1,Bool.eq_false_iff.2 H,Bool.and_false,Bool.and_false]]
     exact O9 n ρ
   show cntN n _ (upd ρ n false)+cntN n _ (upd ρ n true)=_
   rw[key false,key true];have I:cntA (n+1) F fx ρ=match fx n with|none=>cntA n F fx (upd ρ n false)+cntA n F fx (upd ρ n true)|some b=>cntA n F fx (upd ρ n b):=rfl
   rw[I];cases fx n with
   | none=>simp
   | some b=>cases b<;>simp
def VK (n:Nat)(F:BF)(fx:Nat->Option Bool)(I:∀v,n<=v->fx v=none):totN n fx F=2^nfix n fx*(tabB n fun σ=>F σ&&agF n fx σ).count true:=by
 rw[Kr,OA];exact Ij F fx n _ λv H b hb=>by rw[I v H]at hb;cases hb
def VL (n:Nat)(F:BF)(fx:Nat->Option Bool)(H:∀v,n<=v->fx v=none):totN n fx F/2^nfix n fx=(tabB n fun σ=>F σ&&agF n fx σ).count true:=by
 rw[VK n F fx H,Nat.mul_div_cancel_left _ (Yg (by omega))]
def VM (O:∀v,n<=v->fx v=none)(hi:∀v,v<n->(fx v).isSome->Indep F v):fixV fx F=F:=by
 have key:∀k,k<=n->∀ρ,F (λv=>if v<k then(fx v).getD (ρ v)else ρ v)=F ρ:=λk=>by
  induction k with
  | zero=>intro _ ρ;simp
  | succ k I=>
    intro hk ρ;rw[<-I (by omega) ρ];cases H:fx k with
    | none=>
      congr 1;funext v
      by_cases e:v=k
      . subst e;simp[H]
      ·by_cases c:v<k
       . rw[Xx c,Xx (by omega)]
       . rw[Xu c,Xu (by omega)]
    | some b=>
      rw[<-hi k (by omega) (by rw[H];rfl) (λv=>if v<k then(fx v).getD (ρ v)else ρ v) b];congr 1;funext v
      by_cases e:v=k
      . subst e;simp[H,upd]
      ·show _=upd (λv=>if v<k then(fx v).getD (ρ v)else ρ v) k b v
       unfold upd;rw[Xu e]
       by_cases c:v<k
       . rw[Xx (by omega)];simp[c]
       . rw[Xu (by omega)];simp[c]
 funext ρ;rw[<-key n (Xs _) ρ]
 show F _=F _
 congr 1;funext v
 by_cases c:v<n
 . rw[Xx c]
 . rw[Xu c,O v (by omega)];rfl
def AskN.next {o:Own}(h:AskN K n Od room w0 mb fs nx m o w w1 v)(hb:Bw w1 w')(I:∀q,v'.ownBlock=some q->v.ownBlock=some q\/w1.heap.size<=q):AskN K n Od room w0 mb fs nx m o w w' v':=by
 obtain⟨o',m',V',h1,h2,h3,H,O⟩:=h;refine⟨o',m',V',h1.trans (ChgX.of_below hb o' NoB) (λ_ _ e=>e),h2,h3,H.below hb,λq e=>?_⟩;rcases I q e with e|e
 . exact O q e
 . exact H.lt.none e
def AskN.of {o:Own}(h:SatE K n Od room w0 mb fs nx w o m V)(hb:Bw w w')(c:Nat):AskN K n Od room w0 mb fs nx m o w w' (.slice none 0 c):=
 ⟨o,m,V,ChgX.of_below hb o NoB,rfl,rfl,h.below hb,λq e=>by cases e⟩
section
variable {o:Own}
def VN (h:SatE K n Od room w0 mb fs nx w o m V){k:Int}(H:(k,G)∈fs):
 Cl 69 #[Pt mb,Iv k,.map none] w λx w'=>∃v,x=.returned (.tuple #[v,Iv 0])/\NatV w' v (totN n (λ_=>none) G)/\AskN K n Od room w0 mb fs nx m o w w' v:=
 VE h H (.inl ⟨rfl,λ_=>rfl⟩) (λq e=>by cases e)
end
def setL (zs:List Int):List (Int×Value):=zs.foldl (λl z=>putL z (.bool true) l) []
def VO (zs:List Int)(z:Int):setL (zs++[z])=putL z (.bool true) (setL zs):=by
 unfold setL;rw[Zz];rfl
def Ks:∀(zs:List Int) (l:List (Int×Value)),(l.map Prod.fst).Nodup->((zs.foldl (λl z=>putL z (.bool true) l) l).map Prod.fst).Nodup/\∀z,getL (zs.foldl (λl z=>putL z (.bool true) l) l) z=if z∈zs then some (.bool true)else getL l z
 | [],l,h=>⟨h,λz=>by simp⟩
 | y::r,l,h=>by
   obtain⟨h1,h2⟩:=Ks r (putL y (.bool true) l) (Gx h y _);refine⟨h1,λz=>?_⟩;rw[List.foldl_cons,h2 z,IB h]
   by_cases e1:z∈r
   . rw[Xx e1,Xx (Ys _ e1)]
   ·rw[Xu e1]
    by_cases e2:z=y
    . rw[Xx e2,Xx (by rw[e2];exact XX ..)]
    . rw[Xu e2,Xu (by simp[e1,e2])]
def VP (zs:List Int):((setL zs).map Prod.fst).Nodup:=(Ks zs [] (by simp)).1
def OB (zs:List Int)(z:Int):getL (setL zs) z=if z∈zs then some (.bool true)else none:=by
 have:=(Ks zs [] (by simp)).2 z;exact this
def VQ {l:List (Int×Value)}(z:Int):z∈l.map Prod.fst↔(getL l z).isSome=true:=by
 constructor
 ·intro h;cases O:getL l z with
  | some v=>rfl
  | none=>
    obtain⟨p,I,e⟩:=X6.1 h;exact absurd e (Db.1 O p I)
 . intro h;obtain⟨v,H⟩:=Option.isSome_iff_exists.1 h;exact X6.2 ⟨_,Ej H,rfl⟩
def CT:Nat->List Int->Nat
 | 0,_=>0
 | n+1,l=>CT n l+if(n:Int)∈l then 1 else 0
def Kt {l H:List Int}:∀n:Nat,(∀v:Nat,v<n->((v:Int)∈l↔(v:Int)∈H))->CT n l=CT n H
 | 0,_=>rfl
 | n+1,h=>by
   unfold CT;rw[Kt n λv I=>h v (by omega)]
   by_cases e:(n:Int)∈l
   . rw[Xx e,Xx ((h n (by omega)).1 e)]
   . rw[Xu e,Xu (λc=>e ((h n (by omega)).2 c))]
def Ik:∀(n:Nat) (l:List Int),l.Nodup->(∀z∈l,0<=z/\z<(n:Int))->l.length=CT n l
 | 0,l,_,h=>by
   cases l with
   | nil=>rfl
   | cons a r=>have:=h a (by simp);omega
 | n+1,l,hn,h=>by
   unfold CT
   by_cases H:(n:Int)∈l
   ·have h1:=Ik n (l.erase (n:Int)) (hn.erase _) (λx hx=>by
     have h2:=h x (ZK hx);have h3:x≠(n:Int):=λe=>by subst e;exact(List.Nodup.not_mem_erase hn) hx
     omega)
    rw[List.length_erase_of_mem H]at h1;have X:CT n (l.erase (n:Int))=CT n l:=Kt n λv O=>by
     constructor
     . exact ZK
     . exact λI=>(List.mem_erase_of_ne (by omega)).2 I
    have U:0<l.length:=aJ H;rw[Xx H];omega
   ·rw[Xu H,Zh];refine Ik n l hn (λx hx=>?_);have h2:=h x hx;have h3:x≠(n:Int):=λe=>by subst e;exact H hx
    omega
def Cr (n:Nat)(zs:List Int)(v:Nat):Option Bool:=if v<n/\(v:Int)∉zs then some false else none
def OC (v:Nat)(h:n<=v):Cr n zs v=none:=by
 unfold Cr;rw[Xu (by omega)]
def Ku (N:Nat)(zs:List Int):∀n,n<=N->nfix n (Cr N zs)+CT n zs=n
 | 0,_=>rfl
 | n+1,h=>by
   have I:=Ku N zs n (by omega);have e1:nfix (n+1) (Cr N zs)=nfix n (Cr N zs)+if(Cr N zs n).isSome then 1 else 0:=rfl
   have e2:CT (n+1) zs=CT n zs+if(n:Int)∈zs then 1 else 0:=rfl
   by_cases e:(n:Int)∈zs
   ·have H:Cr N zs n=none:=by unfold Cr;rw[Xu (λc=>c.2 e)]
    rw[e1,e2,H,Xx e];simp;omega
   ·have H:Cr N zs n=some false:=by unfold Cr;rw[Xx ⟨by omega,e⟩]
    rw[e1,e2,H,Xu e];simp;omega
def Kv (h:∀z∈zs,0<=z/\z<(n:Int)):n-(setL zs).length=nfix n (Cr n zs)/\(setL zs).length<=n:=by
 have H:∀z,z∈(setL zs).map Prod.fst↔z∈zs:=λz=>by
  rw[VQ,OB]
  by_cases e:z∈zs
  . rw[Xx e];simp[e]
  . rw[Xu e];simp[e]
 have h1:=Ik n _ (VP zs) (λz I=>h z ((H z).1 I));rw[XT,Kt n (λv _=>H v)]at h1;have h2:=Ku n zs n (Xs _);omega
def cntE (n:Nat)(G:BF)(zs:List Int):Int:=if ∀z∈zs,0<=z/\z<(n:Int)then if ∀v:Nat,v<n->A5 n G v=true->(v:Int)∈zs then 0 else 1 else 9
def cntV (n:Nat)(G:BF)(zs:List Int):Nat:=(tabB n fun σ=>G σ&&agF n (Cr n zs) σ).count true
def supL (n:Nat)(F:BF)(k:Nat):List Int:=((List.range k).filter (A5 n F)).map λv:Nat=>(v:Int)
def OD (n:Nat)(F:BF)(k:Nat):supL n F (k+1)=supL n F k++(if A5 n F k then [(k:Int)]else []):=by
 unfold supL;rw[Zn,Yi,XG];congr 1;simp only[Zg,List.filter_nil];split<;>rfl
def OE (n:Nat)(F:BF)(k:Nat):(supL n F k).length<=k:=by
 unfold supL;rw[XT];exact Xz (Yj _ _) (by simp)
theorem OwnI.base {H:Nat}(h:OwnI w b v zs)(hb:H<=b):OwnI w H v zs:=by
 obtain⟨h1,h2⟩:=h;exact⟨h1,h2.imp id λ⟨g,cap,cur,e,hg,r⟩=>⟨g,cap,cur,e,by omega,r⟩⟩
section
variable {o:Own}
def VR (h:SatE K n Od room w0 mb fs nx w o m V){k:Int}(f:(k,F)∈fs):
 Cl 66 #[Pt mb,Iv k] w λx w'=>∃v,x=.returned (.tuple #[v,Iv 0])/\OwnI w' w.heap.size v (supL n F n)/\AskV K n Od room w0 mb fs nx m o w w':=by
 have hw0:=h.chg.size;obtain⟨w1,g0⟩:=Ex (w.alloc (.cells #[Iv k] 3));have g5:Bw w w1:=by rw[g0];exact Ag _ _
 have ge:w1.heap.size=w.heap.size+1:=by rw[g0];simp
 have g1:w1.heap[w.heap.size]?=some (.cells #[Iv k] 3 (0,0)):=by rw[g0];exact Xv _ _
 have p:ArgI w0 w1 o (some (Av w.heap.size)) [k]:=⟨⟨by simp,λi hi=>by
  obtain rfl:i=0:=by simpa using hi
  exact⟨w.heap.size,0,rfl,cell1 g1⟩⟩,λx hx=>by cases hx;exact⟨by show w.heap.size<w1.heap.size;omega,hw0,h.lt.none (Xs _)⟩⟩
 have l:=VB (c:=1) (Fs:=[F]) (h.below g5) p rfl (λi hi=>by
  obtain rfl:i=0:=by simpa using hi
  exact f)
 have s:Hq (Cl 107 #[Pt mb,.slice (some (Av w.heap.size)) 1 1] (w.alloc (.cells #[Iv k] 3)) λx w'=>∃nt cs,x=.returned (.tuple #[.map (some nt),Iv 0])/\Au w' nt (Value.int .i64) (ctL cs)/\GX n m.d.vars [F] cs/\AskV K n Od room w0 mb fs nx m o w w'/\w.heap.size<=w'.heap.size/\Cl 46 #[Pt mb] w' (Sm (Iv (n:Nat)) w')):=Hd (by
  rw[<-g0];refine l.mono ?_;rintro x w' ⟨nt,cs,rfl,h1,h2,o',m',V',h3,O,u,Z⟩
  exact⟨nt,cs,rfl,h1,h2,⟨o',m',V',(ChgX.of_below g5 o NoB).trans h3 (λ_ _ e=>e),O,u,Z⟩,by have:=h3.size;omega,by
   have I:=DR Z.is;rw[Z.vars]at I;exact I⟩)
 have gk:n<=64:=by have:=h.ok.store.small;rw[h.vars]at this;exact this
 obtain⟨P,Y⟩:=Ex (λx w'=>∃v,x=.returned (.tuple #[v,Iv 0])/\OwnI w' w.heap.size v (supL n F n)/\AskV K n Od room w0 mb fs nx m o w w':Ending->Wd->Prop)
 have gc:Hq (∀w1 w' v,AskV K n Od room w0 mb fs nx m o w w1->Bw w1 w'->OwnI w' w1.heap.size v (supL n F n)->w.heap.size<=w1.heap.size->P (.returned (.tuple #[v,Iv 0])) w'):=Hd λw1 w' v h1 h2 h3 O=>by
  rw[Y];exact⟨v,rfl,h3.base O,h1.below h2⟩
 rw[<-Y];clear Y p l hw0 g0 g5 ge g1 h f
 go_enter func66,ntmps66
 go_wp2_with fail;refine s.o.mono ?_;rintro x w2 ⟨nt,cs,rfl,g9,I,g6,g8,g4⟩;have B:=Hd g6;have r:=Hd g4;have y:=Hd g9;have C:=Hd g8;have E:=Hd I.dep;clear g6 g4 g9 g8 I s;go_wp2_with fail;refine r.o.mono ?_;rintro x G ⟨rfl,rfl⟩;clear r;go_wp2
 go_loopw [4,7,20] (λt _ H wr=>∃j:Nat,j<=n/\H=Iv j/\Hq (OwnI wr w2.heap.size t (supL n F j))/\Hq (Bw w2 wr)) (λ_ _ H _=>n-(intOf H).toNat)
 case atStart=>exact⟨0,by omega,rfl,Hd (Fk _ _),Hd (X7 _ _)⟩
 case round=>
  obtain⟨j,J,rfl,X,g3⟩:=hrel
  by_cases M:j<n
  ·have L:(j:Int)<(n:Int):=by omega
   have q:=O6 (y.o.below g3.o) j;obtain⟨g,U⟩:=Ex (getC j cs);rw[<-U]at q;have g2:=E.o j;rw[<-U]at g2;have N:=OE n F j
   by_cases b:0<g
   ·have gf:(0:Int)<(g:Int):=by omega
    have hh:A5 n F j=true:=by simpa using g2.1 b
    have g7:Hq (supL n F (j+1)=supL n F j++[(j:Int)]):=Hd (by rw[OD,hh];rfl);clear U g2 hh;go_wp2_with (at_builtin;refine D7 _ rfl _ _ rfl w2.heap.size w2 _ (supL n F j) (j:Int) rfl rfl rfl rfl (by exact X.o) (by omega) (by exact g3.o.size) (by exact g3.o) ?_;intro v' a h1 h2 h3 O);have z:Hq (OwnI a w2.heap.size v' (supL n F (j+1))):=Hd (by rw[g7.o];exact h1);have HB2:Hq (Bw w2 a):=Hd h2;clear h1 h2 h3 O q;go_roundw
    case rel=>exact⟨j+1,by omega,by go_num,z,HB2⟩
    case measure=>simp[intOf];omega
   ·have gf:¬ (0:Int)<(g:Int):=by omega
    have hh:A5 n F j=false:=by
     cases e:A5 n F j with
     | false=>rfl
     | true=>exact absurd (g2.2 ⟨F,by simp,e⟩) b
    have g7:Hq (supL n F (j+1)=supL n F j):=Hd (by rw[OD,hh];simp);clear U g2 hh;go_wp2;go_roundw
    case rel=>exact⟨j+1,by omega,by go_num,by rw[g7.o];exact X,g3⟩
    case measure=>simp[intOf];omega
  ·obtain rfl:j=n:=by omega
   have D:=Hd (λv I=>gc.o w2 wr v B.o g3.o I C.o);have A:=Hd X.o;clear X;go_wp2_with fail;exact D.o _ A.o
end
def VS {a:Option Addr}(I:Aj w a zs){caps:Array Value}{p:Int->Bool}(m:∀args w,(callFunc g args).run prog w=.ok (.enter g args) w)
 (Z:∀z,Calls prog g (#[Iv z]++caps) w (Sm (.bool (p z)) w)):
 Cl 108 #[.slice a zs.length c,.func (.func g) #[] caps] w λx w'=>(∃i:Int,x=.returned (Iv i)/\decide (i>=0)=zs.any p)/\w=w':=by
 obtain⟨P,U⟩:=Ex (λx w'=>(∃i:Int,x=.returned (Iv i)/\decide (i>=0)=zs.any p)/\w=w':Ending->Wd->Prop)
 have g3:=Hd U;have HCK:Hq (∀k,k<zs.length->∃b off,a=some (Aw b off)/\w.cell? (Aw b (off+k))=some (Iv (at0 zs k))):=Hd I.cells;have hl:=I.len;have HP:=Hd Z;rw[<-U];clear U I Z
 go_enter func108,ntmps108
 go_wp2
 go_loopw [4,5,8] (λ_ _ O wr=>∃k:Nat,k<=zs.length/\O=Iv (k:Int)/\Hq (w=wr)/\Hq (∀j,j<k->p (at0 zs j)=false)) (λ_ _ O _=>zs.length-(intOf O).toNat)
 case atStart=>exact⟨0,X0 _,rfl,Hd rfl,Hd (λj f=>by omega)⟩
 case round=>
  obtain⟨k,hk,rfl,l,HQ⟩:=hrel;have d:=l.o;subst d
  by_cases g2:k<zs.length
  ·have g6:(k:Int)<(zs.length:Int):=by omega
   obtain⟨b,off,rfl,h⟩:=HCK.o k g2;obtain⟨z,g1⟩:=Ex (at0 zs k);rw[<-g1]at h;cases g0:p z with
   | true=>
     have H:=HP.o z;rw[g0]at H;have Y:=Hd H
     have X:Hq (P (.returned (Iv (k:Int))) w):=Hd (by
      rw[g3.o];refine⟨⟨_,rfl,?_⟩,rfl⟩;rw[XQ (by omega)];refine(List.any_eq_true.2 ⟨z,?_,g0⟩).symm;rw[g1,A8 g2];exact XM g2)
     clear H g0 g1 HP HCK HQ;go_wp2_with fail;refine Y.o.mono ?_;rintro x w' ⟨rfl,rfl⟩;go_wp2_with fail;exact X.o
   | false=>
     have H:=HP.o z;rw[g0]at H;have Y:=Hd H;have g4:Hq (∀j,j<k+1->p (at0 zs j)=false):=Hd λj f=>by
      rcases(show j<k\/j=k by omega)with e|rfl
      . exact HQ.o j e
      . rw[<-g1];exact g0
     clear H g0 g1 HP HCK HQ;go_wp2_with fail;refine Y.o.mono ?_;rintro x w' ⟨rfl,rfl⟩;go_wp2;go_roundw
     case rel=>exact⟨k+1,by omega,by rw[show((k+1:Nat):Int)=(k:Int)+1 by omega],Hd trivial,g4⟩
     case measure=>simp[intOf];omega
  ·obtain rfl:k=zs.length:=by omega
   have g5:¬ (zs.length:Int)<(zs.length:Int):=by omega
   have X:Hq (P (.returned (Iv (-1))) w):=Hd (by
    rw[g3.o];refine⟨⟨_,rfl,?_⟩,rfl⟩;rw[show zs.any p=false from ?_]
    . rfl
    . rw[List.any_eq_false];intro z I;obtain⟨i,hi,rfl⟩:=Yn I;have:=HQ.o i hi;rw[A8 hi]at this;simp[this])
   clear HP HCK HQ;go_wp2_with fail;exact X.o
def VT {a:Option Addr}(H:Aj w a zs){caps:Array Value}{p:Int->Bool}(O:∀args w,(callFunc g args).run prog w=.ok (.enter g args) w)
 (I:∀z,Calls prog g (#[Iv z]++caps) w (Sm (.bool (p z)) w)):
 Cl 67 #[.slice a zs.length c,.func (.func g) #[] caps] w (Sm (.bool (zs.any p)) w):=by
 have U:=Hd (VS (c:=c) H O I);clear H O I
 go_enter func67,ntmps67
 go_wp2_with fail;refine U.o.mono ?_;rintro x w' ⟨⟨i,rfl,hi⟩,rfl⟩;have X:=Hd hi;clear hi U;go_wp2;go_ret;refine⟨?_,rfl⟩;rw[<-X.o];rfl
def VU (args:Array Value)(w:Wd):(callFunc 68 args).run prog w=.ok (.enter 68 args) w:=YF func68 (by kernel_rfl) rfl args w
def VW {bs:Nat}{l:List (Int×Value)}(I:w.cell? (Av bs)=some (.map (some sb)))(H:Au w sb (Value.int .i64) l)(hl:∀z,getL l z=if z∈zs then some (.bool true)else none)(z:Int):
 Cl 68 #[Iv z,Pt bs] w (Sm (.bool (!decide (z∈zs))) w):=by
 have g0:=H.lookup D3 underlying120 zeroValue4 z false;rw[hl z]at g0
 by_cases e:z∈zs
 ·rw[Xx e]at g0;rw[XQ e];have g1:(Instr.lookup 120 (.map (some sb)) (Iv z) false).run prog w=.ok (.bool true) w:=g0;clear H hl g0 e
  go_enter func68,ntmps68
  go_wp2;go_ret;exact⟨rfl,rfl⟩
 ·rw[Xu e]at g0;rw[XW e];have g1:(Instr.lookup 120 (.map (some sb)) (Iv z) false).run prog w=.ok (.bool false) w:=g0;clear H hl g0 e
  go_enter func68,ntmps68
  go_wp2;go_ret;exact⟨rfl,rfl⟩
def OF (O:DepF n G){v:Nat}(h:A5 n G v=false):Indep G v:=by
 have H:∀b,DepF n (cofF G v b):=λb ρ ρ' I=>by
  rw[Bq,Bq];refine O _ _ λi hi=>?_
  unfold upd;split
  . rfl
  . exact I i hi
 refine Fc.2 (JF (H false) (H true) ?_);unfold A5 at h;simpa using h
def OG (I:DepF n G)(h1:∀z∈zs,0<=z/\z<(n:Int))(h2:∀v:Nat,v<n->A5 n G v=true->(v:Int)∈zs):
 totN n (λ_=>none) G/2^(n-(setL zs).length)=cntV n G zs:=by
 have e:totN n (λ_=>none) G=totN n (Cr n zs) G:=by
  unfold totN;rw[VM (n:=n) (fx:=Cr n zs) (λv H=>OC v H) (λv H hs=>?_)]
  . rfl
  ·refine OF I ?_;cases hh:A5 n G v with
   | false=>rfl
   | true=>
     have:=h2 v H hh;unfold Cr at hs;rw[Xu (λc=>c.2 this)]at hs;cases hs
 rw[e,(Kv h1).1,VL n G _ (λv H=>OC v H)];rfl
section
variable {o:Own}
def AskN.trans {v:Value}{o1:Own}{m1:ManD}(h1:ChgX NoB o o1 w w1)(Y:m1.waits=m.waits)(Z:m1.d.vars=m.d.vars)(h:AskN K n Od room w0 mb fs nx m1 o1 w1 w2 v):AskN K n Od room w0 mb fs nx m o w w2 v:=by
 obtain⟨o',m',V',X,U,O,I,H⟩:=h;exact⟨o',m',V',h1.trans X (λ_ _ e=>e),U.trans Y,O.trans Z,I,H⟩
def OH (h:SatE K n Od room w0 mb fs nx w o m V){k:Int}(F:(k,G)∈fs){a:Option Addr}(A:Aj w a zs):
 Cl 24 #[Pt mb,Iv k,.slice a zs.length c] w λx w'=>∃v,x=.returned (.tuple #[v,Iv (cntE n G zs)])/\NatV w' v (if cntE n G zs=0 then cntV n G zs else 0)/\AskN K n Od room w0 mb fs nx m o w w' v:=by
 have HA:=Hd (VG h k (b:=true) (by simp only[true_iff];exact⟨G,F⟩));have hn64:n<=64:=by have:=h.ok.store.small;rw[h.vars]at this;exact this
 have hl:=A.len;obtain⟨sb,g8⟩:=Ex w.heap.size;obtain⟨w1,g3⟩:=Ex ((w.alloc (.map #[] 0)).alloc (.cells #[.map (some w.heap.size)] 120));have gx:Bw w w1:=by rw[g3];exact(Ag _ _).alloc (by simp) _
 have gm:Au w1 sb (Value.int .i64) (setL (zs.take 0)):=by
  rw[g3,g8];exact(EC w _).below (Ag _ _)
 have gb:w1.heap[sb+1]?=some (.cells #[.map (some sb)] 120 (0,0)):=by
  have:=Xv (w.alloc (.map #[] 0)) (.cells #[.map (some w.heap.size)] 120);rw[X3]at this;rw[g3,g8];exact this
 obtain⟨I,R⟩:=Ex (λi wr=>Au wr sb (Value.int .i64) (setL (zs.take i))/\wr.cell? (Av (sb+1))=some (.map (some sb))/\Bw w wr/\∀z∈zs.take i,0<=z/\z<(n:Int):Nat->Wd->Prop)
 have gj:Hq (I 0 w1):=Hd (by rw[R];exact⟨gm,cell1 gb,gx,by simp⟩);obtain⟨P,J⟩:=Ex (λx w'=>∃v,x=.returned (.tuple #[v,Iv (cntE n G zs)])/\NatV w' v (if cntE n G zs=0 then cntV n G zs else 0)/\AskN K n Od room w0 mb fs nx m o w w' v:Ending->Wd->Prop)
 have HX:Hq (∀i wr,i<zs.length->I i wr->wr.cell? (Av (sb+1))=some (.map (some sb))/\(∃b off,a=some (Aw b off)/\wr.cell? (Aw b (off+i))=some (Iv (at0 zs i)))/\Cl 46 #[Pt mb] wr ((Sm (Iv (n:Nat)) wr)) /\
  (0<=at0 zs i/\at0 zs i<(n:Int)->∃y,(Instr.mapUpdate 120 (.map (some sb)) (Iv (at0 zs i)) (.bool true)).run prog wr=.ok () y/\I (i+1) y) /\
  (¬ (0<=at0 zs i/\at0 zs i<(n:Int))->P (.returned (.tuple #[.slice none 0 0,Iv 9])) wr)):=by
  rw[R];refine Hd λi wr hi hh=>?_
  obtain⟨h1,h2,h3,r⟩:=hh;have hs:=h.below h3;refine⟨h2,?_,?_,λd=>?_,λd=>?_⟩
  . obtain⟨b,off,e,W⟩:=A.cells i hi;exact⟨b,off,e,(Cq h3 W)⟩
  . have X:=DR hs.is;rw[hs.vars]at X;exact X
  ·obtain⟨y,D,C,N⟩:=h1.update D3 underlying120 (at0 zs i) (.bool true);have l:Wr (· = sb) wr y:=Wr.of_grown N _ (λk e=>by cases e;rfl);have et:zs.take (i+1)=zs.take i++[at0 zs i]:=by rw[Zk,getElem?_at0 hi];rfl
   refine⟨y,D,?_,?_,?_,?_⟩
   . rw[et,VO];exact C
   . exact(Co h2 (l.keep (sb+1) (Ad h2) (λe=>by have e:sb+1=sb:=e;omega)))
   . exact h3.trans (l.below (λk e=>by have e:k=sb:=e;omega) h3.size)
   ·intro z gn;rw[et]at gn;rcases XD.1 gn with e|e
    . exact r z e
    . simp at e;rw[e];exact d
  ·rw[J];have f:cntE n G zs=9:=by
    unfold cntE;rw[Xu];intro g0;exact d (g0 _ (by rw[A8 hi];exact XM hi))
   refine⟨.slice none 0 0,by rw[f],?_,AskN.of h h3 0⟩;rw[f,Xu (by decide)];exact Eb wr
 have g6:Hq (∀wr,I zs.length wr->Cl 66 #[Pt mb,Iv k] wr λx O=>∃a5 L g,x=.returned (.tuple #[.slice a5 (supL n G n).length L,Iv 0]) /\
  Cl 67 #[.slice a5 (supL n G n).length L,.func (.func 68) #[] #[Pt (sb+1)]] O ((Sm (.bool g) O)) /\
  (g=true->P (.returned (.tuple #[.slice none 0 0,Iv 1])) O) /\
  (g=false->Cl 69 #[Pt mb,Iv k,.map none] O λx s=>∃v6,x=.returned (.tuple #[v6,Iv 0]) /\
   ∀H,Bw s H->H.cell? (Av (sb+1))=some (.map (some sb))/\Au H sb (Value.int .i64) (setL zs)/\Cl 46 #[Pt mb] H ((Sm (Iv (n:Nat)) H)) /\
    IntKind.i64.wrap ((n:Int)-((setL zs).length:Nat))=(n:Int)-((setL zs).length:Nat) /\
    (Cl 70 #[v6,Iv ((n:Int)-((setL zs).length:Nat))] H λx B=>∃v9,x=.returned v9/\(B.cell? (Av (sb+1))=some (.map (some sb))/\Au B sb (Value.int .i64) (setL zs))/\P (.returned (.tuple #[v9,Iv 0])) B))):=by
  rw[R];refine Hd λwr hh=>?_
  obtain⟨h1,h2,h3,r⟩:=hh;rw[XP]at h1 r;have hs:=h.below h3;refine(VR hs F).mono ?_;rintro x O ⟨v5,rfl,gB,Q,m5,V5,g1,go,gq,gu⟩;obtain⟨a5,L,rfl,gD,_⟩:=gB.sliceIs (by have:=OE n G n;omega);have g9:o sb=none:=h.lt.none (by omega);have ge:o (sb+1)=none:=h.lt.none (by omega);have gf:Au O sb (Value.int .i64) (setL zs):=h1.keepB (g1.block sb h1.lt g9 (λe=>e));have gi:O.cell? (Av (sb+1))=some (.map (some sb)):=g1.cell h2 ge (λe=>e);have gl:AskN K n Od room w0 mb fs nx m o w O (.slice none 0 0):=⟨Q,m5,V5,(ChgX.of_below h3 o NoB).trans g1 (λ_ _ e=>e),go,gq,gu,λq e=>by cases e⟩;obtain⟨g,gw⟩:=Ex ((supL n G n).any λz=> !decide (z∈zs))
  have gg:g=true↔¬ ∀v:Nat,v<n->A5 n G v=true->(v:Int)∈zs:=by
   rw[gw,List.any_eq_true];constructor
   . rintro⟨z,Z,U⟩ g0;unfold supL at Z;obtain⟨v,E,rfl⟩:=X6.1 Z;obtain⟨q4,q5⟩:=YA.1 E;have:=g0 v (YE.1 q4) q5;simp[this]at U
   ·intro g0;refine Yo λg9=>g0 λv X hh=>?_
    refine Yo λgK=>g9 ⟨(v:Int),X6.2 ⟨v,YA.2 ⟨YE.2 X,hh⟩,rfl⟩,by simp[gK]⟩
  refine⟨a5,L,g,rfl,?_,λgM=>?_,λgN=>?_⟩
  . rw[gw];exact VT gD VU (λz=>VW gi gf (λz=>OB zs z) z)
  ·rw[J];have f:cntE n G zs=1:=by
    unfold cntE;rw[Xx r,Xu (gg.1 gM)]
   refine⟨.slice none 0 0,by rw[f],?_,gl⟩;rw[f,Xu (by decide)];exact Eb O
  ·have g0:∀v:Nat,v<n->A5 n G v=true->(v:Int)∈zs:=Yo λW=>by
    have:=gg.2 W;rw[gN]at this;cases this
   have f:cntE n G zs=0:=by
    unfold cntE;rw[Xx r,Xx g0]
   refine(VN gu F).mono ?_;rintro x s ⟨v6,rfl,gH,o6,m6,V6,S,gG,gA,gt,gJ⟩;refine⟨v6,rfl,λH g4=>?_⟩;have gC:Q sb=none:=g1.none' h1.lt g9;have gd:Q (sb+1)=none:=g1.none' (Ad h2) ge;have gv:Au H sb (Value.int .i64) (setL zs):=(gf.keepB (S.block sb gf.lt gC (λe=>e))).below g4;have g5:H.cell? (Av (sb+1))=some (.map (some sb)):=(g4.cell (p:=(Av (sb+1))) (Ad (S.cell gi gd (λe=>e)))).trans (S.cell gi gd (λe=>e));have gr:=gt.below g4;obtain⟨gY,gX⟩:=Kv r;refine⟨g5,gv,?_,aK _ ⟨by omega,by omega⟩,?_⟩
   . have X:=DR gr.is;rw[gr.vars]at X;exact X
   . rw[show(n:Int)-((setL zs).length:Nat)=((n-(setL zs).length:Nat):Int)by omega];refine(VF (gH.below g4) (by omega)).mono ?_;rintro x B ⟨⟨v9,rfl,gp,gI⟩,gh⟩;refine⟨v9,rfl,⟨(Cq gh g5),gv.below gh⟩,?_⟩;rw[J];rw[OG (h.dep F) r g0]at gp;refine⟨v9,by rw[f],by rw[f,Xx rfl];exact gp,?_⟩;have gk:AskN K n Od room w0 mb fs nx m5 Q O s v6:=⟨o6,m6,V6,S,gG,gA,gt,gJ⟩;exact((AskN.trans ((ChgX.of_below h3 o NoB).trans g1 (λ_ _ e=>e)) go gq gk).next g4 (λq e=>.inl e)).next gh gI
 have HW1:Hq (_=w1):=Hd g3.symm;have gO:=Hd g8;have gV:∀(fn:Fn) (first cap:Array Value) (w:Wd),(Instr.makeFunc fn first cap).run prog w=.ok (.func fn first cap) w:=λ_ _ _ _=>rfl
 have gU:=λt w=>Ek (P:=prog) w t
 rw[<-J];clear J R h F A g8 g3 gx gm gb
 go_enter func24,ntmps24
 go_wp2_with fail;refine HA.o.mono ?_;rintro x w' ⟨rfl,rfl⟩;clear HA;go_upto_region 5 with fail;rw[HW1.o,<-gO.o];clear HW1;go_wp2
 go_loopw [6,7,11,22] (λ_ _ _ j wr=>∃i:Nat,i<=zs.length/\j=Iv (i:Int)/\Hq (I i wr)) (λ_ _ _ j _=>zs.length-(intOf j).toNat)
 case atStart=>exact⟨0,X0 _,rfl,gj⟩
 case round=>
  obtain⟨i,hi,rfl,T⟩:=hrel
  by_cases gL:i<zs.length
  ·have gZ:(i:Int)<(zs.length:Int):=by omega
   obtain⟨cbx,⟨b,off,rfl,ck⟩,X,g7,g2⟩:=HX.o i wr gL T.o;have M:=Hd X;obtain⟨z,A⟩:=Ex (at0 zs i);rw[<-A]at ck g7 g2;clear X HX g6 T gj A
   by_cases d:0<=z/\z<(n:Int)
   ·obtain⟨y,gQ,gy⟩:=g7 d;have gP:=Hd gy;have gF:¬ z<0:=by omega
    have gE:¬ z>=(n:Int):=by omega
    clear gy g7 g2 d;go_wp2_with fail;refine M.o.mono ?_;rintro x w' ⟨rfl,rfl⟩;go_wp2;go_roundw
    case rel=>exact⟨i+1,by omega,by rw[show((i+1:Nat):Int)=(i:Int)+1 by omega],gP⟩
    case measure=>simp[intOf];omega
   ·have Y:=Hd (g2 d);clear g7 g2
    by_cases gF:z<0
    ·clear d;go_wp2_with fail
     first|exact Y.o|exact X2 (Yh rfl _ _ _) rfl Y.o
    ·have gE:z>=(n:Int):=by omega
     clear d;go_wp2_with fail;refine M.o.mono ?_;rintro x w' ⟨rfl,rfl⟩;go_wp2_with fail
     first|exact Y.o|exact X2 (Yh rfl _ _ _) rfl Y.o
  ·obtain rfl:i=zs.length:=by omega
   have gR:¬ (zs.length:Int)<(zs.length:Int):=by omega
   have HS:=Hd (g6.o wr T.o);clear HX g6 T gj;go_wp2_with fail;refine HS.o.mono ?_;rintro x O ⟨a5,L,g,rfl,Z,U,E⟩;have HC:=Hd Z;clear Z HS;cases g with
   | true=>
     have Y:=Hd (U rfl);clear U E;go_wp2_with fail;refine HC.o.mono ?_;rintro x w' ⟨rfl,rfl⟩;go_wp2_with fail
     first|exact Y.o|exact X2 (Yh rfl _ _ _) rfl Y.o
   | false=>
     have HT:=Hd (E rfl);clear U E;go_wp2_with fail;refine HC.o.mono ?_;rintro x w' ⟨rfl,rfl⟩;clear HC;go_wp2_with fail;refine HT.o.mono ?_;rintro x s ⟨v6,rfl,q⟩;obtain⟨H,gc⟩:=Ex s.drew;have gz:=Hd gc;obtain⟨D,C,N,gT,r4⟩:=q H (by rw[gc];exact An s 1);have M:=Hd N;have HH:=Hd r4;clear N r4 q gc HT;go_upto_region 20 with fail;refine D4 [0,1,3,2,4,5,6,7,8] (λW'=>W'.cell? (Av (sb+1))=some (.map (some sb))/\Au W' sb (Value.int .i64) (setL zs)) (λch w'=>False) (λc a w hd h=>h.elim) (by kernel_rfl) (by rw[<-gz.o];exact⟨D,C⟩) ?_;rw[<-gz.o]
     iterate 3
      refine Ce rfl rfl (by kernel_rfl) ?_;apply Exists.intro;refine⟨λw' l=>?_,?_⟩
      . obtain⟨Z,U⟩:=l;go_simp;rfl
      simp only[Ab]
     refine BX (R1:=λu w'=>u=Iv (n:Nat)/\H=w') rfl (by kernel_rfl) rfl rfl (by go_simp) (M.o.mono λx w' h=>⟨_,h.1,rfl,h.2⟩) (by rintro u w' ⟨_,rfl⟩;exact⟨D,C⟩) ?_;rintro u w'-⟨rfl,rfl⟩;simp only[Ab]
     iterate 2
      refine Ce rfl rfl (by kernel_rfl) ?_;apply Exists.intro;refine⟨λw' l=>?_,?_⟩
      ·obtain⟨Z,U⟩:=l;have gS:=λty=>U.size (P:=prog) underlying120 ty
       go_simp;rfl
      simp only[Ab]
     refine BX (R1:=λu w'=>(w'.cell? (Av (sb+1))=some (.map (some sb))/\Au w' sb (Value.int .i64) (setL zs))/\P (.returned (.tuple #[u,Iv 0])) w') rfl (by kernel_rfl) rfl rfl (by go_simp) (HH.o.mono λx w' ⟨v9,e,Z,U⟩=>⟨v9,e,Z,U⟩) (by rintro u w' ⟨q,_⟩;exact q) ?_;rintro u B-⟨_,hp⟩;have Y:=Hd hp;clear hp D C HH M;simp only[Ab]
     iterate 2
      refine Ce rfl rfl (by kernel_rfl) ?_;apply Exists.intro;refine⟨λw' l=>?_,?_⟩
      . go_simp;rfl
      simp only[Ab]
     refine D5 (by kernel_rfl) ?_;go_wp2_with fail
     first|exact Y.o|exact X2 (Yh rfl _ _ _) rfl Y.o
end
def allL:List Nat->BF->List (List Bool)
 | [],F=>if F (λ_=>false)then [[]]else []
 | v::r,F=>(allL r (cofF F v false)).map (false:: ·)++(allL r (cofF F v true)).map (true:: ·)
def Br (vs:List Nat)(F:BF):Prop:=∀ρ ρ':Nat->Bool,(∀v∈vs,ρ v=ρ' v)->F ρ=F ρ'
def Br.cof {v:Nat}{r:List Nat}(h:Br (v::r) F)(b:Bool):Br r (cofF F v b):=fun ρ ρ' H=>by
 rw[Bq,Bq];refine h _ _ λu hu=>?_
 unfold upd
 by_cases e:u=v
 . rw[Xx e,Xx e]
 . rw[Xu e,Xu e];exact H u ((Yy.1 hu).resolve_left e)
def Kw {n:Nat}:∀(vs:List Nat) (F:BF),vs.Nodup->(∀v∈vs,v<n)->Br vs F->totN n (λ_=>none) F=2^(n-vs.length)*(allL vs F).length
 | [],F,_,_,h=>by
   have I:F=λ_=>F λ_=>false:=funext fun ρ=>h ρ _ (by simp)
   unfold allL;cases hb:F λ_=>false with
   | true=>
     rw[hb]at I;rw[I,NW];simp
   | false=>
     rw[hb]at I;rw[I];have:totN n (λ_=>none) (λ_=>false)=0:=O9 n _;rw[this];simp
 | v::r,F,hn,hl,h=>by
   rw[YO]at hn;have U:=hl v (XX ..);have O:∀u∈r,u<n:=λu hu=>hl u (Ys _ hu)
   have H:=CQ n (v::r) (YO.2 hn) hl;rw[XL]at H;have e:=NZ (n:=n) (fx:=λ_=>none) (v:=v) rfl U F;rw[Kw r _ hn.2 O (h.cof false),Kw r _ hn.2 O (h.cof true)]at e;rw[<-e,<-ZB];obtain⟨k,hk⟩:∃k,n-r.length=k+1:=⟨n-r.length-1,by omega⟩;have h2:n-(v::r).length=k:=by rw[XL];omega
   rw[hk,h2,XJ,ZI,Nat.mul_left_comm,Nat.mul_div_cancel_left _ (by omega)];have X:allL (v::r) F=(allL r (cofF F v false)).map (false:: ·)++(allL r (cofF F v true)).map (true:: ·):=rfl;rw[X];simp
def OI (X:DepF n F)(H:vs.Nodup)(hl:∀v∈vs,v<n)(h:Br vs F):cntV n F (vs.map λv:Nat=>(v:Int))=(allL vs F).length:=by
 have h1:∀z∈vs.map λv:Nat=>(v:Int),0<=z/\z<(n:Int):=λz O=>by
  obtain⟨v,I,rfl⟩:=X6.1 O;have:=hl v I;omega
 have h2:∀v:Nat,v<n->A5 n F v=true->(v:Int)∈vs.map λv:Nat=>(v:Int):=λv I hh=>by
  refine Yo λY=>?_
  have g0:v∉vs:=λe=>Y (X6.2 ⟨v,e,rfl⟩)
  have hi:Indep F v:=fun ρ b=>h _ _ λu hu=>by
   unfold upd;rw[Xu (λe=>g0 (by rw[<-e];exact hu))]
  have U:=Fc.1 hi;unfold A5 at hh;rw[U]at hh;simp at hh
 rw[<-OG X h1 h2];have hs:(setL (vs.map λv:Nat=>(v:Int))).length=vs.length:=by
  obtain⟨e1,e2⟩:=Kv h1;have c:=Ku n (vs.map λv:Nat=>(v:Int)) n (Xs _);have g1:(vs.map λv:Nat=>(v:Int)).Nodup:=YT.2 (H.imp λg2 e=>g2 (ZH e));have Z:=Ik n _ g1 h1;rw[XT]at Z;have a:=CQ n vs H hl;omega
 have g3:=CQ n vs H hl;rw[hs,Kw vs F H hl h,Nat.mul_div_cancel_left _ (Yg (by omega))]
def VX (hl:∀v∈vs,v<n)(h:Br vs F):cntE n F (vs.map λv:Nat=>(v:Int))=0:=by
 unfold cntE
 rw[Xx (λz I=>by
  obtain⟨v,H,rfl⟩:=X6.1 I;have:=hl v H;omega),Xx]
 intro v H hh;refine Yo λU=>?_
 have g0:v∉vs:=λe=>U (X6.2 ⟨v,e,rfl⟩)
 have hi:Indep F v:=fun ρ b=>h _ _ λu hu=>by
  unfold upd;rw[Xu (λe=>g0 (by rw[<-e];exact hu))]
 have O:=Fc.1 hi;unfold A5 at hh;rw[O]at hh;simp at hh
def VY (I:DepF n F)(h:cntE n F (vs.map λv:Nat=>(v:Int))=0):Br vs F:=by
 have h2:∀v:Nat,v<n->v∉vs->Indep F v:=λv U g0=>by
  refine OF I ?_;cases hh:A5 n F v with
  | false=>rfl
  | true=>
    exfalso;unfold cntE at h
    by_cases c1:∀z∈vs.map λv:Nat=>(v:Int),0<=z/\z<(n:Int)
    ·rw[Xx c1]at h
     by_cases c2:∀v:Nat,v<n->A5 n F v=true->(v:Int)∈vs.map λv:Nat=>(v:Int)
     . obtain⟨u,hu,e⟩:=X6.1 (c2 v U hh);exact g0 (by rw[<-ZH e];exact hu)
     . rw[Xu c2]at h;cases h
    . rw[Xu c1]at h;cases h
 intro ρ ρ' X;have key:∀k,k<=n->F (λv=>if v<k/\v∉vs then ρ' v else ρ v)=F ρ:=λk=>by
  induction k with
  | zero=>intro _;simp
  | succ k O=>
    intro hk;rw[<-O (by omega)]
    by_cases H:k∈vs
    ·congr 1;funext v
     by_cases e:v=k
     . subst e;simp[H]
     ·by_cases c:v<k/\v∉vs
      . rw[Xx c,Xx ⟨by omega,c.2⟩]
      . rw[Xu c,Xu (λc2=>c ⟨by omega,c2.2⟩)]
    ·rw[<-h2 k (by omega) H (λv=>if v<k/\v∉vs then ρ' v else ρ v) (ρ' k)];congr 1;funext v
     by_cases e:v=k
     . subst e;simp[H,upd]
     ·show _=upd (λv=>if v<k/\v∉vs then ρ' v else ρ v) k (ρ' k) v
      unfold upd;rw[Xu e]
      by_cases c:v<k/\v∉vs
      . rw[Xx ⟨by omega,c.2⟩];simp[c]
      . rw[Xu (λc2=>c ⟨by omega,c2.2⟩)];simp[c]
 rw[<-key n (Xs _)];refine I _ _ λi hi=>?_
 show(if i<n/\i∉vs then ρ' i else ρ i)=ρ' i
 by_cases c:i∈vs
 . rw[Xu (λe=>e.2 c)];exact X i c
 . rw[Xx ⟨hi,c⟩]
def asg:List Nat->List Bool->Nat->Bool
 | v::r,b::l=>upd (asg r l) v b
 | _,_=>λ_=>false
def Fh:∀(vs:List Nat) (F:BF) (l:List Bool),l∈allL vs F↔l.length=vs.length/\F (asg vs l)=true
 | [],F,l=>by
   have H:allL [] F=if F (λ_=>false)then [[]]else []:=rfl
   have e0:asg [] l=λ_=>false:=by unfold asg;rfl
   rw[H,e0,Y2,Zl];cases hb:F λ_=>false with
   | true=>simp
   | false=>simp
 | v::r,F,l=>by
   have H:allL (v::r) F=(allL r (cofF F v false)).map (false:: ·)++(allL r (cofF F v true)).map (true:: ·):=rfl;rw[H,XD,X6,X6];constructor
   ·rintro(⟨k,hk,rfl⟩|⟨k,hk,rfl⟩)
    . obtain⟨h1,h2⟩:=(Fh r _ k).1 hk;exact⟨by simp[h1],by rw[Bq]at h2;exact h2⟩
    . obtain⟨h1,h2⟩:=(Fh r _ k).1 hk;exact⟨by simp[h1],by rw[Bq]at h2;exact h2⟩
   ·rintro⟨h1,h2⟩;cases l with
    | nil=>simp at h1
    | cons b k=>
      have hk:k∈allL r (cofF F v b):=(Fh r _ k).2 ⟨by simpa using h1,by rw[Bq];exact h2⟩;cases b with
      | false=>exact .inl ⟨k,hk,rfl⟩
      | true=>exact .inr ⟨k,hk,rfl⟩
def E7 (H:List Nat->Int->BF->BF->BF->BF->Prop):Law:=λd V op a b c r=>
 if op=1 then IteP d V a b c r else okE (Aa d) a/\okE (Aa d) b/\okE (Aa d) c/\okE (Aa d) r/\H d.vars op (ef V a) (ef V b) (ef V c) (ef V r)
def VZ (Y:List Nat->Int->BF->BF->BF->BF->Prop):AC (E7 Y):=by
 refine⟨λd V a b c r=>?_,λd V d' V' op a b c r k1 k2 x h=>?_,λd d' V op a b c r h1 h2 h3 h=>?_⟩
 . unfold E7;rw[Xx rfl]
 ·unfold E7 at h⊢
  by_cases e:op=1
  . rw[Xx e]at h⊢;exact(EQ.ite ..).1 (EQ.ext d V d' V' 1 a b c r k1 k2 x ((EQ.ite ..).2 h))
  . rw[Xu e]at h⊢;obtain⟨U,O,I,H,X⟩:=h;refine⟨x.ok U,x.ok O,x.ok I,x.ok H,?_⟩;rw[x.vars,x.ef U,x.ef O,x.ef I,x.ef H];exact X
 ·unfold E7 at h⊢
  by_cases e:op=1
  . rw[Xx e]at h⊢;exact(EQ.ite ..).1 (EQ.same d d' V 1 a b c r h1 h2 h3 ((EQ.ite ..).2 h))
  . rw[Xu e]at h⊢;rw[h1,h3];exact h
def Wb {H:List Nat->Int->BF->BF->BF->BF->Prop}{a:Nat}(h:op≠1):E7 H d V op a b c r↔okE (Aa d) a/\okE (Aa d) b/\okE (Aa d) c/\okE (Aa d) r/\H d.vars op (ef V a) (ef V b) (ef V c) (ef V r):=by
 unfold E7;rw[Xu h]
section
variable {o:Own}
def We (h:AF (K m.d V) o w mb m)(I:Ac o w)(hx:AR o w xb mb)(hk:Ai m.d V){t:Array Value}(S:∀args w,(callFunc gf args).run prog w=.ok (.enter gf args) w)(op:Int)(a b c:Nat)
 (y:∀r,K m.d V op a b c r->okE (Aa m.d) r/\A m.d V r) (H:∀d' V' r,Ai d' V'->Ext m.d V d' V'->okE (Aa d') r->A d' V' r->K d' V' op a b c r)
 (v:∀w1,Chg (λ_=>True) o o w w1->AF (K m.d V) o w1 mb m->Ac o w1->Calls prog gf t w1 (AO K k o w1 mb m V A)):
 Cl 147 #[Pt xb,Iv op,Iv a,Iv b,Iv c,.func (.func gf) #[] t] w (AO K k o w mb m V A):=by
 obtain⟨s,g5⟩:=h;obtain⟨f,c1,c2,Z,Y,X,f0⟩:=cells6 g5.blk;have U:=hx.cell;have L:=Hd hx;have G:=Hd (KW o s.me (K m.d V) op a b c w g5.memo I);have E:=Hd g5;have gk:=Hd I;have N:=Hd hk;have R:=Hd y;have HP:=Hd H;have Q:=Hd v;clear g5 I hx hk y H v
 go_enter func147,ntmps147
 go_wp2_with fail;refine G.o.mono ?_;rintro x w1 ⟨F,g2,g3,g8⟩;have g7:AF (K m.d V) o w1 mb m:=⟨s,E.o.setMemo gk.o g2 (g3.mono λr e=>.inl e)⟩;have g4:Hq (AtC K 0 o w mb m V o w1 m V):=Hd ⟨⟨g7,g8,g3.any,N.o,Ext.refl _ _,rfl,rfl⟩,rfl,Xs _⟩;rcases F with rfl|⟨r,rfl,z⟩
 ·have g:=Hd (Q.o w1 g3.any g7 g8);clear g7 g2 g3 g8 f c1 c2 Z Y X f0 U;go_wp2_with fail;refine g.o.mono ?_;rintro e w2 (⟨r,o2,m2,V2,rfl,O,j,gc⟩|⟨er,l,ev,rfl,hs⟩)
  . have g1:=g4.o.trans O;obtain⟨p,g6⟩:=g1.st.is;obtain⟨f,c1,c2,Z,Y,X,f0⟩:=cells6 g6.blk;have U:=(L.o.chg g1.st.chg).cell;have J:=Hd (Lf o2 p.me (K m2.d V2) op a b c r w2 g6.memo g1.st.lt (HP.o _ _ r g1.st.ok g1.st.ext j gc));have D:=Hd g6;have g0:=Hd g1;have g9:=Hd j;have C:=Hd gc;clear g1 g6 O j gc g;go_wp2_with fail;refine J.o.mono ?_;rintro x B ⟨rfl,q,g2,i,ge⟩;have n:Hq (AtC K k o w mb m V q B m2 V2):=Hd ⟨⟨⟨p,D.o.setMemo g0.o.st.lt g2 i⟩,ge,g0.o.st.chg.trans i.any,g0.o.st.ok,g0.o.st.ext,g0.o.st.hs,g0.o.st.next⟩,g0.o.waits,by have:=g0.o.many;omega⟩;clear g2 i ge f c1 c2 Z Y X f0 U;go_wp2;go_ret;exact .inl ⟨r,q,m2,V2,rfl,n.o,g9.o,C.o⟩
  . have M:=Hd (hs.after g4.o (k:=k) (by omega));clear hs g;unfold A1;go_wp2_with fail;exact⟨rfl,.inr ⟨er,l,ev,rfl,M.o⟩⟩
 . have u:=R.o r z;have n:Hq (AtC K k o w mb m V o w1 m V):=Hd (g4.o.mono (X0 _));have g9:=Hd u;clear z u g2 g3 g8 g7 f c1 c2 Z Y X f0 U;go_wp2;go_ret;exact .inl ⟨r,o,m,V,rfl,n.o,g9.o.1,g9.o.2⟩
end
structure FQ (Rel:List Nat->BF->BF->BF->Prop)(Yes:BF->BF->Prop):Prop where
 tru:∀ord F C,(∀ρ,C ρ=true)->Rel ord F C F
 const:∀ord F C,(∀ρ ρ',F ρ=F ρ')->Rel ord F C F
 one:∀(b:Bool) (v:Nat) (pre post:List Nat) F C R,(∀u∈pre,Ind F u/\Ind C u)->SatF C->¬ SatF (cofF C v (!b))->Rel (pre++v::post) (cofF F v b) (cofF C v b) R->Rel (pre++v::post) F C R
 both:∀(v:Nat) (pre post:List Nat) F C R0 R1,(∀u∈pre,Ind F u/\Ind C u)->SatF (cofF C v false)->SatF (cofF C v true)->¬ Yes (cofF F v false) (cofF F v true)->Rel (pre++v::post) (cofF F v false) (cofF C v false) R0->Rel (pre++v::post) (cofF F v true) (cofF C v true) R1->Rel (pre++v::post) F C (iteF v R1 R0)
 next:∀ord (v:Nat) F C N R,Yes (cofF F v false) (cofF F v true)->(∀ρ,N ρ=(cofF C v false ρ||cofF C v true ρ))->Rel ord (cofF F v false) N R->Rel ord F C R
 ind:∀ord F C R u,Ind F u->Ind C u->Rel ord F C R->Ind R u
def RelC (H:List Nat)(F C R:BF):Prop:=R=constrF H F C
def Kx {post:List Nat}{v:Nat}{C:BF}(h:∀u∈pre,Ind F u/\Ind C u)(b:Bool):constrF (pre++v::post) (cofF F v b) (cofF C v b)=constrF post (cofF F v b) (cofF C v b):=by
 rw[GW pre λu hu=>⟨(h u hu).1.cof v b,(h u hu).2.cof v b⟩,NB (GT F v b) (GT C v b)]
def Wf:FQ RelC λ_ _=>False:=by
 refine⟨λH F C h=>(U8 h).symm,λH F C h=>(U7 h).symm,λb v pre post F C R I hs O h=>?_,λv pre post F C Y R1 I h0 h1 _ e0 e1=>?_,λ_ _ _ _ _ _ h=>h.elim,λH F C R u U X h=>by rw[show R=_ from h];exact GV H U X⟩
 ·rw[show R=_ from h,Kx I]
  show _=constrF (pre++v::post) F C
  rw[GW pre I,NC b hs O]
 ·rw[show Y=_ from e0,show R1=_ from e1,Kx I,Kx I]
  show _=constrF (pre++v::post) F C
  rw[GW pre I,U6 h0 h1]
def RelR (_:List Nat)(F C R:BF):Prop:=U9 F C R
structure ConC where
 bx:Nat
 bo:Nat
 bd:Nat
 ba:Nat
 xb:Nat
 op:Int
 g:Nat
 lw:Array Value
def ConC.caps (c:ConC):Array Value:=#[Pt c.bx,Pt c.bo,Pt c.bd,Pt c.ba]
structure ConS (K:Law)(n:Nat)(Bwz:Wd->Prop)(T:Nat->Prop)(c:ConC)(mb:Nat)(o:Own)(W:Wd)(m:ManD)(V:Nat->BF):Prop where
 is:AF (K m.d V) o W mb m
 lt:Ac o W
 ok:Ai m.d V
 vars:m.d.vars.length=n
 ctx:AR o W c.xb mb
 bw:Bwz W
 x:W.cell? (Av c.bx)=some (Pt c.xb)
 p:W.cell? (Av c.bo)=some (Iv c.op)
 d:W.cell? (Av c.bd)=some (.func (.func 146) #[] c.caps)
 a:W.cell? (Av c.ba)=some (.func (.func c.g) #[] c.lw)
 no:∀q,(q=c.bx\/q=c.bo\/q=c.bd\/q=c.ba\/T q)->o q=none
 t:∀q,T q->q<W.heap.size
section
variable {T:Nat->Prop}{c:ConC}{o:Own}
def ConS.step (h:ConS K n Bwz T c mb o W m V)(I:∀W W',Bwz W->(∀q,T q->W'.heap[q]?=W.heap[q]?)->Bwz W')(s:AtC K k o W mb m V o' W' m' V'):ConS K n Bwz T c mb o' W' m' V':=by
 have g0:∀q,(q=c.bx\/q=c.bo\/q=c.bd\/q=c.ba\/T q)->q<W.heap.size:=by
  rintro q (rfl|rfl|rfl|rfl|H)
  . exact Ad h.x
  . exact Ad h.p
  . exact Ad h.d
  . exact Ad h.a
  . exact h.t q H
 exact⟨s.st.is,s.st.lt,s.st.ok,s.vars h.vars,h.ctx.chg s.st.chg,I _ _ h.bw (λq H=>s.st.chg.alien (h.t q H) (h.no q (.inr (.inr (.inr (.inr H)))))),s.st.chg.cell h.x (h.no _ (.inl rfl)),s.st.chg.cell h.p (h.no _ (.inr (.inl rfl))),s.st.chg.cell h.d (h.no _ (.inr (.inr (.inl rfl)))),s.st.chg.cell h.a (h.no _ (.inr (.inr (.inr (.inl rfl))))),
  λq H=>s.st.chg.none' (g0 q H) (h.no q H),λq H=>X5 (h.t q H) s.st.chg.size⟩
def ConS.below (h:ConS K n Bwz T c mb o W m V)(H:∀W W',Bwz W->(∀q,T q->W'.heap[q]?=W.heap[q]?)->Bwz W')(hb:Bw W W'):ConS K n Bwz T c mb o W' m V:=
 h.step (k:=0) H ((AtC.refl h.is h.lt h.ok).below hb)
end
def AtOK (K:Law)(n:Nat)(Yes:BF->BF->Prop)(xb mb:Nat)(Bwz:Wd->Prop)(T:Nat->Prop)(g:Nat)(lw:Array Value):Prop:=
 ∀(o:Own) (W:Wd) (m:ManD) (V:Nat->BF) (v f0 f1 I c1:Nat),AF (K m.d V) o W mb m->Ac o W->AR o W xb mb->Ai m.d V->m.d.vars.length=n->Bwz W->(∀q,T q->q<W.heap.size/\o q=none)->okE (Aa m.d) f0->okE (Aa m.d) f1->okE (Aa m.d) I->okE (Aa m.d) c1 ->
  Calls prog g (#[Iv v,Iv f0,Iv f1,Iv I,Iv c1]++lw) W λe w'=>
   (∃(r:Nat) (ok:Bool) (o':Own) (m':ManD) (V':Nat->BF),e=.returned (.tuple #[Iv r,.bool ok])/\AtC K (2^n-1) o W mb m V o' w' m' V'/\(ok=true->Yes (ef V f0) (ef V f1)/\okE (Aa m'.d) r/\∀ρ,ef V' r ρ=(ef V I ρ||ef V c1 ρ))/\(ok=false->¬ Yes (ef V f0) (ef V f1))) \/
   (∃er H ev,e=A1 er H ev/\DU K (2^n-1) o W mb m V er H ev w')
def Il (K:Law)(op:Int)(Rel:List Nat->BF->BF->BF->Prop):Prop:=
 ∀d V a b r,K d V op a b 0 r↔okE (Aa d) a/\okE (Aa d) b/\okE (Aa d) r/\(SatF (ef V b)->Rel d.vars (ef V a) (ef V b) (ef V r))
def Im (K:Law)(n:Nat)(Rel:List Nat->BF->BF->BF->Prop)(Bwz:Wd->Prop)(T:Nat->Prop)(c:ConC)(mb:Nat)(J:Nat):Prop:=
 ∀(o:Own) (W:Wd) (m:ManD) (V:Nat->BF) (f e:Nat),ConS K n Bwz T c mb o W m V->okE (Aa m.d) f->okE (Aa m.d) e->SatF (ef V e)->n<=lvE n (levN m.d) (Aa m.d) f+J->n<=lvE n (levN m.d) (Aa m.d) e+J ->
  Cl 146 (#[Iv f,Iv e]++c.caps) W (AO K ((2^J-1)*2^n) o W mb m V λd V' r=>Rel d.vars (ef V f) (ef V e) (ef V' r))
def Wg (J n:Nat):(2^J-1)*2^n+(2^J-1)*2^n+(1+(2^n-1))=(2^(J+1)-1)*2^n:=by
 have h1:0<2^J:=Yg (by omega);have h2:0<2^n:=Yg (by omega);have h3:2^(J+1)-1=(2^J-1)+(2^J-1)+1:=by rw[XJ];omega
 rw[h3,Y8,Y8,Nat.one_mul];omega
def OJ (args:Array Value)(w:Wd):(callFunc 146 args).run prog w=.ok (.enter 146 args) w:=YF func146 (by kernel_rfl) rfl args w
def Wh (args:Array Value)(w:Wd):(callFunc 148 args).run prog w=.ok (.enter 148 args) w:=YF func148 (by kernel_rfl) rfl args w
def Wi (h:Ai d V){v:Nat}(H:v<d.vars.length):∃pre post,d.vars=pre++v::post/\∀u∈pre,u<d.vars.length/\levN d u<levN d v:=by
 have hl:=h.dag.lt v H;refine⟨d.vars.take (levN d v),d.vars.drop (levN d v+1),?_,λu hu=>?_⟩
 ·have e:=h.inv v H;have e2:d.vars[levN d v]'hl=v:=by simpa [List.getD,hl]using e
  conv=>lhs;rw[<-YV (levN d v) d.vars,Yc hl,e2]
 ·obtain⟨i,hi,e⟩:=Zi.1 hu;have g0:i<levN d v:=by simp at hi;omega
  rw[aM]at e;obtain⟨h1,h2⟩:=h.vlt i (by omega);have I:d.vars.getD i 0=u:=by simp[List.getD,show i<d.vars.length by omega,e]
  rw[I]at h1 h2;exact⟨h1,by omega⟩
def AO.good {o:Own}{O:Af->(Nat->BF)->Nat->Prop}{x:Ending}(Y:AO K k o w mb m V A x w')(Z:∀d V' r,d.vars=m.d.vars->A d V' r->O d V' r):AO K k o w mb m V O x w':=by
 rcases Y with ⟨r,o2,m2,V2,rfl,I,X,U⟩|⟨er,H,ev,rfl,q⟩
 . exact .inl ⟨r,o2,m2,V2,rfl,I,X,Z _ _ _ I.st.ext.vars U⟩
 . exact .inr ⟨er,H,ev,rfl,q⟩
section
variable {Rel:List Nat->BF->BF->BF->Prop}{Yes:BF->BF->Prop}{T:Nat->Prop}{c:ConC}{o:Own}{J:Nat}
def Wj (hK:AC K)(hR:FQ Rel Yes)(hB:∀W W',Bwz W->(∀q,T q->W'.heap[q]?=W.heap[q]?)->Bwz W')(hat:AtOK K n Yes c.xb mb Bwz T c.g c.lw)(eg:∀args w,(callFunc c.g args).run prog w=.ok (.enter c.g args) w)(IH:Im K n Rel Bwz T c mb J)
 (hs:ConS K n Bwz T c mb o W m V) {f e bf be:Nat} (hf:okE (Aa m.d) f) (he:okE (Aa m.d) e) (E:SatF (ef V e)) (hnc:f/2≠0) (R:n<=lvE n (levN m.d) (Aa m.d) f+(J+1)) (S:n<=lvE n (levN m.d) (Aa m.d) e+(J+1)) (cf:W.cell? (Av bf)=some (Iv f)) (ce:W.cell? (Av be)=some (Iv e)) (hof:o bf=none) (hoe:o be=none):
 Cl 148 #[Pt c.bx,Pt bf,Pt be,Pt c.bd,Pt c.ba] W (AO K ((2^(J+1)-1)*2^n) o W mb m V λd V' r=>Rel d.vars (ef V f) (ef V e) (ef V' r)):=by
 obtain⟨bx,bo,bd,ba,xb,op,g,lw⟩:=c;obtain⟨N1,ho⟩:=Ex ((2^J-1)*2^n);have gA:=Wg J n;obtain⟨N2,hn⟩:=Ex ((2^(J+1)-1)*2^n);obtain⟨N3,hm⟩:=Ex (2^n-1);rw[<-ho,<-hn,<-hm]at gA;rw[<-hn];have hk:=hs.ok;have gz:=hs.vars;obtain⟨w1,gQ⟩:=Ex (W.alloc (.cells #[Iv (f:Nat),Iv (e:Nat)] 107));have HW1:Hq (_=w1):=Hd gQ.symm;have gG:Bw W w1:=by rw[gQ];exact Ag _ _
 have gI:w1.heap[W.heap.size]?=some (.cells #[Iv (f:Nat),Iv (e:Nat)] 107 (0,0)):=by rw[gQ];exact Xv _ _
 have hs1:=hs.below hB gG
 have hy:Hq (Cl 61 #[Pt xb,.slice (some (Av W.heap.size)) 2 2] w1 λx w'=>∃v:Nat,x=.returned (Iv v)/\(v<n/\levN m.d v<=lvE n (levN m.d) (Aa m.d) f/\levN m.d v<=lvE n (levN m.d) (Aa m.d) e/\n<=levN m.d v+(J+1))/\Bw w1 w'):=Hd ((F4 hs1.is hs1.lt hs1.ctx hs1.ok [f,e] (by intro z i;simp at i;rcases i with rfl|rfl<;>assumption) (some (Av W.heap.size)) 2 ⟨by simp,λq hq=>⟨W.heap.size,0,rfl,by
  rcases(show q=0\/q=1 by simp at hq;omega)with rfl|rfl
  . rw[Xw _ _ 0 _ _ _ gI];rfl
  . rw[Xw _ _ 1 _ _ _ gI];rfl⟩⟩).mono (by
  rintro x w' ⟨top,least,rfl,ht,gT⟩;rcases ht with ⟨_,_,h3⟩|⟨v,rfl,_,l,⟨z,i,b,hb,k0⟩,gK⟩
  ·exfalso;have h4:=h3 f (by simp);rcases hf with s|⟨b,s⟩
   . exact hnc s
   . rw[h4]at s;cases s
  ·rw[gz]at l gK;refine⟨v,rfl,⟨l,gK f (by simp),gK e (by simp),?_⟩,gT⟩;have hG:lvE n (levN m.d) (Aa m.d) z=levN m.d v:=by unfold lvE;rw[hb,<-k0]
   simp only[Yy,ZQ,or_false]at i;rcases i with rfl|rfl
   . rw[hG]at R;exact R
   . rw[hG]at S;exact S))
 obtain⟨P,hP⟩:=Ex (AO K N2 o W mb m V λd V' r=>Rel d.vars (ef V f) (ef V e) (ef V' r):Ending->Wd->Prop)
 have gy:=Hd hP;have gt:=Hd hB;have gq:=Hd hs;have gO:Hq (AtC K 0 o W mb m V o w1 m V):=Hd ((AtC.refl hs.is hs.lt hk).below gG)
 have gk:Hq (∀(k:Nat) (o1:Own) (w':Wd) (m1:ManD) (V1:Nat->BF) (v X O:Nat),n<=levN m.d v+(J+1)->AtC K k o W mb m V o1 w' m1 V1->okE (Aa m1.d) X->okE (Aa m1.d) O->SatF (ef V1 O)->levN m.d v<lvE n (levN m1.d) (Aa m1.d) X->levN m.d v<lvE n (levN m1.d) (Aa m1.d) O ->
  Cl 146 #[Iv X,Iv O,Pt bx,Pt bo,Pt bd,Pt ba] w' (AO K N1 o1 w' mb m1 V1 λd V' r=>Rel d.vars (ef V1 X) (ef V1 O) (ef V' r))):=Hd λk o1 w' m1 V1 v X O h0 h1 h2 h3 h4 s h6=>by
  rw[ho];exact IH o1 w' m1 V1 X O (hs.step hB h1) h2 h3 h4 (by omega) (by omega)
 have HKK:=Hd hK;have A:=Hd hR;have gX:=Hd hat;have go:=Hd (show okE (Aa m.d) f/\okE (Aa m.d) e from⟨hf,he⟩);have gg:=Hd E;have g5:=Hd hk;have g4:=Hd gz;have g6:=Hd gA;have hO:=Hd hm;have gV:Hq (∀{k:Nat} {o':Own} {w':Wd} {m':ManD} {V':Nat->BF},AtC K k o W mb m V o' w' m' V'->w'.cell? (Av bf)=some (Iv f)/\w'.cell? (Av be)=some (Iv e)):=Hd λh=>⟨h.st.chg.cell cf hof,h.st.chg.cell ce hoe⟩
 obtain⟨cf1,ce1⟩:=gV.o gO.o;have cx:=hs.x;have cx1:=hs1.x;have eg1:=OJ;rw[<-hP];clear hP hs hs1 hk hK hR hB hat IH E R S gA ho hn hm gQ gG hof hoe hf he gI gz hnc
 go_enter func148,ntmps148
 go_wp2_with fail;rw[HW1.o];refine hy.o.mono ?_;rintro y w2 ⟨v,rfl,B,gT⟩;have HV:=Hd B;have gC:=Hd (gO.o.below gT);have gx:=Hd (gq.o.step gt.o gC.o);have cx2:=gx.o.x;obtain⟨cf2,ce2⟩:=gV.o gC.o;obtain⟨f0,hh⟩:∃z,z=(cofs m.d f v).1:=⟨_,rfl⟩;obtain⟨f1,hg⟩:∃z,z=(cofs m.d f v).2:=⟨_,rfl⟩;obtain⟨U,hj⟩:∃z,z=(cofs m.d e v).1:=⟨_,rfl⟩;obtain⟨c1,hi⟩:∃z,z=(cofs m.d e v).2:=⟨_,rfl⟩
 have hM:Hq (Cl 62 #[Pt xb,Iv f,Iv v] w2 (Bl (.tuple #[Iv f0,Iv f1]) w2)):=Hd ((EM gx.o.is gx.o.lt gx.o.ctx gx.o.ok f go.o.1 v).mono (by
  rintro x w' ⟨rfl,h⟩;exact⟨by rw[hh,hg],h⟩))
 have g3:Hq ((okE (Aa m.d) f0/\levN m.d v<lvE n (levN m.d) (Aa m.d) f0/\ef V f0=cofF (ef V f) v false)/\okE (Aa m.d) f1/\levN m.d v<lvE n (levN m.d) (Aa m.d) f1/\ef V f1=cofF (ef V f) v true):=Hd (by
  have l:=B.1;rw[<-g4.o]at l;have q:=Bo (V:=V) g5.o go.o.1 l (by rw[g4.o];exact B.2.1);have Z:=FL (V:=V) g5.o go.o.1 l (by rw[g4.o];exact B.2.1);rw[g4.o]at q;rw[hh,hg];exact⟨⟨q.1,q.2.2.1,Z.1⟩,q.2.1,q.2.2.2.1,Z.2⟩)
 have g2:Hq ((okE (Aa m.d) U/\levN m.d v<lvE n (levN m.d) (Aa m.d) U/\ef V U=cofF (ef V e) v false)/\okE (Aa m.d) c1/\levN m.d v<lvE n (levN m.d) (Aa m.d) c1/\ef V c1=cofF (ef V e) v true):=Hd (by
  have l:=B.1;rw[<-g4.o]at l;have q:=Bo (V:=V) g5.o go.o.2 l (by rw[g4.o];exact B.2.2.1);have Z:=FL (V:=V) g5.o go.o.2 l (by rw[g4.o];exact B.2.2.1);rw[g4.o]at q;rw[hj,hi];exact⟨⟨q.1,q.2.2.1,Z.1⟩,q.2.1,q.2.2.2.1,Z.2⟩)
 have C:Hq (∀z,okE (Aa m.d) z->(z=1↔¬ SatF (ef V z))):=Hd λz i=>by
  have h1:ef V 1=λ_=>false:=g5.o.dag.ef1
  constructor
  . rintro rfl ⟨ρ,hρ⟩;rw[h1]at hρ;cases hρ
  ·intro h;refine g5.o.dag.canon i (.inl rfl) ?_;rw[h1];funext ρ;cases hr:ef V z ρ with
   | false=>rfl
   | true=>exact absurd ⟨ρ,hr⟩ h
 obtain⟨pre,post,h8,h7⟩:=Wi g5.o (by rw[g4.o];exact B.1);have g9:=Hd h8;have gh:Hq (∀u∈pre,Ind (ef V f) u/\Ind (ef V e) u):=Hd λu hu=>by
  obtain⟨h1,h2⟩:=h7 u hu;exact⟨Fb g5.o go.o.1 (by rw[g4.o];omega),Fb g5.o go.o.2 (by rw[g4.o];omega)⟩
 have hU:Hq (U=(cofs m.d e v).1/\c1=(cofs m.d e v).2):=Hd ⟨hj,hi⟩;have gc:Hq (∀x w',P x w'↔AO K N2 o W mb m V (λd V' r=>Rel d.vars (ef V f) (ef V e) (ef V' r)) x w'):=Hd λx w'=>by rw[gy.o]
 clear gT hh hg hj hi h8 h7 hy HW1 cf1 ce1 cx1 cx gO B cf ce;go_wp2_with fail;refine hM.o.mono ?_;rintro y w3 ⟨rfl,hJ⟩;have gB:=Hd (gC.o.below hJ);have gw:=Hd (gq.o.step gt.o gB.o);have cx3:=gw.o.x;obtain⟨cf3,ce3⟩:=gV.o gB.o
 have hN:Hq (Cl 62 #[Pt xb,Iv e,Iv v] w3 (Bl (.tuple #[Iv U,Iv c1]) w3)):=Hd ((EM gw.o.is gw.o.lt gw.o.ctx gw.o.ok e go.o.2 v).mono (by
  rintro x w' ⟨rfl,h⟩;exact⟨by rw[hU.o.1,hU.o.2],h⟩))
 clear hJ hM gC gx cf2 ce2 cx2;go_wp2_with fail;refine hN.o.mono ?_;rintro y w4 ⟨rfl,hI⟩;have g7:=Hd (gB.o.below hI);have g8:=Hd (gq.o.step gt.o g7.o);have cd4:=g8.o.d;have ca4:=g8.o.a;unfold ConC.caps at cd4;clear hI hN gB gw cf3 ce3 cx3 gV
 by_cases gv:U=1
 ·have k3:(((U:Nat):Int) == 1)=true:=by subst gv;rfl
  have ge:Hq (SatF (ef V c1)):=Hd (by
   rw[g2.o.2.2.2];rcases JV gg.o v false with h|h
   . rw[<-g2.o.1.2.2]at h;exact absurd h ((C.o U g2.o.1.1).1 gv)
   . exact h)
  have j:Hq (Cl 146 #[Iv f1,Iv c1,Pt bx,Pt bo,Pt bd,Pt ba] w4 λx w'=>(∃r:Nat,x=.returned (Iv r)/\P x w')\/∃er H ev,x=A1 er H ev/\P x w'):=Hd ((gk.o 0 o w4 m V v f1 c1 HV.o.2.2.2 g7.o g3.o.2.1 g2.o.2.1 ge.o g3.o.2.2.1 g2.o.2.2.1).mono λx w' hx=>by
   have G:P x w':=(gc.o x w').2 (by
    refine((AO.base g7.o (show 0+N1<=N2 by have:=g6.o;omega) hx).good ?_);intro d V' r x4 h;rw[x4,g9.o]at h⊢;rw[g3.o.2.2.2,g2.o.2.2.2]at h
    exact A.o.one true v pre post _ _ _ gh.o gg.o (by
     show ¬ SatF (cofF (ef V e) v false)
     rw[<-g2.o.1.2.2];exact(C.o U g2.o.1.1).1 gv) h)
   rcases hx.kind with ⟨r,rfl⟩|⟨er,H,ev,rfl⟩
   . exact .inl ⟨r,rfl,G⟩
   . exact .inr ⟨er,H,ev,rfl,G⟩)
  clear gk g3 g2 gX HKK C gc gy A g9 gh gg g7 g8 ge;go_wp2_with fail;refine j.o.mono ?_;rintro x p (⟨r,rfl,I⟩|⟨er,H,ev,rfl,I⟩)
  . have Y:=Hd I;clear I j;go_wp2_with fail;exact Y.o
  . have Y:=Hd I;clear I j;unfold A1;go_wp2_with fail;exact⟨rfl,Y.o⟩
 have k3:(((U:Nat):Int) == 1)=false:=by rw[YR];omega
 have gf:Hq (SatF (ef V U)):=Hd (Yo λh=>gv ((C.o U g2.o.1.1).2 h))
 by_cases gP:c1=1
 ·have gG:(((c1:Nat):Int) == 1)=true:=by subst gP;rfl
  have j:Hq (Cl 146 #[Iv f0,Iv U,Pt bx,Pt bo,Pt bd,Pt ba] w4 λx w'=>(∃r:Nat,x=.returned (Iv r)/\P x w')\/∃er H ev,x=A1 er H ev/\P x w'):=Hd ((gk.o 0 o w4 m V v f0 U HV.o.2.2.2 g7.o g3.o.1.1 g2.o.1.1 gf.o g3.o.1.2.1 g2.o.1.2.1).mono λx w' hx=>by
   have G:P x w':=(gc.o x w').2 (by
    refine((AO.base g7.o (show 0+N1<=N2 by have:=g6.o;omega) hx).good ?_);intro d V' r x4 h;rw[x4,g9.o]at h⊢;rw[g3.o.1.2.2,g2.o.1.2.2]at h
    exact A.o.one false v pre post _ _ _ gh.o gg.o (by
     show ¬ SatF (cofF (ef V e) v true)
     rw[<-g2.o.2.2.2];exact(C.o c1 g2.o.2.1).1 gP) h)
   rcases hx.kind with ⟨r,rfl⟩|⟨er,H,ev,rfl⟩
   . exact .inl ⟨r,rfl,G⟩
   . exact .inr ⟨er,H,ev,rfl,G⟩)
  clear gk g3 g2 gX HKK C gc gy A g9 gh gg g7 g8 gf gv;go_wp2_with fail;refine j.o.mono ?_;rintro x p (⟨r,rfl,I⟩|⟨er,H,ev,rfl,I⟩)
  . have Y:=Hd I;clear I j;go_wp2_with fail;exact Y.o
  . have Y:=Hd I;clear I j;unfold A1;go_wp2_with fail;exact⟨rfl,Y.o⟩
 have gG:(((c1:Nat):Int) == 1)=false:=by rw[YR];omega
 have ge:Hq (SatF (ef V c1)):=Hd (Yo λh=>gP ((C.o c1 g2.o.2.1).2 h))
 have gY:Hq (Calls prog g (#[Iv v,Iv f0,Iv f1,Iv U,Iv c1]++lw) w4 λx w'=>
  (∃(r:Nat) (ok:Bool) (o':Own) (m':ManD) (V':Nat->BF),x=.returned (.tuple #[Iv r,.bool ok])/\AtC K N3 o W mb m V o' w' m' V'/\(ok=true->Yes (ef V f0) (ef V f1)/\okE (Aa m'.d) r/\∀ρ,ef V' r ρ=(ef V U ρ||ef V c1 ρ))/\(ok=false->¬ Yes (ef V f0) (ef V f1))) \/
  (∃er H ev,x=A1 er H ev/\P x w')):=Hd ((gX.o o w4 m V v f0 f1 U c1 g8.o.is g8.o.lt g8.o.ctx g8.o.ok g8.o.vars g8.o.bw (λq hq=>⟨g8.o.t q hq,g8.o.no q (.inr (.inr (.inr (.inr hq))))⟩) g3.o.1.1 g3.o.2.1 g2.o.1.1 g2.o.2.1).mono (by
  rintro x w' (⟨r,ok,o',m',V',rfl,D,Z,q3⟩|⟨er,H,ev,rfl,gD⟩)
  . rw[<-hO.o]at D;have q4:=g7.o.trans D;rw[XO]at q4;exact .inl ⟨r,ok,o',m',V',rfl,q4,Z,q3⟩
  . refine .inr ⟨er,H,ev,rfl,(gc.o _ w').2 (.inr ⟨er,H,ev,rfl,gD.after g7.o (by have:=g6.o;have:=hO.o;omega)⟩)⟩))
 clear gv gP gX g8 g7;go_wp2_with fail;refine gY.o.mono ?_;rintro x p (⟨nx,ok,o5,m5,V5,rfl,L,gH,h9⟩|⟨er,H,ev,rfl,I⟩)
 rotate_left
 . have Y:=Hd I;clear I gY gk g3 g2 HKK C gc gy A g9 gh gg gf ge;unfold A1;go_wp2_with fail;exact⟨rfl,Y.o⟩
 have gu:=Hd L;have gp:=Hd (gq.o.step gt.o gu.o);have cd5:=gp.o.d;have cx5:=gp.o.x;unfold ConC.caps at cd5;have gr:Hq (∀z,okE (Aa m.d) z->okE (Aa m5.d) z/\ef V5 z=ef V z/\lvE n (levN m5.d) (Aa m5.d) z=lvE n (levN m.d) (Aa m.d) z):=Hd λz i=>⟨L.st.ext.ok i,L.st.ext.ef i,L.st.ext.lvE i g5.o.dag.none0 gp.o.ok.dag.none0⟩
 cases ok with
 | true=>
   have M:=Hd (gH rfl)
   have hS:Hq (levN m.d v<lvE n (levN m5.d) (Aa m5.d) nx):=Hd (by
    have gR:=gp.o.vars;have ha:levN m5.d=levN m.d:=L.st.ext.lev;rw[<-gR,<-ha];refine ND gp.o.ok M.o.2.1 ?_ λu hu gS=>Ind.of fun ρ b=>?_
    . rw[ha,gR];have:=g5.o.dag.lt v (by rw[g4.o];exact HV.o.1);rw[g4.o]at this;exact this
    . rw[ha]at gS;rw[M.o.2.2,M.o.2.2,(Fb g5.o g2.o.1.1 (by rw[g4.o];have:=g2.o.1.2.1;omega)).at,(Fb g5.o g2.o.2.1 (by rw[g4.o];have:=g2.o.2.2.1;omega)).at])
   have hL:Hq (SatF (ef V5 nx)):=Hd (by
    obtain⟨ρ,hρ⟩:=gf.o;exact⟨ρ,by rw[M.o.2.2,hρ];rfl⟩)
   have j:Hq (Cl 146 #[Iv f0,Iv nx,Pt bx,Pt bo,Pt bd,Pt ba] p λx w'=>(∃r:Nat,x=.returned (Iv r)/\P x w')\/∃er H ev,x=A1 er H ev/\P x w'):=Hd ((gk.o N3 o5 p m5 V5 v f0 nx HV.o.2.2.2 gu.o (gr.o f0 g3.o.1.1).1 M.o.2.1 hL.o (by rw[(gr.o f0 g3.o.1.1).2.2];exact g3.o.1.2.1) hS.o).mono λx w' hx=>by
    have G:P x w':=(gc.o x w').2 (by
     refine((AO.base gu.o (show N3+N1<=N2 by have:=g6.o;omega) hx).good ?_);intro d V' r x4 h;rw[(gr.o f0 g3.o.1.1).2.1,g3.o.1.2.2]at h;refine A.o.next d.vars v _ _ _ _ ?_ ?_ h
     . rw[<-g3.o.1.2.2,<-g3.o.2.2.2];exact M.o.1
     . intro ρ;rw[<-g2.o.1.2.2,<-g2.o.2.2.2];exact M.o.2.2 ρ)
    rcases hx.kind with ⟨r,rfl⟩|⟨er,H,ev,rfl⟩
    . exact .inl ⟨r,rfl,G⟩
    . exact .inr ⟨er,H,ev,rfl,G⟩)
   clear gH h9 L gY gk g3 g2 HKK C gc gy A g9 gh gg gf ge gu gp gr M hS hL cd4 ca4;go_wp2_with fail;refine j.o.mono ?_;rintro x w6 (⟨r,rfl,I⟩|⟨er,H,ev,rfl,I⟩)
   . have Y:=Hd I;clear I j;go_wp2_with fail;exact Y.o
   . have Y:=Hd I;clear I j;unfold A1;go_wp2_with fail;exact⟨rfl,Y.o⟩
 | false=>
   have k9:=Hd (h9 rfl);have gU:=L.below (An p 1);have hF:Hq (AtC K N3 o W mb m V o5 p.drew m5 V5):=Hd gU;have cd5d:p.drew.cell? (Av bd)=some (.func (.func 146) #[] #[Pt bx,Pt bo,Pt bd,Pt ba]):=cd5;have cx5d:p.drew.cell? (Av bx)=some (Pt xb):=cx5;have hA:Hq (∀er H ev w',DU K N2 o W mb m V er H ev w'->P (A1 er H ev) w'):=Hd λer H ev w' h=>(gc.o _ w').2 (.inr ⟨er,H,ev,rfl,h⟩)
   have gL:Hq (∀(k:Nat) (o1:Own) (w':Wd) (m1:ManD) (V1:Nat->BF) (X O:Nat),k+N1<=N2->AtC K k o W mb m V o1 w' m1 V1->okE (Aa m.d) X->okE (Aa m.d) O->SatF (ef V O)->levN m.d v<lvE n (levN m.d) (Aa m.d) X->levN m.d v<lvE n (levN m.d) (Aa m.d) O ->
    Cl 146 #[Iv X,Iv O,Pt bx,Pt bo,Pt bd,Pt ba] w' λx w2=>
     (∃u,x=.returned u/\(w2.cell? (Av bd)=some (.func (.func 146) #[] #[Pt bx,Pt bo,Pt bd,Pt ba])/\w2.cell? (Av bx)=some (Pt xb))/\∃(r:Nat) (o2:Own) (m2:ManD) (V2:Nat->BF),u=Iv r/\AtC K (k+N1) o W mb m V o2 w2 m2 V2/\Step K o1 w' mb m1 V1 o2 w2 m2 V2/\okE (Aa m2.d) r/\Rel m.d.vars (ef V X) (ef V O) (ef V2 r))\/(∃ch,x=.panicked ch/\P (.panicked ch) w2)):=Hd λk o1 w' m1 V1 X O hZ h1 h2 h3 h4 s h6=>by
    have N:=h1.st.ext;refine(gk.o k o1 w' m1 V1 v X O HV.o.2.2.2 h1 (N.ok h2) (N.ok h3) (by rw[N.ef h3];exact h4) (by rw[N.lvE h2 g5.o.dag.none0 h1.st.ok.dag.none0];exact s) (by rw[N.lvE h3 g5.o.dag.none0 h1.st.ok.dag.none0];exact h6)).mono ?_;rintro x w2 (⟨r,o2,m2,V2,rfl,D,Z,q3⟩|⟨er,H,ev,rfl,gD⟩)
    . have gd:=h1.trans D;have gE:=gq.o.step gt.o gd;have gF:=gE.d;unfold ConC.caps at gF;refine .inl ⟨_,rfl,⟨gF,gE.x⟩,r,o2,m2,V2,rfl,gd,D.st,Z,?_⟩;rw[N.ef h2,N.ef h3,gd.st.ext.vars]at q3;exact q3
    . exact .inr ⟨_,rfl,hA.o _ _ _ _ (gD.after h1 hZ)⟩
   have HL:=Hd (gL.o N3 o5 p.drew m5 V5 f0 U (by have:=g6.o;omega) hF.o g3.o.1.1 g2.o.1.1 gf.o g3.o.1.2.1 g2.o.1.2.1);clear gH h9 L gU gY gk gu gp gr cd4 ca4 cd5 cx5 gy;go_upto_region 11 with fail;refine D4 [0,1,2,3,4,6,7,8,5,9,10,11] (λW=>W.cell? (Av bd)=some (.func (.func 146) #[] #[Pt bx,Pt bo,Pt bd,Pt ba])/\W.cell? (Av bx)=some (Pt xb)) (λch w'=>P (.panicked ch) w') (λc a w hd h=>⟨hd,h⟩) (by kernel_rfl) ⟨cd5d,cx5d⟩ ?_
   iterate 8
    refine Ce rfl rfl (by kernel_rfl) ?_;apply Exists.intro;refine⟨λw' hw=>?_,?_⟩
    . obtain⟨D,Z⟩:=hw;go_simp;rfl
    simp only[Ab]
   refine FM rfl (by kernel_rfl) rfl rfl (by go_simp) HL.o ?_;rintro u w6 k8 ⟨r0,o6,m6,V6,rfl,gJ,st6,k6,f6⟩;have hY:=Hd gJ;have hD:=Hd k6;have hT:=Hd f6;have HH:=Hd (gL.o (N3+N1) o6 w6 m6 V6 f1 c1 (by have:=g6.o;omega) gJ g3.o.2.1 g2.o.2.1 ge.o g3.o.2.2.1 g2.o.2.2.1);clear gJ st6 k6 f6 HL k8;simp only[Ab];refine FM rfl (by kernel_rfl) rfl rfl (by go_simp) HH.o ?_;rintro u w7 k5 ⟨r1,o7,m7,V7,rfl,gl,Q,k7,f7⟩;have hC:=Hd k7;have gM:=Hd (Q.ext.ok hD.o);have hE:=Hd f7;have gN:Hq (Rel m.d.vars (ef V f0) (ef V U) (ef V7 r0)):=Hd (by rw[Q.ext.ef hD.o];exact hT.o);have F:=Hd (gq.o.step gt.o gl);have hX:=Hd gl
   have hQ:Hq (Cl 88 #[Pt xb,Iv v,Iv r0,Iv r1] w7 λx w2=>(∃u,x=.returned u/\(w2.cell? (Av bd)=some (.func (.func 146) #[] #[Pt bx,Pt bo,Pt bd,Pt ba])/\w2.cell? (Av bx)=some (Pt xb))/\∃r:Nat,u=Iv r/\P (.returned (Iv r)) w2)\/(∃ch,x=.panicked ch/\P (.panicked ch) w2)):=Hd (by
    have gR:=F.o.vars;have hH:levN m7.d=levN m.d:=gl.st.ext.lev;have gZ:v<m7.d.vars.length:=by rw[gR];exact HV.o.1
    have hW:levN m7.d v<m7.d.vars.length:=F.o.ok.dag.lt v gZ;have hc:∀{z X O:Nat},okE (Aa m.d) X->okE (Aa m.d) O->levN m.d v<lvE n (levN m.d) (Aa m.d) X->levN m.d v<lvE n (levN m.d) (Aa m.d) O->okE (Aa m7.d) z->Rel m.d.vars (ef V X) (ef V O) (ef V7 z)->levN m7.d v<lvE m7.d.vars.length (levN m7.d) (Aa m7.d) z:=λ{z X O} h1 h2 h3 h4 s h6=>
     ND F.o.ok s hW λu hu gS=>A.o.ind _ _ _ _ u (Fb g5.o h1 (by rw[g4.o];rw[hH]at gS;omega)) (Fb g5.o h2 (by rw[g4.o];rw[hH]at gS;omega)) h6
    refine(ML HKK.o F.o.is F.o.lt F.o.ctx F.o.ok v r0 r1 gZ gM.o hC.o (hc g3.o.1.1 g2.o.1.1 g3.o.1.2.1 g2.o.1.2.1 gM.o gN.o) (hc g3.o.2.1 g2.o.2.1 g3.o.2.2.1 g2.o.2.2.1 hC.o hE.o)).mono ?_;rintro x w2 (⟨r,o2,m2,V2,rfl,D,Z,q3,_⟩|⟨er,H,ev,rfl,gD⟩)
    ·have gd:=gl.trans D;have gE:=gq.o.step gt.o gd;have gF:=gE.d;unfold ConC.caps at gF;refine .inl ⟨_,rfl,⟨gF,gE.x⟩,r,rfl,(gc.o _ w2).2 (.inl ⟨r,o2,m2,V2,rfl,gd.mono (by have:=g6.o;omega),Z,?_⟩)⟩
     show Rel m2.d.vars (ef V f) (ef V e) (ef V2 r)
     have g0:=gN.o;have g1:=hE.o;rw[gd.st.ext.vars,g9.o,q3];rw[g9.o,g3.o.1.2.2,g2.o.1.2.2]at g0;rw[g9.o,g3.o.2.2.2,g2.o.2.2.2]at g1;exact A.o.both v pre post _ _ _ _ gh.o (by rw[<-g2.o.1.2.2];exact gf.o) (by rw[<-g2.o.2.2.2];exact ge.o) (by rw[<-g3.o.1.2.2,<-g3.o.2.2.2];exact k9.o) g0 g1
    . exact .inr ⟨_,rfl,hA.o _ _ _ _ (gD.after gl (by have:=g6.o;omega))⟩)
   clear gl Q k7 f7 HH k5 gL hX F gN hE hC gM hD hT hY;simp only[Ab];refine FM rfl (by kernel_rfl) rfl rfl (by go_simp) hQ.o ?_;rintro u w8 k4 ⟨r,rfl,I⟩;have Y:=Hd I;clear I k4 hQ;simp only[Ab];refine Ce rfl rfl (by kernel_rfl) ?_;apply Exists.intro;refine⟨λw' hw=>?_,?_⟩
   . clear hw;go_simp;rfl
   simp only[Ab];refine D5 (by kernel_rfl) ?_;clear cd5d cx5d;go_wp2_with fail;exact Y.o
end
def boxes2e (w:Wd)(x y:Value)(s t:TypeId):∃H,H=(w.alloc (.cells #[x] s)).alloc (.cells #[y] t)/\Bw w H/\H.heap.size=w.heap.size+2/\H.cell? (Av w.heap.size)=some x/\H.cell? (Av (w.heap.size+1))=some y:=by
 refine⟨_,rfl,(Ag _ _).alloc (by simp) _,by simp,?_,?_⟩
 . exact cell1 ((X1 _ _ (by simp)).trans (Xv _ _))
 . have:=Xv (w.alloc (.cells #[x] s)) (.cells #[y] t);rw[X3]at this;exact cell1 this
section
variable {Rel:List Nat->BF->BF->BF->Prop}{Yes:BF->BF->Prop}{T:Nat->Prop}{c:ConC}{o:Own}{J:Nat}
def OK (s:AC K)(Z:FQ Rel Yes)(H:Il K c.op Rel)(i:∀W W',Bwz W->(∀q,T q->W'.heap[q]?=W.heap[q]?)->Bwz W')(O:AtOK K n Yes c.xb mb Bwz T c.g c.lw)(t:∀args w,(callFunc c.g args).run prog w=.ok (.enter c.g args) w)
 (IH:∀j,J=j+1->Im K n Rel Bwz T c mb j):Im K n Rel Bwz T c mb J:=by
 intro o W m V f e hs I Y g1 g2 g9;have gi:∀(fn:Fn) (first cap:Array Value) (w:Wd),(Instr.makeFunc fn first cap).run prog w=.ok (.func fn first cap) w:=λ_ _ _ _=>rfl
 obtain⟨w2,g8,g6,B,Q,R⟩:=boxes2e W (Iv f) (Iv e) 107 107;have ge:Hq (_=w2):=Hd g8.symm;have g0:=hs.below i g6;have hk:=hs.ok;have g3:AtC K 0 o W mb m V o w2 m V:=(AtC.refl hs.is hs.lt hk).below g6;obtain⟨N,l⟩:=Ex ((2^J-1)*2^n);obtain⟨P,a⟩:=Ex (AO K N o W mb m V λd V' r=>Rel d.vars (ef V f) (ef V e) (ef V' r):Ending->Wd->Prop)
 rw[<-l,<-a];have g5:=Hd (DC f w2 (D2 hs.is I));have g4:Hq (Rel m.d.vars (ef V f) (ef V e) (ef V f)->P (.returned (Iv (f:Nat))) w2):=Hd λh=>by
  rw[a];exact .inl ⟨f,o,m,V,rfl,g3.mono (X0 _),I,h⟩
 by_cases h1:e=0
 ·have X:=Hd (g4.o (Z.tru _ _ _ (by subst h1;intro ρ;rw[hk.dag.ef0])));have hb:(((e:Nat):Int) == 0)=true:=by subst h1;rfl
  clear a hs g0 hk g3 s Z H i O IH g1 g2 g9 I Y g4 g5 g8 g6 B h1 l t;obtain⟨bx,bo,bd,ba,xb,op,g,lw⟩:=c;unfold ConC.caps
  show Calls _ _ #[_,_,_,_,_,_] _ _
  go_enter func146,ntmps146
  go_upto_region 1 with fail;rw[ge.o];go_wp2_with fail;exact X.o
 have hb:(((e:Nat):Int) == 0)=false:=by rw[YR];omega
 by_cases h0:f/2=0
 ·have X:=Hd (g4.o (Z.const _ _ _ (by
   intro ρ ρ';rw[JJ hk h0];rfl)))
  rw[XQ (show enode f=0 from h0)]at g5;clear a hs g0 hk g3 s Z H i O IH g1 g2 g9 I Y g4 g8 g6 B h1 h0 l t;obtain⟨bx,bo,bd,ba,xb,op,g,lw⟩:=c;unfold ConC.caps
  show Calls _ _ #[_,_,_,_,_,_] _ _
  go_enter func146,ntmps146
  go_upto_region 1 with fail;rw[ge.o];go_wp2_with fail;refine g5.o.mono ?_;rintro y w' ⟨rfl,rfl⟩;go_wp2_with fail;exact X.o
 rw[XW (show ¬ enode f=0 from h0)]at g5;cases J with
 | zero=>
   exfalso;rcases I with h|⟨b,C⟩
   . exact h0 h
   . have h1:=hk.dag.lt b.v (hk.dag.var _ _ C);rw[hs.vars]at h1;unfold lvE at g2;rw[C]at g2;simp at g2;omega
 | succ j=>
   have A:o W.heap.size=none:=hs.lt.none (Xs _);have gc:o (W.heap.size+1)=none:=hs.lt.none (by omega);have D:Cl 147 #[Pt c.xb,Iv c.op,Iv f,Iv e,Iv (0:Nat),.func (.func 148) #[] #[Pt c.bx,Pt W.heap.size,Pt (W.heap.size+1),Pt c.bd,Pt c.ba]] w2 (AO K N o w2 mb m V λd V' r=>Rel d.vars (ef V f) (ef V e) (ef V' r)):=by
    refine We g0.is g0.lt g0.ctx hk Wh c.op f e 0 (λr u=>?_) (λd' V' r gj x u L=>?_) (λw1 z G hl=>?_)
    . obtain⟨_,_,F,E⟩:=(H _ _ _ _ _).1 u;exact⟨F,E g1⟩
    . refine(H _ _ _ _ _).2 ⟨x.ok I,x.ok Y,u,λ_=>?_⟩;rw[x.ef I,x.ef Y];exact L
    . have M:AtC K 0 o w2 mb m V o w1 m V:=⟨⟨G,hl,z,hk,Ext.refl _ _,rfl,rfl⟩,rfl,Xs _⟩;rw[l];exact Wj s Z i O t (IH j rfl) (g0.step i M) I Y g1 h0 g2 g9 (z.cell Q A) (z.cell R gc) A gc
   have g7:Hq (Cl 147 #[Pt c.xb,Iv c.op,Iv f,Iv e,Iv 0,.func (.func 148) #[] #[Pt c.bx,Pt W.heap.size,Pt (W.heap.size+1),Pt c.bd,Pt c.ba]] w2 λx w'=>(∃r:Nat,x=.returned (Iv r)/\P x w')\/∃er U ev,x=A1 er U ev/\P x w'):=Hd (D.mono λx w' hx=>by
    have gf:P x w':=by
     rw[a];exact AO.base g3 (by omega) hx
    rcases hx.kind with ⟨r,rfl⟩|⟨er,U,ev,rfl⟩
    . exact .inl ⟨r,rfl,gf⟩
    . exact .inr ⟨er,U,ev,rfl,gf⟩)
   have cx:=g0.x;have cp:=g0.p;clear D a hs g0 hk g3 s Z H i O IH g1 g2 g9 I Y g4 g8 g6 B h1 h0 l t A gc;obtain⟨bx,bo,bd,ba,xb,op,g,lw⟩:=c;unfold ConC.caps
   show Calls _ _ #[_,_,_,_,_,_] _ _
   go_enter func146,ntmps146
   go_upto_region 1 with fail;rw[ge.o];go_wp2_with fail;refine g5.o.mono ?_;rintro y w' ⟨rfl,rfl⟩;go_wp2_with fail;refine g7.o.mono ?_;rintro x S (⟨r,rfl,k⟩|⟨er,U,ev,rfl,k⟩)
   . have X:=Hd k;clear k g7;go_wp2_with fail;exact X.o
   . have X:=Hd k;clear k g7;unfold A1;go_wp2_with fail;exact⟨rfl,X.o⟩
def OL (U:AC K)(O:FQ Rel Yes)(H:Il K c.op Rel)(X:∀W W',Bwz W->(∀q,T q->W'.heap[q]?=W.heap[q]?)->Bwz W')(I:AtOK K n Yes c.xb mb Bwz T c.g c.lw)(Y:∀args w,(callFunc c.g args).run prog w=.ok (.enter c.g args) w):∀J,Im K n Rel Bwz T c mb J
 | 0=>OK U O H X I Y (λj e=>by cases e)
 | J+1=>OK U O H X I Y (λj e=>by cases e;exact OL U O H X I Y J)
def Wk (F:AC K)(D:FQ Rel Yes)(Y:Il K op Rel)(s:∀W W',Bwz W->(∀q,T q->W'.heap[q]?=W.heap[q]?)->Bwz W'){lw:Array Value}(h:AtOK K n Yes xb mb Bwz T g lw)(J:∀args w,(callFunc g args).run prog w=.ok (.enter g args) w)
 {f e:Nat} (A:AF (K m.d V) o W mb m) (I:Ac o W) (hx:AR o W xb mb) (hk:Ai m.d V) (z:m.d.vars.length=n) (b:Bwz W) (i:∀q,T q->q<W.heap.size/\o q=none) (B:okE (Aa m.d) f) (C:okE (Aa m.d) e) (X:SatF (ef V e)):
 Cl 118 #[Pt xb,Iv op,Iv f,Iv e,.func (.func g) #[] lw] W (AO K ((2^n-1)*2^n) o W mb m V λd V' r=>Rel d.vars (ef V f) (ef V e) (ef V' r)):=by
 have gh:∀(fn:Fn) (first cap:Array Value) (w:Wd),(Instr.makeFunc fn first cap).run prog w=.ok (.func fn first cap) w:=λ_ _ _ _=>rfl
 obtain⟨O,g4⟩:=Ex ((((W.alloc (.cells #[Pt xb] 106)).alloc (.cells #[Iv op] 3)).alloc (.cells #[.func (.func g) #[] lw] 185)).alloc (.cells #[.nilFunc] 214));have M:Hq (_=O):=Hd g4.symm;have gf:O.heap.size=W.heap.size+1+1+1+1:=by rw[g4];simp
 have G:Bw W O:=by rw[g4];exact(((Ag _ _).alloc (by simp) _).alloc (by simp;omega) _).alloc (by simp;omega) _
 have g0:O.heap[W.heap.size]?=some (.cells #[Pt xb] 106 (0,0)):=by
  rw[g4];exact(X1 _ _ (by simp;omega)).trans ((X1 _ _ (by simp;omega)).trans ((X1 _ _ (by simp)).trans (Xv _ _)))
 have g1:O.heap[W.heap.size+1]?=some (.cells #[Iv op] 3 (0,0)):=by
  have:=Xv (W.alloc (.cells #[Pt xb] 106)) (.cells #[Iv op] 3);rw[X3]at this;rw[g4];exact(X1 _ _ (by simp<;>omega)).trans ((X1 _ _ (by simp)).trans this)
 have g2:O.heap[W.heap.size+1+1]?=some (.cells #[.func (.func g) #[] lw] 185 (0,0)):=by
  have:=Xv ((W.alloc (.cells #[Pt xb] 106)).alloc (.cells #[Iv op] 3)) (.cells #[.func (.func g) #[] lw] 185);rw[X3,X3]at this;rw[g4];exact(X1 _ _ (by simp)).trans this
 have g3:O.heap[W.heap.size+1+1+1]?=some (.cells #[.nilFunc] 214 (0,0)):=by
  have:=Xv (((W.alloc (.cells #[Pt xb] 106)).alloc (.cells #[Iv op] 3)).alloc (.cells #[.func (.func g) #[] lw] 185)) (.cells #[.nilFunc] 214);rw[X3,X3,X3]at this;rw[g4];exact this
 obtain⟨k,t⟩:=Ex (.func (.func 146) #[] #[Pt W.heap.size,Pt (W.heap.size+1),Pt (W.heap.size+1+1+1),Pt (W.heap.size+1+1)]:Value);have R:=cell1 g3;have f6:O.frozen? (Av (W.heap.size+1+1+1))=false:=by simp[World.frozen?,g3]
 obtain⟨H,g5⟩:=Ex (O.setCell (Av (W.heap.size+1+1+1)) k);have gi:Hq (_=H):=Hd g5.symm;have j:∀q:Nat,q≠W.heap.size+1+1+1->H.heap[q]?=O.heap[q]?:=λq Z=>by rw[g5];exact Az Z _
 have L:H.heap[W.heap.size+1+1+1]?=some (.cells #[k] 214 (0,0)):=by rw[g5];exact A2 g3 _
 have g9:Bw W H:=by rw[g5];exact G.setCell (p:=(Av (W.heap.size+1+1+1))) (by show W.heap.size<=W.heap.size+1+1+1;omega) _
 have ge:(store (Av (W.heap.size+1+1+1)) k).run prog O=.ok () H:=by
  rw[run_store _ _ _ _ _ (by rw[t];rfl)];simp[R,f6,g5]
 have v:H.cell? (Av (W.heap.size+1+1+1))=some k:=cell1 L;rw[t]at v ge;have g7:AtC K 0 o W mb m V o H m V:=(AtC.refl A I hk).below g9;have y:H.cell? (Av W.heap.size)=some (Pt xb):=cell1 ((j _ (by omega)).trans g0);have k1:H.cell? (Av (W.heap.size+1))=some (Iv op):=cell1 ((j _ (by omega)).trans g1);have k2:H.cell? (Av (W.heap.size+1+1))=some (.func (.func g) #[] lw):=cell1 ((j _ (by omega)).trans g2);have hs:ConS K n Bwz T ⟨W.heap.size,W.heap.size+1,W.heap.size+1+1+1,W.heap.size+1+1,xb,op,g,lw⟩ mb o H m V:=by
  refine⟨g7.st.is,g7.st.lt,hk,z,⟨(g9.cell (p:=Av xb) (Ad hx.cell)).trans hx.cell,hx.own⟩,s _ _ b (λq Z=>g9.block q (i q Z).1),y,k1,v,k2,?_,λq Z=>X5 (i q Z).1 g9.size⟩;rintro q (rfl|rfl|rfl|rfl|Z)
  . exact I.none (Xs _)
  . exact I.none (by show W.heap.size<=W.heap.size+1;omega)
  . exact I.none (by show W.heap.size<=W.heap.size+1+1+1;omega)
  . exact I.none (by show W.heap.size<=W.heap.size+1+1;omega)
  . exact(i q Z).2
 have g6:=OL (mb:=mb) F D (c:=⟨W.heap.size,W.heap.size+1,W.heap.size+1+1+1,W.heap.size+1+1,xb,op,g,lw⟩) Y s h J n o H m V f e hs B C X (by omega) (by omega);obtain⟨N,E⟩:=Ex ((2^n-1)*2^n);obtain⟨P,l⟩:=Ex (AO K N o W mb m V λd V' r=>Rel d.vars (ef V f) (ef V e) (ef V' r):Ending->Wd->Prop)
 rw[<-E]at g6⊢
 have g8:Hq (Cl 146 #[Iv f,Iv e,Pt W.heap.size,Pt (W.heap.size+1),Pt (W.heap.size+1+1+1),Pt (W.heap.size+1+1)] H λx w'=>(∃r:Nat,x=.returned (Iv r)/\P x w')\/∃er U ev,x=A1 er U ev/\P x w'):=Hd (Calls.mono g6 λx w' hx=>by
  have gc:P x w':=by
   rw[l];exact AO.base g7 (by omega) hx
  rcases hx.kind with ⟨r,rfl⟩|⟨er,U,ev,rfl⟩
  . exact .inl ⟨r,rfl,gc⟩
  . exact .inr ⟨er,U,ev,rfl,gc⟩)
 have Q:=OJ;rw[<-l];clear y k1 k2 l g6 hs g7 F D Y s h A I hx hk z b i B C X G g9 j L g0 g1 g2 g3 g4 g5 gf t E J
 go_enter func118,ntmps118
 go_upto_region 2 with fail;rw[M.o];go_wp2_with fail;refine g8.o.mono ?_;rintro x S (⟨r,rfl,a⟩|⟨er,U,ev,rfl,a⟩)
 . have u:=Hd a;clear a g8;go_wp2_with fail;exact u.o
 . have u:=Hd a;clear a g8;unfold A1;go_wp2_with fail;exact⟨rfl,u.o⟩
end
section
variable {σ:Nat->BF}{HP:ManD->(Nat->BF)->Prop}{T:Nat->Prop}{o:Own}
def boxes2v (w:Wd)(x y:Value)(s t:TypeId):∃H,H=(w.alloc (.cells #[x] s)).alloc (.cells #[y] t)/\Bw w H/\H.heap.size=w.heap.size+2/\H.cell? (Av w.heap.size)=some x/\H.cell? (Av (w.heap.size+1))=some y:=by
 refine⟨_,rfl,(Ag _ _).alloc (by simp) _,by simp,?_,?_⟩
 . exact cell1 ((X1 _ _ (by simp)).trans (Xv _ _))
 . have:=Xv (w.alloc (.cells #[x] s)) (.cells #[y] t);rw[X3]at this;exact cell1 this
end
def Wl (args:Array Value)(w:Wd):(callFunc 119 args).run prog w=.ok (.enter 119 args) w:=YF func119 (by kernel_rfl) rfl args w
def OM (H:List Nat)(op:Int)(A B _C R:BF):Prop:=SatF B->(op=1700\/op=1701->RelC H A B R)/\(op=1702->RelR H A B R)
def As:Law:=E7 OM
def Cf:AC As:=VZ OM
def Wm (h:op=1700\/op=1701):Il As op RelC:=λd V a b r=>by
 unfold As;rw[Wb (by omega)];constructor
 . rintro⟨q1,q2,_,q3,q4⟩;exact⟨q1,q2,q3,λhs=>(q4 hs).1 h⟩
 . rintro⟨q1,q2,q3,q4⟩;exact⟨q1,q2,.inl rfl,q3,λhs=>⟨λ_=>q4 hs,λe=>by omega⟩⟩
section
variable {o:Own}
def Wn:AtOK K n (λ_ _=>False) xb mb (λ_=>True) (λ_=>False) 119 #[]:=by
 intro o W m V v f0 f1 U c1 I g0 hx hk O _ _ h0 h1 h2 h3;obtain⟨P,hP⟩:∃P:Ending->Wd->Prop,P=λe w'=>(∃(r:Nat) (ok:Bool) (o':Own) (m':ManD) (V':Nat->BF),e=.returned (.tuple #[Iv r,.bool ok])/\AtC K (2^n-1) o W mb m V o' w' m' V'/\(ok=true->False/\okE (Aa m'.d) r/\∀ρ,ef V' r ρ=(ef V U ρ||ef V c1 ρ))/\(ok=false->¬ False)) \/
  (∃er H ev,e=A1 er H ev/\DU K (2^n-1) o W mb m V er H ev w'):=⟨_,rfl⟩
 have X:Hq (P (.returned (.tuple #[Iv 0,.bool false])) W):=Hd (by
  rw[hP];exact .inl ⟨0,false,o,m,V,rfl,(AtC.refl I g0 hk).mono (X0 _),(λe=>by cases e),(λ_ e=>e)⟩)
 show Calls _ _ #[_,_,_,_,_] _ _
 rw[<-hP];clear hP I g0 hx hk O h0 h1 h2 h3
 go_enter func119,ntmps119
 go_wp2_with fail;exact X.o
def Wo (h:SatE K n Od room w0 mb fs nx w o m V){a:Option Addr}(H:Aj w a ks){er:Int}(O:(er=0/\∀k∈ks,known fs k)\/(er=8/\∃k∈ks,¬ known fs k)):
 Cl 114 #[Pt mb,.slice a ks.length c] w (Sm (Iv er) w):=by
 have f:=Hd H;have i:=H.len;have g4:Hq (∀k b,(b=true↔known fs k)->Cl 100 #[Pt mb,Iv k] w (Sm (.bool b) w)):=Hd λk b hb=>Kq h k hb
 obtain⟨P,U⟩:=Ex ((Sm (Iv er) w):Ending->Wd->Prop)
 have g5:Hq (∀k∈ks,¬ known fs k->P (.returned (Iv 8)) w):=Hd λk hk Y=>by
  rw[U];rcases O with ⟨_,h2⟩|⟨rfl,_⟩
  . exact absurd (h2 k hk) Y
  . exact⟨rfl,rfl⟩
 have g2:Hq ((∀q,q<ks.length->known fs (at0 ks q))->P (.returned (Iv 0)) w):=Hd λX=>by
  rw[U];rcases O with ⟨rfl,_⟩|⟨_,k,hk,Y⟩
  . exact⟨rfl,rfl⟩
  . obtain⟨q,g3,rfl⟩:=Yn hk;have:=X q g3;rw[A8 g3]at this;exact absurd this Y
 rw[<-U];clear U h H O
 go_enter func114,ntmps114
 go_wp2
 go_loopw [4,6,11] (λ_ _ I wr=>∃j:Nat,j<=ks.length/\I=Iv j/\wr=w/\Hq (∀q,q<j->known fs (at0 ks q))) (λ_ _ I _=>ks.length-(intOf I).toNat)
 case atStart=>exact⟨0,X0 _,rfl,rfl,Hd λq X=>by omega⟩
 case round=>
  obtain⟨j,g,rfl,rfl,HQ⟩:=hrel
  by_cases g1:j<ks.length
  ·have g6:(j:Int)<(ks.length:Int):=by omega
   obtain⟨b,off,rfl,e⟩:=f.o.cells j g1;obtain⟨z,H⟩:=Ex (at0 ks j);rw[<-H]at e;have g9:Hq (z∈ks):=Hd (by rw[H,A8 g1];exact XM g1);have g7:=Hd H;clear H
   by_cases g0:known fs z
   ·have Z:=Hd (g4.o z true (by simp[g0]));have g8:Hq (∀q,q<j+1->known fs (at0 ks q)):=Hd λq X=>by
     rcases X9 q j with h|h
     . exact HQ.o q h
     ·obtain rfl:q=j:=by omega
      rw[<-g7.o];exact g0
    clear g0;go_wp2_with fail;refine Z.o.mono ?_;rintro x w' ⟨rfl,rfl⟩;go_wp2;go_roundw
    case rel=>exact⟨j+1,by omega,by go_num,by trivial,g8⟩
    case measure=>simp[intOf];omega
   . have Z:=Hd (g4.o z false (by simp[g0]));have d:=Hd (g5.o z g9.o g0);clear g0;go_wp2_with fail;refine Z.o.mono ?_;rintro x w' ⟨rfl,rfl⟩;go_wp2_with fail;exact d.o
  ·obtain rfl:j=ks.length:=by omega
   have g6:¬ (ks.length:Int)<(ks.length:Int):=by omega
   have d:=Hd (g2.o HQ.o);go_wp2_with fail;exact d.o
end
structure Bz (w:Wd)(a:Option Addr)(l:List (Int×Bool)):Prop where
 len:l.length<=9223372036854775807
 cells:∀k,∀hk:k<l.length,∃b off,a=some (Aw b off)/\w.cell? (Aw b (off+k*2))=some (Iv l[k].1)/\w.cell? (Aw b (off+k*2+1))=some (.bool l[k].2)
def Bz.keep {a:Option Addr}{l:List (Int×Bool)}(h:Bz w a l)(hk:l≠[]->∀x v,a=some x->∀o,w.cell? (Aw x.block o)=some v->w'.cell? (Aw x.block o)=some v):Bz w' a l:=
 ⟨h.len,λk I=>by
  obtain⟨b,off,e,O,c1⟩:=h.cells k I;have H:l≠[]:=λe=>by subst e;simp at I
  exact⟨b,off,e,hk H _ _ e _ O,hk H _ _ e _ c1⟩⟩
def Bz.below {a:Option Addr}{l:List (Int×Bool)}(h:Bz w a l)(hb:Bw w w'):Bz w' a l:=
 h.keep λ_ x v _ o H=>(Cq hb H)
def Bz.lt {x:Addr}{l:List (Int×Bool)}(h:Bz w (some x) l)(hl:l≠[]):x.block<w.heap.size:=by
 obtain⟨b,off,e,H,_⟩:=h.cells 0 (Z3.2 hl);cases e;exact Ad H
def AY (n:Nat)(l:List (Int×Bool)):Int:=if ∀p∈l,0<=p.1/\p.1<(n:Int)then if(l.map (·.1)).Nodup then 0 else 6 else 9
def ovr:List (Int×Bool)->(Nat->Bool)->Nat->Bool
 | [],ρ=>ρ
 | p::l,ρ=>upd (ovr l ρ) p.1.toNat p.2
def Dq (l:List (Int×Bool))(F:BF):BF:=fun ρ=>F (ovr l ρ)
def BE (l:List (Int×Bool)):BF:=fun ρ=>l.all λp=>ρ p.1.toNat == p.2
def ON (p:Int×Bool):∀(l:List (Int×Bool)) (ρ:Nat->Bool),ovr (l++[p]) ρ=ovr l (upd ρ p.1.toNat p.2)
 | [],ρ=>rfl
 | q::l,ρ=>by show upd (ovr (l++[p]) ρ) _ _=upd (ovr l _) _ _;rw[ON p l ρ]
def Wp (l:List (Int×Bool))(p:Int×Bool)(F:BF):Dq (l++[p]) F=cofF (Dq l F) p.1.toNat p.2:=by
 funext ρ;rw[Bq]
 show F (ovr (l++[p]) ρ)=F (ovr l _)
 rw[ON]
def Wq (l:List (Int×Bool))(p:Int×Bool)(ρ:Nat->Bool):BE (l++[p]) ρ=(BE l ρ&&(ρ p.1.toNat == p.2)):=by
 unfold BE;rw[List.all_append];simp
def OO {l:List (Int×Bool)}(h0:∀p∈l,0<=p.1)(h:(l.map (·.1)).Nodup):l.Pairwise λp q=>p.1.toNat≠q.1.toNat:=by
 have:=YT.1 h;refine List.Pairwise.imp_of_mem ?_ this;intro a b H hb g0 e;have:=h0 a H;have:=h0 b hb;exact g0 (by omega)
def Io:∀{l:List (Int×Bool)},l.Pairwise (λp q=>p.1.toNat≠q.1.toNat)->∀ρ,BE l (ovr l ρ)=true
 | [],_,_=>rfl
 | p::l,h,ρ=>by
   obtain⟨h1,h2⟩:=List.pairwise_cons.1 h;unfold BE;rw[List.all_eq_true];intro q H;rw[ZO];rcases Yy.1 H with rfl|H
   . exact CY _ _ _
   ·show upd (ovr l ρ) p.1.toNat p.2 q.1.toNat=q.2
    rw[Ge _ _ (λe=>h1 q H e.symm)];have:=Io h2 ρ;unfold BE at this;rw[List.all_eq_true]at this;simpa using this q H
def Ws {l:List (Int×Bool)}{p:Int×Bool}(H:p∈l):¬ SatF (cofF (BE l) p.1.toNat (!p.2)):=by
 rintro⟨ρ,hρ⟩;rw[Bq]at hρ;unfold BE at hρ;rw[List.all_eq_true]at hρ;have:=hρ p H;rw[CY]at this;cases hb:p.2<;>simp_all
def OP:∀(l:List Nat) {F C:BF} {v:Nat} {y:Bool},SatF C->¬ SatF (cofF C v (!y))->v∈l->Ind (constrF l F C) v
 | [],_,_,_,_,_,_,h=>by simp at h
 | u::l,F,C,v,y,hs,hn,hm=>by
   by_cases e:u=v
   . subst e;rw[NC y hs hn];exact GV l (GT F u y) (GT C u y)
   ·have H:v∈l:=by
     rcases Yy.1 hm with h|h
     . exact absurd h.symm e
     . exact h
    refine Ind.of fun ρ b=>?_
    show constrF l (cofF F u (conB C u (upd ρ v b u))) (cofF C u (conB C u (upd ρ v b u))) (upd ρ v b)=constrF l (cofF F u (conB C u (ρ u))) (cofF C u (conB C u (ρ u))) ρ
    rw[Ge ρ b e]
    have g0:¬ SatF (cofF (cofF C u (conB C u (ρ u))) v (!y)):=λ⟨ρ',h⟩=>hn ⟨upd ρ' u (conB C u (ρ u)),by
     rw[N9 C e]at h;exact h⟩
    exact(OP l (U4 hs u _) g0 H).at ρ b
def OQ {R:BF}:∀{l:List (Int×Bool)},(∀p∈l,Ind R p.1.toNat)->∀ρ,R (ovr l ρ)=R ρ
 | [],_,_=>rfl
 | p::l,h,ρ=>by
   show R (upd (ovr l ρ) p.1.toNat p.2)=R ρ
   rw[(h p (XX ..)).at];exact OQ (λq H=>h q (Ys _ H)) ρ
def Wu {H:List Nat}{l:List (Int×Bool)}(h0:∀p∈l,0<=p.1)(I:(l.map (·.1)).Nodup)(U:∀p∈l,p.1.toNat∈H):constrF H F (BE l)=Dq l F:=by
 have O:=OO h0 I;have hs:SatF (BE l):=⟨_,Io O λ_=>false⟩;funext ρ;rw[<-OQ (λp g0=>OP H hs (Ws g0) (U p g0)) ρ,JW H (Io O ρ)];rfl
def metL (n:Nat)(l:List (Int×Bool)):List Bool:=(List.range n).map λv:Nat=>decide ((v:Int)∈l.map (·.1))
def OR (n:Nat)(l:List (Int×Bool)):(metL n l).length=n:=by simp[metL]
def OS {v:Nat}(l:List (Int×Bool))(h:v<n):(metL n l).getD v false=decide ((v:Int)∈l.map (·.1)):=by
 simp[metL,List.getD,h]
def OT (n:Nat):metL n []=List.replicate n false:=by
 refine Ym (by simp[metL]) λi h1 h2=>?_
 simp[metL]
def OU (l:List (Int×Bool)){v:Nat}{y:Bool}(h:v<n):metL n (l++[((v:Int),y)])=(metL n l).set v true:=by
 refine Ym (by simp[metL]) λi h1 h2=>?_
 rw[Z6]
 by_cases e:v=i
 . subst e;simp[metL]
 ·rw[Xu e];simp only[metL,ZS,List.getElem_range,XG,XD,Yz,aE,XB];have:¬ ((i:Int)=(v:Int)):=by omega
  simp[this]
def OV {l:List Int}{v:Int}:(l++[v]).Nodup↔l.Nodup/\v∉l:=by
 rw[Yl];constructor
 . rintro⟨h1,_,h3⟩;exact⟨h1,λH=>h3 v H v (by simp) rfl⟩
 ·rintro⟨h1,h2⟩;refine⟨h1,by simp,λa I b hb e=>?_⟩;simp only[XB]at hb;subst hb;subst e
  exact h2 I
def Wv (args:Array Value)(w:Wd):(callFunc 115 args).run prog w=.ok (.enter 115 args) w:=YF func115 (by kernel_rfl) rfl args w
def Ww (V:Nat->BF)(r:Nat)(b:Bool):ef V (eflip r b)=if b then notF (ef V r)else ef V r:=by
 cases b with
 | true=>exact Nf V r
 | false=>rfl
section
variable {o:Own}
def Bz.step {a:Option Addr}(h:Bz w a ls)(s:Step K o w mb m V o' w' m' V')(O:ls≠[]->∀x,a=some x->o x.block=none):Bz w' a ls:=
 h.keep λH x v hx _ I=>s.chg.cell I (O H x hx)
def Wx (hm:AF (As m.d V) o w mb m)(X:Ac o w)(hx:AR o w xb mb)(hk:Ai m.d V)(C:m.d.vars.length=n)(B:(m.hs.map Prod.fst).Nodup){a:Option Addr}(D:(kf,f)∈m.hs)(S:okE (Aa m.d) f)(U:AY n ls=0)(l:Bz w a ls)(ha:ls≠[]->∀x,a=some x->o x.block=none)(cl:w.cell? (Av bl)=some (.slice a ls.length c))(cf:w.cell? (Av bf)=some (Iv kf))(z:o bl=none)(A:o bf=none):
 Cl 115 #[Pt xb,Pt bl,Pt bf] w (AO As (ls.length*2^n+(2^n-1)*2^n) o w mb m V λ_ V' r=>ef V' r=Dq ls (ef V f)):=by
 have g3:∀p∈ls,0<=p.1/\p.1<(n:Int):=by
  unfold AY at U
  by_cases e:∀p∈ls,0<=p.1/\p.1<(n:Int)
  . exact e
  . rw[Xu e]at U;exact absurd U (by decide)
 have g8:(ls.map (·.1)).Nodup:=by
  unfold AY at U;rw[Xx g3]at U
  by_cases e:(ls.map (·.1)).Nodup
  . exact e
  . rw[Xu e]at U;exact absurd U (by decide)
 have gL:=l.len;have hp2:0<2^n:=Yg (by omega);obtain⟨Q,E⟩:=Ex (2^n);obtain⟨P,G⟩:=Ex (AO As (ls.length*Q+(Q-1)*Q) o w mb m V λ_ V' r=>ef V' r=Dq ls (ef V f):Ending->Wd->Prop)
 have gf:Hq (∀k o1 w1 m1 V1 er H ev w',AtC As k o w mb m V o1 w1 m1 V1->∀k2,DU As k2 o1 w1 mb m1 V1 er H ev w'->k+k2<=ls.length*Q+(Q-1)*Q->P (A1 er H ev) w'):=Hd λk o1 w1 m1 V1 er H ev w' h k2 g5 hk=>by
  rw[G];exact .inr ⟨er,H,ev,rfl,g5.after h hk⟩
 have gi:Hq (AtC As (0*Q) o w mb m V o w m V):=Hd (by rw[Nat.zero_mul];exact AtC.refl hm X hk);have HX:=Hd hx;have gq:=Hd C;have HK:=Hd hk;have gA:=Hd g3;have gI:=Hd l;have HA:=Hd ha;have gN:=Hd cl;have gK:=Hd cf;have gH:=Hd (show o bl=none/\o bf=none from⟨z,A⟩);have gx:Hq (okE (Aa m.d) 0/\ef V 0=BE (ls.take 0)):=Hd ⟨.inl rfl,by rw[hk.dag.ef0];rfl⟩;have HQ:=Hd E;have gM:1<=Q:=by rw[E];omega
 have gj:Hq (∀j,j<ls.length->j*Q+Q<=ls.length*Q):=Hd λj hj=>by
  have:=XS Q (show j+1<=ls.length by omega);rw[Y8,Nat.one_mul]at this;exact this
 have gh:Hq (∀o1 w1 m1 V1 (cu:Nat),AtC As (ls.length*Q) o w mb m V o1 w1 m1 V1->okE (Aa m1.d) cu->ef V1 cu=BE ls ->
  Cl 58 #[Pt xb,Iv kf] w1 ((Sm (Iv f) w1)) /\
  Cl 118 #[Pt xb,Iv 1700,Iv f,Iv cu,.func (.func 119) #[] #[]] w1 λx w'=>(∃r:Nat,x=.returned (Iv r)/\P x w')\/∃er H ev,x=A1 er H ev/\P x w'):=Hd λo1 w1 m1 V1 cu h1 h2 h3=>by
  have gl:AR o1 w1 xb mb:=hx.chg h1.st.chg;have gB:=h1.vars C;refine⟨DQ h1.st.is gl (by rw[h1.st.hs];exact B) (by rw[h1.st.hs];exact D),?_⟩;have gy:SatF (ef V1 cu):=by
   rw[h3];exact⟨_,Io (OO (λp O=>(g3 p O).1) g8) λ_=>false⟩
  refine(Wk (Bwz:=λ_=>True) (T:=λ_=>False) (xb:=xb) Cf Wf (Wm (.inl rfl)) (λ_ _ h _=>h) Wn Wl h1.st.is h1.st.lt gl h1.st.ok gB trivial (λq hq=>hq.elim) (h1.st.ext.ok S) h2 gy).mono λx w' hx=>?_
  have gk:P x w':=by
   rw[G];rw[<-E]at hx;refine(AO.base h1 (Xs _) hx).good λd V' r hd t=>?_
   show ef V' r=_
   rw[show ef V' r=_ from t,h3,h1.st.ext.ef S,hd];refine Wu (λp O=>(g3 p O).1) g8 λp O=>?_
   have h4:=g3 p O;have h5:=hk.inv p.1.toNat (by rw[C];omega);have h6:=hk.dag.lt p.1.toNat (by rw[C];omega);rw[<-h5];rw[show m.d.vars.getD (levN m.d p.1.toNat) 0=m.d.vars[levN m.d p.1.toNat]by simp[List.getD,h6]];exact XM _
  rcases hx.kind with ⟨r,rfl⟩|⟨er,H,ev,rfl⟩
  . exact .inl ⟨r,rfl,gk⟩
  . exact .inr ⟨er,H,ev,rfl,gk⟩
 rw[<-E,<-G];clear G E hm X hx hk C B D S U l ha z A g3 g8 cf
 go_enter func115,ntmps115
 go_wp2
 go_loopw [5,7,8,11] (λs5 _ _ g wr=>∃(j r:Nat) (o1:Own) (m1:ManD) (V1:Nat->BF),j<=ls.length/\g=Iv j/\s5=Iv r/\Hq (AtC As (j*Q) o w mb m V o1 wr m1 V1)/\Hq (okE (Aa m1.d) r/\ef V1 r=BE (ls.take j))) (λ_ _ _ g _=>ls.length-(intOf g).toNat)
 case atStart=>exact⟨0,0,o,m,V,X0 _,rfl,rfl,gi,gx⟩
 case round=>
  clear gi gx cl;obtain⟨j,r,o1,m1,V1,hj,rfl,rfl,g4,v⟩:=hrel
  by_cases X:j<ls.length
  ·have gD:(j:Int)<(ls.length:Int):=by omega
   obtain⟨b,off,rfl,d0,d1⟩:=(gI.o.step g4.o.st HA.o).cells j X;have J:Hq (ls.take (j+1)=ls.take j++[ls[j]]):=Hd (XA X);have g6:=Hd (gA.o _ (XM X));have gw:=Hd (gj.o j X);obtain⟨p,O⟩:=Ex (ls[j]);rw[<-O]at d0 d1 J g6;obtain⟨pv,Y⟩:=p;dsimp only at d0 d1 J g6;obtain⟨I,gC⟩:∃I:Nat,pv=(I:Int):=⟨pv.toNat,by have:=g6.o.1;omega⟩;subst gC;have gF:Hq (I<n):=Hd (by have:=g6.o.2;omega);obtain⟨w2,K⟩:=Ex (wr.alloc (.cells #[Iv (I:Nat),.bool Y] 58));have gE:Hq (_=w2):=Hd K.symm;have gd:Bw wr w2:=by rw[K];exact Ag _ _
   have g2:w2.heap[wr.heap.size]?=some (.cells #[Iv (I:Nat),.bool Y] 58 (0,0)):=by rw[K];exact Xv _ _
   have g1:AtC As (j*Q) o w mb m V o1 w2.drew m1 V1:=g4.o.below (gd.trans ((An w2 1).mono gd.size));have e0:w2.drew.cell? (Av wr.heap.size)=some (Iv (I:Nat)):=(by simp[World.cell?,g2]:w2.cell? (Av wr.heap.size)=some (Iv (I:Nat)));have e1:w2.drew.cell? (Aw wr.heap.size 1)=some (.bool Y):=(by simp[World.cell?,g2]:w2.cell? (Aw wr.heap.size 1)=some (.bool Y));have g7:o1 wr.heap.size=none:=g4.o.st.lt.none (Xs _)
   have gu:Hq (Cl 88 #[Pt xb,Iv I,Iv 1,Iv 0] w2.drew λe w'=>(∃u,e=.returned u/\(w'.cell? (Av wr.heap.size)=some (Iv (I:Nat))/\w'.cell? (Aw wr.heap.size 1)=some (.bool Y))/\∃(q:Nat) (o2:Own) (m2:ManD) (V2:Nat->BF),u=Iv q/\AtC As (j*Q+1) o w mb m V o2 w' m2 V2/\okE (Aa m2.d) q/\ef V2 q=varF I/\okE (Aa m2.d) r/\ef V2 r=BE (ls.take j))\/(∃ch,e=.panicked ch/\P (.panicked ch) w')):=Hd ((Ts Cf g1.st.is g1.st.lt (HX.o.chg g1.st.chg) g1.st.ok I (by rw[g1.vars gq.o];exact gF.o)).mono (by
    rintro e w' (⟨q,o2,m2,V2,rfl,i,N,M⟩|⟨er,H,ev,rfl,g5⟩)
    . exact .inl ⟨_,rfl,⟨i.st.chg.cell e0 g7,i.st.chg.cell e1 g7⟩,q,o2,m2,V2,rfl,g1.trans i,N,M,i.st.ext.ok v.o.1,by rw[i.st.ext.ef v.o.1];exact v.o.2⟩
    . exact .inr ⟨_,rfl,gf.o _ _ _ _ _ _ _ _ _ g1 _ g5 (by have:=gw.o;omega)⟩))
   clear O K gd g2 g1 g7 g4 v g6;go_upto_region 5 with fail;rw[gE.o];refine D4 [0,1,2,4,5,6,3,7,8] (λW=>W.cell? (Av wr.heap.size)=some (Iv (I:Nat))/\W.cell? (Aw wr.heap.size 1)=some (.bool Y)) (λch w'=>P (.panicked ch) w') (λc a w hd h=>⟨hd,h⟩) (by kernel_rfl) ⟨e0,e1⟩ ?_
   iterate 6
    refine Ce rfl rfl (by kernel_rfl) ?_;apply Exists.intro;refine⟨λw' R=>?_,?_⟩
    . obtain⟨q1,q2⟩:=R;go_simp;rfl
    simp only[Ab]
   refine FM rfl (by kernel_rfl) rfl rfl (by go_simp) gu.o ?_;rintro u L gp ⟨q,o2,m2,V2,rfl,g9,gc,go,gn,gm⟩;have g0:=Hd g9;have gt:=Hd (show(okE (Aa m2.d) q/\ef V2 q=varF I)/\okE (Aa m2.d) r/\ef V2 r=BE (ls.take j) from⟨⟨gc,go⟩,gn,gm⟩);have gr:=Hd gp;have gv:=Hd (Cz q (!Y) L (D2 g9.st.is gc));clear g9 gc go gn gm gp gu e0 e1;simp only[Ab];refine BX (R1:=λu w'=>u=Iv (eflip q (!Y):Nat)/\L=w') rfl (by kernel_rfl) rfl rfl (by go_simp) (gv.o.mono λx w' h=>⟨_,h.1,rfl,h.2⟩) (by rintro u w' ⟨_,rfl⟩;exact gr.o) ?_;rintro u w'-⟨rfl,rfl⟩;simp only[Ab];refine Ce rfl rfl (by kernel_rfl) ?_;apply Exists.intro;refine⟨λw' R=>?_,?_⟩
   . clear R;go_simp;rfl
   simp only[Ab];refine D5 (by kernel_rfl) ?_
   have gg:Hq (Cl 117 #[Pt xb,Iv r,Iv (eflip q (!Y):Nat),Iv 1] L λe w'=>(∃(Z:Nat) (y:Own) (m3:ManD) (s:Nat->BF),e=.returned (Iv Z)/\Hq (AtC As ((j+1)*Q) o w mb m V y w' m3 s)/\Hq (okE (Aa m3.d) Z/\ef s Z=BE (ls.take (j+1))))\/(∃er H ev,e=A1 er H ev/\P (A1 er H ev) w')):=Hd (by
    obtain⟨⟨h1,h2⟩,h3,h4⟩:=gt.o;refine(MM Cf g0.o.st.is g0.o.st.lt (HX.o.chg g0.o.st.chg) g0.o.st.ok (g0.o.vars gq.o) r (eflip q (!Y)) 1 h3 (Du h1) (.inl rfl)).mono ?_;rw[<-HQ.o];rintro e w' (⟨Z,y,m3,s,rfl,i,N,M⟩|⟨er,H,ev,rfl,g5⟩)
    ·refine .inl ⟨Z,y,m3,s,rfl,Hd ((g0.o.trans i).mono (by rw[Y8,Nat.one_mul];omega)),Hd ⟨N,?_⟩⟩;funext ρ;rw[show ef s Z=_ from M,J.o,Wq,h4,Ww,h2,show ef V2 1=λ_=>false from g0.o.st.ok.dag.ef1]
     show iteB (BE (ls.take j) ρ) ((if(!Y)=true then notF (varF I)else varF I) ρ) false=(BE (ls.take j) ρ&&(ρ ((I:Int)).toNat == Y))
     rw[YH];cases Y<;>cases hc:BE (ls.take j) ρ<;>cases hv:ρ I<;>simp[iteB,notF,varF,hv]
    . exact .inr ⟨er,H,ev,rfl,gf.o _ _ _ _ _ _ _ _ _ g0.o _ g5 (by have:=gw.o;omega)⟩)
   clear gv gr gt g0 J;go_wp2_with fail;refine gg.o.mono ?_;rintro x w4 (⟨Z,y,m3,s,rfl,gz,gG⟩|⟨er,H,ev,rfl,O⟩)
   ·clear gg;go_wp2;go_roundw
    case rel=>exact⟨j+1,Z,y,m3,s,by omega,by go_num,rfl,gz,gG⟩
    case measure=>simp[intOf];omega
   . have F:=Hd O;clear O gg;unfold A1;go_wp2_with fail;exact⟨rfl,F.o⟩
  ·obtain rfl:j=ls.length:=by omega
   have gD:¬ (ls.length:Int)<(ls.length:Int):=by omega
   have t:=v.o;rw[XP]at t;have HE:=Hd (gh.o o1 wr m1 V1 r g4.o t.1 t.2);have gJ:=Hd HE.o.1;have ge:=Hd HE.o.2;have cfr:=g4.o.st.chg.cell gK.o gH.o.2;clear t HE gh g4 v;go_wp2_with fail;refine gJ.o.mono ?_;rintro x w' ⟨rfl,rfl⟩;go_wp2_with fail;refine ge.o.mono ?_;rintro x w6 (⟨q,rfl,O⟩|⟨er,H,ev,rfl,O⟩)
   . have F:=Hd O;clear O ge;go_wp2_with fail;exact F.o
   . have F:=Hd O;clear O ge;unfold A1;go_wp2_with fail;exact⟨rfl,F.o⟩
end
section
variable {o:Own}
def OW {p:Int×Bool}(H:p∈ls)(h:¬ (0<=p.1/\p.1<(n:Int))):AY n ls=9:=Xu λhh=>h (hh p H)
def Wy (h:SatE As n (λ_=>True) room w0 mb fs nx w o m V)(hn6:n<=64)(L:(kf,F)∈fs){a:Option Addr}(I:Bz w a ls)(ha:ls≠[]->∀x,a=some x->o x.block=none)(s:m.waits <:+ ws0)(hn:nx<=549755813888)(hr:AY n ls=0->fs.length*2^n+(ls.length*2^n+(2^n-1)*2^n)<=room):
 Cl 73 #[Pt mb,Iv kf,.slice a ls.length c] w λx w'=>(AY n ls=0->NewF As n room w0 mb fs nx ws0 (Dq ls F) o w x w')/\(AY n ls≠0->x=.returned (.tuple #[Iv 0,Iv (AY n ls)])/\Bw w w'):=by
 have gT:∀(fn:Fn) (first cap:Array Value) (w:Wd),(Instr.makeFunc fn first cap).run prog w=.ok (.func fn first cap) w:=λ_ _ _ _=>rfl
 obtain⟨w2,gu,g1,gF,c0,c1⟩:=boxes2v w (Iv kf) (.slice a ls.length c) 3 51;have gP:Hq (_=w2):=Hd gu.symm;obtain⟨z,G⟩:=Ex (w2.alloc (.cells #[Iv kf] 3));have gO:Hq (_=z):=Hd G.symm;have g6:Bw w2 z:=by rw[G];exact Ag _ _
 have H:Aj z (some (Av w2.heap.size)) [kf]:=by rw[G];exact E4 w2 [kf] (by simp)
 have gE:=Hd (Wo (h.below (g1.trans (g6.mono g1.size))) (c:=1) H (er:=0) (.inl ⟨rfl,λk hk=>by simp at hk;subst hk;exact⟨F,L⟩⟩));have gQ:=Hd ((h.below (g1.trans (g6.mono g1.size))).vars_any);have HB2:=Hd g1;have gV:=Hd g6;have gU:=I.len;obtain⟨P,A⟩:=Ex (λx w'=>(AY n ls=0->NewF As n room w0 mb fs nx ws0 (Dq ls F) o w x w')/\(AY n ls≠0->x=.returned (.tuple #[Iv 0,Iv (AY n ls)])/\Bw w w'):Ending->Wd->Prop)
 have g8:Hq (∀er W,AY n ls=er->er≠0->Bw w2 W->P (.returned (.tuple #[Iv 0,Iv er])) W):=Hd λer W he g0 hb=>by
  rw[A];exact⟨λe=>absurd (by rw[<-he];exact e) g0,λ_=>⟨by rw[he],g1.trans (hb.mono g1.size)⟩⟩
 have gA:Hq (∀W,Bw w2 W->AY n ls=0->Cl 86 #[Pt mb,.func (.func 115) #[] #[Pt (w.heap.size+1),Pt w.heap.size]] W λx w'=>∃p q,x=.returned (.tuple #[Iv p,Iv q])/\P x w'):=Hd λW hb R=>by
  have d0:=Cq hb c0;have d1:=Cq hb c1;have Q:=g1.trans (hb.mono g1.size)
  refine(Ng (K:=As) (C:=λq=>(q=w.heap.size+1\/q=w.heap.size)\/(ls≠[]/\(∃x,a=some x/\q=x.block)/\w0.heap.size<=q)) (B:=λW=>(W.cell? (Av (w.heap.size+1))=some (.slice a ls.length c)/\W.cell? (Av w.heap.size)=some (Iv kf))/\∀x,ls≠[]->a=some x->w0.heap.size<=x.block->W.heap[x.block]?=w.heap[x.block]?) (F:=Dq ls F) (k:=ls.length*2^n+(2^n-1)*2^n) (lop:=#[Pt (w.heap.size+1),Pt w.heap.size]) Cf Wv ws0
   (λW W' i hk=>⟨⟨Co i.1.1 (hk _ (.inl (.inl rfl))),Co i.1.2 (hk _ (.inl (.inr rfl)))⟩,λx g0 hx H=>(hk _ (.inr ⟨g0,⟨x,hx,rfl⟩,H⟩)).trans (i.2 x g0 hx H)⟩)
   (λo' W' m' V' xb hs' i M gG _=>?_) h Q (λk hk=>?_) ⟨⟨d1,d0⟩,λx g0 hx _=>Q.block _ (by subst hx;exact I.lt g0)⟩ s hn (hr R)).mono ?_
  ·obtain⟨f,gv,gN⟩:=hs'.find L;have gD:∀x,ls≠[]->a=some x->W'.heap[x.block]?=w.heap[x.block]?:=λx g0 hx=>by
    rcases X9 x.block w0.heap.size with H|H
    . exact(hs'.chg.below0.block _ H).trans (h.chg.below0.block _ H).symm
    . exact i.2 x g0 hx H
   have gi:=Wx hs'.is hs'.lt gG hs'.ok.store hs'.vars hs'.ok.handles.nodup gv (hs'.ok.handles.ok _ gv) R (I.keep λg0 x v hx o hc=>Co hc (gD x g0 hx)) (λg0 x hx=>by
    rcases X9 x.block w0.heap.size with H|H
    . exact hs'.none0 H
    . exact(M _ (.inr ⟨g0,⟨x,hx,rfl⟩,H⟩)).2) i.1.1 i.1.2 (M _ (.inl (.inl rfl))).2 (M _ (.inl (.inr rfl))).2
   rw[show ef V' f=F from gN]at gi;exact gi
  ·rcases hk with (rfl|rfl)|⟨g0,⟨x,hx,rfl⟩,H⟩
   . exact⟨Ad d1,.inl (by omega)⟩
   . exact⟨Ad d0,.inl (Xs _)⟩
   ·have u:x.block<w.heap.size:=by subst hx;exact I.lt g0
    exact⟨X5 u Q.size,.inr ⟨H,ha g0 x hx,λW hW=>hW.2 x g0 hx H⟩⟩
  . intro x w' hx;refine⟨nx,0,hx.1,?_⟩;rw[A];exact⟨λ_=>hx,λe=>absurd R e⟩
 have gR:Hq (Bz w2 a ls):=Hd (I.below g1);have gm:w2.heap.size<=z.heap.size:=g6.size;have S:=Cq g6 c1;rw[<-A];clear A gu g1 G H h L I ha s hn hr gF
 go_enter func73,ntmps73
 go_upto_region 1 with fail;rw[gP.o];go_wp2_with fail;rw[gO.o];refine gE.o.mono ?_;rintro x w' ⟨rfl,rfl⟩;go_wp2_with fail;refine gQ.o.mono ?_;rintro x w' ⟨rfl,rfl⟩;go_wp2_with (at_make;refine C7 C6 rfl _ _ rfl w2.heap.size w2 _ n rfl rfl rfl (by omega) gm g6 ?_;intro g w4 gh N gI gJ gM gL;have c14:=Cq N c1;clear gL)
 have gz:Hq (OwnB w4 w2.heap.size (.slice (some (Av g)) n n) (metL n (ls.take 0))):=Hd (by
  rw[aF,OT];unfold OwnB;simpa [AA]using gh)
 have gC:=Hd N;clear gh N gI gJ g6 gm S;go_wp2
 go_loopw [6,7,10,12,25] (λ_ _ J _ X wr=>∃(j:Nat) (r:Bool),j<=ls.length/\X=Iv j/\J=.bool r/\Hq (r=false↔((ls.take j).map (·.1)).Nodup)/\Hq (OwnB wr w2.heap.size (.slice (some (Av g)) n n) (metL n (ls.take j)))/\Hq (Bw w2 wr)/\Hq (∀q,∀Z:q<ls.length,q<j->0<=ls[q].1/\ls[q].1<(n:Int))) (λ_ _ _ _ X _=>ls.length-(intOf X).toNat)
 case atStart=>exact⟨0,false,X0 _,rfl,rfl,Hd (by simp),gz,gC,Hd λq Z h=>by omega⟩
 case round=>
  clear gz gC;obtain⟨j,r,hj,rfl,rfl,gc,g3,g2,gf⟩:=hrel
  by_cases u:j<ls.length
  ·have gK:(j:Int)<(ls.length:Int):=by omega
   obtain⟨b,off,rfl,d0,d1⟩:=(gR.o.below g2.o).cells j u;have t:Hq (ls.take (j+1)=ls.take j++[ls[j]]):=Hd (XA u);have gk:=Hd (XM u);have g4:Hq (0<=ls[j].1->ls[j].1<(n:Int)->∀q,∀Z:q<ls.length,q<j+1->0<=ls[q].1/\ls[q].1<(n:Int)):=Hd λh1 h2 q Z gS=>by
    rcases X9 q j with c|c
    . exact gf.o q Z c
    ·obtain rfl:q=j:=by omega
     exact⟨h1,h2⟩
   obtain⟨p,d⟩:=Ex (ls[j]);rw[<-d]at d0 d1 t gk g4;obtain⟨Y,T⟩:=p;dsimp only at d0 d1 t g4;obtain⟨O,g9⟩:=Ex (wr.alloc (.cells #[Iv Y,.bool T] 58));have E:Hq (_=O):=Hd g9.symm;have gw:Bw wr O:=by rw[g9];exact Ag _ _
   have g5:O.heap[wr.heap.size]?=some (.cells #[Iv Y,.bool T] 58 (0,0)):=by rw[g9];exact Xv _ _
   have D:Hq (Bw w2 O):=Hd (g2.o.trans (gw.mono g2.o.size));have e0:O.cell? (Av wr.heap.size)=some (Iv Y):=by simp[World.cell?,g5]
   have g7:Hq (OwnB O w2.heap.size (.slice (some (Av g)) n n) (metL n (ls.take j))):=Hd (by rw[g9];exact g3.o.alloc _);clear d g9 gw g5
   by_cases h0:Y<0
   . have l:=Hd (g8.o 9 O (OW gk.o (by dsimp only;omega)) (by decide) D.o);clear g3 g2 g7;go_upto_region 9 with fail;rw[E.o];go_wp2_with fail;exact l.o
   by_cases h1:Y>=(n:Int)
   . have l:=Hd (g8.o 9 O (OW gk.o (by dsimp only;omega)) (by decide) D.o);clear g3 g2 g7;go_upto_region 9 with fail;rw[E.o];go_wp2_with fail;exact l.o
   obtain⟨U,gH⟩:∃U:Nat,Y=(U:Int):=⟨Y.toNat,by omega⟩;subst gH;have ge:U<n:=by omega
   have gx:=Hd (g4.o (by omega) (by omega));obtain⟨mt,go⟩:=Ex (decide ((U:Int)∈(ls.take j).map (·.1)):Bool);have q0:O.cell? (Aw g U)=some (.bool mt):=by
    rw[go,<-OS (ls.take j) ge];exact g7.o.cellB U (by rw[OR];exact ge)
   have p0:=g7.o.frozen U
   have gr:Hq ((r||mt)=false↔((ls.take (j+1)).map (·.1)).Nodup):=Hd (by
    rw[t.o,XG,Yz,aE,OV,<-gc.o,Bool.or_eq_false_iff,go,ZA])
   have gy:Hq (OwnB (O.setCell (Aw g U) (.bool true)) w2.heap.size (.slice (some (Av g)) n n) (metL n (ls.take (j+1)))):=Hd (by
    rw[t.o,OU _ ge];exact g7.o.setB U true)
   have gB:Hq (Bw w2 (O.setCell (Aw g U) (.bool true))):=Hd (D.o.setCell gM _);clear go gc g3 g2 gf g4 g7 D t gk;cases r with
   | true=>
     go_upto_region 9 with fail;rw[E.o];go_wp2;go_roundw
     case rel=>exact⟨j+1,true,by omega,by go_num,rfl,Hd (by have:=gr.o;simpa using this),gy,gB,gx⟩
     case measure=>simp[intOf];omega
   | false=>
     go_upto_region 9 with fail;rw[E.o];go_wp2;go_roundw
     case rel=>exact⟨j+1,mt,by omega,by go_num,rfl,Hd (by have:=gr.o;simpa using this),gy,gB,gx⟩
     case measure=>simp[intOf];omega
  ·obtain rfl:j=ls.length:=by omega
   have gK:¬ (ls.length:Int)<(ls.length:Int):=by omega
   have gt:Hq (∀p∈ls,0<=p.1/\p.1<(n:Int)):=Hd λp d=>by
    obtain⟨q,Z,rfl⟩:=Yn d;exact gf.o q Z Z
   have y:=gc.o;rw[XP]at y;cases r with
   | true=>
     have l:=Hd (g8.o 6 wr (by
      unfold AY;rw[Xx gt.o,Xu (λe=>by have:=y.2 e;cases this)]) (by decide) g2.o)
     clear y gc g3;go_wp2_with fail;exact l.o
   | false=>
     have HD:=Hd (gA.o wr g2.o (by
      unfold AY;rw[Xx gt.o,Xx (y.1 rfl)]))
     clear y gc g3 gA g8;go_wp2_with fail;refine HD.o.mono ?_;rintro x w' ⟨p,q,rfl,d⟩;have l:=Hd d;clear d HD;go_wp2_with fail;exact l.o
end
section
variable {o:Own}
def Wz (h:∀p∈ls,0<=p.1/\p.1<(n:Int)):AY n ls=if(ls.map (·.1)).Nodup then 0 else 6:=by
 unfold AY;rw[Xx h]
def W9 {p:Int×Bool}(H:p∈ls)(h:¬ (0<=p.1/\p.1<(n:Int))):AY n ls=9:=Xu λhh=>h (hh p H)
end
def noB (zs:List Int):List (Int×Bool):=zs.map λz=>(z,false)
def chkE (n:Nat)(G:BF)(zs:List Int):Int:=if AY n (noB zs)=0 then cntE n G zs else AY n (noB zs)
def OX (zs:List Int):(noB zs).map (·.1)=zs:=by
 unfold noB;rw[Y9];exact List.map_id _
def Ec (h:∀z∈zs,0<=z/\z<(n:Int)):AY n (noB zs)=if zs.Nodup then 0 else 6:=by
 rw[Wz (λp I=>by
  obtain⟨z,H,rfl⟩:=X6.1 I;exact h z H),OX]
def FS {z:Int}(H:z∈zs)(h:¬ (0<=z/\z<(n:Int))):AY n (noB zs)=9:=W9 (p:=(z,false)) (X6.2 ⟨z,H,rfl⟩) h
section
variable {o:Own}
def Ip (h:SatE K n Od room w0 mb fs nx w o m V){k:Int}(f:(k,G)∈fs){a:Option Addr}(O:Aj w a zs):
 Cl 45 #[Pt mb,Iv k,.slice a zs.length c] w λx w'=>∃v,x=.returned (.tuple #[v,Iv (chkE n G zs)])/\NatV w' v (if chkE n G zs=0 then cntV n G zs else 0)/\AskN K n Od room w0 mb fs nx m o w w' v:=by
 have t:Hq (Cl 100 #[Pt mb,Iv k] w (Sm (.bool true) w)):=Hd (Kq h k (b:=true) (by simp only[true_iff];exact⟨G,f⟩))
 have A:Hq (Cl 46 #[Pt mb] w (Sm (Iv (n:Nat)) w)):=Hd (by
  have Y:=DR h.is;rw[h.vars]at Y;exact Y)
 have hn64:n<=64:=by have:=h.ok.store.small;rw[h.vars]at this;exact this
 have hl:=O.len;obtain⟨P,Z⟩:=Ex (λx w'=>∃v,x=.returned (.tuple #[v,Iv (chkE n G zs)])/\NatV w' v (if chkE n G zs=0 then cntV n G zs else 0)/\AskN K n Od room w0 mb fs nx m o w w' v:Ending->Wd->Prop)
 have g2:Hq (∀(er:Int) W,AY n (noB zs)=er->er≠0->Bw w W->P (.returned (.tuple #[.slice none 0 0,Iv er])) W):=Hd λer W q gf hb=>by
  have e:chkE n G zs=er:=by
   unfold chkE;rw[Xu (by rw[q];exact gf)];exact q
  rw[Z];refine⟨.slice none 0 0,by rw[e],?_,AskN.of h hb 0⟩;rw[e,Xu gf];exact Eb W
 have g9:Hq (∀W,Bw w W->AY n (noB zs)=0->Cl 24 #[Pt mb,Iv k,.slice a zs.length c] W λx w'=>∃v e,x=.returned (.tuple #[v,e])/\P (.returned (.tuple #[v,e])) w'):=Hd λW hb Q=>by
  have e:chkE n G zs=cntE n G zs:=Xx Q;refine(OH (h.below hb) f (O.below hb)).mono ?_;rintro x w' ⟨v,rfl,Y,F⟩;refine⟨v,_,rfl,?_⟩;rw[Z];exact⟨v,by rw[e],by rw[e];exact Y,AskN.trans (ChgX.of_below hb o NoB) rfl rfl F⟩
 have J:Hq (Aj w a zs):=Hd O;rw[<-Z];clear Z h f O
 go_enter func45,ntmps45
 go_wp2_with fail;refine t.o.mono ?_;rintro x w' ⟨rfl,rfl⟩;go_wp2_with fail;refine A.o.mono ?_;rintro x w' ⟨rfl,rfl⟩;go_wp2_with (at_make;refine C7 C6 rfl _ _ rfl w.heap.size w _ n rfl rfl rfl (by omega) (Xs _) (X7 _ _) ?_;intro g l C B R N L M;clear M)
 have gk:Hq (OwnB l w.heap.size (.slice (some (Av g)) n n) (metL n (noB (zs.take 0)))):=Hd (by
  rw[aF]
  show OwnB l w.heap.size _ (metL n [])
  rw[OT];unfold OwnB;simpa [AA]using C)
 have r:=Hd B;clear C B R N t A;go_wp2
 go_loopw [6,7,9,11,25] (λ_ _ E _ U wr=>∃(j:Nat) (X:Bool),j<=zs.length/\U=Iv j/\E=.bool X/\Hq (X=false↔(zs.take j).Nodup)/\Hq (OwnB wr w.heap.size (.slice (some (Av g)) n n) (metL n (noB (zs.take j))))/\Hq (Bw w wr)/\Hq (∀z∈zs.take j,0<=z/\z<(n:Int))) (λ_ _ _ _ U _=>zs.length-(intOf U).toNat)
 case atStart=>exact⟨0,false,X0 _,rfl,rfl,Hd (by simp),gk,r,Hd (by simp)⟩
 case round=>
  clear gk r;obtain⟨j,X,hj,rfl,rfl,g4,g1,g0,g8⟩:=hrel
  by_cases d:j<zs.length
  ·have gt:(j:Int)<(zs.length:Int):=by omega
   obtain⟨b,off,rfl,d0⟩:=(J.o.below g0.o).cells j d;have g5:Hq (zs.take (j+1)=zs.take j++[at0 zs j]):=Hd (by rw[Zk,getElem?_at0 d];rfl);have gc:Hq (at0 zs j∈zs):=Hd (by rw[A8 d];exact XM d);obtain⟨z,O⟩:=Ex (at0 zs j);rw[<-O]at d0 g5 gc;clear O
   by_cases h0:z<0
   ·have I:=Hd (g2.o 9 wr (FS gc.o (by omega)) (by decide) g0.o);clear g1 g0;go_wp2_with fail
    first|exact I.o|exact X2 (Yh rfl _ _ _) rfl I.o
   by_cases h1:z>=(n:Int)
   ·have I:=Hd (g2.o 9 wr (FS gc.o (by omega)) (by decide) g0.o);clear g1 g0;go_wp2_with fail
    first|exact I.o|exact X2 (Yh rfl _ _ _) rfl I.o
   obtain⟨H,go⟩:∃H:Nat,z=(H:Int):=⟨z.toNat,by omega⟩;subst go;have g6:H<n:=by omega
   have y:Hq (∀z∈zs.take (j+1),0<=z/\z<(n:Int)):=Hd λz O=>by
    rw[g5.o]at O;rcases XD.1 O with e|e
    . exact g8.o z e
    . simp at e;subst e;omega
   obtain⟨mt,i⟩:=Ex (decide ((H:Int)∈zs.take j):Bool);have S:wr.cell? (Aw g H)=some (.bool mt):=by
    have:=OS (noB (zs.take j)) g6;rw[OX]at this;rw[i,<-this];exact g1.o.cellB H (by rw[OR];exact g6)
   have T:=g1.o.frozen H
   have ge:Hq ((X||mt)=false↔(zs.take (j+1)).Nodup):=Hd (by
    rw[g5.o,OV,<-g4.o,Bool.or_eq_false_iff,i,ZA])
   have u:Hq (OwnB (wr.setCell (Aw g H) (.bool true)) w.heap.size (.slice (some (Av g)) n n) (metL n (noB (zs.take (j+1))))):=Hd (by
    have e:noB (zs.take (j+1))=noB (zs.take j)++[((H:Int),false)]:=by
     rw[g5.o];unfold noB;rw[XG];rfl
    rw[e,OU _ g6];exact g1.o.setB H true)
   have s:Hq (Bw w (wr.setCell (Aw g H) (.bool true))):=Hd (g0.o.setCell L _);clear i g4 g1 g0 g8 g5 gc g9 g2;cases X with
   | true=>
     go_wp2;go_roundw
     case rel=>exact⟨j+1,true,by omega,by go_num,rfl,Hd (by have:=ge.o;simpa using this),u,s,y⟩
     case measure=>simp[intOf];omega
   | false=>
     go_wp2;go_roundw
     case rel=>exact⟨j+1,mt,by omega,by go_num,rfl,Hd (by have:=ge.o;simpa using this),u,s,y⟩
     case measure=>simp[intOf];omega
  ·obtain rfl:j=zs.length:=by omega
   have gt:¬ (zs.length:Int)<(zs.length:Int):=by omega
   have g3:=g4.o;have g7:=g8.o;rw[XP]at g3 g7;cases X with
   | true=>
     have I:=Hd (g2.o 6 wr (by rw[Ec g7,Xu (λe=>by have:=g3.2 e;cases this)]) (by decide) g0.o);clear g3 g4 g1;go_wp2_with fail
     first|exact I.o|exact X2 (Yh rfl _ _ _) rfl I.o
   | false=>
     have D:=Hd (g9.o wr g0.o (by rw[Ec g7,Xx (g3.1 rfl)]));clear g3 g4 g1 g9 g2;go_wp2_with fail;refine D.o.mono ?_;rintro x w' ⟨v,e,rfl,p⟩;have I:=Hd p;clear p D;go_wp2_with fail
     first|exact I.o|exact X2 (Yh rfl _ _ _) rfl I.o
end
def StF (K:Law)(n room:Nat)(w0:Wd)(mb:Nat)(fs:List (Int×BF))(nx:Int)(ws0:List Ev)(rs:List (Value×BF))(W:Wd):Prop:=∃o m V,m.waits <:+ ws0/\SatE K n (λ_=>True) room w0 mb fs nx W o m V/\∀p∈rs,LawF W o p.1 (tabB n p.2)
section
variable {o:Own}{rs:List (Value×BF)}
def StF.go {R:Ending->Prop}(h:StF K n room w0 mb fs nx ws0 rs w)(Y:∀o m V,m.waits <:+ ws0->SatE K n (λ_=>True) room w0 mb fs nx w o m V->Calls prog f args w λx w'=>R x/\Goes K n (λ_=>True) room w0 mb fs' nx' (W2 (SufW ws0)) o w w'):
 Calls prog f args w λx w'=>R x/\StF K n room w0 mb fs' nx' ws0 rs w':=by
 obtain⟨o,m,V,h1,h2,h3⟩:=h;refine(Y o m V h1 h2).mono ?_;rintro x w' ⟨U,o',m',V',O,I,H⟩;exact⟨U,o',m',V',I,H,λp X=>(h3 p X).chg O⟩
def StF.of (H:m.waits <:+ ws0)(h:SatE K n (λ_=>True) room w0 mb fs nx w o m V)(I:∀p∈rs,LawF w o p.1 (tabB n p.2)):StF K n room w0 mb fs nx ws0 rs w:=⟨o,m,V,H,h,I⟩
end
def FxS (K:Law)(n room:Nat)(w0:Wd)(mb:Nat)(ws0:List Ev)(C:Nat->Prop)(o0:Own)(wb:Wd)(B:Wd->Own->Prop)(fs:List (Int×BF))(nx:Int)(W:Wd):Prop:=
 ∃o m V,ChgX C o0 o wb W/\m.waits <:+ ws0/\SatE K n (λ_=>True) room w0 mb fs nx W o m V/\B W o
def AX (B:Wd->Own->Prop):Prop:=∀W o W' o',B W o->ChgX NoB o o' W W'->B W' o'
def NoB.sub {s:Nat}:∀k,k<s->NoB k->C k:=λ_ _ e=>e.elim
section
variable {r:List (Int×BF)}{k l:Int}
def FxS.below (H:AX B)(h:FxS K n room w0 mb ws0 C o0 wb B fs nx W)(hb:Bw W w'):FxS K n room w0 mb ws0 C o0 wb B fs nx w':=by
 obtain⟨o,m,V,h1,h2,h3,I⟩:=h;exact⟨o,m,V,h1.trans (ChgX.of_below hb o NoB) NoB.sub,h2,h3.below hb,H _ _ _ _ I (ChgX.of_below hb o NoB)⟩
def FxS.new (Y:AX B)(h:FxS K n room w0 mb ws0 C o0 wb B fs nx W)(X:∀o m V,m.waits <:+ ws0->SatE K n (λ_=>True) room w0 mb fs nx W o m V->Calls prog f args W (NewF K n room w0 mb fs nx ws0 F o W)):
 Calls prog f args W λx w'=>x=.returned (.tuple #[Iv nx,Iv 0])/\FxS K n room w0 mb ws0 C o0 wb B (fs++[(nx,F)]) (nx+1) w':=by
 obtain⟨o,m,V,h1,h2,h3,Z⟩:=h;refine(X o m V h2 h3).mono ?_;rintro x w' ⟨U,o',m',V',H,O,I⟩;exact⟨U,o',m',V',h1.trans H NoB.sub,O,I,Y _ _ _ _ Z H⟩
def FxS.copy (U:AC K)(X:AX B)(h:FxS K n room w0 mb ws0 C o0 wb B fs nx W)(O:nx<549755813888)(hk:(k,F)∈fs):
 Cl 93 #[Pt mb,Iv k] W λx w'=>x=.returned (.tuple #[Iv nx,Iv 0])/\FxS K n room w0 mb ws0 C o0 wb B (fs++[(nx,F)]) (nx+1) w':=by
 refine h.new X λo m V I hs=>((M9 U hs O hk).mono ?_)
 rintro x w' ⟨H,o',m',hh⟩;exact⟨H,o',m',V,ChgX.of_chg hh.chg NoB,by rw[hh.waits];exact I,hh.sat⟩
def FxS.drop1 (X:AC K)(Y:AX B)(hb:B2 fs)(h:FxS K n room w0 mb ws0 C o0 wb B (fs++((k,F)::r)) nx W)(O:nx<549755813888){T:Wd}(U:T=W.alloc (.cells #[Iv k] 3)):
 Cl 74 #[Pt mb,.slice (some (Av W.heap.size)) 1 1] T λx w'=>x=.returned (Iv 0)/\FxS K n room w0 mb ws0 C o0 wb B (fs++r) nx w':=by
 subst U;have g1:∀o m V,SatE K n (λ_=>True) room w0 mb (fs++([(k,F)]++r)) nx W o m V->o W.heap.size=none:=λo m V hs=>hs.lt.none (Xs _)
 obtain⟨o,m,V,h1,h2,h3,Z⟩:=h;have g0:=Ag W (.cells #[Iv k] 3);refine(MJ (c:=1) (hs:=[(k,F)]) (r:=r) X (h3.below g0) hb O (a:=some (Av W.heap.size)) (E4 W [k] (by simp)) (λx hx=>by cases hx;exact h3.lt.none (Xs _))).mono ?_;rintro x w' ⟨I,o',m',hh⟩;have H:=(ChgX.of_below g0 o NoB).trans (ChgX.of_chg hh.chg NoB) NoB.sub;exact⟨I,o',m',V,h1.trans H NoB.sub,by rw[hh.waits];exact h2,hh.sat,Y _ _ _ _ Z H⟩
end
def stG (G:BF)(vs:List Nat)(ds:List Bool):Nat->BF
 | 0=>G
 | i+1=>cofF (stG G vs ds i) (vs.getD i 0) (ds.getD i false)
def numI (G:BF)(vs:List Nat)(ds:List Bool)(i:Nat):Nat:=(allL (vs.drop (i+1)) (cofF (stG G vs ds i) (vs.getD i 0) false)).length
def FT (h:i<vs.length):vs.drop i=vs.getD i 0::vs.drop (i+1):=by
 rw[Yc h];simp[List.getD,h]
def OY {G:BF}{vs:List Nat}(ds:List Bool)(h:Br vs G):∀i,i<=vs.length->Br (vs.drop i) (stG G vs ds i)
 | 0,_=>h
 | i+1,hi=>by
   have H:=OY ds h i (by omega);rw[FT (by omega)]at H;exact H.cof _
structure ChoC (Inv:Nat->Wd->Own->Prop)(C:Nat->Prop)(cg:Nat)(lop:Array Value)(ds:List Bool)(N:Nat->Nat)(g:Nat):Prop where
 enters:∀args w,(callFunc cg args).run prog w=.ok (.enter cg args) w
 set:∀j W o (i:Nat) (y:Bool),Inv j W o->Inv j (W.setCell (Aw g i) (.bool y)) o
 keep:∀j,AX (Inv j)
 no:∀j W o,Inv j W o->∀k,C k->o k=none
 call:∀j,j<ds.length->∀W o v,Ac o W->g<W.heap.size->Inv j W o->NatV W v (N j)->(∀q,v.ownBlock=some q->o q=none) ->
  Calls prog cg (#[Iv (j:Nat),v]++lop) W λx w'=>x=.returned (.bool (ds.getD j false))/\Wr C W w'/\Inv (j+1) w' o
structure DesB (Inv:Nat->Wd->Own->Prop)(base:Nat)(a:Option Addr)(zs:List Int)(g:Nat)(bs:List Bool)(j:Nat)(W:Wd)(o:Own):Prop where
 inv:Inv j W o
 z:Aj W a zs
 zo:zs≠[]->∀x,a=some x->o x.block=none
 l:OwnB W base (.slice (some (Av g)) bs.length bs.length) bs
 lo:o g=none
def Aj.sameN {a:Option Addr}(h:Aj W a zs)(hk:zs≠[]->∀x,a=some x->x.block<W.heap.size->W'.heap[x.block]?=W.heap[x.block]?):Aj W' a zs:=
 ⟨h.len,λk H=>by
  obtain⟨b,off,e,I⟩:=h.cells k H;exact⟨b,off,e,Co I (hk (λe=>by subst e;simp at H) (Aw b off) e (Ad (p:=(Aw b (off+k))) I))⟩⟩
def Aj.blk {x:Addr}(h:Aj W (some x) zs)(H:zs≠[]):x.block<W.heap.size:=by
 obtain⟨b,off,e,I⟩:=h.cells 0 (Z3.2 H);cases e;exact Ad I
section
variable {Inv:Nat->Wd->Own->Prop}{cg:Nat}{ds:List Bool}{N:Nat->Nat}{base:Nat}{a:Option Addr}
def DesB.keepB (U:ChoC Inv C cg lop ds N g)(j:Nat):AX (DesB Inv base a zs g bs j):=λW o W' o' h hx=>
 ⟨U.keep j _ _ _ _ h.inv hx,h.z.sameN λH x I O=>hx.block _ O (h.zo H x I) (λe=>e),λH x I=>by
  subst I;exact hx.none' (h.z.blk H) (h.zo H x rfl),
 h.l.same λk hk=>hx.block k (h.l.lt k hk).2 (by cases hk;exact h.lo) (λe=>e),hx.none' (h.l.lt g rfl).2 h.lo⟩
variable {B':Wd->Own->Prop}
def FxS.wrS {D:Nat->Prop}(h:FxS K n room w0 mb ws0 C o0 wb B fs nx W)(U:Wr D W W')(O:∀k,D k->C k\/wb.heap.size<=k)(H:∀k,D k->w0.heap.size<=k)(I:∀o,B W o->∀k,D k->o k=none)(Y:∀o,Ac o W->B W o->B' W' o):FxS K n room w0 mb ws0 C o0 wb B' fs nx W':=by
 obtain⟨o,m,V,h1,h2,h3,X⟩:=h;exact⟨o,m,V,h1.trans (ChgX.of_wr (C:=D) U o (λ_ _ q=>q)) (λk hk q=>(O k q).resolve_right (by omega)),h2,h3.other U (λk _ q=>⟨H k q,I o X k q⟩),Y o h3.lt X⟩
def FxS.askN {R:Ending->Value->Prop}(a:AX B)(h:FxS K n room w0 mb ws0 C o0 wb B fs nx W)(Z:∀o m V,SatE K n (λ_=>True) room w0 mb fs nx W o m V->Calls prog f args W λe w'=>∃v,R e v/\NatV w' v x/\AskN K n (λ_=>True) room w0 mb fs nx m o W w' v):
 Calls prog f args W λe w'=>∃v,R e v/\NatV w' v x/\FxS K n room w0 mb ws0 C o0 wb (λW o=>B W o/\∀q,v.ownBlock=some q->o q=none) fs nx w':=by
 obtain⟨o,m,V,h1,h2,h3,b⟩:=h;refine(Z o m V h3).mono ?_;rintro e w' ⟨v,Y,X,o',m',V',H,U,_,O,I⟩;exact⟨v,Y,X,o',m',V',h1.trans H NoB.sub,by rw[U];exact h2,O,a _ _ _ _ b H,I⟩
def FxS.cho (Y:ChoC Inv C cg lop ds N g)(d:j<ds.length)(h:FxS K n room w0 mb ws0 C o0 wb (λW o=>DesB Inv base a zs g bs j W o/\∀q,v.ownBlock=some q->o q=none) fs nx W)(c:NatV W v (N j))(X:∀k,C k->w0.heap.size<=k)(O:¬ C g)(U:zs≠[]->∀x,a=some x->¬ C x.block):
 Calls prog cg (#[Iv (j:Nat),v]++lop) W λx w'=>x=.returned (.bool (ds.getD j false))/\FxS K n room w0 mb ws0 C o0 wb (DesB Inv base a zs g bs (j+1)) fs nx w':=by
 obtain⟨o,m,V,h1,h2,h3,H,e⟩:=h;refine(Y.call j d W o v h3.lt (H.l.lt g rfl).2 H.inv c e).mono ?_;rintro x w' ⟨b,I,Z⟩;refine⟨b,o,m,V,h1.trans (ChgX.of_wr (C:=C) I o (λ_ _ q=>q)) (λ_ _ q=>q),h2,h3.other I (λk _ q=>⟨X k q,Y.no j W o H.inv k q⟩),Z,H.z.sameN λg0 x hx g1=>I.keep _ g1 (U g0 x hx),H.zo,H.l.same λk hk=>I.keep k (H.l.lt k hk).2 (by cases hk;exact O),H.lo⟩
def FxS.setL (X:ChoC Inv C cg lop ds N g)(h:FxS K n room w0 mb ws0 C o0 wb (DesB Inv base a zs g bs j) fs nx W){y:Bool}(H:wb.heap.size<=g)(hw0:w0.heap.size<=g)(U:zs≠[]->∀x,a=some x->x.block≠g):FxS K n room w0 mb ws0 C o0 wb (DesB Inv base a zs g (bs.set i y) j) fs nx (W.setCell (Aw g i) (.bool y)):=
 h.wrS (D:=(· = g)) ((Wr.refl (· = g) W).setCell (p:=Aw g i) (.inl rfl) (.bool y)) (λk e=>.inr (by subst e;exact H)) (λk e=>by subst e;exact hw0) (λo hb k e=>by subst e;exact hb.lo) λo _ hb=>
  ⟨X.set _ _ _ _ _ hb.inv,hb.z.sameN λI x hx O=>((Wr.refl (· = g) W).setCell (p:=Aw g i) (.inl rfl) (.bool y)).keep _ O (λe=>U I x hx e),hb.zo,by rw[XE];exact hb.l.setB i y,hb.lo⟩
def FxS.cof1 (g:AX B)(h:FxS As n room w0 mb ws0 C o0 wb B fs nx W)(H:n<=64)(d:(kf,F)∈fs){v:Nat}{y:Bool}(j:v<n)(b:nx<=549755813888)(a:fs.length*2^n+(2^n+(2^n-1)*2^n)<=room){T:Wd}(f:T=W.alloc (.cells #[Iv v,.bool y] 58)):
 Cl 73 #[Pt mb,Iv kf,.slice (some (Av W.heap.size)) 1 1] T λx w'=>x=.returned (.tuple #[Iv nx,Iv 0])/\FxS As n room w0 mb ws0 C o0 wb B (fs++[(nx,cofF F v y)]) (nx+1) w':=by
 subst f;have hb:=Ag W (.cells #[Iv v,.bool y] 58);have g0:=Xv W (.cells #[Iv v,.bool y] 58);obtain⟨o,m,V,h1,h2,h3,i⟩:=h;have g1:AY n [((v:Int),y)]=0:=by
  unfold AY;rw[Xx (by intro p I;simp at I;subst I;dsimp only;omega),Xx (by simp)]
 refine(Wy (ls:=[((v:Int),y)]) (h3.below hb) H d (c:=1) ⟨by simp,λk hk=>?_⟩ (λ_ x hx=>by cases hx;exact h3.lt.none (Xs _)) h2 b (λ_=>by simpa using a)).mono ?_
 ·obtain rfl:k=0:=by simpa using hk
  exact⟨W.heap.size,0,rfl,by rw[Xw _ _ 0 _ _ _ g0];rfl,by rw[Xw _ _ 1 _ _ _ g0];rfl⟩
 ·rintro x w' ⟨hx,_⟩;obtain⟨Z,o',m',V',Y,X,U⟩:=hx g1;have e:Dq [((v:Int),y)] F=cofF F v y:=by
   have:=Wp [] ((v:Int),y) F;rw[Yv]at this;rw[this]
   show cofF (Dq [] F) ((v:Int)).toNat y=_
   rw[YH];rfl
  have O:=(ChgX.of_below hb o NoB).trans Y NoB.sub;exact⟨Z,o',m',V',h1.trans O NoB.sub,X,by rw[<-e];exact U,g _ _ _ _ i O⟩
end
def CU (ds:List Bool)(L i:Nat):List Bool:=ds.take i++(List.replicate L false).drop i
def Ky {ds:List Bool}{L:Nat}(H:ds.length=L)(hi:i<=L):(CU ds L i).length=L:=by unfold CU;simp;omega
def WA {ds:List Bool}{L:Nat}(H:ds.length=L)(hi:i<L):(CU ds L i).set i (ds.getD i false)=CU ds L (i+1):=MO (by simp;omega) (by omega) (by simp[List.getD,show i<ds.length by omega])
def WB {ds:List Bool}{L:Nat}(H:ds.length=L)(hi:i<L):(CU ds L (i+1)).getD i false=ds.getD i false:=by
 unfold CU;rw[List.getD,XN (by simp;omega),List.getElem?_take_of_lt (by omega)];rfl
def WC {ds:List Bool}{L:Nat}(H:ds.length=L):CU ds L L=ds:=by unfold CU;rw[XK (by omega),YZ (by simp),Y5]
def WD {l:Nat}(h1:lo<=l)(h2:l<=c)(w:Wd):(Instr.sliceAt 22 (.slice (some (Aw b off)) l c) (some (Iv (lo:Nat))) none none).run prog w=.ok (.slice (some ⟨b,if c-lo=0 then off else off+lo,none⟩) (l-lo) (c-lo)) w:=by
 have e1:(0:Int)<=lo/\(lo:Int)<=l:=by omega
 have e2:(0:Int)<=l/\(l:Int)<=c:=by omega
 have H:(0:Int)<=c/\(c:Int)<=c:=by omega
 simp only[Instr.sliceAt,Instr.slice];go_simp
 by_cases e:c=lo
 . rw[Xx e,Xx (by omega)]
 . rw[Xu e,Xu (by omega)]
def WE {o:Oper}(H:o.guard=none)(s x:Operand)(O:o.op=.slice 22 s (some x) none none)
 {b off l c i:Nat} {z:Int} (hs:a.eval s=.slice (some (Aw b off)) l c) (hx:a.eval x=Iv z) (I:z=((i:Nat):Int)) (h1:i<=l) (h2:l<=c)
 (h:∀off2 c2,(c-i=0/\off2=off/\c2=0)\/(c-i≠0/\off2=off+i/\c2=c-i)->wpList prog ops Q rest (a.put o.dst (.slice (some (Aw b off2)) (l-i) c2)) w):
 wpList prog ops Q (o::rest) a w:=by
 subst I;have g0:=WD (b:=b) (off:=off) h1 h2 w;refine wpList_plain H λK g1=>?_
 have U:(execOp a.eval o).run prog w=.ok (.value (.slice (some ⟨b,if c-i=0 then off else off+i,none⟩) (l-i) (c-i))) w:=by
  unfold execOp;simp[O,hs,hx,g0]
 unfold Oper.wp;rw[U];refine g1 _ _ ?_
 by_cases e:c-i=0
 . rw[Xx e,e];exact h _ _ (.inl ⟨e,rfl,rfl⟩)
 . rw[Xu e];exact h _ _ (.inr ⟨e,rfl,rfl⟩)
def Aj.from (h:Aj W (some (Aw b off)) zs)(I:zs.length<=c):Aj W (some ⟨b,if c-lo=0 then off else off+lo,none⟩) (zs.drop lo):=
 ⟨by have:=h.len;rw[aS];omega,λk hk=>by
  rw[aS]at hk;obtain⟨O,off',e,H⟩:=h.cells (lo+k) (by omega);cases e;refine⟨b,off+lo,by rw[Xu (by omega)],?_⟩;rw[Zq,H];unfold at0;simp[List.getD,Zu]⟩
end Go.Proofs.YtnphndlbfeagbaaGreat
